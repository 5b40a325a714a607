/- Groups that bonds connect: plain facts. -/
import Derived.Test.YtihgaadadaekmaaGreatDoorDcC
import Derived.Test.YtihgaadadaekmaaGreatDoorDcB
set_option linter.unusedVariables false
set_option linter.unusedSimpArgs false
set_option maxRecDepth 100000
set_option maxHeartbeats 16000000
namespace Go.Proofs.YtihgaadadaekmaaGreatDoor.V
def dX (L:Nat->Nat) (b:PB):Nat->Nat:=fun k=>if L k=max (L b.a) (L b.b)then min (L b.a) (L b.b)else L k
def dH (bs:List PB):Nat->Nat:=bs.foldl dX id
theorem s5 (bs:List PB) (b:PB):dH (bs++[b])=dX (dH bs) b:=by simp[dH]
structure iS (L:Nat->Nat):Prop where
 le:∀k,L k<=k
 idem:∀k,L (L k)=L k
theorem iS.step {L:Nat->Nat} (h:iS L) (b:PB):iS (dX L b):=by
 have ha:=h.idem b.a
 have hb:=h.idem b.b
 refine⟨fun k=>?_,fun k=>?_⟩
 ·have:=h.le k
  unfold dX
  split<;>omega
 ·have hk:=h.idem k
  have hm:L (min (L b.a) (L b.b))=min (L b.a) (L b.b):=by
   rcases Nat.le_total (L b.a) (L b.b)with h1|h1
   ·rw[Nat.min_eq_left h1,ha]
   ·rw[Nat.min_eq_right h1,hb]
  unfold dX
  by_cases h1:L k=max (L b.a) (L b.b)
  ·rw[if_pos h1,hm];split<;>rfl
  ·rw[if_neg h1,hk,if_neg h1]
theorem s6:∀(bs:List PB) (L:Nat->Nat),iS L->iS (bs.foldl dX L)
 |[],_,h=>h
 |b::bs,L,h=>s6 bs _ (h.step b)
theorem re (bs:List PB):iS (dH bs):=s6 bs id ⟨fun _=>Nat.le_refl _,fun _=>rfl⟩
def leads (n:Nat) (L:Nat->Nat):List Nat:=(List.range n).filter fun i=>L i==i
def members (n:Nat) (L:Nat->Nat) (i:Nat):List Nat:=(List.range n).filter fun k=>L k==i
def eQ (n:Nat) (L:Nat->Nat):List (List Nat):=(leads n L).map (members n L)
def bm (L:Nat->Nat) (k:Nat):Nat:=(leads (L k) L).length
theorem fK (n:Nat) (L:Nat->Nat):leads (n+1) L=leads n L++if L n=n then[n]else[]:=by
 unfold leads
 rw[List.range_succ,List.filter_append]
 congr 1
 by_cases h:L n=n<;>simp[h]
theorem iF (n:Nat) (L:Nat->Nat) (i:Nat):members (n+1) L i=members n L i++if L n=i then[n]else[]:=by
 unfold members
 rw[List.range_succ,List.filter_append]
 congr 1
 by_cases h:L n=i<;>simp[h]
theorem lE {L:Nat->Nat} (h:iS L) {n i:Nat} (hn:n<=i):members n L i=[]:=by
 unfold members
 rw[List.filter_eq_nil_iff]
 intro k hk
 have:=h.le k
 have:=List.mem_range.1 hk
 simp;omega
theorem rf (n:Nat) (L:Nat->Nat):(leads n L).Nodup:=List.nodup_range.filter _
theorem vm {n:Nat} {L:Nat->Nat} {i:Nat}:i∈leads n L↔i<n/\L i=i:=by simp[leads]
theorem kr {n:Nat} {L:Nat->Nat} {i k:Nat}:k∈members n L i↔k<n/\L k=i:=by simp[members]
theorem DT {L:Nat->Nat} {m n:Nat} (h:m<=n):∃r,leads n L=leads m L++r:=by
 obtain⟨d,rfl⟩:=Nat.le.dest h
 clear h
 induction d with
 |zero=>exact⟨[],by simp⟩
 |succ d ih=>
  obtain⟨r,hr⟩:=ih
  exact⟨r++if L (m+d)=m+d then[m+d]else[],by rw[<-Nat.add_assoc,fK,hr,List.append_assoc]⟩
theorem nC {L:Nat->Nat} (h:iS L) {n k:Nat} (hk:k<n):(leads n L)[bm L k]? =some (L k):=by
 have h1:=h.le k
 obtain⟨r,hr⟩:=DT (L:=L) (show L k+1<=n by omega)
 rw[hr,fK,if_pos (h.idem k),List.append_assoc]
 unfold bm
 rw[List.getElem?_append_right (Nat.le_refl _),Nat.sub_self];rfl
theorem jq {L:Nat->Nat} (h:iS L) {n k:Nat} (hk:k<n):bm L k<(leads n L).length:=(List.getElem?_eq_some_iff.1 (nC h hk)).1
theorem qt {L:Nat->Nat} (h:iS L) {n k i:Nat} (hk:k<n) (hi:i<(leads n L).length):k∈members n L (leads n L)[i]↔bm L k=i:=by
 rw[kr]
 have h1:=nC h hk
 rw[List.getElem?_eq_getElem (jq h hk)]at h1
 injection h1 with h1
 constructor
 ·rintro⟨_,h2⟩
  rw[<-h1]at h2
  exact(List.getElem_inj (rf n L)).1 h2
 ·rintro rfl
  exact⟨hk,h1.symm⟩
def dc (L:Nat->Nat) (bs:List PB):List PB:=bs.filterMap fun b=>if bm L b.a=bm L b.b then none else some ⟨bm L b.a,bm L b.b,b.s⟩
def eG (L:Nat->Nat) (bs:List PB):List PB:=bs.filterMap fun b=>if bm L b.a=bm L b.b then none else some ⟨min (bm L b.a) (bm L b.b),max (bm L b.a) (bm L b.b),b.s⟩
theorem wV (L:Nat->Nat) (bs:List PB) (b:PB):dc L (bs++[b])=dc L bs++if bm L b.a=bm L b.b then[]else[⟨bm L b.a,bm L b.b,b.s⟩]:=by
 unfold dc
 rw[List.filterMap_append]
 congr 1
 by_cases h:bm L b.a=bm L b.b<;>simp[h]
theorem wW (L:Nat->Nat) (bs:List PB) (b:PB):eG L (bs++[b])=eG L bs++if bm L b.a=bm L b.b then[]else[⟨min (bm L b.a) (bm L b.b),max (bm L b.a) (bm L b.b),b.s⟩]:=by
 unfold eG
 rw[List.filterMap_append]
 congr 1
 by_cases h:bm L b.a=bm L b.b<;>simp[h]
theorem qe (S:Nat->Bool) (b:PB) (bs:List PB):ib S (b::bs)=(if S b.a=S b.b then 0 else b.s)+ib S bs:=by simp[ib]
theorem uM (S:Nat->Bool) (L:Nat->Nat):∀bs:List PB,ib S (eG L bs)=ib S (dc L bs)
 |[]=>rfl
 |b::bs=>by
  have ih:=uM S L bs
  unfold eG dc at ih ⊢
  rw[List.filterMap_cons,List.filterMap_cons]
  by_cases h:bm L b.a=bm L b.b
  ·simp only[h,if_true];exact ih
  ·simp only[h,if_false]
   rw[qe,qe,ih]
   congr 1
   simp only
   rcases Nat.le_total (bm L b.a) (bm L b.b)with h1|h1
   ·rw[Nat.min_eq_left h1,Nat.max_eq_right h1]
   ·rw[Nat.min_eq_right h1,Nat.max_eq_left h1]
    cases S (bm L b.a)<;>cases S (bm L b.b)<;>rfl
theorem Br {L:Nat->Nat} (h:iS L) {n:Nat} {bs:List PB} (hb:∀b∈bs,b.a<n/\b.b<n):∀b∈dc L bs,b.a<(leads n L).length/\b.b<(leads n L).length/\b.a≠b.b/\∃c∈bs,b.s=c.s:=by
 intro b hm
 unfold dc at hm
 obtain⟨c,hc,he⟩:=List.mem_filterMap.1 hm
 split at he
 ·cases he
 ·rename_i gF
  simp only[Option.some.injEq]at he
  subst he
  exact⟨jq h (hb c hc).1,jq h (hb c hc).2,gF,c,hc,rfl⟩
theorem Bt {L:Nat->Nat} (h:iS L) {n:Nat} {bs:List PB} (hb:∀b∈bs,b.a<n/\b.b<n):∀b∈eG L bs,b.a<(leads n L).length/\b.b<(leads n L).length/\b.a≠b.b/\∃c∈bs,b.s=c.s:=by
 intro b hm
 unfold eG at hm
 obtain⟨c,hc,he⟩:=List.mem_filterMap.1 hm
 split at he
 ·cases he
 ·rename_i gF
  simp only[Option.some.injEq]at he
  subst he
  have h1:=jq h (hb c hc).1
  have h2:=jq h (hb c hc).2
  refine⟨by simp only;omega,by simp only;omega,by simp only;omega,c,hc,rfl⟩
theorem lJ (L:Nat->Nat) (bs:List PB):(dc L bs).length<=bs.length/\(eG L bs).length<=bs.length:=⟨List.length_filterMap_le ..,List.length_filterMap_le ..⟩
theorem ja (n:Nat) (L:Nat->Nat):(leads n L).length<=n:=by
 have:=List.length_filter_le (fun i=>L i==i) (List.range n)
 simpa[leads]using this
def aD (t:Int) (bs:List PB):List PB:=bs.filter fun b=>decide (t<=b.s)
def nw (n:Nat) (bs:List PB) (t:Int):Prop:=
 (leads n (dH (aD t bs))).length<=64/\jJ (leads n (dH (aD t bs))).length (dc (dH (aD t bs)) bs) t
theorem AF {n:Nat} {L:Nat->Nat} {bs:List PB} {t:Int}:jJ n (eG L bs) t↔jJ n (dc L bs) t:=by
 unfold jJ
 constructor<;>intro h S h0 hy<;>have:=h S h0 hy<;>rw[uM]at *<;>exact this
end Go.Proofs.YtihgaadadaekmaaGreatDoor.V

namespace Go.Proofs.YtihgaadadaekmaaGreatDoor.V
open Go.RowKit
attribute [local irreducible] dO wpOps gO Call
attribute [local go_sem] aH fF eF fR fQ cu upd cm K.av cJ AV.cells AV.cell rowOf rowsOf part ld rowAt bI bU dG ei il bJ da eB fW eZ dq ep cY cX dU dV bP bd cQ bL cT cR ek er eo cP bS cZ ej bK aL cV cw ik br cI bQ aZ dz bl dI AV.undef bB bH dY eh dR ea cE eA eE cr ev eu cU cW List.getD_cons_zero List.getD_cons_succ List.getD_nil List.all_cons List.all_nil Bool.and_true Bool.true_and Bool.and_self Bool.not_true Bool.not_false Option.map_some Option.map_none Option.bind_some Option.bind_none List.length_cons List.length_nil List.take_succ_cons List.take_zero List.take_nil List.drop_succ_cons List.drop_zero List.drop_nil List.head?_cons List.map_cons List.map_nil List.getElem?_cons_zero List.getElem?_cons_succ List.cons_append List.nil_append List.append_nil List.length_map List.set_cons_zero List.set_cons_succ Nat.reduceMul eq_self Int.toNat_natCast Int.natCast_nonneg and_self true_and and_true decide_true decide_false Bool.false_eq_true Nat.zero_add Nat.add_zero List.contains_cons List.contains_nil Bool.or_false Bool.false_or beq_self_eq_true Nat.reduceBEq ne_eq not_true_eq_false not_false_eq_true Id.mk.injEq false_and and_false Nat.reduceLT Int.reduceLE Int.reduceLT Int.reduceToNat Int.reduceNeg Int.reduceAdd Nat.le_refl List.length_append beq_true beq_false Bool.not_eq_eq_eq_not or_false false_or dC ad aj aE bz cj aT bj aX bf cK bG
def ay (b:PB):List AV:=[.int .i64 b.a,.int .i64 b.b,.int .i64 b.s]
theorem J5:∀b:PB,(ay b).length=3/\(ay b).all AV.cell=true:=fun _=>⟨rfl,rfl⟩
theorem we (g:Rows) (n:Nat) (b:PB):bY g (n+1) (ay b)=some (ay b):=by simp[ay,ad,aj,aE]
theorem rW (g:Rows) (n:Nat) (b:PB):du g (n+1) (ay b)=some (ay b):=by simp[ay,aM,bh,dK]
theorem Fs:MP ay (fun c=>.agg (ay c)) 3 true:=⟨fun _=>rfl,fun _=>rfl,fun x g=>by simp only[ay,ad,aj,bj,aE,Option.map_some]⟩
def lp (s:aq) (l:List ak) (i:Nat) (d:Int):List PB:=
 if 0<=fx l (ez (bp l i).cz d)/\0<iw s (bp l i).bw d (bp l (fx l (ez (bp l i).cz d)).toNat).bw then
  [⟨i,(fx l (ez (bp l i).cz d)).toNat,iw s (bp l i).bw d (bp l (fx l (ez (bp l i).cz d)).toNat).bw⟩]else[]
def fo (s:aq) (l:List ak) (i m:Nat):List PB:=(List.range m).flatMap fun j:Nat=>lp s l i (1-(j:Int))
def fI (s:aq) (l:List ak) (n:Nat):List PB:=(List.range n).flatMap fun i=>fo s l i 2
def bW (s:aq) (l:List ak):List PB:=fI s l l.length
theorem nY (s:aq) (l:List ak) (i m:Nat):fo s l i (m+1)=fo s l i m++lp s l i (1-(m:Int)):=by simp[fo,List.range_succ]
theorem o7 (s:aq) (l:List ak) (n:Nat):fI s l (n+1)=fI s l n++fo s l n 2:=by simp[fI,List.range_succ]
theorem zT (s:aq) (l:List ak) (i:Nat) (d:Int):(lp s l i d).length<=1:=by unfold lp;split<;>simp
theorem o6 (s:aq) (l:List ak) (i m:Nat):(fo s l i m).length<=m:=by
 induction m with
 |zero=>simp[fo]
 |succ m ih=>rw[nY,List.length_append];have:=zT s l i (1-(m:Int));omega
theorem qM (s:aq) (l:List ak) (n:Nat):(fI s l n).length<=2*n:=by
 induction n with
 |zero=>simp[fI]
 |succ n ih=>rw[o7,List.length_append];have:=o6 s l n 2;omega
def sB:Id->Prop:=fun o=>o.site=127001000∨o.site=127012006
theorem AU (s:aq) (l:List ak) (hS:g8 s) (hA:nN s l):ai Tryz.prog 127 [.cH (aa s),.cH [.sl (l.map ah)]] (.sl ((bW s l).map ay)):=by
 refine ai.body dP rfl fun hl n0=>?_
 clear hl
 have hF:=hA.1
 have NF:=hF.EF
 (try((repeat(revert hN;revert N;apply Pn.out));refine wk @Nat.zero_add ?_;(repeat(refine Pn.mk ?_;intro N hN))))
 refine aJ (fun n env st=>∃k:Nat,n=(l.length)-k/\k<=(l.length)/\env 6=.int .i64 (k:Int)/\(lh ay 3 (env 5) st.get sB (fI s l k))) (l.length) ⟨0,ab,ab,sl @Nat.zero_add,⟨⟨127001000,n0+1⟩,.inl rfl,by simp only[go_sem, ↓reduceIte,Nat.reduceEqDiff,Nat.reduceAdd,Nat.reduceSub,Nat.reduceLeDiff,reduceCtorEq];rfl,by simp only[go_sem, ↓reduceIte,Nat.reduceEqDiff,Nat.reduceAdd,Nat.reduceSub,Nat.reduceLeDiff,reduceCtorEq];rfl⟩⟩ ?_
 rintro n_a env_a st_a ⟨k,rfl,ale,a6,l7⟩ dE
 have a0:=dE 0 (by kernel_rfl);have a1:=dE 1 (by kernel_rfl)
 simp only[go_sem, ↓reduceIte,Nat.reduceEqDiff,Nat.reduceAdd,Nat.reduceSub,Nat.reduceLeDiff,reduceCtorEq]at a0 a1
 clear dE
 by_cases hk:(k:Int)<(l.length:Int)
 ·have cl:∀{e:Env} {gg:Rows},(e 6=.int .i64 (IntKind.i64.wrap ((k:Int)+1)))->(lh ay 3 (e 5) gg sB (fI s l (k+1)))->∃m0,m0<(l.length)-k/\∃k:Nat,m0=(l.length)-k/\k<=(l.length)/\e 6=.int .i64 (k:Int)/\(lh ay 3 (e 5) gg sB (fI s l k)):=fun x1 x2=>⟨_,ab,k+1,rfl,ab,(by rw[x1,aA ab]),x2⟩
  have eO:k<l.length:=ab
  have eC:=ga eO
  have hul:=qM s l k
  (try((repeat(revert hN;revert N;apply Pn.out));refine wk (tw @a6 (tw @a0 (tw @a1 @hk))) ?_;(repeat(refine Pn.mk ?_;intro N hN))))
  refine aJ (fun n env st=>∃m:Nat,n=(2)-m/\m<=(2)/\env 7=(.int .i64 (1-(m:Int)))/\(lh ay 3 (env 5) st.get sB (fI s l k++fo s l k m))) (2) ⟨0,ab,ab,sl (tw @a6 (tw @a0 @a1)),by(simp only[go_sem, ↓reduceIte,Nat.reduceEqDiff,Nat.reduceAdd,Nat.reduceSub,Nat.reduceLeDiff,reduceCtorEq];exact l7.cast (by simp[fo]))⟩ ?_
  rintro n_b env_b st_b ⟨m,rfl,ble,b7,bI0⟩ bfr
  have b0:=bfr 0 (by kernel_rfl);have b1:=bfr 1 (by kernel_rfl);have b6:=bfr 6 (by kernel_rfl)
  simp only[go_sem, ↓reduceIte,Nat.reduceEqDiff,Nat.reduceAdd,Nat.reduceSub,Nat.reduceLeDiff,reduceCtorEq,a6,a0,a1]at b0 b1 b6
  clear bfr
  have O7:=o6 s l k m
  have kq:=nY s l k m
  by_cases hm:(m:Int)<2
  ·have iW:∀{e:Env} {gg:Rows},(e 7=(.int .i64 (1-((m+1):Int))))->(lh ay 3 (e 5) gg sB (fI s l k++fo s l k (m+1)))->∃m0,m0<(2)-m/\∃m:Nat,m0=(2)-m/\m<=(2)/\e 7=(.int .i64 (1-(m:Int)))/\(lh ay 3 (e 5) gg sB (fI s l k++fo s l k m)):=fun x1 x2=>⟨_,ab,m+1,rfl,ab,x1,x2⟩
   have kV:(0:Int)<=1-(m:Int):=ab
   have hd:fU (1-(m:Int)) 0 3=true:=jx ab
   have hw:IntKind.i64.wrap (1-(m:Int)-1)=1-((m:Int)+1):=by rw[aQ ab];omega
   have Ik:=uv l hF k (1-(m:Int)) eO hd
   unfold lp at kq
   have hT:=hA.2 _ (nh eO)
   generalize Dt:fx l (ez (bp l k).cz (1-(m:Int)))=ix at *
   by_cases hi:ix<0
   ·rw[if_neg ab,List.append_nil]at kq
    (repeat(first|((repeat(revert hN;revert N;apply Pn.out));refine wk (tw @b7 (tw @b0 (tw @b1 (tw @b6 (tw @kV (tw @hw @hi)))))) ?_;(repeat(refine Pn.mk ?_;intro N hN)))|((try apply Or.inl);refine⟨_,ai.x (Ik) (sd (tw @b7 (tw @b0 (tw @b1 (tw @b6 (tw @kV (tw @hw @hi))))))),?_⟩;refine hN _ _ ?_;clear hN N)))
    exact iW (sd (tw @b7 (tw @b0 (tw @b1 (tw @b6 @hw))))) (by(simp only[go_sem, ↓reduceIte,Nat.reduceEqDiff,Nat.reduceAdd,Nat.reduceSub,Nat.reduceLeDiff,reduceCtorEq];exact bI0.cast (by rw[kq])))
   ·have EI:0<=ix:=ab
    have K1:=nB (l:=l) (p:=ez (bp l k).cz (1-(m:Int))) ab
    rw[Dt]at K1
    have nA:=ga K1.1
    have r4:=DM s hS (bp l k).bw (1-(m:Int)) (bp l ix.toNat).bw hT (hA.2 _ (nh K1.1)) hd
    generalize O4:iw s (bp l k).bw (1-(m:Int)) (bp l ix.toNat).bw=bv at *
    by_cases hb:0<bv
    ·rw[if_pos ⟨EI,hb⟩]at kq
     (repeat(first|((repeat(revert hN;revert N;apply Pn.out));refine wa (tw @b7 (tw @b0 (tw @b1 (tw @b6 (tw @kV (tw @hw (tw @hi (tw @EI (tw @eC (tw @nA (tw @hb @ah.eq_1))))))))))) ?_;(repeat(refine Pn.mk ?_;intro N hN)))|((try apply Or.inl);refine⟨_,ai.x (Ik) (sd (tw @b7 (tw @b0 (tw @b1 (tw @b6 (tw @kV (tw @hw (tw @hi (tw @EI (tw @eC (tw @nA (tw @hb @ah.eq_1)))))))))))),?_⟩;refine hN _ _ ?_;clear hN N)|((try apply Or.inl);refine⟨_,ai.x (r4) (sd (tw @b7 (tw @b0 (tw @b1 (tw @b6 (tw @kV (tw @hw (tw @hi (tw @EI (tw @eC (tw @nA (tw @hb @ah.eq_1)))))))))))),?_⟩;refine hN _ _ ?_;clear hN N)))
     refine LV (enc:=ay) (S:=sB) (L:=fI s l k++fo s l k m) (xv:=env_b 5) [⟨k,ix.toNat,bv⟩] rfl rfl (sd @Nat.zero_add) (bI0.frame fun o ho=>by rcases ho with ho|ho<;>simp only[go_sem, ↓reduceIte,Nat.reduceEqDiff,Nat.reduceAdd,Nat.reduceSub,Nat.reduceLeDiff,reduceCtorEq,wY ho]) (sd (tw @ay.eq_1 (Int.toNat_of_nonneg EI))) J5 (.inr rfl) (by simp only[dI,List.length_append,List.length_cons,List.length_nil];omega) fun v g' hO lZ=>?_
     rw[List.append_assoc,<-kq]at hO
     clear lZ
     (try((repeat(revert hN;revert N;apply Pn.out));refine wk (tw @b7 (tw @b0 (tw @b1 (tw @b6 @hw)))) ?_;(repeat(refine Pn.mk ?_;intro N hN))))
     exact iW (sd (tw @b7 (tw @b0 (tw @b1 (tw @b6 @hw))))) (by(simp only[go_sem, ↓reduceIte,Nat.reduceEqDiff,Nat.reduceAdd,Nat.reduceSub,Nat.reduceLeDiff,reduceCtorEq];exact hO))
    ·rw[if_neg fun h=>hb h.2,List.append_nil]at kq
     (repeat(first|((repeat(revert hN;revert N;apply Pn.out));refine wk (tw @b7 (tw @b0 (tw @b1 (tw @b6 (tw @kV (tw @hw (tw @hi (tw @EI (tw @eC (tw @nA (tw @hb @ah.eq_1))))))))))) ?_;(repeat(refine Pn.mk ?_;intro N hN)))|((try apply Or.inl);refine⟨_,ai.x (Ik) (sd (tw @b7 (tw @b0 (tw @b1 (tw @b6 (tw @kV (tw @hw (tw @hi (tw @EI (tw @eC (tw @nA (tw @hb @ah.eq_1)))))))))))),?_⟩;refine hN _ _ ?_;clear hN N)|((try apply Or.inl);refine⟨_,ai.x (r4) (sd (tw @b7 (tw @b0 (tw @b1 (tw @b6 (tw @kV (tw @hw (tw @hi (tw @EI (tw @eC (tw @nA (tw @hb @ah.eq_1)))))))))))),?_⟩;refine hN _ _ ?_;clear hN N)))
     exact iW (sd (tw @b7 (tw @b0 (tw @b1 (tw @b6 @hw))))) (by(simp only[go_sem, ↓reduceIte,Nat.reduceEqDiff,Nat.reduceAdd,Nat.reduceSub,Nat.reduceLeDiff,reduceCtorEq];exact bI0.cast (by rw[kq])))
  ·have JI:m=2:=ab
   subst JI
   have dD:¬(0:Int)<=1-((2:Nat):Int):=ab
   (try((repeat(revert hN;revert N;apply Pn.out));refine wk (tw @b7 (tw @b0 (tw @b1 (tw @b6 @dD)))) ?_;(repeat(refine Pn.mk ?_;intro N hN))))
   exact cl (sd (tw @a6 (tw @a0 (tw @a1 (tw @b7 (tw @b0 (tw @b1 @b6))))))) (by(simp only[go_sem, ↓reduceIte,Nat.reduceEqDiff,Nat.reduceAdd,Nat.reduceSub,Nat.reduceLeDiff,reduceCtorEq];exact bI0.cast (by rw[o7])))
 ·have kK:k=l.length:=ab
  (try((repeat(revert hN;revert N;apply Pn.out));refine wk (tw @a6 (tw @a0 (tw @a1 @hk))) ?_;(repeat(refine Pn.mk ?_;intro N hN))))
  exact tq (.inl rfl) (by simp only[go_sem, ↓reduceIte,Nat.reduceEqDiff,Nat.reduceAdd,Nat.reduceSub,Nat.reduceLeDiff,reduceCtorEq];rfl) (by rw[kK]at l7;exact l7.fh fun b=>rW _ _ b)
theorem yS (a b:Nat):ai Tryz.prog 146 [.int .i64 a,.int .i64 b] (.int .i64 (min a b:Nat)):=by
 refine ai.body dP rfl fun hl n0=>?_
 clear hl
 by_cases h:(a:Int)<(b:Int)
 ·(try((repeat(revert hN;revert N;apply Pn.out));refine wk @h ?_;(repeat(refine Pn.mk ?_;intro N hN))))
  exact bq (b:=(a:Int)) (.inl rfl) (sd @Nat.zero_add) ab
 ·(try((repeat(revert hN;revert N;apply Pn.out));refine wk @h ?_;(repeat(refine Pn.mk ?_;intro N hN))))
  exact bq (b:=(b:Int)) (.inl rfl) (sd @Nat.zero_add) ab
theorem yR (a b:Nat):ai Tryz.prog 147 [.int .i64 a,.int .i64 b] (.int .i64 (max a b:Nat)):=by
 refine ai.body dP rfl fun hl n0=>?_
 clear hl
 by_cases h:(b:Int)<(a:Int)
 ·(try((repeat(revert hN;revert N;apply Pn.out));refine wk @h ?_;(repeat(refine Pn.mk ?_;intro N hN))))
  exact bq (b:=(a:Int)) (.inl rfl) (sd @Nat.zero_add) ab
 ·(try((repeat(revert hN;revert N;apply Pn.out));refine wk @h ?_;(repeat(refine Pn.mk ?_;intro N hN))))
  exact bq (b:=(b:Int)) (.inl rfl) (sd @Nat.zero_add) ab
def dj (f:Nat->Nat) (n:Nat):List (List AV):=(List.range n).map fun i=>eN (f i)
theorem ft (f:Nat->Nat) (n:Nat):(dj f n).length=n:=by simp[dj]
theorem eM {f:Nat->Nat} {n i:Nat} (h:i<n):(dj f n)[i]? =some (eN (f i)):=by simp[dj,h]
theorem fV {f g:Nat->Nat} {n:Nat} (h:∀i,i<n->f i=g i):dj f n=dj g n:=List.map_congr_left fun i hi=>by rw[h i (List.mem_range.1 hi)]
theorem nL {f g:Nat->Nat} {n k v:Nat} (hk:k<n) (hv:g k=v) (h:∀i,i<n->i≠k->g i=f i):(dj f n).set k (eN v)=dj g n:=by
 refine List.ext_getElem? fun i=>?_
 rw[List.getElem?_set]
 by_cases hi:k=i
 ·subst hi
  rw[if_pos rfl,ft,if_pos hk,eM hk,hv]
 ·rw[if_neg hi]
  by_cases fb:i<n
  ·rw[eM fb,eM fb,h i fb (fun h=>hi h.symm)]
  ·rw[List.getElem?_eq_none (by rw[ft];omega),List.getElem?_eq_none (by rw[ft];omega)]
theorem yT (cnt:Nat) (hn:cnt<=1048576) (bs:List PB) (hb:∀b∈bs,b.a<cnt/\b.b<cnt) (oU:bs.length<=1048576):ai Tryz.prog 145 [.int .i64 cnt,.sl (bs.map ay)] (.sl ((eQ cnt (dH bs)).map xl)):=by
 refine ai.body dP rfl fun hl n0=>?_
 clear hl
 (try((repeat(revert hN;revert N;apply Pn.out));refine wk @Nat.zero_add ?_;(repeat(refine Pn.mk ?_;intro N hN))))
 refine aJ (fun n env st=>∃k:Nat,n=(cnt)-k/\k<=(cnt)/\env 6=.int .i64 (k:Int)/\(∃o:Id,env 5=.own o 0 k/\st.get o=some ⟨true,1,dj id k⟩/\o.bZ<st.next)) (cnt) ⟨0,ab,ab,sl @Nat.zero_add,⟨⟨145001000,n0+1⟩,sd @Nat.zero_add,by simp only[go_sem, ↓reduceIte,Nat.reduceEqDiff,Nat.reduceAdd,Nat.reduceSub,Nat.reduceLeDiff,reduceCtorEq];rfl,bD⟩⟩ ?_
 rintro n_a env_a st_a ⟨k,rfl,ale,a6,l7⟩ dE
 have a0:=dE 0 (by kernel_rfl);have a1:=dE 1 (by kernel_rfl)
 simp only[go_sem, ↓reduceIte,Nat.reduceEqDiff,Nat.reduceAdd,Nat.reduceSub,Nat.reduceLeDiff,reduceCtorEq]at a0 a1
 clear dE
 obtain⟨o,a5,ag,qY⟩:=l7
 have tl:=ft id k
 have mu:=eK qY
 by_cases hk:(k:Int)<(cnt:Int)
 ·have cl:∀{e:Env} {gg:Rows} {nx:Nat},(e 6=.int .i64 (IntKind.i64.wrap ((k:Int)+1)))->(∃o:Id,e 5=.own o 0 (k+1)/\gg o=some ⟨true,1,dj id (k+1)⟩/\o.bZ<nx)->∃m0,m0<(cnt)-k/\∃k:Nat,m0=(cnt)-k/\k<=(cnt)/\e 6=.int .i64 (k:Int)/\(∃o:Id,e 5=.own o 0 k/\gg o=some ⟨true,1,dj id k⟩/\o.bZ<nx):=fun x1 x2=>⟨_,ab,k+1,rfl,ab,(by rw[x1,aA ab]),x2⟩
  have eO:k<cnt:=ab
  have e1:k+1<=16777216:=ab
  have qn:dj id k++[[.int .i64 (k:Int)]]=dj id (k+1):=by simp[dj,List.range_succ,eN]
  (try((repeat(revert hN;revert N;apply Pn.out));refine wk (tw @a6 (tw @a0 (tw @a1 (tw @a5 (tw @ag (tw @mu (tw @hk (tw @tl (tw @e1 @qn))))))))) ?_;(repeat(refine Pn.mk ?_;intro N hN))))
  exact cl (sd (tw @a6 (tw @a0 @a1))) (⟨⟨145005003,st_a.next+1⟩,sd @Nat.zero_add,sd @qn,bD⟩)
 have kK:k=cnt:=ab
 subst kK
 have QL:st_a.get o=some ⟨true,1,dj (dH (bs.take 0)) k⟩:=ag
 clear ag
 (try((repeat(revert hN;revert N;apply Pn.out));refine wk (tw @a6 (tw @a0 (tw @a1 @hk))) ?_;(repeat(refine Pn.mk ?_;intro N hN))))
 refine aJ (fun n env st=>∃j:Nat,n=(bs.length)-j/\j<=(bs.length)/\env 7=.int .i64 (j:Int)/\st.get o=some ⟨true,1,dj (dH (bs.take j)) k⟩/\(o.bZ<st.next)) (bs.length) ⟨0,ab,ab,sl (tw @a6 (tw @a0 (tw @a1 (tw @a5 @QL)))),sl (tw @a6 (tw @a0 (tw @a1 (tw @a5 @QL)))),bD⟩ ?_
 rintro n_b env_b st_b ⟨j,rfl,ble,b7,bg0,bI0⟩ bfr
 have b0:=bfr 0 (by kernel_rfl);have b1:=bfr 1 (by kernel_rfl);have b5:=bfr 5 (by kernel_rfl)
 simp only[go_sem, ↓reduceIte,Nat.reduceEqDiff,Nat.reduceAdd,Nat.reduceSub,Nat.reduceLeDiff,reduceCtorEq,a6,a0,a1,a5,QL]at b0 b1 b5
 clear bfr
 by_cases hj:(j:Int)<(bs.length:Int)
 ·have iW:∀{e:Env} {gg:Rows} {nx:Nat},(e 7=.int .i64 (IntKind.i64.wrap ((j:Int)+1)))->(gg o=some ⟨true,1,dj (dH (bs.take (j+1))) k⟩)->(o.bZ<nx)->∃m0,m0<(bs.length)-j/\∃j:Nat,m0=(bs.length)-j/\j<=(bs.length)/\e 7=.int .i64 (j:Int)/\gg o=some ⟨true,1,dj (dH (bs.take j)) k⟩/\(o.bZ<nx):=fun x1 x2 x3=>⟨_,ab,j+1,rfl,ab,(by rw[x1,aA ab]),x2,x3⟩
  have im:j<bs.length:=ab
  have EG:(bs.map ay)[j]? =some (ay bs[j]):=by simp[im]
  have Jz:=hb _ (List.getElem_mem im)
  have oH:bs.take (j+1)=bs.take j++[bs[j]]:=List.take_succ_eq_append_getElem im
  have kq:dH (bs.take (j+1))=dX (dH (bs.take j)) bs[j]:=by rw[oH,s5]
  generalize dH (bs.take j)=L at *
  generalize bs[j]=b at *
  have hA:=eM (f:=L) Jz.1
  have hB:=eM (f:=L) Jz.2
  have OY:=yS (L b.a) (L b.b)
  have OZ:=yR (L b.a) (L b.b)
  have tl:=ft L k
  have fH:(b.a:Int)<(k:Int):=ab
  have fe:(b.b:Int)<(k:Int):=ab
  (try((repeat(revert hN;revert N;apply Pn.out));refine wk (tw @b7 (tw @bg0 (tw @b0 (tw @b1 (tw @b5 (tw @hj (tw @EG (tw @ay.eq_1 (tw @hA (tw @hB (tw @fH (tw @fe (tw @tl @eN.eq_1))))))))))))) ?_;(repeat(refine Pn.mk ?_;intro N hN))))
  refine aJ (fun n env st=>∃i:Nat,n=(k)-i/\i<=(k)/\env 10=.int .i64 (i:Int)/\st.get o=some ⟨true,1,dj (fun x=>if x<i then dX L b x else L x) k⟩/\(o.bZ<st.next)) (k) ⟨0,ab,ab,sl (tw @b7 (tw @bg0 (tw @b0 (tw @b1 (tw @b5 @Nat.not_lt_zero))))),sl (tw @b7 (tw @bg0 (tw @b0 (tw @b1 (tw @b5 @Nat.not_lt_zero))))),bD⟩ ?_
  rintro n_c env_c st_c ⟨i,rfl,cle,iO,cg0,cI0⟩ cfr
  have c0:=cfr 0 (by kernel_rfl);have c1:=cfr 1 (by kernel_rfl);have c5:=cfr 5 (by kernel_rfl);have c7:=cfr 7 (by kernel_rfl);have c8:=cfr 8 (by kernel_rfl);have c9:=cfr 9 (by kernel_rfl)
  simp only[go_sem, ↓reduceIte,Nat.reduceEqDiff,Nat.reduceAdd,Nat.reduceSub,Nat.reduceLeDiff,reduceCtorEq,b7,bg0,b0,b1,b5,Nat.not_lt_zero]at c0 c1 c5 c7 c8 c9
  clear cfr
  have hC:=eM (f:=fun x=>if x<i then dX L b x else L x) (n:=k) (i:=i)
  have tc:=ft (fun x=>if x<i then dX L b x else L x) k
  by_cases hi:(i:Int)<(k:Int)
  ·have gm:∀{e:Env} {gg:Rows} {nx:Nat},(e 10=.int .i64 (IntKind.i64.wrap ((i:Int)+1)))->(gg o=some ⟨true,1,dj (fun x=>if x<(i+1)then dX L b x else L x) k⟩)->(o.bZ<nx)->∃m0,m0<(k)-i/\∃i:Nat,m0=(k)-i/\i<=(k)/\e 10=.int .i64 (i:Int)/\gg o=some ⟨true,1,dj (fun x=>if x<i then dX L b x else L x) k⟩/\(o.bZ<nx):=fun x1 x2 x3=>⟨_,ab,i+1,rfl,ab,(by rw[x1,aA ab]),x2,x3⟩
   have fb:i<k:=ab
   replace hC:=hC fb
   rw[if_neg (Nat.lt_irrefl i)]at hC
   by_cases he:L i=max (L b.a) (L b.b)
   ·have tQ:decide ((L i:Int)=((max (L b.a) (L b.b):Nat):Int))=true:=decide_eq_true (by rw[he])
    have dQ:(dj (fun x=>if x<i then dX L b x else L x) k).set i (eN (min (L b.a) (L b.b)))=dj (fun x=>if x<i+1 then dX L b x else L x) k:=nL fb (by rw[if_pos ab,dX,if_pos he]) fun x hx zD=>by
     by_cases h:x<i
     ·rw[if_pos h,if_pos ab]
     ·rw[if_neg h,if_neg ab]
    rw[eN]at dQ hC
    (repeat(first|((repeat(revert hN;revert N;apply Pn.out));refine wk (tw @iO (tw @cg0 (tw @c0 (tw @c1 (tw @c5 (tw @c7 (tw @c8 (tw @c9 (tw @hi (tw @hC (tw @tc (tw @tQ @dQ)))))))))))) ?_;(repeat(refine Pn.mk ?_;intro N hN)))|((try apply Or.inl);refine⟨_,ai.x (OY) (sd (tw @iO (tw @cg0 (tw @c0 (tw @c1 (tw @c5 (tw @c7 (tw @c8 (tw @c9 (tw @hi (tw @hC (tw @tc (tw @tQ @dQ))))))))))))),?_⟩;refine hN _ _ ?_;clear hN N)|((try apply Or.inl);refine⟨_,ai.x (OZ) (sd (tw @iO (tw @cg0 (tw @c0 (tw @c1 (tw @c5 (tw @c7 (tw @c8 (tw @c9 (tw @hi (tw @hC (tw @tc (tw @tQ @dQ))))))))))))),?_⟩;refine hN _ _ ?_;clear hN N)))
    refine gm ?_ ?_ bD
    all_goals simp only[go_sem, ↓reduceIte,Nat.reduceEqDiff,Nat.reduceAdd,Nat.reduceSub,Nat.reduceLeDiff,reduceCtorEq,iO,cg0,c0,c1,c5,c7,c8,c9]
   ·have tQ:decide ((L i:Int)=((max (L b.a) (L b.b):Nat):Int))=false:=decide_eq_false fun h=>he ab
    have kW:dj (fun x=>if x<i then dX L b x else L x) k=dj (fun x=>if x<i+1 then dX L b x else L x) k:=fV fun x hx=>by
     by_cases h:x<i
     ·rw[if_pos h,if_pos ab]
     ·by_cases zD:x=i
      ·subst zD;rw[if_neg h,if_pos ab,dX,if_neg he]
      ·rw[if_neg h,if_neg ab]
    rw[eN]at hC
    (repeat(first|((repeat(revert hN;revert N;apply Pn.out));refine wk (tw @iO (tw @cg0 (tw @c0 (tw @c1 (tw @c5 (tw @c7 (tw @c8 (tw @c9 (tw @hi (tw @hC (tw @tc @tQ))))))))))) ?_;(repeat(refine Pn.mk ?_;intro N hN)))|((try apply Or.inl);refine⟨_,ai.x (OY) (sd (tw @iO (tw @cg0 (tw @c0 (tw @c1 (tw @c5 (tw @c7 (tw @c8 (tw @c9 (tw @hi (tw @hC (tw @tc @tQ)))))))))))),?_⟩;refine hN _ _ ?_;clear hN N)|((try apply Or.inl);refine⟨_,ai.x (OZ) (sd (tw @iO (tw @cg0 (tw @c0 (tw @c1 (tw @c5 (tw @c7 (tw @c8 (tw @c9 (tw @hi (tw @hC (tw @tc @tQ)))))))))))),?_⟩;refine hN _ _ ?_;clear hN N)))
    rw[kW]at cg0
    refine gm ?_ ?_ bD
    all_goals simp only[go_sem, ↓reduceIte,Nat.reduceEqDiff,Nat.reduceAdd,Nat.reduceSub,Nat.reduceLeDiff,reduceCtorEq,iO,cg0,c0,c1,c5,c7,c8,c9]
  ·have uW:i=k:=ab
   subst uW
   have cN:dj (fun x=>if x<i then dX L b x else L x) i=dj (dX L b) i:=fV fun x hx=>if_pos hx
   rw[cN]at cg0
   rw[<-kq]at cg0
   (try((repeat(revert hN;revert N;apply Pn.out));refine wk (tw @iO (tw @cg0 (tw @c0 (tw @c1 (tw @c5 (tw @c7 (tw @c8 (tw @c9 (tw @hi @tc))))))))) ?_;(repeat(refine Pn.mk ?_;intro N hN))))
   refine iW ?_ ?_ bD
   all_goals simp only[go_sem, ↓reduceIte,Nat.reduceEqDiff,Nat.reduceAdd,Nat.reduceSub,Nat.reduceLeDiff,reduceCtorEq,b7,bg0,b0,b1,b5,iO,cg0,c0,c1,c5,c7,c8,c9]
 have gn:j=bs.length:=ab
 subst gn
 rw[List.take_length]at bg0
 have hL:=re bs
 generalize dH bs=L at *
 have tl:=ft L k
 (try((repeat(revert hN;revert N;apply Pn.out));refine wk (tw @b7 (tw @bg0 (tw @b0 (tw @b1 (tw @b5 @hj))))) ?_;(repeat(refine Pn.mk ?_;intro N hN))))
 have QM:o.bZ<st_b.next:=bI0
 refine aJ (fun n env st=>∃i:Nat,n=(k)-i/\i<=(k)/\env 12=.int .i64 (i:Int)/\st.get o=some ⟨true,1,dj L k⟩/\(∃oo rows ids,env 11=.own oo 0 rows.length/\st.get oo=some ⟨true,1,rows⟩/\dM Mf st.get rows ((leads i L).map (members k L)) ids/\(∀x∈oo::ids,st_b.next<=x.bZ/\x.bZ<st.next)/\st_b.next<=st.next/\oo∉ids)) (k) ⟨0,ab,ab,sl (tw @b7 (tw @bg0 (tw @b0 (tw @b1 (tw @b5 (eK QM)))))),sl (tw @b7 (tw @bg0 (tw @b0 (tw @b1 (tw @b5 (eK QM)))))),⟨⟨145016000,st_b.next+1⟩,[],[],by(simp only[go_sem, ↓reduceIte,Nat.reduceEqDiff,Nat.reduceAdd,Nat.reduceSub,Nat.reduceLeDiff,reduceCtorEq])<;>rfl,sd @Nat.zero_add,.nil,fun x hx=>by rw[List.mem_singleton.1 hx];(try dsimp only);omega,bD,by simp⟩⟩ ?_
 rintro n_d env_d st_d ⟨i,rfl,dle,d12,dg0,dI0⟩ dfr
 have d0:=dfr 0 (by kernel_rfl);have d5:=dfr 5 (by kernel_rfl)
 simp only[go_sem, ↓reduceIte,Nat.reduceEqDiff,Nat.reduceAdd,Nat.reduceSub,Nat.reduceLeDiff,reduceCtorEq,b7,bg0,b0,b1,b5,eK QM]at d0 d5
 clear dfr
 obtain⟨oo,rows,ids,d11,dg,hR,ml,hle,FU⟩:=dI0
 have qn:=fK i L
 have pZ:=hR.len
 by_cases hi:(i:Int)<(k:Int)
 ·have rh:∀{e:Env} {gg:Rows} {nx:Nat},(e 12=.int .i64 (IntKind.i64.wrap ((i:Int)+1)))->(gg o=some ⟨true,1,dj L k⟩)->(∃oo rows ids,e 11=.own oo 0 rows.length/\gg oo=some ⟨true,1,rows⟩/\dM Mf gg rows ((leads (i+1) L).map (members k L)) ids/\(∀x∈oo::ids,st_b.next<=x.bZ/\x.bZ<nx)/\st_b.next<=nx/\oo∉ids)->∃m0,m0<(k)-i/\∃i:Nat,m0=(k)-i/\i<=(k)/\e 12=.int .i64 (i:Int)/\gg o=some ⟨true,1,dj L k⟩/\(∃oo rows ids,e 11=.own oo 0 rows.length/\gg oo=some ⟨true,1,rows⟩/\dM Mf gg rows ((leads i L).map (members k L)) ids/\(∀x∈oo::ids,st_b.next<=x.bZ/\x.bZ<nx)/\st_b.next<=nx/\oo∉ids):=fun x1 x2 x3=>⟨_,ab,i+1,rfl,ab,(by rw[x1,aA ab]),x2,x3⟩
  have fb:i<k:=ab
  have hC:=eM (f:=L) fb
  have nV:=eK (i:=o) (n:=st_d.next) ab
  have N6:=eK (i:=oo) (n:=st_d.next) (ml oo (by simp)).2
  by_cases he:L i=i
  ·rw[if_pos he]at qn
   have tQ:decide ((L i:Int)=(i:Int))=true:=decide_eq_true (by rw[he])
   rw[eN]at hC
   (try((repeat(revert hN;revert N;apply Pn.out));refine wk (tw @d12 (tw @dg0 (tw @d0 (tw @d5 (tw @d11 (tw @dg (tw @hi (tw @hC (tw @tl (tw @tQ (tw @nV @N6))))))))))) ?_;(repeat(refine Pn.mk ?_;intro N hN))))
   refine aJ (fun n env st=>∃m:Nat,n=((k-i))-m/\m<=((k-i))/\env 14=(.int .i64 ((i+m:Nat):Int))/\(∃pp:Id,env 13=.own pp 0 (members (i+m) L i).length/\st.get pp=some ⟨true,1,(members (i+m) L i).map eN⟩/\st_d.next<=pp.bZ/\pp.bZ<st.next/\(∀x:Id,x.bZ<st_d.next->st.get x=st_d.get x)/\st_d.next<=st.next)) ((k-i)) ⟨0,ab,ab,sl (tw @d12 (tw @dg0 (tw @d0 (tw @d5 @d11)))),⟨⟨145021000,st_d.next+1+1⟩,by rw[show members (i+0) L i=[]from lE hL (Nat.le_refl i)];(simp only[go_sem, ↓reduceIte,Nat.reduceEqDiff,Nat.reduceAdd,Nat.reduceSub,Nat.reduceLeDiff,reduceCtorEq])<;>rfl,by rw[show members (i+0) L i=[]from lE hL (Nat.le_refl i)];(simp only[go_sem, ↓reduceIte,Nat.reduceEqDiff,Nat.reduceAdd,Nat.reduceSub,Nat.reduceLeDiff,reduceCtorEq])<;>rfl,bD,bD,fun x hx=>sd (eK hx),bD⟩⟩ ?_
   rintro n_f env_f st_f ⟨m,rfl,fle,f14,fI0⟩ ffr
   have f0:=ffr 0 (by kernel_rfl);have f5:=ffr 5 (by kernel_rfl);have f11:=ffr 11 (by kernel_rfl);have f12:=ffr 12 (by kernel_rfl)
   simp only[go_sem, ↓reduceIte,Nat.reduceEqDiff,Nat.reduceAdd,Nat.reduceSub,Nat.reduceLeDiff,reduceCtorEq,d12,dg0,d0,d5,d11]at f0 f5 f11 f12
   clear ffr
   obtain⟨pp,f13,fg,K6,JK,lZ,uk⟩:=fI0
   have ug:st_f.get o=some ⟨true,1,dj L k⟩:=(lZ o ab).trans dg0
   have Qw:st_f.get oo=some ⟨true,1,rows⟩:=(lZ oo (ml oo (by simp)).2).trans dg
   have xt:=eK JK
   have yM:=eK (i:=o) (n:=st_f.next) ab
   have N7:=eK (i:=oo) (n:=st_f.next) (by have:=(ml oo (by simp)).2;omega)
   have K3:members (i+(m+1)) L i=members (i+m) L i++if L (i+m)=i then[i+m]else[]:=iF (i+m) L i
   have QE:(members (i+m) L i).length<=i+m:=by
    have:=List.length_filter_le (fun k=>L k==i) (List.range (i+m))
    simpa[members]using this
   have x1:=dp (a:=o) (b:=pp) ab
   have x2:=dp (a:=oo) (b:=pp) (by have:=(ml oo (by simp)).2;omega)
   have x3:=dp (a:=o) (b:=oo) (by have:=(ml oo (by simp)).1;omega)
   by_cases hm:m<k-i
   ·have pD:∀{e:Env} {gg:Rows} {nx:Nat},(e 14=(.int .i64 ((i+(m+1):Nat):Int)))->(∃pp:Id,e 13=.own pp 0 (members (i+(m+1)) L i).length/\gg pp=some ⟨true,1,(members (i+(m+1)) L i).map eN⟩/\st_d.next<=pp.bZ/\pp.bZ<nx/\(∀x:Id,x.bZ<st_d.next->gg x=st_d.get x)/\st_d.next<=nx)->∃m0,m0<((k-i))-m/\∃m:Nat,m0=((k-i))-m/\m<=((k-i))/\e 14=(.int .i64 ((i+m:Nat):Int))/\(∃pp:Id,e 13=.own pp 0 (members (i+m) L i).length/\gg pp=some ⟨true,1,(members (i+m) L i).map eN⟩/\st_d.next<=pp.bZ/\pp.bZ<nx/\(∀x:Id,x.bZ<st_d.next->gg x=st_d.get x)/\st_d.next<=nx):=fun x1 x2=>⟨_,ab,m+1,rfl,ab,x1,x2⟩
    have NR:((i+m:Nat):Int)<(k:Int):=ab
    have P0:=eM (f:=L) (show i+m<k by omega)
    have hw:IntKind.i64.wrap (((i+m:Nat):Int)+1)=((i+(m+1):Nat):Int):=by rw[aQ ab];omega
    rw[eN]at P0
    by_cases hq:L (i+m)=i
    ·have oF:decide ((L (i+m):Int)=(i:Int))=true:=decide_eq_true (by rw[hq])
     rw[if_pos hq]at K3
     have e1:(members (i+m) L i).length+1<=16777216:=ab
     have me:((members (i+m) L i).map eN).length=(members (i+m) L i).length:=by simp
     (try((repeat(revert hN;revert N;apply Pn.out));refine wk (tw @f14 (tw @f0 (tw @f5 (tw @f11 (tw @f12 (tw @f13 (tw @fg (tw @ug (tw @NR (tw @P0 (tw @tl (tw @oF (tw @xt (tw @yM (tw @x1 (tw @e1 @me)))))))))))))))) ?_;(repeat(refine Pn.mk ?_;intro N hN))))
     exact pD (sd (tw @f14 (tw @f0 (tw @f5 (tw @f11 (tw @f12 (tw @ug (tw @hw (tw @yM @x1))))))))) (⟨⟨145026003,st_f.next+1+1⟩,by rw[K3,List.length_append];simp only[go_sem, ↓reduceIte,Nat.reduceEqDiff,Nat.reduceAdd,Nat.reduceSub,Nat.reduceLeDiff,reduceCtorEq,List.length_cons,List.length_nil],by rw[K3,List.map_append,List.map_cons,List.map_nil];simp only[go_sem, ↓reduceIte,Nat.reduceEqDiff,Nat.reduceAdd,Nat.reduceSub,Nat.reduceLeDiff,reduceCtorEq,eN],bD,bD,fun x hx=>by
      have y1:=lZ x hx
      have y2:=dp (a:=x) (b:=pp) ab
      simp only[go_sem, ↓reduceIte,Nat.reduceEqDiff,Nat.reduceAdd,Nat.reduceSub,Nat.reduceLeDiff,reduceCtorEq,eK (show x.bZ<st_f.next by omega),y1,y2],bD⟩)
    ·have oF:decide ((L (i+m):Int)=(i:Int))=false:=decide_eq_false fun h=>hq ab
     rw[if_neg hq,List.append_nil]at K3
     (try((repeat(revert hN;revert N;apply Pn.out));refine wk (tw @f14 (tw @f0 (tw @f5 (tw @f11 (tw @f12 (tw @f13 (tw @fg (tw @ug (tw @NR (tw @P0 (tw @tl (tw @oF (tw @xt (tw @yM @x1)))))))))))))) ?_;(repeat(refine Pn.mk ?_;intro N hN))))
     exact pD (sd (tw @f14 (tw @f0 (tw @f5 (tw @f11 (tw @f12 (tw @ug @hw))))))) (⟨pp,by rw[K3];simp only[go_sem, ↓reduceIte,Nat.reduceEqDiff,Nat.reduceAdd,Nat.reduceSub,Nat.reduceLeDiff,reduceCtorEq,f13],by rw[K3];simp only[go_sem, ↓reduceIte,Nat.reduceEqDiff,Nat.reduceAdd,Nat.reduceSub,Nat.reduceLeDiff,reduceCtorEq,fg],K6,bD,lZ,bD⟩)
   ·have hmk:i+m=k:=ab
    have NR:¬((i+m:Nat):Int)<(k:Int):=ab
    rw[hmk]at f13 fg QE
    have e1:rows.length+1<=16777216:=by
     have:=ja i L
     rw[pZ,List.length_map];omega
    (try((repeat(revert hN;revert N;apply Pn.out));refine wk (tw @f14 (tw @f0 (tw @f5 (tw @f11 (tw @f12 (tw @f13 (tw @fg (tw @ug (tw @Qw (tw @NR (tw @xt (tw @yM (tw @N7 (tw @x1 (tw @x2 @e1))))))))))))))) ?_;(repeat(refine Pn.mk ?_;intro N hN))))
    refine rh ?_ ?_ (⟨⟨145027003,st_f.next+1⟩,rows++[[.own pp 0 (members k L i).length]],ids++[pp],by rw[List.length_append];simp only[go_sem, ↓reduceIte,Nat.reduceEqDiff,Nat.reduceAdd,Nat.reduceSub,Nat.reduceLeDiff,reduceCtorEq,List.length_cons,List.length_nil],sd @Nat.zero_add,by
      rw[qn,List.map_append]
      refine(hR.frame Ls fun x hx=>?_).app (.one ⟨pp,rfl,?_,rfl⟩)
      ·have h1:=ml x (by simp[hx])
       have y1:=lZ x h1.2
       have y2:=dp (a:=x) (b:=pp) ab
       have y3:(x=oo)=False:=by
        simp only[eq_iff_iff,iff_false]
        rintro rfl
        exact FU hx
       simp only[go_sem, ↓reduceIte,Nat.reduceEqDiff,Nat.reduceAdd,Nat.reduceSub,Nat.reduceLeDiff,reduceCtorEq,eK (show x.bZ<st_f.next by omega),y1,y2,y3]
      ·simp only[go_sem, ↓reduceIte,Nat.reduceEqDiff,Nat.reduceAdd,Nat.reduceSub,Nat.reduceLeDiff,reduceCtorEq,xt,x2,fg],fun x hx=>by
      rcases List.mem_cons.1 hx with rfl|hx
      ·(try dsimp only);omega
      ·rcases List.mem_append.1 hx with hx|hx
       ·have:=ml x (by simp[hx]);(try dsimp only);omega
       ·rw[List.mem_singleton.1 hx];(try dsimp only);omega,bD,fun hc=>by
      rcases List.mem_append.1 hc with hc|hc
      ·have:=(ml _ (List.mem_cons_of_mem _ hc)).2;(try dsimp only at this);omega
      ·have:=List.mem_singleton.1 hc;rw[<-this]at JK;(try dsimp only at JK);omega⟩)
    all_goals simp only[go_sem, ↓reduceIte,Nat.reduceEqDiff,Nat.reduceAdd,Nat.reduceSub,Nat.reduceLeDiff,reduceCtorEq,f14,f0,f5,f11,f12,ug,yM,x3]
  ·rw[if_neg he,List.append_nil]at qn
   have tQ:decide ((L i:Int)=(i:Int))=false:=decide_eq_false fun h=>he ab
   rw[eN]at hC
   (try((repeat(revert hN;revert N;apply Pn.out));refine wk (tw @d12 (tw @dg0 (tw @d0 (tw @d5 (tw @d11 (tw @dg (tw @hi (tw @hC (tw @tl (tw @tQ (tw @nV @N6))))))))))) ?_;(repeat(refine Pn.mk ?_;intro N hN))))
   refine rh ?_ ?_ (⟨oo,rows,ids,sd @d11,sd @dg,by rw[qn];exact hR,fun x hx=>by have:=ml x hx;(try dsimp only);omega,bD,FU⟩)
   all_goals simp only[go_sem, ↓reduceIte,Nat.reduceEqDiff,Nat.reduceAdd,Nat.reduceSub,Nat.reduceLeDiff,reduceCtorEq,d12,dg0,d0,d5]
 ·have uW:i=k:=ab
  (try((repeat(revert hN;revert N;apply Pn.out));refine wk (tw @d12 (tw @dg0 (tw @d0 (tw @d5 (tw @d11 (tw @dg @hi)))))) ?_;(repeat(refine Pn.mk ?_;intro N hN))))
  refine tq (.inl rfl) (by simp only[go_sem, ↓reduceIte,Nat.reduceEqDiff,Nat.reduceAdd,Nat.reduceSub,Nat.reduceLeDiff,reduceCtorEq];rfl) ?_
  rw[pe dg (by simp) (rows':=(eQ k L).map xl) (by rw[List.drop_zero,List.take_of_length_le (Nat.le_refl _)];rw[uW]at hR;exact Gg 3 hR)]
theorem tG (n:Nat):List.replicate n [AV.int .i64 0]=dj (fun _=>0) n:=by
 refine List.ext_getElem? fun i=>?_
 by_cases h:i<n
 ·rw[eM h,List.getElem?_replicate,if_pos h];rfl
 ·rw[List.getElem?_eq_none (by simp;omega),List.getElem?_eq_none (by rw[ft];omega)]
def ck (cnt:Nat) (L:Nat->Nat) (i m:Nat):Nat->Nat:=fun x=>if bm L x<i then bm L x else if x∈(members cnt L ((leads cnt L).getD i 0)).take m then i else 0
theorem m3 (cnt:Nat) (L:Nat->Nat):ck cnt L 0 0=fun _=>0:=by funext x;simp[ck]
theorem rn (t:Int) (bs:List PB) (k:Nat) (h:k<bs.length):aD t (bs.take (k+1))=aD t (bs.take k)++if t<=(bs[k]).s then[bs[k]]else[]:=by
 unfold aD
 rw[List.take_succ_eq_append_getElem h,List.filter_append]
 congr 1
 by_cases h:t<=bs[k].s<;>simp[h]
theorem tA {t:Int} {bs:List PB} {b:PB} (h:b∈aD t bs):b∈bs:=(List.mem_filter.1 h).1
theorem lK (t:Int) (bs:List PB):(aD t bs).length<=bs.length:=List.length_filter_le _ _
theorem yV (cnt:Nat) (hn:cnt<=1048576) (bs:List PB) (hb:∀b∈bs,b.a<cnt/\b.b<cnt) (oU:bs.length<=1048576) (t:Int):ai Tryz.prog 126 [.int .i64 cnt,.sl (bs.map ay),.int .i64 t] (.gU [.int .i64 (leads cnt (dH (aD t bs))).length,.sl ((eG (dH (aD t bs)) bs).map ay)]):=by
 refine ai.body dP rfl fun hl n0=>?_
 clear hl
 (try((repeat(revert hN;revert N;apply Pn.out));refine wk @Nat.zero_add ?_;(repeat(refine Pn.mk ?_;intro N hN))))
 refine aJ (fun n env st=>∃k:Nat,n=(bs.length)-k/\k<=(bs.length)/\env 9=.int .i64 (k:Int)/\(∃o:Id,env 8=.own o 0 (aD t (bs.take k)).length/\st.get o=some ⟨true,3,(aD t (bs.take k)).map ay⟩/\o.bZ<st.next)) (bs.length) ⟨0,ab,ab,sl @Nat.zero_add,⟨⟨126001000,n0+1⟩,by(simp only[go_sem, ↓reduceIte,Nat.reduceEqDiff,Nat.reduceAdd,Nat.reduceSub,Nat.reduceLeDiff,reduceCtorEq])<;>rfl,by(simp only[go_sem, ↓reduceIte,Nat.reduceEqDiff,Nat.reduceAdd,Nat.reduceSub,Nat.reduceLeDiff,reduceCtorEq])<;>rfl,bD⟩⟩ ?_
 rintro n_a env_a st_a ⟨k,rfl,ale,a9,l7⟩ dE
 have a0:=dE 0 (by kernel_rfl);have a1:=dE 1 (by kernel_rfl);have a2:=dE 2 (by kernel_rfl)
 simp only[go_sem, ↓reduceIte,Nat.reduceEqDiff,Nat.reduceAdd,Nat.reduceSub,Nat.reduceLeDiff,reduceCtorEq]at a0 a1 a2
 clear dE
 obtain⟨o,a8,ag,qY⟩:=l7
 have mu:=eK qY
 by_cases hk:(k:Int)<(bs.length:Int)
 ·have cl:∀{e:Env} {gg:Rows} {nx:Nat},(e 9=.int .i64 (IntKind.i64.wrap ((k:Int)+1)))->(∃o:Id,e 8=.own o 0 (aD t (bs.take (k+1))).length/\gg o=some ⟨true,3,(aD t (bs.take (k+1))).map ay⟩/\o.bZ<nx)->∃m0,m0<(bs.length)-k/\∃k:Nat,m0=(bs.length)-k/\k<=(bs.length)/\e 9=.int .i64 (k:Int)/\(∃o:Id,e 8=.own o 0 (aD t (bs.take k)).length/\gg o=some ⟨true,3,(aD t (bs.take k)).map ay⟩/\o.bZ<nx):=fun x1 x2=>⟨_,ab,k+1,rfl,ab,(by rw[x1,aA ab]),x2⟩
  have eO:k<bs.length:=ab
  have eC:(bs.map ay)[k]? =some (ay bs[k]):=by simp[eO]
  have hs:=rn t bs k eO
  have tR:=lK t (bs.take k)
  rw[List.length_take]at tR
  by_cases hc:t<=(bs[k]).s
  ·rw[if_pos hc]at hs
   have e1:(aD t (bs.take k)).length+1<=16777216:=ab
   have me:((aD t (bs.take k)).map ay).length=(aD t (bs.take k)).length:=by simp
   generalize bs[k]=b at *
   (try((repeat(revert hN;revert N;apply Pn.out));refine wk (tw @a9 (tw @a0 (tw @a1 (tw @a2 (tw @a8 (tw @ag (tw @mu (tw @hk (tw @eC (tw @hc (tw @e1 (tw @me @ay.eq_1)))))))))))) ?_;(repeat(refine Pn.mk ?_;intro N hN))))
   exact cl (sd (tw @a9 (tw @a0 (tw @a1 @a2)))) (⟨⟨126006006,st_a.next+1+1⟩,by rw[hs,List.length_append];simp only[go_sem, ↓reduceIte,Nat.reduceEqDiff,Nat.reduceAdd,Nat.reduceSub,Nat.reduceLeDiff,reduceCtorEq,List.length_cons,List.length_nil],by rw[hs,List.map_append,List.map_cons,List.map_nil];simp only[go_sem, ↓reduceIte,Nat.reduceEqDiff,Nat.reduceAdd,Nat.reduceSub,Nat.reduceLeDiff,reduceCtorEq,ay],bD⟩)
  ·rw[if_neg hc,List.append_nil]at hs
   generalize bs[k]=b at *
   (try((repeat(revert hN;revert N;apply Pn.out));refine wk (tw @a9 (tw @a0 (tw @a1 (tw @a2 (tw @a8 (tw @ag (tw @mu (tw @hk (tw @eC (tw @hc @ay.eq_1)))))))))) ?_;(repeat(refine Pn.mk ?_;intro N hN))))
   exact cl (sd (tw @a9 (tw @a0 (tw @a1 @a2)))) (⟨o,by rw[hs];simp only[go_sem, ↓reduceIte,Nat.reduceEqDiff,Nat.reduceAdd,Nat.reduceSub,Nat.reduceLeDiff,reduceCtorEq,a8],by rw[hs];simp only[go_sem, ↓reduceIte,Nat.reduceEqDiff,Nat.reduceAdd,Nat.reduceSub,Nat.reduceLeDiff,reduceCtorEq,ag],bD⟩)
 have kK:k=bs.length:=ab
 subst kK
 rw[List.take_length]at a8 ag
 have EH:=yT cnt hn (aD t bs) (fun b h=>hb b (tA h)) (by have:=lK t bs;omega)
 have hL:=re (aD t bs)
 have Cf:fz (dC st_a.get) 6 (.own o 0 (aD t bs).length)=some (.sl ((aD t bs).map ay)):=fw (sz:=3) (by simp[dC,ag]) rfl fun b=>we _ 4 b
 have Qv:∀x,bY (dC st_a.get) 6 [.int .i64 x,.own o 0 (aD t bs).length]=some [.int .i64 x,.sl ((aD t bs).map ay)]:=fun x=>by simp only[ad,aj,aE,Cf,Option.map_some]
 (try((repeat(revert hN;revert N;apply Pn.out));refine wk (tw @a9 (tw @a0 (tw @a1 (tw @a2 (tw @a8 @hk))))) ?_;(repeat(refine Pn.mk ?_;intro N hN))))
 refine .inl ⟨_,ai.x EH (Qv _),?_⟩
 refine hN _ _ ?_
 clear hN N
 generalize dH (aD t bs)=L at *
 have oV:((eQ cnt L).map xl).length=(leads cnt L).length:=by simp[eQ]
 have Ph:=ja cnt L
 have iU:(0:Int)<=(cnt:Int):=ab
 have od:(cnt:Int)<=((16777216:Nat):Int):=ab
 have fY:List.replicate cnt [AV.int .i64 0]=dj (ck cnt L 0 0) cnt:=by rw[tG,m3]
 (try((repeat(revert hN;revert N;apply Pn.out));refine wk (tw @a9 (tw @a0 (tw @a1 (tw @a2 (tw @iU (tw @od @Int.le_refl)))))) ?_;(repeat(refine Pn.mk ?_;intro N hN))))
 refine aJ (fun n env st=>∃i:Nat,n=((leads cnt L).length)-i/\i<=((leads cnt L).length)/\env 12=.int .i64 (i:Int)/\st.get ⟨126008001,st_a.next+1+1⟩=some ⟨true,1,dj (ck cnt L i 0) cnt⟩/\(st_a.next+1+1<st.next)) ((leads cnt L).length) ⟨0,ab,ab,sl (tw @a9 (tw @a0 (tw @a1 (tw @a2 @fY)))),sl (tw @a9 (tw @a0 (tw @a1 (tw @a2 @fY)))),bD⟩ ?_
 rintro n_c env_c st_c ⟨i,rfl,cle,vT,cg0,cI0⟩ cfr
 have c1:=cfr 1 (by kernel_rfl);have iO:=cfr 10 (by kernel_rfl);have mb:=cfr 11 (by kernel_rfl)
 simp only[go_sem, ↓reduceIte,Nat.reduceEqDiff,Nat.reduceAdd,Nat.reduceSub,Nat.reduceLeDiff,reduceCtorEq,a9,a0,a1,a2,fY]at c1 iO mb
 clear cfr
 by_cases hi:(i:Int)<((leads cnt L).length:Int)
 ·have gm:∀{e:Env} {gg:Rows} {nx:Nat},(e 12=.int .i64 (IntKind.i64.wrap ((i:Int)+1)))->(gg ⟨126008001,st_a.next+1+1⟩=some ⟨true,1,dj (ck cnt L (i+1) 0) cnt⟩)->(st_a.next+1+1<nx)->∃m0,m0<((leads cnt L).length)-i/\∃i:Nat,m0=((leads cnt L).length)-i/\i<=((leads cnt L).length)/\e 12=.int .i64 (i:Int)/\gg ⟨126008001,st_a.next+1+1⟩=some ⟨true,1,dj (ck cnt L i 0) cnt⟩/\(st_a.next+1+1<nx):=fun x1 x2 x3=>⟨_,ab,i+1,rfl,ab,(by rw[x1,aA ab]),x2,x3⟩
  have fb:i<(leads cnt L).length:=ab
  have nA:((eQ cnt L).map xl)[i]? =some (xl (members cnt L (leads cnt L)[i])):=by simp[eQ,fb]
  have r5:(leads cnt L).getD i 0=(leads cnt L)[i]:=by simp[List.getD_eq_getElem?_getD,fb]
  have u3:∀m,ck cnt L i m=fun x=>if bm L x<i then bm L x else if x∈(members cnt L (leads cnt L)[i]).take m then i else 0:=fun m=>by unfold ck;rw[r5]
  have nT:=fun x (hx:x<cnt)=>qt hL (n:=cnt) (k:=x) (i:=i) hx fb
  have lD:(members cnt L (leads cnt L)[i]).Nodup:=List.nodup_range.filter _
  have Ij:∀x∈members cnt L (leads cnt L)[i],x<cnt:=fun x hx=>(kr.1 hx).1
  have hMc:(members cnt L (leads cnt L)[i]).length<=cnt:=by
   have:=List.length_filter_le (fun k=>L k==(leads cnt L)[i]) (List.range cnt)
   simpa[members]using this
  generalize members cnt L (leads cnt L)[i]=M at *
  have zz:(M.map eN).length=M.length:=by simp
  (try((repeat(revert hN;revert N;apply Pn.out));refine wk (tw @vT (tw @cg0 (tw @c1 (tw @iO (tw @mb (tw @hi @oV)))))) ?_;(repeat(refine Pn.mk ?_;intro N hN))))
  refine aJ (fun n env st=>∃m:Nat,n=(M.length)-m/\m<=(M.length)/\env 13=.int .i64 (m:Int)/\st.get ⟨126008001,st_a.next+1+1⟩=some ⟨true,1,dj (ck cnt L i m) cnt⟩/\(st_a.next+1+1<st.next)) (M.length) ⟨0,ab,ab,sl (tw @vT (tw @cg0 (tw @c1 (tw @iO @mb)))),sl (tw @vT (tw @cg0 (tw @c1 (tw @iO @mb)))),bD⟩ ?_
  rintro n_d env_d st_d ⟨m,rfl,dle,d13,dg0,dI0⟩ dfr
  have d1:=dfr 1 (by kernel_rfl);have d10:=dfr 10 (by kernel_rfl);have d11:=dfr 11 (by kernel_rfl);have d12:=dfr 12 (by kernel_rfl)
  simp only[go_sem, ↓reduceIte,Nat.reduceEqDiff,Nat.reduceAdd,Nat.reduceSub,Nat.reduceLeDiff,reduceCtorEq,vT,cg0,c1,iO,mb]at d1 d10 d11 d12
  clear dfr
  have tl:=ft (ck cnt L i m) cnt
  by_cases hm:(m:Int)<(M.length:Int)
  ·have rh:∀{e:Env} {gg:Rows} {nx:Nat},(e 13=.int .i64 (IntKind.i64.wrap ((m:Int)+1)))->(gg ⟨126008001,st_a.next+1+1⟩=some ⟨true,1,dj (ck cnt L i (m+1)) cnt⟩)->(st_a.next+1+1<nx)->∃m0,m0<(M.length)-m/\∃m:Nat,m0=(M.length)-m/\m<=(M.length)/\e 13=.int .i64 (m:Int)/\gg ⟨126008001,st_a.next+1+1⟩=some ⟨true,1,dj (ck cnt L i m) cnt⟩/\(st_a.next+1+1<nx):=fun x1 x2 x3=>⟨_,ab,m+1,rfl,ab,(by rw[x1,aA ab]),x2,x3⟩
   have wz:m<M.length:=ab
   have sP:(M.map eN)[m]? =some (eN M[m]):=by simp[wz]
   have sV:=Ij _ (List.getElem_mem wz)
   have zD:(M[m]:Int)<(cnt:Int):=ab
   have zC:=eM (f:=ck cnt L i m) sV
   have dQ:(dj (ck cnt L i m) cnt).set M[m] (eN i)=dj (ck cnt L i (m+1)) cnt:=nL sV (by
    have h1:=(nT _ sV).1 (List.getElem_mem wz)
    rw[u3]
    simp only[]
    rw[if_neg ab,if_pos (by rw[List.take_succ_eq_append_getElem wz];exact List.mem_append_right _ (List.mem_singleton.2 rfl))]) fun x hx gF=>by
    rw[u3,u3]
    simp only[]
    rw[List.take_succ_eq_append_getElem wz]
    simp only[List.mem_append,List.mem_singleton,gF,or_false]
   rw[eN]at dQ zC
   generalize M[m]=xm at *
   (try((repeat(revert hN;revert N;apply Pn.out));refine wk (tw @d13 (tw @dg0 (tw @d1 (tw @d10 (tw @d11 (tw @d12 (tw @hm (tw @hi (tw @nA (tw @oV (tw @sP (tw @zz (tw @zD (tw @zC (tw @tl (tw @dQ (tw @xl.eq_1 @eN.eq_1))))))))))))))))) ?_;(repeat(refine Pn.mk ?_;intro N hN))))
   refine rh ?_ ?_ bD
   all_goals simp only[go_sem, ↓reduceIte,Nat.reduceEqDiff,Nat.reduceAdd,Nat.reduceSub,Nat.reduceLeDiff,reduceCtorEq,d13,dg0,d1,d10,d11,d12,dQ]
  ·have me:m=M.length:=ab
   subst me
   have uk:dj (ck cnt L i M.length) cnt=dj (ck cnt L (i+1) 0) cnt:=fV fun x hx=>by
    rw[u3,List.take_length]
    simp only[ck,List.take_zero,List.not_mem_nil,if_false]
    have h1:=nT x hx
    by_cases h2:bm L x<i
    ·rw[if_pos h2,if_pos ab]
    ·rw[if_neg h2]
     by_cases h3:x∈M
     ·rw[if_pos h3,if_pos (by have:=h1.1 h3;omega),h1.1 h3]
     ·rw[if_neg h3,if_neg fun h4=>h3 (h1.2 ab)]
   (try((repeat(revert hN;revert N;apply Pn.out));refine wk (tw @d13 (tw @dg0 (tw @d1 (tw @d10 (tw @d11 (tw @d12 (tw @hm (tw @hi (tw @nA (tw @oV (tw @zz @xl.eq_1))))))))))) ?_;(repeat(refine Pn.mk ?_;intro N hN))))
   refine gm ?_ ?_ bD
   all_goals simp only[go_sem, ↓reduceIte,Nat.reduceEqDiff,Nat.reduceAdd,Nat.reduceSub,Nat.reduceLeDiff,reduceCtorEq,vT,cg0,c1,iO,mb,d13,dg0,d1,d10,d11,d12,uk]
 have oe:i=(leads cnt L).length:=ab
 subst oe
 have FU:dj (ck cnt L (leads cnt L).length 0) cnt=dj (bm L) cnt:=fV fun x hx=>by rw[ck,if_pos (jq hL hx)]
 rw[FU]at cg0
 have tl:=ft (bm L) cnt
 (try((repeat(revert hN;revert N;apply Pn.out));refine wk (tw @vT (tw @cg0 (tw @c1 (tw @iO (tw @mb (tw @hi @oV)))))) ?_;(repeat(refine Pn.mk ?_;intro N hN))))
 have O5:st_a.next+1+1<st_c.next:=cI0
 refine aJ (fun n env st=>∃j:Nat,n=(bs.length)-j/\j<=(bs.length)/\env 15=.int .i64 (j:Int)/\st.get ⟨126008001,st_a.next+1+1⟩=some ⟨true,1,dj (bm L) cnt⟩/\(∃p:Id,env 14=.own p 0 (eG L (bs.take j)).length/\st.get p=some ⟨true,3,(eG L (bs.take j)).map ay⟩/\st_c.next<=p.bZ/\p.bZ<st.next)) (bs.length) ⟨0,ab,ab,sl (tw @vT (tw @cg0 (tw @c1 (tw @iO @mb)))),sl (tw @vT (tw @cg0 (tw @c1 (tw @iO @mb)))),⟨⟨126016000,st_c.next+1⟩,by(simp only[go_sem, ↓reduceIte,Nat.reduceEqDiff,Nat.reduceAdd,Nat.reduceSub,Nat.reduceLeDiff,reduceCtorEq])<;>rfl,by(simp only[go_sem, ↓reduceIte,Nat.reduceEqDiff,Nat.reduceAdd,Nat.reduceSub,Nat.reduceLeDiff,reduceCtorEq])<;>rfl,bD,bD⟩⟩ ?_
 rintro n_f env_f st_f ⟨j,rfl,fle,f15,fg0,fI0⟩ ffr
 have f1:=ffr 1 (by kernel_rfl);have f10:=ffr 10 (by kernel_rfl);have f11:=ffr 11 (by kernel_rfl)
 simp only[go_sem, ↓reduceIte,Nat.reduceEqDiff,Nat.reduceAdd,Nat.reduceSub,Nat.reduceLeDiff,reduceCtorEq,vT,cg0,c1,iO,mb]at f1 f10 f11
 clear ffr
 obtain⟨p,f14,fg,K6,JK⟩:=fI0
 have x1:=dp (a:=⟨126008001,st_a.next+1+1⟩) (b:=p) bD
 have xt:=eK JK
 have hvn:st_a.next+1+1<st_f.next:=ab
 have F4:=eK (i:=⟨126008001,st_a.next+1+1⟩) (n:=st_f.next) hvn
 have tR:=(lJ L (bs.take j)).2
 rw[List.length_take]at tR
 by_cases hj:(j:Int)<(bs.length:Int)
 ·have pD:∀{e:Env} {gg:Rows} {nx:Nat},(e 15=.int .i64 (IntKind.i64.wrap ((j:Int)+1)))->(gg ⟨126008001,st_a.next+1+1⟩=some ⟨true,1,dj (bm L) cnt⟩)->(∃p:Id,e 14=.own p 0 (eG L (bs.take (j+1))).length/\gg p=some ⟨true,3,(eG L (bs.take (j+1))).map ay⟩/\st_c.next<=p.bZ/\p.bZ<nx)->∃m0,m0<(bs.length)-j/\∃j:Nat,m0=(bs.length)-j/\j<=(bs.length)/\e 15=.int .i64 (j:Int)/\gg ⟨126008001,st_a.next+1+1⟩=some ⟨true,1,dj (bm L) cnt⟩/\(∃p:Id,e 14=.own p 0 (eG L (bs.take j)).length/\gg p=some ⟨true,3,(eG L (bs.take j)).map ay⟩/\st_c.next<=p.bZ/\p.bZ<nx):=fun x1 x2 x3=>⟨_,ab,j+1,rfl,ab,(by rw[x1,aA ab]),x2,x3⟩
  have im:j<bs.length:=ab
  have EG:(bs.map ay)[j]? =some (ay bs[j]):=by simp[im]
  have Jz:=hb _ (List.getElem_mem im)
  have hs:=wW L (bs.take j) bs[j]
  rw[<-List.take_succ_eq_append_getElem im]at hs
  generalize bs[j]=b at *
  have hA:=eM (f:=bm L) Jz.1
  have hB:=eM (f:=bm L) Jz.2
  have fH:(b.a:Int)<(cnt:Int):=ab
  have fe:(b.b:Int)<(cnt:Int):=ab
  have OY:=yS (bm L b.a) (bm L b.b)
  have OZ:=yR (bm L b.a) (bm L b.b)
  rw[eN]at hA hB
  by_cases he:bm L b.a=bm L b.b
  ·rw[if_pos he,List.append_nil]at hs
   have tQ:decide ((bm L b.a:Int)=(bm L b.b:Int))=true:=decide_eq_true (by rw[he])
   (try((repeat(revert hN;revert N;apply Pn.out));refine wk (tw @f15 (tw @fg0 (tw @f1 (tw @f10 (tw @f11 (tw @f14 (tw @fg (tw @hj (tw @EG (tw @hA (tw @hB (tw @fH (tw @fe (tw @tl (tw @tQ (tw @x1 (tw @xt @ay.eq_1))))))))))))))))) ?_;(repeat(refine Pn.mk ?_;intro N hN))))
   refine pD ?_ ?_ (⟨p,by rw[hs];simp only[go_sem, ↓reduceIte,Nat.reduceEqDiff,Nat.reduceAdd,Nat.reduceSub,Nat.reduceLeDiff,reduceCtorEq,f14],by rw[hs];simp only[go_sem, ↓reduceIte,Nat.reduceEqDiff,Nat.reduceAdd,Nat.reduceSub,Nat.reduceLeDiff,reduceCtorEq,fg],K6,bD⟩)
   all_goals simp only[go_sem, ↓reduceIte,Nat.reduceEqDiff,Nat.reduceAdd,Nat.reduceSub,Nat.reduceLeDiff,reduceCtorEq,f15,fg0,f1,f10,f11]
  ·rw[if_neg he]at hs
   have tQ:decide ((bm L b.a:Int)=(bm L b.b:Int))=false:=decide_eq_false fun h=>he ab
   have e1:(eG L (bs.take j)).length+1<=16777216:=ab
   have me:((eG L (bs.take j)).map ay).length=(eG L (bs.take j)).length:=by simp
   (repeat(first|((repeat(revert hN;revert N;apply Pn.out));refine wk (tw @f15 (tw @fg0 (tw @f1 (tw @f10 (tw @f11 (tw @f14 (tw @fg (tw @hj (tw @EG (tw @hA (tw @hB (tw @fH (tw @fe (tw @tl (tw @tQ (tw @x1 (tw @xt (tw @F4 (tw @e1 (tw @me @ay.eq_1)))))))))))))))))))) ?_;(repeat(refine Pn.mk ?_;intro N hN)))|((try apply Or.inl);refine⟨_,ai.x (OY) (sd (tw @f15 (tw @fg0 (tw @f1 (tw @f10 (tw @f11 (tw @f14 (tw @fg (tw @hj (tw @EG (tw @hA (tw @hB (tw @fH (tw @fe (tw @tl (tw @tQ (tw @x1 (tw @xt (tw @F4 (tw @e1 (tw @me @ay.eq_1))))))))))))))))))))),?_⟩;refine hN _ _ ?_;clear hN N)|((try apply Or.inl);refine⟨_,ai.x (OZ) (sd (tw @f15 (tw @fg0 (tw @f1 (tw @f10 (tw @f11 (tw @f14 (tw @fg (tw @hj (tw @EG (tw @hA (tw @hB (tw @fH (tw @fe (tw @tl (tw @tQ (tw @x1 (tw @xt (tw @F4 (tw @e1 (tw @me @ay.eq_1))))))))))))))))))))),?_⟩;refine hN _ _ ?_;clear hN N)))
   refine pD ?_ ?_ (⟨⟨126023014,st_f.next+1+1+1+1⟩,by rw[hs,List.length_append];simp only[go_sem, ↓reduceIte,Nat.reduceEqDiff,Nat.reduceAdd,Nat.reduceSub,Nat.reduceLeDiff,reduceCtorEq,List.length_cons,List.length_nil],by rw[hs,List.map_append,List.map_cons,List.map_nil];simp only[go_sem, ↓reduceIte,Nat.reduceEqDiff,Nat.reduceAdd,Nat.reduceSub,Nat.reduceLeDiff,reduceCtorEq,ay],bD,bD⟩)
   all_goals simp only[go_sem, ↓reduceIte,Nat.reduceEqDiff,Nat.reduceAdd,Nat.reduceSub,Nat.reduceLeDiff,reduceCtorEq,f15,fg0,f1,f10,f11,x1,F4]
 ·have gn:j=bs.length:=ab
  subst gn
  rw[List.take_length]at f14 fg
  (try((repeat(revert hN;revert N;apply Pn.out));refine wk (tw @f15 (tw @fg0 (tw @f1 (tw @f10 (tw @f11 (tw @f14 (tw @hj @oV))))))) ?_;(repeat(refine Pn.mk ?_;intro N hN))))
  refine iK (.inl rfl) (r1:=.int .i64 ((leads cnt L).length:Int)) (sd @Nat.zero_add) (by simp only[go_sem, ↓reduceIte,Nat.reduceEqDiff,Nat.reduceAdd,Nat.reduceSub,Nat.reduceLeDiff,reduceCtorEq];rfl) ?_
  have h1:fh st_f.get 5 (.own p 0 (eG L bs).length)=some (.sl ((eG L bs).map ay)):=eX (sz:=3) fg rfl fun b=>rW _ 3 b
  simp only[ee,aM,bh,dK,h1,Option.map_some]
end Go.Proofs.YtihgaadadaekmaaGreatDoor.V

namespace Go.Proofs.YtihgaadadaekmaaGreatDoor.V
def BN (bs:List PB) (e v:Nat):Prop:=(bC bs e).a=v∨(bC bs e).b=v
def gZ (bs:List PB) (m v:Nat):List Nat:=(List.range m).filter fun i=>(bC bs i).a==v||(bC bs i).b==v
theorem pv {bs:List PB} {m v e:Nat}:e∈gZ bs m v↔e<m/\BN bs e v:=by simp[gZ,BN]
theorem DH (bs:List PB) (m v:Nat):gZ bs (m+1) v=gZ bs m v++if (bC bs m).a=v∨(bC bs m).b=v then[m]else[]:=by
 unfold gZ
 rw[List.range_succ,List.filter_append]
 congr 1
 by_cases h:(bC bs m).a=v<;>by_cases h2:(bC bs m).b=v<;>simp[h,h2]
theorem pr (bs:List PB) (m v:Nat):(gZ bs m v).length<=m:=by
 have:=List.length_filter_le (fun i=>(bC bs i).a==v||(bC bs i).b==v) (List.range m)
 simpa[gZ]using this
def lT (cnt:Nat) (bs:List PB):Prop:=∀e,e<bs.length->(bC bs e).a<cnt/\(bC bs e).b<cnt/\(bC bs e).a≠(bC bs e).b
theorem m8 {cnt:Nat} {bs:List PB} (h:lT cnt bs) {e v:Nat} (he:e<bs.length):bo bs e v<cnt:=by
 have:=h e he;unfold bo;split;exact this.2.1;exact this.1
theorem GB {cnt:Nat} {bs:List PB} (h:lT cnt bs) {e v:Nat} (he:e<bs.length) (hi:BN bs e v):bo bs e v≠v:=by
 have h1:=(h e he).2.2
 unfold bo
 split
 ·rename_i ha;rw[<-ha];exact fun h=>h1 h.symm
 ·rename_i ha;rcases hi with hi|hi
  ·exact absurd hi ha
  ·rw[<-hi];exact h1
theorem vC {bs:List PB} {e v:Nat}:BN bs e (bo bs e v):=by
 unfold bo BN;split
 ·exact .inr rfl
 ·exact .inl rfl
theorem nf {cnt:Nat} {bs:List PB} (h:lT cnt bs) {e v:Nat} (he:e<bs.length) (hi:BN bs e v):bo bs e (bo bs e v)=v:=by
 have h1:=(h e he).2.2
 unfold bo
 by_cases ha:(bC bs e).a=v
 ·rw[if_pos ha,if_neg h1];exact ha
 ·rw[if_neg ha,if_pos rfl]
  rcases hi with hi|hi
  ·exact absurd hi ha
  ·exact hi
structure vN (cnt:Nat) (bs:List PB) (f:Nat->Int) (y:Nat) (out:Nat->Int):Prop where
 lo:∀v,v<cnt->-1<=out v/\out v<=cnt
 first:out y=0
 zero:∀v,v<cnt->out v=0->v=y
 down:∀v,v<cnt->0<out v->∃e,e<bs.length/\BN bs e v/\0<eY bs f e v/\out (bo bs e v)=out v-1
 shut:∀e v,e<bs.length->BN bs e v->0<=out (bo bs e v)->0<eY bs f e v->0<=out v
structure xi (cnt:Nat) (bs:List PB) (f:Nat->Int) (y:Nat) (out:Nat->Int) (Q:List Nat) (i:Nat):Prop where
 nd:Q.Nodup
 lt:∀x∈Q,x<cnt
 iff:∀v,v<cnt->(0<=out v↔v∈Q)
 lo:∀v,v<cnt->-1<=out v
 first:out y=0
 up:∀j (h:j<Q.length),out Q[j]<=j
 zero:∀v,v<cnt->out v=0->v=y
 down:∀v,v<cnt->0<out v->∃e,e<bs.length/\BN bs e v/\0<eY bs f e v/\out (bo bs e v)=out v-1
 shut:∀j (h:j<Q.length),j<i->∀e,e<bs.length->BN bs e Q[j]->0<eY bs f e (bo bs e Q[j])->0<=out (bo bs e Q[j])
section
variable {cnt:Nat} {bs:List PB} {f:Nat->Int} {y:Nat} {out:Nat->Int} {Q:List Nat} {i:Nat}
theorem xi.start (hy:y<cnt):xi cnt bs f y (fun v=>if v=y then 0 else -1) [y] 0 where
 nd:=by simp
 lt:=fun x hx=>by rw[List.mem_singleton.1 hx];exact hy
 iff:=fun v _=>by
  by_cases h:v=y<;>simp[h]
 lo:=fun v _=>by split<;>omega
 first:=if_pos rfl
 up:=fun j h=>by
  have:j=0:=by simp at h;omega
  subst this;simp
 zero:=fun v _ h=>by
  by_cases hv:v=y
  ·exact hv
  ·rw[if_neg hv]at h;omega
 down:=fun v _ h=>by
  by_cases hv:v=y
  ·rw[if_pos hv]at h;omega
  ·rw[if_neg hv]at h;omega
 shut:=fun j h hj=>by omega
theorem xi.len (h:xi cnt bs f y out Q i):Q.length<=cnt:=m4 cnt Q h.nd h.lt
theorem xi.visit (h:xi cnt bs f y out Q i) (ok:lT cnt bs) (hi:i<Q.length) {e:Nat} (he:e<bs.length) (nU:BN bs e Q[i]) (jo:out (bo bs e Q[i])<0) (fc:0<eY bs f e (bo bs e Q[i])):
  xi cnt bs f y (fun v=>if v=bo bs e Q[i]then out Q[i]+1 else out v) (Q++[bo bs e Q[i]]) i:=by
 have JP:0<=out Q[i]:=(h.iff _ (h.lt _ (List.getElem_mem hi))).2 (List.getElem_mem hi)
 have hq:=m8 ok (v:=Q[i]) he
 have gF:=GB ok he nU
 have Pk:=nf ok he nU
 have QI:bo bs e Q[i]∉Q:=fun hm=>by have:=(h.iff _ hq).2 hm;omega
 have u3:=h.up i hi
 generalize hw:bo bs e Q[i]=w at *
 have sZ:∀v,0<=out v->(if v=w then out Q[i]+1 else out v)=out v:=fun v hv=>by
  rw[if_neg];rintro rfl;omega
 have mono:∀v,0<=out v->0<=(if v=w then out Q[i]+1 else out v):=fun v hv=>by rw[sZ v hv];exact hv
 refine⟨?_,?_,?_,?_,?_,?_,?_,?_,?_⟩
 ·rw[List.nodup_append]
  exact⟨h.nd,by simp,fun a ha b hb=>by rw[List.mem_singleton.1 hb];rintro rfl;exact QI ha⟩
 ·intro x hx
  rcases List.mem_append.1 hx with hx|hx
  ·exact h.lt x hx
  ·rw[List.mem_singleton.1 hx];exact hq
 ·intro v hv
  by_cases EM:v=w
  ·subst EM;simp;omega
  ·rw[if_neg EM,h.iff v hv];simp[EM]
 ·intro v hv
  by_cases EM:v=w
  ·rw[if_pos EM];omega
  ·rw[if_neg EM];exact h.lo v hv
 ·rw[sZ y (by rw[h.first];exact Int.le_refl _)];exact h.first
 ·intro j hj
  by_cases gn:j<Q.length
  ·rw[List.getElem_append_left gn,sZ _ ((h.iff _ (h.lt _ (List.getElem_mem gn))).2 (List.getElem_mem gn))]
   exact h.up j gn
  ·have Ig:j=Q.length:=by simp at hj;omega
   subst Ig
   simp
   omega
 ·intro v hv h0
  by_cases EM:v=w
  ·rw[if_pos EM]at h0;omega
  ·rw[if_neg EM]at h0;exact h.zero v hv h0
 ·intro v hv h0
  by_cases EM:v=w
  ·subst EM
   rw[if_pos rfl]
   refine⟨e,he,by rw[<-hw];exact vC,fc,?_⟩
   rw[Pk,sZ _ JP];omega
  ·rw[if_neg EM]at h0 ⊢
   obtain⟨e',h1,h2,h3,h4⟩:=h.down v hv h0
   exact⟨e',h1,h2,h3,by rw[sZ _ ab];exact h4⟩
 ·intro j hj lg e' H7 JF hr
  have gn:j<Q.length:=ab
  rw[List.getElem_append_left gn]at JF hr ⊢
  exact mono _ (h.shut j gn lg e' H7 JF hr)
theorem xi.next (h:xi cnt bs f y out Q i) (hi:i<Q.length) (hs:∀e∈gZ bs bs.length Q[i],0<eY bs f e (bo bs e Q[i])->0<=out (bo bs e Q[i])):xi cnt bs f y out Q (i+1):=
 ⟨h.nd,h.lt,h.iff,h.lo,h.first,h.up,h.zero,h.down,fun j hj lg e he nU hr=>by
  by_cases Ig:j=i
  ·subst Ig;exact hs e (pv.2 ⟨he,nU⟩) hr
  ·exact h.shut j hj ab e he nU hr⟩
theorem xi.done (h:xi cnt bs f y out Q i) (ok:lT cnt bs) (hi:Q.length<=i):vN cnt bs f y out where
 lo:=fun v hv=>⟨h.lo v hv,by
  by_cases h0:0<=out v
  ·obtain⟨j,hj,rfl⟩:=List.getElem_of_mem ((h.iff v hv).1 h0)
   have:=h.up j hj
   have:=h.len
   omega
  ·omega⟩
 first:=h.first
 zero:=h.zero
 down:=h.down
 shut:=fun e v he nU h0 hr=>by
  obtain⟨j,hj,Mt⟩:=List.getElem_of_mem ((h.iff _ (m8 ok he)).1 h0)
  have h2:=h.shut j hj ab e he (by rw[Mt];exact vC)
  rw[Mt,nf ok he nU]at h2
  exact h2 hr
end
end Go.Proofs.YtihgaadadaekmaaGreatDoor.V

namespace Go.Proofs.YtihgaadadaekmaaGreatDoor.V
open Go.RowKit
attribute [local irreducible] dO wpOps gO Call
attribute [local go_sem] aH fF eF fR fQ cu upd cm K.av cJ AV.cells AV.cell rowOf rowsOf part ld rowAt bI bU dG ei il bJ da eB fW eZ dq ep cY cX dU dV bP bd cQ bL cT cR ek er eo cP bS cZ ej bK aL cV cw ik br cI bQ aZ dz bl dI AV.undef bB bH dY eh dR ea cE eA eE cr ev eu cU cW List.getD_cons_zero List.getD_cons_succ List.getD_nil List.all_cons List.all_nil Bool.and_true Bool.true_and Bool.and_self Bool.not_true Bool.not_false Option.map_some Option.map_none Option.bind_some Option.bind_none List.length_cons List.length_nil List.take_succ_cons List.take_zero List.take_nil List.drop_succ_cons List.drop_zero List.drop_nil List.head?_cons List.map_cons List.map_nil List.getElem?_cons_zero List.getElem?_cons_succ List.cons_append List.nil_append List.append_nil List.length_map List.set_cons_zero List.set_cons_succ Nat.reduceMul eq_self Int.toNat_natCast Int.natCast_nonneg and_self true_and and_true decide_true decide_false Bool.false_eq_true Nat.zero_add Nat.add_zero List.contains_cons List.contains_nil Bool.or_false Bool.false_or beq_self_eq_true Nat.reduceBEq ne_eq not_true_eq_false not_false_eq_true Id.mk.injEq false_and and_false Nat.reduceLT Int.reduceLE Int.reduceLT Int.reduceToNat Int.reduceNeg Int.reduceAdd Nat.le_refl List.length_append beq_true beq_false Bool.not_eq_eq_eq_not or_false false_or dC ad aj aE bz cj aT bj aX bf cK bG
def lQ (P:Program) (f:Nat) (args:List AV) (R:AV->Prop):Prop:=∀n:Nat,Call P f args ⟨fun _=>none,n⟩ fun r0 σ'=>∃r',fh σ'.get 6 r0=some r'/\R r'
theorem Dl {P:Program} {f:Nat} {args eJ:List AV} {g:Rows} {n:Nat} {R:AV->Prop} (hv:bY (dC g) 6 args=some eJ) (h:Sound P f eJ ⟨fun _=>none,n⟩ fun r0 σ'=>∃r',fh σ'.get 6 r0=some r'/\R r'):Sound P f args ⟨g,n⟩ fun r σ'=>R r/\σ'=⟨g,n⟩:=by
 intro hs D ι w vs S U A
 refine(uD (g0:=g) (K:=R) ⟨eJ,hv,h⟩ (fun _ _ h=>h) S U A).mono ?_
 rintro e w' ⟨r,D',u,rfl,hR,T,S',hr⟩
 exact⟨r,g,n,D',ι,u,rfl,⟨hR,rfl⟩,T,S',U,Nat.le_refl _,hr⟩
theorem lQ.x {P:Program} (hm:P.follows .mixedOrders=true) {f:Nat} {args eJ:List AV} {R:AV->Prop} (h:lQ P f eJ R) {σ:ax} (hv:bY (dC σ.get) 6 args=some eJ):Call P f args σ fun r σ'=>R r/\σ'=σ:=
 gV (Dl hv (gr hm (h σ.next)))
theorem lQ.body {P:Program} {f:Nat} {args:List AV} {R:AV->Prop} {nt na:Nat} {body:VC} {res:List nP} (hf:lr P f=some ⟨nt,na,body,res⟩) (ha:na=args.length) (h:(∀a∈args,dZ a)->∀n:Nat,dO (Call P) body (kF res fun r0 σ'=>∃r',fh σ'.get 6 r0=some r'/\R r') (cm args) ⟨fun _=>none,n⟩):lQ P f args R:=fun n=>kO hf ha fun hl=>h hl n
def dv (f:Nat->Int) (n:Nat):List (List AV):=(List.range n).map fun i=>au (f i)
theorem di (f:Nat->Int) (n:Nat):(dv f n).length=n:=by simp[dv]
theorem dt {f:Nat->Int} {n i:Nat} (h:i<n):(dv f n)[i]? =some (au (f i)):=by simp[dv,h]
theorem j4 {f g:Nat->Int} {n k:Nat} {v:Int} (hk:k<n) (hv:g k=v) (h:∀i,i<n->i≠k->g i=f i):(dv f n).set k (au v)=dv g n:=by
 refine List.ext_getElem? fun i=>?_
 rw[List.getElem?_set]
 by_cases hi:k=i
 ·subst hi
  rw[if_pos rfl,di,if_pos hk,dt hk,hv]
 ·rw[if_neg hi]
  by_cases fb:i<n
  ·rw[dt fb,dt fb,h i fb (fun h=>hi h.symm)]
  ·rw[List.getElem?_eq_none (by rw[di];omega),List.getElem?_eq_none (by rw[di];omega)]
theorem Er (f:Nat->Int) (n:Nat):dv f (n+1)=dv f n++[au (f n)]:=by simp[dv,List.range_succ]
theorem fzI (g:Rows) (n:Nat) (a:Int):bY g (n+1) (au a)=some (au a):=by simp[au,ad,aj,aE]
theorem PV (g:Rows) (n:Nat) (a:Int):du g (n+1) (au a)=some (au a):=by simp[au,aM,bh,dK]
theorem GZ {g:Rows} {f:Nat->Int} {n m:Nat}:gh g (m+1) (dv f n)=some (dv f n):=by
 have:dv f n=((List.range n).map f).map au:=by simp[dv]
 rw[this];exact mW fun x=>PV g m x
theorem xb {g:Rows} {f:Nat->Int} {n m:Nat}:dy g (m+1) (dv f n)=some (dv f n):=by
 have:dv f n=((List.range n).map f).map au:=by simp[dv]
 rw[this];exact lx fun x=>fzI g m x
def LL (l:List Nat):AV:=if l=[]then .bE else .sl (l.map eN)
def ot (cnt:Nat) (bs:List PB) (m:Nat):List (List AV):=(List.range cnt).map fun v=>[LL (gZ bs m v)]
theorem zO {cnt:Nat} {bs:List PB} {m v:Nat} (h:v<cnt):(ot cnt bs m)[v]? =some [LL (gZ bs m v)]:=by simp[ot,h]
def fa (cnt:Nat) (bs:List PB) (f:Nat->Int):List AV:=[.int .i64 cnt,.sl (bs.map ay),.sl (ot cnt bs bs.length),.sl (dv f bs.length)]
theorem rR {bs:List PB} {e:Nat} (h:e<bs.length):(bs.map ay)[e]? =some (ay (bC bs e)):=getD_map ay h
def Small (bs:List PB) (f:Nat->Int):Prop:=∀e,e<bs.length->(0<=(bC bs e).s/\(bC bs e).s<=4)/\-4<=f e/\f e<=4
theorem GK (cnt:Nat) (bs:List PB) (f:Nat->Int) (hs:Small bs f) (e v:Nat) (he:e<bs.length):ai Tryz.prog 182 [.cH (fa cnt bs f),.int .i64 v,.int .i64 e] (.gU [.int .i64 (eY bs f e v),.int .i64 (bo bs e v)]):=by
 refine ai.body dP rfl fun hl n0=>?_
 clear hl
 have hb:=rR he
 have hf:=dt (f:=f) he
 obtain⟨⟨s0,s1⟩,s2,s3⟩:=hs e he
 have w1:IntKind.i64.wrap ((bC bs e).s-f e)=(bC bs e).s-f e:=aQ ab
 have w2:IntKind.i64.wrap ((bC bs e).s+f e)=(bC bs e).s+f e:=aQ ab
 unfold eY bo
 generalize bC bs e=b at *
 by_cases h:b.a=v
 ·have hd:decide ((b.a:Int)=(v:Int))=true:=decide_eq_true (by rw[h])
  (try((repeat(revert hN;revert N;apply Pn.out));refine wk (tw @fa.eq_1 (tw @hb (tw @hf (tw @ay.eq_1 (tw @au.eq_1 (tw @hd (tw @w1 @w2))))))) ?_;(repeat(refine Pn.mk ?_;intro N hN))))
  refine iK (.inl rfl) (by simp only[go_sem, ↓reduceIte,Nat.reduceEqDiff,Nat.reduceAdd,Nat.reduceSub,Nat.reduceLeDiff,reduceCtorEq];rfl) (by simp only[go_sem, ↓reduceIte,Nat.reduceEqDiff,Nat.reduceAdd,Nat.reduceSub,Nat.reduceLeDiff,reduceCtorEq];rfl) ?_
  simp only[ee,aM,bh,dK,Option.map_some,if_pos h]
 ·have hd:decide ((b.a:Int)=(v:Int))=false:=decide_eq_false fun hc=>h ab
  (try((repeat(revert hN;revert N;apply Pn.out));refine wk (tw @fa.eq_1 (tw @hb (tw @hf (tw @ay.eq_1 (tw @au.eq_1 (tw @hd (tw @w1 @w2))))))) ?_;(repeat(refine Pn.mk ?_;intro N hN))))
  refine iK (.inl rfl) (by simp only[go_sem, ↓reduceIte,Nat.reduceEqDiff,Nat.reduceAdd,Nat.reduceSub,Nat.reduceLeDiff,reduceCtorEq];rfl) (by simp only[go_sem, ↓reduceIte,Nat.reduceEqDiff,Nat.reduceAdd,Nat.reduceSub,Nat.reduceLeDiff,reduceCtorEq];rfl) ?_
  simp only[ee,aM,bh,dK,Option.map_some,if_neg h]
theorem CB (cnt:Nat) (hn:cnt<=1048576) (bs:List PB) (ok:lT cnt bs) (oU:bs.length<=1048576) (f:Nat->Int) (hs:Small bs f) (y:Nat) (hy:y<cnt):
  lQ Tryz.prog 167 [.cH (fa cnt bs f),.int .i64 y] fun r=>∃out,r=.sl (dv out cnt)/\vN cnt bs f y out:=by
 refine lQ.body dP rfl fun hl n0=>?_
 clear hl
 (try((repeat(revert hN;revert N;apply Pn.out));refine wk @fa.eq_1 ?_;(repeat(refine Pn.mk ?_;intro N hN))))
 refine aJ (fun n env st=>∃k:Nat,n=(cnt)-k/\k<=(cnt)/\env 6=.int .i64 (k:Int)/\(∃o:Id,env 5=.own o 0 k/\st.get o=some ⟨true,1,dv (fun _=>-1) k⟩/\o.bZ<st.next)) (cnt) ⟨0,ab,ab,sl @fa.eq_1,⟨⟨167001000,n0+1⟩,by(simp only[go_sem, ↓reduceIte,Nat.reduceEqDiff,Nat.reduceAdd,Nat.reduceSub,Nat.reduceLeDiff,reduceCtorEq])<;>rfl,by(simp only[go_sem, ↓reduceIte,Nat.reduceEqDiff,Nat.reduceAdd,Nat.reduceSub,Nat.reduceLeDiff,reduceCtorEq])<;>rfl,bD⟩⟩ ?_
 rintro n_a env_a st_a ⟨k,rfl,ale,a6,l7⟩ dE
 have a0:=dE 0 (by kernel_rfl);have a1:=dE 1 (by kernel_rfl)
 simp only[go_sem, ↓reduceIte,Nat.reduceEqDiff,Nat.reduceAdd,Nat.reduceSub,Nat.reduceLeDiff,reduceCtorEq,fa]at a0 a1
 clear dE
 obtain⟨o,a5,ag,qY⟩:=l7
 have tl:=di (fun _=>-1) k
 have mu:=eK qY
 by_cases hk:(k:Int)<(cnt:Int)
 ·have cl:∀{e:Env} {gg:Rows} {nx:Nat},(e 6=.int .i64 (IntKind.i64.wrap ((k:Int)+1)))->(∃o:Id,e 5=.own o 0 (k+1)/\gg o=some ⟨true,1,dv (fun _=>-1) (k+1)⟩/\o.bZ<nx)->∃m0,m0<(cnt)-k/\∃k:Nat,m0=(cnt)-k/\k<=(cnt)/\e 6=.int .i64 (k:Int)/\(∃o:Id,e 5=.own o 0 k/\gg o=some ⟨true,1,dv (fun _=>-1) k⟩/\o.bZ<nx):=fun x1 x2=>⟨_,ab,k+1,rfl,ab,(by rw[x1,aA ab]),x2⟩
  have e1:k+1<=16777216:=ab
  have qn:dv (fun _=>-1) k++[[.int .i64 (-1)]]=dv (fun _=>-1) (k+1):=(Er _ _).symm
  (try((repeat(revert hN;revert N;apply Pn.out));refine wk (tw @a6 (tw @a0 (tw @a1 (tw @a5 (tw @ag (tw @mu (tw @hk (tw @tl (tw @e1 (tw @qn @fa.eq_1)))))))))) ?_;(repeat(refine Pn.mk ?_;intro N hN))))
  exact cl (sd (tw @a6 (tw @a0 (tw @a1 @fa.eq_1)))) (⟨⟨167005002,st_a.next+1⟩,sd @Nat.zero_add,sd @qn,bD⟩)
 have kK:k=cnt:=ab
 subst kK
 have Pt:(y:Int)<(k:Int):=ab
 have hym:=dt (f:=fun _=>-1) hy
 have yK:(dv (fun _=>-1) k).set y (au 0)=dv (fun v=>if v=y then 0 else -1) k:=j4 hy (if_pos rfl) fun i _ hi=>if_neg hi
 rw[au]at yK hym
 (try((repeat(revert hN;revert N;apply Pn.out));refine wk (tw @a6 (tw @a0 (tw @a1 (tw @a5 (tw @ag (tw @mu (tw @hk (tw @tl (tw @Pt (tw @hym (tw @yK @fa.eq_1))))))))))) ?_;(repeat(refine Pn.mk ?_;intro N hN))))
 refine aJ (fun m env st=>∃(i:Nat) (out:Nat->Int) (Q:List Nat) (p:Id),m=k-i/\env 8=.int .i64 (i:Int)/\env 7=.own p 0 Q.length/\st.get p=some ⟨true,1,Q.map eN⟩/\st.get o=some ⟨true,1,dv out k⟩/\o.bZ<p.bZ/\p.bZ<st.next/\xi k bs f y out Q i/\i<=Q.length) k ⟨0,_,[y],⟨167007001,st_a.next+1+1⟩,ab,by(simp only[go_sem, ↓reduceIte,Nat.reduceEqDiff,Nat.reduceAdd,Nat.reduceSub,Nat.reduceLeDiff,reduceCtorEq])<;>rfl,by(simp only[go_sem, ↓reduceIte,Nat.reduceEqDiff,Nat.reduceAdd,Nat.reduceSub,Nat.reduceLeDiff,reduceCtorEq])<;>rfl,by(simp only[go_sem, ↓reduceIte,Nat.reduceEqDiff,Nat.reduceAdd,Nat.reduceSub,Nat.reduceLeDiff,reduceCtorEq])<;>rfl,sd @mu,bD,bD,xi.start hy,by simp⟩ ?_
 rintro n env_b st_b ⟨i,out,Q,p,rfl,b8,b7,bgp,bgo,dB,hpn,hB,hiq⟩ bfr
 have b0:=bfr 0 (by kernel_rfl)
 have b5:=bfr 5 (by kernel_rfl)
 simp only[go_sem, ↓reduceIte,Nat.reduceEqDiff,Nat.reduceAdd,Nat.reduceSub,Nat.reduceLeDiff,reduceCtorEq,a6,a0,a1,a5,fa]at b0 b5
 clear bfr
 have hql:=hB.len
 have Py:=di out k
 have hqm:(Q.map eN).length=Q.length:=by simp
 have xt:=eK hpn
 have nV:=eK (i:=o) (n:=st_b.next) ab
 by_cases hi:(i:Int)<(Q.length:Int)
 ·have fb:i<Q.length:=ab
  have nA:(Q.map eN)[i]? =some (eN Q[i]):=by simp[fb]
  have JP:=hB.lt _ (List.getElem_mem fb)
  obtain⟨vt,Lk⟩:∃vt,vt=Q[i]:=⟨_,rfl⟩
  rw[<-Lk]at nA JP
  have hA:=zO (cnt:=k) (bs:=bs) (m:=bs.length) JP
  have EL:(vt:Int)<(k:Int):=ab
  have oe:=pr bs bs.length vt
  have hme:∀x,x<(gZ bs bs.length vt).length->(gZ bs bs.length vt).getD x 0<bs.length/\BN bs ((gZ bs bs.length vt).getD x 0) vt:=fun x hx=>by
   rw[List.getD_eq_getElem?_getD,List.getElem?_eq_getElem hx]
   exact pv.1 (List.getElem_mem hx)
  have NS:∀e∈gZ bs bs.length vt,∃x,x<(gZ bs bs.length vt).length/\(gZ bs bs.length vt).getD x 0=e:=fun e he=>by
   obtain⟨x,hx,rfl⟩:=List.getElem_of_mem he
   exact⟨x,hx,by rw[List.getD_eq_getElem?_getD,List.getElem?_eq_getElem hx];rfl⟩
  generalize hIn:gZ bs bs.length vt=I at *
  unfold LL at hA
  by_cases Qc:I=[]
  ·rw[if_pos Qc]at hA
   have hI1:I.length=0:=by rw[Qc];rfl
   (try((repeat(revert hN;revert N;apply Pn.out));refine wk (tw @b0 (tw @b5 (tw @b7 (tw @b8 (tw @bgp (tw @hi (tw @nA (tw @hqm (tw @eN.eq_1 @fa.eq_1))))))))) ?_;(repeat(refine Pn.mk ?_;intro N hN))))
   refine aJ (fun n env st=>∃x:Nat,n=(I.length)-x/\x<=(I.length)/\env 10=.int .i64 (x:Int)/\(∃(gR:Nat->Int) (Q':List Nat) (p':Id),env 7=.own p' 0 Q'.length/\st.get p'=some ⟨true,1,Q'.map eN⟩/\st.get o=some ⟨true,1,dv gR k⟩/\o.bZ<p'.bZ/\p'.bZ<st.next/\xi k bs f y gR Q' i/\(∃h:i<Q'.length,Q'[i]=vt)/\(∀z,z<x->0<eY bs f (I.getD z 0) (bo bs (I.getD z 0) vt)->0<=gR (bo bs (I.getD z 0) vt)))) (I.length) ⟨0,ab,ab,sl (tw @b0 (tw @b5 (tw @b8 @fa.eq_1))),⟨out,Q,p,sd @b7,sd @bgp,sd @bgo,dB,bD,hB,⟨fb,Lk.symm⟩,fun z hz=>ab⟩⟩ ?_
   rintro n_c env_c st_c ⟨x,rfl,cle,iO,cI0⟩ cfr
   have c0:=cfr 0 (by kernel_rfl);have c5:=cfr 5 (by kernel_rfl);have c8:=cfr 8 (by kernel_rfl);have c9:=cfr 9 (by kernel_rfl)
   simp only[go_sem, ↓reduceIte,Nat.reduceEqDiff,Nat.reduceAdd,Nat.reduceSub,Nat.reduceLeDiff,reduceCtorEq,b0,b5,b8,fa]at c0 c5 c8 c9
   clear cfr
   obtain⟨gR,Q',p',c7,Fk,uN,AG,K7,dk,⟨uh,oI⟩,Hy⟩:=cI0
   have QR:=dk.len
   have LQ:=di gR k
   have K9:(Q'.map eN).length=Q'.length:=by simp
   have wE:=eK K7
   have kX:=eK (i:=o) (n:=st_c.next) ab
   have x1:=dp AG
   have hx:¬(x:Int)<((0:Nat):Int):=ab
   have hxe:x=I.length:=ab
   have hw:IntKind.i64.wrap ((i:Int)+1)=((i+1:Nat):Int):=aA ab
   (try((repeat(revert hN;revert N;apply Pn.out));refine wk (tw @iO (tw @c0 (tw @c5 (tw @c8 (tw @c9 (tw @c7 (tw @hx (tw @hA (tw @EL @fa.eq_1))))))))) ?_;(repeat(refine Pn.mk ?_;intro N hN))))
   refine⟨_,?_,i+1,gR,Q',p',rfl,sd (tw @iO (tw @c0 (tw @c5 (tw @c8 (tw @c9 @hw))))),sd @c7,sd @Fk,sd @uN,AG,bD,dk.next uh fun e he hr=>?_,ab⟩
   ·omega
   ·rw[oI,hIn]at he
    rw[oI]at hr ⊢
    obtain⟨z,hz,rfl⟩:=NS e he
    exact Hy z ab hr
  ·rw[if_neg Qc]at hA
   have oE:(I.map eN).length=I.length:=by simp
   (try((repeat(revert hN;revert N;apply Pn.out));refine wk (tw @b0 (tw @b5 (tw @b7 (tw @b8 (tw @bgp (tw @hi (tw @nA (tw @hqm (tw @eN.eq_1 @fa.eq_1))))))))) ?_;(repeat(refine Pn.mk ?_;intro N hN))))
   refine aJ (fun n env st=>∃x:Nat,n=(I.length)-x/\x<=(I.length)/\env 10=.int .i64 (x:Int)/\(∃(gR:Nat->Int) (Q':List Nat) (p':Id),env 7=.own p' 0 Q'.length/\st.get p'=some ⟨true,1,Q'.map eN⟩/\st.get o=some ⟨true,1,dv gR k⟩/\o.bZ<p'.bZ/\p'.bZ<st.next/\xi k bs f y gR Q' i/\(∃h:i<Q'.length,Q'[i]=vt)/\(∀z,z<x->0<eY bs f (I.getD z 0) (bo bs (I.getD z 0) vt)->0<=gR (bo bs (I.getD z 0) vt)))) (I.length) ⟨0,ab,ab,sl (tw @b0 (tw @b5 (tw @b8 @fa.eq_1))),⟨out,Q,p,sd @b7,sd @bgp,sd @bgo,dB,bD,hB,⟨fb,Lk.symm⟩,fun z hz=>ab⟩⟩ ?_
   rintro n_c env_c st_c ⟨x,rfl,cle,iO,cI0⟩ cfr
   have c0:=cfr 0 (by kernel_rfl);have c5:=cfr 5 (by kernel_rfl);have c8:=cfr 8 (by kernel_rfl);have c9:=cfr 9 (by kernel_rfl)
   simp only[go_sem, ↓reduceIte,Nat.reduceEqDiff,Nat.reduceAdd,Nat.reduceSub,Nat.reduceLeDiff,reduceCtorEq,b0,b5,b8,fa]at c0 c5 c8 c9
   clear cfr
   obtain⟨gR,Q',p',c7,Fk,uN,AG,K7,dk,⟨uh,oI⟩,Hy⟩:=cI0
   have QR:=dk.len
   have LQ:=di gR k
   have K9:(Q'.map eN).length=Q'.length:=by simp
   have wE:=eK K7
   have kX:=eK (i:=o) (n:=st_c.next) ab
   have x1:=dp AG
   by_cases hx:(x:Int)<(I.length:Int)
   ·have gm:∀{e:Env} {gg:Rows} {nx:Nat},(e 10=.int .i64 (IntKind.i64.wrap ((x:Int)+1)))->(∃(gR:Nat->Int) (Q':List Nat) (p':Id),e 7=.own p' 0 Q'.length/\gg p'=some ⟨true,1,Q'.map eN⟩/\gg o=some ⟨true,1,dv gR k⟩/\o.bZ<p'.bZ/\p'.bZ<nx/\xi k bs f y gR Q' i/\(∃h:i<Q'.length,Q'[i]=vt)/\(∀z,z<(x+1)->0<eY bs f (I.getD z 0) (bo bs (I.getD z 0) vt)->0<=gR (bo bs (I.getD z 0) vt)))->∃m0,m0<(I.length)-x/\∃x:Nat,m0=(I.length)-x/\x<=(I.length)/\e 10=.int .i64 (x:Int)/\(∃(gR:Nat->Int) (Q':List Nat) (p':Id),e 7=.own p' 0 Q'.length/\gg p'=some ⟨true,1,Q'.map eN⟩/\gg o=some ⟨true,1,dv gR k⟩/\o.bZ<p'.bZ/\p'.bZ<nx/\xi k bs f y gR Q' i/\(∃h:i<Q'.length,Q'[i]=vt)/\(∀z,z<x->0<eY bs f (I.getD z 0) (bo bs (I.getD z 0) vt)->0<=gR (bo bs (I.getD z 0) vt))):=fun x1 x2=>⟨_,ab,x+1,rfl,ab,(by rw[x1,aA ab]),x2⟩
    have MI:x<I.length:=ab
    have KF:(I.map eN)[x]? =some (eN (I.getD x 0)):=getD_map eN MI
    obtain⟨he,nU⟩:=hme x MI
    obtain⟨e,O8⟩:∃e,e=I.getD x 0:=⟨_,rfl⟩
    rw[<-O8]at KF he nU
    have gQ:=rR he
    have hq:=m8 ok (v:=vt) he
    have Pk:=nf ok he nU
    have Le:=GK k bs f hs e (bo bs e vt) he
    have NC:=ok e he
    have mm:IntKind.i64.wrap (((bC bs e).a:Int)+((bC bs e).b:Int))=((bC bs e).a:Int)+((bC bs e).b:Int):=aQ ab
    have AL:IntKind.i64.wrap (((bC bs e).a:Int)+((bC bs e).b:Int)-(vt:Int))=(bo bs e vt:Int):=by
     rw[aQ ab]
     unfold bo
     rcases nU with h1|h1
     ·rw[if_pos h1];omega
     ·rw[if_neg fun h2=>NC.2.2 (h2.trans h1.symm)];omega
    have MA:(bo bs e vt:Int)<(k:Int):=ab
    have KV:=dt (f:=gR) hq
    have Ic:=dt (f:=gR) JP
    rw[fa]at Le
    have u3:=dk.up i uh
    rw[oI]at u3
    have jH:=dk.lo vt JP
    have N9:IntKind.i64.wrap (gR vt+1)=gR vt+1:=aQ ab
    rw[au]at KV Ic
    generalize r4:bC bs e=b at *
    by_cases jo:gR (bo bs e vt)<0
    ·by_cases fc:0<eY bs f e (bo bs e vt)
     ·have hV:=dk.visit ok uh (e:=e) he (by rw[oI];exact nU) (by rw[oI];exact jo) (by rw[oI];exact fc)
      rw[oI]at hV
      have dQ:(dv gR k).set (bo bs e vt) (au (gR vt+1))=dv (fun v=>if v=bo bs e vt then gR vt+1 else gR v) k:=j4 hq (if_pos rfl) fun v _ hv=>if_neg hv
      rw[au]at dQ
      have e1:Q'.length+1<=16777216:=ab
      (repeat(first|((repeat(revert hN;revert N;apply Pn.out));refine wk (tw @iO (tw @c0 (tw @c5 (tw @c8 (tw @c9 (tw @c7 (tw @Fk (tw @uN (tw @hx (tw @hA (tw @oE (tw @KF (tw @EL (tw @gQ (tw @mm (tw @AL (tw @MA (tw @KV (tw @Ic (tw @jo (tw @fc (tw @N9 (tw @dQ (tw @K9 (tw @LQ (tw @wE (tw @kX (tw @x1 (tw @e1 (tw @eN.eq_1 (tw @ay.eq_1 @fa.eq_1))))))))))))))))))))))))))))))) ?_;(repeat(refine Pn.mk ?_;intro N hN)))|((try apply Or.inl);refine⟨_,ai.x (Le) (sd (tw @iO (tw @c0 (tw @c5 (tw @c8 (tw @c9 (tw @c7 (tw @Fk (tw @uN (tw @hx (tw @hA (tw @oE (tw @KF (tw @EL (tw @gQ (tw @mm (tw @AL (tw @MA (tw @KV (tw @Ic (tw @jo (tw @fc (tw @N9 (tw @dQ (tw @K9 (tw @LQ (tw @wE (tw @kX (tw @x1 (tw @e1 (tw @eN.eq_1 (tw @ay.eq_1 @fa.eq_1)))))))))))))))))))))))))))))))),?_⟩;refine hN _ _ ?_;clear hN N)))
      exact gm (sd (tw @iO (tw @c0 (tw @c5 (tw @c8 @c9))))) (⟨_,Q'++[bo bs e vt],⟨167020003,st_c.next+1+1+1+1+1+1⟩,by rw[List.length_append];simp only[go_sem, ↓reduceIte,Nat.reduceEqDiff,Nat.reduceAdd,Nat.reduceSub,Nat.reduceLeDiff,reduceCtorEq,List.length_cons,List.length_nil],by rw[List.map_append,List.map_cons,List.map_nil];simp only[go_sem, ↓reduceIte,Nat.reduceEqDiff,Nat.reduceAdd,Nat.reduceSub,Nat.reduceLeDiff,reduceCtorEq,eN],sd (tw @kX @x1),bD,bD,hV,⟨by simp;omega,by rw[List.getElem_append_left uh];exact oI⟩,fun z hz hr=>by
       by_cases Of:z=x
       ·subst Of
        rw[<-O8,if_pos rfl]
        have:=(dk.iff vt JP).2 (by rw[<-oI];exact List.getElem_mem uh)
        omega
       ·have:=Hy z ab hr
        split
        ·have:=(dk.iff vt JP).2 (by rw[<-oI];exact List.getElem_mem uh)
         omega
        ·exact this⟩)
     ·(repeat(first|((repeat(revert hN;revert N;apply Pn.out));refine wk (tw @iO (tw @c0 (tw @c5 (tw @c8 (tw @c9 (tw @c7 (tw @Fk (tw @uN (tw @hx (tw @hA (tw @oE (tw @KF (tw @EL (tw @gQ (tw @mm (tw @AL (tw @MA (tw @KV (tw @jo (tw @fc (tw @LQ (tw @wE (tw @kX (tw @x1 (tw @eN.eq_1 (tw @ay.eq_1 @fa.eq_1)))))))))))))))))))))))))) ?_;(repeat(refine Pn.mk ?_;intro N hN)))|((try apply Or.inl);refine⟨_,ai.x (Le) (sd (tw @iO (tw @c0 (tw @c5 (tw @c8 (tw @c9 (tw @c7 (tw @Fk (tw @uN (tw @hx (tw @hA (tw @oE (tw @KF (tw @EL (tw @gQ (tw @mm (tw @AL (tw @MA (tw @KV (tw @jo (tw @fc (tw @LQ (tw @wE (tw @kX (tw @x1 (tw @eN.eq_1 (tw @ay.eq_1 @fa.eq_1))))))))))))))))))))))))))),?_⟩;refine hN _ _ ?_;clear hN N)))
      exact gm (sd (tw @iO (tw @c0 (tw @c5 (tw @c8 @c9))))) (⟨gR,Q',p',sd @c7,sd (tw @Fk @wE),sd (tw @uN @kX),AG,bD,dk,⟨uh,oI⟩,fun z hz hr=>by
       by_cases Of:z=x
       ·subst Of;rw[<-O8]at hr;exact absurd hr fc
       ·exact Hy z ab hr⟩)
    ·(repeat(first|((repeat(revert hN;revert N;apply Pn.out));refine wk (tw @iO (tw @c0 (tw @c5 (tw @c8 (tw @c9 (tw @c7 (tw @Fk (tw @uN (tw @hx (tw @hA (tw @oE (tw @KF (tw @EL (tw @gQ (tw @mm (tw @AL (tw @MA (tw @KV (tw @jo (tw @LQ (tw @wE (tw @kX (tw @x1 (tw @eN.eq_1 (tw @ay.eq_1 @fa.eq_1))))))))))))))))))))))))) ?_;(repeat(refine Pn.mk ?_;intro N hN)))|((try apply Or.inl);refine⟨_,ai.x (Le) (sd (tw @iO (tw @c0 (tw @c5 (tw @c8 (tw @c9 (tw @c7 (tw @Fk (tw @uN (tw @hx (tw @hA (tw @oE (tw @KF (tw @EL (tw @gQ (tw @mm (tw @AL (tw @MA (tw @KV (tw @jo (tw @LQ (tw @wE (tw @kX (tw @x1 (tw @eN.eq_1 (tw @ay.eq_1 @fa.eq_1)))))))))))))))))))))))))),?_⟩;refine hN _ _ ?_;clear hN N)))
     exact gm (sd (tw @iO (tw @c0 (tw @c5 (tw @c8 @c9))))) (⟨gR,Q',p',sd @c7,sd (tw @Fk @wE),sd (tw @uN @kX),AG,bD,dk,⟨uh,oI⟩,fun z hz hr=>by
      by_cases Of:z=x
      ·subst Of;rw[<-O8];omega
      ·exact Hy z ab hr⟩)
   ·have hxe:x=I.length:=ab
    have hw:IntKind.i64.wrap ((i:Int)+1)=((i+1:Nat):Int):=aA ab
    (try((repeat(revert hN;revert N;apply Pn.out));refine wk (tw @iO (tw @c0 (tw @c5 (tw @c8 (tw @c9 (tw @c7 (tw @hx (tw @hA (tw @oE (tw @EL @fa.eq_1)))))))))) ?_;(repeat(refine Pn.mk ?_;intro N hN))))
    refine⟨_,?_,i+1,gR,Q',p',rfl,sd (tw @iO (tw @c0 (tw @c5 (tw @c8 (tw @c9 @hw))))),sd @c7,sd @Fk,sd @uN,AG,bD,dk.next uh fun e he hr=>?_,ab⟩
    ·omega
    ·rw[oI,hIn]at he
     rw[oI]at hr ⊢
     obtain⟨z,hz,rfl⟩:=NS e he
     exact Hy z ab hr
 ·(try((repeat(revert hN;revert N;apply Pn.out));refine wk (tw @b0 (tw @b5 (tw @b7 (tw @b8 (tw @hi @fa.eq_1))))) ?_;(repeat(refine Pn.mk ?_;intro N hN))))
  have ql:fh st_b.get 6 (.own o 0 k)=some (.sl (dv out k)):=pe bgo (by rw[Py];omega) (by rw[List.drop_zero,List.take_of_length_le (by rw[Py];omega)];exact GZ)
  exact⟨_,rfl,_,by simp only[go_sem, ↓reduceIte,Nat.reduceEqDiff,Nat.reduceAdd,Nat.reduceSub,Nat.reduceLeDiff,reduceCtorEq,dJ];exact ql,out,rfl,hB.done ok ab⟩
end Go.Proofs.YtihgaadadaekmaaGreatDoor.V

namespace Go.Proofs.YtihgaadadaekmaaGreatDoor.V
open Go.RowKit
attribute [local irreducible] dO wpOps gO Call
attribute [local go_sem] aH fF eF fR fQ cu upd cm K.av cJ AV.cells AV.cell rowOf rowsOf part ld rowAt bI bU dG ei il bJ da eB fW eZ dq ep cY cX dU dV bP bd cQ bL cT cR ek er eo cP bS cZ ej bK aL cV cw ik br cI bQ aZ dz bl dI AV.undef bB bH dY eh dR ea cE eA eE cr ev eu cU cW List.getD_cons_zero List.getD_cons_succ List.getD_nil List.all_cons List.all_nil Bool.and_true Bool.true_and Bool.and_self Bool.not_true Bool.not_false Option.map_some Option.map_none Option.bind_some Option.bind_none List.length_cons List.length_nil List.take_succ_cons List.take_zero List.take_nil List.drop_succ_cons List.drop_zero List.drop_nil List.head?_cons List.map_cons List.map_nil List.getElem?_cons_zero List.getElem?_cons_succ List.cons_append List.nil_append List.append_nil List.length_map List.set_cons_zero List.set_cons_succ eq_self Int.toNat_natCast Int.natCast_nonneg and_self true_and and_true decide_true decide_false Bool.false_eq_true Nat.zero_add Nat.add_zero List.contains_cons List.contains_nil Bool.or_false Bool.false_or beq_self_eq_true ne_eq not_true_eq_false not_false_eq_true Id.mk.injEq false_and and_false Nat.le_refl List.length_append beq_true beq_false Bool.not_eq_eq_eq_not or_false false_or dC ad aj aE bz cj aT bj aX bf cK bG
def Me:uC (List Nat):=fun g cs x ids=>(x=[]/\cs=[.bE]/\ids=[])∨∃id,cs=[.own id 0 x.length]/\0<x.length/\g id=some ⟨true,1,x.map eN⟩/\ids=[id]
theorem JV:rD Me 1 where
 frame:=fun h hf=>by
  rcases h with h|⟨id,h1,h0,h2,h3⟩
  ·exact .inl h
  ·subst h3;exact .inr ⟨id,h1,h0,(hf id (by simp)).trans h2,rfl⟩
 len:=fun h=>by rcases h with⟨_,h,_⟩|⟨id,h,_⟩<;>subst h<;>rfl
 cell:=fun h=>by rcases h with⟨_,h,_⟩|⟨id,h,_⟩<;>subst h<;>rfl
 live:=fun h i hi=>by
  rcases h with⟨_,_,h⟩|⟨id,h1,h0,h2,h3⟩
  ·subst h;cases hi
  ·subst h3
   have:i=id:=by simpa using hi
   subst this
   exact⟨_,h2,rfl,by simp[nW]⟩
 small:=by simp[nW]
theorem Lt {g:Rows} {rows:List (List AV)} {xs:List (List Nat)} {ids:List Id} (n:Nat) (h:dM Me g rows xs ids):dy (dC g) (n+2) rows=some (xs.map fun l=>[LL l]):=
 h.fz (fun {cs x ids} h=>by
  rcases h with⟨h0,h1,_⟩|⟨id,h1,h0,h2,_⟩
  ·subst h0 h1;rw[ad,aj,aT];rfl
  ·have gF:x≠[]:=by rintro rfl;simp at h0
   subst h1
   rw[ad,aj,fw (e:=eN) (sz:=1) (by simp[dC,h2]) rfl fun a=>fzN _ n a]
   simp[LL,gF])
theorem dM.Ox {α:Type} {R:uC α} {sz:Nat} {g:Rows} {rows:List (List AV)} {xs:List α} {ids:List Id} (ok:rD R sz) (h:dM R g rows xs ids) (lD:ids.Nodup) (k:Nat) (hk:k<xs.length):
  ∃cs ic,rows[k]? =some cs/\R g cs xs[k] ic/\(∀i∈ic,i∈ids)/\∀(g':Rows) n8 x' ML,R g' n8 x' ML->(∀i∈ids,i∉ic->g' i=g i)->ML.Nodup->(∀i∈ML,i∉ids)->∃AO,dM R g' (rows.set k n8) (xs.set k x') AO/\AO.Nodup/\∀i∈AO,i∈ML∨i∈ids:=by
 obtain⟨r1,cs,r2,i1,ic,i2,rfl,rfl,rfl,h3,h4,h5⟩:=h.split k hk
 obtain⟨n1,n2,n3⟩:=List.nodup_append.1 lD
 obtain⟨nc,n5,n4⟩:=List.nodup_append.1 n2
 refine⟨cs,ic,by simp,h4,fun i hi=>by simp[hi],fun g' n8 x' ML hR hf hn' jO=>⟨i1++(ML++i2),?_,?_,fun i hi=>?_⟩⟩
 ·have e:xs.set r1.length x'=xs.take r1.length++x'::xs.drop (r1.length+1):=by rw[List.set_eq_take_append_cons_drop,if_pos hk]
  have e2:(r1++cs::r2).set r1.length n8=r1++n8::r2:=by simp
  rw[e,e2]
  refine(h3.frame ok fun i hi=>hf i (by simp[hi]) fun hc=>n3 i hi i (by simp[hc]) rfl).app (.cons hR (h5.frame ok fun i hi=>hf i (by simp[hi]) fun hc=>n4 i hc i hi rfl))
 ·rw[List.nodup_append,List.nodup_append]
  refine⟨n1,⟨hn',n5,fun x hx y hy he=>?_⟩,fun x hx y hy he=>?_⟩
  ·subst he;exact jO x hx (by simp[hy])
  ·subst he
   rcases List.mem_append.1 hy with hy|hy
   ·exact jO x hy (by simp[hx])
   ·exact n3 x hx x (by simp[hy]) rfl
 ·rcases List.mem_append.1 hi with hi|hi
  ·exact .inr (by simp[hi])
  ·rcases List.mem_append.1 hi with hi|hi
   ·exact .inl hi
   ·exact .inr (by simp[hi])
def oX (A:Id) (lo:Nat) (L:List (List Nat)) (g:Rows) (nx:Nat):Prop:=∃rows ids,g A=some ⟨true,1,rows⟩/\dM Me g rows L ids/\ids.Nodup/\∀i∈ids,lo<i.bZ/\i.bZ<nx
def bc (cnt:Nat) (bs:List PB) (A F:Id):List AV:=[.int .i64 cnt,.sl (bs.map ay),.own A 0 cnt,.own F 0 bs.length]
def ke (cnt:Nat) (bs:List PB) (m:Nat):List (List Nat):=(List.range cnt).map fun v=>gZ bs m v
theorem iE (cnt:Nat) (bs:List PB) (m:Nat):(ke cnt bs m).length=cnt:=by simp[ke]
structure mA (cnt:Nat) (bs:List PB) (f:Nat->Int) (X A F:Id) (g:Rows) (nx:Nat):Prop where
 x:g X=some ⟨true,4,[bc cnt bs A F]⟩
 a:oX A F.bZ (ke cnt bs bs.length) g nx
 f:g F=some ⟨true,1,dv f bs.length⟩
 xa:X.bZ<A.bZ
 af:A.bZ<F.bZ
 fn:F.bZ<nx
theorem oX.fz {A:Id} {lo cnt:Nat} {bs:List PB} {m nx n:Nat} {g:Rows} (h:oX A lo (ke cnt bs m) g nx):V.fz (dC g) (n+3) (.own A 0 cnt)=some (.sl (ot cnt bs m)):=by
 obtain⟨rows,ids,h1,h2,_,_⟩:=h
 have hl:=h2.len
 rw[iE]at hl
 rw[gi]
 simp only[dC,h1,Option.map_some,if_true]
 rw[if_pos ab,List.drop_zero,List.take_of_length_le ab]
 have:=Lt n h2
 rw[this]
 simp[ke,ot]
theorem mA.fz {cnt:Nat} {bs:List PB} {f:Nat->Int} {X A F:Id} {g:Rows} {nx:Nat} (h:mA cnt bs f X A F g nx):V.fz (dC g) 6 (.ptr X 0 0)=some (.cH (fa cnt bs f)):=by
 have hF:dC g F=some ⟨true,1,dv f bs.length⟩:=by simp[dC,h.f]
 have hX:dC g X=some ⟨true,4,[bc cnt bs A F]⟩:=by simp[dC,h.x]
 have hf:V.fz (dC g) 5 (.own F 0 bs.length)=some (.sl (dv f bs.length)):=by
  rw[gi]
  simp only[hF,if_true]
  rw[if_pos (by rw[di];omega),List.drop_zero,List.take_of_length_le (by rw[di];omega),xb];rfl
 have ha:=h.a.fz (n:=2)
 rw[bf]
 simp only[hX,if_true,List.getElem?_cons_zero,List.drop_zero,bc,ad,aj,aE,cj,ha,hf,Option.map_some,fa]
theorem DF (cnt:Nat) (bs:List PB):ke cnt bs 0=List.replicate cnt []:=by
 refine List.ext_getElem? fun i=>?_
 simp only[ke,List.getElem?_map,List.getElem?_replicate]
 by_cases h:i<cnt
 ·rw[List.getElem?_range h,if_pos h];rfl
 ·rw[List.getElem?_eq_none (by simpa using h),if_neg h];rfl
theorem vE (g:Rows):∀n:Nat,dM Me g (List.replicate n [.bE]) (List.replicate n []) []
 |0=>.nil
 |n+1=>.cons (i1:=[]) (.inl ⟨rfl,rfl,rfl⟩) (vE g n)
def ur (cnt:Nat) (bs:List PB) (m:Nat):List (List Nat):=(ke cnt bs m).set (bC bs m).a (gZ bs m (bC bs m).a++[m])
theorem yP {cnt:Nat} {bs:List PB} {m v:Nat} (hv:v<cnt) (gF:(bC bs m).a≠v):(ur cnt bs m)[v]? =some (gZ bs m v):=by
 unfold ur
 rw[List.getElem?_set_ne gF]
 simp[ke,hv]
theorem DE {cnt:Nat} {bs:List PB} {m:Nat} (ha:(bC bs m).a<cnt) (hb:(bC bs m).b<cnt) (gF:(bC bs m).a≠(bC bs m).b):(ur cnt bs m).set (bC bs m).b (gZ bs m (bC bs m).b++[m])=ke cnt bs (m+1):=by
 refine List.ext_getElem? fun i=>?_
 by_cases hi:i<cnt
 ·have hr:(ke cnt bs (m+1))[i]? =some (gZ bs (m+1) i):=by simp[ke,hi]
  rw[hr,DH]
  by_cases h1:(bC bs m).b=i
  ·rw[List.getElem?_set,if_pos h1,if_pos (by simp[ur,iE];omega),if_pos (.inr h1),h1]
  ·rw[List.getElem?_set_ne h1]
   by_cases h2:(bC bs m).a=i
   ·unfold ur
    rw[List.getElem?_set,if_pos h2,if_pos (by rw[iE];omega),if_pos (.inl h2),h2]
   ·rw[yP hi h2,if_neg (fun h=>h.elim h2 h1),List.append_nil]
 ·rw[List.getElem?_eq_none (by simp[ur,iE];omega),List.getElem?_eq_none (by rw[iE];omega)]
theorem jL {α:Type} {l:List α} {k:Nat} {x:α} (h:l[k]? =some x) (hk:k<l.length):l[k]=x:=by
 rw[List.getElem?_eq_getElem hk]at h;exact Option.some.inj h
theorem Cu {A K:Id} {lo Ot nx k j:Nat} {L:List (List Nat)} {La:List Nat} {g:Rows} {rows:List (List AV)} {ids:List Id} (hR:dM Me g rows L ids) (lD:ids.Nodup) (ml:∀i∈ids,lo<i.bZ/\i.bZ<Ot) (hA:A.bZ<=lo) (hL:L[k]? =some La) (hK1:Ot<=K.bZ) (Np:K.bZ<nx) (jH:lo<Ot):
  ∃cs,rows[k]? =some cs/\((La=[]/\cs=[.bE])∨∃id:Id,cs=[.own id 0 La.length]/\0<La.length/\g id=some ⟨true,1,La.map eN⟩/\id.bZ<Ot/\lo<id.bZ)/\
   ∀g':Rows,g' A=some ⟨true,1,rows.set k [.own K 0 (La.length+1)]⟩->g' K=some ⟨true,1,La.map eN++[[.int .i64 j]]⟩->(∀i:Id,i.bZ<Ot->(i=A)=False->(∀id,cs=[.own id 0 La.length]->(i=id)=False)->g' i=g i)->oX A lo (L.set k (La++[j])) g' nx:=by
 have hk:k<L.length:=(List.getElem?_eq_some_iff.1 hL).1
 have Qd:=jL hL hk
 obtain⟨cs,ic,dh,Mo,NM,wC⟩:=hR.Ox JV lD k hk
 rw[Qd]at Mo
 refine⟨cs,dh,?_,fun g' h1 h2 h3=>?_⟩
 ·rcases Mo with⟨h1,h2,_⟩|⟨id,h1,h2,h3,h4⟩
  ·exact .inl ⟨h1,h2⟩
  ·subst h4
   have:=ml id (NM id (by simp))
   exact .inr ⟨id,h1,h2,h3,this.2,this.1⟩
 ·obtain⟨AO,q1,q2,q3⟩:=wC g' [.own K 0 (La.length+1)] (La++[j]) [K] (.inr ⟨K,by simp,by simp,by rw[h2];simp[eN],rfl⟩) (fun i hi Mv=>by
   refine h3 i (ml i hi).2 ?_ fun id hid=>?_
   ·simp only[eq_iff_iff,iff_false];rintro rfl;have:=ml _ hi;omega
   ·simp only[eq_iff_iff,iff_false]
    rintro rfl
    rcases Mo with⟨_,h4,_⟩|⟨jP,h4,_,_,h5⟩
    ·rw[hid]at h4;cases h4
    ·rw[hid]at h4
     simp only[List.cons.injEq,AV.own.injEq,and_true]at h4
     rw[h5,h4]at Mv
     exact Mv (by simp)) (by simp) fun i hi hc=>by
   rw[List.mem_singleton.1 hi]at hc;have:=ml _ hc;omega
  refine⟨_,AO,h1,q1,q2,fun i hi=>?_⟩
  rcases q3 i hi with h|h
  ·rw[List.mem_singleton.1 h];omega
  ·have:=ml i h;omega
theorem Jg {P:Program} {Q:Ex->Env->ax->Prop} {c:VC} {env:Env} {σ:ax} (I:Env->ax->Prop) (h2:∀e s,I e s->Q .normal e s) (h1:∀N':Env->ax->Prop,(∀e s,I e s->N' e s)->dO (Call P) c (dz N' Q) env σ):dO (Call P) c Q env σ:=by
 refine j7 (fun _ _ _ _ h=>h) aO c _ _ env σ (fun x e s h=>?_) (h1 I fun _ _ h=>h)
 cases x with
 |normal=>exact h2 e s h
 |exit id=>exact h
 |ret=>exact h
end Go.Proofs.YtihgaadadaekmaaGreatDoor.V

namespace Go.Proofs.YtihgaadadaekmaaGreatDoor.V
open Go.RowKit
attribute [local irreducible] dO wpOps gO Call
attribute [local go_sem] aH fF eF fR fQ cu upd cm K.av cJ AV.cells AV.cell rowOf rowsOf part ld rowAt bI bU dG ei il bJ da eB fW eZ dq ep cY cX dU dV bP bd cQ bL cT cR ek er eo cP bS cZ ej bK aL cV cw ik br cI bQ aZ dz bl dI AV.undef bB bH dY eh dR ea cE eA eE cr ev eu cU cW List.getD_cons_zero List.getD_cons_succ List.getD_nil List.all_cons List.all_nil Bool.and_true Bool.true_and Bool.and_self Bool.not_true Bool.not_false Option.map_some Option.map_none Option.bind_some Option.bind_none List.length_cons List.length_nil List.take_succ_cons List.take_zero List.take_nil List.drop_succ_cons List.drop_zero List.drop_nil List.head?_cons List.map_cons List.map_nil List.getElem?_cons_zero List.getElem?_cons_succ List.cons_append List.nil_append List.append_nil List.length_map List.set_cons_zero List.set_cons_succ Nat.reduceMul eq_self Int.toNat_natCast Int.natCast_nonneg and_self true_and and_true decide_true decide_false Bool.false_eq_true Nat.zero_add Nat.add_zero List.contains_cons List.contains_nil Bool.or_false Bool.false_or beq_self_eq_true Nat.reduceBEq ne_eq not_true_eq_false not_false_eq_true Id.mk.injEq false_and and_false Nat.reduceLT Int.reduceLE Int.reduceLT Int.reduceToNat Int.reduceNeg Int.reduceAdd Nat.le_refl List.length_append beq_true beq_false Bool.not_eq_eq_eq_not or_false false_or dC ad aj aE bz cj aT bj aX bf cK bG
theorem Ga (cnt:Nat) (hn:cnt<=1048576) (bs:List PB) (ok:lT cnt bs) (oU:bs.length<=1048576) (σ:ax):
  Call Tryz.prog 165 [.int .i64 cnt,.sl (bs.map ay)] σ fun r σ'=>∃X A F,r=.ptr X 0 0/\σ.next<=X.bZ/\mA cnt bs (fun _=>0) X A F σ'.get σ'.next:=by
 refine ET Kn rfl fun hl=>?_
 try simp only[q]
 clear hl
 have iU:(0:Int)<=(cnt:Int):=ab
 have od:(cnt:Int)<=((16777216:Nat):Int):=ab
 have Nw:(0:Int)<=(bs.length:Int):=ab
 have Hl:(bs.length:Int)<=((16777216:Nat):Int):=ab
 have hz:List.replicate bs.length [AV.int .i64 0]=dv (fun _=>0) bs.length:=by
  refine List.ext_getElem? fun i=>?_
  by_cases h:i<bs.length
  ·rw[dt h,List.getElem?_replicate,if_pos h];rfl
  ·rw[List.getElem?_eq_none (by simp;omega),List.getElem?_eq_none (by rw[di];omega)]
 (try((repeat(revert hN;revert N;apply Pn.out));refine wk (tw @iU (tw @od (tw @Nw (tw @Hl (tw @Int.le_refl @hz))))) ?_;(repeat(refine Pn.mk ?_;intro N hN))))
 obtain⟨X,hX⟩:∃X:Id,X=⟨165001003,σ.next+1⟩:=⟨_,rfl⟩
 obtain⟨A,hA⟩:∃X:Id,X=⟨165002002,σ.next+1+1⟩:=⟨_,rfl⟩
 obtain⟨F,hF⟩:∃X:Id,X=⟨165003003,σ.next+1+1+1⟩:=⟨_,rfl⟩
 have hXA:X.bZ<A.bZ:=by rw[hX,hA];(try dsimp only);omega
 have hAF:A.bZ<F.bZ:=by rw[hA,hF];(try dsimp only);omega
 have hXs:σ.next<=X.bZ:=by rw[hX];(try dsimp only);omega
 refine aJ (fun n env st=>∃j:Nat,n=(bs.length)-j/\j<=(bs.length)/\env 6=.int .i64 (j:Int)/\env 5=(.ptr X 0 0)/\st.get X=some ⟨true,4,[bc cnt bs A F]⟩/\st.get F=some ⟨true,1,dv (fun _=>0) bs.length⟩/\(oX A F.bZ (ke cnt bs j) st.get st.next/\F.bZ<st.next)) (bs.length) ⟨0,ab,ab,by(try simp only[go_sem, ↓reduceIte,Nat.reduceEqDiff,Nat.reduceAdd,Nat.reduceSub,Nat.reduceLeDiff,reduceCtorEq,hX,hF,hA,bc,hz]);try rfl,by(try simp only[go_sem, ↓reduceIte,Nat.reduceEqDiff,Nat.reduceAdd,Nat.reduceSub,Nat.reduceLeDiff,reduceCtorEq,hX,hF,hA,bc,hz]);try rfl,by(try simp only[go_sem, ↓reduceIte,Nat.reduceEqDiff,Nat.reduceAdd,Nat.reduceSub,Nat.reduceLeDiff,reduceCtorEq,hX,hF,hA,bc,hz]);try rfl,by(try simp only[go_sem, ↓reduceIte,Nat.reduceEqDiff,Nat.reduceAdd,Nat.reduceSub,Nat.reduceLeDiff,reduceCtorEq,hX,hF,hA,bc,hz]);try rfl,⟨⟨List.replicate cnt [.bE],[],by rw[hA];(simp only[go_sem, ↓reduceIte,Nat.reduceEqDiff,Nat.reduceAdd,Nat.reduceSub,Nat.reduceLeDiff,reduceCtorEq])<;>rfl,by rw[DF];exact vE _ _,List.nodup_nil,fun i hi=>by cases hi⟩,by rw[hF];(try dsimp only);omega⟩⟩ ?_
 rintro n_a env_a st_a ⟨j,rfl,ale,a6,a5,ag0,ag1,l7⟩ dE
 have a0:=dE 0 (by kernel_rfl);have a1:=dE 1 (by kernel_rfl)
 simp only[go_sem, ↓reduceIte,Nat.reduceEqDiff,Nat.reduceAdd,Nat.reduceSub,Nat.reduceLeDiff,reduceCtorEq,hX,hF,hA,bc,hz]at a0 a1
 clear dE
 obtain⟨⟨rows,ids,ag,hR,lD,ml⟩,hFn⟩:=l7
 have x1:=dp hXA
 have x2:=dp hAF
 have x3:=dp (a:=X) (b:=F) ab
 have vX:=eK (i:=X) (n:=st_a.next) ab
 have vA:=eK (i:=A) (n:=st_a.next) ab
 have vF:=eK (i:=F) (n:=st_a.next) ab
 by_cases hj:(j:Int)<(bs.length:Int)
 ·have cl:∀{e:Env} {gg:Rows} {nx:Nat},(e 6=.int .i64 (IntKind.i64.wrap ((j:Int)+1)))->(e 5=(.ptr X 0 0))->(gg X=some ⟨true,4,[bc cnt bs A F]⟩)->(gg F=some ⟨true,1,dv (fun _=>0) bs.length⟩)->(oX A F.bZ (ke cnt bs (j+1)) gg nx/\F.bZ<nx)->∃m0,m0<(bs.length)-j/\∃j:Nat,m0=(bs.length)-j/\j<=(bs.length)/\e 6=.int .i64 (j:Int)/\e 5=(.ptr X 0 0)/\gg X=some ⟨true,4,[bc cnt bs A F]⟩/\gg F=some ⟨true,1,dv (fun _=>0) bs.length⟩/\(oX A F.bZ (ke cnt bs j) gg nx/\F.bZ<nx):=fun x1 x2 x3 x4 x5=>⟨_,ab,j+1,rfl,ab,(by rw[x1,aA ab]),x2,x3,x4,x5⟩
  have im:j<bs.length:=ab
  have gQ:=rR im
  obtain⟨ha1,Nx,gF⟩:=ok j im
  have fH:((bC bs j).a:Int)<(cnt:Int):=ab
  have fe:((bC bs j).b:Int)<(cnt:Int):=ab
  have uk:=DE (m:=j) ha1 Nx gF
  have e1:=pr bs j (bC bs j).a
  have e2:=pr bs j (bC bs j).b
  have NK:(ur cnt bs j)[(bC bs j).b]? =some (gZ bs j (bC bs j).b):=yP Nx gF
  have NJ:(ke cnt bs j)[(bC bs j).a]? =some (gZ bs j (bC bs j).a):=by simp[ke,ha1]
  have PY:ur cnt bs j=(ke cnt bs j).set (bC bs j).a (gZ bs j (bC bs j).a++[j]):=rfl
  have O1:(ur cnt bs j).length=cnt:=by rw[PY,List.length_set,iE]
  have ig:=hR.len
  rw[iE]at ig
  obtain⟨cs7,iC,FI,FW⟩:=Cu (A:=A) (K:=⟨165007022,st_a.next+1⟩) (nx:=st_a.next+1+1) (j:=j) hR lD ml ab NJ bD bD hFn
  rw[<-PY]at FW
  obtain⟨c7,rfl⟩:∃c,cs7=[c]:=by
   rcases FI with⟨_,h⟩|⟨id,h,_⟩<;>exact⟨_,h⟩
  generalize gZ bs j (bC bs j).a=La at *
  generalize gZ bs j (bC bs j).b=Lb at *
  generalize bC bs j=b at *
  generalize ur cnt bs j=LA at *
  clear PY
  (try((repeat(revert hN;revert N;apply Pn.out));refine wk (tw @a6 (tw @a5 (tw @ag0 (tw @ag1 (tw @a0 (tw @a1 (tw @hj (tw @gQ (tw @ay.eq_1 (tw @ag (tw @iC (tw @fH (tw @fe (tw @ig (tw @x1 (tw @x2 (tw @x3 (tw @vX (tw @vA (tw @vF @bc.eq_1)))))))))))))))))))) ?_;(repeat(refine Pn.mk ?_;intro N hN))))
  refine Hc (fun e s=>e 0=.int .i64 cnt/\e 1=.sl (bs.map ay)/\e 5=.ptr X 0 0/\e 6=.int .i64 j/\s.get X=some ⟨true,4,[bc cnt bs A F]⟩/\s.get F=some ⟨true,1,dv (fun _=>0) bs.length⟩/\oX A F.bZ LA s.get s.next/\F.bZ<s.next) ?_ ?_
  ·rintro e1 s1 ⟨m0,m1,m5,m6,mX,mF,⟨rows1,ids1,mg,mR,mnd,mver⟩,mn⟩
   refine hN _ _ ?_
   clear hN N
   have ij:=mR.len
   rw[O1]at ij
   have wX:=eK (i:=X) (n:=s1.next) ab
   have wA:=eK (i:=A) (n:=s1.next) ab
   have wF:=eK (i:=F) (n:=s1.next) ab
   obtain⟨cs8,iD,FJ,FX⟩:=Cu (A:=A) (K:=⟨165008022,s1.next⟩) (nx:=s1.next+1) (j:=j) mR mnd mver ab NK bD bD mn
   rw[uk]at FX
   obtain⟨c8,rfl⟩:∃c,cs8=[c]:=by
    rcases FJ with⟨_,h⟩|⟨id,h,_⟩<;>exact⟨_,h⟩
   (try((repeat(revert hN;revert N;apply Pn.out));refine wk (tw @m0 (tw @m1 (tw @m5 (tw @m6 (tw @mX (tw @mF (tw @hj (tw @gQ (tw @ay.eq_1 (tw @mg (tw @iD (tw @fH (tw @fe (tw @ij (tw @x1 (tw @x2 (tw @x3 (tw @wX (tw @wA (tw @wF @bc.eq_1)))))))))))))))))))) ?_;(repeat(refine Pn.mk ?_;intro N hN))))
   refine Jg (fun e s=>e 0=.int .i64 cnt/\e 1=.sl (bs.map ay)/\e 5=.ptr X 0 0/\e 6=.int .i64 j/\s.get X=some ⟨true,4,[bc cnt bs A F]⟩/\s.get F=some ⟨true,1,dv (fun _=>0) bs.length⟩/\oX A F.bZ (ke cnt bs (j+1)) s.get s.next/\F.bZ<s.next) ?_ ?_
   ·rintro e2 s2 ⟨p0,p1,p5,p6,pX,pF,pL,pn⟩
    simp only[dz,bl]
    refine hN _ _ ?_
    clear hN N
    (try((repeat(revert hN;revert N;apply Pn.out));refine wk (tw @p0 (tw @p1 (tw @p5 @p6))) ?_;(repeat(refine Pn.mk ?_;intro N hN))))
    refine cl ?_ ?_ ?_ ?_ (⟨by obtain⟨r,i,q1,q2,q3,q4⟩:=pL;exact⟨r,i,sd @q1,q2,q3,fun x hx=>by have:=q4 x hx;(try dsimp only);omega⟩,bD⟩)
    all_goals simp only[go_sem, ↓reduceIte,Nat.reduceEqDiff,Nat.reduceAdd,Nat.reduceSub,Nat.reduceLeDiff,reduceCtorEq,p0,p1,p5,p6,pX,pF]
   ·intro N hN
    rcases FJ with⟨Nq,wu⟩|⟨id,wu,hLp,hid,Ie,yE⟩
    ·simp only[List.cons.injEq,and_true]at wu
     subst wu
     subst Nq
     refine eI ?_ ?_<;>(try((repeat(revert hN;revert N;apply Pn.out));refine wk (tw @m0 (tw @m1 (tw @m5 (tw @m6 (tw @mX (tw @mF (tw @hj (tw @gQ (tw @ay.eq_1 (tw @mg (tw @iD (tw @fH (tw @fe (tw @ij (tw @x1 (tw @x2 (tw @x3 (tw @wX (tw @wA (tw @wF @bc.eq_1)))))))))))))))))))) ?_;(repeat(refine Pn.mk ?_;intro N hN))))<;>(try refine eI ?_ ?_)<;>(try((repeat(revert hN;revert N;apply Pn.out));refine wk (tw @m0 (tw @m1 (tw @m5 (tw @m6 (tw @mX (tw @mF (tw @hj (tw @gQ (tw @ay.eq_1 (tw @mg (tw @iD (tw @fH (tw @fe (tw @ij (tw @x1 (tw @x2 (tw @x3 (tw @wX (tw @wA (tw @wF @bc.eq_1)))))))))))))))))))) ?_;(repeat(refine Pn.mk ?_;intro N hN))))<;>(try refine eI ?_ ?_)<;>(try((repeat(revert hN;revert N;apply Pn.out));refine wk (tw @m0 (tw @m1 (tw @m5 (tw @m6 (tw @mX (tw @mF (tw @hj (tw @gQ (tw @ay.eq_1 (tw @mg (tw @iD (tw @fH (tw @fe (tw @ij (tw @x1 (tw @x2 (tw @x3 (tw @wX (tw @wA (tw @wF @bc.eq_1)))))))))))))))))))) ?_;(repeat(refine Pn.mk ?_;intro N hN))))<;>(try refine eI ?_ ?_)<;>(try((repeat(revert hN;revert N;apply Pn.out));refine wk (tw @m0 (tw @m1 (tw @m5 (tw @m6 (tw @mX (tw @mF (tw @hj (tw @gQ (tw @ay.eq_1 (tw @mg (tw @iD (tw @fH (tw @fe (tw @ij (tw @x1 (tw @x2 (tw @x3 (tw @wX (tw @wA (tw @wF @bc.eq_1)))))))))))))))))))) ?_;(repeat(refine Pn.mk ?_;intro N hN))))<;>(try refine eI ?_ ?_)<;>(try((repeat(revert hN;revert N;apply Pn.out));refine wk (tw @m0 (tw @m1 (tw @m5 (tw @m6 (tw @mX (tw @mF (tw @hj (tw @gQ (tw @ay.eq_1 (tw @mg (tw @iD (tw @fH (tw @fe (tw @ij (tw @x1 (tw @x2 (tw @x3 (tw @wX (tw @wA (tw @wF @bc.eq_1)))))))))))))))))))) ?_;(repeat(refine Pn.mk ?_;intro N hN))))<;>(try refine eI ?_ ?_)<;>(try((repeat(revert hN;revert N;apply Pn.out));refine wk (tw @m0 (tw @m1 (tw @m5 (tw @m6 (tw @mX (tw @mF (tw @hj (tw @gQ (tw @ay.eq_1 (tw @mg (tw @iD (tw @fH (tw @fe (tw @ij (tw @x1 (tw @x2 (tw @x3 (tw @wX (tw @wA (tw @wF @bc.eq_1)))))))))))))))))))) ?_;(repeat(refine Pn.mk ?_;intro N hN))))
     all_goals
      refine⟨by simp only[go_sem, ↓reduceIte,Nat.reduceEqDiff,Nat.reduceAdd,Nat.reduceSub,Nat.reduceLeDiff,reduceCtorEq,m0,m1,m5,m6,mX,mF,hj,gQ,ay,mg,iD,fH,fe,ij,x1,x2,x3,wX,wA,wF,bc],by simp only[go_sem, ↓reduceIte,Nat.reduceEqDiff,Nat.reduceAdd,Nat.reduceSub,Nat.reduceLeDiff,reduceCtorEq,m0,m1,m5,m6,mX,mF,hj,gQ,ay,mg,iD,fH,fe,ij,x1,x2,x3,wX,wA,wF,bc],by simp only[go_sem, ↓reduceIte,Nat.reduceEqDiff,Nat.reduceAdd,Nat.reduceSub,Nat.reduceLeDiff,reduceCtorEq,m0,m1,m5,m6,mX,mF,hj,gQ,ay,mg,iD,fH,fe,ij,x1,x2,x3,wX,wA,wF,bc],by simp only[go_sem, ↓reduceIte,Nat.reduceEqDiff,Nat.reduceAdd,Nat.reduceSub,Nat.reduceLeDiff,reduceCtorEq,m0,m1,m5,m6,mX,mF,hj,gQ,ay,mg,iD,fH,fe,ij,x1,x2,x3,wX,wA,wF,bc],by simp only[go_sem, ↓reduceIte,Nat.reduceEqDiff,Nat.reduceAdd,Nat.reduceSub,Nat.reduceLeDiff,reduceCtorEq,m0,m1,m5,m6,mX,mF,hj,gQ,ay,mg,iD,fH,fe,ij,x1,x2,x3,wX,wA,wF,bc],by simp only[go_sem, ↓reduceIte,Nat.reduceEqDiff,Nat.reduceAdd,Nat.reduceSub,Nat.reduceLeDiff,reduceCtorEq,m0,m1,m5,m6,mX,mF,hj,gQ,ay,mg,iD,fH,fe,ij,x1,x2,x3,wX,wA,wF,bc],FX _ (by simp only[go_sem, ↓reduceIte,Nat.reduceEqDiff,Nat.reduceAdd,Nat.reduceSub,Nat.reduceLeDiff,reduceCtorEq,m0,m1,m5,m6,mX,mF,hj,gQ,ay,mg,iD,fH,fe,ij,x1,x2,x3,wX,wA,wF,bc,List.length_nil]) (by simp only[go_sem, ↓reduceIte,Nat.reduceEqDiff,Nat.reduceAdd,Nat.reduceSub,Nat.reduceLeDiff,reduceCtorEq,m0,m1,m5,m6,mX,mF,hj,gQ,ay,mg,iD,fH,fe,ij,x1,x2,x3,wX,wA,wF,bc,List.map_nil,List.nil_append]) (fun i hi KX fb=>?_),bD⟩
      clear fb
      simp only[go_sem, ↓reduceIte,Nat.reduceEqDiff,Nat.reduceAdd,Nat.reduceSub,Nat.reduceLeDiff,reduceCtorEq,wX,wA,wF,eK hi,KX]
    ·simp only[List.cons.injEq,and_true]at wu
     subst wu
     have pU:=eK Ie
     have y1:=dp (a:=A) (b:=id) ab
     have y2:=dp (a:=F) (b:=id) yE
     have y3:=dp (a:=X) (b:=id) ab
     have e3:Lb.length+1<=16777216:=ab
     have z1:(Lb.map eN).length=Lb.length:=by simp
     refine eI ?_ ?_<;>(try((repeat(revert hN;revert N;apply Pn.out));refine wk (tw @m0 (tw @m1 (tw @m5 (tw @m6 (tw @mX (tw @mF (tw @hj (tw @gQ (tw @ay.eq_1 (tw @mg (tw @iD (tw @fH (tw @fe (tw @ij (tw @x1 (tw @x2 (tw @x3 (tw @wX (tw @wA (tw @wF (tw @bc.eq_1 (tw @hid (tw @pU (tw @y1 (tw @y2 (tw @y3 (tw @e3 @z1))))))))))))))))))))))))))) ?_;(repeat(refine Pn.mk ?_;intro N hN))))<;>(try refine eI ?_ ?_)<;>(try((repeat(revert hN;revert N;apply Pn.out));refine wk (tw @m0 (tw @m1 (tw @m5 (tw @m6 (tw @mX (tw @mF (tw @hj (tw @gQ (tw @ay.eq_1 (tw @mg (tw @iD (tw @fH (tw @fe (tw @ij (tw @x1 (tw @x2 (tw @x3 (tw @wX (tw @wA (tw @wF (tw @bc.eq_1 (tw @hid (tw @pU (tw @y1 (tw @y2 (tw @y3 (tw @e3 @z1))))))))))))))))))))))))))) ?_;(repeat(refine Pn.mk ?_;intro N hN))))<;>(try refine eI ?_ ?_)<;>(try((repeat(revert hN;revert N;apply Pn.out));refine wk (tw @m0 (tw @m1 (tw @m5 (tw @m6 (tw @mX (tw @mF (tw @hj (tw @gQ (tw @ay.eq_1 (tw @mg (tw @iD (tw @fH (tw @fe (tw @ij (tw @x1 (tw @x2 (tw @x3 (tw @wX (tw @wA (tw @wF (tw @bc.eq_1 (tw @hid (tw @pU (tw @y1 (tw @y2 (tw @y3 (tw @e3 @z1))))))))))))))))))))))))))) ?_;(repeat(refine Pn.mk ?_;intro N hN))))<;>(try refine eI ?_ ?_)<;>(try((repeat(revert hN;revert N;apply Pn.out));refine wk (tw @m0 (tw @m1 (tw @m5 (tw @m6 (tw @mX (tw @mF (tw @hj (tw @gQ (tw @ay.eq_1 (tw @mg (tw @iD (tw @fH (tw @fe (tw @ij (tw @x1 (tw @x2 (tw @x3 (tw @wX (tw @wA (tw @wF (tw @bc.eq_1 (tw @hid (tw @pU (tw @y1 (tw @y2 (tw @y3 (tw @e3 @z1))))))))))))))))))))))))))) ?_;(repeat(refine Pn.mk ?_;intro N hN))))<;>(try refine eI ?_ ?_)<;>(try((repeat(revert hN;revert N;apply Pn.out));refine wk (tw @m0 (tw @m1 (tw @m5 (tw @m6 (tw @mX (tw @mF (tw @hj (tw @gQ (tw @ay.eq_1 (tw @mg (tw @iD (tw @fH (tw @fe (tw @ij (tw @x1 (tw @x2 (tw @x3 (tw @wX (tw @wA (tw @wF (tw @bc.eq_1 (tw @hid (tw @pU (tw @y1 (tw @y2 (tw @y3 (tw @e3 @z1))))))))))))))))))))))))))) ?_;(repeat(refine Pn.mk ?_;intro N hN))))<;>(try refine eI ?_ ?_)<;>(try((repeat(revert hN;revert N;apply Pn.out));refine wk (tw @m0 (tw @m1 (tw @m5 (tw @m6 (tw @mX (tw @mF (tw @hj (tw @gQ (tw @ay.eq_1 (tw @mg (tw @iD (tw @fH (tw @fe (tw @ij (tw @x1 (tw @x2 (tw @x3 (tw @wX (tw @wA (tw @wF (tw @bc.eq_1 (tw @hid (tw @pU (tw @y1 (tw @y2 (tw @y3 (tw @e3 @z1))))))))))))))))))))))))))) ?_;(repeat(refine Pn.mk ?_;intro N hN))))
     all_goals
      refine⟨by simp only[go_sem, ↓reduceIte,Nat.reduceEqDiff,Nat.reduceAdd,Nat.reduceSub,Nat.reduceLeDiff,reduceCtorEq,m0,m1,m5,m6,mX,mF,hj,gQ,ay,mg,iD,fH,fe,ij,x1,x2,x3,wX,wA,wF,bc,hid,pU,y1,y2,y3,e3,z1],by simp only[go_sem, ↓reduceIte,Nat.reduceEqDiff,Nat.reduceAdd,Nat.reduceSub,Nat.reduceLeDiff,reduceCtorEq,m0,m1,m5,m6,mX,mF,hj,gQ,ay,mg,iD,fH,fe,ij,x1,x2,x3,wX,wA,wF,bc,hid,pU,y1,y2,y3,e3,z1],by simp only[go_sem, ↓reduceIte,Nat.reduceEqDiff,Nat.reduceAdd,Nat.reduceSub,Nat.reduceLeDiff,reduceCtorEq,m0,m1,m5,m6,mX,mF,hj,gQ,ay,mg,iD,fH,fe,ij,x1,x2,x3,wX,wA,wF,bc,hid,pU,y1,y2,y3,e3,z1],by simp only[go_sem, ↓reduceIte,Nat.reduceEqDiff,Nat.reduceAdd,Nat.reduceSub,Nat.reduceLeDiff,reduceCtorEq,m0,m1,m5,m6,mX,mF,hj,gQ,ay,mg,iD,fH,fe,ij,x1,x2,x3,wX,wA,wF,bc,hid,pU,y1,y2,y3,e3,z1],by simp only[go_sem, ↓reduceIte,Nat.reduceEqDiff,Nat.reduceAdd,Nat.reduceSub,Nat.reduceLeDiff,reduceCtorEq,m0,m1,m5,m6,mX,mF,hj,gQ,ay,mg,iD,fH,fe,ij,x1,x2,x3,wX,wA,wF,bc,hid,pU,y1,y2,y3,e3,z1],by simp only[go_sem, ↓reduceIte,Nat.reduceEqDiff,Nat.reduceAdd,Nat.reduceSub,Nat.reduceLeDiff,reduceCtorEq,m0,m1,m5,m6,mX,mF,hj,gQ,ay,mg,iD,fH,fe,ij,x1,x2,x3,wX,wA,wF,bc,hid,pU,y1,y2,y3,e3,z1],FX _ (by simp only[go_sem, ↓reduceIte,Nat.reduceEqDiff,Nat.reduceAdd,Nat.reduceSub,Nat.reduceLeDiff,reduceCtorEq,m0,m1,m5,m6,mX,mF,hj,gQ,ay,mg,iD,fH,fe,ij,x1,x2,x3,wX,wA,wF,bc,hid,pU,y1,y2,y3,e3,z1,List.length_nil]) (by simp only[go_sem, ↓reduceIte,Nat.reduceEqDiff,Nat.reduceAdd,Nat.reduceSub,Nat.reduceLeDiff,reduceCtorEq,m0,m1,m5,m6,mX,mF,hj,gQ,ay,mg,iD,fH,fe,ij,x1,x2,x3,wX,wA,wF,bc,hid,pU,y1,y2,y3,e3,z1,List.map_nil,List.nil_append]) (fun i hi KX fb=>?_),bD⟩
      have gF:=fb id rfl
      simp only[go_sem, ↓reduceIte,Nat.reduceEqDiff,Nat.reduceAdd,Nat.reduceSub,Nat.reduceLeDiff,reduceCtorEq,wX,wA,wF,eK hi,KX,gF]
  ·intro N hN
   rcases FI with⟨Nq,wu⟩|⟨id,wu,hLp,hid,Ie,yE⟩
   ·simp only[List.cons.injEq,and_true]at wu
    subst wu
    subst Nq
    refine eI ?_ ?_<;>(try((repeat(revert hN;revert N;apply Pn.out));refine wk (tw @a6 (tw @a5 (tw @ag0 (tw @ag1 (tw @a0 (tw @a1 (tw @hj (tw @gQ (tw @ay.eq_1 (tw @ag (tw @iC (tw @fH (tw @fe (tw @ig (tw @x1 (tw @x2 (tw @x3 (tw @vX (tw @vA (tw @vF @bc.eq_1)))))))))))))))))))) ?_;(repeat(refine Pn.mk ?_;intro N hN))))<;>(try refine eI ?_ ?_)<;>(try((repeat(revert hN;revert N;apply Pn.out));refine wk (tw @a6 (tw @a5 (tw @ag0 (tw @ag1 (tw @a0 (tw @a1 (tw @hj (tw @gQ (tw @ay.eq_1 (tw @ag (tw @iC (tw @fH (tw @fe (tw @ig (tw @x1 (tw @x2 (tw @x3 (tw @vX (tw @vA (tw @vF @bc.eq_1)))))))))))))))))))) ?_;(repeat(refine Pn.mk ?_;intro N hN))))<;>(try refine eI ?_ ?_)<;>(try((repeat(revert hN;revert N;apply Pn.out));refine wk (tw @a6 (tw @a5 (tw @ag0 (tw @ag1 (tw @a0 (tw @a1 (tw @hj (tw @gQ (tw @ay.eq_1 (tw @ag (tw @iC (tw @fH (tw @fe (tw @ig (tw @x1 (tw @x2 (tw @x3 (tw @vX (tw @vA (tw @vF @bc.eq_1)))))))))))))))))))) ?_;(repeat(refine Pn.mk ?_;intro N hN))))<;>(try refine eI ?_ ?_)<;>(try((repeat(revert hN;revert N;apply Pn.out));refine wk (tw @a6 (tw @a5 (tw @ag0 (tw @ag1 (tw @a0 (tw @a1 (tw @hj (tw @gQ (tw @ay.eq_1 (tw @ag (tw @iC (tw @fH (tw @fe (tw @ig (tw @x1 (tw @x2 (tw @x3 (tw @vX (tw @vA (tw @vF @bc.eq_1)))))))))))))))))))) ?_;(repeat(refine Pn.mk ?_;intro N hN))))<;>(try refine eI ?_ ?_)<;>(try((repeat(revert hN;revert N;apply Pn.out));refine wk (tw @a6 (tw @a5 (tw @ag0 (tw @ag1 (tw @a0 (tw @a1 (tw @hj (tw @gQ (tw @ay.eq_1 (tw @ag (tw @iC (tw @fH (tw @fe (tw @ig (tw @x1 (tw @x2 (tw @x3 (tw @vX (tw @vA (tw @vF @bc.eq_1)))))))))))))))))))) ?_;(repeat(refine Pn.mk ?_;intro N hN))))<;>(try refine eI ?_ ?_)<;>(try((repeat(revert hN;revert N;apply Pn.out));refine wk (tw @a6 (tw @a5 (tw @ag0 (tw @ag1 (tw @a0 (tw @a1 (tw @hj (tw @gQ (tw @ay.eq_1 (tw @ag (tw @iC (tw @fH (tw @fe (tw @ig (tw @x1 (tw @x2 (tw @x3 (tw @vX (tw @vA (tw @vF @bc.eq_1)))))))))))))))))))) ?_;(repeat(refine Pn.mk ?_;intro N hN))))
    all_goals
     refine⟨by simp only[go_sem, ↓reduceIte,Nat.reduceEqDiff,Nat.reduceAdd,Nat.reduceSub,Nat.reduceLeDiff,reduceCtorEq,a6,a5,ag0,ag1,a0,a1,hj,gQ,ay,ag,iC,fH,fe,ig,x1,x2,x3,vX,vA,vF,bc],by simp only[go_sem, ↓reduceIte,Nat.reduceEqDiff,Nat.reduceAdd,Nat.reduceSub,Nat.reduceLeDiff,reduceCtorEq,a6,a5,ag0,ag1,a0,a1,hj,gQ,ay,ag,iC,fH,fe,ig,x1,x2,x3,vX,vA,vF,bc],by simp only[go_sem, ↓reduceIte,Nat.reduceEqDiff,Nat.reduceAdd,Nat.reduceSub,Nat.reduceLeDiff,reduceCtorEq,a6,a5,ag0,ag1,a0,a1,hj,gQ,ay,ag,iC,fH,fe,ig,x1,x2,x3,vX,vA,vF,bc],by simp only[go_sem, ↓reduceIte,Nat.reduceEqDiff,Nat.reduceAdd,Nat.reduceSub,Nat.reduceLeDiff,reduceCtorEq,a6,a5,ag0,ag1,a0,a1,hj,gQ,ay,ag,iC,fH,fe,ig,x1,x2,x3,vX,vA,vF,bc],by simp only[go_sem, ↓reduceIte,Nat.reduceEqDiff,Nat.reduceAdd,Nat.reduceSub,Nat.reduceLeDiff,reduceCtorEq,a6,a5,ag0,ag1,a0,a1,hj,gQ,ay,ag,iC,fH,fe,ig,x1,x2,x3,vX,vA,vF,bc],by simp only[go_sem, ↓reduceIte,Nat.reduceEqDiff,Nat.reduceAdd,Nat.reduceSub,Nat.reduceLeDiff,reduceCtorEq,a6,a5,ag0,ag1,a0,a1,hj,gQ,ay,ag,iC,fH,fe,ig,x1,x2,x3,vX,vA,vF,bc],FW _ (by simp only[go_sem, ↓reduceIte,Nat.reduceEqDiff,Nat.reduceAdd,Nat.reduceSub,Nat.reduceLeDiff,reduceCtorEq,a6,a5,ag0,ag1,a0,a1,hj,gQ,ay,ag,iC,fH,fe,ig,x1,x2,x3,vX,vA,vF,bc,List.length_nil]) (by simp only[go_sem, ↓reduceIte,Nat.reduceEqDiff,Nat.reduceAdd,Nat.reduceSub,Nat.reduceLeDiff,reduceCtorEq,a6,a5,ag0,ag1,a0,a1,hj,gQ,ay,ag,iC,fH,fe,ig,x1,x2,x3,vX,vA,vF,bc,List.map_nil,List.nil_append]) (fun i hi KX fb=>?_),bD⟩
     clear fb
     simp only[go_sem, ↓reduceIte,Nat.reduceEqDiff,Nat.reduceAdd,Nat.reduceSub,Nat.reduceLeDiff,reduceCtorEq,vX,vA,vF,eK hi,KX]
   ·simp only[List.cons.injEq,and_true]at wu
    subst wu
    have pU:=eK Ie
    have y1:=dp (a:=A) (b:=id) ab
    have y2:=dp (a:=F) (b:=id) yE
    have y3:=dp (a:=X) (b:=id) ab
    have e3:La.length+1<=16777216:=ab
    have z1:(La.map eN).length=La.length:=by simp
    refine eI ?_ ?_<;>(try((repeat(revert hN;revert N;apply Pn.out));refine wk (tw @a6 (tw @a5 (tw @ag0 (tw @ag1 (tw @a0 (tw @a1 (tw @hj (tw @gQ (tw @ay.eq_1 (tw @ag (tw @iC (tw @fH (tw @fe (tw @ig (tw @x1 (tw @x2 (tw @x3 (tw @vX (tw @vA (tw @vF (tw @bc.eq_1 (tw @hid (tw @pU (tw @y1 (tw @y2 (tw @y3 (tw @e3 @z1))))))))))))))))))))))))))) ?_;(repeat(refine Pn.mk ?_;intro N hN))))<;>(try refine eI ?_ ?_)<;>(try((repeat(revert hN;revert N;apply Pn.out));refine wk (tw @a6 (tw @a5 (tw @ag0 (tw @ag1 (tw @a0 (tw @a1 (tw @hj (tw @gQ (tw @ay.eq_1 (tw @ag (tw @iC (tw @fH (tw @fe (tw @ig (tw @x1 (tw @x2 (tw @x3 (tw @vX (tw @vA (tw @vF (tw @bc.eq_1 (tw @hid (tw @pU (tw @y1 (tw @y2 (tw @y3 (tw @e3 @z1))))))))))))))))))))))))))) ?_;(repeat(refine Pn.mk ?_;intro N hN))))<;>(try refine eI ?_ ?_)<;>(try((repeat(revert hN;revert N;apply Pn.out));refine wk (tw @a6 (tw @a5 (tw @ag0 (tw @ag1 (tw @a0 (tw @a1 (tw @hj (tw @gQ (tw @ay.eq_1 (tw @ag (tw @iC (tw @fH (tw @fe (tw @ig (tw @x1 (tw @x2 (tw @x3 (tw @vX (tw @vA (tw @vF (tw @bc.eq_1 (tw @hid (tw @pU (tw @y1 (tw @y2 (tw @y3 (tw @e3 @z1))))))))))))))))))))))))))) ?_;(repeat(refine Pn.mk ?_;intro N hN))))<;>(try refine eI ?_ ?_)<;>(try((repeat(revert hN;revert N;apply Pn.out));refine wk (tw @a6 (tw @a5 (tw @ag0 (tw @ag1 (tw @a0 (tw @a1 (tw @hj (tw @gQ (tw @ay.eq_1 (tw @ag (tw @iC (tw @fH (tw @fe (tw @ig (tw @x1 (tw @x2 (tw @x3 (tw @vX (tw @vA (tw @vF (tw @bc.eq_1 (tw @hid (tw @pU (tw @y1 (tw @y2 (tw @y3 (tw @e3 @z1))))))))))))))))))))))))))) ?_;(repeat(refine Pn.mk ?_;intro N hN))))<;>(try refine eI ?_ ?_)<;>(try((repeat(revert hN;revert N;apply Pn.out));refine wk (tw @a6 (tw @a5 (tw @ag0 (tw @ag1 (tw @a0 (tw @a1 (tw @hj (tw @gQ (tw @ay.eq_1 (tw @ag (tw @iC (tw @fH (tw @fe (tw @ig (tw @x1 (tw @x2 (tw @x3 (tw @vX (tw @vA (tw @vF (tw @bc.eq_1 (tw @hid (tw @pU (tw @y1 (tw @y2 (tw @y3 (tw @e3 @z1))))))))))))))))))))))))))) ?_;(repeat(refine Pn.mk ?_;intro N hN))))<;>(try refine eI ?_ ?_)<;>(try((repeat(revert hN;revert N;apply Pn.out));refine wk (tw @a6 (tw @a5 (tw @ag0 (tw @ag1 (tw @a0 (tw @a1 (tw @hj (tw @gQ (tw @ay.eq_1 (tw @ag (tw @iC (tw @fH (tw @fe (tw @ig (tw @x1 (tw @x2 (tw @x3 (tw @vX (tw @vA (tw @vF (tw @bc.eq_1 (tw @hid (tw @pU (tw @y1 (tw @y2 (tw @y3 (tw @e3 @z1))))))))))))))))))))))))))) ?_;(repeat(refine Pn.mk ?_;intro N hN))))
    all_goals
     refine⟨by simp only[go_sem, ↓reduceIte,Nat.reduceEqDiff,Nat.reduceAdd,Nat.reduceSub,Nat.reduceLeDiff,reduceCtorEq,a6,a5,ag0,ag1,a0,a1,hj,gQ,ay,ag,iC,fH,fe,ig,x1,x2,x3,vX,vA,vF,bc,hid,pU,y1,y2,y3,e3,z1],by simp only[go_sem, ↓reduceIte,Nat.reduceEqDiff,Nat.reduceAdd,Nat.reduceSub,Nat.reduceLeDiff,reduceCtorEq,a6,a5,ag0,ag1,a0,a1,hj,gQ,ay,ag,iC,fH,fe,ig,x1,x2,x3,vX,vA,vF,bc,hid,pU,y1,y2,y3,e3,z1],by simp only[go_sem, ↓reduceIte,Nat.reduceEqDiff,Nat.reduceAdd,Nat.reduceSub,Nat.reduceLeDiff,reduceCtorEq,a6,a5,ag0,ag1,a0,a1,hj,gQ,ay,ag,iC,fH,fe,ig,x1,x2,x3,vX,vA,vF,bc,hid,pU,y1,y2,y3,e3,z1],by simp only[go_sem, ↓reduceIte,Nat.reduceEqDiff,Nat.reduceAdd,Nat.reduceSub,Nat.reduceLeDiff,reduceCtorEq,a6,a5,ag0,ag1,a0,a1,hj,gQ,ay,ag,iC,fH,fe,ig,x1,x2,x3,vX,vA,vF,bc,hid,pU,y1,y2,y3,e3,z1],by simp only[go_sem, ↓reduceIte,Nat.reduceEqDiff,Nat.reduceAdd,Nat.reduceSub,Nat.reduceLeDiff,reduceCtorEq,a6,a5,ag0,ag1,a0,a1,hj,gQ,ay,ag,iC,fH,fe,ig,x1,x2,x3,vX,vA,vF,bc,hid,pU,y1,y2,y3,e3,z1],by simp only[go_sem, ↓reduceIte,Nat.reduceEqDiff,Nat.reduceAdd,Nat.reduceSub,Nat.reduceLeDiff,reduceCtorEq,a6,a5,ag0,ag1,a0,a1,hj,gQ,ay,ag,iC,fH,fe,ig,x1,x2,x3,vX,vA,vF,bc,hid,pU,y1,y2,y3,e3,z1],FW _ (by simp only[go_sem, ↓reduceIte,Nat.reduceEqDiff,Nat.reduceAdd,Nat.reduceSub,Nat.reduceLeDiff,reduceCtorEq,a6,a5,ag0,ag1,a0,a1,hj,gQ,ay,ag,iC,fH,fe,ig,x1,x2,x3,vX,vA,vF,bc,hid,pU,y1,y2,y3,e3,z1,List.length_nil]) (by simp only[go_sem, ↓reduceIte,Nat.reduceEqDiff,Nat.reduceAdd,Nat.reduceSub,Nat.reduceLeDiff,reduceCtorEq,a6,a5,ag0,ag1,a0,a1,hj,gQ,ay,ag,iC,fH,fe,ig,x1,x2,x3,vX,vA,vF,bc,hid,pU,y1,y2,y3,e3,z1,List.map_nil,List.nil_append]) (fun i hi KX fb=>?_),bD⟩
     have gF:=fb id rfl
     simp only[go_sem, ↓reduceIte,Nat.reduceEqDiff,Nat.reduceAdd,Nat.reduceSub,Nat.reduceLeDiff,reduceCtorEq,vX,vA,vF,eK hi,KX,gF]
 ·have gn:j=bs.length:=ab
  subst gn
  (try((repeat(revert hN;revert N;apply Pn.out));refine wk (tw @a6 (tw @a5 (tw @ag0 (tw @ag1 (tw @a0 (tw @a1 @hj)))))) ?_;(repeat(refine Pn.mk ?_;intro N hN))))
  exact gy (.inl rfl) (by simp only[eR,gI,go_sem, ↓reduceIte,Nat.reduceEqDiff,Nat.reduceAdd,Nat.reduceSub,Nat.reduceLeDiff,reduceCtorEq];rfl) ⟨X,A,F,rfl,hXs,⟨ag0,⟨rows,ids,ag,hR,lD,fun x hx=>by have:=ml x hx;(try dsimp only);omega⟩,ag1,hXA,hAF,bD⟩⟩
theorem oX.frame {A:Id} {lo nx uw:Nat} {L:List (List Nat)} {g g':Rows} (h:oX A lo L g nx) (hA:A.bZ<nx) (hf:∀i:Id,i.bZ<nx->lo<i.bZ∨i=A->g' i=g i) (hn:nx<=uw):oX A lo L g' uw:=by
 obtain⟨rows,ids,h1,h2,h3,h4⟩:=h
 refine⟨rows,ids,(hf A hA (.inr rfl)).trans h1,h2.frame JV fun i hi=>hf i (h4 i hi).2 (.inl (h4 i hi).1),h3,fun i hi=>?_⟩
 have:=h4 i hi;omega
theorem mA.frame {cnt:Nat} {bs:List PB} {f:Nat->Int} {X A F:Id} {g g':Rows} {nx uw:Nat} (h:mA cnt bs f X A F g nx) (hf:∀i:Id,i.bZ<nx->g' i=g i) (hn:nx<=uw):mA cnt bs f X A F g' uw:=by
 have h1:=h.xa;have h2:=h.af;have h3:=h.fn
 exact⟨(hf X ab).trans h.x,h.a.frame ab (fun i hi _=>hf i hi) hn,(hf F h3).trans h.f,h1,h2,ab⟩
theorem mA.Nh {cnt:Nat} {bs:List PB} {f f':Nat->Int} {X A F:Id} {g g':Rows} {nx uw:Nat} (h:mA cnt bs f X A F g nx) (hF:g' F=some ⟨true,1,dv f' bs.length⟩) (hf:∀i:Id,i.bZ<nx->(i=F)=False->g' i=g i) (hn:nx<=uw):mA cnt bs f' X A F g' uw:=by
 have h1:=h.xa;have h2:=h.af;have h3:=h.fn
 refine⟨(hf X ab (dp ab).1).trans h.x,h.a.frame ab (fun i hi jH=>hf i hi ?_) hn,hF,h1,h2,ab⟩
 rcases jH with jH|rfl
 ·exact(dp jH).2
 ·exact(dp h2).1
theorem LC (cnt:Nat) (bs:List PB) (f:Nat->Int) (hs:Small bs f) (e v:Nat) (he:e<bs.length) (X A F:Id) (σ:ax) (nx:Nat) (hS:mA cnt bs f X A F σ.get nx) (hn:nx<=σ.next):
  Call Tryz.prog 183 [.ptr X 0 0,.int .i64 v,.int .i64 e] σ fun r σ'=>mA cnt bs (rj bs f e v) X A F σ'.get nx/\σ.next<=σ'.next/\∀i:Id,(i=F)=False->σ'.get i=σ.get i:=by
 refine fm dP rfl fun hl=>?_
 clear hl
 have hX:=hS.x
 have hF:=hS.f
 have hb:=rR he
 have Qt:=dt (f:=f) he
 have tl:=di f bs.length
 obtain⟨⟨s0,s1⟩,s2,s3⟩:=hs e he
 have hei:(e:Int)<(bs.length:Int):=ab
 have w1:IntKind.i64.wrap (f e+1)=f e+1:=aQ ab
 have w2:IntKind.i64.wrap (f e-1)=f e+-1:=by rw[aQ ab];omega
 rw[au]at Qt
 unfold rj
 by_cases h:(bC bs e).a=v
 ·have dQ:(dv f bs.length).set e (au (f e+1))=dv (fun j=>f j+if j=e then(if (bC bs e).a=v then 1 else -1)else 0) bs.length:=j4 he (by rw[if_pos rfl,if_pos h]) fun i _ hi=>by rw[if_neg hi,Int.add_zero]
  rw[au]at dQ
  generalize O4:bC bs e=b at *
  have hd:decide ((b.a:Int)=(v:Int))=true:=decide_eq_true (by rw[h])
  (try((repeat(revert hN;revert N;apply Pn.out));refine wk (tw @hX (tw @hF (tw @hb (tw @Qt (tw @tl (tw @hei (tw @w1 (tw @dQ (tw @hd (tw @ay.eq_1 @bc.eq_1)))))))))) ?_;(repeat(refine Pn.mk ?_;intro N hN))))
  exact gy (.inr rfl) (vs:=[]) rfl ⟨hS.Nh (sd @Nat.zero_add) (fun i hi gF=>sd @gF) (Nat.le_refl _),bD,fun i gF=>sd @gF⟩
 ·have dQ:(dv f bs.length).set e (au (f e+-1))=dv (fun j=>f j+if j=e then(if (bC bs e).a=v then 1 else -1)else 0) bs.length:=j4 he (by rw[if_pos rfl,if_neg h]) fun i _ hi=>by rw[if_neg hi,Int.add_zero]
  rw[au]at dQ
  generalize O4:bC bs e=b at *
  have hd:decide ((b.a:Int)=(v:Int))=false:=decide_eq_false fun hc=>h ab
  (try((repeat(revert hN;revert N;apply Pn.out));refine wk (tw @hX (tw @hF (tw @hb (tw @Qt (tw @tl (tw @hei (tw @w2 (tw @dQ (tw @hd (tw @ay.eq_1 @bc.eq_1)))))))))) ?_;(repeat(refine Pn.mk ?_;intro N hN))))
  exact gy (.inr rfl) (vs:=[]) rfl ⟨hS.Nh (sd @Nat.zero_add) (fun i hi gF=>sd @gF) (Nat.le_refl _),bD,fun i gF=>sd @gF⟩
structure mB (bs:List PB) (out:Nat->Int) (f f':Nat->Int) (x v:Nat):Prop where
 le:∀i,i<bs.length->f' i<=(bC bs i).s/\-(bC bs i).s<=f' i
 cut:∀S:Nat->Bool,C3 S bs f'=C3 S bs f+bi (S x)-bi (S v)
 za:∀e,e<bs.length->out (bC bs e).a<=out v->out (bC bs e).b<=out v->f' e=f e
section
variable {cnt:Nat} {bs:List PB} {out:Nat->Int} {f f':Nat->Int} {x v y:Nat}
theorem mB.start (h:∀i,i<bs.length->f i<=(bC bs i).s/\-(bC bs i).s<=f i):mB bs out f f x x:=⟨h,fun S=>ab,fun _ _ _ _=>rfl⟩
theorem mB.step (h:mB bs out f f' x v) {e:Nat} (he:e<bs.length) (hi:BN bs e v) (hr:0<eY bs f' e v) (hd:out (bo bs e v)=out v-1):mB bs out f (rj bs f' e v) x (bo bs e v):=by
 refine⟨fun i oe=>?_,fun S=>?_,fun i oe ha hb=>?_⟩
 ·have h1:=h.le i oe
  unfold rj
  by_cases Hr:i=e
  ·subst Hr
   rw[if_pos rfl]
   unfold eY at hr
   split at hr<;>rename_i hc
   ·rw[if_pos hc];omega
   ·rw[if_neg hc];omega
  ·rw[if_neg Hr];omega
 ·rw[C4 he hi,h.cut S];omega
 ·have Hr:i≠e:=by
   rintro rfl
   rcases hi with hi|hi
   ·rw[hi]at ha;omega
   ·rw[hi]at hb;omega
  unfold rj
  rw[if_neg Hr,Int.add_zero]
  exact h.za i oe ab ab
theorem mB.goes (h:mB bs out f f' x v) (hs:vN cnt bs f y out) (hv:v<cnt) (h0:0<out v):∃e∈gZ bs bs.length v,0<eY bs f' e v/\out (bo bs e v)=out v-1:=by
 obtain⟨e,h1,h2,h3,h4⟩:=hs.down v hv h0
 refine⟨e,pv.2 ⟨h1,h2⟩,?_,h4⟩
 have hf:f' e=f e:=by
  refine h.za e h1 ?_ ?_
  ·unfold bo at h4
   split at h4
   ·rename_i ha;rw[ha];exact Int.le_refl _
   ·omega
  ·unfold bo at h4
   rcases h2 with h2|h2
   ·rw[if_pos h2]at h4;omega
   ·rw[h2];exact Int.le_refl _
 unfold eY at h3 ⊢
 rw[hf];exact h3
theorem mB.done {val:Int} (h:mB bs out f f' x y) (hf:jj bs f x y val):jj bs f' x y (val+1):=
 ⟨h.le,fun S hx hy=>by rw[h.cut S,hf.cut S hx hy,hx,hy];simp[bi]⟩
theorem Bw {val:Int} (hs:vN cnt bs f y out) (ok:lT cnt bs) (hf:jj bs f x y val) (hx:out x<0):∃S:Nat->Bool,S x=true/\S y=false/\val=ib S bs:=by
 refine⟨fun v=>decide (out v<0),decide_eq_true hx,decide_eq_false (by rw[hs.first];omega),hf.full (decide_eq_true hx) (decide_eq_false (by rw[hs.first];omega)) fun i hi qV=>⟨fun h1 h2 hr=>?_,fun h1 h2 hr=>?_⟩⟩
 ·have Nm:=of_decide_eq_true h1
  have xo:=of_decide_eq_false h2
  have:=hs.shut i (bC bs i).a hi (.inl rfl) (by unfold bo;rw[if_pos rfl];omega) hr
  omega
 ·have Nm:=of_decide_eq_true h1
  have xo:=of_decide_eq_false h2
  have:=hs.shut i (bC bs i).b hi (.inr rfl) (by unfold bo;rw[if_neg qV];omega) hr
  omega
end
theorem tx {bs:List PB} {f:Nat->Int} (dS:∀e,e<bs.length->0<=(bC bs e).s/\(bC bs e).s<=4) (h:∀i,i<bs.length->f i<=(bC bs i).s/\-(bC bs i).s<=f i):Small bs f:=fun e he=>by
 have:=dS e he;have:=h e he;omega
theorem oX.at_ {A:Id} {lo nx v:Nat} {L:List (List Nat)} {l:List Nat} {g:Rows} (h:oX A lo L g nx) (hv:L[v]? =some l) (hl:0<l.length):∃(rows:List (List AV)) (id:Id),g A=some ⟨true,1,rows⟩/\rows.length=L.length/\rows[v]? =some [.own id 0 l.length]/\g id=some ⟨true,1,l.map eN⟩/\lo<id.bZ/\id.bZ<nx:=by
 obtain⟨rows,ids,h1,h2,h3,h4⟩:=h
 have hk:v<L.length:=(List.getElem?_eq_some_iff.1 hv).1
 obtain⟨cs,ic,dh,hR,NM⟩:=h2.at_ v hk
 rw[jL hv hk]at hR
 rcases hR with⟨h5,_⟩|⟨id,rfl,_,h6,rfl⟩
 ·subst h5;simp at hl
 ·have:=h4 id (NM id (by simp))
  exact⟨rows,id,h1,h2.len,dh,h6,this.1,this.2⟩
theorem KE (cnt:Nat) (hn:cnt<=1048576) (bs:List PB) (ok:lT cnt bs) (oU:bs.length<=1048576) (dS:∀e,e<bs.length->0<=(bC bs e).s/\(bC bs e).s<=4) (f:Nat->Int) (x y:Nat) (hx:x<cnt) (hy:y<cnt) (Lo:x≠y) (val:Int) (hf:jj bs f x y val)
  (X A F:Id) (σ:ax) (nb:Nat) (hS:mA cnt bs f X A F σ.get nb) (uk:nb<=σ.next):
  Call Tryz.prog 166 [.ptr X 0 0,.int .i64 x,.int .i64 y] σ fun r σ'=>∃b f',r=.bool b/\mA cnt bs f' X A F σ'.get nb/\σ.next<=σ'.next/\(∀i:Id,i.bZ<nb->(i=F)=False->σ'.get i=σ.get i)/\
   (b=false->f'=f/\∃S:Nat->Bool,S x=true/\S y=false/\val=ib S bs)/\(b=true->jj bs f' x y (val+1)):=by
 refine fm dP rfl fun hl=>?_
 clear hl
 have zD:(x:Int)<(cnt:Int):=ab
 have hz:∀(g:Rows),(∀i:Id,i.bZ<nb->g i=σ.get i)->bY (dC g) 6 [.ptr X 0 0,.int .i64 (y:Int)]=some [.cH (fa cnt bs f),.int .i64 y]:=fun g hg=>by
  have:=(hS.frame hg (Nat.le_refl _)).fz
  simp only[ad,aj,this,aE,Option.map_some]
 (try((repeat(revert hN;revert N;apply Pn.out));refine wk @Nat.zero_add ?_;(repeat(refine Pn.mk ?_;intro N hN))))
 refine .inr (aO _ _ _ _ _ (fun r σ1 hq=>?_) ((CB cnt hn bs ok oU f (tx dS hf.le) y hy).x mixed (hz _ (fun i hi=>rfl))))
 obtain⟨⟨out,rfl,Lg⟩,rfl⟩:=hq
 refine hN _ _ ?_
 clear hN N
 have hox:=dt (f:=out) hx
 have tl:=di out cnt
 by_cases jo:out x<0
 ·(try((repeat(revert hN;revert N;apply Pn.out));refine wk (tw @hox (tw @jo (tw @zD (tw @tl @au.eq_1)))) ?_;(repeat(refine Pn.mk ?_;intro N hN))))
  exact gy (.inl rfl) (vs:=[.bool false]) (sd @Nat.zero_add) ⟨false,f,rfl,hS.frame (fun i hi=>rfl) (Nat.le_refl _),bD,fun i _ _=>rfl,fun _=>⟨rfl,Bw Lg ok hf jo⟩,fun h=>by cases h⟩
 (try((repeat(revert hN;revert N;apply Pn.out));refine wk (tw @hox (tw @jo (tw @zD (tw @tl @au.eq_1)))) ?_;(repeat(refine Pn.mk ?_;intro N hN))))
 refine aJ (fun m env st=>∃(v:Nat) (f':Nat->Int),m=(out v).toNat/\v<cnt/\0<=out v/\env 8=.int .i64 (v:Int)/\mB bs out f f' x v/\mA cnt bs f' X A F st.get nb/\(∀i:Id,i.bZ<nb->(i=F)=False->st.get i=σ.get i)/\σ.next<=st.next) (out x).toNat ⟨x,f,rfl,hx,ab,by(simp only[go_sem, ↓reduceIte,Nat.reduceEqDiff,Nat.reduceAdd,Nat.reduceSub,Nat.reduceLeDiff,reduceCtorEq]),mB.start hf.le,hS.frame (fun i hi=>rfl) (Nat.le_refl _),fun i _ _=>rfl,bD⟩ ?_
 rintro m env_b st_b ⟨v,f',rfl,hv,mu,b8,hW,hN1,lZ,hle⟩ bfr
 have b0:=bfr 0 (by kernel_rfl)
 have b2:=bfr 2 (by kernel_rfl)
 have b7:=bfr 7 (by kernel_rfl)
 simp only[go_sem, ↓reduceIte,Nat.reduceEqDiff,Nat.reduceAdd,Nat.reduceSub,Nat.reduceLeDiff,reduceCtorEq]at b0 b2 b7
 clear bfr
 by_cases Pr:v=y
 ·have hd:decide ((v:Int)=(y:Int))=true:=decide_eq_true (by rw[Pr])
  subst Pr
  (try((repeat(revert hN;revert N;apply Pn.out));refine wk (tw @b0 (tw @b2 (tw @b7 (tw @b8 @hd)))) ?_;(repeat(refine Pn.mk ?_;intro N hN))))
  exact gy (.inl rfl) (vs:=[.bool true]) (sd @Nat.zero_add) ⟨true,f',rfl,hN1,bD,lZ,fun h=>(by cases h),fun _=>hW.done hf⟩
 have hd:decide ((v:Int)=(y:Int))=false:=decide_eq_false fun h=>Pr ab
 have xt:0<out v:=by
  have:=Lg.zero v hv
  rcases Int.lt_or_eq_of_le mu with h|h
  ·exact h
  ·exact absurd (this h.symm) Pr
 have JE:=hW.goes Lg hv xt
 have hIm:∀ed∈gZ bs bs.length v,ed<bs.length/\BN bs ed v:=fun ed h=>pv.1 h
 have hIL:(ke cnt bs bs.length)[v]? =some (gZ bs bs.length v):=by simp[ke,hv]
 have hIl:=pr bs bs.length v
 generalize gZ bs bs.length v=I at *
 have hIp:0<I.length:=by
  obtain⟨ed,h,_⟩:=JE
  exact List.length_pos_of_mem h
 obtain⟨rows,id,hgA,pZ,kM,hid,hid1,hid2⟩:=hN1.a.at_ hIL hIp
 rw[iE]at pZ
 have hgX:=hN1.x
 have AJ:(v:Int)<(cnt:Int):=ab
 have qY:=dt (f:=out) hv
 have mm:IntKind.i64.wrap (out v-1)=out v-1:=aQ (by have:=Lg.lo v hv;omega)
 have oE:(I.map eN).length=I.length:=by simp
 have Is:=tx dS hW.le
 have kN:∀(g:Rows),(∀i:Id,i.bZ<nb->g i=st_b.get i)->∀ed:Nat,bY (dC g) 6 [.ptr X 0 0,.int .i64 (v:Int),.int .i64 (ed:Int)]=some [.cH (fa cnt bs f'),.int .i64 v,.int .i64 ed]:=fun g hg ed=>by
  have:=(hN1.frame hg (Nat.le_refl _)).fz
  simp only[ad,aj,this,aE,Option.map_some]
 rw[au]at qY
 (try((repeat(revert hN;revert N;apply Pn.out));refine wk (tw @b0 (tw @b2 (tw @b7 (tw @b8 @hd)))) ?_;(repeat(refine Pn.mk ?_;intro N hN))))
 refine aJ (fun n env st=>∃k:Nat,n=(I.length)-k/\k<=(I.length)/\env 11=.int .i64 (k:Int)/\(∃(vB BT:Int),env 9=.int .i64 vB/\env 10=.int .i64 BT/\((vB<0/\∀z,z<k->¬(0<eY bs f' (I.getD z 0) v/\out (bo bs (I.getD z 0) v)=out v-1))∨∃ed:Nat,ed∈I/\BT=(ed:Int)/\vB=(bo bs ed v:Int)/\0<eY bs f' ed v/\out (bo bs ed v)=out v-1))/\((∀i:Id,st.get i=st_b.get i)/\st_b.next<=st.next)) (I.length) ⟨0,ab,ab,sl (tw @b0 (tw @b2 (tw @b7 @b8))),⟨-1,0,by(simp only[go_sem, ↓reduceIte,Nat.reduceEqDiff,Nat.reduceAdd,Nat.reduceSub,Nat.reduceLeDiff,reduceCtorEq]),by(simp only[go_sem, ↓reduceIte,Nat.reduceEqDiff,Nat.reduceAdd,Nat.reduceSub,Nat.reduceLeDiff,reduceCtorEq]),.inl ⟨ab,fun z hz=>ab⟩⟩,⟨fun i=>rfl,bD⟩⟩ ?_
 rintro n_c env_c st_c ⟨k,rfl,cle,mb,cI0,cI1⟩ cfr
 have c0:=cfr 0 (by kernel_rfl);have c2:=cfr 2 (by kernel_rfl);have c7:=cfr 7 (by kernel_rfl);have c8:=cfr 8 (by kernel_rfl)
 simp only[go_sem, ↓reduceIte,Nat.reduceEqDiff,Nat.reduceAdd,Nat.reduceSub,Nat.reduceLeDiff,reduceCtorEq,b0,b2,b7,b8]at c0 c2 c7 c8
 clear cfr
 obtain⟨vB,BT,c9,iO,FH⟩:=cI0
 obtain⟨kW,O5⟩:=cI1
 have Az:=(kW X).trans hgX
 have Ay:=(kW A).trans hgA
 have AB:=(kW id).trans hid
 by_cases hk:(k:Int)<(I.length:Int)
 ·have gm:∀{e:Env} {gg:Rows} {nx:Nat},(e 11=.int .i64 (IntKind.i64.wrap ((k:Int)+1)))->(∃(vB BT:Int),e 9=.int .i64 vB/\e 10=.int .i64 BT/\((vB<0/\∀z,z<(k+1)->¬(0<eY bs f' (I.getD z 0) v/\out (bo bs (I.getD z 0) v)=out v-1))∨∃ed:Nat,ed∈I/\BT=(ed:Int)/\vB=(bo bs ed v:Int)/\0<eY bs f' ed v/\out (bo bs ed v)=out v-1))->((∀i:Id,gg i=st_b.get i)/\st_b.next<=nx)->∃m0,m0<(I.length)-k/\∃k:Nat,m0=(I.length)-k/\k<=(I.length)/\e 11=.int .i64 (k:Int)/\(∃(vB BT:Int),e 9=.int .i64 vB/\e 10=.int .i64 BT/\((vB<0/\∀z,z<k->¬(0<eY bs f' (I.getD z 0) v/\out (bo bs (I.getD z 0) v)=out v-1))∨∃ed:Nat,ed∈I/\BT=(ed:Int)/\vB=(bo bs ed v:Int)/\0<eY bs f' ed v/\out (bo bs ed v)=out v-1))/\((∀i:Id,gg i=st_b.get i)/\st_b.next<=nx):=fun x1 x2 x3=>⟨_,ab,k+1,rfl,ab,(by rw[x1,aA ab]),x2,x3⟩
  have eO:k<I.length:=ab
  have eC:(I.map eN)[k]? =some (eN (I.getD k 0)):=getD_map eN eO
  have ui:I.getD k 0∈I:=by rw[List.getD_eq_getElem?_getD,List.getElem?_eq_getElem eO];exact List.getElem_mem eO
  obtain⟨he,nU⟩:=hIm _ ui
  have Le:=GK cnt bs f' Is (I.getD k 0) v he
  have qZ:=kN st_c.get (fun i _=>kW i) (I.getD k 0)
  have hq:=m8 ok (v:=v) he
  have My:=dt (f:=out) hq
  obtain⟨ed,hed⟩:∃ed,ed=I.getD k 0:=⟨_,rfl⟩
  rw[<-hed]at eC he nU Le qZ hq My ui
  rw[au]at My
  rw[eN]at eC
  (try((repeat(revert hN;revert N;apply Pn.out));refine wk (tw @mb (tw @c0 (tw @c2 (tw @c7 (tw @c8 (tw @c9 (tw @iO (tw @hk (tw @Az (tw @Ay (tw @AB (tw @kM (tw @pZ (tw @AJ (tw @eC (tw @oE @bc.eq_1)))))))))))))))) ?_;(repeat(refine Pn.mk ?_;intro N hN))))
  refine .inl ⟨_,ai.x Le qZ,?_⟩
  refine hN _ _ ?_
  clear hN N
  have stay:∀k',k'=k+1->(¬(0<eY bs f' ed v/\out (bo bs ed v)=out v-1))->((vB<0/\∀z,z<k'->¬(0<eY bs f' (I.getD z 0) v/\out (bo bs (I.getD z 0) v)=out v-1))∨∃ed:Nat,ed∈I/\BT=(ed:Int)/\vB=(bo bs ed v:Int)/\0<eY bs f' ed v/\out (bo bs ed v)=out v-1):=fun k' Ih jD=>by
   rcases FH with⟨h1,h2⟩|h
   ·refine .inl ⟨h1,fun z hz=>?_⟩
    by_cases AN:z=k
    ·subst AN;rw[<-hed];exact jD
    ·exact h2 z ab
   ·exact .inr h
  by_cases hr:0<eY bs f' ed v
  ·by_cases Mq:out (bo bs ed v)=out v-1
   ·have oF:decide (out (bo bs ed v)=out v-1)=true:=decide_eq_true Mq
    have found:∃M8:Nat,M8∈I/\(ed:Int)=(M8:Int)/\(bo bs ed v:Int)=(bo bs M8 v:Int)/\0<eY bs f' M8 v/\out (bo bs M8 v)=out v-1:=⟨ed,ui,rfl,rfl,hr,Mq⟩
    by_cases Du:vB<0
    ·(try((repeat(revert hN;revert N;apply Pn.out));refine wk (tw @mb (tw @c0 (tw @c2 (tw @c7 (tw @c8 (tw @c9 (tw @iO (tw @hk (tw @Az (tw @Ay (tw @AB (tw @kM (tw @pZ (tw @AJ (tw @eC (tw @oE (tw @hr (tw @My (tw @qY (tw @mm (tw @oF (tw @Du @bc.eq_1)))))))))))))))))))))) ?_;(repeat(refine Pn.mk ?_;intro N hN))))
     exact gm (sd (tw @mb (tw @c0 (tw @c2 (tw @c7 @c8))))) (⟨_,_,sd @Nat.zero_add,sd @Nat.zero_add,.inr found⟩) (⟨kW,bD⟩)
    ·by_cases dD:(bo bs ed v:Int)<vB
     ·(try((repeat(revert hN;revert N;apply Pn.out));refine wk (tw @mb (tw @c0 (tw @c2 (tw @c7 (tw @c8 (tw @c9 (tw @iO (tw @hk (tw @Az (tw @Ay (tw @AB (tw @kM (tw @pZ (tw @AJ (tw @eC (tw @oE (tw @hr (tw @My (tw @qY (tw @mm (tw @oF (tw @Du (tw @dD @bc.eq_1))))))))))))))))))))))) ?_;(repeat(refine Pn.mk ?_;intro N hN))))
      exact gm (sd (tw @mb (tw @c0 (tw @c2 (tw @c7 @c8))))) (⟨_,_,sd @Nat.zero_add,sd @Nat.zero_add,.inr found⟩) (⟨kW,bD⟩)
     ·(try((repeat(revert hN;revert N;apply Pn.out));refine wk (tw @mb (tw @c0 (tw @c2 (tw @c7 (tw @c8 (tw @c9 (tw @iO (tw @hk (tw @Az (tw @Ay (tw @AB (tw @kM (tw @pZ (tw @AJ (tw @eC (tw @oE (tw @hr (tw @My (tw @qY (tw @mm (tw @oF (tw @Du (tw @dD @bc.eq_1))))))))))))))))))))))) ?_;(repeat(refine Pn.mk ?_;intro N hN))))
      exact gm (sd (tw @mb (tw @c0 (tw @c2 (tw @c7 @c8))))) (⟨vB,BT,sd @c9,sd @iO,by
       rcases FH with⟨h1,_⟩|h
       ·exact absurd h1 Du
       ·exact .inr h⟩) (⟨kW,bD⟩)
   ·have oF:decide (out (bo bs ed v)=out v-1)=false:=decide_eq_false Mq
    (try((repeat(revert hN;revert N;apply Pn.out));refine wk (tw @mb (tw @c0 (tw @c2 (tw @c7 (tw @c8 (tw @c9 (tw @iO (tw @hk (tw @Az (tw @Ay (tw @AB (tw @kM (tw @pZ (tw @AJ (tw @eC (tw @oE (tw @hr (tw @My (tw @qY (tw @mm (tw @oF @bc.eq_1))))))))))))))))))))) ?_;(repeat(refine Pn.mk ?_;intro N hN))))
    exact gm (sd (tw @mb (tw @c0 (tw @c2 (tw @c7 @c8))))) (⟨vB,BT,sd @c9,sd @iO,stay _ rfl fun h=>Mq h.2⟩) (⟨kW,bD⟩)
  ·(try((repeat(revert hN;revert N;apply Pn.out));refine wk (tw @mb (tw @c0 (tw @c2 (tw @c7 (tw @c8 (tw @c9 (tw @iO (tw @hk (tw @Az (tw @Ay (tw @AB (tw @kM (tw @pZ (tw @AJ (tw @eC (tw @oE (tw @hr @bc.eq_1))))))))))))))))) ?_;(repeat(refine Pn.mk ?_;intro N hN))))
   exact gm (sd (tw @mb (tw @c0 (tw @c2 (tw @c7 @c8))))) (⟨vB,BT,sd @c9,sd @iO,stay _ rfl fun h=>hr h.1⟩) (⟨kW,bD⟩)
 ·have kK:k=I.length:=ab
  have Qu:∃ed:Nat,ed∈I/\BT=(ed:Int)/\vB=(bo bs ed v:Int)/\0<eY bs f' ed v/\out (bo bs ed v)=out v-1:=by
   rcases FH with⟨h1,h2⟩|h
   ·exfalso
    obtain⟨ed,he,hq⟩:=JE
    obtain⟨z,hz,rfl⟩:=List.getElem_of_mem he
    refine h2 z ab ?_
    rw[List.getD_eq_getElem?_getD,List.getElem?_eq_getElem hz];exact hq
   ·exact h
  obtain⟨ed,ui,rfl,rfl,hr,Mq⟩:=Qu
  obtain⟨he,nU⟩:=hIm _ ui
  (try((repeat(revert hN;revert N;apply Pn.out));refine wk (tw @mb (tw @c0 (tw @c2 (tw @c7 (tw @c8 (tw @c9 (tw @iO (tw @hk (tw @Az (tw @Ay (tw @AB (tw @kM (tw @pZ (tw @AJ (tw @oE @bc.eq_1))))))))))))))) ?_;(repeat(refine Pn.mk ?_;intro N hN))))
  refine .inr (aO _ _ _ _ _ (fun r σ1 hq=>?_) (LC cnt bs f' Is ed v he X A F ⟨st_c.get,_⟩ nb (hN1.frame (fun i _=>kW i) (Nat.le_refl _)) bD))
  obtain⟨O0,lz,FN⟩:=hq
  (try dsimp only at lz FN)
  refine hN _ _ ?_
  clear hN N
  (try((repeat(revert hN;revert N;apply Pn.out));refine wk (tw @mb (tw @c0 (tw @c2 (tw @c7 (tw @c8 @c9))))) ?_;(repeat(refine Pn.mk ?_;intro N hN))))
  refine⟨_,?_,bo bs ed v,rj bs f' ed v,rfl,m8 ok he,ab,sd @Nat.zero_add,hW.step he nU hr Mq,O0,fun i hi hF=>by rw[FN i hF,kW i,lZ i hi hF],bD⟩
  omega
def qI (P:Program) (f:Nat) (args:List AV) (R:AV->Prop):Prop:=∀σ:ax,Call P f args ⟨V.ro σ.get,σ.next⟩ fun r0 σ'=>∃r',V.fz σ'.get 6 r0=some r'/\R r'
theorem Aj {P:Program} {f:Nat} {args:List AV} {g:Rows} {n:Nat} {R:AV->Prop} (h:Sound P f args ⟨V.ro g,n⟩ fun r0 σ'=>∃r',V.fz σ'.get 6 r0=some r'/\R r'):Sound P f args ⟨g,n⟩ fun r σ'=>R r/\σ'=⟨g,n⟩:=by
 intro hs D ι w vs S U A
 refine(xz (g0:=g) (K:=R) h (fun _ _ h=>h) S U A).mono ?_
 rintro e w' ⟨r,D',u,rfl,hR,T,S',hr⟩
 exact⟨r,g,n,D',ι,u,rfl,⟨hR,rfl⟩,T,S',U,Nat.le_refl _,hr⟩
theorem qI.x {P:Program} (hm:P.follows .mixedOrders=true) {f:Nat} {args:List AV} {R:AV->Prop} (h:qI P f args R) {σ:ax}:Call P f args σ fun r σ'=>R r/\σ'=σ:=
 gV (Aj (gr hm (h σ)))
theorem qI.body {P:Program} {f:Nat} {args:List AV} {R:AV->Prop} {nt na:Nat} {body:VC} {res:List nP} (hf:lr P f=some ⟨nt,na,body,res⟩) (ha:na=args.length) (h:(∀a∈args,dZ a)->∀σ:ax,dO (Call P) body (kF res fun r0 σ'=>∃r',V.fz σ'.get 6 r0=some r'/\R r') (cm args) ⟨V.ro σ.get,σ.next⟩):qI P f args R:=fun σ=>kO hf ha fun hl=>h hl σ
theorem IH {g:Rows} {rows:List (List AV)} {xs:List (List Nat)} {ids:List Id} (n:Nat) (h:dM Me g rows xs ids):dy g (n+2) rows=some (xs.map fun l=>[LL l]):=by
 induction h with
 |nil=>rw[dy];rfl
 |cons h1 _ ih=>
  rename_i x _ _ _ _ _
  rcases h1 with⟨h0,h1,_⟩|⟨id,h1,h0,h2,_⟩
  ·subst h0 h1;rw[dy,ih,ad,aj,aT];rfl
  ·have gF:x≠[]:=by rintro rfl;simp at h0
   subst h1
   rw[dy,ih,ad,aj,fw (e:=eN) (sz:=1) h2 rfl fun a=>fzN _ n a]
   simp[LL,gF]
theorem mA.fz0 {cnt:Nat} {bs:List PB} {f:Nat->Int} {X A F:Id} {g:Rows} {nx:Nat} (h:mA cnt bs f X A F g nx):V.fz g 5 (.ptr X 0 0)=some (.cH (fa cnt bs f)):=by
 have hf:V.fz g 4 (.own F 0 bs.length)=some (.sl (dv f bs.length)):=by
  rw[gi]
  simp only[h.f,if_true]
  rw[if_pos (by rw[di];omega),List.drop_zero,List.take_of_length_le (by rw[di];omega),xb];rfl
 have ha:V.fz g 4 (.own A 0 cnt)=some (.sl (ot cnt bs bs.length)):=by
  obtain⟨rows,ids,h1,h2,_,_⟩:=h.a
  have hl:=h2.len
  rw[iE]at hl
  rw[gi]
  simp only[h1,if_true]
  rw[if_pos ab,List.drop_zero,List.take_of_length_le ab,IH 1 h2]
  simp[ke,ot]
 rw[bf]
 simp only[h.x,if_true,List.getElem?_cons_zero,List.drop_zero,bc,ad,aj,aE,cj,ha,hf,Option.map_some,fa]
theorem BU {S:Nat->Bool}:∀bs:List PB,(∀b∈bs,b.s<=4)->ib S bs<=4*bs.length
 |[],_=>by simp[ib]
 |b::bs,h=>by
  rw[qe]
  have:=BU (S:=S) bs fun x hx=>h x (List.mem_cons_of_mem _ hx)
  have:=h b (by simp)
  simp only[List.length_cons]
  split<;>omega
theorem jj.zero {bs:List PB} {x y:Nat} (h:∀e,e<bs.length->0<=(bC bs e).s/\(bC bs e).s<=4):jj bs (fun _=>0) x y 0:=
 ⟨fun i hi=>by have:=h i hi;omega,fun S _ _=>je fun i _=>by simp⟩
theorem HJ {bs:List PB} {b:PB} (h:b∈bs):∃e,e<bs.length/\bC bs e=b:=by
 obtain⟨e,he,rfl⟩:=List.getElem_of_mem h
 exact⟨e,he,by simp[bC,List.getD_eq_getElem?_getD,he]⟩
theorem DQ (cnt:Nat) (hn:cnt<=1048576) (bs:List PB) (ok:lT cnt bs) (oU:bs.length<=1048576) (dS:∀e,e<bs.length->0<=(bC bs e).s/\(bC bs e).s<=4) (x y:Nat) (hx:x<cnt) (hy:y<cnt) (Lo:x≠y):
  qI Tryz.prog 150 [.int .i64 cnt,.sl (bs.map ay),.int .i64 x,.int .i64 y] fun r=>∃f val,r=.gU [.cH (fa cnt bs f),.int .i64 val]/\jj bs f x y val/\∃S:Nat->Bool,S x=true/\S y=false/\val=ib S bs:=by
 refine qI.body dP rfl fun hl σ=>?_
 clear hl
 (try((repeat(revert hN;revert N;apply Pn.out));refine wk @Nat.zero_add ?_;(repeat(refine Pn.mk ?_;intro N hN))))
 refine .inr (aO _ _ _ _ _ (fun r σ1 hq=>?_) (Ga cnt hn bs ok oU _))
 obtain⟨X,A,F,rfl,hX,hS⟩:=hq
 refine hN _ _ ?_
 clear hN N
 have hS0:∀f val,jj bs f x y val->val<=ib (fun v=>decide (v=x)) bs:=fun f val hf=>hf.bound (decide_eq_true rfl) (decide_eq_false fun h=>Lo h.symm)
 have htot:=BU (S:=fun v=>decide (v=x)) bs fun b hb=>by
  obtain⟨e,he,rfl⟩:=HJ hb
  exact(dS e he).2
 generalize ib (fun v=>decide (v=x)) bs=T at *
 (try((repeat(revert hN;revert N;apply Pn.out));refine wk @Nat.zero_add ?_;(repeat(refine Pn.mk ?_;intro N hN))))
 refine aJ (fun m env st=>∃(f:Nat->Int) (val:Int),m=(T-val).toNat/\0<=val/\env 10=.ptr X 0 0/\env 11=.int .i64 val/\jj bs f x y val/\mA cnt bs f X A F st.get σ1.next/\σ1.next<=st.next) T.toNat ⟨_,0,by simp,ab,by(simp only[go_sem, ↓reduceIte,Nat.reduceEqDiff,Nat.reduceAdd,Nat.reduceSub,Nat.reduceLeDiff,reduceCtorEq]),by(simp only[go_sem, ↓reduceIte,Nat.reduceEqDiff,Nat.reduceAdd,Nat.reduceSub,Nat.reduceLeDiff,reduceCtorEq]),jj.zero dS,hS.frame (fun i hi=>rfl) (Nat.le_refl _),bD⟩ ?_
 rintro m env_b st_b ⟨f,val,rfl,mu,xk,xN,hf,hN1,hle⟩ bfr
 have b2:=bfr 2 (by kernel_rfl)
 have b3:=bfr 3 (by kernel_rfl)
 simp only[go_sem, ↓reduceIte,Nat.reduceEqDiff,Nat.reduceAdd,Nat.reduceSub,Nat.reduceLeDiff,reduceCtorEq]at b2 b3
 clear bfr
 (try((repeat(revert hN;revert N;apply Pn.out));refine wk (tw @b2 (tw @b3 @xk)) ?_;(repeat(refine Pn.mk ?_;intro N hN))))
 refine .inr (aO _ _ _ _ _ (fun r σ2 hq=>?_) (KE cnt hn bs ok oU dS f x y hx hy Lo val hf X A F ⟨st_b.get,_⟩ σ1.next hN1 bD))
 obtain⟨b,f',rfl,O0,lz,_,jD,AM⟩:=hq
 (try dsimp only at lz)
 refine hN _ _ ?_
 clear hN N
 cases b with
 |true=>
  have kJ:=AM rfl
  have Hl:=hS0 _ _ hf
  have yz:=hS0 _ _ kJ
  have hw:IntKind.i64.wrap (val+1)=val+1:=aQ ab
  (try((repeat(revert hN;revert N;apply Pn.out));refine wk (tw @xk (tw @xN @hw)) ?_;(repeat(refine Pn.mk ?_;intro N hN))))
  exact⟨_,ab,f',val+1,rfl,ab,sd @xk,sd (tw @xN @hw),kJ,O0,bD⟩
 |false=>
  obtain⟨rfl,S,h1,h2,h3⟩:=jD rfl
  (try((repeat(revert hN;revert N;apply Pn.out));refine wk (tw @xk @xN) ?_;(repeat(refine Pn.mk ?_;intro N hN))))
  have hz:=O0.fz0
  exact⟨[.ptr X 0 0,.int .i64 val],sd @Nat.zero_add,.gU [.cH (fa cnt bs f'),.int .i64 val],by simp only[dJ,bG,ad,aj,hz,aE,Option.map_some],f',val,rfl,hf,S,h1,h2,h3⟩
theorem DR (cnt:Nat) (hn:cnt<=1048576) (bs:List PB) (ok:lT cnt bs) (oU:bs.length<=1048576) (f:Nat->Int) (hs:Small bs f) (y:Nat) (hy:y<cnt):
  lQ Tryz.prog 151 [.cH (fa cnt bs f),.int .i64 y] fun r=>∃l:List Nat,r=.sl (l.map eN)/\l.length<=cnt:=by
 refine lQ.body dP rfl fun hl n0=>?_
 clear hl
 have hz:∀g:Rows,bY (dC g) 6 [.cH (fa cnt bs f),.int .i64 (y:Int)]=some [.cH (fa cnt bs f),.int .i64 y]:=fun g=>by simp only[ad,aj,aX,aE,Option.map_some]
 (try((repeat(revert hN;revert N;apply Pn.out));refine wk @Nat.zero_add ?_;(repeat(refine Pn.mk ?_;intro N hN))))
 refine .inr (aO _ _ _ _ _ (fun r σ1 hq=>?_) ((CB cnt hn bs ok oU f hs y hy).x mixed (hz _)))
 obtain⟨⟨out,rfl,Lg⟩,rfl⟩:=hq
 refine hN _ _ ?_
 clear hN N
 (try((repeat(revert hN;revert N;apply Pn.out));refine wk @fa.eq_1 ?_;(repeat(refine Pn.mk ?_;intro N hN))))
 refine aJ (fun n env st=>∃k:Nat,n=(cnt)-k/\k<=(cnt)/\env 7=.int .i64 (k:Int)/\(∃(o:Id) (l:List Nat),env 6=.own o 0 l.length/\st.get o=some ⟨true,1,l.map eN⟩/\o.bZ<st.next/\l.length<=k)) (cnt) ⟨0,ab,ab,sl @fa.eq_1,⟨⟨151002000,n0+1+1+1⟩,[],by(simp only[go_sem, ↓reduceIte,Nat.reduceEqDiff,Nat.reduceAdd,Nat.reduceSub,Nat.reduceLeDiff,reduceCtorEq])<;>rfl,by(simp only[go_sem, ↓reduceIte,Nat.reduceEqDiff,Nat.reduceAdd,Nat.reduceSub,Nat.reduceLeDiff,reduceCtorEq])<;>rfl,bD,by simp⟩⟩ ?_
 rintro n_a env_a st_a ⟨k,rfl,ale,a7,l7⟩ dE
 have a0:=dE 0 (by kernel_rfl);have a5:=dE 5 (by kernel_rfl)
 simp only[go_sem, ↓reduceIte,Nat.reduceEqDiff,Nat.reduceAdd,Nat.reduceSub,Nat.reduceLeDiff,reduceCtorEq,fa]at a0 a5
 clear dE
 obtain⟨o,l,a6,ag,qY,r6⟩:=l7
 have mu:=eK qY
 have me:(l.map eN).length=l.length:=by simp
 by_cases hk:(k:Int)<(cnt:Int)
 ·have cl:∀{e:Env} {gg:Rows} {nx:Nat},(e 7=.int .i64 (IntKind.i64.wrap ((k:Int)+1)))->(∃(o:Id) (l:List Nat),e 6=.own o 0 l.length/\gg o=some ⟨true,1,l.map eN⟩/\o.bZ<nx/\l.length<=(k+1))->∃m0,m0<(cnt)-k/\∃k:Nat,m0=(cnt)-k/\k<=(cnt)/\e 7=.int .i64 (k:Int)/\(∃(o:Id) (l:List Nat),e 6=.own o 0 l.length/\gg o=some ⟨true,1,l.map eN⟩/\o.bZ<nx/\l.length<=k):=fun x1 x2=>⟨_,ab,k+1,rfl,ab,(by rw[x1,aA ab]),x2⟩
  have sU:=dt (f:=out) (show k<cnt by omega)
  rw[au]at sU
  have e1:l.length+1<=16777216:=ab
  by_cases h0:0<=out k
  ·(try((repeat(revert hN;revert N;apply Pn.out));refine wk (tw @a7 (tw @a0 (tw @a5 (tw @a6 (tw @ag (tw @mu (tw @hk (tw @sU (tw @h0 (tw @e1 (tw @me @fa.eq_1))))))))))) ?_;(repeat(refine Pn.mk ?_;intro N hN))))
   exact cl (sd (tw @a7 (tw @a0 (tw @a5 @fa.eq_1)))) (⟨⟨151007003,st_a.next+1+1⟩,l++[k],by rw[List.length_append];simp only[go_sem, ↓reduceIte,Nat.reduceEqDiff,Nat.reduceAdd,Nat.reduceSub,Nat.reduceLeDiff,reduceCtorEq,List.length_cons,List.length_nil],by rw[List.map_append,List.map_cons,List.map_nil];simp only[go_sem, ↓reduceIte,Nat.reduceEqDiff,Nat.reduceAdd,Nat.reduceSub,Nat.reduceLeDiff,reduceCtorEq,eN],bD,by simp;omega⟩)
  ·(try((repeat(revert hN;revert N;apply Pn.out));refine wk (tw @a7 (tw @a0 (tw @a5 (tw @a6 (tw @ag (tw @mu (tw @hk (tw @sU (tw @h0 (tw @me @fa.eq_1)))))))))) ?_;(repeat(refine Pn.mk ?_;intro N hN))))
   exact cl (sd (tw @a7 (tw @a0 (tw @a5 @fa.eq_1)))) (⟨o,l,sd @a6,sd @ag,bD,ab⟩)
 ·(try((repeat(revert hN;revert N;apply Pn.out));refine wk (tw @a7 (tw @a0 (tw @a5 (tw @a6 (tw @hk @fa.eq_1))))) ?_;(repeat(refine Pn.mk ?_;intro N hN))))
  have ql:fh st_a.get 6 (.own o 0 l.length)=some (.sl (l.map eN)):=eX ag rfl fun b=>KC _ 4 b
  exact⟨_,rfl,_,by simp only[go_sem, ↓reduceIte,Nat.reduceEqDiff,Nat.reduceAdd,Nat.reduceSub,Nat.reduceLeDiff,reduceCtorEq,dJ];exact ql,l,rfl,ab⟩
theorem yU (v1 v2:Int) (l1 l2:List Nat) (h1:l1.length<=1048576) (h2:l2.length<=1048576):
  lQ Tryz.prog 152 [.int .i64 v1,.sl (l1.map eN),.int .i64 v2,.sl (l2.map eN)] fun r=>∃b,r=.bool b/\(v1<v2->b=true)/\(v2<v1->b=false):=by
 refine lQ.body dP rfl fun hl n0=>?_
 clear hl
 have ret:∀{t:Nat} {env:Env} {σ:ax} {b:Bool} {x:Ex},(x=.ret∨x=.normal)->env t=.bool b->((v1<v2->b=true)/\(v2<v1->b=false))->kF [.tmp t] (fun r0 σ'=>∃r',fh σ'.get 6 r0=some r'/\∃b,r'=.bool b/\(v1<v2->b=true)/\(v2<v1->b=false)) x env σ:=by
  intro t env σ b x hx he hb
  have:∃vs,eR env σ.get [.tmp t]=some vs/\∃r',fh σ.get 6 (dJ vs)=some r'/\∃b,r'=.bool b/\(v1<v2->b=true)/\(v2<v1->b=false):=⟨[env t],rfl,.bool b,by rw[he];exact eD _ _ _,b,rfl,hb⟩
  rcases hx with rfl|rfl
  ·exact this
  ·exact this
 have m1:(l1.map eN).length=l1.length:=by simp
 have m2:(l2.map eN).length=l2.length:=by simp
 by_cases hv:v1=v2
 ·have hd:decide (v1=v2)=true:=decide_eq_true hv
  by_cases r6:(l1.length:Int)=(l2.length:Int)
  ·have oF:decide ((l1.length:Int)=(l2.length:Int))=true:=decide_eq_true r6
   have Ql:decide (l1.length=l2.length)=true:=decide_eq_true ab
   (try((repeat(revert hN;revert N;apply Pn.out));refine wk (tw @hd (tw @oF (tw @Ql (tw @m1 @m2)))) ?_;(repeat(refine Pn.mk ?_;intro N hN))))
   refine aJ (fun n env st=>∃k:Nat,n=(l1.length)-k/\k<=(l1.length)/\env 9=.int .i64 (k:Int)) (l1.length) ⟨0,ab,ab,sl @Nat.zero_add⟩ ?_
   rintro n_a env_a st_a ⟨k,rfl,ale,a9⟩ dE
   have a1:=dE 1 (by kernel_rfl);have a3:=dE 3 (by kernel_rfl)
   simp only[go_sem, ↓reduceIte,Nat.reduceEqDiff,Nat.reduceAdd,Nat.reduceSub,Nat.reduceLeDiff,reduceCtorEq]at a1 a3
   clear dE
   by_cases hk:(k:Int)<(l1.length:Int)
   ·have cl:∀{e:Env},(e 9=.int .i64 (IntKind.i64.wrap ((k:Int)+1)))->∃m0,m0<(l1.length)-k/\∃k:Nat,m0=(l1.length)-k/\k<=(l1.length)/\e 9=.int .i64 (k:Int):=fun x1=>⟨_,ab,k+1,rfl,ab,(by rw[x1,aA ab])⟩
    have g1:(l1.map eN)[k]? =some (eN (l1.getD k 0)):=getD_map eN ab
    have g2:(l2.map eN)[k]? =some (eN (l2.getD k 0)):=getD_map eN ab
    rw[eN]at g1 g2
    by_cases he:((l1.getD k 0:Nat):Int)=((l2.getD k 0:Nat):Int)
    ·have Qm:decide (((l1.getD k 0:Nat):Int)=((l2.getD k 0:Nat):Int))=true:=decide_eq_true he
     have Qn:decide (l1.getD k 0=l2.getD k 0)=true:=decide_eq_true ab
     (try((repeat(revert hN;revert N;apply Pn.out));refine wk (tw @a9 (tw @a1 (tw @a3 (tw @hk (tw @m1 (tw @g1 (tw @g2 (tw @Qm @Qn)))))))) ?_;(repeat(refine Pn.mk ?_;intro N hN))))
     exact cl (sd (tw @a9 (tw @a1 @a3)))
    ·have Qm:decide (((l1.getD k 0:Nat):Int)=((l2.getD k 0:Nat):Int))=false:=decide_eq_false he
     have Qn:decide (l1.getD k 0=l2.getD k 0)=false:=decide_eq_false ab
     (try((repeat(revert hN;revert N;apply Pn.out));refine wk (tw @a9 (tw @a1 (tw @a3 (tw @hk (tw @m1 (tw @g1 (tw @g2 (tw @Qm @Qn)))))))) ?_;(repeat(refine Pn.mk ?_;intro N hN))))
     exact ret (.inl rfl) (by simp only[go_sem, ↓reduceIte,Nat.reduceEqDiff,Nat.reduceAdd,Nat.reduceSub,Nat.reduceLeDiff,reduceCtorEq];rfl) ⟨fun h=>ab,fun h=>ab⟩
   ·(try((repeat(revert hN;revert N;apply Pn.out));refine wk (tw @a9 (tw @a1 (tw @a3 (tw @hk @m1)))) ?_;(repeat(refine Pn.mk ?_;intro N hN))))
    exact ret (b:=false) (.inl rfl) (sd @Nat.zero_add) ⟨fun h=>ab,fun h=>ab⟩
  ·have oF:decide ((l1.length:Int)=(l2.length:Int))=false:=decide_eq_false r6
   have Ql:decide (l1.length=l2.length)=false:=decide_eq_false ab
   (try((repeat(revert hN;revert N;apply Pn.out));refine wk (tw @hd (tw @oF (tw @Ql (tw @m1 @m2)))) ?_;(repeat(refine Pn.mk ?_;intro N hN))))
   exact ret (.inl rfl) (by simp only[go_sem, ↓reduceIte,Nat.reduceEqDiff,Nat.reduceAdd,Nat.reduceSub,Nat.reduceLeDiff,reduceCtorEq];rfl) ⟨fun h=>ab,fun h=>ab⟩
 ·have hd:decide (v1=v2)=false:=decide_eq_false hv
  (try((repeat(revert hN;revert N;apply Pn.out));refine wk @hd ?_;(repeat(refine Pn.mk ?_;intro N hN))))
  exact ret (b:=decide (v1<v2)) (.inl rfl) (sd @Nat.zero_add) ⟨fun h=>decide_eq_true h,fun h=>decide_eq_false ab⟩
def sf (bs:List PB) (cnt:Nat) (iv:Int) (k:Nat):Prop:=(k=1/\iv= -1)∨(0<=iv/\(∀z,1<=z->z<k->∀S:Nat->Bool,S 0=true->S z=false->iv<=ib S bs)/\∃S:Nat->Bool,S 0=true/\(∃z,z<cnt/\S z=false)/\iv=ib S bs)
theorem jj.nn {bs:List PB} {val:Int} {S:Nat->Bool} (dS:∀e,e<bs.length->0<=(bC bs e).s/\(bC bs e).s<=4) (h:val=ib S bs):0<=val:=by
 rw[h,sy]
 have:=pO (f:=fun _=>0) (g:=fun i=>if S (bC bs i).a=S (bC bs i).b then 0 else(bC bs i).s) (n:=bs.length) fun i hi=>by
  have:=dS i hi
  split<;>omega
 rw[je fun _ _=>rfl]at this
 exact this
theorem sf.done {bs:List PB} {cnt:Nat} {iv:Int} (hc:2<=cnt) (h:sf bs cnt iv cnt) (t:Int):t<=iv↔jJ cnt bs t:=by
 rcases h with⟨h,_⟩|⟨_,h1,S,h2,⟨z,hz,kN⟩,h3⟩
 ·omega
 ·constructor
  ·intro ht S h0 ⟨y,hy,hy2⟩
   have:y≠0:=by rintro rfl;rw[h0]at hy2;cases hy2
   have:=h1 y ab hy S h0 hy2
   omega
  ·intro hH
   rw[h3];exact hH S h2 ⟨z,hz,kN⟩
theorem wH (cnt:Nat) (h2:2<=cnt) (hn:cnt<=1048576) (bs:List PB) (ok:lT cnt bs) (oU:bs.length<=1048576) (dS:∀e,e<bs.length->0<=(bC bs e).s/\(bC bs e).s<=4):
  qI Tryz.prog 128 [.int .i64 cnt,.sl (bs.map ay)] fun r=>∃iv p,r=.gU [.int .i64 iv,p]/\∀t:Int,t<=iv↔jJ cnt bs t:=by
 refine qI.body dP rfl fun hl σ=>?_
 clear hl
 (try((repeat(revert hN;revert N;apply Pn.out));refine wk @Nat.zero_add ?_;(repeat(refine Pn.mk ?_;intro N hN))))
 have z0:∀(g:Rows) (id:Id),g id=some ⟨true,1,[]⟩->V.fz (dC g) 6 (.own id 0 0)=some (.sl (([]:List Nat).map eN))/\V.fz g 5 (.own id 0 0)=some (.sl (([]:List Nat).map eN)):=fun g id h=>by
  have h':dC g id=some ⟨true,1,[]⟩:=by simp[dC,h]
  constructor
  ·rw[gi];simp only[h',if_true];rw[if_pos (by simp)];simp[mV]
  ·rw[gi];simp only[h,if_true];rw[if_pos (by simp)];simp[mV]
 refine aJ (fun m env st=>∃(k:Nat) (iv:Int) (l:List Nat) (p:AV),m=cnt-k/\1<=k/\k<=cnt/\env 8=.int .i64 (k:Int)/\env 6=.int .i64 iv/\env 7=p/\V.fz (dC st.get) 6 p=some (.sl (l.map eN))/\V.fz st.get 5 p=some (.sl (l.map eN))/\l.length<=cnt/\sf bs cnt iv k) (cnt-1) ⟨1,-1,[],.own ⟨128002000,σ.next+1+1⟩ 0 0,rfl,ab,ab,by(simp only[go_sem, ↓reduceIte,Nat.reduceEqDiff,Nat.reduceAdd,Nat.reduceSub,Nat.reduceLeDiff,reduceCtorEq])<;>rfl,by(simp only[go_sem, ↓reduceIte,Nat.reduceEqDiff,Nat.reduceAdd,Nat.reduceSub,Nat.reduceLeDiff,reduceCtorEq])<;>rfl,by(simp only[go_sem, ↓reduceIte,Nat.reduceEqDiff,Nat.reduceAdd,Nat.reduceSub,Nat.reduceLeDiff,reduceCtorEq])<;>rfl,(z0 _ _ (sd @Nat.zero_add)).1,(z0 _ _ (sd @Nat.zero_add)).2,by simp,.inl ⟨rfl,rfl⟩⟩ ?_
 rintro m env_b st_b ⟨k,iv,l,p,rfl,qm,sQ,b8,b6,b7,xw,kN,hl,hB⟩ bfr
 have b0:=bfr 0 (by kernel_rfl)
 have b1:=bfr 1 (by kernel_rfl)
 simp only[go_sem, ↓reduceIte,Nat.reduceEqDiff,Nat.reduceAdd,Nat.reduceSub,Nat.reduceLeDiff,reduceCtorEq]at b0 b1
 clear bfr z0
 by_cases hk:(k:Int)<(cnt:Int)
 ·have eO:k<cnt:=ab
  have hFl:=DQ cnt hn bs ok oU dS 0 k ab eO ab
  rw[show(((0:Nat):Int))=0 from rfl]at hFl
  (try((repeat(revert hN;revert N;apply Pn.out));refine wk (tw @b0 (tw @b1 (tw @b6 (tw @b7 (tw @b8 @hk))))) ?_;(repeat(refine Pn.mk ?_;intro N hN))))
  refine .inr (aO _ _ _ _ _ (fun r σ1 hq=>?_) (hFl.x mixed))
  obtain⟨⟨f,val,rfl,hf,S,H4,H5,Mp⟩,rfl⟩:=hq
  refine hN _ _ ?_
  clear hN N
  have Is:=tx dS hf.le
  have oJ:=jj.nn (val:=val) dS Mp
  (try((repeat(revert hN;revert N;apply Pn.out));refine wk (tw @b0 (tw @b1 (tw @b6 (tw @b7 @b8)))) ?_;(repeat(refine Pn.mk ?_;intro N hN))))
  refine .inr (aO _ _ _ _ _ (fun r σ1 hq=>?_) ((DR cnt hn bs ok oU f Is k eO).x mixed (by simp only[ad,aj,aX,aE,Option.map_some])))
  obtain⟨⟨l',rfl,Hv⟩,rfl⟩:=hq
  refine hN _ _ ?_
  clear hN N
  have hw:IntKind.i64.wrap ((k:Int)+1)=((k+1:Nat):Int):=aA ab
  have OC:(∀z,1<=z->z<k->∀S:Nat->Bool,S 0=true->S z=false->val<=ib S bs)->sf bs cnt val (k+1):=fun h=>.inr ⟨oJ,fun z xw kN S' h0 h1=>by
   by_cases qZ:z=k
   ·subst qZ;exact hf.bound h0 h1
   ·exact h z xw ab S' h0 h1,S,H4,⟨k,eO,H5⟩,Mp⟩
  by_cases jo:iv<0
  ·have yw:k=1:=by
    rcases hB with⟨h,_⟩|⟨h,_⟩
    ·exact h
    ·omega
   (try((repeat(revert hN;revert N;apply Pn.out));refine wk (tw @b0 (tw @b1 (tw @b6 (tw @b7 (tw @b8 (tw @jo @hw)))))) ?_;(repeat(refine Pn.mk ?_;intro N hN))))
   refine⟨_,?_,k+1,val,l',.sl (l'.map eN),rfl,ab,ab,sd (tw @b8 @hw),sd @Nat.zero_add,sd @Nat.zero_add,cj _ _ _,cj _ _ _,Hv,OC fun z h1 h2=>ab⟩
   omega
  ·have yw:(∀z,1<=z->z<k->∀S:Nat->Bool,S 0=true->S z=false->iv<=ib S bs)/\∃S:Nat->Bool,S 0=true/\(∃z,z<cnt/\S z=false)/\iv=ib S bs:=by
    rcases hB with⟨_,h⟩|⟨_,h⟩
    ·omega
    ·exact h
   (try((repeat(revert hN;revert N;apply Pn.out));refine wk (tw @b0 (tw @b1 (tw @b6 (tw @b7 (tw @b8 (tw @jo @hw)))))) ?_;(repeat(refine Pn.mk ?_;intro N hN))))
   refine .inr (aO _ _ _ _ _ (fun r σ1 hq=>?_) ((yU val iv l' l ab ab).x mixed (by simp only[ad,aj,cj,aE,xw,Option.map_some])))
   obtain⟨⟨b,rfl,Hl,yz⟩,rfl⟩:=hq
   refine hN _ _ ?_
   clear hN N
   cases b with
   |true=>
    have ME:val<=iv:=by
     rcases Int.lt_or_le iv val with h|h
     ·exact absurd (yz h) (by simp)
     ·exact h
    (try((repeat(revert hN;revert N;apply Pn.out));refine wk (tw @b0 (tw @b1 (tw @b6 (tw @b7 (tw @b8 @hw))))) ?_;(repeat(refine Pn.mk ?_;intro N hN))))
    refine⟨_,?_,k+1,val,l',.sl (l'.map eN),rfl,ab,ab,sd (tw @b8 @hw),sd @Nat.zero_add,sd @Nat.zero_add,cj _ _ _,cj _ _ _,Hv,OC fun z h1 h2 S' h3 h4=>by have:=yw.1 z h1 h2 S' h3 h4;omega⟩
    omega
   |false=>
    have ME:iv<=val:=by
     rcases Int.lt_or_le val iv with h|h
     ·exact absurd (Hl h) (by simp)
     ·exact h
    (try((repeat(revert hN;revert N;apply Pn.out));refine wk (tw @b0 (tw @b1 (tw @b6 (tw @b7 (tw @b8 @hw))))) ?_;(repeat(refine Pn.mk ?_;intro N hN))))
    refine⟨_,?_,k+1,iv,l,p,rfl,ab,ab,sd (tw @b8 @hw),sd @b6,sd @b7,xw,kN,hl,.inr ⟨ab,fun z h1 h2 S' h3 h4=>?_,yw.2⟩⟩
    ·omega
    ·by_cases qZ:z=k
     ·subst qZ;have:=hf.bound h3 h4;omega
     ·exact yw.1 z h1 ab S' h3 h4
 ·have kK:k=cnt:=ab
  (try((repeat(revert hN;revert N;apply Pn.out));refine wk (tw @b0 (tw @b1 (tw @b6 (tw @b7 (tw @b8 @hk))))) ?_;(repeat(refine Pn.mk ?_;intro N hN))))
  exact⟨[.int .i64 iv,p],sd @Nat.zero_add,.gU [.int .i64 iv,.sl (l.map eN)],by simp only[dJ,bG,ad,aj,kN,aE,Option.map_some],iv,_,rfl,sf.done h2 (kK▸hB)⟩
theorem Jb {s:aq} (hS:lj s) (a d:Int):tz s (cG (cD s a) d)<=4:=by
 have hF:=hS.form
 have fb:cG (cD s a) d=0∨(0<=cG (cD s a) d/\cG (cD s a) d<=s.aw.length):=by
  unfold cG cD
  rw[List.getD_eq_getElem?_getD,List.getD_eq_getElem?_getD]
  rcases ht:s.ae[a.toNat]? with _|t
  ·exact .inl (by simp[A7])
  ·have htm:=List.mem_of_getElem? ht
   simp only[Option.getD_some]
   rcases hg:t.aY[d.toNat]? with _|g
   ·exact .inl rfl
   ·exact .inr (hF.qT t htm g (List.mem_of_getElem? hg))
 unfold tz
 by_cases h0:cG (cD s a) d=0
 ·rw[if_pos h0];omega
 ·rw[if_neg h0]
  have hk:(cG (cD s a) d-1).toNat<s.aw.length:=ab
  have:=dr (hS.PW _ hk).2.1
  unfold n9 at this
  unfold iX
  omega
theorem Fe {s:aq} (hS:lj s) (a d b:Int):iw s a d b<=4:=by
 unfold iw
 split
 ·exact Jb hS a d
 ·omega
theorem CY {s:aq} {l:List ak} (hS:lj s) {i:Nat} (hi:i<l.length) {d:Int}:∀b∈lp s l i d,b.a<l.length/\b.b<l.length/\0<=b.s/\b.s<=4:=by
 intro b hb
 unfold lp at hb
 split at hb
 ·rename_i h
  simp only[List.mem_singleton]at hb
  subst hb
  exact⟨hi,(nB h.1).1,by simp only;omega,Fe hS ..⟩
 ·cases hb
theorem uJ {s:aq} {l:List ak} (hS:lj s):∀b∈bW s l,b.a<l.length/\b.b<l.length/\0<=b.s/\b.s<=4:=by
 intro b hb
 simp only[bW,fI,fo,List.mem_flatMap,List.mem_range]at hb
 obtain⟨i,hi,j,_,hb⟩:=hb
 exact CY hS hi b hb
theorem ou {s:aq} {l:List ak} (hF:jI l):(bW s l).length<=1000:=by
 have:=qM s l l.length
 have:=hF.EF
 rw[bW];omega
theorem E7 {bs:List PB} {e:Nat} (h:e<bs.length):bC bs e∈bs:=by
 rw[bC,List.getD_eq_getElem?_getD,List.getElem?_eq_getElem h];exact List.getElem_mem h
theorem Dv {n:Nat} {bs:List PB} {t:Int} (h:n<2):jJ n bs t:=fun S h0 ⟨y,hy,hf⟩=>by
 have:y=0:=ab
 subst this;rw[h0]at hf;cases hf
def gC (s:aq) (l:List ak) (t:Int):Nat:=(leads l.length (dH (aD t (bW s l)))).length
noncomputable def l5 (s:aq) (l:List ak) (t:Int):Bool:=@decide (nw l.length (bW s l) t) (Classical.propDecidable _)
def qi (s:aq) (l:List ak) (t:Int):Int:=if 64<gC s l t then 4 else 0
theorem k8 {s:aq} {l:List ak} {t:Int} {p:Prop} [Decidable p] (h:p↔nw l.length (bW s l) t):decide p=l5 s l t:=by
 letI:=Classical.propDecidable (nw l.length (bW s l) t)
 unfold l5
 by_cases hp:p
 ·rw[decide_eq_true hp];exact(decide_eq_true (h.1 hp)).symm
 ·rw[decide_eq_false hp];exact(decide_eq_false fun k=>hp (h.2 k)).symm
theorem yW (s:aq) (l:List ak) (t:Int) (hS:lj s) (hA:nN s l):ai Tryz.prog 94 [.cH (aa s),.cH [.sl (l.map ah)],.int .i64 t] (.gU [.bool (l5 s l t),.int .i64 (qi s l t)]):=by
 refine ai.body dP rfl fun hl n0=>?_
 clear hl
 have hb:=uJ (l:=l) hS
 have oU:=ou (s:=s) hA.1
 have NF:=hA.1.EF
 have r4:=AU s l hS.form hA
 have Hy:=yV l.length ab (bW s l) (fun b h=>⟨(hb b h).1,(hb b h).2.1⟩) ab t
 have hL:=re (aD t (bW s l))
 have fb:=Bt hL (fun b h=>⟨(hb b h).1,(hb b h).2.1⟩)
 have hlen:=(lJ (dH (aD t (bW s l))) (bW s l)).2
 have kB:=ja l.length (dH (aD t (bW s l)))
 have e9:(l.map ah).length=l.length:=by simp
 by_cases rI:(64:Int)<(gC s l t:Int)
 ·have rJ:64<gC s l t:=ab
  have hd:l5 s l t=false:=(k8 (p:=False) ⟨False.elim,fun h=>by have:=h.1;unfold gC at rJ;omega⟩).symm.trans (by simp)
  rw[gC]at rI
  (repeat(first|((repeat(revert hN;revert N;apply Pn.out));refine wk (tw @aa.eq_1 (tw @rI @e9)) ?_;(repeat(refine Pn.mk ?_;intro N hN)))|((try apply Or.inl);refine⟨_,ai.x (r4) (sd (tw @aa.eq_1 (tw @rI @e9))),?_⟩;refine hN _ _ ?_;clear hN N)|((try apply Or.inl);refine⟨_,ai.x (Hy) (sd (tw @aa.eq_1 (tw @rI @e9))),?_⟩;refine hN _ _ ?_;clear hN N)))
  exact iK (.inl rfl) (r1:=.bool false) (r2:=.int .i64 4) (sd @Nat.zero_add) (sd @Nat.zero_add) (by rw[hd,qi,if_pos rJ];simp only[ee,aM,bh,eD,dK,Option.map_some])
 have rJ:¬64<gC s l t:=ab
 have hf:qi s l t=0:=by rw[qi,if_neg rJ]
 by_cases h2:(gC s l t:Int)<2
 ·have hd:l5 s l t=true:=(k8 (p:=True) ⟨fun _=>⟨by unfold gC at rJ;omega,Dv (by unfold gC at h2;omega)⟩,fun _=>trivial⟩).symm.trans (by simp)
  rw[gC]at rI h2
  (repeat(first|((repeat(revert hN;revert N;apply Pn.out));refine wk (tw @aa.eq_1 (tw @rI (tw @h2 @e9))) ?_;(repeat(refine Pn.mk ?_;intro N hN)))|((try apply Or.inl);refine⟨_,ai.x (r4) (sd (tw @aa.eq_1 (tw @rI (tw @h2 @e9)))),?_⟩;refine hN _ _ ?_;clear hN N)|((try apply Or.inl);refine⟨_,ai.x (Hy) (sd (tw @aa.eq_1 (tw @rI (tw @h2 @e9)))),?_⟩;refine hN _ _ ?_;clear hN N)))
  exact iK (.inl rfl) (r1:=.bool true) (r2:=.int .i64 0) (sd @Nat.zero_add) (sd @Nat.zero_add) (by rw[hd,hf];simp only[ee,aM,bh,eD,dK,Option.map_some])
 have Lm:=wH (gC s l t) ab (by unfold gC;omega) (eG (dH (aD t (bW s l))) (bW s l)) (fun e he=>by have:=fb _ (E7 he);exact⟨this.1,this.2.1,this.2.2.1⟩) ab (fun e he=>by
  obtain⟨_,_,_,c,hc,dh⟩:=fb _ (E7 he)
  rw[dh];have:=hb c hc;omega)
 rw[gC]at rI h2 Lm
 (repeat(first|((repeat(revert hN;revert N;apply Pn.out));refine wk (tw @aa.eq_1 (tw @rI (tw @h2 @e9))) ?_;(repeat(refine Pn.mk ?_;intro N hN)))|((try apply Or.inl);refine⟨_,ai.x (r4) (sd (tw @aa.eq_1 (tw @rI (tw @h2 @e9)))),?_⟩;refine hN _ _ ?_;clear hN N)|((try apply Or.inl);refine⟨_,ai.x (Hy) (sd (tw @aa.eq_1 (tw @rI (tw @h2 @e9)))),?_⟩;refine hN _ _ ?_;clear hN N)))
 refine .inr (aO _ _ _ _ _ (fun r σ1 hq=>?_) (Lm.x mixed))
 obtain⟨⟨iv,p,rfl,Ny⟩,rfl⟩:=hq
 refine hN _ _ ?_
 clear hN N
 (try((repeat(revert hN;revert N;apply Pn.out));refine wk @Nat.zero_add ?_;(repeat(refine Pn.mk ?_;intro N hN))))
 exact iK (.inl rfl) (r1:=.bool (decide (t<=iv))) (r2:=.int .i64 0) (sd @Nat.zero_add) (sd @Nat.zero_add) (by
  rw[hf,k8 (s:=s) (l:=l) (t:=t) (p:=t<=iv) ((Ny t).trans (AF.trans ⟨fun h=>⟨by unfold gC at rJ;omega,h⟩,fun h=>h.2⟩))]
  simp only[ee,aM,bh,eD,dK,Option.map_some])
theorem qq (t:Int):ai Tryz.prog 93 [.int .i64 t] (.bool (fU t 1 16)):=by
 refine ai.body dP rfl fun hl n0=>?_
 clear hl
 have h:=gj t 1 16
 (repeat(first|((repeat(revert hN;revert N;apply Pn.out));refine wk @Nat.zero_add ?_;(repeat(refine Pn.mk ?_;intro N hN)))|((try apply Or.inl);refine⟨_,ai.x (h) (sd @Nat.zero_add),?_⟩;refine hN _ _ ?_;clear hN N)))
 exact aI (b:=fU t 1 16) (.inl rfl) (sd @Nat.zero_add) rfl
structure E4 (s:bV):Prop where
 set:lj s.ar
 LH:nN s.ar s.bR.ae
 some:1<=s.bR.ae.length
 LP:fU s.aG 1 16=true
 holds:nw s.bR.ae.length (bW s.ar s.bR.ae) s.aG
noncomputable def lL (s:bV):Bool:=@decide (E4 s) (Classical.propDecidable _)
theorem tD {s:bV}:lL s=true↔E4 s:=by simp[lL]
theorem ji {s:bV} (h:¬E4 s):false=lL s:=by simp[lL,h]
theorem zl {s:bV} (h:E4 s):true=lL s:=by simp[lL,h]
theorem nJ {s:aq} {l:List ak} {t:Int}:l5 s l t=true↔nw l.length (bW s l) t:=by simp[l5]
theorem ID (s:bV) (hn:fA s.ar) (hg:s.ar.aw.length<=1048576) (ht:s.ar.ae.length<=1048576):ai Tryz.prog 65 [.cH (az s)] (.bool (lL s)):=by
 refine ai.body dP rfl fun hl n0=>?_
 clear hl
 have h1:=(IB s.ar hn hg ht).cut mixed (.ptr _ [.sl (s.bR.ae.map ah),.int .i64 s.aG] .nil)
 by_cases hS:lj s.ar
 ·rw[k7.2 hS]at h1
  have h2:=(Cr s.ar s.bR.ae).cut mixed (.ptr _ [.sl (s.bR.ae.map ah),.int .i64 s.aG] (.ptr _ [.int .i64 s.aG] .nil))
  by_cases hA:nN s.ar s.bR.ae
  ·rw[kP.2 hA]at h2
   by_cases h0:(s.bR.ae.length:Int)=0
   ·have hd:decide ((s.bR.ae.length:Int)=0)=true:=decide_eq_true h0
    have jD:false=lL s:=ji fun h=>by have:=h.some;omega
    generalize e9:(s.bR.ae.map ah).length=len at *
    (repeat(first|((repeat(revert hN;revert N;apply Pn.out));refine wk (tw @az.eq_1 (tw @aa.eq_1 @hd)) ?_;(repeat(refine Pn.mk ?_;intro N hN)))|((try apply Or.inl);refine⟨_,ai.x (h1) (sd (tw @az.eq_1 (tw @aa.eq_1 @hd))),?_⟩;refine hN _ _ ?_;clear hN N)|((try apply Or.inl);refine⟨_,ai.x (h2) (sd (tw @az.eq_1 (tw @aa.eq_1 @hd))),?_⟩;refine hN _ _ ?_;clear hN N)))
    exact aI (b:=false) (.inl rfl) (sd @Nat.zero_add) jD
   ·have hd:decide ((s.bR.ae.length:Int)=0)=false:=decide_eq_false h0
    have h3:=qq s.aG
    cases hT:fU s.aG 1 16
    ·rw[hT]at h3
     (repeat(first|((repeat(revert hN;revert N;apply Pn.out));refine wk (tw @az.eq_1 (tw @aa.eq_1 @hd)) ?_;(repeat(refine Pn.mk ?_;intro N hN)))|((try apply Or.inl);refine⟨_,ai.x (h1) (sd (tw @az.eq_1 (tw @aa.eq_1 @hd))),?_⟩;refine hN _ _ ?_;clear hN N)|((try apply Or.inl);refine⟨_,ai.x (h2) (sd (tw @az.eq_1 (tw @aa.eq_1 @hd))),?_⟩;refine hN _ _ ?_;clear hN N)|((try apply Or.inl);refine⟨_,ai.x (h3) (sd (tw @az.eq_1 (tw @aa.eq_1 @hd))),?_⟩;refine hN _ _ ?_;clear hN N)))
     exact aI (b:=false) (.inl rfl) (sd @Nat.zero_add) (ji fun h=>by have:=h.LP;rw[hT]at this;cases this)
    ·rw[hT]at h3
     have h4:=(yW s.ar s.bR.ae s.aG hS hA).cut mixed (.ptr _ [.sl (s.bR.ae.map ah),.int .i64 s.aG] (.ptr _ [.int .i64 s.aG] (.same _ .nil)))
     cases hB:l5 s.ar s.bR.ae s.aG
     ·rw[hB]at h4
      (repeat(first|((repeat(revert hN;revert N;apply Pn.out));refine wk (tw @az.eq_1 (tw @aa.eq_1 @hd)) ?_;(repeat(refine Pn.mk ?_;intro N hN)))|((try apply Or.inl);refine⟨_,ai.x (h1) (sd (tw @az.eq_1 (tw @aa.eq_1 @hd))),?_⟩;refine hN _ _ ?_;clear hN N)|((try apply Or.inl);refine⟨_,ai.x (h2) (sd (tw @az.eq_1 (tw @aa.eq_1 @hd))),?_⟩;refine hN _ _ ?_;clear hN N)|((try apply Or.inl);refine⟨_,ai.x (h3) (sd (tw @az.eq_1 (tw @aa.eq_1 @hd))),?_⟩;refine hN _ _ ?_;clear hN N)|((try apply Or.inl);refine⟨_,ai.x (h4) (sd (tw @az.eq_1 (tw @aa.eq_1 @hd))),?_⟩;refine hN _ _ ?_;clear hN N)))
      exact aI (b:=false) (.inl rfl) (sd @Nat.zero_add) (ji fun h=>by have:=nJ.2 h.holds;rw[hB]at this;cases this)
     ·have hP:=nJ.1 hB
      have hf:qi s.ar s.bR.ae s.aG=0:=by
       have:=hP.1
       rw[qi,if_neg (by unfold gC;omega)]
      rw[hB,hf]at h4
      (repeat(first|((repeat(revert hN;revert N;apply Pn.out));refine wk (tw @az.eq_1 (tw @aa.eq_1 @hd)) ?_;(repeat(refine Pn.mk ?_;intro N hN)))|((try apply Or.inl);refine⟨_,ai.x (h1) (sd (tw @az.eq_1 (tw @aa.eq_1 @hd))),?_⟩;refine hN _ _ ?_;clear hN N)|((try apply Or.inl);refine⟨_,ai.x (h2) (sd (tw @az.eq_1 (tw @aa.eq_1 @hd))),?_⟩;refine hN _ _ ?_;clear hN N)|((try apply Or.inl);refine⟨_,ai.x (h3) (sd (tw @az.eq_1 (tw @aa.eq_1 @hd))),?_⟩;refine hN _ _ ?_;clear hN N)|((try apply Or.inl);refine⟨_,ai.x (h4) (sd (tw @az.eq_1 (tw @aa.eq_1 @hd))),?_⟩;refine hN _ _ ?_;clear hN N)))
      exact aI (b:=true) (.inl rfl) (sd @Nat.zero_add) (zl ⟨hS,hA,ab,hT,hP⟩)
  ·have hb:nQ s.ar s.bR.ae=false:=Bool.eq_false_iff.2 fun h=>hA (kP.1 h)
   rw[hb]at h2
   (repeat(first|((repeat(revert hN;revert N;apply Pn.out));refine wk (tw @az.eq_1 @aa.eq_1) ?_;(repeat(refine Pn.mk ?_;intro N hN)))|((try apply Or.inl);refine⟨_,ai.x (h1) (sd (tw @az.eq_1 @aa.eq_1)),?_⟩;refine hN _ _ ?_;clear hN N)|((try apply Or.inl);refine⟨_,ai.x (h2) (sd (tw @az.eq_1 @aa.eq_1)),?_⟩;refine hN _ _ ?_;clear hN N)))
   exact aI (b:=false) (.inl rfl) (sd @Nat.zero_add) (ji fun h=>hA h.LH)
 ·have hb:oP s.ar=false:=Bool.eq_false_iff.2 fun h=>hS (k7.1 h)
  rw[hb]at h1
  (repeat(first|((repeat(revert hN;revert N;apply Pn.out));refine wk (tw @az.eq_1 @aa.eq_1) ?_;(repeat(refine Pn.mk ?_;intro N hN)))|((try apply Or.inl);refine⟨_,ai.x (h1) (sd (tw @az.eq_1 @aa.eq_1)),?_⟩;refine hN _ _ ?_;clear hN N)))
  exact aI (b:=false) (.inl rfl) (sd @Nat.zero_add) (ji fun h=>hS h.set)
theorem xK {s:aq} {l:List ak} (hA:nN s l) {p:bx} (h:0<=tX l p):fP s (tX l p)=true:=by
 unfold tX at h ⊢
 split at h
 ·rename_i h0
  rw[if_pos h0]
  exact hA.2 _ (nh (nB h0).1)
 ·omega
noncomputable def p9 (s:bV) (l:List ak):Bool:=lL s&&nQ s.ar l
theorem AW (s:bV) (l:List ak) (hn:fA s.ar) (hg:s.ar.aw.length<=1048576) (ht:s.ar.ae.length<=1048576):ai Tryz.prog 35 [.cH (az s),.cH [.sl (l.map ah)]] (.int .i64 (if p9 s l then 0 else 1)):=by
 refine ai.body dP rfl fun hl n0=>?_
 clear hl
 have h1:=ID s hn hg ht
 have h2:=(Cr s.ar l).cut mixed (.ptr _ [.sl (s.bR.ae.map ah),.int .i64 s.aG] (.same _ .nil))
 cases b1:lL s
 ·rw[b1]at h1
  (repeat(first|((repeat(revert hN;revert N;apply Pn.out));refine wk @Nat.zero_add ?_;(repeat(refine Pn.mk ?_;intro N hN)))|((try apply Or.inl);refine⟨_,ai.x (h1) (sd @Nat.zero_add),?_⟩;refine hN _ _ ?_;clear hN N)))
  exact bq (b:=1) (.inl rfl) (sd @Nat.zero_add) (by rw[p9,b1];rfl)
 rw[b1]at h1
 rw[az]at h1 ⊢
 cases b2:nQ s.ar l
 ·rw[b2]at h2
  (repeat(first|((repeat(revert hN;revert N;apply Pn.out));refine wk @aa.eq_1 ?_;(repeat(refine Pn.mk ?_;intro N hN)))|((try apply Or.inl);refine⟨_,ai.x (h1) (sd @aa.eq_1),?_⟩;refine hN _ _ ?_;clear hN N)|((try apply Or.inl);refine⟨_,ai.x (h2) (sd @aa.eq_1),?_⟩;refine hN _ _ ?_;clear hN N)))
  exact bq (b:=1) (.inl rfl) (sd @Nat.zero_add) (by rw[p9,b1,b2];rfl)
 ·rw[b2]at h2
  (repeat(first|((repeat(revert hN;revert N;apply Pn.out));refine wk @aa.eq_1 ?_;(repeat(refine Pn.mk ?_;intro N hN)))|((try apply Or.inl);refine⟨_,ai.x (h1) (sd @aa.eq_1),?_⟩;refine hN _ _ ?_;clear hN N)|((try apply Or.inl);refine⟨_,ai.x (h2) (sd @aa.eq_1),?_⟩;refine hN _ _ ?_;clear hN N)))
  exact bq (b:=0) (.inl rfl) (sd @Nat.zero_add) (by rw[p9,b1,b2];rfl)
theorem xJ {s:bV} {l:List ak}:p9 s l=true↔E4 s/\nN s.ar l:=by simp[p9,tD,kP]
theorem Kg {s:aq} {l:List ak} (hA:nN s l) (p:bx):tX l p<0↔fx l p<0:=by
 constructor
 ·intro h
  rcases Int.lt_or_le (fx l p) 0 with h0|h0
  ·exact h0
  ·exfalso
   obtain⟨h1,_⟩:=nB h0
   have h2:=(dr (hA.2 _ (nh h1))).1
   rw[tX,if_pos h0]at h
   omega
 ·intro h
  rw[tX,if_neg ab];omega
end Go.Proofs.YtihgaadadaekmaaGreatDoor.V

namespace Go.Proofs.YtihgaadadaekmaaGreatDoor.V
open Go.RowKit
def gP (n:Nat):ByteArray:=⟨(if n<10 then[UInt8.ofNat (48+n)]else[UInt8.ofNat (48+n / 10),UInt8.ofNat (48+n % 10)]).toArray⟩
theorem C8 {n:Nat} (h:n<10):gP n=⟨#[UInt8.ofNat (48+n)]⟩:=by rw[gP,if_pos h]
theorem Fo (n:Nat):(gP n).size<=2:=by
 unfold gP
 split<;>simp[ByteArray.size]
def km (s:ByteArray) (i:Nat):Nat:=((s[i]?).map UInt8.toNat).getD 0
theorem qg {s:ByteArray} {i:Nat} (h:i<s.size):s[i]? =some s[i]:=by
 rw[getElem?_pos s i h]
theorem mL {s:ByteArray} {i:Nat} (h:i<s.size):km s i=s[i].toNat:=by
 rw[km,qg h];rfl
def kc (nm pre:ByteArray) (nD:Nat):Int:=if nm.size=pre.size+1/\nm.extract 0 pre.size=pre/\48<=km nm pre.size/\km nm pre.size<48+nD then(km nm pre.size:Int)-48 else -1
theorem zR {a b:ByteArray} (h:a.data.toList=b.data.toList):a=b:=ByteArray.ext (Array.ext' h)
theorem Gr {nm pre:ByteArray} {n:Nat} (h:n<10):nm=pre++gP n↔nm.size=pre.size+1/\nm.extract 0 pre.size=pre/\km nm pre.size=48+n:=by
 rw[C8 h]
 constructor
 ·rintro rfl
  have hs:(pre++(⟨#[UInt8.ofNat (48+n)]⟩:ByteArray)).size=pre.size+1:=by rw[ByteArray.size_append];rfl
  refine⟨hs,?_,?_⟩
  ·rw[ByteArray.extract_append]
   refine zR ?_
   simp
  ·rw[mL ab,ByteArray.getElem_append_right (Nat.le_refl _)]
   simp only[Nat.sub_self]
   show(UInt8.ofNat (48+n)).toNat= _
   rw[UInt8.toNat_ofNat']
   omega
 ·rintro⟨h1,h2,h3⟩
  rw[mL ab]at h3
  refine zR ?_
  have e:nm.data.toList=nm.data.toList.take pre.size++nm.data.toList.drop pre.size:=(List.take_append_drop _ _).symm
  have xo:nm.data.toList.take pre.size=pre.data.toList:=by
   have:=congrArg (fun b:ByteArray=>b.data.toList) h2
   simpa using this
  have hl:nm.data.toList.length=pre.size+1:=by rw[<-h1];simp
  have h4:nm.data.toList.drop pre.size=[UInt8.ofNat (48+n)]:=by
   rw[List.drop_eq_getElem_cons ab,List.drop_eq_nil_of_le ab]
   congr 1
   rw[ByteArray.getElem_eq_getElem_data]at h3
   rw[Array.getElem_toList,<-h3]
   simp
  rw[e,xo,h4]
  simp
theorem yc {nm pre:ByteArray} {n nD:Nat} (h:n<nD) (hl:nD<=10):nm=pre++gP n↔kc nm pre nD=(n:Int):=by
 rw[Gr ab,kc]
 constructor
 ·rintro⟨h1,h2,h3⟩
  rw[if_pos ⟨h1,h2,ab,ab⟩,h3];omega
 ·split
  ·rename_i h5
   intro h6
   exact⟨h5.1,h5.2.1,ab⟩
  ·intro h6;omega
theorem rU (nm pre:ByteArray) (nD:Nat):kc nm pre nD= -1∨(0<=kc nm pre nD/\kc nm pre nD<nD):=by
 unfold kc
 split
 ·exact .inr ab
 ·exact .inl rfl
theorem Df {nm pre:ByteArray} {nD:Nat} (hl:nD<=10) (h:∀n,n<nD->nm≠pre++gP n):kc nm pre nD= -1:=by
 rcases rU nm pre nD with h1|h1
 ·exact h1
 ·exact absurd ((yc (nm:=nm) (pre:=pre) (n:=(kc nm pre nD).toNat) ab hl).2 ab) (h _ ab)
theorem Fu {nm pre:ByteArray} {a b:Nat} (h:a<=b):kc nm pre a=if kc nm pre b<(a:Int)then kc nm pre b else -1:=by
 unfold kc
 by_cases h1:nm.size=pre.size+1/\nm.extract 0 pre.size=pre/\48<=km nm pre.size/\km nm pre.size<48+b
 ·rw[if_pos h1]
  by_cases h2:km nm pre.size<48+a
  ·rw[if_pos ⟨h1.1,h1.2.1,h1.2.2.1,h2⟩,if_pos ab]
  ·rw[if_neg (fun e=>h2 e.2.2.2),if_neg ab]
 ·rw[if_neg h1,if_neg (fun e=>h1 ⟨e.1,e.2.1,e.2.2.1,ab⟩)]
  split<;>rfl
theorem De {nm:ByteArray} {c:UInt8} {nD:Nat}:kc nm ⟨#[c]⟩ nD=if nm.size=2/\km nm 0=c.toNat/\48<=km nm 1/\km nm 1<48+nD then(km nm 1:Int)-48 else -1:=by
 have hs:(⟨#[c]⟩:ByteArray).size=1:=rfl
 unfold kc
 rw[hs]
 by_cases h1:nm.size=2
 ·have e:nm.extract 0 1=⟨#[c]⟩↔km nm 0=c.toNat:=by
   rw[mL ab,ByteArray.getElem_eq_getElem_data]
   obtain⟨⟨l⟩⟩:=nm
   have hl:l.length=2:=h1
   match l,hl with
   |[a,b],_=>
    constructor
    ·intro h
     have:=congrArg (fun b:ByteArray=>b.data.toList) h
     simp at this
     simp[this]
    ·intro h
     simp at h
     refine zR ?_
     simp
     exact UInt8.toNat_inj.1 h
  simp only[h1,e]
 ·rw[if_neg (fun e=>h1 e.1),if_neg (fun e=>h1 e.1)]
def xn (s:aq) (l:List ak) (p:bx) (d:Int):ByteArray:=if tX l p<0 then⟨#[]⟩else if cG (cD s (tX l p)) d=0 then⟨#[]⟩else(iX s (cG (cD s (tX l p)) d-1)).aB
theorem sE {pre:ByteArray} {nD:Nat}:kc ⟨#[]⟩ pre nD= -1:=by
 rw[kc,if_neg]
 intro h
 have:=h.1
 have h0:(⟨#[]⟩:ByteArray).size=0:=rfl
 omega
theorem rO {p:Nat->Bool} {n k:Nat} (hk:k<=n) (h:∀j,j<k->p j=true) (hs:k=n∨p k=false):(List.range n).takeWhile p=List.range k:=by
 obtain⟨m,rfl⟩:∃m,n=k+m:=⟨n-k,ab⟩
 rw[List.range_add,List.takeWhile_append_of_pos (fun a ha=>h a (List.mem_range.1 ha))]
 rcases m with _|m
 ·simp
 ·rcases hs with hs|hs
  ·omega
  ·rw[List.range_succ_eq_map]
   simp[hs]
def gx (b:Int) (R:List Int):Int:=R.foldl (fun n d=>n*b+d) 0
theorem vz (b:Int) (R:List Int) (d:Int):gx b (R++[d])=gx b R*b+d:=by simp[gx]
theorem B6 {b:Int} (h1:2<=b) (h2:b<=6):∀(R:List Int) (n:Int) (m:Nat),(∀d∈R,0<=d/\d<b)->0<=n->n+1<=6 ^ m->0<=R.foldl (fun n d=>n*b+d) n/\R.foldl (fun n d=>n*b+d) n+1<=6 ^ (m+R.length)
 |[],n,m,_,h,k=>⟨h,by simpa using k⟩
 |d::R,n,m,hd,h,k=>by
  have d1:=hd d (by simp)
  have e1:0<=n*b:=Int.mul_nonneg h ab
  have e2:n*b<=n*6:=Int.mul_le_mul_of_nonneg_left h2 h
  have e3:(6:Int) ^ (m+1)=6 ^ m*6:=Int.pow_succ _ _
  have:=B6 h1 h2 R (n*b+d) (m+1) (fun x hx=>hd x (by simp[hx])) ab ab
  rw[List.foldl_cons,List.length_cons,show m+(R.length+1)=m+1+R.length by omega]
  exact this
theorem Cx {b:Int} (h1:2<=b) (h2:b<=6) {R:List Int} (hR:R.length<=8) (h:∀d∈R,0<=d/\d<b):0<=gx b R/\gx b R<=1679615:=by
 have h3:=B6 h1 h2 R 0 0 h ab (by simp)
 have h4:(6:Int) ^ (0+R.length)<=1679616:=by
  have:∀k:Fin 9,(6:Int) ^ (0+k.1)<=1679616:=by decide
  exact this ⟨R.length,ab⟩
 exact⟨h3.1,by have:=h3.2;unfold gx;omega⟩
def jK (s:aq) (l:List ak) (b y x:Nat):Int:=kc (xn s l ⟨x,y⟩ 0) ⟨#[118]⟩ b
def nR (s:aq) (l:List ak) (b y:Nat) (x:Nat):List Int:=(List.range x).map (jK s l b y)
theorem o8 (s:aq) (l:List ak) (b y x:Nat):(nR s l b y x).length=x:=by simp[nR]
theorem xQ (s:aq) (l:List ak) (b y x:Nat):nR s l b y (x+1)=nR s l b y x++[jK s l b y x]:=by simp[nR,List.range_succ]
theorem Fi {s:aq} {l:List ak} {b y x:Nat} (h:∀j,j<x->0<=jK s l b y j):∀d∈nR s l b y x,0<=d/\d<(b:Int):=by
 intro d hd
 obtain⟨j,hj,rfl⟩:=List.mem_map.1 hd
 have h1:=h j (List.mem_range.1 hj)
 refine⟨h1,?_⟩
 unfold jK at h1 ⊢
 rcases rU (xn s l ⟨j,y⟩ 0) ⟨#[118]⟩ b with h2|h2<;>omega
def kA (s:aq) (l:List ak) (b d:Nat) (y:Nat):Bool:=(List.range d).all fun x=>decide (0<=jK s l b y x)
theorem xR {s:aq} {l:List ak} {b d y:Nat} (h:∀j,j<d->0<=jK s l b y j):kA s l b d y=true:=by
 simpa[kA]using h
theorem rS {s:aq} {l:List ak} {b d y x:Nat} (hx:x<d) (h:jK s l b y x<0):kA s l b d y=false:=by
 simp only[kA,List.all_eq_false,List.mem_range]
 exact⟨x,hx,by simp;exact h⟩
def vU (s:aq) (l:List ak) (b d:Nat) (y:Nat):Int:=gx b (nR s l b y d)
def tP (s:aq) (l:List ak) (b d k:Nat):List Int:=(List.range k).map (vU s l b d)
theorem lu (s:aq) (l:List ak) (b d k:Nat):(tP s l b d k).length=k:=by simp[tP]
theorem xS (s:aq) (l:List ak) (b d k:Nat):tP s l b d (k+1)=tP s l b d k++[vU s l b d k]:=by simp[tP,List.range_succ]
def cL (s:aq) (l:List ak) (b d:Nat):List Int:=((List.range 61).takeWhile (kA s l b d)).map (vU s l b d)
theorem Jr {s:aq} {l:List ak} {b d k:Nat} (hk:k<=61) (h:∀j,j<k->kA s l b d j=true) (hs:k=61∨kA s l b d k=false):cL s l b d=tP s l b d k:=by
 rw[cL,rO hk h hs,tP]
theorem Km (s:aq) (l:List ak) (b d:Nat):(cL s l b d).length<=61:=by
 rw[cL,List.length_map]
 have h1:((List.range 61).takeWhile (kA s l b d)++(List.range 61).dropWhile (kA s l b d)).length=61:=by rw[List.takeWhile_append_dropWhile,List.length_range]
 rw[List.length_append]at h1
 omega
theorem HY {s:aq} {l:List ak} (hA:nN s l) {p:bx} (d:Int) (h:Bg p=false):xn s l p d=⟨#[]⟩:=by
 rw[xn,if_pos]
 rw[Kg hA]
 refine Int.not_le.1 fun h0=>?_
 obtain⟨h1,h2⟩:=nB h0
 have h3:=(hA.1.ok _ h1).1
 rw[h2,h]at h3
 cases h3
theorem Fj {s:aq} {l:List ak} (hA:nN s l) {b d:Nat} (hd:1<=d) {y:Nat} (h:60<y):kA s l b d y=false:=by
 refine rS (x:=0) ab ?_
 have h1:Bg (⟨((0:Nat):Int),(y:Int)⟩:bx)=false:=by
  simp[Bg,fU];omega
 rw[jK,HY hA 0 h1,sE];omega
noncomputable def kT (s:bV) (a:dd) (b d:Int):List Int×Int:=
 if p9 s a.ae=true then(if (fU b 2 6&&fU d 1 8)=true then(if (cL s.ar a.ae b.toNat d.toNat).length=0 then([],9)else(cL s.ar a.ae b.toNat d.toNat,0))else([],2))else([],1)
theorem Fm (s:bV) (a:dd) (b d:Int):(kT s a b d).1.length<=61:=by
 unfold kT
 have:=Km s.ar a.ae b.toNat d.toNat
 split
 ·split
  ·split
   ·simp
   ·exact this
  ·simp
 ·simp
end Go.Proofs.YtihgaadadaekmaaGreatDoor.V

namespace Go.Proofs.YtihgaadadaekmaaGreatDoor.V
open Go.RowKit
attribute [local irreducible] dO wpOps gO Call
attribute [local go_sem] aH fF eF fR fQ cu upd cm K.av cJ AV.cells AV.cell rowOf rowsOf part ld rowAt bI bU dG ei il bJ da eB fW eZ dq ep cY cX dU dV bP bd cQ bL cT cR ek er eo cP bS cZ ej bK aL cV cw ik br cI bQ aZ dz bl dI AV.undef bB bH dY eh dR ea cE eA eE cr ev eu cU cW List.getD_cons_zero List.getD_cons_succ List.getD_nil List.all_cons List.all_nil Bool.and_true Bool.true_and Bool.and_self Bool.not_true Bool.not_false Option.map_some Option.map_none Option.bind_some Option.bind_none List.length_cons List.length_nil List.take_succ_cons List.take_zero List.take_nil List.drop_succ_cons List.drop_zero List.drop_nil List.head?_cons List.map_cons List.map_nil List.getElem?_cons_zero List.getElem?_cons_succ List.cons_append List.nil_append List.append_nil List.length_map List.set_cons_zero List.set_cons_succ Nat.reduceMul eq_self Int.toNat_natCast Int.natCast_nonneg and_self true_and and_true decide_true decide_false Bool.false_eq_true Nat.zero_add Nat.add_zero List.contains_cons List.contains_nil Bool.or_false Bool.false_or beq_self_eq_true Nat.reduceBEq ne_eq not_true_eq_false not_false_eq_true Id.mk.injEq false_and and_false Nat.reduceLT Int.reduceLE Int.reduceLT Int.reduceToNat Int.reduceNeg Int.reduceAdd Nat.le_refl List.length_append beq_true beq_false Bool.not_eq_eq_eq_not or_false false_or dC ad aj aE bz cj aT bj aX bf cK bG
theorem AR (n:Int):ai Tryz.prog 68 [.int .u8 n] (.bool (iz n)):=by
 refine ai.body dP rfl fun hl n0=>?_
 clear hl
 by_cases h1:48<=n
 ·(try((repeat(revert hN;revert N;apply Pn.out));refine wk @h1 ?_;(repeat(refine Pn.mk ?_;intro N hN))))
  exact aI (b:=decide (n<=57)) (.inl rfl) (sd @Nat.zero_add) (by simp[iz,h1])
 ·(try((repeat(revert hN;revert N;apply Pn.out));refine wk @h1 ?_;(repeat(refine Pn.mk ?_;intro N hN))))
  exact aI (b:=false) (.inl rfl) (sd @Nat.zero_add) (by simp[iz,h1])
def sM (s:aq) (g:Int) (c:UInt8):Int:=if g=0 then -1 else kc (iX s (g-1)).aB ⟨#[c]⟩ 10
theorem AX (s:aq) (g:Int) (h0:0<=g) (h1:g<=s.aw.length):ai Tryz.prog 81 [.cH (aa s),.int .i64 g] (.int .i64 (sM s g 118)):=by
 refine ai.body dP rfl fun hl n0=>?_
 have hn:s.aw.length<=9223372036854775807:=by
  have h1:=(hl (.cH (aa s)) (by simp)).ve (a:=.sl (s.aw.map aV)) (by simp[aa])
  simpa using h1.len
 clear hl
 by_cases hg:g=0
 ·have e:decide (g=0)=true:=decide_eq_true hg
  (try((repeat(revert hN;revert N;apply Pn.out));refine wk (tw @aa.eq_1 @e) ?_;(repeat(refine Pn.mk ?_;intro N hN))))
  exact bq (b:=-1) (.inl rfl) (sd @Nat.zero_add) (by rw[sM,if_pos hg])
 ·have e:decide (g=0)=false:=decide_eq_false hg
  have hw:IntKind.i64.wrap (g-1)=g-1:=aQ ab
  have kV:0<=g-1:=ab
  have dW:(s.aw.map aV)[(g-1).toNat]? =some (aV (iX s (g-1))):=getD_map aV ab
  rw[sM,if_neg hg,De]
  obtain⟨u,hu⟩:∃u,iX s (g-1)=u:=⟨_,rfl⟩
  rw[hu]at dW ⊢
  obtain⟨nm,st⟩:=u
  (try dsimp only)
  by_cases hs:nm.size=2
  ·have es:decide ((nm.size:Int)=2)=true:=decide_eq_true ab
   have b0:=qg (s:=nm) (i:=0) ab
   have b1:=qg (s:=nm) (i:=1) ab
   have c0:=mL (s:=nm) (i:=0) ab
   have c1:=mL (s:=nm) (i:=1) ab
   generalize nm[0]=x0 at b0 c0
   generalize nm[1]=x1 at b1 c1
   have Cm:=x1.toNat_lt
   by_cases hc:x0.toNat=118
   ·have ec:decide ((x0.toNat:Int)=118)=true:=decide_eq_true ab
    have hd:=AR (x1.toNat:Int)
    by_cases h48:48<=x1.toNat/\x1.toNat<58
    ·have Qq:iz (x1.toNat:Int)=true:=by simp[iz];omega
     rw[Qq]at hd
     have hw8:IntKind.u8.wrap ((x1.toNat:Int)-48)=(x1.toNat:Int)-48:=by
      unfold IntKind.wrap
      simp[IntKind.signed,IntKind.bits]
      omega
     have Oa:IntKind.i64.wrap ((x1.toNat:Int)-48)=(x1.toNat:Int)-48:=aQ ab
     (repeat(first|((repeat(revert hN;revert N;apply Pn.out));refine wk (tw @aa.eq_1 (tw @aV.eq_1 (tw @e (tw @hw (tw @kV (tw @dW (tw @es (tw @b0 (tw @b1 (tw @ec (tw @hw8 @Oa))))))))))) ?_;(repeat(refine Pn.mk ?_;intro N hN)))|((try apply Or.inl);refine⟨_,ai.x (hd) (sd (tw @aa.eq_1 (tw @aV.eq_1 (tw @e (tw @hw (tw @kV (tw @dW (tw @es (tw @b0 (tw @b1 (tw @ec (tw @hw8 @Oa)))))))))))),?_⟩;refine hN _ _ ?_;clear hN N)))
     exact bq (b:=(x1.toNat:Int)-48) (.inl rfl) (sd @Nat.zero_add) (by rw[if_pos ⟨hs,by rw[c0];exact hc,ab,ab⟩,c1])
    ·have Qq:iz (x1.toNat:Int)=false:=by simp[iz];omega
     rw[Qq]at hd
     (repeat(first|((repeat(revert hN;revert N;apply Pn.out));refine wk (tw @aa.eq_1 (tw @aV.eq_1 (tw @e (tw @hw (tw @kV (tw @dW (tw @es (tw @b0 (tw @b1 @ec))))))))) ?_;(repeat(refine Pn.mk ?_;intro N hN)))|((try apply Or.inl);refine⟨_,ai.x (hd) (sd (tw @aa.eq_1 (tw @aV.eq_1 (tw @e (tw @hw (tw @kV (tw @dW (tw @es (tw @b0 (tw @b1 @ec)))))))))),?_⟩;refine hN _ _ ?_;clear hN N)))
     exact bq (b:=-1) (.inl rfl) (sd @Nat.zero_add) (by rw[if_neg (fun q=>h48 ab)])
   ·have ec:decide ((x0.toNat:Int)=118)=false:=decide_eq_false ab
    (try((repeat(revert hN;revert N;apply Pn.out));refine wk (tw @aa.eq_1 (tw @aV.eq_1 (tw @e (tw @hw (tw @kV (tw @dW (tw @es (tw @b0 @ec)))))))) ?_;(repeat(refine Pn.mk ?_;intro N hN))))
    exact bq (b:=-1) (.inl rfl) (sd @Nat.zero_add) (by rw[if_neg (fun q=>hc (by rw[<-c0];exact q.2.1))])
  ·have es:decide ((nm.size:Int)=2)=false:=decide_eq_false ab
   (try((repeat(revert hN;revert N;apply Pn.out));refine wk (tw @aa.eq_1 (tw @aV.eq_1 (tw @e (tw @hw (tw @kV (tw @dW @es)))))) ?_;(repeat(refine Pn.mk ?_;intro N hN))))
   exact bq (b:=-1) (.inl rfl) (sd @Nat.zero_add) (by rw[if_neg (fun q=>hs q.1)])
def qAt (ps:List bx) (i:Nat):bx:=ps.getD i ⟨0,0⟩
theorem Q6 {ps:List bx} {i:Nat} (h:i<ps.length):qAt ps i=ps[i]:=by simp[qAt,List.getD_eq_getElem?_getD,h]
def RisQ (ps:List bx):Prop:=ps.Pairwise fun a b=>pw a b=true
theorem CF {X:eW} {Q:Ex->Env->ax->Prop} {N:Env->ax->Prop} {c:VC} {env:Env} {σ:ax} {id:Nat} (I:Env->ax->Prop) (h2:∀e s,I e s->N e s) (h1:∀N':Env->ax->Prop,(∀e s,I e s->N' e s)->dO X c (bl id (dz N' Q)) env σ):dO X c (bl id (dz N Q)) env σ:=h1 N h2
theorem Dn {s:aq} {l:List ak} {p:bx} {c:UInt8} {t:Int} (ht:tX l p=t) (h0:0<=t) (d:Int):kc (xn s l p d) ⟨#[c]⟩ 10=sM s (cG (cD s t) d) c:=by
 rw[xn,ht,if_neg ab,sM]
 split
 ·exact sE
 ·rfl
theorem Gb (s:bV) (hF:g8 s.ar) (l:List ak) (hA:nN s.ar l) (b d y:Nat) (hb:2<=b/\b<=6) (hd:d<=8):
  ai Tryz.prog 49 [.cH (az s),.cH [.sl (l.map ah)],.int .i64 (y:Int),.int .i64 (b:Int),.int .i64 (d:Int)] (if kA s.ar l b d y=true then .gU [.sl ((nR s.ar l b y d).map au),.bool true]else .gU [.bE,.bool false]):=by
 refine ai.body dP rfl fun hl n0=>?_
 clear hl
 have F5:IntKind.i64.wrap ((b:Int)-1)=(b:Int)-1:=aQ ab
 rw[az]
 (try((repeat(revert hN;revert N;apply Pn.out));refine wk @Nat.zero_add ?_;(repeat(refine Pn.mk ?_;intro N hN))))
 refine aJ (fun n env st=>∃x:Nat,n=(d)-x/\x<=(d)/\env 13=.int .i64 (x:Int)/\(∀j:Nat,j<x->0<=jK s.ar l b y j)/\(∃o:Id,env 12=.own o 0 x/\st.get o=some ⟨true,1,(nR s.ar l b y x).map au⟩/\o.bZ<st.next)) (d) ⟨0,ab,ab,sl @Nat.zero_add,fun _ h=>absurd h (Nat.not_lt_zero _),by(try dsimp only);exact⟨⟨49001000,n0+1⟩,sl @Nat.zero_add,sl @Nat.zero_add,bD⟩⟩ ?_
 rintro n_a env_a st_a ⟨x,rfl,ale,a13,j9,l7⟩ dE
 have a0:=dE 0 (by kernel_rfl);have a1:=dE 1 (by kernel_rfl);have a2:=dE 2 (by kernel_rfl);have a3:=dE 3 (by kernel_rfl);have a4:=dE 4 (by kernel_rfl)
 simp only[go_sem, ↓reduceIte,Nat.reduceEqDiff,Nat.reduceAdd,Nat.reduceSub,Nat.reduceLeDiff,reduceCtorEq]at a0 a1 a2 a3 a4
 clear dE
 obtain⟨o,MX,Mg,aov⟩:=l7
 by_cases hx:(x:Int)<(d:Int)
 ·have cl:∀{e:Env} {gg:Rows} {nx:Nat},(e 13=.int .i64 (IntKind.i64.wrap ((x:Int)+1)))->(0<=jK s.ar l b y x)->(∃o:Id,e 12=.own o 0 (x+1)/\gg o=some ⟨true,1,(nR s.ar l b y (x+1)).map au⟩/\o.bZ<nx)->∃m0,m0<(d)-x/\∃x:Nat,m0=(d)-x/\x<=(d)/\e 13=.int .i64 (x:Int)/\(∀j:Nat,j<x->0<=jK s.ar l b y j)/\(∃o:Id,e 12=.own o 0 x/\gg o=some ⟨true,1,(nR s.ar l b y x).map au⟩/\o.bZ<nx):=fun x1 x2 x3=>⟨_,ab,x+1,rfl,ab,(by rw[x1,aA ab]),(all_succ j9 x2),x3⟩
  have JR:x<d:=ab
  have xq:=IC l ⟨(x:Int),(y:Int)⟩ hA.1.Pv (by have:=hA.1.EF;omega)
  rw[ao]at xq
  have KQ:jK s.ar l b y x=kc (xn s.ar l ⟨(x:Int),(y:Int)⟩ 0) ⟨#[118]⟩ b:=rfl
  obtain⟨t,ht⟩:∃t,tX l ⟨(x:Int),(y:Int)⟩=t:=⟨_,rfl⟩
  by_cases h0:t<0
  ·have jD:kA s.ar l b d y=false:=rS JR (by rw[KQ,xn,ht,if_pos h0,sE];omega)
   rw[ht]at xq
   (repeat(first|((repeat(revert hN;revert N;apply Pn.out));refine wk (tw @a13 (tw @a0 (tw @a1 (tw @a2 (tw @a3 (tw @a4 (tw @hx @h0))))))) ?_;(repeat(refine Pn.mk ?_;intro N hN)))|((try apply Or.inl);refine⟨_,ai.x (xq) (sd (tw @a13 (tw @a0 (tw @a1 (tw @a2 (tw @a3 (tw @a4 (tw @hx @h0)))))))),?_⟩;refine hN _ _ ?_;clear hN N)))
   exact iL (.inl rfl) (vs:=[.bE,.bool false]) (sd @Nat.zero_add) (by rw[jD];simp[dJ,ee,aM,bh,iA,eD])
  ·have EL:=xK hA (p:=⟨(x:Int),(y:Int)⟩) ab
   have hdg:=Dn (s:=s.ar) (c:=118) ht ab 0
   have EJ:=Fu (nm:=xn s.ar l ⟨(x:Int),(y:Int)⟩ 0) (pre:=⟨#[118]⟩) (a:=b) (b:=10) ab
   have fb:=rU (xn s.ar l ⟨(x:Int),(y:Int)⟩ 0) ⟨#[118]⟩ 10
   rw[hdg]at EJ fb
   rw[<-KQ]at EJ
   rw[ht]at xq EL
   obtain⟨JZ,J0,Q7⟩:=j5 EL
   have s1:((cD s.ar t).aY.map au)[0]? =some [.int .i64 (cG (cD s.ar t) 0)]:=j0 (d:=0) (hF.nk _ Q7) (jx ab)
   have gl:=hF.qT _ Q7 _ (pK (d:=0) (hF.nk _ Q7) (jx ab))
   have hv:=(AX s.ar (cG (cD s.ar t) 0) gl.1 gl.2).cut mixed (.ptr _ [.sl (s.bR.ae.map ah),.int .i64 s.aG] (.same _ .nil))
   rw[aa]at hv
   simp only[List.cons_append,List.nil_append]at hv
   have hI:=gj (sM s.ar (cG (cD s.ar t) 0) 118) 0 ((b:Int)-1)
   generalize sM s.ar (cG (cD s.ar t) 0) 118=v at hv hI EJ fb
   by_cases ME:0<=v/\v<(b:Int)
   ·have hc:jK s.ar l b y x=v:=by rw[EJ,if_pos ME.2]
    rw[jx ab]at hI
    have vo:=eK aov
    have zB:(nR s.ar l b y (x+1)).map au=(nR s.ar l b y x).map au++[[.int .i64 v]]:=by rw[xQ,List.map_append,hc];rfl
    have r6:((nR s.ar l b y x).map au).length=x:=by rw[List.length_map,o8]
    have Cm:x<=16777215:=ab
    generalize (nR s.ar l b y x).map au=C at Mg zB r6
    (repeat(first|((repeat(revert hN;revert N;apply Pn.out));refine wk (tw @a13 (tw @a0 (tw @a1 (tw @a2 (tw @a3 (tw @a4 (tw @hx (tw @h0 (tw @JZ (tw @J0 (tw @aU.eq_1 (tw @s1 (tw @F5 (tw @MX (tw @Mg (tw @vo (tw @r6 @Cm))))))))))))))))) ?_;(repeat(refine Pn.mk ?_;intro N hN)))|((try apply Or.inl);refine⟨_,ai.x (xq) (sd (tw @a13 (tw @a0 (tw @a1 (tw @a2 (tw @a3 (tw @a4 (tw @hx (tw @h0 (tw @JZ (tw @J0 (tw @aU.eq_1 (tw @s1 (tw @F5 (tw @MX (tw @Mg (tw @vo (tw @r6 @Cm)))))))))))))))))),?_⟩;refine hN _ _ ?_;clear hN N)|((try apply Or.inl);refine⟨_,ai.x (hv) (sd (tw @a13 (tw @a0 (tw @a1 (tw @a2 (tw @a3 (tw @a4 (tw @hx (tw @h0 (tw @JZ (tw @J0 (tw @aU.eq_1 (tw @s1 (tw @F5 (tw @MX (tw @Mg (tw @vo (tw @r6 @Cm)))))))))))))))))),?_⟩;refine hN _ _ ?_;clear hN N)|((try apply Or.inl);refine⟨_,ai.x (hI) (sd (tw @a13 (tw @a0 (tw @a1 (tw @a2 (tw @a3 (tw @a4 (tw @hx (tw @h0 (tw @JZ (tw @J0 (tw @aU.eq_1 (tw @s1 (tw @F5 (tw @MX (tw @Mg (tw @vo (tw @r6 @Cm)))))))))))))))))),?_⟩;refine hN _ _ ?_;clear hN N)))
    exact cl (sd (tw @a13 (tw @a0 (tw @a1 (tw @a2 (tw @a3 @a4)))))) (by rw[hc];exact ME.1) (by(try dsimp only);exact⟨⟨49011003,st_a.next+1+1+1+1+1⟩,sl @Nat.zero_add,by rw[zB];simp only[go_sem, ↓reduceIte,Nat.reduceEqDiff,Nat.reduceAdd,Nat.reduceSub,Nat.reduceLeDiff,reduceCtorEq]<;>rfl,bD⟩)
   ·have hc:jK s.ar l b y x<0:=by
     rw[EJ]
     split
     ·omega
     ·omega
    have jD:=rS JR hc
    have hIf:fU v 0 ((b:Int)-1)=false:=by
     cases hh:fU v 0 ((b:Int)-1)
     ·rfl
     ·have:=dr hh;omega
    rw[hIf]at hI
    (repeat(first|((repeat(revert hN;revert N;apply Pn.out));refine wk (tw @a13 (tw @a0 (tw @a1 (tw @a2 (tw @a3 (tw @a4 (tw @hx (tw @h0 (tw @JZ (tw @J0 (tw @aU.eq_1 (tw @s1 @F5)))))))))))) ?_;(repeat(refine Pn.mk ?_;intro N hN)))|((try apply Or.inl);refine⟨_,ai.x (xq) (sd (tw @a13 (tw @a0 (tw @a1 (tw @a2 (tw @a3 (tw @a4 (tw @hx (tw @h0 (tw @JZ (tw @J0 (tw @aU.eq_1 (tw @s1 @F5))))))))))))),?_⟩;refine hN _ _ ?_;clear hN N)|((try apply Or.inl);refine⟨_,ai.x (hv) (sd (tw @a13 (tw @a0 (tw @a1 (tw @a2 (tw @a3 (tw @a4 (tw @hx (tw @h0 (tw @JZ (tw @J0 (tw @aU.eq_1 (tw @s1 @F5))))))))))))),?_⟩;refine hN _ _ ?_;clear hN N)|((try apply Or.inl);refine⟨_,ai.x (hI) (sd (tw @a13 (tw @a0 (tw @a1 (tw @a2 (tw @a3 (tw @a4 (tw @hx (tw @h0 (tw @JZ (tw @J0 (tw @aU.eq_1 (tw @s1 @F5))))))))))))),?_⟩;refine hN _ _ ?_;clear hN N)))
    exact iL (.inl rfl) (vs:=[.bE,.bool false]) (sd @Nat.zero_add) (by rw[jD];simp[dJ,ee,aM,bh,iA,eD])
 ·have JR:x=d:=ab
  subst JR
  have AM:=xR (s:=s.ar) (l:=l) (b:=b) (d:=x) (y:=y) fun j hj=>j9 j hj
  (try((repeat(revert hN;revert N;apply Pn.out));refine wk (tw @a13 (tw @a0 (tw @a1 (tw @a2 (tw @a3 (tw @a4 @hx)))))) ?_;(repeat(refine Pn.mk ?_;intro N hN))))
  exact iL (.inl rfl) (vs:=[.own o 0 x,.bool true]) (sd @MX) (by
   rw[AM,if_pos rfl]
   have:=eX (e:=au) (n:=4) (g:=st_a.get) (l:=nR s.ar l b y x) (sz:=1) (id:=o) Mg (o8 _ _ _ _ _).symm (fun x=>by simp[au,aM,bh,dK])
   simp only[dJ,ee,aM,bh,eD,this,Option.map_some])
theorem zK (b:Nat) (hb:2<=b/\b<=6) (R:List Int) (h1:1<=R.length) (h8:R.length<=8) (hR:∀d∈R,0<=d/\d<(b:Int)):
  ai Tryz.prog 50 [.int .i64 (b:Int),.sl (R.map au)] (.gU [.int .i64 (gx b R),.int .i64 0]):=by
 refine ai.body dP rfl fun hl n0=>?_
 clear hl
 have F5:IntKind.i64.wrap ((b:Int)-1)=(b:Int)-1:=aQ ab
 have i1:=gj (b:Int) 2 6
 rw[jx ab]at i1
 have me:(R.map au).length=R.length:=by simp
 have i2:=gj (R.length:Int) 1 8
 rw[jx ab]at i2
 have hz:gx (b:Int) (R.take 0)=0:=rfl
 (repeat(first|((repeat(revert hN;revert N;apply Pn.out));refine wk @me ?_;(repeat(refine Pn.mk ?_;intro N hN)))|((try apply Or.inl);refine⟨_,ai.x (i1) (sd @me),?_⟩;refine hN _ _ ?_;clear hN N)|((try apply Or.inl);refine⟨_,ai.x (i2) (sd @me),?_⟩;refine hN _ _ ?_;clear hN N)))
 refine aJ (fun n env st=>∃k:Nat,n=(R.length)-k/\k<=(R.length)/\env 7=.int .i64 (k:Int)/\env 6=.int .i64 (gx b (R.take k))) (R.length) ⟨0,ab,ab,sl (tw @me @hz),sl (tw @me @hz)⟩ ?_
 rintro n_a env_a st_a ⟨k,rfl,ale,a7,a6⟩ dE
 have a0:=dE 0 (by kernel_rfl);have a1:=dE 1 (by kernel_rfl)
 simp only[go_sem, ↓reduceIte,Nat.reduceEqDiff,Nat.reduceAdd,Nat.reduceSub,Nat.reduceLeDiff,reduceCtorEq,me,hz]at a0 a1
 clear dE
 by_cases hk:(k:Int)<(R.length:Int)
 ·have cl:∀{e:Env},(e 7=.int .i64 (IntKind.i64.wrap ((k:Int)+1)))->(e 6=.int .i64 (gx b (R.take (k+1))))->∃m0,m0<(R.length)-k/\∃k:Nat,m0=(R.length)-k/\k<=(R.length)/\e 7=.int .i64 (k:Int)/\e 6=.int .i64 (gx b (R.take k)):=fun x1 x2=>⟨_,ab,k+1,rfl,ab,(by rw[x1,aA ab]),x2⟩
  have eO:k<R.length:=ab
  have hg:(R.map au)[k]? =some [.int .i64 R[k]]:=by simp[eO,au]
  have hd:=hR _ (List.getElem_mem eO)
  have hI:=gj R[k] 0 ((b:Int)-1)
  rw[jx ab]at hI
  have zB:gx (b:Int) (R.take (k+1))=gx b (R.take k)*b+R[k]:=by rw[List.take_succ_eq_append_getElem eO,vz]
  have h3:=Cx (b:=(b:Int)) ab ab (R:=R.take k) (by rw[List.length_take];omega) fun d hd=>hR d (List.mem_of_mem_take hd)
  have h5:0<=gx (b:Int) (R.take k)*b:=Int.mul_nonneg h3.1 ab
  have h6:gx (b:Int) (R.take k)*b<=1679615*6:=Int.mul_le_mul h3.2 ab ab ab
  have w1:IntKind.i64.wrap (gx (b:Int) (R.take k)*b)=gx (b:Int) (R.take k)*b:=aQ ab
  have w2:IntKind.i64.wrap (gx (b:Int) (R.take k)*b+R[k])=gx (b:Int) (R.take (k+1)):=by rw[zB,aQ ab]
  generalize R[k]=x at hg hI w2
  (repeat(first|((repeat(revert hN;revert N;apply Pn.out));refine wk (tw @a7 (tw @a6 (tw @a0 (tw @a1 (tw @hk (tw @hg (tw @me (tw @F5 (tw @w1 @w2))))))))) ?_;(repeat(refine Pn.mk ?_;intro N hN)))|((try apply Or.inl);refine⟨_,ai.x (hI) (sd (tw @a7 (tw @a6 (tw @a0 (tw @a1 (tw @hk (tw @hg (tw @me (tw @F5 (tw @w1 @w2)))))))))),?_⟩;refine hN _ _ ?_;clear hN N)))
  refine cl ?_ ?_
  all_goals simp only[go_sem, ↓reduceIte,Nat.reduceEqDiff,Nat.reduceAdd,Nat.reduceSub,Nat.reduceLeDiff,reduceCtorEq,a7,a6,a0,a1,w1,w2]
 ·have eO:k=R.length:=ab
  subst eO
  rw[List.take_length]at a6
  (try((repeat(revert hN;revert N;apply Pn.out));refine wk (tw @a7 (tw @a6 (tw @a0 (tw @a1 (tw @hk @me))))) ?_;(repeat(refine Pn.mk ?_;intro N hN))))
  exact iL (.inl rfl) (vs:=[.int .i64 (gx b R),.int .i64 0]) (sd (tw @a7 (tw @a6 (tw @a0 @a1)))) (by simp[dJ,ee,aM,bh,dK])
theorem rz (s:bV) (a:dd) (b d:Int) (hn:fA s.ar) (hg:s.ar.aw.length<=1048576) (ht:s.ar.ae.length<=1048576):
  ∃w,lS au (kT s a b d).1 w/\jy Tryz.prog 20 [.agg (az s),.agg (aC a),.int .i64 b,.int .i64 d] (.gU [w,.int .i64 (kT s a b d).2]):=by
 obtain⟨l⟩:=a
 have h1:=AW s l hn hg ht
 rw[aC]
 (try dsimp only)
 cases hask:p9 s l
 ·rw[hask]at h1
  have hr:kT s ⟨l⟩ b d=([],1):=by rw[kT,hask];rfl
  rw[hr]
  refine⟨.bE,.inl ⟨rfl,rfl⟩,?_⟩
  refine jy.body dP rfl fun sS σ=>?_
  clear sS
  rw[az]at h1 ⊢
  (repeat(first|((repeat(revert hN;revert N;apply Pn.out));refine wk @Nat.zero_add ?_;(repeat(refine Pn.mk ?_;intro N hN)))|((try apply Or.inl);refine⟨_,ai.x (h1) (sd @Nat.zero_add),?_⟩;refine hN _ _ ?_;clear hN N)))
  exact rN (.inl rfl) (vs:=[.bE,.int .i64 1]) (sd @Nat.zero_add) (by simp[dJ,bG,ad,aj,aE,aT])
 rw[hask]at h1
 obtain⟨hP,hA⟩:=xJ.1 hask
 have i1:=gj b 2 6
 have i2:=gj d 1 8
 cases yz:fU b 2 6
 ·have hr:kT s ⟨l⟩ b d=([],2):=by rw[kT,hask,if_pos rfl,yz];rfl
  rw[hr]
  refine⟨.bE,.inl ⟨rfl,rfl⟩,?_⟩
  refine jy.body dP rfl fun sS σ=>?_
  clear sS
  rw[yz]at i1
  rw[az]at h1 ⊢
  (repeat(first|((repeat(revert hN;revert N;apply Pn.out));refine wk @Nat.zero_add ?_;(repeat(refine Pn.mk ?_;intro N hN)))|((try apply Or.inl);refine⟨_,ai.x (h1) (sd @Nat.zero_add),?_⟩;refine hN _ _ ?_;clear hN N)|((try apply Or.inl);refine⟨_,ai.x (i1) (sd @Nat.zero_add),?_⟩;refine hN _ _ ?_;clear hN N)))
  exact rN (.inl rfl) (vs:=[.bE,.int .i64 2]) (sd @Nat.zero_add) (by simp[dJ,bG,ad,aj,aE,aT])
 rw[yz]at i1
 cases oF:fU d 1 8
 ·have hr:kT s ⟨l⟩ b d=([],2):=by rw[kT,hask,if_pos rfl,yz,oF];rfl
  rw[hr]
  refine⟨.bE,.inl ⟨rfl,rfl⟩,?_⟩
  refine jy.body dP rfl fun sS σ=>?_
  clear sS
  rw[oF]at i2
  rw[az]at h1 ⊢
  (repeat(first|((repeat(revert hN;revert N;apply Pn.out));refine wk @Nat.zero_add ?_;(repeat(refine Pn.mk ?_;intro N hN)))|((try apply Or.inl);refine⟨_,ai.x (h1) (sd @Nat.zero_add),?_⟩;refine hN _ _ ?_;clear hN N)|((try apply Or.inl);refine⟨_,ai.x (i1) (sd @Nat.zero_add),?_⟩;refine hN _ _ ?_;clear hN N)|((try apply Or.inl);refine⟨_,ai.x (i2) (sd @Nat.zero_add),?_⟩;refine hN _ _ ?_;clear hN N)))
  exact rN (.inl rfl) (vs:=[.bE,.int .i64 2]) (sd @Nat.zero_add) (by simp[dJ,bG,ad,aj,aE,aT])
 rw[oF]at i2
 have kb:=dr yz
 have kd:=dr oF
 obtain⟨bn,rfl⟩:∃n:Nat,b=(n:Int):=⟨b.toNat,ab⟩
 obtain⟨dn,rfl⟩:∃n:Nat,d=(n:Int):=⟨d.toNat,ab⟩
 have hr:kT s ⟨l⟩ bn dn=if (cL s.ar l bn dn).length=0 then([],9)else(cL s.ar l bn dn,0):=by rw[kT,hask,if_pos rfl,yz,oF];rfl
 rw[hr]
 have e9:=fun y:Nat=>Gb s hP.set.form l hA bn dn y ab ab
 rw[az]at e9
 have key:∀(w:AV) (c:Int),(if (cL s.ar l bn dn).length=0 then w=.bE/\c=9 else w=.sl ((cL s.ar l bn dn).map au)/\c=0)->
   jy Tryz.prog 20 [.agg (az s),.agg [.sl (l.map ah)],.int .i64 (bn:Int),.int .i64 (dn:Int)] (.gU [w,.int .i64 c]):=by
  intro w c hw
  refine jy.body dP rfl fun sS σ=>?_
  clear sS
  rw[az]at h1 ⊢
  (repeat(first|((repeat(revert hN;revert N;apply Pn.out));refine wk @Nat.zero_add ?_;(repeat(refine Pn.mk ?_;intro N hN)))|((try apply Or.inl);refine⟨_,ai.x (h1) (sd @Nat.zero_add),?_⟩;refine hN _ _ ?_;clear hN N)|((try apply Or.inl);refine⟨_,ai.x (i1) (sd @Nat.zero_add),?_⟩;refine hN _ _ ?_;clear hN N)|((try apply Or.inl);refine⟨_,ai.x (i2) (sd @Nat.zero_add),?_⟩;refine hN _ _ ?_;clear hN N)))
  refine CF (fun e st=>∃(k:Nat) (o:Id),k<=61/\(∀j,j<k->kA s.ar l bn dn j=true)/\(k=61∨kA s.ar l bn dn k=false)/\e 11=.own o 0 k/\st.get o=some ⟨true,1,(tP s.ar l bn dn k).map au⟩) ?_ ?_
  ·rintro e st ⟨k,o,hk,cN,hend,e11,ho⟩
   have kB:=Jr hk cN hend
   rw[kB,lu]at hw
   refine hN _ _ ?_
   clear hN N
   by_cases pj:k=0
   ·subst pj
    rw[if_pos rfl]at hw
    obtain⟨rfl,rfl⟩:=hw
    have KR:decide (((0:Nat):Int)=0)=true:=rfl
    (try((repeat(revert hN;revert N;apply Pn.out));refine wk (tw @e11 @KR) ?_;(repeat(refine Pn.mk ?_;intro N hN))))
    exact rN (.inl rfl) (vs:=[.bE,.int .i64 9]) (sd @Nat.zero_add) (by simp[dJ,bG,ad,aj,aE,aT])
   ·rw[if_neg pj]at hw
    obtain⟨rfl,rfl⟩:=hw
    have KR:decide ((k:Int)=0)=false:=decide_eq_false ab
    (try((repeat(revert hN;revert N;apply Pn.out));refine wk (tw @e11 @KR) ?_;(repeat(refine Pn.mk ?_;intro N hN))))
    exact rN (.inl rfl) (vs:=[.own o 0 k,.int .i64 0]) (sd @e11) (by
     have:=fw (e:=au) (g:=st.get) (sz:=1) (n:=4) (len:=k) (l:=tP s.ar l bn dn k) (id:=o) ho (by rw[lu]) fun x=>by simp[au,ad,aj,aE]
     simp only[dJ,bG,ad,aj,aE,this,Option.map_some])
  ·intro N hN
   refine aJ (fun n env st=>∃k:Nat,n=61-k/\k<=61/\(∀j,j<k->kA s.ar l bn dn j=true)/\env 12=.int .i64 (k:Int)/\(∃o:Id,env 11=.own o 0 k/\st.get o=some ⟨true,1,(tP s.ar l bn dn k).map au⟩/\o.bZ<st.next/\σ.next<o.bZ)/\st.get ⟨20000000,σ.next⟩=some ⟨true,4,[[.sl (s.ar.aw.map aV),.sl (s.ar.ae.map aU),.sl (s.bR.ae.map ah),.int .i64 s.aG]]⟩/\st.get ⟨20000001,σ.next⟩=some ⟨true,1,[[.sl (l.map ah)]]⟩) 61 ⟨0,rfl,ab,fun j hj=>absurd hj (Nat.not_lt_zero j),by(simp only[go_sem, ↓reduceIte,Nat.reduceEqDiff,Nat.reduceAdd,Nat.reduceSub,Nat.reduceLeDiff,reduceCtorEq])<;>rfl,⟨⟨20006000,σ.next+1+1+1+1⟩,sl @Nat.zero_add,sl @Nat.zero_add,bD,bD⟩,sd @Nat.zero_add,sd @Nat.zero_add⟩ ?_
   rintro n env st ⟨k,rfl,hk,cN,e12,⟨o,e11,ho,qY,AH⟩,hg4,hg5⟩ hkp
   have e4:=hkp 4 (by kernel_rfl)
   have e5:=hkp 5 (by kernel_rfl)
   have e2:=hkp 2 (by kernel_rfl)
   have e3:=hkp 3 (by kernel_rfl)
   simp only[go_sem, ↓reduceIte,Nat.reduceEqDiff,Nat.reduceAdd,Nat.reduceSub,Nat.reduceLeDiff,reduceCtorEq]at e2 e3 e4 e5
   clear hkp
   by_cases AD:(k:Int)<=60
   ·have mm:IntKind.i64.wrap ((k:Int)+1)=((k+1:Nat):Int):=by rw[aQ ab];rfl
    have Ld:=e9 k
    cases hc:kA s.ar l bn dn k
    ·rw[hc,if_neg (by simp)]at Ld
     (repeat(first|((repeat(revert hN;revert N;apply Pn.out));refine wk (tw @e12 (tw @AD (tw @e4 (tw @e5 (tw @e2 (tw @e3 (tw @hg4 @hg5))))))) ?_;(repeat(refine Pn.mk ?_;intro N hN)))|((try apply Or.inl);refine⟨_,ai.x (Ld) (sd (tw @e12 (tw @AD (tw @e4 (tw @e5 (tw @e2 (tw @e3 (tw @hg4 @hg5)))))))),?_⟩;refine hN _ _ ?_;clear hN N)))
     exact⟨k,o,hk,cN,.inr hc,sd @e11,sd @ho⟩
    ·rw[hc,if_pos rfl]at Ld
     have KQ:∀j,j<dn->0<=jK s.ar l bn k j:=by
      intro j hj
      have h9:=hc
      simp only[kA,List.all_eq_true,List.mem_range,decide_eq_true_eq]at h9
      exact h9 j hj
     have Im:=zK bn ab (nR s.ar l bn k dn) (by rw[o8];omega) (by rw[o8];omega) (Fi KQ)
     have QK:gx (bn:Int) (nR s.ar l bn k dn)=vU s.ar l bn dn k:=rfl
     rw[QK]at Im
     generalize (nR s.ar l bn k dn).map au=C at Ld Im
     have zB:(tP s.ar l bn dn (k+1)).map au=(tP s.ar l bn dn k).map au++[[.int .i64 (vU s.ar l bn dn k)]]:=by rw[xS,List.map_append];rfl
     have r6:((tP s.ar l bn dn k).map au).length=k:=by rw[List.length_map,lu]
     have qm:k<=16777215:=ab
     have vo:=eK qY
     generalize vU s.ar l bn dn k=z at Im zB
     generalize (tP s.ar l bn dn k).map au=M at ho zB r6
     have o4:=dp (a:=⟨20000000,σ.next⟩) (b:=o) AH
     have o5:=dp (a:=⟨20000001,σ.next⟩) (b:=o) AH
     (repeat(first|((repeat(revert hN;revert N;apply Pn.out));refine wk (tw @e12 (tw @AD (tw @e4 (tw @e5 (tw @e2 (tw @e3 (tw @hg4 (tw @hg5 (tw @e11 (tw @ho (tw @vo (tw @r6 (tw @qm @mm))))))))))))) ?_;(repeat(refine Pn.mk ?_;intro N hN)))|((try apply Or.inl);refine⟨_,ai.x (Ld) (sd (tw @e12 (tw @AD (tw @e4 (tw @e5 (tw @e2 (tw @e3 (tw @hg4 (tw @hg5 (tw @e11 (tw @ho (tw @vo (tw @r6 (tw @qm @mm)))))))))))))),?_⟩;refine hN _ _ ?_;clear hN N)|((try apply Or.inl);refine⟨_,ai.x (Im) (sd (tw @e12 (tw @AD (tw @e4 (tw @e5 (tw @e2 (tw @e3 (tw @hg4 (tw @hg5 (tw @e11 (tw @ho (tw @vo (tw @r6 (tw @qm @mm)))))))))))))),?_⟩;refine hN _ _ ?_;clear hN N)))
     exact⟨61-(k+1),ab,k+1,rfl,ab,fun j hj=>by
      rcases Nat.lt_or_ge j k with h|h
      ·exact cN j h
      ·have:j=k:=ab
       rw[this];exact hc,sd (tw @mm @e12),⟨⟨20013003,st.next+1+1+1+1⟩,sl @Nat.zero_add,by rw[zB];simp only[go_sem, ↓reduceIte,Nat.reduceEqDiff,Nat.reduceAdd,Nat.reduceSub,Nat.reduceLeDiff,reduceCtorEq]<;>rfl,bD,bD⟩,sd (tw @o4 @hg4),sd (tw @o5 @hg5)⟩
   ·have QA:k=61:=ab
    (try((repeat(revert hN;revert N;apply Pn.out));refine wk (tw @e12 @AD) ?_;(repeat(refine Pn.mk ?_;intro N hN))))
    exact⟨k,o,hk,cN,.inl QA,sd @e11,sd @ho⟩
 by_cases h0:(cL s.ar l bn dn).length=0
 ·rw[if_pos h0]
  exact⟨.bE,.inl ⟨rfl,rfl⟩,key _ _ (by rw[if_pos h0];exact⟨rfl,rfl⟩)⟩
 ·rw[if_neg h0]
  exact⟨_,.inr rfl,key _ _ (by rw[if_neg h0];exact⟨rfl,rfl⟩)⟩
structure lU (n:Nat) (px:Nat->Option Nat) (L:Nat->Nat):Prop where
 top:∀k,k<n->px k=none->L k=k
 up:∀k j,k<n->px k=some j->j<k/\L j=L k
theorem lU.root {n:Nat} {px:Nat->Option Nat} {L:Nat->Nat} (h:lU n px L) (hL:iS L) {k:Nat} (hk:k<n) (hr:L k=k):px k=none:=by
 rcases hp:px k with _|j
 ·rfl
 ·obtain⟨h1,h2⟩:=h.up k j hk hp
  have:=hL.le j
  omega
theorem lU.start (n:Nat):lU n (fun _=>none) id:=⟨fun _ _ _=>rfl,fun _ _ _ h=>by cases h⟩
theorem lU.join {n:Nat} {px:Nat->Option Nat} {L:Nat->Nat} (h:lU n px L) (hL:iS L) (b:PB) (dD:min (L b.a) (L b.b)<max (L b.a) (L b.b)):lU n (fun k=>if k=max (L b.a) (L b.b)then some (min (L b.a) (L b.b))else px k) (dX L b):=by
 have ha:=hL.idem b.a
 have hb:=hL.idem b.b
 have wz:L (min (L b.a) (L b.b))=min (L b.a) (L b.b):=by
  rcases Nat.le_total (L b.a) (L b.b)with h|h
  ·rw[Nat.min_eq_left h,ha]
  ·rw[Nat.min_eq_right h,hb]
 have NS:L (max (L b.a) (L b.b))=max (L b.a) (L b.b):=by
  rcases Nat.le_total (L b.a) (L b.b)with h|h
  ·rw[Nat.max_eq_right h,hb]
  ·rw[Nat.max_eq_left h,ha]
 unfold dX
 generalize min (L b.a) (L b.b)=lo at *
 generalize max (L b.a) (L b.b)=hi at *
 refine⟨fun k hk hp=>?_,fun k j hk hp=>?_⟩
 ·by_cases Ht:k=hi
  ·rw[if_pos Ht]at hp;cases hp
  ·rw[if_neg Ht]at hp
   have:=h.top k hk hp
   rw[if_neg ab];exact this
 ·by_cases Ht:k=hi
  ·rw[if_pos Ht]at hp
   cases hp
   subst Ht
   exact⟨dD,by rw[if_neg ab,if_pos NS,wz]⟩
  ·rw[if_neg Ht]at hp
   obtain⟨h1,h2⟩:=h.up k j hk hp
   exact⟨h1,by rw[h2]⟩
theorem wI {L:Nat->Nat} {b:PB} (h:L b.a=L b.b):dX L b=L:=by
 funext k
 unfold dX
 rw[h,Nat.max_self,Nat.min_self]
 split
 ·rename_i h;exact h.symm
 ·rfl
def qj (G:Nat->Id) (px:Nat->Option Nat) (k:Nat):List AV:=[match px k with|none=>.fZ|some j=>.ptr (G j) 0 0,.int .i64 (k:Int)]
def rE (g:Rows) (G:Nat->Id) (n:Nat) (px:Nat->Option Nat):Prop:=∀k,k<n->g (G k)=some ⟨true,2,[qj G px k]⟩
theorem rE.frame {g g':Rows} {G:Nat->Id} {n:Nat} {px:Nat->Option Nat} (h:rE g G n px) (hf:∀k,k<n->g' (G k)=g (G k)):rE g' G n px:=fun k hk=>(hf k hk).trans (h k hk)
theorem kp {G:Nat->Id} {px:Nat->Option Nat} {k:Nat} (h:px k=none):qj G px k=[.fZ,.int .i64 (k:Int)]:=by rw[qj,h]
theorem qU {G:Nat->Id} {px:Nat->Option Nat} {k j:Nat} (h:px k=some j):qj G px k=[.ptr (G j) 0 0,.int .i64 (k:Int)]:=by rw[qj,h]
theorem wc (G:Nat->Id) (n:Nat) (px:Nat->Option Nat) (L:Nat->Nat) (h:lU n px L) (k:Nat) (hk:k<n) (σ:ax) (hG:rE σ.get G n px):
  Call Tryz.prog 184 [.ptr (G k) 0 0] σ fun r σ'=>r=.ptr (G (L k)) 0 0/\σ'.get=σ.get/\σ.next<=σ'.next:=by
 refine fm dP rfl fun hl=>?_
 clear hl
 (try((repeat(revert hN;revert N;apply Pn.out));refine wk @Nat.zero_add ?_;(repeat(refine Pn.mk ?_;intro N hN))))
 refine aJ (fun m env st=>∃j:Nat,m=j/\j<n/\env 0=.ptr (G j) 0 0/\L j=L k/\st.get=σ.get/\σ.next<=st.next) k ⟨k,rfl,hk,sd @Nat.zero_add,rfl,by(try dsimp only),bD⟩ ?_
 rintro m env_b st_b ⟨j,rfl,hj,b0,hLj,hg,hle⟩ bfr
 clear bfr
 have e9:=hG m hj
 rcases hp:px m with _|j
 ·rw[kp hp]at e9
  (try((repeat(revert hN;revert N;apply Pn.out));refine wk (tw @b0 (tw @hg @e9)) ?_;(repeat(refine Pn.mk ?_;intro N hN))))
  exact gy (.inl rfl) (vs:=[.ptr (G m) 0 0]) (sd @Nat.zero_add) ⟨by rw[<-hLj,h.top m hj hp];rfl,by first|trivial|rfl|exact hg,bD⟩
 ·rw[qU hp]at e9
  obtain⟨h1,h2⟩:=h.up m j hj hp
  (try((repeat(revert hN;revert N;apply Pn.out));refine wk (tw @b0 (tw @hg @e9)) ?_;(repeat(refine Pn.mk ?_;intro N hN))))
  exact⟨j,h1,j,rfl,ab,sd @Nat.zero_add,ab,by first|trivial|rfl|exact hg,bD⟩
end Go.Proofs.YtihgaadadaekmaaGreatDoor.V

namespace Go.Proofs.YtihgaadadaekmaaGreatDoor.V
open Go.RowKit
attribute [local irreducible] dO wpOps gO Call
attribute [local go_sem] aH fF eF fR fQ cu upd cm K.av cJ AV.cells AV.cell rowOf rowsOf part ld rowAt bI bU dG ei il bJ da eB fW eZ dq ep cY cX dU dV bP bd cQ bL cT cR ek er eo cP bS cZ ej bK aL cV cw ik br cI bQ aZ dz bl dI AV.undef bB bH dY eh dR ea cE eA eE cr ev eu cU cW List.getD_cons_zero List.getD_cons_succ List.getD_nil List.all_cons List.all_nil Bool.and_true Bool.true_and Bool.and_self Bool.not_true Bool.not_false Option.map_some Option.map_none Option.bind_some Option.bind_none List.length_cons List.length_nil List.take_succ_cons List.take_zero List.take_nil List.drop_succ_cons List.drop_zero List.drop_nil List.head?_cons List.map_cons List.map_nil List.getElem?_cons_zero List.getElem?_cons_succ List.cons_append List.nil_append List.append_nil List.length_map List.set_cons_zero List.set_cons_succ eq_self Int.toNat_natCast Int.natCast_nonneg and_self true_and and_true decide_true decide_false Bool.false_eq_true Nat.zero_add Nat.add_zero List.contains_cons List.contains_nil Bool.or_false Bool.false_or beq_self_eq_true ne_eq not_true_eq_false not_false_eq_true Id.mk.injEq false_and and_false Nat.le_refl List.length_append beq_true beq_false Bool.not_eq_eq_eq_not or_false false_or dC ad aj aE bz cj aT bj aX bf cK bG
abbrev mI:MK:=⟨false,[.tI]⟩
def qo (l:List (Nat×Nat)):List (List AV):=l.map fun p=>[.int .i64 (p.1:Int),.int .i64 (p.2:Int)]
theorem yO (r:Nat):∀(l:List (Nat×Nat)) (i:Nat),((∀p∈l,p.1≠r)->gG mI [.int .i64 (r:Int)] (qo l) i=some none)/\(∀j v,l[j]? =some (r,v)->(∀x y,x<j->l[x]? =some y->y.1≠r)->gG mI [.int .i64 (r:Int)] (qo l) i=some (some (i+j)))
 |[],i=>⟨fun _=>rfl,fun j v h=>by simp at h⟩
 |p::l,i=>by
  obtain⟨h1,h2⟩:=yO r l (i+1)
  by_cases h:p.1=r
  ·refine⟨fun hp=>absurd h (hp p (by simp)),fun j v hj hf=>?_⟩
   have hj0:j=0:=by
    rcases Nat.eq_zero_or_pos j with h0|h0
    ·exact h0
    ·exact absurd h (hf 0 p h0 (by simp))
   subst hj0
   simp[qo,gG,eZ,fW,MK.ks,h]
  ·have hd:¬((r:Int)=(p.1:Int)):=ab
   have oF:¬r=p.1:=fun he=>h he.symm
   have step:gG mI [.int .i64 (r:Int)] (qo (p::l)) i=gG mI [.int .i64 (r:Int)] (qo l) (i+1):=by
    unfold qo
    simp[gG,MK.ks,eZ,fW,hd,oF,h]
   rw[step]
   refine⟨fun hp=>h1 fun q hq=>hp q (by simp[hq]),fun j v hj hf=>?_⟩
   cases j with
   |zero=>simp at hj;rw[hj]at h;exact absurd rfl h
   |succ j=>
    rw[h2 j v (by simpa using hj) fun x y hx hy=>hf (x+1) y ab (by simpa using hy)]
    congr 2;omega
theorem vd {r:Nat} {l:List (Nat×Nat)}:((∀p∈l,p.1≠r)->gw mI (.int .i64 (r:Int)) (qo l)=some none)/\(∀j v,l[j]? =some (r,v)->(∀x y,x<j->l[x]? =some y->y.1≠r)->gw mI (.int .i64 (r:Int)) (qo l)=some (some j)):=by
 have e:gw mI (.int .i64 (r:Int)) (qo l)=gG mI [.int .i64 (r:Int)] (qo l) 0:=by
  unfold gw
  rw[if_pos ⟨rfl,rfl,rfl⟩];rfl
 obtain⟨h1,h2⟩:=yO r l 0
 rw[e]
 exact⟨h1,fun j v hj hf=>by rw[h2 j v hj hf,Nat.zero_add]⟩
def jR (k:Nat) (L:Nat->Nat):List (List AV):=qo (leads k L).zipIdx
theorem AZ {k:Nat} {L:Nat->Nat} (h:L k=k):jR (k+1) L=jR k L++[[.int .i64 (k:Int),.int .i64 ((leads k L).length:Int)]]:=by
 unfold jR
 rw[fK,if_pos h,List.zipIdx_append]
 simp[qo]
theorem AY {k:Nat} {L:Nat->Nat} (h:L k≠k):jR (k+1) L=jR k L:=by
 unfold jR
 rw[fK,if_neg h,List.append_nil]
theorem DS {k:Nat} {L:Nat->Nat} (h:L k=k):gw mI (.int .i64 (k:Int)) (jR k L)=some none:=by
 refine vd.1 fun p hp=>?_
 have:=List.fst_mem_of_mem_zipIdx hp
 have:=(vm.1 this).1
 omega
theorem vk {n:Nat} {L:Nat->Nat} {x y:Nat} (hx:x<(leads n L).length) (hy:y<(leads n L).length) (h:(leads n L)[x]=(leads n L)[y]):x=y:=by
 have hp:=List.pairwise_iff_getElem.1 (rf n L)
 rcases Nat.lt_trichotomy x y with dD|he|dD
 ·exact absurd h (hp x y hx hy dD)
 ·exact he
 ·exact absurd h.symm (hp y x hy hx dD)
theorem vh {k:Nat} {L:Nat->Nat} (hL:iS L) (h:L k≠k):gw mI (.int .i64 (L k:Int)) (jR k L)=some (some (bm L k))/\(jR k L)[bm L k]? =some [.int .i64 (L k:Int),.int .i64 (bm L k:Int)]/\bm L k<(leads k L).length:=by
 have dD:L k<k:=Nat.lt_of_le_of_ne (hL.le k) h
 have hn:bm L (L k)=bm L k:=by rw[bm,hL.idem,bm]
 have hg:=nC hL dD
 rw[hn,hL.idem]at hg
 have hl:bm L k<(leads k L).length:=(List.getElem?_eq_some_iff.1 hg).1
 have hz:(leads k L).zipIdx[bm L k]? =some (L k,bm L k):=by simp[List.getElem?_zipIdx,hg]
 refine⟨vd.2 _ _ hz fun x y hx hy=>?_,by unfold jR qo;rw[List.getElem?_map,hz];rfl,hl⟩
 intro he
 rw[List.getElem?_zipIdx]at hy
 have MH:x<(leads k L).length:=ab
 rw[List.getElem?_eq_getElem MH]at hy
 simp at hy
 rw[<-hy]at he
 simp at he
 have e2:(leads k L)[bm L k]=L k:=(List.getElem?_eq_some_iff.1 hg).2
 have:=vk MH hl (he.trans e2.symm)
 omega
def iY (k:Nat) (L:Nat->Nat):List (List Nat):=(leads k L).map (members k L)
theorem oD (k:Nat) (L:Nat->Nat):(iY k L).length=(leads k L).length:=by simp[iY]
theorem Am {k:Nat} {L:Nat->Nat} (hL:iS L) (h:L k=k):iY (k+1) L=iY k L++[[k]]:=by
 unfold iY
 rw[fK,if_pos h,List.map_append,List.map_cons,List.map_nil,iF,if_pos h,lE hL (Nat.le_refl k),List.nil_append]
 congr 1
 refine List.map_congr_left fun r hr=>?_
 have:=(vm.1 hr).1
 rw[iF,if_neg ab,List.append_nil]
theorem An {k:Nat} {L:Nat->Nat} (hL:iS L) (h:L k≠k):(iY k L)[bm L k]? =some (members k L (L k))/\iY (k+1) L=(iY k L).set (bm L k) (members k L (L k)++[k]):=by
 obtain⟨_,_,hl⟩:=vh hL h
 have dD:L k<k:=Nat.lt_of_le_of_ne (hL.le k) h
 have hg:=nC hL dD
 have hn:bm L (L k)=bm L k:=by rw[bm,hL.idem,bm]
 rw[hn,hL.idem]at hg
 refine⟨by unfold iY;rw[List.getElem?_map,hg];rfl,?_⟩
 unfold iY
 rw[fK,if_neg h,List.append_nil]
 refine List.ext_getElem? fun i=>?_
 rw[List.getElem?_set,List.getElem?_map,List.length_map]
 by_cases hi:bm L k=i
 ·subst hi
  rw[if_pos rfl,if_pos hl,hg,Option.map_some,iF,if_pos rfl]
 ·rw[if_neg hi,List.getElem?_map]
  rcases hr:(leads k L)[i]? with _|r
  ·rfl
  ·rw[Option.map_some,Option.map_some,iF,if_neg,List.append_nil]
   rintro rfl
   obtain⟨oe,he⟩:=List.getElem?_eq_some_iff.1 hr
   have e2:(leads k L)[bm L k]=L k:=(List.getElem?_eq_some_iff.1 hg).2
   exact hi (vk hl oe (e2.trans he.symm))
theorem y4 (k:Nat) (L:Nat->Nat) (r:Nat):(members k L r).length<=k:=by
 have:=List.length_filter_le (fun x=>L x==r) (List.range k)
 simpa[members]using this
def Hi (g:Rows) (o:Id) (L:List (List Nat)) (nx:Nat):Prop:=∃rows ids,g o=some ⟨true,1,rows⟩/\dM Mf g rows L ids/\ids.Nodup/\(∀i∈ids,i.site=168026008/\i.bZ<nx)/\o.site=168025002/\o.bZ<nx
theorem HZ {g':Rows} {v v' uw j:Nat} (h1:g' ⟨168025002,v⟩=some ⟨true,1,[[.own ⟨168026008,v'⟩ 0 1]]⟩) (h2:g' ⟨168026008,v'⟩=some ⟨true,1,[eN j]⟩) (hv:v<uw) (mj:v'<uw):Hi g' ⟨168025002,v⟩ [[j]] uw:=
 ⟨_,[⟨168026008,v'⟩],h1,.one ⟨_,rfl,h2,rfl⟩,by simp,fun i hi=>by rw[List.mem_singleton.1 hi];exact⟨rfl,mj⟩,rfl,hv⟩
theorem Hi.new {g:Rows} {o:Id} {L:List (List Nat)} {nx:Nat} (h:Hi g o L nx) (j:Nat):∃rows,g o=some ⟨true,1,rows⟩/\rows.length=L.length/\∀(g':Rows) (v v' uw:Nat),nx<=v'->v<uw->v'<uw->g' ⟨168025002,v⟩=some ⟨true,1,rows++[[.own ⟨168026008,v'⟩ 0 1]]⟩->g' ⟨168026008,v'⟩=some ⟨true,1,[eN j]⟩->(∀i:Id,i.site=168026008->i.bZ<nx->g' i=g i)->Hi g' ⟨168025002,v⟩ (L++[[j]]) uw:=by
 obtain⟨rows,ids,h1,h2,h3,h4,h5,h6⟩:=h
 refine⟨rows,h1,h2.len,fun g' v v' uw hv u6 Ll q1 q2 q3=>⟨_,ids++[⟨168026008,v'⟩],q1,(h2.frame Ls fun i hi=>q3 i (h4 i hi).1 (h4 i hi).2).app (.one ⟨_,rfl,q2,rfl⟩),?_,fun i hi=>?_,rfl,u6⟩⟩
 ·refine List.nodup_append.2 ⟨h3,by simp,fun a ha b hb qV=>?_⟩
  rw[List.mem_singleton.1 hb]at qV
  have:=(h4 a ha).2
  rw[qV]at this
  simp only at this
  omega
 ·rcases List.mem_append.1 hi with hi|hi
  ·have:=h4 i hi;exact⟨this.1,ab⟩
  ·rw[List.mem_singleton.1 hi];exact⟨rfl,Ll⟩
theorem Hi.add {g:Rows} {o:Id} {L:List (List Nat)} {nx k:Nat} {La:List Nat} (h:Hi g o L nx) (hk:L[k]? =some La) (j:Nat):∃rows id,g o=some ⟨true,1,rows⟩/\rows.length=L.length/\rows[k]? =some [.own id 0 La.length]/\g id=some ⟨true,1,La.map eN⟩/\id.site=168026008/\id.bZ<nx/\∀(g':Rows) (v' uw:Nat),nx<=v'->v'<uw->g' o=some ⟨true,1,rows.set k [.own ⟨168026008,v'⟩ 0 (La.length+1)]⟩->g' ⟨168026008,v'⟩=some ⟨true,1,La.map eN++[[.int .i64 (j:Int)]]⟩->(∀i:Id,i.site=168026008->i.bZ<nx->(i=id)=False->g' i=g i)->Hi g' o (L.set k (La++[j])) uw:=by
 obtain⟨rows,ids,h1,h2,h3,h4,h5,h6⟩:=h
 have kK:k<L.length:=(List.getElem?_eq_some_iff.1 hk).1
 have Qd:=jL hk kK
 obtain⟨cs,ic,dh,Mo,NM,wC⟩:=h2.Ox Ls h3 k kK
 rw[Qd]at Mo
 obtain⟨id,rfl,q1,rfl⟩:=Mo
 have hid:=h4 id (NM id (by simp))
 refine⟨rows,id,h1,h2.len,dh,q1,hid.1,hid.2,fun g' v' uw hv u6 r1 r2 r3=>?_⟩
 obtain⟨AO,s1,s2,s3⟩:=wC g' [.own ⟨168026008,v'⟩ 0 (La.length+1)] (La++[j]) [⟨168026008,v'⟩] ⟨_,by simp,by rw[r2];simp[eN],rfl⟩ (fun i hi Mv=>r3 i (h4 i hi).1 (h4 i hi).2 (by
  simp only[eq_iff_iff,iff_false];rintro rfl;exact Mv (by simp))) (by simp) fun i hi hc=>by
   rw[List.mem_singleton.1 hi]at hc
   have:=(h4 _ hc).2
   simp only at this
   omega
 refine⟨_,AO,r1,s1,s2,fun i hi=>?_,h5,ab⟩
 rcases s3 i hi with h|h
 ·rw[List.mem_singleton.1 h];exact⟨rfl,u6⟩
 ·have:=h4 i h;exact⟨this.1,ab⟩
def kI (G:Nat->Id) (n k:Nat):List (List AV):=(List.range n).map fun i=>[if i<k then .ptr (G i) 0 0 else .fZ]
theorem la (G:Nat->Id) (n k:Nat):(kI G n k).length=n:=by simp[kI]
theorem Ep (G:Nat->Id) (n:Nat):List.replicate n [AV.fZ]=kI G n 0:=by
 refine List.ext_getElem? fun i=>?_
 by_cases h:i<n
 ·rw[List.getElem?_replicate,if_pos h];simp[kI,h]
 ·rw[List.getElem?_eq_none (by simp;omega),List.getElem?_eq_none (by rw[la];omega)]
theorem tE {G:Nat->Id} {n i:Nat} (h:i<n):(kI G n n)[i]? =some [.ptr (G i) 0 0]:=by simp[kI,h]
theorem GY {G:Nat->Id} {n k:Nat} (h:k<n):(kI G n k).set k [.ptr (G k) 0 0]=kI G n (k+1):=by
 refine List.ext_getElem? fun i=>?_
 rw[List.getElem?_set,la]
 by_cases hi:k=i
 ·subst hi;rw[if_pos rfl,if_pos h];simp[kI,h]
 ·rw[if_neg hi]
  by_cases fb:i<n
  ·simp only[kI,List.getElem?_map,List.getElem?_range fb,Option.map_some]
   by_cases uW:i<k
   ·rw[if_pos uW,if_pos ab]
   ·rw[if_neg uW,if_neg ab]
  ·rw[List.getElem?_eq_none (by rw[la];omega),List.getElem?_eq_none (by rw[la];omega)]
end Go.Proofs.YtihgaadadaekmaaGreatDoor.V

namespace Go.Proofs.YtihgaadadaekmaaGreatDoor.V
open Go.RowKit
attribute [local irreducible] dO wpOps gO Call
attribute [local go_sem] aH fF eF fR fQ cu upd cm K.av cJ AV.cells AV.cell rowOf rowsOf part ld rowAt bI bU dG ei il bJ da eB fW eZ dq ep cY cX dU dV bP bd cQ bL cT cR ek er eo cP bS cZ ej bK aL cV cw ik br cI bQ aZ dz bl dI AV.undef bB bH dY eh dR ea cE eA eE cr ev eu cU cW List.getD_cons_zero List.getD_cons_succ List.getD_nil List.all_cons List.all_nil Bool.and_true Bool.true_and Bool.and_self Bool.not_true Bool.not_false Option.map_some Option.map_none Option.bind_some Option.bind_none List.length_cons List.length_nil List.take_succ_cons List.take_zero List.take_nil List.drop_succ_cons List.drop_zero List.drop_nil List.head?_cons List.map_cons List.map_nil List.getElem?_cons_zero List.getElem?_cons_succ List.cons_append List.nil_append List.append_nil List.length_map List.set_cons_zero List.set_cons_succ Nat.reduceMul eq_self Int.toNat_natCast Int.natCast_nonneg and_self true_and and_true decide_true decide_false Bool.false_eq_true Nat.zero_add Nat.add_zero List.contains_cons List.contains_nil Bool.or_false Bool.false_or beq_self_eq_true Nat.reduceBEq ne_eq not_true_eq_false not_false_eq_true Id.mk.injEq false_and and_false Nat.reduceLT Int.reduceLE Int.reduceLT Int.reduceToNat Int.reduceNeg Int.reduceAdd Nat.le_refl List.length_append beq_true beq_false Bool.not_eq_eq_eq_not or_false false_or dC ad aj aE bz cj aT bj aX bf cK bG
theorem fN {o:Id} {a:Nat} (h:o.site=a) {b v:Nat} (qV:(a==b)=false):(o=⟨b,v⟩)=False/\((⟨b,v⟩:Id)=o)=False:=by
 have h1:=wY h (v:=v) qV
 refine⟨h1,?_⟩
 simp only[eq_iff_iff,iff_false]at h1 ⊢
 exact fun h=>h1 h.symm
theorem sN (cnt:Nat) (uj:1<=cnt) (hn:cnt<=1048576) (bs:List PB) (hb:∀b∈bs,b.a<cnt/\b.b<cnt) (oU:bs.length<=1048576):ai Tryz.prog 168 [.int .i64 cnt,.sl (bs.map ay)] (.sl ((eQ cnt (dH bs)).map xl)):=by
 intro n0
 refine ET Ko rfl fun hl=>?_
 try simp only[q]
 clear hl
 have iU:(0:Int)<=(cnt:Int):=ab
 have od:(cnt:Int)<=((16777216:Nat):Int):=ab
 obtain⟨G,hG⟩:∃G:Nat->Id,G=fun k=>⟨168005004,n0+3+4*k+2⟩:=⟨_,rfl⟩
 have OX:∀k,(G k).site=168005004:=fun k=>by rw[hG]
 have P9:∀k,(G k).bZ=n0+3+4*k+2:=fun k=>by rw[hG]
 have P7:∀i j,i≠j->(G i=G j)=False:=fun i j h=>by
  simp only[eq_iff_iff,iff_false]
  intro he
  have h1:=P9 i
  rw[he,P9 j]at h1
  omega
 have H3:∀i s v,(168005004==s)=false->(G i=⟨s,v⟩)=False:=fun i s v h=>wY (OX i) h
 have hz:=Ep G cnt
 (try((repeat(revert hN;revert N;apply Pn.out));refine wk (tw @iU (tw @od (tw @Int.le_refl @hz))) ?_;(repeat(refine Pn.mk ?_;intro N hN))))
 refine aJ (fun n env st=>∃k:Nat,n=(cnt)-k/\k<=(cnt)/\env 21=.int .i64 (k:Int)/\st.get ⟨168001001,n0+1⟩=some ⟨true,1,kI G cnt k⟩/\(st.next=n0+3+4*k/\∀j:Nat,j<k->st.get (G j)=some ⟨true,2,[[.fZ,.int .i64 (j:Int)]]⟩)) (cnt) ⟨0,ab,ab,sl @hz,sl @hz,⟨rfl,fun j hj=>ab⟩⟩ ?_
 rintro n_a env_a st_a ⟨k,rfl,ale,a21,ag0,l7⟩ dE
 have a0:=dE 0 (by kernel_rfl);have a1:=dE 1 (by kernel_rfl);have a5:=dE 5 (by kernel_rfl);have Kc:=dE 19 (by kernel_rfl);have Kd:=dE 20 (by kernel_rfl)
 simp only[go_sem, ↓reduceIte,Nat.reduceEqDiff,Nat.reduceAdd,Nat.reduceSub,Nat.reduceLeDiff,reduceCtorEq,hz]at a0 a1 a5 Kc Kd
 clear dE
 obtain⟨l7,j9⟩:=l7
 by_cases hk:(k:Int)<(cnt:Int)
 ·have cl:∀{e:Env} {gg:Rows} {nx:Nat},(e 21=.int .i64 (IntKind.i64.wrap ((k:Int)+1)))->(gg ⟨168001001,n0+1⟩=some ⟨true,1,kI G cnt (k+1)⟩)->(nx=n0+3+4*(k+1)/\∀j:Nat,j<(k+1)->gg (G j)=some ⟨true,2,[[.fZ,.int .i64 (j:Int)]]⟩)->∃m0,m0<(cnt)-k/\∃k:Nat,m0=(cnt)-k/\k<=(cnt)/\e 21=.int .i64 (k:Int)/\gg ⟨168001001,n0+1⟩=some ⟨true,1,kI G cnt k⟩/\(nx=n0+3+4*k/\∀j:Nat,j<k->gg (G j)=some ⟨true,2,[[.fZ,.int .i64 (j:Int)]]⟩):=fun x1 x2 x3=>⟨_,ab,k+1,rfl,ab,(by rw[x1,aA ab]),x2,x3⟩
  have eO:k<cnt:=ab
  have tl:=la G cnt k
  have dQ:=GY (G:=G) eO
  have eC:(kI G cnt k)[k]? =some [.fZ]:=by simp[kI,eO]
  have OV:(⟨168005004,st_a.next+1+1⟩:Id)=G k:=by rw[hG,l7]
  have hGf:∀j,j<k->(G j=G k)=False:=fun j hj=>P7 j k ab
  have wq:∀j,(G j=(⟨168001001,n0+1⟩:Id))=False:=fun j=>H3 j _ _ (by decide)
  have Aq:∀j,((⟨168001001,n0+1⟩:Id)=G j)=False:=fun j=>by
   have:=wq j
   simp only[eq_iff_iff,iff_false]at this ⊢
   exact fun h=>this h.symm
  (try((repeat(revert hN;revert N;apply Pn.out));refine wk (tw @a21 (tw @ag0 (tw @a0 (tw @a1 (tw @a5 (tw @Kc (tw @Kd (tw @hk (tw @tl (tw @OV (tw @wq (tw @Aq (tw @dQ @eC))))))))))))) ?_;(repeat(refine Pn.mk ?_;intro N hN))))
  refine cl ?_ ?_ (by
   refine⟨by(try dsimp only)<;>omega,fun j hj=>?_⟩
   by_cases uX:j=k
   ·subst uX;simp only[go_sem, ↓reduceIte,Nat.reduceEqDiff,Nat.reduceAdd,Nat.reduceSub,Nat.reduceLeDiff,reduceCtorEq,OV,wq,Aq]
   ·have hold:=j9 j ab
    have gF:=hGf j ab
    simp only[go_sem, ↓reduceIte,Nat.reduceEqDiff,Nat.reduceAdd,Nat.reduceSub,Nat.reduceLeDiff,reduceCtorEq,OV,wq,Aq,gF,hold])
  all_goals simp only[go_sem, ↓reduceIte,Nat.reduceEqDiff,Nat.reduceAdd,Nat.reduceSub,Nat.reduceLeDiff,reduceCtorEq,a21,ag0,a0,a1,a5,Kc,Kd,OV,wq,Aq,dQ]
 have kK:cnt=k:=ab
 subst kK
 (try((repeat(revert hN;revert N;apply Pn.out));refine wk (tw @a21 (tw @ag0 (tw @a0 (tw @a1 (tw @a5 (tw @Kc (tw @Kd @hk))))))) ?_;(repeat(refine Pn.mk ?_;intro N hN))))
 refine aJ (fun n env st=>∃i:Nat,n=(bs.length)-i/\i<=(bs.length)/\env 33=.int .i64 (i:Int)/\st.get ⟨168001001,n0+1⟩=some ⟨true,1,kI G cnt cnt⟩/\(n0+3+4*cnt<=st.next)/\(∃px,lU cnt px (dH (bs.take i))/\rE st.get G cnt px)) (bs.length) ⟨0,ab,ab,sl (tw @a21 (tw @ag0 (tw @a0 (tw @a1 (tw @a5 (tw @Kc @Kd)))))),sl (tw @a21 (tw @ag0 (tw @a0 (tw @a1 (tw @a5 (tw @Kc @Kd)))))),bD,⟨fun _=>none,lU.start cnt,j9⟩⟩ ?_
 rintro n_b env_b st_b ⟨i,rfl,ble,b33,bg0,bI0,bI1⟩ bfr
 have b0:=bfr 0 (by kernel_rfl);have b1:=bfr 1 (by kernel_rfl);have b5:=bfr 5 (by kernel_rfl);have uG:=bfr 31 (by kernel_rfl);have uH:=bfr 32 (by kernel_rfl)
 simp only[go_sem, ↓reduceIte,Nat.reduceEqDiff,Nat.reduceAdd,Nat.reduceSub,Nat.reduceLeDiff,reduceCtorEq,a21,ag0,a0,a1,a5,Kc,Kd]at b0 b1 b5 uG uH
 clear bfr
 obtain⟨px,Hw,OW⟩:=bI1
 have tl:=la G cnt cnt
 have Nn:∀j v,(G j=(⟨168009002,v⟩:Id))=False:=fun j v=>H3 j _ v (by decide)
 have wq:∀j v,(G j=(⟨168001001,v⟩:Id))=False:=fun j v=>H3 j _ v (by decide)
 have Aq:∀j v,((⟨168001001,v⟩:Id)=G j)=False:=fun j v=>by
  have:=wq j v
  simp only[eq_iff_iff,iff_false]at this ⊢
  exact fun h=>this h.symm
 have hGn:∀j,j<cnt->(G j).bZ<st_b.next:=fun j hj=>by rw[P9];omega
 by_cases hi:(i:Int)<(bs.length:Int)
 ·have iW:∀{e:Env} {gg:Rows} {nx:Nat},(e 33=.int .i64 (IntKind.i64.wrap ((i:Int)+1)))->(gg ⟨168001001,n0+1⟩=some ⟨true,1,kI G cnt cnt⟩)->(n0+3+4*cnt<=nx)->(∃px,lU cnt px (dH (bs.take (i+1)))/\rE gg G cnt px)->∃m0,m0<(bs.length)-i/\∃i:Nat,m0=(bs.length)-i/\i<=(bs.length)/\e 33=.int .i64 (i:Int)/\gg ⟨168001001,n0+1⟩=some ⟨true,1,kI G cnt cnt⟩/\(n0+3+4*cnt<=nx)/\(∃px,lU cnt px (dH (bs.take i))/\rE gg G cnt px):=fun x1 x2 x3 x4=>⟨_,ab,i+1,rfl,ab,(by rw[x1,aA ab]),x2,x3,x4⟩
  have fb:i<bs.length:=ab
  have nA:(bs.map ay)[i]? =some (ay bs[i]):=by simp[fb]
  have Dq:=hb _ (List.getElem_mem fb)
  have oH:bs.take (i+1)=bs.take i++[bs[i]]:=List.take_succ_eq_append_getElem fb
  have kq:dH (bs.take (i+1))=dX (dH (bs.take i)) bs[i]:=by rw[oH,s5]
  have hL:=re (bs.take i)
  generalize dH (bs.take i)=L at *
  generalize bs[i]=b at *
  have gA:=tE (G:=G) Dq.1
  have gB:=tE (G:=G) Dq.2
  have fH:(b.a:Int)<(cnt:Int):=ab
  have fe:(b.b:Int)<(cnt:Int):=ab
  (try((repeat(revert hN;revert N;apply Pn.out));refine wk (tw @b33 (tw @bg0 (tw @b0 (tw @b1 (tw @b5 (tw @uG (tw @uH (tw @hi (tw @nA (tw @ay.eq_1 (tw @gA (tw @gB (tw @fH (tw @fe @tl)))))))))))))) ?_;(repeat(refine Pn.mk ?_;intro N hN))))
  refine Hc (fun e s=>e 0=.int .i64 cnt/\e 1=.sl (bs.map ay)/\e 5=.own ⟨168001001,n0+1⟩ 0 cnt/\e 31=.sl (bs.map ay)/\e 32=.int .i64 bs.length/\e 33=.int .i64 i/\e 9=.ptr (G (L b.a)) 0 0/\e 10=.ptr (G (L b.b)) 0 0/\(∀j:Id,j.bZ<st_b.next->s.get j=st_b.get j)/\st_b.next<=s.next) ?_ ?_
  ·rintro e1 s1 ⟨m0,m1,m5,m31,m32,m33,m9,m10,mf,mn⟩
   refine hN _ _ ?_
   clear hN N
   have mG:rE s1.get G cnt px:=OW.frame fun k hk=>mf _ (hGn k hk)
   have mt:=(mf ⟨168001001,n0+1⟩ bD).trans bg0
   have QC:L b.a<cnt:=Nat.lt_of_le_of_lt (hL.le _) Dq.1
   have NP:L b.b<cnt:=Nat.lt_of_le_of_lt (hL.le _) Dq.2
   have ra:=mG _ QC
   have rb:=mG _ NP
   rw[kp (Hw.root hL QC (hL.idem _))]at ra
   rw[kp (Hw.root hL NP (hL.idem _))]at rb
   have put:∀(g':Rows) (lo hi:Nat),hi<cnt->g' (G hi)=some ⟨true,2,[[.ptr (G lo) 0 0,.int .i64 (hi:Int)]]⟩->(∀k,k≠hi->k<cnt->g' (G k)=s1.get (G k))->rE g' G cnt (fun k=>if k=hi then some lo else px k):=fun g' lo hi _ h1 h2 k hk=>by
    by_cases Ht:k=hi
    ·subst Ht;rw[h1,qU (j:=lo) (if_pos rfl)]
    ·rw[h2 k Ht hk,mG k hk]
     unfold qj
     simp only[if_neg Ht]
   rcases Nat.lt_trichotomy (L b.a) (L b.b)with dD|heq|dD
   ·have K2:(L b.a:Int)<(L b.b:Int):=ab
    have hj:=Hw.join hL b ab
    rw[Nat.max_eq_right ab,Nat.min_eq_left ab,<-kq]at hj
    (try((repeat(revert hN;revert N;apply Pn.out));refine wk (tw @m0 (tw @m1 (tw @m5 (tw @m31 (tw @m32 (tw @m33 (tw @m9 (tw @m10 (tw @ra (tw @rb @K2)))))))))) ?_;(repeat(refine Pn.mk ?_;intro N hN))))
    refine iW ?_ ?_ bD (⟨_,hj,put _ _ _ NP (sd @Nat.zero_add) (fun k hk _=>by
     have gF:=P7 k _ hk
     simp only[go_sem, ↓reduceIte,Nat.reduceEqDiff,Nat.reduceAdd,Nat.reduceSub,Nat.reduceLeDiff,reduceCtorEq,gF])⟩)
    all_goals simp only[go_sem, ↓reduceIte,Nat.reduceEqDiff,Nat.reduceAdd,Nat.reduceSub,Nat.reduceLeDiff,reduceCtorEq,m0,m1,m5,m31,m32,m33,mt,wq,Aq]
   ·have uj:¬(L b.a:Int)<(L b.b:Int):=ab
    have NT:¬(L b.b:Int)<(L b.a:Int):=ab
    have Is:=wI heq
    rw[Is]at kq
    (try((repeat(revert hN;revert N;apply Pn.out));refine wk (tw @m0 (tw @m1 (tw @m5 (tw @m31 (tw @m32 (tw @m33 (tw @m9 (tw @m10 (tw @ra (tw @rb (tw @uj @NT))))))))))) ?_;(repeat(refine Pn.mk ?_;intro N hN))))
    refine iW ?_ ?_ bD (⟨_,kq▸Hw,mG.frame fun k hk=>rfl⟩)
    all_goals simp only[go_sem, ↓reduceIte,Nat.reduceEqDiff,Nat.reduceAdd,Nat.reduceSub,Nat.reduceLeDiff,reduceCtorEq,m0,m1,m5,m31,m32,m33,mt]
   ·have K2:(L b.b:Int)<(L b.a:Int):=ab
    have uj:¬(L b.a:Int)<(L b.b:Int):=ab
    have hj:=Hw.join hL b ab
    rw[Nat.max_eq_left ab,Nat.min_eq_right ab,<-kq]at hj
    (try((repeat(revert hN;revert N;apply Pn.out));refine wk (tw @m0 (tw @m1 (tw @m5 (tw @m31 (tw @m32 (tw @m33 (tw @m9 (tw @m10 (tw @ra (tw @rb (tw @K2 @uj))))))))))) ?_;(repeat(refine Pn.mk ?_;intro N hN))))
    refine iW ?_ ?_ bD (⟨_,hj,put _ _ _ QC (sd @Nat.zero_add) (fun k hk _=>by
     have gF:=P7 k _ hk
     simp only[go_sem, ↓reduceIte,Nat.reduceEqDiff,Nat.reduceAdd,Nat.reduceSub,Nat.reduceLeDiff,reduceCtorEq,gF])⟩)
    all_goals simp only[go_sem, ↓reduceIte,Nat.reduceEqDiff,Nat.reduceAdd,Nat.reduceSub,Nat.reduceLeDiff,reduceCtorEq,m0,m1,m5,m31,m32,m33,mt,wq,Aq]
  ·intro N hN
   refine eI ?_ ?_<;>(try((repeat(revert hN;revert N;apply Pn.out));refine wk (tw @b33 (tw @bg0 (tw @b0 (tw @b1 (tw @b5 (tw @uG (tw @uH (tw @hi (tw @nA (tw @ay.eq_1 (tw @gA (tw @gB (tw @fH (tw @fe @tl)))))))))))))) ?_;(repeat(refine Pn.mk ?_;intro N hN))))<;>(try refine eI ?_ ?_)<;>(try((repeat(revert hN;revert N;apply Pn.out));refine wk (tw @b33 (tw @bg0 (tw @b0 (tw @b1 (tw @b5 (tw @uG (tw @uH (tw @hi (tw @nA (tw @ay.eq_1 (tw @gA (tw @gB (tw @fH (tw @fe @tl)))))))))))))) ?_;(repeat(refine Pn.mk ?_;intro N hN))))<;>(try refine eI ?_ ?_)<;>(try((repeat(revert hN;revert N;apply Pn.out));refine wk (tw @b33 (tw @bg0 (tw @b0 (tw @b1 (tw @b5 (tw @uG (tw @uH (tw @hi (tw @nA (tw @ay.eq_1 (tw @gA (tw @gB (tw @fH (tw @fe @tl)))))))))))))) ?_;(repeat(refine Pn.mk ?_;intro N hN))))
   all_goals
    refine .inr (aO _ _ _ _ _ (fun r σ1 hq=>?_) (wc G cnt px L Hw b.a Dq.1 _ (OW.frame fun k hk=>sd @Nn)))
    obtain⟨g1,x1⟩:=σ1
    obtain⟨rfl,xr,Ii⟩:=hq
    (try dsimp only at xr Ii)
    subst xr
    refine hN _ _ ?_
    clear hN N
    (try((repeat(revert hN;revert N;apply Pn.out));refine wk (tw @b33 (tw @bg0 (tw @b0 (tw @b1 (tw @b5 (tw @uG (tw @uH (tw @hi (tw @nA (tw @ay.eq_1 (tw @gA (tw @gB (tw @fH (tw @fe @tl)))))))))))))) ?_;(repeat(refine Pn.mk ?_;intro N hN))))
    refine .inr (aO _ _ _ _ _ (fun r σ1 hq=>?_) (wc G cnt px L Hw b.b Dq.2 _ (OW.frame fun k hk=>sd @Nn)))
    obtain⟨g1,x2⟩:=σ1
    obtain⟨rfl,xr,lz⟩:=hq
    (try dsimp only at xr lz)
    subst xr
    refine hN _ _ ?_
    clear hN N
    (try((repeat(revert hN;revert N;apply Pn.out));refine wk (tw @b33 (tw @bg0 (tw @b0 (tw @b1 (tw @b5 (tw @uG (tw @uH (tw @hi (tw @nA (tw @ay.eq_1 (tw @gA (tw @gB (tw @fH (tw @fe @tl)))))))))))))) ?_;(repeat(refine Pn.mk ?_;intro N hN))))
    exact⟨sd (tw @b33 (tw @bg0 (tw @b0 (tw @b1 (tw @b5 (tw @uG @uH)))))),sd (tw @b33 (tw @bg0 (tw @b0 (tw @b1 (tw @b5 (tw @uG @uH)))))),sd (tw @b33 (tw @bg0 (tw @b0 (tw @b1 (tw @b5 (tw @uG @uH)))))),sd (tw @b33 (tw @bg0 (tw @b0 (tw @b1 (tw @b5 (tw @uG @uH)))))),sd (tw @b33 (tw @bg0 (tw @b0 (tw @b1 (tw @b5 (tw @uG @uH)))))),sd (tw @b33 (tw @bg0 (tw @b0 (tw @b1 (tw @b5 (tw @uG @uH)))))),sd (tw @b33 (tw @bg0 (tw @b0 (tw @b1 (tw @b5 (tw @uG @uH)))))),sd (tw @b33 (tw @bg0 (tw @b0 (tw @b1 (tw @b5 (tw @uG @uH)))))),fun j hj=>by
     have hv:=eK hj
     simp only[go_sem, ↓reduceIte,Nat.reduceEqDiff,Nat.reduceAdd,Nat.reduceSub,Nat.reduceLeDiff,reduceCtorEq,hv],bD⟩
 have oe:i=bs.length:=ab
 subst oe
 rw[List.take_length]at Hw
 have hL:=re bs
 generalize dH bs=L at *
 (try((repeat(revert hN;revert N;apply Pn.out));refine wk (tw @b33 (tw @bg0 (tw @b0 (tw @b1 (tw @b5 (tw @uG (tw @uH (tw @hi @tl)))))))) ?_;(repeat(refine Pn.mk ?_;intro N hN))))
 have l0:jR 0 L=[]:=rfl
 have oS:(none:Option Nat).isSome=false:=rfl
 have oT:∀a:Nat,(some a).isSome=true:=fun _=>rfl
 refine aJ (fun n env st=>∃x:Nat,n=(cnt)-x/\x<=(cnt)/\env 81=.int .i64 (x:Int)/\st.get ⟨168001001,n0+1⟩=some ⟨true,1,kI G cnt cnt⟩/\st.get ⟨168017000,st_b.next+1+1⟩=some ⟨true,mI.Bn,jR x L⟩/\(st_b.next+3<=st.next/\rE st.get G cnt px)/\((x=0/\env 11=.bE)∨∃o:Id,env 11=.own o 0 (leads x L).length/\Hi st.get o (iY x L) st.next)) (cnt) ⟨0,ab,ab,sl (tw @b33 (tw @bg0 (tw @b0 (tw @b1 (tw @b5 (tw @uG (tw @uH @l0))))))),sl (tw @b33 (tw @bg0 (tw @b0 (tw @b1 (tw @b5 (tw @uG (tw @uH @l0))))))),sl (tw @b33 (tw @bg0 (tw @b0 (tw @b1 (tw @b5 (tw @uG (tw @uH @l0))))))),⟨bD,OW.frame fun k hk=>by(have gF:=H3 k 168017000 (st_b.next+1+1) (by decide));simp only[go_sem, ↓reduceIte,Nat.reduceEqDiff,Nat.reduceAdd,Nat.reduceSub,Nat.reduceLeDiff,reduceCtorEq,gF]⟩,.inl ⟨rfl,sd @Nat.zero_add⟩⟩ ?_
 rintro n_c env_c st_c ⟨x,rfl,cle,c81,cg0,cg1,cI0,cI1⟩ cfr
 have vT:=cfr 12 (by kernel_rfl);have HM:=cfr 79 (by kernel_rfl);have HN:=cfr 80 (by kernel_rfl)
 simp only[go_sem, ↓reduceIte,Nat.reduceEqDiff,Nat.reduceAdd,Nat.reduceSub,Nat.reduceLeDiff,reduceCtorEq,b33,bg0,b0,b1,b5,uG,uH,l0]at vT HM HN
 clear cfr
 obtain⟨uk,M3⟩:=cI0
 have KN:∀j v,(G j=(⟨168017000,v⟩:Id))=False:=fun j v=>H3 j _ v (by decide)
 have KJ:∀j v,(G j=(⟨168025002,v⟩:Id))=False:=fun j v=>H3 j _ v (by decide)
 have KL:∀j v,(G j=(⟨168025001,v⟩:Id))=False:=fun j v=>H3 j _ v (by decide)
 have KM:∀j v,(G j=(⟨168026007,v⟩:Id))=False:=fun j v=>H3 j _ v (by decide)
 have KK:∀j v,(G j=(⟨168026008,v⟩:Id))=False:=fun j v=>H3 j _ v (by decide)
 by_cases hx:(x:Int)<(cnt:Int)
 ·have gm:∀{e:Env} {gg:Rows} {nx:Nat},(e 81=.int .i64 (IntKind.i64.wrap ((x:Int)+1)))->(gg ⟨168001001,n0+1⟩=some ⟨true,1,kI G cnt cnt⟩)->(gg ⟨168017000,st_b.next+1+1⟩=some ⟨true,mI.Bn,jR (x+1) L⟩)->(st_b.next+3<=nx/\rE gg G cnt px)->(((x+1)=0/\e 11=.bE)∨∃o:Id,e 11=.own o 0 (leads (x+1) L).length/\Hi gg o (iY (x+1) L) nx)->∃m0,m0<(cnt)-x/\∃x:Nat,m0=(cnt)-x/\x<=(cnt)/\e 81=.int .i64 (x:Int)/\gg ⟨168001001,n0+1⟩=some ⟨true,1,kI G cnt cnt⟩/\gg ⟨168017000,st_b.next+1+1⟩=some ⟨true,mI.Bn,jR x L⟩/\(st_b.next+3<=nx/\rE gg G cnt px)/\((x=0/\e 11=.bE)∨∃o:Id,e 11=.own o 0 (leads x L).length/\Hi gg o (iY x L) nx):=fun x1 x2 x3 x4 x5=>⟨_,ab,x+1,rfl,ab,(by rw[x1,aA ab]),x2,x3,x4,x5⟩
  have MI:x<cnt:=ab
  have gX:=tE (G:=G) MI
  have hlx:L x<cnt:=Nat.lt_of_le_of_lt (hL.le _) MI
  have ra:=M3 _ hlx
  rw[kp (Hw.root hL hlx (hL.idem _))]at ra
  have me:=ja x L
  (try((repeat(revert hN;revert N;apply Pn.out));refine wk (tw @c81 (tw @cg0 (tw @cg1 (tw @vT (tw @HM (tw @HN (tw @hx (tw @gX @tl)))))))) ?_;(repeat(refine Pn.mk ?_;intro N hN))))
  refine .inr (aO _ _ _ _ _ (fun r σ1 hq=>?_) (wc G cnt px L Hw x MI _ (M3.frame fun k hk=>sd @Nat.zero_add)))
  obtain⟨g1,x1⟩:=σ1
  obtain⟨rfl,xr,Ii⟩:=hq
  (try dsimp only at xr Ii)
  subst xr
  refine hN _ _ ?_
  clear hN N
  by_cases hr:L x=x
  ·rw[hr]at ra ⊢
   have mi:=DS hr
   have Pj:(leads (x+1) L).length=(leads x L).length+1:=by rw[fK,if_pos hr];simp
   have MC:=AZ hr
   have Pb:=Am hL hr
   rcases cI1 with⟨rfl,mb⟩|⟨o,mb,cS⟩
   ·have QT:jR 1 L=[[.int .i64 ((0:Nat):Int),.int .i64 ((0:Nat):Int)]]:=MC
    (try((repeat(revert hN;revert N;apply Pn.out));refine wk (tw @c81 (tw @cg0 (tw @cg1 (tw @vT (tw @HM (tw @HN (tw @mb (tw @ra (tw @mi (tw @l0 (tw @oS (tw @oT (tw @Bool.not_false @Bool.not_true))))))))))))) ?_;(repeat(refine Pn.mk ?_;intro N hN))))
    refine gm ?_ ?_ ?_ (by(try dsimp only);exact⟨ab,M3.frame fun k hk=>sd (tw @KN (tw @KJ (tw @KK (tw @KL @KM))))⟩) (.inr ⟨⟨168025002,x1+1+1+1+1⟩,by simp only[go_sem, ↓reduceIte,Nat.reduceEqDiff,Nat.reduceAdd,Nat.reduceSub,Nat.reduceLeDiff,reduceCtorEq,Pj];rfl,by rw[Pb];exact HZ (v':=x1+1+1+1+1+1) (sd @Nat.zero_add) (sd @eN.eq_1) bD bD⟩)
    all_goals simp only[go_sem, ↓reduceIte,Nat.reduceEqDiff,Nat.reduceAdd,Nat.reduceSub,Nat.reduceLeDiff,reduceCtorEq,c81,cg0,cg1,vT,HM,HN,QT]
   ·obtain⟨rows,ug,pZ,jO⟩:=cS.new x
    rw[oD]at pZ
    have Dw:o.site=168025002:=by obtain⟨_,_,_,_,_,_,h,_⟩:=cS;exact h
    have qY:o.bZ<x1:=by obtain⟨_,_,_,_,_,_,_,h⟩:=cS;omega
    have mu:=eK qY
    have NW:=fN (o:=o) Dw (b:=168017000) (v:=st_b.next+1+1) (by decide)
    have Mw:=fN (o:=o) Dw (b:=168001001) (v:=n0+1) (by decide)
    have KO:∀k,(G k=o)=False:=fun k=>by simp only[eq_iff_iff,iff_false];intro h;have h1:=OX k;rw[h,Dw]at h1;cases h1
    have oV:(rows++[[AV.bE]])[(leads x L).length]? =some [.bE]:=by rw[<-pZ];simp
    have tR:∀a:List AV,(rows++[[AV.bE]]).set (leads x L).length a=rows++[a]:=fun a=>by rw[<-pZ];simp
    have e1:(leads x L).length+1<=16777216:=ab
    have e2:((leads x L).length:Int)<(((leads x L).length+1:Nat):Int):=ab
    (try((repeat(revert hN;revert N;apply Pn.out));refine wk (tw @c81 (tw @cg0 (tw @cg1 (tw @vT (tw @HM (tw @HN (tw @mb (tw @ra (tw @mi (tw @ug (tw @pZ (tw @mu (tw @NW (tw @oV (tw @tR (tw @e1 (tw @e2 (tw @oS (tw @oT (tw @Bool.not_false @Bool.not_true)))))))))))))))))))) ?_;(repeat(refine Pn.mk ?_;intro N hN))))
    refine gm ?_ ?_ ?_ (by(try dsimp only);exact⟨ab,M3.frame fun k hk=>sd (tw @KN (tw @KJ (tw @KK (tw @KL (tw @KM @KO)))))⟩) (.inr ⟨⟨168025002,x1+1+1+1+1⟩,sd @Pj,by rw[Pb];exact jO _ _ (x1+1+1+1+1+1) _ ab bD bD (sd @tR) (sd @eN.eq_1) (fun j hj hv=>by
     have q1:=eK (i:=j) (n:=x1) ab
     have q2:=fN hj (b:=168017000) (v:=st_b.next+1+1) (by decide)
     have q3:(j=o)=False:=by simp only[eq_iff_iff,iff_false];intro h;rw[h,Dw]at hj;cases hj
     simp only[go_sem, ↓reduceIte,Nat.reduceEqDiff,Nat.reduceAdd,Nat.reduceSub,Nat.reduceLeDiff,reduceCtorEq,q1,q2,q3])⟩)
    all_goals simp only[go_sem, ↓reduceIte,Nat.reduceEqDiff,Nat.reduceAdd,Nat.reduceSub,Nat.reduceLeDiff,reduceCtorEq,c81,cg0,cg1,vT,HM,HN,MC,mu,NW,Mw]
  ·obtain⟨mi,FZ,dD⟩:=vh hL hr
   obtain⟨NJ,Pb⟩:=An hL hr
   have Pj:(leads (x+1) L).length=(leads x L).length:=by rw[fK,if_neg hr];simp
   have Is:=AY hr
   rcases cI1 with⟨rfl,mb⟩|⟨o,mb,cS⟩
   ·exact absurd (Nat.le_zero.1 (hL.le 0)) hr
   ·obtain⟨rows,id,ug,pZ,Ld,hid,FO,hidv,Qh⟩:=cS.add NJ x
    rw[oD]at pZ
    have Dw:o.site=168025002:=by obtain⟨_,_,_,_,_,_,h,_⟩:=cS;exact h
    have qY:o.bZ<x1:=by obtain⟨_,_,_,_,_,_,_,h⟩:=cS;omega
    have mu:=eK qY
    have u6:=eK (i:=id) (n:=x1) ab
    have nA:(bm L x:Int)<((leads x L).length:Int):=ab
    have NS:=y4 x L (L x)
    have hma:((members x L (L x)).map eN).length=(members x L (L x)).length:=by simp
    have e1:(members x L (L x)).length+1<=16777216:=ab
    have Mx:(o=id)=False:=by simp only[eq_iff_iff,iff_false];rintro rfl;rw[FO]at Dw;cases Dw
    have Ms:(id=o)=False:=by simp only[eq_iff_iff,iff_false];rintro rfl;rw[FO]at Dw;cases Dw
    have NW:=fN (o:=o) Dw (b:=168017000) (v:=st_b.next+1+1) (by decide)
    have Mw:=fN (o:=o) Dw (b:=168001001) (v:=n0+1) (by decide)
    have hiM:=fN (o:=id) FO (b:=168017000) (v:=st_b.next+1+1) (by decide)
    have hiT:=fN (o:=id) FO (b:=168001001) (v:=n0+1) (by decide)
    have KO:∀k,(G k=o)=False:=fun k=>by simp only[eq_iff_iff,iff_false];intro h;have h1:=OX k;rw[h,Dw]at h1;cases h1
    have P8:∀k,(G k=id)=False:=fun k=>by simp only[eq_iff_iff,iff_false];intro h;have h1:=OX k;rw[h,FO]at h1;cases h1
    (try((repeat(revert hN;revert N;apply Pn.out));refine wk (tw @c81 (tw @cg0 (tw @cg1 (tw @vT (tw @HM (tw @HN (tw @mb (tw @ra (tw @mi (tw @FZ (tw @ug (tw @pZ (tw @Ld (tw @hid (tw @mu (tw @u6 (tw @nA (tw @hma (tw @e1 (tw @Mx (tw @Ms (tw @NW (tw @Mw (tw @hiM (tw @hiT (tw @oS (tw @oT (tw @Bool.not_false @Bool.not_true)))))))))))))))))))))))))))) ?_;(repeat(refine Pn.mk ?_;intro N hN))))
    refine gm ?_ ?_ ?_ (by(try dsimp only);exact⟨ab,M3.frame fun k hk=>sd (tw @KN (tw @KJ (tw @KK (tw @KL (tw @KM (tw @KO @P8))))))⟩) (.inr ⟨o,sd (tw @Pj @mb),by rw[Pb];exact Qh _ (x1+1+1) _ ab bD (sd @Nat.zero_add) (sd (tw @mu (tw @u6 (tw @Mx @Ms)))) (fun j hj hv lg=>by
     have q1:=eK (i:=j) (n:=x1) ab
     have q2:=fN hj (b:=168017000) (v:=st_b.next+1+1) (by decide)
     have q3:(j=o)=False:=by simp only[eq_iff_iff,iff_false];intro h;rw[h,Dw]at hj;cases hj
     simp only[go_sem, ↓reduceIte,Nat.reduceEqDiff,Nat.reduceAdd,Nat.reduceSub,Nat.reduceLeDiff,reduceCtorEq,q1,q2,q3,lg])⟩)
    all_goals simp only[go_sem, ↓reduceIte,Nat.reduceEqDiff,Nat.reduceAdd,Nat.reduceSub,Nat.reduceLeDiff,reduceCtorEq,c81,cg0,cg1,vT,HM,HN,Is,mu,u6,NW,Mw,hiM,hiT]
 have QZ:x=cnt:=ab
 rcases cI1 with⟨h0,_⟩|⟨o,mb,rows,ids,ug,hR,_,_,_,_⟩
 ·omega
 have pZ:=hR.len
 rw[oD]at pZ
 (try((repeat(revert hN;revert N;apply Pn.out));refine wk (tw @c81 (tw @cg0 (tw @cg1 (tw @vT (tw @HM (tw @HN (tw @hx (tw @mb @ug)))))))) ?_;(repeat(refine Pn.mk ?_;intro N hN))))
 refine tq (.inl rfl) (by simp only[go_sem, ↓reduceIte,Nat.reduceEqDiff,Nat.reduceAdd,Nat.reduceSub,Nat.reduceLeDiff,reduceCtorEq];rfl) ?_
 rw[pe ug ab (rows':=(eQ cnt L).map xl) (by
  rw[List.drop_zero,List.take_of_length_le ab]
  rw[QZ]at hR;exact Gg 3 hR)]
end Go.Proofs.YtihgaadadaekmaaGreatDoor.V
