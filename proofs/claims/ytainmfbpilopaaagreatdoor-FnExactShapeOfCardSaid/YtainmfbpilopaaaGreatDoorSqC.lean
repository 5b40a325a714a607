/- The laws' helpers of systems: sizes. -/
import Derived.Test.YtainmfbpilopaaaGreatDoorSqB
import Derived.Test.YtainmfbpilopaaaGreatDoorSqA
set_option linter.unusedVariables false
set_option linter.unusedSimpArgs false
set_option maxRecDepth 100000
set_option maxHeartbeats 16000000
namespace Go.Proofs.YtainmfbpilopaaaGreatDoor.V
open Go.RowKit
attribute [local irreducible] dW wpOps fu Call
theorem Eb (x:gn) (g:Rows):dx g 6 [.agg (cU x)]=some [.agg (cU x)]:=by simp[cU,ai,ar,aY,bq,aB]
theorem Ec (x:ft) (g:Rows):dx g 6 [.agg (ck x)]=some [.agg (ck x)]:=by simp[ck,ai,ar,aY,bq,bP]
theorem GA (x:aa) (g:Rows):dx g 6 [.agg (ab x)]=some [.agg (ab x)]:=by simp[ab,ai,ar,aY,aB]
theorem jz {n:Nat} {l:Int} (h:(n:Int)<=l):AF n l=l-n:=if_pos h
theorem jG {n:Nat} {l:Int} (h:¬(n:Int)<=l):AF n l= -1:=if_neg h
def lQ (t:ft):Nat:=t.aZ.size+t.cz.length
def xM (s:ay):Nat:=(s.aI.length+(s.aI.map fun g=>g.aZ.size).sum)+(s.aj.length+(s.aj.map lQ).sum)
def FN (s:ax):Nat:=xM s.aD+s.bH.aj.length
def iy (s:ay):Prop:=(∀g∈s.aI,g.aZ.size<=9223372036854775807)/\∀t∈s.aj,t.aZ.size<=9223372036854775807
theorem Oh (g:gn) (l:Int) (h0:0<=l) (h1:l<=1048576) (hs:g.aZ.size<=9223372036854775807):au Tryz.prog 222 [.agg (cU g),.int .i64 l] (.int .i64 (AF g.aZ.size l)):=by
 refine au.body eI rfl fun hl n0=>?_
 clear hl
 have hw:IntKind.i64.wrap (l-(g.aZ.size:Int))=l-g.aZ.size:=cq ah
 by_cases hf:(g.aZ.size:Int)<=l
 ·have mU:¬l-(g.aZ.size:Int)<0:=ah
  (try((repeat(revert N;apply Pn.out));refine wk (tw @cU.eq_1 (tw @hw @mU)) ?_;(repeat(apply Pn.mk;intro N hN))))
  exact dq (b:=l-(g.aZ.size:Int)) (.inl rfl) (sd @Nat.zero_add) (jz hf).symm
 ·have mU:l-(g.aZ.size:Int)<0:=ah
  (try((repeat(revert N;apply Pn.out));refine wk (tw @cU.eq_1 (tw @hw @mU)) ?_;(repeat(apply Pn.mk;intro N hN))))
  exact dq (b:=-1) (.inl rfl) (sd @Nat.zero_add) (jG hf).symm
theorem Oi (xs:List Int) (l:Int) (h0:0<=l) (h1:l<=1048576):au Tryz.prog 260 [.sl (xs.map aC),.int .i64 l] (.int .i64 (AF xs.length l)):=by
 have h:=Ol (show nU Tryz.prog 260=some (Oj 260) by kernel_rfl) (xs.map aC) l h0 h1
 rwa [List.length_map]at h
theorem Oo (t:ft) (l:Int) (h0:0<=l) (h1:l<=1048576) (hs:t.aZ.size<=9223372036854775807):au Tryz.prog 223 [.agg (ck t),.int .i64 l] (.int .i64 (AF (lQ t) l)):=by
 refine au.body eI rfl fun hl n0=>?_
 clear hl
 have hw:IntKind.i64.wrap (l-(t.aZ.size:Int))=l-t.aZ.size:=cq ah
 by_cases hf:(t.aZ.size:Int)<=l
 ·have mU:¬l-(t.aZ.size:Int)<0:=ah
  have hc:=Oi t.cz (l-t.aZ.size) ah ah
  by_cases hg:(t.cz.length:Int)<=l-t.aZ.size
  ·rw[jz hg]at hc
   have OS:¬l-(t.aZ.size:Int)-(t.cz.length:Int)<0:=ah
   (have zF:=tw @ck.eq_1 (tw @hw (tw @mU @OS));(repeat(first|((repeat(revert N;apply Pn.out));refine wk zF ?_;(repeat(apply Pn.mk;intro N hN)))|((try apply Or.inl);refine⟨_,au.x (hc) (sd zF),?_⟩;apply hN;clear hN N)));try clear zF)
   exact dq (b:=l-(t.aZ.size:Int)-(t.cz.length:Int)) (.inl rfl) (sd @Nat.zero_add) (by rw[jz (by unfold lQ;omega)];unfold lQ;omega)
  ·rw[jG hg]at hc
   (have zF:=tw @ck.eq_1 (tw @hw @mU);(repeat(first|((repeat(revert N;apply Pn.out));refine wk zF ?_;(repeat(apply Pn.mk;intro N hN)))|((try apply Or.inl);refine⟨_,au.x (hc) (sd zF),?_⟩;apply hN;clear hN N)));try clear zF)
   exact dq (b:=-1) (.inl rfl) (sd @Nat.zero_add) (jG (by unfold lQ;omega)).symm
 ·have mU:l-(t.aZ.size:Int)<0:=ah
  (try((repeat(revert N;apply Pn.out));refine wk (tw @ck.eq_1 (tw @hw @mU)) ?_;(repeat(apply Pn.mk;intro N hN))))
  exact dq (b:=-1) (.inl rfl) (sd @Nat.zero_add) (jG (by unfold lQ;omega)).symm
theorem KY (xs:List gn) (l:Int) (h0:0<=l) (h1:l<=1048576) (hs:∀g∈xs,g.aZ.size<=9223372036854775807):au Tryz.prog 175 [.sl (xs.map cU),.int .i64 l] (.int .i64 (AF (xs.length+(xs.map fun g=>g.aZ.size).sum) l)):=
 On (fun g:gn=>g.aZ.size) (show nU Tryz.prog 175=some (Om 175 222 2) by kernel_rfl) (fun _=>rfl) Eb xs l h0 h1 fun x hx l a b=>Oh x l a b (hs x hx)
theorem KZ (xs:List ft) (l:Int) (h0:0<=l) (h1:l<=1048576) (hs:∀t∈xs,t.aZ.size<=9223372036854775807):au Tryz.prog 176 [.sl (xs.map ck),.int .i64 l] (.int .i64 (AF (xs.length+(xs.map lQ).sum) l)):=
 On lQ (show nU Tryz.prog 176=some (Om 176 223 2) by kernel_rfl) (fun _=>rfl) Ec xs l h0 h1 fun x hx l a b=>Oo x l a b (hs x hx)
theorem HI (xs:List aa) (l:Int) (h0:0<=l) (h1:l<=1048576):au Tryz.prog 177 [.sl (xs.map ab),.int .i64 l] (.int .i64 (AF xs.length l)):=by
 have h:=Ol (show nU Tryz.prog 177=some (Oj 177) by kernel_rfl) (xs.map ab) l h0 h1
 rwa [List.length_map]at h
theorem FB (s:ay) (l:Int) (h0:0<=l) (h1:l<=1048576) (hs:iy s):au Tryz.prog 107 [.agg (ae s),.int .i64 l] (.int .i64 (AF (xM s) l)):=by
 refine au.body eI rfl fun hl n0=>?_
 clear hl
 have ha:=KY s.aI l h0 h1 hs.1
 have he:xM s=(s.aI.length+(s.aI.map fun g=>g.aZ.size).sum)+(s.aj.length+(s.aj.map lQ).sum):=rfl
 by_cases hf:((s.aI.length+(s.aI.map fun g=>g.aZ.size).sum:Nat):Int)<=l
 ·rw[jz hf]at ha
  obtain⟨A,hA⟩:∃A:Int,A=l-((s.aI.length+(s.aI.map fun g=>g.aZ.size).sum:Nat):Int):=⟨_,rfl⟩
  rw[<-hA]at ha
  have mU:¬A<0:=ah
  have hb:=KZ s.aj A ah ah hs.2
  by_cases hg:((s.aj.length+(s.aj.map lQ).sum:Nat):Int)<=A
  ·rw[jz hg]at hb
   obtain⟨B,hB⟩:∃B:Int,B=A-((s.aj.length+(s.aj.map lQ).sum:Nat):Int):=⟨_,rfl⟩
   rw[<-hB]at hb
   have OS:¬B<0:=ah
   (have zF:=tw @ae.eq_1 (tw @mU @OS);(repeat(first|((repeat(revert N;apply Pn.out));refine wk zF ?_;(repeat(apply Pn.mk;intro N hN)))|((try apply Or.inl);refine⟨_,au.x (ha) (sd zF),?_⟩;apply hN;clear hN N)|((try apply Or.inl);refine⟨_,au.x (hb) (sd zF),?_⟩;apply hN;clear hN N)));try clear zF)
   exact dq (b:=B) (.inl rfl) (sd @Nat.zero_add) (by rw[jz ah];omega)
  ·rw[jG hg]at hb
   (repeat(first|((repeat(revert N;apply Pn.out));refine wk (tw @ae.eq_1 @mU) ?_;(repeat(apply Pn.mk;intro N hN)))|((try apply Or.inl);refine⟨_,au.x (ha) (sd (tw @ae.eq_1 @mU)),?_⟩;apply hN;clear hN N)|((try apply Or.inl);refine⟨_,au.x (hb) (sd (tw @ae.eq_1 @mU)),?_⟩;apply hN;clear hN N)))
   exact dq (b:=-1) (.inl rfl) (sd @Nat.zero_add) (jG ah).symm
 ·rw[jG hf]at ha
  (repeat(first|((repeat(revert N;apply Pn.out));refine wk @ae.eq_1 ?_;(repeat(apply Pn.mk;intro N hN)))|((try apply Or.inl);refine⟨_,au.x (ha) (sd @ae.eq_1),?_⟩;apply hN;clear hN N)))
  exact dq (b:=-1) (.inl rfl) (sd @Nat.zero_add) (jG ah).symm
theorem C1 (a:iS) (l:Int) (h0:0<=l) (h1:l<=1048576):au Tryz.prog 108 [.agg (eD a),.int .i64 l] (.int .i64 (AF a.aj.length l)):=by
 refine au.body eI rfl fun hl n0=>?_
 clear hl
 have ha:=HI a.aj l h0 h1
 by_cases hf:(a.aj.length:Int)<=l
 ·rw[jz hf]at ha
  have mU:¬l-(a.aj.length:Int)<0:=ah
  (repeat(first|((repeat(revert N;apply Pn.out));refine wk (tw @eD.eq_1 @mU) ?_;(repeat(apply Pn.mk;intro N hN)))|((try apply Or.inl);refine⟨_,au.x (ha) (sd (tw @eD.eq_1 @mU)),?_⟩;apply hN;clear hN N)))
  exact dq (b:=l-(a.aj.length:Int)) (.inl rfl) (sd @Nat.zero_add) (jz hf).symm
 ·rw[jG hf]at ha
  (repeat(first|((repeat(revert N;apply Pn.out));refine wk @eD.eq_1 ?_;(repeat(apply Pn.mk;intro N hN)))|((try apply Or.inl);refine⟨_,au.x (ha) (sd @eD.eq_1),?_⟩;apply hN;clear hN N)))
  exact dq (b:=-1) (.inl rfl) (sd @Nat.zero_add) (jG hf).symm
theorem HJ (s:ax) (l:Int) (h0:0<=l) (h1:l<=1048576) (hs:iy s.aD):au Tryz.prog 39 [.agg (aM s),.int .i64 l] (.int .i64 (AF (FN s) l)):=by
 refine au.body eI rfl fun hl n0=>?_
 clear hl
 have ha:=FB s.aD l h0 h1 hs
 rw[ae]at ha
 have he:FN s=xM s.aD+s.bH.aj.length:=rfl
 by_cases hf:(xM s.aD:Int)<=l
 ·rw[jz hf]at ha
  have mU:¬l-(xM s.aD:Int)<0:=ah
  have hb:=C1 s.bH (l-xM s.aD) ah ah
  rw[eD]at hb
  by_cases hg:(s.bH.aj.length:Int)<=l-xM s.aD
  ·rw[jz hg]at hb
   have OS:¬l-(xM s.aD:Int)-(s.bH.aj.length:Int)<0:=ah
   (have zF:=tw @aM.eq_1 (tw @mU @OS);(repeat(first|((repeat(revert N;apply Pn.out));refine wk zF ?_;(repeat(apply Pn.mk;intro N hN)))|((try apply Or.inl);refine⟨_,au.x (ha) (sd zF),?_⟩;apply hN;clear hN N)|((try apply Or.inl);refine⟨_,au.x (hb) (sd zF),?_⟩;apply hN;clear hN N)));try clear zF)
   exact dq (b:=l-(xM s.aD:Int)-(s.bH.aj.length:Int)) (.inl rfl) (sd @Nat.zero_add) (by rw[jz ah];omega)
  ·rw[jG hg]at hb
   (repeat(first|((repeat(revert N;apply Pn.out));refine wk (tw @aM.eq_1 @mU) ?_;(repeat(apply Pn.mk;intro N hN)))|((try apply Or.inl);refine⟨_,au.x (ha) (sd (tw @aM.eq_1 @mU)),?_⟩;apply hN;clear hN N)|((try apply Or.inl);refine⟨_,au.x (hb) (sd (tw @aM.eq_1 @mU)),?_⟩;apply hN;clear hN N)))
   exact dq (b:=-1) (.inl rfl) (sd @Nat.zero_add) (jG ah).symm
 ·rw[jG hf]at ha
  (repeat(first|((repeat(revert N;apply Pn.out));refine wk @aM.eq_1 ?_;(repeat(apply Pn.mk;intro N hN)))|((try apply Or.inl);refine⟨_,au.x (ha) (sd @aM.eq_1),?_⟩;apply hN;clear hN N)))
  exact dq (b:=-1) (.inl rfl) (sd @Nat.zero_add) (jG ah).symm
def rO (s:ay) (i:Nat):gn:=s.aI.getD i ⟨⟨#[]⟩,0⟩
def qN (s:ay) (i:Nat):ft:=s.aj.getD i CK
def F7 (s:ay) (i:Nat):Prop:=kH (rO s i).aZ=true/\iE (rO s i).eR 1 4=true/\∀j,j<i->(rO s j).aZ≠(rO s i).aZ
def Dx (s:ay) (i:Nat):Prop:=kH (qN s i).aZ=true/\(qN s i).cz.length=4/\(∀j,j<i->(qN s j).aZ≠(qN s i).aZ)/\∀g∈(qN s i).cz,iE g 0 s.aI.length=true
structure iz (s:ay):Prop where
 wS:s.aI.length<=200
 some:1<=s.aj.length
 xo:s.aj.length<=160
 Yr:∀i,i<s.aI.length->F7 s i
 tok:∀i,i<s.aj.length->Dx s i
noncomputable def uH (s:ay):Bool:=@decide (iz s) (Classical.propDecidable _)
theorem qL {s:ay}:uH s=true↔iz s:=by simp[uH]
theorem gr {s:ay} (h:¬iz s):false=uH s:=by simp[uH,h]
theorem Fv {s:ay} (h:iz s):true=uH s:=by simp[uH,h]
theorem C3 {s:ay} {i:Nat} (h:i<s.aj.length):(s.aj.map ck)[i]? =some (ck (qN s i)):=getD_map ck h
theorem Ci {s:ay} {i:Nat} (h:i<s.aI.length):(s.aI.map cU)[i]? =some (cU (rO s i)):=getD_map cU h
theorem iz.form {s:ay} (h:iz s):jI s:=by
 have key:∀t∈s.aj,∃i,i<s.aj.length/\t=qN s i:=fun t ht=>by
  obtain⟨i,hi,rfl⟩:=List.getElem_of_mem ht
  exact⟨i,hi,by simp[qN,List.getD_eq_getElem?_getD,hi]⟩
 refine⟨fun t ht=>?_,fun t ht g hg=>?_⟩
 ·obtain⟨i,hi,rfl⟩:=key t ht
  exact(h.tok i hi).2.1
 ·obtain⟨i,hi,rfl⟩:=key t ht
  exact ej ((h.tok i hi).2.2.2 g hg)
def eh (l:List ByteArray):List (List AV):=l.map fun n=>[.str n,.bool true]
abbrev mS:MK:=⟨false,[.tS]⟩
theorem BL (n:ByteArray):∀(l:List ByteArray) (i:Nat),∃r,gO mS [.str n] (eh l) i=some r/\((r=none/\n∉l)∨∃j,r=some (i+j)/\n∈l/\(eh l)[j]? =some [.str n,.bool true])
 |[],i=>⟨none,rfl,.inl ⟨rfl,by simp⟩⟩
 |m::l,i=>by
  obtain⟨r,h1,h2⟩:=BL n l (i+1)
  by_cases h:n=m
  ·subst h
   exact⟨some i,by simp[eh,gO,eK,fj,MK.ks],.inr ⟨0,rfl,by simp,rfl⟩⟩
  ·refine⟨r,?_,?_⟩
   ·unfold eh at h1 ⊢
    simp only[List.map_cons,gO,MK.ks,List.length_cons,List.length_nil,Nat.zero_add,List.take_succ_cons,List.take_zero,eK,fj,h,decide_false,Bool.and_true]
    exact h1
   ·rcases h2 with⟨rfl,h2⟩|⟨j,rfl,h2,h3⟩
    ·exact .inl ⟨rfl,by simp[h,h2]⟩
    ·exact .inr ⟨j+1,by congr 1;omega,by simp[h2],by simpa[eh]using h3⟩
theorem zK (n:ByteArray) (l:List ByteArray):(n∉l/\gH mS (.str n) (eh l)=some none)∨∃j,n∈l/\gH mS (.str n) (eh l)=some (some j)/\(eh l)[j]? =some [.str n,.bool true]:=by
 obtain⟨r,h1,h2⟩:=BL n l 0
 have e:gH mS (.str n) (eh l)=some r:=by
  unfold gH
  rw[if_pos ⟨rfl,rfl,rfl⟩];exact h1
 rcases h2 with⟨rfl,h2⟩|⟨j,rfl,h2,h3⟩
 ·exact .inl ⟨h2,e⟩
 ·exact .inr ⟨j,h2,by rw[e,Nat.zero_add],h3⟩
theorem UJ (s:ay) (g:Int):au Tryz.prog 126 [.int .i64 g,.dQ (ae s)] (.bool (!iE g 0 s.aI.length)):=by
 refine au.body eI rfl fun hl n0=>?_
 clear hl
 have h:=ly g 0 s.aI.length
 (repeat(first|((repeat(revert N;apply Pn.out));refine wk @ae.eq_1 ?_;(repeat(apply Pn.mk;intro N hN)))|((try apply Or.inl);refine⟨_,au.x (h) (sd @ae.eq_1),?_⟩;apply hN;clear hN N)))
 exact bQ (b:= !iE g 0 s.aI.length) (.inl rfl) (sd @Nat.zero_add) rfl
theorem Ih:V3 aC (fun c=>.int .i64 c) 1 false:=⟨fun _=>rfl,fun _=>rfl,fun x g=>by rw[ai,aB,ar];rfl⟩
theorem QW (s:ay) (l:List Int) (hl:l.length<=1048576):au Tryz.prog 123 [.sl (l.map aC),.fn 126 [.dQ (ae s)]] (.bool (l.any fun g=> !iE g 0 s.aI.length)):=
 l9 Ih (show nU Tryz.prog 123=some (Cl 123 188) by kernel_rfl)
  (show nU Tryz.prog 188=some (vM 188 1 false) by kernel_rfl) l hl _ _ _ rfl (fun g=>by rw[ai,aP,ar];rfl) (fun x _=>UJ s x) fun g=>by rw[ai,aP,ar];rfl
theorem zm {α:Type} (f:Nat->α) (n k:Nat) (x:α):x∉(List.range k).map f↔∀j,j<k->f j≠x:=by
 constructor
 ·intro h j hj he
  exact h (List.mem_map.2 ⟨j,List.mem_range.2 hj,he⟩)
 ·intro h hm
  obtain⟨j,hj,he⟩:=List.mem_map.1 hm
  exact h j (List.mem_range.1 hj) he
theorem Gb (s:ay) (hn:iy s) (hg:s.aI.length<=1048576) (ht:s.aj.length<=1048576) (hs:∀t∈s.aj,t.cz.length<=1048576):au Tryz.prog 68 [.agg (ae s)] (.bool (uH s)):=by
 refine au.body eI rfl fun hl n0=>?_
 clear hl
 have W8:∀i,i<s.aI.length->(rO s i).aZ.size<=9223372036854775807:=fun i hi=>hn.1 _ (by simp[rO,List.getD_eq_getElem?_getD,hi])
 have Xs:∀i,i<s.aj.length->(qN s i).aZ.size<=9223372036854775807:=fun i hi=>hn.2 _ (by simp[qN,List.getD_eq_getElem?_getD,hi])
 have Aw:∀i,i<s.aj.length->(qN s i).cz.length<=1048576:=fun i hi=>hs _ (by simp[qN,List.getD_eq_getElem?_getD,hi])
 have hw:=ly (s.aj.length:Int) 1 160
 by_cases h1:(200:Int)<(s.aI.length:Int)
 ·(try((repeat(revert N;apply Pn.out));refine wk (tw @ae.eq_1 @h1) ?_;(repeat(apply Pn.mk;intro N hN))))
  exact bQ (b:=false) (.inl rfl) (sd @Nat.zero_add) (gr fun h=>by have:=h.wS;omega)
 by_cases h2:iE (s.aj.length:Int) 1 160=true
 ·have FT:=ej h2
  rw[h2]at hw
  (repeat(first|((repeat(revert N;apply Pn.out));refine wk (tw @ae.eq_1 @h1) ?_;(repeat(apply Pn.mk;intro N hN)))|((try apply Or.inl);refine⟨_,au.x (hw) (sd (tw @ae.eq_1 @h1)),?_⟩;apply hN;clear hN N)))
  refine bf (fun n env st=>∃k:Nat,n=(s.aI.length)-k/\k<=(s.aI.length)/\env 24=.int .i64 (k:Int)/\st.get ⟨68000000,n0⟩=some ⟨true,2,[ae s]⟩/\st.get ⟨68003000,n0+1+1⟩=some ⟨true,mS.lP,eh ((List.range k).map fun i=>(rO s i).aZ)⟩/\(∀j:Nat,j<k->F7 s j)) (s.aI.length) ⟨0,ah,ah,by(try simp only[go_sem, ↓reduceIte,Nat.reduceEqDiff,Nat.reduceAdd,Nat.reduceSub,Nat.reduceLeDiff,reduceCtorEq,ae,List.range_zero,List.map_nil,eh]);try rfl,by(try simp only[go_sem, ↓reduceIte,Nat.reduceEqDiff,Nat.reduceAdd,Nat.reduceSub,Nat.reduceLeDiff,reduceCtorEq,ae,List.range_zero,List.map_nil,eh]);try rfl,by(try simp only[go_sem, ↓reduceIte,Nat.reduceEqDiff,Nat.reduceAdd,Nat.reduceSub,Nat.reduceLeDiff,reduceCtorEq,ae,List.range_zero,List.map_nil,eh]);try rfl,fun _ h=>absurd h (Nat.not_lt_zero _)⟩ ?_
  rintro n_a env_a st_a ⟨k,rfl,ale,a24,ag0,ag1,nT⟩ dX
  have a1:=dX 1 (by kernel_rfl);have a3:=dX 3 (by kernel_rfl);have a22:=dX 22 (by kernel_rfl);have a23:=dX 23 (by kernel_rfl)
  simp only[go_sem, ↓reduceIte,Nat.reduceEqDiff,Nat.reduceAdd,Nat.reduceSub,Nat.reduceLeDiff,reduceCtorEq,ae,List.range_zero,List.map_nil,eh]at a1 a3 a22 a23
  clear dX
  by_cases hk:(k:Int)<(s.aI.length:Int)
  ·have cV:∀{e:Env} {gg:Rows},(e 24=.int .i64 (IntKind.i64.wrap ((k:Int)+1)))->(gg ⟨68000000,n0⟩=some ⟨true,2,[ae s]⟩)->(gg ⟨68003000,n0+1+1⟩=some ⟨true,mS.lP,eh ((List.range (k+1)).map fun i=>(rO s i).aZ)⟩)->(F7 s k)->∃m0,m0<(s.aI.length)-k/\∃k:Nat,m0=(s.aI.length)-k/\k<=(s.aI.length)/\e 24=.int .i64 (k:Int)/\gg ⟨68000000,n0⟩=some ⟨true,2,[ae s]⟩/\gg ⟨68003000,n0+1+1⟩=some ⟨true,mS.lP,eh ((List.range k).map fun i=>(rO s i).aZ)⟩/\(∀j:Nat,j<k->F7 s j):=fun x1 x2 x3 x4=>⟨_,ah,k+1,rfl,ah,(by rw[x1,aE ah]),x2,x3,(all_succ nT x4)⟩
   have fC:k<s.aI.length:=ah
   have fa:=Ci fC
   have sM:=IF (rO s k).aZ (W8 k fC)
   have O5:=ly (rO s k).eR 1 4
   have Ew:=zK (rO s k).aZ ((List.range k).map fun i=>(rO s i).aZ)
   rw[zm _ k]at Ew
   have lS:(¬F7 s k)->¬iz s:=fun h hp=>h (hp.Yr k fC)
   generalize qW:rO s k=gl at *
   cases hb:kH gl.aZ
   ·rw[hb]at sM
    (have zF:=tw @a24 (tw @ag0 (tw @ag1 (tw @a1 (tw @a3 (tw @a22 (tw @a23 (tw @hk (tw @fa (tw @cU.eq_1 @ae.eq_1)))))))));(repeat(first|((repeat(revert N;apply Pn.out));refine wk zF ?_;(repeat(apply Pn.mk;intro N hN)))|((try apply Or.inl);refine⟨_,au.x (sM) (sd zF),?_⟩;apply hN;clear hN N)));try clear zF)
    exact bQ (b:=false) (.inl rfl) (sd @Nat.zero_add) (gr (lS fun h=>by rw[F7,qW,hb]at h;cases h.1))
   ·rw[hb]at sM
    rcases Ew with⟨GJ,lY⟩|⟨j,gh,lY,fm⟩
    ·cases dZ:iE gl.eR 1 4
     ·rw[dZ]at O5
      (have zF:=tw @a24 (tw @ag0 (tw @ag1 (tw @a1 (tw @a3 (tw @a22 (tw @a23 (tw @hk (tw @fa (tw @lY (tw @cU.eq_1 @ae.eq_1))))))))));(repeat(first|((repeat(revert N;apply Pn.out));refine wk zF ?_;(repeat(apply Pn.mk;intro N hN)))|((try apply Or.inl);refine⟨_,au.x (sM) (sd zF),?_⟩;apply hN;clear hN N)|((try apply Or.inl);refine⟨_,au.x (O5) (sd zF),?_⟩;apply hN;clear hN N)));try clear zF)
      exact bQ (b:=false) (.inl rfl) (sd @Nat.zero_add) (gr (lS fun h=>by rw[F7,qW,dZ]at h;cases h.2.1))
     ·rw[dZ]at O5
      have qZ:eh ((List.range k).map fun i=>(rO s i).aZ)++[[.str gl.aZ,.bool true]]=eh (List.map (fun i=>(rO s i).aZ) (List.range k++[k])):=by simp[eh,qW]
      (have zF:=tw @a24 (tw @ag0 (tw @ag1 (tw @a1 (tw @a3 (tw @a22 (tw @a23 (tw @hk (tw @fa (tw @lY (tw @cU.eq_1 @ae.eq_1))))))))));(repeat(first|((repeat(revert N;apply Pn.out));refine wk zF ?_;(repeat(apply Pn.mk;intro N hN)))|((try apply Or.inl);refine⟨_,au.x (sM) (sd zF),?_⟩;apply hN;clear hN N)|((try apply Or.inl);refine⟨_,au.x (O5) (sd zF),?_⟩;apply hN;clear hN N)));try clear zF)
      refine cV ?_ ?_ ?_ (⟨by rw[qW];exact hb,by rw[qW];exact dZ,fun j hj=>by rw[qW];exact GJ j hj⟩)
      all_goals simp only[go_sem, ↓reduceIte,Nat.reduceEqDiff,Nat.reduceAdd,Nat.reduceSub,Nat.reduceLeDiff,reduceCtorEq,a24,ag0,ag1,a1,a3,a22,a23,lY,qZ]
    ·(have zF:=tw @a24 (tw @ag0 (tw @ag1 (tw @a1 (tw @a3 (tw @a22 (tw @a23 (tw @hk (tw @fa (tw @lY (tw @fm (tw @cU.eq_1 @ae.eq_1)))))))))));(repeat(first|((repeat(revert N;apply Pn.out));refine wk zF ?_;(repeat(apply Pn.mk;intro N hN)))|((try apply Or.inl);refine⟨_,au.x (sM) (sd zF),?_⟩;apply hN;clear hN N)));try clear zF)
     exact bQ (b:=false) (.inl rfl) (sd @Nat.zero_add) (gr (lS fun h=>by
      rw[F7,qW]at h
      obtain⟨i,hi,he⟩:=List.mem_map.1 gh
      exact h.2.2 i (List.mem_range.1 hi) he))
  ·have lN:k=s.aI.length:=ah
   (try((repeat(revert N;apply Pn.out));refine wk (tw @a24 (tw @ag0 (tw @ag1 (tw @a1 (tw @a3 (tw @a22 (tw @a23 (tw @hk @ae.eq_1)))))))) ?_;(repeat(apply Pn.mk;intro N hN))))
   refine bf (fun n env st=>∃j:Nat,n=(s.aj.length)-j/\j<=(s.aj.length)/\env 52=.int .i64 (j:Int)/\st.get ⟨68000000,n0⟩=some ⟨true,2,[ae s]⟩/\st.get ⟨68011000,st_a.next+1⟩=some ⟨true,mS.lP,eh ((List.range j).map fun i=>(qN s i).aZ)⟩/\(∀i:Nat,i<j->Dx s i)/\(st_a.next<st.next)) (s.aj.length) ⟨0,ah,ah,by(try simp only[go_sem, ↓reduceIte,Nat.reduceEqDiff,Nat.reduceAdd,Nat.reduceSub,Nat.reduceLeDiff,reduceCtorEq,a24,ag0,ag1,a1,a3,a22,a23,ae,List.range_zero,List.map_nil,eh]);try rfl,by(try simp only[go_sem, ↓reduceIte,Nat.reduceEqDiff,Nat.reduceAdd,Nat.reduceSub,Nat.reduceLeDiff,reduceCtorEq,a24,ag0,ag1,a1,a3,a22,a23,ae,List.range_zero,List.map_nil,eh]);try rfl,by(try simp only[go_sem, ↓reduceIte,Nat.reduceEqDiff,Nat.reduceAdd,Nat.reduceSub,Nat.reduceLeDiff,reduceCtorEq,a24,ag0,ag1,a1,a3,a22,a23,ae,List.range_zero,List.map_nil,eh]);try rfl,fun _ h=>absurd h (Nat.not_lt_zero _),bc⟩ ?_
   rintro n_b env_b st_b ⟨j,rfl,ble,b52,bg0,bg1,bA0,bI0⟩ fh
   have b1:=fh 1 (by kernel_rfl);have b6:=fh 6 (by kernel_rfl);have Ge:=fh 50 (by kernel_rfl);have Gf:=fh 51 (by kernel_rfl)
   simp only[go_sem, ↓reduceIte,Nat.reduceEqDiff,Nat.reduceAdd,Nat.reduceSub,Nat.reduceLeDiff,reduceCtorEq,a24,ag0,ag1,a1,a3,a22,a23,ae,List.range_zero,List.map_nil,eh]at b1 b6 Ge Gf
   clear fh
   by_cases hj:(j:Int)<(s.aj.length:Int)
   ·have fX:∀{e:Env} {gg:Rows} {nx:Nat},(e 52=.int .i64 (IntKind.i64.wrap ((j:Int)+1)))->(gg ⟨68000000,n0⟩=some ⟨true,2,[ae s]⟩)->(gg ⟨68011000,st_a.next+1⟩=some ⟨true,mS.lP,eh ((List.range (j+1)).map fun i=>(qN s i).aZ)⟩)->(Dx s j)->(st_a.next<nx)->∃m0,m0<(s.aj.length)-j/\∃j:Nat,m0=(s.aj.length)-j/\j<=(s.aj.length)/\e 52=.int .i64 (j:Int)/\gg ⟨68000000,n0⟩=some ⟨true,2,[ae s]⟩/\gg ⟨68011000,st_a.next+1⟩=some ⟨true,mS.lP,eh ((List.range j).map fun i=>(qN s i).aZ)⟩/\(∀i:Nat,i<j->Dx s i)/\(st_a.next<nx):=fun x1 x2 x3 x4 x5=>⟨_,ah,j+1,rfl,ah,(by rw[x1,aE ah]),x2,x3,(all_succ bA0 x4),x5⟩
    have iN:j<s.aj.length:=ah
    have nu:=C3 iN
    have sM:=IF (qN s j).aZ (Xs j iN)
    have Ub:=QW s (qN s j).cz (Aw j iN)
    have Ew:=zK (qN s j).aZ ((List.range j).map fun i=>(qN s i).aZ)
    rw[zm _ j]at Ew
    have lS:(¬Dx s j)->¬iz s:=fun h hp=>h (hp.tok j iN)
    have gM:(⟨68011000,st_a.next+1⟩:Id)≠⟨68000000,n0⟩:=by simp
    generalize htd:qN s j=tl at *
    cases hb:kH tl.aZ
    ·rw[hb]at sM
     (have zF:=tw @b52 (tw @bg0 (tw @bg1 (tw @b1 (tw @b6 (tw @Ge (tw @Gf (tw @hj (tw @nu (tw @ck.eq_1 @ae.eq_1)))))))));(repeat(first|((repeat(revert N;apply Pn.out));refine wk zF ?_;(repeat(apply Pn.mk;intro N hN)))|((try apply Or.inl);refine⟨_,au.x (sM) (sd zF),?_⟩;apply hN;clear hN N)));try clear zF)
     exact bQ (b:=false) (.inl rfl) (sd @Nat.zero_add) (gr (lS fun h=>by rw[Dx,htd,hb]at h;cases h.1))
    ·rw[hb]at sM
     rcases Ew with⟨GJ,lY⟩|⟨i,gh,lY,fm⟩
     ·by_cases h4:(tl.cz.length:Int)=4
      ·have Cj:decide ((tl.cz.length:Int)=4)=true:=decide_eq_true h4
       cases hany:tl.cz.any fun g=> !iE g 0 s.aI.length
       ·rw[hany]at Ub
        have qZ:eh ((List.range j).map fun i=>(qN s i).aZ)++[[.str tl.aZ,.bool true]]=eh (List.map (fun i=>(qN s i).aZ) (List.range j++[j])):=by simp[eh,htd]
        (have zF:=tw @b52 (tw @bg0 (tw @bg1 (tw @b1 (tw @b6 (tw @Ge (tw @Gf (tw @hj (tw @nu (tw @lY (tw @Cj (tw @ck.eq_1 @ae.eq_1)))))))))));(repeat(first|((repeat(revert N;apply Pn.out));refine wk zF ?_;(repeat(apply Pn.mk;intro N hN)))|((try apply Or.inl);refine⟨_,au.x (sM) (sd zF),?_⟩;apply hN;clear hN N)|((try apply Or.inl);refine⟨_,au.x (Ub) (sd zF),?_⟩;apply hN;clear hN N)));try clear zF)
        refine fX ?_ ?_ ?_ (⟨by rw[htd];exact hb,by rw[htd];omega,fun i hi=>(by rw[htd];exact GJ i hi),fun g hg=>by rw[htd]at hg;have:=List.any_eq_false.1 hany g hg;simpa using this⟩) bc
        all_goals simp only[go_sem, ↓reduceIte,Nat.reduceEqDiff,Nat.reduceAdd,Nat.reduceSub,Nat.reduceLeDiff,reduceCtorEq,b52,bg0,bg1,b1,b6,Ge,Gf,lY,qZ]
       ·rw[hany]at Ub
        (have zF:=tw @b52 (tw @bg0 (tw @bg1 (tw @b1 (tw @b6 (tw @Ge (tw @Gf (tw @hj (tw @nu (tw @lY (tw @Cj (tw @ck.eq_1 @ae.eq_1)))))))))));(repeat(first|((repeat(revert N;apply Pn.out));refine wk zF ?_;(repeat(apply Pn.mk;intro N hN)))|((try apply Or.inl);refine⟨_,au.x (sM) (sd zF),?_⟩;apply hN;clear hN N)|((try apply Or.inl);refine⟨_,au.x (Ub) (sd zF),?_⟩;apply hN;clear hN N)));try clear zF)
        exact bQ (b:=false) (.inl rfl) (sd @Nat.zero_add) (gr (lS fun h=>by
         rw[Dx,htd]at h
         obtain⟨g,hg,hq⟩:=List.any_eq_true.1 hany
         have:=h.2.2.2 g hg
         rw[this]at hq;cases hq))
      ·have Cj:decide ((tl.cz.length:Int)=4)=false:=decide_eq_false h4
       (have zF:=tw @b52 (tw @bg0 (tw @bg1 (tw @b1 (tw @b6 (tw @Ge (tw @Gf (tw @hj (tw @nu (tw @lY (tw @Cj (tw @ck.eq_1 @ae.eq_1)))))))))));(repeat(first|((repeat(revert N;apply Pn.out));refine wk zF ?_;(repeat(apply Pn.mk;intro N hN)))|((try apply Or.inl);refine⟨_,au.x (sM) (sd zF),?_⟩;apply hN;clear hN N)));try clear zF)
       exact bQ (b:=false) (.inl rfl) (sd @Nat.zero_add) (gr (lS fun h=>by rw[Dx,htd]at h;have:=h.2.1;omega))
     ·(have zF:=tw @b52 (tw @bg0 (tw @bg1 (tw @b1 (tw @b6 (tw @Ge (tw @Gf (tw @hj (tw @nu (tw @lY (tw @fm (tw @ck.eq_1 @ae.eq_1)))))))))));(repeat(first|((repeat(revert N;apply Pn.out));refine wk zF ?_;(repeat(apply Pn.mk;intro N hN)))|((try apply Or.inl);refine⟨_,au.x (sM) (sd zF),?_⟩;apply hN;clear hN N)));try clear zF)
      exact bQ (b:=false) (.inl rfl) (sd @Nat.zero_add) (gr (lS fun h=>by
       rw[Dx,htd]at h
       obtain⟨i,hi,he⟩:=List.mem_map.1 gh
       exact h.2.2.1 i (List.mem_range.1 hi) he))
   ·(try((repeat(revert N;apply Pn.out));refine wk (tw @b52 (tw @bg0 (tw @bg1 (tw @b1 (tw @b6 (tw @Ge (tw @Gf (tw @hj @ae.eq_1)))))))) ?_;(repeat(apply Pn.mk;intro N hN))))
    exact bQ (b:=true) (.inl rfl) (sd @Nat.zero_add) (Fv ⟨ah,ah,ah,fun i hi=>nT i ah,fun i hi=>bA0 i ah⟩)
 ·rw[Bool.not_eq_true]at h2
  rw[h2]at hw
  (repeat(first|((repeat(revert N;apply Pn.out));refine wk (tw @ae.eq_1 @h1) ?_;(repeat(apply Pn.mk;intro N hN)))|((try apply Or.inl);refine⟨_,au.x (hw) (sd (tw @ae.eq_1 @h1)),?_⟩;apply hN;clear hN N)))
  exact bQ (b:=false) (.inl rfl) (sd @Nat.zero_add) (gr fun h=>by
   have h3:=h.some
   have h4:=h.xo
   rw[jD ⟨ah,ah⟩]at h2;cases h2)
theorem xU {α:Type} {p:α->Bool} {xs:List α} {k:Nat} (hk:k<xs.length) (h1:p xs[k]=true) (h2:∀j (h:j<xs.length),j<k->p xs[j]=false):lE p xs=k:=by
 have:xs.findIdx p=k:=by rw[List.findIdx_eq hk];exact⟨h1,fun j hj=>h2 j ah hj⟩
 rw[lE,this,if_pos hk]
theorem AZ {α:Type} {p:α->Bool} {xs:List α} (h:∀j (h:j<xs.length),p xs[j]=false):lE p xs= -1:=by
 rw[lE,if_neg]
 rw[List.findIdx_lt_length]
 rintro⟨x,hx,TY⟩
 obtain⟨j,hj,rfl⟩:=List.getElem_of_mem hx
 rw[h j hj]at TY;cases TY
theorem Ch {s:ay} {i:Nat} (h:i<s.aI.length):rO s i=s.aI[i]:=by simp[rO,List.getD_eq_getElem?_getD,h]
theorem C2 {s:ay} {i:Nat} (h:i<s.aj.length):qN s i=s.aj[i]:=by simp[qN,List.getD_eq_getElem?_getD,h]
def OP (s:ay) (n:ByteArray):Int:=lE (fun g:gn=>decide (g.aZ=n)) s.aI
def Sc (s:ay) (n:ByteArray):Int:=lE (fun t:ft=>decide (t.aZ=n)) s.aj
theorem Ka (s:ay) (nm:ByteArray):au Tryz.prog 119 [.dQ (ae s),.str nm] (.int .i64 (OP s nm+1)):=by
 refine au.body eI rfl fun hl n0=>?_
 have hlen:s.aI.length<=9223372036854775807:=by
  have h1:=(hl (.dQ (ae s)) (by simp)).EJ (a:=.sl (s.aI.map cU)) (by simp[ae])
  simpa using h1.len
 clear hl
 (try((repeat(revert N;apply Pn.out));refine wk @ae.eq_1 ?_;(repeat(apply Pn.mk;intro N hN))))
 refine bf (fun n env st=>∃k:Nat,n=(s.aI.length)-k/\k<=(s.aI.length)/\env 5=.int .i64 (k:Int)/\(∀j:Nat,j<k->∀h:j<s.aI.length,decide (s.aI[j].aZ=nm)=false)) (s.aI.length) ⟨0,ah,ah,sl @ae.eq_1,fun _ h=>absurd h (Nat.not_lt_zero _)⟩ ?_
 rintro n_a env_a st_a ⟨k,rfl,ale,a5,nT⟩ dX
 have a0:=dX 0 (by kernel_rfl);have a1:=dX 1 (by kernel_rfl)
 simp only[go_sem, ↓reduceIte,Nat.reduceEqDiff,Nat.reduceAdd,Nat.reduceSub,Nat.reduceLeDiff,reduceCtorEq,ae]at a0 a1
 clear dX
 by_cases hk:(k:Int)<(s.aI.length:Int)
 ·have cV:∀{e:Env},(e 5=.int .i64 (IntKind.i64.wrap ((k:Int)+1)))->(∀h:k<s.aI.length,decide (s.aI[k].aZ=nm)=false)->∃m0,m0<(s.aI.length)-k/\∃k:Nat,m0=(s.aI.length)-k/\k<=(s.aI.length)/\e 5=.int .i64 (k:Int)/\(∀j:Nat,j<k->∀h:j<s.aI.length,decide (s.aI[j].aZ=nm)=false):=fun x1 x2=>⟨_,ah,k+1,rfl,ah,(by rw[x1,aE ah]),(all_succ nT x2)⟩
  have fC:k<s.aI.length:=ah
  have fa:=Ci fC
  have e:=Ch fC
  cases hd:decide ((rO s k).aZ=nm)
  ·have YJ:=of_decide_eq_false hd
   (try((repeat(revert N;apply Pn.out));refine wk (tw @a5 (tw @a0 (tw @a1 (tw @hk (tw @fa (tw @YJ (tw @hd (tw @cU.eq_1 @ae.eq_1)))))))) ?_;(repeat(apply Pn.mk;intro N hN))))
   exact cV (sd (tw @a5 (tw @a0 @a1))) (fun _=>by rw[e]at hd;exact hd)
  ·have YJ:=of_decide_eq_true hd
   have hw:IntKind.i64.wrap ((k:Int)+1)=(k:Int)+1:=cq ah
   (try((repeat(revert N;apply Pn.out));refine wk (tw @a5 (tw @a0 (tw @a1 (tw @hk (tw @fa (tw @hd (tw @hw (tw @cU.eq_1 @ae.eq_1)))))))) ?_;(repeat(apply Pn.mk;intro N hN))))
   exact dq (b:=(k:Int)+1) (.inl rfl) (sd @Nat.zero_add) (by rw[OP,xU fC (by rw[e]at hd;exact hd) fun j h hj=>nT j hj h])
 ·(try((repeat(revert N;apply Pn.out));refine wk (tw @a5 (tw @a0 (tw @a1 (tw @hk @ae.eq_1)))) ?_;(repeat(apply Pn.mk;intro N hN))))
  exact dq (b:=0) (.inl rfl) (sd @Nat.zero_add) (by rw[OP,AZ fun j h=>nT j ah h];rfl)
theorem Kb (s:ay) (nm:ByteArray):au Tryz.prog 120 [.dQ (ae s),.str nm] (.int .i64 (Sc s nm)):=by
 refine au.body eI rfl fun hl n0=>?_
 have hlen:s.aj.length<=9223372036854775807:=by
  have h1:=(hl (.dQ (ae s)) (by simp)).EJ (a:=.sl (s.aj.map ck)) (by simp[ae])
  simpa using h1.len
 clear hl
 (try((repeat(revert N;apply Pn.out));refine wk @ae.eq_1 ?_;(repeat(apply Pn.mk;intro N hN))))
 refine bf (fun n env st=>∃k:Nat,n=(s.aj.length)-k/\k<=(s.aj.length)/\env 5=.int .i64 (k:Int)/\(∀j:Nat,j<k->∀h:j<s.aj.length,decide (s.aj[j].aZ=nm)=false)) (s.aj.length) ⟨0,ah,ah,sl @ae.eq_1,fun _ h=>absurd h (Nat.not_lt_zero _)⟩ ?_
 rintro n_a env_a st_a ⟨k,rfl,ale,a5,nT⟩ dX
 have a0:=dX 0 (by kernel_rfl);have a1:=dX 1 (by kernel_rfl)
 simp only[go_sem, ↓reduceIte,Nat.reduceEqDiff,Nat.reduceAdd,Nat.reduceSub,Nat.reduceLeDiff,reduceCtorEq,ae]at a0 a1
 clear dX
 by_cases hk:(k:Int)<(s.aj.length:Int)
 ·have cV:∀{e:Env},(e 5=.int .i64 (IntKind.i64.wrap ((k:Int)+1)))->(∀h:k<s.aj.length,decide (s.aj[k].aZ=nm)=false)->∃m0,m0<(s.aj.length)-k/\∃k:Nat,m0=(s.aj.length)-k/\k<=(s.aj.length)/\e 5=.int .i64 (k:Int)/\(∀j:Nat,j<k->∀h:j<s.aj.length,decide (s.aj[j].aZ=nm)=false):=fun x1 x2=>⟨_,ah,k+1,rfl,ah,(by rw[x1,aE ah]),(all_succ nT x2)⟩
  have fC:k<s.aj.length:=ah
  have fa:=C3 fC
  have e:=C2 fC
  cases hd:decide ((qN s k).aZ=nm)
  ·(try((repeat(revert N;apply Pn.out));refine wk (tw @a5 (tw @a0 (tw @a1 (tw @hk (tw @fa (tw @hd (tw @ck.eq_1 @ae.eq_1))))))) ?_;(repeat(apply Pn.mk;intro N hN))))
   exact cV (sd (tw @a5 (tw @a0 @a1))) (fun _=>by rw[e]at hd;exact hd)
  ·(try((repeat(revert N;apply Pn.out));refine wk (tw @a5 (tw @a0 (tw @a1 (tw @hk (tw @fa (tw @hd (tw @ck.eq_1 @ae.eq_1))))))) ?_;(repeat(apply Pn.mk;intro N hN))))
   exact dq (b:=(k:Int)) (.inl rfl) (sd @Nat.zero_add) (by rw[Sc,xU fC (by rw[e]at hd;exact hd) fun j h hj=>nT j hj h])
 ·(try((repeat(revert N;apply Pn.out));refine wk (tw @a5 (tw @a0 (tw @a1 (tw @hk @ae.eq_1)))) ?_;(repeat(apply Pn.mk;intro N hN))))
  exact dq (b:=-1) (.inl rfl) (sd @Nat.zero_add) (by rw[Sc,AZ fun j h=>nT j ah h])
theorem S5 {s:ay} {i:Nat} (h:i<s.aI.length):OP s (rO s i).aZ=i↔∀j,j<i->(rO s j).aZ≠(rO s i).aZ:=by
 constructor
 ·intro he j hj hc
  have gZ:j<s.aI.length:=ah
  have:s.aI.findIdx (fun g:gn=>decide (g.aZ=(rO s i).aZ))<=j:=by
   rcases Nat.lt_or_ge j (s.aI.findIdx fun g:gn=>decide (g.aZ=(rO s i).aZ))with eu|oj
   ·have:=List.not_of_lt_findIdx eu
    rw[<-Ch gZ]at this
    simp[hc]at this
   ·exact oj
  unfold OP lE at he
  split at he<;>omega
 ·intro hd
  exact xU h (by rw[<-Ch h];simp) fun j gZ hj=>by rw[<-Ch gZ];simpa using hd j hj
theorem UR {s:ay} {i:Nat} (h:i<s.aj.length):Sc s (qN s i).aZ=i↔∀j,j<i->(qN s j).aZ≠(qN s i).aZ:=by
 constructor
 ·intro he j hj hc
  have gZ:j<s.aj.length:=ah
  have:s.aj.findIdx (fun g:ft=>decide (g.aZ=(qN s i).aZ))<=j:=by
   rcases Nat.lt_or_ge j (s.aj.findIdx fun g:ft=>decide (g.aZ=(qN s i).aZ))with eu|oj
   ·have:=List.not_of_lt_findIdx eu
    rw[<-C2 gZ]at this
    simp[hc]at this
   ·exact oj
  unfold Sc lE at he
  split at he<;>omega
 ·intro hd
  exact xU h (by rw[<-C2 h];simp) fun j gZ hj=>by rw[<-C2 gZ];simpa using hd j hj
theorem Qk (s:ay) (hn:iy s) (hg:s.aI.length<=1048576) (ht:s.aj.length<=1048576):au Tryz.prog 137 [.dQ (ae s)] (.bool (uH s)):=by
 refine au.body eI rfl fun hl n0=>?_
 clear hl
 have W8:∀i,i<s.aI.length->(rO s i).aZ.size<=9223372036854775807:=fun i hi=>hn.1 _ (by simp[rO,List.getD_eq_getElem?_getD,hi])
 have Xs:∀i,i<s.aj.length->(qN s i).aZ.size<=9223372036854775807:=fun i hi=>hn.2 _ (by simp[qN,List.getD_eq_getElem?_getD,hi])
 by_cases h1:(200:Int)<(s.aI.length:Int)
 ·(try((repeat(revert N;apply Pn.out));refine wk (tw @ae.eq_1 @h1) ?_;(repeat(apply Pn.mk;intro N hN))))
  exact bQ (b:=false) (.inl rfl) (sd @Nat.zero_add) (gr fun h=>by have:=h.wS;omega)
 by_cases h2:(s.aj.length:Int)<1
 ·(try((repeat(revert N;apply Pn.out));refine wk (tw @ae.eq_1 (tw @h1 @h2)) ?_;(repeat(apply Pn.mk;intro N hN))))
  exact bQ (b:=false) (.inl rfl) (sd @Nat.zero_add) (gr fun h=>by have:=h.some;omega)
 by_cases h3:(160:Int)<(s.aj.length:Int)
 ·(try((repeat(revert N;apply Pn.out));refine wk (tw @ae.eq_1 (tw @h1 (tw @h2 @h3))) ?_;(repeat(apply Pn.mk;intro N hN))))
  exact bQ (b:=false) (.inl rfl) (sd @Nat.zero_add) (gr fun h=>by have:=h.xo;omega)
 (try((repeat(revert N;apply Pn.out));refine wk (tw @ae.eq_1 (tw @h1 (tw @h2 @h3))) ?_;(repeat(apply Pn.mk;intro N hN))))
 refine bf (fun n env st=>∃k:Nat,n=(s.aI.length)-k/\k<=(s.aI.length)/\env 3=.int .i64 (k:Int)/\(∀j:Nat,j<k->F7 s j)) (s.aI.length) ⟨0,ah,ah,sl @ae.eq_1,fun _ h=>absurd h (Nat.not_lt_zero _)⟩ ?_
 rintro n_a env_a st_a ⟨k,rfl,ale,a3,nT⟩ dX
 have a0:=dX 0 (by kernel_rfl)
 simp only[go_sem, ↓reduceIte,Nat.reduceEqDiff,Nat.reduceAdd,Nat.reduceSub,Nat.reduceLeDiff,reduceCtorEq,ae]at a0
 clear dX
 by_cases hk:(k:Int)<(s.aI.length:Int)
 ·have cV:∀{e:Env},(e 3=.int .i64 (IntKind.i64.wrap ((k:Int)+1)))->(F7 s k)->∃m0,m0<(s.aI.length)-k/\∃k:Nat,m0=(s.aI.length)-k/\k<=(s.aI.length)/\e 3=.int .i64 (k:Int)/\(∀j:Nat,j<k->F7 s j):=fun x1 x2=>⟨_,ah,k+1,rfl,ah,(by rw[x1,aE ah]),(all_succ nT x2)⟩
  have fC:k<s.aI.length:=ah
  have fa:=Ci fC
  have sM:=IU (rO s k).aZ (W8 k fC)
  have O5:=lT (rO s k).eR 1 4
  have FX:=Ka s (rO s k).aZ
  have ua:=S5 fC
  have lS:(¬F7 s k)->¬iz s:=fun h hp=>h (hp.Yr k fC)
  have hw:IntKind.i64.wrap ((k:Int)+1)=(k:Int)+1:=cq ah
  generalize qW:rO s k=gl at *
  cases hb:kH gl.aZ
  ·rw[hb]at sM
   (have zF:=tw @a3 (tw @a0 (tw @hk (tw @fa (tw @cU.eq_1 @ae.eq_1))));(repeat(first|((repeat(revert N;apply Pn.out));refine wk zF ?_;(repeat(apply Pn.mk;intro N hN)))|((try apply Or.inl);refine⟨_,au.x (sM) (sd zF),?_⟩;apply hN;clear hN N)));try clear zF)
   exact bQ (b:=false) (.inl rfl) (sd @Nat.zero_add) (gr (lS fun h=>by rw[F7,qW,hb]at h;cases h.1))
  rw[hb]at sM
  cases dZ:iE gl.eR 1 4
  ·rw[dZ]at O5
   (have zF:=tw @a3 (tw @a0 (tw @hk (tw @fa (tw @cU.eq_1 @ae.eq_1))));(repeat(first|((repeat(revert N;apply Pn.out));refine wk zF ?_;(repeat(apply Pn.mk;intro N hN)))|((try apply Or.inl);refine⟨_,au.x (sM) (sd zF),?_⟩;apply hN;clear hN N)|((try apply Or.inl);refine⟨_,au.x (O5) (sd zF),?_⟩;apply hN;clear hN N)));try clear zF)
   exact bQ (b:=false) (.inl rfl) (sd @Nat.zero_add) (gr (lS fun h=>by rw[F7,qW,dZ]at h;cases h.2.1))
  rw[dZ]at O5
  rw[ae]at FX
  by_cases hq:OP s gl.aZ=(k:Int)
  ·have hd:decide (OP s gl.aZ+1=(k:Int)+1)=true:=decide_eq_true ah
   have nJ:decide (OP s gl.aZ=(k:Int))=true:=decide_eq_true hq
   (have zF:=tw @a3 (tw @a0 (tw @hk (tw @fa (tw @hw (tw @hd (tw @nJ (tw @cU.eq_1 @ae.eq_1)))))));(repeat(first|((repeat(revert N;apply Pn.out));refine wk zF ?_;(repeat(apply Pn.mk;intro N hN)))|((try apply Or.inl);refine⟨_,au.x (sM) (sd zF),?_⟩;apply hN;clear hN N)|((try apply Or.inl);refine⟨_,au.x (O5) (sd zF),?_⟩;apply hN;clear hN N)|((try apply Or.inl);refine⟨_,au.x (FX) (sd zF),?_⟩;apply hN;clear hN N)));try clear zF)
   exact cV (sd (tw @a3 (tw @a0 @hw))) (⟨by rw[qW];exact hb,by rw[qW];exact dZ,fun j hj=>by rw[qW];exact ua.1 hq j hj⟩)
  ·have hd:decide (OP s gl.aZ+1=(k:Int)+1)=false:=decide_eq_false ah
   have nJ:decide (OP s gl.aZ=(k:Int))=false:=decide_eq_false hq
   (have zF:=tw @a3 (tw @a0 (tw @hk (tw @fa (tw @hw (tw @hd (tw @nJ (tw @cU.eq_1 @ae.eq_1)))))));(repeat(first|((repeat(revert N;apply Pn.out));refine wk zF ?_;(repeat(apply Pn.mk;intro N hN)))|((try apply Or.inl);refine⟨_,au.x (sM) (sd zF),?_⟩;apply hN;clear hN N)|((try apply Or.inl);refine⟨_,au.x (O5) (sd zF),?_⟩;apply hN;clear hN N)|((try apply Or.inl);refine⟨_,au.x (FX) (sd zF),?_⟩;apply hN;clear hN N)));try clear zF)
   exact bQ (b:=false) (.inl rfl) (sd @Nat.zero_add) (gr (lS fun h=>by
    rw[F7,qW]at h
    exact hq (ua.2 h.2.2)))
 ·have lN:k=s.aI.length:=ah
  (try((repeat(revert N;apply Pn.out));refine wk (tw @a3 (tw @a0 (tw @hk @ae.eq_1))) ?_;(repeat(apply Pn.mk;intro N hN))))
  refine bf (fun n env st=>∃j:Nat,n=(s.aj.length)-j/\j<=(s.aj.length)/\env 5=.int .i64 (j:Int)/\(∀i:Nat,i<j->Dx s i)) (s.aj.length) ⟨0,ah,ah,sl (tw @a3 (tw @a0 @ae.eq_1)),fun _ h=>absurd h (Nat.not_lt_zero _)⟩ ?_
  rintro n_b env_b st_b ⟨j,rfl,ble,b5,bA0⟩ fh
  have b0:=fh 0 (by kernel_rfl)
  simp only[go_sem, ↓reduceIte,Nat.reduceEqDiff,Nat.reduceAdd,Nat.reduceSub,Nat.reduceLeDiff,reduceCtorEq,a3,a0,ae]at b0
  clear fh
  by_cases hj:(j:Int)<(s.aj.length:Int)
  ·have fX:∀{e:Env},(e 5=.int .i64 (IntKind.i64.wrap ((j:Int)+1)))->(Dx s j)->∃m0,m0<(s.aj.length)-j/\∃j:Nat,m0=(s.aj.length)-j/\j<=(s.aj.length)/\e 5=.int .i64 (j:Int)/\(∀i:Nat,i<j->Dx s i):=fun x1 x2=>⟨_,ah,j+1,rfl,ah,(by rw[x1,aE ah]),(all_succ bA0 x2)⟩
   have iN:j<s.aj.length:=ah
   have nu:=C3 iN
   have sM:=IU (qN s j).aZ (Xs j iN)
   have FX:=Kb s (qN s j).aZ
   have ua:=UR iN
   have lS:(¬Dx s j)->¬iz s:=fun h hp=>h (hp.tok j iN)
   generalize htd:qN s j=tl at *
   cases hb:kH tl.aZ
   ·rw[hb]at sM
    (have zF:=tw @b5 (tw @b0 (tw @hj (tw @nu (tw @ck.eq_1 @ae.eq_1))));(repeat(first|((repeat(revert N;apply Pn.out));refine wk zF ?_;(repeat(apply Pn.mk;intro N hN)))|((try apply Or.inl);refine⟨_,au.x (sM) (sd zF),?_⟩;apply hN;clear hN N)));try clear zF)
    exact bQ (b:=false) (.inl rfl) (sd @Nat.zero_add) (gr (lS fun h=>by rw[Dx,htd,hb]at h;cases h.1))
   rw[hb]at sM
   by_cases h4:(tl.cz.length:Int)=4
   ·have Cj:decide ((tl.cz.length:Int)=4)=true:=decide_eq_true h4
    rw[ae]at FX
    by_cases hq:Sc s tl.aZ=(j:Int)
    ·have hd:decide (Sc s tl.aZ=(j:Int))=true:=decide_eq_true hq
     (have zF:=tw @b5 (tw @b0 (tw @hj (tw @nu (tw @Cj (tw @hd (tw @ck.eq_1 @ae.eq_1))))));(repeat(first|((repeat(revert N;apply Pn.out));refine wk zF ?_;(repeat(apply Pn.mk;intro N hN)))|((try apply Or.inl);refine⟨_,au.x (sM) (sd zF),?_⟩;apply hN;clear hN N)|((try apply Or.inl);refine⟨_,au.x (FX) (sd zF),?_⟩;apply hN;clear hN N)));try clear zF)
     refine bf (fun n env st=>∃i:Nat,n=(4)-i/\i<=(4)/\env 7=.int .i64 (i:Int)/\st.get ⟨137012007,st_b.next+1⟩=some ⟨true,2,[ck tl]⟩/\(∀x:Nat,x<i->iE (tl.cz.getD x 0) 0 s.aI.length=true)) (4) ⟨0,ah,ah,sl (tw @b5 (tw @b0 (tw @ck.eq_1 @ae.eq_1))),sl (tw @b5 (tw @b0 (tw @ck.eq_1 @ae.eq_1))),fun _ h=>absurd h (Nat.not_lt_zero _)⟩ ?_
     rintro n_c env_c st_c ⟨i,rfl,cle,c7,cg0,cA0⟩ jq
     have c0:=jq 0 (by kernel_rfl);have c5:=jq 5 (by kernel_rfl);have c6:=jq 6 (by kernel_rfl)
     simp only[go_sem, ↓reduceIte,Nat.reduceEqDiff,Nat.reduceAdd,Nat.reduceSub,Nat.reduceLeDiff,reduceCtorEq,b5,b0,ck,ae]at c0 c5 c6
     clear jq
     by_cases hi:(i:Int)<4
     ·have ik:∀{e:Env} {gg:Rows},(e 7=.int .i64 (IntKind.i64.wrap ((i:Int)+1)))->(gg ⟨137012007,st_b.next+1⟩=some ⟨true,2,[ck tl]⟩)->(iE (tl.cz.getD i 0) 0 s.aI.length=true)->∃m0,m0<(4)-i/\∃i:Nat,m0=(4)-i/\i<=(4)/\e 7=.int .i64 (i:Int)/\gg ⟨137012007,st_b.next+1⟩=some ⟨true,2,[ck tl]⟩/\(∀x:Nat,x<i->iE (tl.cz.getD x 0) 0 s.aI.length=true):=fun x1 x2 x3=>⟨_,ah,i+1,rfl,ah,(by rw[x1,aE ah]),x2,(all_succ cA0 x3)⟩
      have gh:i<tl.cz.length:=ah
      have jT:(tl.cz.map aC)[i]? =some (aC (tl.cz.getD i 0)):=getD_map aC gh
      have o3:tl.cz.getD i 0∈tl.cz:=by rw[List.getD_eq_getElem?_getD,List.getElem?_eq_getElem gh];exact List.getElem_mem gh
      have MP:=lT (tl.cz.getD i 0) 0 s.aI.length
      generalize TC:tl.cz.getD i 0=gv at *
      cases hv:iE gv 0 s.aI.length
      ·rw[hv]at MP
       (have zF:=tw @c7 (tw @cg0 (tw @c0 (tw @c5 (tw @c6 (tw @hi (tw @jT (tw @aC.eq_1 (tw @ck.eq_1 @ae.eq_1))))))));(repeat(first|((repeat(revert N;apply Pn.out));refine wk zF ?_;(repeat(apply Pn.mk;intro N hN)))|((try apply Or.inl);refine⟨_,au.x (MP) (sd zF),?_⟩;apply hN;clear hN N)));try clear zF)
       exact bQ (b:=false) (.inl rfl) (sd @Nat.zero_add) (gr (lS fun h=>by
        rw[Dx,htd]at h
        have:=h.2.2.2 gv o3
        rw[hv]at this;cases this))
      ·rw[hv]at MP
       (have zF:=tw @c7 (tw @cg0 (tw @c0 (tw @c5 (tw @c6 (tw @hi (tw @jT (tw @aC.eq_1 (tw @ck.eq_1 @ae.eq_1))))))));(repeat(first|((repeat(revert N;apply Pn.out));refine wk zF ?_;(repeat(apply Pn.mk;intro N hN)))|((try apply Or.inl);refine⟨_,au.x (MP) (sd zF),?_⟩;apply hN;clear hN N)));try clear zF)
       refine ik ?_ ?_ (hv)
       all_goals simp only[go_sem, ↓reduceIte,Nat.reduceEqDiff,Nat.reduceAdd,Nat.reduceSub,Nat.reduceLeDiff,reduceCtorEq,c7,cg0,c0,c5,c6]
     ·have hi4:i=4:=ah
      (try((repeat(revert N;apply Pn.out));refine wk (tw @c7 (tw @cg0 (tw @c0 (tw @c5 (tw @c6 (tw @hi (tw @ck.eq_1 @ae.eq_1))))))) ?_;(repeat(apply Pn.mk;intro N hN))))
      exact fX (sd (tw @b5 (tw @b0 (tw @c7 (tw @cg0 (tw @c0 (tw @c5 @c6))))))) (⟨by rw[htd];exact hb,by rw[htd];omega,fun x hx=>(by rw[htd];exact ua.1 hq x hx),fun g hg=>by
       rw[htd]at hg
       obtain⟨x,hx,rfl⟩:=List.getElem_of_mem hg
       have:=cA0 x ah
       rwa [List.getD_eq_getElem?_getD,List.getElem?_eq_getElem hx]at this⟩)
    ·have hd:decide (Sc s tl.aZ=(j:Int))=false:=decide_eq_false hq
     (have zF:=tw @b5 (tw @b0 (tw @hj (tw @nu (tw @Cj (tw @hd (tw @ck.eq_1 @ae.eq_1))))));(repeat(first|((repeat(revert N;apply Pn.out));refine wk zF ?_;(repeat(apply Pn.mk;intro N hN)))|((try apply Or.inl);refine⟨_,au.x (sM) (sd zF),?_⟩;apply hN;clear hN N)|((try apply Or.inl);refine⟨_,au.x (FX) (sd zF),?_⟩;apply hN;clear hN N)));try clear zF)
     exact bQ (b:=false) (.inl rfl) (sd @Nat.zero_add) (gr (lS fun h=>by
      rw[Dx,htd]at h
      exact hq (ua.2 h.2.2.1)))
   ·have Cj:decide ((tl.cz.length:Int)=4)=false:=decide_eq_false h4
    (have zF:=tw @b5 (tw @b0 (tw @hj (tw @nu (tw @Cj (tw @ck.eq_1 @ae.eq_1)))));(repeat(first|((repeat(revert N;apply Pn.out));refine wk zF ?_;(repeat(apply Pn.mk;intro N hN)))|((try apply Or.inl);refine⟨_,au.x (sM) (sd zF),?_⟩;apply hN;clear hN N)));try clear zF)
    exact bQ (b:=false) (.inl rfl) (sd @Nat.zero_add) (gr (lS fun h=>by rw[Dx,htd]at h;have:=h.2.1;omega))
  ·(try((repeat(revert N;apply Pn.out));refine wk (tw @b5 (tw @b0 (tw @hj @ae.eq_1))) ?_;(repeat(apply Pn.mk;intro N hN))))
   exact bQ (b:=true) (.inl rfl) (sd @Nat.zero_add) (Fv ⟨ah,ah,ah,fun i hi=>nT i ah,fun i hi=>bA0 i ah⟩)
def jj (a b:aq):Bool:=decide (a.eM<b.eM)||(decide (a.eM=b.eM)&&decide (a.eS<b.eS))
theorem x9 {a b:aq}:jj a b=true↔a.eM<b.eM∨(a.eM=b.eM/\a.eS<b.eS):=by simp[jj]
theorem ot {a b:aq}:jj a b=false↔¬(a.eM<b.eM∨(a.eM=b.eM/\a.eS<b.eS)):=by rw[<-x9,Bool.not_eq_true]
theorem zt {a b:aq} (h1:a.eS=b.eS) (h2:a.eM=b.eM):a=b:=by cases a;cases b;simp_all
theorem iL {a b c:aq} (h:jj a b=true) (k:jj b c=true):jj a c=true:=by rw[x9]at *;omega
theorem jc {a:aq}:jj a a=false:=by rw[ot];omega
theorem EX {a b:aq} (h:jj a b=true):jj b a=false:=by rw[x9]at h;rw[ot];omega
theorem ya {a b:aq} (h:jj a b=false) (gM:a≠b):jj b a=true:=by
 rw[ot]at h;rw[x9]
 by_cases hy:a.eM=b.eM
 ·by_cases hx:a.eS=b.eS
  ·exact absurd (zt hx hy) gM
  ·omega
 ·omega
def tO (a b:Int):Int:=if a<b then -1 else if b<a then 1 else 0
def QF (a b:Int):Int:=if a=0 then b else a
def qh (a b:aq):Int:=QF (tO a.eM b.eM) (tO a.eS b.eS)
theorem nk (a b:aq):decide (qh a b<0)=jj a b:=by
 unfold qh QF tO jj
 by_cases h1:a.eM<b.eM
 ·simp[h1]
 ·by_cases h2:b.eM<a.eM
  ·have:¬a.eM=b.eM:=ah
   simp[h1,h2,this]
  ·have:a.eM=b.eM:=ah
   by_cases h3:a.eS<b.eS
   ·simp[h1,h2,this,h3]
   ·by_cases h4:b.eS<a.eS<;>simp[h1,h2,this,h3,h4]
theorem Jq (a b:aq):(qh a b=0)↔a=b:=by
 cases a;cases b
 unfold qh QF tO
 simp only[aq.mk.injEq]
 split<;>(try split)<;>(try split)<;>(try split)<;>omega
def NB:aa:=⟨⟨0,0⟩,0⟩
def bd (l:List aa) (i:Nat):aa:=l.getD i NB
theorem fx {l:List aa} {i:Nat} (h:i<l.length):bd l i=l[i]:=by simp[bd,List.getD_eq_getElem?_getD,h]
theorem gI {l:List aa} {i:Nat} (h:i<l.length):bd l i∈l:=by rw[fx h];exact List.getElem_mem h
def nC (l:List aa):Prop:=∀i j:Nat,i<j->j<l.length->jj (bd l i).aQ (bd l j).aQ=true
def rU (l:List aa) (p:aq):Nat:=l.findIdx fun c=>decide (c.aQ=p)
def ez (l:List aa) (p:aq):Int:=if rU l p<l.length then(rU l p:Int)else -1
def um (l:List aa) (p:aq):Nat:=l.findIdx fun c=> !jj c.aQ p
theorem CA {l:List aa} {p:aq} {i:Nat} (hi:i<=l.length) (h1:∀x,x<i->jj (bd l x).aQ p=true) (h2:i<l.length->jj (bd l i).aQ p=false):um l p=i:=by
 unfold um
 by_cases h:i<l.length
 ·rw[List.findIdx_eq h]
  refine⟨by have:=h2 h;rw[fx h]at this;simp[this],fun j hj=>?_⟩
  have:=h1 j hj
  rw[fx ah]at this
  simp[this]
 ·have:i=l.length:=ah
  subst this
  refine List.findIdx_eq_length_of_false fun x hx=>?_
  obtain⟨j,hj,rfl⟩:=List.getElem_of_mem hx
  have:=h1 j hj
  rw[fx hj]at this
  simp[this]
theorem IL {l:List aa} {p:aq} (hR:nC l):ez l p=if um l p<l.length/\(bd l (um l p)).aQ=p then(um l p:Int)else -1:=by
 by_cases h:∃i,i<l.length/\(bd l i).aQ=p
 ·obtain⟨i,hi,hp⟩:=h
  have h1:um l p=i:=CA ah (fun x hx=>by rw[<-hp];exact hR x i hx hi) fun _=>by rw[hp];exact jc
  have h2:rU l p=i:=by
   rw[rU,List.findIdx_eq hi]
   refine⟨by rw[fx hi]at hp;simpa using hp,fun j hj=>?_⟩
   have:=hR j i hj hi
   rw[hp,fx ah]at this
   simp only[decide_eq_false_iff_not]
   intro hc
   rw[hc,jc]at this
   cases this
  rw[ez,h1,h2,if_pos hi,if_pos ⟨hi,hp⟩]
 ·have h2:¬rU l p<l.length:=by
   rw[rU,List.findIdx_lt_length]
   rintro⟨c,hc,he⟩
   obtain⟨j,hj,rfl⟩:=List.getElem_of_mem hc
   exact h ⟨j,hj,by rw[fx hj];simpa using he⟩
  rw[ez,if_neg h2,if_neg]
  rintro⟨h3,h4⟩
  exact h ⟨_,h3,h4⟩
theorem kb {l:List aa} {p:aq} (h:0<=ez l p):(ez l p).toNat<l.length/\(bd l (ez l p).toNat).aQ=p:=by
 unfold ez at h ⊢
 split at h
 ·rename_i hc
  rw[if_pos hc]
  refine⟨ah,?_⟩
  have:=of_decide_eq_true (List.findIdx_getElem (p:=fun c:aa=>decide (c.aQ=p)) (xs:=l) (w:=hc))
  rw[Int.toNat_natCast,fx hc]
  exact this
 ·omega
def fG (l:List aa) (p:aq):Int:=if 0<=ez l p then(bd l (ez l p).toNat).bK else -1
theorem ni (a b:aq):au Tryz.prog 154 [.agg (ad a),.agg (ad b)] (.bool (jj a b)):=by
 refine au.body eI rfl fun hl n0=>?_
 clear hl
 by_cases h0:a.eM<b.eM
 ·(try((repeat(revert N;apply Pn.out));refine wk (tw @ad.eq_1 @h0) ?_;(repeat(apply Pn.mk;intro N hN))))
  exact bQ (b:=true) (.inl rfl) (sd @Nat.zero_add) (by simp[jj,h0])
 ·by_cases h1:a.eM=b.eM
  ·have h2:¬b.eM<b.eM:=ah
   (try((repeat(revert N;apply Pn.out));refine wk (tw @ad.eq_1 (tw @h1 @h2)) ?_;(repeat(apply Pn.mk;intro N hN))))
   exact bQ (b:=decide (a.eS<b.eS)) (.inl rfl) (sd @Nat.zero_add) (by simp[jj,h1])
  ·(try((repeat(revert N;apply Pn.out));refine wk (tw @ad.eq_1 (tw @h0 @h1)) ?_;(repeat(apply Pn.mk;intro N hN))))
   exact bQ (b:=false) (.inl rfl) (sd @Nat.zero_add) (by simp[jj,h0,h1])
theorem fV {l:List aa} {i:Nat} (h:i<l.length):(l.map ab)[i]? =some (ab (bd l i)):=getD_map ab h
def F8 (l:List aa) (i:Nat):Prop:=Ac (bd l i).aQ=true/\iE (bd l i).bK 0 159=true/\(0<i->jj (bd l (i-1)).aQ (bd l i).aQ=true)
structure lJ (l:List aa):Prop where
 xD:l.length<=500
 ok:∀i,i<l.length->F8 l i
noncomputable def qn (l:List aa):Bool:=@decide (lJ l) (Classical.propDecidable _)
theorem JJ {l:List aa}:qn l=true↔lJ l:=by simp[qn]
theorem lk {l:List aa} (h:¬lJ l):false=qn l:=by simp[qn,h]
theorem A5 {l:List aa} (h:lJ l):true=qn l:=by simp[qn,h]
theorem lJ.QS {l:List aa} (h:lJ l):nC l:=by
 intro i j Be hj
 induction j with
 |zero=>omega
 |succ j ih=>
  have h1:=(h.ok (j+1) hj).2.2 ah
  rw[Nat.add_sub_cancel]at h1
  by_cases he:i=j
  ·subst he;exact h1
  ·exact iL (ih ah ah) h1
theorem lJ.pt {l:List aa} (h:lJ l) {i:Nat} (hi:i<l.length):Ac (bd l i).aQ=true:=(h.ok i hi).1
theorem s6 {p:aq} (h:Ac p=true):iB p.eS/\iB p.eM:=by
 unfold Ac at h
 simp only[Bool.and_eq_true]at h
 have:=ej h.1;have:=ej h.2
 unfold iB;omega
theorem Kc (l:List aa):au Tryz.prog 86 [.dQ [.sl (l.map ab)]] (.bool (qn l)):=by
 refine au.body eI rfl fun hl n0=>?_
 clear hl
 by_cases h1:(500:Int)<(l.length:Int)
 ·(try((repeat(revert N;apply Pn.out));refine wk @h1 ?_;(repeat(apply Pn.mk;intro N hN))))
  exact bQ (b:=false) (.inl rfl) (sd @Nat.zero_add) (lk fun h=>by have:=h.xD;omega)
 (try((repeat(revert N;apply Pn.out));refine wk @h1 ?_;(repeat(apply Pn.mk;intro N hN))))
 refine bf (fun n env st=>∃k:Nat,n=(l.length)-k/\k<=(l.length)/\env 3=.int .i64 (k:Int)/\(∀j:Nat,j<k->F8 l j)) (l.length) ⟨0,ah,ah,sl @Nat.zero_add,fun _ h=>absurd h (Nat.not_lt_zero _)⟩ ?_
 rintro n_a env_a st_a ⟨k,rfl,ale,a3,nT⟩ dX
 have a0:=dX 0 (by kernel_rfl)
 simp only[go_sem, ↓reduceIte,Nat.reduceEqDiff,Nat.reduceAdd,Nat.reduceSub,Nat.reduceLeDiff,reduceCtorEq]at a0
 clear dX
 by_cases hk:(k:Int)<(l.length:Int)
 ·have cV:∀{e:Env},(e 3=.int .i64 (IntKind.i64.wrap ((k:Int)+1)))->(F8 l k)->∃m0,m0<(l.length)-k/\∃k:Nat,m0=(l.length)-k/\k<=(l.length)/\e 3=.int .i64 (k:Int)/\(∀j:Nat,j<k->F8 l j):=fun x1 x2=>⟨_,ah,k+1,rfl,ah,(by rw[x1,aE ah]),(all_succ nT x2)⟩
  have fC:k<l.length:=ah
  have fa:=fV fC
  have lS:(¬F8 l k)->¬lJ l:=fun h hp=>h (hp.ok k fC)
  have hp:=y9 (bd l k).aQ
  have ht:=lT (bd l k).bK 0 159
  cases b1:Ac (bd l k).aQ
  ·rw[b1]at hp
   (have zF:=tw @a3 (tw @a0 (tw @hk (tw @fa (tw @ab.eq_1 @ad.eq_1))));(repeat(first|((repeat(revert N;apply Pn.out));refine wk zF ?_;(repeat(apply Pn.mk;intro N hN)))|((try apply Or.inl);refine⟨_,au.x (hp) (sd zF),?_⟩;apply hN;clear hN N)));try clear zF)
   exact bQ (b:=false) (.inl rfl) (sd @Nat.zero_add) (lk (lS fun h=>by rw[F8,b1]at h;cases h.1))
  rw[b1]at hp
  cases b2:iE (bd l k).bK 0 159
  ·rw[b2]at ht
   (have zF:=tw @a3 (tw @a0 (tw @hk (tw @fa (tw @ab.eq_1 @ad.eq_1))));(repeat(first|((repeat(revert N;apply Pn.out));refine wk zF ?_;(repeat(apply Pn.mk;intro N hN)))|((try apply Or.inl);refine⟨_,au.x (hp) (sd zF),?_⟩;apply hN;clear hN N)|((try apply Or.inl);refine⟨_,au.x (ht) (sd zF),?_⟩;apply hN;clear hN N)));try clear zF)
   exact bQ (b:=false) (.inl rfl) (sd @Nat.zero_add) (lk (lS fun h=>by rw[F8,b2]at h;cases h.2.1))
  rw[b2]at ht
  by_cases h0:(0:Int)<(k:Int)
  ·have uU:=fV (l:=l) (i:=k-1) ah
   have hw:IntKind.i64.wrap ((k:Int)-1)=((k-1:Nat):Int):=by rw[cq (by have:=fC;omega)];omega
   have hq:=ni (bd l (k-1)).aQ (bd l k).aQ
   cases b3:jj (bd l (k-1)).aQ (bd l k).aQ
   ·rw[b3]at hq
    (have zF:=tw @a3 (tw @a0 (tw @hk (tw @fa (tw @uU (tw @h0 (tw @hw (tw @ab.eq_1 @ad.eq_1)))))));(repeat(first|((repeat(revert N;apply Pn.out));refine wk zF ?_;(repeat(apply Pn.mk;intro N hN)))|((try apply Or.inl);refine⟨_,au.x (hp) (sd zF),?_⟩;apply hN;clear hN N)|((try apply Or.inl);refine⟨_,au.x (ht) (sd zF),?_⟩;apply hN;clear hN N)|((try apply Or.inl);refine⟨_,au.x (hq) (sd zF),?_⟩;apply hN;clear hN N)));try clear zF)
    exact bQ (b:=false) (.inl rfl) (sd @Nat.zero_add) (lk (lS fun h=>by have:=h.2.2 ah;rw[b3]at this;cases this))
   ·rw[b3]at hq
    (have zF:=tw @a3 (tw @a0 (tw @hk (tw @fa (tw @uU (tw @h0 (tw @hw (tw @ab.eq_1 @ad.eq_1)))))));(repeat(first|((repeat(revert N;apply Pn.out));refine wk zF ?_;(repeat(apply Pn.mk;intro N hN)))|((try apply Or.inl);refine⟨_,au.x (hp) (sd zF),?_⟩;apply hN;clear hN N)|((try apply Or.inl);refine⟨_,au.x (ht) (sd zF),?_⟩;apply hN;clear hN N)|((try apply Or.inl);refine⟨_,au.x (hq) (sd zF),?_⟩;apply hN;clear hN N)));try clear zF)
    exact cV (sd (tw @a3 @a0)) (⟨b1,b2,fun _=>b3⟩)
  ·have z7:k=0:=ah
   (have zF:=tw @a3 (tw @a0 (tw @hk (tw @fa (tw @h0 (tw @ab.eq_1 @ad.eq_1)))));(repeat(first|((repeat(revert N;apply Pn.out));refine wk zF ?_;(repeat(apply Pn.mk;intro N hN)))|((try apply Or.inl);refine⟨_,au.x (hp) (sd zF),?_⟩;apply hN;clear hN N)|((try apply Or.inl);refine⟨_,au.x (ht) (sd zF),?_⟩;apply hN;clear hN N)));try clear zF)
   exact cV (sd (tw @a3 @a0)) (⟨b1,b2,fun h=>ah⟩)
 ·(try((repeat(revert N;apply Pn.out));refine wk (tw @a3 (tw @a0 @hk)) ?_;(repeat(apply Pn.mk;intro N hN))))
  exact bQ (b:=true) (.inl rfl) (sd @Nat.zero_add) (A5 ⟨ah,fun i hi=>nT i ah⟩)
theorem AW (a b:Int):au Tryz.prog 233 [.int .i64 a,.int .i64 b] (.int .i64 (tO a b)):=by
 have nan:∀x:Int,au Tryz.prog 266 [.int .i64 x] (.bool false):=fun x=>by
  refine au.body eI rfl fun hl n0=>?_
  clear hl
  have e:decide (x=x)=true:=decide_eq_true rfl
  (try((repeat(revert N;apply Pn.out));refine wk @e ?_;(repeat(apply Pn.mk;intro N hN))))
  exact bQ (b:=false) (.inl rfl) (sd @Nat.zero_add) rfl
 refine au.body eI rfl fun hl n0=>?_
 clear hl
 have ha:=nan a
 have hb:=nan b
 by_cases h1:a<b
 ·(repeat(first|((repeat(revert N;apply Pn.out));refine wk @h1 ?_;(repeat(apply Pn.mk;intro N hN)))|((try apply Or.inl);refine⟨_,au.x (ha) (sd @h1),?_⟩;apply hN;clear hN N)|((try apply Or.inl);refine⟨_,au.x (hb) (sd @h1),?_⟩;apply hN;clear hN N)))
  exact dq (b:=-1) (.inl rfl) (sd @Nat.zero_add) (by rw[tO,if_pos h1])
 by_cases h2:b<a
 ·(repeat(first|((repeat(revert N;apply Pn.out));refine wk (tw @h1 @h2) ?_;(repeat(apply Pn.mk;intro N hN)))|((try apply Or.inl);refine⟨_,au.x (ha) (sd (tw @h1 @h2)),?_⟩;apply hN;clear hN N)|((try apply Or.inl);refine⟨_,au.x (hb) (sd (tw @h1 @h2)),?_⟩;apply hN;clear hN N)))
  exact dq (b:=1) (.inl rfl) (sd @Nat.zero_add) (by rw[tO,if_neg h1,if_pos h2])
 ·(repeat(first|((repeat(revert N;apply Pn.out));refine wk (tw @h1 @h2) ?_;(repeat(apply Pn.mk;intro N hN)))|((try apply Or.inl);refine⟨_,au.x (ha) (sd (tw @h1 @h2)),?_⟩;apply hN;clear hN N)|((try apply Or.inl);refine⟨_,au.x (hb) (sd (tw @h1 @h2)),?_⟩;apply hN;clear hN N)))
  exact dq (b:=0) (.inl rfl) (sd @Nat.zero_add) (by rw[tO,if_neg h1,if_neg h2])
def Lu:List Int->Int
 |[]=>0
 |a::r=>if a=0 then Lu r else a
theorem NJ:∀{l:List Int} {k:Nat} (hk:k<l.length),l[k]≠0->(∀j (h:j<l.length),j<k->l[j]=0)->Lu l=l[k]
 |a::r,0,_,h,_=>by
  have h':a≠0:=h
  rw[Lu,if_neg h'];rfl
 |a::r,k+1,hk,h,h0=>by
  have h':a=0:=h0 0 (by simp) ah
  rw[Lu,if_pos h',NJ (k:=k) (by simpa using hk) h fun j hj Bg=>h0 (j+1) (by simpa using hj) ah];rfl
theorem Fi:∀{l:List Int},(∀j (h:j<l.length),l[j]=0)->Lu l=0
 |[],_=>rfl
 |a::r,h=>by
  have h':a=0:=h 0 (by simp)
  rw[Lu,if_pos h',Fi fun j hj=>h (j+1) (by simpa using hj)]
theorem QG (a b:Int):Lu [a,b]=QF a b:=by
 unfold QF
 by_cases h:a=0
 ·rw[Lu,if_pos h,if_pos h,Lu,Lu];split<;>simp_all
 ·rw[Lu,if_neg h,if_neg h]
theorem Pr (l:List Int):au Tryz.prog 232 [.sl (l.map aC)] (.int .i64 (Lu l)):=by
 refine au.body eI rfl fun hl n0=>?_
 have hlen:l.length<=9223372036854775807:=by simpa using(hl (.sl (l.map aC)) (by simp)).len
 clear hl
 (try((repeat(revert N;apply Pn.out));refine wk @Nat.zero_add ?_;(repeat(apply Pn.mk;intro N hN))))
 refine bf (fun n env st=>∃k:Nat,n=(l.length)-k/\k<=(l.length)/\env 8=.int .i64 (k:Int)/\(∀j:Nat,j<k->∀h:j<l.length,l[j]=0)) (l.length) ⟨0,ah,ah,sl @Nat.zero_add,fun _ h=>absurd h (Nat.not_lt_zero _)⟩ ?_
 rintro n_a env_a st_a ⟨k,rfl,ale,a8,nT⟩ dX
 have a3:=dX 3 (by kernel_rfl);have a6:=dX 6 (by kernel_rfl);have a7:=dX 7 (by kernel_rfl)
 simp only[go_sem, ↓reduceIte,Nat.reduceEqDiff,Nat.reduceAdd,Nat.reduceSub,Nat.reduceLeDiff,reduceCtorEq]at a3 a6 a7
 clear dX
 by_cases hk:(k:Int)<(l.length:Int)
 ·have cV:∀{e:Env},(e 8=.int .i64 (IntKind.i64.wrap ((k:Int)+1)))->(∀h:k<l.length,l[k]=0)->∃m0,m0<(l.length)-k/\∃k:Nat,m0=(l.length)-k/\k<=(l.length)/\e 8=.int .i64 (k:Int)/\(∀j:Nat,j<k->∀h:j<l.length,l[j]=0):=fun x1 x2=>⟨_,ah,k+1,rfl,ah,(by rw[x1,aE ah]),(all_succ nT x2)⟩
  have fC:k<l.length:=ah
  have fa:(l.map aC)[k]? =some (aC l[k]):=by simp[fC]
  generalize hv:l[k]=v at fa
  by_cases h0:v=0
  ·have e:decide (v=0)=true:=decide_eq_true h0
   (try((repeat(revert N;apply Pn.out));refine wk (tw @a8 (tw @a3 (tw @a6 (tw @a7 (tw @e (tw @hk (tw @fa @aC.eq_1))))))) ?_;(repeat(apply Pn.mk;intro N hN))))
   exact cV (sd (tw @a8 (tw @a3 (tw @a6 @a7)))) (fun _=>hv.trans h0)
  ·have e:decide (v=0)=false:=decide_eq_false h0
   (try((repeat(revert N;apply Pn.out));refine wk (tw @a8 (tw @a3 (tw @a6 (tw @a7 (tw @e (tw @hk (tw @fa @aC.eq_1))))))) ?_;(repeat(apply Pn.mk;intro N hN))))
   exact dq (b:=v) (.inl rfl) (sd @Nat.zero_add) (by rw[NJ fC (by rw[hv];exact h0) fun j h hj=>nT j hj h,hv])
 ·(try((repeat(revert N;apply Pn.out));refine wk (tw @a8 (tw @a3 (tw @a6 (tw @a7 @hk)))) ?_;(repeat(apply Pn.mk;intro N hN))))
  exact dq (b:=0) (.inl rfl) (sd @Nat.zero_add) (by rw[Fi fun j h=>nT j ah h])
section
attribute [local go_sem] List.drop_zero List.take_succ_cons List.take_zero List.length_cons List.length_nil jb Cg qo
theorem pE (a b:aq):au Tryz.prog 189 [.agg (ad a),.agg (ad b)] (.int .i64 (qh a b)):=by
 refine au.body eI rfl fun hl n0=>?_
 clear hl
 have h1:=AW a.eM b.eM
 have h2:=AW a.eS b.eS
 have h3:=Pr [tO a.eM b.eM,tO a.eS b.eS]
 rw[QG,List.map_cons,List.map_cons,List.map_nil,aC,aC]at h3
 (repeat(first|((repeat(revert N;apply Pn.out));refine wk @ad.eq_1 ?_;(repeat(apply Pn.mk;intro N hN)))|((try apply Or.inl);refine⟨_,au.x (h1) (sd @ad.eq_1),?_⟩;apply hN;clear hN N)|((try apply Or.inl);refine⟨_,au.x (h2) (sd @ad.eq_1),?_⟩;apply hN;clear hN N)|((try apply Or.inl);refine⟨_,au.x (h3) (sd @ad.eq_1),?_⟩;apply hN;clear hN N)))
 exact dq (b:=qh a b) (.inl rfl) (by simp only[go_sem, ↓reduceIte,Nat.reduceEqDiff,Nat.reduceAdd,Nat.reduceSub,Nat.reduceLeDiff,reduceCtorEq,qh]) rfl
end
theorem P9 (a b:aq):au Tryz.prog 131 [.agg (ad a),.agg (ad b)] (.bool (jj a b)):=by
 refine au.body eI rfl fun hl n0=>?_
 clear hl
 have h1:=pE a b
 rw[ad,ad]at h1
 (repeat(first|((repeat(revert N;apply Pn.out));refine wk @ad.eq_1 ?_;(repeat(apply Pn.mk;intro N hN)))|((try apply Or.inl);refine⟨_,au.x (h1) (sd @ad.eq_1),?_⟩;apply hN;clear hN N)))
 exact bQ (b:=decide (qh a b<0)) (.inl rfl) (sd @Nat.zero_add) (nk a b)
theorem lD (t:aa) (p:aq):au Tryz.prog 169 [.agg (ab t),.agg (ad p)] (.int .i64 (qh t.aQ p)):=by
 refine au.body eI rfl fun hl n0=>?_
 clear hl
 have h1:=pE t.aQ p
 rw[ad,ad]at h1
 (repeat(first|((repeat(revert N;apply Pn.out));refine wk (tw @ab.eq_1 @ad.eq_1) ?_;(repeat(apply Pn.mk;intro N hN)))|((try apply Or.inl);refine⟨_,au.x (h1) (sd (tw @ab.eq_1 @ad.eq_1)),?_⟩;apply hN;clear hN N)))
 exact dq (b:=qh t.aQ p) (.inl rfl) (sd @Nat.zero_add) rfl
theorem JQ (l:List aa):au Tryz.prog 71 [.agg [.sl (l.map ab)]] (.bool (qn l)):=by
 refine au.body eI rfl fun hl n0=>?_
 have hlen:l.length<=9223372036854775807:=by
  have h1:=(hl (.agg [.sl (l.map ab)]) (by simp)).Sy (a:=.sl (l.map ab)) (by simp)
  simpa using h1.len
 clear hl
 (try((repeat(revert N;apply Pn.out));refine wk @Nat.zero_add ?_;(repeat(apply Pn.mk;intro N hN))))
 refine bf (fun n env st=>∃k:Nat,n=(l.length)-k/\k<=(l.length)/\env 8=.int .i64 (k:Int)/\st.get ⟨71000000,n0⟩=some ⟨true,1,[[.sl (l.map ab)]]⟩/\(∀j:Nat,j<k->F8 l j)) (l.length) ⟨0,ah,ah,sl @Nat.zero_add,sl @Nat.zero_add,fun _ h=>absurd h (Nat.not_lt_zero _)⟩ ?_
 rintro n_a env_a st_a ⟨k,rfl,ale,a8,ag0,nT⟩ dX
 have a1:=dX 1 (by kernel_rfl);have a6:=dX 6 (by kernel_rfl);have a7:=dX 7 (by kernel_rfl)
 simp only[go_sem, ↓reduceIte,Nat.reduceEqDiff,Nat.reduceAdd,Nat.reduceSub,Nat.reduceLeDiff,reduceCtorEq]at a1 a6 a7
 clear dX
 by_cases hk:(k:Int)<(l.length:Int)
 ·have cV:∀{e:Env} {gg:Rows},(e 8=.int .i64 (IntKind.i64.wrap ((k:Int)+1)))->(gg ⟨71000000,n0⟩=some ⟨true,1,[[.sl (l.map ab)]]⟩)->(F8 l k)->∃m0,m0<(l.length)-k/\∃k:Nat,m0=(l.length)-k/\k<=(l.length)/\e 8=.int .i64 (k:Int)/\gg ⟨71000000,n0⟩=some ⟨true,1,[[.sl (l.map ab)]]⟩/\(∀j:Nat,j<k->F8 l j):=fun x1 x2 x3=>⟨_,ah,k+1,rfl,ah,(by rw[x1,aE ah]),x2,(all_succ nT x3)⟩
  have fC:k<l.length:=ah
  have fa:=fV fC
  have lS:(¬F8 l k)->¬lJ l:=fun h hp=>h (hp.ok k fC)
  have hp:=tC (bd l k).aQ
  have ht:=Bl (bd l k).bK 160 ah ah
  rw[show(160:Int)-1=159 from rfl]at ht
  cases b1:Ac (bd l k).aQ
  ·rw[b1]at hp
   (have zF:=tw @a8 (tw @ag0 (tw @a1 (tw @a6 (tw @a7 (tw @hk (tw @fa (tw @ab.eq_1 @ad.eq_1)))))));(repeat(first|((repeat(revert N;apply Pn.out));refine wk zF ?_;(repeat(apply Pn.mk;intro N hN)))|((try apply Or.inl);refine⟨_,au.x (hp) (sd zF),?_⟩;apply hN;clear hN N)));try clear zF)
   exact bQ (b:=false) (.inl rfl) (sd @Nat.zero_add) (lk (lS fun h=>by rw[F8,b1]at h;cases h.1))
  rw[b1]at hp
  cases b2:iE (bd l k).bK 0 159
  ·rw[b2]at ht
   (have zF:=tw @a8 (tw @ag0 (tw @a1 (tw @a6 (tw @a7 (tw @hk (tw @fa (tw @ab.eq_1 @ad.eq_1)))))));(repeat(first|((repeat(revert N;apply Pn.out));refine wk zF ?_;(repeat(apply Pn.mk;intro N hN)))|((try apply Or.inl);refine⟨_,au.x (hp) (sd zF),?_⟩;apply hN;clear hN N)|((try apply Or.inl);refine⟨_,au.x (ht) (sd zF),?_⟩;apply hN;clear hN N)));try clear zF)
   exact bQ (b:=false) (.inl rfl) (sd @Nat.zero_add) (lk (lS fun h=>by rw[F8,b2]at h;cases h.2.1))
  rw[b2]at ht
  by_cases h0:(0:Int)<(k:Int)
  ·have uU:=fV (l:=l) (i:=k-1) ah
   have hw:IntKind.i64.wrap ((k:Int)-1)=((k-1:Nat):Int):=by rw[cq ah];omega
   have hq:=P9 (bd l (k-1)).aQ (bd l k).aQ
   cases b3:jj (bd l (k-1)).aQ (bd l k).aQ
   ·rw[b3]at hq
    (have zF:=tw @a8 (tw @ag0 (tw @a1 (tw @a6 (tw @a7 (tw @hk (tw @fa (tw @uU (tw @h0 (tw @hw (tw @ab.eq_1 @ad.eq_1))))))))));(repeat(first|((repeat(revert N;apply Pn.out));refine wk zF ?_;(repeat(apply Pn.mk;intro N hN)))|((try apply Or.inl);refine⟨_,au.x (hp) (sd zF),?_⟩;apply hN;clear hN N)|((try apply Or.inl);refine⟨_,au.x (ht) (sd zF),?_⟩;apply hN;clear hN N)|((try apply Or.inl);refine⟨_,au.x (hq) (sd zF),?_⟩;apply hN;clear hN N)));try clear zF)
    exact bQ (b:=false) (.inl rfl) (sd @Nat.zero_add) (lk (lS fun h=>by have:=h.2.2 ah;rw[b3]at this;cases this))
   ·rw[b3]at hq
    (have zF:=tw @a8 (tw @ag0 (tw @a1 (tw @a6 (tw @a7 (tw @hk (tw @fa (tw @uU (tw @h0 (tw @hw (tw @ab.eq_1 @ad.eq_1))))))))));(repeat(first|((repeat(revert N;apply Pn.out));refine wk zF ?_;(repeat(apply Pn.mk;intro N hN)))|((try apply Or.inl);refine⟨_,au.x (hp) (sd zF),?_⟩;apply hN;clear hN N)|((try apply Or.inl);refine⟨_,au.x (ht) (sd zF),?_⟩;apply hN;clear hN N)|((try apply Or.inl);refine⟨_,au.x (hq) (sd zF),?_⟩;apply hN;clear hN N)));try clear zF)
    refine cV ?_ ?_ (⟨b1,b2,fun _=>b3⟩)
    all_goals simp only[go_sem, ↓reduceIte,Nat.reduceEqDiff,Nat.reduceAdd,Nat.reduceSub,Nat.reduceLeDiff,reduceCtorEq,a8,ag0,a1,a6,a7]
  ·have z7:k=0:=ah
   (have zF:=tw @a8 (tw @ag0 (tw @a1 (tw @a6 (tw @a7 (tw @hk (tw @fa (tw @h0 (tw @ab.eq_1 @ad.eq_1))))))));(repeat(first|((repeat(revert N;apply Pn.out));refine wk zF ?_;(repeat(apply Pn.mk;intro N hN)))|((try apply Or.inl);refine⟨_,au.x (hp) (sd zF),?_⟩;apply hN;clear hN N)|((try apply Or.inl);refine⟨_,au.x (ht) (sd zF),?_⟩;apply hN;clear hN N)));try clear zF)
   refine cV ?_ ?_ (⟨b1,b2,fun h=>ah⟩)
   all_goals simp only[go_sem, ↓reduceIte,Nat.reduceEqDiff,Nat.reduceAdd,Nat.reduceSub,Nat.reduceLeDiff,reduceCtorEq,a8,ag0,a1,a6,a7]
 ·(try((repeat(revert N;apply Pn.out));refine wk (tw @a8 (tw @ag0 (tw @a1 (tw @a6 (tw @a7 @hk))))) ?_;(repeat(apply Pn.mk;intro N hN))))
  refine bQ (b:=decide ((l.length:Int)<=500)) (.inl rfl) (sd @Nat.zero_add) ?_
  by_cases h5:(l.length:Int)<=500
  ·rw[decide_eq_true h5];exact A5 ⟨ah,fun i hi=>nT i ah⟩
  ·rw[decide_eq_false h5];exact lk fun h=>by have:=h.xD;omega
theorem Jo (cells:List aa) (p:aq) (hR:nC cells) (Ta:cells.length<=1048576):
  au Tryz.prog 168 [.sl (cells.map ab),.agg (ad p),.fn 169 []] (.fD [.int .i64 (um cells p),.bool (decide (um cells p<cells.length)&&decide ((bd cells (um cells p)).aQ=p))]):=by
 refine au.body eI rfl fun hl n0=>?_
 clear hl
 (try((repeat(revert N;apply Pn.out));refine wk @ad.eq_1 ?_;(repeat(apply Pn.mk;intro N hN))))
 refine bf (fun n env st=>∃i j:Nat,n=j-i/\i<=j/\j<=cells.length/\(∀x,x<i->jj (bd cells x).aQ p=true)/\(∀x,j<=x->x<cells.length->jj (bd cells x).aQ p=false)/\env 9=.int .i64 i/\env 10=.int .i64 j/\st.get ⟨168000000,n0⟩=some ⟨true,2,[ad p]⟩) cells.length ⟨0,cells.length,ah,ah,ah,fun x h=>ah,fun x h1 h2=>ah,by(simp only[go_sem, ↓reduceIte,Nat.reduceEqDiff,Nat.reduceAdd,Nat.reduceSub,Nat.reduceLeDiff,reduceCtorEq])<;>rfl,sd @Nat.zero_add,sd @ad.eq_1⟩ ?_
 rintro n env st ⟨i,j,rfl,Be,hj,j9,FW,h9,h10,hg⟩ fr
 have h0:=fr 0 (by kernel_rfl)
 have h2:=fr 2 (by kernel_rfl)
 have h4:=fr 4 (by kernel_rfl)
 have h8:=fr 8 (by kernel_rfl)
 simp only[go_sem, ↓reduceIte,Nat.reduceEqDiff,Nat.reduceAdd,Nat.reduceSub,Nat.reduceLeDiff,reduceCtorEq]at h0 h2 h4 h8
 clear fr
 by_cases eu:(i:Int)<(j:Int)
 ·have e1:IntKind.i64.wrap ((i:Int)+j)=((i+j:Nat):Int):=by rw[cq ah];rfl
  have hm:(i+j) / 2<cells.length:=ah
  have fE:(cells.map ab)[(i+j) / 2]? =some (ab (bd cells ((i+j) / 2))):=fV (l:=cells) hm
  have e2:IntKind.i64.wrap ((IntKind.u64.wrap ((i+j:Nat):Int)).fdiv (2 ^ min 1 IntKind.u64.bits))=(((i+j) / 2:Nat):Int):=by
   have h:IntKind.u64.wrap ((i+j:Nat):Int)=((i+j:Nat):Int):=by rw[IntKind.wrap_u64];omega
   rw[h,show min 1 IntKind.u64.bits=1 from rfl,show((2:Int) ^ 1)=2 from rfl,Int.fdiv_eq_ediv_of_nonneg _ ah]
   rw[cq ah];omega
  have Wk:IntKind.i64.wrap ((IntKind.u64.wrap ((i+j:Nat):Int)).fdiv (2 ^ min 1 64))=(((i+j) / 2:Nat):Int):=e2
  have e3:=aE (k:=(i+j) / 2) ah
  by_cases hc:qh (bd cells ((i+j) / 2)).aQ p<0
  ·have hl:jj (bd cells ((i+j) / 2)).aQ p=true:=by rw[<-nk];simpa using hc
   (have zF:=tw @h0 (tw @h2 (tw @h4 (tw @h8 (tw @h9 (tw @h10 (tw @hg (tw @eu (tw @e1 (tw @e2 (tw @Wk (tw @fE (tw @hc (tw @ab.eq_1 @ad.eq_1)))))))))))));(repeat(first|((repeat(revert N;apply Pn.out));refine wk zF ?_;(repeat(apply Pn.mk;intro N hN)))|((try apply Or.inl);refine⟨_,au.x (lD (bd cells ((i+j) / 2)) p) (sd zF),?_⟩;apply hN;clear hN N)));try clear zF)
   refine⟨_,?_,(i+j) / 2+1,j,rfl,ah,hj,fun x hx=>?_,FW,sd @e3,sd @h10,sd (tw @hg @ad.eq_1)⟩
   ·omega
   ·by_cases ED:x=(i+j) / 2
    ·subst ED;exact hl
    ·exact iL (hR x _ ah hm) hl
  ·have hl:jj (bd cells ((i+j) / 2)).aQ p=false:=by rw[<-nk];simpa using hc
   (have zF:=tw @h0 (tw @h2 (tw @h4 (tw @h8 (tw @h9 (tw @h10 (tw @hg (tw @eu (tw @e1 (tw @e2 (tw @Wk (tw @fE (tw @hc (tw @ab.eq_1 @ad.eq_1)))))))))))));(repeat(first|((repeat(revert N;apply Pn.out));refine wk zF ?_;(repeat(apply Pn.mk;intro N hN)))|((try apply Or.inl);refine⟨_,au.x (lD (bd cells ((i+j) / 2)) p) (sd zF),?_⟩;apply hN;clear hN N)));try clear zF)
   refine⟨_,?_,i,(i+j) / 2,rfl,ah,ah,j9,fun x h1 h2=>?_,sd @h9,sd (tw @e2 @Wk),sd (tw @hg @ad.eq_1)⟩
   ·omega
   ·by_cases ED:x=(i+j) / 2
    ·subst ED;exact hl
    ·rw[Bool.eq_false_iff]
     intro hc
     have h3:=iL (hR ((i+j) / 2) x ah h2) hc
     rw[hl]at h3;cases h3
 ·have TE:i=j:=ah
  subst TE
  have GP:um cells p=i:=CA hj j9 fun h=>FW i (Nat.le_refl _) h
  by_cases hn:(i:Int)<(cells.length:Int)
  ·have gh:i<cells.length:=ah
   have fE:(cells.map ab)[i]? =some (ab (bd cells i)):=fV (l:=cells) gh
   have hd:decide (qh (bd cells i).aQ p=0)=decide ((bd cells i).aQ=p):=by simp only[Jq]
   (have zF:=tw @h0 (tw @h2 (tw @h4 (tw @h8 (tw @h9 (tw @h10 (tw @hg (tw @eu (tw @hn (tw @fE (tw @ab.eq_1 @ad.eq_1))))))))));(repeat(first|((repeat(revert N;apply Pn.out));refine wk zF ?_;(repeat(apply Pn.mk;intro N hN)))|((try apply Or.inl);refine⟨_,au.x (lD (bd cells i) p) (sd zF),?_⟩;apply hN;clear hN N)));try clear zF)
   refine ki (.inl rfl) (r1:=.int .i64 i) (r2:=.bool (decide ((bd cells i).aQ=p))) ?_ ?_ ?_
   ·simp only[go_sem, ↓reduceIte,Nat.reduceEqDiff,Nat.reduceAdd,Nat.reduceSub,Nat.reduceLeDiff,reduceCtorEq]
   ·simp only[go_sem, ↓reduceIte,Nat.reduceEqDiff,Nat.reduceAdd,Nat.reduceSub,Nat.reduceLeDiff,reduceCtorEq,hd]
   ·simp only[fK,cu,cZ,eL,fN,Option.map_some,GP,gh,decide_true,Bool.true_and]
  ·have gh:¬i<cells.length:=ah
   (try((repeat(revert N;apply Pn.out));refine wk (tw @h0 (tw @h2 (tw @h4 (tw @h8 (tw @h9 (tw @h10 (tw @hg (tw @eu (tw @hn (tw @ab.eq_1 @ad.eq_1)))))))))) ?_;(repeat(apply Pn.mk;intro N hN))))
   refine ki (.inl rfl) (r1:=.int .i64 i) (r2:=.bool false) ?_ ?_ ?_
   ·simp only[go_sem, ↓reduceIte,Nat.reduceEqDiff,Nat.reduceAdd,Nat.reduceSub,Nat.reduceLeDiff,reduceCtorEq]
   ·simp only[go_sem, ↓reduceIte,Nat.reduceEqDiff,Nat.reduceAdd,Nat.reduceSub,Nat.reduceLeDiff,reduceCtorEq]
   ·simp only[fK,cu,cZ,eL,fN,Option.map_some,GP,gh,decide_false,Bool.false_and]
theorem KG (l:List aa) (p:aq) (hR:nC l) (Ta:l.length<=1048576):au Tryz.prog 258 [.agg [.sl (l.map ab)],.agg (ad p)] (.int .i64 (ez l p)):=by
 refine au.body eI rfl fun hl n0=>?_
 clear hl
 rw[IL hR]
 have hb:=Jo l p hR Ta
 rw[ad]at hb
 cases hf:(decide (um l p<l.length)&&decide ((bd l (um l p)).aQ=p))
 ·rw[hf]at hb
  (repeat(first|((repeat(revert N;apply Pn.out));refine wk @ad.eq_1 ?_;(repeat(apply Pn.mk;intro N hN)))|((try apply Or.inl);refine⟨_,au.x (hb) (sd @ad.eq_1),?_⟩;apply hN;clear hN N)))
  exact dq (b:=-1) (.inl rfl) (sd @Nat.zero_add) (by rw[if_neg];intro h;simp[h.1,h.2]at hf)
 ·rw[hf]at hb
  (repeat(first|((repeat(revert N;apply Pn.out));refine wk @ad.eq_1 ?_;(repeat(apply Pn.mk;intro N hN)))|((try apply Or.inl);refine⟨_,au.x (hb) (sd @ad.eq_1),?_⟩;apply hN;clear hN N)))
  exact dq (b:=(um l p:Int)) (.inl rfl) (sd @Nat.zero_add) (by rw[if_pos];simpa using hf)
theorem sQ (l:List aa) (p:aq) (hR:nC l) (Ta:l.length<=1048576):au Tryz.prog 155 [.dQ [.sl (l.map ab)],.agg (ad p)] (.int .i64 (ez l p)):=by
 refine au.body eI rfl fun hl n0=>?_
 clear hl
 rw[IL hR]
 (try((repeat(revert N;apply Pn.out));refine wk @ad.eq_1 ?_;(repeat(apply Pn.mk;intro N hN))))
 refine bf (fun n env st=>∃i j:Nat,n=j-i/\i<=j/\j<=l.length/\(∀x,x<i->jj (bd l x).aQ p=true)/\(∀x,j<=x->x<l.length->jj (bd l x).aQ p=false)/\env 5=.int .i64 i/\env 6=.int .i64 j/\st.get ⟨155000000,n0⟩=some ⟨true,2,[ad p]⟩) l.length ⟨0,l.length,ah,ah,ah,fun x h=>ah,fun x h1 h2=>ah,by(simp only[go_sem, ↓reduceIte,Nat.reduceEqDiff,Nat.reduceAdd,Nat.reduceSub,Nat.reduceLeDiff,reduceCtorEq])<;>rfl,sd @Nat.zero_add,sd @ad.eq_1⟩ ?_
 rintro n env st ⟨i,j,rfl,Be,hj,j9,FW,h5,h6,hg⟩ fr
 have h0:=fr 0 (by kernel_rfl)
 have h3:=fr 3 (by kernel_rfl)
 simp only[go_sem, ↓reduceIte,Nat.reduceEqDiff,Nat.reduceAdd,Nat.reduceSub,Nat.reduceLeDiff,reduceCtorEq]at h0 h3
 clear fr
 by_cases eu:(i:Int)<(j:Int)
 ·have e1:IntKind.i64.wrap ((i:Int)+j)=((i+j:Nat):Int):=by rw[cq ah];rfl
  have hm:(i+j) / 2<l.length:=ah
  have fE:=fV hm
  have e2:IntKind.i64.wrap (((i+j:Nat):Int).tdiv 2)=(((i+j) / 2:Nat):Int):=by
   rw[Int.tdiv_eq_ediv_of_nonneg ah,cq ah];omega
  have e3:=aE (k:=(i+j) / 2) ah
  have hq:=ni (bd l ((i+j) / 2)).aQ p
  cases hl:jj (bd l ((i+j) / 2)).aQ p
  ·rw[hl]at hq
   (have zF:=tw @h0 (tw @h3 (tw @h5 (tw @h6 (tw @hg (tw @eu (tw @e1 (tw @e2 (tw @fE (tw @ab.eq_1 @ad.eq_1)))))))));(repeat(first|((repeat(revert N;apply Pn.out));refine wk zF ?_;(repeat(apply Pn.mk;intro N hN)))|((try apply Or.inl);refine⟨_,au.x (hq) (sd zF),?_⟩;apply hN;clear hN N)));try clear zF)
   refine⟨_,?_,i,(i+j) / 2,rfl,ah,ah,j9,fun x h1 h2=>?_,sd @h5,sd @e2,sd (tw @hg @ad.eq_1)⟩
   ·omega
   ·by_cases ED:x=(i+j) / 2
    ·subst ED;exact hl
    ·rw[Bool.eq_false_iff]
     intro hc
     have h3:=iL (hR ((i+j) / 2) x ah h2) hc
     rw[hl]at h3;cases h3
  ·rw[hl]at hq
   (have zF:=tw @h0 (tw @h3 (tw @h5 (tw @h6 (tw @hg (tw @eu (tw @e1 (tw @e2 (tw @fE (tw @ab.eq_1 @ad.eq_1)))))))));(repeat(first|((repeat(revert N;apply Pn.out));refine wk zF ?_;(repeat(apply Pn.mk;intro N hN)))|((try apply Or.inl);refine⟨_,au.x (hq) (sd zF),?_⟩;apply hN;clear hN N)));try clear zF)
   refine⟨_,?_,(i+j) / 2+1,j,rfl,ah,hj,fun x hx=>?_,FW,sd @e3,sd @h6,sd (tw @hg @ad.eq_1)⟩
   ·omega
   ·by_cases ED:x=(i+j) / 2
    ·subst ED;exact hl
    ·exact iL (hR x _ ah hm) hl
 ·have TE:i=j:=ah
  subst TE
  have GP:um l p=i:=CA hj j9 fun h=>FW i (Nat.le_refl _) h
  by_cases hn:(i:Int)<(l.length:Int)
  ·have gh:i<l.length:=ah
   have fE:=fV gh
   by_cases hp:(bd l i).aQ=p
   ·have hx:decide ((bd l i).aQ.eS=p.eS)=true:=decide_eq_true (by rw[hp])
    have hy:decide ((bd l i).aQ.eM=p.eM)=true:=decide_eq_true (by rw[hp])
    (try((repeat(revert N;apply Pn.out));refine wk (tw @h0 (tw @h3 (tw @h5 (tw @h6 (tw @hg (tw @eu (tw @hn (tw @fE (tw @hx (tw @hy (tw @ab.eq_1 @ad.eq_1))))))))))) ?_;(repeat(apply Pn.mk;intro N hN))))
    exact dq (b:=(i:Int)) (.inl rfl) (sd @Nat.zero_add) (by rw[GP,if_pos ⟨gh,hp⟩])
   ·by_cases hx:(bd l i).aQ.eS=p.eS
    ·have w7:decide ((bd l i).aQ.eS=p.eS)=true:=decide_eq_true hx
     have Za:decide ((bd l i).aQ.eM=p.eM)=false:=decide_eq_false fun h=>hp (zt hx h)
     (try((repeat(revert N;apply Pn.out));refine wk (tw @h0 (tw @h3 (tw @h5 (tw @h6 (tw @hg (tw @eu (tw @hn (tw @fE (tw @w7 (tw @Za (tw @ab.eq_1 @ad.eq_1))))))))))) ?_;(repeat(apply Pn.mk;intro N hN))))
     exact dq (b:=-1) (.inl rfl) (sd @Nat.zero_add) (by rw[GP,if_neg fun h=>hp h.2])
    ·have w7:decide ((bd l i).aQ.eS=p.eS)=false:=decide_eq_false hx
     (try((repeat(revert N;apply Pn.out));refine wk (tw @h0 (tw @h3 (tw @h5 (tw @h6 (tw @hg (tw @eu (tw @hn (tw @fE (tw @w7 (tw @Bool.false_and (tw @ab.eq_1 @ad.eq_1))))))))))) ?_;(repeat(apply Pn.mk;intro N hN))))
     exact dq (b:=-1) (.inl rfl) (sd @Nat.zero_add) (by rw[GP,if_neg fun h=>hp h.2])
  ·have gh:¬i<l.length:=ah
   (try((repeat(revert N;apply Pn.out));refine wk (tw @h0 (tw @h3 (tw @h5 (tw @h6 (tw @hg (tw @eu (tw @hn (tw @ab.eq_1 @ad.eq_1)))))))) ?_;(repeat(apply Pn.mk;intro N hN))))
   exact dq (b:=-1) (.inl rfl) (sd @Nat.zero_add) (by rw[GP,if_neg fun h=>gh h.1])
theorem Ql (l:List aa) (p:aq) (hR:nC l) (Ta:l.length<=1048576):au Tryz.prog 87 [.dQ [.sl (l.map ab)],.agg (ad p)] (.int .i64 (fG l p)):=by
 refine au.body eI rfl fun hl n0=>?_
 clear hl
 have hb:=sQ l p hR Ta
 by_cases hi:ez l p<0
 ·rw[ad]at hb
  (repeat(first|((repeat(revert N;apply Pn.out));refine wk (tw @ad.eq_1 @hi) ?_;(repeat(apply Pn.mk;intro N hN)))|((try apply Or.inl);refine⟨_,au.x (hb) (sd (tw @ad.eq_1 @hi)),?_⟩;apply hN;clear hN N)))
  exact dq (b:=-1) (.inl rfl) (sd @Nat.zero_add) (by rw[fG,if_neg ah])
 ·have h0:0<=ez l p:=ah
  have hg:=fV (kb h0).1
  rw[ad]at hb
  (have zF:=tw @ad.eq_1 (tw @hi (tw @h0 (tw @hg @ab.eq_1)));(repeat(first|((repeat(revert N;apply Pn.out));refine wk zF ?_;(repeat(apply Pn.mk;intro N hN)))|((try apply Or.inl);refine⟨_,au.x (hb) (sd zF),?_⟩;apply hN;clear hN N)));try clear zF)
  exact dq (b:=(bd l (ez l p).toNat).bK) (.inl rfl) (sd @Nat.zero_add) (by rw[fG,if_pos h0])
def jN (s:ay) (l:List aa):Prop:=lJ l/\∀t∈l,eO s t.bK=true
noncomputable def tD (s:ay) (l:List aa):Bool:=qn l&&l.all fun t=>eO s t.bK
theorem nW {s:ay} {l:List aa}:tD s l=true↔jN s l:=by simp[tD,jN,JJ]
theorem Gn:V3 ab (fun c=>.agg (ab c)) 3 true:=⟨fun _=>rfl,fun _=>rfl,fun x g=>by simp only[ab,ai,ar,aY,aB,Option.map_some]⟩
theorem Kz (s:ay) (t:aa) (hs:s.aj.length<=1048576):au Tryz.prog 171 [.agg (ab t),.dQ (ae s)] (.bool (!eO s t.bK)):=by
 refine au.body eI rfl fun hl n0=>?_
 clear hl
 have h:=Na s t.bK
 rw[ae]at h
 (repeat(first|((repeat(revert N;apply Pn.out));refine wk (tw @ab.eq_1 @ae.eq_1) ?_;(repeat(apply Pn.mk;intro N hN)))|((try apply Or.inl);refine⟨_,au.x (h) (sd (tw @ab.eq_1 @ae.eq_1)),?_⟩;apply hN;clear hN N)))
 exact bQ (b:= !eO s t.bK) (.inl rfl) (sd @Nat.zero_add) rfl
theorem Q5 (s:ay) (l:List aa) (hs:s.aj.length<=1048576) (hl:l.length<=1048576):au Tryz.prog 170 [.sl (l.map ab),.fn 171 [.dQ (ae s)]] (.bool (l.any fun t=> !eO s t.bK)):=
 l9 Gn (show nU Tryz.prog 170=some (Cl 170 207) by kernel_rfl)
  (show nU Tryz.prog 207=some (vM 207 3 true) by kernel_rfl) l hl _ _ _ rfl (fun g=>by rw[ai,aP,ar];rfl) (fun x _=>Kz s x hs) fun g=>by rw[ai,aP,ar];rfl
theorem Pe {α:Type} (p:α->Bool) (l:List α):(!l.any fun t=> !p t)=l.all p:=by
 induction l with
 |nil=>rfl
 |cons x l ih=>simp only[List.any_cons,List.all_cons,<-ih];cases p x<;>simp
theorem xu (s:ay) (l:List aa) (hn:iy s) (hg:s.aI.length<=1048576) (ht:s.aj.length<=1048576) (hs:∀t∈s.aj,t.cz.length<=1048576) (hl:l.length<=1048576):au Tryz.prog 103 [.agg (ae s),.agg [.sl (l.map ab)]] (.bool (uH s&&tD s l)):=by
 refine au.body eI rfl fun hl n0=>?_
 clear hl
 have h1:=Gb s hn hg ht hs
 have h2:=JQ l
 have h3:=Q5 s l ht hl
 rw[ae]at h1 h3
 cases b1:uH s
 ·rw[b1]at h1
  (repeat(first|((repeat(revert N;apply Pn.out));refine wk @ae.eq_1 ?_;(repeat(apply Pn.mk;intro N hN)))|((try apply Or.inl);refine⟨_,au.x (h1) (sd @ae.eq_1),?_⟩;apply hN;clear hN N)))
  exact bQ (b:=false) (.inl rfl) (sd @Nat.zero_add) rfl
 rw[b1]at h1
 cases b2:qn l
 ·rw[b2]at h2
  (repeat(first|((repeat(revert N;apply Pn.out));refine wk @ae.eq_1 ?_;(repeat(apply Pn.mk;intro N hN)))|((try apply Or.inl);refine⟨_,au.x (h1) (sd @ae.eq_1),?_⟩;apply hN;clear hN N)|((try apply Or.inl);refine⟨_,au.x (h2) (sd @ae.eq_1),?_⟩;apply hN;clear hN N)))
  exact bQ (b:=false) (.inl rfl) (sd @Nat.zero_add) (by rw[tD,b2];rfl)
 rw[b2]at h2
 (repeat(first|((repeat(revert N;apply Pn.out));refine wk @ae.eq_1 ?_;(repeat(apply Pn.mk;intro N hN)))|((try apply Or.inl);refine⟨_,au.x (h1) (sd @ae.eq_1),?_⟩;apply hN;clear hN N)|((try apply Or.inl);refine⟨_,au.x (h2) (sd @ae.eq_1),?_⟩;apply hN;clear hN N)|((try apply Or.inl);refine⟨_,au.x (h3) (sd @ae.eq_1),?_⟩;apply hN;clear hN N)))
 exact bQ (b:= !(l.any fun t=> !eO s t.bK)) (.inl rfl) (sd @Nat.zero_add) (by rw[Pe,tD,b2];rfl)
theorem Qm (s:ay) (l:List aa):au Tryz.prog 138 [.dQ (ae s),.dQ [.sl (l.map ab)]] (.bool (tD s l)):=by
 refine au.body eI rfl fun hl n0=>?_
 have hlen:l.length<=9223372036854775807:=by
  have h1:=(hl (.dQ [.sl (l.map ab)]) (by simp)).EJ (a:=.sl (l.map ab)) (by simp)
  simpa using h1.len
 clear hl
 have h2:=Kc l
 cases b2:qn l
 ·rw[b2]at h2
  (repeat(first|((repeat(revert N;apply Pn.out));refine wk @Nat.zero_add ?_;(repeat(apply Pn.mk;intro N hN)))|((try apply Or.inl);refine⟨_,au.x (h2) (sd @Nat.zero_add),?_⟩;apply hN;clear hN N)))
  exact bQ (b:=false) (.inl rfl) (sd @Nat.zero_add) (by rw[tD,b2];rfl)
 rw[b2]at h2
 (repeat(first|((repeat(revert N;apply Pn.out));refine wk @Nat.zero_add ?_;(repeat(apply Pn.mk;intro N hN)))|((try apply Or.inl);refine⟨_,au.x (h2) (sd @Nat.zero_add),?_⟩;apply hN;clear hN N)))
 refine bf (fun n env st=>∃k:Nat,n=(l.length)-k/\k<=(l.length)/\env 5=.int .i64 (k:Int)/\(∀j:Nat,j<k->eO s (bd l j).bK=true)) (l.length) ⟨0,ah,ah,sl @Nat.zero_add,fun _ h=>absurd h (Nat.not_lt_zero _)⟩ ?_
 rintro n_a env_a st_a ⟨k,rfl,ale,a5,nT⟩ dX
 have a0:=dX 0 (by kernel_rfl);have a1:=dX 1 (by kernel_rfl)
 simp only[go_sem, ↓reduceIte,Nat.reduceEqDiff,Nat.reduceAdd,Nat.reduceSub,Nat.reduceLeDiff,reduceCtorEq]at a0 a1
 clear dX
 by_cases hk:(k:Int)<(l.length:Int)
 ·have cV:∀{e:Env},(e 5=.int .i64 (IntKind.i64.wrap ((k:Int)+1)))->(eO s (bd l k).bK=true)->∃m0,m0<(l.length)-k/\∃k:Nat,m0=(l.length)-k/\k<=(l.length)/\e 5=.int .i64 (k:Int)/\(∀j:Nat,j<k->eO s (bd l j).bK=true):=fun x1 x2=>⟨_,ah,k+1,rfl,ah,(by rw[x1,aE ah]),(all_succ nT x2)⟩
  have fC:k<l.length:=ah
  have fa:=fV fC
  have ht:=G5 s (bd l k).bK
  cases b3:eO s (bd l k).bK
  ·rw[b3]at ht
   (have zF:=tw @a5 (tw @a0 (tw @a1 (tw @hk (tw @fa @ab.eq_1))));(repeat(first|((repeat(revert N;apply Pn.out));refine wk zF ?_;(repeat(apply Pn.mk;intro N hN)))|((try apply Or.inl);refine⟨_,au.x (ht) (sd zF),?_⟩;apply hN;clear hN N)));try clear zF)
   exact bQ (b:=false) (.inl rfl) (sd @Nat.zero_add) (by
    have:l.all (fun t=>eO s t.bK)=false:=List.all_eq_false.2 ⟨_,gI fC,by rw[b3];simp⟩
    rw[tD,this,Bool.and_false])
  ·rw[b3]at ht
   (have zF:=tw @a5 (tw @a0 (tw @a1 (tw @hk (tw @fa @ab.eq_1))));(repeat(first|((repeat(revert N;apply Pn.out));refine wk zF ?_;(repeat(apply Pn.mk;intro N hN)))|((try apply Or.inl);refine⟨_,au.x (ht) (sd zF),?_⟩;apply hN;clear hN N)));try clear zF)
   exact cV (sd (tw @a5 (tw @a0 @a1))) (b3)
 ·(try((repeat(revert N;apply Pn.out));refine wk (tw @a5 (tw @a0 (tw @a1 @hk))) ?_;(repeat(apply Pn.mk;intro N hN))))
  exact bQ (b:=true) (.inl rfl) (sd @Nat.zero_add) (by
   have:l.all (fun t=>eO s t.bK)=true:=List.all_eq_true.2 fun t ht=>by
    obtain⟨j,hj,rfl⟩:=List.getElem_of_mem ht
    have:=nT j ah
    rwa [fx hj]at this
   rw[tD,b2,this];rfl)
theorem Ay (l:List aa) (hF:lJ l) (i:Nat) (d:Int) (hi:i<l.length) (hd:iE d 0 3=true):au Tryz.prog 238 [.dQ [.sl (l.map ab)],.int .i64 i,.int .i64 d] (.int .i64 (ez l (bR (bd l i).aQ d))):=by
 refine au.body eI rfl fun hl n0=>?_
 clear hl
 have hg:=fV hi
 have hp:=s6 (hF.pt hi)
 have h1:=vQ (bd l i).aQ d hd hp.1 hp.2
 have h2:=sQ l (bR (bd l i).aQ d) hF.QS (by have:=hF.xD;omega)
 rw[ad]at h1 h2
 (have zF:=tw @ab.eq_1 (tw @hg @ad.eq_1);(repeat(first|((repeat(revert N;apply Pn.out));refine wk zF ?_;(repeat(apply Pn.mk;intro N hN)))|((try apply Or.inl);refine⟨_,au.x (h1) (sd zF),?_⟩;apply hN;clear hN N)|((try apply Or.inl);refine⟨_,au.x (h2) (sd zF),?_⟩;apply hN;clear hN N)));try clear zF)
 exact dq (b:=ez l (bR (bd l i).aQ d)) (.inl rfl) (sd @Nat.zero_add) rfl
end Go.Proofs.YtainmfbpilopaaaGreatDoor.V

namespace Go.Proofs.YtainmfbpilopaaaGreatDoor.V
open Go.RowKit
def isApp:ib->Bool
 | .append .. =>true
 |_=>false
variable {P:Program} {X:gx} {K:Env->aw->Prop} {env:Env} {σ:aw}
theorem Sh {draw:Bool} {o:bL} {r:List bL} (_:isApp o.op=false) (h:∀N:AV->aw->Prop,(∀v s,wpOps X draw r K (upd env o.dst v) s->N v s)->if aJ o.guard env then fc X draw o env σ N else N .undef σ):wpOps X draw (o::r) K env σ:=U3 h
end Go.Proofs.YtainmfbpilopaaaGreatDoor.V

namespace Go.Proofs.YtainmfbpilopaaaGreatDoor.V
open Go.RowKit
section
variable {α:Type} {enc:α->List AV} {sz:Nat} {g g':Rows} {a:AV} {xs:List α} {ids:List Id}
end
abbrev FQ (α:Type):=Rows->List AV->α->List Id->Prop
structure Ae {α:Type} (R:FQ α) (sz:Nat):Prop where
 frame:∀{g g':Rows} {cs x ids},R g cs x ids->(∀i∈ids,g' i=g i)->R g' cs x ids
 len:∀{g cs x ids},R g cs x ids->cs.length=sz
 cell:∀{g cs x ids},R g cs x ids->cs.all AV.cell=true
 live:∀{g cs x ids},R g cs x ids->∀i∈ids,∃r,g i=some r/\r.w=true/\r.sz<xK
 small:sz<xK
inductive eV {α:Type} (R:FQ α) (g:Rows):List (List AV)->List α->List Id->Prop
 |nil:eV R g [] [] []
 |cons {cs x i1 rs xs i2}:R g cs x i1->eV R g rs xs i2->eV R g (cs::rs) (x::xs) (i1++i2)
section
variable {α:Type} {R:FQ α} {sz:Nat} {g g':Rows} {rows r1 r2:List (List AV)} {xs x1 x2:List α} {ids i1 i2:List Id}
theorem eV.len (h:eV R g rows xs ids):rows.length=xs.length:=by
 induction h with
 |nil=>rfl
 |cons _ _ ih=>simp[ih]
theorem eV.frame (ok:Ae R sz) (h:eV R g rows xs ids) (hf:∀i∈ids,g' i=g i):eV R g' rows xs ids:=by
 induction h with
 |nil=>exact .nil
 |cons h1 _ ih=>exact .cons (ok.frame h1 fun i hi=>hf i (List.mem_append_left _ hi)) (ih fun i hi=>hf i (List.mem_append_right _ hi))
theorem eV.app (h1:eV R g r1 x1 i1) (h2:eV R g r2 x2 i2):eV R g (r1++r2) (x1++x2) (i1++i2):=by
 induction h1 with
 |nil=>exact h2
 |cons h _ ih=>rw[List.append_assoc];exact .cons h ih
theorem eV.one {cs:List AV} {x:α} (h:R g cs x ids):eV R g [cs] [x] ids:=by
 have:=eV.cons h eV.nil
 rwa [List.append_nil]at this
theorem eV.split (h:eV R g rows xs ids):∀k (hk:k<xs.length),∃r1 cs r2 i1 ic i2,rows=r1++cs::r2/\r1.length=k/\ids=i1++(ic++i2)/\eV R g r1 (xs.take k) i1/\R g cs xs[k] ic/\eV R g r2 (xs.drop (k+1)) i2:=by
 induction h with
 |nil=>intro k hk;simp at hk
 |cons h1 h2 ih=>
  rename_i cs x j1 rs xs j2
  intro k hk
  cases k with
  |zero=>exact⟨[],cs,rs,[],j1,j2,rfl,rfl,rfl,.nil,h1,h2⟩
  |succ k=>
   obtain⟨r1,r7,r2,i1,ic,i2,rfl,hl,rfl,h3,h4,h5⟩:=ih k (by simpa using hk)
   exact⟨cs::r1,r7,r2,j1++i1,ic,i2,rfl,by simp[hl],by rw[List.append_assoc],.cons h1 h3,h4,h5⟩
theorem eV.at_ (h:eV R g rows xs ids) (k:Nat) (hk:k<xs.length):∃cs ic,rows[k]? =some cs/\R g cs xs[k] ic/\∀i∈ic,i∈ids:=by
 obtain⟨r1,cs,r2,i1,ic,i2,rfl,hl,rfl,h3,h4,h5⟩:=h.split k hk
 refine⟨cs,ic,by rw[List.getElem?_append_right ah];simp[hl],h4,fun i hi=>by simp[hi]⟩
theorem eV.fz {n:Nat} {e:α->List AV} (h:eV R g rows xs ids) (hz:∀{cs x ids},R g cs x ids->dx (ea g) n cs=some (e x)):eJ (ea g) n rows=some (xs.map e):=by
 induction h with
 |nil=>rw[eJ];rfl
 |cons h1 _ ih=>rw[eJ,hz h1,ih];rfl
end
section
variable {α:Type} {R:FQ α} {sz:Nat} {g g':Rows} {a:AV} {xs:List α} {ids:List Id}
end
variable {P:Program} {X:gx} {K:Env->aw->Prop} {env:Env} {σ:aw}
def oL {α:Type} (enc:α->List AV) (sz:Nat) (x:AV) (g:Rows) (S:Id->Prop) (L:List α):Prop:=∃o:Id,S o/\x=.own o 0 L.length/\g o=some ⟨true,sz,L.map enc⟩
section
variable {α:Type} {enc:α->List AV} {sz:Nat} {x:AV} {g g':Rows} {S:Id->Prop} {L L':List α}
theorem oL.cast (h:oL enc sz x g S L) (hL:L'=L):oL enc sz x g S L':=by subst hL;exact h
theorem oL.frame (h:oL enc sz x g S L) (hg:∀o:Id,S o->g' o=g o):oL enc sz x g' S L:=by
 obtain⟨o,h1,h2,h3⟩:=h
 exact⟨o,h1,h2,(hg o h1).trans h3⟩
theorem oL.app (hz:∀a,(enc a).length=sz/\(enc a).all AV.cell=true) (h:oL enc sz x g S L) (id:Id) (hid:S id) (M:List α) (hlen:L.length+M.length<=dp):
  ∃v g',aT g id sz x (M.map enc)=some (v,g')/\oL enc sz v g' S (L++M)/\∀j:Id,¬S j->g' j=g j:=by
 obtain⟨o,h1,rfl,h4⟩:=h
 refine⟨.own id 0 (L.length+(M.map enc).length),bJ (bV g o) id ⟨true,sz,L.map enc++M.map enc⟩,?_,⟨id,hid,by simp,by simp[bJ]⟩,fun j hj=>?_⟩
 ·have ha:=all_map (l:=M) hz
  simp only[aT,h4,Option.bind_some]
  rw[if_pos ⟨trivial,trivial,by simp,by simpa using hlen,ha⟩]
 ·have e1:¬j=id:=fun h=>hj (h▸hid)
  have e2:¬j=o:=fun h=>hj (h▸h1)
  simp[bJ,bV,e1,e2]
theorem UZ {draw:Bool} {o:bL} {r:List bL} {x' y:O} {xv:AV} (M:List α) (ho:o.op=.append sz x' y) (hw:aJ o.guard env=true) (hx:dh env x'=xv) (hO:oL enc sz xv σ.get S L)
  (hy:bj σ.get (dh env y)=some (M.map enc)) (hz:∀a,(enc a).length=sz/\(enc a).all AV.cell=true) (hid:S ⟨o.site,σ.next⟩) (hlen:L.length+M.length<=dp)
  (next:∀v g',oL enc sz v g' S (L++M)->(∀j:Id,¬S j->g' j=σ.get j)->wpOps X draw r K (upd env o.dst v) ⟨g',σ.next⟩):wpOps X draw (o::r) K env σ:=by
 obtain⟨v,g',h1,h2,h3⟩:=hO.app hz ⟨o.site,σ.next⟩ hid M hlen
 unfold wpOps
 rw[if_pos hw]
 unfold fc
 simp only[ho,fq,hy,hx,Option.bind_some,h1]
 exact next v g' h2 h3
theorem oL.gS {n:Nat} (h:oL enc sz x g S L) (he:∀a,eQ g n (enc a)=some (enc a)):gS g (n+1) x=some (.sl (L.map enc)):=by
 obtain⟨o,_,rfl,h3⟩:=h
 exact fH h3 rfl he
end
theorem de {a b:Id} (h:a.bG<b.bG):(a=b)=False/\(b=a)=False:=by
 constructor<;>(simp only[eq_iff_iff,iff_false];rintro rfl;omega)
theorem CW {o:Id} {a:Nat} (h:o.site=a) {b v:Nat} (oi:(a==b)=false):(o=⟨b,v⟩)=False:=by
 simp only[eq_iff_iff,iff_false]
 rintro rfl
 simp only at h
 subst h
 simp at oi
def eN (n:Nat):List AV:=[.int .i64 n]
theorem fzN (g:Rows) (n:Nat) (a:Nat):dx g (n+1) (eN a)=some (eN a):=by simp[eN,ai,ar,aB]
theorem S3 (g:Rows) (n:Nat) (a:Nat):eQ g (n+1) (eN a)=some (eN a):=by simp[eN,cu,cZ,eL]
def Vu:FQ (List Nat):=fun g cs x ids=>∃id,cs=[.own id 0 x.length]/\g id=some ⟨true,1,x.map eN⟩/\ids=[id]
theorem Ut:Ae Vu 1 where
 frame:=fun⟨id,h1,h2,h3⟩ hf=>by subst h3;exact⟨id,h1,(hf id (by simp)).trans h2,rfl⟩
 len:=fun⟨id,h1,_⟩=>by subst h1;rfl
 cell:=fun⟨id,h1,_⟩=>by subst h1;rfl
 live:=fun⟨id,h1,h2,h3⟩ i hi=>by
  subst h3
  have:i=id:=by simpa using hi
  subst this
  exact⟨_,h2,rfl,by simp[xK]⟩
 small:=by simp[xK]
def Dh (l:List Nat):List AV:=[.sl (l.map eN)]
theorem Nq {g:Rows} {rows:List (List AV)} {xs:List (List Nat)} {ids:List Id} (n:Nat) (h:eV Vu g rows xs ids):iQ g (n+2) rows=some (xs.map Dh):=by
 induction h with
 |nil=>rw[iQ];rfl
 |cons h1 _ ih=>
  obtain⟨id,rfl,h2,_⟩:=h1
  rw[iQ,ih,cu,cZ,fH (e:=eN) (sz:=1) h2 rfl fun a=>S3 g n a];rfl
end Go.Proofs.YtainmfbpilopaaaGreatDoor.V

namespace Go.Proofs.YtainmfbpilopaaaGreatDoor.V
def bi (b:Bool):Int:=if b then 1 else 0
def lr (f:Nat->Int):Nat->Int
 |0=>0
 |n+1=>lr f n+f n
theorem iV {f g:Nat->Int}:∀{n:Nat},(∀i,i<n->f i=g i)->lr f n=lr g n
 |0,_=>rfl
 |n+1,h=>by
  simp only[lr]
  rw[iV fun i hi=>h i ah,h n ah]
theorem rG {f g:Nat->Int}:∀{n:Nat},(∀i,i<n->f i<=g i)->lr f n<=lr g n
 |0,_=>Int.le_refl _
 |n+1,h=>by
  simp only[lr]
  have:=rG (n:=n) fun i hi=>h i ah
  have:=h n ah
  omega
theorem k6:∀{n:Nat} {f:Nat->Int},(∀i,i<n->f i=0)->lr f n=0
 |0,_,_=>rfl
 |n+1,f,h=>by
  simp only[lr]
  rw[k6 fun i hi=>h i ah,h n ah];rfl
theorem rF {f:Nat->Int} {a:Nat} {d:Int}:∀n,lr (fun i=>f i+if i=a then d else 0) n=lr f n+if a<n then d else 0
 |0=>by simp[lr]
 |n+1=>by
  simp only[lr]
  rw[rF n]
  by_cases h:n=a
  ·subst h;simp;omega
  ·rw[if_neg h]
   by_cases h2:a<n
   ·rw[if_pos h2,if_pos ah];omega
   ·rw[if_neg h2,if_neg ah];omega
def oe (n:Nat) (S:Nat->Bool) (f:Nat->Nat->Int):Int:=lr (fun u=>lr (fun v=>if S u&& !S v then f u v else 0) n) n
def bump (f:Nat->Nat->Int) (a b:Nat) (d:Int):Nat->Nat->Int:=fun u v=>f u v+if u=a/\v=b then d else 0
theorem qU {n:Nat} {S:Nat->Bool} {f:Nat->Nat->Int} {a b:Nat} {d:Int} (ha:a<n) (hb:b<n):oe n S (bump f a b d)=oe n S f+if S a&& !S b then d else 0:=by
 unfold oe
 have h1:∀u,u<n->lr (fun v=>if S u&& !S v then bump f a b d u v else 0) n=lr (fun v=>if S u&& !S v then f u v else 0) n+if u=a then(if S a&& !S b then d else 0)else 0:=by
  intro u hu
  by_cases h:u=a
  ·subst h
   have h2:∀v,v<n->(if S u&& !S v then bump f u b d u v else 0)=(fun v=>if S u&& !S v then f u v else 0) v+if v=b then(if S u&& !S b then d else 0)else 0:=by
    intro v hv
    unfold bump
    by_cases h3:v=b
    ·subst h3;simp only[and_self,if_true];split<;>omega
    ·simp only[h3,and_false,if_false];split<;>omega
   rw[iV h2,rF,if_pos hb,if_pos rfl]
  ·rw[if_neg h,Int.add_zero]
   refine iV fun v hv=>?_
   unfold bump
   simp[h]
 rw[iV h1,rF,if_pos ha]
theorem Pu {n:Nat} {S:Nat->Bool} {f c:Nat->Nat->Int} (h:∀u v,u<n->v<n->f u v<=c u v):oe n S f<=oe n S c:=
 rG fun u hu=>rG fun v hv=>by split;exact h u v hu hv;exact Int.le_refl _
theorem Pt {n:Nat} {S:Nat->Bool} {f c:Nat->Nat->Int} (h:∀u v,u<n->v<n->S u=true->S v=false->f u v=c u v):oe n S f=oe n S c:=
 iV fun u hu=>iV fun v hv=>by
  split
  ·rename_i hc
   simp only[Bool.and_eq_true,Bool.not_eq_true']at hc
   exact h u v hu hv hc.1 hc.2
  ·rfl
def lO (f:Nat->Nat->Int) (a b:Nat):Nat->Nat->Int:=bump (bump f a b 1) b a (-1)
theorem Jv {n:Nat} {S:Nat->Bool} {f:Nat->Nat->Int} {a b:Nat} (ha:a<n) (hb:b<n):oe n S (lO f a b)=oe n S f+bi (S a)-bi (S b):=by
 unfold lO
 rw[qU hb ha,qU ha hb]
 cases S a<;>cases S b<;>simp[bi]<;>omega
def nY (f:Nat->Nat->Int):List Nat->Nat->Nat->Int
 |a::b::r=>nY (lO f a b) (b::r)
 |_=>f
def tt (f c:Nat->Nat->Int):List Nat->Prop
 |a::b::r=>f a b<c a b/\tt f c (b::r)
 |_=>True
theorem DF {n:Nat} {S:Nat->Bool}:∀(r:List Nat) (a:Nat) (f:Nat->Nat->Int),(∀x∈a::r,x<n)->oe n S (nY f (a::r))=oe n S f+bi (S a)-bi (S ((a::r).getLast (by simp)))
 |[],a,f,_=>by simp[nY]
 |b::r,a,f,h=>by
  rw[nY,DF r b (lO f a b) fun x hx=>h x (List.mem_cons_of_mem _ hx),Jv (h a (by simp)) (h b (by simp)),List.getLast_cons_cons]
  generalize bi (S b)=q
  omega
theorem tt.less {f g c:Nat->Nat->Int}:∀{p:List Nat},tt f c p->(∀u,u∈p->∀v,g u v<=f u v)->tt g c p
 |[],_,_=>trivial
 |[_],_,_=>trivial
 |a::b::r,h,hl=>⟨Int.lt_of_le_of_lt (hl a (by simp) b) h.1,tt.less (p:=b::r) h.2 fun u hu=>hl u (List.mem_cons_of_mem _ hu)⟩
theorem H7 {n:Nat} {c:Nat->Nat->Int}:∀(p:List Nat) (f:Nat->Nat->Int),p.Nodup->tt f c p->(∀u v,u<n->v<n->f u v<=c u v)->∀u v,u<n->v<n->nY f p u v<=c u v
 |[],f,_,_,h=>h
 |[_],f,_,_,h=>h
 |a::b::r,f,hn,hr,h=>by
  rw[nY]
  have oi:a∉b::r:=(List.nodup_cons.1 hn).1
  refine H7 (b::r) _ (List.nodup_cons.1 hn).2 (hr.2.less fun u hu v=>?_) fun u v hu hv=>?_
  ·unfold lO bump
   have:u≠a:=by rintro rfl;exact oi hu
   simp only[this,false_and,if_false]
   split<;>omega
  ·have h0:=h u v hu hv
   have h1:=hr.1
   unfold lO bump
   by_cases e:u=a/\v=b
   ·obtain⟨rfl,rfl⟩:=e
    rw[if_pos ⟨rfl,rfl⟩];split<;>omega
   ·rw[if_neg e];split<;>omega
structure pr (n:Nat) (c f:Nat->Nat->Int) (x y:Nat) (val:Int):Prop where
 le:∀u v,u<n->v<n->f u v<=c u v
 cut:∀S:Nat->Bool,S x=true->S y=false->oe n S f=val
theorem pr.zero {n:Nat} {c:Nat->Nat->Int} {x y:Nat} (h:∀u v,u<n->v<n->0<=c u v):pr n c (fun _ _=>0) x y 0:=
 ⟨h,fun S _ _=>k6 fun u hu=>k6 fun v hv=>by split<;>rfl⟩
theorem pr.aug {n:Nat} {c f:Nat->Nat->Int} {x y:Nat} {val:Int} (h:pr n c f x y val) {r:List Nat} (hl:(x::r).getLast (by simp)=y) (hn:(x::r).Nodup) (hr:tt f c (x::r)) (hb:∀v∈x::r,v<n):pr n c (nY f (x::r)) x y (val+1):=
 ⟨H7 _ _ hn hr h.le,fun S hx hy=>by rw[DF r x f hb,hl,h.cut S hx hy,hx,hy];simp[bi]⟩
theorem pr.bound {n:Nat} {c f:Nat->Nat->Int} {x y:Nat} {val:Int} (h:pr n c f x y val) {S:Nat->Bool} (hx:S x=true) (hy:S y=false):val<=oe n S c:=by
 rw[<-h.cut S hx hy];exact Pu h.le
theorem pr.full {n:Nat} {c f:Nat->Nat->Int} {x y:Nat} {val:Int} (h:pr n c f x y val) {S:Nat->Bool} (hx:S x=true) (hy:S y=false) (hS:∀u v,u<n->v<n->S u=true->S v=false->¬f u v<c u v):val=oe n S c:=by
 rw[<-h.cut S hx hy]
 exact Pt fun u v hu hv h1 h2=>by have:=hS u v hu hv h1 h2;have:=h.le u v hu hv;omega
structure PB where
 a:Nat
 b:Nat
 s:Int
 deriving Inhabited
def dc (bs:List PB) (i:Nat):PB:=bs.getD i default
def jP (S:Nat->Bool) (bs:List PB):Int:=(bs.map fun b=>if S b.a=S b.b then 0 else b.s).sum
def pO (c:Nat->Nat->Int) (b:PB):Nat->Nat->Int:=bump (bump c b.a b.b b.s) b.b b.a b.s
def mz (bs:List PB):Nat->Nat->Int:=bs.foldl pO fun _ _=>0
theorem Hs (bs:List PB) (b:PB):mz (bs++[b])=pO (mz bs) b:=by simp[mz]
theorem DP {n:Nat} {S:Nat->Bool}:∀(bs:List PB) (c:Nat->Nat->Int),(∀b∈bs,b.a<n/\b.b<n)->oe n S (bs.foldl pO c)=oe n S c+jP S bs
 |[],c,_=>by simp[jP]
 |b::bs,c,h=>by
  have hb:=h b (by simp)
  rw[List.foldl_cons,DP bs _ fun x hx=>h x (List.mem_cons_of_mem _ hx)]
  unfold pO jP
  rw[qU hb.2 hb.1,qU hb.1 hb.2,List.map_cons,List.sum_cons]
  cases S b.a<;>cases S b.b<;>simp<;>omega
theorem DQ {n:Nat} {S:Nat->Bool} {bs:List PB} (h:∀b∈bs,b.a<n/\b.b<n):oe n S (mz bs)=jP S bs:=by
 rw[mz,DP bs _ h]
 have:oe n S (fun _ _=>0)=0:=k6 fun u hu=>k6 fun v hv=>by split<;>rfl
 omega
theorem CR:∀(bs:List PB) (c:Nat->Nat->Int),(∀b∈bs,0<=b.s)->(∀u v,0<=c u v)->∀u v,0<=bs.foldl pO c u v
 |[],c,_,h=>h
 |b::bs,c,hb,h=>by
  rw[List.foldl_cons]
  refine CR bs _ (fun x hx=>hb x (List.mem_cons_of_mem _ hx)) fun u v=>?_
  have:=hb b (by simp);have:=h u v
  unfold pO bump
  split<;>split<;>omega
theorem room_le:∀(bs:List PB) (c:Nat->Nat->Int) (m:Int),(∀b∈bs,b.s<=4)->(∀u v,c u v<=m)->0<=m->∀u v,bs.foldl pO c u v<=m+8*bs.length
 |[],c,m,_,h,_=>fun u v=>by have:=h u v;simp;omega
 |b::bs,c,m,hb,h,h0=>fun u v=>by
  rw[List.foldl_cons]
  have:=room_le bs (pO c b) (m+8) (fun x hx=>hb x (List.mem_cons_of_mem _ hx)) (fun u v=>by
   have:=hb b (by simp);have:=h u v
   unfold pO bump
   split<;>split<;>omega) ah u v
  simp only[List.length_cons];omega
def l5 (n:Nat) (bs:List PB) (t:Int):Prop:=∀S:Nat->Bool,S 0=true->(∃y,y<n/\S y=false)->t<=jP S bs
def Jt (S:Nat->Bool) (bs:List PB) (f:Nat->Int):Int:=lr (fun i=>f i*(bi (S (dc bs i).a)-bi (S (dc bs i).b))) bs.length
structure lg (bs:List PB) (f:Nat->Int) (x y:Nat) (val:Int):Prop where
 le:∀i,i<bs.length->f i<=(dc bs i).s/\-(dc bs i).s<=f i
 cut:∀S:Nat->Bool,S x=true->S y=false->Jt S bs f=val
theorem yH (S:Nat->Bool):∀bs:List PB,jP S bs=lr (fun i=>if S (dc bs i).a=S (dc bs i).b then 0 else(dc bs i).s) bs.length:=by
 intro bs
 have key:∀n,n<=bs.length->jP S (bs.take n)=lr (fun i=>if S (dc bs i).a=S (dc bs i).b then 0 else(dc bs i).s) n:=by
  intro n
  induction n with
  |zero=>intro _;rfl
  |succ n ih=>
   intro h
   have e:dc bs n=bs[n]:=by simp[dc,List.getD_eq_getElem?_getD,List.getElem?_eq_getElem (show n<bs.length by omega)]
   rw[List.take_succ_eq_append_getElem ah,lr,<-ih ah,e]
   unfold jP
   rw[List.map_append,List.sum_append]
   simp only[List.map_cons,List.map_nil,List.sum_cons,List.sum_nil,Int.add_zero]
 have:=key bs.length (Nat.le_refl _)
 rwa [List.take_length]at this
theorem lg.bound {bs:List PB} {f:Nat->Int} {x y:Nat} {val:Int} (h:lg bs f x y val) {S:Nat->Bool} (hx:S x=true) (hy:S y=false):val<=jP S bs:=by
 rw[<-h.cut S hx hy,yH]
 refine rG fun i hi=>?_
 have:=h.le i hi
 cases S (dc bs i).a<;>cases S (dc bs i).b<;>simp[bi]<;>omega
def gy (bs:List PB) (f:Nat->Int) (i u:Nat):Int:=if (dc bs i).a=u then(dc bs i).s-f i else(dc bs i).s+f i
def cX (bs:List PB) (i u:Nat):Nat:=if (dc bs i).a=u then(dc bs i).b else(dc bs i).a
theorem lg.full {bs:List PB} {f:Nat->Int} {x y:Nat} {val:Int} (h:lg bs f x y val) {S:Nat->Bool} (hx:S x=true) (hy:S y=false)
  (hS:∀i,i<bs.length->((dc bs i).a≠(dc bs i).b->(S (dc bs i).a=true->S (dc bs i).b=false->¬0<gy bs f i (dc bs i).a)/\(S (dc bs i).b=true->S (dc bs i).a=false->¬0<gy bs f i (dc bs i).b))):val=jP S bs:=by
 rw[<-h.cut S hx hy,yH]
 refine iV fun i hi=>?_
 have h1:=h.le i hi
 by_cases oi:(dc bs i).a=(dc bs i).b
 ·rw[oi];simp
 ·have h2:=hS i hi oi
  unfold gy at h2
  rw[if_pos rfl,if_neg oi]at h2
  cases ha:S (dc bs i).a<;>cases hb:S (dc bs i).b<;>rw[ha,hb]at h2<;>simp[bi]at h2 ⊢ <;>omega
def xi (bs:List PB) (f:Nat->Int) (i u:Nat):Nat->Int:=fun j=>f j+if j=i then(if (dc bs i).a=u then 1 else -1)else 0
theorem Ju {S:Nat->Bool} {bs:List PB} {f:Nat->Int} {i u:Nat} (hi:i<bs.length) (hu:(dc bs i).a=u∨(dc bs i).b=u):Jt S bs (xi bs f i u)=Jt S bs f+bi (S u)-bi (S (cX bs i u)):=by
 unfold Jt xi
 have e:∀j,j<bs.length->(f j+if j=i then(if (dc bs i).a=u then 1 else -1)else 0)*(bi (S (dc bs j).a)-bi (S (dc bs j).b))=(fun j=>f j*(bi (S (dc bs j).a)-bi (S (dc bs j).b))) j+if j=i then(if (dc bs i).a=u then 1 else -1)*(bi (S (dc bs i).a)-bi (S (dc bs i).b))else 0:=by
  intro j hj
  by_cases h:j=i
  ·subst h;simp only[if_true];rw[Int.add_mul]
  ·simp only[h,if_false];simp
 rw[iV e,rF,if_pos hi]
 unfold cX
 by_cases ha:(dc bs i).a=u
 ·rw[if_pos ha,if_pos ha,ha];omega
 ·rw[if_neg ha,if_neg ha]
  rcases hu with hu|hu
  ·exact absurd hu ha
  ·rw[hu];omega
theorem qC:∀(n:Nat) (l:List Nat),l.Nodup->(∀x∈l,x<n)->l.length<=n
 |0,l,_,h=>by
  cases l with
  |nil=>simp
  |cons x l=>exact absurd (h x (by simp)) ah
 |n+1,l,hn,h=>by
  have h1:=qC n (l.erase n) (hn.erase _) fun x hx=>by
   have h2:=(hn.mem_erase_iff).1 hx
   have h3:=h x h2.2
   have h4:=h2.1
   omega
  rw[List.length_erase]at h1
  split at h1<;>omega
def fe (L:Nat->Nat) (b:PB):Nat->Nat:=fun k=>if L k=max (L b.a) (L b.b)then min (L b.a) (L b.b)else L k
def eT (bs:List PB):Nat->Nat:=bs.foldl fe id
theorem za (bs:List PB) (b:PB):eT (bs++[b])=fe (eT bs) b:=by simp[eT]
structure kE (L:Nat->Nat):Prop where
 le:∀k,L k<=k
 idem:∀k,L (L k)=L k
theorem kE.step {L:Nat->Nat} (h:kE L) (b:PB):kE (fe L b):=by
 have ha:=h.idem b.a
 have hb:=h.idem b.b
 refine⟨fun k=>?_,fun k=>?_⟩
 ·have:=h.le k
  unfold fe
  split<;>omega
 ·have hk:=h.idem k
  have hm:L (min (L b.a) (L b.b))=min (L b.a) (L b.b):=by
   rcases Nat.le_total (L b.a) (L b.b)with h1|h1
   ·rw[Nat.min_eq_left h1,ha]
   ·rw[Nat.min_eq_right h1,hb]
  unfold fe
  by_cases h1:L k=max (L b.a) (L b.b)
  ·rw[if_pos h1,hm];split<;>rfl
  ·rw[if_neg h1,hk,if_neg h1]
theorem zb:∀(bs:List PB) (L:Nat->Nat),kE L->kE (bs.foldl fe L)
 |[],_,h=>h
 |b::bs,L,h=>zb bs _ (h.step b)
theorem xd (bs:List PB):kE (eT bs):=zb bs id ⟨fun _=>Nat.le_refl _,fun _=>rfl⟩
def leads (n:Nat) (L:Nat->Nat):List Nat:=(List.range n).filter fun i=>L i==i
def members (n:Nat) (L:Nat->Nat) (i:Nat):List Nat:=(List.range n).filter fun k=>L k==i
def gm (n:Nat) (L:Nat->Nat):List (List Nat):=(leads n L).map (members n L)
def cW (L:Nat->Nat) (k:Nat):Nat:=(leads (L k) L).length
theorem iF (n:Nat) (L:Nat->Nat):leads (n+1) L=leads n L++if L n=n then[n]else[]:=by
 unfold leads
 rw[List.range_succ,List.filter_append]
 congr 1
 by_cases h:L n=n<;>simp[h]
theorem kd (n:Nat) (L:Nat->Nat) (i:Nat):members (n+1) L i=members n L i++if L n=i then[n]else[]:=by
 unfold members
 rw[List.range_succ,List.filter_append]
 congr 1
 by_cases h:L n=i<;>simp[h]
theorem o8 {L:Nat->Nat} (h:kE L) {n i:Nat} (hn:n<=i):members n L i=[]:=by
 unfold members
 rw[List.filter_eq_nil_iff]
 intro k hk
 have:=h.le k
 have:=List.mem_range.1 hk
 simp;omega
theorem xe (n:Nat) (L:Nat->Nat):(leads n L).Nodup:=List.nodup_range.filter _
theorem Br {n:Nat} {L:Nat->Nat} {i:Nat}:i∈leads n L↔i<n/\L i=i:=by simp[leads]
theorem ny {n:Nat} {L:Nat->Nat} {i k:Nat}:k∈members n L i↔k<n/\L k=i:=by simp[members]
theorem Kk {L:Nat->Nat} {m n:Nat} (h:m<=n):∃r,leads n L=leads m L++r:=by
 obtain⟨d,rfl⟩:=Nat.le.dest h
 clear h
 induction d with
 |zero=>exact⟨[],by simp⟩
 |succ d ih=>
  obtain⟨r,hr⟩:=ih
  exact⟨r++if L (m+d)=m+d then[m+d]else[],by rw[<-Nat.add_assoc,iF,hr,List.append_assoc]⟩
theorem q9 {L:Nat->Nat} (h:kE L) {n k:Nat} (hk:k<n):(leads n L)[cW L k]? =some (L k):=by
 have h1:=h.le k
 obtain⟨r,hr⟩:=Kk (L:=L) (show L k+1<=n by omega)
 rw[hr,iF,if_pos (h.idem k),List.append_assoc]
 unfold cW
 rw[List.getElem?_append_right (Nat.le_refl _),Nat.sub_self];rfl
theorem lq {L:Nat->Nat} (h:kE L) {n k:Nat} (hk:k<n):cW L k<(leads n L).length:=(List.getElem?_eq_some_iff.1 (q9 h hk)).1
theorem v7 {L:Nat->Nat} (h:kE L) {n k i:Nat} (hk:k<n) (hi:i<(leads n L).length):k∈members n L (leads n L)[i]↔cW L k=i:=by
 rw[ny]
 have h1:=q9 h hk
 rw[List.getElem?_eq_getElem (lq h hk)]at h1
 injection h1 with h1
 constructor
 ·rintro⟨_,h2⟩
  rw[<-h1]at h2
  exact(List.getElem_inj (xe n L)).1 h2
 ·rintro rfl
  exact⟨hk,h1.symm⟩
def ef (L:Nat->Nat) (bs:List PB):List PB:=bs.filterMap fun b=>if cW L b.a=cW L b.b then none else some ⟨cW L b.a,cW L b.b,b.s⟩
def fM (L:Nat->Nat) (bs:List PB):List PB:=bs.filterMap fun b=>if cW L b.a=cW L b.b then none else some ⟨min (cW L b.a) (cW L b.b),max (cW L b.a) (cW L b.b),b.s⟩
theorem CU (L:Nat->Nat) (bs:List PB) (b:PB):ef L (bs++[b])=ef L bs++if cW L b.a=cW L b.b then[]else[⟨cW L b.a,cW L b.b,b.s⟩]:=by
 unfold ef
 rw[List.filterMap_append]
 congr 1
 by_cases h:cW L b.a=cW L b.b<;>simp[h]
theorem CV (L:Nat->Nat) (bs:List PB) (b:PB):fM L (bs++[b])=fM L bs++if cW L b.a=cW L b.b then[]else[⟨min (cW L b.a) (cW L b.b),max (cW L b.a) (cW L b.b),b.s⟩]:=by
 unfold fM
 rw[List.filterMap_append]
 congr 1
 by_cases h:cW L b.a=cW L b.b<;>simp[h]
theorem vh (S:Nat->Bool) (b:PB) (bs:List PB):jP S (b::bs)=(if S b.a=S b.b then 0 else b.s)+jP S bs:=by simp[jP]
theorem AR (S:Nat->Bool) (L:Nat->Nat):∀bs:List PB,jP S (fM L bs)=jP S (ef L bs)
 |[]=>rfl
 |b::bs=>by
  have ih:=AR S L bs
  unfold fM ef at ih ⊢
  rw[List.filterMap_cons,List.filterMap_cons]
  by_cases h:cW L b.a=cW L b.b
  ·simp only[h,if_true];exact ih
  ·simp only[h,if_false]
   rw[vh,vh,ih]
   congr 1
   simp only
   rcases Nat.le_total (cW L b.a) (cW L b.b)with h1|h1
   ·rw[Nat.min_eq_left h1,Nat.max_eq_right h1]
   ·rw[Nat.min_eq_right h1,Nat.max_eq_left h1]
    cases S (cW L b.a)<;>cases S (cW L b.b)<;>rfl
theorem Hw {L:Nat->Nat} (h:kE L) {n:Nat} {bs:List PB} (hb:∀b∈bs,b.a<n/\b.b<n):∀b∈ef L bs,b.a<(leads n L).length/\b.b<(leads n L).length/\b.a≠b.b/\∃c∈bs,b.s=c.s:=by
 intro b hm
 unfold ef at hm
 obtain⟨c,hc,he⟩:=List.mem_filterMap.1 hm
 split at he
 ·cases he
 ·rename_i gM
  simp only[Option.some.injEq]at he
  subst he
  exact⟨lq h (hb c hc).1,lq h (hb c hc).2,gM,c,hc,rfl⟩
theorem Hx {L:Nat->Nat} (h:kE L) {n:Nat} {bs:List PB} (hb:∀b∈bs,b.a<n/\b.b<n):∀b∈fM L bs,b.a<(leads n L).length/\b.b<(leads n L).length/\b.a≠b.b/\∃c∈bs,b.s=c.s:=by
 intro b hm
 unfold fM at hm
 obtain⟨c,hc,he⟩:=List.mem_filterMap.1 hm
 split at he
 ·cases he
 ·rename_i gM
  simp only[Option.some.injEq]at he
  subst he
  have h1:=lq h (hb c hc).1
  have h2:=lq h (hb c hc).2
  refine⟨by simp only;omega,by simp only;omega,by simp only;omega,c,hc,rfl⟩
theorem pg (L:Nat->Nat) (bs:List PB):(ef L bs).length<=bs.length/\(fM L bs).length<=bs.length:=⟨List.length_filterMap_le ..,List.length_filterMap_le ..⟩
theorem kN (n:Nat) (L:Nat->Nat):(leads n L).length<=n:=by
 have:=List.length_filter_le (fun i=>L i==i) (List.range n)
 simpa[leads]using this
def bh (t:Int) (bs:List PB):List PB:=bs.filter fun b=>decide (t<=b.s)
def qS (n:Nat) (bs:List PB) (t:Int):Prop:=
 (leads n (eT (bh t bs))).length<=64/\l5 (leads n (eT (bh t bs))).length (ef (eT (bh t bs)) bs) t
theorem GQ {n:Nat} {L:Nat->Nat} {bs:List PB} {t:Int}:l5 n (fM L bs) t↔l5 n (ef L bs) t:=by
 unfold l5
 constructor<;>intro h S h0 hy<;>have:=h S h0 hy<;>rw[AR]at *<;>exact this
end Go.Proofs.YtainmfbpilopaaaGreatDoor.V

namespace Go.Proofs.YtainmfbpilopaaaGreatDoor.V
open Go.RowKit
attribute [local irreducible] dW wpOps fu Call
def aL (b:PB):List AV:=[.int .i64 b.a,.int .i64 b.b,.int .i64 b.s]
theorem Sj:∀b:PB,(aL b).length=3/\(aL b).all AV.cell=true:=fun _=>⟨rfl,rfl⟩
theorem Cf (g:Rows) (n:Nat) (b:PB):dx g (n+1) (aL b)=some (aL b):=by simp[aL,ai,ar,aB]
theorem xV (g:Rows) (n:Nat) (b:PB):eQ g (n+1) (aL b)=some (aL b):=by simp[aL,cu,cZ,eL]
theorem L9:V3 aL (fun c=>.agg (aL c)) 3 true:=⟨fun _=>rfl,fun _=>rfl,fun x g=>by simp only[aL,ai,ar,aY,aB,Option.map_some]⟩
def oQ (s:ay) (l:List aa) (i:Nat) (d:Int):List PB:=
 if 0<=ez l (bR (bd l i).aQ d)/\0<iw s (bd l i).bK d (bd l (ez l (bR (bd l i).aQ d)).toNat).bK then
  [⟨i,(ez l (bR (bd l i).aQ d)).toNat,iw s (bd l i).bK d (bd l (ez l (bR (bd l i).aQ d)).toNat).bK⟩]else[]
def gR (s:ay) (l:List aa) (i m:Nat):List PB:=(List.range m).flatMap fun j:Nat=>oQ s l i (1-(j:Int))
def iA (s:ay) (l:List aa) (n:Nat):List PB:=(List.range n).flatMap fun i=>gR s l i 2
def du (s:ay) (l:List aa):List PB:=iA s l l.length
theorem r6 (s:ay) (l:List aa) (i m:Nat):gR s l i (m+1)=gR s l i m++oQ s l i (1-(m:Int)):=by simp[gR,List.range_succ]
theorem tJ (s:ay) (l:List aa) (n:Nat):iA s l (n+1)=iA s l n++gR s l n 2:=by simp[iA,List.range_succ]
theorem Gh (s:ay) (l:List aa) (i:Nat) (d:Int):(oQ s l i d).length<=1:=by unfold oQ;split<;>simp
theorem tH (s:ay) (l:List aa) (i m:Nat):(gR s l i m).length<=m:=by
 induction m with
 |zero=>simp[gR]
 |succ m ih=>rw[r6,List.length_append];have:=Gh s l i (1-(m:Int));omega
theorem wL (s:ay) (l:List aa) (n:Nat):(iA s l n).length<=2*n:=by
 induction n with
 |zero=>simp[iA]
 |succ n ih=>rw[tJ,List.length_append];have:=tH s l n 2;omega
def sB:Id->Prop:=fun o=>o.site=193001000∨o.site=193012006
theorem G6 (s:ay) (l:List aa) (hS:jI s) (hA:jN s l):au Tryz.prog 193 [.dQ (ae s),.dQ [.sl (l.map ab)]] (.sl ((du s l).map aL)):=by
 refine au.body eI rfl fun hl n0=>?_
 clear hl
 have hF:=hA.1
 have vG:=hF.xD
 (try((repeat(revert N;apply Pn.out));refine wk @Nat.zero_add ?_;(repeat(apply Pn.mk;intro N hN))))
 refine bf (fun n env st=>∃k:Nat,n=(l.length)-k/\k<=(l.length)/\env 6=.int .i64 (k:Int)/\(oL aL 3 (env 5) st.get sB (iA s l k))) (l.length) ⟨0,ah,ah,sl @Nat.zero_add,⟨⟨193001000,n0+1⟩,.inl rfl,by simp only[go_sem, ↓reduceIte,Nat.reduceEqDiff,Nat.reduceAdd,Nat.reduceSub,Nat.reduceLeDiff,reduceCtorEq];rfl,by simp only[go_sem, ↓reduceIte,Nat.reduceEqDiff,Nat.reduceAdd,Nat.reduceSub,Nat.reduceLeDiff,reduceCtorEq];rfl⟩⟩ ?_
 rintro n_a env_a st_a ⟨k,rfl,ale,a6,kz⟩ dX
 have a0:=dX 0 (by kernel_rfl);have a1:=dX 1 (by kernel_rfl)
 simp only[go_sem, ↓reduceIte,Nat.reduceEqDiff,Nat.reduceAdd,Nat.reduceSub,Nat.reduceLeDiff,reduceCtorEq]at a0 a1
 clear dX
 by_cases hk:(k:Int)<(l.length:Int)
 ·have cV:∀{e:Env} {gg:Rows},(e 6=.int .i64 (IntKind.i64.wrap ((k:Int)+1)))->(oL aL 3 (e 5) gg sB (iA s l (k+1)))->∃m0,m0<(l.length)-k/\∃k:Nat,m0=(l.length)-k/\k<=(l.length)/\e 6=.int .i64 (k:Int)/\(oL aL 3 (e 5) gg sB (iA s l k)):=fun x1 x2=>⟨_,ah,k+1,rfl,ah,(by rw[x1,aE ah]),x2⟩
  have fC:k<l.length:=ah
  have fa:=fV fC
  have P4:=wL s l k
  (try((repeat(revert N;apply Pn.out));refine wk (tw @a6 (tw @a0 (tw @a1 @hk))) ?_;(repeat(apply Pn.mk;intro N hN))))
  refine bf (fun n env st=>∃m:Nat,n=(2)-m/\m<=(2)/\env 7=(.int .i64 (1-(m:Int)))/\(oL aL 3 (env 5) st.get sB (iA s l k++gR s l k m))) (2) ⟨0,ah,ah,sl (tw @a6 (tw @a0 @a1)),by(simp only[go_sem, ↓reduceIte,Nat.reduceEqDiff,Nat.reduceAdd,Nat.reduceSub,Nat.reduceLeDiff,reduceCtorEq];exact kz.cast (by simp[gR]))⟩ ?_
  rintro n_b env_b st_b ⟨m,rfl,ble,b7,bI0⟩ fh
  have b0:=fh 0 (by kernel_rfl);have b1:=fh 1 (by kernel_rfl);have b6:=fh 6 (by kernel_rfl)
  simp only[go_sem, ↓reduceIte,Nat.reduceEqDiff,Nat.reduceAdd,Nat.reduceSub,Nat.reduceLeDiff,reduceCtorEq,a6,a0,a1]at b0 b1 b6
  clear fh
  have Lm:=tH s l k m
  have ns:=r6 s l k m
  by_cases hm:(m:Int)<2
  ·have fX:∀{e:Env} {gg:Rows},(e 7=(.int .i64 (1-((m+1):Int))))->(oL aL 3 (e 5) gg sB (iA s l k++gR s l k (m+1)))->∃m0,m0<(2)-m/\∃m:Nat,m0=(2)-m/\m<=(2)/\e 7=(.int .i64 (1-(m:Int)))/\(oL aL 3 (e 5) gg sB (iA s l k++gR s l k m)):=fun x1 x2=>⟨_,ah,m+1,rfl,ah,x1,x2⟩
   have oj:(0:Int)<=1-(m:Int):=ah
   have hd:iE (1-(m:Int)) 0 3=true:=jD ah
   have hw:IntKind.i64.wrap (1-(m:Int)-1)=1-((m:Int)+1):=by rw[cq ah];omega
   have VI:=Ay l hF k (1-(m:Int)) fC hd
   unfold oQ at ns
   have hT:=hA.2 _ (gI fC)
   generalize FX:ez l (bR (bd l k).aQ (1-(m:Int)))=ix at *
   by_cases hi:ix<0
   ·rw[if_neg ah,List.append_nil]at ns
    (have zF:=tw @b7 (tw @b0 (tw @b1 (tw @b6 (tw @oj (tw @hw @hi)))));(repeat(first|((repeat(revert N;apply Pn.out));refine wk zF ?_;(repeat(apply Pn.mk;intro N hN)))|((try apply Or.inl);refine⟨_,au.x (VI) (sd zF),?_⟩;apply hN;clear hN N)));try clear zF)
    exact fX (sd (tw @b7 (tw @b0 (tw @b1 (tw @b6 @hw))))) (by(simp only[go_sem, ↓reduceIte,Nat.reduceEqDiff,Nat.reduceAdd,Nat.reduceSub,Nat.reduceLeDiff,reduceCtorEq];exact bI0.cast (by rw[ns])))
   ·have Lo:0<=ix:=ah
    have TF:=kb (l:=l) (p:=bR (bd l k).aQ (1-(m:Int))) ah
    rw[FX]at TF
    have jT:=fV TF.1
    have Bb:=J9 s hS (bd l k).bK (1-(m:Int)) (bd l ix.toNat).bK hT (hA.2 _ (gI TF.1)) hd
    generalize YH:iw s (bd l k).bK (1-(m:Int)) (bd l ix.toNat).bK=bv at *
    by_cases hb:0<bv
    ·rw[if_pos ⟨Lo,hb⟩]at ns
     (repeat(first|((repeat(revert N;apply Pn.out));refine wa (tw @b7 (tw @b0 (tw @b1 (tw @b6 (tw @oj (tw @hw (tw @hi (tw @Lo (tw @fa (tw @jT (tw @hb @ab.eq_1))))))))))) ?_;(repeat(apply Pn.mk;intro N hN)))|((try apply Or.inl);refine⟨_,au.x (VI) (sd (tw @b7 (tw @b0 (tw @b1 (tw @b6 (tw @oj (tw @hw (tw @hi (tw @Lo (tw @fa (tw @jT (tw @hb @ab.eq_1)))))))))))),?_⟩;apply hN;clear hN N)|((try apply Or.inl);refine⟨_,au.x (Bb) (sd (tw @b7 (tw @b0 (tw @b1 (tw @b6 (tw @oj (tw @hw (tw @hi (tw @Lo (tw @fa (tw @jT (tw @hb @ab.eq_1)))))))))))),?_⟩;apply hN;clear hN N)))
     refine UZ (enc:=aL) (S:=sB) (L:=iA s l k++gR s l k m) (xv:=env_b 5) [⟨k,ix.toNat,bv⟩] rfl rfl (sd @Nat.zero_add) (bI0.frame fun o ho=>by rcases ho with ho|ho<;>simp only[go_sem, ↓reduceIte,Nat.reduceEqDiff,Nat.reduceAdd,Nat.reduceSub,Nat.reduceLeDiff,reduceCtorEq,CW ho]) (sd (tw @aL.eq_1 (Int.toNat_of_nonneg Lo))) Sj (.inr rfl) (by simp only[dp,List.length_append,List.length_cons,List.length_nil];omega) fun v g' hO jy=>?_
     rw[List.append_assoc,<-ns]at hO
     clear jy
     (try((repeat(revert N;apply Pn.out));refine wk (tw @b7 (tw @b0 (tw @b1 (tw @b6 @hw)))) ?_;(repeat(apply Pn.mk;intro N hN))))
     exact fX (sd (tw @b7 (tw @b0 (tw @b1 (tw @b6 @hw))))) (by(simp only[go_sem, ↓reduceIte,Nat.reduceEqDiff,Nat.reduceAdd,Nat.reduceSub,Nat.reduceLeDiff,reduceCtorEq];exact hO))
    ·rw[if_neg fun h=>hb h.2,List.append_nil]at ns
     (have zF:=tw @b7 (tw @b0 (tw @b1 (tw @b6 (tw @oj (tw @hw (tw @hi (tw @Lo (tw @fa (tw @jT (tw @hb @ab.eq_1))))))))));(repeat(first|((repeat(revert N;apply Pn.out));refine wk zF ?_;(repeat(apply Pn.mk;intro N hN)))|((try apply Or.inl);refine⟨_,au.x (VI) (sd zF),?_⟩;apply hN;clear hN N)|((try apply Or.inl);refine⟨_,au.x (Bb) (sd zF),?_⟩;apply hN;clear hN N)));try clear zF)
     exact fX (sd (tw @b7 (tw @b0 (tw @b1 (tw @b6 @hw))))) (by(simp only[go_sem, ↓reduceIte,Nat.reduceEqDiff,Nat.reduceAdd,Nat.reduceSub,Nat.reduceLeDiff,reduceCtorEq];exact bI0.cast (by rw[ns])))
  ·have RP:m=2:=ah
   subst RP
   have eu:¬(0:Int)<=1-((2:Nat):Int):=ah
   (try((repeat(revert N;apply Pn.out));refine wk (tw @b7 (tw @b0 (tw @b1 (tw @b6 @eu)))) ?_;(repeat(apply Pn.mk;intro N hN))))
   exact cV (sd (tw @a6 (tw @a0 (tw @a1 (tw @b7 (tw @b0 (tw @b1 @b6))))))) (by(simp only[go_sem, ↓reduceIte,Nat.reduceEqDiff,Nat.reduceAdd,Nat.reduceSub,Nat.reduceLeDiff,reduceCtorEq];exact bI0.cast (by rw[tJ])))
 ·have lN:k=l.length:=ah
  (try((repeat(revert N;apply Pn.out));refine wk (tw @a6 (tw @a0 (tw @a1 @hk))) ?_;(repeat(apply Pn.mk;intro N hN))))
  exact zG (.inl rfl) (by simp only[go_sem, ↓reduceIte,Nat.reduceEqDiff,Nat.reduceAdd,Nat.reduceSub,Nat.reduceLeDiff,reduceCtorEq];rfl) (by rw[lN]at kz;exact kz.gS fun b=>xV _ _ b)
theorem EO (a b:Nat):au Tryz.prog 237 [.int .i64 a,.int .i64 b] (.int .i64 (min a b:Nat)):=by
 refine au.body eI rfl fun hl n0=>?_
 clear hl
 by_cases h:(a:Int)<(b:Int)
 ·(try((repeat(revert N;apply Pn.out));refine wk @h ?_;(repeat(apply Pn.mk;intro N hN))))
  exact dq (b:=(a:Int)) (.inl rfl) (sd @Nat.zero_add) ah
 ·(try((repeat(revert N;apply Pn.out));refine wk @h ?_;(repeat(apply Pn.mk;intro N hN))))
  exact dq (b:=(b:Int)) (.inl rfl) (sd @Nat.zero_add) ah
theorem EN (a b:Nat):au Tryz.prog 88 [.int .i64 a,.int .i64 b] (.int .i64 (max a b:Nat)):=by
 refine au.body eI rfl fun hl n0=>?_
 clear hl
 by_cases h:(b:Int)<(a:Int)
 ·(try((repeat(revert N;apply Pn.out));refine wk @h ?_;(repeat(apply Pn.mk;intro N hN))))
  exact dq (b:=(a:Int)) (.inl rfl) (sd @Nat.zero_add) ah
 ·(try((repeat(revert N;apply Pn.out));refine wk @h ?_;(repeat(apply Pn.mk;intro N hN))))
  exact dq (b:=(b:Int)) (.inl rfl) (sd @Nat.zero_add) ah
def eo (f:Nat->Nat) (n:Nat):List (List AV):=(List.range n).map fun i=>eN (f i)
theorem gU (f:Nat->Nat) (n:Nat):(eo f n).length=n:=by simp[eo]
theorem fZ {f:Nat->Nat} {n i:Nat} (h:i<n):(eo f n)[i]? =some (eN (f i)):=by simp[eo,h]
theorem iM {f g:Nat->Nat} {n:Nat} (h:∀i,i<n->f i=g i):eo f n=eo g n:=List.map_congr_left fun i hi=>by rw[h i (List.mem_range.1 hi)]
theorem rH {f g:Nat->Nat} {n k v:Nat} (hk:k<n) (hv:g k=v) (h:∀i,i<n->i≠k->g i=f i):(eo f n).set k (eN v)=eo g n:=by
 refine List.ext_getElem? fun i=>?_
 rw[List.getElem?_set]
 by_cases hi:k=i
 ·subst hi
  rw[if_pos rfl,gU,if_pos hk,fZ hk,hv]
 ·rw[if_neg hi]
  by_cases gh:i<n
  ·rw[fZ gh,fZ gh,h i gh (fun h=>hi h.symm)]
  ·rw[List.getElem?_eq_none (by rw[gU];omega),List.getElem?_eq_none (by rw[gU];omega)]
theorem ER (cnt:Nat) (hn:cnt<=1048576) (bs:List PB) (hb:∀b∈bs,b.a<cnt/\b.b<cnt) (oV:bs.length<=1048576):au Tryz.prog 236 [.int .i64 cnt,.sl (bs.map aL)] (.sl ((gm cnt (eT bs)).map Dh)):=by
 refine au.body eI rfl fun hl n0=>?_
 clear hl
 (try((repeat(revert N;apply Pn.out));refine wk @Nat.zero_add ?_;(repeat(apply Pn.mk;intro N hN))))
 refine bf (fun n env st=>∃k:Nat,n=(cnt)-k/\k<=(cnt)/\env 6=.int .i64 (k:Int)/\(∃o:Id,env 5=.own o 0 k/\st.get o=some ⟨true,1,eo id k⟩/\o.bG<st.next)) (cnt) ⟨0,ah,ah,sl @Nat.zero_add,⟨⟨236001000,n0+1⟩,sd @Nat.zero_add,by simp only[go_sem, ↓reduceIte,Nat.reduceEqDiff,Nat.reduceAdd,Nat.reduceSub,Nat.reduceLeDiff,reduceCtorEq];rfl,bc⟩⟩ ?_
 rintro n_a env_a st_a ⟨k,rfl,ale,a6,kz⟩ dX
 have a0:=dX 0 (by kernel_rfl);have a1:=dX 1 (by kernel_rfl)
 simp only[go_sem, ↓reduceIte,Nat.reduceEqDiff,Nat.reduceAdd,Nat.reduceSub,Nat.reduceLeDiff,reduceCtorEq]at a0 a1
 clear dX
 obtain⟨o,a5,ag,uc⟩:=kz
 have tl:=gU id k
 have pK:=db uc
 by_cases hk:(k:Int)<(cnt:Int)
 ·have cV:∀{e:Env} {gg:Rows} {nx:Nat},(e 6=.int .i64 (IntKind.i64.wrap ((k:Int)+1)))->(∃o:Id,e 5=.own o 0 (k+1)/\gg o=some ⟨true,1,eo id (k+1)⟩/\o.bG<nx)->∃m0,m0<(cnt)-k/\∃k:Nat,m0=(cnt)-k/\k<=(cnt)/\e 6=.int .i64 (k:Int)/\(∃o:Id,e 5=.own o 0 k/\gg o=some ⟨true,1,eo id k⟩/\o.bG<nx):=fun x1 x2=>⟨_,ah,k+1,rfl,ah,(by rw[x1,aE ah]),x2⟩
  have fC:k<cnt:=ah
  have e1:k+1<=16777216:=ah
  have rT:eo id k++[[.int .i64 (k:Int)]]=eo id (k+1):=by simp[eo,List.range_succ,eN]
  (try((repeat(revert N;apply Pn.out));refine wk (tw @a6 (tw @a0 (tw @a1 (tw @a5 (tw @ag (tw @pK (tw @hk (tw @tl (tw @e1 @rT))))))))) ?_;(repeat(apply Pn.mk;intro N hN))))
  exact cV (sd (tw @a6 (tw @a0 @a1))) (⟨⟨236005003,st_a.next+1⟩,sd @Nat.zero_add,sd @rT,bc⟩)
 have lN:k=cnt:=ah
 subst lN
 have ho4:st_a.get o=some ⟨true,1,eo (eT (bs.take 0)) k⟩:=ag
 clear ag
 (try((repeat(revert N;apply Pn.out));refine wk (tw @a6 (tw @a0 (tw @a1 @hk))) ?_;(repeat(apply Pn.mk;intro N hN))))
 refine bf (fun n env st=>∃j:Nat,n=(bs.length)-j/\j<=(bs.length)/\env 7=.int .i64 (j:Int)/\st.get o=some ⟨true,1,eo (eT (bs.take j)) k⟩/\(o.bG<st.next)) (bs.length) ⟨0,ah,ah,sl (tw @a6 (tw @a0 (tw @a1 (tw @a5 @ho4)))),sl (tw @a6 (tw @a0 (tw @a1 (tw @a5 @ho4)))),bc⟩ ?_
 rintro n_b env_b st_b ⟨j,rfl,ble,b7,bg0,bI0⟩ fh
 have b0:=fh 0 (by kernel_rfl);have b1:=fh 1 (by kernel_rfl);have b5:=fh 5 (by kernel_rfl)
 simp only[go_sem, ↓reduceIte,Nat.reduceEqDiff,Nat.reduceAdd,Nat.reduceSub,Nat.reduceLeDiff,reduceCtorEq,a6,a0,a1,a5,ho4]at b0 b1 b5
 clear fh
 by_cases hj:(j:Int)<(bs.length:Int)
 ·have fX:∀{e:Env} {gg:Rows} {nx:Nat},(e 7=.int .i64 (IntKind.i64.wrap ((j:Int)+1)))->(gg o=some ⟨true,1,eo (eT (bs.take (j+1))) k⟩)->(o.bG<nx)->∃m0,m0<(bs.length)-j/\∃j:Nat,m0=(bs.length)-j/\j<=(bs.length)/\e 7=.int .i64 (j:Int)/\gg o=some ⟨true,1,eo (eT (bs.take j)) k⟩/\(o.bG<nx):=fun x1 x2 x3=>⟨_,ah,j+1,rfl,ah,(by rw[x1,aE ah]),x2,x3⟩
  have iN:j<bs.length:=ah
  have Co:(bs.map aL)[j]? =some (aL bs[j]):=by simp[iN]
  have PL:=hb _ (List.getElem_mem iN)
  have nu:bs.take (j+1)=bs.take j++[bs[j]]:=List.take_succ_eq_append_getElem iN
  have ns:eT (bs.take (j+1))=fe (eT (bs.take j)) bs[j]:=by rw[nu,za]
  generalize eT (bs.take j)=L at *
  generalize bs[j]=b at *
  have hA:=fZ (f:=L) PL.1
  have hB:=fZ (f:=L) PL.2
  have YB:=EO (L b.a) (L b.b)
  have YC:=EN (L b.a) (L b.b)
  have tl:=gU L k
  have iq:(b.a:Int)<(k:Int):=ah
  have gj:(b.b:Int)<(k:Int):=ah
  (try((repeat(revert N;apply Pn.out));refine wk (tw @b7 (tw @bg0 (tw @b0 (tw @b1 (tw @b5 (tw @hj (tw @Co (tw @aL.eq_1 (tw @hA (tw @hB (tw @iq (tw @gj (tw @tl @eN.eq_1))))))))))))) ?_;(repeat(apply Pn.mk;intro N hN))))
  refine bf (fun n env st=>∃i:Nat,n=(k)-i/\i<=(k)/\env 10=.int .i64 (i:Int)/\st.get o=some ⟨true,1,eo (fun x=>if x<i then fe L b x else L x) k⟩/\(o.bG<st.next)) (k) ⟨0,ah,ah,sl (tw @b7 (tw @bg0 (tw @b0 (tw @b1 (tw @b5 @Nat.not_lt_zero))))),sl (tw @b7 (tw @bg0 (tw @b0 (tw @b1 (tw @b5 @Nat.not_lt_zero))))),bc⟩ ?_
  rintro n_c env_c st_c ⟨i,rfl,cle,kq,cg0,cI0⟩ jq
  have c0:=jq 0 (by kernel_rfl);have c1:=jq 1 (by kernel_rfl);have c5:=jq 5 (by kernel_rfl);have c7:=jq 7 (by kernel_rfl);have c8:=jq 8 (by kernel_rfl);have c9:=jq 9 (by kernel_rfl)
  simp only[go_sem, ↓reduceIte,Nat.reduceEqDiff,Nat.reduceAdd,Nat.reduceSub,Nat.reduceLeDiff,reduceCtorEq,b7,bg0,b0,b1,b5,Nat.not_lt_zero]at c0 c1 c5 c7 c8 c9
  clear jq
  have hC:=fZ (f:=fun x=>if x<i then fe L b x else L x) (n:=k) (i:=i)
  have tc:=gU (fun x=>if x<i then fe L b x else L x) k
  by_cases hi:(i:Int)<(k:Int)
  ·have ik:∀{e:Env} {gg:Rows} {nx:Nat},(e 10=.int .i64 (IntKind.i64.wrap ((i:Int)+1)))->(gg o=some ⟨true,1,eo (fun x=>if x<(i+1)then fe L b x else L x) k⟩)->(o.bG<nx)->∃m0,m0<(k)-i/\∃i:Nat,m0=(k)-i/\i<=(k)/\e 10=.int .i64 (i:Int)/\gg o=some ⟨true,1,eo (fun x=>if x<i then fe L b x else L x) k⟩/\(o.bG<nx):=fun x1 x2 x3=>⟨_,ah,i+1,rfl,ah,(by rw[x1,aE ah]),x2,x3⟩
   have gh:i<k:=ah
   replace hC:=hC gh
   rw[if_neg (Nat.lt_irrefl i)]at hC
   by_cases he:L i=max (L b.a) (L b.b)
   ·have th:decide ((L i:Int)=((max (L b.a) (L b.b):Nat):Int))=true:=decide_eq_true (by rw[he])
    have ew:(eo (fun x=>if x<i then fe L b x else L x) k).set i (eN (min (L b.a) (L b.b)))=eo (fun x=>if x<i+1 then fe L b x else L x) k:=rH gh (by rw[if_pos ah,fe,if_pos he]) fun x hx F1=>by
     by_cases h:x<i
     ·rw[if_pos h,if_pos ah]
     ·rw[if_neg h,if_neg ah]
    rw[eN]at ew hC
    (have zF:=tw @kq (tw @cg0 (tw @c0 (tw @c1 (tw @c5 (tw @c7 (tw @c8 (tw @c9 (tw @hi (tw @hC (tw @tc (tw @th @ew)))))))))));(repeat(first|((repeat(revert N;apply Pn.out));refine wk zF ?_;(repeat(apply Pn.mk;intro N hN)))|((try apply Or.inl);refine⟨_,au.x (YB) (sd zF),?_⟩;apply hN;clear hN N)|((try apply Or.inl);refine⟨_,au.x (YC) (sd zF),?_⟩;apply hN;clear hN N)));try clear zF)
    refine ik ?_ ?_ bc
    all_goals simp only[go_sem, ↓reduceIte,Nat.reduceEqDiff,Nat.reduceAdd,Nat.reduceSub,Nat.reduceLeDiff,reduceCtorEq,kq,cg0,c0,c1,c5,c7,c8,c9]
   ·have th:decide ((L i:Int)=((max (L b.a) (L b.b):Nat):Int))=false:=decide_eq_false fun h=>he ah
    have om:eo (fun x=>if x<i then fe L b x else L x) k=eo (fun x=>if x<i+1 then fe L b x else L x) k:=iM fun x hx=>by
     by_cases h:x<i
     ·rw[if_pos h,if_pos ah]
     ·by_cases F1:x=i
      ·subst F1;rw[if_neg h,if_pos ah,fe,if_neg he]
      ·rw[if_neg h,if_neg ah]
    rw[eN]at hC
    (have zF:=tw @kq (tw @cg0 (tw @c0 (tw @c1 (tw @c5 (tw @c7 (tw @c8 (tw @c9 (tw @hi (tw @hC (tw @tc @th))))))))));(repeat(first|((repeat(revert N;apply Pn.out));refine wk zF ?_;(repeat(apply Pn.mk;intro N hN)))|((try apply Or.inl);refine⟨_,au.x (YB) (sd zF),?_⟩;apply hN;clear hN N)|((try apply Or.inl);refine⟨_,au.x (YC) (sd zF),?_⟩;apply hN;clear hN N)));try clear zF)
    rw[om]at cg0
    refine ik ?_ ?_ bc
    all_goals simp only[go_sem, ↓reduceIte,Nat.reduceEqDiff,Nat.reduceAdd,Nat.reduceSub,Nat.reduceLeDiff,reduceCtorEq,kq,cg0,c0,c1,c5,c7,c8,c9]
  ·have Bf:i=k:=ah
   subst Bf
   have ep:eo (fun x=>if x<i then fe L b x else L x) i=eo (fe L b) i:=iM fun x hx=>if_pos hx
   rw[ep]at cg0
   rw[<-ns]at cg0
   (try((repeat(revert N;apply Pn.out));refine wk (tw @kq (tw @cg0 (tw @c0 (tw @c1 (tw @c5 (tw @c7 (tw @c8 (tw @c9 (tw @hi @tc))))))))) ?_;(repeat(apply Pn.mk;intro N hN))))
   refine fX ?_ ?_ bc
   all_goals simp only[go_sem, ↓reduceIte,Nat.reduceEqDiff,Nat.reduceAdd,Nat.reduceSub,Nat.reduceLeDiff,reduceCtorEq,b7,bg0,b0,b1,b5,kq,cg0,c0,c1,c5,c7,c8,c9]
 have gZ:j=bs.length:=ah
 subst gZ
 rw[List.take_length]at bg0
 have hL:=xd bs
 generalize eT bs=L at *
 have tl:=gU L k
 (try((repeat(revert N;apply Pn.out));refine wk (tw @b7 (tw @bg0 (tw @b0 (tw @b1 (tw @b5 @hj))))) ?_;(repeat(apply Pn.mk;intro N hN))))
 have RQ:o.bG<st_b.next:=bI0
 refine bf (fun n env st=>∃i:Nat,n=(k)-i/\i<=(k)/\env 12=.int .i64 (i:Int)/\st.get o=some ⟨true,1,eo L k⟩/\(∃oo rows ids,env 11=.own oo 0 rows.length/\st.get oo=some ⟨true,1,rows⟩/\eV Vu st.get rows ((leads i L).map (members k L)) ids/\(∀x∈oo::ids,st_b.next<=x.bG/\x.bG<st.next)/\st_b.next<=st.next/\oo∉ids)) (k) ⟨0,ah,ah,sl (tw @b7 (tw @bg0 (tw @b0 (tw @b1 (tw @b5 (db RQ)))))),sl (tw @b7 (tw @bg0 (tw @b0 (tw @b1 (tw @b5 (db RQ)))))),⟨⟨236016000,st_b.next+1⟩,[],[],by(simp only[go_sem, ↓reduceIte,Nat.reduceEqDiff,Nat.reduceAdd,Nat.reduceSub,Nat.reduceLeDiff,reduceCtorEq])<;>rfl,sd @Nat.zero_add,.nil,fun x hx=>by rw[List.mem_singleton.1 hx];(try dsimp only);omega,bc,by simp⟩⟩ ?_
 rintro n_d env_d st_d ⟨i,rfl,dle,d12,dg0,dI0⟩ dfr
 have d0:=dfr 0 (by kernel_rfl);have d5:=dfr 5 (by kernel_rfl)
 simp only[go_sem, ↓reduceIte,Nat.reduceEqDiff,Nat.reduceAdd,Nat.reduceSub,Nat.reduceLeDiff,reduceCtorEq,b7,bg0,b0,b1,b5,db RQ]at d0 d5
 clear dfr
 obtain⟨oo,rows,ids,d11,dg,hR,pV,hle,qY⟩:=dI0
 have rT:=iF i L
 have uV:=hR.len
 by_cases hi:(i:Int)<(k:Int)
 ·have xg:∀{e:Env} {gg:Rows} {nx:Nat},(e 12=.int .i64 (IntKind.i64.wrap ((i:Int)+1)))->(gg o=some ⟨true,1,eo L k⟩)->(∃oo rows ids,e 11=.own oo 0 rows.length/\gg oo=some ⟨true,1,rows⟩/\eV Vu gg rows ((leads (i+1) L).map (members k L)) ids/\(∀x∈oo::ids,st_b.next<=x.bG/\x.bG<nx)/\st_b.next<=nx/\oo∉ids)->∃m0,m0<(k)-i/\∃i:Nat,m0=(k)-i/\i<=(k)/\e 12=.int .i64 (i:Int)/\gg o=some ⟨true,1,eo L k⟩/\(∃oo rows ids,e 11=.own oo 0 rows.length/\gg oo=some ⟨true,1,rows⟩/\eV Vu gg rows ((leads i L).map (members k L)) ids/\(∀x∈oo::ids,st_b.next<=x.bG/\x.bG<nx)/\st_b.next<=nx/\oo∉ids):=fun x1 x2 x3=>⟨_,ah,i+1,rfl,ah,(by rw[x1,aE ah]),x2,x3⟩
  have gh:i<k:=ah
  have hC:=fZ (f:=L) gh
  have lZ:=db (i:=o) (n:=st_d.next) ah
  have Xu:=db (i:=oo) (n:=st_d.next) (pV oo (by simp)).2
  by_cases he:L i=i
  ·rw[if_pos he]at rT
   have th:decide ((L i:Int)=(i:Int))=true:=decide_eq_true (by rw[he])
   rw[eN]at hC
   (try((repeat(revert N;apply Pn.out));refine wk (tw @d12 (tw @dg0 (tw @d0 (tw @d5 (tw @d11 (tw @dg (tw @hi (tw @hC (tw @tl (tw @th (tw @lZ @Xu))))))))))) ?_;(repeat(apply Pn.mk;intro N hN))))
   refine bf (fun n env st=>∃m:Nat,n=((k-i))-m/\m<=((k-i))/\env 14=(.int .i64 ((i+m:Nat):Int))/\(∃pp:Id,env 13=.own pp 0 (members (i+m) L i).length/\st.get pp=some ⟨true,1,(members (i+m) L i).map eN⟩/\st_d.next<=pp.bG/\pp.bG<st.next/\(∀x:Id,x.bG<st_d.next->st.get x=st_d.get x)/\st_d.next<=st.next)) ((k-i)) ⟨0,ah,ah,sl (tw @d12 (tw @dg0 (tw @d0 (tw @d5 @d11)))),⟨⟨236021000,st_d.next+1+1⟩,by rw[show members (i+0) L i=[]from o8 hL (Nat.le_refl i)];(simp only[go_sem, ↓reduceIte,Nat.reduceEqDiff,Nat.reduceAdd,Nat.reduceSub,Nat.reduceLeDiff,reduceCtorEq])<;>rfl,by rw[show members (i+0) L i=[]from o8 hL (Nat.le_refl i)];(simp only[go_sem, ↓reduceIte,Nat.reduceEqDiff,Nat.reduceAdd,Nat.reduceSub,Nat.reduceLeDiff,reduceCtorEq])<;>rfl,bc,bc,fun x hx=>sd (db hx),bc⟩⟩ ?_
   rintro n_f env_f st_f ⟨m,rfl,fle,f14,fI0⟩ ffr
   have f0:=ffr 0 (by kernel_rfl);have f5:=ffr 5 (by kernel_rfl);have f11:=ffr 11 (by kernel_rfl);have f12:=ffr 12 (by kernel_rfl)
   simp only[go_sem, ↓reduceIte,Nat.reduceEqDiff,Nat.reduceAdd,Nat.reduceSub,Nat.reduceLeDiff,reduceCtorEq,d12,dg0,d0,d5,d11]at f0 f5 f11 f12
   clear ffr
   obtain⟨pp,f13,fg,TW,Iz,jy,qZ⟩:=fI0
   have xH:st_f.get o=some ⟨true,1,eo L k⟩:=(jy o ah).trans dg0
   have hgoo:st_f.get oo=some ⟨true,1,rows⟩:=(jy oo (pV oo (by simp)).2).trans dg
   have Dl:=db Iz
   have EC:=db (i:=o) (n:=st_f.next) ah
   have Xv:=db (i:=oo) (n:=st_f.next) (by have:=(pV oo (by simp)).2;omega)
   have TN:members (i+(m+1)) L i=members (i+m) L i++if L (i+m)=i then[i+m]else[]:=kd (i+m) L i
   have hmle:(members (i+m) L i).length<=i+m:=by
    have:=List.length_filter_le (fun k=>L k==i) (List.range (i+m))
    simpa[members]using this
   have x1:=de (a:=o) (b:=pp) ah
   have x2:=de (a:=oo) (b:=pp) (by have:=(pV oo (by simp)).2;omega)
   have x3:=de (a:=o) (b:=oo) (by have:=(pV oo (by simp)).1;omega)
   by_cases hm:m<k-i
   ·have uw:∀{e:Env} {gg:Rows} {nx:Nat},(e 14=(.int .i64 ((i+(m+1):Nat):Int)))->(∃pp:Id,e 13=.own pp 0 (members (i+(m+1)) L i).length/\gg pp=some ⟨true,1,(members (i+(m+1)) L i).map eN⟩/\st_d.next<=pp.bG/\pp.bG<nx/\(∀x:Id,x.bG<st_d.next->gg x=st_d.get x)/\st_d.next<=nx)->∃m0,m0<((k-i))-m/\∃m:Nat,m0=((k-i))-m/\m<=((k-i))/\e 14=(.int .i64 ((i+m:Nat):Int))/\(∃pp:Id,e 13=.own pp 0 (members (i+m) L i).length/\gg pp=some ⟨true,1,(members (i+m) L i).map eN⟩/\st_d.next<=pp.bG/\pp.bG<nx/\(∀x:Id,x.bG<st_d.next->gg x=st_d.get x)/\st_d.next<=nx):=fun x1 x2=>⟨_,ah,m+1,rfl,ah,x1,x2⟩
    have Xe:((i+m:Nat):Int)<(k:Int):=ah
    have ZW:=fZ (f:=L) (show i+m<k by omega)
    have hw:IntKind.i64.wrap (((i+m:Nat):Int)+1)=((i+(m+1):Nat):Int):=by rw[cq ah];omega
    rw[eN]at ZW
    by_cases hq:L (i+m)=i
    ·have nJ:decide ((L (i+m):Int)=(i:Int))=true:=decide_eq_true (by rw[hq])
     rw[if_pos hq]at TN
     have e1:(members (i+m) L i).length+1<=16777216:=ah
     have gL:((members (i+m) L i).map eN).length=(members (i+m) L i).length:=by simp
     (try((repeat(revert N;apply Pn.out));refine wk (tw @f14 (tw @f0 (tw @f5 (tw @f11 (tw @f12 (tw @f13 (tw @fg (tw @xH (tw @Xe (tw @ZW (tw @tl (tw @nJ (tw @Dl (tw @EC (tw @x1 (tw @e1 @gL)))))))))))))))) ?_;(repeat(apply Pn.mk;intro N hN))))
     exact uw (sd (tw @f14 (tw @f0 (tw @f5 (tw @f11 (tw @f12 (tw @xH (tw @hw (tw @EC @x1))))))))) (⟨⟨236026003,st_f.next+1+1⟩,by rw[TN,List.length_append];simp only[go_sem, ↓reduceIte,Nat.reduceEqDiff,Nat.reduceAdd,Nat.reduceSub,Nat.reduceLeDiff,reduceCtorEq,List.length_cons,List.length_nil],by rw[TN,List.map_append,List.map_cons,List.map_nil];simp only[go_sem, ↓reduceIte,Nat.reduceEqDiff,Nat.reduceAdd,Nat.reduceSub,Nat.reduceLeDiff,reduceCtorEq,eN],bc,bc,fun x hx=>by
      have y1:=jy x hx
      have y2:=de (a:=x) (b:=pp) ah
      simp only[go_sem, ↓reduceIte,Nat.reduceEqDiff,Nat.reduceAdd,Nat.reduceSub,Nat.reduceLeDiff,reduceCtorEq,db (show x.bG<st_f.next by omega),y1,y2],bc⟩)
    ·have nJ:decide ((L (i+m):Int)=(i:Int))=false:=decide_eq_false fun h=>hq ah
     rw[if_neg hq,List.append_nil]at TN
     (try((repeat(revert N;apply Pn.out));refine wk (tw @f14 (tw @f0 (tw @f5 (tw @f11 (tw @f12 (tw @f13 (tw @fg (tw @xH (tw @Xe (tw @ZW (tw @tl (tw @nJ (tw @Dl (tw @EC @x1)))))))))))))) ?_;(repeat(apply Pn.mk;intro N hN))))
     exact uw (sd (tw @f14 (tw @f0 (tw @f5 (tw @f11 (tw @f12 (tw @xH @hw))))))) (⟨pp,by rw[TN];simp only[go_sem, ↓reduceIte,Nat.reduceEqDiff,Nat.reduceAdd,Nat.reduceSub,Nat.reduceLeDiff,reduceCtorEq,f13],by rw[TN];simp only[go_sem, ↓reduceIte,Nat.reduceEqDiff,Nat.reduceAdd,Nat.reduceSub,Nat.reduceLeDiff,reduceCtorEq,fg],TW,bc,jy,bc⟩)
   ·have hmk:i+m=k:=ah
    have Xe:¬((i+m:Nat):Int)<(k:Int):=ah
    rw[hmk]at f13 fg hmle
    have e1:rows.length+1<=16777216:=by
     have:=kN i L
     rw[uV,List.length_map];omega
    (try((repeat(revert N;apply Pn.out));refine wk (tw @f14 (tw @f0 (tw @f5 (tw @f11 (tw @f12 (tw @f13 (tw @fg (tw @xH (tw @hgoo (tw @Xe (tw @Dl (tw @EC (tw @Xv (tw @x1 (tw @x2 @e1))))))))))))))) ?_;(repeat(apply Pn.mk;intro N hN))))
    refine xg ?_ ?_ (⟨⟨236027003,st_f.next+1⟩,rows++[[.own pp 0 (members k L i).length]],ids++[pp],by rw[List.length_append];simp only[go_sem, ↓reduceIte,Nat.reduceEqDiff,Nat.reduceAdd,Nat.reduceSub,Nat.reduceLeDiff,reduceCtorEq,List.length_cons,List.length_nil],sd @Nat.zero_add,by
      rw[rT,List.map_append]
      refine(hR.frame Ut fun x hx=>?_).app (.one ⟨pp,rfl,?_,rfl⟩)
      ·have h1:=pV x (by simp[hx])
       have y1:=jy x h1.2
       have y2:=de (a:=x) (b:=pp) ah
       have y3:(x=oo)=False:=by
        simp only[eq_iff_iff,iff_false]
        rintro rfl
        exact qY hx
       simp only[go_sem, ↓reduceIte,Nat.reduceEqDiff,Nat.reduceAdd,Nat.reduceSub,Nat.reduceLeDiff,reduceCtorEq,db (show x.bG<st_f.next by omega),y1,y2,y3]
      ·simp only[go_sem, ↓reduceIte,Nat.reduceEqDiff,Nat.reduceAdd,Nat.reduceSub,Nat.reduceLeDiff,reduceCtorEq,Dl,x2,fg],fun x hx=>by
      rcases List.mem_cons.1 hx with rfl|hx
      ·(try dsimp only);omega
      ·rcases List.mem_append.1 hx with hx|hx
       ·have:=pV x (by simp[hx]);(try dsimp only);omega
       ·rw[List.mem_singleton.1 hx];(try dsimp only);omega,bc,fun hc=>by
      rcases List.mem_append.1 hc with hc|hc
      ·have:=(pV _ (List.mem_cons_of_mem _ hc)).2;(try dsimp only at this);omega
      ·have:=List.mem_singleton.1 hc;rw[<-this]at Iz;(try dsimp only at Iz);omega⟩)
    all_goals simp only[go_sem, ↓reduceIte,Nat.reduceEqDiff,Nat.reduceAdd,Nat.reduceSub,Nat.reduceLeDiff,reduceCtorEq,f14,f0,f5,f11,f12,xH,EC,x3]
  ·rw[if_neg he,List.append_nil]at rT
   have th:decide ((L i:Int)=(i:Int))=false:=decide_eq_false fun h=>he ah
   rw[eN]at hC
   (try((repeat(revert N;apply Pn.out));refine wk (tw @d12 (tw @dg0 (tw @d0 (tw @d5 (tw @d11 (tw @dg (tw @hi (tw @hC (tw @tl (tw @th (tw @lZ @Xu))))))))))) ?_;(repeat(apply Pn.mk;intro N hN))))
   refine xg ?_ ?_ (⟨oo,rows,ids,sd @d11,sd @dg,by rw[rT];exact hR,fun x hx=>by have:=pV x hx;(try dsimp only);omega,bc,qY⟩)
   all_goals simp only[go_sem, ↓reduceIte,Nat.reduceEqDiff,Nat.reduceAdd,Nat.reduceSub,Nat.reduceLeDiff,reduceCtorEq,d12,dg0,d0,d5]
 ·have Bf:i=k:=ah
  (try((repeat(revert N;apply Pn.out));refine wk (tw @d12 (tw @dg0 (tw @d0 (tw @d5 (tw @d11 (tw @dg @hi)))))) ?_;(repeat(apply Pn.mk;intro N hN))))
  refine zG (.inl rfl) (by simp only[go_sem, ↓reduceIte,Nat.reduceEqDiff,Nat.reduceAdd,Nat.reduceSub,Nat.reduceLeDiff,reduceCtorEq];rfl) ?_
  rw[xX dg (by simp) (rows':=(gm k L).map Dh) (by rw[List.drop_zero,List.take_of_length_le (Nat.le_refl _)];rw[Bf]at hR;exact Nq 3 hR)]
theorem zU (n:Nat):List.replicate n [AV.int .i64 0]=eo (fun _=>0) n:=by
 refine List.ext_getElem? fun i=>?_
 by_cases h:i<n
 ·rw[fZ h,List.getElem?_replicate,if_pos h];rfl
 ·rw[List.getElem?_eq_none (by simp;omega),List.getElem?_eq_none (by rw[gU];omega)]
def dB (cnt:Nat) (L:Nat->Nat) (i m:Nat):Nat->Nat:=fun x=>if cW L x<i then cW L x else if x∈(members cnt L ((leads cnt L).getD i 0)).take m then i else 0
theorem qz (cnt:Nat) (L:Nat->Nat):dB cnt L 0 0=fun _=>0:=by funext x;simp[dB]
theorem xn (t:Int) (bs:List PB) (k:Nat) (h:k<bs.length):bh t (bs.take (k+1))=bh t (bs.take k)++if t<=(bs[k]).s then[bs[k]]else[]:=by
 unfold bh
 rw[List.take_succ_eq_append_getElem h,List.filter_append]
 congr 1
 by_cases h:t<=bs[k].s<;>simp[h]
theorem zP {t:Int} {bs:List PB} {b:PB} (h:b∈bh t bs):b∈bs:=(List.mem_filter.1 h).1
theorem ph (t:Int) (bs:List PB):(bh t bs).length<=bs.length:=List.length_filter_le _ _
theorem ET (cnt:Nat) (hn:cnt<=1048576) (bs:List PB) (hb:∀b∈bs,b.a<cnt/\b.b<cnt) (oV:bs.length<=1048576) (t:Int):au Tryz.prog 192 [.int .i64 cnt,.sl (bs.map aL),.int .i64 t] (.fD [.int .i64 (leads cnt (eT (bh t bs))).length,.sl ((fM (eT (bh t bs)) bs).map aL)]):=by
 refine au.body eI rfl fun hl n0=>?_
 clear hl
 (try((repeat(revert N;apply Pn.out));refine wk @Nat.zero_add ?_;(repeat(apply Pn.mk;intro N hN))))
 refine bf (fun n env st=>∃k:Nat,n=(bs.length)-k/\k<=(bs.length)/\env 9=.int .i64 (k:Int)/\(∃o:Id,env 8=.own o 0 (bh t (bs.take k)).length/\st.get o=some ⟨true,3,(bh t (bs.take k)).map aL⟩/\o.bG<st.next)) (bs.length) ⟨0,ah,ah,sl @Nat.zero_add,⟨⟨192001000,n0+1⟩,by(simp only[go_sem, ↓reduceIte,Nat.reduceEqDiff,Nat.reduceAdd,Nat.reduceSub,Nat.reduceLeDiff,reduceCtorEq])<;>rfl,by(simp only[go_sem, ↓reduceIte,Nat.reduceEqDiff,Nat.reduceAdd,Nat.reduceSub,Nat.reduceLeDiff,reduceCtorEq])<;>rfl,bc⟩⟩ ?_
 rintro n_a env_a st_a ⟨k,rfl,ale,a9,kz⟩ dX
 have a0:=dX 0 (by kernel_rfl);have a1:=dX 1 (by kernel_rfl);have a2:=dX 2 (by kernel_rfl)
 simp only[go_sem, ↓reduceIte,Nat.reduceEqDiff,Nat.reduceAdd,Nat.reduceSub,Nat.reduceLeDiff,reduceCtorEq]at a0 a1 a2
 clear dX
 obtain⟨o,a8,ag,uc⟩:=kz
 have pK:=db uc
 by_cases hk:(k:Int)<(bs.length:Int)
 ·have cV:∀{e:Env} {gg:Rows} {nx:Nat},(e 9=.int .i64 (IntKind.i64.wrap ((k:Int)+1)))->(∃o:Id,e 8=.own o 0 (bh t (bs.take (k+1))).length/\gg o=some ⟨true,3,(bh t (bs.take (k+1))).map aL⟩/\o.bG<nx)->∃m0,m0<(bs.length)-k/\∃k:Nat,m0=(bs.length)-k/\k<=(bs.length)/\e 9=.int .i64 (k:Int)/\(∃o:Id,e 8=.own o 0 (bh t (bs.take k)).length/\gg o=some ⟨true,3,(bh t (bs.take k)).map aL⟩/\o.bG<nx):=fun x1 x2=>⟨_,ah,k+1,rfl,ah,(by rw[x1,aE ah]),x2⟩
  have fC:k<bs.length:=ah
  have fa:(bs.map aL)[k]? =some (aL bs[k]):=by simp[fC]
  have hs:=xn t bs k fC
  have qw:=ph t (bs.take k)
  rw[List.length_take]at qw
  by_cases hc:t<=(bs[k]).s
  ·rw[if_pos hc]at hs
   have e1:(bh t (bs.take k)).length+1<=16777216:=ah
   have gL:((bh t (bs.take k)).map aL).length=(bh t (bs.take k)).length:=by simp
   generalize bs[k]=b at *
   (try((repeat(revert N;apply Pn.out));refine wk (tw @a9 (tw @a0 (tw @a1 (tw @a2 (tw @a8 (tw @ag (tw @pK (tw @hk (tw @fa (tw @hc (tw @e1 (tw @gL @aL.eq_1)))))))))))) ?_;(repeat(apply Pn.mk;intro N hN))))
   exact cV (sd (tw @a9 (tw @a0 (tw @a1 @a2)))) (⟨⟨192006006,st_a.next+1+1⟩,by rw[hs,List.length_append];simp only[go_sem, ↓reduceIte,Nat.reduceEqDiff,Nat.reduceAdd,Nat.reduceSub,Nat.reduceLeDiff,reduceCtorEq,List.length_cons,List.length_nil],by rw[hs,List.map_append,List.map_cons,List.map_nil];simp only[go_sem, ↓reduceIte,Nat.reduceEqDiff,Nat.reduceAdd,Nat.reduceSub,Nat.reduceLeDiff,reduceCtorEq,aL],bc⟩)
  ·rw[if_neg hc,List.append_nil]at hs
   generalize bs[k]=b at *
   (try((repeat(revert N;apply Pn.out));refine wk (tw @a9 (tw @a0 (tw @a1 (tw @a2 (tw @a8 (tw @ag (tw @pK (tw @hk (tw @fa (tw @hc @aL.eq_1)))))))))) ?_;(repeat(apply Pn.mk;intro N hN))))
   exact cV (sd (tw @a9 (tw @a0 (tw @a1 @a2)))) (⟨o,by rw[hs];simp only[go_sem, ↓reduceIte,Nat.reduceEqDiff,Nat.reduceAdd,Nat.reduceSub,Nat.reduceLeDiff,reduceCtorEq,a8],by rw[hs];simp only[go_sem, ↓reduceIte,Nat.reduceEqDiff,Nat.reduceAdd,Nat.reduceSub,Nat.reduceLeDiff,reduceCtorEq,ag],bc⟩)
 have lN:k=bs.length:=ah
 subst lN
 rw[List.take_length]at a8 ag
 have Ln:=ER cnt hn (bh t bs) (fun b h=>hb b (zP h)) (by have:=ph t bs;omega)
 have hL:=xd (bh t bs)
 have Di:fz (ea st_a.get) 6 (.own o 0 (bh t bs).length)=some (.sl ((bh t bs).map aL)):=gF (sz:=3) (by simp[ea,ag]) rfl fun b=>Cf _ 4 b
 have hfz2:∀x,dx (ea st_a.get) 6 [.int .i64 x,.own o 0 (bh t bs).length]=some [.int .i64 x,.sl ((bh t bs).map aL)]:=fun x=>by simp only[ai,ar,aB,Di,Option.map_some]
 (try((repeat(revert N;apply Pn.out));refine wk (tw @a9 (tw @a0 (tw @a1 (tw @a2 (tw @a8 @hk))))) ?_;(repeat(apply Pn.mk;intro N hN))))
 refine .inl ⟨_,au.x Ln (hfz2 _),?_⟩
 apply hN
 clear hN N
 generalize eT (bh t bs)=L at *
 have uT:((gm cnt L).map Dh).length=(leads cnt L).length:=by simp[gm]
 have YT:=kN cnt L
 have j6:(0:Int)<=(cnt:Int):=ah
 have pY:(cnt:Int)<=((16777216:Nat):Int):=ah
 have iu:List.replicate cnt [AV.int .i64 0]=eo (dB cnt L 0 0) cnt:=by rw[zU,qz]
 (try((repeat(revert N;apply Pn.out));refine wk (tw @a9 (tw @a0 (tw @a1 (tw @a2 (tw @j6 (tw @pY @Int.le_refl)))))) ?_;(repeat(apply Pn.mk;intro N hN))))
 refine bf (fun n env st=>∃i:Nat,n=((leads cnt L).length)-i/\i<=((leads cnt L).length)/\env 12=.int .i64 (i:Int)/\st.get ⟨192008001,st_a.next+1+1⟩=some ⟨true,1,eo (dB cnt L i 0) cnt⟩/\(st_a.next+1+1<st.next)) ((leads cnt L).length) ⟨0,ah,ah,sl (tw @a9 (tw @a0 (tw @a1 (tw @a2 @iu)))),sl (tw @a9 (tw @a0 (tw @a1 (tw @a2 @iu)))),bc⟩ ?_
 rintro n_c env_c st_c ⟨i,rfl,cle,qf,cg0,cI0⟩ jq
 have c1:=jq 1 (by kernel_rfl);have kq:=jq 10 (by kernel_rfl);have pQ:=jq 11 (by kernel_rfl)
 simp only[go_sem, ↓reduceIte,Nat.reduceEqDiff,Nat.reduceAdd,Nat.reduceSub,Nat.reduceLeDiff,reduceCtorEq,a9,a0,a1,a2,iu]at c1 kq pQ
 clear jq
 by_cases hi:(i:Int)<((leads cnt L).length:Int)
 ·have ik:∀{e:Env} {gg:Rows} {nx:Nat},(e 12=.int .i64 (IntKind.i64.wrap ((i:Int)+1)))->(gg ⟨192008001,st_a.next+1+1⟩=some ⟨true,1,eo (dB cnt L (i+1) 0) cnt⟩)->(st_a.next+1+1<nx)->∃m0,m0<((leads cnt L).length)-i/\∃i:Nat,m0=((leads cnt L).length)-i/\i<=((leads cnt L).length)/\e 12=.int .i64 (i:Int)/\gg ⟨192008001,st_a.next+1+1⟩=some ⟨true,1,eo (dB cnt L i 0) cnt⟩/\(st_a.next+1+1<nx):=fun x1 x2 x3=>⟨_,ah,i+1,rfl,ah,(by rw[x1,aE ah]),x2,x3⟩
  have gh:i<(leads cnt L).length:=ah
  have jT:((gm cnt L).map Dh)[i]? =some (Dh (members cnt L (leads cnt L)[i])):=by simp[gm,gh]
  have qW:(leads cnt L).getD i 0=(leads cnt L)[i]:=by simp[List.getD_eq_getElem?_getD,gh]
  have mN:∀m,dB cnt L i m=fun x=>if cW L x<i then cW L x else if x∈(members cnt L (leads cnt L)[i]).take m then i else 0:=fun m=>by unfold dB;rw[qW]
  have ua:=fun x (hx:x<cnt)=>v7 hL (n:=cnt) (k:=x) (i:=i) hx gh
  have mV:(members cnt L (leads cnt L)[i]).Nodup:=List.nodup_range.filter _
  have TM:∀x∈members cnt L (leads cnt L)[i],x<cnt:=fun x hx=>(ny.1 hx).1
  have hMc:(members cnt L (leads cnt L)[i]).length<=cnt:=by
   have:=List.length_filter_le (fun k=>L k==(leads cnt L)[i]) (List.range cnt)
   simpa[members]using this
  generalize members cnt L (leads cnt L)[i]=M at *
  have FU:(M.map eN).length=M.length:=by simp
  (try((repeat(revert N;apply Pn.out));refine wk (tw @qf (tw @cg0 (tw @c1 (tw @kq (tw @pQ (tw @hi @uT)))))) ?_;(repeat(apply Pn.mk;intro N hN))))
  refine bf (fun n env st=>∃m:Nat,n=(M.length)-m/\m<=(M.length)/\env 13=.int .i64 (m:Int)/\st.get ⟨192008001,st_a.next+1+1⟩=some ⟨true,1,eo (dB cnt L i m) cnt⟩/\(st_a.next+1+1<st.next)) (M.length) ⟨0,ah,ah,sl (tw @qf (tw @cg0 (tw @c1 (tw @kq @pQ)))),sl (tw @qf (tw @cg0 (tw @c1 (tw @kq @pQ)))),bc⟩ ?_
  rintro n_d env_d st_d ⟨m,rfl,dle,d13,dg0,dI0⟩ dfr
  have d1:=dfr 1 (by kernel_rfl);have d10:=dfr 10 (by kernel_rfl);have d11:=dfr 11 (by kernel_rfl);have d12:=dfr 12 (by kernel_rfl)
  simp only[go_sem, ↓reduceIte,Nat.reduceEqDiff,Nat.reduceAdd,Nat.reduceSub,Nat.reduceLeDiff,reduceCtorEq,qf,cg0,c1,kq,pQ]at d1 d10 d11 d12
  clear dfr
  have tl:=gU (dB cnt L i m) cnt
  by_cases hm:(m:Int)<(M.length:Int)
  ·have xg:∀{e:Env} {gg:Rows} {nx:Nat},(e 13=.int .i64 (IntKind.i64.wrap ((m:Int)+1)))->(gg ⟨192008001,st_a.next+1+1⟩=some ⟨true,1,eo (dB cnt L i (m+1)) cnt⟩)->(st_a.next+1+1<nx)->∃m0,m0<(M.length)-m/\∃m:Nat,m0=(M.length)-m/\m<=(M.length)/\e 13=.int .i64 (m:Int)/\gg ⟨192008001,st_a.next+1+1⟩=some ⟨true,1,eo (dB cnt L i m) cnt⟩/\(st_a.next+1+1<nx):=fun x1 x2 x3=>⟨_,ah,m+1,rfl,ah,(by rw[x1,aE ah]),x2,x3⟩
   have Cr:m<M.length:=ah
   have uU:(M.map eN)[m]? =some (eN M[m]):=by simp[Cr]
   have y6:=TM _ (List.getElem_mem Cr)
   have F1:(M[m]:Int)<(cnt:Int):=ah
   have FZ:=fZ (f:=dB cnt L i m) y6
   have ew:(eo (dB cnt L i m) cnt).set M[m] (eN i)=eo (dB cnt L i (m+1)) cnt:=rH y6 (by
    have h1:=(ua _ y6).1 (List.getElem_mem Cr)
    rw[mN]
    simp only[]
    rw[if_neg ah,if_pos (by rw[List.take_succ_eq_append_getElem Cr];exact List.mem_append_right _ (List.mem_singleton.2 rfl))]) fun x hx gM=>by
    rw[mN,mN]
    simp only[]
    rw[List.take_succ_eq_append_getElem Cr]
    simp only[List.mem_append,List.mem_singleton,gM,or_false]
   rw[eN]at ew FZ
   generalize M[m]=xm at *
   (try((repeat(revert N;apply Pn.out));refine wk (tw @d13 (tw @dg0 (tw @d1 (tw @d10 (tw @d11 (tw @d12 (tw @hm (tw @hi (tw @jT (tw @uT (tw @uU (tw @FU (tw @F1 (tw @FZ (tw @tl (tw @ew (tw @Dh.eq_1 @eN.eq_1))))))))))))))))) ?_;(repeat(apply Pn.mk;intro N hN))))
   refine xg ?_ ?_ bc
   all_goals simp only[go_sem, ↓reduceIte,Nat.reduceEqDiff,Nat.reduceAdd,Nat.reduceSub,Nat.reduceLeDiff,reduceCtorEq,d13,dg0,d1,d10,d11,d12,ew]
  ·have gL:m=M.length:=ah
   subst gL
   have qZ:eo (dB cnt L i M.length) cnt=eo (dB cnt L (i+1) 0) cnt:=iM fun x hx=>by
    rw[mN,List.take_length]
    simp only[dB,List.take_zero,List.not_mem_nil,if_false]
    have h1:=ua x hx
    by_cases h2:cW L x<i
    ·rw[if_pos h2,if_pos ah]
    ·rw[if_neg h2]
     by_cases h3:x∈M
     ·rw[if_pos h3,if_pos (by have:=h1.1 h3;omega),h1.1 h3]
     ·rw[if_neg h3,if_neg fun h4=>h3 (h1.2 ah)]
   (try((repeat(revert N;apply Pn.out));refine wk (tw @d13 (tw @dg0 (tw @d1 (tw @d10 (tw @d11 (tw @d12 (tw @hm (tw @hi (tw @jT (tw @uT (tw @FU @Dh.eq_1))))))))))) ?_;(repeat(apply Pn.mk;intro N hN))))
   refine ik ?_ ?_ bc
   all_goals simp only[go_sem, ↓reduceIte,Nat.reduceEqDiff,Nat.reduceAdd,Nat.reduceSub,Nat.reduceLeDiff,reduceCtorEq,qf,cg0,c1,kq,pQ,d13,dg0,d1,d10,d11,d12,qZ]
 have mL:i=(leads cnt L).length:=ah
 subst mL
 have qY:eo (dB cnt L (leads cnt L).length 0) cnt=eo (cW L) cnt:=iM fun x hx=>by rw[dB,if_pos (lq hL hx)]
 rw[qY]at cg0
 have tl:=gU (cW L) cnt
 (try((repeat(revert N;apply Pn.out));refine wk (tw @qf (tw @cg0 (tw @c1 (tw @kq (tw @pQ (tw @hi @uT)))))) ?_;(repeat(apply Pn.mk;intro N hN))))
 have YI:st_a.next+1+1<st_c.next:=cI0
 refine bf (fun n env st=>∃j:Nat,n=(bs.length)-j/\j<=(bs.length)/\env 15=.int .i64 (j:Int)/\st.get ⟨192008001,st_a.next+1+1⟩=some ⟨true,1,eo (cW L) cnt⟩/\(∃p:Id,env 14=.own p 0 (fM L (bs.take j)).length/\st.get p=some ⟨true,3,(fM L (bs.take j)).map aL⟩/\st_c.next<=p.bG/\p.bG<st.next)) (bs.length) ⟨0,ah,ah,sl (tw @qf (tw @cg0 (tw @c1 (tw @kq @pQ)))),sl (tw @qf (tw @cg0 (tw @c1 (tw @kq @pQ)))),⟨⟨192016000,st_c.next+1⟩,by(simp only[go_sem, ↓reduceIte,Nat.reduceEqDiff,Nat.reduceAdd,Nat.reduceSub,Nat.reduceLeDiff,reduceCtorEq])<;>rfl,by(simp only[go_sem, ↓reduceIte,Nat.reduceEqDiff,Nat.reduceAdd,Nat.reduceSub,Nat.reduceLeDiff,reduceCtorEq])<;>rfl,bc,bc⟩⟩ ?_
 rintro n_f env_f st_f ⟨j,rfl,fle,f15,fg0,fI0⟩ ffr
 have f1:=ffr 1 (by kernel_rfl);have f10:=ffr 10 (by kernel_rfl);have f11:=ffr 11 (by kernel_rfl)
 simp only[go_sem, ↓reduceIte,Nat.reduceEqDiff,Nat.reduceAdd,Nat.reduceSub,Nat.reduceLeDiff,reduceCtorEq,qf,cg0,c1,kq,pQ]at f1 f10 f11
 clear ffr
 obtain⟨p,f14,fg,TW,Iz⟩:=fI0
 have x1:=de (a:=⟨192008001,st_a.next+1+1⟩) (b:=p) bc
 have Dl:=db Iz
 have hvn:st_a.next+1+1<st_f.next:=ah
 have J1:=db (i:=⟨192008001,st_a.next+1+1⟩) (n:=st_f.next) hvn
 have qw:=(pg L (bs.take j)).2
 rw[List.length_take]at qw
 by_cases hj:(j:Int)<(bs.length:Int)
 ·have uw:∀{e:Env} {gg:Rows} {nx:Nat},(e 15=.int .i64 (IntKind.i64.wrap ((j:Int)+1)))->(gg ⟨192008001,st_a.next+1+1⟩=some ⟨true,1,eo (cW L) cnt⟩)->(∃p:Id,e 14=.own p 0 (fM L (bs.take (j+1))).length/\gg p=some ⟨true,3,(fM L (bs.take (j+1))).map aL⟩/\st_c.next<=p.bG/\p.bG<nx)->∃m0,m0<(bs.length)-j/\∃j:Nat,m0=(bs.length)-j/\j<=(bs.length)/\e 15=.int .i64 (j:Int)/\gg ⟨192008001,st_a.next+1+1⟩=some ⟨true,1,eo (cW L) cnt⟩/\(∃p:Id,e 14=.own p 0 (fM L (bs.take j)).length/\gg p=some ⟨true,3,(fM L (bs.take j)).map aL⟩/\st_c.next<=p.bG/\p.bG<nx):=fun x1 x2 x3=>⟨_,ah,j+1,rfl,ah,(by rw[x1,aE ah]),x2,x3⟩
  have iN:j<bs.length:=ah
  have Co:(bs.map aL)[j]? =some (aL bs[j]):=by simp[iN]
  have PL:=hb _ (List.getElem_mem iN)
  have hs:=CV L (bs.take j) bs[j]
  rw[<-List.take_succ_eq_append_getElem iN]at hs
  generalize bs[j]=b at *
  have hA:=fZ (f:=cW L) PL.1
  have hB:=fZ (f:=cW L) PL.2
  have iq:(b.a:Int)<(cnt:Int):=ah
  have gj:(b.b:Int)<(cnt:Int):=ah
  have YB:=EO (cW L b.a) (cW L b.b)
  have YC:=EN (cW L b.a) (cW L b.b)
  rw[eN]at hA hB
  by_cases he:cW L b.a=cW L b.b
  ·rw[if_pos he,List.append_nil]at hs
   have th:decide ((cW L b.a:Int)=(cW L b.b:Int))=true:=decide_eq_true (by rw[he])
   (try((repeat(revert N;apply Pn.out));refine wk (tw @f15 (tw @fg0 (tw @f1 (tw @f10 (tw @f11 (tw @f14 (tw @fg (tw @hj (tw @Co (tw @hA (tw @hB (tw @iq (tw @gj (tw @tl (tw @th (tw @x1 (tw @Dl @aL.eq_1))))))))))))))))) ?_;(repeat(apply Pn.mk;intro N hN))))
   refine uw ?_ ?_ (⟨p,by rw[hs];simp only[go_sem, ↓reduceIte,Nat.reduceEqDiff,Nat.reduceAdd,Nat.reduceSub,Nat.reduceLeDiff,reduceCtorEq,f14],by rw[hs];simp only[go_sem, ↓reduceIte,Nat.reduceEqDiff,Nat.reduceAdd,Nat.reduceSub,Nat.reduceLeDiff,reduceCtorEq,fg],TW,bc⟩)
   all_goals simp only[go_sem, ↓reduceIte,Nat.reduceEqDiff,Nat.reduceAdd,Nat.reduceSub,Nat.reduceLeDiff,reduceCtorEq,f15,fg0,f1,f10,f11]
  ·rw[if_neg he]at hs
   have th:decide ((cW L b.a:Int)=(cW L b.b:Int))=false:=decide_eq_false fun h=>he ah
   have e1:(fM L (bs.take j)).length+1<=16777216:=ah
   have gL:((fM L (bs.take j)).map aL).length=(fM L (bs.take j)).length:=by simp
   (have zF:=tw @f15 (tw @fg0 (tw @f1 (tw @f10 (tw @f11 (tw @f14 (tw @fg (tw @hj (tw @Co (tw @hA (tw @hB (tw @iq (tw @gj (tw @tl (tw @th (tw @x1 (tw @Dl (tw @J1 (tw @e1 (tw @gL @aL.eq_1)))))))))))))))))));(repeat(first|((repeat(revert N;apply Pn.out));refine wk zF ?_;(repeat(apply Pn.mk;intro N hN)))|((try apply Or.inl);refine⟨_,au.x (YB) (sd zF),?_⟩;apply hN;clear hN N)|((try apply Or.inl);refine⟨_,au.x (YC) (sd zF),?_⟩;apply hN;clear hN N)));try clear zF)
   refine uw ?_ ?_ (⟨⟨192023014,st_f.next+1+1+1+1⟩,by rw[hs,List.length_append];simp only[go_sem, ↓reduceIte,Nat.reduceEqDiff,Nat.reduceAdd,Nat.reduceSub,Nat.reduceLeDiff,reduceCtorEq,List.length_cons,List.length_nil],by rw[hs,List.map_append,List.map_cons,List.map_nil];simp only[go_sem, ↓reduceIte,Nat.reduceEqDiff,Nat.reduceAdd,Nat.reduceSub,Nat.reduceLeDiff,reduceCtorEq,aL],bc,bc⟩)
   all_goals simp only[go_sem, ↓reduceIte,Nat.reduceEqDiff,Nat.reduceAdd,Nat.reduceSub,Nat.reduceLeDiff,reduceCtorEq,f15,fg0,f1,f10,f11,x1,J1]
 ·have gZ:j=bs.length:=ah
  subst gZ
  rw[List.take_length]at f14 fg
  (try((repeat(revert N;apply Pn.out));refine wk (tw @f15 (tw @fg0 (tw @f1 (tw @f10 (tw @f11 (tw @f14 (tw @hj @uT))))))) ?_;(repeat(apply Pn.mk;intro N hN))))
  refine ki (.inl rfl) (r1:=.int .i64 ((leads cnt L).length:Int)) (sd @Nat.zero_add) (by simp only[go_sem, ↓reduceIte,Nat.reduceEqDiff,Nat.reduceAdd,Nat.reduceSub,Nat.reduceLeDiff,reduceCtorEq];rfl) ?_
  have h1:gS st_f.get 5 (.own p 0 (fM L bs).length)=some (.sl ((fM L bs).map aL)):=fH (sz:=3) fg rfl fun b=>xV _ 3 b
  simp only[fK,cu,cZ,eL,h1,Option.map_some]
end Go.Proofs.YtainmfbpilopaaaGreatDoor.V

namespace Go.Proofs.YtainmfbpilopaaaGreatDoor.V
def H0 (bs:List PB) (e v:Nat):Prop:=(dc bs e).a=v∨(dc bs e).b=v
def jE (bs:List PB) (m v:Nat):List Nat:=(List.range m).filter fun i=>(dc bs i).a==v||(dc bs i).b==v
theorem ug {bs:List PB} {m v e:Nat}:e∈jE bs m v↔e<m/\H0 bs e v:=by simp[jE,H0]
theorem J5 (bs:List PB) (m v:Nat):jE bs (m+1) v=jE bs m v++if (dc bs m).a=v∨(dc bs m).b=v then[m]else[]:=by
 unfold jE
 rw[List.range_succ,List.filter_append]
 congr 1
 by_cases h:(dc bs m).a=v<;>by_cases h2:(dc bs m).b=v<;>simp[h,h2]
theorem uf (bs:List PB) (m v:Nat):(jE bs m v).length<=m:=by
 have:=List.length_filter_le (fun i=>(dc bs i).a==v||(dc bs i).b==v) (List.range m)
 simpa[jE]using this
def pw (cnt:Nat) (bs:List PB):Prop:=∀e,e<bs.length->(dc bs e).a<cnt/\(dc bs e).b<cnt/\(dc bs e).a≠(dc bs e).b
theorem qE {cnt:Nat} {bs:List PB} (h:pw cnt bs) {e v:Nat} (he:e<bs.length):cX bs e v<cnt:=by
 have:=h e he;unfold cX;split;exact this.2.1;exact this.1
theorem NK {cnt:Nat} {bs:List PB} (h:pw cnt bs) {e v:Nat} (he:e<bs.length) (hi:H0 bs e v):cX bs e v≠v:=by
 have h1:=(h e he).2.2
 unfold cX
 split
 ·rename_i ha;rw[<-ha];exact fun h=>h1 h.symm
 ·rename_i ha;rcases hi with hi|hi
  ·exact absurd hi ha
  ·rw[<-hi];exact h1
theorem BB {bs:List PB} {e v:Nat}:H0 bs e (cX bs e v):=by
 unfold cX H0;split
 ·exact .inr rfl
 ·exact .inl rfl
theorem qF {cnt:Nat} {bs:List PB} (h:pw cnt bs) {e v:Nat} (he:e<bs.length) (hi:H0 bs e v):cX bs e (cX bs e v)=v:=by
 have h1:=(h e he).2.2
 unfold cX
 by_cases ha:(dc bs e).a=v
 ·rw[if_pos ha,if_neg h1];exact ha
 ·rw[if_neg ha,if_pos rfl]
  rcases hi with hi|hi
  ·exact absurd hi ha
  ·exact hi
structure BT (cnt:Nat) (bs:List PB) (f:Nat->Int) (y:Nat) (out:Nat->Int):Prop where
 lo:∀v,v<cnt->-1<=out v/\out v<=cnt
 first:out y=0
 zero:∀v,v<cnt->out v=0->v=y
 down:∀v,v<cnt->0<out v->∃e,e<bs.length/\H0 bs e v/\0<gy bs f e v/\out (cX bs e v)=out v-1
 shut:∀e v,e<bs.length->H0 bs e v->0<=out (cX bs e v)->0<gy bs f e v->0<=out v
structure De (cnt:Nat) (bs:List PB) (f:Nat->Int) (y:Nat) (out:Nat->Int) (Q:List Nat) (i:Nat):Prop where
 nd:Q.Nodup
 lt:∀x∈Q,x<cnt
 iff:∀v,v<cnt->(0<=out v↔v∈Q)
 lo:∀v,v<cnt->-1<=out v
 first:out y=0
 up:∀j (h:j<Q.length),out Q[j]<=j
 zero:∀v,v<cnt->out v=0->v=y
 down:∀v,v<cnt->0<out v->∃e,e<bs.length/\H0 bs e v/\0<gy bs f e v/\out (cX bs e v)=out v-1
 shut:∀j (h:j<Q.length),j<i->∀e,e<bs.length->H0 bs e Q[j]->0<gy bs f e (cX bs e Q[j])->0<=out (cX bs e Q[j])
section
variable {cnt:Nat} {bs:List PB} {f:Nat->Int} {y:Nat} {out:Nat->Int} {Q:List Nat} {i:Nat}
theorem De.start (hy:y<cnt):De cnt bs f y (fun v=>if v=y then 0 else -1) [y] 0 where
 nd:=by simp
 lt:=fun x hx=>by rw[List.mem_singleton.1 hx];exact hy
 iff:=fun v _=>by
  by_cases h:v=y<;>simp[h]
 lo:=fun v _=>by split<;>omega
 first:=if_pos rfl
 up:=fun j h=>by
  have:j=0:=by simp at h;omega
  subst this;simp
 zero:=fun v _ h=>by
  by_cases hv:v=y
  ·exact hv
  ·rw[if_neg hv]at h;omega
 down:=fun v _ h=>by
  by_cases hv:v=y
  ·rw[if_pos hv]at h;omega
  ·rw[if_neg hv]at h;omega
 shut:=fun j h hj=>by omega
theorem De.len (h:De cnt bs f y out Q i):Q.length<=cnt:=qC cnt Q h.nd h.lt
theorem De.visit (h:De cnt bs f y out Q i) (ok:pw cnt bs) (hi:i<Q.length) {e:Nat} (he:e<bs.length) (rQ:H0 bs e Q[i]) (ll:out (cX bs e Q[i])<0) (fW:0<gy bs f e (cX bs e Q[i])):
  De cnt bs f y (fun v=>if v=cX bs e Q[i]then out Q[i]+1 else out v) (Q++[cX bs e Q[i]]) i:=by
 have RW:0<=out Q[i]:=(h.iff _ (h.lt _ (List.getElem_mem hi))).2 (List.getElem_mem hi)
 have hq:=qE ok (v:=Q[i]) he
 have gM:=NK ok he rQ
 have Xj:=qF ok he rQ
 have hnin:cX bs e Q[i]∉Q:=fun hm=>by have:=(h.iff _ hq).2 hm;omega
 have mN:=h.up i hi
 generalize hw:cX bs e Q[i]=w at *
 have rV:∀v,0<=out v->(if v=w then out Q[i]+1 else out v)=out v:=fun v hv=>by
  rw[if_neg];rintro rfl;omega
 have mono:∀v,0<=out v->0<=(if v=w then out Q[i]+1 else out v):=fun v hv=>by rw[rV v hv];exact hv
 refine⟨?_,?_,?_,?_,?_,?_,?_,?_,?_⟩
 ·rw[List.nodup_append]
  exact⟨h.nd,by simp,fun a ha b hb=>by rw[List.mem_singleton.1 hb];rintro rfl;exact hnin ha⟩
 ·intro x hx
  rcases List.mem_append.1 hx with hx|hx
  ·exact h.lt x hx
  ·rw[List.mem_singleton.1 hx];exact hq
 ·intro v hv
  by_cases Lt:v=w
  ·subst Lt;simp;omega
  ·rw[if_neg Lt,h.iff v hv];simp[Lt]
 ·intro v hv
  by_cases Lt:v=w
  ·rw[if_pos Lt];omega
  ·rw[if_neg Lt];exact h.lo v hv
 ·rw[rV y (by rw[h.first];exact Int.le_refl _)];exact h.first
 ·intro j hj
  by_cases gZ:j<Q.length
  ·rw[List.getElem_append_left gZ,rV _ ((h.iff _ (h.lt _ (List.getElem_mem gZ))).2 (List.getElem_mem gZ))]
   exact h.up j gZ
  ·have PQ:j=Q.length:=by simp at hj;omega
   subst PQ
   simp
   omega
 ·intro v hv h0
  by_cases Lt:v=w
  ·rw[if_pos Lt]at h0;omega
  ·rw[if_neg Lt]at h0;exact h.zero v hv h0
 ·intro v hv h0
  by_cases Lt:v=w
  ·subst Lt
   rw[if_pos rfl]
   refine⟨e,he,by rw[<-hw];exact BB,fW,?_⟩
   rw[Xj,rV _ RW];omega
  ·rw[if_neg Lt]at h0 ⊢
   obtain⟨e',h1,h2,h3,h4⟩:=h.down v hv h0
   exact⟨e',h1,h2,h3,by rw[rV _ ah];exact h4⟩
 ·intro j hj mM e' Cn RL hr
  have gZ:j<Q.length:=ah
  rw[List.getElem_append_left gZ]at RL hr ⊢
  exact mono _ (h.shut j gZ mM e' Cn RL hr)
theorem De.next (h:De cnt bs f y out Q i) (hi:i<Q.length) (hs:∀e∈jE bs bs.length Q[i],0<gy bs f e (cX bs e Q[i])->0<=out (cX bs e Q[i])):De cnt bs f y out Q (i+1):=
 ⟨h.nd,h.lt,h.iff,h.lo,h.first,h.up,h.zero,h.down,fun j hj mM e he rQ hr=>by
  by_cases PQ:j=i
  ·subst PQ;exact hs e (ug.2 ⟨he,rQ⟩) hr
  ·exact h.shut j hj ah e he rQ hr⟩
theorem De.done (h:De cnt bs f y out Q i) (ok:pw cnt bs) (hi:Q.length<=i):BT cnt bs f y out where
 lo:=fun v hv=>⟨h.lo v hv,by
  by_cases h0:0<=out v
  ·obtain⟨j,hj,rfl⟩:=List.getElem_of_mem ((h.iff v hv).1 h0)
   have:=h.up j hj
   have:=h.len
   omega
  ·omega⟩
 first:=h.first
 zero:=h.zero
 down:=h.down
 shut:=fun e v he rQ h0 hr=>by
  obtain⟨j,hj,VG⟩:=List.getElem_of_mem ((h.iff _ (qE ok he)).1 h0)
  have h2:=h.shut j hj ah e he (by rw[VG];exact BB)
  rw[VG,qF ok he rQ]at h2
  exact h2 hr
end
end Go.Proofs.YtainmfbpilopaaaGreatDoor.V

namespace Go.Proofs.YtainmfbpilopaaaGreatDoor.V
open Go.RowKit
def AV.clean:AV->Bool
 | .int .. | .bool _| .str _| .bU| .iH| .jF| .jS| .jn| .own .. | .ptr .. | .map .. | .tN _=>true
 | .sl l=>l.isEmpty
 |_=>false
def AV.vk:AV->Bool
 | .agg cs=>cs.all AV.clean
 | .fD cs=>cs.all fun a=>match a with
  | .agg cs=>cs.all AV.clean
  |a=>a.clean
 |a=>a.clean
def si (ids:List Id) (g g':Rows):Rows:=fun id=>if id∈ids then g' id else g id
theorem mJ {ids:List Id} {g g':Rows} {id:Id} (h:id∈ids):si ids g g' id=g' id:=if_pos h
theorem jM {ids:List Id} {g g':Rows} {id:Id} (h:id∉ids):si ids g g' id=g id:=if_neg h
section
variable {P:Program} {w w':World} {D D' D1 D2:Nat->Prop} {ι ι1 ι2:Names}
theorem kV {a:AV} {v:Value} (hp:a.clean=true) (h:dm P w D1 ι1 a v):dm P w D2 ι1 a v:=by
 cases h with
 |eP a v h=>
  cases h with
  |int=>exact .eP _ _ (.int _ _)
  |bool=>exact .eP _ _ (.bool _)
  |str=>exact .eP _ _ (.str _)
  |bU=>exact .eP _ _ .bU
  |iH=>exact .eP _ _ .iH
  |jF=>exact .eP _ _ .jF
  |jS=>exact .eP _ _ .jS
  |jn=>exact .eP _ _ .jn
  |err=>simp[AV.clean]at hp
  |Dn a c h=>exact .eP _ _ (.Dn a c h)
  |sl rows b o n c sz vs h1 h2 h3=>
   have:rows=[]:=by simpa[AV.clean]using hp
   subst this
   simp only[List.length_nil]at h1
   subst h1
   exact .eP _ _ (.Dn _ _ h3)
  |dQ=>simp[AV.clean]at hp
  |agg=>simp[AV.clean]at hp
  |fn=>simp[AV.clean]at hp
 |own id off len o cap B h1 h2 h3 h4 h5 h6=>exact .own id off len o cap B h1 h2 h3 h4 h5 h6
 |map id m B h1 h2=>exact .map id m B h1 h2
 |tN id c B h1 h2=>exact .tN id c B h1 h2
 |ptr id i off B h1 h2=>exact .ptr id i off B h1 h2
 |agg=>simp[AV.clean]at hp
 |fD=>simp[AV.clean]at hp
 |fn=>simp[AV.clean]at hp
 |xf=>simp[AV.clean]at hp
theorem nN {cs:List AV} {v:Value} (hc:cs.all AV.clean=true) (h:dm P w D1 ι1 (.agg cs) v):dm P w D2 ι1 (.agg cs) v:=by
 obtain⟨vs,f,rfl,h1,h2,h3,h4⟩:=jd h
 rw[List.all_eq_true]at hc
 exact .agg cs vs f h1 h2 h3 fun j a ha=>kV (hc a (List.mem_of_getElem? ha)) (h4 j a ha)
theorem zB {a:AV} {v:Value} (hp:a.vk=true) (h:dm P w D1 ι1 a v):dm P w D2 ι1 a v:=by
 cases a with
 |agg cs=>exact nN hp h
 |fD cs=>
  obtain⟨vs,f,rfl,h1,h3,h4⟩:=ye h
  simp only[AV.vk,List.all_eq_true]at hp
  refine .fD cs vs f h1 h3 fun j a ha=>?_
  have:=hp a (List.mem_of_getElem? ha)
  split at this
  ·exact nN this (h4 j _ ha)
  ·exact kV this (h4 j _ ha)
 |_=>exact kV hp h
theorem Hn {ag:Bool} {n:Nat} {cs:List AV} {x:AV} {v:Value} (hc:∀a∈cs,a.clean=true) (hp:part ag n cs=some x) (hr:dm P w D1 ι1 x v):dm P w D2 ι1 x v:=by
 unfold part at hp
 split at hp
 ·split at hp
  ·simp only[Option.some.injEq]at hp;subst hp
   exact nN (List.all_eq_true.2 fun a ha=>hc a (List.mem_of_mem_take ha)) hr
  ·cases hp
 ·exact kV (hc x (List.mem_of_mem_head? hp)) hr
theorem iv.clean {B:uX} {r:Row} (R:iv P w D1 ι1 B r) (h:∀cs∈r.rows,∀a∈cs,a.clean=true):iv P w D2 ι1 B r:=
 ⟨R.sz,R.flat,fun hk=>⟨R.sz,(R.row hk).uR,(R.row hk).fits,(R.row hk).len,R.flat,fun i j cs a hi hj=>by
  obtain⟨v,q1,q2⟩:=(R.row hk).at_ i j cs a hi hj
  exact⟨v,q1,kV (h cs (List.mem_of_getElem? hi) a (List.mem_of_getElem? hj)) q2⟩⟩,fun m hm=>by
  obtain⟨h1,es,c,h2,h3,h5,h4⟩:=R.map m hm
  refine⟨h1,es,c,h2,h3,h5,fun i cs hi=>?_⟩
  obtain⟨e,kv,vv,q1,q2,q3,q4,q5⟩:=h4 i cs hi
  have hc:=h cs (List.mem_of_getElem? hi)
  exact⟨e,kv,vv,q1,q2,q3,Hn hc q2 q4,kV (hc vv (List.mem_of_getElem? q3)) q5⟩,fun c hc=>by
  obtain⟨h1,buf,s,q,h2,h3,h4⟩:=R.chan c hc
  refine⟨h1,buf,s,q,h2,h3,fun i cs hi=>?_⟩
  obtain⟨a,u,rfl,q2,q3⟩:=h4 i cs hi
  exact⟨a,u,rfl,q2,kV (h [a] (List.mem_of_getElem? hi) a (by simp)) q3⟩⟩
def Handed (ids:List Id) (g:Rows):Prop:=∀id∈ids,∃r,g id=some r/\r.w=true/\∀cs∈r.rows,∀a∈cs,a.clean=true
theorem Ld {f:Nat} {args args':List AV} {g:Rows} {n:Nat} {K:AV->aw->Prop} (hv:dx (ea g) 6 args=some args')
  (h:Sound P f args' ⟨fun _=>none,n⟩ fun r σ'=>∃ids,r.vk=true/\Handed ids σ'.get/\K r ⟨si ids g σ'.get,σ'.next⟩):Sound P f args ⟨g,n⟩ K:=by
 intro hs D ι w vs S U A
 let E:Nat->Prop:=fun b=>D b∨∃id r B,g id=some r/\ι id=some B/\b=B.b
 have lt:∀id r B,g id=some r->ι id=some B->B.b<w.heap.size:=fun id r B h1 h2=>by
  obtain⟨B',ec,R,_⟩:=S.row id r h1
  rw[h2]at ec;injection ec with ec;subst ec
  exact R.lt
 have S0:gK P w.heap.size E ι (fun _=>none) w:=⟨Nat.le_refl _,fun b hb=>by
  rcases hb with hb|⟨id,r,B,h1,h2,rfl⟩
  ·exact S.dead b hb
  ·exact lt id r B h1 h2,fun id r h=>(by cases h),fun id kK r r' B B' h=>(by cases h)⟩
 obtain⟨l1,l2⟩:=gP hv
 have A':fQ P w E ι args' vs:=⟨by rw[A.1,l1],fun j a hj=>by
  obtain⟨a0,lX,hz⟩:=l2 j a hj
  obtain⟨u,hu,hr⟩:=A.2 j a0 lX
  refine⟨u,hu,(qq (D2:=E) (ι2:=ι) (fun b h=>.inl h) (fun id row hg hw=>?_) 6 a0 u a hr hz).1⟩
  unfold ea at hg
  simp only[Option.map_eq_some_iff]at hg
  obtain⟨r,lH,rfl⟩:=hg
  obtain⟨B,hB,R,_,_⟩:=S.row id r lH
  exact⟨B,hB,R.flag true,.inr ⟨id,r,B,lH,hB,rfl⟩⟩⟩
 refine(h w.heap.size E ι w vs S0 U A').mono ?_
 rintro e w' ⟨r0,g',n',D2,ι1,u,rfl,⟨ids,nH,hid,hK⟩,T,S1,U1,hn,hR⟩
 have hb:∀b,b<w.heap.size->w'.heap[b]? =w.heap[b]? :=T.below.block
 have hz:=T.below.size
 have frame:∀{a v},dm P w D ι a v->dm P w' D ι1 a v:=fun h=>h.frame (fun b hd=>hb b (S.dead b hd)) (fun _ h=>h) T.names
 refine⟨r0,_,n',D,ι1,u,rfl,hK,⟨T.below.mono S.lo,fun b hd=>hb b (S.dead b hd),fun _ h=>h,T.names,fun _ h=>.inl h⟩,⟨Nat.le_trans S.lo hz,fun b hd=>Nat.lt_of_lt_of_le (S.dead b hd) hz,fun id r hr=>?_,fun Qb id2 r1 r2 B1 B2 h1 h2 hw z6 oU My=>?_⟩,U1,hn,zB nH hR⟩
 ·by_cases hi:id∈ids
  ·rw[mJ hi]at hr
   obtain⟨r',lH,hw,hcr⟩:=hid id hi
   rw[hr]at lH;injection lH with lH;subst lH
   obtain⟨B,hB,R,k1,k2⟩:=S1.row id r hr
   have j9:=k1 hw
   exact⟨B,hB,R.clean hcr,fun _=>Nat.le_trans S.lo j9,fun _ hd=>Nat.lt_irrefl _ (Nat.lt_of_lt_of_le (S.dead _ hd) j9)⟩
  ·rw[jM hi]at hr
   obtain⟨B,hB,R,k1,k2⟩:=S.row id r hr
   have Iq:=lt id r B hr hB
   exact⟨B,T.names _ _ hB,R.frame (hb _ Iq) fun a v h=>frame h,k1,k2⟩
 ·have new:∀{id r B},id∈ids->si ids g g' id=some r->ι1 id=some B->w.heap.size<=B.b/\g' id=some r/\r.w=true:=fun {id r B} hi hr hB=>by
   rw[mJ hi]at hr
   obtain⟨r',lH,hw,_⟩:=hid id hi
   replace lH:g' id=some r':=lH
   rw[hr]at lH;injection lH with lH;subst lH
   obtain⟨B',ec,_,k1,_⟩:=S1.row id r hr
   rw[hB]at ec;injection ec with ec;subst ec
   exact⟨k1 hw,hr,hw⟩
  have yd:∀{id r B},id∉ids->si ids g g' id=some r->ι1 id=some B->B.b<w.heap.size/\g id=some r/\ι id=some B:=fun {id r B} hi hr hB=>by
   rw[jM hi]at hr
   obtain⟨B',ec,_⟩:=S.row id r hr
   have:=T.names _ _ ec
   rw[hB]at this;injection this with this;subst this
   exact⟨lt id r _ hr ec,hr,ec⟩
  by_cases i1:Qb∈ids
  ·obtain⟨a1,a2,a3⟩:=new i1 h1 z6
   by_cases i2:id2∈ids
   ·obtain⟨b1,b2,b3⟩:=new i2 h2 oU
    exact S1.inj Qb id2 r1 r2 B1 B2 a2 b2 hw z6 oU My
   ·obtain⟨b1,_⟩:=yd i2 h2 oU
    omega
  ·obtain⟨a1,a2,a3⟩:=yd i1 h1 z6
   by_cases i2:id2∈ids
   ·obtain⟨b1,_⟩:=new i2 h2 oU
    omega
   ·obtain⟨b1,b2,b3⟩:=yd i2 h2 oU
    exact S.inj Qb id2 r1 r2 B1 B2 a2 b2 hw a3 b3 My
theorem Dp (hm:P.follows .mixedOrders=true) {f:Nat} {args args':List AV} {σ:aw} {K:AV->aw->Prop} (hv:dx (ea σ.get) 6 args=some args')
  (h:Call P f args' ⟨fun _=>none,σ.next⟩ fun r σ'=>∃ids,r.vk=true/\Handed ids σ'.get/\K r ⟨si ids σ.get σ'.get,σ'.next⟩):Call P f args σ K:=
 eW (Ld hv (gD hm h))
end
end Go.Proofs.YtainmfbpilopaaaGreatDoor.V

namespace Go.Proofs.YtainmfbpilopaaaGreatDoor.V
open Go.RowKit
attribute [local irreducible] dW wpOps fu Call
def jV (P:Program) (f:Nat) (args:List AV) (R:AV->Prop):Prop:=∀n:Nat,Call P f args ⟨fun _=>none,n⟩ fun r0 σ'=>∃r',gS σ'.get 6 r0=some r'/\R r'
theorem JK {P:Program} {f:Nat} {args args':List AV} {g:Rows} {n:Nat} {R:AV->Prop} (hv:dx (ea g) 6 args=some args') (h:Sound P f args' ⟨fun _=>none,n⟩ fun r0 σ'=>∃r',gS σ'.get 6 r0=some r'/\R r'):Sound P f args ⟨g,n⟩ fun r σ'=>R r/\σ'=⟨g,n⟩:=by
 intro hs D ι w vs S U A
 refine(AJ (g0:=g) (K:=R) ⟨args',hv,h⟩ (fun _ _ h=>h) S U A).mono ?_
 rintro e w' ⟨r,D',u,rfl,hR,T,S',hr⟩
 exact⟨r,g,n,D',ι,u,rfl,⟨hR,rfl⟩,T,S',U,Nat.le_refl _,hr⟩
theorem jV.x {P:Program} (hm:P.follows .mixedOrders=true) {f:Nat} {args args':List AV} {R:AV->Prop} (h:jV P f args' R) {σ:aw} (hv:dx (ea σ.get) 6 args=some args'):Call P f args σ fun r σ'=>R r/\σ'=σ:=
 eW (JK hv (gD hm (h σ.next)))
theorem jV.body {P:Program} {f:Nat} {args:List AV} {R:AV->Prop} {nt na:Nat} {body:VC} {res:List pN} (hf:nU P f=some ⟨nt,na,body,res⟩) (ha:na=args.length) (h:(∀a∈args,eZ a)->∀n:Nat,dW (Call P) body (lU res fun r0 σ'=>∃r',gS σ'.get 6 r0=some r'/\R r') (bW args) ⟨fun _=>none,n⟩):jV P f args R:=fun n=>nV hf ha fun hl=>h hl n
def eG (f:Nat->Int) (n:Nat):List (List AV):=(List.range n).map fun i=>aC (f i)
theorem ek (f:Nat->Int) (n:Nat):(eG f n).length=n:=by simp[eG]
theorem eC {f:Nat->Int} {n i:Nat} (h:i<n):(eG f n)[i]? =some (aC (f i)):=by simp[eG,h]
theorem mH {f g:Nat->Int} {n k:Nat} {v:Int} (hk:k<n) (hv:g k=v) (h:∀i,i<n->i≠k->g i=f i):(eG f n).set k (aC v)=eG g n:=by
 refine List.ext_getElem? fun i=>?_
 rw[List.getElem?_set]
 by_cases hi:k=i
 ·subst hi
  rw[if_pos rfl,ek,if_pos hk,eC hk,hv]
 ·rw[if_neg hi]
  by_cases gh:i<n
  ·rw[eC gh,eC gh,h i gh (fun h=>hi h.symm)]
  ·rw[List.getElem?_eq_none (by rw[ek];omega),List.getElem?_eq_none (by rw[ek];omega)]
theorem K1 (f:Nat->Int) (n:Nat):eG f (n+1)=eG f n++[aC (f n)]:=by simp[eG,List.range_succ]
theorem fzI (g:Rows) (n:Nat) (a:Int):dx g (n+1) (aC a)=some (aC a):=by simp[aC,ai,ar,aB]
theorem ZP (g:Rows) (n:Nat) (a:Int):eQ g (n+1) (aC a)=some (aC a):=by simp[aC,cu,cZ,eL]
theorem Ot {g:Rows} {f:Nat->Int} {n m:Nat}:iQ g (m+1) (eG f n)=some (eG f n):=by
 have:eG f n=((List.range n).map f).map aC:=by simp[eG]
 rw[this];exact wR fun x=>ZP g m x
theorem C4 {g:Rows} {f:Nat->Int} {n m:Nat}:eJ g (m+1) (eG f n)=some (eG f n):=by
 have:eG f n=((List.range n).map f).map aC:=by simp[eG]
 rw[this];exact sH fun x=>fzI g m x
def UK (l:List Nat):AV:=if l=[]then .bU else .sl (l.map eN)
def sk (cnt:Nat) (bs:List PB) (m:Nat):List (List AV):=(List.range cnt).map fun v=>[UK (jE bs m v)]
theorem Gd {cnt:Nat} {bs:List PB} {m v:Nat} (h:v<cnt):(sk cnt bs m)[v]? =some [UK (jE bs m v)]:=by simp[sk,h]
def gJ (cnt:Nat) (bs:List PB) (f:Nat->Int):List AV:=[.int .i64 cnt,.sl (bs.map aL),.sl (sk cnt bs bs.length),.sl (eG f bs.length)]
theorem xP {bs:List PB} {e:Nat} (h:e<bs.length):(bs.map aL)[e]? =some (aL (dc bs e)):=getD_map aL h
def Small (bs:List PB) (f:Nat->Int):Prop:=∀e,e<bs.length->(0<=(dc bs e).s/\(dc bs e).s<=4)/\-4<=f e/\f e<=4
theorem N6 (cnt:Nat) (bs:List PB) (f:Nat->Int) (hs:Small bs f) (e v:Nat) (he:e<bs.length):au Tryz.prog 290 [.dQ (gJ cnt bs f),.int .i64 v,.int .i64 e] (.fD [.int .i64 (gy bs f e v),.int .i64 (cX bs e v)]):=by
 refine au.body eI rfl fun hl n0=>?_
 clear hl
 have hb:=xP he
 have hf:=eC (f:=f) he
 obtain⟨⟨s0,s1⟩,s2,s3⟩:=hs e he
 have w1:IntKind.i64.wrap ((dc bs e).s-f e)=(dc bs e).s-f e:=cq ah
 have w2:IntKind.i64.wrap ((dc bs e).s+f e)=(dc bs e).s+f e:=cq ah
 unfold gy cX
 generalize dc bs e=b at *
 by_cases h:b.a=v
 ·have hd:decide ((b.a:Int)=(v:Int))=true:=decide_eq_true (by rw[h])
  (try((repeat(revert N;apply Pn.out));refine wk (tw @gJ.eq_1 (tw @hb (tw @hf (tw @aL.eq_1 (tw @aC.eq_1 (tw @hd (tw @w1 @w2))))))) ?_;(repeat(apply Pn.mk;intro N hN))))
  refine ki (.inl rfl) (by simp only[go_sem, ↓reduceIte,Nat.reduceEqDiff,Nat.reduceAdd,Nat.reduceSub,Nat.reduceLeDiff,reduceCtorEq];rfl) (by simp only[go_sem, ↓reduceIte,Nat.reduceEqDiff,Nat.reduceAdd,Nat.reduceSub,Nat.reduceLeDiff,reduceCtorEq];rfl) ?_
  simp only[fK,cu,cZ,eL,Option.map_some,if_pos h]
 ·have hd:decide ((b.a:Int)=(v:Int))=false:=decide_eq_false fun hc=>h ah
  (try((repeat(revert N;apply Pn.out));refine wk (tw @gJ.eq_1 (tw @hb (tw @hf (tw @aL.eq_1 (tw @aC.eq_1 (tw @hd (tw @w1 @w2))))))) ?_;(repeat(apply Pn.mk;intro N hN))))
  refine ki (.inl rfl) (by simp only[go_sem, ↓reduceIte,Nat.reduceEqDiff,Nat.reduceAdd,Nat.reduceSub,Nat.reduceLeDiff,reduceCtorEq];rfl) (by simp only[go_sem, ↓reduceIte,Nat.reduceEqDiff,Nat.reduceAdd,Nat.reduceSub,Nat.reduceLeDiff,reduceCtorEq];rfl) ?_
  simp only[fK,cu,cZ,eL,Option.map_some,if_neg h]
theorem IW (cnt:Nat) (hn:cnt<=1048576) (bs:List PB) (ok:pw cnt bs) (oV:bs.length<=1048576) (f:Nat->Int) (hs:Small bs f) (y:Nat) (hy:y<cnt):
  jV Tryz.prog 269 [.dQ (gJ cnt bs f),.int .i64 y] fun r=>∃out,r=.sl (eG out cnt)/\BT cnt bs f y out:=by
 refine jV.body eI rfl fun hl n0=>?_
 clear hl
 (try((repeat(revert N;apply Pn.out));refine wk @gJ.eq_1 ?_;(repeat(apply Pn.mk;intro N hN))))
 refine bf (fun n env st=>∃k:Nat,n=(cnt)-k/\k<=(cnt)/\env 6=.int .i64 (k:Int)/\(∃o:Id,env 5=.own o 0 k/\st.get o=some ⟨true,1,eG (fun _=>-1) k⟩/\o.bG<st.next)) (cnt) ⟨0,ah,ah,sl @gJ.eq_1,⟨⟨269001000,n0+1⟩,by(simp only[go_sem, ↓reduceIte,Nat.reduceEqDiff,Nat.reduceAdd,Nat.reduceSub,Nat.reduceLeDiff,reduceCtorEq])<;>rfl,by(simp only[go_sem, ↓reduceIte,Nat.reduceEqDiff,Nat.reduceAdd,Nat.reduceSub,Nat.reduceLeDiff,reduceCtorEq])<;>rfl,bc⟩⟩ ?_
 rintro n_a env_a st_a ⟨k,rfl,ale,a6,kz⟩ dX
 have a0:=dX 0 (by kernel_rfl);have a1:=dX 1 (by kernel_rfl)
 simp only[go_sem, ↓reduceIte,Nat.reduceEqDiff,Nat.reduceAdd,Nat.reduceSub,Nat.reduceLeDiff,reduceCtorEq,gJ]at a0 a1
 clear dX
 obtain⟨o,a5,ag,uc⟩:=kz
 have tl:=ek (fun _=>-1) k
 have pK:=db uc
 by_cases hk:(k:Int)<(cnt:Int)
 ·have cV:∀{e:Env} {gg:Rows} {nx:Nat},(e 6=.int .i64 (IntKind.i64.wrap ((k:Int)+1)))->(∃o:Id,e 5=.own o 0 (k+1)/\gg o=some ⟨true,1,eG (fun _=>-1) (k+1)⟩/\o.bG<nx)->∃m0,m0<(cnt)-k/\∃k:Nat,m0=(cnt)-k/\k<=(cnt)/\e 6=.int .i64 (k:Int)/\(∃o:Id,e 5=.own o 0 k/\gg o=some ⟨true,1,eG (fun _=>-1) k⟩/\o.bG<nx):=fun x1 x2=>⟨_,ah,k+1,rfl,ah,(by rw[x1,aE ah]),x2⟩
  have e1:k+1<=16777216:=ah
  have rT:eG (fun _=>-1) k++[[.int .i64 (-1)]]=eG (fun _=>-1) (k+1):=(K1 _ _).symm
  (try((repeat(revert N;apply Pn.out));refine wk (tw @a6 (tw @a0 (tw @a1 (tw @a5 (tw @ag (tw @pK (tw @hk (tw @tl (tw @e1 (tw @rT @gJ.eq_1)))))))))) ?_;(repeat(apply Pn.mk;intro N hN))))
  exact cV (sd (tw @a6 (tw @a0 (tw @a1 @gJ.eq_1)))) (⟨⟨269005002,st_a.next+1⟩,sd @Nat.zero_add,sd @rT,bc⟩)
 have lN:k=cnt:=ah
 subst lN
 have Zb:(y:Int)<(k:Int):=ah
 have hym:=eC (f:=fun _=>-1) hy
 have Ey:(eG (fun _=>-1) k).set y (aC 0)=eG (fun v=>if v=y then 0 else -1) k:=mH hy (if_pos rfl) fun i _ hi=>if_neg hi
 rw[aC]at Ey hym
 (try((repeat(revert N;apply Pn.out));refine wk (tw @a6 (tw @a0 (tw @a1 (tw @a5 (tw @ag (tw @pK (tw @hk (tw @tl (tw @Zb (tw @hym (tw @Ey @gJ.eq_1))))))))))) ?_;(repeat(apply Pn.mk;intro N hN))))
 refine bf (fun m env st=>∃(i:Nat) (out:Nat->Int) (Q:List Nat) (p:Id),m=k-i/\env 8=.int .i64 (i:Int)/\env 7=.own p 0 Q.length/\st.get p=some ⟨true,1,Q.map eN⟩/\st.get o=some ⟨true,1,eG out k⟩/\o.bG<p.bG/\p.bG<st.next/\De k bs f y out Q i/\i<=Q.length) k ⟨0,_,[y],⟨269007001,st_a.next+1+1⟩,ah,by(simp only[go_sem, ↓reduceIte,Nat.reduceEqDiff,Nat.reduceAdd,Nat.reduceSub,Nat.reduceLeDiff,reduceCtorEq])<;>rfl,by(simp only[go_sem, ↓reduceIte,Nat.reduceEqDiff,Nat.reduceAdd,Nat.reduceSub,Nat.reduceLeDiff,reduceCtorEq])<;>rfl,by(simp only[go_sem, ↓reduceIte,Nat.reduceEqDiff,Nat.reduceAdd,Nat.reduceSub,Nat.reduceLeDiff,reduceCtorEq])<;>rfl,sd @pK,bc,bc,De.start hy,by simp⟩ ?_
 rintro n env_b st_b ⟨i,out,Q,p,rfl,b8,b7,bgp,bgo,ev,hpn,hB,hiq⟩ fh
 have b0:=fh 0 (by kernel_rfl)
 have b5:=fh 5 (by kernel_rfl)
 simp only[go_sem, ↓reduceIte,Nat.reduceEqDiff,Nat.reduceAdd,Nat.reduceSub,Nat.reduceLeDiff,reduceCtorEq,a6,a0,a1,a5,gJ]at b0 b5
 clear fh
 have VO:=hB.len
 have Zg:=ek out k
 have hqm:(Q.map eN).length=Q.length:=by simp
 have Dl:=db hpn
 have lZ:=db (i:=o) (n:=st_b.next) ah
 by_cases hi:(i:Int)<(Q.length:Int)
 ·have gh:i<Q.length:=ah
  have jT:(Q.map eN)[i]? =some (eN Q[i]):=by simp[gh]
  have RW:=hB.lt _ (List.getElem_mem gh)
  obtain⟨vt,Ue⟩:∃vt,vt=Q[i]:=⟨_,rfl⟩
  rw[<-Ue]at jT RW
  have hA:=Gd (cnt:=k) (bs:=bs) (m:=bs.length) RW
  have P3:(vt:Int)<(k:Int):=ah
  have mL:=uf bs bs.length vt
  have hme:∀x,x<(jE bs bs.length vt).length->(jE bs bs.length vt).getD x 0<bs.length/\H0 bs ((jE bs bs.length vt).getD x 0) vt:=fun x hx=>by
   rw[List.getD_eq_getElem?_getD,List.getElem?_eq_getElem hx]
   exact ug.1 (List.getElem_mem hx)
  have JY:∀e∈jE bs bs.length vt,∃x,x<(jE bs bs.length vt).length/\(jE bs bs.length vt).getD x 0=e:=fun e he=>by
   obtain⟨x,hx,rfl⟩:=List.getElem_of_mem he
   exact⟨x,hx,by rw[List.getD_eq_getElem?_getD,List.getElem?_eq_getElem hx];rfl⟩
  generalize hIn:jE bs bs.length vt=I at *
  unfold UK at hA
  by_cases Tn:I=[]
  ·rw[if_pos Tn]at hA
   have hI1:I.length=0:=by rw[Tn];rfl
   (try((repeat(revert N;apply Pn.out));refine wk (tw @b0 (tw @b5 (tw @b7 (tw @b8 (tw @bgp (tw @hi (tw @jT (tw @hqm (tw @eN.eq_1 @gJ.eq_1))))))))) ?_;(repeat(apply Pn.mk;intro N hN))))
   refine bf (fun n env st=>∃x:Nat,n=(I.length)-x/\x<=(I.length)/\env 10=.int .i64 (x:Int)/\(∃(jt:Nat->Int) (Q':List Nat) (p':Id),env 7=.own p' 0 Q'.length/\st.get p'=some ⟨true,1,Q'.map eN⟩/\st.get o=some ⟨true,1,eG jt k⟩/\o.bG<p'.bG/\p'.bG<st.next/\De k bs f y jt Q' i/\(∃h:i<Q'.length,Q'[i]=vt)/\(∀z,z<x->0<gy bs f (I.getD z 0) (cX bs (I.getD z 0) vt)->0<=jt (cX bs (I.getD z 0) vt)))) (I.length) ⟨0,ah,ah,sl (tw @b0 (tw @b5 (tw @b8 @gJ.eq_1))),⟨out,Q,p,sd @b7,sd @bgp,sd @bgo,ev,bc,hB,⟨gh,Ue.symm⟩,fun z hz=>ah⟩⟩ ?_
   rintro n_c env_c st_c ⟨x,rfl,cle,kq,cI0⟩ jq
   have c0:=jq 0 (by kernel_rfl);have c5:=jq 5 (by kernel_rfl);have c8:=jq 8 (by kernel_rfl);have c9:=jq 9 (by kernel_rfl)
   simp only[go_sem, ↓reduceIte,Nat.reduceEqDiff,Nat.reduceAdd,Nat.reduceSub,Nat.reduceLeDiff,reduceCtorEq,b0,b5,b8,gJ]at c0 c5 c8 c9
   clear jq
   obtain⟨jt,Q',p',c7,L5,AU,GR,TX,ec,⟨As,sO⟩,O4⟩:=cI0
   have hql':=ec.len
   have UT:=ek jt k
   have TZ:(Q'.map eN).length=Q'.length:=by simp
   have Ct:=db TX
   have oq:=db (i:=o) (n:=st_c.next) ah
   have x1:=de GR
   have hx:¬(x:Int)<((0:Nat):Int):=ah
   have hxe:x=I.length:=ah
   have hw:IntKind.i64.wrap ((i:Int)+1)=((i+1:Nat):Int):=aE ah
   (try((repeat(revert N;apply Pn.out));refine wk (tw @kq (tw @c0 (tw @c5 (tw @c8 (tw @c9 (tw @c7 (tw @hx (tw @hA (tw @P3 @gJ.eq_1))))))))) ?_;(repeat(apply Pn.mk;intro N hN))))
   refine⟨_,?_,i+1,jt,Q',p',rfl,sd (tw @kq (tw @c0 (tw @c5 (tw @c8 (tw @c9 @hw))))),sd @c7,sd @L5,sd @AU,GR,bc,ec.next As fun e he hr=>?_,ah⟩
   ·omega
   ·rw[sO,hIn]at he
    rw[sO]at hr ⊢
    obtain⟨z,hz,rfl⟩:=JY e he
    exact O4 z ah hr
  ·rw[if_neg Tn]at hA
   have sL:(I.map eN).length=I.length:=by simp
   (try((repeat(revert N;apply Pn.out));refine wk (tw @b0 (tw @b5 (tw @b7 (tw @b8 (tw @bgp (tw @hi (tw @jT (tw @hqm (tw @eN.eq_1 @gJ.eq_1))))))))) ?_;(repeat(apply Pn.mk;intro N hN))))
   refine bf (fun n env st=>∃x:Nat,n=(I.length)-x/\x<=(I.length)/\env 10=.int .i64 (x:Int)/\(∃(jt:Nat->Int) (Q':List Nat) (p':Id),env 7=.own p' 0 Q'.length/\st.get p'=some ⟨true,1,Q'.map eN⟩/\st.get o=some ⟨true,1,eG jt k⟩/\o.bG<p'.bG/\p'.bG<st.next/\De k bs f y jt Q' i/\(∃h:i<Q'.length,Q'[i]=vt)/\(∀z,z<x->0<gy bs f (I.getD z 0) (cX bs (I.getD z 0) vt)->0<=jt (cX bs (I.getD z 0) vt)))) (I.length) ⟨0,ah,ah,sl (tw @b0 (tw @b5 (tw @b8 @gJ.eq_1))),⟨out,Q,p,sd @b7,sd @bgp,sd @bgo,ev,bc,hB,⟨gh,Ue.symm⟩,fun z hz=>ah⟩⟩ ?_
   rintro n_c env_c st_c ⟨x,rfl,cle,kq,cI0⟩ jq
   have c0:=jq 0 (by kernel_rfl);have c5:=jq 5 (by kernel_rfl);have c8:=jq 8 (by kernel_rfl);have c9:=jq 9 (by kernel_rfl)
   simp only[go_sem, ↓reduceIte,Nat.reduceEqDiff,Nat.reduceAdd,Nat.reduceSub,Nat.reduceLeDiff,reduceCtorEq,b0,b5,b8,gJ]at c0 c5 c8 c9
   clear jq
   obtain⟨jt,Q',p',c7,L5,AU,GR,TX,ec,⟨As,sO⟩,O4⟩:=cI0
   have hql':=ec.len
   have UT:=ek jt k
   have TZ:(Q'.map eN).length=Q'.length:=by simp
   have Ct:=db TX
   have oq:=db (i:=o) (n:=st_c.next) ah
   have x1:=de GR
   by_cases hx:(x:Int)<(I.length:Int)
   ·have ik:∀{e:Env} {gg:Rows} {nx:Nat},(e 10=.int .i64 (IntKind.i64.wrap ((x:Int)+1)))->(∃(jt:Nat->Int) (Q':List Nat) (p':Id),e 7=.own p' 0 Q'.length/\gg p'=some ⟨true,1,Q'.map eN⟩/\gg o=some ⟨true,1,eG jt k⟩/\o.bG<p'.bG/\p'.bG<nx/\De k bs f y jt Q' i/\(∃h:i<Q'.length,Q'[i]=vt)/\(∀z,z<(x+1)->0<gy bs f (I.getD z 0) (cX bs (I.getD z 0) vt)->0<=jt (cX bs (I.getD z 0) vt)))->∃m0,m0<(I.length)-x/\∃x:Nat,m0=(I.length)-x/\x<=(I.length)/\e 10=.int .i64 (x:Int)/\(∃(jt:Nat->Int) (Q':List Nat) (p':Id),e 7=.own p' 0 Q'.length/\gg p'=some ⟨true,1,Q'.map eN⟩/\gg o=some ⟨true,1,eG jt k⟩/\o.bG<p'.bG/\p'.bG<nx/\De k bs f y jt Q' i/\(∃h:i<Q'.length,Q'[i]=vt)/\(∀z,z<x->0<gy bs f (I.getD z 0) (cX bs (I.getD z 0) vt)->0<=jt (cX bs (I.getD z 0) vt))):=fun x1 x2=>⟨_,ah,x+1,rfl,ah,(by rw[x1,aE ah]),x2⟩
    have VW:x<I.length:=ah
    have Tb:(I.map eN)[x]? =some (eN (I.getD x 0)):=getD_map eN VW
    obtain⟨he,rQ⟩:=hme x VW
    obtain⟨e,YK⟩:∃e,e=I.getD x 0:=⟨_,rfl⟩
    rw[<-YK]at Tb he rQ
    have ji:=xP he
    have hq:=qE ok (v:=vt) he
    have Xj:=qF ok he rQ
    have PZ:=N6 k bs f hs e (cX bs e vt) he
    have WV:=ok e he
    have nv:IntKind.i64.wrap (((dc bs e).a:Int)+((dc bs e).b:Int))=((dc bs e).a:Int)+((dc bs e).b:Int):=cq ah
    have mO:IntKind.i64.wrap (((dc bs e).a:Int)+((dc bs e).b:Int)-(vt:Int))=(cX bs e vt:Int):=by
     rw[cq ah]
     unfold cX
     rcases rQ with h1|h1
     ·rw[if_pos h1];omega
     ·rw[if_neg fun h2=>WV.2.2 (h2.trans h1.symm)];omega
    have VN:(cX bs e vt:Int)<(k:Int):=ah
    have TB:=eC (f:=jt) hq
    have PO:=eC (f:=jt) RW
    rw[gJ]at PZ
    have mN:=ec.up i As
    rw[sO]at mN
    have j9:=ec.lo vt RW
    have Xw:IntKind.i64.wrap (jt vt+1)=jt vt+1:=cq ah
    rw[aC]at TB PO
    generalize Bb:dc bs e=b at *
    by_cases ll:jt (cX bs e vt)<0
    ·by_cases fW:0<gy bs f e (cX bs e vt)
     ·have hV:=ec.visit ok As (e:=e) he (by rw[sO];exact rQ) (by rw[sO];exact ll) (by rw[sO];exact fW)
      rw[sO]at hV
      have ew:(eG jt k).set (cX bs e vt) (aC (jt vt+1))=eG (fun v=>if v=cX bs e vt then jt vt+1 else jt v) k:=mH hq (if_pos rfl) fun v _ hv=>if_neg hv
      rw[aC]at ew
      have e1:Q'.length+1<=16777216:=ah
      (have zF:=tw @kq (tw @c0 (tw @c5 (tw @c8 (tw @c9 (tw @c7 (tw @L5 (tw @AU (tw @hx (tw @hA (tw @sL (tw @Tb (tw @P3 (tw @ji (tw @nv (tw @mO (tw @VN (tw @TB (tw @PO (tw @ll (tw @fW (tw @Xw (tw @ew (tw @TZ (tw @UT (tw @Ct (tw @oq (tw @x1 (tw @e1 (tw @eN.eq_1 (tw @aL.eq_1 @gJ.eq_1))))))))))))))))))))))))))))));(repeat(first|((repeat(revert N;apply Pn.out));refine wk zF ?_;(repeat(apply Pn.mk;intro N hN)))|((try apply Or.inl);refine⟨_,au.x (PZ) (sd zF),?_⟩;apply hN;clear hN N)));try clear zF)
      exact ik (sd (tw @kq (tw @c0 (tw @c5 (tw @c8 @c9))))) (⟨_,Q'++[cX bs e vt],⟨269020003,st_c.next+1+1+1+1+1+1⟩,by rw[List.length_append];simp only[go_sem, ↓reduceIte,Nat.reduceEqDiff,Nat.reduceAdd,Nat.reduceSub,Nat.reduceLeDiff,reduceCtorEq,List.length_cons,List.length_nil],by rw[List.map_append,List.map_cons,List.map_nil];simp only[go_sem, ↓reduceIte,Nat.reduceEqDiff,Nat.reduceAdd,Nat.reduceSub,Nat.reduceLeDiff,reduceCtorEq,eN],sd (tw @oq @x1),bc,bc,hV,⟨by simp;omega,by rw[List.getElem_append_left As];exact sO⟩,fun z hz hr=>by
       by_cases XB:z=x
       ·subst XB
        rw[<-YK,if_pos rfl]
        have:=(ec.iff vt RW).2 (by rw[<-sO];exact List.getElem_mem As)
        omega
       ·have:=O4 z ah hr
        split
        ·have:=(ec.iff vt RW).2 (by rw[<-sO];exact List.getElem_mem As)
         omega
        ·exact this⟩)
     ·(have zF:=tw @kq (tw @c0 (tw @c5 (tw @c8 (tw @c9 (tw @c7 (tw @L5 (tw @AU (tw @hx (tw @hA (tw @sL (tw @Tb (tw @P3 (tw @ji (tw @nv (tw @mO (tw @VN (tw @TB (tw @ll (tw @fW (tw @UT (tw @Ct (tw @oq (tw @x1 (tw @eN.eq_1 (tw @aL.eq_1 @gJ.eq_1)))))))))))))))))))))))));(repeat(first|((repeat(revert N;apply Pn.out));refine wk zF ?_;(repeat(apply Pn.mk;intro N hN)))|((try apply Or.inl);refine⟨_,au.x (PZ) (sd zF),?_⟩;apply hN;clear hN N)));try clear zF)
      exact ik (sd (tw @kq (tw @c0 (tw @c5 (tw @c8 @c9))))) (⟨jt,Q',p',sd @c7,sd (tw @L5 @Ct),sd (tw @AU @oq),GR,bc,ec,⟨As,sO⟩,fun z hz hr=>by
       by_cases XB:z=x
       ·subst XB;rw[<-YK]at hr;exact absurd hr fW
       ·exact O4 z ah hr⟩)
    ·(have zF:=tw @kq (tw @c0 (tw @c5 (tw @c8 (tw @c9 (tw @c7 (tw @L5 (tw @AU (tw @hx (tw @hA (tw @sL (tw @Tb (tw @P3 (tw @ji (tw @nv (tw @mO (tw @VN (tw @TB (tw @ll (tw @UT (tw @Ct (tw @oq (tw @x1 (tw @eN.eq_1 (tw @aL.eq_1 @gJ.eq_1))))))))))))))))))))))));(repeat(first|((repeat(revert N;apply Pn.out));refine wk zF ?_;(repeat(apply Pn.mk;intro N hN)))|((try apply Or.inl);refine⟨_,au.x (PZ) (sd zF),?_⟩;apply hN;clear hN N)));try clear zF)
     exact ik (sd (tw @kq (tw @c0 (tw @c5 (tw @c8 @c9))))) (⟨jt,Q',p',sd @c7,sd (tw @L5 @Ct),sd (tw @AU @oq),GR,bc,ec,⟨As,sO⟩,fun z hz hr=>by
      by_cases XB:z=x
      ·subst XB;rw[<-YK];omega
      ·exact O4 z ah hr⟩)
   ·have hxe:x=I.length:=ah
    have hw:IntKind.i64.wrap ((i:Int)+1)=((i+1:Nat):Int):=aE ah
    (try((repeat(revert N;apply Pn.out));refine wk (tw @kq (tw @c0 (tw @c5 (tw @c8 (tw @c9 (tw @c7 (tw @hx (tw @hA (tw @sL (tw @P3 @gJ.eq_1)))))))))) ?_;(repeat(apply Pn.mk;intro N hN))))
    refine⟨_,?_,i+1,jt,Q',p',rfl,sd (tw @kq (tw @c0 (tw @c5 (tw @c8 (tw @c9 @hw))))),sd @c7,sd @L5,sd @AU,GR,bc,ec.next As fun e he hr=>?_,ah⟩
    ·omega
    ·rw[sO,hIn]at he
     rw[sO]at hr ⊢
     obtain⟨z,hz,rfl⟩:=JY e he
     exact O4 z ah hr
 ·(try((repeat(revert N;apply Pn.out));refine wk (tw @b0 (tw @b5 (tw @b7 (tw @b8 (tw @hi @gJ.eq_1))))) ?_;(repeat(apply Pn.mk;intro N hN))))
  have vH:gS st_b.get 6 (.own o 0 k)=some (.sl (eG out k)):=xX bgo (by rw[Zg];omega) (by rw[List.drop_zero,List.take_of_length_le (by rw[Zg];omega)];exact Ot)
  exact⟨_,rfl,_,by simp only[go_sem, ↓reduceIte,Nat.reduceEqDiff,Nat.reduceAdd,Nat.reduceSub,Nat.reduceLeDiff,reduceCtorEq,fb];exact vH,out,rfl,hB.done ok ah⟩
end Go.Proofs.YtainmfbpilopaaaGreatDoor.V

namespace Go.Proofs.YtainmfbpilopaaaGreatDoor.V
open Go.RowKit
attribute [local irreducible] dW wpOps fu Call
attribute [local go_sem] aJ fc eA fq fo dh upd bW K.av cC AV.cells AV.cell rowOf rowsOf part ld rowAt fR bJ bV dn dE fU bx cQ dO fj eK di dI cN cL dy dz bD aU cF bB cH cG dG dJ dH cE bF cP dF bz aH cJ cm fS bj cw bE aT da aX dp AV.undef br bt dC dD dt dw cr dM dP cj dL dK cI cK List.getD_cons_zero List.getD_cons_succ List.getD_nil List.all_cons List.all_nil Bool.and_true Bool.true_and Bool.and_self Bool.not_true Bool.not_false Option.map_some Option.map_none Option.bind_some Option.bind_none List.length_cons List.length_nil List.take_succ_cons List.take_zero List.take_nil List.drop_succ_cons List.drop_zero List.drop_nil List.head?_cons List.map_cons List.map_nil List.getElem?_cons_zero List.getElem?_cons_succ List.cons_append List.nil_append List.append_nil List.length_map List.set_cons_zero List.set_cons_succ eq_self Int.toNat_natCast Int.natCast_nonneg and_self true_and and_true decide_true decide_false Bool.false_eq_true Nat.zero_add Nat.add_zero List.contains_cons List.contains_nil Bool.or_false Bool.false_or beq_self_eq_true ne_eq not_true_eq_false not_false_eq_true Id.mk.injEq false_and and_false Nat.le_refl List.length_append beq_true beq_false Bool.not_eq_eq_eq_not or_false false_or ea ai ar aB aW bq bP aO aY aP aV cD bp
def Vt:FQ (List Nat):=fun g cs x ids=>(x=[]/\cs=[.bU]/\ids=[])∨∃id,cs=[.own id 0 x.length]/\0<x.length/\g id=some ⟨true,1,x.map eN⟩/\ids=[id]
theorem R6:Ae Vt 1 where
 frame:=fun h hf=>by
  rcases h with h|⟨id,h1,h0,h2,h3⟩
  ·exact .inl h
  ·subst h3;exact .inr ⟨id,h1,h0,(hf id (by simp)).trans h2,rfl⟩
 len:=fun h=>by rcases h with⟨_,h,_⟩|⟨id,h,_⟩<;>subst h<;>rfl
 cell:=fun h=>by rcases h with⟨_,h,_⟩|⟨id,h,_⟩<;>subst h<;>rfl
 live:=fun h i hi=>by
  rcases h with⟨_,_,h⟩|⟨id,h1,h0,h2,h3⟩
  ·subst h;cases hi
  ·subst h3
   have:i=id:=by simpa using hi
   subst this
   exact⟨_,h2,rfl,by simp[xK]⟩
 small:=by simp[xK]
theorem Uu {g:Rows} {rows:List (List AV)} {xs:List (List Nat)} {ids:List Id} (n:Nat) (h:eV Vt g rows xs ids):eJ (ea g) (n+2) rows=some (xs.map fun l=>[UK l]):=
 h.fz (fun {cs x ids} h=>by
  rcases h with⟨h0,h1,_⟩|⟨id,h1,h0,h2,_⟩
  ·subst h0 h1;rw[ai,ar,aO];rfl
  ·have gM:x≠[]:=by rintro rfl;simp at h0
   subst h1
   rw[ai,ar,gF (e:=eN) (sz:=1) (by simp[ea,h2]) rfl fun a=>fzN _ n a]
   simp[UK,gM])
theorem eV.XT {α:Type} {R:FQ α} {sz:Nat} {g:Rows} {rows:List (List AV)} {xs:List α} {ids:List Id} (ok:Ae R sz) (h:eV R g rows xs ids) (mV:ids.Nodup) (k:Nat) (hk:k<xs.length):
  ∃cs ic,rows[k]? =some cs/\R g cs xs[k] ic/\(∀i∈ic,i∈ids)/\∀(g':Rows) r7 x' VY,R g' r7 x' VY->(∀i∈ids,i∉ic->g' i=g i)->VY.Nodup->(∀i∈VY,i∉ids)->∃G0,eV R g' (rows.set k r7) (xs.set k x') G0/\G0.Nodup/\∀i∈G0,i∈VY∨i∈ids:=by
 obtain⟨r1,cs,r2,i1,ic,i2,rfl,rfl,rfl,h3,h4,h5⟩:=h.split k hk
 obtain⟨n1,n2,n3⟩:=List.nodup_append.1 mV
 obtain⟨nc,n5,n4⟩:=List.nodup_append.1 n2
 refine⟨cs,ic,by simp,h4,fun i hi=>by simp[hi],fun g' r7 x' VY hR hf hn' lG=>⟨i1++(VY++i2),?_,?_,fun i hi=>?_⟩⟩
 ·have e:xs.set r1.length x'=xs.take r1.length++x'::xs.drop (r1.length+1):=by rw[List.set_eq_take_append_cons_drop,if_pos hk]
  have e2:(r1++cs::r2).set r1.length r7=r1++r7::r2:=by simp
  rw[e,e2]
  refine(h3.frame ok fun i hi=>hf i (by simp[hi]) fun hc=>n3 i hi i (by simp[hc]) rfl).app (.cons hR (h5.frame ok fun i hi=>hf i (by simp[hi]) fun hc=>n4 i hc i hi rfl))
 ·rw[List.nodup_append,List.nodup_append]
  refine⟨n1,⟨hn',n5,fun x hx y hy he=>?_⟩,fun x hx y hy he=>?_⟩
  ·subst he;exact lG x hx (by simp[hy])
  ·subst he
   rcases List.mem_append.1 hy with hy|hy
   ·exact lG x hy (by simp[hx])
   ·exact n3 x hx x (by simp[hy]) rfl
 ·rcases List.mem_append.1 hi with hi|hi
  ·exact .inr (by simp[hi])
  ·rcases List.mem_append.1 hi with hi|hi
   ·exact .inl hi
   ·exact .inr (by simp[hi])
def tr (A:Id) (lo:Nat) (L:List (List Nat)) (g:Rows) (nx:Nat):Prop:=∃rows ids,g A=some ⟨true,1,rows⟩/\eV Vt g rows L ids/\ids.Nodup/\∀i∈ids,lo<i.bG/\i.bG<nx
def cR (cnt:Nat) (bs:List PB) (A F:Id):List AV:=[.int .i64 cnt,.sl (bs.map aL),.own A 0 cnt,.own F 0 bs.length]
def mW (cnt:Nat) (bs:List PB) (m:Nat):List (List Nat):=(List.range cnt).map fun v=>jE bs m v
theorem kc (cnt:Nat) (bs:List PB) (m:Nat):(mW cnt bs m).length=cnt:=by simp[mW]
structure p9 (cnt:Nat) (bs:List PB) (f:Nat->Int) (X A F:Id) (g:Rows) (nx:Nat):Prop where
 x:g X=some ⟨true,4,[cR cnt bs A F]⟩
 a:tr A F.bG (mW cnt bs bs.length) g nx
 f:g F=some ⟨true,1,eG f bs.length⟩
 xa:X.bG<A.bG
 af:A.bG<F.bG
 fn:F.bG<nx
theorem tr.fz {A:Id} {lo cnt:Nat} {bs:List PB} {m nx n:Nat} {g:Rows} (h:tr A lo (mW cnt bs m) g nx):V.fz (ea g) (n+3) (.own A 0 cnt)=some (.sl (sk cnt bs m)):=by
 obtain⟨rows,ids,h1,h2,_,_⟩:=h
 have hl:=h2.len
 rw[kc]at hl
 rw[jb]
 simp only[ea,h1,Option.map_some,if_true]
 rw[if_pos ah,List.drop_zero,List.take_of_length_le ah]
 have:=Uu n h2
 rw[this]
 simp[mW,sk]
theorem p9.fz {cnt:Nat} {bs:List PB} {f:Nat->Int} {X A F:Id} {g:Rows} {nx:Nat} (h:p9 cnt bs f X A F g nx):V.fz (ea g) 6 (.ptr X 0 0)=some (.dQ (gJ cnt bs f)):=by
 have hF:ea g F=some ⟨true,1,eG f bs.length⟩:=by simp[ea,h.f]
 have hX:ea g X=some ⟨true,4,[cR cnt bs A F]⟩:=by simp[ea,h.x]
 have hf:V.fz (ea g) 5 (.own F 0 bs.length)=some (.sl (eG f bs.length)):=by
  rw[jb]
  simp only[hF,if_true]
  rw[if_pos (by rw[ek];omega),List.drop_zero,List.take_of_length_le (by rw[ek];omega),C4];rfl
 have ha:=h.a.fz (n:=2)
 rw[aV]
 simp only[hX,if_true,List.getElem?_cons_zero,List.drop_zero,cR,ai,ar,aB,bP,ha,hf,Option.map_some,gJ]
theorem J4 (cnt:Nat) (bs:List PB):mW cnt bs 0=List.replicate cnt []:=by
 refine List.ext_getElem? fun i=>?_
 simp only[mW,List.getElem?_map,List.getElem?_replicate]
 by_cases h:i<cnt
 ·rw[List.getElem?_range h,if_pos h];rfl
 ·rw[List.getElem?_eq_none (by simpa using h),if_neg h];rfl
theorem BJ (g:Rows):∀n:Nat,eV Vt g (List.replicate n [.bU]) (List.replicate n []) []
 |0=>.nil
 |n+1=>.cons (i1:=[]) (.inl ⟨rfl,rfl,rfl⟩) (BJ g n)
def Ax (cnt:Nat) (bs:List PB) (m:Nat):List (List Nat):=(mW cnt bs m).set (dc bs m).a (jE bs m (dc bs m).a++[m])
theorem EH {cnt:Nat} {bs:List PB} {m v:Nat} (hv:v<cnt) (gM:(dc bs m).a≠v):(Ax cnt bs m)[v]? =some (jE bs m v):=by
 unfold Ax
 rw[List.getElem?_set_ne gM]
 simp[mW,hv]
theorem J3 {cnt:Nat} {bs:List PB} {m:Nat} (ha:(dc bs m).a<cnt) (hb:(dc bs m).b<cnt) (gM:(dc bs m).a≠(dc bs m).b):(Ax cnt bs m).set (dc bs m).b (jE bs m (dc bs m).b++[m])=mW cnt bs (m+1):=by
 refine List.ext_getElem? fun i=>?_
 by_cases hi:i<cnt
 ·have hr:(mW cnt bs (m+1))[i]? =some (jE bs (m+1) i):=by simp[mW,hi]
  rw[hr,J5]
  by_cases h1:(dc bs m).b=i
  ·rw[List.getElem?_set,if_pos h1,if_pos (by simp[Ax,kc];omega),if_pos (.inr h1),h1]
  ·rw[List.getElem?_set_ne h1]
   by_cases h2:(dc bs m).a=i
   ·unfold Ax
    rw[List.getElem?_set,if_pos h2,if_pos (by rw[kc];omega),if_pos (.inl h2),h2]
   ·rw[EH hi h2,if_neg (fun h=>h.elim h2 h1),List.append_nil]
 ·rw[List.getElem?_eq_none (by simp[Ax,kc];omega),List.getElem?_eq_none (by rw[kc];omega)]
theorem mb {α:Type} {l:List α} {k:Nat} {x:α} (h:l[k]? =some x) (hk:k<l.length):l[k]=x:=by
 rw[List.getElem?_eq_getElem hk]at h;exact Option.some.inj h
theorem IM {A K:Id} {lo XN nx k j:Nat} {L:List (List Nat)} {La:List Nat} {g:Rows} {rows:List (List AV)} {ids:List Id} (hR:eV Vt g rows L ids) (mV:ids.Nodup) (pV:∀i∈ids,lo<i.bG/\i.bG<XN) (hA:A.bG<=lo) (hL:L[k]? =some La) (hK1:XN<=K.bG) (Tp:K.bG<nx) (j9:lo<XN):
  ∃cs,rows[k]? =some cs/\((La=[]/\cs=[.bU])∨∃id:Id,cs=[.own id 0 La.length]/\0<La.length/\g id=some ⟨true,1,La.map eN⟩/\id.bG<XN/\lo<id.bG)/\
   ∀g':Rows,g' A=some ⟨true,1,rows.set k [.own K 0 (La.length+1)]⟩->g' K=some ⟨true,1,La.map eN++[[.int .i64 j]]⟩->(∀i:Id,i.bG<XN->(i=A)=False->(∀id,cs=[.own id 0 La.length]->(i=id)=False)->g' i=g i)->tr A lo (L.set k (La++[j])) g' nx:=by
 have hk:k<L.length:=(List.getElem?_eq_some_iff.1 hL).1
 have Z9:=mb hL hk
 obtain⟨cs,ic,dY,VA,Xa,rS⟩:=hR.XT R6 mV k hk
 rw[Z9]at VA
 refine⟨cs,dY,?_,fun g' h1 h2 h3=>?_⟩
 ·rcases VA with⟨h1,h2,_⟩|⟨id,h1,h2,h3,h4⟩
  ·exact .inl ⟨h1,h2⟩
  ·subst h4
   have:=pV id (Xa id (by simp))
   exact .inr ⟨id,h1,h2,h3,this.2,this.1⟩
 ·obtain⟨G0,q1,q2,q3⟩:=rS g' [.own K 0 (La.length+1)] (La++[j]) [K] (.inr ⟨K,by simp,by simp,by rw[h2];simp[eN],rfl⟩) (fun i hi YW=>by
   refine h3 i (pV i hi).2 ?_ fun id hid=>?_
   ·simp only[eq_iff_iff,iff_false];rintro rfl;have:=pV _ hi;omega
   ·simp only[eq_iff_iff,iff_false]
    rintro rfl
    rcases VA with⟨_,h4,_⟩|⟨kK,h4,_,_,h5⟩
    ·rw[hid]at h4;cases h4
    ·rw[hid]at h4
     simp only[List.cons.injEq,AV.own.injEq,and_true]at h4
     rw[h5,h4]at YW
     exact YW (by simp)) (by simp) fun i hi hc=>by
   rw[List.mem_singleton.1 hi]at hc;have:=pV _ hc;omega
  refine⟨_,G0,h1,q1,q2,fun i hi=>?_⟩
  rcases q3 i hi with h|h
  ·rw[List.mem_singleton.1 h];omega
  ·have:=pV i h;omega
theorem Q9 {P:Program} {Q:Ex->Env->aw->Prop} {c:VC} {env:Env} {σ:aw} (I:Env->aw->Prop) (h2:∀e s,I e s->Q .normal e s) (h1:∀N':Env->aw->Prop,(∀e s,I e s->N' e s)->dW (Call P) c (da N' Q) env σ):dW (Call P) c Q env σ:=by
 refine kn (fun _ _ _ _ h=>h) az c _ _ env σ (fun x e s h=>?_) (h1 I fun _ _ h=>h)
 cases x with
 |normal=>exact h2 e s h
 |exit id=>exact h
 |ret=>exact h
end Go.Proofs.YtainmfbpilopaaaGreatDoor.V

namespace Go.Proofs.YtainmfbpilopaaaGreatDoor.V
open Go.RowKit
attribute [local irreducible] dW wpOps fu Call
theorem Ni (cnt:Nat) (hn:cnt<=1048576) (bs:List PB) (ok:pw cnt bs) (oV:bs.length<=1048576) (σ:aw):
  Call Tryz.prog 267 [.int .i64 cnt,.sl (bs.map aL)] σ fun r σ'=>∃X A F,r=.ptr X 0 0/\σ.next<=X.bG/\p9 cnt bs (fun _=>0) X A F σ'.get σ'.next:=by
 refine F4 SK rfl fun hl=>?_
 simp only[Ad,Vk,Zk,Zl,Zm,Vs,Zn,zz7,Zo,zz9,Vl,mZ,HV,Rh,Ri,Rj,HW,Rk,Vm,Rl,Vn,Vo]
 try simp only[q]
 clear hl
 have j6:(0:Int)<=(cnt:Int):=ah
 have pY:(cnt:Int)<=((16777216:Nat):Int):=ah
 have Ei:(0:Int)<=(bs.length:Int):=ah
 have Iu:(bs.length:Int)<=((16777216:Nat):Int):=ah
 have hz:List.replicate bs.length [AV.int .i64 0]=eG (fun _=>0) bs.length:=by
  refine List.ext_getElem? fun i=>?_
  by_cases h:i<bs.length
  ·rw[eC h,List.getElem?_replicate,if_pos h];rfl
  ·rw[List.getElem?_eq_none (by simp;omega),List.getElem?_eq_none (by rw[ek];omega)]
 (try((repeat(revert N;apply Pn.out));refine wk (tw @j6 (tw @pY (tw @Ei (tw @Iu (tw @Int.le_refl @hz))))) ?_;(repeat(apply Pn.mk;intro N hN))))
 obtain⟨X,hX⟩:∃X:Id,X=⟨267001003,σ.next+1⟩:=⟨_,rfl⟩
 obtain⟨A,hA⟩:∃X:Id,X=⟨267002002,σ.next+1+1⟩:=⟨_,rfl⟩
 obtain⟨F,hF⟩:∃X:Id,X=⟨267003003,σ.next+1+1+1⟩:=⟨_,rfl⟩
 have hXA:X.bG<A.bG:=by rw[hX,hA];(try dsimp only);omega
 have hAF:A.bG<F.bG:=by rw[hA,hF];(try dsimp only);omega
 have hXs:σ.next<=X.bG:=by rw[hX];(try dsimp only);omega
 refine bf (fun n env st=>∃j:Nat,n=(bs.length)-j/\j<=(bs.length)/\env 6=.int .i64 (j:Int)/\env 5=(.ptr X 0 0)/\st.get X=some ⟨true,4,[cR cnt bs A F]⟩/\st.get F=some ⟨true,1,eG (fun _=>0) bs.length⟩/\(tr A F.bG (mW cnt bs j) st.get st.next/\F.bG<st.next)) (bs.length) ⟨0,ah,ah,by(try simp only[go_sem, ↓reduceIte,Nat.reduceEqDiff,Nat.reduceAdd,Nat.reduceSub,Nat.reduceLeDiff,reduceCtorEq,hX,hF,hA,cR,hz]);try rfl,by(try simp only[go_sem, ↓reduceIte,Nat.reduceEqDiff,Nat.reduceAdd,Nat.reduceSub,Nat.reduceLeDiff,reduceCtorEq,hX,hF,hA,cR,hz]);try rfl,by(try simp only[go_sem, ↓reduceIte,Nat.reduceEqDiff,Nat.reduceAdd,Nat.reduceSub,Nat.reduceLeDiff,reduceCtorEq,hX,hF,hA,cR,hz]);try rfl,by(try simp only[go_sem, ↓reduceIte,Nat.reduceEqDiff,Nat.reduceAdd,Nat.reduceSub,Nat.reduceLeDiff,reduceCtorEq,hX,hF,hA,cR,hz]);try rfl,⟨⟨List.replicate cnt [.bU],[],by rw[hA];(simp only[go_sem, ↓reduceIte,Nat.reduceEqDiff,Nat.reduceAdd,Nat.reduceSub,Nat.reduceLeDiff,reduceCtorEq])<;>rfl,by rw[J4];exact BJ _ _,List.nodup_nil,fun i hi=>by cases hi⟩,by rw[hF];(try dsimp only);omega⟩⟩ ?_
 rintro n_a env_a st_a ⟨j,rfl,ale,a6,a5,ag0,ag1,kz⟩ dX
 have a0:=dX 0 (by kernel_rfl);have a1:=dX 1 (by kernel_rfl)
 simp only[go_sem, ↓reduceIte,Nat.reduceEqDiff,Nat.reduceAdd,Nat.reduceSub,Nat.reduceLeDiff,reduceCtorEq,hX,hF,hA,cR,hz]at a0 a1
 clear dX
 obtain⟨⟨rows,ids,ag,hR,mV,pV⟩,hFn⟩:=kz
 have x1:=de hXA
 have x2:=de hAF
 have x3:=de (a:=X) (b:=F) ah
 have vX:=db (i:=X) (n:=st_a.next) ah
 have vA:=db (i:=A) (n:=st_a.next) ah
 have vF:=db (i:=F) (n:=st_a.next) ah
 by_cases hj:(j:Int)<(bs.length:Int)
 ·have cV:∀{e:Env} {gg:Rows} {nx:Nat},(e 6=.int .i64 (IntKind.i64.wrap ((j:Int)+1)))->(e 5=(.ptr X 0 0))->(gg X=some ⟨true,4,[cR cnt bs A F]⟩)->(gg F=some ⟨true,1,eG (fun _=>0) bs.length⟩)->(tr A F.bG (mW cnt bs (j+1)) gg nx/\F.bG<nx)->∃m0,m0<(bs.length)-j/\∃j:Nat,m0=(bs.length)-j/\j<=(bs.length)/\e 6=.int .i64 (j:Int)/\e 5=(.ptr X 0 0)/\gg X=some ⟨true,4,[cR cnt bs A F]⟩/\gg F=some ⟨true,1,eG (fun _=>0) bs.length⟩/\(tr A F.bG (mW cnt bs j) gg nx/\F.bG<nx):=fun x1 x2 x3 x4 x5=>⟨_,ah,j+1,rfl,ah,(by rw[x1,aE ah]),x2,x3,x4,x5⟩
  have iN:j<bs.length:=ah
  have ji:=xP iN
  obtain⟨ha1,WM,gM⟩:=ok j iN
  have iq:((dc bs j).a:Int)<(cnt:Int):=ah
  have gj:((dc bs j).b:Int)<(cnt:Int):=ah
  have qZ:=J3 (m:=j) ha1 WM gM
  have e1:=uf bs j (dc bs j).a
  have e2:=uf bs j (dc bs j).b
  have TA:(Ax cnt bs j)[(dc bs j).b]? =some (jE bs j (dc bs j).b):=EH WM gM
  have PN:(mW cnt bs j)[(dc bs j).a]? =some (jE bs j (dc bs j).a):=by simp[mW,ha1]
  have Wu:Ax cnt bs j=(mW cnt bs j).set (dc bs j).a (jE bs j (dc bs j).a++[j]):=rfl
  have Mw:(Ax cnt bs j).length=cnt:=by rw[Wu,List.length_set,kc]
  have jQ:=hR.len
  rw[kc]at jQ
  obtain⟨cs7,j7,MA,MU⟩:=IM (A:=A) (K:=⟨267007022,st_a.next+1⟩) (nx:=st_a.next+1+1) (j:=j) hR mV pV ah PN bc bc hFn
  rw[<-Wu]at MU
  obtain⟨c7,rfl⟩:∃c,cs7=[c]:=by
   rcases MA with⟨_,h⟩|⟨id,h,_⟩<;>exact⟨_,h⟩
  generalize jE bs j (dc bs j).a=La at *
  generalize jE bs j (dc bs j).b=Lb at *
  generalize dc bs j=b at *
  generalize Ax cnt bs j=LA at *
  clear Wu
  (try((repeat(revert N;apply Pn.out));refine wk (tw @a6 (tw @a5 (tw @ag0 (tw @ag1 (tw @a0 (tw @a1 (tw @hj (tw @ji (tw @aL.eq_1 (tw @ag (tw @j7 (tw @iq (tw @gj (tw @jQ (tw @x1 (tw @x2 (tw @x3 (tw @vX (tw @vA (tw @vF @cR.eq_1)))))))))))))))))))) ?_;(repeat(apply Pn.mk;intro N hN))))
  refine Dc (fun e s=>e 0=.int .i64 cnt/\e 1=.sl (bs.map aL)/\e 5=.ptr X 0 0/\e 6=.int .i64 j/\s.get X=some ⟨true,4,[cR cnt bs A F]⟩/\s.get F=some ⟨true,1,eG (fun _=>0) bs.length⟩/\tr A F.bG LA s.get s.next/\F.bG<s.next) ?_ ?_
  ·rintro e1 s1 ⟨m0,m1,m5,m6,mX,mF,⟨rows1,ids1,mg,mR,mnd,mver⟩,mn⟩
   apply hN
   clear hN N
   have jR:=mR.len
   rw[Mw]at jR
   have wX:=db (i:=X) (n:=s1.next) ah
   have wA:=db (i:=A) (n:=s1.next) ah
   have wF:=db (i:=F) (n:=s1.next) ah
   obtain⟨cs8,j8,MB,MV⟩:=IM (A:=A) (K:=⟨267008022,s1.next⟩) (nx:=s1.next+1) (j:=j) mR mnd mver ah TA bc bc mn
   rw[qZ]at MV
   obtain⟨c8,rfl⟩:∃c,cs8=[c]:=by
    rcases MB with⟨_,h⟩|⟨id,h,_⟩<;>exact⟨_,h⟩
   (try((repeat(revert N;apply Pn.out));refine wk (tw @m0 (tw @m1 (tw @m5 (tw @m6 (tw @mX (tw @mF (tw @hj (tw @ji (tw @aL.eq_1 (tw @mg (tw @j8 (tw @iq (tw @gj (tw @jR (tw @x1 (tw @x2 (tw @x3 (tw @wX (tw @wA (tw @wF @cR.eq_1)))))))))))))))))))) ?_;(repeat(apply Pn.mk;intro N hN))))
   refine Q9 (fun e s=>e 0=.int .i64 cnt/\e 1=.sl (bs.map aL)/\e 5=.ptr X 0 0/\e 6=.int .i64 j/\s.get X=some ⟨true,4,[cR cnt bs A F]⟩/\s.get F=some ⟨true,1,eG (fun _=>0) bs.length⟩/\tr A F.bG (mW cnt bs (j+1)) s.get s.next/\F.bG<s.next) ?_ ?_
   ·rintro e2 s2 ⟨p0,p1,p5,p6,pX,pF,pL,pn⟩
    simp only[da,aX]
    apply hN
    clear hN N
    (try((repeat(revert N;apply Pn.out));refine wk (tw @p0 (tw @p1 (tw @p5 @p6))) ?_;(repeat(apply Pn.mk;intro N hN))))
    refine cV ?_ ?_ ?_ ?_ (⟨by obtain⟨r,i,q1,q2,q3,q4⟩:=pL;exact⟨r,i,sd @q1,q2,q3,fun x hx=>by have:=q4 x hx;(try dsimp only);omega⟩,bc⟩)
    all_goals simp only[go_sem, ↓reduceIte,Nat.reduceEqDiff,Nat.reduceAdd,Nat.reduceSub,Nat.reduceLeDiff,reduceCtorEq,p0,p1,p5,p6,pX,pF]
   ·intro N hN
    rcases MB with⟨Ir,Cm⟩|⟨id,Cm,hLp,hid,MM,vI⟩
    ·simp only[List.cons.injEq,and_true]at Cm
     subst Cm
     subst Ir
     refine fB ?_ ?_<;>(try((repeat(revert N;apply Pn.out));refine wk (tw @m0 (tw @m1 (tw @m5 (tw @m6 (tw @mX (tw @mF (tw @hj (tw @ji (tw @aL.eq_1 (tw @mg (tw @j8 (tw @iq (tw @gj (tw @jR (tw @x1 (tw @x2 (tw @x3 (tw @wX (tw @wA (tw @wF @cR.eq_1)))))))))))))))))))) ?_;(repeat(apply Pn.mk;intro N hN))))<;>(try refine fB ?_ ?_)<;>(try((repeat(revert N;apply Pn.out));refine wk (tw @m0 (tw @m1 (tw @m5 (tw @m6 (tw @mX (tw @mF (tw @hj (tw @ji (tw @aL.eq_1 (tw @mg (tw @j8 (tw @iq (tw @gj (tw @jR (tw @x1 (tw @x2 (tw @x3 (tw @wX (tw @wA (tw @wF @cR.eq_1)))))))))))))))))))) ?_;(repeat(apply Pn.mk;intro N hN))))<;>(try refine fB ?_ ?_)<;>(try((repeat(revert N;apply Pn.out));refine wk (tw @m0 (tw @m1 (tw @m5 (tw @m6 (tw @mX (tw @mF (tw @hj (tw @ji (tw @aL.eq_1 (tw @mg (tw @j8 (tw @iq (tw @gj (tw @jR (tw @x1 (tw @x2 (tw @x3 (tw @wX (tw @wA (tw @wF @cR.eq_1)))))))))))))))))))) ?_;(repeat(apply Pn.mk;intro N hN))))<;>(try refine fB ?_ ?_)<;>(try((repeat(revert N;apply Pn.out));refine wk (tw @m0 (tw @m1 (tw @m5 (tw @m6 (tw @mX (tw @mF (tw @hj (tw @ji (tw @aL.eq_1 (tw @mg (tw @j8 (tw @iq (tw @gj (tw @jR (tw @x1 (tw @x2 (tw @x3 (tw @wX (tw @wA (tw @wF @cR.eq_1)))))))))))))))))))) ?_;(repeat(apply Pn.mk;intro N hN))))<;>(try refine fB ?_ ?_)<;>(try((repeat(revert N;apply Pn.out));refine wk (tw @m0 (tw @m1 (tw @m5 (tw @m6 (tw @mX (tw @mF (tw @hj (tw @ji (tw @aL.eq_1 (tw @mg (tw @j8 (tw @iq (tw @gj (tw @jR (tw @x1 (tw @x2 (tw @x3 (tw @wX (tw @wA (tw @wF @cR.eq_1)))))))))))))))))))) ?_;(repeat(apply Pn.mk;intro N hN))))<;>(try refine fB ?_ ?_)<;>(try((repeat(revert N;apply Pn.out));refine wk (tw @m0 (tw @m1 (tw @m5 (tw @m6 (tw @mX (tw @mF (tw @hj (tw @ji (tw @aL.eq_1 (tw @mg (tw @j8 (tw @iq (tw @gj (tw @jR (tw @x1 (tw @x2 (tw @x3 (tw @wX (tw @wA (tw @wF @cR.eq_1)))))))))))))))))))) ?_;(repeat(apply Pn.mk;intro N hN))))
     all_goals
      refine⟨by simp only[go_sem, ↓reduceIte,Nat.reduceEqDiff,Nat.reduceAdd,Nat.reduceSub,Nat.reduceLeDiff,reduceCtorEq,m0,m1,m5,m6,mX,mF,hj,ji,aL,mg,j8,iq,gj,jR,x1,x2,x3,wX,wA,wF,cR],by simp only[go_sem, ↓reduceIte,Nat.reduceEqDiff,Nat.reduceAdd,Nat.reduceSub,Nat.reduceLeDiff,reduceCtorEq,m0,m1,m5,m6,mX,mF,hj,ji,aL,mg,j8,iq,gj,jR,x1,x2,x3,wX,wA,wF,cR],by simp only[go_sem, ↓reduceIte,Nat.reduceEqDiff,Nat.reduceAdd,Nat.reduceSub,Nat.reduceLeDiff,reduceCtorEq,m0,m1,m5,m6,mX,mF,hj,ji,aL,mg,j8,iq,gj,jR,x1,x2,x3,wX,wA,wF,cR],by simp only[go_sem, ↓reduceIte,Nat.reduceEqDiff,Nat.reduceAdd,Nat.reduceSub,Nat.reduceLeDiff,reduceCtorEq,m0,m1,m5,m6,mX,mF,hj,ji,aL,mg,j8,iq,gj,jR,x1,x2,x3,wX,wA,wF,cR],by simp only[go_sem, ↓reduceIte,Nat.reduceEqDiff,Nat.reduceAdd,Nat.reduceSub,Nat.reduceLeDiff,reduceCtorEq,m0,m1,m5,m6,mX,mF,hj,ji,aL,mg,j8,iq,gj,jR,x1,x2,x3,wX,wA,wF,cR],by simp only[go_sem, ↓reduceIte,Nat.reduceEqDiff,Nat.reduceAdd,Nat.reduceSub,Nat.reduceLeDiff,reduceCtorEq,m0,m1,m5,m6,mX,mF,hj,ji,aL,mg,j8,iq,gj,jR,x1,x2,x3,wX,wA,wF,cR],MV _ (by simp only[go_sem, ↓reduceIte,Nat.reduceEqDiff,Nat.reduceAdd,Nat.reduceSub,Nat.reduceLeDiff,reduceCtorEq,m0,m1,m5,m6,mX,mF,hj,ji,aL,mg,j8,iq,gj,jR,x1,x2,x3,wX,wA,wF,cR,List.length_nil]) (by simp only[go_sem, ↓reduceIte,Nat.reduceEqDiff,Nat.reduceAdd,Nat.reduceSub,Nat.reduceLeDiff,reduceCtorEq,m0,m1,m5,m6,mX,mF,hj,ji,aL,mg,j8,iq,gj,jR,x1,x2,x3,wX,wA,wF,cR,List.map_nil,List.nil_append]) (fun i hi TD gh=>?_),bc⟩
      clear gh
      simp only[go_sem, ↓reduceIte,Nat.reduceEqDiff,Nat.reduceAdd,Nat.reduceSub,Nat.reduceLeDiff,reduceCtorEq,wX,wA,wF,db hi,TD]
    ·simp only[List.cons.injEq,and_true]at Cm
     subst Cm
     have uN:=db MM
     have y1:=de (a:=A) (b:=id) ah
     have y2:=de (a:=F) (b:=id) vI
     have y3:=de (a:=X) (b:=id) ah
     have e3:Lb.length+1<=16777216:=ah
     have z1:(Lb.map eN).length=Lb.length:=by simp
     refine fB ?_ ?_<;>(try((repeat(revert N;apply Pn.out));refine wk (tw @m0 (tw @m1 (tw @m5 (tw @m6 (tw @mX (tw @mF (tw @hj (tw @ji (tw @aL.eq_1 (tw @mg (tw @j8 (tw @iq (tw @gj (tw @jR (tw @x1 (tw @x2 (tw @x3 (tw @wX (tw @wA (tw @wF (tw @cR.eq_1 (tw @hid (tw @uN (tw @y1 (tw @y2 (tw @y3 (tw @e3 @z1))))))))))))))))))))))))))) ?_;(repeat(apply Pn.mk;intro N hN))))<;>(try refine fB ?_ ?_)<;>(try((repeat(revert N;apply Pn.out));refine wk (tw @m0 (tw @m1 (tw @m5 (tw @m6 (tw @mX (tw @mF (tw @hj (tw @ji (tw @aL.eq_1 (tw @mg (tw @j8 (tw @iq (tw @gj (tw @jR (tw @x1 (tw @x2 (tw @x3 (tw @wX (tw @wA (tw @wF (tw @cR.eq_1 (tw @hid (tw @uN (tw @y1 (tw @y2 (tw @y3 (tw @e3 @z1))))))))))))))))))))))))))) ?_;(repeat(apply Pn.mk;intro N hN))))<;>(try refine fB ?_ ?_)<;>(try((repeat(revert N;apply Pn.out));refine wk (tw @m0 (tw @m1 (tw @m5 (tw @m6 (tw @mX (tw @mF (tw @hj (tw @ji (tw @aL.eq_1 (tw @mg (tw @j8 (tw @iq (tw @gj (tw @jR (tw @x1 (tw @x2 (tw @x3 (tw @wX (tw @wA (tw @wF (tw @cR.eq_1 (tw @hid (tw @uN (tw @y1 (tw @y2 (tw @y3 (tw @e3 @z1))))))))))))))))))))))))))) ?_;(repeat(apply Pn.mk;intro N hN))))<;>(try refine fB ?_ ?_)<;>(try((repeat(revert N;apply Pn.out));refine wk (tw @m0 (tw @m1 (tw @m5 (tw @m6 (tw @mX (tw @mF (tw @hj (tw @ji (tw @aL.eq_1 (tw @mg (tw @j8 (tw @iq (tw @gj (tw @jR (tw @x1 (tw @x2 (tw @x3 (tw @wX (tw @wA (tw @wF (tw @cR.eq_1 (tw @hid (tw @uN (tw @y1 (tw @y2 (tw @y3 (tw @e3 @z1))))))))))))))))))))))))))) ?_;(repeat(apply Pn.mk;intro N hN))))<;>(try refine fB ?_ ?_)<;>(try((repeat(revert N;apply Pn.out));refine wk (tw @m0 (tw @m1 (tw @m5 (tw @m6 (tw @mX (tw @mF (tw @hj (tw @ji (tw @aL.eq_1 (tw @mg (tw @j8 (tw @iq (tw @gj (tw @jR (tw @x1 (tw @x2 (tw @x3 (tw @wX (tw @wA (tw @wF (tw @cR.eq_1 (tw @hid (tw @uN (tw @y1 (tw @y2 (tw @y3 (tw @e3 @z1))))))))))))))))))))))))))) ?_;(repeat(apply Pn.mk;intro N hN))))<;>(try refine fB ?_ ?_)<;>(try((repeat(revert N;apply Pn.out));refine wk (tw @m0 (tw @m1 (tw @m5 (tw @m6 (tw @mX (tw @mF (tw @hj (tw @ji (tw @aL.eq_1 (tw @mg (tw @j8 (tw @iq (tw @gj (tw @jR (tw @x1 (tw @x2 (tw @x3 (tw @wX (tw @wA (tw @wF (tw @cR.eq_1 (tw @hid (tw @uN (tw @y1 (tw @y2 (tw @y3 (tw @e3 @z1))))))))))))))))))))))))))) ?_;(repeat(apply Pn.mk;intro N hN))))
     all_goals
      refine⟨by simp only[go_sem, ↓reduceIte,Nat.reduceEqDiff,Nat.reduceAdd,Nat.reduceSub,Nat.reduceLeDiff,reduceCtorEq,m0,m1,m5,m6,mX,mF,hj,ji,aL,mg,j8,iq,gj,jR,x1,x2,x3,wX,wA,wF,cR,hid,uN,y1,y2,y3,e3,z1],by simp only[go_sem, ↓reduceIte,Nat.reduceEqDiff,Nat.reduceAdd,Nat.reduceSub,Nat.reduceLeDiff,reduceCtorEq,m0,m1,m5,m6,mX,mF,hj,ji,aL,mg,j8,iq,gj,jR,x1,x2,x3,wX,wA,wF,cR,hid,uN,y1,y2,y3,e3,z1],by simp only[go_sem, ↓reduceIte,Nat.reduceEqDiff,Nat.reduceAdd,Nat.reduceSub,Nat.reduceLeDiff,reduceCtorEq,m0,m1,m5,m6,mX,mF,hj,ji,aL,mg,j8,iq,gj,jR,x1,x2,x3,wX,wA,wF,cR,hid,uN,y1,y2,y3,e3,z1],by simp only[go_sem, ↓reduceIte,Nat.reduceEqDiff,Nat.reduceAdd,Nat.reduceSub,Nat.reduceLeDiff,reduceCtorEq,m0,m1,m5,m6,mX,mF,hj,ji,aL,mg,j8,iq,gj,jR,x1,x2,x3,wX,wA,wF,cR,hid,uN,y1,y2,y3,e3,z1],by simp only[go_sem, ↓reduceIte,Nat.reduceEqDiff,Nat.reduceAdd,Nat.reduceSub,Nat.reduceLeDiff,reduceCtorEq,m0,m1,m5,m6,mX,mF,hj,ji,aL,mg,j8,iq,gj,jR,x1,x2,x3,wX,wA,wF,cR,hid,uN,y1,y2,y3,e3,z1],by simp only[go_sem, ↓reduceIte,Nat.reduceEqDiff,Nat.reduceAdd,Nat.reduceSub,Nat.reduceLeDiff,reduceCtorEq,m0,m1,m5,m6,mX,mF,hj,ji,aL,mg,j8,iq,gj,jR,x1,x2,x3,wX,wA,wF,cR,hid,uN,y1,y2,y3,e3,z1],MV _ (by simp only[go_sem, ↓reduceIte,Nat.reduceEqDiff,Nat.reduceAdd,Nat.reduceSub,Nat.reduceLeDiff,reduceCtorEq,m0,m1,m5,m6,mX,mF,hj,ji,aL,mg,j8,iq,gj,jR,x1,x2,x3,wX,wA,wF,cR,hid,uN,y1,y2,y3,e3,z1,List.length_nil]) (by simp only[go_sem, ↓reduceIte,Nat.reduceEqDiff,Nat.reduceAdd,Nat.reduceSub,Nat.reduceLeDiff,reduceCtorEq,m0,m1,m5,m6,mX,mF,hj,ji,aL,mg,j8,iq,gj,jR,x1,x2,x3,wX,wA,wF,cR,hid,uN,y1,y2,y3,e3,z1,List.map_nil,List.nil_append]) (fun i hi TD gh=>?_),bc⟩
      have gM:=gh id rfl
      simp only[go_sem, ↓reduceIte,Nat.reduceEqDiff,Nat.reduceAdd,Nat.reduceSub,Nat.reduceLeDiff,reduceCtorEq,wX,wA,wF,db hi,TD,gM]
  ·intro N hN
   rcases MA with⟨Ir,Cm⟩|⟨id,Cm,hLp,hid,MM,vI⟩
   ·simp only[List.cons.injEq,and_true]at Cm
    subst Cm
    subst Ir
    refine fB ?_ ?_<;>(try((repeat(revert N;apply Pn.out));refine wk (tw @a6 (tw @a5 (tw @ag0 (tw @ag1 (tw @a0 (tw @a1 (tw @hj (tw @ji (tw @aL.eq_1 (tw @ag (tw @j7 (tw @iq (tw @gj (tw @jQ (tw @x1 (tw @x2 (tw @x3 (tw @vX (tw @vA (tw @vF @cR.eq_1)))))))))))))))))))) ?_;(repeat(apply Pn.mk;intro N hN))))<;>(try refine fB ?_ ?_)<;>(try((repeat(revert N;apply Pn.out));refine wk (tw @a6 (tw @a5 (tw @ag0 (tw @ag1 (tw @a0 (tw @a1 (tw @hj (tw @ji (tw @aL.eq_1 (tw @ag (tw @j7 (tw @iq (tw @gj (tw @jQ (tw @x1 (tw @x2 (tw @x3 (tw @vX (tw @vA (tw @vF @cR.eq_1)))))))))))))))))))) ?_;(repeat(apply Pn.mk;intro N hN))))<;>(try refine fB ?_ ?_)<;>(try((repeat(revert N;apply Pn.out));refine wk (tw @a6 (tw @a5 (tw @ag0 (tw @ag1 (tw @a0 (tw @a1 (tw @hj (tw @ji (tw @aL.eq_1 (tw @ag (tw @j7 (tw @iq (tw @gj (tw @jQ (tw @x1 (tw @x2 (tw @x3 (tw @vX (tw @vA (tw @vF @cR.eq_1)))))))))))))))))))) ?_;(repeat(apply Pn.mk;intro N hN))))<;>(try refine fB ?_ ?_)<;>(try((repeat(revert N;apply Pn.out));refine wk (tw @a6 (tw @a5 (tw @ag0 (tw @ag1 (tw @a0 (tw @a1 (tw @hj (tw @ji (tw @aL.eq_1 (tw @ag (tw @j7 (tw @iq (tw @gj (tw @jQ (tw @x1 (tw @x2 (tw @x3 (tw @vX (tw @vA (tw @vF @cR.eq_1)))))))))))))))))))) ?_;(repeat(apply Pn.mk;intro N hN))))<;>(try refine fB ?_ ?_)<;>(try((repeat(revert N;apply Pn.out));refine wk (tw @a6 (tw @a5 (tw @ag0 (tw @ag1 (tw @a0 (tw @a1 (tw @hj (tw @ji (tw @aL.eq_1 (tw @ag (tw @j7 (tw @iq (tw @gj (tw @jQ (tw @x1 (tw @x2 (tw @x3 (tw @vX (tw @vA (tw @vF @cR.eq_1)))))))))))))))))))) ?_;(repeat(apply Pn.mk;intro N hN))))<;>(try refine fB ?_ ?_)<;>(try((repeat(revert N;apply Pn.out));refine wk (tw @a6 (tw @a5 (tw @ag0 (tw @ag1 (tw @a0 (tw @a1 (tw @hj (tw @ji (tw @aL.eq_1 (tw @ag (tw @j7 (tw @iq (tw @gj (tw @jQ (tw @x1 (tw @x2 (tw @x3 (tw @vX (tw @vA (tw @vF @cR.eq_1)))))))))))))))))))) ?_;(repeat(apply Pn.mk;intro N hN))))
    all_goals
     refine⟨by simp only[go_sem, ↓reduceIte,Nat.reduceEqDiff,Nat.reduceAdd,Nat.reduceSub,Nat.reduceLeDiff,reduceCtorEq,a6,a5,ag0,ag1,a0,a1,hj,ji,aL,ag,j7,iq,gj,jQ,x1,x2,x3,vX,vA,vF,cR],by simp only[go_sem, ↓reduceIte,Nat.reduceEqDiff,Nat.reduceAdd,Nat.reduceSub,Nat.reduceLeDiff,reduceCtorEq,a6,a5,ag0,ag1,a0,a1,hj,ji,aL,ag,j7,iq,gj,jQ,x1,x2,x3,vX,vA,vF,cR],by simp only[go_sem, ↓reduceIte,Nat.reduceEqDiff,Nat.reduceAdd,Nat.reduceSub,Nat.reduceLeDiff,reduceCtorEq,a6,a5,ag0,ag1,a0,a1,hj,ji,aL,ag,j7,iq,gj,jQ,x1,x2,x3,vX,vA,vF,cR],by simp only[go_sem, ↓reduceIte,Nat.reduceEqDiff,Nat.reduceAdd,Nat.reduceSub,Nat.reduceLeDiff,reduceCtorEq,a6,a5,ag0,ag1,a0,a1,hj,ji,aL,ag,j7,iq,gj,jQ,x1,x2,x3,vX,vA,vF,cR],by simp only[go_sem, ↓reduceIte,Nat.reduceEqDiff,Nat.reduceAdd,Nat.reduceSub,Nat.reduceLeDiff,reduceCtorEq,a6,a5,ag0,ag1,a0,a1,hj,ji,aL,ag,j7,iq,gj,jQ,x1,x2,x3,vX,vA,vF,cR],by simp only[go_sem, ↓reduceIte,Nat.reduceEqDiff,Nat.reduceAdd,Nat.reduceSub,Nat.reduceLeDiff,reduceCtorEq,a6,a5,ag0,ag1,a0,a1,hj,ji,aL,ag,j7,iq,gj,jQ,x1,x2,x3,vX,vA,vF,cR],MU _ (by simp only[go_sem, ↓reduceIte,Nat.reduceEqDiff,Nat.reduceAdd,Nat.reduceSub,Nat.reduceLeDiff,reduceCtorEq,a6,a5,ag0,ag1,a0,a1,hj,ji,aL,ag,j7,iq,gj,jQ,x1,x2,x3,vX,vA,vF,cR,List.length_nil]) (by simp only[go_sem, ↓reduceIte,Nat.reduceEqDiff,Nat.reduceAdd,Nat.reduceSub,Nat.reduceLeDiff,reduceCtorEq,a6,a5,ag0,ag1,a0,a1,hj,ji,aL,ag,j7,iq,gj,jQ,x1,x2,x3,vX,vA,vF,cR,List.map_nil,List.nil_append]) (fun i hi TD gh=>?_),bc⟩
     clear gh
     simp only[go_sem, ↓reduceIte,Nat.reduceEqDiff,Nat.reduceAdd,Nat.reduceSub,Nat.reduceLeDiff,reduceCtorEq,vX,vA,vF,db hi,TD]
   ·simp only[List.cons.injEq,and_true]at Cm
    subst Cm
    have uN:=db MM
    have y1:=de (a:=A) (b:=id) ah
    have y2:=de (a:=F) (b:=id) vI
    have y3:=de (a:=X) (b:=id) ah
    have e3:La.length+1<=16777216:=ah
    have z1:(La.map eN).length=La.length:=by simp
    refine fB ?_ ?_<;>(try((repeat(revert N;apply Pn.out));refine wk (tw @a6 (tw @a5 (tw @ag0 (tw @ag1 (tw @a0 (tw @a1 (tw @hj (tw @ji (tw @aL.eq_1 (tw @ag (tw @j7 (tw @iq (tw @gj (tw @jQ (tw @x1 (tw @x2 (tw @x3 (tw @vX (tw @vA (tw @vF (tw @cR.eq_1 (tw @hid (tw @uN (tw @y1 (tw @y2 (tw @y3 (tw @e3 @z1))))))))))))))))))))))))))) ?_;(repeat(apply Pn.mk;intro N hN))))<;>(try refine fB ?_ ?_)<;>(try((repeat(revert N;apply Pn.out));refine wk (tw @a6 (tw @a5 (tw @ag0 (tw @ag1 (tw @a0 (tw @a1 (tw @hj (tw @ji (tw @aL.eq_1 (tw @ag (tw @j7 (tw @iq (tw @gj (tw @jQ (tw @x1 (tw @x2 (tw @x3 (tw @vX (tw @vA (tw @vF (tw @cR.eq_1 (tw @hid (tw @uN (tw @y1 (tw @y2 (tw @y3 (tw @e3 @z1))))))))))))))))))))))))))) ?_;(repeat(apply Pn.mk;intro N hN))))<;>(try refine fB ?_ ?_)<;>(try((repeat(revert N;apply Pn.out));refine wk (tw @a6 (tw @a5 (tw @ag0 (tw @ag1 (tw @a0 (tw @a1 (tw @hj (tw @ji (tw @aL.eq_1 (tw @ag (tw @j7 (tw @iq (tw @gj (tw @jQ (tw @x1 (tw @x2 (tw @x3 (tw @vX (tw @vA (tw @vF (tw @cR.eq_1 (tw @hid (tw @uN (tw @y1 (tw @y2 (tw @y3 (tw @e3 @z1))))))))))))))))))))))))))) ?_;(repeat(apply Pn.mk;intro N hN))))<;>(try refine fB ?_ ?_)<;>(try((repeat(revert N;apply Pn.out));refine wk (tw @a6 (tw @a5 (tw @ag0 (tw @ag1 (tw @a0 (tw @a1 (tw @hj (tw @ji (tw @aL.eq_1 (tw @ag (tw @j7 (tw @iq (tw @gj (tw @jQ (tw @x1 (tw @x2 (tw @x3 (tw @vX (tw @vA (tw @vF (tw @cR.eq_1 (tw @hid (tw @uN (tw @y1 (tw @y2 (tw @y3 (tw @e3 @z1))))))))))))))))))))))))))) ?_;(repeat(apply Pn.mk;intro N hN))))<;>(try refine fB ?_ ?_)<;>(try((repeat(revert N;apply Pn.out));refine wk (tw @a6 (tw @a5 (tw @ag0 (tw @ag1 (tw @a0 (tw @a1 (tw @hj (tw @ji (tw @aL.eq_1 (tw @ag (tw @j7 (tw @iq (tw @gj (tw @jQ (tw @x1 (tw @x2 (tw @x3 (tw @vX (tw @vA (tw @vF (tw @cR.eq_1 (tw @hid (tw @uN (tw @y1 (tw @y2 (tw @y3 (tw @e3 @z1))))))))))))))))))))))))))) ?_;(repeat(apply Pn.mk;intro N hN))))<;>(try refine fB ?_ ?_)<;>(try((repeat(revert N;apply Pn.out));refine wk (tw @a6 (tw @a5 (tw @ag0 (tw @ag1 (tw @a0 (tw @a1 (tw @hj (tw @ji (tw @aL.eq_1 (tw @ag (tw @j7 (tw @iq (tw @gj (tw @jQ (tw @x1 (tw @x2 (tw @x3 (tw @vX (tw @vA (tw @vF (tw @cR.eq_1 (tw @hid (tw @uN (tw @y1 (tw @y2 (tw @y3 (tw @e3 @z1))))))))))))))))))))))))))) ?_;(repeat(apply Pn.mk;intro N hN))))
    all_goals
     refine⟨by simp only[go_sem, ↓reduceIte,Nat.reduceEqDiff,Nat.reduceAdd,Nat.reduceSub,Nat.reduceLeDiff,reduceCtorEq,a6,a5,ag0,ag1,a0,a1,hj,ji,aL,ag,j7,iq,gj,jQ,x1,x2,x3,vX,vA,vF,cR,hid,uN,y1,y2,y3,e3,z1],by simp only[go_sem, ↓reduceIte,Nat.reduceEqDiff,Nat.reduceAdd,Nat.reduceSub,Nat.reduceLeDiff,reduceCtorEq,a6,a5,ag0,ag1,a0,a1,hj,ji,aL,ag,j7,iq,gj,jQ,x1,x2,x3,vX,vA,vF,cR,hid,uN,y1,y2,y3,e3,z1],by simp only[go_sem, ↓reduceIte,Nat.reduceEqDiff,Nat.reduceAdd,Nat.reduceSub,Nat.reduceLeDiff,reduceCtorEq,a6,a5,ag0,ag1,a0,a1,hj,ji,aL,ag,j7,iq,gj,jQ,x1,x2,x3,vX,vA,vF,cR,hid,uN,y1,y2,y3,e3,z1],by simp only[go_sem, ↓reduceIte,Nat.reduceEqDiff,Nat.reduceAdd,Nat.reduceSub,Nat.reduceLeDiff,reduceCtorEq,a6,a5,ag0,ag1,a0,a1,hj,ji,aL,ag,j7,iq,gj,jQ,x1,x2,x3,vX,vA,vF,cR,hid,uN,y1,y2,y3,e3,z1],by simp only[go_sem, ↓reduceIte,Nat.reduceEqDiff,Nat.reduceAdd,Nat.reduceSub,Nat.reduceLeDiff,reduceCtorEq,a6,a5,ag0,ag1,a0,a1,hj,ji,aL,ag,j7,iq,gj,jQ,x1,x2,x3,vX,vA,vF,cR,hid,uN,y1,y2,y3,e3,z1],by simp only[go_sem, ↓reduceIte,Nat.reduceEqDiff,Nat.reduceAdd,Nat.reduceSub,Nat.reduceLeDiff,reduceCtorEq,a6,a5,ag0,ag1,a0,a1,hj,ji,aL,ag,j7,iq,gj,jQ,x1,x2,x3,vX,vA,vF,cR,hid,uN,y1,y2,y3,e3,z1],MU _ (by simp only[go_sem, ↓reduceIte,Nat.reduceEqDiff,Nat.reduceAdd,Nat.reduceSub,Nat.reduceLeDiff,reduceCtorEq,a6,a5,ag0,ag1,a0,a1,hj,ji,aL,ag,j7,iq,gj,jQ,x1,x2,x3,vX,vA,vF,cR,hid,uN,y1,y2,y3,e3,z1,List.length_nil]) (by simp only[go_sem, ↓reduceIte,Nat.reduceEqDiff,Nat.reduceAdd,Nat.reduceSub,Nat.reduceLeDiff,reduceCtorEq,a6,a5,ag0,ag1,a0,a1,hj,ji,aL,ag,j7,iq,gj,jQ,x1,x2,x3,vX,vA,vF,cR,hid,uN,y1,y2,y3,e3,z1,List.map_nil,List.nil_append]) (fun i hi TD gh=>?_),bc⟩
     have gM:=gh id rfl
     simp only[go_sem, ↓reduceIte,Nat.reduceEqDiff,Nat.reduceAdd,Nat.reduceSub,Nat.reduceLeDiff,reduceCtorEq,vX,vA,vF,db hi,TD,gM]
 ·have gZ:j=bs.length:=ah
  subst gZ
  (try((repeat(revert N;apply Pn.out));refine wk (tw @a6 (tw @a5 (tw @ag0 (tw @ag1 (tw @a0 (tw @a1 @hj)))))) ?_;(repeat(apply Pn.mk;intro N hN))))
  exact er (.inl rfl) (by simp only[ga,iW,go_sem, ↓reduceIte,Nat.reduceEqDiff,Nat.reduceAdd,Nat.reduceSub,Nat.reduceLeDiff,reduceCtorEq];rfl) ⟨X,A,F,rfl,hXs,⟨ag0,⟨rows,ids,ag,hR,mV,fun x hx=>by have:=pV x hx;(try dsimp only);omega⟩,ag1,hXA,hAF,bc⟩⟩
theorem tr.frame {A:Id} {lo nx AB:Nat} {L:List (List Nat)} {g g':Rows} (h:tr A lo L g nx) (hA:A.bG<nx) (hf:∀i:Id,i.bG<nx->lo<i.bG∨i=A->g' i=g i) (hn:nx<=AB):tr A lo L g' AB:=by
 obtain⟨rows,ids,h1,h2,h3,h4⟩:=h
 refine⟨rows,ids,(hf A hA (.inr rfl)).trans h1,h2.frame R6 fun i hi=>hf i (h4 i hi).2 (.inl (h4 i hi).1),h3,fun i hi=>?_⟩
 have:=h4 i hi;omega
theorem p9.frame {cnt:Nat} {bs:List PB} {f:Nat->Int} {X A F:Id} {g g':Rows} {nx AB:Nat} (h:p9 cnt bs f X A F g nx) (hf:∀i:Id,i.bG<nx->g' i=g i) (hn:nx<=AB):p9 cnt bs f X A F g' AB:=by
 have h1:=h.xa;have h2:=h.af;have h3:=h.fn
 exact⟨(hf X ah).trans h.x,h.a.frame ah (fun i hi _=>hf i hi) hn,(hf F h3).trans h.f,h1,h2,ah⟩
theorem p9.Wr {cnt:Nat} {bs:List PB} {f f':Nat->Int} {X A F:Id} {g g':Rows} {nx AB:Nat} (h:p9 cnt bs f X A F g nx) (hF:g' F=some ⟨true,1,eG f' bs.length⟩) (hf:∀i:Id,i.bG<nx->(i=F)=False->g' i=g i) (hn:nx<=AB):p9 cnt bs f' X A F g' AB:=by
 have h1:=h.xa;have h2:=h.af;have h3:=h.fn
 refine⟨(hf X ah (de ah).1).trans h.x,h.a.frame ah (fun i hi j9=>hf i hi ?_) hn,hF,h1,h2,ah⟩
 rcases j9 with j9|rfl
 ·exact(de j9).2
 ·exact(de h2).1
theorem UB (cnt:Nat) (bs:List PB) (f:Nat->Int) (hs:Small bs f) (e v:Nat) (he:e<bs.length) (X A F:Id) (σ:aw) (nx:Nat) (hS:p9 cnt bs f X A F σ.get nx) (hn:nx<=σ.next):
  Call Tryz.prog 291 [.ptr X 0 0,.int .i64 v,.int .i64 e] σ fun r σ'=>p9 cnt bs (xi bs f e v) X A F σ'.get nx/\σ.next<=σ'.next/\∀i:Id,(i=F)=False->σ'.get i=σ.get i:=by
 refine eB eI rfl fun hl=>?_
 clear hl
 have hX:=hS.x
 have hF:=hS.f
 have hb:=xP he
 have hfe:=eC (f:=f) he
 have tl:=ek f bs.length
 obtain⟨⟨s0,s1⟩,s2,s3⟩:=hs e he
 have hei:(e:Int)<(bs.length:Int):=ah
 have w1:IntKind.i64.wrap (f e+1)=f e+1:=cq ah
 have w2:IntKind.i64.wrap (f e-1)=f e+-1:=by rw[cq ah];omega
 rw[aC]at hfe
 unfold xi
 by_cases h:(dc bs e).a=v
 ·have ew:(eG f bs.length).set e (aC (f e+1))=eG (fun j=>f j+if j=e then(if (dc bs e).a=v then 1 else -1)else 0) bs.length:=mH he (by rw[if_pos rfl,if_pos h]) fun i _ hi=>by rw[if_neg hi,Int.add_zero]
  rw[aC]at ew
  generalize YH:dc bs e=b at *
  have hd:decide ((b.a:Int)=(v:Int))=true:=decide_eq_true (by rw[h])
  (try((repeat(revert N;apply Pn.out));refine wk (tw @hX (tw @hF (tw @hb (tw @hfe (tw @tl (tw @hei (tw @w1 (tw @ew (tw @hd (tw @aL.eq_1 @cR.eq_1)))))))))) ?_;(repeat(apply Pn.mk;intro N hN))))
  exact er (.inr rfl) (vs:=[]) rfl ⟨hS.Wr (sd @Nat.zero_add) (fun i hi gM=>sd @gM) (Nat.le_refl _),bc,fun i gM=>sd @gM⟩
 ·have ew:(eG f bs.length).set e (aC (f e+-1))=eG (fun j=>f j+if j=e then(if (dc bs e).a=v then 1 else -1)else 0) bs.length:=mH he (by rw[if_pos rfl,if_neg h]) fun i _ hi=>by rw[if_neg hi,Int.add_zero]
  rw[aC]at ew
  generalize YH:dc bs e=b at *
  have hd:decide ((b.a:Int)=(v:Int))=false:=decide_eq_false fun hc=>h ah
  (try((repeat(revert N;apply Pn.out));refine wk (tw @hX (tw @hF (tw @hb (tw @hfe (tw @tl (tw @hei (tw @w2 (tw @ew (tw @hd (tw @aL.eq_1 @cR.eq_1)))))))))) ?_;(repeat(apply Pn.mk;intro N hN))))
  exact er (.inr rfl) (vs:=[]) rfl ⟨hS.Wr (sd @Nat.zero_add) (fun i hi gM=>sd @gM) (Nat.le_refl _),bc,fun i gM=>sd @gM⟩
structure qa (bs:List PB) (out:Nat->Int) (f f':Nat->Int) (x v:Nat):Prop where
 le:∀i,i<bs.length->f' i<=(dc bs i).s/\-(dc bs i).s<=f' i
 cut:∀S:Nat->Bool,Jt S bs f'=Jt S bs f+bi (S x)-bi (S v)
 yd:∀e,e<bs.length->out (dc bs e).a<=out v->out (dc bs e).b<=out v->f' e=f e
section
variable {cnt:Nat} {bs:List PB} {out:Nat->Int} {f f':Nat->Int} {x v y:Nat}
theorem qa.start (h:∀i,i<bs.length->f i<=(dc bs i).s/\-(dc bs i).s<=f i):qa bs out f f x x:=⟨h,fun S=>ah,fun _ _ _ _=>rfl⟩
theorem qa.step (h:qa bs out f f' x v) {e:Nat} (he:e<bs.length) (hi:H0 bs e v) (hr:0<gy bs f' e v) (hd:out (cX bs e v)=out v-1):qa bs out f (xi bs f' e v) x (cX bs e v):=by
 refine⟨fun i mL=>?_,fun S=>?_,fun i mL ha hb=>?_⟩
 ·have h1:=h.le i mL
  unfold xi
  by_cases GN:i=e
  ·subst GN
   rw[if_pos rfl]
   unfold gy at hr
   split at hr<;>rename_i hc
   ·rw[if_pos hc];omega
   ·rw[if_neg hc];omega
  ·rw[if_neg GN];omega
 ·rw[Ju he hi,h.cut S];omega
 ·have GN:i≠e:=by
   rintro rfl
   rcases hi with hi|hi
   ·rw[hi]at ha;omega
   ·rw[hi]at hb;omega
  unfold xi
  rw[if_neg GN,Int.add_zero]
  exact h.yd i mL ah ah
theorem qa.goes (h:qa bs out f f' x v) (hs:BT cnt bs f y out) (hv:v<cnt) (h0:0<out v):∃e∈jE bs bs.length v,0<gy bs f' e v/\out (cX bs e v)=out v-1:=by
 obtain⟨e,h1,h2,h3,h4⟩:=hs.down v hv h0
 refine⟨e,ug.2 ⟨h1,h2⟩,?_,h4⟩
 have hf:f' e=f e:=by
  refine h.yd e h1 ?_ ?_
  ·unfold cX at h4
   split at h4
   ·rename_i ha;rw[ha];exact Int.le_refl _
   ·omega
  ·unfold cX at h4
   rcases h2 with h2|h2
   ·rw[if_pos h2]at h4;omega
   ·rw[h2];exact Int.le_refl _
 unfold gy at h3 ⊢
 rw[hf];exact h3
theorem qa.done {val:Int} (h:qa bs out f f' x y) (hf:lg bs f x y val):lg bs f' x y (val+1):=
 ⟨h.le,fun S hx hy=>by rw[h.cut S,hf.cut S hx hy,hx,hy];simp[bi]⟩
theorem HE {val:Int} (hs:BT cnt bs f y out) (ok:pw cnt bs) (hf:lg bs f x y val) (hx:out x<0):∃S:Nat->Bool,S x=true/\S y=false/\val=jP S bs:=by
 refine⟨fun v=>decide (out v<0),decide_eq_true hx,decide_eq_false (by rw[hs.first];omega),hf.full (decide_eq_true hx) (decide_eq_false (by rw[hs.first];omega)) fun i hi oi=>⟨fun h1 h2 hr=>?_,fun h1 h2 hr=>?_⟩⟩
 ·have S9:=of_decide_eq_true h1
  have FT:=of_decide_eq_false h2
  have:=hs.shut i (dc bs i).a hi (.inl rfl) (by unfold cX;rw[if_pos rfl];omega) hr
  omega
 ·have S9:=of_decide_eq_true h1
  have FT:=of_decide_eq_false h2
  have:=hs.shut i (dc bs i).b hi (.inr rfl) (by unfold cX;rw[if_neg oi];omega) hr
  omega
end
end Go.Proofs.YtainmfbpilopaaaGreatDoor.V
