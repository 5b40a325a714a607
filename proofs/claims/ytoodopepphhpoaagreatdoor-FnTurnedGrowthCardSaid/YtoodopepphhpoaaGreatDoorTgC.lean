/- Bounds, points and directions, walked in the small language. -/
import Derived.Test.YtoodopepphhpoaaGreatDoorTgB
import Derived.Test.YtoodopepphhpoaaGreatDoorTgA
set_option linter.unusedVariables false
set_option linter.unusedSimpArgs false
set_option maxRecDepth 100000
set_option maxHeartbeats 16000000
namespace Go.Proofs.YtoodopepphhpoaaGreatDoor.V
open Go.RowKit
attribute [local irreducible] eu wpOps fB Call
def iW (n lo hi:Int):Bool:=decide (lo<=n)&&decide (n<=hi)
theorem eo {n lo hi:Int} (h:iW n lo hi=true):lo<=n/\n<=hi:=by simpa[iW]using h
theorem j7 {n lo hi:Int} (h:lo<=n/\n<=hi):iW n lo hi=true:=by simpa[iW]using h
def yQ (p:aq):Bool:=iW p.fE (-60) 60&&iW p.fw (-60) 60
theorem mJ (n lo hi:Int):ax Tryz.prog 66 [.int .i64 n,.int .i64 lo,.int .i64 hi] (.bool (iW n lo hi)):=by
 refine ax.body fW rfl fun hl n0=>?_
 clear hl
 by_cases h1:lo<=n
 ·(try((repeat(revert N;apply Pn.out));refine wk @h1 ?_;(repeat(apply Pn.mk;intro N hN))))
  exact di (b:=decide (n<=hi)) (.inl rfl) (sd @Nat.zero_add) (by simp[iW,h1])
 ·(try((repeat(revert N;apply Pn.out));refine wk @h1 ?_;(repeat(apply Pn.mk;intro N hN))))
  exact di (b:=false) (.inl rfl) (sd @Nat.zero_add) (by simp[iW,h1])
theorem l9 (n lo hi:Int):ax Tryz.prog 88 [.int .i64 n,.int .i64 lo,.int .i64 hi] (.bool (iW n lo hi)):=by
 refine ax.body fW rfl fun hl n0=>?_
 clear hl
 by_cases h1:lo<=n
 ·(try((repeat(revert N;apply Pn.out));refine wk @h1 ?_;(repeat(apply Pn.mk;intro N hN))))
  exact di (b:=decide (n<=hi)) (.inl rfl) (sd @Nat.zero_add) (by simp[iW,h1])
 ·(try((repeat(revert N;apply Pn.out));refine wk @h1 ?_;(repeat(apply Pn.mk;intro N hN))))
  exact di (b:=false) (.inl rfl) (sd @Nat.zero_add) (by simp[iW,h1])
theorem Oo (d:Int):ax Tryz.prog 160 [.int .i64 d] (.bool (iW d 0 3)):=by
 refine ax.body fW rfl fun hl n0=>?_
 clear hl
 have h:=mJ d 0 3
 (repeat(first|((repeat(revert N;apply Pn.out));refine wk @Nat.zero_add ?_;(repeat(apply Pn.mk;intro N hN)))|((try apply Or.inl);refine⟨_,ax.x (h) (sd @Nat.zero_add),?_⟩;apply hN;clear hN N)))
 exact di (b:=iW d 0 3) (.inl rfl) (sd @Nat.zero_add) rfl
theorem Ap (p:aq):ax Tryz.prog 39 [.agg (ah p)] (.bool (yQ p)):=by
 refine ax.body fW rfl fun hl n0=>?_
 clear hl
 have h1:=mJ p.fE (-60) 60
 have h2:=mJ p.fw (-60) 60
 by_cases q:iW p.fE (-60) 60=true
 ·rw[q]at h1
  (repeat(first|((repeat(revert N;apply Pn.out));refine wk @ah.eq_1 ?_;(repeat(apply Pn.mk;intro N hN)))|((try apply Or.inl);refine⟨_,ax.x (h1) (sd @ah.eq_1),?_⟩;apply hN;clear hN N)|((try apply Or.inl);refine⟨_,ax.x (h2) (sd @ah.eq_1),?_⟩;apply hN;clear hN N)))
  exact di (b:=iW p.fw (-60) 60) (.inl rfl) (sd @Nat.zero_add) (by rw[yQ,q];rfl)
 ·rw[Bool.not_eq_true]at q
  rw[q]at h1
  (repeat(first|((repeat(revert N;apply Pn.out));refine wk @ah.eq_1 ?_;(repeat(apply Pn.mk;intro N hN)))|((try apply Or.inl);refine⟨_,ax.x (h1) (sd @ah.eq_1),?_⟩;apply hN;clear hN N)|((try apply Or.inl);refine⟨_,ax.x (h2) (sd @ah.eq_1),?_⟩;apply hN;clear hN N)))
  exact di (b:=false) (.inl rfl) (sd @Nat.zero_add) (by rw[yQ,q];rfl)
theorem uH (p:aq):ax Tryz.prog 104 [.agg (ah p)] (.bool (yQ p)):=by
 refine ax.body fW rfl fun hl n0=>?_
 clear hl
 have h1:=l9 p.fE (-60) 60
 have h2:=l9 p.fw (-60) 60
 by_cases q:iW p.fE (-60) 60=true
 ·rw[q]at h1
  (repeat(first|((repeat(revert N;apply Pn.out));refine wk @ah.eq_1 ?_;(repeat(apply Pn.mk;intro N hN)))|((try apply Or.inl);refine⟨_,ax.x (h1) (sd @ah.eq_1),?_⟩;apply hN;clear hN N)|((try apply Or.inl);refine⟨_,ax.x (h2) (sd @ah.eq_1),?_⟩;apply hN;clear hN N)))
  exact di (b:=iW p.fw (-60) 60) (.inl rfl) (sd @Nat.zero_add) (by rw[yQ,q];rfl)
 ·rw[Bool.not_eq_true]at q
  rw[q]at h1
  (repeat(first|((repeat(revert N;apply Pn.out));refine wk @ah.eq_1 ?_;(repeat(apply Pn.mk;intro N hN)))|((try apply Or.inl);refine⟨_,ax.x (h1) (sd @ah.eq_1),?_⟩;apply hN;clear hN N)|((try apply Or.inl);refine⟨_,ax.x (h2) (sd @ah.eq_1),?_⟩;apply hN;clear hN N)))
  exact di (b:=false) (.inl rfl) (sd @Nat.zero_add) (by rw[yQ,q];rfl)
def jB (d:Int):Int:=if iW d 0 3 then(d+2) % 4 else -1
def cj (p:aq) (d:Int):aq:=
 if d=0 then⟨p.fE,p.fw+1⟩else if d=1 then⟨p.fE+1,p.fw⟩else if d=2 then⟨p.fE,p.fw-1⟩else if d=3 then⟨p.fE-1,p.fw⟩else p
def iB (n:Int):Prop:=-4611686018427387904<=n/\n<=4611686018427387904
theorem xk (p:aq) (d:Int) (hd:iW d 0 3=true) (hx:iB p.fE) (hy:iB p.fw):ax Tryz.prog 83 [.agg (ah p),.int .i64 d] (.agg (ah (cj p d))):=by
 refine ax.body fW rfl fun hl n0=>?_
 clear hl
 obtain⟨x1,x2⟩:=hx
 obtain⟨y1,y2⟩:=hy
 have w1:IntKind.i64.wrap (p.fE+1)=p.fE+1:=dj ad
 have w2:IntKind.i64.wrap (p.fE-1)=p.fE-1:=dj ad
 have w3:IntKind.i64.wrap (p.fw+1)=p.fw+1:=dj ad
 have w4:IntKind.i64.wrap (p.fw-1)=p.fw-1:=dj ad
 have hb:=eo hd
 have hc:d=0∨d=1∨d=2∨d=3:=ad
 rcases hc with rfl|rfl|rfl|rfl
 ·(try((repeat(revert N;apply Pn.out));refine wk (tw @ah.eq_1 @w3) ?_;(repeat(apply Pn.mk;intro N hN))))
  exact rP (.inl rfl) (vs:=[.agg (ah (cj p 0))]) (by simp only[go_sem, ↓reduceIte,Nat.reduceEqDiff,Nat.reduceAdd,Nat.reduceSub,Nat.reduceLeDiff,reduceCtorEq,iA,jP,ah,cj]) (by simp[iF,ah,iy,fA])
 ·(try((repeat(revert N;apply Pn.out));refine wk (tw @ah.eq_1 @w1) ?_;(repeat(apply Pn.mk;intro N hN))))
  exact rP (.inl rfl) (vs:=[.agg (ah (cj p 1))]) (by simp[iA,jP,ah,cj,ld,rowAt,ck,upd,part]) (by simp[iF,ah,iy,fA])
 ·(try((repeat(revert N;apply Pn.out));refine wk (tw @ah.eq_1 @w4) ?_;(repeat(apply Pn.mk;intro N hN))))
  exact rP (.inl rfl) (vs:=[.agg (ah (cj p 2))]) (by simp[iA,jP,ah,cj,ld,rowAt,ck,upd,part]) (by simp[iF,ah,iy,fA])
 ·(try((repeat(revert N;apply Pn.out));refine wk (tw @ah.eq_1 @w2) ?_;(repeat(apply Pn.mk;intro N hN))))
  exact rP (.inl rfl) (vs:=[.agg (ah (cj p 3))]) (by simp[iA,jP,ah,cj,ld,rowAt,ck,upd,part]) (by simp[iF,ah,iy,fA])
theorem Ec (p p2:aq) (x y:Int) (hx:IntKind.i64.wrap (p.fE+p2.fE)=x) (hy:IntKind.i64.wrap (p.fw+p2.fw)=y):ax Tryz.prog 154 [.agg (ah p),.agg (ah p2)] (.agg [.int .i64 x,.int .i64 y]):=by
 refine ax.body fW rfl fun hl n0=>?_
 clear hl
 (try((repeat(revert N;apply Pn.out));refine wk (tw @ah.eq_1 (tw @hx @hy)) ?_;(repeat(apply Pn.mk;intro N hN))))
 exact rP (.inl rfl) (vs:=[.agg [.int .i64 x,.int .i64 y]]) (by simp only[go_sem, ↓reduceIte,Nat.reduceEqDiff,Nat.reduceAdd,Nat.reduceSub,Nat.reduceLeDiff,reduceCtorEq,iA,jP,ah]) (by simp[iF,iy,fA])
theorem IV (p:aq) (d:Int) (hd:iW d 0 3=true) (hx:iB p.fE) (hy:iB p.fw):ax Tryz.prog 123 [.agg (ah p),.int .i64 d] (.agg (ah (cj p d))):=by
 refine ax.body fW rfl fun hl n0=>?_
 clear hl
 obtain⟨x1,x2⟩:=hx
 obtain⟨y1,y2⟩:=hy
 have hb:=eo hd
 have hc:d=0∨d=1∨d=2∨d=3:=ad
 rcases hc with rfl|rfl|rfl|rfl
 ·have h:=Ec p ⟨0,1⟩ (p.fE) (p.fw+1) (by rw[dj (by constructor<;>simp only<;>omega)]<;>(try simp only)<;>(try omega)) (by rw[dj (by constructor<;>simp only<;>omega)]<;>(try simp only)<;>(try omega))
  simp only[ah]at h
  (repeat(first|((repeat(revert N;apply Pn.out));refine wk @ah.eq_1 ?_;(repeat(apply Pn.mk;intro N hN)))|((try apply Or.inl);refine⟨_,ax.x (h) (sd @ah.eq_1),?_⟩;apply hN;clear hN N)))
  exact rP (.inl rfl) (vs:=[.agg (ah (cj p 0))]) (by simp[iA,jP,ah,cj,ld,rowAt,ck,upd,part]) (by simp[iF,ah,iy,fA])
 ·have h:=Ec p ⟨1,0⟩ (p.fE+1) (p.fw) (by rw[dj (by constructor<;>simp only<;>omega)]<;>(try simp only)<;>(try omega)) (by rw[dj (by constructor<;>simp only<;>omega)]<;>(try simp only)<;>(try omega))
  simp only[ah]at h
  (repeat(first|((repeat(revert N;apply Pn.out));refine wk @ah.eq_1 ?_;(repeat(apply Pn.mk;intro N hN)))|((try apply Or.inl);refine⟨_,ax.x (h) (sd @ah.eq_1),?_⟩;apply hN;clear hN N)))
  exact rP (.inl rfl) (vs:=[.agg (ah (cj p 1))]) (by simp[iA,jP,ah,cj,ld,rowAt,ck,upd,part]) (by simp[iF,ah,iy,fA])
 ·have h:=Ec p ⟨0,(-1)⟩ (p.fE) (p.fw-1) (by rw[dj (by constructor<;>simp only<;>omega)]<;>(try simp only)<;>(try omega)) (by rw[dj (by constructor<;>simp only<;>omega)]<;>(try simp only)<;>(try omega))
  simp only[ah]at h
  (repeat(first|((repeat(revert N;apply Pn.out));refine wk @ah.eq_1 ?_;(repeat(apply Pn.mk;intro N hN)))|((try apply Or.inl);refine⟨_,ax.x (h) (sd @ah.eq_1),?_⟩;apply hN;clear hN N)))
  exact rP (.inl rfl) (vs:=[.agg (ah (cj p 2))]) (by simp[iA,jP,ah,cj,ld,rowAt,ck,upd,part]) (by simp[iF,ah,iy,fA])
 ·have h:=Ec p ⟨(-1),0⟩ (p.fE-1) (p.fw) (by rw[dj (by constructor<;>simp only<;>omega)]<;>(try simp only)<;>(try omega)) (by rw[dj (by constructor<;>simp only<;>omega)]<;>(try simp only)<;>(try omega))
  simp only[ah]at h
  (repeat(first|((repeat(revert N;apply Pn.out));refine wk @ah.eq_1 ?_;(repeat(apply Pn.mk;intro N hN)))|((try apply Or.inl);refine⟨_,ax.x (h) (sd @ah.eq_1),?_⟩;apply hN;clear hN N)))
  exact rP (.inl rfl) (vs:=[.agg (ah (cj p 3))]) (by simp[iA,jP,ah,cj,ld,rowAt,ck,upd,part]) (by simp[iF,ah,iy,fA])
theorem Iz (d:Int) (hd:iW d 0 3=true):ax Tryz.prog 158 [.int .i64 d] (.int .i64 (jB d)):=by
 refine ax.body fW rfl fun hl n0=>?_
 clear hl
 have hb:=eo hd
 have hw:IntKind.i64.wrap (d+2)=d+2:=dj ad
 have ht:Int.tmod (d+2) 4=(d+2) % 4:=Int.tmod_eq_emod_of_nonneg ad
 have h4:¬((4:Int)=0):=ad
 (try((repeat(revert N;apply Pn.out));refine wk (tw @hw (tw @ht @h4)) ?_;(repeat(apply Pn.mk;intro N hN))))
 exact eQ (b:=(d+2) % 4) (.inl rfl) (sd @Nat.zero_add) (by rw[jB,if_pos hd])
theorem zu (d:Int) (hd:iW d 0 3=true):ax Tryz.prog 126 [.int .i64 d] (.int .i64 (jB d)):=by
 refine ax.body fW rfl fun hl n0=>?_
 clear hl
 have hb:=eo hd
 have hw:IntKind.i64.wrap (d+2)=d+2:=dj ad
 have ht:Int.tmod (d+2) 4=(d+2) % 4:=Int.tmod_eq_emod_of_nonneg ad
 have h4:¬((4:Int)=0):=ad
 have h:=Oo d
 rw[hd]at h
 (repeat(first|((repeat(revert N;apply Pn.out));refine wk (tw @hw (tw @ht @h4)) ?_;(repeat(apply Pn.mk;intro N hN)))|((try apply Or.inl);refine⟨_,ax.x (h) (sd (tw @hw (tw @ht @h4))),?_⟩;apply hN;clear hN N)))
 exact eQ (b:=(d+2) % 4) (.inl rfl) (sd @Nat.zero_add) (by rw[jB,if_pos hd])
def eF (s:ay) (t:Int):Bool:=iW t 0 ((s.ai.length:Int)-1)
theorem Il (s:ay) (t:Int):ax Tryz.prog 40 [.er (ae s),.int .i64 t] (.bool (eF s t)):=by
 refine ax.body fW rfl fun hl n0=>?_
 have hn:s.ai.length<=9223372036854775807:=by
  have h1:=(hl (.er (ae s)) (by simp)).Gd (a:=.sl (s.ai.map du)) (by simp[ae])
  simpa using h1.len
 clear hl
 have hw:IntKind.i64.wrap ((s.ai.length:Int)-1)=(s.ai.length:Int)-1:=dj ad
 have h:=mJ t 0 ((s.ai.length:Int)-1)
 (repeat(first|((repeat(revert N;apply Pn.out));refine wk (tw @ae.eq_1 @hw) ?_;(repeat(apply Pn.mk;intro N hN)))|((try apply Or.inl);refine⟨_,ax.x (h) (sd (tw @ae.eq_1 @hw)),?_⟩;apply hN;clear hN N)))
 exact di (b:=eF s t) (.inl rfl) (by simp only[go_sem, ↓reduceIte,Nat.reduceEqDiff,Nat.reduceAdd,Nat.reduceSub,Nat.reduceLeDiff,reduceCtorEq,eF]) rfl
theorem CA (t n:Int) (h0:0<=n) (h1:n<=9223372036854775807):ax Tryz.prog 105 [.int .i64 t,.int .i64 n] (.bool (iW t 0 (n-1))):=by
 refine ax.body fW rfl fun hl n0=>?_
 clear hl
 have hw:IntKind.i64.wrap (n-1)=n-1:=dj ad
 have h:=l9 t 0 (n-1)
 (repeat(first|((repeat(revert N;apply Pn.out));refine wk @hw ?_;(repeat(apply Pn.mk;intro N hN)))|((try apply Or.inl);refine⟨_,ax.x (h) (sd @hw),?_⟩;apply hN;clear hN N)))
 exact di (b:=iW t 0 (n-1)) (.inl rfl) (sd @Nat.zero_add) rfl
theorem Oj (s:ay) (t:Int):ax Tryz.prog 153 [.agg (ae s),.int .i64 t] (.bool (eF s t)):=by
 refine ax.body fW rfl fun hl n0=>?_
 have hn:s.ai.length<=9223372036854775807:=by
  have h1:=(hl (.agg (ae s)) (by simp)).T5 (a:=.sl (s.ai.map du)) (by simp[ae])
  simpa using h1.len
 clear hl
 have h:=CA t s.ai.length ad ad
 (repeat(first|((repeat(revert N;apply Pn.out));refine wk @ae.eq_1 ?_;(repeat(apply Pn.mk;intro N hN)))|((try apply Or.inl);refine⟨_,ax.x (h) (sd @ae.eq_1),?_⟩;apply hN;clear hN N)))
 exact di (b:=eF s t) (.inl rfl) (by simp only[go_sem, ↓reduceIte,Nat.reduceEqDiff,Nat.reduceAdd,Nat.reduceSub,Nat.reduceLeDiff,reduceCtorEq,eF]) rfl
def xt:dD:=⟨⟨#[]⟩,[]⟩
def bz (s:ay) (t:Int):dD:=s.ai.getD t.toNat xt
def bZ (t:dD) (d:Int):Int:=t.de.getD d.toNat 0
def ni (s:ay) (g:Int):ig:=s.aQ.getD g.toNat ⟨⟨#[]⟩,0⟩
def nV (s:ay) (g:Int):Int:=if g=0 then 0 else(ni s (g-1)).gR
def fM (s:ay) (a d b:Int):Int:=if bZ (bz s a) d=bZ (bz s b) (jB d)then nV s (bZ (bz s a) d)else 0
structure kd (s:ay):Prop where
 jk:∀t∈s.ai,t.de.length=4
 mu:∀t∈s.ai,∀g∈t.de,0<=g/\g<=s.aQ.length
theorem getD_map {α β:Type} (e:α->β) {l:List α} {k:Nat} {d:α} (h:k<l.length):(l.map e)[k]? =some (e (l.getD k d)):=by simp[List.getD_eq_getElem?_getD,h]
theorem tn (s:ay) (g:Int) (h0:0<=g) (h1:g<=s.aQ.length):ax Tryz.prog 127 [.er (ae s),.int .i64 g] (.int .i64 (nV s g)):=by
 refine ax.body fW rfl fun hl n0=>?_
 have hn:s.aQ.length<=9223372036854775807:=by
  have h1:=(hl (.er (ae s)) (by simp)).Gd (a:=.sl (s.aQ.map ej)) (by simp[ae])
  simpa using h1.len
 clear hl
 by_cases hg:g=0
 ·have e:decide (g=0)=true:=decide_eq_true hg
  (try((repeat(revert N;apply Pn.out));refine wk (tw @ae.eq_1 @e) ?_;(repeat(apply Pn.mk;intro N hN))))
  exact eQ (b:=0) (.inl rfl) (sd @Nat.zero_add) (by rw[nV,if_pos hg])
 ·have e:decide (g=0)=false:=decide_eq_false hg
  have hw:IntKind.i64.wrap (g-1)=g-1:=dj ad
  have nk:0<=g-1:=ad
  have jc:(s.aQ.map ej)[(g-1).toNat]? =some (ej (ni s (g-1))):=getD_map ej ad
  (try((repeat(revert N;apply Pn.out));refine wk (tw @ae.eq_1 (tw @e (tw @hw (tw @nk (tw @jc @ej.eq_1))))) ?_;(repeat(apply Pn.mk;intro N hN))))
  exact eQ (b:=(ni s (g-1)).gR) (.inl rfl) (sd @Nat.zero_add) (by rw[nV,if_neg hg])
theorem l7 {s:ay} {a:Int} (h:eF s a=true):0<=a/\(s.ai.map du)[a.toNat]? =some (du (bz s a))/\bz s a∈s.ai:=by
 have h':=eo h
 have eP:a.toNat<s.ai.length:=ad
 refine⟨h'.1,getD_map du eP,?_⟩
 unfold bz
 rw[List.getD_eq_getElem?_getD,List.getElem?_eq_getElem eP]
 exact List.getElem_mem eP
theorem nI {t:dD} {d:Int} (h:t.de.length=4) (hd:iW d 0 3=true):(t.de.map aL)[d.toNat]? =some [.int .i64 (bZ t d)]:=by
 have:=eo hd
 exact getD_map aL ad
theorem A9 {t:dD} {d:Int} (h:t.de.length=4) (hd:iW d 0 3=true):bZ t d∈t.de:=by
 have:=eo hd
 have eP:d.toNat<t.de.length:=ad
 unfold bZ
 rw[List.getD_eq_getElem?_getD,List.getElem?_eq_getElem eP]
 exact List.getElem_mem eP
theorem uh {d:Int} (hd:iW d 0 3=true):iW (jB d) 0 3=true:=by
 have:=eo hd
 refine j7 ?_
 rw[jB,if_pos hd];omega
theorem Lj (s:ay) (hF:kd s) (a d b:Int) (ha:eF s a=true) (hb:eF s b=true) (hd:iW d 0 3=true):ax Tryz.prog 84 [.er (ae s),.int .i64 a,.int .i64 d,.int .i64 b] (.int .i64 (fM s a d b)):=by
 refine ax.body fW rfl fun hl n0=>?_
 clear hl
 obtain⟨a0,a1,a2⟩:=l7 ha
 obtain⟨b0,b1,b2⟩:=l7 hb
 have s1:=nI (hF.jk _ a2) hd
 have s2:=nI (hF.jk _ b2) (uh hd)
 have gl:=hF.mu _ a2 _ (A9 (hF.jk _ a2) hd)
 have d0:=(eo hd).1
 have d1:=(eo (uh hd)).1
 have h:=zu d hd
 have hs:=tn s (bZ (bz s a) d) gl.1 gl.2
 rw[ae]at hs
 by_cases e:bZ (bz s a) d=bZ (bz s b) (jB d)
 ·have e':decide (bZ (bz s a) d=bZ (bz s b) (jB d))=true:=decide_eq_true e
  (have zF:=tw @ae.eq_1 (tw @du.eq_1 (tw @a0 (tw @a1 (tw @b0 (tw @b1 (tw @s1 (tw @s2 (tw @d0 (tw @d1 @e')))))))));(repeat(first|((repeat(revert N;apply Pn.out));refine wk zF ?_;(repeat(apply Pn.mk;intro N hN)))|((try apply Or.inl);refine⟨_,ax.x (h) (sd zF),?_⟩;apply hN;clear hN N)|((try apply Or.inl);refine⟨_,ax.x (hs) (sd zF),?_⟩;apply hN;clear hN N)));try clear zF)
  exact eQ (b:=nV s (bZ (bz s a) d)) (.inl rfl) (sd @Nat.zero_add) (by rw[fM,if_pos e])
 ·have e':decide (bZ (bz s a) d=bZ (bz s b) (jB d))=false:=decide_eq_false e
  (have zF:=tw @ae.eq_1 (tw @du.eq_1 (tw @a0 (tw @a1 (tw @b0 (tw @b1 (tw @s1 (tw @s2 (tw @d0 (tw @d1 @e')))))))));(repeat(first|((repeat(revert N;apply Pn.out));refine wk zF ?_;(repeat(apply Pn.mk;intro N hN)))|((try apply Or.inl);refine⟨_,ax.x (h) (sd zF),?_⟩;apply hN;clear hN N)));try clear zF)
  exact eQ (b:=0) (.inl rfl) (sd @Nat.zero_add) (by rw[fM,if_neg e])
theorem IY (s:ay) (hF:kd s) (a d:Int) (ha:eF s a=true) (hd:iW d 0 3=true):ax Tryz.prog 159 [.agg (ae s),.int .i64 a,.int .i64 d] (.int .i64 (nV s (bZ (bz s a) d))):=by
 refine ax.body fW rfl fun hl n0=>?_
 have hn:s.aQ.length<=9223372036854775807:=by
  have h1:=(hl (.agg (ae s)) (by simp)).T5 (a:=.sl (s.aQ.map ej)) (by simp[ae])
  simpa using h1.len
 clear hl
 obtain⟨a0,a1,a2⟩:=l7 ha
 have s1:=nI (hF.jk _ a2) hd
 have gl:=hF.mu _ a2 _ (A9 (hF.jk _ a2) hd)
 have d0:=(eo hd).1
 by_cases hg:bZ (bz s a) d=0
 ·have e:¬(0<bZ (bz s a) d):=ad
  (try((repeat(revert N;apply Pn.out));refine wk (tw @ae.eq_1 (tw @du.eq_1 (tw @a0 (tw @a1 (tw @s1 (tw @d0 @e)))))) ?_;(repeat(apply Pn.mk;intro N hN))))
  exact eQ (b:=0) (.inl rfl) (sd @Nat.zero_add) (by rw[nV,if_pos hg])
 ·have e:0<bZ (bz s a) d:=ad
  have hw:IntKind.i64.wrap (bZ (bz s a) d-1)=bZ (bz s a) d-1:=dj ad
  have nk:0<=bZ (bz s a) d-1:=ad
  have jc:(s.aQ.map ej)[(bZ (bz s a) d-1).toNat]? =some (ej (ni s (bZ (bz s a) d-1))):=getD_map ej ad
  (try((repeat(revert N;apply Pn.out));refine wk (tw @ae.eq_1 (tw @du.eq_1 (tw @a0 (tw @a1 (tw @s1 (tw @d0 (tw @e (tw @hw (tw @nk (tw @jc @ej.eq_1)))))))))) ?_;(repeat(apply Pn.mk;intro N hN))))
  exact eQ (b:=(ni s (bZ (bz s a) d-1)).gR) (.inl rfl) (sd @Nat.zero_add) (by rw[nV,if_neg hg])
theorem Nd (s:ay) (hF:kd s) (a d b:Int) (ha:eF s a=true) (hb:eF s b=true) (hd:iW d 0 3=true):ax Tryz.prog 125 [.agg (ae s),.int .i64 a,.int .i64 d,.int .i64 b] (.int .i64 (fM s a d b)):=by
 refine ax.body fW rfl fun hl n0=>?_
 clear hl
 obtain⟨a0,a1,a2⟩:=l7 ha
 obtain⟨b0,b1,b2⟩:=l7 hb
 have s1:=nI (hF.jk _ a2) hd
 have s2:=nI (hF.jk _ b2) (uh hd)
 have d0:=(eo hd).1
 have d1:=(eo (uh hd)).1
 have h:=Iz d hd
 have hs:=IY s hF a d ha hd
 rw[ae]at hs
 by_cases e:bZ (bz s a) d=bZ (bz s b) (jB d)
 ·have e':decide (bZ (bz s a) d=bZ (bz s b) (jB d))=true:=decide_eq_true e
  (have zF:=tw @ae.eq_1 (tw @du.eq_1 (tw @a0 (tw @a1 (tw @b0 (tw @b1 (tw @s1 (tw @s2 (tw @d0 (tw @d1 @e')))))))));(repeat(first|((repeat(revert N;apply Pn.out));refine wk zF ?_;(repeat(apply Pn.mk;intro N hN)))|((try apply Or.inl);refine⟨_,ax.x (h) (sd zF),?_⟩;apply hN;clear hN N)|((try apply Or.inl);refine⟨_,ax.x (hs) (sd zF),?_⟩;apply hN;clear hN N)));try clear zF)
  exact eQ (b:=nV s (bZ (bz s a) d)) (.inl rfl) (sd @Nat.zero_add) (by rw[fM,if_pos e])
 ·have e':decide (bZ (bz s a) d=bZ (bz s b) (jB d))=false:=decide_eq_false e
  (have zF:=tw @ae.eq_1 (tw @du.eq_1 (tw @a0 (tw @a1 (tw @b0 (tw @b1 (tw @s1 (tw @s2 (tw @d0 (tw @d1 @e')))))))));(repeat(first|((repeat(revert N;apply Pn.out));refine wk zF ?_;(repeat(apply Pn.mk;intro N hN)))|((try apply Or.inl);refine⟨_,ax.x (h) (sd zF),?_⟩;apply hN;clear hN N)));try clear zF)
  exact eQ (b:=0) (.inl rfl) (sd @Nat.zero_add) (by rw[fM,if_neg e])
def qk (s:ay) (i:Nat):ig:=s.aQ.getD i ⟨⟨#[]⟩,0⟩
def mK (s:ay) (i:Nat):dD:=s.ai.getD i xt
def Ho (s:ay) (i:Nat):Prop:=iY (qk s i).bW=true/\iW (qk s i).gR 1 4=true/\∀j,j<i->(qk s j).bW≠(qk s i).bW
def EZ (s:ay) (i:Nat):Prop:=iY (mK s i).bW=true/\(mK s i).de.length=4/\(∀j,j<i->(mK s j).bW≠(mK s i).bW)/\∀g∈(mK s i).de,iW g 0 s.aQ.length=true
structure gL (s:ay):Prop where
 mu:s.aQ.length<=200
 some:1<=s.ai.length
 qq:s.ai.length<=160
 Xw:∀i,i<s.aQ.length->Ho s i
 tok:∀i,i<s.ai.length->EZ s i
noncomputable def wc (s:ay):Bool:=@decide (gL s) (Classical.propDecidable _)
theorem pk {s:ay}:wc s=true↔gL s:=by simp[wc]
theorem il {s:ay} (h:¬gL s):false=wc s:=by simp[wc,h]
theorem GR {s:ay} (h:gL s):true=wc s:=by simp[wc,h]
theorem Et {s:ay} {i:Nat} (h:i<s.ai.length):(s.ai.map du)[i]? =some (du (mK s i)):=getD_map du h
theorem DD {s:ay} {i:Nat} (h:i<s.aQ.length):(s.aQ.map ej)[i]? =some (ej (qk s i)):=getD_map ej h
theorem gL.form {s:ay} (h:gL s):kd s:=by
 have key:∀t∈s.ai,∃i,i<s.ai.length/\t=mK s i:=fun t ht=>by
  obtain⟨i,hi,rfl⟩:=List.getElem_of_mem ht
  exact⟨i,hi,by simp[mK,List.getD_eq_getElem?_getD,hi]⟩
 refine⟨fun t ht=>?_,fun t ht g hg=>?_⟩
 ·obtain⟨i,hi,rfl⟩:=key t ht
  exact(h.tok i hi).2.1
 ·obtain⟨i,hi,rfl⟩:=key t ht
  exact eo ((h.tok i hi).2.2.2 g hg)
def eI (l:List ByteArray):List (List AV):=l.map fun n=>[.str n,.bool true]
abbrev mS:MK:=⟨false,[.tS]⟩
theorem CZ (n:ByteArray):∀(l:List ByteArray) (i:Nat),∃r,iE mS [.str n] (eI l) i=some r/\((r=none/\n∉l)∨∃j,r=some (i+j)/\n∈l/\(eI l)[j]? =some [.str n,.bool true])
 |[],i=>⟨none,rfl,.inl ⟨rfl,by simp⟩⟩
 |m::l,i=>by
  obtain⟨r,h1,h2⟩:=CZ n l (i+1)
  by_cases h:n=m
  ·subst h
   exact⟨some i,by simp[eI,iE,eU,fD,MK.ks],.inr ⟨0,rfl,by simp,rfl⟩⟩
  ·refine⟨r,?_,?_⟩
   ·unfold eI at h1 ⊢
    simp only[List.map_cons,iE,MK.ks,List.length_cons,List.length_nil,Nat.zero_add,List.take_succ_cons,List.take_zero,eU,fD,h,decide_false,Bool.and_true]
    exact h1
   ·rcases h2 with⟨rfl,h2⟩|⟨j,rfl,h2,h3⟩
    ·exact .inl ⟨rfl,by simp[h,h2]⟩
    ·exact .inr ⟨j+1,by congr 1;omega,by simp[h2],by simpa[eI]using h3⟩
theorem A5 (n:ByteArray) (l:List ByteArray):(n∉l/\iz mS (.str n) (eI l)=some none)∨∃j,n∈l/\iz mS (.str n) (eI l)=some (some j)/\(eI l)[j]? =some [.str n,.bool true]:=by
 obtain⟨r,h1,h2⟩:=CZ n l 0
 have e:iz mS (.str n) (eI l)=some r:=by
  unfold iz
  rw[if_pos ⟨rfl,rfl,rfl⟩];exact h1
 rcases h2 with⟨rfl,h2⟩|⟨j,rfl,h2,h3⟩
 ·exact .inl ⟨h2,e⟩
 ·exact .inr ⟨j,h2,by rw[e,Nat.zero_add],h3⟩
theorem V9 (s:ay) (g:Int):ax Tryz.prog 101 [.int .i64 g,.er (ae s)] (.bool (!iW g 0 s.aQ.length)):=by
 refine ax.body fW rfl fun hl n0=>?_
 clear hl
 have h:=l9 g 0 s.aQ.length
 (repeat(first|((repeat(revert N;apply Pn.out));refine wk @ae.eq_1 ?_;(repeat(apply Pn.mk;intro N hN)))|((try apply Or.inl);refine⟨_,ax.x (h) (sd @ae.eq_1),?_⟩;apply hN;clear hN N)))
 exact di (b:= !iW g 0 s.aQ.length) (.inl rfl) (sd @Nat.zero_add) rfl
theorem JC:X1 aL (fun c=>.int .i64 c) 1 false:=⟨fun _=>rfl,fun _=>rfl,fun x g=>by rw[aj,aJ,ar];rfl⟩
theorem R7 (s:ay) (l:List Int) (hl:l.length<=1048576):ax Tryz.prog 86 [.sl (l.map aL),.fn 101 [.er (ae s)]] (.bool (l.any fun g=> !iW g 0 s.aQ.length)):=
 mZ JC (show Fg Tryz.prog 86=some (DH 86 130) by kernel_rfl)
  (show Fg Tryz.prog 130=some (xh 130 1 false) by kernel_rfl) l hl _ _ _ rfl (fun g=>by rw[aj,aK,ar];rfl) (fun x _=>V9 s x) fun g=>by rw[aj,aK,ar];rfl
theorem AE {α:Type} (f:Nat->α) (n k:Nat) (x:α):x∉(List.range k).map f↔∀j,j<k->f j≠x:=by
 constructor
 ·intro h j hj he
  exact h (List.mem_map.2 ⟨j,List.mem_range.2 hj,he⟩)
 ·intro h hm
  obtain⟨j,hj,he⟩:=List.mem_map.1 hm
  exact h j (List.mem_range.1 hj) he
theorem zB (s:ay) (hn:kE s) (hg:s.aQ.length<=1048576) (ht:s.ai.length<=1048576) (hs:∀t∈s.ai,t.de.length<=1048576):ax Tryz.prog 52 [.agg (ae s)] (.bool (wc s)):=by
 refine ax.body fW rfl fun hl n0=>?_
 clear hl
 have Za:∀i,i<s.aQ.length->(qk s i).bW.size<=9223372036854775807:=fun i hi=>hn.1 _ (by simp[qk,List.getD_eq_getElem?_getD,hi])
 have ZB:∀i,i<s.ai.length->(mK s i).bW.size<=9223372036854775807:=fun i hi=>hn.2 _ (by simp[mK,List.getD_eq_getElem?_getD,hi])
 have BL:∀i,i<s.ai.length->(mK s i).de.length<=1048576:=fun i hi=>hs _ (by simp[mK,List.getD_eq_getElem?_getD,hi])
 have hw:=l9 (s.ai.length:Int) 1 160
 by_cases h1:(200:Int)<(s.aQ.length:Int)
 ·(try((repeat(revert N;apply Pn.out));refine wk (tw @ae.eq_1 @h1) ?_;(repeat(apply Pn.mk;intro N hN))))
  exact di (b:=false) (.inl rfl) (sd @Nat.zero_add) (il fun h=>by have:=h.mu;omega)
 by_cases h2:iW (s.ai.length:Int) 1 160=true
 ·have EJ:=eo h2
  rw[h2]at hw
  (repeat(first|((repeat(revert N;apply Pn.out));refine wk (tw @ae.eq_1 @h1) ?_;(repeat(apply Pn.mk;intro N hN)))|((try apply Or.inl);refine⟨_,ax.x (hw) (sd (tw @ae.eq_1 @h1)),?_⟩;apply hN;clear hN N)))
  refine cm (fun n env st=>∃k:Nat,n=(s.aQ.length)-k/\k<=(s.aQ.length)/\env 24=.int .i64 (k:Int)/\st.get ⟨52000000,n0⟩=some ⟨true,2,[ae s]⟩/\st.get ⟨52003000,n0+1+1⟩=some ⟨true,mS.mC,eI ((List.range k).map fun i=>(qk s i).bW)⟩/\(∀j:Nat,j<k->Ho s j)) (s.aQ.length) ⟨0,ad,ad,by(try simp only[go_sem, ↓reduceIte,Nat.reduceEqDiff,Nat.reduceAdd,Nat.reduceSub,Nat.reduceLeDiff,reduceCtorEq,ae,List.range_zero,List.map_nil,eI]);try rfl,by(try simp only[go_sem, ↓reduceIte,Nat.reduceEqDiff,Nat.reduceAdd,Nat.reduceSub,Nat.reduceLeDiff,reduceCtorEq,ae,List.range_zero,List.map_nil,eI]);try rfl,by(try simp only[go_sem, ↓reduceIte,Nat.reduceEqDiff,Nat.reduceAdd,Nat.reduceSub,Nat.reduceLeDiff,reduceCtorEq,ae,List.range_zero,List.map_nil,eI]);try rfl,fun _ h=>absurd h (Nat.not_lt_zero _)⟩ ?_
  rintro n_a env_a st_a ⟨k,rfl,ale,a24,ag0,ag1,qJ⟩ eJ
  have a1:=eJ 1 (by kernel_rfl);have a3:=eJ 3 (by kernel_rfl);have a22:=eJ 22 (by kernel_rfl);have a23:=eJ 23 (by kernel_rfl)
  simp only[go_sem, ↓reduceIte,Nat.reduceEqDiff,Nat.reduceAdd,Nat.reduceSub,Nat.reduceLeDiff,reduceCtorEq,ae,List.range_zero,List.map_nil,eI]at a1 a3 a22 a23
  clear eJ
  by_cases hk:(k:Int)<(s.aQ.length:Int)
  ·have eh:∀{e:Env} {gg:Rows},(e 24=.int .i64 (IntKind.i64.wrap ((k:Int)+1)))->(gg ⟨52000000,n0⟩=some ⟨true,2,[ae s]⟩)->(gg ⟨52003000,n0+1+1⟩=some ⟨true,mS.mC,eI ((List.range (k+1)).map fun i=>(qk s i).bW)⟩)->(Ho s k)->∃m0,m0<(s.aQ.length)-k/\∃k:Nat,m0=(s.aQ.length)-k/\k<=(s.aQ.length)/\e 24=.int .i64 (k:Int)/\gg ⟨52000000,n0⟩=some ⟨true,2,[ae s]⟩/\gg ⟨52003000,n0+1+1⟩=some ⟨true,mS.mC,eI ((List.range k).map fun i=>(qk s i).bW)⟩/\(∀j:Nat,j<k->Ho s j):=fun x1 x2 x3 x4=>⟨_,ad,k+1,rfl,ad,(by rw[x1,aX ad]),x2,x3,(all_succ qJ x4)⟩
   have ji:k<s.aQ.length:=ad
   have gx:=DD ji
   have tQ:=JW (qk s k).bW (Za k ji)
   have Qe:=l9 (qk s k).gR 1 4
   have F2:=A5 (qk s k).bW ((List.range k).map fun i=>(qk s i).bW)
   rw[AE _ k]at F2
   have mH:(¬Ho s k)->¬gL s:=fun h hp=>h (hp.Xw k ji)
   generalize qL:qk s k=gl at *
   cases hb:iY gl.bW
   ·rw[hb]at tQ
    (have zF:=tw @a24 (tw @ag0 (tw @ag1 (tw @a1 (tw @a3 (tw @a22 (tw @a23 (tw @hk (tw @gx (tw @ej.eq_1 @ae.eq_1)))))))));(repeat(first|((repeat(revert N;apply Pn.out));refine wk zF ?_;(repeat(apply Pn.mk;intro N hN)))|((try apply Or.inl);refine⟨_,ax.x (tQ) (sd zF),?_⟩;apply hN;clear hN N)));try clear zF)
    exact di (b:=false) (.inl rfl) (sd @Nat.zero_add) (il (mH fun h=>by rw[Ho,qL,hb]at h;cases h.1))
   ·rw[hb]at tQ
    rcases F2 with⟨H0,mN⟩|⟨j,gS,mN,fC⟩
    ·cases eA:iW gl.gR 1 4
     ·rw[eA]at Qe
      (have zF:=tw @a24 (tw @ag0 (tw @ag1 (tw @a1 (tw @a3 (tw @a22 (tw @a23 (tw @hk (tw @gx (tw @mN (tw @ej.eq_1 @ae.eq_1))))))))));(repeat(first|((repeat(revert N;apply Pn.out));refine wk zF ?_;(repeat(apply Pn.mk;intro N hN)))|((try apply Or.inl);refine⟨_,ax.x (tQ) (sd zF),?_⟩;apply hN;clear hN N)|((try apply Or.inl);refine⟨_,ax.x (Qe) (sd zF),?_⟩;apply hN;clear hN N)));try clear zF)
      exact di (b:=false) (.inl rfl) (sd @Nat.zero_add) (il (mH fun h=>by rw[Ho,qL,eA]at h;cases h.2.1))
     ·rw[eA]at Qe
      have sj:eI ((List.range k).map fun i=>(qk s i).bW)++[[.str gl.bW,.bool true]]=eI (List.map (fun i=>(qk s i).bW) (List.range k++[k])):=by simp[eI,qL]
      (have zF:=tw @a24 (tw @ag0 (tw @ag1 (tw @a1 (tw @a3 (tw @a22 (tw @a23 (tw @hk (tw @gx (tw @mN (tw @ej.eq_1 @ae.eq_1))))))))));(repeat(first|((repeat(revert N;apply Pn.out));refine wk zF ?_;(repeat(apply Pn.mk;intro N hN)))|((try apply Or.inl);refine⟨_,ax.x (tQ) (sd zF),?_⟩;apply hN;clear hN N)|((try apply Or.inl);refine⟨_,ax.x (Qe) (sd zF),?_⟩;apply hN;clear hN N)));try clear zF)
      refine eh ?_ ?_ ?_ (⟨by rw[qL];exact hb,by rw[qL];exact eA,fun j hj=>by rw[qL];exact H0 j hj⟩)
      all_goals simp only[go_sem, ↓reduceIte,Nat.reduceEqDiff,Nat.reduceAdd,Nat.reduceSub,Nat.reduceLeDiff,reduceCtorEq,a24,ag0,ag1,a1,a3,a22,a23,mN,sj]
    ·(have zF:=tw @a24 (tw @ag0 (tw @ag1 (tw @a1 (tw @a3 (tw @a22 (tw @a23 (tw @hk (tw @gx (tw @mN (tw @fC (tw @ej.eq_1 @ae.eq_1)))))))))));(repeat(first|((repeat(revert N;apply Pn.out));refine wk zF ?_;(repeat(apply Pn.mk;intro N hN)))|((try apply Or.inl);refine⟨_,ax.x (tQ) (sd zF),?_⟩;apply hN;clear hN N)));try clear zF)
     exact di (b:=false) (.inl rfl) (sd @Nat.zero_add) (il (mH fun h=>by
      rw[Ho,qL]at h
      obtain⟨i,hi,he⟩:=List.mem_map.1 gS
      exact h.2.2 i (List.mem_range.1 hi) he))
  ·have lk:k=s.aQ.length:=ad
   (try((repeat(revert N;apply Pn.out));refine wk (tw @a24 (tw @ag0 (tw @ag1 (tw @a1 (tw @a3 (tw @a22 (tw @a23 (tw @hk @ae.eq_1)))))))) ?_;(repeat(apply Pn.mk;intro N hN))))
   refine cm (fun n env st=>∃j:Nat,n=(s.ai.length)-j/\j<=(s.ai.length)/\env 52=.int .i64 (j:Int)/\st.get ⟨52000000,n0⟩=some ⟨true,2,[ae s]⟩/\st.get ⟨52011000,st_a.next+1⟩=some ⟨true,mS.mC,eI ((List.range j).map fun i=>(mK s i).bW)⟩/\(∀i:Nat,i<j->EZ s i)/\(st_a.next<st.next)) (s.ai.length) ⟨0,ad,ad,by(try simp only[go_sem, ↓reduceIte,Nat.reduceEqDiff,Nat.reduceAdd,Nat.reduceSub,Nat.reduceLeDiff,reduceCtorEq,a24,ag0,ag1,a1,a3,a22,a23,ae,List.range_zero,List.map_nil,eI]);try rfl,by(try simp only[go_sem, ↓reduceIte,Nat.reduceEqDiff,Nat.reduceAdd,Nat.reduceSub,Nat.reduceLeDiff,reduceCtorEq,a24,ag0,ag1,a1,a3,a22,a23,ae,List.range_zero,List.map_nil,eI]);try rfl,by(try simp only[go_sem, ↓reduceIte,Nat.reduceEqDiff,Nat.reduceAdd,Nat.reduceSub,Nat.reduceLeDiff,reduceCtorEq,a24,ag0,ag1,a1,a3,a22,a23,ae,List.range_zero,List.map_nil,eI]);try rfl,fun _ h=>absurd h (Nat.not_lt_zero _),bp⟩ ?_
   rintro n_b env_b st_b ⟨j,rfl,ble,b52,bg0,bg1,bA0,bI0⟩ fb
   have b1:=fb 1 (by kernel_rfl);have b6:=fb 6 (by kernel_rfl);have Hv:=fb 50 (by kernel_rfl);have Hw:=fb 51 (by kernel_rfl)
   simp only[go_sem, ↓reduceIte,Nat.reduceEqDiff,Nat.reduceAdd,Nat.reduceSub,Nat.reduceLeDiff,reduceCtorEq,a24,ag0,ag1,a1,a3,a22,a23,ae,List.range_zero,List.map_nil,eI]at b1 b6 Hv Hw
   clear fb
   by_cases hj:(j:Int)<(s.ai.length:Int)
   ·have fS:∀{e:Env} {gg:Rows} {nx:Nat},(e 52=.int .i64 (IntKind.i64.wrap ((j:Int)+1)))->(gg ⟨52000000,n0⟩=some ⟨true,2,[ae s]⟩)->(gg ⟨52011000,st_a.next+1⟩=some ⟨true,mS.mC,eI ((List.range (j+1)).map fun i=>(mK s i).bW)⟩)->(EZ s j)->(st_a.next<nx)->∃m0,m0<(s.ai.length)-j/\∃j:Nat,m0=(s.ai.length)-j/\j<=(s.ai.length)/\e 52=.int .i64 (j:Int)/\gg ⟨52000000,n0⟩=some ⟨true,2,[ae s]⟩/\gg ⟨52011000,st_a.next+1⟩=some ⟨true,mS.mC,eI ((List.range j).map fun i=>(mK s i).bW)⟩/\(∀i:Nat,i<j->EZ s i)/\(st_a.next<nx):=fun x1 x2 x3 x4 x5=>⟨_,ad,j+1,rfl,ad,(by rw[x1,aX ad]),x2,x3,(all_succ bA0 x4),x5⟩
    have oU:j<s.ai.length:=ad
    have ox:=Et oU
    have tQ:=JW (mK s j).bW (ZB j oU)
    have Vt:=R7 s (mK s j).de (BL j oU)
    have F2:=A5 (mK s j).bW ((List.range j).map fun i=>(mK s i).bW)
    rw[AE _ j]at F2
    have mH:(¬EZ s j)->¬gL s:=fun h hp=>h (hp.tok j oU)
    have hZ:(⟨52011000,st_a.next+1⟩:Id)≠⟨52000000,n0⟩:=by simp
    generalize htd:mK s j=tl at *
    cases hb:iY tl.bW
    ·rw[hb]at tQ
     (have zF:=tw @b52 (tw @bg0 (tw @bg1 (tw @b1 (tw @b6 (tw @Hv (tw @Hw (tw @hj (tw @ox (tw @du.eq_1 @ae.eq_1)))))))));(repeat(first|((repeat(revert N;apply Pn.out));refine wk zF ?_;(repeat(apply Pn.mk;intro N hN)))|((try apply Or.inl);refine⟨_,ax.x (tQ) (sd zF),?_⟩;apply hN;clear hN N)));try clear zF)
     exact di (b:=false) (.inl rfl) (sd @Nat.zero_add) (il (mH fun h=>by rw[EZ,htd,hb]at h;cases h.1))
    ·rw[hb]at tQ
     rcases F2 with⟨H0,mN⟩|⟨i,gS,mN,fC⟩
     ·by_cases h4:(tl.de.length:Int)=4
      ·have DF:decide ((tl.de.length:Int)=4)=true:=decide_eq_true h4
       cases hany:tl.de.any fun g=> !iW g 0 s.aQ.length
       ·rw[hany]at Vt
        have sj:eI ((List.range j).map fun i=>(mK s i).bW)++[[.str tl.bW,.bool true]]=eI (List.map (fun i=>(mK s i).bW) (List.range j++[j])):=by simp[eI,htd]
        (have zF:=tw @b52 (tw @bg0 (tw @bg1 (tw @b1 (tw @b6 (tw @Hv (tw @Hw (tw @hj (tw @ox (tw @mN (tw @DF (tw @du.eq_1 @ae.eq_1)))))))))));(repeat(first|((repeat(revert N;apply Pn.out));refine wk zF ?_;(repeat(apply Pn.mk;intro N hN)))|((try apply Or.inl);refine⟨_,ax.x (tQ) (sd zF),?_⟩;apply hN;clear hN N)|((try apply Or.inl);refine⟨_,ax.x (Vt) (sd zF),?_⟩;apply hN;clear hN N)));try clear zF)
        refine fS ?_ ?_ ?_ (⟨by rw[htd];exact hb,by rw[htd];omega,fun i hi=>(by rw[htd];exact H0 i hi),fun g hg=>by rw[htd]at hg;have:=List.any_eq_false.1 hany g hg;simpa using this⟩) bp
        all_goals simp only[go_sem, ↓reduceIte,Nat.reduceEqDiff,Nat.reduceAdd,Nat.reduceSub,Nat.reduceLeDiff,reduceCtorEq,b52,bg0,bg1,b1,b6,Hv,Hw,mN,sj]
       ·rw[hany]at Vt
        (have zF:=tw @b52 (tw @bg0 (tw @bg1 (tw @b1 (tw @b6 (tw @Hv (tw @Hw (tw @hj (tw @ox (tw @mN (tw @DF (tw @du.eq_1 @ae.eq_1)))))))))));(repeat(first|((repeat(revert N;apply Pn.out));refine wk zF ?_;(repeat(apply Pn.mk;intro N hN)))|((try apply Or.inl);refine⟨_,ax.x (tQ) (sd zF),?_⟩;apply hN;clear hN N)|((try apply Or.inl);refine⟨_,ax.x (Vt) (sd zF),?_⟩;apply hN;clear hN N)));try clear zF)
        exact di (b:=false) (.inl rfl) (sd @Nat.zero_add) (il (mH fun h=>by
         rw[EZ,htd]at h
         obtain⟨g,hg,hq⟩:=List.any_eq_true.1 hany
         have:=h.2.2.2 g hg
         rw[this]at hq;cases hq))
      ·have DF:decide ((tl.de.length:Int)=4)=false:=decide_eq_false h4
       (have zF:=tw @b52 (tw @bg0 (tw @bg1 (tw @b1 (tw @b6 (tw @Hv (tw @Hw (tw @hj (tw @ox (tw @mN (tw @DF (tw @du.eq_1 @ae.eq_1)))))))))));(repeat(first|((repeat(revert N;apply Pn.out));refine wk zF ?_;(repeat(apply Pn.mk;intro N hN)))|((try apply Or.inl);refine⟨_,ax.x (tQ) (sd zF),?_⟩;apply hN;clear hN N)));try clear zF)
       exact di (b:=false) (.inl rfl) (sd @Nat.zero_add) (il (mH fun h=>by rw[EZ,htd]at h;have:=h.2.1;omega))
     ·(have zF:=tw @b52 (tw @bg0 (tw @bg1 (tw @b1 (tw @b6 (tw @Hv (tw @Hw (tw @hj (tw @ox (tw @mN (tw @fC (tw @du.eq_1 @ae.eq_1)))))))))));(repeat(first|((repeat(revert N;apply Pn.out));refine wk zF ?_;(repeat(apply Pn.mk;intro N hN)))|((try apply Or.inl);refine⟨_,ax.x (tQ) (sd zF),?_⟩;apply hN;clear hN N)));try clear zF)
      exact di (b:=false) (.inl rfl) (sd @Nat.zero_add) (il (mH fun h=>by
       rw[EZ,htd]at h
       obtain⟨i,hi,he⟩:=List.mem_map.1 gS
       exact h.2.2.1 i (List.mem_range.1 hi) he))
   ·(try((repeat(revert N;apply Pn.out));refine wk (tw @b52 (tw @bg0 (tw @bg1 (tw @b1 (tw @b6 (tw @Hv (tw @Hw (tw @hj @ae.eq_1)))))))) ?_;(repeat(apply Pn.mk;intro N hN))))
    exact di (b:=true) (.inl rfl) (sd @Nat.zero_add) (GR ⟨ad,ad,ad,fun i hi=>qJ i ad,fun i hi=>bA0 i ad⟩)
 ·rw[Bool.not_eq_true]at h2
  rw[h2]at hw
  (repeat(first|((repeat(revert N;apply Pn.out));refine wk (tw @ae.eq_1 @h1) ?_;(repeat(apply Pn.mk;intro N hN)))|((try apply Or.inl);refine⟨_,ax.x (hw) (sd (tw @ae.eq_1 @h1)),?_⟩;apply hN;clear hN N)))
  exact di (b:=false) (.inl rfl) (sd @Nat.zero_add) (il fun h=>by
   have h3:=h.some
   have h4:=h.qq
   rw[j7 ⟨ad,ad⟩]at h2;cases h2)
theorem y6 {α:Type} {p:α->Bool} {xs:List α} {k:Nat} (hk:k<xs.length) (h1:p xs[k]=true) (h2:∀j (h:j<xs.length),j<k->p xs[j]=false):mc p xs=k:=by
 have:xs.findIdx p=k:=by rw[List.findIdx_eq hk];exact⟨h1,fun j hj=>h2 j ad hj⟩
 rw[mc,this,if_pos hk]
theorem Ch {α:Type} {p:α->Bool} {xs:List α} (h:∀j (h:j<xs.length),p xs[j]=false):mc p xs= -1:=by
 rw[mc,if_neg]
 rw[List.findIdx_lt_length]
 rintro⟨x,hx,Vk⟩
 obtain⟨j,hj,rfl⟩:=List.getElem_of_mem hx
 rw[h j hj]at Vk;cases Vk
theorem Dz {s:ay} {i:Nat} (h:i<s.aQ.length):qk s i=s.aQ[i]:=by simp[qk,List.getD_eq_getElem?_getD,h]
theorem Es {s:ay} {i:Nat} (h:i<s.ai.length):mK s i=s.ai[i]:=by simp[mK,List.getD_eq_getElem?_getD,h]
def PY (s:ay) (n:ByteArray):Int:=mc (fun g:ig=>decide (g.bW=n)) s.aQ
def TC (s:ay) (n:ByteArray):Int:=mc (fun t:dD=>decide (t.bW=n)) s.ai
theorem Lk (s:ay) (nm:ByteArray):ax Tryz.prog 111 [.er (ae s),.str nm] (.int .i64 (PY s nm+1)):=by
 refine ax.body fW rfl fun hl n0=>?_
 have hlen:s.aQ.length<=9223372036854775807:=by
  have h1:=(hl (.er (ae s)) (by simp)).Gd (a:=.sl (s.aQ.map ej)) (by simp[ae])
  simpa using h1.len
 clear hl
 (try((repeat(revert N;apply Pn.out));refine wk @ae.eq_1 ?_;(repeat(apply Pn.mk;intro N hN))))
 refine cm (fun n env st=>∃k:Nat,n=(s.aQ.length)-k/\k<=(s.aQ.length)/\env 5=.int .i64 (k:Int)/\(∀j:Nat,j<k->∀h:j<s.aQ.length,decide (s.aQ[j].bW=nm)=false)) (s.aQ.length) ⟨0,ad,ad,sl @ae.eq_1,fun _ h=>absurd h (Nat.not_lt_zero _)⟩ ?_
 rintro n_a env_a st_a ⟨k,rfl,ale,a5,qJ⟩ eJ
 have a0:=eJ 0 (by kernel_rfl);have a1:=eJ 1 (by kernel_rfl)
 simp only[go_sem, ↓reduceIte,Nat.reduceEqDiff,Nat.reduceAdd,Nat.reduceSub,Nat.reduceLeDiff,reduceCtorEq,ae]at a0 a1
 clear eJ
 by_cases hk:(k:Int)<(s.aQ.length:Int)
 ·have eh:∀{e:Env},(e 5=.int .i64 (IntKind.i64.wrap ((k:Int)+1)))->(∀h:k<s.aQ.length,decide (s.aQ[k].bW=nm)=false)->∃m0,m0<(s.aQ.length)-k/\∃k:Nat,m0=(s.aQ.length)-k/\k<=(s.aQ.length)/\e 5=.int .i64 (k:Int)/\(∀j:Nat,j<k->∀h:j<s.aQ.length,decide (s.aQ[j].bW=nm)=false):=fun x1 x2=>⟨_,ad,k+1,rfl,ad,(by rw[x1,aX ad]),(all_succ qJ x2)⟩
  have ji:k<s.aQ.length:=ad
  have gx:=DD ji
  have e:=Dz ji
  cases hd:decide ((qk s k).bW=nm)
  ·have hd':=of_decide_eq_false hd
   (try((repeat(revert N;apply Pn.out));refine wk (tw @a5 (tw @a0 (tw @a1 (tw @hk (tw @gx (tw @hd' (tw @hd (tw @ej.eq_1 @ae.eq_1)))))))) ?_;(repeat(apply Pn.mk;intro N hN))))
   exact eh (sd (tw @a5 (tw @a0 @a1))) (fun _=>by rw[e]at hd;exact hd)
  ·have hd':=of_decide_eq_true hd
   have hw:IntKind.i64.wrap ((k:Int)+1)=(k:Int)+1:=dj ad
   (try((repeat(revert N;apply Pn.out));refine wk (tw @a5 (tw @a0 (tw @a1 (tw @hk (tw @gx (tw @hd (tw @hw (tw @ej.eq_1 @ae.eq_1)))))))) ?_;(repeat(apply Pn.mk;intro N hN))))
   exact eQ (b:=(k:Int)+1) (.inl rfl) (sd @Nat.zero_add) (by rw[PY,y6 ji (by rw[e]at hd;exact hd) fun j h hj=>qJ j hj h])
 ·(try((repeat(revert N;apply Pn.out));refine wk (tw @a5 (tw @a0 (tw @a1 (tw @hk @ae.eq_1)))) ?_;(repeat(apply Pn.mk;intro N hN))))
  exact eQ (b:=0) (.inl rfl) (sd @Nat.zero_add) (by rw[PY,Ch fun j h=>qJ j ad h];rfl)
theorem Ll (s:ay) (nm:ByteArray):ax Tryz.prog 112 [.er (ae s),.str nm] (.int .i64 (TC s nm)):=by
 refine ax.body fW rfl fun hl n0=>?_
 have hlen:s.ai.length<=9223372036854775807:=by
  have h1:=(hl (.er (ae s)) (by simp)).Gd (a:=.sl (s.ai.map du)) (by simp[ae])
  simpa using h1.len
 clear hl
 (try((repeat(revert N;apply Pn.out));refine wk @ae.eq_1 ?_;(repeat(apply Pn.mk;intro N hN))))
 refine cm (fun n env st=>∃k:Nat,n=(s.ai.length)-k/\k<=(s.ai.length)/\env 5=.int .i64 (k:Int)/\(∀j:Nat,j<k->∀h:j<s.ai.length,decide (s.ai[j].bW=nm)=false)) (s.ai.length) ⟨0,ad,ad,sl @ae.eq_1,fun _ h=>absurd h (Nat.not_lt_zero _)⟩ ?_
 rintro n_a env_a st_a ⟨k,rfl,ale,a5,qJ⟩ eJ
 have a0:=eJ 0 (by kernel_rfl);have a1:=eJ 1 (by kernel_rfl)
 simp only[go_sem, ↓reduceIte,Nat.reduceEqDiff,Nat.reduceAdd,Nat.reduceSub,Nat.reduceLeDiff,reduceCtorEq,ae]at a0 a1
 clear eJ
 by_cases hk:(k:Int)<(s.ai.length:Int)
 ·have eh:∀{e:Env},(e 5=.int .i64 (IntKind.i64.wrap ((k:Int)+1)))->(∀h:k<s.ai.length,decide (s.ai[k].bW=nm)=false)->∃m0,m0<(s.ai.length)-k/\∃k:Nat,m0=(s.ai.length)-k/\k<=(s.ai.length)/\e 5=.int .i64 (k:Int)/\(∀j:Nat,j<k->∀h:j<s.ai.length,decide (s.ai[j].bW=nm)=false):=fun x1 x2=>⟨_,ad,k+1,rfl,ad,(by rw[x1,aX ad]),(all_succ qJ x2)⟩
  have ji:k<s.ai.length:=ad
  have gx:=Et ji
  have e:=Es ji
  cases hd:decide ((mK s k).bW=nm)
  ·(try((repeat(revert N;apply Pn.out));refine wk (tw @a5 (tw @a0 (tw @a1 (tw @hk (tw @gx (tw @hd (tw @du.eq_1 @ae.eq_1))))))) ?_;(repeat(apply Pn.mk;intro N hN))))
   exact eh (sd (tw @a5 (tw @a0 @a1))) (fun _=>by rw[e]at hd;exact hd)
  ·(try((repeat(revert N;apply Pn.out));refine wk (tw @a5 (tw @a0 (tw @a1 (tw @hk (tw @gx (tw @hd (tw @du.eq_1 @ae.eq_1))))))) ?_;(repeat(apply Pn.mk;intro N hN))))
   exact eQ (b:=(k:Int)) (.inl rfl) (sd @Nat.zero_add) (by rw[TC,y6 ji (by rw[e]at hd;exact hd) fun j h hj=>qJ j hj h])
 ·(try((repeat(revert N;apply Pn.out));refine wk (tw @a5 (tw @a0 (tw @a1 (tw @hk @ae.eq_1)))) ?_;(repeat(apply Pn.mk;intro N hN))))
  exact eQ (b:=-1) (.inl rfl) (sd @Nat.zero_add) (by rw[TC,Ch fun j h=>qJ j ad h])
theorem Ux {s:ay} {i:Nat} (h:i<s.aQ.length):PY s (qk s i).bW=i↔∀j,j<i->(qk s j).bW≠(qk s i).bW:=by
 constructor
 ·intro he j hj hc
  have iP:j<s.aQ.length:=ad
  have:s.aQ.findIdx (fun g:ig=>decide (g.bW=(qk s i).bW))<=j:=by
   rcases Nat.lt_or_ge j (s.aQ.findIdx fun g:ig=>decide (g.bW=(qk s i).bW))with eP|nk
   ·have:=List.not_of_lt_findIdx eP
    rw[<-Dz iP]at this
    simp[hc]at this
   ·exact nk
  unfold PY mc at he
  split at he<;>omega
 ·intro hd
  exact y6 h (by rw[<-Dz h];simp) fun j iP hj=>by rw[<-Dz iP];simpa using hd j hj
theorem Wh {s:ay} {i:Nat} (h:i<s.ai.length):TC s (mK s i).bW=i↔∀j,j<i->(mK s j).bW≠(mK s i).bW:=by
 constructor
 ·intro he j hj hc
  have iP:j<s.ai.length:=ad
  have:s.ai.findIdx (fun g:dD=>decide (g.bW=(mK s i).bW))<=j:=by
   rcases Nat.lt_or_ge j (s.ai.findIdx fun g:dD=>decide (g.bW=(mK s i).bW))with eP|nk
   ·have:=List.not_of_lt_findIdx eP
    rw[<-Es iP]at this
    simp[hc]at this
   ·exact nk
  unfold TC mc at he
  split at he<;>omega
 ·intro hd
  exact y6 h (by rw[<-Es h];simp) fun j iP hj=>by rw[<-Es iP];simpa using hd j hj
theorem Rt (s:ay) (hn:kE s) (hg:s.aQ.length<=1048576) (ht:s.ai.length<=1048576):ax Tryz.prog 62 [.er (ae s)] (.bool (wc s)):=by
 refine ax.body fW rfl fun hl n0=>?_
 clear hl
 have Za:∀i,i<s.aQ.length->(qk s i).bW.size<=9223372036854775807:=fun i hi=>hn.1 _ (by simp[qk,List.getD_eq_getElem?_getD,hi])
 have ZB:∀i,i<s.ai.length->(mK s i).bW.size<=9223372036854775807:=fun i hi=>hn.2 _ (by simp[mK,List.getD_eq_getElem?_getD,hi])
 by_cases h1:(200:Int)<(s.aQ.length:Int)
 ·(try((repeat(revert N;apply Pn.out));refine wk (tw @ae.eq_1 @h1) ?_;(repeat(apply Pn.mk;intro N hN))))
  exact di (b:=false) (.inl rfl) (sd @Nat.zero_add) (il fun h=>by have:=h.mu;omega)
 by_cases h2:(s.ai.length:Int)<1
 ·(try((repeat(revert N;apply Pn.out));refine wk (tw @ae.eq_1 (tw @h1 @h2)) ?_;(repeat(apply Pn.mk;intro N hN))))
  exact di (b:=false) (.inl rfl) (sd @Nat.zero_add) (il fun h=>by have:=h.some;omega)
 by_cases h3:(160:Int)<(s.ai.length:Int)
 ·(try((repeat(revert N;apply Pn.out));refine wk (tw @ae.eq_1 (tw @h1 (tw @h2 @h3))) ?_;(repeat(apply Pn.mk;intro N hN))))
  exact di (b:=false) (.inl rfl) (sd @Nat.zero_add) (il fun h=>by have:=h.qq;omega)
 (try((repeat(revert N;apply Pn.out));refine wk (tw @ae.eq_1 (tw @h1 (tw @h2 @h3))) ?_;(repeat(apply Pn.mk;intro N hN))))
 refine cm (fun n env st=>∃k:Nat,n=(s.aQ.length)-k/\k<=(s.aQ.length)/\env 3=.int .i64 (k:Int)/\(∀j:Nat,j<k->Ho s j)) (s.aQ.length) ⟨0,ad,ad,sl @ae.eq_1,fun _ h=>absurd h (Nat.not_lt_zero _)⟩ ?_
 rintro n_a env_a st_a ⟨k,rfl,ale,a3,qJ⟩ eJ
 have a0:=eJ 0 (by kernel_rfl)
 simp only[go_sem, ↓reduceIte,Nat.reduceEqDiff,Nat.reduceAdd,Nat.reduceSub,Nat.reduceLeDiff,reduceCtorEq,ae]at a0
 clear eJ
 by_cases hk:(k:Int)<(s.aQ.length:Int)
 ·have eh:∀{e:Env},(e 3=.int .i64 (IntKind.i64.wrap ((k:Int)+1)))->(Ho s k)->∃m0,m0<(s.aQ.length)-k/\∃k:Nat,m0=(s.aQ.length)-k/\k<=(s.aQ.length)/\e 3=.int .i64 (k:Int)/\(∀j:Nat,j<k->Ho s j):=fun x1 x2=>⟨_,ad,k+1,rfl,ad,(by rw[x1,aX ad]),(all_succ qJ x2)⟩
  have ji:k<s.aQ.length:=ad
  have gx:=DD ji
  have tQ:=J9 (qk s k).bW (Za k ji)
  have Qe:=mJ (qk s k).gR 1 4
  have He:=Lk s (qk s k).bW
  have ve:=Ux ji
  have mH:(¬Ho s k)->¬gL s:=fun h hp=>h (hp.Xw k ji)
  have hw:IntKind.i64.wrap ((k:Int)+1)=(k:Int)+1:=dj ad
  generalize qL:qk s k=gl at *
  cases hb:iY gl.bW
  ·rw[hb]at tQ
   (have zF:=tw @a3 (tw @a0 (tw @hk (tw @gx (tw @ej.eq_1 @ae.eq_1))));(repeat(first|((repeat(revert N;apply Pn.out));refine wk zF ?_;(repeat(apply Pn.mk;intro N hN)))|((try apply Or.inl);refine⟨_,ax.x (tQ) (sd zF),?_⟩;apply hN;clear hN N)));try clear zF)
   exact di (b:=false) (.inl rfl) (sd @Nat.zero_add) (il (mH fun h=>by rw[Ho,qL,hb]at h;cases h.1))
  rw[hb]at tQ
  cases eA:iW gl.gR 1 4
  ·rw[eA]at Qe
   (have zF:=tw @a3 (tw @a0 (tw @hk (tw @gx (tw @ej.eq_1 @ae.eq_1))));(repeat(first|((repeat(revert N;apply Pn.out));refine wk zF ?_;(repeat(apply Pn.mk;intro N hN)))|((try apply Or.inl);refine⟨_,ax.x (tQ) (sd zF),?_⟩;apply hN;clear hN N)|((try apply Or.inl);refine⟨_,ax.x (Qe) (sd zF),?_⟩;apply hN;clear hN N)));try clear zF)
   exact di (b:=false) (.inl rfl) (sd @Nat.zero_add) (il (mH fun h=>by rw[Ho,qL,eA]at h;cases h.2.1))
  rw[eA]at Qe
  rw[ae]at He
  by_cases hq:PY s gl.bW=(k:Int)
  ·have hd:decide (PY s gl.bW+1=(k:Int)+1)=true:=decide_eq_true ad
   have oi:decide (PY s gl.bW=(k:Int))=true:=decide_eq_true hq
   (have zF:=tw @a3 (tw @a0 (tw @hk (tw @gx (tw @hw (tw @hd (tw @oi (tw @ej.eq_1 @ae.eq_1)))))));(repeat(first|((repeat(revert N;apply Pn.out));refine wk zF ?_;(repeat(apply Pn.mk;intro N hN)))|((try apply Or.inl);refine⟨_,ax.x (tQ) (sd zF),?_⟩;apply hN;clear hN N)|((try apply Or.inl);refine⟨_,ax.x (Qe) (sd zF),?_⟩;apply hN;clear hN N)|((try apply Or.inl);refine⟨_,ax.x (He) (sd zF),?_⟩;apply hN;clear hN N)));try clear zF)
   exact eh (sd (tw @a3 (tw @a0 @hw))) (⟨by rw[qL];exact hb,by rw[qL];exact eA,fun j hj=>by rw[qL];exact ve.1 hq j hj⟩)
  ·have hd:decide (PY s gl.bW+1=(k:Int)+1)=false:=decide_eq_false ad
   have oi:decide (PY s gl.bW=(k:Int))=false:=decide_eq_false hq
   (have zF:=tw @a3 (tw @a0 (tw @hk (tw @gx (tw @hw (tw @hd (tw @oi (tw @ej.eq_1 @ae.eq_1)))))));(repeat(first|((repeat(revert N;apply Pn.out));refine wk zF ?_;(repeat(apply Pn.mk;intro N hN)))|((try apply Or.inl);refine⟨_,ax.x (tQ) (sd zF),?_⟩;apply hN;clear hN N)|((try apply Or.inl);refine⟨_,ax.x (Qe) (sd zF),?_⟩;apply hN;clear hN N)|((try apply Or.inl);refine⟨_,ax.x (He) (sd zF),?_⟩;apply hN;clear hN N)));try clear zF)
   exact di (b:=false) (.inl rfl) (sd @Nat.zero_add) (il (mH fun h=>by
    rw[Ho,qL]at h
    exact hq (ve.2 h.2.2)))
 ·have lk:k=s.aQ.length:=ad
  (try((repeat(revert N;apply Pn.out));refine wk (tw @a3 (tw @a0 (tw @hk @ae.eq_1))) ?_;(repeat(apply Pn.mk;intro N hN))))
  refine cm (fun n env st=>∃j:Nat,n=(s.ai.length)-j/\j<=(s.ai.length)/\env 5=.int .i64 (j:Int)/\(∀i:Nat,i<j->EZ s i)) (s.ai.length) ⟨0,ad,ad,sl (tw @a3 (tw @a0 @ae.eq_1)),fun _ h=>absurd h (Nat.not_lt_zero _)⟩ ?_
  rintro n_b env_b st_b ⟨j,rfl,ble,b5,bA0⟩ fb
  have b0:=fb 0 (by kernel_rfl)
  simp only[go_sem, ↓reduceIte,Nat.reduceEqDiff,Nat.reduceAdd,Nat.reduceSub,Nat.reduceLeDiff,reduceCtorEq,a3,a0,ae]at b0
  clear fb
  by_cases hj:(j:Int)<(s.ai.length:Int)
  ·have fS:∀{e:Env},(e 5=.int .i64 (IntKind.i64.wrap ((j:Int)+1)))->(EZ s j)->∃m0,m0<(s.ai.length)-j/\∃j:Nat,m0=(s.ai.length)-j/\j<=(s.ai.length)/\e 5=.int .i64 (j:Int)/\(∀i:Nat,i<j->EZ s i):=fun x1 x2=>⟨_,ad,j+1,rfl,ad,(by rw[x1,aX ad]),(all_succ bA0 x2)⟩
   have oU:j<s.ai.length:=ad
   have ox:=Et oU
   have tQ:=J9 (mK s j).bW (ZB j oU)
   have He:=Ll s (mK s j).bW
   have ve:=Wh oU
   have mH:(¬EZ s j)->¬gL s:=fun h hp=>h (hp.tok j oU)
   generalize htd:mK s j=tl at *
   cases hb:iY tl.bW
   ·rw[hb]at tQ
    (have zF:=tw @b5 (tw @b0 (tw @hj (tw @ox (tw @du.eq_1 @ae.eq_1))));(repeat(first|((repeat(revert N;apply Pn.out));refine wk zF ?_;(repeat(apply Pn.mk;intro N hN)))|((try apply Or.inl);refine⟨_,ax.x (tQ) (sd zF),?_⟩;apply hN;clear hN N)));try clear zF)
    exact di (b:=false) (.inl rfl) (sd @Nat.zero_add) (il (mH fun h=>by rw[EZ,htd,hb]at h;cases h.1))
   rw[hb]at tQ
   by_cases h4:(tl.de.length:Int)=4
   ·have DF:decide ((tl.de.length:Int)=4)=true:=decide_eq_true h4
    rw[ae]at He
    by_cases hq:TC s tl.bW=(j:Int)
    ·have hd:decide (TC s tl.bW=(j:Int))=true:=decide_eq_true hq
     (have zF:=tw @b5 (tw @b0 (tw @hj (tw @ox (tw @DF (tw @hd (tw @du.eq_1 @ae.eq_1))))));(repeat(first|((repeat(revert N;apply Pn.out));refine wk zF ?_;(repeat(apply Pn.mk;intro N hN)))|((try apply Or.inl);refine⟨_,ax.x (tQ) (sd zF),?_⟩;apply hN;clear hN N)|((try apply Or.inl);refine⟨_,ax.x (He) (sd zF),?_⟩;apply hN;clear hN N)));try clear zF)
     refine cm (fun n env st=>∃i:Nat,n=(4)-i/\i<=(4)/\env 7=.int .i64 (i:Int)/\st.get ⟨62012007,st_b.next+1⟩=some ⟨true,2,[du tl]⟩/\(∀x:Nat,x<i->iW (tl.de.getD x 0) 0 s.aQ.length=true)) (4) ⟨0,ad,ad,sl (tw @b5 (tw @b0 (tw @du.eq_1 @ae.eq_1))),sl (tw @b5 (tw @b0 (tw @du.eq_1 @ae.eq_1))),fun _ h=>absurd h (Nat.not_lt_zero _)⟩ ?_
     rintro n_c env_c st_c ⟨i,rfl,cle,c7,cg0,cA0⟩ jA
     have c0:=jA 0 (by kernel_rfl);have c5:=jA 5 (by kernel_rfl);have c6:=jA 6 (by kernel_rfl)
     simp only[go_sem, ↓reduceIte,Nat.reduceEqDiff,Nat.reduceAdd,Nat.reduceSub,Nat.reduceLeDiff,reduceCtorEq,b5,b0,du,ae]at c0 c5 c6
     clear jA
     by_cases hi:(i:Int)<4
     ·have iL:∀{e:Env} {gg:Rows},(e 7=.int .i64 (IntKind.i64.wrap ((i:Int)+1)))->(gg ⟨62012007,st_b.next+1⟩=some ⟨true,2,[du tl]⟩)->(iW (tl.de.getD i 0) 0 s.aQ.length=true)->∃m0,m0<(4)-i/\∃i:Nat,m0=(4)-i/\i<=(4)/\e 7=.int .i64 (i:Int)/\gg ⟨62012007,st_b.next+1⟩=some ⟨true,2,[du tl]⟩/\(∀x:Nat,x<i->iW (tl.de.getD x 0) 0 s.aQ.length=true):=fun x1 x2 x3=>⟨_,ad,i+1,rfl,ad,(by rw[x1,aX ad]),x2,(all_succ cA0 x3)⟩
      have gS:i<tl.de.length:=ad
      have jZ:(tl.de.map aL)[i]? =some (aL (tl.de.getD i 0)):=getD_map aL gS
      have pN:tl.de.getD i 0∈tl.de:=by rw[List.getD_eq_getElem?_getD,List.getElem?_eq_getElem gS];exact List.getElem_mem gS
      have FV:=mJ (tl.de.getD i 0) 0 s.aQ.length
      generalize U5:tl.de.getD i 0=gv at *
      cases hv:iW gv 0 s.aQ.length
      ·rw[hv]at FV
       (have zF:=tw @c7 (tw @cg0 (tw @c0 (tw @c5 (tw @c6 (tw @hi (tw @jZ (tw @aL.eq_1 (tw @du.eq_1 @ae.eq_1))))))));(repeat(first|((repeat(revert N;apply Pn.out));refine wk zF ?_;(repeat(apply Pn.mk;intro N hN)))|((try apply Or.inl);refine⟨_,ax.x (FV) (sd zF),?_⟩;apply hN;clear hN N)));try clear zF)
       exact di (b:=false) (.inl rfl) (sd @Nat.zero_add) (il (mH fun h=>by
        rw[EZ,htd]at h
        have:=h.2.2.2 gv pN
        rw[hv]at this;cases this))
      ·rw[hv]at FV
       (have zF:=tw @c7 (tw @cg0 (tw @c0 (tw @c5 (tw @c6 (tw @hi (tw @jZ (tw @aL.eq_1 (tw @du.eq_1 @ae.eq_1))))))));(repeat(first|((repeat(revert N;apply Pn.out));refine wk zF ?_;(repeat(apply Pn.mk;intro N hN)))|((try apply Or.inl);refine⟨_,ax.x (FV) (sd zF),?_⟩;apply hN;clear hN N)));try clear zF)
       refine iL ?_ ?_ (hv)
       all_goals simp only[go_sem, ↓reduceIte,Nat.reduceEqDiff,Nat.reduceAdd,Nat.reduceSub,Nat.reduceLeDiff,reduceCtorEq,c7,cg0,c0,c5,c6]
     ·have hi4:i=4:=ad
      (try((repeat(revert N;apply Pn.out));refine wk (tw @c7 (tw @cg0 (tw @c0 (tw @c5 (tw @c6 (tw @hi (tw @du.eq_1 @ae.eq_1))))))) ?_;(repeat(apply Pn.mk;intro N hN))))
      exact fS (sd (tw @b5 (tw @b0 (tw @c7 (tw @cg0 (tw @c0 (tw @c5 @c6))))))) (⟨by rw[htd];exact hb,by rw[htd];omega,fun x hx=>(by rw[htd];exact ve.1 hq x hx),fun g hg=>by
       rw[htd]at hg
       obtain⟨x,hx,rfl⟩:=List.getElem_of_mem hg
       have:=cA0 x ad
       rwa [List.getD_eq_getElem?_getD,List.getElem?_eq_getElem hx]at this⟩)
    ·have hd:decide (TC s tl.bW=(j:Int))=false:=decide_eq_false hq
     (have zF:=tw @b5 (tw @b0 (tw @hj (tw @ox (tw @DF (tw @hd (tw @du.eq_1 @ae.eq_1))))));(repeat(first|((repeat(revert N;apply Pn.out));refine wk zF ?_;(repeat(apply Pn.mk;intro N hN)))|((try apply Or.inl);refine⟨_,ax.x (tQ) (sd zF),?_⟩;apply hN;clear hN N)|((try apply Or.inl);refine⟨_,ax.x (He) (sd zF),?_⟩;apply hN;clear hN N)));try clear zF)
     exact di (b:=false) (.inl rfl) (sd @Nat.zero_add) (il (mH fun h=>by
      rw[EZ,htd]at h
      exact hq (ve.2 h.2.2.1)))
   ·have DF:decide ((tl.de.length:Int)=4)=false:=decide_eq_false h4
    (have zF:=tw @b5 (tw @b0 (tw @hj (tw @ox (tw @DF (tw @du.eq_1 @ae.eq_1)))));(repeat(first|((repeat(revert N;apply Pn.out));refine wk zF ?_;(repeat(apply Pn.mk;intro N hN)))|((try apply Or.inl);refine⟨_,ax.x (tQ) (sd zF),?_⟩;apply hN;clear hN N)));try clear zF)
    exact di (b:=false) (.inl rfl) (sd @Nat.zero_add) (il (mH fun h=>by rw[EZ,htd]at h;have:=h.2.1;omega))
  ·(try((repeat(revert N;apply Pn.out));refine wk (tw @b5 (tw @b0 (tw @hj @ae.eq_1))) ?_;(repeat(apply Pn.mk;intro N hN))))
   exact di (b:=true) (.inl rfl) (sd @Nat.zero_add) (GR ⟨ad,ad,ad,fun i hi=>qJ i ad,fun i hi=>bA0 i ad⟩)
def jN (a b:aq):Bool:=decide (a.fw<b.fw)||(decide (a.fw=b.fw)&&decide (a.fE<b.fE))
theorem ze {a b:aq}:jN a b=true↔a.fw<b.fw∨(a.fw=b.fw/\a.fE<b.fE):=by simp[jN]
theorem pe {a b:aq}:jN a b=false↔¬(a.fw<b.fw∨(a.fw=b.fw/\a.fE<b.fE)):=by rw[<-ze,Bool.not_eq_true]
theorem AM {a b:aq} (h1:a.fE=b.fE) (h2:a.fw=b.fw):a=b:=by cases a;cases b;simp_all
theorem iX {a b c:aq} (h:jN a b=true) (k:jN b c=true):jN a c=true:=by rw[ze]at *;omega
theorem iU {a:aq}:jN a a=false:=by rw[pe];omega
theorem Gr {a b:aq} (h:jN a b=true):jN b a=false:=by rw[ze]at h;rw[pe];omega
theorem zf {a b:aq} (h:jN a b=false) (hZ:a≠b):jN b a=true:=by
 rw[pe]at h;rw[ze]
 by_cases hy:a.fw=b.fw
 ·by_cases hx:a.fE=b.fE
  ·exact absurd (AM hx hy) hZ
  ·omega
 ·omega
def uR (a b:Int):Int:=if a<b then -1 else if b<a then 1 else 0
def RQ (a b:Int):Int:=if a=0 then b else a
def qV (a b:aq):Int:=RQ (uR a.fw b.fw) (uR a.fE b.fE)
theorem n9 (a b:aq):decide (qV a b<0)=jN a b:=by
 unfold qV RQ uR jN
 by_cases h1:a.fw<b.fw
 ·simp[h1]
 ·by_cases h2:b.fw<a.fw
  ·have:¬a.fw=b.fw:=ad
   simp[h1,h2,this]
  ·have:a.fw=b.fw:=ad
   by_cases h3:a.fE<b.fE
   ·simp[h1,h2,this,h3]
   ·by_cases h4:b.fE<a.fE<;>simp[h1,h2,this,h3,h4]
theorem KG (a b:aq):(qV a b=0)↔a=b:=by
 cases a;cases b
 unfold qV RQ uR
 simp only[aq.mk.injEq]
 split<;>(try split)<;>(try split)<;>(try split)<;>omega
def OI:aa:=⟨⟨0,0⟩,0⟩
def bh (l:List aa) (i:Nat):aa:=l.getD i OI
theorem gn {l:List aa} {i:Nat} (h:i<l.length):bh l i=l[i]:=by simp[bh,List.getD_eq_getElem?_getD,h]
theorem gG {l:List aa} {i:Nat} (h:i<l.length):bh l i∈l:=by rw[gn h];exact List.getElem_mem h
def mD (l:List aa):Prop:=∀i j:Nat,i<j->j<l.length->jN (bh l i).bf (bh l j).bf=true
def s6 (l:List aa) (p:aq):Nat:=l.findIdx fun c=>decide (c.bf=p)
def eO (l:List aa) (p:aq):Int:=if s6 l p<l.length then(s6 l p:Int)else -1
def pd (l:List aa) (p:aq):Nat:=l.findIdx fun c=> !jN c.bf p
theorem DW {l:List aa} {p:aq} {i:Nat} (hi:i<=l.length) (h1:∀x,x<i->jN (bh l x).bf p=true) (h2:i<l.length->jN (bh l i).bf p=false):pd l p=i:=by
 unfold pd
 by_cases h:i<l.length
 ·rw[List.findIdx_eq h]
  refine⟨by have:=h2 h;rw[gn h]at this;simp[this],fun j hj=>?_⟩
  have:=h1 j hj
  rw[gn ad]at this
  simp[this]
 ·have:i=l.length:=ad
  subst this
  refine List.findIdx_eq_length_of_false fun x hx=>?_
  obtain⟨j,hj,rfl⟩:=List.getElem_of_mem hx
  have:=h1 j hj
  rw[gn hj]at this
  simp[this]
theorem DZ {l:List aa} {p:aq} (hR:mD l):eO l p=if pd l p<l.length/\(bh l (pd l p)).bf=p then(pd l p:Int)else -1:=by
 by_cases h:∃i,i<l.length/\(bh l i).bf=p
 ·obtain⟨i,hi,hp⟩:=h
  have h1:pd l p=i:=DW ad (fun x hx=>by rw[<-hp];exact hR x i hx hi) fun _=>by rw[hp];exact iU
  have h2:s6 l p=i:=by
   rw[s6,List.findIdx_eq hi]
   refine⟨by rw[gn hi]at hp;simpa using hp,fun j hj=>?_⟩
   have:=hR j i hj hi
   rw[hp,gn ad]at this
   simp only[decide_eq_false_iff_not]
   intro hc
   rw[hc,iU]at this
   cases this
  rw[eO,h1,h2,if_pos hi,if_pos ⟨hi,hp⟩]
 ·have h2:¬s6 l p<l.length:=by
   rw[s6,List.findIdx_lt_length]
   rintro⟨c,hc,he⟩
   obtain⟨j,hj,rfl⟩:=List.getElem_of_mem hc
   exact h ⟨j,hj,by rw[gn hj];simpa using he⟩
  rw[eO,if_neg h2,if_neg]
  rintro⟨h3,h4⟩
  exact h ⟨_,h3,h4⟩
theorem j3 {l:List aa} {p:aq} (h:0<=eO l p):(eO l p).toNat<l.length/\(bh l (eO l p).toNat).bf=p:=by
 unfold eO at h ⊢
 split at h
 ·rename_i hc
  rw[if_pos hc]
  refine⟨ad,?_⟩
  have:=of_decide_eq_true (List.findIdx_getElem (p:=fun c:aa=>decide (c.bf=p)) (xs:=l) (w:=hc))
  rw[Int.toNat_natCast,gn hc]
  exact this
 ·omega
def fy (l:List aa) (p:aq):Int:=if 0<=eO l p then(bh l (eO l p).toNat).bc else -1
theorem nY (a b:aq):ax Tryz.prog 81 [.agg (ah a),.agg (ah b)] (.bool (jN a b)):=by
 refine ax.body fW rfl fun hl n0=>?_
 clear hl
 by_cases h0:a.fw<b.fw
 ·(try((repeat(revert N;apply Pn.out));refine wk (tw @ah.eq_1 @h0) ?_;(repeat(apply Pn.mk;intro N hN))))
  exact di (b:=true) (.inl rfl) (sd @Nat.zero_add) (by simp[jN,h0])
 ·by_cases h1:a.fw=b.fw
  ·have h2:¬b.fw<b.fw:=ad
   (try((repeat(revert N;apply Pn.out));refine wk (tw @ah.eq_1 (tw @h1 @h2)) ?_;(repeat(apply Pn.mk;intro N hN))))
   exact di (b:=decide (a.fE<b.fE)) (.inl rfl) (sd @Nat.zero_add) (by simp[jN,h1])
  ·(try((repeat(revert N;apply Pn.out));refine wk (tw @ah.eq_1 (tw @h0 @h1)) ?_;(repeat(apply Pn.mk;intro N hN))))
   exact di (b:=false) (.inl rfl) (sd @Nat.zero_add) (by simp[jN,h0,h1])
theorem gK {l:List aa} {i:Nat} (h:i<l.length):(l.map ab)[i]? =some (ab (bh l i)):=getD_map ab h
def Hq (l:List aa) (i:Nat):Prop:=yQ (bh l i).bf=true/\iW (bh l i).bc 0 159=true/\(0<i->jN (bh l (i-1)).bf (bh l i).bf=true)
structure mm (l:List aa):Prop where
 xR:l.length<=500
 ok:∀i,i<l.length->Hq l i
noncomputable def qj (l:List aa):Bool:=@decide (mm l) (Classical.propDecidable _)
theorem w7 {l:List aa}:qj l=true↔mm l:=by simp[qj]
theorem lU {l:List aa} (h:¬mm l):false=qj l:=by simp[qj,h]
theorem Cj {l:List aa} (h:mm l):true=qj l:=by simp[qj,h]
theorem mm.Br {l:List aa} (h:mm l):mD l:=by
 intro i j Ct hj
 induction j with
 |zero=>omega
 |succ j ih=>
  have h1:=(h.ok (j+1) hj).2.2 ad
  rw[Nat.add_sub_cancel]at h1
  by_cases he:i=j
  ·subst he;exact h1
  ·exact iX (ih ad ad) h1
theorem mm.pt {l:List aa} (h:mm l) {i:Nat} (hi:i<l.length):yQ (bh l i).bf=true:=(h.ok i hi).1
theorem uj {p:aq} (h:yQ p=true):iB p.fE/\iB p.fw:=by
 unfold yQ at h
 simp only[Bool.and_eq_true]at h
 have:=eo h.1;have:=eo h.2
 unfold iB;omega
theorem Lm (l:List aa):ax Tryz.prog 35 [.er [.sl (l.map ab)]] (.bool (qj l)):=by
 refine ax.body fW rfl fun hl n0=>?_
 clear hl
 by_cases h1:(500:Int)<(l.length:Int)
 ·(try((repeat(revert N;apply Pn.out));refine wk @h1 ?_;(repeat(apply Pn.mk;intro N hN))))
  exact di (b:=false) (.inl rfl) (sd @Nat.zero_add) (lU fun h=>by have:=h.xR;omega)
 (try((repeat(revert N;apply Pn.out));refine wk @h1 ?_;(repeat(apply Pn.mk;intro N hN))))
 refine cm (fun n env st=>∃k:Nat,n=(l.length)-k/\k<=(l.length)/\env 3=.int .i64 (k:Int)/\(∀j:Nat,j<k->Hq l j)) (l.length) ⟨0,ad,ad,sl @Nat.zero_add,fun _ h=>absurd h (Nat.not_lt_zero _)⟩ ?_
 rintro n_a env_a st_a ⟨k,rfl,ale,a3,qJ⟩ eJ
 have a0:=eJ 0 (by kernel_rfl)
 simp only[go_sem, ↓reduceIte,Nat.reduceEqDiff,Nat.reduceAdd,Nat.reduceSub,Nat.reduceLeDiff,reduceCtorEq]at a0
 clear eJ
 by_cases hk:(k:Int)<(l.length:Int)
 ·have eh:∀{e:Env},(e 3=.int .i64 (IntKind.i64.wrap ((k:Int)+1)))->(Hq l k)->∃m0,m0<(l.length)-k/\∃k:Nat,m0=(l.length)-k/\k<=(l.length)/\e 3=.int .i64 (k:Int)/\(∀j:Nat,j<k->Hq l j):=fun x1 x2=>⟨_,ad,k+1,rfl,ad,(by rw[x1,aX ad]),(all_succ qJ x2)⟩
  have ji:k<l.length:=ad
  have gx:=gK ji
  have mH:(¬Hq l k)->¬mm l:=fun h hp=>h (hp.ok k ji)
  have hp:=Ap (bh l k).bf
  have ht:=mJ (bh l k).bc 0 159
  cases b1:yQ (bh l k).bf
  ·rw[b1]at hp
   (have zF:=tw @a3 (tw @a0 (tw @hk (tw @gx (tw @ab.eq_1 @ah.eq_1))));(repeat(first|((repeat(revert N;apply Pn.out));refine wk zF ?_;(repeat(apply Pn.mk;intro N hN)))|((try apply Or.inl);refine⟨_,ax.x (hp) (sd zF),?_⟩;apply hN;clear hN N)));try clear zF)
   exact di (b:=false) (.inl rfl) (sd @Nat.zero_add) (lU (mH fun h=>by rw[Hq,b1]at h;cases h.1))
  rw[b1]at hp
  cases b2:iW (bh l k).bc 0 159
  ·rw[b2]at ht
   (have zF:=tw @a3 (tw @a0 (tw @hk (tw @gx (tw @ab.eq_1 @ah.eq_1))));(repeat(first|((repeat(revert N;apply Pn.out));refine wk zF ?_;(repeat(apply Pn.mk;intro N hN)))|((try apply Or.inl);refine⟨_,ax.x (hp) (sd zF),?_⟩;apply hN;clear hN N)|((try apply Or.inl);refine⟨_,ax.x (ht) (sd zF),?_⟩;apply hN;clear hN N)));try clear zF)
   exact di (b:=false) (.inl rfl) (sd @Nat.zero_add) (lU (mH fun h=>by rw[Hq,b2]at h;cases h.2.1))
  rw[b2]at ht
  by_cases h0:(0:Int)<(k:Int)
  ·have wH:=gK (l:=l) (i:=k-1) ad
   have hw:IntKind.i64.wrap ((k:Int)-1)=((k-1:Nat):Int):=by rw[dj (by have:=ji;omega)];omega
   have hq:=nY (bh l (k-1)).bf (bh l k).bf
   cases b3:jN (bh l (k-1)).bf (bh l k).bf
   ·rw[b3]at hq
    (have zF:=tw @a3 (tw @a0 (tw @hk (tw @gx (tw @wH (tw @h0 (tw @hw (tw @ab.eq_1 @ah.eq_1)))))));(repeat(first|((repeat(revert N;apply Pn.out));refine wk zF ?_;(repeat(apply Pn.mk;intro N hN)))|((try apply Or.inl);refine⟨_,ax.x (hp) (sd zF),?_⟩;apply hN;clear hN N)|((try apply Or.inl);refine⟨_,ax.x (ht) (sd zF),?_⟩;apply hN;clear hN N)|((try apply Or.inl);refine⟨_,ax.x (hq) (sd zF),?_⟩;apply hN;clear hN N)));try clear zF)
    exact di (b:=false) (.inl rfl) (sd @Nat.zero_add) (lU (mH fun h=>by have:=h.2.2 ad;rw[b3]at this;cases this))
   ·rw[b3]at hq
    (have zF:=tw @a3 (tw @a0 (tw @hk (tw @gx (tw @wH (tw @h0 (tw @hw (tw @ab.eq_1 @ah.eq_1)))))));(repeat(first|((repeat(revert N;apply Pn.out));refine wk zF ?_;(repeat(apply Pn.mk;intro N hN)))|((try apply Or.inl);refine⟨_,ax.x (hp) (sd zF),?_⟩;apply hN;clear hN N)|((try apply Or.inl);refine⟨_,ax.x (ht) (sd zF),?_⟩;apply hN;clear hN N)|((try apply Or.inl);refine⟨_,ax.x (hq) (sd zF),?_⟩;apply hN;clear hN N)));try clear zF)
    exact eh (sd (tw @a3 @a0)) (⟨b1,b2,fun _=>b3⟩)
  ·have x8:k=0:=ad
   (have zF:=tw @a3 (tw @a0 (tw @hk (tw @gx (tw @h0 (tw @ab.eq_1 @ah.eq_1)))));(repeat(first|((repeat(revert N;apply Pn.out));refine wk zF ?_;(repeat(apply Pn.mk;intro N hN)))|((try apply Or.inl);refine⟨_,ax.x (hp) (sd zF),?_⟩;apply hN;clear hN N)|((try apply Or.inl);refine⟨_,ax.x (ht) (sd zF),?_⟩;apply hN;clear hN N)));try clear zF)
   exact eh (sd (tw @a3 @a0)) (⟨b1,b2,fun h=>ad⟩)
 ·(try((repeat(revert N;apply Pn.out));refine wk (tw @a3 (tw @a0 @hk)) ?_;(repeat(apply Pn.mk;intro N hN))))
  exact di (b:=true) (.inl rfl) (sd @Nat.zero_add) (Cj ⟨ad,fun i hi=>qJ i ad⟩)
theorem Cf (a b:Int):ax Tryz.prog 168 [.int .i64 a,.int .i64 b] (.int .i64 (uR a b)):=by
 have nan:∀x:Int,ax Tryz.prog 188 [.int .i64 x] (.bool false):=fun x=>by
  refine ax.body fW rfl fun hl n0=>?_
  clear hl
  have e:decide (x=x)=true:=decide_eq_true rfl
  (try((repeat(revert N;apply Pn.out));refine wk @e ?_;(repeat(apply Pn.mk;intro N hN))))
  exact di (b:=false) (.inl rfl) (sd @Nat.zero_add) rfl
 refine ax.body fW rfl fun hl n0=>?_
 clear hl
 have ha:=nan a
 have hb:=nan b
 by_cases h1:a<b
 ·(repeat(first|((repeat(revert N;apply Pn.out));refine wk @h1 ?_;(repeat(apply Pn.mk;intro N hN)))|((try apply Or.inl);refine⟨_,ax.x (ha) (sd @h1),?_⟩;apply hN;clear hN N)|((try apply Or.inl);refine⟨_,ax.x (hb) (sd @h1),?_⟩;apply hN;clear hN N)))
  exact eQ (b:=-1) (.inl rfl) (sd @Nat.zero_add) (by rw[uR,if_pos h1])
 by_cases h2:b<a
 ·(repeat(first|((repeat(revert N;apply Pn.out));refine wk (tw @h1 @h2) ?_;(repeat(apply Pn.mk;intro N hN)))|((try apply Or.inl);refine⟨_,ax.x (ha) (sd (tw @h1 @h2)),?_⟩;apply hN;clear hN N)|((try apply Or.inl);refine⟨_,ax.x (hb) (sd (tw @h1 @h2)),?_⟩;apply hN;clear hN N)))
  exact eQ (b:=1) (.inl rfl) (sd @Nat.zero_add) (by rw[uR,if_neg h1,if_pos h2])
 ·(repeat(first|((repeat(revert N;apply Pn.out));refine wk (tw @h1 @h2) ?_;(repeat(apply Pn.mk;intro N hN)))|((try apply Or.inl);refine⟨_,ax.x (ha) (sd (tw @h1 @h2)),?_⟩;apply hN;clear hN N)|((try apply Or.inl);refine⟨_,ax.x (hb) (sd (tw @h1 @h2)),?_⟩;apply hN;clear hN N)))
  exact eQ (b:=0) (.inl rfl) (sd @Nat.zero_add) (by rw[uR,if_neg h1,if_neg h2])
def MA:List Int->Int
 |[]=>0
 |a::r=>if a=0 then MA r else a
theorem ON:∀{l:List Int} {k:Nat} (hk:k<l.length),l[k]≠0->(∀j (h:j<l.length),j<k->l[j]=0)->MA l=l[k]
 |a::r,0,_,h,_=>by
  have h':a≠0:=h
  rw[MA,if_neg h'];rfl
 |a::r,k+1,hk,h,h0=>by
  have h':a=0:=h0 0 (by simp) ad
  rw[MA,if_pos h',ON (k:=k) (by simpa using hk) h fun j hj Cv=>h0 (j+1) (by simpa using hj) ad];rfl
theorem GG:∀{l:List Int},(∀j (h:j<l.length),l[j]=0)->MA l=0
 |[],_=>rfl
 |a::r,h=>by
  have h':a=0:=h 0 (by simp)
  rw[MA,if_pos h',GG fun j hj=>h (j+1) (by simpa using hj)]
theorem RS (a b:Int):MA [a,b]=RQ a b:=by
 unfold RQ
 by_cases h:a=0
 ·rw[MA,if_pos h,if_pos h,MA,MA];split<;>simp_all
 ·rw[MA,if_neg h,if_neg h]
theorem QC (l:List Int):ax Tryz.prog 167 [.sl (l.map aL)] (.int .i64 (MA l)):=by
 refine ax.body fW rfl fun hl n0=>?_
 have hlen:l.length<=9223372036854775807:=by simpa using(hl (.sl (l.map aL)) (by simp)).len
 clear hl
 (try((repeat(revert N;apply Pn.out));refine wk @Nat.zero_add ?_;(repeat(apply Pn.mk;intro N hN))))
 refine cm (fun n env st=>∃k:Nat,n=(l.length)-k/\k<=(l.length)/\env 8=.int .i64 (k:Int)/\(∀j:Nat,j<k->∀h:j<l.length,l[j]=0)) (l.length) ⟨0,ad,ad,sl @Nat.zero_add,fun _ h=>absurd h (Nat.not_lt_zero _)⟩ ?_
 rintro n_a env_a st_a ⟨k,rfl,ale,a8,qJ⟩ eJ
 have a3:=eJ 3 (by kernel_rfl);have a6:=eJ 6 (by kernel_rfl);have a7:=eJ 7 (by kernel_rfl)
 simp only[go_sem, ↓reduceIte,Nat.reduceEqDiff,Nat.reduceAdd,Nat.reduceSub,Nat.reduceLeDiff,reduceCtorEq]at a3 a6 a7
 clear eJ
 by_cases hk:(k:Int)<(l.length:Int)
 ·have eh:∀{e:Env},(e 8=.int .i64 (IntKind.i64.wrap ((k:Int)+1)))->(∀h:k<l.length,l[k]=0)->∃m0,m0<(l.length)-k/\∃k:Nat,m0=(l.length)-k/\k<=(l.length)/\e 8=.int .i64 (k:Int)/\(∀j:Nat,j<k->∀h:j<l.length,l[j]=0):=fun x1 x2=>⟨_,ad,k+1,rfl,ad,(by rw[x1,aX ad]),(all_succ qJ x2)⟩
  have ji:k<l.length:=ad
  have gx:(l.map aL)[k]? =some (aL l[k]):=by simp[ji]
  generalize hv:l[k]=v at gx
  by_cases h0:v=0
  ·have e:decide (v=0)=true:=decide_eq_true h0
   (try((repeat(revert N;apply Pn.out));refine wk (tw @a8 (tw @a3 (tw @a6 (tw @a7 (tw @e (tw @hk (tw @gx @aL.eq_1))))))) ?_;(repeat(apply Pn.mk;intro N hN))))
   exact eh (sd (tw @a8 (tw @a3 (tw @a6 @a7)))) (fun _=>hv.trans h0)
  ·have e:decide (v=0)=false:=decide_eq_false h0
   (try((repeat(revert N;apply Pn.out));refine wk (tw @a8 (tw @a3 (tw @a6 (tw @a7 (tw @e (tw @hk (tw @gx @aL.eq_1))))))) ?_;(repeat(apply Pn.mk;intro N hN))))
   exact eQ (b:=v) (.inl rfl) (sd @Nat.zero_add) (by rw[ON ji (by rw[hv];exact h0) fun j h hj=>qJ j hj h,hv])
 ·(try((repeat(revert N;apply Pn.out));refine wk (tw @a8 (tw @a3 (tw @a6 (tw @a7 @hk)))) ?_;(repeat(apply Pn.mk;intro N hN))))
  exact eQ (b:=0) (.inl rfl) (sd @Nat.zero_add) (by rw[GG fun j h=>qJ j ad h])
section
attribute [local go_sem] List.drop_zero List.take_succ_cons List.take_zero List.length_cons List.length_nil jY Dx rf
theorem qf (a b:aq):ax Tryz.prog 141 [.agg (ah a),.agg (ah b)] (.int .i64 (qV a b)):=by
 refine ax.body fW rfl fun hl n0=>?_
 clear hl
 have h1:=Cf a.fw b.fw
 have h2:=Cf a.fE b.fE
 have h3:=QC [uR a.fw b.fw,uR a.fE b.fE]
 rw[RS,List.map_cons,List.map_cons,List.map_nil,aL,aL]at h3
 (repeat(first|((repeat(revert N;apply Pn.out));refine wk @ah.eq_1 ?_;(repeat(apply Pn.mk;intro N hN)))|((try apply Or.inl);refine⟨_,ax.x (h1) (sd @ah.eq_1),?_⟩;apply hN;clear hN N)|((try apply Or.inl);refine⟨_,ax.x (h2) (sd @ah.eq_1),?_⟩;apply hN;clear hN N)|((try apply Or.inl);refine⟨_,ax.x (h3) (sd @ah.eq_1),?_⟩;apply hN;clear hN N)))
 exact eQ (b:=qV a b) (.inl rfl) (by simp only[go_sem, ↓reduceIte,Nat.reduceEqDiff,Nat.reduceAdd,Nat.reduceSub,Nat.reduceLeDiff,reduceCtorEq,qV]) rfl
end
theorem Ri (a b:aq):ax Tryz.prog 106 [.agg (ah a),.agg (ah b)] (.bool (jN a b)):=by
 refine ax.body fW rfl fun hl n0=>?_
 clear hl
 have h1:=qf a b
 rw[ah,ah]at h1
 (repeat(first|((repeat(revert N;apply Pn.out));refine wk @ah.eq_1 ?_;(repeat(apply Pn.mk;intro N hN)))|((try apply Or.inl);refine⟨_,ax.x (h1) (sd @ah.eq_1),?_⟩;apply hN;clear hN N)))
 exact di (b:=decide (qV a b<0)) (.inl rfl) (sd @Nat.zero_add) (n9 a b)
theorem mb (t:aa) (p:aq):ax Tryz.prog 108 [.agg (ab t),.agg (ah p)] (.int .i64 (qV t.bf p)):=by
 refine ax.body fW rfl fun hl n0=>?_
 clear hl
 have h1:=qf t.bf p
 rw[ah,ah]at h1
 (repeat(first|((repeat(revert N;apply Pn.out));refine wk (tw @ab.eq_1 @ah.eq_1) ?_;(repeat(apply Pn.mk;intro N hN)))|((try apply Or.inl);refine⟨_,ax.x (h1) (sd (tw @ab.eq_1 @ah.eq_1)),?_⟩;apply hN;clear hN N)))
 exact eQ (b:=qV t.bf p) (.inl rfl) (sd @Nat.zero_add) rfl
theorem Cq (l:List aa):ax Tryz.prog 55 [.agg [.sl (l.map ab)]] (.bool (qj l)):=by
 refine ax.body fW rfl fun hl n0=>?_
 have hlen:l.length<=9223372036854775807:=by
  have h1:=(hl (.agg [.sl (l.map ab)]) (by simp)).T5 (a:=.sl (l.map ab)) (by simp)
  simpa using h1.len
 clear hl
 (try((repeat(revert N;apply Pn.out));refine wk @Nat.zero_add ?_;(repeat(apply Pn.mk;intro N hN))))
 refine cm (fun n env st=>∃k:Nat,n=(l.length)-k/\k<=(l.length)/\env 8=.int .i64 (k:Int)/\st.get ⟨55000000,n0⟩=some ⟨true,1,[[.sl (l.map ab)]]⟩/\(∀j:Nat,j<k->Hq l j)) (l.length) ⟨0,ad,ad,sl @Nat.zero_add,sl @Nat.zero_add,fun _ h=>absurd h (Nat.not_lt_zero _)⟩ ?_
 rintro n_a env_a st_a ⟨k,rfl,ale,a8,ag0,qJ⟩ eJ
 have a1:=eJ 1 (by kernel_rfl);have a6:=eJ 6 (by kernel_rfl);have a7:=eJ 7 (by kernel_rfl)
 simp only[go_sem, ↓reduceIte,Nat.reduceEqDiff,Nat.reduceAdd,Nat.reduceSub,Nat.reduceLeDiff,reduceCtorEq]at a1 a6 a7
 clear eJ
 by_cases hk:(k:Int)<(l.length:Int)
 ·have eh:∀{e:Env} {gg:Rows},(e 8=.int .i64 (IntKind.i64.wrap ((k:Int)+1)))->(gg ⟨55000000,n0⟩=some ⟨true,1,[[.sl (l.map ab)]]⟩)->(Hq l k)->∃m0,m0<(l.length)-k/\∃k:Nat,m0=(l.length)-k/\k<=(l.length)/\e 8=.int .i64 (k:Int)/\gg ⟨55000000,n0⟩=some ⟨true,1,[[.sl (l.map ab)]]⟩/\(∀j:Nat,j<k->Hq l j):=fun x1 x2 x3=>⟨_,ad,k+1,rfl,ad,(by rw[x1,aX ad]),x2,(all_succ qJ x3)⟩
  have ji:k<l.length:=ad
  have gx:=gK ji
  have mH:(¬Hq l k)->¬mm l:=fun h hp=>h (hp.ok k ji)
  have hp:=uH (bh l k).bf
  have ht:=CA (bh l k).bc 160 ad ad
  rw[show(160:Int)-1=159 from rfl]at ht
  cases b1:yQ (bh l k).bf
  ·rw[b1]at hp
   (have zF:=tw @a8 (tw @ag0 (tw @a1 (tw @a6 (tw @a7 (tw @hk (tw @gx (tw @ab.eq_1 @ah.eq_1)))))));(repeat(first|((repeat(revert N;apply Pn.out));refine wk zF ?_;(repeat(apply Pn.mk;intro N hN)))|((try apply Or.inl);refine⟨_,ax.x (hp) (sd zF),?_⟩;apply hN;clear hN N)));try clear zF)
   exact di (b:=false) (.inl rfl) (sd @Nat.zero_add) (lU (mH fun h=>by rw[Hq,b1]at h;cases h.1))
  rw[b1]at hp
  cases b2:iW (bh l k).bc 0 159
  ·rw[b2]at ht
   (have zF:=tw @a8 (tw @ag0 (tw @a1 (tw @a6 (tw @a7 (tw @hk (tw @gx (tw @ab.eq_1 @ah.eq_1)))))));(repeat(first|((repeat(revert N;apply Pn.out));refine wk zF ?_;(repeat(apply Pn.mk;intro N hN)))|((try apply Or.inl);refine⟨_,ax.x (hp) (sd zF),?_⟩;apply hN;clear hN N)|((try apply Or.inl);refine⟨_,ax.x (ht) (sd zF),?_⟩;apply hN;clear hN N)));try clear zF)
   exact di (b:=false) (.inl rfl) (sd @Nat.zero_add) (lU (mH fun h=>by rw[Hq,b2]at h;cases h.2.1))
  rw[b2]at ht
  by_cases h0:(0:Int)<(k:Int)
  ·have wH:=gK (l:=l) (i:=k-1) ad
   have hw:IntKind.i64.wrap ((k:Int)-1)=((k-1:Nat):Int):=by rw[dj ad];omega
   have hq:=Ri (bh l (k-1)).bf (bh l k).bf
   cases b3:jN (bh l (k-1)).bf (bh l k).bf
   ·rw[b3]at hq
    (have zF:=tw @a8 (tw @ag0 (tw @a1 (tw @a6 (tw @a7 (tw @hk (tw @gx (tw @wH (tw @h0 (tw @hw (tw @ab.eq_1 @ah.eq_1))))))))));(repeat(first|((repeat(revert N;apply Pn.out));refine wk zF ?_;(repeat(apply Pn.mk;intro N hN)))|((try apply Or.inl);refine⟨_,ax.x (hp) (sd zF),?_⟩;apply hN;clear hN N)|((try apply Or.inl);refine⟨_,ax.x (ht) (sd zF),?_⟩;apply hN;clear hN N)|((try apply Or.inl);refine⟨_,ax.x (hq) (sd zF),?_⟩;apply hN;clear hN N)));try clear zF)
    exact di (b:=false) (.inl rfl) (sd @Nat.zero_add) (lU (mH fun h=>by have:=h.2.2 ad;rw[b3]at this;cases this))
   ·rw[b3]at hq
    (have zF:=tw @a8 (tw @ag0 (tw @a1 (tw @a6 (tw @a7 (tw @hk (tw @gx (tw @wH (tw @h0 (tw @hw (tw @ab.eq_1 @ah.eq_1))))))))));(repeat(first|((repeat(revert N;apply Pn.out));refine wk zF ?_;(repeat(apply Pn.mk;intro N hN)))|((try apply Or.inl);refine⟨_,ax.x (hp) (sd zF),?_⟩;apply hN;clear hN N)|((try apply Or.inl);refine⟨_,ax.x (ht) (sd zF),?_⟩;apply hN;clear hN N)|((try apply Or.inl);refine⟨_,ax.x (hq) (sd zF),?_⟩;apply hN;clear hN N)));try clear zF)
    refine eh ?_ ?_ (⟨b1,b2,fun _=>b3⟩)
    all_goals simp only[go_sem, ↓reduceIte,Nat.reduceEqDiff,Nat.reduceAdd,Nat.reduceSub,Nat.reduceLeDiff,reduceCtorEq,a8,ag0,a1,a6,a7]
  ·have x8:k=0:=ad
   (have zF:=tw @a8 (tw @ag0 (tw @a1 (tw @a6 (tw @a7 (tw @hk (tw @gx (tw @h0 (tw @ab.eq_1 @ah.eq_1))))))));(repeat(first|((repeat(revert N;apply Pn.out));refine wk zF ?_;(repeat(apply Pn.mk;intro N hN)))|((try apply Or.inl);refine⟨_,ax.x (hp) (sd zF),?_⟩;apply hN;clear hN N)|((try apply Or.inl);refine⟨_,ax.x (ht) (sd zF),?_⟩;apply hN;clear hN N)));try clear zF)
   refine eh ?_ ?_ (⟨b1,b2,fun h=>ad⟩)
   all_goals simp only[go_sem, ↓reduceIte,Nat.reduceEqDiff,Nat.reduceAdd,Nat.reduceSub,Nat.reduceLeDiff,reduceCtorEq,a8,ag0,a1,a6,a7]
 ·(try((repeat(revert N;apply Pn.out));refine wk (tw @a8 (tw @ag0 (tw @a1 (tw @a6 (tw @a7 @hk))))) ?_;(repeat(apply Pn.mk;intro N hN))))
  refine di (b:=decide ((l.length:Int)<=500)) (.inl rfl) (sd @Nat.zero_add) ?_
  by_cases h5:(l.length:Int)<=500
  ·rw[decide_eq_true h5];exact Cj ⟨ad,fun i hi=>qJ i ad⟩
  ·rw[decide_eq_false h5];exact lU fun h=>by have:=h.xR;omega
theorem Cb (cells:List aa) (p:aq) (hR:mD cells) (QN:cells.length<=1048576):
  ax Tryz.prog 107 [.sl (cells.map ab),.agg (ah p),.fn 108 []] (.fX [.int .i64 (pd cells p),.bool (decide (pd cells p<cells.length)&&decide ((bh cells (pd cells p)).bf=p))]):=by
 refine ax.body fW rfl fun hl n0=>?_
 clear hl
 (try((repeat(revert N;apply Pn.out));refine wk @ah.eq_1 ?_;(repeat(apply Pn.mk;intro N hN))))
 refine cm (fun n env st=>∃i j:Nat,n=j-i/\i<=j/\j<=cells.length/\(∀x,x<i->jN (bh cells x).bf p=true)/\(∀x,j<=x->x<cells.length->jN (bh cells x).bf p=false)/\env 9=.int .i64 i/\env 10=.int .i64 j/\st.get ⟨107000000,n0⟩=some ⟨true,2,[ah p]⟩) cells.length ⟨0,cells.length,ad,ad,ad,fun x h=>ad,fun x h1 h2=>ad,by(simp only[go_sem, ↓reduceIte,Nat.reduceEqDiff,Nat.reduceAdd,Nat.reduceSub,Nat.reduceLeDiff,reduceCtorEq])<;>rfl,sd @Nat.zero_add,sd @ah.eq_1⟩ ?_
 rintro n env st ⟨i,j,rfl,Ct,hj,kN,Hd,h9,Cp,hg⟩ fr
 have h0:=fr 0 (by kernel_rfl)
 have h2:=fr 2 (by kernel_rfl)
 have h4:=fr 4 (by kernel_rfl)
 have h8:=fr 8 (by kernel_rfl)
 simp only[go_sem, ↓reduceIte,Nat.reduceEqDiff,Nat.reduceAdd,Nat.reduceSub,Nat.reduceLeDiff,reduceCtorEq]at h0 h2 h4 h8
 clear fr
 by_cases eP:(i:Int)<(j:Int)
 ·have e1:IntKind.i64.wrap ((i:Int)+j)=((i+j:Nat):Int):=by rw[dj ad];rfl
  have hm:(i+j) / 2<cells.length:=ad
  have jc:(cells.map ab)[(i+j) / 2]? =some (ab (bh cells ((i+j) / 2))):=gK (l:=cells) hm
  have e2:IntKind.i64.wrap ((IntKind.u64.wrap ((i+j:Nat):Int)).fdiv (2 ^ min 1 IntKind.u64.bits))=(((i+j) / 2:Nat):Int):=by
   have h:IntKind.u64.wrap ((i+j:Nat):Int)=((i+j:Nat):Int):=by rw[IntKind.wrap_u64];omega
   rw[h,show min 1 IntKind.u64.bits=1 from rfl,show((2:Int) ^ 1)=2 from rfl,Int.fdiv_eq_ediv_of_nonneg _ ad]
   rw[dj ad];omega
  have Yn:IntKind.i64.wrap ((IntKind.u64.wrap ((i+j:Nat):Int)).fdiv (2 ^ min 1 64))=(((i+j) / 2:Nat):Int):=e2
  have e3:=aX (k:=(i+j) / 2) ad
  by_cases hc:qV (bh cells ((i+j) / 2)).bf p<0
  ·have hl:jN (bh cells ((i+j) / 2)).bf p=true:=by rw[<-n9];simpa using hc
   (have zF:=tw @h0 (tw @h2 (tw @h4 (tw @h8 (tw @h9 (tw @Cp (tw @hg (tw @eP (tw @e1 (tw @e2 (tw @Yn (tw @jc (tw @hc (tw @ab.eq_1 @ah.eq_1)))))))))))));(repeat(first|((repeat(revert N;apply Pn.out));refine wk zF ?_;(repeat(apply Pn.mk;intro N hN)))|((try apply Or.inl);refine⟨_,ax.x (mb (bh cells ((i+j) / 2)) p) (sd zF),?_⟩;apply hN;clear hN N)));try clear zF)
   refine⟨_,?_,(i+j) / 2+1,j,rfl,ad,hj,fun x hx=>?_,Hd,sd @e3,sd @Cp,sd (tw @hg @ah.eq_1)⟩
   ·omega
   ·by_cases F8:x=(i+j) / 2
    ·subst F8;exact hl
    ·exact iX (hR x _ ad hm) hl
  ·have hl:jN (bh cells ((i+j) / 2)).bf p=false:=by rw[<-n9];simpa using hc
   (have zF:=tw @h0 (tw @h2 (tw @h4 (tw @h8 (tw @h9 (tw @Cp (tw @hg (tw @eP (tw @e1 (tw @e2 (tw @Yn (tw @jc (tw @hc (tw @ab.eq_1 @ah.eq_1)))))))))))));(repeat(first|((repeat(revert N;apply Pn.out));refine wk zF ?_;(repeat(apply Pn.mk;intro N hN)))|((try apply Or.inl);refine⟨_,ax.x (mb (bh cells ((i+j) / 2)) p) (sd zF),?_⟩;apply hN;clear hN N)));try clear zF)
   refine⟨_,?_,i,(i+j) / 2,rfl,ad,ad,kN,fun x h1 h2=>?_,sd @h9,sd (tw @e2 @Yn),sd (tw @hg @ah.eq_1)⟩
   ·omega
   ·by_cases F8:x=(i+j) / 2
    ·subst F8;exact hl
    ·rw[Bool.eq_false_iff]
     intro hc
     have h3:=iX (hR ((i+j) / 2) x ad h2) hc
     rw[hl]at h3;cases h3
 ·have U7:i=j:=ad
  subst U7
  have H5:pd cells p=i:=DW hj kN fun h=>Hd i (Nat.le_refl _) h
  by_cases hn:(i:Int)<(cells.length:Int)
  ·have gS:i<cells.length:=ad
   have jc:(cells.map ab)[i]? =some (ab (bh cells i)):=gK (l:=cells) gS
   have hd:decide (qV (bh cells i).bf p=0)=decide ((bh cells i).bf=p):=by simp only[KG]
   (have zF:=tw @h0 (tw @h2 (tw @h4 (tw @h8 (tw @h9 (tw @Cp (tw @hg (tw @eP (tw @hn (tw @jc (tw @ab.eq_1 @ah.eq_1))))))))));(repeat(first|((repeat(revert N;apply Pn.out));refine wk zF ?_;(repeat(apply Pn.mk;intro N hN)))|((try apply Or.inl);refine⟨_,ax.x (mb (bh cells i) p) (sd zF),?_⟩;apply hN;clear hN N)));try clear zF)
   refine km (.inl rfl) (r1:=.int .i64 i) (r2:=.bool (decide ((bh cells i).bf=p))) ?_ ?_ ?_
   ·simp only[go_sem, ↓reduceIte,Nat.reduceEqDiff,Nat.reduceAdd,Nat.reduceSub,Nat.reduceLeDiff,reduceCtorEq]
   ·simp only[go_sem, ↓reduceIte,Nat.reduceEqDiff,Nat.reduceAdd,Nat.reduceSub,Nat.reduceLeDiff,reduceCtorEq,hd]
   ·simp only[gj,cF,dq,eT,gi,Option.map_some,H5,gS,decide_true,Bool.true_and]
  ·have gS:¬i<cells.length:=ad
   (try((repeat(revert N;apply Pn.out));refine wk (tw @h0 (tw @h2 (tw @h4 (tw @h8 (tw @h9 (tw @Cp (tw @hg (tw @eP (tw @hn (tw @ab.eq_1 @ah.eq_1)))))))))) ?_;(repeat(apply Pn.mk;intro N hN))))
   refine km (.inl rfl) (r1:=.int .i64 i) (r2:=.bool false) ?_ ?_ ?_
   ·simp only[go_sem, ↓reduceIte,Nat.reduceEqDiff,Nat.reduceAdd,Nat.reduceSub,Nat.reduceLeDiff,reduceCtorEq]
   ·simp only[go_sem, ↓reduceIte,Nat.reduceEqDiff,Nat.reduceAdd,Nat.reduceSub,Nat.reduceLeDiff,reduceCtorEq]
   ·simp only[gj,cF,dq,eT,gi,Option.map_some,H5,gS,decide_false,Bool.false_and]
theorem LJ (l:List aa) (p:aq) (hR:mD l) (QN:l.length<=1048576):ax Tryz.prog 215 [.agg [.sl (l.map ab)],.agg (ah p)] (.int .i64 (eO l p)):=by
 refine ax.body fW rfl fun hl n0=>?_
 clear hl
 rw[DZ hR]
 have hb:=Cb l p hR QN
 rw[ah]at hb
 cases hf:(decide (pd l p<l.length)&&decide ((bh l (pd l p)).bf=p))
 ·rw[hf]at hb
  (repeat(first|((repeat(revert N;apply Pn.out));refine wk @ah.eq_1 ?_;(repeat(apply Pn.mk;intro N hN)))|((try apply Or.inl);refine⟨_,ax.x (hb) (sd @ah.eq_1),?_⟩;apply hN;clear hN N)))
  exact eQ (b:=-1) (.inl rfl) (sd @Nat.zero_add) (by rw[if_neg];intro h;simp[h.1,h.2]at hf)
 ·rw[hf]at hb
  (repeat(first|((repeat(revert N;apply Pn.out));refine wk @ah.eq_1 ?_;(repeat(apply Pn.mk;intro N hN)))|((try apply Or.inl);refine⟨_,ax.x (hb) (sd @ah.eq_1),?_⟩;apply hN;clear hN N)))
  exact eQ (b:=(pd l p:Int)) (.inl rfl) (sd @Nat.zero_add) (by rw[if_pos];simpa using hf)
theorem at_v (l:List aa) (p:aq) (hR:mD l) (QN:l.length<=1048576):ax Tryz.prog 56 [.agg [.sl (l.map ab)],.agg (ah p)] (.int .i64 (fy l p)):=by
 refine ax.body fW rfl fun hl n0=>?_
 clear hl
 have hi:=DZ (l:=l) (p:=p) hR
 have hb:=Cb l p hR QN
 rw[ah]at hb
 cases hf:(decide (pd l p<l.length)&&decide ((bh l (pd l p)).bf=p))
 ·rw[hf]at hb
  (repeat(first|((repeat(revert N;apply Pn.out));refine wk @ah.eq_1 ?_;(repeat(apply Pn.mk;intro N hN)))|((try apply Or.inl);refine⟨_,ax.x (hb) (sd @ah.eq_1),?_⟩;apply hN;clear hN N)))
  exact eQ (b:=-1) (.inl rfl) (sd @Nat.zero_add) (by
   have hx:eO l p= -1:=by rw[hi,if_neg (by intro h;simp[h.1,h.2]at hf)]
   rw[fy,hx];rfl)
 ·rw[hf]at hb
  have hc:pd l p<l.length/\(bh l (pd l p)).bf=p:=by simpa using hf
  have hg:=gK hc.1
  (have zF:=tw @ah.eq_1 (tw @hg @ab.eq_1);(repeat(first|((repeat(revert N;apply Pn.out));refine wk zF ?_;(repeat(apply Pn.mk;intro N hN)))|((try apply Or.inl);refine⟨_,ax.x (hb) (sd zF),?_⟩;apply hN;clear hN N)));try clear zF)
  exact eQ (b:=(bh l (pd l p)).bc) (.inl rfl) (sd @Nat.zero_add) (by
   have hx:eO l p=(pd l p:Int):=by rw[hi,if_pos hc]
   rw[fy,hx,if_pos ad,Int.toNat_natCast])
theorem tX (l:List aa) (p:aq) (hR:mD l) (QN:l.length<=1048576):ax Tryz.prog 82 [.er [.sl (l.map ab)],.agg (ah p)] (.int .i64 (eO l p)):=by
 refine ax.body fW rfl fun hl n0=>?_
 clear hl
 rw[DZ hR]
 (try((repeat(revert N;apply Pn.out));refine wk @ah.eq_1 ?_;(repeat(apply Pn.mk;intro N hN))))
 refine cm (fun n env st=>∃i j:Nat,n=j-i/\i<=j/\j<=l.length/\(∀x,x<i->jN (bh l x).bf p=true)/\(∀x,j<=x->x<l.length->jN (bh l x).bf p=false)/\env 5=.int .i64 i/\env 6=.int .i64 j/\st.get ⟨82000000,n0⟩=some ⟨true,2,[ah p]⟩) l.length ⟨0,l.length,ad,ad,ad,fun x h=>ad,fun x h1 h2=>ad,by(simp only[go_sem, ↓reduceIte,Nat.reduceEqDiff,Nat.reduceAdd,Nat.reduceSub,Nat.reduceLeDiff,reduceCtorEq])<;>rfl,sd @Nat.zero_add,sd @ah.eq_1⟩ ?_
 rintro n env st ⟨i,j,rfl,Ct,hj,kN,Hd,h5,h6,hg⟩ fr
 have h0:=fr 0 (by kernel_rfl)
 have h3:=fr 3 (by kernel_rfl)
 simp only[go_sem, ↓reduceIte,Nat.reduceEqDiff,Nat.reduceAdd,Nat.reduceSub,Nat.reduceLeDiff,reduceCtorEq]at h0 h3
 clear fr
 by_cases eP:(i:Int)<(j:Int)
 ·have e1:IntKind.i64.wrap ((i:Int)+j)=((i+j:Nat):Int):=by rw[dj ad];rfl
  have hm:(i+j) / 2<l.length:=ad
  have jc:=gK hm
  have e2:IntKind.i64.wrap (((i+j:Nat):Int).tdiv 2)=(((i+j) / 2:Nat):Int):=by
   rw[Int.tdiv_eq_ediv_of_nonneg ad,dj ad];omega
  have e3:=aX (k:=(i+j) / 2) ad
  have hq:=nY (bh l ((i+j) / 2)).bf p
  cases hl:jN (bh l ((i+j) / 2)).bf p
  ·rw[hl]at hq
   (have zF:=tw @h0 (tw @h3 (tw @h5 (tw @h6 (tw @hg (tw @eP (tw @e1 (tw @e2 (tw @jc (tw @ab.eq_1 @ah.eq_1)))))))));(repeat(first|((repeat(revert N;apply Pn.out));refine wk zF ?_;(repeat(apply Pn.mk;intro N hN)))|((try apply Or.inl);refine⟨_,ax.x (hq) (sd zF),?_⟩;apply hN;clear hN N)));try clear zF)
   refine⟨_,?_,i,(i+j) / 2,rfl,ad,ad,kN,fun x h1 h2=>?_,sd @h5,sd @e2,sd (tw @hg @ah.eq_1)⟩
   ·omega
   ·by_cases F8:x=(i+j) / 2
    ·subst F8;exact hl
    ·rw[Bool.eq_false_iff]
     intro hc
     have h3:=iX (hR ((i+j) / 2) x ad h2) hc
     rw[hl]at h3;cases h3
  ·rw[hl]at hq
   (have zF:=tw @h0 (tw @h3 (tw @h5 (tw @h6 (tw @hg (tw @eP (tw @e1 (tw @e2 (tw @jc (tw @ab.eq_1 @ah.eq_1)))))))));(repeat(first|((repeat(revert N;apply Pn.out));refine wk zF ?_;(repeat(apply Pn.mk;intro N hN)))|((try apply Or.inl);refine⟨_,ax.x (hq) (sd zF),?_⟩;apply hN;clear hN N)));try clear zF)
   refine⟨_,?_,(i+j) / 2+1,j,rfl,ad,hj,fun x hx=>?_,Hd,sd @e3,sd @h6,sd (tw @hg @ah.eq_1)⟩
   ·omega
   ·by_cases F8:x=(i+j) / 2
    ·subst F8;exact hl
    ·exact iX (hR x _ ad hm) hl
 ·have U7:i=j:=ad
  subst U7
  have H5:pd l p=i:=DW hj kN fun h=>Hd i (Nat.le_refl _) h
  by_cases hn:(i:Int)<(l.length:Int)
  ·have gS:i<l.length:=ad
   have jc:=gK gS
   by_cases hp:(bh l i).bf=p
   ·have hx:decide ((bh l i).bf.fE=p.fE)=true:=decide_eq_true (by rw[hp])
    have hy:decide ((bh l i).bf.fw=p.fw)=true:=decide_eq_true (by rw[hp])
    (try((repeat(revert N;apply Pn.out));refine wk (tw @h0 (tw @h3 (tw @h5 (tw @h6 (tw @hg (tw @eP (tw @hn (tw @jc (tw @hx (tw @hy (tw @ab.eq_1 @ah.eq_1))))))))))) ?_;(repeat(apply Pn.mk;intro N hN))))
    exact eQ (b:=(i:Int)) (.inl rfl) (sd @Nat.zero_add) (by rw[H5,if_pos ⟨gS,hp⟩])
   ·by_cases hx:(bh l i).bf.fE=p.fE
    ·have wK:decide ((bh l i).bf.fE=p.fE)=true:=decide_eq_true hx
     have hy':decide ((bh l i).bf.fw=p.fw)=false:=decide_eq_false fun h=>hp (AM hx h)
     (try((repeat(revert N;apply Pn.out));refine wk (tw @h0 (tw @h3 (tw @h5 (tw @h6 (tw @hg (tw @eP (tw @hn (tw @jc (tw @wK (tw @hy' (tw @ab.eq_1 @ah.eq_1))))))))))) ?_;(repeat(apply Pn.mk;intro N hN))))
     exact eQ (b:=-1) (.inl rfl) (sd @Nat.zero_add) (by rw[H5,if_neg fun h=>hp h.2])
    ·have wK:decide ((bh l i).bf.fE=p.fE)=false:=decide_eq_false hx
     (try((repeat(revert N;apply Pn.out));refine wk (tw @h0 (tw @h3 (tw @h5 (tw @h6 (tw @hg (tw @eP (tw @hn (tw @jc (tw @wK (tw @Bool.false_and (tw @ab.eq_1 @ah.eq_1))))))))))) ?_;(repeat(apply Pn.mk;intro N hN))))
     exact eQ (b:=-1) (.inl rfl) (sd @Nat.zero_add) (by rw[H5,if_neg fun h=>hp h.2])
  ·have gS:¬i<l.length:=ad
   (try((repeat(revert N;apply Pn.out));refine wk (tw @h0 (tw @h3 (tw @h5 (tw @h6 (tw @hg (tw @eP (tw @hn (tw @ab.eq_1 @ah.eq_1)))))))) ?_;(repeat(apply Pn.mk;intro N hN))))
   exact eQ (b:=-1) (.inl rfl) (sd @Nat.zero_add) (by rw[H5,if_neg fun h=>gS h.1])
theorem Ru (l:List aa) (p:aq) (hR:mD l) (QN:l.length<=1048576):ax Tryz.prog 36 [.er [.sl (l.map ab)],.agg (ah p)] (.int .i64 (fy l p)):=by
 refine ax.body fW rfl fun hl n0=>?_
 clear hl
 have hb:=tX l p hR QN
 by_cases hi:eO l p<0
 ·rw[ah]at hb
  (repeat(first|((repeat(revert N;apply Pn.out));refine wk (tw @ah.eq_1 @hi) ?_;(repeat(apply Pn.mk;intro N hN)))|((try apply Or.inl);refine⟨_,ax.x (hb) (sd (tw @ah.eq_1 @hi)),?_⟩;apply hN;clear hN N)))
  exact eQ (b:=-1) (.inl rfl) (sd @Nat.zero_add) (by rw[fy,if_neg ad])
 ·have h0:0<=eO l p:=ad
  have hg:=gK (j3 h0).1
  rw[ah]at hb
  (have zF:=tw @ah.eq_1 (tw @hi (tw @h0 (tw @hg @ab.eq_1)));(repeat(first|((repeat(revert N;apply Pn.out));refine wk zF ?_;(repeat(apply Pn.mk;intro N hN)))|((try apply Or.inl);refine⟨_,ax.x (hb) (sd zF),?_⟩;apply hN;clear hN N)));try clear zF)
  exact eQ (b:=(bh l (eO l p).toNat).bc) (.inl rfl) (sd @Nat.zero_add) (by rw[fy,if_pos h0])
def iS (s:ay) (l:List aa):Prop:=mm l/\∀t∈l,eF s t.bc=true
noncomputable def uI (s:ay) (l:List aa):Bool:=qj l&&l.all fun t=>eF s t.bc
theorem oV {s:ay} {l:List aa}:uI s l=true↔iS s l:=by simp[uI,iS,w7]
theorem HH:X1 ab (fun c=>.agg (ab c)) 3 true:=⟨fun _=>rfl,fun _=>rfl,fun x g=>by simp only[ab,aj,ar,bj,aJ,Option.map_some]⟩
theorem LF (s:ay) (t:aa) (hs:s.ai.length<=1048576):ax Tryz.prog 152 [.agg (ab t),.er (ae s)] (.bool (!eF s t.bc)):=by
 refine ax.body fW rfl fun hl n0=>?_
 clear hl
 have h:=Oj s t.bc
 rw[ae]at h
 (repeat(first|((repeat(revert N;apply Pn.out));refine wk (tw @ab.eq_1 @ae.eq_1) ?_;(repeat(apply Pn.mk;intro N hN)))|((try apply Or.inl);refine⟨_,ax.x (h) (sd (tw @ab.eq_1 @ae.eq_1)),?_⟩;apply hN;clear hN N)))
 exact di (b:= !eF s t.bc) (.inl rfl) (sd @Nat.zero_add) rfl
theorem Si (s:ay) (l:List aa) (hs:s.ai.length<=1048576) (hl:l.length<=1048576):ax Tryz.prog 120 [.sl (l.map ab),.fn 152 [.er (ae s)]] (.bool (l.any fun t=> !eF s t.bc)):=
 mZ HH (show Fg Tryz.prog 120=some (DH 120 132) by kernel_rfl)
  (show Fg Tryz.prog 132=some (xh 132 3 true) by kernel_rfl) l hl _ _ _ rfl (fun g=>by rw[aj,aK,ar];rfl) (fun x _=>LF s x hs) fun g=>by rw[aj,aK,ar];rfl
theorem Qr {α:Type} (p:α->Bool) (l:List α):(!l.any fun t=> !p t)=l.all p:=by
 induction l with
 |nil=>rfl
 |cons x l ih=>simp only[List.any_cons,List.all_cons,<-ih];cases p x<;>simp
theorem yC (s:ay) (l:List aa) (hn:kE s) (hg:s.aQ.length<=1048576) (ht:s.ai.length<=1048576) (hs:∀t∈s.ai,t.de.length<=1048576) (hl:l.length<=1048576):ax Tryz.prog 119 [.agg (ae s),.agg [.sl (l.map ab)]] (.bool (wc s&&uI s l)):=by
 refine ax.body fW rfl fun hl n0=>?_
 clear hl
 have h1:=zB s hn hg ht hs
 have h2:=Cq l
 have h3:=Si s l ht hl
 rw[ae]at h1 h3
 cases b1:wc s
 ·rw[b1]at h1
  (repeat(first|((repeat(revert N;apply Pn.out));refine wk @ae.eq_1 ?_;(repeat(apply Pn.mk;intro N hN)))|((try apply Or.inl);refine⟨_,ax.x (h1) (sd @ae.eq_1),?_⟩;apply hN;clear hN N)))
  exact di (b:=false) (.inl rfl) (sd @Nat.zero_add) rfl
 rw[b1]at h1
 cases b2:qj l
 ·rw[b2]at h2
  (repeat(first|((repeat(revert N;apply Pn.out));refine wk @ae.eq_1 ?_;(repeat(apply Pn.mk;intro N hN)))|((try apply Or.inl);refine⟨_,ax.x (h1) (sd @ae.eq_1),?_⟩;apply hN;clear hN N)|((try apply Or.inl);refine⟨_,ax.x (h2) (sd @ae.eq_1),?_⟩;apply hN;clear hN N)))
  exact di (b:=false) (.inl rfl) (sd @Nat.zero_add) (by rw[uI,b2];rfl)
 rw[b2]at h2
 (repeat(first|((repeat(revert N;apply Pn.out));refine wk @ae.eq_1 ?_;(repeat(apply Pn.mk;intro N hN)))|((try apply Or.inl);refine⟨_,ax.x (h1) (sd @ae.eq_1),?_⟩;apply hN;clear hN N)|((try apply Or.inl);refine⟨_,ax.x (h2) (sd @ae.eq_1),?_⟩;apply hN;clear hN N)|((try apply Or.inl);refine⟨_,ax.x (h3) (sd @ae.eq_1),?_⟩;apply hN;clear hN N)))
 exact di (b:= !(l.any fun t=> !eF s t.bc)) (.inl rfl) (sd @Nat.zero_add) (by rw[Qr,uI,b2];rfl)
theorem Rv (s:ay) (l:List aa):ax Tryz.prog 63 [.er (ae s),.er [.sl (l.map ab)]] (.bool (uI s l)):=by
 refine ax.body fW rfl fun hl n0=>?_
 have hlen:l.length<=9223372036854775807:=by
  have h1:=(hl (.er [.sl (l.map ab)]) (by simp)).Gd (a:=.sl (l.map ab)) (by simp)
  simpa using h1.len
 clear hl
 have h2:=Lm l
 cases b2:qj l
 ·rw[b2]at h2
  (repeat(first|((repeat(revert N;apply Pn.out));refine wk @Nat.zero_add ?_;(repeat(apply Pn.mk;intro N hN)))|((try apply Or.inl);refine⟨_,ax.x (h2) (sd @Nat.zero_add),?_⟩;apply hN;clear hN N)))
  exact di (b:=false) (.inl rfl) (sd @Nat.zero_add) (by rw[uI,b2];rfl)
 rw[b2]at h2
 (repeat(first|((repeat(revert N;apply Pn.out));refine wk @Nat.zero_add ?_;(repeat(apply Pn.mk;intro N hN)))|((try apply Or.inl);refine⟨_,ax.x (h2) (sd @Nat.zero_add),?_⟩;apply hN;clear hN N)))
 refine cm (fun n env st=>∃k:Nat,n=(l.length)-k/\k<=(l.length)/\env 5=.int .i64 (k:Int)/\(∀j:Nat,j<k->eF s (bh l j).bc=true)) (l.length) ⟨0,ad,ad,sl @Nat.zero_add,fun _ h=>absurd h (Nat.not_lt_zero _)⟩ ?_
 rintro n_a env_a st_a ⟨k,rfl,ale,a5,qJ⟩ eJ
 have a0:=eJ 0 (by kernel_rfl);have a1:=eJ 1 (by kernel_rfl)
 simp only[go_sem, ↓reduceIte,Nat.reduceEqDiff,Nat.reduceAdd,Nat.reduceSub,Nat.reduceLeDiff,reduceCtorEq]at a0 a1
 clear eJ
 by_cases hk:(k:Int)<(l.length:Int)
 ·have eh:∀{e:Env},(e 5=.int .i64 (IntKind.i64.wrap ((k:Int)+1)))->(eF s (bh l k).bc=true)->∃m0,m0<(l.length)-k/\∃k:Nat,m0=(l.length)-k/\k<=(l.length)/\e 5=.int .i64 (k:Int)/\(∀j:Nat,j<k->eF s (bh l j).bc=true):=fun x1 x2=>⟨_,ad,k+1,rfl,ad,(by rw[x1,aX ad]),(all_succ qJ x2)⟩
  have ji:k<l.length:=ad
  have gx:=gK ji
  have ht:=Il s (bh l k).bc
  cases b3:eF s (bh l k).bc
  ·rw[b3]at ht
   (have zF:=tw @a5 (tw @a0 (tw @a1 (tw @hk (tw @gx @ab.eq_1))));(repeat(first|((repeat(revert N;apply Pn.out));refine wk zF ?_;(repeat(apply Pn.mk;intro N hN)))|((try apply Or.inl);refine⟨_,ax.x (ht) (sd zF),?_⟩;apply hN;clear hN N)));try clear zF)
   exact di (b:=false) (.inl rfl) (sd @Nat.zero_add) (by
    have:l.all (fun t=>eF s t.bc)=false:=List.all_eq_false.2 ⟨_,gG ji,by rw[b3];simp⟩
    rw[uI,this,Bool.and_false])
  ·rw[b3]at ht
   (have zF:=tw @a5 (tw @a0 (tw @a1 (tw @hk (tw @gx @ab.eq_1))));(repeat(first|((repeat(revert N;apply Pn.out));refine wk zF ?_;(repeat(apply Pn.mk;intro N hN)))|((try apply Or.inl);refine⟨_,ax.x (ht) (sd zF),?_⟩;apply hN;clear hN N)));try clear zF)
   exact eh (sd (tw @a5 (tw @a0 @a1))) (b3)
 ·(try((repeat(revert N;apply Pn.out));refine wk (tw @a5 (tw @a0 (tw @a1 @hk))) ?_;(repeat(apply Pn.mk;intro N hN))))
  exact di (b:=true) (.inl rfl) (sd @Nat.zero_add) (by
   have:l.all (fun t=>eF s t.bc)=true:=List.all_eq_true.2 fun t ht=>by
    obtain⟨j,hj,rfl⟩:=List.getElem_of_mem ht
    have:=qJ j ad
    rwa [gn hj]at this
   rw[uI,b2,this];rfl)
theorem BN (l:List aa) (hF:mm l) (i:Nat) (d:Int) (hi:i<l.length) (hd:iW d 0 3=true):ax Tryz.prog 148 [.er [.sl (l.map ab)],.int .i64 i,.int .i64 d] (.int .i64 (eO l (cj (bh l i).bf d))):=by
 refine ax.body fW rfl fun hl n0=>?_
 clear hl
 have hg:=gK hi
 have hp:=uj (hF.pt hi)
 have h1:=xk (bh l i).bf d hd hp.1 hp.2
 have h2:=tX l (cj (bh l i).bf d) hF.Br (by have:=hF.xR;omega)
 rw[ah]at h1 h2
 (have zF:=tw @ab.eq_1 (tw @hg @ah.eq_1);(repeat(first|((repeat(revert N;apply Pn.out));refine wk zF ?_;(repeat(apply Pn.mk;intro N hN)))|((try apply Or.inl);refine⟨_,ax.x (h1) (sd zF),?_⟩;apply hN;clear hN N)|((try apply Or.inl);refine⟨_,ax.x (h2) (sd zF),?_⟩;apply hN;clear hN N)));try clear zF)
 exact eQ (b:=eO l (cj (bh l i).bf d)) (.inl rfl) (sd @Nat.zero_add) rfl
def bi (b:Bool):Int:=if b then 1 else 0
def l5 (f:Nat->Int):Nat->Int
 |0=>0
 |n+1=>l5 f n+f n
theorem jC {f g:Nat->Int}:∀{n:Nat},(∀i,i<n->f i=g i)->l5 f n=l5 g n
 |0,_=>rfl
 |n+1,h=>by
  simp only[l5]
  rw[jC fun i hi=>h i ad,h n ad]
theorem sQ {f g:Nat->Int}:∀{n:Nat},(∀i,i<n->f i<=g i)->l5 f n<=l5 g n
 |0,_=>Int.le_refl _
 |n+1,h=>by
  simp only[l5]
  have:=sQ (n:=n) fun i hi=>h i ad
  have:=h n ad
  omega
theorem lK:∀{n:Nat} {f:Nat->Int},(∀i,i<n->f i=0)->l5 f n=0
 |0,_,_=>rfl
 |n+1,f,h=>by
  simp only[l5]
  rw[lK fun i hi=>h i ad,h n ad];rfl
theorem sP {f:Nat->Int} {a:Nat} {d:Int}:∀n,l5 (fun i=>f i+if i=a then d else 0) n=l5 f n+if a<n then d else 0
 |0=>by simp[l5]
 |n+1=>by
  simp only[l5]
  rw[sP n]
  by_cases h:n=a
  ·subst h;simp;omega
  ·rw[if_neg h]
   by_cases h2:a<n
   ·rw[if_pos h2,if_pos ad];omega
   ·rw[if_neg h2,if_neg ad];omega
def pa (n:Nat) (S:Nat->Bool) (f:Nat->Nat->Int):Int:=l5 (fun u=>l5 (fun v=>if S u&& !S v then f u v else 0) n) n
def bump (f:Nat->Nat->Int) (a b:Nat) (d:Int):Nat->Nat->Int:=fun u v=>f u v+if u=a/\v=b then d else 0
theorem sb {n:Nat} {S:Nat->Bool} {f:Nat->Nat->Int} {a b:Nat} {d:Int} (ha:a<n) (hb:b<n):pa n S (bump f a b d)=pa n S f+if S a&& !S b then d else 0:=by
 unfold pa
 have h1:∀u,u<n->l5 (fun v=>if S u&& !S v then bump f a b d u v else 0) n=l5 (fun v=>if S u&& !S v then f u v else 0) n+if u=a then(if S a&& !S b then d else 0)else 0:=by
  intro u hu
  by_cases h:u=a
  ·subst h
   have h2:∀v,v<n->(if S u&& !S v then bump f u b d u v else 0)=(fun v=>if S u&& !S v then f u v else 0) v+if v=b then(if S u&& !S b then d else 0)else 0:=by
    intro v hv
    unfold bump
    by_cases h3:v=b
    ·subst h3;simp only[and_self,if_true];split<;>omega
    ·simp only[h3,and_false,if_false];split<;>omega
   rw[jC h2,sP,if_pos hb,if_pos rfl]
  ·rw[if_neg h,Int.add_zero]
   refine jC fun v hv=>?_
   unfold bump
   simp[h]
 rw[jC h1,sP,if_pos ha]
theorem QE {n:Nat} {S:Nat->Bool} {f c:Nat->Nat->Int} (h:∀u v,u<n->v<n->f u v<=c u v):pa n S f<=pa n S c:=
 sQ fun u hu=>sQ fun v hv=>by split;exact h u v hu hv;exact Int.le_refl _
theorem QD {n:Nat} {S:Nat->Bool} {f c:Nat->Nat->Int} (h:∀u v,u<n->v<n->S u=true->S v=false->f u v=c u v):pa n S f=pa n S c:=
 jC fun u hu=>jC fun v hv=>by
  split
  ·rename_i hc
   simp only[Bool.and_eq_true,Bool.not_eq_true']at hc
   exact h u v hu hv hc.1 hc.2
  ·rfl
def mB (f:Nat->Nat->Int) (a b:Nat):Nat->Nat->Int:=bump (bump f a b 1) b a (-1)
theorem KM {n:Nat} {S:Nat->Bool} {f:Nat->Nat->Int} {a b:Nat} (ha:a<n) (hb:b<n):pa n S (mB f a b)=pa n S f+bi (S a)-bi (S b):=by
 unfold mB
 rw[sb hb ha,sb ha hb]
 cases S a<;>cases S b<;>simp[bi]<;>omega
def oZ (f:Nat->Nat->Int):List Nat->Nat->Nat->Int
 |a::b::r=>oZ (mB f a b) (b::r)
 |_=>f
def uD (f c:Nat->Nat->Int):List Nat->Prop
 |a::b::r=>f a b<c a b/\uD f c (b::r)
 |_=>True
theorem Fa {n:Nat} {S:Nat->Bool}:∀(r:List Nat) (a:Nat) (f:Nat->Nat->Int),(∀x∈a::r,x<n)->pa n S (oZ f (a::r))=pa n S f+bi (S a)-bi (S ((a::r).getLast (by simp)))
 |[],a,f,_=>by simp[oZ]
 |b::r,a,f,h=>by
  rw[oZ,Fa r b (mB f a b) fun x hx=>h x (List.mem_cons_of_mem _ hx),KM (h a (by simp)) (h b (by simp)),List.getLast_cons_cons]
  generalize bi (S b)=q
  omega
theorem uD.less {f g c:Nat->Nat->Int}:∀{p:List Nat},uD f c p->(∀u,u∈p->∀v,g u v<=f u v)->uD g c p
 |[],_,_=>trivial
 |[_],_,_=>trivial
 |a::b::r,h,hl=>⟨Int.lt_of_le_of_lt (hl a (by simp) b) h.1,uD.less (p:=b::r) h.2 fun u hu=>hl u (List.mem_cons_of_mem _ hu)⟩
theorem Js {n:Nat} {c:Nat->Nat->Int}:∀(p:List Nat) (f:Nat->Nat->Int),p.Nodup->uD f c p->(∀u v,u<n->v<n->f u v<=c u v)->∀u v,u<n->v<n->oZ f p u v<=c u v
 |[],f,_,_,h=>h
 |[_],f,_,_,h=>h
 |a::b::r,f,hn,hr,h=>by
  rw[oZ]
  have pB:a∉b::r:=(List.nodup_cons.1 hn).1
  refine Js (b::r) _ (List.nodup_cons.1 hn).2 (hr.2.less fun u hu v=>?_) fun u v hu hv=>?_
  ·unfold mB bump
   have:u≠a:=by rintro rfl;exact pB hu
   simp only[this,false_and,if_false]
   split<;>omega
  ·have h0:=h u v hu hv
   have h1:=hr.1
   unfold mB bump
   by_cases e:u=a/\v=b
   ·obtain⟨rfl,rfl⟩:=e
    rw[if_pos ⟨rfl,rfl⟩];split<;>omega
   ·rw[if_neg e];split<;>omega
structure qa (n:Nat) (c f:Nat->Nat->Int) (x y:Nat) (val:Int):Prop where
 le:∀u v,u<n->v<n->f u v<=c u v
 cut:∀S:Nat->Bool,S x=true->S y=false->pa n S f=val
theorem qa.zero {n:Nat} {c:Nat->Nat->Int} {x y:Nat} (h:∀u v,u<n->v<n->0<=c u v):qa n c (fun _ _=>0) x y 0:=
 ⟨h,fun S _ _=>lK fun u hu=>lK fun v hv=>by split<;>rfl⟩
theorem qa.aug {n:Nat} {c f:Nat->Nat->Int} {x y:Nat} {val:Int} (h:qa n c f x y val) {r:List Nat} (hl:(x::r).getLast (by simp)=y) (hn:(x::r).Nodup) (hr:uD f c (x::r)) (hb:∀v∈x::r,v<n):qa n c (oZ f (x::r)) x y (val+1):=
 ⟨Js _ _ hn hr h.le,fun S hx hy=>by rw[Fa r x f hb,hl,h.cut S hx hy,hx,hy];simp[bi]⟩
theorem qa.bound {n:Nat} {c f:Nat->Nat->Int} {x y:Nat} {val:Int} (h:qa n c f x y val) {S:Nat->Bool} (hx:S x=true) (hy:S y=false):val<=pa n S c:=by
 rw[<-h.cut S hx hy];exact QE h.le
theorem qa.full {n:Nat} {c f:Nat->Nat->Int} {x y:Nat} {val:Int} (h:qa n c f x y val) {S:Nat->Bool} (hx:S x=true) (hy:S y=false) (hS:∀u v,u<n->v<n->S u=true->S v=false->¬f u v<c u v):val=pa n S c:=by
 rw[<-h.cut S hx hy]
 exact QD fun u v hu hv h1 h2=>by have:=hS u v hu hv h1 h2;have:=h.le u v hu hv;omega
structure PB where
 a:Nat
 b:Nat
 s:Int
 deriving Inhabited
def dE (bs:List PB) (i:Nat):PB:=bs.getD i default
def ko (S:Nat->Bool) (bs:List PB):Int:=(bs.map fun b=>if S b.a=S b.b then 0 else b.s).sum
def qv (c:Nat->Nat->Int) (b:PB):Nat->Nat->Int:=bump (bump c b.a b.b b.s) b.b b.a b.s
def nF (bs:List PB):Nat->Nat->Int:=bs.foldl qv fun _ _=>0
theorem IG (bs:List PB) (b:PB):nF (bs++[b])=qv (nF bs) b:=by simp[nF]
theorem Fo {n:Nat} {S:Nat->Bool}:∀(bs:List PB) (c:Nat->Nat->Int),(∀b∈bs,b.a<n/\b.b<n)->pa n S (bs.foldl qv c)=pa n S c+ko S bs
 |[],c,_=>by simp[ko]
 |b::bs,c,h=>by
  have hb:=h b (by simp)
  rw[List.foldl_cons,Fo bs _ fun x hx=>h x (List.mem_cons_of_mem _ hx)]
  unfold qv ko
  rw[sb hb.2 hb.1,sb hb.1 hb.2,List.map_cons,List.sum_cons]
  cases S b.a<;>cases S b.b<;>simp<;>omega
theorem Fp {n:Nat} {S:Nat->Bool} {bs:List PB} (h:∀b∈bs,b.a<n/\b.b<n):pa n S (nF bs)=ko S bs:=by
 rw[nF,Fo bs _ h]
 have:pa n S (fun _ _=>0)=0:=lK fun u hu=>lK fun v hv=>by split<;>rfl
 omega
theorem Eg:∀(bs:List PB) (c:Nat->Nat->Int),(∀b∈bs,0<=b.s)->(∀u v,0<=c u v)->∀u v,0<=bs.foldl qv c u v
 |[],c,_,h=>h
 |b::bs,c,hb,h=>by
  rw[List.foldl_cons]
  refine Eg bs _ (fun x hx=>hb x (List.mem_cons_of_mem _ hx)) fun u v=>?_
  have:=hb b (by simp);have:=h u v
  unfold qv bump
  split<;>split<;>omega
theorem room_le:∀(bs:List PB) (c:Nat->Nat->Int) (m:Int),(∀b∈bs,b.s<=4)->(∀u v,c u v<=m)->0<=m->∀u v,bs.foldl qv c u v<=m+8*bs.length
 |[],c,m,_,h,_=>fun u v=>by have:=h u v;simp;omega
 |b::bs,c,m,hb,h,h0=>fun u v=>by
  rw[List.foldl_cons]
  have:=room_le bs (qv c b) (m+8) (fun x hx=>hb x (List.mem_cons_of_mem _ hx)) (fun u v=>by
   have:=hb b (by simp);have:=h u v
   unfold qv bump
   split<;>split<;>omega) ad u v
  simp only[List.length_cons];omega
def mT (n:Nat) (bs:List PB) (t:Int):Prop:=∀S:Nat->Bool,S 0=true->(∃y,y<n/\S y=false)->t<=ko S bs
def KK (S:Nat->Bool) (bs:List PB) (f:Nat->Int):Int:=l5 (fun i=>f i*(bi (S (dE bs i).a)-bi (S (dE bs i).b))) bs.length
structure lR (bs:List PB) (f:Nat->Int) (x y:Nat) (val:Int):Prop where
 le:∀i,i<bs.length->f i<=(dE bs i).s/\-(dE bs i).s<=f i
 cut:∀S:Nat->Bool,S x=true->S y=false->KK S bs f=val
theorem zL (S:Nat->Bool):∀bs:List PB,ko S bs=l5 (fun i=>if S (dE bs i).a=S (dE bs i).b then 0 else(dE bs i).s) bs.length:=by
 intro bs
 have key:∀n,n<=bs.length->ko S (bs.take n)=l5 (fun i=>if S (dE bs i).a=S (dE bs i).b then 0 else(dE bs i).s) n:=by
  intro n
  induction n with
  |zero=>intro _;rfl
  |succ n ih=>
   intro h
   have e:dE bs n=bs[n]:=by simp[dE,List.getD_eq_getElem?_getD,List.getElem?_eq_getElem (show n<bs.length by omega)]
   rw[List.take_succ_eq_append_getElem ad,l5,<-ih ad,e]
   unfold ko
   rw[List.map_append,List.sum_append]
   simp only[List.map_cons,List.map_nil,List.sum_cons,List.sum_nil,Int.add_zero]
 have:=key bs.length (Nat.le_refl _)
 rwa [List.take_length]at this
theorem lR.bound {bs:List PB} {f:Nat->Int} {x y:Nat} {val:Int} (h:lR bs f x y val) {S:Nat->Bool} (hx:S x=true) (hy:S y=false):val<=ko S bs:=by
 rw[<-h.cut S hx hy,zL]
 refine sQ fun i hi=>?_
 have:=h.le i hi
 cases S (dE bs i).a<;>cases S (dE bs i).b<;>simp[bi]<;>omega
def iq (bs:List PB) (f:Nat->Int) (i u:Nat):Int:=if (dE bs i).a=u then(dE bs i).s-f i else(dE bs i).s+f i
def dw (bs:List PB) (i u:Nat):Nat:=if (dE bs i).a=u then(dE bs i).b else(dE bs i).a
theorem lR.full {bs:List PB} {f:Nat->Int} {x y:Nat} {val:Int} (h:lR bs f x y val) {S:Nat->Bool} (hx:S x=true) (hy:S y=false)
  (hS:∀i,i<bs.length->((dE bs i).a≠(dE bs i).b->(S (dE bs i).a=true->S (dE bs i).b=false->¬0<iq bs f i (dE bs i).a)/\(S (dE bs i).b=true->S (dE bs i).a=false->¬0<iq bs f i (dE bs i).b))):val=ko S bs:=by
 rw[<-h.cut S hx hy,zL]
 refine jC fun i hi=>?_
 have h1:=h.le i hi
 by_cases pB:(dE bs i).a=(dE bs i).b
 ·rw[pB];simp
 ·have h2:=hS i hi pB
  unfold iq at h2
  rw[if_pos rfl,if_neg pB]at h2
  cases ha:S (dE bs i).a<;>cases hb:S (dE bs i).b<;>rw[ha,hb]at h2<;>simp[bi]at h2 ⊢ <;>omega
def yl (bs:List PB) (f:Nat->Int) (i u:Nat):Nat->Int:=fun j=>f j+if j=i then(if (dE bs i).a=u then 1 else -1)else 0
theorem KL {S:Nat->Bool} {bs:List PB} {f:Nat->Int} {i u:Nat} (hi:i<bs.length) (hu:(dE bs i).a=u∨(dE bs i).b=u):KK S bs (yl bs f i u)=KK S bs f+bi (S u)-bi (S (dw bs i u)):=by
 unfold KK yl
 have e:∀j,j<bs.length->(f j+if j=i then(if (dE bs i).a=u then 1 else -1)else 0)*(bi (S (dE bs j).a)-bi (S (dE bs j).b))=(fun j=>f j*(bi (S (dE bs j).a)-bi (S (dE bs j).b))) j+if j=i then(if (dE bs i).a=u then 1 else -1)*(bi (S (dE bs i).a)-bi (S (dE bs i).b))else 0:=by
  intro j hj
  by_cases h:j=i
  ·subst h;simp only[if_true];rw[Int.add_mul]
  ·simp only[h,if_false];simp
 rw[jC e,sP,if_pos hi]
 unfold dw
 by_cases ha:(dE bs i).a=u
 ·rw[if_pos ha,if_pos ha,ha];omega
 ·rw[if_neg ha,if_neg ha]
  rcases hu with hu|hu
  ·exact absurd hu ha
  ·rw[hu];omega
theorem rG:∀(n:Nat) (l:List Nat),l.Nodup->(∀x∈l,x<n)->l.length<=n
 |0,l,_,h=>by
  cases l with
  |nil=>simp
  |cons x l=>exact absurd (h x (by simp)) ad
 |n+1,l,hn,h=>by
  have h1:=rG n (l.erase n) (hn.erase _) fun x hx=>by
   have h2:=(hn.mem_erase_iff).1 hx
   have h3:=h x h2.2
   have h4:=h2.1
   omega
  rw[List.length_erase]at h1
  split at h1<;>omega
def fR (L:Nat->Nat) (b:PB):Nat->Nat:=fun k=>if L k=max (L b.a) (L b.b)then min (L b.a) (L b.b)else L k
def fu (bs:List PB):Nat->Nat:=bs.foldl fR id
theorem Aq (bs:List PB) (b:PB):fu (bs++[b])=fR (fu bs) b:=by simp[fu]
structure lq (L:Nat->Nat):Prop where
 le:∀k,L k<=k
 idem:∀k,L (L k)=L k
theorem lq.step {L:Nat->Nat} (h:lq L) (b:PB):lq (fR L b):=by
 have ha:=h.idem b.a
 have hb:=h.idem b.b
 refine⟨fun k=>?_,fun k=>?_⟩
 ·have:=h.le k
  unfold fR
  split<;>omega
 ·have hk:=h.idem k
  have hm:L (min (L b.a) (L b.b))=min (L b.a) (L b.b):=by
   rcases Nat.le_total (L b.a) (L b.b)with h1|h1
   ·rw[Nat.min_eq_left h1,ha]
   ·rw[Nat.min_eq_right h1,hb]
  unfold fR
  by_cases h1:L k=max (L b.a) (L b.b)
  ·rw[if_pos h1,hm];split<;>rfl
  ·rw[if_neg h1,hk,if_neg h1]
theorem Ar:∀(bs:List PB) (L:Nat->Nat),lq L->lq (bs.foldl fR L)
 |[],_,h=>h
 |b::bs,L,h=>Ar bs _ (h.step b)
theorem yf (bs:List PB):lq (fu bs):=Ar bs id ⟨fun _=>Nat.le_refl _,fun _=>rfl⟩
def leads (n:Nat) (L:Nat->Nat):List Nat:=(List.range n).filter fun i=>L i==i
def members (n:Nat) (L:Nat->Nat) (i:Nat):List Nat:=(List.range n).filter fun k=>L k==i
def gZ (n:Nat) (L:Nat->Nat):List (List Nat):=(leads n L).map (members n L)
def dv (L:Nat->Nat) (k:Nat):Nat:=(leads (L k) L).length
theorem jm (n:Nat) (L:Nat->Nat):leads (n+1) L=leads n L++if L n=n then[n]else[]:=by
 unfold leads
 rw[List.range_succ,List.filter_append]
 congr 1
 by_cases h:L n=n<;>simp[h]
theorem kQ (n:Nat) (L:Nat->Nat) (i:Nat):members (n+1) L i=members n L i++if L n=i then[n]else[]:=by
 unfold members
 rw[List.range_succ,List.filter_append]
 congr 1
 by_cases h:L n=i<;>simp[h]
theorem pQ {L:Nat->Nat} (h:lq L) {n i:Nat} (hn:n<=i):members n L i=[]:=by
 unfold members
 rw[List.filter_eq_nil_iff]
 intro k hk
 have:=h.le k
 have:=List.mem_range.1 hk
 simp;omega
theorem yg (n:Nat) (L:Nat->Nat):(leads n L).Nodup:=List.nodup_range.filter _
theorem CE {n:Nat} {L:Nat->Nat} {i:Nat}:i∈leads n L↔i<n/\L i=i:=by simp[leads]
theorem oz {n:Nat} {L:Nat->Nat} {i k:Nat}:k∈members n L i↔k<n/\L k=i:=by simp[members]
theorem Lv {L:Nat->Nat} {m n:Nat} (h:m<=n):∃r,leads n L=leads m L++r:=by
 obtain⟨d,rfl⟩:=Nat.le.dest h
 clear h
 induction d with
 |zero=>exact⟨[],by simp⟩
 |succ d ih=>
  obtain⟨r,hr⟩:=ih
  exact⟨r++if L (m+d)=m+d then[m+d]else[],by rw[<-Nat.add_assoc,jm,hr,List.append_assoc]⟩
theorem sq {L:Nat->Nat} (h:lq L) {n k:Nat} (hk:k<n):(leads n L)[dv L k]? =some (L k):=by
 have h1:=h.le k
 obtain⟨r,hr⟩:=Lv (L:=L) (show L k+1<=n by omega)
 rw[hr,jm,if_pos (h.idem k),List.append_assoc]
 unfold dv
 rw[List.getElem?_append_right (Nat.le_refl _),Nat.sub_self];rfl
theorem lZ {L:Nat->Nat} (h:lq L) {n k:Nat} (hk:k<n):dv L k<(leads n L).length:=(List.getElem?_eq_some_iff.1 (sq h hk)).1
theorem xr {L:Nat->Nat} (h:lq L) {n k i:Nat} (hk:k<n) (hi:i<(leads n L).length):k∈members n L (leads n L)[i]↔dv L k=i:=by
 rw[oz]
 have h1:=sq h hk
 rw[List.getElem?_eq_getElem (lZ h hk)]at h1
 injection h1 with h1
 constructor
 ·rintro⟨_,h2⟩
  rw[<-h1]at h2
  exact(List.getElem_inj (yg n L)).1 h2
 ·rintro rfl
  exact⟨hk,h1.symm⟩
def eG (L:Nat->Nat) (bs:List PB):List PB:=bs.filterMap fun b=>if dv L b.a=dv L b.b then none else some ⟨dv L b.a,dv L b.b,b.s⟩
def gD (L:Nat->Nat) (bs:List PB):List PB:=bs.filterMap fun b=>if dv L b.a=dv L b.b then none else some ⟨min (dv L b.a) (dv L b.b),max (dv L b.a) (dv L b.b),b.s⟩
theorem Ej (L:Nat->Nat) (bs:List PB) (b:PB):eG L (bs++[b])=eG L bs++if dv L b.a=dv L b.b then[]else[⟨dv L b.a,dv L b.b,b.s⟩]:=by
 unfold eG
 rw[List.filterMap_append]
 congr 1
 by_cases h:dv L b.a=dv L b.b<;>simp[h]
theorem Ek (L:Nat->Nat) (bs:List PB) (b:PB):gD L (bs++[b])=gD L bs++if dv L b.a=dv L b.b then[]else[⟨min (dv L b.a) (dv L b.b),max (dv L b.a) (dv L b.b),b.s⟩]:=by
 unfold gD
 rw[List.filterMap_append]
 congr 1
 by_cases h:dv L b.a=dv L b.b<;>simp[h]
theorem wT (S:Nat->Bool) (b:PB) (bs:List PB):ko S (b::bs)=(if S b.a=S b.b then 0 else b.s)+ko S bs:=by simp[ko]
theorem Cc (S:Nat->Bool) (L:Nat->Nat):∀bs:List PB,ko S (gD L bs)=ko S (eG L bs)
 |[]=>rfl
 |b::bs=>by
  have ih:=Cc S L bs
  unfold gD eG at ih ⊢
  rw[List.filterMap_cons,List.filterMap_cons]
  by_cases h:dv L b.a=dv L b.b
  ·simp only[h,if_true];exact ih
  ·simp only[h,if_false]
   rw[wT,wT,ih]
   congr 1
   simp only
   rcases Nat.le_total (dv L b.a) (dv L b.b)with h1|h1
   ·rw[Nat.min_eq_left h1,Nat.max_eq_right h1]
   ·rw[Nat.min_eq_right h1,Nat.max_eq_left h1]
    cases S (dv L b.a)<;>cases S (dv L b.b)<;>rfl
theorem IK {L:Nat->Nat} (h:lq L) {n:Nat} {bs:List PB} (hb:∀b∈bs,b.a<n/\b.b<n):∀b∈eG L bs,b.a<(leads n L).length/\b.b<(leads n L).length/\b.a≠b.b/\∃c∈bs,b.s=c.s:=by
 intro b hm
 unfold eG at hm
 obtain⟨c,hc,he⟩:=List.mem_filterMap.1 hm
 split at he
 ·cases he
 ·rename_i hZ
  simp only[Option.some.injEq]at he
  subst he
  exact⟨lZ h (hb c hc).1,lZ h (hb c hc).2,hZ,c,hc,rfl⟩
theorem IL {L:Nat->Nat} (h:lq L) {n:Nat} {bs:List PB} (hb:∀b∈bs,b.a<n/\b.b<n):∀b∈gD L bs,b.a<(leads n L).length/\b.b<(leads n L).length/\b.a≠b.b/\∃c∈bs,b.s=c.s:=by
 intro b hm
 unfold gD at hm
 obtain⟨c,hc,he⟩:=List.mem_filterMap.1 hm
 split at he
 ·cases he
 ·rename_i hZ
  simp only[Option.some.injEq]at he
  subst he
  have h1:=lZ h (hb c hc).1
  have h2:=lZ h (hb c hc).2
  refine⟨by simp only;omega,by simp only;omega,by simp only;omega,c,hc,rfl⟩
theorem pV (L:Nat->Nat) (bs:List PB):(eG L bs).length<=bs.length/\(gD L bs).length<=bs.length:=⟨List.length_filterMap_le ..,List.length_filterMap_le ..⟩
theorem ke (n:Nat) (L:Nat->Nat):(leads n L).length<=n:=by
 have:=List.length_filter_le (fun i=>L i==i) (List.range n)
 simpa[leads]using this
def bV (t:Int) (bs:List PB):List PB:=bs.filter fun b=>decide (t<=b.s)
def nZ (n:Nat) (bs:List PB) (t:Int):Prop:=
 (leads n (fu (bV t bs))).length<=64/\mT (leads n (fu (bV t bs))).length (eG (fu (bV t bs)) bs) t
theorem H8 {n:Nat} {L:Nat->Nat} {bs:List PB} {t:Int}:mT n (gD L bs) t↔mT n (eG L bs) t:=by
 unfold mT
 constructor<;>intro h S h0 hy<;>have:=h S h0 hy<;>rw[Cc]at *<;>exact this
def aY (b:PB):List AV:=[.int .i64 b.a,.int .i64 b.b,.int .i64 b.s]
theorem TK:∀b:PB,(aY b).length=3/\(aY b).all AV.cell=true:=fun _=>⟨rfl,rfl⟩
theorem Dw (g:Rows) (n:Nat) (b:PB):eC g (n+1) (aY b)=some (aY b):=by simp[aY,aj,ar,aJ]
theorem y8 (g:Rows) (n:Nat) (b:PB):fA g (n+1) (aY b)=some (aY b):=by simp[aY,cF,dq,eT]
theorem Nq:X1 aY (fun c=>.agg (aY c)) 3 true:=⟨fun _=>rfl,fun _=>rfl,fun x g=>by simp only[aY,aj,ar,bj,aJ,Option.map_some]⟩
def mW (s:ay) (l:List aa) (i:Nat) (d:Int):List PB:=
 if 0<=eO l (cj (bh l i).bf d)/\0<fM s (bh l i).bc d (bh l (eO l (cj (bh l i).bf d)).toNat).bc then
  [⟨i,(eO l (cj (bh l i).bf d)).toNat,fM s (bh l i).bc d (bh l (eO l (cj (bh l i).bf d)).toNat).bc⟩]else[]
def gW (s:ay) (l:List aa) (i m:Nat):List PB:=(List.range m).flatMap fun j:Nat=>mW s l i (1-(j:Int))
def jl (s:ay) (l:List aa) (n:Nat):List PB:=(List.range n).flatMap fun i=>gW s l i 2
def ea (s:ay) (l:List aa):List PB:=jl s l l.length
theorem lP (s:ay) (l:List aa) (i m:Nat):gW s l i (m+1)=gW s l i m++mW s l i (1-(m:Int)):=by simp[gW,List.range_succ]
theorem uM (s:ay) (l:List aa) (n:Nat):jl s l (n+1)=jl s l n++gW s l n 2:=by simp[jl,List.range_succ]
theorem HB (s:ay) (l:List aa) (i:Nat) (d:Int):(mW s l i d).length<=1:=by unfold mW;split<;>simp
theorem uL (s:ay) (l:List aa) (i m:Nat):(gW s l i m).length<=m:=by
 induction m with
 |zero=>simp[gW]
 |succ m ih=>rw[lP,List.length_append];have:=HB s l i (1-(m:Int));omega
theorem xP (s:ay) (l:List aa) (n:Nat):(jl s l n).length<=2*n:=by
 induction n with
 |zero=>simp[jl]
 |succ n ih=>rw[uM,List.length_append];have:=uL s l n 2;omega
def sB:Id->Prop:=fun o=>o.site=114001000∨o.site=114012006
theorem Im (s:ay) (l:List aa) (hS:kd s) (hA:iS s l):ax Tryz.prog 114 [.er (ae s),.er [.sl (l.map ab)]] (.sl ((ea s l).map aY)):=by
 refine ax.body fW rfl fun hl n0=>?_
 clear hl
 have hF:=hA.1
 have Ab:=hF.xR
 (try((repeat(revert N;apply Pn.out));refine wk @Nat.zero_add ?_;(repeat(apply Pn.mk;intro N hN))))
 refine cm (fun n env st=>∃k:Nat,n=(l.length)-k/\k<=(l.length)/\env 6=.int .i64 (k:Int)/\(pG aY 3 (env 5) st.get sB (jl s l k))) (l.length) ⟨0,ad,ad,sl @Nat.zero_add,⟨⟨114001000,n0+1⟩,.inl rfl,by simp only[go_sem, ↓reduceIte,Nat.reduceEqDiff,Nat.reduceAdd,Nat.reduceSub,Nat.reduceLeDiff,reduceCtorEq];rfl,by simp only[go_sem, ↓reduceIte,Nat.reduceEqDiff,Nat.reduceAdd,Nat.reduceSub,Nat.reduceLeDiff,reduceCtorEq];rfl⟩⟩ ?_
 rintro n_a env_a st_a ⟨k,rfl,ale,a6,oI⟩ eJ
 have a0:=eJ 0 (by kernel_rfl);have a1:=eJ 1 (by kernel_rfl)
 simp only[go_sem, ↓reduceIte,Nat.reduceEqDiff,Nat.reduceAdd,Nat.reduceSub,Nat.reduceLeDiff,reduceCtorEq]at a0 a1
 clear eJ
 by_cases hk:(k:Int)<(l.length:Int)
 ·have eh:∀{e:Env} {gg:Rows},(e 6=.int .i64 (IntKind.i64.wrap ((k:Int)+1)))->(pG aY 3 (e 5) gg sB (jl s l (k+1)))->∃m0,m0<(l.length)-k/\∃k:Nat,m0=(l.length)-k/\k<=(l.length)/\e 6=.int .i64 (k:Int)/\(pG aY 3 (e 5) gg sB (jl s l k)):=fun x1 x2=>⟨_,ad,k+1,rfl,ad,(by rw[x1,aX ad]),x2⟩
  have ji:k<l.length:=ad
  have gx:=gK ji
  have Rb:=xP s l k
  (try((repeat(revert N;apply Pn.out));refine wk (tw @a6 (tw @a0 (tw @a1 @hk))) ?_;(repeat(apply Pn.mk;intro N hN))))
  refine cm (fun n env st=>∃m:Nat,n=(2)-m/\m<=(2)/\env 7=(.int .i64 (1-(m:Int)))/\(pG aY 3 (env 5) st.get sB (jl s l k++gW s l k m))) (2) ⟨0,ad,ad,sl (tw @a6 (tw @a0 @a1)),by(simp only[go_sem, ↓reduceIte,Nat.reduceEqDiff,Nat.reduceAdd,Nat.reduceSub,Nat.reduceLeDiff,reduceCtorEq];exact oI.cast (by simp[gW]))⟩ ?_
  rintro n_b env_b st_b ⟨m,rfl,ble,b7,bI0⟩ fb
  have b0:=fb 0 (by kernel_rfl);have b1:=fb 1 (by kernel_rfl);have b6:=fb 6 (by kernel_rfl)
  simp only[go_sem, ↓reduceIte,Nat.reduceEqDiff,Nat.reduceAdd,Nat.reduceSub,Nat.reduceLeDiff,reduceCtorEq,a6,a0,a1]at b0 b1 b6
  clear fb
  have Mr:=uL s l k m
  have oq:=lP s l k m
  by_cases hm:(m:Int)<2
  ·have fS:∀{e:Env} {gg:Rows},(e 7=(.int .i64 (1-((m+1):Int))))->(pG aY 3 (e 5) gg sB (jl s l k++gW s l k (m+1)))->∃m0,m0<(2)-m/\∃m:Nat,m0=(2)-m/\m<=(2)/\e 7=(.int .i64 (1-(m:Int)))/\(pG aY 3 (e 5) gg sB (jl s l k++gW s l k m)):=fun x1 x2=>⟨_,ad,m+1,rfl,ad,x1,x2⟩
   have nk:(0:Int)<=1-(m:Int):=ad
   have hd:iW (1-(m:Int)) 0 3=true:=j7 ad
   have hw:IntKind.i64.wrap (1-(m:Int)-1)=1-((m:Int)+1):=by rw[dj ad];omega
   have XI:=BN l hF k (1-(m:Int)) ji hd
   unfold mW at oq
   have hT:=hA.2 _ (gG ji)
   generalize He:eO l (cj (bh l k).bf (1-(m:Int)))=ix at *
   by_cases hi:ix<0
   ·rw[if_neg ad,List.append_nil]at oq
    (have zF:=tw @b7 (tw @b0 (tw @b1 (tw @b6 (tw @nk (tw @hw @hi)))));(repeat(first|((repeat(revert N;apply Pn.out));refine wk zF ?_;(repeat(apply Pn.mk;intro N hN)))|((try apply Or.inl);refine⟨_,ax.x (XI) (sd zF),?_⟩;apply hN;clear hN N)));try clear zF)
    exact fS (sd (tw @b7 (tw @b0 (tw @b1 (tw @b6 @hw))))) (by(simp only[go_sem, ↓reduceIte,Nat.reduceEqDiff,Nat.reduceAdd,Nat.reduceSub,Nat.reduceLeDiff,reduceCtorEq];exact bI0.cast (by rw[oq])))
   ·have Mu:0<=ix:=ad
    have U8:=j3 (l:=l) (p:=cj (bh l k).bf (1-(m:Int))) ad
    rw[He]at U8
    have jZ:=gK U8.1
    have Cr:=Lj s hS (bh l k).bc (1-(m:Int)) (bh l ix.toNat).bc hT (hA.2 _ (gG U8.1)) hd
    generalize hbv:fM s (bh l k).bc (1-(m:Int)) (bh l ix.toNat).bc=bv at *
    by_cases hb:0<bv
    ·rw[if_pos ⟨Mu,hb⟩]at oq
     (repeat(first|((repeat(revert N;apply Pn.out));refine wa (tw @b7 (tw @b0 (tw @b1 (tw @b6 (tw @nk (tw @hw (tw @hi (tw @Mu (tw @gx (tw @jZ (tw @hb @ab.eq_1))))))))))) ?_;(repeat(apply Pn.mk;intro N hN)))|((try apply Or.inl);refine⟨_,ax.x (XI) (sd (tw @b7 (tw @b0 (tw @b1 (tw @b6 (tw @nk (tw @hw (tw @hi (tw @Mu (tw @gx (tw @jZ (tw @hb @ab.eq_1)))))))))))),?_⟩;apply hN;clear hN N)|((try apply Or.inl);refine⟨_,ax.x (Cr) (sd (tw @b7 (tw @b0 (tw @b1 (tw @b6 (tw @nk (tw @hw (tw @hi (tw @Mu (tw @gx (tw @jZ (tw @hb @ab.eq_1)))))))))))),?_⟩;apply hN;clear hN N)))
     refine Wp (enc:=aY) (S:=sB) (L:=jl s l k++gW s l k m) (xv:=env_b 5) [⟨k,ix.toNat,bv⟩] rfl rfl (sd @Nat.zero_add) (bI0.frame fun o ho=>by rcases ho with ho|ho<;>simp only[go_sem, ↓reduceIte,Nat.reduceEqDiff,Nat.reduceAdd,Nat.reduceSub,Nat.reduceLeDiff,reduceCtorEq,El ho]) (sd (tw @aY.eq_1 (Int.toNat_of_nonneg Mu))) TK (.inr rfl) (by simp only[dG,List.length_append,List.length_cons,List.length_nil];omega) fun v g' hO jx=>?_
     rw[List.append_assoc,<-oq]at hO
     clear jx
     (try((repeat(revert N;apply Pn.out));refine wk (tw @b7 (tw @b0 (tw @b1 (tw @b6 @hw)))) ?_;(repeat(apply Pn.mk;intro N hN))))
     exact fS (sd (tw @b7 (tw @b0 (tw @b1 (tw @b6 @hw))))) (by(simp only[go_sem, ↓reduceIte,Nat.reduceEqDiff,Nat.reduceAdd,Nat.reduceSub,Nat.reduceLeDiff,reduceCtorEq];exact hO))
    ·rw[if_neg fun h=>hb h.2,List.append_nil]at oq
     (have zF:=tw @b7 (tw @b0 (tw @b1 (tw @b6 (tw @nk (tw @hw (tw @hi (tw @Mu (tw @gx (tw @jZ (tw @hb @ab.eq_1))))))))));(repeat(first|((repeat(revert N;apply Pn.out));refine wk zF ?_;(repeat(apply Pn.mk;intro N hN)))|((try apply Or.inl);refine⟨_,ax.x (XI) (sd zF),?_⟩;apply hN;clear hN N)|((try apply Or.inl);refine⟨_,ax.x (Cr) (sd zF),?_⟩;apply hN;clear hN N)));try clear zF)
     exact fS (sd (tw @b7 (tw @b0 (tw @b1 (tw @b6 @hw))))) (by(simp only[go_sem, ↓reduceIte,Nat.reduceEqDiff,Nat.reduceAdd,Nat.reduceSub,Nat.reduceLeDiff,reduceCtorEq];exact bI0.cast (by rw[oq])))
  ·have H6:m=2:=ad
   subst H6
   have eP:¬(0:Int)<=1-((2:Nat):Int):=ad
   (try((repeat(revert N;apply Pn.out));refine wk (tw @b7 (tw @b0 (tw @b1 (tw @b6 @eP)))) ?_;(repeat(apply Pn.mk;intro N hN))))
   exact eh (sd (tw @a6 (tw @a0 (tw @a1 (tw @b7 (tw @b0 (tw @b1 @b6))))))) (by(simp only[go_sem, ↓reduceIte,Nat.reduceEqDiff,Nat.reduceAdd,Nat.reduceSub,Nat.reduceLeDiff,reduceCtorEq];exact bI0.cast (by rw[uM])))
 ·have lk:k=l.length:=ad
  (try((repeat(revert N;apply Pn.out));refine wk (tw @a6 (tw @a0 (tw @a1 @hk))) ?_;(repeat(apply Pn.mk;intro N hN))))
  exact AZ (.inl rfl) (by simp only[go_sem, ↓reduceIte,Nat.reduceEqDiff,Nat.reduceAdd,Nat.reduceSub,Nat.reduceLeDiff,reduceCtorEq];rfl) (by rw[lk]at oI;exact oI.iy fun b=>y8 _ _ b)
theorem Gi (a b:Nat):ax Tryz.prog 147 [.int .i64 a,.int .i64 b] (.int .i64 (min a b:Nat)):=by
 refine ax.body fW rfl fun hl n0=>?_
 clear hl
 by_cases h:(a:Int)<(b:Int)
 ·(try((repeat(revert N;apply Pn.out));refine wk @h ?_;(repeat(apply Pn.mk;intro N hN))))
  exact eQ (b:=(a:Int)) (.inl rfl) (sd @Nat.zero_add) ad
 ·(try((repeat(revert N;apply Pn.out));refine wk @h ?_;(repeat(apply Pn.mk;intro N hN))))
  exact eQ (b:=(b:Int)) (.inl rfl) (sd @Nat.zero_add) ad
theorem Gh (a b:Nat):ax Tryz.prog 37 [.int .i64 a,.int .i64 b] (.int .i64 (max a b:Nat)):=by
 refine ax.body fW rfl fun hl n0=>?_
 clear hl
 by_cases h:(b:Int)<(a:Int)
 ·(try((repeat(revert N;apply Pn.out));refine wk @h ?_;(repeat(apply Pn.mk;intro N hN))))
  exact eQ (b:=(a:Int)) (.inl rfl) (sd @Nat.zero_add) ad
 ·(try((repeat(revert N;apply Pn.out));refine wk @h ?_;(repeat(apply Pn.mk;intro N hN))))
  exact eQ (b:=(b:Int)) (.inl rfl) (sd @Nat.zero_add) ad
def eM (f:Nat->Nat) (n:Nat):List (List AV):=(List.range n).map fun i=>eN (f i)
theorem iM (f:Nat->Nat) (n:Nat):(eM f n).length=n:=by simp[eM]
theorem gP {f:Nat->Nat} {n i:Nat} (h:i<n):(eM f n)[i]? =some (eN (f i)):=by simp[eM,h]
theorem js {f g:Nat->Nat} {n:Nat} (h:∀i,i<n->f i=g i):eM f n=eM g n:=List.map_congr_left fun i hi=>by rw[h i (List.mem_range.1 hi)]
theorem sR {f g:Nat->Nat} {n k v:Nat} (hk:k<n) (hv:g k=v) (h:∀i,i<n->i≠k->g i=f i):(eM f n).set k (eN v)=eM g n:=by
 refine List.ext_getElem? fun i=>?_
 rw[List.getElem?_set]
 by_cases hi:k=i
 ·subst hi
  rw[if_pos rfl,iM,if_pos hk,gP hk,hv]
 ·rw[if_neg hi]
  by_cases gS:i<n
  ·rw[gP gS,gP gS,h i gS (fun h=>hi h.symm)]
  ·rw[List.getElem?_eq_none (by rw[iM];omega),List.getElem?_eq_none (by rw[iM];omega)]
theorem Gk (cnt:Nat) (hn:cnt<=1048576) (bs:List PB) (hb:∀b∈bs,b.a<cnt/\b.b<cnt) (kq:bs.length<=1048576):ax Tryz.prog 146 [.int .i64 cnt,.sl (bs.map aY)] (.sl ((gZ cnt (fu bs)).map EI)):=by
 refine ax.body fW rfl fun hl n0=>?_
 clear hl
 (try((repeat(revert N;apply Pn.out));refine wk @Nat.zero_add ?_;(repeat(apply Pn.mk;intro N hN))))
 refine cm (fun n env st=>∃k:Nat,n=(cnt)-k/\k<=(cnt)/\env 6=.int .i64 (k:Int)/\(∃o:Id,env 5=.own o 0 k/\st.get o=some ⟨true,1,eM id k⟩/\o.bt<st.next)) (cnt) ⟨0,ad,ad,sl @Nat.zero_add,⟨⟨146001000,n0+1⟩,sd @Nat.zero_add,by simp only[go_sem, ↓reduceIte,Nat.reduceEqDiff,Nat.reduceAdd,Nat.reduceSub,Nat.reduceLeDiff,reduceCtorEq];rfl,bp⟩⟩ ?_
 rintro n_a env_a st_a ⟨k,rfl,ale,a6,oI⟩ eJ
 have a0:=eJ 0 (by kernel_rfl);have a1:=eJ 1 (by kernel_rfl)
 simp only[go_sem, ↓reduceIte,Nat.reduceEqDiff,Nat.reduceAdd,Nat.reduceSub,Nat.reduceLeDiff,reduceCtorEq]at a0 a1
 clear eJ
 obtain⟨o,a5,ag,wI⟩:=oI
 have tl:=iM id k
 have qn:=dp wI
 by_cases hk:(k:Int)<(cnt:Int)
 ·have eh:∀{e:Env} {gg:Rows} {nx:Nat},(e 6=.int .i64 (IntKind.i64.wrap ((k:Int)+1)))->(∃o:Id,e 5=.own o 0 (k+1)/\gg o=some ⟨true,1,eM id (k+1)⟩/\o.bt<nx)->∃m0,m0<(cnt)-k/\∃k:Nat,m0=(cnt)-k/\k<=(cnt)/\e 6=.int .i64 (k:Int)/\(∃o:Id,e 5=.own o 0 k/\gg o=some ⟨true,1,eM id k⟩/\o.bt<nx):=fun x1 x2=>⟨_,ad,k+1,rfl,ad,(by rw[x1,aX ad]),x2⟩
  have ji:k<cnt:=ad
  have e1:k+1<=16777216:=ad
  have s5:eM id k++[[.int .i64 (k:Int)]]=eM id (k+1):=by simp[eM,List.range_succ,eN]
  (try((repeat(revert N;apply Pn.out));refine wk (tw @a6 (tw @a0 (tw @a1 (tw @a5 (tw @ag (tw @qn (tw @hk (tw @tl (tw @e1 @s5))))))))) ?_;(repeat(apply Pn.mk;intro N hN))))
  exact eh (sd (tw @a6 (tw @a0 @a1))) (⟨⟨146005003,st_a.next+1⟩,sd @Nat.zero_add,sd @s5,bp⟩)
 have lk:k=cnt:=ad
 subst lk
 have ho4:st_a.get o=some ⟨true,1,eM (fu (bs.take 0)) k⟩:=ag
 clear ag
 (try((repeat(revert N;apply Pn.out));refine wk (tw @a6 (tw @a0 (tw @a1 @hk))) ?_;(repeat(apply Pn.mk;intro N hN))))
 refine cm (fun n env st=>∃j:Nat,n=(bs.length)-j/\j<=(bs.length)/\env 7=.int .i64 (j:Int)/\st.get o=some ⟨true,1,eM (fu (bs.take j)) k⟩/\(o.bt<st.next)) (bs.length) ⟨0,ad,ad,sl (tw @a6 (tw @a0 (tw @a1 (tw @a5 @ho4)))),sl (tw @a6 (tw @a0 (tw @a1 (tw @a5 @ho4)))),bp⟩ ?_
 rintro n_b env_b st_b ⟨j,rfl,ble,b7,bg0,bI0⟩ fb
 have b0:=fb 0 (by kernel_rfl);have b1:=fb 1 (by kernel_rfl);have b5:=fb 5 (by kernel_rfl)
 simp only[go_sem, ↓reduceIte,Nat.reduceEqDiff,Nat.reduceAdd,Nat.reduceSub,Nat.reduceLeDiff,reduceCtorEq,a6,a0,a1,a5,ho4]at b0 b1 b5
 clear fb
 by_cases hj:(j:Int)<(bs.length:Int)
 ·have fS:∀{e:Env} {gg:Rows} {nx:Nat},(e 7=.int .i64 (IntKind.i64.wrap ((j:Int)+1)))->(gg o=some ⟨true,1,eM (fu (bs.take (j+1))) k⟩)->(o.bt<nx)->∃m0,m0<(bs.length)-j/\∃j:Nat,m0=(bs.length)-j/\j<=(bs.length)/\e 7=.int .i64 (j:Int)/\gg o=some ⟨true,1,eM (fu (bs.take j)) k⟩/\(o.bt<nx):=fun x1 x2 x3=>⟨_,ad,j+1,rfl,ad,(by rw[x1,aX ad]),x2,x3⟩
  have oU:j<bs.length:=ad
  have DK:(bs.map aY)[j]? =some (aY bs[j]):=by simp[oU]
  have QT:=hb _ (List.getElem_mem oU)
  have ox:bs.take (j+1)=bs.take j++[bs[j]]:=List.take_succ_eq_append_getElem oU
  have oq:fu (bs.take (j+1))=fR (fu (bs.take j)) bs[j]:=by rw[ox,Aq]
  generalize fu (bs.take j)=L at *
  generalize bs[j]=b at *
  have hA:=gP (f:=L) QT.1
  have hB:=gP (f:=L) QT.2
  have hMn:=Gi (L b.a) (L b.b)
  have hMx:=Gh (L b.a) (L b.b)
  have tl:=iM L k
  have jb:(b.a:Int)<(k:Int):=ad
  have gV:(b.b:Int)<(k:Int):=ad
  (try((repeat(revert N;apply Pn.out));refine wk (tw @b7 (tw @bg0 (tw @b0 (tw @b1 (tw @b5 (tw @hj (tw @DK (tw @aY.eq_1 (tw @hA (tw @hB (tw @jb (tw @gV (tw @tl @eN.eq_1))))))))))))) ?_;(repeat(apply Pn.mk;intro N hN))))
  refine cm (fun n env st=>∃i:Nat,n=(k)-i/\i<=(k)/\env 10=.int .i64 (i:Int)/\st.get o=some ⟨true,1,eM (fun x=>if x<i then fR L b x else L x) k⟩/\(o.bt<st.next)) (k) ⟨0,ad,ad,sl (tw @b7 (tw @bg0 (tw @b0 (tw @b1 (tw @b5 @Nat.not_lt_zero))))),sl (tw @b7 (tw @bg0 (tw @b0 (tw @b1 (tw @b5 @Nat.not_lt_zero))))),bp⟩ ?_
  rintro n_c env_c st_c ⟨i,rfl,cle,iR,cg0,cI0⟩ jA
  have c0:=jA 0 (by kernel_rfl);have c1:=jA 1 (by kernel_rfl);have c5:=jA 5 (by kernel_rfl);have c7:=jA 7 (by kernel_rfl);have c8:=jA 8 (by kernel_rfl);have c9:=jA 9 (by kernel_rfl)
  simp only[go_sem, ↓reduceIte,Nat.reduceEqDiff,Nat.reduceAdd,Nat.reduceSub,Nat.reduceLeDiff,reduceCtorEq,b7,bg0,b0,b1,b5,Nat.not_lt_zero]at c0 c1 c5 c7 c8 c9
  clear jA
  have hC:=gP (f:=fun x=>if x<i then fR L b x else L x) (n:=k) (i:=i)
  have tc:=iM (fun x=>if x<i then fR L b x else L x) k
  by_cases hi:(i:Int)<(k:Int)
  ·have iL:∀{e:Env} {gg:Rows} {nx:Nat},(e 10=.int .i64 (IntKind.i64.wrap ((i:Int)+1)))->(gg o=some ⟨true,1,eM (fun x=>if x<(i+1)then fR L b x else L x) k⟩)->(o.bt<nx)->∃m0,m0<(k)-i/\∃i:Nat,m0=(k)-i/\i<=(k)/\e 10=.int .i64 (i:Int)/\gg o=some ⟨true,1,eM (fun x=>if x<i then fR L b x else L x) k⟩/\(o.bt<nx):=fun x1 x2 x3=>⟨_,ad,i+1,rfl,ad,(by rw[x1,aX ad]),x2,x3⟩
   have gS:i<k:=ad
   replace hC:=hC gS
   rw[if_neg (Nat.lt_irrefl i)]at hC
   by_cases he:L i=max (L b.a) (L b.b)
   ·have uw:decide ((L i:Int)=((max (L b.a) (L b.b):Nat):Int))=true:=decide_eq_true (by rw[he])
    have fU:(eM (fun x=>if x<i then fR L b x else L x) k).set i (eN (min (L b.a) (L b.b)))=eM (fun x=>if x<i+1 then fR L b x else L x) k:=sR gS (by rw[if_pos ad,fR,if_pos he]) fun x hx Hj=>by
     by_cases h:x<i
     ·rw[if_pos h,if_pos ad]
     ·rw[if_neg h,if_neg ad]
    rw[eN]at fU hC
    (have zF:=tw @iR (tw @cg0 (tw @c0 (tw @c1 (tw @c5 (tw @c7 (tw @c8 (tw @c9 (tw @hi (tw @hC (tw @tc (tw @uw @fU)))))))))));(repeat(first|((repeat(revert N;apply Pn.out));refine wk zF ?_;(repeat(apply Pn.mk;intro N hN)))|((try apply Or.inl);refine⟨_,ax.x (hMn) (sd zF),?_⟩;apply hN;clear hN N)|((try apply Or.inl);refine⟨_,ax.x (hMx) (sd zF),?_⟩;apply hN;clear hN N)));try clear zF)
    refine iL ?_ ?_ bp
    all_goals simp only[go_sem, ↓reduceIte,Nat.reduceEqDiff,Nat.reduceAdd,Nat.reduceSub,Nat.reduceLeDiff,reduceCtorEq,iR,cg0,c0,c1,c5,c7,c8,c9]
   ·have uw:decide ((L i:Int)=((max (L b.a) (L b.b):Nat):Int))=false:=decide_eq_false fun h=>he ad
    have mz:eM (fun x=>if x<i then fR L b x else L x) k=eM (fun x=>if x<i+1 then fR L b x else L x) k:=js fun x hx=>by
     by_cases h:x<i
     ·rw[if_pos h,if_pos ad]
     ·by_cases Hj:x=i
      ·subst Hj;rw[if_neg h,if_pos ad,fR,if_neg he]
      ·rw[if_neg h,if_neg ad]
    rw[eN]at hC
    (have zF:=tw @iR (tw @cg0 (tw @c0 (tw @c1 (tw @c5 (tw @c7 (tw @c8 (tw @c9 (tw @hi (tw @hC (tw @tc @uw))))))))));(repeat(first|((repeat(revert N;apply Pn.out));refine wk zF ?_;(repeat(apply Pn.mk;intro N hN)))|((try apply Or.inl);refine⟨_,ax.x (hMn) (sd zF),?_⟩;apply hN;clear hN N)|((try apply Or.inl);refine⟨_,ax.x (hMx) (sd zF),?_⟩;apply hN;clear hN N)));try clear zF)
    rw[mz]at cg0
    refine iL ?_ ?_ bp
    all_goals simp only[go_sem, ↓reduceIte,Nat.reduceEqDiff,Nat.reduceAdd,Nat.reduceSub,Nat.reduceLeDiff,reduceCtorEq,iR,cg0,c0,c1,c5,c7,c8,c9]
  ·have Cu:i=k:=ad
   subst Cu
   have eR:eM (fun x=>if x<i then fR L b x else L x) i=eM (fR L b) i:=js fun x hx=>if_pos hx
   rw[eR]at cg0
   rw[<-oq]at cg0
   (try((repeat(revert N;apply Pn.out));refine wk (tw @iR (tw @cg0 (tw @c0 (tw @c1 (tw @c5 (tw @c7 (tw @c8 (tw @c9 (tw @hi @tc))))))))) ?_;(repeat(apply Pn.mk;intro N hN))))
   refine fS ?_ ?_ bp
   all_goals simp only[go_sem, ↓reduceIte,Nat.reduceEqDiff,Nat.reduceAdd,Nat.reduceSub,Nat.reduceLeDiff,reduceCtorEq,b7,bg0,b0,b1,b5,iR,cg0,c0,c1,c5,c7,c8,c9]
 have iP:j=bs.length:=ad
 subst iP
 rw[List.take_length]at bg0
 have hL:=yf bs
 generalize fu bs=L at *
 have tl:=iM L k
 (try((repeat(revert N;apply Pn.out));refine wk (tw @b7 (tw @bg0 (tw @b0 (tw @b1 (tw @b5 @hj))))) ?_;(repeat(apply Pn.mk;intro N hN))))
 have Tf:o.bt<st_b.next:=bI0
 refine cm (fun n env st=>∃i:Nat,n=(k)-i/\i<=(k)/\env 12=.int .i64 (i:Int)/\st.get o=some ⟨true,1,eM L k⟩/\(∃oo rows ids,env 11=.own oo 0 rows.length/\st.get oo=some ⟨true,1,rows⟩/\gr Xq st.get rows ((leads i L).map (members k L)) ids/\(∀x∈oo::ids,st_b.next<=x.bt/\x.bt<st.next)/\st_b.next<=st.next/\oo∉ids)) (k) ⟨0,ad,ad,sl (tw @b7 (tw @bg0 (tw @b0 (tw @b1 (tw @b5 (dp Tf)))))),sl (tw @b7 (tw @bg0 (tw @b0 (tw @b1 (tw @b5 (dp Tf)))))),⟨⟨146016000,st_b.next+1⟩,[],[],by(simp only[go_sem, ↓reduceIte,Nat.reduceEqDiff,Nat.reduceAdd,Nat.reduceSub,Nat.reduceLeDiff,reduceCtorEq])<;>rfl,sd @Nat.zero_add,.nil,fun x hx=>by rw[List.mem_singleton.1 hx];(try dsimp only);omega,bp,by simp⟩⟩ ?_
 rintro n_d env_d st_d ⟨i,rfl,dle,d12,dg0,dI0⟩ dfr
 have d0:=dfr 0 (by kernel_rfl);have d5:=dfr 5 (by kernel_rfl)
 simp only[go_sem, ↓reduceIte,Nat.reduceEqDiff,Nat.reduceAdd,Nat.reduceSub,Nat.reduceLeDiff,reduceCtorEq,b7,bg0,b0,b1,b5,dp Tf]at d0 d5
 clear dfr
 obtain⟨oo,rows,ids,d11,dg,hR,qG,hle,np⟩:=dI0
 have s5:=jm i L
 have uA:=hR.len
 by_cases hi:(i:Int)<(k:Int)
 ·have yi:∀{e:Env} {gg:Rows} {nx:Nat},(e 12=.int .i64 (IntKind.i64.wrap ((i:Int)+1)))->(gg o=some ⟨true,1,eM L k⟩)->(∃oo rows ids,e 11=.own oo 0 rows.length/\gg oo=some ⟨true,1,rows⟩/\gr Xq gg rows ((leads (i+1) L).map (members k L)) ids/\(∀x∈oo::ids,st_b.next<=x.bt/\x.bt<nx)/\st_b.next<=nx/\oo∉ids)->∃m0,m0<(k)-i/\∃i:Nat,m0=(k)-i/\i<=(k)/\e 12=.int .i64 (i:Int)/\gg o=some ⟨true,1,eM L k⟩/\(∃oo rows ids,e 11=.own oo 0 rows.length/\gg oo=some ⟨true,1,rows⟩/\gr Xq gg rows ((leads i L).map (members k L)) ids/\(∀x∈oo::ids,st_b.next<=x.bt/\x.bt<nx)/\st_b.next<=nx/\oo∉ids):=fun x1 x2 x3=>⟨_,ad,i+1,rfl,ad,(by rw[x1,aX ad]),x2,x3⟩
  have gS:i<k:=ad
  have hC:=gP (f:=L) gS
  have mO:=dp (i:=o) (n:=st_d.next) ad
  have ZE:=dp (i:=oo) (n:=st_d.next) (qG oo (by simp)).2
  by_cases he:L i=i
  ·rw[if_pos he]at s5
   have uw:decide ((L i:Int)=(i:Int))=true:=decide_eq_true (by rw[he])
   rw[eN]at hC
   (try((repeat(revert N;apply Pn.out));refine wk (tw @d12 (tw @dg0 (tw @d0 (tw @d5 (tw @d11 (tw @dg (tw @hi (tw @hC (tw @tl (tw @uw (tw @mO @ZE))))))))))) ?_;(repeat(apply Pn.mk;intro N hN))))
   refine cm (fun n env st=>∃m:Nat,n=((k-i))-m/\m<=((k-i))/\env 14=(.int .i64 ((i+m:Nat):Int))/\(∃pp:Id,env 13=.own pp 0 (members (i+m) L i).length/\st.get pp=some ⟨true,1,(members (i+m) L i).map eN⟩/\st_d.next<=pp.bt/\pp.bt<st.next/\(∀x:Id,x.bt<st_d.next->st.get x=st_d.get x)/\st_d.next<=st.next)) ((k-i)) ⟨0,ad,ad,sl (tw @d12 (tw @dg0 (tw @d0 (tw @d5 @d11)))),⟨⟨146021000,st_d.next+1+1⟩,by rw[show members (i+0) L i=[]from pQ hL (Nat.le_refl i)];(simp only[go_sem, ↓reduceIte,Nat.reduceEqDiff,Nat.reduceAdd,Nat.reduceSub,Nat.reduceLeDiff,reduceCtorEq])<;>rfl,by rw[show members (i+0) L i=[]from pQ hL (Nat.le_refl i)];(simp only[go_sem, ↓reduceIte,Nat.reduceEqDiff,Nat.reduceAdd,Nat.reduceSub,Nat.reduceLeDiff,reduceCtorEq])<;>rfl,bp,bp,fun x hx=>sd (dp hx),bp⟩⟩ ?_
   rintro n_f env_f st_f ⟨m,rfl,fle,f14,fI0⟩ ffr
   have f0:=ffr 0 (by kernel_rfl);have f5:=ffr 5 (by kernel_rfl);have f11:=ffr 11 (by kernel_rfl);have f12:=ffr 12 (by kernel_rfl)
   simp only[go_sem, ↓reduceIte,Nat.reduceEqDiff,Nat.reduceAdd,Nat.reduceSub,Nat.reduceLeDiff,reduceCtorEq,d12,dg0,d0,d5,d11]at f0 f5 f11 f12
   clear ffr
   obtain⟨pp,f13,fg,Ia,EO,jx,sj⟩:=fI0
   have yK:st_f.get o=some ⟨true,1,eM L k⟩:=(jx o ad).trans dg0
   have hgoo:st_f.get oo=some ⟨true,1,rows⟩:=(jx oo (qG oo (by simp)).2).trans dg
   have EP:=dp EO
   have F7:=dp (i:=o) (n:=st_f.next) ad
   have ZF:=dp (i:=oo) (n:=st_f.next) (by have:=(qG oo (by simp)).2;omega)
   have XG:members (i+(m+1)) L i=members (i+m) L i++if L (i+m)=i then[i+m]else[]:=kQ (i+m) L i
   have hmle:(members (i+m) L i).length<=i+m:=by
    have:=List.length_filter_le (fun k=>L k==i) (List.range (i+m))
    simpa[members]using this
   have x1:=ei (a:=o) (b:=pp) ad
   have x2:=ei (a:=oo) (b:=pp) (by have:=(qG oo (by simp)).2;omega)
   have x3:=ei (a:=o) (b:=oo) (by have:=(qG oo (by simp)).1;omega)
   by_cases hm:m<k-i
   ·have vK:∀{e:Env} {gg:Rows} {nx:Nat},(e 14=(.int .i64 ((i+(m+1):Nat):Int)))->(∃pp:Id,e 13=.own pp 0 (members (i+(m+1)) L i).length/\gg pp=some ⟨true,1,(members (i+(m+1)) L i).map eN⟩/\st_d.next<=pp.bt/\pp.bt<nx/\(∀x:Id,x.bt<st_d.next->gg x=st_d.get x)/\st_d.next<=nx)->∃m0,m0<((k-i))-m/\∃m:Nat,m0=((k-i))-m/\m<=((k-i))/\e 14=(.int .i64 ((i+m:Nat):Int))/\(∃pp:Id,e 13=.own pp 0 (members (i+m) L i).length/\gg pp=some ⟨true,1,(members (i+m) L i).map eN⟩/\st_d.next<=pp.bt/\pp.bt<nx/\(∀x:Id,x.bt<st_d.next->gg x=st_d.get x)/\st_d.next<=nx):=fun x1 x2=>⟨_,ad,m+1,rfl,ad,x1,x2⟩
    have hmt:((i+m:Nat):Int)<(k:Int):=ad
    have hCm:=gP (f:=L) (show i+m<k by omega)
    have hw:IntKind.i64.wrap (((i+m:Nat):Int)+1)=((i+(m+1):Nat):Int):=by rw[dj ad];omega
    rw[eN]at hCm
    by_cases hq:L (i+m)=i
    ·have oi:decide ((L (i+m):Int)=(i:Int))=true:=decide_eq_true (by rw[hq])
     rw[if_pos hq]at XG
     have e1:(members (i+m) L i).length+1<=16777216:=ad
     have gy:((members (i+m) L i).map eN).length=(members (i+m) L i).length:=by simp
     (try((repeat(revert N;apply Pn.out));refine wk (tw @f14 (tw @f0 (tw @f5 (tw @f11 (tw @f12 (tw @f13 (tw @fg (tw @yK (tw @hmt (tw @hCm (tw @tl (tw @oi (tw @EP (tw @F7 (tw @x1 (tw @e1 @gy)))))))))))))))) ?_;(repeat(apply Pn.mk;intro N hN))))
     exact vK (sd (tw @f14 (tw @f0 (tw @f5 (tw @f11 (tw @f12 (tw @yK (tw @hw (tw @F7 @x1))))))))) (⟨⟨146026003,st_f.next+1+1⟩,by rw[XG,List.length_append];simp only[go_sem, ↓reduceIte,Nat.reduceEqDiff,Nat.reduceAdd,Nat.reduceSub,Nat.reduceLeDiff,reduceCtorEq,List.length_cons,List.length_nil],by rw[XG,List.map_append,List.map_cons,List.map_nil];simp only[go_sem, ↓reduceIte,Nat.reduceEqDiff,Nat.reduceAdd,Nat.reduceSub,Nat.reduceLeDiff,reduceCtorEq,eN],bp,bp,fun x hx=>by
      have y1:=jx x hx
      have y2:=ei (a:=x) (b:=pp) ad
      simp only[go_sem, ↓reduceIte,Nat.reduceEqDiff,Nat.reduceAdd,Nat.reduceSub,Nat.reduceLeDiff,reduceCtorEq,dp (show x.bt<st_f.next by omega),y1,y2],bp⟩)
    ·have oi:decide ((L (i+m):Int)=(i:Int))=false:=decide_eq_false fun h=>hq ad
     rw[if_neg hq,List.append_nil]at XG
     (try((repeat(revert N;apply Pn.out));refine wk (tw @f14 (tw @f0 (tw @f5 (tw @f11 (tw @f12 (tw @f13 (tw @fg (tw @yK (tw @hmt (tw @hCm (tw @tl (tw @oi (tw @EP (tw @F7 @x1)))))))))))))) ?_;(repeat(apply Pn.mk;intro N hN))))
     exact vK (sd (tw @f14 (tw @f0 (tw @f5 (tw @f11 (tw @f12 (tw @yK @hw))))))) (⟨pp,by rw[XG];simp only[go_sem, ↓reduceIte,Nat.reduceEqDiff,Nat.reduceAdd,Nat.reduceSub,Nat.reduceLeDiff,reduceCtorEq,f13],by rw[XG];simp only[go_sem, ↓reduceIte,Nat.reduceEqDiff,Nat.reduceAdd,Nat.reduceSub,Nat.reduceLeDiff,reduceCtorEq,fg],Ia,bp,jx,bp⟩)
   ·have hmk:i+m=k:=ad
    have hmt:¬((i+m:Nat):Int)<(k:Int):=ad
    rw[hmk]at f13 fg hmle
    have e1:rows.length+1<=16777216:=by
     have:=ke i L
     rw[uA,List.length_map];omega
    (try((repeat(revert N;apply Pn.out));refine wk (tw @f14 (tw @f0 (tw @f5 (tw @f11 (tw @f12 (tw @f13 (tw @fg (tw @yK (tw @hgoo (tw @hmt (tw @EP (tw @F7 (tw @ZF (tw @x1 (tw @x2 @e1))))))))))))))) ?_;(repeat(apply Pn.mk;intro N hN))))
    refine yi ?_ ?_ (⟨⟨146027003,st_f.next+1⟩,rows++[[.own pp 0 (members k L i).length]],ids++[pp],by rw[List.length_append];simp only[go_sem, ↓reduceIte,Nat.reduceEqDiff,Nat.reduceAdd,Nat.reduceSub,Nat.reduceLeDiff,reduceCtorEq,List.length_cons,List.length_nil],sd @Nat.zero_add,by
      rw[s5,List.map_append]
      refine(hR.frame VM fun x hx=>?_).app (.one ⟨pp,rfl,?_,rfl⟩)
      ·have h1:=qG x (by simp[hx])
       have y1:=jx x h1.2
       have y2:=ei (a:=x) (b:=pp) ad
       have y3:(x=oo)=False:=by
        simp only[eq_iff_iff,iff_false]
        rintro rfl
        exact np hx
       simp only[go_sem, ↓reduceIte,Nat.reduceEqDiff,Nat.reduceAdd,Nat.reduceSub,Nat.reduceLeDiff,reduceCtorEq,dp (show x.bt<st_f.next by omega),y1,y2,y3]
      ·simp only[go_sem, ↓reduceIte,Nat.reduceEqDiff,Nat.reduceAdd,Nat.reduceSub,Nat.reduceLeDiff,reduceCtorEq,EP,x2,fg],fun x hx=>by
      rcases List.mem_cons.1 hx with rfl|hx
      ·(try dsimp only);omega
      ·rcases List.mem_append.1 hx with hx|hx
       ·have:=qG x (by simp[hx]);(try dsimp only);omega
       ·rw[List.mem_singleton.1 hx];(try dsimp only);omega,bp,fun hc=>by
      rcases List.mem_append.1 hc with hc|hc
      ·have:=(qG _ (List.mem_cons_of_mem _ hc)).2;(try dsimp only at this);omega
      ·have:=List.mem_singleton.1 hc;rw[<-this]at EO;(try dsimp only at EO);omega⟩)
    all_goals simp only[go_sem, ↓reduceIte,Nat.reduceEqDiff,Nat.reduceAdd,Nat.reduceSub,Nat.reduceLeDiff,reduceCtorEq,f14,f0,f5,f11,f12,yK,F7,x3]
  ·rw[if_neg he,List.append_nil]at s5
   have uw:decide ((L i:Int)=(i:Int))=false:=decide_eq_false fun h=>he ad
   rw[eN]at hC
   (try((repeat(revert N;apply Pn.out));refine wk (tw @d12 (tw @dg0 (tw @d0 (tw @d5 (tw @d11 (tw @dg (tw @hi (tw @hC (tw @tl (tw @uw (tw @mO @ZE))))))))))) ?_;(repeat(apply Pn.mk;intro N hN))))
   refine yi ?_ ?_ (⟨oo,rows,ids,sd @d11,sd @dg,by rw[s5];exact hR,fun x hx=>by have:=qG x hx;(try dsimp only);omega,bp,np⟩)
   all_goals simp only[go_sem, ↓reduceIte,Nat.reduceEqDiff,Nat.reduceAdd,Nat.reduceSub,Nat.reduceLeDiff,reduceCtorEq,d12,dg0,d0,d5]
 ·have Cu:i=k:=ad
  (try((repeat(revert N;apply Pn.out));refine wk (tw @d12 (tw @dg0 (tw @d0 (tw @d5 (tw @d11 (tw @dg @hi)))))) ?_;(repeat(apply Pn.mk;intro N hN))))
  refine AZ (.inl rfl) (by simp only[go_sem, ↓reduceIte,Nat.reduceEqDiff,Nat.reduceAdd,Nat.reduceSub,Nat.reduceLeDiff,reduceCtorEq];rfl) ?_
  rw[uZ dg (by simp) (rows':=(gZ k L).map EI) (by rw[List.drop_zero,List.take_of_length_le (Nat.le_refl _)];rw[Cu]at hR;exact OA 3 hR)]
theorem Bf (n:Nat):List.replicate n [AV.int .i64 0]=eM (fun _=>0) n:=by
 refine List.ext_getElem? fun i=>?_
 by_cases h:i<n
 ·rw[gP h,List.getElem?_replicate,if_pos h];rfl
 ·rw[List.getElem?_eq_none (by simp;omega),List.getElem?_eq_none (by rw[iM];omega)]
def ep (cnt:Nat) (L:Nat->Nat) (i m:Nat):Nat->Nat:=fun x=>if dv L x<i then dv L x else if x∈(members cnt L ((leads cnt L).getD i 0)).take m then i else 0
theorem rF (cnt:Nat) (L:Nat->Nat):ep cnt L 0 0=fun _=>0:=by funext x;simp[ep]
theorem yv (t:Int) (bs:List PB) (k:Nat) (h:k<bs.length):bV t (bs.take (k+1))=bV t (bs.take k)++if t<=(bs[k]).s then[bs[k]]else[]:=by
 unfold bV
 rw[List.take_succ_eq_append_getElem h,List.filter_append]
 congr 1
 by_cases h:t<=bs[k].s<;>simp[h]
theorem Bc {t:Int} {bs:List PB} {b:PB} (h:b∈bV t bs):b∈bs:=(List.mem_filter.1 h).1
theorem pW (t:Int) (bs:List PB):(bV t bs).length<=bs.length:=List.length_filter_le _ _
theorem Gm (cnt:Nat) (hn:cnt<=1048576) (bs:List PB) (hb:∀b∈bs,b.a<cnt/\b.b<cnt) (kq:bs.length<=1048576) (t:Int):ax Tryz.prog 113 [.int .i64 cnt,.sl (bs.map aY),.int .i64 t] (.fX [.int .i64 (leads cnt (fu (bV t bs))).length,.sl ((gD (fu (bV t bs)) bs).map aY)]):=by
 refine ax.body fW rfl fun hl n0=>?_
 clear hl
 (try((repeat(revert N;apply Pn.out));refine wk @Nat.zero_add ?_;(repeat(apply Pn.mk;intro N hN))))
 refine cm (fun n env st=>∃k:Nat,n=(bs.length)-k/\k<=(bs.length)/\env 9=.int .i64 (k:Int)/\(∃o:Id,env 8=.own o 0 (bV t (bs.take k)).length/\st.get o=some ⟨true,3,(bV t (bs.take k)).map aY⟩/\o.bt<st.next)) (bs.length) ⟨0,ad,ad,sl @Nat.zero_add,⟨⟨113001000,n0+1⟩,by(simp only[go_sem, ↓reduceIte,Nat.reduceEqDiff,Nat.reduceAdd,Nat.reduceSub,Nat.reduceLeDiff,reduceCtorEq])<;>rfl,by(simp only[go_sem, ↓reduceIte,Nat.reduceEqDiff,Nat.reduceAdd,Nat.reduceSub,Nat.reduceLeDiff,reduceCtorEq])<;>rfl,bp⟩⟩ ?_
 rintro n_a env_a st_a ⟨k,rfl,ale,a9,oI⟩ eJ
 have a0:=eJ 0 (by kernel_rfl);have a1:=eJ 1 (by kernel_rfl);have a2:=eJ 2 (by kernel_rfl)
 simp only[go_sem, ↓reduceIte,Nat.reduceEqDiff,Nat.reduceAdd,Nat.reduceSub,Nat.reduceLeDiff,reduceCtorEq]at a0 a1 a2
 clear eJ
 obtain⟨o,a8,ag,wI⟩:=oI
 have qn:=dp wI
 by_cases hk:(k:Int)<(bs.length:Int)
 ·have eh:∀{e:Env} {gg:Rows} {nx:Nat},(e 9=.int .i64 (IntKind.i64.wrap ((k:Int)+1)))->(∃o:Id,e 8=.own o 0 (bV t (bs.take (k+1))).length/\gg o=some ⟨true,3,(bV t (bs.take (k+1))).map aY⟩/\o.bt<nx)->∃m0,m0<(bs.length)-k/\∃k:Nat,m0=(bs.length)-k/\k<=(bs.length)/\e 9=.int .i64 (k:Int)/\(∃o:Id,e 8=.own o 0 (bV t (bs.take k)).length/\gg o=some ⟨true,3,(bV t (bs.take k)).map aY⟩/\o.bt<nx):=fun x1 x2=>⟨_,ad,k+1,rfl,ad,(by rw[x1,aX ad]),x2⟩
  have ji:k<bs.length:=ad
  have gx:(bs.map aY)[k]? =some (aY bs[k]):=by simp[ji]
  have hs:=yv t bs k ji
  have sk:=pW t (bs.take k)
  rw[List.length_take]at sk
  by_cases hc:t<=(bs[k]).s
  ·rw[if_pos hc]at hs
   have e1:(bV t (bs.take k)).length+1<=16777216:=ad
   have gy:((bV t (bs.take k)).map aY).length=(bV t (bs.take k)).length:=by simp
   generalize bs[k]=b at *
   (try((repeat(revert N;apply Pn.out));refine wk (tw @a9 (tw @a0 (tw @a1 (tw @a2 (tw @a8 (tw @ag (tw @qn (tw @hk (tw @gx (tw @hc (tw @e1 (tw @gy @aY.eq_1)))))))))))) ?_;(repeat(apply Pn.mk;intro N hN))))
   exact eh (sd (tw @a9 (tw @a0 (tw @a1 @a2)))) (⟨⟨113006006,st_a.next+1+1⟩,by rw[hs,List.length_append];simp only[go_sem, ↓reduceIte,Nat.reduceEqDiff,Nat.reduceAdd,Nat.reduceSub,Nat.reduceLeDiff,reduceCtorEq,List.length_cons,List.length_nil],by rw[hs,List.map_append,List.map_cons,List.map_nil];simp only[go_sem, ↓reduceIte,Nat.reduceEqDiff,Nat.reduceAdd,Nat.reduceSub,Nat.reduceLeDiff,reduceCtorEq,aY],bp⟩)
  ·rw[if_neg hc,List.append_nil]at hs
   generalize bs[k]=b at *
   (try((repeat(revert N;apply Pn.out));refine wk (tw @a9 (tw @a0 (tw @a1 (tw @a2 (tw @a8 (tw @ag (tw @qn (tw @hk (tw @gx (tw @hc @aY.eq_1)))))))))) ?_;(repeat(apply Pn.mk;intro N hN))))
   exact eh (sd (tw @a9 (tw @a0 (tw @a1 @a2)))) (⟨o,by rw[hs];simp only[go_sem, ↓reduceIte,Nat.reduceEqDiff,Nat.reduceAdd,Nat.reduceSub,Nat.reduceLeDiff,reduceCtorEq,a8],by rw[hs];simp only[go_sem, ↓reduceIte,Nat.reduceEqDiff,Nat.reduceAdd,Nat.reduceSub,Nat.reduceLeDiff,reduceCtorEq,ag],bp⟩)
 have lk:k=bs.length:=ad
 subst lk
 rw[List.take_length]at a8 ag
 have Mt:=Gk cnt hn (bV t bs) (fun b h=>hb b (Bc h)) (by have:=pW t bs;omega)
 have hL:=yf (bV t bs)
 have NT:fz (ez st_a.get) 6 (.own o 0 (bV t bs).length)=some (.sl ((bV t bs).map aY)):=gm (sz:=3) (by simp[ez,ag]) rfl fun b=>Dw _ 4 b
 have hfz2:∀x,eC (ez st_a.get) 6 [.int .i64 x,.own o 0 (bV t bs).length]=some [.int .i64 x,.sl ((bV t bs).map aY)]:=fun x=>by simp only[aj,ar,aJ,NT,Option.map_some]
 (try((repeat(revert N;apply Pn.out));refine wk (tw @a9 (tw @a0 (tw @a1 (tw @a2 (tw @a8 @hk))))) ?_;(repeat(apply Pn.mk;intro N hN))))
 refine .inl ⟨_,ax.x Mt (hfz2 _),?_⟩
 apply hN
 clear hN N
 generalize fu (bV t bs)=L at *
 have sW:((gZ cnt L).map EI).length=(leads cnt L).length:=by simp[gZ]
 have hld:=ke cnt L
 have kJ:(0:Int)<=(cnt:Int):=ad
 have qK:(cnt:Int)<=((16777216:Nat):Int):=ad
 have je:List.replicate cnt [AV.int .i64 0]=eM (ep cnt L 0 0) cnt:=by rw[Bf,rF]
 (try((repeat(revert N;apply Pn.out));refine wk (tw @a9 (tw @a0 (tw @a1 (tw @a2 (tw @kJ (tw @qK @Int.le_refl)))))) ?_;(repeat(apply Pn.mk;intro N hN))))
 refine cm (fun n env st=>∃i:Nat,n=((leads cnt L).length)-i/\i<=((leads cnt L).length)/\env 12=.int .i64 (i:Int)/\st.get ⟨113008001,st_a.next+1+1⟩=some ⟨true,1,eM (ep cnt L i 0) cnt⟩/\(st_a.next+1+1<st.next)) ((leads cnt L).length) ⟨0,ad,ad,sl (tw @a9 (tw @a0 (tw @a1 (tw @a2 @je)))),sl (tw @a9 (tw @a0 (tw @a1 (tw @a2 @je)))),bp⟩ ?_
 rintro n_c env_c st_c ⟨i,rfl,cle,qT,cg0,cI0⟩ jA
 have c1:=jA 1 (by kernel_rfl);have iR:=jA 10 (by kernel_rfl);have qx:=jA 11 (by kernel_rfl)
 simp only[go_sem, ↓reduceIte,Nat.reduceEqDiff,Nat.reduceAdd,Nat.reduceSub,Nat.reduceLeDiff,reduceCtorEq,a9,a0,a1,a2,je]at c1 iR qx
 clear jA
 by_cases hi:(i:Int)<((leads cnt L).length:Int)
 ·have iL:∀{e:Env} {gg:Rows} {nx:Nat},(e 12=.int .i64 (IntKind.i64.wrap ((i:Int)+1)))->(gg ⟨113008001,st_a.next+1+1⟩=some ⟨true,1,eM (ep cnt L (i+1) 0) cnt⟩)->(st_a.next+1+1<nx)->∃m0,m0<((leads cnt L).length)-i/\∃i:Nat,m0=((leads cnt L).length)-i/\i<=((leads cnt L).length)/\e 12=.int .i64 (i:Int)/\gg ⟨113008001,st_a.next+1+1⟩=some ⟨true,1,eM (ep cnt L i 0) cnt⟩/\(st_a.next+1+1<nx):=fun x1 x2 x3=>⟨_,ad,i+1,rfl,ad,(by rw[x1,aX ad]),x2,x3⟩
  have gS:i<(leads cnt L).length:=ad
  have jZ:((gZ cnt L).map EI)[i]? =some (EI (members cnt L (leads cnt L)[i])):=by simp[gZ,gS]
  have qL:(leads cnt L).getD i 0=(leads cnt L)[i]:=by simp[List.getD_eq_getElem?_getD,gS]
  have nP:∀m,ep cnt L i m=fun x=>if dv L x<i then dv L x else if x∈(members cnt L (leads cnt L)[i]).take m then i else 0:=fun m=>by unfold ep;rw[qL]
  have ve:=fun x (hx:x<cnt)=>xr hL (n:=cnt) (k:=x) (i:=i) hx gS
  have qm:(members cnt L (leads cnt L)[i]).Nodup:=List.nodup_range.filter _
  have Ve:∀x∈members cnt L (leads cnt L)[i],x<cnt:=fun x hx=>(oz.1 hx).1
  have hMc:(members cnt L (leads cnt L)[i]).length<=cnt:=by
   have:=List.length_filter_le (fun k=>L k==(leads cnt L)[i]) (List.range cnt)
   simpa[members]using this
  generalize members cnt L (leads cnt L)[i]=M at *
  have Ha:(M.map eN).length=M.length:=by simp
  (try((repeat(revert N;apply Pn.out));refine wk (tw @qT (tw @cg0 (tw @c1 (tw @iR (tw @qx (tw @hi @sW)))))) ?_;(repeat(apply Pn.mk;intro N hN))))
  refine cm (fun n env st=>∃m:Nat,n=(M.length)-m/\m<=(M.length)/\env 13=.int .i64 (m:Int)/\st.get ⟨113008001,st_a.next+1+1⟩=some ⟨true,1,eM (ep cnt L i m) cnt⟩/\(st_a.next+1+1<st.next)) (M.length) ⟨0,ad,ad,sl (tw @qT (tw @cg0 (tw @c1 (tw @iR @qx)))),sl (tw @qT (tw @cg0 (tw @c1 (tw @iR @qx)))),bp⟩ ?_
  rintro n_d env_d st_d ⟨m,rfl,dle,d13,dg0,dI0⟩ dfr
  have d1:=dfr 1 (by kernel_rfl);have d10:=dfr 10 (by kernel_rfl);have d11:=dfr 11 (by kernel_rfl);have d12:=dfr 12 (by kernel_rfl)
  simp only[go_sem, ↓reduceIte,Nat.reduceEqDiff,Nat.reduceAdd,Nat.reduceSub,Nat.reduceLeDiff,reduceCtorEq,qT,cg0,c1,iR,qx]at d1 d10 d11 d12
  clear dfr
  have tl:=iM (ep cnt L i m) cnt
  by_cases hm:(m:Int)<(M.length:Int)
  ·have yi:∀{e:Env} {gg:Rows} {nx:Nat},(e 13=.int .i64 (IntKind.i64.wrap ((m:Int)+1)))->(gg ⟨113008001,st_a.next+1+1⟩=some ⟨true,1,eM (ep cnt L i (m+1)) cnt⟩)->(st_a.next+1+1<nx)->∃m0,m0<(M.length)-m/\∃m:Nat,m0=(M.length)-m/\m<=(M.length)/\e 13=.int .i64 (m:Int)/\gg ⟨113008001,st_a.next+1+1⟩=some ⟨true,1,eM (ep cnt L i m) cnt⟩/\(st_a.next+1+1<nx):=fun x1 x2 x3=>⟨_,ad,m+1,rfl,ad,(by rw[x1,aX ad]),x2,x3⟩
   have DN:m<M.length:=ad
   have wH:(M.map eN)[m]? =some (eN M[m]):=by simp[DN]
   have Aj:=Ve _ (List.getElem_mem DN)
   have Hj:(M[m]:Int)<(cnt:Int):=ad
   have Hi:=gP (f:=ep cnt L i m) Aj
   have fU:(eM (ep cnt L i m) cnt).set M[m] (eN i)=eM (ep cnt L i (m+1)) cnt:=sR Aj (by
    have h1:=(ve _ Aj).1 (List.getElem_mem DN)
    rw[nP]
    simp only[]
    rw[if_neg ad,if_pos (by rw[List.take_succ_eq_append_getElem DN];exact List.mem_append_right _ (List.mem_singleton.2 rfl))]) fun x hx hZ=>by
    rw[nP,nP]
    simp only[]
    rw[List.take_succ_eq_append_getElem DN]
    simp only[List.mem_append,List.mem_singleton,hZ,or_false]
   rw[eN]at fU Hi
   generalize M[m]=xm at *
   (try((repeat(revert N;apply Pn.out));refine wk (tw @d13 (tw @dg0 (tw @d1 (tw @d10 (tw @d11 (tw @d12 (tw @hm (tw @hi (tw @jZ (tw @sW (tw @wH (tw @Ha (tw @Hj (tw @Hi (tw @tl (tw @fU (tw @EI.eq_1 @eN.eq_1))))))))))))))))) ?_;(repeat(apply Pn.mk;intro N hN))))
   refine yi ?_ ?_ bp
   all_goals simp only[go_sem, ↓reduceIte,Nat.reduceEqDiff,Nat.reduceAdd,Nat.reduceSub,Nat.reduceLeDiff,reduceCtorEq,d13,dg0,d1,d10,d11,d12,fU]
  ·have gy:m=M.length:=ad
   subst gy
   have sj:eM (ep cnt L i M.length) cnt=eM (ep cnt L (i+1) 0) cnt:=js fun x hx=>by
    rw[nP,List.take_length]
    simp only[ep,List.take_zero,List.not_mem_nil,if_false]
    have h1:=ve x hx
    by_cases h2:dv L x<i
    ·rw[if_pos h2,if_pos ad]
    ·rw[if_neg h2]
     by_cases h3:x∈M
     ·rw[if_pos h3,if_pos (by have:=h1.1 h3;omega),h1.1 h3]
     ·rw[if_neg h3,if_neg fun h4=>h3 (h1.2 ad)]
   (try((repeat(revert N;apply Pn.out));refine wk (tw @d13 (tw @dg0 (tw @d1 (tw @d10 (tw @d11 (tw @d12 (tw @hm (tw @hi (tw @jZ (tw @sW (tw @Ha @EI.eq_1))))))))))) ?_;(repeat(apply Pn.mk;intro N hN))))
   refine iL ?_ ?_ bp
   all_goals simp only[go_sem, ↓reduceIte,Nat.reduceEqDiff,Nat.reduceAdd,Nat.reduceSub,Nat.reduceLeDiff,reduceCtorEq,qT,cg0,c1,iR,qx,d13,dg0,d1,d10,d11,d12,sj]
 have oj:i=(leads cnt L).length:=ad
 subst oj
 have np:eM (ep cnt L (leads cnt L).length 0) cnt=eM (dv L) cnt:=js fun x hx=>by rw[ep,if_pos (lZ hL hx)]
 rw[np]at cg0
 have tl:=iM (dv L) cnt
 (try((repeat(revert N;apply Pn.out));refine wk (tw @qT (tw @cg0 (tw @c1 (tw @iR (tw @qx (tw @hi @sW)))))) ?_;(repeat(apply Pn.mk;intro N hN))))
 have hcn:st_a.next+1+1<st_c.next:=cI0
 refine cm (fun n env st=>∃j:Nat,n=(bs.length)-j/\j<=(bs.length)/\env 15=.int .i64 (j:Int)/\st.get ⟨113008001,st_a.next+1+1⟩=some ⟨true,1,eM (dv L) cnt⟩/\(∃p:Id,env 14=.own p 0 (gD L (bs.take j)).length/\st.get p=some ⟨true,3,(gD L (bs.take j)).map aY⟩/\st_c.next<=p.bt/\p.bt<st.next)) (bs.length) ⟨0,ad,ad,sl (tw @qT (tw @cg0 (tw @c1 (tw @iR @qx)))),sl (tw @qT (tw @cg0 (tw @c1 (tw @iR @qx)))),⟨⟨113016000,st_c.next+1⟩,by(simp only[go_sem, ↓reduceIte,Nat.reduceEqDiff,Nat.reduceAdd,Nat.reduceSub,Nat.reduceLeDiff,reduceCtorEq])<;>rfl,by(simp only[go_sem, ↓reduceIte,Nat.reduceEqDiff,Nat.reduceAdd,Nat.reduceSub,Nat.reduceLeDiff,reduceCtorEq])<;>rfl,bp,bp⟩⟩ ?_
 rintro n_f env_f st_f ⟨j,rfl,fle,f15,fg0,fI0⟩ ffr
 have f1:=ffr 1 (by kernel_rfl);have f10:=ffr 10 (by kernel_rfl);have f11:=ffr 11 (by kernel_rfl)
 simp only[go_sem, ↓reduceIte,Nat.reduceEqDiff,Nat.reduceAdd,Nat.reduceSub,Nat.reduceLeDiff,reduceCtorEq,qT,cg0,c1,iR,qx]at f1 f10 f11
 clear ffr
 obtain⟨p,f14,fg,Ia,EO⟩:=fI0
 have x1:=ei (a:=⟨113008001,st_a.next+1+1⟩) (b:=p) bp
 have EP:=dp EO
 have hvn:st_a.next+1+1<st_f.next:=ad
 have K8:=dp (i:=⟨113008001,st_a.next+1+1⟩) (n:=st_f.next) hvn
 have sk:=(pV L (bs.take j)).2
 rw[List.length_take]at sk
 by_cases hj:(j:Int)<(bs.length:Int)
 ·have vK:∀{e:Env} {gg:Rows} {nx:Nat},(e 15=.int .i64 (IntKind.i64.wrap ((j:Int)+1)))->(gg ⟨113008001,st_a.next+1+1⟩=some ⟨true,1,eM (dv L) cnt⟩)->(∃p:Id,e 14=.own p 0 (gD L (bs.take (j+1))).length/\gg p=some ⟨true,3,(gD L (bs.take (j+1))).map aY⟩/\st_c.next<=p.bt/\p.bt<nx)->∃m0,m0<(bs.length)-j/\∃j:Nat,m0=(bs.length)-j/\j<=(bs.length)/\e 15=.int .i64 (j:Int)/\gg ⟨113008001,st_a.next+1+1⟩=some ⟨true,1,eM (dv L) cnt⟩/\(∃p:Id,e 14=.own p 0 (gD L (bs.take j)).length/\gg p=some ⟨true,3,(gD L (bs.take j)).map aY⟩/\st_c.next<=p.bt/\p.bt<nx):=fun x1 x2 x3=>⟨_,ad,j+1,rfl,ad,(by rw[x1,aX ad]),x2,x3⟩
  have oU:j<bs.length:=ad
  have DK:(bs.map aY)[j]? =some (aY bs[j]):=by simp[oU]
  have QT:=hb _ (List.getElem_mem oU)
  have hs:=Ek L (bs.take j) bs[j]
  rw[<-List.take_succ_eq_append_getElem oU]at hs
  generalize bs[j]=b at *
  have hA:=gP (f:=dv L) QT.1
  have hB:=gP (f:=dv L) QT.2
  have jb:(b.a:Int)<(cnt:Int):=ad
  have gV:(b.b:Int)<(cnt:Int):=ad
  have hMn:=Gi (dv L b.a) (dv L b.b)
  have hMx:=Gh (dv L b.a) (dv L b.b)
  rw[eN]at hA hB
  by_cases he:dv L b.a=dv L b.b
  ·rw[if_pos he,List.append_nil]at hs
   have uw:decide ((dv L b.a:Int)=(dv L b.b:Int))=true:=decide_eq_true (by rw[he])
   (try((repeat(revert N;apply Pn.out));refine wk (tw @f15 (tw @fg0 (tw @f1 (tw @f10 (tw @f11 (tw @f14 (tw @fg (tw @hj (tw @DK (tw @hA (tw @hB (tw @jb (tw @gV (tw @tl (tw @uw (tw @x1 (tw @EP @aY.eq_1))))))))))))))))) ?_;(repeat(apply Pn.mk;intro N hN))))
   refine vK ?_ ?_ (⟨p,by rw[hs];simp only[go_sem, ↓reduceIte,Nat.reduceEqDiff,Nat.reduceAdd,Nat.reduceSub,Nat.reduceLeDiff,reduceCtorEq,f14],by rw[hs];simp only[go_sem, ↓reduceIte,Nat.reduceEqDiff,Nat.reduceAdd,Nat.reduceSub,Nat.reduceLeDiff,reduceCtorEq,fg],Ia,bp⟩)
   all_goals simp only[go_sem, ↓reduceIte,Nat.reduceEqDiff,Nat.reduceAdd,Nat.reduceSub,Nat.reduceLeDiff,reduceCtorEq,f15,fg0,f1,f10,f11]
  ·rw[if_neg he]at hs
   have uw:decide ((dv L b.a:Int)=(dv L b.b:Int))=false:=decide_eq_false fun h=>he ad
   have e1:(gD L (bs.take j)).length+1<=16777216:=ad
   have gy:((gD L (bs.take j)).map aY).length=(gD L (bs.take j)).length:=by simp
   (have zF:=tw @f15 (tw @fg0 (tw @f1 (tw @f10 (tw @f11 (tw @f14 (tw @fg (tw @hj (tw @DK (tw @hA (tw @hB (tw @jb (tw @gV (tw @tl (tw @uw (tw @x1 (tw @EP (tw @K8 (tw @e1 (tw @gy @aY.eq_1)))))))))))))))))));(repeat(first|((repeat(revert N;apply Pn.out));refine wk zF ?_;(repeat(apply Pn.mk;intro N hN)))|((try apply Or.inl);refine⟨_,ax.x (hMn) (sd zF),?_⟩;apply hN;clear hN N)|((try apply Or.inl);refine⟨_,ax.x (hMx) (sd zF),?_⟩;apply hN;clear hN N)));try clear zF)
   refine vK ?_ ?_ (⟨⟨113023014,st_f.next+1+1+1+1⟩,by rw[hs,List.length_append];simp only[go_sem, ↓reduceIte,Nat.reduceEqDiff,Nat.reduceAdd,Nat.reduceSub,Nat.reduceLeDiff,reduceCtorEq,List.length_cons,List.length_nil],by rw[hs,List.map_append,List.map_cons,List.map_nil];simp only[go_sem, ↓reduceIte,Nat.reduceEqDiff,Nat.reduceAdd,Nat.reduceSub,Nat.reduceLeDiff,reduceCtorEq,aY],bp,bp⟩)
   all_goals simp only[go_sem, ↓reduceIte,Nat.reduceEqDiff,Nat.reduceAdd,Nat.reduceSub,Nat.reduceLeDiff,reduceCtorEq,f15,fg0,f1,f10,f11,x1,K8]
 ·have iP:j=bs.length:=ad
  subst iP
  rw[List.take_length]at f14 fg
  (try((repeat(revert N;apply Pn.out));refine wk (tw @f15 (tw @fg0 (tw @f1 (tw @f10 (tw @f11 (tw @f14 (tw @hj @sW))))))) ?_;(repeat(apply Pn.mk;intro N hN))))
  refine km (.inl rfl) (r1:=.int .i64 ((leads cnt L).length:Int)) (sd @Nat.zero_add) (by simp only[go_sem, ↓reduceIte,Nat.reduceEqDiff,Nat.reduceAdd,Nat.reduceSub,Nat.reduceLeDiff,reduceCtorEq];rfl) ?_
  have h1:iy st_f.get 5 (.own p 0 (gD L bs).length)=some (.sl ((gD L bs).map aY)):=fN (sz:=3) fg rfl fun b=>y8 _ 3 b
  simp only[gj,cF,dq,eT,h1,Option.map_some]
def Jl (bs:List PB) (e v:Nat):Prop:=(dE bs e).a=v∨(dE bs e).b=v
def j8 (bs:List PB) (m v:Nat):List Nat:=(List.range m).filter fun i=>(dE bs i).a==v||(dE bs i).b==v
theorem vp {bs:List PB} {m v e:Nat}:e∈j8 bs m v↔e<m/\Jl bs e v:=by simp[j8,Jl]
theorem Le (bs:List PB) (m v:Nat):j8 bs (m+1) v=j8 bs m v++if (dE bs m).a=v∨(dE bs m).b=v then[m]else[]:=by
 unfold j8
 rw[List.range_succ,List.filter_append]
 congr 1
 by_cases h:(dE bs m).a=v<;>by_cases h2:(dE bs m).b=v<;>simp[h,h2]
theorem vn (bs:List PB) (m v:Nat):(j8 bs m v).length<=m:=by
 have:=List.length_filter_le (fun i=>(dE bs i).a==v||(dE bs i).b==v) (List.range m)
 simpa[j8]using this
def qb (cnt:Nat) (bs:List PB):Prop:=∀e,e<bs.length->(dE bs e).a<cnt/\(dE bs e).b<cnt/\(dE bs e).a≠(dE bs e).b
theorem rI {cnt:Nat} {bs:List PB} (h:qb cnt bs) {e v:Nat} (he:e<bs.length):dw bs e v<cnt:=by
 have:=h e he;unfold dw;split;exact this.2.1;exact this.1
theorem OO {cnt:Nat} {bs:List PB} (h:qb cnt bs) {e v:Nat} (he:e<bs.length) (hi:Jl bs e v):dw bs e v≠v:=by
 have h1:=(h e he).2.2
 unfold dw
 split
 ·rename_i ha;rw[<-ha];exact fun h=>h1 h.symm
 ·rename_i ha;rcases hi with hi|hi
  ·exact absurd hi ha
  ·rw[<-hi];exact h1
theorem CL {bs:List PB} {e v:Nat}:Jl bs e (dw bs e v):=by
 unfold dw Jl;split
 ·exact .inr rfl
 ·exact .inl rfl
theorem rJ {cnt:Nat} {bs:List PB} (h:qb cnt bs) {e v:Nat} (he:e<bs.length) (hi:Jl bs e v):dw bs e (dw bs e v)=v:=by
 have h1:=(h e he).2.2
 unfold dw
 by_cases ha:(dE bs e).a=v
 ·rw[if_pos ha,if_neg h1];exact ha
 ·rw[if_neg ha,if_pos rfl]
  rcases hi with hi|hi
  ·exact absurd hi ha
  ·exact hi
structure Da (cnt:Nat) (bs:List PB) (f:Nat->Int) (y:Nat) (out:Nat->Int):Prop where
 lo:∀v,v<cnt->-1<=out v/\out v<=cnt
 first:out y=0
 zero:∀v,v<cnt->out v=0->v=y
 down:∀v,v<cnt->0<out v->∃e,e<bs.length/\Jl bs e v/\0<iq bs f e v/\out (dw bs e v)=out v-1
 shut:∀e v,e<bs.length->Jl bs e v->0<=out (dw bs e v)->0<iq bs f e v->0<=out v
structure EG (cnt:Nat) (bs:List PB) (f:Nat->Int) (y:Nat) (out:Nat->Int) (Q:List Nat) (i:Nat):Prop where
 nd:Q.Nodup
 lt:∀x∈Q,x<cnt
 iff:∀v,v<cnt->(0<=out v↔v∈Q)
 lo:∀v,v<cnt->-1<=out v
 first:out y=0
 up:∀j (h:j<Q.length),out Q[j]<=j
 zero:∀v,v<cnt->out v=0->v=y
 down:∀v,v<cnt->0<out v->∃e,e<bs.length/\Jl bs e v/\0<iq bs f e v/\out (dw bs e v)=out v-1
 shut:∀j (h:j<Q.length),j<i->∀e,e<bs.length->Jl bs e Q[j]->0<iq bs f e (dw bs e Q[j])->0<=out (dw bs e Q[j])
section
variable {cnt:Nat} {bs:List PB} {f:Nat->Int} {y:Nat} {out:Nat->Int} {Q:List Nat} {i:Nat}
theorem EG.start (hy:y<cnt):EG cnt bs f y (fun v=>if v=y then 0 else -1) [y] 0 where
 nd:=by simp
 lt:=fun x hx=>by rw[List.mem_singleton.1 hx];exact hy
 iff:=fun v _=>by
  by_cases h:v=y<;>simp[h]
 lo:=fun v _=>by split<;>omega
 first:=if_pos rfl
 up:=fun j h=>by
  have:j=0:=by simp at h;omega
  subst this;simp
 zero:=fun v _ h=>by
  by_cases hv:v=y
  ·exact hv
  ·rw[if_neg hv]at h;omega
 down:=fun v _ h=>by
  by_cases hv:v=y
  ·rw[if_pos hv]at h;omega
  ·rw[if_neg hv]at h;omega
 shut:=fun j h hj=>by omega
theorem EG.len (h:EG cnt bs f y out Q i):Q.length<=cnt:=rG cnt Q h.nd h.lt
theorem EG.visit (h:EG cnt bs f y out Q i) (ok:qb cnt bs) (hi:i<Q.length) {e:Nat} (he:e<bs.length) (sY:Jl bs e Q[i]) (lW:out (dw bs e Q[i])<0) (gM:0<iq bs f e (dw bs e Q[i])):
  EG cnt bs f y (fun v=>if v=dw bs e Q[i]then out Q[i]+1 else out v) (Q++[dw bs e Q[i]]) i:=by
 have Tk:0<=out Q[i]:=(h.iff _ (h.lt _ (List.getElem_mem hi))).2 (List.getElem_mem hi)
 have hq:=rI ok (v:=Q[i]) he
 have hZ:=OO ok he sY
 have Zo:=rJ ok he sY
 have hnin:dw bs e Q[i]∉Q:=fun hm=>by have:=(h.iff _ hq).2 hm;omega
 have nP:=h.up i hi
 generalize hw:dw bs e Q[i]=w at *
 have s7:∀v,0<=out v->(if v=w then out Q[i]+1 else out v)=out v:=fun v hv=>by
  rw[if_neg];rintro rfl;omega
 have mono:∀v,0<=out v->0<=(if v=w then out Q[i]+1 else out v):=fun v hv=>by rw[s7 v hv];exact hv
 refine⟨?_,?_,?_,?_,?_,?_,?_,?_,?_⟩
 ·rw[List.nodup_append]
  exact⟨h.nd,by simp,fun a ha b hb=>by rw[List.mem_singleton.1 hb];rintro rfl;exact hnin ha⟩
 ·intro x hx
  rcases List.mem_append.1 hx with hx|hx
  ·exact h.lt x hx
  ·rw[List.mem_singleton.1 hx];exact hq
 ·intro v hv
  by_cases My:v=w
  ·subst My;simp;omega
  ·rw[if_neg My,h.iff v hv];simp[My]
 ·intro v hv
  by_cases My:v=w
  ·rw[if_pos My];omega
  ·rw[if_neg My];exact h.lo v hv
 ·rw[s7 y (by rw[h.first];exact Int.le_refl _)];exact h.first
 ·intro j hj
  by_cases iP:j<Q.length
  ·rw[List.getElem_append_left iP,s7 _ ((h.iff _ (h.lt _ (List.getElem_mem iP))).2 (List.getElem_mem iP))]
   exact h.up j iP
  ·have QZ:j=Q.length:=by simp at hj;omega
   subst QZ
   simp
   omega
 ·intro v hv h0
  by_cases My:v=w
  ·rw[if_pos My]at h0;omega
  ·rw[if_neg My]at h0;exact h.zero v hv h0
 ·intro v hv h0
  by_cases My:v=w
  ·subst My
   rw[if_pos rfl]
   refine⟨e,he,by rw[<-hw];exact CL,gM,?_⟩
   rw[Zo,s7 _ Tk];omega
  ·rw[if_neg My]at h0 ⊢
   obtain⟨e',h1,h2,h3,h4⟩:=h.down v hv h0
   exact⟨e',h1,h2,h3,by rw[s7 _ ad];exact h4⟩
 ·intro j hj nN e' DJ Td hr
  have iP:j<Q.length:=ad
  rw[List.getElem_append_left iP]at Td hr ⊢
  exact mono _ (h.shut j iP nN e' DJ Td hr)
theorem EG.next (h:EG cnt bs f y out Q i) (hi:i<Q.length) (hs:∀e∈j8 bs bs.length Q[i],0<iq bs f e (dw bs e Q[i])->0<=out (dw bs e Q[i])):EG cnt bs f y out Q (i+1):=
 ⟨h.nd,h.lt,h.iff,h.lo,h.first,h.up,h.zero,h.down,fun j hj nN e he sY hr=>by
  by_cases QZ:j=i
  ·subst QZ;exact hs e (vp.2 ⟨he,sY⟩) hr
  ·exact h.shut j hj ad e he sY hr⟩
theorem EG.done (h:EG cnt bs f y out Q i) (ok:qb cnt bs) (hi:Q.length<=i):Da cnt bs f y out where
 lo:=fun v hv=>⟨h.lo v hv,by
  by_cases h0:0<=out v
  ·obtain⟨j,hj,rfl⟩:=List.getElem_of_mem ((h.iff v hv).1 h0)
   have:=h.up j hj
   have:=h.len
   omega
  ·omega⟩
 first:=h.first
 zero:=h.zero
 down:=h.down
 shut:=fun e v he sY h0 hr=>by
  obtain⟨j,hj,XD⟩:=List.getElem_of_mem ((h.iff _ (rI ok he)).1 h0)
  have h2:=h.shut j hj ad e he (by rw[XD];exact CL)
  rw[XD,rJ ok he sY]at h2
  exact h2 hr
end
def jJ (P:Program) (f:Nat) (args:List AV) (R:AV->Prop):Prop:=∀n:Nat,Call P f args ⟨fun _=>none,n⟩ fun r0 σ'=>∃r',iy σ'.get 6 r0=some r'/\R r'
theorem KW {P:Program} {f:Nat} {args args':List AV} {g:Rows} {n:Nat} {R:AV->Prop} (hv:eC (ez g) 6 args=some args') (h:Sound P f args' ⟨fun _=>none,n⟩ fun r0 σ'=>∃r',iy σ'.get 6 r0=some r'/\R r'):Sound P f args ⟨g,n⟩ fun r σ'=>R r/\σ'=⟨g,n⟩:=by
 intro hs D ι w vs S U A
 refine(B4 (g0:=g) (K:=R) ⟨args',hv,h⟩ (fun _ _ h=>h) S U A).mono ?_
 rintro e w' ⟨r,D',u,rfl,hR,T,S',hr⟩
 exact⟨r,g,n,D',ι,u,rfl,⟨hR,rfl⟩,T,S',U,Nat.le_refl _,hr⟩
theorem jJ.x {P:Program} (hm:P.follows .mixedOrders=true) {f:Nat} {args args':List AV} {R:AV->Prop} (h:jJ P f args' R) {σ:aw} (hv:eC (ez σ.get) 6 args=some args'):Call P f args σ fun r σ'=>R r/\σ'=σ:=
 fH (KW hv (iv hm (h σ.next)))
theorem jJ.body {P:Program} {f:Nat} {args:List AV} {R:AV->Prop} {nt na:Nat} {body:VC} {res:List sV} (hf:Fg P f=some ⟨nt,na,body,res⟩) (ha:na=args.length) (h:(∀a∈args,fP a)->∀n:Nat,eu (Call P) body (oM res fun r0 σ'=>∃r',iy σ'.get 6 r0=some r'/\R r') (cw args) ⟨fun _=>none,n⟩):jJ P f args R:=fun n=>r7 hf ha fun hl=>h hl n
def eZ (f:Nat->Int) (n:Nat):List (List AV):=(List.range n).map fun i=>aL (f i)
theorem eL (f:Nat->Int) (n:Nat):(eZ f n).length=n:=by simp[eZ]
theorem eV {f:Nat->Int} {n i:Nat} (h:i<n):(eZ f n)[i]? =some (aL (f i)):=by simp[eZ,h]
theorem nL {f g:Nat->Int} {n k:Nat} {v:Int} (hk:k<n) (hv:g k=v) (h:∀i,i<n->i≠k->g i=f i):(eZ f n).set k (aL v)=eZ g n:=by
 refine List.ext_getElem? fun i=>?_
 rw[List.getElem?_set]
 by_cases hi:k=i
 ·subst hi
  rw[if_pos rfl,eL,if_pos hk,eV hk,hv]
 ·rw[if_neg hi]
  by_cases gS:i<n
  ·rw[eV gS,eV gS,h i gS (fun h=>hi h.symm)]
  ·rw[List.getElem?_eq_none (by rw[eL];omega),List.getElem?_eq_none (by rw[eL];omega)]
theorem L3 (f:Nat->Int) (n:Nat):eZ f (n+1)=eZ f n++[aL (f n)]:=by simp[eZ,List.range_succ]
theorem fzI (g:Rows) (n:Nat) (a:Int):eC g (n+1) (aL a)=some (aL a):=by simp[aL,aj,ar,aJ]
theorem Yu (g:Rows) (n:Nat) (a:Int):fA g (n+1) (aL a)=some (aL a):=by simp[aL,cF,dq,eT]
theorem Px {g:Rows} {f:Nat->Int} {n m:Nat}:iK g (m+1) (eZ f n)=some (eZ f n):=by
 have:eZ f n=((List.range n).map f).map aL:=by simp[eZ]
 rw[this];exact xX fun x=>Yu g m x
theorem Eu {g:Rows} {f:Nat->Int} {n m:Nat}:fm g (m+1) (eZ f n)=some (eZ f n):=by
 have:eZ f n=((List.range n).map f).map aL:=by simp[eZ]
 rw[this];exact tL fun x=>fzI g m x
def Wa (l:List Nat):AV:=if l=[]then .cr else .sl (l.map eN)
def tx (cnt:Nat) (bs:List PB) (m:Nat):List (List AV):=(List.range cnt).map fun v=>[Wa (j8 bs m v)]
theorem Hu {cnt:Nat} {bs:List PB} {m v:Nat} (h:v<cnt):(tx cnt bs m)[v]? =some [Wa (j8 bs m v)]:=by simp[tx,h]
def iC (cnt:Nat) (bs:List PB) (f:Nat->Int):List AV:=[.int .i64 cnt,.sl (bs.map aY),.sl (tx cnt bs bs.length),.sl (eZ f bs.length)]
theorem yX {bs:List PB} {e:Nat} (h:e<bs.length):(bs.map aY)[e]? =some (aY (dE bs e)):=getD_map aY h
def Small (bs:List PB) (f:Nat->Int):Prop:=∀e,e<bs.length->(0<=(dE bs e).s/\(dE bs e).s<=4)/\-4<=f e/\f e<=4
theorem Pd (cnt:Nat) (bs:List PB) (f:Nat->Int) (hs:Small bs f) (e v:Nat) (he:e<bs.length):ax Tryz.prog 196 [.er (iC cnt bs f),.int .i64 v,.int .i64 e] (.fX [.int .i64 (iq bs f e v),.int .i64 (dw bs e v)]):=by
 refine ax.body fW rfl fun hl n0=>?_
 clear hl
 have hb:=yX he
 have hf:=eV (f:=f) he
 obtain⟨⟨s0,s1⟩,s2,s3⟩:=hs e he
 have w1:IntKind.i64.wrap ((dE bs e).s-f e)=(dE bs e).s-f e:=dj ad
 have w2:IntKind.i64.wrap ((dE bs e).s+f e)=(dE bs e).s+f e:=dj ad
 unfold iq dw
 generalize dE bs e=b at *
 by_cases h:b.a=v
 ·have hd:decide ((b.a:Int)=(v:Int))=true:=decide_eq_true (by rw[h])
  (try((repeat(revert N;apply Pn.out));refine wk (tw @iC.eq_1 (tw @hb (tw @hf (tw @aY.eq_1 (tw @aL.eq_1 (tw @hd (tw @w1 @w2))))))) ?_;(repeat(apply Pn.mk;intro N hN))))
  refine km (.inl rfl) (by simp only[go_sem, ↓reduceIte,Nat.reduceEqDiff,Nat.reduceAdd,Nat.reduceSub,Nat.reduceLeDiff,reduceCtorEq];rfl) (by simp only[go_sem, ↓reduceIte,Nat.reduceEqDiff,Nat.reduceAdd,Nat.reduceSub,Nat.reduceLeDiff,reduceCtorEq];rfl) ?_
  simp only[gj,cF,dq,eT,Option.map_some,if_pos h]
 ·have hd:decide ((b.a:Int)=(v:Int))=false:=decide_eq_false fun hc=>h ad
  (try((repeat(revert N;apply Pn.out));refine wk (tw @iC.eq_1 (tw @hb (tw @hf (tw @aY.eq_1 (tw @aL.eq_1 (tw @hd (tw @w1 @w2))))))) ?_;(repeat(apply Pn.mk;intro N hN))))
  refine km (.inl rfl) (by simp only[go_sem, ↓reduceIte,Nat.reduceEqDiff,Nat.reduceAdd,Nat.reduceSub,Nat.reduceLeDiff,reduceCtorEq];rfl) (by simp only[go_sem, ↓reduceIte,Nat.reduceEqDiff,Nat.reduceAdd,Nat.reduceSub,Nat.reduceLeDiff,reduceCtorEq];rfl) ?_
  simp only[gj,cF,dq,eT,Option.map_some,if_neg h]
theorem Kf (cnt:Nat) (hn:cnt<=1048576) (bs:List PB) (ok:qb cnt bs) (kq:bs.length<=1048576) (f:Nat->Int) (hs:Small bs f) (y:Nat) (hy:y<cnt):
  jJ Tryz.prog 174 [.er (iC cnt bs f),.int .i64 y] fun r=>∃out,r=.sl (eZ out cnt)/\Da cnt bs f y out:=by
 refine jJ.body fW rfl fun hl n0=>?_
 clear hl
 (try((repeat(revert N;apply Pn.out));refine wk @iC.eq_1 ?_;(repeat(apply Pn.mk;intro N hN))))
 refine cm (fun n env st=>∃k:Nat,n=(cnt)-k/\k<=(cnt)/\env 6=.int .i64 (k:Int)/\(∃o:Id,env 5=.own o 0 k/\st.get o=some ⟨true,1,eZ (fun _=>-1) k⟩/\o.bt<st.next)) (cnt) ⟨0,ad,ad,sl @iC.eq_1,⟨⟨174001000,n0+1⟩,by(simp only[go_sem, ↓reduceIte,Nat.reduceEqDiff,Nat.reduceAdd,Nat.reduceSub,Nat.reduceLeDiff,reduceCtorEq])<;>rfl,by(simp only[go_sem, ↓reduceIte,Nat.reduceEqDiff,Nat.reduceAdd,Nat.reduceSub,Nat.reduceLeDiff,reduceCtorEq])<;>rfl,bp⟩⟩ ?_
 rintro n_a env_a st_a ⟨k,rfl,ale,a6,oI⟩ eJ
 have a0:=eJ 0 (by kernel_rfl);have a1:=eJ 1 (by kernel_rfl)
 simp only[go_sem, ↓reduceIte,Nat.reduceEqDiff,Nat.reduceAdd,Nat.reduceSub,Nat.reduceLeDiff,reduceCtorEq,iC]at a0 a1
 clear eJ
 obtain⟨o,a5,ag,wI⟩:=oI
 have tl:=eL (fun _=>-1) k
 have qn:=dp wI
 by_cases hk:(k:Int)<(cnt:Int)
 ·have eh:∀{e:Env} {gg:Rows} {nx:Nat},(e 6=.int .i64 (IntKind.i64.wrap ((k:Int)+1)))->(∃o:Id,e 5=.own o 0 (k+1)/\gg o=some ⟨true,1,eZ (fun _=>-1) (k+1)⟩/\o.bt<nx)->∃m0,m0<(cnt)-k/\∃k:Nat,m0=(cnt)-k/\k<=(cnt)/\e 6=.int .i64 (k:Int)/\(∃o:Id,e 5=.own o 0 k/\gg o=some ⟨true,1,eZ (fun _=>-1) k⟩/\o.bt<nx):=fun x1 x2=>⟨_,ad,k+1,rfl,ad,(by rw[x1,aX ad]),x2⟩
  have e1:k+1<=16777216:=ad
  have s5:eZ (fun _=>-1) k++[[.int .i64 (-1)]]=eZ (fun _=>-1) (k+1):=(L3 _ _).symm
  (try((repeat(revert N;apply Pn.out));refine wk (tw @a6 (tw @a0 (tw @a1 (tw @a5 (tw @ag (tw @qn (tw @hk (tw @tl (tw @e1 (tw @s5 @iC.eq_1)))))))))) ?_;(repeat(apply Pn.mk;intro N hN))))
  exact eh (sd (tw @a6 (tw @a0 (tw @a1 @iC.eq_1)))) (⟨⟨174005002,st_a.next+1⟩,sd @Nat.zero_add,sd @s5,bp⟩)
 have lk:k=cnt:=ad
 subst lk
 have hyi:(y:Int)<(k:Int):=ad
 have hym:=eV (f:=fun _=>-1) hy
 have F3:(eZ (fun _=>-1) k).set y (aL 0)=eZ (fun v=>if v=y then 0 else -1) k:=nL hy (if_pos rfl) fun i _ hi=>if_neg hi
 rw[aL]at F3 hym
 (try((repeat(revert N;apply Pn.out));refine wk (tw @a6 (tw @a0 (tw @a1 (tw @a5 (tw @ag (tw @qn (tw @hk (tw @tl (tw @hyi (tw @hym (tw @F3 @iC.eq_1))))))))))) ?_;(repeat(apply Pn.mk;intro N hN))))
 refine cm (fun m env st=>∃(i:Nat) (out:Nat->Int) (Q:List Nat) (p:Id),m=k-i/\env 8=.int .i64 (i:Int)/\env 7=.own p 0 Q.length/\st.get p=some ⟨true,1,Q.map eN⟩/\st.get o=some ⟨true,1,eZ out k⟩/\o.bt<p.bt/\p.bt<st.next/\EG k bs f y out Q i/\i<=Q.length) k ⟨0,_,[y],⟨174007001,st_a.next+1+1⟩,ad,by(simp only[go_sem, ↓reduceIte,Nat.reduceEqDiff,Nat.reduceAdd,Nat.reduceSub,Nat.reduceLeDiff,reduceCtorEq])<;>rfl,by(simp only[go_sem, ↓reduceIte,Nat.reduceEqDiff,Nat.reduceAdd,Nat.reduceSub,Nat.reduceLeDiff,reduceCtorEq])<;>rfl,by(simp only[go_sem, ↓reduceIte,Nat.reduceEqDiff,Nat.reduceAdd,Nat.reduceSub,Nat.reduceLeDiff,reduceCtorEq])<;>rfl,sd @qn,bp,bp,EG.start hy,by simp⟩ ?_
 rintro n env_b st_b ⟨i,out,Q,p,rfl,b8,b7,bgp,bgo,eS,hpn,hB,hiq⟩ fb
 have b0:=fb 0 (by kernel_rfl)
 have b5:=fb 5 (by kernel_rfl)
 simp only[go_sem, ↓reduceIte,Nat.reduceEqDiff,Nat.reduceAdd,Nat.reduceSub,Nat.reduceLeDiff,reduceCtorEq,a6,a0,a1,a5,iC]at b0 b5
 clear fb
 have XN:=hB.len
 have tl2:=eL out k
 have hqm:(Q.map eN).length=Q.length:=by simp
 have EP:=dp hpn
 have mO:=dp (i:=o) (n:=st_b.next) ad
 by_cases hi:(i:Int)<(Q.length:Int)
 ·have gS:i<Q.length:=ad
  have jZ:(Q.map eN)[i]? =some (eN Q[i]):=by simp[gS]
  have Tk:=hB.lt _ (List.getElem_mem gS)
  obtain⟨vt,Vx⟩:∃vt,vt=Q[i]:=⟨_,rfl⟩
  rw[<-Vx]at jZ Tk
  have hA:=Hu (cnt:=k) (bs:=bs) (m:=bs.length) Tk
  have Od:(vt:Int)<(k:Int):=ad
  have oj:=vn bs bs.length vt
  have Zi:∀x,x<(j8 bs bs.length vt).length->(j8 bs bs.length vt).getD x 0<bs.length/\Jl bs ((j8 bs bs.length vt).getD x 0) vt:=fun x hx=>by
   rw[List.getD_eq_getElem?_getD,List.getElem?_eq_getElem hx]
   exact vp.1 (List.getElem_mem hx)
  have XH:∀e∈j8 bs bs.length vt,∃x,x<(j8 bs bs.length vt).length/\(j8 bs bs.length vt).getD x 0=e:=fun e he=>by
   obtain⟨x,hx,rfl⟩:=List.getElem_of_mem he
   exact⟨x,hx,by rw[List.getD_eq_getElem?_getD,List.getElem?_eq_getElem hx];rfl⟩
  generalize hIn:j8 bs bs.length vt=I at *
  unfold Wa at hA
  by_cases hI0:I=[]
  ·rw[if_pos hI0]at hA
   have hI1:I.length=0:=by rw[hI0];rfl
   (try((repeat(revert N;apply Pn.out));refine wk (tw @b0 (tw @b5 (tw @b7 (tw @b8 (tw @bgp (tw @hi (tw @jZ (tw @hqm (tw @eN.eq_1 @iC.eq_1))))))))) ?_;(repeat(apply Pn.mk;intro N hN))))
   refine cm (fun n env st=>∃x:Nat,n=(I.length)-x/\x<=(I.length)/\env 10=.int .i64 (x:Int)/\(∃(jV:Nat->Int) (Q':List Nat) (p':Id),env 7=.own p' 0 Q'.length/\st.get p'=some ⟨true,1,Q'.map eN⟩/\st.get o=some ⟨true,1,eZ jV k⟩/\o.bt<p'.bt/\p'.bt<st.next/\EG k bs f y jV Q' i/\(∃h:i<Q'.length,Q'[i]=vt)/\(∀z,z<x->0<iq bs f (I.getD z 0) (dw bs (I.getD z 0) vt)->0<=jV (dw bs (I.getD z 0) vt)))) (I.length) ⟨0,ad,ad,sl (tw @b0 (tw @b5 (tw @b8 @iC.eq_1))),⟨out,Q,p,sd @b7,sd @bgp,sd @bgo,eS,bp,hB,⟨gS,Vx.symm⟩,fun z hz=>ad⟩⟩ ?_
   rintro n_c env_c st_c ⟨x,rfl,cle,iR,cI0⟩ jA
   have c0:=jA 0 (by kernel_rfl);have c5:=jA 5 (by kernel_rfl);have c8:=jA 8 (by kernel_rfl);have c9:=jA 9 (by kernel_rfl)
   simp only[go_sem, ↓reduceIte,Nat.reduceEqDiff,Nat.reduceAdd,Nat.reduceSub,Nat.reduceLeDiff,reduceCtorEq,b0,b5,b8,iC]at c0 c5 c8 c9
   clear jA
   obtain⟨jV,Q',p',c7,Nj,Ce,H9,Vj,eE,⟨BG,tV⟩,Qd⟩:=cI0
   have hql':=eE.len
   have Wj:=eL jV k
   have Vl:(Q'.map eN).length=Q'.length:=by simp
   have DP:=dp Vj
   have pc:=dp (i:=o) (n:=st_c.next) ad
   have x1:=ei H9
   have hx:¬(x:Int)<((0:Nat):Int):=ad
   have hxe:x=I.length:=ad
   have hw:IntKind.i64.wrap ((i:Int)+1)=((i+1:Nat):Int):=aX ad
   (try((repeat(revert N;apply Pn.out));refine wk (tw @iR (tw @c0 (tw @c5 (tw @c8 (tw @c9 (tw @c7 (tw @hx (tw @hA (tw @Od @iC.eq_1))))))))) ?_;(repeat(apply Pn.mk;intro N hN))))
   refine⟨_,?_,i+1,jV,Q',p',rfl,sd (tw @iR (tw @c0 (tw @c5 (tw @c8 (tw @c9 @hw))))),sd @c7,sd @Nj,sd @Ce,H9,bp,eE.next BG fun e he hr=>?_,ad⟩
   ·omega
   ·rw[tV,hIn]at he
    rw[tV]at hr ⊢
    obtain⟨z,hz,rfl⟩:=XH e he
    exact Qd z ad hr
  ·rw[if_neg hI0]at hA
   have tO:(I.map eN).length=I.length:=by simp
   (try((repeat(revert N;apply Pn.out));refine wk (tw @b0 (tw @b5 (tw @b7 (tw @b8 (tw @bgp (tw @hi (tw @jZ (tw @hqm (tw @eN.eq_1 @iC.eq_1))))))))) ?_;(repeat(apply Pn.mk;intro N hN))))
   refine cm (fun n env st=>∃x:Nat,n=(I.length)-x/\x<=(I.length)/\env 10=.int .i64 (x:Int)/\(∃(jV:Nat->Int) (Q':List Nat) (p':Id),env 7=.own p' 0 Q'.length/\st.get p'=some ⟨true,1,Q'.map eN⟩/\st.get o=some ⟨true,1,eZ jV k⟩/\o.bt<p'.bt/\p'.bt<st.next/\EG k bs f y jV Q' i/\(∃h:i<Q'.length,Q'[i]=vt)/\(∀z,z<x->0<iq bs f (I.getD z 0) (dw bs (I.getD z 0) vt)->0<=jV (dw bs (I.getD z 0) vt)))) (I.length) ⟨0,ad,ad,sl (tw @b0 (tw @b5 (tw @b8 @iC.eq_1))),⟨out,Q,p,sd @b7,sd @bgp,sd @bgo,eS,bp,hB,⟨gS,Vx.symm⟩,fun z hz=>ad⟩⟩ ?_
   rintro n_c env_c st_c ⟨x,rfl,cle,iR,cI0⟩ jA
   have c0:=jA 0 (by kernel_rfl);have c5:=jA 5 (by kernel_rfl);have c8:=jA 8 (by kernel_rfl);have c9:=jA 9 (by kernel_rfl)
   simp only[go_sem, ↓reduceIte,Nat.reduceEqDiff,Nat.reduceAdd,Nat.reduceSub,Nat.reduceLeDiff,reduceCtorEq,b0,b5,b8,iC]at c0 c5 c8 c9
   clear jA
   obtain⟨jV,Q',p',c7,Nj,Ce,H9,Vj,eE,⟨BG,tV⟩,Qd⟩:=cI0
   have hql':=eE.len
   have Wj:=eL jV k
   have Vl:(Q'.map eN).length=Q'.length:=by simp
   have DP:=dp Vj
   have pc:=dp (i:=o) (n:=st_c.next) ad
   have x1:=ei H9
   by_cases hx:(x:Int)<(I.length:Int)
   ·have iL:∀{e:Env} {gg:Rows} {nx:Nat},(e 10=.int .i64 (IntKind.i64.wrap ((x:Int)+1)))->(∃(jV:Nat->Int) (Q':List Nat) (p':Id),e 7=.own p' 0 Q'.length/\gg p'=some ⟨true,1,Q'.map eN⟩/\gg o=some ⟨true,1,eZ jV k⟩/\o.bt<p'.bt/\p'.bt<nx/\EG k bs f y jV Q' i/\(∃h:i<Q'.length,Q'[i]=vt)/\(∀z,z<(x+1)->0<iq bs f (I.getD z 0) (dw bs (I.getD z 0) vt)->0<=jV (dw bs (I.getD z 0) vt)))->∃m0,m0<(I.length)-x/\∃x:Nat,m0=(I.length)-x/\x<=(I.length)/\e 10=.int .i64 (x:Int)/\(∃(jV:Nat->Int) (Q':List Nat) (p':Id),e 7=.own p' 0 Q'.length/\gg p'=some ⟨true,1,Q'.map eN⟩/\gg o=some ⟨true,1,eZ jV k⟩/\o.bt<p'.bt/\p'.bt<nx/\EG k bs f y jV Q' i/\(∃h:i<Q'.length,Q'[i]=vt)/\(∀z,z<x->0<iq bs f (I.getD z 0) (dw bs (I.getD z 0) vt)->0<=jV (dw bs (I.getD z 0) vt))):=fun x1 x2=>⟨_,ad,x+1,rfl,ad,(by rw[x1,aX ad]),x2⟩
    have XU:x<I.length:=ad
    have UD:(I.map eN)[x]? =some (eN (I.getD x 0)):=getD_map eN XU
    obtain⟨he,sY⟩:=Zi x XU
    obtain⟨e,hee⟩:∃e,e=I.getD x 0:=⟨_,rfl⟩
    rw[<-hee]at UD he sY
    have jM:=yX he
    have hq:=rI ok (v:=vt) he
    have Zo:=rJ ok he sY
    have Qc:=Pd k bs f hs e (dw bs e vt) he
    have Y0:=ok e he
    have tk:IntKind.i64.wrap (((dE bs e).a:Int)+((dE bs e).b:Int))=((dE bs e).a:Int)+((dE bs e).b:Int):=dj ad
    have sn:IntKind.i64.wrap (((dE bs e).a:Int)+((dE bs e).b:Int)-(vt:Int))=(dw bs e vt:Int):=by
     rw[dj ad]
     unfold dw
     rcases sY with h1|h1
     ·rw[if_pos h1];omega
     ·rw[if_neg fun h2=>Y0.2.2 (h2.trans h1.symm)];omega
    have XM:(dw bs e vt:Int)<(k:Int):=ad
    have U4:=eV (f:=jV) hq
    have QW:=eV (f:=jV) Tk
    rw[iC]at Qc
    have nP:=eE.up i BG
    rw[tV]at nP
    have kN:=eE.lo vt Tk
    have hw3:IntKind.i64.wrap (jV vt+1)=jV vt+1:=dj ad
    rw[aL]at U4 QW
    generalize Cr:dE bs e=b at *
    by_cases lW:jV (dw bs e vt)<0
    ·by_cases gM:0<iq bs f e (dw bs e vt)
     ·have hV:=eE.visit ok BG (e:=e) he (by rw[tV];exact sY) (by rw[tV];exact lW) (by rw[tV];exact gM)
      rw[tV]at hV
      have fU:(eZ jV k).set (dw bs e vt) (aL (jV vt+1))=eZ (fun v=>if v=dw bs e vt then jV vt+1 else jV v) k:=nL hq (if_pos rfl) fun v _ hv=>if_neg hv
      rw[aL]at fU
      have e1:Q'.length+1<=16777216:=ad
      (have zF:=tw @iR (tw @c0 (tw @c5 (tw @c8 (tw @c9 (tw @c7 (tw @Nj (tw @Ce (tw @hx (tw @hA (tw @tO (tw @UD (tw @Od (tw @jM (tw @tk (tw @sn (tw @XM (tw @U4 (tw @QW (tw @lW (tw @gM (tw @hw3 (tw @fU (tw @Vl (tw @Wj (tw @DP (tw @pc (tw @x1 (tw @e1 (tw @eN.eq_1 (tw @aY.eq_1 @iC.eq_1))))))))))))))))))))))))))))));(repeat(first|((repeat(revert N;apply Pn.out));refine wk zF ?_;(repeat(apply Pn.mk;intro N hN)))|((try apply Or.inl);refine⟨_,ax.x (Qc) (sd zF),?_⟩;apply hN;clear hN N)));try clear zF)
      exact iL (sd (tw @iR (tw @c0 (tw @c5 (tw @c8 @c9))))) (⟨_,Q'++[dw bs e vt],⟨174020003,st_c.next+1+1+1+1+1+1⟩,by rw[List.length_append];simp only[go_sem, ↓reduceIte,Nat.reduceEqDiff,Nat.reduceAdd,Nat.reduceSub,Nat.reduceLeDiff,reduceCtorEq,List.length_cons,List.length_nil],by rw[List.map_append,List.map_cons,List.map_nil];simp only[go_sem, ↓reduceIte,Nat.reduceEqDiff,Nat.reduceAdd,Nat.reduceSub,Nat.reduceLeDiff,reduceCtorEq,eN],sd (tw @pc @x1),bp,bp,hV,⟨by simp;omega,by rw[List.getElem_append_left BG];exact tV⟩,fun z hz hr=>by
       by_cases ZK:z=x
       ·subst ZK
        rw[<-hee,if_pos rfl]
        have:=(eE.iff vt Tk).2 (by rw[<-tV];exact List.getElem_mem BG)
        omega
       ·have:=Qd z ad hr
        split
        ·have:=(eE.iff vt Tk).2 (by rw[<-tV];exact List.getElem_mem BG)
         omega
        ·exact this⟩)
     ·(have zF:=tw @iR (tw @c0 (tw @c5 (tw @c8 (tw @c9 (tw @c7 (tw @Nj (tw @Ce (tw @hx (tw @hA (tw @tO (tw @UD (tw @Od (tw @jM (tw @tk (tw @sn (tw @XM (tw @U4 (tw @lW (tw @gM (tw @Wj (tw @DP (tw @pc (tw @x1 (tw @eN.eq_1 (tw @aY.eq_1 @iC.eq_1)))))))))))))))))))))))));(repeat(first|((repeat(revert N;apply Pn.out));refine wk zF ?_;(repeat(apply Pn.mk;intro N hN)))|((try apply Or.inl);refine⟨_,ax.x (Qc) (sd zF),?_⟩;apply hN;clear hN N)));try clear zF)
      exact iL (sd (tw @iR (tw @c0 (tw @c5 (tw @c8 @c9))))) (⟨jV,Q',p',sd @c7,sd (tw @Nj @DP),sd (tw @Ce @pc),H9,bp,eE,⟨BG,tV⟩,fun z hz hr=>by
       by_cases ZK:z=x
       ·subst ZK;rw[<-hee]at hr;exact absurd hr gM
       ·exact Qd z ad hr⟩)
    ·(have zF:=tw @iR (tw @c0 (tw @c5 (tw @c8 (tw @c9 (tw @c7 (tw @Nj (tw @Ce (tw @hx (tw @hA (tw @tO (tw @UD (tw @Od (tw @jM (tw @tk (tw @sn (tw @XM (tw @U4 (tw @lW (tw @Wj (tw @DP (tw @pc (tw @x1 (tw @eN.eq_1 (tw @aY.eq_1 @iC.eq_1))))))))))))))))))))))));(repeat(first|((repeat(revert N;apply Pn.out));refine wk zF ?_;(repeat(apply Pn.mk;intro N hN)))|((try apply Or.inl);refine⟨_,ax.x (Qc) (sd zF),?_⟩;apply hN;clear hN N)));try clear zF)
     exact iL (sd (tw @iR (tw @c0 (tw @c5 (tw @c8 @c9))))) (⟨jV,Q',p',sd @c7,sd (tw @Nj @DP),sd (tw @Ce @pc),H9,bp,eE,⟨BG,tV⟩,fun z hz hr=>by
      by_cases ZK:z=x
      ·subst ZK;rw[<-hee];omega
      ·exact Qd z ad hr⟩)
   ·have hxe:x=I.length:=ad
    have hw:IntKind.i64.wrap ((i:Int)+1)=((i+1:Nat):Int):=aX ad
    (try((repeat(revert N;apply Pn.out));refine wk (tw @iR (tw @c0 (tw @c5 (tw @c8 (tw @c9 (tw @c7 (tw @hx (tw @hA (tw @tO (tw @Od @iC.eq_1)))))))))) ?_;(repeat(apply Pn.mk;intro N hN))))
    refine⟨_,?_,i+1,jV,Q',p',rfl,sd (tw @iR (tw @c0 (tw @c5 (tw @c8 (tw @c9 @hw))))),sd @c7,sd @Nj,sd @Ce,H9,bp,eE.next BG fun e he hr=>?_,ad⟩
    ·omega
    ·rw[tV,hIn]at he
     rw[tV]at hr ⊢
     obtain⟨z,hz,rfl⟩:=XH e he
     exact Qd z ad hr
 ·(try((repeat(revert N;apply Pn.out));refine wk (tw @b0 (tw @b5 (tw @b7 (tw @b8 (tw @hi @iC.eq_1))))) ?_;(repeat(apply Pn.mk;intro N hN))))
  have xf:iy st_b.get 6 (.own o 0 k)=some (.sl (eZ out k)):=uZ bgo (by rw[tl2];omega) (by rw[List.drop_zero,List.take_of_length_le (by rw[tl2];omega)];exact Px)
  exact⟨_,rfl,_,by simp only[go_sem, ↓reduceIte,Nat.reduceEqDiff,Nat.reduceAdd,Nat.reduceSub,Nat.reduceLeDiff,reduceCtorEq,iF];exact xf,out,rfl,hB.done ok ad⟩
end Go.Proofs.YtoodopepphhpoaaGreatDoor.V

namespace Go.Proofs.YtoodopepphhpoaaGreatDoor.V
open Go.RowKit
attribute [local irreducible] eu wpOps fB Call
attribute [local go_sem] aD fx eK fG fF dz upd cw K.av cJ AV.cells AV.cell rowOf rowsOf part ld rowAt fY ck cq dF dP gh bH da ec fD eU dx dV cY cX dJ dK bK aU cP bJ cR cQ dS dW dU cL bU cZ dQ bI aA cV cE fZ bq cI bQ aP dr bd dG AV.undef bx bD dL dM dH dI cH eb ee cD dY dX cU cW List.getD_cons_zero List.getD_cons_succ List.getD_nil List.all_cons List.all_nil Bool.and_true Bool.true_and Bool.and_self Bool.not_true Bool.not_false Option.map_some Option.map_none Option.bind_some Option.bind_none List.length_cons List.length_nil List.take_succ_cons List.take_zero List.take_nil List.drop_succ_cons List.drop_zero List.drop_nil List.head?_cons List.map_cons List.map_nil List.getElem?_cons_zero List.getElem?_cons_succ List.cons_append List.nil_append List.append_nil List.length_map List.set_cons_zero List.set_cons_succ eq_self Int.toNat_natCast Int.natCast_nonneg and_self true_and and_true decide_true decide_false Bool.false_eq_true Nat.zero_add Nat.add_zero List.contains_cons List.contains_nil Bool.or_false Bool.false_or beq_self_eq_true ne_eq not_true_eq_false not_false_eq_true Id.mk.injEq false_and and_false Nat.le_refl List.length_append beq_true beq_false Bool.not_eq_eq_eq_not or_false false_or ez aj ar aJ aZ bF cz aM bj aK aW cK br
def Xp:PW (List Nat):=fun g cs x ids=>(x=[]/\cs=[.cr]/\ids=[])∨∃id,cs=[.own id 0 x.length]/\0<x.length/\g id=some ⟨true,1,x.map eN⟩/\ids=[id]
theorem Tr:EV Xp 1 where
 frame:=fun h hf=>by
  rcases h with h|⟨id,h1,h0,h2,h3⟩
  ·exact .inl h
  ·subst h3;exact .inr ⟨id,h1,h0,(hf id (by simp)).trans h2,rfl⟩
 len:=fun h=>by rcases h with⟨_,h,_⟩|⟨id,h,_⟩<;>subst h<;>rfl
 cell:=fun h=>by rcases h with⟨_,h,_⟩|⟨id,h,_⟩<;>subst h<;>rfl
 live:=fun h i hi=>by
  rcases h with⟨_,_,h⟩|⟨id,h1,h0,h2,h3⟩
  ·subst h;cases hi
  ·subst h3
   have:i=id:=by simpa using hi
   subst this
   exact⟨_,h2,rfl,by simp[yO]⟩
 small:=by simp[yO]
theorem VN {g:Rows} {rows:List (List AV)} {xs:List (List Nat)} {ids:List Id} (n:Nat) (h:gr Xp g rows xs ids):fm (ez g) (n+2) rows=some (xs.map fun l=>[Wa l]):=
 h.fz (fun {cs x ids} h=>by
  rcases h with⟨h0,h1,_⟩|⟨id,h1,h0,h2,_⟩
  ·subst h0 h1;rw[aj,ar,aM];rfl
  ·have hZ:x≠[]:=by rintro rfl;simp at h0
   subst h1
   rw[aj,ar,gm (e:=eN) (sz:=1) (by simp[ez,h2]) rfl fun a=>fzN _ n a]
   simp[Wa,hZ])
theorem gr.Z5 {α:Type} {R:PW α} {sz:Nat} {g:Rows} {rows:List (List AV)} {xs:List α} {ids:List Id} (ok:EV R sz) (h:gr R g rows xs ids) (qm:ids.Nodup) (k:Nat) (hk:k<xs.length):
  ∃cs ic,rows[k]? =some cs/\R g cs xs[k] ic/\(∀i∈ic,i∈ids)/\∀(g':Rows) uS x' XX,R g' uS x' XX->(∀i∈ids,i∉ic->g' i=g i)->XX.Nodup->(∀i∈XX,i∉ids)->∃Ig,gr R g' (rows.set k uS) (xs.set k x') Ig/\Ig.Nodup/\∀i∈Ig,i∈XX∨i∈ids:=by
 obtain⟨r1,cs,r2,i1,ic,i2,rfl,rfl,rfl,h3,h4,h5⟩:=h.split k hk
 obtain⟨n1,n2,n3⟩:=List.nodup_append.1 qm
 obtain⟨nc,n5,n4⟩:=List.nodup_append.1 n2
 refine⟨cs,ic,by simp,h4,fun i hi=>by simp[hi],fun g' uS x' XX hR hf hn' mi=>⟨i1++(XX++i2),?_,?_,fun i hi=>?_⟩⟩
 ·have e:xs.set r1.length x'=xs.take r1.length++x'::xs.drop (r1.length+1):=by rw[List.set_eq_take_append_cons_drop,if_pos hk]
  have e2:(r1++cs::r2).set r1.length uS=r1++uS::r2:=by simp
  rw[e,e2]
  refine(h3.frame ok fun i hi=>hf i (by simp[hi]) fun hc=>n3 i hi i (by simp[hc]) rfl).app (.cons hR (h5.frame ok fun i hi=>hf i (by simp[hi]) fun hc=>n4 i hc i hi rfl))
 ·rw[List.nodup_append,List.nodup_append]
  refine⟨n1,⟨hn',n5,fun x hx y hy he=>?_⟩,fun x hx y hy he=>?_⟩
  ·subst he;exact mi x hx (by simp[hy])
  ·subst he
   rcases List.mem_append.1 hy with hy|hy
   ·exact mi x hy (by simp[hx])
   ·exact n3 x hx x (by simp[hy]) rfl
 ·rcases List.mem_append.1 hi with hi|hi
  ·exact .inr (by simp[hi])
  ·rcases List.mem_append.1 hi with hi|hi
   ·exact .inl hi
   ·exact .inr (by simp[hi])
def uC (A:Id) (lo:Nat) (L:List (List Nat)) (g:Rows) (nx:Nat):Prop:=∃rows ids,g A=some ⟨true,1,rows⟩/\gr Xp g rows L ids/\ids.Nodup/\∀i∈ids,lo<i.bt/\i.bt<nx
def dm (cnt:Nat) (bs:List PB) (A F:Id):List AV:=[.int .i64 cnt,.sl (bs.map aY),.own A 0 cnt,.own F 0 bs.length]
def nT (cnt:Nat) (bs:List PB) (m:Nat):List (List Nat):=(List.range cnt).map fun v=>j8 bs m v
theorem kP (cnt:Nat) (bs:List PB) (m:Nat):(nT cnt bs m).length=cnt:=by simp[nT]
structure qO (cnt:Nat) (bs:List PB) (f:Nat->Int) (X A F:Id) (g:Rows) (nx:Nat):Prop where
 x:g X=some ⟨true,4,[dm cnt bs A F]⟩
 a:uC A F.bt (nT cnt bs bs.length) g nx
 f:g F=some ⟨true,1,eZ f bs.length⟩
 xa:X.bt<A.bt
 af:A.bt<F.bt
 fn:F.bt<nx
theorem uC.fz {A:Id} {lo cnt:Nat} {bs:List PB} {m nx n:Nat} {g:Rows} (h:uC A lo (nT cnt bs m) g nx):V.fz (ez g) (n+3) (.own A 0 cnt)=some (.sl (tx cnt bs m)):=by
 obtain⟨rows,ids,h1,h2,_,_⟩:=h
 have hl:=h2.len
 rw[kP]at hl
 rw[jY]
 simp only[ez,h1,Option.map_some,if_true]
 rw[if_pos ad,List.drop_zero,List.take_of_length_le ad]
 have:=VN n h2
 rw[this]
 simp[nT,tx]
theorem qO.fz {cnt:Nat} {bs:List PB} {f:Nat->Int} {X A F:Id} {g:Rows} {nx:Nat} (h:qO cnt bs f X A F g nx):V.fz (ez g) 6 (.ptr X 0 0)=some (.er (iC cnt bs f)):=by
 have hF:ez g F=some ⟨true,1,eZ f bs.length⟩:=by simp[ez,h.f]
 have hX:ez g X=some ⟨true,4,[dm cnt bs A F]⟩:=by simp[ez,h.x]
 have hf:V.fz (ez g) 5 (.own F 0 bs.length)=some (.sl (eZ f bs.length)):=by
  rw[jY]
  simp only[hF,if_true]
  rw[if_pos (by rw[eL];omega),List.drop_zero,List.take_of_length_le (by rw[eL];omega),Eu];rfl
 have ha:=h.a.fz (n:=2)
 rw[aW]
 simp only[hX,if_true,List.getElem?_cons_zero,List.drop_zero,dm,aj,ar,aJ,cz,ha,hf,Option.map_some,iC]
theorem Ld (cnt:Nat) (bs:List PB):nT cnt bs 0=List.replicate cnt []:=by
 refine List.ext_getElem? fun i=>?_
 simp only[nT,List.getElem?_map,List.getElem?_replicate]
 by_cases h:i<cnt
 ·rw[List.getElem?_range h,if_pos h];rfl
 ·rw[List.getElem?_eq_none (by simpa using h),if_neg h];rfl
theorem CY (g:Rows):∀n:Nat,gr Xp g (List.replicate n [.cr]) (List.replicate n []) []
 |0=>.nil
 |n+1=>.cons (i1:=[]) (.inl ⟨rfl,rfl,rfl⟩) (CY g n)
def BM (cnt:Nat) (bs:List PB) (m:Nat):List (List Nat):=(nT cnt bs m).set (dE bs m).a (j8 bs m (dE bs m).a++[m])
theorem Gb {cnt:Nat} {bs:List PB} {m v:Nat} (hv:v<cnt) (hZ:(dE bs m).a≠v):(BM cnt bs m)[v]? =some (j8 bs m v):=by
 unfold BM
 rw[List.getElem?_set_ne hZ]
 simp[nT,hv]
theorem Lc {cnt:Nat} {bs:List PB} {m:Nat} (ha:(dE bs m).a<cnt) (hb:(dE bs m).b<cnt) (hZ:(dE bs m).a≠(dE bs m).b):(BM cnt bs m).set (dE bs m).b (j8 bs m (dE bs m).b++[m])=nT cnt bs (m+1):=by
 refine List.ext_getElem? fun i=>?_
 by_cases hi:i<cnt
 ·have hr:(nT cnt bs (m+1))[i]? =some (j8 bs (m+1) i):=by simp[nT,hi]
  rw[hr,Le]
  by_cases h1:(dE bs m).b=i
  ·rw[List.getElem?_set,if_pos h1,if_pos (by simp[BM,kP];omega),if_pos (.inr h1),h1]
  ·rw[List.getElem?_set_ne h1]
   by_cases h2:(dE bs m).a=i
   ·unfold BM
    rw[List.getElem?_set,if_pos h2,if_pos (by rw[kP];omega),if_pos (.inl h2),h2]
   ·rw[Gb hi h2,if_neg (fun h=>h.elim h2 h1),List.append_nil]
 ·rw[List.getElem?_eq_none (by simp[BM,kP];omega),List.getElem?_eq_none (by rw[kP];omega)]
theorem nh {α:Type} {l:List α} {k:Nat} {x:α} (h:l[k]? =some x) (hk:k<l.length):l[k]=x:=by
 rw[List.getElem?_eq_getElem hk]at h;exact Option.some.inj h
theorem J2 {A K:Id} {lo ZY nx k j:Nat} {L:List (List Nat)} {La:List Nat} {g:Rows} {rows:List (List AV)} {ids:List Id} (hR:gr Xp g rows L ids) (qm:ids.Nodup) (qG:∀i∈ids,lo<i.bt/\i.bt<ZY) (hA:A.bt<=lo) (hL:L[k]? =some La) (hK1:ZY<=K.bt) (UO:K.bt<nx) (kN:lo<ZY):
  ∃cs,rows[k]? =some cs/\((La=[]/\cs=[.cr])∨∃id:Id,cs=[.own id 0 La.length]/\0<La.length/\g id=some ⟨true,1,La.map eN⟩/\id.bt<ZY/\lo<id.bt)/\
   ∀g':Rows,g' A=some ⟨true,1,rows.set k [.own K 0 (La.length+1)]⟩->g' K=some ⟨true,1,La.map eN++[[.int .i64 j]]⟩->(∀i:Id,i.bt<ZY->(i=A)=False->(∀id,cs=[.own id 0 La.length]->(i=id)=False)->g' i=g i)->uC A lo (L.set k (La++[j])) g' nx:=by
 have hk:k<L.length:=(List.getElem?_eq_some_iff.1 hL).1
 have hLk:=nh hL hk
 obtain⟨cs,ic,eD,Xy,Zc,s4⟩:=hR.Z5 Tr qm k hk
 rw[hLk]at Xy
 refine⟨cs,eD,?_,fun g' h1 h2 h3=>?_⟩
 ·rcases Xy with⟨h1,h2,_⟩|⟨id,h1,h2,h3,h4⟩
  ·exact .inl ⟨h1,h2⟩
  ·subst h4
   have:=qG id (Zc id (by simp))
   exact .inr ⟨id,h1,h2,h3,this.2,this.1⟩
 ·obtain⟨Ig,q1,q2,q3⟩:=s4 g' [.own K 0 (La.length+1)] (La++[j]) [K] (.inr ⟨K,by simp,by simp,by rw[h2];simp[eN],rfl⟩) (fun i hi hni=>by
   refine h3 i (qG i hi).2 ?_ fun id hid=>?_
   ·simp only[eq_iff_iff,iff_false];rintro rfl;have:=qG _ hi;omega
   ·simp only[eq_iff_iff,iff_false]
    rintro rfl
    rcases Xy with⟨_,h4,_⟩|⟨lz,h4,_,_,h5⟩
    ·rw[hid]at h4;cases h4
    ·rw[hid]at h4
     simp only[List.cons.injEq,AV.own.injEq,and_true]at h4
     rw[h5,h4]at hni
     exact hni (by simp)) (by simp) fun i hi hc=>by
   rw[List.mem_singleton.1 hi]at hc;have:=qG _ hc;omega
  refine⟨_,Ig,h1,q1,q2,fun i hi=>?_⟩
  rcases q3 i hi with h|h
  ·rw[List.mem_singleton.1 h];omega
  ·have:=qG i h;omega
theorem Sm {P:Program} {Q:Ex->Env->aw->Prop} {c:VC} {env:Env} {σ:aw} (I:Env->aw->Prop) (h2:∀e s,I e s->Q .normal e s) (h1:∀N':Env->aw->Prop,(∀e s,I e s->N' e s)->eu (Call P) c (dr N' Q) env σ):eu (Call P) c Q env σ:=by
 refine lj (fun _ _ _ _ h=>h) aH c _ _ env σ (fun x e s h=>?_) (h1 I fun _ _ h=>h)
 cases x with
 |normal=>exact h2 e s h
 |exit id=>exact h
 |ret=>exact h
end Go.Proofs.YtoodopepphhpoaaGreatDoor.V

namespace Go.Proofs.YtoodopepphhpoaaGreatDoor.V
open Go.RowKit
attribute [local irreducible] eu wpOps fB Call
theorem Ou (cnt:Nat) (hn:cnt<=1048576) (bs:List PB) (ok:qb cnt bs) (kq:bs.length<=1048576) (σ:aw):
  Call Tryz.prog 172 [.int .i64 cnt,.sl (bs.map aY)] σ fun r σ'=>∃X A F,r=.ptr X 0 0/\σ.next<=X.bt/\qO cnt bs (fun _=>0) X A F σ'.get σ'.next:=by
 refine C7 Ug rfl fun hl=>?_
 simp only[Bs,WJ,zz2,zz3,zz4,W5,zz6,zz7,zz8,zz9,WK,nX,Jd,Sw,Sx,Sy,Je,Sz,WL,SA,WM,WN]
 try simp only[q]
 clear hl
 have kJ:(0:Int)<=(cnt:Int):=ad
 have qK:(cnt:Int)<=((16777216:Nat):Int):=ad
 have z8:(0:Int)<=(bs.length:Int):=ad
 have Mp:(bs.length:Int)<=((16777216:Nat):Int):=ad
 have hz:List.replicate bs.length [AV.int .i64 0]=eZ (fun _=>0) bs.length:=by
  refine List.ext_getElem? fun i=>?_
  by_cases h:i<bs.length
  ·rw[eV h,List.getElem?_replicate,if_pos h];rfl
  ·rw[List.getElem?_eq_none (by simp;omega),List.getElem?_eq_none (by rw[eL];omega)]
 (try((repeat(revert N;apply Pn.out));refine wk (tw @kJ (tw @qK (tw @z8 (tw @Mp (tw @Int.le_refl @hz))))) ?_;(repeat(apply Pn.mk;intro N hN))))
 obtain⟨X,hX⟩:∃X:Id,X=⟨172001003,σ.next+1⟩:=⟨_,rfl⟩
 obtain⟨A,hA⟩:∃X:Id,X=⟨172002002,σ.next+1+1⟩:=⟨_,rfl⟩
 obtain⟨F,hF⟩:∃X:Id,X=⟨172003003,σ.next+1+1+1⟩:=⟨_,rfl⟩
 have hXA:X.bt<A.bt:=by rw[hX,hA];(try dsimp only);omega
 have hAF:A.bt<F.bt:=by rw[hA,hF];(try dsimp only);omega
 have hXs:σ.next<=X.bt:=by rw[hX];(try dsimp only);omega
 refine cm (fun n env st=>∃j:Nat,n=(bs.length)-j/\j<=(bs.length)/\env 6=.int .i64 (j:Int)/\env 5=(.ptr X 0 0)/\st.get X=some ⟨true,4,[dm cnt bs A F]⟩/\st.get F=some ⟨true,1,eZ (fun _=>0) bs.length⟩/\(uC A F.bt (nT cnt bs j) st.get st.next/\F.bt<st.next)) (bs.length) ⟨0,ad,ad,by(try simp only[go_sem, ↓reduceIte,Nat.reduceEqDiff,Nat.reduceAdd,Nat.reduceSub,Nat.reduceLeDiff,reduceCtorEq,hX,hF,hA,dm,hz]);try rfl,by(try simp only[go_sem, ↓reduceIte,Nat.reduceEqDiff,Nat.reduceAdd,Nat.reduceSub,Nat.reduceLeDiff,reduceCtorEq,hX,hF,hA,dm,hz]);try rfl,by(try simp only[go_sem, ↓reduceIte,Nat.reduceEqDiff,Nat.reduceAdd,Nat.reduceSub,Nat.reduceLeDiff,reduceCtorEq,hX,hF,hA,dm,hz]);try rfl,by(try simp only[go_sem, ↓reduceIte,Nat.reduceEqDiff,Nat.reduceAdd,Nat.reduceSub,Nat.reduceLeDiff,reduceCtorEq,hX,hF,hA,dm,hz]);try rfl,⟨⟨List.replicate cnt [.cr],[],by rw[hA];(simp only[go_sem, ↓reduceIte,Nat.reduceEqDiff,Nat.reduceAdd,Nat.reduceSub,Nat.reduceLeDiff,reduceCtorEq])<;>rfl,by rw[Ld];exact CY _ _,List.nodup_nil,fun i hi=>by cases hi⟩,by rw[hF];(try dsimp only);omega⟩⟩ ?_
 rintro n_a env_a st_a ⟨j,rfl,ale,a6,a5,ag0,ag1,oI⟩ eJ
 have a0:=eJ 0 (by kernel_rfl);have a1:=eJ 1 (by kernel_rfl)
 simp only[go_sem, ↓reduceIte,Nat.reduceEqDiff,Nat.reduceAdd,Nat.reduceSub,Nat.reduceLeDiff,reduceCtorEq,hX,hF,hA,dm,hz]at a0 a1
 clear eJ
 obtain⟨⟨rows,ids,ag,hR,qm,qG⟩,hFn⟩:=oI
 have x1:=ei hXA
 have x2:=ei hAF
 have x3:=ei (a:=X) (b:=F) ad
 have vX:=dp (i:=X) (n:=st_a.next) ad
 have vA:=dp (i:=A) (n:=st_a.next) ad
 have vF:=dp (i:=F) (n:=st_a.next) ad
 by_cases hj:(j:Int)<(bs.length:Int)
 ·have eh:∀{e:Env} {gg:Rows} {nx:Nat},(e 6=.int .i64 (IntKind.i64.wrap ((j:Int)+1)))->(e 5=(.ptr X 0 0))->(gg X=some ⟨true,4,[dm cnt bs A F]⟩)->(gg F=some ⟨true,1,eZ (fun _=>0) bs.length⟩)->(uC A F.bt (nT cnt bs (j+1)) gg nx/\F.bt<nx)->∃m0,m0<(bs.length)-j/\∃j:Nat,m0=(bs.length)-j/\j<=(bs.length)/\e 6=.int .i64 (j:Int)/\e 5=(.ptr X 0 0)/\gg X=some ⟨true,4,[dm cnt bs A F]⟩/\gg F=some ⟨true,1,eZ (fun _=>0) bs.length⟩/\(uC A F.bt (nT cnt bs j) gg nx/\F.bt<nx):=fun x1 x2 x3 x4 x5=>⟨_,ad,j+1,rfl,ad,(by rw[x1,aX ad]),x2,x3,x4,x5⟩
  have oU:j<bs.length:=ad
  have jM:=yX oU
  obtain⟨ha1,YP,hZ⟩:=ok j oU
  have jb:((dE bs j).a:Int)<(cnt:Int):=ad
  have gV:((dE bs j).b:Int)<(cnt:Int):=ad
  have sj:=Lc (m:=j) ha1 YP hZ
  have e1:=vn bs j (dE bs j).a
  have e2:=vn bs j (dE bs j).b
  have U3:(BM cnt bs j)[(dE bs j).b]? =some (j8 bs j (dE bs j).b):=Gb YP hZ
  have Ms:(nT cnt bs j)[(dE bs j).a]? =some (j8 bs j (dE bs j).a):=by simp[nT,ha1]
  have Yz:BM cnt bs j=(nT cnt bs j).set (dE bs j).a (j8 bs j (dE bs j).a++[j]):=rfl
  have PZ:(BM cnt bs j).length=cnt:=by rw[Yz,List.length_set,kP]
  have kz:=hR.len
  rw[kP]at kz
  obtain⟨cs7,kK,NL,N1⟩:=J2 (A:=A) (K:=⟨172007022,st_a.next+1⟩) (nx:=st_a.next+1+1) (j:=j) hR qm qG ad Ms bp bp hFn
  rw[<-Yz]at N1
  obtain⟨c7,rfl⟩:∃c,cs7=[c]:=by
   rcases NL with⟨_,h⟩|⟨id,h,_⟩<;>exact⟨_,h⟩
  generalize j8 bs j (dE bs j).a=La at *
  generalize j8 bs j (dE bs j).b=Lb at *
  generalize dE bs j=b at *
  generalize BM cnt bs j=LA at *
  clear Yz
  (try((repeat(revert N;apply Pn.out));refine wk (tw @a6 (tw @a5 (tw @ag0 (tw @ag1 (tw @a0 (tw @a1 (tw @hj (tw @jM (tw @aY.eq_1 (tw @ag (tw @kK (tw @jb (tw @gV (tw @kz (tw @x1 (tw @x2 (tw @x3 (tw @vX (tw @vA (tw @vF @dm.eq_1)))))))))))))))))))) ?_;(repeat(apply Pn.mk;intro N hN))))
  refine uu (fun e s=>e 0=.int .i64 cnt/\e 1=.sl (bs.map aY)/\e 5=.ptr X 0 0/\e 6=.int .i64 j/\s.get X=some ⟨true,4,[dm cnt bs A F]⟩/\s.get F=some ⟨true,1,eZ (fun _=>0) bs.length⟩/\uC A F.bt LA s.get s.next/\F.bt<s.next) ?_ ?_
  ·rintro e1 s1 ⟨m0,m1,m5,m6,mX,mF,⟨rows1,ids1,mg,mR,mnd,mver⟩,mn⟩
   apply hN
   clear hN N
   have kA:=mR.len
   rw[PZ]at kA
   have wX:=dp (i:=X) (n:=s1.next) ad
   have wA:=dp (i:=A) (n:=s1.next) ad
   have wF:=dp (i:=F) (n:=s1.next) ad
   obtain⟨cs8,kM,NM,N2⟩:=J2 (A:=A) (K:=⟨172008022,s1.next⟩) (nx:=s1.next+1) (j:=j) mR mnd mver ad U3 bp bp mn
   rw[sj]at N2
   obtain⟨c8,rfl⟩:∃c,cs8=[c]:=by
    rcases NM with⟨_,h⟩|⟨id,h,_⟩<;>exact⟨_,h⟩
   (try((repeat(revert N;apply Pn.out));refine wk (tw @m0 (tw @m1 (tw @m5 (tw @m6 (tw @mX (tw @mF (tw @hj (tw @jM (tw @aY.eq_1 (tw @mg (tw @kM (tw @jb (tw @gV (tw @kA (tw @x1 (tw @x2 (tw @x3 (tw @wX (tw @wA (tw @wF @dm.eq_1)))))))))))))))))))) ?_;(repeat(apply Pn.mk;intro N hN))))
   refine Sm (fun e s=>e 0=.int .i64 cnt/\e 1=.sl (bs.map aY)/\e 5=.ptr X 0 0/\e 6=.int .i64 j/\s.get X=some ⟨true,4,[dm cnt bs A F]⟩/\s.get F=some ⟨true,1,eZ (fun _=>0) bs.length⟩/\uC A F.bt (nT cnt bs (j+1)) s.get s.next/\F.bt<s.next) ?_ ?_
   ·rintro e2 s2 ⟨p0,p1,p5,p6,pX,pF,pL,pn⟩
    simp only[dr,bd]
    apply hN
    clear hN N
    (try((repeat(revert N;apply Pn.out));refine wk (tw @p0 (tw @p1 (tw @p5 @p6))) ?_;(repeat(apply Pn.mk;intro N hN))))
    refine eh ?_ ?_ ?_ ?_ (⟨by obtain⟨r,i,q1,q2,q3,q4⟩:=pL;exact⟨r,i,sd @q1,q2,q3,fun x hx=>by have:=q4 x hx;(try dsimp only);omega⟩,bp⟩)
    all_goals simp only[go_sem, ↓reduceIte,Nat.reduceEqDiff,Nat.reduceAdd,Nat.reduceSub,Nat.reduceLeDiff,reduceCtorEq,p0,p1,p5,p6,pX,pF]
   ·intro N hN
    rcases NM with⟨JL,FP⟩|⟨id,FP,hLp,hid,QX,th⟩
    ·simp only[List.cons.injEq,and_true]at FP
     subst FP
     subst JL
     refine eH ?_ ?_<;>(try((repeat(revert N;apply Pn.out));refine wk (tw @m0 (tw @m1 (tw @m5 (tw @m6 (tw @mX (tw @mF (tw @hj (tw @jM (tw @aY.eq_1 (tw @mg (tw @kM (tw @jb (tw @gV (tw @kA (tw @x1 (tw @x2 (tw @x3 (tw @wX (tw @wA (tw @wF @dm.eq_1)))))))))))))))))))) ?_;(repeat(apply Pn.mk;intro N hN))))<;>(try refine eH ?_ ?_)<;>(try((repeat(revert N;apply Pn.out));refine wk (tw @m0 (tw @m1 (tw @m5 (tw @m6 (tw @mX (tw @mF (tw @hj (tw @jM (tw @aY.eq_1 (tw @mg (tw @kM (tw @jb (tw @gV (tw @kA (tw @x1 (tw @x2 (tw @x3 (tw @wX (tw @wA (tw @wF @dm.eq_1)))))))))))))))))))) ?_;(repeat(apply Pn.mk;intro N hN))))<;>(try refine eH ?_ ?_)<;>(try((repeat(revert N;apply Pn.out));refine wk (tw @m0 (tw @m1 (tw @m5 (tw @m6 (tw @mX (tw @mF (tw @hj (tw @jM (tw @aY.eq_1 (tw @mg (tw @kM (tw @jb (tw @gV (tw @kA (tw @x1 (tw @x2 (tw @x3 (tw @wX (tw @wA (tw @wF @dm.eq_1)))))))))))))))))))) ?_;(repeat(apply Pn.mk;intro N hN))))<;>(try refine eH ?_ ?_)<;>(try((repeat(revert N;apply Pn.out));refine wk (tw @m0 (tw @m1 (tw @m5 (tw @m6 (tw @mX (tw @mF (tw @hj (tw @jM (tw @aY.eq_1 (tw @mg (tw @kM (tw @jb (tw @gV (tw @kA (tw @x1 (tw @x2 (tw @x3 (tw @wX (tw @wA (tw @wF @dm.eq_1)))))))))))))))))))) ?_;(repeat(apply Pn.mk;intro N hN))))<;>(try refine eH ?_ ?_)<;>(try((repeat(revert N;apply Pn.out));refine wk (tw @m0 (tw @m1 (tw @m5 (tw @m6 (tw @mX (tw @mF (tw @hj (tw @jM (tw @aY.eq_1 (tw @mg (tw @kM (tw @jb (tw @gV (tw @kA (tw @x1 (tw @x2 (tw @x3 (tw @wX (tw @wA (tw @wF @dm.eq_1)))))))))))))))))))) ?_;(repeat(apply Pn.mk;intro N hN))))<;>(try refine eH ?_ ?_)<;>(try((repeat(revert N;apply Pn.out));refine wk (tw @m0 (tw @m1 (tw @m5 (tw @m6 (tw @mX (tw @mF (tw @hj (tw @jM (tw @aY.eq_1 (tw @mg (tw @kM (tw @jb (tw @gV (tw @kA (tw @x1 (tw @x2 (tw @x3 (tw @wX (tw @wA (tw @wF @dm.eq_1)))))))))))))))))))) ?_;(repeat(apply Pn.mk;intro N hN))))
     all_goals
      refine⟨by simp only[go_sem, ↓reduceIte,Nat.reduceEqDiff,Nat.reduceAdd,Nat.reduceSub,Nat.reduceLeDiff,reduceCtorEq,m0,m1,m5,m6,mX,mF,hj,jM,aY,mg,kM,jb,gV,kA,x1,x2,x3,wX,wA,wF,dm],by simp only[go_sem, ↓reduceIte,Nat.reduceEqDiff,Nat.reduceAdd,Nat.reduceSub,Nat.reduceLeDiff,reduceCtorEq,m0,m1,m5,m6,mX,mF,hj,jM,aY,mg,kM,jb,gV,kA,x1,x2,x3,wX,wA,wF,dm],by simp only[go_sem, ↓reduceIte,Nat.reduceEqDiff,Nat.reduceAdd,Nat.reduceSub,Nat.reduceLeDiff,reduceCtorEq,m0,m1,m5,m6,mX,mF,hj,jM,aY,mg,kM,jb,gV,kA,x1,x2,x3,wX,wA,wF,dm],by simp only[go_sem, ↓reduceIte,Nat.reduceEqDiff,Nat.reduceAdd,Nat.reduceSub,Nat.reduceLeDiff,reduceCtorEq,m0,m1,m5,m6,mX,mF,hj,jM,aY,mg,kM,jb,gV,kA,x1,x2,x3,wX,wA,wF,dm],by simp only[go_sem, ↓reduceIte,Nat.reduceEqDiff,Nat.reduceAdd,Nat.reduceSub,Nat.reduceLeDiff,reduceCtorEq,m0,m1,m5,m6,mX,mF,hj,jM,aY,mg,kM,jb,gV,kA,x1,x2,x3,wX,wA,wF,dm],by simp only[go_sem, ↓reduceIte,Nat.reduceEqDiff,Nat.reduceAdd,Nat.reduceSub,Nat.reduceLeDiff,reduceCtorEq,m0,m1,m5,m6,mX,mF,hj,jM,aY,mg,kM,jb,gV,kA,x1,x2,x3,wX,wA,wF,dm],N2 _ (by simp only[go_sem, ↓reduceIte,Nat.reduceEqDiff,Nat.reduceAdd,Nat.reduceSub,Nat.reduceLeDiff,reduceCtorEq,m0,m1,m5,m6,mX,mF,hj,jM,aY,mg,kM,jb,gV,kA,x1,x2,x3,wX,wA,wF,dm,List.length_nil]) (by simp only[go_sem, ↓reduceIte,Nat.reduceEqDiff,Nat.reduceAdd,Nat.reduceSub,Nat.reduceLeDiff,reduceCtorEq,m0,m1,m5,m6,mX,mF,hj,jM,aY,mg,kM,jb,gV,kA,x1,x2,x3,wX,wA,wF,dm,List.map_nil,List.nil_append]) (fun i hi U6 gS=>?_),bp⟩
      clear gS
      simp only[go_sem, ↓reduceIte,Nat.reduceEqDiff,Nat.reduceAdd,Nat.reduceSub,Nat.reduceLeDiff,reduceCtorEq,wX,wA,wF,dp hi,U6]
    ·simp only[List.cons.injEq,and_true]at FP
     subst FP
     have wq:=dp QX
     have y1:=ei (a:=A) (b:=id) ad
     have y2:=ei (a:=F) (b:=id) th
     have y3:=ei (a:=X) (b:=id) ad
     have e3:Lb.length+1<=16777216:=ad
     have z1:(Lb.map eN).length=Lb.length:=by simp
     refine eH ?_ ?_<;>(try((repeat(revert N;apply Pn.out));refine wk (tw @m0 (tw @m1 (tw @m5 (tw @m6 (tw @mX (tw @mF (tw @hj (tw @jM (tw @aY.eq_1 (tw @mg (tw @kM (tw @jb (tw @gV (tw @kA (tw @x1 (tw @x2 (tw @x3 (tw @wX (tw @wA (tw @wF (tw @dm.eq_1 (tw @hid (tw @wq (tw @y1 (tw @y2 (tw @y3 (tw @e3 @z1))))))))))))))))))))))))))) ?_;(repeat(apply Pn.mk;intro N hN))))<;>(try refine eH ?_ ?_)<;>(try((repeat(revert N;apply Pn.out));refine wk (tw @m0 (tw @m1 (tw @m5 (tw @m6 (tw @mX (tw @mF (tw @hj (tw @jM (tw @aY.eq_1 (tw @mg (tw @kM (tw @jb (tw @gV (tw @kA (tw @x1 (tw @x2 (tw @x3 (tw @wX (tw @wA (tw @wF (tw @dm.eq_1 (tw @hid (tw @wq (tw @y1 (tw @y2 (tw @y3 (tw @e3 @z1))))))))))))))))))))))))))) ?_;(repeat(apply Pn.mk;intro N hN))))<;>(try refine eH ?_ ?_)<;>(try((repeat(revert N;apply Pn.out));refine wk (tw @m0 (tw @m1 (tw @m5 (tw @m6 (tw @mX (tw @mF (tw @hj (tw @jM (tw @aY.eq_1 (tw @mg (tw @kM (tw @jb (tw @gV (tw @kA (tw @x1 (tw @x2 (tw @x3 (tw @wX (tw @wA (tw @wF (tw @dm.eq_1 (tw @hid (tw @wq (tw @y1 (tw @y2 (tw @y3 (tw @e3 @z1))))))))))))))))))))))))))) ?_;(repeat(apply Pn.mk;intro N hN))))<;>(try refine eH ?_ ?_)<;>(try((repeat(revert N;apply Pn.out));refine wk (tw @m0 (tw @m1 (tw @m5 (tw @m6 (tw @mX (tw @mF (tw @hj (tw @jM (tw @aY.eq_1 (tw @mg (tw @kM (tw @jb (tw @gV (tw @kA (tw @x1 (tw @x2 (tw @x3 (tw @wX (tw @wA (tw @wF (tw @dm.eq_1 (tw @hid (tw @wq (tw @y1 (tw @y2 (tw @y3 (tw @e3 @z1))))))))))))))))))))))))))) ?_;(repeat(apply Pn.mk;intro N hN))))<;>(try refine eH ?_ ?_)<;>(try((repeat(revert N;apply Pn.out));refine wk (tw @m0 (tw @m1 (tw @m5 (tw @m6 (tw @mX (tw @mF (tw @hj (tw @jM (tw @aY.eq_1 (tw @mg (tw @kM (tw @jb (tw @gV (tw @kA (tw @x1 (tw @x2 (tw @x3 (tw @wX (tw @wA (tw @wF (tw @dm.eq_1 (tw @hid (tw @wq (tw @y1 (tw @y2 (tw @y3 (tw @e3 @z1))))))))))))))))))))))))))) ?_;(repeat(apply Pn.mk;intro N hN))))<;>(try refine eH ?_ ?_)<;>(try((repeat(revert N;apply Pn.out));refine wk (tw @m0 (tw @m1 (tw @m5 (tw @m6 (tw @mX (tw @mF (tw @hj (tw @jM (tw @aY.eq_1 (tw @mg (tw @kM (tw @jb (tw @gV (tw @kA (tw @x1 (tw @x2 (tw @x3 (tw @wX (tw @wA (tw @wF (tw @dm.eq_1 (tw @hid (tw @wq (tw @y1 (tw @y2 (tw @y3 (tw @e3 @z1))))))))))))))))))))))))))) ?_;(repeat(apply Pn.mk;intro N hN))))
     all_goals
      refine⟨by simp only[go_sem, ↓reduceIte,Nat.reduceEqDiff,Nat.reduceAdd,Nat.reduceSub,Nat.reduceLeDiff,reduceCtorEq,m0,m1,m5,m6,mX,mF,hj,jM,aY,mg,kM,jb,gV,kA,x1,x2,x3,wX,wA,wF,dm,hid,wq,y1,y2,y3,e3,z1],by simp only[go_sem, ↓reduceIte,Nat.reduceEqDiff,Nat.reduceAdd,Nat.reduceSub,Nat.reduceLeDiff,reduceCtorEq,m0,m1,m5,m6,mX,mF,hj,jM,aY,mg,kM,jb,gV,kA,x1,x2,x3,wX,wA,wF,dm,hid,wq,y1,y2,y3,e3,z1],by simp only[go_sem, ↓reduceIte,Nat.reduceEqDiff,Nat.reduceAdd,Nat.reduceSub,Nat.reduceLeDiff,reduceCtorEq,m0,m1,m5,m6,mX,mF,hj,jM,aY,mg,kM,jb,gV,kA,x1,x2,x3,wX,wA,wF,dm,hid,wq,y1,y2,y3,e3,z1],by simp only[go_sem, ↓reduceIte,Nat.reduceEqDiff,Nat.reduceAdd,Nat.reduceSub,Nat.reduceLeDiff,reduceCtorEq,m0,m1,m5,m6,mX,mF,hj,jM,aY,mg,kM,jb,gV,kA,x1,x2,x3,wX,wA,wF,dm,hid,wq,y1,y2,y3,e3,z1],by simp only[go_sem, ↓reduceIte,Nat.reduceEqDiff,Nat.reduceAdd,Nat.reduceSub,Nat.reduceLeDiff,reduceCtorEq,m0,m1,m5,m6,mX,mF,hj,jM,aY,mg,kM,jb,gV,kA,x1,x2,x3,wX,wA,wF,dm,hid,wq,y1,y2,y3,e3,z1],by simp only[go_sem, ↓reduceIte,Nat.reduceEqDiff,Nat.reduceAdd,Nat.reduceSub,Nat.reduceLeDiff,reduceCtorEq,m0,m1,m5,m6,mX,mF,hj,jM,aY,mg,kM,jb,gV,kA,x1,x2,x3,wX,wA,wF,dm,hid,wq,y1,y2,y3,e3,z1],N2 _ (by simp only[go_sem, ↓reduceIte,Nat.reduceEqDiff,Nat.reduceAdd,Nat.reduceSub,Nat.reduceLeDiff,reduceCtorEq,m0,m1,m5,m6,mX,mF,hj,jM,aY,mg,kM,jb,gV,kA,x1,x2,x3,wX,wA,wF,dm,hid,wq,y1,y2,y3,e3,z1,List.length_nil]) (by simp only[go_sem, ↓reduceIte,Nat.reduceEqDiff,Nat.reduceAdd,Nat.reduceSub,Nat.reduceLeDiff,reduceCtorEq,m0,m1,m5,m6,mX,mF,hj,jM,aY,mg,kM,jb,gV,kA,x1,x2,x3,wX,wA,wF,dm,hid,wq,y1,y2,y3,e3,z1,List.map_nil,List.nil_append]) (fun i hi U6 gS=>?_),bp⟩
      have hZ:=gS id rfl
      simp only[go_sem, ↓reduceIte,Nat.reduceEqDiff,Nat.reduceAdd,Nat.reduceSub,Nat.reduceLeDiff,reduceCtorEq,wX,wA,wF,dp hi,U6,hZ]
  ·intro N hN
   rcases NL with⟨JL,FP⟩|⟨id,FP,hLp,hid,QX,th⟩
   ·simp only[List.cons.injEq,and_true]at FP
    subst FP
    subst JL
    refine eH ?_ ?_<;>(try((repeat(revert N;apply Pn.out));refine wk (tw @a6 (tw @a5 (tw @ag0 (tw @ag1 (tw @a0 (tw @a1 (tw @hj (tw @jM (tw @aY.eq_1 (tw @ag (tw @kK (tw @jb (tw @gV (tw @kz (tw @x1 (tw @x2 (tw @x3 (tw @vX (tw @vA (tw @vF @dm.eq_1)))))))))))))))))))) ?_;(repeat(apply Pn.mk;intro N hN))))<;>(try refine eH ?_ ?_)<;>(try((repeat(revert N;apply Pn.out));refine wk (tw @a6 (tw @a5 (tw @ag0 (tw @ag1 (tw @a0 (tw @a1 (tw @hj (tw @jM (tw @aY.eq_1 (tw @ag (tw @kK (tw @jb (tw @gV (tw @kz (tw @x1 (tw @x2 (tw @x3 (tw @vX (tw @vA (tw @vF @dm.eq_1)))))))))))))))))))) ?_;(repeat(apply Pn.mk;intro N hN))))<;>(try refine eH ?_ ?_)<;>(try((repeat(revert N;apply Pn.out));refine wk (tw @a6 (tw @a5 (tw @ag0 (tw @ag1 (tw @a0 (tw @a1 (tw @hj (tw @jM (tw @aY.eq_1 (tw @ag (tw @kK (tw @jb (tw @gV (tw @kz (tw @x1 (tw @x2 (tw @x3 (tw @vX (tw @vA (tw @vF @dm.eq_1)))))))))))))))))))) ?_;(repeat(apply Pn.mk;intro N hN))))<;>(try refine eH ?_ ?_)<;>(try((repeat(revert N;apply Pn.out));refine wk (tw @a6 (tw @a5 (tw @ag0 (tw @ag1 (tw @a0 (tw @a1 (tw @hj (tw @jM (tw @aY.eq_1 (tw @ag (tw @kK (tw @jb (tw @gV (tw @kz (tw @x1 (tw @x2 (tw @x3 (tw @vX (tw @vA (tw @vF @dm.eq_1)))))))))))))))))))) ?_;(repeat(apply Pn.mk;intro N hN))))<;>(try refine eH ?_ ?_)<;>(try((repeat(revert N;apply Pn.out));refine wk (tw @a6 (tw @a5 (tw @ag0 (tw @ag1 (tw @a0 (tw @a1 (tw @hj (tw @jM (tw @aY.eq_1 (tw @ag (tw @kK (tw @jb (tw @gV (tw @kz (tw @x1 (tw @x2 (tw @x3 (tw @vX (tw @vA (tw @vF @dm.eq_1)))))))))))))))))))) ?_;(repeat(apply Pn.mk;intro N hN))))<;>(try refine eH ?_ ?_)<;>(try((repeat(revert N;apply Pn.out));refine wk (tw @a6 (tw @a5 (tw @ag0 (tw @ag1 (tw @a0 (tw @a1 (tw @hj (tw @jM (tw @aY.eq_1 (tw @ag (tw @kK (tw @jb (tw @gV (tw @kz (tw @x1 (tw @x2 (tw @x3 (tw @vX (tw @vA (tw @vF @dm.eq_1)))))))))))))))))))) ?_;(repeat(apply Pn.mk;intro N hN))))
    all_goals
     refine⟨by simp only[go_sem, ↓reduceIte,Nat.reduceEqDiff,Nat.reduceAdd,Nat.reduceSub,Nat.reduceLeDiff,reduceCtorEq,a6,a5,ag0,ag1,a0,a1,hj,jM,aY,ag,kK,jb,gV,kz,x1,x2,x3,vX,vA,vF,dm],by simp only[go_sem, ↓reduceIte,Nat.reduceEqDiff,Nat.reduceAdd,Nat.reduceSub,Nat.reduceLeDiff,reduceCtorEq,a6,a5,ag0,ag1,a0,a1,hj,jM,aY,ag,kK,jb,gV,kz,x1,x2,x3,vX,vA,vF,dm],by simp only[go_sem, ↓reduceIte,Nat.reduceEqDiff,Nat.reduceAdd,Nat.reduceSub,Nat.reduceLeDiff,reduceCtorEq,a6,a5,ag0,ag1,a0,a1,hj,jM,aY,ag,kK,jb,gV,kz,x1,x2,x3,vX,vA,vF,dm],by simp only[go_sem, ↓reduceIte,Nat.reduceEqDiff,Nat.reduceAdd,Nat.reduceSub,Nat.reduceLeDiff,reduceCtorEq,a6,a5,ag0,ag1,a0,a1,hj,jM,aY,ag,kK,jb,gV,kz,x1,x2,x3,vX,vA,vF,dm],by simp only[go_sem, ↓reduceIte,Nat.reduceEqDiff,Nat.reduceAdd,Nat.reduceSub,Nat.reduceLeDiff,reduceCtorEq,a6,a5,ag0,ag1,a0,a1,hj,jM,aY,ag,kK,jb,gV,kz,x1,x2,x3,vX,vA,vF,dm],by simp only[go_sem, ↓reduceIte,Nat.reduceEqDiff,Nat.reduceAdd,Nat.reduceSub,Nat.reduceLeDiff,reduceCtorEq,a6,a5,ag0,ag1,a0,a1,hj,jM,aY,ag,kK,jb,gV,kz,x1,x2,x3,vX,vA,vF,dm],N1 _ (by simp only[go_sem, ↓reduceIte,Nat.reduceEqDiff,Nat.reduceAdd,Nat.reduceSub,Nat.reduceLeDiff,reduceCtorEq,a6,a5,ag0,ag1,a0,a1,hj,jM,aY,ag,kK,jb,gV,kz,x1,x2,x3,vX,vA,vF,dm,List.length_nil]) (by simp only[go_sem, ↓reduceIte,Nat.reduceEqDiff,Nat.reduceAdd,Nat.reduceSub,Nat.reduceLeDiff,reduceCtorEq,a6,a5,ag0,ag1,a0,a1,hj,jM,aY,ag,kK,jb,gV,kz,x1,x2,x3,vX,vA,vF,dm,List.map_nil,List.nil_append]) (fun i hi U6 gS=>?_),bp⟩
     clear gS
     simp only[go_sem, ↓reduceIte,Nat.reduceEqDiff,Nat.reduceAdd,Nat.reduceSub,Nat.reduceLeDiff,reduceCtorEq,vX,vA,vF,dp hi,U6]
   ·simp only[List.cons.injEq,and_true]at FP
    subst FP
    have wq:=dp QX
    have y1:=ei (a:=A) (b:=id) ad
    have y2:=ei (a:=F) (b:=id) th
    have y3:=ei (a:=X) (b:=id) ad
    have e3:La.length+1<=16777216:=ad
    have z1:(La.map eN).length=La.length:=by simp
    refine eH ?_ ?_<;>(try((repeat(revert N;apply Pn.out));refine wk (tw @a6 (tw @a5 (tw @ag0 (tw @ag1 (tw @a0 (tw @a1 (tw @hj (tw @jM (tw @aY.eq_1 (tw @ag (tw @kK (tw @jb (tw @gV (tw @kz (tw @x1 (tw @x2 (tw @x3 (tw @vX (tw @vA (tw @vF (tw @dm.eq_1 (tw @hid (tw @wq (tw @y1 (tw @y2 (tw @y3 (tw @e3 @z1))))))))))))))))))))))))))) ?_;(repeat(apply Pn.mk;intro N hN))))<;>(try refine eH ?_ ?_)<;>(try((repeat(revert N;apply Pn.out));refine wk (tw @a6 (tw @a5 (tw @ag0 (tw @ag1 (tw @a0 (tw @a1 (tw @hj (tw @jM (tw @aY.eq_1 (tw @ag (tw @kK (tw @jb (tw @gV (tw @kz (tw @x1 (tw @x2 (tw @x3 (tw @vX (tw @vA (tw @vF (tw @dm.eq_1 (tw @hid (tw @wq (tw @y1 (tw @y2 (tw @y3 (tw @e3 @z1))))))))))))))))))))))))))) ?_;(repeat(apply Pn.mk;intro N hN))))<;>(try refine eH ?_ ?_)<;>(try((repeat(revert N;apply Pn.out));refine wk (tw @a6 (tw @a5 (tw @ag0 (tw @ag1 (tw @a0 (tw @a1 (tw @hj (tw @jM (tw @aY.eq_1 (tw @ag (tw @kK (tw @jb (tw @gV (tw @kz (tw @x1 (tw @x2 (tw @x3 (tw @vX (tw @vA (tw @vF (tw @dm.eq_1 (tw @hid (tw @wq (tw @y1 (tw @y2 (tw @y3 (tw @e3 @z1))))))))))))))))))))))))))) ?_;(repeat(apply Pn.mk;intro N hN))))<;>(try refine eH ?_ ?_)<;>(try((repeat(revert N;apply Pn.out));refine wk (tw @a6 (tw @a5 (tw @ag0 (tw @ag1 (tw @a0 (tw @a1 (tw @hj (tw @jM (tw @aY.eq_1 (tw @ag (tw @kK (tw @jb (tw @gV (tw @kz (tw @x1 (tw @x2 (tw @x3 (tw @vX (tw @vA (tw @vF (tw @dm.eq_1 (tw @hid (tw @wq (tw @y1 (tw @y2 (tw @y3 (tw @e3 @z1))))))))))))))))))))))))))) ?_;(repeat(apply Pn.mk;intro N hN))))<;>(try refine eH ?_ ?_)<;>(try((repeat(revert N;apply Pn.out));refine wk (tw @a6 (tw @a5 (tw @ag0 (tw @ag1 (tw @a0 (tw @a1 (tw @hj (tw @jM (tw @aY.eq_1 (tw @ag (tw @kK (tw @jb (tw @gV (tw @kz (tw @x1 (tw @x2 (tw @x3 (tw @vX (tw @vA (tw @vF (tw @dm.eq_1 (tw @hid (tw @wq (tw @y1 (tw @y2 (tw @y3 (tw @e3 @z1))))))))))))))))))))))))))) ?_;(repeat(apply Pn.mk;intro N hN))))<;>(try refine eH ?_ ?_)<;>(try((repeat(revert N;apply Pn.out));refine wk (tw @a6 (tw @a5 (tw @ag0 (tw @ag1 (tw @a0 (tw @a1 (tw @hj (tw @jM (tw @aY.eq_1 (tw @ag (tw @kK (tw @jb (tw @gV (tw @kz (tw @x1 (tw @x2 (tw @x3 (tw @vX (tw @vA (tw @vF (tw @dm.eq_1 (tw @hid (tw @wq (tw @y1 (tw @y2 (tw @y3 (tw @e3 @z1))))))))))))))))))))))))))) ?_;(repeat(apply Pn.mk;intro N hN))))
    all_goals
     refine⟨by simp only[go_sem, ↓reduceIte,Nat.reduceEqDiff,Nat.reduceAdd,Nat.reduceSub,Nat.reduceLeDiff,reduceCtorEq,a6,a5,ag0,ag1,a0,a1,hj,jM,aY,ag,kK,jb,gV,kz,x1,x2,x3,vX,vA,vF,dm,hid,wq,y1,y2,y3,e3,z1],by simp only[go_sem, ↓reduceIte,Nat.reduceEqDiff,Nat.reduceAdd,Nat.reduceSub,Nat.reduceLeDiff,reduceCtorEq,a6,a5,ag0,ag1,a0,a1,hj,jM,aY,ag,kK,jb,gV,kz,x1,x2,x3,vX,vA,vF,dm,hid,wq,y1,y2,y3,e3,z1],by simp only[go_sem, ↓reduceIte,Nat.reduceEqDiff,Nat.reduceAdd,Nat.reduceSub,Nat.reduceLeDiff,reduceCtorEq,a6,a5,ag0,ag1,a0,a1,hj,jM,aY,ag,kK,jb,gV,kz,x1,x2,x3,vX,vA,vF,dm,hid,wq,y1,y2,y3,e3,z1],by simp only[go_sem, ↓reduceIte,Nat.reduceEqDiff,Nat.reduceAdd,Nat.reduceSub,Nat.reduceLeDiff,reduceCtorEq,a6,a5,ag0,ag1,a0,a1,hj,jM,aY,ag,kK,jb,gV,kz,x1,x2,x3,vX,vA,vF,dm,hid,wq,y1,y2,y3,e3,z1],by simp only[go_sem, ↓reduceIte,Nat.reduceEqDiff,Nat.reduceAdd,Nat.reduceSub,Nat.reduceLeDiff,reduceCtorEq,a6,a5,ag0,ag1,a0,a1,hj,jM,aY,ag,kK,jb,gV,kz,x1,x2,x3,vX,vA,vF,dm,hid,wq,y1,y2,y3,e3,z1],by simp only[go_sem, ↓reduceIte,Nat.reduceEqDiff,Nat.reduceAdd,Nat.reduceSub,Nat.reduceLeDiff,reduceCtorEq,a6,a5,ag0,ag1,a0,a1,hj,jM,aY,ag,kK,jb,gV,kz,x1,x2,x3,vX,vA,vF,dm,hid,wq,y1,y2,y3,e3,z1],N1 _ (by simp only[go_sem, ↓reduceIte,Nat.reduceEqDiff,Nat.reduceAdd,Nat.reduceSub,Nat.reduceLeDiff,reduceCtorEq,a6,a5,ag0,ag1,a0,a1,hj,jM,aY,ag,kK,jb,gV,kz,x1,x2,x3,vX,vA,vF,dm,hid,wq,y1,y2,y3,e3,z1,List.length_nil]) (by simp only[go_sem, ↓reduceIte,Nat.reduceEqDiff,Nat.reduceAdd,Nat.reduceSub,Nat.reduceLeDiff,reduceCtorEq,a6,a5,ag0,ag1,a0,a1,hj,jM,aY,ag,kK,jb,gV,kz,x1,x2,x3,vX,vA,vF,dm,hid,wq,y1,y2,y3,e3,z1,List.map_nil,List.nil_append]) (fun i hi U6 gS=>?_),bp⟩
     have hZ:=gS id rfl
     simp only[go_sem, ↓reduceIte,Nat.reduceEqDiff,Nat.reduceAdd,Nat.reduceSub,Nat.reduceLeDiff,reduceCtorEq,vX,vA,vF,dp hi,U6,hZ]
 ·have iP:j=bs.length:=ad
  subst iP
  (try((repeat(revert N;apply Pn.out));refine wk (tw @a6 (tw @a5 (tw @ag0 (tw @ag1 (tw @a0 (tw @a1 @hj)))))) ?_;(repeat(apply Pn.mk;intro N hN))))
  exact fc (.inl rfl) (by simp only[iA,jP,go_sem, ↓reduceIte,Nat.reduceEqDiff,Nat.reduceAdd,Nat.reduceSub,Nat.reduceLeDiff,reduceCtorEq];rfl) ⟨X,A,F,rfl,hXs,⟨ag0,⟨rows,ids,ag,hR,qm,fun x hx=>by have:=qG x hx;(try dsimp only);omega⟩,ag1,hXA,hAF,bp⟩⟩
theorem uC.frame {A:Id} {lo nx BR:Nat} {L:List (List Nat)} {g g':Rows} (h:uC A lo L g nx) (hA:A.bt<nx) (hf:∀i:Id,i.bt<nx->lo<i.bt∨i=A->g' i=g i) (hn:nx<=BR):uC A lo L g' BR:=by
 obtain⟨rows,ids,h1,h2,h3,h4⟩:=h
 refine⟨rows,ids,(hf A hA (.inr rfl)).trans h1,h2.frame Tr fun i hi=>hf i (h4 i hi).2 (.inl (h4 i hi).1),h3,fun i hi=>?_⟩
 have:=h4 i hi;omega
theorem qO.frame {cnt:Nat} {bs:List PB} {f:Nat->Int} {X A F:Id} {g g':Rows} {nx BR:Nat} (h:qO cnt bs f X A F g nx) (hf:∀i:Id,i.bt<nx->g' i=g i) (hn:nx<=BR):qO cnt bs f X A F g' BR:=by
 have h1:=h.xa;have h2:=h.af;have h3:=h.fn
 exact⟨(hf X ad).trans h.x,h.a.frame ad (fun i hi _=>hf i hi) hn,(hf F h3).trans h.f,h1,h2,ad⟩
theorem qO.Ys {cnt:Nat} {bs:List PB} {f f':Nat->Int} {X A F:Id} {g g':Rows} {nx BR:Nat} (h:qO cnt bs f X A F g nx) (hF:g' F=some ⟨true,1,eZ f' bs.length⟩) (hf:∀i:Id,i.bt<nx->(i=F)=False->g' i=g i) (hn:nx<=BR):qO cnt bs f' X A F g' BR:=by
 have h1:=h.xa;have h2:=h.af;have h3:=h.fn
 refine⟨(hf X ad (ei ad).1).trans h.x,h.a.frame ad (fun i hi kN=>hf i hi ?_) hn,hF,h1,h2,ad⟩
 rcases kN with kN|rfl
 ·exact(ei kN).2
 ·exact(ei h2).1
theorem VZ (cnt:Nat) (bs:List PB) (f:Nat->Int) (hs:Small bs f) (e v:Nat) (he:e<bs.length) (X A F:Id) (σ:aw) (nx:Nat) (hS:qO cnt bs f X A F σ.get nx) (hn:nx<=σ.next):
  Call Tryz.prog 197 [.ptr X 0 0,.int .i64 v,.int .i64 e] σ fun r σ'=>qO cnt bs (yl bs f e v) X A F σ'.get nx/\σ.next<=σ'.next/\∀i:Id,(i=F)=False->σ'.get i=σ.get i:=by
 refine fV fW rfl fun hl=>?_
 clear hl
 have hX:=hS.x
 have hF:=hS.f
 have hb:=yX he
 have hfe:=eV (f:=f) he
 have tl:=eL f bs.length
 obtain⟨⟨s0,s1⟩,s2,s3⟩:=hs e he
 have hei:(e:Int)<(bs.length:Int):=ad
 have w1:IntKind.i64.wrap (f e+1)=f e+1:=dj ad
 have w2:IntKind.i64.wrap (f e-1)=f e+-1:=by rw[dj ad];omega
 rw[aL]at hfe
 unfold yl
 by_cases h:(dE bs e).a=v
 ·have fU:(eZ f bs.length).set e (aL (f e+1))=eZ (fun j=>f j+if j=e then(if (dE bs e).a=v then 1 else -1)else 0) bs.length:=nL he (by rw[if_pos rfl,if_pos h]) fun i _ hi=>by rw[if_neg hi,Int.add_zero]
  rw[aL]at fU
  generalize hbv:dE bs e=b at *
  have hd:decide ((b.a:Int)=(v:Int))=true:=decide_eq_true (by rw[h])
  (try((repeat(revert N;apply Pn.out));refine wk (tw @hX (tw @hF (tw @hb (tw @hfe (tw @tl (tw @hei (tw @w1 (tw @fU (tw @hd (tw @aY.eq_1 @dm.eq_1)))))))))) ?_;(repeat(apply Pn.mk;intro N hN))))
  exact fc (.inr rfl) (vs:=[]) rfl ⟨hS.Ys (sd @Nat.zero_add) (fun i hi hZ=>sd @hZ) (Nat.le_refl _),bp,fun i hZ=>sd @hZ⟩
 ·have fU:(eZ f bs.length).set e (aL (f e+-1))=eZ (fun j=>f j+if j=e then(if (dE bs e).a=v then 1 else -1)else 0) bs.length:=nL he (by rw[if_pos rfl,if_neg h]) fun i _ hi=>by rw[if_neg hi,Int.add_zero]
  rw[aL]at fU
  generalize hbv:dE bs e=b at *
  have hd:decide ((b.a:Int)=(v:Int))=false:=decide_eq_false fun hc=>h ad
  (try((repeat(revert N;apply Pn.out));refine wk (tw @hX (tw @hF (tw @hb (tw @hfe (tw @tl (tw @hei (tw @w2 (tw @fU (tw @hd (tw @aY.eq_1 @dm.eq_1)))))))))) ?_;(repeat(apply Pn.mk;intro N hN))))
  exact fc (.inr rfl) (vs:=[]) rfl ⟨hS.Ys (sd @Nat.zero_add) (fun i hi hZ=>sd @hZ) (Nat.le_refl _),bp,fun i hZ=>sd @hZ⟩
structure qP (bs:List PB) (out:Nat->Int) (f f':Nat->Int) (x v:Nat):Prop where
 le:∀i,i<bs.length->f' i<=(dE bs i).s/\-(dE bs i).s<=f' i
 cut:∀S:Nat->Bool,KK S bs f'=KK S bs f+bi (S x)-bi (S v)
 zh:∀e,e<bs.length->out (dE bs e).a<=out v->out (dE bs e).b<=out v->f' e=f e
section
variable {cnt:Nat} {bs:List PB} {out:Nat->Int} {f f':Nat->Int} {x v y:Nat}
theorem qP.start (h:∀i,i<bs.length->f i<=(dE bs i).s/\-(dE bs i).s<=f i):qP bs out f f x x:=⟨h,fun S=>ad,fun _ _ _ _=>rfl⟩
theorem qP.step (h:qP bs out f f' x v) {e:Nat} (he:e<bs.length) (hi:Jl bs e v) (hr:0<iq bs f' e v) (hd:out (dw bs e v)=out v-1):qP bs out f (yl bs f' e v) x (dw bs e v):=by
 refine⟨fun i oj=>?_,fun S=>?_,fun i oj ha hb=>?_⟩
 ·have h1:=h.le i oj
  unfold yl
  by_cases FU:i=e
  ·subst FU
   rw[if_pos rfl]
   unfold iq at hr
   split at hr<;>rename_i hc
   ·rw[if_pos hc];omega
   ·rw[if_neg hc];omega
  ·rw[if_neg FU];omega
 ·rw[KL he hi,h.cut S];omega
 ·have FU:i≠e:=by
   rintro rfl
   rcases hi with hi|hi
   ·rw[hi]at ha;omega
   ·rw[hi]at hb;omega
  unfold yl
  rw[if_neg FU,Int.add_zero]
  exact h.zh i oj ad ad
theorem qP.goes (h:qP bs out f f' x v) (hs:Da cnt bs f y out) (hv:v<cnt) (h0:0<out v):∃e∈j8 bs bs.length v,0<iq bs f' e v/\out (dw bs e v)=out v-1:=by
 obtain⟨e,h1,h2,h3,h4⟩:=hs.down v hv h0
 refine⟨e,vp.2 ⟨h1,h2⟩,?_,h4⟩
 have hf:f' e=f e:=by
  refine h.zh e h1 ?_ ?_
  ·unfold dw at h4
   split at h4
   ·rename_i ha;rw[ha];exact Int.le_refl _
   ·omega
  ·unfold dw at h4
   rcases h2 with h2|h2
   ·rw[if_pos h2]at h4;omega
   ·rw[h2];exact Int.le_refl _
 unfold iq at h3 ⊢
 rw[hf];exact h3
theorem qP.done {val:Int} (h:qP bs out f f' x y) (hf:lR bs f x y val):lR bs f' x y (val+1):=
 ⟨h.le,fun S hx hy=>by rw[h.cut S,hf.cut S hx hy,hx,hy];simp[bi]⟩
theorem IW {val:Int} (hs:Da cnt bs f y out) (ok:qb cnt bs) (hf:lR bs f x y val) (hx:out x<0):∃S:Nat->Bool,S x=true/\S y=false/\val=ko S bs:=by
 refine⟨fun v=>decide (out v<0),decide_eq_true hx,decide_eq_false (by rw[hs.first];omega),hf.full (decide_eq_true hx) (decide_eq_false (by rw[hs.first];omega)) fun i hi pB=>⟨fun h1 h2 hr=>?_,fun h1 h2 hr=>?_⟩⟩
 ·have UC:=of_decide_eq_true h1
  have EJ:=of_decide_eq_false h2
  have:=hs.shut i (dE bs i).a hi (.inl rfl) (by unfold dw;rw[if_pos rfl];omega) hr
  omega
 ·have UC:=of_decide_eq_true h1
  have EJ:=of_decide_eq_false h2
  have:=hs.shut i (dE bs i).b hi (.inr rfl) (by unfold dw;rw[if_neg pB];omega) hr
  omega
end
theorem Bb {bs:List PB} {f:Nat->Int} (eA:∀e,e<bs.length->0<=(dE bs e).s/\(dE bs e).s<=4) (h:∀i,i<bs.length->f i<=(dE bs i).s/\-(dE bs i).s<=f i):Small bs f:=fun e he=>by
 have:=eA e he;have:=h e he;omega
theorem uC.at_ {A:Id} {lo nx v:Nat} {L:List (List Nat)} {l:List Nat} {g:Rows} (h:uC A lo L g nx) (hv:L[v]? =some l) (hl:0<l.length):∃(rows:List (List AV)) (id:Id),g A=some ⟨true,1,rows⟩/\rows.length=L.length/\rows[v]? =some [.own id 0 l.length]/\g id=some ⟨true,1,l.map eN⟩/\lo<id.bt/\id.bt<nx:=by
 obtain⟨rows,ids,h1,h2,h3,h4⟩:=h
 have hk:v<L.length:=(List.getElem?_eq_some_iff.1 hv).1
 obtain⟨cs,ic,eD,hR,Zc⟩:=h2.at_ v hk
 rw[nh hv hk]at hR
 rcases hR with⟨h5,_⟩|⟨id,rfl,_,h6,rfl⟩
 ·subst h5;simp at hl
 ·have:=h4 id (Zc id (by simp))
  exact⟨rows,id,h1,h2.len,eD,h6,this.1,this.2⟩
theorem UB (cnt:Nat) (hn:cnt<=1048576) (bs:List PB) (ok:qb cnt bs) (kq:bs.length<=1048576) (eA:∀e,e<bs.length->0<=(dE bs e).s/\(dE bs e).s<=4) (f:Nat->Int) (x y:Nat) (hx:x<cnt) (hy:y<cnt) (Rh:x≠y) (val:Int) (hf:lR bs f x y val)
  (X A F:Id) (σ:aw) (nb:Nat) (hS:qO cnt bs f X A F σ.get nb) (sj:nb<=σ.next):
  Call Tryz.prog 173 [.ptr X 0 0,.int .i64 x,.int .i64 y] σ fun r σ'=>∃b f',r=.bool b/\qO cnt bs f' X A F σ'.get nb/\σ.next<=σ'.next/\(∀i:Id,i.bt<nb->(i=F)=False->σ'.get i=σ.get i)/\
   (b=false->f'=f/\∃S:Nat->Bool,S x=true/\S y=false/\val=ko S bs)/\(b=true->lR bs f' x y (val+1)):=by
 refine fV fW rfl fun hl=>?_
 clear hl
 have Hj:(x:Int)<(cnt:Int):=ad
 have hz:∀(g:Rows),(∀i:Id,i.bt<nb->g i=σ.get i)->eC (ez g) 6 [.ptr X 0 0,.int .i64 (y:Int)]=some [.er (iC cnt bs f),.int .i64 y]:=fun g hg=>by
  have:=(hS.frame hg (Nat.le_refl _)).fz
  simp only[aj,ar,this,aJ,Option.map_some]
 (try((repeat(revert N;apply Pn.out));refine wk @Nat.zero_add ?_;(repeat(apply Pn.mk;intro N hN))))
 refine .inr (aH _ _ _ _ _ (fun r σ1 hq=>?_) ((Kf cnt hn bs ok kq f (Bb eA hf.le) y hy).x mixed (hz _ (fun i hi=>rfl))))
 obtain⟨⟨out,rfl,Vr⟩,rfl⟩:=hq
 apply hN
 clear hN N
 have hox:=eV (f:=out) hx
 have tl:=eL out cnt
 by_cases lW:out x<0
 ·(try((repeat(revert N;apply Pn.out));refine wk (tw @hox (tw @lW (tw @Hj (tw @tl @aL.eq_1)))) ?_;(repeat(apply Pn.mk;intro N hN))))
  exact fc (.inl rfl) (vs:=[.bool false]) (sd @Nat.zero_add) ⟨false,f,rfl,hS.frame (fun i hi=>rfl) (Nat.le_refl _),bp,fun i _ _=>rfl,fun _=>⟨rfl,IW Vr ok hf lW⟩,fun h=>by cases h⟩
 (try((repeat(revert N;apply Pn.out));refine wk (tw @hox (tw @lW (tw @Hj (tw @tl @aL.eq_1)))) ?_;(repeat(apply Pn.mk;intro N hN))))
 refine cm (fun m env st=>∃(v:Nat) (f':Nat->Int),m=(out v).toNat/\v<cnt/\0<=out v/\env 8=.int .i64 (v:Int)/\qP bs out f f' x v/\qO cnt bs f' X A F st.get nb/\(∀i:Id,i.bt<nb->(i=F)=False->st.get i=σ.get i)/\σ.next<=st.next) (out x).toNat ⟨x,f,rfl,hx,ad,by(simp only[go_sem, ↓reduceIte,Nat.reduceEqDiff,Nat.reduceAdd,Nat.reduceSub,Nat.reduceLeDiff,reduceCtorEq]),qP.start hf.le,hS.frame (fun i hi=>rfl) (Nat.le_refl _),fun i _ _=>rfl,bp⟩ ?_
 rintro m env_b st_b ⟨v,f',rfl,hv,qn,b8,hW,hN1,jx,hle⟩ fb
 have b0:=fb 0 (by kernel_rfl)
 have b2:=fb 2 (by kernel_rfl)
 have b7:=fb 7 (by kernel_rfl)
 simp only[go_sem, ↓reduceIte,Nat.reduceEqDiff,Nat.reduceAdd,Nat.reduceSub,Nat.reduceLeDiff,reduceCtorEq]at b0 b2 b7
 clear fb
 by_cases hvy:v=y
 ·have hd:decide ((v:Int)=(y:Int))=true:=decide_eq_true (by rw[hvy])
  subst hvy
  (try((repeat(revert N;apply Pn.out));refine wk (tw @b0 (tw @b2 (tw @b7 (tw @b8 @hd)))) ?_;(repeat(apply Pn.mk;intro N hN))))
  exact fc (.inl rfl) (vs:=[.bool true]) (sd @Nat.zero_add) ⟨true,f',rfl,hN1,bp,jx,fun h=>(by cases h),fun _=>hW.done hf⟩
 have hd:decide ((v:Int)=(y:Int))=false:=decide_eq_false fun h=>hvy ad
 have EP:0<out v:=by
  have:=Vr.zero v hv
  rcases Int.lt_or_eq_of_le qn with h|h
  ·exact h
  ·exact absurd (this h.symm) hvy
 have Tb:=hW.goes Vr hv EP
 have hIm:∀ed∈j8 bs bs.length v,ed<bs.length/\Jl bs ed v:=fun ed h=>vp.1 h
 have hIL:(nT cnt bs bs.length)[v]? =some (j8 bs bs.length v):=by simp[nT,hv]
 have hIl:=vn bs bs.length v
 generalize j8 bs bs.length v=I at *
 have hIp:0<I.length:=by
  obtain⟨ed,h,_⟩:=Tb
  exact List.length_pos_of_mem h
 obtain⟨rows,id,P3,uA,om,hid,hid1,hid2⟩:=hN1.a.at_ hIL hIp
 rw[kP]at uA
 have hgX:=hN1.x
 have Ic:(v:Int)<(cnt:Int):=ad
 have wI:=eV (f:=out) hv
 have tk:IntKind.i64.wrap (out v-1)=out v-1:=dj (by have:=Vr.lo v hv;omega)
 have tO:(I.map eN).length=I.length:=by simp
 have Ob:=Bb eA hW.le
 have qH:∀(g:Rows),(∀i:Id,i.bt<nb->g i=st_b.get i)->∀ed:Nat,eC (ez g) 6 [.ptr X 0 0,.int .i64 (v:Int),.int .i64 (ed:Int)]=some [.er (iC cnt bs f'),.int .i64 v,.int .i64 ed]:=fun g hg ed=>by
  have:=(hN1.frame hg (Nat.le_refl _)).fz
  simp only[aj,ar,this,aJ,Option.map_some]
 rw[aL]at wI
 (try((repeat(revert N;apply Pn.out));refine wk (tw @b0 (tw @b2 (tw @b7 (tw @b8 @hd)))) ?_;(repeat(apply Pn.mk;intro N hN))))
 refine cm (fun n env st=>∃k:Nat,n=(I.length)-k/\k<=(I.length)/\env 11=.int .i64 (k:Int)/\(∃(yj Jy:Int),env 9=.int .i64 yj/\env 10=.int .i64 Jy/\((yj<0/\∀z,z<k->¬(0<iq bs f' (I.getD z 0) v/\out (dw bs (I.getD z 0) v)=out v-1))∨∃ed:Nat,ed∈I/\Jy=(ed:Int)/\yj=(dw bs ed v:Int)/\0<iq bs f' ed v/\out (dw bs ed v)=out v-1))/\((∀i:Id,st.get i=st_b.get i)/\st_b.next<=st.next)) (I.length) ⟨0,ad,ad,sl (tw @b0 (tw @b2 (tw @b7 @b8))),⟨-1,0,by(simp only[go_sem, ↓reduceIte,Nat.reduceEqDiff,Nat.reduceAdd,Nat.reduceSub,Nat.reduceLeDiff,reduceCtorEq]),by(simp only[go_sem, ↓reduceIte,Nat.reduceEqDiff,Nat.reduceAdd,Nat.reduceSub,Nat.reduceLeDiff,reduceCtorEq]),.inl ⟨ad,fun z hz=>ad⟩⟩,⟨fun i=>rfl,bp⟩⟩ ?_
 rintro n_c env_c st_c ⟨k,rfl,cle,qx,cI0,cI1⟩ jA
 have c0:=jA 0 (by kernel_rfl);have c2:=jA 2 (by kernel_rfl);have c7:=jA 7 (by kernel_rfl);have c8:=jA 8 (by kernel_rfl)
 simp only[go_sem, ↓reduceIte,Nat.reduceEqDiff,Nat.reduceAdd,Nat.reduceSub,Nat.reduceLeDiff,reduceCtorEq,b0,b2,b7,b8]at c0 c2 c7 c8
 clear jA
 obtain⟨yj,Jy,c9,iR,NK⟩:=cI0
 obtain⟨mz,hcn⟩:=cI1
 have H4:=(mz X).trans hgX
 have H3:=(mz A).trans P3
 have DL:=(mz id).trans hid
 by_cases hk:(k:Int)<(I.length:Int)
 ·have iL:∀{e:Env} {gg:Rows} {nx:Nat},(e 11=.int .i64 (IntKind.i64.wrap ((k:Int)+1)))->(∃(yj Jy:Int),e 9=.int .i64 yj/\e 10=.int .i64 Jy/\((yj<0/\∀z,z<(k+1)->¬(0<iq bs f' (I.getD z 0) v/\out (dw bs (I.getD z 0) v)=out v-1))∨∃ed:Nat,ed∈I/\Jy=(ed:Int)/\yj=(dw bs ed v:Int)/\0<iq bs f' ed v/\out (dw bs ed v)=out v-1))->((∀i:Id,gg i=st_b.get i)/\st_b.next<=nx)->∃m0,m0<(I.length)-k/\∃k:Nat,m0=(I.length)-k/\k<=(I.length)/\e 11=.int .i64 (k:Int)/\(∃(yj Jy:Int),e 9=.int .i64 yj/\e 10=.int .i64 Jy/\((yj<0/\∀z,z<k->¬(0<iq bs f' (I.getD z 0) v/\out (dw bs (I.getD z 0) v)=out v-1))∨∃ed:Nat,ed∈I/\Jy=(ed:Int)/\yj=(dw bs ed v:Int)/\0<iq bs f' ed v/\out (dw bs ed v)=out v-1))/\((∀i:Id,gg i=st_b.get i)/\st_b.next<=nx):=fun x1 x2 x3=>⟨_,ad,k+1,rfl,ad,(by rw[x1,aX ad]),x2,x3⟩
  have ji:k<I.length:=ad
  have gx:(I.map eN)[k]? =some (eN (I.getD k 0)):=getD_map eN ji
  have pN:I.getD k 0∈I:=by rw[List.getD_eq_getElem?_getD,List.getElem?_eq_getElem ji];exact List.getElem_mem ji
  obtain⟨he,sY⟩:=hIm _ pN
  have Qc:=Pd cnt bs f' Ob (I.getD k 0) v he
  have XV:=qH st_c.get (fun i _=>mz i) (I.getD k 0)
  have hq:=rI ok (v:=v) he
  have XK:=eV (f:=out) hq
  obtain⟨ed,hed⟩:∃ed,ed=I.getD k 0:=⟨_,rfl⟩
  rw[<-hed]at gx he sY Qc XV hq XK pN
  rw[aL]at XK
  rw[eN]at gx
  (try((repeat(revert N;apply Pn.out));refine wk (tw @qx (tw @c0 (tw @c2 (tw @c7 (tw @c8 (tw @c9 (tw @iR (tw @hk (tw @H4 (tw @H3 (tw @DL (tw @om (tw @uA (tw @Ic (tw @gx (tw @tO @dm.eq_1)))))))))))))))) ?_;(repeat(apply Pn.mk;intro N hN))))
  refine .inl ⟨_,ax.x Qc XV,?_⟩
  apply hN
  clear hN N
  have stay:∀k',k'=k+1->(¬(0<iq bs f' ed v/\out (dw bs ed v)=out v-1))->((yj<0/\∀z,z<k'->¬(0<iq bs f' (I.getD z 0) v/\out (dw bs (I.getD z 0) v)=out v-1))∨∃ed:Nat,ed∈I/\Jy=(ed:Int)/\yj=(dw bs ed v:Int)/\0<iq bs f' ed v/\out (dw bs ed v)=out v-1):=fun k' Hf mH=>by
   rcases NK with⟨h1,h2⟩|h
   ·refine .inl ⟨h1,fun z hz=>?_⟩
    by_cases hzk':z=k
    ·subst hzk';rw[<-hed];exact mH
    ·exact h2 z ad
   ·exact .inr h
  by_cases hr:0<iq bs f' ed v
  ·by_cases K3:out (dw bs ed v)=out v-1
   ·have oi:decide (out (dw bs ed v)=out v-1)=true:=decide_eq_true K3
    have found:∃Yp:Nat,Yp∈I/\(ed:Int)=(Yp:Int)/\(dw bs ed v:Int)=(dw bs Yp v:Int)/\0<iq bs f' Yp v/\out (dw bs Yp v)=out v-1:=⟨ed,pN,rfl,rfl,hr,K3⟩
    by_cases H7:yj<0
    ·(try((repeat(revert N;apply Pn.out));refine wk (tw @qx (tw @c0 (tw @c2 (tw @c7 (tw @c8 (tw @c9 (tw @iR (tw @hk (tw @H4 (tw @H3 (tw @DL (tw @om (tw @uA (tw @Ic (tw @gx (tw @tO (tw @hr (tw @XK (tw @wI (tw @tk (tw @oi (tw @H7 @dm.eq_1)))))))))))))))))))))) ?_;(repeat(apply Pn.mk;intro N hN))))
     exact iL (sd (tw @qx (tw @c0 (tw @c2 (tw @c7 @c8))))) (⟨_,_,sd @Nat.zero_add,sd @Nat.zero_add,.inr found⟩) (⟨mz,bp⟩)
    ·by_cases eP:(dw bs ed v:Int)<yj
     ·(try((repeat(revert N;apply Pn.out));refine wk (tw @qx (tw @c0 (tw @c2 (tw @c7 (tw @c8 (tw @c9 (tw @iR (tw @hk (tw @H4 (tw @H3 (tw @DL (tw @om (tw @uA (tw @Ic (tw @gx (tw @tO (tw @hr (tw @XK (tw @wI (tw @tk (tw @oi (tw @H7 (tw @eP @dm.eq_1))))))))))))))))))))))) ?_;(repeat(apply Pn.mk;intro N hN))))
      exact iL (sd (tw @qx (tw @c0 (tw @c2 (tw @c7 @c8))))) (⟨_,_,sd @Nat.zero_add,sd @Nat.zero_add,.inr found⟩) (⟨mz,bp⟩)
     ·(try((repeat(revert N;apply Pn.out));refine wk (tw @qx (tw @c0 (tw @c2 (tw @c7 (tw @c8 (tw @c9 (tw @iR (tw @hk (tw @H4 (tw @H3 (tw @DL (tw @om (tw @uA (tw @Ic (tw @gx (tw @tO (tw @hr (tw @XK (tw @wI (tw @tk (tw @oi (tw @H7 (tw @eP @dm.eq_1))))))))))))))))))))))) ?_;(repeat(apply Pn.mk;intro N hN))))
      exact iL (sd (tw @qx (tw @c0 (tw @c2 (tw @c7 @c8))))) (⟨yj,Jy,sd @c9,sd @iR,by
       rcases NK with⟨h1,_⟩|h
       ·exact absurd h1 H7
       ·exact .inr h⟩) (⟨mz,bp⟩)
   ·have oi:decide (out (dw bs ed v)=out v-1)=false:=decide_eq_false K3
    (try((repeat(revert N;apply Pn.out));refine wk (tw @qx (tw @c0 (tw @c2 (tw @c7 (tw @c8 (tw @c9 (tw @iR (tw @hk (tw @H4 (tw @H3 (tw @DL (tw @om (tw @uA (tw @Ic (tw @gx (tw @tO (tw @hr (tw @XK (tw @wI (tw @tk (tw @oi @dm.eq_1))))))))))))))))))))) ?_;(repeat(apply Pn.mk;intro N hN))))
    exact iL (sd (tw @qx (tw @c0 (tw @c2 (tw @c7 @c8))))) (⟨yj,Jy,sd @c9,sd @iR,stay _ rfl fun h=>K3 h.2⟩) (⟨mz,bp⟩)
  ·(try((repeat(revert N;apply Pn.out));refine wk (tw @qx (tw @c0 (tw @c2 (tw @c7 (tw @c8 (tw @c9 (tw @iR (tw @hk (tw @H4 (tw @H3 (tw @DL (tw @om (tw @uA (tw @Ic (tw @gx (tw @tO (tw @hr @dm.eq_1))))))))))))))))) ?_;(repeat(apply Pn.mk;intro N hN))))
   exact iL (sd (tw @qx (tw @c0 (tw @c2 (tw @c7 @c8))))) (⟨yj,Jy,sd @c9,sd @iR,stay _ rfl fun h=>hr h.1⟩) (⟨mz,bp⟩)
 ·have lk:k=I.length:=ad
  have hfnd:∃ed:Nat,ed∈I/\Jy=(ed:Int)/\yj=(dw bs ed v:Int)/\0<iq bs f' ed v/\out (dw bs ed v)=out v-1:=by
   rcases NK with⟨h1,h2⟩|h
   ·exfalso
    obtain⟨ed,he,hq⟩:=Tb
    obtain⟨z,hz,rfl⟩:=List.getElem_of_mem he
    refine h2 z ad ?_
    rw[List.getD_eq_getElem?_getD,List.getElem?_eq_getElem hz];exact hq
   ·exact h
  obtain⟨ed,pN,rfl,rfl,hr,K3⟩:=hfnd
  obtain⟨he,sY⟩:=hIm _ pN
  (try((repeat(revert N;apply Pn.out));refine wk (tw @qx (tw @c0 (tw @c2 (tw @c7 (tw @c8 (tw @c9 (tw @iR (tw @hk (tw @H4 (tw @H3 (tw @DL (tw @om (tw @uA (tw @Ic (tw @tO @dm.eq_1))))))))))))))) ?_;(repeat(apply Pn.mk;intro N hN))))
  refine .inr (aH _ _ _ _ _ (fun r σ1 hq=>?_) (VZ cnt bs f' Ob ed v he X A F ⟨st_c.get,_⟩ nb (hN1.frame (fun i _=>mz i) (Nat.le_refl _)) bp))
  obtain⟨hN2,pM,NS⟩:=hq
  (try dsimp only at pM NS)
  apply hN
  clear hN N
  (try((repeat(revert N;apply Pn.out));refine wk (tw @qx (tw @c0 (tw @c2 (tw @c7 (tw @c8 @c9))))) ?_;(repeat(apply Pn.mk;intro N hN))))
  refine⟨_,?_,dw bs ed v,yl bs f' ed v,rfl,rI ok he,ad,sd @Nat.zero_add,hW.step he sY hr K3,hN2,fun i hi hF=>by rw[NS i hF,mz i,jx i hi hF],bp⟩
  omega
end Go.Proofs.YtoodopepphhpoaaGreatDoor.V
