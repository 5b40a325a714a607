/- Bounds, points and directions, walked in the small language. -/
import Derived.Test.YtoodopepphhpoaaGreatDoorTtB
import Derived.Test.YtoodopepphhpoaaGreatDoorTtA
set_option linter.unusedVariables false
set_option linter.unusedSimpArgs false
set_option maxRecDepth 100000
set_option maxHeartbeats 16000000
namespace Go.Proofs.YtoodopepphhpoaaGreatDoor
namespace V
open Go.RowKit
attribute [local irreducible] dY wpOps fm Call
def jj (n lo hi:Int):Bool:=decide (lo<=n)&&decide (n<=hi)
theorem dV {n lo hi:Int} (h:jj n lo hi=true):lo<=n/\n<=hi:=by simpa[jj]using h
theorem jc {n lo hi:Int} (h:lo<=n/\n<=hi):jj n lo hi=true:=by simpa[jj]using h
def s9 (p:af):Bool:=jj p.eV (-60) 60&&jj p.eR (-60) 60
theorem mB (n lo hi:Int):au Tryz.prog 66 [.int .i64 n,.int .i64 lo,.int .i64 hi] (.bool (jj n lo hi)):=by
 refine au.body fx rfl fun hl n0=>?_;clear hl
 by_cases h1:lo<=n
 ·(try((repeat(revert N;apply g7));refine wk @h1 ?_;repeat(apply g6;intro N hN)));exact cZ (b:=decide (n<=hi)) (.inl rfl) (sd @g8) (by simp[jj,h1])
 ·(try((repeat(revert N;apply g7));refine wk @h1 ?_;repeat(apply g6;intro N hN)));exact cZ (b:=false) (.inl rfl) (sd @g8) (by simp[jj,h1])
theorem lU (n lo hi:Int):au Tryz.prog 88 [.int .i64 n,.int .i64 lo,.int .i64 hi] (.bool (jj n lo hi)):=by
 refine au.body fx rfl fun hl n0=>?_;clear hl
 by_cases h1:lo<=n
 ·(try((repeat(revert N;apply g7));refine wk @h1 ?_;repeat(apply g6;intro N hN)));exact cZ (b:=decide (n<=hi)) (.inl rfl) (sd @g8) (by simp[jj,h1])
 ·(try((repeat(revert N;apply g7));refine wk @h1 ?_;repeat(apply g6;intro N hN)));exact cZ (b:=false) (.inl rfl) (sd @g8) (by simp[jj,h1])
theorem N7 (d:Int):au Tryz.prog 160 [.int .i64 d] (.bool (jj d 0 3)):=by
 refine au.body fx rfl fun hl n0=>?_;clear hl;have h:=mB d 0 3;(repeat(first|((repeat(revert N;apply g7));refine wk @g8 ?_;repeat(apply g6;intro N hN))|((try apply i3);refine⟨_,au.x (h) (sd @g8),?_⟩;apply hN;clear hN N)));exact cZ (b:=jj d 0 3) (.inl rfl) (sd @g8) rfl
theorem tL (p:af):au Tryz.prog 39 [.agg (ab p)] (.bool (s9 p)):=by
 refine au.body fx rfl fun hl n0=>?_;clear hl;have h1:=mB p.eV (-60) 60;have h2:=mB p.eR (-60) 60
 by_cases q:jj p.eV (-60) 60=true
 ·rw[q]at h1;(repeat(first|((repeat(revert N;apply g7));refine wk @ab.eq_1 ?_;repeat(apply g6;intro N hN))|((try apply i3);refine⟨_,au.x (h1) (sd @ab.eq_1),?_⟩;apply hN;clear hN N)|((try apply i3);refine⟨_,au.x (h2) (sd @ab.eq_1),?_⟩;apply hN;clear hN N)));exact cZ (b:=jj p.eR (-60) 60) (.inl rfl) (sd @g8) (by rw[s9,q];rfl)
 ·rw[Bool.not_eq_true]at q;rw[q]at h1;(repeat(first|((repeat(revert N;apply g7));refine wk @ab.eq_1 ?_;repeat(apply g6;intro N hN))|((try apply i3);refine⟨_,au.x (h1) (sd @ab.eq_1),?_⟩;apply hN;clear hN N)|((try apply i3);refine⟨_,au.x (h2) (sd @ab.eq_1),?_⟩;apply hN;clear hN N)));exact cZ (b:=false) (.inl rfl) (sd @g8) (by rw[s9,q];rfl)
theorem mm (p:af):au Tryz.prog 104 [.agg (ab p)] (.bool (s9 p)):=by
 refine au.body fx rfl fun hl n0=>?_;clear hl;have h1:=lU p.eV (-60) 60;have h2:=lU p.eR (-60) 60
 by_cases q:jj p.eV (-60) 60=true
 ·rw[q]at h1;(repeat(first|((repeat(revert N;apply g7));refine wk @ab.eq_1 ?_;repeat(apply g6;intro N hN))|((try apply i3);refine⟨_,au.x (h1) (sd @ab.eq_1),?_⟩;apply hN;clear hN N)|((try apply i3);refine⟨_,au.x (h2) (sd @ab.eq_1),?_⟩;apply hN;clear hN N)));exact cZ (b:=jj p.eR (-60) 60) (.inl rfl) (sd @g8) (by rw[s9,q];rfl)
 ·rw[Bool.not_eq_true]at q;rw[q]at h1;(repeat(first|((repeat(revert N;apply g7));refine wk @ab.eq_1 ?_;repeat(apply g6;intro N hN))|((try apply i3);refine⟨_,au.x (h1) (sd @ab.eq_1),?_⟩;apply hN;clear hN N)|((try apply i3);refine⟨_,au.x (h2) (sd @ab.eq_1),?_⟩;apply hN;clear hN N)));exact cZ (b:=false) (.inl rfl) (sd @g8) (by rw[s9,q];rfl)
def kH (d:Int):Int:=if jj d 0 3 then(d+2) % 4 else -1
def bI (p:af) (d:Int):af:=
 if d=0 then⟨p.eV,p.eR+1⟩else if d=1 then⟨p.eV+1,p.eR⟩else if d=2 then⟨p.eV,p.eR-1⟩else if d=3 then⟨p.eV-1,p.eR⟩else p
def iB (n:Int):Prop:=-4611686018427387904<=n/\n<=4611686018427387904
theorem rY (p:af) (d:Int) (hd:jj d 0 3=true) (hx:iB p.eV) (hy:iB p.eR):au Tryz.prog 83 [.agg (ab p),.int .i64 d] (.agg (ab (bI p d))):=by
 refine au.body fx rfl fun hl n0=>?_;clear hl;obtain⟨x1,x2⟩:=hx;obtain⟨y1,y2⟩:=hy;have w1:IntKind.i64.wrap (p.eV+1)=p.eV+1:=db ae;have w2:IntKind.i64.wrap (p.eV-1)=p.eV-1:=db ae;have w3:IntKind.i64.wrap (p.eR+1)=p.eR+1:=db ae;have w4:IntKind.i64.wrap (p.eR-1)=p.eR-1:=db ae;have hb:=dV hd;have hc:d=0∨d=1∨d=2∨d=3:=ae
 rcases hc with rfl|rfl|rfl|rfl
 ·(try((repeat(revert N;apply g7));refine wk (tw @ab.eq_1 @w3) ?_;repeat(apply g6;intro N hN)));exact lu (.inl rfl) (vs:=[.agg (ab (bI p 0))]) (by simp only[go_sem,↓reduceIte,Nat.reduceEqDiff,Nat.reduceAdd,Nat.reduceSub,Nat.reduceLeDiff,reduceCtorEq,ir,jw,ab,bI]) (by simp[gH,ab,iG,fC])
 ·(try((repeat(revert N;apply g7));refine wk (tw @ab.eq_1 @w1) ?_;repeat(apply g6;intro N hN)));exact lu (.inl rfl) (vs:=[.agg (ab (bI p 1))]) (by simp[ir,jw,ab,bI,ld,rowAt,bJ,upd,part]) (by simp[gH,ab,iG,fC])
 ·(try((repeat(revert N;apply g7));refine wk (tw @ab.eq_1 @w4) ?_;repeat(apply g6;intro N hN)));exact lu (.inl rfl) (vs:=[.agg (ab (bI p 2))]) (by simp[ir,jw,ab,bI,ld,rowAt,bJ,upd,part]) (by simp[gH,ab,iG,fC])
 ·(try((repeat(revert N;apply g7));refine wk (tw @ab.eq_1 @w2) ?_;repeat(apply g6;intro N hN)));exact lu (.inl rfl) (vs:=[.agg (ab (bI p 3))]) (by simp[ir,jw,ab,bI,ld,rowAt,bJ,upd,part]) (by simp[gH,ab,iG,fC])
theorem DM (p p2:af) (x y:Int) (hx:IntKind.i64.wrap (p.eV+p2.eV)=x) (hy:IntKind.i64.wrap (p.eR+p2.eR)=y):au Tryz.prog 154 [.agg (ab p),.agg (ab p2)] (.agg [.int .i64 x,.int .i64 y]):=by
 refine au.body fx rfl fun hl n0=>?_;clear hl;(try((repeat(revert N;apply g7));refine wk (tw3 @ab.eq_1 @hx @hy) ?_;repeat(apply g6;intro N hN)));exact lu (.inl rfl) (vs:=[.agg [.int .i64 x,.int .i64 y]]) (by simp only[go_sem,↓reduceIte,Nat.reduceEqDiff,Nat.reduceAdd,Nat.reduceSub,Nat.reduceLeDiff,reduceCtorEq,ir,jw,ab]) (by simp[gH,iG,fC])
theorem xf (p:af) (d:Int) (hd:jj d 0 3=true) (hx:iB p.eV) (hy:iB p.eR):au Tryz.prog 123 [.agg (ab p),.int .i64 d] (.agg (ab (bI p d))):=by
 refine au.body fx rfl fun hl n0=>?_;clear hl;obtain⟨x1,x2⟩:=hx;obtain⟨y1,y2⟩:=hy;have hb:=dV hd;have hc:d=0∨d=1∨d=2∨d=3:=ae
 rcases hc with rfl|rfl|rfl|rfl
 ·have h:=DM p ⟨0,1⟩ (p.eV) (p.eR+1) (by rw[db (by constructor<;>simp only<;>omega)]<;>(try simp only)<;>(try omega)) (by rw[db (by constructor<;>simp only<;>omega)]<;>(try simp only)<;>(try omega));simp only[ab]at h;(repeat(first|((repeat(revert N;apply g7));refine wk @ab.eq_1 ?_;repeat(apply g6;intro N hN))|((try apply i3);refine⟨_,au.x (h) (sd @ab.eq_1),?_⟩;apply hN;clear hN N)));exact lu (.inl rfl) (vs:=[.agg (ab (bI p 0))]) (by simp[ir,jw,ab,bI,ld,rowAt,bJ,upd,part]) (by simp[gH,ab,iG,fC])
 ·have h:=DM p ⟨1,0⟩ (p.eV+1) (p.eR) (by rw[db (by constructor<;>simp only<;>omega)]<;>(try simp only)<;>(try omega)) (by rw[db (by constructor<;>simp only<;>omega)]<;>(try simp only)<;>(try omega));simp only[ab]at h;(repeat(first|((repeat(revert N;apply g7));refine wk @ab.eq_1 ?_;repeat(apply g6;intro N hN))|((try apply i3);refine⟨_,au.x (h) (sd @ab.eq_1),?_⟩;apply hN;clear hN N)));exact lu (.inl rfl) (vs:=[.agg (ab (bI p 1))]) (by simp[ir,jw,ab,bI,ld,rowAt,bJ,upd,part]) (by simp[gH,ab,iG,fC])
 ·have h:=DM p ⟨0,(-1)⟩ (p.eV) (p.eR-1) (by rw[db (by constructor<;>simp only<;>omega)]<;>(try simp only)<;>(try omega)) (by rw[db (by constructor<;>simp only<;>omega)]<;>(try simp only)<;>(try omega));simp only[ab]at h;(repeat(first|((repeat(revert N;apply g7));refine wk @ab.eq_1 ?_;repeat(apply g6;intro N hN))|((try apply i3);refine⟨_,au.x (h) (sd @ab.eq_1),?_⟩;apply hN;clear hN N)));exact lu (.inl rfl) (vs:=[.agg (ab (bI p 2))]) (by simp[ir,jw,ab,bI,ld,rowAt,bJ,upd,part]) (by simp[gH,ab,iG,fC])
 ·have h:=DM p ⟨(-1),0⟩ (p.eV-1) (p.eR) (by rw[db (by constructor<;>simp only<;>omega)]<;>(try simp only)<;>(try omega)) (by rw[db (by constructor<;>simp only<;>omega)]<;>(try simp only)<;>(try omega));simp only[ab]at h;(repeat(first|((repeat(revert N;apply g7));refine wk @ab.eq_1 ?_;repeat(apply g6;intro N hN))|((try apply i3);refine⟨_,au.x (h) (sd @ab.eq_1),?_⟩;apply hN;clear hN N)));exact lu (.inl rfl) (vs:=[.agg (ab (bI p 3))]) (by simp[ir,jw,ab,bI,ld,rowAt,bJ,upd,part]) (by simp[gH,ab,iG,fC])
theorem H7 (d:Int) (hd:jj d 0 3=true):au Tryz.prog 158 [.int .i64 d] (.int .i64 (kH d)):=by
 refine au.body fx rfl fun hl n0=>?_;clear hl;have hb:=dV hd;have hw:IntKind.i64.wrap (d+2)=d+2:=db ae;have ht:Int.tmod (d+2) 4=(d+2) % 4:=Int.tmod_eq_emod_of_nonneg ae;have h4:¬((4:Int)=0):=ae;(try((repeat(revert N;apply g7));refine wk (tw3 @hw @ht @h4) ?_;repeat(apply g6;intro N hN)));exact ed (b:=(d+2) % 4) (.inl rfl) (sd @g8) (by rw[kH,if_pos hd])
theorem yM (d:Int) (hd:jj d 0 3=true):au Tryz.prog 126 [.int .i64 d] (.int .i64 (kH d)):=by
 refine au.body fx rfl fun hl n0=>?_;clear hl;have hb:=dV hd;have hw:IntKind.i64.wrap (d+2)=d+2:=db ae;have ht:Int.tmod (d+2) 4=(d+2) % 4:=Int.tmod_eq_emod_of_nonneg ae;have h4:¬((4:Int)=0):=ae;have h:=N7 d;rw[hd]at h;(repeat(first|((repeat(revert N;apply g7));refine wk (tw3 @hw @ht @h4) ?_;repeat(apply g6;intro N hN))|((try apply i3);refine⟨_,au.x (h) (sd (tw3 @hw @ht @h4)),?_⟩;apply hN;clear hN N)));exact ed (b:=(d+2) % 4) (.inl rfl) (sd @g8) (by rw[kH,if_pos hd])
def eE (s:aE) (t:Int):Bool:=jj t 0 ((s.aq.length:Int)-1)
theorem zx (s:aE) (t:Int):au Tryz.prog 40 [.dZ (ai s),.int .i64 t] (.bool (eE s t)):=by
 refine au.body fx rfl fun hl n0=>?_
 have hn:s.aq.length<=9223372036854775807:=by
  have h1:=(hl (.dZ (ai s)) (by simp)).FF (a:=.sl (s.aq.map dp)) (by simp[ai])
  simpa using h1.len
 clear hl;have hw:IntKind.i64.wrap ((s.aq.length:Int)-1)=(s.aq.length:Int)-1:=db ae;have h:=mB t 0 ((s.aq.length:Int)-1);(repeat(first|((repeat(revert N;apply g7));refine wk (tw @ai.eq_1 @hw) ?_;repeat(apply g6;intro N hN))|((try apply i3);refine⟨_,au.x (h) (sd (tw @ai.eq_1 @hw)),?_⟩;apply hN;clear hN N)));exact cZ (b:=eE s t) (.inl rfl) (by simp only[go_sem,↓reduceIte,Nat.reduceEqDiff,Nat.reduceAdd,Nat.reduceSub,Nat.reduceLeDiff,reduceCtorEq,eE]) rfl
theorem BR (t n:Int) (h0:0<=n) (h1:n<=9223372036854775807):au Tryz.prog 105 [.int .i64 t,.int .i64 n] (.bool (jj t 0 (n-1))):=by
 refine au.body fx rfl fun hl n0=>?_;clear hl;have hw:IntKind.i64.wrap (n-1)=n-1:=db ae;have h:=lU t 0 (n-1);(repeat(first|((repeat(revert N;apply g7));refine wk @hw ?_;repeat(apply g6;intro N hN))|((try apply i3);refine⟨_,au.x (h) (sd @hw),?_⟩;apply hN;clear hN N)));exact cZ (b:=jj t 0 (n-1)) (.inl rfl) (sd @g8) rfl
theorem N2 (s:aE) (t:Int):au Tryz.prog 153 [.agg (ai s),.int .i64 t] (.bool (eE s t)):=by
 refine au.body fx rfl fun hl n0=>?_
 have hn:s.aq.length<=9223372036854775807:=by
  have h1:=(hl (.agg (ai s)) (by simp)).TY (a:=.sl (s.aq.map dp)) (by simp[ai])
  simpa using h1.len
 clear hl;have h:=BR t s.aq.length ae ae;(repeat(first|((repeat(revert N;apply g7));refine wk @ai.eq_1 ?_;repeat(apply g6;intro N hN))|((try apply i3);refine⟨_,au.x (h) (sd @ai.eq_1),?_⟩;apply hN;clear hN N)));exact cZ (b:=eE s t) (.inl rfl) (by simp only[go_sem,↓reduceIte,Nat.reduceEqDiff,Nat.reduceAdd,Nat.reduceSub,Nat.reduceLeDiff,reduceCtorEq,eE]) rfl
def DK:di:=⟨⟨#[]⟩,[]⟩
def cU (s:aE) (t:Int):di:=s.aq.getD t.toNat DK
def cV (t:di) (d:Int):Int:=t.de.getD d.toNat 0
def pq (s:aE) (g:Int):gy:=s.bM.getD g.toNat ⟨⟨#[]⟩,0⟩
def pK (s:aE) (g:Int):Int:=if g=0 then 0 else(pq s (g-1)).gV
def fQ (s:aE) (a d b:Int):Int:=if cV (cU s a) d=cV (cU s b) (kH d)then pK s (cV (cU s a) d)else 0
structure kj (s:aE):Prop where
 jh:∀t∈s.aq,t.de.length=4
 uN:∀t∈s.aq,∀g∈t.de,0<=g/\g<=s.bM.length
theorem getD_map {α β:Type} (e:α->β) {l:List α} {k:Nat} {d:α} (h:k<l.length):(l.map e)[k]? =some (e (l.getD k d)):=by simp[List.getD_eq_getElem?_getD,h]
theorem s6 (s:aE) (g:Int) (h0:0<=g) (h1:g<=s.bM.length):au Tryz.prog 127 [.dZ (ai s),.int .i64 g] (.int .i64 (pK s g)):=by
 refine au.body fx rfl fun hl n0=>?_
 have hn:s.bM.length<=9223372036854775807:=by
  have h1:=(hl (.dZ (ai s)) (by simp)).FF (a:=.sl (s.bM.map dU)) (by simp[ai])
  simpa using h1.len
 clear hl
 by_cases hg:g=0
 ·have e:decide (g=0)=true:=decide_eq_true hg;(try((repeat(revert N;apply g7));refine wk (tw @ai.eq_1 @e) ?_;repeat(apply g6;intro N hN)));exact ed (b:=0) (.inl rfl) (sd @g8) (by rw[pK,if_pos hg])
 ·have e:decide (g=0)=false:=decide_eq_false hg;have hw:IntKind.i64.wrap (g-1)=g-1:=db ae;have jV:0<=g-1:=ae;have ib:(s.bM.map dU)[(g-1).toNat]? =some (dU (pq s (g-1))):=getD_map dU ae;(try((repeat(revert N;apply g7));refine wk (tw6 @ai.eq_1 @e @hw @jV @ib @dU.eq_1) ?_;repeat(apply g6;intro N hN)));exact ed (b:=(pq s (g-1)).gV) (.inl rfl) (sd @g8) (by rw[pK,if_neg hg])
theorem lS {s:aE} {a:Int} (h:eE s a=true):0<=a/\(s.aq.map dp)[a.toNat]? =some (dp (cU s a))/\cU s a∈s.aq:=by
 have h':=dV h;have eG:a.toNat<s.aq.length:=ae;refine⟨h'.1,getD_map dp eG,?_⟩;unfold cU;rw[List.getD_eq_getElem?_getD,i5 eG];exact List.getElem_mem eG
theorem ny {t:di} {d:Int} (h:t.de.length=4) (hd:jj d 0 3=true):(t.de.map bf)[d.toNat]? =some [.int .i64 (cV t d)]:=by
 have:=dV hd;exact getD_map bf ae
theorem Aq {t:di} {d:Int} (h:t.de.length=4) (hd:jj d 0 3=true):cV t d∈t.de:=by
 have:=dV hd;have eG:d.toNat<t.de.length:=ae;unfold cV;rw[List.getD_eq_getElem?_getD,i5 eG];exact List.getElem_mem eG
theorem tY {d:Int} (hd:jj d 0 3=true):jj (kH d) 0 3=true:=by
 have:=dV hd;refine jc ?_;rw[kH,if_pos hd];omega
theorem BV (s:aE) (hF:kj s) (a d b:Int) (ha:eE s a=true) (hb:eE s b=true) (hd:jj d 0 3=true):au Tryz.prog 84 [.dZ (ai s),.int .i64 a,.int .i64 d,.int .i64 b] (.int .i64 (fQ s a d b)):=by
 refine au.body fx rfl fun hl n0=>?_;clear hl;obtain⟨a0,a1,a2⟩:=lS ha;obtain⟨b0,b1,b2⟩:=lS hb;have s1:=ny (hF.jh _ a2) hd;have s2:=ny (hF.jh _ b2) (tY hd);have gl:=hF.uN _ a2 _ (Aq (hF.jh _ a2) hd);have d0:=(dV hd).1;have d1:=(dV (tY hd)).1;have h:=yM d hd;have hs:=s6 s (cV (cU s a) d) gl.1 gl.2;rw[ai]at hs
 by_cases e:cV (cU s a) d=cV (cU s b) (kH d)
 ·have e':decide (cV (cU s a) d=cV (cU s b) (kH d))=true:=decide_eq_true e
  (have zF:=tw9 @ai.eq_1 @dp.eq_1 @a0 @a1 @b0 @b1 @s1 @s2 (tw3 @d0 @d1 @e');(repeat(first|((repeat(revert N;apply g7));refine wk zF ?_;repeat(apply g6;intro N hN))|((try apply i3);refine⟨_,au.x (h) (sd zF),?_⟩;apply hN;clear hN N)|((try apply i3);refine⟨_,au.x (hs) (sd zF),?_⟩;apply hN;clear hN N)));try clear zF)
  exact ed (b:=pK s (cV (cU s a) d)) (.inl rfl) (sd @g8) (by rw[fQ,if_pos e])
 ·have e':decide (cV (cU s a) d=cV (cU s b) (kH d))=false:=decide_eq_false e
  (have zF:=tw9 @ai.eq_1 @dp.eq_1 @a0 @a1 @b0 @b1 @s1 @s2 (tw3 @d0 @d1 @e');(repeat(first|((repeat(revert N;apply g7));refine wk zF ?_;repeat(apply g6;intro N hN))|((try apply i3);refine⟨_,au.x (h) (sd zF),?_⟩;apply hN;clear hN N)));try clear zF)
  exact ed (b:=0) (.inl rfl) (sd @g8) (by rw[fQ,if_neg e])
theorem Iu (s:aE) (hF:kj s) (a d:Int) (ha:eE s a=true) (hd:jj d 0 3=true):au Tryz.prog 159 [.agg (ai s),.int .i64 a,.int .i64 d] (.int .i64 (pK s (cV (cU s a) d))):=by
 refine au.body fx rfl fun hl n0=>?_
 have hn:s.bM.length<=9223372036854775807:=by
  have h1:=(hl (.agg (ai s)) (by simp)).TY (a:=.sl (s.bM.map dU)) (by simp[ai])
  simpa using h1.len
 clear hl;obtain⟨a0,a1,a2⟩:=lS ha;have s1:=ny (hF.jh _ a2) hd;have gl:=hF.uN _ a2 _ (Aq (hF.jh _ a2) hd);have d0:=(dV hd).1
 by_cases hg:cV (cU s a) d=0
 ·have e:¬(0<cV (cU s a) d):=ae;(try((repeat(revert N;apply g7));refine wk (tw7 @ai.eq_1 @dp.eq_1 @a0 @a1 @s1 @d0 @e) ?_;repeat(apply g6;intro N hN)));exact ed (b:=0) (.inl rfl) (sd @g8) (by rw[pK,if_pos hg])
 ·have e:0<cV (cU s a) d:=ae;have hw:IntKind.i64.wrap (cV (cU s a) d-1)=cV (cU s a) d-1:=db ae;have jV:0<=cV (cU s a) d-1:=ae;have ib:(s.bM.map dU)[(cV (cU s a) d-1).toNat]? =some (dU (pq s (cV (cU s a) d-1))):=getD_map dU ae;(try((repeat(revert N;apply g7));refine wk (tw9 @ai.eq_1 @dp.eq_1 @a0 @a1 @s1 @d0 @e @hw (tw3 @jV @ib @dU.eq_1)) ?_;repeat(apply g6;intro N hN)));exact ed (b:=(pq s (cV (cU s a) d-1)).gV) (.inl rfl) (sd @g8) (by rw[pK,if_neg hg])
theorem MR (s:aE) (hF:kj s) (a d b:Int) (ha:eE s a=true) (hb:eE s b=true) (hd:jj d 0 3=true):au Tryz.prog 125 [.agg (ai s),.int .i64 a,.int .i64 d,.int .i64 b] (.int .i64 (fQ s a d b)):=by
 refine au.body fx rfl fun hl n0=>?_;clear hl;obtain⟨a0,a1,a2⟩:=lS ha;obtain⟨b0,b1,b2⟩:=lS hb;have s1:=ny (hF.jh _ a2) hd;have s2:=ny (hF.jh _ b2) (tY hd);have d0:=(dV hd).1;have d1:=(dV (tY hd)).1;have h:=H7 d hd;have hs:=Iu s hF a d ha hd;rw[ai]at hs
 by_cases e:cV (cU s a) d=cV (cU s b) (kH d)
 ·have e':decide (cV (cU s a) d=cV (cU s b) (kH d))=true:=decide_eq_true e
  (have zF:=tw9 @ai.eq_1 @dp.eq_1 @a0 @a1 @b0 @b1 @s1 @s2 (tw3 @d0 @d1 @e');(repeat(first|((repeat(revert N;apply g7));refine wk zF ?_;repeat(apply g6;intro N hN))|((try apply i3);refine⟨_,au.x (h) (sd zF),?_⟩;apply hN;clear hN N)|((try apply i3);refine⟨_,au.x (hs) (sd zF),?_⟩;apply hN;clear hN N)));try clear zF)
  exact ed (b:=pK s (cV (cU s a) d)) (.inl rfl) (sd @g8) (by rw[fQ,if_pos e])
 ·have e':decide (cV (cU s a) d=cV (cU s b) (kH d))=false:=decide_eq_false e
  (have zF:=tw9 @ai.eq_1 @dp.eq_1 @a0 @a1 @b0 @b1 @s1 @s2 (tw3 @d0 @d1 @e');(repeat(first|((repeat(revert N;apply g7));refine wk zF ?_;repeat(apply g6;intro N hN))|((try apply i3);refine⟨_,au.x (h) (sd zF),?_⟩;apply hN;clear hN N)));try clear zF)
  exact ed (b:=0) (.inl rfl) (sd @g8) (by rw[fQ,if_neg e])
def qx (s:aE) (i:Nat):gy:=s.bM.getD i ⟨⟨#[]⟩,0⟩
def qi (s:aE) (i:Nat):di:=s.aq.getD i DK
def GZ (s:aE) (i:Nat):Prop:=je (qx s i).bL=true/\jj (qx s i).gV 1 4=true/\∀j,j<i->(qx s j).bL≠(qx s i).bL
def EA (s:aE) (i:Nat):Prop:=je (qi s i).bL=true/\(qi s i).de.length=4/\(∀j,j<i->(qi s j).bL≠(qi s i).bL)/\∀g∈(qi s i).de,jj g 0 s.bM.length=true
structure gz (s:aE):Prop where
 uN:s.bM.length<=200
 some:1<=s.aq.length
 qj:s.aq.length<=160
 ZZ:∀i,i<s.bM.length->GZ s i
 tok:∀i,i<s.aq.length->EA s i
noncomputable def rz (s:aE):Bool:=@decide (gz s) (Classical.propDecidable _)
theorem nw {s:aE}:rz s=true↔gz s:=by simp[rz]
theorem im {s:aE} (h:¬gz s):false=rz s:=by simp[rz,h]
theorem Gm {s:aE} (h:gz s):true=rz s:=by simp[rz,h]
theorem DX {s:aE} {i:Nat} (h:i<s.aq.length):(s.aq.map dp)[i]? =some (dp (qi s i)):=getD_map dp h
theorem C7 {s:aE} {i:Nat} (h:i<s.bM.length):(s.bM.map dU)[i]? =some (dU (qx s i)):=getD_map dU h
theorem gz.form {s:aE} (h:gz s):kj s:=by
 have key:∀t∈s.aq,∃i,i<s.aq.length/\t=qi s i:=fun t ht=>by
  obtain⟨i,hi,rfl⟩:=List.getElem_of_mem ht;exact⟨i,hi,by simp[qi,List.getD_eq_getElem?_getD,hi]⟩
 refine⟨fun t ht=>?_,fun t ht g hg=>?_⟩
 ·obtain⟨i,hi,rfl⟩:=key t ht;exact(h.tok i hi).2.1
 ·obtain⟨i,hi,rfl⟩:=key t ht;exact dV ((h.tok i hi).2.2.2 g hg)
def eJ (l:List ByteArray):List (List AV):=l.map fun n=>[.str n,.bool true]
abbrev mS:MK:=⟨false,[.tS]⟩
theorem Cn (n:ByteArray):∀(l:List ByteArray) (i:Nat),∃r,ig mS [.str n] (eJ l) i=some r/\((r=none/\n∉l)∨∃j,r=some (i+j)/\n∈l/\(eJ l)[j]? =some [.str n,.bool true])
 |[],i=>⟨none,rfl,.inl ⟨rfl,by simp⟩⟩
 |m::l,i=>by
  obtain⟨r,h1,h2⟩:=Cn n l (i+1)
  by_cases h:n=m
  ·subst h;exact⟨some i,by simp[eJ,ig,eF,e8,MK.ks],.inr ⟨0,rfl,by simp,rfl⟩⟩
  ·refine⟨r,?_,?_⟩
   ·unfold eJ at h1 ⊢;simp only[List.map_cons,ig,MK.ks,List.length_cons,List.length_nil,Nat.zero_add,List.take_succ_cons,List.take_zero,eF,e8,h,decide_false,Bool.and_true];exact h1
   ·rcases h2 with⟨rfl,h2⟩|⟨j,rfl,h2,h3⟩
    ·exact .inl ⟨rfl,by simp[h,h2]⟩
    ·exact .inr ⟨j+1,by congr 1;omega,by simp[h2],by simpa[eJ]using h3⟩
theorem Ak (n:ByteArray) (l:List ByteArray):(n∉l/\gZ mS (.str n) (eJ l)=some none)∨∃j,n∈l/\gZ mS (.str n) (eJ l)=some (some j)/\(eJ l)[j]? =some [.str n,.bool true]:=by
 obtain⟨r,h1,h2⟩:=Cn n l 0
 have e:gZ mS (.str n) (eJ l)=some r:=by
  unfold gZ;rw[if_pos ⟨rfl,rfl,rfl⟩];exact h1
 rcases h2 with⟨rfl,h2⟩|⟨j,rfl,h2,h3⟩
 ·exact .inl ⟨h2,e⟩
 ·exact .inr ⟨j,h2,by rw[e,Nat.zero_add],h3⟩
theorem VF (s:aE) (g:Int):au Tryz.prog 101 [.int .i64 g,.dZ (ai s)] (.bool (!jj g 0 s.bM.length)):=by
 refine au.body fx rfl fun hl n0=>?_;clear hl;have h:=lU g 0 s.bM.length;(repeat(first|((repeat(revert N;apply g7));refine wk @ai.eq_1 ?_;repeat(apply g6;intro N hN))|((try apply i3);refine⟨_,au.x (h) (sd @ai.eq_1),?_⟩;apply hN;clear hN N)));exact cZ (b:= !jj g 0 s.bM.length) (.inl rfl) (sd @g8) rfl
theorem I0:WR bf (fun c=>.int .i64 c) 1 false:=⟨fun _=>rfl,fun _=>rfl,fun x g=>by rw[ah,aL,aj];rfl⟩
theorem RU (s:aE) (l:List Int) (hl:l.length<=1048576):au Tryz.prog 86 [.sl (l.map bf),.fn 101 [.dZ (ai s)]] (.bool (l.any fun g=> !jj g 0 s.bM.length)):=
 kM I0 (show AJ Tryz.prog 86=some (zk 86 130) by kernel_rfl)
  (show AJ Tryz.prog 130=some (pw 130 1 false) by kernel_rfl) l hl _ _ _ rfl (fun g=>by rw[ah,aJ,aj];rfl) (fun x _=>VF s x) fun g=>by rw[ah,aJ,aj];rfl
theorem zN {α:Type} (f:Nat->α) (n k:Nat) (x:α):x∉(List.range k).map f↔∀j,j<k->f j≠x:=by
 constructor
 ·intro h j hj he;exact h (List.mem_map.2 ⟨j,List.mem_range.2 hj,he⟩)
 ·intro h hm;obtain⟨j,hj,he⟩:=List.mem_map.1 hm;exact h j (List.mem_range.1 hj) he
theorem G5 (s:aE) (hn:jC s) (hg:s.bM.length<=1048576) (ht:s.aq.length<=1048576) (hs:∀t∈s.aq,t.de.length<=1048576):au Tryz.prog 52 [.agg (ai s)] (.bool (rz s)):=by
 refine au.body fx rfl fun hl n0=>?_;clear hl;have QS:∀i,i<s.bM.length->(qx s i).bL.size<=9223372036854775807:=fun i hi=>hn.1 _ (by simp[qx,List.getD_eq_getElem?_getD,hi]);have KQ:∀i,i<s.aq.length->(qi s i).bL.size<=9223372036854775807:=fun i hi=>hn.2 _ (by simp[qi,List.getD_eq_getElem?_getD,hi]);have Em:∀i,i<s.aq.length->(qi s i).de.length<=1048576:=fun i hi=>hs _ (by simp[qi,List.getD_eq_getElem?_getD,hi]);have hw:=lU (s.aq.length:Int) 1 160
 by_cases h1:(200:Int)<(s.bM.length:Int)
 ·(try((repeat(revert N;apply g7));refine wk (tw @ai.eq_1 @h1) ?_;repeat(apply g6;intro N hN)));exact cZ (b:=false) (.inl rfl) (sd @g8) (im fun h=>by have:=h.uN;omega)
 by_cases h2:jj (s.aq.length:Int) 1 160=true
 ·have Ee:=dV h2;rw[h2]at hw;(repeat(first|((repeat(revert N;apply g7));refine wk (tw @ai.eq_1 @h1) ?_;repeat(apply g6;intro N hN))|((try apply i3);refine⟨_,au.x (hw) (sd (tw @ai.eq_1 @h1)),?_⟩;apply hN;clear hN N)));refine cj (fun n env st=>∃k:Nat,n=(s.bM.length)-k/\k<=(s.bM.length)/\env 24=.int .i64 (k:Int)/\st.get ⟨52000000,n0⟩=some ⟨true,2,[ai s]⟩/\st.get ⟨52003000,n0+1+1⟩=some ⟨true,mS.j6,eJ ((List.range k).map fun i=>(qx s i).bL)⟩/\(∀j:Nat,j<k->GZ s j)) (s.bM.length) ⟨0,ae,ae,by(try simp only[go_sem,↓reduceIte,Nat.reduceEqDiff,Nat.reduceAdd,Nat.reduceSub,Nat.reduceLeDiff,reduceCtorEq,ai,List.range_zero,List.map_nil,eJ]);try rfl,by(try simp only[go_sem,↓reduceIte,Nat.reduceEqDiff,Nat.reduceAdd,Nat.reduceSub,Nat.reduceLeDiff,reduceCtorEq,ai,List.range_zero,List.map_nil,eJ]);try rfl,by(try simp only[go_sem,↓reduceIte,Nat.reduceEqDiff,Nat.reduceAdd,Nat.reduceSub,Nat.reduceLeDiff,reduceCtorEq,ai,List.range_zero,List.map_nil,eJ]);try rfl,fun _ h=>absurd h (Nat.not_lt_zero _)⟩ ?_;rintro n_a m3 i8 ⟨k,rfl,ale,a24,eK,jx,qw⟩ eC;have a1:=eC 1 g9;have a3:=eC 3 g9;have a22:=eC 22 g9;have a23:=eC 23 g9;simp only[go_sem,↓reduceIte,Nat.reduceEqDiff,Nat.reduceAdd,Nat.reduceSub,Nat.reduceLeDiff,reduceCtorEq,ai,List.range_zero,List.map_nil,eJ]at a1 a3 a22 a23;clear eC
  by_cases hk:(k:Int)<(s.bM.length:Int)
  ·have dW:∀{e:Env} {gg:Rows},(e 24=.int .i64 (IntKind.i64.wrap ((k:Int)+1)))->(gg ⟨52000000,n0⟩=some ⟨true,2,[ai s]⟩)->(gg ⟨52003000,n0+1+1⟩=some ⟨true,mS.j6,eJ ((List.range (k+1)).map fun i=>(qx s i).bL)⟩)->(GZ s k)->∃m0,m0<(s.bM.length)-k/\∃k:Nat,m0=(s.bM.length)-k/\k<=(s.bM.length)/\e 24=.int .i64 (k:Int)/\gg ⟨52000000,n0⟩=some ⟨true,2,[ai s]⟩/\gg ⟨52003000,n0+1+1⟩=some ⟨true,mS.j6,eJ ((List.range k).map fun i=>(qx s i).bL)⟩/\(∀j:Nat,j<k->GZ s j):=fun x1 x2 x3 x4=>⟨_,ae,k+1,rfl,ae,(by rw[x1,aZ ae]),x2,x3,(all_succ qw x4)⟩;have iD:k<s.bM.length:=ae;have gm:=C7 iD;have qW:=Jp (qx s k).bL (QS k iD);have P6:=lU (qx s k).gV 1 4;have Fw:=Ak (qx s k).bL ((List.range k).map fun i=>(qx s i).bL);rw[zN _ k]at Fw;have mT:(¬GZ s k)->¬gz s:=fun h hp=>h (hp.ZZ k iD);generalize rX:qx s k=gl at *
   cases hb:je gl.bL
   ·rw[hb]at qW
    (have zF:=tw9 @a24 @eK @jx @a1 @a3 @a22 @a23 @hk (tw3 @gm @dU.eq_1 @ai.eq_1);(repeat(first|((repeat(revert N;apply g7));refine wk zF ?_;repeat(apply g6;intro N hN))|((try apply i3);refine⟨_,au.x (qW) (sd zF),?_⟩;apply hN;clear hN N)));try clear zF)
    exact cZ (b:=false) (.inl rfl) (sd @g8) (im (mT fun h=>by rw[GZ,rX,hb]at h;cases h.1))
   ·rw[hb]at qW
    rcases Fw with⟨HJ,mA⟩|⟨j,jI,mA,eP⟩
    ·cases ez:jj gl.gV 1 4
     ·rw[ez]at P6
      (have zF:=tw9 @a24 @eK @jx @a1 @a3 @a22 @a23 @hk (tw4 @gm @mA @dU.eq_1 @ai.eq_1);(repeat(first|((repeat(revert N;apply g7));refine wk zF ?_;repeat(apply g6;intro N hN))|((try apply i3);refine⟨_,au.x (qW) (sd zF),?_⟩;apply hN;clear hN N)|((try apply i3);refine⟨_,au.x (P6) (sd zF),?_⟩;apply hN;clear hN N)));try clear zF)
      exact cZ (b:=false) (.inl rfl) (sd @g8) (im (mT fun h=>by rw[GZ,rX,ez]at h;cases h.2.1))
     ·rw[ez]at P6;have lL:eJ ((List.range k).map fun i=>(qx s i).bL)++[[.str gl.bL,.bool true]]=eJ (List.map (fun i=>(qx s i).bL) (List.range k++[k])):=by simp[eJ,rX]
      (have zF:=tw9 @a24 @eK @jx @a1 @a3 @a22 @a23 @hk (tw4 @gm @mA @dU.eq_1 @ai.eq_1);(repeat(first|((repeat(revert N;apply g7));refine wk zF ?_;repeat(apply g6;intro N hN))|((try apply i3);refine⟨_,au.x (qW) (sd zF),?_⟩;apply hN;clear hN N)|((try apply i3);refine⟨_,au.x (P6) (sd zF),?_⟩;apply hN;clear hN N)));try clear zF)
      refine dW ?_ ?_ ?_ (⟨by rw[rX];exact hb,by rw[rX];exact ez,fun j hj=>by rw[rX];exact HJ j hj⟩)
      all_goals simp only[go_sem,↓reduceIte,Nat.reduceEqDiff,Nat.reduceAdd,Nat.reduceSub,Nat.reduceLeDiff,reduceCtorEq,a24,eK,jx,a1,a3,a22,a23,mA,lL]
    ·(have zF:=tw9 @a24 @eK @jx @a1 @a3 @a22 @a23 @hk (tw5 @gm @mA @eP @dU.eq_1 @ai.eq_1);(repeat(first|((repeat(revert N;apply g7));refine wk zF ?_;repeat(apply g6;intro N hN))|((try apply i3);refine⟨_,au.x (qW) (sd zF),?_⟩;apply hN;clear hN N)));try clear zF)
     exact cZ (b:=false) (.inl rfl) (sd @g8) (im (mT fun h=>by
      rw[GZ,rX]at h;obtain⟨i,hi,he⟩:=List.mem_map.1 jI
      exact h.2.2 i (List.mem_range.1 hi) he))
  ·have l8:k=s.bM.length:=ae;(try((repeat(revert N;apply g7));refine wk (tw9 @a24 @eK @jx @a1 @a3 @a22 @a23 @hk @ai.eq_1) ?_;repeat(apply g6;intro N hN)));refine cj (fun n env st=>∃j:Nat,n=(s.aq.length)-j/\j<=(s.aq.length)/\env 52=.int .i64 (j:Int)/\st.get ⟨52000000,n0⟩=some ⟨true,2,[ai s]⟩/\st.get ⟨52011000,i8.next+1⟩=some ⟨true,mS.j6,eJ ((List.range j).map fun i=>(qi s i).bL)⟩/\(∀i:Nat,i<j->EA s i)/\(i8.next<st.next)) (s.aq.length) ⟨0,ae,ae,by(try simp only[go_sem,↓reduceIte,Nat.reduceEqDiff,Nat.reduceAdd,Nat.reduceSub,Nat.reduceLeDiff,reduceCtorEq,a24,eK,jx,a1,a3,a22,a23,ai,List.range_zero,List.map_nil,eJ]);try rfl,by(try simp only[go_sem,↓reduceIte,Nat.reduceEqDiff,Nat.reduceAdd,Nat.reduceSub,Nat.reduceLeDiff,reduceCtorEq,a24,eK,jx,a1,a3,a22,a23,ai,List.range_zero,List.map_nil,eJ]);try rfl,by(try simp only[go_sem,↓reduceIte,Nat.reduceEqDiff,Nat.reduceAdd,Nat.reduceSub,Nat.reduceLeDiff,reduceCtorEq,a24,eK,jx,a1,a3,a22,a23,ai,List.range_zero,List.map_nil,eJ]);try rfl,fun _ h=>absurd h (Nat.not_lt_zero _),aI⟩ ?_;rintro n_b m4 i9 ⟨j,rfl,ble,b52,bg0,bg1,bA0,bI0⟩ eB;have b1:=eB 1 g9;have b6:=eB 6 g9;have G8:=eB 50 g9;have G9:=eB 51 g9;simp only[go_sem,↓reduceIte,Nat.reduceEqDiff,Nat.reduceAdd,Nat.reduceSub,Nat.reduceLeDiff,reduceCtorEq,a24,eK,jx,a1,a3,a22,a23,ai,List.range_zero,List.map_nil,eJ]at b1 b6 G8 G9;clear eB
   by_cases hj:(j:Int)<(s.aq.length:Int)
   ·have ep:∀{e:Env} {gg:Rows} {nx:Nat},(e 52=.int .i64 (IntKind.i64.wrap ((j:Int)+1)))->(gg ⟨52000000,n0⟩=some ⟨true,2,[ai s]⟩)->(gg ⟨52011000,i8.next+1⟩=some ⟨true,mS.j6,eJ ((List.range (j+1)).map fun i=>(qi s i).bL)⟩)->(EA s j)->(i8.next<nx)->∃m0,m0<(s.aq.length)-j/\∃j:Nat,m0=(s.aq.length)-j/\j<=(s.aq.length)/\e 52=.int .i64 (j:Int)/\gg ⟨52000000,n0⟩=some ⟨true,2,[ai s]⟩/\gg ⟨52011000,i8.next+1⟩=some ⟨true,mS.j6,eJ ((List.range j).map fun i=>(qi s i).bL)⟩/\(∀i:Nat,i<j->EA s i)/\(i8.next<nx):=fun x1 x2 x3 x4 x5=>⟨_,ae,j+1,rfl,ae,(by rw[x1,aZ ae]),x2,x3,(all_succ bA0 x4),x5⟩;have oy:j<s.aq.length:=ae;have lh:=DX oy;have qW:=Jp (qi s j).bL (KQ j oy);have Va:=RU s (qi s j).de (Em j oy);have Fw:=Ak (qi s j).bL ((List.range j).map fun i=>(qi s i).bL);rw[zN _ j]at Fw;have mT:(¬EA s j)->¬gz s:=fun h hp=>h (hp.tok j oy);have ju:(⟨52011000,i8.next+1⟩:Id)≠⟨52000000,n0⟩:=by simp
    generalize htd:qi s j=tl at *
    cases hb:je tl.bL
    ·rw[hb]at qW
     (have zF:=tw9 @b52 @bg0 @bg1 @b1 @b6 @G8 @G9 @hj (tw3 @lh @dp.eq_1 @ai.eq_1);(repeat(first|((repeat(revert N;apply g7));refine wk zF ?_;repeat(apply g6;intro N hN))|((try apply i3);refine⟨_,au.x (qW) (sd zF),?_⟩;apply hN;clear hN N)));try clear zF)
     exact cZ (b:=false) (.inl rfl) (sd @g8) (im (mT fun h=>by rw[EA,htd,hb]at h;cases h.1))
    ·rw[hb]at qW
     rcases Fw with⟨HJ,mA⟩|⟨i,jI,mA,eP⟩
     ·by_cases h4:(tl.de.length:Int)=4
      ·have C9:decide ((tl.de.length:Int)=4)=true:=decide_eq_true h4
       cases hany:tl.de.any fun g=> !jj g 0 s.bM.length
       ·rw[hany]at Va;have lL:eJ ((List.range j).map fun i=>(qi s i).bL)++[[.str tl.bL,.bool true]]=eJ (List.map (fun i=>(qi s i).bL) (List.range j++[j])):=by simp[eJ,htd]
        (have zF:=tw9 @b52 @bg0 @bg1 @b1 @b6 @G8 @G9 @hj (tw5 @lh @mA @C9 @dp.eq_1 @ai.eq_1);(repeat(first|((repeat(revert N;apply g7));refine wk zF ?_;repeat(apply g6;intro N hN))|((try apply i3);refine⟨_,au.x (qW) (sd zF),?_⟩;apply hN;clear hN N)|((try apply i3);refine⟨_,au.x (Va) (sd zF),?_⟩;apply hN;clear hN N)));try clear zF)
        refine ep ?_ ?_ ?_ (⟨by rw[htd];exact hb,by rw[htd];omega,fun i hi=>(by rw[htd];exact HJ i hi),fun g hg=>by rw[htd]at hg;have:=List.any_eq_false.1 hany g hg;simpa using this⟩) aI
        all_goals simp only[go_sem,↓reduceIte,Nat.reduceEqDiff,Nat.reduceAdd,Nat.reduceSub,Nat.reduceLeDiff,reduceCtorEq,b52,bg0,bg1,b1,b6,G8,G9,mA,lL]
       ·rw[hany]at Va
        (have zF:=tw9 @b52 @bg0 @bg1 @b1 @b6 @G8 @G9 @hj (tw5 @lh @mA @C9 @dp.eq_1 @ai.eq_1);(repeat(first|((repeat(revert N;apply g7));refine wk zF ?_;repeat(apply g6;intro N hN))|((try apply i3);refine⟨_,au.x (qW) (sd zF),?_⟩;apply hN;clear hN N)|((try apply i3);refine⟨_,au.x (Va) (sd zF),?_⟩;apply hN;clear hN N)));try clear zF)
        exact cZ (b:=false) (.inl rfl) (sd @g8) (im (mT fun h=>by
         rw[EA,htd]at h;obtain⟨g,hg,hq⟩:=List.any_eq_true.1 hany;have:=h.2.2.2 g hg
         rw[this]at hq;cases hq))
      ·have C9:decide ((tl.de.length:Int)=4)=false:=decide_eq_false h4
       (have zF:=tw9 @b52 @bg0 @bg1 @b1 @b6 @G8 @G9 @hj (tw5 @lh @mA @C9 @dp.eq_1 @ai.eq_1);(repeat(first|((repeat(revert N;apply g7));refine wk zF ?_;repeat(apply g6;intro N hN))|((try apply i3);refine⟨_,au.x (qW) (sd zF),?_⟩;apply hN;clear hN N)));try clear zF)
       exact cZ (b:=false) (.inl rfl) (sd @g8) (im (mT fun h=>by rw[EA,htd]at h;have:=h.2.1;omega))
     ·(have zF:=tw9 @b52 @bg0 @bg1 @b1 @b6 @G8 @G9 @hj (tw5 @lh @mA @eP @dp.eq_1 @ai.eq_1);(repeat(first|((repeat(revert N;apply g7));refine wk zF ?_;repeat(apply g6;intro N hN))|((try apply i3);refine⟨_,au.x (qW) (sd zF),?_⟩;apply hN;clear hN N)));try clear zF)
      exact cZ (b:=false) (.inl rfl) (sd @g8) (im (mT fun h=>by
       rw[EA,htd]at h;obtain⟨i,hi,he⟩:=List.mem_map.1 jI
       exact h.2.2.1 i (List.mem_range.1 hi) he))
   ·(try((repeat(revert N;apply g7));refine wk (tw9 @b52 @bg0 @bg1 @b1 @b6 @G8 @G9 @hj @ai.eq_1) ?_;repeat(apply g6;intro N hN)));exact cZ (b:=true) (.inl rfl) (sd @g8) (Gm ⟨ae,ae,ae,fun i hi=>qw i ae,fun i hi=>bA0 i ae⟩)
 ·rw[Bool.not_eq_true]at h2;rw[h2]at hw;(repeat(first|((repeat(revert N;apply g7));refine wk (tw @ai.eq_1 @h1) ?_;repeat(apply g6;intro N hN))|((try apply i3);refine⟨_,au.x (hw) (sd (tw @ai.eq_1 @h1)),?_⟩;apply hN;clear hN N)))
  exact cZ (b:=false) (.inl rfl) (sd @g8) (im fun h=>by
   have h3:=h.some;have h4:=h.qj
   rw[jc ⟨ae,ae⟩]at h2;cases h2)
theorem ym {α:Type} {p:α->Bool} {xs:List α} {k:Nat} (hk:k<xs.length) (h1:p xs[k]=true) (h2:∀j (h:j<xs.length),j<k->p xs[j]=false):iP p xs=k:=by
 have:xs.findIdx p=k:=by rw[List.findIdx_eq hk];exact⟨h1,fun j hj=>h2 j ae hj⟩
 rw[iP,this,if_pos hk]
theorem Bz {α:Type} {p:α->Bool} {xs:List α} (h:∀j (h:j<xs.length),p xs[j]=false):iP p xs= -1:=by
 rw[iP,if_neg];rw[List.findIdx_lt_length];rintro⟨x,hx,GK⟩;obtain⟨j,hj,rfl⟩:=List.getElem_of_mem hx;rw[h j hj]at GK;cases GK
theorem C6 {s:aE} {i:Nat} (h:i<s.bM.length):qx s i=s.bM[i]:=by simp[qx,List.getD_eq_getElem?_getD,h]
theorem DW {s:aE} {i:Nat} (h:i<s.aq.length):qi s i=s.aq[i]:=by simp[qi,List.getD_eq_getElem?_getD,h]
def PR (s:aE) (n:ByteArray):Int:=iP (fun g:gy=>decide (g.bL=n)) s.bM
def Tw (s:aE) (n:ByteArray):Int:=iP (fun t:di=>decide (t.bL=n)) s.aq
theorem K8 (s:aE) (nm:ByteArray):au Tryz.prog 111 [.dZ (ai s),.str nm] (.int .i64 (PR s nm+1)):=by
 refine au.body fx rfl fun hl n0=>?_
 have hlen:s.bM.length<=9223372036854775807:=by
  have h1:=(hl (.dZ (ai s)) (by simp)).FF (a:=.sl (s.bM.map dU)) (by simp[ai])
  simpa using h1.len
 clear hl;(try((repeat(revert N;apply g7));refine wk @ai.eq_1 ?_;repeat(apply g6;intro N hN)));refine cj (fun n env st=>∃k:Nat,n=(s.bM.length)-k/\k<=(s.bM.length)/\env 5=.int .i64 (k:Int)/\(∀j:Nat,j<k->∀h:j<s.bM.length,decide (s.bM[j].bL=nm)=false)) (s.bM.length) ⟨0,ae,ae,sl @ai.eq_1,fun _ h=>absurd h (Nat.not_lt_zero _)⟩ ?_;rintro n_a m3 i8 ⟨k,rfl,ale,a5,qw⟩ eC;have a0:=eC 0 g9;have a1:=eC 1 g9;simp only[go_sem,↓reduceIte,Nat.reduceEqDiff,Nat.reduceAdd,Nat.reduceSub,Nat.reduceLeDiff,reduceCtorEq,ai]at a0 a1;clear eC
 by_cases hk:(k:Int)<(s.bM.length:Int)
 ·have dW:∀{e:Env},(e 5=.int .i64 (IntKind.i64.wrap ((k:Int)+1)))->(∀h:k<s.bM.length,decide (s.bM[k].bL=nm)=false)->∃m0,m0<(s.bM.length)-k/\∃k:Nat,m0=(s.bM.length)-k/\k<=(s.bM.length)/\e 5=.int .i64 (k:Int)/\(∀j:Nat,j<k->∀h:j<s.bM.length,decide (s.bM[j].bL=nm)=false):=fun x1 x2=>⟨_,ae,k+1,rfl,ae,(by rw[x1,aZ ae]),(all_succ qw x2)⟩;have iD:k<s.bM.length:=ae;have gm:=C7 iD;have e:=C6 iD
  cases hd:decide ((qx s k).bL=nm)
  ·have hd':=of_decide_eq_false hd;(try((repeat(revert N;apply g7));refine wk (tw9 @a5 @a0 @a1 @hk @gm @hd' @hd @dU.eq_1 @ai.eq_1) ?_;repeat(apply g6;intro N hN)));exact dW (sd (tw3 @a5 @a0 @a1)) (fun _=>by rw[e]at hd;exact hd)
  ·have hd':=of_decide_eq_true hd;have hw:IntKind.i64.wrap ((k:Int)+1)=(k:Int)+1:=db ae;(try((repeat(revert N;apply g7));refine wk (tw9 @a5 @a0 @a1 @hk @gm @hd @hw @dU.eq_1 @ai.eq_1) ?_;repeat(apply g6;intro N hN)));exact ed (b:=(k:Int)+1) (.inl rfl) (sd @g8) (by rw[PR,ym iD (by rw[e]at hd;exact hd) fun j h hj=>qw j hj h])
 ·(try((repeat(revert N;apply g7));refine wk (tw5 @a5 @a0 @a1 @hk @ai.eq_1) ?_;repeat(apply g6;intro N hN)));exact ed (b:=0) (.inl rfl) (sd @g8) (by rw[PR,Bz fun j h=>qw j ae h];rfl)
theorem K9 (s:aE) (nm:ByteArray):au Tryz.prog 112 [.dZ (ai s),.str nm] (.int .i64 (Tw s nm)):=by
 refine au.body fx rfl fun hl n0=>?_
 have hlen:s.aq.length<=9223372036854775807:=by
  have h1:=(hl (.dZ (ai s)) (by simp)).FF (a:=.sl (s.aq.map dp)) (by simp[ai])
  simpa using h1.len
 clear hl;(try((repeat(revert N;apply g7));refine wk @ai.eq_1 ?_;repeat(apply g6;intro N hN)));refine cj (fun n env st=>∃k:Nat,n=(s.aq.length)-k/\k<=(s.aq.length)/\env 5=.int .i64 (k:Int)/\(∀j:Nat,j<k->∀h:j<s.aq.length,decide (s.aq[j].bL=nm)=false)) (s.aq.length) ⟨0,ae,ae,sl @ai.eq_1,fun _ h=>absurd h (Nat.not_lt_zero _)⟩ ?_;rintro n_a m3 i8 ⟨k,rfl,ale,a5,qw⟩ eC;have a0:=eC 0 g9;have a1:=eC 1 g9;simp only[go_sem,↓reduceIte,Nat.reduceEqDiff,Nat.reduceAdd,Nat.reduceSub,Nat.reduceLeDiff,reduceCtorEq,ai]at a0 a1;clear eC
 by_cases hk:(k:Int)<(s.aq.length:Int)
 ·have dW:∀{e:Env},(e 5=.int .i64 (IntKind.i64.wrap ((k:Int)+1)))->(∀h:k<s.aq.length,decide (s.aq[k].bL=nm)=false)->∃m0,m0<(s.aq.length)-k/\∃k:Nat,m0=(s.aq.length)-k/\k<=(s.aq.length)/\e 5=.int .i64 (k:Int)/\(∀j:Nat,j<k->∀h:j<s.aq.length,decide (s.aq[j].bL=nm)=false):=fun x1 x2=>⟨_,ae,k+1,rfl,ae,(by rw[x1,aZ ae]),(all_succ qw x2)⟩;have iD:k<s.aq.length:=ae;have gm:=DX iD;have e:=DW iD
  cases hd:decide ((qi s k).bL=nm)
  ·(try((repeat(revert N;apply g7));refine wk (tw8 @a5 @a0 @a1 @hk @gm @hd @dp.eq_1 @ai.eq_1) ?_;repeat(apply g6;intro N hN)));exact dW (sd (tw3 @a5 @a0 @a1)) (fun _=>by rw[e]at hd;exact hd)
  ·(try((repeat(revert N;apply g7));refine wk (tw8 @a5 @a0 @a1 @hk @gm @hd @dp.eq_1 @ai.eq_1) ?_;repeat(apply g6;intro N hN)));exact ed (b:=(k:Int)) (.inl rfl) (sd @g8) (by rw[Tw,ym iD (by rw[e]at hd;exact hd) fun j h hj=>qw j hj h])
 ·(try((repeat(revert N;apply g7));refine wk (tw5 @a5 @a0 @a1 @hk @ai.eq_1) ?_;repeat(apply g6;intro N hN)));exact ed (b:=-1) (.inl rfl) (sd @g8) (by rw[Tw,Bz fun j h=>qw j ae h])
theorem Uo {s:aE} {i:Nat} (h:i<s.bM.length):PR s (qx s i).bL=i↔∀j,j<i->(qx s j).bL≠(qx s i).bL:=by
 constructor
 ·intro he j hj hc;have iL:j<s.bM.length:=ae
  have:s.bM.findIdx (fun g:gy=>decide (g.bL=(qx s i).bL))<=j:=by
   rcases Nat.lt_or_ge j (s.bM.findIdx fun g:gy=>decide (g.bL=(qx s i).bL))with eG|jV
   ·have:=List.not_of_lt_findIdx eG;rw[<-C6 iL]at this;simp[hc]at this
   ·exact jV
  unfold PR iP at he
  split at he<;>omega
 ·intro hd;exact ym h (by rw[<-C6 h];simp) fun j iL hj=>by rw[<-C6 iL];simpa using hd j hj
theorem VL {s:aE} {i:Nat} (h:i<s.aq.length):Tw s (qi s i).bL=i↔∀j,j<i->(qi s j).bL≠(qi s i).bL:=by
 constructor
 ·intro he j hj hc;have iL:j<s.aq.length:=ae
  have:s.aq.findIdx (fun g:di=>decide (g.bL=(qi s i).bL))<=j:=by
   rcases Nat.lt_or_ge j (s.aq.findIdx fun g:di=>decide (g.bL=(qi s i).bL))with eG|jV
   ·have:=List.not_of_lt_findIdx eG;rw[<-DW iL]at this;simp[hc]at this
   ·exact jV
  unfold Tw iP at he
  split at he<;>omega
 ·intro hd;exact ym h (by rw[<-DW h];simp) fun j iL hj=>by rw[<-DW iL];simpa using hd j hj
theorem Js (s:aE) (hn:jC s) (hg:s.bM.length<=1048576) (ht:s.aq.length<=1048576):au Tryz.prog 62 [.dZ (ai s)] (.bool (rz s)):=by
 refine au.body fx rfl fun hl n0=>?_;clear hl;have QS:∀i,i<s.bM.length->(qx s i).bL.size<=9223372036854775807:=fun i hi=>hn.1 _ (by simp[qx,List.getD_eq_getElem?_getD,hi]);have KQ:∀i,i<s.aq.length->(qi s i).bL.size<=9223372036854775807:=fun i hi=>hn.2 _ (by simp[qi,List.getD_eq_getElem?_getD,hi])
 by_cases h1:(200:Int)<(s.bM.length:Int)
 ·(try((repeat(revert N;apply g7));refine wk (tw @ai.eq_1 @h1) ?_;repeat(apply g6;intro N hN)));exact cZ (b:=false) (.inl rfl) (sd @g8) (im fun h=>by have:=h.uN;omega)
 by_cases h2:(s.aq.length:Int)<1
 ·(try((repeat(revert N;apply g7));refine wk (tw3 @ai.eq_1 @h1 @h2) ?_;repeat(apply g6;intro N hN)));exact cZ (b:=false) (.inl rfl) (sd @g8) (im fun h=>by have:=h.some;omega)
 by_cases h3:(160:Int)<(s.aq.length:Int)
 ·(try((repeat(revert N;apply g7));refine wk (tw4 @ai.eq_1 @h1 @h2 @h3) ?_;repeat(apply g6;intro N hN)));exact cZ (b:=false) (.inl rfl) (sd @g8) (im fun h=>by have:=h.qj;omega)
 (try((repeat(revert N;apply g7));refine wk (tw4 @ai.eq_1 @h1 @h2 @h3) ?_;repeat(apply g6;intro N hN)));refine cj (fun n env st=>∃k:Nat,n=(s.bM.length)-k/\k<=(s.bM.length)/\env 3=.int .i64 (k:Int)/\(∀j:Nat,j<k->GZ s j)) (s.bM.length) ⟨0,ae,ae,sl @ai.eq_1,fun _ h=>absurd h (Nat.not_lt_zero _)⟩ ?_;rintro n_a m3 i8 ⟨k,rfl,ale,a3,qw⟩ eC;have a0:=eC 0 g9;simp only[go_sem,↓reduceIte,Nat.reduceEqDiff,Nat.reduceAdd,Nat.reduceSub,Nat.reduceLeDiff,reduceCtorEq,ai]at a0;clear eC
 by_cases hk:(k:Int)<(s.bM.length:Int)
 ·have dW:∀{e:Env},(e 3=.int .i64 (IntKind.i64.wrap ((k:Int)+1)))->(GZ s k)->∃m0,m0<(s.bM.length)-k/\∃k:Nat,m0=(s.bM.length)-k/\k<=(s.bM.length)/\e 3=.int .i64 (k:Int)/\(∀j:Nat,j<k->GZ s j):=fun x1 x2=>⟨_,ae,k+1,rfl,ae,(by rw[x1,aZ ae]),(all_succ qw x2)⟩;have iD:k<s.bM.length:=ae;have gm:=C7 iD;have qW:=JG (qx s k).bL (QS k iD);have P6:=mB (qx s k).gV 1 4;have BM:=K8 s (qx s k).bL;have uR:=Uo iD;have mT:(¬GZ s k)->¬gz s:=fun h hp=>h (hp.ZZ k iD);have hw:IntKind.i64.wrap ((k:Int)+1)=(k:Int)+1:=db ae;generalize rX:qx s k=gl at *
  cases hb:je gl.bL
  ·rw[hb]at qW
   (have zF:=tw6 @a3 @a0 @hk @gm @dU.eq_1 @ai.eq_1;(repeat(first|((repeat(revert N;apply g7));refine wk zF ?_;repeat(apply g6;intro N hN))|((try apply i3);refine⟨_,au.x (qW) (sd zF),?_⟩;apply hN;clear hN N)));try clear zF)
   exact cZ (b:=false) (.inl rfl) (sd @g8) (im (mT fun h=>by rw[GZ,rX,hb]at h;cases h.1))
  rw[hb]at qW
  cases ez:jj gl.gV 1 4
  ·rw[ez]at P6
   (have zF:=tw6 @a3 @a0 @hk @gm @dU.eq_1 @ai.eq_1;(repeat(first|((repeat(revert N;apply g7));refine wk zF ?_;repeat(apply g6;intro N hN))|((try apply i3);refine⟨_,au.x (qW) (sd zF),?_⟩;apply hN;clear hN N)|((try apply i3);refine⟨_,au.x (P6) (sd zF),?_⟩;apply hN;clear hN N)));try clear zF)
   exact cZ (b:=false) (.inl rfl) (sd @g8) (im (mT fun h=>by rw[GZ,rX,ez]at h;cases h.2.1))
  rw[ez]at P6;rw[ai]at BM
  by_cases hq:PR s gl.bL=(k:Int)
  ·have hd:decide (PR s gl.bL+1=(k:Int)+1)=true:=decide_eq_true ae;have rW:decide (PR s gl.bL=(k:Int))=true:=decide_eq_true hq
   (have zF:=tw9 @a3 @a0 @hk @gm @hw @hd @rW @dU.eq_1 @ai.eq_1;(repeat(first|((repeat(revert N;apply g7));refine wk zF ?_;repeat(apply g6;intro N hN))|((try apply i3);refine⟨_,au.x (qW) (sd zF),?_⟩;apply hN;clear hN N)|((try apply i3);refine⟨_,au.x (P6) (sd zF),?_⟩;apply hN;clear hN N)|((try apply i3);refine⟨_,au.x (BM) (sd zF),?_⟩;apply hN;clear hN N)));try clear zF)
   exact dW (sd (tw3 @a3 @a0 @hw)) (⟨by rw[rX];exact hb,by rw[rX];exact ez,fun j hj=>by rw[rX];exact uR.1 hq j hj⟩)
  ·have hd:decide (PR s gl.bL+1=(k:Int)+1)=false:=decide_eq_false ae;have rW:decide (PR s gl.bL=(k:Int))=false:=decide_eq_false hq
   (have zF:=tw9 @a3 @a0 @hk @gm @hw @hd @rW @dU.eq_1 @ai.eq_1;(repeat(first|((repeat(revert N;apply g7));refine wk zF ?_;repeat(apply g6;intro N hN))|((try apply i3);refine⟨_,au.x (qW) (sd zF),?_⟩;apply hN;clear hN N)|((try apply i3);refine⟨_,au.x (P6) (sd zF),?_⟩;apply hN;clear hN N)|((try apply i3);refine⟨_,au.x (BM) (sd zF),?_⟩;apply hN;clear hN N)));try clear zF)
   exact cZ (b:=false) (.inl rfl) (sd @g8) (im (mT fun h=>by
    rw[GZ,rX]at h
    exact hq (uR.2 h.2.2)))
 ·have l8:k=s.bM.length:=ae;(try((repeat(revert N;apply g7));refine wk (tw4 @a3 @a0 @hk @ai.eq_1) ?_;repeat(apply g6;intro N hN)));refine cj (fun n env st=>∃j:Nat,n=(s.aq.length)-j/\j<=(s.aq.length)/\env 5=.int .i64 (j:Int)/\(∀i:Nat,i<j->EA s i)) (s.aq.length) ⟨0,ae,ae,sl (tw3 @a3 @a0 @ai.eq_1),fun _ h=>absurd h (Nat.not_lt_zero _)⟩ ?_;rintro n_b m4 i9 ⟨j,rfl,ble,b5,bA0⟩ eB;have b0:=eB 0 g9;simp only[go_sem,↓reduceIte,Nat.reduceEqDiff,Nat.reduceAdd,Nat.reduceSub,Nat.reduceLeDiff,reduceCtorEq,a3,a0,ai]at b0;clear eB
  by_cases hj:(j:Int)<(s.aq.length:Int)
  ·have ep:∀{e:Env},(e 5=.int .i64 (IntKind.i64.wrap ((j:Int)+1)))->(EA s j)->∃m0,m0<(s.aq.length)-j/\∃j:Nat,m0=(s.aq.length)-j/\j<=(s.aq.length)/\e 5=.int .i64 (j:Int)/\(∀i:Nat,i<j->EA s i):=fun x1 x2=>⟨_,ae,j+1,rfl,ae,(by rw[x1,aZ ae]),(all_succ bA0 x2)⟩;have oy:j<s.aq.length:=ae;have lh:=DX oy;have qW:=JG (qi s j).bL (KQ j oy);have BM:=K9 s (qi s j).bL;have uR:=VL oy;have mT:(¬EA s j)->¬gz s:=fun h hp=>h (hp.tok j oy);generalize htd:qi s j=tl at *
   cases hb:je tl.bL
   ·rw[hb]at qW
    (have zF:=tw6 @b5 @b0 @hj @lh @dp.eq_1 @ai.eq_1;(repeat(first|((repeat(revert N;apply g7));refine wk zF ?_;repeat(apply g6;intro N hN))|((try apply i3);refine⟨_,au.x (qW) (sd zF),?_⟩;apply hN;clear hN N)));try clear zF)
    exact cZ (b:=false) (.inl rfl) (sd @g8) (im (mT fun h=>by rw[EA,htd,hb]at h;cases h.1))
   rw[hb]at qW
   by_cases h4:(tl.de.length:Int)=4
   ·have C9:decide ((tl.de.length:Int)=4)=true:=decide_eq_true h4;rw[ai]at BM
    by_cases hq:Tw s tl.bL=(j:Int)
    ·have hd:decide (Tw s tl.bL=(j:Int))=true:=decide_eq_true hq
     (have zF:=tw8 @b5 @b0 @hj @lh @C9 @hd @dp.eq_1 @ai.eq_1;(repeat(first|((repeat(revert N;apply g7));refine wk zF ?_;repeat(apply g6;intro N hN))|((try apply i3);refine⟨_,au.x (qW) (sd zF),?_⟩;apply hN;clear hN N)|((try apply i3);refine⟨_,au.x (BM) (sd zF),?_⟩;apply hN;clear hN N)));try clear zF)
     refine cj (fun n env st=>∃i:Nat,n=(4)-i/\i<=(4)/\env 7=.int .i64 (i:Int)/\st.get ⟨62012007,i9.next+1⟩=some ⟨true,2,[dp tl]⟩/\(∀x:Nat,x<i->jj (tl.de.getD x 0) 0 s.bM.length=true)) (4) ⟨0,ae,ae,sl (tw4 @b5 @b0 @dp.eq_1 @ai.eq_1),sl (tw4 @b5 @b0 @dp.eq_1 @ai.eq_1),fun _ h=>absurd h (Nat.not_lt_zero _)⟩ ?_;rintro n_c m7 m6 ⟨i,rfl,cle,c7,cg0,cA0⟩ jN;have c0:=jN 0 g9;have c5:=jN 5 g9;have c6:=jN 6 g9;simp only[go_sem,↓reduceIte,Nat.reduceEqDiff,Nat.reduceAdd,Nat.reduceSub,Nat.reduceLeDiff,reduceCtorEq,b5,b0,dp,ai]at c0 c5 c6;clear jN
     by_cases hi:(i:Int)<4
     ·have jf:∀{e:Env} {gg:Rows},(e 7=.int .i64 (IntKind.i64.wrap ((i:Int)+1)))->(gg ⟨62012007,i9.next+1⟩=some ⟨true,2,[dp tl]⟩)->(jj (tl.de.getD i 0) 0 s.bM.length=true)->∃m0,m0<(4)-i/\∃i:Nat,m0=(4)-i/\i<=(4)/\e 7=.int .i64 (i:Int)/\gg ⟨62012007,i9.next+1⟩=some ⟨true,2,[dp tl]⟩/\(∀x:Nat,x<i->jj (tl.de.getD x 0) 0 s.bM.length=true):=fun x1 x2 x3=>⟨_,ae,i+1,rfl,ae,(by rw[x1,aZ ae]),x2,(all_succ cA0 x3)⟩;have jI:i<tl.de.length:=ae;have ll:(tl.de.map bf)[i]? =some (bf (tl.de.getD i 0)):=getD_map bf jI;have sP:tl.de.getD i 0∈tl.de:=by rw[List.getD_eq_getElem?_getD,i5 jI];exact List.getElem_mem jI
      have KM:=mB (tl.de.getD i 0) 0 s.bM.length;generalize hgv:tl.de.getD i 0=gv at *
      cases hv:jj gv 0 s.bM.length
      ·rw[hv]at KM
       (have zF:=tw9 @c7 @cg0 @c0 @c5 @c6 @hi @ll @bf.eq_1 (tw @dp.eq_1 @ai.eq_1);(repeat(first|((repeat(revert N;apply g7));refine wk zF ?_;repeat(apply g6;intro N hN))|((try apply i3);refine⟨_,au.x (KM) (sd zF),?_⟩;apply hN;clear hN N)));try clear zF)
       exact cZ (b:=false) (.inl rfl) (sd @g8) (im (mT fun h=>by
        rw[EA,htd]at h;have:=h.2.2.2 gv sP
        rw[hv]at this;cases this))
      ·rw[hv]at KM
       (have zF:=tw9 @c7 @cg0 @c0 @c5 @c6 @hi @ll @bf.eq_1 (tw @dp.eq_1 @ai.eq_1);(repeat(first|((repeat(revert N;apply g7));refine wk zF ?_;repeat(apply g6;intro N hN))|((try apply i3);refine⟨_,au.x (KM) (sd zF),?_⟩;apply hN;clear hN N)));try clear zF)
       refine jf ?_ ?_ (hv)
       all_goals simp only[go_sem,↓reduceIte,Nat.reduceEqDiff,Nat.reduceAdd,Nat.reduceSub,Nat.reduceLeDiff,reduceCtorEq,c7,cg0,c0,c5,c6]
     ·have hi4:i=4:=ae;(try((repeat(revert N;apply g7));refine wk (tw8 @c7 @cg0 @c0 @c5 @c6 @hi @dp.eq_1 @ai.eq_1) ?_;repeat(apply g6;intro N hN)))
      exact ep (sd (tw7 @b5 @b0 @c7 @cg0 @c0 @c5 @c6)) (⟨by rw[htd];exact hb,by rw[htd];omega,fun x hx=>(by rw[htd];exact uR.1 hq x hx),fun g hg=>by
       rw[htd]at hg;obtain⟨x,hx,rfl⟩:=List.getElem_of_mem hg;have:=cA0 x ae
       rwa [List.getD_eq_getElem?_getD,i5 hx]at this⟩)
    ·have hd:decide (Tw s tl.bL=(j:Int))=false:=decide_eq_false hq
     (have zF:=tw8 @b5 @b0 @hj @lh @C9 @hd @dp.eq_1 @ai.eq_1;(repeat(first|((repeat(revert N;apply g7));refine wk zF ?_;repeat(apply g6;intro N hN))|((try apply i3);refine⟨_,au.x (qW) (sd zF),?_⟩;apply hN;clear hN N)|((try apply i3);refine⟨_,au.x (BM) (sd zF),?_⟩;apply hN;clear hN N)));try clear zF)
     exact cZ (b:=false) (.inl rfl) (sd @g8) (im (mT fun h=>by
      rw[EA,htd]at h
      exact hq (uR.2 h.2.2.1)))
   ·have C9:decide ((tl.de.length:Int)=4)=false:=decide_eq_false h4
    (have zF:=tw7 @b5 @b0 @hj @lh @C9 @dp.eq_1 @ai.eq_1;(repeat(first|((repeat(revert N;apply g7));refine wk zF ?_;repeat(apply g6;intro N hN))|((try apply i3);refine⟨_,au.x (qW) (sd zF),?_⟩;apply hN;clear hN N)));try clear zF)
    exact cZ (b:=false) (.inl rfl) (sd @g8) (im (mT fun h=>by rw[EA,htd]at h;have:=h.2.1;omega))
  ·(try((repeat(revert N;apply g7));refine wk (tw4 @b5 @b0 @hj @ai.eq_1) ?_;repeat(apply g6;intro N hN)));exact cZ (b:=true) (.inl rfl) (sd @g8) (Gm ⟨ae,ae,ae,fun i hi=>qw i ae,fun i hi=>bA0 i ae⟩)
def jm (a b:af):Bool:=decide (a.eR<b.eR)||(decide (a.eR=b.eR)&&decide (a.eV<b.eV))
theorem yy {a b:af}:jm a b=true↔a.eR<b.eR∨(a.eR=b.eR/\a.eV<b.eV):=by simp[jm]
theorem oH {a b:af}:jm a b=false↔¬(a.eR<b.eR∨(a.eR=b.eR/\a.eV<b.eV)):=by rw[<-yy,Bool.not_eq_true]
theorem zY {a b:af} (h1:a.eV=b.eV) (h2:a.eR=b.eR):a=b:=by cases a;cases b;simp_all
theorem gF {a b c:af} (h:jm a b=true) (k:jm b c=true):jm a c=true:=by rw[yy]at *;omega
theorem gJ {a:af}:jm a a=false:=by rw[oH];omega
theorem FX {a b:af} (h:jm a b=true):jm b a=false:=by rw[yy]at h;rw[oH];omega
theorem sa {a b:af} (h:jm a b=false) (ju:a≠b):jm b a=true:=by
 rw[oH]at h;rw[yy]
 by_cases hy:a.eR=b.eR
 ·by_cases hx:a.eV=b.eV
  ·exact absurd (zY hx hy) ju
  ·omega
 ·omega
def uC (a b:Int):Int:=if a<b then -1 else if b<a then 1 else 0
def Rz (a b:Int):Int:=if a=0 then b else a
def pf (a b:af):Int:=Rz (uC a.eR b.eR) (uC a.eV b.eV)
theorem lJ (a b:af):decide (pf a b<0)=jm a b:=by
 unfold pf Rz uC jm
 by_cases h1:a.eR<b.eR
 ·simp[h1]
 ·by_cases h2:b.eR<a.eR
  ·have:¬a.eR=b.eR:=ae;simp[h1,h2,this]
  ·have:a.eR=b.eR:=ae
   by_cases h3:a.eV<b.eV
   ·simp[h1,h2,this,h3]
   ·by_cases h4:b.eV<a.eV<;>simp[h1,h2,this,h3,h4]
theorem Bu (a b:af):(pf a b=0)↔a=b:=by
 cases a;cases b
 unfold pf Rz uC;simp only[af.mk.injEq]
 split<;>(try split)<;>(try split)<;>(try split)<;>omega
def Ow:aa:=⟨⟨0,0⟩,0⟩
def bc (l:List aa) (i:Nat):aa:=l.getD i Ow
theorem ev {l:List aa} {i:Nat} (h:i<l.length):bc l i=l[i]:=by simp[bc,List.getD_eq_getElem?_getD,h]
theorem e7 {l:List aa} {i:Nat} (h:i<l.length):bc l i∈l:=by rw[ev h];exact List.getElem_mem h
def iJ (l:List aa):Prop:=∀i j:Nat,i<j->j<l.length->jm (bc l i).aH (bc l j).aH=true
def sQ (l:List aa) (p:af):Nat:=l.findIdx fun c=>decide (c.aH=p)
def ei (l:List aa) (p:af):Int:=if sQ l p<l.length then(sQ l p:Int)else -1
def kN (l:List aa) (p:af):Nat:=l.findIdx fun c=> !jm c.aH p
theorem yv {l:List aa} {p:af} {i:Nat} (hi:i<=l.length) (h1:∀x,x<i->jm (bc l x).aH p=true) (h2:i<l.length->jm (bc l i).aH p=false):kN l p=i:=by
 unfold kN
 by_cases h:i<l.length
 ·rw[List.findIdx_eq h];refine⟨by have:=h2 h;rw[ev h]at this;simp[this],fun j hj=>?_⟩;have:=h1 j hj;rw[ev ae]at this;simp[this]
 ·have:i=l.length:=ae;subst this;refine List.findIdx_eq_length_of_false fun x hx=>?_;obtain⟨j,hj,rfl⟩:=List.getElem_of_mem hx;have:=h1 j hj;rw[ev hj]at this;simp[this]
theorem yw {l:List aa} {p:af} (hR:iJ l):ei l p=if kN l p<l.length/\(bc l (kN l p)).aH=p then(kN l p:Int)else -1:=by
 by_cases h:∃i,i<l.length/\(bc l i).aH=p
 ·obtain⟨i,hi,hp⟩:=h;have h1:kN l p=i:=yv ae (fun x hx=>by rw[<-hp];exact hR x i hx hi) fun _=>by rw[hp];exact gJ
  have h2:sQ l p=i:=by
   rw[sQ,List.findIdx_eq hi];refine⟨by rw[ev hi]at hp;simpa using hp,fun j hj=>?_⟩;have:=hR j i hj hi;rw[hp,ev ae]at this;simp only[decide_eq_false_iff_not];intro hc;rw[hc,gJ]at this
   cases this
  rw[ei,h1,h2,if_pos hi,if_pos ⟨hi,hp⟩]
 ·have h2:¬sQ l p<l.length:=by
   rw[sQ,List.findIdx_lt_length];rintro⟨c,hc,he⟩;obtain⟨j,hj,rfl⟩:=List.getElem_of_mem hc;exact h ⟨j,hj,by rw[ev hj];simpa using he⟩
  rw[ei,if_neg h2,if_neg];rintro⟨h3,h4⟩;exact h ⟨_,h3,h4⟩
theorem iz {l:List aa} {p:af} (h:0<=ei l p):(ei l p).toNat<l.length/\(bc l (ei l p).toNat).aH=p:=by
 unfold ei at h ⊢
 split at h
 ·rename_i hc;rw[if_pos hc];refine⟨ae,?_⟩;have:=of_decide_eq_true (List.findIdx_getElem (p:=fun c:aa=>decide (c.aH=p)) (xs:=l) (w:=hc));rw[Int.toNat_natCast,ev hc];exact this
 ·omega
def ej (l:List aa) (p:af):Int:=if 0<=ei l p then(bc l (ei l p).toNat).bK else -1
theorem nK (a b:af):au Tryz.prog 81 [.agg (ab a),.agg (ab b)] (.bool (jm a b)):=by
 refine au.body fx rfl fun hl n0=>?_;clear hl
 by_cases h0:a.eR<b.eR
 ·(try((repeat(revert N;apply g7));refine wk (tw @ab.eq_1 @h0) ?_;repeat(apply g6;intro N hN)));exact cZ (b:=true) (.inl rfl) (sd @g8) (by simp[jm,h0])
 ·by_cases h1:a.eR=b.eR
  ·have h2:¬b.eR<b.eR:=ae;(try((repeat(revert N;apply g7));refine wk (tw3 @ab.eq_1 @h1 @h2) ?_;repeat(apply g6;intro N hN)));exact cZ (b:=decide (a.eV<b.eV)) (.inl rfl) (sd @g8) (by simp[jm,h1])
  ·(try((repeat(revert N;apply g7));refine wk (tw3 @ab.eq_1 @h0 @h1) ?_;repeat(apply g6;intro N hN)));exact cZ (b:=false) (.inl rfl) (sd @g8) (by simp[jm,h0,h1])
theorem fZ {l:List aa} {i:Nat} (h:i<l.length):(l.map ad)[i]? =some (ad (bc l i)):=getD_map ad h
def GA (l:List aa) (i:Nat):Prop:=s9 (bc l i).aH=true/\jj (bc l i).bK 0 159=true/\(0<i->jm (bc l (i-1)).aH (bc l i).aH=true)
structure jr (l:List aa):Prop where
 oG:l.length<=500
 ok:∀i,i<l.length->GA l i
noncomputable def p9 (l:List aa):Bool:=@decide (jr l) (Classical.propDecidable _)
theorem rR {l:List aa}:p9 l=true↔jr l:=by simp[p9]
theorem lN {l:List aa} (h:¬jr l):false=p9 l:=by simp[p9,h]
theorem BB {l:List aa} (h:jr l):true=p9 l:=by simp[p9,h]
theorem jr.pH {l:List aa} (h:jr l):iJ l:=by
 intro i j uj hj
 induction j with
 |zero=>omega
 |succ j ih=>
  have h1:=(h.ok (j+1) hj).2.2 ae;rw[Nat.add_sub_cancel]at h1
  by_cases he:i=j
  ·subst he;exact h1
  ·exact gF (ih ae ae) h1
theorem jr.pt {l:List aa} (h:jr l) {i:Nat} (hi:i<l.length):s9 (bc l i).aH=true:=(h.ok i hi).1
theorem np {p:af} (h:s9 p=true):iB p.eV/\iB p.eR:=by
 unfold s9 at h;simp only[Bool.and_eq_true]at h;have:=dV h.1;have:=dV h.2;unfold iB;omega
theorem BW (l:List aa):au Tryz.prog 35 [.dZ [.sl (l.map ad)]] (.bool (p9 l)):=by
 refine au.body fx rfl fun hl n0=>?_;clear hl
 by_cases h1:(500:Int)<(l.length:Int)
 ·(try((repeat(revert N;apply g7));refine wk @h1 ?_;repeat(apply g6;intro N hN)));exact cZ (b:=false) (.inl rfl) (sd @g8) (lN fun h=>by have:=h.oG;omega)
 (try((repeat(revert N;apply g7));refine wk @h1 ?_;repeat(apply g6;intro N hN)));refine cj (fun n env st=>∃k:Nat,n=(l.length)-k/\k<=(l.length)/\env 3=.int .i64 (k:Int)/\(∀j:Nat,j<k->GA l j)) (l.length) ⟨0,ae,ae,sl @g8,fun _ h=>absurd h (Nat.not_lt_zero _)⟩ ?_;rintro n_a m3 i8 ⟨k,rfl,ale,a3,qw⟩ eC;have a0:=eC 0 g9;simp only[go_sem,↓reduceIte,Nat.reduceEqDiff,Nat.reduceAdd,Nat.reduceSub,Nat.reduceLeDiff,reduceCtorEq]at a0;clear eC
 by_cases hk:(k:Int)<(l.length:Int)
 ·have dW:∀{e:Env},(e 3=.int .i64 (IntKind.i64.wrap ((k:Int)+1)))->(GA l k)->∃m0,m0<(l.length)-k/\∃k:Nat,m0=(l.length)-k/\k<=(l.length)/\e 3=.int .i64 (k:Int)/\(∀j:Nat,j<k->GA l j):=fun x1 x2=>⟨_,ae,k+1,rfl,ae,(by rw[x1,aZ ae]),(all_succ qw x2)⟩;have iD:k<l.length:=ae;have gm:=fZ iD;have mT:(¬GA l k)->¬jr l:=fun h hp=>h (hp.ok k iD);have hp:=tL (bc l k).aH;have ht:=mB (bc l k).bK 0 159
  cases b1:s9 (bc l k).aH
  ·rw[b1]at hp
   (have zF:=tw6 @a3 @a0 @hk @gm @ad.eq_1 @ab.eq_1;(repeat(first|((repeat(revert N;apply g7));refine wk zF ?_;repeat(apply g6;intro N hN))|((try apply i3);refine⟨_,au.x (hp) (sd zF),?_⟩;apply hN;clear hN N)));try clear zF)
   exact cZ (b:=false) (.inl rfl) (sd @g8) (lN (mT fun h=>by rw[GA,b1]at h;cases h.1))
  rw[b1]at hp
  cases b2:jj (bc l k).bK 0 159
  ·rw[b2]at ht
   (have zF:=tw6 @a3 @a0 @hk @gm @ad.eq_1 @ab.eq_1;(repeat(first|((repeat(revert N;apply g7));refine wk zF ?_;repeat(apply g6;intro N hN))|((try apply i3);refine⟨_,au.x (hp) (sd zF),?_⟩;apply hN;clear hN N)|((try apply i3);refine⟨_,au.x (ht) (sd zF),?_⟩;apply hN;clear hN N)));try clear zF)
   exact cZ (b:=false) (.inl rfl) (sd @g8) (lN (mT fun h=>by rw[GA,b2]at h;cases h.2.1))
  rw[b2]at ht
  by_cases h0:(0:Int)<(k:Int)
  ·have wg:=fZ (l:=l) (i:=k-1) ae;have hw:IntKind.i64.wrap ((k:Int)-1)=((k-1:Nat):Int):=by rw[db (by have:=iD;omega)];omega
   have hq:=nK (bc l (k-1)).aH (bc l k).aH
   cases b3:jm (bc l (k-1)).aH (bc l k).aH
   ·rw[b3]at hq
    (have zF:=tw9 @a3 @a0 @hk @gm @wg @h0 @hw @ad.eq_1 @ab.eq_1;(repeat(first|((repeat(revert N;apply g7));refine wk zF ?_;repeat(apply g6;intro N hN))|((try apply i3);refine⟨_,au.x (hp) (sd zF),?_⟩;apply hN;clear hN N)|((try apply i3);refine⟨_,au.x (ht) (sd zF),?_⟩;apply hN;clear hN N)|((try apply i3);refine⟨_,au.x (hq) (sd zF),?_⟩;apply hN;clear hN N)));try clear zF)
    exact cZ (b:=false) (.inl rfl) (sd @g8) (lN (mT fun h=>by have:=h.2.2 ae;rw[b3]at this;cases this))
   ·rw[b3]at hq
    (have zF:=tw9 @a3 @a0 @hk @gm @wg @h0 @hw @ad.eq_1 @ab.eq_1;(repeat(first|((repeat(revert N;apply g7));refine wk zF ?_;repeat(apply g6;intro N hN))|((try apply i3);refine⟨_,au.x (hp) (sd zF),?_⟩;apply hN;clear hN N)|((try apply i3);refine⟨_,au.x (ht) (sd zF),?_⟩;apply hN;clear hN N)|((try apply i3);refine⟨_,au.x (hq) (sd zF),?_⟩;apply hN;clear hN N)));try clear zF)
    exact dW (sd (tw @a3 @a0)) (⟨b1,b2,fun _=>b3⟩)
  ·have qy:k=0:=ae
   (have zF:=tw7 @a3 @a0 @hk @gm @h0 @ad.eq_1 @ab.eq_1;(repeat(first|((repeat(revert N;apply g7));refine wk zF ?_;repeat(apply g6;intro N hN))|((try apply i3);refine⟨_,au.x (hp) (sd zF),?_⟩;apply hN;clear hN N)|((try apply i3);refine⟨_,au.x (ht) (sd zF),?_⟩;apply hN;clear hN N)));try clear zF)
   exact dW (sd (tw @a3 @a0)) (⟨b1,b2,fun h=>ae⟩)
 ·(try((repeat(revert N;apply g7));refine wk (tw3 @a3 @a0 @hk) ?_;repeat(apply g6;intro N hN)));exact cZ (b:=true) (.inl rfl) (sd @g8) (BB ⟨ae,fun i hi=>qw i ae⟩)
theorem Bv (a b:Int):au Tryz.prog 168 [.int .i64 a,.int .i64 b] (.int .i64 (uC a b)):=by
 have nan:∀x:Int,au Tryz.prog 188 [.int .i64 x] (.bool false):=fun x=>by
  refine au.body fx rfl fun hl n0=>?_;clear hl;have e:decide (x=x)=true:=decide_eq_true rfl;(try((repeat(revert N;apply g7));refine wk @e ?_;repeat(apply g6;intro N hN)));exact cZ (b:=false) (.inl rfl) (sd @g8) rfl
 refine au.body fx rfl fun hl n0=>?_;clear hl;have ha:=nan a;have hb:=nan b
 by_cases h1:a<b
 ·(repeat(first|((repeat(revert N;apply g7));refine wk @h1 ?_;repeat(apply g6;intro N hN))|((try apply i3);refine⟨_,au.x (ha) (sd @h1),?_⟩;apply hN;clear hN N)|((try apply i3);refine⟨_,au.x (hb) (sd @h1),?_⟩;apply hN;clear hN N)));exact ed (b:=-1) (.inl rfl) (sd @g8) (by rw[uC,if_pos h1])
 by_cases h2:b<a
 ·(repeat(first|((repeat(revert N;apply g7));refine wk (tw @h1 @h2) ?_;repeat(apply g6;intro N hN))|((try apply i3);refine⟨_,au.x (ha) (sd (tw @h1 @h2)),?_⟩;apply hN;clear hN N)|((try apply i3);refine⟨_,au.x (hb) (sd (tw @h1 @h2)),?_⟩;apply hN;clear hN N)));exact ed (b:=1) (.inl rfl) (sd @g8) (by rw[uC,if_neg h1,if_pos h2])
 ·(repeat(first|((repeat(revert N;apply g7));refine wk (tw @h1 @h2) ?_;repeat(apply g6;intro N hN))|((try apply i3);refine⟨_,au.x (ha) (sd (tw @h1 @h2)),?_⟩;apply hN;clear hN N)|((try apply i3);refine⟨_,au.x (hb) (sd (tw @h1 @h2)),?_⟩;apply hN;clear hN N)));exact ed (b:=0) (.inl rfl) (sd @g8) (by rw[uC,if_neg h1,if_neg h2])
def Mn:List Int->Int
 |[]=>0
 |a::r=>if a=0 then Mn r else a
theorem OB:∀{l:List Int} {k:Nat} (hk:k<l.length),l[k]≠0->(∀j (h:j<l.length),j<k->l[j]=0)->Mn l=l[k]
 |a::r,0,_,h,_=>by
  have h':a≠0:=h;rw[Mn,if_neg h'];rfl
 |a::r,k+1,hk,h,h0=>by
  have h':a=0:=h0 0 (by simp) ae;rw[Mn,if_pos h',OB (k:=k) (by simpa using hk) h fun j hj Df=>h0 (j+1) (by simpa using hj) ae];rfl
theorem Gc:∀{l:List Int},(∀j (h:j<l.length),l[j]=0)->Mn l=0
 |[],_=>rfl
 |a::r,h=>by
  have h':a=0:=h 0 (by simp);rw[Mn,if_pos h',Gc fun j hj=>h (j+1) (by simpa using hj)]
theorem RA (a b:Int):Mn [a,b]=Rz a b:=by
 unfold Rz
 by_cases h:a=0
 ·rw[Mn,if_pos h,if_pos h,Mn,Mn];split<;>simp_all
 ·rw[Mn,if_neg h,if_neg h]
theorem Qw (l:List Int):au Tryz.prog 167 [.sl (l.map bf)] (.int .i64 (Mn l)):=by
 refine au.body fx rfl fun hl n0=>?_;have hlen:l.length<=9223372036854775807:=by simpa using(hl (.sl (l.map bf)) (by simp)).len
 clear hl;(try((repeat(revert N;apply g7));refine wk @g8 ?_;repeat(apply g6;intro N hN)));refine cj (fun n env st=>∃k:Nat,n=(l.length)-k/\k<=(l.length)/\env 8=.int .i64 (k:Int)/\(∀j:Nat,j<k->∀h:j<l.length,l[j]=0)) (l.length) ⟨0,ae,ae,sl @g8,fun _ h=>absurd h (Nat.not_lt_zero _)⟩ ?_;rintro n_a m3 i8 ⟨k,rfl,ale,a8,qw⟩ eC;have a3:=eC 3 g9;have a6:=eC 6 g9;have a7:=eC 7 g9;simp only[go_sem,↓reduceIte,Nat.reduceEqDiff,Nat.reduceAdd,Nat.reduceSub,Nat.reduceLeDiff,reduceCtorEq]at a3 a6 a7;clear eC
 by_cases hk:(k:Int)<(l.length:Int)
 ·have dW:∀{e:Env},(e 8=.int .i64 (IntKind.i64.wrap ((k:Int)+1)))->(∀h:k<l.length,l[k]=0)->∃m0,m0<(l.length)-k/\∃k:Nat,m0=(l.length)-k/\k<=(l.length)/\e 8=.int .i64 (k:Int)/\(∀j:Nat,j<k->∀h:j<l.length,l[j]=0):=fun x1 x2=>⟨_,ae,k+1,rfl,ae,(by rw[x1,aZ ae]),(all_succ qw x2)⟩;have iD:k<l.length:=ae;have gm:(l.map bf)[k]? =some (bf l[k]):=by simp[iD]
  generalize hv:l[k]=v at gm
  by_cases h0:v=0
  ·have e:decide (v=0)=true:=decide_eq_true h0;(try((repeat(revert N;apply g7));refine wk (tw8 @a8 @a3 @a6 @a7 @e @hk @gm @bf.eq_1) ?_;repeat(apply g6;intro N hN)));exact dW (sd (tw4 @a8 @a3 @a6 @a7)) (fun _=>hv.trans h0)
  ·have e:decide (v=0)=false:=decide_eq_false h0;(try((repeat(revert N;apply g7));refine wk (tw8 @a8 @a3 @a6 @a7 @e @hk @gm @bf.eq_1) ?_;repeat(apply g6;intro N hN)));exact ed (b:=v) (.inl rfl) (sd @g8) (by rw[OB iD (by rw[hv];exact h0) fun j h hj=>qw j hj h,hv])
 ·(try((repeat(revert N;apply g7));refine wk (tw5 @a8 @a3 @a6 @a7 @hk) ?_;repeat(apply g6;intro N hN)));exact ed (b:=0) (.inl rfl) (sd @g8) (by rw[Gc fun j h=>qw j ae h])
section
attribute [local go_sem] List.drop_zero List.take_succ_cons List.take_zero List.length_cons List.length_nil uL uJ xu
theorem jt (a b:af):au Tryz.prog 141 [.agg (ab a),.agg (ab b)] (.int .i64 (pf a b)):=by
 refine au.body fx rfl fun hl n0=>?_;clear hl;have h1:=Bv a.eR b.eR;have h2:=Bv a.eV b.eV;have h3:=Qw [uC a.eR b.eR,uC a.eV b.eV];rw[RA,List.map_cons,List.map_cons,List.map_nil,bf,bf]at h3;(repeat(first|((repeat(revert N;apply g7));refine wk @ab.eq_1 ?_;repeat(apply g6;intro N hN))|((try apply i3);refine⟨_,au.x (h1) (sd @ab.eq_1),?_⟩;apply hN;clear hN N)|((try apply i3);refine⟨_,au.x (h2) (sd @ab.eq_1),?_⟩;apply hN;clear hN N)|((try apply i3);refine⟨_,au.x (h3) (sd @ab.eq_1),?_⟩;apply hN;clear hN N)));exact ed (b:=pf a b) (.inl rfl) (by simp only[go_sem,↓reduceIte,Nat.reduceEqDiff,Nat.reduceAdd,Nat.reduceSub,Nat.reduceLeDiff,reduceCtorEq,pf]) rfl
end
theorem Jo (a b:af):au Tryz.prog 106 [.agg (ab a),.agg (ab b)] (.bool (jm a b)):=by
 refine au.body fx rfl fun hl n0=>?_;clear hl;have h1:=jt a b;rw[ab,ab]at h1;(repeat(first|((repeat(revert N;apply g7));refine wk @ab.eq_1 ?_;repeat(apply g6;intro N hN))|((try apply i3);refine⟨_,au.x (h1) (sd @ab.eq_1),?_⟩;apply hN;clear hN N)));exact cZ (b:=decide (pf a b<0)) (.inl rfl) (sd @g8) (lJ a b)
theorem l5 (t:aa) (p:af):au Tryz.prog 108 [.agg (ad t),.agg (ab p)] (.int .i64 (pf t.aH p)):=by
 refine au.body fx rfl fun hl n0=>?_;clear hl;have h1:=jt t.aH p;rw[ab,ab]at h1;(repeat(first|((repeat(revert N;apply g7));refine wk (tw @ad.eq_1 @ab.eq_1) ?_;repeat(apply g6;intro N hN))|((try apply i3);refine⟨_,au.x (h1) (sd (tw @ad.eq_1 @ab.eq_1)),?_⟩;apply hN;clear hN N)));exact ed (b:=pf t.aH p) (.inl rfl) (sd @g8) rfl
theorem wK (l:List aa):au Tryz.prog 55 [.agg [.sl (l.map ad)]] (.bool (p9 l)):=by
 refine au.body fx rfl fun hl n0=>?_
 have hlen:l.length<=9223372036854775807:=by
  have h1:=(hl (.agg [.sl (l.map ad)]) (by simp)).TY (a:=.sl (l.map ad)) (by simp)
  simpa using h1.len
 clear hl;(try((repeat(revert N;apply g7));refine wk @g8 ?_;repeat(apply g6;intro N hN)));refine cj (fun n env st=>∃k:Nat,n=(l.length)-k/\k<=(l.length)/\env 8=.int .i64 (k:Int)/\st.get ⟨55000000,n0⟩=some ⟨true,1,[[.sl (l.map ad)]]⟩/\(∀j:Nat,j<k->GA l j)) (l.length) ⟨0,ae,ae,sl @g8,sl @g8,fun _ h=>absurd h (Nat.not_lt_zero _)⟩ ?_;rintro n_a m3 i8 ⟨k,rfl,ale,a8,eK,qw⟩ eC;have a1:=eC 1 g9;have a6:=eC 6 g9;have a7:=eC 7 g9;simp only[go_sem,↓reduceIte,Nat.reduceEqDiff,Nat.reduceAdd,Nat.reduceSub,Nat.reduceLeDiff,reduceCtorEq]at a1 a6 a7;clear eC
 by_cases hk:(k:Int)<(l.length:Int)
 ·have dW:∀{e:Env} {gg:Rows},(e 8=.int .i64 (IntKind.i64.wrap ((k:Int)+1)))->(gg ⟨55000000,n0⟩=some ⟨true,1,[[.sl (l.map ad)]]⟩)->(GA l k)->∃m0,m0<(l.length)-k/\∃k:Nat,m0=(l.length)-k/\k<=(l.length)/\e 8=.int .i64 (k:Int)/\gg ⟨55000000,n0⟩=some ⟨true,1,[[.sl (l.map ad)]]⟩/\(∀j:Nat,j<k->GA l j):=fun x1 x2 x3=>⟨_,ae,k+1,rfl,ae,(by rw[x1,aZ ae]),x2,(all_succ qw x3)⟩;have iD:k<l.length:=ae;have gm:=fZ iD;have mT:(¬GA l k)->¬jr l:=fun h hp=>h (hp.ok k iD);have hp:=mm (bc l k).aH;have ht:=BR (bc l k).bK 160 ae ae;rw[show(160:Int)-1=159 from rfl]at ht
  cases b1:s9 (bc l k).aH
  ·rw[b1]at hp
   (have zF:=tw9 @a8 @eK @a1 @a6 @a7 @hk @gm @ad.eq_1 @ab.eq_1;(repeat(first|((repeat(revert N;apply g7));refine wk zF ?_;repeat(apply g6;intro N hN))|((try apply i3);refine⟨_,au.x (hp) (sd zF),?_⟩;apply hN;clear hN N)));try clear zF)
   exact cZ (b:=false) (.inl rfl) (sd @g8) (lN (mT fun h=>by rw[GA,b1]at h;cases h.1))
  rw[b1]at hp
  cases b2:jj (bc l k).bK 0 159
  ·rw[b2]at ht
   (have zF:=tw9 @a8 @eK @a1 @a6 @a7 @hk @gm @ad.eq_1 @ab.eq_1;(repeat(first|((repeat(revert N;apply g7));refine wk zF ?_;repeat(apply g6;intro N hN))|((try apply i3);refine⟨_,au.x (hp) (sd zF),?_⟩;apply hN;clear hN N)|((try apply i3);refine⟨_,au.x (ht) (sd zF),?_⟩;apply hN;clear hN N)));try clear zF)
   exact cZ (b:=false) (.inl rfl) (sd @g8) (lN (mT fun h=>by rw[GA,b2]at h;cases h.2.1))
  rw[b2]at ht
  by_cases h0:(0:Int)<(k:Int)
  ·have wg:=fZ (l:=l) (i:=k-1) ae;have hw:IntKind.i64.wrap ((k:Int)-1)=((k-1:Nat):Int):=by rw[db ae];omega
   have hq:=Jo (bc l (k-1)).aH (bc l k).aH
   cases b3:jm (bc l (k-1)).aH (bc l k).aH
   ·rw[b3]at hq
    (have zF:=tw9 @a8 @eK @a1 @a6 @a7 @hk @gm @wg (tw4 @h0 @hw @ad.eq_1 @ab.eq_1);(repeat(first|((repeat(revert N;apply g7));refine wk zF ?_;repeat(apply g6;intro N hN))|((try apply i3);refine⟨_,au.x (hp) (sd zF),?_⟩;apply hN;clear hN N)|((try apply i3);refine⟨_,au.x (ht) (sd zF),?_⟩;apply hN;clear hN N)|((try apply i3);refine⟨_,au.x (hq) (sd zF),?_⟩;apply hN;clear hN N)));try clear zF)
    exact cZ (b:=false) (.inl rfl) (sd @g8) (lN (mT fun h=>by have:=h.2.2 ae;rw[b3]at this;cases this))
   ·rw[b3]at hq
    (have zF:=tw9 @a8 @eK @a1 @a6 @a7 @hk @gm @wg (tw4 @h0 @hw @ad.eq_1 @ab.eq_1);(repeat(first|((repeat(revert N;apply g7));refine wk zF ?_;repeat(apply g6;intro N hN))|((try apply i3);refine⟨_,au.x (hp) (sd zF),?_⟩;apply hN;clear hN N)|((try apply i3);refine⟨_,au.x (ht) (sd zF),?_⟩;apply hN;clear hN N)|((try apply i3);refine⟨_,au.x (hq) (sd zF),?_⟩;apply hN;clear hN N)));try clear zF)
    refine dW ?_ ?_ (⟨b1,b2,fun _=>b3⟩)
    all_goals simp only[go_sem,↓reduceIte,Nat.reduceEqDiff,Nat.reduceAdd,Nat.reduceSub,Nat.reduceLeDiff,reduceCtorEq,a8,eK,a1,a6,a7]
  ·have qy:k=0:=ae
   (have zF:=tw9 @a8 @eK @a1 @a6 @a7 @hk @gm @h0 (tw @ad.eq_1 @ab.eq_1);(repeat(first|((repeat(revert N;apply g7));refine wk zF ?_;repeat(apply g6;intro N hN))|((try apply i3);refine⟨_,au.x (hp) (sd zF),?_⟩;apply hN;clear hN N)|((try apply i3);refine⟨_,au.x (ht) (sd zF),?_⟩;apply hN;clear hN N)));try clear zF)
   refine dW ?_ ?_ (⟨b1,b2,fun h=>ae⟩)
   all_goals simp only[go_sem,↓reduceIte,Nat.reduceEqDiff,Nat.reduceAdd,Nat.reduceSub,Nat.reduceLeDiff,reduceCtorEq,a8,eK,a1,a6,a7]
 ·(try((repeat(revert N;apply g7));refine wk (tw6 @a8 @eK @a1 @a6 @a7 @hk) ?_;repeat(apply g6;intro N hN)));refine cZ (b:=decide ((l.length:Int)<=500)) (.inl rfl) (sd @g8) ?_
  by_cases h5:(l.length:Int)<=500
  ·rw[decide_eq_true h5];exact BB ⟨ae,fun i hi=>qw i ae⟩
  ·rw[decide_eq_false h5];exact lN fun h=>by have:=h.oG;omega
theorem Bs (cells:List aa) (p:af) (hR:iJ cells) (Jd:cells.length<=1048576):
  au Tryz.prog 107 [.sl (cells.map ad),.agg (ab p),.fn 108 []] (.gG [.int .i64 (kN cells p),.bool (decide (kN cells p<cells.length)&&decide ((bc cells (kN cells p)).aH=p))]):=by
 refine au.body fx rfl fun hl n0=>?_;clear hl;(try((repeat(revert N;apply g7));refine wk @ab.eq_1 ?_;repeat(apply g6;intro N hN)));refine cj (fun n env st=>∃i j:Nat,n=j-i/\i<=j/\j<=cells.length/\(∀x,x<i->jm (bc cells x).aH p=true)/\(∀x,j<=x->x<cells.length->jm (bc cells x).aH p=false)/\env 9=.int .i64 i/\env 10=.int .i64 j/\st.get ⟨107000000,n0⟩=some ⟨true,2,[ab p]⟩) cells.length ⟨0,cells.length,ae,ae,ae,fun x h=>ae,fun x h1 h2=>ae,by(simp only[go_sem,↓reduceIte,Nat.reduceEqDiff,Nat.reduceAdd,Nat.reduceSub,Nat.reduceLeDiff,reduceCtorEq])<;>rfl,sd @g8,sd @ab.eq_1⟩ ?_;rintro n env st ⟨i,j,rfl,uj,hj,lp,De,h9,we,hg⟩ fr;have h0:=fr 0 g9;have h2:=fr 2 g9;have h4:=fr 4 g9;have h8:=fr 8 g9;simp only[go_sem,↓reduceIte,Nat.reduceEqDiff,Nat.reduceAdd,Nat.reduceSub,Nat.reduceLeDiff,reduceCtorEq]at h0 h2 h4 h8;clear fr
 by_cases eG:(i:Int)<(j:Int)
 ·have e1:IntKind.i64.wrap ((i:Int)+j)=((i+j:Nat):Int):=by rw[db ae];rfl
  have hm:(i+j) / 2<cells.length:=ae;have ib:(cells.map ad)[(i+j) / 2]? =some (ad (bc cells ((i+j) / 2))):=fZ (l:=cells) hm
  have e2:IntKind.i64.wrap ((IntKind.u64.wrap ((i+j:Nat):Int)).fdiv (2 ^ min 1 IntKind.u64.bits))=(((i+j) / 2:Nat):Int):=by
   have h:IntKind.u64.wrap ((i+j:Nat):Int)=((i+j:Nat):Int):=by rw[IntKind.wrap_u64];omega
   rw[h,show min 1 IntKind.u64.bits=1 from rfl,show((2:Int) ^ 1)=2 from rfl,Int.fdiv_eq_ediv_of_nonneg _ ae];rw[db ae];omega
  have M0:IntKind.i64.wrap ((IntKind.u64.wrap ((i+j:Nat):Int)).fdiv (2 ^ min 1 64))=(((i+j) / 2:Nat):Int):=e2;have e3:=aZ (k:=(i+j) / 2) ae
  by_cases hc:pf (bc cells ((i+j) / 2)).aH p<0
  ·have hl:jm (bc cells ((i+j) / 2)).aH p=true:=by rw[<-lJ];simpa using hc
   (have zF:=tw9 @h0 @h2 @h4 @h8 @h9 @we @hg @eG (tw7 @e1 @e2 @M0 @ib @hc @ad.eq_1 @ab.eq_1);(repeat(first|((repeat(revert N;apply g7));refine wk zF ?_;repeat(apply g6;intro N hN))|((try apply i3);refine⟨_,au.x (l5 (bc cells ((i+j) / 2)) p) (sd zF),?_⟩;apply hN;clear hN N)));try clear zF)
   refine⟨_,?_,(i+j) / 2+1,j,rfl,ae,hj,fun x hx=>?_,De,sd @e3,sd @we,sd (tw @hg @ab.eq_1)⟩
   ·omega
   ·by_cases A3:x=(i+j) / 2
    ·subst A3;exact hl
    ·exact gF (hR x _ ae hm) hl
  ·have hl:jm (bc cells ((i+j) / 2)).aH p=false:=by rw[<-lJ];simpa using hc
   (have zF:=tw9 @h0 @h2 @h4 @h8 @h9 @we @hg @eG (tw7 @e1 @e2 @M0 @ib @hc @ad.eq_1 @ab.eq_1);(repeat(first|((repeat(revert N;apply g7));refine wk zF ?_;repeat(apply g6;intro N hN))|((try apply i3);refine⟨_,au.x (l5 (bc cells ((i+j) / 2)) p) (sd zF),?_⟩;apply hN;clear hN N)));try clear zF)
   refine⟨_,?_,i,(i+j) / 2,rfl,ae,ae,lp,fun x h1 h2=>?_,sd @h9,sd (tw @e2 @M0),sd (tw @hg @ab.eq_1)⟩
   ·omega
   ·by_cases A3:x=(i+j) / 2
    ·subst A3;exact hl
    ·rw[Bool.eq_false_iff];intro hc;have h3:=gF (hR ((i+j) / 2) x ae h2) hc;rw[hl]at h3;cases h3
 ·have NF:i=j:=ae;subst NF;have AU:kN cells p=i:=yv hj lp fun h=>De i i4 h
  by_cases hn:(i:Int)<(cells.length:Int)
  ·have jI:i<cells.length:=ae;have ib:(cells.map ad)[i]? =some (ad (bc cells i)):=fZ (l:=cells) jI;have hd:decide (pf (bc cells i).aH p=0)=decide ((bc cells i).aH=p):=by simp only[Bu]
   (have zF:=tw9 @h0 @h2 @h4 @h8 @h9 @we @hg @eG (tw4 @hn @ib @ad.eq_1 @ab.eq_1);(repeat(first|((repeat(revert N;apply g7));refine wk zF ?_;repeat(apply g6;intro N hN))|((try apply i3);refine⟨_,au.x (l5 (bc cells i) p) (sd zF),?_⟩;apply hN;clear hN N)));try clear zF)
   refine lQ (.inl rfl) (r1:=.int .i64 i) (r2:=.bool (decide ((bc cells i).aH=p))) ?_ ?_ ?_
   ·simp only[go_sem,↓reduceIte,Nat.reduceEqDiff,Nat.reduceAdd,Nat.reduceSub,Nat.reduceLeDiff,reduceCtorEq]
   ·simp only[go_sem,↓reduceIte,Nat.reduceEqDiff,Nat.reduceAdd,Nat.reduceSub,Nat.reduceLeDiff,reduceCtorEq,hd]
   ·simp only[fY,bR,cW,ec,fK,Option.map_some,AU,jI,decide_true,Bool.true_and]
  ·have jI:¬i<cells.length:=ae;(try((repeat(revert N;apply g7));refine wk (tw9 @h0 @h2 @h4 @h8 @h9 @we @hg @eG (tw3 @hn @ad.eq_1 @ab.eq_1)) ?_;repeat(apply g6;intro N hN)));refine lQ (.inl rfl) (r1:=.int .i64 i) (r2:=.bool false) ?_ ?_ ?_
   ·simp only[go_sem,↓reduceIte,Nat.reduceEqDiff,Nat.reduceAdd,Nat.reduceSub,Nat.reduceLeDiff,reduceCtorEq]
   ·simp only[go_sem,↓reduceIte,Nat.reduceEqDiff,Nat.reduceAdd,Nat.reduceSub,Nat.reduceLeDiff,reduceCtorEq]
   ·simp only[fY,bR,cW,ec,fK,Option.map_some,AU,jI,decide_false,Bool.false_and]
theorem Lw (l:List aa) (p:af) (hR:iJ l) (Jd:l.length<=1048576):au Tryz.prog 215 [.agg [.sl (l.map ad)],.agg (ab p)] (.int .i64 (ei l p)):=by
 refine au.body fx rfl fun hl n0=>?_;clear hl;rw[yw hR];have hb:=Bs l p hR Jd;rw[ab]at hb
 cases hf:(decide (kN l p<l.length)&&decide ((bc l (kN l p)).aH=p))
 ·rw[hf]at hb;(repeat(first|((repeat(revert N;apply g7));refine wk @ab.eq_1 ?_;repeat(apply g6;intro N hN))|((try apply i3);refine⟨_,au.x (hb) (sd @ab.eq_1),?_⟩;apply hN;clear hN N)));exact ed (b:=-1) (.inl rfl) (sd @g8) (by rw[if_neg];intro h;simp[h.1,h.2]at hf)
 ·rw[hf]at hb;(repeat(first|((repeat(revert N;apply g7));refine wk @ab.eq_1 ?_;repeat(apply g6;intro N hN))|((try apply i3);refine⟨_,au.x (hb) (sd @ab.eq_1),?_⟩;apply hN;clear hN N)));exact ed (b:=(kN l p:Int)) (.inl rfl) (sd @g8) (by rw[if_pos];simpa using hf)
theorem MI (l:List aa) (p:af) (hR:iJ l) (Jd:l.length<=1048576):au Tryz.prog 56 [.agg [.sl (l.map ad)],.agg (ab p)] (.int .i64 (ej l p)):=by
 refine au.body fx rfl fun hl n0=>?_;clear hl;have hi:=yw (l:=l) (p:=p) hR;have hb:=Bs l p hR Jd;rw[ab]at hb
 cases hf:(decide (kN l p<l.length)&&decide ((bc l (kN l p)).aH=p))
 ·rw[hf]at hb;(repeat(first|((repeat(revert N;apply g7));refine wk @ab.eq_1 ?_;repeat(apply g6;intro N hN))|((try apply i3);refine⟨_,au.x (hb) (sd @ab.eq_1),?_⟩;apply hN;clear hN N)))
  exact ed (b:=-1) (.inl rfl) (sd @g8) (by
   have hx:ei l p= -1:=by rw[hi,if_neg (by intro h;simp[h.1,h.2]at hf)]
   rw[ej,hx];rfl)
 ·rw[hf]at hb;have hc:kN l p<l.length/\(bc l (kN l p)).aH=p:=by simpa using hf
  have hg:=fZ hc.1
  (have zF:=tw3 @ab.eq_1 @hg @ad.eq_1;(repeat(first|((repeat(revert N;apply g7));refine wk zF ?_;repeat(apply g6;intro N hN))|((try apply i3);refine⟨_,au.x (hb) (sd zF),?_⟩;apply hN;clear hN N)));try clear zF)
  exact ed (b:=(bc l (kN l p)).bK) (.inl rfl) (sd @g8) (by
   have hx:ei l p=(kN l p:Int):=by rw[hi,if_pos hc]
   rw[ej,hx,if_pos ae,Int.toNat_natCast])
theorem tM (l:List aa) (p:af) (hR:iJ l) (Jd:l.length<=1048576):au Tryz.prog 82 [.dZ [.sl (l.map ad)],.agg (ab p)] (.int .i64 (ei l p)):=by
 refine au.body fx rfl fun hl n0=>?_;clear hl;rw[yw hR];(try((repeat(revert N;apply g7));refine wk @ab.eq_1 ?_;repeat(apply g6;intro N hN)));refine cj (fun n env st=>∃i j:Nat,n=j-i/\i<=j/\j<=l.length/\(∀x,x<i->jm (bc l x).aH p=true)/\(∀x,j<=x->x<l.length->jm (bc l x).aH p=false)/\env 5=.int .i64 i/\env 6=.int .i64 j/\st.get ⟨82000000,n0⟩=some ⟨true,2,[ab p]⟩) l.length ⟨0,l.length,ae,ae,ae,fun x h=>ae,fun x h1 h2=>ae,by(simp only[go_sem,↓reduceIte,Nat.reduceEqDiff,Nat.reduceAdd,Nat.reduceSub,Nat.reduceLeDiff,reduceCtorEq])<;>rfl,sd @g8,sd @ab.eq_1⟩ ?_;rintro n env st ⟨i,j,rfl,uj,hj,lp,De,h5,h6,hg⟩ fr;have h0:=fr 0 g9;have h3:=fr 3 g9;simp only[go_sem,↓reduceIte,Nat.reduceEqDiff,Nat.reduceAdd,Nat.reduceSub,Nat.reduceLeDiff,reduceCtorEq]at h0 h3;clear fr
 by_cases eG:(i:Int)<(j:Int)
 ·have e1:IntKind.i64.wrap ((i:Int)+j)=((i+j:Nat):Int):=by rw[db ae];rfl
  have hm:(i+j) / 2<l.length:=ae;have ib:=fZ hm
  have e2:IntKind.i64.wrap (((i+j:Nat):Int).tdiv 2)=(((i+j) / 2:Nat):Int):=by
   rw[Int.tdiv_eq_ediv_of_nonneg ae,db ae];omega
  have e3:=aZ (k:=(i+j) / 2) ae;have hq:=nK (bc l ((i+j) / 2)).aH p
  cases hl:jm (bc l ((i+j) / 2)).aH p
  ·rw[hl]at hq
   (have zF:=tw9 @h0 @h3 @h5 @h6 @hg @eG @e1 @e2 (tw3 @ib @ad.eq_1 @ab.eq_1);(repeat(first|((repeat(revert N;apply g7));refine wk zF ?_;repeat(apply g6;intro N hN))|((try apply i3);refine⟨_,au.x (hq) (sd zF),?_⟩;apply hN;clear hN N)));try clear zF)
   refine⟨_,?_,i,(i+j) / 2,rfl,ae,ae,lp,fun x h1 h2=>?_,sd @h5,sd @e2,sd (tw @hg @ab.eq_1)⟩
   ·omega
   ·by_cases A3:x=(i+j) / 2
    ·subst A3;exact hl
    ·rw[Bool.eq_false_iff];intro hc;have h3:=gF (hR ((i+j) / 2) x ae h2) hc;rw[hl]at h3;cases h3
  ·rw[hl]at hq
   (have zF:=tw9 @h0 @h3 @h5 @h6 @hg @eG @e1 @e2 (tw3 @ib @ad.eq_1 @ab.eq_1);(repeat(first|((repeat(revert N;apply g7));refine wk zF ?_;repeat(apply g6;intro N hN))|((try apply i3);refine⟨_,au.x (hq) (sd zF),?_⟩;apply hN;clear hN N)));try clear zF)
   refine⟨_,?_,(i+j) / 2+1,j,rfl,ae,hj,fun x hx=>?_,De,sd @e3,sd @h6,sd (tw @hg @ab.eq_1)⟩
   ·omega
   ·by_cases A3:x=(i+j) / 2
    ·subst A3;exact hl
    ·exact gF (hR x _ ae hm) hl
 ·have NF:i=j:=ae;subst NF;have AU:kN l p=i:=yv hj lp fun h=>De i i4 h
  by_cases hn:(i:Int)<(l.length:Int)
  ·have jI:i<l.length:=ae;have ib:=fZ jI
   by_cases hp:(bc l i).aH=p
   ·have hx:decide ((bc l i).aH.eV=p.eV)=true:=decide_eq_true (by rw[hp]);have hy:decide ((bc l i).aH.eR=p.eR)=true:=decide_eq_true (by rw[hp]);(try((repeat(revert N;apply g7));refine wk (tw9 @h0 @h3 @h5 @h6 @hg @eG @hn @ib (tw4 @hx @hy @ad.eq_1 @ab.eq_1)) ?_;repeat(apply g6;intro N hN)));exact ed (b:=(i:Int)) (.inl rfl) (sd @g8) (by rw[AU,if_pos ⟨jI,hp⟩])
   ·by_cases hx:(bc l i).aH.eV=p.eV
    ·have xE:decide ((bc l i).aH.eV=p.eV)=true:=decide_eq_true hx;have hy':decide ((bc l i).aH.eR=p.eR)=false:=decide_eq_false fun h=>hp (zY hx h);(try((repeat(revert N;apply g7));refine wk (tw9 @h0 @h3 @h5 @h6 @hg @eG @hn @ib (tw4 @xE @hy' @ad.eq_1 @ab.eq_1)) ?_;repeat(apply g6;intro N hN)));exact ed (b:=-1) (.inl rfl) (sd @g8) (by rw[AU,if_neg fun h=>hp h.2])
    ·have xE:decide ((bc l i).aH.eV=p.eV)=false:=decide_eq_false hx;(try((repeat(revert N;apply g7));refine wk (tw9 @h0 @h3 @h5 @h6 @hg @eG @hn @ib (tw4 @xE @Bool.false_and @ad.eq_1 @ab.eq_1)) ?_;repeat(apply g6;intro N hN)));exact ed (b:=-1) (.inl rfl) (sd @g8) (by rw[AU,if_neg fun h=>hp h.2])
  ·have jI:¬i<l.length:=ae;(try((repeat(revert N;apply g7));refine wk (tw9 @h0 @h3 @h5 @h6 @hg @eG @hn @ad.eq_1 @ab.eq_1) ?_;repeat(apply g6;intro N hN)));exact ed (b:=-1) (.inl rfl) (sd @g8) (by rw[AU,if_neg fun h=>jI h.1])
theorem yu (l:List aa) (p:af) (hR:iJ l) (Jd:l.length<=1048576):au Tryz.prog 36 [.dZ [.sl (l.map ad)],.agg (ab p)] (.int .i64 (ej l p)):=by
 refine au.body fx rfl fun hl n0=>?_;clear hl;have hb:=tM l p hR Jd
 by_cases hi:ei l p<0
 ·rw[ab]at hb;(repeat(first|((repeat(revert N;apply g7));refine wk (tw @ab.eq_1 @hi) ?_;repeat(apply g6;intro N hN))|((try apply i3);refine⟨_,au.x (hb) (sd (tw @ab.eq_1 @hi)),?_⟩;apply hN;clear hN N)));exact ed (b:=-1) (.inl rfl) (sd @g8) (by rw[ej,if_neg ae])
 ·have h0:0<=ei l p:=ae;have hg:=fZ (iz h0).1;rw[ab]at hb
  (have zF:=tw5 @ab.eq_1 @hi @h0 @hg @ad.eq_1;(repeat(first|((repeat(revert N;apply g7));refine wk zF ?_;repeat(apply g6;intro N hN))|((try apply i3);refine⟨_,au.x (hb) (sd zF),?_⟩;apply hN;clear hN N)));try clear zF)
  exact ed (b:=(bc l (ei l p).toNat).bK) (.inl rfl) (sd @g8) (by rw[ej,if_pos h0])
def fS (s:aE) (l:List aa):Prop:=jr l/\∀t∈l,eE s t.bK=true
noncomputable def qH (s:aE) (l:List aa):Bool:=p9 l&&l.all fun t=>eE s t.bK
theorem mL {s:aE} {l:List aa}:qH s l=true↔fS s l:=by simp[qH,fS,rR]
theorem tx:WR ad (fun c=>.agg (ad c)) 3 true:=⟨fun _=>rfl,fun _=>rfl,fun x g=>by simp only[ad,ah,aj,bb,aL,Option.map_some]⟩
theorem Lr (s:aE) (t:aa) (hs:s.aq.length<=1048576):au Tryz.prog 152 [.agg (ad t),.dZ (ai s)] (.bool (!eE s t.bK)):=by
 refine au.body fx rfl fun hl n0=>?_;clear hl;have h:=N2 s t.bK;rw[ai]at h;(repeat(first|((repeat(revert N;apply g7));refine wk (tw @ad.eq_1 @ai.eq_1) ?_;repeat(apply g6;intro N hN))|((try apply i3);refine⟨_,au.x (h) (sd (tw @ad.eq_1 @ai.eq_1)),?_⟩;apply hN;clear hN N)));exact cZ (b:= !eE s t.bK) (.inl rfl) (sd @g8) rfl
theorem R0 (s:aE) (l:List aa) (hs:s.aq.length<=1048576) (hl:l.length<=1048576):au Tryz.prog 120 [.sl (l.map ad),.fn 152 [.dZ (ai s)]] (.bool (l.any fun t=> !eE s t.bK)):=
 kM tx (show AJ Tryz.prog 120=some (zk 120 132) by kernel_rfl)
  (show AJ Tryz.prog 132=some (pw 132 3 true) by kernel_rfl) l hl _ _ _ rfl (fun g=>by rw[ah,aJ,aj];rfl) (fun x _=>Lr s x hs) fun g=>by rw[ah,aJ,aj];rfl
theorem IP {α:Type} (p:α->Bool) (l:List α):(!l.any fun t=> !p t)=l.all p:=by
 induction l with
 |nil=>rfl
 |cons x l ih=>simp only[List.any_cons,List.all_cons,<-ih];cases p x<;>simp
theorem pV (s:aE) (l:List aa) (hn:jC s) (hg:s.bM.length<=1048576) (ht:s.aq.length<=1048576) (hs:∀t∈s.aq,t.de.length<=1048576) (hl:l.length<=1048576):au Tryz.prog 119 [.agg (ai s),.agg [.sl (l.map ad)]] (.bool (rz s&&qH s l)):=by
 refine au.body fx rfl fun hl n0=>?_;clear hl;have h1:=G5 s hn hg ht hs;have h2:=wK l;have h3:=R0 s l ht hl;rw[ai]at h1 h3
 cases b1:rz s
 ·rw[b1]at h1;(repeat(first|((repeat(revert N;apply g7));refine wk @ai.eq_1 ?_;repeat(apply g6;intro N hN))|((try apply i3);refine⟨_,au.x (h1) (sd @ai.eq_1),?_⟩;apply hN;clear hN N)));exact cZ (b:=false) (.inl rfl) (sd @g8) rfl
 rw[b1]at h1
 cases b2:p9 l
 ·rw[b2]at h2;(repeat(first|((repeat(revert N;apply g7));refine wk @ai.eq_1 ?_;repeat(apply g6;intro N hN))|((try apply i3);refine⟨_,au.x (h1) (sd @ai.eq_1),?_⟩;apply hN;clear hN N)|((try apply i3);refine⟨_,au.x (h2) (sd @ai.eq_1),?_⟩;apply hN;clear hN N)));exact cZ (b:=false) (.inl rfl) (sd @g8) (by rw[qH,b2];rfl)
 rw[b2]at h2;(repeat(first|((repeat(revert N;apply g7));refine wk @ai.eq_1 ?_;repeat(apply g6;intro N hN))|((try apply i3);refine⟨_,au.x (h1) (sd @ai.eq_1),?_⟩;apply hN;clear hN N)|((try apply i3);refine⟨_,au.x (h2) (sd @ai.eq_1),?_⟩;apply hN;clear hN N)|((try apply i3);refine⟨_,au.x (h3) (sd @ai.eq_1),?_⟩;apply hN;clear hN N)));exact cZ (b:= !(l.any fun t=> !eE s t.bK)) (.inl rfl) (sd @g8) (by rw[IP,qH,b2];rfl)
theorem Jt (s:aE) (l:List aa):au Tryz.prog 63 [.dZ (ai s),.dZ [.sl (l.map ad)]] (.bool (qH s l)):=by
 refine au.body fx rfl fun hl n0=>?_
 have hlen:l.length<=9223372036854775807:=by
  have h1:=(hl (.dZ [.sl (l.map ad)]) (by simp)).FF (a:=.sl (l.map ad)) (by simp)
  simpa using h1.len
 clear hl;have h2:=BW l
 cases b2:p9 l
 ·rw[b2]at h2;(repeat(first|((repeat(revert N;apply g7));refine wk @g8 ?_;repeat(apply g6;intro N hN))|((try apply i3);refine⟨_,au.x (h2) (sd @g8),?_⟩;apply hN;clear hN N)));exact cZ (b:=false) (.inl rfl) (sd @g8) (by rw[qH,b2];rfl)
 rw[b2]at h2;(repeat(first|((repeat(revert N;apply g7));refine wk @g8 ?_;repeat(apply g6;intro N hN))|((try apply i3);refine⟨_,au.x (h2) (sd @g8),?_⟩;apply hN;clear hN N)));refine cj (fun n env st=>∃k:Nat,n=(l.length)-k/\k<=(l.length)/\env 5=.int .i64 (k:Int)/\(∀j:Nat,j<k->eE s (bc l j).bK=true)) (l.length) ⟨0,ae,ae,sl @g8,fun _ h=>absurd h (Nat.not_lt_zero _)⟩ ?_;rintro n_a m3 i8 ⟨k,rfl,ale,a5,qw⟩ eC;have a0:=eC 0 g9;have a1:=eC 1 g9;simp only[go_sem,↓reduceIte,Nat.reduceEqDiff,Nat.reduceAdd,Nat.reduceSub,Nat.reduceLeDiff,reduceCtorEq]at a0 a1;clear eC
 by_cases hk:(k:Int)<(l.length:Int)
 ·have dW:∀{e:Env},(e 5=.int .i64 (IntKind.i64.wrap ((k:Int)+1)))->(eE s (bc l k).bK=true)->∃m0,m0<(l.length)-k/\∃k:Nat,m0=(l.length)-k/\k<=(l.length)/\e 5=.int .i64 (k:Int)/\(∀j:Nat,j<k->eE s (bc l j).bK=true):=fun x1 x2=>⟨_,ae,k+1,rfl,ae,(by rw[x1,aZ ae]),(all_succ qw x2)⟩;have iD:k<l.length:=ae;have gm:=fZ iD;have ht:=zx s (bc l k).bK
  cases b3:eE s (bc l k).bK
  ·rw[b3]at ht
   (have zF:=tw6 @a5 @a0 @a1 @hk @gm @ad.eq_1;(repeat(first|((repeat(revert N;apply g7));refine wk zF ?_;repeat(apply g6;intro N hN))|((try apply i3);refine⟨_,au.x (ht) (sd zF),?_⟩;apply hN;clear hN N)));try clear zF)
   exact cZ (b:=false) (.inl rfl) (sd @g8) (by
    have:l.all (fun t=>eE s t.bK)=false:=List.all_eq_false.2 ⟨_,e7 iD,by rw[b3];simp⟩
    rw[qH,this,Bool.and_false])
  ·rw[b3]at ht
   (have zF:=tw6 @a5 @a0 @a1 @hk @gm @ad.eq_1;(repeat(first|((repeat(revert N;apply g7));refine wk zF ?_;repeat(apply g6;intro N hN))|((try apply i3);refine⟨_,au.x (ht) (sd zF),?_⟩;apply hN;clear hN N)));try clear zF)
   exact dW (sd (tw3 @a5 @a0 @a1)) (b3)
 ·(try((repeat(revert N;apply g7));refine wk (tw4 @a5 @a0 @a1 @hk) ?_;repeat(apply g6;intro N hN)))
  exact cZ (b:=true) (.inl rfl) (sd @g8) (by
   have:l.all (fun t=>eE s t.bK)=true:=List.all_eq_true.2 fun t ht=>by
    obtain⟨j,hj,rfl⟩:=List.getElem_of_mem ht;have:=qw j ae
    rwa [ev hj]at this
   rw[qH,b2,this];rfl)
theorem A6 (l:List aa) (hF:jr l) (i:Nat) (d:Int) (hi:i<l.length) (hd:jj d 0 3=true):au Tryz.prog 148 [.dZ [.sl (l.map ad)],.int .i64 i,.int .i64 d] (.int .i64 (ei l (bI (bc l i).aH d))):=by
 refine au.body fx rfl fun hl n0=>?_;clear hl;have hg:=fZ hi;have hp:=np (hF.pt hi);have h1:=rY (bc l i).aH d hd hp.1 hp.2;have h2:=tM l (bI (bc l i).aH d) hF.pH (by have:=hF.oG;omega);rw[ab]at h1 h2
 (have zF:=tw3 @ad.eq_1 @hg @ab.eq_1;(repeat(first|((repeat(revert N;apply g7));refine wk zF ?_;repeat(apply g6;intro N hN))|((try apply i3);refine⟨_,au.x (h1) (sd zF),?_⟩;apply hN;clear hN N)|((try apply i3);refine⟨_,au.x (h2) (sd zF),?_⟩;apply hN;clear hN N)));try clear zF)
 exact ed (b:=ei l (bI (bc l i).aH d)) (.inl rfl) (sd @g8) rfl
structure PB where
 a:Nat
 b:Nat
 s:Int
 deriving Inhabited
def capB (S:Nat->Bool) (bs:List PB):Int:=(bs.map fun b=>if S b.a=S b.b then 0 else b.s).sum
def Mt (n:Nat) (bs:List PB) (t:Int):Prop:=∀S:Nat->Bool,S 0=true->(∃y,y<n/\S y=false)->t<=capB S bs
def eS (L:Nat->Nat) (b:PB):Nat->Nat:=fun k=>if L k=max (L b.a) (L b.b)then min (L b.a) (L b.b)else L k
def fH (bs:List PB):Nat->Nat:=bs.foldl eS id
theorem zB (bs:List PB) (b:PB):fH (bs++[b])=eS (fH bs) b:=by simp[fH]
structure mh (L:Nat->Nat):Prop where
 le:∀k,L k<=k
 idem:∀k,L (L k)=L k
theorem mh.step {L:Nat->Nat} (h:mh L) (b:PB):mh (eS L b):=by
 have ha:=h.idem b.a;have hb:=h.idem b.b;refine⟨fun k=>?_,fun k=>?_⟩
 ·have:=h.le k;unfold eS
  split<;>omega
 ·have hk:=h.idem k
  have hm:L (min (L b.a) (L b.b))=min (L b.a) (L b.b):=by
   rcases Nat.le_total (L b.a) (L b.b)with h1|h1
   ·rw[Nat.min_eq_left h1,ha]
   ·rw[Nat.min_eq_right h1,hb]
  unfold eS
  by_cases h1:L k=max (L b.a) (L b.b)
  ·rw[if_pos h1,hm];split<;>rfl
  ·rw[if_neg h1,hk,if_neg h1]
theorem zC:∀(bs:List PB) (L:Nat->Nat),mh L->mh (bs.foldl eS L)
 |[],_,h=>h
 |b::bs,L,h=>zC bs _ (h.step b)
theorem BZ (bs:List PB):mh (fH bs):=zC bs id ⟨fun _=>Nat.le_refl _,fun _=>rfl⟩
def leads (n:Nat) (L:Nat->Nat):List Nat:=(List.range n).filter fun i=>L i==i
def members (n:Nat) (L:Nat->Nat) (i:Nat):List Nat:=(List.range n).filter fun k=>L k==i
def hZ (n:Nat) (L:Nat->Nat):List (List Nat):=(leads n L).map (members n L)
def dS (L:Nat->Nat) (k:Nat):Nat:=(leads (L k) L).length
theorem jo (n:Nat) (L:Nat->Nat):leads (n+1) L=leads n L++if L n=n then[n]else[]:=by
 unfold leads;rw[List.range_succ,List.filter_append]
 congr 1
 by_cases h:L n=n<;>simp[h]
theorem kP (n:Nat) (L:Nat->Nat) (i:Nat):members (n+1) L i=members n L i++if L n=i then[n]else[]:=by
 unfold members;rw[List.range_succ,List.filter_append]
 congr 1
 by_cases h:L n=i<;>simp[h]
theorem pA {L:Nat->Nat} (h:mh L) {n i:Nat} (hn:n<=i):members n L i=[]:=by
 unfold members;rw[List.filter_eq_nil_iff];intro k hk;have:=h.le k;have:=List.mem_range.1 hk
 simp;omega
theorem xG (n:Nat) (L:Nat->Nat):(leads n L).Nodup:=List.nodup_range.filter _
theorem B5 {n:Nat} {L:Nat->Nat} {i:Nat}:i∈leads n L↔i<n/\L i=i:=by simp[leads]
theorem nR {n:Nat} {L:Nat->Nat} {i k:Nat}:k∈members n L i↔k<n/\L k=i:=by simp[members]
theorem Lj {L:Nat->Nat} {m n:Nat} (h:m<=n):∃r,leads n L=leads m L++r:=by
 obtain⟨d,rfl⟩:=Nat.le.dest h;clear h
 induction d with
 |zero=>exact⟨[],by simp⟩
 |succ d ih=>
  obtain⟨r,hr⟩:=ih;exact⟨r++if L (m+d)=m+d then[m+d]else[],by rw[<-Nat.add_assoc,jo,hr,List.append_assoc]⟩
theorem rZ {L:Nat->Nat} (h:mh L) {n k:Nat} (hk:k<n):(leads n L)[dS L k]? =some (L k):=by
 have h1:=h.le k;obtain⟨r,hr⟩:=Lj (L:=L) (show L k+1<=n by omega);rw[hr,jo,if_pos (h.idem k),List.append_assoc];unfold dS;rw[List.getElem?_append_right i4,Nat.sub_self];rfl
theorem vk {L:Nat->Nat} (h:mh L) {n k:Nat} (hk:k<n):dS L k<(leads n L).length:=(List.getElem?_eq_some_iff.1 (rZ h hk)).1
theorem wU {L:Nat->Nat} (h:mh L) {n k i:Nat} (hk:k<n) (hi:i<(leads n L).length):k∈members n L (leads n L)[i]↔dS L k=i:=by
 rw[nR];have h1:=rZ h hk;rw[i5 (vk h hk)]at h1;injection h1 with h1
 constructor
 ·rintro⟨_,h2⟩;rw[<-h1]at h2;exact(List.getElem_inj (xG n L)).1 h2
 ·rintro rfl;exact⟨hk,h1.symm⟩
def fB (L:Nat->Nat) (bs:List PB):List PB:=bs.filterMap fun b=>if dS L b.a=dS L b.b then none else some ⟨dS L b.a,dS L b.b,b.s⟩
def iY (L:Nat->Nat) (bs:List PB):List PB:=bs.filterMap fun b=>if dS L b.a=dS L b.b then none else some ⟨min (dS L b.a) (dS L b.b),max (dS L b.a) (dS L b.b),b.s⟩
theorem DQ (L:Nat->Nat) (bs:List PB) (b:PB):fB L (bs++[b])=fB L bs++if dS L b.a=dS L b.b then[]else[⟨dS L b.a,dS L b.b,b.s⟩]:=by
 unfold fB;rw[List.filterMap_append]
 congr 1
 by_cases h:dS L b.a=dS L b.b<;>simp[h]
theorem DR (L:Nat->Nat) (bs:List PB) (b:PB):iY L (bs++[b])=iY L bs++if dS L b.a=dS L b.b then[]else[⟨min (dS L b.a) (dS L b.b),max (dS L b.a) (dS L b.b),b.s⟩]:=by
 unfold iY;rw[List.filterMap_append]
 congr 1
 by_cases h:dS L b.a=dS L b.b<;>simp[h]
theorem Ap (L:Nat->Nat) (bs:List PB):(fB L bs).length<=bs.length/\(iY L bs).length<=bs.length:=⟨List.length_filterMap_le ..,List.length_filterMap_le ..⟩
theorem lz (n:Nat) (L:Nat->Nat):(leads n L).length<=n:=by
 have:=List.length_filter_le (fun i=>L i==i) (List.range n)
 simpa[leads]using this
def bZ (t:Int) (bs:List PB):List PB:=bs.filter fun b=>decide (t<=b.s)
def CA (n:Nat) (bs:List PB) (t:Int):Prop:=
 (leads n (fH (bZ t bs))).length<=64/\Mt (leads n (fH (bZ t bs))).length (fB (fH (bZ t bs)) bs) t
def da (b:PB):List AV:=[.int .i64 b.a,.int .i64 b.b,.int .i64 b.s]
theorem TH:∀b:PB,(da b).length=3/\(da b).all AV.cell=true:=fun _=>⟨rfl,rfl⟩
theorem C3 (g:Rows) (n:Nat) (b:PB):eM g (n+1) (da b)=some (da b):=by simp[da,ah,aj,aL]
theorem yn (g:Rows) (n:Nat) (b:PB):fC g (n+1) (da b)=some (da b):=by simp[da,bR,cW,ec]
theorem M3:WR da (fun c=>.agg (da c)) 3 true:=⟨fun _=>rfl,fun _=>rfl,fun x g=>by simp only[da,ah,aj,bb,aL,Option.map_some]⟩
def lZ (s:aE) (l:List aa) (i:Nat) (d:Int):List PB:=
 if 0<=ei l (bI (bc l i).aH d)/\0<fQ s (bc l i).bK d (bc l (ei l (bI (bc l i).aH d)).toNat).bK then
  [⟨i,(ei l (bI (bc l i).aH d)).toNat,fQ s (bc l i).bK d (bc l (ei l (bI (bc l i).aH d)).toNat).bK⟩]else[]
def gL (s:aE) (l:List aa) (i m:Nat):List PB:=(List.range m).flatMap fun j:Nat=>lZ s l i (1-(j:Int))
def iV (s:aE) (l:List aa) (n:Nat):List PB:=(List.range n).flatMap fun i=>gL s l i 2
def eI (s:aE) (l:List aa):List PB:=iV s l l.length
theorem lI (s:aE) (l:List aa) (i m:Nat):gL s l i (m+1)=gL s l i m++lZ s l i (1-(m:Int)):=by simp[gL,List.range_succ]
theorem uw (s:aE) (l:List aa) (n:Nat):iV s l (n+1)=iV s l n++gL s l n 2:=by simp[iV,List.range_succ]
theorem Hc (s:aE) (l:List aa) (i:Nat) (d:Int):(lZ s l i d).length<=1:=by unfold lZ;split<;>simp
theorem uv (s:aE) (l:List aa) (i m:Nat):(gL s l i m).length<=m:=by
 induction m with
 |zero=>simp[gL]
 |succ m ih=>rw[lI,i6];have:=Hc s l i (1-(m:Int));omega
theorem xn (s:aE) (l:List aa) (n:Nat):(iV s l n).length<=2*n:=by
 induction n with
 |zero=>simp[iV]
 |succ n ih=>rw[uw,i6];have:=uv s l n 2;omega
def sB:Id->Prop:=fun o=>o.site=114001000∨o.site=114012006
theorem HT (s:aE) (l:List aa) (hS:kj s) (hA:fS s l):au Tryz.prog 114 [.dZ (ai s),.dZ [.sl (l.map ad)]] (.sl ((eI s l).map da)):=by
 refine au.body fx rfl fun hl n0=>?_;clear hl;have hF:=hA.1;have sM:=hF.oG;(try((repeat(revert N;apply g7));refine wk @g8 ?_;repeat(apply g6;intro N hN)));refine cj (fun n env st=>∃k:Nat,n=(l.length)-k/\k<=(l.length)/\env 6=.int .i64 (k:Int)/\(pc da 3 (env 5) st.get sB (iV s l k))) (l.length) ⟨0,ae,ae,sl @g8,⟨⟨114001000,n0+1⟩,.inl rfl,by simp only[go_sem,↓reduceIte,Nat.reduceEqDiff,Nat.reduceAdd,Nat.reduceSub,Nat.reduceLeDiff,reduceCtorEq];rfl,by simp only[go_sem,↓reduceIte,Nat.reduceEqDiff,Nat.reduceAdd,Nat.reduceSub,Nat.reduceLeDiff,reduceCtorEq];rfl⟩⟩ ?_;rintro n_a m3 i8 ⟨k,rfl,ale,a6,mD⟩ eC;have a0:=eC 0 g9;have a1:=eC 1 g9;simp only[go_sem,↓reduceIte,Nat.reduceEqDiff,Nat.reduceAdd,Nat.reduceSub,Nat.reduceLeDiff,reduceCtorEq]at a0 a1;clear eC
 by_cases hk:(k:Int)<(l.length:Int)
 ·have dW:∀{e:Env} {gg:Rows},(e 6=.int .i64 (IntKind.i64.wrap ((k:Int)+1)))->(pc da 3 (e 5) gg sB (iV s l (k+1)))->∃m0,m0<(l.length)-k/\∃k:Nat,m0=(l.length)-k/\k<=(l.length)/\e 6=.int .i64 (k:Int)/\(pc da 3 (e 5) gg sB (iV s l k)):=fun x1 x2=>⟨_,ae,k+1,rfl,ae,(by rw[x1,aZ ae]),x2⟩;have iD:k<l.length:=ae;have gm:=fZ iD;have Q3:=xn s l k;(try((repeat(revert N;apply g7));refine wk (tw4 @a6 @a0 @a1 @hk) ?_;repeat(apply g6;intro N hN)));refine cj (fun n env st=>∃m:Nat,n=(2)-m/\m<=(2)/\env 7=(.int .i64 (1-(m:Int)))/\(pc da 3 (env 5) st.get sB (iV s l k++gL s l k m))) (2) ⟨0,ae,ae,sl (tw3 @a6 @a0 @a1),by(simp only[go_sem,↓reduceIte,Nat.reduceEqDiff,Nat.reduceAdd,Nat.reduceSub,Nat.reduceLeDiff,reduceCtorEq];exact mD.cast (by simp[gL]))⟩ ?_;rintro n_b m4 i9 ⟨m,rfl,ble,b7,bI0⟩ eB;have b0:=eB 0 g9;have b1:=eB 1 g9;have b6:=eB 6 g9;simp only[go_sem,↓reduceIte,Nat.reduceEqDiff,Nat.reduceAdd,Nat.reduceSub,Nat.reduceLeDiff,reduceCtorEq,a6,a0,a1]at b0 b1 b6;clear eB;have SS:=uv s l k m;have nN:=lI s l k m
  by_cases hm:(m:Int)<2
  ·have ep:∀{e:Env} {gg:Rows},(e 7=(.int .i64 (1-((m+1):Int))))->(pc da 3 (e 5) gg sB (iV s l k++gL s l k (m+1)))->∃m0,m0<(2)-m/\∃m:Nat,m0=(2)-m/\m<=(2)/\e 7=(.int .i64 (1-(m:Int)))/\(pc da 3 (e 5) gg sB (iV s l k++gL s l k m)):=fun x1 x2=>⟨_,ae,m+1,rfl,ae,x1,x2⟩;have jV:(0:Int)<=1-(m:Int):=ae;have hd:jj (1-(m:Int)) 0 3=true:=jc ae;have hw:IntKind.i64.wrap (1-(m:Int)-1)=1-((m:Int)+1):=by rw[db ae];omega
   have hnb:=A6 l hF k (1-(m:Int)) iD hd;unfold lZ at nN;have hT:=hA.2 _ (e7 iD);generalize BM:ei l (bI (bc l k).aH (1-(m:Int)))=ix at *
   by_cases hi:ix<0
   ·rw[if_neg ae,List.append_nil]at nN
    (have zF:=tw7 @b7 @b0 @b1 @b6 @jV @hw @hi;(repeat(first|((repeat(revert N;apply g7));refine wk zF ?_;repeat(apply g6;intro N hN))|((try apply i3);refine⟨_,au.x (hnb) (sd zF),?_⟩;apply hN;clear hN N)));try clear zF)
    exact ep (sd (tw5 @b7 @b0 @b1 @b6 @hw)) (by(simp only[go_sem,↓reduceIte,Nat.reduceEqDiff,Nat.reduceAdd,Nat.reduceSub,Nat.reduceLeDiff,reduceCtorEq];exact bI0.cast (by rw[nN])))
   ·have Me:0<=ix:=ae;have US:=iz (l:=l) (p:=bI (bc l k).aH (1-(m:Int))) ae;rw[BM]at US;have ll:=fZ US.1;have Eh:=BV s hS (bc l k).bK (1-(m:Int)) (bc l ix.toNat).bK hT (hA.2 _ (e7 US.1)) hd;generalize hbv:fQ s (bc l k).bK (1-(m:Int)) (bc l ix.toNat).bK=bv at *
    by_cases hb:0<bv
    ·rw[if_pos ⟨Me,hb⟩]at nN;(repeat(first|((repeat(revert N;apply g7));refine wa (tw9 @b7 @b0 @b1 @b6 @jV @hw @hi @Me (tw4 @gm @ll @hb @ad.eq_1)) ?_;repeat(apply g6;intro N hN))|((try apply i3);refine⟨_,au.x (hnb) (sd (tw9 @b7 @b0 @b1 @b6 @jV @hw @hi @Me (tw4 @gm @ll @hb @ad.eq_1))),?_⟩;apply hN;clear hN N)|((try apply i3);refine⟨_,au.x (Eh) (sd (tw9 @b7 @b0 @b1 @b6 @jV @hw @hi @Me (tw4 @gm @ll @hb @ad.eq_1))),?_⟩;apply hN;clear hN N)));refine VT (enc:=da) (S:=sB) (L:=iV s l k++gL s l k m) (xv:=m4 5) [⟨k,ix.toNat,bv⟩] rfl rfl (sd @g8) (bI0.frame fun o ho=>by rcases ho with ho|ho<;>simp only[go_sem,↓reduceIte,Nat.reduceEqDiff,Nat.reduceAdd,Nat.reduceSub,Nat.reduceLeDiff,reduceCtorEq,DS ho]) (sd (tw @da.eq_1 (Int.toNat_of_nonneg Me))) TH (.inr rfl) (by simp only[dj,i6,List.length_cons,List.length_nil];omega) fun v g' hO gQ=>?_;rw[List.append_assoc,<-nN]at hO;clear gQ;(try((repeat(revert N;apply g7));refine wk (tw5 @b7 @b0 @b1 @b6 @hw) ?_;repeat(apply g6;intro N hN)));exact ep (sd (tw5 @b7 @b0 @b1 @b6 @hw)) (by(simp only[go_sem,↓reduceIte,Nat.reduceEqDiff,Nat.reduceAdd,Nat.reduceSub,Nat.reduceLeDiff,reduceCtorEq];exact hO))
    ·rw[if_neg fun h=>hb h.2,List.append_nil]at nN
     (have zF:=tw9 @b7 @b0 @b1 @b6 @jV @hw @hi @Me (tw4 @gm @ll @hb @ad.eq_1);(repeat(first|((repeat(revert N;apply g7));refine wk zF ?_;repeat(apply g6;intro N hN))|((try apply i3);refine⟨_,au.x (hnb) (sd zF),?_⟩;apply hN;clear hN N)|((try apply i3);refine⟨_,au.x (Eh) (sd zF),?_⟩;apply hN;clear hN N)));try clear zF)
     exact ep (sd (tw5 @b7 @b0 @b1 @b6 @hw)) (by(simp only[go_sem,↓reduceIte,Nat.reduceEqDiff,Nat.reduceAdd,Nat.reduceSub,Nat.reduceLeDiff,reduceCtorEq];exact bI0.cast (by rw[nN])))
  ·have HK:m=2:=ae;subst HK;have eG:¬(0:Int)<=1-((2:Nat):Int):=ae;(try((repeat(revert N;apply g7));refine wk (tw5 @b7 @b0 @b1 @b6 @eG) ?_;repeat(apply g6;intro N hN)));exact dW (sd (tw7 @a6 @a0 @a1 @b7 @b0 @b1 @b6)) (by(simp only[go_sem,↓reduceIte,Nat.reduceEqDiff,Nat.reduceAdd,Nat.reduceSub,Nat.reduceLeDiff,reduceCtorEq];exact bI0.cast (by rw[uw])))
 ·have l8:k=l.length:=ae;(try((repeat(revert N;apply g7));refine wk (tw4 @a6 @a0 @a1 @hk) ?_;repeat(apply g6;intro N hN)));exact oP (.inl rfl) (by simp only[go_sem,↓reduceIte,Nat.reduceEqDiff,Nat.reduceAdd,Nat.reduceSub,Nat.reduceLeDiff,reduceCtorEq];rfl) (by rw[l8]at mD;exact mD.iG fun b=>yn _ _ b)
theorem FL (a b:Nat):au Tryz.prog 147 [.int .i64 a,.int .i64 b] (.int .i64 (min a b:Nat)):=by
 refine au.body fx rfl fun hl n0=>?_;clear hl
 by_cases h:(a:Int)<(b:Int)
 ·(try((repeat(revert N;apply g7));refine wk @h ?_;repeat(apply g6;intro N hN)));exact ed (b:=(a:Int)) (.inl rfl) (sd @g8) ae
 ·(try((repeat(revert N;apply g7));refine wk @h ?_;repeat(apply g6;intro N hN)));exact ed (b:=(b:Int)) (.inl rfl) (sd @g8) ae
theorem FK (a b:Nat):au Tryz.prog 37 [.int .i64 a,.int .i64 b] (.int .i64 (max a b:Nat)):=by
 refine au.body fx rfl fun hl n0=>?_;clear hl
 by_cases h:(b:Int)<(a:Int)
 ·(try((repeat(revert N;apply g7));refine wk @h ?_;repeat(apply g6;intro N hN)));exact ed (b:=(a:Int)) (.inl rfl) (sd @g8) ae
 ·(try((repeat(revert N;apply g7));refine wk @h ?_;repeat(apply g6;intro N hN)));exact ed (b:=(b:Int)) (.inl rfl) (sd @g8) ae
def fo (f:Nat->Nat) (n:Nat):List (List AV):=(List.range n).map fun i=>eN (f i)
theorem jH (f:Nat->Nat) (n:Nat):(fo f n).length=n:=by simp[fo]
theorem iZ {f:Nat->Nat} {n i:Nat} (h:i<n):(fo f n)[i]? =some (eN (f i)):=by simp[fo,h]
theorem kE {f g:Nat->Nat} {n:Nat} (h:∀i,i<n->f i=g i):fo f n=fo g n:=List.map_congr_left fun i hi=>by rw[h i (List.mem_range.1 hi)]
theorem yE {f g:Nat->Nat} {n k v:Nat} (hk:k<n) (hv:g k=v) (h:∀i,i<n->i≠k->g i=f i):(fo f n).set k (eN v)=fo g n:=by
 refine List.ext_getElem? fun i=>?_;rw[List.getElem?_set]
 by_cases hi:k=i
 ·subst hi;rw[if_pos rfl,jH,if_pos hk,iZ hk,hv]
 ·rw[if_neg hi]
  by_cases jI:i<n
  ·rw[iZ jI,iZ jI,h i jI (fun h=>hi h.symm)]
  ·rw[List.getElem?_eq_none (by rw[jH];omega),List.getElem?_eq_none (by rw[jH];omega)]
theorem FN (cnt:Nat) (hn:cnt<=1048576) (bs:List PB) (hb:∀b∈bs,b.a<cnt/\b.b<cnt) (iy:bs.length<=1048576):au Tryz.prog 146 [.int .i64 cnt,.sl (bs.map da)] (.sl ((hZ cnt (fH bs)).map Ed)):=by
 refine au.body fx rfl fun hl n0=>?_;clear hl;(try((repeat(revert N;apply g7));refine wk @g8 ?_;repeat(apply g6;intro N hN)));refine cj (fun n env st=>∃k:Nat,n=(cnt)-k/\k<=(cnt)/\env 6=.int .i64 (k:Int)/\(∃o:Id,env 5=.own o 0 k/\st.get o=some ⟨true,1,fo id k⟩/\o.bH<st.next)) (cnt) ⟨0,ae,ae,sl @g8,⟨⟨146001000,n0+1⟩,sd @g8,by simp only[go_sem,↓reduceIte,Nat.reduceEqDiff,Nat.reduceAdd,Nat.reduceSub,Nat.reduceLeDiff,reduceCtorEq];rfl,aI⟩⟩ ?_;rintro n_a m3 i8 ⟨k,rfl,ale,a6,mD⟩ eC;have a0:=eC 0 g9;have a1:=eC 1 g9;simp only[go_sem,↓reduceIte,Nat.reduceEqDiff,Nat.reduceAdd,Nat.reduceSub,Nat.reduceLeDiff,reduceCtorEq]at a0 a1;clear eC;obtain⟨o,a5,ag,qd⟩:=mD;have tl:=jH id k;have wi:=cR qd
 by_cases hk:(k:Int)<(cnt:Int)
 ·have dW:∀{e:Env} {gg:Rows} {nx:Nat},(e 6=.int .i64 (IntKind.i64.wrap ((k:Int)+1)))->(∃o:Id,e 5=.own o 0 (k+1)/\gg o=some ⟨true,1,fo id (k+1)⟩/\o.bH<nx)->∃m0,m0<(cnt)-k/\∃k:Nat,m0=(cnt)-k/\k<=(cnt)/\e 6=.int .i64 (k:Int)/\(∃o:Id,e 5=.own o 0 k/\gg o=some ⟨true,1,fo id k⟩/\o.bH<nx):=fun x1 x2=>⟨_,ae,k+1,rfl,ae,(by rw[x1,aZ ae]),x2⟩;have iD:k<cnt:=ae;have e1:k+1<=16777216:=ae;have AY:fo id k++[[.int .i64 (k:Int)]]=fo id (k+1):=by simp[fo,List.range_succ,eN]
  (try((repeat(revert N;apply g7));refine wk (tw9 @a6 @a0 @a1 @a5 @ag @wi @hk @tl (tw @e1 @AY)) ?_;repeat(apply g6;intro N hN)));exact dW (sd (tw3 @a6 @a0 @a1)) (⟨⟨146005003,i8.next+1⟩,sd @g8,sd @AY,aI⟩)
 have l8:k=cnt:=ae;subst l8;have ho4:i8.get o=some ⟨true,1,fo (fH (bs.take 0)) k⟩:=ag;clear ag;(try((repeat(revert N;apply g7));refine wk (tw4 @a6 @a0 @a1 @hk) ?_;repeat(apply g6;intro N hN)));refine cj (fun n env st=>∃j:Nat,n=(bs.length)-j/\j<=(bs.length)/\env 7=.int .i64 (j:Int)/\st.get o=some ⟨true,1,fo (fH (bs.take j)) k⟩/\(o.bH<st.next)) (bs.length) ⟨0,ae,ae,sl (tw5 @a6 @a0 @a1 @a5 @ho4),sl (tw5 @a6 @a0 @a1 @a5 @ho4),aI⟩ ?_;rintro n_b m4 i9 ⟨j,rfl,ble,b7,bg0,bI0⟩ eB;have b0:=eB 0 g9;have b1:=eB 1 g9;have b5:=eB 5 g9;simp only[go_sem,↓reduceIte,Nat.reduceEqDiff,Nat.reduceAdd,Nat.reduceSub,Nat.reduceLeDiff,reduceCtorEq,a6,a0,a1,a5,ho4]at b0 b1 b5;clear eB
 by_cases hj:(j:Int)<(bs.length:Int)
 ·have ep:∀{e:Env} {gg:Rows} {nx:Nat},(e 7=.int .i64 (IntKind.i64.wrap ((j:Int)+1)))->(gg o=some ⟨true,1,fo (fH (bs.take (j+1))) k⟩)->(o.bH<nx)->∃m0,m0<(bs.length)-j/\∃j:Nat,m0=(bs.length)-j/\j<=(bs.length)/\e 7=.int .i64 (j:Int)/\gg o=some ⟨true,1,fo (fH (bs.take j)) k⟩/\(o.bH<nx):=fun x1 x2 x3=>⟨_,ae,j+1,rfl,ae,(by rw[x1,aZ ae]),x2,x3⟩;have oy:j<bs.length:=ae;have zo:(bs.map da)[j]? =some (da bs[j]):=by simp[oy]
  have QN:=hb _ (List.getElem_mem oy);have lh:bs.take (j+1)=bs.take j++[bs[j]]:=List.take_succ_eq_append_getElem oy;have nN:fH (bs.take (j+1))=eS (fH (bs.take j)) bs[j]:=by rw[lh,zB]
  generalize fH (bs.take j)=L at *;generalize bs[j]=b at *;have hA:=iZ (f:=L) QN.1;have hB:=iZ (f:=L) QN.2;have hMn:=FL (L b.a) (L b.b);have hMx:=FK (L b.a) (L b.b);have tl:=jH L k;have Fg:(b.a:Int)<(k:Int):=ae;have qc:(b.b:Int)<(k:Int):=ae;(try((repeat(revert N;apply g7));refine wk (tw9 @b7 @bg0 @b0 @b1 @b5 @hj @zo @da.eq_1 (tw6 @hA @hB @Fg @qc @tl @eN.eq_1)) ?_;repeat(apply g6;intro N hN)));refine cj (fun n env st=>∃i:Nat,n=(k)-i/\i<=(k)/\env 10=.int .i64 (i:Int)/\st.get o=some ⟨true,1,fo (fun x=>if x<i then eS L b x else L x) k⟩/\(o.bH<st.next)) (k) ⟨0,ae,ae,sl (tw6 @b7 @bg0 @b0 @b1 @b5 @Nat.not_lt_zero),sl (tw6 @b7 @bg0 @b0 @b1 @b5 @Nat.not_lt_zero),aI⟩ ?_;rintro n_c m7 m6 ⟨i,rfl,cle,jX,cg0,cI0⟩ jN;have c0:=jN 0 g9;have c1:=jN 1 g9;have c5:=jN 5 g9;have c7:=jN 7 g9;have c8:=jN 8 g9;have c9:=jN 9 g9;simp only[go_sem,↓reduceIte,Nat.reduceEqDiff,Nat.reduceAdd,Nat.reduceSub,Nat.reduceLeDiff,reduceCtorEq,b7,bg0,b0,b1,b5,Nat.not_lt_zero]at c0 c1 c5 c7 c8 c9;clear jN;have hC:=iZ (f:=fun x=>if x<i then eS L b x else L x) (n:=k) (i:=i);have tc:=jH (fun x=>if x<i then eS L b x else L x) k
  by_cases hi:(i:Int)<(k:Int)
  ·have jf:∀{e:Env} {gg:Rows} {nx:Nat},(e 10=.int .i64 (IntKind.i64.wrap ((i:Int)+1)))->(gg o=some ⟨true,1,fo (fun x=>if x<(i+1)then eS L b x else L x) k⟩)->(o.bH<nx)->∃m0,m0<(k)-i/\∃i:Nat,m0=(k)-i/\i<=(k)/\e 10=.int .i64 (i:Int)/\gg o=some ⟨true,1,fo (fun x=>if x<i then eS L b x else L x) k⟩/\(o.bH<nx):=fun x1 x2 x3=>⟨_,ae,i+1,rfl,ae,(by rw[x1,aZ ae]),x2,x3⟩;have jI:i<k:=ae;replace hC:=hC jI;rw[if_neg (Nat.lt_irrefl i)]at hC
   by_cases he:L i=max (L b.a) (L b.b)
   ·have sY:decide ((L i:Int)=((max (L b.a) (L b.b):Nat):Int))=true:=decide_eq_true (by rw[he])
    have fV:(fo (fun x=>if x<i then eS L b x else L x) k).set i (eN (min (L b.a) (L b.b)))=fo (fun x=>if x<i+1 then eS L b x else L x) k:=yE jI (by rw[if_pos ae,eS,if_pos he]) fun x hx Te=>by
     by_cases h:x<i
     ·rw[if_pos h,if_pos ae]
     ·rw[if_neg h,if_neg ae]
    rw[eN]at fV hC
    (have zF:=tw9 @jX @cg0 @c0 @c1 @c5 @c7 @c8 @c9 (tw5 @hi @hC @tc @sY @fV);(repeat(first|((repeat(revert N;apply g7));refine wk zF ?_;repeat(apply g6;intro N hN))|((try apply i3);refine⟨_,au.x (hMn) (sd zF),?_⟩;apply hN;clear hN N)|((try apply i3);refine⟨_,au.x (hMx) (sd zF),?_⟩;apply hN;clear hN N)));try clear zF)
    refine jf ?_ ?_ aI
    all_goals simp only[go_sem,↓reduceIte,Nat.reduceEqDiff,Nat.reduceAdd,Nat.reduceSub,Nat.reduceLeDiff,reduceCtorEq,jX,cg0,c0,c1,c5,c7,c8,c9]
   ·have sY:decide ((L i:Int)=((max (L b.a) (L b.b):Nat):Int))=false:=decide_eq_false fun h=>he ae
    have Jk:fo (fun x=>if x<i then eS L b x else L x) k=fo (fun x=>if x<i+1 then eS L b x else L x) k:=kE fun x hx=>by
     by_cases h:x<i
     ·rw[if_pos h,if_pos ae]
     ·by_cases Te:x=i
      ·subst Te;rw[if_neg h,if_pos ae,eS,if_neg he]
      ·rw[if_neg h,if_neg ae]
    rw[eN]at hC
    (have zF:=tw9 @jX @cg0 @c0 @c1 @c5 @c7 @c8 @c9 (tw4 @hi @hC @tc @sY);(repeat(first|((repeat(revert N;apply g7));refine wk zF ?_;repeat(apply g6;intro N hN))|((try apply i3);refine⟨_,au.x (hMn) (sd zF),?_⟩;apply hN;clear hN N)|((try apply i3);refine⟨_,au.x (hMx) (sd zF),?_⟩;apply hN;clear hN N)));try clear zF)
    rw[Jk]at cg0;refine jf ?_ ?_ aI
    all_goals simp only[go_sem,↓reduceIte,Nat.reduceEqDiff,Nat.reduceAdd,Nat.reduceSub,Nat.reduceLeDiff,reduceCtorEq,jX,cg0,c0,c1,c5,c7,c8,c9]
  ·have BL:i=k:=ae;subst BL;have fy:fo (fun x=>if x<i then eS L b x else L x) i=fo (eS L b) i:=kE fun x hx=>if_pos hx;rw[fy]at cg0;rw[<-nN]at cg0;(try((repeat(revert N;apply g7));refine wk (tw9 @jX @cg0 @c0 @c1 @c5 @c7 @c8 @c9 (tw @hi @tc)) ?_;repeat(apply g6;intro N hN)));refine ep ?_ ?_ aI
   all_goals simp only[go_sem,↓reduceIte,Nat.reduceEqDiff,Nat.reduceAdd,Nat.reduceSub,Nat.reduceLeDiff,reduceCtorEq,b7,bg0,b0,b1,b5,jX,cg0,c0,c1,c5,c7,c8,c9]
 have iL:j=bs.length:=ae;subst iL;rw[List.take_length]at bg0;have hL:=BZ bs;generalize fH bs=L at *;have tl:=jH L k;(try((repeat(revert N;apply g7));refine wk (tw6 @b7 @bg0 @b0 @b1 @b5 @hj) ?_;repeat(apply g6;intro N hN)));have P4:o.bH<i9.next:=bI0;refine cj (fun n env st=>∃i:Nat,n=(k)-i/\i<=(k)/\env 12=.int .i64 (i:Int)/\st.get o=some ⟨true,1,fo L k⟩/\(∃oo rows ids,env 11=.own oo 0 rows.length/\st.get oo=some ⟨true,1,rows⟩/\iS WT st.get rows ((leads i L).map (members k L)) ids/\(∀x∈oo::ids,i9.next<=x.bH/\x.bH<st.next)/\i9.next<=st.next/\oo∉ids)) (k) ⟨0,ae,ae,sl (tw6 @b7 @bg0 @b0 @b1 @b5 (cR P4)),sl (tw6 @b7 @bg0 @b0 @b1 @b5 (cR P4)),⟨⟨146016000,i9.next+1⟩,[],[],by(simp only[go_sem,↓reduceIte,Nat.reduceEqDiff,Nat.reduceAdd,Nat.reduceSub,Nat.reduceLeDiff,reduceCtorEq])<;>rfl,sd @g8,.nil,fun x hx=>by rw[List.mem_singleton.1 hx];(try dsimp only);omega,aI,by simp⟩⟩ ?_;rintro n_d env_d st_d ⟨i,rfl,dle,d12,dg0,dI0⟩ dfr;have d0:=dfr 0 g9;have d5:=dfr 5 g9;simp only[go_sem,↓reduceIte,Nat.reduceEqDiff,Nat.reduceAdd,Nat.reduceSub,Nat.reduceLeDiff,reduceCtorEq,b7,bg0,b0,b1,b5,cR P4]at d0 d5;clear dfr;obtain⟨oo,rows,ids,d11,dg,hR,Dk,hle,j3⟩:=dI0;have AY:=jo i L;have AW:=hR.len
 by_cases hi:(i:Int)<(k:Int)
 ·have xI:∀{e:Env} {gg:Rows} {nx:Nat},(e 12=.int .i64 (IntKind.i64.wrap ((i:Int)+1)))->(gg o=some ⟨true,1,fo L k⟩)->(∃oo rows ids,e 11=.own oo 0 rows.length/\gg oo=some ⟨true,1,rows⟩/\iS WT gg rows ((leads (i+1) L).map (members k L)) ids/\(∀x∈oo::ids,i9.next<=x.bH/\x.bH<nx)/\i9.next<=nx/\oo∉ids)->∃m0,m0<(k)-i/\∃i:Nat,m0=(k)-i/\i<=(k)/\e 12=.int .i64 (i:Int)/\gg o=some ⟨true,1,fo L k⟩/\(∃oo rows ids,e 11=.own oo 0 rows.length/\gg oo=some ⟨true,1,rows⟩/\iS WT gg rows ((leads i L).map (members k L)) ids/\(∀x∈oo::ids,i9.next<=x.bH/\x.bH<nx)/\i9.next<=nx/\oo∉ids):=fun x1 x2 x3=>⟨_,ae,i+1,rfl,ae,(by rw[x1,aZ ae]),x2,x3⟩;have jI:i<k:=ae;have hC:=iZ (f:=L) jI;have ml:=cR (i:=o) (n:=st_d.next) ae;have YV:=cR (i:=oo) (n:=st_d.next) (Dk oo (by simp)).2
  by_cases he:L i=i
  ·rw[if_pos he]at AY;have sY:decide ((L i:Int)=(i:Int))=true:=decide_eq_true (by rw[he]);rw[eN]at hC;(try((repeat(revert N;apply g7));refine wk (tw9 @d12 @dg0 @d0 @d5 @d11 @dg @hi @hC (tw4 @tl @sY @ml @YV)) ?_;repeat(apply g6;intro N hN)));refine cj (fun n env st=>∃m:Nat,n=((k-i))-m/\m<=((k-i))/\env 14=(.int .i64 ((i+m:Nat):Int))/\(∃pp:Id,env 13=.own pp 0 (members (i+m) L i).length/\st.get pp=some ⟨true,1,(members (i+m) L i).map eN⟩/\st_d.next<=pp.bH/\pp.bH<st.next/\(∀x:Id,x.bH<st_d.next->st.get x=st_d.get x)/\st_d.next<=st.next)) ((k-i)) ⟨0,ae,ae,sl (tw5 @d12 @dg0 @d0 @d5 @d11),⟨⟨146021000,st_d.next+1+1⟩,by rw[show members (i+0) L i=[]from pA hL (Nat.le_refl i)];(simp only[go_sem,↓reduceIte,Nat.reduceEqDiff,Nat.reduceAdd,Nat.reduceSub,Nat.reduceLeDiff,reduceCtorEq])<;>rfl,by rw[show members (i+0) L i=[]from pA hL (Nat.le_refl i)];(simp only[go_sem,↓reduceIte,Nat.reduceEqDiff,Nat.reduceAdd,Nat.reduceSub,Nat.reduceLeDiff,reduceCtorEq])<;>rfl,aI,aI,fun x hx=>sd (cR hx),aI⟩⟩ ?_;rintro n_f env_f st_f ⟨m,rfl,fle,f14,fI0⟩ ffr;have f0:=ffr 0 g9;have f5:=ffr 5 g9;have f11:=ffr 11 g9;have f12:=ffr 12 g9;simp only[go_sem,↓reduceIte,Nat.reduceEqDiff,Nat.reduceAdd,Nat.reduceSub,Nat.reduceLeDiff,reduceCtorEq,d12,dg0,d0,d5,d11]at f0 f5 f11 f12;clear ffr;obtain⟨pp,f13,fg,YL,Ji,gQ,lL⟩:=fI0;have sZ:st_f.get o=some ⟨true,1,fo L k⟩:=(gQ o ae).trans dg0;have hgoo:st_f.get oo=some ⟨true,1,rows⟩:=(gQ oo (Dk oo (by simp)).2).trans dg;have zr:=cR Ji;have NV:=cR (i:=o) (n:=st_f.next) ae;have YW:=cR (i:=oo) (n:=st_f.next) (by have:=(Dk oo (by simp)).2;omega);have QX:members (i+(m+1)) L i=members (i+m) L i++if L (i+m)=i then[i+m]else[]:=kP (i+m) L i
   have hmle:(members (i+m) L i).length<=i+m:=by
    have:=List.length_filter_le (fun k=>L k==i) (List.range (i+m))
    simpa[members]using this
   have x1:=ew (a:=o) (b:=pp) ae;have x2:=ew (a:=oo) (b:=pp) (by have:=(Dk oo (by simp)).2;omega);have x3:=ew (a:=o) (b:=oo) (by have:=(Dk oo (by simp)).1;omega)
   by_cases hm:m<k-i
   ·have qh:∀{e:Env} {gg:Rows} {nx:Nat},(e 14=(.int .i64 ((i+(m+1):Nat):Int)))->(∃pp:Id,e 13=.own pp 0 (members (i+(m+1)) L i).length/\gg pp=some ⟨true,1,(members (i+(m+1)) L i).map eN⟩/\st_d.next<=pp.bH/\pp.bH<nx/\(∀x:Id,x.bH<st_d.next->gg x=st_d.get x)/\st_d.next<=nx)->∃m0,m0<((k-i))-m/\∃m:Nat,m0=((k-i))-m/\m<=((k-i))/\e 14=(.int .i64 ((i+m:Nat):Int))/\(∃pp:Id,e 13=.own pp 0 (members (i+m) L i).length/\gg pp=some ⟨true,1,(members (i+m) L i).map eN⟩/\st_d.next<=pp.bH/\pp.bH<nx/\(∀x:Id,x.bH<st_d.next->gg x=st_d.get x)/\st_d.next<=nx):=fun x1 x2=>⟨_,ae,m+1,rfl,ae,x1,x2⟩;have hmt:((i+m:Nat):Int)<(k:Int):=ae;have hCm:=iZ (f:=L) (show i+m<k by omega);have hw:IntKind.i64.wrap (((i+m:Nat):Int)+1)=((i+(m+1):Nat):Int):=by rw[db ae];omega
    rw[eN]at hCm
    by_cases hq:L (i+m)=i
    ·have rW:decide ((L (i+m):Int)=(i:Int))=true:=decide_eq_true (by rw[hq]);rw[if_pos hq]at QX;have e1:(members (i+m) L i).length+1<=16777216:=ae;have eW:((members (i+m) L i).map eN).length=(members (i+m) L i).length:=by simp
     (try((repeat(revert N;apply g7));refine wk (tw9 @f14 @f0 @f5 @f11 @f12 @f13 @fg @sZ (tw9 @hmt @hCm @tl @rW @zr @NV @x1 @e1 @eW)) ?_;repeat(apply g6;intro N hN)))
     exact qh (sd (tw9 @f14 @f0 @f5 @f11 @f12 @sZ @hw @NV @x1)) (⟨⟨146026003,st_f.next+1+1⟩,by rw[QX,i6];simp only[go_sem,↓reduceIte,Nat.reduceEqDiff,Nat.reduceAdd,Nat.reduceSub,Nat.reduceLeDiff,reduceCtorEq,List.length_cons,List.length_nil],by rw[QX,List.map_append,List.map_cons,List.map_nil];simp only[go_sem,↓reduceIte,Nat.reduceEqDiff,Nat.reduceAdd,Nat.reduceSub,Nat.reduceLeDiff,reduceCtorEq,eN],aI,aI,fun x hx=>by
      have y1:=gQ x hx;have y2:=ew (a:=x) (b:=pp) ae
      simp only[go_sem,↓reduceIte,Nat.reduceEqDiff,Nat.reduceAdd,Nat.reduceSub,Nat.reduceLeDiff,reduceCtorEq,cR (show x.bH<st_f.next by omega),y1,y2],aI⟩)
    ·have rW:decide ((L (i+m):Int)=(i:Int))=false:=decide_eq_false fun h=>hq ae;rw[if_neg hq,List.append_nil]at QX;(try((repeat(revert N;apply g7));refine wk (tw9 @f14 @f0 @f5 @f11 @f12 @f13 @fg @sZ (tw7 @hmt @hCm @tl @rW @zr @NV @x1)) ?_;repeat(apply g6;intro N hN)));exact qh (sd (tw7 @f14 @f0 @f5 @f11 @f12 @sZ @hw)) (⟨pp,by rw[QX];simp only[go_sem,↓reduceIte,Nat.reduceEqDiff,Nat.reduceAdd,Nat.reduceSub,Nat.reduceLeDiff,reduceCtorEq,f13],by rw[QX];simp only[go_sem,↓reduceIte,Nat.reduceEqDiff,Nat.reduceAdd,Nat.reduceSub,Nat.reduceLeDiff,reduceCtorEq,fg],YL,aI,gQ,aI⟩)
   ·have hmk:i+m=k:=ae;have hmt:¬((i+m:Nat):Int)<(k:Int):=ae;rw[hmk]at f13 fg hmle
    have e1:rows.length+1<=16777216:=by
     have:=lz i L;rw[AW,List.length_map];omega
    (try((repeat(revert N;apply g7));refine wk (tw9 @f14 @f0 @f5 @f11 @f12 @f13 @fg @sZ (tw8 @hgoo @hmt @zr @NV @YW @x1 @x2 @e1)) ?_;repeat(apply g6;intro N hN)))
    refine xI ?_ ?_ (⟨⟨146027003,st_f.next+1⟩,rows++[[.own pp 0 (members k L i).length]],ids++[pp],by rw[i6];simp only[go_sem,↓reduceIte,Nat.reduceEqDiff,Nat.reduceAdd,Nat.reduceSub,Nat.reduceLeDiff,reduceCtorEq,List.length_cons,List.length_nil],sd @g8,by
      rw[AY,List.map_append];refine(hR.frame Vl fun x hx=>?_).app (.one ⟨pp,rfl,?_,rfl⟩)
      ·have h1:=Dk x (by simp[hx]);have y1:=gQ x h1.2;have y2:=ew (a:=x) (b:=pp) ae
       have y3:(x=oo)=False:=by
        simp only[eq_iff_iff,iff_false];rintro rfl;exact j3 hx
       simp only[go_sem,↓reduceIte,Nat.reduceEqDiff,Nat.reduceAdd,Nat.reduceSub,Nat.reduceLeDiff,reduceCtorEq,cR (show x.bH<st_f.next by omega),y1,y2,y3]
      ·simp only[go_sem,↓reduceIte,Nat.reduceEqDiff,Nat.reduceAdd,Nat.reduceSub,Nat.reduceLeDiff,reduceCtorEq,zr,x2,fg],fun x hx=>by
      rcases List.mem_cons.1 hx with rfl|hx
      ·(try dsimp only);omega
      ·rcases List.mem_append.1 hx with hx|hx
       ·have:=Dk x (by simp[hx]);(try dsimp only);omega
       ·rw[List.mem_singleton.1 hx];(try dsimp only);omega,aI,fun hc=>by
      rcases List.mem_append.1 hc with hc|hc
      ·have:=(Dk _ (List.mem_cons_of_mem _ hc)).2;(try dsimp only at this);omega
      ·have:=List.mem_singleton.1 hc;rw[<-this]at Ji;(try dsimp only at Ji);omega⟩)
    all_goals simp only[go_sem,↓reduceIte,Nat.reduceEqDiff,Nat.reduceAdd,Nat.reduceSub,Nat.reduceLeDiff,reduceCtorEq,f14,f0,f5,f11,f12,sZ,NV,x3]
  ·rw[if_neg he,List.append_nil]at AY;have sY:decide ((L i:Int)=(i:Int))=false:=decide_eq_false fun h=>he ae;rw[eN]at hC;(try((repeat(revert N;apply g7));refine wk (tw9 @d12 @dg0 @d0 @d5 @d11 @dg @hi @hC (tw4 @tl @sY @ml @YV)) ?_;repeat(apply g6;intro N hN)));refine xI ?_ ?_ (⟨oo,rows,ids,sd @d11,sd @dg,by rw[AY];exact hR,fun x hx=>by have:=Dk x hx;(try dsimp only);omega,aI,j3⟩)
   all_goals simp only[go_sem,↓reduceIte,Nat.reduceEqDiff,Nat.reduceAdd,Nat.reduceSub,Nat.reduceLeDiff,reduceCtorEq,d12,dg0,d0,d5]
 ·have BL:i=k:=ae;(try((repeat(revert N;apply g7));refine wk (tw7 @d12 @dg0 @d0 @d5 @d11 @dg @hi) ?_;repeat(apply g6;intro N hN)));refine oP (.inl rfl) (by simp only[go_sem,↓reduceIte,Nat.reduceEqDiff,Nat.reduceAdd,Nat.reduceSub,Nat.reduceLeDiff,reduceCtorEq];rfl) ?_;rw[uK dg (by simp) (rows':=(hZ k L).map Ed) (by rw[List.drop_zero,List.take_of_length_le i4];rw[BL]at hR;exact Om 3 hR)]
theorem Au (n:Nat):List.replicate n [AV.int .i64 0]=fo (fun _=>0) n:=by
 refine List.ext_getElem? fun i=>?_
 by_cases h:i<n
 ·rw[iZ h,List.getElem?_replicate,if_pos h];rfl
 ·rw[List.getElem?_eq_none (by simp;omega),List.getElem?_eq_none (by rw[jH];omega)]
def eb (cnt:Nat) (L:Nat->Nat) (i m:Nat):Nat->Nat:=fun x=>if dS L x<i then dS L x else if x∈(members cnt L ((leads cnt L).getD i 0)).take m then i else 0
theorem rf (cnt:Nat) (L:Nat->Nat):eb cnt L 0 0=fun _=>0:=by funext x;simp[eb]
theorem xN (t:Int) (bs:List PB) (k:Nat) (h:k<bs.length):bZ t (bs.take (k+1))=bZ t (bs.take k)++if t<=(bs[k]).s then[bs[k]]else[]:=by
 unfold bZ;rw[List.take_succ_eq_append_getElem h,List.filter_append]
 congr 1
 by_cases h:t<=bs[k].s<;>simp[h]
theorem Ar {t:Int} {bs:List PB} {b:PB} (h:b∈bZ t bs):b∈bs:=(List.mem_filter.1 h).1
theorem pL (t:Int) (bs:List PB):(bZ t bs).length<=bs.length:=List.length_filter_le _ _
theorem FO (cnt:Nat) (hn:cnt<=1048576) (bs:List PB) (hb:∀b∈bs,b.a<cnt/\b.b<cnt) (iy:bs.length<=1048576) (t:Int):au Tryz.prog 113 [.int .i64 cnt,.sl (bs.map da),.int .i64 t] (.gG [.int .i64 (leads cnt (fH (bZ t bs))).length,.sl ((iY (fH (bZ t bs)) bs).map da)]):=by
 refine au.body fx rfl fun hl n0=>?_;clear hl;(try((repeat(revert N;apply g7));refine wk @g8 ?_;repeat(apply g6;intro N hN)));refine cj (fun n env st=>∃k:Nat,n=(bs.length)-k/\k<=(bs.length)/\env 9=.int .i64 (k:Int)/\(∃o:Id,env 8=.own o 0 (bZ t (bs.take k)).length/\st.get o=some ⟨true,3,(bZ t (bs.take k)).map da⟩/\o.bH<st.next)) (bs.length) ⟨0,ae,ae,sl @g8,⟨⟨113001000,n0+1⟩,by(simp only[go_sem,↓reduceIte,Nat.reduceEqDiff,Nat.reduceAdd,Nat.reduceSub,Nat.reduceLeDiff,reduceCtorEq])<;>rfl,by(simp only[go_sem,↓reduceIte,Nat.reduceEqDiff,Nat.reduceAdd,Nat.reduceSub,Nat.reduceLeDiff,reduceCtorEq])<;>rfl,aI⟩⟩ ?_;rintro n_a m3 i8 ⟨k,rfl,ale,a9,mD⟩ eC;have a0:=eC 0 g9;have a1:=eC 1 g9;have a2:=eC 2 g9;simp only[go_sem,↓reduceIte,Nat.reduceEqDiff,Nat.reduceAdd,Nat.reduceSub,Nat.reduceLeDiff,reduceCtorEq]at a0 a1 a2;clear eC;obtain⟨o,a8,ag,qd⟩:=mD;have wi:=cR qd
 by_cases hk:(k:Int)<(bs.length:Int)
 ·have dW:∀{e:Env} {gg:Rows} {nx:Nat},(e 9=.int .i64 (IntKind.i64.wrap ((k:Int)+1)))->(∃o:Id,e 8=.own o 0 (bZ t (bs.take (k+1))).length/\gg o=some ⟨true,3,(bZ t (bs.take (k+1))).map da⟩/\o.bH<nx)->∃m0,m0<(bs.length)-k/\∃k:Nat,m0=(bs.length)-k/\k<=(bs.length)/\e 9=.int .i64 (k:Int)/\(∃o:Id,e 8=.own o 0 (bZ t (bs.take k)).length/\gg o=some ⟨true,3,(bZ t (bs.take k)).map da⟩/\o.bH<nx):=fun x1 x2=>⟨_,ae,k+1,rfl,ae,(by rw[x1,aZ ae]),x2⟩;have iD:k<bs.length:=ae;have gm:(bs.map da)[k]? =some (da bs[k]):=by simp[iD]
  have hs:=xN t bs k iD;have nI:=pL t (bs.take k);rw[List.length_take]at nI
  by_cases hc:t<=(bs[k]).s
  ·rw[if_pos hc]at hs;have e1:(bZ t (bs.take k)).length+1<=16777216:=ae;have eW:((bZ t (bs.take k)).map da).length=(bZ t (bs.take k)).length:=by simp
   generalize bs[k]=b at *;(try((repeat(revert N;apply g7));refine wk (tw9 @a9 @a0 @a1 @a2 @a8 @ag @wi @hk (tw5 @gm @hc @e1 @eW @da.eq_1)) ?_;repeat(apply g6;intro N hN)));exact dW (sd (tw4 @a9 @a0 @a1 @a2)) (⟨⟨113006006,i8.next+1+1⟩,by rw[hs,i6];simp only[go_sem,↓reduceIte,Nat.reduceEqDiff,Nat.reduceAdd,Nat.reduceSub,Nat.reduceLeDiff,reduceCtorEq,List.length_cons,List.length_nil],by rw[hs,List.map_append,List.map_cons,List.map_nil];simp only[go_sem,↓reduceIte,Nat.reduceEqDiff,Nat.reduceAdd,Nat.reduceSub,Nat.reduceLeDiff,reduceCtorEq,da],aI⟩)
  ·rw[if_neg hc,List.append_nil]at hs;generalize bs[k]=b at *;(try((repeat(revert N;apply g7));refine wk (tw9 @a9 @a0 @a1 @a2 @a8 @ag @wi @hk (tw3 @gm @hc @da.eq_1)) ?_;repeat(apply g6;intro N hN)));exact dW (sd (tw4 @a9 @a0 @a1 @a2)) (⟨o,by rw[hs];simp only[go_sem,↓reduceIte,Nat.reduceEqDiff,Nat.reduceAdd,Nat.reduceSub,Nat.reduceLeDiff,reduceCtorEq,a8],by rw[hs];simp only[go_sem,↓reduceIte,Nat.reduceEqDiff,Nat.reduceAdd,Nat.reduceSub,Nat.reduceLeDiff,reduceCtorEq,ag],aI⟩)
 have l8:k=bs.length:=ae;subst l8;rw[List.take_length]at a8 ag;have Md:=FN cnt hn (bZ t bs) (fun b h=>hb b (Ar h)) (by have:=pL t bs;omega);have hL:=BZ (bZ t bs);have Je:fz (ef i8.get) 6 (.own o 0 (bZ t bs).length)=some (.sl ((bZ t bs).map da)):=gj (sz:=3) (by simp[ef,ag]) rfl fun b=>C3 _ 4 b;have hfz2:∀x,eM (ef i8.get) 6 [.int .i64 x,.own o 0 (bZ t bs).length]=some [.int .i64 x,.sl ((bZ t bs).map da)]:=fun x=>by simp only[ah,aj,aL,Je,Option.map_some]
 (try((repeat(revert N;apply g7));refine wk (tw6 @a9 @a0 @a1 @a2 @a8 @hk) ?_;repeat(apply g6;intro N hN)));refine .inl ⟨_,au.x Md (hfz2 _),?_⟩;apply hN;clear hN N;generalize fH (bZ t bs)=L at *;have ui:((hZ cnt L).map Ed).length=(leads cnt L).length:=by simp[hZ]
 have hld:=lz cnt L;have mv:(0:Int)<=(cnt:Int):=ae;have uh:(cnt:Int)<=((16777216:Nat):Int):=ae;have jv:List.replicate cnt [AV.int .i64 0]=fo (eb cnt L 0 0) cnt:=by rw[Au,rf]
 (try((repeat(revert N;apply g7));refine wk (tw7 @a9 @a0 @a1 @a2 @mv @uh @Int.le_refl) ?_;repeat(apply g6;intro N hN)));refine cj (fun n env st=>∃i:Nat,n=((leads cnt L).length)-i/\i<=((leads cnt L).length)/\env 12=.int .i64 (i:Int)/\st.get ⟨113008001,i8.next+1+1⟩=some ⟨true,1,fo (eb cnt L i 0) cnt⟩/\(i8.next+1+1<st.next)) ((leads cnt L).length) ⟨0,ae,ae,sl (tw5 @a9 @a0 @a1 @a2 @jv),sl (tw5 @a9 @a0 @a1 @a2 @jv),aI⟩ ?_;rintro n_c m7 m6 ⟨i,rfl,cle,qI,cg0,cI0⟩ jN;have c1:=jN 1 g9;have jX:=jN 10 g9;have Bt:=jN 11 g9;simp only[go_sem,↓reduceIte,Nat.reduceEqDiff,Nat.reduceAdd,Nat.reduceSub,Nat.reduceLeDiff,reduceCtorEq,a9,a0,a1,a2,jv]at c1 jX Bt;clear jN
 by_cases hi:(i:Int)<((leads cnt L).length:Int)
 ·have jf:∀{e:Env} {gg:Rows} {nx:Nat},(e 12=.int .i64 (IntKind.i64.wrap ((i:Int)+1)))->(gg ⟨113008001,i8.next+1+1⟩=some ⟨true,1,fo (eb cnt L (i+1) 0) cnt⟩)->(i8.next+1+1<nx)->∃m0,m0<((leads cnt L).length)-i/\∃i:Nat,m0=((leads cnt L).length)-i/\i<=((leads cnt L).length)/\e 12=.int .i64 (i:Int)/\gg ⟨113008001,i8.next+1+1⟩=some ⟨true,1,fo (eb cnt L i 0) cnt⟩/\(i8.next+1+1<nx):=fun x1 x2 x3=>⟨_,ae,i+1,rfl,ae,(by rw[x1,aZ ae]),x2,x3⟩;have jI:i<(leads cnt L).length:=ae;have ll:((hZ cnt L).map Ed)[i]? =some (Ed (members cnt L (leads cnt L)[i])):=by simp[hZ,jI]
  have rX:(leads cnt L).getD i 0=(leads cnt L)[i]:=by simp[List.getD_eq_getElem?_getD,jI]
  have mW:∀m,eb cnt L i m=fun x=>if dS L x<i then dS L x else if x∈(members cnt L (leads cnt L)[i]).take m then i else 0:=fun m=>by unfold eb;rw[rX]
  have uR:=fun x (hx:x<cnt)=>wU hL (n:=cnt) (k:=x) (i:=i) hx jI;have uk:(members cnt L (leads cnt L)[i]).Nodup:=List.nodup_range.filter _;have GI:∀x∈members cnt L (leads cnt L)[i],x<cnt:=fun x hx=>(nR.1 hx).1
  have hMc:(members cnt L (leads cnt L)[i]).length<=cnt:=by
   have:=List.length_filter_le (fun k=>L k==(leads cnt L)[i]) (List.range cnt)
   simpa[members]using this
  generalize members cnt L (leads cnt L)[i]=M at *;have GD:(M.map eN).length=M.length:=by simp
  (try((repeat(revert N;apply g7));refine wk (tw7 @qI @cg0 @c1 @jX @Bt @hi @ui) ?_;repeat(apply g6;intro N hN)));refine cj (fun n env st=>∃m:Nat,n=(M.length)-m/\m<=(M.length)/\env 13=.int .i64 (m:Int)/\st.get ⟨113008001,i8.next+1+1⟩=some ⟨true,1,fo (eb cnt L i m) cnt⟩/\(i8.next+1+1<st.next)) (M.length) ⟨0,ae,ae,sl (tw5 @qI @cg0 @c1 @jX @Bt),sl (tw5 @qI @cg0 @c1 @jX @Bt),aI⟩ ?_;rintro n_d env_d st_d ⟨m,rfl,dle,d13,dg0,dI0⟩ dfr;have d1:=dfr 1 g9;have d10:=dfr 10 g9;have d11:=dfr 11 g9;have d12:=dfr 12 g9;simp only[go_sem,↓reduceIte,Nat.reduceEqDiff,Nat.reduceAdd,Nat.reduceSub,Nat.reduceLeDiff,reduceCtorEq,qI,cg0,c1,jX,Bt]at d1 d10 d11 d12;clear dfr;have tl:=jH (eb cnt L i m) cnt
  by_cases hm:(m:Int)<(M.length:Int)
  ·have xI:∀{e:Env} {gg:Rows} {nx:Nat},(e 13=.int .i64 (IntKind.i64.wrap ((m:Int)+1)))->(gg ⟨113008001,i8.next+1+1⟩=some ⟨true,1,fo (eb cnt L i (m+1)) cnt⟩)->(i8.next+1+1<nx)->∃m0,m0<(M.length)-m/\∃m:Nat,m0=(M.length)-m/\m<=(M.length)/\e 13=.int .i64 (m:Int)/\gg ⟨113008001,i8.next+1+1⟩=some ⟨true,1,fo (eb cnt L i m) cnt⟩/\(i8.next+1+1<nx):=fun x1 x2 x3=>⟨_,ae,m+1,rfl,ae,(by rw[x1,aZ ae]),x2,x3⟩;have Dg:m<M.length:=ae;have wg:(M.map eN)[m]? =some (eN M[m]):=by simp[Dg]
   have zt:=GI _ (List.getElem_mem Dg);have Te:(M[m]:Int)<(cnt:Int):=ae;have GO:=iZ (f:=eb cnt L i m) zt
   have fV:(fo (eb cnt L i m) cnt).set M[m] (eN i)=fo (eb cnt L i (m+1)) cnt:=yE zt (by
    have h1:=(uR _ zt).1 (List.getElem_mem Dg);rw[mW];simp only[]
    rw[if_neg ae,if_pos (by rw[List.take_succ_eq_append_getElem Dg];exact List.mem_append_right _ (List.mem_singleton.2 rfl))]) fun x hx ju=>by
    rw[mW,mW];simp only[];rw[List.take_succ_eq_append_getElem Dg];simp only[List.mem_append,List.mem_singleton,ju,or_false]
   rw[eN]at fV GO;generalize M[m]=xm at *;(try((repeat(revert N;apply g7));refine wk (tw9 @d13 @dg0 @d1 @d10 @d11 @d12 @hm @hi (tw9 @ll @ui @wg @GD @Te @GO @tl @fV (tw @Ed.eq_1 @eN.eq_1))) ?_;repeat(apply g6;intro N hN)));refine xI ?_ ?_ aI
   all_goals simp only[go_sem,↓reduceIte,Nat.reduceEqDiff,Nat.reduceAdd,Nat.reduceSub,Nat.reduceLeDiff,reduceCtorEq,d13,dg0,d1,d10,d11,d12,fV]
  ·have eW:m=M.length:=ae;subst eW
   have lL:fo (eb cnt L i M.length) cnt=fo (eb cnt L (i+1) 0) cnt:=kE fun x hx=>by
    rw[mW,List.take_length];simp only[eb,List.take_zero,List.not_mem_nil,if_false];have h1:=uR x hx
    by_cases h2:dS L x<i
    ·rw[if_pos h2,if_pos ae]
    ·rw[if_neg h2]
     by_cases h3:x∈M
     ·rw[if_pos h3,if_pos (by have:=h1.1 h3;omega),h1.1 h3]
     ·rw[if_neg h3,if_neg fun h4=>h3 (h1.2 ae)]
   (try((repeat(revert N;apply g7));refine wk (tw9 @d13 @dg0 @d1 @d10 @d11 @d12 @hm @hi (tw4 @ll @ui @GD @Ed.eq_1)) ?_;repeat(apply g6;intro N hN)));refine jf ?_ ?_ aI
   all_goals simp only[go_sem,↓reduceIte,Nat.reduceEqDiff,Nat.reduceAdd,Nat.reduceSub,Nat.reduceLeDiff,reduceCtorEq,qI,cg0,c1,jX,Bt,d13,dg0,d1,d10,d11,d12,lL]
 have sO:i=(leads cnt L).length:=ae;subst sO;have j3:fo (eb cnt L (leads cnt L).length 0) cnt=fo (dS L) cnt:=kE fun x hx=>by rw[eb,if_pos (vk hL hx)]
 rw[j3]at cg0;have tl:=jH (dS L) cnt;(try((repeat(revert N;apply g7));refine wk (tw7 @qI @cg0 @c1 @jX @Bt @hi @ui) ?_;repeat(apply g6;intro N hN)));have SR:i8.next+1+1<m6.next:=cI0;refine cj (fun n env st=>∃j:Nat,n=(bs.length)-j/\j<=(bs.length)/\env 15=.int .i64 (j:Int)/\st.get ⟨113008001,i8.next+1+1⟩=some ⟨true,1,fo (dS L) cnt⟩/\(∃p:Id,env 14=.own p 0 (iY L (bs.take j)).length/\st.get p=some ⟨true,3,(iY L (bs.take j)).map da⟩/\m6.next<=p.bH/\p.bH<st.next)) (bs.length) ⟨0,ae,ae,sl (tw5 @qI @cg0 @c1 @jX @Bt),sl (tw5 @qI @cg0 @c1 @jX @Bt),⟨⟨113016000,m6.next+1⟩,by(simp only[go_sem,↓reduceIte,Nat.reduceEqDiff,Nat.reduceAdd,Nat.reduceSub,Nat.reduceLeDiff,reduceCtorEq])<;>rfl,by(simp only[go_sem,↓reduceIte,Nat.reduceEqDiff,Nat.reduceAdd,Nat.reduceSub,Nat.reduceLeDiff,reduceCtorEq])<;>rfl,aI,aI⟩⟩ ?_;rintro n_f env_f st_f ⟨j,rfl,fle,f15,fg0,fI0⟩ ffr;have f1:=ffr 1 g9;have f10:=ffr 10 g9;have f11:=ffr 11 g9;simp only[go_sem,↓reduceIte,Nat.reduceEqDiff,Nat.reduceAdd,Nat.reduceSub,Nat.reduceLeDiff,reduceCtorEq,qI,cg0,c1,jX,Bt]at f1 f10 f11;clear ffr;obtain⟨p,f14,fg,YL,Ji⟩:=fI0;have x1:=ew (a:=⟨113008001,i8.next+1+1⟩) (b:=p) aI;have zr:=cR Ji;have hvn:i8.next+1+1<st_f.next:=ae;have KR:=cR (i:=⟨113008001,i8.next+1+1⟩) (n:=st_f.next) hvn;have nI:=(Ap L (bs.take j)).2;rw[List.length_take]at nI
 by_cases hj:(j:Int)<(bs.length:Int)
 ·have qh:∀{e:Env} {gg:Rows} {nx:Nat},(e 15=.int .i64 (IntKind.i64.wrap ((j:Int)+1)))->(gg ⟨113008001,i8.next+1+1⟩=some ⟨true,1,fo (dS L) cnt⟩)->(∃p:Id,e 14=.own p 0 (iY L (bs.take (j+1))).length/\gg p=some ⟨true,3,(iY L (bs.take (j+1))).map da⟩/\m6.next<=p.bH/\p.bH<nx)->∃m0,m0<(bs.length)-j/\∃j:Nat,m0=(bs.length)-j/\j<=(bs.length)/\e 15=.int .i64 (j:Int)/\gg ⟨113008001,i8.next+1+1⟩=some ⟨true,1,fo (dS L) cnt⟩/\(∃p:Id,e 14=.own p 0 (iY L (bs.take j)).length/\gg p=some ⟨true,3,(iY L (bs.take j)).map da⟩/\m6.next<=p.bH/\p.bH<nx):=fun x1 x2 x3=>⟨_,ae,j+1,rfl,ae,(by rw[x1,aZ ae]),x2,x3⟩;have oy:j<bs.length:=ae;have zo:(bs.map da)[j]? =some (da bs[j]):=by simp[oy]
  have QN:=hb _ (List.getElem_mem oy);have hs:=DR L (bs.take j) bs[j];rw[<-List.take_succ_eq_append_getElem oy]at hs;generalize bs[j]=b at *;have hA:=iZ (f:=dS L) QN.1;have hB:=iZ (f:=dS L) QN.2;have Fg:(b.a:Int)<(cnt:Int):=ae;have qc:(b.b:Int)<(cnt:Int):=ae;have hMn:=FL (dS L b.a) (dS L b.b);have hMx:=FK (dS L b.a) (dS L b.b);rw[eN]at hA hB
  by_cases he:dS L b.a=dS L b.b
  ·rw[if_pos he,List.append_nil]at hs;have sY:decide ((dS L b.a:Int)=(dS L b.b:Int))=true:=decide_eq_true (by rw[he]);(try((repeat(revert N;apply g7));refine wk (tw9 @f15 @fg0 @f1 @f10 @f11 @f14 @fg @hj (tw9 @zo @hA @hB @Fg @qc @tl @sY @x1 (tw @zr @da.eq_1))) ?_;repeat(apply g6;intro N hN)));refine qh ?_ ?_ (⟨p,by rw[hs];simp only[go_sem,↓reduceIte,Nat.reduceEqDiff,Nat.reduceAdd,Nat.reduceSub,Nat.reduceLeDiff,reduceCtorEq,f14],by rw[hs];simp only[go_sem,↓reduceIte,Nat.reduceEqDiff,Nat.reduceAdd,Nat.reduceSub,Nat.reduceLeDiff,reduceCtorEq,fg],YL,aI⟩)
   all_goals simp only[go_sem,↓reduceIte,Nat.reduceEqDiff,Nat.reduceAdd,Nat.reduceSub,Nat.reduceLeDiff,reduceCtorEq,f15,fg0,f1,f10,f11]
  ·rw[if_neg he]at hs;have sY:decide ((dS L b.a:Int)=(dS L b.b:Int))=false:=decide_eq_false fun h=>he ae;have e1:(iY L (bs.take j)).length+1<=16777216:=ae;have eW:((iY L (bs.take j)).map da).length=(iY L (bs.take j)).length:=by simp
   (have zF:=tw9 @f15 @fg0 @f1 @f10 @f11 @f14 @fg @hj (tw9 @zo @hA @hB @Fg @qc @tl @sY @x1 (tw5 @zr @KR @e1 @eW @da.eq_1));(repeat(first|((repeat(revert N;apply g7));refine wk zF ?_;repeat(apply g6;intro N hN))|((try apply i3);refine⟨_,au.x (hMn) (sd zF),?_⟩;apply hN;clear hN N)|((try apply i3);refine⟨_,au.x (hMx) (sd zF),?_⟩;apply hN;clear hN N)));try clear zF)
   refine qh ?_ ?_ (⟨⟨113023014,st_f.next+1+1+1+1⟩,by rw[hs,i6];simp only[go_sem,↓reduceIte,Nat.reduceEqDiff,Nat.reduceAdd,Nat.reduceSub,Nat.reduceLeDiff,reduceCtorEq,List.length_cons,List.length_nil],by rw[hs,List.map_append,List.map_cons,List.map_nil];simp only[go_sem,↓reduceIte,Nat.reduceEqDiff,Nat.reduceAdd,Nat.reduceSub,Nat.reduceLeDiff,reduceCtorEq,da],aI,aI⟩)
   all_goals simp only[go_sem,↓reduceIte,Nat.reduceEqDiff,Nat.reduceAdd,Nat.reduceSub,Nat.reduceLeDiff,reduceCtorEq,f15,fg0,f1,f10,f11,x1,KR]
 ·have iL:j=bs.length:=ae;subst iL;rw[List.take_length]at f14 fg;(try((repeat(revert N;apply g7));refine wk (tw8 @f15 @fg0 @f1 @f10 @f11 @f14 @hj @ui) ?_;repeat(apply g6;intro N hN)));refine lQ (.inl rfl) (r1:=.int .i64 ((leads cnt L).length:Int)) (sd @g8) (by simp only[go_sem,↓reduceIte,Nat.reduceEqDiff,Nat.reduceAdd,Nat.reduceSub,Nat.reduceLeDiff,reduceCtorEq];rfl) ?_;have h1:iG st_f.get 5 (.own p 0 (iY L bs).length)=some (.sl ((iY L bs).map da)):=eQ (sz:=3) fg rfl fun b=>yn _ 3 b;simp only[fY,bR,cW,ec,h1,Option.map_some]
section
variable {cnt:Nat} {bs:List PB} {f:Nat->Int} {y:Nat} {out:Nat->Int} {Q:List Nat} {i:Nat}
end
def kh (P:Program) (f:Nat) (args:List AV) (R:AV->Prop):Prop:=∀n:Nat,Call P f args ⟨fun _=>none,n⟩ fun r0 σ'=>∃r',iG σ'.get 6 r0=some r'/\R r'
theorem KA {P:Program} {f:Nat} {args args':List AV} {g:Rows} {n:Nat} {R:AV->Prop} (hv:eM (ef g) 6 args=some args') (h:Sound P f args' ⟨fun _=>none,n⟩ fun r0 σ'=>∃r',iG σ'.get 6 r0=some r'/\R r'):Sound P f args ⟨g,n⟩ fun r σ'=>R r/\σ'=⟨g,n⟩:=by
 intro hs D ι w vs S U A;refine(Bj (g0:=g) (K:=R) ⟨args',hv,h⟩ (fun _ _ h=>h) S U A).mono ?_;rintro e w' ⟨r,D',u,rfl,hR,T,S',hr⟩;exact⟨r,g,n,D',ι,u,rfl,⟨hR,rfl⟩,T,S',U,Nat.le_refl _,hr⟩
theorem kh.x {P:Program} (hm:P.follows .mixedOrders=true) {f:Nat} {args args':List AV} {R:AV->Prop} (h:kh P f args' R) {σ:aw} (hv:eM (ef σ.get) 6 args=some args'):Call P f args σ fun r σ'=>R r/\σ'=σ:=
 fW (KA hv (iO hm (h σ.next)))
theorem kh.body {P:Program} {f:Nat} {args:List AV} {R:AV->Prop} {nt na:Nat} {body:VC} {res:List qE} (hf:AJ P f=some ⟨nt,na,body,res⟩) (ha:na=args.length) (h:(∀a∈args,fU a)->∀n:Nat,dY (Call P) body (oj res fun r0 σ'=>∃r',iG σ'.get 6 r0=some r'/\R r') (bV args) ⟨fun _=>none,n⟩):kh P f args R:=fun n=>rL hf ha fun hl=>h hl n
theorem XP (g:Rows) (n:Nat) (a:Int):fC g (n+1) (bf a)=some (bf a):=by simp[bf,bR,cW,ec]
end V

namespace V
open Go.RowKit
attribute [local irreducible] dY wpOps fm Call
attribute [local go_sem] aD eU eA fh fc dq upd bV K.av cz AV.cells AV.cell rowOf rowsOf part ld rowAt fD bJ bQ dz dF fF br cQ dP e8 eF dh dI cM cL dr du bz aU cD bx cH cF dy dJ dH cB bF cP dG bt az cJ bY fE bd cr bD aP dc ba dj AV.undef bh bq dw dD dn dm cm dM dQ bW dL dK cI cK List.getD_cons_zero List.getD_cons_succ List.getD_nil List.all_cons List.all_nil Bool.and_true Bool.true_and Bool.and_self Bool.not_true Bool.not_false Option.map_some Option.map_none Option.bind_some Option.bind_none List.length_cons List.length_nil List.take_succ_cons List.take_zero List.take_nil List.drop_succ_cons List.drop_zero List.drop_nil List.head?_cons List.map_cons List.map_nil List.getElem?_cons_zero List.getElem?_cons_succ List.cons_append List.nil_append List.append_nil List.length_map List.set_cons_zero List.set_cons_succ eq_self Int.toNat_natCast Int.natCast_nonneg and_self true_and and_true decide_true decide_false Bool.false_eq_true Nat.zero_add Nat.add_zero List.contains_cons List.contains_nil Bool.or_false Bool.false_or beq_self_eq_true ne_eq not_true_eq_false not_false_eq_true Id.mk.injEq false_and and_false Nat.le_refl i6 beq_true beq_false Bool.not_eq_eq_eq_not or_false false_or ef ah aj aL aW bj bP aM bb aJ aY cq bp
theorem iS.repl {α:Type} {R:WQ α} {sz:Nat} {g:Rows} {rows:List (List AV)} {xs:List α} {ids:List Id} (ok:TJ R sz) (h:iS R g rows xs ids) (uk:ids.Nodup) (k:Nat) (hk:k<xs.length):
  ∃cs ic,rows[k]? =some cs/\R g cs xs[k] ic/\(∀i∈ic,i∈ids)/\∀(g':Rows) uD x' Xn,R g' uD x' Xn->(∀i∈ids,i∉ic->g' i=g i)->Xn.Nodup->(∀i∈Xn,i∉ids)->∃NX,iS R g' (rows.set k uD) (xs.set k x') NX/\NX.Nodup/\∀i∈NX,i∈Xn∨i∈ids:=by
 obtain⟨r1,cs,r2,i1,ic,i2,rfl,rfl,rfl,h3,h4,h5⟩:=h.split k hk;obtain⟨n1,n2,n3⟩:=List.nodup_append.1 uk;obtain⟨nc,n5,n4⟩:=List.nodup_append.1 n2;refine⟨cs,ic,by simp,h4,fun i hi=>by simp[hi],fun g' uD x' Xn hR hf hn' l9=>⟨i1++(Xn++i2),?_,?_,fun i hi=>?_⟩⟩
 ·have e:xs.set r1.length x'=xs.take r1.length++x'::xs.drop (r1.length+1):=by rw[List.set_eq_take_append_cons_drop,if_pos hk]
  have e2:(r1++cs::r2).set r1.length uD=r1++uD::r2:=by simp
  rw[e,e2];refine(h3.frame ok fun i hi=>hf i (by simp[hi]) fun hc=>n3 i hi i (by simp[hc]) rfl).app (.cons hR (h5.frame ok fun i hi=>hf i (by simp[hi]) fun hc=>n4 i hc i hi rfl))
 ·rw[List.nodup_append,List.nodup_append];refine⟨n1,⟨hn',n5,fun x hx y hy he=>?_⟩,fun x hx y hy he=>?_⟩
  ·subst he;exact l9 x hx (by simp[hy])
  ·subst he
   rcases List.mem_append.1 hy with hy|hy
   ·exact l9 x hy (by simp[hx])
   ·exact n3 x hx x (by simp[hy]) rfl
 ·rcases List.mem_append.1 hi with hi|hi
  ·exact .inr (by simp[hi])
  ·rcases List.mem_append.1 hi with hi|hi
   ·exact .inl hi
   ·exact .inr (by simp[hi])
theorem zi {α:Type} {l:List α} {k:Nat} {x:α} (h:l[k]? =some x) (hk:k<l.length):l[k]=x:=by
 rw[i5 hk]at h;exact Option.some.inj h
end V

namespace V
open Go.RowKit
attribute [local irreducible] dY wpOps fm Call
section
variable {cnt:Nat} {bs:List PB} {out:Nat->Int} {f f':Nat->Int} {x v y:Nat}
end
def mg (P:Program) (f:Nat) (args:List AV) (R:AV->Prop):Prop:=∀σ:aw,Call P f args ⟨V.ro σ.get,σ.next⟩ fun r0 σ'=>∃r',V.fz σ'.get 6 r0=some r'/\R r'
theorem Hv {P:Program} {f:Nat} {args:List AV} {g:Rows} {n:Nat} {R:AV->Prop} (h:Sound P f args ⟨V.ro g,n⟩ fun r0 σ'=>∃r',V.fz σ'.get 6 r0=some r'/\R r'):Sound P f args ⟨g,n⟩ fun r σ'=>R r/\σ'=⟨g,n⟩:=by
 intro hs D ι w vs S U A;refine(Ey (g0:=g) (K:=R) h (fun _ _ h=>h) S U A).mono ?_;rintro e w' ⟨r,D',u,rfl,hR,T,S',hr⟩;exact⟨r,g,n,D',ι,u,rfl,⟨hR,rfl⟩,T,S',U,Nat.le_refl _,hr⟩
theorem mg.x {P:Program} (hm:P.follows .mixedOrders=true) {f:Nat} {args:List AV} {R:AV->Prop} (h:mg P f args R) {σ:aw}:Call P f args σ fun r σ'=>R r/\σ'=σ:=
 fW (Hv (iO hm (h σ)))
theorem mg.body {P:Program} {f:Nat} {args:List AV} {R:AV->Prop} {nt na:Nat} {body:VC} {res:List qE} (hf:AJ P f=some ⟨nt,na,body,res⟩) (ha:na=args.length) (h:(∀a∈args,fU a)->∀σ:aw,dY (Call P) body (oj res fun r0 σ'=>∃r',V.fz σ'.get 6 r0=some r'/\R r') (bV args) ⟨V.ro σ.get,σ.next⟩):mg P f args R:=fun σ=>rL hf ha fun hl=>h hl σ
def iq (b:Int):List AV:=[.int .u8 b]
def eZ (g:Rows) (X:Id) (bs:List Int) (A:Nat):Prop:=∃(a:Nat) (z:Int),a<=A/\g X=some ⟨true,3,[[.sl (bs.map iq),.int .i64 (a:Int),.int .u64 z]]⟩
theorem eZ.mono {g:Rows} {X:Id} {bs:List Int} {A B:Nat} (h:eZ g X bs A) (k:A<=B):eZ g X bs B:=by
 obtain⟨a,z,h1,h2⟩:=h;exact⟨a,z,ae,h2⟩
def lv (X:Id) (σ σ':aw):Prop:=σ.next<=σ'.next/\∀i,i≠X->i.bH<σ.next->σ'.get i=σ.get i
theorem wrap_u64 (n:Int):IntKind.u64.wrap n=n % 18446744073709551616:=by
 rw[IntKind.wrap];simp[IntKind.bits,IntKind.signed]
theorem Ql (z:Int):0<=IntKind.u64.wrap ((BitVec.ofInt 64 z&&& BitVec.ofInt 64 255).toNat:Int)/\IntKind.u64.wrap ((BitVec.ofInt 64 z&&& BitVec.ofInt 64 255).toNat:Int)<=255:=by
 have h:(BitVec.ofInt 64 z&&& BitVec.ofInt 64 255).toNat<=255:=by
  rw[BitVec.toNat_and];exact Nat.and_le_right
 rw[wrap_u64];omega
theorem yQ (z:Int):0<=IntKind.i64.wrap (IntKind.u64.wrap ((BitVec.ofInt 64 z&&& BitVec.ofInt 64 255).toNat:Int))/\IntKind.i64.wrap (IntKind.u64.wrap ((BitVec.ofInt 64 z&&& BitVec.ofInt 64 255).toNat:Int))<=255:=by
 obtain⟨h0,h1⟩:=Ql z;rw[db ae];exact⟨h0,h1⟩
theorem xg {v n:Int} (hv:0<=v) (hn:0<n):0<=v.tmod n/\(v.tmod n=0∨v.tmod n<n):=by
 rw[Int.tmod_eq_emod_of_nonneg hv];exact⟨Int.emod_nonneg _ ae,.inr (Int.emod_lt_of_pos _ hn)⟩
theorem Ov (bs:List Int) (hb:∀b∈bs,0<=b/\b<=255) (iy:bs.length<=4096) (X:Id) (A:Nat) (ha:A<=1073741824) (σ:aw) (h:eZ σ.get X bs A):
  Call Tryz.prog 80 [.ptr X 0 0] σ fun r σ'=>∃v:Int,r=.int .i64 v/\0<=v/\v<=255/\eZ σ'.get X bs (A+1)/\lv X σ σ':=by
 obtain⟨a,z,haA,hg⟩:=h;refine fG fx rfl fun fM=>?_;clear fM;have eW:(bs.map iq).length=bs.length:=by simp
 have w1:IntKind.i64.wrap ((a:Int)+1)=((a+1:Nat):Int):=(db ae).trans ae
 by_cases ha:(a:Int)<(bs.length:Int)
 ·have NB:(bs.map iq)[a]? =some [.int .u8 (bs.getD a 0)]:=getD_map iq ae;have GG:=hb (bs.getD a 0) (by rw[List.getD_eq_getElem?_getD,i5 (by omega:a<bs.length)];exact List.getElem_mem ae);generalize bs.getD a 0=b at NB GG;have w2:IntKind.i64.wrap b=b:=db ae;have hle:((a+1:Nat):Int)<=(bs.length:Int):=ae;(try((repeat(revert N;apply g7));refine wk (tw7 @hg @eW @ha @NB @w1 @w2 @hle) ?_;repeat(apply g6;intro N hN)));exact eH (.inl rfl) (vs:=[.int .i64 b]) (sd @g8) ⟨b,rfl,GG.1,GG.2,⟨a+1,_,ae,sl @g8⟩,aI,fun i hi _=>sd @hi⟩
 ·have hle:decide (((a+1:Nat):Int)<=(bs.length:Int))=false:=decide_eq_false ae;(try((repeat(revert N;apply g7));refine wk (tw5 @hg @eW @ha @w1 @hle) ?_;repeat(apply g6;intro N hN)));exact eH (.inl rfl) (vs:=[.int .i64 _]) (by simp only[ir,jw,go_sem,↓reduceIte,Nat.reduceEqDiff,Nat.reduceAdd,Nat.reduceSub,Nat.reduceLeDiff,reduceCtorEq]<;>rfl) ⟨_,rfl,(yQ _).1,(yQ _).2,⟨a+1,_,ae,sl @g8⟩,aI,fun i hi _=>sd @hi⟩
theorem lv.to {X:Id} {g g':Rows} {n n1 n' m':Nat} (h:lv X ⟨g,n1⟩ ⟨g',n'⟩) (h1:n<=n1) (h2:n'<=m'):lv X ⟨g,n⟩ ⟨g',m'⟩:=
 ⟨Nat.le_trans h1 (Nat.le_trans h.1 h2),fun i hi hv=>h.2 i hi (Nat.lt_of_lt_of_le hv h1)⟩
theorem lv.trans {X:Id} {σ1 σ2 σ3:aw} (h:lv X σ1 σ2) (k:lv X σ2 σ3):lv X σ1 σ3:=⟨Nat.le_trans h.1 k.1,fun i hi hv=>(k.2 i hi (Nat.lt_of_lt_of_le hv h.1)).trans (h.2 i hi hv)⟩
theorem ik (bs:List Int) (hb:∀b∈bs,0<=b/\b<=255) (iy:bs.length<=4096) (X:Id) (n:Int) (A:Nat) (ha:A<=1073741000) (σ:aw) (h:eZ σ.get X bs A):
  Call Tryz.prog 33 [.ptr X 0 0,.int .i64 n] σ fun r σ'=>∃v:Int,r=.int .i64 v/\0<=v/\(v=0∨v<n)/\eZ σ'.get X bs (A+2)/\lv X σ σ':=by
 refine fG fx rfl fun fM=>?_;clear fM
 by_cases AD:n<=1
 ·(try((repeat(revert N;apply g7));refine wk @AD ?_;repeat(apply g6;intro N hN)));exact eH (.inl rfl) (vs:=[.int .i64 0]) (sd @g8) ⟨0,rfl,ae,.inl rfl,h.mono ae,aI,fun i hi _=>rfl⟩
 ·have GJ:(n=0)=False:=eq_false ae;(try((repeat(revert N;apply g7));refine wk @AD ?_;repeat(apply g6;intro N hN)));refine .inr (ax _ _ _ _ _ (fun r σ1 hq=>?_) (Ov bs hb iy X A ae _ h));obtain⟨v,rfl,v0,v1,h1,k1⟩:=hq;apply hN;clear hN N
  by_cases h2:(200:Int)<n
  ·(try((repeat(revert N;apply g7));refine wk @h2 ?_;repeat(apply g6;intro N hN)));refine .inr (ax _ _ _ _ _ (fun r σ2 hq=>?_) (Ov bs hb iy X (A+1) ae _ h1));obtain⟨u,rfl,u0,u1,Ee,k2⟩:=hq;apply hN;clear hN N;have w1:IntKind.i64.wrap (v*256)=v*256:=db ae;have w2:IntKind.i64.wrap (v*256+u)=v*256+u:=db ae;(try((repeat(revert N;apply g7));refine wk (tw3 @GJ @w1 @w2) ?_;repeat(apply g6;intro N hN)));exact eH (.inl rfl) (vs:=[.int .i64 ((v*256+u).tmod n)]) (sd @g8) ⟨_,rfl,(xg ae ae).1,(xg ae ae).2,Ee,(lv.to (k1.trans (lv.to (n:=σ1.next) k2 ae i4)) ae aI:lv X ⟨σ.get,σ.next⟩ ⟨σ2.get,_⟩)⟩
  ·(try((repeat(revert N;apply g7));refine wk (tw @h2 @GJ) ?_;repeat(apply g6;intro N hN)));exact eH (.inl rfl) (vs:=[.int .i64 (v.tmod n)]) (sd @g8) ⟨_,rfl,(xg v0 ae).1,(xg v0 ae).2,h1.mono ae,(lv.to k1 ae aI:lv X ⟨σ.get,σ.next⟩ ⟨σ1.get,_⟩)⟩
theorem zS (bs:List Int) (hb:∀b∈bs,0<=b/\b<=255) (iy:bs.length<=4096) (X:Id) (n:Int) (A:Nat) (ha:A<=1073741000) (σ:aw) (h:eZ σ.get X bs A):
  Call Tryz.prog 60 [.ptr X 0 0,.int .i64 n] σ fun r σ'=>∃b:Bool,r=.bool b/\eZ σ'.get X bs (A+2)/\lv X σ σ':=by
 refine fG fx rfl fun fM=>?_;clear fM;(try((repeat(revert N;apply g7));refine wk @g8 ?_;repeat(apply g6;intro N hN)));refine .inr (ax _ _ _ _ _ (fun r σ1 hq=>?_) (ik bs hb iy X n A ha _ h));obtain⟨v,rfl,v0,v1,h1,k1⟩:=hq;apply hN;clear hN N;(try((repeat(revert N;apply g7));refine wk @g8 ?_;repeat(apply g6;intro N hN)));exact eH (.inl rfl) (vs:=[.bool _]) (by simp only[ir,jw,go_sem,↓reduceIte,Nat.reduceEqDiff,Nat.reduceAdd,Nat.reduceSub,Nat.reduceLeDiff,reduceCtorEq]<;>rfl) ⟨_,rfl,h1,(lv.to k1 ae aI:lv X ⟨σ.get,σ.next⟩ ⟨σ1.get,_⟩)⟩
theorem wQ (bs:List Int) (σ:aw):
  Call Tryz.prog 24 [.sl (bs.map iq)] σ fun r σ'=>∃X:Id,r=.ptr X 0 0/\σ.next<=X.bH/\X.bH<σ'.next/\eZ σ'.get X bs 0/\∀i:Id,i.bH<σ.next->σ'.get i=σ.get i:=by
 refine fG fx rfl fun fM=>?_;clear fM;(try((repeat(revert N;apply g7));refine wk @g8 ?_;repeat(apply g6;intro N hN)));exact eH (.inl rfl) (vs:=[.ptr ⟨24001002,_⟩ 0 0]) (by simp only[ir,jw,go_sem,↓reduceIte,Nat.reduceEqDiff,Nat.reduceAdd,Nat.reduceSub,Nat.reduceLeDiff,reduceCtorEq]<;>rfl) ⟨_,rfl,aI,aI,⟨0,0,Nat.le_refl _,sl @g8⟩,fun i hi=>by have hv:=cR hi;simp only[go_sem,↓reduceIte,Nat.reduceEqDiff,Nat.reduceAdd,Nat.reduceSub,Nat.reduceLeDiff,reduceCtorEq,hv]⟩
end V

section
open Go.RowKit
def eO (k:Int):ByteArray:=if k=0 then⟨#[48]⟩else⟨(wG k.toNat).toArray⟩
theorem EV (w:World) (k:Int) (h0:0<=k) (h1:k<=4611686018427387904):
  Calls Tryz.prog 98 #[.int .i64 k] w fun e w'=>e=.returned (.string (eO k))/\Below w.heap.size w w':=by
 go_enter Tryz.func98,Tryz.ntmps98
 go_wp2_with fail
 go_loopw [4,3] (fun a s wr=>∃(j:Int) (l:ByteArray),a=.int .i64 j/\s=.string l/\0<=j/\j<=4611686018427387904/\Hid (wG j.toNat++l.data.toList=wG k.toNat)/\Below w.heap.size w wr) (fun a _ _=>(intOf a).toNat)
 case atStart=>exact⟨k,⟨#[]⟩,rfl,rfl,h0,h1,Lib.hid (by simp),Below.refl _ _⟩
 case round=>
  obtain⟨j,l,rfl,rfl,S4,W9,hd,hb⟩:=hrel
  have mj:l.size<=19:=by
   have h1:=congrArg List.length hd.out;have h2:=y6 19 k.toNat (by omega);rw[V.i6]at h1;have:l.data.toList.length=l.size:=by rw[Array.length_toList];rfl
   omega
  by_cases hj:j=0
  ·subst hj
   by_cases hk:k=0
   ·go_wp2_with fail
    go_ret
    exact⟨by simp[eO,hk],hb⟩
   ·have Ej:¬k<0:=by omega
    go_wp2_with fail
    go_ret
    refine⟨?_,hb⟩;have h1:=hd.out;rw[show(0:Int).toNat=0 by rfl,Bw,List.nil_append]at h1
    have h2:l=eO k:=by
     rw[eO,if_neg hk];refine ByteArray.ext (Array.ext' ?_);rw[h1]
    rw[h2];rfl
  ·have QP:∀v:Int,(convert 22 9 (.slice (some ⟨wr.heap.size,0,none⟩) 1 1)).run Tryz.prog (wr.alloc (.cells #[.int .u8 v] 5))=.ok (.string ⟨#[UInt8.ofNat v.toNat]⟩) (wr.alloc (.cells #[.int .u8 v] 5)):=by
    intro v;rw[run_convert_bytes_string _ _ _ 5 _ _ _ Tryz.underlying22 Tryz.underlying5 Tryz.underlying9,run_bytesToString _ _ _ _ [v] (by simp[loadCells,loadCellsFrom,go_sem])]
    rfl
   have hr:=mj
   go_wp2_with fail
   refine⟨⟨_,_,rfl,rfl,by omega,by omega,Lib.hid ?_,hb.alloc hb.size _⟩,by simp[intOf];omega⟩;rw[<-hd.out,Km,EW (show j.toNat≠0 by omega),show(j / 10).toNat=j.toNat / 10 by omega,show(48+j % 10).toNat=48+j.toNat % 10 by omega]
   simp
end
namespace V
open Go.RowKit
theorem mE (k:Int) (h0:0<=k) (h1:k<=4611686018427387904):au Tryz.prog 98 [.int .i64 k] (.str (eO k)):=
 om (vs0:= #[.int .i64 k]) (u0:=.string (eO k)) (fun _ _ _ _=>RI) (fun w D ι=>.fw _ _ (.str _)) (fun g=>C4 g 5 _) fun w=>EV w k h0 h1
theorem iK (k:Int) (h1:k<=4611686018427387904):(eO k).size<=20:=by
 unfold eO
 split
 ·decide
 ·have h2:=y6 20 k.toNat ae;show(wG k.toNat).toArray.size<=20
  simpa using h2
theorem gK (a b:ByteArray):(a++b).size=a.size+b.size:=ByteArray.size_append
def nY (E:Nat->Prop) (n0:Nat) (g:Rows) (n:Nat) (e:Id) (c:Nat):Prop:=E e.site/\n0<=e.bH/\e.bH<n/\∃l:List Int,l.length=c/\g e=some ⟨true,1,l.map bf⟩
theorem nY.frame {E:Nat->Prop} {n0:Nat} {g g':Rows} {n n':Nat} {e:Id} {c:Nat} (h:nY E n0 g n e c) (hn:n<=n') (hf:∀i:Id,E i.site->n0<=i.bH->i.bH<n->g' i=g i):nY E n0 g' n' e c:=by
 obtain⟨h1,h2,h3,l,h4,h5⟩:=h;exact⟨h1,h2,ae,l,h4,(hf e h1 h2 h3).trans h5⟩
def jD (E:Nat->Prop) (n0:Nat) (g:Rows) (n:Nat) (rows:List (List AV)):Prop:=∀row∈rows,∃(nm:ByteArray) (e:Id),row=[.str nm,.own e 0 4]/\(nm.size<=64/\1<=nm.size)/\nY E n0 g n e 4
theorem jD.frame {E:Nat->Prop} {n0:Nat} {g g':Rows} {n n':Nat} {rows:List (List AV)} (h:jD E n0 g n rows) (hn:n<=n') (hf:∀i:Id,E i.site->n0<=i.bH->i.bH<n->g' i=g i):jD E n0 g' n' rows:=fun row hr=>by
 obtain⟨nm,e,h1,h2,h3⟩:=h row hr;exact⟨nm,e,h1,h2,h3.frame hn hf⟩
theorem jD.snoc {E:Nat->Prop} {n0:Nat} {g:Rows} {n:Nat} {rows:List (List AV)} (h:jD E n0 g n rows) {nm:ByteArray} {e:Id} (hs:nm.size<=64/\1<=nm.size) (he:nY E n0 g n e 4):jD E n0 g n (rows++[[.str nm,.own e 0 4]]):=fun row hr=>by
 rcases List.mem_append.1 hr with h1|h1
 ·exact h row h1
 ·exact⟨nm,e,List.mem_singleton.1 h1,hs,he⟩
theorem jD.fz {E:Nat->Prop} {n0:Nat} {g:Rows} {n:Nat}:∀{rows:List (List AV)},jD E n0 g n rows->∃L:List di,L.length=rows.length/\(∀t∈L,t.bL.size<=64/\t.de.length=4)/\∀k,iX g (k+2) rows=some (L.map dp)
 |[],_=>⟨[],rfl,(fun t ht=>nomatch ht),fun k=>by(try simp only[List.map_nil]);rw[iX.eq_def]⟩
 |row::rows,h=>by
  obtain⟨L,h1,h2,h3⟩:=jD.fz (rows:=rows) fun r hr=>h r (List.mem_cons_of_mem _ hr);obtain⟨nm,e,h4,h5,h6⟩:=h row List.mem_cons_self;obtain⟨_,_,_,l,h7,h8⟩:=h6;subst h4;refine⟨⟨nm,l⟩::L,by simp[h1],fun t ht=>?_,fun k=>?_⟩
  ·rcases List.mem_cons.1 ht with rfl|ht
   ·exact⟨h5.1,h7⟩
   ·exact h2 t ht
  ·have h9:iG g (k+2) (.own e 0 4)=some (.sl (l.map bf)):=by
    rw[<-h7];exact eQ (e:=bf) h8 rfl fun x=>XP g k x
   rw[iX,bR,C4,bR,h9,cW,h3 k]
   rfl
theorem nY.write {E:Nat->Prop} {n0:Nat} {g:Rows} {n:Nat} {e u:Id} {l:List Int} (h:nY E n0 g n u 4) (hl:l.length=4):nY E n0 (bJ g e ⟨true,1,l.map bf⟩) n u 4:=by
 obtain⟨h1,h2,h3,k,h4,h5⟩:=h
 by_cases hu:u=e
 ·subst hu;exact⟨h1,h2,h3,l,hl,by simp[bJ]⟩
 ·exact⟨h1,h2,h3,k,h4,by simp[bJ,hu,h5]⟩
theorem jD.write {E:Nat->Prop} {n0:Nat} {g:Rows} {n:Nat} {rows:List (List AV)} {e:Id} {l:List Int} (h:jD E n0 g n rows) (hl:l.length=4):jD E n0 (bJ g e ⟨true,1,l.map bf⟩) n rows:=fun row hr=>by
 obtain⟨nm,u,h1,h2,h3⟩:=h row hr;exact⟨nm,u,h1,h2,h3.write hl⟩
theorem jD.get {E:Nat->Prop} {n0:Nat} {g:Rows} {n:Nat} {rows:List (List AV)} (h:jD E n0 g n rows) {k:Nat} (hk:k<rows.length):∃(nm:ByteArray) (e:Id),rows[k]? =some [.str nm,.own e 0 4]/\nY E n0 g n e 4:=by
 obtain⟨nm,e,h1,_,h3⟩:=h _ (List.getElem_mem hk);exact⟨nm,e,by rw[i5 hk,h1],h3⟩
theorem tX (c:UInt8) (dt:ByteArray):1<=((⟨#[c]⟩:ByteArray)++dt).size:=by
 rw[gK];have:(⟨#[c]⟩:ByteArray).size=1:=rfl;omega
def gP (n0:Nat) (g:Rows) (n:Nat) (v:AV) (k:Nat):Prop:=(k=0/\v=.ck)∨(0<k/\∃(o:Id) (L:List gy),v=.own o 0 k/\L.length=k/\g o=some ⟨true,2,L.map dU⟩/\(∀x∈L,x.bL.size<=64)/\n0<=o.bH/\o.bH<n)
def ij (E:Nat->Prop) (n0:Nat) (g:Rows) (n:Nat) (v:AV) (k:Nat):Prop:=(k=0/\v=.ck)∨(0<k/\∃(o:Id) (rows:List (List AV)),v=.own o 0 k/\rows.length=k/\g o=some ⟨true,2,rows⟩/\jD E n0 g n rows/\¬E o.site/\n0<=o.bH/\o.bH<n)
theorem gP.frame {n0:Nat} {g g':Rows} {n n':Nat} {v:AV} {k:Nat} (h:gP n0 g n v k) (hn:n<=n') (hf:∀i:Id,n0<=i.bH->i.bH<n->g' i=g i):gP n0 g' n' v k:=by
 rcases h with h|⟨h0,o,L,h1,h2,h3,h4,h5,h6⟩
 ·exact .inl h
 ·exact .inr ⟨h0,o,L,h1,h2,(hf o h5 h6).trans h3,h4,h5,ae⟩
theorem ij.frame {E:Nat->Prop} {n0:Nat} {g g':Rows} {n n':Nat} {v:AV} {k:Nat} (h:ij E n0 g n v k) (hn:n<=n') (hf:∀i:Id,n0<=i.bH->i.bH<n->g' i=g i):ij E n0 g' n' v k:=by
 rcases h with h|⟨h0,o,L,h1,h2,h3,h4,h5,h6,h7⟩
 ·exact .inl h
 ·exact .inr ⟨h0,o,L,h1,h2,(hf o h6 h7).trans h3,h4.frame hn fun i _ a b=>hf i a b,h5,h6,ae⟩
theorem gP.fz {n0:Nat} {g:Rows} {n:Nat} {v:AV} {k:Nat} (h:gP n0 g n v k) (hk:0<k):∃L:List gy,L.length=k/\(∀x∈L,x.bL.size<=64)/\∀j,iG g (j+2) v=some (.sl (L.map dU)):=by
 rcases h with h|⟨h0,o,L,h1,h2,h3,h4,h5,h6⟩
 ·omega
 ·subst h1 h2;exact⟨L,rfl,h4,fun j=>eQ (e:=dU) h3 rfl fun x=>by simp[dU,bR,cW,C4,ec]⟩
theorem ij.fz {E:Nat->Prop} {n0:Nat} {g:Rows} {n:Nat} {v:AV} {k:Nat} (h:ij E n0 g n v k) (hk:0<k):∃L:List di,L.length=k/\(∀x∈L,x.bL.size<=64/\x.de.length=4)/\∀j,iG g (j+3) v=some (.sl (L.map dp)):=by
 rcases h with h|⟨h0,o,rows,h1,h2,h3,h4,h5,h6⟩
 ·omega
 ·obtain⟨L,q1,q2,q3⟩:=h4.fz;subst h1;refine⟨L,ae,q2,fun j=>uK h3 ae ?_⟩;rw[List.drop_zero,List.take_of_length_le ae];exact q3 j
theorem gP.cell {n0:Nat} {g:Rows} {n:Nat} {v:AV} {k:Nat} (h:gP n0 g n v k):v.cells=[v]/\v.cell=true:=by
 rcases h with⟨_,rfl⟩|⟨_,o,L,rfl,_⟩<;>exact⟨rfl,rfl⟩
theorem ij.cell {E:Nat->Prop} {n0:Nat} {g:Rows} {n:Nat} {v:AV} {k:Nat} (h:ij E n0 g n v k):v.cells=[v]/\v.cell=true:=by
 rcases h with⟨_,rfl⟩|⟨_,o,L,rfl,_⟩<;>exact⟨rfl,rfl⟩
theorem gP.since {n0 n1:Nat} {g:Rows} {n:Nat} {v:AV} {k:Nat} (h:gP n1 g n v k) (hn:n0<=n1):gP n0 g n v k:=by
 rcases h with h|⟨h0,o,L,h1,h2,h3,h4,h5,h6⟩
 ·exact .inl h
 ·exact .inr ⟨h0,o,L,h1,h2,h3,h4,ae,h6⟩
theorem ij.since {E:Nat->Prop} {n0 n1:Nat} {g:Rows} {n:Nat} {v:AV} {k:Nat} (h:ij E n1 g n v k) (hn:n0<=n1):ij E n0 g n v k:=by
 rcases h with h|⟨h0,o,L,h1,h2,h3,h4,h5,h6⟩
 ·exact .inl h
 ·exact .inr ⟨h0,o,L,h1,h2,h3,fun row hr=>(by
   obtain⟨nm,e,q1,q2,q3,q4,q5⟩:=h4 row hr
   exact⟨nm,e,q1,q2,q3,ae,q5⟩),h5,ae,h6.2⟩
def Cy (E:Nat->Prop) (n0:Nat) (g:Rows) (n:Nat) (v:AV) (k:Nat):Prop:=(k=0/\v=.ck)∨(0<k/\∃e:Id,v=.own e 0 k/\nY E n0 g n e k)
def oz (n0:Nat) (g:Rows) (n:Nat) (r:AV):Prop:=∃(E:Nat->Prop) (vg vt:AV) (kg kt:Nat) (o:Id) (p:aa) (m:Int),r=.agg [vg,vt,.own o 0 1,.int .i64 m]/\gP n0 g n vg kg/\ij E n0 g n vt kt/\0<kg/\0<kt/\kg<=1000/\kt<=1000/\g o=some ⟨true,3,[ad p]⟩/\n0<=o.bH/\o.bH<n
theorem oz.frame {n0:Nat} {g g':Rows} {n n':Nat} {r:AV} (h:oz n0 g n r) (hn:n<=n') (hf:∀i:Id,n0<=i.bH->i.bH<n->g' i=g i):oz n0 g' n' r:=by
 obtain⟨E,vg,vt,kg,kt,o,p,m,h1,h2,h3,h4,h5,h6,h7,h8,h9,we⟩:=h;exact⟨E,vg,vt,kg,kt,o,p,m,h1,h2.frame hn hf,h3.frame hn hf,h4,h5,h6,h7,(hf o h9 we).trans h8,h9,ae⟩
theorem oz.since {n0 n1:Nat} {g:Rows} {n:Nat} {r:AV} (h:oz n1 g n r) (k:n0<=n1):oz n0 g n r:=by
 obtain⟨E,vg,vt,kg,kt,o,p,m,h1,h2,h3,h4,h5,h6,h7,h8,h9,we⟩:=h;exact⟨E,vg,vt,kg,kt,o,p,m,h1,h2.since k,h3.since k,h4,h5,h6,h7,h8,ae,we⟩
def XA (s:ar):Prop:=jC s.ay/\s.ay.bM.length<=1048576/\s.ay.aq.length<=1048576/\s.cw.aq.length=1/\∀t∈s.ay.aq,t.de.length=4
theorem oz.fz {n0:Nat} {g:Rows} {n:Nat} {r:AV} (h:oz n0 g n r):∃s:ar,XA s/\iG g 6 r=some (.agg (aK s)):=by
 obtain⟨E,vg,vt,kg,kt,o,p,m,h1,h2,h3,h4,h5,h6,h7,h8,h9,we⟩:=h;obtain⟨L,a1,a2,a3⟩:=h2.fz h4;obtain⟨T,b1,b2,b3⟩:=h3.fz h5;subst h1;refine⟨⟨⟨L,T⟩,⟨[p]⟩,m⟩,⟨⟨fun x hx=>Nat.le_trans (a2 x hx) (by decide),fun x hx=>Nat.le_trans (b2 x hx).1 (by decide)⟩,aI,aI,rfl,fun x hx=>(b2 x hx).2⟩,?_⟩;have Ur:iG g 5 (.own o 0 1)=some (.sl [ad p]):=eQ (e:=ad) (l:=[p]) h8 rfl fun x=>by simp[ad,bR,cW,ec]
 rw[mo,bR,a3 3,bR,b3 2,bR,Ur,bR,ec,cW]
 rfl
end V

namespace V
open Go.RowKit
attribute [local irreducible] dY wpOps fm Call
theorem RZ {s:aE} (hS:gz s) (a d:Int):pK s (cV (cU s a) d)<=4:=by
 have hF:=hS.form
 have jI:cV (cU s a) d=0∨(0<=cV (cU s a) d/\cV (cU s a) d<=s.bM.length):=by
  unfold cV cU;rw[List.getD_eq_getElem?_getD,List.getD_eq_getElem?_getD]
  rcases ht:s.aq[a.toNat]? with _|t
  ·exact .inl (by simp[DK])
  ·have YS:=List.mem_of_getElem? ht;simp only[Option.getD_some]
   rcases hg:t.de[d.toNat]? with _|g
   ·exact .inl rfl
   ·exact .inr (hF.uN t YS g (List.mem_of_getElem? hg))
 unfold pK
 by_cases h0:cV (cU s a) d=0
 ·rw[if_pos h0];omega
 ·rw[if_neg h0];have hk:(cV (cU s a) d-1).toNat<s.bM.length:=ae;have:=dV (hS.ZZ _ hk).2.1;unfold qx at this;unfold pq;omega
theorem EJ {s:aE} (hS:gz s) (a d b:Int):fQ s a d b<=4:=by
 unfold fQ
 split
 ·exact RZ hS a d
 ·omega
theorem Kf {s:aE} {l:List aa} (hS:gz s) {i:Nat} (hi:i<l.length) {d:Int}:∀b∈lZ s l i d,b.a<l.length/\b.b<l.length/\0<=b.s/\b.s<=4:=by
 intro b hb;unfold lZ at hb
 split at hb
 ·rename_i h;simp only[List.mem_singleton]at hb;subst hb;exact⟨hi,(iz h.1).1,by simp only;omega,EJ hS ..⟩
 ·cases hb
theorem Bq {s:aE} {l:List aa} (hS:gz s):∀b∈eI s l,b.a<l.length/\b.b<l.length/\0<=b.s/\b.s<=4:=by
 intro b hb;simp only[eI,iV,gL,List.mem_flatMap,List.mem_range]at hb;obtain⟨i,hi,j,_,hb⟩:=hb;exact Kf hS hi b hb
theorem tk {s:aE} {l:List aa} (hF:jr l):(eI s l).length<=1000:=by
 have:=xn s l l.length;have:=hF.oG;rw[eI];omega
theorem BN {n:Nat} {bs:List PB} {t:Int} (h:n<2):Mt n bs t:=fun S h0 ⟨y,hy,hf⟩=>by
 have:y=0:=ae;subst this;rw[h0]at hf;cases hf
def pg (s:aE) (l:List aa) (t:Int):Nat:=(leads l.length (fH (bZ t (eI s l)))).length
theorem wR (t:Int):au Tryz.prog 64 [.int .i64 t] (.bool (jj t 1 16)):=by
 refine au.body fx rfl fun hl n0=>?_;clear hl;have h:=mB t 1 16;(repeat(first|((repeat(revert N;apply g7));refine wk @g8 ?_;repeat(apply g6;intro N hN))|((try apply i3);refine⟨_,au.x (h) (sd @g8),?_⟩;apply hN;clear hN N)));exact cZ (b:=jj t 1 16) (.inl rfl) (sd @g8) rfl
structure lW (s:ar):Prop where
 set:gz s.ay
 ud:fS s.ay s.cw.aq
 some:1<=s.cw.aq.length
 DY:jj s.aQ 1 16=true
 holds:CA s.cw.aq.length (eI s.ay s.cw.aq) s.aQ
noncomputable def pM (s:ar):Bool:=@decide (lW s) (Classical.propDecidable _)
theorem rD {s:ar}:pM s=true↔lW s:=by simp[pM]
theorem pN {s:ar} (h:¬lW s):false=pM s:=by simp[pM,h]
theorem Gp {s:ar} (h:lW s):true=pM s:=by simp[pM,h]
theorem RY {s:aE} (hS:gz s) (a d:Int):0<=pK s (cV (cU s a) d):=by
 have hF:=hS.form
 have jI:cV (cU s a) d=0∨(0<=cV (cU s a) d/\cV (cU s a) d<=s.bM.length):=by
  unfold cV cU;rw[List.getD_eq_getElem?_getD,List.getD_eq_getElem?_getD]
  rcases ht:s.aq[a.toNat]? with _|t
  ·exact .inl (by simp[DK])
  ·have YS:=List.mem_of_getElem? ht;simp only[Option.getD_some]
   rcases hg:t.de[d.toNat]? with _|g
   ·exact .inl rfl
   ·exact .inr (hF.uN t YS g (List.mem_of_getElem? hg))
 unfold pK
 by_cases h0:cV (cU s a) d=0
 ·rw[if_pos h0];omega
 ·rw[if_neg h0];have hk:(cV (cU s a) d-1).toNat<s.bM.length:=ae;have:=dV (hS.ZZ _ hk).2.1;unfold qx at this;unfold pq;omega
theorem uu {s:aE} (hS:gz s) (a d b:Int):0<=fQ s a d b/\fQ s a d b<=4:=by
 refine⟨?_,EJ hS a d b⟩;unfold fQ
 split
 ·exact RY hS a d
 ·omega
def dv (s:aE) (f:af->Int) (p:af) (t:Int):Nat->Int
 |0=>0
 |d+1=>dv s f p t d+if 0<=f (bI p d)then fQ s t d (f (bI p d))else 0
def iT (s:aE) (f:af->Int) (p:af) (t:Int):Int:=dv s f p t 4
theorem jK {s:aE} (hS:gz s) (f:af->Int) (p:af) (t:Int):∀d,0<=dv s f p t d/\dv s f p t d<=4*(d:Int)
 |0=>⟨Int.le_refl _,Int.le_refl _⟩
 |d+1=>by
  have:=jK hS f p t d;have hb:=uu hS t d (f (bI p d));simp only[dv]
  split<;>omega
theorem EE {s:aE} {l:List aa} (hA:fS s l) {p:af} (h:0<=ej l p):eE s (ej l p)=true:=by
 unfold ej at h ⊢
 split at h
 ·rename_i h0;rw[if_pos h0];exact hA.2 _ (e7 (iz h0).1)
 ·omega
theorem Ds (s:aE) (hS:gz s) (l:List aa) (hA:fS s l) (p:af) (hx:iB p.eV) (hy:iB p.eR) (t:Int) (ht:eE s t=true):au Tryz.prog 41 [.dZ (ai s),.dZ [.sl (l.map ad)],.agg (ab p),.int .i64 t] (.int .i64 (iT s (ej l) p t)):=by
 refine au.body fx rfl fun hl n0=>?_;clear hl;have hR:=hA.1.pH;have Jd:l.length<=1048576:=by have:=hA.1.oG;omega
 (try((repeat(revert N;apply g7));refine wk @ab.eq_1 ?_;repeat(apply g6;intro N hN)));refine cj (fun n env st=>∃k:Nat,n=(4)-k/\k<=(4)/\env 10=.int .i64 (k:Int)/\env 9=.int .i64 (dv s (ej l) p t k)/\st.get ⟨41000000,n0⟩=some ⟨true,2,[ab p]⟩) (4) ⟨0,ae,ae,sl @ab.eq_1,sl @ab.eq_1,sl @ab.eq_1⟩ ?_;rintro n_a m3 i8 ⟨k,rfl,ale,a10,a9,eK⟩ eC;have a0:=eC 0 g9;have a1:=eC 1 g9;have a3:=eC 3 g9;have a6:=eC 6 g9;simp only[go_sem,↓reduceIte,Nat.reduceEqDiff,Nat.reduceAdd,Nat.reduceSub,Nat.reduceLeDiff,reduceCtorEq,ab]at a0 a1 a3 a6;clear eC
 by_cases hk:(k:Int)<4
 ·have dW:∀{e:Env} {gg:Rows},(e 10=.int .i64 (IntKind.i64.wrap ((k:Int)+1)))->(e 9=.int .i64 (dv s (ej l) p t (k+1)))->(gg ⟨41000000,n0⟩=some ⟨true,2,[ab p]⟩)->∃m0,m0<(4)-k/\∃k:Nat,m0=(4)-k/\k<=(4)/\e 10=.int .i64 (k:Int)/\e 9=.int .i64 (dv s (ej l) p t k)/\gg ⟨41000000,n0⟩=some ⟨true,2,[ab p]⟩:=fun x1 x2 x3=>⟨_,ae,k+1,rfl,ae,(by rw[x1,aZ ae]),x2,x3⟩;have ez:=rY p k (jc ae) hx hy;have qb:=yu l (bI p k) hR Jd;have jI:=jK hS (ej l) p t k
  by_cases h0:0<=ej l (bI p k)
  ·have Eh:=BV s hS.form t k (ej l (bI p k)) ht (EE hA h0) (jc ae);have qc:=uu hS t k (ej l (bI p k))
   have hw:IntKind.i64.wrap (dv s (ej l) p t k+fQ s t k (ej l (bI p k)))=dv s (ej l) p t (k+1):=by
    rw[db ae,dv,if_pos h0]
   (have zF:=tw9 @a10 @a9 @eK @a0 @a1 @a3 @a6 @hk (tw @h0 @ab.eq_1);(repeat(first|((repeat(revert N;apply g7));refine wk zF ?_;repeat(apply g6;intro N hN))|((try apply i3);refine⟨_,au.x (ez) (sd zF),?_⟩;apply hN;clear hN N)|((try apply i3);refine⟨_,au.x (qb) (sd zF),?_⟩;apply hN;clear hN N)|((try apply i3);refine⟨_,au.x (Eh) (sd zF),?_⟩;apply hN;clear hN N)));try clear zF)
   refine dW ?_ ?_ ?_
   all_goals simp only[go_sem,↓reduceIte,Nat.reduceEqDiff,Nat.reduceAdd,Nat.reduceSub,Nat.reduceLeDiff,reduceCtorEq,a10,a9,eK,a0,a1,a3,a6,hw,ab]
  ·have hw:dv s (ej l) p t (k+1)=dv s (ej l) p t k:=by rw[dv,if_neg h0,Int.add_zero]
   (have zF:=tw9 @a10 @a9 @eK @a0 @a1 @a3 @a6 @hk (tw @h0 @ab.eq_1);(repeat(first|((repeat(revert N;apply g7));refine wk zF ?_;repeat(apply g6;intro N hN))|((try apply i3);refine⟨_,au.x (ez) (sd zF),?_⟩;apply hN;clear hN N)|((try apply i3);refine⟨_,au.x (qb) (sd zF),?_⟩;apply hN;clear hN N)));try clear zF)
   refine dW ?_ ?_ ?_
   all_goals simp only[go_sem,↓reduceIte,Nat.reduceEqDiff,Nat.reduceAdd,Nat.reduceSub,Nat.reduceLeDiff,reduceCtorEq,a10,a9,eK,a0,a1,a3,a6,hw,ab]
 ·(try((repeat(revert N;apply g7));refine wk (tw8 @a10 @a9 @eK @a0 @a1 @a3 @a6 @hk) ?_;repeat(apply g6;intro N hN)));exact ed (b:=dv s (ej l) p t k) (.inl rfl) (sd (tw7 @a10 @a9 @eK @a0 @a1 @a3 @a6)) (by rw[show k=4 by omega];rfl)
def mC (la lb:List aa):Bool:=la.all fun t=>decide (ej lb t.aH=t.bK)
theorem Le (s:ar) (hA:fS s.ay s.cw.aq) (x:aa):au Tryz.prog 79 [.dZ (aK s),.agg (ad x)] (.bool (decide (ej s.cw.aq x.aH=x.bK))):=by
 refine au.body fx rfl fun hl n0=>?_;clear hl;have qb:=(yu s.cw.aq x.aH hA.1.pH (by have:=hA.1.oG;omega)).cut mixed (.ptr _ [.int .i64 s.aQ] (.same _ .nil))
 (have zF:=tw3 @aK.eq_1 @ad.eq_1 @ab.eq_1;(repeat(first|((repeat(revert N;apply g7));refine wk zF ?_;repeat(apply g6;intro N hN))|((try apply i3);refine⟨_,au.x (qb) (sd zF),?_⟩;apply hN;clear hN N)));try clear zF)
 exact cZ (b:=decide (ej s.cw.aq x.aH=x.bK)) (.inl rfl) (sd @g8) rfl
noncomputable def CE (s:ar) (l:List aa):Bool:=pM s&&qH s.ay l
theorem yR {s:ar} {l:List aa}:CE s l=true↔lW s/\fS s.ay l:=by simp[CE,rD,mL]
noncomputable def kU (s:ar) (l:List aa):Int:=if CE s l then(if mC s.cw.aq l then 0 else 2)else 1
def mc (s:ar) (l:List aa) (p:af) (t:Int):Bool:=decide (t≠ej l p)&&decide (s.aQ<=iT s.ay (ej l) p t)
def me (s:ar) (l:List aa) (p:af):Int:=match (List.range s.ay.aq.length).find? fun k:Nat=>mc s l p k with
 |some k=>k
 |none=>-1
theorem vN {s:aE} {k:Nat} (h:k<s.aq.length):eE s k=true:=by
 unfold eE;exact jc ae
theorem CG {s:aE} {l:List aa} (hA:fS s l) (p:af):ej l p<0↔ei l p<0:=by
 constructor
 ·intro h
  rcases Int.lt_or_le (ei l p) 0 with h0|h0
  ·exact h0
  ·exfalso;obtain⟨h1,_⟩:=iz h0;have h2:=(dV (hA.2 _ (e7 h1))).1;rw[ej,if_pos h0]at h;omega
 ·intro h;rw[ej,if_neg ae];omega
def fI (ps:List af) (i:Nat):af:=ps.getD i ⟨0,0⟩
theorem gp {ps:List af} {i:Nat} (h:i<ps.length):fI ps i=ps[i]:=by simp[fI,List.getD_eq_getElem?_getD,h]
theorem yB {ps:List af} {i:Nat} (h:i<ps.length):fI ps i∈ps:=by rw[gp h];exact List.getElem_mem h
theorem oM {ps:List af} {i:Nat} (h:i<ps.length):(ps.map ab)[i]? =some (ab (fI ps i)):=by simp[fI,List.getD_eq_getElem?_getD,h]
def js (ps:List af):Prop:=ps.Pairwise fun a b=>jm a b=true
theorem js.at_ {ps:List af} (h:js ps) {i j:Nat} (uj:i<j) (hj:j<ps.length):jm (fI ps i) (fI ps j)=true:=by
 rw[gp hj,gp ae];exact List.pairwise_iff_getElem.1 h i j ae hj uj
def lA (ps:List af) (p:af):Nat:=ps.findIdx fun q=> !jm q p
theorem Dy (ps:List af) (p:af):lA ps p<=ps.length:=List.findIdx_le_length
theorem Ju {ps:List af} {p:af} {x:Nat} (h:x<lA ps p):jm (fI ps x) p=true:=by
 have hx:x<ps.length:=Nat.lt_of_lt_of_le h (Dy ps p);have:=List.not_of_lt_findIdx h;rw[gp hx]
 simpa using this
theorem Dx {ps:List af} {p:af} (hR:js ps) {x:Nat} (h:lA ps p<=x) (hx:x<ps.length):jm (fI ps x) p=false:=by
 have h0:lA ps p<ps.length:=ae
 have h1:jm (fI ps (lA ps p)) p=false:=by
  have:=List.findIdx_getElem (p:=fun q=> !jm q p) (xs:=ps) (w:=h0);rw[gp h0];have e:(!jm ps[lA ps p] p)=true:=this
  simpa using e
 by_cases he:lA ps p=x
 ·rw[<-he];exact h1
 ·have h2:=hR.at_ (show lA ps p<x by omega) hx
  cases hc:jm (fI ps x) p
  ·rfl
  ·rw[gF h2 hc]at h1;cases h1
def pG (ps:List af) (p:af):List af:=if lA ps p<ps.length/\fI ps (lA ps p)=p then ps else ps.take (lA ps p)++p::ps.drop (lA ps p)
theorem z7 (ps:List af) (p:af):(pG ps p).length<=ps.length+1:=by
 unfold pG;have:=Dy ps p
 split
 ·omega
 ·simp;omega
theorem qY (ps:List af) (p x:af):x∈pG ps p↔x=p∨x∈ps:=by
 unfold pG
 split
 ·rename_i h;refine⟨.inr,fun hx=>hx.elim (fun e=>?_) id⟩;rw[e,<-h.2];exact yB h.1
 ·have:x∈ps↔x∈ps.take (lA ps p)++ps.drop (lA ps p):=by rw[List.take_append_drop]
  rw[this];simp only[List.mem_append,List.mem_cons]
  constructor
  ·rintro(h|h|h)
   ·exact .inr (.inl h)
   ·exact .inl h
   ·exact .inr (.inr h)
  ·rintro(h|h|h)
   ·exact .inr (.inl h)
   ·exact .inl h
   ·exact .inr (.inr h)
theorem vD {ps:List af} (hR:js ps) (p:af):js (pG ps p):=by
 unfold pG
 split
 ·exact hR
 ·rename_i mT
  have hd:∀x∈ps.drop (lA ps p),jm p x=true:=fun x hx=>by
   obtain⟨j,hj,rfl⟩:=List.getElem_of_mem hx;rw[List.length_drop]at hj;rw[List.getElem_drop];have iL:lA ps p+j<ps.length:=ae;have h1:=Dx (p:=p) hR (Nat.le_add_right _ j) iL;rw[<-gp iL];refine sa h1 fun he=>?_
   by_cases h0:j=0
   ·subst h0;exact mT ⟨ae,by simpa using he⟩
   ·have:=hR.at_ (show lA ps p<lA ps p+j by omega) iL;rw[he]at this;have h2:=Dx (p:=p) hR i4 (show lA ps p<ps.length by omega);rw[this]at h2;cases h2
  have ht:∀x∈ps.take (lA ps p),jm x p=true:=fun x hx=>by
   obtain⟨j,hj,rfl⟩:=List.getElem_of_mem hx;rw[List.length_take]at hj;rw[List.getElem_take];have:=Ju (ps:=ps) (p:=p) (x:=j) ae
   rwa [gp ae]at this
  refine List.pairwise_append.2 ⟨hR.sublist (List.take_sublist _ _),List.pairwise_cons.2 ⟨hd,hR.sublist (List.drop_sublist _ _)⟩,fun x hx y hy=>?_⟩
  rcases List.mem_cons.1 hy with rfl|hy
  ·exact ht x hx
  ·exact gF (ht x hx) (hd y hy)
theorem yD:∀{ps qs:List af},js ps->js qs->(∀x,x∈ps↔x∈qs)->ps=qs
 |[],[],_,_,_=>rfl
 |[],q::qs,_,_,h=>absurd ((h q).2 (by simp)) (by simp)
 |p::ps,[],_,_,h=>absurd ((h p).1 (by simp)) (by simp)
 |p::ps,q::qs,hp,hq,h=>by
  obtain⟨p1,p2⟩:=List.pairwise_cons.1 hp;obtain⟨q1,q2⟩:=List.pairwise_cons.1 hq
  have e:p=q:=by
   rcases List.mem_cons.1 ((h p).1 (by simp))with e|e
   ·exact e
   ·rcases List.mem_cons.1 ((h q).2 (by simp))with e'|e'
    ·exact e'.symm
    ·have:=FX (q1 p e);rw[p1 q e']at this;cases this
  subst e
  congr 1
  refine yD p2 q2 fun x=>⟨fun hx=>?_,fun hx=>?_⟩
  ·rcases List.mem_cons.1 ((h x).1 (List.mem_cons_of_mem _ hx))with e|e
   ·subst e;have:=p1 x hx;rw[gJ]at this;cases this
   ·exact e
  ·rcases List.mem_cons.1 ((h x).2 (List.mem_cons_of_mem _ hx))with e|e
   ·subst e;have:=q1 x hx;rw[gJ]at this;cases this
   ·exact e
def Xy (σ:aw) (kp:Id->Prop) (ps:List af) (r:AV) (σ':aw):Prop:=
 ∃o:Id,r=.own o 0 ps.length/\σ'.get o=some ⟨true,2,ps.map ab⟩/\σ.next<=σ'.next/\o.bH<σ'.next/\(σ.next<=o.bH∨¬kp o)/\∀x:Id,x.bH<σ.next->kp x->σ'.get x=σ.get x
theorem Tp {ps:List af} {i:Nat} {q:af}:(ps.map ab).set i (ab q)=(ps.set i q).map ab:=List.map_set.symm
def Cs (ps:List af) (p:af) (i:Nat):List af:=(ps++[p]).take (i+1)++ps.drop i
theorem sF (ps:List af) (p:af) {i:Nat} (h:i<=ps.length):(Cs ps p i).length=ps.length+1:=by simp[Cs];omega
theorem VN {ps:List af} {p:af} {i j:Nat} (hi:i<=ps.length) (hj:j<i):fI (Cs ps p i) j=fI ps j:=by
 unfold fI Cs;rw[List.getD_eq_getElem?_getD,List.getD_eq_getElem?_getD,List.getElem?_append_left (by simp;omega),List.getElem?_take,if_pos ae,List.getElem?_append_left ae]
theorem LQ (ps:List af) (p:af):Cs ps p ps.length=ps++[p]:=by
 unfold Cs;rw[List.drop_length,List.append_nil,List.take_of_length_le (by simp)]
theorem Ph {ps:List af} {p:af} {i:Nat} (hi:i<ps.length):(Cs ps p (i+1)).set (i+1) (fI ps i)=Cs ps p i:=by
 refine List.ext_getElem? fun j=>?_;rw[List.getElem?_set,sF ps p ae];unfold Cs
 by_cases hj:i+1=j
 ·subst hj;rw[if_pos rfl,if_pos ae,List.getElem?_append_right (by simp;omega)];simp only[List.length_take,i6,List.length_cons,List.length_nil];rw[show i+1-min (i+1) (ps.length+(0+1))=0 by omega,List.getElem?_drop,Nat.add_zero,i5 hi,gp hi]
 ·rw[if_neg hj]
  by_cases eG:j<i+1
  ·rw[List.getElem?_append_left (by simp;omega),List.getElem?_append_left (by simp;omega),List.getElem?_take,List.getElem?_take,if_pos ae,if_pos eG]
  ·rw[List.getElem?_append_right (by simp;omega),List.getElem?_append_right (by simp;omega)];simp only[List.length_take,i6,List.length_cons,List.length_nil,List.getElem?_drop]
   congr 1
   omega
theorem R3 {ps:List af} {p:af} {i:Nat} (hi:i<=ps.length):(Cs ps p i).set i p=ps.take i++p::ps.drop i:=by
 refine List.ext_getElem? fun j=>?_;rw[List.getElem?_set,sF ps p hi];unfold Cs
 by_cases hj:i=j
 ·subst hj;rw[if_pos rfl,if_pos ae,List.getElem?_append_right (by simp;omega)];simp[Nat.min_eq_left hi]
 ·rw[if_neg hj]
  by_cases eG:j<i
  ·rw[List.getElem?_append_left (by simp;omega),List.getElem?_append_left (by simp;omega),List.getElem?_take,List.getElem?_take,if_pos ae,if_pos eG,List.getElem?_append_left ae]
  ·rw[List.getElem?_append_right (by simp;omega),List.getElem?_append_right (by simp;omega)];simp only[List.length_take,i6,List.length_cons,List.length_nil];rw[show j-min i ps.length=(j-i-1)+1 by omega,List.getElem?_cons_succ]
   congr 1
   omega
theorem D9 {X:gO} {Q:Ex->Env->aw->Prop} {N:Env->aw->Prop} {c:VC} {env:Env} {σ:aw} {id:Nat} (I:Env->aw->Prop) (h2:∀e s,I e s->N e s) (h1:∀N':Env->aw->Prop,(∀e s,I e s->N' e s)->dY X c (ba id (dc N' Q)) env σ):dY X c (ba id (dc N Q)) env σ:=h1 N h2
theorem s8 (ps:List af) (hR:js ps) (hlen:ps.length<=1048576) (p:af) (o:Id) (σ:aw) (ho:σ.get o=some ⟨true,2,ps.map ab⟩) (qd:o.bH<σ.next):
  Call Tryz.prog 34 [.own o 0 ps.length,.agg (ab p)] σ (Xy σ (fun x=>(x=o)=False) (pG ps p)):=by
 refine fG fx rfl fun fM=>?_;clear fM;have wi:=cR qd;have hlw:=Dy ps p;have Ek:(ps.map ab).length=ps.length:=by simp
 (try((repeat(revert N;apply g7));refine wk (tw @ab.eq_1 @wi) ?_;repeat(apply g6;intro N hN)));refine D9 (fun e s=>e 5=.int .i64 (lA ps p:Int)/\e 0=.own o 0 ps.length/\e 3=.ptr ⟨34000000,σ.next⟩ 0 0/\s.get ⟨34000000,σ.next⟩=some ⟨true,2,[ab p]⟩/\s.get o=some ⟨true,2,ps.map ab⟩/\σ.next<s.next/\∀x:Id,x.bH<σ.next->s.get x=σ.get x) ?_ ?_
 ·rintro e s ⟨f5,f0,f3,fg0,fg1,fn,ffr⟩;apply hN;clear hN N;have Q6:=cR (i:=o) (n:=s.next) ae
  obtain⟨a,ha⟩:∃a,lA ps p=a:=⟨_,rfl⟩
  rw[ha]at f5 hlw
  by_cases hex:a<ps.length/\fI ps a=p
  ·have eG:(a:Int)<(ps.length:Int):=ae;have hg:=oM hex.1;have hx:decide ((fI ps a).eV=p.eV)=true:=decide_eq_true (by rw[hex.2]);have hy:decide ((fI ps a).eR=p.eR)=true:=decide_eq_true (by rw[hex.2]);(try((repeat(revert N;apply g7));refine wk (tw9 @f5 @f0 @f3 @fg0 @fg1 @eG @hg @hx (tw3 @hy @Ek @ab.eq_1)) ?_;repeat(apply g6;intro N hN)));have hp:pG ps p=ps:=by unfold pG;rw[ha,if_pos hex]
   rw[hp];exact eH (.inl rfl) (vs:=[.own o 0 ps.length]) (sd @g8) ⟨o,rfl,sd @fg1,aI,aI,.inr (by simp),fun x hx _=>sd (ffr x hx)⟩
  refine Cv (fun N hN=>?_);refine mb (fun e s=>e 5=.int .i64 (a:Int)/\e 0=.own o 0 ps.length/\e 3=.ptr ⟨34000000,σ.next⟩ 0 0/\s.get ⟨34000000,σ.next⟩=some ⟨true,2,[ab p]⟩/\s.get o=some ⟨true,2,ps.map ab⟩/\σ.next<s.next/\∀x:Id,x.bH<σ.next->s.get x=σ.get x) ?_ ?_
  ·clear f5 f0 f3 fg0 fg1 fn ffr Q6;rintro e s ⟨f5,f0,f3,fg0,fg1,fn,ffr⟩;apply hN;clear hN N;have Q6:=cR (i:=o) (n:=s.next) ae;have hvb:=cR (i:=⟨34000000,σ.next⟩) (n:=s.next) fn;have e1:ps.length+1<=16777216:=ae;have AY:ps.map ab++[[.int .i64 p.eV,.int .i64 p.eR]]=(Cs ps p ps.length).map ab:=by rw[LQ];simp[ab]
   have qX:IntKind.i64.wrap ((ps.length:Int)+1-1)=(ps.length:Int):=by rw[db ae];omega
   have hp:pG ps p=ps.take a++p::ps.drop a:=by unfold pG;rw[ha,if_neg hex]
   have P4:((⟨34000000,σ.next⟩:Id)=o)=False:=by
    refine eq_false fun h=>?_;rw[<-h]at qd;exact Nat.lt_irrefl _ qd
   (try((repeat(revert N;apply g7));refine wk (tw9 @f5 @f0 @f3 @fg0 @fg1 @Q6 @hvb @P4 (tw7 @Ek @e1 @AY @qX @Int.natCast_add @Int.cast_ofNat_Int @ab.eq_1)) ?_;repeat(apply g6;intro N hN)))
   refine cj (fun m env st=>∃i:Nat,m=i/\a<=i/\i<=ps.length/\env 6=.int .i64 (i:Int)/\st.get ⟨34006003,s.next⟩=some ⟨true,2,(Cs ps p i).map ab⟩/\st.get ⟨34000000,σ.next⟩=some ⟨true,2,[ab p]⟩/\s.next<st.next/\∀x:Id,x.bH<σ.next->(x=o)=False->st.get x=σ.get x) ps.length ⟨ps.length,rfl,hlw,Nat.le_refl _,sd (tw3 @qX @Int.natCast_add @Int.cast_ofNat_Int),sd @AY,sd (tw4 @fg0 @hvb @P4 @ab.eq_1),aI,fun x hx uV=>by
    have h1:=cR (i:=x) (n:=s.next) ae;have h2:=ffr x hx
    simp only[go_sem,↓reduceIte,Nat.reduceEqDiff,Nat.reduceAdd,Nat.reduceSub,Nat.reduceLeDiff,reduceCtorEq,h1,h2,uV]⟩ ?_
   rintro m m4 i9 ⟨i,hmi,bl,ble,b6,bg0,bg1,bn,eB⟩ bkp;have b0:=bkp 0 g9;have b3:=bkp 3 g9;have b5:=bkp 5 g9;simp only[go_sem,↓reduceIte,Nat.reduceEqDiff,Nat.reduceAdd,Nat.reduceSub,Nat.reduceLeDiff,reduceCtorEq,f0,f3,f5,ab]at b0 b3 b5;clear bkp;have Q3:((Cs ps p i).map ab).length=ps.length+1:=by rw[List.length_map,sF ps p ble]
   by_cases hia:(a:Int)<(i:Int)
   ·obtain⟨k,rfl⟩:∃k,i=k+1:=⟨i-1,ae⟩
    have iD:k<ps.length:=ae;have AZ:IntKind.i64.wrap (((k+1:Nat):Int)-1)=(k:Int):=by rw[db ae];omega
    have hq:((Cs ps p (k+1)).map ab)[k]? =some (ab (fI ps k)):=by rw[oM (by rw[sF ps p ble];omega),VN ble (Nat.lt_succ_self _)]
    have GL:∃z,((Cs ps p (k+1)).map ab)[k+1]? =some (ab z):=⟨_,oM (by rw[sF ps p ble];omega)⟩
    obtain⟨z,GL⟩:=GL;have fV:((Cs ps p (k+1)).map ab).set (k+1) (ab (fI ps k))=(Cs ps p k).map ab:=by rw[Tp,Ph iD]
    have c1:(k:Int)<(ps.length:Int)+1:=ae;have c2:(k:Int)+1<(ps.length:Int)+1:=ae;have c3:(0:Int)<=(k:Int)+1:=ae;have c4:((k:Int)+1).toNat=k+1:=ae;have c5:(a:Int)<(k:Int)+1:=ae;have c6:IntKind.i64.wrap ((k:Int)+1-1)=(k:Int):=by rw[db ae];omega
    rw[ab]at fV hq GL;(try((repeat(revert N;apply g7));refine wk (tw9 @b0 @b3 @b5 @b6 @bg0 @bg1 @hia @AZ (tw9 @hq @GL @fV @Q3 @c1 @c2 @c3 @c4 (tw4 @c5 @c6 @Int.natCast_add @Int.cast_ofNat_Int))) ?_;repeat(apply g6;intro N hN)))
    exact⟨k,ae,k,rfl,ae,ae,sd @c6,sd @fV,sd (tw @bg1 @P4),aI,fun x hx uV=>by
     have h1:=cR (i:=x) (n:=s.next) ae;have h2:=eB x hx uV
     simp only[go_sem,↓reduceIte,Nat.reduceEqDiff,Nat.reduceAdd,Nat.reduceSub,Nat.reduceLeDiff,reduceCtorEq,h1,h2]⟩
   ·obtain rfl:i=a:=ae;have fV:((Cs ps p i).map ab).set i (ab p)=(pG ps p).map ab:=by rw[Tp,R3 hlw,hp]
    have GL:∃z,((Cs ps p i).map ab)[i]? =some (ab z):=⟨_,oM (by rw[sF ps p ble];omega)⟩
    obtain⟨z,GL⟩:=GL;have mA:(pG ps p).length=ps.length+1:=by rw[hp];simp;omega
    have c1:(i:Int)<(ps.length:Int)+1:=ae;rw[ab]at fV GL;(try((repeat(revert N;apply g7));refine wk (tw9 @b0 @b3 @b5 @b6 @bg0 @bg1 @hia @GL (tw6 @fV @Q3 @c1 @Int.natCast_add @Int.cast_ofNat_Int @ab.eq_1)) ?_;repeat(apply g6;intro N hN)));rw[<-mA]
    exact eH (.inl rfl) (vs:=[.own ⟨34006003,s.next⟩ 0 (pG ps p).length]) (sd (tw @b0 @mA)) ⟨⟨34006003,s.next⟩,rfl,sd @fV,aI,aI,.inl aI,fun x hx uV=>by
     have h1:=cR (i:=x) (n:=s.next) ae;have h2:=eB x hx uV
     simp only[go_sem,↓reduceIte,Nat.reduceEqDiff,Nat.reduceAdd,Nat.reduceSub,Nat.reduceLeDiff,reduceCtorEq,h1,h2]⟩
  ·intro N hN
   by_cases SN:(a:Int)<(ps.length:Int)
   ·have hg:=oM (ps:=ps) (i:=a) ae
    by_cases hx:(fI ps a).eV=p.eV
    ·have xE:decide ((fI ps a).eV=p.eV)=true:=decide_eq_true hx;have hy':decide ((fI ps a).eR=p.eR)=false:=decide_eq_false fun h=>hex ⟨ae,zY hx h⟩;(try((repeat(revert N;apply g7));refine wk (tw9 @f5 @f0 @f3 @fg0 @fg1 @SN @hg @xE (tw3 @hy' @Ek @ab.eq_1)) ?_;repeat(apply g6;intro N hN)));exact⟨sd @f5,sd @f0,sd @f3,sd (tw @fg0 @ab.eq_1),sd @fg1,aI,fun x hx=>sd (ffr x hx)⟩
    ·have xE:decide ((fI ps a).eV=p.eV)=false:=decide_eq_false hx;(try((repeat(revert N;apply g7));refine wk (tw9 @f5 @f0 @f3 @fg0 @fg1 @SN @hg @xE (tw3 @Bool.false_and @Ek @ab.eq_1)) ?_;repeat(apply g6;intro N hN)));exact⟨sd @f5,sd @f0,sd @f3,sd (tw @fg0 @ab.eq_1),sd @fg1,aI,fun x hx=>sd (ffr x hx)⟩
   ·(try((repeat(revert N;apply g7));refine wk (tw8 @f5 @f0 @f3 @fg0 @fg1 @SN @Ek @ab.eq_1) ?_;repeat(apply g6;intro N hN)));exact⟨sd @f5,sd @f0,sd @f3,sd (tw @fg0 @ab.eq_1),sd @fg1,aI,fun x hx=>sd (ffr x hx)⟩
 intro N hN;refine cj (fun m env st=>∃a:Nat,m=a/\lA ps p<=a/\a<=ps.length/\env 5=.int .i64 (a:Int)/\st.get ⟨34000000,σ.next⟩=some ⟨true,2,[ab p]⟩/\st.get o=some ⟨true,2,ps.map ab⟩/\σ.next<st.next/\∀x:Id,x.bH<σ.next->st.get x=σ.get x) ps.length ⟨ps.length,rfl,hlw,Nat.le_refl _,sd @g8,sd @ab.eq_1,sd (tw @wi @ho),aI,fun x hx=>by have:=cR hx;simp only[go_sem,↓reduceIte,Nat.reduceEqDiff,Nat.reduceAdd,Nat.reduceSub,Nat.reduceLeDiff,reduceCtorEq,this]⟩ ?_;rintro m m3 i8 ⟨a,hma,al,ale,a5,eK,jx,an,eC⟩ akp;have a0:=akp 0 g9;have a3:=akp 3 g9;simp only[go_sem,↓reduceIte,Nat.reduceEqDiff,Nat.reduceAdd,Nat.reduceSub,Nat.reduceLeDiff,reduceCtorEq,ab]at a0 a3;clear akp
 by_cases h0:(0:Int)<(a:Int)
 ·obtain⟨b,rfl⟩:∃b,a=b+1:=⟨a-1,ae⟩
  have iy:b<ps.length:=ae;have qc:(b:Int)<(ps.length:Int):=ae;have hg:=oM iy;have hw:IntKind.i64.wrap (((b+1:Nat):Int)-1)=(b:Int):=by rw[db ae];omega
  have hq:=nK (fI ps b) p
  cases hc:jm (fI ps b) p
  ·rw[hc]at hq
   (have zF:=tw9 @a0 @a3 @a5 @eK @jx @h0 @qc @hg (tw3 @hw @Ek @ab.eq_1);(repeat(first|((repeat(revert N;apply g7));refine wk zF ?_;repeat(apply g6;intro N hN))|((try apply i3);refine⟨_,au.x (hq) (sd zF),?_⟩;apply hN;clear hN N)));try clear zF)
   refine⟨b,ae,b,rfl,?_,ae,sd @hw,sd (tw @eK @ab.eq_1),sd @jx,aI,fun x hx=>sd (eC x hx)⟩
   rcases Nat.lt_or_ge b (lA ps p)with h|h
   ·rw[Ju h]at hc;cases hc
   ·exact h
  ·rw[hc]at hq
   have lp:lA ps p=b+1:=by
    rcases Nat.lt_or_ge b (lA ps p)with h|h
    ·omega
    ·have:=Dx (p:=p) hR h iy;rw[hc]at this;cases this
   (have zF:=tw9 @a0 @a3 @a5 @eK @jx @h0 @qc @hg (tw3 @hw @Ek @ab.eq_1);(repeat(first|((repeat(revert N;apply g7));refine wk zF ?_;repeat(apply g6;intro N hN))|((try apply i3);refine⟨_,au.x (hq) (sd zF),?_⟩;apply hN;clear hN N)));try clear zF)
   exact⟨sd (tw @a5 @lp),sd @a0,sd @a3,sd (tw @eK @ab.eq_1),sd @jx,aI,fun x hx=>sd (eC x hx)⟩
 ·have lp:lA ps p=a:=ae;(try((repeat(revert N;apply g7));refine wk (tw8 @a0 @a3 @a5 @eK @jx @h0 @Ek @ab.eq_1) ?_;repeat(apply g6;intro N hN)));exact⟨sd (tw @a5 @lp),sd @a0,sd @a3,sd (tw @eK @ab.eq_1),sd @jx,aI,fun x hx=>sd (eC x hx)⟩
end V
end Go.Proofs.YtoodopepphhpoaaGreatDoor
