/- Wounds, on both sides. -/
import Derived.Test.YtoodopepphhpoaaGreatDoorTtB
import Derived.Test.YtoodopepphhpoaaGreatDoorTtF
import Derived.Test.YtoodopepphhpoaaGreatDoorTtD
import Derived.Test.YtoodopepphhpoaaGreatDoorTtC
import Derived.Test.YtoodopepphhpoaaGreatDoorTtE
set_option linter.unusedVariables false
set_option linter.unusedSimpArgs false
set_option maxRecDepth 100000
set_option maxHeartbeats 16000000
namespace Go.Proofs.YtoodopepphhpoaaGreatDoor
namespace V
open Go.RowKit
attribute [local irreducible] dY wpOps fm Call
theorem Dp (s:ar) (hA:fS s.ay s.cw.aq) (x:aa):au Tryz.prog 161 [.agg (aK s),.agg (ad x)] (.bool (Mo s x)):=by
 refine au.body fx rfl fun hl n0=>?_;clear hl;have h:=MI s.cw.aq x.aH hA.1.pH (by have:=hA.1.oG;omega);rw[ab]at h;(repeat(first|((repeat(revert N;apply g7));refine wk (tw @aK.eq_1 @ad.eq_1) ?_;repeat(apply g6;intro N hN))|((try apply i3);refine⟨_,au.x (h) (sd (tw @aK.eq_1 @ad.eq_1)),?_⟩;apply hN;clear hN N)));exact cZ (b:=decide (ej s.cw.aq x.aH=x.bK)) (.inl rfl) (sd @g8) rfl
theorem Vh (qs:List af) (p:af) (hR:js qs) (hl:qs.length<=1048576):au Tryz.prog 129 [.sl (qs.map ab),.agg (ab p)] (.bool (decide (p∈qs))):=by
 refine au.body fx rfl fun fM n0=>?_;clear fM;have h:=Hd qs p hR hl;rw[Rm hR,ab]at h;(repeat(first|((repeat(revert N;apply g7));refine wk @ab.eq_1 ?_;repeat(apply g6;intro N hN))|((try apply i3);refine⟨_,au.x (h) (sd @ab.eq_1),?_⟩;apply hN;clear hN N)));exact cZ (b:=decide (p∈qs)) (.inl rfl) (sd @g8) rfl
theorem Co {s:ar} {a:List aa} {k:Nat} (h:k<a.length):fj s (a.take (k+1))=fj s (a.take k)++if Mo s (bc a k)=true then[]else[(bc a k).aH]:=by
 unfold fj;rw[List.take_succ_eq_append_getElem h,List.filter_append,List.map_append,ev h]
 congr 1
 cases hb:Mo s a[k]<;>simp[hb]
theorem vM (s:ar) (a:List aa):(fj s a).length<=a.length:=by
 unfold fj;rw[List.length_map];exact List.length_filter_le _ _
def WS (L:List af) (v:AV) (g:Rows) (n:Nat):Prop:=(L=[]/\v=.ck)∨∃u:Id,v=.own u 0 L.length/\g u=some ⟨true,2,L.map ab⟩/\u.bH<n/\0<L.length/\u.site=128006004
theorem WS.frame {L:List af} {v v':AV} {g g':Rows} {n n':Nat} (h:WS L v g n) (he:v'=v) (hn:n<=n') (hf:∀x:Id,x.bH<n->g' x=g x):WS L v' g' n':=by
 subst he
 rcases h with h|⟨u,h1,h2,h3,h4⟩
 ·exact .inl h
 ·exact .inr ⟨u,h1,(hf u h3).trans h2,ae,h4⟩
theorem VG (s:ar) (hA:fS s.ay s.cw.aq) (a:List aa) (ha:a.length<=1048576):∃w,(w=.ck/\fj s a=[]∨w=.sl ((fj s a).map ab))/\au Tryz.prog 128 [.agg (aK s),.agg [.sl (a.map ad)]] w:=by
 refine⟨if fj s a=[]then .ck else .sl ((fj s a).map ab),?_,?_⟩
 ·by_cases h:fj s a=[]
  ·exact .inl ⟨if_pos h,h⟩
  ·exact .inr (if_neg h)
 refine au.body fx rfl fun fM n0=>?_;clear fM;have eW:(a.map ad).length=a.length:=by simp
 (try((repeat(revert N;apply g7));refine wk @eW ?_;repeat(apply g6;intro N hN)));refine cj (fun n env st=>∃k:Nat,n=(a.length)-k/\k<=(a.length)/\env 11=.int .i64 (k:Int)/\st.get ⟨128000000,n0⟩=some ⟨true,4,[aK s]⟩/\(n0+1<=st.next/\WS (fj s (a.take k)) (env 5) st.get st.next)) (a.length) ⟨0,ae,ae,sl (tw @eW @aK.eq_1),sl (tw @eW @aK.eq_1),by(try dsimp only);exact⟨ae,.inl ⟨rfl,sd @g8⟩⟩⟩ ?_;rintro n_b m4 i9 ⟨k,rfl,ble,wb,bg0,bI0⟩ eB;have b2:=eB 2 g9;have b9:=eB 9 g9;have CJ:=eB 10 g9;simp only[go_sem,↓reduceIte,Nat.reduceEqDiff,Nat.reduceAdd,Nat.reduceSub,Nat.reduceLeDiff,reduceCtorEq,eW,aK]at b2 b9 CJ;clear eB;obtain⟨bn,b5⟩:=bI0;have vS:=cR (i:=⟨128000000,n0⟩) (n:=i9.next) aI
 by_cases hk:(k:Int)<(a.length:Int)
 ·have ep:∀{e:Env} {gg:Rows} {nx:Nat},(e 11=.int .i64 (IntKind.i64.wrap ((k:Int)+1)))->(gg ⟨128000000,n0⟩=some ⟨true,4,[aK s]⟩)->(n0+1<=nx/\WS (fj s (a.take (k+1))) (e 5) gg nx)->∃m0,m0<(a.length)-k/\∃k:Nat,m0=(a.length)-k/\k<=(a.length)/\e 11=.int .i64 (k:Int)/\gg ⟨128000000,n0⟩=some ⟨true,4,[aK s]⟩/\(n0+1<=nx/\WS (fj s (a.take k)) (e 5) gg nx):=fun x1 x2 x3=>⟨_,ae,k+1,rfl,ae,(by rw[x1,aZ ae]),x2,x3⟩;have iD:k<a.length:=ae;have gm:=fZ iD;have qe:=Dp s hA (bc a k);have mU:=Co (s:=s) iD;have hlen:=vM s (a.take k);rw[List.length_take]at hlen;rw[aK]at qe;generalize bc a k=x at gm qe mU;generalize fj s (a.take k)=M at b5 mU hlen
  cases hb:Mo s x
  ·rw[hb]at qe mU;rw[if_neg (by simp)]at mU;have GN:(fj s (a.take (k+1))).map ab=M.map ab++[[.int .i64 x.aH.eV,.int .i64 x.aH.eR]]:=by rw[mU,List.map_append];rfl
   have nI:(fj s (a.take (k+1))).length=M.length+1:=by rw[mU];simp
   rcases b5 with⟨hM,b5⟩|⟨u,b5,hug,NU,mW,Xk⟩
   ·subst hM
    (have zF:=tw9 @wb @bg0 @b2 @b9 @CJ @hk @gm @eW (tw4 @vS @b5 @aK.eq_1 @ad.eq_1);(repeat(first|((repeat(revert N;apply g7));refine wk zF ?_;repeat(apply g6;intro N hN))|((try apply i3);refine⟨_,au.x (qe) (sd zF),?_⟩;apply hN;clear hN N)));try clear zF)
    refine ep ?_ ?_ (by(try dsimp only);exact⟨ae,.inr ⟨⟨128006004,i9.next+1+1+1⟩,by rw[nI];simp only[go_sem,↓reduceIte,Nat.reduceEqDiff,Nat.reduceAdd,Nat.reduceSub,Nat.reduceLeDiff,reduceCtorEq]<;>rfl,by rw[GN];simp only[go_sem,↓reduceIte,Nat.reduceEqDiff,Nat.reduceAdd,Nat.reduceSub,Nat.reduceLeDiff,reduceCtorEq]<;>rfl,aI,by rw[nI];omega,rfl⟩⟩)
    all_goals simp only[go_sem,↓reduceIte,Nat.reduceEqDiff,Nat.reduceAdd,Nat.reduceSub,Nat.reduceLeDiff,reduceCtorEq,wb,bg0,b2,b9,CJ,vS,eW,aK]
   ·have vu:=cR NU;have GI:(M.map ab).length=M.length:=by simp
    have UE:M.length<=16777215:=ae;have ux:=j9 Xk (b:=128000000) (v:=n0) (by decide)
    (have zF:=tw9 @wb @bg0 @b2 @b9 @CJ @hk @gm @eW (tw9 @vS @b5 @hug @vu @GI @UE @ux @aK.eq_1 @ad.eq_1);(repeat(first|((repeat(revert N;apply g7));refine wk zF ?_;repeat(apply g6;intro N hN))|((try apply i3);refine⟨_,au.x (qe) (sd zF),?_⟩;apply hN;clear hN N)));try clear zF)
    refine ep ?_ ?_ (by(try dsimp only);exact⟨ae,.inr ⟨⟨128006004,i9.next+1+1+1⟩,by rw[nI];simp only[go_sem,↓reduceIte,Nat.reduceEqDiff,Nat.reduceAdd,Nat.reduceSub,Nat.reduceLeDiff,reduceCtorEq]<;>rfl,by rw[GN];simp only[go_sem,↓reduceIte,Nat.reduceEqDiff,Nat.reduceAdd,Nat.reduceSub,Nat.reduceLeDiff,reduceCtorEq]<;>rfl,aI,by rw[nI];omega,rfl⟩⟩)
    all_goals simp only[go_sem,↓reduceIte,Nat.reduceEqDiff,Nat.reduceAdd,Nat.reduceSub,Nat.reduceLeDiff,reduceCtorEq,wb,bg0,b2,b9,CJ,vS,ux,eW,aK]
  ·rw[hb]at qe mU;rw[if_pos rfl,List.append_nil]at mU
   (have zF:=tw9 @wb @bg0 @b2 @b9 @CJ @hk @gm @eW (tw3 @vS @aK.eq_1 @ad.eq_1);(repeat(first|((repeat(revert N;apply g7));refine wk zF ?_;repeat(apply g6;intro N hN))|((try apply i3);refine⟨_,au.x (qe) (sd zF),?_⟩;apply hN;clear hN N)));try clear zF)
   refine ep ?_ ?_ (by(try dsimp only);exact⟨ae,by rw[mU];exact b5.frame (sd @g8) ae fun x hx=>(by have h9:=cR hx;simp only[go_sem,↓reduceIte,Nat.reduceEqDiff,Nat.reduceAdd,Nat.reduceSub,Nat.reduceLeDiff,reduceCtorEq,h9])⟩)
   all_goals simp only[go_sem,↓reduceIte,Nat.reduceEqDiff,Nat.reduceAdd,Nat.reduceSub,Nat.reduceLeDiff,reduceCtorEq,wb,bg0,b2,b9,CJ,vS,eW,aK]
 ·have l8:k=a.length:=ae;subst l8;rw[List.take_length]at b5;(try((repeat(revert N;apply g7));refine wk (tw7 @wb @bg0 @b2 @b9 @CJ @hk @eW) ?_;repeat(apply g6;intro N hN)))
  rcases b5 with⟨hM,b5⟩|⟨u,b5,hug,NU,mW,Xk⟩
  ·rw[if_pos hM];exact lu (.inl rfl) (vs:=[.ck]) (sd @b5) (by simp only[gH,mN])
  ·rw[if_neg (by intro h;rw[h]at mW;simp at mW)]
   exact lu (.inl rfl) (vs:=[.own u 0 (fj s a).length]) (sd @b5) (by
    simp only[gH]
    exact eQ (e:=ab) (n:=5) hug rfl fun x=>by simp[ab,bR,cW,ec])
theorem Gy {s:ar} {a:List aa} {qs:List af} (h:iJ a) (i:Nat):Be s a qs i=(decide (fI qs i∈fj s a)&&(decide (i=0)||jm (fI qs (i-1)) (fI qs i))):=by
 unfold Be;rw[<-Bool.and_assoc]
 congr 1
 rw[Bool.eq_iff_iff,Bool.and_eq_true,decide_eq_true_eq,decide_eq_true_eq,O0 h,Bool.not_eq_true']
theorem KY (s:ar) (hA:fS s.ay s.cw.aq) (a:List aa) (hF:iJ a) (ha:a.length<=1048576) (qs:List af) (hq:qs.length<=1048576):au Tryz.prog 85 [.agg (aK s),.agg [.sl (a.map ad)],.sl (qs.map ab)] (.bool (qu s a qs)):=by
 refine au.body fx rfl fun fM n0=>?_;clear fM;obtain⟨w,hw,h1⟩:=VG s hA a ha;have nI:=vM s a
 have jI:∀p,au Tryz.prog 129 [w,.agg (ab p)] (.bool (decide (p∈fj s a))):=fun p=>by
  have h:=Vh (fj s a) p (O1 hF) ae
  rcases hw with⟨rfl,hs⟩|rfl
  ·rw[hs]at h ⊢;exact h.cut mixed (.ck (.same _ .nil))
  ·exact h
 have P7:∀g n,fz g (n+1) w=some w:=fun g n=>by
  rcases hw with⟨rfl,_⟩|rfl
  ·exact aM _ _
  ·exact bP _ _ _
 have eW:(qs.map ab).length=qs.length:=by simp
 rw[aK]at h1 ⊢;(repeat(first|((repeat(revert N;apply g7));refine wk @eW ?_;repeat(apply g6;intro N hN))|((try apply i3);refine⟨_,au.x (h1) (sd @eW),?_⟩;apply hN;clear hN N)));refine cj (fun n env st=>∃k:Nat,n=(qs.length)-k/\k<=(qs.length)/\env 15=.int .i64 (k:Int)/\(∀j:Nat,j<k->Be s a qs j=true)) (qs.length) ⟨0,ae,ae,sl @eW,fun _ h=>absurd h (Nat.not_lt_zero _)⟩ ?_;rintro n_f env_f st_f ⟨k,rfl,fle,f15,fA0⟩ ffr;have f2:=ffr 2 g9;have f7:=ffr 7 g9;have f13:=ffr 13 g9;have f14:=ffr 14 g9;simp only[go_sem,↓reduceIte,Nat.reduceEqDiff,Nat.reduceAdd,Nat.reduceSub,Nat.reduceLeDiff,reduceCtorEq,eW]at f2 f7 f13 f14;clear ffr
 by_cases hk:(k:Int)<(qs.length:Int)
 ·have qh:∀{e:Env},(e 15=.int .i64 (IntKind.i64.wrap ((k:Int)+1)))->(Be s a qs k=true)->∃m0,m0<(qs.length)-k/\∃k:Nat,m0=(qs.length)-k/\k<=(qs.length)/\e 15=.int .i64 (k:Int)/\(∀j:Nat,j<k->Be s a qs j=true):=fun x1 x2=>⟨_,ae,k+1,rfl,ae,(by rw[x1,aZ ae]),(all_succ fA0 x2)⟩;have iD:k<qs.length:=ae;have gm:=oM iD;have hi:=jI (fI qs k);have Mj:=Gy (s:=s) (qs:=qs) hF k;rw[ab]at hi
  cases b1:decide (fI qs k∈fj s a)
  ·rw[b1]at hi Mj;rw[Bool.false_and]at Mj;have mT:=Pv iD Mj
   (have zF:=tw9 @f15 @f2 @f7 @f13 @f14 @hk @gm @eW (tw @P7 @ab.eq_1);(repeat(first|((repeat(revert N;apply g7));refine wk zF ?_;repeat(apply g6;intro N hN))|((try apply i3);refine⟨_,au.x (hi) (sd zF),?_⟩;apply hN;clear hN N)));try clear zF)
   exact cZ (b:=false) (.inl rfl) (sd @g8) mT.symm
  ·rw[b1]at hi Mj;rw[Bool.true_and]at Mj
   by_cases qy:(0:Int)<(k:Int)
   ·have xD:k-1<qs.length:=ae;have KL:=oM xD;have qX:IntKind.i64.wrap ((k:Int)-1)=((k-1:Nat):Int):=by rw[db ae];omega
    have qU:0<=((k-1:Nat):Int):=ae;have hl:=Jo (fI qs (k-1)) (fI qs k);have Yg:decide (k=0)=false:=decide_eq_false ae;rw[Yg,Bool.false_or]at Mj;rw[ab,ab]at hl
    cases b2:jm (fI qs (k-1)) (fI qs k)
    ·rw[b2]at hl Mj;have mT:=Pv iD Mj
     (have zF:=tw9 @f15 @f2 @f7 @f13 @f14 @hk @qy @gm (tw6 @KL @qX @qU @eW @P7 @ab.eq_1);(repeat(first|((repeat(revert N;apply g7));refine wk zF ?_;repeat(apply g6;intro N hN))|((try apply i3);refine⟨_,au.x (hi) (sd zF),?_⟩;apply hN;clear hN N)|((try apply i3);refine⟨_,au.x (hl) (sd zF),?_⟩;apply hN;clear hN N)));try clear zF)
     exact cZ (b:=false) (.inl rfl) (sd @g8) mT.symm
    ·rw[b2]at hl Mj
     (have zF:=tw9 @f15 @f2 @f7 @f13 @f14 @hk @qy @gm (tw6 @KL @qX @qU @eW @P7 @ab.eq_1);(repeat(first|((repeat(revert N;apply g7));refine wk zF ?_;repeat(apply g6;intro N hN))|((try apply i3);refine⟨_,au.x (hi) (sd zF),?_⟩;apply hN;clear hN N)|((try apply i3);refine⟨_,au.x (hl) (sd zF),?_⟩;apply hN;clear hN N)));try clear zF)
     exact qh (sd (tw6 @f15 @f2 @f7 @f13 @f14 @eW)) (Mj)
   ·have Yg:decide (k=0)=true:=decide_eq_true ae;rw[Yg,Bool.true_or]at Mj
    (have zF:=tw9 @f15 @f2 @f7 @f13 @f14 @hk @qy @gm (tw3 @eW @P7 @ab.eq_1);(repeat(first|((repeat(revert N;apply g7));refine wk zF ?_;repeat(apply g6;intro N hN))|((try apply i3);refine⟨_,au.x (hi) (sd zF),?_⟩;apply hN;clear hN N)));try clear zF)
    exact qh (sd (tw6 @f15 @f2 @f7 @f13 @f14 @eW)) (Mj)
 ·have l8:k=qs.length:=ae;subst l8;(try((repeat(revert N;apply g7));refine wk (tw7 @f15 @f2 @f7 @f13 @f14 @hk @eW) ?_;repeat(apply g6;intro N hN)));exact cZ (b:=true) (.inl rfl) (sd @g8) (o8.2 fun i hi=>fA0 i hi).symm
def iW (s:Nat):Prop:=s=59005000∨s=59013011∨s=59021011∨s=59027015∨s=59029008
def ph (s:Nat):Prop:=s=59004002∨s=59011007∨s=59019007
def rQ (s:Nat):Prop:=s=59006001∨s=59013014∨s=59021014∨s=59027018∨s=59029011
def nf (m j:Nat):Nat:=if j=0 then 0 else m+j
theorem CW {a b:Id} (h:ph a.site) (k:rQ b.site):(a=b)=False/\(b=a)=False:=by
 have:a≠b:=fun e=>by rw[e]at h;unfold ph at h;unfold rQ at k;omega
 exact⟨eq_false this,eq_false fun e=>this e.symm⟩
theorem CV {a b:Id} (h:iW a.site) (k:ph b.site):(a=b)=False/\(b=a)=False:=by
 have:a≠b:=fun e=>by rw[e]at h;unfold iW at h;unfold ph at k;omega
 exact⟨eq_false this,eq_false fun e=>this e.symm⟩
theorem tu {a b:Id} (h:iW a.site) (k:rQ b.site):(a=b)=False/\(b=a)=False:=by
 have:a≠b:=fun e=>by rw[e]at h;unfold iW at h;unfold rQ at k;omega
 exact⟨eq_false this,eq_false fun e=>this e.symm⟩
def Mx (E:Nat->Prop) (n0:Nat) (g:Rows) (n:Nat) (row:List AV) (t:di) (e:Id):Prop:=row=[.str t.bL,.own e 0 4]/\(t.bL.size<=64/\1<=t.bL.size)/\t.de.length=4/\E e.site/\n0<=e.bH/\e.bH<n/\g e=some ⟨true,1,t.de.map bf⟩
def TX (E:Nat->Prop) (n0:Nat) (g:Rows) (n:Nat) (rows:List (List AV)) (Ts:List di):Prop:=∃es:List Id,es.Nodup/\rows.length=Ts.length/\es.length=Ts.length/\∀(j:Nat) (row:List AV) (t:di) (e:Id),rows[j]? =some row->Ts[j]? =some t->es[j]? =some e->Mx E n0 g n row t e
section
variable {E:Nat->Prop} {n0:Nat} {g g':Rows} {n n':Nat} {rows:List (List AV)} {Ts:List di}
theorem TX.frame (h:TX E n0 g n rows Ts) (hn:n<=n') (hf:∀i:Id,E i.site->n0<=i.bH->i.bH<n->g' i=g i):TX E n0 g' n' rows Ts:=by
 obtain⟨es,h1,h2,h3,h4⟩:=h;refine⟨es,h1,h2,h3,fun j row t e q1 q2 q3=>?_⟩;obtain⟨a1,a2,a3,a4,a5,a6,a7⟩:=h4 j row t e q1 q2 q3;exact⟨a1,a2,a3,a4,a5,ae,(hf e a4 a5 a6).trans a7⟩
theorem TX.snoc (h:TX E n0 g n rows Ts) {t:di} {e:Id} (hn:n<=n') (he:n<=e.bH) (hr:Mx E n0 g n' [.str t.bL,.own e 0 4] t e):TX E n0 g n' (rows++[[.str t.bL,.own e 0 4]]) (Ts++[t]):=by
 obtain⟨es,h1,h2,h3,h4⟩:=h;refine⟨es++[e],?_,by simp[h2],by simp[h3],fun j row t' e' q1 q2 q3=>?_⟩
 ·refine List.nodup_append.2 ⟨h1,by simp,fun x hx y hy=>?_⟩;rw[List.mem_singleton.1 hy];obtain⟨j,hj,rfl⟩:=List.getElem_of_mem hx;obtain⟨_,_,_,_,_,a6,_⟩:=h4 j _ _ _ (i5 ae) (i5 ae) (i5 hj);intro hc;rw[hc]at a6;omega
 ·by_cases hj:j<Ts.length
  ·rw[List.getElem?_append_left ae]at q1 q2 q3;obtain⟨a1,a2,a3,a4,a5,a6,a7⟩:=h4 j row t' e' q1 q2 q3;exact⟨a1,a2,a3,a4,a5,ae,a7⟩
  ·have QU:j=Ts.length:=by
    have:=List.getElem?_eq_some_iff.1 q2;obtain⟨h,_⟩:=this
    simp at h
    omega
   subst QU;rw[<-h2,List.getElem?_concat_length]at q1;rw[List.getElem?_concat_length]at q2;rw[<-h3,List.getElem?_concat_length]at q3
   cases q1;cases q2;cases q3
   exact hr
theorem TX.one {t:di} {e:Id} (hr:Mx E n0 g n [.str t.bL,.own e 0 4] t e):TX E n0 g n [[.str t.bL,.own e 0 4]] [t]:=
 ⟨[e],by simp,rfl,rfl,fun j row t' e' q1 q2 q3=>by
  cases j with
  |zero=>simp at q1 q2 q3;subst q1 q2 q3;exact hr
  |succ j=>simp at q1⟩
theorem TX.len (h:TX E n0 g n rows Ts):rows.length=Ts.length:=by obtain⟨es,h1,h2,h3,h4⟩:=h;exact h2
theorem TX.get (h:TX E n0 g n rows Ts) {k:Nat} (hk:k<Ts.length):∃e:Id,rows[k]? =some [.str Ts[k].bL,.own e 0 4]/\Mx E n0 g n [.str Ts[k].bL,.own e 0 4] Ts[k] e/\
  ∀(g':Rows) (l:List Int),l.length=4->g' e=some ⟨true,1,l.map bf⟩->(∀i:Id,E i.site->n0<=i.bH->i.bH<n->i≠e->g' i=g i)->TX E n0 g' n rows (Ts.set k ⟨Ts[k].bL,l⟩):=by
 obtain⟨es,h1,h2,h3,h4⟩:=h;have hr:=h4 k _ _ _ (i5 ae) (i5 hk) (i5 ae);have ha:=hr.1;refine⟨es[k],by rw[i5 ae,ha],by rw[<-ha];exact hr,fun g' l hl hg hf=>⟨es,h1,by simp[h2],by simp[h3],fun j row t e q1 q2 q3=>?_⟩⟩
 by_cases hj:j=k
 ·subst hj;rw[List.getElem?_set_self hk]at q2;rw[i5 ae]at q1 q3
  cases q1;cases q2;cases q3
  obtain⟨a1,a2,a3,a4,a5,a6,a7⟩:=hr;exact⟨a1,a2,hl,a4,a5,a6,hg⟩
 ·rw[List.getElem?_set_ne (fun h=>hj h.symm)]at q2;obtain⟨a1,a2,a3,a4,a5,a6,a7⟩:=h4 j row t e q1 q2 q3
  have ju:e≠es[k]:=fun hc=>hj (by
   obtain⟨b1,b2⟩:=List.getElem?_eq_some_iff.1 q3
   exact(List.getElem_inj h1).1 (b2.trans hc))
  exact⟨a1,a2,a3,a4,a5,a6,(hf e a4 a5 a6 ju).trans a7⟩
theorem TX.Zw (h:TX E n0 g n rows Ts):jD E n0 g n rows:=fun row hr=>by
 obtain⟨es,h1,h2,h3,h4⟩:=h;obtain⟨j,hj,rfl⟩:=List.getElem_of_mem hr;obtain⟨a1,a2,a3,a4,a5,a6,a7⟩:=h4 j _ _ _ (i5 hj) (i5 ae) (i5 ae);exact⟨_,_,a1,a2,a4,a5,a6,_,a3,a7⟩
end
def iR (n0:Nat) (g:Rows) (n:Nat) (B:Id) (a b:Nat) (L:List gy) (Ts:List di):Prop:=∃(og o:Id) (rows:List (List AV)),g B=some ⟨true,2,[[.own og 0 a,.own o 0 b]]⟩/\L.length=a/\g og=some ⟨true,2,L.map dU⟩/\(ph og.site/\n0<=og.bH/\og.bH<n)/\Ts.length=b/\g o=some ⟨true,2,rows⟩/\TX iW n0 g n rows Ts/\rQ o.site/\n0<=o.bH/\o.bH<n
theorem iR.later {n0:Nat} {g:Rows} {n n':Nat} {B:Id} {a b:Nat} {L:List gy} {Ts:List di} (h:iR n0 g n B a b L Ts) (hn:n<=n'):iR n0 g n' B a b L Ts:=by
 obtain⟨og,o,rows,h1,h2,h3,⟨h5,h6,h7⟩,h8,h9,we,Ur,h12,h13⟩:=h;exact⟨og,o,rows,h1,h2,h3,⟨h5,h6,ae⟩,h8,h9,we.frame hn fun _ _ _ _=>rfl,Ur,h12,ae⟩
theorem iR.only {n0:Nat} {g:Rows} {n n':Nat} {B X:Id} {a b:Nat} {L:List gy} {Ts:List di} (h:iR n0 g n B a b L Ts) {σ':aw} (hK:lv X ⟨g,n'⟩ σ') (hn:n<=n') (hX:X.bH<n0) (hB:B≠X) (QI:B.bH<n'):iR n0 σ'.get σ'.next B a b L Ts:=by
 obtain⟨og,o,rows,h1,h2,h3,⟨h5,h6,h7⟩,h8,h9,we,Ur,h12,h13⟩:=h;have hx:=hK.1;(try dsimp only at hx);have k:∀i:Id,n0<=i.bH->i.bH<n->σ'.get i=g i:=fun i h1 h2=>hK.2 i (fun e=>by rw[e]at h1;omega) aI;exact⟨og,o,rows,(hK.2 B hB QI).trans h1,h2,(k og h6 h7).trans h3,⟨h5,h6,ae⟩,h8,(k o h12 h13).trans h9,we.frame ae fun i _ h1 h2=>k i h1 h2,Ur,h12,ae⟩
theorem iR.put {n0:Nat} {g g':Rows} {n n':Nat} {B og u e:Id} {a b:Nat} {L:List gy} {rows:List (List AV)} {Ts:List di} {t:di} (hL:L.length=a) (mu:g og=some ⟨true,2,L.map dU⟩) (sg:ph og.site/\n0<=og.bH/\og.bH<n) (hT:TX iW n0 g n rows Ts) (hb:Ts.length=b) (j3:t.bL.size<=64/\1<=t.bL.size) (hl:t.de.length=4)
  (hn:n<=e.bH) (hB:g' B=some ⟨true,2,[[.own og 0 a,.own u 0 (b+1)]]⟩) (hu:g' u=some ⟨true,2,rows++[[.str t.bL,.own e 0 4]]⟩) (su:rQ u.site/\n0<=u.bH/\u.bH<n') (he:g' e=some ⟨true,1,t.de.map bf⟩) (se:iW e.site/\n0<=e.bH/\e.bH<n') (hf:∀i:Id,(iW i.site∨ph i.site)->n0<=i.bH->i.bH<n->g' i=g i):iR n0 g' n' B a (b+1) L (Ts++[t]):=
 ⟨og,u,rows++[[.str t.bL,.own e 0 4]],hB,hL,(hf og (.inr sg.1) sg.2.1 sg.2.2).trans mu,⟨sg.1,sg.2.1,ae⟩,by simp[hb],hu,((hT.frame i4 fun i h1 h2 h3=>hf i (.inl h1) h2 h3).snoc ae hn ⟨rfl,j3,hl,se.1,se.2.1,se.2.2,he⟩),su.1,su.2.1,su.2.2⟩
theorem Hb (s:aE) (f:af->Int) (p:af) (t:Int):iT s f p t=0+(if 0<=f (bI p 0)then fQ s t 0 (f (bI p 0))else 0)+(if 0<=f (bI p 1)then fQ s t 1 (f (bI p 1))else 0)+(if 0<=f (bI p 2)then fQ s t 2 (f (bI p 2))else 0)+(if 0<=f (bI p 3)then fQ s t 3 (f (bI p 3))else 0):=rfl
theorem IT {B:af->Int->Bool} {p:af} {t:Nat} (hB:B p (t:Int)=true):∀{m:Nat},t<m->(⟨p,(t:Int)⟩:aa)∈GB B p m
 |0,h=>by omega
 |m+1,h=>by
  rw[GB]
  by_cases e:t=m
  ·subst e;rw[if_pos hB];simp
  ·have ih:=IT hB (m:=m) ae
   split
   ·exact List.mem_append_left _ ih
   ·exact ih
theorem Jz {s:ar} (hT:1<=s.aQ) {l:List aa} (hA:fS s.ay l) {p:af} {t:Int} (ht:eE s.ay t=true) (h:eu s l p t=true):(⟨p,t⟩:aa)∈jP s l:=by
 have hn:=E6 hT hA h;have ht2:=dV ht
 obtain⟨k,rfl⟩:∃k:Nat,t=(k:Int):=⟨t.toNat,ae⟩
 exact List.mem_flatMap.2 ⟨p,(oI l p).2 hn,IT h ae⟩
theorem BH {s:ar} {sch:List Int} (hB:∀ds,iI s ds->jP s (dx s ds ds.length)≠[]->(dx s ds ds.length).length<500):∀(f:Nat) (es:List aa),iI s es->∃C0,l6 s sch 501 f es=some C0
 |0,es,hG=>⟨es,by rw[l6]⟩
 |f+1,es,hG=>by
  rw[l6]
  split
  ·exact⟨_,rfl⟩
  ·rename_i h0
   split
   ·exact⟨_,rfl⟩
   ·have hb:=hB es hG fun h=>h0 (by rw[h];rfl);rw[if_neg ae];exact BH hB f _ (hG.add (e7 (nU ae)) ae)
theorem JM:∀{l m:List aa},l.Nodup->(∀x∈l,x∈m)->l.length<=m.length
 |[],_,_,_=>Nat.zero_le _
 |a::l,m,hn,h=>by
  obtain⟨h1,h2⟩:=List.nodup_cons.1 hn;obtain⟨p,q,rfl⟩:=List.append_of_mem (h a List.mem_cons_self)
  have ih:=JM (l:=l) (m:=p++q) h2 fun x hx=>by
   have h3:=h x (List.mem_cons_of_mem _ hx);rw[List.mem_append,List.mem_cons]at h3;rw[List.mem_append]
   rcases h3 with h3|rfl|h3
   ·exact .inl h3
   ·exact absurd hx h1
   ·exact .inr h3
  rw[i6]at ih;rw[i6,List.length_cons,List.length_cons];omega
theorem erase_filter:∀{m:List aa} (_:m.Pairwise fun a b=>jm a.aH b.aH=true) {k:Nat} (hk:k<m.length),m.eraseIdx k=m.filter fun x=> !decide (x.aH=m[k].aH)
 |[],_,k,hk=>by simp at hk
 |x::r,h,0,hk=>by
  obtain⟨h1,h2⟩:=List.pairwise_cons.1 h;rw[List.eraseIdx_cons_zero,List.filter_cons,if_neg (by simp)];symm;rw[List.filter_eq_self];intro y hy;have:=h1 y hy;simp only[List.getElem_cons_zero,Bool.not_eq_true',decide_eq_false_iff_not];intro e;rw[e,gJ]at this;cases this
 |x::r,h,k+1,hk=>by
  obtain⟨h1,h2⟩:=List.pairwise_cons.1 h;have Ej:k<r.length:=by simpa using hk
  have ih:=erase_filter h2 Ej;have hx:=h1 _ (List.getElem_mem Ej);rw[List.eraseIdx_cons_succ,List.filter_cons,ih,if_pos]
  ·rfl
  ·simp only[List.getElem_cons_succ,Bool.not_eq_true',decide_eq_false_iff_not];intro e;rw[e,gJ]at hx;cases hx
theorem HP {a:List aa} {qs:List af} {i:Nat} (hi:i<qs.length):ee (lr (qs.take (i+1))) a=(ee (lr (qs.take i)) a).filter fun x=> !decide (x.aH=fI qs i):=by
 unfold ee;rw[List.filter_filter]
 congr 1
 funext x
 unfold lr;have hm:x.aH∈qs.take (i+1)↔x.aH∈qs.take i∨x.aH=qs[i]:=by rw[List.take_succ_eq_append_getElem hi,List.mem_append,List.mem_singleton]
 rw[gp hi,Bool.eq_iff_iff];simp only[Bool.not_eq_true',decide_eq_false_iff_not,Bool.and_eq_true,hm,not_or];exact And.comm
theorem FI {a:List aa} {qs:List af} {i:Nat} (hR:iJ a) (hi:i<qs.length) (h0:0<=ei (ee (lr (qs.take i)) a) (fI qs i)):(ee (lr (qs.take i)) a).eraseIdx (ei (ee (lr (qs.take i)) a) (fI qs i)).toNat=ee (lr (qs.take (i+1))) a:=by
 obtain⟨h1,h2⟩:=iz h0;rw[ev h1]at h2;rw[erase_filter (lR.1 (BT hR)) h1,HP hi,h2]
theorem K1 {s:ar} {a:List aa} {qs:List af} {i:Nat} (hR:iJ a) (hw:qu s a qs=true) (hi:i<qs.length):0<=ei (ee (lr (qs.take i)) a) (fI qs i):=by
 have h1:=(sH (o8.1 hw i hi)).1;obtain⟨h2,h3⟩:=iz h1
 rcases Int.lt_or_le (ei (ee (lr (qs.take i)) a) (fI qs i)) 0 with h|h
 ·refine absurd h3 (mX.1 h _ (List.mem_filter.2 ⟨e7 h2,?_⟩));rw[Bool.not_eq_true',lr,decide_eq_false_iff_not,h3];intro hm;obtain⟨j,hj,QV⟩:=List.getElem_of_mem hm;rw[List.length_take]at hj;rw[List.getElem_take]at QV;have:=(R8 hw).at_ (i:=j) (j:=i) ae hi;rw[gp ae,QV,gJ]at this;cases this
 ·exact h
theorem F7 {s:ar} {a:List aa} (h:iF s a=none) {p:af} (hp:p∈fX s a) {t:Int} (ht:eE s.ay t=true) (hb:s.aQ<=iT s.ay (ej a) p t):t=ej a p:=by
 unfold iF at h;rw[Option.map_eq_none_iff,List.find?_eq_none]at h;have h1:=h p hp;rw[decide_eq_true_eq]at h1;obtain⟨t0,t1⟩:=dV ht;obtain⟨k,rfl⟩:=Int.eq_ofNat_of_zero_le t0;refine Classical.byContradiction fun ju=>?_
 have h3:mc s a p (k:Int)=true:=by
  unfold mc;rw[decide_eq_true ju,decide_eq_true hb];rfl
 have h2:((List.range s.ay.aq.length).find? fun k:Nat=>mc s a p k)=none:=by
  cases e:(List.range s.ay.aq.length).find? fun k:Nat=>mc s a p k with
  |none=>rfl
  |some j=>
   unfold me at h1;rw[e]at h1;exact absurd (Int.natCast_nonneg j) h1
 rw[List.find?_eq_none]at h2;exact h2 k (List.mem_range.2 ae) h3
theorem Gr {s:ar} (hP:lW s) {a:List aa} (hA:fS s.ay a) (hT:iF s a=none) {L:List aa} (hL:∀x∈L,x∈a) (uS:∀x∈s.cw.aq,x∈L) (hR:iJ L) {x:aa} (ht:eE s.ay x.bK=true) (hf:eu s L x.aH x.bK=true):x∈a:=by
 have SM:1<=s.aQ:=(dV hP.DY).1
 have mV:∀q,0<=ej L q->ej a q=ej L q:=fun q hq=>by
  obtain⟨y,hy,rfl,e⟩:=tO hq;rw[<-e];exact at_mem hA.1.pH (hL y hy)
 have hm:s.aQ<=iT s.ay (ej a) x.aH x.bK:=by
  have h1:=nZ hP.set mV x.aH x.bK 4;have h2:=hf;simp only[eu,Bool.and_eq_true,decide_eq_true_eq,iT]at h2;unfold iT;exact Int.le_trans (of_decide_eq_true h2.2) h1
 have Fm:ej L x.aH<0:=by
  have h2:=hf;simp only[eu,Bool.and_eq_true,decide_eq_true_eq]at h2;exact h2.1.2
 rcases Int.lt_or_le (ej a x.aH) 0 with h0|h0
 ·exfalso;have h2:=Jz SM hA ht (E5 hP.set hA.1.pH hL hf h0);have h3:x.aH∈jF a:=(IV h2).1;have h4:=F7 hT ((nQ s a x.aH a.length).2 (.inl h3)) ht hm;have:=(dV ht).1;omega
 ·obtain⟨y,hy,e1,e2⟩:=tO h0;obtain⟨j,hj,QV⟩:=List.getElem_of_mem hy
  have h3:x.aH∈fX s a:=(nQ s a x.aH a.length).2 (.inr ⟨j,hj,by rw[ev hj,QV,e1],fun e=>by
   rw[ev hj,QV]at e;have h5:0<=ej s.cw.aq x.aH:=ae;obtain⟨z,hz,z1,z2⟩:=tO h5;have h6:=at_mem hR (uS z hz);rw[z1]at h6
   omega⟩)
  have h4:=F7 hT h3 ht hm
  have:x=y:=by
   cases x;cases y
   simp_all
  rw[this];exact hy
theorem B7 {s:ar} (hP:lW s) {a:List aa} (hA:fS s.ay a) (hW:∀x∈s.cw.aq,x∈a) {qs:List af} (hq:qu s a qs=true):∀x∈s.cw.aq,x∈ee (lr qs) a:=fun x hx=>by
 have h4:Mo s x=true:=decide_eq_true (T5 hP.ud.1.pH hx);have h5:=Px hA.1.pH hq (hW x hx) h4;refine List.mem_filter.2 ⟨hW x hx,?_⟩;unfold lr;rw[decide_eq_false h5];rfl
theorem Og {s:ar} (hP:lW s) {a:List aa} (hA:fS s.ay a) (hW:∀x∈s.cw.aq,x∈a) {qs:List af} (hq:qu s a qs=true):G2 (iN s (ee (lr qs) a)):=by
 refine⟨hP.set,K0 hA,?_,hP.DY⟩;have h1:=hP.some;have h2:=B7 hP hA hW hq _ (List.getElem_mem (show 0<s.cw.aq.length by omega));exact List.length_pos_iff.2 (List.ne_nil_of_mem h2)
theorem Of {s:ar} {a:List aa} (hR:iJ a) {qs:List af} (hq:qu s a qs=true):(ee (lr qs) a).length+qs.length=a.length:=by
 have key:∀i,i<=qs.length->(ee (lr (qs.take i)) a).length+i=a.length:=by
  intro i
  induction i with
  |zero=>
   intro _;rw[tH fun b _=>by simp[lr]];omega
  |succ i ih=>
   intro hi;have h1:=ih ae;have h2:=K1 hR hq (show i<qs.length by omega);have h3:=FI hR (show i<qs.length by omega) h2;have h4:=(iz h2).1;rw[<-h3,List.length_eraseIdx,if_pos h4];omega
 have:=key qs.length i4
 rwa [List.take_length]at this
theorem Dc {s:ar} (hP:lW s) {a:List aa} (hA:fS s.ay a) (hT:iF s a=none) {K:List aa} (hK:∀x∈K,x∈a) (uS:∀x∈s.cw.aq,x∈K) (hW:G2 (iN s K)) {ds:List aa} (hD:iI (iN s K) ds):∀i,i<=ds.length->(∀x∈dx (iN s K) ds i,x∈a)/\(∀x∈K,x∈dx (iN s K) ds i)
 |0,_=>⟨fun x hx=>hK x hx,fun x hx=>hx⟩
 |i+1,hi=>by
  obtain⟨ih1,ih2⟩:=Dc hP hA hT hK uS hW hD i ae;have hg:=hD i ae;rw[j5,Bool.and_eq_true,RE,Bool.and_eq_true]at hg;have hL:=ko hW (es:=ds) i ae fun j hj=>hD j ae;rw[jg _ _ ae];refine⟨fun x hx=>?_,fun x hx=>jd.2 (.inr (ih2 x hx))⟩
  rcases jd.1 hx with rfl|hx
  ·exact Gr hP hA hT ih1 (fun x hx=>ih2 x (uS x hx)) hL.1.pH hg.1.1 hg.1.2
  ·exact ih1 x hx
theorem BE {s:ar} {es:List aa} (h:iI s es):s.cw.aq.length+es.length<=500∨es.length=0:=by
 rcases Nat.eq_zero_or_pos es.length with h0|h0
 ·exact .inr h0
 ·left
  have h1:=h (es.length-1) ae;unfold j5 at h1;rw[Bool.and_eq_true,decide_eq_true_eq,nn s es _ ae]at h1;omega
theorem BF {s:ar} (hP:G2 s) {sch:List Int}:∀(f:Nat) (es C0:List aa),501<=es.length+f->iI s es->l6 s sch 501 f es=some C0->jP s (dx s C0 C0.length)=[]
 |0,es,C0,hf,hG,h=>by
  have:=BE hG;have:=hP.some;omega
 |f+1,es,C0,hf,hG,h=>by
  rw[l6]at h
  split at h
  ·rename_i h0
   cases h
   exact List.eq_nil_of_length_eq_zero h0
  ·rename_i h0
   split at h
   ·rename_i h1;have:=BE hG;have:=hP.some;omega
   ·split at h
    ·cases h
    ·rename_i h2;refine BF hP f _ C0 (by rw[i6,List.length_singleton];omega) (hG.add (e7 (nU ae)) ae) h
theorem VB {l:List aa} (h:iJ l):l.Nodup:=by
 rw[lR]at h;exact List.Pairwise.imp (fun {a b} AP e=>by rw[e,gJ]at AP;cases AP) h
theorem Yl {s:ar} (hP:lW s) {es:List aa} (hE:iI s es) (hT:iF s (dx s es es.length)=none) {qs:List af} (hq:qu s (dx s es es.length) qs=true) (sch:List Int):
  ∃ds,od (iN s (ee (lr qs) (dx s es es.length))) sch 501=some ds/\iI (iN s (ee (lr qs) (dx s es es.length))) ds/\dx (iN s (ee (lr qs) (dx s es es.length))) ds ds.length=dx s es es.length/\ds.length=qs.length:=by
 have hA:=nk hP (es:=es) es.length i4 hE
 have uS:∀i,i<=es.length->∀x∈s.cw.aq,x∈dx s es i:=by
  intro i
  induction i with
  |zero=>exact fun _ x hx=>hx
  |succ i ih=>exact fun hi x hx=>by rw[jg _ _ ae];exact jd.2 (.inr (ih ae x hx))
 have qe:=uS es.length i4
 obtain⟨a,ha⟩:∃a,dx s es es.length=a:=⟨_,rfl⟩
 rw[ha]at hA hT hq qe ⊢;have SM:1<=s.aQ:=(dV hP.DY).1;have hW:=Og hP hA qe hq;have P3:=B7 hP hA qe hq
 obtain⟨K,X4⟩:∃K,ee (lr qs) a=K:=⟨_,rfl⟩
 have hK:∀x∈K,x∈a:=fun x hx=>by rw[<-X4]at hx;exact BU x hx
 have P0:=Of hA.1.pH hq;rw[X4]at hW P3 P0 ⊢
 obtain⟨ds,hd⟩:=BH (s:=iN s K) (sch:=sch) (fun ds hD ju=>by
  obtain⟨x,hx⟩:=List.exists_mem_of_ne_nil _ ju;obtain⟨h1,h2⟩:=zW hx;obtain⟨i1,i2⟩:=Dc hP hA hT hK P3 hW hD ds.length i4;have hL:=ko hW (es:=ds) ds.length i4 hD;have h3:=Gr hP hA hT i1 (fun x hx=>i2 x (P3 x hx)) hL.1.pH h1 h2
  have h4:x∉dx (iN s K) ds ds.length:=fun hc=>by
   have h5:=at_mem hL.1.pH hc;have h6:=h2;simp only[eu,Bool.and_eq_true,decide_eq_true_eq]at h6;have h7:=h6.1.2;rw[h5]at h7;have:=(dV h1).1;omega
  have h5:=JM (l:=x::dx (iN s K) ds ds.length) (m:=a) (List.nodup_cons.2 ⟨h4,VB hL.1.pH⟩) fun y hy=>by
   rcases List.mem_cons.1 hy with rfl|hy
   ·exact h3
   ·exact i1 y hy
  rw[List.length_cons]at h5;have:=hA.1.oG
  omega) 501 [] (iI.nil _)
 have hD:=(rV (s:=iN s K) (sch:=sch) (steps:=501) hd).1;have hend:=BF hW 501 [] ds (by simp) (iI.nil _) hd;obtain⟨i1,i2⟩:=Dc hP hA hT hK P3 hW hD ds.length i4;have hL:=ko hW (es:=ds) ds.length i4 hD
 have YQ:IJ s a (dx (iN s K) ds ds.length):=⟨hL.1.pH,i1,fun x hx=>by
  rcases Classical.em (eu s (dx (iN s K) ds ds.length) x.aH x.bK=true)with h1|h1
  ·have h2:=Jz (s:=iN s K) SM hL (hA.2 x hx) h1;rw[hend]at h2
   cases h2
  ·exact Bool.eq_false_iff.2 h1⟩
 have fy:=Cf hP.set YQ hA.1.pH (fun x hx=>i2 x (P3 x hx)) (es:=es) (fun x hx=>by
  rw[<-ha];obtain⟨j,hj,rfl⟩:=List.getElem_of_mem hx
  have key:∀i,i<=es.length->j<i->es[j]∈dx s es i:=by
   intro i
   induction i with
   |zero=>intro _ h;omega
   |succ i ih=>
    intro hi ox;rw[jg _ _ ae]
    rcases Nat.lt_or_ge j i with h|h
    ·exact jd.2 (.inr (ih ae h))
    ·obtain rfl:j=i:=ae;rw[ev hj];exact jd.2 (.inl rfl)
  exact key es.length i4 hj) hE es.length i4
 rw[ha]at fy
 have Jk:dx (iN s K) ds ds.length=a:=OR hL.1.pH hA.1.pH fun x=>⟨i1 x,fy x⟩;have mA:=nn (iN s K) ds ds.length i4;rw[Jk]at mA;refine⟨ds,hd,hD,Jk,?_⟩;have:(iN s K).cw.aq.length=K.length:=rfl;omega
theorem Eb (s:ar) (a:List aa) (h1:au Tryz.prog 30 [.agg (aK s),.agg [.sl (a.map ad)]] (.int .i64 0)) (hP:lW s) (hA:fS s.ay a) (qs:List af) (hl:qs.length<=1048576) (hq:qu s a qs=true):
  au Tryz.prog 42 [.agg (aK s),.agg [.sl (a.map ad)],.sl (qs.map ab)] (.int .i64 0):=by
 have hf:=hA.1.oG;have h2:=KY s hP.ud a hA.1.pH ae qs hl;rw[hq]at h2;refine au.body fx rfl fun fM n0=>?_;clear fM;rw[aK]at h1 h2 ⊢;(repeat(first|((repeat(revert N;apply g7));refine wk @g8 ?_;repeat(apply g6;intro N hN))|((try apply i3);refine⟨_,au.x (h1) (sd @g8),?_⟩;apply hN;clear hN N)|((try apply i3);refine⟨_,au.x (h2) (sd @g8),?_⟩;apply hN;clear hN N)));exact oP (.inl rfl) (sl @g8) (by rw[ec])
theorem Eu {σ:aw} {s:ar} (hP:lW s) {a:List aa} (h0:au Tryz.prog 30 [.agg (aK s),.agg [.sl (a.map ad)]] (.int .i64 0)) (hA:fS s.ay a) (qe:∀x∈s.cw.aq,x∈a) {qs:List af} (hl:qs.length<=1048576) (hq:qu s a qs=true) (hE:jA σ.get) (AD:1<=σ.next) {sch:List Int} (hs:∀x∈sch,0<=x/\x<=1000) (nI:sch.length<=200):
  Call Tryz.prog 15 [.agg (aK s),.agg [.sl (a.map ad)],.sl (qs.map ab),.sl (sch.map bf)] σ (TL σ (iN s (ee (lr qs) a)) sch 501):=by
 refine tg (cfM [(6,2)]) rfl fun fM=>?_;clear fM;have hf:=hA.1.oG;have hT:1<=s.aQ:=(dV hP.DY).1;have hW:=Og hP hA qe hq
 have mH:0<a.length:=by
  have h1:=hP.some;exact List.length_pos_iff.2 (List.ne_nil_of_mem (qe _ (List.getElem_mem (show 0<s.cw.aq.length by omega))))
 have h1:=Eb s a h0 hP hA qs hl hq;have h2:=xU sch ae;rw[rq.2 ⟨nI,hs⟩]at h2;have h3:=LW a qs mH ae hl
 obtain⟨K,hK⟩:∃K,ee (lr qs) a=K:=⟨_,rfl⟩
 rw[hK]at h3 hW ⊢;have hc:=fun σ=>DJ s hP.set hT K hW.ud σ;rw[aK]at h1 hc ⊢;(repeat(first|((repeat(revert N;apply g7));refine wk @g8 ?_;repeat(apply g6;intro N hN))|((try apply i3);refine⟨_,au.x (h1) (sd @g8),?_⟩;apply hN;clear hN N)|((try apply i3);refine⟨_,au.x (h2) (sd @g8),?_⟩;apply hN;clear hN N)|((try apply i3);refine⟨_,au.x (h3) (sd @g8),?_⟩;apply hN;clear hN N)));refine fJ ?_ ?_<;>(repeat(first|((repeat(revert N;apply g7));refine wk @g8 ?_;repeat(apply g6;intro N hN))|((try apply i3);refine⟨_,au.x (h1) (sd @g8),?_⟩;apply hN;clear hN N)|((try apply i3);refine⟨_,au.x (h2) (sd @g8),?_⟩;apply hN;clear hN N)|((try apply i3);refine⟨_,au.x (h3) (sd @g8),?_⟩;apply hN;clear hN N)))
 all_goals
  refine .inr (ax _ _ _ _ _ (fun r σ1 hq=>?_) (hc _));obtain⟨g1,x1⟩:=σ1;obtain⟨c,T,O,rfl,hC,QP,Eg,HE,lL,gQ⟩:=hq;(try dsimp only at hC QP Eg HE lL gQ)
  have base:∀x:Id,x.bH<σ.next->g1 x=σ.get x:=fun x hx=>by
   have h1:=cR hx;have h2:=gQ x aI;simp only[go_sem,↓reduceIte,Nat.reduceEqDiff,Nat.reduceAdd,Nat.reduceSub,Nat.reduceLeDiff,reduceCtorEq,h1]at h2;exact h2
  have k7:=gQ ⟨15000003,σ.next⟩ aI;simp only[go_sem,↓reduceIte,Nat.reduceEqDiff,Nat.reduceAdd,Nat.reduceSub,Nat.reduceLeDiff,reduceCtorEq]at k7;apply hN;clear hN N;have X0:jA g1:=hE.frame (n:=1) i4 fun x hx _=>base x ae;(try((repeat(revert N;apply g7));refine wk @k7 ?_;repeat(apply g6;intro N hN)));refine .inr (ax _ _ _ _ _ (fun r σ2 hq=>?_) (Uq (σ:=⟨g1,_⟩) (c:=c) (T:=T) (O:=O) (s:=s) (K:=K) hW (hC.frame aI fun x hx=>rfl) X0 ae ae hs nI 501 i4));obtain⟨g2,x2⟩:=σ2;obtain⟨n2,f2,hq⟩:=hq;(try dsimp only at n2 f2 hq);have kT:T.bH<x1:=hC.o.tv;have kO:O.bH<x1:=hC.o.ov;have k72:=(f2 ⟨15000003,σ.next⟩ aI (fun e=>by rw[<-e]at Eg;(try dsimp only at Eg);omega) (fun e=>by rw[<-e]at HE;(try dsimp only at HE);omega)).trans k7;have SB:∀x:Id,x.bH<σ.next->g2 x=σ.get x:=fun x hx=>(f2 x ae (fun e=>by rw[e]at hx;omega) (fun e=>by rw[e]at hx;omega)).trans (base x hx);apply hN;clear hN N
  rcases hq with⟨hg,rfl⟩|⟨es,v,hg,hG,x7,rfl,hL⟩
  ·(try((repeat(revert N;apply g7));refine wk @k72 ?_;repeat(apply g6;intro N hN)))
   exact eH (.inl rfl) (vs:=[.ck,.agg [.ck],.int .i64 4]) (sd @g8) ⟨aI,fun x hx=>by
    have h1:=cR hx
    simp only[go_sem,↓reduceIte,Nat.reduceEqDiff,Nat.reduceAdd,Nat.reduceSub,Nat.reduceLeDiff,reduceCtorEq,h1,SB x hx],.inl ⟨hg,rfl⟩⟩
  ·have hA:=ko hW (es:=es) es.length i4 hG;have UG:=ua hW (es:=es) es.length i4 hG;rw[List.take_length]at UG;have mA:(dx (iN s K) es es.length).length=K.length+es.length:=nn (iN s K) es es.length i4;have sM:=hA.1.oG;have hsd1:1<=K.length:=hW.some;(try((repeat(revert N;apply g7));refine wk @k72 ?_;repeat(apply g6;intro N hN)));refine .inr (ax _ _ _ _ _ (fun r σ3 hq=>?_) (G7 (σ:=⟨g2,_⟩) (L:=dx (iN s K) es es.length) (x7.o.frame aI fun x _=>rfl) (by rw[i6];omega) (fun e=>by have:=congrArg List.length e;rw[i6,List.length_nil]at this;omega) hA.1.pH UG.perm));obtain⟨g3,x3⟩:=σ3;obtain⟨o,rfl,q1,q2,q3,q4,q5⟩:=hq;(try dsimp only at q1 q2 q3 q4 q5);have Dq:=(q5 ⟨15000003,σ.next⟩ aI (fun e=>by rw[<-e]at Eg;(try dsimp only at Eg);omega)).trans k72;have vo:=ew (a:=(⟨15000003,σ.next⟩:Id)) (b:=o) aI;apply hN;clear hN N
   have vc:v.cells=[v]/\v.cell=true:=by
    rcases hL with⟨_,rfl⟩|⟨u,rfl,_⟩<;>exact⟨rfl,rfl⟩
   obtain⟨c1,c2⟩:=vc;(try((repeat(revert N;apply g7));refine wk (tw4 @Dq @vo @c1 @c2) ?_;repeat(apply g6;intro N hN)));refine eH (.inl rfl) (vs:=[v,.agg [.own o 0 (dx (iN s K) es es.length).length],.int .i64 0]) (sd @g8) ⟨aI,fun x hx=>?_,.inr ⟨es,v,o,hg,hG,rfl,?_,sd (tw @vo @q1),ae,aI,?_⟩⟩
   ·have h1:=cR hx;have h2:=q5 x ae (fun e=>by rw[e]at hx;omega);simp only[go_sem,↓reduceIte,Nat.reduceEqDiff,Nat.reduceAdd,Nat.reduceSub,Nat.reduceLeDiff,reduceCtorEq,h1];exact h2.trans (SB x hx)
   ·rcases hL with h1|⟨u,h1,h2,h3,h4,h40,h5⟩
    ·exact .inl h1
    ·have vu:(u=(⟨15000003,σ.next⟩:Id))=False:=eq_false fun e=>by rw[e]at h3;(try dsimp only at h3);omega
     have h6:=(q5 u aI (fun e=>by rw[e]at h3;omega)).trans h2;exact .inr ⟨u,h1,sd (tw @vu @h6),ae,aI,h40,h5⟩
   ·intro u m e1 e2
    rcases hL with⟨_,h1⟩|⟨u',h1,h2,h3,h4,h40,h5⟩
    ·rw[h1]at e1;cases e1
    ·rw[h1]at e1;injection e1 with e1
     rw[<-e1]at e2;rw[e2]at h4;(try dsimp only at q2);omega
theorem HV (L:Nat->Nat) (b:PB):eS L b b.a=eS L b b.b:=by
 unfold eS
 rcases Nat.le_total (L b.a) (L b.b)with h|h
 ·rw[Nat.max_eq_right h,Nat.min_eq_left h];rw[if_pos (rfl:L b.b=L b.b)]
  split<;>rfl
 ·rw[Nat.max_eq_left h,Nat.min_eq_right h];rw[if_pos (rfl:L b.a=L b.a)]
  split<;>rfl
theorem FW:∀(bs:List PB) (L:Nat->Nat) {x y:Nat},L x=L y->bs.foldl eS L x=bs.foldl eS L y
 |[],_,_,_,h=>h
 |b::bs,L,x,y,h=>FW bs _ (by unfold eS;rw[h])
theorem FV:∀(bs:List PB) (L:Nat->Nat),∀b∈bs,bs.foldl eS L b.a=bs.foldl eS L b.b
 |[],_,b,hb=>by cases hb
 |c::bs,L,b,hb=>by
  rw[List.foldl_cons]
  rcases List.mem_cons.1 hb with rfl|hb
  ·exact FW bs _ (HV L b)
  ·exact FV bs _ b hb
theorem Oa (bs:List PB):∀b∈bs,fH bs b.a=fH bs b.b:=FV bs id
noncomputable def Kd (s:aE) (l:List aa):Int:=if rz s=true/\qH s l=true then 0 else 1
theorem HS (s:aE) (l:List aa) (hn:jC s) (hg:s.bM.length<=1048576) (ht:s.aq.length<=1048576):au Tryz.prog 38 [.dZ (ai s),.dZ [.sl (l.map ad)]] (.int .i64 (Kd s l)):=by
 refine au.body fx rfl fun hl n0=>?_;clear hl;have h1:=Js s hn hg ht;have h2:=Jt s l
 cases b1:rz s
 ·rw[b1]at h1;(repeat(first|((repeat(revert N;apply g7));refine wk @g8 ?_;repeat(apply g6;intro N hN))|((try apply i3);refine⟨_,au.x (h1) (sd @g8),?_⟩;apply hN;clear hN N)));exact ed (b:=1) (.inl rfl) (sd @g8) (by rw[Kd,if_neg (by rw[b1];simp)])
 rw[b1]at h1
 cases b2:qH s l
 ·rw[b2]at h2;(repeat(first|((repeat(revert N;apply g7));refine wk @g8 ?_;repeat(apply g6;intro N hN))|((try apply i3);refine⟨_,au.x (h1) (sd @g8),?_⟩;apply hN;clear hN N)|((try apply i3);refine⟨_,au.x (h2) (sd @g8),?_⟩;apply hN;clear hN N)));exact ed (b:=1) (.inl rfl) (sd @g8) (by rw[Kd,if_neg (by rw[b2];simp)])
 ·rw[b2]at h2;(repeat(first|((repeat(revert N;apply g7));refine wk @g8 ?_;repeat(apply g6;intro N hN))|((try apply i3);refine⟨_,au.x (h1) (sd @g8),?_⟩;apply hN;clear hN N)|((try apply i3);refine⟨_,au.x (h2) (sd @g8),?_⟩;apply hN;clear hN N)));exact ed (b:=0) (.inl rfl) (sd @g8) (by rw[Kd,if_pos ⟨b1,b2⟩])
def XT (k:Nat):gy:=⟨(⟨#[120]⟩:ByteArray)++eO (k:Int),2⟩
def XU (k:Nat):gy:=⟨(⟨#[121]⟩:ByteArray)++eO (k:Int),2⟩
def jS (T:List di) (i d:Nat) (w:Int):List di:=match T[i]? with
 |some t=>T.set i ⟨t.bL,t.de.set d w⟩
 |none=>T
theorem uf {T:List di} {i d:Nat} {w:Int} (h:i<T.length):jS T i d w=T.set i ⟨T[i].bL,T[i].de.set d w⟩:=by unfold jS;rw[i5 h]
theorem fu (T:List di) (i d:Nat) (w:Int):(jS T i d w).length=T.length:=by unfold jS;split<;>simp
def xb:List Int->List gy×List di
 |[]=>([⟨⟨#[122,101,114,111]⟩,1⟩,⟨⟨#[111,110,101]⟩,1⟩],[⟨⟨#[115,101,101,100]⟩,[0,0,0,0]⟩])
 |b::r=>((xb r).1++[XT r.length],jS (xb r).2 r.length 1 ((r.length:Int)+3)++[⟨(⟨#[101]⟩:ByteArray)++eO (r.length:Int),[b,0,0,(r.length:Int)+3]⟩])
theorem k6 (b:Int) (r:List Int):xb (b::r)=((xb r).1++[XT r.length],jS (xb r).2 r.length 1 ((r.length:Int)+3)++[⟨(⟨#[101]⟩:ByteArray)++eO (r.length:Int),[b,0,0,(r.length:Int)+3]⟩]):=rfl
def iv (q:List Int):List Int->List gy×List di
 |[]=>xb q
 |b::r=>((iv q r).1++[XU r.length],jS (iv q r).2 (nf q.length r.length) 0 (((q.length+2+r.length:Nat):Int)+1)++[⟨(⟨#[110]⟩:ByteArray)++eO (r.length:Int),[0,b,((q.length+2+r.length:Nat):Int)+1,0]⟩])
theorem k8 (q:List Int) (b:Int) (r:List Int):iv q (b::r)=((iv q r).1++[XU r.length],jS (iv q r).2 (nf q.length r.length) 0 (((q.length+2+r.length:Nat):Int)+1)++[⟨(⟨#[110]⟩:ByteArray)++eO (r.length:Int),[0,b,((q.length+2+r.length:Nat):Int)+1,0]⟩]):=rfl
theorem iR.assoc {n0:Nat} {g:Rows} {n:Nat} {B:Id} {a b:Nat} {L:List gy} {X Y Z:List di} (h:iR n0 g n B a b L (X++Y++Z)):iR n0 g n B a b L (X++(Y++Z)):=by rw[<-List.append_assoc];exact h
theorem Zd:(⟨#[114,52]⟩:ByteArray).size<=64/\1<=(⟨#[114,52]⟩:ByteArray).size:=⟨by decide,by decide⟩
theorem TX.since {E:Nat->Prop} {n0 n1:Nat} {g:Rows} {n:Nat} {rows:List (List AV)} {Ts:List di} (h:TX E n1 g n rows Ts) (hn:n0<=n1):TX E n0 g n rows Ts:=by
 obtain⟨es,h1,h2,h3,h4⟩:=h;refine⟨es,h1,h2,h3,fun j row t e q1 q2 q3=>?_⟩;obtain⟨a1,a2,a3,a4,a5,a6,a7⟩:=h4 j row t e q1 q2 q3;exact⟨a1,a2,a3,a4,ae,a6,a7⟩
def iC (r:List Int):Prop:=∀b∈r,b=1∨b=2
theorem iC.cons {b:Int} {r:List Int} (h:b=1∨b=2) (k:iC r):iC (b::r):=fun x hx=>by
 rcases List.mem_cons.1 hx with rfl|hx
 ·exact h
 ·exact k x hx
def Mw (t:di):Prop:=t.bL.data[0]? =some 114
def Tk (c:UInt8) (k:Nat):ByteArray:=⟨#[c,(48+k).toUInt8]⟩
theorem EU {k:Nat} (h:k<=4) (c:UInt8):(⟨#[c]⟩:ByteArray)++eO (k:Int)=Tk c k:=by
 by_cases h0:k=0
 ·subst h0;rfl
 ·unfold eO;rw[if_neg ae,Int.toNat_natCast,EW h0,show k / 10=0 by omega,Bw,show k % 10=k by omega]
  rfl
theorem Ly (dt:ByteArray) {l:List Int}:Mw ⟨(⟨#[114]⟩:ByteArray)++dt,l⟩:=by
 unfold Mw;show((⟨#[114]⟩:ByteArray)++dt).data[0]? =some 114;rw[ByteArray.data_append,Array.getElem?_append_left (by simp)]
 rfl
def AB (rs:List di):Prop:=∀(j:Nat) (t:di),rs[j]? =some t->t.bL=(⟨#[114]⟩:ByteArray)++eO (j:Int)/\∃a b c d:Int,t.de=[a,b,c,d]/\(a=1∨a=2)/\(b=1∨b=2)/\(c=1∨c=2)/\(d=1∨d=2)
theorem AB.nil:AB []:=fun j t h=>by simp at h
theorem AB.snoc {rs:List di} (h:AB rs) {k:Nat} (hk:rs.length=k) {nm:ByteArray} {a b c d:Int} (hn:nm=(⟨#[114]⟩:ByteArray)++eO (k:Int)) (ha:a=1∨a=2) (hb:b=1∨b=2) (hc:c=1∨c=2) (hd:d=1∨d=2):AB (rs++[⟨nm,[a,b,c,d]⟩]):=fun j t hj=>by
 by_cases h1:j<rs.length
 ·rw[List.getElem?_append_left h1]at hj;exact h j t hj
 ·have h2:j=rs.length:=by
   obtain⟨h3,_⟩:=List.getElem?_eq_some_iff.1 hj
   simp at h3;omega
  subst h2;rw[List.getElem?_concat_length]at hj
  cases hj
  exact⟨by rw[hk];exact hn,a,b,c,d,rfl,ha,hb,hc,hd⟩
theorem AB.r {rs:List di} (h:AB rs):∀x∈rs,Mw x:=fun x hx=>by
 obtain⟨j,hj,rfl⟩:=List.getElem_of_mem hx;obtain⟨h1,a,b,c,d,h2,_⟩:=h j _ (i5 hj);have e:rs[j]=⟨(⟨#[114]⟩:ByteArray)++eO (j:Int),[a,b,c,d]⟩:=by rw[<-h1,<-h2]
 rw[e];exact Ly _
theorem JB {w:Int} (h0:0<=w) (h1:w=0∨w<2):IntKind.i64.wrap (1+w)=1∨IntKind.i64.wrap (1+w)=2:=by
 have h:w=0∨w=1:=ae
 rcases h with rfl|rfl
 ·exact .inl rfl
 ·exact .inr rfl
theorem SO {i:Nat} (h:i<4):(IntKind.i64.wrap (1+(i:Int).tmod 2)=1∨IntKind.i64.wrap (1+(i:Int).tmod 2)=2)/\(IntKind.i64.wrap (1+IntKind.i64.wrap ((i:Int).tdiv 2))=1∨IntKind.i64.wrap (1+IntKind.i64.wrap ((i:Int).tdiv 2))=2):=by
 have h:i=0∨i=1∨i=2∨i=3:=ae
 rcases h with rfl|rfl|rfl|rfl<;>decide
def J7 (X:Id) (bs:List Int) (A:Nat) (σ:aw) (r:AV) (σ':aw):Prop:=∃(og o sd:Id) (G T2:Nat) (rows:List (List AV)) (rb rn:List Int) (rs:List di),r=.agg [.own og 0 G,.own o 0 T2,.own sd 0 1,.int .i64 2]/\(1<=rb.length/\rb.length<=4/\1<=rn.length/\rn.length<=4/\T2<=100)/\iC rb/\iC rn/\(AB rs/\4<=rs.length/\rs.length<=5)/\
 σ'.get og=some ⟨true,2,(iv rb rn).1.map dU⟩/\(iv rb rn).1.length=G/\σ'.get o=some ⟨true,2,rows⟩/\((iv rb rn).2++rs).length=T2/\TX iW σ.next σ'.get σ'.next rows ((iv rb rn).2++rs)/\¬iW o.site/\(σ.next<=og.bH/\og.bH<σ'.next/\σ.next<=o.bH/\o.bH<σ'.next)/\σ'.get sd=some ⟨true,3,[ad ⟨⟨0,0⟩,0⟩]⟩/\(σ.next<=sd.bH/\sd.bH<σ'.next)/\eZ σ'.get X bs (A+100)/\lv X σ σ'
theorem Ga (c:UInt8) {dt:ByteArray} (h:dt.size<=20):((⟨#[c]⟩:ByteArray)++dt).size<=64:=by
 rw[gK];have:(⟨#[c]⟩:ByteArray).size=1:=rfl;omega
theorem Cq:∀(r:List Int),r.length<=1000->∀x∈(xb r).1,x.bL.size<=64
 |[],_,x,hx=>by
  rcases List.mem_cons.1 hx with h|h
  ·rw[h];decide
  ·rw[List.mem_singleton.1 h];decide
 |b::r,hl,x,hx=>by
  rw[List.length_cons]at hl;rw[k6]at hx
  rcases List.mem_append.1 hx with hx|hx
  ·exact Cq r ae x hx
  ·rw[List.mem_singleton.1 hx];exact Ga _ (iK _ ae)
theorem oR (q:List Int) (hq:q.length<=1000):∀(r:List Int),r.length<=1000->∀x∈(iv q r).1,x.bL.size<=64
 |[],_,x,hx=>Cq q hq x hx
 |b::r,hl,x,hx=>by
  rw[List.length_cons]at hl;rw[k8]at hx
  rcases List.mem_append.1 hx with hx|hx
  ·exact oR q hq r ae x hx
  ·rw[List.mem_singleton.1 hx];exact Ga _ (iK _ ae)
theorem xF (bs:List Int) (hb:∀b∈bs,0<=b/\b<=255) (iy:bs.length<=4096) (X:Id) (A:Nat) (ha:A<=900000) (σ:aw) (h:eZ σ.get X bs A) (hX:X.bH<σ.next):
  Call Tryz.prog 59 [.ptr X 0 0] σ (J7 X bs A σ):=by
 refine tg XJ rfl fun fM=>?_;simp only[IB,ye,IC,PG,PH,PI,Wm,L1,L3,Wn,Wo,Wp,Wq,Sk,Wr,Ws,Wt,ID,yf,IE,PJ,PK,PL,Wu,L4,L5,Wv,Ww,Wx,Wy,Sm,Wz,WA,WB,sS,Sn,WC,WD,WE,WG,WH,WI,Ec,Sp,WJ,WK,WL,WM,WN,WO]
 try simp only[q]
 clear fM;have vX:=cR hX;(try((repeat(revert N;apply g7));refine wk @g8 ?_;repeat(apply g6;intro N hN)))
 refine .inr (ax _ _ _ _ _ (fun r σ1 hq=>?_) (ik bs hb iy X 4 A ae _ (by
  obtain⟨a,z,q1,q2⟩:=h
  exact⟨a,z,q1,by simp only[go_sem,↓reduceIte,Nat.reduceEqDiff,Nat.reduceAdd,Nat.reduceSub,Nat.reduceLeDiff,reduceCtorEq,vX]<;>exact q2⟩)))
 obtain⟨v,rfl,v0,v1,h1,hK⟩:=hq;obtain⟨g1,x1⟩:=σ1;(try dsimp only at h1);have Eo:=hK.1;(try dsimp only at Eo);have lO:=hK.2 ⟨59000000,σ.next⟩ (fun e=>by rw[<-e]at hX;(try dsimp only at hX);omega) aI;have qS:∀i:Id,i≠X->i.bH<σ.next->g1 i=σ.get i:=fun i hi hv=>(hK.2 i hi aI).trans (by have hv:=cR hv;simp only[go_sem,↓reduceIte,Nat.reduceEqDiff,Nat.reduceAdd,Nat.reduceSub,Nat.reduceLeDiff,reduceCtorEq,hv]);simp only[go_sem,↓reduceIte,Nat.reduceEqDiff,Nat.reduceAdd,Nat.reduceSub,Nat.reduceLeDiff,reduceCtorEq]at lO;clear hK h
 obtain⟨m1,Mg⟩:∃m:Nat,IntKind.i64.wrap (1+v)=(m:Int):=⟨(1+v).toNat,by rw[db ae];omega⟩
 have hmb1:1<=m1/\m1<=4:=by
  rw[db ae]at Mg;omega
 apply hN;clear hN N;(try((repeat(revert N;apply g7));refine wk @Mg ?_;repeat(apply g6;intro N hN)));refine .inr (ax _ _ _ _ _ (fun r σ2 hq=>?_) (ik bs hb iy X 4 (A+2) ae _ h1));obtain⟨y,rfl,y0,y1,h2,hK⟩:=hq;obtain⟨g2,x2⟩:=σ2;(try dsimp only at h2);have qf:=hK.1;(try dsimp only at qf);have mQ:=(hK.2 ⟨59000000,σ.next⟩ (fun e=>by rw[<-e]at hX;(try dsimp only at hX);omega) aI).trans lO;have KC:∀i:Id,i≠X->i.bH<σ.next->g2 i=σ.get i:=fun i hi hv=>(hK.2 i hi aI).trans (qS i hi hv);(try dsimp only at mQ);clear hK h1 qS lO
 obtain⟨m2,HK⟩:∃m:Nat,IntKind.i64.wrap (1+y)=(m:Int):=⟨(1+y).toNat,by rw[db ae];omega⟩
 have hmb2:1<=m2/\m2<=4:=by
  rw[db ae]at HK;omega
 apply hN;clear hN N;(try((repeat(revert N;apply g7));refine wk @HK ?_;repeat(apply g6;intro N hN)));have R4:=cR (i:=X) (n:=x2) ae
 refine cj (fun n env st=>∃k:Nat,n=(m1)-k/\k<=(m1)/\env 8=.int .i64 (k:Int)/\env 7=.int .i64 (k:Int)/\((eZ st.get X bs (A+4+2*k)/\x2+3<=st.next/\(∀i:Id,i≠X->i.bH<x2->st.get i=g2 i)/\∃r,r.length=k/\iC r/\iR (x2+2) st.get st.next ⟨59003001,x2+1⟩ (k+2) (k+1) (xb r).1 (xb r).2))) (m1) ⟨0,ae,ae,sl (tw @Mg @HK),sl (tw @Mg @HK),by(try dsimp only);exact⟨(by
  obtain⟨za,zz,wN,gX⟩:=h2
  exact⟨za,zz,ae,by simp only[go_sem,↓reduceIte,Nat.reduceEqDiff,Nat.reduceAdd,Nat.reduceSub,Nat.reduceLeDiff,reduceCtorEq,R4]<;>exact gX⟩),ae,fun i _ hi=>(by
   have h8:=cR hi
   simp only[go_sem,↓reduceIte,Nat.reduceEqDiff,Nat.reduceAdd,Nat.reduceSub,Nat.reduceLeDiff,reduceCtorEq,h8]),[],rfl,(fun _ h=>nomatch h),⟨59004002,x2+1+1⟩,⟨59006001,x2+1+1+1+1⟩,_,sl @g8,rfl,sl @g8,⟨.inl rfl,aI,aI⟩,rfl,sl @g8,TX.one (t:=⟨⟨#[115,101,101,100]⟩,[0,0,0,0]⟩) (e:=⟨59005000,x2+1+1+1⟩) ⟨rfl,⟨by decide,by decide⟩,rfl,.inl rfl,aI,aI,sl @g8⟩,.inl rfl,aI,aI⟩⟩ ?_
 rintro n_a m3 i8 ⟨k,rfl,ale,a8,a7,mD⟩ eC;have a0:=eC 0 g9;have a2:=eC 2 g9;have a3:=eC 3 g9;have a4:=eC 4 g9;have a5:=eC 5 g9;have a6:=eC 6 g9;simp only[go_sem,↓reduceIte,Nat.reduceEqDiff,Nat.reduceAdd,Nat.reduceSub,Nat.reduceLeDiff,reduceCtorEq,Mg,HK]at a0 a2 a3 a4 a5 a6;clear eC;obtain⟨aS,aN,aO,rb,U7,SQ,aC⟩:=mD
 obtain⟨L,PU⟩:∃L,(xb rb).1=L:=⟨_,rfl⟩
 obtain⟨Ts,QM⟩:∃T,(xb rb).2=T:=⟨_,rfl⟩
 rw[PU,QM]at aC;obtain⟨og,o,rows,aB,hL,mu,⟨sg,Ru,Rv⟩,GF,go,hT,so,jM,oK⟩:=id aC;have hr:rows.length=k+1:=hT.len.trans GF
 by_cases hk:(k:Int)<(m1:Int)
 ·have dW:∀{e:Env} {gg:Rows} {nx:Nat},(e 8=.int .i64 (IntKind.i64.wrap ((k:Int)+1)))->(e 7=.int .i64 ((k+1):Int))->((eZ gg X bs (A+4+2*(k+1))/\x2+3<=nx/\(∀i:Id,i≠X->i.bH<x2->gg i=g2 i)/\∃r,r.length=(k+1)/\iC r/\iR (x2+2) gg nx ⟨59003001,x2+1⟩ ((k+1)+2) ((k+1)+1) (xb r).1 (xb r).2))->∃m0,m0<(m1)-k/\∃k:Nat,m0=(m1)-k/\k<=(m1)/\e 8=.int .i64 (k:Int)/\e 7=.int .i64 (k:Int)/\((eZ gg X bs (A+4+2*k)/\x2+3<=nx/\(∀i:Id,i≠X->i.bH<x2->gg i=g2 i)/\∃r,r.length=k/\iC r/\iR (x2+2) gg nx ⟨59003001,x2+1⟩ (k+2) (k+1) (xb r).1 (xb r).2)):=fun x1 x2 x3=>⟨_,ae,k+1,rfl,ae,(by rw[x1,aZ ae]),x2,x3⟩;have qT:=mE (k:Int) ae ae;have zm:=iK (k:Int) ae
  obtain⟨dt,SU⟩:∃dt,eO (k:Int)=dt:=⟨_,rfl⟩
  rw[SU]at qT zm
  have eT:(#[120]:Array UInt8).size+dt.size<=9223372036854775807:=by
   have:(#[120]:Array UInt8).size=1:=rfl;omega
  have iA:(#[101]:Array UInt8).size+dt.size<=9223372036854775807:=by
   have:(#[101]:Array UInt8).size=1:=rfl;omega
  have j3:((⟨#[120]⟩:ByteArray)++dt).size<=64:=by
   rw[gK];have:(⟨#[120]⟩:ByteArray).size=1:=rfl;omega
  have Ft:((⟨#[101]⟩:ByteArray)++dt).size<=64:=by
   rw[gK];have:(⟨#[101]⟩:ByteArray).size=1:=rfl;omega
  obtain⟨ga,na⟩:=i8;(try dsimp only at aS aN aO aB mu Rv go hT oK);have PX:k<Ts.length:=ae;obtain⟨u,eP,⟨_,_,hl,f1,f2,f3,gE⟩,WZ⟩:=hT.get PX;have Q2:=uf (d:=1) (w:=(k:Int)+3) PX
  obtain⟨nm,YF⟩:∃x,Ts[k].bL=x:=⟨_,rfl⟩
  obtain⟨l,hlE⟩:∃x,Ts[k].de=x:=⟨_,rfl⟩
  rw[YF]at eP WZ Q2;rw[hlE]at hl gE Q2;have vQ:=cR Rv;have vo:=cR oK;have vu:=cR f3;have tU:=CW sg so;have tQ:=CV f1 sg;have tR:=tu f1 so
  have nB:∀i:Id,x2+2<=i.bH->∀s,(i=⟨s,x2+1⟩)=False/\((⟨s,x2+1⟩:Id)=i)=False:=fun i hi s=>⟨eq_false fun e=>by rw[e]at hi;(try dsimp only at hi);omega,eq_false fun e=>by rw[<-e]at hi;(try dsimp only at hi);omega⟩;have qZ:=nB og Ru;have pa:=nB o jM;have re:=nB u f2;have jL:(L.map dU).length=k+2:=by rw[List.length_map,hL]
  have qU:k<=16777213:=ae;have QW:(k:Int)<((k+1:Nat):Int):=ae;have eW:(l.map bf).length=4:=by rw[List.length_map,hl]
  have jV:(l.map bf)[1]? =some [.int .i64 (l.getD 1 0)]:=getD_map bf ae;have fV:∀w:Int,(l.map bf).set 1 [.int .i64 w]=(l.set 1 w).map bf:=fun w=>by rw[List.map_set];rfl
  (have zF:=tw9 @a8 @a7 @a0 @a2 @a3 @a4 @a5 @a6 (tw9 @hk @aB @eT @iA @mu @go @vQ @vo (tw9 @vu @tU @tQ @tR @qZ @pa @re @jL (tw8 @qU @QW @eP @gE @jV @eW @fV @hr)));(repeat(first|((repeat(revert N;apply g7));refine wk zF ?_;repeat(apply g6;intro N hN))|((try apply i3);refine⟨_,au.x (qT) (sd zF),?_⟩;apply hN;clear hN N)));try clear zF)
  refine mb (fun e st=>e 0=.ptr X 0 0/\e 2=m3 2/\e 3=m3 3/\e 4=m3 4/\e 5=m3 5/\e 6=m3 6/\e 8=.int .i64 (k:Int)/\eZ st.get X bs (A+4+2*(k+1))/\x2+3<=st.next/\(∀i:Id,i≠X->i.bH<x2->st.get i=g2 i)/\∃r,r.length=k+1/\iC r/\iR (x2+2) st.get st.next ⟨59003001,x2+1⟩ (k+3) (k+2) (xb r).1 (xb r).2) ?_ ?_
  ·rintro e st ⟨r0,r2,r3,r4,r5,r6,r8,rS,rN,rO,rr,q1,q2,rC⟩;obtain⟨gc,nc⟩:=st;(try dsimp only at rS rN rO rC);obtain⟨qg,qo,rows',rB,_⟩:=id rC;rw[a2]at r2;rw[a3]at r3;rw[a4]at r4;rw[a5]at r5;rw[a6]at r6;apply hN;clear hN N;have w9:IntKind.i64.wrap (((k+2:Nat):Int)-1)=(k:Int)+1:=(db ae).trans ae;(try((repeat(revert N;apply g7));refine wk (tw9 @r0 @r2 @r3 @r4 @r5 @r6 @r8 @rB @w9) ?_;repeat(apply g6;intro N hN)));refine dW ?_ ?_ (by(try dsimp only);exact⟨rS,ae,rO,rr,q1,q2,rC.later ae⟩)
   all_goals simp only[go_sem,↓reduceIte,Nat.reduceEqDiff,Nat.reduceAdd,Nat.reduceSub,Nat.reduceLeDiff,reduceCtorEq,a8,a7,a0,a2,a3,a4,a5,a6,r8]
  ·intro N hN;have nXu:(X=u)=False:=eq_false fun h=>by rw[<-h]at f2;omega
   have nXg:(X=og)=False:=eq_false fun h=>by rw[<-h]at Ru;omega
   have Xr:=cR (i:=X) (n:=na) ae;refine fJ ?_ ?_<;>(have zF:=tw9 @a8 @a7 @a0 @a2 @a3 @a4 @a5 @a6 (tw9 @aB @eT @iA @mu @go @vQ @vo @vu (tw8 @tU @tQ @tR @qZ @pa @re @jL @hr));(repeat(first|((repeat(revert N;apply g7));refine wk zF ?_;repeat(apply g6;intro N hN))|((try apply i3);refine⟨_,au.x (qT) (sd zF),?_⟩;apply hN;clear hN N)));try clear zF)<;>(try refine fJ ?_ ?_)<;>(have zF:=tw9 @a8 @a7 @a0 @a2 @a3 @a4 @a5 @a6 (tw9 @aB @eT @iA @mu @go @vQ @vo @vu (tw8 @tU @tQ @tR @qZ @pa @re @jL @hr));(repeat(first|((repeat(revert N;apply g7));refine wk zF ?_;repeat(apply g6;intro N hN))|((try apply i3);refine⟨_,au.x (qT) (sd zF),?_⟩;apply hN;clear hN N)));try clear zF)<;>(try refine fJ ?_ ?_)<;>(have zF:=tw9 @a8 @a7 @a0 @a2 @a3 @a4 @a5 @a6 (tw9 @aB @eT @iA @mu @go @vQ @vo @vu (tw8 @tU @tQ @tR @qZ @pa @re @jL @hr));(repeat(first|((repeat(revert N;apply g7));refine wk zF ?_;repeat(apply g6;intro N hN))|((try apply i3);refine⟨_,au.x (qT) (sd zF),?_⟩;apply hN;clear hN N)));try clear zF)<;>(try refine fJ ?_ ?_)<;>(have zF:=tw9 @a8 @a7 @a0 @a2 @a3 @a4 @a5 @a6 (tw9 @aB @eT @iA @mu @go @vQ @vo @vu (tw8 @tU @tQ @tR @qZ @pa @re @jL @hr));(repeat(first|((repeat(revert N;apply g7));refine wk zF ?_;repeat(apply g6;intro N hN))|((try apply i3);refine⟨_,au.x (qT) (sd zF),?_⟩;apply hN;clear hN N)));try clear zF)<;>(try refine fJ ?_ ?_)<;>(have zF:=tw9 @a8 @a7 @a0 @a2 @a3 @a4 @a5 @a6 (tw9 @aB @eT @iA @mu @go @vQ @vo @vu (tw8 @tU @tQ @tR @qZ @pa @re @jL @hr));(repeat(first|((repeat(revert N;apply g7));refine wk zF ?_;repeat(apply g6;intro N hN))|((try apply i3);refine⟨_,au.x (qT) (sd zF),?_⟩;apply hN;clear hN N)));try clear zF)<;>(try refine fJ ?_ ?_)<;>(have zF:=tw9 @a8 @a7 @a0 @a2 @a3 @a4 @a5 @a6 (tw9 @aB @eT @iA @mu @go @vQ @vo @vu (tw8 @tU @tQ @tR @qZ @pa @re @jL @hr));(repeat(first|((repeat(revert N;apply g7));refine wk zF ?_;repeat(apply g6;intro N hN))|((try apply i3);refine⟨_,au.x (qT) (sd zF),?_⟩;apply hN;clear hN N)));try clear zF)
   all_goals
    refine .inr (ax _ _ _ _ _ (fun r σ3 hq=>?_) (ik bs hb iy X 2 (A+4+2*k) ae _ (by
     obtain⟨za,zz,wN,gX⟩:=aS
     exact⟨za,zz,wN,by simp only[go_sem,↓reduceIte,Nat.reduceEqDiff,Nat.reduceAdd,Nat.reduceSub,Nat.reduceLeDiff,reduceCtorEq,Xr,R4,nXu,nXg]<;>exact gX⟩)))
    obtain⟨w,rfl,w0,w1,h3,hK⟩:=hq;obtain⟨g3,x3⟩:=σ3;(try dsimp only at h3);have Jm:=hK.1;(try dsimp only at Jm);have c5:=hK.2 ⟨59003001,x2+1⟩ (fun e=>by rw[<-e]at hX;(try dsimp only at hX);omega) aI;have cG:=hK.2 ⟨59011007,na+1⟩ (fun e=>by rw[<-e]at hX;(try dsimp only at hX);omega) aI;have co:=hK.2 o (fun h=>by rw[h]at jM;omega) aI;have cu:=hK.2 u (fun h=>by rw[h]at f2;omega) aI;simp only[go_sem,↓reduceIte,Nat.reduceEqDiff,Nat.reduceAdd,Nat.reduceSub,Nat.reduceLeDiff,reduceCtorEq,go,vo,vu,tU,tQ,tR,qZ,pa,re]at c5 cG co cu;apply hN;clear hN N;have AS:k<=16777214:=ae;have VQ:=cR (i:=o) (n:=x3) ae
    (have zF:=tw9 @a8 @a7 @a0 @a2 @a3 @a4 @a5 @a6 (tw9 @c5 @cG @co @hr @iA @AS @qZ @pa (tw @re @VQ));(repeat(first|((repeat(revert N;apply g7));refine wk zF ?_;repeat(apply g6;intro N hN))|((try apply i3);refine⟨_,au.x (qT) (sd zF),?_⟩;apply hN;clear hN N)));try clear zF)
    obtain⟨za,zz,wN,gX⟩:=h3;have Gs:=cR (i:=X) (n:=x3) ae;have Rp:(X=o)=False:=eq_false fun h=>by rw[<-h]at jM;omega
    have UI:=(WZ g3 (l.set 1 ((k:Int)+3)) (by rw[List.length_set,hl]) (by rw[show(k:Int)+3=((k+2+1:Nat):Int) by omega];exact cu) fun i h1 h2 h4 h5=>(hK.2 i (fun h=>by rw[h]at h2;omega) aI).trans (by
     have q1:=cR h4;have q2:=CV h1 sg;have q3:=nB i h2;have q4:(i=u)=False:=eq_false h5
     simp only[go_sem,↓reduceIte,Nat.reduceEqDiff,Nat.reduceAdd,Nat.reduceSub,Nat.reduceLeDiff,reduceCtorEq,q1,q2,q3,q4])).frame (n':=x3) ae fun _ _ _ _=>rfl
    rw[<-Q2]at UI;have hbw:IntKind.i64.wrap (1+w)=1∨IntKind.i64.wrap (1+w)=2:=by rw[db ae];omega
    have Ja:∀i:Id,i≠X->i.bH<x2->g3 i=g2 i:=fun i h1 h2=>(hK.2 i h1 aI).trans (by
     have q1:=cR (i:=i) (n:=na) ae;have q2:=cR h2;have q3:(i=og)=False:=eq_false fun h=>by rw[h]at h2;omega
     have q4:(i=u)=False:=eq_false fun h=>by rw[h]at h2;omega
     simp only[go_sem,↓reduceIte,Nat.reduceEqDiff,Nat.reduceAdd,Nat.reduceSub,Nat.reduceLeDiff,reduceCtorEq,q1,q2,q3,q4]<;>exact aO i h1 h2)
    exact⟨sd (tw8 @a8 @a7 @a0 @a2 @a3 @a4 @a5 @a6),sd (tw8 @a8 @a7 @a0 @a2 @a3 @a4 @a5 @a6),sd (tw8 @a8 @a7 @a0 @a2 @a3 @a4 @a5 @a6),sd (tw8 @a8 @a7 @a0 @a2 @a3 @a4 @a5 @a6),sd (tw8 @a8 @a7 @a0 @a2 @a3 @a4 @a5 @a6),sd (tw8 @a8 @a7 @a0 @a2 @a3 @a4 @a5 @a6),sd (tw8 @a8 @a7 @a0 @a2 @a3 @a4 @a5 @a6),⟨za,zz,ae,by simp only[go_sem,↓reduceIte,Nat.reduceEqDiff,Nat.reduceAdd,Nat.reduceSub,Nat.reduceLeDiff,reduceCtorEq,Gs,R4,Rp]<;>exact gX⟩,aI,fun i h1 h2=>(by
     have q1:=cR (i:=i) (n:=x3) ae;have q2:=cR h2;have q3:(i=o)=False:=eq_false fun h=>by rw[h]at h2;omega
     simp only[go_sem,↓reduceIte,Nat.reduceEqDiff,Nat.reduceAdd,Nat.reduceSub,Nat.reduceLeDiff,reduceCtorEq,q1,q2,q3]<;>exact Ja i h1 h2),IntKind.i64.wrap (1+w)::rb,by rw[List.length_cons,U7],iC.cons hbw SQ,by
      rw[k6,PU,QM,U7];have q9:eO ((k:Nat):Int)=dt:=SU;unfold XT;rw[q9]
      exact⟨⟨59011007,na+1⟩,⟨59013014,x3⟩,rows++[[.str ((⟨#[101]⟩:ByteArray)++dt),.own ⟨59013011,x3⟩ 0 4]],sl @g8,by simp[hL],by
      have q1:((⟨59011007,na+1⟩:Id)=o)=False:=eq_false fun h=>by rw[<-h]at oK;(try dsimp only at oK);omega
      rw[List.map_append];simp only[go_sem,↓reduceIte,Nat.reduceEqDiff,Nat.reduceAdd,Nat.reduceSub,Nat.reduceLeDiff,reduceCtorEq,q1]<;>exact cG,⟨.inr (.inl rfl),aI,aI⟩,by simp[fu,GF],sl @g8,(UI.frame (n':=x3) ae fun i h1 h2 h4=>(by
       have q1:=cR h4;have q2:=tu h1 so;have q3:=nB i h2
       simp only[go_sem,↓reduceIte,Nat.reduceEqDiff,Nat.reduceAdd,Nat.reduceSub,Nat.reduceLeDiff,reduceCtorEq,q1,q2,q3])).snoc (t:=⟨(⟨#[101]⟩:ByteArray)++dt,[IntKind.i64.wrap (1+w),0,0,(k:Int)+3]⟩) (e:=⟨59013011,x3⟩) aI aI ⟨rfl,⟨Ft,tX _ _⟩,rfl,.inr (.inl rfl),aI,aI,by
       have q1:((⟨59013011,x3⟩:Id)=o)=False:=eq_false fun h=>by rw[<-h]at oK;(try dsimp only at oK);omega
       rw[show(k:Int)+3=((k+2+1:Nat):Int) by omega]
       simp only[go_sem,↓reduceIte,Nat.reduceEqDiff,Nat.reduceAdd,Nat.reduceSub,Nat.reduceLeDiff,reduceCtorEq,q1]<;>rfl⟩,.inr (.inl rfl),aI,aI⟩⟩
 ·have Yz:k=m1:=ae;subst Yz;clear aB hL mu sg Ru Rv hr go hT so jM oK;rw[<-PU,<-QM]at aC;clear PU QM GF;obtain⟨ga,na⟩:=i8;(try dsimp only at aS aN aO aC);(try((repeat(revert N;apply g7));refine wk (tw9 @a8 @a7 @a0 @a2 @a3 @a4 @a5 @a6 @hk) ?_;repeat(apply g6;intro N hN)));refine cj (fun n env st=>∃j:Nat,n=(m2)-j/\j<=(m2)/\env 9=.int .i64 (j:Int)/\env 7=.int .i64 (nf k j:Int)/\((eZ st.get X bs (A+4+2*k+2*j)/\x2+3<=st.next/\(∀i:Id,i≠X->i.bH<x2->st.get i=g2 i)/\∃r,r.length=j/\iC r/\iR (x2+2) st.get st.next ⟨59003001,x2+1⟩ (k+2+j) (k+1+j) (iv rb r).1 (iv rb r).2))) (m2) ⟨0,ae,ae,sl (tw9 @a8 @a7 @a0 @a2 @a3 @a4 @a5 @a6 @HK),sl (tw9 @a8 @a7 @a0 @a2 @a3 @a4 @a5 @a6 @HK),by(try dsimp only);exact⟨by(try simp only[go_sem,↓reduceIte,Nat.reduceEqDiff,Nat.reduceAdd,Nat.reduceSub,Nat.reduceLeDiff,reduceCtorEq]);exact aS,ae,aO,[],rfl,(fun _ h=>nomatch h),aC.later ae⟩⟩ ?_;rintro n_b m4 i9 ⟨j,rfl,ble,b9,b7,bI0⟩ eB;have b0:=eB 0 g9;have b2:=eB 2 g9;have b4:=eB 4 g9;have b5:=eB 5 g9;simp only[go_sem,↓reduceIte,Nat.reduceEqDiff,Nat.reduceAdd,Nat.reduceSub,Nat.reduceLeDiff,reduceCtorEq,a8,a7,a0,a2,a3,a4,a5,a6,HK]at b0 b2 b4 b5;clear eB;obtain⟨bS,bN,bO,rn,hrn,NJ,bC⟩:=bI0
  obtain⟨L,PU⟩:∃L,(iv rb rn).1=L:=⟨_,rfl⟩
  obtain⟨Ts,QM⟩:∃T,(iv rb rn).2=T:=⟨_,rfl⟩
  rw[PU,QM]at bC;obtain⟨og,o,rows,bB,hL,mu,⟨sg,Ru,Rv⟩,GF,go,hT,so,jM,oK⟩:=id bC;have hr:rows.length=k+1+j:=hT.len.trans GF
  by_cases hj:(j:Int)<(m2:Int)
  ·have ep:∀{e:Env} {gg:Rows} {nx:Nat},(e 9=.int .i64 (IntKind.i64.wrap ((j:Int)+1)))->(e 7=.int .i64 (nf k (j+1):Int))->((eZ gg X bs (A+4+2*k+2*(j+1))/\x2+3<=nx/\(∀i:Id,i≠X->i.bH<x2->gg i=g2 i)/\∃r,r.length=(j+1)/\iC r/\iR (x2+2) gg nx ⟨59003001,x2+1⟩ (k+2+(j+1)) (k+1+(j+1)) (iv rb r).1 (iv rb r).2))->∃m0,m0<(m2)-j/\∃j:Nat,m0=(m2)-j/\j<=(m2)/\e 9=.int .i64 (j:Int)/\e 7=.int .i64 (nf k j:Int)/\((eZ gg X bs (A+4+2*k+2*j)/\x2+3<=nx/\(∀i:Id,i≠X->i.bH<x2->gg i=g2 i)/\∃r,r.length=j/\iC r/\iR (x2+2) gg nx ⟨59003001,x2+1⟩ (k+2+j) (k+1+j) (iv rb r).1 (iv rb r).2)):=fun x1 x2 x3=>⟨_,ae,j+1,rfl,ae,(by rw[x1,aZ ae]),x2,x3⟩
   obtain⟨G,hG⟩:∃G,k+2+j=G:=⟨_,rfl⟩
   obtain⟨TT,X8⟩:∃T,k+1+j=T:=⟨_,rfl⟩
   obtain⟨z,hz⟩:∃z,nf k j=z:=⟨_,rfl⟩
   rw[hG]at bB hL;rw[X8]at bB hr GF;rw[hz]at b7;have hzT:z<TT:=by rw[<-hz,<-X8];unfold nf;split<;>omega
   have qT:=mE (j:Int) ae ae;have zm:=iK (j:Int) ae
   obtain⟨dt,SU⟩:∃dt,eO (j:Int)=dt:=⟨_,rfl⟩
   rw[SU]at qT zm
   have eT:(#[121]:Array UInt8).size+dt.size<=9223372036854775807:=by
    have:(#[121]:Array UInt8).size=1:=rfl;omega
   have iA:(#[110]:Array UInt8).size+dt.size<=9223372036854775807:=by
    have:(#[110]:Array UInt8).size=1:=rfl;omega
   have j3:((⟨#[121]⟩:ByteArray)++dt).size<=64:=by
    rw[gK];have:(⟨#[121]⟩:ByteArray).size=1:=rfl;omega
   have Ft:((⟨#[110]⟩:ByteArray)++dt).size<=64:=by
    rw[gK];have:(⟨#[110]⟩:ByteArray).size=1:=rfl;omega
   obtain⟨gb,nb⟩:=i9;(try dsimp only at bS bN bO bB mu Rv go hT oK);have PX:z<Ts.length:=ae;obtain⟨u,eP,⟨_,_,hl,f1,f2,f3,gE⟩,WZ⟩:=hT.get PX;have Q2:=uf (d:=0) (w:=(G:Int)+1) PX
   obtain⟨nm,YF⟩:∃x,Ts[z].bL=x:=⟨_,rfl⟩
   obtain⟨l,hlE⟩:∃x,Ts[z].de=x:=⟨_,rfl⟩
   rw[YF]at eP WZ Q2;rw[hlE]at hl gE Q2;have vQ:=cR Rv;have vo:=cR oK;have vu:=cR f3;have tU:=CW sg so;have tQ:=CV f1 sg;have tR:=tu f1 so
   have nB:∀i:Id,x2+2<=i.bH->∀s,(i=⟨s,x2+1⟩)=False/\((⟨s,x2+1⟩:Id)=i)=False:=fun i hi s=>⟨eq_false fun e=>by rw[e]at hi;(try dsimp only at hi);omega,eq_false fun e=>by rw[<-e]at hi;(try dsimp only at hi);omega⟩;have qZ:=nB og Ru;have pa:=nB o jM;have re:=nB u f2;have jL:(L.map dU).length=G:=by rw[List.length_map,hL]
   have qU:G<=16777215:=ae;have QW:(z:Int)<(TT:Int):=ae;have Ml:(0:Int)<=(z:Int):=ae;have eW:(l.map bf).length=4:=by rw[List.length_map,hl]
   have jV:(l.map bf)[0]? =some [.int .i64 (l.getD 0 0)]:=getD_map bf ae;have fV:∀w:Int,(l.map bf).set 0 [.int .i64 w]=(l.set 0 w).map bf:=fun w=>by rw[List.map_set];rfl
   (have zF:=tw9 @b9 @b7 @b0 @b2 @b4 @b5 @hj @bB (tw9 @eT @iA @mu @go @vQ @vo @vu @tU (tw9 @tQ @tR @qZ @pa @re @jL @qU @QW (tw6 @eP @gE @jV @eW @fV @hr)));(repeat(first|((repeat(revert N;apply g7));refine wk zF ?_;repeat(apply g6;intro N hN))|((try apply i3);refine⟨_,au.x (qT) (sd zF),?_⟩;apply hN;clear hN N)));try clear zF)
   refine mb (fun e st=>e 0=.ptr X 0 0/\e 2=m4 2/\e 4=m4 4/\e 5=m4 5/\e 9=.int .i64 (j:Int)/\eZ st.get X bs (A+4+2*k+2*(j+1))/\x2+3<=st.next/\(∀i:Id,i≠X->i.bH<x2->st.get i=g2 i)/\∃r,r.length=j+1/\iC r/\iR (x2+2) st.get st.next ⟨59003001,x2+1⟩ (G+1) (TT+1) (iv rb r).1 (iv rb r).2) ?_ ?_
   ·rintro e st ⟨r0,r2,r4,r5,r9,rS,rN,rO,rr,q1,q2,rC⟩;obtain⟨gc,nc⟩:=st;(try dsimp only at rS rN rO rC);obtain⟨qg,qo,rows',rB,_⟩:=id rC;rw[b2]at r2;rw[b4]at r4;rw[b5]at r5;apply hN;clear hN N;have w9:IntKind.i64.wrap (((TT+1:Nat):Int)-1)=(TT:Int):=(db ae).trans ae;have hl9:nf k (j+1)=TT:=by rw[<-X8];unfold nf;rw[if_neg ae];omega
    (try((repeat(revert N;apply g7));refine wk (tw7 @r0 @r2 @r4 @r5 @r9 @rB @w9) ?_;repeat(apply g6;intro N hN)));refine ep ?_ ?_ (by(try dsimp only);rw[show k+2+(j+1)=G+1 by omega,show k+1+(j+1)=TT+1 by omega];exact⟨rS,ae,rO,rr,q1,q2,rC.later ae⟩)
    all_goals simp only[go_sem,↓reduceIte,Nat.reduceEqDiff,Nat.reduceAdd,Nat.reduceSub,Nat.reduceLeDiff,reduceCtorEq,b9,b7,b0,b2,b4,b5,r9,hl9]
   ·intro N hN;have nXu:(X=u)=False:=eq_false fun h=>by rw[<-h]at f2;omega
    have nXg:(X=og)=False:=eq_false fun h=>by rw[<-h]at Ru;omega
    have Xr:=cR (i:=X) (n:=nb) ae;refine fJ ?_ ?_<;>(have zF:=tw9 @b9 @b7 @b0 @b2 @b4 @b5 @bB @eT (tw9 @iA @mu @go @vQ @vo @vu @tU @tQ (tw6 @tR @qZ @pa @re @jL @hr));(repeat(first|((repeat(revert N;apply g7));refine wk zF ?_;repeat(apply g6;intro N hN))|((try apply i3);refine⟨_,au.x (qT) (sd zF),?_⟩;apply hN;clear hN N)));try clear zF)<;>(try refine fJ ?_ ?_)<;>(have zF:=tw9 @b9 @b7 @b0 @b2 @b4 @b5 @bB @eT (tw9 @iA @mu @go @vQ @vo @vu @tU @tQ (tw6 @tR @qZ @pa @re @jL @hr));(repeat(first|((repeat(revert N;apply g7));refine wk zF ?_;repeat(apply g6;intro N hN))|((try apply i3);refine⟨_,au.x (qT) (sd zF),?_⟩;apply hN;clear hN N)));try clear zF)<;>(try refine fJ ?_ ?_)<;>(have zF:=tw9 @b9 @b7 @b0 @b2 @b4 @b5 @bB @eT (tw9 @iA @mu @go @vQ @vo @vu @tU @tQ (tw6 @tR @qZ @pa @re @jL @hr));(repeat(first|((repeat(revert N;apply g7));refine wk zF ?_;repeat(apply g6;intro N hN))|((try apply i3);refine⟨_,au.x (qT) (sd zF),?_⟩;apply hN;clear hN N)));try clear zF)<;>(try refine fJ ?_ ?_)<;>(have zF:=tw9 @b9 @b7 @b0 @b2 @b4 @b5 @bB @eT (tw9 @iA @mu @go @vQ @vo @vu @tU @tQ (tw6 @tR @qZ @pa @re @jL @hr));(repeat(first|((repeat(revert N;apply g7));refine wk zF ?_;repeat(apply g6;intro N hN))|((try apply i3);refine⟨_,au.x (qT) (sd zF),?_⟩;apply hN;clear hN N)));try clear zF)<;>(try refine fJ ?_ ?_)<;>(have zF:=tw9 @b9 @b7 @b0 @b2 @b4 @b5 @bB @eT (tw9 @iA @mu @go @vQ @vo @vu @tU @tQ (tw6 @tR @qZ @pa @re @jL @hr));(repeat(first|((repeat(revert N;apply g7));refine wk zF ?_;repeat(apply g6;intro N hN))|((try apply i3);refine⟨_,au.x (qT) (sd zF),?_⟩;apply hN;clear hN N)));try clear zF)<;>(try refine fJ ?_ ?_)<;>(have zF:=tw9 @b9 @b7 @b0 @b2 @b4 @b5 @bB @eT (tw9 @iA @mu @go @vQ @vo @vu @tU @tQ (tw6 @tR @qZ @pa @re @jL @hr));(repeat(first|((repeat(revert N;apply g7));refine wk zF ?_;repeat(apply g6;intro N hN))|((try apply i3);refine⟨_,au.x (qT) (sd zF),?_⟩;apply hN;clear hN N)));try clear zF)
    all_goals
     refine .inr (ax _ _ _ _ _ (fun r σ3 hq=>?_) (ik bs hb iy X 2 (A+4+2*k+2*j) ae _ (by
      obtain⟨za,zz,wN,gX⟩:=bS
      exact⟨za,zz,wN,by simp only[go_sem,↓reduceIte,Nat.reduceEqDiff,Nat.reduceAdd,Nat.reduceSub,Nat.reduceLeDiff,reduceCtorEq,Xr,R4,nXu,nXg]<;>exact gX⟩)))
     obtain⟨w,rfl,w0,w1,h3,hK⟩:=hq;obtain⟨g3,x3⟩:=σ3;(try dsimp only at h3);have Jm:=hK.1;(try dsimp only at Jm);have c5:=hK.2 ⟨59003001,x2+1⟩ (fun e=>by rw[<-e]at hX;(try dsimp only at hX);omega) aI;have cG:=hK.2 ⟨59019007,nb+1⟩ (fun e=>by rw[<-e]at hX;(try dsimp only at hX);omega) aI;have co:=hK.2 o (fun h=>by rw[h]at jM;omega) aI;have cu:=hK.2 u (fun h=>by rw[h]at f2;omega) aI;simp only[go_sem,↓reduceIte,Nat.reduceEqDiff,Nat.reduceAdd,Nat.reduceSub,Nat.reduceLeDiff,reduceCtorEq,go,vo,vu,tU,tQ,tR,qZ,pa,re]at c5 cG co cu;apply hN;clear hN N;have AS:TT<=16777215:=ae;have VQ:=cR (i:=o) (n:=x3) ae
     (have zF:=tw9 @b9 @b7 @b0 @b2 @b4 @b5 @c5 @cG (tw8 @co @hr @iA @AS @qZ @pa @re @VQ);(repeat(first|((repeat(revert N;apply g7));refine wk zF ?_;repeat(apply g6;intro N hN))|((try apply i3);refine⟨_,au.x (qT) (sd zF),?_⟩;apply hN;clear hN N)));try clear zF)
     obtain⟨za,zz,wN,gX⟩:=h3;have Gs:=cR (i:=X) (n:=x3) ae;have Rp:(X=o)=False:=eq_false fun h=>by rw[<-h]at jM;omega
     have UI:=(WZ g3 (l.set 0 ((G:Int)+1)) (by rw[List.length_set,hl]) (by rw[show(G:Int)+1=((G+1:Nat):Int) by omega];exact cu) fun i h1 h2 h4 h5=>(hK.2 i (fun h=>by rw[h]at h2;omega) aI).trans (by
      have q1:=cR h4;have q2:=CV h1 sg;have q3:=nB i h2;have q4:(i=u)=False:=eq_false h5
      simp only[go_sem,↓reduceIte,Nat.reduceEqDiff,Nat.reduceAdd,Nat.reduceSub,Nat.reduceLeDiff,reduceCtorEq,q1,q2,q3,q4])).frame (n':=x3) ae fun _ _ _ _=>rfl
     rw[<-Q2]at UI;have hbw:IntKind.i64.wrap (1+w)=1∨IntKind.i64.wrap (1+w)=2:=by rw[db ae];omega
     have Ja:∀i:Id,i≠X->i.bH<x2->g3 i=g2 i:=fun i h1 h2=>(hK.2 i h1 aI).trans (by
      have q1:=cR (i:=i) (n:=nb) ae;have q2:=cR h2;have q3:(i=og)=False:=eq_false fun h=>by rw[h]at h2;omega
      have q4:(i=u)=False:=eq_false fun h=>by rw[h]at h2;omega
      simp only[go_sem,↓reduceIte,Nat.reduceEqDiff,Nat.reduceAdd,Nat.reduceSub,Nat.reduceLeDiff,reduceCtorEq,q1,q2,q3,q4]<;>exact bO i h1 h2)
     exact⟨sd (tw6 @b9 @b7 @b0 @b2 @b4 @b5),sd (tw6 @b9 @b7 @b0 @b2 @b4 @b5),sd (tw6 @b9 @b7 @b0 @b2 @b4 @b5),sd (tw6 @b9 @b7 @b0 @b2 @b4 @b5),sd (tw6 @b9 @b7 @b0 @b2 @b4 @b5),⟨za,zz,ae,by simp only[go_sem,↓reduceIte,Nat.reduceEqDiff,Nat.reduceAdd,Nat.reduceSub,Nat.reduceLeDiff,reduceCtorEq,Gs,R4,Rp]<;>exact gX⟩,aI,fun i h1 h2=>(by
      have q1:=cR (i:=i) (n:=x3) ae;have q2:=cR h2;have q3:(i=o)=False:=eq_false fun h=>by rw[h]at h2;omega
      simp only[go_sem,↓reduceIte,Nat.reduceEqDiff,Nat.reduceAdd,Nat.reduceSub,Nat.reduceLeDiff,reduceCtorEq,q1,q2,q3]<;>exact Ja i h1 h2),IntKind.i64.wrap (1+w)::rn,by rw[List.length_cons,hrn],iC.cons hbw NJ,by
       rw[k8,PU,QM,hrn,U7,hz,hG];have q9:eO ((j:Nat):Int)=dt:=SU;unfold XU;rw[q9]
       exact⟨⟨59019007,nb+1⟩,⟨59021014,x3⟩,rows++[[.str ((⟨#[110]⟩:ByteArray)++dt),.own ⟨59021011,x3⟩ 0 4]],sl @g8,by simp[hL],by
       have q1:((⟨59019007,nb+1⟩:Id)=o)=False:=eq_false fun h=>by rw[<-h]at oK;(try dsimp only at oK);omega
       rw[List.map_append];simp only[go_sem,↓reduceIte,Nat.reduceEqDiff,Nat.reduceAdd,Nat.reduceSub,Nat.reduceLeDiff,reduceCtorEq,q1]<;>exact cG,⟨.inr (.inr rfl),aI,aI⟩,by simp[fu,GF],sl @g8,(UI.frame (n':=x3) ae fun i h1 h2 h4=>(by
        have q1:=cR h4;have q2:=tu h1 so;have q3:=nB i h2
        simp only[go_sem,↓reduceIte,Nat.reduceEqDiff,Nat.reduceAdd,Nat.reduceSub,Nat.reduceLeDiff,reduceCtorEq,q1,q2,q3])).snoc (t:=⟨(⟨#[110]⟩:ByteArray)++dt,[0,IntKind.i64.wrap (1+w),(G:Int)+1,0]⟩) (e:=⟨59021011,x3⟩) aI aI ⟨rfl,⟨Ft,tX _ _⟩,rfl,.inr (.inr (.inl rfl)),aI,aI,by
        have q1:((⟨59021011,x3⟩:Id)=o)=False:=eq_false fun h=>by rw[<-h]at oK;(try dsimp only at oK);omega
        rw[show(G:Int)+1=((G+1:Nat):Int) by omega]
        simp only[go_sem,↓reduceIte,Nat.reduceEqDiff,Nat.reduceAdd,Nat.reduceSub,Nat.reduceLeDiff,reduceCtorEq,q1]<;>rfl⟩,.inr (.inr (.inl rfl)),aI,aI⟩⟩
  ·have hjm:j=m2:=ae;subst hjm;clear bB hL mu sg Ru Rv hr go hT so jM oK GF;obtain⟨gb,nb⟩:=i9;(try dsimp only at bS bN bO bC);have Uu:(⟨59003001,x2+1⟩:Id)≠X:=fun e=>by rw[<-e]at hX;(try dsimp only at hX);omega
   obtain⟨G,hG⟩:∃G,k+2+j=G:=⟨_,rfl⟩
   obtain⟨TT,X8⟩:∃T,k+1+j=T:=⟨_,rfl⟩
   rw[hG,X8]at bC;have GC:∀x∈L,x.bL.size<=64:=PU▸oR rb ae rn ae
   obtain⟨A2,hA2⟩:∃A2,A+4+2*k+2*j=A2:=⟨_,rfl⟩
   rw[hA2]at bS;(try((repeat(revert N;apply g7));refine wk (tw7 @b9 @b7 @b0 @b2 @b4 @b5 @hj) ?_;repeat(apply g6;intro N hN)));refine cj (fun n env st=>∃i:Nat,n=(4)-i/\i<=(4)/\env 10=.int .i64 (i:Int)/\((eZ st.get X bs (A2+4*i)/\x2+3<=st.next/\(∀u:Id,u≠X->u.bH<x2->st.get u=g2 u)/\∃rs,AB rs/\rs.length=i/\iR (x2+2) st.get st.next ⟨59003001,x2+1⟩ G (TT+i) L (Ts++rs)))) (4) ⟨0,ae,ae,sl (tw6 @b9 @b7 @b0 @b2 @b4 @b5),by(try dsimp only);exact⟨bS,ae,bO,[],AB.nil,rfl,by rw[List.append_nil];exact bC.later ae⟩⟩ ?_;rintro n_c m7 m6 ⟨i,rfl,cle,jX,cI0⟩ jN;have c0:=jN 0 g9;have c2:=jN 2 g9;have c5:=jN 5 g9;simp only[go_sem,↓reduceIte,Nat.reduceEqDiff,Nat.reduceAdd,Nat.reduceSub,Nat.reduceLeDiff,reduceCtorEq,b9,b7,b0,b2,b4,b5]at c0 c2 c5;clear jN;obtain⟨cS,cN,cO,rs,tF,AW,cC⟩:=cI0
   by_cases hi:(i:Int)<4
   ·have jf:∀{e:Env} {gg:Rows} {nx:Nat},(e 10=.int .i64 (IntKind.i64.wrap ((i:Int)+1)))->((eZ gg X bs (A2+4*(i+1))/\x2+3<=nx/\(∀u:Id,u≠X->u.bH<x2->gg u=g2 u)/\∃rs,AB rs/\rs.length=(i+1)/\iR (x2+2) gg nx ⟨59003001,x2+1⟩ G (TT+(i+1)) L (Ts++rs)))->∃m0,m0<(4)-i/\∃i:Nat,m0=(4)-i/\i<=(4)/\e 10=.int .i64 (i:Int)/\((eZ gg X bs (A2+4*i)/\x2+3<=nx/\(∀u:Id,u≠X->u.bH<x2->gg u=g2 u)/\∃rs,AB rs/\rs.length=i/\iR (x2+2) gg nx ⟨59003001,x2+1⟩ G (TT+i) L (Ts++rs))):=fun x1 x2=>⟨_,ae,i+1,rfl,ae,(by rw[x1,aZ ae]),x2⟩;have qT:=mE (i:Int) ae ae;have zm:=iK (i:Int) ae
    obtain⟨dt,SU⟩:∃dt,eO (i:Int)=dt:=⟨_,rfl⟩
    rw[SU]at qT zm
    have eT:(#[114]:Array UInt8).size+dt.size<=9223372036854775807:=by
     have:(#[114]:Array UInt8).size=1:=rfl;omega
    have j3:((⟨#[114]⟩:ByteArray)++dt).size<=64:=by
     rw[gK];have:(⟨#[114]⟩:ByteArray).size=1:=rfl;omega
    obtain⟨gc,nc⟩:=m6;(try dsimp only at cS cN cO cC);(try((repeat(revert N;apply g7));refine wk (tw5 @jX @c0 @c2 @c5 @hi) ?_;repeat(apply g6;intro N hN)));refine .inr (ax _ _ _ _ _ (fun r σ3 hq=>?_) (ik bs hb iy X 2 (A2+4*i) ae _ cS));obtain⟨w,rfl,w0,w1,h3,hK⟩:=hq;have dC:=cC.only hK aI ae Uu aI;have Jm:=hK.1;have dO:∀i:Id,i≠X->i.bH<x2->σ3.get i=g2 i:=fun i h1 h2=>(hK.2 i h1 aI).trans (cO i h1 h2);obtain⟨g3,x3⟩:=σ3;(try dsimp only at h3 dC Jm dO);clear hK cS cC cO;apply hN;clear hN N;have hrm:((i:Nat):Int).tmod 2=((i:Nat):Int).tmod 2:=rfl;(try((repeat(revert N;apply g7));refine wk (tw4 @jX @c0 @c2 @c5) ?_;repeat(apply g6;intro N hN)));refine D9 (fun e st=>e 0=.ptr X 0 0/\e 2=m7 2/\e 5=m7 5/\e 10=.int .i64 (i:Int)/\eZ st.get X bs (A2+4*(i+1))/\x2+3<=st.next/\(∀i:Id,i≠X->i.bH<x2->st.get i=g2 i)/\∃rs,AB rs/\rs.length=i+1/\iR (x2+2) st.get st.next ⟨59003001,x2+1⟩ G (TT+i+1) L (Ts++rs)) ?_ ?_
    ·rintro e st ⟨r0,r2,r5,r10,rS,rN,rO,Zq,q1,q2,rC⟩;obtain⟨gd,nd⟩:=st;(try dsimp only at rS rN rO rC);rw[c2]at r2;rw[c5]at r5;apply hN;clear hN N;(try((repeat(revert N;apply g7));refine wk (tw4 @r0 @r2 @r5 @r10) ?_;repeat(apply g6;intro N hN)));exact jf (sd (tw5 @jX @c0 @c2 @c5 @r10)) (by(try dsimp only);exact⟨rS,ae,rO,Zq,q1,q2,rC.later ae⟩)
    ·intro N hN;obtain⟨og,o,rows,dB,hL,mu,sg,GF,go,hT,so,jM,oK⟩:=id dC;have hr:rows.length=TT+i:=hT.len.trans GF
     have pa:∀s,(o=⟨s,x2+1⟩)=False/\((⟨s,x2+1⟩:Id)=o)=False:=fun s=>⟨eq_false fun e=>by rw[e]at jM;(try dsimp only at jM);omega,eq_false fun e=>by rw[<-e]at jM;(try dsimp only at jM);omega⟩;have AS:TT+i<=16777215:=ae;refine fJ ?_ ?_<;>(have zF:=tw6 @jX @c0 @c2 @c5 @dB @eT;(repeat(first|((repeat(revert N;apply g7));refine wk zF ?_;repeat(apply g6;intro N hN))|((try apply i3);refine⟨_,au.x (qT) (sd zF),?_⟩;apply hN;clear hN N)));try clear zF)<;>(try refine fJ ?_ ?_)<;>(have zF:=tw6 @jX @c0 @c2 @c5 @dB @eT;(repeat(first|((repeat(revert N;apply g7));refine wk zF ?_;repeat(apply g6;intro N hN))|((try apply i3);refine⟨_,au.x (qT) (sd zF),?_⟩;apply hN;clear hN N)));try clear zF)
     all_goals
      refine .inr (ax _ _ _ _ _ (fun r σ4 hq=>?_) (ik bs hb iy X 2 (A2+4*i+2) ae _ h3));obtain⟨w',rfl,w0',w1',h4,hK⟩:=hq;obtain⟨g4,x4⟩:=σ4;(try dsimp only at h4);have KT:=hK.1;(try dsimp only at KT);have SF:=(hK.2 ⟨59003001,x2+1⟩ Uu aI).trans dB;have WX:=(hK.2 o (fun h=>by rw[h]at jM;omega) aI).trans go;have gT4:∀u:Id,x2+2<=u.bH->u.bH<x3->g4 u=g3 u:=fun u h1 h2=>hK.2 u (fun h=>by rw[h]at h1;omega) aI;have Hz:∀u:Id,u≠X->u.bH<x2->g4 u=g2 u:=fun u h1 h2=>(hK.2 u h1 aI).trans (dO u h1 h2);(try dsimp only at SF WX);clear hK;apply hN;clear hN N;have vo4:=cR (i:=o) (n:=x4) ae
      (have zF:=tw9 @jX @c0 @c2 @c5 @SF @WX @hr @eT (tw3 @AS @pa @vo4);(repeat(first|((repeat(revert N;apply g7));refine wk zF ?_;repeat(apply g6;intro N hN))|((try apply i3);refine⟨_,au.x (qT) (sd zF),?_⟩;apply hN;clear hN N)));try clear zF)
      obtain⟨za,zz,wN,gX⟩:=h4;have R5:=cR (i:=X) (n:=x4) ae;have Rp:(X=o)=False:=eq_false fun h=>by rw[<-h]at jM;omega
      exact⟨sd (tw4 @jX @c0 @c2 @c5),sd (tw4 @jX @c0 @c2 @c5),sd (tw4 @jX @c0 @c2 @c5),sd (tw4 @jX @c0 @c2 @c5),⟨za,zz,ae,by simp only[go_sem,↓reduceIte,Nat.reduceEqDiff,Nat.reduceAdd,Nat.reduceSub,Nat.reduceLeDiff,reduceCtorEq,R5,R4,Rp]<;>exact gX⟩,aI,fun u h1 h2=>(by
       have q1:=cR (i:=u) (n:=x4) ae;have q2:=cR h2;have q3:(u=o)=False:=eq_false fun h=>by rw[h]at h2;omega
       simp only[go_sem,↓reduceIte,Nat.reduceEqDiff,Nat.reduceAdd,Nat.reduceSub,Nat.reduceLeDiff,reduceCtorEq,q1,q2,q3]<;>exact Hz u h1 h2),rs++[⟨(⟨#[114]⟩:ByteArray)++dt,[IntKind.i64.wrap (1+w),IntKind.i64.wrap (1+w'),IntKind.i64.wrap (1+(i:Int).tmod 2),IntKind.i64.wrap (1+IntKind.i64.wrap ((i:Int).tdiv 2))]⟩],tF.snoc AW (by rw[SU]) (JB w0 w1) (JB w0' w1') (SO ae).1 (SO ae).2,by simp[AW],iR.assoc <| iR.put (u:=⟨59027018,x4⟩) (e:=⟨59027015,x4⟩) (t:=⟨(⟨#[114]⟩:ByteArray)++dt,[IntKind.i64.wrap (1+w),IntKind.i64.wrap (1+w'),IntKind.i64.wrap (1+(i:Int).tmod 2),IntKind.i64.wrap (1+IntKind.i64.wrap ((i:Int).tdiv 2))]⟩) hL mu sg hT GF ⟨j3,tX _ _⟩ rfl aI (sl @g8) (sl @g8) ⟨.inr (.inr (.inr (.inl rfl))),aI,aI⟩ (by
        have q1:((⟨59027015,x4⟩:Id)=o)=False:=eq_false fun h=>by rw[<-h]at oK;(try dsimp only at oK);omega
        simp only[go_sem,↓reduceIte,Nat.reduceEqDiff,Nat.reduceAdd,Nat.reduceSub,Nat.reduceLeDiff,reduceCtorEq,q1]<;>rfl) ⟨.inr (.inr (.inr (.inl rfl))),aI,aI⟩ fun u hs h1 h2=>(by
        have q1:=cR (i:=u) (n:=x4) ae;have q2:(u=o)=False:=by rcases hs with hs|hs;exact(tu hs so).1;exact(CW hs so).1
        have q3:∀s,(u=⟨s,x2+1⟩)=False:=fun s=>eq_false fun e=>by rw[e]at h1;(try dsimp only at h1);omega
        simp only[go_sem,↓reduceIte,Nat.reduceEqDiff,Nat.reduceAdd,Nat.reduceSub,Nat.reduceLeDiff,reduceCtorEq,q1,q2,q3]<;>exact gT4 u h1 h2)⟩
   ·have hi4:i=4:=ae;subst hi4;obtain⟨gc,nc⟩:=m6;(try dsimp only at cS cN cO cC);(try((repeat(revert N;apply g7));refine wk (tw5 @jX @c0 @c2 @c5 @hi) ?_;repeat(apply g6;intro N hN)));refine .inr (ax _ _ _ _ _ (fun r σ3 hq=>?_) (zS bs hb iy X 3 (A2+4*4) ae _ cS));obtain⟨b,rfl,h3,hK⟩:=hq;have dC:=cC.only hK aI ae Uu aI;have Jm:=hK.1;have dO:∀i:Id,i≠X->i.bH<x2->σ3.get i=g2 i:=fun i h1 h2=>(hK.2 i h1 aI).trans (cO i h1 h2);obtain⟨g3,x3⟩:=σ3;(try dsimp only at h3 dC Jm dO);clear hK cS cC cO;apply hN;clear hN N;(try((repeat(revert N;apply g7));refine wk (tw4 @jX @c0 @c2 @c5) ?_;repeat(apply g6;intro N hN)));refine mb (fun e st=>e 0=.ptr X 0 0/\e 2=m7 2/\e 5=m7 5/\eZ st.get X bs (A2+30)/\x2+3<=st.next/\(∀u:Id,u≠X->u.bH<x2->st.get u=g2 u)/\∃T2 rs,0<T2/\T2<=100/\(AB rs/\4<=rs.length/\rs.length<=5)/\iR (x2+2) st.get st.next ⟨59003001,x2+1⟩ G T2 L (Ts++rs)) ?_ ?_
    ·rintro e st ⟨r0,r2,r5,rS,rN,rO,T2,Zq,t0,t1,q1,rC⟩;obtain⟨gd,nd⟩:=st;(try dsimp only at rS rN rO rC);rw[c2]at r2;rw[c5]at r5;obtain⟨og,o,rows,sB,hL,mu,⟨sg,Ru,Rv⟩,GF,go,hT,so,jM,oK⟩:=id rC;have s2:=(rO ⟨59000000,σ.next⟩ (fun e=>by rw[<-e]at hX;(try dsimp only at hX);omega) aI).trans mQ;apply hN;clear hN N;(try((repeat(revert N;apply g7));refine wk (tw5 @r0 @r2 @r5 @sB @s2) ?_;repeat(apply g6;intro N hN)));have YF:¬iW o.site:=fun h=>by have:=(tu h so).1;simp at this
     obtain⟨za,zz,wN,gX⟩:=rS;have vXd:=cR (i:=X) (n:=nd) ae
     have gQ:∀u:Id,x2+2<=u.bH->u.bH<nd->∀r1 r2,(bJ (bJ gd ⟨59030002,nd⟩ r1) ⟨59000000,σ.next⟩ r2) u=gd u:=fun u h1 h2 r1 r2=>(by
      have h8:=cR h2;have h9:∀s,(u=⟨s,σ.next⟩)=False:=fun s=>eq_false fun h=>by rw[h]at h1;(try dsimp only at h1);omega
      simp only[go_sem,↓reduceIte,Nat.reduceEqDiff,Nat.reduceAdd,Nat.reduceSub,Nat.reduceLeDiff,reduceCtorEq,h8,h9])
     exact eH (.inl rfl) (vs:=[.agg [.own og 0 G,.own o 0 T2,.own ⟨59030002,nd⟩ 0 1,.int .i64 2]]) (sd @r2) ⟨og,o,⟨59030002,nd⟩,G,T2,rows,rb,rn,Zq,rfl,⟨ae,ae,ae,ae,t1⟩,SQ,NJ,q1,by rw[PU];exact(gQ og Ru Rv _ _).trans mu,by rw[PU];exact hL,(gQ o jM oK _ _).trans go,by rw[QM];exact GF,by rw[QM];exact(hT.frame (n':=nd+1) ae fun i _ h1 h2=>gQ i h1 h2 _ _).since aI,YF,⟨aI,aI,aI,aI⟩,sl @g8,⟨aI,aI⟩,⟨za,zz,ae,by simp only[go_sem,↓reduceIte,Nat.reduceEqDiff,Nat.reduceAdd,Nat.reduceSub,Nat.reduceLeDiff,reduceCtorEq,vXd,vX]<;>exact gX⟩,aI,fun u h1 h2=>(by
      have h7:=cR h2;have h8:=cR (i:=u) (n:=nd) ae
      simp only[go_sem,↓reduceIte,Nat.reduceEqDiff,Nat.reduceAdd,Nat.reduceSub,Nat.reduceLeDiff,reduceCtorEq,h7,h8]<;>exact(rO u h1 ae).trans (KC u h1 h2))⟩
    ·intro N hN
     cases b
     ·(try((repeat(revert N;apply g7));refine wk (tw4 @jX @c0 @c2 @c5) ?_;repeat(apply g6;intro N hN)));exact⟨sd (tw4 @jX @c0 @c2 @c5),sd (tw4 @jX @c0 @c2 @c5),sd (tw4 @jX @c0 @c2 @c5),h3.mono ae,aI,dO,TT+4,rs,ae,ae,⟨tF,ae,ae⟩,dC.later aI⟩
     ·obtain⟨og,o,rows,dB,hL,mu,sg,GF,go,hT,so,jM,oK⟩:=id dC;have hr:rows.length=TT+4:=hT.len.trans GF
      have pa:∀s,(o=⟨s,x2+1⟩)=False/\((⟨s,x2+1⟩:Id)=o)=False:=fun s=>⟨eq_false fun e=>by rw[e]at jM;(try dsimp only at jM);omega,eq_false fun e=>by rw[<-e]at jM;(try dsimp only at jM);omega⟩;have AS:TT<=16777211:=ae;(try((repeat(revert N;apply g7));refine wk (tw5 @jX @c0 @c2 @c5 @dB) ?_;repeat(apply g6;intro N hN)));refine fJ ?_ ?_<;>(try((repeat(revert N;apply g7));refine wk (tw5 @jX @c0 @c2 @c5 @dB) ?_;repeat(apply g6;intro N hN)))
      all_goals
       refine .inr (ax _ _ _ _ _ (fun r σ4 hq=>?_) (ik bs hb iy X 2 (A2+4*4+2) ae _ h3));obtain⟨w,rfl,w0,w1,h4,hK⟩:=hq;obtain⟨g4,x4⟩:=σ4;(try dsimp only at h4);have KT:=hK.1;(try dsimp only at KT);have SF:=(hK.2 ⟨59003001,x2+1⟩ Uu aI).trans dB;have WX:=(hK.2 o (fun h=>by rw[h]at jM;omega) aI).trans go;have gT4:∀u:Id,x2+2<=u.bH->u.bH<x3->g4 u=g3 u:=fun u h1 h2=>hK.2 u (fun h=>by rw[h]at h1;omega) aI;have Hz:∀u:Id,u≠X->u.bH<x2->g4 u=g2 u:=fun u h1 h2=>(hK.2 u h1 aI).trans (dO u h1 h2);(try dsimp only at SF WX);clear hK;apply hN;clear hN N;(try((repeat(revert N;apply g7));refine wk (tw5 @jX @c0 @c2 @c5 @SF) ?_;repeat(apply g6;intro N hN)));(try refine fJ ?_ ?_)<;>(try((repeat(revert N;apply g7));refine wk (tw5 @jX @c0 @c2 @c5 @SF) ?_;repeat(apply g6;intro N hN)))
       all_goals
        refine .inr (ax _ _ _ _ _ (fun r σ5 hq=>?_) (ik bs hb iy X 2 (A2+4*4+2+2) ae _ h4));obtain⟨w',rfl,w0',w1',h5,hK⟩:=hq;obtain⟨g5,x5⟩:=σ5;(try dsimp only at h5);have YZ:=hK.1;(try dsimp only at YZ);have dB5:=(hK.2 ⟨59003001,x2+1⟩ Uu aI).trans SF;have go5:=(hK.2 o (fun h=>by rw[h]at jM;omega) aI).trans WX;have gT5:∀u:Id,x2+2<=u.bH->u.bH<x3->g5 u=g3 u:=fun u h1 h2=>(hK.2 u (fun h=>by rw[h]at h1;omega) aI).trans (gT4 u h1 h2);have g5O:∀u:Id,u≠X->u.bH<x2->g5 u=g2 u:=fun u h1 h2=>(hK.2 u h1 aI).trans (Hz u h1 h2);(try dsimp only at dB5 go5);clear hK;apply hN;clear hN N;have vo5:=cR (i:=o) (n:=x5) ae;(try((repeat(revert N;apply g7));refine wk (tw9 @jX @c0 @c2 @c5 @dB5 @go5 @hr @AS (tw @pa @vo5)) ?_;repeat(apply g6;intro N hN)));obtain⟨za,zz,wN,gX⟩:=h5;have vX5:=cR (i:=X) (n:=x5) ae;have Rp:(X=o)=False:=eq_false fun h=>by rw[<-h]at jM;omega
        exact⟨sd (tw4 @jX @c0 @c2 @c5),sd (tw4 @jX @c0 @c2 @c5),sd (tw4 @jX @c0 @c2 @c5),⟨za,zz,ae,by simp only[go_sem,↓reduceIte,Nat.reduceEqDiff,Nat.reduceAdd,Nat.reduceSub,Nat.reduceLeDiff,reduceCtorEq,vX5,R4,Rp]<;>exact gX⟩,aI,fun u h1 h2=>(by
         have q1:=cR (i:=u) (n:=x5) ae;have q2:=cR h2;have q3:(u=o)=False:=eq_false fun h=>by rw[h]at h2;omega
         simp only[go_sem,↓reduceIte,Nat.reduceEqDiff,Nat.reduceAdd,Nat.reduceSub,Nat.reduceLeDiff,reduceCtorEq,q1,q2,q3]<;>exact g5O u h1 h2),TT+4+1,rs++[⟨⟨#[114,52]⟩,[1,2,IntKind.i64.wrap (1+w),IntKind.i64.wrap (1+w')]⟩],ae,ae,⟨tF.snoc AW (EU (Nat.le_refl 4) 114).symm (.inl rfl) (.inr rfl) (JB w0 w1) (JB w0' w1'),by simp[AW],by simp[AW]⟩,iR.assoc <| iR.put (u:=⟨59029011,x5⟩) (e:=⟨59029008,x5⟩) (t:=⟨⟨#[114,52]⟩,[1,2,IntKind.i64.wrap (1+w),IntKind.i64.wrap (1+w')]⟩) hL mu sg hT GF Zd rfl aI (sl @g8) (sl @g8) ⟨.inr (.inr (.inr (.inr rfl))),aI,aI⟩ (by
          have q1:((⟨59029008,x5⟩:Id)=o)=False:=eq_false fun h=>by rw[<-h]at oK;(try dsimp only at oK);omega
          simp only[go_sem,↓reduceIte,Nat.reduceEqDiff,Nat.reduceAdd,Nat.reduceSub,Nat.reduceLeDiff,reduceCtorEq,q1]<;>rfl) ⟨.inr (.inr (.inr (.inr rfl))),aI,aI⟩ fun u hs h1 h2=>(by
          have q1:=cR (i:=u) (n:=x5) ae;have q2:(u=o)=False:=by rcases hs with hs|hs;exact(tu hs so).1;exact(CW hs so).1
          have q3:∀s,(u=⟨s,x2+1⟩)=False:=fun s=>eq_false fun e=>by rw[e]at h1;(try dsimp only at h1);omega
          simp only[go_sem,↓reduceIte,Nat.reduceEqDiff,Nat.reduceAdd,Nat.reduceSub,Nat.reduceLeDiff,reduceCtorEq,q1,q2,q3]<;>exact gT5 u h1 h2)⟩
theorem SE {nm:ByteArray} {c:UInt8} (h:nm.data[0]? =some c):nm[0]? =some c:=by
 obtain⟨h1,h2⟩:=Array.getElem?_eq_some_iff.1 h;have hs:0<nm.size:=h1;rw[getElem?_pos nm 0 hs];exact congrArg some h2
section
variable {E E':Nat->Prop} {n0:Nat} {g:Rows} {n:Nat} {rs:List (List AV)} {X Y:List di}
theorem TX.take (h:TX E n0 g n rs (X++Y)):TX E n0 g n (rs.take X.length) X:=by
 obtain⟨es,h1,h2,h3,h4⟩:=h;rw[i6]at h2 h3;refine⟨es.take X.length,h1.sublist (List.take_sublist _ _),by rw[List.length_take];omega,by rw[List.length_take];omega,fun j row t e q1 q2 q3=>?_⟩;have hj:j<X.length:=(List.getElem?_eq_some_iff.1 q2).1;rw[List.getElem?_take_of_lt hj]at q1 q3;exact h4 j row t e q1 (by rw[List.getElem?_append_left hj];exact q2) q3
end
def Xw (t:di):Prop:=∃c,t.bL.data[0]? =some c/\c≠114
theorem xL {T:List di} {i d:Nat} {w:Int} (h:∀x∈T,Xw x):∀x∈jS T i d w,Xw x:=fun x hx=>by
 unfold jS at hx
 split at hx
 ·rename_i t ht
  rcases List.mem_or_eq_of_mem_set hx with hx|rfl
  ·exact h x hx
  ·exact h t (List.mem_of_getElem? ht)
 ·exact h x hx
theorem Jv (c:UInt8) (hc:c≠114) (dt:ByteArray) {l:List Int}:Xw ⟨(⟨#[c]⟩:ByteArray)++dt,l⟩:=⟨c,by
 show((⟨#[c]⟩:ByteArray)++dt).data[0]? =some c;rw[ByteArray.data_append,Array.getElem?_append_left (by simp)]
 rfl,hc⟩
theorem JI:∀(q:List Int),∀x∈(xb q).2,Xw x
 |[],x,hx=>by rw[List.mem_singleton.1 hx];exact⟨115,rfl,by decide⟩
 |b::q,x,hx=>by
  rw[k6]at hx
  rcases List.mem_append.1 hx with hx|hx
  ·exact xL (JI q) x hx
  ·rw[List.mem_singleton.1 hx];exact Jv 101 (by decide) _
theorem JK (q:List Int):∀(r:List Int),∀x∈(iv q r).2,Xw x
 |[],x,hx=>JI q x hx
 |b::r,x,hx=>by
  rw[k8]at hx
  rcases List.mem_append.1 hx with hx|hx
  ·exact xL (JK q r) x hx
  ·rw[List.mem_singleton.1 hx];exact Jv 110 (by decide) _
theorem sE:∀(q:List Int),(xb q).2.length=q.length+1
 |[]=>rfl
 |b::q=>by rw[k6];simp only[i6,fu,List.length_cons,List.length_nil];rw[sE q]
theorem jz (q:List Int):∀(r:List Int),(iv q r).2.length=q.length+r.length+1
 |[]=>sE q
 |b::r=>by rw[k8];simp only[i6,fu,List.length_cons,List.length_nil];rw[jz q r];omega
end V

namespace V
open Go.RowKit
def Zr (m i:Nat) (b:Int):List Int:=if i=0 then[0,if 0<m then 3 else 0,0,0]else[b,if i<m then(i:Int)+3 else 0,0,(i:Int)+2]
def P8 (m h i:Nat) (b:Int):List Int:=if i=0 then[if 0<h then(m:Int)+3 else 0,if 0<m then 3 else 0,0,0]else if i<=m then[b,if i<m then(i:Int)+3 else 0,0,(i:Int)+2]else[if i<m+h then(i:Int)+3 else 0,b,(i:Int)+2,0]
theorem Am {T:List di} {i d:Nat} {w:Int} (h:i<T.length) (k:Nat):(jS T i d w)[k]? =if k=i then some ⟨T[i].bL,T[i].de.set d w⟩else T[k]? :=by
 rw[uf h]
 by_cases hk:k=i
 ·subst hk;rw[if_pos rfl,List.getElem?_set_self h]
 ·rw[if_neg hk,List.getElem?_set_ne (fun e=>hk e.symm)]
theorem O6:∀(q:List Int),iC q->∀i,i<=q.length->∃t b,(xb q).2[i]? =some t/\(b=1∨b=2)/\t.de=Zr q.length i b
 |[],_,i,hi=>by
  have:i=0:=by simpa using hi
  subst this;exact⟨_,1,rfl,.inl rfl,rfl⟩
 |b::q,hb,i,hi=>by
  have hq:iC q:=fun x hx=>hb x (List.mem_cons_of_mem _ hx);have hl:=sE q;rw[List.length_cons]at hi;rw[k6];(try dsimp only)
  by_cases h1:i=q.length+1
  ·subst h1;rw[List.getElem?_append_right (by rw[fu];omega),fu,hl,Nat.sub_self];refine⟨_,b,rfl,hb b List.mem_cons_self,?_⟩;unfold Zr;rw[if_neg ae,if_neg (by rw[List.length_cons];omega)];show[b,0,0,(q.length:Int)+3]=[b,0,0,((q.length+1:Nat):Int)+2]
   rw[show((q.length+1:Nat):Int)+2=(q.length:Int)+3 by omega]
  ·obtain⟨t,b',e1,e2,e3⟩:=O6 q hq i ae;rw[List.getElem?_append_left (by rw[fu];omega),Am ae]
   by_cases h2:i=q.length
   ·subst h2;obtain⟨h3,h4⟩:=List.getElem?_eq_some_iff.1 e1;rw[if_pos rfl,h4];refine⟨_,b',rfl,e2,?_⟩;show t.de.set 1 ((q.length:Int)+3)= _;rw[e3];unfold Zr
    by_cases h0:q.length=0
    ·rw[if_pos h0,if_pos h0,if_pos (show 0<(b::q).length by simp),h0];rfl
    ·rw[if_neg h0,if_neg h0,if_pos (show q.length<(b::q).length by simp)];rfl
   ·rw[if_neg h2];refine⟨t,b',e1,e2,?_⟩;rw[e3];unfold Zr;rw[List.length_cons]
    by_cases h0:i=0
    ·rw[if_pos h0,if_pos h0,if_pos ae,if_pos ae]
    ·rw[if_neg h0,if_neg h0,if_pos ae,if_pos ae]
theorem Ip (q:List Int) (hbq:iC q):∀(r:List Int),iC r->∀i,i<=q.length+r.length->∃t b,(iv q r).2[i]? =some t/\(b=1∨b=2)/\t.de=P8 q.length r.length i b
 |[],_,i,hi=>by
  obtain⟨t,b,e1,e2,e3⟩:=O6 q hbq i (by simpa using hi);refine⟨t,b,e1,e2,e3.trans ?_⟩;unfold Zr P8
  by_cases h0:i=0
  ·rw[if_pos h0,if_pos h0];rfl
  ·rw[if_neg h0,if_neg h0,if_pos (show i<=q.length by simpa using hi)]
 |b::r,hb,i,hi=>by
  have hq:iC r:=fun x hx=>hb x (List.mem_cons_of_mem _ hx);have hl:=jz q r;rw[List.length_cons]at hi;rw[k8];(try dsimp only);have YA:nf q.length r.length<(iv q r).2.length:=by unfold nf;split<;>omega
  by_cases h1:i=q.length+r.length+1
  ·subst h1;rw[List.getElem?_append_right (by rw[fu];omega),fu,hl,Nat.sub_self];refine⟨_,b,rfl,hb b List.mem_cons_self,?_⟩;unfold P8;rw[if_neg ae,if_neg ae,if_neg (by rw[List.length_cons];omega)];show[0,b,((q.length+2+r.length:Nat):Int)+1,0]=[0,b,((q.length+r.length+1:Nat):Int)+2,0]
   rw[show((q.length+2+r.length:Nat):Int)+1=((q.length+r.length+1:Nat):Int)+2 by omega]
  ·obtain⟨t,b',e1,e2,e3⟩:=Ip q hbq r hq i ae;rw[List.getElem?_append_left (by rw[fu];omega),Am YA]
   by_cases h2:i=nf q.length r.length
   ·obtain⟨h3,h4⟩:=List.getElem?_eq_some_iff.1 e1;rw[if_pos h2];have h5:(iv q r).2[nf q.length r.length]=t:=by rw[<-h4];congr 1;exact h2.symm
    rw[h5];refine⟨_,b',rfl,e2,?_⟩;show t.de.set 0 (((q.length+2+r.length:Nat):Int)+1)= _;rw[e3];unfold nf at h2;unfold P8;rw[List.length_cons]
    by_cases h0:r.length=0
    ·rw[if_pos h0]at h2;subst h2;rw[if_pos rfl,if_pos rfl,if_pos (show 0<r.length+1 by omega),h0];rw[show((q.length+2+0:Nat):Int)+1=(q.length:Int)+3 by omega]
     rfl
    ·rw[if_neg h0]at h2;subst h2;rw[if_neg (show ¬(q.length+r.length=0) by omega),if_neg (show ¬(q.length+r.length=0) by omega),if_neg (show ¬(q.length+r.length<=q.length) by omega),if_neg (show ¬(q.length+r.length<=q.length) by omega),if_pos (show q.length+r.length<q.length+(r.length+1) by omega)];rw[show((q.length+2+r.length:Nat):Int)+1=((q.length+r.length:Nat):Int)+3 by omega]
     rfl
   ·rw[if_neg h2];refine⟨t,b',e1,e2,?_⟩;rw[e3];unfold nf at h2;unfold P8;rw[List.length_cons]
    by_cases h0:i=0
    ·rw[if_pos h0,if_pos h0]
     by_cases hr:r.length=0
     ·rw[if_pos hr]at h2;omega
     ·rw[if_pos (show 0<r.length by omega),if_pos (show 0<r.length+1 by omega)]
    ·rw[if_neg h0,if_neg h0]
     by_cases h3:i<=q.length
     ·rw[if_pos h3,if_pos h3]
     ·rw[if_neg h3,if_neg h3]
      by_cases hr:r.length=0
      ·omega
      ·rw[if_neg hr]at h2;rw[if_pos (show i<q.length+r.length by omega),if_pos (show i<q.length+(r.length+1) by omega)]
theorem sD:∀(q:List Int),(xb q).1.length=q.length+2
 |[]=>rfl
 |b::q=>by rw[k6];simp only[i6,List.length_cons,List.length_nil];rw[sD q]
theorem kD (q:List Int):∀(r:List Int),(iv q r).1.length=q.length+2+r.length
 |[]=>sD q
 |b::r=>by rw[k8];simp only[i6,List.length_cons,List.length_nil];rw[kD q r];omega
theorem JJ:∀(q:List Int) (i:Nat) (x:gy),(xb q).1[i]? =some x->x.gV=if i<2 then 1 else 2
 |[],i,x,h=>by
  match i,h with
  |0,h=>cases h;rfl
  |1,h=>cases h;rfl
  |i+2,h=>simp[xb]at h
 |b::q,i,x,h=>by
  rw[k6]at h;(try dsimp only at h)
  by_cases h1:i<(xb q).1.length
  ·rw[List.getElem?_append_left h1]at h;exact JJ q i x h
  ·have hl:=sD q;rw[List.getElem?_append_right ae]at h
   have h2:i-(xb q).1.length=0:=by
    obtain⟨h3,_⟩:=List.getElem?_eq_some_iff.1 h
    simpa using h3
   rw[h2]at h
   cases h
   rw[if_neg ae];rfl
theorem DV (q:List Int):∀(r:List Int) (i:Nat) (x:gy),(iv q r).1[i]? =some x->x.gV=if i<2 then 1 else 2
 |[],i,x,h=>JJ q i x h
 |b::r,i,x,h=>by
  rw[k8]at h;(try dsimp only at h)
  by_cases h1:i<(iv q r).1.length
  ·rw[List.getElem?_append_left h1]at h;exact DV q r i x h
  ·have hl:=kD q r;rw[List.getElem?_append_right ae]at h
   have h2:i-(iv q r).1.length=0:=by
    obtain⟨h3,_⟩:=List.getElem?_eq_some_iff.1 h
    simpa using h3
   rw[h2]at h
   cases h
   rw[if_neg ae];rfl
theorem zP {c:UInt8} (hc:ma (c.toNat:Int)=true) {k:Nat} (h:k<=4):je (Tk c k)=true:=by
 refine(zM ?_).symm;refine⟨⟨Nat.le_of_ble_eq_true rfl,Nat.le_of_ble_eq_true rfl⟩,fun i hi=>?_⟩;have hs:(Tk c k).size=2:=rfl;have wh:i=0∨i=1:=ae;have hk:k=0∨k=1∨k=2∨k=3∨k=4:=ae
 rcases wh with rfl|rfl
 ·exact .inl hc
 ·refine .inr ⟨ae,.inl ?_⟩
  rcases hk with rfl|rfl|rfl|rfl|rfl<;>rfl
theorem LU {X:gO} {c:VC} {Q:Ex->Env->aw->Prop} {env:Env} {σ:aw} (k:Nat) (h:zF (dY X c) Q k env σ):dY X (.loop c) Q env σ:=⟨k,h⟩
theorem Ps {X:gO} {c:VC} {Q:Ex->Env->aw->Prop} {env:Env} {σ:aw} {n:Nat} (h:dY X c (dc (zF (dY X c) Q n) Q) env σ):zF (dY X c) Q (n+1) env σ:=h
attribute [local irreducible] dY wpOps fm Call
theorem Qr (s:aE) (p:aa):eI s [p]=[]:=by
 have h:∀d:Int,jj d 0 3=true->lZ s [p] 0 d=[]:=fun d hd=>by
  unfold lZ;rw[if_neg];intro⟨h,_⟩;obtain⟨h1,h2⟩:=iz h;have h3:(ei [p] (bI (bc [p] 0).aH d)).toNat=0:=by simpa using h1
  rw[h3]at h2;have rW:=dV hd;have e1:=congrArg af.eV h2;have e2:=congrArg af.eR h2;have:d=0∨d=1∨d=2∨d=3:=ae
  rcases this with rfl|rfl|rfl|rfl<;>simp[bI]at e1 e2<;>omega
 show(List.range 1).flatMap (fun i=>gL s [p] i 2)=[]
 have e:gL s [p] 0 2=[]:=by
  rw[lI,lI,h _ rfl,h _ rfl];rfl
 simp[List.range_succ,e]
theorem Pb (p:aa) (s:aE) (t:Int):CA [p].length (eI s [p]) t:=by
 rw[Qr];have h1:=lz 1 (fH (bZ t []));exact⟨Nat.le_trans h1 (by decide),BN (Nat.lt_of_le_of_lt h1 (by decide))⟩
end V

namespace V
open Go.RowKit
def nmX (i:Nat):ByteArray:=if i=0 then⟨#[122,101,114,111]⟩else if i=1 then⟨#[111,110,101]⟩else Tk 120 (i-2)
def Tl (m i:Nat):ByteArray:=if i<m+2 then nmX i else Tk 121 (i-2-m)
def nmY (i:Nat):ByteArray:=if i=0 then⟨#[115,101,101,100]⟩else Tk 101 (i-1)
def Zc (m i:Nat):ByteArray:=if i<=m then nmY i else Tk 110 (i-1-m)
def Tm (m h i:Nat):ByteArray:=if i<=m+h then Zc m i else Tk 114 (i-1-m-h)
theorem O7:∀(q:List Int),q.length<=4->∀i,i<q.length+2->((xb q).1[i]?).map gy.bL=some (nmX i)
 |[],_,i,hi=>by
  have h:i=0∨i=1:=by simp at hi;omega
  rcases h with rfl|rfl<;>rfl
 |b::q,hl,i,hi=>by
  rw[List.length_cons]at hl hi;have hn:=sD q;rw[k6];(try dsimp only)
  by_cases h:i<q.length+2
  ·rw[List.getElem?_append_left ae];exact O7 q ae i h
  ·have e:i=q.length+2:=ae;subst e;rw[List.getElem?_append_right ae,hn,Nat.sub_self];show some (XT q.length).bL= _;unfold XT nmX;rw[EU ae,if_neg ae,if_neg ae,Nat.add_sub_cancel]
theorem O9 (q:List Int) (hq:q.length<=4):∀(r:List Int),r.length<=4->∀i,i<q.length+2+r.length->((iv q r).1[i]?).map gy.bL=some (Tl q.length i)
 |[],_,i,hi=>by
  unfold Tl;rw[if_pos (by simpa using hi)];exact O7 q hq i (by simpa using hi)
 |b::r,hl,i,hi=>by
  rw[List.length_cons]at hl hi;have hn:=kD q r;rw[k8];(try dsimp only)
  by_cases h:i<q.length+2+r.length
  ·rw[List.getElem?_append_left ae];exact O9 q hq r ae i h
  ·have e:i=q.length+2+r.length:=ae;subst e;rw[List.getElem?_append_right ae,hn,Nat.sub_self];show some (XU r.length).bL= _;unfold XU Tl;rw[EU ae,if_neg ae,show q.length+2+r.length-2-q.length=r.length by omega]
theorem Ao (T:List di) (i d:Nat) (w:Int) (k:Nat):((jS T i d w)[k]?).map di.bL=(T[k]?).map di.bL:=by
 unfold jS
 split
 ·rename_i t ht;obtain⟨h,_⟩:=List.getElem?_eq_some_iff.1 ht
  by_cases e:i=k
  ·subst e;rw[List.getElem?_set_self h,ht]
   rfl
  ·rw[List.getElem?_set_ne e]
 ·rfl
theorem O8:∀(q:List Int),q.length<=4->∀i,i<=q.length->((xb q).2[i]?).map di.bL=some (nmY i)
 |[],_,i,hi=>by
  have h:i=0:=by simpa using hi
  subst h;rfl
 |b::q,hl,i,hi=>by
  rw[List.length_cons]at hl hi;have hn:=sE q;rw[k6];(try dsimp only)
  by_cases h:i<=q.length
  ·rw[List.getElem?_append_left (by rw[fu];omega),Ao];exact O8 q ae i h
  ·have e:i=q.length+1:=ae;subst e;rw[List.getElem?_append_right (by rw[fu];omega),fu,hn,Nat.sub_self];show some ((⟨#[101]⟩:ByteArray)++eO (q.length:Int))= _;unfold nmY;rw[EU ae,if_neg ae,Nat.add_sub_cancel]
theorem Pa (q:List Int) (hq:q.length<=4):∀(r:List Int),r.length<=4->∀i,i<=q.length+r.length->((iv q r).2[i]?).map di.bL=some (Zc q.length i)
 |[],_,i,hi=>by
  unfold Zc;rw[if_pos (by simpa using hi)];exact O8 q hq i (by simpa using hi)
 |b::r,hl,i,hi=>by
  rw[List.length_cons]at hl hi;have hn:=jz q r;rw[k8];(try dsimp only)
  by_cases h:i<=q.length+r.length
  ·rw[List.getElem?_append_left (by rw[fu];omega),Ao];exact Pa q hq r ae i h
  ·have e:i=q.length+r.length+1:=ae;subst e;rw[List.getElem?_append_right (by rw[fu];omega),fu,hn,Nat.sub_self];show some ((⟨#[110]⟩:ByteArray)++eO (r.length:Int))= _;unfold Zc;rw[EU ae,if_neg ae,show q.length+r.length+1-1-q.length=r.length by omega]
theorem Rq:∀m,m<5->∀h,h<5->∀i,i<m+2+h->∀j,j<i->Tl m j≠Tl m i:=by decide+kernel
theorem Rr:∀m,m<5->∀h,h<5->∀i,i<m+h+6->∀j,j<i->Tm m h j≠Tm m h i:=by decide+kernel
theorem HZ {s:ByteArray} (h1:1<=s.size/\s.size<=12) (h:∀i (h:i<s.size),ma s[i].toNat=true):je s=true:=Lo.2 ⟨h1,fun i hi=>.inl (h i hi)⟩
theorem Sg:je ⟨#[122,101,114,111]⟩=true:=HZ ⟨by decide,by decide⟩ fun i hi=>by
 have:i=0∨i=1∨i=2∨i=3:=by have h:(4:Nat)=(⟨#[122,101,114,111]⟩:ByteArray).size:=rfl;omega
 rcases this with rfl|rfl|rfl|rfl<;>rfl
theorem Rw:je ⟨#[111,110,101]⟩=true:=HZ ⟨by decide,by decide⟩ fun i hi=>by
 have:i=0∨i=1∨i=2:=by have h:(3:Nat)=(⟨#[111,110,101]⟩:ByteArray).size:=rfl;omega
 rcases this with rfl|rfl|rfl<;>rfl
theorem RT:je ⟨#[115,101,101,100]⟩=true:=HZ ⟨by decide,by decide⟩ fun i hi=>by
 have:i=0∨i=1∨i=2∨i=3:=by have h:(4:Nat)=(⟨#[115,101,101,100]⟩:ByteArray).size:=rfl;omega
 rcases this with rfl|rfl|rfl|rfl<;>rfl
theorem Vp {m h i:Nat} (hm:m<=4) (hh:h<=4) (hi:i<m+2+h):je (Tl m i)=true:=by
 unfold Tl nmX
 by_cases h1:i<m+2
 ·rw[if_pos h1]
  by_cases h2:i=0
  ·rw[if_pos h2];exact Sg
  ·rw[if_neg h2]
   by_cases h3:i=1
   ·rw[if_pos h3];exact Rw
   ·rw[if_neg h3];exact zP rfl ae
 ·rw[if_neg h1];exact zP rfl ae
theorem Vq {m h i:Nat} (hm:m<=4) (hh:h<=4) (hi:i<m+h+6):je (Tm m h i)=true:=by
 unfold Tm Zc nmY
 by_cases h1:i<=m+h
 ·rw[if_pos h1]
  by_cases h2:i<=m
  ·rw[if_pos h2]
   by_cases h3:i=0
   ·rw[if_pos h3];exact RT
   ·rw[if_neg h3];exact zP rfl ae
  ·rw[if_neg h2];exact zP rfl ae
 ·rw[if_neg h1];exact zP rfl ae
theorem Jb {α β:Type} {l:List α} {i:Nat} {d:α} {f:α->β} {x:β} (h:(l[i]?).map f=some x):f (l.getD i d)=x:=by
 rw[List.getD_eq_getElem?_getD]
 cases e:l[i]? with
 |none=>rw[e]at h;cases h
 |some a=>rw[e]at h;exact Option.some.inj h
theorem vd {a b c d x:Int} (h:x∈[a,b,c,d]):x=a∨x=b∨x=c∨x=d:=by simpa using h
theorem VE {m h i:Nat} {b:Int} (hm:m<=4) (hh:h<=4) (Mg:1<=m) (hh1:1<=h) (hi:i<=m+h) (hb:b=1∨b=2):(P8 m h i b).length=4/\∀g∈P8 m h i b,0<=g/\g<=((m+2+h:Nat):Int):=by
 unfold P8
 by_cases h0:i=0
 ·rw[if_pos h0,if_pos ae,if_pos ae];refine⟨rfl,fun g hg=>?_⟩
  rcases vd hg with rfl|rfl|rfl|rfl<;>omega
 ·rw[if_neg h0]
  by_cases h1:i<=m
  ·rw[if_pos h1];refine⟨rfl,fun g hg=>?_⟩
   rcases vd hg with rfl|rfl|rfl|rfl<;>(try split)<;>omega
  ·rw[if_neg h1];refine⟨rfl,fun g hg=>?_⟩
   rcases vd hg with rfl|rfl|rfl|rfl<;>(try split)<;>omega
theorem Dn {n lo hi:Int} (h1:lo<=n) (h2:n<=hi):jj n lo hi=true:=by simp[jj,h1,h2]
theorem OY {s:aE} (h:gz s):fS s [⟨⟨0,0⟩,0⟩]:=by
 have h1:=h.some;refine⟨⟨by decide,fun i hi=>?_⟩,fun t ht=>?_⟩
 ·have:i=0:=by simpa using hi
  subst this;exact⟨rfl,rfl,fun h=>absurd h ae⟩
 ·rw[List.mem_singleton.1 ht];unfold eE;exact Dn (Int.le_refl _) aI
theorem I9 {s:aE} {L:List aa} (hA:fS s L) {p:af} (hf:ej L p<0) {y:aa} (hy:y∈L):y.aH≠p:=fun hc=>by
 have h1:=at_mem hA.1.pH hy;have h2:=dV (hA.2 y hy);rw[hc]at h1;omega
end V

namespace V
open Go.RowKit
attribute [local irreducible] dY wpOps fm Call
def qD (g:Rows) (X:Id) (bs:List Int) (a:Nat) (z:Int):Prop:=g X=some ⟨true,3,[[.sl (bs.map iq),.int .i64 (a:Int),.int .u64 z]]⟩
theorem Vo (bs:List Int) (hb:∀b∈bs,0<=b/\b<=255) (iy:bs.length<=4096) (a:Nat) (haA:a<=1073741824) (z:Int):
  ∃v z':Int,(∀(X:Id) (σ:aw),qD σ.get X bs a z->Call Tryz.prog 80 [.ptr X 0 0] σ fun r σ'=>r=.int .i64 v/\qD σ'.get X bs (a+1) z'/\lv X σ σ')/\0<=v/\v<=255:=by
 have eW:(bs.map iq).length=bs.length:=by simp
 have w1:IntKind.i64.wrap ((a:Int)+1)=((a+1:Nat):Int):=(db ae).trans ae
 by_cases ha:(a:Int)<(bs.length:Int)
 ·have NB:(bs.map iq)[a]? =some [.int .u8 (bs.getD a 0)]:=getD_map iq ae;have GG:=hb (bs.getD a 0) (by rw[List.getD_eq_getElem?_getD,i5 (by omega:a<bs.length)];exact List.getElem_mem ae);generalize bs.getD a 0=b at NB GG;have w2:IntKind.i64.wrap b=b:=db ae;have hle:((a+1:Nat):Int)<=(bs.length:Int):=ae;apply Exists.intro b;apply Exists.intro;refine⟨fun X σ hg=>?_,GG.1,GG.2⟩;unfold qD at hg;refine fG fx rfl fun fM=>?_;clear fM;(try((repeat(revert N;apply g7));refine wk (tw7 @hg @eW @ha @NB @w1 @w2 @hle) ?_;repeat(apply g6;intro N hN)));exact eH (.inl rfl) (vs:=[.int .i64 b]) (sd @g8) ⟨rfl,by unfold qD;simp only[go_sem,↓reduceIte,Nat.reduceEqDiff,Nat.reduceAdd,Nat.reduceSub,Nat.reduceLeDiff,reduceCtorEq];rfl,aI,fun i hi _=>sd @hi⟩
 ·have hle:decide (((a+1:Nat):Int)<=(bs.length:Int))=false:=decide_eq_false ae;apply Exists.intro;apply Exists.intro;refine⟨fun X σ hg=>?_,?_⟩
  ·unfold qD at hg;refine fG fx rfl fun fM=>?_;clear fM;(try((repeat(revert N;apply g7));refine wk (tw5 @hg @eW @ha @w1 @hle) ?_;repeat(apply g6;intro N hN)));exact eH (.inl rfl) (vs:=[.int .i64 _]) (by simp only[ir,jw,go_sem,↓reduceIte,Nat.reduceEqDiff,Nat.reduceAdd,Nat.reduceSub,Nat.reduceLeDiff,reduceCtorEq]<;>rfl) ⟨rfl,by unfold qD;simp only[go_sem,↓reduceIte,Nat.reduceEqDiff,Nat.reduceAdd,Nat.reduceSub,Nat.reduceLeDiff,reduceCtorEq];rfl,aI,fun i hi _=>sd @hi⟩
  ·exact yQ _
theorem DL (bs:List Int) (hb:∀b∈bs,0<=b/\b<=255) (iy:bs.length<=4096) (n:Int) (AD:1<n) (Mh:n<=200) (a:Nat) (haA:a<=1073741824) (z:Int):
  ∃v z':Int,(∀(X:Id) (σ:aw),qD σ.get X bs a z->Call Tryz.prog 33 [.ptr X 0 0,.int .i64 n] σ fun r σ'=>r=.int .i64 v/\qD σ'.get X bs (a+1) z'/\lv X σ σ')/\0<=v/\v<n:=by
 obtain⟨v,z',hc,v0,v1⟩:=Vo bs hb iy a haA z;have GJ:(n=0)=False:=eq_false ae;have h1:¬n<=1:=ae;have h2:¬(200:Int)<n:=ae;refine⟨v.tmod n,z',fun X σ hg=>?_,(xg v0 ae).1,by have:=(xg v0 (show 0<n by omega)).2;omega⟩;refine fG fx rfl fun fM=>?_;clear fM;(try((repeat(revert N;apply g7));refine wk @h1 ?_;repeat(apply g6;intro N hN)));refine .inr (ax _ _ _ _ _ (fun r σ1 hq=>?_) (hc X _ hg));obtain⟨rfl,q1,k1⟩:=hq;apply hN;clear hN N;(try((repeat(revert N;apply g7));refine wk (tw @h2 @GJ) ?_;repeat(apply g6;intro N hN)));exact eH (.inl rfl) (vs:=[.int .i64 (v.tmod n)]) (sd @g8) ⟨rfl,q1,(lv.to k1 ae aI:lv X ⟨σ.get,σ.next⟩ ⟨σ1.get,_⟩)⟩
theorem K5 (bs:List Int) (σ:aw):
  Call Tryz.prog 24 [.sl (bs.map iq)] σ fun r σ'=>∃X:Id,r=.ptr X 0 0/\σ.next<=X.bH/\X.bH<σ'.next/\qD σ'.get X bs 0 0:=by
 refine fG fx rfl fun fM=>?_;clear fM;(try((repeat(revert N;apply g7));refine wk @g8 ?_;repeat(apply g6;intro N hN)));exact eH (.inl rfl) (vs:=[.ptr ⟨24001002,_⟩ 0 0]) (by simp only[ir,jw,go_sem,↓reduceIte,Nat.reduceEqDiff,Nat.reduceAdd,Nat.reduceSub,Nat.reduceLeDiff,reduceCtorEq]<;>rfl) ⟨_,rfl,aI,aI,by unfold qD;simp only[go_sem,↓reduceIte,Nat.reduceEqDiff,Nat.reduceAdd,Nat.reduceSub,Nat.reduceLeDiff,reduceCtorEq]<;>rfl⟩
def sW (F:Nat->Int->Int×Int):Nat->Nat->Int->List Int
 |0,_,_=>[]
 |m+1,a,z=>(F a z).1::sW F m (a+1) (F a z).2
theorem By (F:Nat->Int->Int×Int):∀m a z,(sW F m a z).length=m
 |0,_,_=>rfl
 |m+1,a,z=>by rw[sW,List.length_cons,By F m]
theorem jA.ro {g:Rows} (h:jA g):jA (V.ro g):=by
 obtain⟨⟨b,h1⟩,c,h2⟩:=h;exact⟨⟨false,by unfold V.ro;rw[h1];rfl⟩,false,by unfold V.ro;rw[h2];rfl⟩
section
variable {P:Program} {w w':World} {D D' D1 D2:Nat->Prop} {ι ι1 ι2:Names}
end
section
variable {α:Type} {e:α->List AV} {z:Nat} {L:List α}
end
theorem A7 (sch:List Int) (hl:sch.length<=1048576):au Tryz.prog 28 [.sl (sch.map bf)] (.bool (Bb sch)):=by
 refine au.body fx rfl fun fM n0=>?_;clear fM;have eW:(sch.map bf).length=sch.length:=by simp
 by_cases h2:(200:Int)<(sch.length:Int)
 ·have hd:decide ((200:Int)<(sch.length:Int))=true:=decide_eq_true h2;(try((repeat(revert N;apply g7));refine wk (tw @eW @hd) ?_;repeat(apply g6;intro N hN)));exact cZ (b:=false) (.inl rfl) (sd @g8) (by unfold Bb;rw[decide_eq_false ae];rfl)
 have hd:decide ((200:Int)<(sch.length:Int))=false:=decide_eq_false h2;(try((repeat(revert N;apply g7));refine wk (tw @eW @hd) ?_;repeat(apply g6;intro N hN)));refine cj (fun n env st=>∃k:Nat,n=(sch.length)-k/\k<=(sch.length)/\env 3=.int .i64 (k:Int)/\(∀j:Nat,j<k->jj (sch.getD j 0) 0 1000=true)) (sch.length) ⟨0,ae,ae,sl @g8,fun _ h=>absurd h (Nat.not_lt_zero _)⟩ ?_;rintro n_a m3 i8 ⟨k,rfl,ale,a3,qw⟩ eC;have a0:=eC 0 g9;simp only[go_sem,↓reduceIte,Nat.reduceEqDiff,Nat.reduceAdd,Nat.reduceSub,Nat.reduceLeDiff,reduceCtorEq]at a0;clear eC
 by_cases hk:(k:Int)<(sch.length:Int)
 ·have dW:∀{e:Env},(e 3=.int .i64 (IntKind.i64.wrap ((k:Int)+1)))->(jj (sch.getD k 0) 0 1000=true)->∃m0,m0<(sch.length)-k/\∃k:Nat,m0=(sch.length)-k/\k<=(sch.length)/\e 3=.int .i64 (k:Int)/\(∀j:Nat,j<k->jj (sch.getD j 0) 0 1000=true):=fun x1 x2=>⟨_,ae,k+1,rfl,ae,(by rw[x1,aZ ae]),(all_succ qw x2)⟩;have iD:k<sch.length:=ae;have hg:=DP iD;have h3:=mB (sch.getD k 0) 0 1000;generalize hz:sch.getD k 0=z at *
  by_cases hi:jj z 0 1000=true
  ·rw[hi]at h3
   (have zF:=tw5 @a3 @a0 @hk @hg @eW;(repeat(first|((repeat(revert N;apply g7));refine wk zF ?_;repeat(apply g6;intro N hN))|((try apply i3);refine⟨_,au.x (h3) (sd zF),?_⟩;apply hN;clear hN N)));try clear zF)
   exact dW (sd (tw @a3 @a0)) (by exact hi)
  ·rw[Bool.not_eq_true]at hi;rw[hi]at h3
   (have zF:=tw5 @a3 @a0 @hk @hg @eW;(repeat(first|((repeat(revert N;apply g7));refine wk zF ?_;repeat(apply g6;intro N hN))|((try apply i3);refine⟨_,au.x (h3) (sd zF),?_⟩;apply hN;clear hN N)));try clear zF)
   refine cZ (b:=false) (.inl rfl) (sd @g8) ?_
   cases hb:Bb sch
   ·rfl
   ·exfalso;have:=(rq.1 hb).2 z (by rw[<-hz,List.getD_eq_getElem?_getD,i5 iD];exact List.getElem_mem iD);rw[show jj z 0 1000=true by simp[jj,this.1,this.2]]at hi
    cases hi
 ·(try((repeat(revert N;apply g7));refine wk (tw4 @a3 @a0 @hk @eW) ?_;repeat(apply g6;intro N hN)));refine cZ (b:=true) (.inl rfl) (sd @g8) ?_;refine(rq.2 ⟨ae,fun x hx=>?_⟩).symm;obtain⟨j,hj,rfl⟩:=List.getElem_of_mem hx;have:=qw j ae;rw[List.getD_eq_getElem?_getD,i5 hj,Option.getD_some]at this;have:=dV this;omega
theorem Fb {s:ar} (hP:lW s) {sch:List Int}:∀(f:Nat) (es:List aa),iI s es->l6 s sch 500 f es=l6 s sch 501 f es
 |0,_,_=>rfl
 |f+1,es,hG=>by
  have hA:=nk hP (es:=es) es.length i4 hG;have mA:=nn s es es.length i4;have sM:=hA.1.oG;have qe:=hP.some;rw[l6,l6]
  by_cases h0:(jP s (dx s es es.length)).length=0
  ·rw[if_pos h0,if_pos h0]
  ·rw[if_neg h0,if_neg h0,if_neg (show ¬500<=es.length by omega),if_neg (show ¬501<=es.length by omega)]
   by_cases h5:500<=(dx s es es.length).length
   ·rw[if_pos h5,if_pos h5]
   ·rw[if_neg h5,if_neg h5];exact Fb hP f _ (hG.add (e7 (nU ae)) ae)
theorem Np {s:ar} (hP:lW s) (sch:List Int):od s sch 500=od s sch 501:=Fb hP _ _ (iI.nil s)
noncomputable def xA (s:ar) (sch:List Int):AV:=if pM s then(if Bb sch then(match od s sch 501 with
 |some es=>.gG [.sl (es.map ad),.agg [.sl ((dx s es es.length).map ad)],.int .i64 0]
 |none=>.gG [.ck,.agg [.ck],.int .i64 4])else .gG [.ck,.agg [.ck],.int .i64 2])else .gG [.ck,.agg [.ck],.int .i64 1]
theorem Lb (a:List aa) (ha:a.length<=1048576):au Tryz.prog 48 [.dZ [.sl (a.map ad)],.dZ [.sl (a.map ad)]] (.bool true):=by
 refine au.body fx rfl fun hl n0=>?_;clear hl;have eW:(a.map ad).length=a.length:=by simp
 have hd:∀x:Int,decide (x=x)=true:=fun x=>decide_eq_true rfl;(try((repeat(revert N;apply g7));refine wk (tw @eW @hd) ?_;repeat(apply g6;intro N hN)));refine cj (fun n env st=>∃k:Nat,n=(a.length)-k/\k<=(a.length)/\env 5=.int .i64 (k:Int)) (a.length) ⟨0,ae,ae,sl (tw @eW @hd)⟩ ?_;rintro n_b m4 i9 ⟨k,rfl,ble,b5⟩ eB;have b0:=eB 0 g9;have b1:=eB 1 g9;simp only[go_sem,↓reduceIte,Nat.reduceEqDiff,Nat.reduceAdd,Nat.reduceSub,Nat.reduceLeDiff,reduceCtorEq,eW,hd]at b0 b1;clear eB
 by_cases hk:(k:Int)<(a.length:Int)
 ·have ep:∀{e:Env},(e 5=.int .i64 (IntKind.i64.wrap ((k:Int)+1)))->∃m0,m0<(a.length)-k/\∃k:Nat,m0=(a.length)-k/\k<=(a.length)/\e 5=.int .i64 (k:Int):=fun x1=>⟨_,ae,k+1,rfl,ae,(by rw[x1,aZ ae])⟩;have gm:=fZ (l:=a) (i:=k) ae;rw[ad]at gm;(try((repeat(revert N;apply g7));refine wk (tw9 @b5 @b0 @b1 @hk @gm @eW @hd @Bool.and_true @Bool.not_true) ?_;repeat(apply g6;intro N hN)));exact ep (sd (tw3 @b5 @b0 @b1))
 ·(try((repeat(revert N;apply g7));refine wk (tw5 @b5 @b0 @b1 @hk @eW) ?_;repeat(apply g6;intro N hN)));exact cZ (b:=true) (.inl rfl) (sd @g8) rfl
theorem yO (a:List aa) (ha:a.length<=1048576):au Tryz.prog 17 [.agg [.sl (a.map ad)],.agg [.sl (a.map ad)]] (.bool true):=by
 refine au.body fx rfl fun hl n0=>?_;clear hl;have h1:=Lb a ha;(repeat(first|((repeat(revert N;apply g7));refine wk @g8 ?_;repeat(apply g6;intro N hN))|((try apply i3);refine⟨_,au.x (h1) (sd @g8),?_⟩;apply hN;clear hN N)));exact cZ (b:=true) (.inl rfl) (sd @g8) rfl
theorem N6 (a b:Int):au Tryz.prog 37 [.int .i64 a,.int .i64 b] (.int .i64 (max a b)):=by
 refine au.body fx rfl fun hl n0=>?_;clear hl
 by_cases h:b<a
 ·(try((repeat(revert N;apply g7));refine wk @h ?_;repeat(apply g6;intro N hN)));exact oP (.inl rfl) (sl @g8) (by rw[ec];congr 2;omega)
 ·(try((repeat(revert N;apply g7));refine wk @h ?_;repeat(apply g6;intro N hN)));exact oP (.inl rfl) (sl @g8) (by rw[ec];congr 2;omega)
theorem MA (l:List aa) (p:af) (hf:p9 l=true) (hR:iJ l) (hl:l.length<=1048576):au Tryz.prog 13 [.agg [.sl (l.map ad)],.agg (ab p)] (.gG [.int .i64 (max (ej l p) 0),.bool (decide (0<=ej l p))]):=by
 have h1:=BW l;rw[hf]at h1;have h2:=yu l p hR hl;have h3:=N6 (ej l p) 0;refine au.body fx rfl fun fM n0=>?_;clear fM;generalize ej l p=a at h2 h3 ⊢;rw[ab]at h2 ⊢;(repeat(first|((repeat(revert N;apply g7));refine wk @g8 ?_;repeat(apply g6;intro N hN))|((try apply i3);refine⟨_,au.x (h1) (sd @g8),?_⟩;apply hN;clear hN N)|((try apply i3);refine⟨_,au.x (h2) (sd @g8),?_⟩;apply hN;clear hN N)|((try apply i3);refine⟨_,au.x (h3) (sd @g8),?_⟩;apply hN;clear hN N)));exact lu (.inl rfl) (vs:=[.int .i64 (max a 0),.bool (decide (0<=a))]) (sd @g8) (by simp only[gH,fY,bR,cW,ec,fK,Option.map_some])
theorem Vs {g:Rows} {v v':AV} (h1:V.fz g 6 v=some v'):eM g 6 [v]=some [v']:=by simp only[ah,aj,h1,Option.map_some]
theorem ME (xs ys:List Int):au Tryz.prog 5 [.sl (xs.map iq),.sl (ys.map iq)] (.bool (decide (3000<xs.length)||decide (3000<ys.length))):=by
 refine au.body fx rfl fun hl n0=>?_;clear hl;have h1:(xs.map iq).length=xs.length:=by simp
 have h2:(ys.map iq).length=ys.length:=by simp
 by_cases c1:3000<xs.length
 ·have d1:decide ((3000:Int)<(xs.length:Int))=true:=decide_eq_true ae;rw[decide_eq_true c1];(try((repeat(revert N;apply g7));refine wk (tw3 @h1 @h2 @d1) ?_;repeat(apply g6;intro N hN)));exact cZ (b:=true) (.inl rfl) (sd @g8) rfl
 ·have d1:decide ((3000:Int)<(xs.length:Int))=false:=decide_eq_false ae;rw[decide_eq_false c1,Bool.false_or];(try((repeat(revert N;apply g7));refine wk (tw3 @h1 @h2 @d1) ?_;repeat(apply g6;intro N hN)));exact cZ (b:=decide ((3000:Int)<(ys.length:Int))) (.inl rfl) (sd @g8) (by apply decide_eq_decide.2;omega)
theorem TW (xs:List Int):∃v:Int,au Tryz.prog 7 [.sl (xs.map iq),.int .i64 0,.int .i64 2] (.int .i64 v):=by
 have eW:(xs.map iq).length=xs.length:=by simp
 by_cases h0:xs.length=0
 ·have hd:decide ((xs.length:Int)<=0)=true:=decide_eq_true ae;refine⟨0,?_⟩;refine au.body fx rfl fun hl n0=>?_;clear hl;(try((repeat(revert N;apply g7));refine wk (tw @eW @hd) ?_;repeat(apply g6;intro N hN)));exact oP (.inl rfl) (sl @g8) (by rw[ec])
 ·have hd:decide ((xs.length:Int)<=0)=false:=decide_eq_false ae;have jV:(xs.map iq)[0]? =some [.int .u8 (xs.getD 0 0)]:=getD_map iq ae;have eG:(0:Int)<(xs.length:Int):=ae;have d2:decide ((2:Int)<1)=false:=rfl;have d3:((2:Int)=0)=False:=eq_false (by decide);generalize xs.getD 0 0=b at jV;refine⟨(IntKind.i64.wrap b).tmod 2,?_⟩;refine au.body fx rfl fun hl n0=>?_;clear hl;(try((repeat(revert N;apply g7));refine wk (tw6 @eW @hd @jV @eG @d2 @d3) ?_;repeat(apply g6;intro N hN)));exact oP (.inl rfl) (sl @g8) (by rw[ec])
theorem Es (s:aE) (hn:jC s) (hS:gz s) (l:List aa) (hA:fS s l) (p:af) (hp:s9 p=true) (t:Int) (ht:eE s t=true):
  au Tryz.prog 14 [.agg (ai s),.agg [.sl (l.map ad)],.agg (ab p),.int .i64 t] (.gG [.int .i64 (iT s (ej l) p t),.int .i64 0]):=by
 have hg:=hS.uN;have AE:=hS.qj;have h1:=HS s l hn ae ae;rw[show Kd s l=0 by unfold Kd;rw[nw.2 hS,mL.2 hA];rfl]at h1;have h2:=tL p;rw[hp]at h2;have h3:=zx s t;rw[ht]at h3;obtain⟨hx,hy⟩:=np hp;have h4:=Ds s hS l hA p hx hy t ht;refine au.body fx rfl fun fM n0=>?_;clear fM;rw[ai]at h1 h3 h4 ⊢;rw[ab]at h2 h4 ⊢;generalize iT s (ej l) p t=v at h4 ⊢;(repeat(first|((repeat(revert N;apply g7));refine wk @g8 ?_;repeat(apply g6;intro N hN))|((try apply i3);refine⟨_,au.x (h1) (sd @g8),?_⟩;apply hN;clear hN N)|((try apply i3);refine⟨_,au.x (h2) (sd @g8),?_⟩;apply hN;clear hN N)|((try apply i3);refine⟨_,au.x (h3) (sd @g8),?_⟩;apply hN;clear hN N)|((try apply i3);refine⟨_,au.x (h4) (sd @g8),?_⟩;apply hN;clear hN N)));exact lQ (.inl rfl) (r1:=.int .i64 v) (r2:=.int .i64 0) (sd @g8) (sd @g8) (by simp only[fY,bR,cW,ec,Option.map_some])
theorem Ev {σ:aw} {s:ar} (hP:lW s) {a:List aa} (h0:au Tryz.prog 30 [.agg (aK s),.agg [.sl (a.map ad)]] (.int .i64 0)) (hA:fS s.ay a) (qe:∀x∈s.cw.aq,x∈a) {qs:List af} (hl:qs.length<=1048576) (hq:qu s a qs=true) (hE:jA σ.get) (AD:1<=σ.next) {sch:List Int} (hs:∀x∈sch,0<=x/\x<=1000) (nI:sch.length<=200)
  {ds:List aa} (hd:od (iN s (ee (lr qs) a)) sch 501=some ds) (he:dx (iN s (ee (lr qs) a)) ds ds.length=a):
  fm (Call Tryz.prog) 15 [.agg (aK s),.agg [.sl (a.map ad)],.sl (qs.map ab),.sl (sch.map bf)] σ (fun r'=>r'=.gG [Zb ad ds,.agg [.sl (a.map ad)],.int .i64 0]):=by
 unfold fm PC;refine Or.inl (ax _ _ _ _ _ (fun r σ' hq=>⟨_,?_,rfl⟩) (Eu (σ:=⟨V.ro σ.get,σ.next⟩) hP h0 hA qe hl hq hE.ro AD hs nI));obtain⟨_,_,h⟩:=hq
 rcases h with⟨hg,_⟩|⟨es,v,o,hg,_,rfl,hL,ho,_⟩
 ·rw[hd]at hg;cases hg
 ·rw[hd]at hg
  cases hg
  rw[he]at ho ⊢;have hz:=gj (n:=3) (e:=ad) ho rfl fun x=>by simp[ad,ah,aj,aL]
  have hv:fz σ'.get 5 v=some (Zb ad ds):=by
   rcases hL with⟨rfl,rfl⟩|⟨u,rfl,hu,_,_,h0,_⟩
   ·rw[aM];rfl
   ·rw[gj (n:=4) (e:=ad) hu rfl fun x=>by simp[ad,ah,aj,aL],Zb,if_neg ae]
  simp only[bp,ah,aj,bb,hz,hv,aL,Option.map_some]
theorem Kt (bs:List Int) (hb:∀b∈bs,0<=b/\b<=255) (iy:bs.length<=4096):∃F:Nat->Int->Int×Int,∀a z,a<=1073741824->(∀(X:Id) (σ:aw),qD σ.get X bs a z->Call Tryz.prog 33 [.ptr X 0 0,.int .i64 30] σ fun r σ'=>r=.int .i64 (F a z).1/\qD σ'.get X bs (a+1) (F a z).2/\lv X σ σ')/\0<=(F a z).1/\(F a z).1<30:=by
 classical
 refine⟨fun a z=>if h:a<=1073741824 then((DL bs hb iy 30 ae ae a h z).choose,(DL bs hb iy 30 ae ae a h z).choose_spec.choose)else(0,0),fun a z h=>?_⟩;simp only[dif_pos h];exact(DL bs hb iy 30 ae ae a h z).choose_spec.choose_spec
theorem Cx (bs:List Int) (hb:∀b∈bs,0<=b/\b<=255) (iy:bs.length<=4096):
  ∃sch:List Int,au Tryz.prog 16 [.sl (bs.map iq)] (.sl (sch.map bf))/\(∀x∈sch,0<=x/\x<=29)/\sch.length<=8:=by
 obtain⟨F,hF⟩:=Kt bs hb iy;obtain⟨k,z1,hk,k0,k7⟩:=DL bs hb iy 9 ae ae 0 ae 0;obtain⟨m,rfl⟩:=Int.eq_ofNat_of_zero_le k0
 have Yj:∀n a z,a+n<=1000->∀x∈sW F n a z,0<=x/\x<=29:=fun n=>by
  induction n with
  |zero=>intro a z _ x hx;cases hx
  |succ n ih=>
   intro a z ha x hx;rw[sW]at hx
   rcases List.mem_cons.1 hx with rfl|hx
   ·have:=(hF a z ae).2;omega
   ·exact ih _ _ ae x hx
 refine⟨sW F m 1 z1,?_,Yj m 1 z1 ae,by rw[By];omega⟩;refine au.body fx rfl fun fM n0=>?_;clear fM;(try((repeat(revert N;apply g7));refine wk @g8 ?_;repeat(apply g6;intro N hN)));refine .inr (ax _ _ _ _ _ (fun r σ1 hq=>?_) (K5 bs _));obtain⟨X,rfl,x0,x1,hs⟩:=hq;apply hN;clear hN N;have vX:=cR x1
 have Q1:qD (bJ σ1.get ⟨16002000,σ1.next+1⟩ ⟨true,1,[]⟩) X bs 0 0:=by
  unfold qD at hs ⊢;simp only[go_sem,↓reduceIte,Nat.reduceEqDiff,Nat.reduceAdd,Nat.reduceSub,Nat.reduceLeDiff,reduceCtorEq,vX]<;>exact hs
 (try((repeat(revert N;apply g7));refine wk @g8 ?_;repeat(apply g6;intro N hN)));refine .inr (ax _ _ _ _ _ (fun r σ2 hq=>?_) (hk X _ Q1));obtain⟨rfl,h2,k2⟩:=hq;have hw:=k2.2 ⟨16002000,σ1.next+1⟩ (fun e=>by rw[<-e]at x1;(try dsimp only at x1);omega) aI;have Mh:=k2.1;(try dsimp only at Mh);simp only[go_sem,↓reduceIte,Nat.reduceEqDiff,Nat.reduceAdd,Nat.reduceSub,Nat.reduceLeDiff,reduceCtorEq]at hw;clear vX hs Q1 k2;apply hN;clear hN N;(try((repeat(revert N;apply g7));refine wk @g8 ?_;repeat(apply g6;intro N hN)));refine cj (fun i env st=>∃(sch:List Int) (w:Id) (z:Int),env 5=.int .i64 (i:Int)/\env 4=.own w 0 sch.length/\st.get w=some ⟨true,1,sch.map bf⟩/\qD st.get X bs (1+sch.length) z/\i+sch.length=m/\sch++sW F i (1+sch.length) z=sW F m 1 z1/\w.bH<st.next/\X.bH<st.next/\w≠X) m ⟨[],⟨16002000,σ1.next+1⟩,z1,sd @g8,sl @g8,hw,h2,by simp,rfl,aI,aI,fun e=>by rw[<-e]at x1;(try dsimp only at x1);omega⟩ ?_;rintro i m4 i9 ⟨sch,w,z,b5,b4,gw,hs,hl,hr,vw,vx,ju⟩ eB;have b3:=eB 3 g9;simp only[go_sem,↓reduceIte,Nat.reduceEqDiff,Nat.reduceAdd,Nat.reduceSub,Nat.reduceLeDiff,reduceCtorEq]at b3;clear eB
 by_cases hm:(0:Int)<(i:Int)
 ·obtain⟨i,rfl⟩:∃j,i=j+1:=⟨i-1,ae⟩
  obtain⟨hc,u0,u1⟩:=hF (1+sch.length) z ae;rw[sW]at hr;generalize hFv:F (1+sch.length) z=q0 at *;obtain⟨u,z2⟩:=q0;(try dsimp only at hc u0 u1 hr);(try((repeat(revert N;apply g7));refine wk (tw4 @b3 @b4 @b5 @hm) ?_;repeat(apply g6;intro N hN)));refine .inr (ax _ _ _ _ _ (fun r σ3 hq=>?_) (hc X _ hs));obtain⟨rfl,h3,k3⟩:=hq;have Z0:=(k3.2 w ju aI).trans gw;have QY:=k3.1;(try dsimp only at QY);clear k3;have vw3:=cR (i:=w) (n:=σ3.next) ae;have vx3:=cR (i:=X) (n:=σ3.next) ae;have wm:IntKind.i64.wrap (((i+1:Nat):Int)-1)=(i:Int):=(db ae).trans ae;apply hN;clear hN N;have Jg:sch.length<=16777215:=ae
  have e1:(X=w)=False/\(w=X)=False:=⟨eq_false fun e=>ju e.symm,eq_false ju⟩
  have QX:(sch++[u]).map bf=sch.map bf++[bf u]:=by simp
  have Jh:(sch++[u]).length=sch.length+1:=by simp
  rw[bf]at QX;unfold qD at h3;(try((repeat(revert N;apply g7));refine wk (tw7 @b3 @b4 @b5 @Z0 @vw3 @wm @Jg) ?_;repeat(apply g6;intro N hN)));refine⟨i,ae,sch++[u],⟨16006004,σ3.next⟩,z2,sl @g8,sl @Jh,sl @QX,by unfold qD;rw[Jh];simp only[go_sem,↓reduceIte,Nat.reduceEqDiff,Nat.reduceAdd,Nat.reduceSub,Nat.reduceLeDiff,reduceCtorEq,vx3,e1];exact h3,by rw[Jh];omega,by rw[Jh,List.append_assoc];exact hr,aI,aI,fun e=>by have:=congrArg Id.bH e;(try dsimp only at this);omega⟩
 ·obtain rfl:i=0:=ae;(try((repeat(revert N;apply g7));refine wk (tw4 @b3 @b4 @b5 @hm) ?_;repeat(apply g6;intro N hN)));rw[sW,List.append_nil]at hr;exact⟨[.own w 0 sch.length],sd @b4,_,by simp only[gH];exact eQ (e:=bf) gw rfl fun x=>XP _ _ _,by rw[hr]⟩
theorem HU (s:ar) (Z2:fS s.ay s.cw.aq) (a:List aa) (ha:a.length<=1048576):au Tryz.prog 32 [.dZ (aK s),.dZ [.sl (a.map ad)]] (.sl ((fj s a).map ab)):=by
 refine au.body fx rfl fun fM n0=>?_;clear fM;have eW:(a.map ad).length=a.length:=by simp
 have hz:fj s (a.take 0)=[]:=rfl;(try((repeat(revert N;apply g7));refine wk @g8 ?_;repeat(apply g6;intro N hN)));refine cj (fun n env st=>∃k:Nat,n=(a.length)-k/\k<=(a.length)/\env 6=.int .i64 (k:Int)/\(n0<=st.next/\∃u:Id,env 5=.own u 0 (fj s (a.take k)).length/\st.get u=some ⟨true,2,(fj s (a.take k)).map ab⟩/\u.bH<st.next)) (a.length) ⟨0,ae,ae,sl @eW,by(try dsimp only);exact⟨ae,⟨32001000,n0+1⟩,sl @hz,sl @hz,aI⟩⟩ ?_;rintro n_b m4 i9 ⟨k,rfl,ble,b6,bI0⟩ eB;have b0:=eB 0 g9;have b1:=eB 1 g9;simp only[go_sem,↓reduceIte,Nat.reduceEqDiff,Nat.reduceAdd,Nat.reduceSub,Nat.reduceLeDiff,reduceCtorEq,eW]at b0 b1;clear eB;obtain⟨bn,u,b5,bu,ZP⟩:=bI0;have vu:=cR ZP
 by_cases hk:(k:Int)<(a.length:Int)
 ·have ep:∀{e:Env} {gg:Rows} {nx:Nat},(e 6=.int .i64 (IntKind.i64.wrap ((k:Int)+1)))->(n0<=nx/\∃u:Id,e 5=.own u 0 (fj s (a.take (k+1))).length/\gg u=some ⟨true,2,(fj s (a.take (k+1))).map ab⟩/\u.bH<nx)->∃m0,m0<(a.length)-k/\∃k:Nat,m0=(a.length)-k/\k<=(a.length)/\e 6=.int .i64 (k:Int)/\(n0<=nx/\∃u:Id,e 5=.own u 0 (fj s (a.take k)).length/\gg u=some ⟨true,2,(fj s (a.take k)).map ab⟩/\u.bH<nx):=fun x1 x2=>⟨_,ae,k+1,rfl,ae,(by rw[x1,aZ ae]),x2⟩;have iD:k<a.length:=ae;have gm:=fZ iD;have qe:=Le s Z2 (bc a k);have hlen:=vM s (a.take k);have AE:(a.take k).length=k:=by rw[List.length_take];omega
  have mU:=Co (s:=s) iD;have Q2:decide (ej s.cw.aq (bc a k).aH=(bc a k).bK)=Mo s (bc a k):=rfl;rw[Q2]at qe;rw[ad]at gm qe;rw[aK]at qe;generalize bc a k=x at gm qe mU;generalize fj s (a.take k)=M at b5 bu mU hlen;have GI:(M.map ab).length=M.length:=by simp
  have UE:M.length<=16777215:=ae
  cases hb:Mo s x
  ·rw[hb]at qe mU;rw[if_neg (by simp)]at mU;have GN:(fj s (a.take (k+1))).map ab=M.map ab++[ab x.aH]:=by rw[mU,List.map_append];rfl
   have nI:(fj s (a.take (k+1))).length=M.length+1:=by rw[mU];simp
   rw[ab]at GN
   (have zF:=tw9 @b6 @b0 @b1 @hk @gm @eW @b5 @bu (tw4 @vu @GI @UE @aK.eq_1);(repeat(first|((repeat(revert N;apply g7));refine wk zF ?_;repeat(apply g6;intro N hN))|((try apply i3);refine⟨_,au.x (qe) (sd zF),?_⟩;apply hN;clear hN N)));try clear zF)
   exact ep (sd (tw4 @b6 @b0 @b1 @eW)) (by(try dsimp only);exact⟨ae,⟨32006010,i9.next+1+1⟩,by rw[nI];simp only[go_sem,↓reduceIte,Nat.reduceEqDiff,Nat.reduceAdd,Nat.reduceSub,Nat.reduceLeDiff,reduceCtorEq]<;>rfl,by rw[GN];simp only[go_sem,↓reduceIte,Nat.reduceEqDiff,Nat.reduceAdd,Nat.reduceSub,Nat.reduceLeDiff,reduceCtorEq]<;>rfl,aI⟩)
  ·rw[hb]at qe mU;rw[if_pos rfl,List.append_nil]at mU
   (have zF:=tw7 @b6 @b0 @b1 @hk @gm @eW @aK.eq_1;(repeat(first|((repeat(revert N;apply g7));refine wk zF ?_;repeat(apply g6;intro N hN))|((try apply i3);refine⟨_,au.x (qe) (sd zF),?_⟩;apply hN;clear hN N)));try clear zF)
   exact ep (sd (tw4 @b6 @b0 @b1 @eW)) (by(try dsimp only);exact⟨ae,u,by rw[mU];simp only[go_sem,↓reduceIte,Nat.reduceEqDiff,Nat.reduceAdd,Nat.reduceSub,Nat.reduceLeDiff,reduceCtorEq,b5],by rw[mU];simp only[go_sem,↓reduceIte,Nat.reduceEqDiff,Nat.reduceAdd,Nat.reduceSub,Nat.reduceLeDiff,reduceCtorEq,vu,bu],aI⟩)
 ·have l8:k=a.length:=ae;subst l8;rw[List.take_length]at b5 bu;(try((repeat(revert N;apply g7));refine wk (tw6 @b6 @b0 @b1 @hk @eW @b5) ?_;repeat(apply g6;intro N hN)))
  exact lu (.inl rfl) (vs:=[.own u 0 (fj s a).length]) (sd @b5) (by
   simp only[gH]
   exact eQ (e:=ab) (n:=5) bu rfl fun x=>by simp[ab,bR,cW,ec])
theorem Pw {s:ar} {a:List aa} {qs:List af} (hR:iJ a) (hq:js qs) (hs:∀q∈qs,q∈fj s a):qu s a qs=true:=o8.2 fun i hi=>by
 rw[Gy hR,Bool.and_eq_true];refine⟨decide_eq_true (hs _ (by rw[gp hi];exact List.getElem_mem hi)),?_⟩
 by_cases h0:i=0
 ·rw[decide_eq_true h0];rfl
 ·rw[Bool.or_eq_true];exact .inr (hq.at_ (i:=i-1) (j:=i) ae hi)
theorem J5 (bs:List Int) (hb:∀b∈bs,0<=b/\b<=255) (iy:bs.length<=4096) (s:ar) (hP:lW s) (a:List aa) (XX:fS s.ay a):
  kh Tryz.prog 12 [.sl (bs.map iq),.agg (aK s),.agg [.sl (a.map ad)],.int .i64 12] fun r=>∃qs:List af,r=.sl (qs.map ab)/\qs.length<=12/\qu s a qs=true:=by
 have sM:=XX.1.oG;have GH:=HU s hP.ud a ae;have nI:=vM s a;refine kh.body fx rfl fun fM n0=>?_;clear fM;rw[aK]at GH ⊢;(try((repeat(revert N;apply g7));refine wk @g8 ?_;repeat(apply g6;intro N hN)));refine .inr (ax _ _ _ _ _ (fun r σ1 hq=>?_) (wQ bs _));obtain⟨X,rfl,x0,x1,hs,hK⟩:=hq;obtain⟨g1,n1⟩:=σ1;(try dsimp only at x0 x1 hs hK);have k0:=hK ⟨12000000,n0⟩ aI;have k1:=hK ⟨12000001,n0⟩ aI;simp only[go_sem,↓reduceIte,Nat.reduceEqDiff,Nat.reduceAdd,Nat.reduceSub,Nat.reduceLeDiff,reduceCtorEq]at k0 k1;clear hK;apply hN;clear hN N;have w13:IntKind.i64.wrap 13=13:=rfl;have vX:=cR (i:=X) (n:=n1+1) ae;(repeat(first|((repeat(revert N;apply g7));refine wk (tw3 @k0 @k1 @w13) ?_;repeat(apply g6;intro N hN))|((try apply i3);refine⟨_,au.x (GH) (sd (tw3 @k0 @k1 @w13)),?_⟩;apply hN;clear hN N)))
 refine .inr (ax _ _ _ _ _ (fun r σ2 hq=>?_) (ik bs hb iy X 13 0 ae _ (by
  obtain⟨za,zz,wN,gX⟩:=hs
  exact⟨za,zz,wN,by simp only[go_sem,↓reduceIte,Nat.reduceEqDiff,Nat.reduceAdd,Nat.reduceSub,Nat.reduceLeDiff,reduceCtorEq,vX]<;>exact gX⟩)))
 obtain⟨v,rfl,v0,v1,h2,k2⟩:=hq;obtain⟨g2,n2⟩:=σ2;(try dsimp only at h2);have Mh:=k2.1;(try dsimp only at Mh);have hw:=k2.2 ⟨12002000,n1+1⟩ (fun e=>by rw[<-e]at x1;(try dsimp only at x1);omega) aI;simp only[go_sem,↓reduceIte,Nat.reduceEqDiff,Nat.reduceAdd,Nat.reduceSub,Nat.reduceLeDiff,reduceCtorEq]at hw;obtain⟨m,rfl⟩:=Int.eq_ofNat_of_zero_le v0;clear k2 hs vX k0 k1;apply hN;clear hN N;(try((repeat(revert N;apply g7));refine wk @g8 ?_;repeat(apply g6;intro N hN)));refine cj (fun m env st=>∃(qs:List af) (w:Id),env 12=.int .i64 (m:Int)/\env 10=.own w 0 qs.length/\st.get w=some ⟨true,2,qs.map ab⟩/\(∃A,A+2*m<=40/\eZ st.get X bs A)/\m+qs.length<=12/\js qs/\(∀q∈qs,q∈fj s a)/\w.bH<st.next/\X.bH<st.next/\w≠X) m ⟨[],⟨12002000,n1+1⟩,sd @g8,sl @g8,sl @hw,⟨2,ae,h2⟩,by(try simp only[List.length_nil]);omega,List.Pairwise.nil,fun q hq=>(by cases hq),aI,aI,fun e=>by rw[<-e]at x1;(try dsimp only at x1);omega⟩ ?_;rintro m m4 i9 ⟨qs,w,sK,CJ,gw,⟨A,hA40,hs⟩,hl,hR,hr,vw,vx,ju⟩ eB;have b9:=eB 9 g9;have wb:=eB 11 g9;simp only[go_sem,↓reduceIte,Nat.reduceEqDiff,Nat.reduceAdd,Nat.reduceSub,Nat.reduceLeDiff,reduceCtorEq]at b9 wb;clear eB
 by_cases hm:(0:Int)<(m:Int)
 ·by_cases hf:(0:Int)<((fj s a).length:Int)
  ·have eW:((fj s a).map ab).length=(fj s a).length:=by simp
   (try((repeat(revert N;apply g7));refine wk (tw7 @b9 @CJ @wb @sK @hm @hf @eW) ?_;repeat(apply g6;intro N hN)));refine .inr (ax _ _ _ _ _ (fun r σ3 hq=>?_) (ik bs hb iy X ((fj s a).length:Int) A ae _ hs));obtain⟨v,rfl,v0,v1,h3,k3⟩:=hq;obtain⟨g3,n3⟩:=σ3;(try dsimp only at h3);have QY:=k3.1;(try dsimp only at QY);have Z0:=(k3.2 w ju aI).trans gw;(try dsimp only at Z0);clear k3;obtain⟨j,rfl⟩:=Int.eq_ofNat_of_zero_le v0;have iL:j<(fj s a).length:=ae;have ox:(j:Int)<((fj s a).length:Int):=ae;have jV:((fj s a).map ab)[j]? =some (ab (fI (fj s a) j)):=getD_map ab iL;have hpm:fI (fj s a) j∈fj s a:=by rw[gp iL];exact List.getElem_mem iL
   generalize fI (fj s a) j=p at jV hpm;rw[ab]at jV;apply hN;clear hN N;(try((repeat(revert N;apply g7));refine wk (tw9 @b9 @CJ @wb @sK @hm @hf @eW @ox @jV) ?_;repeat(apply g6;intro N hN)));refine .inr (ax _ _ _ _ _ (fun r σ4 hq=>?_) (s8 qs hR ae p w _ (by(try dsimp only);exact Z0) aI));obtain⟨o,rfl,ho,n4,qd,hnw,gQ⟩:=hq;obtain⟨g4,x4⟩:=σ4;(try dsimp only at ho n4 qd hnw gQ);have wm:IntKind.i64.wrap ((m:Int)-1)=((m-1:Nat):Int):=(db ae).trans ae;have hX4:g4 X=g3 X:=gQ X ae (eq_false fun e=>ju e.symm);apply hN;clear hN N;have mA:=z7 qs p;(try((repeat(revert N;apply g7));refine wk (tw5 @b9 @CJ @wb @sK @wm) ?_;repeat(apply g6;intro N hN)));obtain⟨za,zz,wN,gX⟩:=h3;refine⟨m-1,ae,pG qs p,o,(by first|rfl|(simp only[go_sem,↓reduceIte,Nat.reduceEqDiff,Nat.reduceAdd,Nat.reduceSub,Nat.reduceLeDiff,reduceCtorEq])),(by first|rfl|(simp only[go_sem,↓reduceIte,Nat.reduceEqDiff,Nat.reduceAdd,Nat.reduceSub,Nat.reduceLeDiff,reduceCtorEq])),(by first|exact ho|(simp only[go_sem,↓reduceIte,Nat.reduceEqDiff,Nat.reduceAdd,Nat.reduceSub,Nat.reduceLeDiff,reduceCtorEq];exact ho)),⟨A+2,ae,za,zz,wN,hX4.trans gX⟩,ae,vD hR p,fun q hq=>?_,aI,aI,fun e=>?_⟩
   ·rcases(qY _ _ _).1 hq with rfl|h
    ·exact hpm
    ·exact hr q h
   ·rcases hnw with h|h
    ·rw[e]at h;omega
    ·exact h (eq_false fun h'=>ju (h'.symm.trans e))
  ·have hz:(fj s a).length=0:=ae;have eW:((fj s a).map ab).length=0:=by rw[List.length_map,hz]
   have Ml:((0:Int)<((0:Nat):Int))=False:=eq_false (by decide);have wq:decide ((0:Int)<((0:Nat):Int))=false:=rfl;(try((repeat(revert N;apply g7));refine wk (tw8 @b9 @CJ @wb @sK @hm @eW @Ml @wq) ?_;repeat(apply g6;intro N hN)));exact⟨[.own w 0 qs.length],sd @CJ,_,by simp only[gH];exact eQ (e:=ab) gw rfl fun x=>by simp[ab,bR,cW,ec],qs,rfl,ae,Pw XX.1.pH hR hr⟩
 ·(try((repeat(revert N;apply g7));refine wk (tw5 @b9 @CJ @wb @sK @hm) ?_;repeat(apply g6;intro N hN)));exact⟨[.own w 0 qs.length],sd @CJ,_,by simp only[gH];exact eQ (e:=ab) gw rfl fun x=>by simp[ab,bR,cW,ec],qs,rfl,ae,Pw XX.1.pH hR hr⟩
def FtP (ft:List di):Prop:=∀(j:Nat) (t:di),ft[j]? =some t->t.bL=(⟨#[114]⟩:ByteArray)++eO (j:Int)/\t.de.length=4/\∀g∈t.de,0<=g/\g<=2
def lM (t:di):di:=⟨t.bL,[0,0,0,0]⟩
theorem AB.none {rs:List di} (h:AB rs):FtP (rs.map lM):=fun j t hj=>by
 rw[List.getElem?_map]at hj
 cases e:rs[j]? with
 |none=>rw[e]at hj;cases hj
 |some u=>
  rw[e]at hj
  cases hj
  refine⟨(h j u e).1,rfl,fun g hg=>?_⟩
  rcases vd hg with rfl|rfl|rfl|rfl<;>omega
theorem ES {rb rn:List Int} {ft:List di} (l0:1<=rb.length) (l1:rb.length<=4) (l2:1<=rn.length) (l3:rn.length<=4) (hb:iC rb) (hn:iC rn) (hf:FtP ft) (hl:ft.length<=5):gz ⟨(iv rb rn).1,(iv rb rn).2++ft⟩:=by
 have hg:=kD rb rn;have ht:=jz rb rn
 have key:∀i,i<rb.length+rn.length+1+ft.length->((iv rb rn).2++ft)[i]?.map di.bL=some (Tm rb.length rn.length i)/\∃t,((iv rb rn).2++ft)[i]? =some t/\t.de.length=4/\∀g∈t.de,0<=g/\g<=((rb.length+2+rn.length:Nat):Int):=by
  intro i hi
  by_cases h:i<=rb.length+rn.length
  ·obtain⟨t,b,e1,e2,e3⟩:=Ip rb hb rn hn i h;obtain⟨s1,s2⟩:=VE (m:=rb.length) (h:=rn.length) (i:=i) (b:=b) l1 l3 l0 l2 h e2;refine⟨?_,t,by rw[List.getElem?_append_left ae];exact e1,by rw[e3];exact s1,by rw[e3];exact s2⟩;rw[List.getElem?_append_left ae,Pa rb l1 rn l3 i h,Tm,if_pos h]
  ·obtain⟨k,hk,rfl⟩:∃k,k<ft.length/\i=rb.length+rn.length+1+k:=⟨i-(rb.length+rn.length+1),ae,ae⟩
   have e:((iv rb rn).2++ft)[rb.length+rn.length+1+k]? =some ft[k]:=by
    rw[List.getElem?_append_right ae,ht,show rb.length+rn.length+1+k-(rb.length+rn.length+1)=k by omega,i5 hk]
   obtain⟨h1,h2,h3⟩:=hf k ft[k] (i5 hk);refine⟨?_,ft[k],e,h2,fun g hg=>?_⟩
   ·rw[e];show some ft[k].bL= _;rw[h1,EU ae,Tm,if_neg h,show rb.length+rn.length+1+k-1-rb.length-rn.length=k by omega]
   ·have:=h3 g hg;omega
 have hlen:((iv rb rn).2++ft).length=rb.length+rn.length+1+ft.length:=by rw[i6,ht]
 have QS:∀i,i<rb.length+2+rn.length->(qx ⟨(iv rb rn).1,(iv rb rn).2++ft⟩ i).bL=Tl rb.length i:=fun i hi=>Jb (O9 rb l1 rn l3 i hi);have KQ:∀i,i<rb.length+rn.length+1+ft.length->(qi ⟨(iv rb rn).1,(iv rb rn).2++ft⟩ i).bL=Tm rb.length rn.length i:=fun i hi=>Jb (key i hi).1;refine⟨aI,aI,aI,fun i hi=>?_,fun i hi=>?_⟩
 ·(try dsimp only at hi);rw[hg]at hi;refine⟨by rw[QS i hi];exact Vp l1 l3 hi,?_,fun j hj=>by rw[QS i hi,QS j ae];exact Rq _ ae _ ae i hi j hj⟩;have wh:i<(iv rb rn).1.length:=ae;have h1:=DV rb rn i _ (i5 wh)
  have h2:qx ⟨(iv rb rn).1,(iv rb rn).2++ft⟩ i=(iv rb rn).1[i]:=by
   unfold qx;(try dsimp only);rw[List.getD_eq_getElem?_getD,i5 wh];rfl
  rw[h2,h1]
  split<;>rfl
 ·(try dsimp only at hi);rw[hlen]at hi;obtain⟨t,e,h4,h5⟩:=(key i hi).2
  have h2:qi ⟨(iv rb rn).1,(iv rb rn).2++ft⟩ i=t:=by
   unfold qi;(try dsimp only);rw[List.getD_eq_getElem?_getD,e];rfl
  refine⟨by rw[KQ i hi];exact Vq l1 l3 ae,by rw[h2];exact h4,fun j hj=>by rw[KQ i hi,KQ j ae];exact Rr _ ae _ ae i ae j hj,fun g UQ=>?_⟩;rw[h2]at UQ;exact Dn (h5 g UQ).1 (by(try dsimp only);rw[hg];exact(h5 g UQ).2)
theorem K6 (l:List Int) (h:l.length=4):au Tryz.prog 61 [.sl (l.map bf)] (.sl (l.map bf)):=by
 refine au.body fx rfl fun fM n0=>?_;clear fM;have eW:(l.map bf).length=4:=by simp[h]
 have hz:(l.map bf).all (fun c=>c.length==1&&c.all AV.cell)=true:=all_map fun x=>by simp[bf,AV.cell]
 (try((repeat(revert N;apply g7));refine wk (tw @eW @hz) ?_;repeat(apply g6;intro N hN)));exact oP (.inl rfl) (r0:=.own ⟨61001002,n0+1⟩ 0 4) (sd @g8) (eQ (e:=bf) (sz:=1) (sd @g8) h.symm fun x=>by simp[bf,bR,cW,ec])
def CpT (n0:Nat) (g:Rows) (n:Nat) (X:List di) (k:Nat) (v:AV):Prop:=(k=0/\v=.ck)∨(0<k/\∃o:Id,v=.own o 0 k/\g o=some ⟨true,2,(X.take k).map dp⟩/\n0<=o.bH/\o.bH<n/\o.site=26005021)
theorem FM {σ:aw} {B og o:Id} {G T:Nat} {L:List gy} {rows:List (List AV)} {X:List di} {E:Nat->Prop} {n0:Nat} {u v:AV} (hB:σ.get B=some ⟨true,4,[[.own og 0 G,.own o 0 T,u,v]]⟩) (QI:B.bH<σ.next) (hL:σ.get og=some ⟨true,2,L.map dU⟩) (hG:L.length=G) (hG1:1<=G) (hG2:G<=1000) (ogv:og.bH<σ.next)
  (ho:σ.get o=some ⟨true,2,rows⟩) (ov:o.bH<σ.next) (hT:TX E n0 σ.get σ.next (rows.take T) X) (KG:X.length=T) (hr:T<=rows.length) (SM:1<=T) (UH:T<=1000):
  Call Tryz.prog 26 [.ptr B 0 0] σ (fun r σ'=>∃Zh o':Id,r=.agg [.own Zh 0 G,.own o' 0 T]/\σ'.get Zh=some ⟨true,2,L.map dU⟩/\σ'.get o'=some ⟨true,2,X.map dp⟩/\(Zh=o')=False/\σ.next<=Zh.bH/\Zh.bH<σ'.next/\σ.next<=o'.bH/\o'.bH<σ'.next/\σ.next<=σ'.next/\∀x:Id,x.bH<σ.next->σ'.get x=σ.get x):=by
 refine fG fx rfl fun fM=>?_;clear fM;have vB:=cR QI;have vg:=cR ogv;have vo:=cR ov;have ui:(L.map dU).length=G:=by simp[hG]
 have hgz:(L.map dU).all (fun c=>c.length==2&&c.all AV.cell)=true:=all_map fun x=>by simp[dU,AV.cell]
 have hG3:G<=16777216:=ae;have lh:(L.map dU).take G=L.map dU:=List.take_of_length_le ae;(try((repeat(revert N;apply g7));refine wk (tw8 @hB @vB @hL @vg @ui @hgz @hG3 @lh) ?_;repeat(apply g6;intro N hN)))
 refine cj (fun n env st=>∃k:Nat,n=(T)-k/\k<=(T)/\env 4=.int .i64 (k:Int)/\((σ.next+2<=st.next/\(∀x:Id,x.bH<σ.next->st.get x=σ.get x)/\st.get ⟨26001005,σ.next+1⟩=some ⟨true,2,L.map dU⟩/\st.get ⟨26000000,σ.next⟩=some ⟨true,2,[[.ck,.ck]]⟩/\∃v,st.get ⟨26001007,σ.next+1⟩=some ⟨true,2,[[.own ⟨26001005,σ.next+1⟩ 0 G,v]]⟩/\CpT (σ.next+2) st.get st.next X k v))) (T) ⟨0,ae,ae,sl @g8,by(try dsimp only);exact⟨ae,fun x hx=>(by
   have h8:=cR hx
   simp only[go_sem,↓reduceIte,Nat.reduceEqDiff,Nat.reduceAdd,Nat.reduceSub,Nat.reduceLeDiff,reduceCtorEq,h8]),sd @g8,sd @g8,.ck,sd @g8,.inl ⟨rfl,rfl⟩⟩⟩ ?_
 rintro n_a m3 i8 ⟨k,rfl,ale,a4,mD⟩ eC;have a0:=eC 0 g9;have a2:=eC 2 g9;have a3:=eC 3 g9;simp only[go_sem,↓reduceIte,Nat.reduceEqDiff,Nat.reduceAdd,Nat.reduceSub,Nat.reduceLeDiff,reduceCtorEq]at a0 a2 a3;clear eC;obtain⟨aN,aO,aG,aR,v,aB,aV⟩:=mD;have xY:=(aO B QI).trans hB
 by_cases hk:(k:Int)<(T:Int)
 ·have dW:∀{e:Env} {gg:Rows} {nx:Nat},(e 4=.int .i64 (IntKind.i64.wrap ((k:Int)+1)))->((σ.next+2<=nx/\(∀x:Id,x.bH<σ.next->gg x=σ.get x)/\gg ⟨26001005,σ.next+1⟩=some ⟨true,2,L.map dU⟩/\gg ⟨26000000,σ.next⟩=some ⟨true,2,[[.ck,.ck]]⟩/\∃v,gg ⟨26001007,σ.next+1⟩=some ⟨true,2,[[.own ⟨26001005,σ.next+1⟩ 0 G,v]]⟩/\CpT (σ.next+2) gg nx X (k+1) v))->∃m0,m0<(T)-k/\∃k:Nat,m0=(T)-k/\k<=(T)/\e 4=.int .i64 (k:Int)/\((σ.next+2<=nx/\(∀x:Id,x.bH<σ.next->gg x=σ.get x)/\gg ⟨26001005,σ.next+1⟩=some ⟨true,2,L.map dU⟩/\gg ⟨26000000,σ.next⟩=some ⟨true,2,[[.ck,.ck]]⟩/\∃v,gg ⟨26001007,σ.next+1⟩=some ⟨true,2,[[.own ⟨26001005,σ.next+1⟩ 0 G,v]]⟩/\CpT (σ.next+2) gg nx X k v)):=fun x1 x2=>⟨_,ae,k+1,rfl,ae,(by rw[x1,aZ ae]),x2⟩;have PX:k<X.length:=ae;obtain⟨e,eP,⟨_,j3,hl4,hE,e0,e1,gE⟩,_⟩:=hT.get PX;rw[List.getElem?_take_of_lt ae]at eP;have sZ:=(aO o ov).trans ho;have jV:=(aO e e1).trans gE;have vE:=cR (i:=e) (n:=i8.next) ae;have vBa:=cR (i:=B) (n:=i8.next) ae;have vOa:=cR (i:=o) (n:=i8.next) ae;have vb5:=cR (i:=(⟨26001005,σ.next+1⟩:Id)) (n:=i8.next) aI;have vb0:=cR (i:=(⟨26000000,σ.next⟩:Id)) (n:=i8.next) aI;have Xt:=cR (i:=(⟨26001007,σ.next+1⟩:Id)) (n:=i8.next) aI;have wM:=K6 X[k].de hl4;have lh:(X.take (k+1)).map dp=(X.take k).map dp++[dp X[k]]:=by rw[List.take_succ_eq_append_getElem PX,List.map_append];rfl
  have KM:((X.take k).map dp).length=k:=by simp;omega
  have Mg:4=X[k].de.length:=hl4.symm;rw[dp]at lh;generalize X[k].bL=nm at eP lh;generalize X[k].de=l at gE jV wM lh Mg;have Je:∀g:Rows,g e=some ⟨true,1,l.map bf⟩->eM (ef g) 6 [.own e 0 4]=some [.sl (l.map bf)]:=fun g h=>Vs (gj (e:=bf) (sz:=1) (n:=5) (by simp[ef,h]) Mg fun x=>by simp[bf,ah,aj,aL]);have qU:k<=16777215:=ae
  rcases aV with⟨qy,rfl⟩|⟨qy,o',rfl,go',jM,oK,osi⟩
  ·subst qy;(try((repeat(revert N;apply g7));refine wk (tw9 @a4 @a0 @a2 @a3 @hk @xY @sZ @eP (tw5 @aB @vBa @vOa @Xt @vE)) ?_;repeat(apply g6;intro N hN)));refine⟨_,au.x wM (Je _ (by simp only[go_sem,↓reduceIte,Nat.reduceEqDiff,Nat.reduceAdd,Nat.reduceSub,Nat.reduceLeDiff,reduceCtorEq,vE]<;>exact jV)),?_⟩;apply hN;clear hN N;(try((repeat(revert N;apply g7));refine wk (tw9 @a4 @a0 @a2 @a3 @hk @xY @sZ @eP (tw5 @aB @vBa @vOa @Xt @vE)) ?_;repeat(apply g6;intro N hN)))
   exact dW (sd (tw4 @a4 @a0 @a2 @a3)) (by(try dsimp only);exact⟨ae,fun x hx=>(by
    have h8:=cR (i:=x) (n:=i8.next) ae;have h9:=cR (i:=x) (n:=σ.next+1) ae
    simp only[go_sem,↓reduceIte,Nat.reduceEqDiff,Nat.reduceAdd,Nat.reduceSub,Nat.reduceLeDiff,reduceCtorEq,h8,h9]<;>exact aO x hx),by simp only[go_sem,↓reduceIte,Nat.reduceEqDiff,Nat.reduceAdd,Nat.reduceSub,Nat.reduceLeDiff,reduceCtorEq,vb5]<;>exact aG,by simp only[go_sem,↓reduceIte,Nat.reduceEqDiff,Nat.reduceAdd,Nat.reduceSub,Nat.reduceLeDiff,reduceCtorEq,vb0]<;>exact aR,.own ⟨26005021,i8.next+1⟩ 0 1,sl @g8,.inr ⟨Nat.zero_lt_one,⟨26005021,i8.next+1⟩,rfl,by rw[lh];simp only[go_sem,↓reduceIte,Nat.reduceEqDiff,Nat.reduceAdd,Nat.reduceSub,Nat.reduceLeDiff,reduceCtorEq,Xt]<;>rfl,aI,aI,rfl⟩⟩)
  ·have vn:=cR oK;have SP:(o'=(⟨26001007,σ.next+1⟩:Id))=False:=eq_false fun h=>by rw[h]at jM;(try dsimp only at jM);omega
   have P4:((⟨26001007,σ.next+1⟩:Id)=o')=False:=eq_false fun h=>by rw[<-h]at jM;(try dsimp only at jM);omega
   (try((repeat(revert N;apply g7));refine wk (tw9 @a4 @a0 @a2 @a3 @hk @xY @sZ @eP (tw5 @aB @vBa @vOa @Xt @vE)) ?_;repeat(apply g6;intro N hN)));refine⟨_,au.x wM (Je _ (by simp only[go_sem,↓reduceIte,Nat.reduceEqDiff,Nat.reduceAdd,Nat.reduceSub,Nat.reduceLeDiff,reduceCtorEq,vE]<;>exact jV)),?_⟩;apply hN;clear hN N;(try((repeat(revert N;apply g7));refine wk (tw9 @a4 @a0 @a2 @a3 @hk @xY @sZ @eP (tw9 @aB @vBa @vOa @Xt @vE @go' @vn @SP (tw3 @P4 @KM @qU))) ?_;repeat(apply g6;intro N hN)));have qW:∀y:Id,y.bH<σ.next+2->(y=o')=False:=fun y hy=>eq_false fun h=>by rw[h]at hy;omega
   exact dW (sd (tw4 @a4 @a0 @a2 @a3)) (by(try dsimp only);exact⟨ae,fun x hx=>(by
    have h8:=cR (i:=x) (n:=i8.next) ae;have h9:=cR (i:=x) (n:=σ.next+1) ae;have h7:=qW x ae
    simp only[go_sem,↓reduceIte,Nat.reduceEqDiff,Nat.reduceAdd,Nat.reduceSub,Nat.reduceLeDiff,reduceCtorEq,h8,h9,h7]<;>exact aO x hx),by have h7:=qW ⟨26001005,σ.next+1⟩ aI;simp only[go_sem,↓reduceIte,Nat.reduceEqDiff,Nat.reduceAdd,Nat.reduceSub,Nat.reduceLeDiff,reduceCtorEq,vb5,h7]<;>exact aG,by have h7:=qW ⟨26000000,σ.next⟩ aI;simp only[go_sem,↓reduceIte,Nat.reduceEqDiff,Nat.reduceAdd,Nat.reduceSub,Nat.reduceLeDiff,reduceCtorEq,vb0,h7]<;>exact aR,.own ⟨26005021,i8.next+1⟩ 0 (k+1),sl @g8,.inr ⟨ae,⟨26005021,i8.next+1⟩,rfl,by rw[lh];simp only[go_sem,↓reduceIte,Nat.reduceEqDiff,Nat.reduceAdd,Nat.reduceSub,Nat.reduceLeDiff,reduceCtorEq,Xt]<;>rfl,aI,aI,rfl⟩⟩)
 ·have PX:k=T:=ae;subst PX
  rcases aV with⟨qy,rfl⟩|⟨qy,o',rfl,go',jM,oK,osi⟩
  ·omega
  ·have hXt:X.take k=X:=by rw[<-KG];exact List.take_length
   rw[hXt]at go';(try((repeat(revert N;apply g7));refine wk (tw8 @a4 @a0 @a2 @a3 @hk @xY @aB @aR) ?_;repeat(apply g6;intro N hN)));have SP:∀s,(o'=(⟨s,σ.next⟩:Id))=False:=fun s=>eq_false fun h=>by rw[h]at jM;(try dsimp only at jM);omega
   exact eH (.inl rfl) (vs:=[.agg [.own ⟨26001005,σ.next+1⟩ 0 G,.own o' 0 k]]) (sd (tw4 @a4 @a0 @a2 @a3)) ⟨⟨26001005,σ.next+1⟩,o',rfl,by simp only[go_sem,↓reduceIte,Nat.reduceEqDiff,Nat.reduceAdd,Nat.reduceSub,Nat.reduceLeDiff,reduceCtorEq]<;>exact aG,by simp only[go_sem,↓reduceIte,Nat.reduceEqDiff,Nat.reduceAdd,Nat.reduceSub,Nat.reduceLeDiff,reduceCtorEq,SP]<;>exact go',eq_false fun h=>by rw[<-h]at jM;(try dsimp only at jM);omega,aI,aI,ae,aI,aI,fun x hx=>(by
    have h8:=cR hx
    simp only[go_sem,↓reduceIte,Nat.reduceEqDiff,Nat.reduceAdd,Nat.reduceSub,Nat.reduceLeDiff,reduceCtorEq,h8]<;>exact aO x hx)⟩
theorem Tq:decide (((⟨#[114]⟩:ByteArray)++eO ((3:Nat):Int))=(⟨#[114,52]⟩:ByteArray))=false:=by rw[EU ae];rfl
theorem Tr:decide (((⟨#[114]⟩:ByteArray)++eO ((4:Nat):Int))=(⟨#[114,52]⟩:ByteArray))=true:=by rw[EU ae];rfl
theorem AB.take {rs:List di} (h:AB rs) (k:Nat):AB (rs.take k):=fun j t hj=>by
 rw[List.getElem?_take]at hj
 split at hj
 ·exact h j t hj
 ·cases hj
def GV (g:Rows) (n0 n:Nat) (og o qB:Id) (G T:Nat) (rb rn:List Int) (rs:List di):Prop:=
 (1<=rb.length/\rb.length<=4/\1<=rn.length/\rn.length<=4)/\iC rb/\iC rn/\(AB rs/\4<=rs.length/\rs.length<=5)/\
 g og=some ⟨true,2,(iv rb rn).1.map dU⟩/\(iv rb rn).1.length=G/\(∃rows,g o=some ⟨true,2,rows⟩/\T<=rows.length/\((iv rb rn).2++rs).length=T/\TX iW n0 g n (rows.take T) ((iv rb rn).2++rs))/\¬iW o.site/\(n0<=og.bH/\og.bH<n/\n0<=o.bH/\o.bH<n)/\g qB=some ⟨true,3,[ad ⟨⟨0,0⟩,0⟩]⟩/\n0<=qB.bH/\qB.bH<n
theorem GV.frame {g g':Rows} {n0 n n':Nat} {og o qB:Id} {G T:Nat} {rb rn:List Int} {rs:List di} (h:GV g n0 n og o qB G T rb rn rs) (hn:n<=n') (hf:∀x:Id,n0<=x.bH->x.bH<n->g' x=g x):GV g' n0 n' og o qB G T rb rn rs:=by
 obtain⟨h1,h2,h3,h4,h5,h6,⟨rows,h7,h8,h9,we⟩,Ur,⟨a,b,c,d⟩,h12,h13,h14⟩:=h;exact⟨h1,h2,h3,h4,(hf _ a b).trans h5,h6,⟨rows,(hf _ c d).trans h7,h8,h9,we.frame hn fun i _ x y=>hf i x y⟩,Ur,⟨a,ae,c,ae⟩,(hf _ h13 h14).trans h12,h13,ae⟩
def qk (n0:Nat) (g:Rows) (n:Nat) (Xs:List di) (lo k:Nat) (rows:List (List AV)):Prop:=rows.length=Xs.length/\∀(j:Nat) (t:di),Xs[j]? =some t->((j<lo∨k<=j)->rows[j]? =some (dp t))/\(lo<=j->j<k->∃e:Id,rows[j]? =some [.str t.bL,.own e 0 4]/\g e=some ⟨true,1,([0,0,0,0]:List Int).map bf⟩/\n0<=e.bH/\e.bH<n/\e.site=25010004)
section
variable {n0 n n' lo k:Nat} {g g':Rows} {Xs:List di} {rows:List (List AV)}
theorem qk.start:qk n0 g n Xs lo 0 (Xs.map dp):=⟨by simp,fun j t hj=>⟨fun _=>by rw[List.getElem?_map,hj];rfl,fun _ h=>ae⟩⟩
theorem qk.skip (h:qk n0 g n Xs lo k rows) (hk:k<lo):qk n0 g n Xs lo (k+1) rows:=⟨h.1,fun j t hj=>⟨fun h1=>(h.2 j t hj).1 ae,fun h1 h2=>(h.2 j t hj).2 h1 ae⟩⟩
theorem qk.frame (h:qk n0 g n Xs lo k rows) (hn:n<=n') (hf:∀x:Id,x.site=25010004->n0<=x.bH->x.bH<n->g' x=g x):qk n0 g' n' Xs lo k rows:=⟨h.1,fun j t hj=>⟨(h.2 j t hj).1,fun h1 h2=>by
 obtain⟨e,a1,a2,a3,a4,a5⟩:=(h.2 j t hj).2 h1 h2
 exact⟨e,a1,(hf e a5 a3 a4).trans a2,a3,ae,a5⟩⟩⟩
theorem qk.put (h:qk n0 g n Xs lo k rows) (lp:lo<=k) {t:di} (ht:Xs[k]? =some t) (hn:n<=n') (hf:∀x:Id,x.site=25010004->n0<=x.bH->x.bH<n->g' x=g x) {e:Id} (he:g' e=some ⟨true,1,([0,0,0,0]:List Int).map bf⟩) (h1:n0<=e.bH) (h2:e.bH<n') (h3:e.site=25010004):qk n0 g' n' Xs lo (k+1) (rows.set k [.str t.bL,.own e 0 4]):=by
 have h':=h.frame hn hf;have l8:k<Xs.length:=(List.getElem?_eq_some_iff.1 ht).1;refine⟨by rw[List.length_set];exact h.1,fun j u hj=>⟨fun q=>?_,fun q1 q2=>?_⟩⟩
 ·rw[List.getElem?_set_ne ae];exact(h'.2 j u hj).1 ae
 ·by_cases Df:j=k
  ·subst Df;rw[ht]at hj
   cases hj
   exact⟨e,by rw[List.getElem?_set_self (by rw[h.1];exact l8)],he,h1,h2,h3⟩
  ·rw[List.getElem?_set_ne (fun e=>Df e.symm)];exact(h'.2 j u hj).2 q1 ae
end
theorem C5 {g:Rows} {n:Nat} {id:Id} {off len sz:Nat} {rows rows':List (List AV)} (h:g id=some ⟨true,sz,rows⟩) (hl:off+len<=rows.length) (hr:jn g n ((rows.drop off).take len)=some rows'):V.fz g (n+1) (.own id off len)=some (.sl rows'):=by
 rw[V.fz];simp only[h,if_true,if_pos hl,hr,Option.map_some]
theorem wH {g:Rows} {n:Nat}:∀{rows out:List (List AV)},rows.length=out.length->(∀(j:Nat) (r o:List AV),rows[j]? =some r->out[j]? =some o->eM g n r=some o)->jn g n rows=some out
 |[],[],_,_=>xu g n
 |[],_::_,h,_=>by cases h
 |_::_,[],h,_=>by cases h
 |r::rows,o::out,h,k=>by
  rw[uJ,k 0 r o rfl rfl,wH (by simpa using h) fun j r' o' a b=>k (j+1) r' o' a b]
  rfl
theorem qk.fz {n0 n:Nat} {g:Rows} {P F:List di} {rows:List (List AV)} (h:qk n0 g n (P++F) P.length (P++F).length rows) (m:Nat):jn (ef g) (m+2) rows=some ((P++F.map lM).map dp):=by
 refine wH (by rw[h.1];simp) fun j r o hr ho=>?_;rw[List.getElem?_map]at ho
 by_cases hj:j<P.length
 ·rw[List.getElem?_append_left hj]at ho;have h1:=(h.2 j P[j] (by rw[List.getElem?_append_left hj,i5 hj])).1 (.inl hj);rw[i5 hj]at ho;rw[hr]at h1
  cases ho
  rw[Option.some.inj h1];simp[dp,ah,aj,bj,bP]
 ·rw[List.getElem?_append_right ae]at ho
  have iL:j<(P++F).length:=by
   have:=(List.getElem?_eq_some_iff.1 hr).1;rw[h.1]at this;exact this
  have hjf:j-P.length<F.length:=by rw[i6]at iL;omega
  obtain⟨e,h1,h2,_⟩:=(h.2 j F[j-P.length] (by rw[List.getElem?_append_right ae,i5 hjf])).2 ae iL;rw[List.getElem?_map,i5 hjf]at ho;rw[hr]at h1
  cases ho
  rw[Option.some.inj h1];have h3:V.fz (ef g) (m+2) (.own e 0 4)=some (.sl (([0,0,0,0]:List Int).map bf)):=gj (e:=bf) (sz:=1) (n:=m+1) (by simp[ef,h2]) rfl fun x=>by simp[bf,ah,aj,aL]
  rw[ah,bj,ah,h3,aj]
  rfl
def jE (rb rn:List Int) (ft:List di):ar:=⟨⟨(iv rb rn).1,(iv rb rn).2++ft.map lM⟩,⟨[⟨⟨0,0⟩,0⟩]⟩,2⟩
theorem SA {rb rn:List Int} {ft:List di} (l0:1<=rb.length) (l1:rb.length<=4) (l2:1<=rn.length) (l3:rn.length<=4) (hb:iC rb) (hn:iC rn) (hf:AB ft) (hl:ft.length<=5):lW (jE rb rn ft):=by
 have hS:gz (jE rb rn ft).ay:=ES l0 l1 l2 l3 hb hn hf.none (by rw[List.length_map];exact hl);exact⟨hS,OY hS,Nat.le_refl _,rfl,Pb _ _ _⟩
def Xu (X:Id) (σ:aw) (r:AV) (σ':aw):Prop:=∃(n0:Nat) (og o qB:Id) (G T:Nat) (rb rn:List Int) (rs:List di) (v:AV) (K:List aa),r=.agg [.own og 0 G,.own o 0 T,v,.int .i64 2]/\GV σ'.get n0 σ'.next og o qB G T rb rn rs/\σ.next<=n0/\K.length<=500/\(v=.own qB 0 1/\K=[⟨⟨0,0⟩,0⟩]∨v=.sl (K.map ad))/\(K=[⟨⟨0,0⟩,0⟩]∨∃es,od (jE rb rn rs) [] 20=some es/\K=dx (jE rb rn rs) es es.length)/\σ.next<=σ'.next/\∀x:Id,x≠X->x.bH<σ.next->σ'.get x=σ.get x
theorem FU (bs:List Int) (hb:∀b∈bs,0<=b/\b<=255) (iy:bs.length<=4096) (X:Id) (A:Nat) (ha:A<=800000) (σ:aw) (h:eZ σ.get X bs A) (hX:X.bH<σ.next):
  Call Tryz.prog 25 [.ptr X 0 0] σ (Xu X σ):=by
 refine fG fx rfl fun fM=>?_;clear fM;have vX:=cR hX;(try((repeat(revert N;apply g7));refine wk @g8 ?_;repeat(apply g6;intro N hN)))
 refine .inr (ax _ _ _ _ _ (fun r σ1 hq=>?_) (xF bs hb iy X A ae _ (by
  obtain⟨a,z,q1,q2⟩:=h
  exact⟨a,z,q1,by simp only[go_sem,↓reduceIte,Nat.reduceEqDiff,Nat.reduceAdd,Nat.reduceSub,Nat.reduceLeDiff,reduceCtorEq,vX]<;>exact q2⟩) aI))
 obtain⟨og,ot,qB,G,T2,rows,rb,rn,rs,rfl,⟨l0,l1,l2,l3,l4⟩,SQ,NJ,⟨tF,hr4,hr5⟩,mu,hL,gt,KG,hR,hE,⟨gv0,gv1,tv0,tv1⟩,gsd,⟨sv0,sv1⟩,h1,hK⟩:=hq;obtain⟨g1,x1⟩:=σ1;(try dsimp only at mu gt hR gv0 gv1 tv0 tv1 gsd sv0 sv1 h1);have Eo:=hK.1;(try dsimp only at Eo);have lO:=hK.2 ⟨25000000,σ.next⟩ (fun e=>by rw[<-e]at hX;(try dsimp only at hX);omega) aI;have qS:∀i:Id,i≠X->i.bH<σ.next->g1 i=σ.get i:=fun i hi hv=>(hK.2 i hi aI).trans (by have hv:=cR hv;simp only[go_sem,↓reduceIte,Nat.reduceEqDiff,Nat.reduceAdd,Nat.reduceSub,Nat.reduceLeDiff,reduceCtorEq,hv]);simp only[go_sem,↓reduceIte,Nat.reduceEqDiff,Nat.reduceAdd,Nat.reduceSub,Nat.reduceLeDiff,reduceCtorEq]at lO;clear hK h;have UJ:=jz rb rn;have hr:rows.length=T2:=hR.len.trans KG;have hT7:T2=rb.length+rn.length+1+rs.length:=by rw[<-KG,i6,UJ]
 have Db:∀k,4<=k->k<=rs.length->GV g1 (σ.next+1+1) x1 og ot qB G (rb.length+rn.length+1+k) rb rn (rs.take k):=fun k k1 k2=>by
  have e1:(iv rb rn).2++rs=(iv rb rn).2++rs.take k++rs.drop k:=by rw[List.append_assoc,List.take_append_drop]
  rw[e1]at hR;have e2:=hR.take;rw[i6,List.length_take,UJ,Nat.min_eq_left k2]at e2;exact⟨⟨l0,l1,l2,l3⟩,SQ,NJ,⟨tF.take k,by rw[List.length_take];omega,by rw[List.length_take];omega⟩,mu,hL,⟨rows,gt,ae,by rw[i6,List.length_take,UJ];omega,e2⟩,hE,⟨gv0,gv1,tv0,tv1⟩,gsd,sv0,sv1⟩
 have YC:∃nm e,rows[T2-1]? =some [.str nm,.own e 0 4]/\nm=(⟨#[114]⟩:ByteArray)++eO ((rs.length-1:Nat):Int)/\e.bH<x1:=by
  obtain⟨e,h1,h2,_⟩:=hR.get (show T2-1<((iv rb rn).2++rs).length by omega)
  have h3:((iv rb rn).2++rs)[T2-1]? =some rs[rs.length-1]:=by
   rw[List.getElem?_append_right ae,UJ,show T2-1-(rb.length+rn.length+1)=rs.length-1 by omega,i5 ae]
  rw[i5 ae]at h3;have h4:=Option.some.inj h3;rw[h4]at h1 h2;exact⟨_,e,h1,(tF _ _ (i5 (show rs.length-1<rs.length by omega))).1,h2.2.2.2.2.2.1⟩
 obtain⟨nm,eL,eP,j3,eLv⟩:=YC;have qX:IntKind.i64.wrap ((T2:Int)-1)=((T2-1:Nat):Int):=(db ae).trans ae;have h4T:(4:Int)<(T2:Int):=ae;have XW:((T2-1:Nat):Int)<(T2:Int):=ae;have d4T:decide ((4:Int)<(T2:Int))=true:=decide_eq_true h4T;have vo:=cR tv1;apply hN;clear hN N
 have hM:∀(e:Env) (s:aw),(e 0=.ptr X 0 0/\e 2=.ptr ⟨25000000,σ.next⟩ 0 0/\e 3=.ptr ⟨25001002,x1⟩ 0 0/\s.next=x1+1/\(∀x:Id,x.bH<x1->s.get x=g1 x)/\s.get ⟨25001002,x1⟩=some ⟨true,4,[[.own og 0 G,.own ot 0 T2,.own qB 0 1,.int .i64 2]]⟩)->N e s:=by
  rintro e ⟨g,n⟩ ⟨e0,e2,e3,rfl,hg,gB⟩;(try dsimp only at hg gB);apply hN;clear hN N;apply hN;clear hN N;refine Cv fun N hN=>?_;have QT:=(hg ot ae).trans gt;refine mb (fun e st=>e 0=.ptr X 0 0/\e 2=.ptr ⟨25000000,σ.next⟩ 0 0/\e 3=.ptr ⟨25001002,x1⟩ 0 0/\x1+1<=st.next/\(∀x:Id,x≠X->x.bH<x1->st.get x=g1 x)/\∃k,4<=k/\k<=rs.length/\st.get ⟨25001002,x1⟩=some ⟨true,4,[[.own og 0 G,.own ot 0 (rb.length+rn.length+1+k),.own qB 0 1,.int .i64 2]]⟩) ?_ ?_
  ·rintro e ⟨g2,x2⟩ ⟨f0,f2,f3,qf,hO,k,k4,k5,Nj⟩;(try dsimp only at qf hO Nj);have hC:=(Db k k4 k5).frame (g':=g2) (n':=x1) i4 fun x a b=>hO x (fun h=>by rw[h]at a;omega) b;have gR2:=(hO ⟨25000000,σ.next⟩ (fun e=>by rw[<-e]at hX;(try dsimp only at hX);omega) aI).trans lO;have L9:∀x:Id,x≠X->x.bH<σ.next->g2 x=σ.get x:=fun x h1 h2=>(hO x h1 ae).trans (qS x h1 h2);have Jm:x1<x2:=ae;clear Db hO gt hR mu gsd h1 qS QT eP hg gB hr;apply hN;clear hN N;generalize rs.take k=ft at hC
   obtain⟨T,hT⟩:∃T,rb.length+rn.length+1+k=T:=⟨_,rfl⟩
   rw[hT]at Nj hC;(try((repeat(revert N;apply g7));refine wk (tw4 @f0 @f2 @f3 @Nj) ?_;repeat(apply g6;intro N hN)));obtain⟨_,_,_,⟨Yp,hf4,W7⟩,cg,cG,⟨rows,ct,ZS,cT,cX⟩,cE,⟨cgv0,cgv1,ctv0,ctv1⟩,cs,csv0,csv1⟩:=id hC;have vb:=cR (i:=(⟨25001002,x1⟩:Id)) (n:=x2) aI;have vg:=cR (i:=og) (n:=x2) ae;have vt:=cR (i:=ot) (n:=x2) ae;have hGn:=kD rb rn
   refine .inr (ax _ _ _ _ _ (fun r σ3 hq=>?_) (FM (B:=⟨25001002,x1⟩) (u:=.own qB 0 1) (v:=.int .i64 2) (og:=og) (o:=ot) (G:=G) (T:=T) (L:=(iv rb rn).1) (rows:=rows) (X:=(iv rb rn).2++ft) (E:=iW) (n0:=σ.next+1+1) (sd (tw @vb @Nj)) aI (by simp only[go_sem,↓reduceIte,Nat.reduceEqDiff,Nat.reduceAdd,Nat.reduceSub,Nat.reduceLeDiff,reduceCtorEq,vg]<;>exact cg) cG ae ae aI (by simp only[go_sem,↓reduceIte,Nat.reduceEqDiff,Nat.reduceAdd,Nat.reduceSub,Nat.reduceLeDiff,reduceCtorEq,vt]<;>exact ct) aI (cX.frame aI fun i _ a b=>(by
    have h8:=cR (i:=i) (n:=x2) ae
    simp only[go_sem,↓reduceIte,Nat.reduceEqDiff,Nat.reduceAdd,Nat.reduceSub,Nat.reduceLeDiff,reduceCtorEq,h8])) cT ZS ae ae))
   obtain⟨ag,ao,rfl,sX,W5,ju,eK,jx,Qm,ZO,KT,gQ⟩:=hq;obtain⟨g3,x3⟩:=σ3;(try dsimp only at sX W5 eK jx Qm ZO KT gQ)
   have b3:∀x:Id,x.bH<x2->g3 x=g2 x:=fun x hx=>by
    have h1:=gQ x ae;have h2:=cR hx;simp only[go_sem,↓reduceIte,Nat.reduceEqDiff,Nat.reduceAdd,Nat.reduceSub,Nat.reduceLeDiff,reduceCtorEq,h2]at h1;exact h1
   have k4:=gQ ⟨25004001,x2⟩ aI;simp only[go_sem,↓reduceIte,Nat.reduceEqDiff,Nat.reduceAdd,Nat.reduceSub,Nat.reduceLeDiff,reduceCtorEq]at k4;clear gQ;have XY:=hC.frame (g':=g3) (n':=x1) i4 fun x _ b=>b3 x ae;have gB3:=(b3 ⟨25001002,x1⟩ aI).trans Nj;have gR3:=(b3 ⟨25000000,σ.next⟩ aI).trans gR2;have hO3:∀x:Id,x≠X->x.bH<σ.next->g3 x=σ.get x:=fun x h1 h2=>(b3 x ae).trans (L9 x h1 h2);have KG:((iv rb rn).2++ft).length=T:=cT;clear cg ct cX cs b3 hC L9 gR2 Nj;apply hN;clear hN N;have hnr:=JK rb rn;have ez:=jz rb rn
   obtain⟨lo,lp⟩:∃lo,rb.length+rn.length+1=lo:=⟨_,rfl⟩
   have va:=cR ZO;have vA:=cR (i:=(⟨25004001,x2⟩:Id)) (n:=x3) aI;have nAo:((⟨25004001,x2⟩:Id)=ao)=False:=eq_false fun h=>by rw[<-h]at Qm;(try dsimp only at Qm);omega
   have noA:(ao=(⟨25004001,x2⟩:Id))=False:=eq_false fun h=>by rw[h]at Qm;(try dsimp only at Qm);omega
   have Yb:∀j,(h:j<((iv rb rn).2++ft).length)->∃c:UInt8,((iv rb rn).2++ft)[j].bL[0]? =some c/\decide ((c.toNat:Int)=114)=decide (lo<=j):=fun j h=>by
    by_cases hj:j<lo
    ·have e1:((iv rb rn).2++ft)[j]∈(iv rb rn).2:=by rw[List.getElem_append_left ae];exact List.getElem_mem _
     obtain⟨c,h1,h2⟩:=hnr _ e1;exact⟨c,SE h1,by rw[decide_eq_false (fun h=>h2 (UInt8.toNat_inj.1 (by show c.toNat=114;omega))),decide_eq_false ae]⟩
    ·have e1:((iv rb rn).2++ft)[j]∈ft:=by rw[List.getElem_append_right ae];exact List.getElem_mem _
     exact⟨114,SE (Yp.r _ e1),by rw[decide_eq_true (by omega:lo<=j)];rfl⟩
   (try((repeat(revert N;apply g7));refine wk (tw4 @f0 @f2 @f3 @k4) ?_;repeat(apply g6;intro N hN)))
   refine cj (fun n env st=>∃i:Nat,n=(T)-i/\i<=(T)/\env 5=.int .i64 (i:Int)/\((x3<=st.next/\st.get ⟨25004001,x2⟩=some ⟨true,4,[[.own ag 0 G,.own ao 0 T,.own qB 0 1,.int .i64 2]]⟩/\(∀x:Id,x.bH<x3->x≠ao->x≠⟨25004001,x2⟩->st.get x=g3 x)/\∃rows,st.get ao=some ⟨true,2,rows⟩/\qk x3 st.get st.next ((iv rb rn).2++ft) lo i rows))) (T) ⟨0,ae,ae,sl @g8,by(try dsimp only);exact⟨ae,sd @g8,fun x hx h1 h2=>(by
     have h8:=cR hx;have h9:=eq_false h2
     simp only[go_sem,↓reduceIte,Nat.reduceEqDiff,Nat.reduceAdd,Nat.reduceSub,Nat.reduceLeDiff,reduceCtorEq,h8,h9]),_,sl (tw3 @va @noA @W5),qk.start⟩⟩ ?_
   rintro n_a m3 i8 ⟨i,rfl,ale,a5,mD⟩ eC;have a0:=eC 0 g9;have a2:=eC 2 g9;have a3:=eC 3 g9;have a4:=eC 4 g9;simp only[go_sem,↓reduceIte,Nat.reduceEqDiff,Nat.reduceAdd,Nat.reduceSub,Nat.reduceLeDiff,reduceCtorEq]at a0 a2 a3 a4;clear eC;obtain⟨aN,aA,aO,rws,aT,aX⟩:=mD
   by_cases hi:(i:Int)<(T:Int)
   ·have dW:∀{e:Env} {gg:Rows} {nx:Nat},(e 5=.int .i64 (IntKind.i64.wrap ((i:Int)+1)))->((x3<=nx/\gg ⟨25004001,x2⟩=some ⟨true,4,[[.own ag 0 G,.own ao 0 T,.own qB 0 1,.int .i64 2]]⟩/\(∀x:Id,x.bH<x3->x≠ao->x≠⟨25004001,x2⟩->gg x=g3 x)/\∃rows,gg ao=some ⟨true,2,rows⟩/\qk x3 gg nx ((iv rb rn).2++ft) lo (i+1) rows))->∃m0,m0<(T)-i/\∃i:Nat,m0=(T)-i/\i<=(T)/\e 5=.int .i64 (i:Int)/\((x3<=nx/\gg ⟨25004001,x2⟩=some ⟨true,4,[[.own ag 0 G,.own ao 0 T,.own qB 0 1,.int .i64 2]]⟩/\(∀x:Id,x.bH<x3->x≠ao->x≠⟨25004001,x2⟩->gg x=g3 x)/\∃rows,gg ao=some ⟨true,2,rows⟩/\qk x3 gg nx ((iv rb rn).2++ft) lo i rows)):=fun x1 x2=>⟨_,ae,i+1,rfl,ae,(by rw[x1,aZ ae]),x2⟩;have S3:i<((iv rb rn).2++ft).length:=ae;obtain⟨c,uh,xC⟩:=Yb i S3;have AW:rws.length=T:=aX.1.trans KG;have SZ:=(aX.2 i _ (i5 S3)).1 (.inr i4);have hte:=i5 S3;generalize ((iv rb rn).2++ft)[i]=u at uh SZ hte;have AR:rws[i]? =some [.str u.bL,.sl (u.de.map bf)]:=SZ;have van:=cR (i:=ao) (n:=i8.next) ae;have vAn:=cR (i:=(⟨25004001,x2⟩:Id)) (n:=i8.next) aI
    by_cases hl:lo<=i
    ·rw[decide_eq_true hl]at xC;(try((repeat(revert N;apply g7));refine wk (tw9 @a5 @a0 @a2 @a3 @a4 @hi @aA @aT (tw8 @AR @AW @uh @xC @van @vAn @noA @nAo)) ?_;repeat(apply g6;intro N hN)))
     exact dW (sd (tw5 @a5 @a0 @a2 @a3 @a4)) (by(try dsimp only);exact⟨ae,by simp only[go_sem,↓reduceIte,Nat.reduceEqDiff,Nat.reduceAdd,Nat.reduceSub,Nat.reduceLeDiff,reduceCtorEq,vAn,nAo]<;>exact aA,fun x hx h1 h2=>(by
      have h8:=cR (i:=x) (n:=i8.next) ae;have h9:=eq_false h1
      simp only[go_sem,↓reduceIte,Nat.reduceEqDiff,Nat.reduceAdd,Nat.reduceSub,Nat.reduceLeDiff,reduceCtorEq,h8,h9]<;>exact aO x hx h1 h2),_,sl @van,aX.put hl hte ae (fun x hs h1 h2=>(by
      have h8:=cR (i:=x) (n:=i8.next) ae;have h9:(x=ao)=False:=eq_false fun h=>by rw[h]at h1;omega
      simp only[go_sem,↓reduceIte,Nat.reduceEqDiff,Nat.reduceAdd,Nat.reduceSub,Nat.reduceLeDiff,reduceCtorEq,h8,h9])) (sl @van) aI aI rfl⟩)
    ·rw[decide_eq_false hl]at xC;(try((repeat(revert N;apply g7));refine wk (tw9 @a5 @a0 @a2 @a3 @a4 @hi @aA @aT (tw4 @AR @AW @uh @xC)) ?_;repeat(apply g6;intro N hN)));exact dW (sd (tw5 @a5 @a0 @a2 @a3 @a4)) (by(try dsimp only);exact⟨ae,aA,aO,rws,aT,(aX.skip ae).frame ae fun _ _ _ _=>rfl⟩)
   ·have S3:i=T:=ae;subst S3;(try((repeat(revert N;apply g7));refine wk (tw8 @a5 @a0 @a2 @a3 @a4 @hi @aA @aT) ?_;repeat(apply g6;intro N hN)));have hP4:=SA l0 l1 l2 l3 SQ NJ Yp W7;have h4:=kh.cut mixed (.same _ (.ptr _ [.int .i64 2] (.ck (.same _ .nil)))) (BY (jE rb rn ft) hP4 [] (fun x hx=>by cases hx) (Nat.zero_le _) 20 ae);simp only[List.cons_append,List.nil_append]at h4;have e9:∀x:Id,x.bH<x2->i8.get x=g3 x:=fun x hx=>aO x ae (fun h=>by rw[h]at hx;omega) (fun h=>by rw[h]at hx;(try dsimp only at hx);omega);have hC4:=XY.frame (g':=i8.get) (n':=x1) i4 fun x _ b=>e9 x ae;obtain⟨_,_,_,_,_,_,_,_,_,ds0,ds1,ds2⟩:=id hC4;have eag:=(aO ag ae (fun h=>by have:=ju▸(h:(ag=ao));exact this) (fun h=>by rw[h]at eK;(try dsimp only at eK);omega)).trans sX;have z1:V.fz (ef i8.get) 5 (.own ag 0 G)=some (.sl ((iv rb rn).1.map dU)):=gj (e:=dU) (sz:=2) (n:=4) (by simp[ef,eag]) cG.symm fun x=>by simp[dU,ah,aj,bj,aL]
    have z2:V.fz (ef i8.get) 5 (.own ao 0 i)=some (.sl (((iv rb rn).2++ft.map lM).map dp)):=C5 (sz:=2) (rows:=rws) (by simp[ef,aT]) (by rw[aX.1,KG];omega) (by
     rw[List.drop_zero,List.take_of_length_le (by rw[aX.1,KG];omega)]
     exact qk.fz (n0:=x3) (n:=i8.next) (by rw[KG,ez,lp];exact aX) 2)
    have z3:V.fz (ef i8.get) 5 (.own qB 0 1)=some (.sl ([(⟨⟨0,0⟩,0⟩:aa)].map ad)):=gj (e:=ad) (sz:=3) (l:=[⟨⟨0,0⟩,0⟩]) (n:=4) (by simp[ef,ds0]) rfl fun x=>by simp[ad,ah,aj,aL]
    have SX:aK (jE rb rn ft)=[.sl ((iv rb rn).1.map dU),.sl (((iv rb rn).2++ft.map lM).map dp),.sl ([(⟨⟨0,0⟩,0⟩:aa)].map ad),.int .i64 2]:=rfl;have qe:(jE rb rn ft).cw.aq=[⟨⟨0,0⟩,0⟩]:=rfl;rw[SX,qe]at h4;have aA':ef i8.get ⟨25004001,x2⟩=some ⟨true,4,[[.own ag 0 G,.own ao 0 i,.own qB 0 1,.int .i64 2]]⟩:=by unfold ef;rw[aA];rfl
    have q1:eM (ef i8.get) 5 [.own ag 0 G,.own ao 0 i,.own qB 0 1,.int .i64 2]=some [.sl ((iv rb rn).1.map dU),.sl (((iv rb rn).2++ft.map lM).map dp),.sl ([(⟨⟨0,0⟩,0⟩:aa)].map ad),.int .i64 2]:=by rw[ah,z1,ah,z2,ah,z3,ah,aL,aj];rfl
    have q2:eM (ef i8.get) 5 [.own qB 0 1,.int .i64 2]=some [.sl ([(⟨⟨0,0⟩,0⟩:aa)].map ad),.int .i64 2]:=by rw[ah,z3,ah,aL,aj];rfl
    have p1:V.fz (ef i8.get) 6 (.ptr ⟨25004001,x2⟩ 0 0)=some (.dZ [.sl ((iv rb rn).1.map dU),.sl (((iv rb rn).2++ft.map lM).map dp),.sl ([(⟨⟨0,0⟩,0⟩:aa)].map ad),.int .i64 2]):=mO (off:=0) (i:=0) (cs:=[.own ag 0 G,.own ao 0 i,.own qB 0 1,.int .i64 2]) aA' rfl q1;have p2:V.fz (ef i8.get) 6 (.ptr ⟨25004001,x2⟩ 0 2)=some (.dZ [.sl ([(⟨⟨0,0⟩,0⟩:aa)].map ad),.int .i64 2]):=mO (off:=2) (i:=0) (cs:=[.own ag 0 G,.own ao 0 i,.own qB 0 1,.int .i64 2]) aA' rfl q2;have hc20:((20:Nat):Int)=20:=rfl;rw[hc20]at h4
    obtain⟨V5,hV5⟩:∃V,V=wI (jE rb rn ft) [] 20:=⟨_,rfl⟩
    rw[<-hV5]at h4;refine .inr (ax _ _ _ _ _ (fun r σ5 hq=>?_) (kh.x mixed h4 (QC p1 p2 (aM _ _) (aL _ _ _ _))));obtain⟨⟨b,U7⟩,h55⟩:=hq;subst h55;rw[hV5]at U7;have ZX:=(e9 ⟨25001002,x1⟩ aI).trans gB3;have ZY:=(e9 ⟨25000000,σ.next⟩ aI).trans gR3;have hO4:∀x:Id,x≠X->x.bH<σ.next->i8.get x=σ.get x:=fun x h1 h2=>(e9 x ae).trans (hO3 x h1 h2);have vb4:=cR (i:=(⟨25001002,x1⟩:Id)) (n:=i8.next) aI;have vr4:=cR (i:=(⟨25000000,σ.next⟩:Id)) (n:=i8.next) aI;apply hN;clear hN N
    cases hg:od (jE rb rn ft) [] 20 with
    |none=>
     rw[U7,show wI (jE rb rn ft) [] 20 b=.gG [.ck,.agg [.ck],.bool b,.int .i64 4] by unfold wI;rw[hg]];(try((repeat(revert N;apply g7));refine wk (tw9 @a5 @a0 @a2 @a3 @a4 @f2 @f3 @ZX (tw3 @ZY @vb4 @vr4)) ?_;repeat(apply g6;intro N hN)))
     exact eH (.inl rfl) (vs:=[.agg [.own og 0 G,.own ot 0 i,.own qB 0 1,.int .i64 2]]) (sd (tw9 @a5 @a0 @a2 @a3 @a4 @f2 @f3 @ZX (tw3 @ZY @vb4 @vr4))) ⟨σ.next+1+1,og,ot,qB,G,i,rb,rn,ft,.own qB 0 1,[⟨⟨0,0⟩,0⟩],rfl,hC4.frame aI (fun x h1 h2=>(by
      have h8:=cR (i:=x) (n:=i8.next) ae;have h9:∀s,(x=⟨s,σ.next⟩)=False:=fun s=>eq_false fun h=>by rw[h]at h1;(try dsimp only at h1);omega
      simp only[go_sem,↓reduceIte,Nat.reduceEqDiff,Nat.reduceAdd,Nat.reduceSub,Nat.reduceLeDiff,reduceCtorEq,h8,h9])),ae,by decide,.inl ⟨rfl,rfl⟩,.inl rfl,aI,fun x h1 h2=>(by
      have h8:=cR (i:=x) (n:=i8.next) ae;have h9:=cR h2
      simp only[go_sem,↓reduceIte,Nat.reduceEqDiff,Nat.reduceAdd,Nat.reduceSub,Nat.reduceLeDiff,reduceCtorEq,h8,h9]<;>exact hO4 x h1 h2)⟩
    |some es=>
     rw[U7,show wI (jE rb rn ft) [] 20 b=.gG [.sl (es.map ad),.agg [.sl ((dx (jE rb rn ft) es es.length).map ad)],.bool b,.int .i64 0] by unfold wI;rw[hg]];have hAs:=nk hP4 (es:=es) es.length i4 (rV hg).1;have hAf:=hAs.1.oG
     obtain⟨K,X4⟩:∃K,dx (jE rb rn ft) es es.length=K:=⟨_,rfl⟩
     rw[X4]at hAf ⊢;(try((repeat(revert N;apply g7));refine wk (tw9 @a5 @a0 @a2 @a3 @a4 @f2 @f3 @ZX (tw3 @ZY @vb4 @vr4)) ?_;repeat(apply g6;intro N hN)))
     exact eH (.inl rfl) (vs:=[.agg [.own og 0 G,.own ot 0 i,.sl (K.map ad),.int .i64 2]]) (sd (tw9 @a5 @a0 @a2 @a3 @a4 @f2 @f3 @ZX (tw3 @ZY @vb4 @vr4))) ⟨σ.next+1+1,og,ot,qB,G,i,rb,rn,ft,.sl (K.map ad),K,rfl,hC4.frame aI (fun x h1 h2=>(by
      have h8:=cR (i:=x) (n:=i8.next) ae;have h7:∀s,(x=⟨s,x1⟩)=False:=fun s=>eq_false fun h=>by rw[h]at h2;(try dsimp only at h2);omega
      have h9:∀s,(x=⟨s,σ.next⟩)=False:=fun s=>eq_false fun h=>by rw[h]at h1;(try dsimp only at h1);omega
      simp only[go_sem,↓reduceIte,Nat.reduceEqDiff,Nat.reduceAdd,Nat.reduceSub,Nat.reduceLeDiff,reduceCtorEq,h7,h8,h9])),ae,hAf,.inr rfl,.inr ⟨es,hg,X4.symm⟩,aI,fun x h1 h2=>(by
      have h8:=cR (i:=x) (n:=i8.next) ae;have h7:∀s,(x=⟨s,x1⟩)=False:=fun s=>eq_false fun h=>by rw[h]at h2;(try dsimp only at h2);omega
      have h9:=cR h2
      simp only[go_sem,↓reduceIte,Nat.reduceEqDiff,Nat.reduceAdd,Nat.reduceSub,Nat.reduceLeDiff,reduceCtorEq,h7,h8,h9]<;>exact hO4 x h1 h2)⟩
  ·intro N hN;have vob:=cR (i:=ot) (n:=x1) ae
   rcases(show rs.length=4∨rs.length=5 by omega)with h45|h45
   ·rw[h45]at j3;have hd:decide (nm=(⟨#[114,52]⟩:ByteArray))=false:=by rw[j3];exact Tq
    (try((repeat(revert N;apply g7));refine wk (tw9 @e0 @e2 @e3 @gB @d4T @h4T @QT @qX (tw4 @XW @eP @hd @hr)) ?_;repeat(apply g6;intro N hN)));have hT4:rb.length+rn.length+1+4=T2:=ae;exact⟨sd @e0,sd @e2,sd @e3,aI,fun x _ hx=>hg x hx,4,ae,ae,by rw[hT4];exact gB⟩
   ·rw[h45]at j3;have hd:decide (nm=(⟨#[114,52]⟩:ByteArray))=true:=by rw[j3];exact Tr
    (try((repeat(revert N;apply g7));refine wk (tw9 @e0 @e2 @e3 @gB @d4T @h4T @QT @qX (tw4 @XW @eP @hd @hr)) ?_;repeat(apply g6;intro N hN)))
    refine .inr (ax _ _ _ _ _ (fun r σ2 hq=>?_) (zS bs hb iy X 4 (A+100) ae _ (by
     obtain⟨za,zz,wN,gX⟩:=h1
     exact⟨za,zz,wN,(hg X ae).trans gX⟩)))
    obtain⟨b,rfl,_,hK⟩:=hq;obtain⟨g2,x2⟩:=σ2;have qf:=hK.1;(try dsimp only at qf);have Nj:=(hK.2 ⟨25001002,x1⟩ (fun e=>by rw[<-e]at hX;(try dsimp only at hX);omega) aI).trans gB;have L9:∀x:Id,x≠X->x.bH<x1->g2 x=g1 x:=fun x h1 h2=>(hK.2 x h1 aI).trans (hg x h2);(try dsimp only at Nj);clear hK;apply hN;clear hN N
    cases b
    ·have hgt2:=(L9 ot (fun h=>by rw[h]at tv0;(try dsimp only at tv0);omega) tv1).trans gt;have hle:((T2-1:Nat):Int)<=(T2:Int):=ae;(try((repeat(revert N;apply g7));refine wk (tw8 @e0 @e2 @e3 @Nj @qX @hgt2 @hle @hr) ?_;repeat(apply g6;intro N hN)));have hT4:rb.length+rn.length+1+4=T2-1:=ae
     exact⟨sd @e0,sd @e2,sd @e3,aI,fun x h1 h2=>(by
      have h8:=cR h2
      simp only[go_sem,↓reduceIte,Nat.reduceEqDiff,Nat.reduceAdd,Nat.reduceSub,Nat.reduceLeDiff,reduceCtorEq,h8]<;>exact L9 x h1 h2),4,ae,ae,by rw[hT4];simp only[go_sem,↓reduceIte,Nat.reduceEqDiff,Nat.reduceAdd,Nat.reduceSub,Nat.reduceLeDiff,reduceCtorEq]<;>rfl⟩
    ·(try((repeat(revert N;apply g7));refine wk (tw4 @e0 @e2 @e3 @Nj) ?_;repeat(apply g6;intro N hN)));have hT5:rb.length+rn.length+1+5=T2:=ae;exact⟨sd @e0,sd @e2,sd @e3,aI,L9,5,ae,ae,by rw[hT5];exact Nj⟩
 clear hN;revert hM;intro hN;(try((repeat(revert N;apply g7));refine wk @g8 ?_;repeat(apply g6;intro N hN)))
 exact⟨sd @g8,sd @g8,sd @g8,(by first|rfl|trivial),fun x hx=>(by
  have h8:=cR hx
  simp only[go_sem,↓reduceIte,Nat.reduceEqDiff,Nat.reduceAdd,Nat.reduceSub,Nat.reduceLeDiff,reduceCtorEq,h8]),sl @g8⟩
end V

namespace V
open Go.RowKit
theorem Li {n:Nat} {L:Nat->Nat} (he:∀i j,i<n->j<n->L i=L j):(leads n L).length<2:=by
 refine Classical.byContradiction fun hc=>?_;have uk:(leads n L).Nodup:=List.Pairwise.filter _ List.nodup_range;have h0:0<(leads n L).length:=ae;have h1:1<(leads n L).length:=ae;have m0:=List.mem_filter.1 (show(leads n L)[0]∈(List.range n).filter fun i=>L i==i from List.getElem_mem h0);have m1:=List.mem_filter.1 (show(leads n L)[1]∈(List.range n).filter fun i=>L i==i from List.getElem_mem h1);have e0:=eq_of_beq m0.2;have e1:=eq_of_beq m1.2;have:=he _ _ (List.mem_range.1 m0.1) (List.mem_range.1 m1.1);rw[e0,e1]at this;have:=(List.getElem_inj uk).1 this;omega
theorem Ob {s:aE} {l:List aa} {t:Int} (ht:1<=t) {i j:Nat} (hi:i<l.length) {d:Int} (hd:d=0∨d=1) (hj:ei l (bI (bc l i).aH d)=(j:Int)) (hb:t<=fQ s (bc l i).bK d (bc l j).bK):
  fH (bZ t (eI s l)) i=fH (bZ t (eI s l)) j:=by
 have hm:(⟨i,j,fQ s (bc l i).bK d (bc l j).bK⟩:PB)∈eI s l:=by
  unfold eI iV;rw[List.mem_flatMap];refine⟨i,List.mem_range.2 hi,?_⟩;unfold gL;rw[List.mem_flatMap];refine⟨(1-d).toNat,List.mem_range.2 ae,?_⟩;rw[show(1:Int)-(((1-d).toNat:Nat):Int)=d by omega];unfold lZ;rw[hj,Int.toNat_natCast,if_pos ⟨ae,ae⟩];exact List.mem_singleton.2 rfl
 exact Oa _ ⟨i,j,fQ s (bc l i).bK d (bc l j).bK⟩ (List.mem_filter.2 ⟨hm,decide_eq_true hb⟩)
structure J6 (s:aE) (m h:Nat):Prop where
 m1:1<=m/\m<=4
 h1:1<=h/\h<=4
 arm:∀i:Nat,i<=m+h->∃b:Int,(b=1∨b=2)/\(cU s (i:Int)).de=P8 m h i b
 str:∀i:Nat,i<m+2+h->(pq s (i:Int)).gV=if i<2 then 1 else 2
theorem IQ {rb rn:List Int} {ft:List di} (l0:1<=rb.length) (l1:rb.length<=4) (l2:1<=rn.length) (l3:rn.length<=4) (hb:iC rb) (hn:iC rn):J6 ⟨(iv rb rn).1,(iv rb rn).2++ft⟩ rb.length rn.length:=by
 have ht:=jz rb rn;refine⟨⟨l0,l1⟩,⟨l2,l3⟩,fun i hi=>?_,fun i hi=>?_⟩
 ·obtain⟨t,b,e1,e2,e3⟩:=Ip rb hb rn hn i hi;refine⟨b,e2,?_⟩;unfold cU;rw[Int.toNat_natCast,List.getD_eq_getElem?_getD,List.getElem?_append_left ae,e1];exact e3
 ·have wh:i<(iv rb rn).1.length:=by rw[kD];omega
  have:=DV rb rn i _ (i5 wh);unfold pq;(try dsimp only);rw[Int.toNat_natCast,List.getD_eq_getElem?_getD,i5 wh];exact this
section
variable {s:aE} {m h:Nat} (X:J6 s m h)
include X
theorem J6.Zv {g:Int} (h0:3<=g) (h1:g<=m+h+2):pK s g=2:=by
 unfold pK;rw[if_neg ae];have:=X.str (g-1).toNat ae;rw[show(((g-1).toNat:Nat):Int)=g-1 by omega]at this;rw[this,if_neg ae]
theorem J6.jh {t:Int} (h0:0<=t) (ht:t<=m+h):
  (t=0/\cV (cU s t) 0=m+3/\cV (cU s t) 1=3/\cV (cU s t) 2=0/\cV (cU s t) 3=0)∨
  (1<=t/\t<=m/\(cV (cU s t) 0=1∨cV (cU s t) 0=2)/\cV (cU s t) 1=(if t<m then t+3 else 0)/\cV (cU s t) 2=0/\cV (cU s t) 3=t+2)∨
  (m+1<=t/\t<=m+h/\cV (cU s t) 0=(if t<m+h then t+3 else 0)/\(cV (cU s t) 1=1∨cV (cU s t) 1=2)/\cV (cU s t) 2=t+2/\cV (cU s t) 3=0):=by
 have hm:=X.m1;have hh:=X.h1
 obtain⟨i,rfl⟩:∃i:Nat,t=(i:Int):=⟨t.toNat,ae⟩
 obtain⟨b,hb,e⟩:=X.arm i ae;unfold cV;rw[e];unfold P8
 by_cases h0:i=0
 ·subst h0
  left
  rw[if_pos rfl,if_pos (show 0<h by omega),if_pos (show 0<m by omega)];exact⟨rfl,rfl,rfl,rfl,rfl⟩
 ·rw[if_neg h0]
  right
  by_cases h1:i<=m
  ·left
   rw[if_pos h1];refine⟨ae,ae,hb,?_,rfl,rfl⟩
   by_cases h2:i<m
   ·rw[if_pos h2,if_pos ae];rfl
   ·rw[if_neg h2,if_neg ae];rfl
  ·right
   rw[if_neg h1];refine⟨ae,ae,?_,hb,rfl,rfl⟩
   by_cases h2:i<m+h
   ·rw[if_pos h2,if_pos ae];rfl
   ·rw[if_neg h2,if_neg ae];rfl
end
def TI (m h:Nat) (L:List aa) (x:aa):Prop:=
 x=⟨⟨0,0⟩,0⟩∨
 (∃a:Int,1<=a/\a<=m/\x=⟨⟨a,0⟩,a⟩/\(⟨⟨a-1,0⟩,a-1⟩:aa)∈L)∨
 (∃b:Int,1<=b/\b<=h/\x=⟨⟨0,b⟩,m+b⟩/\(⟨⟨0,b-1⟩,if b=1 then 0 else m+b-1⟩:aa)∈L)
theorem TI.more {m h:Nat} {L L':List aa} {x:aa} (hx:TI m h L x) (hs:∀y∈L,y∈L'):TI m h L' x:=by
 rcases hx with h1|⟨a,h1,h2,h3,h4⟩|⟨a,h1,h2,h3,h4⟩
 ·exact .inl h1
 ·exact .inr (.inl ⟨a,h1,h2,h3,hs _ h4⟩)
 ·exact .inr (.inr ⟨a,h1,h2,h3,hs _ h4⟩)
theorem MG {s:aE} {m h:Nat} (X:J6 s m h) {K:List aa} (hR:iJ K) (hK:∀x∈K,TI m h K x):pg s K 2<2:=by
 have hm:=X.m1;have hh:=X.h1
 obtain⟨Tg,YB⟩:∃f:Nat->Nat,f=fH (bZ 2 (eI s K)):=⟨_,rfl⟩
 have link:∀(x y:aa) (d:Int),(d=0∨d=1)->∀i j:Nat,(hi:i<K.length)->(hj:j<K.length)->K[i]=x->K[j]=y->bI x.aH d=y.aH->2<=fQ s x.bK d y.bK->Tg i=Tg j:=fun x y d hd i j hi hj e1 e2 ez hb=>by
  rw[YB];refine Ob (by decide) hi hd ?_ ?_
  ·rw[ev hi,e1,ez,<-e2,mY hR hj]
  ·rw[ev hi,ev hj,e1,e2];exact hb
 have XM:∀a:Nat,a<=m->∀i j:Nat,(hi:i<K.length)->(hj:j<K.length)->K[i]=⟨⟨(a:Int),0⟩,(a:Int)⟩->K[j]=⟨⟨0,0⟩,0⟩->Tg i=Tg j:=by
  intro a
  induction a with
  |zero=>intro _ i j hi hj e1 e2;have:=mY hR hi;have h2:=mY hR hj;rw[e1]at this;rw[e2]at h2;have h3:(i:Int)=j:=this.symm.trans h2;rw[show i=j by omega]
  |succ a ih=>
   intro ha i j hi hj e1 e2;have hc:=hK _ (List.getElem_mem hi);rw[e1]at hc
   have hp:(⟨⟨(a:Int),0⟩,(a:Int)⟩:aa)∈K:=by
    rcases hc with h1|⟨a',h1,h2,h3,h4⟩|⟨b,h1,h2,h3,h4⟩
    ·injection h1 with q1 q2;omega
    ·injection h3 with q1 q2
     rw[show a'-1=(a:Int) by omega]at h4;exact h4
    ·injection h3 with q1 q2;injection q1 with q3 q4;omega
   obtain⟨k,hk,ek⟩:=List.getElem_of_mem hp
   have hb:2<=fQ s (a:Int) 1 ((a:Int)+1):=by
    unfold fQ;have s1:=X.jh (t:=(a:Int)) ae ae;have s2:=X.jh (t:=(a:Int)+1) ae ae
    have e3:cV (cU s (a:Int)) 1=(a:Int)+3:=by
     rcases s1 with q|q|q
     ·omega
     ·have:=q.2.2.2.1;rw[if_pos ae]at this;exact this
     ·omega
    have e4:cV (cU s ((a:Int)+1)) (kH 1)=(a:Int)+3:=by
     show cV (cU s ((a:Int)+1)) 3= _
     rcases s2 with q|q|q<;>omega
    rw[e3,e4,if_pos rfl,X.Zv ae ae];exact Int.le_refl _
   have h1:=link ⟨⟨(a:Int),0⟩,(a:Int)⟩ ⟨⟨((a+1:Nat):Int),0⟩,((a+1:Nat):Int)⟩ 1 (.inr rfl) k i hk hi ek e1 (by
    show(⟨(a:Int)+1,0⟩:af)=⟨((a+1:Nat):Int),0⟩
    rw[show((a+1:Nat):Int)=(a:Int)+1 by omega]) (by
    rw[show((a+1:Nat):Int)=(a:Int)+1 by omega];exact hb)
   exact h1.symm.trans (ih ae k j hk hj ek e2)
 have Zf:∀b:Nat,b<=h->∀i j:Nat,(hi:i<K.length)->(hj:j<K.length)->K[i]=⟨⟨0,(b:Int)⟩,if b=0 then 0 else m+b⟩->K[j]=⟨⟨0,0⟩,0⟩->Tg i=Tg j:=by
  intro b
  induction b with
  |zero=>intro _ i j hi hj e1 e2;have:=mY hR hi;have h2:=mY hR hj;rw[e1]at this;rw[e2]at h2;have h3:(i:Int)=j:=this.symm.trans h2;rw[show i=j by omega]
  |succ b ih=>
   intro BI i j hi hj e1 e2;rw[if_neg ae]at e1;have hc:=hK _ (List.getElem_mem hi);rw[e1]at hc
   have hp:(⟨⟨0,(b:Int)⟩,if b=0 then 0 else m+b⟩:aa)∈K:=by
    rcases hc with h1|⟨a',h1,h2,h3,h4⟩|⟨b',h1,h2,h3,h4⟩
    ·injection h1 with q1 q2;injection q1 with q3 q4;omega
    ·injection h3 with q1 q2;injection q1 with q3 q4;omega
    ·injection h3 with q1 q2;injection q1 with q3 q4
     rw[show b'=(b:Int)+1 by omega]at h4;rw[show(b:Int)+1-1=b by omega]at h4
     by_cases hz:b=0
     ·subst hz;rw[if_pos rfl];exact h4
     ·rw[if_neg hz];rw[if_neg ae,show(m:Int)+((b:Int)+1)-1=m+b by omega]at h4;exact h4
   obtain⟨k,hk,ek⟩:=List.getElem_of_mem hp
   have hb:2<=fQ s (if b=0 then 0 else(m:Int)+b) 0 ((m:Int)+b+1):=by
    unfold fQ;have s2:=X.jh (t:=(m:Int)+b+1) ae ae
    have e4:cV (cU s ((m:Int)+b+1)) (kH 0)=(m:Int)+b+3:=by
     show cV (cU s ((m:Int)+b+1)) 2= _
     rcases s2 with q|q|q<;>omega
    have e3:cV (cU s (if b=0 then 0 else(m:Int)+b)) 0=(m:Int)+b+3:=by
     by_cases hz:b=0
     ·rw[if_pos hz]
      rcases X.jh (t:=0) ae ae with q|q|q<;>omega
     ·rw[if_neg hz]
      rcases X.jh (t:=(m:Int)+b) ae ae with q|q|q
      ·omega
      ·omega
      ·have:=q.2.2.1;rw[if_pos ae]at this;exact this
    rw[e3,e4,if_pos rfl,X.Zv ae ae];exact Int.le_refl _
   have h1:=link ⟨⟨0,(b:Int)⟩,if b=0 then 0 else m+b⟩ ⟨⟨0,((b+1:Nat):Int)⟩,(m:Int)+((b+1:Nat):Int)⟩ 0 (.inl rfl) k i hk hi ek e1 (by
    show(⟨0,(b:Int)+1⟩:af)=⟨0,((b+1:Nat):Int)⟩
    rw[show((b+1:Nat):Int)=(b:Int)+1 by omega]) (by
    rw[show(m:Int)+((b+1:Nat):Int)=(m:Int)+b+1 by omega];exact hb)
   exact h1.symm.trans (ih ae k j hk hj ek e2)
 have root:∀a:Nat,(⟨⟨(a:Int),0⟩,(a:Int)⟩:aa)∈K->(⟨⟨0,0⟩,0⟩:aa)∈K:=by
  intro a
  induction a with
  |zero=>exact fun h=>h
  |succ a ih=>
   intro hx
   rcases hK _ hx with h1|⟨a',h1,h2,h3,h4⟩|⟨b',h1,h2,h3,h4⟩
   ·injection h1 with q1 q2;omega
   ·injection h3 with q1 q2
    rw[show a'-1=(a:Int) by omega]at h4;exact ih h4
   ·injection h3 with q1 q2;injection q1 with q3 q4;omega
 have Zp:∀b:Nat,(⟨⟨0,(b:Int)⟩,if b=0 then 0 else m+b⟩:aa)∈K->(⟨⟨0,0⟩,0⟩:aa)∈K:=by
  intro b
  induction b with
  |zero=>exact fun h=>h
  |succ b ih=>
   intro hx;rw[if_neg ae]at hx
   rcases hK _ hx with h1|⟨a',h1,h2,h3,h4⟩|⟨b',h1,h2,h3,h4⟩
   ·injection h1 with q1 q2;injection q1 with q3 q4;omega
   ·injection h3 with q1 q2;injection q1 with q3 q4;omega
   ·injection h3 with q1 q2;injection q1 with q3 q4
    refine ih ?_;rw[show b'=(b:Int)+1 by omega]at h4;rw[show(b:Int)+1-1=b by omega]at h4
    by_cases hz:b=0
    ·subst hz;rw[if_pos rfl];exact h4
    ·rw[if_neg hz];rw[if_neg ae,show(m:Int)+((b:Int)+1)-1=m+b by omega]at h4;exact h4
 unfold pg;rw[<-YB];refine Li fun i j hi hj=>?_
 have NP:(⟨⟨0,0⟩,0⟩:aa)∈K/\∀k:Nat,(hk:k<K.length)->∀r:Nat,(hr:r<K.length)->K[r]=⟨⟨0,0⟩,0⟩->Tg k=Tg r:=by
  refine⟨?_,fun k hk r hr er=>?_⟩
  ·rcases hK _ (List.getElem_mem hi)with h1|⟨a,h1,h2,h3,h4⟩|⟨b,h1,h2,h3,h4⟩
   ·rw[<-h1];exact List.getElem_mem hi
   ·exact root (a-1).toNat (by rw[show(((a-1).toNat:Nat):Int)=a-1 by omega];exact h4)
   ·refine Zp (b-1).toNat ?_;rw[show(((b-1).toNat:Nat):Int)=b-1 by omega]
    by_cases hz:b=1
    ·rw[if_pos ae];rw[if_pos hz]at h4;exact h4
    ·rw[if_neg ae];rw[if_neg hz]at h4;rw[show(m:Int)+(b-1)=m+b-1 by omega];exact h4
  ·rcases hK _ (List.getElem_mem hk)with h1|⟨a,h1,h2,h3,h4⟩|⟨b,h1,h2,h3,h4⟩
   ·exact XM 0 ae k r hk hr h1 er
   ·exact XM a.toNat ae k r hk hr (by rw[show((a.toNat:Nat):Int)=a by omega];exact h3) er
   ·exact Zf b.toNat ae k r hk hr (by rw[show((b.toNat:Nat):Int)=b by omega,if_neg ae];exact h3) er
 obtain⟨r,hr,er⟩:=List.getElem_of_mem NP.1;exact(NP.2 i hi r hr er).trans (NP.2 j hj r hr er).symm
theorem yA {s:aE} {L:List aa} {q:af} {t d:Int} (h:(if 0<=ej L q then fQ s t d (ej L q)else 0)≠0):∃y∈L,y.aH=q/\cV (cU s t) d=cV (cU s y.bK) (kH d)/\cV (cU s t) d≠0:=by
 split at h
 ·rename_i h0;obtain⟨y,hy,e1,e2⟩:=tO h0;rw[<-e2]at h;unfold fQ at h
  split at h
  ·rename_i he;refine⟨y,hy,e1,he,fun hz=>h ?_⟩;rw[hz];unfold pK;rw[if_pos rfl]
  ·exact absurd rfl h
 ·exact absurd rfl h
section
variable {s:ar} {m h:Nat} (X:J6 s.ay m h) (hz:∀t:Int,eE s.ay t=true->(m:Int)+h<t->cV (cU s.ay t) 2=0/\cV (cU s.ay t) 3=0/\cV (cU s.ay t) 0=0/\cV (cU s.ay t) 1=0) (hT:s.aQ=2)
include X hz hT
theorem Qu {L:List aa} (hA:fS s.ay L) (hI:∀x∈L,TI m h L x) {x:aa} (ht:eE s.ay x.bK=true) (hf:eu s L x.aH x.bK=true):TI m h L x:=by
 have hm:=X.m1;have hh:=X.h1;obtain⟨⟨a,b⟩,t⟩:=x;(try dsimp only at ht hf)
 have Fm:ej L ⟨a,b⟩<0:=by
  have h2:=hf;simp only[eu,Bool.and_eq_true,decide_eq_true_eq]at h2;exact h2.1.2
 have h2:2<=iT s.ay (ej L) ⟨a,b⟩ t:=by
  have h2:=hf;unfold eu at h2;rw[Bool.and_eq_true]at h2;rw[<-hT];exact of_decide_eq_true h2.2
 have YR:=(dV ht).1
 have hside:(t=0/\cV (cU s.ay t) 2=0/\cV (cU s.ay t) 3=0)∨(1<=t/\t<=m/\cV (cU s.ay t) 2=0/\cV (cU s.ay t) 3=t+2)∨(m+1<=t/\t<=m+h/\cV (cU s.ay t) 2=t+2/\cV (cU s.ay t) 3=0)∨(cV (cU s.ay t) 2=0/\cV (cU s.ay t) 3=0):=by
  by_cases hl:t<=m+h
  ·rcases X.jh YR hl with q|q|q
   ·exact .inl ⟨q.1,q.2.2.2.1,q.2.2.2.2⟩
   ·exact .inr (.inl ⟨q.1,q.2.1,q.2.2.2.2.1,q.2.2.2.2.2⟩)
   ·exact .inr (.inr (.inl ⟨q.1,q.2.1,q.2.2.2.2.1,q.2.2.2.2.2⟩))
  ·exact .inr (.inr (.inr ⟨(hz t ht ae).1,(hz t ht ae).2.1⟩))
 rw[Hb]at h2
 by_cases p0:(if 0<=ej L (bI ⟨a,b⟩ 0)then fQ s.ay t 0 (ej L (bI ⟨a,b⟩ 0))else 0)=0
 ·by_cases p1:(if 0<=ej L (bI ⟨a,b⟩ 1)then fQ s.ay t 1 (ej L (bI ⟨a,b⟩ 1))else 0)=0
  ·by_cases p2:(if 0<=ej L (bI ⟨a,b⟩ 2)then fQ s.ay t 2 (ej L (bI ⟨a,b⟩ 2))else 0)=0
   ·by_cases p3:(if 0<=ej L (bI ⟨a,b⟩ 3)then fQ s.ay t 3 (ej L (bI ⟨a,b⟩ 3))else 0)=0
    ·rw[p0,p1,p2,p3]at h2;exact absurd h2 (by decide)
    ·obtain⟨y,hy,e1,e2,e3⟩:=yA p3;have Qx:y.aH=⟨a-1,b⟩:=e1;have Ku:cV (cU s.ay t) 3=cV (cU s.ay y.bK) 1:=e2
     rcases hI y hy with h1|⟨a',h1,h3,h4,h5⟩|⟨b',h1,h3,h4,h5⟩
     ·subst h1;injection Qx with q1 q2
      rcases X.jh (t:=0) ae ae with q|q|q
      ·refine .inr (.inl ⟨1,ae,ae,?_,?_⟩)
       ·have:t=1:=by
         (try dsimp only at Ku);omega
        rw[this,show a=1 by omega,show b=0 by omega]
       ·exact hy
      ·omega
      ·omega
     ·subst h4;injection Qx with q1 q2
      (try dsimp only at Ku)
      rcases X.jh (t:=a') ae ae with q|q|q
      ·omega
      ·by_cases hl:a'<m
       ·have e5:=q.2.2.2.1;rw[if_pos hl]at e5;refine .inr (.inl ⟨a'+1,ae,ae,?_,?_⟩)
        ·rw[show t=a'+1 by omega,show a=a'+1 by omega,show b=0 by omega]
        ·rw[show a'+1-1=a' by omega];exact hy
       ·have e5:=q.2.2.2.1;rw[if_neg hl]at e5;omega
      ·omega
     ·subst h4;(try dsimp only at Ku)
      rcases X.jh (t:=m+b') ae ae with q|q|q
      ·omega
      ·omega
      ·omega
   ·obtain⟨y,hy,e1,e2,e3⟩:=yA p2;have Qx:y.aH=⟨a,b-1⟩:=e1;have Ku:cV (cU s.ay t) 2=cV (cU s.ay y.bK) 0:=e2
    rcases hI y hy with h1|⟨a',h1,h3,h4,h5⟩|⟨b',h1,h3,h4,h5⟩
    ·subst h1;injection Qx with q1 q2
     (try dsimp only at Ku)
     rcases X.jh (t:=0) ae ae with q|q|q
     ·refine .inr (.inr ⟨1,ae,ae,?_,?_⟩)
      ·rw[show t=m+1 by omega,show a=0 by omega,show b=1 by omega]
      ·rw[if_pos rfl];exact hy
     ·omega
     ·omega
    ·subst h4;(try dsimp only at Ku)
     rcases X.jh (t:=a') ae ae with q|q|q
     ·omega
     ·omega
     ·omega
    ·subst h4;injection Qx with q1 q2
     (try dsimp only at Ku)
     rcases X.jh (t:=m+b') ae ae with q|q|q
     ·omega
     ·omega
     ·by_cases hl:(m:Int)+b'<m+h
      ·have e5:=q.2.2.1;rw[if_pos hl]at e5;refine .inr (.inr ⟨b'+1,ae,ae,?_,?_⟩)
       ·rw[show t=m+(b'+1) by omega,show a=0 by omega,show b=b'+1 by omega]
       ·rw[if_neg ae,show b'+1-1=b' by omega,show(m:Int)+(b'+1)-1=m+b' by omega];exact hy
      ·have e5:=q.2.2.1;rw[if_neg hl]at e5;omega
  ·exfalso;obtain⟨y,hy,e1,e2,e3⟩:=yA p1;have Qx:y.aH=⟨a+1,b⟩:=e1;have Ku:cV (cU s.ay t) 1=cV (cU s.ay y.bK) 3:=e2
   rcases hI y hy with h1|⟨a',h1,h3,h4,h5⟩|⟨b',h1,h3,h4,h5⟩
   ·subst h1;(try dsimp only at Ku)
    rcases X.jh (t:=0) ae ae with q|q|q<;>omega
   ·subst h4;injection Qx with q1 q2
    exact I9 hA Fm h5 (by show(⟨a'-1,0⟩:af)=⟨a,b⟩;rw[show a'-1=a by omega,show b=0 by omega])
   ·subst h4;(try dsimp only at Ku)
    rcases X.jh (t:=m+b') ae ae with q|q|q<;>omega
 ·exfalso;obtain⟨y,hy,e1,e2,e3⟩:=yA p0;have Qx:y.aH=⟨a,b+1⟩:=e1;have Ku:cV (cU s.ay t) 0=cV (cU s.ay y.bK) 2:=e2
  rcases hI y hy with h1|⟨a',h1,h3,h4,h5⟩|⟨b',h1,h3,h4,h5⟩
  ·subst h1;(try dsimp only at Ku)
   rcases X.jh (t:=0) ae ae with q|q|q<;>omega
  ·subst h4;(try dsimp only at Ku)
   rcases X.jh (t:=a') ae ae with q|q|q<;>omega
  ·subst h4;injection Qx with q1 q2
   exact I9 hA Fm h5 (by show(⟨0,b'-1⟩:af)=⟨a,b⟩;rw[show a=0 by omega,show b'-1=b by omega])
theorem MV (hP:lW s) (qe:s.cw.aq=[⟨⟨0,0⟩,0⟩]) {ds:List aa} (hD:iI s ds):∀i,i<=ds.length->∀x∈dx s ds i,TI m h (dx s ds i) x
 |0,_,x,hx=>by
  rw[Ce,qe]at hx;exact .inl (List.mem_singleton.1 hx)
 |i+1,hi,x,hx=>by
  have ih:=MV hP qe hD i ae;have hg:=hD i ae;rw[j5,Bool.and_eq_true,RE,Bool.and_eq_true]at hg;have hA:=nk hP (es:=ds) i ae fun j hj=>hD j ae;rw[jg _ _ ae]at hx ⊢;have S5:∀y∈dx s ds i,y∈jB (dx s ds i) (bc ds i):=fun y hy=>jd.2 (.inr hy)
  rcases jd.1 hx with rfl|hx
  ·exact(Qu X hz hT hA ih hg.1.1 hg.1.2).more S5
  ·exact(ih x hx).more S5
end
end V
end Go.Proofs.YtoodopepphhpoaaGreatDoor
