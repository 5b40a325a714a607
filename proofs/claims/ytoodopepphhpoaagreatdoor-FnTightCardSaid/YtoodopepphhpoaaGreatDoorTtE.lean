/- The points around a crystal. -/
import Derived.Test.YtoodopepphhpoaaGreatDoorTtD
import Derived.Test.YtoodopepphhpoaaGreatDoorTtC
import Derived.Test.YtoodopepphhpoaaGreatDoorTtB
import Derived.RangeFuncNested
import Derived.RangeFuncBound
import Derived.RangeFuncCalls
import Derived.RangeFuncLeaves
import Derived.Shelf.Abstract
import Derived.Shelf.RegionOpen
import Derived.OwnWalkIn
import Derived.TacticsInMore
import Derived.LoopNIn
import Derived.LoopIn
import Derived.RangeFuncBox
import Derived.RangeFuncWrites
import Derived.Maps.AppendAt
import Derived.OrdersIn
set_option linter.unusedVariables false
set_option linter.unusedSimpArgs false
set_option maxRecDepth 100000
set_option maxHeartbeats 16000000
namespace Go.Proofs.YtoodopepphhpoaaGreatDoor
namespace V
open Go.RowKit
attribute [local irreducible] dY wpOps fm Call
def ja (p:af):Nat->List af
 |0=>[p]
 |d+1=>if s9 (bI p (d:Nat))=true then ja p d++[bI p (d:Nat)]else ja p d
def nC (l:List aa):List af:=l.flatMap fun t=>ja t.aH 4
theorem oD (p:af):∀d,0<(ja p d).length/\(ja p d).length<=d+1
 |0=>by simp[ja]
 |d+1=>by
  have:=oD p d;rw[ja]
  split<;>(try simp)<;>omega
theorem FZ (p x:af):∀d,x∈ja p d↔x=p∨∃k:Nat,k<d/\x=bI p k/\s9 x=true
 |0=>by simp[ja]
 |d+1=>by
  have ih:=FZ p x d;rw[ja]
  split
  ·rename_i h;rw[List.mem_append,ih,List.mem_singleton]
   constructor
   ·rintro((h1|⟨k,h1,h2⟩)|rfl)
    ·exact .inl h1
    ·exact .inr ⟨k,ae,h2⟩
    ·exact .inr ⟨d,ae,rfl,h⟩
   ·rintro(h1|⟨k,h1,h2,h3⟩)
    ·exact .inl (.inl h1)
    ·by_cases hk:k=d
     ·subst hk;exact .inr h2
     ·exact .inl (.inr ⟨k,ae,h2,h3⟩)
  ·rename_i h;rw[ih]
   constructor
   ·rintro(h1|⟨k,h1,h2⟩)
    ·exact .inl h1
    ·exact .inr ⟨k,ae,h2⟩
   ·rintro(h1|⟨k,h1,h2,h3⟩)
    ·exact .inl h1
    ·by_cases hk:k=d
     ·subst hk;rw[h2]at h3;exact absurd h3 h
     ·exact .inr ⟨k,ae,h2,h3⟩
theorem yz {l:List aa} {x:af}:x∈nC l↔∃t∈l,x=t.aH∨∃k:Nat,k<4/\x=bI t.aH k/\s9 x=true:=by
 unfold nC;rw[List.mem_flatMap];simp only[FZ]
theorem uo (l:List aa) (t:aa):nC (l++[t])=nC l++ja t.aH 4:=by simp[nC]
theorem yh:∀l:List aa,(nC l).length<=l.length*5
 |[]=>by simp[nC]
 |t::l=>by
  have h:=yh l;have h2:=(oD t.aH 4).2;unfold nC at *;rw[List.flatMap_cons,i6,List.length_cons];omega
theorem xq {a b:aa} (h:ad a=ad b):a=b:=by
 cases a with|mk p t=>cases b with|mk p' t'=>cases p;cases p';simp[ad]at h;simp[h]
theorem DD {l:List aa} {ts:List aa} (h:(l.map ad).Perm (ts.map ad)) (x:aa):x∈l↔x∈ts:=by
 have h2:ad x∈l.map ad↔ad x∈ts.map ad:=h.mem_iff
 constructor
 ·intro hx;obtain⟨y,hy,e⟩:=List.mem_map.1 (h2.1 (List.mem_map_of_mem hx));rw[<-xq e];exact hy
 ·intro hx;obtain⟨y,hy,e⟩:=List.mem_map.1 (h2.2 (List.mem_map_of_mem hx));rw[<-xq e];exact hy
def ArI (σ:aw) (T:Id) (ts:List aa) (pre:List (List AV)) (e0:Env) (s0:aw):Prop:=
 ∃l':List aa,pre=l'.map ad/\((l'=[]/\e0 3=.ck)∨∃o:Id,e0 3=.own o 0 (nC l').length/\s0.get o=some ⟨true,2,(nC l').map ab⟩/\σ.next<=o.bH/\o.bH<s0.next)/\σ.next<=s0.next/\(∀x:Id,x.bH<σ.next->x≠T->s0.get x=σ.get x)/\s0.get T=some ⟨false,mP.j6,ts.map ad⟩
theorem MH {σ:aw} {c T O:Id} {s:ar} {ts:List aa} (h:k9 σ.get σ.next c T O s ts) (hF:jr ts) (h0:ts≠[]) (qs:List af) (hR:js qs) (hm:∀x,x∈qs↔x∈nC ts):
  Call Tryz.prog 73 [.ptr c 0 0] σ (fun r σ'=>∃(o:Id) (X:List af),r=.own o 0 qs.length/\σ'.get o=some ⟨true,2,(qs++X).map ab⟩/\σ.next<=o.bH/\o.bH<σ'.next/\σ.next<=σ'.next/\(∀x:Id,x.bH<σ.next->x≠T->σ'.get x=σ.get x)/\σ'.get T=some ⟨false,mP.j6,ts.map ad⟩):=by
 refine Zo rfl mP ?_;have eP:=h.row;have AE:=h.tl;have v1:=cR h.cv;have v2:=cR h.tv;unfold OS;rw[Pm];(try((repeat(revert N;apply g7));refine wk @eP ?_;repeat(apply g6;intro N hN)));have WZ:((⟨73002999,σ.next+1+1+1⟩:Id)=T)=False:=eq_false fun e=>by have:=h.tv;rw[<-e]at this;(try dsimp only at this);omega
 refine Cu (TF (id:=T) (r:=⟨true,mP.j6,ts.map ad⟩) (ArI σ T ts) (sd @Pg.eq_1) (sd (tw @AE @v2)) rfl (by decide) ?_ ?_ ?_)
 ·exact⟨[],rfl,.inl ⟨rfl,sd @g8⟩,aI,fun x hx hT=>by
   have h1:=cR hx;have h2:=eq_false hT
   simp only[go_sem,↓reduceIte,Nat.reduceEqDiff,Nat.reduceAdd,Nat.reduceSub,Nat.reduceLeDiff,reduceCtorEq,h1,h2],sd @g8⟩
 ·rintro pre cs rest e0 s0 kv vv hp ⟨l',rfl,hout,GJ,gQ,hT⟩ hK hpart hvv;have sP:cs∈ts.map ad:=hp.subset (by simp);obtain⟨tl,hx,rfl⟩:=List.mem_map.1 sP;have hlen:=hp.length_eq;simp only[i6,List.length_map,List.length_cons]at hlen;have sM:=hF.oG;have SN:=yh l'
  have GK:s9 tl.aH=true:=by
   obtain⟨i,hi,rfl⟩:=List.getElem_of_mem hx;have:=hF.pt hi
   rwa [ev hi]at this
  obtain⟨hxx,hxy⟩:=np GK;simp[part,ad,MK.ks]at hpart hvv;subst hpart hvv;rw[JR,JT];have Eg:=h.tv;have vT:=cR (i:=T) (n:=s0.next) ae;clear hp sP hK
  rcases hout with⟨wM,e3⟩|⟨o,e3,og,on,ov⟩
  ·have wq:(nC l'++ja tl.aH 0).length=1:=by rw[wM];rfl
   have qt:(nC l'++ja tl.aH 0).map ab=[ab tl.aH]:=by rw[wM];rfl
   (try((repeat(revert N;apply g7));refine wk (tw @e3 @ab.eq_1) ?_;repeat(apply g6;intro N hN)))
   refine cj (fun n env st=>∃d:Nat,n=(4)-d/\d<=(4)/\env 20=.int .i64 (d:Int)/\st.get ⟨73004002,s0.next+1⟩=some ⟨true,2,[ab tl.aH]⟩/\((∃u:Id,env 3=.own u 0 (nC l'++ja tl.aH d).length/\st.get u=some ⟨true,2,(nC l'++ja tl.aH d).map ab⟩/\s0.next+2<=u.bH/\u.bH<st.next)/\s0.next+3<=st.next/\(∀y:Id,y.bH<σ.next->y≠T->st.get y=σ.get y)/\st.get T=some ⟨false,mP.j6,ts.map ad⟩)) (4) ⟨0,ae,ae,sl @ab.eq_1,sl @ab.eq_1,by(try dsimp only);exact⟨⟨⟨73005003,s0.next+1+1⟩,sd @wq,sd (tw @qt @ab.eq_1),aI,aI⟩,ae,fun y hy A4=>by
    have h1:=cR (i:=y) (n:=s0.next) ae;have h2:=gQ y hy A4
    simp only[go_sem,↓reduceIte,Nat.reduceEqDiff,Nat.reduceAdd,Nat.reduceSub,Nat.reduceLeDiff,reduceCtorEq,h1,h2],sd (tw @vT @hT)⟩⟩ ?_
   rintro n_b m4 i9 ⟨d,rfl,ble,nD,bg0,bI0⟩ eB;have b4:=eB 4 g9;simp only[go_sem,↓reduceIte,Nat.reduceEqDiff,Nat.reduceAdd,Nat.reduceSub,Nat.reduceLeDiff,reduceCtorEq,ab]at b4;clear eB;obtain⟨⟨u,b3,bu,bun,XC⟩,bn,eB,bT⟩:=bI0
   have jL:(nC l'++ja tl.aH d).length<=16777215:=by
    have:=(oD tl.aH d).2;rw[i6];omega
   obtain⟨L,hL⟩:∃L,nC l'++ja tl.aH d=L:=⟨_,rfl⟩
   rw[hL]at b3 bu jL;have UX:=(oD tl.aH d).2;have Zx:=cR (i:=T) (n:=i9.next) ae;have JZ:=cR XC;have vZ:=cR (i:=⟨73004002,s0.next+1⟩) (n:=i9.next) aI
   by_cases hd:(d:Int)<4
   ·have ep:∀{e:Env} {gg:Rows} {nx:Nat},(e 20=.int .i64 (IntKind.i64.wrap ((d:Int)+1)))->(gg ⟨73004002,s0.next+1⟩=some ⟨true,2,[ab tl.aH]⟩)->((∃u:Id,e 3=.own u 0 (nC l'++ja tl.aH (d+1)).length/\gg u=some ⟨true,2,(nC l'++ja tl.aH (d+1)).map ab⟩/\s0.next+2<=u.bH/\u.bH<nx)/\s0.next+3<=nx/\(∀y:Id,y.bH<σ.next->y≠T->gg y=σ.get y)/\gg T=some ⟨false,mP.j6,ts.map ad⟩)->∃m0,m0<(4)-d/\∃d:Nat,m0=(4)-d/\d<=(4)/\e 20=.int .i64 (d:Int)/\gg ⟨73004002,s0.next+1⟩=some ⟨true,2,[ab tl.aH]⟩/\((∃u:Id,e 3=.own u 0 (nC l'++ja tl.aH d).length/\gg u=some ⟨true,2,(nC l'++ja tl.aH d).map ab⟩/\s0.next+2<=u.bH/\u.bH<nx)/\s0.next+3<=nx/\(∀y:Id,y.bH<σ.next->y≠T->gg y=σ.get y)/\gg T=some ⟨false,mP.j6,ts.map ad⟩):=fun x1 x2 x3=>⟨_,ae,d+1,rfl,ae,(by rw[x1,aZ ae]),x2,x3⟩;have ez:=xf tl.aH d (jc ae) hxx hxy;have zr:=mm (bI tl.aH d);have HL:(L.map ab).length=L.length:=by simp
    cases hpd:s9 (bI tl.aH d)
    ·rw[hpd]at zr;have lL:nC l'++ja tl.aH (d+1)=L:=by rw[ja,hpd];exact hL
     (have zF:=tw7 @nD @bg0 @b4 @b3 @hd @vZ @ab.eq_1;(repeat(first|((repeat(revert N;apply g7));refine wk zF ?_;repeat(apply g6;intro N hN))|((try apply i3);refine⟨_,au.x (ez) (sd zF),?_⟩;apply hN;clear hN N)|((try apply i3);refine⟨_,au.x (zr) (sd zF),?_⟩;apply hN;clear hN N)));try clear zF)
     refine ep ?_ ?_ (by(try dsimp only);exact⟨⟨u,by rw[lL];simp only[go_sem,↓reduceIte,Nat.reduceEqDiff,Nat.reduceAdd,Nat.reduceSub,Nat.reduceLeDiff,reduceCtorEq,b3],by rw[lL];simp only[go_sem,↓reduceIte,Nat.reduceEqDiff,Nat.reduceAdd,Nat.reduceSub,Nat.reduceLeDiff,reduceCtorEq,bu,JZ],ae,ae⟩,ae,fun y hy A4=>by
      have h1:=cR (i:=y) (n:=i9.next) ae;have h2:=eB y hy A4
      simp only[go_sem,↓reduceIte,Nat.reduceEqDiff,Nat.reduceAdd,Nat.reduceSub,Nat.reduceLeDiff,reduceCtorEq,h1,h2],sd (tw @Zx @bT)⟩)
     all_goals simp only[go_sem,↓reduceIte,Nat.reduceEqDiff,Nat.reduceAdd,Nat.reduceSub,Nat.reduceLeDiff,reduceCtorEq,nD,bg0,b4,vZ,ab]
    ·rw[hpd]at zr;have lL:nC l'++ja tl.aH (d+1)=L++[bI tl.aH d]:=by rw[ja,hpd,if_pos rfl,<-hL,List.append_assoc]
     have o9:(L++[bI tl.aH d]).length=L.length+1:=by rw[i6];rfl
     have j3:(L++[bI tl.aH d]).map ab=L.map ab++[ab (bI tl.aH d)]:=by simp
     have uT:=ew (a:=T) (b:=u) ae;have ux:=ew (a:=⟨73004002,s0.next+1⟩) (b:=u) aI
     (have zF:=tw9 @nD @bg0 @b4 @b3 @bu @hd @JZ @vZ (tw4 @ux @HL @jL @ab.eq_1);(repeat(first|((repeat(revert N;apply g7));refine wk zF ?_;repeat(apply g6;intro N hN))|((try apply i3);refine⟨_,au.x (ez) (sd zF),?_⟩;apply hN;clear hN N)|((try apply i3);refine⟨_,au.x (zr) (sd zF),?_⟩;apply hN;clear hN N)));try clear zF)
     refine ep ?_ ?_ (by(try dsimp only);exact⟨⟨⟨73011003,i9.next+1+1+1+1⟩,by rw[lL,o9];simp only[go_sem,↓reduceIte,Nat.reduceEqDiff,Nat.reduceAdd,Nat.reduceSub,Nat.reduceLeDiff,reduceCtorEq],by rw[lL,j3];simp only[go_sem,↓reduceIte,Nat.reduceEqDiff,Nat.reduceAdd,Nat.reduceSub,Nat.reduceLeDiff,reduceCtorEq,ab],aI,aI⟩,ae,fun y hy A4=>by
      have h1:=cR (i:=y) (n:=i9.next) ae;have h2:=eB y hy A4;have h3:=ew (a:=y) (b:=u) ae
      simp only[go_sem,↓reduceIte,Nat.reduceEqDiff,Nat.reduceAdd,Nat.reduceSub,Nat.reduceLeDiff,reduceCtorEq,h1,h2,h3],sd (tw3 @Zx @uT @bT)⟩)
     all_goals simp only[go_sem,↓reduceIte,Nat.reduceEqDiff,Nat.reduceAdd,Nat.reduceSub,Nat.reduceLeDiff,reduceCtorEq,nD,bg0,b4,vZ,ux,ab]
   ·have Mc:d=4:=ae;subst Mc;(try((repeat(revert N;apply g7));refine wk (tw4 @nD @bg0 @b4 @hd) ?_;repeat(apply g6;intro N hN)));exact⟨l'++[tl],by rw[List.map_append];rfl,.inr ⟨u,by rw[uo,hL];simp only[go_sem,↓reduceIte,Nat.reduceEqDiff,Nat.reduceAdd,Nat.reduceSub,Nat.reduceLeDiff,reduceCtorEq,b3],by rw[uo,hL];exact bu,ae,aI⟩,aI,eB,bT⟩
  ·have vo:=cR ov;have oT:=ew (a:=T) (b:=o) ae;have eW:((nC l').map ab).length=(nC l').length:=by simp
   have wq:(nC l'++ja tl.aH 0).length=(nC l').length+1:=by simp[ja]
   have qt:(nC l'++ja tl.aH 0).map ab=(nC l').map ab++[ab tl.aH]:=by simp[ja]
   have e1:(nC l').length<=16777215:=ae;have xo:=ew (a:=o) (b:=⟨73004002,s0.next+1⟩) aI;(try((repeat(revert N;apply g7));refine wk (tw6 @e3 @og @vo @eW @e1 @ab.eq_1) ?_;repeat(apply g6;intro N hN)))
   refine cj (fun n env st=>∃d:Nat,n=(4)-d/\d<=(4)/\env 20=.int .i64 (d:Int)/\st.get ⟨73004002,s0.next+1⟩=some ⟨true,2,[ab tl.aH]⟩/\((∃u:Id,env 3=.own u 0 (nC l'++ja tl.aH d).length/\st.get u=some ⟨true,2,(nC l'++ja tl.aH d).map ab⟩/\s0.next+2<=u.bH/\u.bH<st.next)/\s0.next+3<=st.next/\(∀y:Id,y.bH<σ.next->y≠T->st.get y=σ.get y)/\st.get T=some ⟨false,mP.j6,ts.map ad⟩)) (4) ⟨0,ae,ae,sl (tw @ab.eq_1 @xo),sl (tw @ab.eq_1 @xo),by(try dsimp only);exact⟨⟨⟨73005003,s0.next+1+1⟩,sd @wq,sd (tw @qt @ab.eq_1),aI,aI⟩,ae,fun y hy A4=>by
    have h1:=cR (i:=y) (n:=s0.next) ae;have h2:=gQ y hy A4;have h3:=ew (a:=y) (b:=o) ae
    simp only[go_sem,↓reduceIte,Nat.reduceEqDiff,Nat.reduceAdd,Nat.reduceSub,Nat.reduceLeDiff,reduceCtorEq,h1,h2,h3],sd (tw3 @vT @hT @oT)⟩⟩ ?_
   rintro n_b m4 i9 ⟨d,rfl,ble,nD,bg0,bI0⟩ eB;have b4:=eB 4 g9;simp only[go_sem,↓reduceIte,Nat.reduceEqDiff,Nat.reduceAdd,Nat.reduceSub,Nat.reduceLeDiff,reduceCtorEq,ab,xo]at b4;clear eB;obtain⟨⟨u,b3,bu,bun,XC⟩,bn,eB,bT⟩:=bI0
   have jL:(nC l'++ja tl.aH d).length<=16777215:=by
    have:=(oD tl.aH d).2;rw[i6];omega
   obtain⟨L,hL⟩:∃L,nC l'++ja tl.aH d=L:=⟨_,rfl⟩
   rw[hL]at b3 bu jL;have UX:=(oD tl.aH d).2;have Zx:=cR (i:=T) (n:=i9.next) ae;have JZ:=cR XC;have vZ:=cR (i:=⟨73004002,s0.next+1⟩) (n:=i9.next) aI
   by_cases hd:(d:Int)<4
   ·have ep:∀{e:Env} {gg:Rows} {nx:Nat},(e 20=.int .i64 (IntKind.i64.wrap ((d:Int)+1)))->(gg ⟨73004002,s0.next+1⟩=some ⟨true,2,[ab tl.aH]⟩)->((∃u:Id,e 3=.own u 0 (nC l'++ja tl.aH (d+1)).length/\gg u=some ⟨true,2,(nC l'++ja tl.aH (d+1)).map ab⟩/\s0.next+2<=u.bH/\u.bH<nx)/\s0.next+3<=nx/\(∀y:Id,y.bH<σ.next->y≠T->gg y=σ.get y)/\gg T=some ⟨false,mP.j6,ts.map ad⟩)->∃m0,m0<(4)-d/\∃d:Nat,m0=(4)-d/\d<=(4)/\e 20=.int .i64 (d:Int)/\gg ⟨73004002,s0.next+1⟩=some ⟨true,2,[ab tl.aH]⟩/\((∃u:Id,e 3=.own u 0 (nC l'++ja tl.aH d).length/\gg u=some ⟨true,2,(nC l'++ja tl.aH d).map ab⟩/\s0.next+2<=u.bH/\u.bH<nx)/\s0.next+3<=nx/\(∀y:Id,y.bH<σ.next->y≠T->gg y=σ.get y)/\gg T=some ⟨false,mP.j6,ts.map ad⟩):=fun x1 x2 x3=>⟨_,ae,d+1,rfl,ae,(by rw[x1,aZ ae]),x2,x3⟩;have ez:=xf tl.aH d (jc ae) hxx hxy;have zr:=mm (bI tl.aH d);have HL:(L.map ab).length=L.length:=by simp
    cases hpd:s9 (bI tl.aH d)
    ·rw[hpd]at zr;have lL:nC l'++ja tl.aH (d+1)=L:=by rw[ja,hpd];exact hL
     (have zF:=tw7 @nD @bg0 @b4 @b3 @hd @vZ @ab.eq_1;(repeat(first|((repeat(revert N;apply g7));refine wk zF ?_;repeat(apply g6;intro N hN))|((try apply i3);refine⟨_,au.x (ez) (sd zF),?_⟩;apply hN;clear hN N)|((try apply i3);refine⟨_,au.x (zr) (sd zF),?_⟩;apply hN;clear hN N)));try clear zF)
     refine ep ?_ ?_ (by(try dsimp only);exact⟨⟨u,by rw[lL];simp only[go_sem,↓reduceIte,Nat.reduceEqDiff,Nat.reduceAdd,Nat.reduceSub,Nat.reduceLeDiff,reduceCtorEq,b3],by rw[lL];simp only[go_sem,↓reduceIte,Nat.reduceEqDiff,Nat.reduceAdd,Nat.reduceSub,Nat.reduceLeDiff,reduceCtorEq,bu,JZ],ae,ae⟩,ae,fun y hy A4=>by
      have h1:=cR (i:=y) (n:=i9.next) ae;have h2:=eB y hy A4
      simp only[go_sem,↓reduceIte,Nat.reduceEqDiff,Nat.reduceAdd,Nat.reduceSub,Nat.reduceLeDiff,reduceCtorEq,h1,h2],sd (tw @Zx @bT)⟩)
     all_goals simp only[go_sem,↓reduceIte,Nat.reduceEqDiff,Nat.reduceAdd,Nat.reduceSub,Nat.reduceLeDiff,reduceCtorEq,nD,bg0,b4,vZ,ab]
    ·rw[hpd]at zr;have lL:nC l'++ja tl.aH (d+1)=L++[bI tl.aH d]:=by rw[ja,hpd,if_pos rfl,<-hL,List.append_assoc]
     have o9:(L++[bI tl.aH d]).length=L.length+1:=by rw[i6];rfl
     have j3:(L++[bI tl.aH d]).map ab=L.map ab++[ab (bI tl.aH d)]:=by simp
     have uT:=ew (a:=T) (b:=u) ae;have ux:=ew (a:=⟨73004002,s0.next+1⟩) (b:=u) aI
     (have zF:=tw9 @nD @bg0 @b4 @b3 @bu @hd @JZ @vZ (tw4 @ux @HL @jL @ab.eq_1);(repeat(first|((repeat(revert N;apply g7));refine wk zF ?_;repeat(apply g6;intro N hN))|((try apply i3);refine⟨_,au.x (ez) (sd zF),?_⟩;apply hN;clear hN N)|((try apply i3);refine⟨_,au.x (zr) (sd zF),?_⟩;apply hN;clear hN N)));try clear zF)
     refine ep ?_ ?_ (by(try dsimp only);exact⟨⟨⟨73011003,i9.next+1+1+1+1⟩,by rw[lL,o9];simp only[go_sem,↓reduceIte,Nat.reduceEqDiff,Nat.reduceAdd,Nat.reduceSub,Nat.reduceLeDiff,reduceCtorEq],by rw[lL,j3];simp only[go_sem,↓reduceIte,Nat.reduceEqDiff,Nat.reduceAdd,Nat.reduceSub,Nat.reduceLeDiff,reduceCtorEq,ab],aI,aI⟩,ae,fun y hy A4=>by
      have h1:=cR (i:=y) (n:=i9.next) ae;have h2:=eB y hy A4;have h3:=ew (a:=y) (b:=u) ae
      simp only[go_sem,↓reduceIte,Nat.reduceEqDiff,Nat.reduceAdd,Nat.reduceSub,Nat.reduceLeDiff,reduceCtorEq,h1,h2,h3],sd (tw3 @Zx @uT @bT)⟩)
     all_goals simp only[go_sem,↓reduceIte,Nat.reduceEqDiff,Nat.reduceAdd,Nat.reduceSub,Nat.reduceLeDiff,reduceCtorEq,nD,bg0,b4,vZ,ux,ab]
   ·have Mc:d=4:=ae;subst Mc;(try((repeat(revert N;apply g7));refine wk (tw4 @nD @bg0 @b4 @hd) ?_;repeat(apply g6;intro N hN)));exact⟨l'++[tl],by rw[List.map_append];rfl,.inr ⟨u,by rw[uo,hL];simp only[go_sem,↓reduceIte,Nat.reduceEqDiff,Nat.reduceAdd,Nat.reduceSub,Nat.reduceLeDiff,reduceCtorEq,b3],by rw[uo,hL];exact bu,ae,aI⟩,aI,eB,bT⟩
 ·rintro pre e0 s0 hp ⟨l',rfl,hout,GJ,gQ,hT⟩ hK;clear hK;have GI:=DD hp;have Jg:=hp.length_eq;simp only[List.length_map]at Jg;have sM:=hF.oG
  rcases hout with⟨wM,e3⟩|⟨o,e3,og,on,ov⟩
  ·exfalso;subst wM;exact h0 (List.eq_nil_of_length_eq_zero Jg.symm)
  have hq:∀x,x∈qs↔x∈nC l':=fun x=>by
   rw[hm,yz,yz]
   constructor<;>(rintro⟨t,ht,h⟩;exact⟨t,by first|exact(GI t).1 ht|exact(GI t).2 ht,h⟩)
  have U4:nC l'≠[]:=by
   intro e
   cases l' with
   |nil=>exact h0 (List.eq_nil_of_length_eq_zero Jg.symm)
   |cons t r=>
    have:t.aH∈nC (t::r):=yz.2 ⟨t,by simp,.inl rfl⟩;rw[e]at this;cases this
  have SN:=yh l';(try((repeat(revert N;apply g7));refine wk (tw3 @JV.eq_1 @JY.eq_1 @e3) ?_;repeat(apply g6;intro N hN)));refine .inr (ax _ _ _ _ _ (fun r σ1 hq=>?_) (Bc (nC l') qs ae U4 hR hq ⟨s0.get,_⟩ o aI og));obtain⟨g1,x1⟩:=σ1;obtain⟨o2,X,rfl,q1,q2,q3,q4⟩:=hq;(try dsimp only at q1 q2 q3 q4);apply hN;clear hN N;(try((repeat(revert N;apply g7));refine wk (tw @JV.eq_1 @JY.eq_1) ?_;repeat(apply g6;intro N hN)));exact eH (.inl rfl) (vs:=[.own o2 0 qs.length]) (by rw[JY];simp only[ir,jw,go_sem,↓reduceIte,Nat.reduceEqDiff,Nat.reduceAdd,Nat.reduceSub,Nat.reduceLeDiff,reduceCtorEq]) ⟨o2,X,rfl,q1,ae,aI,aI,fun y hy A4=>(q4 y ae).trans (gQ y hy A4),(q4 T (by have:=h.tv;omega)).trans hT⟩
theorem Cl:∀{ps qs:List aa},(ps.Pairwise fun a b=>jm a.aH b.aH=true)->(qs.Pairwise fun a b=>jm a.aH b.aH=true)->(∀x,x∈ps↔x∈qs)->ps=qs
 |[],[],_,_,_=>rfl
 |[],q::qs,_,_,h=>absurd ((h q).2 (by simp)) (by simp)
 |p::ps,[],_,_,h=>absurd ((h p).1 (by simp)) (by simp)
 |p::ps,q::qs,hp,hq,h=>by
  obtain⟨p1,p2⟩:=List.pairwise_cons.1 hp;obtain⟨q1,q2⟩:=List.pairwise_cons.1 hq
  have e:p=q:=by
   rcases List.mem_cons.1 ((h p).1 (by simp))with e|e
   ·exact e
   ·rcases List.mem_cons.1 ((h q).2 (by simp))with e'|e'
    ·exact e'.symm
    ·have:=FX (q1 p e);rw[p1 q e']at this;cases this
  subst e
  congr 1
  refine Cl p2 q2 fun x=>⟨fun hx=>?_,fun hx=>?_⟩
  ·rcases List.mem_cons.1 ((h x).1 (List.mem_cons_of_mem _ hx))with e|e
   ·subst e;have:=p1 x hx;rw[gJ]at this;cases this
   ·exact e
  ·rcases List.mem_cons.1 ((h x).2 (List.mem_cons_of_mem _ hx))with e|e
   ·subst e;have:=q1 x hx;rw[gJ]at this;cases this
   ·exact e
theorem Io {L qs:List aa} (hR:iJ L) (hp:qs.Perm L) (hs:∀i j:Nat,i<j->j<qs.length->jm (bc qs j).aH (bc qs i).aH=false):qs=L:=by
 rw[lR]at hR;have hd:L.Pairwise fun a b=>a.aH≠b.aH:=hR.imp fun {a b} h e=>by rw[e,gJ]at h;cases h
 have hdq:qs.Pairwise fun a b=>a.aH≠b.aH:=hp.symm.pairwise hd fun {a b} h e=>h e.symm;refine Cl ?_ hR fun x=>hp.mem_iff;rw[List.pairwise_iff_getElem]at hdq ⊢;intro i j hi hj uj;have h1:=hs i j uj hj;rw[ev hj,ev hi]at h1;exact sa h1 fun e=>hdq i j hi hj uj e.symm
theorem Hi (ps:List aa) (h0:ps≠[]) (hlen:ps.length<=1048576) (σ:aw) (id:Id) (hv:id.bH<σ.next) (hg:σ.get id=some ⟨true,3,ps.map ad⟩):
  Call Tryz.prog 91 [.own id 0 ps.length] σ fun a σ'=>∃o:Id,a=.own o 0 ps.length/\σ'.get o=some ⟨true,3,ps.map ad⟩/\σ.next<=o.bH/\o.bH<σ'.next/\∀x:Id,x.bH<σ.next->σ'.get x=σ.get x:=by
 refine fG fx rfl fun hl=>?_;clear hl;have h2:ps.length<=16777216:=ae;have hm:(ps.map ad).length=ps.length:=by simp
 have v1:=cR hv;have ht:(ps.map ad).take ps.length=ps.map ad:=by rw[<-hm,List.take_length]
 have ha:(ps.map ad).all (fun c=>c.length==3&&c.all AV.cell)=true:=all_map fun x=>by simp[ad,AV.cell]
 (try((repeat(revert N;apply g7));refine wk (tw6 @hg @h2 @hm @v1 @ht @ha) ?_;repeat(apply g6;intro N hN)))
 exact eH (vs:=[.own ⟨91003002,σ.next+2⟩ 0 ps.length]) (.inl rfl) (sd @g8) ⟨_,rfl,sd @g8,aI,aI,fun x hx=>by
  have:=cR hx
  simp only[go_sem,↓reduceIte,Nat.reduceEqDiff,Nat.reduceAdd,Nat.reduceSub,Nat.reduceLeDiff,reduceCtorEq,this]⟩
theorem CF (ps L:List aa) (hlen:ps.length<=1000000) (h0:ps≠[]) (hR:iJ L) (hp:ps.Perm L) (σ:aw) (id:Id) (hv:id.bH<σ.next) (hg:σ.get id=some ⟨true,3,ps.map ad⟩):
  Call Tryz.prog 97 [.own id 0 ps.length] σ fun a σ'=>∃o:Id,a=.agg [.own o 0 L.length]/\σ'.get o=some ⟨true,3,L.map ad⟩/\σ.next<=o.bH/\o.bH<σ'.next/\∀x:Id,x.bH<σ.next->σ'.get x=σ.get x:=by
 refine fG fx rfl fun hl=>?_;clear hl;have v1:=cR hv;(try((repeat(revert N;apply g7));refine wk (tw @hg @v1) ?_;repeat(apply g6;intro N hN)));refine .inr (ax _ _ _ _ _ (fun r σ1 hq=>?_) (Hi ps h0 ae ⟨_,_⟩ id aI (sd (tw @v1 @hg))));obtain⟨g1,x1⟩:=σ1;obtain⟨o,rfl,q1,q2,q3,q4⟩:=hq;(try dsimp only at q1 q2 q3 q4);have k2:=q4 ⟨97000000,σ.next⟩ aI;simp only[go_sem,↓reduceIte,Nat.reduceEqDiff,Nat.reduceAdd,Nat.reduceSub,Nat.reduceLeDiff,reduceCtorEq]at k2;apply hN;clear hN N;(try((repeat(revert N;apply g7));refine wk @g8 ?_;repeat(apply g6;intro N hN)));refine .inr (ax _ _ _ _ _ (fun r σ2 hq=>?_) (LH VH VI ps ae ⟨g1,_⟩ o q1));obtain⟨g2,x2⟩:=σ2;obtain⟨u1,u2,ss,u3,u4,u5,u6⟩:=hq;(try dsimp only at u1 u2 u3);have hss:ss=L:=Io hR (u5.trans hp) u6;rw[hss]at u3 u4;have o2:(⟨97000000,σ.next⟩:Id)≠o:=fun e=>by rw[<-e]at q2;(try dsimp only at q2);omega
 have k3:=(u2 _ o2).trans k2;have of:=eq_false (fun e:o=(⟨97000000,σ.next⟩:Id)=>o2 e.symm);apply hN;clear hN N;(try((repeat(revert N;apply g7));refine wk @k3 ?_;repeat(apply g6;intro N hN)))
 exact eH (.inl rfl) (vs:=[.agg [.own o 0 ps.length]]) (sd @g8) ⟨o,by rw[u4];rfl,sd (tw @of @u3),ae,aI,fun x hx=>by
  have h1:x≠o:=fun e=>by rw[e]at hx;omega
  have h2:=u2 x h1;have h3:=q4 x aI;have h4:=cR hx;simp only[go_sem,↓reduceIte,Nat.reduceEqDiff,Nat.reduceAdd,Nat.reduceSub,Nat.reduceLeDiff,reduceCtorEq,h4]at h3
  simp only[go_sem,↓reduceIte,Nat.reduceEqDiff,Nat.reduceAdd,Nat.reduceSub,Nat.reduceLeDiff,reduceCtorEq,h4,h2,h3]⟩
def AsI (σ:aw) (T:Id) (ts:List aa) (pre:List (List AV)) (e0:Env) (s0:aw):Prop:=
 ∃l':List aa,pre=l'.map ad/\((l'=[]/\e0 3=.ck)∨∃o:Id,e0 3=.own o 0 l'.length/\s0.get o=some ⟨true,3,l'.map ad⟩/\σ.next<o.bH/\o.bH<s0.next)/\σ.next<s0.next/\(∀x:Id,x.bH<σ.next->x≠T->s0.get x=σ.get x)/\s0.get T=some ⟨false,mP.j6,ts.map ad⟩/\s0.get ⟨47000000,σ.next⟩=some ⟨true,1,[[.ck]]⟩/\e0 2=.ptr ⟨47000000,σ.next⟩ 0 0
theorem Ll (L:List aa) (x:aa):(L++[x]).length=L.length+1:=by rw[i6];rfl
theorem G7 {σ:aw} {c T O:Id} {s:ar} {ts L:List aa} (h:k9 σ.get σ.next c T O s ts) (hlen:ts.length<=100000) (h0:ts≠[]) (hR:iJ L) (hp:ts.Perm L):
  Call Tryz.prog 47 [.ptr c 0 0] σ (fun r σ'=>∃o:Id,r=.agg [.own o 0 L.length]/\σ'.get o=some ⟨true,3,L.map ad⟩/\σ.next<=o.bH/\o.bH<σ'.next/\σ.next<=σ'.next/\∀x:Id,x.bH<σ.next->x≠T->σ'.get x=σ.get x):=by
 refine Zn rfl mP ?_;have eP:=h.row;have AE:=h.tl;have v1:=cR h.cv;have v2:=cR h.tv;unfold OS;rw[Pk];(try((repeat(revert N;apply g7));refine wk (tw @eP @v1) ?_;repeat(apply g6;intro N hN)));refine Cu (TF (id:=T) (r:=⟨true,mP.j6,ts.map ad⟩) (AsI σ T ts) (sd @Pf.eq_1) (sd (tw @AE @v2)) rfl (by decide) ?_ ?_ ?_)
 ·have vT:(T=(⟨47000000,σ.next⟩:Id))=False:=eq_false fun e=>by have:=h.tv;rw[e]at this;(try dsimp only at this);omega
  have vT2:((⟨47000000,σ.next⟩:Id)=T)=False:=eq_false fun e=>by have:=h.tv;rw[<-e]at this;(try dsimp only at this);omega
  exact⟨[],rfl,.inl ⟨rfl,sd @g8⟩,aI,fun x hx hT=>by
   have h1:=cR hx;have h2:=eq_false hT
   simp only[go_sem,↓reduceIte,Nat.reduceEqDiff,Nat.reduceAdd,Nat.reduceSub,Nat.reduceLeDiff,reduceCtorEq,h1,h2],sd @g8,sd @vT2,sd @g8⟩
 ·rintro pre cs rest e0 s0 kv vv hpp ⟨l',rfl,hout,GJ,gQ,hT,h5,e2⟩ hK hpart hvv;have sP:cs∈ts.map ad:=hpp.subset (by simp);obtain⟨tl,hx,rfl⟩:=List.mem_map.1 sP;have P0:=hpp.length_eq;simp only[i6,List.length_map,List.length_cons]at P0;simp[part,ad,MK.ks]at hpart hvv;subst hpart hvv;rw[JQ,JS];have Eg:=h.tv;have vT:=cR (i:=T) (n:=s0.next) ae;have v5:=cR (i:=⟨47000000,σ.next⟩) (n:=s0.next) aI;clear hpp sP hK;have Mg:l'.map ad++[ad tl]=(l'++[tl]).map ad:=by simp
  have o9:=Ll l' tl;have j3:(l'++[tl]).map ad=l'.map ad++[[.int .i64 tl.aH.eV,.int .i64 tl.aH.eR,.int .i64 tl.bK]]:=by rw[List.map_append];rfl
  rcases hout with⟨wM,e3⟩|⟨o,e3,og,on,ov⟩
  ·subst wM;(try((repeat(revert N;apply g7));refine wk (tw @e3 @e2) ?_;repeat(apply g6;intro N hN)))
   exact⟨[]++[tl],Mg,.inr ⟨⟨47005005,s0.next+1+1⟩,sl @g8,sl @g8,aI,aI⟩,aI,fun y hy A4=>by
    have h1:=cR (i:=y) (n:=s0.next) ae;have h2:=gQ y hy A4
    simp only[go_sem,↓reduceIte,Nat.reduceEqDiff,Nat.reduceAdd,Nat.reduceSub,Nat.reduceLeDiff,reduceCtorEq,h1,h2],sd (tw @vT @hT),sd (tw @v5 @h5),sd @e2⟩
  ·have vo:=cR ov;have oT:=ew (a:=T) (b:=o) ae;have o5:=ew (a:=⟨47000000,σ.next⟩) (b:=o) aI;have eW:(l'.map ad).length=l'.length:=by simp
   have e1:l'.length<=16777215:=ae;(try((repeat(revert N;apply g7));refine wk (tw6 @e3 @e2 @og @vo @eW @e1) ?_;repeat(apply g6;intro N hN)))
   exact⟨l'++[tl],Mg,.inr ⟨⟨47005005,s0.next+1+1⟩,by rw[o9];simp only[go_sem,↓reduceIte,Nat.reduceEqDiff,Nat.reduceAdd,Nat.reduceSub,Nat.reduceLeDiff,reduceCtorEq]<;>rfl,by rw[j3];simp only[go_sem,↓reduceIte,Nat.reduceEqDiff,Nat.reduceAdd,Nat.reduceSub,Nat.reduceLeDiff,reduceCtorEq]<;>rfl,aI,aI⟩,aI,fun y hy A4=>by
    have h1:=cR (i:=y) (n:=s0.next) ae;have h2:=gQ y hy A4;have h3:=ew (a:=y) (b:=o) ae
    simp only[go_sem,↓reduceIte,Nat.reduceEqDiff,Nat.reduceAdd,Nat.reduceSub,Nat.reduceLeDiff,reduceCtorEq,h1,h2,h3],sd (tw3 @vT @oT @hT),sd (tw3 @v5 @o5 @h5),sd @e2⟩
 ·rintro pre e0 s0 hpp ⟨l',rfl,hout,GJ,gQ,hT,h5,e2⟩ hK;clear hK
  have mA:l'.Perm ts:=by
   have:∀{a b:List aa},(a.map ad).Perm (b.map ad)->a.Perm b:=fun {a b} AP=>by
    have h2:=AP.map (fun cs:List AV=>match cs with|[.int _ x,.int _ y,.int _ t]=>(⟨⟨x,y⟩,t⟩:aa)|_=>default)
    simpa[List.map_map,Function.comp_def,ad]using h2
   exact this hpp
  have Jg:=mA.length_eq
  rcases hout with⟨wM,e3⟩|⟨o,e3,og,on,ov⟩
  ·exfalso;subst wM;exact h0 (List.eq_nil_of_length_eq_zero Jg.symm)
  have ju:l'≠[]:=fun e=>h0 (List.eq_nil_of_length_eq_zero (by rw[<-Jg,e];rfl));(try((repeat(revert N;apply g7));refine wk (tw4 @JU.eq_1 @JX.eq_1 @e3 @e2) ?_;repeat(apply g6;intro N hN)));refine .inr (ax _ _ _ _ _ (fun r σ1 hq=>?_) (CF l' L ae ju hR (mA.trans hp) ⟨s0.get,_⟩ o aI og));obtain⟨g1,x1⟩:=σ1;obtain⟨o2,rfl,q1,q2,q3,q4⟩:=hq;(try dsimp only at q1 q2 q3 q4);have k5:=(q4 ⟨47000000,σ.next⟩ aI).trans h5;have o25:=ew (a:=⟨47000000,σ.next⟩) (b:=o2) aI;apply hN;clear hN N;(try((repeat(revert N;apply g7));refine wk (tw4 @JU.eq_1 @JX.eq_1 @e2 @k5) ?_;repeat(apply g6;intro N hN)))
  exact eH (.inl rfl) (vs:=[.agg [.own o2 0 L.length]]) (by rw[JX];simp only[ir,jw,go_sem,↓reduceIte,Nat.reduceEqDiff,Nat.reduceAdd,Nat.reduceSub,Nat.reduceLeDiff,reduceCtorEq,e2]) ⟨o2,rfl,sd (tw @o25 @q1),ae,aI,aI,fun y hy A4=>by
   have h1:=cR (i:=y) (n:=σ.next) hy;simp only[go_sem,↓reduceIte,Nat.reduceEqDiff,Nat.reduceAdd,Nat.reduceSub,Nat.reduceLeDiff,reduceCtorEq,h1]
   exact(q4 y ae).trans (gQ y hy A4)⟩
theorem k9.three {g g':Rows} {n n':Nat} {c T O:Id} {s:ar} {ts:List aa} (h:k9 g n c T O s ts) (hn:n<=n') (hc:g' c=g c) (hT:g' T=g T) (hO:g' O=g O):k9 g' n' c T O s ts:=
 ⟨hc.trans h.row,hT.trans h.tl,by rw[hO];exact h.op,Nat.lt_of_lt_of_le h.cv hn,Nat.lt_of_lt_of_le h.tv hn,Nat.lt_of_lt_of_le h.ov hn,h.cT,h.cO,h.TO⟩
theorem Ch (q:aa):∀l:List aa,(l++[q]).Perm (jB l q)
 |[]=>List.Perm.refl _
 |x::l=>by
  have ih:=Ch q l;rw[jB]
  split
  ·exact List.perm_append_comm (l₁:=x::l) (l₂:=[q])
  ·exact ih.cons x
structure xl (s:ar) (S:Qg):Prop where
 at_:∀q,ej (s.cw.aq++S.1) q=ej S.2 q
 perm:(s.cw.aq++S.1).Perm S.2
theorem xl.fit {s:ar} {S:Qg} (h:xl s S) (p:af) (t:Int):eu s (s.cw.aq++S.1) p t=eu s S.2 p t:=by
 have e:ej (s.cw.aq++S.1)=ej S.2:=funext h.at_;unfold eu;rw[e]
theorem xl.no {s:ar} {S:Qg} (h:xl s S) {p:af} (h0:ei S.2 p<0):ei (s.cw.aq++S.1) p<0:=nO.2 fun t ht=>nO.1 h0 t (h.perm.subset ht)
theorem xl.put {s:ar} {S:Qg} (h:xl s S) {x:aa} (h0:ei S.2 x.aH<0):xl s (S.1++[x],jB S.2 x) where
 at_ q:=by
  show ej (s.cw.aq++(S.1++[x])) q=ej (jB S.2 x) q;rw[<-List.append_assoc,uq q (nO.1 (h.no h0)),ED q (nO.1 h0),h.at_]
 perm:=by
  show(s.cw.aq++(S.1++[x])).Perm (jB S.2 x);rw[<-List.append_assoc];exact(h.perm.append_right [x]).trans (Ch x S.2)
def kQ (l:List aa) (ps:List af) (q:af):List af:=if s9 q=true/\ei l q<0 then pG ps q else ps
def gr (l:List aa) (ps:List af) (p:af):Nat->List af
 |0=>ps
 |d+1=>kQ l (gr l ps p d) (bI p d)
def fP (l:List aa):Nat->List af
 |0=>[]
 |i+1=>gr l (fP l i) (bc l i).aH 4
def jF (l:List aa):List af:=fP l l.length
theorem DG {l:List aa} {ps:List af} (h:js ps) (q:af):js (kQ l ps q):=by
 unfold kQ;split
 ·exact vD h q
 ·exact h
theorem tW {l:List aa} {ps:List af} (h:js ps) (p:af):∀d,js (gr l ps p d)
 |0=>h
 |d+1=>DG (tW h p d) _
theorem pD (l:List aa):∀i,js (fP l i)
 |0=>List.Pairwise.nil
 |i+1=>tW (pD l i) _ 4
theorem DF (l:List aa) (ps:List af) (q:af):(kQ l ps q).length<=ps.length+1:=by
 unfold kQ;split
 ·exact z7 ps q
 ·omega
theorem tV (l:List aa) (ps:List af) (p:af):∀d,(gr l ps p d).length<=ps.length+d
 |0=>Nat.le_refl _
 |d+1=>by
  have:=tV l ps p d;have:=DF l (gr l ps p d) (bI p d);simp only[gr];omega
theorem nj (l:List aa):∀i,(fP l i).length<=i*4
 |0=>Nat.le_refl _
 |i+1=>by
  have:=nj l i;have:=tV l (fP l i) (bc l i).aH 4;simp only[fP];omega
theorem zI (l:List aa) (ps:List af) (p:af) (x:af):∀d,x∈gr l ps p d↔x∈ps∨∃k,k<d/\x=bI p (k:Nat)/\s9 x=true/\ei l x<0
 |0=>⟨.inl,fun h=>h.elim id fun⟨_,h,_⟩=>absurd h (Nat.not_lt_zero _)⟩
 |d+1=>by
  simp only[gr,kQ];have ih:=zI l ps p x d
  split
  ·rename_i h;rw[qY,ih]
   constructor
   ·rintro(rfl|h1|⟨k,h1,h2⟩)
    ·exact .inr ⟨d,Nat.lt_succ_self _,rfl,h⟩
    ·exact .inl h1
    ·exact .inr ⟨k,ae,h2⟩
   ·rintro(h1|⟨k,h1,h2⟩)
    ·exact .inr (.inl h1)
    ·by_cases hk:k=d
     ·subst hk;exact .inl h2.1
     ·exact .inr (.inr ⟨k,ae,h2⟩)
  ·rename_i h;rw[ih]
   constructor
   ·rintro(h1|⟨k,h1,h2⟩)
    ·exact .inl h1
    ·exact .inr ⟨k,ae,h2⟩
   ·rintro(h1|⟨k,h1,h2⟩)
    ·exact .inl h1
    ·by_cases hk:k=d
     ·subst hk;rw[h2.1]at h2;exact absurd h2.2 h
     ·exact .inr ⟨k,ae,h2⟩
def Bi (l:List aa) (x:af):Prop:=s9 x=true/\ei l x<0/\∃i d:Nat,i<l.length/\d<4/\x=bI (bc l i).aH d
theorem zJ (l:List aa) (x:af):∀i,x∈fP l i↔∃j d:Nat,j<i/\d<4/\x=bI (bc l j).aH d/\s9 x=true/\ei l x<0
 |0=>⟨fun h=>(by cases h),fun⟨_,_,h,_⟩=>absurd h (Nat.not_lt_zero _)⟩
 |i+1=>by
  simp only[fP];rw[zI,zJ l x i]
  constructor
  ·rintro(⟨j,d,h1,h2⟩|⟨d,h1,h2⟩)
   ·exact⟨j,d,ae,h2⟩
   ·exact⟨i,d,Nat.lt_succ_self _,h1,h2⟩
  ·rintro⟨j,d,h1,h2,h3⟩
   by_cases hj:j=i
   ·subst hj;exact .inr ⟨d,h2,h3⟩
   ·exact .inl ⟨j,d,ae,h2,h3⟩
theorem oI (l:List aa) (x:af):x∈jF l↔Bi l x:=by
 unfold jF Bi;rw[zJ];exact⟨fun⟨j,d,h1,h2,h3,h4,h5⟩=>⟨h4,h5,j,d,h1,h2,h3⟩,fun⟨h4,h5,j,d,h1,h2,h3⟩=>⟨j,d,h1,h2,h3,h4,h5⟩⟩
theorem Lc (l:List aa) (hF:jr l) (σ:aw):Call Tryz.prog 116 [.dZ [.sl (l.map ad)]] σ (Xy σ (fun _=>True) (jF l)):=by
 refine fG fx rfl fun fM=>?_;clear fM;have hR:=hF.pH;have sM:=hF.oG;(try((repeat(revert N;apply g7));refine wk @g8 ?_;repeat(apply g6;intro N hN)))
 refine cj (fun n env st=>∃i:Nat,n=(l.length)-i/\i<=(l.length)/\env 4=.int .i64 (i:Int)/\(∃o:Id,env 3=.own o 0 (fP l i).length/\st.get o=some ⟨true,2,(fP l i).map ab⟩/\o.bH<st.next/\σ.next<=o.bH/\∀x:Id,x.bH<σ.next->st.get x=σ.get x)) (l.length) ⟨0,ae,ae,sl @g8,⟨⟨116001000,σ.next+1⟩,by simp only[go_sem,↓reduceIte,Nat.reduceEqDiff,Nat.reduceAdd,Nat.reduceSub,Nat.reduceLeDiff,reduceCtorEq];rfl,by simp only[go_sem,↓reduceIte,Nat.reduceEqDiff,Nat.reduceAdd,Nat.reduceSub,Nat.reduceLeDiff,reduceCtorEq];rfl,aI,aI,fun x hx=>by
  have:=cR (i:=x) (n:=σ.next+1) ae
  simp only[go_sem,↓reduceIte,Nat.reduceEqDiff,Nat.reduceAdd,Nat.reduceSub,Nat.reduceLeDiff,reduceCtorEq,this]⟩⟩ ?_
 rintro n_a m3 i8 ⟨i,rfl,ale,a4,mD⟩ eC;have a0:=eC 0 g9;simp only[go_sem,↓reduceIte,Nat.reduceEqDiff,Nat.reduceAdd,Nat.reduceSub,Nat.reduceLeDiff,reduceCtorEq]at a0;clear eC;obtain⟨o,a3,ag,MF,Sz,eC⟩:=mD
 by_cases hi:(i:Int)<(l.length:Int)
 ·have dW:∀{e:Env} {gg:Rows} {nx:Nat},(e 4=.int .i64 (IntKind.i64.wrap ((i:Int)+1)))->(∃o:Id,e 3=.own o 0 (fP l (i+1)).length/\gg o=some ⟨true,2,(fP l (i+1)).map ab⟩/\o.bH<nx/\σ.next<=o.bH/\∀x:Id,x.bH<σ.next->gg x=σ.get x)->∃m0,m0<(l.length)-i/\∃i:Nat,m0=(l.length)-i/\i<=(l.length)/\e 4=.int .i64 (i:Int)/\(∃o:Id,e 3=.own o 0 (fP l i).length/\gg o=some ⟨true,2,(fP l i).map ab⟩/\o.bH<nx/\σ.next<=o.bH/\∀x:Id,x.bH<σ.next->gg x=σ.get x):=fun x1 x2=>⟨_,ae,i+1,rfl,ae,(by rw[x1,aZ ae]),x2⟩;have jI:i<l.length:=ae;(try((repeat(revert N;apply g7));refine wk (tw4 @a4 @a0 @a3 @hi) ?_;repeat(apply g6;intro N hN)));refine cj (fun n env st=>∃d:Nat,n=(4)-d/\d<=(4)/\env 5=.int .i64 (d:Int)/\(∃o:Id,env 3=.own o 0 (gr l (fP l i) (bc l i).aH d).length/\st.get o=some ⟨true,2,(gr l (fP l i) (bc l i).aH d).map ab⟩/\o.bH<st.next/\σ.next<=o.bH/\∀x:Id,x.bH<σ.next->st.get x=σ.get x)) (4) ⟨0,ae,ae,sl (tw @a4 @a0),⟨o,by simp only[go_sem,↓reduceIte,Nat.reduceEqDiff,Nat.reduceAdd,Nat.reduceSub,Nat.reduceLeDiff,reduceCtorEq,a3,gr],by simp only[go_sem,↓reduceIte,Nat.reduceEqDiff,Nat.reduceAdd,Nat.reduceSub,Nat.reduceLeDiff,reduceCtorEq,ag,gr],aI,Sz,fun x hx=>sd (eC x hx)⟩⟩ ?_;rintro n_b m4 i9 ⟨d,rfl,ble,b5,bI0⟩ eB;have b0:=eB 0 g9;have b4:=eB 4 g9;simp only[go_sem,↓reduceIte,Nat.reduceEqDiff,Nat.reduceAdd,Nat.reduceSub,Nat.reduceLeDiff,reduceCtorEq,a4,a0]at b0 b4;clear eB;obtain⟨ob,b3,bg,bov,SC,eB⟩:=bI0
  by_cases hd:(d:Int)<4
  ·have ep:∀{e:Env} {gg:Rows} {nx:Nat},(e 5=.int .i64 (IntKind.i64.wrap ((d:Int)+1)))->(∃o:Id,e 3=.own o 0 (gr l (fP l i) (bc l i).aH (d+1)).length/\gg o=some ⟨true,2,(gr l (fP l i) (bc l i).aH (d+1)).map ab⟩/\o.bH<nx/\σ.next<=o.bH/\∀x:Id,x.bH<σ.next->gg x=σ.get x)->∃m0,m0<(4)-d/\∃d:Nat,m0=(4)-d/\d<=(4)/\e 5=.int .i64 (d:Int)/\(∃o:Id,e 3=.own o 0 (gr l (fP l i) (bc l i).aH d).length/\gg o=some ⟨true,2,(gr l (fP l i) (bc l i).aH d).map ab⟩/\o.bH<nx/\σ.next<=o.bH/\∀x:Id,x.bH<σ.next->gg x=σ.get x):=fun x1 x2=>⟨_,ae,d+1,rfl,ae,(by rw[x1,aZ ae]),x2⟩;have ll:=fZ jI;have NK:=np (hF.pt jI);have ez:=rY (bc l i).aH d (jc ae) NK.1 NK.2;have U5:=tL (bI (bc l i).aH d);have ml:=cR bov;have Ek:((gr l (fP l i) (bc l i).aH d).map ab).length=(gr l (fP l i) (bc l i).aH d).length:=by simp
   cases hp:s9 (bI (bc l i).aH d)
   ·rw[hp]at U5
    have lL:gr l (fP l i) (bc l i).aH (d+1)=gr l (fP l i) (bc l i).aH d:=by
     simp only[gr,kQ];rw[if_neg fun h=>by rw[hp]at h;cases h.1]
    (have zF:=tw9 @b5 @b0 @b4 @b3 @bg @hd @ll @ml (tw @ad.eq_1 @ab.eq_1);(repeat(first|((repeat(revert N;apply g7));refine wk zF ?_;repeat(apply g6;intro N hN))|((try apply i3);refine⟨_,au.x (ez) (sd zF),?_⟩;apply hN;clear hN N)|((try apply i3);refine⟨_,au.x (U5) (sd zF),?_⟩;apply hN;clear hN N)));try clear zF)
    exact ep (sd (tw4 @b5 @b0 @b4 @ab.eq_1)) (by exact⟨ob,sd (tw @b3 @lL),sd (tw3 @bg @ml @lL),aI,SC,fun x hx=>by
     have h1:=cR (i:=x) (n:=i9.next) ae;have h2:=cR (i:=x) (n:=i9.next+1) ae;have h3:=eB x hx
     simp only[go_sem,↓reduceIte,Nat.reduceEqDiff,Nat.reduceAdd,Nat.reduceSub,Nat.reduceLeDiff,reduceCtorEq,h1,h2,h3]⟩)
   ·rw[hp]at U5;have BM:=tM l (bI (bc l i).aH d) hR ae
    by_cases hx:ei l (bI (bc l i).aH d)<0
    ·have lL:gr l (fP l i) (bc l i).aH (d+1)=pG (gr l (fP l i) (bc l i).aH d) (bI (bc l i).aH d):=by
      simp only[gr,kQ];rw[if_pos ⟨hp,hx⟩]
     have Xc:=tV l (fP l i) (bc l i).aH d;have Jg:=nj l i
     (have zF:=tw9 @b5 @b0 @b4 @b3 @bg @hd @ll @ml (tw3 @hx @ad.eq_1 @ab.eq_1);(repeat(first|((repeat(revert N;apply g7));refine wk zF ?_;repeat(apply g6;intro N hN))|((try apply i3);refine⟨_,au.x (ez) (sd zF),?_⟩;apply hN;clear hN N)|((try apply i3);refine⟨_,au.x (U5) (sd zF),?_⟩;apply hN;clear hN N)|((try apply i3);refine⟨_,au.x (BM) (sd zF),?_⟩;apply hN;clear hN N)));try clear zF)
     refine .inr (ax _ _ _ _ _ (fun r σ1 hq=>?_) (s8 _ (tW (pD l i) _ d) ae (bI (bc l i).aH d) ob _ (sd (tw @bg @ml)) aI));obtain⟨g1,x1⟩:=σ1;obtain⟨o1,rfl,q1,q2,q3,q4,q5⟩:=hq;(try dsimp only at q1 q2 q3 q4 q5);apply hN;clear hN N;(try((repeat(revert N;apply g7));refine wk (tw3 @b5 @b0 @b4) ?_;repeat(apply g6;intro N hN)))
     exact ep (sd (tw4 @b5 @b0 @b4 @ab.eq_1)) (by exact⟨o1,sd @lL,sd (tw @q1 @lL),aI,by
      rcases q4 with h|h
      ·omega
      ·have:o1=ob:=by simpa using h
       rw[this];exact SC,fun x hx=>by
      have h1:=cR (i:=x) (n:=i9.next) ae;have h2:=cR (i:=x) (n:=i9.next+1) ae;have h3:=eB x hx;have h4:(x=ob)=False:=eq_false fun h=>by rw[h]at hx;omega
      have h5:=q5 x ae h4
      simp only[go_sem,↓reduceIte,Nat.reduceEqDiff,Nat.reduceAdd,Nat.reduceSub,Nat.reduceLeDiff,reduceCtorEq,h1,h2,h3,h5]⟩)
    ·have lL:gr l (fP l i) (bc l i).aH (d+1)=gr l (fP l i) (bc l i).aH d:=by
      simp only[gr,kQ];rw[if_neg fun h=>hx h.2]
     (have zF:=tw9 @b5 @b0 @b4 @b3 @bg @hd @ll @ml (tw3 @hx @ad.eq_1 @ab.eq_1);(repeat(first|((repeat(revert N;apply g7));refine wk zF ?_;repeat(apply g6;intro N hN))|((try apply i3);refine⟨_,au.x (ez) (sd zF),?_⟩;apply hN;clear hN N)|((try apply i3);refine⟨_,au.x (U5) (sd zF),?_⟩;apply hN;clear hN N)|((try apply i3);refine⟨_,au.x (BM) (sd zF),?_⟩;apply hN;clear hN N)));try clear zF)
     exact ep (sd (tw4 @b5 @b0 @b4 @ab.eq_1)) (by exact⟨ob,sd (tw @b3 @lL),sd (tw3 @bg @ml @lL),aI,SC,fun x hx=>by
      have h1:=cR (i:=x) (n:=i9.next) ae;have h2:=cR (i:=x) (n:=i9.next+1) ae;have h3:=eB x hx
      simp only[go_sem,↓reduceIte,Nat.reduceEqDiff,Nat.reduceAdd,Nat.reduceSub,Nat.reduceLeDiff,reduceCtorEq,h1,h2,h3]⟩)
  ·have Mc:d=4:=ae;rw[Mc]at b3 bg;have hnu:gr l (fP l i) (bc l i).aH 4=fP l (i+1):=rfl;rw[hnu]at b3 bg;(try((repeat(revert N;apply g7));refine wk (tw6 @b5 @b0 @b4 @b3 @bg @hd) ?_;repeat(apply g6;intro N hN)));exact dW (sd (tw4 @b5 @b0 @b4 @ab.eq_1)) (by exact⟨ob,sd @b3,sd @bg,aI,SC,fun x hx=>sd (eB x hx)⟩)
 ·have sO:i=l.length:=ae;(try((repeat(revert N;apply g7));refine wk (tw5 @a4 @a0 @a3 @ag @hi) ?_;repeat(apply g6;intro N hN)));exact eH (.inl rfl) (vs:=[.own o 0 (fP l i).length]) (sd @a3) ⟨o,by rw[jF,<-sO];rfl,by rw[jF,<-sO];simp only[go_sem,↓reduceIte,Nat.reduceEqDiff,Nat.reduceAdd,Nat.reduceSub,Nat.reduceLeDiff,reduceCtorEq,ag],aI,aI,.inl Sz,fun x hx _=>sd (eC x hx)⟩
def lK (s:ar) (l:List aa):Nat->List af
 |0=>jF l
 |i+1=>if ej s.cw.aq (bc l i).aH=(bc l i).bK then lK s l i else pG (lK s l i) (bc l i).aH
def fX (s:ar) (l:List aa):List af:=lK s l l.length
def iF (s:ar) (l:List aa):Option (af×Int):=((fX s l).find? fun p=>decide (0<=me s l p)).map fun p=>(p,me s l p)
def Rx:Option (af×Int)->List AV
 |none=>[.int .i64 0,.int .i64 0,.int .i64 0]
 |some (p,t)=>[.int .i64 p.eV,.int .i64 p.eR,.int .i64 t]
theorem qN (s:ar) (l:List aa):∀i,js (lK s l i)
 |0=>pD l _
 |i+1=>by
  simp only[lK];split
  ·exact qN s l i
  ·exact vD (qN s l i) _
theorem pj (s:ar) {l:List aa} (hF:jr l):∀i,i<=l.length->∀x∈lK s l i,s9 x=true
 |0,_,x,hx=>((oI l x).1 hx).1
 |i+1,hi,x,hx=>by
  simp only[lK]at hx
  split at hx
  ·exact pj s hF i ae x hx
  ·rcases(qY _ _ _).1 hx with rfl|h
   ·exact hF.pt ae
   ·exact pj s hF i ae x h
theorem wZ {s:ar} {l:List aa}:kU s l=0↔lW s/\fS s.ay l/\mC s.cw.aq l=true:=by
 unfold kU
 cases b:CE s l
 ·simp;intro h1 h2;exact absurd (yR.2 ⟨h1,h2⟩) (by rw[b];simp)
 ·obtain⟨h1,h2⟩:=yR.1 b
  cases mC s.cw.aq l<;>simp[h1,h2]
noncomputable def rH (s:ar) (l:List aa):Bool×Int:=if kU s l=0 then(!(iF s l).isSome,0)else(false,kU s l)
noncomputable def n9 (s:ar) (l:List aa):Option (af×Int)×Int:=if kU s l=0 then(iF s l,if (iF s l).isSome then 0 else 3)else(none,kU s l)
noncomputable def Qb (s:ar) (l:List aa) (p:af) (t:Int):Bool:=decide (¬ej l p=t)&&decide (s.aQ<=iT s.ay (ej l) p t)
structure MD (g:Rows) (n:Nat) (A S C c T O:Id) (s:ar) (l:List aa):Prop where
 a:∃b,g A=some ⟨b,1,[[.sl (l.map ad)]]⟩
 sy:∃b,g S=some ⟨b,4,[aK s]⟩
 p:∃b,g C=some ⟨b,1,[[.ptr c 0 0]]⟩
 CX:Bg g n c T O s l
 av:A.bH<n
 sv:S.bH<n
 pv:C.bH<n
theorem MD.ro {g:Rows} {n:Nat} {A S C c T O:Id} {s:ar} {l:List aa} (h:MD g n A S C c T O s l):MD (V.ro g) n A S C c T O s l:=by
 obtain⟨b,h1⟩:=h.a;obtain⟨b2,h2⟩:=h.sy;obtain⟨b3,h3⟩:=h.p;exact⟨⟨false,by simp[V.ro,h1]⟩,⟨false,by simp[V.ro,h2]⟩,⟨false,by simp[V.ro,h3]⟩,h.CX.ro,h.av,h.sv,h.pv⟩
theorem MD.frame {g g':Rows} {n n':Nat} {A S C c T O:Id} {s:ar} {l:List aa} (h:MD g n A S C c T O s l) (hn:n<=n') (hf:∀x:Id,x.bH<n->g' x=g x):MD g' n' A S C c T O s l:=
 ⟨by rw[hf _ h.av];exact h.a,by rw[hf _ h.sv];exact h.sy,by rw[hf _ h.pv];exact h.p,h.CX.frame hn (hf _ h.CX.cv) (hf _ h.CX.tv),Nat.lt_of_lt_of_le h.av hn,Nat.lt_of_lt_of_le h.sv hn,Nat.lt_of_lt_of_le h.pv hn⟩
theorem Py {σ:aw} {A S C c T O:Id} {s:ar} {l:List aa} (h:MD σ.get σ.next A S C c T O s l) (hS:gz s.ay) (hA:fS s.ay l) (p:af) (hx:iB p.eV) (hy:iB p.eR) (t:Int) (ht:eE s.ay t=true):
  Call Tryz.prog 76 [.agg (ab p),.int .i64 t,.ptr A 0 0,.ptr S 0 0,.ptr C 0 0] σ (fun r _=>r=.bool (Qb s l p t)):=by
 refine fG fx rfl fun fM=>?_;clear fM;obtain⟨b1,h1⟩:=h.a;obtain⟨b2,h2⟩:=h.sy;obtain⟨b3,h3⟩:=h.p;have v1:=cR h.av;have v2:=cR h.sv;have v3:=cR h.pv;have qb:=MI l p hA.1.pH (by have:=hA.1.oG;omega);have hb:=jK hS (ej l) p t 4
 by_cases h0:ej l p=t
 ·have hd:decide (ej l p=t)=true:=decide_eq_true h0
  (have zF:=tw9 @h1 @h2 @h3 @v1 @v2 @v3 @hd @aK.eq_1 @ab.eq_1;(repeat(first|((repeat(revert N;apply g7));refine wk zF ?_;repeat(apply g6;intro N hN))|((try apply i3);refine⟨_,au.x (qb) (sd zF),?_⟩;apply hN;clear hN N)));try clear zF)
  exact eH (.inl rfl) (vs:=[.bool false]) (sd @g8) (by rw[show Qb s l p t=false by simp[Qb,h0]];rfl)
 ·have hd:decide (ej l p=t)=false:=decide_eq_false h0
  (have zF:=tw9 @h1 @h2 @h3 @v1 @v2 @v3 @hd @aK.eq_1 @ab.eq_1;(repeat(first|((repeat(revert N;apply g7));refine wk zF ?_;repeat(apply g6;intro N hN))|((try apply i3);refine⟨_,au.x (qb) (sd zF),?_⟩;apply hN;clear hN N)));try clear zF)
  refine⟨_,Bp (h.CX.frame aI (by(have v4:=cR h.CX.cv);simp only[go_sem,↓reduceIte,Nat.reduceEqDiff,Nat.reduceAdd,Nat.reduceSub,Nat.reduceLeDiff,reduceCtorEq,v4]) (by(have v5:=cR h.CX.tv);simp only[go_sem,↓reduceIte,Nat.reduceEqDiff,Nat.reduceAdd,Nat.reduceSub,Nat.reduceLeDiff,reduceCtorEq,v5])) hS (gz.EF hA) p hx hy t ht,?_⟩;apply hN;clear hN N
  (have zF:=tw9 @h1 @h2 @h3 @v1 @v2 @v3 @hd @aK.eq_1 @ab.eq_1;(repeat(first|((repeat(revert N;apply g7));refine wk zF ?_;repeat(apply g6;intro N hN))|((try apply i3);refine⟨_,au.x (qb) (sd zF),?_⟩;apply hN;clear hN N)));try clear zF)
  exact eH (.inl rfl) (vs:=[.bool (decide (s.aQ<=iT s.ay (ej l) p t))]) (sd @g8) (by rw[show Qb s l p t=decide (s.aQ<=iT s.ay (ej l) p t) by simp[Qb,h0]];rfl)
theorem Pz {σ:aw} {A S C c T O:Id} {s:ar} {l:List aa} (h:MD σ.get σ.next A S C c T O s l) (hS:gz s.ay) (hA:fS s.ay l) (p:af) (hx:iB p.eV) (hy:iB p.eR) (t:Int) (ht:eE s.ay t=true):
  fm (Call Tryz.prog) 76 [.agg (ab p),.int .i64 t,.ptr A 0 0,.ptr S 0 0,.ptr C 0 0] σ (fun r=>r=.bool (Qb s l p t)):=by
 unfold fm PC;exact Or.inl (ax _ _ _ _ _ (fun r σ' hr=>⟨_,by rw[hr];exact aW _ _ _,rfl⟩) (Py (σ:=⟨V.ro σ.get,σ.next⟩) h.ro hS hA p hx hy t ht))
noncomputable def Bd (s:ar) (l:List aa) (p:af):Nat->List aa
 |0=>[]
 |t+1=>if Qb s l p (t:Nat)=true then Bd s l p t++[⟨p,(t:Nat)⟩]else Bd s l p t
noncomputable def sG (s:ar) (l:List aa) (ps:List af):List aa:=ps.flatMap fun p=>Bd s l p s.ay.aq.length
theorem D6 (s:ar) (l:List aa) (p:af):∀t,(Bd s l p t).length<=t
 |0=>by simp[Bd]
 |t+1=>by
  have:=D6 s l p t;rw[Bd]
  split
  ·rw[i6,List.length_singleton];omega
  ·omega
theorem J0 (s:ar) (l:List aa):∀ps:List af,(sG s l ps).length<=ps.length*s.ay.aq.length
 |[]=>by simp[sG]
 |p::ps=>by
  have h:=J0 s l ps;have h2:=D6 s l p s.ay.aq.length;unfold sG at *;rw[List.flatMap_cons,i6,List.length_cons,Nat.add_mul,Nat.one_mul];omega
theorem Pq {s:ar} {l:List aa} {ps:List af} {k:Nat} (hk:k<ps.length):sG s l (ps.take (k+1))=sG s l (ps.take k)++Bd s l (fI ps k) s.ay.aq.length:=by
 unfold sG;rw[List.take_succ_eq_append_getElem hk,List.flatMap_append,gp hk]
 simp
def Sw (m:Nat) (L:List aa) (v:AV) (g:Rows) (n:Nat):Prop:=(L=[]/\v=.ck)∨∃o:Id,v=.own o 0 L.length/\g o=some ⟨true,3,L.map ad⟩/\m<=o.bH/\o.bH<n/\0<L.length/\o.site=75009005
theorem LL {σ:aw} {A S C c T O:Id} {s:ar} {l:List aa} (h:MD σ.get σ.next A S C c T O s l) (hS:gz s.ay) (hA:fS s.ay l) (ps:List af) (X:List (List AV)) (hl:ps.length<=10000) (U5:∀p∈ps,s9 p=true) (o:Id) (qd:o.bH<σ.next) (ho:σ.get o=some ⟨true,2,ps.map ab++X⟩):
  Call Tryz.prog 75 [.ptr c 0 0,.own o 0 ps.length,.fn 76 [.ptr A 0 0,.ptr S 0 0,.ptr C 0 0]] σ (fun r σ'=>Sw σ.next (sG s l ps) r σ'.get σ'.next):=by
 refine fG fx rfl fun fM=>?_;clear fM;have AE:=hS.qj;have vo:=cR qd;(try((repeat(revert N;apply g7));refine wk (tw @ho @vo) ?_;repeat(apply g6;intro N hN)))
 refine cj (fun n env st=>∃k:Nat,n=(ps.length)-k/\k<=(ps.length)/\env 13=.int .i64 (k:Int)/\(σ.next<=st.next/\(∀y:Id,y.bH<σ.next->st.get y=σ.get y)/\Sw σ.next (sG s l (ps.take k)) (env 7) st.get st.next)) (ps.length) ⟨0,ae,ae,sl @g8,by(try dsimp only);exact⟨ae,fun y hy=>by
  have h1:=cR hy
  simp only[go_sem,↓reduceIte,Nat.reduceEqDiff,Nat.reduceAdd,Nat.reduceSub,Nat.reduceLeDiff,reduceCtorEq,h1],.inl ⟨rfl,sd @g8⟩⟩⟩ ?_
 rintro n_a m3 i8 ⟨k,rfl,ale,IM,mD⟩ eC;have a0:=eC 0 g9;have a2:=eC 2 g9;have TU:=eC 11 g9;have a12:=eC 12 g9;simp only[go_sem,↓reduceIte,Nat.reduceEqDiff,Nat.reduceAdd,Nat.reduceSub,Nat.reduceLeDiff,reduceCtorEq]at a0 a2 TU a12;clear eC;obtain⟨an,eC,a7⟩:=mD
 by_cases hk:(k:Int)<(ps.length:Int)
 ·have dW:∀{e:Env} {gg:Rows} {nx:Nat},(e 13=.int .i64 (IntKind.i64.wrap ((k:Int)+1)))->(σ.next<=nx/\(∀y:Id,y.bH<σ.next->gg y=σ.get y)/\Sw σ.next (sG s l (ps.take (k+1))) (e 7) gg nx)->∃m0,m0<(ps.length)-k/\∃k:Nat,m0=(ps.length)-k/\k<=(ps.length)/\e 13=.int .i64 (k:Int)/\(σ.next<=nx/\(∀y:Id,y.bH<σ.next->gg y=σ.get y)/\Sw σ.next (sG s l (ps.take k)) (e 7) gg nx):=fun x1 x2=>⟨_,ae,k+1,rfl,ae,(by rw[x1,aZ ae]),x2⟩;have iD:k<ps.length:=ae;have Di:=U5 _ (yB iD);obtain⟨hx,hy⟩:=np Di;have ha:MD i8.get i8.next A S C c T O s l:=h.frame an eC;obtain⟨b,h1⟩:=ha.CX.row;have v1:=cR ha.CX.cv;have sZ:=(eC o qd).trans ho;have vao:=cR (i:=o) (n:=i8.next) ae;have ib:(ps.map ab++X)[k]? =some (ab (fI ps k)):=by rw[List.getElem?_append_left (by simp;omega),oM iD]
  (try((repeat(revert N;apply g7));refine wk (tw9 @IM @a0 @a2 @TU @a12 @hk @h1 @v1 (tw4 @sZ @vao @ib @ab.eq_1)) ?_;repeat(apply g6;intro N hN)))
  have hB:(sG s l (ps.take k)).length<=10000*160:=by
   have h2:=J0 s l (ps.take k);have h3:(ps.take k).length*s.ay.aq.length<=10000*160:=Nat.mul_le_mul (by rw[List.length_take];omega) AE;omega
  refine cj (fun n env st=>∃t:Nat,n=(s.ay.aq.length)-t/\t<=(s.ay.aq.length)/\env 24=.int .i64 (t:Int)/\st.get ⟨75004002,i8.next+1⟩=some ⟨true,2,[ab (fI ps k)]⟩/\(i8.next+2<=st.next/\(∀y:Id,y.bH<σ.next->st.get y=σ.get y)/\Sw σ.next (sG s l (ps.take k)++Bd s l (fI ps k) t) (env 7) st.get st.next)) (s.ay.aq.length) ⟨0,ae,ae,sl (tw6 @IM @a0 @a2 @TU @a12 @ab.eq_1),sl (tw6 @IM @a0 @a2 @TU @a12 @ab.eq_1),by(try dsimp only);exact⟨ae,fun y hy=>by
   have h2:=cR (i:=y) (n:=i8.next) ae;have h3:=eC y hy
   simp only[go_sem,↓reduceIte,Nat.reduceEqDiff,Nat.reduceAdd,Nat.reduceSub,Nat.reduceLeDiff,reduceCtorEq,h2,h3],by
   rw[show Bd s l (fI ps k) 0=[]from rfl,List.append_nil]
   rcases a7 with⟨h2,h3⟩|⟨u,h2,h3,h4,h5,h6,h8⟩
   ·exact .inl ⟨h2,sd @h3⟩
   ·have h7:=cR h5
    exact .inr ⟨u,sd @h2,sd (tw @h3 @h7),h4,ae,h6,h8⟩⟩⟩ ?_
  rintro n_b m4 i9 ⟨t,rfl,ble,EG,bg0,bI0⟩ eB;have b0:=eB 0 g9;have b2:=eB 2 g9;have b9:=eB 9 g9;have wb:=eB 11 g9;have sK:=eB 12 g9;have rM:=eB 13 g9;have PO:=eB 23 g9;simp only[go_sem,↓reduceIte,Nat.reduceEqDiff,Nat.reduceAdd,Nat.reduceSub,Nat.reduceLeDiff,reduceCtorEq,IM,a0,a2,TU,a12,ab]at b0 b2 b9 wb sK rM PO;clear eB;obtain⟨bn,eB,b7⟩:=bI0;have hb:MD i9.get i9.next A S C c T O s l:=h.frame ae eB;have vZ:=cR (i:=⟨75004002,i8.next+1⟩) (n:=i9.next) aI
  have jL:(sG s l (ps.take k)++Bd s l (fI ps k) t).length<=16777215:=by
   have:=D6 s l (fI ps k) t;rw[i6];omega
  obtain⟨L,hL⟩:∃L,sG s l (ps.take k)++Bd s l (fI ps k) t=L:=⟨_,rfl⟩
  rw[hL]at b7 jL
  by_cases ht:(t:Int)<(s.ay.aq.length:Int)
  ·have ep:∀{e:Env} {gg:Rows} {nx:Nat},(e 24=.int .i64 (IntKind.i64.wrap ((t:Int)+1)))->(gg ⟨75004002,i8.next+1⟩=some ⟨true,2,[ab (fI ps k)]⟩)->(i8.next+2<=nx/\(∀y:Id,y.bH<σ.next->gg y=σ.get y)/\Sw σ.next (sG s l (ps.take k)++Bd s l (fI ps k) (t+1)) (e 7) gg nx)->∃m0,m0<(s.ay.aq.length)-t/\∃t:Nat,m0=(s.ay.aq.length)-t/\t<=(s.ay.aq.length)/\e 24=.int .i64 (t:Int)/\gg ⟨75004002,i8.next+1⟩=some ⟨true,2,[ab (fI ps k)]⟩/\(i8.next+2<=nx/\(∀y:Id,y.bH<σ.next->gg y=σ.get y)/\Sw σ.next (sG s l (ps.take k)++Bd s l (fI ps k) t) (e 7) gg nx):=fun x1 x2 x3=>⟨_,ae,t+1,rfl,ae,(by rw[x1,aZ ae]),x2,x3⟩;have KQ:t<s.ay.aq.length:=ae;(try((repeat(revert N;apply g7));refine wk (tw9 @EG @bg0 @b0 @b2 @b9 @wb @sK @rM (tw4 @PO @ht @vZ @ab.eq_1)) ?_;repeat(apply g6;intro N hN)))
   refine .inl ⟨_,Pz (hb.frame aI (fun y hy=>by
    have h2:=cR hy
    simp only[go_sem,↓reduceIte,Nat.reduceEqDiff,Nat.reduceAdd,Nat.reduceSub,Nat.reduceLeDiff,reduceCtorEq,h2])) hS hA (fI ps k) hx hy t (vN KQ),?_⟩
   apply hN;clear hN N
   cases hw:Qb s l (fI ps k) t
   ·have lL:sG s l (ps.take k)++Bd s l (fI ps k) (t+1)=L:=by rw[Bd,hw];exact hL
    (try((repeat(revert N;apply g7));refine wk (tw9 @EG @bg0 @b0 @b2 @b9 @wb @sK @rM (tw @PO @hw)) ?_;repeat(apply g6;intro N hN)))
    refine ep ?_ ?_ (by(try dsimp only);exact⟨ae,fun y hy=>by
     have h2:=cR (i:=y) (n:=i9.next) ae;have h3:=eB y hy
     simp only[go_sem,↓reduceIte,Nat.reduceEqDiff,Nat.reduceAdd,Nat.reduceSub,Nat.reduceLeDiff,reduceCtorEq,h2,h3],by
     rw[lL]
     rcases b7 with⟨h2,h3⟩|⟨u,h2,h3,h4,h5,h6,h8⟩
     ·exact .inl ⟨h2,sd @h3⟩
     ·have h7:=cR h5
      exact .inr ⟨u,sd @h2,sd (tw @h3 @h7),h4,ae,h6,h8⟩⟩)
    all_goals simp only[go_sem,↓reduceIte,Nat.reduceEqDiff,Nat.reduceAdd,Nat.reduceSub,Nat.reduceLeDiff,reduceCtorEq,EG,bg0,b0,b2,b9,wb,sK,rM,PO,vZ,ab]
   ·have lL:sG s l (ps.take k)++Bd s l (fI ps k) (t+1)=L++[⟨fI ps k,(t:Nat)⟩]:=by rw[Bd,hw,if_pos rfl,<-hL,List.append_assoc]
    have o9:(L++[(⟨fI ps k,(t:Nat)⟩:aa)]).length=L.length+1:=by rw[i6];rfl
    have j3:(L++[(⟨fI ps k,(t:Nat)⟩:aa)]).map ad=L.map ad++[[.int .i64 (fI ps k).eV,.int .i64 (fI ps k).eR,.int .i64 (t:Int)]]:=by rw[List.map_append];rfl
    rcases b7 with⟨h2,b7⟩|⟨u,b7,bu,h4,h5,h6,h8⟩
    ·subst h2;(try((repeat(revert N;apply g7));refine wk (tw9 @EG @bg0 @b0 @b2 @b9 @wb @sK @rM (tw5 @PO @b7 @hw @vZ @ab.eq_1)) ?_;repeat(apply g6;intro N hN)))
     refine ep ?_ ?_ (by(try dsimp only);exact⟨ae,fun y hy=>by
      have h2:=cR (i:=y) (n:=i9.next) ae;have h3:=eB y hy
      simp only[go_sem,↓reduceIte,Nat.reduceEqDiff,Nat.reduceAdd,Nat.reduceSub,Nat.reduceLeDiff,reduceCtorEq,h2,h3],.inr ⟨⟨75009005,i9.next+1+1+1⟩,by rw[lL,o9];simp only[go_sem,↓reduceIte,Nat.reduceEqDiff,Nat.reduceAdd,Nat.reduceSub,Nat.reduceLeDiff,reduceCtorEq]<;>rfl,by rw[lL,j3];simp only[go_sem,↓reduceIte,Nat.reduceEqDiff,Nat.reduceAdd,Nat.reduceSub,Nat.reduceLeDiff,reduceCtorEq]<;>rfl,aI,aI,by rw[lL,o9];omega,rfl⟩⟩)
     all_goals simp only[go_sem,↓reduceIte,Nat.reduceEqDiff,Nat.reduceAdd,Nat.reduceSub,Nat.reduceLeDiff,reduceCtorEq,EG,bg0,b0,b2,b9,wb,sK,rM,PO,vZ,ab]
    ·have JZ:=cR h5;have ux:((⟨75004002,i8.next+1⟩:Id)=u)=False:=eq_false fun e=>by rw[<-e]at h8;exact absurd (show(75004002:Nat)=75009005 from h8) (by decide)
     have eW:(L.map ad).length=L.length:=by simp
     (try((repeat(revert N;apply g7));refine wk (tw9 @EG @bg0 @b0 @b2 @b9 @wb @sK @rM (tw9 @PO @b7 @bu @hw @vZ @JZ @ux @eW (tw @jL @ab.eq_1))) ?_;repeat(apply g6;intro N hN)))
     refine ep ?_ ?_ (by(try dsimp only);exact⟨ae,fun y hy=>by
      have h2:=cR (i:=y) (n:=i9.next) ae;have h3:=eB y hy;have h9:=ew (a:=y) (b:=u) ae
      simp only[go_sem,↓reduceIte,Nat.reduceEqDiff,Nat.reduceAdd,Nat.reduceSub,Nat.reduceLeDiff,reduceCtorEq,h2,h3,h9],.inr ⟨⟨75009005,i9.next+1+1+1⟩,by rw[lL,o9];simp only[go_sem,↓reduceIte,Nat.reduceEqDiff,Nat.reduceAdd,Nat.reduceSub,Nat.reduceLeDiff,reduceCtorEq]<;>rfl,by rw[lL,j3];simp only[go_sem,↓reduceIte,Nat.reduceEqDiff,Nat.reduceAdd,Nat.reduceSub,Nat.reduceLeDiff,reduceCtorEq]<;>rfl,aI,aI,by rw[lL,o9];omega,rfl⟩⟩)
     all_goals simp only[go_sem,↓reduceIte,Nat.reduceEqDiff,Nat.reduceAdd,Nat.reduceSub,Nat.reduceLeDiff,reduceCtorEq,EG,bg0,b0,b2,b9,wb,sK,rM,PO,vZ,ux,ab]
  ·have ht4:t=s.ay.aq.length:=ae;subst ht4;(try((repeat(revert N;apply g7));refine wk (tw9 @EG @bg0 @b0 @b2 @b9 @wb @sK @rM (tw @PO @ht)) ?_;repeat(apply g6;intro N hN)))
   exact dW (sd (tw9 @IM @a0 @a2 @TU @a12 @EG @bg0 @b0 (tw6 @b2 @b9 @wb @sK @rM @PO))) (by(try dsimp only);exact⟨ae,fun y hy=>eB y hy,by
    rw[Pq iD,hL]
    rcases b7 with⟨h2,h3⟩|⟨u,h2,h3,h4,h5,h6,h8⟩
    ·exact .inl ⟨h2,sd @h3⟩
    ·exact .inr ⟨u,sd @h2,sd @h3,h4,ae,h6,h8⟩⟩)
 ·have l8:k=ps.length:=ae;subst l8;rw[List.take_length]at a7;(try((repeat(revert N;apply g7));refine wk (tw6 @IM @a0 @a2 @TU @a12 @hk) ?_;repeat(apply g6;intro N hN)));refine eH (.inl rfl) (vs:=[m3 7]) (sd @g8) ?_
  rcases a7 with⟨h2,h3⟩|⟨u,h2,h3,h4,h5,h6,h8⟩
  ·exact .inl ⟨h2,h3⟩
  ·exact .inr ⟨u,h2,h3,h4,aI,h6,h8⟩
noncomputable def gU (s:ar) (l:List aa) (x:af):Bool:=decide (0<=ej l x)&&decide (ej s.cw.aq x=ej l x)
theorem Kv:WR ab (fun c=>.agg (ab c)) 2 true:=⟨fun _=>rfl,fun _=>rfl,fun x g=>by simp only[ab,ah,aj,bb,aL,Option.map_some]⟩
theorem Gz (s:ar) (hS:fS s.ay s.cw.aq) (l:List aa) (hA:jr l) (x:af):au Tryz.prog 74 [.agg (ab x),.dZ [.sl (l.map ad)],.dZ (aK s)] (.bool (gU s l x)):=by
 refine au.body fx rfl fun hl n0=>?_;clear hl;have h1:=MI l x hA.pH (by have:=hA.oG;omega);have h2:=MI s.cw.aq x hS.1.pH (by have:=hS.1.oG;omega)
 by_cases h0:0<=ej l x
 ·(have zF:=tw3 @h0 @aK.eq_1 @ab.eq_1;(repeat(first|((repeat(revert N;apply g7));refine wk zF ?_;repeat(apply g6;intro N hN))|((try apply i3);refine⟨_,au.x (h1) (sd zF),?_⟩;apply hN;clear hN N)|((try apply i3);refine⟨_,au.x (h2) (sd zF),?_⟩;apply hN;clear hN N)));try clear zF)
  exact cZ (b:=decide (ej s.cw.aq x=ej l x)) (.inl rfl) (sd @g8) (by simp[gU,h0])
 ·(have zF:=tw3 @h0 @aK.eq_1 @ab.eq_1;(repeat(first|((repeat(revert N;apply g7));refine wk zF ?_;repeat(apply g6;intro N hN))|((try apply i3);refine⟨_,au.x (h1) (sd zF),?_⟩;apply hN;clear hN N)|((try apply i3);refine⟨_,au.x (h2) (sd zF),?_⟩;apply hN;clear hN N)));try clear zF)
  exact cZ (b:=false) (.inl rfl) (sd @g8) (by simp[gU,h0])
theorem KU (s:ar) (hS:fS s.ay s.cw.aq) (l:List aa) (hA:jr l) (ps:List af) (hl:ps.length<=1048576):au Tryz.prog 122 [.sl (ps.map ab),.fn 74 [.dZ [.sl (l.map ad)],.dZ (aK s)]] (.int .i64 (iP (gU s l) ps)):=
 nP Kv (show AJ Tryz.prog 122=some (pw 122 2 true) by kernel_rfl) ps hl 74 _ _ (fun x _=>Gz s hS l hA x) fun g=>by simp only[ah,aj,aJ,Option.map_some]
def fR (p:af->Bool) (l:List af):List af:=l.filter fun x=> !p x
theorem K3 (p:af->Bool) (l:List af):(fR p l).length<=l.length:=List.length_filter_le _ _
theorem tK {p:af->Bool} {l:List af} {j:Nat} (hj:j<l.length):fR p (l.take (j+1))=fR p (l.take j)++if p l[j]=true then[]else[l[j]]:=by
 unfold fR;rw[List.take_succ_eq_append_getElem hj,List.filter_append]
 congr 1
 cases h:p l[j]<;>simp[h]
theorem zw {p:af->Bool} {l:List af} (h:∀b∈l,p b=false):fR p l=l:=by
 unfold fR;rw[List.filter_eq_self];intro b hb;rw[h b hb];rfl
structure L7 (p:af->Bool) (bs:List af) (j:Nat) (R:List af):Prop where
 len:R.length=bs.length
 pre:R.take (fR p (bs.take j)).length=fR p (bs.take j)
 post:∀x,j<=x->R[x]? =bs[x]?
 lt:(fR p (bs.take j)).length<j
theorem L7.start {p:af->Bool} {bs:List af} {i:Nat} (hi:i<bs.length) (hw:p bs[i]=true) (hp:∀x (h:x<i),p bs[x]=false):L7 p bs (i+1) bs/\(fR p (bs.take (i+1))).length=i:=by
 have h1:fR p (bs.take i)=bs.take i:=zw fun b hb=>by
  obtain⟨x,hx,rfl⟩:=List.getElem_of_mem hb;rw[List.length_take]at hx;rw[List.getElem_take];exact hp x ae
 have h2:fR p (bs.take (i+1))=bs.take i:=by rw[tK hi,if_pos hw,List.append_nil,h1]
 have h3:(bs.take i).length=i:=by rw[List.length_take];omega
 exact⟨⟨rfl,by rw[h2,h3],fun _ _=>rfl,by rw[h2,h3];omega⟩,by rw[h2,h3]⟩
theorem L7.Pt {p:af->Bool} {bs R:List af} {j:Nat} (h:L7 p bs j R) (hj:j<bs.length) (hw:p bs[j]=true):L7 p bs (j+1) R/\(fR p (bs.take (j+1))).length=(fR p (bs.take j)).length:=by
 have h2:fR p (bs.take (j+1))=fR p (bs.take j):=by rw[tK hj,if_pos hw,List.append_nil]
 exact⟨⟨h.len,by rw[h2];exact h.pre,fun x hx=>h.post x ae,by rw[h2];have:=h.lt;omega⟩,by rw[h2]⟩
theorem L7.yc {p:af->Bool} {bs R:List af} {j:Nat} (h:L7 p bs j R) (hj:j<bs.length) (hw:p bs[j]=false):L7 p bs (j+1) (R.set (fR p (bs.take j)).length bs[j])/\(fR p (bs.take (j+1))).length=(fR p (bs.take j)).length+1:=by
 have h2:fR p (bs.take (j+1))=fR p (bs.take j)++[bs[j]]:=by rw[tK hj,hw];rfl
 have eG:=h.lt;have hlen:=h.len;have nH:=h.pre;generalize hc:(fR p (bs.take j)).length=c at *;refine⟨⟨by rw[List.length_set];exact hlen,?_,fun x hx=>?_,by rw[h2,i6,hc];simp;omega⟩,by rw[h2,i6,hc];rfl⟩
 ·rw[h2,i6,hc,List.length_singleton,List.take_succ_eq_append_getElem (by rw[List.length_set];omega),List.getElem_set_self,List.take_set_of_le i4,nH]
 ·rw[List.getElem?_set_ne ae];exact h.post x ae
theorem L7.at_ {p:af->Bool} {bs R:List af} {j:Nat} (h:L7 p bs j R) (hj:j<bs.length):(R.map ab)[j]? =some (ab bs[j]):=by
 rw[List.getElem?_map,h.post j (Nat.le_refl j),i5 hj];rfl
theorem Ho {p:af->Bool} {bs:List af} (h:¬0<=iP p bs):∀b∈bs,p b=false:=by
 intro b hb;unfold iP at h
 split at h
 ·omega
 ·rename_i h1;rw[List.findIdx_lt_length]at h1
  cases hp:p b
  ·rfl
  ·exact absurd ⟨b,hb,hp⟩ h1
theorem Hp {p:af->Bool} {bs:List af} (h:0<=iP p bs):∃i,∃hi:i<bs.length,iP p bs=(i:Int)/\p bs[i]=true/\∀x (hx:x<i),p (bs[x]'ae)=false:=by
 unfold iP at h ⊢
 split
 ·rename_i h1;exact⟨bs.findIdx p,h1,rfl,List.findIdx_getElem,fun x hx=>by simpa using List.not_of_lt_findIdx hx⟩
 ·rename_i h1;rw[if_neg h1]at h;omega
structure pU (n:Nat) (px:Nat->Option Nat) (L:Nat->Nat):Prop where
 top:∀k,k<n->px k=none->L k=k
 up:∀k j,k<n->px k=some j->j<k/\L j=L k
theorem pU.root {n:Nat} {px:Nat->Option Nat} {L:Nat->Nat} (h:pU n px L) (hL:mh L) {k:Nat} (hk:k<n) (hr:L k=k):px k=none:=by
 rcases hp:px k with _|j
 ·rfl
 ·obtain⟨h1,h2⟩:=h.up k j hk hp;have:=hL.le j;omega
theorem pU.start (n:Nat):pU n (fun _=>none) id:=⟨fun _ _ _=>rfl,fun _ _ _ h=>by cases h⟩
theorem pU.join {n:Nat} {px:Nat->Option Nat} {L:Nat->Nat} (h:pU n px L) (hL:mh L) (b:PB) (eG:min (L b.a) (L b.b)<max (L b.a) (L b.b)):pU n (fun k=>if k=max (L b.a) (L b.b)then some (min (L b.a) (L b.b))else px k) (eS L b):=by
 have ha:=hL.idem b.a;have hb:=hL.idem b.b
 have Dg:L (min (L b.a) (L b.b))=min (L b.a) (L b.b):=by
  rcases Nat.le_total (L b.a) (L b.b)with h|h
  ·rw[Nat.min_eq_left h,ha]
  ·rw[Nat.min_eq_right h,hb]
 have hmx:L (max (L b.a) (L b.b))=max (L b.a) (L b.b):=by
  rcases Nat.le_total (L b.a) (L b.b)with h|h
  ·rw[Nat.max_eq_right h,hb]
  ·rw[Nat.max_eq_left h,ha]
 unfold eS;generalize min (L b.a) (L b.b)=lo at *;generalize max (L b.a) (L b.b)=hi at *;refine⟨fun k hk hp=>?_,fun k j hk hp=>?_⟩
 ·by_cases PZ:k=hi
  ·rw[if_pos PZ]at hp;cases hp
  ·rw[if_neg PZ]at hp;have:=h.top k hk hp;rw[if_neg ae];exact this
 ·by_cases PZ:k=hi
  ·rw[if_pos PZ]at hp
   cases hp
   subst PZ;exact⟨eG,by rw[if_neg ae,if_pos hmx,Dg]⟩
  ·rw[if_neg PZ]at hp;obtain⟨h1,h2⟩:=h.up k j hk hp;exact⟨h1,by rw[h2]⟩
theorem Du {L:Nat->Nat} {b:PB} (h:L b.a=L b.b):eS L b=L:=by
 funext k
 unfold eS;rw[h,Nat.max_self,Nat.min_self]
 split
 ·rename_i h;exact h.symm
 ·rfl
def wJ (G:Nat->Id) (px:Nat->Option Nat) (k:Nat):List AV:=[match px k with|none=>.jk|some j=>.ptr (G j) 0 0,.int .i64 (k:Int)]
def xR (g:Rows) (G:Nat->Id) (n:Nat) (px:Nat->Option Nat):Prop:=∀k,k<n->g (G k)=some ⟨true,2,[wJ G px k]⟩
theorem xR.frame {g g':Rows} {G:Nat->Id} {n:Nat} {px:Nat->Option Nat} (h:xR g G n px) (hf:∀k,k<n->g' (G k)=g (G k)):xR g' G n px:=fun k hk=>(hf k hk).trans (h k hk)
theorem nL {G:Nat->Id} {px:Nat->Option Nat} {k:Nat} (h:px k=none):wJ G px k=[.jk,.int .i64 (k:Int)]:=by rw[wJ,h]
theorem xB {G:Nat->Id} {px:Nat->Option Nat} {k j:Nat} (h:px k=some j):wJ G px k=[.ptr (G j) 0 0,.int .i64 (k:Int)]:=by rw[wJ,h]
theorem C1 (G:Nat->Id) (n:Nat) (px:Nat->Option Nat) (L:Nat->Nat) (h:pU n px L) (k:Nat) (hk:k<n) (σ:aw) (hG:xR σ.get G n px):
  Call Tryz.prog 212 [.ptr (G k) 0 0] σ fun r σ'=>r=.ptr (G (L k)) 0 0/\σ'.get=σ.get/\σ.next<=σ'.next:=by
 refine fG fx rfl fun hl=>?_;clear hl;(try((repeat(revert N;apply g7));refine wk @g8 ?_;repeat(apply g6;intro N hN)));refine cj (fun m env st=>∃j:Nat,m=j/\j<n/\env 0=.ptr (G j) 0 0/\L j=L k/\st.get=σ.get/\σ.next<=st.next) k ⟨k,rfl,hk,sd @g8,rfl,by(try dsimp only),aI⟩ ?_;rintro m m4 i9 ⟨j,rfl,hj,b0,hLj,hg,hle⟩ eB;clear eB;have eP:=hG m hj
 rcases hp:px m with _|j
 ·rw[nL hp]at eP;(try((repeat(revert N;apply g7));refine wk (tw3 @b0 @hg @eP) ?_;repeat(apply g6;intro N hN)));exact eH (.inl rfl) (vs:=[.ptr (G m) 0 0]) (sd @g8) ⟨by rw[<-hLj,h.top m hj hp];rfl,by first|trivial|rfl|exact hg,aI⟩
 ·rw[xB hp]at eP;obtain⟨h1,h2⟩:=h.up m j hj hp;(try((repeat(revert N;apply g7));refine wk (tw3 @b0 @hg @eP) ?_;repeat(apply g6;intro N hN)));exact⟨j,h1,j,rfl,ae,sd @g8,ae,by first|trivial|rfl|exact hg,aI⟩
end V

namespace V
open Go.RowKit
attribute [local irreducible] dY wpOps fm Call
attribute [local go_sem] aD eU eA fh fc dq upd bV K.av cz AV.cells AV.cell rowOf rowsOf part ld rowAt fD bJ bQ dz dF fF br cQ dP e8 eF dh dI cM cL dr du bz aU cD bx cH cF dy dJ dH cB bF cP dG bt az cJ bY fE bd cr bD aP dc ba dj AV.undef bh bq dw dD dn dm cm dM dQ bW dL dK cI cK List.getD_cons_zero List.getD_cons_succ List.getD_nil List.all_cons List.all_nil Bool.and_true Bool.true_and Bool.and_self Bool.not_true Bool.not_false Option.map_some Option.map_none Option.bind_some Option.bind_none List.length_cons List.length_nil List.take_succ_cons List.take_zero List.take_nil List.drop_succ_cons List.drop_zero List.drop_nil List.head?_cons List.map_cons List.map_nil List.getElem?_cons_zero List.getElem?_cons_succ List.cons_append List.nil_append List.append_nil List.length_map List.set_cons_zero List.set_cons_succ eq_self Int.toNat_natCast Int.natCast_nonneg and_self true_and and_true decide_true decide_false Bool.false_eq_true Nat.zero_add Nat.add_zero List.contains_cons List.contains_nil Bool.or_false Bool.false_or beq_self_eq_true ne_eq not_true_eq_false not_false_eq_true Id.mk.injEq false_and and_false Nat.le_refl i6 beq_true beq_false Bool.not_eq_eq_eq_not or_false false_or ef ah aj aL aW bj bP aM bb aJ aY cq bp
abbrev mI:MK:=⟨false,[.tI]⟩
def wO (l:List (Nat×Nat)):List (List AV):=l.map fun p=>[.int .i64 (p.1:Int),.int .i64 (p.2:Int)]
theorem FD (r:Nat):∀(l:List (Nat×Nat)) (i:Nat),((∀p∈l,p.1≠r)->ig mI [.int .i64 (r:Int)] (wO l) i=some none)/\(∀j v,l[j]? =some (r,v)->(∀x y,x<j->l[x]? =some y->y.1≠r)->ig mI [.int .i64 (r:Int)] (wO l) i=some (some (i+j)))
 |[],i=>⟨fun _=>rfl,fun j v h=>by simp at h⟩
 |p::l,i=>by
  obtain⟨h1,h2⟩:=FD r l (i+1)
  by_cases h:p.1=r
  ·refine⟨fun hp=>absurd h (hp p (by simp)),fun j v hj hf=>?_⟩
   have S4:j=0:=by
    rcases Nat.eq_zero_or_pos j with h0|h0
    ·exact h0
    ·exact absurd h (hf 0 p h0 (by simp))
   subst S4;simp[wO,ig,eF,e8,MK.ks,h]
  ·have hd:¬((r:Int)=(p.1:Int)):=ae;have rW:¬r=p.1:=fun he=>h he.symm
   have step:ig mI [.int .i64 (r:Int)] (wO (p::l)) i=ig mI [.int .i64 (r:Int)] (wO l) (i+1):=by
    unfold wO;simp[ig,MK.ks,eF,e8,hd,rW,h]
   rw[step];refine⟨fun hp=>h1 fun q hq=>hp q (by simp[hq]),fun j v hj hf=>?_⟩
   cases j with
   |zero=>simp at hj;rw[hj]at h;exact absurd rfl h
   |succ j=>
    rw[h2 j v (by simpa using hj) fun x y hx hy=>hf (x+1) y ae (by simpa using hy)]
    congr 2;omega
theorem BQ {r:Nat} {l:List (Nat×Nat)}:((∀p∈l,p.1≠r)->gZ mI (.int .i64 (r:Int)) (wO l)=some none)/\(∀j v,l[j]? =some (r,v)->(∀x y,x<j->l[x]? =some y->y.1≠r)->gZ mI (.int .i64 (r:Int)) (wO l)=some (some j)):=by
 have e:gZ mI (.int .i64 (r:Int)) (wO l)=ig mI [.int .i64 (r:Int)] (wO l) 0:=by
  unfold gZ;rw[if_pos ⟨rfl,rfl,rfl⟩];rfl
 obtain⟨h1,h2⟩:=FD r l 0;rw[e];exact⟨h1,fun j v hj hf=>by rw[h2 j v hj hf,Nat.zero_add]⟩
def nh (k:Nat) (L:Nat->Nat):List (List AV):=wO (leads k L).zipIdx
theorem HX {k:Nat} {L:Nat->Nat} (h:L k=k):nh (k+1) L=nh k L++[[.int .i64 (k:Int),.int .i64 ((leads k L).length:Int)]]:=by
 unfold nh;rw[jo,if_pos h,List.zipIdx_append];simp[wO]
theorem HW {k:Nat} {L:Nat->Nat} (h:L k≠k):nh (k+1) L=nh k L:=by
 unfold nh;rw[jo,if_neg h,List.append_nil]
theorem Lh {k:Nat} {L:Nat->Nat} (h:L k=k):gZ mI (.int .i64 (k:Int)) (nh k L)=some none:=by
 refine BQ.1 fun p hp=>?_;have:=List.fst_mem_of_mem_zipIdx hp;have:=(B5.1 this).1;omega
theorem B4 {n:Nat} {L:Nat->Nat} {x y:Nat} (hx:x<(leads n L).length) (hy:y<(leads n L).length) (h:(leads n L)[x]=(leads n L)[y]):x=y:=by
 have hp:=List.pairwise_iff_getElem.1 (xG n L)
 rcases Nat.lt_trichotomy x y with eG|he|eG
 ·exact absurd h (hp x y hx hy eG)
 ·exact he
 ·exact absurd h.symm (hp y x hy hx eG)
theorem B3 {k:Nat} {L:Nat->Nat} (hL:mh L) (h:L k≠k):gZ mI (.int .i64 (L k:Int)) (nh k L)=some (some (dS L k))/\(nh k L)[dS L k]? =some [.int .i64 (L k:Int),.int .i64 (dS L k:Int)]/\dS L k<(leads k L).length:=by
 have eG:L k<k:=Nat.lt_of_le_of_ne (hL.le k) h;have hn:dS L (L k)=dS L k:=by rw[dS,hL.idem,dS]
 have hg:=rZ hL eG;rw[hn,hL.idem]at hg;have hl:dS L k<(leads k L).length:=(List.getElem?_eq_some_iff.1 hg).1;have hz:(leads k L).zipIdx[dS L k]? =some (L k,dS L k):=by simp[List.getElem?_zipIdx,hg]
 refine⟨BQ.2 _ _ hz fun x y hx hy=>?_,by unfold nh wO;rw[List.getElem?_map,hz];rfl,hl⟩;intro he;rw[List.getElem?_zipIdx]at hy;have hxl:x<(leads k L).length:=ae;rw[i5 hxl]at hy
 simp at hy
 rw[<-hy]at he
 simp at he
 have e2:(leads k L)[dS L k]=L k:=(List.getElem?_eq_some_iff.1 hg).2;have:=B4 hxl hl (he.trans e2.symm);omega
def lx (k:Nat) (L:Nat->Nat):List (List Nat):=(leads k L).map (members k L)
theorem tD (k:Nat) (L:Nat->Nat):(lx k L).length=(leads k L).length:=by simp[lx]
theorem HA {k:Nat} {L:Nat->Nat} (hL:mh L) (h:L k=k):lx (k+1) L=lx k L++[[k]]:=by
 unfold lx;rw[jo,if_pos h,List.map_append,List.map_cons,List.map_nil,kP,if_pos h,pA hL (Nat.le_refl k),List.nil_append]
 congr 1
 refine List.map_congr_left fun r hr=>?_;have:=(B5.1 hr).1;rw[kP,if_neg ae,List.append_nil]
theorem HB {k:Nat} {L:Nat->Nat} (hL:mh L) (h:L k≠k):(lx k L)[dS L k]? =some (members k L (L k))/\lx (k+1) L=(lx k L).set (dS L k) (members k L (L k)++[k]):=by
 obtain⟨_,_,hl⟩:=B3 hL h;have eG:L k<k:=Nat.lt_of_le_of_ne (hL.le k) h;have hg:=rZ hL eG;have hn:dS L (L k)=dS L k:=by rw[dS,hL.idem,dS]
 rw[hn,hL.idem]at hg;refine⟨by unfold lx;rw[List.getElem?_map,hg];rfl,?_⟩;unfold lx;rw[jo,if_neg h,List.append_nil];refine List.ext_getElem? fun i=>?_;rw[List.getElem?_set,List.getElem?_map,List.length_map]
 by_cases hi:dS L k=i
 ·subst hi;rw[if_pos rfl,if_pos hl,hg,Option.map_some,kP,if_pos rfl]
 ·rw[if_neg hi,List.getElem?_map]
  rcases hr:(leads k L)[i]? with _|r
  ·rfl
  ·rw[Option.map_some,Option.map_some,kP,if_neg,List.append_nil];rintro rfl;obtain⟨sO,he⟩:=List.getElem?_eq_some_iff.1 hr;have e2:(leads k L)[dS L k]=L k:=(List.getElem?_eq_some_iff.1 hg).2;exact hi (B4 hl sO (e2.trans he.symm))
theorem F0 (k:Nat) (L:Nat->Nat) (r:Nat):(members k L r).length<=k:=by
 have:=List.length_filter_le (fun x=>L x==r) (List.range k)
 simpa[members]using this
def PM (g:Rows) (o:Id) (L:List (List Nat)) (nx:Nat):Prop:=∃rows ids,g o=some ⟨true,1,rows⟩/\iS WT g rows L ids/\ids.Nodup/\(∀i∈ids,i.site=189026008/\i.bH<nx)/\o.site=189025002/\o.bH<nx
theorem QF {g':Rows} {v v' Mm j:Nat} (h1:g' ⟨189025002,v⟩=some ⟨true,1,[[.own ⟨189026008,v'⟩ 0 1]]⟩) (h2:g' ⟨189026008,v'⟩=some ⟨true,1,[eN j]⟩) (hv:v<Mm) (qq:v'<Mm):PM g' ⟨189025002,v⟩ [[j]] Mm:=
 ⟨_,[⟨189026008,v'⟩],h1,.one ⟨_,rfl,h2,rfl⟩,by simp,fun i hi=>by rw[List.mem_singleton.1 hi];exact⟨rfl,qq⟩,rfl,hv⟩
theorem PM.new {g:Rows} {o:Id} {L:List (List Nat)} {nx:Nat} (h:PM g o L nx) (j:Nat):∃rows,g o=some ⟨true,1,rows⟩/\rows.length=L.length/\∀(g':Rows) (v v' Mm:Nat),nx<=v'->v<Mm->v'<Mm->g' ⟨189025002,v⟩=some ⟨true,1,rows++[[.own ⟨189026008,v'⟩ 0 1]]⟩->g' ⟨189026008,v'⟩=some ⟨true,1,[eN j]⟩->(∀i:Id,i.site=189026008->i.bH<nx->g' i=g i)->PM g' ⟨189025002,v⟩ (L++[[j]]) Mm:=by
 obtain⟨rows,ids,h1,h2,h3,h4,h5,h6⟩:=h;refine⟨rows,h1,h2.len,fun g' v v' Mm hv tG Q4 q1 q2 q3=>⟨_,ids++[⟨189026008,v'⟩],q1,(h2.frame Vl fun i hi=>q3 i (h4 i hi).1 (h4 i hi).2).app (.one ⟨_,rfl,q2,rfl⟩),?_,fun i hi=>?_,rfl,tG⟩⟩
 ·refine List.nodup_append.2 ⟨h3,by simp,fun a ha b hb AP=>?_⟩;rw[List.mem_singleton.1 hb]at AP;have:=(h4 a ha).2;rw[AP]at this
  simp only at this
  omega
 ·rcases List.mem_append.1 hi with hi|hi
  ·have:=h4 i hi;exact⟨this.1,ae⟩
  ·rw[List.mem_singleton.1 hi];exact⟨rfl,Q4⟩
theorem PM.add {g:Rows} {o:Id} {L:List (List Nat)} {nx k:Nat} {La:List Nat} (h:PM g o L nx) (hk:L[k]? =some La) (j:Nat):∃rows id,g o=some ⟨true,1,rows⟩/\rows.length=L.length/\rows[k]? =some [.own id 0 La.length]/\g id=some ⟨true,1,La.map eN⟩/\id.site=189026008/\id.bH<nx/\∀(g':Rows) (v' Mm:Nat),nx<=v'->v'<Mm->g' o=some ⟨true,1,rows.set k [.own ⟨189026008,v'⟩ 0 (La.length+1)]⟩->g' ⟨189026008,v'⟩=some ⟨true,1,La.map eN++[[.int .i64 (j:Int)]]⟩->(∀i:Id,i.site=189026008->i.bH<nx->(i=id)=False->g' i=g i)->PM g' o (L.set k (La++[j])) Mm:=by
 obtain⟨rows,ids,h1,h2,h3,h4,h5,h6⟩:=h;have l8:k<L.length:=(List.getElem?_eq_some_iff.1 hk).1;have hLk:=zi hk l8;obtain⟨cs,ic,eD,hRv,hic,zq⟩:=h2.repl Vl h3 k l8;rw[hLk]at hRv;obtain⟨id,rfl,q1,rfl⟩:=hRv;have hid:=h4 id (hic id (by simp));refine⟨rows,id,h1,h2.len,eD,q1,hid.1,hid.2,fun g' v' Mm hv tG r1 r2 r3=>?_⟩
 obtain⟨NX,s1,s2,s3⟩:=zq g' [.own ⟨189026008,v'⟩ 0 (La.length+1)] (La++[j]) [⟨189026008,v'⟩] ⟨_,by simp,by rw[r2];simp[eN],rfl⟩ (fun i hi hni=>r3 i (h4 i hi).1 (h4 i hi).2 (by
  simp only[eq_iff_iff,iff_false];rintro rfl;exact hni (by simp))) (by simp) fun i hi hc=>by
   rw[List.mem_singleton.1 hi]at hc;have:=(h4 _ hc).2
   simp only at this
   omega
 refine⟨_,NX,r1,s1,s2,fun i hi=>?_,h5,ae⟩
 rcases s3 i hi with h|h
 ·rw[List.mem_singleton.1 h];exact⟨rfl,tG⟩
 ·have:=h4 i h;exact⟨this.1,ae⟩
def oq (G:Nat->Id) (n k:Nat):List (List AV):=(List.range n).map fun i=>[if i<k then .ptr (G i) 0 0 else .jk]
theorem oU (G:Nat->Id) (n k:Nat):(oq G n k).length=n:=by simp[oq]
theorem LK (G:Nat->Id) (n:Nat):List.replicate n [AV.jk]=oq G n 0:=by
 refine List.ext_getElem? fun i=>?_
 by_cases h:i<n
 ·rw[List.getElem?_replicate,if_pos h];simp[oq,h]
 ·rw[List.getElem?_eq_none (by simp;omega),List.getElem?_eq_none (by rw[oU];omega)]
theorem As {G:Nat->Id} {n i:Nat} (h:i<n):(oq G n n)[i]? =some [.ptr (G i) 0 0]:=by simp[oq,h]
theorem Pe {G:Nat->Id} {n k:Nat} (h:k<n):(oq G n k).set k [.ptr (G k) 0 0]=oq G n (k+1):=by
 refine List.ext_getElem? fun i=>?_;rw[List.getElem?_set,oU]
 by_cases hi:k=i
 ·subst hi;rw[if_pos rfl,if_pos h];simp[oq,h]
 ·rw[if_neg hi]
  by_cases jI:i<n
  ·simp only[oq,List.getElem?_map,List.getElem?_range jI,Option.map_some]
   by_cases BL:i<k
   ·rw[if_pos BL,if_pos ae]
   ·rw[if_neg BL,if_neg ae]
  ·rw[List.getElem?_eq_none (by rw[oU];omega),List.getElem?_eq_none (by rw[oU];omega)]
end V

namespace V
open Go.RowKit
attribute [local irreducible] dY wpOps fm Call
theorem j9 {o:Id} {a:Nat} (h:o.site=a) {b v:Nat} (AP:(a==b)=false):(o=⟨b,v⟩)=False/\((⟨b,v⟩:Id)=o)=False:=by
 have h1:=DS h (v:=v) AP;refine⟨h1,?_⟩;simp only[eq_iff_iff,iff_false]at h1 ⊢;exact fun h=>h1 h.symm
theorem zj (cnt:Nat) (AD:1<=cnt) (hn:cnt<=1048576) (bs:List PB) (hb:∀b∈bs,b.a<cnt/\b.b<cnt) (iy:bs.length<=1048576):au Tryz.prog 189 [.int .i64 cnt,.sl (bs.map da)] (.sl ((hZ cnt (fH bs)).map Ed)):=by
 intro n0;refine tg Ue rfl fun hl=>?_;simp only[zz0,zz1,zz2]
 try simp only[q]
 clear hl;have mv:(0:Int)<=(cnt:Int):=ae;have uh:(cnt:Int)<=((16777216:Nat):Int):=ae
 obtain⟨G,hG⟩:∃G:Nat->Id,G=fun k=>⟨189005004,n0+3+4*k+2⟩:=⟨_,rfl⟩
 have Z8:∀k,(G k).site=189005004:=fun k=>by rw[hG]
 have hGv:∀k,(G k).bH=n0+3+4*k+2:=fun k=>by rw[hG]
 have hGi:∀i j,i≠j->(G i=G j)=False:=fun i j h=>by
  simp only[eq_iff_iff,iff_false];intro he;have h1:=hGv i;rw[he,hGv j]at h1;omega
 have QL:∀i s v,(189005004==s)=false->(G i=⟨s,v⟩)=False:=fun i s v h=>DS (Z8 i) h;have hz:=LK G cnt;(try((repeat(revert N;apply g7));refine wk (tw4 @mv @uh @Int.le_refl @hz) ?_;repeat(apply g6;intro N hN)));refine cj (fun n env st=>∃k:Nat,n=(cnt)-k/\k<=(cnt)/\env 21=.int .i64 (k:Int)/\st.get ⟨189001001,n0+1⟩=some ⟨true,1,oq G cnt k⟩/\(st.next=n0+3+4*k/\∀j:Nat,j<k->st.get (G j)=some ⟨true,2,[[.jk,.int .i64 (j:Int)]]⟩)) (cnt) ⟨0,ae,ae,sl @hz,sl @hz,⟨rfl,fun j hj=>ae⟩⟩ ?_;rintro n_a m3 i8 ⟨k,rfl,ale,a21,eK,mD⟩ eC;have a0:=eC 0 g9;have a1:=eC 1 g9;have a5:=eC 5 g9;have TV:=eC 19 g9;have a20:=eC 20 g9;simp only[go_sem,↓reduceIte,Nat.reduceEqDiff,Nat.reduceAdd,Nat.reduceSub,Nat.reduceLeDiff,reduceCtorEq,hz]at a0 a1 a5 TV a20;clear eC;obtain⟨mD,qw⟩:=mD
 by_cases hk:(k:Int)<(cnt:Int)
 ·have dW:∀{e:Env} {gg:Rows} {nx:Nat},(e 21=.int .i64 (IntKind.i64.wrap ((k:Int)+1)))->(gg ⟨189001001,n0+1⟩=some ⟨true,1,oq G cnt (k+1)⟩)->(nx=n0+3+4*(k+1)/\∀j:Nat,j<(k+1)->gg (G j)=some ⟨true,2,[[.jk,.int .i64 (j:Int)]]⟩)->∃m0,m0<(cnt)-k/\∃k:Nat,m0=(cnt)-k/\k<=(cnt)/\e 21=.int .i64 (k:Int)/\gg ⟨189001001,n0+1⟩=some ⟨true,1,oq G cnt k⟩/\(nx=n0+3+4*k/\∀j:Nat,j<k->gg (G j)=some ⟨true,2,[[.jk,.int .i64 (j:Int)]]⟩):=fun x1 x2 x3=>⟨_,ae,k+1,rfl,ae,(by rw[x1,aZ ae]),x2,x3⟩;have iD:k<cnt:=ae;have tl:=oU G cnt k;have fV:=Pe (G:=G) iD;have gm:(oq G cnt k)[k]? =some [.jk]:=by simp[oq,iD]
  have Z6:(⟨189005004,i8.next+1+1⟩:Id)=G k:=by rw[hG,mD]
  have hGf:∀j,j<k->(G j=G k)=False:=fun j hj=>hGi j k ae;have Da:∀j,(G j=(⟨189001001,n0+1⟩:Id))=False:=fun j=>QL j _ _ (by decide)
  have HD:∀j,((⟨189001001,n0+1⟩:Id)=G j)=False:=fun j=>by
   have:=Da j;simp only[eq_iff_iff,iff_false]at this ⊢;exact fun h=>this h.symm
  (try((repeat(revert N;apply g7));refine wk (tw9 @a21 @eK @a0 @a1 @a5 @TV @a20 @hk (tw6 @tl @Z6 @Da @HD @fV @gm)) ?_;repeat(apply g6;intro N hN)))
  refine dW ?_ ?_ (by
   refine⟨by(try dsimp only)<;>omega,fun j hj=>?_⟩
   by_cases Df:j=k
   ·subst Df;simp only[go_sem,↓reduceIte,Nat.reduceEqDiff,Nat.reduceAdd,Nat.reduceSub,Nat.reduceLeDiff,reduceCtorEq,Z6,Da,HD]
   ·have hold:=qw j ae;have ju:=hGf j ae
    simp only[go_sem,↓reduceIte,Nat.reduceEqDiff,Nat.reduceAdd,Nat.reduceSub,Nat.reduceLeDiff,reduceCtorEq,Z6,Da,HD,ju,hold])
  all_goals simp only[go_sem,↓reduceIte,Nat.reduceEqDiff,Nat.reduceAdd,Nat.reduceSub,Nat.reduceLeDiff,reduceCtorEq,a21,eK,a0,a1,a5,TV,a20,Z6,Da,HD,fV]
 have l8:cnt=k:=ae;subst l8;(try((repeat(revert N;apply g7));refine wk (tw8 @a21 @eK @a0 @a1 @a5 @TV @a20 @hk) ?_;repeat(apply g6;intro N hN)));refine cj (fun n env st=>∃i:Nat,n=(bs.length)-i/\i<=(bs.length)/\env 33=.int .i64 (i:Int)/\st.get ⟨189001001,n0+1⟩=some ⟨true,1,oq G cnt cnt⟩/\(n0+3+4*cnt<=st.next)/\(∃px,pU cnt px (fH (bs.take i))/\xR st.get G cnt px)) (bs.length) ⟨0,ae,ae,sl (tw7 @a21 @eK @a0 @a1 @a5 @TV @a20),sl (tw7 @a21 @eK @a0 @a1 @a5 @TV @a20),aI,⟨fun _=>none,pU.start cnt,qw⟩⟩ ?_;rintro n_b m4 i9 ⟨i,rfl,ble,tj,bg0,bI0,bI1⟩ eB;have b0:=eB 0 g9;have b1:=eB 1 g9;have b5:=eB 5 g9;have Bn:=eB 31 g9;have sV:=eB 32 g9;simp only[go_sem,↓reduceIte,Nat.reduceEqDiff,Nat.reduceAdd,Nat.reduceSub,Nat.reduceLeDiff,reduceCtorEq,a21,eK,a0,a1,a5,TV,a20]at b0 b1 b5 Bn sV;clear eB;obtain⟨px,P5,Z7⟩:=bI1;have tl:=oU G cnt cnt;have X2:∀j v,(G j=(⟨189009002,v⟩:Id))=False:=fun j v=>QL j _ v (by decide);have Da:∀j v,(G j=(⟨189001001,v⟩:Id))=False:=fun j v=>QL j _ v (by decide)
 have HD:∀j v,((⟨189001001,v⟩:Id)=G j)=False:=fun j v=>by
  have:=Da j v;simp only[eq_iff_iff,iff_false]at this ⊢;exact fun h=>this h.symm
 have hGn:∀j,j<cnt->(G j).bH<i9.next:=fun j hj=>by rw[hGv];omega
 by_cases hi:(i:Int)<(bs.length:Int)
 ·have ep:∀{e:Env} {gg:Rows} {nx:Nat},(e 33=.int .i64 (IntKind.i64.wrap ((i:Int)+1)))->(gg ⟨189001001,n0+1⟩=some ⟨true,1,oq G cnt cnt⟩)->(n0+3+4*cnt<=nx)->(∃px,pU cnt px (fH (bs.take (i+1)))/\xR gg G cnt px)->∃m0,m0<(bs.length)-i/\∃i:Nat,m0=(bs.length)-i/\i<=(bs.length)/\e 33=.int .i64 (i:Int)/\gg ⟨189001001,n0+1⟩=some ⟨true,1,oq G cnt cnt⟩/\(n0+3+4*cnt<=nx)/\(∃px,pU cnt px (fH (bs.take i))/\xR gg G cnt px):=fun x1 x2 x3 x4=>⟨_,ae,i+1,rfl,ae,(by rw[x1,aZ ae]),x2,x3,x4⟩;have jI:i<bs.length:=ae;have ll:(bs.map da)[i]? =some (da bs[i]):=by simp[jI]
  have KH:=hb _ (List.getElem_mem jI);have lh:bs.take (i+1)=bs.take i++[bs[i]]:=List.take_succ_eq_append_getElem jI;have nN:fH (bs.take (i+1))=eS (fH (bs.take i)) bs[i]:=by rw[lh,zB]
  have hL:=BZ (bs.take i);generalize fH (bs.take i)=L at *;generalize bs[i]=b at *;have gA:=As (G:=G) KH.1;have gB:=As (G:=G) KH.2;have Fg:(b.a:Int)<(cnt:Int):=ae;have qc:(b.b:Int)<(cnt:Int):=ae;(try((repeat(revert N;apply g7));refine wk (tw9 @tj @bg0 @b0 @b1 @b5 @Bn @sV @hi (tw7 @ll @da.eq_1 @gA @gB @Fg @qc @tl)) ?_;repeat(apply g6;intro N hN)));refine mb (fun e s=>e 0=.int .i64 cnt/\e 1=.sl (bs.map da)/\e 5=.own ⟨189001001,n0+1⟩ 0 cnt/\e 31=.sl (bs.map da)/\e 32=.int .i64 bs.length/\e 33=.int .i64 i/\e 9=.ptr (G (L b.a)) 0 0/\e 10=.ptr (G (L b.b)) 0 0/\(∀j:Id,j.bH<i9.next->s.get j=i9.get j)/\i9.next<=s.next) ?_ ?_
  ·rintro e1 s1 ⟨m0,m1,m5,m31,m32,m33,m9,m10,mf,mn⟩;apply hN;clear hN N;have mG:xR s1.get G cnt px:=Z7.frame fun k hk=>mf _ (hGn k hk);have mt:=(mf ⟨189001001,n0+1⟩ aI).trans bg0;have YA:L b.a<cnt:=Nat.lt_of_le_of_lt (hL.le _) KH.1;have UX:L b.b<cnt:=Nat.lt_of_le_of_lt (hL.le _) KH.2;have ra:=mG _ YA;have rb:=mG _ UX;rw[nL (P5.root hL YA (hL.idem _))]at ra;rw[nL (P5.root hL UX (hL.idem _))]at rb
   have put:∀(g':Rows) (lo hi:Nat),hi<cnt->g' (G hi)=some ⟨true,2,[[.ptr (G lo) 0 0,.int .i64 (hi:Int)]]⟩->(∀k,k≠hi->k<cnt->g' (G k)=s1.get (G k))->xR g' G cnt (fun k=>if k=hi then some lo else px k):=fun g' lo hi _ h1 h2 k hk=>by
    by_cases PZ:k=hi
    ·subst PZ;rw[h1,xB (j:=lo) (if_pos rfl)]
    ·rw[h2 k PZ hk,mG k hk];unfold wJ;simp only[if_neg PZ]
   rcases Nat.lt_trichotomy (L b.a) (L b.b)with eG|heq|eG
   ·have UY:(L b.a:Int)<(L b.b:Int):=ae;have hj:=P5.join hL b ae;rw[Nat.max_eq_right ae,Nat.min_eq_left ae,<-nN]at hj;(try((repeat(revert N;apply g7));refine wk (tw9 @m0 @m1 @m5 @m31 @m32 @m33 @m9 @m10 (tw3 @ra @rb @UY)) ?_;repeat(apply g6;intro N hN)))
    refine ep ?_ ?_ aI (⟨_,hj,put _ _ _ UX (sd @g8) (fun k hk _=>by
     have ju:=hGi k _ hk
     simp only[go_sem,↓reduceIte,Nat.reduceEqDiff,Nat.reduceAdd,Nat.reduceSub,Nat.reduceLeDiff,reduceCtorEq,ju])⟩)
    all_goals simp only[go_sem,↓reduceIte,Nat.reduceEqDiff,Nat.reduceAdd,Nat.reduceSub,Nat.reduceLeDiff,reduceCtorEq,m0,m1,m5,m31,m32,m33,mt,Da,HD]
   ·have AD:¬(L b.a:Int)<(L b.b:Int):=ae;have Mh:¬(L b.b:Int)<(L b.a:Int):=ae;have GN:=Du heq;rw[GN]at nN;(try((repeat(revert N;apply g7));refine wk (tw9 @m0 @m1 @m5 @m31 @m32 @m33 @m9 @m10 (tw4 @ra @rb @AD @Mh)) ?_;repeat(apply g6;intro N hN)));refine ep ?_ ?_ aI (⟨_,nN▸P5,mG.frame fun k hk=>rfl⟩)
    all_goals simp only[go_sem,↓reduceIte,Nat.reduceEqDiff,Nat.reduceAdd,Nat.reduceSub,Nat.reduceLeDiff,reduceCtorEq,m0,m1,m5,m31,m32,m33,mt]
   ·have UY:(L b.b:Int)<(L b.a:Int):=ae;have AD:¬(L b.a:Int)<(L b.b:Int):=ae;have hj:=P5.join hL b ae;rw[Nat.max_eq_left ae,Nat.min_eq_right ae,<-nN]at hj;(try((repeat(revert N;apply g7));refine wk (tw9 @m0 @m1 @m5 @m31 @m32 @m33 @m9 @m10 (tw4 @ra @rb @UY @AD)) ?_;repeat(apply g6;intro N hN)))
    refine ep ?_ ?_ aI (⟨_,hj,put _ _ _ YA (sd @g8) (fun k hk _=>by
     have ju:=hGi k _ hk
     simp only[go_sem,↓reduceIte,Nat.reduceEqDiff,Nat.reduceAdd,Nat.reduceSub,Nat.reduceLeDiff,reduceCtorEq,ju])⟩)
    all_goals simp only[go_sem,↓reduceIte,Nat.reduceEqDiff,Nat.reduceAdd,Nat.reduceSub,Nat.reduceLeDiff,reduceCtorEq,m0,m1,m5,m31,m32,m33,mt,Da,HD]
  ·intro N hN;refine fJ ?_ ?_<;>(try((repeat(revert N;apply g7));refine wk (tw9 @tj @bg0 @b0 @b1 @b5 @Bn @sV @hi (tw7 @ll @da.eq_1 @gA @gB @Fg @qc @tl)) ?_;repeat(apply g6;intro N hN)))<;>(try refine fJ ?_ ?_)<;>(try((repeat(revert N;apply g7));refine wk (tw9 @tj @bg0 @b0 @b1 @b5 @Bn @sV @hi (tw7 @ll @da.eq_1 @gA @gB @Fg @qc @tl)) ?_;repeat(apply g6;intro N hN)))<;>(try refine fJ ?_ ?_)<;>(try((repeat(revert N;apply g7));refine wk (tw9 @tj @bg0 @b0 @b1 @b5 @Bn @sV @hi (tw7 @ll @da.eq_1 @gA @gB @Fg @qc @tl)) ?_;repeat(apply g6;intro N hN)))
   all_goals
    refine .inr (ax _ _ _ _ _ (fun r σ1 hq=>?_) (C1 G cnt px L P5 b.a KH.1 _ (Z7.frame fun k hk=>sd @X2)));obtain⟨g1,x1⟩:=σ1;obtain⟨rfl,AR,NH⟩:=hq;(try dsimp only at AR NH);subst AR;apply hN;clear hN N;(try((repeat(revert N;apply g7));refine wk (tw9 @tj @bg0 @b0 @b1 @b5 @Bn @sV @hi (tw7 @ll @da.eq_1 @gA @gB @Fg @qc @tl)) ?_;repeat(apply g6;intro N hN)));refine .inr (ax _ _ _ _ _ (fun r σ1 hq=>?_) (C1 G cnt px L P5 b.b KH.2 _ (Z7.frame fun k hk=>sd @X2)));obtain⟨g1,x2⟩:=σ1;obtain⟨rfl,AR,qV⟩:=hq;(try dsimp only at AR qV);subst AR;apply hN;clear hN N;(try((repeat(revert N;apply g7));refine wk (tw9 @tj @bg0 @b0 @b1 @b5 @Bn @sV @hi (tw7 @ll @da.eq_1 @gA @gB @Fg @qc @tl)) ?_;repeat(apply g6;intro N hN)))
    exact⟨sd (tw7 @tj @bg0 @b0 @b1 @b5 @Bn @sV),sd (tw7 @tj @bg0 @b0 @b1 @b5 @Bn @sV),sd (tw7 @tj @bg0 @b0 @b1 @b5 @Bn @sV),sd (tw7 @tj @bg0 @b0 @b1 @b5 @Bn @sV),sd (tw7 @tj @bg0 @b0 @b1 @b5 @Bn @sV),sd (tw7 @tj @bg0 @b0 @b1 @b5 @Bn @sV),sd (tw7 @tj @bg0 @b0 @b1 @b5 @Bn @sV),sd (tw7 @tj @bg0 @b0 @b1 @b5 @Bn @sV),fun j hj=>by
     have hv:=cR hj
     simp only[go_sem,↓reduceIte,Nat.reduceEqDiff,Nat.reduceAdd,Nat.reduceSub,Nat.reduceLeDiff,reduceCtorEq,hv],aI⟩
 have sO:i=bs.length:=ae;subst sO;rw[List.take_length]at P5;have hL:=BZ bs;generalize fH bs=L at *;(try((repeat(revert N;apply g7));refine wk (tw9 @tj @bg0 @b0 @b1 @b5 @Bn @sV @hi @tl) ?_;repeat(apply g6;intro N hN)));have l0:nh 0 L=[]:=rfl;have oS:(none:Option Nat).isSome=false:=rfl;have oT:∀a:Nat,(some a).isSome=true:=fun _=>rfl;refine cj (fun n env st=>∃x:Nat,n=(cnt)-x/\x<=(cnt)/\env 81=.int .i64 (x:Int)/\st.get ⟨189001001,n0+1⟩=some ⟨true,1,oq G cnt cnt⟩/\st.get ⟨189017000,i9.next+1+1⟩=some ⟨true,mI.j6,nh x L⟩/\(i9.next+3<=st.next/\xR st.get G cnt px)/\((x=0/\env 11=.ck)∨∃o:Id,env 11=.own o 0 (leads x L).length/\PM st.get o (lx x L) st.next)) (cnt) ⟨0,ae,ae,sl (tw8 @tj @bg0 @b0 @b1 @b5 @Bn @sV @l0),sl (tw8 @tj @bg0 @b0 @b1 @b5 @Bn @sV @l0),sl (tw8 @tj @bg0 @b0 @b1 @b5 @Bn @sV @l0),⟨aI,Z7.frame fun k hk=>by(have ju:=QL k 189017000 (i9.next+1+1) (by decide));simp only[go_sem,↓reduceIte,Nat.reduceEqDiff,Nat.reduceAdd,Nat.reduceSub,Nat.reduceLeDiff,reduceCtorEq,ju]⟩,.inl ⟨rfl,sd @g8⟩⟩ ?_;rintro n_c m7 m6 ⟨x,rfl,cle,c81,cg0,cg1,cI0,cI1⟩ jN;have qI:=jN 12 g9;have Qs:=jN 79 g9;have Qt:=jN 80 g9;simp only[go_sem,↓reduceIte,Nat.reduceEqDiff,Nat.reduceAdd,Nat.reduceSub,Nat.reduceLeDiff,reduceCtorEq,tj,bg0,b0,b1,b5,Bn,sV,l0]at qI Qs Qt;clear jN;obtain⟨lL,XE⟩:=cI0;have UB:∀j v,(G j=(⟨189017000,v⟩:Id))=False:=fun j v=>QL j _ v (by decide);have Ux:∀j v,(G j=(⟨189025002,v⟩:Id))=False:=fun j v=>QL j _ v (by decide);have Uz:∀j v,(G j=(⟨189025001,v⟩:Id))=False:=fun j v=>QL j _ v (by decide);have UA:∀j v,(G j=(⟨189026007,v⟩:Id))=False:=fun j v=>QL j _ v (by decide);have Uy:∀j v,(G j=(⟨189026008,v⟩:Id))=False:=fun j v=>QL j _ v (by decide)
 by_cases hx:(x:Int)<(cnt:Int)
 ·have jf:∀{e:Env} {gg:Rows} {nx:Nat},(e 81=.int .i64 (IntKind.i64.wrap ((x:Int)+1)))->(gg ⟨189001001,n0+1⟩=some ⟨true,1,oq G cnt cnt⟩)->(gg ⟨189017000,i9.next+1+1⟩=some ⟨true,mI.j6,nh (x+1) L⟩)->(i9.next+3<=nx/\xR gg G cnt px)->(((x+1)=0/\e 11=.ck)∨∃o:Id,e 11=.own o 0 (leads (x+1) L).length/\PM gg o (lx (x+1) L) nx)->∃m0,m0<(cnt)-x/\∃x:Nat,m0=(cnt)-x/\x<=(cnt)/\e 81=.int .i64 (x:Int)/\gg ⟨189001001,n0+1⟩=some ⟨true,1,oq G cnt cnt⟩/\gg ⟨189017000,i9.next+1+1⟩=some ⟨true,mI.j6,nh x L⟩/\(i9.next+3<=nx/\xR gg G cnt px)/\((x=0/\e 11=.ck)∨∃o:Id,e 11=.own o 0 (leads x L).length/\PM gg o (lx x L) nx):=fun x1 x2 x3 x4 x5=>⟨_,ae,x+1,rfl,ae,(by rw[x1,aZ ae]),x2,x3,x4,x5⟩;have hxn:x<cnt:=ae;have gX:=As (G:=G) hxn;have hlx:L x<cnt:=Nat.lt_of_le_of_lt (hL.le _) hxn;have ra:=XE _ hlx;rw[nL (P5.root hL hlx (hL.idem _))]at ra;have eW:=lz x L;(try((repeat(revert N;apply g7));refine wk (tw9 @c81 @cg0 @cg1 @qI @Qs @Qt @hx @gX @tl) ?_;repeat(apply g6;intro N hN)));refine .inr (ax _ _ _ _ _ (fun r σ1 hq=>?_) (C1 G cnt px L P5 x hxn _ (XE.frame fun k hk=>sd @g8)));obtain⟨g1,x1⟩:=σ1;obtain⟨rfl,AR,NH⟩:=hq;(try dsimp only at AR NH);subst AR;apply hN;clear hN N
  by_cases hr:L x=x
  ·rw[hr]at ra ⊢;have mA:=Lh hr;have P3:(leads (x+1) L).length=(leads x L).length+1:=by rw[jo,if_pos hr];simp
   have Mi:=HX hr;have hgu:=HA hL hr
   rcases cI1 with⟨rfl,Bt⟩|⟨o,Bt,cS⟩
   ·have hsc1:nh 1 L=[[.int .i64 ((0:Nat):Int),.int .i64 ((0:Nat):Int)]]:=Mi;(try((repeat(revert N;apply g7));refine wk (tw9 @c81 @cg0 @cg1 @qI @Qs @Qt @Bt @ra (tw6 @mA @l0 @oS @oT @Bool.not_false @Bool.not_true)) ?_;repeat(apply g6;intro N hN)));refine jf ?_ ?_ ?_ (by(try dsimp only);exact⟨ae,XE.frame fun k hk=>sd (tw5 @UB @Ux @Uy @Uz @UA)⟩) (.inr ⟨⟨189025002,x1+1+1+1+1⟩,by simp only[go_sem,↓reduceIte,Nat.reduceEqDiff,Nat.reduceAdd,Nat.reduceSub,Nat.reduceLeDiff,reduceCtorEq,P3];rfl,by rw[hgu];exact QF (v':=x1+1+1+1+1+1) (sd @g8) (sd @eN.eq_1) aI aI⟩)
    all_goals simp only[go_sem,↓reduceIte,Nat.reduceEqDiff,Nat.reduceAdd,Nat.reduceSub,Nat.reduceLeDiff,reduceCtorEq,c81,cg0,cg1,qI,Qs,Qt,hsc1]
   ·obtain⟨rows,sZ,AW,l9⟩:=cS.new x;rw[tD]at AW;have x9:o.site=189025002:=by obtain⟨_,_,_,_,_,_,h,_⟩:=cS;exact h
    have qd:o.bH<x1:=by obtain⟨_,_,_,_,_,_,_,h⟩:=cS;omega
    have wi:=cR qd;have YI:=j9 (o:=o) x9 (b:=189017000) (v:=i9.next+1+1) (by decide);have Xf:=j9 (o:=o) x9 (b:=189001001) (v:=n0+1) (by decide);have UC:∀k,(G k=o)=False:=fun k=>by simp only[eq_iff_iff,iff_false];intro h;have h1:=Z8 k;rw[h,x9]at h1;cases h1
    have ui:(rows++[[AV.ck]])[(leads x L).length]? =some [.ck]:=by rw[<-AW];simp
    have nI:∀a:List AV,(rows++[[AV.ck]]).set (leads x L).length a=rows++[a]:=fun a=>by rw[<-AW];simp
    have e1:(leads x L).length+1<=16777216:=ae;have e2:((leads x L).length:Int)<(((leads x L).length+1:Nat):Int):=ae;(try((repeat(revert N;apply g7));refine wk (tw9 @c81 @cg0 @cg1 @qI @Qs @Qt @Bt @ra (tw9 @mA @sZ @AW @wi @YI @ui @nI @e1 (tw5 @e2 @oS @oT @Bool.not_false @Bool.not_true))) ?_;repeat(apply g6;intro N hN)))
    refine jf ?_ ?_ ?_ (by(try dsimp only);exact⟨ae,XE.frame fun k hk=>sd (tw6 @UB @Ux @Uy @Uz @UA @UC)⟩) (.inr ⟨⟨189025002,x1+1+1+1+1⟩,sd @P3,by rw[hgu];exact l9 _ _ (x1+1+1+1+1+1) _ ae aI aI (sd @nI) (sd @eN.eq_1) (fun j hj hv=>by
     have q1:=cR (i:=j) (n:=x1) ae;have q2:=j9 hj (b:=189017000) (v:=i9.next+1+1) (by decide);have q3:(j=o)=False:=by simp only[eq_iff_iff,iff_false];intro h;rw[h,x9]at hj;cases hj
     simp only[go_sem,↓reduceIte,Nat.reduceEqDiff,Nat.reduceAdd,Nat.reduceSub,Nat.reduceLeDiff,reduceCtorEq,q1,q2,q3])⟩)
    all_goals simp only[go_sem,↓reduceIte,Nat.reduceEqDiff,Nat.reduceAdd,Nat.reduceSub,Nat.reduceLeDiff,reduceCtorEq,c81,cg0,cg1,qI,Qs,Qt,Mi,wi,YI,Xf]
  ·obtain⟨mA,hrw,eG⟩:=B3 hL hr;obtain⟨NB,hgu⟩:=HB hL hr;have P3:(leads (x+1) L).length=(leads x L).length:=by rw[jo,if_neg hr];simp
   have GN:=HW hr
   rcases cI1 with⟨rfl,Bt⟩|⟨o,Bt,cS⟩
   ·exact absurd (Nat.le_zero.1 (hL.le 0)) hr
   ·obtain⟨rows,id,sZ,AW,hrk,hid,ND,hidv,hadd⟩:=cS.add NB x;rw[tD]at AW;have x9:o.site=189025002:=by obtain⟨_,_,_,_,_,_,h,_⟩:=cS;exact h
    have qd:o.bH<x1:=by obtain⟨_,_,_,_,_,_,_,h⟩:=cS;omega
    have wi:=cR qd;have tG:=cR (i:=id) (n:=x1) ae;have ll:(dS L x:Int)<((leads x L).length:Int):=ae;have hmx:=F0 x L (L x);have hma:((members x L (L x)).map eN).length=(members x L (L x)).length:=by simp
    have e1:(members x L (L x)).length+1<=16777216:=ae;have hoi:(o=id)=False:=by simp only[eq_iff_iff,iff_false];rintro rfl;rw[ND]at x9;cases x9
    have hio:(id=o)=False:=by simp only[eq_iff_iff,iff_false];rintro rfl;rw[ND]at x9;cases x9
    have YI:=j9 (o:=o) x9 (b:=189017000) (v:=i9.next+1+1) (by decide);have Xf:=j9 (o:=o) x9 (b:=189001001) (v:=n0+1) (by decide);have hiM:=j9 (o:=id) ND (b:=189017000) (v:=i9.next+1+1) (by decide);have S3:=j9 (o:=id) ND (b:=189001001) (v:=n0+1) (by decide);have UC:∀k,(G k=o)=False:=fun k=>by simp only[eq_iff_iff,iff_false];intro h;have h1:=Z8 k;rw[h,x9]at h1;cases h1
    have hGoi:∀k,(G k=id)=False:=fun k=>by simp only[eq_iff_iff,iff_false];intro h;have h1:=Z8 k;rw[h,ND]at h1;cases h1
    (try((repeat(revert N;apply g7));refine wk (tw9 @c81 @cg0 @cg1 @qI @Qs @Qt @Bt @ra (tw9 @mA @hrw @sZ @AW @hrk @hid @wi @tG (tw9 @ll @hma @e1 @hoi @hio @YI @Xf @hiM (tw5 @S3 @oS @oT @Bool.not_false @Bool.not_true)))) ?_;repeat(apply g6;intro N hN)))
    refine jf ?_ ?_ ?_ (by(try dsimp only);exact⟨ae,XE.frame fun k hk=>sd (tw7 @UB @Ux @Uy @Uz @UA @UC @hGoi)⟩) (.inr ⟨o,sd (tw @P3 @Bt),by rw[hgu];exact hadd _ (x1+1+1) _ ae aI (sd @g8) (sd (tw4 @wi @tG @hoi @hio)) (fun j hj hv ox=>by
     have q1:=cR (i:=j) (n:=x1) ae;have q2:=j9 hj (b:=189017000) (v:=i9.next+1+1) (by decide);have q3:(j=o)=False:=by simp only[eq_iff_iff,iff_false];intro h;rw[h,x9]at hj;cases hj
     simp only[go_sem,↓reduceIte,Nat.reduceEqDiff,Nat.reduceAdd,Nat.reduceSub,Nat.reduceLeDiff,reduceCtorEq,q1,q2,q3,ox])⟩)
    all_goals simp only[go_sem,↓reduceIte,Nat.reduceEqDiff,Nat.reduceAdd,Nat.reduceSub,Nat.reduceLeDiff,reduceCtorEq,c81,cg0,cg1,qI,Qs,Qt,GN,wi,tG,YI,Xf,hiM,S3]
 have hxc:x=cnt:=ae
 rcases cI1 with⟨h0,_⟩|⟨o,Bt,rows,ids,sZ,hR,_,_,_,_⟩
 ·omega
 have AW:=hR.len;rw[tD]at AW;(try((repeat(revert N;apply g7));refine wk (tw9 @c81 @cg0 @cg1 @qI @Qs @Qt @hx @Bt @sZ) ?_;repeat(apply g6;intro N hN)));refine oP (.inl rfl) (by simp only[go_sem,↓reduceIte,Nat.reduceEqDiff,Nat.reduceAdd,Nat.reduceSub,Nat.reduceLeDiff,reduceCtorEq];rfl) ?_
 rw[uK sZ ae (rows':=(hZ cnt L).map Ed) (by
  rw[List.drop_zero,List.take_of_length_le ae]
  rw[hxc]at hR;exact Om 3 hR)]
theorem Pu (b:PB) (t:Int):au Tryz.prog 192 [.agg (da b),.dZ [.int .i64 t]] (.bool (decide (b.s<t))):=by
 refine au.body fx rfl fun hl n0=>?_;clear hl;(try((repeat(revert N;apply g7));refine wk @da.eq_1 ?_;repeat(apply g6;intro N hN)));exact cZ (b:=decide (b.s<t)) (.inl rfl) (sd @g8) rfl
theorem BP (bs:List PB) (t:Int) (hl:bs.length<=1048576):au Tryz.prog 213 [.sl (bs.map da),.fn 192 [.dZ [.int .i64 t]]] (.int .i64 (iP (fun b:PB=>decide (b.s<t)) bs)):=
 nP M3 (show AJ Tryz.prog 213=some (pw 213 3 true) by kernel_rfl) bs hl 192 _ _ (fun x _=>Pu x t) fun g=>by simp only[ah,aj,aJ,Option.map_some]
theorem MX (bs:List PB) (hp:0<bs.length) (hl:bs.length<=1048576) (σ:aw):
  Call Tryz.prog 191 [.sl (bs.map da)] σ fun r σ'=>∃o:Id,r=.own o 0 bs.length/\σ'.get o=some ⟨true,3,bs.map da⟩/\σ.next<=o.bH/\o.bH<σ'.next/\∀i:Id,i.bH<σ.next->σ'.get i=σ.get i:=by
 refine fG fx rfl fun hl=>?_;clear hl;have hz:=all_map (l:=bs) TH
 obtain⟨b,r,rfl⟩:∃b r,bs=b::r:=by
  cases bs with
  |nil=>simp at hp
  |cons b r=>exact⟨b,r,rfl⟩
 have eW:(List.map da (b::r)).length=(b::r).length:=by simp
 have e1:r.length<=16777215:=by simp at hl;omega
 rw[List.map_cons]at hz eW ⊢;(try((repeat(revert N;apply g7));refine wk (tw3 @hz @eW @e1) ?_;repeat(apply g6;intro N hN)));refine eH (.inl rfl) (vs:=[.own ⟨191003002,σ.next+1+1⟩ 0 (b::r).length]) (by simp only[ir,jw,go_sem,↓reduceIte,Nat.reduceEqDiff,Nat.reduceAdd,Nat.reduceSub,Nat.reduceLeDiff,reduceCtorEq,List.length_cons]) ⟨⟨191003002,σ.next+1+1⟩,rfl,sd @g8,aI,aI,fun i hi=>?_⟩;have hv:=cR hi;simp only[go_sem,↓reduceIte,Nat.reduceEqDiff,Nat.reduceAdd,Nat.reduceSub,Nat.reduceLeDiff,reduceCtorEq,hv]
theorem rA {t:Int} {bs:List PB} {j:Nat} (hj:j<bs.length):bZ t (bs.take (j+1))=bZ t (bs.take j)++if decide (bs[j].s<t)=true then[]else[bs[j]]:=by
 rw[xN t bs j hj]
 congr 1
 by_cases h:bs[j].s<t
 ·rw[if_neg ae,if_pos (decide_eq_true h)]
 ·rw[if_pos ae,if_neg (by simp only[decide_eq_true_eq];exact h)]
theorem xM {t:Int} {bs:List PB} (h:∀b∈bs,¬b.s<t):bZ t bs=bs:=by
 unfold bZ;rw[List.filter_eq_self];intro b hb;have:=h b hb;exact decide_eq_true ae
structure xQ (t:Int) (bs:List PB) (j:Nat) (R:List PB):Prop where
 len:R.length=bs.length
 pre:R.take (bZ t (bs.take j)).length=bZ t (bs.take j)
 post:∀x,j<=x->R[x]? =bs[x]?
 lt:(bZ t (bs.take j)).length<j
theorem xQ.start {t:Int} {bs:List PB} {i:Nat} (hi:i<bs.length) (hw:bs[i].s<t) (hp:∀x (h:x<i),¬bs[x].s<t):xQ t bs (i+1) bs/\(bZ t (bs.take (i+1))).length=i:=by
 have h1:bZ t (bs.take i)=bs.take i:=xM fun b hb=>by
  obtain⟨x,hx,rfl⟩:=List.getElem_of_mem hb;rw[List.length_take]at hx;rw[List.getElem_take];exact hp x ae
 have h2:bZ t (bs.take (i+1))=bs.take i:=by rw[rA hi,if_pos (decide_eq_true hw),List.append_nil,h1]
 have h3:(bs.take i).length=i:=by rw[List.length_take];omega
 exact⟨⟨rfl,by rw[h2,h3],fun _ _=>rfl,by rw[h2,h3];omega⟩,by rw[h2,h3]⟩
theorem xQ.Pt {t:Int} {bs R:List PB} {j:Nat} (h:xQ t bs j R) (hj:j<bs.length) (hw:bs[j].s<t):xQ t bs (j+1) R/\(bZ t (bs.take (j+1))).length=(bZ t (bs.take j)).length:=by
 have h2:bZ t (bs.take (j+1))=bZ t (bs.take j):=by rw[rA hj,if_pos (decide_eq_true hw),List.append_nil]
 exact⟨⟨h.len,by rw[h2];exact h.pre,fun x hx=>h.post x ae,by rw[h2];have:=h.lt;omega⟩,by rw[h2]⟩
theorem xQ.yc {t:Int} {bs R:List PB} {j:Nat} (h:xQ t bs j R) (hj:j<bs.length) (hw:¬bs[j].s<t):xQ t bs (j+1) (R.set (bZ t (bs.take j)).length bs[j])/\(bZ t (bs.take (j+1))).length=(bZ t (bs.take j)).length+1:=by
 have h2:bZ t (bs.take (j+1))=bZ t (bs.take j)++[bs[j]]:=by rw[rA hj,if_neg (by simp only[decide_eq_true_eq];exact hw)]
 have eG:=h.lt;have hlen:=h.len;have nH:=h.pre;generalize hc:(bZ t (bs.take j)).length=c at *;refine⟨⟨by rw[List.length_set];exact hlen,?_,fun x hx=>?_,by rw[h2,i6,hc];simp;omega⟩,by rw[h2,i6,hc];rfl⟩
 ·rw[h2,i6,hc,List.length_singleton,List.take_succ_eq_append_getElem (by rw[List.length_set];omega),List.getElem_set_self,List.take_set_of_le i4,nH]
 ·rw[List.getElem?_set_ne ae];exact h.post x ae
theorem xQ.at_ {t:Int} {bs R:List PB} {j:Nat} (h:xQ t bs j R) (hj:j<bs.length):(R.map da)[j]? =some (da bs[j]):=by
 rw[List.getElem?_map,h.post j (Nat.le_refl j),i5 hj];rfl
theorem Hk {p:PB->Bool} {bs:List PB} (h:¬0<=iP p bs):∀b∈bs,p b=false:=by
 intro b hb;unfold iP at h
 split at h
 ·omega
 ·rename_i h1;rw[List.findIdx_lt_length]at h1
  cases hp:p b
  ·rfl
  ·exact absurd ⟨b,hb,hp⟩ h1
theorem Hl {p:PB->Bool} {bs:List PB} (h:0<=iP p bs):∃i,∃hi:i<bs.length,iP p bs=(i:Int)/\p bs[i]=true/\∀x (hx:x<i),p (bs[x]'ae)=false:=by
 unfold iP at h ⊢
 split
 ·rename_i h1;exact⟨bs.findIdx p,h1,rfl,List.findIdx_getElem,fun x hx=>by simpa using List.not_of_lt_findIdx hx⟩
 ·rename_i h1;rw[if_neg h1]at h;omega
theorem Ko (bs:List PB) (t:Int) (hl:bs.length<=1048576) (o T:Id) (σ:aw) (ho:σ.get o=some ⟨true,3,bs.map da⟩) (hT:σ.get T=some ⟨true,1,[[.int .i64 t]]⟩) (qd:o.bH<σ.next) (Eg:T.bH<σ.next) (Xf:o≠T):
  Call Tryz.prog 190 [.own o 0 bs.length,.fn 192 [.ptr T 0 0]] σ fun r σ'=>∃rows,r=.own o 0 (bZ t bs).length/\σ'.get o=some ⟨true,3,rows⟩/\rows.take (bZ t bs).length=(bZ t bs).map da/\(bZ t bs).length<=rows.length/\σ.next<=σ'.next/\∀i:Id,i.bH<σ.next->i≠o->σ'.get i=σ.get i:=by
 refine fG fx rfl fun fM=>?_;clear fM;have BM:=BP bs t hl;have hzT:∀(g:Rows),g T=some ⟨true,1,[[.int .i64 t]]⟩->V.fz (ef g) 5 (.ptr T 0 0)=some (.dZ [.int .i64 t]):=fun g hg=>mO (sz:=1) (rows:=[[.int .i64 t]]) (by simp[ef,hg]) rfl (by simp only[List.drop_zero,ah,aj,aL,Option.map_some])
 have wq:∀(g:Rows),g T=some ⟨true,1,[[.int .i64 t]]⟩->g o=some ⟨true,3,bs.map da⟩->eM (ef g) 6 [.own o 0 bs.length,.fn 192 [.ptr T 0 0]]=some [.sl (bs.map da),.fn 192 [.dZ [.int .i64 t]]]:=fun g h1 h2=>by
  have q1:=gj (g:=ef g) (n:=5) (e:=da) (sz:=3) (len:=bs.length) (l:=bs) (id:=o) (by simp[ef,h2]) rfl fun b=>C3 _ 4 b;have q2:=hzT g h1;simp only[ah,aj,q1,cq,List.all_cons,List.all_nil,AV.cell,Bool.and_true,if_true,q2,Option.map_some]
 have qt:∀(g:Rows),g T=some ⟨true,1,[[.int .i64 t]]⟩->∀b:PB,eM (ef g) 6 [.agg (da b),.ptr T 0 0]=some [.agg (da b),.dZ [.int .i64 t]]:=fun g h1 b=>by
  have q3:V.fz (ef g) 6 (.ptr T 0 0)=some (.dZ [.int .i64 t]):=mO (sz:=1) (rows:=[[.int .i64 t]]) (by simp[ef,h1]) rfl (by simp only[List.drop_zero,ah,aj,aL,Option.map_some]);simp only[ah,aj,bb,C3,q3,Option.map_some]
 (try((repeat(revert N;apply g7));refine wk @g8 ?_;repeat(apply g6;intro N hN)));refine .inl ⟨_,au.x BM (wq _ hT ho),?_⟩;apply hN;clear hN N
 by_cases h0:0<=iP (fun b:PB=>decide (b.s<t)) bs
 ·obtain⟨i,hi,Jf,YM,GK⟩:=Hl h0;rw[Jf]at *;have Fs:decide ((i:Int)= -1)=false:=decide_eq_false ae;have Td:IntKind.i64.wrap ((i:Int)+1)=((i+1:Nat):Int):=aZ ae;obtain⟨ez,nI⟩:=xQ.start (t:=t) hi (by simpa using YM) (fun x hx=>by simpa using GK x hx);(try((repeat(revert N;apply g7));refine wk (tw @Fs @Td) ?_;repeat(apply g6;intro N hN)));refine cj (fun m env st=>∃(j:Nat) (R:List PB),m=bs.length-j/\env 6=.int .i64 (j:Int)/\env 5=.int .i64 ((bZ t (bs.take j)).length:Int)/\st.get o=some ⟨true,3,R.map da⟩/\xQ t bs j R/\j<=bs.length/\σ.next<=st.next/\∀x:Id,x.bH<σ.next->(x=o)=False->st.get x=σ.get x) (bs.length-(i+1)) ⟨i+1,bs,rfl,sd @Td,sd @nI,sd @ho,ez,ae,aI,fun x _ _=>sd @g8⟩ ?_;rintro m m4 i9 ⟨j,R,rfl,b6,b5,bg,hD,iL,hle,gQ⟩ eB;have b0:=eB 0 g9;have b1:=eB 1 g9;simp only[go_sem,↓reduceIte,Nat.reduceEqDiff,Nat.reduceAdd,Nat.reduceSub,Nat.reduceLeDiff,reduceCtorEq]at b0 b1;clear eB;have bT:=(gQ T Eg (by simp only[eq_iff_iff,iff_false];exact fun h=>Xf h.symm)).trans hT;have ml:=cR (i:=o) (n:=i9.next) ae;have hvT:=cR (i:=T) (n:=i9.next) ae;have UF:=hD.len;have Nt:(R.map da).length=bs.length:=by rw[List.length_map,UF]
  have eG:=hD.lt
  by_cases hj:(j:Int)<(bs.length:Int)
  ·have oy:j<bs.length:=ae;have zo:=hD.at_ oy;have YY:=Pu bs[j] t;have Jl:IntKind.i64.wrap ((j:Int)+1)=((j+1:Nat):Int):=aZ ae;have QJ:=hD.Pt oy;have QK:=hD.yc oy;generalize bs[j]=b at *;(try((repeat(revert N;apply g7));refine wk (tw9 @b0 @b1 @b5 @b6 @bg @hj @zo @da.eq_1 (tw3 @ml @hvT @Nt)) ?_;repeat(apply g6;intro N hN)));refine .inl ⟨_,au.x YY (qt _ (sd (tw @hvT @bT)) b),?_⟩;apply hN;clear hN N
   by_cases hw:b.s<t
   ·obtain⟨Ns,Nr⟩:=QJ hw;have hd:decide (b.s<t)=true:=decide_eq_true hw;(try((repeat(revert N;apply g7));refine wk (tw6 @b0 @b1 @b5 @b6 @hd @Jl) ?_;repeat(apply g6;intro N hN)));refine⟨_,?_,j+1,R,rfl,sd @Jl,sd (tw @b5 @Nr),sd (tw @bg @ml),Ns,ae,aI,fun x hx uV=>?_⟩
    ·omega
    ·have NW:=cR (i:=x) (n:=i9.next) ae;have:=gQ x hx uV;simp only[go_sem,↓reduceIte,Nat.reduceEqDiff,Nat.reduceAdd,Nat.reduceSub,Nat.reduceLeDiff,reduceCtorEq,NW,this]
   ·obtain⟨Ns,Nr⟩:=QK hw;have hd:decide (b.s<t)=false:=decide_eq_false hw;have Nw:((bZ t (bs.take j)).length:Int)<(bs.length:Int):=ae;have Tb:IntKind.i64.wrap (((bZ t (bs.take j)).length:Int)+1)=(((bZ t (bs.take j)).length+1:Nat):Int):=aZ ae;have fV:(R.map da).set (bZ t (bs.take j)).length [.int .i64 (b.a:Int),.int .i64 (b.b:Int),.int .i64 b.s]=(R.set (bZ t (bs.take j)).length b).map da:=by rw[List.map_set];rfl
    have Ei:∃y,(R.map da)[(bZ t (bs.take j)).length]? =some (da y):=⟨R[(bZ t (bs.take j)).length]'ae,by rw[List.getElem?_map,i5 ae];rfl⟩
    obtain⟨y,Ei⟩:=Ei;rw[da]at Ei;(try((repeat(revert N;apply g7));refine wk (tw9 @b0 @b1 @b5 @b6 @bg @hd @Jl @Tb (tw6 @Nw @fV @Ei @ml @hvT @Nt)) ?_;repeat(apply g6;intro N hN)));refine⟨_,?_,j+1,_,rfl,sd @Jl,sd (tw @Tb @Nr),sd @fV,Ns,ae,aI,fun x hx uV=>?_⟩
    ·omega
    ·have NW:=cR (i:=x) (n:=i9.next) ae;have:=gQ x hx uV;simp only[go_sem,↓reduceIte,Nat.reduceEqDiff,Nat.reduceAdd,Nat.reduceSub,Nat.reduceLeDiff,reduceCtorEq,NW,this,uV]
  ·have iL:j=bs.length:=ae;subst iL;have nH:=hD.pre;rw[List.take_length]at b5 eG nH;have Nw:((bZ t bs).length:Int)<=(bs.length:Int):=ae;have SR:(bZ t bs).length<=bs.length:=ae;have mV:(bZ t bs).length+(bs.length-(bZ t bs).length)=bs.length:=ae;have nI:=pL t bs;(try((repeat(revert N;apply g7));refine wk (tw9 @b0 @b1 @b5 @b6 @bg @hj @Nt @Nw (tw6 @SR @mV @Nat.le_refl @Nat.sub_zero @Int.le_refl @ml)) ?_;repeat(apply g6;intro N hN)));refine eH (.inl rfl) (vs:=[.own o 0 (bZ t bs).length]) (sd @g8) ⟨_,rfl,by simp only[go_sem,↓reduceIte,Nat.reduceEqDiff,Nat.reduceAdd,Nat.reduceSub,Nat.reduceLeDiff,reduceCtorEq];rfl,?_,?_,aI,fun x hx uV=>?_⟩
   ·have hm:List.take (bZ t bs).length (List.map da R)=(bZ t bs).map da:=by rw[<-List.map_take,nH]
    rw[hm,List.append_assoc,List.take_append_of_le_length (by simp),List.take_of_length_le (by simp)]
   ·have hm:List.take (bZ t bs).length (List.map da R)=(bZ t bs).map da:=by rw[<-List.map_take,nH]
    rw[hm];simp only[i6,List.length_map];omega
   ·have FB:(x=o)=False:=by simp only[eq_iff_iff,iff_false];exact uV
    have:=gQ x hx FB;simp only[go_sem,↓reduceIte,Nat.reduceEqDiff,Nat.reduceAdd,Nat.reduceSub,Nat.reduceLeDiff,reduceCtorEq,FB,this]
 ·have hn:=Hk h0;have ez:=xM (t:=t) (bs:=bs) fun b hb=>by simpa using hn b hb
  have hd:decide (iP (fun b:PB=>decide (b.s<t)) bs= -1)=true:=decide_eq_true (by
   unfold iP at h0 ⊢
   split
   ·rename_i h;rw[if_pos h]at h0;omega
   ·rfl)
  (try((repeat(revert N;apply g7));refine wk @hd ?_;repeat(apply g6;intro N hN)));refine eH (.inl rfl) (vs:=[.own o 0 bs.length]) (sd @g8) ⟨bs.map da,by rw[ez];rfl,sd @ho,by rw[ez,List.take_of_length_le (by simp)],by rw[ez];simp,aI,fun x _ _=>rfl⟩
theorem Kq (s:ar) (hS:fS s.ay s.cw.aq) (l:List aa) (hA:jr l) (ps X:List af) (hl:ps.length<=1048576) (o A S:Id) (σ:aw) (ho:σ.get o=some ⟨true,2,(ps++X).map ab⟩) (Yt:σ.get A=some ⟨true,1,[[.sl (l.map ad)]]⟩) (hgS:σ.get S=some ⟨true,4,[aK s]⟩) (qd:o.bH<σ.next) (hAv:A.bH<σ.next) (hSv:S.bH<σ.next) (hoA:o≠A) (hoS:o≠S):
  Call Tryz.prog 72 [.own o 0 ps.length,.fn 74 [.ptr A 0 0,.ptr S 0 0]] σ fun r σ'=>∃rows,r=.own o 0 (fR (gU s l) ps).length/\σ'.get o=some ⟨true,2,rows⟩/\rows.take (fR (gU s l) ps).length=(fR (gU s l) ps).map ab/\(fR (gU s l) ps).length<=rows.length/\σ.next<=σ'.next/\∀i:Id,i.bH<σ.next->i≠o->σ'.get i=σ.get i:=by
 refine fG fx rfl fun fM=>?_;clear fM;have BM:=KU s hS l hA ps hl;have Y1:∀(g:Rows) (n:Nat),g A=some ⟨true,1,[[.sl (l.map ad)]]⟩->V.fz (ef g) (n+1+1) (.ptr A 0 0)=some (.dZ [.sl (l.map ad)]):=fun g n hg=>mO (sz:=1) (rows:=[[.sl (l.map ad)]]) (by simp[ef,hg]) rfl (by simp only[List.drop_zero,ah,aj,bP,Option.map_some]);have hzS:∀(g:Rows) (n:Nat),g S=some ⟨true,4,[aK s]⟩->V.fz (ef g) (n+1+1) (.ptr S 0 0)=some (.dZ (aK s)):=fun g n hg=>mO (sz:=4) (rows:=[aK s]) (by simp[ef,hg]) rfl (by simp only[aK,List.drop_zero,ah,aj,bP,aL,Option.map_some])
 have wq:∀(g:Rows),g A=some ⟨true,1,[[.sl (l.map ad)]]⟩->g S=some ⟨true,4,[aK s]⟩->g o=some ⟨true,2,(ps++X).map ab⟩->eM (ef g) 6 [.own o 0 ps.length,.fn 74 [.ptr A 0 0,.ptr S 0 0]]=some [.sl (ps.map ab),.fn 74 [.dZ [.sl (l.map ad)],.dZ (aK s)]]:=fun g h1 h2 h3=>by
  have q1:V.fz (ef g) 6 (.own o 0 ps.length)=some (.sl (ps.map ab)):=by
   rw[uL];have:ef g o=some ⟨true,2,(ps++X).map ab⟩:=by simp[ef,h3]
   simp only[this,if_true];have h4:((ps++X).map ab).take ps.length=ps.map ab:=by rw[<-List.map_take,List.take_append_of_le_length i4,List.take_length]
   rw[if_pos (by simp),List.drop_zero,h4,pk fun x=>by simp only[ab,ah,aj,aL,Option.map_some]];rfl
  have q2:=Y1 g 3 h1;have q3:=hzS g 3 h2;simp only[ah,aj,q1,cq,List.all_cons,List.all_nil,AV.cell,Bool.and_true,if_true,q2,q3,Option.map_some]
 have qt:∀(g:Rows),g A=some ⟨true,1,[[.sl (l.map ad)]]⟩->g S=some ⟨true,4,[aK s]⟩->∀b:af,eM (ef g) 6 [.agg (ab b),.ptr A 0 0,.ptr S 0 0]=some [.agg (ab b),.dZ [.sl (l.map ad)],.dZ (aK s)]:=fun g h1 h2 b=>by
  have q2:=Y1 g 4 h1;have q3:=hzS g 4 h2;simp only[ah,aj,bb,ab,aL,q2,q3,Option.map_some]
 have iy:(ps++X).length=ps.length+X.length:=i6;have lh:∀j,j<=ps.length->(ps++X).take j=ps.take j:=fun j hj=>List.take_append_of_le_length hj;have jV:∀j (hj:j<ps.length),(ps++X)[j]'(by rw[iy];omega)=ps[j]:=fun j hj=>List.getElem_append_left hj;(try((repeat(revert N;apply g7));refine wk @g8 ?_;repeat(apply g6;intro N hN)));refine .inl ⟨_,au.x BM (wq _ Yt hgS ho),?_⟩;apply hN;clear hN N
 by_cases h0:0<=iP (gU s l) ps
 ·obtain⟨i,hi,Jf,YM,GK⟩:=Hp h0;rw[Jf]at *;have Fs:decide ((i:Int)= -1)=false:=decide_eq_false ae;have Td:IntKind.i64.wrap ((i:Int)+1)=((i+1:Nat):Int):=aZ ae;obtain⟨ez,nI⟩:=L7.start (p:=gU s l) (bs:=ps++X) (i:=i) (by rw[iy];omega) (by rw[jV i hi];exact YM) (fun x hx=>by rw[jV x ae];exact GK x hx);(try((repeat(revert N;apply g7));refine wk (tw @Fs @Td) ?_;repeat(apply g6;intro N hN)));refine cj (fun m env st=>∃(j:Nat) (R:List af),m=ps.length-j/\env 6=.int .i64 (j:Int)/\env 5=.int .i64 ((fR (gU s l) (ps.take j)).length:Int)/\st.get o=some ⟨true,2,R.map ab⟩/\L7 (gU s l) (ps++X) j R/\j<=ps.length/\σ.next<=st.next/\∀x:Id,x.bH<σ.next->(x=o)=False->st.get x=σ.get x) (ps.length-(i+1)) ⟨i+1,ps++X,rfl,sd @Td,by rw[<-lh (i+1) ae];simp only[go_sem,↓reduceIte,Nat.reduceEqDiff,Nat.reduceAdd,Nat.reduceSub,Nat.reduceLeDiff,reduceCtorEq,nI],sd @ho,ez,ae,aI,fun x _ _=>sd @g8⟩ ?_;rintro m m4 i9 ⟨j,R,rfl,b6,b5,bg,hD,iL,hle,gQ⟩ eB;have b0:=eB 0 g9;have b1:=eB 1 g9;simp only[go_sem,↓reduceIte,Nat.reduceEqDiff,Nat.reduceAdd,Nat.reduceSub,Nat.reduceLeDiff,reduceCtorEq]at b0 b1;clear eB;have bA:=(gQ A hAv (by simp only[eq_iff_iff,iff_false];exact fun h=>hoA h.symm)).trans Yt;have bS:=(gQ S hSv (by simp only[eq_iff_iff,iff_false];exact fun h=>hoS h.symm)).trans hgS;have ml:=cR (i:=o) (n:=i9.next) ae;have YT:=cR (i:=A) (n:=i9.next) ae;have hvS:=cR (i:=S) (n:=i9.next) ae;have UF:=hD.len;rw[iy]at UF;have Nt:(R.map ab).length=ps.length+X.length:=by rw[List.length_map,UF]
  have eG:=hD.lt
  by_cases hj:(j:Int)<(ps.length:Int)
  ·have oy:j<ps.length:=ae;have UT:j<(ps++X).length:=ae;have zo:=hD.at_ UT;have YY:=Gz s hS l hA (ps++X)[j];have Jl:IntKind.i64.wrap ((j:Int)+1)=((j+1:Nat):Int):=aZ ae;have QJ:=hD.Pt UT;have QK:=hD.yc UT;rw[lh j ae]at QJ QK eG;rw[lh (j+1) ae]at QJ QK;generalize (ps++X)[j]=b at *;(try((repeat(revert N;apply g7));refine wk (tw9 @b0 @b1 @b5 @b6 @bg @hj @zo @ab.eq_1 (tw4 @ml @YT @hvS @Nt)) ?_;repeat(apply g6;intro N hN)));refine .inl ⟨_,au.x YY (qt _ (sd (tw @YT @bA)) (sd (tw @hvS @bS)) b),?_⟩;apply hN;clear hN N
   cases hw:gU s l b
   ·obtain⟨Ns,Nr⟩:=QK hw;have Nw:((fR (gU s l) (ps.take j)).length:Int)<(ps.length:Int):=ae;have Tb:IntKind.i64.wrap (((fR (gU s l) (ps.take j)).length:Int)+1)=(((fR (gU s l) (ps.take j)).length+1:Nat):Int):=aZ ae;have fV:(R.map ab).set (fR (gU s l) (ps.take j)).length [.int .i64 b.eV,.int .i64 b.eR]=(R.set (fR (gU s l) (ps.take j)).length b).map ab:=by rw[List.map_set];rfl
    have Ei:∃y,(R.map ab)[(fR (gU s l) (ps.take j)).length]? =some (ab y):=⟨R[(fR (gU s l) (ps.take j)).length]'ae,by rw[List.getElem?_map,i5 ae];rfl⟩
    obtain⟨y,Ei⟩:=Ei;rw[ab]at Ei;(try((repeat(revert N;apply g7));refine wk (tw9 @b0 @b1 @b5 @b6 @bg @hw @Jl @Tb (tw5 @Nw @fV @Ei @ml @Nt)) ?_;repeat(apply g6;intro N hN)));refine⟨_,?_,j+1,_,rfl,sd @Jl,sd (tw @Tb @Nr),sd @fV,Ns,ae,aI,fun x hx uV=>?_⟩
    ·omega
    ·have NW:=cR (i:=x) (n:=i9.next) ae;have:=gQ x hx uV;simp only[go_sem,↓reduceIte,Nat.reduceEqDiff,Nat.reduceAdd,Nat.reduceSub,Nat.reduceLeDiff,reduceCtorEq,NW,this,uV]
   ·obtain⟨Ns,Nr⟩:=QJ hw;(try((repeat(revert N;apply g7));refine wk (tw6 @b0 @b1 @b5 @b6 @hw @Jl) ?_;repeat(apply g6;intro N hN)));refine⟨_,?_,j+1,R,rfl,sd @Jl,sd (tw @b5 @Nr),sd (tw @bg @ml),Ns,ae,aI,fun x hx uV=>?_⟩
    ·omega
    ·have NW:=cR (i:=x) (n:=i9.next) ae;have:=gQ x hx uV;simp only[go_sem,↓reduceIte,Nat.reduceEqDiff,Nat.reduceAdd,Nat.reduceSub,Nat.reduceLeDiff,reduceCtorEq,NW,this]
  ·have iL:j=ps.length:=ae;subst iL;have nH:=hD.pre;rw[lh _ i4]at eG nH;rw[List.take_length]at b5 eG nH;have Nw:((fR (gU s l) ps).length:Int)<=(ps.length:Int):=ae;have SR:(fR (gU s l) ps).length<=ps.length:=ae;have mV:(fR (gU s l) ps).length+(ps.length-(fR (gU s l) ps).length)=ps.length:=ae;have qV:ps.length<=ps.length+X.length:=ae;(try((repeat(revert N;apply g7));refine wk (tw9 @b0 @b1 @b5 @b6 @bg @hj @Nt @Nw (tw7 @SR @mV @qV @Nat.le_refl @Nat.sub_zero @Int.le_refl @ml)) ?_;repeat(apply g6;intro N hN)));have hm:List.take (fR (gU s l) ps).length (List.map ab R)=(fR (gU s l) ps).map ab:=by rw[<-List.map_take,nH]
   refine eH (.inl rfl) (vs:=[.own o 0 (fR (gU s l) ps).length]) (sd @g8) ⟨_,rfl,by simp only[go_sem,↓reduceIte,Nat.reduceEqDiff,Nat.reduceAdd,Nat.reduceSub,Nat.reduceLeDiff,reduceCtorEq];rfl,?_,?_,aI,fun x hx uV=>?_⟩
   ·rw[hm,List.append_assoc,List.take_append_of_le_length (by simp),List.take_of_length_le (by simp)]
   ·rw[hm];simp only[i6,List.length_map];omega
   ·have FB:(x=o)=False:=by simp only[eq_iff_iff,iff_false];exact uV
    have:=gQ x hx FB;simp only[go_sem,↓reduceIte,Nat.reduceEqDiff,Nat.reduceAdd,Nat.reduceSub,Nat.reduceLeDiff,reduceCtorEq,FB,this]
 ·have hn:=Ho h0;have ez:=zw (p:=gU s l) hn
  have hd:decide (iP (gU s l) ps= -1)=true:=decide_eq_true (by
   unfold iP at h0 ⊢
   split
   ·rename_i h;rw[if_pos h]at h0;omega
   ·rfl)
  (try((repeat(revert N;apply g7));refine wk @hd ?_;repeat(apply g6;intro N hN)));refine eH (.inl rfl) (vs:=[.own o 0 ps.length]) (sd @g8) ⟨(ps++X).map ab,by rw[ez];rfl,sd @ho,by rw[ez,<-List.map_take,List.take_append_of_le_length i4,List.take_length],by rw[ez];simp,aI,fun x _ _=>rfl⟩
theorem xJ:∀ps:List af,∃qs,js qs/\(∀x,x∈qs↔x∈ps)/\qs.length<=ps.length
 |[]=>⟨[],List.Pairwise.nil,fun x=>Iff.rfl,Nat.le_refl _⟩
 |p::r=>by
  obtain⟨qs,h1,h2,h3⟩:=xJ r;exact⟨pG qs p,vD h1 p,fun x=>by rw[qY,h2,List.mem_cons],by have:=z7 qs p;rw[List.length_cons];omega⟩
theorem T6 {l:List aa} (hR:iJ l) {j:Nat} (hj:j<l.length):ej l (bc l j).aH=(bc l j).bK:=by
 have h0:0<=ei l (bc l j).aH:=by
  rcases Int.lt_or_le (ei l (bc l j).aH) 0 with h|h
  ·exact absurd rfl (mX.1 h _ (e7 hj))
  ·exact h
 obtain⟨h1,h2⟩:=iz h0
 have h3:(ei l (bc l j).aH).toNat=j:=by
  rcases Nat.lt_trichotomy (ei l (bc l j).aH).toNat j with h|h|h
  ·have:=hR _ _ h hj;rw[h2,gJ]at this;cases this
  ·exact h
  ·have:=hR _ _ h h1;rw[h2,gJ]at this;cases this
 rw[ej,if_pos h0,h3]
theorem nQ (s:ar) (l:List aa) (x:af):∀i,x∈lK s l i↔x∈jF l∨∃j,j<i/\x=(bc l j).aH/\ej s.cw.aq x≠(bc l j).bK
 |0=>by simp[lK]
 |i+1=>by
  have ih:=nQ s l x i;rw[lK]
  split
  ·rename_i h;rw[ih]
   constructor
   ·rintro(h1|⟨j,h1,h2⟩)
    ·exact .inl h1
    ·exact .inr ⟨j,ae,h2⟩
   ·rintro(h1|⟨j,h1,h2,h3⟩)
    ·exact .inl h1
    ·by_cases hj:j=i
     ·subst hj;rw[h2]at h3;exact absurd h h3
     ·exact .inr ⟨j,ae,h2,h3⟩
  ·rename_i h;rw[qY,ih]
   constructor
   ·rintro(h1|h1|⟨j,h1,h2⟩)
    ·exact .inr ⟨i,ae,h1,by rw[h1];exact h⟩
    ·exact .inl h1
    ·exact .inr ⟨j,ae,h2⟩
   ·rintro(h1|⟨j,h1,h2,h3⟩)
    ·exact .inr (.inl h1)
    ·by_cases hj:j=i
     ·subst hj;exact .inl h2
     ·exact .inr (.inr ⟨j,ae,h2,h3⟩)
theorem K4 {p:af->Bool} {qs:List af} (h:js qs):js (fR p qs):=List.Pairwise.sublist List.filter_sublist h
theorem HQ (s:ar) (l:List aa) (hA:fS s.ay l) {qs:List af} (hR:js qs) (hm:∀x,x∈qs↔x∈nC l):fR (gU s l) qs=fX s l:=by
 refine yD (K4 hR) (qN s l _) fun x=>?_;unfold fR fX;rw[List.mem_filter,hm,yz,nQ,oI];unfold Bi
 constructor
 ·rintro⟨⟨t,ht,h1⟩,h2⟩
  by_cases h0:ei l x<0
  ·left
   rcases h1 with h1|⟨k,hk,h1,h3⟩
   ·exact absurd h1.symm (mX.1 h0 t ht)
   ·obtain⟨i,hi,rfl⟩:=List.getElem_of_mem ht;exact⟨h3,h0,i,k,hi,hk,by rw[ev hi];exact h1⟩
  ·right
   obtain⟨h4,h5⟩:=iz (l:=l) (p:=x) ae;refine⟨_,h4,h5.symm,fun e=>?_⟩;have h6:ej l x=(bc l (ei l x).toNat).bK:=by rw[ej,if_pos ae]
   have h7:=hA.2 _ (e7 h4);have h8:=(dV h7).1;simp[gU,h6,e]at h2;omega
 ·rintro(⟨h1,h2,i,d,h3,h4,h5⟩|⟨j,h1,h2,h3⟩)
  ·refine⟨⟨bc l i,e7 h3,.inr ⟨d,h4,h5,h1⟩⟩,?_⟩;have h6:ej l x= -1:=by rw[ej,if_neg ae]
   simp[gU,h6]
  ·refine⟨⟨bc l j,e7 h1,.inl h2⟩,?_⟩;have h6:ej l x=(bc l j).bK:=by rw[h2];exact T6 hA.1.pH h1
   simp[gU,h6,h3]
theorem J4 (s:ar) (hP:lW s) (l:List aa) (hA:fS s.ay l) (h0:l≠[]) (σ:aw):Call Tryz.prog 31 [.agg (aK s),.agg [.sl (l.map ad)]] σ (fun r σ'=>Sw σ.next (sG s l (fX s l)) r σ'.get σ'.next):=by
 refine fG fx rfl fun fM=>?_;clear fM;obtain⟨qs,hR,hm,hqa⟩:=xJ (nC l);have hkf:=HQ s l hA hR hm;have sM:=hA.1.oG;have NM:qs.length<=10000:=by have:=yh l;omega
 (try((repeat(revert N;apply g7));refine wk @aK.eq_1 ?_;repeat(apply g6;intro N hN)));refine .inr (ax _ _ _ _ _ (fun r σ1 hq=>?_) (DI s hP.set l hA _));obtain⟨g1,x1⟩:=σ1;obtain⟨c,T,O,rfl,hC,QP,Eg,HE,lL,gQ⟩:=hq;(try dsimp only at hC QP Eg HE lL gQ);have f1:=gQ ⟨31000000,σ.next⟩ aI;have f2:=gQ ⟨31000001,σ.next⟩ aI;simp only[go_sem,↓reduceIte,Nat.reduceEqDiff,Nat.reduceAdd,Nat.reduceSub,Nat.reduceLeDiff,reduceCtorEq]at f1 f2;apply hN;clear hN N;(try((repeat(revert N;apply g7));refine wk (tw @f1 @f2) ?_;repeat(apply g6;intro N hN)))
 have AO:k9 (bJ (bJ g1 ⟨31001003,x1⟩ ⟨true,1,[[.jk]]⟩) ⟨31001003,x1⟩ ⟨true,1,[[.ptr c 0 0]]⟩) (x1+1+1) c T O s l:=hC.frame ae fun x hx=>by
  have h1:=cR hx;simp only[go_sem,↓reduceIte,Nat.reduceEqDiff,Nat.reduceAdd,Nat.reduceSub,Nat.reduceLeDiff,reduceCtorEq,h1]
 refine .inr (ax _ _ _ _ _ (fun r σ2 hq=>?_) (MH (σ:=⟨bJ (bJ g1 ⟨31001003,x1⟩ ⟨true,1,[[.jk]]⟩) ⟨31001003,x1⟩ ⟨true,1,[[.ptr c 0 0]]⟩,x1+1+1⟩) AO hA.1 h0 qs hR hm));obtain⟨g2,x2⟩:=σ2;obtain⟨o,X,rfl,ho,qd,hox,Mh,HI,UH⟩:=hq;(try dsimp only at ho qd hox Mh HI UH);have SR:=hC.cv;have hTn:=hC.tv;have hOn:=hC.ov;have nT:∀x:Id,x.bH<T.bH∨T.bH<x.bH->x≠T:=fun x h e=>by subst e;omega
 have gS:=HI ⟨31000000,σ.next⟩ aI (nT _ aI);have gA:=HI ⟨31000001,σ.next⟩ aI (nT _ aI);have gC:=HI ⟨31001003,x1⟩ aI (nT _ aI);have gc:=(HI c ae hC.cT).trans AO.row;simp only[go_sem,↓reduceIte,Nat.reduceEqDiff,Nat.reduceAdd,Nat.reduceSub,Nat.reduceLeDiff,reduceCtorEq,f1,f2]at gS gA gC;apply hN;clear hN N;(try((repeat(revert N;apply g7));refine wk (tw3 @gS @gA @gC) ?_;repeat(apply g6;intro N hN)));refine .inr (ax _ _ _ _ _ (fun r σ3 hq=>?_) (Kq s hP.ud l hA.1 qs X ae o ⟨31000001,σ.next⟩ ⟨31000000,σ.next⟩ ⟨g2,_⟩ ho gA (by rw[aK];exact gS) aI aI aI (fun e=>by rw[e]at qd;(try dsimp only at qd);omega) (fun e=>by rw[e]at qd;(try dsimp only at qd);omega)));obtain⟨g3,x3⟩:=σ3;obtain⟨rows,rfl,h3o,h3t,h3l,QY,KK⟩:=hq;(try dsimp only at h3o h3t h3l QY KK);have l8:=K3 (gU s l) qs;rw[hkf]at h3t h3l l8 ⊢;have oS:(⟨31000000,σ.next⟩:Id)≠o:=fun e=>by rw[<-e]at qd;(try dsimp only at qd);omega
 have oA:(⟨31000001,σ.next⟩:Id)≠o:=fun e=>by rw[<-e]at qd;(try dsimp only at qd);omega
 have oC:(⟨31001003,x1⟩:Id)≠o:=fun e=>by rw[<-e]at qd;(try dsimp only at qd);omega
 have oc:c≠o:=fun e=>by rw[<-e]at qd;omega
 have oT:T≠o:=fun e=>by rw[<-e]at qd;omega
 have kS:=(KK ⟨31000000,σ.next⟩ aI oS).trans gS;have kA:=(KK ⟨31000001,σ.next⟩ aI oA).trans gA;have kC:=(KK ⟨31001003,x1⟩ aI oC).trans gC;have kc:=(KK c ae oc).trans gc;have kT:=(KK T ae oT).trans UH;apply hN;clear hN N;(try((repeat(revert N;apply g7));refine wk (tw3 @kS @kA @kC) ?_;repeat(apply g6;intro N hN)));have km:rows=(fX s l).map ab++rows.drop (fX s l).length:=by rw[<-h3t,List.take_append_drop]
 rw[km]at h3o;refine .inr (ax _ _ _ _ _ (fun r σ4 hq=>?_) (LL (σ:=⟨g3,_⟩) (T:=T) (O:=O) (s:=s) (l:=l) ⟨⟨_,kA⟩,⟨_,by rw[aK];exact kS⟩,⟨_,kC⟩,⟨⟨_,kc⟩,⟨_,kT⟩,aI,aI,aI⟩,aI,aI,aI⟩ hP.set hA (fX s l) (rows.drop (fX s l).length) ae (pj s hA.1 _ i4) o aI h3o));obtain⟨g4,x4⟩:=σ4;(try dsimp only at hq);apply hN;clear hN N
 rcases hq with⟨h2,h3⟩|⟨u,h2,h3,h4,h5,h6,h8⟩
 ·subst h3;(try((repeat(revert N;apply g7));refine wk @g8 ?_;repeat(apply g6;intro N hN)));exact eH (.inl rfl) (vs:=[.ck]) (sd @g8) (.inl ⟨h2,rfl⟩)
 ·subst h2;(try((repeat(revert N;apply g7));refine wk @g8 ?_;repeat(apply g6;intro N hN)));exact eH (.inl rfl) (vs:=[.own u 0 (sG s l (fX s l)).length]) (sd @g8) (.inr ⟨u,rfl,h3,ae,aI,h6,h8⟩)
end V

namespace V
open Go.RowKit Go.Shelf
attribute [local go_sem] Oper.semAt_some
structure sJ (W:World) (v:Value) (l:List aa):Prop where
 sl:∃A c,v=.slice A l.length c/\(l.length<=c/\c<=maxLen)/\(l=[]∨∃b o,A=some ⟨b,o,none⟩/\∀i,i<l.length->W.cell? ⟨b,o+(i*3+0),none⟩=some (.int .i64 (bc l i).aH.eV)/\W.cell? ⟨b,o+(i*3+1),none⟩=some (.int .i64 (bc l i).aH.eR)/\W.cell? ⟨b,o+(i*3+2),none⟩=some (.int .i64 (bc l i).bK))
structure Mu (K:World->World->Prop) (v:Value) (l:List aa):Prop where
 refl:∀W,K W W
 trans:∀{A B C:World},K A B->K B C->K A C
 of:∀{W W':World},Below W.heap.size W W'->K W W'
 size:∀{W W':World},K W W'->W.heap.size<=W'.heap.size
 typed:∀{W W':World},K W W'->∀(b:Nat) (cells:Array Value) (T:TypeId) (fr:Nat×Nat),W.heap[b]? =some (Obj.cells cells T fr)->T≠153->T≠188->W'.heap[b]? =W.heap[b]?
 pl:∀{W W':World},K W W'->sJ W v l->sJ W' v l
theorem yk {W:World} {b x:Nat} {v:Value} (h:W.cell? ⟨b,x,none⟩=some v):b<W.heap.size:=by
 rcases Nat.lt_or_ge b W.heap.size with h1|h1
 ·exact h1
 ·simp[World.cell?,Array.getElem?_eq_none h1]at h
theorem sJ.below {W W':World} {v:Value} {l:List aa} (h:sJ W v l) (k:Below W.heap.size W W'):sJ W' v l:=by
 obtain⟨A,c,rfl,hm,hc⟩:=h.sl;refine⟨A,c,rfl,hm,?_⟩
 rcases hc with h0|⟨b,o,rfl,nM⟩
 ·exact .inl h0
 ·refine .inr ⟨b,o,rfl,fun i hi=>?_⟩;obtain⟨h1,h2,h3⟩:=nM i hi;have hb:=yk h1;exact⟨(k.cell (p:=⟨b,_,none⟩) hb).trans h1,(k.cell (p:=⟨b,_,none⟩) hb).trans h2,(k.cell (p:=⟨b,_,none⟩) hb).trans h3⟩
theorem sJ.fw {P:Program} {W:World} {v:Value} {l:List aa} (h:sJ W v l):lH P W (fun b=>b<W.heap.size) (.sl (l.map ad)) v:=by
 obtain⟨A,c,rfl,hm,hc⟩:=h.sl
 rcases hc with rfl|⟨b,o,rfl,nM⟩
 ·exact .Er A c (by simpa using hm.2)
 by_cases wM:l=[]
 ·subst wM;exact .Er _ c (by simpa using hm.2)
 ·have oe:0<l.length:=List.length_pos_iff.2 wM;have hb:=yk (nM 0 oe).1;refine .sl (l.map ad) b o l.length c 3 (fun i j=>if j=0 then .int .i64 (bc l i).aH.eV else if j=1 then .int .i64 (bc l i).aH.eR else .int .i64 (bc l i).bK) (by simp) hm.1 hm.2 hb (fun cs eD=>?_) (fun cs eD a ha=>?_) (fun i j hi hj=>?_) (fun i j cs a hi hj=>?_)
  ·obtain⟨x,_,rfl⟩:=List.mem_map.1 eD;rfl
  ·obtain⟨x,_,rfl⟩:=List.mem_map.1 eD;simp[ad]at ha
   rcases ha with rfl|rfl|rfl<;>rfl
  ·obtain⟨h1,h2,h3⟩:=nM i hi
   match j,hj with
   |0,_=>exact h1
   |1,_=>exact h2
   |2,_=>exact h3
   |j+3,hj=>omega
  ·have sO:i<l.length:=by have:=(List.getElem?_eq_some_iff.1 hi).1;simpa using this
   rw[fZ sO]at hi;injection hi with hi
   subst hi
   match j,hj with
   |0,hj=>simp[ad]at hj;subst hj;exact .int _ _
   |1,hj=>simp[ad]at hj;subst hj;exact .int _ _
   |2,hj=>simp[ad]at hj;subst hj;exact .int _ _
   |j+3,hj=>simp[ad]at hj
theorem EM {P:Program} (hm:P.follows .mixedOrders=true) {f:Nat} {args:List AV} {vs:Array Value} {w:World} {r:AV} (h:au P f args r) (hr:∀g r0,iG g 6 r0=some r->r0=r) (hA:gI P w (fun b=>b<w.heap.size) (fun _=>none) args vs):
  Calls P f vs w fun e w'=>∃D ι u,e=.returned u/\dX P w' D ι r u/\Below w.heap.size w w':=by
 have hs:=iO hm (h 0) w.heap.size (fun b=>b<w.heap.size) (fun _=>none) w vs ⟨Nat.le_refl _,fun _ h=>h,fun id r h=>(by cases h),fun id lP r r' B B' h=>(by cases h)⟩ (fun id h=>absurd rfl h) hA;refine hs.mono ?_;rintro e w' ⟨r0,g',n',D',ι',u,rfl,⟨r',hz,rfl⟩,ez,hsim,_,_,jv⟩;have:=hr _ _ hz;subst this;exact⟨D',ι',u,rfl,jv,ez.below⟩
theorem qP {g:Rows} {n:Nat} {a:AV} {k:IntKind} {m:Int} (h:iG g (n+1) a=some (.int k m)):a=.int k m:=by
 cases a<;>rw[iG]at h<;>simp_all
 all_goals (repeat' (split at h))<;>simp_all
theorem Hw {g:Rows} {a:AV} {x y:Int} (h:iG g 6 a=some (.agg [.int .i64 x,.int .i64 y])):a=.agg [.int .i64 x,.int .i64 y]:=by
 cases a with
 |agg cs=>
  rw[mo]at h;simp only[i7,AV.agg.injEq,exists_eq_right]at h
  match cs,h with
  |[],h=>rw[cW]at h;simp at h
  |[a],h=>
   rw[bR,cW]at h
   cases ha:iG g 5 a<;>simp[ha]at h
  |[a,b],h=>
   rw[bR,bR,cW]at h
   cases ha:iG g 5 a<;>cases hb:iG g 5 b<;>simp[ha,hb]at h
   obtain⟨rfl,rfl⟩:=h;rw[qP ha,qP hb]
  |a::b::c::r,h=>
   rw[bR,bR,bR]at h
   cases ha:iG g 5 a<;>cases hb:iG g 5 b<;>cases hc:iG g 5 c<;>cases hd:fC g 5 r<;>simp[ha,hb,hc,hd]at h
 |_=>rw[iG]at h<;>simp_all<;>(repeat' (split at h))<;>simp_all
theorem Iq (W:World) (p:af) (d:Int) (hd:jj d 0 3=true) (hx:iB p.eV) (hy:iB p.eR):Calls Tryz.prog 123 #[.agg #[.int .i64 p.eV,.int .i64 p.eR],.int .i64 d] W fun e W'=>e=.returned (.agg #[.int .i64 (bI p d).eV,.int .i64 (bI p d).eR])/\Below W.heap.size W W':=by
 refine(EM mixed (xf p d hd hx hy) (fun g r0 h=>Hw h) ?_:Calls _ _ _ _ _).mono ?_
 ·exact oN (vs:= #[.int .i64 d]) (.agg _ _ (fun j=>if j=0 then .int .i64 p.eV else .int .i64 p.eR) rfl (fun a ha=>by simp[ab]at ha;rcases ha with rfl|rfl<;>rfl) (fun j hj=>by match j,hj with|0,_=>rfl|1,_=>rfl|j+2,hj=>simp[ab]at hj;omega) (fun j a ha=>by match j,ha with|0,ha=>simp[ab]at ha;subst ha;exact .int _ _|1,ha=>simp[ab]at ha;subst ha;exact .int _ _|j+2,ha=>simp[ab]at ha)) (oN (vs:= #[]) (.int _ _) Ab)
 ·rintro e W' ⟨D,ι,u,rfl,hr,hB⟩;refine⟨?_,hB⟩;obtain⟨vs,f,rfl,eT,_,h1,h2⟩:=jQ hr;have v0:=h1 0 (by simp[ab]);have v1:=h1 1 (by simp[ab]);rw[eh (h2 0 _ rfl)]at v0;rw[eh (h2 1 _ rfl)]at v1;obtain⟨vl⟩:=vs
  match vl,eT with
  |[a,b],_=>
   simp at v0 v1
   rw[v0,v1]
theorem A8 (W:World) (l:List aa) (v:Value) (hP:sJ W v l) (p:af) (hR:iJ l) (Jd:l.length<=1048576):Calls Tryz.prog 215 #[.agg #[v],.agg #[.int .i64 p.eV,.int .i64 p.eR]] W fun e W'=>e=.returned (.int .i64 (ei l p))/\Below W.heap.size W W':=by
 refine(EM mixed (Lw l p hR Jd) (fun g r0 h=>qP h) ?_:Calls _ _ _ _ _).mono ?_
 ·exact oN (vs:= #[.agg #[.int .i64 p.eV,.int .i64 p.eR]]) (.agg _ _ (fun _=>v) rfl (fun a ha=>by simp at ha;rw[ha];rfl) (fun j hj=>by match j,hj with|0,_=>rfl|j+1,hj=>simp at hj) (fun j a ha=>by match j,ha with|0,ha=>simp at ha;subst ha;exact hP.fw|j+1,ha=>simp at ha)) (oN (vs:= #[]) (.agg _ _ (fun j=>if j=0 then .int .i64 p.eV else .int .i64 p.eR) rfl (fun a ha=>by simp[ab]at ha;rcases ha with rfl|rfl<;>rfl) (fun j hj=>by match j,hj with|0,_=>rfl|1,_=>rfl|j+2,hj=>simp[ab]at hj;omega) (fun j a ha=>by match j,ha with|0,ha=>simp[ab]at ha;subst ha;exact .int _ _|1,ha=>simp[ab]at ha;subst ha;exact .int _ _|j+2,ha=>simp[ab]at ha)) Ab)
 ·rintro e W' ⟨D,ι,u,rfl,hr,hB⟩;exact⟨by rw[eh hr],hB⟩
theorem grown_of {W W':World} (h:Below W.heap.size W W'):W.grownBy W' none:=⟨h.os,h.tape,h.output,h.size,fun k hk _=>h.block k hk⟩
def F5 (l:List aa) (i:Nat) (d:Int):List (Nat×Nat×Int):=if 0<=ei l (bI (bc l i).aH d)then[(i,(ei l (bI (bc l i).aH d)).toNat,d)]else[]
def ni (l:List aa) (i m:Nat):List (Nat×Nat×Int):=(List.range m).flatMap fun j:Nat=>F5 l i (1-(j:Int))
def nJ (l:List aa) (n:Nat):List (Nat×Nat×Int):=(List.range n).flatMap fun i=>ni l i 2
theorem oJ (l:List aa) (n:Nat):nJ l (n+1)=nJ l n++ni l n 2:=by simp[nJ,List.range_succ]
theorem pC (l:List aa) (i m:Nat):ni l i (m+1)=ni l i m++F5 l i (1-(m:Int)):=by simp[ni,List.range_succ]
theorem Vn (l:List aa) {k m:Nat} (hk:k<l.length) (hm:m<=2):nJ l k++ni l k m <+:nJ l l.length:=by
 have h1:∀d,nJ l k <+:nJ l (k+d):=fun d=>by
  induction d with
  |zero=>exact List.prefix_refl _
  |succ d ih=>rw[<-Nat.add_assoc,oJ l (k+d)];exact ih.trans (List.prefix_append _ _)
 have h2:∀d,nJ l (k+1) <+:nJ l (k+1+d):=fun d=>by
  induction d with
  |zero=>exact List.prefix_refl _
  |succ d ih=>rw[<-Nat.add_assoc,oJ l (k+1+d)];exact ih.trans (List.prefix_append _ _)
 have h3:=h2 (l.length-(k+1));rw[show k+1+(l.length-(k+1))=l.length by omega,oJ]at h3;refine List.IsPrefix.trans ?_ h3
 have h4:ni l k m <+:ni l k 2:=by
  have:m=0∨m=1∨m=2:=ae
  rcases this with rfl|rfl|rfl
  ·exact List.nil_prefix
  ·rw[pC l k 1];exact List.prefix_append _ _
  ·exact List.prefix_refl _
 exact(List.prefix_append_right_inj _).2 h4
def Xx (l:List aa) (x:Nat×Nat×Int):Prop:=x.1<l.length/\x.2.1<l.length/\(0<=x.2.2/\x.2.2<=1)/\(x.2.1:Int)=ei l (bI (bc l x.1).aH x.2.2)
def I3 (x:Nat×Nat×Int):Array Value:= #[.agg #[.int .i64 (x.1:Int),.int .i64 (x.2.1:Int)],.int .i64 x.2.2]
theorem Q8 (l:List aa) (p:af) (h:0<l.length:=by omega):ei l p<(l.length:Int):=by
 unfold ei
 split<;>omega
theorem Za (l:List aa) (hA:jr l) (q Ba:Nat) (vS:Value) (K:World->World->Prop) (kl:Mu K vS l) (J Jx:List (Nat×Nat×Int)->World->Prop) (n:Nat) (hn:1<=n)
  (hY:∀pre x W,J pre W->pre.length<(nJ l l.length).length->Xx l x->YieldAt Fence.wide (n-1) Tryz.prog q (I3 x) W fun e W'=>
   (e=.returned (.bool true)/\J (pre++[x]) W'/\K W W')∨(e=.returned (.bool false)/\Jx (pre++[x]) W'))
  (W:World) (hJ:AbidesFrom W.heap.size J) (Uv:W.heap[Ba]? =some (.cells #[vS] 30 (0,0))) (hP:sJ W vS l) (h0:J [] W):
  CallsIn Fence.wide n Tryz.prog 214 #[.func (.yield q) #[] #[],.pointer (some ⟨Ba,0,none⟩)] W fun e W'=>(∃v,e=.returned v)/\
   ((∃ys,ys=nJ l l.length/\J ys W')∨(∃pre,pre <+:nJ l l.length/\Jx pre W')):=by
 obtain⟨A,cp,rfl,_,_⟩:=hP.sl;refine callsIn_of_wp Tryz.func214 rfl trivial ?_ rfl;simp only[Tryz.ntmps214,List.size_toArray,List.length_cons,List.length_nil,Nat.reduceAdd,Nat.reduceSub,Array.replicate_succ,Array.replicate_zero,List.push_toArray,List.append_toArray,List.nil_append,List.cons_append];have mv:W.cell? ⟨Ba,0,none⟩=some (.slice A l.length cp):=by simp[World.cell?,Uv]
 gi_wp2
 gi_loopw [11] (fun i wr=>∃k:Nat,k<=l.length/\i=.int .i64 k/\J (nJ l k) wr/\K W wr)
  (fun i _=>l.length-(intOf i).toNat)
 case atStart=>exact⟨0,Nat.zero_le _,rfl,h0,kl.refl _⟩
 case round=>
  obtain⟨k,hk,rfl,X3,hKt⟩:=hrel
  by_cases eG:k<l.length
  ·have eD:∃b o,A=some ⟨b,o,none⟩/\wr.cell? ⟨b,o+k*3,none⟩=some (.int .i64 (bc l k).aH.eV)/\wr.cell? ⟨b,o+k*3+1,none⟩=some (.int .i64 (bc l k).aH.eR)/\wr.cell? ⟨b,o+k*3+2,none⟩=some (.int .i64 (bc l k).bK):=by
    obtain⟨A',c',hv,_,hc⟩:=(kl.pl hKt hP).sl
    cases hv
    rcases hc with rfl|⟨b,o,rfl,nM⟩
    ·simp at eG
    ·obtain⟨h1,h2,h3⟩:=nM k eG;exact⟨b,o,rfl,by simpa using h1,by rw[Nat.add_assoc];exact h2,by rw[Nat.add_assoc];exact h3⟩
   obtain⟨b,o,rfl,hx,hy',ht⟩:=eD
   gi_wp2
   obtain⟨W2,Ya⟩:∃W2,(wr.alloc (.cells #[.int .i64 (bc l k).aH.eV,.int .i64 (bc l k).aH.eR,.int .i64 (bc l k).bK] 59)).alloc (.cells #[.int .i64 1,.int .i64 0] 2)=W2:=⟨_,rfl⟩
   have lO:Below wr.heap.size wr W2:=by rw[<-Ya];exact((Below.refl _ wr).alloc i4 _).alloc (by simp) _
   have hHt:W2.heap[wr.heap.size]? =some (.cells #[.int .i64 (bc l k).aH.eV,.int .i64 (bc l k).aH.eR,.int .i64 (bc l k).bK] 59 (0,0)):=by
    rw[<-Ya,Below.heap_alloc _ _ _ (by simp)];exact World.alloc_heap_new _ _
   have hHd:W2.heap[wr.heap.size+1]? =some (.cells #[.int .i64 1,.int .i64 0] 2 (0,0)):=by
    have:=World.alloc_heap_new (wr.alloc (.cells #[.int .i64 (bc l k).aH.eV,.int .i64 (bc l k).aH.eR,.int .i64 (bc l k).bK] 59)) (.cells #[.int .i64 1,.int .i64 0] 2);rw[World.size_alloc]at this;rw[<-Ya];exact this
   have WY:K W W2:=kl.trans hKt (kl.of lO)
   have hJ2:J (nJ l k++ni l k 0) W2:=by
    have:=hJ _ _ _ none X3 (grown_of lO) (fun r h=>by cases h)
    simpa[ni]using this
   rw[Ya];clear Ya;generalize wr=w1 at *
   gi_loopw [18] (fun j wr=>∃m:Nat,m<=2/\j=.int .i64 m/\J (nJ l k++ni l k m) wr/\K W2 wr)
    (fun j _=>2-(intOf j).toNat)
   case atStart=>exact⟨0,ae,rfl,hJ2,kl.refl _⟩
   case round=>
    obtain⟨m,hm,rfl,hJm,SK⟩:=hrel;have UZ:m=0∨m=1∨m=2:=ae
    by_cases HK:m<2
    ·have hkd:=kl.typed SK _ _ _ _ hHd (by decide) (by decide);have Xb:=kl.typed SK _ _ _ _ hHt (by decide) (by decide);have hka:=kl.typed (kl.trans WY SK) _ _ _ _ Uv (by decide) (by decide)
     have cd:wr.cell? ⟨w1.heap.size+1,m,none⟩=some (.int .i64 (1-(m:Int))):=by
      rw[World.cell?_of_block hkd]
      rcases UZ with rfl|rfl|rfl
      ·simp[World.cell?,hHd]
      ·simp[World.cell?,hHd]
      ·omega
     have ct0:wr.cell? ⟨w1.heap.size,0,none⟩=some (.int .i64 (bc l k).aH.eV):=by rw[World.cell?_of_block Xb];simp[World.cell?,hHt]
     have ct1:wr.cell? ⟨w1.heap.size,1,none⟩=some (.int .i64 (bc l k).aH.eR):=by rw[World.cell?_of_block Xb];simp[World.cell?,hHt]
     have ca:wr.cell? ⟨Ba,0,none⟩=some (.slice (some ⟨b,o,none⟩) l.length cp):=by rw[World.cell?_of_block hka];simp[World.cell?,Uv]
     have hPw:sJ wr (.slice (some ⟨b,o,none⟩) l.length cp) l:=kl.pl (kl.trans WY SK) hP
     have UL:Ba<wr.heap.size:=by
      have h1:=(Array.getElem?_eq_some_iff.1 Uv).1;have h2:=kl.size (kl.trans WY SK);omega
     have QR:jj (1-(m:Int)) 0 3=true:=jc ae;have NK:=np (hA.pt eG);have Mi:=fun w0=>Iq w0 (bc l k).aH (1-(m:Int)) QR NK.1 NK.2;have hPd:sJ wr.drew (.slice (some ⟨b,o,none⟩) l.length cp) l:=hPw.below ⟨rfl,rfl,rfl,Nat.le_refl _,fun _ _=>rfl⟩;have cad:wr.drew.cell? ⟨Ba,0,none⟩=some (.slice (some ⟨b,o,none⟩) l.length cp):=ca;have ctd0:wr.drew.cell? ⟨w1.heap.size,0,none⟩=some (.int .i64 (bc l k).aH.eV):=ct0;have ctd1:wr.drew.cell? ⟨w1.heap.size,1,none⟩=some (.int .i64 (bc l k).aH.eR):=ct1;have hfw:=hA.oG;have UX:=hA.pH;have hmix:=mixed
     gi_wp2
     gi_region_with_o (first|(refine⟨trivial,?_⟩;gi_at_call 123;refine(callsIn_wide.2 (Mi _)).mono ?_;rintro e w3 ⟨rfl,Ff⟩;have ca3:=(Ff.cell (p:=⟨Ba,0,none⟩) UL).trans cad)|(refine⟨trivial,?_⟩;gi_at_call 215;refine(callsIn_wide.2 (A8 _ l _ (hPd.below Ff) (bI (bc l k).aH (1-(m:Int))) UX ae)).mono ?_;rintro e w4 ⟨rfl,Z3⟩))
     all_goals
      have Ut:Below wr.heap.size wr w4:=(show Below wr.heap.size wr wr.drew from⟨rfl,rfl,rfl,Nat.le_refl _,fun _ _=>rfl⟩).trans (Ff.trans (Z3.mono Ff.size));have hJ4:J (nJ l k++ni l k m) w4:=hJ _ _ _ none hJm (grown_of Ut) (fun r h=>by cases h);have nH:=Vn l eG (m:=m+1) ae;rw[pC,<-List.append_assoc]at nH;have lL:=pC l k m;have hw:wrap64 ((m:Int)+1)=((m+1:Nat):Int):=by unfold wrap64;omega
      by_cases Yx:0<=ei l (bI (bc l k).aH (1-(m:Int)))
      ·have jI:((ei l (bI (bc l k).aH (1-(m:Int)))).toNat:Int)=ei l (bI (bc l k).aH (1-(m:Int))):=ae;rw[F5,if_pos Yx]at nH lL
       obtain⟨fn,tmps,assign,body,hy,hR⟩:=hY _ (k,(ei l (bI (bc l k).aH (1-(m:Int)))).toNat,1-(m:Int)) w4 hJ4 (by
        have:=nH.length_le;simp only[i6,List.length_cons,List.length_nil]at this ⊢
        omega) ⟨eG,by
        have:ei l (bI (bc l k).aH (1-(m:Int)))<(l.length:Int):=Q8 _ _;show(ei l (bI (bc l k).aH (1-(m:Int)))).toNat<l.length
        omega,⟨by show 0<=1-(m:Int);omega,by show 1-(m:Int)<=1;omega⟩,jI⟩
       simp only[I3,jI]at hy
       gi_wp2
       refine hR.mono ?_;rintro e W3 (⟨rfl,hJ3,AS⟩|⟨rfl,hJx3⟩)
       ·gi_wp2
        go_roundw
        case rel=>exact⟨m+1,ae,by simp,by rw[lL,<-List.append_assoc];exact hJ3,kl.trans (kl.trans SK (kl.of Ut)) AS⟩
        case measure=>simp[intOf];omega
       ·gi_wp2
        refine bodyPost_ret (results_none rfl _ _ _) rfl ?_;exact⟨⟨_,rfl⟩,.inr ⟨_,nH,hJx3⟩⟩
      ·rw[F5,if_neg Yx,List.append_nil]at lL
       gi_wp2
       refine⟨fun _ h=>(by cases h),?_⟩
       gi_wp2
       go_roundw
       case rel=>exact⟨m+1,ae,by simp,by rw[lL];exact hJ4,kl.trans SK (kl.of Ut)⟩
       case measure=>simp[intOf];omega
    ·obtain rfl:m=2:=ae;have hfw:=hA.oG
     gi_wp2
     go_roundw
     case rel=>exact⟨k+1,ae,by simp,by rw[oJ];exact hJm,kl.trans WY SK⟩
     case measure=>simp[intOf];omega
  ·obtain rfl:k=l.length:=ae
   gi_wp2
   go_end0
   exact⟨⟨_,rfl⟩,.inl ⟨_,rfl,X3⟩⟩
theorem DH (n:Nat) (vS:Value) (w:World):CallsIn Fence.wide n Tryz.prog 193 #[.agg #[vS]] w fun e w'=>e=.returned (.func (.func 214) #[] #[.pointer (some ⟨w.heap.size,0,none⟩)])/\w'=w.alloc (.cells #[vS] 30):=by
 refine callsIn_of_wp Tryz.func193 rfl trivial ?_ rfl;simp only[Tryz.ntmps193,List.size_toArray,List.length_cons,List.length_nil,Nat.reduceAdd,Nat.reduceSub,Array.replicate_succ,Array.replicate_zero,List.push_toArray,List.append_toArray,List.nil_append,List.cons_append]
 gi_wp2
 go_ret
 exact⟨rfl,rfl⟩
abbrev TN (l:List aa):Type:={x:Nat×Nat×Int // Xx l x}
theorem Ot (l:List aa) (hA:jr l) (Ba n:Nat) (hn:1<=n) (vS:Value) (K:World->World->Prop) (kl:Mu K vS l) (w:World) (Uv:w.heap[Ba]? =some (.cells #[vS] 30 (0,0))) (hP:sJ w vS l):
  SeqStopsK Fence.wide n Tryz.prog 214 #[.pointer (some ⟨Ba,0,none⟩)] (fun x:TN l=>I3 x.1) K (fun ys=>ys.map (·.1)=nJ l l.length) (fun _=>True) (nJ l l.length).length w:=fun q J Jx W hW hJ _ hY h0=>by
 refine(Za l hA q Ba vS K kl (fun ys W=>∃zs:List (TN l),zs.map (·.1)=ys/\J zs W) (fun ys W=>∃zs:List (TN l),zs.map (·.1)=ys/\Jx zs W) n hn (fun pre x W1 hJ1 eG Dh=>?_) W (fun s A B row ⟨zs,e,h⟩ hg hr=>⟨zs,e,hJ zs A B row h hg hr⟩) ((hW.block Ba (Array.getElem?_eq_some_iff.1 Uv).1).trans Uv) (hP.below hW) ⟨[],rfl,h0⟩).mono ?_
 ·obtain⟨zs,rfl,h1⟩:=hJ1;refine YieldAt.mono (hY zs ⟨x,Dh⟩ W1 h1 (by simpa using eG)) ?_;rintro e W' (⟨h2,h3,h4⟩|⟨h2,h3⟩)
  ·exact .inl ⟨h2,⟨zs++[⟨x,Dh⟩],by simp,h3⟩,h4⟩
  ·exact .inr ⟨h2,⟨zs++[⟨x,Dh⟩],by simp,h3⟩⟩
 ·rintro e W' ⟨h1,⟨ys,rfl,zs,h2,h3⟩|⟨pre,_,zs,h2,h3⟩⟩
  ·exact⟨h1,.inl ⟨zs,h2,h3⟩⟩
  ·exact⟨h1,.inr ⟨zs,trivial,h3⟩⟩
def CN (s:aE) (l:List aa) (x:Nat×Nat×Int):List PB:=if 0<fQ s (bc l x.1).bK x.2.2 (bc l x.2.1).bK then[⟨x.1,x.2.1,fQ s (bc l x.1).bK x.2.2 (bc l x.2.1).bK⟩]else[]
theorem MT (s:aE) (l:List aa):eI s l=(nJ l l.length).flatMap (CN s l):=by
 have h1:∀i d,lZ s l i d=(F5 l i d).flatMap (CN s l):=fun i d=>by
  unfold lZ F5
  by_cases h:0<=ei l (bI (bc l i).aH d)
  ·rw[if_pos h];simp only[List.flatMap_cons,List.flatMap_nil,List.append_nil,CN]
   by_cases h2:0<fQ s (bc l i).bK d (bc l (ei l (bI (bc l i).aH d)).toNat).bK
   ·rw[if_pos ⟨h,h2⟩,if_pos h2]
   ·rw[if_neg fun hc=>h2 hc.2,if_neg h2]
  ·rw[if_neg h,if_neg fun hc=>h hc.1];rfl
 unfold eI iV nJ;rw[List.flatMap_assoc]
 congr 1
 funext i
 unfold gL ni;rw[List.flatMap_assoc]
 congr 1
 funext j
 exact h1 i _
end V

namespace V
open Go.RowKit
attribute [local irreducible] dY wpOps fm Call
def DT (bs:List PB):AV:=if bs=[]then .ck else .sl (bs.map da)
theorem RV:DT []=.ck:=rfl
theorem JH {bs:List PB} (h:0<bs.length):DT bs=.sl (bs.map da):=by
 unfold DT;rw[if_neg (by rintro rfl;simp at h)]
theorem AL (cnt:Nat) (AD:1<=cnt) (hn:cnt<=1048576) (bs:List PB) (hb:∀b∈bs,b.a<cnt/\b.b<cnt) (hp:0<bs.length) (iy:bs.length<=1048576) (t:Int):au Tryz.prog 169 [.int .i64 cnt,.sl (bs.map da),.int .i64 t] (.gG [.int .i64 (leads cnt (fH (bZ t bs))).length,DT (fB (fH (bZ t bs)) bs)]):=by
 refine au.body fx rfl fun hl n0=>?_;clear hl;(try((repeat(revert N;apply g7));refine wk @g8 ?_;repeat(apply g6;intro N hN)));refine .inr (ax _ _ _ _ _ (fun r σ1 hq=>?_) (MX bs hp iy _));obtain⟨o,rfl,ho,YK,hov2,Yo⟩:=hq;(try dsimp only at ho YK hov2 Yo);apply hN;clear hN N;(try((repeat(revert N;apply g7));refine wk @g8 ?_;repeat(apply g6;intro N hN)));refine .inr (ax _ _ _ _ _ (fun r σ2 hq=>?_) (Ko bs t iy o ⟨169000000,n0⟩ _ ho (by rw[Yo _ aI];simp only[go_sem,↓reduceIte,Nat.reduceEqDiff,Nat.reduceAdd,Nat.reduceSub,Nat.reduceLeDiff,reduceCtorEq]) aI aI (by rintro rfl;simp only at YK;omega)));obtain⟨rows,rfl,eP,hrt,AW,qV,HI⟩:=hq;(try dsimp only at qV HI);apply hN;clear hN N;have Md:=zj cnt AD hn (bZ t bs) (fun b h=>hb b (Ar h)) (by have:=pL t bs;omega);have hL:=BZ (bZ t bs)
 have hz:∀x,eM (ef σ2.get) 6 [.int .i64 x,.own o 0 (bZ t bs).length]=some [.int .i64 x,.sl ((bZ t bs).map da)]:=fun x=>by
  have:V.fz (ef σ2.get) 6 (.own o 0 (bZ t bs).length)=some (.sl ((bZ t bs).map da)):=by
   rw[uL];simp only[ef,eP,Option.map_some,if_true];rw[if_pos ae,List.drop_zero,hrt,pk fun b=>C3 _ 4 b];rfl
  simp only[ah,aj,aL,this,Option.map_some]
 (try((repeat(revert N;apply g7));refine wk @g8 ?_;repeat(apply g6;intro N hN)));refine .inl ⟨_,au.x Md (hz _),?_⟩;apply hN;clear hN N;generalize fH (bZ t bs)=L at *;have ui:((hZ cnt L).map Ed).length=(leads cnt L).length:=by simp[hZ]
 have hld:=lz cnt L;have mv:(0:Int)<=(cnt:Int):=ae;have uh:(cnt:Int)<=((16777216:Nat):Int):=ae;have jv:List.replicate cnt [AV.int .i64 0]=fo (eb cnt L 0 0) cnt:=by rw[Au,rf]
 (try((repeat(revert N;apply g7));refine wk (tw5 @mv @uh @Int.le_refl @ui @jv) ?_;repeat(apply g6;intro N hN)));refine cj (fun n env st=>∃i:Nat,n=((leads cnt L).length)-i/\i<=((leads cnt L).length)/\env 27=.int .i64 (i:Int)/\st.get ⟨169002001,σ2.next+1⟩=some ⟨true,1,fo (eb cnt L i 0) cnt⟩/\(σ2.next+1<st.next)) ((leads cnt L).length) ⟨0,ae,ae,sl (tw @jv @ui),sl (tw @jv @ui),aI⟩ ?_;rintro n_c m7 m6 ⟨i,rfl,cle,c27,cg0,cI0⟩ jN;have c1:=jN 1 g9;have c8:=jN 8 g9;have c9:=jN 9 g9;have AH:=jN 25 g9;have AI:=jN 26 g9;simp only[go_sem,↓reduceIte,Nat.reduceEqDiff,Nat.reduceAdd,Nat.reduceSub,Nat.reduceLeDiff,reduceCtorEq,jv,ui]at c1 c8 c9 AH AI;clear jN
 by_cases hi:(i:Int)<((leads cnt L).length:Int)
 ·have jf:∀{e:Env} {gg:Rows} {nx:Nat},(e 27=.int .i64 (IntKind.i64.wrap ((i:Int)+1)))->(gg ⟨169002001,σ2.next+1⟩=some ⟨true,1,fo (eb cnt L (i+1) 0) cnt⟩)->(σ2.next+1<nx)->∃m0,m0<((leads cnt L).length)-i/\∃i:Nat,m0=((leads cnt L).length)-i/\i<=((leads cnt L).length)/\e 27=.int .i64 (i:Int)/\gg ⟨169002001,σ2.next+1⟩=some ⟨true,1,fo (eb cnt L i 0) cnt⟩/\(σ2.next+1<nx):=fun x1 x2 x3=>⟨_,ae,i+1,rfl,ae,(by rw[x1,aZ ae]),x2,x3⟩;have jI:i<(leads cnt L).length:=ae;have ll:((hZ cnt L).map Ed)[i]? =some (Ed (members cnt L (leads cnt L)[i])):=by simp[hZ,jI]
  have rX:(leads cnt L).getD i 0=(leads cnt L)[i]:=by simp[List.getD_eq_getElem?_getD,jI]
  have mW:∀m,eb cnt L i m=fun x=>if dS L x<i then dS L x else if x∈(members cnt L (leads cnt L)[i]).take m then i else 0:=fun m=>by unfold eb;rw[rX]
  have uR:=fun x (hx:x<cnt)=>wU hL (n:=cnt) (k:=x) (i:=i) hx jI;have uk:(members cnt L (leads cnt L)[i]).Nodup:=List.nodup_range.filter _;have GI:∀x∈members cnt L (leads cnt L)[i],x<cnt:=fun x hx=>(nR.1 hx).1
  have hMc:(members cnt L (leads cnt L)[i]).length<=cnt:=by
   have:=List.length_filter_le (fun k=>L k==(leads cnt L)[i]) (List.range cnt)
   simpa[members]using this
  generalize members cnt L (leads cnt L)[i]=M at *;have GD:(M.map eN).length=M.length:=by simp
  (try((repeat(revert N;apply g7));refine wk (tw9 @c27 @cg0 @c1 @c8 @c9 @AH @AI @hi (tw4 @ui @ll @Ed.eq_1 @GD)) ?_;repeat(apply g6;intro N hN)));refine cj (fun n env st=>∃m:Nat,n=(M.length)-m/\m<=(M.length)/\env 34=.int .i64 (m:Int)/\st.get ⟨169002001,σ2.next+1⟩=some ⟨true,1,fo (eb cnt L i m) cnt⟩/\(σ2.next+1<st.next)) (M.length) ⟨0,ae,ae,sl (tw8 @c27 @cg0 @c1 @c8 @c9 @AH @AI @GD),sl (tw8 @c27 @cg0 @c1 @c8 @c9 @AH @AI @GD),aI⟩ ?_;rintro n_d env_d st_d ⟨m,rfl,dle,d34,dg0,dI0⟩ dfr;have d1:=dfr 1 g9;have d8:=dfr 8 g9;have d9:=dfr 9 g9;have d10:=dfr 10 g9;have d25:=dfr 25 g9;have d26:=dfr 26 g9;have d27:=dfr 27 g9;have d32:=dfr 32 g9;have d33:=dfr 33 g9;simp only[go_sem,↓reduceIte,Nat.reduceEqDiff,Nat.reduceAdd,Nat.reduceSub,Nat.reduceLeDiff,reduceCtorEq,c27,cg0,c1,c8,c9,AH,AI,GD]at d1 d8 d9 d10 d25 d26 d27 d32 d33;clear dfr;have tl:=jH (eb cnt L i m) cnt
  by_cases hm:(m:Int)<(M.length:Int)
  ·have xI:∀{e:Env} {gg:Rows} {nx:Nat},(e 34=.int .i64 (IntKind.i64.wrap ((m:Int)+1)))->(gg ⟨169002001,σ2.next+1⟩=some ⟨true,1,fo (eb cnt L i (m+1)) cnt⟩)->(σ2.next+1<nx)->∃m0,m0<(M.length)-m/\∃m:Nat,m0=(M.length)-m/\m<=(M.length)/\e 34=.int .i64 (m:Int)/\gg ⟨169002001,σ2.next+1⟩=some ⟨true,1,fo (eb cnt L i m) cnt⟩/\(σ2.next+1<nx):=fun x1 x2 x3=>⟨_,ae,m+1,rfl,ae,(by rw[x1,aZ ae]),x2,x3⟩;have Dg:m<M.length:=ae;have wg:(M.map eN)[m]? =some (eN M[m]):=by simp[Dg]
   have zt:=GI _ (List.getElem_mem Dg);have Te:(M[m]:Int)<(cnt:Int):=ae;have GO:=iZ (f:=eb cnt L i m) zt
   have fV:(fo (eb cnt L i m) cnt).set M[m] (eN i)=fo (eb cnt L i (m+1)) cnt:=yE zt (by
    have h1:=(uR _ zt).1 (List.getElem_mem Dg);rw[mW];simp only[]
    rw[if_neg ae,if_pos (by rw[List.take_succ_eq_append_getElem Dg];exact List.mem_append_right _ (List.mem_singleton.2 rfl))]) fun x hx ju=>by
    rw[mW,mW];simp only[];rw[List.take_succ_eq_append_getElem Dg];simp only[List.mem_append,List.mem_singleton,ju,or_false]
   rw[eN]at fV GO;generalize M[m]=xm at *;(try((repeat(revert N;apply g7));refine wk (tw9 @d34 @dg0 @d1 @d8 @d9 @d10 @d25 @d26 (tw9 @d27 @d32 @d33 @hm @hi @wg @GD @Te (tw4 @GO @tl @fV @eN.eq_1))) ?_;repeat(apply g6;intro N hN)));refine xI ?_ ?_ aI
   all_goals simp only[go_sem,↓reduceIte,Nat.reduceEqDiff,Nat.reduceAdd,Nat.reduceSub,Nat.reduceLeDiff,reduceCtorEq,d34,dg0,d1,d8,d9,d10,d25,d26,d27,d32,d33,fV]
  ·have eW:m=M.length:=ae;subst eW
   have lL:fo (eb cnt L i M.length) cnt=fo (eb cnt L (i+1) 0) cnt:=kE fun x hx=>by
    rw[mW,List.take_length];simp only[eb,List.take_zero,List.not_mem_nil,if_false];have h1:=uR x hx
    by_cases h2:dS L x<i
    ·rw[if_pos h2,if_pos ae]
    ·rw[if_neg h2]
     by_cases h3:x∈M
     ·rw[if_pos h3,if_pos (by have:=h1.1 h3;omega),h1.1 h3]
     ·rw[if_neg h3,if_neg fun h4=>h3 (h1.2 ae)]
   (try((repeat(revert N;apply g7));refine wk (tw9 @d34 @dg0 @d1 @d8 @d9 @d10 @d25 @d26 (tw7 @d27 @d32 @d33 @hm @hi @ui @GD)) ?_;repeat(apply g6;intro N hN)));refine jf ?_ ?_ aI
   all_goals simp only[go_sem,↓reduceIte,Nat.reduceEqDiff,Nat.reduceAdd,Nat.reduceSub,Nat.reduceLeDiff,reduceCtorEq,c27,cg0,c1,c8,c9,AH,AI,d34,dg0,d1,d8,d9,d10,d25,d26,d27,d32,d33,lL]
 have sO:i=(leads cnt L).length:=ae;subst sO;have j3:fo (eb cnt L (leads cnt L).length 0) cnt=fo (dS L) cnt:=kE fun x hx=>by rw[eb,if_pos (vk hL hx)]
 rw[j3]at cg0;have tl:=jH (dS L) cnt;have hbm:(bs.map da).length=bs.length:=by simp
 (try((repeat(revert N;apply g7));refine wk (tw9 @c27 @cg0 @c1 @c8 @c9 @AH @AI @hi (tw @ui @hbm)) ?_;repeat(apply g6;intro N hN)));have SR:σ2.next+1<m6.next:=cI0;refine cj (fun n env st=>∃j:Nat,n=(bs.length)-j/\j<=(bs.length)/\env 46=.int .i64 (j:Int)/\st.get ⟨169002001,σ2.next+1⟩=some ⟨true,1,fo (dS L) cnt⟩/\(m6.next<=st.next/\((fB L (bs.take j)=[]/\env 14=.ck)∨∃p:Id,env 14=.own p 0 (fB L (bs.take j)).length/\st.get p=some ⟨true,3,(fB L (bs.take j)).map da⟩/\m6.next<=p.bH/\p.bH<st.next/\0<(fB L (bs.take j)).length))) (bs.length) ⟨0,ae,ae,sl (tw8 @c27 @cg0 @c1 @c8 @c9 @AH @AI @hbm),sl (tw8 @c27 @cg0 @c1 @c8 @c9 @AH @AI @hbm),⟨aI,.inl ⟨rfl,by(simp only[go_sem,↓reduceIte,Nat.reduceEqDiff,Nat.reduceAdd,Nat.reduceSub,Nat.reduceLeDiff,reduceCtorEq])⟩⟩⟩ ?_;rintro n_f env_f st_f ⟨j,rfl,fle,f46,fg0,fI0⟩ ffr;have f1:=ffr 1 g9;have f8:=ffr 8 g9;have f9:=ffr 9 g9;have f44:=ffr 44 g9;have f45:=ffr 45 g9;simp only[go_sem,↓reduceIte,Nat.reduceEqDiff,Nat.reduceAdd,Nat.reduceSub,Nat.reduceLeDiff,reduceCtorEq,c27,cg0,c1,c8,c9,AH,AI,hbm]at f1 f8 f9 f44 f45;clear ffr;obtain⟨SY,fO⟩:=fI0;have KR:=cR (i:=⟨169002001,σ2.next+1⟩) (n:=st_f.next) aI;have nI:=(Ap L (bs.take j)).1;rw[List.length_take]at nI
 by_cases hj:(j:Int)<(bs.length:Int)
 ·have qh:∀{e:Env} {gg:Rows} {nx:Nat},(e 46=.int .i64 (IntKind.i64.wrap ((j:Int)+1)))->(gg ⟨169002001,σ2.next+1⟩=some ⟨true,1,fo (dS L) cnt⟩)->(m6.next<=nx/\((fB L (bs.take (j+1))=[]/\e 14=.ck)∨∃p:Id,e 14=.own p 0 (fB L (bs.take (j+1))).length/\gg p=some ⟨true,3,(fB L (bs.take (j+1))).map da⟩/\m6.next<=p.bH/\p.bH<nx/\0<(fB L (bs.take (j+1))).length))->∃m0,m0<(bs.length)-j/\∃j:Nat,m0=(bs.length)-j/\j<=(bs.length)/\e 46=.int .i64 (j:Int)/\gg ⟨169002001,σ2.next+1⟩=some ⟨true,1,fo (dS L) cnt⟩/\(m6.next<=nx/\((fB L (bs.take j)=[]/\e 14=.ck)∨∃p:Id,e 14=.own p 0 (fB L (bs.take j)).length/\gg p=some ⟨true,3,(fB L (bs.take j)).map da⟩/\m6.next<=p.bH/\p.bH<nx/\0<(fB L (bs.take j)).length)):=fun x1 x2 x3=>⟨_,ae,j+1,rfl,ae,(by rw[x1,aZ ae]),x2,x3⟩;have oy:j<bs.length:=ae;have zo:(bs.map da)[j]? =some (da bs[j]):=by simp[oy]
  have QN:=hb _ (List.getElem_mem oy);have hs:=DQ L (bs.take j) bs[j];rw[<-List.take_succ_eq_append_getElem oy]at hs;generalize bs[j]=b at *;have hA:=iZ (f:=dS L) QN.1;have hB:=iZ (f:=dS L) QN.2;have Fg:(b.a:Int)<(cnt:Int):=ae;have qc:(b.b:Int)<(cnt:Int):=ae;rw[eN]at hA hB;have e1:(fB L (bs.take j)).length+1<=16777216:=ae;have eW:((fB L (bs.take j)).map da).length=(fB L (bs.take j)).length:=by simp
  by_cases he:dS L b.a=dS L b.b
  ·rw[if_pos he,List.append_nil]at hs;have sY:decide ((dS L b.a:Int)=(dS L b.b:Int))=true:=decide_eq_true (by rw[he]);(try((repeat(revert N;apply g7));refine wk (tw9 @f46 @fg0 @f1 @f8 @f9 @f44 @f45 @hj (tw9 @zo @hA @hB @Fg @qc @tl @sY @KR (tw3 @da.eq_1 @Bool.not_true @Bool.not_false))) ?_;repeat(apply g6;intro N hN)))
   refine qh ?_ ?_ (by(try dsimp only);exact⟨ae,by
    rw[hs]
    rcases fO with⟨h1,h2⟩|⟨p,h1,h2,h3,h4,h5⟩
    ·exact .inl ⟨h1,sd @h2⟩
    ·have zr:=cR h4
     exact .inr ⟨p,sd @h1,sd (tw @h2 @zr),h3,ae,h5⟩⟩)
   all_goals simp only[go_sem,↓reduceIte,Nat.reduceEqDiff,Nat.reduceAdd,Nat.reduceSub,Nat.reduceLeDiff,reduceCtorEq,f46,fg0,f1,f8,f9,f44,f45,KR]
  ·rw[if_neg he]at hs;have sY:decide ((dS L b.a:Int)=(dS L b.b:Int))=false:=decide_eq_false fun h=>he ae
   rcases fO with⟨h1,f14⟩|⟨p,f14,fg,YL,Ji,hp3⟩
   ·rw[h1]at hs;(try((repeat(revert N;apply g7));refine wk (tw9 @f46 @fg0 @f1 @f8 @f9 @f44 @f45 @f14 (tw9 @hj @zo @hA @hB @Fg @qc @tl @sY (tw4 @KR @da.eq_1 @Bool.not_true @Bool.not_false))) ?_;repeat(apply g6;intro N hN)));refine qh ?_ ?_ (by(try dsimp only);exact⟨ae,.inr ⟨⟨169017015,st_f.next+1+1+1⟩,by rw[hs];simp only[go_sem,↓reduceIte,Nat.reduceEqDiff,Nat.reduceAdd,Nat.reduceSub,Nat.reduceLeDiff,reduceCtorEq,List.nil_append,List.length_cons,List.length_nil],by rw[hs];simp only[go_sem,↓reduceIte,Nat.reduceEqDiff,Nat.reduceAdd,Nat.reduceSub,Nat.reduceLeDiff,reduceCtorEq,da,List.nil_append,List.map_cons,List.map_nil],aI,aI,by rw[hs];simp⟩⟩)
    all_goals simp only[go_sem,↓reduceIte,Nat.reduceEqDiff,Nat.reduceAdd,Nat.reduceSub,Nat.reduceLeDiff,reduceCtorEq,f46,fg0,f1,f8,f9,f44,f45,KR]
   ·have x1:=ew (a:=⟨169002001,σ2.next+1⟩) (b:=p) aI;have zr:=cR Ji;(try((repeat(revert N;apply g7));refine wk (tw9 @f46 @fg0 @f1 @f8 @f9 @f44 @f45 @f14 (tw9 @fg @hj @zo @hA @hB @Fg @qc @tl (tw9 @sY @x1 @zr @KR @e1 @eW @da.eq_1 @Bool.not_true @Bool.not_false))) ?_;repeat(apply g6;intro N hN)));refine qh ?_ ?_ (by(try dsimp only);exact⟨ae,.inr ⟨⟨169017015,st_f.next+1+1+1⟩,by rw[hs,i6];simp only[go_sem,↓reduceIte,Nat.reduceEqDiff,Nat.reduceAdd,Nat.reduceSub,Nat.reduceLeDiff,reduceCtorEq,List.length_cons,List.length_nil],by rw[hs,List.map_append,List.map_cons,List.map_nil];simp only[go_sem,↓reduceIte,Nat.reduceEqDiff,Nat.reduceAdd,Nat.reduceSub,Nat.reduceLeDiff,reduceCtorEq,da],aI,aI,by rw[hs];simp⟩⟩)
    all_goals simp only[go_sem,↓reduceIte,Nat.reduceEqDiff,Nat.reduceAdd,Nat.reduceSub,Nat.reduceLeDiff,reduceCtorEq,f46,fg0,f1,f8,f9,f44,f45,x1,KR]
 ·have iL:j=bs.length:=ae;subst iL;rw[List.take_length]at fO
  rcases fO with⟨h1,f14⟩|⟨p,f14,fg,YL,Ji,hp3⟩
  ·(try((repeat(revert N;apply g7));refine wk (tw9 @f46 @fg0 @f1 @f8 @f9 @f44 @f45 @f14 (tw @hj @ui)) ?_;repeat(apply g6;intro N hN)));refine lQ (.inl rfl) (r1:=.int .i64 ((leads cnt L).length:Int)) (sd @g8) (by simp only[go_sem,↓reduceIte,Nat.reduceEqDiff,Nat.reduceAdd,Nat.reduceSub,Nat.reduceLeDiff,reduceCtorEq];rfl) ?_;simp only[fY,bR,cW,ec,mN,h1,RV,Option.map_some]
  ·(try((repeat(revert N;apply g7));refine wk (tw9 @f46 @fg0 @f1 @f8 @f9 @f44 @f45 @f14 (tw @hj @ui)) ?_;repeat(apply g6;intro N hN)));refine lQ (.inl rfl) (r1:=.int .i64 ((leads cnt L).length:Int)) (sd @g8) (by simp only[go_sem,↓reduceIte,Nat.reduceEqDiff,Nat.reduceAdd,Nat.reduceSub,Nat.reduceLeDiff,reduceCtorEq];rfl) ?_;have h1:iG st_f.get 5 (.own p 0 (fB L bs).length)=some (.sl ((fB L bs).map da)):=eQ (sz:=3) fg rfl fun b=>yn _ 3 b;simp only[fY,bR,cW,ec,h1,JH hp3,Option.map_some]
theorem AK (cnt:Nat) (AD:1<=cnt) (hn:cnt<=1048576) (t:Int):au Tryz.prog 169 [.int .i64 cnt,.ck,.int .i64 t] (.gG [.int .i64 cnt,.ck]):=by
 refine au.body fx rfl fun hl n0=>?_;clear hl
 have h1:au Tryz.prog 191 [.ck] .ck:=by
  refine au.body fx rfl fun hl n0=>?_;clear hl;(try((repeat(revert N;apply g7));refine wk @g8 ?_;repeat(apply g6;intro N hN)));exact oP (.inl rfl) (r0:=.ck) (sd @g8) (mN _ _)
 have h2:au Tryz.prog 190 [.ck,.fn 192 [.dZ [.int .i64 t]]] .ck:=by
  have BM:=(BP [] t (by simp)).cut mixed (.ck (.same _ .nil));refine au.body fx rfl fun hl n0=>?_;clear hl;(try((repeat(revert N;apply g7));refine wk @g8 ?_;repeat(apply g6;intro N hN)));refine .inl ⟨_,au.x BM (by simp only[ah,aj,aM,cq,aJ,List.all_cons,List.all_nil,AV.cell,Bool.and_true,if_true,Option.map_some]),?_⟩;apply hN;clear hN N;have hd:decide (iP (fun b:PB=>decide (b.s<t)) []= -1)=true:=rfl;(try((repeat(revert N;apply g7));refine wk @hd ?_;repeat(apply g6;intro N hN)));exact oP (.inl rfl) (r0:=.ck) (sd @g8) (mN _ _)
 have Md:=(zj cnt AD hn [] (fun b h=>by cases h) (by simp)).cut mixed (.same _ (.ck .nil));(repeat(first|((repeat(revert N;apply g7));refine wk @g8 ?_;repeat(apply g6;intro N hN))|((try apply i3);refine⟨_,au.x (h1) (sd @g8),?_⟩;apply hN;clear hN N)));refine .inl ⟨_,au.x h2 ?_,?_⟩
 ·have:V.fz (ef (bJ (fun _=>none) ⟨169000000,n0⟩ ⟨true,1,[[.int .i64 t]]⟩)) 5 (.ptr ⟨169000000,n0⟩ 0 0)=some (.dZ [.int .i64 t]):=mO (sz:=1) (rows:=[[.int .i64 t]]) (by simp[ef,bJ]) rfl (by simp only[List.drop_zero,ah,aj,aL,Option.map_some]);simp only[ah,aj,aM,cq,this,List.all_cons,List.all_nil,AV.cell,Bool.and_true,if_true,Option.map_some]
 apply hN;clear hN N;have qc:fH ([]:List PB)=id:=rfl;rw[qc]at Md;have hL:mh id:=qc▸BZ ([]:List PB);have Xd:(leads cnt id).length=cnt:=by rw[leads,List.filter_eq_self.2 (fun a _=>by simp)];simp
 generalize (id:Nat->Nat)=L at *;have ui:((hZ cnt L).map Ed).length=(leads cnt L).length:=by simp[hZ]
 have hld:=lz cnt L;have mv:(0:Int)<=(cnt:Int):=ae;have uh:(cnt:Int)<=((16777216:Nat):Int):=ae;have jv:List.replicate cnt [AV.int .i64 0]=fo (eb cnt L 0 0) cnt:=by rw[Au,rf]
 (have zF:=tw5 @mv @uh @Int.le_refl @ui @jv;(repeat(first|((repeat(revert N;apply g7));refine wk zF ?_;repeat(apply g6;intro N hN))|((try apply i3);refine⟨_,au.x (Md) (sd zF),?_⟩;apply hN;clear hN N)));try clear zF)
 refine cj (fun n env st=>∃i:Nat,n=((leads cnt L).length)-i/\i<=((leads cnt L).length)/\env 27=.int .i64 (i:Int)/\st.get ⟨169002001,n0+1+1⟩=some ⟨true,1,fo (eb cnt L i 0) cnt⟩/\(n0+1+1<st.next)) ((leads cnt L).length) ⟨0,ae,ae,sl (tw @jv @ui),sl (tw @jv @ui),aI⟩ ?_;rintro n_c m7 m6 ⟨i,rfl,cle,c27,cg0,cI0⟩ jN;have c1:=jN 1 g9;have c8:=jN 8 g9;have c9:=jN 9 g9;have AH:=jN 25 g9;have AI:=jN 26 g9;simp only[go_sem,↓reduceIte,Nat.reduceEqDiff,Nat.reduceAdd,Nat.reduceSub,Nat.reduceLeDiff,reduceCtorEq,jv,ui]at c1 c8 c9 AH AI;clear jN
 by_cases hi:(i:Int)<((leads cnt L).length:Int)
 ·have jf:∀{e:Env} {gg:Rows} {nx:Nat},(e 27=.int .i64 (IntKind.i64.wrap ((i:Int)+1)))->(gg ⟨169002001,n0+1+1⟩=some ⟨true,1,fo (eb cnt L (i+1) 0) cnt⟩)->(n0+1+1<nx)->∃m0,m0<((leads cnt L).length)-i/\∃i:Nat,m0=((leads cnt L).length)-i/\i<=((leads cnt L).length)/\e 27=.int .i64 (i:Int)/\gg ⟨169002001,n0+1+1⟩=some ⟨true,1,fo (eb cnt L i 0) cnt⟩/\(n0+1+1<nx):=fun x1 x2 x3=>⟨_,ae,i+1,rfl,ae,(by rw[x1,aZ ae]),x2,x3⟩;have jI:i<(leads cnt L).length:=ae;have ll:((hZ cnt L).map Ed)[i]? =some (Ed (members cnt L (leads cnt L)[i])):=by simp[hZ,jI]
  have rX:(leads cnt L).getD i 0=(leads cnt L)[i]:=by simp[List.getD_eq_getElem?_getD,jI]
  have mW:∀m,eb cnt L i m=fun x=>if dS L x<i then dS L x else if x∈(members cnt L (leads cnt L)[i]).take m then i else 0:=fun m=>by unfold eb;rw[rX]
  have uR:=fun x (hx:x<cnt)=>wU hL (n:=cnt) (k:=x) (i:=i) hx jI;have uk:(members cnt L (leads cnt L)[i]).Nodup:=List.nodup_range.filter _;have GI:∀x∈members cnt L (leads cnt L)[i],x<cnt:=fun x hx=>(nR.1 hx).1
  have hMc:(members cnt L (leads cnt L)[i]).length<=cnt:=by
   have:=List.length_filter_le (fun k=>L k==(leads cnt L)[i]) (List.range cnt)
   simpa[members]using this
  generalize members cnt L (leads cnt L)[i]=M at *;have GD:(M.map eN).length=M.length:=by simp
  (try((repeat(revert N;apply g7));refine wk (tw9 @c27 @cg0 @c1 @c8 @c9 @AH @AI @hi (tw4 @ui @ll @Ed.eq_1 @GD)) ?_;repeat(apply g6;intro N hN)));refine cj (fun n env st=>∃m:Nat,n=(M.length)-m/\m<=(M.length)/\env 34=.int .i64 (m:Int)/\st.get ⟨169002001,n0+1+1⟩=some ⟨true,1,fo (eb cnt L i m) cnt⟩/\(n0+1+1<st.next)) (M.length) ⟨0,ae,ae,sl (tw8 @c27 @cg0 @c1 @c8 @c9 @AH @AI @GD),sl (tw8 @c27 @cg0 @c1 @c8 @c9 @AH @AI @GD),aI⟩ ?_;rintro n_d env_d st_d ⟨m,rfl,dle,d34,dg0,dI0⟩ dfr;have d1:=dfr 1 g9;have d8:=dfr 8 g9;have d9:=dfr 9 g9;have d10:=dfr 10 g9;have d25:=dfr 25 g9;have d26:=dfr 26 g9;have d27:=dfr 27 g9;have d32:=dfr 32 g9;have d33:=dfr 33 g9;simp only[go_sem,↓reduceIte,Nat.reduceEqDiff,Nat.reduceAdd,Nat.reduceSub,Nat.reduceLeDiff,reduceCtorEq,c27,cg0,c1,c8,c9,AH,AI,GD]at d1 d8 d9 d10 d25 d26 d27 d32 d33;clear dfr;have tl:=jH (eb cnt L i m) cnt
  by_cases hm:(m:Int)<(M.length:Int)
  ·have xI:∀{e:Env} {gg:Rows} {nx:Nat},(e 34=.int .i64 (IntKind.i64.wrap ((m:Int)+1)))->(gg ⟨169002001,n0+1+1⟩=some ⟨true,1,fo (eb cnt L i (m+1)) cnt⟩)->(n0+1+1<nx)->∃m0,m0<(M.length)-m/\∃m:Nat,m0=(M.length)-m/\m<=(M.length)/\e 34=.int .i64 (m:Int)/\gg ⟨169002001,n0+1+1⟩=some ⟨true,1,fo (eb cnt L i m) cnt⟩/\(n0+1+1<nx):=fun x1 x2 x3=>⟨_,ae,m+1,rfl,ae,(by rw[x1,aZ ae]),x2,x3⟩;have Dg:m<M.length:=ae;have wg:(M.map eN)[m]? =some (eN M[m]):=by simp[Dg]
   have zt:=GI _ (List.getElem_mem Dg);have Te:(M[m]:Int)<(cnt:Int):=ae;have GO:=iZ (f:=eb cnt L i m) zt
   have fV:(fo (eb cnt L i m) cnt).set M[m] (eN i)=fo (eb cnt L i (m+1)) cnt:=yE zt (by
    have h1:=(uR _ zt).1 (List.getElem_mem Dg);rw[mW];simp only[]
    rw[if_neg ae,if_pos (by rw[List.take_succ_eq_append_getElem Dg];exact List.mem_append_right _ (List.mem_singleton.2 rfl))]) fun x hx ju=>by
    rw[mW,mW];simp only[];rw[List.take_succ_eq_append_getElem Dg];simp only[List.mem_append,List.mem_singleton,ju,or_false]
   rw[eN]at fV GO;generalize M[m]=xm at *;(try((repeat(revert N;apply g7));refine wk (tw9 @d34 @dg0 @d1 @d8 @d9 @d10 @d25 @d26 (tw9 @d27 @d32 @d33 @hm @hi @wg @GD @Te (tw4 @GO @tl @fV @eN.eq_1))) ?_;repeat(apply g6;intro N hN)));refine xI ?_ ?_ aI
   all_goals simp only[go_sem,↓reduceIte,Nat.reduceEqDiff,Nat.reduceAdd,Nat.reduceSub,Nat.reduceLeDiff,reduceCtorEq,d34,dg0,d1,d8,d9,d10,d25,d26,d27,d32,d33,fV]
  ·have eW:m=M.length:=ae;subst eW
   have lL:fo (eb cnt L i M.length) cnt=fo (eb cnt L (i+1) 0) cnt:=kE fun x hx=>by
    rw[mW,List.take_length];simp only[eb,List.take_zero,List.not_mem_nil,if_false];have h1:=uR x hx
    by_cases h2:dS L x<i
    ·rw[if_pos h2,if_pos ae]
    ·rw[if_neg h2]
     by_cases h3:x∈M
     ·rw[if_pos h3,if_pos (by have:=h1.1 h3;omega),h1.1 h3]
     ·rw[if_neg h3,if_neg fun h4=>h3 (h1.2 ae)]
   (try((repeat(revert N;apply g7));refine wk (tw9 @d34 @dg0 @d1 @d8 @d9 @d10 @d25 @d26 (tw7 @d27 @d32 @d33 @hm @hi @ui @GD)) ?_;repeat(apply g6;intro N hN)));refine jf ?_ ?_ aI
   all_goals simp only[go_sem,↓reduceIte,Nat.reduceEqDiff,Nat.reduceAdd,Nat.reduceSub,Nat.reduceLeDiff,reduceCtorEq,c27,cg0,c1,c8,c9,AH,AI,d34,dg0,d1,d8,d9,d10,d25,d26,d27,d32,d33,lL]
 have sO:i=(leads cnt L).length:=ae;subst sO;have j3:fo (eb cnt L (leads cnt L).length 0) cnt=fo (dS L) cnt:=kE fun x hx=>by rw[eb,if_pos (vk hL hx)]
 rw[j3]at cg0;have tl:=jH (dS L) cnt;(try((repeat(revert N;apply g7));refine wk (tw9 @c27 @cg0 @c1 @c8 @c9 @AH @AI @hi @ui) ?_;repeat(apply g6;intro N hN)));refine cj (fun n env st=>∃j:Nat,n=(0)-j/\j<=(0)/\env 46=.int .i64 (j:Int)/\env 14=.ck) (0) ⟨0,ae,ae,sl (tw7 @c27 @cg0 @c1 @c8 @c9 @AH @AI),sl (tw7 @c27 @cg0 @c1 @c8 @c9 @AH @AI)⟩ ?_;rintro n_f env_f st_f ⟨j,rfl,fle,f46,f14⟩ ffr;have f8:=ffr 8 g9;have f44:=ffr 44 g9;have f45:=ffr 45 g9;simp only[go_sem,↓reduceIte,Nat.reduceEqDiff,Nat.reduceAdd,Nat.reduceSub,Nat.reduceLeDiff,reduceCtorEq,c27,cg0,c1,c8,c9,AH,AI]at f8 f44 f45;clear ffr;have hj:¬(j:Int)<((0:Nat):Int):=ae;(try((repeat(revert N;apply g7));refine wk (tw7 @f46 @f14 @f8 @f44 @f45 @hj @ui) ?_;repeat(apply g6;intro N hN)));refine lQ (.inl rfl) (r1:=.int .i64 ((leads cnt L).length:Int)) (r2:=.ck) (sd @g8) (sd @g8) ?_;simp only[fY,bR,cW,ec,mN,Xd,Option.map_some]
theorem CU (cnt:Nat) (AD:1<=cnt) (hn:cnt<=1048576) (bs:List PB) (hb:∀b∈bs,b.a<cnt/\b.b<cnt) (iy:bs.length<=1048576) (t:Int):au Tryz.prog 169 [.int .i64 cnt,DT bs,.int .i64 t] (.gG [.int .i64 (leads cnt (fH (bZ t bs))).length,DT (fB (fH (bZ t bs)) bs)]):=by
 cases bs with
 |nil=>
  have h:=AK cnt AD hn t
  have Xd:(leads cnt (fH (bZ t []))).length=cnt:=by
   show(leads cnt id).length=cnt;rw[leads,List.filter_eq_self.2 (fun a _=>by simp)];simp
  rw[Xd];exact h
 |cons b r=>
  rw[JH (by simp)];exact AL cnt AD hn (b::r) hb (by simp) iy t
end V

namespace V
open Go.RowKit
attribute [local irreducible] dY wpOps fm Call
attribute [local go_sem] JW
section
attribute [-go_sem] dz
end
end V

namespace V
open Go.RowKit
attribute [local irreducible] dY wpOps fm Call
section
variable {n:Nat} {c f:Nat->Nat->Int} {x:Nat} {par:Nat->Int} {Q:List Nat} {i:Nat}
end
def GU:Prop:=∀(s:aE) (l:List aa),gz s->fS s l->au Tryz.prog 170 [.agg (ai s),.agg [.sl (l.map ad)]] (DT (eI s l))
theorem ya (t:Int):au Tryz.prog 142 [.int .i64 t] (.bool (jj t 1 16)):=by
 refine au.body fx rfl fun hl n0=>?_;clear hl;have h:=lU t 1 16;(repeat(first|((repeat(revert N;apply g7));refine wk @g8 ?_;repeat(apply g6;intro N hN))|((try apply i3);refine⟨_,au.x (h) (sd @g8),?_⟩;apply hN;clear hN N)));exact cZ (b:=jj t 1 16) (.inl rfl) (sd @g8) rfl
end V

namespace V
open Go.RowKit
variable {P:Program} {hs:Nat}
theorem LY {q n i:Nat} {ops:Array Oper} {Q:Exit->Act->World->Prop} {K K':Act->World->Prop} {a:Act} {w:World} (uk:∀(j:Nat) (o:Oper),ops[j]? =some o->∀c,o.op≠.defer c) (mT:¬LetsOut Q) (hK:∀a w,K a w->K' a w) (h:wpOp P ops Q i K a w):wpOpIn (Fence.wide.inRound q) n P ops Q i K' a w:=by
 unfold wpOp at h;unfold wpOpIn
 split at h
 ·rename_i ho;simp only[ho];exact hK _ _ h
 ·rename_i o ho;simp only[ho]
  split at h
  ·rename_i hw;rw[if_pos hw];replace h:=h.resolve_right fun hc=>mT hc.2;refine⟨fun _ _=>trivial,?_⟩;rw[Oper.semAt_eq _ _ _ (uk i o ho)];unfold Oper.wp at h;generalize (execOp a.eval o).run P w=r at *
   cases r with
   |ok m w'=>
    cases m<;>simp only[Oper.upon,Oper.uponIn]at h ⊢
    case value=>exact hK _ _ h
    case skip=>exact hK _ _ h
    case defer=>exact hK _ _ h
    case enter f args=>
     refine⟨fun h=>by simp[Fence.wide]at h,CallsIn.inRound q (callsIn_wide.2 (h.mono fun e Qa he=>?_))⟩
     cases e with
     |returned v=>exact hK _ _ he
     |panicked c=>exact he
     |outgrown=>exact he
    case row r args=>exact⟨fun h=>by simp[Fence.wide]at h,fun c cs _=>let ⟨v,Qa,h1,s⟩:=h c cs;⟨v,Qa,hK _ _ h1,stepsIn_wide.2 s⟩⟩
   |halt x w'=>cases x<;>simp only[Oper.upon,Oper.uponIn]at h ⊢;exact h
  ·rename_i hw;rw[if_neg hw];exact⟨fun _ _=>trivial,hK _ _ h⟩
theorem AA {q n:Nat} {md:Region.Mode} {ops:Array Oper} {Q:Exit->Act->World->Prop} (uk:∀(j:Nat) (o:Oper),ops[j]? =some o->∀c,o.op≠.defer c) (mT:¬LetsOut Q):∀(fuel:Nat) (listed:Array Bool) (a:Act) (w:World),wpAny P md ops Q fuel listed a w->wpAnyIn (Fence.wide.inRound q) n P md ops Q fuel listed a w
 |0,_,_,_,h=>h
 |fuel+1,listed,_,_,h=>⟨h.1,fun i hi=>LY uk mT (fun a w=>AA uk mT fuel _ a w) (h.2 i hi)⟩
def Jr:Op->Bool
 | .defer _=>true
 |_=>false
theorem Ox {ops:Array Oper} (h:(ops.all fun o=> !Jr o.op)=true):∀(j:Nat) (o:Oper),ops[j]? =some o->∀c,o.op≠.defer c:=fun j o hj c hc=>by
 have:=Array.all_eq_true_iff_forall_mem.1 h o (Array.mem_of_getElem? hj);rw[hc]at this;simp[Jr]at this
theorem DN (hm:P.follows .mixedOrders=true) {nt site0 id q n:Nat} {ops:Array Oper} {vl:List bU} (h:uA P nt site0 ops true false=some vl) (uk:∀(j:Nat) (o:Oper),ops[j]? =some o->∀c,o.op≠.defer c)
  {K:Env->aw->Prop} {env:Env} {σ:aw} {a:Act} {w:World} {D:Nat->Prop} {ι:Names} {Q:Exit->Act->World->Prop} (hv:wpOps (Sound P) true vl K env σ) (ez:St P hs nt D ι env σ a w)
  (hK:∀jY σ' a' w' D' ι',K jY σ'->Step hs D ι w D' ι' w'->St P hs nt D' ι' jY σ' a' w'->a'.defers=a.defers->Q .normal a' w'):(Code.region id ops true).wpIn (Fence.wide.inRound q) n P Q a w:=by
 have fy:∃hidden xi,allM (mM P ops nt site0 true false (kF ops) hidden) ops.toList 0=some xi/\vl=xi/\qL ops xi (kF ops)=true:=by
  unfold uA at h;simp only[if_true,Bool.not_true,Bool.false_or]at h
  split at h
  ·rename_i xi h'
   split at h
   ·rename_i Dh;simp at h;exact⟨_,xi,h',h.symm,Dh⟩
   ·cases h
  ·cases h
 obtain⟨hidden,xi,fy,rfl,Dh⟩:=fy;obtain⟨uU,T0⟩:=ez.drew;obtain⟨hlen,_⟩:=qF fy;have zp:vl.length=ops.size:=by rw[hlen];simp
 have HC:=Ay (X:=Sound P) (K:=K) (n:=σ.next) Dh zp vl 0 (Array.replicate ops.size false) env σ.get (by simp) (by simp) (fun i hi=>by simp[hi]) (by simp[zp]) (fun k i h=>by
  exfalso
  rcases Nat.lt_or_ge k ops.size with hk|hk
  ·simp[hk]at h
  ·simp[Nat.not_lt.2 hk]at h) hv
 rw[zp]at HC
 have hw:=Bk (Q:=fun e a w=>e=.normal/\Q .normal a w) fy ops.size _ env σ.get a w.drew D ι (fun _=>False) HC uU.xa uU.used (fun _ h=>h.elim) uU.env uU.size fun j7 g1 a1 w1 D1 ι1 U1 hk T S1 U1' E1 wq hd=>⟨rfl,hK j7 ⟨g1,σ.next+1⟩ a1 w1 D1 ι1 hk (T0.trans T) ⟨S1,U1'.next,E1,wq⟩ hd⟩;have jI:=AA (q:=q) (n:=n) (Q:=fun e a w=>e=.normal/\Q .normal a w) uk (by rintro⟨_,_,hc,_⟩;cases hc) ops.size _ a w.drew hw;refine wpIn_mono (wpIn_region_any (id:=id) hm jI) ?_;rintro e a w ⟨rfl,h⟩;exact h
end V

namespace V
open Go.RowKit Go.Shelf
attribute [local go_sem] Oper.semAt_some
def jJ (n₀:Nat) (W W':World):Prop:=W.heap.size<=W'.heap.size/\(∀(b:Nat) (cells:Array Value) (T:TypeId) (fr:Nat×Nat),W.heap[b]? =some (Obj.cells cells T fr)->T≠153->T≠188->W'.heap[b]? =W.heap[b]?)/\∀k,k<n₀->k<W.heap.size->W'.heap[k]? =W.heap[k]?
theorem jJ.trans {n₀:Nat} {A B C:World} (h:jJ n₀ A B) (k:jJ n₀ B C):jJ n₀ A C:=⟨Nat.le_trans h.1 k.1,fun b cells T fr hb h1 h2=>by
 have e:=h.2.1 b cells T fr hb h1 h2;rw[<-e]at hb ⊢
 exact k.2.1 b cells T fr hb h1 h2,fun b hb hs=>(k.2.2 b hb (Nat.lt_of_lt_of_le hs h.1)).trans (h.2.2 b hb hs)⟩
theorem jJ.of {n₀:Nat} {W W':World} (h:Below W.heap.size W W'):jJ n₀ W W':=⟨h.size,fun b cells T fr hb _ _=>h.block b (Array.getElem?_eq_some_iff.1 hb).1,fun k _ hs=>h.block k hs⟩
theorem jJ.refl (n₀:Nat) (W:World):jJ n₀ W W:=⟨Nat.le_refl _,fun _ _ _ _ _ _ _=>rfl,fun _ _ _=>rfl⟩
theorem jJ.b {n₀ m:Nat} (hm:n₀<=m) (W:World) (l:Nat) (o o':Obj) (hl:m<=l) (h:W.heap[l]? =some o) (hc:o.isCells=false) (_:o.isWalk=false):jJ n₀ W (W.putObj l o'):=by
 refine⟨by simp,fun b cells T fr hb _ _=>?_,fun k hk _=>World.putObj_heap_other ae⟩
 by_cases iy:b=l
 ·subst iy;rw[h]at hb;cases hb;cases hc
 ·exact World.putObj_heap_other iy
def Qp (bs:List PB):List Value:=bs.flatMap fun b=>[.int .i64 b.a,.int .i64 b.b,.int .i64 b.s]
theorem MN (bs:List PB) (b:PB):Qp (bs++[b])=Qp bs++[.int .i64 b.a,.int .i64 b.b,.int .i64 b.s]:=by simp[Qp]
def ql (s:aE) (l:List aa) (pre:List (TN l)):List PB:=(pre.map (·.1)).flatMap (CN s l)
theorem Bo (s:aE) (l:List aa) (pre:List (TN l)) (x:TN l):ql s l (pre++[x])=ql s l pre++CN s l x.1:=by simp[ql]
theorem MM (s:aE) (l:List aa) (x:Nat×Nat×Int):(CN s l x).length<=1:=by
 unfold CN;split<;>simp
theorem MO (s:aE) (l:List aa) (pre:List (TN l)):(ql s l pre).length<=pre.length:=by
 unfold ql
 induction pre with
 |nil=>simp
 |cons x r ih=>
  have:=MM s l x.1;simp only[List.map_cons,List.flatMap_cons,i6,List.length_cons]at ih ⊢;omega
theorem Ca (l:List aa) (i:Nat):∀m,(ni l i m).length<=m
 |0=>by simp[ni]
 |m+1=>by
  rw[pC,i6];have:=Ca l i m;have:(F5 l i (1-(m:Int))).length<=1:=by unfold F5;split<;>simp
  omega
theorem F6 (l:List aa):∀n,(nJ l n).length<=n*2
 |0=>by simp[nJ]
 |n+1=>by
  rw[oJ,i6];have:=F6 l n;have:=Ca l n 2;omega
theorem Fj {β:Type} (B:Nat) (c:Array Value) (t:TypeId) (fr:Nat×Nat):Own (fun(_:β) W=>W.heap[B]? =some (.cells c t fr)):=fun _ X _ row h hg hr=>(hg.block B (Array.getElem?_eq_some_iff.1 h).1 (fun e=>by
 obtain⟨o,ho,hc⟩:=hr B e.symm
 rw[h]at ho;cases ho;cases hc)).trans h
theorem jJ.app {n₀:Nat} {W w1:World} {B k:Nat} {v v':Value} {xs:List Value} {tmp:Obj} (hv:Boxed W B 153 v) (eP:W.ownsRow n₀ 188 3 v k xs) (BJ:(W.alloc tmp).grownBy w1 v.ownBlock) (hb:Below n₀ W (w1.setCell ⟨B,0,none⟩ v')):jJ n₀ W (w1.setCell ⟨B,0,none⟩ v'):=by
 refine⟨hb.size,fun b cells T fr h h1 h2=>?_,fun k hk _=>hb.block k hk⟩;have eG:=(Array.getElem?_eq_some_iff.1 h).1
 have hbB:b≠B:=by
  rintro rfl;rw[show W.heap[b]? = _ from hv]at h
  cases h
  exact h1 rfl
 have SP:some b≠v.ownBlock:=by
  rcases eP.2 with⟨rfl,_⟩|⟨g,cap,cur,rfl,_,hg,_⟩
  ·simp[Value.ownBlock]
  ·intro e;obtain rfl:b=g:=by simpa[Value.ownBlock]using e
   rw[hg]at h;cases h;exact h2 rfl
 refine(Below.heap_setCell w1 ⟨B,0,none⟩ v' b hbB).trans ?_;exact(BJ.block b (by simp;omega) SP).trans (Below.heap_alloc W tmp b eG)
theorem Y5 {w:World} {vS:Value} {l:List aa} (hP:sJ w vS l):Mu (jJ w.heap.size) vS l where
 refl:=jJ.refl _
 trans:=jJ.trans
 of:=jJ.of
 size h:=h.1
 typed h:=h.2.1
 pl {W W'} h hp:=by
  obtain⟨A,c,rfl,hm,hc⟩:=hp.sl;refine⟨A,c,rfl,hm,?_⟩
  by_cases hl:l=[]
  ·exact .inl hl
  have oe:0<l.length:=List.length_pos_iff.2 hl
  rcases hc with h0|⟨b,o,rfl,nM⟩
  ·exact absurd h0 hl
  obtain⟨A',c',e,_,l7⟩:=hP.sl
  cases e
  rcases l7 with h0|⟨b',o',e,hcell'⟩
  ·exact absurd h0 hl
  cases e
  have hb:=yk (hcell' 0 oe).1;have hk:=h.2.2 b hb (yk (nM 0 oe).1);refine .inr ⟨b,o,rfl,fun i hi=>?_⟩;have Yd:∀x,W'.cell? ⟨b,x,none⟩=W.cell? ⟨b,x,none⟩:=fun x=>World.cell?_of_block hk;rw[Yd,Yd,Yd];exact nM i hi
theorem rrE {P:Program} {nt site0:Nat} {ops:Array Oper} {vl:List bU} (_:yU P ops site0 false (kF ops) (sb P false ops.toList 0) ops.toList 0=some vl:=by(conv=>lhs;cbv)<;>exact rfl) (h:uA P nt site0 ops true false=some vl:=by kernel_rfl):uA P nt site0 ops true false=some vl:=h
theorem Oj (l:List Value) (d:Value):l=(List.range l.length).map fun i=>(⟨l⟩:Array Value).getD i d:=by
 refine List.ext_getElem (by simp) fun i h1 h2=>?_;simp[h1]
theorem H8 {X:gO} {d:Bool} {ops:List bU} {K:Env->aw->Prop} {env:Env} {σ:aw} (h:dY X (.gh d ops) (fun _=>K) env σ):wpOps X d ops K env σ:=h
theorem yY (W:World) (T:TypeId) (x y z:Value):∀(j:Nat) (u:Value),[x,y,z][j]? =some u->(W.alloc (.cells #[x,y,z] T)).cell? ((⟨W.heap.size,0,none⟩:Addr).add j)=some u:=fun j u h=>by
 have hb:(W.alloc (.cells #[x,y,z] T)).heap[W.heap.size]? =some (.cells #[x,y,z] T (0,0)):=World.alloc_heap_new _ _
 have e:∀k,(W.alloc (.cells #[x,y,z] T)).cell? ⟨W.heap.size,k,none⟩=(#[x,y,z]:Array Value)[k]? :=fun k=>by
  unfold World.cell?;rw[show(W.alloc (.cells #[x,y,z] T)).heap[(⟨W.heap.size,k,none⟩:Addr).block]? = _ from hb]
  rfl
 rw[show(⟨W.heap.size,0,none⟩:Addr).add j=⟨W.heap.size,j,none⟩ by simp[Addr.add];exact fun h=>h.symm,e]
 simpa using h
def MU (n b:Nat):Names:=fun id=>if id=⟨1,0⟩then some ⟨n,2,2,none⟩else if id=⟨2,0⟩then some ⟨n+1,1,1,none⟩else if id=⟨3,0⟩then some ⟨n+1+1,1,1,none⟩else if id=⟨4,0⟩then some ⟨b,2,2,none⟩else if id=⟨5,0⟩then some ⟨n+1+1+1,1,1,none⟩else none
def SD (s:aE) (l:List aa) (i k:Nat):Rows:=fun id=>if id=⟨1,0⟩then some ⟨false,2,[ai s]⟩else if id=⟨2,0⟩then some ⟨false,1,[[.sl (l.map ad)]]⟩else if id=⟨4,0⟩then some ⟨false,2,[[.int .i64 (i:Int),.int .i64 (k:Int)]]⟩else none
def Uc (s:aE) (l:List aa) (i k:Nat) (d:Int):Env:=bV [.agg (ai s),.agg [.sl (l.map ad)],.ptr ⟨1,0⟩ 0 0,.ptr ⟨2,0⟩ 0 0,.ck,.ptr ⟨3,0⟩ 0 0,.ptr ⟨4,0⟩ 0 0,.int .i64 d,.undef,.agg [.sl (l.map ad)],.fn 214 [.ptr ⟨5,0⟩ 0 0],.agg [.int .i64 (i:Int),.int .i64 (k:Int)],.int .i64 d]
theorem Ii {P:Program} {W:World} {D:Nat->Prop} {ι:Names} {B:wv} {cells:Array Value} {T:TypeId} {cs:List AV} (hk:B.k=none) (hb:W.heap[B.b]? =some (.cells cells T (0,0))) (hC:cells.size=B.C) (hz:B.sz=cs.length) (hl:cs.length=cells.size) (hf:∀a∈cs,a.cell=true) (hr:∀(j:Nat) (a:AV),cs[j]? =some a->∃v,cells[j]? =some v/\dX P W D ι a v):jl P W D ι B ⟨false,cs.length,[cs]⟩:=
 mi.obj ⟨hz,⟨cells,T,hb,hC⟩,by simp;omega,fun c hc=>by simp at hc;rw[hc],fun c hc=>by simp at hc;rw[hc];exact hf,fun i j c a hi hj=>by
  match i,hi with
  |0,hi=>
   simp at hi;subst hi
   obtain⟨v,h1,h2⟩:=hr j a hj;exact⟨v,by simp[World.cell?,hb,h1],h2⟩
  |i+1,hi=>simp at hi⟩ hk
theorem NY:(Tryz.prog.info? 188).map (fun i=>(i.zero,i.size,i.bytes))=some (some (.agg #[.int .i64 0,.int .i64 0,.int .i64 0]),3,24):=by kernel_rfl
end V

namespace V
open Go.RowKit Go.Shelf
attribute [local go_sem] Oper.semAt_some
attribute [local irreducible] dY wpOps fm Call
theorem MS (s:aE) (l:List aa) (hF:kj s) (hA:fS s l) (w:World) (Ag At:Option Addr) (ng cg nt ct:Nat) (vS:Value) (hT:lH Tryz.prog w (fun b=>b<w.heap.size) (.agg (ai s)) (.agg #[.slice Ag ng cg,.slice At nt ct])) (hP:sJ w vS l):
  CallsIn Fence.wide 5 Tryz.prog 170 #[.agg #[.slice Ag ng cg,.slice At nt ct],.agg #[vS]] w fun e W'=>∃v,e=.returned v/\W'.ownsRow w.heap.size 188 3 v (eI s l).length (Qp (eI s l))/\(v=.slice none 0 0↔eI s l=[])/\Below w.heap.size w W':=by
 obtain⟨A,cp,rfl,_,_⟩:=hP.sl;obtain⟨i0,hi,Ml,wq,qt⟩:=info_parts NY;refine callsIn_of_wp_marks Tryz.func170 rfl trivial ?_ rfl;simp only[Tryz.ntmps170,List.size_toArray,List.length_cons,List.length_nil,Nat.reduceAdd,Nat.reduceSub,Array.replicate_succ,Array.replicate_zero,List.push_toArray,List.append_toArray,List.nil_append,List.cons_append]
 gi_wp2_with (refine⟨trivial,?_⟩;gi_at_call 193;refine(DH _ _ _).mono ?_;rintro e w' ⟨rfl,rfl⟩)
 have bT:((w.alloc (.cells #[.slice Ag ng cg,.slice At nt ct] 27)).heap[w.heap.size]?)=some (.cells #[.slice Ag ng cg,.slice At nt ct] 27 (0,0)):=World.alloc_heap_new _ _
 obtain⟨w1,qX⟩:∃w1,w.alloc (.cells #[.slice Ag ng cg,.slice At nt ct] 27)=w1:=⟨_,rfl⟩
 have Xm:w1.heap.size=w.heap.size+1:=by rw[<-qX];simp
 have Ef:Below w.heap.size w w1:=by rw[<-qX];exact(Below.refl _ w).alloc i4 _
 rw[qX]at bT ⊢;clear qX;have bA:=Boxed.new w1 30 (.slice A l.length cp);have bO:=Boxed.new (w1.alloc (.cells #[.slice A l.length cp] 30)) 153 (.slice none 0 0);have bN:=Boxed.new ((w1.alloc (.cells #[.slice A l.length cp] 30)).alloc (.cells #[.slice none 0 0] 153)) 30 (.slice A l.length cp);replace bA:=(bA.alloc (.cells #[.slice none 0 0] 153)).alloc (.cells #[.slice A l.length cp] 30);replace bO:=bO.alloc (.cells #[.slice A l.length cp] 30);simp only[World.size_alloc,Xm]at bA bO bN;have lO:Below w1.heap.size w1 (((w1.alloc (.cells #[.slice A l.length cp] 30)).alloc (.cells #[.slice none 0 0] 153)).alloc (.cells #[.slice A l.length cp] 30)):=(((Below.refl _ w1).alloc i4 _).alloc (by simp) _).alloc (by simp;omega) _;have eT:(((w1.alloc (.cells #[.slice A l.length cp] 30)).alloc (.cells #[.slice none 0 0] 153)).alloc (.cells #[.slice A l.length cp] 30)).heap.size=w.heap.size+4:=by simp;omega
 obtain⟨W0,X9⟩:∃W0,((w1.alloc (.cells #[.slice A l.length cp] 30)).alloc (.cells #[.slice none 0 0] 153)).alloc (.cells #[.slice A l.length cp] 30)=W0:=⟨_,rfl⟩
 rw[X9]at bA bO bN lO eT ⊢;clear X9;have Fe:Below w.heap.size w W0:=Ef.trans (lO.mono ae);replace bT:=(lO.block w.heap.size ae).trans bT;have hP0:sJ W0 (.slice A l.length cp) l:=hP.below Fe;have kl:=Y5 hP;have iy:=tk (s:=s) hA.1
 refine wpIn_rangeFunc_ownH (n:=5) rfl ae (gf:=214) (lb:= #[.pointer (some ⟨w.heap.size+1+1+1,0,none⟩)]) rfl trivial (enters_of Tryz.func214 g9 rfl)
  (Ot l hA.1 (w.heap.size+1+1+1) (5-1) ae (.slice A l.length cp) (jJ w.heap.size) kl W0 bN hP0) jJ.trans (jJ.b ae) (Below.refl _ _) (fun _=>rfl)
  (fun pre W=>((∃v,Boxed W (w.heap.size+1+1) 153 v/\W.ownsRow w.heap.size 188 3 v (ql s l pre).length (Qp (ql s l pre))/\(v=.slice none 0 0↔ql s l pre=[]))/\(Boxed W (w.heap.size+1) 30 (.slice A l.length cp)/\W.heap[w.heap.size]? =some (.cells #[.slice Ag ng cg,.slice At nt ct] 27 (0,0))))/\Below w.heap.size w W)
  (fun _ _ _=>False)
  (OwnFrom.and (OwnFrom.and (Own.from (holdsRow_own w.heap.size (w.heap.size+1+1) 153 188 3 (fun pre=>(ql s l pre).length) (fun pre=>Qp (ql s l pre)) (fun pre v=>v=.slice none 0 0↔ql s l pre=[])) _) (OwnFrom.and (Own.from (boxed_own _ _ _) _) (Own.from (Fj _ _ _ _) _))) (ownFrom_below i4 ae))
  (fun _ _ _ _ _ hs _ _=>hs)
  ⟨⟨⟨_,bO,World.ownsRow_nil _ _ _ _,by simp[ql]⟩,bA,bT⟩,Fe⟩
  (fun x a' W=>∃Bx,w.heap.size+1+1<Bx/\W.heap[Bx]? =some (.cells #[.int .i64 (x.1.1:Int),.int .i64 (x.1.2.1:Int)] 248 (0,0))/\a'={tmps:= #[.agg #[.slice Ag ng cg,.slice At nt ct],.agg #[.slice A l.length cp],.pointer (some ⟨w.heap.size,0,none⟩),.pointer (some ⟨w.heap.size+1,0,none⟩),.slice none 0 0,.pointer (some ⟨w.heap.size+1+1,0,none⟩),.pointer (some ⟨Bx,0,none⟩),.int .i64 x.1.2.2,undef,.agg #[.slice A l.length cp],.func (.func 214) #[] #[.pointer (some ⟨w.heap.size+1+1+1,0,none⟩)],.agg #[.int .i64 (x.1.1:Int),.int .i64 (x.1.2.1:Int)],.int .i64 x.1.2.2,undef,undef,undef,undef,undef,undef,undef,undef,undef,undef,undef,undef,undef,undef,undef,undef,undef,undef,undef,undef,undef,undef,undef,undef,undef,undef,undef,undef,undef],defers:=[]})
  (fun x a' _ X Y row hs hg hr=>by obtain⟨Bx,h1,h2,h3⟩:=hs;exact⟨Bx,h1,Fj Bx _ _ _ () X Y row h2 hg (fun r e=>(hr r e).2),h3⟩)
  ?assign ?body ?done ?stop
 case assign=>
  rintro q pre ⟨⟨x0,x1,x2⟩,hx⟩ W K ⟨⟨⟨v,hv,eP,pr⟩,bA1,bT1⟩,hB⟩ hK;simp only[I3]
  gi_wp2
  exact hK _ _ ((KeepsOthers.alloc _ _).from _) (jJ.of ((Below.refl _ W).alloc i4 _)) ⟨⟨⟨v,hv.alloc _,eP.alloc _,pr⟩,bA1.alloc _,(Below.heap_alloc _ _ _ (Array.getElem?_eq_some_iff.1 bT1).1).trans bT1⟩,hB.alloc hB.size _⟩ ⟨W.heap.size,hv.lt,World.alloc_heap_new _ _,rfl⟩
 case body=>
  rintro q pre ⟨⟨x0,x1,x2⟩,hx⟩ a' W hq hqr ⟨⟨⟨v,hv,eP,pr⟩,bA1,bT1⟩,hB⟩ ⟨Bx,hBx,bX,rfl⟩ eG;obtain⟨GO,Eo,qf,-⟩:=id hx
  simp only at GO Eo qf bX
  obtain⟨A',c',e',_,hc⟩:=(hP.below hB).sl
  cases e'
  have eD:∃b o,A=some ⟨b,o,none⟩/\W.cell? ⟨b,o+x0*3+2,none⟩=some (.int .i64 (bc l x0).bK)/\W.cell? ⟨b,o+x1*3+2,none⟩=some (.int .i64 (bc l x1).bK):=by
   rcases hc with rfl|⟨b,o,rfl,nM⟩
   ·simp at GO
   ·exact⟨b,o,rfl,by rw[Nat.add_assoc];exact(nM x0 GO).2.2,by rw[Nat.add_assoc];exact(nM x1 Eo).2.2⟩
  obtain⟨b,o,rfl,cP0,cP1⟩:=eD;have cT0:W.cell? ⟨w.heap.size,0,none⟩=some (.slice Ag ng cg):=by simp[World.cell?,bT1]
  have cT1:W.cell? ⟨w.heap.size,1,none⟩=some (.slice At nt ct):=by simp[World.cell?,bT1]
  have cX0:W.cell? ⟨Bx,0,none⟩=some (.int .i64 (x0:Int)):=by simp[World.cell?,bX]
  have cX1:W.cell? ⟨Bx,1,none⟩=some (.int .i64 (x1:Int)):=by simp[World.cell?,bX]
  have cA:=bA1.cell;have dP0:W.drew.cell? ⟨b,o+x0*3+2,none⟩=some (.int .i64 (bc l x0).bK):=cP0;have dP1:W.drew.cell? ⟨b,o+x1*3+2,none⟩=some (.int .i64 (bc l x1).bK):=cP1;have dT0:W.drew.cell? ⟨w.heap.size,0,none⟩=some (.slice Ag ng cg):=cT0;have dT1:W.drew.cell? ⟨w.heap.size,1,none⟩=some (.slice At nt ct):=cT1;have dX0:W.drew.cell? ⟨Bx,0,none⟩=some (.int .i64 (x0:Int)):=cX0;have dX1:W.drew.cell? ⟨Bx,1,none⟩=some (.int .i64 (x1:Int)):=cX1;have dA:W.drew.cell? ⟨w.heap.size+1,0,none⟩=some (.slice (some ⟨b,o,none⟩) l.length cp):=cA
  have sP:∀i,i<l.length->bc l i∈l:=fun i hi=>by
   unfold bc;rw[List.getD_eq_getElem?_getD,i5 hi];exact List.getElem_mem hi
  have hmix:=mixed;have hfw:=hA.1.oG;have hbv:=MR s hF (bc l x0).bK x2 (bc l x1).bK (hA.2 _ (sP x0 GO)) (hA.2 _ (sP x1 Eo)) (jc ae);have hTW:lH Tryz.prog W (fun b=>b<w.heap.size) (.agg (ai s)) (.agg #[.slice Ag ng cg,.slice At nt ct]):=hT.frame (fun b hb=>hB.block b hb) (fun _ h=>h);have hAW:lH Tryz.prog W (fun b=>b<w.heap.size) (.sl (l.map ad)) (.slice (some ⟨b,o,none⟩) l.length cp):=hP.fw.frame (fun b hb=>hB.block b hb) (fun _ h=>h)
  obtain⟨fT,hT0,SM⟩:∃f:Nat->Value,(∀j,j<(ai s).length->(#[Value.slice Ag ng cg,.slice At nt ct])[j]? =some (f j))/\∀j a,(ai s)[j]? =some a->lH Tryz.prog W (fun b=>b<w.heap.size) a (f j):=by
   cases hTW with
   |agg _ _ f _ _ h3 h4=>exact⟨f,h3,h4⟩
  have ez:St Tryz.prog W.heap.size 42 (fun b=>b<w.heap.size) (MU w.heap.size Bx) (Uc s l x0 x1 x2) ⟨SD s l x0 x1,1⟩ {tmps:= #[.agg #[.slice Ag ng cg,.slice At nt ct],.agg #[.slice (some ⟨b,o,none⟩) l.length cp],.pointer (some ⟨w.heap.size,0,none⟩),.pointer (some ⟨w.heap.size+1,0,none⟩),.slice none 0 0,.pointer (some ⟨w.heap.size+1+1,0,none⟩),.pointer (some ⟨Bx,0,none⟩),.int .i64 x2,undef,.agg #[.slice (some ⟨b,o,none⟩) l.length cp],.func (.func 214) #[] #[.pointer (some ⟨w.heap.size+1+1+1,0,none⟩)],.agg #[.int .i64 (x0:Int),.int .i64 (x1:Int)],.int .i64 x2,undef,undef,undef,undef,undef,undef,undef,undef,undef,undef,undef,undef,undef,undef,undef,undef,undef,undef,undef,undef,undef,undef,undef,undef,undef,undef,undef,undef,undef],defers:=[]} W:=by
   have n1:(MU w.heap.size Bx) ⟨1,0⟩=some ⟨w.heap.size,2,2,none⟩:=rfl;have n2:(MU w.heap.size Bx) ⟨2,0⟩=some ⟨w.heap.size+1,1,1,none⟩:=rfl;have n3:(MU w.heap.size Bx) ⟨3,0⟩=some ⟨w.heap.size+1+1,1,1,none⟩:=rfl;have n4:(MU w.heap.size Bx) ⟨4,0⟩=some ⟨Bx,2,2,none⟩:=rfl;have n5:(MU w.heap.size Bx) ⟨5,0⟩=some ⟨w.heap.size+1+1+1,1,1,none⟩:=rfl
   have rp:∀(id:Id) (B:wv),(MU w.heap.size Bx) id=some B->B.k=none->dX Tryz.prog W (fun b=>b<w.heap.size) (MU w.heap.size Bx) (.ptr id 0 0) (.pointer (some ⟨B.b,0,none⟩)):=fun id B h hk=>by
    have:=dX.ptr (P:=Tryz.prog) (w:=W) (D:=fun b=>b<w.heap.size) id 0 0 B h hk
    simpa using this
   have ri:∀n:Int,dX Tryz.prog W (fun b=>b<w.heap.size) (MU w.heap.size Bx) (.int .i64 n) (.int .i64 n):=fun n=>.fw _ _ (.int _ _);have hA1:lH Tryz.prog W (fun b=>b<w.heap.size) (.agg [.sl (l.map ad)]) (.agg #[.slice (some ⟨b,o,none⟩) l.length cp]):=.agg _ _ (fun _=>.slice (some ⟨b,o,none⟩) l.length cp) rfl (fun a ha=>by simp at ha;rw[ha];rfl) (fun j hj=>by match j,hj with|0,_=>rfl|j+1,hj=>simp at hj) (fun j a ha=>by match j,ha with|0,ha=>simp at ha;subst ha;exact hAW|j+1,ha=>simp at ha);refine⟨⟨Nat.le_refl _,fun b hb=>Nat.lt_of_lt_of_le hb hB.size,fun id r hg=>?_,fun id lP r r' B B' h _ hw=>?_⟩,fun id hid=>?_,fun t=>?_,rfl⟩
   ·replace hg:SD s l x0 x1 id=some r:=hg;unfold SD at hg
    split at hg
    ·rename_i e;subst e;injection hg with hg;subst hg
     exact⟨_,n1,Ii (cs:=ai s) rfl bT1 rfl rfl rfl (fun a ha=>by simp[ai]at ha;rcases ha with rfl|rfl<;>rfl) (fun j a ha=>⟨_,hT0 j (List.getElem?_eq_some_iff.1 ha).1,.fw _ _ (SM j a ha)⟩),fun h=>(by cases h),fun h=>(by cases h)⟩
    ·split at hg
     ·rename_i e;subst e;injection hg with hg;subst hg
      exact⟨_,n2,Ii (cs:=[.sl (l.map ad)]) rfl bA1 rfl rfl rfl (fun a ha=>by simp at ha;rw[ha];rfl) (fun j a ha=>by match j,ha with|0,ha=>simp at ha;subst ha;exact⟨_,rfl,.fw _ _ hAW⟩|j+1,ha=>simp at ha),fun h=>(by cases h),fun h=>(by cases h)⟩
     ·split at hg
      ·rename_i e;subst e;injection hg with hg;subst hg
       exact⟨_,n4,Ii (cs:=[.int .i64 (x0:Int),.int .i64 (x1:Int)]) rfl bX rfl rfl rfl (fun a ha=>by simp at ha;rcases ha with rfl|rfl<;>rfl) (fun j a ha=>by match j,ha with|0,ha=>simp at ha;subst ha;exact⟨_,rfl,ri _⟩|1,ha=>simp at ha;subst ha;exact⟨_,rfl,ri _⟩|j+2,ha=>simp at ha),fun h=>(by cases h),fun h=>(by cases h)⟩
      ·cases hg
   ·exfalso;replace h:SD s l x0 x1 id=some r:=h;unfold SD at h
    split at h
    ·injection h with h;subst h;cases hw
    ·split at h
     ·injection h with h;subst h;cases hw
     ·split at h
      ·injection h with h;subst h;cases hw
      ·cases h
   ·left
    unfold MU at hid
    repeat' (split at hid)
    all_goals first|(rename_i e;subst e;exact Nat.zero_lt_one)|exact absurd rfl hid
   ·match t with
    |0=>exact .fw _ _ hTW
    |1=>exact .fw _ _ hA1
    |2=>exact rp _ _ n1 rfl
    |3=>exact rp _ _ n2 rfl
    |4=>exact .fw _ _ .ck
    |5=>exact rp _ _ n3 rfl
    |6=>exact rp _ _ n4 rfl
    |7=>exact ri _
    |8=>exact dX.undef
    |9=>exact .fw _ _ hA1
    |10=>exact .fn _ _ _ (fun _=>.pointer (some ⟨w.heap.size+1+1+1,0,none⟩)) g9 rfl (fun j hj=>by match j,hj with|0,_=>rfl|j+1,hj=>simp at hj) (fun j a ha=>by match j,ha with|0,ha=>simp at ha;subst ha;exact rp _ _ n5 rfl|j+1,ha=>simp at ha)
    |11=>exact .agg _ _ (fun j=>if j=0 then .int .i64 (x0:Int)else .int .i64 (x1:Int)) rfl (fun a ha=>by simp at ha;rcases ha with rfl|rfl<;>rfl) (fun j hj=>by match j,hj with|0,_=>rfl|1,_=>rfl|j+2,hj=>simp at hj;omega) (fun j a ha=>by match j,ha with|0,ha=>simp at ha;subst ha;exact ri _|1,ha=>simp at ha;subst ha;exact ri _|j+2,ha=>simp at ha)
    |12=>exact ri _
    |13=>exact dX.undef
    |14=>exact dX.undef
    |15=>exact dX.undef
    |16=>exact dX.undef
    |17=>exact dX.undef
    |18=>exact dX.undef
    |19=>exact dX.undef
    |20=>exact dX.undef
    |21=>exact dX.undef
    |22=>exact dX.undef
    |23=>exact dX.undef
    |24=>exact dX.undef
    |25=>exact dX.undef
    |26=>exact dX.undef
    |27=>exact dX.undef
    |28=>exact dX.undef
    |29=>exact dX.undef
    |30=>exact dX.undef
    |31=>exact dX.undef
    |32=>exact dX.undef
    |33=>exact dX.undef
    |34=>exact dX.undef
    |35=>exact dX.undef
    |36=>exact dX.undef
    |37=>exact dX.undef
    |38=>exact dX.undef
    |39=>exact dX.undef
    |40=>exact dX.undef
    |41=>exact dX.undef
    |t+42=>exact dX.undef
  have hV:wpOps (Call Tryz.prog) true ?vl (fun e _=>e 5=.ptr ⟨3,0⟩ 0 0/\e 6=.ptr ⟨4,0⟩ 0 0/\e 8=.int .i64 (fQ s (bc l x0).bK x2 (bc l x1).bK)) (Uc s l x0 x1 x2) ⟨SD s l x0 x1,1⟩:= ?hv
  gi_wp2
  refine DN mixed (rrE (nt:=42) (site0:=170005000)) (Ox g9) (nz (fun _ _ _ _ h=>iO mixed h) mK (fun _ _ h=>h) _ _ _ hV) ez ?_;rintro e1 σ1 ⟨tm,df⟩ w3 D1 ι1 ⟨h5,h6,h8⟩ T1 um HH
  case hv=>
   refine H8 ?_;have e0:=fZ GO;have e1:=fZ Eo
   (have zF:=tw6 @e0 @e1 @Uc.eq_1 @SD.eq_1 @ad.eq_1 @ai.eq_1;(repeat(first|((repeat(revert N;apply g7));refine wk zF ?_;repeat(apply g6;intro N hN))|((try apply i3);refine⟨_,au.x (hbv) (sd zF),?_⟩;apply hN;clear hN N)));try clear zF)
   exact⟨sd @Uc.eq_1,sd @Uc.eq_1,sd @Uc.eq_1⟩
  ·have Ff:Below W.heap.size W w3:=T1.below;have j3:∀id B,MU w.heap.size Bx id=some B->ι1 id=some B:=T1.names
   have p5:tm.getD 5 undef=.pointer (some ⟨w.heap.size+1+1,0,none⟩):=by
    have g:=um.env 5;rw[h5]at g;obtain⟨B,e,hB,_⟩:=jG g;have h:=j3 ⟨3,0⟩ ⟨w.heap.size+1+1,1,1,none⟩ rfl;rw[h]at hB;injection hB with hB;subst hB
    simpa using e
   have p6:tm.getD 6 undef=.pointer (some ⟨Bx,0,none⟩):=by
    have g:=um.env 6;rw[h6]at g;obtain⟨B,e,hB,_⟩:=jG g;have h:=j3 ⟨4,0⟩ ⟨Bx,2,2,none⟩ rfl;rw[h]at hB;injection hB with hB;subst hB
    simpa using e
   have p8:tm.getD 8 undef=.int .i64 (fQ s (bc l x0).bK x2 (bc l x1).bK):=by
    have g:=um.env 8;rw[h8]at g;exact eh g
   have eT:=um.size;obtain⟨tl⟩:=tm
   obtain⟨f,AE,hf⟩:∃f:Nat->Value,tl=[f 0,f 1,f 2,f 3,f 4,f 5,f 6,f 7,f 8,f 9,f 10,f 11,f 12,f 13,f 14,f 15,f 16,f 17,f 18,f 19,f 20,f 21,f 22,f 23,f 24,f 25,f 26,f 27,f 28,f 29,f 30,f 31,f 32,f 33,f 34,f 35,f 36,f 37,f 38,f 39,f 40,f 41]/\∀i,f i=(⟨tl⟩:Array Value).getD i undef:=by
    refine⟨fun i=>(⟨tl⟩:Array Value).getD i undef,?_,fun _=>rfl⟩;have h:=Oj tl undef;rw[show tl.length=42 from eT]at h;exact h
   rw[<-hf]at p5 p6 p8;have hdf':df=[]:=HH;subst hdf';clear hf um ez hV;subst AE;rw[p5,p6,p8];have hv3:=hv.kept (grown_of Ff) (by simp);have Jj:=eP.kept (grown_of Ff) (by rcases eP.2 with⟨e,_⟩|⟨_,_,_,e,_⟩<;>rw[e]<;>simp[Value.ownBlock]);have hc3:=hv3.cell;have QY:w.heap.size<=w3.heap.size:=Nat.le_trans hB.size Ff.size;have eX0:w3.cell? ⟨Bx,0,none⟩=some (.int .i64 (x0:Int)):=(Ff.cell (p:=⟨Bx,0,none⟩) (Array.getElem?_eq_some_iff.1 bX).1).trans cX0;have eX1:w3.cell? ⟨Bx,1,none⟩=some (.int .i64 (x1:Int)):=(Ff.cell (p:=⟨Bx,1,none⟩) (Array.getElem?_eq_some_iff.1 bX).1).trans cX1
   have mA:(ql s l pre).length<=2097152:=by
    have h1:=MO s l pre;have h2:=F6 l l.length;omega
   have hKF:KeepsFrom (w.heap.size+4) W w3:=⟨Ff.size,fun k o _ hk _=>(Ff.block k (Array.getElem?_eq_some_iff.1 hk).1).trans hk⟩
   have hKT:jJ w.heap.size W w3:=jJ.of Ff;have bA3:w3.heap[w.heap.size+1]? = _:=(Ff.block _ bA1.lt).trans bA1;have bT3:=(Ff.block _ (Array.getElem?_eq_some_iff.1 bT1).1).trans bT1
   by_cases oe:0<fQ s (bc l x0).bK x2 (bc l x1).bK
   ·have Eh:ql s l (pre++[⟨(x0,x1,x2),hx⟩])=ql s l pre++[⟨x0,x1,fQ s (bc l x0).bK x2 (bc l x1).bK⟩]:=by
     rw[Bo];simp only[CN,if_pos oe]
    gi_wp2_with (gi_at_builtin;refine wpListIn_append_own _ rfl _ _ 153 rfl w.heap.size 188 i0 (.agg #[.int .i64 0,.int .i64 0,.int .i64 0]) 3 24 g9 hi Ml wq qt rfl (by decide) _ _ _ rfl (Jj.alloc _) ⟨w3.heap.size,0,none⟩ 1 1 [.int .i64 (x0:Int),.int .i64 (x1:Int),.int .i64 (fQ s (bc l x0).bK x2 (bc l x1).bK)] rfl rfl (yY _ _ _ _ _) (by simp[Value.oneCell']) (by unfold maxLen;omega) ae (by simp;omega) ?_;intro v' w4 Fu BJ _;obtain⟨g',cap',rfl⟩:=ownsRow_succ Fu;obtain⟨tG,Q4,GM,qU,HG⟩:=hv3.appended (by decide) Jj QY ae Fu BJ;have Xb:=jJ.app hv3 Jj BJ HG;have uh:=tG.cell;have hf1:=tG.frozen)
    exact⟨hKF.trans (qU.from _),hKT.trans Xb,⟨⟨_,Q4,by rw[Eh,MN,i6];exact GM,by rw[Eh];simp⟩,(Xb.2.1 _ _ _ _ bA3 (by decide) (by decide)).trans bA3,(Xb.2.1 _ _ _ _ bT3 (by decide) (by decide)).trans bT3⟩,hB.trans ((Ff.mono hB.size).trans HG)⟩
   ·have Eh:ql s l (pre++[⟨(x0,x1,x2),hx⟩])=ql s l pre:=by
     rw[Bo];simp only[CN,if_neg oe,List.append_nil]
    gi_wp2
    exact⟨hKF,hKT,⟨⟨v,hv3,by rw[Eh];exact Jj,by rw[Eh];exact pr⟩,bA3,bT3⟩,hB.trans (Ff.mono hB.size)⟩
 case done=>
  rintro D ys W hD GP ⟨⟨⟨v,hv,eP,pr⟩,_⟩,hB⟩ hK;have hc:=hv.cell;have PV:ql s l ys=eI s l:=by rw[MT,<-GP];rfl
  rw[PV]at eP pr
  gi_wp2
  refine⟨by simp,.inl ⟨_,_,rfl,run_takeDeferred hK,?_⟩⟩;exact⟨_,results_tmp rfl _ _ _,v,rfl,ownsRow_putObj eP _ hK rfl,pr,hB.trans (belowK_b (w:=w) i4 W D _ _ ae hK rfl rfl)⟩
 case stop=>
  rintro D c pre W _ _ h _;exact h.elim
end V

namespace V
open Go.RowKit Go.Shelf
theorem IW:∀{bs:List PB} {i j:Nat} {b:PB},bs[i]? =some b->j<3->(Qp bs)[i*3+j]? =([.int .i64 b.a,.int .i64 b.b,.int .i64 b.s]:List Value)[j]?
 |c::bs,0,j,b,h,hj=>by
  simp at h;subst h
  simp only[Qp,List.flatMap_cons,Nat.zero_mul,Nat.zero_add];rw[List.getElem?_append_left (by simpa using hj)]
 |c::bs,i+1,j,b,h,hj=>by
  simp only[List.getElem?_cons_succ]at h;have:=IW (bs:=bs) (i:=i) (j:=j) h hj;simp only[Qp,List.flatMap_cons]at this ⊢;rw[List.getElem?_append_right (by simp;omega),<-this]
  congr 1
  simp;omega
theorem uW {P:Program} {w:World} {D:Nat->Prop} {rows:List (List AV)} {v:Value} (h:lH P w D (.sl rows) v):∃A n c,v=.slice A n c:=by
 cases h with
 |Er a c _=>exact⟨_,_,_,rfl⟩
 |sl=>exact⟨_,_,_,rfl⟩
theorem uc {P:Program} {w:World} {D:Nat->Prop} {ι:Names} {rows:List (List AV)} {v:Value} (h:dX P w D ι (.sl rows) v):lH P w D (.sl rows) v:=by
 cases h with
 |fw _ _ h=>exact h
theorem RG {P:Program} {w:World} {D:Nat->Prop} {l:List aa} {v:Value} (h:lH P w D (.sl (l.map ad)) v):sJ w v l:=by
 generalize hr:l.map ad=rows at h
 cases h with
 |Er a c hc=>
  have:l=[]:=by simpa using hr
  subst this;exact⟨a,c,rfl,⟨Nat.zero_le _,hc⟩,.inl rfl⟩
 |sl _ b o n c sz vs h1 h2 h3 h4 h5 h5' h6 h7=>
  have hn:n=l.length:=by rw[<-h1,<-hr];simp
  subst hn;refine⟨some ⟨b,o,none⟩,c,rfl,⟨h2,h3⟩,?_⟩
  by_cases hl:l=[]
  ·exact .inl hl
  refine .inr ⟨b,o,rfl,fun i hi=>?_⟩;have hg:rows[i]? =some (ad (bc l i)):=by rw[<-hr];exact fZ hi
  have eT:sz=3:=by rw[<-h5 _ (List.mem_of_getElem? hg)];rfl
  subst eT
  have k:∀(j:Nat) (x:Int),(ad (bc l i))[j]? =some (.int .i64 x)->j<3->w.cell? ⟨b,o+(i*3+j),none⟩=some (.int .i64 x):=fun j x hj h3=>by
   have:=h7 i j _ _ hg hj;rw[h6 i j hi h3,eh (.fw (ι:=fun _=>none) _ _ this)]
  exact⟨k 0 _ rfl ae,k 1 _ rfl ae,k 2 _ rfl ae⟩
theorem Ub:GU:=by
 intro s l hS hA n;refine fW ?_;intro hs D ι w vs S U A;obtain⟨u0,hu0,r0⟩:=A.2 0 _ rfl;obtain⟨u1,hu1,r1⟩:=A.2 1 _ rfl;have eG:∀b,D b->b<w.heap.size:=S.dead;obtain⟨v0,f0,rfl,Ml,_,hf0,Xi⟩:=jQ r0;obtain⟨v1,f1,rfl,wq,_,hf1,KO⟩:=jQ r1;have g0:=uc (Xi 0 _ rfl);have g1:=uc (Xi 1 _ rfl);have a0:=uc (KO 0 _ rfl);obtain⟨Ag,ng,cg,eg⟩:=uW g0;obtain⟨At,nt,ct,et⟩:=uW g1
 have e0:v0= #[.slice Ag ng cg,.slice At nt ct]:=by
  obtain⟨vl⟩:=v0;have q0:=hf0 0 (by simp[ai]);have q1:=hf0 1 (by simp[ai]);rw[eg]at q0;rw[et]at q1
  match vl,Ml with
  |[a,b],_=>simp at q0 q1;rw[q0,q1]
 have e1:v1= #[f1 0]:=by
  obtain⟨vl⟩:=v1;have q0:=hf1 0 (by simp)
  match vl,wq with
  |[a],_=>simp at q0;rw[q0]
 subst e0 e1
 have evs:vs= #[.agg #[.slice Ag ng cg,.slice At nt ct],.agg #[f1 0]]:=by
  obtain⟨vl⟩:=vs;have hz:=A.1
  match vl,hz with
  |[a,b],_=>simp at hu0 hu1;rw[hu0,hu1]
 subst evs;have up:∀{a v},lH Tryz.prog w D a v->lH Tryz.prog w (fun b=>b<w.heap.size) a v:=fun h=>h.frame (fun _ _=>rfl) eG
 have hT:lH Tryz.prog w (fun b=>b<w.heap.size) (.agg (ai s)) (.agg #[.slice Ag ng cg,.slice At nt ct]):=
  .agg _ _ f0 Ml (fun a ha=>by simp[ai]at ha;rcases ha with rfl|rfl<;>rfl) hf0 (fun j a ha=>by
   match j,ha with
   |0,ha=>simp[ai]at ha;subst ha;exact up g0
   |1,ha=>simp[ai]at ha;subst ha;exact up g1
   |j+2,ha=>simp[ai]at ha)
 refine(callsIn_wide.1 (MS s l hS.form hA w Ag At ng cg nt ct (f1 0) hT (RG a0))).mono ?_;rintro e W' ⟨v,rfl,⟨hl,hown⟩,pr,hB⟩;have S':iE Tryz.prog hs D ι (fun _=>none) W':=S.stay (fun b hb=>hB.block b hb) hB.size (fun _ h=>h) (fun b hb=>Nat.lt_of_lt_of_le (eG b hb) hB.size) (fun _ h=>.inl h) (fun _ _ h=>h);have T:Step hs D ι w D ι W':=Step.stay S (fun b hb=>hB.block b hb) hB.size hB.os hB.tape hB.output (fun _ h=>h) (fun _ h=>.inl h) (fun _ _ h=>h)
 rcases hown with⟨rfl,h0⟩|⟨gb,cap,cur,rfl,hgb,hblk,hle,Fh,eD,lh⟩
 ·have HF:eI s l=[]:=pr.1 rfl;exact⟨.ck,_,n,D,ι,_,rfl,⟨.ck,mN _ _,by rw[HF];rfl⟩,T,S',U,Nat.le_refl _,.fw _ _ .ck⟩
 ·have HF:eI s l≠[]:=fun h=>by have:=pr.2 h;cases this
  have gQ:ι ⟨0,n⟩=none:=fresh U (fun h=>h);have jv:∀{a v},dX Tryz.prog W' D ι a v->dX Tryz.prog W' D (lT ι ⟨0,n⟩ ⟨gb,3,cap*3,none⟩) a v:=fun h=>h.frame (fun _ _=>rfl) (fun _ h=>h) (gq gQ)
  have hR:jl Tryz.prog W' D (lT ι ⟨0,n⟩ ⟨gb,3,cap*3,none⟩) ⟨gb,3,cap*3,none⟩ ⟨true,3,(eI s l).map da⟩:=by
   refine mi.obj ⟨rfl,⟨cur,_,hblk,eD⟩,?_,fun cs hc=>?_,fun cs hc a ha=>?_,fun i j cs a hi hj=>?_⟩ rfl
   ·simp only[List.length_map];exact Nat.mul_le_mul_right 3 hle
   ·obtain⟨b,_,rfl⟩:=List.mem_map.1 hc;rfl
   ·obtain⟨b,_,rfl⟩:=List.mem_map.1 hc;simp[da]at ha
    rcases ha with rfl|rfl|rfl<;>rfl
   ·rw[List.getElem?_map]at hi;simp only[i7]at hi;obtain⟨b,hb,rfl⟩:=hi;have hj3:j<3:=by have:=(List.getElem?_eq_some_iff.1 hj).1;simpa[da]using this
    have sO:=(List.getElem?_eq_some_iff.1 hb).1;have hg:=IW hb hj3;rw[<-lh,List.getElem?_take,if_pos ae]at hg
    have key:∀x:Value,([.int .i64 b.a,.int .i64 b.b,.int .i64 b.s]:List Value)[j]? =some x->W'.cell? ⟨gb,i*3+j,none⟩=some x:=fun x hx=>by
     rw[hx]at hg
     have e:W'.cell? ⟨gb,i*3+j,none⟩=cur[i*3+j]? :=by
      unfold World.cell?;rw[show W'.heap[(⟨gb,i*3+j,none⟩:Addr).block]? = _ from hblk]
      rfl
     rw[e,<-Array.getElem?_toList];exact hg
    match j,hj with
    |0,hj=>simp[da]at hj;subst hj;exact⟨_,key _ rfl,.fw _ _ (.int _ _)⟩
    |1,hj=>simp[da]at hj;subst hj;exact⟨_,key _ rfl,.fw _ _ (.int _ _)⟩
    |2,hj=>simp[da]at hj;subst hj;exact⟨_,key _ rfl,.fw _ _ (.int _ _)⟩
    |j+3,hj=>simp[da]at hj
  have S2:=iE.add (r:=⟨true,3,(eI s l).map da⟩) S S' gQ hgb hR;refine⟨.own ⟨0,n⟩ 0 (eI s l).length,bJ (fun _=>none) ⟨0,n⟩ ⟨true,3,(eI s l).map da⟩,n+1,D,lT ι ⟨0,n⟩ ⟨gb,3,cap*3,none⟩,_,rfl,⟨DT (eI s l),?_,rfl⟩,T.trans (Step.stay S' (fun _ _=>rfl) i4 rfl rfl rfl (fun _ h=>h) (fun _ h=>.inl h) (gq gQ)),S2,U.upd.next,Nat.le_succ _,.own _ _ _ _ _ _ (fa _ _ _) rfl hle (.inr (by simp)) (by simp) Fh⟩;unfold DT;rw[if_neg HF];have hg:(bJ (fun _=>none) (⟨0,n⟩:Id) ⟨true,3,(eI s l).map da⟩:Rows) ⟨0,n⟩=some ⟨true,3,(eI s l).map da⟩:=by simp[bJ]
  have:=eQ (n:=5) hg rfl fun b=>yn _ 4 b
  simpa using this
end V

namespace V
open Go.RowKit
attribute [local irreducible] dY wpOps fm Call
theorem VW (s:ar) (l:List aa) (p:af) (t:Int):Qb s l p t=mc s l p t:=by
 unfold Qb mc
 congr 1
 by_cases h:ej l p=t
 ·simp[h]
 ·have h2:¬t=ej l p:=fun e=>h e.symm;simp[h,h2]
theorem Gw (s:ar) (l:List aa) (p:af):∀n,(Bd s l p n).head? =((List.range n).find? fun k:Nat=>mc s l p k).map fun k:Nat=>(⟨p,(k:Int)⟩:aa)
 |0=>by simp[Bd]
 |n+1=>by
  have ih:=Gw s l p n;rw[Bd,VW,List.range_succ,List.find?_append,Option.map_or,<-ih]
  cases h:mc s l p (n:Nat)
  ·simp[h]
  ·simp[h,List.head?_append]
theorem Gx (s:ar) (l:List aa):∀ps:List af,(sG s l ps).head? =(ps.find? fun p=>decide (0<=me s l p)).map fun p=>(⟨p,me s l p⟩:aa)
 |[]=>by simp[sG]
 |p::ps=>by
  have ih:=Gx s l ps;have h1:=Gw s l p s.ay.aq.length;have e:sG s l (p::ps)=Bd s l p s.ay.aq.length++sG s l ps:=by simp[sG]
  rw[e,List.head?_append,h1,ih,List.find?_cons]
  rcases hf:(List.range s.ay.aq.length).find? fun k:Nat=>mc s l p k with _|k
  ·have hw:me s l p= -1:=by rw[me,hf]
   simp[hw]
  ·have hw:me s l p=(k:Int):=by rw[me,hf]
   simp[hw]
theorem y9 (s:ar) (l:List aa):(sG s l (fX s l)).head? =(iF s l).map fun q=>(⟨q.1,q.2⟩:aa):=by
 rw[Gx,iF];simp[Function.comp_def]
theorem Rt (lb:List aa) (hb:jr lb) (t:aa):au Tryz.prog 121 [.agg (ad t),.dZ [.sl (lb.map ad)]] (.bool (!decide (ej lb t.aH=t.bK))):=by
 refine au.body fx rfl fun hl n0=>?_;clear hl;have h:=MI lb t.aH hb.pH (by have:=hb.oG;omega);(repeat(first|((repeat(revert N;apply g7));refine wk (tw @ad.eq_1 @ab.eq_1) ?_;repeat(apply g6;intro N hN))|((try apply i3);refine⟨_,au.x (h) (sd (tw @ad.eq_1 @ab.eq_1)),?_⟩;apply hN;clear hN N)));exact cZ (b:= !decide (ej lb t.aH=t.bK)) (.inl rfl) (sd @g8) (by simp)
theorem G0 (la lb:List aa) (ha:jr la) (hb:jr lb):au Tryz.prog 71 [.agg [.sl (la.map ad)],.agg [.sl (lb.map ad)]] (.bool (mC la lb)):=by
 refine au.body fx rfl fun hl n0=>?_;clear hl;have h1:=wK la;have h2:=wK lb;rw[rR.2 ha]at h1;rw[rR.2 hb]at h2
 have h3:au Tryz.prog 120 [.sl (la.map ad),.fn 121 [.dZ [.sl (lb.map ad)]]] (.bool (la.any fun t=> !decide (ej lb t.aH=t.bK))):=
  kM tx (show AJ Tryz.prog 120=some (zk 120 132) by kernel_rfl)
   (show AJ Tryz.prog 132=some (pw 132 3 true) by kernel_rfl) la (by have:=ha.oG;omega) _ _ _ rfl (fun g=>by rw[ah,aJ,aj];rfl) (fun x _=>Rt lb hb x) fun g=>by rw[ah,aJ,aj];rfl
 (repeat(first|((repeat(revert N;apply g7));refine wk @g8 ?_;repeat(apply g6;intro N hN))|((try apply i3);refine⟨_,au.x (h1) (sd @g8),?_⟩;apply hN;clear hN N)|((try apply i3);refine⟨_,au.x (h2) (sd @g8),?_⟩;apply hN;clear hN N)|((try apply i3);refine⟨_,au.x (h3) (sd @g8),?_⟩;apply hN;clear hN N)));exact cZ (b:= !(la.any fun t=> !decide (ej lb t.aH=t.bK))) (.inl rfl) (sd @g8) (by rw[IP];rfl)
theorem xP {s:ar} (hP:lW s) {l:List aa} (hW:mC s.cw.aq l=true):l≠[]:=by
 intro e;subst e;have h1:=hP.some;unfold mC at hW;rw[List.all_eq_true]at hW;have h2:=hW _ (e7 (l:=s.cw.aq) (i:=0) ae);have h3:=(dV (hP.ud.2 _ (e7 (l:=s.cw.aq) (i:=0) ae))).1;simp[ej,ei]at h2;omega
end V
end Go.Proofs.YtoodopepphhpoaaGreatDoor
