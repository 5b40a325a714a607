/- The check of a tile set. -/
import Derived.Test.YtainmfbpilopaaaGreatDoorGnB
import Derived.Test.YtainmfbpilopaaaGreatDoorGnA
import Derived.Shelf.SlSortCmp.WholeK
import Derived.Shelf.SlSortCmp.NoneTotal
import Derived.Ground.SlsfProg
import Derived.Test.YtainmfbpilopaaaGreatDoorProg
set_option linter.unusedVariables false
set_option linter.unusedSimpArgs false
set_option maxRecDepth 100000
set_option maxHeartbeats 16000000
namespace Go.Proofs.YtainmfbpilopaaaGreatDoor.V
open Go.RowKit
attribute [local irreducible] ea wpOps fB Call
def rM (s:az) (i:Nat):kU:=s.bh.getD i ⟨⟨#[]⟩,0⟩
def qI (s:az) (i:Nat):jy:=s.aj.getD i Dp
def GI (s:az) (i:Nat):Prop:=kS (rM s i).cZ=true/\ik (rM s i).iQ 1 4=true/\∀j,j<i->(rM s j).cZ≠(rM s i).cZ
def Eg (s:az) (i:Nat):Prop:=kS (qI s i).cZ=true/\(qI s i).dW.length=4/\(∀j,j<i->(qI s j).cZ≠(qI s i).cZ)/\∀g∈(qI s i).dW,ik g 0 s.bh.length=true
structure gy (s:az):Prop where
 yV:s.bh.length<=200
 some:1<=s.aj.length
 uW:s.aj.length<=160
 YB:∀i,i<s.bh.length->GI s i
 tok:∀i,i<s.aj.length->Eg s i
noncomputable def rZ (s:az):Bool:=@decide (gy s) (Classical.propDecidable _)
theorem mM {s:az}:rZ s=true↔gy s:=by simp[rZ]
theorem gL {s:az} (h:¬gy s):false=rZ s:=by simp[rZ,h]
theorem Ga {s:az} (h:gy s):true=rZ s:=by simp[rZ,h]
theorem DI {s:az} {i:Nat} (h:i<s.aj.length):(s.aj.map dx)[i]? =some (dx (qI s i)):=getD_map dx h
theorem CU {s:az} {i:Nat} (h:i<s.bh.length):(s.bh.map dZ)[i]? =some (dZ (rM s i)):=getD_map dZ h
theorem gy.form {s:az} (h:gy s):l9 s:=by
 have key:∀t∈s.aj,∃i,i<s.aj.length/\t=qI s i:=fun t ht=>by
  obtain⟨i,hi,rfl⟩:=List.getElem_of_mem ht
  exact⟨i,hi,by simp[qI,List.getD_eq_getElem?_getD,hi]⟩
 refine⟨fun t ht=>?_,fun t ht g hg=>?_⟩
 ·obtain⟨i,hi,rfl⟩:=key t ht
  exact(h.tok i hi).2.1
 ·obtain⟨i,hi,rfl⟩:=key t ht
  exact dY ((h.tok i hi).2.2.2 g hg)
def ev (l:List ByteArray):List (List AV):=l.map fun n=>[.str n,.bool true]
abbrev mS:MK:=⟨false,[.tS]⟩
theorem Cc (n:ByteArray):∀(l:List ByteArray) (i:Nat),∃r,gG mS [.str n] (ev l) i=some r/\((r=none/\n∉l)∨∃j,r=some (i+j)/\n∈l/\(ev l)[j]? =some [.str n,.bool true])
 |[],i=>⟨none,rfl,.inl ⟨rfl,by simp⟩⟩
 |m::l,i=>by
  obtain⟨r,h1,h2⟩:=Cc n l (i+1)
  by_cases h:n=m
  ·subst h
   exact⟨some i,by simp[ev,gG,eP,fu,MK.ks],.inr ⟨0,rfl,by simp,rfl⟩⟩
  ·refine⟨r,?_,?_⟩
   ·unfold ev at h1 ⊢
    simp only[List.map_cons,gG,MK.ks,List.length_cons,List.length_nil,Nat.zero_add,List.take_succ_cons,List.take_zero,eP,fu,h,decide_false,Bool.and_true]
    exact h1
   ·rcases h2 with⟨rfl,h2⟩|⟨j,rfl,h2,h3⟩
    ·exact .inl ⟨rfl,by simp[h,h2]⟩
    ·exact .inr ⟨j+1,by congr 1;omega,by simp[h2],by simpa[ev]using h3⟩
theorem Aa (n:ByteArray) (l:List ByteArray):(n∉l/\gC mS (.str n) (ev l)=some none)∨∃j,n∈l/\gC mS (.str n) (ev l)=some (some j)/\(ev l)[j]? =some [.str n,.bool true]:=by
 obtain⟨r,h1,h2⟩:=Cc n l 0
 have e:gC mS (.str n) (ev l)=some r:=by
  unfold gC
  rw[if_pos ⟨rfl,rfl,rfl⟩];exact h1
 rcases h2 with⟨rfl,h2⟩|⟨j,rfl,h2,h3⟩
 ·exact .inl ⟨h2,e⟩
 ·exact .inr ⟨j,h2,by rw[e,Nat.zero_add],h3⟩
theorem Uv (s:az) (g:Int):aw Tryz.prog 126 [.int .i64 g,.ef (ah s)] (.bool (!ik g 0 s.bh.length)):=by
 refine aw.body fx rfl fun hl n0=>?_
 clear hl
 have h:=kC g 0 s.bh.length
 (repeat(first|((repeat(revert N;apply Pn.out));refine wk @ah.eq_1 ?_;(repeat(apply Pn.mk;intro N hN)))|((try apply Or.inl);refine⟨_,aw.x (h) (sd @ah.eq_1),?_⟩;apply hN;clear hN N)))
 exact da (b:= !ik g 0 s.bh.length) (.inl rfl) (sd @Nat.zero_add) rfl
theorem II:Wd aM (fun c=>.int .i64 c) 1 false:=⟨fun _=>rfl,fun _=>rfl,fun x g=>by rw[aq,aV,ar];rfl⟩
theorem QT (s:az) (l:List Int) (hl:l.length<=1048576):aw Tryz.prog 123 [.sl (l.map aM),.fn 126 [.ef (ah s)]] (.bool (l.any fun g=> !ik g 0 s.bh.length)):=
 kh II (show CC Tryz.prog 123=some (yX 123 188) by kernel_rfl)
  (show CC Tryz.prog 188=some (th 188 1 false) by kernel_rfl) l hl _ _ _ rfl (fun g=>by rw[aq,aP,ar];rfl) (fun x _=>Uv s x) fun g=>by rw[aq,aP,ar];rfl
theorem zC {α:Type} (f:Nat->α) (n k:Nat) (x:α):x∉(List.range k).map f↔∀j,j<k->f j≠x:=by
 constructor
 ·intro h j hj he
  exact h (List.mem_map.2 ⟨j,List.mem_range.2 hj,he⟩)
 ·intro h hm
  obtain⟨j,hj,he⟩:=List.mem_map.1 hm
  exact h j (List.mem_range.1 hj) he
theorem GQ (s:az) (hn:im s) (hg:s.bh.length<=1048576) (ht:s.aj.length<=1048576) (hs:∀t∈s.aj,t.dW.length<=1048576):aw Tryz.prog 68 [.agg (ah s)] (.bool (rZ s)):=by
 refine aw.body fx rfl fun hl n0=>?_
 clear hl
 have Xg:∀i,i<s.bh.length->(rM s i).cZ.size<=9223372036854775807:=fun i hi=>hn.1 _ (by simp[rM,List.getD_eq_getElem?_getD,hi])
 have TV:∀i,i<s.aj.length->(qI s i).cZ.size<=9223372036854775807:=fun i hi=>hn.2 _ (by simp[qI,List.getD_eq_getElem?_getD,hi])
 have AR:∀i,i<s.aj.length->(qI s i).dW.length<=1048576:=fun i hi=>hs _ (by simp[qI,List.getD_eq_getElem?_getD,hi])
 have hw:=kC (s.aj.length:Int) 1 160
 by_cases h1:(200:Int)<(s.bh.length:Int)
 ·(try((repeat(revert N;apply Pn.out));refine wk (tw @ah.eq_1 @h1) ?_;(repeat(apply Pn.mk;intro N hN))))
  exact da (b:=false) (.inl rfl) (sd @Nat.zero_add) (gL fun h=>by have:=h.yV;omega)
 by_cases h2:ik (s.aj.length:Int) 1 160=true
 ·have DQ:=dY h2
  rw[h2]at hw
  (repeat(first|((repeat(revert N;apply Pn.out));refine wk (tw @ah.eq_1 @h1) ?_;(repeat(apply Pn.mk;intro N hN)))|((try apply Or.inl);refine⟨_,aw.x (hw) (sd (tw @ah.eq_1 @h1)),?_⟩;apply hN;clear hN N)))
  refine cm (fun n env st=>∃k:Nat,n=(s.bh.length)-k/\k<=(s.bh.length)/\env 24=.int .i64 (k:Int)/\st.get ⟨68000000,n0⟩=some ⟨true,2,[ah s]⟩/\st.get ⟨68003000,n0+1+1⟩=some ⟨true,mS.j4,ev ((List.range k).map fun i=>(rM s i).cZ)⟩/\(∀j:Nat,j<k->GI s j)) (s.bh.length) ⟨0,ae,ae,by(try simp only[go_sem, ↓reduceIte,Nat.reduceEqDiff,Nat.reduceAdd,Nat.reduceSub,Nat.reduceLeDiff,reduceCtorEq,ah,List.range_zero,List.map_nil,ev]);try rfl,by(try simp only[go_sem, ↓reduceIte,Nat.reduceEqDiff,Nat.reduceAdd,Nat.reduceSub,Nat.reduceLeDiff,reduceCtorEq,ah,List.range_zero,List.map_nil,ev]);try rfl,by(try simp only[go_sem, ↓reduceIte,Nat.reduceEqDiff,Nat.reduceAdd,Nat.reduceSub,Nat.reduceLeDiff,reduceCtorEq,ah,List.range_zero,List.map_nil,ev]);try rfl,fun _ h=>absurd h (Nat.not_lt_zero _)⟩ ?_
  rintro n_a env_a st_a ⟨k,rfl,ale,a24,ag0,ag1,nJ⟩ eF
  have a1:=eF 1 (by kernel_rfl);have a3:=eF 3 (by kernel_rfl);have a22:=eF 22 (by kernel_rfl);have a23:=eF 23 (by kernel_rfl)
  simp only[go_sem, ↓reduceIte,Nat.reduceEqDiff,Nat.reduceAdd,Nat.reduceSub,Nat.reduceLeDiff,reduceCtorEq,ah,List.range_zero,List.map_nil,ev]at a1 a3 a22 a23
  clear eF
  by_cases hk:(k:Int)<(s.bh.length:Int)
  ·have eh:∀{e:Env} {gg:Rows},(e 24=.int .i64 (IntKind.i64.wrap ((k:Int)+1)))->(gg ⟨68000000,n0⟩=some ⟨true,2,[ah s]⟩)->(gg ⟨68003000,n0+1+1⟩=some ⟨true,mS.j4,ev ((List.range (k+1)).map fun i=>(rM s i).cZ)⟩)->(GI s k)->∃m0,m0<(s.bh.length)-k/\∃k:Nat,m0=(s.bh.length)-k/\k<=(s.bh.length)/\e 24=.int .i64 (k:Int)/\gg ⟨68000000,n0⟩=some ⟨true,2,[ah s]⟩/\gg ⟨68003000,n0+1+1⟩=some ⟨true,mS.j4,ev ((List.range k).map fun i=>(rM s i).cZ)⟩/\(∀j:Nat,j<k->GI s j):=fun x1 x2 x3 x4=>⟨_,ae,k+1,rfl,ae,(by rw[x1,bf ae]),x2,x3,(all_succ nJ x4)⟩
   have jg:k<s.bh.length:=ae
   have iy:=CU jg
   have tf:=Ja (rM s k).cZ (Xg k jg)
   have Pc:=kC (rM s k).iQ 1 4
   have Ff:=Aa (rM s k).cZ ((List.range k).map fun i=>(rM s i).cZ)
   rw[zC _ k]at Ff
   have lT:(¬GI s k)->¬gy s:=fun h hp=>h (hp.YB k jg)
   generalize qW:rM s k=gl at *
   cases hb:kS gl.cZ
   ·rw[hb]at tf
    (have zF:=tw @a24 (tw @ag0 (tw @ag1 (tw @a1 (tw @a3 (tw @a22 (tw @a23 (tw @hk (tw @iy (tw @dZ.eq_1 @ah.eq_1)))))))));(repeat(first|((repeat(revert N;apply Pn.out));refine wk zF ?_;(repeat(apply Pn.mk;intro N hN)))|((try apply Or.inl);refine⟨_,aw.x (tf) (sd zF),?_⟩;apply hN;clear hN N)));try clear zF)
    exact da (b:=false) (.inl rfl) (sd @Nat.zero_add) (gL (lT fun h=>by rw[GI,qW,hb]at h;cases h.1))
   ·rw[hb]at tf
    rcases Ff with⟨Hu,lU⟩|⟨j,gV,lU,fE⟩
    ·cases ed:ik gl.iQ 1 4
     ·rw[ed]at Pc
      (have zF:=tw @a24 (tw @ag0 (tw @ag1 (tw @a1 (tw @a3 (tw @a22 (tw @a23 (tw @hk (tw @iy (tw @lU (tw @dZ.eq_1 @ah.eq_1))))))))));(repeat(first|((repeat(revert N;apply Pn.out));refine wk zF ?_;(repeat(apply Pn.mk;intro N hN)))|((try apply Or.inl);refine⟨_,aw.x (tf) (sd zF),?_⟩;apply hN;clear hN N)|((try apply Or.inl);refine⟨_,aw.x (Pc) (sd zF),?_⟩;apply hN;clear hN N)));try clear zF)
      exact da (b:=false) (.inl rfl) (sd @Nat.zero_add) (gL (lT fun h=>by rw[GI,qW,ed]at h;cases h.2.1))
     ·rw[ed]at Pc
      have qv:ev ((List.range k).map fun i=>(rM s i).cZ)++[[.str gl.cZ,.bool true]]=ev (List.map (fun i=>(rM s i).cZ) (List.range k++[k])):=by simp[ev,qW]
      (have zF:=tw @a24 (tw @ag0 (tw @ag1 (tw @a1 (tw @a3 (tw @a22 (tw @a23 (tw @hk (tw @iy (tw @lU (tw @dZ.eq_1 @ah.eq_1))))))))));(repeat(first|((repeat(revert N;apply Pn.out));refine wk zF ?_;(repeat(apply Pn.mk;intro N hN)))|((try apply Or.inl);refine⟨_,aw.x (tf) (sd zF),?_⟩;apply hN;clear hN N)|((try apply Or.inl);refine⟨_,aw.x (Pc) (sd zF),?_⟩;apply hN;clear hN N)));try clear zF)
      refine eh ?_ ?_ ?_ (⟨by rw[qW];exact hb,by rw[qW];exact ed,fun j hj=>by rw[qW];exact Hu j hj⟩)
      all_goals simp only[go_sem, ↓reduceIte,Nat.reduceEqDiff,Nat.reduceAdd,Nat.reduceSub,Nat.reduceLeDiff,reduceCtorEq,a24,ag0,ag1,a1,a3,a22,a23,lU,qv]
    ·(have zF:=tw @a24 (tw @ag0 (tw @ag1 (tw @a1 (tw @a3 (tw @a22 (tw @a23 (tw @hk (tw @iy (tw @lU (tw @fE (tw @dZ.eq_1 @ah.eq_1)))))))))));(repeat(first|((repeat(revert N;apply Pn.out));refine wk zF ?_;(repeat(apply Pn.mk;intro N hN)))|((try apply Or.inl);refine⟨_,aw.x (tf) (sd zF),?_⟩;apply hN;clear hN N)));try clear zF)
     exact da (b:=false) (.inl rfl) (sd @Nat.zero_add) (gL (lT fun h=>by
      rw[GI,qW]at h
      obtain⟨i,hi,he⟩:=List.mem_map.1 gV
      exact h.2.2 i (List.mem_range.1 hi) he))
  ·have oy:k=s.bh.length:=ae
   (try((repeat(revert N;apply Pn.out));refine wk (tw @a24 (tw @ag0 (tw @ag1 (tw @a1 (tw @a3 (tw @a22 (tw @a23 (tw @hk @ah.eq_1)))))))) ?_;(repeat(apply Pn.mk;intro N hN))))
   refine cm (fun n env st=>∃j:Nat,n=(s.aj.length)-j/\j<=(s.aj.length)/\env 52=.int .i64 (j:Int)/\st.get ⟨68000000,n0⟩=some ⟨true,2,[ah s]⟩/\st.get ⟨68011000,st_a.next+1⟩=some ⟨true,mS.j4,ev ((List.range j).map fun i=>(qI s i).cZ)⟩/\(∀i:Nat,i<j->Eg s i)/\(st_a.next<st.next)) (s.aj.length) ⟨0,ae,ae,by(try simp only[go_sem, ↓reduceIte,Nat.reduceEqDiff,Nat.reduceAdd,Nat.reduceSub,Nat.reduceLeDiff,reduceCtorEq,a24,ag0,ag1,a1,a3,a22,a23,ah,List.range_zero,List.map_nil,ev]);try rfl,by(try simp only[go_sem, ↓reduceIte,Nat.reduceEqDiff,Nat.reduceAdd,Nat.reduceSub,Nat.reduceLeDiff,reduceCtorEq,a24,ag0,ag1,a1,a3,a22,a23,ah,List.range_zero,List.map_nil,ev]);try rfl,by(try simp only[go_sem, ↓reduceIte,Nat.reduceEqDiff,Nat.reduceAdd,Nat.reduceSub,Nat.reduceLeDiff,reduceCtorEq,a24,ag0,ag1,a1,a3,a22,a23,ah,List.range_zero,List.map_nil,ev]);try rfl,fun _ h=>absurd h (Nat.not_lt_zero _),aH⟩ ?_
   rintro n_b env_b st_b ⟨j,rfl,ble,b52,bg0,bg1,bA0,bI0⟩ eS
   have b1:=eS 1 (by kernel_rfl);have b6:=eS 6 (by kernel_rfl);have GU:=eS 50 (by kernel_rfl);have GV:=eS 51 (by kernel_rfl)
   simp only[go_sem, ↓reduceIte,Nat.reduceEqDiff,Nat.reduceAdd,Nat.reduceSub,Nat.reduceLeDiff,reduceCtorEq,a24,ag0,ag1,a1,a3,a22,a23,ah,List.range_zero,List.map_nil,ev]at b1 b6 GU GV
   clear eS
   by_cases hj:(j:Int)<(s.aj.length:Int)
   ·have fb:∀{e:Env} {gg:Rows} {nx:Nat},(e 52=.int .i64 (IntKind.i64.wrap ((j:Int)+1)))->(gg ⟨68000000,n0⟩=some ⟨true,2,[ah s]⟩)->(gg ⟨68011000,st_a.next+1⟩=some ⟨true,mS.j4,ev ((List.range (j+1)).map fun i=>(qI s i).cZ)⟩)->(Eg s j)->(st_a.next<nx)->∃m0,m0<(s.aj.length)-j/\∃j:Nat,m0=(s.aj.length)-j/\j<=(s.aj.length)/\e 52=.int .i64 (j:Int)/\gg ⟨68000000,n0⟩=some ⟨true,2,[ah s]⟩/\gg ⟨68011000,st_a.next+1⟩=some ⟨true,mS.j4,ev ((List.range j).map fun i=>(qI s i).cZ)⟩/\(∀i:Nat,i<j->Eg s i)/\(st_a.next<nx):=fun x1 x2 x3 x4 x5=>⟨_,ae,j+1,rfl,ae,(by rw[x1,bf ae]),x2,x3,(all_succ bA0 x4),x5⟩
    have pQ:j<s.aj.length:=ae
    have oN:=DI pQ
    have tf:=Ja (qI s j).cZ (TV j pQ)
    have TP:=QT s (qI s j).dW (AR j pQ)
    have Ff:=Aa (qI s j).cZ ((List.range j).map fun i=>(qI s i).cZ)
    rw[zC _ j]at Ff
    have lT:(¬Eg s j)->¬gy s:=fun h hp=>h (hp.tok j pQ)
    have iI:(⟨68011000,st_a.next+1⟩:Id)≠⟨68000000,n0⟩:=by simp
    generalize htd:qI s j=tl at *
    cases hb:kS tl.cZ
    ·rw[hb]at tf
     (have zF:=tw @b52 (tw @bg0 (tw @bg1 (tw @b1 (tw @b6 (tw @GU (tw @GV (tw @hj (tw @oN (tw @dx.eq_1 @ah.eq_1)))))))));(repeat(first|((repeat(revert N;apply Pn.out));refine wk zF ?_;(repeat(apply Pn.mk;intro N hN)))|((try apply Or.inl);refine⟨_,aw.x (tf) (sd zF),?_⟩;apply hN;clear hN N)));try clear zF)
     exact da (b:=false) (.inl rfl) (sd @Nat.zero_add) (gL (lT fun h=>by rw[Eg,htd,hb]at h;cases h.1))
    ·rw[hb]at tf
     rcases Ff with⟨Hu,lU⟩|⟨i,gV,lU,fE⟩
     ·by_cases h4:(tl.dW.length:Int)=4
      ·have CZ:decide ((tl.dW.length:Int)=4)=true:=decide_eq_true h4
       cases hany:tl.dW.any fun g=> !ik g 0 s.bh.length
       ·rw[hany]at TP
        have qv:ev ((List.range j).map fun i=>(qI s i).cZ)++[[.str tl.cZ,.bool true]]=ev (List.map (fun i=>(qI s i).cZ) (List.range j++[j])):=by simp[ev,htd]
        (have zF:=tw @b52 (tw @bg0 (tw @bg1 (tw @b1 (tw @b6 (tw @GU (tw @GV (tw @hj (tw @oN (tw @lU (tw @CZ (tw @dx.eq_1 @ah.eq_1)))))))))));(repeat(first|((repeat(revert N;apply Pn.out));refine wk zF ?_;(repeat(apply Pn.mk;intro N hN)))|((try apply Or.inl);refine⟨_,aw.x (tf) (sd zF),?_⟩;apply hN;clear hN N)|((try apply Or.inl);refine⟨_,aw.x (TP) (sd zF),?_⟩;apply hN;clear hN N)));try clear zF)
        refine fb ?_ ?_ ?_ (⟨by rw[htd];exact hb,by rw[htd];omega,fun i hi=>(by rw[htd];exact Hu i hi),fun g hg=>by rw[htd]at hg;have:=List.any_eq_false.1 hany g hg;simpa using this⟩) aH
        all_goals simp only[go_sem, ↓reduceIte,Nat.reduceEqDiff,Nat.reduceAdd,Nat.reduceSub,Nat.reduceLeDiff,reduceCtorEq,b52,bg0,bg1,b1,b6,GU,GV,lU,qv]
       ·rw[hany]at TP
        (have zF:=tw @b52 (tw @bg0 (tw @bg1 (tw @b1 (tw @b6 (tw @GU (tw @GV (tw @hj (tw @oN (tw @lU (tw @CZ (tw @dx.eq_1 @ah.eq_1)))))))))));(repeat(first|((repeat(revert N;apply Pn.out));refine wk zF ?_;(repeat(apply Pn.mk;intro N hN)))|((try apply Or.inl);refine⟨_,aw.x (tf) (sd zF),?_⟩;apply hN;clear hN N)|((try apply Or.inl);refine⟨_,aw.x (TP) (sd zF),?_⟩;apply hN;clear hN N)));try clear zF)
        exact da (b:=false) (.inl rfl) (sd @Nat.zero_add) (gL (lT fun h=>by
         rw[Eg,htd]at h
         obtain⟨g,hg,hq⟩:=List.any_eq_true.1 hany
         have:=h.2.2.2 g hg
         rw[this]at hq;cases hq))
      ·have CZ:decide ((tl.dW.length:Int)=4)=false:=decide_eq_false h4
       (have zF:=tw @b52 (tw @bg0 (tw @bg1 (tw @b1 (tw @b6 (tw @GU (tw @GV (tw @hj (tw @oN (tw @lU (tw @CZ (tw @dx.eq_1 @ah.eq_1)))))))))));(repeat(first|((repeat(revert N;apply Pn.out));refine wk zF ?_;(repeat(apply Pn.mk;intro N hN)))|((try apply Or.inl);refine⟨_,aw.x (tf) (sd zF),?_⟩;apply hN;clear hN N)));try clear zF)
       exact da (b:=false) (.inl rfl) (sd @Nat.zero_add) (gL (lT fun h=>by rw[Eg,htd]at h;have:=h.2.1;omega))
     ·(have zF:=tw @b52 (tw @bg0 (tw @bg1 (tw @b1 (tw @b6 (tw @GU (tw @GV (tw @hj (tw @oN (tw @lU (tw @fE (tw @dx.eq_1 @ah.eq_1)))))))))));(repeat(first|((repeat(revert N;apply Pn.out));refine wk zF ?_;(repeat(apply Pn.mk;intro N hN)))|((try apply Or.inl);refine⟨_,aw.x (tf) (sd zF),?_⟩;apply hN;clear hN N)));try clear zF)
      exact da (b:=false) (.inl rfl) (sd @Nat.zero_add) (gL (lT fun h=>by
       rw[Eg,htd]at h
       obtain⟨i,hi,he⟩:=List.mem_map.1 gV
       exact h.2.2.1 i (List.mem_range.1 hi) he))
   ·(try((repeat(revert N;apply Pn.out));refine wk (tw @b52 (tw @bg0 (tw @bg1 (tw @b1 (tw @b6 (tw @GU (tw @GV (tw @hj @ah.eq_1)))))))) ?_;(repeat(apply Pn.mk;intro N hN))))
    exact da (b:=true) (.inl rfl) (sd @Nat.zero_add) (Ga ⟨ae,ae,ae,fun i hi=>nJ i ae,fun i hi=>bA0 i ae⟩)
 ·rw[Bool.not_eq_true]at h2
  rw[h2]at hw
  (repeat(first|((repeat(revert N;apply Pn.out));refine wk (tw @ah.eq_1 @h1) ?_;(repeat(apply Pn.mk;intro N hN)))|((try apply Or.inl);refine⟨_,aw.x (hw) (sd (tw @ah.eq_1 @h1)),?_⟩;apply hN;clear hN N)))
  exact da (b:=false) (.inl rfl) (sd @Nat.zero_add) (gL fun h=>by
   have h3:=h.some
   have h4:=h.uW
   rw[jU ⟨ae,ae⟩]at h2;cases h2)
theorem xP {α:Type} {p:α->Bool} {xs:List α} {k:Nat} (hk:k<xs.length) (h1:p xs[k]=true) (h2:∀j (h:j<xs.length),j<k->p xs[j]=false):lQ p xs=k:=by
 have:xs.findIdx p=k:=by rw[List.findIdx_eq hk];exact⟨h1,fun j hj=>h2 j ae hj⟩
 rw[lQ,this,if_pos hk]
theorem Br {α:Type} {p:α->Bool} {xs:List α} (h:∀j (h:j<xs.length),p xs[j]=false):lQ p xs= -1:=by
 rw[lQ,if_neg]
 rw[List.findIdx_lt_length]
 rintro⟨x,hx,M6⟩
 obtain⟨j,hj,rfl⟩:=List.getElem_of_mem hx
 rw[h j hj]at M6;cases M6
theorem CT {s:az} {i:Nat} (h:i<s.bh.length):rM s i=s.bh[i]:=by simp[rM,List.getD_eq_getElem?_getD,h]
theorem DH {s:az} {i:Nat} (h:i<s.aj.length):qI s i=s.aj[i]:=by simp[qI,List.getD_eq_getElem?_getD,h]
def OX (s:az) (n:ByteArray):Int:=lQ (fun g:kU=>decide (g.cZ=n)) s.bh
def Sd (s:az) (n:ByteArray):Int:=lQ (fun t:jy=>decide (t.cZ=n)) s.aj
theorem KC (s:az) (nm:ByteArray):aw Tryz.prog 119 [.ef (ah s),.str nm] (.int .i64 (OX s nm+1)):=by
 refine aw.body fx rfl fun hl n0=>?_
 have hlen:s.bh.length<=9223372036854775807:=by
  have h1:=(hl (.ef (ah s)) (by simp)).Fu (a:=.sl (s.bh.map dZ)) (by simp[ah])
  simpa using h1.len
 clear hl
 (try((repeat(revert N;apply Pn.out));refine wk @ah.eq_1 ?_;(repeat(apply Pn.mk;intro N hN))))
 refine cm (fun n env st=>∃k:Nat,n=(s.bh.length)-k/\k<=(s.bh.length)/\env 5=.int .i64 (k:Int)/\(∀j:Nat,j<k->∀h:j<s.bh.length,decide (s.bh[j].cZ=nm)=false)) (s.bh.length) ⟨0,ae,ae,sl @ah.eq_1,fun _ h=>absurd h (Nat.not_lt_zero _)⟩ ?_
 rintro n_a env_a st_a ⟨k,rfl,ale,a5,nJ⟩ eF
 have a0:=eF 0 (by kernel_rfl);have a1:=eF 1 (by kernel_rfl)
 simp only[go_sem, ↓reduceIte,Nat.reduceEqDiff,Nat.reduceAdd,Nat.reduceSub,Nat.reduceLeDiff,reduceCtorEq,ah]at a0 a1
 clear eF
 by_cases hk:(k:Int)<(s.bh.length:Int)
 ·have eh:∀{e:Env},(e 5=.int .i64 (IntKind.i64.wrap ((k:Int)+1)))->(∀h:k<s.bh.length,decide (s.bh[k].cZ=nm)=false)->∃m0,m0<(s.bh.length)-k/\∃k:Nat,m0=(s.bh.length)-k/\k<=(s.bh.length)/\e 5=.int .i64 (k:Int)/\(∀j:Nat,j<k->∀h:j<s.bh.length,decide (s.bh[j].cZ=nm)=false):=fun x1 x2=>⟨_,ae,k+1,rfl,ae,(by rw[x1,bf ae]),(all_succ nJ x2)⟩
  have jg:k<s.bh.length:=ae
  have iy:=CU jg
  have e:=CT jg
  cases hd:decide ((rM s k).cZ=nm)
  ·have YQ:=of_decide_eq_false hd
   (try((repeat(revert N;apply Pn.out));refine wk (tw @a5 (tw @a0 (tw @a1 (tw @hk (tw @iy (tw @YQ (tw @hd (tw @dZ.eq_1 @ah.eq_1)))))))) ?_;(repeat(apply Pn.mk;intro N hN))))
   exact eh (sd (tw @a5 (tw @a0 @a1))) (fun _=>by rw[e]at hd;exact hd)
  ·have YQ:=of_decide_eq_true hd
   have hw:IntKind.i64.wrap ((k:Int)+1)=(k:Int)+1:=db ae
   (try((repeat(revert N;apply Pn.out));refine wk (tw @a5 (tw @a0 (tw @a1 (tw @hk (tw @iy (tw @hd (tw @hw (tw @dZ.eq_1 @ah.eq_1)))))))) ?_;(repeat(apply Pn.mk;intro N hN))))
   exact eC (b:=(k:Int)+1) (.inl rfl) (sd @Nat.zero_add) (by rw[OX,xP jg (by rw[e]at hd;exact hd) fun j h hj=>nJ j hj h])
 ·(try((repeat(revert N;apply Pn.out));refine wk (tw @a5 (tw @a0 (tw @a1 (tw @hk @ah.eq_1)))) ?_;(repeat(apply Pn.mk;intro N hN))))
  exact eC (b:=0) (.inl rfl) (sd @Nat.zero_add) (by rw[OX,Br fun j h=>nJ j ae h];rfl)
theorem KD (s:az) (nm:ByteArray):aw Tryz.prog 120 [.ef (ah s),.str nm] (.int .i64 (Sd s nm)):=by
 refine aw.body fx rfl fun hl n0=>?_
 have hlen:s.aj.length<=9223372036854775807:=by
  have h1:=(hl (.ef (ah s)) (by simp)).Fu (a:=.sl (s.aj.map dx)) (by simp[ah])
  simpa using h1.len
 clear hl
 (try((repeat(revert N;apply Pn.out));refine wk @ah.eq_1 ?_;(repeat(apply Pn.mk;intro N hN))))
 refine cm (fun n env st=>∃k:Nat,n=(s.aj.length)-k/\k<=(s.aj.length)/\env 5=.int .i64 (k:Int)/\(∀j:Nat,j<k->∀h:j<s.aj.length,decide (s.aj[j].cZ=nm)=false)) (s.aj.length) ⟨0,ae,ae,sl @ah.eq_1,fun _ h=>absurd h (Nat.not_lt_zero _)⟩ ?_
 rintro n_a env_a st_a ⟨k,rfl,ale,a5,nJ⟩ eF
 have a0:=eF 0 (by kernel_rfl);have a1:=eF 1 (by kernel_rfl)
 simp only[go_sem, ↓reduceIte,Nat.reduceEqDiff,Nat.reduceAdd,Nat.reduceSub,Nat.reduceLeDiff,reduceCtorEq,ah]at a0 a1
 clear eF
 by_cases hk:(k:Int)<(s.aj.length:Int)
 ·have eh:∀{e:Env},(e 5=.int .i64 (IntKind.i64.wrap ((k:Int)+1)))->(∀h:k<s.aj.length,decide (s.aj[k].cZ=nm)=false)->∃m0,m0<(s.aj.length)-k/\∃k:Nat,m0=(s.aj.length)-k/\k<=(s.aj.length)/\e 5=.int .i64 (k:Int)/\(∀j:Nat,j<k->∀h:j<s.aj.length,decide (s.aj[j].cZ=nm)=false):=fun x1 x2=>⟨_,ae,k+1,rfl,ae,(by rw[x1,bf ae]),(all_succ nJ x2)⟩
  have jg:k<s.aj.length:=ae
  have iy:=DI jg
  have e:=DH jg
  cases hd:decide ((qI s k).cZ=nm)
  ·(try((repeat(revert N;apply Pn.out));refine wk (tw @a5 (tw @a0 (tw @a1 (tw @hk (tw @iy (tw @hd (tw @dx.eq_1 @ah.eq_1))))))) ?_;(repeat(apply Pn.mk;intro N hN))))
   exact eh (sd (tw @a5 (tw @a0 @a1))) (fun _=>by rw[e]at hd;exact hd)
  ·(try((repeat(revert N;apply Pn.out));refine wk (tw @a5 (tw @a0 (tw @a1 (tw @hk (tw @iy (tw @hd (tw @dx.eq_1 @ah.eq_1))))))) ?_;(repeat(apply Pn.mk;intro N hN))))
   exact eC (b:=(k:Int)) (.inl rfl) (sd @Nat.zero_add) (by rw[Sd,xP jg (by rw[e]at hd;exact hd) fun j h hj=>nJ j hj h])
 ·(try((repeat(revert N;apply Pn.out));refine wk (tw @a5 (tw @a0 (tw @a1 (tw @hk @ah.eq_1)))) ?_;(repeat(apply Pn.mk;intro N hN))))
  exact eC (b:=-1) (.inl rfl) (sd @Nat.zero_add) (by rw[Sd,Br fun j h=>nJ j ae h])
theorem S7 {s:az} {i:Nat} (h:i<s.bh.length):OX s (rM s i).cZ=i↔∀j,j<i->(rM s j).cZ≠(rM s i).cZ:=by
 constructor
 ·intro he j hj hc
  have iX:j<s.bh.length:=ae
  have:s.bh.findIdx (fun g:kU=>decide (g.cZ=(rM s i).cZ))<=j:=by
   rcases Nat.lt_or_ge j (s.bh.findIdx fun g:kU=>decide (g.cZ=(rM s i).cZ))with eG|l7
   ·have:=List.not_of_lt_findIdx eG
    rw[<-CT iX]at this
    simp[hc]at this
   ·exact l7
  unfold OX lQ at he
  split at he<;>omega
 ·intro hd
  exact xP h (by rw[<-CT h];simp) fun j iX hj=>by rw[<-CT iX];simpa using hd j hj
theorem UB {s:az} {i:Nat} (h:i<s.aj.length):Sd s (qI s i).cZ=i↔∀j,j<i->(qI s j).cZ≠(qI s i).cZ:=by
 constructor
 ·intro he j hj hc
  have iX:j<s.aj.length:=ae
  have:s.aj.findIdx (fun g:jy=>decide (g.cZ=(qI s i).cZ))<=j:=by
   rcases Nat.lt_or_ge j (s.aj.findIdx fun g:jy=>decide (g.cZ=(qI s i).cZ))with eG|l7
   ·have:=List.not_of_lt_findIdx eG
    rw[<-DH iX]at this
    simp[hc]at this
   ·exact l7
  unfold Sd lQ at he
  split at he<;>omega
 ·intro hd
  exact xP h (by rw[<-DH h];simp) fun j iX hj=>by rw[<-DH iX];simpa using hd j hj
theorem Qn (s:az) (hn:im s) (hg:s.bh.length<=1048576) (ht:s.aj.length<=1048576):aw Tryz.prog 137 [.ef (ah s)] (.bool (rZ s)):=by
 refine aw.body fx rfl fun hl n0=>?_
 clear hl
 have Xg:∀i,i<s.bh.length->(rM s i).cZ.size<=9223372036854775807:=fun i hi=>hn.1 _ (by simp[rM,List.getD_eq_getElem?_getD,hi])
 have TV:∀i,i<s.aj.length->(qI s i).cZ.size<=9223372036854775807:=fun i hi=>hn.2 _ (by simp[qI,List.getD_eq_getElem?_getD,hi])
 by_cases h1:(200:Int)<(s.bh.length:Int)
 ·(try((repeat(revert N;apply Pn.out));refine wk (tw @ah.eq_1 @h1) ?_;(repeat(apply Pn.mk;intro N hN))))
  exact da (b:=false) (.inl rfl) (sd @Nat.zero_add) (gL fun h=>by have:=h.yV;omega)
 by_cases h2:(s.aj.length:Int)<1
 ·(try((repeat(revert N;apply Pn.out));refine wk (tw @ah.eq_1 (tw @h1 @h2)) ?_;(repeat(apply Pn.mk;intro N hN))))
  exact da (b:=false) (.inl rfl) (sd @Nat.zero_add) (gL fun h=>by have:=h.some;omega)
 by_cases h3:(160:Int)<(s.aj.length:Int)
 ·(try((repeat(revert N;apply Pn.out));refine wk (tw @ah.eq_1 (tw @h1 (tw @h2 @h3))) ?_;(repeat(apply Pn.mk;intro N hN))))
  exact da (b:=false) (.inl rfl) (sd @Nat.zero_add) (gL fun h=>by have:=h.uW;omega)
 (try((repeat(revert N;apply Pn.out));refine wk (tw @ah.eq_1 (tw @h1 (tw @h2 @h3))) ?_;(repeat(apply Pn.mk;intro N hN))))
 refine cm (fun n env st=>∃k:Nat,n=(s.bh.length)-k/\k<=(s.bh.length)/\env 3=.int .i64 (k:Int)/\(∀j:Nat,j<k->GI s j)) (s.bh.length) ⟨0,ae,ae,sl @ah.eq_1,fun _ h=>absurd h (Nat.not_lt_zero _)⟩ ?_
 rintro n_a env_a st_a ⟨k,rfl,ale,a3,nJ⟩ eF
 have a0:=eF 0 (by kernel_rfl)
 simp only[go_sem, ↓reduceIte,Nat.reduceEqDiff,Nat.reduceAdd,Nat.reduceSub,Nat.reduceLeDiff,reduceCtorEq,ah]at a0
 clear eF
 by_cases hk:(k:Int)<(s.bh.length:Int)
 ·have eh:∀{e:Env},(e 3=.int .i64 (IntKind.i64.wrap ((k:Int)+1)))->(GI s k)->∃m0,m0<(s.bh.length)-k/\∃k:Nat,m0=(s.bh.length)-k/\k<=(s.bh.length)/\e 3=.int .i64 (k:Int)/\(∀j:Nat,j<k->GI s j):=fun x1 x2=>⟨_,ae,k+1,rfl,ae,(by rw[x1,bf ae]),(all_succ nJ x2)⟩
  have jg:k<s.bh.length:=ae
  have iy:=CU jg
  have tf:=Jo (rM s k).cZ (Xg k jg)
  have Pc:=lz (rM s k).iQ 1 4
  have AN:=KC s (rM s k).cZ
  have y5:=S7 jg
  have lT:(¬GI s k)->¬gy s:=fun h hp=>h (hp.YB k jg)
  have hw:IntKind.i64.wrap ((k:Int)+1)=(k:Int)+1:=db ae
  generalize qW:rM s k=gl at *
  cases hb:kS gl.cZ
  ·rw[hb]at tf
   (have zF:=tw @a3 (tw @a0 (tw @hk (tw @iy (tw @dZ.eq_1 @ah.eq_1))));(repeat(first|((repeat(revert N;apply Pn.out));refine wk zF ?_;(repeat(apply Pn.mk;intro N hN)))|((try apply Or.inl);refine⟨_,aw.x (tf) (sd zF),?_⟩;apply hN;clear hN N)));try clear zF)
   exact da (b:=false) (.inl rfl) (sd @Nat.zero_add) (gL (lT fun h=>by rw[GI,qW,hb]at h;cases h.1))
  rw[hb]at tf
  cases ed:ik gl.iQ 1 4
  ·rw[ed]at Pc
   (have zF:=tw @a3 (tw @a0 (tw @hk (tw @iy (tw @dZ.eq_1 @ah.eq_1))));(repeat(first|((repeat(revert N;apply Pn.out));refine wk zF ?_;(repeat(apply Pn.mk;intro N hN)))|((try apply Or.inl);refine⟨_,aw.x (tf) (sd zF),?_⟩;apply hN;clear hN N)|((try apply Or.inl);refine⟨_,aw.x (Pc) (sd zF),?_⟩;apply hN;clear hN N)));try clear zF)
   exact da (b:=false) (.inl rfl) (sd @Nat.zero_add) (gL (lT fun h=>by rw[GI,qW,ed]at h;cases h.2.1))
  rw[ed]at Pc
  rw[ah]at AN
  by_cases hq:OX s gl.cZ=(k:Int)
  ·have hd:decide (OX s gl.cZ+1=(k:Int)+1)=true:=decide_eq_true ae
   have tc:decide (OX s gl.cZ=(k:Int))=true:=decide_eq_true hq
   (have zF:=tw @a3 (tw @a0 (tw @hk (tw @iy (tw @hw (tw @hd (tw @tc (tw @dZ.eq_1 @ah.eq_1)))))));(repeat(first|((repeat(revert N;apply Pn.out));refine wk zF ?_;(repeat(apply Pn.mk;intro N hN)))|((try apply Or.inl);refine⟨_,aw.x (tf) (sd zF),?_⟩;apply hN;clear hN N)|((try apply Or.inl);refine⟨_,aw.x (Pc) (sd zF),?_⟩;apply hN;clear hN N)|((try apply Or.inl);refine⟨_,aw.x (AN) (sd zF),?_⟩;apply hN;clear hN N)));try clear zF)
   exact eh (sd (tw @a3 (tw @a0 @hw))) (⟨by rw[qW];exact hb,by rw[qW];exact ed,fun j hj=>by rw[qW];exact y5.1 hq j hj⟩)
  ·have hd:decide (OX s gl.cZ+1=(k:Int)+1)=false:=decide_eq_false ae
   have tc:decide (OX s gl.cZ=(k:Int))=false:=decide_eq_false hq
   (have zF:=tw @a3 (tw @a0 (tw @hk (tw @iy (tw @hw (tw @hd (tw @tc (tw @dZ.eq_1 @ah.eq_1)))))));(repeat(first|((repeat(revert N;apply Pn.out));refine wk zF ?_;(repeat(apply Pn.mk;intro N hN)))|((try apply Or.inl);refine⟨_,aw.x (tf) (sd zF),?_⟩;apply hN;clear hN N)|((try apply Or.inl);refine⟨_,aw.x (Pc) (sd zF),?_⟩;apply hN;clear hN N)|((try apply Or.inl);refine⟨_,aw.x (AN) (sd zF),?_⟩;apply hN;clear hN N)));try clear zF)
   exact da (b:=false) (.inl rfl) (sd @Nat.zero_add) (gL (lT fun h=>by
    rw[GI,qW]at h
    exact hq (y5.2 h.2.2)))
 ·have oy:k=s.bh.length:=ae
  (try((repeat(revert N;apply Pn.out));refine wk (tw @a3 (tw @a0 (tw @hk @ah.eq_1))) ?_;(repeat(apply Pn.mk;intro N hN))))
  refine cm (fun n env st=>∃j:Nat,n=(s.aj.length)-j/\j<=(s.aj.length)/\env 5=.int .i64 (j:Int)/\(∀i:Nat,i<j->Eg s i)) (s.aj.length) ⟨0,ae,ae,sl (tw @a3 (tw @a0 @ah.eq_1)),fun _ h=>absurd h (Nat.not_lt_zero _)⟩ ?_
  rintro n_b env_b st_b ⟨j,rfl,ble,b5,bA0⟩ eS
  have b0:=eS 0 (by kernel_rfl)
  simp only[go_sem, ↓reduceIte,Nat.reduceEqDiff,Nat.reduceAdd,Nat.reduceSub,Nat.reduceLeDiff,reduceCtorEq,a3,a0,ah]at b0
  clear eS
  by_cases hj:(j:Int)<(s.aj.length:Int)
  ·have fb:∀{e:Env},(e 5=.int .i64 (IntKind.i64.wrap ((j:Int)+1)))->(Eg s j)->∃m0,m0<(s.aj.length)-j/\∃j:Nat,m0=(s.aj.length)-j/\j<=(s.aj.length)/\e 5=.int .i64 (j:Int)/\(∀i:Nat,i<j->Eg s i):=fun x1 x2=>⟨_,ae,j+1,rfl,ae,(by rw[x1,bf ae]),(all_succ bA0 x2)⟩
   have pQ:j<s.aj.length:=ae
   have oN:=DI pQ
   have tf:=Jo (qI s j).cZ (TV j pQ)
   have AN:=KD s (qI s j).cZ
   have y5:=UB pQ
   have lT:(¬Eg s j)->¬gy s:=fun h hp=>h (hp.tok j pQ)
   generalize htd:qI s j=tl at *
   cases hb:kS tl.cZ
   ·rw[hb]at tf
    (have zF:=tw @b5 (tw @b0 (tw @hj (tw @oN (tw @dx.eq_1 @ah.eq_1))));(repeat(first|((repeat(revert N;apply Pn.out));refine wk zF ?_;(repeat(apply Pn.mk;intro N hN)))|((try apply Or.inl);refine⟨_,aw.x (tf) (sd zF),?_⟩;apply hN;clear hN N)));try clear zF)
    exact da (b:=false) (.inl rfl) (sd @Nat.zero_add) (gL (lT fun h=>by rw[Eg,htd,hb]at h;cases h.1))
   rw[hb]at tf
   by_cases h4:(tl.dW.length:Int)=4
   ·have CZ:decide ((tl.dW.length:Int)=4)=true:=decide_eq_true h4
    rw[ah]at AN
    by_cases hq:Sd s tl.cZ=(j:Int)
    ·have hd:decide (Sd s tl.cZ=(j:Int))=true:=decide_eq_true hq
     (have zF:=tw @b5 (tw @b0 (tw @hj (tw @oN (tw @CZ (tw @hd (tw @dx.eq_1 @ah.eq_1))))));(repeat(first|((repeat(revert N;apply Pn.out));refine wk zF ?_;(repeat(apply Pn.mk;intro N hN)))|((try apply Or.inl);refine⟨_,aw.x (tf) (sd zF),?_⟩;apply hN;clear hN N)|((try apply Or.inl);refine⟨_,aw.x (AN) (sd zF),?_⟩;apply hN;clear hN N)));try clear zF)
     refine cm (fun n env st=>∃i:Nat,n=(4)-i/\i<=(4)/\env 7=.int .i64 (i:Int)/\st.get ⟨137012007,st_b.next+1⟩=some ⟨true,2,[dx tl]⟩/\(∀x:Nat,x<i->ik (tl.dW.getD x 0) 0 s.bh.length=true)) (4) ⟨0,ae,ae,sl (tw @b5 (tw @b0 (tw @dx.eq_1 @ah.eq_1))),sl (tw @b5 (tw @b0 (tw @dx.eq_1 @ah.eq_1))),fun _ h=>absurd h (Nat.not_lt_zero _)⟩ ?_
     rintro n_c env_c st_c ⟨i,rfl,cle,c7,cg0,cA0⟩ kE
     have c0:=kE 0 (by kernel_rfl);have c5:=kE 5 (by kernel_rfl);have c6:=kE 6 (by kernel_rfl)
     simp only[go_sem, ↓reduceIte,Nat.reduceEqDiff,Nat.reduceAdd,Nat.reduceSub,Nat.reduceLeDiff,reduceCtorEq,b5,b0,dx,ah]at c0 c5 c6
     clear kE
     by_cases hi:(i:Int)<4
     ·have jv:∀{e:Env} {gg:Rows},(e 7=.int .i64 (IntKind.i64.wrap ((i:Int)+1)))->(gg ⟨137012007,st_b.next+1⟩=some ⟨true,2,[dx tl]⟩)->(ik (tl.dW.getD i 0) 0 s.bh.length=true)->∃m0,m0<(4)-i/\∃i:Nat,m0=(4)-i/\i<=(4)/\e 7=.int .i64 (i:Int)/\gg ⟨137012007,st_b.next+1⟩=some ⟨true,2,[dx tl]⟩/\(∀x:Nat,x<i->ik (tl.dW.getD x 0) 0 s.bh.length=true):=fun x1 x2 x3=>⟨_,ae,i+1,rfl,ae,(by rw[x1,bf ae]),x2,(all_succ cA0 x3)⟩
      have gV:i<tl.dW.length:=ae
      have jt:(tl.dW.map aM)[i]? =some (aM (tl.dW.getD i 0)):=getD_map aM gV
      have rR:tl.dW.getD i 0∈tl.dW:=by rw[List.getD_eq_getElem?_getD,List.getElem?_eq_getElem gV];exact List.getElem_mem gV
      have M0:=lz (tl.dW.getD i 0) 0 s.bh.length
      generalize Tw:tl.dW.getD i 0=gv at *
      cases hv:ik gv 0 s.bh.length
      ·rw[hv]at M0
       (have zF:=tw @c7 (tw @cg0 (tw @c0 (tw @c5 (tw @c6 (tw @hi (tw @jt (tw @aM.eq_1 (tw @dx.eq_1 @ah.eq_1))))))));(repeat(first|((repeat(revert N;apply Pn.out));refine wk zF ?_;(repeat(apply Pn.mk;intro N hN)))|((try apply Or.inl);refine⟨_,aw.x (M0) (sd zF),?_⟩;apply hN;clear hN N)));try clear zF)
       exact da (b:=false) (.inl rfl) (sd @Nat.zero_add) (gL (lT fun h=>by
        rw[Eg,htd]at h
        have:=h.2.2.2 gv rR
        rw[hv]at this;cases this))
      ·rw[hv]at M0
       (have zF:=tw @c7 (tw @cg0 (tw @c0 (tw @c5 (tw @c6 (tw @hi (tw @jt (tw @aM.eq_1 (tw @dx.eq_1 @ah.eq_1))))))));(repeat(first|((repeat(revert N;apply Pn.out));refine wk zF ?_;(repeat(apply Pn.mk;intro N hN)))|((try apply Or.inl);refine⟨_,aw.x (M0) (sd zF),?_⟩;apply hN;clear hN N)));try clear zF)
       refine jv ?_ ?_ (hv)
       all_goals simp only[go_sem, ↓reduceIte,Nat.reduceEqDiff,Nat.reduceAdd,Nat.reduceSub,Nat.reduceLeDiff,reduceCtorEq,c7,cg0,c0,c5,c6]
     ·have YW:i=4:=ae
      (try((repeat(revert N;apply Pn.out));refine wk (tw @c7 (tw @cg0 (tw @c0 (tw @c5 (tw @c6 (tw @hi (tw @dx.eq_1 @ah.eq_1))))))) ?_;(repeat(apply Pn.mk;intro N hN))))
      exact fb (sd (tw @b5 (tw @b0 (tw @c7 (tw @cg0 (tw @c0 (tw @c5 @c6))))))) (⟨by rw[htd];exact hb,by rw[htd];omega,fun x hx=>(by rw[htd];exact y5.1 hq x hx),fun g hg=>by
       rw[htd]at hg
       obtain⟨x,hx,rfl⟩:=List.getElem_of_mem hg
       have:=cA0 x ae
       rwa [List.getD_eq_getElem?_getD,List.getElem?_eq_getElem hx]at this⟩)
    ·have hd:decide (Sd s tl.cZ=(j:Int))=false:=decide_eq_false hq
     (have zF:=tw @b5 (tw @b0 (tw @hj (tw @oN (tw @CZ (tw @hd (tw @dx.eq_1 @ah.eq_1))))));(repeat(first|((repeat(revert N;apply Pn.out));refine wk zF ?_;(repeat(apply Pn.mk;intro N hN)))|((try apply Or.inl);refine⟨_,aw.x (tf) (sd zF),?_⟩;apply hN;clear hN N)|((try apply Or.inl);refine⟨_,aw.x (AN) (sd zF),?_⟩;apply hN;clear hN N)));try clear zF)
     exact da (b:=false) (.inl rfl) (sd @Nat.zero_add) (gL (lT fun h=>by
      rw[Eg,htd]at h
      exact hq (y5.2 h.2.2.1)))
   ·have CZ:decide ((tl.dW.length:Int)=4)=false:=decide_eq_false h4
    (have zF:=tw @b5 (tw @b0 (tw @hj (tw @oN (tw @CZ (tw @dx.eq_1 @ah.eq_1)))));(repeat(first|((repeat(revert N;apply Pn.out));refine wk zF ?_;(repeat(apply Pn.mk;intro N hN)))|((try apply Or.inl);refine⟨_,aw.x (tf) (sd zF),?_⟩;apply hN;clear hN N)));try clear zF)
    exact da (b:=false) (.inl rfl) (sd @Nat.zero_add) (gL (lT fun h=>by rw[Eg,htd]at h;have:=h.2.1;omega))
  ·(try((repeat(revert N;apply Pn.out));refine wk (tw @b5 (tw @b0 (tw @hj @ah.eq_1))) ?_;(repeat(apply Pn.mk;intro N hN))))
   exact da (b:=true) (.inl rfl) (sd @Nat.zero_add) (Ga ⟨ae,ae,ae,fun i hi=>nJ i ae,fun i hi=>bA0 i ae⟩)
def ju (a b:ai):Bool:=decide (a.eQ<b.eQ)||(decide (a.eQ=b.eQ)&&decide (a.eV<b.eV))
theorem xV {a b:ai}:ju a b=true↔a.eQ<b.eQ∨(a.eQ=b.eQ/\a.eV<b.eV):=by simp[ju]
theorem nY {a b:ai}:ju a b=false↔¬(a.eQ<b.eQ∨(a.eQ=b.eQ/\a.eV<b.eV)):=by rw[<-xV,Bool.not_eq_true]
theorem zM {a b:ai} (h1:a.eV=b.eV) (h2:a.eQ=b.eQ):a=b:=by cases a;cases b;simp_all
theorem iF {a b c:ai} (h:ju a b=true) (k:ju b c=true):ju a c=true:=by rw[xV]at *;omega
theorem iD {a:ai}:ju a a=false:=by rw[nY];omega
theorem FI {a b:ai} (h:ju a b=true):ju b a=false:=by rw[xV]at h;rw[nY];omega
theorem xW {a b:ai} (h:ju a b=false) (iI:a≠b):ju b a=true:=by
 rw[nY]at h;rw[xV]
 by_cases hy:a.eQ=b.eQ
 ·by_cases hx:a.eV=b.eV
  ·exact absurd (zM hx hy) iI
  ·omega
 ·omega
def tY (a b:Int):Int:=if a<b then -1 else if b<a then 1 else 0
def QE (a b:Int):Int:=if a=0 then b else a
def qh (a b:ai):Int:=QE (tY a.eQ b.eQ) (tY a.eV b.eV)
theorem mX (a b:ai):decide (qh a b<0)=ju a b:=by
 unfold qh QE tY ju
 by_cases h1:a.eQ<b.eQ
 ·simp[h1]
 ·by_cases h2:b.eQ<a.eQ
  ·have:¬a.eQ=b.eQ:=ae
   simp[h1,h2,this]
  ·have:a.eQ=b.eQ:=ae
   by_cases h3:a.eV<b.eV
   ·simp[h1,h2,this,h3]
   ·by_cases h4:b.eV<a.eV<;>simp[h1,h2,this,h3,h4]
theorem JP (a b:ai):(qh a b=0)↔a=b:=by
 cases a;cases b
 unfold qh QE tY
 simp only[ai.mk.injEq]
 split<;>(try split)<;>(try split)<;>(try split)<;>omega
def NI:aa:=⟨⟨0,0⟩,0⟩
def aA (l:List aa) (i:Nat):aa:=l.getD i NI
theorem ez {l:List aa} {i:Nat} (h:i<l.length):aA l i=l[i]:=by simp[aA,List.getD_eq_getElem?_getD,h]
theorem fH {l:List aa} {i:Nat} (h:i<l.length):aA l i∈l:=by rw[ez h];exact List.getElem_mem h
def jk (l:List aa):Prop:=∀i j:Nat,i<j->j<l.length->ju (aA l i).aI (aA l j).aI=true
def rW (l:List aa) (p:ai):Nat:=l.findIdx fun c=>decide (c.aI=p)
def dm (l:List aa) (p:ai):Int:=if rW l p<l.length then(rW l p:Int)else -1
def nW (l:List aa) (p:ai):Nat:=l.findIdx fun c=> !ju c.aI p
theorem De {l:List aa} {p:ai} {i:Nat} (hi:i<=l.length) (h1:∀x,x<i->ju (aA l x).aI p=true) (h2:i<l.length->ju (aA l i).aI p=false):nW l p=i:=by
 unfold nW
 by_cases h:i<l.length
 ·rw[List.findIdx_eq h]
  refine⟨by have:=h2 h;rw[ez h]at this;simp[this],fun j hj=>?_⟩
  have:=h1 j hj
  rw[ez ae]at this
  simp[this]
 ·have:i=l.length:=ae
  subst this
  refine List.findIdx_eq_length_of_false fun x hx=>?_
  obtain⟨j,hj,rfl⟩:=List.getElem_of_mem hx
  have:=h1 j hj
  rw[ez hj]at this
  simp[this]
theorem Dh {l:List aa} {p:ai} (hR:jk l):dm l p=if nW l p<l.length/\(aA l (nW l p)).aI=p then(nW l p:Int)else -1:=by
 by_cases h:∃i,i<l.length/\(aA l i).aI=p
 ·obtain⟨i,hi,hp⟩:=h
  have h1:nW l p=i:=De ae (fun x hx=>by rw[<-hp];exact hR x i hx hi) fun _=>by rw[hp];exact iD
  have h2:rW l p=i:=by
   rw[rW,List.findIdx_eq hi]
   refine⟨by rw[ez hi]at hp;simpa using hp,fun j hj=>?_⟩
   have:=hR j i hj hi
   rw[hp,ez ae]at this
   simp only[decide_eq_false_iff_not]
   intro hc
   rw[hc,iD]at this
   cases this
  rw[dm,h1,h2,if_pos hi,if_pos ⟨hi,hp⟩]
 ·have h2:¬rW l p<l.length:=by
   rw[rW,List.findIdx_lt_length]
   rintro⟨c,hc,he⟩
   obtain⟨j,hj,rfl⟩:=List.getElem_of_mem hc
   exact h ⟨j,hj,by rw[ez hj];simpa using he⟩
  rw[dm,if_neg h2,if_neg]
  rintro⟨h3,h4⟩
  exact h ⟨_,h3,h4⟩
theorem iC {l:List aa} {p:ai} (h:0<=dm l p):(dm l p).toNat<l.length/\(aA l (dm l p).toNat).aI=p:=by
 unfold dm at h ⊢
 split at h
 ·rename_i hc
  rw[if_pos hc]
  refine⟨ae,?_⟩
  have:=of_decide_eq_true (List.findIdx_getElem (p:=fun c:aa=>decide (c.aI=p)) (xs:=l) (w:=hc))
  rw[Int.toNat_natCast,ez hc]
  exact this
 ·omega
theorem zg (l:List aa) (p:ai): -1<=dm l p/\dm l p<l.length:=by
 unfold dm;split<;>omega
def eM (l:List aa) (p:ai):Int:=if 0<=dm l p then(aA l (dm l p).toNat).aY else -1
theorem mW (a b:ai):aw Tryz.prog 154 [.agg (ad a),.agg (ad b)] (.bool (ju a b)):=by
 refine aw.body fx rfl fun hl n0=>?_
 clear hl
 by_cases h0:a.eQ<b.eQ
 ·(try((repeat(revert N;apply Pn.out));refine wk (tw @ad.eq_1 @h0) ?_;(repeat(apply Pn.mk;intro N hN))))
  exact da (b:=true) (.inl rfl) (sd @Nat.zero_add) (by simp[ju,h0])
 ·by_cases h1:a.eQ=b.eQ
  ·have h2:¬b.eQ<b.eQ:=ae
   (try((repeat(revert N;apply Pn.out));refine wk (tw @ad.eq_1 (tw @h1 @h2)) ?_;(repeat(apply Pn.mk;intro N hN))))
   exact da (b:=decide (a.eV<b.eV)) (.inl rfl) (sd @Nat.zero_add) (by simp[ju,h1])
  ·(try((repeat(revert N;apply Pn.out));refine wk (tw @ad.eq_1 (tw @h0 @h1)) ?_;(repeat(apply Pn.mk;intro N hN))))
   exact da (b:=false) (.inl rfl) (sd @Nat.zero_add) (by simp[ju,h0,h1])
theorem fM {l:List aa} {i:Nat} (h:i<l.length):(l.map ab)[i]? =some (ab (aA l i)):=getD_map ab h
def Gr (l:List aa) (i:Nat):Prop:=xG (aA l i).aI=true/\ik (aA l i).aY 0 159=true/\(0<i->ju (aA l (i-1)).aI (aA l i).aI=true)
structure kc (l:List aa):Prop where
 pL:l.length<=500
 ok:∀i,i<l.length->Gr l i
noncomputable def qm (l:List aa):Bool:=@decide (kc l) (Classical.propDecidable _)
theorem vU {l:List aa}:qm l=true↔kc l:=by simp[qm]
theorem lF {l:List aa} (h:¬kc l):false=qm l:=by simp[qm,h]
theorem Bt {l:List aa} (h:kc l):true=qm l:=by simp[qm,h]
theorem kc.xY {l:List aa} (h:kc l):jk l:=by
 intro i j BC hj
 induction j with
 |zero=>omega
 |succ j ih=>
  have h1:=(h.ok (j+1) hj).2.2 ae
  rw[Nat.add_sub_cancel]at h1
  by_cases he:i=j
  ·subst he;exact h1
  ·exact iF (ih ae ae) h1
theorem kc.pt {l:List aa} (h:kc l) {i:Nat} (hi:i<l.length):xG (aA l i).aI=true:=(h.ok i hi).1
theorem oR {p:ai} (h:xG p=true):iB p.eV/\iB p.eQ:=by
 unfold xG at h
 simp only[Bool.and_eq_true]at h
 have:=dY h.1;have:=dY h.2
 unfold iB;omega
theorem KE (l:List aa):aw Tryz.prog 86 [.ef [.sl (l.map ab)]] (.bool (qm l)):=by
 refine aw.body fx rfl fun hl n0=>?_
 clear hl
 by_cases h1:(500:Int)<(l.length:Int)
 ·(try((repeat(revert N;apply Pn.out));refine wk @h1 ?_;(repeat(apply Pn.mk;intro N hN))))
  exact da (b:=false) (.inl rfl) (sd @Nat.zero_add) (lF fun h=>by have:=h.pL;omega)
 (try((repeat(revert N;apply Pn.out));refine wk @h1 ?_;(repeat(apply Pn.mk;intro N hN))))
 refine cm (fun n env st=>∃k:Nat,n=(l.length)-k/\k<=(l.length)/\env 3=.int .i64 (k:Int)/\(∀j:Nat,j<k->Gr l j)) (l.length) ⟨0,ae,ae,sl @Nat.zero_add,fun _ h=>absurd h (Nat.not_lt_zero _)⟩ ?_
 rintro n_a env_a st_a ⟨k,rfl,ale,a3,nJ⟩ eF
 have a0:=eF 0 (by kernel_rfl)
 simp only[go_sem, ↓reduceIte,Nat.reduceEqDiff,Nat.reduceAdd,Nat.reduceSub,Nat.reduceLeDiff,reduceCtorEq]at a0
 clear eF
 by_cases hk:(k:Int)<(l.length:Int)
 ·have eh:∀{e:Env},(e 3=.int .i64 (IntKind.i64.wrap ((k:Int)+1)))->(Gr l k)->∃m0,m0<(l.length)-k/\∃k:Nat,m0=(l.length)-k/\k<=(l.length)/\e 3=.int .i64 (k:Int)/\(∀j:Nat,j<k->Gr l j):=fun x1 x2=>⟨_,ae,k+1,rfl,ae,(by rw[x1,bf ae]),(all_succ nJ x2)⟩
  have jg:k<l.length:=ae
  have iy:=fM jg
  have lT:(¬Gr l k)->¬kc l:=fun h hp=>h (hp.ok k jg)
  have hp:=zh (aA l k).aI
  have ht:=lz (aA l k).aY 0 159
  cases b1:xG (aA l k).aI
  ·rw[b1]at hp
   (have zF:=tw @a3 (tw @a0 (tw @hk (tw @iy (tw @ab.eq_1 @ad.eq_1))));(repeat(first|((repeat(revert N;apply Pn.out));refine wk zF ?_;(repeat(apply Pn.mk;intro N hN)))|((try apply Or.inl);refine⟨_,aw.x (hp) (sd zF),?_⟩;apply hN;clear hN N)));try clear zF)
   exact da (b:=false) (.inl rfl) (sd @Nat.zero_add) (lF (lT fun h=>by rw[Gr,b1]at h;cases h.1))
  rw[b1]at hp
  cases b2:ik (aA l k).aY 0 159
  ·rw[b2]at ht
   (have zF:=tw @a3 (tw @a0 (tw @hk (tw @iy (tw @ab.eq_1 @ad.eq_1))));(repeat(first|((repeat(revert N;apply Pn.out));refine wk zF ?_;(repeat(apply Pn.mk;intro N hN)))|((try apply Or.inl);refine⟨_,aw.x (hp) (sd zF),?_⟩;apply hN;clear hN N)|((try apply Or.inl);refine⟨_,aw.x (ht) (sd zF),?_⟩;apply hN;clear hN N)));try clear zF)
   exact da (b:=false) (.inl rfl) (sd @Nat.zero_add) (lF (lT fun h=>by rw[Gr,b2]at h;cases h.2.1))
  rw[b2]at ht
  by_cases h0:(0:Int)<(k:Int)
  ·have xb:=fM (l:=l) (i:=k-1) ae
   have hw:IntKind.i64.wrap ((k:Int)-1)=((k-1:Nat):Int):=by rw[db (by have:=jg;omega)];omega
   have hq:=mW (aA l (k-1)).aI (aA l k).aI
   cases b3:ju (aA l (k-1)).aI (aA l k).aI
   ·rw[b3]at hq
    (have zF:=tw @a3 (tw @a0 (tw @hk (tw @iy (tw @xb (tw @h0 (tw @hw (tw @ab.eq_1 @ad.eq_1)))))));(repeat(first|((repeat(revert N;apply Pn.out));refine wk zF ?_;(repeat(apply Pn.mk;intro N hN)))|((try apply Or.inl);refine⟨_,aw.x (hp) (sd zF),?_⟩;apply hN;clear hN N)|((try apply Or.inl);refine⟨_,aw.x (ht) (sd zF),?_⟩;apply hN;clear hN N)|((try apply Or.inl);refine⟨_,aw.x (hq) (sd zF),?_⟩;apply hN;clear hN N)));try clear zF)
    exact da (b:=false) (.inl rfl) (sd @Nat.zero_add) (lF (lT fun h=>by have:=h.2.2 ae;rw[b3]at this;cases this))
   ·rw[b3]at hq
    (have zF:=tw @a3 (tw @a0 (tw @hk (tw @iy (tw @xb (tw @h0 (tw @hw (tw @ab.eq_1 @ad.eq_1)))))));(repeat(first|((repeat(revert N;apply Pn.out));refine wk zF ?_;(repeat(apply Pn.mk;intro N hN)))|((try apply Or.inl);refine⟨_,aw.x (hp) (sd zF),?_⟩;apply hN;clear hN N)|((try apply Or.inl);refine⟨_,aw.x (ht) (sd zF),?_⟩;apply hN;clear hN N)|((try apply Or.inl);refine⟨_,aw.x (hq) (sd zF),?_⟩;apply hN;clear hN N)));try clear zF)
    exact eh (sd (tw @a3 @a0)) (⟨b1,b2,fun _=>b3⟩)
  ·have xS:k=0:=ae
   (have zF:=tw @a3 (tw @a0 (tw @hk (tw @iy (tw @h0 (tw @ab.eq_1 @ad.eq_1)))));(repeat(first|((repeat(revert N;apply Pn.out));refine wk zF ?_;(repeat(apply Pn.mk;intro N hN)))|((try apply Or.inl);refine⟨_,aw.x (hp) (sd zF),?_⟩;apply hN;clear hN N)|((try apply Or.inl);refine⟨_,aw.x (ht) (sd zF),?_⟩;apply hN;clear hN N)));try clear zF)
   exact eh (sd (tw @a3 @a0)) (⟨b1,b2,fun h=>ae⟩)
 ·(try((repeat(revert N;apply Pn.out));refine wk (tw @a3 (tw @a0 @hk)) ?_;(repeat(apply Pn.mk;intro N hN))))
  exact da (b:=true) (.inl rfl) (sd @Nat.zero_add) (Bt ⟨ae,fun i hi=>nJ i ae⟩)
theorem Bo (a b:Int):aw Tryz.prog 233 [.int .i64 a,.int .i64 b] (.int .i64 (tY a b)):=by
 have nan:∀x:Int,aw Tryz.prog 266 [.int .i64 x] (.bool false):=fun x=>by
  refine aw.body fx rfl fun hl n0=>?_
  clear hl
  have e:decide (x=x)=true:=decide_eq_true rfl
  (try((repeat(revert N;apply Pn.out));refine wk @e ?_;(repeat(apply Pn.mk;intro N hN))))
  exact da (b:=false) (.inl rfl) (sd @Nat.zero_add) rfl
 refine aw.body fx rfl fun hl n0=>?_
 clear hl
 have ha:=nan a
 have hb:=nan b
 by_cases h1:a<b
 ·(repeat(first|((repeat(revert N;apply Pn.out));refine wk @h1 ?_;(repeat(apply Pn.mk;intro N hN)))|((try apply Or.inl);refine⟨_,aw.x (ha) (sd @h1),?_⟩;apply hN;clear hN N)|((try apply Or.inl);refine⟨_,aw.x (hb) (sd @h1),?_⟩;apply hN;clear hN N)))
  exact eC (b:=-1) (.inl rfl) (sd @Nat.zero_add) (by rw[tY,if_pos h1])
 by_cases h2:b<a
 ·(repeat(first|((repeat(revert N;apply Pn.out));refine wk (tw @h1 @h2) ?_;(repeat(apply Pn.mk;intro N hN)))|((try apply Or.inl);refine⟨_,aw.x (ha) (sd (tw @h1 @h2)),?_⟩;apply hN;clear hN N)|((try apply Or.inl);refine⟨_,aw.x (hb) (sd (tw @h1 @h2)),?_⟩;apply hN;clear hN N)))
  exact eC (b:=1) (.inl rfl) (sd @Nat.zero_add) (by rw[tY,if_neg h1,if_pos h2])
 ·(repeat(first|((repeat(revert N;apply Pn.out));refine wk (tw @h1 @h2) ?_;(repeat(apply Pn.mk;intro N hN)))|((try apply Or.inl);refine⟨_,aw.x (ha) (sd (tw @h1 @h2)),?_⟩;apply hN;clear hN N)|((try apply Or.inl);refine⟨_,aw.x (hb) (sd (tw @h1 @h2)),?_⟩;apply hN;clear hN N)))
  exact eC (b:=0) (.inl rfl) (sd @Nat.zero_add) (by rw[tY,if_neg h1,if_neg h2])
def LN:List Int->Int
 |[]=>0
 |a::r=>if a=0 then LN r else a
theorem NN:∀{l:List Int} {k:Nat} (hk:k<l.length),l[k]≠0->(∀j (h:j<l.length),j<k->l[j]=0)->LN l=l[k]
 |a::r,0,_,h,_=>by
  have h':a≠0:=h
  rw[LN,if_neg h'];rfl
 |a::r,k+1,hk,h,h0=>by
  have h':a=0:=h0 0 (by simp) ae
  rw[LN,if_pos h',NN (k:=k) (by simpa using hk) h fun j hj Av=>h0 (j+1) (by simpa using hj) ae];rfl
theorem FX:∀{l:List Int},(∀j (h:j<l.length),l[j]=0)->LN l=0
 |[],_=>rfl
 |a::r,h=>by
  have h':a=0:=h 0 (by simp)
  rw[LN,if_pos h',FX fun j hj=>h (j+1) (by simpa using hj)]
theorem QF (a b:Int):LN [a,b]=QE a b:=by
 unfold QE
 by_cases h:a=0
 ·rw[LN,if_pos h,if_pos h,LN,LN];split<;>simp_all
 ·rw[LN,if_neg h,if_neg h]
theorem PA (l:List Int):aw Tryz.prog 232 [.sl (l.map aM)] (.int .i64 (LN l)):=by
 refine aw.body fx rfl fun hl n0=>?_
 have hlen:l.length<=9223372036854775807:=by simpa using(hl (.sl (l.map aM)) (by simp)).len
 clear hl
 (try((repeat(revert N;apply Pn.out));refine wk @Nat.zero_add ?_;(repeat(apply Pn.mk;intro N hN))))
 refine cm (fun n env st=>∃k:Nat,n=(l.length)-k/\k<=(l.length)/\env 8=.int .i64 (k:Int)/\(∀j:Nat,j<k->∀h:j<l.length,l[j]=0)) (l.length) ⟨0,ae,ae,sl @Nat.zero_add,fun _ h=>absurd h (Nat.not_lt_zero _)⟩ ?_
 rintro n_a env_a st_a ⟨k,rfl,ale,a8,nJ⟩ eF
 have a3:=eF 3 (by kernel_rfl);have a6:=eF 6 (by kernel_rfl);have a7:=eF 7 (by kernel_rfl)
 simp only[go_sem, ↓reduceIte,Nat.reduceEqDiff,Nat.reduceAdd,Nat.reduceSub,Nat.reduceLeDiff,reduceCtorEq]at a3 a6 a7
 clear eF
 by_cases hk:(k:Int)<(l.length:Int)
 ·have eh:∀{e:Env},(e 8=.int .i64 (IntKind.i64.wrap ((k:Int)+1)))->(∀h:k<l.length,l[k]=0)->∃m0,m0<(l.length)-k/\∃k:Nat,m0=(l.length)-k/\k<=(l.length)/\e 8=.int .i64 (k:Int)/\(∀j:Nat,j<k->∀h:j<l.length,l[j]=0):=fun x1 x2=>⟨_,ae,k+1,rfl,ae,(by rw[x1,bf ae]),(all_succ nJ x2)⟩
  have jg:k<l.length:=ae
  have iy:(l.map aM)[k]? =some (aM l[k]):=by simp[jg]
  generalize hv:l[k]=v at iy
  by_cases h0:v=0
  ·have e:decide (v=0)=true:=decide_eq_true h0
   (try((repeat(revert N;apply Pn.out));refine wk (tw @a8 (tw @a3 (tw @a6 (tw @a7 (tw @e (tw @hk (tw @iy @aM.eq_1))))))) ?_;(repeat(apply Pn.mk;intro N hN))))
   exact eh (sd (tw @a8 (tw @a3 (tw @a6 @a7)))) (fun _=>hv.trans h0)
  ·have e:decide (v=0)=false:=decide_eq_false h0
   (try((repeat(revert N;apply Pn.out));refine wk (tw @a8 (tw @a3 (tw @a6 (tw @a7 (tw @e (tw @hk (tw @iy @aM.eq_1))))))) ?_;(repeat(apply Pn.mk;intro N hN))))
   exact eC (b:=v) (.inl rfl) (sd @Nat.zero_add) (by rw[NN jg (by rw[hv];exact h0) fun j h hj=>nJ j hj h,hv])
 ·(try((repeat(revert N;apply Pn.out));refine wk (tw @a8 (tw @a3 (tw @a6 (tw @a7 @hk)))) ?_;(repeat(apply Pn.mk;intro N hN))))
  exact eC (b:=0) (.inl rfl) (sd @Nat.zero_add) (by rw[FX fun j h=>nJ j ae h])
section
attribute [local go_sem] List.drop_zero List.take_succ_cons List.take_zero List.length_cons List.length_nil qV CQ EP
theorem pk (a b:ai):aw Tryz.prog 189 [.agg (ad a),.agg (ad b)] (.int .i64 (qh a b)):=by
 refine aw.body fx rfl fun hl n0=>?_
 clear hl
 have h1:=Bo a.eQ b.eQ
 have h2:=Bo a.eV b.eV
 have h3:=PA [tY a.eQ b.eQ,tY a.eV b.eV]
 rw[QF,List.map_cons,List.map_cons,List.map_nil,aM,aM]at h3
 (repeat(first|((repeat(revert N;apply Pn.out));refine wk @ad.eq_1 ?_;(repeat(apply Pn.mk;intro N hN)))|((try apply Or.inl);refine⟨_,aw.x (h1) (sd @ad.eq_1),?_⟩;apply hN;clear hN N)|((try apply Or.inl);refine⟨_,aw.x (h2) (sd @ad.eq_1),?_⟩;apply hN;clear hN N)|((try apply Or.inl);refine⟨_,aw.x (h3) (sd @ad.eq_1),?_⟩;apply hN;clear hN N)))
 exact eC (b:=qh a b) (.inl rfl) (by simp only[go_sem, ↓reduceIte,Nat.reduceEqDiff,Nat.reduceAdd,Nat.reduceSub,Nat.reduceLeDiff,reduceCtorEq,qh]) rfl
end
theorem Qc (a b:ai):aw Tryz.prog 131 [.agg (ad a),.agg (ad b)] (.bool (ju a b)):=by
 refine aw.body fx rfl fun hl n0=>?_
 clear hl
 have h1:=pk a b
 rw[ad,ad]at h1
 (repeat(first|((repeat(revert N;apply Pn.out));refine wk @ad.eq_1 ?_;(repeat(apply Pn.mk;intro N hN)))|((try apply Or.inl);refine⟨_,aw.x (h1) (sd @ad.eq_1),?_⟩;apply hN;clear hN N)))
 exact da (b:=decide (qh a b<0)) (.inl rfl) (sd @Nat.zero_add) (mX a b)
theorem lP (t:aa) (p:ai):aw Tryz.prog 169 [.agg (ab t),.agg (ad p)] (.int .i64 (qh t.aI p)):=by
 refine aw.body fx rfl fun hl n0=>?_
 clear hl
 have h1:=pk t.aI p
 rw[ad,ad]at h1
 (repeat(first|((repeat(revert N;apply Pn.out));refine wk (tw @ab.eq_1 @ad.eq_1) ?_;(repeat(apply Pn.mk;intro N hN)))|((try apply Or.inl);refine⟨_,aw.x (h1) (sd (tw @ab.eq_1 @ad.eq_1)),?_⟩;apply hN;clear hN N)))
 exact eC (b:=qh t.aI p) (.inl rfl) (sd @Nat.zero_add) rfl
theorem vZ (l:List aa):aw Tryz.prog 71 [.agg [.sl (l.map ab)]] (.bool (qm l)):=by
 refine aw.body fx rfl fun hl n0=>?_
 have hlen:l.length<=9223372036854775807:=by
  have h1:=(hl (.agg [.sl (l.map ab)]) (by simp)).Sy (a:=.sl (l.map ab)) (by simp)
  simpa using h1.len
 clear hl
 (try((repeat(revert N;apply Pn.out));refine wk @Nat.zero_add ?_;(repeat(apply Pn.mk;intro N hN))))
 refine cm (fun n env st=>∃k:Nat,n=(l.length)-k/\k<=(l.length)/\env 8=.int .i64 (k:Int)/\st.get ⟨71000000,n0⟩=some ⟨true,1,[[.sl (l.map ab)]]⟩/\(∀j:Nat,j<k->Gr l j)) (l.length) ⟨0,ae,ae,sl @Nat.zero_add,sl @Nat.zero_add,fun _ h=>absurd h (Nat.not_lt_zero _)⟩ ?_
 rintro n_a env_a st_a ⟨k,rfl,ale,a8,ag0,nJ⟩ eF
 have a1:=eF 1 (by kernel_rfl);have a6:=eF 6 (by kernel_rfl);have a7:=eF 7 (by kernel_rfl)
 simp only[go_sem, ↓reduceIte,Nat.reduceEqDiff,Nat.reduceAdd,Nat.reduceSub,Nat.reduceLeDiff,reduceCtorEq]at a1 a6 a7
 clear eF
 by_cases hk:(k:Int)<(l.length:Int)
 ·have eh:∀{e:Env} {gg:Rows},(e 8=.int .i64 (IntKind.i64.wrap ((k:Int)+1)))->(gg ⟨71000000,n0⟩=some ⟨true,1,[[.sl (l.map ab)]]⟩)->(Gr l k)->∃m0,m0<(l.length)-k/\∃k:Nat,m0=(l.length)-k/\k<=(l.length)/\e 8=.int .i64 (k:Int)/\gg ⟨71000000,n0⟩=some ⟨true,1,[[.sl (l.map ab)]]⟩/\(∀j:Nat,j<k->Gr l j):=fun x1 x2 x3=>⟨_,ae,k+1,rfl,ae,(by rw[x1,bf ae]),x2,(all_succ nJ x3)⟩
  have jg:k<l.length:=ae
  have iy:=fM jg
  have lT:(¬Gr l k)->¬kc l:=fun h hp=>h (hp.ok k jg)
  have hp:=tP (aA l k).aI
  have ht:=BH (aA l k).aY 160 ae ae
  rw[show(160:Int)-1=159 from rfl]at ht
  cases b1:xG (aA l k).aI
  ·rw[b1]at hp
   (have zF:=tw @a8 (tw @ag0 (tw @a1 (tw @a6 (tw @a7 (tw @hk (tw @iy (tw @ab.eq_1 @ad.eq_1)))))));(repeat(first|((repeat(revert N;apply Pn.out));refine wk zF ?_;(repeat(apply Pn.mk;intro N hN)))|((try apply Or.inl);refine⟨_,aw.x (hp) (sd zF),?_⟩;apply hN;clear hN N)));try clear zF)
   exact da (b:=false) (.inl rfl) (sd @Nat.zero_add) (lF (lT fun h=>by rw[Gr,b1]at h;cases h.1))
  rw[b1]at hp
  cases b2:ik (aA l k).aY 0 159
  ·rw[b2]at ht
   (have zF:=tw @a8 (tw @ag0 (tw @a1 (tw @a6 (tw @a7 (tw @hk (tw @iy (tw @ab.eq_1 @ad.eq_1)))))));(repeat(first|((repeat(revert N;apply Pn.out));refine wk zF ?_;(repeat(apply Pn.mk;intro N hN)))|((try apply Or.inl);refine⟨_,aw.x (hp) (sd zF),?_⟩;apply hN;clear hN N)|((try apply Or.inl);refine⟨_,aw.x (ht) (sd zF),?_⟩;apply hN;clear hN N)));try clear zF)
   exact da (b:=false) (.inl rfl) (sd @Nat.zero_add) (lF (lT fun h=>by rw[Gr,b2]at h;cases h.2.1))
  rw[b2]at ht
  by_cases h0:(0:Int)<(k:Int)
  ·have xb:=fM (l:=l) (i:=k-1) ae
   have hw:IntKind.i64.wrap ((k:Int)-1)=((k-1:Nat):Int):=by rw[db ae];omega
   have hq:=Qc (aA l (k-1)).aI (aA l k).aI
   cases b3:ju (aA l (k-1)).aI (aA l k).aI
   ·rw[b3]at hq
    (have zF:=tw @a8 (tw @ag0 (tw @a1 (tw @a6 (tw @a7 (tw @hk (tw @iy (tw @xb (tw @h0 (tw @hw (tw @ab.eq_1 @ad.eq_1))))))))));(repeat(first|((repeat(revert N;apply Pn.out));refine wk zF ?_;(repeat(apply Pn.mk;intro N hN)))|((try apply Or.inl);refine⟨_,aw.x (hp) (sd zF),?_⟩;apply hN;clear hN N)|((try apply Or.inl);refine⟨_,aw.x (ht) (sd zF),?_⟩;apply hN;clear hN N)|((try apply Or.inl);refine⟨_,aw.x (hq) (sd zF),?_⟩;apply hN;clear hN N)));try clear zF)
    exact da (b:=false) (.inl rfl) (sd @Nat.zero_add) (lF (lT fun h=>by have:=h.2.2 ae;rw[b3]at this;cases this))
   ·rw[b3]at hq
    (have zF:=tw @a8 (tw @ag0 (tw @a1 (tw @a6 (tw @a7 (tw @hk (tw @iy (tw @xb (tw @h0 (tw @hw (tw @ab.eq_1 @ad.eq_1))))))))));(repeat(first|((repeat(revert N;apply Pn.out));refine wk zF ?_;(repeat(apply Pn.mk;intro N hN)))|((try apply Or.inl);refine⟨_,aw.x (hp) (sd zF),?_⟩;apply hN;clear hN N)|((try apply Or.inl);refine⟨_,aw.x (ht) (sd zF),?_⟩;apply hN;clear hN N)|((try apply Or.inl);refine⟨_,aw.x (hq) (sd zF),?_⟩;apply hN;clear hN N)));try clear zF)
    refine eh ?_ ?_ (⟨b1,b2,fun _=>b3⟩)
    all_goals simp only[go_sem, ↓reduceIte,Nat.reduceEqDiff,Nat.reduceAdd,Nat.reduceSub,Nat.reduceLeDiff,reduceCtorEq,a8,ag0,a1,a6,a7]
  ·have xS:k=0:=ae
   (have zF:=tw @a8 (tw @ag0 (tw @a1 (tw @a6 (tw @a7 (tw @hk (tw @iy (tw @h0 (tw @ab.eq_1 @ad.eq_1))))))));(repeat(first|((repeat(revert N;apply Pn.out));refine wk zF ?_;(repeat(apply Pn.mk;intro N hN)))|((try apply Or.inl);refine⟨_,aw.x (hp) (sd zF),?_⟩;apply hN;clear hN N)|((try apply Or.inl);refine⟨_,aw.x (ht) (sd zF),?_⟩;apply hN;clear hN N)));try clear zF)
   refine eh ?_ ?_ (⟨b1,b2,fun h=>ae⟩)
   all_goals simp only[go_sem, ↓reduceIte,Nat.reduceEqDiff,Nat.reduceAdd,Nat.reduceSub,Nat.reduceLeDiff,reduceCtorEq,a8,ag0,a1,a6,a7]
 ·(try((repeat(revert N;apply Pn.out));refine wk (tw @a8 (tw @ag0 (tw @a1 (tw @a6 (tw @a7 @hk))))) ?_;(repeat(apply Pn.mk;intro N hN))))
  refine da (b:=decide ((l.length:Int)<=500)) (.inl rfl) (sd @Nat.zero_add) ?_
  by_cases h5:(l.length:Int)<=500
  ·rw[decide_eq_true h5];exact Bt ⟨ae,fun i hi=>nJ i ae⟩
  ·rw[decide_eq_false h5];exact lF fun h=>by have:=h.pL;omega
theorem Bk (cells:List aa) (p:ai) (hR:jk cells) (PS:cells.length<=1048576):
  aw Tryz.prog 168 [.sl (cells.map ab),.agg (ad p),.fn 169 []] (.fP [.int .i64 (nW cells p),.bool (decide (nW cells p<cells.length)&&decide ((aA cells (nW cells p)).aI=p))]):=by
 refine aw.body fx rfl fun hl n0=>?_
 clear hl
 (try((repeat(revert N;apply Pn.out));refine wk @ad.eq_1 ?_;(repeat(apply Pn.mk;intro N hN))))
 refine cm (fun n env st=>∃i j:Nat,n=j-i/\i<=j/\j<=cells.length/\(∀x,x<i->ju (aA cells x).aI p=true)/\(∀x,j<=x->x<cells.length->ju (aA cells x).aI p=false)/\env 9=.int .i64 i/\env 10=.int .i64 j/\st.get ⟨168000000,n0⟩=some ⟨true,2,[ad p]⟩) cells.length ⟨0,cells.length,ae,ae,ae,fun x h=>ae,fun x h1 h2=>ae,by(simp only[go_sem, ↓reduceIte,Nat.reduceEqDiff,Nat.reduceAdd,Nat.reduceSub,Nat.reduceLeDiff,reduceCtorEq])<;>rfl,sd @Nat.zero_add,sd @ad.eq_1⟩ ?_
 rintro n env st ⟨i,j,rfl,BC,hj,lW,Gv,h9,CY,hg⟩ fr
 have h0:=fr 0 (by kernel_rfl)
 have h2:=fr 2 (by kernel_rfl)
 have h4:=fr 4 (by kernel_rfl)
 have h8:=fr 8 (by kernel_rfl)
 simp only[go_sem, ↓reduceIte,Nat.reduceEqDiff,Nat.reduceAdd,Nat.reduceSub,Nat.reduceLeDiff,reduceCtorEq]at h0 h2 h4 h8
 clear fr
 by_cases eG:(i:Int)<(j:Int)
 ·have e1:IntKind.i64.wrap ((i:Int)+j)=((i+j:Nat):Int):=by rw[db ae];rfl
  have hm:(i+j) / 2<cells.length:=ae
  have iK:(cells.map ab)[(i+j) / 2]? =some (ab (aA cells ((i+j) / 2))):=fM (l:=cells) hm
  have e2:IntKind.i64.wrap ((IntKind.u64.wrap ((i+j:Nat):Int)).fdiv (2 ^ min 1 IntKind.u64.bits))=(((i+j) / 2:Nat):Int):=by
   have h:IntKind.u64.wrap ((i+j:Nat):Int)=((i+j:Nat):Int):=by rw[IntKind.wrap_u64];omega
   rw[h,show min 1 IntKind.u64.bits=1 from rfl,show((2:Int) ^ 1)=2 from rfl,Int.fdiv_eq_ediv_of_nonneg _ ae]
   rw[db ae];omega
  have Ww:IntKind.i64.wrap ((IntKind.u64.wrap ((i+j:Nat):Int)).fdiv (2 ^ min 1 64))=(((i+j) / 2:Nat):Int):=e2
  have e3:=bf (k:=(i+j) / 2) ae
  by_cases hc:qh (aA cells ((i+j) / 2)).aI p<0
  ·have hl:ju (aA cells ((i+j) / 2)).aI p=true:=by rw[<-mX];simpa using hc
   (have zF:=tw @h0 (tw @h2 (tw @h4 (tw @h8 (tw @h9 (tw @CY (tw @hg (tw @eG (tw @e1 (tw @e2 (tw @Ww (tw @iK (tw @hc (tw @ab.eq_1 @ad.eq_1)))))))))))));(repeat(first|((repeat(revert N;apply Pn.out));refine wk zF ?_;(repeat(apply Pn.mk;intro N hN)))|((try apply Or.inl);refine⟨_,aw.x (lP (aA cells ((i+j) / 2)) p) (sd zF),?_⟩;apply hN;clear hN N)));try clear zF)
   refine⟨_,?_,(i+j) / 2+1,j,rfl,ae,hj,fun x hx=>?_,Gv,sd @e3,sd @CY,sd (tw @hg @ad.eq_1)⟩
   ·omega
   ·by_cases Fj:x=(i+j) / 2
    ·subst Fj;exact hl
    ·exact iF (hR x _ ae hm) hl
  ·have hl:ju (aA cells ((i+j) / 2)).aI p=false:=by rw[<-mX];simpa using hc
   (have zF:=tw @h0 (tw @h2 (tw @h4 (tw @h8 (tw @h9 (tw @CY (tw @hg (tw @eG (tw @e1 (tw @e2 (tw @Ww (tw @iK (tw @hc (tw @ab.eq_1 @ad.eq_1)))))))))))));(repeat(first|((repeat(revert N;apply Pn.out));refine wk zF ?_;(repeat(apply Pn.mk;intro N hN)))|((try apply Or.inl);refine⟨_,aw.x (lP (aA cells ((i+j) / 2)) p) (sd zF),?_⟩;apply hN;clear hN N)));try clear zF)
   refine⟨_,?_,i,(i+j) / 2,rfl,ae,ae,lW,fun x h1 h2=>?_,sd @h9,sd (tw @e2 @Ww),sd (tw @hg @ad.eq_1)⟩
   ·omega
   ·by_cases Fj:x=(i+j) / 2
    ·subst Fj;exact hl
    ·rw[Bool.eq_false_iff]
     intro hc
     have h3:=iF (hR ((i+j) / 2) x ae h2) hc
     rw[hl]at h3;cases h3
 ·have TA:i=j:=ae
  subst TA
  have E6:nW cells p=i:=De hj lW fun h=>Gv i (Nat.le_refl _) h
  by_cases hn:(i:Int)<(cells.length:Int)
  ·have gV:i<cells.length:=ae
   have iK:(cells.map ab)[i]? =some (ab (aA cells i)):=fM (l:=cells) gV
   have hd:decide (qh (aA cells i).aI p=0)=decide ((aA cells i).aI=p):=by simp only[JP]
   (have zF:=tw @h0 (tw @h2 (tw @h4 (tw @h8 (tw @h9 (tw @CY (tw @hg (tw @eG (tw @hn (tw @iK (tw @ab.eq_1 @ad.eq_1))))))))));(repeat(first|((repeat(revert N;apply Pn.out));refine wk zF ?_;(repeat(apply Pn.mk;intro N hN)))|((try apply Or.inl);refine⟨_,aw.x (lP (aA cells i) p) (sd zF),?_⟩;apply hN;clear hN N)));try clear zF)
   refine lY (.inl rfl) (r1:=.int .i64 i) (r2:=.bool (decide ((aA cells i).aI=p))) ?_ ?_ ?_
   ·simp only[go_sem, ↓reduceIte,Nat.reduceEqDiff,Nat.reduceAdd,Nat.reduceSub,Nat.reduceLeDiff,reduceCtorEq]
   ·simp only[go_sem, ↓reduceIte,Nat.reduceEqDiff,Nat.reduceAdd,Nat.reduceSub,Nat.reduceLeDiff,reduceCtorEq,hd]
   ·simp only[fo,bx,cw,ej,gj,Option.map_some,E6,gV,decide_true,Bool.true_and]
  ·have gV:¬i<cells.length:=ae
   (try((repeat(revert N;apply Pn.out));refine wk (tw @h0 (tw @h2 (tw @h4 (tw @h8 (tw @h9 (tw @CY (tw @hg (tw @eG (tw @hn (tw @ab.eq_1 @ad.eq_1)))))))))) ?_;(repeat(apply Pn.mk;intro N hN))))
   refine lY (.inl rfl) (r1:=.int .i64 i) (r2:=.bool false) ?_ ?_ ?_
   ·simp only[go_sem, ↓reduceIte,Nat.reduceEqDiff,Nat.reduceAdd,Nat.reduceSub,Nat.reduceLeDiff,reduceCtorEq]
   ·simp only[go_sem, ↓reduceIte,Nat.reduceEqDiff,Nat.reduceAdd,Nat.reduceSub,Nat.reduceLeDiff,reduceCtorEq]
   ·simp only[fo,bx,cw,ej,gj,Option.map_some,E6,gV,decide_false,Bool.false_and]
theorem K0 (l:List aa) (p:ai) (hR:jk l) (PS:l.length<=1048576):aw Tryz.prog 258 [.agg [.sl (l.map ab)],.agg (ad p)] (.int .i64 (dm l p)):=by
 refine aw.body fx rfl fun hl n0=>?_
 clear hl
 rw[Dh hR]
 have hb:=Bk l p hR PS
 rw[ad]at hb
 cases hf:(decide (nW l p<l.length)&&decide ((aA l (nW l p)).aI=p))
 ·rw[hf]at hb
  (repeat(first|((repeat(revert N;apply Pn.out));refine wk @ad.eq_1 ?_;(repeat(apply Pn.mk;intro N hN)))|((try apply Or.inl);refine⟨_,aw.x (hb) (sd @ad.eq_1),?_⟩;apply hN;clear hN N)))
  exact eC (b:=-1) (.inl rfl) (sd @Nat.zero_add) (by rw[if_neg];intro h;simp[h.1,h.2]at hf)
 ·rw[hf]at hb
  (repeat(first|((repeat(revert N;apply Pn.out));refine wk @ad.eq_1 ?_;(repeat(apply Pn.mk;intro N hN)))|((try apply Or.inl);refine⟨_,aw.x (hb) (sd @ad.eq_1),?_⟩;apply hN;clear hN N)))
  exact eC (b:=(nW l p:Int)) (.inl rfl) (sd @Nat.zero_add) (by rw[if_pos];simpa using hf)
theorem ZN (l:List aa) (p:ai) (hR:jk l) (PS:l.length<=1048576):aw Tryz.prog 99 [.agg [.sl (l.map ab)],.agg (ad p)] (.int .i64 (eM l p)):=by
 refine aw.body fx rfl fun hl n0=>?_
 clear hl
 have hi:=Dh (l:=l) (p:=p) hR
 have hb:=Bk l p hR PS
 rw[ad]at hb
 cases hf:(decide (nW l p<l.length)&&decide ((aA l (nW l p)).aI=p))
 ·rw[hf]at hb
  (repeat(first|((repeat(revert N;apply Pn.out));refine wk @ad.eq_1 ?_;(repeat(apply Pn.mk;intro N hN)))|((try apply Or.inl);refine⟨_,aw.x (hb) (sd @ad.eq_1),?_⟩;apply hN;clear hN N)))
  exact eC (b:=-1) (.inl rfl) (sd @Nat.zero_add) (by
   have hx:dm l p= -1:=by rw[hi,if_neg (by intro h;simp[h.1,h.2]at hf)]
   rw[eM,hx];rfl)
 ·rw[hf]at hb
  have hc:nW l p<l.length/\(aA l (nW l p)).aI=p:=by simpa using hf
  have hg:=fM hc.1
  (have zF:=tw @ad.eq_1 (tw @hg @ab.eq_1);(repeat(first|((repeat(revert N;apply Pn.out));refine wk zF ?_;(repeat(apply Pn.mk;intro N hN)))|((try apply Or.inl);refine⟨_,aw.x (hb) (sd zF),?_⟩;apply hN;clear hN N)));try clear zF)
  exact eC (b:=(aA l (nW l p)).aY) (.inl rfl) (sd @Nat.zero_add) (by
   have hx:dm l p=(nW l p:Int):=by rw[hi,if_pos hc]
   rw[eM,hx,if_pos ae,Int.toNat_natCast])
theorem tk (l:List aa) (p:ai) (hR:jk l) (PS:l.length<=1048576):aw Tryz.prog 155 [.ef [.sl (l.map ab)],.agg (ad p)] (.int .i64 (dm l p)):=by
 refine aw.body fx rfl fun hl n0=>?_
 clear hl
 rw[Dh hR]
 (try((repeat(revert N;apply Pn.out));refine wk @ad.eq_1 ?_;(repeat(apply Pn.mk;intro N hN))))
 refine cm (fun n env st=>∃i j:Nat,n=j-i/\i<=j/\j<=l.length/\(∀x,x<i->ju (aA l x).aI p=true)/\(∀x,j<=x->x<l.length->ju (aA l x).aI p=false)/\env 5=.int .i64 i/\env 6=.int .i64 j/\st.get ⟨155000000,n0⟩=some ⟨true,2,[ad p]⟩) l.length ⟨0,l.length,ae,ae,ae,fun x h=>ae,fun x h1 h2=>ae,by(simp only[go_sem, ↓reduceIte,Nat.reduceEqDiff,Nat.reduceAdd,Nat.reduceSub,Nat.reduceLeDiff,reduceCtorEq])<;>rfl,sd @Nat.zero_add,sd @ad.eq_1⟩ ?_
 rintro n env st ⟨i,j,rfl,BC,hj,lW,Gv,h5,h6,hg⟩ fr
 have h0:=fr 0 (by kernel_rfl)
 have h3:=fr 3 (by kernel_rfl)
 simp only[go_sem, ↓reduceIte,Nat.reduceEqDiff,Nat.reduceAdd,Nat.reduceSub,Nat.reduceLeDiff,reduceCtorEq]at h0 h3
 clear fr
 by_cases eG:(i:Int)<(j:Int)
 ·have e1:IntKind.i64.wrap ((i:Int)+j)=((i+j:Nat):Int):=by rw[db ae];rfl
  have hm:(i+j) / 2<l.length:=ae
  have iK:=fM hm
  have e2:IntKind.i64.wrap (((i+j:Nat):Int).tdiv 2)=(((i+j) / 2:Nat):Int):=by
   rw[Int.tdiv_eq_ediv_of_nonneg ae,db ae];omega
  have e3:=bf (k:=(i+j) / 2) ae
  have hq:=mW (aA l ((i+j) / 2)).aI p
  cases hl:ju (aA l ((i+j) / 2)).aI p
  ·rw[hl]at hq
   (have zF:=tw @h0 (tw @h3 (tw @h5 (tw @h6 (tw @hg (tw @eG (tw @e1 (tw @e2 (tw @iK (tw @ab.eq_1 @ad.eq_1)))))))));(repeat(first|((repeat(revert N;apply Pn.out));refine wk zF ?_;(repeat(apply Pn.mk;intro N hN)))|((try apply Or.inl);refine⟨_,aw.x (hq) (sd zF),?_⟩;apply hN;clear hN N)));try clear zF)
   refine⟨_,?_,i,(i+j) / 2,rfl,ae,ae,lW,fun x h1 h2=>?_,sd @h5,sd @e2,sd (tw @hg @ad.eq_1)⟩
   ·omega
   ·by_cases Fj:x=(i+j) / 2
    ·subst Fj;exact hl
    ·rw[Bool.eq_false_iff]
     intro hc
     have h3:=iF (hR ((i+j) / 2) x ae h2) hc
     rw[hl]at h3;cases h3
  ·rw[hl]at hq
   (have zF:=tw @h0 (tw @h3 (tw @h5 (tw @h6 (tw @hg (tw @eG (tw @e1 (tw @e2 (tw @iK (tw @ab.eq_1 @ad.eq_1)))))))));(repeat(first|((repeat(revert N;apply Pn.out));refine wk zF ?_;(repeat(apply Pn.mk;intro N hN)))|((try apply Or.inl);refine⟨_,aw.x (hq) (sd zF),?_⟩;apply hN;clear hN N)));try clear zF)
   refine⟨_,?_,(i+j) / 2+1,j,rfl,ae,hj,fun x hx=>?_,Gv,sd @e3,sd @h6,sd (tw @hg @ad.eq_1)⟩
   ·omega
   ·by_cases Fj:x=(i+j) / 2
    ·subst Fj;exact hl
    ·exact iF (hR x _ ae hm) hl
 ·have TA:i=j:=ae
  subst TA
  have E6:nW l p=i:=De hj lW fun h=>Gv i (Nat.le_refl _) h
  by_cases hn:(i:Int)<(l.length:Int)
  ·have gV:i<l.length:=ae
   have iK:=fM gV
   by_cases hp:(aA l i).aI=p
   ·have hx:decide ((aA l i).aI.eV=p.eV)=true:=decide_eq_true (by rw[hp])
    have hy:decide ((aA l i).aI.eQ=p.eQ)=true:=decide_eq_true (by rw[hp])
    (try((repeat(revert N;apply Pn.out));refine wk (tw @h0 (tw @h3 (tw @h5 (tw @h6 (tw @hg (tw @eG (tw @hn (tw @iK (tw @hx (tw @hy (tw @ab.eq_1 @ad.eq_1))))))))))) ?_;(repeat(apply Pn.mk;intro N hN))))
    exact eC (b:=(i:Int)) (.inl rfl) (sd @Nat.zero_add) (by rw[E6,if_pos ⟨gV,hp⟩])
   ·by_cases hx:(aA l i).aI.eV=p.eV
    ·have vp:decide ((aA l i).aI.eV=p.eV)=true:=decide_eq_true hx
     have Zl:decide ((aA l i).aI.eQ=p.eQ)=false:=decide_eq_false fun h=>hp (zM hx h)
     (try((repeat(revert N;apply Pn.out));refine wk (tw @h0 (tw @h3 (tw @h5 (tw @h6 (tw @hg (tw @eG (tw @hn (tw @iK (tw @vp (tw @Zl (tw @ab.eq_1 @ad.eq_1))))))))))) ?_;(repeat(apply Pn.mk;intro N hN))))
     exact eC (b:=-1) (.inl rfl) (sd @Nat.zero_add) (by rw[E6,if_neg fun h=>hp h.2])
    ·have vp:decide ((aA l i).aI.eV=p.eV)=false:=decide_eq_false hx
     (try((repeat(revert N;apply Pn.out));refine wk (tw @h0 (tw @h3 (tw @h5 (tw @h6 (tw @hg (tw @eG (tw @hn (tw @iK (tw @vp (tw @Bool.false_and (tw @ab.eq_1 @ad.eq_1))))))))))) ?_;(repeat(apply Pn.mk;intro N hN))))
     exact eC (b:=-1) (.inl rfl) (sd @Nat.zero_add) (by rw[E6,if_neg fun h=>hp h.2])
  ·have gV:¬i<l.length:=ae
   (try((repeat(revert N;apply Pn.out));refine wk (tw @h0 (tw @h3 (tw @h5 (tw @h6 (tw @hg (tw @eG (tw @hn (tw @ab.eq_1 @ad.eq_1)))))))) ?_;(repeat(apply Pn.mk;intro N hN))))
   exact eC (b:=-1) (.inl rfl) (sd @Nat.zero_add) (by rw[E6,if_neg fun h=>gV h.1])
theorem Qo (l:List aa) (p:ai) (hR:jk l) (PS:l.length<=1048576):aw Tryz.prog 87 [.ef [.sl (l.map ab)],.agg (ad p)] (.int .i64 (eM l p)):=by
 refine aw.body fx rfl fun hl n0=>?_
 clear hl
 have hb:=tk l p hR PS
 by_cases hi:dm l p<0
 ·rw[ad]at hb
  (repeat(first|((repeat(revert N;apply Pn.out));refine wk (tw @ad.eq_1 @hi) ?_;(repeat(apply Pn.mk;intro N hN)))|((try apply Or.inl);refine⟨_,aw.x (hb) (sd (tw @ad.eq_1 @hi)),?_⟩;apply hN;clear hN N)))
  exact eC (b:=-1) (.inl rfl) (sd @Nat.zero_add) (by rw[eM,if_neg ae])
 ·have h0:0<=dm l p:=ae
  have hg:=fM (iC h0).1
  rw[ad]at hb
  (have zF:=tw @ad.eq_1 (tw @hi (tw @h0 (tw @hg @ab.eq_1)));(repeat(first|((repeat(revert N;apply Pn.out));refine wk zF ?_;(repeat(apply Pn.mk;intro N hN)))|((try apply Or.inl);refine⟨_,aw.x (hb) (sd zF),?_⟩;apply hN;clear hN N)));try clear zF)
  exact eC (b:=(aA l (dm l p).toNat).aY) (.inl rfl) (sd @Nat.zero_add) (by rw[eM,if_pos h0])
def gx (s:az) (l:List aa):Prop:=kc l/\∀t∈l,eE s t.aY=true
noncomputable def sL (s:az) (l:List aa):Bool:=qm l&&l.all fun t=>eE s t.aY
theorem ml {s:az} {l:List aa}:sL s l=true↔gx s l:=by simp[sL,gx,vU]
theorem yL:Wd ab (fun c=>.agg (ab c)) 3 true:=⟨fun _=>rfl,fun _=>rfl,fun x g=>by simp only[ab,aq,ar,bp,aV,Option.map_some]⟩
theorem KU (s:az) (t:aa) (hs:s.aj.length<=1048576):aw Tryz.prog 171 [.agg (ab t),.ef (ah s)] (.bool (!eE s t.aY)):=by
 refine aw.body fx rfl fun hl n0=>?_
 clear hl
 have h:=Fv s t.aY
 rw[ah]at h
 (repeat(first|((repeat(revert N;apply Pn.out));refine wk (tw @ab.eq_1 @ah.eq_1) ?_;(repeat(apply Pn.mk;intro N hN)))|((try apply Or.inl);refine⟨_,aw.x (h) (sd (tw @ab.eq_1 @ah.eq_1)),?_⟩;apply hN;clear hN N)))
 exact da (b:= !eE s t.aY) (.inl rfl) (sd @Nat.zero_add) rfl
theorem Q0 (s:az) (l:List aa) (hs:s.aj.length<=1048576) (hl:l.length<=1048576):aw Tryz.prog 170 [.sl (l.map ab),.fn 171 [.ef (ah s)]] (.bool (l.any fun t=> !eE s t.aY)):=
 kh yL (show CC Tryz.prog 170=some (yX 170 207) by kernel_rfl)
  (show CC Tryz.prog 207=some (th 207 3 true) by kernel_rfl) l hl _ _ _ rfl (fun g=>by rw[aq,aP,ar];rfl) (fun x _=>KU s x hs) fun g=>by rw[aq,aP,ar];rfl
theorem IA {α:Type} (p:α->Bool) (l:List α):(!l.any fun t=> !p t)=l.all p:=by
 induction l with
 |nil=>rfl
 |cons x l ih=>simp only[List.any_cons,List.all_cons,<-ih];cases p x<;>simp
theorem lL (s:az) (l:List aa) (hn:im s) (hg:s.bh.length<=1048576) (ht:s.aj.length<=1048576) (hs:∀t∈s.aj,t.dW.length<=1048576) (hl:l.length<=1048576):aw Tryz.prog 103 [.agg (ah s),.agg [.sl (l.map ab)]] (.bool (rZ s&&sL s l)):=by
 refine aw.body fx rfl fun hl n0=>?_
 clear hl
 have h1:=GQ s hn hg ht hs
 have h2:=vZ l
 have h3:=Q0 s l ht hl
 rw[ah]at h1 h3
 cases b1:rZ s
 ·rw[b1]at h1
  (repeat(first|((repeat(revert N;apply Pn.out));refine wk @ah.eq_1 ?_;(repeat(apply Pn.mk;intro N hN)))|((try apply Or.inl);refine⟨_,aw.x (h1) (sd @ah.eq_1),?_⟩;apply hN;clear hN N)))
  exact da (b:=false) (.inl rfl) (sd @Nat.zero_add) rfl
 rw[b1]at h1
 cases b2:qm l
 ·rw[b2]at h2
  (repeat(first|((repeat(revert N;apply Pn.out));refine wk @ah.eq_1 ?_;(repeat(apply Pn.mk;intro N hN)))|((try apply Or.inl);refine⟨_,aw.x (h1) (sd @ah.eq_1),?_⟩;apply hN;clear hN N)|((try apply Or.inl);refine⟨_,aw.x (h2) (sd @ah.eq_1),?_⟩;apply hN;clear hN N)))
  exact da (b:=false) (.inl rfl) (sd @Nat.zero_add) (by rw[sL,b2];rfl)
 rw[b2]at h2
 (repeat(first|((repeat(revert N;apply Pn.out));refine wk @ah.eq_1 ?_;(repeat(apply Pn.mk;intro N hN)))|((try apply Or.inl);refine⟨_,aw.x (h1) (sd @ah.eq_1),?_⟩;apply hN;clear hN N)|((try apply Or.inl);refine⟨_,aw.x (h2) (sd @ah.eq_1),?_⟩;apply hN;clear hN N)|((try apply Or.inl);refine⟨_,aw.x (h3) (sd @ah.eq_1),?_⟩;apply hN;clear hN N)))
 exact da (b:= !(l.any fun t=> !eE s t.aY)) (.inl rfl) (sd @Nat.zero_add) (by rw[IA,sL,b2];rfl)
theorem Qp (s:az) (l:List aa):aw Tryz.prog 138 [.ef (ah s),.ef [.sl (l.map ab)]] (.bool (sL s l)):=by
 refine aw.body fx rfl fun hl n0=>?_
 have hlen:l.length<=9223372036854775807:=by
  have h1:=(hl (.ef [.sl (l.map ab)]) (by simp)).Fu (a:=.sl (l.map ab)) (by simp)
  simpa using h1.len
 clear hl
 have h2:=KE l
 cases b2:qm l
 ·rw[b2]at h2
  (repeat(first|((repeat(revert N;apply Pn.out));refine wk @Nat.zero_add ?_;(repeat(apply Pn.mk;intro N hN)))|((try apply Or.inl);refine⟨_,aw.x (h2) (sd @Nat.zero_add),?_⟩;apply hN;clear hN N)))
  exact da (b:=false) (.inl rfl) (sd @Nat.zero_add) (by rw[sL,b2];rfl)
 rw[b2]at h2
 (repeat(first|((repeat(revert N;apply Pn.out));refine wk @Nat.zero_add ?_;(repeat(apply Pn.mk;intro N hN)))|((try apply Or.inl);refine⟨_,aw.x (h2) (sd @Nat.zero_add),?_⟩;apply hN;clear hN N)))
 refine cm (fun n env st=>∃k:Nat,n=(l.length)-k/\k<=(l.length)/\env 5=.int .i64 (k:Int)/\(∀j:Nat,j<k->eE s (aA l j).aY=true)) (l.length) ⟨0,ae,ae,sl @Nat.zero_add,fun _ h=>absurd h (Nat.not_lt_zero _)⟩ ?_
 rintro n_a env_a st_a ⟨k,rfl,ale,a5,nJ⟩ eF
 have a0:=eF 0 (by kernel_rfl);have a1:=eF 1 (by kernel_rfl)
 simp only[go_sem, ↓reduceIte,Nat.reduceEqDiff,Nat.reduceAdd,Nat.reduceSub,Nat.reduceLeDiff,reduceCtorEq]at a0 a1
 clear eF
 by_cases hk:(k:Int)<(l.length:Int)
 ·have eh:∀{e:Env},(e 5=.int .i64 (IntKind.i64.wrap ((k:Int)+1)))->(eE s (aA l k).aY=true)->∃m0,m0<(l.length)-k/\∃k:Nat,m0=(l.length)-k/\k<=(l.length)/\e 5=.int .i64 (k:Int)/\(∀j:Nat,j<k->eE s (aA l j).aY=true):=fun x1 x2=>⟨_,ae,k+1,rfl,ae,(by rw[x1,bf ae]),(all_succ nJ x2)⟩
  have jg:k<l.length:=ae
  have iy:=fM jg
  have ht:=HE s (aA l k).aY
  cases b3:eE s (aA l k).aY
  ·rw[b3]at ht
   (have zF:=tw @a5 (tw @a0 (tw @a1 (tw @hk (tw @iy @ab.eq_1))));(repeat(first|((repeat(revert N;apply Pn.out));refine wk zF ?_;(repeat(apply Pn.mk;intro N hN)))|((try apply Or.inl);refine⟨_,aw.x (ht) (sd zF),?_⟩;apply hN;clear hN N)));try clear zF)
   exact da (b:=false) (.inl rfl) (sd @Nat.zero_add) (by
    have:l.all (fun t=>eE s t.aY)=false:=List.all_eq_false.2 ⟨_,fH jg,by rw[b3];simp⟩
    rw[sL,this,Bool.and_false])
  ·rw[b3]at ht
   (have zF:=tw @a5 (tw @a0 (tw @a1 (tw @hk (tw @iy @ab.eq_1))));(repeat(first|((repeat(revert N;apply Pn.out));refine wk zF ?_;(repeat(apply Pn.mk;intro N hN)))|((try apply Or.inl);refine⟨_,aw.x (ht) (sd zF),?_⟩;apply hN;clear hN N)));try clear zF)
   exact eh (sd (tw @a5 (tw @a0 @a1))) (b3)
 ·(try((repeat(revert N;apply Pn.out));refine wk (tw @a5 (tw @a0 (tw @a1 @hk))) ?_;(repeat(apply Pn.mk;intro N hN))))
  exact da (b:=true) (.inl rfl) (sd @Nat.zero_add) (by
   have:l.all (fun t=>eE s t.aY)=true:=List.all_eq_true.2 fun t ht=>by
    obtain⟨j,hj,rfl⟩:=List.getElem_of_mem ht
    have:=nJ j ae
    rwa [ez hj]at this
   rw[sL,b2,this];rfl)
theorem sF (l:List aa) (hF:kc l) (i:Nat) (d:Int) (hi:i<l.length) (hd:ik d 0 3=true):aw Tryz.prog 238 [.ef [.sl (l.map ab)],.int .i64 i,.int .i64 d] (.int .i64 (dm l (bc (aA l i).aI d))):=by
 refine aw.body fx rfl fun hl n0=>?_
 clear hl
 have hg:=fM hi
 have hp:=oR (hF.pt hi)
 have h1:=wg (aA l i).aI d hd hp.1 hp.2
 have h2:=tk l (bc (aA l i).aI d) hF.xY (by have:=hF.pL;omega)
 rw[ad]at h1 h2
 (have zF:=tw @ab.eq_1 (tw @hg @ad.eq_1);(repeat(first|((repeat(revert N;apply Pn.out));refine wk zF ?_;(repeat(apply Pn.mk;intro N hN)))|((try apply Or.inl);refine⟨_,aw.x (h1) (sd zF),?_⟩;apply hN;clear hN N)|((try apply Or.inl);refine⟨_,aw.x (h2) (sd zF),?_⟩;apply hN;clear hN N)));try clear zF)
 exact eC (b:=dm l (bc (aA l i).aI d)) (.inl rfl) (sd @Nat.zero_add) rfl
end Go.Proofs.YtainmfbpilopaaaGreatDoor.V

namespace Go.Proofs.YtainmfbpilopaaaGreatDoor.V
open Go.RowKit
def isApp:iA->Bool
 | .append .. =>true
 |_=>false
variable {P:Program} {X:gq} {K:Env->ax->Prop} {env:Env} {σ:ax}
theorem Sj {draw:Bool} {o:bD} {r:List bD} (_:isApp o.op=false) (h:∀N:AV->ax->Prop,(∀v s,wpOps X draw r K (upd env o.dst v) s->N v s)->if aL o.guard env then fq X draw o env σ N else N .undef σ):wpOps X draw (o::r) K env σ:=UL h
end Go.Proofs.YtainmfbpilopaaaGreatDoor.V

namespace Go.Proofs.YtainmfbpilopaaaGreatDoor.V
open Go.RowKit
section
variable {α:Type} {enc:α->List AV} {sz:Nat} {g g':Rows} {a:AV} {xs:List α} {ids:List Id}
end
abbrev ON (α:Type):=Rows->List AV->α->List Id->Prop
structure D9 {α:Type} (R:ON α) (sz:Nat):Prop where
 frame:∀{g g':Rows} {cs x ids},R g cs x ids->(∀i∈ids,g' i=g i)->R g' cs x ids
 len:∀{g cs x ids},R g cs x ids->cs.length=sz
 cell:∀{g cs x ids},R g cs x ids->cs.all AV.cell=true
 live:∀{g cs x ids},R g cs x ids->∀i∈ids,∃r,g i=some r/\r.w=true/\r.sz<xE
 small:sz<xE
inductive iw {α:Type} (R:ON α) (g:Rows):List (List AV)->List α->List Id->Prop
 |nil:iw R g [] [] []
 |cons {cs x i1 rs xs i2}:R g cs x i1->iw R g rs xs i2->iw R g (cs::rs) (x::xs) (i1++i2)
section
variable {α:Type} {R:ON α} {sz:Nat} {g g':Rows} {rows r1 r2:List (List AV)} {xs x1 x2:List α} {ids i1 i2:List Id}
theorem iw.len (h:iw R g rows xs ids):rows.length=xs.length:=by
 induction h with
 |nil=>rfl
 |cons _ _ ih=>simp[ih]
theorem iw.frame (ok:D9 R sz) (h:iw R g rows xs ids) (hf:∀i∈ids,g' i=g i):iw R g' rows xs ids:=by
 induction h with
 |nil=>exact .nil
 |cons h1 _ ih=>exact .cons (ok.frame h1 fun i hi=>hf i (List.mem_append_left _ hi)) (ih fun i hi=>hf i (List.mem_append_right _ hi))
theorem iw.app (h1:iw R g r1 x1 i1) (h2:iw R g r2 x2 i2):iw R g (r1++r2) (x1++x2) (i1++i2):=by
 induction h1 with
 |nil=>exact h2
 |cons h _ ih=>rw[List.append_assoc];exact .cons h ih
theorem iw.one {cs:List AV} {x:α} (h:R g cs x ids):iw R g [cs] [x] ids:=by
 have:=iw.cons h iw.nil
 rwa [List.append_nil]at this
theorem iw.split (h:iw R g rows xs ids):∀k (hk:k<xs.length),∃r1 cs r2 i1 ic i2,rows=r1++cs::r2/\r1.length=k/\ids=i1++(ic++i2)/\iw R g r1 (xs.take k) i1/\R g cs xs[k] ic/\iw R g r2 (xs.drop (k+1)) i2:=by
 induction h with
 |nil=>intro k hk;simp at hk
 |cons h1 h2 ih=>
  rename_i cs x j1 rs xs j2
  intro k hk
  cases k with
  |zero=>exact⟨[],cs,rs,[],j1,j2,rfl,rfl,rfl,.nil,h1,h2⟩
  |succ k=>
   obtain⟨r1,tZ,r2,i1,ic,i2,rfl,hl,rfl,h3,h4,h5⟩:=ih k (by simpa using hk)
   exact⟨cs::r1,tZ,r2,j1++i1,ic,i2,rfl,by simp[hl],by rw[List.append_assoc],.cons h1 h3,h4,h5⟩
end
section
variable {α:Type} {R:ON α} {sz:Nat} {g g':Rows} {a:AV} {xs:List α} {ids:List Id}
end
variable {P:Program} {X:gq} {K:Env->ax->Prop} {env:Env} {σ:ax}
section
variable {α:Type} {enc:α->List AV} {sz:Nat} {x:AV} {g g':Rows} {S:Id->Prop} {L L':List α}
end
theorem ei {a b:Id} (h:a.bq<b.bq):(a=b)=False/\(b=a)=False:=by
 constructor<;>(simp only[eq_iff_iff,iff_false];rintro rfl;omega)
theorem Jp {o:Id} {a:Nat} (h:o.site=a) {b v:Nat} (pM:(a==b)=false):(o=⟨b,v⟩)=False:=by
 simp only[eq_iff_iff,iff_false]
 rintro rfl
 simp only at h
 subst h
 simp at pM
def eN (n:Nat):List AV:=[.int .i64 n]
theorem fzN (g:Rows) (n:Nat) (a:Nat):eI g (n+1) (eN a)=some (eN a):=by simp[eN,aq,ar,aV]
theorem Wz (g:Rows) (n:Nat) (a:Nat):eY g (n+1) (eN a)=some (eN a):=by simp[eN,bx,cw,ej]
def ZB:ON (List Nat):=fun g cs x ids=>∃id,cs=[.own id 0 x.length]/\g id=some ⟨true,1,x.map eN⟩/\ids=[id]
theorem XP:D9 ZB 1 where
 frame:=fun⟨id,h1,h2,h3⟩ hf=>by subst h3;exact⟨id,h1,(hf id (by simp)).trans h2,rfl⟩
 len:=fun⟨id,h1,_⟩=>by subst h1;rfl
 cell:=fun⟨id,h1,_⟩=>by subst h1;rfl
 live:=fun⟨id,h1,h2,h3⟩ i hi=>by
  subst h3
  have:i=id:=by simpa using hi
  subst this
  exact⟨_,h2,rfl,by simp[xE]⟩
 small:=by simp[xE]
def Mp (l:List Nat):List AV:=[.sl (l.map eN)]
theorem Uf {g:Rows} {rows:List (List AV)} {xs:List (List Nat)} {ids:List Id} (n:Nat) (h:iw ZB g rows xs ids):gI g (n+2) rows=some (xs.map Mp):=by
 induction h with
 |nil=>rw[gI];rfl
 |cons h1 _ ih=>
  obtain⟨id,rfl,h2,_⟩:=h1
  rw[gI,ih,bx,cw,eT (e:=eN) (sz:=1) h2 rfl fun a=>Wz g n a];rfl
end Go.Proofs.YtainmfbpilopaaaGreatDoor.V

namespace Go.Proofs.YtainmfbpilopaaaGreatDoor.V
def bi (b:Bool):Int:=if b then 1 else 0
def jN (f:Nat->Int):Nat->Int
 |0=>0
 |n+1=>jN f n+f n
theorem ji {f g:Nat->Int}:∀{n:Nat},(∀i,i<n->f i=g i)->jN f n=jN g n
 |0,_=>rfl
 |n+1,h=>by
  simp only[jN]
  rw[ji fun i hi=>h i ae,h n ae]
theorem uR {f g:Nat->Int}:∀{n:Nat},(∀i,i<n->f i<=g i)->jN f n<=jN g n
 |0,_=>Int.le_refl _
 |n+1,h=>by
  simp only[jN]
  have:=uR (n:=n) fun i hi=>h i ae
  have:=h n ae
  omega
theorem me:∀{n:Nat} {f:Nat->Int},(∀i,i<n->f i=0)->jN f n=0
 |0,_,_=>rfl
 |n+1,f,h=>by
  simp only[jN]
  rw[me fun i hi=>h i ae,h n ae];rfl
theorem lp {f:Nat->Int} {a:Nat} {d:Int}:∀n,jN (fun i=>f i+if i=a then d else 0) n=jN f n+if a<n then d else 0
 |0=>by simp[jN]
 |n+1=>by
  simp only[jN]
  rw[lp n]
  by_cases h:n=a
  ·subst h;simp;omega
  ·rw[if_neg h]
   by_cases h2:a<n
   ·rw[if_pos h2,if_pos ae];omega
   ·rw[if_neg h2,if_neg ae];omega
def nO (n:Nat) (S:Nat->Bool) (f:Nat->Nat->Int):Int:=jN (fun u=>jN (fun v=>if S u&& !S v then f u v else 0) n) n
def bump (f:Nat->Nat->Int) (a b:Nat) (d:Int):Nat->Nat->Int:=fun u v=>f u v+if u=a/\v=b then d else 0
theorem qS {n:Nat} {S:Nat->Bool} {f:Nat->Nat->Int} {a b:Nat} {d:Int} (ha:a<n) (hb:b<n):nO n S (bump f a b d)=nO n S f+if S a&& !S b then d else 0:=by
 unfold nO
 have h1:∀u,u<n->jN (fun v=>if S u&& !S v then bump f a b d u v else 0) n=jN (fun v=>if S u&& !S v then f u v else 0) n+if u=a then(if S a&& !S b then d else 0)else 0:=by
  intro u hu
  by_cases h:u=a
  ·subst h
   have h2:∀v,v<n->(if S u&& !S v then bump f u b d u v else 0)=(fun v=>if S u&& !S v then f u v else 0) v+if v=b then(if S u&& !S b then d else 0)else 0:=by
    intro v hv
    unfold bump
    by_cases h3:v=b
    ·subst h3;simp only[and_self,if_true];split<;>omega
    ·simp only[h3,and_false,if_false];split<;>omega
   rw[ji h2,lp,if_pos hb,if_pos rfl]
  ·rw[if_neg h,Int.add_zero]
   refine ji fun v hv=>?_
   unfold bump
   simp[h]
 rw[ji h1,lp,if_pos ha]
theorem PE {n:Nat} {S:Nat->Bool} {f c:Nat->Nat->Int} (h:∀u v,u<n->v<n->f u v<=c u v):nO n S f<=nO n S c:=
 uR fun u hu=>uR fun v hv=>by split;exact h u v hu hv;exact Int.le_refl _
theorem PD {n:Nat} {S:Nat->Bool} {f c:Nat->Nat->Int} (h:∀u v,u<n->v<n->S u=true->S v=false->f u v=c u v):nO n S f=nO n S c:=
 ji fun u hu=>ji fun v hv=>by
  split
  ·rename_i hc
   simp only[Bool.and_eq_true,Bool.not_eq_true']at hc
   exact h u v hu hv hc.1 hc.2
  ·rfl
def lX (f:Nat->Nat->Int) (a b:Nat):Nat->Nat->Int:=bump (bump f a b 1) b a (-1)
theorem JU {n:Nat} {S:Nat->Bool} {f:Nat->Nat->Int} {a b:Nat} (ha:a<n) (hb:b<n):nO n S (lX f a b)=nO n S f+bi (S a)-bi (S b):=by
 unfold lX
 rw[qS hb ha,qS ha hb]
 cases S a<;>cases S b<;>simp[bi]<;>omega
def nK (f:Nat->Nat->Int):List Nat->Nat->Nat->Int
 |a::b::r=>nK (lX f a b) (b::r)
 |_=>f
def tN (f c:Nat->Nat->Int):List Nat->Prop
 |a::b::r=>f a b<c a b/\tN f c (b::r)
 |_=>True
theorem El {n:Nat} {S:Nat->Bool}:∀(r:List Nat) (a:Nat) (f:Nat->Nat->Int),(∀x∈a::r,x<n)->nO n S (nK f (a::r))=nO n S f+bi (S a)-bi (S ((a::r).getLast (by simp)))
 |[],a,f,_=>by simp[nK]
 |b::r,a,f,h=>by
  rw[nK,El r b (lX f a b) fun x hx=>h x (List.mem_cons_of_mem _ hx),JU (h a (by simp)) (h b (by simp)),List.getLast_cons_cons]
  generalize bi (S b)=q
  omega
theorem tN.less {f g c:Nat->Nat->Int}:∀{p:List Nat},tN f c p->(∀u,u∈p->∀v,g u v<=f u v)->tN g c p
 |[],_,_=>trivial
 |[_],_,_=>trivial
 |a::b::r,h,hl=>⟨Int.lt_of_le_of_lt (hl a (by simp) b) h.1,tN.less (p:=b::r) h.2 fun u hu=>hl u (List.mem_cons_of_mem _ hu)⟩
theorem IB {n:Nat} {c:Nat->Nat->Int}:∀(p:List Nat) (f:Nat->Nat->Int),p.Nodup->tN f c p->(∀u v,u<n->v<n->f u v<=c u v)->∀u v,u<n->v<n->nK f p u v<=c u v
 |[],f,_,_,h=>h
 |[_],f,_,_,h=>h
 |a::b::r,f,hn,hr,h=>by
  rw[nK]
  have pM:a∉b::r:=(List.nodup_cons.1 hn).1
  refine IB (b::r) _ (List.nodup_cons.1 hn).2 (hr.2.less fun u hu v=>?_) fun u v hu hv=>?_
  ·unfold lX bump
   have:u≠a:=by rintro rfl;exact pM hu
   simp only[this,false_and,if_false]
   split<;>omega
  ·have h0:=h u v hu hv
   have h1:=hr.1
   unfold lX bump
   by_cases e:u=a/\v=b
   ·obtain⟨rfl,rfl⟩:=e
    rw[if_pos ⟨rfl,rfl⟩];split<;>omega
   ·rw[if_neg e];split<;>omega
structure pe (n:Nat) (c f:Nat->Nat->Int) (x y:Nat) (val:Int):Prop where
 le:∀u v,u<n->v<n->f u v<=c u v
 cut:∀S:Nat->Bool,S x=true->S y=false->nO n S f=val
theorem pe.zero {n:Nat} {c:Nat->Nat->Int} {x y:Nat} (h:∀u v,u<n->v<n->0<=c u v):pe n c (fun _ _=>0) x y 0:=
 ⟨h,fun S _ _=>me fun u hu=>me fun v hv=>by split<;>rfl⟩
theorem pe.aug {n:Nat} {c f:Nat->Nat->Int} {x y:Nat} {val:Int} (h:pe n c f x y val) {r:List Nat} (hl:(x::r).getLast (by simp)=y) (hn:(x::r).Nodup) (hr:tN f c (x::r)) (hb:∀v∈x::r,v<n):pe n c (nK f (x::r)) x y (val+1):=
 ⟨IB _ _ hn hr h.le,fun S hx hy=>by rw[El r x f hb,hl,h.cut S hx hy,hx,hy];simp[bi]⟩
theorem pe.bound {n:Nat} {c f:Nat->Nat->Int} {x y:Nat} {val:Int} (h:pe n c f x y val) {S:Nat->Bool} (hx:S x=true) (hy:S y=false):val<=nO n S c:=by
 rw[<-h.cut S hx hy];exact PE h.le
theorem pe.full {n:Nat} {c f:Nat->Nat->Int} {x y:Nat} {val:Int} (h:pe n c f x y val) {S:Nat->Bool} (hx:S x=true) (hy:S y=false) (hS:∀u v,u<n->v<n->S u=true->S v=false->¬f u v<c u v):val=nO n S c:=by
 rw[<-h.cut S hx hy]
 exact PD fun u v hu hv h1 h2=>by have:=hS u v hu hv h1 h2;have:=h.le u v hu hv;omega
structure PB where
 a:Nat
 b:Nat
 s:Int
 deriving Inhabited
def ij (bs:List PB) (i:Nat):PB:=bs.getD i default
def gO (S:Nat->Bool) (bs:List PB):Int:=(bs.map fun b=>if S b.a=S b.b then 0 else b.s).sum
def pC (c:Nat->Nat->Int) (b:PB):Nat->Nat->Int:=bump (bump c b.a b.b b.s) b.b b.a b.s
def mK (bs:List PB):Nat->Nat->Int:=bs.foldl pC fun _ _=>0
theorem HZ (bs:List PB) (b:PB):mK (bs++[b])=pC (mK bs) b:=by simp[mK]
theorem ED {n:Nat} {S:Nat->Bool}:∀(bs:List PB) (c:Nat->Nat->Int),(∀b∈bs,b.a<n/\b.b<n)->nO n S (bs.foldl pC c)=nO n S c+gO S bs
 |[],c,_=>by simp[gO]
 |b::bs,c,h=>by
  have hb:=h b (by simp)
  rw[List.foldl_cons,ED bs _ fun x hx=>h x (List.mem_cons_of_mem _ hx)]
  unfold pC gO
  rw[qS hb.2 hb.1,qS hb.1 hb.2,List.map_cons,List.sum_cons]
  cases S b.a<;>cases S b.b<;>simp<;>omega
theorem EE {n:Nat} {S:Nat->Bool} {bs:List PB} (h:∀b∈bs,b.a<n/\b.b<n):nO n S (mK bs)=gO S bs:=by
 rw[mK,ED bs _ h]
 have:nO n S (fun _ _=>0)=0:=me fun u hu=>me fun v hv=>by split<;>rfl
 omega
theorem Dv:∀(bs:List PB) (c:Nat->Nat->Int),(∀b∈bs,0<=b.s)->(∀u v,0<=c u v)->∀u v,0<=bs.foldl pC c u v
 |[],c,_,h=>h
 |b::bs,c,hb,h=>by
  rw[List.foldl_cons]
  refine Dv bs _ (fun x hx=>hb x (List.mem_cons_of_mem _ hx)) fun u v=>?_
  have:=hb b (by simp);have:=h u v
  unfold pC bump
  split<;>split<;>omega
theorem room_le:∀(bs:List PB) (c:Nat->Nat->Int) (m:Int),(∀b∈bs,b.s<=4)->(∀u v,c u v<=m)->0<=m->∀u v,bs.foldl pC c u v<=m+8*bs.length
 |[],c,m,_,h,_=>fun u v=>by have:=h u v;simp;omega
 |b::bs,c,m,hb,h,h0=>fun u v=>by
  rw[List.foldl_cons]
  have:=room_le bs (pC c b) (m+8) (fun x hx=>hb x (List.mem_cons_of_mem _ hx)) (fun u v=>by
   have:=hb b (by simp);have:=h u v
   unfold pC bump
   split<;>split<;>omega) ae u v
  simp only[List.length_cons];omega
def sK (n:Nat) (bs:List PB) (t:Int):Prop:=∀S:Nat->Bool,S 0=true->(∃y,y<n/\S y=false)->t<=gO S bs
def JT (S:Nat->Bool) (bs:List PB) (f:Nat->Int):Int:=jN (fun i=>f i*(bi (S (ij bs i).a)-bi (S (ij bs i).b))) bs.length
structure FlowB (bs:List PB) (f:Nat->Int) (x y:Nat) (val:Int):Prop where
 le:∀i,i<bs.length->f i<=(ij bs i).s/\-(ij bs i).s<=f i
 cut:∀S:Nat->Bool,S x=true->S y=false->JT S bs f=val
theorem Wu (S:Nat->Bool):∀bs:List PB,gO S bs=jN (fun i=>if S (ij bs i).a=S (ij bs i).b then 0 else(ij bs i).s) bs.length:=by
 intro bs
 have key:∀n,n<=bs.length->gO S (bs.take n)=jN (fun i=>if S (ij bs i).a=S (ij bs i).b then 0 else(ij bs i).s) n:=by
  intro n
  induction n with
  |zero=>intro _;rfl
  |succ n ih=>
   intro h
   have e:ij bs n=bs[n]:=by simp[ij,List.getD_eq_getElem?_getD,List.getElem?_eq_getElem (show n<bs.length by omega)]
   rw[List.take_succ_eq_append_getElem ae,jN,<-ih ae,e]
   unfold gO
   rw[List.map_append,List.sum_append]
   simp only[List.map_cons,List.map_nil,List.sum_cons,List.sum_nil,Int.add_zero]
 have:=key bs.length (Nat.le_refl _)
 rwa [List.take_length]at this
def Jn (bs:List PB) (f:Nat->Int) (i u:Nat):Int:=if (ij bs i).a=u then(ij bs i).s-f i else(ij bs i).s+f i
def jC (bs:List PB) (i u:Nat):Nat:=if (ij bs i).a=u then(ij bs i).b else(ij bs i).a
def R6 (bs:List PB) (f:Nat->Int) (i u:Nat):Nat->Int:=fun j=>f j+if j=i then(if (ij bs i).a=u then 1 else -1)else 0
theorem VJ {S:Nat->Bool} {bs:List PB} {f:Nat->Int} {i u:Nat} (hi:i<bs.length) (hu:(ij bs i).a=u∨(ij bs i).b=u):JT S bs (R6 bs f i u)=JT S bs f+bi (S u)-bi (S (jC bs i u)):=by
 unfold JT R6
 have e:∀j,j<bs.length->(f j+if j=i then(if (ij bs i).a=u then 1 else -1)else 0)*(bi (S (ij bs j).a)-bi (S (ij bs j).b))=(fun j=>f j*(bi (S (ij bs j).a)-bi (S (ij bs j).b))) j+if j=i then(if (ij bs i).a=u then 1 else -1)*(bi (S (ij bs i).a)-bi (S (ij bs i).b))else 0:=by
  intro j hj
  by_cases h:j=i
  ·subst h;simp only[if_true];rw[Int.add_mul]
  ·simp only[h,if_false];simp
 rw[ji e,lp,if_pos hi]
 unfold jC
 by_cases ha:(ij bs i).a=u
 ·rw[if_pos ha,if_pos ha,ha];omega
 ·rw[if_neg ha,if_neg ha]
  rcases hu with hu|hu
  ·exact absurd hu ha
  ·rw[hu];omega
theorem uD:∀(n:Nat) (l:List Nat),l.Nodup->(∀x∈l,x<n)->l.length<=n
 |0,l,_,h=>by
  cases l with
  |nil=>simp
  |cons x l=>exact absurd (h x (by simp)) ae
 |n+1,l,hn,h=>by
  have h1:=uD n (l.erase n) (hn.erase _) fun x hx=>by
   have h2:=(hn.mem_erase_iff).1 hx
   have h3:=h x h2.2
   have h4:=h2.1
   omega
  rw[List.length_erase]at h1
  split at h1<;>omega
def jb (L:Nat->Nat) (b:PB):Nat->Nat:=fun k=>if L k=max (L b.a) (L b.b)then min (L b.a) (L b.b)else L k
def fe (bs:List PB):Nat->Nat:=bs.foldl jb id
theorem HG (bs:List PB) (b:PB):fe (bs++[b])=jb (fe bs) b:=by simp[fe]
structure kK (L:Nat->Nat):Prop where
 le:∀k,L k<=k
 idem:∀k,L (L k)=L k
theorem kK.step {L:Nat->Nat} (h:kK L) (b:PB):kK (jb L b):=by
 have ha:=h.idem b.a
 have hb:=h.idem b.b
 refine⟨fun k=>?_,fun k=>?_⟩
 ·have:=h.le k
  unfold jb
  split<;>omega
 ·have hk:=h.idem k
  have hm:L (min (L b.a) (L b.b))=min (L b.a) (L b.b):=by
   rcases Nat.le_total (L b.a) (L b.b)with h1|h1
   ·rw[Nat.min_eq_left h1,ha]
   ·rw[Nat.min_eq_right h1,hb]
  unfold jb
  by_cases h1:L k=max (L b.a) (L b.b)
  ·rw[if_pos h1,hm];split<;>rfl
  ·rw[if_neg h1,hk,if_neg h1]
theorem zk:∀(bs:List PB) (L:Nat->Nat),kK L->kK (bs.foldl jb L)
 |[],_,h=>h
 |b::bs,L,h=>zk bs _ (h.step b)
theorem zj (bs:List PB):kK (fe bs):=zk bs id ⟨fun _=>Nat.le_refl _,fun _=>rfl⟩
def leads (n:Nat) (L:Nat->Nat):List Nat:=(List.range n).filter fun i=>L i==i
def members (n:Nat) (L:Nat->Nat) (i:Nat):List Nat:=(List.range n).filter fun k=>L k==i
def jI (n:Nat) (L:Nat->Nat):List (List Nat):=(leads n L).map (members n L)
def dV (L:Nat->Nat) (k:Nat):Nat:=(leads (L k) L).length
theorem jh (n:Nat) (L:Nat->Nat):leads (n+1) L=leads n L++if L n=n then[n]else[]:=by
 unfold leads
 rw[List.range_succ,List.filter_append]
 congr 1
 by_cases h:L n=n<;>simp[h]
theorem l8 (n:Nat) (L:Nat->Nat) (i:Nat):members (n+1) L i=members n L i++if L n=i then[n]else[]:=by
 unfold members
 rw[List.range_succ,List.filter_append]
 congr 1
 by_cases h:L n=i<;>simp[h]
theorem Dj {L:Nat->Nat} (h:kK L) {n i:Nat} (hn:n<=i):members n L i=[]:=by
 unfold members
 rw[List.filter_eq_nil_iff]
 intro k hk
 have:=h.le k
 have:=List.mem_range.1 hk
 simp;omega
theorem xg (n:Nat) (L:Nat->Nat):(leads n L).Nodup:=List.nodup_range.filter _
theorem wi {n:Nat} {L:Nat->Nat} {i:Nat}:i∈leads n L↔i<n/\L i=i:=by simp[leads]
theorem nj {n:Nat} {L:Nat->Nat} {i k:Nat}:k∈members n L i↔k<n/\L k=i:=by simp[members]
theorem KN {L:Nat->Nat} {m n:Nat} (h:m<=n):∃r,leads n L=leads m L++r:=by
 obtain⟨d,rfl⟩:=Nat.le.dest h
 clear h
 induction d with
 |zero=>exact⟨[],by simp⟩
 |succ d ih=>
  obtain⟨r,hr⟩:=ih
  exact⟨r++if L (m+d)=m+d then[m+d]else[],by rw[<-Nat.add_assoc,jh,hr,List.append_assoc]⟩
theorem nU {L:Nat->Nat} (h:kK L) {n k:Nat} (hk:k<n):(leads n L)[dV L k]? =some (L k):=by
 have h1:=h.le k
 obtain⟨r,hr⟩:=KN (L:=L) (show L k+1<=n by omega)
 rw[hr,jh,if_pos (h.idem k),List.append_assoc]
 unfold dV
 rw[List.getElem?_append_right (Nat.le_refl _),Nat.sub_self];rfl
theorem nZ {L:Nat->Nat} (h:kK L) {n k:Nat} (hk:k<n):dV L k<(leads n L).length:=(List.getElem?_eq_some_iff.1 (nU h hk)).1
theorem wv {L:Nat->Nat} (h:kK L) {n k i:Nat} (hk:k<n) (hi:i<(leads n L).length):k∈members n L (leads n L)[i]↔dV L k=i:=by
 rw[nj]
 have h1:=nU h hk
 rw[List.getElem?_eq_getElem (nZ h hk)]at h1
 injection h1 with h1
 constructor
 ·rintro⟨_,h2⟩
  rw[<-h1]at h2
  exact(List.getElem_inj (xg n L)).1 h2
 ·rintro rfl
  exact⟨hk,h1.symm⟩
def ep (L:Nat->Nat) (bs:List PB):List PB:=bs.filterMap fun b=>if dV L b.a=dV L b.b then none else some ⟨dV L b.a,dV L b.b,b.s⟩
def QS (L:Nat->Nat) (bs:List PB):List PB:=bs.filterMap fun b=>if dV L b.a=dV L b.b then none else some ⟨min (dV L b.a) (dV L b.b),max (dV L b.a) (dV L b.b),b.s⟩
theorem Dx (L:Nat->Nat) (bs:List PB) (b:PB):ep L (bs++[b])=ep L bs++if dV L b.a=dV L b.b then[]else[⟨dV L b.a,dV L b.b,b.s⟩]:=by
 unfold ep
 rw[List.filterMap_append]
 congr 1
 by_cases h:dV L b.a=dV L b.b<;>simp[h]
theorem nN (S:Nat->Bool) (b:PB) (bs:List PB):gO S (b::bs)=(if S b.a=S b.b then 0 else b.s)+gO S bs:=by simp[gO]
theorem H5 {L:Nat->Nat} (h:kK L) {n:Nat} {bs:List PB} (hb:∀b∈bs,b.a<n/\b.b<n):∀b∈ep L bs,b.a<(leads n L).length/\b.b<(leads n L).length/\b.a≠b.b/\∃c∈bs,b.s=c.s:=by
 intro b hm
 unfold ep at hm
 obtain⟨c,hc,he⟩:=List.mem_filterMap.1 hm
 split at he
 ·cases he
 ·rename_i iI
  simp only[Option.some.injEq]at he
  subst he
  exact⟨nZ h (hb c hc).1,nZ h (hb c hc).2,iI,c,hc,rfl⟩
theorem Ac (L:Nat->Nat) (bs:List PB):(ep L bs).length<=bs.length/\(QS L bs).length<=bs.length:=⟨List.length_filterMap_le ..,List.length_filterMap_le ..⟩
theorem nV (n:Nat) (L:Nat->Nat):(leads n L).length<=n:=by
 have:=List.length_filter_le (fun i=>L i==i) (List.range n)
 simpa[leads]using this
def bW (t:Int) (bs:List PB):List PB:=bs.filter fun b=>decide (t<=b.s)
def lu (n:Nat) (bs:List PB) (t:Int):Prop:=
 (leads n (fe (bW t bs))).length<=64/\sK (leads n (fe (bW t bs))).length (ep (fe (bW t bs)) bs) t
end Go.Proofs.YtainmfbpilopaaaGreatDoor.V

namespace Go.Proofs.YtainmfbpilopaaaGreatDoor.V
open Go.RowKit
attribute [local irreducible] ea wpOps fB Call
def di (b:PB):List AV:=[.int .i64 b.a,.int .i64 b.b,.int .i64 b.s]
theorem Ys:∀b:PB,(di b).length=3/\(di b).all AV.cell=true:=fun _=>⟨rfl,rfl⟩
theorem CP (g:Rows) (n:Nat) (b:PB):eI g (n+1) (di b)=some (di b):=by simp[di,aq,ar,aV]
theorem IT (g:Rows) (n:Nat) (b:PB):eY g (n+1) (di b)=some (di b):=by simp[di,bx,cw,ej]
theorem Mr:Wd di (fun c=>.agg (di c)) 3 true:=⟨fun _=>rfl,fun _=>rfl,fun x g=>by simp only[di,aq,ar,bp,aV,Option.map_some]⟩
def gi (s:az) (l:List aa) (i:Nat) (d:Int):List PB:=
 if 0<=dm l (bc (aA l i).aI d)/\0<gh s (aA l i).aY d (aA l (dm l (bc (aA l i).aI d)).toNat).aY then
  [⟨i,(dm l (bc (aA l i).aI d)).toNat,gh s (aA l i).aY d (aA l (dm l (bc (aA l i).aI d)).toNat).aY⟩]else[]
def gQ (s:az) (l:List aa) (i m:Nat):List PB:=(List.range m).flatMap fun j:Nat=>gi s l i (1-(j:Int))
def lv (s:az) (l:List aa) (n:Nat):List PB:=(List.range n).flatMap fun i=>gQ s l i 2
def dg (s:az) (l:List aa):List PB:=lv s l l.length
theorem jF (s:az) (l:List aa) (i m:Nat):gQ s l i (m+1)=gQ s l i m++gi s l i (1-(m:Int)):=by simp[gQ,List.range_succ]
theorem CB (s:az) (l:List aa) (n:Nat):lv s l (n+1)=lv s l n++gQ s l n 2:=by simp[lv,List.range_succ]
theorem GY (s:az) (l:List aa) (i:Nat) (d:Int):(gi s l i d).length<=1:=by unfold gi;split<;>simp
theorem Cz (s:az) (l:List aa) (i m:Nat):(gQ s l i m).length<=m:=by
 induction m with
 |zero=>simp[gQ]
 |succ m ih=>rw[jF,List.length_append];have:=GY s l i (1-(m:Int));omega
theorem Es (s:az) (l:List aa) (n:Nat):(lv s l n).length<=2*n:=by
 induction n with
 |zero=>simp[lv]
 |succ n ih=>rw[CB,List.length_append];have:=Cz s l n 2;omega
def sB:Id->Prop:=fun o=>o.site=193001000∨o.site=193012006
def gZ (f:Nat->Nat) (n:Nat):List (List AV):=(List.range n).map fun i=>eN (f i)
theorem kz (f:Nat->Nat) (n:Nat):(gZ f n).length=n:=by simp[gZ]
theorem jQ {f:Nat->Nat} {n i:Nat} (h:i<n):(gZ f n)[i]? =some (eN (f i)):=by simp[gZ,h]
theorem mg {f g:Nat->Nat} {n:Nat} (h:∀i,i<n->f i=g i):gZ f n=gZ g n:=List.map_congr_left fun i hi=>by rw[h i (List.mem_range.1 hi)]
theorem xZ {f g:Nat->Nat} {n k v:Nat} (hk:k<n) (hv:g k=v) (h:∀i,i<n->i≠k->g i=f i):(gZ f n).set k (eN v)=gZ g n:=by
 refine List.ext_getElem? fun i=>?_
 rw[List.getElem?_set]
 by_cases hi:k=i
 ·subst hi
  rw[if_pos rfl,kz,if_pos hk,jQ hk,hv]
 ·rw[if_neg hi]
  by_cases gV:i<n
  ·rw[jQ gV,jQ gV,h i gV (fun h=>hi h.symm)]
  ·rw[List.getElem?_eq_none (by rw[kz];omega),List.getElem?_eq_none (by rw[kz];omega)]
theorem Gh (n:Nat):List.replicate n [AV.int .i64 0]=gZ (fun _=>0) n:=by
 refine List.ext_getElem? fun i=>?_
 by_cases h:i<n
 ·rw[jQ h,List.getElem?_replicate,if_pos h];rfl
 ·rw[List.getElem?_eq_none (by simp;omega),List.getElem?_eq_none (by rw[kz];omega)]
def eR (cnt:Nat) (L:Nat->Nat) (i m:Nat):Nat->Nat:=fun x=>if dV L x<i then dV L x else if x∈(members cnt L ((leads cnt L).getD i 0)).take m then i else 0
theorem xi (cnt:Nat) (L:Nat->Nat):eR cnt L 0 0=fun _=>0:=by funext x;simp[eR]
theorem Ge (t:Int) (bs:List PB) (k:Nat) (h:k<bs.length):bW t (bs.take (k+1))=bW t (bs.take k)++if t<=(bs[k]).s then[bs[k]]else[]:=by
 unfold bW
 rw[List.take_succ_eq_append_getElem h,List.filter_append]
 congr 1
 by_cases h:t<=bs[k].s<;>simp[h]
theorem Ie {t:Int} {bs:List PB} {b:PB} (h:b∈bW t bs):b∈bs:=(List.mem_filter.1 h).1
theorem Af (t:Int) (bs:List PB):(bW t bs).length<=bs.length:=List.length_filter_le _ _
end Go.Proofs.YtainmfbpilopaaaGreatDoor.V

namespace Go.Proofs.YtainmfbpilopaaaGreatDoor.V
def OP (bs:List PB) (e v:Nat):Prop:=(ij bs e).a=v∨(ij bs e).b=v
def Qh (bs:List PB) (m v:Nat):List Nat:=(List.range m).filter fun i=>(ij bs i).a==v||(ij bs i).b==v
theorem XN {bs:List PB} {m v e:Nat}:e∈Qh bs m v↔e<m/\OP bs e v:=by simp[Qh,OP]
def LY (cnt:Nat) (bs:List PB):Prop:=∀e,e<bs.length->(ij bs e).a<cnt/\(ij bs e).b<cnt/\(ij bs e).a≠(ij bs e).b
theorem XZ {cnt:Nat} {bs:List PB} (h:LY cnt bs) {e v:Nat} (he:e<bs.length):jC bs e v<cnt:=by
 have:=h e he;unfold jC;split;exact this.2.1;exact this.1
theorem X0 {cnt:Nat} {bs:List PB} (h:LY cnt bs) {e v:Nat} (he:e<bs.length) (hi:OP bs e v):jC bs e v≠v:=by
 have h1:=(h e he).2.2
 unfold jC
 split
 ·rename_i ha;rw[<-ha];exact fun h=>h1 h.symm
 ·rename_i ha;rcases hi with hi|hi
  ·exact absurd hi ha
  ·rw[<-hi];exact h1
theorem Wa {bs:List PB} {e v:Nat}:OP bs e (jC bs e v):=by
 unfold jC OP;split
 ·exact .inr rfl
 ·exact .inl rfl
theorem R4 {cnt:Nat} {bs:List PB} (h:LY cnt bs) {e v:Nat} (he:e<bs.length) (hi:OP bs e v):jC bs e (jC bs e v)=v:=by
 have h1:=(h e he).2.2
 unfold jC
 by_cases ha:(ij bs e).a=v
 ·rw[if_pos ha,if_neg h1];exact ha
 ·rw[if_neg ha,if_pos rfl]
  rcases hi with hi|hi
  ·exact absurd hi ha
  ·exact hi
structure ZH (cnt:Nat) (bs:List PB) (f:Nat->Int) (y:Nat) (out:Nat->Int):Prop where
 lo:∀v,v<cnt->-1<=out v/\out v<=cnt
 first:out y=0
 zero:∀v,v<cnt->out v=0->v=y
 down:∀v,v<cnt->0<out v->∃e,e<bs.length/\OP bs e v/\0<Jn bs f e v/\out (jC bs e v)=out v-1
 shut:∀e v,e<bs.length->OP bs e v->0<=out (jC bs e v)->0<Jn bs f e v->0<=out v
structure Bfs (cnt:Nat) (bs:List PB) (f:Nat->Int) (y:Nat) (out:Nat->Int) (Q:List Nat) (i:Nat):Prop where
 nd:Q.Nodup
 lt:∀x∈Q,x<cnt
 iff:∀v,v<cnt->(0<=out v↔v∈Q)
 lo:∀v,v<cnt->-1<=out v
 first:out y=0
 up:∀j (h:j<Q.length),out Q[j]<=j
 zero:∀v,v<cnt->out v=0->v=y
 down:∀v,v<cnt->0<out v->∃e,e<bs.length/\OP bs e v/\0<Jn bs f e v/\out (jC bs e v)=out v-1
 shut:∀j (h:j<Q.length),j<i->∀e,e<bs.length->OP bs e Q[j]->0<Jn bs f e (jC bs e Q[j])->0<=out (jC bs e Q[j])
section
variable {cnt:Nat} {bs:List PB} {f:Nat->Int} {y:Nat} {out:Nat->Int} {Q:List Nat} {i:Nat}
end
end Go.Proofs.YtainmfbpilopaaaGreatDoor.V

namespace Go.Proofs.YtainmfbpilopaaaGreatDoor.V
open Go.RowKit
def AV.clean:AV->Bool
 | .int .. | .bool _| .str _| .bj| .iU| .jV| .j6| .jB| .own .. | .ptr .. | .map .. | .tX _=>true
 | .sl l=>l.isEmpty
 |_=>false
def AV.CF:AV->Bool
 | .agg cs=>cs.all AV.clean
 | .fP cs=>cs.all fun a=>match a with
  | .agg cs=>cs.all AV.clean
  |a=>a.clean
 |a=>a.clean
def Ce (ids:List Id) (g g':Rows):Rows:=fun id=>if id∈ids then g' id else g id
theorem uU {ids:List Id} {g g':Rows} {id:Id} (h:id∈ids):Ce ids g g' id=g' id:=if_pos h
theorem om {ids:List Id} {g g':Rows} {id:Id} (h:id∉ids):Ce ids g g' id=g id:=if_neg h
section
variable {P:Program} {w w':World} {D D' D1 D2:Nat->Prop} {ι ι1 ι2:Names}
theorem lj {a:AV} {v:Value} (hp:a.clean=true) (h:du P w D1 ι1 a v):du P w D2 ι1 a v:=by
 cases h with
 |eX a v h=>
  cases h with
  |int=>exact .eX _ _ (.int _ _)
  |bool=>exact .eX _ _ (.bool _)
  |str=>exact .eX _ _ (.str _)
  |bj=>exact .eX _ _ .bj
  |iU=>exact .eX _ _ .iU
  |jV=>exact .eX _ _ .jV
  |j6=>exact .eX _ _ .j6
  |jB=>exact .eX _ _ .jB
  |err=>simp[AV.clean]at hp
  |D6 a c h=>exact .eX _ _ (.D6 a c h)
  |sl rows b o n c sz vs h1 h2 h3=>
   have:rows=[]:=by simpa[AV.clean]using hp
   subst this
   simp only[List.length_nil]at h1
   subst h1
   exact .eX _ _ (.D6 _ _ h3)
  |ef=>simp[AV.clean]at hp
  |agg=>simp[AV.clean]at hp
  |fn=>simp[AV.clean]at hp
 |own id off len o cap B h1 h2 h3 h4 h5 h6=>exact .own id off len o cap B h1 h2 h3 h4 h5 h6
 |map id m B h1 h2=>exact .map id m B h1 h2
 |tX id c B h1 h2=>exact .tX id c B h1 h2
 |ptr id i off B h1 h2=>exact .ptr id i off B h1 h2
 |agg=>simp[AV.clean]at hp
 |fP=>simp[AV.clean]at hp
 |fn=>simp[AV.clean]at hp
 |xh=>simp[AV.clean]at hp
theorem nA {cs:List AV} {v:Value} (hc:cs.all AV.clean=true) (h:du P w D1 ι1 (.agg cs) v):du P w D2 ι1 (.agg cs) v:=by
 obtain⟨vs,f,rfl,h1,h2,h3,h4⟩:=jo h
 rw[List.all_eq_true]at hc
 exact .agg cs vs f h1 h2 h3 fun j a ha=>lj (hc a (List.mem_of_getElem? ha)) (h4 j a ha)
theorem HW {a:AV} {v:Value} (hp:a.CF=true) (h:du P w D1 ι1 a v):du P w D2 ι1 a v:=by
 cases a with
 |agg cs=>exact nA hp h
 |fP cs=>
  obtain⟨vs,f,rfl,h1,h3,h4⟩:=xX h
  simp only[AV.CF,List.all_eq_true]at hp
  refine .fP cs vs f h1 h3 fun j a ha=>?_
  have:=hp a (List.mem_of_getElem? ha)
  split at this
  ·exact nA this (h4 j _ ha)
  ·exact lj this (h4 j _ ha)
 |_=>exact lj hp h
theorem HU {ag:Bool} {n:Nat} {cs:List AV} {x:AV} {v:Value} (hc:∀a∈cs,a.clean=true) (hp:part ag n cs=some x) (hr:du P w D1 ι1 x v):du P w D2 ι1 x v:=by
 unfold part at hp
 split at hp
 ·split at hp
  ·simp only[Option.some.injEq]at hp;subst hp
   exact nA (List.all_eq_true.2 fun a ha=>hc a (List.mem_of_mem_take ha)) hr
  ·cases hp
 ·exact lj (hc x (List.mem_of_mem_head? hp)) hr
theorem iM.clean {B:vz} {r:Row} (R:iM P w D1 ι1 B r) (h:∀cs∈r.rows,∀a∈cs,a.clean=true):iM P w D2 ι1 B r:=
 ⟨R.sz,R.flat,fun hk=>⟨R.sz,(R.row hk).vd,(R.row hk).fits,(R.row hk).len,R.flat,fun i j cs a hi hj=>by
  obtain⟨v,q1,q2⟩:=(R.row hk).at_ i j cs a hi hj
  exact⟨v,q1,lj (h cs (List.mem_of_getElem? hi) a (List.mem_of_getElem? hj)) q2⟩⟩,fun m hm=>by
  obtain⟨h1,es,c,h2,h3,h5,h4⟩:=R.map m hm
  refine⟨h1,es,c,h2,h3,h5,fun i cs hi=>?_⟩
  obtain⟨e,kv,vv,q1,q2,q3,q4,q5⟩:=h4 i cs hi
  have hc:=h cs (List.mem_of_getElem? hi)
  exact⟨e,kv,vv,q1,q2,q3,HU hc q2 q4,lj (hc vv (List.mem_of_getElem? q3)) q5⟩,fun c hc=>by
  obtain⟨h1,buf,s,q,h2,h3,h4⟩:=R.chan c hc
  refine⟨h1,buf,s,q,h2,h3,fun i cs hi=>?_⟩
  obtain⟨a,u,rfl,q2,q3⟩:=h4 i cs hi
  exact⟨a,u,rfl,q2,lj (h [a] (List.mem_of_getElem? hi) a (by simp)) q3⟩⟩
def Handed (ids:List Id) (g:Rows):Prop:=∀id∈ids,∃r,g id=some r/\r.w=true/\∀cs∈r.rows,∀a∈cs,a.clean=true
theorem Lo {f:Nat} {args args':List AV} {g:Rows} {n:Nat} {K:AV->ax->Prop} (hv:eI (eD g) 6 args=some args')
  (h:Sound P f args' ⟨fun _=>none,n⟩ fun r σ'=>∃ids,r.CF=true/\Handed ids σ'.get/\K r ⟨Ce ids g σ'.get,σ'.next⟩):Sound P f args ⟨g,n⟩ K:=by
 intro hs D ι w vs S U A
 let E:Nat->Prop:=fun b=>D b∨∃id r B,g id=some r/\ι id=some B/\b=B.b
 have lt:∀id r B,g id=some r->ι id=some B->B.b<w.heap.size:=fun id r B h1 h2=>by
  obtain⟨B',eA,R,_⟩:=S.row id r h1
  rw[h2]at eA;injection eA with eA;subst eA
  exact R.lt
 have S0:ig P w.heap.size E ι (fun _=>none) w:=⟨Nat.le_refl _,fun b hb=>by
  rcases hb with hb|⟨id,r,B,h1,h2,rfl⟩
  ·exact S.dead b hb
  ·exact lt id r B h1 h2,fun id r h=>(by cases h),fun id lG r r' B B' h=>(by cases h)⟩
 obtain⟨l1,l2⟩:=iE hv
 have A':fY P w E ι args' vs:=⟨by rw[A.1,l1],fun j a hj=>by
  obtain⟨a0,mT,hz⟩:=l2 j a hj
  obtain⟨u,hu,hr⟩:=A.2 j a0 mT
  refine⟨u,hu,(ug (D2:=E) (ι2:=ι) (fun b h=>.inl h) (fun id row hg hw=>?_) 6 a0 u a hr hz).1⟩
  unfold eD at hg
  simp only[Option.map_eq_some_iff]at hg
  obtain⟨r,pR,rfl⟩:=hg
  obtain⟨B,hB,R,_,_⟩:=S.row id r pR
  exact⟨B,hB,R.flag true,.inr ⟨id,r,B,pR,hB,rfl⟩⟩⟩
 refine(h w.heap.size E ι w vs S0 U A').mono ?_
 rintro e w' ⟨r0,g',n',D2,ι1,u,rfl,⟨ids,pP,hid,hK⟩,T,S1,U1,hn,hR⟩
 have hb:∀b,b<w.heap.size->w'.heap[b]? =w.heap[b]? :=T.below.block
 have hz:=T.below.size
 have frame:∀{a v},du P w D ι a v->du P w' D ι1 a v:=fun h=>h.frame (fun b hd=>hb b (S.dead b hd)) (fun _ h=>h) T.names
 refine⟨r0,_,n',D,ι1,u,rfl,hK,⟨T.below.mono S.lo,fun b hd=>hb b (S.dead b hd),fun _ h=>h,T.names,fun _ h=>.inl h⟩,⟨Nat.le_trans S.lo hz,fun b hd=>Nat.lt_of_lt_of_le (S.dead b hd) hz,fun id r hr=>?_,fun XL id2 r1 r2 B1 B2 h1 h2 hw DR lx Gu=>?_⟩,U1,hn,HW pP hR⟩
 ·by_cases hi:id∈ids
  ·rw[uU hi]at hr
   obtain⟨r',pR,hw,hcr⟩:=hid id hi
   rw[hr]at pR;injection pR with pR;subst pR
   obtain⟨B,hB,R,k1,k2⟩:=S1.row id r hr
   have lW:=k1 hw
   exact⟨B,hB,R.clean hcr,fun _=>Nat.le_trans S.lo lW,fun _ hd=>Nat.lt_irrefl _ (Nat.lt_of_lt_of_le (S.dead _ hd) lW)⟩
  ·rw[om hi]at hr
   obtain⟨B,hB,R,k1,k2⟩:=S.row id r hr
   have LB:=lt id r B hr hB
   exact⟨B,T.names _ _ hB,R.frame (hb _ LB) fun a v h=>frame h,k1,k2⟩
 ·have new:∀{id r B},id∈ids->Ce ids g g' id=some r->ι1 id=some B->w.heap.size<=B.b/\g' id=some r/\r.w=true:=fun {id r B} hi hr hB=>by
   rw[uU hi]at hr
   obtain⟨r',pR,hw,_⟩:=hid id hi
   replace pR:g' id=some r':=pR
   rw[hr]at pR;injection pR with pR;subst pR
   obtain⟨B',eA,_,k1,_⟩:=S1.row id r hr
   rw[hB]at eA;injection eA with eA;subst eA
   exact⟨k1 hw,hr,hw⟩
  have DZ:∀{id r B},id∉ids->Ce ids g g' id=some r->ι1 id=some B->B.b<w.heap.size/\g id=some r/\ι id=some B:=fun {id r B} hi hr hB=>by
   rw[om hi]at hr
   obtain⟨B',eA,_⟩:=S.row id r hr
   have:=T.names _ _ eA
   rw[hB]at this;injection this with this;subst this
   exact⟨lt id r _ hr eA,hr,eA⟩
  by_cases i1:XL∈ids
  ·obtain⟨a1,a2,a3⟩:=new i1 h1 DR
   by_cases i2:id2∈ids
   ·obtain⟨b1,b2,b3⟩:=new i2 h2 lx
    exact S1.inj XL id2 r1 r2 B1 B2 a2 b2 hw DR lx Gu
   ·obtain⟨b1,_⟩:=DZ i2 h2 lx
    omega
  ·obtain⟨a1,a2,a3⟩:=DZ i1 h1 DR
   by_cases i2:id2∈ids
   ·obtain⟨b1,_⟩:=new i2 h2 lx
    omega
   ·obtain⟨b1,b2,b3⟩:=DZ i2 h2 lx
    exact S.inj XL id2 r1 r2 B1 B2 a2 b2 hw a3 b3 Gu
theorem D8 (hm:P.follows .mixedOrders=true) {f:Nat} {args args':List AV} {σ:ax} {K:AV->ax->Prop} (hv:eI (eD σ.get) 6 args=some args')
  (h:Call P f args' ⟨fun _=>none,σ.next⟩ fun r σ'=>∃ids,r.CF=true/\Handed ids σ'.get/\K r ⟨Ce ids σ.get σ'.get,σ'.next⟩):Call P f args σ K:=
 fG (Lo hv (iP hm h))
end
end Go.Proofs.YtainmfbpilopaaaGreatDoor.V

namespace Go.Proofs.YtainmfbpilopaaaGreatDoor.V
open Go.RowKit
attribute [local irreducible] ea wpOps fB Call
def kb (P:Program) (f:Nat) (args:List AV) (R:AV->Prop):Prop:=∀n:Nat,Call P f args ⟨fun _=>none,n⟩ fun r0 σ'=>∃r',iu σ'.get 6 r0=some r'/\R r'
theorem J6 {P:Program} {f:Nat} {args args':List AV} {g:Rows} {n:Nat} {R:AV->Prop} (hv:eI (eD g) 6 args=some args') (h:Sound P f args' ⟨fun _=>none,n⟩ fun r0 σ'=>∃r',iu σ'.get 6 r0=some r'/\R r'):Sound P f args ⟨g,n⟩ fun r σ'=>R r/\σ'=⟨g,n⟩:=by
 intro hs D ι w vs S U A
 refine(Bd (g0:=g) (K:=R) ⟨args',hv,h⟩ (fun _ _ h=>h) S U A).mono ?_
 rintro e w' ⟨r,D',u,rfl,hR,T,S',hr⟩
 exact⟨r,g,n,D',ι,u,rfl,⟨hR,rfl⟩,T,S',U,Nat.le_refl _,hr⟩
theorem kb.x {P:Program} (hm:P.follows .mixedOrders=true) {f:Nat} {args args':List AV} {R:AV->Prop} (h:kb P f args' R) {σ:ax} (hv:eI (eD σ.get) 6 args=some args'):Call P f args σ fun r σ'=>R r/\σ'=σ:=
 fG (J6 hv (iP hm (h σ.next)))
theorem kb.body {P:Program} {f:Nat} {args:List AV} {R:AV->Prop} {nt na:Nat} {body:VC} {res:List rL} (hf:CC P f=some ⟨nt,na,body,res⟩) (ha:na=args.length) (h:(∀a∈args,ft a)->∀n:Nat,ea (Call P) body (oe res fun r0 σ'=>∃r',iu σ'.get 6 r0=some r'/\R r') (cj args) ⟨fun _=>none,n⟩):kb P f args R:=fun n=>qM hf ha fun hl=>h hl n
def iL (f:Nat->Int) (n:Nat):List (List AV):=(List.range n).map fun i=>aM (f i)
theorem gp (f:Nat->Int) (n:Nat):(iL f n).length=n:=by simp[iL]
theorem gH {f:Nat->Int} {n i:Nat} (h:i<n):(iL f n)[i]? =some (aM (f i)):=by simp[iL,h]
theorem Aj {f g:Nat->Int} {n k:Nat} {v:Int} (hk:k<n) (hv:g k=v) (h:∀i,i<n->i≠k->g i=f i):(iL f n).set k (aM v)=iL g n:=by
 refine List.ext_getElem? fun i=>?_
 rw[List.getElem?_set]
 by_cases hi:k=i
 ·subst hi
  rw[if_pos rfl,gp,if_pos hk,gH hk,hv]
 ·rw[if_neg hi]
  by_cases gV:i<n
  ·rw[gH gV,gH gV,h i gV (fun h=>hi h.symm)]
  ·rw[List.getElem?_eq_none (by rw[gp];omega),List.getElem?_eq_none (by rw[gp];omega)]
theorem fzI (g:Rows) (n:Nat) (a:Int):eI g (n+1) (aM a)=some (aM a):=by simp[aM,aq,ar,aV]
theorem S4 (g:Rows) (n:Nat) (a:Int):eY g (n+1) (aM a)=some (aM a):=by simp[aM,bx,cw,ej]
theorem QZ {g:Rows} {f:Nat->Int} {n m:Nat}:fF g (m+1) (iL f n)=some (iL f n):=by
 have:iL f n=((List.range n).map f).map aM:=by simp[iL]
 rw[this];exact sZ fun x=>fzI g m x
def slN (l:List Nat):AV:=if l=[]then .bj else .sl (l.map eN)
def SA (cnt:Nat) (bs:List PB) (m:Nat):List (List AV):=(List.range cnt).map fun v=>[slN (Qh bs m v)]
def eNet (cnt:Nat) (bs:List PB) (f:Nat->Int):List AV:=[.int .i64 cnt,.sl (bs.map di),.sl (SA cnt bs bs.length),.sl (iL f bs.length)]
def Small (bs:List PB) (f:Nat->Int):Prop:=∀e,e<bs.length->(0<=(ij bs e).s/\(ij bs e).s<=4)/\-4<=f e/\f e<=4
end Go.Proofs.YtainmfbpilopaaaGreatDoor.V

namespace Go.Proofs.YtainmfbpilopaaaGreatDoor.V
open Go.RowKit
attribute [local irreducible] ea wpOps fB Call
attribute [local go_sem] aL fq eB fC fA dj upd cj K.av cH AV.cells AV.cell rowOf rowsOf part ld rowAt fQ bI bY dp dI fU bJ cY dS fu eP dh dL cW cV dy dz bP aW cK bL cP cL dF dM dK cJ bU cX dJ bK aJ cR cu fS br cF bQ aU de bd dv AV.undef bt bF dD dH dr dq cD dR dU cq dQ dP cQ cU List.getD_cons_zero List.getD_cons_succ List.getD_nil List.all_cons List.all_nil Bool.and_true Bool.true_and Bool.and_self Bool.not_true Bool.not_false Option.map_some Option.map_none Option.bind_some Option.bind_none List.length_cons List.length_nil List.take_succ_cons List.take_zero List.take_nil List.drop_succ_cons List.drop_zero List.drop_nil List.head?_cons List.map_cons List.map_nil List.getElem?_cons_zero List.getElem?_cons_succ List.cons_append List.nil_append List.append_nil List.length_map List.set_cons_zero List.set_cons_succ eq_self Int.toNat_natCast Int.natCast_nonneg and_self true_and and_true decide_true decide_false Bool.false_eq_true Nat.zero_add Nat.add_zero List.contains_cons List.contains_nil Bool.or_false Bool.false_or beq_self_eq_true ne_eq not_true_eq_false not_false_eq_true Id.mk.injEq false_and and_false Nat.le_refl List.length_append beq_true beq_false Bool.not_eq_eq_eq_not or_false false_or eD aq ar aV aX bV cz aQ bp aP aZ cI bz
def ZA:ON (List Nat):=fun g cs x ids=>(x=[]/\cs=[.bj]/\ids=[])∨∃id,cs=[.own id 0 x.length]/\0<x.length/\g id=some ⟨true,1,x.map eN⟩/\ids=[id]
theorem lsnOk:D9 ZA 1 where
 frame:=fun h hf=>by
  rcases h with h|⟨id,h1,h0,h2,h3⟩
  ·exact .inl h
  ·subst h3;exact .inr ⟨id,h1,h0,(hf id (by simp)).trans h2,rfl⟩
 len:=fun h=>by rcases h with⟨_,h,_⟩|⟨id,h,_⟩<;>subst h<;>rfl
 cell:=fun h=>by rcases h with⟨_,h,_⟩|⟨id,h,_⟩<;>subst h<;>rfl
 live:=fun h i hi=>by
  rcases h with⟨_,_,h⟩|⟨id,h1,h0,h2,h3⟩
  ·subst h;cases hi
  ·subst h3
   have:i=id:=by simpa using hi
   subst this
   exact⟨_,h2,rfl,by simp[xE]⟩
 small:=by simp[xE]
theorem iw.repl {α:Type} {R:ON α} {sz:Nat} {g:Rows} {rows:List (List AV)} {xs:List α} {ids:List Id} (ok:D9 R sz) (h:iw R g rows xs ids) (sD:ids.Nodup) (k:Nat) (hk:k<xs.length):
  ∃cs ic,rows[k]? =some cs/\R g cs xs[k] ic/\(∀i∈ic,i∈ids)/\∀(g':Rows) tZ x' V6,R g' tZ x' V6->(∀i∈ids,i∉ic->g' i=g i)->V6.Nodup->(∀i∈V6,i∉ids)->∃Nh,iw R g' (rows.set k tZ) (xs.set k x') Nh/\Nh.Nodup/\∀i∈Nh,i∈V6∨i∈ids:=by
 obtain⟨r1,cs,r2,i1,ic,i2,rfl,rfl,rfl,h3,h4,h5⟩:=h.split k hk
 obtain⟨n1,n2,n3⟩:=List.nodup_append.1 sD
 obtain⟨nc,n5,n4⟩:=List.nodup_append.1 n2
 refine⟨cs,ic,by simp,h4,fun i hi=>by simp[hi],fun g' tZ x' V6 hR hf hn' lS=>⟨i1++(V6++i2),?_,?_,fun i hi=>?_⟩⟩
 ·have e:xs.set r1.length x'=xs.take r1.length++x'::xs.drop (r1.length+1):=by rw[List.set_eq_take_append_cons_drop,if_pos hk]
  have e2:(r1++cs::r2).set r1.length tZ=r1++tZ::r2:=by simp
  rw[e,e2]
  refine(h3.frame ok fun i hi=>hf i (by simp[hi]) fun hc=>n3 i hi i (by simp[hc]) rfl).app (.cons hR (h5.frame ok fun i hi=>hf i (by simp[hi]) fun hc=>n4 i hc i hi rfl))
 ·rw[List.nodup_append,List.nodup_append]
  refine⟨n1,⟨hn',n5,fun x hx y hy he=>?_⟩,fun x hx y hy he=>?_⟩
  ·subst he;exact lS x hx (by simp[hy])
  ·subst he
   rcases List.mem_append.1 hy with hy|hy
   ·exact lS x hy (by simp[hx])
   ·exact n3 x hx x (by simp[hy]) rfl
 ·rcases List.mem_append.1 hi with hi|hi
  ·exact .inr (by simp[hi])
  ·rcases List.mem_append.1 hi with hi|hi
   ·exact .inl hi
   ·exact .inr (by simp[hi])
def ZC (A:Id) (lo:Nat) (L:List (List Nat)) (g:Rows) (nx:Nat):Prop:=∃rows ids,g A=some ⟨true,1,rows⟩/\iw ZA g rows L ids/\ids.Nodup/\∀i∈ids,lo<i.bq/\i.bq<nx
def Uj (cnt:Nat) (bs:List PB) (A F:Id):List AV:=[.int .i64 cnt,.sl (bs.map di),.own A 0 cnt,.own F 0 bs.length]
def T5 (cnt:Nat) (bs:List PB) (m:Nat):List (List Nat):=(List.range cnt).map fun v=>Qh bs m v
theorem XM (cnt:Nat) (bs:List PB) (m:Nat):(T5 cnt bs m).length=cnt:=by simp[T5]
structure NetS (cnt:Nat) (bs:List PB) (f:Nat->Int) (X A F:Id) (g:Rows) (nx:Nat):Prop where
 x:g X=some ⟨true,4,[Uj cnt bs A F]⟩
 a:ZC A F.bq (T5 cnt bs bs.length) g nx
 f:g F=some ⟨true,1,iL f bs.length⟩
 xa:X.bq<A.bq
 af:A.bq<F.bq
 fn:F.bq<nx
theorem yU {α:Type} {l:List α} {k:Nat} {x:α} (h:l[k]? =some x) (hk:k<l.length):l[k]=x:=by
 rw[List.getElem?_eq_getElem hk]at h;exact Option.some.inj h
end Go.Proofs.YtainmfbpilopaaaGreatDoor.V

namespace Go.Proofs.YtainmfbpilopaaaGreatDoor.V
open Go.RowKit
attribute [local irreducible] ea wpOps fB Call
structure OnWay (bs:List PB) (out:Nat->Int) (f f':Nat->Int) (x v:Nat):Prop where
 le:∀i,i<bs.length->f' i<=(ij bs i).s/\-(ij bs i).s<=f' i
 cut:∀S:Nat->Bool,JT S bs f'=JT S bs f+bi (S x)-bi (S v)
 DZ:∀e,e<bs.length->out (ij bs e).a<=out v->out (ij bs e).b<=out v->f' e=f e
section
variable {cnt:Nat} {bs:List PB} {out:Nat->Int} {f f':Nat->Int} {x v y:Nat}
end
def A6 (P:Program) (f:Nat) (args:List AV) (R:AV->Prop):Prop:=∀σ:ax,Call P f args ⟨V.ro σ.get,σ.next⟩ fun r0 σ'=>∃r',V.fz σ'.get 6 r0=some r'/\R r'
theorem SZ {P:Program} {f:Nat} {args:List AV} {g:Rows} {n:Nat} {R:AV->Prop} (h:Sound P f args ⟨V.ro g,n⟩ fun r0 σ'=>∃r',V.fz σ'.get 6 r0=some r'/\R r'):Sound P f args ⟨g,n⟩ fun r σ'=>R r/\σ'=⟨g,n⟩:=by
 intro hs D ι w vs S U A
 refine(Ef (g0:=g) (K:=R) h (fun _ _ h=>h) S U A).mono ?_
 rintro e w' ⟨r,D',u,rfl,hR,T,S',hr⟩
 exact⟨r,g,n,D',ι,u,rfl,⟨hR,rfl⟩,T,S',U,Nat.le_refl _,hr⟩
theorem A6.body {P:Program} {f:Nat} {args:List AV} {R:AV->Prop} {nt na:Nat} {body:VC} {res:List rL} (hf:CC P f=some ⟨nt,na,body,res⟩) (ha:na=args.length) (h:(∀a∈args,ft a)->∀σ:ax,ea (Call P) body (oe res fun r0 σ'=>∃r',V.fz σ'.get 6 r0=some r'/\R r') (cj args) ⟨V.ro σ.get,σ.next⟩):A6 P f args R:=fun σ=>qM hf ha fun hl=>h hl σ
def Zv (bs:List PB) (cnt:Nat) (Pv:Int) (k:Nat):Prop:=(k=1/\Pv= -1)∨(0<=Pv/\(∀z,1<=z->z<k->∀S:Nat->Bool,S 0=true->S z=false->Pv<=gO S bs)/\∃S:Nat->Bool,S 0=true/\(∃z,z<cnt/\S z=false)/\Pv=gO S bs)
def qf (Q:Nat->Prop) [DecidablePred Q] (S:Nat->Bool) (bs:List PB):Int:=(bs.map fun b=>if Q b.a/\Q b.b then(if S b.a=S b.b then 0 else b.s)else 0).sum
theorem vP {P Q:Nat->Prop} [DecidablePred P] [DecidablePred Q] {S:Nat->Bool} (h:∀x,P x->Q x):∀{bs:List PB},(∀b∈bs,0<=b.s)->qf P S bs<=qf Q S bs
 |[],_=>Int.le_refl _
 |b::bs,hs=>by
  have ih:=vP (S:=S) h (bs:=bs) fun x hx=>hs x (List.mem_cons_of_mem _ hx)
  have h0:=hs b List.mem_cons_self
  unfold qf at ih ⊢
  simp only[List.map_cons,List.sum_cons]
  have:(if P b.a/\P b.b then(if S b.a=S b.b then 0 else b.s)else 0)<=(if Q b.a/\Q b.b then(if S b.a=S b.b then 0 else b.s)else 0):=by
   by_cases hp:P b.a/\P b.b
   ·have hq:Q b.a/\Q b.b:=⟨h _ hp.1,h _ hp.2⟩
    rw[if_pos hp,if_pos hq];exact Int.le_refl _
   ·rw[if_neg hp]
    split
    ·split<;>omega
    ·exact Int.le_refl _
  omega
def L3 (bs:List PB) (t:Int) (P:List Nat):Prop:=∀S:Nat->Bool,(∃x∈P,S x=true)->(∃y∈P,S y=false)->t<=qf (·∈P) S bs
theorem Uw {bs:List PB} {t:Int} {P Q:List Nat} (hs:∀b∈bs,0<=b.s) (hP:L3 bs t P) (h:∀x∈P,x∈Q) {S:Nat->Bool} (hc:qf (·∈Q) S bs<t):(∀x∈P,S x=true)∨∀x∈P,S x=false:=by
 by_cases h1:∃x∈P,S x=true
 ·refine .inl fun y hy=>?_
  cases h2:S y
  ·have:=hP S h1 ⟨y,hy,h2⟩
   have:=vP (P:=(·∈P)) (Q:=(·∈Q)) (S:=S) h hs
   omega
  ·rfl
 ·refine .inr fun y hy=>?_
  cases h2:S y
  ·rfl
  ·exact absurd ⟨y,hy,h2⟩ h1
structure ZF (n:Nat) (bs:List PB) (t:Int) (R:List (List Nat)):Prop where
 some:∀p∈R,p≠[]
 asc:∀p∈R,p.Pairwise (· < ·)
 lt:∀p∈R,∀x∈p,x<n
 apart:R.Pairwise fun p q=>∀x∈p,x∉q
 solid:∀P:List Nat,P≠[]->(∀x∈P,x<n)->L3 bs t P->∃p∈R,∀x∈P,x∈p
theorem Ej:∀{p q:List Nat},p.Pairwise (· < ·)->q.Pairwise (· < ·)->(∀x,x∈p↔x∈q)->p=q
 |[],[],_,_,_=>rfl
 |[],y::q,_,_,h=>absurd ((h y).2 (by simp)) (by simp)
 |x::p,[],_,_,h=>absurd ((h x).1 (by simp)) (by simp)
 |x::p,y::q,hp,hq,h=>by
  have hp:=List.pairwise_cons.1 hp
  have hq:=List.pairwise_cons.1 hq
  have TY:x=y:=by
   rcases List.mem_cons.1 ((h x).1 (by simp))with e|e
   ·exact e
   ·rcases List.mem_cons.1 ((h y).2 (by simp))with e2|e2
    ·exact e2.symm
    ·have:=hp.1 y e2;have:=hq.1 x e;omega
  subst TY
  rw[Ej hp.2 hq.2 fun z=>?_]
  constructor
  ·intro hz
   rcases List.mem_cons.1 ((h z).1 (by simp[hz]))with e|e
   ·have:=hp.1 z hz;omega
   ·exact e
  ·intro hz
   rcases List.mem_cons.1 ((h z).2 (by simp[hz]))with e|e
   ·have:=hq.1 z hz;omega
   ·exact e
theorem Ig {f g:Nat->Int}:∀{n:Nat},(∀i,i<n->f i<=g i)->jN f n=jN g n->∀i,i<n->f i=g i
 |0,_,_,i,hi=>absurd hi ae
 |n+1,h,he,i,hi=>by
  simp only[jN]at he
  have h1:=uR (n:=n) fun i hi=>h i ae
  have h2:=h n ae
  by_cases gV:i=n
  ·subst gV;omega
  ·have e:jN f n=jN g n:=ae
   exact Ig (n:=n) (fun i hi=>h i ae) e i ae
def B3 (p:List Nat) (x:Nat):Int:=if x∈p then(p.idxOf x:Int)else -1
theorem wC {p:List Nat} {x:Nat}:0<=B3 p x↔x∈p:=by
 unfold B3
 split
 ·rename_i h;exact⟨fun _=>h,fun _=>ae⟩
 ·rename_i h;exact⟨fun h2=>absurd h2 ae,fun h2=>absurd h2 h⟩
def kA (p:List Nat):List PB->List PB
 |[]=>[]
 |b::bs=>if 0<=B3 p b.a/\0<=B3 p b.b then⟨(B3 p b.a).toNat,(B3 p b.b).toNat,b.s⟩::kA p bs else kA p bs
theorem Ch (p:List Nat):∀(bs cs:List PB),kA p (bs++cs)=kA p bs++kA p cs
 |[],cs=>rfl
 |b::bs,cs=>by
  rw[List.cons_append,kA,kA,Ch p bs cs]
  split<;>rfl
end Go.Proofs.YtainmfbpilopaaaGreatDoor.V

namespace Go.Proofs.YtainmfbpilopaaaGreatDoor.V
theorem yD {Q:Nat->Prop} [DecidablePred Q] {S S':Nat->Bool} (h:∀x,Q x->S x=S' x):∀bs:List PB,qf Q S bs=qf Q S' bs
 |[]=>rfl
 |b::bs=>by
  have ih:=yD h bs
  unfold qf at ih ⊢
  simp only[List.map_cons,List.sum_cons]
  rw[ih]
  by_cases hp:Q b.a/\Q b.b
  ·rw[if_pos hp,if_pos hp,h _ hp.1,h _ hp.2]
  ·rw[if_neg hp,if_neg hp]
theorem Ey {Q:Nat->Prop} [DecidablePred Q] {S:Nat->Bool}:∀bs:List PB,qf Q (fun x=> !S x) bs=qf Q S bs
 |[]=>rfl
 |b::bs=>by
  have ih:=Ey (Q:=Q) (S:=S) bs
  unfold qf at ih ⊢
  simp only[List.map_cons,List.sum_cons]
  rw[ih]
  have e:(if (!S b.a)=(!S b.b)then(0:Int)else b.s)=if S b.a=S b.b then 0 else b.s:=by
   by_cases h:S b.a=S b.b
   ·rw[if_pos h,if_pos (by rw[h])]
   ·rw[if_neg h,if_neg (fun h2=>h (by simpa using h2))]
  by_cases hq:Q b.a/\Q b.b
  ·rw[if_pos hq,if_pos hq,e]
  ·rw[if_neg hq,if_neg hq]
theorem Bn (p:List Nat) (S:Nat->Bool):∀bs:List PB,gO S (kA p bs)=qf (·∈p) (fun x=>S (B3 p x).toNat) bs
 |[]=>rfl
 |b::bs=>by
  have ih:=Bn p S bs
  rw[kA]
  unfold qf at ih ⊢
  simp only[List.map_cons,List.sum_cons]
  by_cases h:0<=B3 p b.a/\0<=B3 p b.b
  ·have h':b.a∈p/\b.b∈p:=⟨wC.1 h.1,wC.1 h.2⟩
   rw[if_pos h,if_pos h',<-ih]
   simp[gO]
  ·have h':¬(b.a∈p/\b.b∈p):=fun h2=>h ⟨wC.2 h2.1,wC.2 h2.2⟩
   rw[if_neg h,if_neg h',ih,Int.zero_add]
theorem uG {p:List Nat} {x:Nat} (h:x∈p):(B3 p x).toNat=p.idxOf x/\p.idxOf x<p.length/\p.getD (p.idxOf x) 0=x:=by
 have hi:=List.idxOf_lt_length_iff.2 h
 have hg:p[p.idxOf x]=x:=List.getElem_idxOf hi
 refine⟨by rw[B3,if_pos h,Int.toNat_natCast],hi,?_⟩
 rw[List.getD_eq_getElem?_getD,List.getElem?_eq_getElem hi]
 exact hg
theorem Qg {p:List Nat} (h:p.Pairwise (· < ·)) {j:Nat} (hj:j<p.length):p.idxOf (p.getD j 0)=j:=by
 have hm:p.getD j 0∈p:=by rw[List.getD_eq_getElem?_getD,List.getElem?_eq_getElem hj];exact List.getElem_mem hj
 obtain⟨_,h2,h3⟩:=uG hm
 rw[List.getD_eq_getElem?_getD,List.getD_eq_getElem?_getD,List.getElem?_eq_getElem hj,List.getElem?_eq_getElem (by rw[List.getD_eq_getElem?_getD,List.getElem?_eq_getElem hj]at h2;exact h2)]at h3
 rw[List.getD_eq_getElem?_getD,List.getElem?_eq_getElem hj]at h2 ⊢
 simp only[Option.getD_some]at h2 h3 ⊢
 rw[List.pairwise_iff_getElem]at h
 rcases Nat.lt_trichotomy (p.idxOf p[j]) j with h4|h4|h4
 ·have:=h _ _ h2 hj h4;omega
 ·exact h4
 ·have:=h _ _ hj h2 h4;omega
end Go.Proofs.YtainmfbpilopaaaGreatDoor.V

namespace Go.Proofs.YtainmfbpilopaaaGreatDoor.V
open Go.RowKit
inductive tM:List AV->List AV->Prop
 |nil:tM [] []
 |same (a) {l l'}:tM l l'->tM (a::l) (a::l')
 |ptr (cs rest) {l l'}:tM l l'->tM (.ef (cs++rest)::l) (.ef cs::l')
 |bj {l l'}:tM l l'->tM (.bj::l) (.sl []::l')
theorem QM {P:Program} {w:World} {D:Nat->Prop} {ι:Names} {cs rest:List AV} {v:Value} (h:du P w D ι (.ef (cs++rest)) v):du P w D ι (.ef cs) v:=by
 obtain⟨b,o,vs,rfl,h1,h2,h3,h4⟩:=mH h
 exact .eX _ _ (.ef cs b o vs h1 (fun a ha=>h2 a (List.mem_append_left _ ha)) (fun j hj=>h3 j (by rw[List.length_append];omega)) fun j a ha=>h4 j a (by
  have:=(List.getElem?_eq_some_iff.1 ha).1
  rw[List.getElem?_append_left this];exact ha))
theorem QO {P:Program} {w:World} {D:Nat->Prop} {ι:Names} {v:Value} (h:du P w D ι .bj v):du P w D ι (.sl []) v:=by
 cases h with
 |eX _ _ h=>
  cases h with
  |bj=>exact .eX _ _ (.D6 none 0 (Nat.zero_le _))
theorem tM.len {l l':List AV} (h:tM l l'):l'.length=l.length:=by induction h<;>simp_all
theorem tM.get {P:Program} {w:World} {D:Nat->Prop} {ι:Names} {l l':List AV} (h:tM l l'):∀{j:Nat} {a':AV},l'[j]? =some a'->∃a,l[j]? =some a/\∀v,du P w D ι a v->du P w D ι a' v:=by
 induction h with
 |nil=>intro j a' hj;simp at hj
 |same a _ ih=>
  intro j a' hj
  cases j with
  |zero=>simp at hj;subst hj;exact⟨a,rfl,fun _ h=>h⟩
  |succ j=>exact ih (by simpa using hj)
 |ptr cs rest _ ih=>
  intro j a' hj
  cases j with
  |zero=>simp at hj;subst hj;exact⟨_,rfl,fun _ h=>QM h⟩
  |succ j=>exact ih (by simpa using hj)
 |bj _ ih=>
  intro j a' hj
  cases j with
  |zero=>simp at hj;subst hj;exact⟨_,rfl,fun _ h=>QO h⟩
  |succ j=>exact ih (by simpa using hj)
theorem Call.cut {P:Program} (hm:P.follows .mixedOrders=true) {f:Nat} {args args':List AV} {σ:ax} {K:AV->ax->Prop} (hc:tM args args') (h:Call P f args' σ K):Call P f args σ K:=
 fG fun hs D ι w vs S U A=>iP hm h hs D ι w vs S U ⟨by rw[A.1,hc.len],fun j a' hj=>by
  obtain⟨a,ha,hr⟩:=hc.get (P:=P) (w:=w) (D:=D) (ι:=ι) hj
  obtain⟨u,hu,hv⟩:=A.2 j a ha
  exact⟨u,hu,hr u hv⟩⟩
theorem aw.cut {P:Program} (hm:P.follows .mixedOrders=true) {f:Nat} {args args':List AV} {r:AV} (hc:tM args args') (h:aw P f args' r):aw P f args r:=fun n=>(h n).cut hm hc
end Go.Proofs.YtainmfbpilopaaaGreatDoor.V

namespace Go.Proofs.YtainmfbpilopaaaGreatDoor.V
open Go.RowKit
attribute [local irreducible] ea wpOps fB Call
theorem QY {s:az} (hS:gy s) (a d:Int):tJ s (er (eu s a) d)<=4:=by
 have hF:=hS.form
 have gV:er (eu s a) d=0∨(0<=er (eu s a) d/\er (eu s a) d<=s.bh.length):=by
  unfold er eu
  rw[List.getD_eq_getElem?_getD,List.getD_eq_getElem?_getD]
  rcases ht:s.aj[a.toNat]? with _|t
  ·exact .inl (by simp[Dp])
  ·have XB:=List.mem_of_getElem? ht
   simp only[Option.getD_some]
   rcases hg:t.dW[d.toNat]? with _|g
   ·exact .inl rfl
   ·exact .inr (hF.yV t XB g (List.mem_of_getElem? hg))
 unfold tJ
 by_cases h0:er (eu s a) d=0
 ·rw[if_pos h0];omega
 ·rw[if_neg h0]
  have hk:(er (eu s a) d-1).toNat<s.bh.length:=ae
  have:=dY (hS.YB _ hk).2.1
  unfold rM at this
  unfold s6
  omega
theorem Er {s:az} (hS:gy s) (a d b:Int):gh s a d b<=4:=by
 unfold gh
 split
 ·exact QY hS a d
 ·omega
theorem JL {s:az} {l:List aa} (hS:gy s) {i:Nat} (hi:i<l.length) {d:Int}:∀b∈gi s l i d,b.a<l.length/\b.b<l.length/\0<=b.s/\b.s<=4:=by
 intro b hb
 unfold gi at hb
 split at hb
 ·rename_i h
  simp only[List.mem_singleton]at hb
  subst hb
  exact⟨hi,(iC h.1).1,by simp only;omega,Er hS ..⟩
 ·cases hb
theorem vI {s:az} {l:List aa} (hS:gy s):∀b∈dg s l,b.a<l.length/\b.b<l.length/\0<=b.s/\b.s<=4:=by
 intro b hb
 simp only[dg,lv,gQ,List.mem_flatMap,List.mem_range]at hb
 obtain⟨i,hi,j,_,hb⟩:=hb
 exact JL hS hi b hb
theorem yu {s:az} {l:List aa} (hF:kc l):(dg s l).length<=1000:=by
 have:=Es s l l.length
 have:=hF.pL
 rw[dg];omega
theorem Ko {n:Nat} {bs:List PB} {t:Int} (h:n<2):sK n bs t:=fun S h0 ⟨y,hy,hf⟩=>by
 have:y=0:=ae
 subst this;rw[h0]at hf;cases hf
def lZ (s:az) (l:List aa) (t:Int):Nat:=(leads l.length (fe (bW t (dg s l)))).length
noncomputable def sI (s:az) (l:List aa) (t:Int):Bool:=@decide (lu l.length (dg s l) t) (Classical.propDecidable _)
theorem Ae {s:az} {l:List aa} {t:Int} {p:Prop} [Decidable p] (h:p↔lu l.length (dg s l) t):decide p=sI s l t:=by
 letI:=Classical.propDecidable (lu l.length (dg s l) t)
 unfold sI
 by_cases hp:p
 ·rw[decide_eq_true hp];exact(decide_eq_true (h.1 hp)).symm
 ·rw[decide_eq_false hp];exact(decide_eq_false fun k=>hp (h.2 k)).symm
theorem wh (t:Int):aw Tryz.prog 139 [.int .i64 t] (.bool (ik t 1 16)):=by
 refine aw.body fx rfl fun hl n0=>?_
 clear hl
 have h:=lz t 1 16
 (repeat(first|((repeat(revert N;apply Pn.out));refine wk @Nat.zero_add ?_;(repeat(apply Pn.mk;intro N hN)))|((try apply Or.inl);refine⟨_,aw.x (h) (sd @Nat.zero_add),?_⟩;apply hN;clear hN N)))
 exact da (b:=ik t 1 16) (.inl rfl) (sd @Nat.zero_add) rfl
structure mj (s:au):Prop where
 set:gy s.aD
 o8:gx s.aD s.bH.aj
 some:1<=s.bH.aj.length
 Gj:ik s.aE 1 16=true
 holds:lu s.bH.aj.length (dg s.aD s.bH.aj) s.aE
noncomputable def j8 (s:au):Bool:=@decide (mj s) (Classical.propDecidable _)
theorem mN {s:au}:j8 s=true↔mj s:=by simp[j8]
theorem np {s:au} (h:¬mj s):false=j8 s:=by simp[j8,h]
theorem Gf {s:au} (h:mj s):true=j8 s:=by simp[j8,h]
theorem rF {s:az} {l:List aa} {t:Int}:sI s l t=true↔lu l.length (dg s l) t:=by simp[sI]
theorem QX {s:az} (hS:gy s) (a d:Int):0<=tJ s (er (eu s a) d):=by
 have hF:=hS.form
 have gV:er (eu s a) d=0∨(0<=er (eu s a) d/\er (eu s a) d<=s.bh.length):=by
  unfold er eu
  rw[List.getD_eq_getElem?_getD,List.getD_eq_getElem?_getD]
  rcases ht:s.aj[a.toNat]? with _|t
  ·exact .inl (by simp[Dp])
  ·have XB:=List.mem_of_getElem? ht
   simp only[Option.getD_some]
   rcases hg:t.dW[d.toNat]? with _|g
   ·exact .inl rfl
   ·exact .inr (hF.yV t XB g (List.mem_of_getElem? hg))
 unfold tJ
 by_cases h0:er (eu s a) d=0
 ·rw[if_pos h0];omega
 ·rw[if_neg h0]
  have hk:(er (eu s a) d-1).toNat<s.bh.length:=ae
  have:=dY (hS.YB _ hk).2.1
  unfold rM at this
  unfold s6
  omega
theorem qb {s:az} (hS:gy s) (a d b:Int):0<=gh s a d b/\gh s a d b<=4:=by
 refine⟨?_,Er hS a d b⟩
 unfold gh
 split
 ·exact QX hS a d
 ·omega
def dw (s:az) (f:ai->Int) (p:ai) (t:Int):Nat->Int
 |0=>0
 |d+1=>dw s f p t d+if 0<=f (bc p d)then gh s t d (f (bc p d))else 0
def jE (s:az) (f:ai->Int) (p:ai) (t:Int):Int:=dw s f p t 4
theorem lD {s:az} (hS:gy s) (f:ai->Int) (p:ai) (t:Int):∀d,0<=dw s f p t d/\dw s f p t d<=4*(d:Int)
 |0=>⟨Int.le_refl _,Int.le_refl _⟩
 |d+1=>by
  have:=lD hS f p t d
  have hb:=qb hS t d (f (bc p d))
  simp only[dw]
  split<;>omega
theorem Mb {s:az} {l:List aa} (hA:gx s l) {p:ai} (h:0<=eM l p):eE s (eM l p)=true:=by
 unfold eM at h ⊢
 split at h
 ·rename_i h0
  rw[if_pos h0]
  exact hA.2 _ (fH (iC h0).1)
 ·omega
def ir (la lb:List aa):Bool:=la.all fun t=>decide (eM lb t.aI=t.aY)
noncomputable def Cr (s:au) (l:List aa):Bool:=j8 s&&sL s.aD l
theorem tQ {s:au} {l:List aa}:Cr s l=true↔mj s/\gx s.aD l:=by simp[Cr,mN,ml]
noncomputable def jY (s:au) (l:List aa):Int:=if Cr s l then(if ir s.bH.aj l then 0 else 2)else 1
theorem Ha {f:Nat->Bool} {n k:Nat} (h1:k<n) (h2:f k=true) (h3:∀j,j<k->f j=false):(List.range n).find? f=some k:=by
 rw[List.find?_range_eq_some]
 exact⟨h2,List.mem_range.2 h1,fun j hj=>by rw[h3 j hj];rfl⟩
theorem xz {f:Nat->Bool} {n:Nat} (h:∀j,j<n->f j=false):(List.range n).find? f=none:=by
 rw[List.find?_range_eq_none]
 exact fun j hj=>by rw[h j hj];rfl
theorem Ak {s:az} {k:Nat} (h:k<s.aj.length):eE s k=true:=by
 unfold eE;exact jU ae
theorem Ct {s:az} {l:List aa} (hA:gx s l) (p:ai):eM l p<0↔dm l p<0:=by
 constructor
 ·intro h
  rcases Int.lt_or_le (dm l p) 0 with h0|h0
  ·exact h0
  ·exfalso
   obtain⟨h1,_⟩:=iC h0
   have h2:=(dY (hA.2 _ (fH h1))).1
   rw[eM,if_pos h0]at h
   omega
 ·intro h
  rw[eM,if_neg ae];omega
def j9 (ps:List ai) (i:Nat):ai:=ps.getD i ⟨0,0⟩
theorem lh {ps:List ai} {i:Nat} (h:i<ps.length):j9 ps i=ps[i]:=by simp[j9,List.getD_eq_getElem?_getD,h]
theorem Ds {ps:List ai} {i:Nat} (h:i<ps.length):j9 ps i∈ps:=by rw[lh h];exact List.getElem_mem h
theorem xj {ps:List ai} {i:Nat} (h:i<ps.length):(ps.map ad)[i]? =some (ad (j9 ps i)):=by simp[j9,List.getD_eq_getElem?_getD,h]
def oF (ps:List ai):Prop:=ps.Pairwise fun a b=>ju a b=true
theorem oF.at_ {ps:List ai} (h:oF ps) {i j:Nat} (BC:i<j) (hj:j<ps.length):ju (j9 ps i) (j9 ps j)=true:=by
 rw[lh hj,lh ae]
 exact List.pairwise_iff_getElem.1 h i j ae hj BC
def k9 (ps:List ai) (p:ai):Nat:=ps.findIdx fun q=> !ju q p
theorem Dg (ps:List ai) (p:ai):k9 ps p<=ps.length:=List.findIdx_le_length
theorem Je {ps:List ai} {p:ai} {x:Nat} (h:x<k9 ps p):ju (j9 ps x) p=true:=by
 have hx:x<ps.length:=Nat.lt_of_lt_of_le h (Dg ps p)
 have:=List.not_of_lt_findIdx h
 rw[lh hx]
 simpa using this
theorem Df {ps:List ai} {p:ai} (hR:oF ps) {x:Nat} (h:k9 ps p<=x) (hx:x<ps.length):ju (j9 ps x) p=false:=by
 have h0:k9 ps p<ps.length:=ae
 have h1:ju (j9 ps (k9 ps p)) p=false:=by
  have:=List.findIdx_getElem (p:=fun q=> !ju q p) (xs:=ps) (w:=h0)
  rw[lh h0]
  have e:(!ju ps[k9 ps p] p)=true:=this
  simpa using e
 by_cases he:k9 ps p=x
 ·rw[<-he];exact h1
 ·have h2:=hR.at_ (show k9 ps p<x by omega) hx
  cases hc:ju (j9 ps x) p
  ·rfl
  ·rw[iF h2 hc]at h1;cases h1
def rY (ps:List ai) (p:ai):List ai:=if k9 ps p<ps.length/\j9 ps (k9 ps p)=p then ps else ps.take (k9 ps p)++p::ps.drop (k9 ps p)
theorem NW (ps:List ai) (p:ai):(rY ps p).length<=ps.length+1:=by
 unfold rY
 have:=Dg ps p
 split
 ·omega
 ·simp;omega
theorem NA (ps:List ai) (p x:ai):x∈rY ps p↔x=p∨x∈ps:=by
 unfold rY
 split
 ·rename_i h
  refine⟨.inr,fun hx=>hx.elim (fun e=>?_) id⟩
  rw[e,<-h.2];exact Ds h.1
 ·have:x∈ps↔x∈ps.take (k9 ps p)++ps.drop (k9 ps p):=by rw[List.take_append_drop]
  rw[this]
  simp only[List.mem_append,List.mem_cons]
  constructor
  ·rintro(h|h|h)
   ·exact .inr (.inl h)
   ·exact .inl h
   ·exact .inr (.inr h)
  ·rintro(h|h|h)
   ·exact .inr (.inl h)
   ·exact .inl h
   ·exact .inr (.inr h)
theorem NX {ps:List ai} (hR:oF ps) (p:ai):oF (rY ps p):=by
 unfold rY
 split
 ·exact hR
 ·rename_i lT
  have hd:∀x∈ps.drop (k9 ps p),ju p x=true:=fun x hx=>by
   obtain⟨j,hj,rfl⟩:=List.getElem_of_mem hx
   rw[List.length_drop]at hj
   rw[List.getElem_drop]
   have iX:k9 ps p+j<ps.length:=ae
   have h1:=Df (p:=p) hR (Nat.le_add_right _ j) iX
   rw[<-lh iX]
   refine xW h1 fun he=>?_
   by_cases h0:j=0
   ·subst h0
    exact lT ⟨ae,by simpa using he⟩
   ·have:=hR.at_ (show k9 ps p<k9 ps p+j by omega) iX
    rw[he]at this
    have h2:=Df (p:=p) hR (Nat.le_refl _) (show k9 ps p<ps.length by omega)
    rw[this]at h2;cases h2
  have ht:∀x∈ps.take (k9 ps p),ju x p=true:=fun x hx=>by
   obtain⟨j,hj,rfl⟩:=List.getElem_of_mem hx
   rw[List.length_take]at hj
   rw[List.getElem_take]
   have:=Je (ps:=ps) (p:=p) (x:=j) ae
   rwa [lh ae]at this
  refine List.pairwise_append.2 ⟨hR.sublist (List.take_sublist _ _),List.pairwise_cons.2 ⟨hd,hR.sublist (List.drop_sublist _ _)⟩,fun x hx y hy=>?_⟩
  rcases List.mem_cons.1 hy with rfl|hy
  ·exact ht x hx
  ·exact iF (ht x hx) (hd y hy)
theorem Jm:∀{ps qs:List ai},oF ps->oF qs->(∀x,x∈ps↔x∈qs)->ps=qs
 |[],[],_,_,_=>rfl
 |[],q::qs,_,_,h=>absurd ((h q).2 (by simp)) (by simp)
 |p::ps,[],_,_,h=>absurd ((h p).1 (by simp)) (by simp)
 |p::ps,q::qs,hp,hq,h=>by
  obtain⟨p1,p2⟩:=List.pairwise_cons.1 hp
  obtain⟨q1,q2⟩:=List.pairwise_cons.1 hq
  have e:p=q:=by
   rcases List.mem_cons.1 ((h p).1 (by simp))with e|e
   ·exact e
   ·rcases List.mem_cons.1 ((h q).2 (by simp))with e'|e'
    ·exact e'.symm
    ·have:=FI (q1 p e)
     rw[p1 q e']at this;cases this
  subst e
  congr 1
  refine Jm p2 q2 fun x=>⟨fun hx=>?_,fun hx=>?_⟩
  ·rcases List.mem_cons.1 ((h x).1 (List.mem_cons_of_mem _ hx))with e|e
   ·subst e;have:=p1 x hx;rw[iD]at this;cases this
   ·exact e
  ·rcases List.mem_cons.1 ((h x).2 (List.mem_cons_of_mem _ hx))with e|e
   ·subst e;have:=q1 x hx;rw[iD]at this;cases this
   ·exact e
def Wi (σ:ax) (kp:Id->Prop) (ps:List ai) (r:AV) (σ':ax):Prop:=
 ∃o:Id,r=.own o 0 ps.length/\σ'.get o=some ⟨true,2,ps.map ad⟩/\σ.next<=σ'.next/\o.bq<σ'.next/\(σ.next<=o.bq∨¬kp o)/\∀x:Id,x.bq<σ.next->kp x->σ'.get x=σ.get x
theorem R8 {ps:List ai} {i:Nat} {q:ai}:(ps.map ad).set i (ad q)=(ps.set i q).map ad:=List.map_set.symm
def Cf (ps:List ai) (p:ai) (i:Nat):List ai:=(ps++[p]).take (i+1)++ps.drop i
theorem rI (ps:List ai) (p:ai) {i:Nat} (h:i<=ps.length):(Cf ps p i).length=ps.length+1:=by simp[Cf];omega
theorem UD {ps:List ai} {p:ai} {i j:Nat} (hi:i<=ps.length) (hj:j<i):j9 (Cf ps p i) j=j9 ps j:=by
 unfold j9 Cf
 rw[List.getD_eq_getElem?_getD,List.getD_eq_getElem?_getD,List.getElem?_append_left (by simp;omega),List.getElem?_take,if_pos ae,List.getElem?_append_left ae]
theorem Ln (ps:List ai) (p:ai):Cf ps p ps.length=ps++[p]:=by
 unfold Cf
 rw[List.drop_length,List.append_nil,List.take_of_length_le (by simp)]
theorem Ot {ps:List ai} {p:ai} {i:Nat} (hi:i<ps.length):(Cf ps p (i+1)).set (i+1) (j9 ps i)=Cf ps p i:=by
 refine List.ext_getElem? fun j=>?_
 rw[List.getElem?_set,rI ps p ae]
 unfold Cf
 by_cases hj:i+1=j
 ·subst hj
  rw[if_pos rfl,if_pos ae,List.getElem?_append_right (by simp;omega)]
  simp only[List.length_take,List.length_append,List.length_cons,List.length_nil]
  rw[show i+1-min (i+1) (ps.length+(0+1))=0 by omega,List.getElem?_drop,Nat.add_zero,List.getElem?_eq_getElem hi,lh hi]
 ·rw[if_neg hj]
  by_cases eG:j<i+1
  ·rw[List.getElem?_append_left (by simp;omega),List.getElem?_append_left (by simp;omega),List.getElem?_take,List.getElem?_take,if_pos ae,if_pos eG]
  ·rw[List.getElem?_append_right (by simp;omega),List.getElem?_append_right (by simp;omega)]
   simp only[List.length_take,List.length_append,List.length_cons,List.length_nil,List.getElem?_drop]
   congr 1
   omega
theorem Q1 {ps:List ai} {p:ai} {i:Nat} (hi:i<=ps.length):(Cf ps p i).set i p=ps.take i++p::ps.drop i:=by
 refine List.ext_getElem? fun j=>?_
 rw[List.getElem?_set,rI ps p hi]
 unfold Cf
 by_cases hj:i=j
 ·subst hj
  rw[if_pos rfl,if_pos ae,List.getElem?_append_right (by simp;omega)]
  simp[Nat.min_eq_left hi]
 ·rw[if_neg hj]
  by_cases eG:j<i
  ·rw[List.getElem?_append_left (by simp;omega),List.getElem?_append_left (by simp;omega),List.getElem?_take,List.getElem?_take,if_pos ae,if_pos eG,List.getElem?_append_left ae]
  ·rw[List.getElem?_append_right (by simp;omega),List.getElem?_append_right (by simp;omega)]
   simp only[List.length_take,List.length_append,List.length_cons,List.length_nil]
   rw[show j-min i ps.length=(j-i-1)+1 by omega,List.getElem?_cons_succ]
   congr 1
   omega
theorem DN {X:gq} {Q:Ex->Env->ax->Prop} {N:Env->ax->Prop} {c:VC} {env:Env} {σ:ax} {id:Nat} (I:Env->ax->Prop) (h2:∀e s,I e s->N e s) (h1:∀N':Env->ax->Prop,(∀e s,I e s->N' e s)->ea X c (bd id (de N' Q)) env σ):ea X c (bd id (de N Q)) env σ:=h1 N h2
theorem AW (ps:List ai) (hR:oF ps) (hlen:ps.length<=1048576) (p:ai) (o:Id) (σ:ax) (ho:σ.get o=some ⟨true,2,ps.map ad⟩) (Kp:o.bq<σ.next):
  Call Tryz.prog 85 [.own o 0 ps.length,.agg (ad p)] σ (Wi σ (fun x=>(x=o)=False) (rY ps p)):=by
 refine eZ fx rfl fun fD=>?_
 clear fD
 have y8:=bZ Kp
 have Y0:=Dg ps p
 have DV:(ps.map ad).length=ps.length:=by simp
 (try((repeat(revert N;apply Pn.out));refine wk (tw @ad.eq_1 @y8) ?_;(repeat(apply Pn.mk;intro N hN))))
 refine DN (fun e s=>e 5=.int .i64 (k9 ps p:Int)/\e 0=.own o 0 ps.length/\e 3=.ptr ⟨85000000,σ.next⟩ 0 0/\s.get ⟨85000000,σ.next⟩=some ⟨true,2,[ad p]⟩/\s.get o=some ⟨true,2,ps.map ad⟩/\σ.next<s.next/\∀x:Id,x.bq<σ.next->s.get x=σ.get x) ?_ ?_
 ·rintro e s ⟨f5,f0,f3,fg0,fg1,fn,ffr⟩
  apply hN
  clear hN N
  have Qa:=bZ (i:=o) (n:=s.next) ae
  obtain⟨a,ha⟩:∃a,k9 ps p=a:=⟨_,rfl⟩
  rw[ha]at f5 Y0
  by_cases hex:a<ps.length/\j9 ps a=p
  ·have eG:(a:Int)<(ps.length:Int):=ae
   have hg:=xj hex.1
   have hx:decide ((j9 ps a).eV=p.eV)=true:=decide_eq_true (by rw[hex.2])
   have hy:decide ((j9 ps a).eQ=p.eQ)=true:=decide_eq_true (by rw[hex.2])
   (try((repeat(revert N;apply Pn.out));refine wk (tw @f5 (tw @f0 (tw @f3 (tw @fg0 (tw @fg1 (tw @eG (tw @hg (tw @hx (tw @hy (tw @DV @ad.eq_1)))))))))) ?_;(repeat(apply Pn.mk;intro N hN))))
   have hp:rY ps p=ps:=by unfold rY;rw[ha,if_pos hex]
   rw[hp]
   exact eo (.inl rfl) (vs:=[.own o 0 ps.length]) (sd @Nat.zero_add) ⟨o,rfl,sd @fg1,aH,aH,.inr (by simp),fun x hx _=>sd (ffr x hx)⟩
  refine Gq (fun N hN=>?_)
  refine nH (fun e s=>e 5=.int .i64 (a:Int)/\e 0=.own o 0 ps.length/\e 3=.ptr ⟨85000000,σ.next⟩ 0 0/\s.get ⟨85000000,σ.next⟩=some ⟨true,2,[ad p]⟩/\s.get o=some ⟨true,2,ps.map ad⟩/\σ.next<s.next/\∀x:Id,x.bq<σ.next->s.get x=σ.get x) ?_ ?_
  ·clear f5 f0 f3 fg0 fg1 fn ffr Qa
   rintro e s ⟨f5,f0,f3,fg0,fg1,fn,ffr⟩
   apply hN
   clear hN N
   have Qa:=bZ (i:=o) (n:=s.next) ae
   have Ze:=bZ (i:=⟨85000000,σ.next⟩) (n:=s.next) fn
   have e1:ps.length+1<=16777216:=ae
   have Nf:ps.map ad++[[.int .i64 p.eV,.int .i64 p.eQ]]=(Cf ps p ps.length).map ad:=by rw[Ln];simp[ad]
   have zb:IntKind.i64.wrap ((ps.length:Int)+1-1)=(ps.length:Int):=by rw[db ae];omega
   have hp:rY ps p=ps.take a++p::ps.drop a:=by unfold rY;rw[ha,if_neg hex]
   have Y1:((⟨85000000,σ.next⟩:Id)=o)=False:=by
    refine eq_false fun h=>?_
    rw[<-h]at Kp;exact Nat.lt_irrefl _ Kp
   (try((repeat(revert N;apply Pn.out));refine wk (tw @f5 (tw @f0 (tw @f3 (tw @fg0 (tw @fg1 (tw @Qa (tw @Ze (tw @Y1 (tw @DV (tw @e1 (tw @Nf (tw @zb (tw @Int.natCast_add (tw @Int.cast_ofNat_Int @ad.eq_1)))))))))))))) ?_;(repeat(apply Pn.mk;intro N hN))))
   refine cm (fun m env st=>∃i:Nat,m=i/\a<=i/\i<=ps.length/\env 6=.int .i64 (i:Int)/\st.get ⟨85006003,s.next⟩=some ⟨true,2,(Cf ps p i).map ad⟩/\st.get ⟨85000000,σ.next⟩=some ⟨true,2,[ad p]⟩/\s.next<st.next/\∀x:Id,x.bq<σ.next->(x=o)=False->st.get x=σ.get x) ps.length ⟨ps.length,rfl,Y0,Nat.le_refl _,sd (tw @zb (tw @Int.natCast_add @Int.cast_ofNat_Int)),sd @Nf,sd (tw @fg0 (tw @Ze (tw @Y1 @ad.eq_1))),aH,fun x hx DX=>by
    have h1:=bZ (i:=x) (n:=s.next) ae
    have h2:=ffr x hx
    simp only[go_sem, ↓reduceIte,Nat.reduceEqDiff,Nat.reduceAdd,Nat.reduceSub,Nat.reduceLeDiff,reduceCtorEq,h1,h2,DX]⟩ ?_
   rintro m env_b st_b ⟨i,hmi,bl,ble,b6,bg0,bg1,bn,eS⟩ bkp
   have b0:=bkp 0 (by kernel_rfl)
   have b3:=bkp 3 (by kernel_rfl)
   have b5:=bkp 5 (by kernel_rfl)
   simp only[go_sem, ↓reduceIte,Nat.reduceEqDiff,Nat.reduceAdd,Nat.reduceSub,Nat.reduceLeDiff,reduceCtorEq,f0,f3,f5,ad]at b0 b3 b5
   clear bkp
   have Pd:((Cf ps p i).map ad).length=ps.length+1:=by rw[List.length_map,rI ps p ble]
   by_cases O1:(a:Int)<(i:Int)
   ·obtain⟨k,rfl⟩:∃k,i=k+1:=⟨i-1,ae⟩
    have jg:k<ps.length:=ae
    have oP:IntKind.i64.wrap (((k+1:Nat):Int)-1)=(k:Int):=by rw[db ae];omega
    have hq:((Cf ps p (k+1)).map ad)[k]? =some (ad (j9 ps k)):=by rw[xj (by rw[rI ps p ble];omega),UD ble (Nat.lt_succ_self _)]
    have I4:∃z,((Cf ps p (k+1)).map ad)[k+1]? =some (ad z):=⟨_,xj (by rw[rI ps p ble];omega)⟩
    obtain⟨z,I4⟩:=I4
    have gF:((Cf ps p (k+1)).map ad).set (k+1) (ad (j9 ps k))=(Cf ps p k).map ad:=by rw[R8,Ot jg]
    have c1:(k:Int)<(ps.length:Int)+1:=ae
    have c2:(k:Int)+1<(ps.length:Int)+1:=ae
    have c3:(0:Int)<=(k:Int)+1:=ae
    have c4:((k:Int)+1).toNat=k+1:=ae
    have c5:(a:Int)<(k:Int)+1:=ae
    have c6:IntKind.i64.wrap ((k:Int)+1-1)=(k:Int):=by rw[db ae];omega
    rw[ad]at gF hq I4
    (try((repeat(revert N;apply Pn.out));refine wk (tw @b0 (tw @b3 (tw @b5 (tw @b6 (tw @bg0 (tw @bg1 (tw @O1 (tw @oP (tw @hq (tw @I4 (tw @gF (tw @Pd (tw @c1 (tw @c2 (tw @c3 (tw @c4 (tw @c5 (tw @c6 (tw @Int.natCast_add @Int.cast_ofNat_Int))))))))))))))))))) ?_;(repeat(apply Pn.mk;intro N hN))))
    exact⟨k,ae,k,rfl,ae,ae,sd @c6,sd @gF,sd (tw @bg1 @Y1),aH,fun x hx DX=>by
     have h1:=bZ (i:=x) (n:=s.next) ae
     have h2:=eS x hx DX
     simp only[go_sem, ↓reduceIte,Nat.reduceEqDiff,Nat.reduceAdd,Nat.reduceSub,Nat.reduceLeDiff,reduceCtorEq,h1,h2]⟩
   ·obtain rfl:i=a:=ae
    have gF:((Cf ps p i).map ad).set i (ad p)=(rY ps p).map ad:=by rw[R8,Q1 Y0,hp]
    have I4:∃z,((Cf ps p i).map ad)[i]? =some (ad z):=⟨_,xj (by rw[rI ps p ble];omega)⟩
    obtain⟨z,I4⟩:=I4
    have lU:(rY ps p).length=ps.length+1:=by rw[hp];simp;omega
    have c1:(i:Int)<(ps.length:Int)+1:=ae
    rw[ad]at gF I4
    (try((repeat(revert N;apply Pn.out));refine wk (tw @b0 (tw @b3 (tw @b5 (tw @b6 (tw @bg0 (tw @bg1 (tw @O1 (tw @I4 (tw @gF (tw @Pd (tw @c1 (tw @Int.natCast_add (tw @Int.cast_ofNat_Int @ad.eq_1))))))))))))) ?_;(repeat(apply Pn.mk;intro N hN))))
    rw[<-lU]
    exact eo (.inl rfl) (vs:=[.own ⟨85006003,s.next⟩ 0 (rY ps p).length]) (sd (tw @b0 @lU)) ⟨⟨85006003,s.next⟩,rfl,sd @gF,aH,aH,.inl aH,fun x hx DX=>by
     have h1:=bZ (i:=x) (n:=s.next) ae
     have h2:=eS x hx DX
     simp only[go_sem, ↓reduceIte,Nat.reduceEqDiff,Nat.reduceAdd,Nat.reduceSub,Nat.reduceLeDiff,reduceCtorEq,h1,h2]⟩
  ·intro N hN
   by_cases RD:(a:Int)<(ps.length:Int)
   ·have hg:=xj (ps:=ps) (i:=a) ae
    by_cases hx:(j9 ps a).eV=p.eV
    ·have vp:decide ((j9 ps a).eV=p.eV)=true:=decide_eq_true hx
     have Zl:decide ((j9 ps a).eQ=p.eQ)=false:=decide_eq_false fun h=>hex ⟨ae,zM hx h⟩
     (try((repeat(revert N;apply Pn.out));refine wk (tw @f5 (tw @f0 (tw @f3 (tw @fg0 (tw @fg1 (tw @RD (tw @hg (tw @vp (tw @Zl (tw @DV @ad.eq_1)))))))))) ?_;(repeat(apply Pn.mk;intro N hN))))
     exact⟨sd @f5,sd @f0,sd @f3,sd (tw @fg0 @ad.eq_1),sd @fg1,aH,fun x hx=>sd (ffr x hx)⟩
    ·have vp:decide ((j9 ps a).eV=p.eV)=false:=decide_eq_false hx
     (try((repeat(revert N;apply Pn.out));refine wk (tw @f5 (tw @f0 (tw @f3 (tw @fg0 (tw @fg1 (tw @RD (tw @hg (tw @vp (tw @Bool.false_and (tw @DV @ad.eq_1)))))))))) ?_;(repeat(apply Pn.mk;intro N hN))))
     exact⟨sd @f5,sd @f0,sd @f3,sd (tw @fg0 @ad.eq_1),sd @fg1,aH,fun x hx=>sd (ffr x hx)⟩
   ·(try((repeat(revert N;apply Pn.out));refine wk (tw @f5 (tw @f0 (tw @f3 (tw @fg0 (tw @fg1 (tw @RD (tw @DV @ad.eq_1))))))) ?_;(repeat(apply Pn.mk;intro N hN))))
    exact⟨sd @f5,sd @f0,sd @f3,sd (tw @fg0 @ad.eq_1),sd @fg1,aH,fun x hx=>sd (ffr x hx)⟩
 intro N hN
 refine cm (fun m env st=>∃a:Nat,m=a/\k9 ps p<=a/\a<=ps.length/\env 5=.int .i64 (a:Int)/\st.get ⟨85000000,σ.next⟩=some ⟨true,2,[ad p]⟩/\st.get o=some ⟨true,2,ps.map ad⟩/\σ.next<st.next/\∀x:Id,x.bq<σ.next->st.get x=σ.get x) ps.length ⟨ps.length,rfl,Y0,Nat.le_refl _,sd @Nat.zero_add,sd @ad.eq_1,sd (tw @y8 @ho),aH,fun x hx=>by have:=bZ hx;simp only[go_sem, ↓reduceIte,Nat.reduceEqDiff,Nat.reduceAdd,Nat.reduceSub,Nat.reduceLeDiff,reduceCtorEq,this]⟩ ?_
 rintro m env_a st_a ⟨a,hma,al,ale,a5,ag0,ag1,an,eF⟩ akp
 have a0:=akp 0 (by kernel_rfl)
 have a3:=akp 3 (by kernel_rfl)
 simp only[go_sem, ↓reduceIte,Nat.reduceEqDiff,Nat.reduceAdd,Nat.reduceSub,Nat.reduceLeDiff,reduceCtorEq,ad]at a0 a3
 clear akp
 by_cases h0:(0:Int)<(a:Int)
 ·obtain⟨b,rfl⟩:∃b,a=b+1:=⟨a-1,ae⟩
  have iz:b<ps.length:=ae
  have pN:(b:Int)<(ps.length:Int):=ae
  have hg:=xj iz
  have hw:IntKind.i64.wrap (((b+1:Nat):Int)-1)=(b:Int):=by rw[db ae];omega
  have hq:=mW (j9 ps b) p
  cases hc:ju (j9 ps b) p
  ·rw[hc]at hq
   (have zF:=tw @a0 (tw @a3 (tw @a5 (tw @ag0 (tw @ag1 (tw @h0 (tw @pN (tw @hg (tw @hw (tw @DV @ad.eq_1)))))))));(repeat(first|((repeat(revert N;apply Pn.out));refine wk zF ?_;(repeat(apply Pn.mk;intro N hN)))|((try apply Or.inl);refine⟨_,aw.x (hq) (sd zF),?_⟩;apply hN;clear hN N)));try clear zF)
   refine⟨b,ae,b,rfl,?_,ae,sd @hw,sd (tw @ag0 @ad.eq_1),sd @ag1,aH,fun x hx=>sd (eF x hx)⟩
   rcases Nat.lt_or_ge b (k9 ps p)with h|h
   ·rw[Je h]at hc;cases hc
   ·exact h
  ·rw[hc]at hq
   have lW:k9 ps p=b+1:=by
    rcases Nat.lt_or_ge b (k9 ps p)with h|h
    ·omega
    ·have:=Df (p:=p) hR h iz
     rw[hc]at this;cases this
   (have zF:=tw @a0 (tw @a3 (tw @a5 (tw @ag0 (tw @ag1 (tw @h0 (tw @pN (tw @hg (tw @hw (tw @DV @ad.eq_1)))))))));(repeat(first|((repeat(revert N;apply Pn.out));refine wk zF ?_;(repeat(apply Pn.mk;intro N hN)))|((try apply Or.inl);refine⟨_,aw.x (hq) (sd zF),?_⟩;apply hN;clear hN N)));try clear zF)
   exact⟨sd (tw @a5 @lW),sd @a0,sd @a3,sd (tw @ag0 @ad.eq_1),sd @ag1,aH,fun x hx=>sd (eF x hx)⟩
 ·have lW:k9 ps p=a:=ae
  (try((repeat(revert N;apply Pn.out));refine wk (tw @a0 (tw @a3 (tw @a5 (tw @ag0 (tw @ag1 (tw @h0 (tw @DV @ad.eq_1))))))) ?_;(repeat(apply Pn.mk;intro N hN))))
  exact⟨sd (tw @a5 @lW),sd @a0,sd @a3,sd (tw @ag0 @ad.eq_1),sd @ag1,aH,fun x hx=>sd (eF x hx)⟩
end Go.Proofs.YtainmfbpilopaaaGreatDoor.V

namespace Go.Proofs.YtainmfbpilopaaaGreatDoor.V
open Go.RowKit Go.Shelf Go.Lib Go.Sort
instance:Inhabited ai:=⟨⟨0,0⟩⟩
variable {P:Program} {w:World} {D:Nat->Prop} {ι:Names}
theorem uI {vs:Array Value} (h:fY P w D ι [] vs):vs= #[]:=Array.eq_empty_of_size_eq_zero h.1
theorem j3 {a:AV} {r:List AV} {vs:Array Value} (h:fY P w D ι (a::r) vs):∃u us,vs=(u::us).toArray/\du P w D ι a u/\fY P w D ι r us.toArray:=by
 obtain⟨h1,h2⟩:=h
 obtain⟨l⟩:=vs
 cases l with
 |nil=>simp at h1
 |cons u us=>
  obtain⟨u',hu,hr⟩:=h2 0 a rfl
  simp at hu;subst hu
  exact⟨u,us,rfl,hr,by simpa using h1,fun j b hj=>by
   obtain⟨v,hv,pS⟩:=h2 (j+1) b (by simpa using hj)
   exact⟨v,by simpa using hv,pS⟩⟩
def Rp:Prop:=∀(vd off cap:Nat) (d:Array ai) (w:World),HoldsK gP 2 w vd off d->vd<w.heap.size->d.size<4611686018427387904->
 Calls Tryz.prog 244 #[.slice (some ⟨vd,off,none⟩) d.size cap,.func (.func 189) #[] #[]] w fun e w'=>e=.returned (.tuple #[])/\∃d' n os,PermIn 0 d.size d d'/\SortedIn (ltOf qh) 0 d.size d'/\w'=sortWorldK gP 2 w vd off n d' os
def Rq:Prop:=∀(p:Option Addr) (cap:Nat) (fv:Value) (w:World),Calls Tryz.prog 244 #[.slice p 0 cap,fv] w fun e w'=>e=.returned (.tuple #[])/\w'=w
theorem PJ (p:ai) (j:Nat) (a:AV) (h:(ad p)[j]? =some a) (P:Program) (w:World) (D:Nat->Prop) (ι:Names):du P w D ι a (gP p)[j]! :=by
 match j,h with
 |0,h=>simp[ad]at h;subst h;exact .eX _ _ (.int _ _)
 |1,h=>simp[ad]at h;subst h;exact .eX _ _ (.int _ _)
 |j+2,h=>simp[ad]at h
theorem Lf (hC:Rp) (hN:Rq) (ps:List ai) (hlen:ps.length<=1048576) (σ:ax) (id:Id) (hg:σ.get id=some ⟨true,2,ps.map ad⟩):
  Call Tryz.prog 244 [.own id 0 ps.length,.fn 189 []] σ fun r σ'=>σ'.next=σ.next/\(∀x,x≠id->σ'.get x=σ.get x)/\∃qs,σ'.get id=some ⟨true,2,qs.map ad⟩/\qs.length=ps.length/\(∀x,x∈qs↔x∈ps)/\∀i j:Nat,i<j->j<qs.length->ju (j9 qs j) (j9 qs i)=false:=by
 refine fG fun hs D ι w vs S U A=>?_
 obtain⟨u1,us1,rfl,h1,h2⟩:=j3 A
 obtain⟨u2,us2,h3,h4,h5⟩:=j3 h2
 simp at h3;subst h3
 have:=uI h5
 simp at this;subst this
 obtain⟨o,cap,B,rfl,hB,yY,ho,kF,hmax,hk⟩:=jq h1
 obtain⟨Yf,gf,rfl,_,hz,_,_⟩:=wF h4
 have hz':Yf= #[]:=Array.eq_empty_of_size_eq_zero (by simpa using hz)
 subst hz'
 by_cases h0:ps=[]
 ·subst h0
  refine(hN _ _ _ w).mono ?_
  rintro e w' ⟨rfl,rfl⟩
  exact⟨.fP [],σ.get,σ.next,D,ι,_,rfl,⟨rfl,fun _ _=>rfl,[],hg,rfl,fun x=>Iff.rfl,fun i j _ hj=>by simp at hj⟩,Step.refl _ _ _ _,S,U,Nat.le_refl _,.fP [] #[] (fun _=>Go.undef) rfl (fun j hj=>by simp at hj) (fun j a h=>by simp at h)⟩
 have kH:0<ps.length:=List.length_pos_iff.2 h0
 obtain⟨B',eA,R,lW,sD⟩:=S.row id _ hg
 rw[hB]at eA;injection eA with eA;subst eA
 replace R:=R.row hk
 have ew:B.sz=2:=R.sz
 have DW:o=0:=by rcases ho with h|h<;>omega
 subst DW
 obtain⟨cur,T,hblk,ek,pw⟩:=R.cur
 have y4:ps.length*2<=B.C:=by simpa using R.fits
 have hH:HoldsK gP 2 w B.b 0 ps.toArray:=by
  intro t ht
  rw[size_flatK]at ht
  have ht2:t<ps.length*2:=by simpa using ht
  have hi:t / 2<ps.length:=ae
  have PY:w.frozen? ⟨B.b,0+t,none⟩=false:=by
   simp only[World.frozen?,hblk];simp
  refine⟨?_,PY⟩
  rw[get_flatK _ _ _ _ ht]
  have hd:(ps.toArray)[t / 2]! =ps[t / 2]:=by simp[getElem!_pos,hi]
  rw[hd]
  have hj:t % 2=0∨t % 2=1:=ae
  have ht3:0+t=(t / 2)*2+t % 2:=ae
  rw[ht3]
  rcases hj with hj|hj
  ·obtain⟨v,hv,hr⟩:=R.at_ (t / 2) 0 (ad ps[t / 2]) _ (by simp[hi]) rfl
   rw[eb hr]at hv
   rw[hj];exact hv
  ·obtain⟨v,hv,hr⟩:=R.at_ (t / 2) 1 (ad ps[t / 2]) _ (by simp[hi]) rfl
   rw[eb hr]at hv
   rw[hj];exact hv
 have iz:B.b<w.heap.size:=(Array.getElem?_eq_some_iff.1 hblk).1
 have MP:=hC B.b 0 cap ps.toArray w hH iz (by simp;omega)
 rw[show ps.toArray.size=ps.length from by simp]at MP
 refine MP.mono ?_
 rintro e w' ⟨rfl,d',m,os,⟨Ay,_,sE⟩,hsort,rfl⟩
 have y3:d'.size=ps.length:=by rw[Ay];simp
 have Xy:d'.toList.length=ps.length:=by simpa using y3
 have hP:d'.toList.Perm ps:=by
  have e1:d'.extract 0 ps.length=d':=by rw[<-y3];exact Array.extract_size
  have e2:ps.toArray.extract 0 ps.length=ps.toArray:=by
   have:ps.length=ps.toArray.size:=by simp
   rw[this];exact Array.extract_size
  rw[e1,e2]at sE
  simpa using sE
 have hF:∀t,t<ps.length*2->(flatK gP 2 d')[t]! =(gP d'[t / 2]!)[t % 2]! :=fun t ht=>get_flatK _ _ _ _ (by rw[y3];exact ht)
 have WH:(flatK gP 2 d').size=ps.length*2:=by rw[size_flatK,y3]
 have hw:sortWorldK gP 2 w B.b 0 m d' os=Go.Sort.grow (Go.Sort.putRow (fun v:Value=>v) (Go.Sort.ahead w m) B.b 0 (flatK gP 2 d')) os:=rfl
 rw[hw]
 clear hw hH
 generalize flatK gP 2 d'=Fl at hF WH ⊢
 have uq:=S.put (r':=⟨true,2,d'.toList.map ad⟩) (cur':=Go.Sort.putCells (fun v:Value=>v) 0 Fl cur) hg rfl hB hblk (by simp[Go.Sort.putCells]) rfl rfl (by simpa[y3]using y4) (fun cs ek=>by
   obtain⟨x,_,rfl⟩:=List.mem_map.1 ek;rfl) (fun cs ek a ha=>by
   obtain⟨x,_,rfl⟩:=List.mem_map.1 ek
   simp[ad]at ha;rcases ha with rfl|rfl<;>rfl) (fun i j cs a hi hj=>by
   have xD:i<d'.toList.length:=by
    have:=(List.getElem?_eq_some_iff.1 hi).1
    simpa using this
   have TB:j<2:=by
    have:=List.mem_of_getElem? hi
    obtain⟨x,_,rfl⟩:=List.mem_map.1 this
    exact(List.getElem?_eq_some_iff.1 hj).1
   have Tu:cs=ad d'[i]! :=by
    rw[List.getElem?_map,List.getElem?_eq_getElem xD]at hi
    simp at hi
    rw[<-hi,getElem!_pos d' i (by simpa using xD)]
   subst Tu
   have GB:i*2+j<ps.length*2:=ae
   refine⟨(gP d'[i]!)[j]!,?_,PJ _ _ _ hj _ _ _ _⟩
   have pP:i*2+j<cur.size:=by rw[ek];omega
   show(Go.Sort.putCells (fun v:Value=>v) 0 Fl cur)[i*2+j]? = _
   simp only[Go.Sort.putCells,Array.getElem?_mapIdx,Array.getElem?_eq_getElem pP,Option.map_some]
   rw[if_pos ⟨Nat.zero_le _,by rw[WH];omega⟩,Nat.sub_zero,hF _ GB,show(i*2+j) / 2=i from by omega,show(i*2+j) % 2=j from by omega])
 obtain⟨S1,tO⟩:=uq
 have gW:(Go.Sort.putRow (fun v:Value=>v) (Go.Sort.ahead w m) B.b 0 Fl).heap.size=w.heap.size:=by simp
 have E5:∀k,k<(w.setRow B.b (Go.Sort.putCells (fun v:Value=>v) 0 Fl cur)).heap.size->(Go.Sort.grow (Go.Sort.putRow (fun v:Value=>v) (Go.Sort.ahead w m) B.b 0 Fl) os).heap[k]? =(w.setRow B.b (Go.Sort.putCells (fun v:Value=>v) 0 Fl cur)).heap[k]? :=fun k hk=>by
  have Hv:k<w.heap.size:=by simpa using hk
  rw[heap_grow_old _ _ (by rw[gW];exact Hv)]
  simp only[Go.Sort.putRow,Go.Sort.mapBlock,heap_ahead,Array.getElem?_modify]
  by_cases O6:B.b=k
  ·subst O6
   rw[setRow_heap w B.b cur _ T _ hblk,if_pos rfl,hblk];rfl
  ·rw[if_neg O6,setRow_other w B.b k _ (fun h=>O6 h.symm)]
 have rV:(w.setRow B.b (Go.Sort.putCells (fun v:Value=>v) 0 Fl cur)).heap.size<=(Go.Sort.grow (Go.Sort.putRow (fun v:Value=>v) (Go.Sort.ahead w m) B.b 0 Fl) os).heap.size:=by
  rw[size_grow,gW];simp
 have S2:=S1.stay (D':=D) (ι':=ι) E5 rV (fun _ h=>h) (fun b hb=>Nat.lt_of_lt_of_le (S1.dead b hb) rV) (fun _ h=>.inl h) (fun _ _ h=>h)
 have Pm:=tO.trans (Step.stay (D':=D) (ι':=ι) S1 E5 rV (by simp[Go.Sort.grow,Go.Sort.putRow,Go.Sort.mapBlock,Go.Sort.ahead]) (by simp[Go.Sort.grow,Go.Sort.putRow,Go.Sort.mapBlock,Go.Sort.ahead]) (by simp[Go.Sort.grow,Go.Sort.putRow,Go.Sort.mapBlock,Go.Sort.ahead]) (fun _ h=>h) (fun _ h=>.inl h) (fun _ _ h=>h))
 refine⟨.fP [],bI σ.get id ⟨true,2,d'.toList.map ad⟩,σ.next,D,ι,_,rfl,⟨rfl,fun x hx=>by simp[bI,hx],d'.toList,by simp[bI],Xy,fun x=>hP.mem_iff,fun i j BC hj=>?_⟩,Pm,S2,U,Nat.le_refl _,.fP [] #[] (fun _=>Go.undef) rfl (fun j hj=>by simp at hj) (fun j a h=>by simp at h)⟩
 have h:=hsort i j (Nat.zero_le _) BC ae
 rw[ltOf,mX]at h
 have e1:d'[j]! =j9 d'.toList j:=by rw[lh hj,getElem!_pos d' j (by simpa using hj)];rfl
 have hi:i<d'.toList.length:=ae
 have e2:d'[i]! =j9 d'.toList i:=by rw[lh hi,getElem!_pos d' i (by simpa using hi)];rfl
 rw[<-e1,<-e2];exact h
end Go.Proofs.YtainmfbpilopaaaGreatDoor.V

namespace Go.Proofs
open Go.Shelf
def Tryz.H7:Go.Shelf.Ren:=⟨fun|6=>244|15=>254|14=>270|28=>281|29=>282|20=>292|21=>293|22=>294|23=>295|24=>296|25=>297|26=>298|27=>299|46=>309|47=>302|48=>303|49=>310|50=>311|57=>315|n=>n,fun|22=>56|24=>51|25=>237|3=>3|39=>234|0=>0|53=>353|55=>174|4=>4|46=>347|45=>346|50=>213|5=>5|9=>9|66=>371|70=>375|76=>381|77=>382|n=>n,fun|n=>n⟩
theorem Tryz.Oh:Go.Proofs.SlLaysF0.n6 Tryz.prog Tryz.H7:={
 mixed:=by kernel_rfl
 f6:=⟨Tryz.f244.name,by decide,Tryz.func244.trans (congrArg some (by kernel_rfl))⟩
 f14:=⟨Tryz.f270.name,by decide,Tryz.func270.trans (congrArg some (by kernel_rfl))⟩
 f15:=Tryz.func254.trans (congrArg some (by kernel_rfl))
 f20:=⟨Tryz.f292.name,by decide,Tryz.func292.trans (congrArg some (by kernel_rfl))⟩
 f21:=⟨Tryz.f293.name,by decide,Tryz.func293.trans (congrArg some (by kernel_rfl))⟩
 f22:=⟨Tryz.f294.name,by decide,Tryz.func294.trans (congrArg some (by kernel_rfl))⟩
 f23:=⟨Tryz.f295.name,by decide,Tryz.func295.trans (congrArg some (by kernel_rfl))⟩
 f24:=⟨Tryz.f296.name,by decide,Tryz.func296.trans (congrArg some (by kernel_rfl))⟩
 f25:=⟨Tryz.f297.name,by decide,Tryz.func297.trans (congrArg some (by kernel_rfl))⟩
 f26:=⟨Tryz.f298.name,by decide,Tryz.func298.trans (congrArg some (by kernel_rfl))⟩
 f27:=⟨Tryz.f299.name,by decide,Tryz.func299.trans (congrArg some (by kernel_rfl))⟩
 f28:=Tryz.func281.trans (congrArg some (by kernel_rfl))
 f29:=Tryz.func282.trans (congrArg some (by kernel_rfl))
 f46:=⟨Tryz.f309.name,by decide,Tryz.func309.trans (congrArg some (by kernel_rfl))⟩
 f47:=Tryz.func302.trans (congrArg some (by kernel_rfl))
 f48:=Tryz.func303.trans (congrArg some (by kernel_rfl))
 f49:=⟨Tryz.f310.name,by decide,Tryz.func310.trans (congrArg some (by kernel_rfl))⟩
 f50:=⟨Tryz.f311.name,by decide,Tryz.func311.trans (congrArg some (by kernel_rfl))⟩
 f57:=⟨Tryz.f315.name,by decide,Tryz.func315.trans (congrArg some (by kernel_rfl))⟩
 t0:=Tryz.underlying0
 a0:=Tryz.isAgg0
 z0:=Tryz.sizeOf0
 v0:=Tryz.zeroValue0
 t3:=Tryz.underlying3
 a3:=Tryz.isAgg3
 z3:=Tryz.sizeOf3
 v3:=Tryz.zeroValue3
 t4:=Tryz.underlying4
 a4:=Tryz.isAgg4
 z4:=Tryz.sizeOf4
 v4:=Tryz.zeroValue4
 t5:=Tryz.underlying5
 a5:=Tryz.isAgg5
 z5:=Tryz.sizeOf5
 v5:=Tryz.zeroValue5
 t9:=Tryz.underlying9
 a9:=Tryz.isAgg9
 z9:=Tryz.sizeOf9
 v9:=Tryz.zeroValue9
 t22:=Tryz.underlying56
 a22:=Tryz.isAgg56
 z22:=Tryz.sizeOf56
 v22:=Tryz.zeroValue56
 t25:=Tryz.underlying237
 a25:=Tryz.isAgg237
 z25:=Tryz.sizeOf237
 v25:=Tryz.zeroValue237
 t39:=Tryz.underlying234
 a39:=Tryz.isAgg234
 z39:=Tryz.sizeOf234
 v39:=Tryz.zeroValue234
 t45:=Tryz.underlying346
 a45:=Tryz.isAgg346
 z45:=Tryz.sizeOf346
 v45:=Tryz.zeroValue346
 t46:=Tryz.underlying347
 a46:=Tryz.isAgg347
 z46:=Tryz.sizeOf347
 v46:=Tryz.zeroValue347
 t50:=Tryz.underlying213
 a50:=Tryz.isAgg213
 z50:=Tryz.sizeOf213
 v50:=Tryz.zeroValue213
 t53:=Tryz.underlying353
 a53:=Tryz.isAgg353
 z53:=Tryz.sizeOf353
 v53:=Tryz.zeroValue353
 t55:=Tryz.underlying174
 a55:=Tryz.isAgg174
 z55:=Tryz.sizeOf174
 v55:=Tryz.zeroValue174
 t66:=Tryz.underlying371
 a66:=Tryz.isAgg371
 z66:=Tryz.sizeOf371
 v66:=Tryz.zeroValue371
 t70:=Tryz.underlying375
 a70:=Tryz.isAgg375
 z70:=Tryz.sizeOf375
 v70:=Tryz.zeroValue375
 t76:=Tryz.underlying381
 a76:=Tryz.isAgg381
 z76:=Tryz.sizeOf381
 v76:=Tryz.zeroValue381
 t77:=Tryz.underlying382
 a77:=Tryz.isAgg382
 z77:=Tryz.sizeOf382
 v77:=Tryz.zeroValue382}
def Tryz.H6:Go.Shelf.Ren:=⟨fun|6=>213|15=>254|14=>253|28=>281|29=>282|20=>273|21=>274|22=>275|23=>276|24=>277|25=>278|26=>279|27=>280|46=>301|47=>302|48=>303|49=>304|50=>305|57=>312|n=>n,fun|22=>29|24=>64|25=>261|3=>3|39=>234|0=>0|53=>353|55=>174|4=>4|46=>347|45=>346|50=>213|5=>5|9=>9|66=>371|70=>375|76=>381|77=>382|n=>n,fun|n=>n⟩
theorem Tryz.Og:Go.Proofs.SlLaysF0.n6 Tryz.prog Tryz.H6:={
 mixed:=by kernel_rfl
 f6:=⟨Tryz.f213.name,by decide,Tryz.func213.trans (congrArg some (by kernel_rfl))⟩
 f14:=⟨Tryz.f253.name,by decide,Tryz.func253.trans (congrArg some (by kernel_rfl))⟩
 f15:=Tryz.func254.trans (congrArg some (by kernel_rfl))
 f20:=⟨Tryz.f273.name,by decide,Tryz.func273.trans (congrArg some (by kernel_rfl))⟩
 f21:=⟨Tryz.f274.name,by decide,Tryz.func274.trans (congrArg some (by kernel_rfl))⟩
 f22:=⟨Tryz.f275.name,by decide,Tryz.func275.trans (congrArg some (by kernel_rfl))⟩
 f23:=⟨Tryz.f276.name,by decide,Tryz.func276.trans (congrArg some (by kernel_rfl))⟩
 f24:=⟨Tryz.f277.name,by decide,Tryz.func277.trans (congrArg some (by kernel_rfl))⟩
 f25:=⟨Tryz.f278.name,by decide,Tryz.func278.trans (congrArg some (by kernel_rfl))⟩
 f26:=⟨Tryz.f279.name,by decide,Tryz.func279.trans (congrArg some (by kernel_rfl))⟩
 f27:=⟨Tryz.f280.name,by decide,Tryz.func280.trans (congrArg some (by kernel_rfl))⟩
 f28:=Tryz.func281.trans (congrArg some (by kernel_rfl))
 f29:=Tryz.func282.trans (congrArg some (by kernel_rfl))
 f46:=⟨Tryz.f301.name,by decide,Tryz.func301.trans (congrArg some (by kernel_rfl))⟩
 f47:=Tryz.func302.trans (congrArg some (by kernel_rfl))
 f48:=Tryz.func303.trans (congrArg some (by kernel_rfl))
 f49:=⟨Tryz.f304.name,by decide,Tryz.func304.trans (congrArg some (by kernel_rfl))⟩
 f50:=⟨Tryz.f305.name,by decide,Tryz.func305.trans (congrArg some (by kernel_rfl))⟩
 f57:=⟨Tryz.f312.name,by decide,Tryz.func312.trans (congrArg some (by kernel_rfl))⟩
 t0:=Tryz.underlying0
 a0:=Tryz.isAgg0
 z0:=Tryz.sizeOf0
 v0:=Tryz.zeroValue0
 t3:=Tryz.underlying3
 a3:=Tryz.isAgg3
 z3:=Tryz.sizeOf3
 v3:=Tryz.zeroValue3
 t4:=Tryz.underlying4
 a4:=Tryz.isAgg4
 z4:=Tryz.sizeOf4
 v4:=Tryz.zeroValue4
 t5:=Tryz.underlying5
 a5:=Tryz.isAgg5
 z5:=Tryz.sizeOf5
 v5:=Tryz.zeroValue5
 t9:=Tryz.underlying9
 a9:=Tryz.isAgg9
 z9:=Tryz.sizeOf9
 v9:=Tryz.zeroValue9
 t22:=Tryz.underlying29
 a22:=Tryz.isAgg29
 z22:=Tryz.sizeOf29
 v22:=Tryz.zeroValue29
 t25:=Tryz.underlying261
 a25:=Tryz.isAgg261
 z25:=Tryz.sizeOf261
 v25:=Tryz.zeroValue261
 t39:=Tryz.underlying234
 a39:=Tryz.isAgg234
 z39:=Tryz.sizeOf234
 v39:=Tryz.zeroValue234
 t45:=Tryz.underlying346
 a45:=Tryz.isAgg346
 z45:=Tryz.sizeOf346
 v45:=Tryz.zeroValue346
 t46:=Tryz.underlying347
 a46:=Tryz.isAgg347
 z46:=Tryz.sizeOf347
 v46:=Tryz.zeroValue347
 t50:=Tryz.underlying213
 a50:=Tryz.isAgg213
 z50:=Tryz.sizeOf213
 v50:=Tryz.zeroValue213
 t53:=Tryz.underlying353
 a53:=Tryz.isAgg353
 z53:=Tryz.sizeOf353
 v53:=Tryz.zeroValue353
 t55:=Tryz.underlying174
 a55:=Tryz.isAgg174
 z55:=Tryz.sizeOf174
 v55:=Tryz.zeroValue174
 t66:=Tryz.underlying371
 a66:=Tryz.isAgg371
 z66:=Tryz.sizeOf371
 v66:=Tryz.zeroValue371
 t70:=Tryz.underlying375
 a70:=Tryz.isAgg375
 z70:=Tryz.sizeOf375
 v70:=Tryz.zeroValue375
 t76:=Tryz.underlying381
 a76:=Tryz.isAgg381
 z76:=Tryz.sizeOf381
 v76:=Tryz.zeroValue381
 t77:=Tryz.underlying382
 a77:=Tryz.isAgg382
 z77:=Tryz.sizeOf382
 v77:=Tryz.zeroValue382}
end Go.Proofs

namespace Go.Proofs.YtainmfbpilopaaaGreatDoor.V
open Go.RowKit Go.Shelf Go.Lib Go.Sort
theorem EB (w:World) (a b:Int):Calls Tryz.prog 233 #[.int .i64 a,.int .i64 b] w fun e w'=>e=.returned (.int .i64 (tY a b))/\w=w':=by
 go_enter Tryz.func233,Tryz.ntmps233
 go_wp2_with go_in
 all_goals
  go_ret
  exact⟨Jl (by unfold tY;split<;>(try split)<;>omega),rfl⟩
theorem QD (w:World) (a b:Int) (g:Nat) (ha:w.cell? ⟨g,0,none⟩=some (.int .i64 a)) (hb:w.cell? ⟨g,1,none⟩=some (.int .i64 b)):Calls Tryz.prog 232 #[.slice (some ⟨g,0,none⟩) 2 2] w fun e w'=>e=.returned (.int .i64 (QE a b))/\w=w':=by
 go_enter Tryz.func232,Tryz.ntmps232
 go_wp2_with fail
 go_loop [8] (fun i=>∃k:Nat,k<=2/\i=.int .i64 k/\Hid ((1<=k->a=0)/\(2<=k->b=0))) (fun i=>2-(intOf i).toNat)
 case atStart=>exact⟨0,ae,rfl,Lib.hid ⟨fun h=>ae,fun h=>ae⟩⟩
 case round=>
  obtain⟨k,hk,rfl,hz⟩:=hrel
  have h3:k=0∨k=1∨k=2:=ae
  rcases h3 with rfl|rfl|rfl
  ·go_wp2_with fail
   ·rename_i h
    go_ret
    exact⟨Jl (by unfold QE;simp_all),rfl⟩
   ·rename_i h
    go_round
    case rel=>exact⟨1,ae,rfl,Lib.hid ⟨fun _=>by simpa using h,fun h=>ae⟩⟩
    case measure=>simp[intOf]
  ·have h0:=hz.out.1 ae
   replace h0:=Lib.hid h0
   go_wp2_with fail
   ·go_ret
    exact⟨Jl (by unfold QE;rw[if_pos h0.out]),rfl⟩
   ·rename_i h
    go_round
    case rel=>exact⟨2,ae,rfl,Lib.hid ⟨fun _=>h0.out,fun _=>by simpa using h⟩⟩
    case measure=>simp[intOf]
  ·have h0:=Lib.hid (hz.out.1 ae)
   have h1:=Lib.hid (hz.out.2 ae)
   go_wp2_with fail
   go_ret
   exact⟨Jl (by unfold QE;rw[if_pos h0.out,h1.out]),rfl⟩
def Grown (w w':World):Prop:=∃(q:Nat) (os:Array Obj),w'=Go.Sort.grow (w.drewN q) os
theorem Grown.refl (w:World):Grown w w:=⟨0, #[],by rw[grow_empty];rfl⟩
theorem Grown.alloc {w w':World} (h:Grown w w') (o:Obj):Grown w (w'.alloc o):=by
 obtain⟨q,os,rfl⟩:=h
 exact⟨q,os++ #[o],by rw[alloc_eq_grow,grow_grow]⟩
theorem Grown.drew {w w':World} (h:Grown w w'):Grown w w'.drew:=by
 obtain⟨q,os,rfl⟩:=h
 exact⟨q+1,os,by rw[drew_grow];rfl⟩
theorem Grown.dN {w w':World} (h:Grown w w') (n:Nat):Grown w (w'.drewN n):=by
 obtain⟨q,os,rfl⟩:=h
 exact⟨q+n,os,by
  show Go.Sort.grow ((w.drewN q).drewN n) os=Go.Sort.grow (w.drewN (q+n)) os
  simp[World.drewN,Nat.add_assoc]⟩
theorem pj (w:World) (a b:ai):Calls Tryz.prog 189 #[.agg #[.int .i64 a.eV,.int .i64 a.eQ],.agg #[.int .i64 b.eV,.int .i64 b.eQ]] w fun e w'=>e=.returned (.int .i64 (qh a b))/\Grown w w':=by
 go_enter Tryz.func189,Tryz.ntmps189
 go_wp2_with fail
 go_region_held3 (fun w'=>w'.cell? ⟨w.heap.size,0,none⟩=some (.int .i64 a.eV)/\w'.cell? ⟨w.heap.size,1,none⟩=some (.int .i64 a.eQ)/\
   w'.cell? ⟨w.heap.size+1,0,none⟩=some (.int .i64 b.eV)/\w'.cell? ⟨w.heap.size+1,1,none⟩=some (.int .i64 b.eQ))
  (first|go_keep)
  (first|(go_at_call 233;refine(EB _ _ _).mono ?_;rintro e w' ⟨rfl,rfl⟩)|(go_at_call 232;refine(QD _ (tY a.eQ b.eQ) (tY a.eV b.eV) _ (by simp[go_sem]) (by simp[go_sem])).mono ?_;rintro e w' ⟨rfl,rfl⟩))
 go_wp2_with fail
 go_ret
 refine⟨rfl,?_⟩
 repeat(first|(with_reducible exact Grown.refl _)|(refine Grown.alloc ?_ _)|(refine Grown.drew ?_)|(refine Grown.dN ?_ _))
theorem swoP:SWO (ltOf qh) where
 irrefl x:=by rw[ltOf,mX];exact iD
 trans x y z h1 h2:=by rw[ltOf,mX]at *;exact iF h1 h2
 ntrans x y z h1 h2:=by rw[ltOf,mX]at *;rw[nY]at *;omega
theorem Yb:Rp:=fun vd off cap d w hH hblk ew=>by
 have eg:∀args w,(callFunc 189 args).run Tryz.prog w=.ok (.enter 189 args) w:=enters_of Tryz.func189 (by kernel_rfl) rfl
 have h:=AnyQ.slices_SortFunc Tryz.Oh 2 Tryz.isAgg51 Tryz.sizeOf51 gP (fun _=>rfl) (fun x v hv=>by simp[gP]at hv;rcases hv with rfl|rfl<;>rfl) qh swoP 189 #[] vd off cap d w eg (fun m os dk _ x y=>(pj _ x y).mono fun _ _ ⟨he,q,os',hw⟩=>⟨he,q,os',hw⟩) hH hblk ew
 exact h
theorem Sa:Rq:=fun p cap fv w=>AnyF.slices_SortFunc_none Tryz.Oh p cap fv w
end Go.Proofs.YtainmfbpilopaaaGreatDoor.V

namespace Go.Proofs.YtainmfbpilopaaaGreatDoor.V
open Go.RowKit
attribute [local irreducible] ea wpOps fB Call
abbrev mP:MK:=⟨true,[.tI,.tI]⟩
theorem FO (p:ai):∀(ts:List aa) (i:Nat),gG mP (ad p) (ts.map ab) i=some (if rW ts p<ts.length then some (i+rW ts p)else none)
 |[],i=>by simp[gG,rW]
 |t::ts,i=>by
  have e:eP mP.ts (ad p) ((ab t).take mP.ks)=some (decide (p=t.aI)):=by
   have h:(p=t.aI)↔(p.eV=t.aI.eV/\p.eQ=t.aI.eQ):=⟨fun h=>by rw[h];exact⟨rfl,rfl⟩,fun h=>zM h.1 h.2⟩
   simp[MK.ks,ad,ab,eP,fu,h]
  have ih:=FO p ts (i+1)
  rw[List.map_cons]
  unfold gG
  rw[e]
  by_cases h:p=t.aI
  ·rw[decide_eq_true h]
   have h0:rW (t::ts) p=0:=by simp[rW,List.findIdx_cons,h]
   simp[h0]
  ·rw[decide_eq_false h]
   have h0:rW (t::ts) p=rW ts p+1:=by
    simp[rW,List.findIdx_cons,Ne.symm h]
   simp only[ih,h0,List.length_cons,Nat.add_lt_add_iff_right]
   congr 1
   split<;>simp;omega
theorem BR (ts:List aa) (p:ai):gC mP (.agg [.int .i64 p.eV,.int .i64 p.eQ]) (ts.map ab)=some (if 0<=dm ts p then some (dm ts p).toNat else none):=by
 have h:=FO p ts 0
 unfold gC
 rw[if_pos ⟨rfl,rfl,rfl⟩]
 show gG mP (ad p) _ 0= _
 rw[h]
 unfold dm
 split<;>simp
theorem KR {ts:List aa} {p:ai} (h:0<=dm ts p):gC mP (.agg [.int .i64 p.eV,.int .i64 p.eQ]) (ts.map ab)=some (some (dm ts p).toNat):=by rw[BR,if_pos h]
theorem mA {ts:List aa} {p:ai} (h:dm ts p<0):gC mP (.agg [.int .i64 p.eV,.int .i64 p.eQ]) (ts.map ab)=some none:=by rw[BR,if_neg ae]
structure A9 (g:Rows) (n:Nat) (c T O:Id) (s:au) (ts:List aa):Prop where
 row:∃b,g c=some ⟨b,6,[[.sl (s.aD.bh.map dZ),.sl (s.aD.aj.map dx),.sl (s.bH.aj.map ab),.int .i64 s.aE,.map T mP,.map O mP]]⟩
 tl:∃b,g T=some ⟨b,mP.j4,ts.map ab⟩
 cv:c.bq<n
 tv:T.bq<n
 ov:O.bq<n
theorem A9.ro {g:Rows} {n:Nat} {c T O:Id} {s:au} {ts:List aa} (h:A9 g n c T O s ts):A9 (V.ro g) n c T O s ts:=by
 obtain⟨b,h1⟩:=h.row
 obtain⟨b2,h2⟩:=h.tl
 exact⟨⟨false,by simp[V.ro,h1]⟩,⟨false,by simp[V.ro,h2]⟩,h.cv,h.tv,h.ov⟩
theorem A9.frame {g g':Rows} {n n':Nat} {c T O:Id} {s:au} {ts:List aa} (h:A9 g n c T O s ts) (hn:n<=n') (hc:g' c=g c) (hT:g' T=g T):A9 g' n' c T O s ts:=
 ⟨by rw[hc];exact h.row,by rw[hT];exact h.tl,Nat.lt_of_lt_of_le h.cv hn,Nat.lt_of_lt_of_le h.tv hn,Nat.lt_of_lt_of_le h.ov hn⟩
theorem ZM {σ:ax} {c T O:Id} {s:au} {ts:List aa} (h:A9 σ.get σ.next c T O s ts) (p:ai):Call Tryz.prog 152 [.ptr c 0 0,.agg (ad p)] σ (fun r _=>r=.int .i64 (eM ts p)):=by
 refine eZ fx rfl fun fD=>?_
 clear fD
 obtain⟨b,h1⟩:=h.row
 obtain⟨b2,h2⟩:=h.tl
 have v1:=bZ h.cv
 have v2:=bZ h.tv
 by_cases h0:0<=dm ts p
 ·have hm:=KR h0
  have hg:=fM (iC h0).1
  have ho:(some (dm ts p).toNat).isSome=true:=rfl
  (try((repeat(revert N;apply Pn.out));refine wk (tw @h1 (tw @h2 (tw @v1 (tw @v2 (tw @hm (tw @hg (tw @ho (tw @ad.eq_1 @ab.eq_1)))))))) ?_;(repeat(apply Pn.mk;intro N hN))))
  exact eo (.inl rfl) (vs:=[.int .i64 (aA ts (dm ts p).toNat).aY]) (sd @Nat.zero_add) (by rw[eM,if_pos h0];rfl)
 ·have hm:=mA (ts:=ts) (p:=p) ae
  have ho:(none:Option Nat).isSome=false:=rfl
  (try((repeat(revert N;apply Pn.out));refine wk (tw @h1 (tw @h2 (tw @v1 (tw @v2 (tw @hm (tw @ho @ad.eq_1)))))) ?_;(repeat(apply Pn.mk;intro N hN))))
  exact eo (.inl rfl) (vs:=[.int .i64 (-1)]) (sd @Nat.zero_add) (by rw[eM,if_neg h0];rfl)
theorem SB {σ:ax} {c T O:Id} {s:au} {ts:List aa} (h:A9 σ.get σ.next c T O s ts) (p:ai):fB (Call Tryz.prog) 152 [.ptr c 0 0,.agg (ad p)] σ (fun r=>r=.int .i64 (eM ts p)):=by
 unfold fB PC
 exact Or.inl (ay _ _ _ _ _ (fun r σ' hr=>⟨_,by rw[hr];exact aV _ _ _ _,rfl⟩) (ZM (σ:=⟨V.ro σ.get,σ.next⟩) h.ro p))
theorem JJ {σ:ax} (s:az) (hS:gy s) (F:ai->Int) (hF:∀q,0<=F q->eE s (F q)=true) (p:ai) (hx:iB p.eV) (hy:iB p.eQ) (t:Int) (ht:eE s t=true) (f:Nat) (first:List AV)
  (pw:∀σ':ax,σ.next<=σ'.next->(∀x:Id,x.bq<σ.next->σ'.get x=σ.get x)->∀q,fB (Call Tryz.prog) f (first++[.agg (ad q)]) σ' (fun r=>r=.int .i64 (F q))):
  Call Tryz.prog 151 [.agg (ah s),.agg (ad p),.int .i64 t,.xh f first] σ (fun r _=>r=.int .i64 (jE s F p t)):=by
 refine eZ fx rfl fun fD=>?_
 clear fD
 (try((repeat(revert N;apply Pn.out));refine wk (tw @ad.eq_1 @ah.eq_1) ?_;(repeat(apply Pn.mk;intro N hN))))
 refine cm (fun n env st=>∃k:Nat,n=(4)-k/\k<=(4)/\env 12=.int .i64 (k:Int)/\env 9=.int .i64 (dw s F p t k)/\st.get ⟨151000000,σ.next⟩=some ⟨true,2,[ah s]⟩/\st.get ⟨151000001,σ.next⟩=some ⟨true,2,[ad p]⟩/\(σ.next<st.next/\∀x:Id,x.bq<σ.next->st.get x=σ.get x)) (4) ⟨0,ae,ae,sl (tw @ad.eq_1 @ah.eq_1),sl (tw @ad.eq_1 @ah.eq_1),sl (tw @ad.eq_1 @ah.eq_1),sl (tw @ad.eq_1 @ah.eq_1),⟨aH,fun x hx=>by
  have:=bZ hx
  simp only[go_sem, ↓reduceIte,Nat.reduceEqDiff,Nat.reduceAdd,Nat.reduceSub,Nat.reduceLeDiff,reduceCtorEq,this]⟩⟩ ?_
 rintro n_a env_a st_a ⟨k,rfl,ale,a12,a9,ag0,ag1,qN⟩ eF
 have a2:=eF 2 (by kernel_rfl);have a3:=eF 3 (by kernel_rfl);have a4:=eF 4 (by kernel_rfl);have a5:=eF 5 (by kernel_rfl)
 simp only[go_sem, ↓reduceIte,Nat.reduceEqDiff,Nat.reduceAdd,Nat.reduceSub,Nat.reduceLeDiff,reduceCtorEq,ad,ah]at a2 a3 a4 a5
 clear eF
 obtain⟨an,eF⟩:=qN
 by_cases hk:(k:Int)<4
 ·have eh:∀{e:Env} {gg:Rows} {nx:Nat},(e 12=.int .i64 (IntKind.i64.wrap ((k:Int)+1)))->(e 9=.int .i64 (dw s F p t (k+1)))->(gg ⟨151000000,σ.next⟩=some ⟨true,2,[ah s]⟩)->(gg ⟨151000001,σ.next⟩=some ⟨true,2,[ad p]⟩)->(σ.next<nx/\∀x:Id,x.bq<σ.next->gg x=σ.get x)->∃m0,m0<(4)-k/\∃k:Nat,m0=(4)-k/\k<=(4)/\e 12=.int .i64 (k:Int)/\e 9=.int .i64 (dw s F p t k)/\gg ⟨151000000,σ.next⟩=some ⟨true,2,[ah s]⟩/\gg ⟨151000001,σ.next⟩=some ⟨true,2,[ad p]⟩/\(σ.next<nx/\∀x:Id,x.bq<σ.next->gg x=σ.get x):=fun x1 x2 x3 x4 x5=>⟨_,ae,k+1,rfl,ae,(by rw[x1,bf ae]),x2,x3,x4,x5⟩
  have ed:=DF p k (jU ae) hx hy
  have gV:=lD hS F p t k
  (have zF:=tw @a12 (tw @a9 (tw @ag0 (tw @ag1 (tw @a2 (tw @a3 (tw @a4 (tw @a5 (tw @hk @ad.eq_1))))))));(repeat(first|((repeat(revert N;apply Pn.out));refine wk zF ?_;(repeat(apply Pn.mk;intro N hN)))|((try apply Or.inl);refine⟨_,aw.x (ed) (sd zF),?_⟩;apply hN;clear hN N)));try clear zF)
  refine .inl ⟨_,pw _ aH (fun x hx=>sd (eF x hx)) (bc p k),?_⟩
  apply hN
  clear hN N
  by_cases h0:0<=F (bc p k)
  ·have IY:=Mi s hS.form t k (F (bc p k)) ht (hF _ h0) (jU ae)
   have pN:=qb hS t k (F (bc p k))
   have hw:IntKind.i64.wrap (dw s F p t k+gh s t k (F (bc p k)))=dw s F p t (k+1):=by
    rw[db ae,dw,if_pos h0]
   rw[ah]at IY
   (have zF:=tw @a12 (tw @a9 (tw @ag0 (tw @ag1 (tw @a2 (tw @a3 (tw @a4 (tw @a5 (tw @h0 @ah.eq_1))))))));(repeat(first|((repeat(revert N;apply Pn.out));refine wk zF ?_;(repeat(apply Pn.mk;intro N hN)))|((try apply Or.inl);refine⟨_,aw.x (IY) (sd zF),?_⟩;apply hN;clear hN N)));try clear zF)
   refine eh ?_ ?_ ?_ ?_ (⟨aH,fun x hx=>by
    have h1:=eF x hx
    simp only[go_sem, ↓reduceIte,Nat.reduceEqDiff,Nat.reduceAdd,Nat.reduceSub,Nat.reduceLeDiff,reduceCtorEq,h1]⟩)
   all_goals simp only[go_sem, ↓reduceIte,Nat.reduceEqDiff,Nat.reduceAdd,Nat.reduceSub,Nat.reduceLeDiff,reduceCtorEq,a12,a9,ag0,ag1,a2,a3,a4,a5,hw,ad,ah]
  ·have hw:dw s F p t (k+1)=dw s F p t k:=by rw[dw,if_neg h0,Int.add_zero]
   (try((repeat(revert N;apply Pn.out));refine wk (tw @a12 (tw @a9 (tw @ag0 (tw @ag1 (tw @a2 (tw @a3 (tw @a4 (tw @a5 @h0)))))))) ?_;(repeat(apply Pn.mk;intro N hN))))
   refine eh ?_ ?_ ?_ ?_ (⟨aH,fun x hx=>by
    have h1:=eF x hx
    simp only[go_sem, ↓reduceIte,Nat.reduceEqDiff,Nat.reduceAdd,Nat.reduceSub,Nat.reduceLeDiff,reduceCtorEq,h1]⟩)
   all_goals simp only[go_sem, ↓reduceIte,Nat.reduceEqDiff,Nat.reduceAdd,Nat.reduceSub,Nat.reduceLeDiff,reduceCtorEq,a12,a9,ag0,ag1,a2,a3,a4,a5,hw,ad,ah]
 ·(try((repeat(revert N;apply Pn.out));refine wk (tw @a12 (tw @a9 (tw @ag0 (tw @ag1 (tw @a2 (tw @a3 (tw @a4 (tw @a5 @hk)))))))) ?_;(repeat(apply Pn.mk;intro N hN))))
  exact eo (.inl rfl) (vs:=[.int .i64 (dw s F p t k)]) (sd (tw @a12 (tw @a9 (tw @ag0 (tw @ag1 (tw @a2 (tw @a3 (tw @a4 @a5)))))))) (by rw[show k=4 by omega];rfl)
noncomputable def ee (s:au) (ts:List aa) (p:ai) (t:Int):Bool:=xG p&&decide (eM ts p<0)&&decide (s.aE<=jE s.aD (eM ts) p t)
theorem JK {σ:ax} {c T O:Id} {s:au} {ts:List aa} (h:A9 σ.get σ.next c T O s ts) (hS:gy s.aD) (hF:∀q,0<=eM ts q->eE s.aD (eM ts q)=true) (p:ai) (hx:iB p.eV) (hy:iB p.eQ) (t:Int) (ht:eE s.aD t=true):
  fB (Call Tryz.prog) 151 [.agg (ah s.aD),.agg (ad p),.int .i64 t,.xh 152 [.ptr c 0 0]] σ (fun r=>r=.int .i64 (jE s.aD (eM ts) p t)):=by
 unfold fB PC
 exact Or.inl (ay _ _ _ _ _ (fun r σ' hr=>⟨_,by rw[hr];exact aV _ _ _ _,rfl⟩) (JJ (σ:=⟨V.ro σ.get,σ.next⟩) s.aD hS (eM ts) hF p hx hy t ht _ _
  (fun σ' hn hk q=>SB (h.ro.frame hn (hk _ h.cv) (hk _ h.tv)) q)))
theorem SX {σ:ax} {c T O:Id} {s:au} {ts:List aa} (h:A9 σ.get σ.next c T O s ts) (hS:gy s.aD) (hF:∀q,0<=eM ts q->eE s.aD (eM ts q)=true) (p:ai) (t:Int) (ht:eE s.aD t=true):
  Call Tryz.prog 101 [.ptr c 0 0,.agg (ad p),.int .i64 t] σ (fun r _=>r=.bool (ee s ts p t)):=by
 refine eZ fx rfl fun fD=>?_
 clear fD
 obtain⟨b,h1⟩:=h.row
 have v1:=bZ h.cv
 have hw:=tP p
 have v2:=bZ h.tv
 by_cases h0:xG p=true
 ·rw[h0]at hw
  obtain⟨hx,hy⟩:=oR h0
  by_cases h2:eM ts p<0
  ·(have zF:=tw @h1 (tw @v1 (tw @h2 @ad.eq_1));(repeat(first|((repeat(revert N;apply Pn.out));refine wk zF ?_;(repeat(apply Pn.mk;intro N hN)))|((try apply Or.inl);refine⟨_,aw.x (hw) (sd zF),?_⟩;apply hN;clear hN N)));try clear zF)
   refine⟨_,SB (h.frame aH (sd @v1) (sd @v2)) p,?_⟩
   apply hN
   clear hN N
   (have zF:=tw @h1 (tw @v1 (tw @h2 (tw @ad.eq_1 @ah.eq_1)));(repeat(first|((repeat(revert N;apply Pn.out));refine wk zF ?_;(repeat(apply Pn.mk;intro N hN)))|((try apply Or.inl);refine⟨_,aw.x (hw) (sd zF),?_⟩;apply hN;clear hN N)));try clear zF)
   refine⟨_,JK (h.frame aH (sd @v1) (sd @v2)) hS hF p hx hy t ht,?_⟩
   apply hN
   clear hN N
   have hb:=lD hS (eM ts) p t 4
   (have zF:=tw @h1 (tw @v1 (tw @h2 (tw @ad.eq_1 @ah.eq_1)));(repeat(first|((repeat(revert N;apply Pn.out));refine wk zF ?_;(repeat(apply Pn.mk;intro N hN)))|((try apply Or.inl);refine⟨_,aw.x (hw) (sd zF),?_⟩;apply hN;clear hN N)));try clear zF)
   exact eo (.inl rfl) (vs:=[.bool (decide (s.aE<=jE s.aD (eM ts) p t))]) (sd @Nat.zero_add) (by rw[show ee s ts p t=decide (s.aE<=jE s.aD (eM ts) p t) by simp[ee,h0,h2]];rfl)
  ·(have zF:=tw @h1 (tw @v1 (tw @h2 @ad.eq_1));(repeat(first|((repeat(revert N;apply Pn.out));refine wk zF ?_;(repeat(apply Pn.mk;intro N hN)))|((try apply Or.inl);refine⟨_,aw.x (hw) (sd zF),?_⟩;apply hN;clear hN N)));try clear zF)
   refine⟨_,SB (h.frame aH (sd @v1) (sd @v2)) p,?_⟩
   apply hN
   clear hN N
   (have zF:=tw @h1 (tw @v1 (tw @h2 @ad.eq_1));(repeat(first|((repeat(revert N;apply Pn.out));refine wk zF ?_;(repeat(apply Pn.mk;intro N hN)))|((try apply Or.inl);refine⟨_,aw.x (hw) (sd zF),?_⟩;apply hN;clear hN N)));try clear zF)
   exact eo (.inl rfl) (vs:=[.bool false]) (sd @Nat.zero_add) (by rw[show ee s ts p t=false by simp[ee,h2]];rfl)
 ·rw[Bool.not_eq_true]at h0
  rw[h0]at hw
  (have zF:=tw @h1 (tw @v1 @ad.eq_1);(repeat(first|((repeat(revert N;apply Pn.out));refine wk zF ?_;(repeat(apply Pn.mk;intro N hN)))|((try apply Or.inl);refine⟨_,aw.x (hw) (sd zF),?_⟩;apply hN;clear hN N)));try clear zF)
  exact eo (.inl rfl) (vs:=[.bool false]) (sd @Nat.zero_add) (by rw[show ee s ts p t=false by simp[ee,h0]];rfl)
def OW (rows:List (List AV)):Prop:=∀r∈rows,∃(x y:Int) (v:AV),r=[.int .i64 x,.int .i64 y,v]
theorem Jh (x y:Int):∀(rows:List (List AV)) (i:Nat),OW rows->∃fi,gG mP [.int .i64 x,.int .i64 y] rows i=some fi
 |[],i,_=>⟨none,by simp[gG]⟩
 |r::rs,i,h=>by
  obtain⟨fi,hf⟩:=Jh x y rs (i+1) fun r hr=>h r (by simp[hr])
  obtain⟨x',y',v,rfl⟩:=h r (by simp)
  unfold gG
  have e:eP mP.ts [.int .i64 x,.int .i64 y] (([.int .i64 x',.int .i64 y',v]:List AV).take mP.ks)=some (decide (x=x')&&decide (y=y')):=by
   simp[MK.ks,eP,fu]
  rw[e]
  cases decide (x=x')&&decide (y=y')
  ·exact⟨fi,hf⟩
  ·exact⟨some i,rfl⟩
theorem FY {rows:List (List AV)} (h:OW rows) (x y:Int):∃fi,gC mP (.agg [.int .i64 x,.int .i64 y]) rows=some fi:=by
 unfold gC
 rw[if_pos ⟨rfl,rfl,rfl⟩]
 exact Jh x y rows 0 h
theorem Um {rows:List (List AV)} (h:OW rows) (x y:Int) (v:AV) (fi:Option Nat):OW (dr rows [.int .i64 x,.int .i64 y,v] fi):=by
 intro r hr
 cases fi with
 |none=>
  rcases List.mem_append.1 (show r∈rows++[_]from hr)with h1|h1
  ·exact h r h1
  ·simp at h1;exact⟨x,y,v,h1⟩
 |some i=>
  rcases List.mem_or_eq_of_mem_set (show r∈rows.set i _ from hr)with h1|h1
  ·exact h r h1
  ·exact⟨x,y,v,h1⟩
theorem NQ {rows:List (List AV)} (h:OW rows) (fi:Option Nat):OW (dq rows fi):=by
 intro r hr
 cases fi with
 |none=>exact h r (by simpa[dq]using hr)
 |some i=>exact h r (List.mem_of_mem_eraseIdx (by simpa[dq]using hr))
def kM (σ:ax) (O:Id) (g:Rows) (n:Nat):Prop:=σ.next<=n/\(∀x:Id,x.bq<σ.next->x≠O->g x=σ.get x)/\∃rows,g O=some ⟨true,mP.j4,rows⟩/\OW rows
theorem kM.xO {σ:ax} {g:Rows} {n:Nat} {c T O:Id} {s:au} {ts:List aa} (h:A9 σ.get σ.next c T O s ts) (hc:c≠O) (hT:T≠O) (k:kM σ O g n):A9 g n c T O s ts:=
 h.frame k.1 (k.2.1 _ h.cv hc) (k.2.1 _ h.tv hT)
theorem kM.frame {a:ax} {O:Id} {g g':Rows} {n n' m:Nat} (h:kM a O g n) (ha:a.next<=m) (ho:O.bq<m) (hn:n<=n') (hf:∀x:Id,x.bq<m->g' x=g x):kM a O g' n':=by
 refine⟨Nat.le_trans h.1 hn,fun x hx hO=>(hf x (Nat.lt_of_lt_of_le hx ha)).trans (h.2.1 x hx hO),?_⟩
 obtain⟨rows,h1,h2⟩:=h.2.2
 exact⟨rows,(hf O ho).trans h1,h2⟩
theorem kM.write {a:ax} {O:Id} {g g':Rows} {n n':Nat} (h:kM a O g n) (hn:n<=n') (hf:∀x:Id,x.bq<a.next->x≠O->g' x=g x) {rows:List (List AV)} (ho:g' O=some ⟨true,mP.j4,rows⟩) (hw:OW rows):kM a O g' n':=
 ⟨Nat.le_trans h.1 hn,fun x hx hO=>(hf x hx hO).trans (h.2.1 x hx hO),rows,ho,hw⟩
theorem CN {σ:ax} {c T O:Id} {s:au} {ts:List aa} (h:A9 σ.get σ.next c T O s ts) (hS:gy s.aD) (hF:∀q,0<=eM ts q->eE s.aD (eM ts q)=true) (p:ai) (t:Int) (ht:eE s.aD t=true):
  fB (Call Tryz.prog) 101 [.ptr c 0 0,.agg (ad p),.int .i64 t] σ (fun r=>r=.bool (ee s ts p t)):=by
 unfold fB PC
 exact Or.inl (ay _ _ _ _ _ (fun r σ' hr=>⟨_,by rw[hr];exact aX _ _ _,rfl⟩) (SX (σ:=⟨V.ro σ.get,σ.next⟩) h.ro hS hF p t ht))
theorem uy {σ:ax} {c T O:Id} {s:au} {ts:List aa} (h:A9 σ.get σ.next c T O s ts) (hc:c≠O) (hT:T≠O) (hO:∃rows,σ.get O=some ⟨true,mP.j4,rows⟩/\OW rows) (hS:gy s.aD) (hF:∀q,0<=eM ts q->eE s.aD (eM ts q)=true) (p:ai) (hx:iB p.eV) (hy:iB p.eQ):
  Call Tryz.prog 159 [.ptr c 0 0,.agg (ad p)] σ (fun r σ'=>r=.fP []/\kM σ O σ'.get σ'.next):=by
 refine eZ fx rfl fun fD=>?_
 clear fD
 have GB:=hS.uW
 have h0:kM σ O σ.get σ.next:=⟨Nat.le_refl _,fun _ _ _=>rfl,hO⟩
 (try((repeat(revert N;apply Pn.out));refine wk @ad.eq_1 ?_;(repeat(apply Pn.mk;intro N hN))))
 refine cm (fun n env st=>∃k:Nat,n=(4)-k/\k<=(4)/\env 8=.int .i64 (k:Int)/\st.get ⟨159000000,σ.next⟩=some ⟨true,2,[ad p]⟩/\(σ.next<st.next/\kM σ O st.get st.next)) (4) ⟨0,ae,ae,sl @ad.eq_1,sl @ad.eq_1,⟨aH,h0.frame (Nat.le_refl _) h.ov aH fun x hx=>by
  have:=bZ hx
  simp only[go_sem, ↓reduceIte,Nat.reduceEqDiff,Nat.reduceAdd,Nat.reduceSub,Nat.reduceLeDiff,reduceCtorEq,this]⟩⟩ ?_
 rintro n_a env_a st_a ⟨k,rfl,ale,a8,ag0,qN⟩ eF
 have a0:=eF 0 (by kernel_rfl);have a3:=eF 3 (by kernel_rfl)
 simp only[go_sem, ↓reduceIte,Nat.reduceEqDiff,Nat.reduceAdd,Nat.reduceSub,Nat.reduceLeDiff,reduceCtorEq,ad]at a0 a3
 clear eF
 obtain⟨an,ak⟩:=qN
 have ha:=ak.xO h hc hT
 by_cases hk:(k:Int)<4
 ·have eh:∀{e:Env} {gg:Rows} {nx:Nat},(e 8=.int .i64 (IntKind.i64.wrap ((k:Int)+1)))->(gg ⟨159000000,σ.next⟩=some ⟨true,2,[ad p]⟩)->(σ.next<nx/\kM σ O gg nx)->∃m0,m0<(4)-k/\∃k:Nat,m0=(4)-k/\k<=(4)/\e 8=.int .i64 (k:Int)/\gg ⟨159000000,σ.next⟩=some ⟨true,2,[ad p]⟩/\(σ.next<nx/\kM σ O gg nx):=fun x1 x2 x3=>⟨_,ae,k+1,rfl,ae,(by rw[x1,bf ae]),x2,x3⟩
  have ed:=DF p k (jU ae) hx hy
  obtain⟨b,h1⟩:=ha.row
  have v1:=bZ ha.cv
  (have zF:=tw @a8 (tw @ag0 (tw @a0 (tw @a3 (tw @hk (tw @h1 (tw @v1 @ad.eq_1))))));(repeat(first|((repeat(revert N;apply Pn.out));refine wk zF ?_;(repeat(apply Pn.mk;intro N hN)))|((try apply Or.inl);refine⟨_,aw.x (ed) (sd zF),?_⟩;apply hN;clear hN N)));try clear zF)
  refine cm (fun n env st=>∃t:Nat,n=(s.aD.aj.length)-t/\t<=(s.aD.aj.length)/\env 21=.int .i64 (t:Int)/\st.get ⟨159000000,σ.next⟩=some ⟨true,2,[ad p]⟩/\st.get ⟨159004003,st_a.next+1+1⟩=some ⟨true,2,[ad (bc p k)]⟩/\(st_a.next+3<=st.next/\kM σ O st.get st.next/\(env 6=.bj∨∃(o:Id) (n:Nat) (rows:List (List AV)),env 6=.own o 0 n/\st.get o=some ⟨true,1,rows⟩/\rows.length=n/\0<n/\n<=t/\st_a.next+3<=o.bq/\o.bq<st.next))) (s.aD.aj.length) ⟨0,ae,ae,sl (tw @a8 (tw @ag0 (tw @a0 (tw @a3 @ad.eq_1)))),sl (tw @a8 (tw @ag0 (tw @a0 (tw @a3 @ad.eq_1)))),sl (tw @a8 (tw @ag0 (tw @a0 (tw @a3 @ad.eq_1)))),⟨aH,ak.frame ak.1 ha.ov aH fun x hx=>(by
   have:=bZ hx
   simp only[go_sem, ↓reduceIte,Nat.reduceEqDiff,Nat.reduceAdd,Nat.reduceSub,Nat.reduceLeDiff,reduceCtorEq,this]),.inl (sd @Nat.zero_add)⟩⟩ ?_
  rintro n_b env_b st_b ⟨t,rfl,ble,b21,bg0,bg1,bI0⟩ eS
  have b0:=eS 0 (by kernel_rfl);have b3:=eS 3 (by kernel_rfl);have b5:=eS 5 (by kernel_rfl);have b8:=eS 8 (by kernel_rfl);have xr:=eS 20 (by kernel_rfl)
  simp only[go_sem, ↓reduceIte,Nat.reduceEqDiff,Nat.reduceAdd,Nat.reduceSub,Nat.reduceLeDiff,reduceCtorEq,a8,ag0,a0,a3,ad]at b0 b3 b5 b8 xr
  clear eS
  obtain⟨bn,bk,b6⟩:=bI0
  have LC:=bk.xO h hc hT
  obtain⟨b2,h2⟩:=LC.row
  have v2:=bZ LC.cv
  have vt:=bZ (i:=⟨159000000,σ.next⟩) (n:=st_b.next) aH
  have vq:=bZ (i:=⟨159004003,st_a.next+1+1⟩) (n:=st_b.next) aH
  by_cases ht:(t:Int)<(s.aD.aj.length:Int)
  ·have fb:∀{e:Env} {gg:Rows} {nx:Nat},(e 21=.int .i64 (IntKind.i64.wrap ((t:Int)+1)))->(gg ⟨159000000,σ.next⟩=some ⟨true,2,[ad p]⟩)->(gg ⟨159004003,st_a.next+1+1⟩=some ⟨true,2,[ad (bc p k)]⟩)->(st_a.next+3<=nx/\kM σ O gg nx/\(e 6=.bj∨∃(o:Id) (n:Nat) (rows:List (List AV)),e 6=.own o 0 n/\gg o=some ⟨true,1,rows⟩/\rows.length=n/\0<n/\n<=(t+1)/\st_a.next+3<=o.bq/\o.bq<nx))->∃m0,m0<(s.aD.aj.length)-t/\∃t:Nat,m0=(s.aD.aj.length)-t/\t<=(s.aD.aj.length)/\e 21=.int .i64 (t:Int)/\gg ⟨159000000,σ.next⟩=some ⟨true,2,[ad p]⟩/\gg ⟨159004003,st_a.next+1+1⟩=some ⟨true,2,[ad (bc p k)]⟩/\(st_a.next+3<=nx/\kM σ O gg nx/\(e 6=.bj∨∃(o:Id) (n:Nat) (rows:List (List AV)),e 6=.own o 0 n/\gg o=some ⟨true,1,rows⟩/\rows.length=n/\0<n/\n<=t/\st_a.next+3<=o.bq/\o.bq<nx)):=fun x1 x2 x3 x4=>⟨_,ae,t+1,rfl,ae,(by rw[x1,bf ae]),x2,x3,x4⟩
   have TV:t<s.aD.aj.length:=ae
   (try((repeat(revert N;apply Pn.out));refine wk (tw @b21 (tw @bg0 (tw @bg1 (tw @b0 (tw @b3 (tw @b5 (tw @b8 (tw @xr (tw @ht (tw @h2 (tw @v2 (tw @vt (tw @vq @ad.eq_1))))))))))))) ?_;(repeat(apply Pn.mk;intro N hN))))
   refine .inl ⟨_,CN (LC.frame aH (sd @v2) (by(have:=bZ LC.tv);simp only[go_sem, ↓reduceIte,Nat.reduceEqDiff,Nat.reduceAdd,Nat.reduceSub,Nat.reduceLeDiff,reduceCtorEq,this])) hS hF (bc p k) t (Ak TV),?_⟩
   apply hN
   clear hN N
   have iO:∀x:Id,x.bq<st_b.next->x≠⟨159010002,st_b.next+1+1+1⟩:=fun x hx h=>by rw[h]at hx;(try dsimp only at hx);omega
   cases hb:ee s ts (bc p k) t
   ·(try((repeat(revert N;apply Pn.out));refine wk (tw @b21 (tw @bg0 (tw @bg1 (tw @b0 (tw @b3 (tw @b5 (tw @b8 (tw @xr @hb)))))))) ?_;(repeat(apply Pn.mk;intro N hN))))
    refine fb ?_ ?_ ?_ (by(try dsimp only);exact⟨ae,bk.frame bk.1 LC.ov ae (fun x hx=>by
      have h1:=bZ (i:=x) (n:=st_b.next) ae
      simp only[go_sem, ↓reduceIte,Nat.reduceEqDiff,Nat.reduceAdd,Nat.reduceSub,Nat.reduceLeDiff,reduceCtorEq,h1]),by
     rcases b6 with h|⟨o,n,rows,h1,h2,h3,h4,h5,h6,h7⟩
     ·exact .inl (sd @h)
     ·have h8:=bZ h7
      exact .inr ⟨o,n,rows,sd @h1,sd (tw @h2 @h8),h3,h4,ae,h6,ae⟩⟩)
    all_goals simp only[go_sem, ↓reduceIte,Nat.reduceEqDiff,Nat.reduceAdd,Nat.reduceSub,Nat.reduceLeDiff,reduceCtorEq,b21,bg0,bg1,b0,b3,b5,b8,xr,ad,vt,vq]
   ·rcases b6 with b6|⟨o,n,rows,b6,bo,o3,o4,o5,o6,o7⟩
    ·(try((repeat(revert N;apply Pn.out));refine wk (tw @b21 (tw @bg0 (tw @bg1 (tw @b0 (tw @b3 (tw @b5 (tw @b8 (tw @xr (tw @b6 @hb))))))))) ?_;(repeat(apply Pn.mk;intro N hN))))
     refine fb ?_ ?_ ?_ (by(try dsimp only);exact⟨ae,bk.frame (m:=st_a.next) ak.1 ha.ov ae (fun x hx=>by
      have h1:=bZ (i:=x) (n:=st_b.next) ae
      simp only[go_sem, ↓reduceIte,Nat.reduceEqDiff,Nat.reduceAdd,Nat.reduceSub,Nat.reduceLeDiff,reduceCtorEq,h1]),.inr ⟨⟨159010003,st_b.next+1+1+1⟩,1,[[.int .i64 t]],sl @Nat.zero_add,sd @Nat.zero_add,rfl,ae,ae,aH,aH⟩⟩)
     all_goals simp only[go_sem, ↓reduceIte,Nat.reduceEqDiff,Nat.reduceAdd,Nat.reduceSub,Nat.reduceLeDiff,reduceCtorEq,b21,bg0,bg1,b0,b3,b5,b8,xr,ad,vt,vq]
    ·subst o3
     have e1:rows.length<=16777215:=ae
     have vo:=bZ o7
     have vto:=ei (a:=⟨159000000,σ.next⟩) (b:=o) aH
     have vqo:=ei (a:=⟨159004003,st_a.next+1+1⟩) (b:=o) aH
     (try((repeat(revert N;apply Pn.out));refine wk (tw @b21 (tw @bg0 (tw @bg1 (tw @b0 (tw @b3 (tw @b5 (tw @b8 (tw @xr (tw @b6 (tw @bo (tw @hb (tw @e1 @vo)))))))))))) ?_;(repeat(apply Pn.mk;intro N hN))))
     refine fb ?_ ?_ ?_ (by(try dsimp only);exact⟨ae,bk.frame (m:=st_a.next) ak.1 ha.ov ae (fun x hx=>by
      have h1:=bZ (i:=x) (n:=st_b.next) ae
      have h2:=ei (a:=x) (b:=o) ae
      simp only[go_sem, ↓reduceIte,Nat.reduceEqDiff,Nat.reduceAdd,Nat.reduceSub,Nat.reduceLeDiff,reduceCtorEq,h1,h2]),.inr ⟨⟨159010003,st_b.next+1+1+1⟩,rows.length+1,rows++[[.int .i64 t]],sl @Nat.zero_add,sd @Nat.zero_add,by simp,ae,ae,aH,aH⟩⟩)
     all_goals simp only[go_sem, ↓reduceIte,Nat.reduceEqDiff,Nat.reduceAdd,Nat.reduceSub,Nat.reduceLeDiff,reduceCtorEq,b21,bg0,bg1,b0,b3,b5,b8,xr,ad,vt,vq,vto,vqo]
  ·obtain⟨rows,hg,VZ⟩:=bk.2.2
   have vo:=bZ LC.ov
   obtain⟨fi,Aq⟩:=FY VZ (bc p k).eV (bc p k).eQ
   have hq:((⟨159000000,σ.next⟩:Id)=O)=False:=(ei (a:=O) (b:=⟨159000000,σ.next⟩) (by have:=h.ov;(try dsimp only);omega)).2
   rcases b6 with b6|⟨o,n,rows2,b6,bo,o3,o4,o5,o6,o7⟩
   ·have d0:decide ((0:Int)<((0:Nat):Int))=false:=rfl
    (try((repeat(revert N;apply Pn.out));refine wk (tw @b21 (tw @bg0 (tw @bg1 (tw @b0 (tw @b3 (tw @b5 (tw @b8 (tw @xr (tw @b6 (tw @ht (tw @h2 (tw @v2 (tw @vt (tw @vq (tw @vo (tw @hg (tw @Aq (tw @ad.eq_1 @d0)))))))))))))))))) ?_;(repeat(apply Pn.mk;intro N hN))))
    refine eh ?_ ?_ (by(try dsimp only);exact⟨ae,bk.write ae (fun x hx zd=>by
     have h1:=bZ (i:=x) (n:=st_b.next) ae
     have h2:(x=O)=False:=eq_false zd
     simp only[go_sem, ↓reduceIte,Nat.reduceEqDiff,Nat.reduceAdd,Nat.reduceSub,Nat.reduceLeDiff,reduceCtorEq,h1,h2]) (sl @Nat.zero_add) (NQ VZ _)⟩)
    all_goals simp only[go_sem, ↓reduceIte,Nat.reduceEqDiff,Nat.reduceAdd,Nat.reduceSub,Nat.reduceLeDiff,reduceCtorEq,a8,ag0,a0,a3,b21,bg0,bg1,b0,b3,b5,b8,xr,ad,vt,vo,hq]
   ·have d1:decide ((0:Int)<(n:Int))=true:=decide_eq_true ae
    (try((repeat(revert N;apply Pn.out));refine wk (tw @b21 (tw @bg0 (tw @bg1 (tw @b0 (tw @b3 (tw @b5 (tw @b8 (tw @xr (tw @b6 (tw @ht (tw @h2 (tw @v2 (tw @vt (tw @vq (tw @vo (tw @hg (tw @Aq (tw @ad.eq_1 @d1)))))))))))))))))) ?_;(repeat(apply Pn.mk;intro N hN))))
    refine eh ?_ ?_ (by(try dsimp only);exact⟨ae,bk.write ae (fun x hx zd=>by
     have h1:=bZ (i:=x) (n:=st_b.next) ae
     have h2:(x=O)=False:=eq_false zd
     simp only[go_sem, ↓reduceIte,Nat.reduceEqDiff,Nat.reduceAdd,Nat.reduceSub,Nat.reduceLeDiff,reduceCtorEq,h1,h2]) (sl @Nat.zero_add) (Um VZ _ _ _ _)⟩)
    all_goals simp only[go_sem, ↓reduceIte,Nat.reduceEqDiff,Nat.reduceAdd,Nat.reduceSub,Nat.reduceLeDiff,reduceCtorEq,a8,ag0,a0,a3,b21,bg0,bg1,b0,b3,b5,b8,xr,ad,vt,vo,hq]
 ·(try((repeat(revert N;apply Pn.out));refine wk (tw @a8 (tw @ag0 (tw @a0 (tw @a3 @hk)))) ?_;(repeat(apply Pn.mk;intro N hN))))
  exact eo (.inr rfl) (vs:=[]) rfl ⟨rfl,ak.frame ak.1 ha.ov aH (fun x hx=>rfl)⟩
structure jx (g:Rows) (n:Nat) (c T O:Id) (s:au) (ts:List aa):Prop where
 row:g c=some ⟨true,6,[[.sl (s.aD.bh.map dZ),.sl (s.aD.aj.map dx),.sl (s.bH.aj.map ab),.int .i64 s.aE,.map T mP,.map O mP]]⟩
 tl:g T=some ⟨true,mP.j4,ts.map ab⟩
 op:∃rows,g O=some ⟨true,mP.j4,rows⟩/\OW rows
 cv:c.bq<n
 tv:T.bq<n
 ov:O.bq<n
 cT:c≠T
 cO:c≠O
 TO:T≠O
theorem jx.xO {g:Rows} {n:Nat} {c T O:Id} {s:au} {ts:List aa} (h:jx g n c T O s ts):A9 g n c T O s ts:=⟨⟨_,h.row⟩,⟨_,h.tl⟩,h.cv,h.tv,h.ov⟩
theorem jx.look {σ:ax} {g:Rows} {n:Nat} {c T O:Id} {s:au} {ts:List aa} (h:jx σ.get σ.next c T O s ts) (k:kM σ O g n):jx g n c T O s ts:=
 ⟨(k.2.1 _ h.cv h.cO).trans h.row,(k.2.1 _ h.tv h.TO).trans h.tl,k.2.2,Nat.lt_of_lt_of_le h.cv k.1,Nat.lt_of_lt_of_le h.tv k.1,Nat.lt_of_lt_of_le h.ov k.1,h.cT,h.cO,h.TO⟩
theorem jx.frame {g g':Rows} {n n':Nat} {c T O:Id} {s:au} {ts:List aa} (h:jx g n c T O s ts) (hn:n<=n') (hf:∀x:Id,x.bq<n->g' x=g x):jx g' n' c T O s ts:=
 ⟨(hf _ h.cv).trans h.row,(hf _ h.tv).trans h.tl,by rw[hf _ h.ov];exact h.op,Nat.lt_of_lt_of_le h.cv hn,Nat.lt_of_lt_of_le h.tv hn,Nat.lt_of_lt_of_le h.ov hn,h.cT,h.cO,h.TO⟩
def ZD (σ:ax) (s:au) (ts:List aa) (r:AV) (σ':ax):Prop:=
 ∃c T O:Id,r=.ptr c 0 0/\jx σ'.get σ'.next c T O s ts/\σ.next<=c.bq/\σ.next<=T.bq/\σ.next<=O.bq/\σ.next<=σ'.next/\∀x:Id,x.bq<σ.next->σ'.get x=σ.get x
theorem zf {l:List aa} {p:ai}:dm l p<0↔∀t∈l,t.aI≠p:=by
 unfold dm rW
 by_cases h:(l.findIdx fun c=>decide (c.aI=p))<l.length
 ·rw[if_pos h]
  obtain⟨t,ht,h2⟩:=List.findIdx_lt_length.1 h
  exact⟨fun h=>ae,fun h=>absurd (by simpa using h2) (h t ht)⟩
 ·rw[if_neg h]
  exact⟨fun _ t ht e=>h (List.findIdx_lt_length.2 ⟨t,ht,by simp[e]⟩),fun _=>ae⟩
theorem Gi {l:List aa} (h:jk l) {k:Nat} (hk:k<l.length):dm (l.take k) (aA l k).aI<0:=by
 rw[zf]
 intro t ht e
 obtain⟨j,hj,rfl⟩:=List.getElem_of_mem ht
 have O5:j<k:=by rw[List.length_take]at hj;omega
 have:=h j k O5 hk
 rw[List.getElem_take]at e
 have e2:aA l j=l[j]'ae:=by unfold aA;rw[List.getD_eq_getElem?_getD,List.getElem?_eq_getElem ae];rfl
 rw[e2,e]at this
 simp[ju]at this
theorem Jt {l:List aa} {k:Nat} (hk:k<l.length):(l.take k).map ab++[[.int .i64 (aA l k).aI.eV,.int .i64 (aA l k).aI.eQ,.int .i64 (aA l k).aY]]=(l.take (k+1)).map ab:=by
 have e2:aA l k=l[k]:=by unfold aA;rw[List.getD_eq_getElem?_getD,List.getElem?_eq_getElem hk];rfl
 rw[List.take_succ_eq_append_getElem hk,List.map_append,e2]
 rfl
theorem gy.Bg {s:az} {l:List aa} (hA:gx s l):∀q,0<=eM l q->eE s (eM l q)=true:=fun _ h=>Mb hA h
theorem uC (s:au) (hS:gy s.aD) (l:List aa) (hA:gx s.aD l) (σ:ax):Call Tryz.prog 94 [.agg (ck s),.agg [.sl (l.map ab)]] σ (ZD σ s l):=by
 refine eZ fx rfl fun fD=>?_
 clear fD
 have AM:=hA.1.pL
 (try((repeat(revert N;apply Pn.out));refine wk @ck.eq_1 ?_;(repeat(apply Pn.mk;intro N hN))))
 refine cm (fun n env st=>∃k:Nat,n=(l.length)-k/\k<=(l.length)/\env 18=.int .i64 (k:Int)/\st.get ⟨94001004,σ.next+1⟩=some ⟨true,6,[[.sl (s.aD.bh.map dZ),.sl (s.aD.aj.map dx),.sl (s.bH.aj.map ab),.int .i64 s.aE,.map ⟨94001001,σ.next+1⟩ mP,.map ⟨94001002,σ.next+1⟩ mP]]⟩/\st.get ⟨94001001,σ.next+1⟩=some ⟨true,mP.j4,(l.take k).map ab⟩/\st.get ⟨94001002,σ.next+1⟩=some ⟨true,mP.j4,[]⟩/\st.get ⟨94000001,σ.next⟩=some ⟨true,1,[[.sl (l.map ab)]]⟩/\(σ.next+3<=st.next/\∀x:Id,x.bq<σ.next->st.get x=σ.get x)) (l.length) ⟨0,ae,ae,sl @Nat.zero_add,sl @Nat.zero_add,sl @Nat.zero_add,sl @Nat.zero_add,sl @Nat.zero_add,⟨aH,fun x hx=>by
  have:=bZ hx
  simp only[go_sem, ↓reduceIte,Nat.reduceEqDiff,Nat.reduceAdd,Nat.reduceSub,Nat.reduceLeDiff,reduceCtorEq,this]⟩⟩ ?_
 rintro n_a env_a st_a ⟨k,rfl,ale,a18,ag0,ag1,ag2,ag3,qN⟩ eF
 have a3:=eF 3 (by kernel_rfl);have a5:=eF 5 (by kernel_rfl);have JG:=eF 16 (by kernel_rfl);have a17:=eF 17 (by kernel_rfl)
 simp only[go_sem, ↓reduceIte,Nat.reduceEqDiff,Nat.reduceAdd,Nat.reduceSub,Nat.reduceLeDiff,reduceCtorEq]at a3 a5 JG a17
 clear eF
 obtain⟨an,eF⟩:=qN
 have v1:=bZ (i:=⟨94001004,σ.next+1⟩) (n:=st_a.next) aH
 have v2:=bZ (i:=⟨94001001,σ.next+1⟩) (n:=st_a.next) aH
 have v3:=bZ (i:=⟨94001002,σ.next+1⟩) (n:=st_a.next) aH
 have v4:=bZ (i:=⟨94000001,σ.next⟩) (n:=st_a.next) aH
 by_cases hk:(k:Int)<(l.length:Int)
 ·have eh:∀{e:Env} {gg:Rows} {nx:Nat},(e 18=.int .i64 (IntKind.i64.wrap ((k:Int)+1)))->(gg ⟨94001004,σ.next+1⟩=some ⟨true,6,[[.sl (s.aD.bh.map dZ),.sl (s.aD.aj.map dx),.sl (s.bH.aj.map ab),.int .i64 s.aE,.map ⟨94001001,σ.next+1⟩ mP,.map ⟨94001002,σ.next+1⟩ mP]]⟩)->(gg ⟨94001001,σ.next+1⟩=some ⟨true,mP.j4,(l.take (k+1)).map ab⟩)->(gg ⟨94001002,σ.next+1⟩=some ⟨true,mP.j4,[]⟩)->(gg ⟨94000001,σ.next⟩=some ⟨true,1,[[.sl (l.map ab)]]⟩)->(σ.next+3<=nx/\∀x:Id,x.bq<σ.next->gg x=σ.get x)->∃m0,m0<(l.length)-k/\∃k:Nat,m0=(l.length)-k/\k<=(l.length)/\e 18=.int .i64 (k:Int)/\gg ⟨94001004,σ.next+1⟩=some ⟨true,6,[[.sl (s.aD.bh.map dZ),.sl (s.aD.aj.map dx),.sl (s.bH.aj.map ab),.int .i64 s.aE,.map ⟨94001001,σ.next+1⟩ mP,.map ⟨94001002,σ.next+1⟩ mP]]⟩/\gg ⟨94001001,σ.next+1⟩=some ⟨true,mP.j4,(l.take k).map ab⟩/\gg ⟨94001002,σ.next+1⟩=some ⟨true,mP.j4,[]⟩/\gg ⟨94000001,σ.next⟩=some ⟨true,1,[[.sl (l.map ab)]]⟩/\(σ.next+3<=nx/\∀x:Id,x.bq<σ.next->gg x=σ.get x):=fun x1 x2 x3 x4 x5 x6=>⟨_,ae,k+1,rfl,ae,(by rw[x1,bf ae]),x2,x3,x4,x5,x6⟩
  have jg:k<l.length:=ae
  have hg:=fM jg
  have hm:=mA (Gi hA.1.xY jg)
  have qv:=Jt jg
  (try((repeat(revert N;apply Pn.out));refine wk (tw @a18 (tw @ag0 (tw @ag1 (tw @ag2 (tw @ag3 (tw @a3 (tw @a5 (tw @JG (tw @a17 (tw @hk (tw @hg (tw @hm (tw @v1 (tw @v2 (tw @v3 (tw @v4 @ab.eq_1)))))))))))))))) ?_;(repeat(apply Pn.mk;intro N hN))))
  refine eh ?_ ?_ ?_ ?_ ?_ (by(try dsimp only);exact⟨ae,fun x hx=>by
   have h1:=bZ (i:=x) (n:=st_a.next) ae
   have h2:=ei (a:=x) (b:=⟨94001001,σ.next+1⟩) aH
   have h3:=eF x hx
   simp only[go_sem, ↓reduceIte,Nat.reduceEqDiff,Nat.reduceAdd,Nat.reduceSub,Nat.reduceLeDiff,reduceCtorEq,h1,h2,h3]⟩)
  all_goals simp only[go_sem, ↓reduceIte,Nat.reduceEqDiff,Nat.reduceAdd,Nat.reduceSub,Nat.reduceLeDiff,reduceCtorEq,a18,ag0,ag1,ag2,ag3,a3,a5,JG,a17,ab,v1,v2,v3,v4,qv]
 ·have oy:k=l.length:=ae
  subst oy
  have oN:l.take l.length=l:=List.take_length
  (try((repeat(revert N;apply Pn.out));refine wk (tw @a18 (tw @ag0 (tw @ag1 (tw @ag2 (tw @ag3 (tw @a3 (tw @a5 (tw @JG (tw @a17 (tw @hk (tw @v1 (tw @v2 (tw @v3 @v4))))))))))))) ?_;(repeat(apply Pn.mk;intro N hN))))
  refine cm (fun n env st=>∃j:Nat,n=(l.length)-j/\j<=(l.length)/\env 34=.int .i64 (j:Int)/\(σ.next+3<=st.next/\jx st.get st.next ⟨94001004,σ.next+1⟩ ⟨94001001,σ.next+1⟩ ⟨94001002,σ.next+1⟩ s l/\∀x:Id,x.bq<σ.next->st.get x=σ.get x)) (l.length) ⟨0,ae,ae,sl (tw @a18 (tw @ag0 (tw @ag1 (tw @ag2 (tw @ag3 (tw @a3 (tw @a5 (tw @JG @a17)))))))),by(try dsimp only);exact⟨ae,⟨sd @ag0,sd (tw @ag1 @oN),⟨[],sd @ag2,by intro r hr;cases hr⟩,aH,aH,aH,(by intro e;injection e with e1 e2;revert e1;decide),(by intro e;injection e with e1 e2;revert e1;decide),(by intro e;injection e with e1 e2;revert e1;decide)⟩,fun x hx=>by
   have h3:=eF x hx
   simp only[go_sem, ↓reduceIte,Nat.reduceEqDiff,Nat.reduceAdd,Nat.reduceSub,Nat.reduceLeDiff,reduceCtorEq,h3]⟩⟩ ?_
  rintro n_b env_b st_b ⟨j,rfl,ble,b34,bI0⟩ eS
  have b5:=eS 5 (by kernel_rfl);have si:=eS 32 (by kernel_rfl);have sO:=eS 33 (by kernel_rfl)
  simp only[go_sem, ↓reduceIte,Nat.reduceEqDiff,Nat.reduceAdd,Nat.reduceSub,Nat.reduceLeDiff,reduceCtorEq,a18,ag0,ag1,ag2,ag3,a3,a5,JG,a17]at b5 si sO
  clear eS
  obtain⟨bn,bC,eS⟩:=bI0
  by_cases hj:(j:Int)<(l.length:Int)
  ·have fb:∀{e:Env} {gg:Rows} {nx:Nat},(e 34=.int .i64 (IntKind.i64.wrap ((j:Int)+1)))->(σ.next+3<=nx/\jx gg nx ⟨94001004,σ.next+1⟩ ⟨94001001,σ.next+1⟩ ⟨94001002,σ.next+1⟩ s l/\∀x:Id,x.bq<σ.next->gg x=σ.get x)->∃m0,m0<(l.length)-j/\∃j:Nat,m0=(l.length)-j/\j<=(l.length)/\e 34=.int .i64 (j:Int)/\(σ.next+3<=nx/\jx gg nx ⟨94001004,σ.next+1⟩ ⟨94001001,σ.next+1⟩ ⟨94001002,σ.next+1⟩ s l/\∀x:Id,x.bq<σ.next->gg x=σ.get x):=fun x1 x2=>⟨_,ae,j+1,rfl,ae,(by rw[x1,bf ae]),x2⟩
   have pQ:j<l.length:=ae
   have hg:=fM pQ
   have C6:=oR (hA.1.pt pQ)
   (try((repeat(revert N;apply Pn.out));refine wk (tw @b34 (tw @b5 (tw @si (tw @sO (tw @hj (tw @hg @ab.eq_1)))))) ?_;(repeat(apply Pn.mk;intro N hN))))
   have DS:jx (bI (bI st_b.get ⟨94009002,st_b.next+1⟩ ⟨true,3,[[.int .i64 0,.int .i64 0,.int .i64 0]]⟩) ⟨94009002,st_b.next+1⟩ ⟨true,3,[[.int .i64 (aA l j).aI.eV,.int .i64 (aA l j).aI.eQ,.int .i64 (aA l j).aY]]⟩) (st_b.next+1+1+1) ⟨94001004,σ.next+1⟩ ⟨94001001,σ.next+1⟩ ⟨94001002,σ.next+1⟩ s l:=bC.frame ae fun x hx=>by
    have h1:=bZ hx
    simp only[go_sem, ↓reduceIte,Nat.reduceEqDiff,Nat.reduceAdd,Nat.reduceSub,Nat.reduceLeDiff,reduceCtorEq,h1]
   refine .inr (ay _ _ _ _ _ (fun r σ1 hq=>?_) (uy (σ:=⟨bI (bI st_b.get ⟨94009002,st_b.next+1⟩ ⟨true,3,[[.int .i64 0,.int .i64 0,.int .i64 0]]⟩) ⟨94009002,st_b.next+1⟩ ⟨true,3,[[.int .i64 (aA l j).aI.eV,.int .i64 (aA l j).aI.eQ,.int .i64 (aA l j).aY]]⟩,st_b.next+1+1+1⟩) DS.xO DS.cO DS.TO DS.op hS (gy.Bg hA) (aA l j).aI C6.1 C6.2))
   obtain⟨g1,x1⟩:=σ1
   obtain⟨rfl,hL⟩:=hq
   (try dsimp only at hL)
   have oL:=DS.look hL
   have hLn:=hL.1
   have WK:=hL.2.1
   (try dsimp only at hLn WK)
   apply hN
   clear hN N
   (try((repeat(revert N;apply Pn.out));refine wk (tw @b34 (tw @b5 (tw @si @sO))) ?_;(repeat(apply Pn.mk;intro N hN))))
   exact fb (sd (tw @b34 (tw @b5 (tw @si @sO)))) (by(try dsimp only);exact⟨ae,oL.frame ae (fun x hx=>rfl),fun x hx=>by
    have h1:=bZ (i:=x) (n:=st_b.next) ae
    have h2:=WK x ae (fun e=>by rw[e]at hx;(try dsimp only at hx);omega)
    have h3:=eS x hx
    simp only[h2]
    simp only[go_sem, ↓reduceIte,Nat.reduceEqDiff,Nat.reduceAdd,Nat.reduceSub,Nat.reduceLeDiff,reduceCtorEq,h1,h3]⟩)
  ·(try((repeat(revert N;apply Pn.out));refine wk (tw @b34 (tw @b5 (tw @si (tw @sO @hj)))) ?_;(repeat(apply Pn.mk;intro N hN))))
   exact eo (.inl rfl) (vs:=[.ptr ⟨94001004,σ.next+1⟩ 0 0]) (sd @Nat.zero_add) ⟨_,_,_,rfl,bC.frame aH (fun x hx=>rfl),aH,aH,aH,aH,eS⟩
end Go.Proofs.YtainmfbpilopaaaGreatDoor.V

namespace Go.Proofs.YtainmfbpilopaaaGreatDoor.V
open Go.RowKit
def gn:List aa->aa->List aa
 |[],q=>[q]
 |x::r,q=>if ju q.aI x.aI=true then q::x::r else x::gn r q
theorem jJ {q x:aa}:∀{l:List aa},x∈gn l q↔x=q∨x∈l
 |[]=>by simp[gn]
 |y::r=>by
  have ih:=@jJ q x r
  rw[gn]
  split
  ·simp
  ·simp only[List.mem_cons,ih]
   constructor
   ·rintro(h|h|h)<;>simp[h]
   ·rintro(h|h|h)<;>simp[h]
theorem kn (q:aa):∀l:List aa,(gn l q).length=l.length+1
 |[]=>rfl
 |y::r=>by
  have ih:=kn q r
  rw[gn]
  split
  ·simp
  ·simp[ih]
theorem mJ {l:List aa}:jk l↔l.Pairwise fun a b=>ju a.aI b.aI=true:=by
 rw[List.pairwise_iff_getElem]
 constructor
 ·intro h i j hi hj BC
  have:=h i j BC hj
  rwa [ez hi,ez hj]at this
 ·intro h i j BC hj
  have:=h i j ae hj BC
  rwa [ez ae,ez hj]
theorem iZ {l:List aa} {p:ai}:dm l p<0↔∀t∈l,t.aI≠p:=zf
theorem zP {q:aa}:∀{l:List aa},jk l->dm l q.aI<0->jk (gn l q):=by
 intro l
 rw[mJ,mJ,iZ]
 induction l with
 |nil=>intro _ _;exact List.pairwise_singleton _ _
 |cons y r ih=>
  intro h hn
  obtain⟨h1,h2⟩:=List.pairwise_cons.1 h
  rw[gn]
  split
  ·rename_i hl
   refine List.pairwise_cons.2 ⟨fun x hx=>?_,h⟩
   rcases List.mem_cons.1 hx with rfl|hx
   ·exact hl
   ·exact iF hl (h1 x hx)
  ·rename_i hl
   rw[Bool.not_eq_true]at hl
   refine List.pairwise_cons.2 ⟨fun x hx=>?_,ih h2 fun t ht=>hn t (by simp[ht])⟩
   rcases jJ.1 hx with rfl|hx
   ·exact xW hl fun e=>hn y (by simp) e.symm
   ·exact h1 x hx
theorem k6 (x:aa) (r:List aa) (p:ai):eM (x::r) p=if x.aI=p then x.aY else eM r p:=by
 unfold eM dm rW
 rw[List.findIdx_cons]
 by_cases h:x.aI=p
 ·simp[h,aA]
 ·simp only[h,decide_false,cond_false,List.length_cons,Nat.add_lt_add_iff_right,if_false]
  by_cases hl:(r.findIdx fun c=>decide (c.aI=p))<r.length
  ·rw[if_pos hl,if_pos hl,if_pos ae,if_pos ae]
   simp[aA]
  ·rw[if_neg hl,if_neg hl];rfl
theorem yn {q:aa} (p:ai):∀{l:List aa},(∀t∈l,t.aI≠q.aI)->eM (gn l q) p=if q.aI=p then q.aY else eM l p
 |[],_=>by rw[gn,k6]
 |x::r,h=>by
  have ih:=@yn q p r fun t ht=>h t (by simp[ht])
  rw[gn]
  split
  ·rw[k6]
  ·rw[k6,ih,k6]
   by_cases h1:x.aI=p
   ·have h2:q.aI≠p:=fun e=>h x (by simp) (h1.trans e.symm)
    rw[if_pos h1,if_neg h2,if_pos h1]
   ·rw[if_neg h1,if_neg h1]
theorem qO {q:aa} (p:ai):∀{l:List aa},(∀t∈l,t.aI≠q.aI)->eM (l++[q]) p=if q.aI=p then q.aY else eM l p
 |[],_=>by rw[List.nil_append,k6]
 |x::r,h=>by
  have ih:=@qO q p r fun t ht=>h t (by simp[ht])
  rw[List.cons_append,k6,ih,k6]
  by_cases h1:x.aI=p
  ·have h2:q.aI≠p:=fun e=>h x (by simp) (h1.trans e.symm)
   rw[if_pos h1,if_neg h2,if_pos h1]
  ·rw[if_neg h1,if_neg h1]
theorem oa {α:Type} [DecidableEq α]:∀{xs ys:List α},xs.Nodup->(∀x∈xs,x∈ys)->xs.length<=ys.length
 |[],_,_,_=>Nat.zero_le _
 |x::xs,ys,hn,h=>by
  obtain⟨h1,h2⟩:=List.nodup_cons.1 hn
  have hx:=h x (by simp)
  have:=@oa α _ xs (ys.erase x) h2 fun y hy=>(List.mem_erase_of_ne fun e=>h1 (by rw[<-e];exact hy)).2 (h y (by simp[hy]))
  rw[List.length_erase_of_mem hx]at this
  have:=List.length_pos_of_mem hx
  rw[List.length_cons];omega
theorem K6 {l:List aa} (h:jk l):l.Nodup:=by
 rw[mJ]at h
 refine List.Pairwise.imp (fun {a b} pM e=>?_) h
 rw[e,iD]at pM;cases pM
abbrev iJ:=List aa×List aa
noncomputable def fy (s:au) (st:iJ) (x:aa):iJ:=if ee s st.2 x.aI x.aY=true then(st.1++[x],gn st.2 x)else st
noncomputable def gJ (s:au) (l:List aa) (st:iJ):iJ:=l.foldl (fy s) st
noncomputable def rX (s:au) (l:List aa):Nat->iJ->iJ
 |0,st=>st
 |n+1,st=>if (gJ s l st).1.length=st.1.length then gJ s l st else rX s l n (gJ s l st)
noncomputable def k8 (s:au) (l:List aa):iJ:=rX s l (l.length+1) ([],s.bH.aj)
def sm (l now:List aa):Nat:=(l.filter fun x=>decide (dm now x.aI<0)).length
theorem filter_lt {α:Type} {p q:α->Bool} (hpq:∀x,q x=true->p x=true) {x:α} (hp:p x=true) (hq:q x=false):∀{l:List α},x∈l->(l.filter q).length<(l.filter p).length:=by
 have le:∀l:List α,(l.filter q).length<=(l.filter p).length:=fun l=>by
  induction l with
  |nil=>exact Nat.le_refl _
  |cons y r ih=>
   rw[List.filter_cons,List.filter_cons]
   cases h1:q y
   ·cases h2:p y<;>simp<;>omega
   ·rw[hpq y h1];simp;omega
 intro l hl
 induction l with
 |nil=>cases hl
 |cons y r ih=>
  rcases List.mem_cons.1 hl with rfl|hl
  ·have:=le r
   rw[List.filter_cons,List.filter_cons,hp,hq];simp;omega
  ·have:=ih hl
   rw[List.filter_cons,List.filter_cons]
   cases h1:q y
   ·cases h2:p y<;>simp<;>omega
   ·rw[hpq y h1];simp;omega
structure oD (s:au) (l:List aa) (st:iJ):Prop where
 xY:jk st.2
 sub:∀x∈st.2,x∈l
 done:∀x∈st.1,x∈l
 len:st.2.length=s.bH.aj.length+st.1.length
theorem oD.pL {s:au} {l:List aa} {st:iJ} (h:oD s l st):st.2.length<=l.length:=by
 classical
 exact oa (K6 h.xY) h.sub
theorem oD.Wn {s:au} {l:List aa} {st:iJ} (h:oD s l st) (hA:gx s.aD l):gx s.aD st.2:=by
 refine⟨⟨Nat.le_trans h.pL hA.1.pL,fun i hi=>?_⟩,fun t ht=>hA.2 t (h.sub t ht)⟩
 obtain⟨j,hj,iX⟩:=List.getElem_of_mem (h.sub _ (fH hi))
 have h1:=hA.1.ok j hj
 rw[Gr,ez hj,iX]at h1
 exact⟨h1.1,h1.2.1,fun h0=>h.xY _ _ ae hi⟩
theorem nQ {s:au} {l:List aa} (hA:gx s.aD l) {now:List aa} (hs:∀x∈now,x∈l) {p:ai} {t:Int} (h:ee s now p t=true):dm now p<0:=by
 rcases Int.lt_or_le (dm now p) 0 with h0|h0
 ·exact h0
 ·exfalso
  obtain⟨h1,_⟩:=iC h0
  have h2:=(dY (hA.2 _ (hs _ (fH h1)))).1
  simp[ee,eM,h0]at h
  omega
theorem oD.step {s:au} {l:List aa} {st:iJ} (h:oD s l st) (hA:gx s.aD l) {x:aa} (hx:x∈l):oD s l (fy s st x):=by
 unfold fy
 split
 ·rename_i hf
  have h0:=nQ hA h.sub hf
  exact⟨zP h.xY h0,fun y hy=>by rcases jJ.1 hy with rfl|hy;exact hx;exact h.sub y hy,fun y hy=>by
   rcases List.mem_append.1 hy with hy|hy
   ·exact h.done y hy
   ·rw[List.mem_singleton.1 hy];exact hx,by rw[kn,List.length_append,List.length_singleton,h.len];omega⟩
 ·exact h
theorem J5 {s:au} {l:List aa} {st:iJ} (h:oD s l st) (hA:gx s.aD l) {x:aa} (hx:x∈l):sm l (fy s st x).2+(fy s st x).1.length<=sm l st.2+st.1.length:=by
 unfold fy
 split
 ·rename_i hf
  have h0:=nQ hA h.sub hf
  have:sm l (gn st.2 x)<sm l st.2:=filter_lt (x:=x) (fun y hy=>by
   simp only[decide_eq_true_eq,iZ]at hy ⊢
   exact fun t ht=>hy t (jJ.2 (.inr ht))) (by simpa using h0) (by
   simp only[decide_eq_false_iff_not,iZ]
   exact fun h=>h x (jJ.2 (.inl rfl)) rfl) hx
  simp only[List.length_append,List.length_singleton]
  omega
 ·exact Nat.le_refl _
noncomputable def ja (s:au) (l:List aa) (st:iJ) (i:Nat):iJ:=(l.take i).foldl (fy s) st
theorem tj (s:au) (l:List aa) (st:iJ) {i:Nat} (hi:i<l.length):ja s l st (i+1)=fy s (ja s l st i) (aA l i):=by
 unfold ja
 rw[List.take_succ_eq_append_getElem hi,List.foldl_append,ez hi];rfl
theorem nT (s:au) (l:List aa) (st:iJ):ja s l st l.length=gJ s l st:=by rw[ja,List.take_length];rfl
theorem wM {s:au} {l:List aa} {st:iJ} (h:oD s l st) (hA:gx s.aD l):∀i,i<=l.length->oD s l (ja s l st i)/\sm l (ja s l st i).2+(ja s l st i).1.length<=sm l st.2+st.1.length/\st.1.length<=(ja s l st i).1.length
 |0,_=>by simp[ja];exact h
 |i+1,hi=>by
  obtain⟨h1,h2,h3⟩:=wM h hA i ae
  rw[tj s l st hi]
  refine⟨h1.step hA (fH hi),Nat.le_trans (J5 h1 hA (fH hi)) h2,Nat.le_trans h3 ?_⟩
  unfold fy
  split
  ·simp
  ·exact Nat.le_refl _
theorem PL (l now:List aa):sm l now<=l.length:=List.length_filter_le _ _
structure L6 (s:au):Prop where
 set:gy s.aD
 o8:gx s.aD s.bH.aj
 some:1<=s.bH.aj.length
 Gj:ik s.aE 1 16=true
theorem mj.w {s:au} (h:mj s):L6 s:=⟨h.set,h.o8,h.some,h.Gj⟩
theorem q9 {s:au} {l:List aa} (hP:L6 s) (hA:gx s.aD l) (hW:ir s.bH.aj l=true):oD s l ([],s.bH.aj):=by
 refine⟨hP.o8.1.xY,fun x hx=>?_,fun x hx=>by(cases hx),rfl⟩
 unfold ir at hW
 rw[List.all_eq_true]at hW
 have h1:=of_decide_eq_true (hW x hx)
 have h2:=(dY (hP.o8.2 x hx)).1
 have h0:0<=dm l x.aI:=by
  rcases Int.lt_or_le (dm l x.aI) 0 with h0|h0
  ·rw[eM,if_neg ae]at h1;omega
  ·exact h0
 obtain⟨h3,h4⟩:=iC h0
 rw[eM,if_pos h0]at h1
 have:x=aA l (dm l x.aI).toNat:=by
  cases vp:aA l (dm l x.aI).toNat with
  |mk a t=>rw[vp]at h1 h4;cases x;simp_all
 rw[this];exact fH h3
theorem Kw {s:au} {l:List aa} {st:iJ} (h:oD s l st) (hA:gx s.aD l) {n:Nat} (hn:sm l st.2<n):
  ((gJ s l st).1.length=st.1.length->rX s l n st=gJ s l st)/\
  ((gJ s l st).1.length≠st.1.length->∃m,n=m+1/\rX s l n st=rX s l m (gJ s l st)/\sm l (gJ s l st).2<m):=by
 obtain⟨m,rfl⟩:∃m,n=m+1:=⟨n-1,ae⟩
 obtain⟨h1,h2,h3⟩:=wM h hA l.length (Nat.le_refl _)
 rw[nT]at h1 h2 h3
 refine⟨fun e=>by rw[rX,if_pos e],fun e=>⟨m,rfl,by rw[rX,if_neg e],ae⟩⟩
end Go.Proofs.YtainmfbpilopaaaGreatDoor.V
