/- The iterator over the neighbors of an assembly. -/
import Derived.RangeFuncNested
import Derived.RangeFuncBound
import Derived.RangeFuncCalls
import Derived.RangeFuncLeaves
import Derived.Shelf.Abstract
import Derived.Shelf.RegionOpen
import Derived.WalkKit
import Derived.OwnWalkIn
import Derived.TacticsInMore
import Derived.LoopNIn
import Derived.LoopIn
import Derived.BigQuiet
import Derived.Test.YtgoljkjaameagaaGreatSyC
import Derived.Test.YtgoljkjaameagaaGreatSyD
import Derived.RangeFuncBox
import Derived.RangeFuncWrites
import Derived.Maps.AppendAt
import Derived.Maps.OwnIn
import Derived.Test.YtgoljkjaameagaaGreatSyB
import Derived.Shelf.SlSortCmp.WholeK
import Derived.Shelf.SlSortCmp.NoneTotal
import Derived.Ground.SlsfProg
import Derived.Test.YtgoljkjaameagaaGreatProg
set_option linter.unusedVariables false
set_option linter.unusedSimpArgs false
set_option maxRecDepth 100000
set_option maxHeartbeats 16000000
namespace Go.Proofs.YtgoljkjaameagaaGreat.V
open Go.RowKit Go.Shelf
attribute [local go_sem] Oper.semAt_some
structure ot (W:World) (v:Value) (l:List ad):Prop where
 sl:∃A c,v=.slice A l.length c/\(l.length<=c/\c<=maxLen)/\(l=[]∨∃b o,A=some ⟨b,o,none⟩/\∀i,i<l.length->W.cell? ⟨b,o+(i*3+0),none⟩=some (.int .i64 (aO l i).bH.eI)/\W.cell? ⟨b,o+(i*3+1),none⟩=some (.int .i64 (aO l i).bH.eB)/\W.cell? ⟨b,o+(i*3+2),none⟩=some (.int .i64 (aO l i).bq))
structure Gw (K:World->World->Prop) (v:Value) (l:List ad):Prop where
 refl:∀W,K W W
 trans:∀{A B C:World},K A B->K B C->K A C
 of:∀{W W':World},Below W.heap.size W W'->K W W'
 size:∀{W W':World},K W W'->W.heap.size<=W'.heap.size
 typed:∀{W W':World},K W W'->∀(b:Nat) (cells:Array Value) (T:TypeId) (fr:Nat×Nat),W.heap[b]? =some (Obj.cells cells T fr)->T≠179->T≠254->W'.heap[b]? =W.heap[b]?
 pl:∀{W W':World},K W W'->ot W v l->ot W' v l
theorem sO {W:World} {b x:Nat} {v:Value} (h:W.cell? ⟨b,x,none⟩=some v):b<W.heap.size:=by
 rcases Nat.lt_or_ge b W.heap.size with h1|h1
 ·exact h1
 ·simp[World.cell?,Array.getElem?_eq_none h1]at h
theorem ot.below {W W':World} {v:Value} {l:List ad} (h:ot W v l) (k:Below W.heap.size W W'):ot W' v l:=by
 obtain⟨A,c,rfl,hm,hc⟩:=h.sl
 refine⟨A,c,rfl,hm,?_⟩
 rcases hc with h0|⟨b,o,rfl,jV⟩
 ·exact .inl h0
 ·refine .inr ⟨b,o,rfl,fun i hi=>?_⟩
  obtain⟨h1,h2,h3⟩:=jV i hi
  have hb:=sO h1
  exact⟨(k.cell (p:=⟨b,_,none⟩) hb).trans h1,(k.cell (p:=⟨b,_,none⟩) hb).trans h2,(k.cell (p:=⟨b,_,none⟩) hb).trans h3⟩
theorem ot.eO {P:Program} {W:World} {v:Value} {l:List ad} (h:ot W v l):jC P W (fun b=>b<W.heap.size) (.sl (l.map ai)) v:=by
 obtain⟨A,c,rfl,hm,hc⟩:=h.sl
 rcases hc with rfl|⟨b,o,rfl,jV⟩
 ·exact .FP A c (by simpa using hm.2)
 by_cases NZ:l=[]
 ·subst NZ;exact .FP _ c (by simpa using hm.2)
 ·have kO:0<l.length:=List.length_pos_iff.2 NZ
  have hb:=sO (jV 0 kO).1
  refine .sl (l.map ai) b o l.length c 3 (fun i j=>if j=0 then .int .i64 (aO l i).bH.eI else if j=1 then .int .i64 (aO l i).bH.eB else .int .i64 (aO l i).bq) (by simp) hm.1 hm.2 hb (fun cs dp=>?_) (fun cs dp a ha=>?_) (fun i j hi hj=>?_) (fun i j cs a hi hj=>?_)
  ·obtain⟨x,_,rfl⟩:=List.mem_map.1 dp;rfl
  ·obtain⟨x,_,rfl⟩:=List.mem_map.1 dp
   simp[ai]at ha
   rcases ha with rfl|rfl|rfl<;>rfl
  ·obtain⟨h1,h2,h3⟩:=jV i hi
   match j,hj with
   |0,_=>exact h1
   |1,_=>exact h2
   |2,_=>exact h3
   |j+3,hj=>omega
  ·have mC:i<l.length:=by have:=(List.getElem?_eq_some_iff.1 hi).1;simpa using this
   rw[fj mC]at hi
   injection hi with hi
   subst hi
   match j,hj with
   |0,hj=>simp[ai]at hj;subst hj;exact .int _ _
   |1,hj=>simp[ai]at hj;subst hj;exact .int _ _
   |2,hj=>simp[ai]at hj;subst hj;exact .int _ _
   |j+3,hj=>simp[ai]at hj
theorem zp {P:Program} (hm:P.follows .mixedOrders=true) {f:Nat} {args:List AV} {vs:Array Value} {w:World} {r:AV} (h:aq P f args r) (hr:∀g r0,fV g 6 r0=some r->r0=r) (hA:fb P w (fun b=>b<w.heap.size) (fun _=>none) args vs):
  Calls P f vs w fun e w'=>∃D ι u,e=.returned u/\da P w' D ι r u/\Below w.heap.size w w':=by
 have hs:=iA hm (h 0) w.heap.size (fun b=>b<w.heap.size) (fun _=>none) w vs ⟨Nat.le_refl _,fun _ h=>h,fun id r h=>(by cases h),fun id kJ r r' B B' h=>(by cases h)⟩ (fun id h=>absurd rfl h) hA
 refine hs.mono ?_
 rintro e w' ⟨r0,g',n',D',ι',u,rfl,⟨r',hz,rfl⟩,dL,hsim,_,_,gK⟩
 have:=hr _ _ hz
 subst this
 exact⟨D',ι',u,rfl,gK,dL.below⟩
theorem ny {g:Rows} {n:Nat} {a:AV} {k:IntKind} {m:Int} (h:fV g (n+1) a=some (.int k m)):a=.int k m:=by
 cases a<;>rw[fV]at h<;>simp_all
 all_goals (repeat' (split at h))<;>simp_all
theorem BV {g:Rows} {a:AV} {x y:Int} (h:fV g 6 a=some (.agg [.int .i64 x,.int .i64 y])):a=.agg [.int .i64 x,.int .i64 y]:=by
 cases a with
 |agg cs=>
  rw[jx]at h
  simp only[Option.map_eq_some_iff,AV.agg.injEq,exists_eq_right]at h
  match cs,h with
  |[],h=>rw[bm]at h;simp at h
  |[a],h=>
   rw[aS,bm]at h
   cases ha:fV g 5 a<;>simp[ha]at h
  |[a,b],h=>
   rw[aS,aS,bm]at h
   cases ha:fV g 5 a<;>cases hb:fV g 5 b<;>simp[ha,hb]at h
   obtain⟨rfl,rfl⟩:=h
   rw[ny ha,ny hb]
  |a::b::c::r,h=>
   rw[aS,aS,aS]at h
   cases ha:fV g 5 a<;>cases hb:fV g 5 b<;>cases hc:fV g 5 c<;>cases hd:ep g 5 r<;>simp[ha,hb,hc,hd]at h
 |_=>rw[fV]at h<;>simp_all<;>(repeat' (split at h))<;>simp_all
theorem CZ (W:World) (p:ah) (d:Int) (hd:gn d 0 3=true) (hx:iB p.eI) (hy:iB p.eB):Calls Tryz.prog 228 #[.agg #[.int .i64 p.eI,.int .i64 p.eB],.int .i64 d] W fun e W'=>e=.returned (.agg #[.int .i64 (aW p d).eI,.int .i64 (aW p d).eB])/\Below W.heap.size W W':=by
 refine(zp mixed (C1 p d hd hx hy) (fun g r0 h=>BV h) ?_:Calls _ _ _ _ _).mono ?_
 ·exact kz (vs:= #[.int .i64 d]) (.agg _ _ (fun j=>if j=0 then .int .i64 p.eI else .int .i64 p.eB) rfl (fun a ha=>by simp[ab]at ha;rcases ha with rfl|rfl<;>rfl) (fun j hj=>by match j,hj with|0,_=>rfl|1,_=>rfl|j+2,hj=>simp[ab]at hj;omega) (fun j a ha=>by match j,ha with|0,ha=>simp[ab]at ha;subst ha;exact .int _ _|1,ha=>simp[ab]at ha;subst ha;exact .int _ _|j+2,ha=>simp[ab]at ha)) (kz (vs:= #[]) (.int _ _) uC)
 ·rintro e W' ⟨D,ι,u,rfl,hr,hB⟩
  refine⟨?_,hB⟩
  obtain⟨vs,f,rfl,eW,_,h1,h2⟩:=iw hr
  have v0:=h1 0 (by simp[ab])
  have v1:=h1 1 (by simp[ab])
  rw[dc (h2 0 _ rfl)]at v0
  rw[dc (h2 1 _ rfl)]at v1
  obtain⟨vl⟩:=vs
  match vl,eW with
  |[a,b],_=>
   simp at v0 v1
   rw[v0,v1]
theorem vQ (W:World) (l:List ad) (v:Value) (hP:ot W v l) (p:ah) (hR:qS l) (L8:l.length<=1048576):Calls Tryz.prog 303 #[.agg #[v],.agg #[.int .i64 p.eI,.int .i64 p.eB]] W fun e W'=>e=.returned (.int .i64 (eC l p))/\Below W.heap.size W W':=by
 refine(zp mixed (FG l p hR L8) (fun g r0 h=>ny h) ?_:Calls _ _ _ _ _).mono ?_
 ·exact kz (vs:= #[.agg #[.int .i64 p.eI,.int .i64 p.eB]]) (.agg _ _ (fun _=>v) rfl (fun a ha=>by simp at ha;rw[ha];rfl) (fun j hj=>by match j,hj with|0,_=>rfl|j+1,hj=>simp at hj) (fun j a ha=>by match j,ha with|0,ha=>simp at ha;subst ha;exact hP.eO|j+1,ha=>simp at ha)) (kz (vs:= #[]) (.agg _ _ (fun j=>if j=0 then .int .i64 p.eI else .int .i64 p.eB) rfl (fun a ha=>by simp[ab]at ha;rcases ha with rfl|rfl<;>rfl) (fun j hj=>by match j,hj with|0,_=>rfl|1,_=>rfl|j+2,hj=>simp[ab]at hj;omega) (fun j a ha=>by match j,ha with|0,ha=>simp[ab]at ha;subst ha;exact .int _ _|1,ha=>simp[ab]at ha;subst ha;exact .int _ _|j+2,ha=>simp[ab]at ha)) uC)
 ·rintro e W' ⟨D,ι,u,rfl,hr,hB⟩
  exact⟨by rw[dc hr],hB⟩
theorem grown_of {W W':World} (h:Below W.heap.size W W'):W.grownBy W' none:=⟨h.os,h.tape,h.output,h.size,fun k hk _=>h.block k hk⟩
def Ay (l:List ad) (i:Nat) (d:Int):List (Nat×Nat×Int):=if 0<=eC l (aW (aO l i).bH d)then[(i,(eC l (aW (aO l i).bH d)).toNat,d)]else[]
def kn (l:List ad) (i m:Nat):List (Nat×Nat×Int):=(List.range m).flatMap fun j:Nat=>Ay l i (1-(j:Int))
def kS (l:List ad) (n:Nat):List (Nat×Nat×Int):=(List.range n).flatMap fun i=>kn l i 2
theorem lE (l:List ad) (n:Nat):kS l (n+1)=kS l n++kn l n 2:=by simp[kS,List.range_succ]
theorem lZ (l:List ad) (i m:Nat):kn l i (m+1)=kn l i m++Ay l i (1-(m:Int)):=by simp[kn,List.range_succ]
theorem M7 (l:List ad) {k m:Nat} (hk:k<l.length) (hm:m<=2):kS l k++kn l k m <+:kS l l.length:=by
 have h1:∀d,kS l k <+:kS l (k+d):=fun d=>by
  induction d with
  |zero=>exact List.prefix_refl _
  |succ d ih=>rw[<-Nat.add_assoc,lE l (k+d)];exact ih.trans (List.prefix_append _ _)
 have h2:∀d,kS l (k+1) <+:kS l (k+1+d):=fun d=>by
  induction d with
  |zero=>exact List.prefix_refl _
  |succ d ih=>rw[<-Nat.add_assoc,lE l (k+1+d)];exact ih.trans (List.prefix_append _ _)
 have h3:=h2 (l.length-(k+1))
 rw[show k+1+(l.length-(k+1))=l.length by omega,lE]at h3
 refine List.IsPrefix.trans ?_ h3
 have h4:kn l k m <+:kn l k 2:=by
  have:m=0∨m=1∨m=2:=by omega
  rcases this with rfl|rfl|rfl
  ·exact List.nil_prefix
  ·rw[lZ l k 1];exact List.prefix_append _ _
  ·exact List.prefix_refl _
 exact(List.prefix_append_right_inj _).2 h4
def Om (l:List ad) (x:Nat×Nat×Int):Prop:=x.1<l.length/\x.2.1<l.length/\(0<=x.2.2/\x.2.2<=1)
def Dz (x:Nat×Nat×Int):Array Value:= #[.agg #[.int .i64 (x.1:Int),.int .i64 (x.2.1:Int)],.int .i64 x.2.2]
theorem J0 (l:List ad) (p:ah) (h:0<l.length:=by omega):eC l p<(l.length:Int):=by
 unfold eC
 split<;>omega
theorem PY (l:List ad) (hA:jU l) (q Ba:Nat) (vS:Value) (K:World->World->Prop) (kl:Gw K vS l) (J Jx:List (Nat×Nat×Int)->World->Prop) (n:Nat) (hn:1<=n)
  (hY:∀pre x W,J pre W->pre.length<(kS l l.length).length->Om l x->YieldAt Fence.wide (n-1) Tryz.prog q (Dz x) W fun e W'=>
   (e=.returned (.bool true)/\J (pre++[x]) W'/\K W W')∨(e=.returned (.bool false)/\Jx (pre++[x]) W'))
  (W:World) (hJ:AbidesFrom W.heap.size J) (Mb:W.heap[Ba]? =some (.cells #[vS] 42 (0,0))) (hP:ot W vS l) (h0:J [] W):
  CallsIn Fence.wide n Tryz.prog 302 #[.func (.yield q) #[] #[],.pointer (some ⟨Ba,0,none⟩)] W fun e W'=>(∃v,e=.returned v)/\
   ((∃ys,ys=kS l l.length/\J ys W')∨(∃pre,pre <+:kS l l.length/\Jx pre W')):=by
 obtain⟨A,cp,rfl,_,_⟩:=hP.sl
 refine callsIn_of_wp Tryz.func302 rfl trivial ?_ rfl
 simp only[Tryz.ntmps302,List.size_toArray,List.length_cons,List.length_nil,Nat.reduceAdd,Nat.reduceSub,Array.replicate_succ,Array.replicate_zero,List.push_toArray,List.append_toArray,List.nil_append,List.cons_append]
 have jk:W.cell? ⟨Ba,0,none⟩=some (.slice A l.length cp):=by simp[World.cell?,Mb]
 gi_wp2
 gi_loopw [11] (fun i wr=>∃k:Nat,k<=l.length/\i=.int .i64 k/\J (kS l k) wr/\K W wr)
  (fun i _=>l.length-(intOf i).toNat)
 case atStart=>exact⟨0,Nat.zero_le _,rfl,h0,kl.refl _⟩
 case round=>
  obtain⟨k,hk,rfl,OQ,hKt⟩:=hrel
  by_cases dJ:k<l.length
  ·have dp:∃b o,A=some ⟨b,o,none⟩/\wr.cell? ⟨b,o+k*3,none⟩=some (.int .i64 (aO l k).bH.eI)/\wr.cell? ⟨b,o+k*3+1,none⟩=some (.int .i64 (aO l k).bH.eB)/\wr.cell? ⟨b,o+k*3+2,none⟩=some (.int .i64 (aO l k).bq):=by
    obtain⟨A',c',hv,_,hc⟩:=(kl.pl hKt hP).sl
    cases hv
    rcases hc with rfl|⟨b,o,rfl,jV⟩
    ·simp at dJ
    ·obtain⟨h1,h2,h3⟩:=jV k dJ
     exact⟨b,o,rfl,by simpa using h1,by rw[Nat.add_assoc];exact h2,by rw[Nat.add_assoc];exact h3⟩
   obtain⟨b,o,rfl,hx,Rc,ht⟩:=dp
   gi_wp2
   obtain⟨W2,OX⟩:∃W2,(wr.alloc (.cells #[.int .i64 (aO l k).bH.eI,.int .i64 (aO l k).bH.eB,.int .i64 (aO l k).bq] 171)).alloc (.cells #[.int .i64 1,.int .i64 0] 2)=W2:=⟨_,rfl⟩
   have re:Below wr.heap.size wr W2:=by rw[<-OX];exact((Below.refl _ wr).alloc (Nat.le_refl _) _).alloc (by simp) _
   have R0:W2.heap[wr.heap.size]? =some (.cells #[.int .i64 (aO l k).bH.eI,.int .i64 (aO l k).bH.eB,.int .i64 (aO l k).bq] 171 (0,0)):=by
    rw[<-OX,Below.heap_alloc _ _ _ (by simp)];exact World.alloc_heap_new _ _
   have RZ:W2.heap[wr.heap.size+1]? =some (.cells #[.int .i64 1,.int .i64 0] 2 (0,0)):=by
    have:=World.alloc_heap_new (wr.alloc (.cells #[.int .i64 (aO l k).bH.eI,.int .i64 (aO l k).bH.eB,.int .i64 (aO l k).bq] 171)) (.cells #[.int .i64 1,.int .i64 0] 2)
    rw[World.size_alloc]at this
    rw[<-OX];exact this
   have OR:K W W2:=kl.trans hKt (kl.of re)
   have R5:J (kS l k++kn l k 0) W2:=by
    have:=hJ _ _ _ none OQ (grown_of re) (fun r h=>by cases h)
    simpa[kn]using this
   rw[OX]
   clear OX
   generalize wr=w1 at *
   gi_loopw [18] (fun j wr=>∃m:Nat,m<=2/\j=.int .i64 m/\J (kS l k++kn l k m) wr/\K W2 wr)
    (fun j _=>2-(intOf j).toNat)
   case atStart=>exact⟨0,by omega,rfl,R5,kl.refl _⟩
   case round=>
    obtain⟨m,hm,rfl,hJm,K4⟩:=hrel
    have SH:m=0∨m=1∨m=2:=by omega
    by_cases N1:m<2
    ·have hkd:=kl.typed K4 _ _ _ _ RZ (by decide) (by decide)
     have JI:=kl.typed K4 _ _ _ _ R0 (by decide) (by decide)
     have hka:=kl.typed (kl.trans OR K4) _ _ _ _ Mb (by decide) (by decide)
     have cd:wr.cell? ⟨w1.heap.size+1,m,none⟩=some (.int .i64 (1-(m:Int))):=by
      rw[World.cell?_of_block hkd]
      rcases SH with rfl|rfl|rfl
      ·simp[World.cell?,RZ]
      ·simp[World.cell?,RZ]
      ·omega
     have ct0:wr.cell? ⟨w1.heap.size,0,none⟩=some (.int .i64 (aO l k).bH.eI):=by rw[World.cell?_of_block JI];simp[World.cell?,R0]
     have ct1:wr.cell? ⟨w1.heap.size,1,none⟩=some (.int .i64 (aO l k).bH.eB):=by rw[World.cell?_of_block JI];simp[World.cell?,R0]
     have ca:wr.cell? ⟨Ba,0,none⟩=some (.slice (some ⟨b,o,none⟩) l.length cp):=by rw[World.cell?_of_block hka];simp[World.cell?,Mb]
     have hPw:ot wr (.slice (some ⟨b,o,none⟩) l.length cp) l:=kl.pl (kl.trans OR K4) hP
     have hba:Ba<wr.heap.size:=by
      have h1:=(Array.getElem?_eq_some_iff.1 Mb).1
      have h2:=kl.size (kl.trans OR K4)
      omega
     have hdm:gn (1-(m:Int)) 0 3=true:=gr (by omega)
     have Ld:=rH (hA.pt dJ)
     have N9:=fun w0=>CZ w0 (aO l k).bH (1-(m:Int)) hdm Ld.1 Ld.2
     have hPd:ot wr.drew (.slice (some ⟨b,o,none⟩) l.length cp) l:=hPw.below ⟨rfl,rfl,rfl,Nat.le_refl _,fun _ _=>rfl⟩
     have cad:wr.drew.cell? ⟨Ba,0,none⟩=some (.slice (some ⟨b,o,none⟩) l.length cp):=ca
     have ctd0:wr.drew.cell? ⟨w1.heap.size,0,none⟩=some (.int .i64 (aO l k).bH.eI):=ct0
     have ctd1:wr.drew.cell? ⟨w1.heap.size,1,none⟩=some (.int .i64 (aO l k).bH.eB):=ct1
     have hfw:=hA.A6
     have Po:=hA.Oi
     have SI:=mixed
     gi_wp2
     gi_region_with_o (first|(refine⟨trivial,?_⟩;gi_at_call 228;refine(callsIn_wide.2 (N9 _)).mono ?_;rintro e w3 ⟨rfl,zL⟩;have ca3:=(zL.cell (p:=⟨Ba,0,none⟩) hba).trans cad)|(refine⟨trivial,?_⟩;gi_at_call 303;refine(callsIn_wide.2 (vQ _ l _ (hPd.below zL) (aW (aO l k).bH (1-(m:Int))) Po (by omega))).mono ?_;rintro e w4 ⟨rfl,hB4⟩))
     all_goals
      have Ma:Below wr.heap.size wr w4:=(show Below wr.heap.size wr wr.drew from⟨rfl,rfl,rfl,Nat.le_refl _,fun _ _=>rfl⟩).trans (zL.trans (hB4.mono zL.size))
      have hJ4:J (kS l k++kn l k m) w4:=hJ _ _ _ none hJm (grown_of Ma) (fun r h=>by cases h)
      have vH:=M7 l dJ (m:=m+1) (by omega)
      rw[lZ,<-List.append_assoc]at vH
      have nV:=lZ l k m
      have hw:wrap64 ((m:Int)+1)=((m+1:Nat):Int):=by unfold wrap64;omega
      by_cases xS:0<=eC l (aW (aO l k).bH (1-(m:Int)))
      ·have e9:((eC l (aW (aO l k).bH (1-(m:Int)))).toNat:Int)=eC l (aW (aO l k).bH (1-(m:Int))):=by omega
       rw[Ay,if_pos xS]at vH nV
       obtain⟨fn,tmps,assign,body,hy,hR⟩:=hY _ (k,(eC l (aW (aO l k).bH (1-(m:Int)))).toNat,1-(m:Int)) w4 hJ4 (by
        have:=vH.length_le
        simp only[List.length_append,List.length_cons,List.length_nil]at this ⊢
        omega) ⟨dJ,by
        have:eC l (aW (aO l k).bH (1-(m:Int)))<(l.length:Int):=J0 _ _
        show(eC l (aW (aO l k).bH (1-(m:Int)))).toNat<l.length
        omega,by show 0<=1-(m:Int);omega,by show 1-(m:Int)<=1;omega⟩
       simp only[Dz,e9]at hy
       gi_wp2
       refine hR.mono ?_
       rintro e W3 (⟨rfl,hJ3,Mu⟩|⟨rfl,hJx3⟩)
       ·gi_wp2
        go_roundw
        case rel=>exact⟨m+1,by omega,by simp,by rw[nV,<-List.append_assoc];exact hJ3,kl.trans (kl.trans K4 (kl.of Ma)) Mu⟩
        case measure=>simp[intOf];omega
       ·gi_wp2
        refine bodyPost_ret (results_none rfl _ _ _) rfl ?_
        exact⟨⟨_,rfl⟩,.inr ⟨_,vH,hJx3⟩⟩
      ·rw[Ay,if_neg xS,List.append_nil]at nV
       gi_wp2
       refine⟨fun _ h=>(by cases h),?_⟩
       gi_wp2
       go_roundw
       case rel=>exact⟨m+1,by omega,by simp,by rw[nV];exact hJ4,kl.trans K4 (kl.of Ma)⟩
       case measure=>simp[intOf];omega
    ·obtain rfl:m=2:=by omega
     have hfw:=hA.A6
     gi_wp2
     go_roundw
     case rel=>exact⟨k+1,by omega,by simp,by rw[lE];exact hJm,kl.trans OR K4⟩
     case measure=>simp[intOf];omega
  ·obtain rfl:k=l.length:=by omega
   gi_wp2
   go_end0
   exact⟨⟨_,rfl⟩,.inl ⟨_,rfl,OQ⟩⟩
theorem yi (n:Nat) (vS:Value) (w:World):CallsIn Fence.wide n Tryz.prog 260 #[.agg #[vS]] w fun e w'=>e=.returned (.func (.func 302) #[] #[.pointer (some ⟨w.heap.size,0,none⟩)])/\w'=w.alloc (.cells #[vS] 42):=by
 refine callsIn_of_wp Tryz.func260 rfl trivial ?_ rfl
 simp only[Tryz.ntmps260,List.size_toArray,List.length_cons,List.length_nil,Nat.reduceAdd,Nat.reduceSub,Array.replicate_succ,Array.replicate_zero,List.push_toArray,List.append_toArray,List.nil_append,List.cons_append]
 gi_wp2
 go_ret
 exact⟨rfl,rfl⟩
abbrev Lz (l:List ad):Type:={x:Nat×Nat×Int // Om l x}
theorem HV (l:List ad) (hA:jU l) (Ba n:Nat) (hn:1<=n) (vS:Value) (K:World->World->Prop) (kl:Gw K vS l) (w:World) (Mb:w.heap[Ba]? =some (.cells #[vS] 42 (0,0))) (hP:ot w vS l):
  SeqStopsK Fence.wide n Tryz.prog 302 #[.pointer (some ⟨Ba,0,none⟩)] (fun x:Lz l=>Dz x.1) K (fun ys=>ys.map (·.1)=kS l l.length) (fun _=>True) (kS l l.length).length w:=fun q J Jx W hW hJ _ hY h0=>by
 refine(PY l hA q Ba vS K kl (fun ys W=>∃zs:List (Lz l),zs.map (·.1)=ys/\J zs W) (fun ys W=>∃zs:List (Lz l),zs.map (·.1)=ys/\Jx zs W) n hn (fun pre x W1 R4 dJ tV=>?_) W (fun s A B row ⟨zs,e,h⟩ hg hr=>⟨zs,e,hJ zs A B row h hg hr⟩) ((hW.block Ba (Array.getElem?_eq_some_iff.1 Mb).1).trans Mb) (hP.below hW) ⟨[],rfl,h0⟩).mono ?_
 ·obtain⟨zs,rfl,h1⟩:=R4
  refine YieldAt.mono (hY zs ⟨x,tV⟩ W1 h1 (by simpa using dJ)) ?_
  rintro e W' (⟨h2,h3,h4⟩|⟨h2,h3⟩)
  ·exact .inl ⟨h2,⟨zs++[⟨x,tV⟩],by simp,h3⟩,h4⟩
  ·exact .inr ⟨h2,⟨zs++[⟨x,tV⟩],by simp,h3⟩⟩
 ·rintro e W' ⟨h1,⟨ys,rfl,zs,h2,h3⟩|⟨pre,_,zs,h2,h3⟩⟩
  ·exact⟨h1,.inl ⟨zs,h2,h3⟩⟩
  ·exact⟨h1,.inr ⟨zs,trivial,h3⟩⟩
def xu (s:au) (l:List ad) (x:Nat×Nat×Int):List PB:=if 0<gC s (aO l x.1).bq x.2.2 (aO l x.2.1).bq then[⟨x.1,x.2.1,gC s (aO l x.1).bq x.2.2 (aO l x.2.1).bq⟩]else[]
theorem GW (s:au) (l:List ad):cU s l=(kS l l.length).flatMap (xu s l):=by
 have h1:∀i d,lS s l i d=(Ay l i d).flatMap (xu s l):=fun i d=>by
  unfold lS Ay
  by_cases h:0<=eC l (aW (aO l i).bH d)
  ·rw[if_pos h]
   simp only[List.flatMap_cons,List.flatMap_nil,List.append_nil,xu]
   by_cases h2:0<gC s (aO l i).bq d (aO l (eC l (aW (aO l i).bH d)).toNat).bq
   ·rw[if_pos ⟨h,h2⟩,if_pos h2]
   ·rw[if_neg fun hc=>h2 hc.2,if_neg h2]
  ·rw[if_neg h,if_neg fun hc=>h hc.1];rfl
 unfold cU gp kS
 rw[List.flatMap_assoc]
 congr 1
 funext i
 unfold fK kn
 rw[List.flatMap_assoc]
 congr 1
 funext j
 exact h1 i _
section
variable {F:Fence} {n:Nat} {P:Program} {ops:Array Oper} {Q:Exit->Act->World->Prop} {rest:List Oper} {a:Act} {w:World} {o:Oper}
theorem Dh (hg:o.guard=none) (m:Operand) (t:TypeId) (dB:o.op=Op.range t m) {v:Value} {w':World} (fX:(Instr.range t (a.eval m)).run P w=.ok v w') (h:wpListIn F n P ops Q rest (a.put o.dst v) w'):wpListIn F n P ops Q (o::rest) a w:=by
 refine wpListIn_plain hg fun K' QB=>?_
 unfold Oper.wpIn
 refine⟨by simp[Oper.about,dB],?_⟩
 rw[Oper.semAt_plain F _ _ (by rw[dB];intro c jR;cases jR)]
 simp[execOp,dB,fX,Result.andThen]
 exact QB _ _ h
theorem F8 (hg:o.guard=none) (it:Operand) (dB:o.op=Op.next it false) (rr b clock:Nat) (seen:Array Nat) (es:Array MapEntry) (NW:a.eval it=.pointer (some ⟨rr,0,none⟩)) (hr:w.heap[rr]? =some (.mapIter (some b) clock seen clock)) (hb:w.heap[b]? =some (.map es clock)) (dL:Ev es clock)
  (OO:(leftOf es seen).toList=[]->wpListIn F n P ops Q rest (a.put o.dst (.tuple #[.bool false])) w)
  (OT:∀e∈(leftOf es seen).toList,∀w',w'.heap[rr]? =some (.mapIter (some b) clock (seen.push e.born) clock)->w'.heap[b]? =some (.map es clock)->w.grownBy w' (some rr)->w'.heap.size=w.heap.size->(Instr.entry (.pointer (some ⟨rr,0,none⟩))).run P w'=.ok (.tuple #[e.key,e.val]) w'->wpListIn F n P ops Q rest (a.put o.dst (.tuple #[.bool true,e.key,e.val])) w'):
  wpListIn F n P ops Q (o::rest) a w:=by
 refine wpListIn_plain hg fun K' QB=>?_
 unfold Oper.wpIn
 refine⟨by simp[Oper.about,dB],?_⟩
 rw[Oper.semAt_plain F _ _ (by rw[dB];intro c jR;cases jR)]
 rcases run_next_at (P:=P) w o.type rr b clock clock seen es clock hr hb dL.1 (Nat.le_refl _)with⟨h0,fX⟩|⟨e,he,w1,rn,fX⟩
 ·simp[execOp,dB,NW,fX,Result.andThen]
  exact QB _ _ (OO (List.eq_nil_of_length_eq_zero (by simpa using h0)))
 ·have Py:w1.heap[rr]? =some (.mapIter (some b) clock seen clock):=by rcases rn with rfl|rfl<;>exact hr
  have eQ:=MapKept.heap_set (o':=.mapIter (some b) clock (seen.push e.born) clock) Py
  obtain⟨w2,z8⟩:∃w2,ChangeMaps.setBlock w1 rr (.mapIter (some b) clock (seen.push e.born) clock)=w2:=⟨_,rfl⟩
  have ho:∀k,k≠rr->w2.heap[k]? =w.heap[k]? :=fun k hk=>by
   rw[<-z8]
   refine(eQ.2 k hk).trans ?_
   rcases rn with rfl|rfl<;>rfl
  have hz:w2.heap.size=w.heap.size:=by
   rw[<-z8]
   rcases rn with rfl|rfl<;>simp[ChangeMaps.setBlock]
  have Gj:w2.heap[rr]? =some (.mapIter (some b) clock (seen.push e.born) clock):=by rw[<-z8];exact eQ.1
  have xU:w2.os=w.os/\w2.tape=w.tape/\w2.output=w.output:=by
   rw[<-z8]
   rcases rn with rfl|rfl<;>exact⟨rfl,rfl,rfl⟩
  have Si:b≠rr:=fun e=>by subst e;rw[hr]at hb;cases hb
  have B6:w2.heap[b]? =some (.map es clock):=(ho b Si).trans hb
  have Ho:=run_entry_at (P:=P) w2 rr b clock seen es clock e Gj B6 (mem_left he).1 dL.2
  rw[z8]at fX
  simp[execOp,dB,NW,fX,Result.andThen]
  exact QB _ _ (OT e he w2 Gj B6 ⟨xU.1,xU.2.1,xU.2.2,by omega,fun k _ hk=>ho k fun e=>hk (by rw[e])⟩ hz Ho)
end
def p7 (p:ah):Value:=.agg #[.int .i64 p.eI,.int .i64 p.eB]
def CD (es:Array MapEntry) (rr:Nat) (w:World):Nat:=match w.heap[rr]? with
 |some (.mapIter _ _ seen _)=>(leftOf es seen).size
 |_=>0
theorem wW {es:Array MapEntry} {rr b clock:Nat} {seen:Array Nat} {w:World} (h:w.heap[rr]? =some (.mapIter (some b) clock seen clock)):CD es rr w=(leftOf es seen).size:=by unfold CD;rw[h]
theorem Fx {es:Array MapEntry} {clock:Nat} {seen:Array Nat} {e:MapEntry} (hs:Ev es clock) (he:e∈(leftOf es seen).toList):((e.key::(leftOf es (seen.push e.born)).toList.map (·.key)).Perm ((leftOf es seen).toList.map (·.key)))/\(leftOf es (seen.push e.born)).size+1=(leftOf es seen).size:=by
 obtain⟨i,hi,E8⟩:=List.getElem_of_mem he
 have h2:=CE hs (i:=i) (e:=e) (seen:=seen) (by rw[List.getElem?_eq_getElem hi,E8])
 have hp:=uu (l:=(leftOf es seen).toList) (i:=i) (x:=e) (by rw[List.getElem?_eq_getElem hi,E8])
 rw[h2]
 refine⟨by simpa using hp.map fun e:MapEntry=>e.key,?_⟩
 have h3:=congrArg List.length h2
 have h4:=hp.length_eq
 simp only[Array.length_toList,List.length_cons]at h3 h4
 rw[<-h3]at h4;exact h4
theorem EP {a b:List ah} (h:(a.map p7).Perm (b.map p7)):a.Perm b:=by
 have h2:=h.map (fun v:Value=>match v with| .agg ⟨[.int _ x,.int _ y]⟩=>(⟨x,y⟩:ah)|_=>⟨0,0⟩)
 simpa[List.map_map,Function.comp_def,p7]using h2
theorem HH (q Bm b:Nat) (es:Array MapEntry) (clock:Nat) (dL:Ev es clock) (ks:List ah) (hk:es.toList.map (·.key)=ks.map p7) (J Jx:List ah->World->Prop) (n:Nat) (hn:1<=n)
  (hY:∀pre x W,J pre W->pre.length<ks.length->YieldAt Fence.wide (n-1) Tryz.prog q #[p7 x] W fun e W'=>
   (e=.returned (.bool true)/\J (pre++[x]) W'/\KeepsWalks W W')∨(e=.returned (.bool false)/\Jx (pre++[x]) W'))
  (W:World) (hJ:AbidesFrom W.heap.size J) (hm:W.cell? ⟨Bm,0,none⟩=some (.map (some b))) (hb:W.heap[b]? =some (.map es clock)) (h0:J [] W):
  CallsIn Fence.wide n Tryz.prog 232 #[.func (.yield q) #[] #[],.pointer (some ⟨Bm,0,none⟩)] W fun e W'=>(∃v,e=.returned v)/\
   ((∃ss:List ah,ss.Perm ks/\J ss W')∨(∃pre,Jx pre W')):=by
 refine callsIn_of_wp Tryz.func232 rfl trivial ?_ rfl
 simp only[Tryz.ntmps232,List.size_toArray,List.length_cons,List.length_nil,Nat.reduceAdd,Nat.reduceSub,Array.replicate_succ,Array.replicate_zero,List.push_toArray,List.append_toArray,List.nil_append,List.cons_append]
 have hrg:=fun(wx:World) (h:wx.heap[b]? =some (.map es clock))=>run_range_map (P:=Tryz.prog) wx 149 _ _ b es clock Tryz.underlying149 h
 gi_wp2_with (first
  |(refine Dh rfl _ _ rfl (hrg _ hb) ?_)
  |gi_in)
 have mM:b<W.heap.size:=(Array.getElem?_eq_some_iff.1 hb).1
 have R4:J [] (W.alloc (.mapIter (some b) clock #[] clock)):=hJ _ _ _ none h0 (grown_of ((Below.refl _ W).alloc (Nat.le_refl _) _)) (fun r h=>by cases h)
 have Py:(W.alloc (.mapIter (some b) clock #[] clock)).heap[W.heap.size]? =some (.mapIter (some b) clock #[] clock):=World.alloc_heap_new _ _
 have DN:(W.alloc (.mapIter (some b) clock #[] clock)).heap[b]? =some (.map es clock):=(Below.heap_alloc _ _ _ mM).trans hb
 go_frame
 gi_loopw [3] (fun _ wr=>∃(seen:Array Nat) (ss:List ah),wr.heap[W.heap.size]? =some (.mapIter (some b) clock seen clock)/\wr.heap[b]? =some (.map es clock)/\(ss.map p7++(leftOf es seen).toList.map (·.key)).Perm (ks.map p7)/\J ss wr)
  (fun _ wr=>CD es W.heap.size wr)
 case atStart=>
  exact⟨#[],[],Py,DN,by rw[<-hk,show(leftOf es #[]).toList=es.toList by simp[leftOf]];exact List.Perm.refl _,R4⟩
 case round=>
  obtain⟨seen,ss,hr,Si,hp,OQ⟩:=hrel
  gi_wp2_with (first
   |(refine F8 rfl _ rfl W.heap.size b clock seen es rfl hr Si dL ?_ ?_)
   |gi_in)
  ·intro NZ
   gi_wp2
   go_end0
   rw[NZ]at hp
   exact⟨⟨_,rfl⟩,.inl ⟨ss,EP (by simpa using hp),OQ⟩⟩
  ·intro e he0 w2 Gj B6 Pd kQ Ho
   have he:e∈(leftOf es seen).toList:=by simpa using he0
   obtain⟨zT,dJ⟩:=Fx dL he
   obtain⟨x,hx⟩:∃x,e.key=p7 x:=by
    have h1:e.key∈es.toList.map (·.key):=List.mem_map_of_mem (mem_left he).1
    rw[hk]at h1
    obtain⟨x,_,hx⟩:=List.mem_map.1 h1
    exact⟨x,hx.symm⟩
   have R5:J ss w2:=hJ ss wr w2 (some W.heap.size) OQ Pd (fun r e=>by cases e;exact⟨Nat.le_refl _,_,hr,rfl⟩)
   have hlen:ss.length<ks.length:=by
    have h1:=hp.length_eq
    have h2:0<(leftOf es seen).toList.length:=List.length_pos_of_mem he
    simp only[List.length_append,List.length_map]at h1
    omega
   obtain⟨fn,tmps,assign,body,hy,hR⟩:=hY ss x (w2.alloc (.cells #[.int .i64 x.eI,.int .i64 x.eB] 123)) (hJ _ _ _ none R5 (grown_of ((Below.refl _ w2).alloc (Nat.le_refl _) _)) (fun r h=>by cases h)) hlen
   rw[hx]at Ho ⊢
   simp only[p7]at Ho hy ⊢
   gi_wp2
   refine hR.mono ?_
   rintro e3 W3 (⟨rfl,hJ3,Mu⟩|⟨rfl,hJx3⟩)
   ·gi_wp2
    have DL:=KeepsWalks.alloc w2 (.cells #[.int .i64 x.eI,.int .i64 x.eB] 123)
    have hr3:=Mu.same _ _ (DL.same _ _ Gj rfl) rfl
    have hb3:=Mu.same _ _ (DL.same _ _ B6 rfl) rfl
    go_roundw
    case rel=>
     refine⟨_,ss++[x],hr3,hb3,?_,hJ3⟩
     rw[List.map_append,List.append_assoc]
     refine List.Perm.trans ?_ hp
     rw[hx]at zT
     exact zT.append_left _
    case measure=>rw[wW hr3,wW hr];omega
   ·gi_wp2
    refine bodyPost_ret (results_none rfl _ _ _) rfl ?_
    exact⟨⟨_,rfl⟩,.inr ⟨_,hJx3⟩⟩
theorem Ct (Bm b:Nat) (es:Array MapEntry) (clock:Nat) (dL:Ev es clock) (ks:List ah) (hk:es.toList.map (·.key)=ks.map p7) (n:Nat) (hn:1<=n) (w:World) (RN:Bm<w.heap.size) (hm:w.cell? ⟨Bm,0,none⟩=some (.map (some b))) (hb:w.heap[b]? =some (.map es clock)):
  SeqStopsK Fence.wide n Tryz.prog 232 #[.pointer (some ⟨Bm,0,none⟩)] (fun x:ah=> #[p7 x]) KeepsWalks (fun ss=>ss.Perm ks) (fun _=>True) ks.length w:=fun q J Jx W hW hJ _ hY h0=>by
 refine(HH q Bm b es clock dL ks hk J Jx n hn hY W hJ ((hW.cell (p:=⟨Bm,0,none⟩) RN).trans hm) ((hW.block b (Array.getElem?_eq_some_iff.1 hb).1).trans hb) h0).mono ?_
 rintro e W' ⟨h1,⟨ss,h2,h3⟩|⟨pre,h3⟩⟩
 ·exact⟨h1,.inl ⟨ss,h2,h3⟩⟩
 ·exact⟨h1,.inr ⟨pre,trivial,h3⟩⟩
def Ln (ps:List ah):List Value:=ps.flatMap fun p=>[.int .i64 p.eI,.int .i64 p.eB]
theorem H9 (ps:List ah) (p:ah):Ln (ps++[p])=Ln ps++[.int .i64 p.eI,.int .i64 p.eB]:=by simp[Ln]
theorem Kr {ps:List ah} {i j:Nat} {p:ah} (h:ps[i]? =some p) (hj:j<2):(Ln ps)[i*2+j]? =([.int .i64 p.eI,.int .i64 p.eB]:List Value)[j]? :=by
 induction ps generalizing i with
 |nil=>simp at h
 |cons q r ih=>
  cases i with
  |zero=>
   simp at h;subst h
   match j,hj with
   |0,_=>rfl
   |1,_=>rfl
  |succ i=>
   simp only[List.getElem?_cons_succ]at h
   have:=ih h
   have e:(i+1)*2+j=i*2+j+2:=by omega
   rw[e]
   simpa[Ln]using this
theorem cell_two_new (W:World) (T:TypeId) (x y:Value):∀(j:Nat) (u:Value),[x,y][j]? =some u->(W.alloc (.cells #[x,y] T)).cell? ((⟨W.heap.size,0,none⟩:Addr).add j)=some u:=fun j u h=>by
 have hb:(W.alloc (.cells #[x,y] T)).heap[W.heap.size]? =some (.cells #[x,y] T (0,0)):=World.alloc_heap_new _ _
 have e:∀k,(W.alloc (.cells #[x,y] T)).cell? ⟨W.heap.size,k,none⟩=(#[x,y]:Array Value)[k]? :=fun k=>by
  unfold World.cell?
  rw[show(W.alloc (.cells #[x,y] T)).heap[(⟨W.heap.size,k,none⟩:Addr).block]? = _ from hb]
  rfl
 rw[show(⟨W.heap.size,0,none⟩:Addr).add j=⟨W.heap.size,j,none⟩ by simp[Addr.add];exact fun h=>h.symm,e]
 simpa using h
theorem MU:(Tryz.prog.info? 123).map (fun i=>(i.zero,i.size,i.bytes))=some (some (.agg #[.int .i64 0,.int .i64 0]),2,16):=by kernel_rfl
theorem E4 {β:Type} (B:Nat) (c:Array Value) (t:TypeId) (fr:Nat×Nat):Own (fun(_:β) W=>W.heap[B]? =some (.cells c t fr)):=fun _ X _ row h hg hr=>(hg.block B (Array.getElem?_eq_some_iff.1 h).1 (fun e=>by
 obtain⟨o,ho,hc⟩:=hr B e.symm
 rw[h]at ho;cases ho;cases hc)).trans h
theorem xp (Bm b:Nat) (es:Array MapEntry) (clock:Nat) (dL:Ev es clock) (ks:List ah) (hk:es.toList.map (·.key)=ks.map p7) (hl:ks.length<=1000000) (w:World) (RN:Bm<w.heap.size) (hm:w.cell? ⟨Bm,0,none⟩=some (.map (some b))) (hb:w.heap[b]? =some (.map es clock)):
  CallsIn Fence.wide 5 Tryz.prog 282 #[.slice none 0 0,.func (.func 232) #[] #[.pointer (some ⟨Bm,0,none⟩)]] w fun e W'=>∃(ss:List ah) (v:Value),ss.Perm ks/\e=.returned v/\W'.ownsRow w.heap.size 123 2 v ss.length (Ln ss)/\(v=.slice none 0 0↔ss=[])/\Below w.heap.size w W':=by
 obtain⟨i0,hi,Ja,wP,kQ⟩:=info_parts MU
 refine callsIn_of_wp_marks Tryz.func282 rfl trivial ?_ rfl
 simp only[Tryz.ntmps282,List.size_toArray,List.length_cons,List.length_nil,Nat.reduceAdd,Nat.reduceSub,Array.replicate_succ,Array.replicate_zero,List.push_toArray,List.append_toArray,List.nil_append,List.cons_append]
 gi_wp2
 have bO:=Boxed.new w 89 (.slice none 0 0)
 have uY:Below w.heap.size w (w.alloc (.cells #[.slice none 0 0] 89)):=(Below.refl _ w).alloc (Nat.le_refl _) _
 have eW:(w.alloc (.cells #[.slice none 0 0] 89)).heap.size=w.heap.size+1:=by simp
 obtain⟨W0,OV⟩:∃W0,w.alloc (.cells #[.slice none 0 0] 89)=W0:=⟨_,rfl⟩
 rw[OV]at bO uY eW ⊢
 clear OV
 have SH:W0.cell? ⟨Bm,0,none⟩=some (.map (some b)):=(uY.cell (p:=⟨Bm,0,none⟩) RN).trans hm
 have wD:=(uY.block b (Array.getElem?_eq_some_iff.1 hb).1).trans hb
 refine wpIn_rangeFunc_ownH (n:=5) rfl (by omega) (gf:=232) (lb:= #[.pointer (some ⟨Bm,0,none⟩)]) rfl trivial (enters_of Tryz.func232 (by kernel_rfl) rfl)
  (Ct Bm b es clock dL ks hk (5-1) (by omega) W0 (by omega) SH wD) walksK_t (walksK_b (w:=W0)) (Below.refl _ _) (fun _=>rfl)
  (fun pre W=>(∃v,Boxed W w.heap.size 89 v/\W.ownsRow w.heap.size 123 2 v pre.length (Ln pre)/\(v=.slice none 0 0↔pre=[]))/\Below w.heap.size w W)
  (fun _ _ _=>False)
  (OwnFrom.and (Own.from (holdsRow_own w.heap.size w.heap.size 89 123 2 (fun pre=>pre.length) (fun pre=>Ln pre) (fun pre v=>v=.slice none 0 0↔pre=[])) _) (ownFrom_below (Nat.le_refl _) (by omega)))
  (fun _ _ _ _ _ hs _ _=>hs)
  ⟨⟨_,bO,World.ownsRow_nil _ _ _ _,by simp⟩,uY⟩
  (fun x a' W=>∃Bx,w.heap.size<Bx/\W.heap[Bx]? =some (.cells #[.int .i64 x.eI,.int .i64 x.eB] 123 (0,0))/\a'={tmps:= #[.slice none 0 0,.func (.func 232) #[] #[.pointer (some ⟨Bm,0,none⟩)],.pointer (some ⟨w.heap.size,0,none⟩),undef,.slice none 0 0,.pointer (some ⟨Bx,0,none⟩),.func (.func 232) #[] #[.pointer (some ⟨Bm,0,none⟩)],.agg #[.int .i64 x.eI,.int .i64 x.eB],undef,undef,undef,undef,undef],defers:=[]})
  (fun x a' _ X Y row hs hg hr=>by obtain⟨Bx,h1,h2,h3⟩:=hs;exact⟨Bx,h1,E4 Bx _ _ _ () X Y row h2 hg (fun r e=>(hr r e).2),h3⟩)
  ?assign ?body ?done ?stop
 case assign=>
  rintro q pre x W K ⟨⟨v,hv,eX,hnil⟩,hB⟩ hK
  simp only[p7]
  gi_wp2
  exact hK _ _ ((KeepsOthers.alloc _ _).from _) (KeepsWalks.alloc _ _) ⟨⟨v,hv.alloc _,eX.alloc _,hnil⟩,hB.alloc hB.size _⟩ ⟨W.heap.size,hv.lt,World.alloc_heap_new _ _,rfl⟩
 case body=>
  rintro q pre x a' W hq hqr ⟨⟨v,hv,eX,hnil⟩,hB⟩ ⟨Bx,hBx,bX,rfl⟩ dJ
  have hc:=hv.cell
  have RE:W.cell? ⟨Bx,0,none⟩=some (.int .i64 x.eI):=by simp[World.cell?,bX]
  have RF:W.cell? ⟨Bx,1,none⟩=some (.int .i64 x.eB):=by simp[World.cell?,bX]
  have SN:=hB.size
  gi_wp2_with (gi_at_builtin;refine wpListIn_append_own _ rfl _ _ 89 rfl w.heap.size 123 i0 (.agg #[.int .i64 0,.int .i64 0]) 2 16 (by kernel_rfl) hi Ja wP kQ rfl (by decide) _ _ _ rfl (eX.alloc _) ⟨W.heap.size,0,none⟩ 1 1 [.int .i64 x.eI,.int .i64 x.eB] rfl rfl (cell_two_new _ _ _ _) (by simp[Value.oneCell']) (by unfold maxLen;omega) (by omega) (by simp;omega) ?_;intro v' w4 zS wH _;obtain⟨g',RG,rfl⟩:=ownsRow_succ zS;obtain⟨tW,JU,Gj,rl,B6⟩:=hv.appended (by decide) eX SN (by omega) zS wH;have oA:=tW.cell;have Su:=tW.frozen)
  exact⟨rl.from _,⟨rl.size,fun k o hk hw=>rl.same k o hk (Obj.not_cells_of_walk hw)⟩,⟨⟨_,JU,by rw[H9,List.length_append];exact Gj,by simp⟩,hB.trans B6⟩⟩
 case done=>
  rintro D ys W hD Bg ⟨⟨v,hv,eX,hnil⟩,hB⟩ hK
  have hc:=hv.cell
  gi_wp2
  refine⟨by simp,.inl ⟨_,_,rfl,run_takeDeferred hK,?_⟩⟩
  exact⟨_,results_tmp rfl _ _ _,ys,v,Bg,rfl,ownsRow_putObj eX _ hK rfl,hnil,hB.trans (belowK_b (w:=w) (Nat.le_refl _) W D _ _ (by omega) hK rfl rfl)⟩
 case stop=>
  rintro D c pre W _ _ h _
  exact h.elim
end Go.Proofs.YtgoljkjaameagaaGreat.V

namespace Go.Proofs.YtgoljkjaameagaaGreat.V
open Go.RowKit Go.Shelf Go.Lib Go.Sort
instance:Inhabited ah:=⟨⟨0,0⟩⟩
variable {P:Program} {w:World} {D:Nat->Prop} {ι:Names}
theorem qq {vs:Array Value} (h:fb P w D ι [] vs):vs= #[]:=Array.eq_empty_of_size_eq_zero h.1
theorem iL {a:AV} {r:List AV} {vs:Array Value} (h:fb P w D ι (a::r) vs):∃u us,vs=(u::us).toArray/\da P w D ι a u/\fb P w D ι r us.toArray:=by
 obtain⟨h1,h2⟩:=h
 obtain⟨l⟩:=vs
 cases l with
 |nil=>simp at h1
 |cons u us=>
  obtain⟨u',hu,hr⟩:=h2 0 a rfl
  simp at hu;subst hu
  exact⟨u,us,rfl,hr,by simpa using h1,fun j b hj=>by
   obtain⟨v,hv,kY⟩:=h2 (j+1) b (by simpa using hj)
   exact⟨v,by simpa using hv,kY⟩⟩
def KX:Prop:=∀(xw off cap:Nat) (d:Array ah) (w:World),HoldsK fy 2 w xw off d->xw<w.heap.size->d.size<4611686018427387904->
 Calls Tryz.prog 231 #[.slice (some ⟨xw,off,none⟩) d.size cap,.func (.func 154) #[] #[]] w fun e w'=>e=.returned (.tuple #[])/\∃d' n os,PermIn 0 d.size d d'/\SortedIn (ltOf oy) 0 d.size d'/\w'=sortWorldK fy 2 w xw off n d' os
def KY:Prop:=∀(p:Option Addr) (cap:Nat) (fv:Value) (w:World),Calls Tryz.prog 231 #[.slice p 0 cap,fv] w fun e w'=>e=.returned (.tuple #[])/\w'=w
theorem Ju (p:ah) (j:Nat) (a:AV) (h:(ab p)[j]? =some a) (P:Program) (w:World) (D:Nat->Prop) (ι:Names):da P w D ι a (fy p)[j]! :=by
 match j,h with
 |0,h=>simp[ab]at h;subst h;exact .eO _ _ (.int _ _)
 |1,h=>simp[ab]at h;subst h;exact .eO _ _ (.int _ _)
 |j+2,h=>simp[ab]at h
theorem FR (hC:KX) (hN:KY) (ps:List ah) (hlen:ps.length<=1048576) (σ:ax) (id:Id) (hg:σ.get id=some ⟨true,2,ps.map ab⟩):
  Call Tryz.prog 231 [.own id 0 ps.length,.fn 154 []] σ fun r σ'=>σ'.next=σ.next/\(∀x,x≠id->σ'.get x=σ.get x)/\∃qs,σ'.get id=some ⟨true,2,qs.map ab⟩/\qs.length=ps.length/\(∀x,x∈qs↔x∈ps)/\∀i j:Nat,i<j->j<qs.length->j5 (jh qs j) (jh qs i)=false:=by
 refine fR fun hs D ι w vs S U A=>?_
 obtain⟨u1,us1,rfl,h1,h2⟩:=iL A
 obtain⟨u2,us2,h3,h4,h5⟩:=iL h2
 simp at h3;subst h3
 have:=qq h5
 simp at this;subst this
 obtain⟨o,cap,B,rfl,hB,B8,ho,rj,hmax,hk⟩:=iy h1
 obtain⟨Tk,gf,rfl,_,hz,_,_⟩:=uD h4
 have hz':Tk= #[]:=Array.eq_empty_of_size_eq_zero (by simpa using hz)
 subst hz'
 by_cases h0:ps=[]
 ·subst h0
  refine(hN _ _ _ w).mono ?_
  rintro e w' ⟨rfl,rfl⟩
  exact⟨.im [],σ.get,σ.next,D,ι,_,rfl,⟨rfl,fun _ _=>rfl,[],hg,rfl,fun x=>Iff.rfl,fun i j _ hj=>by simp at hj⟩,Step.refl _ _ _ _,S,U,Nat.le_refl _,.im [] #[] (fun _=>Go.undef) rfl (fun j hj=>by simp at hj) (fun j a h=>by simp at h)⟩
 have kO:0<ps.length:=List.length_pos_iff.2 h0
 obtain⟨B',dK,R,jW,nB⟩:=S.row id _ hg
 rw[hB]at dK;injection dK with dK;subst dK
 replace R:=R.row hk
 have eW:B.sz=2:=R.sz
 have Bd:o=0:=by rcases ho with h|h<;>omega
 subst Bd
 obtain⟨cur,T,hblk,dp,yW⟩:=R.cur
 have zO:ps.length*2<=B.C:=by simpa using R.fits
 have hH:HoldsK fy 2 w B.b 0 ps.toArray:=by
  intro t ht
  rw[size_flatK]at ht
  have ht2:t<ps.length*2:=by simpa using ht
  have hi:t / 2<ps.length:=by omega
  have A9:w.frozen? ⟨B.b,0+t,none⟩=false:=by
   simp only[World.frozen?,hblk];simp
  refine⟨?_,A9⟩
  rw[get_flatK _ _ _ _ ht]
  have hd:(ps.toArray)[t / 2]! =ps[t / 2]:=by simp[getElem!_pos,hi]
  rw[hd]
  have hj:t % 2=0∨t % 2=1:=by omega
  have ht3:0+t=(t / 2)*2+t % 2:=by omega
  rw[ht3]
  rcases hj with hj|hj
  ·obtain⟨v,hv,hr⟩:=R.at_ (t / 2) 0 (ab ps[t / 2]) _ (by simp[hi]) rfl
   rw[dc hr]at hv
   rw[hj];exact hv
  ·obtain⟨v,hv,hr⟩:=R.at_ (t / 2) 1 (ab ps[t / 2]) _ (by simp[hi]) rfl
   rw[dc hr]at hv
   rw[hj];exact hv
 have mM:B.b<w.heap.size:=(Array.getElem?_eq_some_iff.1 hblk).1
 have O4:=hC B.b 0 cap ps.toArray w hH mM (by simp;omega)
 rw[show ps.toArray.size=ps.length from by simp]at O4
 refine O4.mono ?_
 rintro e w' ⟨rfl,d',m,os,⟨I6,_,hperm⟩,hsort,rfl⟩
 have O9:d'.size=ps.length:=by rw[I6];simp
 have Q1:d'.toList.length=ps.length:=by simpa using O9
 have hP:d'.toList.Perm ps:=by
  have e1:d'.extract 0 ps.length=d':=by rw[<-O9];exact Array.extract_size
  have e2:ps.toArray.extract 0 ps.length=ps.toArray:=by
   have:ps.length=ps.toArray.size:=by simp
   rw[this];exact Array.extract_size
  rw[e1,e2]at hperm
  simpa using hperm
 have hF:∀t,t<ps.length*2->(flatK fy 2 d')[t]! =(fy d'[t / 2]!)[t % 2]! :=fun t ht=>get_flatK _ _ _ _ (by rw[O9];exact ht)
 have hFs:(flatK fy 2 d').size=ps.length*2:=by rw[size_flatK,O9]
 have hw:sortWorldK fy 2 w B.b 0 m d' os=Go.Sort.grow (Go.Sort.putRow (fun v:Value=>v) (Go.Sort.ahead w m) B.b 0 (flatK fy 2 d')) os:=rfl
 rw[hw]
 clear hw hH
 generalize flatK fy 2 d'=Fl at hF hFs ⊢
 have qd:=S.put (r':=⟨true,2,d'.toList.map ab⟩) (cur':=Go.Sort.putCells (fun v:Value=>v) 0 Fl cur) hg rfl hB hblk (by simp[Go.Sort.putCells]) rfl rfl (by simpa[O9]using zO) (fun cs dp=>by
   obtain⟨x,_,rfl⟩:=List.mem_map.1 dp;rfl) (fun cs dp a ha=>by
   obtain⟨x,_,rfl⟩:=List.mem_map.1 dp
   simp[ab]at ha;rcases ha with rfl|rfl<;>rfl) (fun i j cs a hi hj=>by
   have wI:i<d'.toList.length:=by
    have:=(List.getElem?_eq_some_iff.1 hi).1
    simpa using this
   have NX:j<2:=by
    have:=List.mem_of_getElem? hi
    obtain⟨x,_,rfl⟩:=List.mem_map.1 this
    exact(List.getElem?_eq_some_iff.1 hj).1
   have Sm:cs=ab d'[i]! :=by
    rw[List.getElem?_map,List.getElem?_eq_getElem wI]at hi
    simp at hi
    rw[<-hi,getElem!_pos d' i (by simpa using wI)]
   subst Sm
   have Gn:i*2+j<ps.length*2:=by omega
   refine⟨(fy d'[i]!)[j]!,?_,Ju _ _ _ hj _ _ _ _⟩
   have oB:i*2+j<cur.size:=by rw[dp];omega
   show(Go.Sort.putCells (fun v:Value=>v) 0 Fl cur)[i*2+j]? = _
   simp only[Go.Sort.putCells,Array.getElem?_mapIdx,Array.getElem?_eq_getElem oB,Option.map_some]
   rw[if_pos ⟨Nat.zero_le _,by rw[hFs];omega⟩,Nat.sub_zero,hF _ Gn,show(i*2+j) / 2=i from by omega,show(i*2+j) % 2=j from by omega])
 obtain⟨S1,LC⟩:=qd
 have JQ:(Go.Sort.putRow (fun v:Value=>v) (Go.Sort.ahead w m) B.b 0 Fl).heap.size=w.heap.size:=by simp
 have K9:∀k,k<(w.setRow B.b (Go.Sort.putCells (fun v:Value=>v) 0 Fl cur)).heap.size->(Go.Sort.grow (Go.Sort.putRow (fun v:Value=>v) (Go.Sort.ahead w m) B.b 0 Fl) os).heap[k]? =(w.setRow B.b (Go.Sort.putCells (fun v:Value=>v) 0 Fl cur)).heap[k]? :=fun k hk=>by
  have Ht:k<w.heap.size:=by simpa using hk
  rw[heap_grow_old _ _ (by rw[JQ];exact Ht)]
  simp only[Go.Sort.putRow,Go.Sort.mapBlock,heap_ahead,Array.getElem?_modify]
  by_cases SF:B.b=k
  ·subst SF
   rw[setRow_heap w B.b cur _ T _ hblk,if_pos rfl,hblk];rfl
  ·rw[if_neg SF,setRow_other w B.b k _ (fun h=>SF h.symm)]
 have kQ:(w.setRow B.b (Go.Sort.putCells (fun v:Value=>v) 0 Fl cur)).heap.size<=(Go.Sort.grow (Go.Sort.putRow (fun v:Value=>v) (Go.Sort.ahead w m) B.b 0 Fl) os).heap.size:=by
  rw[size_grow,JQ];simp
 have S2:=S1.stay (D':=D) (ι':=ι) K9 kQ (fun _ h=>h) (fun b hb=>Nat.lt_of_lt_of_le (S1.dead b hb) kQ) (fun _ h=>.inl h) (fun _ _ h=>h)
 have LD:=LC.trans (Step.stay (D':=D) (ι':=ι) S1 K9 kQ (by simp[Go.Sort.grow,Go.Sort.putRow,Go.Sort.mapBlock,Go.Sort.ahead]) (by simp[Go.Sort.grow,Go.Sort.putRow,Go.Sort.mapBlock,Go.Sort.ahead]) (by simp[Go.Sort.grow,Go.Sort.putRow,Go.Sort.mapBlock,Go.Sort.ahead]) (fun _ h=>h) (fun _ h=>.inl h) (fun _ _ h=>h))
 refine⟨.im [],bK σ.get id ⟨true,2,d'.toList.map ab⟩,σ.next,D,ι,_,rfl,⟨rfl,fun x hx=>by simp[bK,hx],d'.toList,by simp[bK],Q1,fun x=>hP.mem_iff,fun i j Cg hj=>?_⟩,LD,S2,U,Nat.le_refl _,.im [] #[] (fun _=>Go.undef) rfl (fun j hj=>by simp at hj) (fun j a h=>by simp at h)⟩
 have h:=hsort i j (Nat.zero_le _) Cg (by omega)
 rw[ltOf,lU]at h
 have e1:d'[j]! =jh d'.toList j:=by rw[jt hj,getElem!_pos d' j (by simpa using hj)];rfl
 have hi:i<d'.toList.length:=by omega
 have e2:d'[i]! =jh d'.toList i:=by rw[jt hi,getElem!_pos d' i (by simpa using hi)];rfl
 rw[<-e1,<-e2];exact h
end Go.Proofs.YtgoljkjaameagaaGreat.V

namespace Go.Proofs
open Go.Shelf
def Tryz.CY:Go.Shelf.Ren:=⟨fun|6=>231|15=>209|14=>283|28=>271|29=>272|20=>311|21=>312|22=>313|23=>314|24=>315|25=>316|26=>317|27=>318|46=>331|47=>307|48=>308|49=>332|50=>333|57=>338|n=>n,fun|22=>89|24=>123|25=>215|3=>3|39=>273|0=>0|53=>333|55=>335|4=>4|46=>327|45=>326|50=>223|5=>5|9=>9|66=>360|70=>364|76=>382|77=>383|n=>n,fun|n=>n⟩
theorem Tryz.Io:Go.Proofs.SlLaysF0.n6 Tryz.prog Tryz.CY:={
 mixed:=by kernel_rfl
 f6:=⟨Tryz.f231.name,by decide,Tryz.func231.trans (congrArg some (by kernel_rfl))⟩
 f14:=⟨Tryz.f283.name,by decide,Tryz.func283.trans (congrArg some (by kernel_rfl))⟩
 f15:=Tryz.func209.trans (congrArg some (by kernel_rfl))
 f20:=⟨Tryz.f311.name,by decide,Tryz.func311.trans (congrArg some (by kernel_rfl))⟩
 f21:=⟨Tryz.f312.name,by decide,Tryz.func312.trans (congrArg some (by kernel_rfl))⟩
 f22:=⟨Tryz.f313.name,by decide,Tryz.func313.trans (congrArg some (by kernel_rfl))⟩
 f23:=⟨Tryz.f314.name,by decide,Tryz.func314.trans (congrArg some (by kernel_rfl))⟩
 f24:=⟨Tryz.f315.name,by decide,Tryz.func315.trans (congrArg some (by kernel_rfl))⟩
 f25:=⟨Tryz.f316.name,by decide,Tryz.func316.trans (congrArg some (by kernel_rfl))⟩
 f26:=⟨Tryz.f317.name,by decide,Tryz.func317.trans (congrArg some (by kernel_rfl))⟩
 f27:=⟨Tryz.f318.name,by decide,Tryz.func318.trans (congrArg some (by kernel_rfl))⟩
 f28:=Tryz.func271.trans (congrArg some (by kernel_rfl))
 f29:=Tryz.func272.trans (congrArg some (by kernel_rfl))
 f46:=⟨Tryz.f331.name,by decide,Tryz.func331.trans (congrArg some (by kernel_rfl))⟩
 f47:=Tryz.func307.trans (congrArg some (by kernel_rfl))
 f48:=Tryz.func308.trans (congrArg some (by kernel_rfl))
 f49:=⟨Tryz.f332.name,by decide,Tryz.func332.trans (congrArg some (by kernel_rfl))⟩
 f50:=⟨Tryz.f333.name,by decide,Tryz.func333.trans (congrArg some (by kernel_rfl))⟩
 f57:=⟨Tryz.f338.name,by decide,Tryz.func338.trans (congrArg some (by kernel_rfl))⟩
 t0:=Tryz.underlying0
 a0:=Tryz.isAgg0
 z0:=Tryz.sizeOf0
 v0:=Tryz.zeroValue0
 t3:=Tryz.underlying3
 a3:=Tryz.isAgg3
 z3:=Tryz.sizeOf3
 v3:=Tryz.zeroValue3
 t4:=Tryz.underlying4
 a4:=Tryz.isAgg4
 z4:=Tryz.sizeOf4
 v4:=Tryz.zeroValue4
 t5:=Tryz.underlying5
 a5:=Tryz.isAgg5
 z5:=Tryz.sizeOf5
 v5:=Tryz.zeroValue5
 t9:=Tryz.underlying9
 a9:=Tryz.isAgg9
 z9:=Tryz.sizeOf9
 v9:=Tryz.zeroValue9
 t22:=Tryz.underlying89
 a22:=Tryz.isAgg89
 z22:=Tryz.sizeOf89
 v22:=Tryz.zeroValue89
 t25:=Tryz.underlying215
 a25:=Tryz.isAgg215
 z25:=Tryz.sizeOf215
 v25:=Tryz.zeroValue215
 t39:=Tryz.underlying273
 a39:=Tryz.isAgg273
 z39:=Tryz.sizeOf273
 v39:=Tryz.zeroValue273
 t45:=Tryz.underlying326
 a45:=Tryz.isAgg326
 z45:=Tryz.sizeOf326
 v45:=Tryz.zeroValue326
 t46:=Tryz.underlying327
 a46:=Tryz.isAgg327
 z46:=Tryz.sizeOf327
 v46:=Tryz.zeroValue327
 t50:=Tryz.underlying223
 a50:=Tryz.isAgg223
 z50:=Tryz.sizeOf223
 v50:=Tryz.zeroValue223
 t53:=Tryz.underlying333
 a53:=Tryz.isAgg333
 z53:=Tryz.sizeOf333
 v53:=Tryz.zeroValue333
 t55:=Tryz.underlying335
 a55:=Tryz.isAgg335
 z55:=Tryz.sizeOf335
 v55:=Tryz.zeroValue335
 t66:=Tryz.underlying360
 a66:=Tryz.isAgg360
 z66:=Tryz.sizeOf360
 v66:=Tryz.zeroValue360
 t70:=Tryz.underlying364
 a70:=Tryz.isAgg364
 z70:=Tryz.sizeOf364
 v70:=Tryz.zeroValue364
 t76:=Tryz.underlying382
 a76:=Tryz.isAgg382
 z76:=Tryz.sizeOf382
 v76:=Tryz.zeroValue382
 t77:=Tryz.underlying383
 a77:=Tryz.isAgg383
 z77:=Tryz.sizeOf383
 v77:=Tryz.zeroValue383}
end Go.Proofs

namespace Go.Proofs.YtgoljkjaameagaaGreat.V
open Go.RowKit Go.Shelf Go.Lib Go.Sort
theorem zu (w:World) (a b:Int):Calls Tryz.prog 210 #[.int .i64 a,.int .i64 b] w fun e w'=>e=.returned (.int .i64 (pY a b))/\w=w':=by
 go_enter Tryz.func210,Tryz.ntmps210
 go_wp2_with go_in
 all_goals
  go_ret
  exact⟨Ec (by unfold pY;split<;>(try split)<;>omega),rfl⟩
theorem Kl (w:World) (a b:Int) (g:Nat) (ha:w.cell? ⟨g,0,none⟩=some (.int .i64 a)) (hb:w.cell? ⟨g,1,none⟩=some (.int .i64 b)):Calls Tryz.prog 233 #[.slice (some ⟨g,0,none⟩) 2 2] w fun e w'=>e=.returned (.int .i64 (Km a b))/\w=w':=by
 go_enter Tryz.func233,Tryz.ntmps233
 go_wp2_with fail
 go_loop [8] (fun i=>∃k:Nat,k<=2/\i=.int .i64 k/\Hid ((1<=k->a=0)/\(2<=k->b=0))) (fun i=>2-(intOf i).toNat)
 case atStart=>exact⟨0,by omega,rfl,Lib.hid ⟨fun h=>by omega,fun h=>by omega⟩⟩
 case round=>
  obtain⟨k,hk,rfl,hz⟩:=hrel
  have h3:k=0∨k=1∨k=2:=by omega
  rcases h3 with rfl|rfl|rfl
  ·go_wp2_with fail
   ·rename_i h
    go_ret
    exact⟨Ec (by unfold Km;simp_all),rfl⟩
   ·rename_i h
    go_round
    case rel=>exact⟨1,by omega,rfl,Lib.hid ⟨fun _=>by simpa using h,fun h=>by omega⟩⟩
    case measure=>simp[intOf]
  ·have h0:=hz.out.1 (by omega)
   replace h0:=Lib.hid h0
   go_wp2_with fail
   ·go_ret
    exact⟨Ec (by unfold Km;rw[if_pos h0.out]),rfl⟩
   ·rename_i h
    go_round
    case rel=>exact⟨2,by omega,rfl,Lib.hid ⟨fun _=>h0.out,fun _=>by simpa using h⟩⟩
    case measure=>simp[intOf]
  ·have h0:=Lib.hid (hz.out.1 (by omega))
   have h1:=Lib.hid (hz.out.2 (by omega))
   go_wp2_with fail
   go_ret
   exact⟨Ec (by unfold Km;rw[if_pos h0.out,h1.out]),rfl⟩
def Grown (w w':World):Prop:=∃(q:Nat) (os:Array Obj),w'=Go.Sort.grow (w.drewN q) os
theorem Grown.refl (w:World):Grown w w:=⟨0, #[],by rw[grow_empty];rfl⟩
theorem Grown.alloc {w w':World} (h:Grown w w') (o:Obj):Grown w (w'.alloc o):=by
 obtain⟨q,os,rfl⟩:=h
 exact⟨q,os++ #[o],by rw[alloc_eq_grow,grow_grow]⟩
theorem Grown.drew {w w':World} (h:Grown w w'):Grown w w'.drew:=by
 obtain⟨q,os,rfl⟩:=h
 exact⟨q+1,os,by rw[drew_grow];rfl⟩
theorem Grown.dN {w w':World} (h:Grown w w') (n:Nat):Grown w (w'.drewN n):=by
 obtain⟨q,os,rfl⟩:=h
 exact⟨q+n,os,by
  show Go.Sort.grow ((w.drewN q).drewN n) os=Go.Sort.grow (w.drewN (q+n)) os
  simp[World.drewN,Nat.add_assoc]⟩
theorem sE (w:World) (a b:ah):Calls Tryz.prog 154 #[.agg #[.int .i64 a.eI,.int .i64 a.eB],.agg #[.int .i64 b.eI,.int .i64 b.eB]] w fun e w'=>e=.returned (.int .i64 (oy a b))/\Grown w w':=by
 go_enter Tryz.func154,Tryz.ntmps154
 go_wp2_with fail
 go_region_held3 (fun w'=>w'.cell? ⟨w.heap.size,0,none⟩=some (.int .i64 a.eI)/\w'.cell? ⟨w.heap.size,1,none⟩=some (.int .i64 a.eB)/\
   w'.cell? ⟨w.heap.size+1,0,none⟩=some (.int .i64 b.eI)/\w'.cell? ⟨w.heap.size+1,1,none⟩=some (.int .i64 b.eB))
  (first|go_keep)
  (first|(go_at_call 210;refine(zu _ _ _).mono ?_;rintro e w' ⟨rfl,rfl⟩)|(go_at_call 233;refine(Kl _ (pY a.eB b.eB) (pY a.eI b.eI) _ (by simp[go_sem]) (by simp[go_sem])).mono ?_;rintro e w' ⟨rfl,rfl⟩))
 go_wp2_with fail
 go_ret
 refine⟨rfl,?_⟩
 repeat(first|(with_reducible exact Grown.refl _)|(refine Grown.alloc ?_ _)|(refine Grown.drew ?_)|(refine Grown.dN ?_ _))
theorem Th:SWO (ltOf oy) where
 irrefl x:=by rw[ltOf,lU];exact lX
 trans x y z h1 h2:=by rw[ltOf,lU]at *;exact gV h1 h2
 ntrans x y z h1 h2:=by rw[ltOf,lU]at *;rw[nX]at *;omega
theorem P8:KX:=fun xw off cap d w hH hblk eW=>by
 have eg:∀args w,(callFunc 154 args).run Tryz.prog w=.ok (.enter 154 args) w:=enters_of Tryz.func154 (by kernel_rfl) rfl
 have h:=AnyQ.slices_SortFunc Tryz.Io 2 Tryz.isAgg123 Tryz.sizeOf123 fy (fun _=>rfl) (fun x v hv=>by simp[fy]at hv;rcases hv with rfl|rfl<;>rfl) oy Th 154 #[] xw off cap d w eg (fun m os dk _ x y=>(sE _ x y).mono fun _ _ ⟨he,q,os',hw⟩=>⟨he,q,os',hw⟩) hH hblk eW
 exact h
theorem Lp:KY:=fun p cap fv w=>AnyF.slices_SortFunc_none Tryz.Io p cap fv w
end Go.Proofs.YtgoljkjaameagaaGreat.V

namespace Go.Proofs.YtgoljkjaameagaaGreat.V
open Go.RowKit
attribute [local irreducible] ej wpOps fQ Call
attribute [local go_sem] aH fq eD fH fG cV upd bZ K.av cC AV.cells AV.cell rowOf rowsOf part ld rowAt bK bR du dQ gE bB cR eb fF eL dh dV cP cN dD dE bF aT cG bE cI cH dS dW dU cF bJ cQ dR bD aJ cK cm gD bd cz bG aP dn aX dv AV.undef bj bx dG dO dz dF cu ea ei ck dY dX cJ cL List.getD_cons_zero List.getD_cons_succ List.getD_nil List.all_cons List.all_nil Bool.and_true Bool.true_and Bool.and_self Bool.not_true Bool.not_false Option.map_some Option.map_none Option.bind_some Option.bind_none List.length_cons List.length_nil List.take_succ_cons List.take_zero List.take_nil List.drop_succ_cons List.drop_zero List.drop_nil List.head?_cons List.map_cons List.map_nil List.getElem?_cons_zero List.getElem?_cons_succ List.cons_append List.nil_append List.append_nil List.length_map List.set_cons_zero List.set_cons_succ Nat.reduceMul eq_self Int.toNat_natCast Int.natCast_nonneg and_self true_and and_true decide_true decide_false Bool.false_eq_true Nat.zero_add Nat.add_zero List.contains_cons List.contains_nil Bool.or_false Bool.false_or beq_self_eq_true Nat.reduceBEq ne_eq not_true_eq_false not_false_eq_true Id.mk.injEq false_and and_false Nat.reduceLT Int.reduceLE Int.reduceLT Int.reduceToNat Int.reduceNeg Int.reduceAdd Nat.le_refl List.length_append beq_true beq_false Bool.not_eq_eq_eq_not or_false false_or eo aj ar aK aV bp bW aQ aZ aN aU cD bI
structure mm (n:Nat) (px:Nat->Option Nat) (L:Nat->Nat):Prop where
 top:∀k,k<n->px k=none->L k=k
 up:∀k j,k<n->px k=some j->j<k/\L j=L k
theorem mm.root {n:Nat} {px:Nat->Option Nat} {L:Nat->Nat} (h:mm n px L) (hL:ji L) {k:Nat} (hk:k<n) (hr:L k=k):px k=none:=by
 rcases hp:px k with _|j
 ·rfl
 ·obtain⟨h1,h2⟩:=h.up k j hk hp
  have:=hL.le j
  omega
theorem mm.start (n:Nat):mm n (fun _=>none) id:=⟨fun _ _ _=>rfl,fun _ _ _ h=>by cases h⟩
theorem mm.join {n:Nat} {px:Nat->Option Nat} {L:Nat->Nat} (h:mm n px L) (hL:ji L) (b:PB) (dJ:min (L b.a) (L b.b)<max (L b.a) (L b.b)):mm n (fun k=>if k=max (L b.a) (L b.b)then some (min (L b.a) (L b.b))else px k) (eF L b):=by
 have ha:=hL.idem b.a
 have hb:=hL.idem b.b
 have xT:L (min (L b.a) (L b.b))=min (L b.a) (L b.b):=by
  rcases Nat.le_total (L b.a) (L b.b)with h|h
  ·rw[Nat.min_eq_left h,ha]
  ·rw[Nat.min_eq_right h,hb]
 have Mx:L (max (L b.a) (L b.b))=max (L b.a) (L b.b):=by
  rcases Nat.le_total (L b.a) (L b.b)with h|h
  ·rw[Nat.max_eq_right h,hb]
  ·rw[Nat.max_eq_left h,ha]
 unfold eF
 generalize min (L b.a) (L b.b)=lo at *
 generalize max (L b.a) (L b.b)=hi at *
 refine⟨fun k hk hp=>?_,fun k j hk hp=>?_⟩
 ·by_cases I3:k=hi
  ·rw[if_pos I3]at hp;cases hp
  ·rw[if_neg I3]at hp
   have:=h.top k hk hp
   rw[if_neg (by omega)];exact this
 ·by_cases I3:k=hi
  ·rw[if_pos I3]at hp
   cases hp
   subst I3
   exact⟨dJ,by rw[if_neg (by omega),if_pos Mx,xT]⟩
  ·rw[if_neg I3]at hp
   obtain⟨h1,h2⟩:=h.up k j hk hp
   exact⟨h1,by rw[h2]⟩
theorem x7 {L:Nat->Nat} {b:PB} (h:L b.a=L b.b):eF L b=L:=by
 funext k
 unfold eF
 rw[h,Nat.max_self,Nat.min_self]
 split
 ·rename_i h;exact h.symm
 ·rfl
def q9 (G:Nat->Id) (px:Nat->Option Nat) (k:Nat):List AV:=[match px k with|none=>.gW|some j=>.ptr (G j) 0 0,.int .i64 (k:Int)]
def sw (g:Rows) (G:Nat->Id) (n:Nat) (px:Nat->Option Nat):Prop:=∀k,k<n->g (G k)=some ⟨true,2,[q9 G px k]⟩
theorem sw.frame {g g':Rows} {G:Nat->Id} {n:Nat} {px:Nat->Option Nat} (h:sw g G n px) (hf:∀k,k<n->g' (G k)=g (G k)):sw g' G n px:=fun k hk=>(hf k hk).trans (h k hk)
theorem kW {G:Nat->Id} {px:Nat->Option Nat} {k:Nat} (h:px k=none):q9 G px k=[.gW,.int .i64 (k:Int)]:=by rw[q9,h]
theorem r8 {G:Nat->Id} {px:Nat->Option Nat} {k j:Nat} (h:px k=some j):q9 G px k=[.ptr (G j) 0 0,.int .i64 (k:Int)]:=by rw[q9,h]
theorem xF (G:Nat->Id) (n:Nat) (px:Nat->Option Nat) (L:Nat->Nat) (h:mm n px L) (k:Nat) (hk:k<n) (σ:ax) (hG:sw σ.get G n px):
  Call Tryz.prog 334 [.ptr (G k) 0 0] σ fun r σ'=>r=.ptr (G (L k)) 0 0/\σ'.get=σ.get/\σ.next<=σ'.next:=by
 refine iq eE rfl fun hl=>?_
 clear hl
 (try((repeat(revert hN;revert N;apply Pn.out));refine wk @Nat.zero_add ?_;(repeat(refine Pn.mk ?_;intro N hN))))
 refine aM (fun m env st=>∃j:Nat,m=j/\j<n/\env 0=.ptr (G j) 0 0/\L j=L k/\st.get=σ.get/\σ.next<=st.next) k ⟨k,rfl,hk,sd @Nat.zero_add,rfl,by(try dsimp only),by(try dsimp only);omega⟩ ?_
 rintro m env_b st_b ⟨j,rfl,hj,b0,hLj,hg,hle⟩ eP
 clear eP
 have eX:=hG m hj
 rcases hp:px m with _|j
 ·rw[kW hp]at eX
  (try((repeat(revert hN;revert N;apply Pn.out));refine wk (tw @b0 (tw @hg @eX)) ?_;(repeat(refine Pn.mk ?_;intro N hN))))
  exact gQ (.inl rfl) (vs:=[.ptr (G m) 0 0]) (sd @Nat.zero_add) ⟨by rw[<-hLj,h.top m hj hp];rfl,by first|trivial|rfl|exact hg,by(try dsimp only);omega⟩
 ·rw[r8 hp]at eX
  obtain⟨h1,h2⟩:=h.up m j hj hp
  (try((repeat(revert hN;revert N;apply Pn.out));refine wk (tw @b0 (tw @hg @eX)) ?_;(repeat(refine Pn.mk ?_;intro N hN))))
  exact⟨j,h1,j,rfl,by omega,sd @Nat.zero_add,by omega,by first|trivial|rfl|exact hg,by(try dsimp only);omega⟩
end Go.Proofs.YtgoljkjaameagaaGreat.V

namespace Go.Proofs.YtgoljkjaameagaaGreat.V
open Go.RowKit
attribute [local irreducible] ej wpOps fQ Call
attribute [local go_sem] aH fq eD fH fG cV upd bZ K.av cC AV.cells AV.cell rowOf rowsOf part ld rowAt bK bR du dQ gE bB cR eb fF eL dh dV cP cN dD dE bF aT cG bE cI cH dS dW dU cF bJ cQ dR bD aJ cK cm gD bd cz bG aP dn aX dv AV.undef bj bx dG dO dz dF cu ea ei ck dY dX cJ cL List.getD_cons_zero List.getD_cons_succ List.getD_nil List.all_cons List.all_nil Bool.and_true Bool.true_and Bool.and_self Bool.not_true Bool.not_false Option.map_some Option.map_none Option.bind_some Option.bind_none List.length_cons List.length_nil List.take_succ_cons List.take_zero List.take_nil List.drop_succ_cons List.drop_zero List.drop_nil List.head?_cons List.map_cons List.map_nil List.getElem?_cons_zero List.getElem?_cons_succ List.cons_append List.nil_append List.append_nil List.length_map List.set_cons_zero List.set_cons_succ eq_self Int.toNat_natCast Int.natCast_nonneg and_self true_and and_true decide_true decide_false Bool.false_eq_true Nat.zero_add Nat.add_zero List.contains_cons List.contains_nil Bool.or_false Bool.false_or beq_self_eq_true ne_eq not_true_eq_false not_false_eq_true Id.mk.injEq false_and and_false Nat.le_refl List.length_append beq_true beq_false Bool.not_eq_eq_eq_not or_false false_or eo aj ar aK aV bp bW aQ aZ aN aU cD bI
abbrev mI:MK:=⟨false,[.tI]⟩
def rz (l:List (Nat×Nat)):List (List AV):=l.map fun p=>[.int .i64 (p.1:Int),.int .i64 (p.2:Int)]
theorem Ac (r:Nat):∀(l:List (Nat×Nat)) (i:Nat),((∀p∈l,p.1≠r)->fI mI [.int .i64 (r:Int)] (rz l) i=some none)/\(∀j v,l[j]? =some (r,v)->(∀x y,x<j->l[x]? =some y->y.1≠r)->fI mI [.int .i64 (r:Int)] (rz l) i=some (some (i+j)))
 |[],i=>⟨fun _=>rfl,fun j v h=>by simp at h⟩
 |p::l,i=>by
  obtain⟨h1,h2⟩:=Ac r l (i+1)
  by_cases h:p.1=r
  ·refine⟨fun hp=>absurd h (hp p (by simp)),fun j v hj hf=>?_⟩
   have Pm:j=0:=by
    rcases Nat.eq_zero_or_pos j with h0|h0
    ·exact h0
    ·exact absurd h (hf 0 p h0 (by simp))
   subst Pm
   simp[rz,fI,eL,fF,MK.ks,h]
  ·have hd:¬((r:Int)=(p.1:Int)):=by omega
   have oM:¬r=p.1:=fun he=>h he.symm
   have step:fI mI [.int .i64 (r:Int)] (rz (p::l)) i=fI mI [.int .i64 (r:Int)] (rz l) (i+1):=by
    unfold rz
    simp[fI,MK.ks,eL,fF,hd,oM,h]
   rw[step]
   refine⟨fun hp=>h1 fun q hq=>hp q (by simp[hq]),fun j v hj hf=>?_⟩
   cases j with
   |zero=>simp at hj;rw[hj]at h;exact absurd rfl h
   |succ j=>
    rw[h2 j v (by simpa using hj) fun x y hx hy=>hf (x+1) y (by omega) (by simpa using hy)]
    congr 2;omega
theorem wR {r:Nat} {l:List (Nat×Nat)}:((∀p∈l,p.1≠r)->fC mI (.int .i64 (r:Int)) (rz l)=some none)/\(∀j v,l[j]? =some (r,v)->(∀x y,x<j->l[x]? =some y->y.1≠r)->fC mI (.int .i64 (r:Int)) (rz l)=some (some j)):=by
 have e:fC mI (.int .i64 (r:Int)) (rz l)=fI mI [.int .i64 (r:Int)] (rz l) 0:=by
  unfold fC
  rw[if_pos ⟨rfl,rfl,rfl⟩];rfl
 obtain⟨h1,h2⟩:=Ac r l 0
 rw[e]
 exact⟨h1,fun j v hj hf=>by rw[h2 j v hj hf,Nat.zero_add]⟩
def kj (k:Nat) (L:Nat->Nat):List (List AV):=rz (leads k L).zipIdx
theorem CC {k:Nat} {L:Nat->Nat} (h:L k=k):kj (k+1) L=kj k L++[[.int .i64 (k:Int),.int .i64 ((leads k L).length:Int)]]:=by
 unfold kj
 rw[gw,if_pos h,List.zipIdx_append]
 simp[rz]
theorem CB {k:Nat} {L:Nat->Nat} (h:L k≠k):kj (k+1) L=kj k L:=by
 unfold kj
 rw[gw,if_neg h,List.append_nil]
theorem Fv {k:Nat} {L:Nat->Nat} (h:L k=k):fC mI (.int .i64 (k:Int)) (kj k L)=some none:=by
 refine wR.1 fun p hp=>?_
 have:=List.fst_mem_of_mem_zipIdx hp
 have:=(wV.1 this).1
 omega
theorem wU {n:Nat} {L:Nat->Nat} {x y:Nat} (hx:x<(leads n L).length) (hy:y<(leads n L).length) (h:(leads n L)[x]=(leads n L)[y]):x=y:=by
 have hp:=List.pairwise_iff_getElem.1 (sg n L)
 rcases Nat.lt_trichotomy x y with dJ|he|dJ
 ·exact absurd h (hp x y hx hy dJ)
 ·exact he
 ·exact absurd h.symm (hp y x hy hx dJ)
theorem wT {k:Nat} {L:Nat->Nat} (hL:ji L) (h:L k≠k):fC mI (.int .i64 (L k:Int)) (kj k L)=some (some (bP L k))/\(kj k L)[bP L k]? =some [.int .i64 (L k:Int),.int .i64 (bP L k:Int)]/\bP L k<(leads k L).length:=by
 have dJ:L k<k:=Nat.lt_of_le_of_ne (hL.le k) h
 have hn:bP L (L k)=bP L k:=by rw[bP,hL.idem,bP]
 have hg:=nW hL dJ
 rw[hn,hL.idem]at hg
 have hl:bP L k<(leads k L).length:=(List.getElem?_eq_some_iff.1 hg).1
 have hz:(leads k L).zipIdx[bP L k]? =some (L k,bP L k):=by simp[List.getElem?_zipIdx,hg]
 refine⟨wR.2 _ _ hz fun x y hx hy=>?_,by unfold kj rz;rw[List.getElem?_map,hz];rfl,hl⟩
 intro he
 rw[List.getElem?_zipIdx]at hy
 have Od:x<(leads k L).length:=by omega
 rw[List.getElem?_eq_getElem Od]at hy
 simp at hy
 rw[<-hy]at he
 simp at he
 have e2:(leads k L)[bP L k]=L k:=(List.getElem?_eq_some_iff.1 hg).2
 have:=wU Od hl (he.trans e2.symm)
 omega
def jm (k:Nat) (L:Nat->Nat):List (List Nat):=(leads k L).map (members k L)
theorem pe (k:Nat) (L:Nat->Nat):(jm k L).length=(leads k L).length:=by simp[jm]
theorem BY {k:Nat} {L:Nat->Nat} (hL:ji L) (h:L k=k):jm (k+1) L=jm k L++[[k]]:=by
 unfold jm
 rw[gw,if_pos h,List.map_append,List.map_cons,List.map_nil,iZ,if_pos h,lY hL (Nat.le_refl k),List.nil_append]
 congr 1
 refine List.map_congr_left fun r hr=>?_
 have:=(wV.1 hr).1
 rw[iZ,if_neg (by omega),List.append_nil]
theorem BZ {k:Nat} {L:Nat->Nat} (hL:ji L) (h:L k≠k):(jm k L)[bP L k]? =some (members k L (L k))/\jm (k+1) L=(jm k L).set (bP L k) (members k L (L k)++[k]):=by
 obtain⟨_,_,hl⟩:=wT hL h
 have dJ:L k<k:=Nat.lt_of_le_of_ne (hL.le k) h
 have hg:=nW hL dJ
 have hn:bP L (L k)=bP L k:=by rw[bP,hL.idem,bP]
 rw[hn,hL.idem]at hg
 refine⟨by unfold jm;rw[List.getElem?_map,hg];rfl,?_⟩
 unfold jm
 rw[gw,if_neg h,List.append_nil]
 refine List.ext_getElem? fun i=>?_
 rw[List.getElem?_set,List.getElem?_map,List.length_map]
 by_cases hi:bP L k=i
 ·subst hi
  rw[if_pos rfl,if_pos hl,hg,Option.map_some,iZ,if_pos rfl]
 ·rw[if_neg hi,List.getElem?_map]
  rcases hr:(leads k L)[i]? with _|r
  ·rfl
  ·rw[Option.map_some,Option.map_some,iZ,if_neg,List.append_nil]
   rintro rfl
   obtain⟨mC,he⟩:=List.getElem?_eq_some_iff.1 hr
   have e2:(leads k L)[bP L k]=L k:=(List.getElem?_eq_some_iff.1 hg).2
   exact hi (wU hl mC (e2.trans he.symm))
theorem As (k:Nat) (L:Nat->Nat) (r:Nat):(members k L r).length<=k:=by
 have:=List.length_filter_le (fun x=>L x==r) (List.range k)
 simpa[members]using this
def IX (g:Rows) (o:Id) (L:List (List Nat)) (nx:Nat):Prop:=∃rows ids,g o=some ⟨true,1,rows⟩/\eM NN g rows L ids/\ids.Nodup/\(∀i∈ids,i.site=320026008/\i.bt<nx)/\o.site=320025002/\o.bt<nx
theorem Jz {g':Rows} {v v' vP j:Nat} (h1:g' ⟨320025002,v⟩=some ⟨true,1,[[.own ⟨320026008,v'⟩ 0 1]]⟩) (h2:g' ⟨320026008,v'⟩=some ⟨true,1,[eN j]⟩) (hv:v<vP) (mO:v'<vP):IX g' ⟨320025002,v⟩ [[j]] vP:=
 ⟨_,[⟨320026008,v'⟩],h1,.one ⟨_,rfl,h2,rfl⟩,by simp,fun i hi=>by rw[List.mem_singleton.1 hi];exact⟨rfl,mO⟩,rfl,hv⟩
theorem IX.new {g:Rows} {o:Id} {L:List (List Nat)} {nx:Nat} (h:IX g o L nx) (j:Nat):∃rows,g o=some ⟨true,1,rows⟩/\rows.length=L.length/\∀(g':Rows) (v v' vP:Nat),nx<=v'->v<vP->v'<vP->g' ⟨320025002,v⟩=some ⟨true,1,rows++[[.own ⟨320026008,v'⟩ 0 1]]⟩->g' ⟨320026008,v'⟩=some ⟨true,1,[eN j]⟩->(∀i:Id,i.site=320026008->i.bt<nx->g' i=g i)->IX g' ⟨320025002,v⟩ (L++[[j]]) vP:=by
 obtain⟨rows,ids,h1,h2,h3,h4,h5,h6⟩:=h
 refine⟨rows,h1,h2.len,fun g' v v' vP hv tW JU q1 q2 q3=>⟨_,ids++[⟨320026008,v'⟩],q1,(h2.frame M4 fun i hi=>q3 i (h4 i hi).1 (h4 i hi).2).app (.one ⟨_,rfl,q2,rfl⟩),?_,fun i hi=>?_,rfl,tW⟩⟩
 ·refine List.nodup_append.2 ⟨h3,by simp,fun a ha b hb mV=>?_⟩
  rw[List.mem_singleton.1 hb]at mV
  have:=(h4 a ha).2
  rw[mV]at this
  simp only at this
  omega
 ·rcases List.mem_append.1 hi with hi|hi
  ·have:=h4 i hi;exact⟨this.1,by omega⟩
  ·rw[List.mem_singleton.1 hi];exact⟨rfl,JU⟩
theorem IX.add {g:Rows} {o:Id} {L:List (List Nat)} {nx k:Nat} {La:List Nat} (h:IX g o L nx) (hk:L[k]? =some La) (j:Nat):∃rows id,g o=some ⟨true,1,rows⟩/\rows.length=L.length/\rows[k]? =some [.own id 0 La.length]/\g id=some ⟨true,1,La.map eN⟩/\id.site=320026008/\id.bt<nx/\∀(g':Rows) (v' vP:Nat),nx<=v'->v'<vP->g' o=some ⟨true,1,rows.set k [.own ⟨320026008,v'⟩ 0 (La.length+1)]⟩->g' ⟨320026008,v'⟩=some ⟨true,1,La.map eN++[[.int .i64 (j:Int)]]⟩->(∀i:Id,i.site=320026008->i.bt<nx->(i=id)=False->g' i=g i)->IX g' o (L.set k (La++[j])) vP:=by
 obtain⟨rows,ids,h1,h2,h3,h4,h5,h6⟩:=h
 have jy:k<L.length:=(List.getElem?_eq_some_iff.1 hk).1
 have R6:=kg hk jy
 obtain⟨cs,ic,dp,NT,Pj,qd⟩:=h2.P6 M4 h3 k jy
 rw[R6]at NT
 obtain⟨id,rfl,q1,rfl⟩:=NT
 have hid:=h4 id (Pj id (by simp))
 refine⟨rows,id,h1,h2.len,dp,q1,hid.1,hid.2,fun g' v' vP hv tW r1 r2 r3=>?_⟩
 obtain⟨Cq,s1,s2,s3⟩:=qd g' [.own ⟨320026008,v'⟩ 0 (La.length+1)] (La++[j]) [⟨320026008,v'⟩] ⟨_,by simp,by rw[r2];simp[eN],rfl⟩ (fun i hi QZ=>r3 i (h4 i hi).1 (h4 i hi).2 (by
  simp only[eq_iff_iff,iff_false];rintro rfl;exact QZ (by simp))) (by simp) fun i hi hc=>by
   rw[List.mem_singleton.1 hi]at hc
   have:=(h4 _ hc).2
   simp only at this
   omega
 refine⟨_,Cq,r1,s1,s2,fun i hi=>?_,h5,by omega⟩
 rcases s3 i hi with h|h
 ·rw[List.mem_singleton.1 h];exact⟨rfl,tW⟩
 ·have:=h4 i h;exact⟨this.1,by omega⟩
def lj (G:Nat->Id) (n k:Nat):List (List AV):=(List.range n).map fun i=>[if i<k then .ptr (G i) 0 0 else .gW]
theorem lH (G:Nat->Id) (n k:Nat):(lj G n k).length=n:=by simp[lj]
theorem FY (G:Nat->Id) (n:Nat):List.replicate n [AV.gW]=lj G n 0:=by
 refine List.ext_getElem? fun i=>?_
 by_cases h:i<n
 ·rw[List.getElem?_replicate,if_pos h];simp[lj,h]
 ·rw[List.getElem?_eq_none (by simp;omega),List.getElem?_eq_none (by rw[lH];omega)]
theorem uP {G:Nat->Id} {n i:Nat} (h:i<n):(lj G n n)[i]? =some [.ptr (G i) 0 0]:=by simp[lj,h]
theorem IB {G:Nat->Id} {n k:Nat} (h:k<n):(lj G n k).set k [.ptr (G k) 0 0]=lj G n (k+1):=by
 refine List.ext_getElem? fun i=>?_
 rw[List.getElem?_set,lH]
 by_cases hi:k=i
 ·subst hi;rw[if_pos rfl,if_pos h];simp[lj,h]
 ·rw[if_neg hi]
  by_cases e9:i<n
  ·simp only[lj,List.getElem?_map,List.getElem?_range e9,Option.map_some]
   by_cases wJ:i<k
   ·rw[if_pos wJ,if_pos (by omega)]
   ·rw[if_neg wJ,if_neg (by omega)]
  ·rw[List.getElem?_eq_none (by rw[lH];omega),List.getElem?_eq_none (by rw[lH];omega)]
end Go.Proofs.YtgoljkjaameagaaGreat.V

namespace Go.Proofs.YtgoljkjaameagaaGreat.V
open Go.RowKit
attribute [local irreducible] ej wpOps fQ Call
attribute [local go_sem] aH fq eD fH fG cV upd bZ K.av cC AV.cells AV.cell rowOf rowsOf part ld rowAt bK bR du dQ gE bB cR eb fF eL dh dV cP cN dD dE bF aT cG bE cI cH dS dW dU cF bJ cQ dR bD aJ cK cm gD bd cz bG aP dn aX dv AV.undef bj bx dG dO dz dF cu ea ei ck dY dX cJ cL List.getD_cons_zero List.getD_cons_succ List.getD_nil List.all_cons List.all_nil Bool.and_true Bool.true_and Bool.and_self Bool.not_true Bool.not_false Option.map_some Option.map_none Option.bind_some Option.bind_none List.length_cons List.length_nil List.take_succ_cons List.take_zero List.take_nil List.drop_succ_cons List.drop_zero List.drop_nil List.head?_cons List.map_cons List.map_nil List.getElem?_cons_zero List.getElem?_cons_succ List.cons_append List.nil_append List.append_nil List.length_map List.set_cons_zero List.set_cons_succ Nat.reduceMul eq_self Int.toNat_natCast Int.natCast_nonneg and_self true_and and_true decide_true decide_false Bool.false_eq_true Nat.zero_add Nat.add_zero List.contains_cons List.contains_nil Bool.or_false Bool.false_or beq_self_eq_true Nat.reduceBEq ne_eq not_true_eq_false not_false_eq_true Id.mk.injEq false_and and_false Nat.reduceLT Int.reduceLE Int.reduceLT Int.reduceToNat Int.reduceNeg Int.reduceAdd Nat.le_refl List.length_append beq_true beq_false Bool.not_eq_eq_eq_not or_false false_or eo aj ar aK aV bp bW aQ aZ aN aU cD bI
theorem fZ {o:Id} {a:Nat} (h:o.site=a) {b v:Nat} (mV:(a==b)=false):(o=⟨b,v⟩)=False/\((⟨b,v⟩:Id)=o)=False:=by
 have h1:=yD h (v:=v) mV
 refine⟨h1,?_⟩
 simp only[eq_iff_iff,iff_false]at h1 ⊢
 exact fun h=>h1 h.symm
theorem tQ (cnt:Nat) (qP:1<=cnt) (hn:cnt<=1048576) (bs:List PB) (hb:∀b∈bs,b.a<cnt/\b.b<cnt) (mM:bs.length<=1048576):aq Tryz.prog 320 [.int .i64 cnt,.sl (bs.map ay)] (.sl ((fc cnt (er bs)).map yV)):=by
 intro n0
 refine Gs LV rfl fun hl=>?_
 try simp only[q]
 clear hl
 have jk:(0:Int)<=(cnt:Int):=by omega
 have oA:(cnt:Int)<=((16777216:Nat):Int):=by omega
 obtain⟨G,hG⟩:∃G:Nat->Id,G=fun k=>⟨320005004,n0+3+4*k+2⟩:=⟨_,rfl⟩
 have QA:∀k,(G k).site=320005004:=fun k=>by rw[hG]
 have RY:∀k,(G k).bt=n0+3+4*k+2:=fun k=>by rw[hG]
 have RV:∀i j,i≠j->(G i=G j)=False:=fun i j h=>by
  simp only[eq_iff_iff,iff_false]
  intro he
  have h1:=RY i
  rw[he,RY j]at h1
  omega
 have JC:∀i s v,(320005004==s)=false->(G i=⟨s,v⟩)=False:=fun i s v h=>yD (QA i) h
 have hz:=FY G cnt
 (try((repeat(revert hN;revert N;apply Pn.out));refine wk (tw @jk (tw @oA (tw @Int.le_refl @hz))) ?_;(repeat(refine Pn.mk ?_;intro N hN))))
 refine aM (fun n env st=>∃k:Nat,n=(cnt)-k/\k<=(cnt)/\env 21=.int .i64 (k:Int)/\st.get ⟨320001001,n0+1⟩=some ⟨true,1,lj G cnt k⟩/\(st.next=n0+3+4*k/\∀j:Nat,j<k->st.get (G j)=some ⟨true,2,[[.gW,.int .i64 (j:Int)]]⟩)) (cnt) ⟨0,by omega,by omega,sl @hz,sl @hz,⟨rfl,fun j hj=>by omega⟩⟩ ?_
 rintro n_a env_a st_a ⟨k,rfl,ale,a21,ag0,mE⟩ dq
 have a0:=dq 0 (by kernel_rfl);have a1:=dq 1 (by kernel_rfl);have a5:=dq 5 (by kernel_rfl);have LH:=dq 19 (by kernel_rfl);have a20:=dq 20 (by kernel_rfl)
 simp only[go_sem, ↓reduceIte,Nat.reduceEqDiff,Nat.reduceAdd,Nat.reduceSub,Nat.reduceLeDiff,reduceCtorEq,hz]at a0 a1 a5 LH a20
 clear dq
 obtain⟨mE,lk⟩:=mE
 by_cases hk:(k:Int)<(cnt:Int)
 ·have cE:∀{e:Env} {gg:Rows} {nx:Nat},(e 21=.int .i64 (IntKind.i64.wrap ((k:Int)+1)))->(gg ⟨320001001,n0+1⟩=some ⟨true,1,lj G cnt (k+1)⟩)->(nx=n0+3+4*(k+1)/\∀j:Nat,j<(k+1)->gg (G j)=some ⟨true,2,[[.gW,.int .i64 (j:Int)]]⟩)->∃m0,m0<(cnt)-k/\∃k:Nat,m0=(cnt)-k/\k<=(cnt)/\e 21=.int .i64 (k:Int)/\gg ⟨320001001,n0+1⟩=some ⟨true,1,lj G cnt k⟩/\(nx=n0+3+4*k/\∀j:Nat,j<k->gg (G j)=some ⟨true,2,[[.gW,.int .i64 (j:Int)]]⟩):=fun x1 x2 x3=>⟨_,by omega,k+1,rfl,by omega,(by rw[x1,aB (by omega)]),x2,x3⟩
  have eV:k<cnt:=by omega
  have tl:=lH G cnt k
  have eQ:=IB (G:=G) eV
  have ev:(lj G cnt k)[k]? =some [.gW]:=by simp[lj,eV]
  have Qy:(⟨320005004,st_a.next+1+1⟩:Id)=G k:=by rw[hG,mE]
  have hGf:∀j,j<k->(G j=G k)=False:=fun j hj=>RV j k (by omega)
  have xO:∀j,(G j=(⟨320001001,n0+1⟩:Id))=False:=fun j=>JC j _ _ (by decide)
  have B5:∀j,((⟨320001001,n0+1⟩:Id)=G j)=False:=fun j=>by
   have:=xO j
   simp only[eq_iff_iff,iff_false]at this ⊢
   exact fun h=>this h.symm
  (try((repeat(revert hN;revert N;apply Pn.out));refine wk (tw @a21 (tw @ag0 (tw @a0 (tw @a1 (tw @a5 (tw @LH (tw @a20 (tw @hk (tw @tl (tw @Qy (tw @xO (tw @B5 (tw @eQ @ev))))))))))))) ?_;(repeat(refine Pn.mk ?_;intro N hN))))
  refine cE ?_ ?_ (by
   refine⟨by(try dsimp only)<;>omega,fun j hj=>?_⟩
   by_cases wK:j=k
   ·subst wK;simp only[go_sem, ↓reduceIte,Nat.reduceEqDiff,Nat.reduceAdd,Nat.reduceSub,Nat.reduceLeDiff,reduceCtorEq,Qy,xO,B5]
   ·have hold:=lk j (by omega)
    have gM:=hGf j (by omega)
    simp only[go_sem, ↓reduceIte,Nat.reduceEqDiff,Nat.reduceAdd,Nat.reduceSub,Nat.reduceLeDiff,reduceCtorEq,Qy,xO,B5,gM,hold])
  all_goals simp only[go_sem, ↓reduceIte,Nat.reduceEqDiff,Nat.reduceAdd,Nat.reduceSub,Nat.reduceLeDiff,reduceCtorEq,a21,ag0,a0,a1,a5,LH,a20,Qy,xO,B5,eQ]
 have jy:cnt=k:=by omega
 subst jy
 (try((repeat(revert hN;revert N;apply Pn.out));refine wk (tw @a21 (tw @ag0 (tw @a0 (tw @a1 (tw @a5 (tw @LH (tw @a20 @hk))))))) ?_;(repeat(refine Pn.mk ?_;intro N hN))))
 refine aM (fun n env st=>∃i:Nat,n=(bs.length)-i/\i<=(bs.length)/\env 33=.int .i64 (i:Int)/\st.get ⟨320001001,n0+1⟩=some ⟨true,1,lj G cnt cnt⟩/\(n0+3+4*cnt<=st.next)/\(∃px,mm cnt px (er (bs.take i))/\sw st.get G cnt px)) (bs.length) ⟨0,by omega,by omega,sl (tw @a21 (tw @ag0 (tw @a0 (tw @a1 (tw @a5 (tw @LH @a20)))))),sl (tw @a21 (tw @ag0 (tw @a0 (tw @a1 (tw @a5 (tw @LH @a20)))))),(by(try dsimp only);omega),⟨fun _=>none,mm.start cnt,lk⟩⟩ ?_
 rintro n_b env_b st_b ⟨i,rfl,ble,sC,bg0,bI0,bI1⟩ eP
 have b0:=eP 0 (by kernel_rfl);have b1:=eP 1 (by kernel_rfl);have b5:=eP 5 (by kernel_rfl);have wb:=eP 31 (by kernel_rfl);have rT:=eP 32 (by kernel_rfl)
 simp only[go_sem, ↓reduceIte,Nat.reduceEqDiff,Nat.reduceAdd,Nat.reduceSub,Nat.reduceLeDiff,reduceCtorEq,a21,ag0,a0,a1,a5,LH,a20]at b0 b1 b5 wb rT
 clear eP
 obtain⟨px,I5,Qz⟩:=bI1
 have tl:=lH G cnt cnt
 have OP:∀j v,(G j=(⟨320009002,v⟩:Id))=False:=fun j v=>JC j _ v (by decide)
 have xO:∀j v,(G j=(⟨320001001,v⟩:Id))=False:=fun j v=>JC j _ v (by decide)
 have B5:∀j v,((⟨320001001,v⟩:Id)=G j)=False:=fun j v=>by
  have:=xO j v
  simp only[eq_iff_iff,iff_false]at this ⊢
  exact fun h=>this h.symm
 have hGn:∀j,j<cnt->(G j).bt<st_b.next:=fun j hj=>by rw[RY];omega
 by_cases hi:(i:Int)<(bs.length:Int)
 ·have eY:∀{e:Env} {gg:Rows} {nx:Nat},(e 33=.int .i64 (IntKind.i64.wrap ((i:Int)+1)))->(gg ⟨320001001,n0+1⟩=some ⟨true,1,lj G cnt cnt⟩)->(n0+3+4*cnt<=nx)->(∃px,mm cnt px (er (bs.take (i+1)))/\sw gg G cnt px)->∃m0,m0<(bs.length)-i/\∃i:Nat,m0=(bs.length)-i/\i<=(bs.length)/\e 33=.int .i64 (i:Int)/\gg ⟨320001001,n0+1⟩=some ⟨true,1,lj G cnt cnt⟩/\(n0+3+4*cnt<=nx)/\(∃px,mm cnt px (er (bs.take i))/\sw gg G cnt px):=fun x1 x2 x3 x4=>⟨_,by omega,i+1,rfl,by omega,(by rw[x1,aB (by omega)]),x2,x3,x4⟩
  have e9:i<bs.length:=by omega
  have j3:(bs.map ay)[i]? =some (ay bs[i]):=by simp[e9]
  have E3:=hb _ (List.getElem_mem e9)
  have nC:bs.take (i+1)=bs.take i++[bs[i]]:=List.take_succ_eq_append_getElem e9
  have kZ:er (bs.take (i+1))=eF (er (bs.take i)) bs[i]:=by rw[nC,ub]
  have hL:=sf (bs.take i)
  generalize er (bs.take i)=L at *
  generalize bs[i]=b at *
  have gA:=uP (G:=G) E3.1
  have gB:=uP (G:=G) E3.2
  have gh:(b.a:Int)<(cnt:Int):=by omega
  have fa:(b.b:Int)<(cnt:Int):=by omega
  (try((repeat(revert hN;revert N;apply Pn.out));refine wk (tw @sC (tw @bg0 (tw @b0 (tw @b1 (tw @b5 (tw @wb (tw @rT (tw @hi (tw @j3 (tw @ay.eq_1 (tw @gA (tw @gB (tw @gh (tw @fa @tl)))))))))))))) ?_;(repeat(refine Pn.mk ?_;intro N hN))))
  refine Dg (fun e s=>e 0=.int .i64 cnt/\e 1=.sl (bs.map ay)/\e 5=.own ⟨320001001,n0+1⟩ 0 cnt/\e 31=.sl (bs.map ay)/\e 32=.int .i64 bs.length/\e 33=.int .i64 i/\e 9=.ptr (G (L b.a)) 0 0/\e 10=.ptr (G (L b.b)) 0 0/\(∀j:Id,j.bt<st_b.next->s.get j=st_b.get j)/\st_b.next<=s.next) ?_ ?_
  ·rintro e1 s1 ⟨m0,m1,m5,m31,m32,m33,m9,m10,mf,mn⟩
   refine hN _ _ ?_
   clear hN N
   have mG:sw s1.get G cnt px:=Qz.frame fun k hk=>mf _ (hGn k hk)
   have mt:=(mf ⟨320001001,n0+1⟩ (by(try dsimp only);omega)).trans bg0
   have SG:L b.a<cnt:=Nat.lt_of_le_of_lt (hL.le _) E3.1
   have Po:L b.b<cnt:=Nat.lt_of_le_of_lt (hL.le _) E3.2
   have ra:=mG _ SG
   have rb:=mG _ Po
   rw[kW (I5.root hL SG (hL.idem _))]at ra
   rw[kW (I5.root hL Po (hL.idem _))]at rb
   have put:∀(g':Rows) (lo hi:Nat),hi<cnt->g' (G hi)=some ⟨true,2,[[.ptr (G lo) 0 0,.int .i64 (hi:Int)]]⟩->(∀k,k≠hi->k<cnt->g' (G k)=s1.get (G k))->sw g' G cnt (fun k=>if k=hi then some lo else px k):=fun g' lo hi _ h1 h2 k hk=>by
    by_cases I3:k=hi
    ·subst I3;rw[h1,r8 (j:=lo) (if_pos rfl)]
    ·rw[h2 k I3 hk,mG k hk]
     unfold q9
     simp only[if_neg I3]
   rcases Nat.lt_trichotomy (L b.a) (L b.b)with dJ|heq|dJ
   ·have Mw:(L b.a:Int)<(L b.b:Int):=by omega
    have hj:=I5.join hL b (by omega)
    rw[Nat.max_eq_right (by omega),Nat.min_eq_left (by omega),<-kZ]at hj
    (try((repeat(revert hN;revert N;apply Pn.out));refine wk (tw @m0 (tw @m1 (tw @m5 (tw @m31 (tw @m32 (tw @m33 (tw @m9 (tw @m10 (tw @ra (tw @rb @Mw)))))))))) ?_;(repeat(refine Pn.mk ?_;intro N hN))))
    refine eY ?_ ?_ (by(try dsimp only);omega) (⟨_,hj,put _ _ _ Po (sd @Nat.zero_add) (fun k hk _=>by
     have gM:=RV k _ hk
     simp only[go_sem, ↓reduceIte,Nat.reduceEqDiff,Nat.reduceAdd,Nat.reduceSub,Nat.reduceLeDiff,reduceCtorEq,gM])⟩)
    all_goals simp only[go_sem, ↓reduceIte,Nat.reduceEqDiff,Nat.reduceAdd,Nat.reduceSub,Nat.reduceLeDiff,reduceCtorEq,m0,m1,m5,m31,m32,m33,mt,xO,B5]
   ·have qP:¬(L b.a:Int)<(L b.b:Int):=by omega
    have E9:¬(L b.b:Int)<(L b.a:Int):=by omega
    have Gl:=x7 heq
    rw[Gl]at kZ
    (try((repeat(revert hN;revert N;apply Pn.out));refine wk (tw @m0 (tw @m1 (tw @m5 (tw @m31 (tw @m32 (tw @m33 (tw @m9 (tw @m10 (tw @ra (tw @rb (tw @qP @E9))))))))))) ?_;(repeat(refine Pn.mk ?_;intro N hN))))
    refine eY ?_ ?_ (by(try dsimp only);omega) (⟨_,kZ▸I5,mG.frame fun k hk=>rfl⟩)
    all_goals simp only[go_sem, ↓reduceIte,Nat.reduceEqDiff,Nat.reduceAdd,Nat.reduceSub,Nat.reduceLeDiff,reduceCtorEq,m0,m1,m5,m31,m32,m33,mt]
   ·have Mw:(L b.b:Int)<(L b.a:Int):=by omega
    have qP:¬(L b.a:Int)<(L b.b:Int):=by omega
    have hj:=I5.join hL b (by omega)
    rw[Nat.max_eq_left (by omega),Nat.min_eq_right (by omega),<-kZ]at hj
    (try((repeat(revert hN;revert N;apply Pn.out));refine wk (tw @m0 (tw @m1 (tw @m5 (tw @m31 (tw @m32 (tw @m33 (tw @m9 (tw @m10 (tw @ra (tw @rb (tw @Mw @qP))))))))))) ?_;(repeat(refine Pn.mk ?_;intro N hN))))
    refine eY ?_ ?_ (by(try dsimp only);omega) (⟨_,hj,put _ _ _ SG (sd @Nat.zero_add) (fun k hk _=>by
     have gM:=RV k _ hk
     simp only[go_sem, ↓reduceIte,Nat.reduceEqDiff,Nat.reduceAdd,Nat.reduceSub,Nat.reduceLeDiff,reduceCtorEq,gM])⟩)
    all_goals simp only[go_sem, ↓reduceIte,Nat.reduceEqDiff,Nat.reduceAdd,Nat.reduceSub,Nat.reduceLeDiff,reduceCtorEq,m0,m1,m5,m31,m32,m33,mt,xO,B5]
  ·intro N hN
   refine eU ?_ ?_<;>(try((repeat(revert hN;revert N;apply Pn.out));refine wk (tw @sC (tw @bg0 (tw @b0 (tw @b1 (tw @b5 (tw @wb (tw @rT (tw @hi (tw @j3 (tw @ay.eq_1 (tw @gA (tw @gB (tw @gh (tw @fa @tl)))))))))))))) ?_;(repeat(refine Pn.mk ?_;intro N hN))))<;>(try refine eU ?_ ?_)<;>(try((repeat(revert hN;revert N;apply Pn.out));refine wk (tw @sC (tw @bg0 (tw @b0 (tw @b1 (tw @b5 (tw @wb (tw @rT (tw @hi (tw @j3 (tw @ay.eq_1 (tw @gA (tw @gB (tw @gh (tw @fa @tl)))))))))))))) ?_;(repeat(refine Pn.mk ?_;intro N hN))))<;>(try refine eU ?_ ?_)<;>(try((repeat(revert hN;revert N;apply Pn.out));refine wk (tw @sC (tw @bg0 (tw @b0 (tw @b1 (tw @b5 (tw @wb (tw @rT (tw @hi (tw @j3 (tw @ay.eq_1 (tw @gA (tw @gB (tw @gh (tw @fa @tl)))))))))))))) ?_;(repeat(refine Pn.mk ?_;intro N hN))))
   all_goals
    refine .inr (bL _ _ _ _ _ (fun r σ1 hq=>?_) (xF G cnt px L I5 b.a E3.1 _ (Qz.frame fun k hk=>sd @OP)))
    obtain⟨g1,x1⟩:=σ1
    obtain⟨rfl,Cb,JJ⟩:=hq
    (try dsimp only at Cb JJ)
    subst Cb
    refine hN _ _ ?_
    clear hN N
    (try((repeat(revert hN;revert N;apply Pn.out));refine wk (tw @sC (tw @bg0 (tw @b0 (tw @b1 (tw @b5 (tw @wb (tw @rT (tw @hi (tw @j3 (tw @ay.eq_1 (tw @gA (tw @gB (tw @gh (tw @fa @tl)))))))))))))) ?_;(repeat(refine Pn.mk ?_;intro N hN))))
    refine .inr (bL _ _ _ _ _ (fun r σ1 hq=>?_) (xF G cnt px L I5 b.b E3.2 _ (Qz.frame fun k hk=>sd @OP)))
    obtain⟨g1,x2⟩:=σ1
    obtain⟨rfl,Cb,lW⟩:=hq
    (try dsimp only at Cb lW)
    subst Cb
    refine hN _ _ ?_
    clear hN N
    (try((repeat(revert hN;revert N;apply Pn.out));refine wk (tw @sC (tw @bg0 (tw @b0 (tw @b1 (tw @b5 (tw @wb (tw @rT (tw @hi (tw @j3 (tw @ay.eq_1 (tw @gA (tw @gB (tw @gh (tw @fa @tl)))))))))))))) ?_;(repeat(refine Pn.mk ?_;intro N hN))))
    exact⟨sd (tw @sC (tw @bg0 (tw @b0 (tw @b1 (tw @b5 (tw @wb @rT)))))),sd (tw @sC (tw @bg0 (tw @b0 (tw @b1 (tw @b5 (tw @wb @rT)))))),sd (tw @sC (tw @bg0 (tw @b0 (tw @b1 (tw @b5 (tw @wb @rT)))))),sd (tw @sC (tw @bg0 (tw @b0 (tw @b1 (tw @b5 (tw @wb @rT)))))),sd (tw @sC (tw @bg0 (tw @b0 (tw @b1 (tw @b5 (tw @wb @rT)))))),sd (tw @sC (tw @bg0 (tw @b0 (tw @b1 (tw @b5 (tw @wb @rT)))))),sd (tw @sC (tw @bg0 (tw @b0 (tw @b1 (tw @b5 (tw @wb @rT)))))),sd (tw @sC (tw @bg0 (tw @b0 (tw @b1 (tw @b5 (tw @wb @rT)))))),fun j hj=>by
     have hv:=ef hj
     simp only[go_sem, ↓reduceIte,Nat.reduceEqDiff,Nat.reduceAdd,Nat.reduceSub,Nat.reduceLeDiff,reduceCtorEq,hv],by(try dsimp only);omega⟩
 have mC:i=bs.length:=by omega
 subst mC
 rw[List.take_length]at I5
 have hL:=sf bs
 generalize er bs=L at *
 (try((repeat(revert hN;revert N;apply Pn.out));refine wk (tw @sC (tw @bg0 (tw @b0 (tw @b1 (tw @b5 (tw @wb (tw @rT (tw @hi @tl)))))))) ?_;(repeat(refine Pn.mk ?_;intro N hN))))
 have l0:kj 0 L=[]:=rfl
 have oS:(none:Option Nat).isSome=false:=rfl
 have oT:∀a:Nat,(some a).isSome=true:=fun _=>rfl
 refine aM (fun n env st=>∃x:Nat,n=(cnt)-x/\x<=(cnt)/\env 81=.int .i64 (x:Int)/\st.get ⟨320001001,n0+1⟩=some ⟨true,1,lj G cnt cnt⟩/\st.get ⟨320017000,st_b.next+1+1⟩=some ⟨true,mI.lp,kj x L⟩/\(st_b.next+3<=st.next/\sw st.get G cnt px)/\((x=0/\env 11=.cq)∨∃o:Id,env 11=.own o 0 (leads x L).length/\IX st.get o (jm x L) st.next)) (cnt) ⟨0,by omega,by omega,sl (tw @sC (tw @bg0 (tw @b0 (tw @b1 (tw @b5 (tw @wb (tw @rT @l0))))))),sl (tw @sC (tw @bg0 (tw @b0 (tw @b1 (tw @b5 (tw @wb (tw @rT @l0))))))),sl (tw @sC (tw @bg0 (tw @b0 (tw @b1 (tw @b5 (tw @wb (tw @rT @l0))))))),⟨by(try dsimp only);omega,Qz.frame fun k hk=>by(have gM:=JC k 320017000 (st_b.next+1+1) (by decide));simp only[go_sem, ↓reduceIte,Nat.reduceEqDiff,Nat.reduceAdd,Nat.reduceSub,Nat.reduceLeDiff,reduceCtorEq,gM]⟩,.inl ⟨rfl,sd @Nat.zero_add⟩⟩ ?_
 rintro n_c env_c st_c ⟨x,rfl,cle,c81,cg0,cg1,cI0,cI1⟩ il
 have oZ:=il 12 (by kernel_rfl);have Jm:=il 79 (by kernel_rfl);have Jn:=il 80 (by kernel_rfl)
 simp only[go_sem, ↓reduceIte,Nat.reduceEqDiff,Nat.reduceAdd,Nat.reduceSub,Nat.reduceLeDiff,reduceCtorEq,sC,bg0,b0,b1,b5,wb,rT,l0]at oZ Jm Jn
 clear il
 obtain⟨nV,OA⟩:=cI0
 have Mh:∀j v,(G j=(⟨320017000,v⟩:Id))=False:=fun j v=>JC j _ v (by decide)
 have Md:∀j v,(G j=(⟨320025002,v⟩:Id))=False:=fun j v=>JC j _ v (by decide)
 have Mf:∀j v,(G j=(⟨320025001,v⟩:Id))=False:=fun j v=>JC j _ v (by decide)
 have Mg:∀j v,(G j=(⟨320026007,v⟩:Id))=False:=fun j v=>JC j _ v (by decide)
 have Me:∀j v,(G j=(⟨320026008,v⟩:Id))=False:=fun j v=>JC j _ v (by decide)
 by_cases hx:(x:Int)<(cnt:Int)
 ·have fY:∀{e:Env} {gg:Rows} {nx:Nat},(e 81=.int .i64 (IntKind.i64.wrap ((x:Int)+1)))->(gg ⟨320001001,n0+1⟩=some ⟨true,1,lj G cnt cnt⟩)->(gg ⟨320017000,st_b.next+1+1⟩=some ⟨true,mI.lp,kj (x+1) L⟩)->(st_b.next+3<=nx/\sw gg G cnt px)->(((x+1)=0/\e 11=.cq)∨∃o:Id,e 11=.own o 0 (leads (x+1) L).length/\IX gg o (jm (x+1) L) nx)->∃m0,m0<(cnt)-x/\∃x:Nat,m0=(cnt)-x/\x<=(cnt)/\e 81=.int .i64 (x:Int)/\gg ⟨320001001,n0+1⟩=some ⟨true,1,lj G cnt cnt⟩/\gg ⟨320017000,st_b.next+1+1⟩=some ⟨true,mI.lp,kj x L⟩/\(st_b.next+3<=nx/\sw gg G cnt px)/\((x=0/\e 11=.cq)∨∃o:Id,e 11=.own o 0 (leads x L).length/\IX gg o (jm x L) nx):=fun x1 x2 x3 x4 x5=>⟨_,by omega,x+1,rfl,by omega,(by rw[x1,aB (by omega)]),x2,x3,x4,x5⟩
  have Oe:x<cnt:=by omega
  have gX:=uP (G:=G) Oe
  have hlx:L x<cnt:=Nat.lt_of_le_of_lt (hL.le _) Oe
  have ra:=OA _ hlx
  rw[kW (I5.root hL hlx (hL.idem _))]at ra
  have gm:=jq x L
  (try((repeat(revert hN;revert N;apply Pn.out));refine wk (tw @c81 (tw @cg0 (tw @cg1 (tw @oZ (tw @Jm (tw @Jn (tw @hx (tw @gX @tl)))))))) ?_;(repeat(refine Pn.mk ?_;intro N hN))))
  refine .inr (bL _ _ _ _ _ (fun r σ1 hq=>?_) (xF G cnt px L I5 x Oe _ (OA.frame fun k hk=>sd @Nat.zero_add)))
  obtain⟨g1,x1⟩:=σ1
  obtain⟨rfl,Cb,JJ⟩:=hq
  (try dsimp only at Cb JJ)
  subst Cb
  refine hN _ _ ?_
  clear hN N
  by_cases hr:L x=x
  ·rw[hr]at ra ⊢
   have lL:=Fv hr
   have QW:(leads (x+1) L).length=(leads x L).length+1:=by rw[gw,if_pos hr];simp
   have N9:=CC hr
   have QR:=BY hL hr
   rcases cI1 with⟨rfl,mK⟩|⟨o,mK,cS⟩
   ·have SY:kj 1 L=[[.int .i64 ((0:Nat):Int),.int .i64 ((0:Nat):Int)]]:=N9
    (try((repeat(revert hN;revert N;apply Pn.out));refine wk (tw @c81 (tw @cg0 (tw @cg1 (tw @oZ (tw @Jm (tw @Jn (tw @mK (tw @ra (tw @lL (tw @l0 (tw @oS (tw @oT (tw @Bool.not_false @Bool.not_true))))))))))))) ?_;(repeat(refine Pn.mk ?_;intro N hN))))
    refine fY ?_ ?_ ?_ (by(try dsimp only);exact⟨by omega,OA.frame fun k hk=>sd (tw @Mh (tw @Md (tw @Me (tw @Mf @Mg))))⟩) (.inr ⟨⟨320025002,x1+1+1+1+1⟩,by simp only[go_sem, ↓reduceIte,Nat.reduceEqDiff,Nat.reduceAdd,Nat.reduceSub,Nat.reduceLeDiff,reduceCtorEq,QW];rfl,by rw[QR];exact Jz (v':=x1+1+1+1+1+1) (sd @Nat.zero_add) (sd @eN.eq_1) (by(try dsimp only);omega) (by(try dsimp only);omega)⟩)
    all_goals simp only[go_sem, ↓reduceIte,Nat.reduceEqDiff,Nat.reduceAdd,Nat.reduceSub,Nat.reduceLeDiff,reduceCtorEq,c81,cg0,cg1,oZ,Jm,Jn,SY]
   ·obtain⟨rows,sH,sZ,ki⟩:=cS.new x
    rw[pe]at sZ
    have xU:o.site=320025002:=by obtain⟨_,_,_,_,_,_,h,_⟩:=cS;exact h
    have sY:o.bt<x1:=by obtain⟨_,_,_,_,_,_,_,h⟩:=cS;omega
    have pq:=ef sY
    have Pt:=fZ (o:=o) xU (b:=320017000) (v:=st_b.next+1+1) (by decide)
    have N4:=fZ (o:=o) xU (b:=320001001) (v:=n0+1) (by decide)
    have Mi:∀k,(G k=o)=False:=fun k=>by simp only[eq_iff_iff,iff_false];intro h;have h1:=QA k;rw[h,xU]at h1;cases h1
    have qN:(rows++[[AV.cq]])[(leads x L).length]? =some [.cq]:=by rw[<-sZ];simp
    have u9:∀a:List AV,(rows++[[AV.cq]]).set (leads x L).length a=rows++[a]:=fun a=>by rw[<-sZ];simp
    have e1:(leads x L).length+1<=16777216:=by omega
    have e2:((leads x L).length:Int)<(((leads x L).length+1:Nat):Int):=by omega
    (try((repeat(revert hN;revert N;apply Pn.out));refine wk (tw @c81 (tw @cg0 (tw @cg1 (tw @oZ (tw @Jm (tw @Jn (tw @mK (tw @ra (tw @lL (tw @sH (tw @sZ (tw @pq (tw @Pt (tw @qN (tw @u9 (tw @e1 (tw @e2 (tw @oS (tw @oT (tw @Bool.not_false @Bool.not_true)))))))))))))))))))) ?_;(repeat(refine Pn.mk ?_;intro N hN))))
    refine fY ?_ ?_ ?_ (by(try dsimp only);exact⟨by omega,OA.frame fun k hk=>sd (tw @Mh (tw @Md (tw @Me (tw @Mf (tw @Mg @Mi)))))⟩) (.inr ⟨⟨320025002,x1+1+1+1+1⟩,sd @QW,by rw[QR];exact ki _ _ (x1+1+1+1+1+1) _ (by omega) (by(try dsimp only);omega) (by(try dsimp only);omega) (sd @u9) (sd @eN.eq_1) (fun j hj hv=>by
     have q1:=ef (i:=j) (n:=x1) (by omega)
     have q2:=fZ hj (b:=320017000) (v:=st_b.next+1+1) (by decide)
     have q3:(j=o)=False:=by simp only[eq_iff_iff,iff_false];intro h;rw[h,xU]at hj;cases hj
     simp only[go_sem, ↓reduceIte,Nat.reduceEqDiff,Nat.reduceAdd,Nat.reduceSub,Nat.reduceLeDiff,reduceCtorEq,q1,q2,q3])⟩)
    all_goals simp only[go_sem, ↓reduceIte,Nat.reduceEqDiff,Nat.reduceAdd,Nat.reduceSub,Nat.reduceLeDiff,reduceCtorEq,c81,cg0,cg1,oZ,Jm,Jn,N9,pq,Pt,N4]
  ·obtain⟨lL,HB,dJ⟩:=wT hL hr
   obtain⟨Pe,QR⟩:=BZ hL hr
   have QW:(leads (x+1) L).length=(leads x L).length:=by rw[gw,if_neg hr];simp
   have Gl:=CB hr
   rcases cI1 with⟨rfl,mK⟩|⟨o,mK,cS⟩
   ·exact absurd (Nat.le_zero.1 (hL.le 0)) hr
   ·obtain⟨rows,id,sH,sZ,hrk,hid,Hr,hidv,Sg⟩:=cS.add Pe x
    rw[pe]at sZ
    have xU:o.site=320025002:=by obtain⟨_,_,_,_,_,_,h,_⟩:=cS;exact h
    have sY:o.bt<x1:=by obtain⟨_,_,_,_,_,_,_,h⟩:=cS;omega
    have pq:=ef sY
    have tW:=ef (i:=id) (n:=x1) (by omega)
    have j3:(bP L x:Int)<((leads x L).length:Int):=by omega
    have Mx:=As x L (L x)
    have hma:((members x L (L x)).map eN).length=(members x L (L x)).length:=by simp
    have e1:(members x L (L x)).length+1<=16777216:=by omega
    have hoi:(o=id)=False:=by simp only[eq_iff_iff,iff_false];rintro rfl;rw[Hr]at xU;cases xU
    have hio:(id=o)=False:=by simp only[eq_iff_iff,iff_false];rintro rfl;rw[Hr]at xU;cases xU
    have Pt:=fZ (o:=o) xU (b:=320017000) (v:=st_b.next+1+1) (by decide)
    have N4:=fZ (o:=o) xU (b:=320001001) (v:=n0+1) (by decide)
    have hiM:=fZ (o:=id) Hr (b:=320017000) (v:=st_b.next+1+1) (by decide)
    have hiT:=fZ (o:=id) Hr (b:=320001001) (v:=n0+1) (by decide)
    have Mi:∀k,(G k=o)=False:=fun k=>by simp only[eq_iff_iff,iff_false];intro h;have h1:=QA k;rw[h,xU]at h1;cases h1
    have RW:∀k,(G k=id)=False:=fun k=>by simp only[eq_iff_iff,iff_false];intro h;have h1:=QA k;rw[h,Hr]at h1;cases h1
    (try((repeat(revert hN;revert N;apply Pn.out));refine wk (tw @c81 (tw @cg0 (tw @cg1 (tw @oZ (tw @Jm (tw @Jn (tw @mK (tw @ra (tw @lL (tw @HB (tw @sH (tw @sZ (tw @hrk (tw @hid (tw @pq (tw @tW (tw @j3 (tw @hma (tw @e1 (tw @hoi (tw @hio (tw @Pt (tw @N4 (tw @hiM (tw @hiT (tw @oS (tw @oT (tw @Bool.not_false @Bool.not_true)))))))))))))))))))))))))))) ?_;(repeat(refine Pn.mk ?_;intro N hN))))
    refine fY ?_ ?_ ?_ (by(try dsimp only);exact⟨by omega,OA.frame fun k hk=>sd (tw @Mh (tw @Md (tw @Me (tw @Mf (tw @Mg (tw @Mi @RW))))))⟩) (.inr ⟨o,sd (tw @QW @mK),by rw[QR];exact Sg _ (x1+1+1) _ (by omega) (by(try dsimp only);omega) (sd @Nat.zero_add) (sd (tw @pq (tw @tW (tw @hoi @hio)))) (fun j hj hv lK=>by
     have q1:=ef (i:=j) (n:=x1) (by omega)
     have q2:=fZ hj (b:=320017000) (v:=st_b.next+1+1) (by decide)
     have q3:(j=o)=False:=by simp only[eq_iff_iff,iff_false];intro h;rw[h,xU]at hj;cases hj
     simp only[go_sem, ↓reduceIte,Nat.reduceEqDiff,Nat.reduceAdd,Nat.reduceSub,Nat.reduceLeDiff,reduceCtorEq,q1,q2,q3,lK])⟩)
    all_goals simp only[go_sem, ↓reduceIte,Nat.reduceEqDiff,Nat.reduceAdd,Nat.reduceSub,Nat.reduceLeDiff,reduceCtorEq,c81,cg0,cg1,oZ,Jm,Jn,Gl,pq,tW,Pt,N4,hiM,hiT]
 have Ta:x=cnt:=by omega
 rcases cI1 with⟨h0,_⟩|⟨o,mK,rows,ids,sH,hR,_,_,_,_⟩
 ·omega
 have sZ:=hR.len
 rw[pe]at sZ
 (try((repeat(revert hN;revert N;apply Pn.out));refine wk (tw @c81 (tw @cg0 (tw @cg1 (tw @oZ (tw @Jm (tw @Jn (tw @hx (tw @mK @sH)))))))) ?_;(repeat(refine Pn.mk ?_;intro N hN))))
 refine uH (.inl rfl) (by simp only[go_sem, ↓reduceIte,Nat.reduceEqDiff,Nat.reduceAdd,Nat.reduceSub,Nat.reduceLeDiff,reduceCtorEq];rfl) ?_
 rw[sS sH (by omega) (rows':=(fc cnt L).map yV) (by
  rw[List.drop_zero,List.take_of_length_le (by omega)]
  rw[Ta]at hR;exact HQ 3 hR)]
theorem IQ (b:PB) (t:Int):aq Tryz.prog 323 [.agg (ay b),.dd [.int .i64 t]] (.bool (decide (b.s<t))):=by
 refine aq.body eE rfl fun hl n0=>?_
 clear hl
 (try((repeat(revert hN;revert N;apply Pn.out));refine wk @ay.eq_1 ?_;(repeat(refine Pn.mk ?_;intro N hN))))
 exact aL (b:=decide (b.s<t)) (.inl rfl) (sd @Nat.zero_add) rfl
theorem wQ (bs:List PB) (t:Int) (hl:bs.length<=1048576):aq Tryz.prog 335 [.sl (bs.map ay),.fn 323 [.dd [.int .i64 t]]] (.int .i64 (jP (fun b:PB=>decide (b.s<t)) bs)):=
 sb G2 (show mU Tryz.prog 335=some (rq 335 3 true) by kernel_rfl) bs hl 323 _ _ (fun x _=>IQ x t) fun g=>by simp only[aj,ar,aN,Option.map_some]
theorem G0 (bs:List PB) (hp:0<bs.length) (hl:bs.length<=1048576) (σ:ax):
  Call Tryz.prog 322 [.sl (bs.map ay)] σ fun r σ'=>∃o:Id,r=.own o 0 bs.length/\σ'.get o=some ⟨true,3,bs.map ay⟩/\σ.next<=o.bt/\o.bt<σ'.next/\∀i:Id,i.bt<σ.next->σ'.get i=σ.get i:=by
 refine iq eE rfl fun hl=>?_
 clear hl
 have hz:=all_map (l:=bs) Lx
 obtain⟨b,r,rfl⟩:∃b r,bs=b::r:=by
  cases bs with
  |nil=>simp at hp
  |cons b r=>exact⟨b,r,rfl⟩
 have gm:(List.map ay (b::r)).length=(b::r).length:=by simp
 have e1:r.length<=16777215:=by simp at hl;omega
 rw[List.map_cons]at hz gm ⊢
 (try((repeat(revert hN;revert N;apply Pn.out));refine wk (tw @hz (tw @gm @e1)) ?_;(repeat(refine Pn.mk ?_;intro N hN))))
 refine gQ (.inl rfl) (vs:=[.own ⟨322003002,σ.next+1+1⟩ 0 (b::r).length]) (by simp only[e6,gS,go_sem, ↓reduceIte,Nat.reduceEqDiff,Nat.reduceAdd,Nat.reduceSub,Nat.reduceLeDiff,reduceCtorEq,List.length_cons]) ⟨⟨322003002,σ.next+1+1⟩,rfl,sd @Nat.zero_add,by(try dsimp only);omega,by(try dsimp only);omega,fun i hi=>?_⟩
 have hv:=ef hi
 simp only[go_sem, ↓reduceIte,Nat.reduceEqDiff,Nat.reduceAdd,Nat.reduceSub,Nat.reduceLeDiff,reduceCtorEq,hv]
theorem nM {t:Int} {bs:List PB} {j:Nat} (hj:j<bs.length):aI t (bs.take (j+1))=aI t (bs.take j)++if decide (bs[j].s<t)=true then[]else[bs[j]]:=by
 rw[sq t bs j hj]
 congr 1
 by_cases h:bs[j].s<t
 ·rw[if_neg (by omega),if_pos (decide_eq_true h)]
 ·rw[if_pos (by omega),if_neg (by simp only[decide_eq_true_eq];exact h)]
theorem so {t:Int} {bs:List PB} (h:∀b∈bs,¬b.s<t):aI t bs=bs:=by
 unfold aI
 rw[List.filter_eq_self]
 intro b hb
 have:=h b hb
 exact decide_eq_true (by omega)
structure su (t:Int) (bs:List PB) (j:Nat) (R:List PB):Prop where
 len:R.length=bs.length
 pre:R.take (aI t (bs.take j)).length=aI t (bs.take j)
 post:∀x,j<=x->R[x]? =bs[x]?
 lt:(aI t (bs.take j)).length<j
theorem su.start {t:Int} {bs:List PB} {i:Nat} (hi:i<bs.length) (hw:bs[i].s<t) (hp:∀x (h:x<i),¬bs[x].s<t):su t bs (i+1) bs/\(aI t (bs.take (i+1))).length=i:=by
 have h1:aI t (bs.take i)=bs.take i:=so fun b hb=>by
  obtain⟨x,hx,rfl⟩:=List.getElem_of_mem hb
  rw[List.length_take]at hx
  rw[List.getElem_take]
  exact hp x (by omega)
 have h2:aI t (bs.take (i+1))=bs.take i:=by rw[nM hi,if_pos (decide_eq_true hw),List.append_nil,h1]
 have h3:(bs.take i).length=i:=by rw[List.length_take];omega
 exact⟨⟨rfl,by rw[h2,h3],fun _ _=>rfl,by rw[h2,h3];omega⟩,by rw[h2,h3]⟩
theorem su.Tm {t:Int} {bs R:List PB} {j:Nat} (h:su t bs j R) (hj:j<bs.length) (hw:bs[j].s<t):su t bs (j+1) R/\(aI t (bs.take (j+1))).length=(aI t (bs.take j)).length:=by
 have h2:aI t (bs.take (j+1))=aI t (bs.take j):=by rw[nM hj,if_pos (decide_eq_true hw),List.append_nil]
 exact⟨⟨h.len,by rw[h2];exact h.pre,fun x hx=>h.post x (by omega),by rw[h2];have:=h.lt;omega⟩,by rw[h2]⟩
theorem su.tZ {t:Int} {bs R:List PB} {j:Nat} (h:su t bs j R) (hj:j<bs.length) (hw:¬bs[j].s<t):su t bs (j+1) (R.set (aI t (bs.take j)).length bs[j])/\(aI t (bs.take (j+1))).length=(aI t (bs.take j)).length+1:=by
 have h2:aI t (bs.take (j+1))=aI t (bs.take j)++[bs[j]]:=by rw[nM hj,if_neg (by simp only[decide_eq_true_eq];exact hw)]
 have dJ:=h.lt
 have hlen:=h.len
 have vH:=h.pre
 generalize hc:(aI t (bs.take j)).length=c at *
 refine⟨⟨by rw[List.length_set];exact hlen,?_,fun x hx=>?_,by rw[h2,List.length_append,hc];simp;omega⟩,by rw[h2,List.length_append,hc];rfl⟩
 ·rw[h2,List.length_append,hc,List.length_singleton,List.take_succ_eq_append_getElem (by rw[List.length_set];omega),List.getElem_set_self,List.take_set_of_le (Nat.le_refl _),vH]
 ·rw[List.getElem?_set_ne (by omega)];exact h.post x (by omega)
theorem su.at_ {t:Int} {bs R:List PB} {j:Nat} (h:su t bs j R) (hj:j<bs.length):(R.map ay)[j]? =some (ay bs[j]):=by
 rw[List.getElem?_map,h.post j (Nat.le_refl j),List.getElem?_eq_getElem hj];rfl
theorem BN {p:PB->Bool} {bs:List PB} (h:¬0<=jP p bs):∀b∈bs,p b=false:=by
 intro b hb
 unfold jP at h
 split at h
 ·omega
 ·rename_i h1
  rw[List.findIdx_lt_length]at h1
  cases hp:p b
  ·rfl
  ·exact absurd ⟨b,hb,hp⟩ h1
theorem BP {p:PB->Bool} {bs:List PB} (h:0<=jP p bs):∃i,∃hi:i<bs.length,jP p bs=(i:Int)/\p bs[i]=true/\∀x (hx:x<i),p (bs[x]'(by omega))=false:=by
 unfold jP at h ⊢
 split
 ·rename_i h1
  exact⟨bs.findIdx p,h1,rfl,List.findIdx_getElem,fun x hx=>by simpa using List.not_of_lt_findIdx hx⟩
 ·rename_i h1;rw[if_neg h1]at h;omega
theorem EM (bs:List PB) (t:Int) (hl:bs.length<=1048576) (o T:Id) (σ:ax) (ho:σ.get o=some ⟨true,3,bs.map ay⟩) (hT:σ.get T=some ⟨true,1,[[.int .i64 t]]⟩) (sY:o.bt<σ.next) (Se:T.bt<σ.next) (N4:o≠T):
  Call Tryz.prog 321 [.own o 0 bs.length,.fn 323 [.ptr T 0 0]] σ fun r σ'=>∃rows,r=.own o 0 (aI t bs).length/\σ'.get o=some ⟨true,3,rows⟩/\rows.take (aI t bs).length=(aI t bs).map ay/\(aI t bs).length<=rows.length/\σ.next<=σ'.next/\∀i:Id,i.bt<σ.next->i≠o->σ'.get i=σ.get i:=by
 refine iq eE rfl fun kM=>?_
 clear kM
 have Bc:=wQ bs t hl
 have hzT:∀(g:Rows),g T=some ⟨true,1,[[.int .i64 t]]⟩->V.fz (eo g) 5 (.ptr T 0 0)=some (.dd [.int .i64 t]):=fun g hg=>xI (sz:=1) (rows:=[[.int .i64 t]]) (by simp[eo,hg]) rfl (by simp only[List.drop_zero,aj,ar,aK,Option.map_some])
 have wP:∀(g:Rows),g T=some ⟨true,1,[[.int .i64 t]]⟩->g o=some ⟨true,3,bs.map ay⟩->dj (eo g) 6 [.own o 0 bs.length,.fn 323 [.ptr T 0 0]]=some [.sl (bs.map ay),.fn 323 [.dd [.int .i64 t]]]:=fun g h1 h2=>by
  have q1:=gO (g:=eo g) (n:=5) (e:=ay) (sz:=3) (len:=bs.length) (l:=bs) (id:=o) (by simp[eo,h2]) rfl fun b=>xG _ 4 b
  have q2:=hzT g h1
  simp only[aj,ar,q1,cD,List.all_cons,List.all_nil,AV.cell,Bool.and_true,if_true,q2,Option.map_some]
 have kQ:∀(g:Rows),g T=some ⟨true,1,[[.int .i64 t]]⟩->∀b:PB,dj (eo g) 6 [.agg (ay b),.ptr T 0 0]=some [.agg (ay b),.dd [.int .i64 t]]:=fun g h1 b=>by
  have q3:V.fz (eo g) 6 (.ptr T 0 0)=some (.dd [.int .i64 t]):=xI (sz:=1) (rows:=[[.int .i64 t]]) (by simp[eo,h1]) rfl (by simp only[List.drop_zero,aj,ar,aK,Option.map_some])
  simp only[aj,ar,aZ,xG,q3,Option.map_some]
 (try((repeat(revert hN;revert N;apply Pn.out));refine wk @Nat.zero_add ?_;(repeat(refine Pn.mk ?_;intro N hN))))
 refine .inl ⟨_,aq.x Bc (wP _ hT ho),?_⟩
 refine hN _ _ ?_
 clear hN N
 by_cases h0:0<=jP (fun b:PB=>decide (b.s<t)) bs
 ·obtain⟨i,hi,E8,hpi,MG⟩:=BP h0
  rw[E8]at *
  have JM:decide ((i:Int)= -1)=false:=decide_eq_false (by omega)
  have MP:IntKind.i64.wrap ((i:Int)+1)=((i+1:Nat):Int):=aB (by omega)
  obtain⟨dL,u9⟩:=su.start (t:=t) hi (by simpa using hpi) (fun x hx=>by simpa using MG x hx)
  (try((repeat(revert hN;revert N;apply Pn.out));refine wk (tw @JM @MP) ?_;(repeat(refine Pn.mk ?_;intro N hN))))
  refine aM (fun m env st=>∃(j:Nat) (R:List PB),m=bs.length-j/\env 6=.int .i64 (j:Int)/\env 5=.int .i64 ((aI t (bs.take j)).length:Int)/\st.get o=some ⟨true,3,R.map ay⟩/\su t bs j R/\j<=bs.length/\σ.next<=st.next/\∀x:Id,x.bt<σ.next->(x=o)=False->st.get x=σ.get x) (bs.length-(i+1)) ⟨i+1,bs,rfl,sd @MP,sd @u9,sd @ho,dL,by omega,by(try dsimp only);omega,fun x _ _=>sd @Nat.zero_add⟩ ?_
  rintro m env_b st_b ⟨j,R,rfl,b6,b5,bg,hD,gq,hle,ly⟩ eP
  have b0:=eP 0 (by kernel_rfl)
  have b1:=eP 1 (by kernel_rfl)
  simp only[go_sem, ↓reduceIte,Nat.reduceEqDiff,Nat.reduceAdd,Nat.reduceSub,Nat.reduceLeDiff,reduceCtorEq]at b0 b1
  clear eP
  have bT:=(ly T Se (by simp only[eq_iff_iff,iff_false];exact fun h=>N4 h.symm)).trans hT
  have j9:=ef (i:=o) (n:=st_b.next) (by omega)
  have S7:=ef (i:=T) (n:=st_b.next) (by omega)
  have hRl:=hD.len
  have Sb:(R.map ay).length=bs.length:=by rw[List.length_map,hRl]
  have dJ:=hD.lt
  by_cases hj:(j:Int)<(bs.length:Int)
  ·have ll:j<bs.length:=by omega
   have xR:=hD.at_ ll
   have MR:=IQ bs[j] t
   have Rb:IntKind.i64.wrap ((j:Int)+1)=((j+1:Nat):Int):=aB (by omega)
   have hD1:=hD.Tm ll
   have hD2:=hD.tZ ll
   generalize bs[j]=b at *
   (try((repeat(revert hN;revert N;apply Pn.out));refine wk (tw @b0 (tw @b1 (tw @b5 (tw @b6 (tw @bg (tw @hj (tw @xR (tw @ay.eq_1 (tw @j9 (tw @S7 @Sb)))))))))) ?_;(repeat(refine Pn.mk ?_;intro N hN))))
   refine .inl ⟨_,aq.x MR (kQ _ (sd (tw @S7 @bT)) b),?_⟩
   refine hN _ _ ?_
   clear hN N
   by_cases hw:b.s<t
   ·obtain⟨RT,RS⟩:=hD1 hw
    have hd:decide (b.s<t)=true:=decide_eq_true hw
    (try((repeat(revert hN;revert N;apply Pn.out));refine wk (tw @b0 (tw @b1 (tw @b5 (tw @b6 (tw @hd @Rb))))) ?_;(repeat(refine Pn.mk ?_;intro N hN))))
    refine⟨_,?_,j+1,R,rfl,sd @Rb,sd (tw @b5 @RS),sd (tw @bg @j9),RT,by omega,by(try dsimp only);omega,fun x hx y5=>?_⟩
    ·omega
    ·have Ob:=ef (i:=x) (n:=st_b.next) (by omega)
     have:=ly x hx y5
     simp only[go_sem, ↓reduceIte,Nat.reduceEqDiff,Nat.reduceAdd,Nat.reduceSub,Nat.reduceLeDiff,reduceCtorEq,Ob,this]
   ·obtain⟨RT,RS⟩:=hD2 hw
    have hd:decide (b.s<t)=false:=decide_eq_false hw
    have Sk:((aI t (bs.take j)).length:Int)<(bs.length:Int):=by omega
    have hwc:IntKind.i64.wrap (((aI t (bs.take j)).length:Int)+1)=(((aI t (bs.take j)).length+1:Nat):Int):=aB (by omega)
    have eQ:(R.map ay).set (aI t (bs.take j)).length [.int .i64 (b.a:Int),.int .i64 (b.b:Int),.int .i64 b.s]=(R.set (aI t (bs.take j)).length b).map ay:=by rw[List.map_set];rfl
    have K7:∃y,(R.map ay)[(aI t (bs.take j)).length]? =some (ay y):=⟨R[(aI t (bs.take j)).length]'(by omega),by rw[List.getElem?_map,List.getElem?_eq_getElem (by omega)];rfl⟩
    obtain⟨y,K7⟩:=K7
    rw[ay]at K7
    (try((repeat(revert hN;revert N;apply Pn.out));refine wk (tw @b0 (tw @b1 (tw @b5 (tw @b6 (tw @bg (tw @hd (tw @Rb (tw @hwc (tw @Sk (tw @eQ (tw @K7 (tw @j9 (tw @S7 @Sb))))))))))))) ?_;(repeat(refine Pn.mk ?_;intro N hN))))
    refine⟨_,?_,j+1,_,rfl,sd @Rb,sd (tw @hwc @RS),sd @eQ,RT,by omega,by(try dsimp only);omega,fun x hx y5=>?_⟩
    ·omega
    ·have Ob:=ef (i:=x) (n:=st_b.next) (by omega)
     have:=ly x hx y5
     simp only[go_sem, ↓reduceIte,Nat.reduceEqDiff,Nat.reduceAdd,Nat.reduceSub,Nat.reduceLeDiff,reduceCtorEq,Ob,this,y5]
  ·have gq:j=bs.length:=by omega
   subst gq
   have vH:=hD.pre
   rw[List.take_length]at b5 dJ vH
   have Sk:((aI t bs).length:Int)<=(bs.length:Int):=by omega
   have QK:(aI t bs).length<=bs.length:=by omega
   have pk:(aI t bs).length+(bs.length-(aI t bs).length)=bs.length:=by omega
   have u9:=mb t bs
   (try((repeat(revert hN;revert N;apply Pn.out));refine wk (tw @b0 (tw @b1 (tw @b5 (tw @b6 (tw @bg (tw @hj (tw @Sb (tw @Sk (tw @QK (tw @pk (tw @Nat.le_refl (tw @Nat.sub_zero (tw @Int.le_refl @j9))))))))))))) ?_;(repeat(refine Pn.mk ?_;intro N hN))))
   refine gQ (.inl rfl) (vs:=[.own o 0 (aI t bs).length]) (sd @Nat.zero_add) ⟨_,rfl,by simp only[go_sem, ↓reduceIte,Nat.reduceEqDiff,Nat.reduceAdd,Nat.reduceSub,Nat.reduceLeDiff,reduceCtorEq];rfl,?_,?_,by(try dsimp only);omega,fun x hx y5=>?_⟩
   ·have hm:List.take (aI t bs).length (List.map ay R)=(aI t bs).map ay:=by rw[<-List.map_take,vH]
    rw[hm,List.append_assoc,List.take_append_of_le_length (by simp),List.take_of_length_le (by simp)]
   ·have hm:List.take (aI t bs).length (List.map ay R)=(aI t bs).map ay:=by rw[<-List.map_take,vH]
    rw[hm]
    simp only[List.length_append,List.length_map]
    omega
   ·have PJ:(x=o)=False:=by simp only[eq_iff_iff,iff_false];exact y5
    have:=ly x hx PJ
    simp only[go_sem, ↓reduceIte,Nat.reduceEqDiff,Nat.reduceAdd,Nat.reduceSub,Nat.reduceLeDiff,reduceCtorEq,PJ,this]
 ·have hn:=BN h0
  have dL:=so (t:=t) (bs:=bs) fun b hb=>by simpa using hn b hb
  have hd:decide (jP (fun b:PB=>decide (b.s<t)) bs= -1)=true:=decide_eq_true (by
   unfold jP at h0 ⊢
   split
   ·rename_i h;rw[if_pos h]at h0;omega
   ·rfl)
  (try((repeat(revert hN;revert N;apply Pn.out));refine wk @hd ?_;(repeat(refine Pn.mk ?_;intro N hN))))
  refine gQ (.inl rfl) (vs:=[.own o 0 bs.length]) (sd @Nat.zero_add) ⟨bs.map ay,by rw[dL];rfl,sd @ho,by rw[dL,List.take_of_length_le (by simp)],by rw[dL];simp,by(try dsimp only);omega,fun x _ _=>rfl⟩
def yE (bs:List PB):AV:=if bs=[]then .cq else .sl (bs.map ay)
theorem KA:yE []=.cq:=rfl
theorem yF {bs:List PB} (h:0<bs.length):yE bs=.sl (bs.map ay):=by
 unfold yE
 rw[if_neg (by rintro rfl;simp at h)]
theorem vz (cnt:Nat) (qP:1<=cnt) (hn:cnt<=1048576) (bs:List PB) (hb:∀b∈bs,b.a<cnt/\b.b<cnt) (hp:0<bs.length) (mM:bs.length<=1048576) (t:Int):aq Tryz.prog 287 [.int .i64 cnt,.sl (bs.map ay),.int .i64 t] (.im [.int .i64 (leads cnt (er (aI t bs))).length,yE (dm (er (aI t bs)) bs)]):=by
 refine aq.body eE rfl fun hl n0=>?_
 clear hl
 (try((repeat(revert hN;revert N;apply Pn.out));refine wk @Nat.zero_add ?_;(repeat(refine Pn.mk ?_;intro N hN))))
 refine .inr (bL _ _ _ _ _ (fun r σ1 hq=>?_) (G0 bs hp mM _))
 obtain⟨o,rfl,ho,JO,JP,Pc⟩:=hq
 (try dsimp only at ho JO JP Pc)
 refine hN _ _ ?_
 clear hN N
 (try((repeat(revert hN;revert N;apply Pn.out));refine wk @Nat.zero_add ?_;(repeat(refine Pn.mk ?_;intro N hN))))
 refine .inr (bL _ _ _ _ _ (fun r σ2 hq=>?_) (EM bs t mM o ⟨287000000,n0⟩ _ ho (by rw[Pc _ (by(try dsimp only);omega)];simp only[go_sem, ↓reduceIte,Nat.reduceEqDiff,Nat.reduceAdd,Nat.reduceSub,Nat.reduceLeDiff,reduceCtorEq]) (by(try dsimp only);omega) (by(try dsimp only);omega) (by rintro rfl;simp only at JO;omega)))
 obtain⟨rows,rfl,eX,Q3,sZ,lW,Hq⟩:=hq
 (try dsimp only at lW Hq)
 refine hN _ _ ?_
 clear hN N
 have Gf:=tQ cnt qP hn (aI t bs) (fun b h=>hb b (uO h)) (by have:=mb t bs;omega)
 have hL:=sf (aI t bs)
 have hz:∀x,dj (eo σ2.get) 6 [.int .i64 x,.own o 0 (aI t bs).length]=some [.int .i64 x,.sl ((aI t bs).map ay)]:=fun x=>by
  have:V.fz (eo σ2.get) 6 (.own o 0 (aI t bs).length)=some (.sl ((aI t bs).map ay)):=by
   rw[iv];simp only[eo,eX,Option.map_some,if_true]
   rw[if_pos (by omega),List.drop_zero,Q3,pc fun b=>xG _ 4 b];rfl
  simp only[aj,ar,aK,this,Option.map_some]
 (try((repeat(revert hN;revert N;apply Pn.out));refine wk @Nat.zero_add ?_;(repeat(refine Pn.mk ?_;intro N hN))))
 refine .inl ⟨_,aq.x Gf (hz _),?_⟩
 refine hN _ _ ?_
 clear hN N
 generalize er (aI t bs)=L at *
 have qN:((fc cnt L).map yV).length=(leads cnt L).length:=by simp[fc]
 have QV:=jq cnt L
 have jk:(0:Int)<=(cnt:Int):=by omega
 have oA:(cnt:Int)<=((16777216:Nat):Int):=by omega
 have gK:List.replicate cnt [AV.int .i64 0]=dx (cW cnt L 0 0) cnt:=by rw[uR,nD]
 (try((repeat(revert hN;revert N;apply Pn.out));refine wk (tw @jk (tw @oA (tw @Int.le_refl (tw @qN @gK)))) ?_;(repeat(refine Pn.mk ?_;intro N hN))))
 refine aM (fun n env st=>∃i:Nat,n=((leads cnt L).length)-i/\i<=((leads cnt L).length)/\env 27=.int .i64 (i:Int)/\st.get ⟨287002001,σ2.next+1⟩=some ⟨true,1,dx (cW cnt L i 0) cnt⟩/\(σ2.next+1<st.next)) ((leads cnt L).length) ⟨0,by omega,by omega,sl (tw @gK @qN),sl (tw @gK @qN),(by(try dsimp only);omega)⟩ ?_
 rintro n_c env_c st_c ⟨i,rfl,cle,c27,cg0,cI0⟩ il
 have c1:=il 1 (by kernel_rfl);have c8:=il 8 (by kernel_rfl);have c9:=il 9 (by kernel_rfl);have vk:=il 25 (by kernel_rfl);have vn:=il 26 (by kernel_rfl)
 simp only[go_sem, ↓reduceIte,Nat.reduceEqDiff,Nat.reduceAdd,Nat.reduceSub,Nat.reduceLeDiff,reduceCtorEq,gK,qN]at c1 c8 c9 vk vn
 clear il
 by_cases hi:(i:Int)<((leads cnt L).length:Int)
 ·have fY:∀{e:Env} {gg:Rows} {nx:Nat},(e 27=.int .i64 (IntKind.i64.wrap ((i:Int)+1)))->(gg ⟨287002001,σ2.next+1⟩=some ⟨true,1,dx (cW cnt L (i+1) 0) cnt⟩)->(σ2.next+1<nx)->∃m0,m0<((leads cnt L).length)-i/\∃i:Nat,m0=((leads cnt L).length)-i/\i<=((leads cnt L).length)/\e 27=.int .i64 (i:Int)/\gg ⟨287002001,σ2.next+1⟩=some ⟨true,1,dx (cW cnt L i 0) cnt⟩/\(σ2.next+1<nx):=fun x1 x2 x3=>⟨_,by omega,i+1,rfl,by omega,(by rw[x1,aB (by omega)]),x2,x3⟩
  have e9:i<(leads cnt L).length:=by omega
  have j3:((fc cnt L).map yV)[i]? =some (yV (members cnt L (leads cnt L)[i])):=by simp[fc,e9]
  have qM:(leads cnt L).getD i 0=(leads cnt L)[i]:=by simp[List.getD_eq_getElem?_getD,e9]
  have yY:∀m,cW cnt L i m=fun x=>if bP L x<i then bP L x else if x∈(members cnt L (leads cnt L)[i]).take m then i else 0:=fun m=>by unfold cW;rw[qM]
  have qc:=fun x (hx:x<cnt)=>rF hL (n:=cnt) (k:=x) (i:=i) hx e9
  have nB:(members cnt L (leads cnt L)[i]).Nodup:=List.nodup_range.filter _
  have JL:∀x∈members cnt L (leads cnt L)[i],x<cnt:=fun x hx=>(k5.1 hx).1
  have hMc:(members cnt L (leads cnt L)[i]).length<=cnt:=by
   have:=List.length_filter_le (fun k=>L k==(leads cnt L)[i]) (List.range cnt)
   simpa[members]using this
  generalize members cnt L (leads cnt L)[i]=M at *
  have A8:(M.map eN).length=M.length:=by simp
  (try((repeat(revert hN;revert N;apply Pn.out));refine wk (tw @c27 (tw @cg0 (tw @c1 (tw @c8 (tw @c9 (tw @vk (tw @vn (tw @hi (tw @qN (tw @j3 (tw @yV.eq_1 @A8))))))))))) ?_;(repeat(refine Pn.mk ?_;intro N hN))))
  refine aM (fun n env st=>∃m:Nat,n=(M.length)-m/\m<=(M.length)/\env 34=.int .i64 (m:Int)/\st.get ⟨287002001,σ2.next+1⟩=some ⟨true,1,dx (cW cnt L i m) cnt⟩/\(σ2.next+1<st.next)) (M.length) ⟨0,by omega,by omega,sl (tw @c27 (tw @cg0 (tw @c1 (tw @c8 (tw @c9 (tw @vk (tw @vn @A8))))))),sl (tw @c27 (tw @cg0 (tw @c1 (tw @c8 (tw @c9 (tw @vk (tw @vn @A8))))))),(by(try dsimp only);omega)⟩ ?_
  rintro n_d env_d st_d ⟨m,rfl,dle,d34,dg0,dI0⟩ dfr
  have d1:=dfr 1 (by kernel_rfl);have d8:=dfr 8 (by kernel_rfl);have d9:=dfr 9 (by kernel_rfl);have d10:=dfr 10 (by kernel_rfl);have d25:=dfr 25 (by kernel_rfl);have d26:=dfr 26 (by kernel_rfl);have d27:=dfr 27 (by kernel_rfl);have d32:=dfr 32 (by kernel_rfl);have d33:=dfr 33 (by kernel_rfl)
  simp only[go_sem, ↓reduceIte,Nat.reduceEqDiff,Nat.reduceAdd,Nat.reduceSub,Nat.reduceLeDiff,reduceCtorEq,c27,cg0,c1,c8,c9,vk,vn,A8]at d1 d8 d9 d10 d25 d26 d27 d32 d33
  clear dfr
  have tl:=fN (cW cnt L i m) cnt
  by_cases hm:(m:Int)<(M.length:Int)
  ·have si:∀{e:Env} {gg:Rows} {nx:Nat},(e 34=.int .i64 (IntKind.i64.wrap ((m:Int)+1)))->(gg ⟨287002001,σ2.next+1⟩=some ⟨true,1,dx (cW cnt L i (m+1)) cnt⟩)->(σ2.next+1<nx)->∃m0,m0<(M.length)-m/\∃m:Nat,m0=(M.length)-m/\m<=(M.length)/\e 34=.int .i64 (m:Int)/\gg ⟨287002001,σ2.next+1⟩=some ⟨true,1,dx (cW cnt L i m) cnt⟩/\(σ2.next+1<nx):=fun x1 x2 x3=>⟨_,by omega,m+1,rfl,by omega,(by rw[x1,aB (by omega)]),x2,x3⟩
   have xT:m<M.length:=by omega
   have qO:(M.map eN)[m]? =some (eN M[m]):=by simp[xT]
   have tX:=JL _ (List.getElem_mem xT)
   have Bf:(M[m]:Int)<(cnt:Int):=by omega
   have Be:=e5 (f:=cW cnt L i m) tX
   have eQ:(dx (cW cnt L i m) cnt).set M[m] (eN i)=dx (cW cnt L i (m+1)) cnt:=oi tX (by
    have h1:=(qc _ tX).1 (List.getElem_mem xT)
    rw[yY]
    simp only[]
    rw[if_neg (by omega),if_pos (by rw[List.take_succ_eq_append_getElem xT];exact List.mem_append_right _ (List.mem_singleton.2 rfl))]) fun x hx gM=>by
    rw[yY,yY]
    simp only[]
    rw[List.take_succ_eq_append_getElem xT]
    simp only[List.mem_append,List.mem_singleton,gM,or_false]
   rw[eN]at eQ Be
   generalize M[m]=xm at *
   (try((repeat(revert hN;revert N;apply Pn.out));refine wk (tw @d34 (tw @dg0 (tw @d1 (tw @d8 (tw @d9 (tw @d10 (tw @d25 (tw @d26 (tw @d27 (tw @d32 (tw @d33 (tw @hm (tw @hi (tw @qO (tw @A8 (tw @Bf (tw @Be (tw @tl (tw @eQ @eN.eq_1))))))))))))))))))) ?_;(repeat(refine Pn.mk ?_;intro N hN))))
   refine si ?_ ?_ (by(try dsimp only);omega)
   all_goals simp only[go_sem, ↓reduceIte,Nat.reduceEqDiff,Nat.reduceAdd,Nat.reduceSub,Nat.reduceLeDiff,reduceCtorEq,d34,dg0,d1,d8,d9,d10,d25,d26,d27,d32,d33,eQ]
  ·have gm:m=M.length:=by omega
   subst gm
   have nV:dx (cW cnt L i M.length) cnt=dx (cW cnt L (i+1) 0) cnt:=gH fun x hx=>by
    rw[yY,List.take_length]
    simp only[cW,List.take_zero,List.not_mem_nil,if_false]
    have h1:=qc x hx
    by_cases h2:bP L x<i
    ·rw[if_pos h2,if_pos (by omega)]
    ·rw[if_neg h2]
     by_cases h3:x∈M
     ·rw[if_pos h3,if_pos (by have:=h1.1 h3;omega),h1.1 h3]
     ·rw[if_neg h3,if_neg fun h4=>h3 (h1.2 (by omega))]
   (try((repeat(revert hN;revert N;apply Pn.out));refine wk (tw @d34 (tw @dg0 (tw @d1 (tw @d8 (tw @d9 (tw @d10 (tw @d25 (tw @d26 (tw @d27 (tw @d32 (tw @d33 (tw @hm (tw @hi (tw @qN @A8)))))))))))))) ?_;(repeat(refine Pn.mk ?_;intro N hN))))
   refine fY ?_ ?_ (by(try dsimp only);omega)
   all_goals simp only[go_sem, ↓reduceIte,Nat.reduceEqDiff,Nat.reduceAdd,Nat.reduceSub,Nat.reduceLeDiff,reduceCtorEq,c27,cg0,c1,c8,c9,vk,vn,d34,dg0,d1,d8,d9,d10,d25,d26,d27,d32,d33,nV]
 have mC:i=(leads cnt L).length:=by omega
 subst mC
 have vG:dx (cW cnt L (leads cnt L).length 0) cnt=dx (bP L) cnt:=gH fun x hx=>by rw[cW,if_pos (jI hL hx)]
 rw[vG]at cg0
 have tl:=fN (bP L) cnt
 have QH:(bs.map ay).length=bs.length:=by simp
 (try((repeat(revert hN;revert N;apply Pn.out));refine wk (tw @c27 (tw @cg0 (tw @c1 (tw @c8 (tw @c9 (tw @vk (tw @vn (tw @hi (tw @qN @QH))))))))) ?_;(repeat(refine Pn.mk ?_;intro N hN))))
 have QK:σ2.next+1<st_c.next:=cI0
 refine aM (fun n env st=>∃j:Nat,n=(bs.length)-j/\j<=(bs.length)/\env 46=.int .i64 (j:Int)/\st.get ⟨287002001,σ2.next+1⟩=some ⟨true,1,dx (bP L) cnt⟩/\(st_c.next<=st.next/\((dm L (bs.take j)=[]/\env 14=.cq)∨∃p:Id,env 14=.own p 0 (dm L (bs.take j)).length/\st.get p=some ⟨true,3,(dm L (bs.take j)).map ay⟩/\st_c.next<=p.bt/\p.bt<st.next/\0<(dm L (bs.take j)).length))) (bs.length) ⟨0,by omega,by omega,sl (tw @c27 (tw @cg0 (tw @c1 (tw @c8 (tw @c9 (tw @vk (tw @vn @QH))))))),sl (tw @c27 (tw @cg0 (tw @c1 (tw @c8 (tw @c9 (tw @vk (tw @vn @QH))))))),⟨by(try dsimp only);omega,.inl ⟨rfl,by(simp only[go_sem, ↓reduceIte,Nat.reduceEqDiff,Nat.reduceAdd,Nat.reduceSub,Nat.reduceLeDiff,reduceCtorEq])⟩⟩⟩ ?_
 rintro n_f env_f st_f ⟨j,rfl,fle,f46,fg0,fI0⟩ ffr
 have f1:=ffr 1 (by kernel_rfl);have f8:=ffr 8 (by kernel_rfl);have f9:=ffr 9 (by kernel_rfl);have f44:=ffr 44 (by kernel_rfl);have f45:=ffr 45 (by kernel_rfl)
 simp only[go_sem, ↓reduceIte,Nat.reduceEqDiff,Nat.reduceAdd,Nat.reduceSub,Nat.reduceLeDiff,reduceCtorEq,c27,cg0,c1,c8,c9,vk,vn,QH]at f1 f8 f9 f44 f45
 clear ffr
 obtain⟨QQ,fO⟩:=fI0
 have Fc:=ef (i:=⟨287002001,σ2.next+1⟩) (n:=st_f.next) (by(try dsimp only);omega)
 have u9:=(ma L (bs.take j)).1
 rw[List.length_take]at u9
 by_cases hj:(j:Int)<(bs.length:Int)
 ·have qo:∀{e:Env} {gg:Rows} {nx:Nat},(e 46=.int .i64 (IntKind.i64.wrap ((j:Int)+1)))->(gg ⟨287002001,σ2.next+1⟩=some ⟨true,1,dx (bP L) cnt⟩)->(st_c.next<=nx/\((dm L (bs.take (j+1))=[]/\e 14=.cq)∨∃p:Id,e 14=.own p 0 (dm L (bs.take (j+1))).length/\gg p=some ⟨true,3,(dm L (bs.take (j+1))).map ay⟩/\st_c.next<=p.bt/\p.bt<nx/\0<(dm L (bs.take (j+1))).length))->∃m0,m0<(bs.length)-j/\∃j:Nat,m0=(bs.length)-j/\j<=(bs.length)/\e 46=.int .i64 (j:Int)/\gg ⟨287002001,σ2.next+1⟩=some ⟨true,1,dx (bP L) cnt⟩/\(st_c.next<=nx/\((dm L (bs.take j)=[]/\e 14=.cq)∨∃p:Id,e 14=.own p 0 (dm L (bs.take j)).length/\gg p=some ⟨true,3,(dm L (bs.take j)).map ay⟩/\st_c.next<=p.bt/\p.bt<nx/\0<(dm L (bs.take j)).length)):=fun x1 x2 x3=>⟨_,by omega,j+1,rfl,by omega,(by rw[x1,aB (by omega)]),x2,x3⟩
  have ll:j<bs.length:=by omega
  have xR:(bs.map ay)[j]? =some (ay bs[j]):=by simp[ll]
  have JE:=hb _ (List.getElem_mem ll)
  have hs:=yz L (bs.take j) bs[j]
  rw[<-List.take_succ_eq_append_getElem ll]at hs
  generalize bs[j]=b at *
  have hA:=e5 (f:=bP L) JE.1
  have hB:=e5 (f:=bP L) JE.2
  have gh:(b.a:Int)<(cnt:Int):=by omega
  have fa:(b.b:Int)<(cnt:Int):=by omega
  rw[eN]at hA hB
  have e1:(dm L (bs.take j)).length+1<=16777216:=by omega
  have gm:((dm L (bs.take j)).map ay).length=(dm L (bs.take j)).length:=by simp
  by_cases he:bP L b.a=bP L b.b
  ·rw[if_pos he,List.append_nil]at hs
   have uZ:decide ((bP L b.a:Int)=(bP L b.b:Int))=true:=decide_eq_true (by rw[he])
   (try((repeat(revert hN;revert N;apply Pn.out));refine wk (tw @f46 (tw @fg0 (tw @f1 (tw @f8 (tw @f9 (tw @f44 (tw @f45 (tw @hj (tw @xR (tw @hA (tw @hB (tw @gh (tw @fa (tw @tl (tw @uZ (tw @Fc (tw @ay.eq_1 (tw @Bool.not_true @Bool.not_false)))))))))))))))))) ?_;(repeat(refine Pn.mk ?_;intro N hN))))
   refine qo ?_ ?_ (by(try dsimp only);exact⟨by omega,by
    rw[hs]
    rcases fO with⟨h1,h2⟩|⟨p,h1,h2,h3,h4,h5⟩
    ·exact .inl ⟨h1,sd @h2⟩
    ·have yZ:=ef h4
     exact .inr ⟨p,sd @h1,sd (tw @h2 @yZ),h3,by omega,h5⟩⟩)
   all_goals simp only[go_sem, ↓reduceIte,Nat.reduceEqDiff,Nat.reduceAdd,Nat.reduceSub,Nat.reduceLeDiff,reduceCtorEq,f46,fg0,f1,f8,f9,f44,f45,Fc]
  ·rw[if_neg he]at hs
   have uZ:decide ((bP L b.a:Int)=(bP L b.b:Int))=false:=decide_eq_false fun h=>he (by omega)
   rcases fO with⟨h1,f14⟩|⟨p,f14,fg,ME,Hx,hp3⟩
   ·rw[h1]at hs
    (try((repeat(revert hN;revert N;apply Pn.out));refine wk (tw @f46 (tw @fg0 (tw @f1 (tw @f8 (tw @f9 (tw @f44 (tw @f45 (tw @f14 (tw @hj (tw @xR (tw @hA (tw @hB (tw @gh (tw @fa (tw @tl (tw @uZ (tw @Fc (tw @ay.eq_1 (tw @Bool.not_true @Bool.not_false))))))))))))))))))) ?_;(repeat(refine Pn.mk ?_;intro N hN))))
    refine qo ?_ ?_ (by(try dsimp only);exact⟨by omega,.inr ⟨⟨287017015,st_f.next+1+1+1⟩,by rw[hs];simp only[go_sem, ↓reduceIte,Nat.reduceEqDiff,Nat.reduceAdd,Nat.reduceSub,Nat.reduceLeDiff,reduceCtorEq,List.nil_append,List.length_cons,List.length_nil],by rw[hs];simp only[go_sem, ↓reduceIte,Nat.reduceEqDiff,Nat.reduceAdd,Nat.reduceSub,Nat.reduceLeDiff,reduceCtorEq,ay,List.nil_append,List.map_cons,List.map_nil],by(try dsimp only);omega,by(try dsimp only);omega,by rw[hs];simp⟩⟩)
    all_goals simp only[go_sem, ↓reduceIte,Nat.reduceEqDiff,Nat.reduceAdd,Nat.reduceSub,Nat.reduceLeDiff,reduceCtorEq,f46,fg0,f1,f8,f9,f44,f45,Fc]
   ·have x1:=dI (a:=⟨287002001,σ2.next+1⟩) (b:=p) (by(try dsimp only);omega)
    have yZ:=ef Hx
    (try((repeat(revert hN;revert N;apply Pn.out));refine wk (tw @f46 (tw @fg0 (tw @f1 (tw @f8 (tw @f9 (tw @f44 (tw @f45 (tw @f14 (tw @fg (tw @hj (tw @xR (tw @hA (tw @hB (tw @gh (tw @fa (tw @tl (tw @uZ (tw @x1 (tw @yZ (tw @Fc (tw @e1 (tw @gm (tw @ay.eq_1 (tw @Bool.not_true @Bool.not_false)))))))))))))))))))))))) ?_;(repeat(refine Pn.mk ?_;intro N hN))))
    refine qo ?_ ?_ (by(try dsimp only);exact⟨by omega,.inr ⟨⟨287017015,st_f.next+1+1+1⟩,by rw[hs,List.length_append];simp only[go_sem, ↓reduceIte,Nat.reduceEqDiff,Nat.reduceAdd,Nat.reduceSub,Nat.reduceLeDiff,reduceCtorEq,List.length_cons,List.length_nil],by rw[hs,List.map_append,List.map_cons,List.map_nil];simp only[go_sem, ↓reduceIte,Nat.reduceEqDiff,Nat.reduceAdd,Nat.reduceSub,Nat.reduceLeDiff,reduceCtorEq,ay],by(try dsimp only);omega,by(try dsimp only);omega,by rw[hs];simp⟩⟩)
    all_goals simp only[go_sem, ↓reduceIte,Nat.reduceEqDiff,Nat.reduceAdd,Nat.reduceSub,Nat.reduceLeDiff,reduceCtorEq,f46,fg0,f1,f8,f9,f44,f45,x1,Fc]
 ·have gq:j=bs.length:=by omega
  subst gq
  rw[List.take_length]at fO
  rcases fO with⟨h1,f14⟩|⟨p,f14,fg,ME,Hx,hp3⟩
  ·(try((repeat(revert hN;revert N;apply Pn.out));refine wk (tw @f46 (tw @fg0 (tw @f1 (tw @f8 (tw @f9 (tw @f44 (tw @f45 (tw @f14 (tw @hj @qN))))))))) ?_;(repeat(refine Pn.mk ?_;intro N hN))))
   refine jc (.inl rfl) (r1:=.int .i64 ((leads cnt L).length:Int)) (sd @Nat.zero_add) (by simp only[go_sem, ↓reduceIte,Nat.reduceEqDiff,Nat.reduceAdd,Nat.reduceSub,Nat.reduceLeDiff,reduceCtorEq];rfl) ?_
   simp only[dZ,aS,bm,dr,kf,h1,KA,Option.map_some]
  ·(try((repeat(revert hN;revert N;apply Pn.out));refine wk (tw @f46 (tw @fg0 (tw @f1 (tw @f8 (tw @f9 (tw @f44 (tw @f45 (tw @f14 (tw @hj @qN))))))))) ?_;(repeat(refine Pn.mk ?_;intro N hN))))
   refine jc (.inl rfl) (r1:=.int .i64 ((leads cnt L).length:Int)) (sd @Nat.zero_add) (by simp only[go_sem, ↓reduceIte,Nat.reduceEqDiff,Nat.reduceAdd,Nat.reduceSub,Nat.reduceLeDiff,reduceCtorEq];rfl) ?_
   have h1:fV st_f.get 5 (.own p 0 (dm L bs).length)=some (.sl ((dm L bs).map ay)):=fw (sz:=3) fg rfl fun b=>sR _ 3 b
   simp only[dZ,aS,bm,dr,h1,yF hp3,Option.map_some]
theorem vw (cnt:Nat) (qP:1<=cnt) (hn:cnt<=1048576) (t:Int):aq Tryz.prog 287 [.int .i64 cnt,.cq,.int .i64 t] (.im [.int .i64 cnt,.cq]):=by
 refine aq.body eE rfl fun hl n0=>?_
 clear hl
 have h1:aq Tryz.prog 322 [.cq] .cq:=by
  refine aq.body eE rfl fun hl n0=>?_
  clear hl
  (try((repeat(revert hN;revert N;apply Pn.out));refine wk @Nat.zero_add ?_;(repeat(refine Pn.mk ?_;intro N hN))))
  exact uH (.inl rfl) (r0:=.cq) (sd @Nat.zero_add) (kf _ _)
 have h2:aq Tryz.prog 321 [.cq,.fn 323 [.dd [.int .i64 t]]] .cq:=by
  have Bc:=(wQ [] t (by simp)).cut mixed (.cq (.same _ .nil))
  refine aq.body eE rfl fun hl n0=>?_
  clear hl
  (try((repeat(revert hN;revert N;apply Pn.out));refine wk @Nat.zero_add ?_;(repeat(refine Pn.mk ?_;intro N hN))))
  refine .inl ⟨_,aq.x Bc (by simp only[aj,ar,aQ,cD,aN,List.all_cons,List.all_nil,AV.cell,Bool.and_true,if_true,Option.map_some]),?_⟩
  refine hN _ _ ?_
  clear hN N
  have hd:decide (jP (fun b:PB=>decide (b.s<t)) []= -1)=true:=rfl
  (try((repeat(revert hN;revert N;apply Pn.out));refine wk @hd ?_;(repeat(refine Pn.mk ?_;intro N hN))))
  exact uH (.inl rfl) (r0:=.cq) (sd @Nat.zero_add) (kf _ _)
 have Gf:=(tQ cnt qP hn [] (fun b h=>by cases h) (by simp)).cut mixed (.same _ (.cq .nil))
 (repeat(first|((repeat(revert hN;revert N;apply Pn.out));refine wk @Nat.zero_add ?_;(repeat(refine Pn.mk ?_;intro N hN)))|((try apply Or.inl);refine⟨_,aq.x (h1) (sd @Nat.zero_add),?_⟩;refine hN _ _ ?_;clear hN N)))
 refine .inl ⟨_,aq.x h2 ?_,?_⟩
 ·have:V.fz (eo (bK (fun _=>none) ⟨287000000,n0⟩ ⟨true,1,[[.int .i64 t]]⟩)) 5 (.ptr ⟨287000000,n0⟩ 0 0)=some (.dd [.int .i64 t]):=xI (sz:=1) (rows:=[[.int .i64 t]]) (by simp[eo,bK]) rfl (by simp only[List.drop_zero,aj,ar,aK,Option.map_some])
  simp only[aj,ar,aQ,cD,this,List.all_cons,List.all_nil,AV.cell,Bool.and_true,if_true,Option.map_some]
 refine hN _ _ ?_
 clear hN N
 have fa:er ([]:List PB)=id:=rfl
 rw[fa]at Gf
 have hL:ji id:=fa▸sf ([]:List PB)
 have N0:(leads cnt id).length=cnt:=by rw[leads,List.filter_eq_self.2 (fun a _=>by simp)];simp
 generalize (id:Nat->Nat)=L at *
 have qN:((fc cnt L).map yV).length=(leads cnt L).length:=by simp[fc]
 have QV:=jq cnt L
 have jk:(0:Int)<=(cnt:Int):=by omega
 have oA:(cnt:Int)<=((16777216:Nat):Int):=by omega
 have gK:List.replicate cnt [AV.int .i64 0]=dx (cW cnt L 0 0) cnt:=by rw[uR,nD]
 (repeat(first|((repeat(revert hN;revert N;apply Pn.out));refine wk (tw @jk (tw @oA (tw @Int.le_refl (tw @qN @gK)))) ?_;(repeat(refine Pn.mk ?_;intro N hN)))|((try apply Or.inl);refine⟨_,aq.x (Gf) (sd (tw @jk (tw @oA (tw @Int.le_refl (tw @qN @gK))))),?_⟩;refine hN _ _ ?_;clear hN N)))
 refine aM (fun n env st=>∃i:Nat,n=((leads cnt L).length)-i/\i<=((leads cnt L).length)/\env 27=.int .i64 (i:Int)/\st.get ⟨287002001,n0+1+1⟩=some ⟨true,1,dx (cW cnt L i 0) cnt⟩/\(n0+1+1<st.next)) ((leads cnt L).length) ⟨0,by omega,by omega,sl (tw @gK @qN),sl (tw @gK @qN),(by(try dsimp only);omega)⟩ ?_
 rintro n_c env_c st_c ⟨i,rfl,cle,c27,cg0,cI0⟩ il
 have c1:=il 1 (by kernel_rfl);have c8:=il 8 (by kernel_rfl);have c9:=il 9 (by kernel_rfl);have vk:=il 25 (by kernel_rfl);have vn:=il 26 (by kernel_rfl)
 simp only[go_sem, ↓reduceIte,Nat.reduceEqDiff,Nat.reduceAdd,Nat.reduceSub,Nat.reduceLeDiff,reduceCtorEq,gK,qN]at c1 c8 c9 vk vn
 clear il
 by_cases hi:(i:Int)<((leads cnt L).length:Int)
 ·have fY:∀{e:Env} {gg:Rows} {nx:Nat},(e 27=.int .i64 (IntKind.i64.wrap ((i:Int)+1)))->(gg ⟨287002001,n0+1+1⟩=some ⟨true,1,dx (cW cnt L (i+1) 0) cnt⟩)->(n0+1+1<nx)->∃m0,m0<((leads cnt L).length)-i/\∃i:Nat,m0=((leads cnt L).length)-i/\i<=((leads cnt L).length)/\e 27=.int .i64 (i:Int)/\gg ⟨287002001,n0+1+1⟩=some ⟨true,1,dx (cW cnt L i 0) cnt⟩/\(n0+1+1<nx):=fun x1 x2 x3=>⟨_,by omega,i+1,rfl,by omega,(by rw[x1,aB (by omega)]),x2,x3⟩
  have e9:i<(leads cnt L).length:=by omega
  have j3:((fc cnt L).map yV)[i]? =some (yV (members cnt L (leads cnt L)[i])):=by simp[fc,e9]
  have qM:(leads cnt L).getD i 0=(leads cnt L)[i]:=by simp[List.getD_eq_getElem?_getD,e9]
  have yY:∀m,cW cnt L i m=fun x=>if bP L x<i then bP L x else if x∈(members cnt L (leads cnt L)[i]).take m then i else 0:=fun m=>by unfold cW;rw[qM]
  have qc:=fun x (hx:x<cnt)=>rF hL (n:=cnt) (k:=x) (i:=i) hx e9
  have nB:(members cnt L (leads cnt L)[i]).Nodup:=List.nodup_range.filter _
  have JL:∀x∈members cnt L (leads cnt L)[i],x<cnt:=fun x hx=>(k5.1 hx).1
  have hMc:(members cnt L (leads cnt L)[i]).length<=cnt:=by
   have:=List.length_filter_le (fun k=>L k==(leads cnt L)[i]) (List.range cnt)
   simpa[members]using this
  generalize members cnt L (leads cnt L)[i]=M at *
  have A8:(M.map eN).length=M.length:=by simp
  (try((repeat(revert hN;revert N;apply Pn.out));refine wk (tw @c27 (tw @cg0 (tw @c1 (tw @c8 (tw @c9 (tw @vk (tw @vn (tw @hi (tw @qN (tw @j3 (tw @yV.eq_1 @A8))))))))))) ?_;(repeat(refine Pn.mk ?_;intro N hN))))
  refine aM (fun n env st=>∃m:Nat,n=(M.length)-m/\m<=(M.length)/\env 34=.int .i64 (m:Int)/\st.get ⟨287002001,n0+1+1⟩=some ⟨true,1,dx (cW cnt L i m) cnt⟩/\(n0+1+1<st.next)) (M.length) ⟨0,by omega,by omega,sl (tw @c27 (tw @cg0 (tw @c1 (tw @c8 (tw @c9 (tw @vk (tw @vn @A8))))))),sl (tw @c27 (tw @cg0 (tw @c1 (tw @c8 (tw @c9 (tw @vk (tw @vn @A8))))))),(by(try dsimp only);omega)⟩ ?_
  rintro n_d env_d st_d ⟨m,rfl,dle,d34,dg0,dI0⟩ dfr
  have d1:=dfr 1 (by kernel_rfl);have d8:=dfr 8 (by kernel_rfl);have d9:=dfr 9 (by kernel_rfl);have d10:=dfr 10 (by kernel_rfl);have d25:=dfr 25 (by kernel_rfl);have d26:=dfr 26 (by kernel_rfl);have d27:=dfr 27 (by kernel_rfl);have d32:=dfr 32 (by kernel_rfl);have d33:=dfr 33 (by kernel_rfl)
  simp only[go_sem, ↓reduceIte,Nat.reduceEqDiff,Nat.reduceAdd,Nat.reduceSub,Nat.reduceLeDiff,reduceCtorEq,c27,cg0,c1,c8,c9,vk,vn,A8]at d1 d8 d9 d10 d25 d26 d27 d32 d33
  clear dfr
  have tl:=fN (cW cnt L i m) cnt
  by_cases hm:(m:Int)<(M.length:Int)
  ·have si:∀{e:Env} {gg:Rows} {nx:Nat},(e 34=.int .i64 (IntKind.i64.wrap ((m:Int)+1)))->(gg ⟨287002001,n0+1+1⟩=some ⟨true,1,dx (cW cnt L i (m+1)) cnt⟩)->(n0+1+1<nx)->∃m0,m0<(M.length)-m/\∃m:Nat,m0=(M.length)-m/\m<=(M.length)/\e 34=.int .i64 (m:Int)/\gg ⟨287002001,n0+1+1⟩=some ⟨true,1,dx (cW cnt L i m) cnt⟩/\(n0+1+1<nx):=fun x1 x2 x3=>⟨_,by omega,m+1,rfl,by omega,(by rw[x1,aB (by omega)]),x2,x3⟩
   have xT:m<M.length:=by omega
   have qO:(M.map eN)[m]? =some (eN M[m]):=by simp[xT]
   have tX:=JL _ (List.getElem_mem xT)
   have Bf:(M[m]:Int)<(cnt:Int):=by omega
   have Be:=e5 (f:=cW cnt L i m) tX
   have eQ:(dx (cW cnt L i m) cnt).set M[m] (eN i)=dx (cW cnt L i (m+1)) cnt:=oi tX (by
    have h1:=(qc _ tX).1 (List.getElem_mem xT)
    rw[yY]
    simp only[]
    rw[if_neg (by omega),if_pos (by rw[List.take_succ_eq_append_getElem xT];exact List.mem_append_right _ (List.mem_singleton.2 rfl))]) fun x hx gM=>by
    rw[yY,yY]
    simp only[]
    rw[List.take_succ_eq_append_getElem xT]
    simp only[List.mem_append,List.mem_singleton,gM,or_false]
   rw[eN]at eQ Be
   generalize M[m]=xm at *
   (try((repeat(revert hN;revert N;apply Pn.out));refine wk (tw @d34 (tw @dg0 (tw @d1 (tw @d8 (tw @d9 (tw @d10 (tw @d25 (tw @d26 (tw @d27 (tw @d32 (tw @d33 (tw @hm (tw @hi (tw @qO (tw @A8 (tw @Bf (tw @Be (tw @tl (tw @eQ @eN.eq_1))))))))))))))))))) ?_;(repeat(refine Pn.mk ?_;intro N hN))))
   refine si ?_ ?_ (by(try dsimp only);omega)
   all_goals simp only[go_sem, ↓reduceIte,Nat.reduceEqDiff,Nat.reduceAdd,Nat.reduceSub,Nat.reduceLeDiff,reduceCtorEq,d34,dg0,d1,d8,d9,d10,d25,d26,d27,d32,d33,eQ]
  ·have gm:m=M.length:=by omega
   subst gm
   have nV:dx (cW cnt L i M.length) cnt=dx (cW cnt L (i+1) 0) cnt:=gH fun x hx=>by
    rw[yY,List.take_length]
    simp only[cW,List.take_zero,List.not_mem_nil,if_false]
    have h1:=qc x hx
    by_cases h2:bP L x<i
    ·rw[if_pos h2,if_pos (by omega)]
    ·rw[if_neg h2]
     by_cases h3:x∈M
     ·rw[if_pos h3,if_pos (by have:=h1.1 h3;omega),h1.1 h3]
     ·rw[if_neg h3,if_neg fun h4=>h3 (h1.2 (by omega))]
   (try((repeat(revert hN;revert N;apply Pn.out));refine wk (tw @d34 (tw @dg0 (tw @d1 (tw @d8 (tw @d9 (tw @d10 (tw @d25 (tw @d26 (tw @d27 (tw @d32 (tw @d33 (tw @hm (tw @hi (tw @qN @A8)))))))))))))) ?_;(repeat(refine Pn.mk ?_;intro N hN))))
   refine fY ?_ ?_ (by(try dsimp only);omega)
   all_goals simp only[go_sem, ↓reduceIte,Nat.reduceEqDiff,Nat.reduceAdd,Nat.reduceSub,Nat.reduceLeDiff,reduceCtorEq,c27,cg0,c1,c8,c9,vk,vn,d34,dg0,d1,d8,d9,d10,d25,d26,d27,d32,d33,nV]
 have mC:i=(leads cnt L).length:=by omega
 subst mC
 have vG:dx (cW cnt L (leads cnt L).length 0) cnt=dx (bP L) cnt:=gH fun x hx=>by rw[cW,if_pos (jI hL hx)]
 rw[vG]at cg0
 have tl:=fN (bP L) cnt
 (try((repeat(revert hN;revert N;apply Pn.out));refine wk (tw @c27 (tw @cg0 (tw @c1 (tw @c8 (tw @c9 (tw @vk (tw @vn (tw @hi @qN)))))))) ?_;(repeat(refine Pn.mk ?_;intro N hN))))
 refine aM (fun n env st=>∃j:Nat,n=(0)-j/\j<=(0)/\env 46=.int .i64 (j:Int)/\env 14=.cq) (0) ⟨0,by omega,by omega,sl (tw @c27 (tw @cg0 (tw @c1 (tw @c8 (tw @c9 (tw @vk @vn)))))),sl (tw @c27 (tw @cg0 (tw @c1 (tw @c8 (tw @c9 (tw @vk @vn))))))⟩ ?_
 rintro n_f env_f st_f ⟨j,rfl,fle,f46,f14⟩ ffr
 have f8:=ffr 8 (by kernel_rfl);have f44:=ffr 44 (by kernel_rfl);have f45:=ffr 45 (by kernel_rfl)
 simp only[go_sem, ↓reduceIte,Nat.reduceEqDiff,Nat.reduceAdd,Nat.reduceSub,Nat.reduceLeDiff,reduceCtorEq,c27,cg0,c1,c8,c9,vk,vn]at f8 f44 f45
 clear ffr
 have hj:¬(j:Int)<((0:Nat):Int):=by omega
 (try((repeat(revert hN;revert N;apply Pn.out));refine wk (tw @f46 (tw @f14 (tw @f8 (tw @f44 (tw @f45 (tw @hj @qN)))))) ?_;(repeat(refine Pn.mk ?_;intro N hN))))
 refine jc (.inl rfl) (r1:=.int .i64 ((leads cnt L).length:Int)) (r2:=.cq) (sd @Nat.zero_add) (sd @Nat.zero_add) ?_
 simp only[dZ,aS,bm,dr,kf,N0,Option.map_some]
theorem xD (cnt:Nat) (qP:1<=cnt) (hn:cnt<=1048576) (bs:List PB) (hb:∀b∈bs,b.a<cnt/\b.b<cnt) (mM:bs.length<=1048576) (t:Int):aq Tryz.prog 287 [.int .i64 cnt,yE bs,.int .i64 t] (.im [.int .i64 (leads cnt (er (aI t bs))).length,yE (dm (er (aI t bs)) bs)]):=by
 cases bs with
 |nil=>
  have h:=vw cnt qP hn t
  have N0:(leads cnt (er (aI t []))).length=cnt:=by
   show(leads cnt id).length=cnt
   rw[leads,List.filter_eq_self.2 (fun a _=>by simp)];simp
  rw[N0]
  exact h
 |cons b r=>
  rw[yF (by simp)]
  exact vz cnt qP hn (b::r) hb (by simp) mM t
end Go.Proofs.YtgoljkjaameagaaGreat.V

namespace Go.Proofs.YtgoljkjaameagaaGreat.V
open Go.RowKit
attribute [local irreducible] ej wpOps fQ Call
attribute [local go_sem] aH fq eD fH fG cV upd bZ K.av cC AV.cells AV.cell rowOf rowsOf part ld rowAt bK bR du dQ gE bB cR eb fF eL dh dV cP cN dD dE bF aT cG bE cI cH dS dW dU cF bJ cQ dR bD aJ cK cm gD bd cz bG aP dn aX dv AV.undef bj bx dG dO dz dF cu ea ei ck dY dX cJ cL List.getD_cons_zero List.getD_cons_succ List.getD_nil List.all_cons List.all_nil Bool.and_true Bool.true_and Bool.and_self Bool.not_true Bool.not_false Option.map_some Option.map_none Option.bind_some Option.bind_none List.length_cons List.length_nil List.take_succ_cons List.take_zero List.take_nil List.drop_succ_cons List.drop_zero List.drop_nil List.head?_cons List.map_cons List.map_nil List.getElem?_cons_zero List.getElem?_cons_succ List.cons_append List.nil_append List.append_nil List.length_map List.set_cons_zero List.set_cons_succ Nat.reduceMul eq_self Int.toNat_natCast Int.natCast_nonneg and_self true_and and_true decide_true decide_false Bool.false_eq_true Nat.zero_add Nat.add_zero List.contains_cons List.contains_nil Bool.or_false Bool.false_or beq_self_eq_true Nat.reduceBEq ne_eq not_true_eq_false not_false_eq_true Id.mk.injEq false_and and_false Nat.reduceLT Int.reduceLE Int.reduceLT Int.reduceToNat Int.reduceNeg Int.reduceAdd Nat.le_refl List.length_append beq_true beq_false Bool.not_eq_eq_eq_not or_false false_or eo aj ar aK aV bp bW aQ aZ aN aU cD bI
attribute [local go_sem] Ej
section
attribute [-go_sem] du
theorem Kg (n:Nat) (hn:n<=1048576):aq Tryz.prog 340 [.int .u64 1,.int .u64 n] (.im [.int .u64 0,.int .u64 n]):=by
 refine aq.body eE rfl fun hl n0=>?_
 clear hl
 have b1:(BitVec.ofInt 64 (n:Int)&&& BitVec.ofInt 64 4294967295).toNat=n:=by
  rw[BitVec.toNat_and]
  have e1:(BitVec.ofInt 64 (n:Int)).toNat=n:=by rw[BitVec.toNat_ofInt];omega
  have e2:(BitVec.ofInt 64 4294967295).toNat=2 ^ 32-1:=by decide
  rw[e1,e2]
  exact Nat.and_two_pow_sub_one_of_lt_two_pow (by omega)
 have zn:IntKind.u64.wrap (n:Int)=n:=by rw[IntKind.wrap_u64];omega
 have i1:du .and .u64 (n:Int) 4294967295=some (.int .u64 n):=by
  show some (AV.int .u64 (IntKind.u64.wrap (((BitVec.ofInt 64 (n:Int)&&& BitVec.ofInt 64 4294967295).toNat:Nat):Int)))= _
  rw[b1,zn]
 have i2:du .and .u64 1 4294967295=some (.int .u64 1):=rfl
 have i3:du .and .u64 0 4294967295=some (.int .u64 0):=rfl
 have i4:du .mul .u64 1 (n:Int)=some (.int .u64 n):=by simp only[du,Int.one_mul,zn]
 have i5:du .mul .u64 0 (n:Int)=some (.int .u64 0):=by simp only[du,Int.zero_mul];rfl
 have i6:du .mul .u64 1 0=some (.int .u64 0):=rfl
 have i7:du .mul .u64 0 0=some (.int .u64 0):=rfl
 have i8:du .add .u64 0 0=some (.int .u64 0):=rfl
 have a3:Int.fdiv 1 (2 ^ min 32 64)=0:=by decide
 have a4:Int.fdiv (n:Int) (2 ^ min 32 64)=0:=by
  rw[Int.fdiv_eq_ediv_of_nonneg _ (by decide)]
  have h32:(2:Int) ^ min 32 64=4294967296:=by decide
  exact Int.ediv_eq_zero_of_lt (by omega) (by omega)
 have z1:Int.fdiv 0 (2 ^ min 32 64)=0:=by decide
 (try((repeat(revert hN;revert N;apply Pn.out));refine wk (tw @i1 (tw @i2 (tw @i3 (tw @i4 (tw @i5 (tw @i6 (tw @i7 (tw @i8 (tw @a3 (tw @a4 @z1)))))))))) ?_;(repeat(refine Pn.mk ?_;intro N hN))))
 refine jc (.inl rfl) (r1:=.int .u64 0) (r2:=.int .u64 n) (sd @Nat.zero_add) (sd @Nat.zero_add) ?_
 simp only[dZ,aS,bm,dr,Option.map_some]
end
theorem PX (n:Nat) (hn:n<=1048576):aq Tryz.prog 337 [.int .u64 1,.int .u64 n] (.im [.int .u64 0,.int .u64 n]):=by
 refine aq.body eE rfl fun hl n0=>?_
 clear hl
 have h:=Kg n hn
 (repeat(first|((repeat(revert hN;revert N;apply Pn.out));refine wk @Nat.zero_add ?_;(repeat(refine Pn.mk ?_;intro N hN)))|((try apply Or.inl);refine⟨_,aq.x (h) (sd @Nat.zero_add),?_⟩;refine hN _ _ ?_;clear hN N)))
 refine jc (.inl rfl) (r1:=.int .u64 0) (r2:=.int .u64 n) (sd @Nat.zero_add) (sd @Nat.zero_add) ?_
 simp only[dZ,aS,bm,dr,Option.map_some]
theorem Ih (cnt:Nat) (qP:1<=cnt) (hn:cnt<=1048576) (v:Int) (x:Id) (σ:ax) (hx:σ.get x=some ⟨true,1,[[.int .i64 v]]⟩) (Tb:x.bt<σ.next):
  Call Tryz.prog 327 [.own x 0 1,.int .i64 cnt] σ fun r σ'=>∃o:Id,r=.own o 0 cnt/\σ'.get o=some ⟨true,1,List.replicate cnt [.int .i64 v]⟩/\σ.next<=o.bt/\o.bt<σ'.next/\∀i:Id,i.bt<σ.next->σ'.get i=σ.get i:=by
 refine iq eE rfl fun hl=>?_
 clear hl
 have h:=PX cnt hn
 have w1:IntKind.u64.wrap (cnt:Int)=cnt:=by rw[IntKind.wrap_u64];omega
 have w2:IntKind.i64.wrap (cnt:Int)=cnt:=IS (by omega)
 have w0:IntKind.u64.wrap ((1:Nat):Int)=1:=by decide
 have g1:¬(cnt:Int)<0:=by omega
 have g2:¬(9223372036854775807:Int)<cnt:=by omega
 have jk:(0:Int)<=(cnt:Int):=by omega
 have oA:(cnt:Int)<=((16777216:Nat):Int):=by omega
 have Ob:=ef Tb
 have sZ:(List.replicate cnt [AV.int .i64 0]).length=cnt:=List.length_replicate
 have m1:min 1 cnt=1:=by omega
 (repeat(first|((repeat(revert hN;revert N;apply Pn.out));refine wk (tw @w0 (tw @w1 (tw @w2 (tw @g1 (tw @g2 (tw @jk (tw @oA (tw @Int.le_refl (tw @Nat.le_refl (tw @hx (tw @Ob (tw @sZ @m1)))))))))))) ?_;(repeat(refine Pn.mk ?_;intro N hN)))|((try apply Or.inl);refine⟨_,aq.x (h) (sd (tw @w0 (tw @w1 (tw @w2 (tw @g1 (tw @g2 (tw @jk (tw @oA (tw @Int.le_refl (tw @Nat.le_refl (tw @hx (tw @Ob (tw @sZ @m1))))))))))))),?_⟩;refine hN _ _ ?_;clear hN N)))
 refine aM (fun m env st=>∃k:Nat,m=cnt-k/\1<=k/\k<=cnt/\env 8=.int .i64 (k:Int)/\st.get ⟨327006002,σ.next+1+1+1+1⟩=some ⟨true,1,List.replicate k [.int .i64 v]++List.replicate (cnt-k) [.int .i64 0]⟩/\σ.next+4<st.next/\∀i:Id,i.bt<σ.next->st.get i=σ.get i) (cnt-1) ⟨1,rfl,Nat.le_refl _,qP,by(simp only[go_sem, ↓reduceIte,Nat.reduceEqDiff,Nat.reduceAdd,Nat.reduceSub,Nat.reduceLeDiff,reduceCtorEq,m1])<;>rfl,?_,by(try dsimp only);omega,fun i hi=>?_⟩ ?_
 ·simp only[go_sem, ↓reduceIte,Nat.reduceEqDiff,Nat.reduceAdd,Nat.reduceSub,Nat.reduceLeDiff,reduceCtorEq]
  rw[List.drop_replicate];rfl
 ·have Cn:=ef hi
  simp only[go_sem, ↓reduceIte,Nat.reduceEqDiff,Nat.reduceAdd,Nat.reduceSub,Nat.reduceLeDiff,reduceCtorEq,Cn]
 rintro m env_b st_b ⟨k,rfl,ph,rl,b8,bg,bn,eP⟩ bkp
 have b7:=bkp 7 (by kernel_rfl)
 simp only[go_sem, ↓reduceIte,Nat.reduceEqDiff,Nat.reduceAdd,Nat.reduceSub,Nat.reduceLeDiff,reduceCtorEq]at b7
 clear bkp
 have Pz:(List.replicate k [AV.int .i64 v]++List.replicate (cnt-k) [AV.int .i64 0]).length=cnt:=by simp;omega
 by_cases hk:(k:Int)<(cnt:Int)
 ·have eV:k<cnt:=by omega
  have u7:(k:Int)<=(cnt:Int):=by omega
  have hw:IntKind.i64.wrap ((k:Int)+((min k (cnt-k):Nat):Int))=((k+min k (cnt-k):Nat):Int):=by rw[bz (by omega)];omega
  have nC:List.take k (List.replicate k [AV.int .i64 v]++List.replicate (cnt-k) [AV.int .i64 0])=List.replicate k [AV.int .i64 v]:=List.take_left' (by simp)
  have dy:(List.replicate k [AV.int .i64 v]).all (fun c=>c.length==1&&c.all AV.cell)=true:=List.all_eq_true.2 fun c hc=>by rw[List.eq_of_mem_replicate hc];rfl
  have hlr:(List.replicate k [AV.int .i64 v]).length=k:=List.length_replicate
  have S3:k+(cnt-k)=cnt:=by omega
  have qd:List.replicate k [AV.int .i64 v]++List.take (min k (cnt-k)) (List.replicate k [AV.int .i64 v])++List.drop (k+min k (cnt-k)) (List.replicate k [AV.int .i64 v]++List.replicate (cnt-k) [AV.int .i64 0])=List.replicate (k+min k (cnt-k)) [AV.int .i64 v]++List.replicate (cnt-(k+min k (cnt-k))) [AV.int .i64 0]:=by
   rw[List.take_replicate,List.drop_append,List.drop_of_length_le (by simp),List.nil_append,hlr,List.drop_replicate,List.replicate_append_replicate]
   congr 2
   ·omega
   ·omega
  (try((repeat(revert hN;revert N;apply Pn.out));refine wk (tw @b7 (tw @b8 (tw @bg (tw @Pz (tw @hk (tw @u7 (tw @rl (tw @hw (tw @eV (tw @Nat.sub_zero (tw @nC (tw @dy (tw @hlr (tw @S3 (tw @Nat.le_refl @qd))))))))))))))) ?_;(repeat(refine Pn.mk ?_;intro N hN))))
  refine⟨_,?_,k+min k (cnt-k),rfl,by omega,by omega,sd @hw,sd @qd,by(try dsimp only);omega,fun i hi=>?_⟩
  ·omega
  ·have Cn:=ef hi
   have:=eP i hi
   simp only[go_sem, ↓reduceIte,Nat.reduceEqDiff,Nat.reduceAdd,Nat.reduceSub,Nat.reduceLeDiff,reduceCtorEq,Cn,this]
 ·have jy:k=cnt:=by omega
  subst jy
  (try((repeat(revert hN;revert N;apply Pn.out));refine wk (tw @b7 (tw @b8 (tw @bg (tw @Pz @hk)))) ?_;(repeat(refine Pn.mk ?_;intro N hN))))
  refine gQ (.inl rfl) (vs:=[.own ⟨327006002,σ.next+1+1+1+1⟩ 0 k]) (sd @Nat.zero_add) ⟨⟨327006002,σ.next+1+1+1+1⟩,rfl,by simp only[go_sem, ↓reduceIte,Nat.reduceEqDiff,Nat.reduceAdd,Nat.reduceSub,Nat.reduceLeDiff,reduceCtorEq,bg];simp,by(try dsimp only);omega,by(try dsimp only);omega,fun i hi=>eP i hi⟩
end Go.Proofs.YtgoljkjaameagaaGreat.V

namespace Go.Proofs.YtgoljkjaameagaaGreat.V
open Go.RowKit
attribute [local irreducible] ej wpOps fQ Call
attribute [local go_sem] aH fq eD fH fG cV upd bZ K.av cC AV.cells AV.cell rowOf rowsOf part ld rowAt bK bR du dQ gE bB cR eb fF eL dh dV cP cN dD dE bF aT cG bE cI cH dS dW dU cF bJ cQ dR bD aJ cK cm gD bd cz bG aP dn aX dv AV.undef bj bx dG dO dz dF cu ea ei ck dY dX cJ cL List.getD_cons_zero List.getD_cons_succ List.getD_nil List.all_cons List.all_nil Bool.and_true Bool.true_and Bool.and_self Bool.not_true Bool.not_false Option.map_some Option.map_none Option.bind_some Option.bind_none List.length_cons List.length_nil List.take_succ_cons List.take_zero List.take_nil List.drop_succ_cons List.drop_zero List.drop_nil List.head?_cons List.map_cons List.map_nil List.getElem?_cons_zero List.getElem?_cons_succ List.cons_append List.nil_append List.append_nil List.length_map List.set_cons_zero List.set_cons_succ Nat.reduceMul eq_self Int.toNat_natCast Int.natCast_nonneg and_self true_and and_true decide_true decide_false Bool.false_eq_true Nat.zero_add Nat.add_zero List.contains_cons List.contains_nil Bool.or_false Bool.false_or beq_self_eq_true Nat.reduceBEq ne_eq not_true_eq_false not_false_eq_true Id.mk.injEq false_and and_false Nat.reduceLT Int.reduceLE Int.reduceLT Int.reduceToNat Int.reduceNeg Int.reduceAdd Nat.le_refl List.length_append beq_true beq_false Bool.not_eq_eq_eq_not or_false false_or eo aj ar aK aV bp bW aQ aZ aN aU cD bI
def kG (R:Nat->Id) (n k:Nat):List (List AV):=(List.range k).map fun i=>[.own (R i) 0 n]
theorem jK (R:Nat->Id) (n k:Nat):(kG R n k).length=k:=by simp[kG]
theorem qF {R:Nat->Id} {n k i:Nat} (h:i<k):(kG R n k)[i]? =some [.own (R i) 0 n]:=by simp[kG,h]
theorem rM (R:Nat->Id) (n k:Nat):kG R n (k+1)=kG R n k++[[.own (R k) 0 n]]:=by simp[kG,List.range_succ]
def vV (c:Nat->Nat->Int) (n:Nat):List (List AV):=(List.range n).map fun i=>[.sl (dP (c i) n)]
theorem AO {c:Nat->Nat->Int} {n i:Nat} (h:i<n):(vV c n)[i]? =some [.sl (dP (c i) n)]:=by simp[vV,h]
theorem uQ (c:Nat->Nat->Int) (n:Nat):(vV c n).length=n:=by simp[vV]
structure Gy (X o1 o2:Id) (R1 R2:Nat->Id) (n nb:Nat):Prop where
 sx:X.site=299001001
 s1:o1.site=299004008
 s2:o2.site=299005008
 Rg:∀i,i<n->(R1 i).site=299004006
 Lq:∀i,i<n->(R2 i).site=299005006
 i1:∀i j,i<n->j<n->R1 i=R1 j->i=j
 i2:∀i j,i<n->j<n->R2 i=R2 j->i=j
 vx:X.bt<nb
 v1:o1.bt<nb
 v2:o2.bt<nb
 Tj:∀i,i<n->(R1 i).bt<nb
 Qd:∀i,i<n->(R2 i).bt<nb
structure oV (g:Rows) (X o1 o2:Id) (R1 R2:Nat->Id) (n:Nat) (c f:Nat->Nat->Int):Prop where
 x:g X=some ⟨true,2,[[.own o1 0 n,.own o2 0 n]]⟩
 t1:g o1=some ⟨true,1,kG R1 n n⟩
 t2:g o2=some ⟨true,1,kG R2 n n⟩
 r1:∀i,i<n->g (R1 i)=some ⟨true,1,dP (c i) n⟩
 r2:∀i,i<n->g (R2 i)=some ⟨true,1,dP (f i) n⟩
theorem np {f:Nat->Nat->Int} {a b:Nat} {d:Int} {n:Nat} (hb:b<n):(dP (f a) n).set b (aA (f a b+d))=dP (bump f a b d a) n:=kH hb (by simp[bump]) fun i _ hi=>by simp[bump,hi]
theorem jE {f:Nat->Nat->Int} {a b i:Nat} {d:Int} (h:i≠a):bump f a b d i=f i:=by funext v;simp[bump,h]
theorem oV.add {g g':Rows} {X o1 o2:Id} {R1 R2:Nat->Id} {n nb:Nat} {c f:Nat->Nat->Int} (I:Gy X o1 o2 R1 R2 n nb) (h:oV g X o1 o2 R1 R2 n c f) (b:PB) (ha:b.a<n) (hb:b.b<n) (hA:b.a≠b.b->g' (R1 b.a)=some ⟨true,1,dP (bump c b.a b.b b.s b.a) n⟩) (hB:g' (R1 b.b)=some ⟨true,1,dP (mH c b b.b) n⟩) (hf:∀i:Id,i.bt<nb->(i=R1 b.a)=False->(i=R1 b.b)=False->g' i=g i):oV g' X o1 o2 R1 R2 n (mH c b) f:=by
 have ne:∀{i:Id} {s:Nat},i.site=s->(s==299004006)=false->∀a,a<n->(i=R1 a)=False:=fun {i s} hi hs a ha=>by
  simp only[eq_iff_iff,iff_false]
  rintro rfl
  rw[I.Rg a ha]at hi
  subst hi
  simp at hs
 refine⟨(hf _ I.vx (ne I.sx (by decide) _ ha) (ne I.sx (by decide) _ hb)).trans h.x,(hf _ I.v1 (ne I.s1 (by decide) _ ha) (ne I.s1 (by decide) _ hb)).trans h.t1,(hf _ I.v2 (ne I.s2 (by decide) _ ha) (ne I.s2 (by decide) _ hb)).trans h.t2,fun i hi=>?_,fun i hi=>(hf _ (I.Qd i hi) (ne (I.Lq i hi) (by decide) _ ha) (ne (I.Lq i hi) (by decide) _ hb)).trans (h.r2 i hi)⟩
 by_cases DR:i=b.b
 ·subst DR;exact hB
 ·by_cases Gh:i=b.a
  ·subst Gh
   rw[hA DR,mH,jE DR]
  ·rw[mH,jE DR,jE Gh,hf _ (I.Tj i hi) (by simp only[eq_iff_iff,iff_false];exact fun he=>Gh (I.i1 i _ hi ha he)) (by simp only[eq_iff_iff,iff_false];exact fun he=>DR (I.i1 i _ hi hb he))]
   exact h.r1 i hi
def kV (n:Nat) (c f:Nat->Nat->Int):List AV:=[.sl (vV c n),.sl (vV f n)]
theorem Eh {g:Rows} {R:Nat->Id} {n k:Nat} {c:Nat->Nat->Int} (h:∀i,i<k->g (R i)=some ⟨true,1,dP (c i) n⟩) (m:Nat):eh (eo g) (m+3) (kG R n k)=some ((List.range k).map fun i=>[.sl (dP (c i) n)]):=by
 induction k with
 |zero=>rw[show kG R n 0=[]from rfl,eh];rfl
 |succ k ih=>
  have e1:V.fz (eo g) (m+3) (.own (R k) 0 n)=some (.sl (dP (c k) n)):=by
   rw[iv];simp only[eo,h k (by omega),Option.map_some,if_true]
   rw[if_pos (by rw[dw];omega),List.drop_zero,List.take_of_length_le (by rw[dw];omega),yK];rfl
  have app:∀(xs ys:List (List AV)) (Rl Qp:List (List AV)),eh (eo g) (m+3) xs=some Rl->eh (eo g) (m+3) ys=some Qp->eh (eo g) (m+3) (xs++ys)=some (Rl++Qp):=by
   intro xs
   induction xs with
   |nil=>intro ys Rl Qp h1 h2;rw[eh]at h1;cases h1;exact h2
   |cons a xs ih2=>
    intro ys Rl Qp h1 h2
    rw[eh]at h1
    rw[List.cons_append,eh]
    cases ha:dj (eo g) (m+3) a with
    |none=>simp[ha]at h1
    |some a'=>
     cases hb:eh (eo g) (m+3) xs with
     |none=>simp[ha,hb]at h1
     |some b'=>
      simp[ha,hb]at h1
      subst h1
      rw[ih2 ys b' Qp hb h2];rfl
  rw[rM,List.range_succ,List.map_append]
  refine app _ _ _ _ (ih fun i hi=>h i (by omega)) ?_
  rw[eh,aj,ar,e1,eh];rfl
theorem oV.fz {g:Rows} {X o1 o2:Id} {R1 R2:Nat->Id} {n:Nat} {c f:Nat->Nat->Int} (h:oV g X o1 o2 R1 R2 n c f):V.fz (eo g) 6 (.ptr X 0 0)=some (.dd (kV n c f)):=by
 refine xI (sz:=2) (rows:=[[.own o1 0 n,.own o2 0 n]]) (by simp[eo,h.x]) rfl ?_
 have e1:V.fz (eo g) 5 (.own o1 0 n)=some (.sl (vV c n)):=by
  rw[iv];simp only[eo,h.t1,Option.map_some,if_true]
  rw[if_pos (by rw[jK];omega),List.drop_zero,List.take_of_length_le (by rw[jK];omega)]
  rw[show eh _ 4 _=some (vV c n)from Eh h.r1 1];rfl
 have e2:V.fz (eo g) 5 (.own o2 0 n)=some (.sl (vV f n)):=by
  rw[iv];simp only[eo,h.t2,Option.map_some,if_true]
  rw[if_pos (by rw[jK];omega),List.drop_zero,List.take_of_length_le (by rw[jK];omega)]
  rw[show eh _ 4 _=some (vV f n)from Eh h.r2 1];rfl
 simp only[List.drop_zero,aj,ar,e1,e2,kV,Option.map_some]
theorem L4 (n:Nat) (c f:Nat->Nat->Int) (u v:Nat) (hu:u<n) (hv:v<n):aq Tryz.prog 328 [.dd (kV n c f),.int .i64 u,.int .i64 v] (.bool (decide (f u v<c u v))):=by
 refine aq.body eE rfl fun hl n0=>?_
 clear hl
 have h1:=AO (c:=c) hu
 have h2:=AO (c:=f) hu
 have h3:=dH (f:=c u) hv
 have h4:=dH (f:=f u) hv
 have hui:(u:Int)<(n:Int):=by omega
 have Cn:(v:Int)<(n:Int):=by omega
 have l1:=uQ c n
 have l2:=uQ f n
 have l3:=dw (c u) n
 have l4:=dw (f u) n
 rw[aA]at h3 h4
 (try((repeat(revert hN;revert N;apply Pn.out));refine wk (tw @kV.eq_1 (tw @h1 (tw @h2 (tw @h3 (tw @h4 (tw @hui (tw @Cn (tw @l1 (tw @l2 (tw @l3 @l4)))))))))) ?_;(repeat(refine Pn.mk ?_;intro N hN))))
 exact aL (b:=decide (f u v<c u v)) (.inl rfl) (sd @Nat.zero_add) rfl
theorem F0 (n:Nat):List.replicate n [AV.int .i64 0]=dP (fun _=>0) n:=by
 refine List.ext_getElem? fun i=>?_
 by_cases h:i<n
 ·rw[dH h,List.getElem?_replicate,if_pos h];rfl
 ·rw[List.getElem?_eq_none (by simp;omega),List.getElem?_eq_none (by rw[dw];omega)]
theorem yH {i j:Id} {s t:Nat} (hi:i.site=s) (hj:j.site=t) (h:(s==t)=false):(i=j)=False/\(j=i)=False:=by
 constructor<;>(simp only[eq_iff_iff,iff_false];rintro rfl;rw[hi]at hj;subst hj;simp at h)
theorem AA (cnt:Nat) (qP:1<=cnt) (hn:cnt<=1048576) (bs:List PB) (hb:∀b∈bs,b.a<cnt/\b.b<cnt) (dL:∀b∈bs,0<=b.s/\b.s<=4) (mM:bs.length<=1048576) (σ:ax):
  Call Tryz.prog 299 [.int .i64 cnt,.sl (bs.map ay)] σ fun r σ'=>∃X o1 o2 R1 R2,r=.ptr X 0 0/\Gy X o1 o2 R1 R2 cnt σ'.next/\σ.next<=σ'.next/\oV σ'.get X o1 o2 R1 R2 cnt (kB bs) (fun _ _=>0)/\∀i:Id,i.bt<σ.next->σ'.get i=σ.get i:=by
 refine iq eE rfl fun hl=>?_
 clear hl
 (try((repeat(revert hN;revert N;apply Pn.out));refine wk @Nat.zero_add ?_;(repeat(refine Pn.mk ?_;intro N hN))))
 obtain⟨X,hX⟩:∃X:Id,X=⟨299001001,σ.next+1⟩:=⟨_,rfl⟩
 obtain⟨R1,R9⟩:∃R:Nat->Id,R=fun k=>⟨299004006,σ.next+3+4*k+1⟩:=⟨_,rfl⟩
 obtain⟨R2,Sa⟩:∃R:Nat->Id,R=fun k=>⟨299005006,σ.next+3+4*k+2⟩:=⟨_,rfl⟩
 have sX:X.site=299001001:=by rw[hX]
 have vX:X.bt=σ.next+1:=by rw[hX]
 have s1:∀k,(R1 k).site=299004006:=fun k=>by rw[R9]
 have s2:∀k,(R2 k).site=299005006:=fun k=>by rw[Sa]
 have v1:∀k,(R1 k).bt=σ.next+3+4*k+1:=fun k=>by rw[R9]
 have v2:∀k,(R2 k).bt=σ.next+3+4*k+2:=fun k=>by rw[Sa]
 have jk:(0:Int)<=(cnt:Int):=by omega
 have oA:(cnt:Int)<=((16777216:Nat):Int):=by omega
 have hz:=F0 cnt
 have t1:kG R1 cnt 0=[]:=rfl
 have t2:kG R2 cnt 0=[]:=rfl
 refine aM (fun n env st=>∃k:Nat,n=(cnt)-k/\k<=(cnt)/\env 11=.int .i64 (k:Int)/\env 5=(.ptr X 0 0)/\(st.next=σ.next+3+4*k/\(∀i:Id,i.bt<σ.next->st.get i=σ.get i)/\∀j,j<k->st.get (R1 j)=some ⟨true,1,dP (fun _=>0) cnt⟩/\st.get (R2 j)=some ⟨true,1,dP (fun _=>0) cnt⟩)/\((k=0/\st.get X=some ⟨true,2,[[.cq,.cq]]⟩)∨∃o1 o2:Id,o1.site=299004008/\o2.site=299005008/\o1.bt<st.next/\o2.bt<st.next/\σ.next<=o1.bt/\σ.next<=o2.bt/\st.get X=some ⟨true,2,[[.own o1 0 k,.own o2 0 k]]⟩/\st.get o1=some ⟨true,1,kG R1 cnt k⟩/\st.get o2=some ⟨true,1,kG R2 cnt k⟩)) (cnt) ⟨0,by omega,by omega,sl @hX,sl @hX,⟨rfl,fun i hi=>by(have Cn:=ef hi);simp only[go_sem, ↓reduceIte,Nat.reduceEqDiff,Nat.reduceAdd,Nat.reduceSub,Nat.reduceLeDiff,reduceCtorEq,Cn],fun j hj=>absurd hj (Nat.not_lt_zero j)⟩,.inl ⟨rfl,by rw[hX];simp only[go_sem, ↓reduceIte,Nat.reduceEqDiff,Nat.reduceAdd,Nat.reduceSub,Nat.reduceLeDiff,reduceCtorEq]⟩⟩ ?_
 rintro n_a env_a st_a ⟨k,rfl,ale,a11,a5,mE,aI1⟩ dq
 have a0:=dq 0 (by kernel_rfl);have a1:=dq 1 (by kernel_rfl);have mu:=dq 10 (by kernel_rfl)
 simp only[go_sem, ↓reduceIte,Nat.reduceEqDiff,Nat.reduceAdd,Nat.reduceSub,Nat.reduceLeDiff,reduceCtorEq,hX]at a0 a1 mu
 clear dq
 obtain⟨anx,dq,aR⟩:=mE
 have wX:=ef (i:=X) (n:=st_a.next) (by omega)
 by_cases hk:(k:Int)<(cnt:Int)
 ·have cE:∀{e:Env} {gg:Rows} {nx:Nat},(e 11=.int .i64 (IntKind.i64.wrap ((k:Int)+1)))->(e 5=(.ptr X 0 0))->(nx=σ.next+3+4*(k+1)/\(∀i:Id,i.bt<σ.next->gg i=σ.get i)/\∀j,j<(k+1)->gg (R1 j)=some ⟨true,1,dP (fun _=>0) cnt⟩/\gg (R2 j)=some ⟨true,1,dP (fun _=>0) cnt⟩)->(((k+1)=0/\gg X=some ⟨true,2,[[.cq,.cq]]⟩)∨∃o1 o2:Id,o1.site=299004008/\o2.site=299005008/\o1.bt<nx/\o2.bt<nx/\σ.next<=o1.bt/\σ.next<=o2.bt/\gg X=some ⟨true,2,[[.own o1 0 (k+1),.own o2 0 (k+1)]]⟩/\gg o1=some ⟨true,1,kG R1 cnt (k+1)⟩/\gg o2=some ⟨true,1,kG R2 cnt (k+1)⟩)->∃m0,m0<(cnt)-k/\∃k:Nat,m0=(cnt)-k/\k<=(cnt)/\e 11=.int .i64 (k:Int)/\e 5=(.ptr X 0 0)/\(nx=σ.next+3+4*k/\(∀i:Id,i.bt<σ.next->gg i=σ.get i)/\∀j,j<k->gg (R1 j)=some ⟨true,1,dP (fun _=>0) cnt⟩/\gg (R2 j)=some ⟨true,1,dP (fun _=>0) cnt⟩)/\((k=0/\gg X=some ⟨true,2,[[.cq,.cq]]⟩)∨∃o1 o2:Id,o1.site=299004008/\o2.site=299005008/\o1.bt<nx/\o2.bt<nx/\σ.next<=o1.bt/\σ.next<=o2.bt/\gg X=some ⟨true,2,[[.own o1 0 k,.own o2 0 k]]⟩/\gg o1=some ⟨true,1,kG R1 cnt k⟩/\gg o2=some ⟨true,1,kG R2 cnt k⟩):=fun x1 x2 x3 x4=>⟨_,by omega,k+1,rfl,by omega,(by rw[x1,aB (by omega)]),x2,x3,x4⟩
  have eV:k<cnt:=by omega
  have ph:R1 k=⟨299004006,st_a.next+1⟩:=by rw[R9,anx]
  have rl:R2 k=⟨299005006,st_a.next+1+1⟩:=by rw[Sa,anx]
  have I6:kG R1 cnt (k+1)=kG R1 cnt k++[[.own ⟨299004006,st_a.next+1⟩ 0 cnt]]:=by rw[rM,ph]
  have N8:kG R2 cnt (k+1)=kG R2 cnt k++[[.own ⟨299005006,st_a.next+1+1⟩ 0 cnt]]:=by rw[rM,rl]
  rcases aI1 with⟨rfl,Ou⟩|⟨o1,o2,so1,so2,vo1,vo2,vn1,vn2,Ou,ag1,ag2⟩
  ·(try((repeat(revert hN;revert N;apply Pn.out));refine wk (tw @a11 (tw @a5 (tw @a0 (tw @a1 (tw @mu (tw @hk (tw @wX (tw @Ou (tw @jk (tw @oA (tw @Int.le_refl @hz))))))))))) ?_;(repeat(refine Pn.mk ?_;intro N hN))))
   refine cE ?_ ?_ (by
    (try dsimp only)
    refine⟨by omega,fun i hi=>?_,fun j hj=>?_⟩
    ·have q1:=ef (i:=i) (n:=st_a.next) (by omega)
     have q2:=dI (a:=i) (b:=X) (by omega)
     have:=dq i hi
     simp only[go_sem, ↓reduceIte,Nat.reduceEqDiff,Nat.reduceAdd,Nat.reduceSub,Nat.reduceLeDiff,reduceCtorEq,q1,q2,this]
    ·by_cases wK:j=0
     ·subst wK
      rw[ph,rl]
      have q1:=fZ sX (b:=299004006) (v:=st_a.next+1) (by decide)
      have q2:=fZ sX (b:=299005006) (v:=st_a.next+1+1) (by decide)
      simp only[go_sem, ↓reduceIte,Nat.reduceEqDiff,Nat.reduceAdd,Nat.reduceSub,Nat.reduceLeDiff,reduceCtorEq,q1,q2]
     ·obtain⟨r1,r2⟩:=aR j (by omega)
      have q1:=ef (i:=R1 j) (n:=st_a.next) (by rw[v1];omega)
      have q2:=ef (i:=R2 j) (n:=st_a.next) (by rw[v2];omega)
      have q3:=yH (s1 j) sX (by decide)
      have q4:=yH (s2 j) sX (by decide)
      constructor
      ·simp only[go_sem, ↓reduceIte,Nat.reduceEqDiff,Nat.reduceAdd,Nat.reduceSub,Nat.reduceLeDiff,reduceCtorEq,q1,q3,r1]
      ·simp only[go_sem, ↓reduceIte,Nat.reduceEqDiff,Nat.reduceAdd,Nat.reduceSub,Nat.reduceLeDiff,reduceCtorEq,q2,q4,r2]) (.inr ⟨⟨299004008,st_a.next+1⟩,⟨299005008,st_a.next+1+1⟩,rfl,rfl,by(try dsimp only);omega,by(try dsimp only);omega,by(try dsimp only);omega,by(try dsimp only);omega,sd @wX,by rw[I6,t1];simp only[go_sem, ↓reduceIte,Nat.reduceEqDiff,Nat.reduceAdd,Nat.reduceSub,Nat.reduceLeDiff,reduceCtorEq,wX,List.nil_append],by rw[N8,t2];simp only[go_sem, ↓reduceIte,Nat.reduceEqDiff,Nat.reduceAdd,Nat.reduceSub,Nat.reduceLeDiff,reduceCtorEq,wX,List.nil_append]⟩)
   all_goals simp only[go_sem, ↓reduceIte,Nat.reduceEqDiff,Nat.reduceAdd,Nat.reduceSub,Nat.reduceLeDiff,reduceCtorEq,a11,a5,a0,a1,mu,wX]
  ·have l1:=jK R1 cnt k
   have l2:=jK R2 cnt k
   have e1:k+1<=16777216:=by omega
   have w1:=ef vo1
   have w2:=ef vo2
   have x1:=yH sX so1 (by decide)
   have x2:=yH sX so2 (by decide)
   have x3:=yH so1 so2 (by decide)
   (try((repeat(revert hN;revert N;apply Pn.out));refine wk (tw @a11 (tw @a5 (tw @a0 (tw @a1 (tw @mu (tw @hk (tw @wX (tw @Ou (tw @ag1 (tw @ag2 (tw @l1 (tw @l2 (tw @e1 (tw @w1 (tw @w2 (tw @x1 (tw @x2 (tw @x3 (tw @jk (tw @oA (tw @Int.le_refl @hz))))))))))))))))))))) ?_;(repeat(refine Pn.mk ?_;intro N hN))))
   refine cE ?_ ?_ (by
    (try dsimp only)
    refine⟨by omega,fun i hi=>?_,fun j hj=>?_⟩
    ·have q1:=ef (i:=i) (n:=st_a.next) (by omega)
     have q2:=dI (a:=i) (b:=X) (by omega)
     have q3:=dI (a:=i) (b:=o1) (by omega)
     have q4:=dI (a:=i) (b:=o2) (by omega)
     have:=dq i hi
     simp only[go_sem, ↓reduceIte,Nat.reduceEqDiff,Nat.reduceAdd,Nat.reduceSub,Nat.reduceLeDiff,reduceCtorEq,q1,q2,this,q3,q4]
    ·by_cases wK:j=k
     ·subst wK
      rw[ph,rl]
      have q1:=fZ sX (b:=299004006) (v:=st_a.next+1) (by decide)
      have q2:=fZ sX (b:=299005006) (v:=st_a.next+1+1) (by decide)
      simp only[go_sem, ↓reduceIte,Nat.reduceEqDiff,Nat.reduceAdd,Nat.reduceSub,Nat.reduceLeDiff,reduceCtorEq,q1,q2,w1,w2]
     ·obtain⟨r1,r2⟩:=aR j (by omega)
      have q1:=ef (i:=R1 j) (n:=st_a.next) (by rw[v1];omega)
      have q2:=ef (i:=R2 j) (n:=st_a.next) (by rw[v2];omega)
      have q3:=yH (s1 j) sX (by decide)
      have q4:=yH (s2 j) sX (by decide)
      have q5:=yH (s1 j) so1 (by decide)
      have q6:=yH (s1 j) so2 (by decide)
      have q7:=yH (s2 j) so1 (by decide)
      have q8:=yH (s2 j) so2 (by decide)
      constructor
      ·simp only[go_sem, ↓reduceIte,Nat.reduceEqDiff,Nat.reduceAdd,Nat.reduceSub,Nat.reduceLeDiff,reduceCtorEq,q1,q3,r1,q5,q6]
      ·simp only[go_sem, ↓reduceIte,Nat.reduceEqDiff,Nat.reduceAdd,Nat.reduceSub,Nat.reduceLeDiff,reduceCtorEq,q2,q4,r2,q7,q8]) (.inr ⟨⟨299004008,st_a.next+1⟩,⟨299005008,st_a.next+1+1⟩,rfl,rfl,by(try dsimp only);omega,by(try dsimp only);omega,by(try dsimp only);omega,by(try dsimp only);omega,sd @wX,by rw[I6];simp only[go_sem, ↓reduceIte,Nat.reduceEqDiff,Nat.reduceAdd,Nat.reduceSub,Nat.reduceLeDiff,reduceCtorEq,wX,w1,w2],by rw[N8];simp only[go_sem, ↓reduceIte,Nat.reduceEqDiff,Nat.reduceAdd,Nat.reduceSub,Nat.reduceLeDiff,reduceCtorEq,wX,w1,w2]⟩)
   all_goals simp only[go_sem, ↓reduceIte,Nat.reduceEqDiff,Nat.reduceAdd,Nat.reduceSub,Nat.reduceLeDiff,reduceCtorEq,a11,a5,a0,a1,mu,wX,w1,w2,x1,x2,x3]
 have jy:cnt=k:=by omega
 subst jy
 rcases aI1 with⟨h0,_⟩|⟨o1,o2,so1,so2,vo1,vo2,vn1,vn2,Ou,ag1,ag2⟩
 ·omega
 (try((repeat(revert hN;revert N;apply Pn.out));refine wk (tw @a11 (tw @a5 (tw @a0 (tw @a1 (tw @mu @hk))))) ?_;(repeat(refine Pn.mk ?_;intro N hN))))
 have I:Gy X o1 o2 R1 R2 cnt st_a.next:=⟨sX,so1,so2,fun i _=>s1 i,fun i _=>s2 i,fun i j _ _ h=>by have:=v1 i;rw[h,v1]at this;omega,fun i j _ _ h=>by have:=v2 i;rw[h,v2]at this;omega,by omega,vo1,vo2,fun i hi=>by rw[v1];omega,fun i hi=>by rw[v2];omega⟩
 refine aM (fun n env st=>∃i:Nat,n=(bs.length)-i/\i<=(bs.length)/\env 38=.int .i64 (i:Int)/\(st_a.next<=st.next/\(∀x:Id,x.bt<σ.next->st.get x=σ.get x)/\oV st.get X o1 o2 R1 R2 cnt (kB (bs.take i)) (fun _ _=>0))) (bs.length) ⟨0,by omega,by omega,sl (tw @a11 (tw @a5 (tw @a0 (tw @a1 @mu)))),⟨by(try dsimp only);omega,dq,Ou,ag1,ag2,fun j hj=>(aR j hj).1,fun j hj=>(aR j hj).2⟩⟩ ?_
 rintro n_b env_b st_b ⟨i,rfl,ble,b38,bI0⟩ eP
 have b0:=eP 0 (by kernel_rfl);have b1:=eP 1 (by kernel_rfl);have b5:=eP 5 (by kernel_rfl);have NP:=eP 36 (by kernel_rfl);have NQ:=eP 37 (by kernel_rfl)
 simp only[go_sem, ↓reduceIte,Nat.reduceEqDiff,Nat.reduceAdd,Nat.reduceSub,Nat.reduceLeDiff,reduceCtorEq,a11,a5,a0,a1,mu]at b0 b1 b5 NP NQ
 clear eP
 obtain⟨bn,LQ,bM⟩:=bI0
 by_cases hi:(i:Int)<(bs.length:Int)
 ·have eY:∀{e:Env} {gg:Rows} {nx:Nat},(e 38=.int .i64 (IntKind.i64.wrap ((i:Int)+1)))->(st_a.next<=nx/\(∀x:Id,x.bt<σ.next->gg x=σ.get x)/\oV gg X o1 o2 R1 R2 cnt (kB (bs.take (i+1))) (fun _ _=>0))->∃m0,m0<(bs.length)-i/\∃i:Nat,m0=(bs.length)-i/\i<=(bs.length)/\e 38=.int .i64 (i:Int)/\(st_a.next<=nx/\(∀x:Id,x.bt<σ.next->gg x=σ.get x)/\oV gg X o1 o2 R1 R2 cnt (kB (bs.take i)) (fun _ _=>0)):=fun x1 x2=>⟨_,by omega,i+1,rfl,by omega,(by rw[x1,aB (by omega)]),x2⟩
  have e9:i<bs.length:=by omega
  have j3:(bs.map ay)[i]? =some (ay bs[i]):=by simp[e9]
  have fa:=hb _ (List.getElem_mem e9)
  have hsi:=dL _ (List.getElem_mem e9)
  have oE:kB (bs.take (i+1))=mH (kB (bs.take i)) bs[i]:=by rw[List.take_succ_eq_append_getElem e9,CQ]
  have pg:=yy (bs.take i) (fun _ _=>0) (fun b hb=>(dL b (List.mem_of_mem_take hb)).1) (fun _ _=>Int.le_refl _)
  have hle:=room_le (bs.take i) (fun _ _=>0) 0 (fun b hb=>(dL b (List.mem_of_mem_take hb)).2) (fun _ _=>Int.le_refl _) (Int.le_refl _)
  rw[List.length_take]at hle
  have fS:(bs.take i).foldl mH (fun _ _=>0)=kB (bs.take i):=rfl
  rw[fS]at pg hle
  generalize kB (bs.take i)=c at *
  generalize bs[i]=b at *
  obtain⟨ha,rf⟩:=fa
  have gA:=qF (R:=R1) (n:=cnt) ha
  have gB:=qF (R:=R1) (n:=cnt) rf
  have rA:=bM.r1 _ ha
  have rB:=bM.r1 _ rf
  have cA:=dH (f:=c b.a) rf
  have cB:=dH (f:=c b.b) ha
  have sA:=np (f:=c) (a:=b.a) (d:=b.s) rf
  have gX:=bM.x
  have g1:=bM.t1
  have gh:(b.a:Int)<(cnt:Int):=by omega
  have fa:(b.b:Int)<(cnt:Int):=by omega
  have qX:=ef (i:=X) (n:=st_b.next) (by omega)
  have q1:=ef (i:=o1) (n:=st_b.next) (by omega)
  have qA:=ef (i:=R1 b.a) (n:=st_b.next) (by rw[v1];omega)
  have qB:=ef (i:=R1 b.b) (n:=st_b.next) (by rw[v1];omega)
  have xA:=yH sX (s1 b.a) (by decide)
  have xB:=yH sX (s1 b.b) (by decide)
  have yA:=yH so1 (s1 b.a) (by decide)
  have yB:=yH so1 (s1 b.b) (by decide)
  have l1:=jK R1 cnt cnt
  have lA:=dw (c b.a) cnt
  have lB:=dw (c b.b) cnt
  have hAB:=hle b.a b.b
  have hBA:=hle b.b b.a
  have gAB:=pg b.a b.b
  have gBA:=pg b.b b.a
  have wA:IntKind.i64.wrap (c b.a b.b+b.s)=c b.a b.b+b.s:=bz (by omega)
  by_cases mV:b.a=b.b
  ·obtain⟨ba,bb,s⟩:=b
   dsimp only at *
   subst mV
   have MJ:=np (f:=bump c ba ba s) (a:=ba) (b:=ba) (d:=s) (n:=cnt) ha
   have Sj:=dH (f:=bump c ba ba s ba) ha
   have hv:bump c ba ba s ba ba=c ba ba+s:=by simp[bump]
   have lC:=dw (bump c ba ba s ba) cnt
   have wB:IntKind.i64.wrap (c ba ba+s+s)=c ba ba+s+s:=bz (by omega)
   rw[hv]at MJ Sj
   have rh:mH c ⟨ba,ba,s⟩ ba=bump (bump c ba ba s) ba ba s ba:=rfl
   rw[aA]at cA sA MJ Sj
   (try((repeat(revert hN;revert N;apply Pn.out));refine wk (tw @b38 (tw @b0 (tw @b1 (tw @b5 (tw @NP (tw @NQ (tw @hi (tw @j3 (tw @ay.eq_1 (tw @gA (tw @rA (tw @cA (tw @sA (tw @gX (tw @g1 (tw @gh (tw @qX (tw @q1 (tw @qA (tw @xA (tw @yA (tw @l1 (tw @lA (tw @wA (tw @MJ (tw @Sj (tw @lC @wB))))))))))))))))))))))))))) ?_;(repeat(refine Pn.mk ?_;intro N hN))))
   exact eY (sd (tw @b38 (tw @b0 (tw @b1 (tw @b5 (tw @NP @NQ)))))) (by
    (try dsimp only)
    refine⟨by omega,fun x hx=>?_,?_⟩
    ·have p1:=ef (i:=x) (n:=st_b.next) (by omega)
     have p2:=dI (a:=x) (b:=R1 ba) (by rw[v1];omega)
     have:=LQ x hx
     simp only[go_sem, ↓reduceIte,Nat.reduceEqDiff,Nat.reduceAdd,Nat.reduceSub,Nat.reduceLeDiff,reduceCtorEq,p1,p2,this]
    ·rw[oE]
     refine bM.add I ⟨ba,ba,s⟩ ha ha (fun h=>absurd rfl h) ?_ fun x hx h1 h2=>?_
     ·rw[rh]
      simp only[go_sem, ↓reduceIte,Nat.reduceEqDiff,Nat.reduceAdd,Nat.reduceSub,Nat.reduceLeDiff,reduceCtorEq]
     ·have p1:=ef (i:=x) (n:=st_b.next) (by omega)
      (try dsimp only at h2)
      simp only[go_sem, ↓reduceIte,Nat.reduceEqDiff,Nat.reduceAdd,Nat.reduceSub,Nat.reduceLeDiff,reduceCtorEq,p1,h2])
  ·have gM:(R1 b.a=R1 b.b)=False:=by simp only[eq_iff_iff,iff_false];exact fun h=>mV (I.i1 _ _ ha rf h)
   have Hv:(R1 b.b=R1 b.a)=False:=by simp only[eq_iff_iff,iff_false];exact fun h=>mV (I.i1 _ _ ha rf h.symm)
   have MA:bump c b.a b.b b.s b.b=c b.b:=jE fun h=>mV h.symm
   have MJ:=np (f:=bump c b.a b.b b.s) (a:=b.b) (b:=b.a) (d:=b.s) (n:=cnt) ha
   rw[MA]at MJ
   have wB:IntKind.i64.wrap (c b.b b.a+b.s)=c b.b b.a+b.s:=bz (by omega)
   have rh:mH c b b.b=bump (bump c b.a b.b b.s) b.b b.a b.s b.b:=rfl
   rw[aA]at cA cB sA MJ
   (try((repeat(revert hN;revert N;apply Pn.out));refine wk (tw @b38 (tw @b0 (tw @b1 (tw @b5 (tw @NP (tw @NQ (tw @hi (tw @j3 (tw @ay.eq_1 (tw @gA (tw @gB (tw @rA (tw @rB (tw @cA (tw @cB (tw @sA (tw @gX (tw @g1 (tw @gh (tw @fa (tw @qX (tw @q1 (tw @qA (tw @qB (tw @xA (tw @xB (tw @yA (tw @yB (tw @l1 (tw @lA (tw @lB (tw @wA (tw @MJ (tw @wB (tw @gM @Hv))))))))))))))))))))))))))))))))))) ?_;(repeat(refine Pn.mk ?_;intro N hN))))
   exact eY (sd (tw @b38 (tw @b0 (tw @b1 (tw @b5 (tw @NP @NQ)))))) (by
    (try dsimp only)
    refine⟨by omega,fun x hx=>?_,?_⟩
    ·have p1:=ef (i:=x) (n:=st_b.next) (by omega)
     have p2:=dI (a:=x) (b:=R1 b.b) (by rw[v1];omega)
     have p3:=dI (a:=x) (b:=R1 b.a) (by rw[v1];omega)
     have:=LQ x hx
     simp only[go_sem, ↓reduceIte,Nat.reduceEqDiff,Nat.reduceAdd,Nat.reduceSub,Nat.reduceLeDiff,reduceCtorEq,p1,p2,p3,this]
    ·rw[oE]
     refine bM.add I b ha rf (fun h=>?_) ?_ fun x hx h1 h2=>?_
     ·simp only[go_sem, ↓reduceIte,Nat.reduceEqDiff,Nat.reduceAdd,Nat.reduceSub,Nat.reduceLeDiff,reduceCtorEq,gM]
     ·rw[rh]
      simp only[go_sem, ↓reduceIte,Nat.reduceEqDiff,Nat.reduceAdd,Nat.reduceSub,Nat.reduceLeDiff,reduceCtorEq,gM]
     ·have p1:=ef (i:=x) (n:=st_b.next) (by omega)
      simp only[go_sem, ↓reduceIte,Nat.reduceEqDiff,Nat.reduceAdd,Nat.reduceSub,Nat.reduceLeDiff,reduceCtorEq,p1,h1,h2])
 ·have mC:i=bs.length:=by omega
  subst mC
  rw[List.take_length]at bM
  (try((repeat(revert hN;revert N;apply Pn.out));refine wk (tw @b38 (tw @b0 (tw @b1 (tw @b5 (tw @NP (tw @NQ @hi)))))) ?_;(repeat(refine Pn.mk ?_;intro N hN))))
  exact gQ (.inl rfl) (vs:=[.ptr X 0 0]) (sd @Nat.zero_add) ⟨X,o1,o2,R1,R2,rfl,⟨I.sx,I.s1,I.s2,I.Rg,I.Lq,I.i1,I.i2,by have:=I.vx;(try dsimp only);omega,by have:=I.v1;(try dsimp only);omega,by have:=I.v2;(try dsimp only);omega,fun j hj=>by have:=I.Tj j hj;(try dsimp only);omega,fun j hj=>by have:=I.Qd j hj;(try dsimp only);omega⟩,by(try dsimp only);omega,bM,LQ⟩
end Go.Proofs.YtgoljkjaameagaaGreat.V

namespace Go.Proofs.YtgoljkjaameagaaGreat.V
structure Bq (n:Nat) (c f:Nat->Nat->Int) (x:Nat) (par:Nat->Int) (Q:List Nat) (i:Nat):Prop where
 nodup:Q.Nodup
 lt:∀v∈Q,v<n
 root:par x=(x:Int)
 mem:x∈Q
 iff:∀v,v<n->(0<=par v↔v∈Q)
 up:∀v∈Q,v≠x->∃u,u∈Q/\par v=(u:Int)/\Q.idxOf u<Q.idxOf v/\f u v<c u v
 done:∀j (_:j<i) (hl:j<Q.length) (v:Nat),v<n->f Q[j] v<c Q[j] v->v∈Q
 ile:i<=Q.length
section
variable {n:Nat} {c f:Nat->Nat->Int} {x:Nat} {par:Nat->Int} {Q:List Nat} {i:Nat}
theorem Bq.len (h:Bq n c f x par Q i):Q.length<=n:=nE n Q h.nodup h.lt
theorem Bq.start (hx:x<n):Bq n c f x (fun v=>if v=x then(x:Int)else -1) [x] 0:=by
 refine⟨by simp,fun v hv=>by simp at hv;omega,by simp,by simp,fun v hv=>?_,fun v hv gM=>absurd (by simpa using hv) gM,fun j hj=>by omega,by simp⟩
 by_cases h:v=x
 ·simp[h]
 ·simp[h]
theorem Bq.visit (h:Bq n c f x par Q i) (hi:i<Q.length) {v:Nat} (hv:v<n) (hp:par v<0) (hr:f Q[i] v<c Q[i] v):Bq n c f x (fun w=>if w=v then(Q[i]:Int)else par w) (Q++[v]) i:=by
 have S6:v∉Q:=fun hm=>by have:=(h.iff v hv).2 hm;omega
 have Tb:x≠v:=fun e=>S6 (e▸h.mem)
 have xS:∀u∈Q,(Q++[v]).idxOf u=Q.idxOf u:=fun u hu=>by rw[List.idxOf_append,if_pos hu]
 have tT:(Q++[v]).idxOf v=Q.length:=by rw[List.idxOf_append,if_neg S6];simp
 refine⟨?_,fun w hw=>?_,by simp only[if_neg Tb];exact h.root,by simp[h.mem],fun w hw=>?_,fun w hw gM=>?_,fun j hj hl w hw HB=>?_,by simp;omega⟩
 ·refine List.nodup_append.2 ⟨h.nodup,by simp,fun a ha b hb=>?_⟩
  rw[List.mem_singleton.1 hb]
  rintro rfl;exact S6 ha
 ·rcases List.mem_append.1 hw with hw|hw
  ·exact h.lt w hw
  ·rw[List.mem_singleton.1 hw];exact hv
 ·by_cases DU:w=v
  ·subst DU;simp
  ·rw[if_neg DU,h.iff w hw];simp[DU]
 ·by_cases DU:w=v
  ·subst DU
   refine⟨Q[i],by simp,by simp,?_,hr⟩
   rw[xS _ (List.getElem_mem hi),tT]
   exact List.idxOf_lt_length_of_mem (List.getElem_mem hi)
  ·have hwQ:w∈Q:=by
    rcases List.mem_append.1 hw with hw|hw
    ·exact hw
    ·exact absurd (List.mem_singleton.1 hw) DU
   obtain⟨u,h1,h2,h3,h4⟩:=h.up w hwQ gM
   exact⟨u,by simp[h1],by rw[if_neg DU];exact h2,by rw[xS u h1,xS w hwQ];exact h3,h4⟩
 ·have gq:j<Q.length:=by have:=h.ile;omega
  rw[List.getElem_append_left gq]at HB
  exact List.mem_append_left _ (h.done j hj gq w hw HB)
theorem Bq.next (h:Bq n c f x par Q i) (hi:i<Q.length) (dy:∀v,v<n->f Q[i] v<c Q[i] v->0<=par v):Bq n c f x par Q (i+1):=by
 refine⟨h.nodup,h.lt,h.root,h.mem,h.iff,h.up,fun j hj hl v hv hr=>?_,by omega⟩
 by_cases lK:j=i
 ·subst lK;exact(h.iff v hv).1 (dy v hv hr)
 ·exact h.done j (by omega) hl v hv hr
theorem Bq.cut (h:Bq n c f x par Q Q.length) {y:Nat} (hy:y<n) (hp:par y<0):∃S:Nat->Bool,S x=true/\S y=false/\∀u v,u<n->v<n->S u=true->S v=false->¬f u v<c u v:=by
 refine⟨fun v=>decide (v∈Q),by simp[h.mem],?_,fun u v hu hv h1 h2 hr=>?_⟩
 ·have:y∉Q:=fun hm=>by have:=(h.iff y hy).2 hm;omega
  simp[this]
 ·simp only[decide_eq_true_eq,decide_eq_false_iff_not]at h1 h2
  obtain⟨j,hj,rfl⟩:=List.getElem_of_mem h1
  exact h2 (h.done j hj hj v hv hr)
def tb (c f:Nat->Nat->Int) (Q:List Nat) (y k:Nat) (out:List Nat):Prop:=∃rest,out.reverse=k::rest/\(k::rest).getLast (by simp)=y/\pN f c (k::rest)/\(k::rest).Pairwise (fun a b=>Q.idxOf a<Q.idxOf b)/\∀v∈k::rest,v∈Q
theorem tb.start {y:Nat} (hy:y∈Q):tb c f Q y y [y]:=⟨[],rfl,rfl,trivial,by simp,by simpa using hy⟩
theorem tb.step {y k u:Nat} {out:List Nat} (h:tb c f Q y k out) (hu:u∈Q) (hi:Q.idxOf u<Q.idxOf k) (hr:f u k<c u k):tb c f Q y u (out++[u]):=by
 obtain⟨rest,h1,h2,h3,h4,h5⟩:=h
 refine⟨k::rest,by rw[List.reverse_append,h1];rfl,by rw[List.getLast_cons (by simp)];exact h2,⟨hr,h3⟩,?_,?_⟩
 ·refine List.pairwise_cons.2 ⟨fun b hb=>?_,h4⟩
  rcases List.mem_cons.1 hb with rfl|hb
  ·exact hi
  ·have:=(List.pairwise_cons.1 h4).1 b hb;omega
 ·intro v hv
  rcases List.mem_cons.1 hv with rfl|hv
  ·exact hu
  ·exact h5 v hv
theorem tb.len {y k:Nat} {out:List Nat} (h:tb c f Q y k out) (hq:∀v∈Q,v<n):out.length<=n:=by
 obtain⟨rest,h1,_,_,h4,h5⟩:=h
 rw[<-List.length_reverse,h1]
 refine nE n _ (h4.imp fun dJ he=>?_) fun v hv=>hq v (h5 v hv)
 subst he;omega
structure Oq (n:Nat) (c f:Nat->Nat->Int) (x y:Nat) (p:List Nat):Prop where
 way:∃r,p=x::r/\(x::r).getLast (by simp)=y
 nodup:p.Nodup
 room:pN f c p
 lt:∀v∈p,v<n
theorem tb.way {y:Nat} {out:List Nat} (h:tb c f Q y x out) (hq:∀v∈Q,v<n):Oq n c f x y out.reverse:=by
 obtain⟨rest,h1,h2,h3,h4,h5⟩:=h
 rw[h1]
 exact⟨⟨rest,rfl,h2⟩,h4.imp fun dJ he=>by subst he;omega,h3,fun v hv=>hq v (h5 v hv)⟩
end
end Go.Proofs.YtgoljkjaameagaaGreat.V

namespace Go.Proofs.YtgoljkjaameagaaGreat.V
open Go.RowKit
attribute [local irreducible] ej wpOps fQ Call
attribute [local go_sem] aH fq eD fH fG cV upd bZ K.av cC AV.cells AV.cell rowOf rowsOf part ld rowAt bK bR du dQ gE bB cR eb fF eL dh dV cP cN dD dE bF aT cG bE cI cH dS dW dU cF bJ cQ dR bD aJ cK cm gD bd cz bG aP dn aX dv AV.undef bj bx dG dO dz dF cu ea ei ck dY dX cJ cL List.getD_cons_zero List.getD_cons_succ List.getD_nil List.all_cons List.all_nil Bool.and_true Bool.true_and Bool.and_self Bool.not_true Bool.not_false Option.map_some Option.map_none Option.bind_some Option.bind_none List.length_cons List.length_nil List.take_succ_cons List.take_zero List.take_nil List.drop_succ_cons List.drop_zero List.drop_nil List.head?_cons List.map_cons List.map_nil List.getElem?_cons_zero List.getElem?_cons_succ List.cons_append List.nil_append List.append_nil List.length_map List.set_cons_zero List.set_cons_succ Nat.reduceMul eq_self Int.toNat_natCast Int.natCast_nonneg and_self true_and and_true decide_true decide_false Bool.false_eq_true Nat.zero_add Nat.add_zero List.contains_cons List.contains_nil Bool.or_false Bool.false_or beq_self_eq_true Nat.reduceBEq ne_eq not_true_eq_false not_false_eq_true Id.mk.injEq false_and and_false Nat.reduceLT Int.reduceLE Int.reduceLT Int.reduceToNat Int.reduceNeg Int.reduceAdd Nat.le_refl List.length_append beq_true beq_false Bool.not_eq_eq_eq_not or_false false_or eo aj ar aK aV bp bW aQ aZ aN aU cD bI
def lg (l:List Nat) (i x:Nat):Nat:=if x<i∨l.length-i<=x then l.getD (l.length-1-x) 0 else l.getD x 0
theorem xh (l:List Nat):l.map eN=dx (fun x=>l.getD x 0) l.length:=by
 refine List.ext_getElem? fun i=>?_
 by_cases h:i<l.length
 ·rw[e5 h,List.getElem?_map,List.getElem?_eq_getElem h];simp[List.getD_eq_getElem?_getD,h]
 ·rw[List.getElem?_eq_none (by simp;omega),List.getElem?_eq_none (by rw[fN];omega)]
theorem FL (l:List Nat):dx (lg l 0) l.length=l.map eN:=by
 rw[xh]
 exact gH fun x hx=>by unfold lg;rw[if_neg (by omega)]
theorem Ij (l:List Nat) {i:Nat} (h:l.length<=2*i+1) (hi:i<=l.length):dx (lg l i) l.length=l.reverse.map eN:=by
 rw[xh l.reverse,List.length_reverse]
 refine gH fun x hx=>?_
 have hr:l.reverse.getD x 0=l.getD (l.length-1-x) 0:=by
  rw[List.getD_eq_getElem?_getD,List.getElem?_reverse hx,List.getD_eq_getElem?_getD]
 rw[hr]
 unfold lg
 by_cases hc:x<i∨l.length-i<=x
 ·rw[if_pos hc]
 ·rw[if_neg hc]
  have:x=l.length-1-x:=by omega
  rw[<-this]
theorem FM (l:List Nat) (hp:0<l.length) (hl:l.length<=1048576) (o:Id) (σ:ax) (ho:σ.get o=some ⟨true,1,l.map eN⟩) (sY:o.bt<σ.next):
  Call Tryz.prog 329 [.own o 0 l.length] σ fun r σ'=>σ'.get o=some ⟨true,1,l.reverse.map eN⟩/\σ.next<=σ'.next/\∀i:Id,i.bt<σ.next->(i=o)=False->σ'.get i=σ.get i:=by
 refine iq eE rfl fun kM=>?_
 clear kM
 rw[<-FL]at ho
 have Ra:IntKind.i64.wrap ((l.length:Int)-1)=((l.length-1:Nat):Int):=by rw[bz (by omega)];omega
 (try((repeat(revert hN;revert N;apply Pn.out));refine wk @Ra ?_;(repeat(refine Pn.mk ?_;intro N hN))))
 refine aM (fun m env st=>∃i:Nat,m=l.length-i/\2*i<=l.length+1/\i<=l.length/\env 2=.int .i64 (i:Int)/\env 3=.int .i64 ((l.length:Int)-1-i)/\st.get o=some ⟨true,1,dx (lg l i) l.length⟩/\σ.next<=st.next/\∀x:Id,x.bt<σ.next->(x=o)=False->st.get x=σ.get x) l.length ⟨0,rfl,by omega,by omega,by(simp only[go_sem, ↓reduceIte,Nat.reduceEqDiff,Nat.reduceAdd,Nat.reduceSub,Nat.reduceLeDiff,reduceCtorEq])<;>rfl,by(simp only[go_sem, ↓reduceIte,Nat.reduceEqDiff,Nat.reduceAdd,Nat.reduceSub,Nat.reduceLeDiff,reduceCtorEq,Ra]);congr 1;omega,ho,by(try dsimp only);omega,fun x _ _=>rfl⟩ ?_
 rintro m env_b st_b ⟨i,rfl,wI,mC,b2,b3,bg,bn,eP⟩ bkp
 have b0:=bkp 0 (by kernel_rfl)
 simp only[go_sem, ↓reduceIte,Nat.reduceEqDiff,Nat.reduceAdd,Nat.reduceSub,Nat.reduceLeDiff,reduceCtorEq]at b0
 clear bkp
 have tl:=fN (lg l i) l.length
 have j9:=ef (i:=o) (n:=st_b.next) (by omega)
 by_cases hi:(i:Int)<(l.length:Int)-1-i
 ·have e9:i<l.length:=by omega
  obtain⟨j,hj⟩:∃j,j=l.length-1-i:=⟨_,rfl⟩
  have ll:j<l.length:=by omega
  have JH:(l.length:Int)-1-i=(j:Int):=by omega
  rw[JH]at b3 hi
  have g1:=e5 (f:=lg l i) e9
  have g2:=e5 (f:=lg l i) ll
  have e1:lg l i i=l.getD i 0:=by unfold lg;rw[if_neg (by omega)]
  have e2:lg l i j=l.getD j 0:=by unfold lg;rw[if_neg (by omega)]
  have Lf:(dx (lg l i) l.length).set i (eN (l.getD j 0))=dx (fun x=>if x=i then l.getD j 0 else lg l i x) l.length:=oi e9 (if_pos rfl) fun x _ hx=>if_neg hx
  have HC:(dx (fun x=>if x=i then l.getD j 0 else lg l i x) l.length).set j (eN (l.getD i 0))=dx (lg l (i+1)) l.length:=oi ll (by unfold lg;rw[if_pos (by omega)];congr 1;omega) fun x hx Oc=>by
   by_cases Bf:x=i
   ·rw[if_pos Bf];unfold lg;rw[if_pos (by omega)];congr 1;omega
   ·rw[if_neg Bf];unfold lg
    by_cases hc:x<i∨l.length-i<=x
    ·rw[if_pos hc,if_pos (by omega)]
    ·rw[if_neg hc,if_neg (by omega)]
  have Ri:=fN (fun x=>if x=i then l.getD j 0 else lg l i x) l.length
  have g3:=e5 (f:=fun x=>if x=i then l.getD j 0 else lg l i x) ll
  rw[e1]at g1
  rw[e2]at g2
  rw[if_neg (by omega),e2]at g3
  rw[eN]at g1 g2 g3 Lf HC
  have hii:(i:Int)<(l.length:Int):=by omega
  have lK:(j:Int)<(l.length:Int):=by omega
  have rn:IntKind.i64.wrap ((i:Int)+1)=((i+1:Nat):Int):=aB (by omega)
  have z8:IntKind.i64.wrap ((j:Int)-1)=(l.length:Int)-1-((i+1:Nat):Int):=by rw[bz (by omega)];omega
  (try((repeat(revert hN;revert N;apply Pn.out));refine wk (tw @b0 (tw @b2 (tw @b3 (tw @bg (tw @hi (tw @hii (tw @lK (tw @g1 (tw @g2 (tw @g3 (tw @Lf (tw @HC (tw @tl (tw @Ri (tw @j9 (tw @rn @z8)))))))))))))))) ?_;(repeat(refine Pn.mk ?_;intro N hN))))
  refine⟨_,?_,i+1,rfl,by omega,by omega,sd @rn,sd @z8,sd @HC,by(try dsimp only);omega,fun x hx y5=>?_⟩
  ·omega
  ·have:=eP x hx y5
   simp only[go_sem, ↓reduceIte,Nat.reduceEqDiff,Nat.reduceAdd,Nat.reduceSub,Nat.reduceLeDiff,reduceCtorEq,y5,this]
 ·rw[Ij l (by omega) mC]at bg
  (try((repeat(revert hN;revert N;apply Pn.out));refine wk (tw @b0 (tw @b2 (tw @b3 (tw @bg @hi)))) ?_;(repeat(refine Pn.mk ?_;intro N hN))))
  exact gQ (.inr rfl) (vs:=[]) (by simp only[e6,go_sem, ↓reduceIte,Nat.reduceEqDiff,Nat.reduceAdd,Nat.reduceSub,Nat.reduceLeDiff,reduceCtorEq]) ⟨bg,by(try dsimp only);omega,eP⟩
theorem Qe (cnt:Nat) (qP:1<=cnt) (hn:cnt<=1048576) (c f:Nat->Nat->Int) (x y:Nat) (hx:x<cnt) (hy:y<cnt):
  mj Tryz.prog 301 [.dd (kV cnt c f),.int .i64 x,.int .i64 y] fun r=>(r=.cq/\∃S:Nat->Bool,S x=true/\S y=false/\∀u v,u<cnt->v<cnt->S u=true->S v=false->¬f u v<c u v)∨∃p:List Nat,r=.sl (p.map eN)/\Oq cnt c f x y p:=by
 refine mj.body eE rfl fun hl n0=>?_
 clear hl
 have lM:=uQ c cnt
 have jk:(0:Int)<=(cnt:Int):=by omega
 have Bf:(x:Int)<(cnt:Int):=by omega
 have Re:(y:Int)<(cnt:Int):=by omega
 (try((repeat(revert hN;revert N;apply Pn.out));refine wk (tw @kV.eq_1 @lM) ?_;(repeat(refine Pn.mk ?_;intro N hN))))
 refine .inr (bL _ _ _ _ _ (fun r σ1 hq=>?_) (Ih cnt qP hn (-1) ⟨301002000,n0+1+1⟩ _ (sd @Nat.zero_add) (by(try dsimp only);omega)))
 obtain⟨o,rfl,ho,JO,JP,ly⟩:=hq
 (try dsimp only at ho JO JP ly)
 refine hN _ _ ?_
 clear hN N
 have j9:=ef JP
 have oA:(cnt:Int)<=1048576:=by omega
 have O6:pZ<pZ+cnt:=by omega
 have gK:List.replicate cnt [AV.int .i64 (-1)]=dP (fun _=>-1) cnt:=by
  refine List.ext_getElem? fun i=>?_
  by_cases h:i<cnt
  ·rw[dH h,List.getElem?_replicate,if_pos h];rfl
  ·rw[List.getElem?_eq_none (by simp;omega),List.getElem?_eq_none (by rw[dw];omega)]
 rw[gK]at ho
 have zX:(dP (fun _=>-1) cnt).set x (aA (x:Int))=dP (fun v=>if v=x then(x:Int)else -1) cnt:=kH hx (if_pos rfl) fun v _ hv=>if_neg hv
 have hg0:=dH (f:=fun _=>-1) hx
 have tl0:=dw (fun _=>-1) cnt
 rw[aA]at zX hg0
 (try((repeat(revert hN;revert N;apply Pn.out));refine wk (tw @kV.eq_1 (tw @lM (tw @jk (tw @oA @j9)))) ?_;(repeat(refine Pn.mk ?_;intro N hN))))
 refine IM ?_
 simp only[go_sem, ↓reduceIte,Nat.reduceEqDiff,Nat.reduceAdd,Nat.reduceSub,Nat.reduceLeDiff,reduceCtorEq,O6]
 refine hN _ _ ?_
 clear hN N
 (try((repeat(revert hN;revert N;apply Pn.out));refine wk (tw @ho (tw @j9 (tw @zX (tw @hg0 (tw @tl0 @Bf))))) ?_;(repeat(refine Pn.mk ?_;intro N hN))))
 obtain⟨C,hC⟩:∃C:Id,C=⟨301003001,σ1.next+1⟩:=⟨_,rfl⟩
 have Ps:=dI (a:=o) (b:=C) (by rw[hC];(try dsimp only);omega)
 have hCv:C.bt=σ1.next+1:=by rw[hC]
 refine aM (fun m env st=>∃(par:Nat->Int) (Q:List Nat) (i:Nat),m=cnt-i/\Bq cnt c f x par Q i/\st.get o=some ⟨true,1,dP par cnt⟩/\st.get C=some ⟨true,pZ+cnt,(Q.drop i).map eN⟩/\σ1.next+1<st.next) cnt ⟨_,[x],0,rfl,Bq.start hx,sd @j9,by rw[hC];simp only[go_sem, ↓reduceIte,Nat.reduceEqDiff,Nat.reduceAdd,Nat.reduceSub,Nat.reduceLeDiff,reduceCtorEq,j9];rfl,by(try dsimp only);omega⟩ ?_
 rintro m env_b st_b ⟨par,Q,i,rfl,hB,bgo,bgC,bn⟩ bkp
 have b0:=bkp 0 (by kernel_rfl)
 have b1:=bkp 1 (by kernel_rfl)
 have b2:=bkp 2 (by kernel_rfl)
 have b7:=bkp 7 (by kernel_rfl)
 have b8:=bkp 8 (by kernel_rfl)
 have b9:=bkp 9 (by kernel_rfl)
 rw[<-hC]at b9
 simp only[go_sem, ↓reduceIte,Nat.reduceEqDiff,Nat.reduceAdd,Nat.reduceSub,Nat.reduceLeDiff,reduceCtorEq]at b0 b1 b2 b7 b8 b9
 clear bkp
 have hQn:=hB.len
 have mC:=hB.ile
 have QN:((Q.drop i).map eN).length=Q.length-i:=by simp
 by_cases hi:i<Q.length
 ·have kO:(0:Int)<((Q.length-i:Nat):Int):=by omega
  have qL:Q.drop i=Q[i]::Q.drop (i+1):=List.drop_eq_getElem_cons hi
  obtain⟨u,hu⟩:∃u,u=Q[i]:=⟨_,rfl⟩
  have hun:u<cnt:=by rw[hu];exact hB.lt _ (List.getElem_mem hi)
  rw[<-hu]at qL
  (try((repeat(revert hN;revert N;apply Pn.out));refine wk (tw @b0 (tw @b1 (tw @b2 (tw @b7 (tw @b8 (tw @b9 (tw @bgC (tw @QN @kO)))))))) ?_;(repeat(refine Pn.mk ?_;intro N hN))))
  refine IM ?_
  rw[qL,List.map_cons,show eN u=[.int .i64 (u:Int)]from rfl]at bgC
  simp only[go_sem, ↓reduceIte,Nat.reduceEqDiff,Nat.reduceAdd,Nat.reduceSub,Nat.reduceLeDiff,reduceCtorEq,b9,bgC]
  refine hN _ _ ?_
  clear hN N
  (try((repeat(revert hN;revert N;apply Pn.out));refine wk @b7 ?_;(repeat(refine Pn.mk ?_;intro N hN))))
  refine aM (fun m env st=>∃(v:Nat) (par':Nat->Int) (Q':List Nat),m=cnt-v/\v<=cnt/\env 36=.int .i64 (v:Int)/\Bq cnt c f x par' Q' i/\(∃h:i<Q'.length,Q'[i]=u)/\st.get o=some ⟨true,1,dP par' cnt⟩/\st.get C=some ⟨true,pZ+cnt,(Q'.drop (i+1)).map eN⟩/\σ1.next+1<st.next/\∀w,w<v->f u w<c u w->0<=par' w) cnt ⟨0,par,Q,rfl,Nat.zero_le _,by(simp only[go_sem, ↓reduceIte,Nat.reduceEqDiff,Nat.reduceAdd,Nat.reduceSub,Nat.reduceLeDiff,reduceCtorEq])<;>rfl,hB,⟨hi,hu.symm⟩,sd (tw @Ps @bgo),sd @Ps,by(try dsimp only);omega,fun w hw=>absurd hw (Nat.not_lt_zero w)⟩ ?_
  rintro m env_c st_c ⟨v,par',Q',rfl,hvn,c36,dK,⟨pK,DT⟩,wi,cgC,cn,dy⟩ ckp
  have c0:=ckp 0 (by kernel_rfl)
  have c1:=ckp 1 (by kernel_rfl)
  have c2:=ckp 2 (by kernel_rfl)
  have c7:=ckp 7 (by kernel_rfl)
  have c8:=ckp 8 (by kernel_rfl)
  have c9:=ckp 9 (by kernel_rfl)
  have je:=ckp 10 (by kernel_rfl)
  have LS:=ckp 35 (by kernel_rfl)
  simp only[go_sem, ↓reduceIte,Nat.reduceEqDiff,Nat.reduceAdd,Nat.reduceSub,Nat.reduceLeDiff,reduceCtorEq,b0,b1,b2,b7,b8,b9]at c0 c1 c2 c7 c8 c9 je LS
  clear ckp
  have tl:=dw par' cnt
  by_cases hv:(v:Int)<(cnt:Int)
  ·have Co:v<cnt:=by omega
   have Mq:=dH (f:=par') Co
   have ly:=L4 cnt c f u v hun Co
   have hw:IntKind.i64.wrap ((v:Int)+1)=((v+1:Nat):Int):=aB (by omega)
   rw[aA]at Mq
   rw[kV]at ly
   by_cases jH:par' v<0
   ·by_cases hr:f u v<c u v
    ·rw[decide_eq_true hr]at ly
     have eQ:(dP par' cnt).set v (aA (u:Int))=dP (fun w=>if w=v then(u:Int)else par' w) cnt:=kH Co (if_pos rfl) fun w _ hw=>if_neg hw
     rw[aA]at eQ
     have re:=dK.visit pK Co jH (by rw[DT];exact hr)
     rw[DT]at re
     have hQ2:=re.len
     rw[List.length_append]at hQ2
     simp only[List.length_singleton]at hQ2
     have fS:pZ+(Q'.drop (i+1)).length<pZ+cnt:=by rw[List.length_drop];omega
     (repeat(first|((repeat(revert hN;revert N;apply Pn.out));refine wk (tw @kV.eq_1 (tw @c0 (tw @c7 (tw @c8 (tw @c9 (tw @je (tw @c36 (tw @LS (tw @hv (tw @wi (tw @Mq (tw @tl (tw @jH @eQ))))))))))))) ?_;(repeat(refine Pn.mk ?_;intro N hN)))|((try apply Or.inl);refine⟨_,aq.x (ly) (sd (tw @kV.eq_1 (tw @c0 (tw @c7 (tw @c8 (tw @c9 (tw @je (tw @c36 (tw @LS (tw @hv (tw @wi (tw @Mq (tw @tl (tw @jH @eQ)))))))))))))),?_⟩;refine hN _ _ ?_;clear hN N)))
     refine IM ?_
     have hq:(Q'.drop (i+1)).map eN++[[.int .i64 (v:Int)]]=((Q'++[v]).drop (i+1)).map eN:=by rw[List.drop_append_of_le_length (by omega),List.map_append];rfl
     simp only[go_sem, ↓reduceIte,Nat.reduceEqDiff,Nat.reduceAdd,Nat.reduceSub,Nat.reduceLeDiff,reduceCtorEq,c9,cgC,fS,Ps,hq]
     refine hN _ _ ?_
     clear hN N
     (try((repeat(revert hN;revert N;apply Pn.out));refine wk (tw @c36 @hw) ?_;(repeat(refine Pn.mk ?_;intro N hN))))
     refine⟨_,?_,v+1,_,_,rfl,Co,sd @hw,re,⟨by rw[List.length_append];omega,by rw[List.getElem_append_left pK];exact DT⟩,sd @Ps,sd @Ps,by(try dsimp only);omega,fun w hw HB=>?_⟩
     ·omega
     ·by_cases DU:w=v
      ·rw[if_pos DU];omega
      ·rw[if_neg DU];exact dy w (by omega) HB
    ·rw[decide_eq_false hr]at ly
     (repeat(first|((repeat(revert hN;revert N;apply Pn.out));refine wk (tw @kV.eq_1 (tw @c0 (tw @c7 (tw @c8 (tw @c9 (tw @je (tw @c36 (tw @LS (tw @hv (tw @wi (tw @Mq (tw @tl (tw @jH @hw))))))))))))) ?_;(repeat(refine Pn.mk ?_;intro N hN)))|((try apply Or.inl);refine⟨_,aq.x (ly) (sd (tw @kV.eq_1 (tw @c0 (tw @c7 (tw @c8 (tw @c9 (tw @je (tw @c36 (tw @LS (tw @hv (tw @wi (tw @Mq (tw @tl (tw @jH @hw)))))))))))))),?_⟩;refine hN _ _ ?_;clear hN N)))
     refine⟨_,?_,v+1,par',Q',rfl,Co,sd @hw,dK,⟨pK,DT⟩,sd @wi,sd @cgC,by(try dsimp only);omega,fun w hw HB=>?_⟩
     ·omega
     ·by_cases DU:w=v
      ·subst DU;exact absurd HB hr
      ·exact dy w (by omega) HB
   ·(try((repeat(revert hN;revert N;apply Pn.out));refine wk (tw @kV.eq_1 (tw @c0 (tw @c7 (tw @c8 (tw @c9 (tw @je (tw @c36 (tw @LS (tw @hv (tw @wi (tw @Mq (tw @tl (tw @jH @hw))))))))))))) ?_;(repeat(refine Pn.mk ?_;intro N hN))))
    refine⟨_,?_,v+1,par',Q',rfl,Co,sd @hw,dK,⟨pK,DT⟩,sd @wi,sd @cgC,by(try dsimp only);omega,fun w hw HB=>?_⟩
    ·omega
    ·by_cases DU:w=v
     ·subst DU;omega
     ·exact dy w (by omega) HB
  ·have S8:v=cnt:=by omega
   subst S8
   (try((repeat(revert hN;revert N;apply Pn.out));refine wk (tw @c36 (tw @LS @hv)) ?_;(repeat(refine Pn.mk ?_;intro N hN))))
   refine⟨_,?_,par',Q',i+1,rfl,dK.next pK fun w hw hr=>dy w hw (by rw[<-DT];exact hr),sd @wi,sd @cgC,by(try dsimp only);omega⟩
   omega
 ·have hiQ:i=Q.length:=by omega
  subst hiQ
  have kO:¬(0:Int)<((Q.length-Q.length:Nat):Int):=by omega
  have SB:=dH (f:=par) hy
  have tl:=dw par cnt
  rw[aA]at SB
  by_cases jH:par y<0
  ·(try((repeat(revert hN;revert N;apply Pn.out));refine wk (tw @b0 (tw @b1 (tw @b2 (tw @b7 (tw @b8 (tw @b9 (tw @bgC (tw @QN (tw @kO (tw @bgo (tw @SB (tw @tl (tw @Re @jH))))))))))))) ?_;(repeat(refine Pn.mk ?_;intro N hN))))
   exact⟨[.cq],sd @Nat.zero_add,.cq,kf _ _,.inl ⟨rfl,hB.cut hy jH⟩⟩
  ·(try((repeat(revert hN;revert N;apply Pn.out));refine wk (tw @b0 (tw @b1 (tw @b2 (tw @b7 (tw @b8 (tw @b9 (tw @bgC (tw @QN (tw @kO (tw @bgo (tw @SB (tw @tl (tw @Re @jH))))))))))))) ?_;(repeat(refine Pn.mk ?_;intro N hN))))
   refine aM (fun m env st=>∃(k:Nat) (out:List Nat) (p:Id),m=Q.idxOf k/\env 13=.int .i64 (k:Int)/\env 12=.own p 0 out.length/\st.get p=some ⟨true,1,out.map eN⟩/\p.bt<st.next/\st_b.next<=p.bt/\k∈Q/\tb c f Q y k out/\st.get o=some ⟨true,1,dP par cnt⟩) (Q.idxOf y) ⟨y,[y],⟨301017001,st_b.next+1+1⟩,rfl,by(simp only[go_sem, ↓reduceIte,Nat.reduceEqDiff,Nat.reduceAdd,Nat.reduceSub,Nat.reduceLeDiff,reduceCtorEq]),by(simp only[go_sem, ↓reduceIte,Nat.reduceEqDiff,Nat.reduceAdd,Nat.reduceSub,Nat.reduceLeDiff,reduceCtorEq])<;>rfl,by(simp only[go_sem, ↓reduceIte,Nat.reduceEqDiff,Nat.reduceAdd,Nat.reduceSub,Nat.reduceLeDiff,reduceCtorEq])<;>rfl,by(try dsimp only);omega,by(try dsimp only);omega,(hB.iff y hy).1 (by omega),tb.start ((hB.iff y hy).1 (by omega)),by(have Oa:=ef (i:=o) (n:=st_b.next) (by omega));simp only[go_sem, ↓reduceIte,Nat.reduceEqDiff,Nat.reduceAdd,Nat.reduceSub,Nat.reduceLeDiff,reduceCtorEq,Oa,bgo]⟩ ?_
   rintro m env_d st_d ⟨k,out,p,rfl,d13,d12,dgp,dpn,dpo,hkQ,sV,dgo⟩ dkp
   have d1:=dkp 1 (by kernel_rfl)
   have d8:=dkp 8 (by kernel_rfl)
   simp only[go_sem, ↓reduceIte,Nat.reduceEqDiff,Nat.reduceAdd,Nat.reduceSub,Nat.reduceLeDiff,reduceCtorEq,b1,b8]at d1 d8
   clear dkp
   have yZ:=ef dpn
   have z7:=ef (i:=o) (n:=st_d.next) (by omega)
   have dB:=dI (a:=o) (b:=p) (by omega)
   have hol:=sV.len hB.lt
   have eV:=hB.lt k hkQ
   have gm:(out.map eN).length=out.length:=by simp
   by_cases QT:k=x
   ·have hd:decide ((k:Int)=(x:Int))=true:=decide_eq_true (by rw[QT])
    have SS:0<out.length:=by
     obtain⟨rest,h1,_⟩:=sV
     rw[<-List.length_reverse,h1];simp
    (try((repeat(revert hN;revert N;apply Pn.out));refine wk (tw @d1 (tw @d8 (tw @d12 (tw @d13 (tw @hd @Bool.not_true))))) ?_;(repeat(refine Pn.mk ?_;intro N hN))))
    refine .inr (bL _ _ _ _ _ (fun r σ2 hq=>?_) (FM out SS (by omega) p _ dgp (by(try dsimp only);omega)))
    obtain⟨Pd,lW,Hq⟩:=hq
    refine hN _ _ ?_
    clear hN N
    (try((repeat(revert hN;revert N;apply Pn.out));refine wk @d12 ?_;(repeat(refine Pn.mk ?_;intro N hN))))
    refine⟨[.own p 0 out.length],sd @d12,.sl (out.reverse.map eN),?_,.inr ⟨out.reverse,rfl,by subst QT;exact sV.way hB.lt⟩⟩
    exact fw (sz:=1) Pd (by simp) fun a=>L5 _ 4 a
   ·have hd:decide ((k:Int)=(x:Int))=false:=decide_eq_false fun h=>QT (by omega)
    obtain⟨u,huQ,hpu,xS,hr⟩:=hB.up k hkQ QT
    have ev:=dH (f:=par) eV
    rw[aA,hpu]at ev
    have hki:(k:Int)<(cnt:Int):=by omega
    have e1:out.length+1<=16777216:=by omega
    (try((repeat(revert hN;revert N;apply Pn.out));refine wk (tw @d1 (tw @d8 (tw @d12 (tw @d13 (tw @hd (tw @Bool.not_false (tw @dgo (tw @dgp (tw @ev (tw @tl (tw @hki (tw @yZ (tw @z7 (tw @dB (tw @gm @e1))))))))))))))) ?_;(repeat(refine Pn.mk ?_;intro N hN))))
    refine⟨_,xS,u,out++[u],⟨301021003,st_d.next+1+1⟩,rfl,sd @Nat.zero_add,by rw[List.length_append];simp only[go_sem, ↓reduceIte,Nat.reduceEqDiff,Nat.reduceAdd,Nat.reduceSub,Nat.reduceLeDiff,reduceCtorEq,List.length_cons,List.length_nil],by rw[List.map_append,List.map_cons,List.map_nil];simp only[go_sem, ↓reduceIte,Nat.reduceEqDiff,Nat.reduceAdd,Nat.reduceSub,Nat.reduceLeDiff,reduceCtorEq,eN],by(try dsimp only);omega,by(try dsimp only);omega,huQ,sV.step huQ xS hr,sd (tw @z7 (tw @dB @dgo))⟩
theorem zg (b:Nat):∀(l:List Nat) (a:Nat) (f:Nat->Nat->Int),lr f ((a::l)++[b])=jX (lr f (a::l)) ((a::l).getLast (by simp)) b
 |[],a,f=>rfl
 |c::l,a,f=>by
  rw[List.cons_append,List.cons_append,lr,<-List.cons_append,zg b l c (jX f a c),lr,List.getLast_cons_cons]
theorem Ez {p:List Nat} {f:Nat->Nat->Int} {i:Nat} (h1:1<=i) (hi:i<p.length):lr f (p.take (i+1))=jX (lr f (p.take i)) (p[i-1]'(by omega)) p[i]:=by
 rw[List.take_succ_eq_append_getElem hi]
 have gM:p.take i≠[]:=by
  intro h
  have:(p.take i).length=0:=by rw[h];rfl
  rw[List.length_take]at this;omega
 obtain⟨a,l,DL⟩:∃a l,p.take i=a::l:=by
  cases h:p.take i with
  |nil=>exact absurd h gM
  |cons a l=>exact⟨a,l,rfl⟩
 have tT:(p.take i).getLast gM=p[i-1]'(by omega):=by
  rw[List.getLast_eq_getElem,List.getElem_take]
  congr 1
  rw[List.length_take];omega
 simp only[DL]at tT ⊢
 rw[zg,tT]
theorem FH (f:Nat->Nat->Int) (a b u v:Nat):jX f a b u v<=f u v+1/\f u v-1<=jX f a b u v:=by
 unfold jX bump
 split<;>split<;>constructor<;>omega
theorem lu:∀(p:List Nat) (f:Nat->Nat->Int) (u v:Nat),lr f p u v<=f u v+p.length/\f u v-p.length<=lr f p u v
 |[],f,u,v=>by simp[lr]
 |[_],f,u,v=>by simp[lr];omega
 |a::b::r,f,u,v=>by
  rw[lr]
  have h1:=lu (b::r) (jX f a b) u v
  have h2:=FH f a b u v
  simp only[List.length_cons]at h1 ⊢
  omega
theorem oV.push {g g':Rows} {X o1 o2:Id} {R1 R2:Nat->Id} {n nb:Nat} {c f:Nat->Nat->Int} (I:Gy X o1 o2 R1 R2 n nb) (h:oV g X o1 o2 R1 R2 n c f) {a b:Nat} (ha:a<n) (hb:b<n) (mV:a≠b) (hA:g' (R2 a)=some ⟨true,1,dP (bump f a b 1 a) n⟩) (hB:g' (R2 b)=some ⟨true,1,dP (bump (bump f a b 1) b a (-1) b) n⟩) (hf:∀i:Id,i.bt<nb->(i=R2 a)=False->(i=R2 b)=False->g' i=g i):oV g' X o1 o2 R1 R2 n c (jX f a b):=by
 have ne:∀{i:Id} {s:Nat},i.site=s->(s==299005006)=false->∀a,a<n->(i=R2 a)=False:=fun {i s} hi hs a ha=>by
  simp only[eq_iff_iff,iff_false]
  rintro rfl
  rw[I.Lq a ha]at hi
  subst hi
  simp at hs
 refine⟨(hf _ I.vx (ne I.sx (by decide) _ ha) (ne I.sx (by decide) _ hb)).trans h.x,(hf _ I.v1 (ne I.s1 (by decide) _ ha) (ne I.s1 (by decide) _ hb)).trans h.t1,(hf _ I.v2 (ne I.s2 (by decide) _ ha) (ne I.s2 (by decide) _ hb)).trans h.t2,fun i hi=>(hf _ (I.Tj i hi) (ne (I.Rg i hi) (by decide) _ ha) (ne (I.Rg i hi) (by decide) _ hb)).trans (h.r1 i hi),fun i hi=>?_⟩
 by_cases DR:i=b
 ·subst DR;exact hB
 ·by_cases Gh:i=a
  ·subst Gh
   rw[hA,jX,jE DR]
  ·rw[jX,jE DR,jE Gh,hf _ (I.Qd i hi) (by simp only[eq_iff_iff,iff_false];exact fun he=>Gh (I.i2 i _ hi ha he)) (by simp only[eq_iff_iff,iff_false];exact fun he=>DR (I.i2 i _ hi hb he))]
   exact h.r2 i hi
theorem Nf (cnt:Nat) (qP:1<=cnt) (hn:cnt<=1048576) (c:Nat->Nat->Int) (hc:∀u v,u<cnt->v<cnt->0<=c u v/\c u v<=16777216) (x y:Nat) (hx:x<cnt) (hy:y<cnt) (PK:x≠y) (t:Int) (ht:t<=1099511627776)
  (X o1 o2:Id) (R1 R2:Nat->Id) (nb:Nat) (I:Gy X o1 o2 R1 R2 cnt nb) (σ:ax) (hM:oV σ.get X o1 o2 R1 R2 cnt c (fun _ _=>0)) (QY:nb<=σ.next):
  Call Tryz.prog 300 [.ptr X 0 0,.int .i64 x,.int .i64 y,.int .i64 t] σ fun r σ'=>∃val:Int,r=.int .i64 val/\(val<t↔∃S:Nat->Bool,S x=true/\S y=false/\lx cnt S c<t)/\σ.next<=σ'.next:=by
 refine iq eE rfl fun hl=>?_
 clear hl
 have hxS:(fun v=>decide (v=x)) x=true:=by simp
 have hyS:(fun v=>decide (v=x)) y=false:=by simp;exact fun h=>PK h.symm
 obtain⟨top,S5⟩:∃top,top=lx cnt (fun v=>decide (v=x)) c:=⟨_,rfl⟩
 (try((repeat(revert hN;revert N;apply Pn.out));refine wk @Nat.zero_add ?_;(repeat(refine Pn.mk ?_;intro N hN))))
 refine aM (fun m env st=>∃(k:Nat) (f:Nat->Nat->Int),m=(top-k).toNat/\env 9=.int .i64 (k:Int)/\mY cnt c f x y k/\oV st.get X o1 o2 R1 R2 cnt c f/\σ.next<=st.next/\(0<k->(k:Int)<=t)/\∀u v,-((k:Int)*(cnt:Int))<=f u v) (top-0).toNat ⟨0,fun _ _=>0,rfl,by(simp only[go_sem, ↓reduceIte,Nat.reduceEqDiff,Nat.reduceAdd,Nat.reduceSub,Nat.reduceLeDiff,reduceCtorEq])<;>rfl,mY.zero fun u v hu hv=>(hc u v hu hv).1,hM,by(try dsimp only);omega,fun h=>absurd h (Nat.lt_irrefl 0),fun u v=>by simp⟩ ?_
 rintro m env_b st_b ⟨k,f,rfl,b9,hF,bM,bn,bk,blo⟩ bkp
 have b0:=bkp 0 (by kernel_rfl)
 have b1:=bkp 1 (by kernel_rfl)
 have b2:=bkp 2 (by kernel_rfl)
 have b3:=bkp 3 (by kernel_rfl)
 simp only[go_sem, ↓reduceIte,Nat.reduceEqDiff,Nat.reduceAdd,Nat.reduceSub,Nat.reduceLeDiff,reduceCtorEq]at b0 b1 b2 b3
 clear bkp
 have hz:dj (eo st_b.get) 6 [.ptr X 0 0,.int .i64 (x:Int),.int .i64 (y:Int)]=some [.dd (kV cnt c f),.int .i64 x,.int .i64 y]:=by simp only[aj,ar,bM.fz,aK,Option.map_some]
 (try((repeat(revert hN;revert N;apply Pn.out));refine wk (tw @b0 (tw @b1 (tw @b2 (tw @b3 @b9)))) ?_;(repeat(refine Pn.mk ?_;intro N hN))))
 refine .inr (bL _ _ _ _ _ (fun r σ1 hq=>?_) ((Qe cnt qP hn c f x y hx hy).x mixed hz))
 obtain⟨MI,rfl⟩:=hq
 refine hN _ _ ?_
 clear hN N
 rcases MI with⟨rfl,S,Mj,JD,QG⟩|⟨p,rfl,hW⟩
 ·(try((repeat(revert hN;revert N;apply Pn.out));refine wk (tw @b0 (tw @b1 (tw @b2 (tw @b3 (tw @b9 (tw @Bool.not_true @Bool.not_false)))))) ?_;(repeat(refine Pn.mk ?_;intro N hN))))
  refine gQ (.inl rfl) (vs:=[.int .i64 (k:Int)]) (sd @Nat.zero_add) ⟨(k:Int),rfl,⟨fun h=>⟨S,Mj,JD,by rw[<-hF.full Mj JD QG];exact h⟩,fun⟨S',h1,h2,h3⟩=>by have:=hF.bound h1 h2;omega⟩,by(try dsimp only);omega⟩
 ·obtain⟨⟨rs,rfl,tT⟩,nB,fS,hplt⟩:=hW
  by_cases JI:t<=(k:Int)
  ·(try((repeat(revert hN;revert N;apply Pn.out));refine wk (tw @b0 (tw @b1 (tw @b2 (tw @b3 (tw @b9 (tw @JI (tw @Bool.not_true @Bool.not_false))))))) ?_;(repeat(refine Pn.mk ?_;intro N hN))))
   refine gQ (.inl rfl) (vs:=[.int .i64 (k:Int)]) (sd @Nat.zero_add) ⟨(k:Int),rfl,⟨fun h=>by omega,fun⟨S',h1,h2,h3⟩=>by have:=hF.bound h1 h2;omega⟩,by(try dsimp only);omega⟩
  ·(try((repeat(revert hN;revert N;apply Pn.out));refine wk (tw @b0 (tw @b1 (tw @b2 (tw @b3 (tw @b9 (tw @JI (tw @Bool.not_true @Bool.not_false))))))) ?_;(repeat(refine Pn.mk ?_;intro N hN))))
   have lL:=nE cnt _ nB hplt
   have hkc:(k:Int)*(cnt:Int)<=1099511627776*1048576:=Int.mul_le_mul (by omega) (by omega) (by omega) (by omega)
   have hfb:=hF.bound (S:=fun v=>decide (v=x)) hxS hyS
   have hnear:=lu
   obtain⟨p,hp⟩:∃p,p=x::rs:=⟨_,rfl⟩
   have tU:eN x::List.map eN rs=p.map eN:=by rw[hp];rfl
   rw[tU]
   have ME:1<=p.length:=by rw[hp];simp
   have RU:=hF.aug tT nB fS hplt
   rw[<-hp]at RU nB fS hplt lL
   have MN:p.take 1=[x]:=by rw[hp];rfl
   clear tU tT
   refine aM (fun m env st=>∃i:Nat,m=p.length-i/\1<=i/\i<=p.length/\env 11=.int .i64 (i:Int)/\oV st.get X o1 o2 R1 R2 cnt c (lr f (p.take i))/\st_b.next<=st.next) (p.length-1) ⟨1,rfl,Nat.le_refl _,ME,by(simp only[go_sem, ↓reduceIte,Nat.reduceEqDiff,Nat.reduceAdd,Nat.reduceSub,Nat.reduceLeDiff,reduceCtorEq])<;>rfl,by rw[MN];exact bM,by(try dsimp only);omega⟩ ?_
   rintro m env_c st_c ⟨i,rfl,JG,mC,mK,cM,cn⟩ ckp
   have c0:=ckp 0 (by kernel_rfl)
   have c1:=ckp 1 (by kernel_rfl)
   have c2:=ckp 2 (by kernel_rfl)
   have c3:=ckp 3 (by kernel_rfl)
   have c9:=ckp 9 (by kernel_rfl)
   have je:=ckp 10 (by kernel_rfl)
   simp only[go_sem, ↓reduceIte,Nat.reduceEqDiff,Nat.reduceAdd,Nat.reduceSub,Nat.reduceLeDiff,reduceCtorEq,b0,b1,b2,b3,b9]at c0 c1 c2 c3 c9 je
   clear ckp
   have gm:(p.map eN).length=p.length:=by simp
   by_cases hi:(i:Int)<(p.length:Int)
   ·have e9:i<p.length:=by omega
    have vK:=Ez (f:=f) JG e9
    obtain⟨a,ha⟩:∃a,a=p[i-1]'(by omega):=⟨_,rfl⟩
    obtain⟨b,hb⟩:∃b,b=p[i]:=⟨_,rfl⟩
    have DM:a<cnt:=by rw[ha];exact hplt _ (List.getElem_mem _)
    have DO:b<cnt:=by rw[hb];exact hplt _ (List.getElem_mem _)
    have mV:a≠b:=by
     rw[ha,hb]
     exact List.pairwise_iff_getElem.1 nB (i-1) i (by omega) e9 (by omega)
    have Pe:(p.map eN)[i-1]? =some [.int .i64 (a:Int)]:=by rw[List.getElem?_map,List.getElem?_eq_getElem (by omega),ha];rfl
    have Mo:(p.map eN)[i]? =some [.int .i64 (b:Int)]:=by rw[List.getElem?_map,List.getElem?_eq_getElem e9,hb];rfl
    rw[<-ha,<-hb]at vK
    have SL:=lu (p.take i) f a b
    have SM:=lu (p.take i) f b a
    rw[List.length_take]at SL SM
    have hl1:=blo b a
    have hl2:=blo a b
    have PF:=hF.le a b DM DO
    have hu2:=hF.le b a DO DM
    have hca:=hc a b DM DO
    have DP:=hc b a DO DM
    generalize lr f (p.take i)=fl at *
    have gA:=qF (R:=R2) (n:=cnt) DM
    have gB:=qF (R:=R2) (n:=cnt) DO
    have rA:=cM.r2 _ DM
    have rB:=cM.r2 _ DO
    have cA:=dH (f:=fl a) DO
    have cB:=dH (f:=fl b) DM
    have sA:=np (f:=fl) (a:=a) (d:=1) DO
    have MA:bump fl a b 1 b=fl b:=jE fun h=>mV h.symm
    have sB:=np (f:=bump fl a b 1) (a:=b) (b:=a) (d:=-1) (n:=cnt) DM
    rw[MA]at sB
    have gX:=cM.x
    have g2:=cM.t2
    have gh:(a:Int)<(cnt:Int):=by omega
    have fa:(b:Int)<(cnt:Int):=by omega
    have Ra:IntKind.i64.wrap ((i:Int)-1)=((i-1:Nat):Int):=by rw[bz (by omega)];omega
    have wI:((i-1:Nat):Int)<(p.length:Int):=by omega
    have wA:IntKind.i64.wrap (fl a b+1)=fl a b+1:=bz (by omega)
    have wB:IntKind.i64.wrap (fl b a-1)=fl b a+-1:=by rw[bz (by omega)];omega
    have MP:IntKind.i64.wrap ((i:Int)+1)=((i+1:Nat):Int):=aB (by omega)
    have l2:=jK R2 cnt cnt
    have lA:=dw (fl a) cnt
    have lB:=dw (fl b) cnt
    have gM:(R2 a=R2 b)=False:=by simp only[eq_iff_iff,iff_false];exact fun h=>mV (I.i2 _ _ DM DO h)
    have Hv:(R2 b=R2 a)=False:=by simp only[eq_iff_iff,iff_false];exact fun h=>mV (I.i2 _ _ DM DO h.symm)
    have xA:=yH I.sx (I.Lq a DM) (by decide)
    have xB:=yH I.sx (I.Lq b DO) (by decide)
    have yA:=yH I.s2 (I.Lq a DM) (by decide)
    have yB:=yH I.s2 (I.Lq b DO) (by decide)
    have qX:=ef (i:=X) (n:=st_c.next) (by have:=I.vx;omega)
    have q2:=ef (i:=o2) (n:=st_c.next) (by have:=I.v2;omega)
    have qA:=ef (i:=R2 a) (n:=st_c.next) (by have:=I.Qd a DM;omega)
    have qB:=ef (i:=R2 b) (n:=st_c.next) (by have:=I.Qd b DO;omega)
    rw[aA]at cA cB sA sB
    (try((repeat(revert hN;revert N;apply Pn.out));refine wk (tw @c0 (tw @c9 (tw @je (tw @mK (tw @gm (tw @hi (tw @wI (tw @Pe (tw @Mo (tw @gA (tw @gB (tw @rA (tw @rB (tw @cA (tw @cB (tw @sA (tw @sB (tw @gX (tw @g2 (tw @gh (tw @fa (tw @Ra (tw @wA (tw @wB (tw @MP (tw @l2 (tw @lA (tw @lB (tw @gM (tw @Hv (tw @xA (tw @xB (tw @yA (tw @yB (tw @qX (tw @q2 (tw @qA @qB))))))))))))))))))))))))))))))))))))) ?_;(repeat(refine Pn.mk ?_;intro N hN))))
    refine⟨_,?_,i+1,rfl,by omega,by omega,sd @MP,?_,by(try dsimp only);omega⟩
    ·omega
    ·rw[vK]
     refine cM.push I DM DO mV ?_ ?_ fun j hj h1 h2=>?_
     ·simp only[go_sem, ↓reduceIte,Nat.reduceEqDiff,Nat.reduceAdd,Nat.reduceSub,Nat.reduceLeDiff,reduceCtorEq,gM]
     ·simp only[go_sem, ↓reduceIte,Nat.reduceEqDiff,Nat.reduceAdd,Nat.reduceSub,Nat.reduceLeDiff,reduceCtorEq,gM]
     ·simp only[go_sem, ↓reduceIte,Nat.reduceEqDiff,Nat.reduceAdd,Nat.reduceSub,Nat.reduceLeDiff,reduceCtorEq,h1,h2]
   ·have E8:i=p.length:=by omega
    subst E8
    rw[List.take_length]at cM
    have MR:IntKind.i64.wrap ((k:Int)+1)=((k+1:Nat):Int):=aB (by omega)
    have Sv:=RU.bound (S:=fun v=>decide (v=x)) hxS hyS
    (try((repeat(revert hN;revert N;apply Pn.out));refine wk (tw @c0 (tw @c9 (tw @je (tw @mK (tw @gm (tw @hi @MR)))))) ?_;(repeat(refine Pn.mk ?_;intro N hN))))
    refine⟨_,?_,k+1,_,rfl,sd @MR,by rw[Int.natCast_add];exact RU,cM,by(try dsimp only);omega,fun _=>by omega,fun u v=>?_⟩
    ·rw[<-S5]at Sv;omega
    ·have h1:=(lu p f u v).2
     have h2:=blo u v
     rw[Int.natCast_add,Int.add_mul]
     omega
noncomputable def r9 (n:Nat) (bs:List PB) (t:Int):Bool:=@decide (kb n bs t) (Classical.propDecidable _)
theorem wM {n:Nat} {bs:List PB} {t:Int} (h:kb n bs t):true=r9 n bs t:=by simp[r9,h]
theorem zR {n:Nat} {bs:List PB} {t:Int} (h:¬kb n bs t):false=r9 n bs t:=by simp[r9,h]
theorem JN (cnt:Nat) (hn:cnt<=1048576) (bs:List PB) (hb:∀b∈bs,b.a<cnt/\b.b<cnt) (dL:∀b∈bs,0<=b.s/\b.s<=4) (mM:bs.length<=1048576) (t:Int) (ht:t<=1099511627776):
  aq Tryz.prog 288 [.int .i64 cnt,.sl (bs.map ay),.int .i64 t] (.bool (r9 cnt bs t)):=by
 refine aq.body eE rfl fun hl n0=>?_
 clear hl
 have pg:=yy bs (fun _ _=>0) (fun b h=>(dL b h).1) (fun _ _=>Int.le_refl _)
 have hle:=room_le bs (fun _ _=>0) 0 (fun b h=>(dL b h).2) (fun _ _=>Int.le_refl _) (Int.le_refl _)
 have fS:bs.foldl mH (fun _ _=>0)=kB bs:=rfl
 rw[fS]at pg hle
 (try((repeat(revert hN;revert N;apply Pn.out));refine wk @Nat.zero_add ?_;(repeat(refine Pn.mk ?_;intro N hN))))
 refine aM (fun m env st=>∃y:Nat,m=cnt+1-y/\1<=y/\env 7=.int .i64 (y:Int)/\y<=cnt+1/\∀z,1<=z->z<y->z<cnt->∀S:Nat->Bool,S 0=true->S z=false->t<=iN S bs) (cnt+1-1) ⟨1,rfl,Nat.le_refl _,by(simp only[go_sem, ↓reduceIte,Nat.reduceEqDiff,Nat.reduceAdd,Nat.reduceSub,Nat.reduceLeDiff,reduceCtorEq])<;>rfl,by omega,fun z h1 h2=>by omega⟩ ?_
 rintro m env_b st_b ⟨y,rfl,hy1,b7,hyl,dy⟩ bkp
 have b0:=bkp 0 (by kernel_rfl)
 have b1:=bkp 1 (by kernel_rfl)
 have b2:=bkp 2 (by kernel_rfl)
 simp only[go_sem, ↓reduceIte,Nat.reduceEqDiff,Nat.reduceAdd,Nat.reduceSub,Nat.reduceLeDiff,reduceCtorEq]at b0 b1 b2
 clear bkp
 by_cases hy:(y:Int)<(cnt:Int)
 ·have hyn:y<cnt:=by omega
  (try((repeat(revert hN;revert N;apply Pn.out));refine wk (tw @b0 (tw @b1 (tw @b2 (tw @b7 @hy)))) ?_;(repeat(refine Pn.mk ?_;intro N hN))))
  refine .inr (bL _ _ _ _ _ (fun r σ1 hq=>?_) (AA cnt (by omega) hn bs hb dL mM _))
  obtain⟨X,o1,o2,R1,R2,rfl,I,JJ,hM,_⟩:=hq
  refine hN _ _ ?_
  clear hN N
  (try((repeat(revert hN;revert N;apply Pn.out));refine wk (tw @b0 (tw @b1 (tw @b2 @b7))) ?_;(repeat(refine Pn.mk ?_;intro N hN))))
  have hsd:=Nf cnt (by omega) hn (kB bs) (fun u v _ _=>⟨pg u v,by have:=hle u v;omega⟩) 0 y (by omega) hyn (by omega) t ht X o1 o2 R1 R2 σ1.next I
  refine .inr (bL _ _ _ _ _ (fun r σ2 hq=>?_) (hsd _ hM (by(try dsimp only);omega)))
  obtain⟨val,rfl,qg,lW⟩:=hq
  refine hN _ _ ?_
  clear hN N
  by_cases dJ:val<t
  ·(try((repeat(revert hN;revert N;apply Pn.out));refine wk (tw @b0 (tw @b1 (tw @b2 (tw @b7 @dJ)))) ?_;(repeat(refine Pn.mk ?_;intro N hN))))
   obtain⟨S,h1,h2,h3⟩:=qg.1 dJ
   rw[zx hb]at h3
   exact aL (b:=false) (.inl rfl) (sd @Nat.zero_add) (zR fun h=>by have:=h S h1 ⟨y,hyn,h2⟩;omega)
  ·have hw:IntKind.i64.wrap ((y:Int)+1)=((y+1:Nat):Int):=aB (by omega)
   (try((repeat(revert hN;revert N;apply Pn.out));refine wk (tw @b0 (tw @b1 (tw @b2 (tw @b7 (tw @dJ @hw))))) ?_;(repeat(refine Pn.mk ?_;intro N hN))))
   refine⟨_,?_,y+1,rfl,by omega,sd (tw @b7 @hw),by omega,fun z h1 h2 h3 S Mj JD=>?_⟩
   ·omega
   ·by_cases hzy:z=y
    ·subst hzy
     rcases Int.lt_or_le (iN S bs) t with h|h
     ·exact absurd (qg.2 ⟨S,Mj,JD,by rw[zx hb];exact h⟩) dJ
     ·exact h
    ·exact dy z h1 (by omega) h3 S Mj JD
 ·(try((repeat(revert hN;revert N;apply Pn.out));refine wk (tw @b0 (tw @b1 (tw @b2 (tw @b7 @hy)))) ?_;(repeat(refine Pn.mk ?_;intro N hN))))
  exact aL (b:=true) (.inl rfl) (sd @Nat.zero_add) (wM fun S h0 ⟨z,hz,hzf⟩=>by
   have:z≠0:=by rintro rfl;rw[h0]at hzf;cases hzf
   exact dy z (by omega) (by omega) hz S h0 hzf)
theorem Hw (cnt:Nat) (hn:cnt<=1048576) (bs:List PB) (hb:∀b∈bs,b.a<cnt/\b.b<cnt) (dL:∀b∈bs,0<=b.s/\b.s<=4) (mM:bs.length<=1048576) (t:Int) (ht:t<=1099511627776):
  aq Tryz.prog 288 [.int .i64 cnt,yE bs,.int .i64 t] (.bool (r9 cnt bs t)):=by
 have h:=JN cnt hn bs hb dL mM t ht
 cases bs with
 |nil=>exact h.cut mixed (.same _ (.cq (.same _ .nil)))
 |cons b r=>rw[yF (by simp)];exact h
def Bh:Prop:=∀(s:au) (l:List ad),gJ s->jM s l->aq Tryz.prog 205 [.agg (aa s),.agg [.sl (l.map ai)]] (yE (cU s l))
noncomputable def s5 (s:au) (l:List ad) (t:Int):Bool:=if 64<gU s l t then false else r9 (gU s l t) (dm (er (aI t (cU s l))) (cU s l)) t
theorem Cr (s:au) (l:List ad) (t:Int):s5 s l t=mD s l t:=by
 letI:=Classical.propDecidable (nR l.length (cU s l) t)
 unfold s5
 by_cases h:64<gU s l t
 ·rw[if_pos h]
  exact(lG (p:=False) ⟨False.elim,fun k=>by have:=k.1;unfold gU at h;omega⟩).symm.trans (by simp) |>.symm
 ·rw[if_neg h]
  by_cases hp:kb (gU s l t) (dm (er (aI t (cU s l))) (cU s l)) t
  ·rw[<-wM hp]
   exact((lG (p:=True) ⟨fun _=>⟨by unfold gU at h;omega,hp⟩,fun _=>trivial⟩).symm.trans (by simp)).symm
  ·rw[<-zR hp]
   exact((lG (p:=False) ⟨False.elim,fun k=>hp k.2⟩).symm.trans (by simp)).symm
theorem Iq (RP:Bh) (s:au) (l:List ad) (t:Int) (ht:t<=1099511627776) (h1:1<=l.length) (hS:gJ s) (hA:jM s l):aq Tryz.prog 241 [.agg (aa s),.agg [.sl (l.map ai)],.int .i64 t] (.im [.bool (mD s l t),.bool (decide ¬64<gU s l t)]):=by
 rw[<-Cr]
 refine aq.body eE rfl fun hl n0=>?_
 clear hl
 have hb:=we (l:=l) hS
 have mM:=oY (s:=s) hA.1
 have E6:=hA.1.A6
 have wE:=RP s l hS hA
 have O6:=xD l.length h1 (by omega) (cU s l) (fun b h=>⟨(hb b h).1,(hb b h).2.1⟩) (by omega) t
 have hL:=sf (aI t (cU s l))
 have e9:=CW hL (fun b h=>⟨(hb b h).1,(hb b h).2.1⟩)
 have hlen:=(ma (er (aI t (cU s l))) (cU s l)).1
 have oB:=jq l.length (er (aI t (cU s l)))
 have hho:=Hw (gU s l t) (by unfold gU;omega) (dm (er (aI t (cU s l))) (cU s l)) (fun b h=>⟨(e9 b h).1,(e9 b h).2.1⟩) (fun b h=>by
  obtain⟨_,_,_,c,hc,dp⟩:=e9 b h
  rw[dp];have:=hb c hc;omega) (by omega) t ht
 have eX:(l.map ai).length=l.length:=by simp
 have hzB:∀(g:Rows) (n:Nat) (bs:List PB),V.fz g (n+1) (yE bs)=some (yE bs):=fun g n bs=>by
  unfold yE;split
  ·exact aQ _ _
  ·exact bW _ _ _
 rw[aa]at wE
 rw[<-gU]at O6
 have vd:∀(g:Rows) (x:Int),dj (eo g) 6 [.int .i64 l.length,yE (cU s l),.int .i64 x]=some [.int .i64 l.length,yE (cU s l),.int .i64 x]:=fun g x=>by simp only[aj,ar,aK,hzB,Option.map_some]
 have hzh:∀(g:Rows) (x y:Int),dj (eo g) 6 [.int .i64 x,yE (dm (er (aI t (cU s l))) (cU s l)),.int .i64 y]=some [.int .i64 x,yE (dm (er (aI t (cU s l))) (cU s l)),.int .i64 y]:=fun g x y=>by simp only[aj,ar,aK,hzB,Option.map_some]
 generalize yE (cU s l)=B1 at *
 generalize yE (dm (er (aI t (cU s l))) (cU s l))=B2 at *
 by_cases sF:(64:Int)<(gU s l t:Int)
 ·have sG:64<gU s l t:=by omega
  (repeat(first|((repeat(revert hN;revert N;apply Pn.out));refine wk (tw @aa.eq_1 (tw @sF @eX)) ?_;(repeat(refine Pn.mk ?_;intro N hN)))|((try apply Or.inl);refine⟨_,aq.x (wE) (sd (tw @aa.eq_1 (tw @sF @eX))),?_⟩;refine hN _ _ ?_;clear hN N)))
  refine⟨_,aq.x O6 (vd _ _),?_⟩
  refine hN _ _ ?_
  clear hN N
  (try((repeat(revert hN;revert N;apply Pn.out));refine wk @sF ?_;(repeat(refine Pn.mk ?_;intro N hN))))
  exact jc (.inl rfl) (r1:=.bool false) (r2:=.bool false) (sd @Nat.zero_add) (sd @Nat.zero_add) (by rw[s5,if_pos sG,decide_eq_false fun h=>h sG];simp only[dZ,aS,bm,fB,Option.map_some])
 ·have sG:¬64<gU s l t:=by omega
  (repeat(first|((repeat(revert hN;revert N;apply Pn.out));refine wk (tw @aa.eq_1 (tw @sF @eX)) ?_;(repeat(refine Pn.mk ?_;intro N hN)))|((try apply Or.inl);refine⟨_,aq.x (wE) (sd (tw @aa.eq_1 (tw @sF @eX))),?_⟩;refine hN _ _ ?_;clear hN N)))
  refine⟨_,aq.x O6 (vd _ _),?_⟩
  refine hN _ _ ?_
  clear hN N
  (try((repeat(revert hN;revert N;apply Pn.out));refine wk @sF ?_;(repeat(refine Pn.mk ?_;intro N hN))))
  refine .inl ⟨_,aq.x hho (hzh _ _ _),?_⟩
  refine hN _ _ ?_
  clear hN N
  (try((repeat(revert hN;revert N;apply Pn.out));refine wk @Nat.zero_add ?_;(repeat(refine Pn.mk ?_;intro N hN))))
  exact jc (.inl rfl) (r1:=.bool (r9 (gU s l t) (dm (er (aI t (cU s l))) (cU s l)) t)) (r2:=.bool true) (sd @Nat.zero_add) (sd @Nat.zero_add) (by rw[s5,if_neg sG,decide_eq_true sG];simp only[dZ,aS,bm,fB,Option.map_some])
theorem sI (t:Int):aq Tryz.prog 132 [.int .i64 t] (.bool (gn t 1 16)):=by
 refine aq.body eE rfl fun hl n0=>?_
 clear hl
 have h:=gT t 1 16
 (repeat(first|((repeat(revert hN;revert N;apply Pn.out));refine wk @Nat.zero_add ?_;(repeat(refine Pn.mk ?_;intro N hN)))|((try apply Or.inl);refine⟨_,aq.x (h) (sd @Nat.zero_add),?_⟩;refine hN _ _ ?_;clear hN N)))
 exact aL (b:=gn t 1 16) (.inl rfl) (sd @Nat.zero_add) rfl
theorem oI (RP:Bh) (s:aG) (hn:fe s.az) (hg:s.az.aC.length<=1048576) (ht:s.az.ae.length<=1048576) (hs:∀t∈s.az.ae,t.bY.length<=1048576) (hl:s.cr.ae.length<=1048576):aq Tryz.prog 97 [.agg (aD s)] (.bool (j8 s)):=by
 refine aq.body eE rfl fun kM n0=>?_
 clear kM
 by_cases h0:(s.cr.ae.length:Int)=0
 ·have hd:decide ((s.cr.ae.length:Int)=0)=true:=decide_eq_true h0
  (try((repeat(revert hN;revert N;apply Pn.out));refine wk (tw @aD.eq_1 @hd) ?_;(repeat(refine Pn.mk ?_;intro N hN))))
  exact aL (b:=false) (.inl rfl) (sd @Nat.zero_add) (jA fun h=>by have:=h.some;omega)
 have hd:decide ((s.cr.ae.length:Int)=0)=false:=decide_eq_false h0
 have Ml:=mo s.az s.cr.ae hn hg ht hs hl
 have OU:=sI s.aw
 have key:aq Tryz.prog 169 [.agg (aa s.az),.agg [.sl (s.cr.ae.map ai)],.int .i64 s.aw] (.im [.bool (j8 s),.int .i64 (if mT s.az&&lQ s.az s.cr.ae then(if gn s.aw 1 16 then(if 64<gU s.az s.cr.ae s.aw then 4 else 0)else 2)else 1)]):=by
  refine aq.body eE rfl fun kM n0=>?_
  clear kM
  rw[aa]at Ml
  cases hA:mT s.az&&lQ s.az s.cr.ae
  ·rw[hA]at Ml
   have kN:j8 s=false:=(jA fun h=>by rw[kD.2 h.set,kd.2 h.Ky]at hA;cases hA).symm
   (repeat(first|((repeat(revert hN;revert N;apply Pn.out));refine wk @aa.eq_1 ?_;(repeat(refine Pn.mk ?_;intro N hN)))|((try apply Or.inl);refine⟨_,aq.x (Ml) (sd @aa.eq_1),?_⟩;refine hN _ _ ?_;clear hN N)))
   exact jc (.inl rfl) (r1:=.bool false) (r2:=.int .i64 1) (sd @Nat.zero_add) (sd @Nat.zero_add) (by rw[kN];simp only[dZ,aS,bm,fB,dr,Option.map_some];rfl)
  rw[hA]at Ml
  simp only[Bool.and_eq_true]at hA
  have hS:=kD.1 hA.1
  have hP:=kd.1 hA.2
  cases hT:gn s.aw 1 16
  ·rw[hT]at OU
   have kN:j8 s=false:=(jA fun h=>by have:=h.IE;rw[hT]at this;cases this).symm
   (repeat(first|((repeat(revert hN;revert N;apply Pn.out));refine wk @aa.eq_1 ?_;(repeat(refine Pn.mk ?_;intro N hN)))|((try apply Or.inl);refine⟨_,aq.x (Ml) (sd @aa.eq_1),?_⟩;refine hN _ _ ?_;clear hN N)|((try apply Or.inl);refine⟨_,aq.x (OU) (sd @aa.eq_1),?_⟩;refine hN _ _ ?_;clear hN N)))
   exact jc (.inl rfl) (r1:=.bool false) (r2:=.int .i64 2) (sd @Nat.zero_add) (sd @Nat.zero_add) (by rw[kN];simp only[dZ,aS,bm,fB,dr,Option.map_some];rfl)
  have JS:=dM hT
  rw[hT]at OU
  have dL:=Iq RP s.az s.cr.ae s.aw (by omega) (by omega) hS hP
  rw[aa]at dL
  have hsy:j8 s=mD s.az s.cr.ae s.aw:=by
   cases hB:mD s.az s.cr.ae s.aw
   ·exact(jA fun h=>by have:=oe.2 h.holds;rw[hB]at this;cases this).symm
   ·exact(AM ⟨hS,hP,by omega,hT,oe.1 hB⟩).symm
  by_cases sF:64<gU s.az s.cr.ae s.aw
  ·rw[decide_eq_false fun h=>h sF]at dL
   have kN:j8 s=false:=(jA fun h=>by have:=h.holds.1;unfold gU at sF;omega).symm
   (repeat(first|((repeat(revert hN;revert N;apply Pn.out));refine wk @aa.eq_1 ?_;(repeat(refine Pn.mk ?_;intro N hN)))|((try apply Or.inl);refine⟨_,aq.x (Ml) (sd @aa.eq_1),?_⟩;refine hN _ _ ?_;clear hN N)|((try apply Or.inl);refine⟨_,aq.x (OU) (sd @aa.eq_1),?_⟩;refine hN _ _ ?_;clear hN N)|((try apply Or.inl);refine⟨_,aq.x (dL) (sd @aa.eq_1),?_⟩;refine hN _ _ ?_;clear hN N)))
   exact jc (.inl rfl) (r1:=.bool false) (r2:=.int .i64 4) (sd @Nat.zero_add) (sd @Nat.zero_add) (by rw[kN,if_pos sF];simp only[dZ,aS,bm,fB,dr,Option.map_some])
  ·rw[decide_eq_true sF,<-hsy]at dL
   (repeat(first|((repeat(revert hN;revert N;apply Pn.out));refine wk @aa.eq_1 ?_;(repeat(refine Pn.mk ?_;intro N hN)))|((try apply Or.inl);refine⟨_,aq.x (Ml) (sd @aa.eq_1),?_⟩;refine hN _ _ ?_;clear hN N)|((try apply Or.inl);refine⟨_,aq.x (OU) (sd @aa.eq_1),?_⟩;refine hN _ _ ?_;clear hN N)|((try apply Or.inl);refine⟨_,aq.x (dL) (sd @aa.eq_1),?_⟩;refine hN _ _ ?_;clear hN N)))
   exact jc (.inl rfl) (r1:=.bool (j8 s)) (r2:=.int .i64 0) (sd @Nat.zero_add) (sd @Nat.zero_add) (by rw[if_neg sF];simp only[dZ,aS,bm,fB,dr,Option.map_some])
 generalize hcode:(if mT s.az&&lQ s.az s.cr.ae then(if gn s.aw 1 16 then(if 64<gU s.az s.cr.ae s.aw then(4:Int)else 0)else 2)else 1)=code at key
 rw[aa]at key
 cases hB:j8 s
 ·rw[hB]at key
  (repeat(first|((repeat(revert hN;revert N;apply Pn.out));refine wk (tw @aD.eq_1 @hd) ?_;(repeat(refine Pn.mk ?_;intro N hN)))|((try apply Or.inl);refine⟨_,aq.x (key) (sd (tw @aD.eq_1 @hd)),?_⟩;refine hN _ _ ?_;clear hN N)))
  exact aL (b:=false) (.inl rfl) (sd @Nat.zero_add) rfl
 ·rw[hB]at key
  have hP:=qD.1 hB
  have hc:code=0:=by
   rw[<-hcode,kD.2 hP.set,kd.2 hP.Ky,hP.IE]
   have:=hP.holds.1
   simp only[Bool.and_self,if_true]
   rw[if_neg (by unfold gU;omega)]
  rw[hc]at key
  (repeat(first|((repeat(revert hN;revert N;apply Pn.out));refine wk (tw @aD.eq_1 @hd) ?_;(repeat(refine Pn.mk ?_;intro N hN)))|((try apply Or.inl);refine⟨_,aq.x (key) (sd (tw @aD.eq_1 @hd)),?_⟩;refine hN _ _ ?_;clear hN N)))
  exact aL (b:=true) (.inl rfl) (sd @Nat.zero_add) rfl
end Go.Proofs.YtgoljkjaameagaaGreat.V

namespace Go.Proofs.YtgoljkjaameagaaGreat.V
open Go.RowKit Go.Shelf
attribute [local go_sem] Oper.semAt_some
def gN (n₀:Nat) (W W':World):Prop:=W.heap.size<=W'.heap.size/\(∀(b:Nat) (cells:Array Value) (T:TypeId) (fr:Nat×Nat),W.heap[b]? =some (Obj.cells cells T fr)->T≠179->T≠254->W'.heap[b]? =W.heap[b]?)/\∀k,k<n₀->k<W.heap.size->W'.heap[k]? =W.heap[k]?
theorem gN.trans {n₀:Nat} {A B C:World} (h:gN n₀ A B) (k:gN n₀ B C):gN n₀ A C:=⟨Nat.le_trans h.1 k.1,fun b cells T fr hb h1 h2=>by
 have e:=h.2.1 b cells T fr hb h1 h2
 rw[<-e]at hb ⊢
 exact k.2.1 b cells T fr hb h1 h2,fun b hb hs=>(k.2.2 b hb (Nat.lt_of_lt_of_le hs h.1)).trans (h.2.2 b hb hs)⟩
theorem gN.of {n₀:Nat} {W W':World} (h:Below W.heap.size W W'):gN n₀ W W':=⟨h.size,fun b cells T fr hb _ _=>h.block b (Array.getElem?_eq_some_iff.1 hb).1,fun k _ hs=>h.block k hs⟩
theorem gN.refl (n₀:Nat) (W:World):gN n₀ W W:=⟨Nat.le_refl _,fun _ _ _ _ _ _ _=>rfl,fun _ _ _=>rfl⟩
theorem gN.b {n₀ m:Nat} (hm:n₀<=m) (W:World) (l:Nat) (o o':Obj) (hl:m<=l) (h:W.heap[l]? =some o) (hc:o.isCells=false) (_:o.isWalk=false):gN n₀ W (W.putObj l o'):=by
 refine⟨by simp,fun b cells T fr hb _ _=>?_,fun k hk _=>World.putObj_heap_other (by omega)⟩
 by_cases mM:b=l
 ·subst mM;rw[h]at hb;cases hb;cases hc
 ·exact World.putObj_heap_other mM
def Jk (bs:List PB):List Value:=bs.flatMap fun b=>[.int .i64 b.a,.int .i64 b.b,.int .i64 b.s]
theorem GO (bs:List PB) (b:PB):Jk (bs++[b])=Jk bs++[.int .i64 b.a,.int .i64 b.b,.int .i64 b.s]:=by simp[Jk]
def mJ (s:au) (l:List ad) (pre:List (Lz l)):List PB:=(pre.map (·.1)).flatMap (xu s l)
theorem wc (s:au) (l:List ad) (pre:List (Lz l)) (x:Lz l):mJ s l (pre++[x])=mJ s l pre++xu s l x.1:=by simp[mJ]
theorem GN (s:au) (l:List ad) (x:Nat×Nat×Int):(xu s l x).length<=1:=by
 unfold xu;split<;>simp
theorem GP (s:au) (l:List ad) (pre:List (Lz l)):(mJ s l pre).length<=pre.length:=by
 unfold mJ
 induction pre with
 |nil=>simp
 |cons x r ih=>
  have:=GN s l x.1
  simp only[List.map_cons,List.flatMap_cons,List.length_append,List.length_cons]at ih ⊢
  omega
theorem w7 (l:List ad) (i:Nat):∀m,(kn l i m).length<=m
 |0=>by simp[kn]
 |m+1=>by
  rw[lZ,List.length_append]
  have:=w7 l i m
  have:(Ay l i (1-(m:Int))).length<=1:=by unfold Ay;split<;>simp
  omega
theorem Az (l:List ad):∀n,(kS l n).length<=n*2
 |0=>by simp[kS]
 |n+1=>by
  rw[lE,List.length_append]
  have:=Az l n
  have:=w7 l n 2
  omega
theorem zN {β:Type} (B:Nat) (c:Array Value) (t:TypeId) (fr:Nat×Nat):Own (fun(_:β) W=>W.heap[B]? =some (.cells c t fr)):=fun _ X _ row h hg hr=>(hg.block B (Array.getElem?_eq_some_iff.1 h).1 (fun e=>by
 obtain⟨o,ho,hc⟩:=hr B e.symm
 rw[h]at ho;cases ho;cases hc)).trans h
theorem gN.app {n₀:Nat} {W w1:World} {B k:Nat} {v v':Value} {xs:List Value} {tmp:Obj} (hv:Boxed W B 179 v) (eX:W.ownsRow n₀ 254 3 v k xs) (wH:(W.alloc tmp).grownBy w1 v.ownBlock) (hb:Below n₀ W (w1.setCell ⟨B,0,none⟩ v')):gN n₀ W (w1.setCell ⟨B,0,none⟩ v'):=by
 refine⟨hb.size,fun b cells T fr h h1 h2=>?_,fun k hk _=>hb.block k hk⟩
 have dJ:=(Array.getElem?_eq_some_iff.1 h).1
 have hbB:b≠B:=by
  rintro rfl
  rw[show W.heap[b]? = _ from hv]at h
  cases h
  exact h1 rfl
 have QI:some b≠v.ownBlock:=by
  rcases eX.2 with⟨rfl,_⟩|⟨g,cap,cur,rfl,_,hg,_⟩
  ·simp[Value.ownBlock]
  ·intro e
   obtain rfl:b=g:=by simpa[Value.ownBlock]using e
   rw[hg]at h;cases h
   exact h2 rfl
 refine(Below.heap_setCell w1 ⟨B,0,none⟩ v' b hbB).trans ?_
 exact(wH.block b (by simp;omega) QI).trans (Below.heap_alloc W tmp b dJ)
theorem PQ {w:World} {vS:Value} {l:List ad} (hP:ot w vS l):Gw (gN w.heap.size) vS l where
 refl:=gN.refl _
 trans:=gN.trans
 of:=gN.of
 size h:=h.1
 typed h:=h.2.1
 pl {W W'} h hp:=by
  obtain⟨A,c,rfl,hm,hc⟩:=hp.sl
  refine⟨A,c,rfl,hm,?_⟩
  by_cases hl:l=[]
  ·exact .inl hl
  have kO:0<l.length:=List.length_pos_iff.2 hl
  rcases hc with h0|⟨b,o,rfl,jV⟩
  ·exact absurd h0 hl
  obtain⟨A',c',e,_,jR⟩:=hP.sl
  cases e
  rcases jR with h0|⟨b',o',e,hcell'⟩
  ·exact absurd h0 hl
  cases e
  have hb:=sO (hcell' 0 kO).1
  have hk:=h.2.2 b hb (sO (jV 0 kO).1)
  refine .inr ⟨b,o,rfl,fun i hi=>?_⟩
  have zM:∀x,W'.cell? ⟨b,x,none⟩=W.cell? ⟨b,x,none⟩:=fun x=>World.cell?_of_block hk
  rw[zM,zM,zM]
  exact jV i hi
theorem rrE {P:Program} {nt site0:Nat} {ops:Array Oper} {vl:List bf} (_:xx P ops site0 false (jf ops) (ql P false ops.toList 0) ops.toList 0=some vl:=by(conv=>lhs;cbv)<;>exact rfl) (h:pW P nt site0 ops true false=some vl:=by kernel_rfl):pW P nt site0 ops true false=some vl:=h
theorem HO (l:List Value) (d:Value):l=(List.range l.length).map fun i=>(⟨l⟩:Array Value).getD i d:=by
 refine List.ext_getElem (by simp) fun i h1 h2=>?_
 simp[h1]
theorem CJ {X:ft} {d:Bool} {ops:List bf} {K:Env->ax->Prop} {env:Env} {σ:ax} (h:ej X (.eJ d ops) (fun _=>K) env σ):wpOps X d ops K env σ:=h
theorem tC (W:World) (T:TypeId) (x y z:Value):∀(j:Nat) (u:Value),[x,y,z][j]? =some u->(W.alloc (.cells #[x,y,z] T)).cell? ((⟨W.heap.size,0,none⟩:Addr).add j)=some u:=fun j u h=>by
 have hb:(W.alloc (.cells #[x,y,z] T)).heap[W.heap.size]? =some (.cells #[x,y,z] T (0,0)):=World.alloc_heap_new _ _
 have e:∀k,(W.alloc (.cells #[x,y,z] T)).cell? ⟨W.heap.size,k,none⟩=(#[x,y,z]:Array Value)[k]? :=fun k=>by
  unfold World.cell?
  rw[show(W.alloc (.cells #[x,y,z] T)).heap[(⟨W.heap.size,k,none⟩:Addr).block]? = _ from hb]
  rfl
 rw[show(⟨W.heap.size,0,none⟩:Addr).add j=⟨W.heap.size,j,none⟩ by simp[Addr.add];exact fun h=>h.symm,e]
 simpa using h
def GX (n b:Nat):Names:=fun id=>if id=⟨1,0⟩then some ⟨n,2,2,none⟩else if id=⟨2,0⟩then some ⟨n+1,1,1,none⟩else if id=⟨3,0⟩then some ⟨n+1+1,1,1,none⟩else if id=⟨4,0⟩then some ⟨b,2,2,none⟩else if id=⟨5,0⟩then some ⟨n+1+1+1,1,1,none⟩else none
def K1 (s:au) (l:List ad) (i k:Nat):Rows:=fun id=>if id=⟨1,0⟩then some ⟨false,2,[aa s]⟩else if id=⟨2,0⟩then some ⟨false,1,[[.sl (l.map ai)]]⟩else if id=⟨4,0⟩then some ⟨false,2,[[.int .i64 (i:Int),.int .i64 (k:Int)]]⟩else none
def LR (s:au) (l:List ad) (i k:Nat) (d:Int):Env:=bZ [.agg (aa s),.agg [.sl (l.map ai)],.ptr ⟨1,0⟩ 0 0,.ptr ⟨2,0⟩ 0 0,.cq,.ptr ⟨3,0⟩ 0 0,.ptr ⟨4,0⟩ 0 0,.int .i64 d,.undef,.agg [.sl (l.map ai)],.fn 302 [.ptr ⟨5,0⟩ 0 0],.agg [.int .i64 (i:Int),.int .i64 (k:Int)],.int .i64 d]
theorem CR {P:Program} {W:World} {D:Nat->Prop} {ι:Names} {B:sr} {cells:Array Value} {T:TypeId} {cs:List AV} (hk:B.k=none) (hb:W.heap[B.b]? =some (.cells cells T (0,0))) (hC:cells.size=B.C) (hz:B.sz=cs.length) (hl:cs.length=cells.size) (hf:∀a∈cs,a.cell=true) (hr:∀(j:Nat) (a:AV),cs[j]? =some a->∃v,cells[j]? =some v/\da P W D ι a v):iQ P W D ι B ⟨false,cs.length,[cs]⟩:=
 kc.obj ⟨hz,⟨cells,T,hb,hC⟩,by simp;omega,fun c hc=>by simp at hc;rw[hc],fun c hc=>by simp at hc;rw[hc];exact hf,fun i j c a hi hj=>by
  match i,hi with
  |0,hi=>
   simp at hi;subst hi
   obtain⟨v,h1,h2⟩:=hr j a hj
   exact⟨v,by simp[World.cell?,hb,h1],h2⟩
  |i+1,hi=>simp at hi⟩ hk
theorem HE:(Tryz.prog.info? 254).map (fun i=>(i.zero,i.size,i.bytes))=some (some (.agg #[.int .i64 0,.int .i64 0,.int .i64 0]),3,24):=by kernel_rfl
end Go.Proofs.YtgoljkjaameagaaGreat.V

namespace Go.Proofs.YtgoljkjaameagaaGreat.V
open Go.RowKit Go.Shelf
attribute [local go_sem] Oper.semAt_some
attribute [local irreducible] ej wpOps fQ Call
attribute [local go_sem] aH fq eD fH fG cV upd bZ K.av cC AV.cells AV.cell rowOf rowsOf part ld rowAt bK bR du dQ gE bB cR eb fF eL dh dV cP cN dD dE bF aT cG bE cI cH dS dW dU cF bJ cQ dR bD aJ cK cm gD bd cz bG aP dn aX dv AV.undef bj bx dG dO dz dF cu ea ei ck dY dX cJ cL List.getD_cons_zero List.getD_cons_succ List.getD_nil List.all_cons List.all_nil Bool.and_true Bool.true_and Bool.and_self Bool.not_true Bool.not_false Option.map_some Option.map_none Option.bind_some Option.bind_none List.length_cons List.length_nil List.take_succ_cons List.take_zero List.take_nil List.drop_succ_cons List.drop_zero List.drop_nil List.head?_cons List.map_cons List.map_nil List.getElem?_cons_zero List.getElem?_cons_succ List.cons_append List.nil_append List.append_nil List.length_map List.set_cons_zero List.set_cons_succ Nat.reduceMul eq_self Int.toNat_natCast Int.natCast_nonneg and_self true_and and_true decide_true decide_false Bool.false_eq_true Nat.zero_add Nat.add_zero List.contains_cons List.contains_nil Bool.or_false Bool.false_or beq_self_eq_true Nat.reduceBEq ne_eq not_true_eq_false not_false_eq_true Id.mk.injEq false_and and_false Nat.reduceLT Int.reduceLE Int.reduceLT Int.reduceToNat Int.reduceNeg Int.reduceAdd Nat.le_refl List.length_append beq_true beq_false Bool.not_eq_eq_eq_not or_false false_or eo aj ar aK aV bp bW aQ aZ aN aU cD bI
theorem GV (s:au) (l:List ad) (hF:iH s) (hA:jM s l) (w:World) (Ag At:Option Addr) (ng cg nt ct:Nat) (vS:Value) (hT:jC Tryz.prog w (fun b=>b<w.heap.size) (.agg (aa s)) (.agg #[.slice Ag ng cg,.slice At nt ct])) (hP:ot w vS l):
  CallsIn Fence.wide 5 Tryz.prog 205 #[.agg #[.slice Ag ng cg,.slice At nt ct],.agg #[vS]] w fun e W'=>∃v,e=.returned v/\W'.ownsRow w.heap.size 254 3 v (cU s l).length (Jk (cU s l))/\(v=.slice none 0 0↔cU s l=[])/\Below w.heap.size w W':=by
 obtain⟨A,cp,rfl,_,_⟩:=hP.sl
 obtain⟨i0,hi,Ja,wP,kQ⟩:=info_parts HE
 refine callsIn_of_wp_marks Tryz.func205 rfl trivial ?_ rfl
 simp only[Tryz.ntmps205,List.size_toArray,List.length_cons,List.length_nil,Nat.reduceAdd,Nat.reduceSub,Array.replicate_succ,Array.replicate_zero,List.push_toArray,List.append_toArray,List.nil_append,List.cons_append]
 gi_wp2_with (refine⟨trivial,?_⟩;gi_at_call 260;refine(yi _ _ _).mono ?_;rintro e w' ⟨rfl,rfl⟩)
 have bT:((w.alloc (.cells #[.slice Ag ng cg,.slice At nt ct] 39)).heap[w.heap.size]?)=some (.cells #[.slice Ag ng cg,.slice At nt ct] 39 (0,0)):=World.alloc_heap_new _ _
 obtain⟨w1,rn⟩:∃w1,w.alloc (.cells #[.slice Ag ng cg,.slice At nt ct] 39)=w1:=⟨_,rfl⟩
 have Of:w1.heap.size=w.heap.size+1:=by rw[<-rn];simp
 have DK:Below w.heap.size w w1:=by rw[<-rn];exact(Below.refl _ w).alloc (Nat.le_refl _) _
 rw[rn]at bT ⊢
 clear rn
 have bA:=Boxed.new w1 42 (.slice A l.length cp)
 have bO:=Boxed.new (w1.alloc (.cells #[.slice A l.length cp] 42)) 179 (.slice none 0 0)
 have bN:=Boxed.new ((w1.alloc (.cells #[.slice A l.length cp] 42)).alloc (.cells #[.slice none 0 0] 179)) 42 (.slice A l.length cp)
 replace bA:=(bA.alloc (.cells #[.slice none 0 0] 179)).alloc (.cells #[.slice A l.length cp] 42)
 replace bO:=bO.alloc (.cells #[.slice A l.length cp] 42)
 simp only[World.size_alloc,Of]at bA bO bN
 have re:Below w1.heap.size w1 (((w1.alloc (.cells #[.slice A l.length cp] 42)).alloc (.cells #[.slice none 0 0] 179)).alloc (.cells #[.slice A l.length cp] 42)):=(((Below.refl _ w1).alloc (Nat.le_refl _) _).alloc (by simp) _).alloc (by simp;omega) _
 have eW:(((w1.alloc (.cells #[.slice A l.length cp] 42)).alloc (.cells #[.slice none 0 0] 179)).alloc (.cells #[.slice A l.length cp] 42)).heap.size=w.heap.size+4:=by simp;omega
 obtain⟨W0,OV⟩:∃W0,((w1.alloc (.cells #[.slice A l.length cp] 42)).alloc (.cells #[.slice none 0 0] 179)).alloc (.cells #[.slice A l.length cp] 42)=W0:=⟨_,rfl⟩
 rw[OV]at bA bO bN re eW ⊢
 clear OV
 have uY:Below w.heap.size w W0:=DK.trans (re.mono (by omega))
 replace bT:=(re.block w.heap.size (by omega)).trans bT
 have hP0:ot W0 (.slice A l.length cp) l:=hP.below uY
 have kl:=PQ hP
 have mM:=oY (s:=s) hA.1
 refine wpIn_rangeFunc_ownH (n:=5) rfl (by omega) (gf:=302) (lb:= #[.pointer (some ⟨w.heap.size+1+1+1,0,none⟩)]) rfl trivial (enters_of Tryz.func302 (by kernel_rfl) rfl)
  (HV l hA.1 (w.heap.size+1+1+1) (5-1) (by omega) (.slice A l.length cp) (gN w.heap.size) kl W0 bN hP0) gN.trans (gN.b (by omega)) (Below.refl _ _) (fun _=>rfl)
  (fun pre W=>((∃v,Boxed W (w.heap.size+1+1) 179 v/\W.ownsRow w.heap.size 254 3 v (mJ s l pre).length (Jk (mJ s l pre))/\(v=.slice none 0 0↔mJ s l pre=[]))/\(Boxed W (w.heap.size+1) 42 (.slice A l.length cp)/\W.heap[w.heap.size]? =some (.cells #[.slice Ag ng cg,.slice At nt ct] 39 (0,0))))/\Below w.heap.size w W)
  (fun _ _ _=>False)
  (OwnFrom.and (OwnFrom.and (Own.from (holdsRow_own w.heap.size (w.heap.size+1+1) 179 254 3 (fun pre=>(mJ s l pre).length) (fun pre=>Jk (mJ s l pre)) (fun pre v=>v=.slice none 0 0↔mJ s l pre=[])) _) (OwnFrom.and (Own.from (boxed_own _ _ _) _) (Own.from (zN _ _ _ _) _))) (ownFrom_below (Nat.le_refl _) (by omega)))
  (fun _ _ _ _ _ hs _ _=>hs)
  ⟨⟨⟨_,bO,World.ownsRow_nil _ _ _ _,by simp[mJ]⟩,bA,bT⟩,uY⟩
  (fun x a' W=>∃Bx,w.heap.size+1+1<Bx/\W.heap[Bx]? =some (.cells #[.int .i64 (x.1.1:Int),.int .i64 (x.1.2.1:Int)] 322 (0,0))/\a'={tmps:= #[.agg #[.slice Ag ng cg,.slice At nt ct],.agg #[.slice A l.length cp],.pointer (some ⟨w.heap.size,0,none⟩),.pointer (some ⟨w.heap.size+1,0,none⟩),.slice none 0 0,.pointer (some ⟨w.heap.size+1+1,0,none⟩),.pointer (some ⟨Bx,0,none⟩),.int .i64 x.1.2.2,undef,.agg #[.slice A l.length cp],.func (.func 302) #[] #[.pointer (some ⟨w.heap.size+1+1+1,0,none⟩)],.agg #[.int .i64 (x.1.1:Int),.int .i64 (x.1.2.1:Int)],.int .i64 x.1.2.2,undef,undef,undef,undef,undef,undef,undef,undef,undef,undef,undef,undef,undef,undef,undef,undef,undef,undef,undef,undef,undef,undef,undef,undef,undef,undef,undef,undef,undef],defers:=[]})
  (fun x a' _ X Y row hs hg hr=>by obtain⟨Bx,h1,h2,h3⟩:=hs;exact⟨Bx,h1,zN Bx _ _ _ () X Y row h2 hg (fun r e=>(hr r e).2),h3⟩)
  ?assign ?body ?done ?stop
 case assign=>
  rintro q pre ⟨⟨x0,x1,x2⟩,hx⟩ W K ⟨⟨⟨v,hv,eX,hnil⟩,bA1,bT1⟩,hB⟩ hK
  simp only[Dz]
  gi_wp2
  exact hK _ _ ((KeepsOthers.alloc _ _).from _) (gN.of ((Below.refl _ W).alloc (Nat.le_refl _) _)) ⟨⟨⟨v,hv.alloc _,eX.alloc _,hnil⟩,bA1.alloc _,(Below.heap_alloc _ _ _ (Array.getElem?_eq_some_iff.1 bT1).1).trans bT1⟩,hB.alloc hB.size _⟩ ⟨W.heap.size,hv.lt,World.alloc_heap_new _ _,rfl⟩
 case body=>
  rintro q pre ⟨⟨x0,x1,x2⟩,hx⟩ a' W hq hqr ⟨⟨⟨v,hv,eX,hnil⟩,bA1,bT1⟩,hB⟩ ⟨Bx,hBx,bX,rfl⟩ dJ
  obtain⟨Be,Li,y4⟩:=hx
  simp only at Be Li y4 bX
  obtain⟨A',c',e',_,hc⟩:=(hP.below hB).sl
  cases e'
  have dp:∃b o,A=some ⟨b,o,none⟩/\W.cell? ⟨b,o+x0*3+2,none⟩=some (.int .i64 (aO l x0).bq)/\W.cell? ⟨b,o+x1*3+2,none⟩=some (.int .i64 (aO l x1).bq):=by
   rcases hc with rfl|⟨b,o,rfl,jV⟩
   ·simp at Be
   ·exact⟨b,o,rfl,by rw[Nat.add_assoc];exact(jV x0 Be).2.2,by rw[Nat.add_assoc];exact(jV x1 Li).2.2⟩
  obtain⟨b,o,rfl,cP0,cP1⟩:=dp
  have cT0:W.cell? ⟨w.heap.size,0,none⟩=some (.slice Ag ng cg):=by simp[World.cell?,bT1]
  have cT1:W.cell? ⟨w.heap.size,1,none⟩=some (.slice At nt ct):=by simp[World.cell?,bT1]
  have RE:W.cell? ⟨Bx,0,none⟩=some (.int .i64 (x0:Int)):=by simp[World.cell?,bX]
  have RF:W.cell? ⟨Bx,1,none⟩=some (.int .i64 (x1:Int)):=by simp[World.cell?,bX]
  have cA:=bA1.cell
  have dP0:W.drew.cell? ⟨b,o+x0*3+2,none⟩=some (.int .i64 (aO l x0).bq):=cP0
  have dP1:W.drew.cell? ⟨b,o+x1*3+2,none⟩=some (.int .i64 (aO l x1).bq):=cP1
  have dT0:W.drew.cell? ⟨w.heap.size,0,none⟩=some (.slice Ag ng cg):=cT0
  have dT1:W.drew.cell? ⟨w.heap.size,1,none⟩=some (.slice At nt ct):=cT1
  have dX0:W.drew.cell? ⟨Bx,0,none⟩=some (.int .i64 (x0:Int)):=RE
  have dX1:W.drew.cell? ⟨Bx,1,none⟩=some (.int .i64 (x1:Int)):=RF
  have dA:W.drew.cell? ⟨w.heap.size+1,0,none⟩=some (.slice (some ⟨b,o,none⟩) l.length cp):=cA
  have oD:∀i,i<l.length->aO l i∈l:=fun i hi=>by
   unfold aO
   rw[List.getD_eq_getElem?_getD,List.getElem?_eq_getElem hi]
   exact List.getElem_mem hi
  have SI:=mixed
  have hfw:=hA.1.A6
  have QJ:=GR s hF (aO l x0).bq x2 (aO l x1).bq (hA.2 _ (oD x0 Be)) (hA.2 _ (oD x1 Li)) (gr (by omega))
  have hTW:jC Tryz.prog W (fun b=>b<w.heap.size) (.agg (aa s)) (.agg #[.slice Ag ng cg,.slice At nt ct]):=hT.frame (fun b hb=>hB.block b hb) (fun _ h=>h)
  have hAW:jC Tryz.prog W (fun b=>b<w.heap.size) (.sl (l.map ai)) (.slice (some ⟨b,o,none⟩) l.length cp):=hP.eO.frame (fun b hb=>hB.block b hb) (fun _ h=>h)
  obtain⟨fT,hT0,Sc⟩:∃f:Nat->Value,(∀j,j<(aa s).length->(#[Value.slice Ag ng cg,.slice At nt ct])[j]? =some (f j))/\∀j a,(aa s)[j]? =some a->jC Tryz.prog W (fun b=>b<w.heap.size) a (f j):=by
   cases hTW with
   |agg _ _ f _ _ h3 h4=>exact⟨f,h3,h4⟩
  have dL:St Tryz.prog W.heap.size 42 (fun b=>b<w.heap.size) (GX w.heap.size Bx) (LR s l x0 x1 x2) ⟨K1 s l x0 x1,1⟩ {tmps:= #[.agg #[.slice Ag ng cg,.slice At nt ct],.agg #[.slice (some ⟨b,o,none⟩) l.length cp],.pointer (some ⟨w.heap.size,0,none⟩),.pointer (some ⟨w.heap.size+1,0,none⟩),.slice none 0 0,.pointer (some ⟨w.heap.size+1+1,0,none⟩),.pointer (some ⟨Bx,0,none⟩),.int .i64 x2,undef,.agg #[.slice (some ⟨b,o,none⟩) l.length cp],.func (.func 302) #[] #[.pointer (some ⟨w.heap.size+1+1+1,0,none⟩)],.agg #[.int .i64 (x0:Int),.int .i64 (x1:Int)],.int .i64 x2,undef,undef,undef,undef,undef,undef,undef,undef,undef,undef,undef,undef,undef,undef,undef,undef,undef,undef,undef,undef,undef,undef,undef,undef,undef,undef,undef,undef,undef],defers:=[]} W:=by
   have n1:(GX w.heap.size Bx) ⟨1,0⟩=some ⟨w.heap.size,2,2,none⟩:=rfl
   have n2:(GX w.heap.size Bx) ⟨2,0⟩=some ⟨w.heap.size+1,1,1,none⟩:=rfl
   have n3:(GX w.heap.size Bx) ⟨3,0⟩=some ⟨w.heap.size+1+1,1,1,none⟩:=rfl
   have n4:(GX w.heap.size Bx) ⟨4,0⟩=some ⟨Bx,2,2,none⟩:=rfl
   have n5:(GX w.heap.size Bx) ⟨5,0⟩=some ⟨w.heap.size+1+1+1,1,1,none⟩:=rfl
   have rp:∀(id:Id) (B:sr),(GX w.heap.size Bx) id=some B->B.k=none->da Tryz.prog W (fun b=>b<w.heap.size) (GX w.heap.size Bx) (.ptr id 0 0) (.pointer (some ⟨B.b,0,none⟩)):=fun id B h hk=>by
    have:=da.ptr (P:=Tryz.prog) (w:=W) (D:=fun b=>b<w.heap.size) id 0 0 B h hk
    simpa using this
   have ri:∀n:Int,da Tryz.prog W (fun b=>b<w.heap.size) (GX w.heap.size Bx) (.int .i64 n) (.int .i64 n):=fun n=>.eO _ _ (.int _ _)
   have hA1:jC Tryz.prog W (fun b=>b<w.heap.size) (.agg [.sl (l.map ai)]) (.agg #[.slice (some ⟨b,o,none⟩) l.length cp]):=.agg _ _ (fun _=>.slice (some ⟨b,o,none⟩) l.length cp) rfl (fun a ha=>by simp at ha;rw[ha];rfl) (fun j hj=>by match j,hj with|0,_=>rfl|j+1,hj=>simp at hj) (fun j a ha=>by match j,ha with|0,ha=>simp at ha;subst ha;exact hAW|j+1,ha=>simp at ha)
   refine⟨⟨Nat.le_refl _,fun b hb=>Nat.lt_of_lt_of_le hb hB.size,fun id r hg=>?_,fun id kJ r r' B B' h _ hw=>?_⟩,fun id hid=>?_,fun t=>?_,rfl⟩
   ·replace hg:K1 s l x0 x1 id=some r:=hg
    unfold K1 at hg
    split at hg
    ·rename_i e;subst e;injection hg with hg;subst hg
     exact⟨_,n1,CR (cs:=aa s) rfl bT1 rfl rfl rfl (fun a ha=>by simp[aa]at ha;rcases ha with rfl|rfl<;>rfl) (fun j a ha=>⟨_,hT0 j (List.getElem?_eq_some_iff.1 ha).1,.eO _ _ (Sc j a ha)⟩),fun h=>(by cases h),fun h=>(by cases h)⟩
    ·split at hg
     ·rename_i e;subst e;injection hg with hg;subst hg
      exact⟨_,n2,CR (cs:=[.sl (l.map ai)]) rfl bA1 rfl rfl rfl (fun a ha=>by simp at ha;rw[ha];rfl) (fun j a ha=>by match j,ha with|0,ha=>simp at ha;subst ha;exact⟨_,rfl,.eO _ _ hAW⟩|j+1,ha=>simp at ha),fun h=>(by cases h),fun h=>(by cases h)⟩
     ·split at hg
      ·rename_i e;subst e;injection hg with hg;subst hg
       exact⟨_,n4,CR (cs:=[.int .i64 (x0:Int),.int .i64 (x1:Int)]) rfl bX rfl rfl rfl (fun a ha=>by simp at ha;rcases ha with rfl|rfl<;>rfl) (fun j a ha=>by match j,ha with|0,ha=>simp at ha;subst ha;exact⟨_,rfl,ri _⟩|1,ha=>simp at ha;subst ha;exact⟨_,rfl,ri _⟩|j+2,ha=>simp at ha),fun h=>(by cases h),fun h=>(by cases h)⟩
      ·cases hg
   ·exfalso
    replace h:K1 s l x0 x1 id=some r:=h
    unfold K1 at h
    split at h
    ·injection h with h;subst h;cases hw
    ·split at h
     ·injection h with h;subst h;cases hw
     ·split at h
      ·injection h with h;subst h;cases hw
      ·cases h
   ·left
    unfold GX at hid
    repeat' (split at hid)
    all_goals first|(rename_i e;subst e;exact Nat.zero_lt_one)|exact absurd rfl hid
   ·match t with
    |0=>exact .eO _ _ hTW
    |1=>exact .eO _ _ hA1
    |2=>exact rp _ _ n1 rfl
    |3=>exact rp _ _ n2 rfl
    |4=>exact .eO _ _ .cq
    |5=>exact rp _ _ n3 rfl
    |6=>exact rp _ _ n4 rfl
    |7=>exact ri _
    |8=>exact da.undef
    |9=>exact .eO _ _ hA1
    |10=>exact .fn _ _ _ (fun _=>.pointer (some ⟨w.heap.size+1+1+1,0,none⟩)) (by kernel_rfl) rfl (fun j hj=>by match j,hj with|0,_=>rfl|j+1,hj=>simp at hj) (fun j a ha=>by match j,ha with|0,ha=>simp at ha;subst ha;exact rp _ _ n5 rfl|j+1,ha=>simp at ha)
    |11=>exact .agg _ _ (fun j=>if j=0 then .int .i64 (x0:Int)else .int .i64 (x1:Int)) rfl (fun a ha=>by simp at ha;rcases ha with rfl|rfl<;>rfl) (fun j hj=>by match j,hj with|0,_=>rfl|1,_=>rfl|j+2,hj=>simp at hj;omega) (fun j a ha=>by match j,ha with|0,ha=>simp at ha;subst ha;exact ri _|1,ha=>simp at ha;subst ha;exact ri _|j+2,ha=>simp at ha)
    |12=>exact ri _
    |13=>exact da.undef
    |14=>exact da.undef
    |15=>exact da.undef
    |16=>exact da.undef
    |17=>exact da.undef
    |18=>exact da.undef
    |19=>exact da.undef
    |20=>exact da.undef
    |21=>exact da.undef
    |22=>exact da.undef
    |23=>exact da.undef
    |24=>exact da.undef
    |25=>exact da.undef
    |26=>exact da.undef
    |27=>exact da.undef
    |28=>exact da.undef
    |29=>exact da.undef
    |30=>exact da.undef
    |31=>exact da.undef
    |32=>exact da.undef
    |33=>exact da.undef
    |34=>exact da.undef
    |35=>exact da.undef
    |36=>exact da.undef
    |37=>exact da.undef
    |38=>exact da.undef
    |39=>exact da.undef
    |40=>exact da.undef
    |41=>exact da.undef
    |t+42=>exact da.undef
  have hV:wpOps (Call Tryz.prog) true ?vl (fun e _=>e 5=.ptr ⟨3,0⟩ 0 0/\e 6=.ptr ⟨4,0⟩ 0 0/\e 8=.int .i64 (gC s (aO l x0).bq x2 (aO l x1).bq)) (LR s l x0 x1 x2) ⟨K1 s l x0 x1,1⟩:= ?hv
  gi_wp2
  refine yv mixed (rrE (nt:=42) (site0:=205005000)) (HX (by kernel_rfl)) (mh (fun _ _ _ _ h=>iA mixed h) oW (fun _ _ h=>h) _ _ _ hV) dL ?_
  rintro e1 σ1 ⟨tm,df⟩ w3 D1 ι1 ⟨h5,h6,h8⟩ T1 LC B9
  case hv=>
   refine CJ ?_
   have e0:=fj Be
   have e1:=fj Li
   (repeat(first|((repeat(revert hN;revert N;apply Pn.out));refine wk (tw @e0 (tw @e1 (tw @LR.eq_1 (tw @K1.eq_1 (tw @ai.eq_1 @aa.eq_1))))) ?_;(repeat(refine Pn.mk ?_;intro N hN)))|((try apply Or.inl);refine⟨_,aq.x (QJ) (sd (tw @e0 (tw @e1 (tw @LR.eq_1 (tw @K1.eq_1 (tw @ai.eq_1 @aa.eq_1)))))),?_⟩;refine hN _ _ ?_;clear hN N)))
   exact⟨sd @LR.eq_1,sd @LR.eq_1,sd @LR.eq_1⟩
  ·have zL:Below W.heap.size W w3:=T1.below
   have vG:∀id B,GX w.heap.size Bx id=some B->ι1 id=some B:=T1.names
   have p5:tm.getD 5 undef=.pointer (some ⟨w.heap.size+1+1,0,none⟩):=by
    have g:=LC.env 5
    rw[h5]at g
    obtain⟨B,e,hB,_⟩:=iz g
    have h:=vG ⟨3,0⟩ ⟨w.heap.size+1+1,1,1,none⟩ rfl
    rw[h]at hB;injection hB with hB;subst hB
    simpa using e
   have p6:tm.getD 6 undef=.pointer (some ⟨Bx,0,none⟩):=by
    have g:=LC.env 6
    rw[h6]at g
    obtain⟨B,e,hB,_⟩:=iz g
    have h:=vG ⟨4,0⟩ ⟨Bx,2,2,none⟩ rfl
    rw[h]at hB;injection hB with hB;subst hB
    simpa using e
   have p8:tm.getD 8 undef=.int .i64 (gC s (aO l x0).bq x2 (aO l x1).bq):=by
    have g:=LC.env 8
    rw[h8]at g
    exact dc g
   have eW:=LC.size
   obtain⟨tl⟩:=tm
   obtain⟨f,Gn,hf⟩:∃f:Nat->Value,tl=[f 0,f 1,f 2,f 3,f 4,f 5,f 6,f 7,f 8,f 9,f 10,f 11,f 12,f 13,f 14,f 15,f 16,f 17,f 18,f 19,f 20,f 21,f 22,f 23,f 24,f 25,f 26,f 27,f 28,f 29,f 30,f 31,f 32,f 33,f 34,f 35,f 36,f 37,f 38,f 39,f 40,f 41]/\∀i,f i=(⟨tl⟩:Array Value).getD i undef:=by
    refine⟨fun i=>(⟨tl⟩:Array Value).getD i undef,?_,fun _=>rfl⟩
    have h:=HO tl undef
    rw[show tl.length=42 from eW]at h
    exact h
   rw[<-hf]at p5 p6 p8
   have Sq:df=[]:=B9
   subst Sq
   clear hf LC dL hV
   subst Gn
   rw[p5,p6,p8]
   have Q8:=hv.kept (grown_of zL) (by simp)
   have DS:=eX.kept (grown_of zL) (by rcases eX.2 with⟨e,_⟩|⟨_,_,_,e,_⟩<;>rw[e]<;>simp[Value.ownBlock])
   have hc3:=Q8.cell
   have SN:w.heap.size<=w3.heap.size:=Nat.le_trans hB.size zL.size
   have eX0:w3.cell? ⟨Bx,0,none⟩=some (.int .i64 (x0:Int)):=(zL.cell (p:=⟨Bx,0,none⟩) (Array.getElem?_eq_some_iff.1 bX).1).trans RE
   have eX1:w3.cell? ⟨Bx,1,none⟩=some (.int .i64 (x1:Int)):=(zL.cell (p:=⟨Bx,1,none⟩) (Array.getElem?_eq_some_iff.1 bX).1).trans RF
   have lL:(mJ s l pre).length<=2097152:=by
    have h1:=GP s l pre
    have h2:=Az l l.length
    omega
   have hKF:KeepsFrom (w.heap.size+4) W w3:=⟨zL.size,fun k o _ hk _=>(zL.block k (Array.getElem?_eq_some_iff.1 hk).1).trans hk⟩
   have hKT:gN w.heap.size W w3:=gN.of zL
   have Rz:w3.heap[w.heap.size+1]? = _:=(zL.block _ bA1.lt).trans bA1
   have RA:=(zL.block _ (Array.getElem?_eq_some_iff.1 bT1).1).trans bT1
   by_cases kO:0<gC s (aO l x0).bq x2 (aO l x1).bq
   ·have wE:mJ s l (pre++[⟨(x0,x1,x2),Be,Li,y4⟩])=mJ s l pre++[⟨x0,x1,gC s (aO l x0).bq x2 (aO l x1).bq⟩]:=by
     rw[wc];simp only[xu,if_pos kO]
    gi_wp2_with (gi_at_builtin;refine wpListIn_append_own _ rfl _ _ 179 rfl w.heap.size 254 i0 (.agg #[.int .i64 0,.int .i64 0,.int .i64 0]) 3 24 (by kernel_rfl) hi Ja wP kQ rfl (by decide) _ _ _ rfl (DS.alloc _) ⟨w3.heap.size,0,none⟩ 1 1 [.int .i64 (x0:Int),.int .i64 (x1:Int),.int .i64 (gC s (aO l x0).bq x2 (aO l x1).bq)] rfl rfl (tC _ _ _ _ _) (by simp[Value.oneCell']) (by unfold maxLen;omega) (by omega) (by simp;omega) ?_;intro v' w4 zS wH _;obtain⟨g',RG,rfl⟩:=ownsRow_succ zS;obtain⟨tW,JU,Gj,rl,B6⟩:=Q8.appended (by decide) DS SN (by omega) zS wH;have JI:=gN.app Q8 DS wH B6;have oA:=tW.cell;have Su:=tW.frozen)
    exact⟨hKF.trans (rl.from _),hKT.trans JI,⟨⟨_,JU,by rw[wE,GO,List.length_append];exact Gj,by rw[wE];simp⟩,(JI.2.1 _ _ _ _ Rz (by decide) (by decide)).trans Rz,(JI.2.1 _ _ _ _ RA (by decide) (by decide)).trans RA⟩,hB.trans ((zL.mono hB.size).trans B6)⟩
   ·have wE:mJ s l (pre++[⟨(x0,x1,x2),Be,Li,y4⟩])=mJ s l pre:=by
     rw[wc];simp only[xu,if_neg kO,List.append_nil]
    gi_wp2
    exact⟨hKF,hKT,⟨⟨v,Q8,by rw[wE];exact DS,by rw[wE];exact hnil⟩,Rz,RA⟩,hB.trans (zL.mono hB.size)⟩
 case done=>
  rintro D ys W hD Bg ⟨⟨⟨v,hv,eX,hnil⟩,_⟩,hB⟩ hK
  have hc:=hv.cell
  have I0:mJ s l ys=cU s l:=by rw[GW,<-Bg];rfl
  rw[I0]at eX hnil
  gi_wp2
  refine⟨by simp,.inl ⟨_,_,rfl,run_takeDeferred hK,?_⟩⟩
  exact⟨_,results_tmp rfl _ _ _,v,rfl,ownsRow_putObj eX _ hK rfl,hnil,hB.trans (belowK_b (w:=w) (Nat.le_refl _) W D _ _ (by omega) hK rfl rfl)⟩
 case stop=>
  rintro D c pre W _ _ h _
  exact h.elim
end Go.Proofs.YtgoljkjaameagaaGreat.V

namespace Go.Proofs.YtgoljkjaameagaaGreat.V
open Go.RowKit Go.Shelf
theorem Ds:∀{bs:List PB} {i j:Nat} {b:PB},bs[i]? =some b->j<3->(Jk bs)[i*3+j]? =([.int .i64 b.a,.int .i64 b.b,.int .i64 b.s]:List Value)[j]?
 |c::bs,0,j,b,h,hj=>by
  simp at h;subst h
  simp only[Jk,List.flatMap_cons,Nat.zero_mul,Nat.zero_add]
  rw[List.getElem?_append_left (by simpa using hj)]
 |c::bs,i+1,j,b,h,hj=>by
  simp only[List.getElem?_cons_succ]at h
  have:=Ds (bs:=bs) (i:=i) (j:=j) h hj
  simp only[Jk,List.flatMap_cons]at this ⊢
  rw[List.getElem?_append_right (by simp;omega),<-this]
  congr 1
  simp;omega
theorem qh {P:Program} {w:World} {D:Nat->Prop} {rows:List (List AV)} {v:Value} (h:jC P w D (.sl rows) v):∃A n c,v=.slice A n c:=by
 cases h with
 |FP a c _=>exact⟨_,_,_,rfl⟩
 |sl=>exact⟨_,_,_,rfl⟩
theorem pI {P:Program} {w:World} {D:Nat->Prop} {ι:Names} {rows:List (List AV)} {v:Value} (h:da P w D ι (.sl rows) v):jC P w D (.sl rows) v:=by
 cases h with
 |eO _ _ h=>exact h
theorem Kq {P:Program} {w:World} {D:Nat->Prop} {l:List ad} {v:Value} (h:jC P w D (.sl (l.map ai)) v):ot w v l:=by
 generalize hr:l.map ai=rows at h
 cases h with
 |FP a c hc=>
  have:l=[]:=by simpa using hr
  subst this
  exact⟨a,c,rfl,⟨Nat.zero_le _,hc⟩,.inl rfl⟩
 |sl _ b o n c sz vs h1 h2 h3 h4 h5 h5' h6 h7=>
  have hn:n=l.length:=by rw[<-h1,<-hr];simp
  subst hn
  refine⟨some ⟨b,o,none⟩,c,rfl,⟨h2,h3⟩,?_⟩
  by_cases hl:l=[]
  ·exact .inl hl
  refine .inr ⟨b,o,rfl,fun i hi=>?_⟩
  have hg:rows[i]? =some (ai (aO l i)):=by rw[<-hr];exact fj hi
  have eW:sz=3:=by rw[<-h5 _ (List.mem_of_getElem? hg)];rfl
  subst eW
  have k:∀(j:Nat) (x:Int),(ai (aO l i))[j]? =some (.int .i64 x)->j<3->w.cell? ⟨b,o+(i*3+j),none⟩=some (.int .i64 x):=fun j x hj h3=>by
   have:=h7 i j _ _ hg hj
   rw[h6 i j hi h3,dc (.eO (ι:=fun _=>none) _ _ this)]
  exact⟨k 0 _ rfl (by omega),k 1 _ rfl (by omega),k 2 _ rfl (by omega)⟩
theorem GU:Bh:=by
 intro s l hS hA n
 refine fR ?_
 intro hs D ι w vs S U A
 obtain⟨u0,Q6,r0⟩:=A.2 0 _ rfl
 obtain⟨u1,PF,r1⟩:=A.2 1 _ rfl
 have dJ:∀b,D b->b<w.heap.size:=S.dead
 obtain⟨v0,f0,rfl,Ja,_,QP,SX⟩:=iw r0
 obtain⟨v1,f1,rfl,wP,_,Su,Py⟩:=iw r1
 have g0:=pI (SX 0 _ rfl)
 have g1:=pI (SX 1 _ rfl)
 have a0:=pI (Py 0 _ rfl)
 obtain⟨Ag,ng,cg,eg⟩:=qh g0
 obtain⟨At,nt,ct,et⟩:=qh g1
 have e0:v0= #[.slice Ag ng cg,.slice At nt ct]:=by
  obtain⟨vl⟩:=v0
  have q0:=QP 0 (by simp[aa])
  have q1:=QP 1 (by simp[aa])
  rw[eg]at q0;rw[et]at q1
  match vl,Ja with
  |[a,b],_=>simp at q0 q1;rw[q0,q1]
 have e1:v1= #[f1 0]:=by
  obtain⟨vl⟩:=v1
  have q0:=Su 0 (by simp)
  match vl,wP with
  |[a],_=>simp at q0;rw[q0]
 subst e0 e1
 have evs:vs= #[.agg #[.slice Ag ng cg,.slice At nt ct],.agg #[f1 0]]:=by
  obtain⟨vl⟩:=vs
  have hz:=A.1
  match vl,hz with
  |[a,b],_=>simp at Q6 PF;rw[Q6,PF]
 subst evs
 have up:∀{a v},jC Tryz.prog w D a v->jC Tryz.prog w (fun b=>b<w.heap.size) a v:=fun h=>h.frame (fun _ _=>rfl) dJ
 have hT:jC Tryz.prog w (fun b=>b<w.heap.size) (.agg (aa s)) (.agg #[.slice Ag ng cg,.slice At nt ct]):=
  .agg _ _ f0 Ja (fun a ha=>by simp[aa]at ha;rcases ha with rfl|rfl<;>rfl) QP (fun j a ha=>by
   match j,ha with
   |0,ha=>simp[aa]at ha;subst ha;exact up g0
   |1,ha=>simp[aa]at ha;subst ha;exact up g1
   |j+2,ha=>simp[aa]at ha)
 refine(callsIn_wide.1 (GV s l hS.form hA w Ag At ng cg nt ct (f1 0) hT (Kq a0))).mono ?_
 rintro e W' ⟨v,rfl,⟨hl,hown⟩,hnil,hB⟩
 have S':fW Tryz.prog hs D ι (fun _=>none) W':=S.stay (fun b hb=>hB.block b hb) hB.size (fun _ h=>h) (fun b hb=>Nat.lt_of_lt_of_le (dJ b hb) hB.size) (fun _ h=>.inl h) (fun _ _ h=>h)
 have T:Step hs D ι w D ι W':=Step.stay S (fun b hb=>hB.block b hb) hB.size hB.os hB.tape hB.output (fun _ h=>h) (fun _ h=>.inl h) (fun _ _ h=>h)
 rcases hown with⟨rfl,h0⟩|⟨gb,cap,cur,rfl,Mo,hblk,hle,B8,dp,nC⟩
 ·have wD:cU s l=[]:=hnil.1 rfl
  exact⟨.cq,_,n,D,ι,_,rfl,⟨.cq,kf _ _,by rw[wD];rfl⟩,T,S',U,Nat.le_refl _,.eO _ _ .cq⟩
 ·have wD:cU s l≠[]:=fun h=>by have:=hnil.2 h;cases this
  have ly:ι ⟨0,n⟩=none:=fresh U (fun h=>h)
  have gK:∀{a v},da Tryz.prog W' D ι a v->da Tryz.prog W' D (jT ι ⟨0,n⟩ ⟨gb,3,cap*3,none⟩) a v:=fun h=>h.frame (fun _ _=>rfl) (fun _ h=>h) (fD ly)
  have hR:iQ Tryz.prog W' D (jT ι ⟨0,n⟩ ⟨gb,3,cap*3,none⟩) ⟨gb,3,cap*3,none⟩ ⟨true,3,(cU s l).map ay⟩:=by
   refine kc.obj ⟨rfl,⟨cur,_,hblk,dp⟩,?_,fun cs hc=>?_,fun cs hc a ha=>?_,fun i j cs a hi hj=>?_⟩ rfl
   ·simp only[List.length_map];exact Nat.mul_le_mul_right 3 hle
   ·obtain⟨b,_,rfl⟩:=List.mem_map.1 hc;rfl
   ·obtain⟨b,_,rfl⟩:=List.mem_map.1 hc
    simp[ay]at ha
    rcases ha with rfl|rfl|rfl<;>rfl
   ·rw[List.getElem?_map]at hi
    simp only[Option.map_eq_some_iff]at hi
    obtain⟨b,hb,rfl⟩:=hi
    have SC:j<3:=by have:=(List.getElem?_eq_some_iff.1 hj).1;simpa[ay]using this
    have mC:=(List.getElem?_eq_some_iff.1 hb).1
    have hg:=Ds hb SC
    rw[<-nC,List.getElem?_take,if_pos (by omega)]at hg
    have key:∀x:Value,([.int .i64 b.a,.int .i64 b.b,.int .i64 b.s]:List Value)[j]? =some x->W'.cell? ⟨gb,i*3+j,none⟩=some x:=fun x hx=>by
     rw[hx]at hg
     have e:W'.cell? ⟨gb,i*3+j,none⟩=cur[i*3+j]? :=by
      unfold World.cell?
      rw[show W'.heap[(⟨gb,i*3+j,none⟩:Addr).block]? = _ from hblk]
      rfl
     rw[e,<-Array.getElem?_toList];exact hg
    match j,hj with
    |0,hj=>simp[ay]at hj;subst hj;exact⟨_,key _ rfl,.eO _ _ (.int _ _)⟩
    |1,hj=>simp[ay]at hj;subst hj;exact⟨_,key _ rfl,.eO _ _ (.int _ _)⟩
    |2,hj=>simp[ay]at hj;subst hj;exact⟨_,key _ rfl,.eO _ _ (.int _ _)⟩
    |j+3,hj=>simp[ay]at hj
  have S2:=fW.add (r:=⟨true,3,(cU s l).map ay⟩) S S' ly Mo hR
  refine⟨.own ⟨0,n⟩ 0 (cU s l).length,bK (fun _=>none) ⟨0,n⟩ ⟨true,3,(cU s l).map ay⟩,n+1,D,jT ι ⟨0,n⟩ ⟨gb,3,cap*3,none⟩,_,rfl,⟨yE (cU s l),?_,rfl⟩,T.trans (Step.stay S' (fun _ _=>rfl) (Nat.le_refl _) rfl rfl rfl (fun _ h=>h) (fun _ h=>.inl h) (fD ly)),S2,U.upd.next,Nat.le_succ _,.own _ _ _ _ _ _ (ek _ _ _) rfl hle (.inr (by simp)) (by simp) B8⟩
  unfold yE
  rw[if_neg wD]
  have hg:(bK (fun _=>none) (⟨0,n⟩:Id) ⟨true,3,(cU s l).map ay⟩:Rows) ⟨0,n⟩=some ⟨true,3,(cU s l).map ay⟩:=by simp[bK]
  have:=fw (n:=5) hg rfl fun b=>sR _ 4 b
  simpa using this
end Go.Proofs.YtgoljkjaameagaaGreat.V

namespace Go.Proofs.YtgoljkjaameagaaGreat.V
open Go.RowKit
theorem Nd {P:Program} {w:World} {D:Nat->Prop} {ι:Names} {x y:Int} {v:Value} (h:da P w D ι (.agg [.int .i64 x,.int .i64 y]) v):v=.agg #[.int .i64 x,.int .i64 y]:=by
 obtain⟨vs,f,rfl,eW,_,h1,h2⟩:=iw h
 have v0:=h1 0 (by simp)
 have v1:=h1 1 (by simp)
 rw[dc (h2 0 _ rfl)]at v0
 rw[dc (h2 1 _ rfl)]at v1
 obtain⟨vl⟩:=vs
 match vl,eW with
 |[a,b],_=>
  simp at v0 v1
  rw[v0,v1]
theorem zf {σ:ax} {X O:Id} {b1 b2:Bool} {es:List En} (hX:σ.get X=some ⟨b1,1,[[.map O mP]]⟩) (hO:σ.get O=some ⟨b2,mP.lp,es.map nU⟩) (hl:es.length<=1000000):
  Call Tryz.prog 282 [.cq,.fn 232 [.ptr X 0 0]] σ (fun r σ'=>σ.next<=σ'.next/\(∀x:Id,x.bt<σ.next->σ'.get x=σ.get x)/\∃ss:List ah,ss.Perm (es.map (·.1))/\((ss=[]/\r=.cq)∨∃o:Id,r=.own o 0 ss.length/\σ'.get o=some ⟨true,2,ss.map ab⟩/\σ.next<=o.bt/\o.bt<σ'.next/\ss≠[])):=by
 refine fR fun hs D ι w vs S U A=>?_
 obtain⟨u1,us1,rfl,h1,h2⟩:=iL A
 obtain⟨u2,us2,h3,h4,h5⟩:=iL h2
 simp at h3;subst h3
 have:=qq h5
 simp at this;subst this
 obtain rfl:=iu h1
 obtain⟨vc,gf,rfl,_,vd,K7,hrc⟩:=uD h4
 obtain⟨BX,hp,hBX,hkX⟩:=iz (hrc 0 _ rfl)
 have S8:vc= #[.pointer (some ⟨BX.b,0,none⟩)]:=by
  obtain⟨l⟩:=vc
  have q0:=K7 0 (by simp)
  match l,vd with
  |[a],_=>simp at q0;rw[q0,hp];simp
 subst S8
 obtain⟨BX',JB,RX,_,_⟩:=S.row X _ hX
 rw[hBX]at JB;injection JB with JB;subst JB
 obtain⟨vm,Fc,Gk⟩:=(RX.row hkX).at_ 0 0 _ _ rfl rfl
 obtain⟨BO,rfl,hBO,hkO⟩:=Eb Gk
 obtain⟨BO',JA,RO,_,_⟩:=S.row O _ hO
 rw[hBO]at JA;injection JA with JA;subst JA
 obtain⟨_,Qu,clock,hblk,eW,⟨_,SZ⟩,hM⟩:=RO.map mP hkO
 have hk:Qu.toList.map (·.key)=(es.map (·.1)).map p7:=by
  have JQ:Qu.toList.length=es.length:=by simpa using eW
  refine List.ext_getElem (by simpa using JQ) fun i h1 h2=>?_
  have hi:i<es.length:=by simpa using h2
  obtain⟨e,kv,vv,q1,q2,_,q4,_⟩:=hM i (nU es[i]) (by simp[hi])
  have e1:kv=.agg [.int .i64 es[i].1.eI,.int .i64 es[i].1.eB]:=by
   simp[part,MK.ks,nU]at q2
   exact q2.symm
  subst e1
  have e2:=Nd q4
  simp only[List.getElem_map]
  have e3:Qu.toList[i]'(by omega)=e:=by
   have:=Array.getElem?_eq_some_iff.1 q1
   obtain⟨_,h⟩:=this
   simpa using h
  rw[e3,e2];rfl
 have dJ:∀b,D b->b<w.heap.size:=S.dead
 have hbx:BX.b<w.heap.size:=RX.lt
 have O2:w.cell? ⟨BX.b,0,none⟩=some (.map (some BO.b)):=by simpa using Fc
 refine(callsIn_wide.1 (xp BX.b BO.b Qu clock SZ (es.map (·.1)) hk (by simpa using hl) w hbx O2 hblk)).mono ?_
 rintro e W' ⟨ss,v,hperm,rfl,⟨hle',hown⟩,hnil,hB⟩
 have S':fW Tryz.prog hs D ι σ.get W':=S.stay (fun b hb=>hB.block b hb) hB.size (fun _ h=>h) (fun b hb=>Nat.lt_of_lt_of_le (dJ b hb) hB.size) (fun _ h=>.inl h) (fun _ _ h=>h)
 have T:Step hs D ι w D ι W':=Step.stay S (fun b hb=>hB.block b hb) hB.size hB.os hB.tape hB.output (fun _ h=>h) (fun _ h=>.inl h) (fun _ _ h=>h)
 rcases hown with⟨rfl,h0⟩|⟨gb,cap,cur,rfl,Mo,hblk2,hle,B8,dp,nC⟩
 ·have wD:ss=[]:=hnil.1 rfl
  exact⟨.cq,_,σ.next,D,ι,_,rfl,⟨Nat.le_refl _,fun _ _=>rfl,ss,hperm,.inl ⟨wD,rfl⟩⟩,T,S',U,Nat.le_refl _,.eO _ _ .cq⟩
 ·have wD:ss≠[]:=fun h=>by have:=hnil.2 h;cases this
  have ly:ι ⟨0,σ.next⟩=none:=fresh U (fun h=>h)
  have hR:iQ Tryz.prog W' D (jT ι ⟨0,σ.next⟩ ⟨gb,2,cap*2,none⟩) ⟨gb,2,cap*2,none⟩ ⟨true,2,ss.map ab⟩:=by
   refine kc.obj ⟨rfl,⟨cur,_,hblk2,dp⟩,?_,fun cs hc=>?_,fun cs hc a ha=>?_,fun i j cs a hi hj=>?_⟩ rfl
   ·simp only[List.length_map];exact Nat.mul_le_mul_right 2 hle
   ·obtain⟨b,_,rfl⟩:=List.mem_map.1 hc;rfl
   ·obtain⟨b,_,rfl⟩:=List.mem_map.1 hc
    simp[ab]at ha
    rcases ha with rfl|rfl<;>rfl
   ·rw[List.getElem?_map]at hi
    simp only[Option.map_eq_some_iff]at hi
    obtain⟨b,hb,rfl⟩:=hi
    have SC:j<2:=by have:=(List.getElem?_eq_some_iff.1 hj).1;simpa[ab]using this
    have mC:=(List.getElem?_eq_some_iff.1 hb).1
    have hg:=Kr hb SC
    rw[<-nC,List.getElem?_take,if_pos (by omega)]at hg
    have key:∀x:Value,([.int .i64 b.eI,.int .i64 b.eB]:List Value)[j]? =some x->W'.cell? ⟨gb,i*2+j,none⟩=some x:=fun x hx=>by
     rw[hx]at hg
     have e:W'.cell? ⟨gb,i*2+j,none⟩=cur[i*2+j]? :=by
      unfold World.cell?
      rw[show W'.heap[(⟨gb,i*2+j,none⟩:Addr).block]? = _ from hblk2]
      rfl
     rw[e,<-Array.getElem?_toList];exact hg
    match j,hj with
    |0,hj=>simp[ab]at hj;subst hj;exact⟨_,key _ rfl,.eO _ _ (.int _ _)⟩
    |1,hj=>simp[ab]at hj;subst hj;exact⟨_,key _ rfl,.eO _ _ (.int _ _)⟩
    |j+2,hj=>simp[ab]at hj
  have S2:=fW.add (r:=⟨true,2,ss.map ab⟩) S S' ly Mo hR
  refine⟨.own ⟨0,σ.next⟩ 0 ss.length,bK σ.get ⟨0,σ.next⟩ ⟨true,2,ss.map ab⟩,σ.next+1,D,jT ι ⟨0,σ.next⟩ ⟨gb,2,cap*2,none⟩,_,rfl,⟨Nat.le_succ _,fun x hx=>?_,ss,hperm,.inr ⟨_,rfl,by simp[bK],Nat.le_refl _,Nat.lt_succ_self _,wD⟩⟩,T.trans (Step.stay S' (fun _ _=>rfl) (Nat.le_refl _) rfl rfl rfl (fun _ h=>h) (fun _ h=>.inl h) (fD ly)),S2,U.upd.next,Nat.le_succ _,.own _ _ _ _ _ _ (ek _ _ _) rfl hle (.inr (by simp)) (by simp) B8⟩
  have:¬x=⟨0,σ.next⟩:=fun e=>by subst e;simp at hx
  simp[bK,this]
end Go.Proofs.YtgoljkjaameagaaGreat.V
