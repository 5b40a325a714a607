/- The crystal: lookAround, what it leaves of the options. -/
import Derived.Test.YtgoelphibofcmaaGreatAwD
import Derived.Test.YtgoelphibofcmaaGreatAwB
import Derived.Shelf.SlSortCmp.WholeK
import Derived.Shelf.SlSortCmp.NoneTotal
import Derived.Ground.SlsfProg
import Derived.Test.YtgoelphibofcmaaGreatProg
import Derived.Test.YtgoelphibofcmaaGreatAwC
import Derived.Maps.RangeRun
import Derived.Test.YtgoelphibofcmaaGreatChecked
import Derived.RangeFuncNested
import Derived.RangeFuncBound
import Derived.RangeFuncCalls
import Derived.RangeFuncLeaves
import Derived.Shelf.Abstract
import Derived.Shelf.RegionOpen
import Derived.WalkKit
import Derived.OwnWalkIn
import Derived.TacticsInMore
import Derived.LoopNIn
import Derived.LoopIn
import Derived.BigQuiet
import Derived.RangeFuncBox
import Derived.RangeFuncWrites
import Derived.Maps.AppendAt
import Derived.OrdersIn
set_option linter.unusedVariables false
set_option linter.unusedSimpArgs false
set_option maxRecDepth 100000
set_option maxHeartbeats 16000000
namespace Go.Proofs.YtgoelphibofcmaaGreat.V
open Go.RowKit
attribute [local irreducible] eh wpOps fI Call
attribute [local go_sem] aM fj eJ fF fE da upd cu K.av cI AV.cells AV.cell rowOf rowsOf part ld rowAt bK bV dq dM gy bD cY dY fA eS dk dR cW cV dD dE bG bc cL bF cP cN dO dS dQ cK bL cX dN bE aO cR cz gx bm cH bH aY dp bl dr AV.undef bt bz dF dL dy dC cF dX eb cw dV dU cQ cU List.getD_cons_zero List.getD_cons_succ List.getD_nil List.all_cons List.all_nil Bool.and_true Bool.true_and Bool.and_self Bool.not_true Bool.not_false Option.map_some Option.map_none Option.bind_some Option.bind_none List.length_cons List.length_nil List.take_succ_cons List.take_zero List.take_nil List.drop_succ_cons List.drop_zero List.drop_nil List.head?_cons List.map_cons List.map_nil List.getElem?_cons_zero List.getElem?_cons_succ List.cons_append List.nil_append List.append_nil List.length_map List.set_cons_zero List.set_cons_succ Nat.reduceMul eq_self Int.toNat_natCast Int.natCast_nonneg and_self true_and and_true decide_true decide_false Bool.false_eq_true Nat.zero_add Nat.add_zero List.contains_cons List.contains_nil Bool.or_false Bool.false_or beq_self_eq_true Nat.reduceBEq ne_eq not_true_eq_false not_false_eq_true Id.mk.injEq false_and and_false Nat.reduceLT Int.reduceLE Int.reduceLT Int.reduceToNat Int.reduceNeg Int.reduceAdd Nat.le_refl List.length_append beq_true beq_false Bool.not_eq_eq_eq_not or_false false_or dK aj ar aH bd br bW aT aZ aU bf cJ bw
def OW (rows:List (List AV)):Prop:=∀r∈rows,∃(x y:Int) (v:AV),r=[.int .i64 x,.int .i64 y,v]
theorem E6 (x y:Int):∀(rows:List (List AV)) (i:Nat),OW rows->∃fi,fZ mP [.int .i64 x,.int .i64 y] rows i=some fi
 |[],i,_=>⟨none,by simp[fZ]⟩
 |r::rs,i,h=>by
  obtain⟨fi,hf⟩:=E6 x y rs (i+1) fun r hr=>h r (by simp[hr])
  obtain⟨x',y',v,rfl⟩:=h r (by simp)
  unfold fZ
  have e:eS mP.ts [.int .i64 x,.int .i64 y] (([.int .i64 x',.int .i64 y',v]:List AV).take mP.ks)=some (decide (x=x')&&decide (y=y')):=by
   simp[MK.ks,eS,fA]
  rw[e]
  cases decide (x=x')&&decide (y=y')
  ·exact⟨fi,hf⟩
  ·exact⟨some i,rfl⟩
theorem I4 {rows:List (List AV)} (h:OW rows) (x y:Int):∃fi,fP mP (.agg [.int .i64 x,.int .i64 y]) rows=some fi:=by
 unfold fP
 rw[if_pos ⟨rfl,rfl,rfl⟩]
 exact E6 x y rows 0 h
theorem N5 {rows:List (List AV)} (h:OW rows) (x y:Int) (v:AV) (fi:Option Nat):OW (dy rows [.int .i64 x,.int .i64 y,v] fi):=by
 intro r hr
 cases fi with
 |none=>
  rcases List.mem_append.1 (show r∈rows++[_]from hr)with h1|h1
  ·exact h r h1
  ·simp at h1;exact⟨x,y,v,h1⟩
 |some i=>
  rcases List.mem_or_eq_of_mem_set (show r∈rows.set i _ from hr)with h1|h1
  ·exact h r h1
  ·exact⟨x,y,v,h1⟩
theorem N3 {rows:List (List AV)} (h:OW rows) (fi:Option Nat):OW (dC rows fi):=by
 intro r hr
 cases fi with
 |none=>exact h r (by simpa[dC]using hr)
 |some i=>exact h r (List.mem_of_mem_eraseIdx (by simpa[dC]using hr))
def iG (σ:aw) (O:Id) (g:Rows) (n:Nat):Prop:=σ.next<=n/\(∀x:Id,x.cq<σ.next->x≠O->g x=σ.get x)/\∃rows,g O=some ⟨true,mP.sg,rows⟩/\OW rows
theorem iG.AO {σ:aw} {g:Rows} {n:Nat} {c T O:Id} {s:aI} {ts:List ah} (h:Ai σ.get σ.next c T O s ts) (hc:c≠O) (hT:T≠O) (k:iG σ O g n):Ai g n c T O s ts:=
 h.frame k.1 (k.2.1 _ h.cv hc) (k.2.1 _ h.tv hT)
theorem iG.trans {a b:aw} {O:Id} {g:Rows} {n:Nat} (h:iG a O b.get b.next) (k:iG b O g n):iG a O g n:=
 ⟨Nat.le_trans h.1 k.1,fun x hx hO=>(k.2.1 x (Nat.lt_of_lt_of_le hx h.1) hO).trans (h.2.1 x hx hO),k.2.2⟩
theorem iG.frame {a:aw} {O:Id} {g g':Rows} {n n' m:Nat} (h:iG a O g n) (ha:a.next<=m) (ho:O.cq<m) (hn:n<=n') (hf:∀x:Id,x.cq<m->g' x=g x):iG a O g' n':=by
 refine⟨Nat.le_trans h.1 hn,fun x hx hO=>(hf x (Nat.lt_of_lt_of_le hx ha)).trans (h.2.1 x hx hO),?_⟩
 obtain⟨rows,h1,h2⟩:=h.2.2
 exact⟨rows,(hf O ho).trans h1,h2⟩
theorem iG.write {a:aw} {O:Id} {g g':Rows} {n n':Nat} (h:iG a O g n) (hn:n<=n') (hf:∀x:Id,x.cq<a.next->x≠O->g' x=g x) {rows:List (List AV)} (ho:g' O=some ⟨true,mP.sg,rows⟩) (hw:OW rows):iG a O g' n':=
 ⟨Nat.le_trans h.1 hn,fun x hx hO=>(hf x hx hO).trans (h.2.1 x hx hO),rows,ho,hw⟩
theorem MZ {σ:aw} {c T O:Id} {s:aI} {ts:List ah} (h:Ai σ.get σ.next c T O s ts) (hS:gY s.aD) (hF:∀q,0<=gm ts q->ea s.aD (gm ts q)=true) (p:aE) (t:Int) (ht:ea s.aD t=true):
  fI (Call Tryz.prog) 133 [.ptr c 0 0,.agg (ai p),.int .i64 t] σ (fun r=>r=.bool (ua s ts p t)):=by
 unfold fI PC
 exact Or.inl (aJ _ _ _ _ _ (fun r σ' hr=>⟨_,by rw[hr];exact bd _ _ _,rfl⟩) (MY (σ:=⟨V.ro σ.get,σ.next⟩) h.ro hS hF p t ht))
theorem zD {σ:aw} {c T O:Id} {s:aI} {ts:List ah} (h:Ai σ.get σ.next c T O s ts) (hc:c≠O) (hT:T≠O) (hO:∃rows,σ.get O=some ⟨true,mP.sg,rows⟩/\OW rows) (hS:gY s.aD) (hF:∀q,0<=gm ts q->ea s.aD (gm ts q)=true) (p:aE) (hx:iB p.eZ) (hy:iB p.eT):
  Call Tryz.prog 127 [.ptr c 0 0,.agg (ai p)] σ (fun r σ'=>r=.iO []/\iG σ O σ'.get σ'.next):=by
 refine fc eG rfl fun lf=>?_
 clear lf
 have Mm:=hS.Jz
 have h0:iG σ O σ.get σ.next:=⟨Nat.le_refl _,fun _ _ _=>rfl,hO⟩
 (try((repeat(revert hN;revert N;apply Pn.out));refine wk @ai.eq_1 ?_;(repeat(refine Pn.mk ?_;intro N hN))))
 refine bh (fun n env st=>∃k:Nat,n=(4)-k/\k<=(4)/\env 8=.int .i64 (k:Int)/\st.get ⟨127000000,σ.next⟩=some ⟨true,2,[ai p]⟩/\(σ.next<st.next/\iG σ O st.get st.next)) (4) ⟨0,by omega,by omega,sl @ai.eq_1,sl @ai.eq_1,⟨by(try dsimp only);omega,h0.frame (Nat.le_refl _) h.ov (by(try dsimp only);omega) fun x hx=>by
  have:=dP hx
  simp only[go_sem, ↓reduceIte,Nat.reduceEqDiff,Nat.reduceAdd,Nat.reduceSub,Nat.reduceLeDiff,reduceCtorEq,this]⟩⟩ ?_
 rintro n_a env_a st_a ⟨k,rfl,ale,a8,ag0,lS⟩ dW
 have a0:=dW 0 (by kernel_rfl);have a3:=dW 3 (by kernel_rfl)
 simp only[go_sem, ↓reduceIte,Nat.reduceEqDiff,Nat.reduceAdd,Nat.reduceSub,Nat.reduceLeDiff,reduceCtorEq,ai]at a0 a3
 clear dW
 obtain⟨an,ak⟩:=lS
 have ha:=ak.AO h hc hT
 by_cases hk:(k:Int)<4
 ·have cG:∀{e:Env} {gg:Rows} {nx:Nat},(e 8=.int .i64 (IntKind.i64.wrap ((k:Int)+1)))->(gg ⟨127000000,σ.next⟩=some ⟨true,2,[ai p]⟩)->(σ.next<nx/\iG σ O gg nx)->∃m0,m0<(4)-k/\∃k:Nat,m0=(4)-k/\k<=(4)/\e 8=.int .i64 (k:Int)/\gg ⟨127000000,σ.next⟩=some ⟨true,2,[ai p]⟩/\(σ.next<nx/\iG σ O gg nx):=fun x1 x2 x3=>⟨_,by omega,k+1,rfl,by omega,(by rw[x1,aC (by omega)]),x2,x3⟩
  have eC:=DV p k (kG (by omega)) hx hy
  obtain⟨b,h1⟩:=ha.row
  have v1:=dP ha.cv
  (repeat(first|((repeat(revert hN;revert N;apply Pn.out));refine wk (tw @a8 (tw @ag0 (tw @a0 (tw @a3 (tw @hk (tw @h1 (tw @v1 @ai.eq_1))))))) ?_;(repeat(refine Pn.mk ?_;intro N hN)))|((try apply Or.inl);refine⟨_,au.x (eC) (sd (tw @a8 (tw @ag0 (tw @a0 (tw @a3 (tw @hk (tw @h1 (tw @v1 @ai.eq_1)))))))),?_⟩;refine hN _ _ ?_;clear hN N)))
  refine bh (fun n env st=>∃t:Nat,n=(s.aD.aq.length)-t/\t<=(s.aD.aq.length)/\env 21=.int .i64 (t:Int)/\st.get ⟨127000000,σ.next⟩=some ⟨true,2,[ai p]⟩/\st.get ⟨127004003,st_a.next+1+1⟩=some ⟨true,2,[ai (dx p k)]⟩/\(st_a.next+3<=st.next/\iG σ O st.get st.next/\(env 6=.bq∨∃(o:Id) (n:Nat) (rows:List (List AV)),env 6=.own o 0 n/\st.get o=some ⟨true,1,rows⟩/\rows.length=n/\0<n/\n<=t/\st_a.next+3<=o.cq/\o.cq<st.next))) (s.aD.aq.length) ⟨0,by omega,by omega,sl (tw @a8 (tw @ag0 (tw @a0 (tw @a3 @ai.eq_1)))),sl (tw @a8 (tw @ag0 (tw @a0 (tw @a3 @ai.eq_1)))),sl (tw @a8 (tw @ag0 (tw @a0 (tw @a3 @ai.eq_1)))),⟨by(try dsimp only);omega,ak.frame ak.1 ha.ov (by(try dsimp only);omega) fun x hx=>(by
   have:=dP hx
   simp only[go_sem, ↓reduceIte,Nat.reduceEqDiff,Nat.reduceAdd,Nat.reduceSub,Nat.reduceLeDiff,reduceCtorEq,this]),.inl (sd @Nat.zero_add)⟩⟩ ?_
  rintro n_b env_b st_b ⟨t,rfl,ble,b21,bg0,bg1,bI0⟩ gQ
  have b0:=gQ 0 (by kernel_rfl);have b3:=gQ 3 (by kernel_rfl);have b5:=gQ 5 (by kernel_rfl);have b8:=gQ 8 (by kernel_rfl);have GZ:=gQ 20 (by kernel_rfl)
  simp only[go_sem, ↓reduceIte,Nat.reduceEqDiff,Nat.reduceAdd,Nat.reduceSub,Nat.reduceLeDiff,reduceCtorEq,a8,ag0,a0,a3,ai]at b0 b3 b5 b8 GZ
  clear gQ
  obtain⟨bn,bk,b6⟩:=bI0
  have Np:=bk.AO h hc hT
  obtain⟨b2,h2⟩:=Np.row
  have v2:=dP Np.cv
  have vt:=dP (i:=⟨127000000,σ.next⟩) (n:=st_b.next) (by(try dsimp only);omega)
  have vq:=dP (i:=⟨127004003,st_a.next+1+1⟩) (n:=st_b.next) (by(try dsimp only);omega)
  by_cases ht:(t:Int)<(s.aD.aq.length:Int)
  ·have iy:∀{e:Env} {gg:Rows} {nx:Nat},(e 21=.int .i64 (IntKind.i64.wrap ((t:Int)+1)))->(gg ⟨127000000,σ.next⟩=some ⟨true,2,[ai p]⟩)->(gg ⟨127004003,st_a.next+1+1⟩=some ⟨true,2,[ai (dx p k)]⟩)->(st_a.next+3<=nx/\iG σ O gg nx/\(e 6=.bq∨∃(o:Id) (n:Nat) (rows:List (List AV)),e 6=.own o 0 n/\gg o=some ⟨true,1,rows⟩/\rows.length=n/\0<n/\n<=(t+1)/\st_a.next+3<=o.cq/\o.cq<nx))->∃m0,m0<(s.aD.aq.length)-t/\∃t:Nat,m0=(s.aD.aq.length)-t/\t<=(s.aD.aq.length)/\e 21=.int .i64 (t:Int)/\gg ⟨127000000,σ.next⟩=some ⟨true,2,[ai p]⟩/\gg ⟨127004003,st_a.next+1+1⟩=some ⟨true,2,[ai (dx p k)]⟩/\(st_a.next+3<=nx/\iG σ O gg nx/\(e 6=.bq∨∃(o:Id) (n:Nat) (rows:List (List AV)),e 6=.own o 0 n/\gg o=some ⟨true,1,rows⟩/\rows.length=n/\0<n/\n<=t/\st_a.next+3<=o.cq/\o.cq<nx)):=fun x1 x2 x3 x4=>⟨_,by omega,t+1,rfl,by omega,(by rw[x1,aC (by omega)]),x2,x3,x4⟩
   have NP:t<s.aD.aq.length:=by omega
   (try((repeat(revert hN;revert N;apply Pn.out));refine wk (tw @b21 (tw @bg0 (tw @bg1 (tw @b0 (tw @b3 (tw @b5 (tw @b8 (tw @GZ (tw @ht (tw @h2 (tw @v2 (tw @vt (tw @vq @ai.eq_1))))))))))))) ?_;(repeat(refine Pn.mk ?_;intro N hN))))
   refine .inl ⟨_,MZ (Np.frame (by(try dsimp only);omega) (sd @v2) (by(have:=dP Np.tv);simp only[go_sem, ↓reduceIte,Nat.reduceEqDiff,Nat.reduceAdd,Nat.reduceSub,Nat.reduceLeDiff,reduceCtorEq,this])) hS hF (dx p k) t (Jy NP),?_⟩
   refine hN _ _ ?_
   clear hN N
   have ik:∀x:Id,x.cq<st_b.next->x≠⟨127010002,st_b.next+1+1+1⟩:=fun x hx h=>by rw[h]at hx;(try dsimp only at hx);omega
   cases hb:ua s ts (dx p k) t
   ·(try((repeat(revert hN;revert N;apply Pn.out));refine wk (tw @b21 (tw @bg0 (tw @bg1 (tw @b0 (tw @b3 (tw @b5 (tw @b8 (tw @GZ @hb)))))))) ?_;(repeat(refine Pn.mk ?_;intro N hN))))
    refine iy ?_ ?_ ?_ (by(try dsimp only);exact⟨by omega,bk.frame bk.1 Np.ov (by omega) (fun x hx=>by
      have h1:=dP (i:=x) (n:=st_b.next) (by omega)
      simp only[go_sem, ↓reduceIte,Nat.reduceEqDiff,Nat.reduceAdd,Nat.reduceSub,Nat.reduceLeDiff,reduceCtorEq,h1]),by
     rcases b6 with h|⟨o,n,rows,h1,h2,h3,h4,h5,h6,h7⟩
     ·exact .inl (sd @h)
     ·have h8:=dP h7
      exact .inr ⟨o,n,rows,sd @h1,sd (tw @h2 @h8),h3,h4,by omega,h6,by omega⟩⟩)
    all_goals simp only[go_sem, ↓reduceIte,Nat.reduceEqDiff,Nat.reduceAdd,Nat.reduceSub,Nat.reduceLeDiff,reduceCtorEq,b21,bg0,bg1,b0,b3,b5,b8,GZ,ai,vt,vq]
   ·rcases b6 with b6|⟨o,n,rows,b6,bo,o3,o4,o5,o6,o7⟩
    ·(try((repeat(revert hN;revert N;apply Pn.out));refine wk (tw @b21 (tw @bg0 (tw @bg1 (tw @b0 (tw @b3 (tw @b5 (tw @b8 (tw @GZ (tw @b6 @hb))))))))) ?_;(repeat(refine Pn.mk ?_;intro N hN))))
     refine iy ?_ ?_ ?_ (by(try dsimp only);exact⟨by omega,bk.frame (m:=st_a.next) ak.1 ha.ov (by omega) (fun x hx=>by
      have h1:=dP (i:=x) (n:=st_b.next) (by omega)
      simp only[go_sem, ↓reduceIte,Nat.reduceEqDiff,Nat.reduceAdd,Nat.reduceSub,Nat.reduceLeDiff,reduceCtorEq,h1]),.inr ⟨⟨127010003,st_b.next+1+1+1⟩,1,[[.int .i64 t]],sl @Nat.zero_add,sd @Nat.zero_add,rfl,by omega,by omega,by(try dsimp only);omega,by(try dsimp only);omega⟩⟩)
     all_goals simp only[go_sem, ↓reduceIte,Nat.reduceEqDiff,Nat.reduceAdd,Nat.reduceSub,Nat.reduceLeDiff,reduceCtorEq,b21,bg0,bg1,b0,b3,b5,b8,GZ,ai,vt,vq]
    ·subst o3
     have e1:rows.length<=16777215:=by omega
     have vo:=dP o7
     have vto:=cZ (a:=⟨127000000,σ.next⟩) (b:=o) (by(try dsimp only);omega)
     have vqo:=cZ (a:=⟨127004003,st_a.next+1+1⟩) (b:=o) (by(try dsimp only);omega)
     (try((repeat(revert hN;revert N;apply Pn.out));refine wk (tw @b21 (tw @bg0 (tw @bg1 (tw @b0 (tw @b3 (tw @b5 (tw @b8 (tw @GZ (tw @b6 (tw @bo (tw @hb (tw @e1 @vo)))))))))))) ?_;(repeat(refine Pn.mk ?_;intro N hN))))
     refine iy ?_ ?_ ?_ (by(try dsimp only);exact⟨by omega,bk.frame (m:=st_a.next) ak.1 ha.ov (by omega) (fun x hx=>by
      have h1:=dP (i:=x) (n:=st_b.next) (by omega)
      have h2:=cZ (a:=x) (b:=o) (by omega)
      simp only[go_sem, ↓reduceIte,Nat.reduceEqDiff,Nat.reduceAdd,Nat.reduceSub,Nat.reduceLeDiff,reduceCtorEq,h1,h2]),.inr ⟨⟨127010003,st_b.next+1+1+1⟩,rows.length+1,rows++[[.int .i64 t]],sl @Nat.zero_add,sd @Nat.zero_add,by simp,by omega,by omega,by(try dsimp only);omega,by(try dsimp only);omega⟩⟩)
     all_goals simp only[go_sem, ↓reduceIte,Nat.reduceEqDiff,Nat.reduceAdd,Nat.reduceSub,Nat.reduceLeDiff,reduceCtorEq,b21,bg0,bg1,b0,b3,b5,b8,GZ,ai,vt,vq,vto,vqo]
  ·obtain⟨rows,hg,Tu⟩:=bk.2.2
   have vo:=dP Np.ov
   obtain⟨fi,Ia⟩:=I4 Tu (dx p k).eZ (dx p k).eT
   have hq:((⟨127000000,σ.next⟩:Id)=O)=False:=(cZ (a:=O) (b:=⟨127000000,σ.next⟩) (by have:=h.ov;(try dsimp only);omega)).2
   rcases b6 with b6|⟨o,n,Mt,b6,bo,o3,o4,o5,o6,o7⟩
   ·have d0:decide ((0:Int)<((0:Nat):Int))=false:=rfl
    (try((repeat(revert hN;revert N;apply Pn.out));refine wk (tw @b21 (tw @bg0 (tw @bg1 (tw @b0 (tw @b3 (tw @b5 (tw @b8 (tw @GZ (tw @b6 (tw @ht (tw @h2 (tw @v2 (tw @vt (tw @vq (tw @vo (tw @hg (tw @Ia (tw @ai.eq_1 @d0)))))))))))))))))) ?_;(repeat(refine Pn.mk ?_;intro N hN))))
    refine cG ?_ ?_ (by(try dsimp only);exact⟨by omega,bk.write (by omega) (fun x hx TJ=>by
     have h1:=dP (i:=x) (n:=st_b.next) (by omega)
     have h2:(x=O)=False:=eq_false TJ
     simp only[go_sem, ↓reduceIte,Nat.reduceEqDiff,Nat.reduceAdd,Nat.reduceSub,Nat.reduceLeDiff,reduceCtorEq,h1,h2]) (sl @Nat.zero_add) (N3 Tu _)⟩)
    all_goals simp only[go_sem, ↓reduceIte,Nat.reduceEqDiff,Nat.reduceAdd,Nat.reduceSub,Nat.reduceLeDiff,reduceCtorEq,a8,ag0,a0,a3,b21,bg0,bg1,b0,b3,b5,b8,GZ,ai,vt,vo,hq]
   ·have d1:decide ((0:Int)<(n:Int))=true:=decide_eq_true (by omega)
    (try((repeat(revert hN;revert N;apply Pn.out));refine wk (tw @b21 (tw @bg0 (tw @bg1 (tw @b0 (tw @b3 (tw @b5 (tw @b8 (tw @GZ (tw @b6 (tw @ht (tw @h2 (tw @v2 (tw @vt (tw @vq (tw @vo (tw @hg (tw @Ia (tw @ai.eq_1 @d1)))))))))))))))))) ?_;(repeat(refine Pn.mk ?_;intro N hN))))
    refine cG ?_ ?_ (by(try dsimp only);exact⟨by omega,bk.write (by omega) (fun x hx TJ=>by
     have h1:=dP (i:=x) (n:=st_b.next) (by omega)
     have h2:(x=O)=False:=eq_false TJ
     simp only[go_sem, ↓reduceIte,Nat.reduceEqDiff,Nat.reduceAdd,Nat.reduceSub,Nat.reduceLeDiff,reduceCtorEq,h1,h2]) (sl @Nat.zero_add) (N5 Tu _ _ _ _)⟩)
    all_goals simp only[go_sem, ↓reduceIte,Nat.reduceEqDiff,Nat.reduceAdd,Nat.reduceSub,Nat.reduceLeDiff,reduceCtorEq,a8,ag0,a0,a3,b21,bg0,bg1,b0,b3,b5,b8,GZ,ai,vt,vo,hq]
 ·(try((repeat(revert hN;revert N;apply Pn.out));refine wk (tw @a8 (tw @ag0 (tw @a0 (tw @a3 @hk)))) ?_;(repeat(refine Pn.mk ?_;intro N hN))))
  exact eV (.inr rfl) (vs:=[]) rfl ⟨rfl,ak.frame ak.1 ha.ov (by(try dsimp only);omega) (fun x hx=>rfl)⟩
end Go.Proofs.YtgoelphibofcmaaGreat.V

namespace Go.Proofs.YtgoelphibofcmaaGreat.V
open Go.RowKit
attribute [local irreducible] eh wpOps fI Call
attribute [local go_sem] aM fj eJ fF fE da upd cu K.av cI AV.cells AV.cell rowOf rowsOf part ld rowAt bK bV dq dM gy bD cY dY fA eS dk dR cW cV dD dE bG bc cL bF cP cN dO dS dQ cK bL cX dN bE aO cR cz gx bm cH bH aY dp bl dr AV.undef bt bz dF dL dy dC cF dX eb cw dV dU cQ cU List.getD_cons_zero List.getD_cons_succ List.getD_nil List.all_cons List.all_nil Bool.and_true Bool.true_and Bool.and_self Bool.not_true Bool.not_false Option.map_some Option.map_none Option.bind_some Option.bind_none List.length_cons List.length_nil List.take_succ_cons List.take_zero List.take_nil List.drop_succ_cons List.drop_zero List.drop_nil List.head?_cons List.map_cons List.map_nil List.getElem?_cons_zero List.getElem?_cons_succ List.cons_append List.nil_append List.append_nil List.length_map List.set_cons_zero List.set_cons_succ Nat.reduceMul eq_self Int.toNat_natCast Int.natCast_nonneg and_self true_and and_true decide_true decide_false Bool.false_eq_true Nat.zero_add Nat.add_zero List.contains_cons List.contains_nil Bool.or_false Bool.false_or beq_self_eq_true Nat.reduceBEq ne_eq not_true_eq_false not_false_eq_true Id.mk.injEq false_and and_false Nat.reduceLT Int.reduceLE Int.reduceLT Int.reduceToNat Int.reduceNeg Int.reduceAdd Nat.le_refl List.length_append beq_true beq_false Bool.not_eq_eq_eq_not or_false false_or dK aj ar aH bd br bW aT aZ aU bf cJ bw
structure nU (g:Rows) (n:Nat) (c T O:Id) (s:aI) (ts:List ah):Prop where
 row:g c=some ⟨true,6,[[.sl (s.aD.aA.map bU),.sl (s.aD.aq.map bR),.sl (s.bx.aq.map aa),.int .i64 s.ay,.map T mP,.map O mP]]⟩
 tl:g T=some ⟨true,mP.sg,ts.map aa⟩
 op:∃rows,g O=some ⟨true,mP.sg,rows⟩/\OW rows
 cv:c.cq<n
 tv:T.cq<n
 ov:O.cq<n
 cT:c≠T
 cO:c≠O
 TO:T≠O
theorem nU.AO {g:Rows} {n:Nat} {c T O:Id} {s:aI} {ts:List ah} (h:nU g n c T O s ts):Ai g n c T O s ts:=⟨⟨_,h.row⟩,⟨_,h.tl⟩,h.cv,h.tv,h.ov⟩
theorem nU.look {σ:aw} {g:Rows} {n:Nat} {c T O:Id} {s:aI} {ts:List ah} (h:nU σ.get σ.next c T O s ts) (k:iG σ O g n):nU g n c T O s ts:=
 ⟨(k.2.1 _ h.cv h.cO).trans h.row,(k.2.1 _ h.tv h.TO).trans h.tl,k.2.2,Nat.lt_of_lt_of_le h.cv k.1,Nat.lt_of_lt_of_le h.tv k.1,Nat.lt_of_lt_of_le h.ov k.1,h.cT,h.cO,h.TO⟩
theorem nU.frame {g g':Rows} {n n':Nat} {c T O:Id} {s:aI} {ts:List ah} (h:nU g n c T O s ts) (hn:n<=n') (hf:∀x:Id,x.cq<n->g' x=g x):nU g' n' c T O s ts:=
 ⟨(hf _ h.cv).trans h.row,(hf _ h.tv).trans h.tl,by rw[hf _ h.ov];exact h.op,Nat.lt_of_lt_of_le h.cv hn,Nat.lt_of_lt_of_le h.tv hn,Nat.lt_of_lt_of_le h.ov hn,h.cT,h.cO,h.TO⟩
def R8 (σ:aw) (s:aI) (ts:List ah) (r:AV) (σ':aw):Prop:=
 ∃c T O:Id,r=.ptr c 0 0/\nU σ'.get σ'.next c T O s ts/\σ.next<=c.cq/\σ.next<=T.cq/\σ.next<=O.cq/\σ.next<=σ'.next/\∀x:Id,x.cq<σ.next->σ'.get x=σ.get x
theorem Bp {l:List ah} {p:aE}:eE l p<0↔∀t∈l,t.aW≠p:=by
 unfold eE pN
 by_cases h:(l.findIdx fun c=>decide (c.aW=p))<l.length
 ·rw[if_pos h]
  obtain⟨t,ht,h2⟩:=List.findIdx_lt_length.1 h
  exact⟨fun h=>by omega,fun h=>absurd (by simpa using h2) (h t ht)⟩
 ·rw[if_neg h]
  exact⟨fun _ t ht e=>h (List.findIdx_lt_length.2 ⟨t,ht,by simp[e]⟩),fun _=>by omega⟩
theorem Ju {l:List ah} (h:oh l) {k:Nat} (hk:k<l.length):eE (l.take k) (bj l k).aW<0:=by
 rw[Bp]
 intro t ht e
 obtain⟨j,hj,rfl⟩:=List.getElem_of_mem ht
 have J0:j<k:=by rw[List.length_take]at hj;omega
 have:=h j k J0 hk
 rw[List.getElem_take]at e
 have e2:bj l j=l[j]'(by omega):=by unfold bj;rw[List.getD_eq_getElem?_getD,List.getElem?_eq_getElem (by omega)];rfl
 rw[e2,e]at this
 simp[j6]at this
theorem LI {l:List ah} {k:Nat} (hk:k<l.length):(l.take k).map aa++[[.int .i64 (bj l k).aW.eZ,.int .i64 (bj l k).aW.eT,.int .i64 (bj l k).aP]]=(l.take (k+1)).map aa:=by
 have e2:bj l k=l[k]:=by unfold bj;rw[List.getD_eq_getElem?_getD,List.getElem?_eq_getElem hk];rfl
 rw[List.take_succ_eq_append_getElem hk,List.map_append,e2]
 rfl
theorem gY.xO {s:ax} {l:List ah} (hA:lE s l):∀q,0<=gm l q->ea s (gm l q)=true:=fun _ h=>AD hA h
theorem zK (s:aI) (hS:gY s.aD) (l:List ah) (hA:lE s.aD l) (σ:aw):Call Tryz.prog 73 [.agg (az s),.agg [.sl (l.map aa)]] σ (R8 σ s l):=by
 refine fc eG rfl fun lf=>?_
 clear lf
 have Ns:=hA.1.zb
 (try((repeat(revert hN;revert N;apply Pn.out));refine wk @az.eq_1 ?_;(repeat(refine Pn.mk ?_;intro N hN))))
 refine bh (fun n env st=>∃k:Nat,n=(l.length)-k/\k<=(l.length)/\env 18=.int .i64 (k:Int)/\st.get ⟨73001004,σ.next+1⟩=some ⟨true,6,[[.sl (s.aD.aA.map bU),.sl (s.aD.aq.map bR),.sl (s.bx.aq.map aa),.int .i64 s.ay,.map ⟨73001001,σ.next+1⟩ mP,.map ⟨73001002,σ.next+1⟩ mP]]⟩/\st.get ⟨73001001,σ.next+1⟩=some ⟨true,mP.sg,(l.take k).map aa⟩/\st.get ⟨73001002,σ.next+1⟩=some ⟨true,mP.sg,[]⟩/\st.get ⟨73000001,σ.next⟩=some ⟨true,1,[[.sl (l.map aa)]]⟩/\(σ.next+3<=st.next/\∀x:Id,x.cq<σ.next->st.get x=σ.get x)) (l.length) ⟨0,by omega,by omega,sl @Nat.zero_add,sl @Nat.zero_add,sl @Nat.zero_add,sl @Nat.zero_add,sl @Nat.zero_add,⟨by(try dsimp only);omega,fun x hx=>by
  have:=dP hx
  simp only[go_sem, ↓reduceIte,Nat.reduceEqDiff,Nat.reduceAdd,Nat.reduceSub,Nat.reduceLeDiff,reduceCtorEq,this]⟩⟩ ?_
 rintro n_a env_a st_a ⟨k,rfl,ale,a18,ag0,ag1,ag2,ag3,lS⟩ dW
 have a3:=dW 3 (by kernel_rfl);have a5:=dW 5 (by kernel_rfl);have OJ:=dW 16 (by kernel_rfl);have a17:=dW 17 (by kernel_rfl)
 simp only[go_sem, ↓reduceIte,Nat.reduceEqDiff,Nat.reduceAdd,Nat.reduceSub,Nat.reduceLeDiff,reduceCtorEq]at a3 a5 OJ a17
 clear dW
 obtain⟨an,dW⟩:=lS
 have v1:=dP (i:=⟨73001004,σ.next+1⟩) (n:=st_a.next) (by(try dsimp only);omega)
 have v2:=dP (i:=⟨73001001,σ.next+1⟩) (n:=st_a.next) (by(try dsimp only);omega)
 have v3:=dP (i:=⟨73001002,σ.next+1⟩) (n:=st_a.next) (by(try dsimp only);omega)
 have v4:=dP (i:=⟨73000001,σ.next⟩) (n:=st_a.next) (by(try dsimp only);omega)
 by_cases hk:(k:Int)<(l.length:Int)
 ·have cG:∀{e:Env} {gg:Rows} {nx:Nat},(e 18=.int .i64 (IntKind.i64.wrap ((k:Int)+1)))->(gg ⟨73001004,σ.next+1⟩=some ⟨true,6,[[.sl (s.aD.aA.map bU),.sl (s.aD.aq.map bR),.sl (s.bx.aq.map aa),.int .i64 s.ay,.map ⟨73001001,σ.next+1⟩ mP,.map ⟨73001002,σ.next+1⟩ mP]]⟩)->(gg ⟨73001001,σ.next+1⟩=some ⟨true,mP.sg,(l.take (k+1)).map aa⟩)->(gg ⟨73001002,σ.next+1⟩=some ⟨true,mP.sg,[]⟩)->(gg ⟨73000001,σ.next⟩=some ⟨true,1,[[.sl (l.map aa)]]⟩)->(σ.next+3<=nx/\∀x:Id,x.cq<σ.next->gg x=σ.get x)->∃m0,m0<(l.length)-k/\∃k:Nat,m0=(l.length)-k/\k<=(l.length)/\e 18=.int .i64 (k:Int)/\gg ⟨73001004,σ.next+1⟩=some ⟨true,6,[[.sl (s.aD.aA.map bU),.sl (s.aD.aq.map bR),.sl (s.bx.aq.map aa),.int .i64 s.ay,.map ⟨73001001,σ.next+1⟩ mP,.map ⟨73001002,σ.next+1⟩ mP]]⟩/\gg ⟨73001001,σ.next+1⟩=some ⟨true,mP.sg,(l.take k).map aa⟩/\gg ⟨73001002,σ.next+1⟩=some ⟨true,mP.sg,[]⟩/\gg ⟨73000001,σ.next⟩=some ⟨true,1,[[.sl (l.map aa)]]⟩/\(σ.next+3<=nx/\∀x:Id,x.cq<σ.next->gg x=σ.get x):=fun x1 x2 x3 x4 x5 x6=>⟨_,by omega,k+1,rfl,by omega,(by rw[x1,aC (by omega)]),x2,x3,x4,x5,x6⟩
  have fw:k<l.length:=by omega
  have hg:=fQ fw
  have hm:=v8 (Ju hA.1.Jf fw)
  have pd:=LI fw
  (try((repeat(revert hN;revert N;apply Pn.out));refine wk (tw @a18 (tw @ag0 (tw @ag1 (tw @ag2 (tw @ag3 (tw @a3 (tw @a5 (tw @OJ (tw @a17 (tw @hk (tw @hg (tw @hm (tw @v1 (tw @v2 (tw @v3 (tw @v4 @aa.eq_1)))))))))))))))) ?_;(repeat(refine Pn.mk ?_;intro N hN))))
  refine cG ?_ ?_ ?_ ?_ ?_ (by(try dsimp only);exact⟨by omega,fun x hx=>by
   have h1:=dP (i:=x) (n:=st_a.next) (by omega)
   have h2:=cZ (a:=x) (b:=⟨73001001,σ.next+1⟩) (by(try dsimp only);omega)
   have h3:=dW x hx
   simp only[go_sem, ↓reduceIte,Nat.reduceEqDiff,Nat.reduceAdd,Nat.reduceSub,Nat.reduceLeDiff,reduceCtorEq,h1,h2,h3]⟩)
  all_goals simp only[go_sem, ↓reduceIte,Nat.reduceEqDiff,Nat.reduceAdd,Nat.reduceSub,Nat.reduceLeDiff,reduceCtorEq,a18,ag0,ag1,ag2,ag3,a3,a5,OJ,a17,aa,v1,v2,v3,v4,pd]
 ·have lO:k=l.length:=by omega
  subst lO
  have nK:l.take l.length=l:=List.take_length
  (try((repeat(revert hN;revert N;apply Pn.out));refine wk (tw @a18 (tw @ag0 (tw @ag1 (tw @ag2 (tw @ag3 (tw @a3 (tw @a5 (tw @OJ (tw @a17 (tw @hk (tw @v1 (tw @v2 (tw @v3 @v4))))))))))))) ?_;(repeat(refine Pn.mk ?_;intro N hN))))
  refine bh (fun n env st=>∃j:Nat,n=(l.length)-j/\j<=(l.length)/\env 34=.int .i64 (j:Int)/\(σ.next+3<=st.next/\nU st.get st.next ⟨73001004,σ.next+1⟩ ⟨73001001,σ.next+1⟩ ⟨73001002,σ.next+1⟩ s l/\∀x:Id,x.cq<σ.next->st.get x=σ.get x)) (l.length) ⟨0,by omega,by omega,sl (tw @a18 (tw @ag0 (tw @ag1 (tw @ag2 (tw @ag3 (tw @a3 (tw @a5 (tw @OJ @a17)))))))),by(try dsimp only);exact⟨by omega,⟨sd @ag0,sd (tw @ag1 @nK),⟨[],sd @ag2,by intro r hr;cases hr⟩,by(try dsimp only);omega,by(try dsimp only);omega,by(try dsimp only);omega,(by intro e;injection e with e1 e2;revert e1;decide),(by intro e;injection e with e1 e2;revert e1;decide),(by intro e;injection e with e1 e2;revert e1;decide)⟩,fun x hx=>by
   have h3:=dW x hx
   simp only[go_sem, ↓reduceIte,Nat.reduceEqDiff,Nat.reduceAdd,Nat.reduceSub,Nat.reduceLeDiff,reduceCtorEq,h3]⟩⟩ ?_
  rintro n_b env_b st_b ⟨j,rfl,ble,b34,bI0⟩ gQ
  have b5:=gQ 5 (by kernel_rfl);have tg:=gQ 32 (by kernel_rfl);have tV:=gQ 33 (by kernel_rfl)
  simp only[go_sem, ↓reduceIte,Nat.reduceEqDiff,Nat.reduceAdd,Nat.reduceSub,Nat.reduceLeDiff,reduceCtorEq,a18,ag0,ag1,ag2,ag3,a3,a5,OJ,a17]at b5 tg tV
  clear gQ
  obtain⟨bn,bC,gQ⟩:=bI0
  by_cases hj:(j:Int)<(l.length:Int)
  ·have iy:∀{e:Env} {gg:Rows} {nx:Nat},(e 34=.int .i64 (IntKind.i64.wrap ((j:Int)+1)))->(σ.next+3<=nx/\nU gg nx ⟨73001004,σ.next+1⟩ ⟨73001001,σ.next+1⟩ ⟨73001002,σ.next+1⟩ s l/\∀x:Id,x.cq<σ.next->gg x=σ.get x)->∃m0,m0<(l.length)-j/\∃j:Nat,m0=(l.length)-j/\j<=(l.length)/\e 34=.int .i64 (j:Int)/\(σ.next+3<=nx/\nU gg nx ⟨73001004,σ.next+1⟩ ⟨73001001,σ.next+1⟩ ⟨73001002,σ.next+1⟩ s l/\∀x:Id,x.cq<σ.next->gg x=σ.get x):=fun x1 x2=>⟨_,by omega,j+1,rfl,by omega,(by rw[x1,aC (by omega)]),x2⟩
   have jv:j<l.length:=by omega
   have hg:=fQ jv
   have Qi:=sV (hA.1.pt jv)
   (try((repeat(revert hN;revert N;apply Pn.out));refine wk (tw @b34 (tw @b5 (tw @tg (tw @tV (tw @hj (tw @hg @aa.eq_1)))))) ?_;(repeat(refine Pn.mk ?_;intro N hN))))
   have PF:nU (bK (bK st_b.get ⟨73009002,st_b.next+1⟩ ⟨true,3,[[.int .i64 0,.int .i64 0,.int .i64 0]]⟩) ⟨73009002,st_b.next+1⟩ ⟨true,3,[[.int .i64 (bj l j).aW.eZ,.int .i64 (bj l j).aW.eT,.int .i64 (bj l j).aP]]⟩) (st_b.next+1+1+1) ⟨73001004,σ.next+1⟩ ⟨73001001,σ.next+1⟩ ⟨73001002,σ.next+1⟩ s l:=bC.frame (by omega) fun x hx=>by
    have h1:=dP hx
    simp only[go_sem, ↓reduceIte,Nat.reduceEqDiff,Nat.reduceAdd,Nat.reduceSub,Nat.reduceLeDiff,reduceCtorEq,h1]
   refine .inr (aJ _ _ _ _ _ (fun r σ1 hq=>?_) (zD (σ:=⟨bK (bK st_b.get ⟨73009002,st_b.next+1⟩ ⟨true,3,[[.int .i64 0,.int .i64 0,.int .i64 0]]⟩) ⟨73009002,st_b.next+1⟩ ⟨true,3,[[.int .i64 (bj l j).aW.eZ,.int .i64 (bj l j).aW.eT,.int .i64 (bj l j).aP]]⟩,st_b.next+1+1+1⟩) PF.AO PF.cO PF.TO PF.op hS (gY.xO hA) (bj l j).aW Qi.1 Qi.2))
   obtain⟨g1,x1⟩:=σ1
   obtain⟨rfl,hL⟩:=hq
   (try dsimp only at hL)
   have hC2:=PF.look hL
   have hLn:=hL.1
   have hLf:=hL.2.1
   (try dsimp only at hLn hLf)
   refine hN _ _ ?_
   clear hN N
   (try((repeat(revert hN;revert N;apply Pn.out));refine wk (tw @b34 (tw @b5 (tw @tg @tV))) ?_;(repeat(refine Pn.mk ?_;intro N hN))))
   exact iy (sd (tw @b34 (tw @b5 (tw @tg @tV)))) (by(try dsimp only);exact⟨by omega,hC2.frame (by omega) (fun x hx=>rfl),fun x hx=>by
    have h1:=dP (i:=x) (n:=st_b.next) (by omega)
    have h2:=hLf x (by omega) (fun e=>by rw[e]at hx;(try dsimp only at hx);omega)
    have h3:=gQ x hx
    simp only[h2]
    simp only[go_sem, ↓reduceIte,Nat.reduceEqDiff,Nat.reduceAdd,Nat.reduceSub,Nat.reduceLeDiff,reduceCtorEq,h1,h3]⟩)
  ·(try((repeat(revert hN;revert N;apply Pn.out));refine wk (tw @b34 (tw @b5 (tw @tg (tw @tV @hj)))) ?_;(repeat(refine Pn.mk ?_;intro N hN))))
   exact eV (.inl rfl) (vs:=[.ptr ⟨73001004,σ.next+1⟩ 0 0]) (sd @Nat.zero_add) ⟨_,_,_,rfl,bC.frame (by(try dsimp only);omega) (fun x hx=>rfl),by(try dsimp only);omega,by(try dsimp only);omega,by(try dsimp only);omega,by(try dsimp only);omega,gQ⟩
end Go.Proofs.YtgoelphibofcmaaGreat.V

namespace Go.Proofs.YtgoelphibofcmaaGreat.V
open Go.RowKit
def fV:List ah->ah->List ah
 |[],q=>[q]
 |x::r,q=>if j6 q.aW x.aW=true then q::x::r else x::fV r q
theorem vY {q x:ah}:∀{l:List ah},x∈fV l q↔x=q∨x∈l
 |[]=>by simp[fV]
 |y::r=>by
  have ih:=@vY q x r
  rw[fV]
  split
  ·simp
  ·simp only[List.mem_cons,ih]
   constructor
   ·rintro(h|h|h)<;>simp[h]
   ·rintro(h|h|h)<;>simp[h]
theorem kM (q:ah):∀l:List ah,(fV l q).length=l.length+1
 |[]=>rfl
 |y::r=>by
  have ih:=kM q r
  rw[fV]
  split
  ·simp
  ·simp[ih]
theorem rQ {l:List ah}:oh l↔l.Pairwise fun a b=>j6 a.aW b.aW=true:=by
 rw[List.pairwise_iff_getElem]
 constructor
 ·intro h i j hi hj JZ
  have:=h i j JZ hj
  rwa [gL hi,gL hj]at this
 ·intro h i j JZ hj
  have:=h i j (by omega) hj JZ
  rwa [gL (by omega),gL hj]
theorem pf {l:List ah} {p:aE}:eE l p<0↔∀t∈l,t.aW≠p:=Bp
theorem I8 {q:ah}:∀{l:List ah},oh l->eE l q.aW<0->oh (fV l q):=by
 intro l
 rw[rQ,rQ,pf]
 induction l with
 |nil=>intro _ _;exact List.pairwise_singleton _ _
 |cons y r ih=>
  intro h hn
  obtain⟨h1,h2⟩:=List.pairwise_cons.1 h
  rw[fV]
  split
  ·rename_i hl
   refine List.pairwise_cons.2 ⟨fun x hx=>?_,h⟩
   rcases List.mem_cons.1 hx with rfl|hx
   ·exact hl
   ·exact kp hl (h1 x hx)
  ·rename_i hl
   rw[Bool.not_eq_true]at hl
   refine List.pairwise_cons.2 ⟨fun x hx=>?_,ih h2 fun t ht=>hn t (by simp[ht])⟩
   rcases vY.1 hx with rfl|hx
   ·exact E3 hl fun e=>hn y (by simp) e.symm
   ·exact h1 x hx
theorem jK (x:ah) (r:List ah) (p:aE):gm (x::r) p=if x.aW=p then x.aP else gm r p:=by
 unfold gm eE pN
 rw[List.findIdx_cons]
 by_cases h:x.aW=p
 ·simp[h,bj]
 ·simp only[h,decide_false,cond_false,List.length_cons,Nat.add_lt_add_iff_right,if_false]
  by_cases hl:(r.findIdx fun c=>decide (c.aW=p))<r.length
  ·rw[if_pos hl,if_pos hl,if_pos (by omega),if_pos (by omega)]
   simp[bj]
  ·rw[if_neg hl,if_neg hl];rfl
theorem AB {q:ah} (p:aE):∀{l:List ah},(∀t∈l,t.aW≠q.aW)->gm (fV l q) p=if q.aW=p then q.aP else gm l p
 |[],_=>by rw[fV,jK]
 |x::r,h=>by
  have ih:=@AB q p r fun t ht=>h t (by simp[ht])
  rw[fV]
  split
  ·rw[jK]
  ·rw[jK,ih,jK]
   by_cases h1:x.aW=p
   ·have h2:q.aW≠p:=fun e=>h x (by simp) (h1.trans e.symm)
    rw[if_pos h1,if_neg h2,if_pos h1]
   ·rw[if_neg h1,if_neg h1]
theorem El {q:ah} (p:aE):∀{l:List ah},(∀t∈l,t.aW≠q.aW)->gm (l++[q]) p=if q.aW=p then q.aP else gm l p
 |[],_=>by rw[List.nil_append,jK]
 |x::r,h=>by
  have ih:=@El q p r fun t ht=>h t (by simp[ht])
  rw[List.cons_append,jK,ih,jK]
  by_cases h1:x.aW=p
  ·have h2:q.aW≠p:=fun e=>h x (by simp) (h1.trans e.symm)
   rw[if_pos h1,if_neg h2,if_pos h1]
  ·rw[if_neg h1,if_neg h1]
theorem yF {α:Type} [DecidableEq α]:∀{xs ys:List α},xs.Nodup->(∀x∈xs,x∈ys)->xs.length<=ys.length
 |[],_,_,_=>Nat.zero_le _
 |x::xs,ys,hn,h=>by
  obtain⟨h1,h2⟩:=List.nodup_cons.1 hn
  have hx:=h x (by simp)
  have:=@yF α _ xs (ys.erase x) h2 fun y hy=>(List.mem_erase_of_ne fun e=>h1 (by rw[<-e];exact hy)).2 (h y (by simp[hy]))
  rw[List.length_erase_of_mem hx]at this
  have:=List.length_pos_of_mem hx
  rw[List.length_cons];omega
theorem Gy {l:List ah} (h:oh l):l.Nodup:=by
 rw[rQ]at h
 refine List.Pairwise.imp (fun {a b} rh e=>?_) h
 rw[e,zG]at rh;cases rh
abbrev tU:=List ah×List ah
noncomputable def EV (s:aI) (st:tU) (x:ah):tU:=if ua s st.2 x.aW x.aP=true then(st.1++[x],fV st.2 x)else st
structure He (s:aI) (l:List ah) (st:tU):Prop where
 Jf:oh st.2
 sub:∀x∈st.2,x∈l
 done:∀x∈st.1,x∈l
 len:st.2.length=s.bx.aq.length+st.1.length
theorem He.zb {s:aI} {l:List ah} {st:tU} (h:He s l st):st.2.length<=l.length:=by
 classical
 exact yF (Gy h.Jf) h.sub
theorem HR {s:aI} {l:List ah} (hA:lE s.aD l) {now:List ah} (hs:∀x∈now,x∈l) {p:aE} {t:Int} (h:ua s now p t=true):eE now p<0:=by
 rcases Int.lt_or_le (eE now p) 0 with h0|h0
 ·exact h0
 ·exfalso
  obtain⟨h1,_⟩:=mN h0
  have h2:=(ej (hA.2 _ (hs _ (jq h1)))).1
  simp[ua,gm,h0]at h
  omega
theorem He.step {s:aI} {l:List ah} {st:tU} (h:He s l st) (hA:lE s.aD l) {x:ah} (hx:x∈l):He s l (EV s st x):=by
 unfold EV
 split
 ·rename_i hf
  have h0:=HR hA h.sub hf
  exact⟨I8 h.Jf h0,fun y hy=>by rcases vY.1 hy with rfl|hy;exact hx;exact h.sub y hy,fun y hy=>by
   rcases List.mem_append.1 hy with hy|hy
   ·exact h.done y hy
   ·rw[List.mem_singleton.1 hy];exact hx,by rw[kM,List.length_append,List.length_singleton,h.len];omega⟩
 ·exact h
end Go.Proofs.YtgoelphibofcmaaGreat.V

namespace Go.Proofs.YtgoelphibofcmaaGreat.V
open Go.RowKit
attribute [local irreducible] eh wpOps fI Call
attribute [local go_sem] aM fj eJ fF fE da upd cu K.av cI AV.cells AV.cell rowOf rowsOf part ld rowAt bK bV dq dM gy bD cY dY fA eS dk dR cW cV dD dE bG bc cL bF cP cN dO dS dQ cK bL cX dN bE aO cR cz gx bm cH bH aY dp bl dr AV.undef bt bz dF dL dy dC cF dX eb cw dV dU cQ cU List.getD_cons_zero List.getD_cons_succ List.getD_nil List.all_cons List.all_nil Bool.and_true Bool.true_and Bool.and_self Bool.not_true Bool.not_false Option.map_some Option.map_none Option.bind_some Option.bind_none List.length_cons List.length_nil List.take_succ_cons List.take_zero List.take_nil List.drop_succ_cons List.drop_zero List.drop_nil List.head?_cons List.map_cons List.map_nil List.getElem?_cons_zero List.getElem?_cons_succ List.cons_append List.nil_append List.append_nil List.length_map List.set_cons_zero List.set_cons_succ Nat.reduceMul eq_self Int.toNat_natCast Int.natCast_nonneg and_self true_and and_true decide_true decide_false Bool.false_eq_true Nat.zero_add Nat.add_zero List.contains_cons List.contains_nil Bool.or_false Bool.false_or beq_self_eq_true Nat.reduceBEq ne_eq not_true_eq_false not_false_eq_true Id.mk.injEq false_and and_false Nat.reduceLT Int.reduceLE Int.reduceLT Int.reduceToNat Int.reduceNeg Int.reduceAdd Nat.le_refl List.length_append beq_true beq_false Bool.not_eq_eq_eq_not or_false false_or dK aj ar aH bd br bW aT aZ aU bf cJ bw
def RV (ps:List aE) (i:Nat):aE:=ps.getD i ⟨0,0⟩
theorem I9 {ps:List aE} {i:Nat} (h:i<ps.length):RV ps i=ps[i]:=by simp[RV,List.getD_eq_getElem?_getD,h]
def Ph (ps:List aE):Prop:=ps.Pairwise fun a b=>j6 a b=true
theorem Ph.at_ {ps:List aE} (h:Ph ps) {i j:Nat} (JZ:i<j) (hj:j<ps.length):j6 (RV ps i) (RV ps j)=true:=by
 rw[I9 hj,I9 (by omega)]
 exact List.pairwise_iff_getElem.1 h i j (by omega) hj JZ
end Go.Proofs.YtgoelphibofcmaaGreat.V

namespace Go.Proofs.YtgoelphibofcmaaGreat.V
open Go.RowKit
attribute [local irreducible] eh wpOps fI Call
attribute [local go_sem] aM fj eJ fF fE da upd cu K.av cI AV.cells AV.cell rowOf rowsOf part ld rowAt bK bV dq dM gy bD cY dY fA eS dk dR cW cV dD dE bG bc cL bF cP cN dO dS dQ cK bL cX dN bE aO cR cz gx bm cH bH aY dp bl dr AV.undef bt bz dF dL dy dC cF dX eb cw dV dU cQ cU List.getD_cons_zero List.getD_cons_succ List.getD_nil List.all_cons List.all_nil Bool.and_true Bool.true_and Bool.and_self Bool.not_true Bool.not_false Option.map_some Option.map_none Option.bind_some Option.bind_none List.length_cons List.length_nil List.take_succ_cons List.take_zero List.take_nil List.drop_succ_cons List.drop_zero List.drop_nil List.head?_cons List.map_cons List.map_nil List.getElem?_cons_zero List.getElem?_cons_succ List.cons_append List.nil_append List.append_nil List.length_map List.set_cons_zero List.set_cons_succ Nat.reduceMul eq_self Int.toNat_natCast Int.natCast_nonneg and_self true_and and_true decide_true decide_false Bool.false_eq_true Nat.zero_add Nat.add_zero List.contains_cons List.contains_nil Bool.or_false Bool.false_or beq_self_eq_true Nat.reduceBEq ne_eq not_true_eq_false not_false_eq_true Id.mk.injEq false_and and_false Nat.reduceLT Int.reduceLE Int.reduceLT Int.reduceToNat Int.reduceNeg Int.reduceAdd Nat.le_refl List.length_append beq_true beq_false Bool.not_eq_eq_eq_not or_false false_or dK aj ar aH bd br bW aT aZ aU bf cJ bw
end Go.Proofs.YtgoelphibofcmaaGreat.V

namespace Go.Proofs.YtgoelphibofcmaaGreat.V
open Go.RowKit
attribute [local irreducible] eh wpOps fI Call
attribute [local go_sem] aM fj eJ fF fE da upd cu K.av cI AV.cells AV.cell rowOf rowsOf part ld rowAt bK bV dq dM gy bD cY dY fA eS dk dR cW cV dD dE bG bc cL bF cP cN dO dS dQ cK bL cX dN bE aO cR cz gx bm cH bH aY dp bl dr AV.undef bt bz dF dL dy dC cF dX eb cw dV dU cQ cU List.getD_cons_zero List.getD_cons_succ List.getD_nil List.all_cons List.all_nil Bool.and_true Bool.true_and Bool.and_self Bool.not_true Bool.not_false Option.map_some Option.map_none Option.bind_some Option.bind_none List.length_cons List.length_nil List.take_succ_cons List.take_zero List.take_nil List.drop_succ_cons List.drop_zero List.drop_nil List.head?_cons List.map_cons List.map_nil List.getElem?_cons_zero List.getElem?_cons_succ List.cons_append List.nil_append List.append_nil List.length_map List.set_cons_zero List.set_cons_succ Nat.reduceMul eq_self Int.toNat_natCast Int.natCast_nonneg and_self true_and and_true decide_true decide_false Bool.false_eq_true Nat.zero_add Nat.add_zero List.contains_cons List.contains_nil Bool.or_false Bool.false_or beq_self_eq_true Nat.reduceBEq ne_eq not_true_eq_false not_false_eq_true Id.mk.injEq false_and and_false Nat.reduceLT Int.reduceLE Int.reduceLT Int.reduceToNat Int.reduceNeg Int.reduceAdd Nat.le_refl List.length_append beq_true beq_false Bool.not_eq_eq_eq_not or_false false_or dK aj ar aH bd br bW aT aZ aU bf cJ bw
end Go.Proofs.YtgoelphibofcmaaGreat.V

namespace Go.Proofs.YtgoelphibofcmaaGreat.V
open Go.RowKit
attribute [local irreducible] eh wpOps fI Call
attribute [local go_sem] aM fj eJ fF fE da upd cu K.av cI AV.cells AV.cell rowOf rowsOf part ld rowAt bK bV dq dM gy bD cY dY fA eS dk dR cW cV dD dE bG bc cL bF cP cN dO dS dQ cK bL cX dN bE aO cR cz gx bm cH bH aY dp bl dr AV.undef bt bz dF dL dy dC cF dX eb cw dV dU cQ cU List.getD_cons_zero List.getD_cons_succ List.getD_nil List.all_cons List.all_nil Bool.and_true Bool.true_and Bool.and_self Bool.not_true Bool.not_false Option.map_some Option.map_none Option.bind_some Option.bind_none List.length_cons List.length_nil List.take_succ_cons List.take_zero List.take_nil List.drop_succ_cons List.drop_zero List.drop_nil List.head?_cons List.map_cons List.map_nil List.getElem?_cons_zero List.getElem?_cons_succ List.cons_append List.nil_append List.append_nil List.length_map List.set_cons_zero List.set_cons_succ Nat.reduceMul eq_self Int.toNat_natCast Int.natCast_nonneg and_self true_and and_true decide_true decide_false Bool.false_eq_true Nat.zero_add Nat.add_zero List.contains_cons List.contains_nil Bool.or_false Bool.false_or beq_self_eq_true Nat.reduceBEq ne_eq not_true_eq_false not_false_eq_true Id.mk.injEq false_and and_false Nat.reduceLT Int.reduceLE Int.reduceLT Int.reduceToNat Int.reduceNeg Int.reduceAdd Nat.le_refl List.length_append beq_true beq_false Bool.not_eq_eq_eq_not or_false false_or dK aj ar aH bd br bW aT aZ aU bf cJ bw
theorem yI {s:aI} {l:List ah}:gu s l=0↔uO s/\lE s.aD l/\kn s.bx.aq l=true:=by
 unfold gu
 cases b:qR s l
 ·simp;intro h1 h2;exact absurd (qS.2 ⟨h1,h2⟩) (by rw[b];simp)
 ·obtain⟨h1,h2⟩:=qS.1 b
  cases kn s.bx.aq l<;>simp[h1,h2]
end Go.Proofs.YtgoelphibofcmaaGreat.V

namespace Go.Proofs.YtgoelphibofcmaaGreat.V
open Go.RowKit
attribute [local irreducible] eh wpOps fI Call
attribute [local go_sem] aM fj eJ fF fE da upd cu K.av cI AV.cells AV.cell rowOf rowsOf part ld rowAt bK bV dq dM gy bD cY dY fA eS dk dR cW cV dD dE bG bc cL bF cP cN dO dS dQ cK bL cX dN bE aO cR cz gx bm cH bH aY dp bl dr AV.undef bt bz dF dL dy dC cF dX eb cw dV dU cQ cU List.getD_cons_zero List.getD_cons_succ List.getD_nil List.all_cons List.all_nil Bool.and_true Bool.true_and Bool.and_self Bool.not_true Bool.not_false Option.map_some Option.map_none Option.bind_some Option.bind_none List.length_cons List.length_nil List.take_succ_cons List.take_zero List.take_nil List.drop_succ_cons List.drop_zero List.drop_nil List.head?_cons List.map_cons List.map_nil List.getElem?_cons_zero List.getElem?_cons_succ List.cons_append List.nil_append List.append_nil List.length_map List.set_cons_zero List.set_cons_succ Nat.reduceMul eq_self Int.toNat_natCast Int.natCast_nonneg and_self true_and and_true decide_true decide_false Bool.false_eq_true Nat.zero_add Nat.add_zero List.contains_cons List.contains_nil Bool.or_false Bool.false_or beq_self_eq_true Nat.reduceBEq ne_eq not_true_eq_false not_false_eq_true Id.mk.injEq false_and and_false Nat.reduceLT Int.reduceLE Int.reduceLT Int.reduceToNat Int.reduceNeg Int.reduceAdd Nat.le_refl List.length_append beq_true beq_false Bool.not_eq_eq_eq_not or_false false_or dK aj ar aH bd br bW aT aZ aU bf cJ bw
structure OI (g:Rows) (n:Nat) (A S C c T O:Id) (s:aI) (l:List ah):Prop where
 a:∃b,g A=some ⟨b,1,[[.sl (l.map aa)]]⟩
 sy:∃b,g S=some ⟨b,4,[az s]⟩
 p:∃b,g C=some ⟨b,1,[[.ptr c 0 0]]⟩
 AO:Ai g n c T O s l
 av:A.cq<n
 sv:S.cq<n
 pv:C.cq<n
theorem OI.ro {g:Rows} {n:Nat} {A S C c T O:Id} {s:aI} {l:List ah} (h:OI g n A S C c T O s l):OI (V.ro g) n A S C c T O s l:=by
 obtain⟨b,h1⟩:=h.a
 obtain⟨b2,h2⟩:=h.sy
 obtain⟨b3,h3⟩:=h.p
 exact⟨⟨false,by simp[V.ro,h1]⟩,⟨false,by simp[V.ro,h2]⟩,⟨false,by simp[V.ro,h3]⟩,h.AO.ro,h.av,h.sv,h.pv⟩
theorem OI.frame {g g':Rows} {n n':Nat} {A S C c T O:Id} {s:aI} {l:List ah} (h:OI g n A S C c T O s l) (hn:n<=n') (hf:∀x:Id,x.cq<n->g' x=g x):OI g' n' A S C c T O s l:=
 ⟨by rw[hf _ h.av];exact h.a,by rw[hf _ h.sv];exact h.sy,by rw[hf _ h.pv];exact h.p,h.AO.frame hn (hf _ h.AO.cv) (hf _ h.AO.tv),Nat.lt_of_lt_of_le h.av hn,Nat.lt_of_lt_of_le h.sv hn,Nat.lt_of_lt_of_le h.pv hn⟩
end Go.Proofs.YtgoelphibofcmaaGreat.V

namespace Go.Proofs.YtgoelphibofcmaaGreat.V
open Go.RowKit
attribute [local irreducible] eh wpOps fI Call
attribute [local go_sem] aM fj eJ fF fE da upd cu K.av cI AV.cells AV.cell rowOf rowsOf part ld rowAt bK bV dq dM gy bD cY dY fA eS dk dR cW cV dD dE bG bc cL bF cP cN dO dS dQ cK bL cX dN bE aO cR cz gx bm cH bH aY dp bl dr AV.undef bt bz dF dL dy dC cF dX eb cw dV dU cQ cU List.getD_cons_zero List.getD_cons_succ List.getD_nil List.all_cons List.all_nil Bool.and_true Bool.true_and Bool.and_self Bool.not_true Bool.not_false Option.map_some Option.map_none Option.bind_some Option.bind_none List.length_cons List.length_nil List.take_succ_cons List.take_zero List.take_nil List.drop_succ_cons List.drop_zero List.drop_nil List.head?_cons List.map_cons List.map_nil List.getElem?_cons_zero List.getElem?_cons_succ List.cons_append List.nil_append List.append_nil List.length_map List.set_cons_zero List.set_cons_succ Nat.reduceMul eq_self Int.toNat_natCast Int.natCast_nonneg and_self true_and and_true decide_true decide_false Bool.false_eq_true Nat.zero_add Nat.add_zero List.contains_cons List.contains_nil Bool.or_false Bool.false_or beq_self_eq_true Nat.reduceBEq ne_eq not_true_eq_false not_false_eq_true Id.mk.injEq false_and and_false Nat.reduceLT Int.reduceLE Int.reduceLT Int.reduceToNat Int.reduceNeg Int.reduceAdd Nat.le_refl List.length_append beq_true beq_false Bool.not_eq_eq_eq_not or_false false_or dK aj ar aH bd br bW aT aZ aU bf cJ bw
end Go.Proofs.YtgoelphibofcmaaGreat.V

namespace Go.Proofs.YtgoelphibofcmaaGreat.V
open Go.RowKit Go.Shelf Go.Lib Go.Sort
instance:Inhabited aE:=⟨⟨0,0⟩⟩
variable {P:Program} {w:World} {D:Nat->Prop} {ι:Names}
end Go.Proofs.YtgoelphibofcmaaGreat.V

namespace Go.Proofs
open Go.Shelf
end Go.Proofs

namespace Go.Proofs.YtgoelphibofcmaaGreat.V
open Go.RowKit Go.Shelf Go.Lib Go.Sort
def Grown (w w':World):Prop:=∃(q:Nat) (os:Array Obj),w'=Go.Sort.grow (w.drewN q) os
theorem Grown.refl (w:World):Grown w w:=⟨0, #[],by rw[grow_empty];rfl⟩
theorem Grown.alloc {w w':World} (h:Grown w w') (o:Obj):Grown w (w'.alloc o):=by
 obtain⟨q,os,rfl⟩:=h
 exact⟨q,os++ #[o],by rw[alloc_eq_grow,grow_grow]⟩
theorem Grown.drew {w w':World} (h:Grown w w'):Grown w w'.drew:=by
 obtain⟨q,os,rfl⟩:=h
 exact⟨q+1,os,by rw[drew_grow];rfl⟩
end Go.Proofs.YtgoelphibofcmaaGreat.V

namespace Go.Proofs.YtgoelphibofcmaaGreat.V
open Go.RowKit
attribute [local irreducible] eh wpOps fI Call
attribute [local go_sem] aM fj eJ fF fE da upd cu K.av cI AV.cells AV.cell rowOf rowsOf part ld rowAt bK bV dq dM gy bD cY dY fA eS dk dR cW cV dD dE bG bc cL bF cP cN dO dS dQ cK bL cX dN bE aO cR cz gx bm cH bH aY dp bl dr AV.undef bt bz dF dL dy dC cF dX eb cw dV dU cQ cU List.getD_cons_zero List.getD_cons_succ List.getD_nil List.all_cons List.all_nil Bool.and_true Bool.true_and Bool.and_self Bool.not_true Bool.not_false Option.map_some Option.map_none Option.bind_some Option.bind_none List.length_cons List.length_nil List.take_succ_cons List.take_zero List.take_nil List.drop_succ_cons List.drop_zero List.drop_nil List.head?_cons List.map_cons List.map_nil List.getElem?_cons_zero List.getElem?_cons_succ List.cons_append List.nil_append List.append_nil List.length_map List.set_cons_zero List.set_cons_succ Nat.reduceMul eq_self Int.toNat_natCast Int.natCast_nonneg and_self true_and and_true decide_true decide_false Bool.false_eq_true Nat.zero_add Nat.add_zero List.contains_cons List.contains_nil Bool.or_false Bool.false_or beq_self_eq_true Nat.reduceBEq ne_eq not_true_eq_false not_false_eq_true Id.mk.injEq false_and and_false Nat.reduceLT Int.reduceLE Int.reduceLT Int.reduceToNat Int.reduceNeg Int.reduceAdd Nat.le_refl List.length_append beq_true beq_false Bool.not_eq_eq_eq_not or_false false_or dK aj ar aH bd br bW aT aZ aU bf cJ bw
end Go.Proofs.YtgoelphibofcmaaGreat.V

namespace Go.Proofs.YtgoelphibofcmaaGreat.V
open Go.RowKit
variable {P:Program} {w w':World} {D D':Nat->Prop} {ι ι':Names} {hs:Nat} {g:Rows}
theorem jw.HW (hc:∀b x,D b->w'.cell? ⟨b,x,none⟩=w.cell? ⟨b,x,none⟩) {a:AV} {v:Value} (h:jw P w D a v):jw P w' D a v:=by
 induction h with
 |int k n=>exact .int k n
 |bool b=>exact .bool b
 |str s=>exact .str s
 |bq=>exact .bq
 |gJ=>exact .gJ
 |iT=>exact .iT
 |je=>exact .je
 |As a c h=>exact .As a c h
 |sl rows b o n c sz vs h1 h2 h3 h4 h5 HX h6 _ ih=>exact .sl rows b o n c sz vs h1 h2 h3 h4 h5 HX (fun i j hi hj=>(hc b _ h4).trans (h6 i j hi hj)) ih
 |di cs b o vs h1 M6 h2 _ ih=>exact .di cs b o vs h1 M6 (fun j hj=>(hc b _ h1).trans (h2 j hj)) ih
 |agg cs vs f h1 h2 h3 _ ih=>exact .agg cs vs f h1 h2 h3 ih
 |fn f de vs g h1 h2 h3 _ ih=>exact .fn f de vs g h1 h2 h3 ih
theorem dj.HW (hc:∀b x,D b->w'.cell? ⟨b,x,none⟩=w.cell? ⟨b,x,none⟩) {a:AV} {v:Value} (h:dj P w D ι a v):dj P w' D ι a v:=by
 induction h with
 |eU a v h=>exact .eU a v (h.HW hc)
 |map id m B h1 h2=>exact .map id m B h1 h2
 |qZ id c B h1 h2=>exact .qZ id c B h1 h2
 |own id off len o cap B h1 h2 h3 h4 h5 h6=>exact .own id off len o cap B h1 h2 h3 h4 h5 h6
 |ptr id i off B h1 h2=>exact .ptr id i off B h1 h2
 |agg cs vs f h1 h2 h3 _ ih=>exact .agg cs vs f h1 h2 h3 ih
 |iO cs vs f h1 h2 _ ih=>exact .iO cs vs f h1 h2 ih
 |fn f de vs g h1 h2 h3 _ ih=>exact .fn f de vs g h1 h2 h3 ih
 |tH f de vs g h1 h2 h3 _ ih=>exact .tH f de vs g h1 h2 h3 ih
def Hf (w:World) (rr:Nat):Prop:=∃m s seen c,w.heap[rr]? =some (.mapIter m s seen c)
theorem Hf.cell {rr:Nat} (h:Hf w rr) (x:Nat):w.cell? ⟨rr,x,none⟩=none:=by
 obtain⟨m,s,seen,c,h⟩:=h
 simp[World.cell?,h]
structure OF (P:Program) (w:World) (D:Nat->Prop) (ι:Names) (m:MK) (L:List MapEntry) (left:List (List AV)):Prop where
 len:left.length=L.length
 at_:∀(i:Nat) (cs:List AV),left[i]? =some cs->∃(e:MapEntry) (kv vv:AV),L[i]? =some e/\part m.ka m.ks cs=some kv/\cs[m.ks]? =some vv/\dj P w D ι kv e.key/\dj P w D ι vv e.val
theorem OF.rep {m:MK} {L:List MapEntry} {left:List (List AV)} (h:OF P w D ι m L left) (hr:∀{a v},dj P w D ι a v->dj P w' D' ι' a v):OF P w' D' ι' m L left:=⟨h.len,fun i cs hi=>by
 obtain⟨e,kv,vv,h1,h2,h3,h4,h5⟩:=h.at_ i cs hi
 exact⟨e,kv,vv,h1,h2,h3,hr h4,hr h5⟩⟩
theorem mJ {α β:Type} {l:List α} {k:List β} {i j:Nat} {x:α} (hl:l.length=k.length) (h:(l.eraseIdx i)[j]? =some x):∃q:Nat,l[q]? =some x/\(k.eraseIdx i)[j]? =k[q]? :=by
 rw[List.getElem?_eraseIdx]at h
 split at h
 ·rename_i hj;exact⟨j,h,by rw[List.getElem?_eraseIdx,if_pos hj]⟩
 ·rename_i hj;exact⟨j+1,h,by rw[List.getElem?_eraseIdx,if_neg hj]⟩
theorem OF.erase {m:MK} {L:List MapEntry} {left:List (List AV)} (h:OF P w D ι m L left) {i:Nat} (hi:i<L.length):OF P w D ι m (L.eraseIdx i) (left.eraseIdx i):=⟨by
 rw[List.length_eraseIdx,List.length_eraseIdx,h.len],fun j cs hj=>by
 obtain⟨q,hq,he⟩:=mJ h.len hj
 obtain⟨e,kv,vv,h1,h2⟩:=h.at_ q cs hq
 exact⟨e,kv,vv,he.trans h1,h2⟩⟩
def CS (P:Program) (nt:Nat) (c:Code) (W:(Ex->Env->aw->Prop)->Env->aw->Prop):Prop:=
 ∀(hs:Nat) (Q:Ex->Env->aw->Prop) (env:Env) (σ:aw) (a:Act) (w:World) (D:Nat->Prop) (ι:Names) (Q':Exit->Act->World->Prop),W Q env σ->St P hs nt D ι env σ a w->uL P hs nt a.defers Q σ.next D ι w Q'->CC P c Q' a w
theorem CS.code (hm:P.follows .mixedOrders=true) {md:List (Nat×Nat)} {nt vg:Nat} {c:Code} {vc:VC} (h:jD P md nt vg c=some vc):CS P nt c (eh (Sound P) vc):=
 fun _ Q env σ a w D ι Q' hv eC hQ=>u7 hm c vc h Q env σ a w D ι Q' hv eC hQ
theorem CS.seq {nt:Nat} {x y:Code} {V W:(Ex->Env->aw->Prop)->Env->aw->Prop} (h:CS P nt x V) (k:CS P nt y W):CS P nt (.seq x y) (fun Q=>V (dp (W Q) Q)):=fun hs Q env σ a w D ι Q' hv eC hQ=>by
 refine E4 (h hs _ env σ a w D ι _ hv eC fun ex jy σ1 a1 w1 D1 ι1 hq T jX hd hle=>?_)
 cases ex with
 |normal=>exact k hs Q jy σ1 a1 w1 D1 ι1 Q' hq jX (by rw[hd];exact hQ.later T hle)
 |exit id=>exact hQ (.exit id) jy σ1 a1 w1 D1 ι1 hq T jX hd hle
 |ret=>exact hQ .ret jy σ1 a1 w1 D1 ι1 hq T jX hd hle
theorem CS.fn {f:Nat} {fn:Func} {c:Code} {args:List AV} {σ:aw} {K:AV->aw->Prop} {vr:List oj} {W:(Ex->Env->aw->Prop)->Env->aw->Prop} (OQ:P.funcs[f]? =some fn) (hc:fn.body=some c) (hr:fn.results.toList.mapM (CO P)=some vr) (ha:fn.params.size+fn.nfree=args.length) (hle:fn.params.size+fn.nfree<=fn.ntmps)
  (h:CS P fn.ntmps c W) (hv:W (kS vr K) (cu args) σ):Call P f args σ K:=
 gD (uR OQ hc hr ha hle fun hs w D ι a Q' eC hQ=>h hs (kS vr K) (cu args) σ a w D ι Q' hv eC hQ)
end Go.Proofs.YtgoelphibofcmaaGreat.V

namespace Go.Proofs.YtgoelphibofcmaaGreat.V
open Go.RowKit
end Go.Proofs.YtgoelphibofcmaaGreat.V

namespace Go.Proofs.YtgoelphibofcmaaGreat.V
open Go.RowKit
end Go.Proofs.YtgoelphibofcmaaGreat.V

namespace Go.Proofs.YtgoelphibofcmaaGreat.V
open Go.RowKit
attribute [local irreducible] eh wpOps fI Call
attribute [local go_sem] aM fj eJ fF fE da upd cu K.av cI AV.cells AV.cell rowOf rowsOf part ld rowAt bK bV dq dM gy bD cY dY fA eS dk dR cW cV dD dE bG bc cL bF cP cN dO dS dQ cK bL cX dN bE aO cR cz gx bm cH bH aY dp bl dr AV.undef bt bz dF dL dy dC cF dX eb cw dV dU cQ cU List.getD_cons_zero List.getD_cons_succ List.getD_nil List.all_cons List.all_nil Bool.and_true Bool.true_and Bool.and_self Bool.not_true Bool.not_false Option.map_some Option.map_none Option.bind_some Option.bind_none List.length_cons List.length_nil List.take_succ_cons List.take_zero List.take_nil List.drop_succ_cons List.drop_zero List.drop_nil List.head?_cons List.map_cons List.map_nil List.getElem?_cons_zero List.getElem?_cons_succ List.cons_append List.nil_append List.append_nil List.length_map List.set_cons_zero List.set_cons_succ Nat.reduceMul eq_self Int.toNat_natCast Int.natCast_nonneg and_self true_and and_true decide_true decide_false Bool.false_eq_true Nat.zero_add Nat.add_zero List.contains_cons List.contains_nil Bool.or_false Bool.false_or beq_self_eq_true Nat.reduceBEq ne_eq not_true_eq_false not_false_eq_true Id.mk.injEq false_and and_false Nat.reduceLT Int.reduceLE Int.reduceLT Int.reduceToNat Int.reduceNeg Int.reduceAdd Nat.le_refl List.length_append beq_true beq_false Bool.not_eq_eq_eq_not or_false false_or dK aj ar aH bd br bW aT aZ aU bf cJ bw
end Go.Proofs.YtgoelphibofcmaaGreat.V

namespace Go.Proofs.YtgoelphibofcmaaGreat.V
open Go.RowKit
attribute [local irreducible] eh wpOps fI Call
attribute [local go_sem] aM fj eJ fF fE da upd cu K.av cI AV.cells AV.cell rowOf rowsOf part ld rowAt bK bV dq dM gy bD cY dY fA eS dk dR cW cV dD dE bG bc cL bF cP cN dO dS dQ cK bL cX dN bE aO cR cz gx bm cH bH aY dp bl dr AV.undef bt bz dF dL dy dC cF dX eb cw dV dU cQ cU List.getD_cons_zero List.getD_cons_succ List.getD_nil List.all_cons List.all_nil Bool.and_true Bool.true_and Bool.and_self Bool.not_true Bool.not_false Option.map_some Option.map_none Option.bind_some Option.bind_none List.length_cons List.length_nil List.take_succ_cons List.take_zero List.take_nil List.drop_succ_cons List.drop_zero List.drop_nil List.head?_cons List.map_cons List.map_nil List.getElem?_cons_zero List.getElem?_cons_succ List.cons_append List.nil_append List.append_nil List.length_map List.set_cons_zero List.set_cons_succ Nat.reduceMul eq_self Int.toNat_natCast Int.natCast_nonneg and_self true_and and_true decide_true decide_false Bool.false_eq_true Nat.zero_add Nat.add_zero List.contains_cons List.contains_nil Bool.or_false Bool.false_or beq_self_eq_true Nat.reduceBEq ne_eq not_true_eq_false not_false_eq_true Id.mk.injEq false_and and_false Nat.reduceLT Int.reduceLE Int.reduceLT Int.reduceToNat Int.reduceNeg Int.reduceAdd Nat.le_refl List.length_append beq_true beq_false Bool.not_eq_eq_eq_not or_false false_or dK aj ar aH bd br bW aT aZ aU bf cJ bw
def iI (p:aE->Bool) (l:List aE):List aE:=l.filter fun x=> !p x
theorem qy {p:aE->Bool} {l:List aE} {j:Nat} (hj:j<l.length):iI p (l.take (j+1))=iI p (l.take j)++if p l[j]=true then[]else[l[j]]:=by
 unfold iI
 rw[List.take_succ_eq_append_getElem hj,List.filter_append]
 congr 1
 cases h:p l[j]<;>simp[h]
theorem Dp {p:aE->Bool} {l:List aE} (h:∀b∈l,p b=false):iI p l=l:=by
 unfold iI
 rw[List.filter_eq_self]
 intro b hb
 rw[h b hb];rfl
structure JQ (p:aE->Bool) (bs:List aE) (j:Nat) (R:List aE):Prop where
 len:R.length=bs.length
 pre:R.take (iI p (bs.take j)).length=iI p (bs.take j)
 post:∀x,j<=x->R[x]? =bs[x]?
 lt:(iI p (bs.take j)).length<j
theorem JQ.start {p:aE->Bool} {bs:List aE} {i:Nat} (hi:i<bs.length) (hw:p bs[i]=true) (hp:∀x (h:x<i),p bs[x]=false):JQ p bs (i+1) bs/\(iI p (bs.take (i+1))).length=i:=by
 have h1:iI p (bs.take i)=bs.take i:=Dp fun b hb=>by
  obtain⟨x,hx,rfl⟩:=List.getElem_of_mem hb
  rw[List.length_take]at hx
  rw[List.getElem_take]
  exact hp x (by omega)
 have h2:iI p (bs.take (i+1))=bs.take i:=by rw[qy hi,if_pos hw,List.append_nil,h1]
 have h3:(bs.take i).length=i:=by rw[List.length_take];omega
 exact⟨⟨rfl,by rw[h2,h3],fun _ _=>rfl,by rw[h2,h3];omega⟩,by rw[h2,h3]⟩
theorem JQ.QV {p:aE->Bool} {bs R:List aE} {j:Nat} (h:JQ p bs j R) (hj:j<bs.length) (hw:p bs[j]=true):JQ p bs (j+1) R/\(iI p (bs.take (j+1))).length=(iI p (bs.take j)).length:=by
 have h2:iI p (bs.take (j+1))=iI p (bs.take j):=by rw[qy hj,if_pos hw,List.append_nil]
 exact⟨⟨h.len,by rw[h2];exact h.pre,fun x hx=>h.post x (by omega),by rw[h2];have:=h.lt;omega⟩,by rw[h2]⟩
theorem JQ.uf {p:aE->Bool} {bs R:List aE} {j:Nat} (h:JQ p bs j R) (hj:j<bs.length) (hw:p bs[j]=false):JQ p bs (j+1) (R.set (iI p (bs.take j)).length bs[j])/\(iI p (bs.take (j+1))).length=(iI p (bs.take j)).length+1:=by
 have h2:iI p (bs.take (j+1))=iI p (bs.take j)++[bs[j]]:=by rw[qy hj,hw];rfl
 have eo:=h.lt
 have hlen:=h.len
 have ud:=h.pre
 generalize hc:(iI p (bs.take j)).length=c at *
 refine⟨⟨by rw[List.length_set];exact hlen,?_,fun x hx=>?_,by rw[h2,List.length_append,hc];simp;omega⟩,by rw[h2,List.length_append,hc];rfl⟩
 ·rw[h2,List.length_append,hc,List.length_singleton,List.take_succ_eq_append_getElem (by rw[List.length_set];omega),List.getElem_set_self,List.take_set_of_le (Nat.le_refl _),ud]
 ·rw[List.getElem?_set_ne (by omega)];exact h.post x (by omega)
theorem JQ.at_ {p:aE->Bool} {bs R:List aE} {j:Nat} (h:JQ p bs j R) (hj:j<bs.length):(R.map ai)[j]? =some (ai bs[j]):=by
 rw[List.getElem?_map,h.post j (Nat.le_refl j),List.getElem?_eq_getElem hj];rfl
end Go.Proofs.YtgoelphibofcmaaGreat.V

namespace Go.Proofs.YtgoelphibofcmaaGreat.V
open Go.RowKit
attribute [local irreducible] eh wpOps fI Call
attribute [local go_sem] aM fj eJ fF fE da upd cu K.av cI AV.cells AV.cell rowOf rowsOf part ld rowAt bK bV dq dM gy bD cY dY fA eS dk dR cW cV dD dE bG bc cL bF cP cN dO dS dQ cK bL cX dN bE aO cR cz gx bm cH bH aY dp bl dr AV.undef bt bz dF dL dy dC cF dX eb cw dV dU cQ cU List.getD_cons_zero List.getD_cons_succ List.getD_nil List.all_cons List.all_nil Bool.and_true Bool.true_and Bool.and_self Bool.not_true Bool.not_false Option.map_some Option.map_none Option.bind_some Option.bind_none List.length_cons List.length_nil List.take_succ_cons List.take_zero List.take_nil List.drop_succ_cons List.drop_zero List.drop_nil List.head?_cons List.map_cons List.map_nil List.getElem?_cons_zero List.getElem?_cons_succ List.cons_append List.nil_append List.append_nil List.length_map List.set_cons_zero List.set_cons_succ Nat.reduceMul eq_self Int.toNat_natCast Int.natCast_nonneg and_self true_and and_true decide_true decide_false Bool.false_eq_true Nat.zero_add Nat.add_zero List.contains_cons List.contains_nil Bool.or_false Bool.false_or beq_self_eq_true Nat.reduceBEq ne_eq not_true_eq_false not_false_eq_true Id.mk.injEq false_and and_false Nat.reduceLT Int.reduceLE Int.reduceLT Int.reduceToNat Int.reduceNeg Int.reduceAdd Nat.le_refl List.length_append beq_true beq_false Bool.not_eq_eq_eq_not or_false false_or dK aj ar aH bd br bW aT aZ aU bf cJ bw
structure ns (n:Nat) (px:Nat->Option Nat) (L:Nat->Nat):Prop where
 top:∀k,k<n->px k=none->L k=k
 up:∀k j,k<n->px k=some j->j<k/\L j=L k
theorem ns.root {n:Nat} {px:Nat->Option Nat} {L:Nat->Nat} (h:ns n px L) (hL:jC L) {k:Nat} (hk:k<n) (hr:L k=k):px k=none:=by
 rcases hp:px k with _|j
 ·rfl
 ·obtain⟨h1,h2⟩:=h.up k j hk hp
  have:=hL.le j
  omega
theorem ns.start (n:Nat):ns n (fun _=>none) id:=⟨fun _ _ _=>rfl,fun _ _ _ h=>by cases h⟩
theorem ns.join {n:Nat} {px:Nat->Option Nat} {L:Nat->Nat} (h:ns n px L) (hL:jC L) (b:PB) (eo:min (L b.a) (L b.b)<max (L b.a) (L b.b)):ns n (fun k=>if k=max (L b.a) (L b.b)then some (min (L b.a) (L b.b))else px k) (eO L b):=by
 have ha:=hL.idem b.a
 have hb:=hL.idem b.b
 have zr:L (min (L b.a) (L b.b))=min (L b.a) (L b.b):=by
  rcases Nat.le_total (L b.a) (L b.b)with h|h
  ·rw[Nat.min_eq_left h,ha]
  ·rw[Nat.min_eq_right h,hb]
 have Qd:L (max (L b.a) (L b.b))=max (L b.a) (L b.b):=by
  rcases Nat.le_total (L b.a) (L b.b)with h|h
  ·rw[Nat.max_eq_right h,hb]
  ·rw[Nat.max_eq_left h,ha]
 unfold eO
 generalize min (L b.a) (L b.b)=lo at *
 generalize max (L b.a) (L b.b)=hi at *
 refine⟨fun k hk hp=>?_,fun k j hk hp=>?_⟩
 ·by_cases J1:k=hi
  ·rw[if_pos J1]at hp;cases hp
  ·rw[if_neg J1]at hp
   have:=h.top k hk hp
   rw[if_neg (by omega)];exact this
 ·by_cases J1:k=hi
  ·rw[if_pos J1]at hp
   cases hp
   subst J1
   exact⟨eo,by rw[if_neg (by omega),if_pos Qd,zr]⟩
  ·rw[if_neg J1]at hp
   obtain⟨h1,h2⟩:=h.up k j hk hp
   exact⟨h1,by rw[h2]⟩
theorem zB {L:Nat->Nat} {b:PB} (h:L b.a=L b.b):eO L b=L:=by
 funext k
 unfold eO
 rw[h,Nat.max_self,Nat.min_self]
 split
 ·rename_i h;exact h.symm
 ·rfl
def sG (G:Nat->Id) (px:Nat->Option Nat) (k:Nat):List AV:=[match px k with|none=>.gJ|some j=>.ptr (G j) 0 0,.int .i64 (k:Int)]
def tT (g:Rows) (G:Nat->Id) (n:Nat) (px:Nat->Option Nat):Prop:=∀k,k<n->g (G k)=some ⟨true,2,[sG G px k]⟩
theorem tT.frame {g g':Rows} {G:Nat->Id} {n:Nat} {px:Nat->Option Nat} (h:tT g G n px) (hf:∀k,k<n->g' (G k)=g (G k)):tT g' G n px:=fun k hk=>(hf k hk).trans (h k hk)
theorem lu {G:Nat->Id} {px:Nat->Option Nat} {k:Nat} (h:px k=none):sG G px k=[.gJ,.int .i64 (k:Int)]:=by rw[sG,h]
theorem tt {G:Nat->Id} {px:Nat->Option Nat} {k j:Nat} (h:px k=some j):sG G px k=[.ptr (G j) 0 0,.int .i64 (k:Int)]:=by rw[sG,h]
theorem zd (G:Nat->Id) (n:Nat) (px:Nat->Option Nat) (L:Nat->Nat) (h:ns n px L) (k:Nat) (hk:k<n) (σ:aw) (hG:tT σ.get G n px):
  Call Tryz.prog 262 [.ptr (G k) 0 0] σ fun r σ'=>r=.ptr (G (L k)) 0 0/\σ'.get=σ.get/\σ.next<=σ'.next:=by
 refine fc eG rfl fun hl=>?_
 clear hl
 (try((repeat(revert hN;revert N;apply Pn.out));refine wk @Nat.zero_add ?_;(repeat(refine Pn.mk ?_;intro N hN))))
 refine bh (fun m env st=>∃j:Nat,m=j/\j<n/\env 0=.ptr (G j) 0 0/\L j=L k/\st.get=σ.get/\σ.next<=st.next) k ⟨k,rfl,hk,sd @Nat.zero_add,rfl,by(try dsimp only),by(try dsimp only);omega⟩ ?_
 rintro m env_b st_b ⟨j,rfl,hj,b0,hLj,hg,hle⟩ gQ
 clear gQ
 have fY:=hG m hj
 rcases hp:px m with _|j
 ·rw[lu hp]at fY
  (try((repeat(revert hN;revert N;apply Pn.out));refine wk (tw @b0 (tw @hg @fY)) ?_;(repeat(refine Pn.mk ?_;intro N hN))))
  exact eV (.inl rfl) (vs:=[.ptr (G m) 0 0]) (sd @Nat.zero_add) ⟨by rw[<-hLj,h.top m hj hp];rfl,by first|trivial|rfl|exact hg,by(try dsimp only);omega⟩
 ·rw[tt hp]at fY
  obtain⟨h1,h2⟩:=h.up m j hj hp
  (try((repeat(revert hN;revert N;apply Pn.out));refine wk (tw @b0 (tw @hg @fY)) ?_;(repeat(refine Pn.mk ?_;intro N hN))))
  exact⟨j,h1,j,rfl,by omega,sd @Nat.zero_add,by omega,by first|trivial|rfl|exact hg,by(try dsimp only);omega⟩
end Go.Proofs.YtgoelphibofcmaaGreat.V

namespace Go.Proofs.YtgoelphibofcmaaGreat.V
open Go.RowKit
attribute [local irreducible] eh wpOps fI Call
attribute [local go_sem] aM fj eJ fF fE da upd cu K.av cI AV.cells AV.cell rowOf rowsOf part ld rowAt bK bV dq dM gy bD cY dY fA eS dk dR cW cV dD dE bG bc cL bF cP cN dO dS dQ cK bL cX dN bE aO cR cz gx bm cH bH aY dp bl dr AV.undef bt bz dF dL dy dC cF dX eb cw dV dU cQ cU List.getD_cons_zero List.getD_cons_succ List.getD_nil List.all_cons List.all_nil Bool.and_true Bool.true_and Bool.and_self Bool.not_true Bool.not_false Option.map_some Option.map_none Option.bind_some Option.bind_none List.length_cons List.length_nil List.take_succ_cons List.take_zero List.take_nil List.drop_succ_cons List.drop_zero List.drop_nil List.head?_cons List.map_cons List.map_nil List.getElem?_cons_zero List.getElem?_cons_succ List.cons_append List.nil_append List.append_nil List.length_map List.set_cons_zero List.set_cons_succ eq_self Int.toNat_natCast Int.natCast_nonneg and_self true_and and_true decide_true decide_false Bool.false_eq_true Nat.zero_add Nat.add_zero List.contains_cons List.contains_nil Bool.or_false Bool.false_or beq_self_eq_true ne_eq not_true_eq_false not_false_eq_true Id.mk.injEq false_and and_false Nat.le_refl List.length_append beq_true beq_false Bool.not_eq_eq_eq_not or_false false_or dK aj ar aH bd br bW aT aZ aU bf cJ bw
abbrev mI:MK:=⟨false,[.tI]⟩
def sM (l:List (Nat×Nat)):List (List AV):=l.map fun p=>[.int .i64 (p.1:Int),.int .i64 (p.2:Int)]
theorem Br (r:Nat):∀(l:List (Nat×Nat)) (i:Nat),((∀p∈l,p.1≠r)->fZ mI [.int .i64 (r:Int)] (sM l) i=some none)/\(∀j v,l[j]? =some (r,v)->(∀x y,x<j->l[x]? =some y->y.1≠r)->fZ mI [.int .i64 (r:Int)] (sM l) i=some (some (i+j)))
 |[],i=>⟨fun _=>rfl,fun j v h=>by simp at h⟩
 |p::l,i=>by
  obtain⟨h1,h2⟩:=Br r l (i+1)
  by_cases h:p.1=r
  ·refine⟨fun hp=>absurd h (hp p (by simp)),fun j v hj hf=>?_⟩
   have hj0:j=0:=by
    rcases Nat.eq_zero_or_pos j with h0|h0
    ·exact h0
    ·exact absurd h (hf 0 p h0 (by simp))
   subst hj0
   simp[sM,fZ,eS,fA,MK.ks,h]
  ·have hd:¬((r:Int)=(p.1:Int)):=by omega
   have l7:¬r=p.1:=fun he=>h he.symm
   have step:fZ mI [.int .i64 (r:Int)] (sM (p::l)) i=fZ mI [.int .i64 (r:Int)] (sM l) (i+1):=by
    unfold sM
    simp[fZ,MK.ks,eS,fA,hd,l7,h]
   rw[step]
   refine⟨fun hp=>h1 fun q hq=>hp q (by simp[hq]),fun j v hj hf=>?_⟩
   cases j with
   |zero=>simp at hj;rw[hj]at h;exact absurd rfl h
   |succ j=>
    rw[h2 j v (by simpa using hj) fun x y hx hy=>hf (x+1) y (by omega) (by simpa using hy)]
    congr 2;omega
theorem yl {r:Nat} {l:List (Nat×Nat)}:((∀p∈l,p.1≠r)->fP mI (.int .i64 (r:Int)) (sM l)=some none)/\(∀j v,l[j]? =some (r,v)->(∀x y,x<j->l[x]? =some y->y.1≠r)->fP mI (.int .i64 (r:Int)) (sM l)=some (some j)):=by
 have e:fP mI (.int .i64 (r:Int)) (sM l)=fZ mI [.int .i64 (r:Int)] (sM l) 0:=by
  unfold fP
  rw[if_pos ⟨rfl,rfl,rfl⟩];rfl
 obtain⟨h1,h2⟩:=Br r l 0
 rw[e]
 exact⟨h1,fun j v hj hf=>by rw[h2 j v hj hf,Nat.zero_add]⟩
def kI (k:Nat) (L:Nat->Nat):List (List AV):=sM (leads k L).zipIdx
theorem Dv {k:Nat} {L:Nat->Nat} (h:L k=k):kI (k+1) L=kI k L++[[.int .i64 (k:Int),.int .i64 ((leads k L).length:Int)]]:=by
 unfold kI
 rw[gI,if_pos h,List.zipIdx_append]
 simp[sM]
theorem Du {k:Nat} {L:Nat->Nat} (h:L k≠k):kI (k+1) L=kI k L:=by
 unfold kI
 rw[gI,if_neg h,List.append_nil]
theorem Gd {k:Nat} {L:Nat->Nat} (h:L k=k):fP mI (.int .i64 (k:Int)) (kI k L)=some none:=by
 refine yl.1 fun p hp=>?_
 have:=List.fst_mem_of_mem_zipIdx hp
 have:=(yw.1 this).1
 omega
theorem yv {n:Nat} {L:Nat->Nat} {x y:Nat} (hx:x<(leads n L).length) (hy:y<(leads n L).length) (h:(leads n L)[x]=(leads n L)[y]):x=y:=by
 have hp:=List.pairwise_iff_getElem.1 (tG n L)
 rcases Nat.lt_trichotomy x y with eo|he|eo
 ·exact absurd h (hp x y hx hy eo)
 ·exact he
 ·exact absurd h.symm (hp y x hy hx eo)
theorem yu {k:Nat} {L:Nat->Nat} (hL:jC L) (h:L k≠k):fP mI (.int .i64 (L k:Int)) (kI k L)=some (some (cj L k))/\(kI k L)[cj L k]? =some [.int .i64 (L k:Int),.int .i64 (cj L k:Int)]/\cj L k<(leads k L).length:=by
 have eo:L k<k:=Nat.lt_of_le_of_ne (hL.le k) h
 have hn:cj L (L k)=cj L k:=by rw[cj,hL.idem,cj]
 have hg:=pg hL eo
 rw[hn,hL.idem]at hg
 have hl:cj L k<(leads k L).length:=(List.getElem?_eq_some_iff.1 hg).1
 have hz:(leads k L).zipIdx[cj L k]? =some (L k,cj L k):=by simp[List.getElem?_zipIdx,hg]
 refine⟨yl.2 _ _ hz fun x y hx hy=>?_,by unfold kI sM;rw[List.getElem?_map,hz];rfl,hl⟩
 intro he
 rw[List.getElem?_zipIdx]at hy
 have O8:x<(leads k L).length:=by omega
 rw[List.getElem?_eq_getElem O8]at hy
 simp at hy
 rw[<-hy]at he
 simp at he
 have e2:(leads k L)[cj L k]=L k:=(List.getElem?_eq_some_iff.1 hg).2
 have:=yv O8 hl (he.trans e2.symm)
 omega
def jI (k:Nat) (L:Nat->Nat):List (List Nat):=(leads k L).map (members k L)
theorem qo (k:Nat) (L:Nat->Nat):(jI k L).length=(leads k L).length:=by simp[jI]
theorem C2 {k:Nat} {L:Nat->Nat} (hL:jC L) (h:L k=k):jI (k+1) L=jI k L++[[k]]:=by
 unfold jI
 rw[gI,if_pos h,List.map_append,List.map_cons,List.map_nil,jo,if_pos h,mQ hL (Nat.le_refl k),List.nil_append]
 congr 1
 refine List.map_congr_left fun r hr=>?_
 have:=(yw.1 hr).1
 rw[jo,if_neg (by omega),List.append_nil]
theorem C3 {k:Nat} {L:Nat->Nat} (hL:jC L) (h:L k≠k):(jI k L)[cj L k]? =some (members k L (L k))/\jI (k+1) L=(jI k L).set (cj L k) (members k L (L k)++[k]):=by
 obtain⟨_,_,hl⟩:=yu hL h
 have eo:L k<k:=Nat.lt_of_le_of_ne (hL.le k) h
 have hg:=pg hL eo
 have hn:cj L (L k)=cj L k:=by rw[cj,hL.idem,cj]
 rw[hn,hL.idem]at hg
 refine⟨by unfold jI;rw[List.getElem?_map,hg];rfl,?_⟩
 unfold jI
 rw[gI,if_neg h,List.append_nil]
 refine List.ext_getElem? fun i=>?_
 rw[List.getElem?_set,List.getElem?_map,List.length_map]
 by_cases hi:cj L k=i
 ·subst hi
  rw[if_pos rfl,if_pos hl,hg,Option.map_some,jo,if_pos rfl]
 ·rw[if_neg hi,List.getElem?_map]
  rcases hr:(leads k L)[i]? with _|r
  ·rfl
  ·rw[Option.map_some,Option.map_some,jo,if_neg,List.append_nil]
   rintro rfl
   obtain⟨nI,he⟩:=List.getElem?_eq_some_iff.1 hr
   have e2:(leads k L)[cj L k]=L k:=(List.getElem?_eq_some_iff.1 hg).2
   exact hi (yv hl nI (e2.trans he.symm))
theorem BL (k:Nat) (L:Nat->Nat) (r:Nat):(members k L r).length<=k:=by
 have:=List.length_filter_le (fun x=>L x==r) (List.range k)
 simpa[members]using this
def Fh (g:Rows) (o:Id) (L:List (List Nat)) (nx:Nat):Prop:=∃rows ids,g o=some ⟨true,1,rows⟩/\eI OH g rows L ids/\ids.Nodup/\(∀i∈ids,i.site=240026008/\i.cq<nx)/\o.site=240025002/\o.cq<nx
theorem Fh.frame {g g':Rows} {o:Id} {L:List (List Nat)} {nx uA:Nat} (h:Fh g o L nx) (hn:nx<=uA) (hf:∀i:Id,(i.site=240026008∨i.site=240025002)->i.cq<nx->g' i=g i):Fh g' o L uA:=by
 obtain⟨rows,ids,h1,h2,h3,h4,h5,h6⟩:=h
 exact⟨rows,ids,(hf o (.inr h5) h6).trans h1,h2.frame Lc fun i hi=>hf i (.inl (h4 i hi).1) (h4 i hi).2,h3,fun i hi=>⟨(h4 i hi).1,by have:=(h4 i hi).2;omega⟩,h5,by omega⟩
theorem Kx {g':Rows} {v v' uA j:Nat} (h1:g' ⟨240025002,v⟩=some ⟨true,1,[[.own ⟨240026008,v'⟩ 0 1]]⟩) (h2:g' ⟨240026008,v'⟩=some ⟨true,1,[eN j]⟩) (hv:v<uA) (nL:v'<uA):Fh g' ⟨240025002,v⟩ [[j]] uA:=
 ⟨_,[⟨240026008,v'⟩],h1,.one ⟨_,rfl,h2,rfl⟩,by simp,fun i hi=>by rw[List.mem_singleton.1 hi];exact⟨rfl,nL⟩,rfl,hv⟩
theorem Fh.new {g:Rows} {o:Id} {L:List (List Nat)} {nx:Nat} (h:Fh g o L nx) (j:Nat):∃rows,g o=some ⟨true,1,rows⟩/\rows.length=L.length/\∀(g':Rows) (v v' uA:Nat),nx<=v'->v<uA->v'<uA->g' ⟨240025002,v⟩=some ⟨true,1,rows++[[.own ⟨240026008,v'⟩ 0 1]]⟩->g' ⟨240026008,v'⟩=some ⟨true,1,[eN j]⟩->(∀i:Id,i.site=240026008->i.cq<nx->g' i=g i)->Fh g' ⟨240025002,v⟩ (L++[[j]]) uA:=by
 obtain⟨rows,ids,h1,h2,h3,h4,h5,h6⟩:=h
 refine⟨rows,h1,h2.len,fun g' v v' uA hv tz FX q1 q2 q3=>⟨_,ids++[⟨240026008,v'⟩],q1,(h2.frame Lc fun i hi=>q3 i (h4 i hi).1 (h4 i hi).2).app (.one ⟨_,rfl,q2,rfl⟩),?_,fun i hi=>?_,rfl,tz⟩⟩
 ·refine List.nodup_append.2 ⟨h3,by simp,fun a ha b hb rh=>?_⟩
  rw[List.mem_singleton.1 hb]at rh
  have:=(h4 a ha).2
  rw[rh]at this
  simp only at this
  omega
 ·rcases List.mem_append.1 hi with hi|hi
  ·have:=h4 i hi;exact⟨this.1,by omega⟩
  ·rw[List.mem_singleton.1 hi];exact⟨rfl,FX⟩
theorem Fh.add {g:Rows} {o:Id} {L:List (List Nat)} {nx k:Nat} {La:List Nat} (h:Fh g o L nx) (hk:L[k]? =some La) (j:Nat):∃rows id,g o=some ⟨true,1,rows⟩/\rows.length=L.length/\rows[k]? =some [.own id 0 La.length]/\g id=some ⟨true,1,La.map eN⟩/\id.site=240026008/\id.cq<nx/\∀(g':Rows) (v' uA:Nat),nx<=v'->v'<uA->g' o=some ⟨true,1,rows.set k [.own ⟨240026008,v'⟩ 0 (La.length+1)]⟩->g' ⟨240026008,v'⟩=some ⟨true,1,La.map eN++[[.int .i64 (j:Int)]]⟩->(∀i:Id,i.site=240026008->i.cq<nx->(i=id)=False->g' i=g i)->Fh g' o (L.set k (La++[j])) uA:=by
 obtain⟨rows,ids,h1,h2,h3,h4,h5,h6⟩:=h
 have lO:k<L.length:=(List.getElem?_eq_some_iff.1 hk).1
 have SG:=kz hk lO
 obtain⟨cs,ic,du,OO,P7,zt⟩:=h2.QO Lc h3 k lO
 rw[SG]at OO
 obtain⟨id,rfl,q1,rfl⟩:=OO
 have hid:=h4 id (P7 id (by simp))
 refine⟨rows,id,h1,h2.len,du,q1,hid.1,hid.2,fun g' v' uA hv tz r1 r2 r3=>?_⟩
 obtain⟨Dk,s1,s2,s3⟩:=zt g' [.own ⟨240026008,v'⟩ 0 (La.length+1)] (La++[j]) [⟨240026008,v'⟩] ⟨_,by simp,by rw[r2];simp[eN],rfl⟩ (fun i hi RF=>r3 i (h4 i hi).1 (h4 i hi).2 (by
  simp only[eq_iff_iff,iff_false];rintro rfl;exact RF (by simp))) (by simp) fun i hi hc=>by
   rw[List.mem_singleton.1 hi]at hc
   have:=(h4 _ hc).2
   simp only at this
   omega
 refine⟨_,Dk,r1,s1,s2,fun i hi=>?_,h5,by omega⟩
 rcases s3 i hi with h|h
 ·rw[List.mem_singleton.1 h];exact⟨rfl,tz⟩
 ·have:=h4 i h;exact⟨this.1,by omega⟩
def lL (G:Nat->Id) (n k:Nat):List (List AV):=(List.range n).map fun i=>[if i<k then .ptr (G i) 0 0 else .gJ]
theorem mi (G:Nat->Id) (n k:Nat):(lL G n k).length=n:=by simp[lL]
theorem GI (G:Nat->Id) (n:Nat):List.replicate n [AV.gJ]=lL G n 0:=by
 refine List.ext_getElem? fun i=>?_
 by_cases h:i<n
 ·rw[List.getElem?_replicate,if_pos h];simp[lL,h]
 ·rw[List.getElem?_eq_none (by simp;omega),List.getElem?_eq_none (by rw[mi];omega)]
theorem wP {G:Nat->Id} {n i:Nat} (h:i<n):(lL G n n)[i]? =some [.ptr (G i) 0 0]:=by simp[lL,h]
theorem Js {G:Nat->Id} {n k:Nat} (h:k<n):(lL G n k).set k [.ptr (G k) 0 0]=lL G n (k+1):=by
 refine List.ext_getElem? fun i=>?_
 rw[List.getElem?_set,mi]
 by_cases hi:k=i
 ·subst hi;rw[if_pos rfl,if_pos h];simp[lL,h]
 ·rw[if_neg hi]
  by_cases fB:i<n
  ·simp only[lL,List.getElem?_map,List.getElem?_range fB,Option.map_some]
   by_cases uw:i<k
   ·rw[if_pos uw,if_pos (by omega)]
   ·rw[if_neg uw,if_neg (by omega)]
  ·rw[List.getElem?_eq_none (by rw[mi];omega),List.getElem?_eq_none (by rw[mi];omega)]
end Go.Proofs.YtgoelphibofcmaaGreat.V

namespace Go.Proofs.YtgoelphibofcmaaGreat.V
open Go.RowKit
attribute [local irreducible] eh wpOps fI Call
attribute [local go_sem] aM fj eJ fF fE da upd cu K.av cI AV.cells AV.cell rowOf rowsOf part ld rowAt bK bV dq dM gy bD cY dY fA eS dk dR cW cV dD dE bG bc cL bF cP cN dO dS dQ cK bL cX dN bE aO cR cz gx bm cH bH aY dp bl dr AV.undef bt bz dF dL dy dC cF dX eb cw dV dU cQ cU List.getD_cons_zero List.getD_cons_succ List.getD_nil List.all_cons List.all_nil Bool.and_true Bool.true_and Bool.and_self Bool.not_true Bool.not_false Option.map_some Option.map_none Option.bind_some Option.bind_none List.length_cons List.length_nil List.take_succ_cons List.take_zero List.take_nil List.drop_succ_cons List.drop_zero List.drop_nil List.head?_cons List.map_cons List.map_nil List.getElem?_cons_zero List.getElem?_cons_succ List.cons_append List.nil_append List.append_nil List.length_map List.set_cons_zero List.set_cons_succ Nat.reduceMul eq_self Int.toNat_natCast Int.natCast_nonneg and_self true_and and_true decide_true decide_false Bool.false_eq_true Nat.zero_add Nat.add_zero List.contains_cons List.contains_nil Bool.or_false Bool.false_or beq_self_eq_true Nat.reduceBEq ne_eq not_true_eq_false not_false_eq_true Id.mk.injEq false_and and_false Nat.reduceLT Int.reduceLE Int.reduceLT Int.reduceToNat Int.reduceNeg Int.reduceAdd Nat.le_refl List.length_append beq_true beq_false Bool.not_eq_eq_eq_not or_false false_or dK aj ar aH bd br bW aT aZ aU bf cJ bw
theorem gO {o:Id} {a:Nat} (h:o.site=a) {b v:Nat} (rh:(a==b)=false):(o=⟨b,v⟩)=False/\((⟨b,v⟩:Id)=o)=False:=by
 have h1:=zU h (v:=v) rh
 refine⟨h1,?_⟩
 simp only[eq_iff_iff,iff_false]at h1 ⊢
 exact fun h=>h1 h.symm
theorem vD (cnt:Nat) (vM:1<=cnt) (hn:cnt<=1048576) (bs:List PB) (hb:∀b∈bs,b.a<cnt/\b.b<cnt) (qq:bs.length<=1048576):au Tryz.prog 240 [.int .i64 cnt,.sl (bs.map aB)] (.sl ((fv cnt (eD bs)).map Aj)):=by
 intro n0
 refine p4 MS rfl fun hl=>?_
 try simp only[q]
 clear hl
 have jF:(0:Int)<=(cnt:Int):=by omega
 have mK:(cnt:Int)<=((16777216:Nat):Int):=by omega
 obtain⟨G,hG⟩:∃G:Nat->Id,G=fun k=>⟨240005004,n0+3+4*k+2⟩:=⟨_,rfl⟩
 have Rf:∀k,(G k).site=240005004:=fun k=>by rw[hG]
 have SB:∀k,(G k).cq=n0+3+4*k+2:=fun k=>by rw[hG]
 have Rb:∀i j,i≠j->(G i=G j)=False:=fun i j h=>by
  simp only[eq_iff_iff,iff_false]
  intro he
  have h1:=SB i
  rw[he,SB j]at h1
  omega
 have Kz:∀i s v,(240005004==s)=false->(G i=⟨s,v⟩)=False:=fun i s v h=>zU (Rf i) h
 have hz:=GI G cnt
 (try((repeat(revert hN;revert N;apply Pn.out));refine wk (tw @jF (tw @mK (tw @Int.le_refl @hz))) ?_;(repeat(refine Pn.mk ?_;intro N hN))))
 refine bh (fun n env st=>∃k:Nat,n=(cnt)-k/\k<=(cnt)/\env 21=.int .i64 (k:Int)/\st.get ⟨240001001,n0+1⟩=some ⟨true,1,lL G cnt k⟩/\(st.next=n0+3+4*k/\∀j:Nat,j<k->st.get (G j)=some ⟨true,2,[[.gJ,.int .i64 (j:Int)]]⟩)) (cnt) ⟨0,by omega,by omega,sl @hz,sl @hz,⟨rfl,fun j hj=>by omega⟩⟩ ?_
 rintro n_a env_a st_a ⟨k,rfl,ale,a21,ag0,lS⟩ dW
 have a0:=dW 0 (by kernel_rfl);have a1:=dW 1 (by kernel_rfl);have a5:=dW 5 (by kernel_rfl);have MF:=dW 19 (by kernel_rfl);have a20:=dW 20 (by kernel_rfl)
 simp only[go_sem, ↓reduceIte,Nat.reduceEqDiff,Nat.reduceAdd,Nat.reduceSub,Nat.reduceLeDiff,reduceCtorEq,hz]at a0 a1 a5 MF a20
 clear dW
 obtain⟨lS,lN⟩:=lS
 by_cases hk:(k:Int)<(cnt:Int)
 ·have cG:∀{e:Env} {gg:Rows} {nx:Nat},(e 21=.int .i64 (IntKind.i64.wrap ((k:Int)+1)))->(gg ⟨240001001,n0+1⟩=some ⟨true,1,lL G cnt (k+1)⟩)->(nx=n0+3+4*(k+1)/\∀j:Nat,j<(k+1)->gg (G j)=some ⟨true,2,[[.gJ,.int .i64 (j:Int)]]⟩)->∃m0,m0<(cnt)-k/\∃k:Nat,m0=(cnt)-k/\k<=(cnt)/\e 21=.int .i64 (k:Int)/\gg ⟨240001001,n0+1⟩=some ⟨true,1,lL G cnt k⟩/\(nx=n0+3+4*k/\∀j:Nat,j<k->gg (G j)=some ⟨true,2,[[.gJ,.int .i64 (j:Int)]]⟩):=fun x1 x2 x3=>⟨_,by omega,k+1,rfl,by omega,(by rw[x1,aC (by omega)]),x2,x3⟩
  have fw:k<cnt:=by omega
  have tl:=mi G cnt k
  have eP:=Js (G:=G) fw
  have eQ:(lL G cnt k)[k]? =some [.gJ]:=by simp[lL,fw]
  have Rc:(⟨240005004,st_a.next+1+1⟩:Id)=G k:=by rw[hG,lS]
  have hGf:∀j,j<k->(G j=G k)=False:=fun j hj=>Rb j k (by omega)
  have zm:∀j,(G j=(⟨240001001,n0+1⟩:Id))=False:=fun j=>Kz j _ _ (by decide)
  have C5:∀j,((⟨240001001,n0+1⟩:Id)=G j)=False:=fun j=>by
   have:=zm j
   simp only[eq_iff_iff,iff_false]at this ⊢
   exact fun h=>this h.symm
  (try((repeat(revert hN;revert N;apply Pn.out));refine wk (tw @a21 (tw @ag0 (tw @a0 (tw @a1 (tw @a5 (tw @MF (tw @a20 (tw @hk (tw @tl (tw @Rc (tw @zm (tw @C5 (tw @eP @eQ))))))))))))) ?_;(repeat(refine Pn.mk ?_;intro N hN))))
  refine cG ?_ ?_ (by
   refine⟨by(try dsimp only)<;>omega,fun j hj=>?_⟩
   by_cases yf:j=k
   ·subst yf;simp only[go_sem, ↓reduceIte,Nat.reduceEqDiff,Nat.reduceAdd,Nat.reduceSub,Nat.reduceLeDiff,reduceCtorEq,Rc,zm,C5]
   ·have hold:=lN j (by omega)
    have gM:=hGf j (by omega)
    simp only[go_sem, ↓reduceIte,Nat.reduceEqDiff,Nat.reduceAdd,Nat.reduceSub,Nat.reduceLeDiff,reduceCtorEq,Rc,zm,C5,gM,hold])
  all_goals simp only[go_sem, ↓reduceIte,Nat.reduceEqDiff,Nat.reduceAdd,Nat.reduceSub,Nat.reduceLeDiff,reduceCtorEq,a21,ag0,a0,a1,a5,MF,a20,Rc,zm,C5,eP]
 have lO:cnt=k:=by omega
 subst lO
 (try((repeat(revert hN;revert N;apply Pn.out));refine wk (tw @a21 (tw @ag0 (tw @a0 (tw @a1 (tw @a5 (tw @MF (tw @a20 @hk))))))) ?_;(repeat(refine Pn.mk ?_;intro N hN))))
 refine bh (fun n env st=>∃i:Nat,n=(bs.length)-i/\i<=(bs.length)/\env 33=.int .i64 (i:Int)/\st.get ⟨240001001,n0+1⟩=some ⟨true,1,lL G cnt cnt⟩/\(n0+3+4*cnt<=st.next)/\(∃px,ns cnt px (eD (bs.take i))/\tT st.get G cnt px)) (bs.length) ⟨0,by omega,by omega,sl (tw @a21 (tw @ag0 (tw @a0 (tw @a1 (tw @a5 (tw @MF @a20)))))),sl (tw @a21 (tw @ag0 (tw @a0 (tw @a1 (tw @a5 (tw @MF @a20)))))),(by(try dsimp only);omega),⟨fun _=>none,ns.start cnt,lN⟩⟩ ?_
 rintro n_b env_b st_b ⟨i,rfl,ble,tV,bg0,bI0,bI1⟩ gQ
 have b0:=gQ 0 (by kernel_rfl);have b1:=gQ 1 (by kernel_rfl);have b5:=gQ 5 (by kernel_rfl);have xP:=gQ 31 (by kernel_rfl);have tg:=gQ 32 (by kernel_rfl)
 simp only[go_sem, ↓reduceIte,Nat.reduceEqDiff,Nat.reduceAdd,Nat.reduceSub,Nat.reduceLeDiff,reduceCtorEq,a21,ag0,a0,a1,a5,MF,a20]at b0 b1 b5 xP tg
 clear gQ
 obtain⟨px,J3,Re⟩:=bI1
 have tl:=mi G cnt cnt
 have PH:∀j v,(G j=(⟨240009002,v⟩:Id))=False:=fun j v=>Kz j _ v (by decide)
 have zm:∀j v,(G j=(⟨240001001,v⟩:Id))=False:=fun j v=>Kz j _ v (by decide)
 have C5:∀j v,((⟨240001001,v⟩:Id)=G j)=False:=fun j v=>by
  have:=zm j v
  simp only[eq_iff_iff,iff_false]at this ⊢
  exact fun h=>this h.symm
 have Sz:∀j,j<cnt->(G j).cq<st_b.next:=fun j hj=>by rw[SB];omega
 by_cases hi:(i:Int)<(bs.length:Int)
 ·have iy:∀{e:Env} {gg:Rows} {nx:Nat},(e 33=.int .i64 (IntKind.i64.wrap ((i:Int)+1)))->(gg ⟨240001001,n0+1⟩=some ⟨true,1,lL G cnt cnt⟩)->(n0+3+4*cnt<=nx)->(∃px,ns cnt px (eD (bs.take (i+1)))/\tT gg G cnt px)->∃m0,m0<(bs.length)-i/\∃i:Nat,m0=(bs.length)-i/\i<=(bs.length)/\e 33=.int .i64 (i:Int)/\gg ⟨240001001,n0+1⟩=some ⟨true,1,lL G cnt cnt⟩/\(n0+3+4*cnt<=nx)/\(∃px,ns cnt px (eD (bs.take i))/\tT gg G cnt px):=fun x1 x2 x3 x4=>⟨_,by omega,i+1,rfl,by omega,(by rw[x1,aC (by omega)]),x2,x3,x4⟩
  have fB:i<bs.length:=by omega
  have k9:(bs.map aB)[i]? =some (aB bs[i]):=by simp[fB]
  have FO:=hb _ (List.getElem_mem fB)
  have nK:bs.take (i+1)=bs.take i++[bs[i]]:=List.take_succ_eq_append_getElem fB
  have lx:eD (bs.take (i+1))=eO (eD (bs.take i)) bs[i]:=by rw[nK,vR]
  have hL:=tF (bs.take i)
  generalize eD (bs.take i)=L at *
  generalize bs[i]=b at *
  have gA:=wP (G:=G) FO.1
  have gB:=wP (G:=G) FO.2
  have gz:(b.a:Int)<(cnt:Int):=by omega
  have fS:(b.b:Int)<(cnt:Int):=by omega
  (try((repeat(revert hN;revert N;apply Pn.out));refine wk (tw @tV (tw @bg0 (tw @b0 (tw @b1 (tw @b5 (tw @xP (tw @tg (tw @hi (tw @k9 (tw @aB.eq_1 (tw @gA (tw @gB (tw @gz (tw @fS @tl)))))))))))))) ?_;(repeat(refine Pn.mk ?_;intro N hN))))
  refine Ae (fun e s=>e 0=.int .i64 cnt/\e 1=.sl (bs.map aB)/\e 5=.own ⟨240001001,n0+1⟩ 0 cnt/\e 31=.sl (bs.map aB)/\e 32=.int .i64 bs.length/\e 33=.int .i64 i/\e 9=.ptr (G (L b.a)) 0 0/\e 10=.ptr (G (L b.b)) 0 0/\(∀j:Id,j.cq<st_b.next->s.get j=st_b.get j)/\st_b.next<=s.next) ?_ ?_
  ·rintro e1 s1 ⟨m0,m1,m5,m31,m32,m33,m9,m10,mf,mn⟩
   refine hN _ _ ?_
   clear hN N
   have mG:tT s1.get G cnt px:=Re.frame fun k hk=>mf _ (Sz k hk)
   have mt:=(mf ⟨240001001,n0+1⟩ (by(try dsimp only);omega)).trans bg0
   have Tf:L b.a<cnt:=Nat.lt_of_le_of_lt (hL.le _) FO.1
   have P9:L b.b<cnt:=Nat.lt_of_le_of_lt (hL.le _) FO.2
   have ra:=mG _ Tf
   have rb:=mG _ P9
   rw[lu (J3.root hL Tf (hL.idem _))]at ra
   rw[lu (J3.root hL P9 (hL.idem _))]at rb
   have put:∀(g':Rows) (lo hi:Nat),hi<cnt->g' (G hi)=some ⟨true,2,[[.ptr (G lo) 0 0,.int .i64 (hi:Int)]]⟩->(∀k,k≠hi->k<cnt->g' (G k)=s1.get (G k))->tT g' G cnt (fun k=>if k=hi then some lo else px k):=fun g' lo hi _ h1 h2 k hk=>by
    by_cases J1:k=hi
    ·subst J1;rw[h1,tt (j:=lo) (if_pos rfl)]
    ·rw[h2 k J1 hk,mG k hk]
     unfold sG
     simp only[if_neg J1]
   rcases Nat.lt_trichotomy (L b.a) (L b.b)with eo|heq|eo
   ·have Nz:(L b.a:Int)<(L b.b:Int):=by omega
    have hj:=J3.join hL b (by omega)
    rw[Nat.max_eq_right (by omega),Nat.min_eq_left (by omega),<-lx]at hj
    (try((repeat(revert hN;revert N;apply Pn.out));refine wk (tw @m0 (tw @m1 (tw @m5 (tw @m31 (tw @m32 (tw @m33 (tw @m9 (tw @m10 (tw @ra (tw @rb @Nz)))))))))) ?_;(repeat(refine Pn.mk ?_;intro N hN))))
    refine iy ?_ ?_ (by(try dsimp only);omega) (⟨_,hj,put _ _ _ P9 (sd @Nat.zero_add) (fun k hk _=>by
     have gM:=Rb k _ hk
     simp only[go_sem, ↓reduceIte,Nat.reduceEqDiff,Nat.reduceAdd,Nat.reduceSub,Nat.reduceLeDiff,reduceCtorEq,gM])⟩)
    all_goals simp only[go_sem, ↓reduceIte,Nat.reduceEqDiff,Nat.reduceAdd,Nat.reduceSub,Nat.reduceLeDiff,reduceCtorEq,m0,m1,m5,m31,m32,m33,mt,zm,C5]
   ·have vM:¬(L b.a:Int)<(L b.b:Int):=by omega
    have KM:¬(L b.b:Int)<(L b.a:Int):=by omega
    have KU:=zB heq
    rw[KU]at lx
    (try((repeat(revert hN;revert N;apply Pn.out));refine wk (tw @m0 (tw @m1 (tw @m5 (tw @m31 (tw @m32 (tw @m33 (tw @m9 (tw @m10 (tw @ra (tw @rb (tw @vM @KM))))))))))) ?_;(repeat(refine Pn.mk ?_;intro N hN))))
    refine iy ?_ ?_ (by(try dsimp only);omega) (⟨_,lx▸J3,mG.frame fun k hk=>rfl⟩)
    all_goals simp only[go_sem, ↓reduceIte,Nat.reduceEqDiff,Nat.reduceAdd,Nat.reduceSub,Nat.reduceLeDiff,reduceCtorEq,m0,m1,m5,m31,m32,m33,mt]
   ·have Nz:(L b.b:Int)<(L b.a:Int):=by omega
    have vM:¬(L b.a:Int)<(L b.b:Int):=by omega
    have hj:=J3.join hL b (by omega)
    rw[Nat.max_eq_left (by omega),Nat.min_eq_right (by omega),<-lx]at hj
    (try((repeat(revert hN;revert N;apply Pn.out));refine wk (tw @m0 (tw @m1 (tw @m5 (tw @m31 (tw @m32 (tw @m33 (tw @m9 (tw @m10 (tw @ra (tw @rb (tw @Nz @vM))))))))))) ?_;(repeat(refine Pn.mk ?_;intro N hN))))
    refine iy ?_ ?_ (by(try dsimp only);omega) (⟨_,hj,put _ _ _ Tf (sd @Nat.zero_add) (fun k hk _=>by
     have gM:=Rb k _ hk
     simp only[go_sem, ↓reduceIte,Nat.reduceEqDiff,Nat.reduceAdd,Nat.reduceSub,Nat.reduceLeDiff,reduceCtorEq,gM])⟩)
    all_goals simp only[go_sem, ↓reduceIte,Nat.reduceEqDiff,Nat.reduceAdd,Nat.reduceSub,Nat.reduceLeDiff,reduceCtorEq,m0,m1,m5,m31,m32,m33,mt,zm,C5]
  ·intro N hN
   refine dI ?_ ?_<;>(try((repeat(revert hN;revert N;apply Pn.out));refine wk (tw @tV (tw @bg0 (tw @b0 (tw @b1 (tw @b5 (tw @xP (tw @tg (tw @hi (tw @k9 (tw @aB.eq_1 (tw @gA (tw @gB (tw @gz (tw @fS @tl)))))))))))))) ?_;(repeat(refine Pn.mk ?_;intro N hN))))<;>(try refine dI ?_ ?_)<;>(try((repeat(revert hN;revert N;apply Pn.out));refine wk (tw @tV (tw @bg0 (tw @b0 (tw @b1 (tw @b5 (tw @xP (tw @tg (tw @hi (tw @k9 (tw @aB.eq_1 (tw @gA (tw @gB (tw @gz (tw @fS @tl)))))))))))))) ?_;(repeat(refine Pn.mk ?_;intro N hN))))<;>(try refine dI ?_ ?_)<;>(try((repeat(revert hN;revert N;apply Pn.out));refine wk (tw @tV (tw @bg0 (tw @b0 (tw @b1 (tw @b5 (tw @xP (tw @tg (tw @hi (tw @k9 (tw @aB.eq_1 (tw @gA (tw @gB (tw @gz (tw @fS @tl)))))))))))))) ?_;(repeat(refine Pn.mk ?_;intro N hN))))
   all_goals
    refine .inr (aJ _ _ _ _ _ (fun r σ1 hq=>?_) (zd G cnt px L J3 b.a FO.1 _ (Re.frame fun k hk=>sd @PH)))
    obtain⟨g1,x1⟩:=σ1
    obtain⟨rfl,Al,KL⟩:=hq
    (try dsimp only at Al KL)
    subst Al
    refine hN _ _ ?_
    clear hN N
    (try((repeat(revert hN;revert N;apply Pn.out));refine wk (tw @tV (tw @bg0 (tw @b0 (tw @b1 (tw @b5 (tw @xP (tw @tg (tw @hi (tw @k9 (tw @aB.eq_1 (tw @gA (tw @gB (tw @gz (tw @fS @tl)))))))))))))) ?_;(repeat(refine Pn.mk ?_;intro N hN))))
    refine .inr (aJ _ _ _ _ _ (fun r σ1 hq=>?_) (zd G cnt px L J3 b.b FO.2 _ (Re.frame fun k hk=>sd @PH)))
    obtain⟨g1,x2⟩:=σ1
    obtain⟨rfl,Al,mM⟩:=hq
    (try dsimp only at Al mM)
    subst Al
    refine hN _ _ ?_
    clear hN N
    (try((repeat(revert hN;revert N;apply Pn.out));refine wk (tw @tV (tw @bg0 (tw @b0 (tw @b1 (tw @b5 (tw @xP (tw @tg (tw @hi (tw @k9 (tw @aB.eq_1 (tw @gA (tw @gB (tw @gz (tw @fS @tl)))))))))))))) ?_;(repeat(refine Pn.mk ?_;intro N hN))))
    exact⟨sd (tw @tV (tw @bg0 (tw @b0 (tw @b1 (tw @b5 (tw @xP @tg)))))),sd (tw @tV (tw @bg0 (tw @b0 (tw @b1 (tw @b5 (tw @xP @tg)))))),sd (tw @tV (tw @bg0 (tw @b0 (tw @b1 (tw @b5 (tw @xP @tg)))))),sd (tw @tV (tw @bg0 (tw @b0 (tw @b1 (tw @b5 (tw @xP @tg)))))),sd (tw @tV (tw @bg0 (tw @b0 (tw @b1 (tw @b5 (tw @xP @tg)))))),sd (tw @tV (tw @bg0 (tw @b0 (tw @b1 (tw @b5 (tw @xP @tg)))))),sd (tw @tV (tw @bg0 (tw @b0 (tw @b1 (tw @b5 (tw @xP @tg)))))),sd (tw @tV (tw @bg0 (tw @b0 (tw @b1 (tw @b5 (tw @xP @tg)))))),fun j hj=>by
     have hv:=dP hj
     simp only[go_sem, ↓reduceIte,Nat.reduceEqDiff,Nat.reduceAdd,Nat.reduceSub,Nat.reduceLeDiff,reduceCtorEq,hv],by(try dsimp only);omega⟩
 have nI:i=bs.length:=by omega
 subst nI
 rw[List.take_length]at J3
 have hL:=tF bs
 generalize eD bs=L at *
 (try((repeat(revert hN;revert N;apply Pn.out));refine wk (tw @tV (tw @bg0 (tw @b0 (tw @b1 (tw @b5 (tw @xP (tw @tg (tw @hi @tl)))))))) ?_;(repeat(refine Pn.mk ?_;intro N hN))))
 have l0:kI 0 L=[]:=rfl
 have oS:(none:Option Nat).isSome=false:=rfl
 have oT:∀a:Nat,(some a).isSome=true:=fun _=>rfl
 refine bh (fun n env st=>∃x:Nat,n=(cnt)-x/\x<=(cnt)/\env 81=.int .i64 (x:Int)/\st.get ⟨240001001,n0+1⟩=some ⟨true,1,lL G cnt cnt⟩/\st.get ⟨240017000,st_b.next+1+1⟩=some ⟨true,mI.sg,kI x L⟩/\(st_b.next+3<=st.next/\tT st.get G cnt px)/\((x=0/\env 11=.bq)∨∃o:Id,env 11=.own o 0 (leads x L).length/\Fh st.get o (jI x L) st.next)) (cnt) ⟨0,by omega,by omega,sl (tw @tV (tw @bg0 (tw @b0 (tw @b1 (tw @b5 (tw @xP (tw @tg @l0))))))),sl (tw @tV (tw @bg0 (tw @b0 (tw @b1 (tw @b5 (tw @xP (tw @tg @l0))))))),sl (tw @tV (tw @bg0 (tw @b0 (tw @b1 (tw @b5 (tw @xP (tw @tg @l0))))))),⟨by(try dsimp only);omega,Re.frame fun k hk=>by(have gM:=Kz k 240017000 (st_b.next+1+1) (by decide));simp only[go_sem, ↓reduceIte,Nat.reduceEqDiff,Nat.reduceAdd,Nat.reduceSub,Nat.reduceLeDiff,reduceCtorEq,gM]⟩,.inl ⟨rfl,sd @Nat.zero_add⟩⟩ ?_
 rintro n_c env_c st_c ⟨x,rfl,cle,c81,cg0,cg1,cI0,cI1⟩ cfr
 have yZ:=cfr 12 (by kernel_rfl);have Kk:=cfr 79 (by kernel_rfl);have Kl:=cfr 80 (by kernel_rfl)
 simp only[go_sem, ↓reduceIte,Nat.reduceEqDiff,Nat.reduceAdd,Nat.reduceSub,Nat.reduceLeDiff,reduceCtorEq,tV,bg0,b0,b1,b5,xP,tg,l0]at yZ Kk Kl
 clear cfr
 obtain⟨pd,Pr⟩:=cI0
 have Ng:∀j v,(G j=(⟨240017000,v⟩:Id))=False:=fun j v=>Kz j _ v (by decide)
 have Nb:∀j v,(G j=(⟨240025002,v⟩:Id))=False:=fun j v=>Kz j _ v (by decide)
 have Nd:∀j v,(G j=(⟨240025001,v⟩:Id))=False:=fun j v=>Kz j _ v (by decide)
 have Nf:∀j v,(G j=(⟨240026007,v⟩:Id))=False:=fun j v=>Kz j _ v (by decide)
 have Nc:∀j v,(G j=(⟨240026008,v⟩:Id))=False:=fun j v=>Kz j _ v (by decide)
 by_cases hx:(x:Int)<(cnt:Int)
 ·have gW:∀{e:Env} {gg:Rows} {nx:Nat},(e 81=.int .i64 (IntKind.i64.wrap ((x:Int)+1)))->(gg ⟨240001001,n0+1⟩=some ⟨true,1,lL G cnt cnt⟩)->(gg ⟨240017000,st_b.next+1+1⟩=some ⟨true,mI.sg,kI (x+1) L⟩)->(st_b.next+3<=nx/\tT gg G cnt px)->(((x+1)=0/\e 11=.bq)∨∃o:Id,e 11=.own o 0 (leads (x+1) L).length/\Fh gg o (jI (x+1) L) nx)->∃m0,m0<(cnt)-x/\∃x:Nat,m0=(cnt)-x/\x<=(cnt)/\e 81=.int .i64 (x:Int)/\gg ⟨240001001,n0+1⟩=some ⟨true,1,lL G cnt cnt⟩/\gg ⟨240017000,st_b.next+1+1⟩=some ⟨true,mI.sg,kI x L⟩/\(st_b.next+3<=nx/\tT gg G cnt px)/\((x=0/\e 11=.bq)∨∃o:Id,e 11=.own o 0 (leads x L).length/\Fh gg o (jI x L) nx):=fun x1 x2 x3 x4 x5=>⟨_,by omega,x+1,rfl,by omega,(by rw[x1,aC (by omega)]),x2,x3,x4,x5⟩
  have O9:x<cnt:=by omega
  have gX:=wP (G:=G) O9
  have hlx:L x<cnt:=Nat.lt_of_le_of_lt (hL.le _) O9
  have ra:=Pr _ hlx
  rw[lu (J3.root hL hlx (hL.idem _))]at ra
  have nA:=jL x L
  (try((repeat(revert hN;revert N;apply Pn.out));refine wk (tw @c81 (tw @cg0 (tw @cg1 (tw @yZ (tw @Kk (tw @Kl (tw @hx (tw @gX @tl)))))))) ?_;(repeat(refine Pn.mk ?_;intro N hN))))
  refine .inr (aJ _ _ _ _ _ (fun r σ1 hq=>?_) (zd G cnt px L J3 x O9 _ (Pr.frame fun k hk=>sd @Nat.zero_add)))
  obtain⟨g1,x1⟩:=σ1
  obtain⟨rfl,Al,KL⟩:=hq
  (try dsimp only at Al KL)
  subst Al
  refine hN _ _ ?_
  clear hN N
  by_cases hr:L x=x
  ·rw[hr]at ra ⊢
   have mo:=Gd hr
   have RD:(leads (x+1) L).length=(leads x L).length+1:=by rw[gI,if_pos hr];simp
   have O4:=Dv hr
   have Ru:=C2 hL hr
   rcases cI1 with⟨rfl,nG⟩|⟨o,nG,cS⟩
   ·have TA:kI 1 L=[[.int .i64 ((0:Nat):Int),.int .i64 ((0:Nat):Int)]]:=O4
    (try((repeat(revert hN;revert N;apply Pn.out));refine wk (tw @c81 (tw @cg0 (tw @cg1 (tw @yZ (tw @Kk (tw @Kl (tw @nG (tw @ra (tw @mo (tw @l0 (tw @oS (tw @oT (tw @Bool.not_false @Bool.not_true))))))))))))) ?_;(repeat(refine Pn.mk ?_;intro N hN))))
    refine gW ?_ ?_ ?_ (by(try dsimp only);exact⟨by omega,Pr.frame fun k hk=>sd (tw @Ng (tw @Nb (tw @Nc (tw @Nd @Nf))))⟩) (.inr ⟨⟨240025002,x1+1+1+1+1⟩,by simp only[go_sem, ↓reduceIte,Nat.reduceEqDiff,Nat.reduceAdd,Nat.reduceSub,Nat.reduceLeDiff,reduceCtorEq,RD];rfl,by rw[Ru];exact Kx (v':=x1+1+1+1+1+1) (sd @Nat.zero_add) (sd @eN.eq_1) (by(try dsimp only);omega) (by(try dsimp only);omega)⟩)
    all_goals simp only[go_sem, ↓reduceIte,Nat.reduceEqDiff,Nat.reduceAdd,Nat.reduceSub,Nat.reduceLeDiff,reduceCtorEq,c81,cg0,cg1,yZ,Kk,Kl,TA]
   ·obtain⟨rows,xt,se,kE⟩:=cS.new x
    rw[qo]at se
    have FU:o.site=240025002:=by obtain⟨_,_,_,_,_,_,h,_⟩:=cS;exact h
    have sb:o.cq<x1:=by obtain⟨_,_,_,_,_,_,_,h⟩:=cS;omega
    have sf:=dP sb
    have Qh:=gO (o:=o) FU (b:=240017000) (v:=st_b.next+1+1) (by decide)
    have OY:=gO (o:=o) FU (b:=240001001) (v:=n0+1) (by decide)
    have Nh:∀k,(G k=o)=False:=fun k=>by simp only[eq_iff_iff,iff_false];intro h;have h1:=Rf k;rw[h,FU]at h1;cases h1
    have sJ:(rows++[[AV.bq]])[(leads x L).length]? =some [.bq]:=by rw[<-se];simp
    have Df:∀a:List AV,(rows++[[AV.bq]]).set (leads x L).length a=rows++[a]:=fun a=>by rw[<-se];simp
    have e1:(leads x L).length+1<=16777216:=by omega
    have e2:((leads x L).length:Int)<(((leads x L).length+1:Nat):Int):=by omega
    (try((repeat(revert hN;revert N;apply Pn.out));refine wk (tw @c81 (tw @cg0 (tw @cg1 (tw @yZ (tw @Kk (tw @Kl (tw @nG (tw @ra (tw @mo (tw @xt (tw @se (tw @sf (tw @Qh (tw @sJ (tw @Df (tw @e1 (tw @e2 (tw @oS (tw @oT (tw @Bool.not_false @Bool.not_true)))))))))))))))))))) ?_;(repeat(refine Pn.mk ?_;intro N hN))))
    refine gW ?_ ?_ ?_ (by(try dsimp only);exact⟨by omega,Pr.frame fun k hk=>sd (tw @Ng (tw @Nb (tw @Nc (tw @Nd (tw @Nf @Nh)))))⟩) (.inr ⟨⟨240025002,x1+1+1+1+1⟩,sd @RD,by rw[Ru];exact kE _ _ (x1+1+1+1+1+1) _ (by omega) (by(try dsimp only);omega) (by(try dsimp only);omega) (sd @Df) (sd @eN.eq_1) (fun j hj hv=>by
     have q1:=dP (i:=j) (n:=x1) (by omega)
     have q2:=gO hj (b:=240017000) (v:=st_b.next+1+1) (by decide)
     have q3:(j=o)=False:=by simp only[eq_iff_iff,iff_false];intro h;rw[h,FU]at hj;cases hj
     simp only[go_sem, ↓reduceIte,Nat.reduceEqDiff,Nat.reduceAdd,Nat.reduceSub,Nat.reduceLeDiff,reduceCtorEq,q1,q2,q3])⟩)
    all_goals simp only[go_sem, ↓reduceIte,Nat.reduceEqDiff,Nat.reduceAdd,Nat.reduceSub,Nat.reduceLeDiff,reduceCtorEq,c81,cg0,cg1,yZ,Kk,Kl,O4,sf,Qh,OY]
  ·obtain⟨mo,Cr,eo⟩:=yu hL hr
   obtain⟨P3,Ru⟩:=C3 hL hr
   have RD:(leads (x+1) L).length=(leads x L).length:=by rw[gI,if_neg hr];simp
   have KU:=Du hr
   rcases cI1 with⟨rfl,nG⟩|⟨o,nG,cS⟩
   ·exact absurd (Nat.le_zero.1 (hL.le 0)) hr
   ·obtain⟨rows,id,xt,se,hrk,hid,Ii,hidv,SO⟩:=cS.add P3 x
    rw[qo]at se
    have FU:o.site=240025002:=by obtain⟨_,_,_,_,_,_,h,_⟩:=cS;exact h
    have sb:o.cq<x1:=by obtain⟨_,_,_,_,_,_,_,h⟩:=cS;omega
    have sf:=dP sb
    have tz:=dP (i:=id) (n:=x1) (by omega)
    have k9:(cj L x:Int)<((leads x L).length:Int):=by omega
    have Qd:=BL x L (L x)
    have hma:((members x L (L x)).map eN).length=(members x L (L x)).length:=by simp
    have e1:(members x L (L x)).length+1<=16777216:=by omega
    have OZ:(o=id)=False:=by simp only[eq_iff_iff,iff_false];rintro rfl;rw[Ii]at FU;cases FU
    have OR:(id=o)=False:=by simp only[eq_iff_iff,iff_false];rintro rfl;rw[Ii]at FU;cases FU
    have Qh:=gO (o:=o) FU (b:=240017000) (v:=st_b.next+1+1) (by decide)
    have OY:=gO (o:=o) FU (b:=240001001) (v:=n0+1) (by decide)
    have hiM:=gO (o:=id) Ii (b:=240017000) (v:=st_b.next+1+1) (by decide)
    have hiT:=gO (o:=id) Ii (b:=240001001) (v:=n0+1) (by decide)
    have Nh:∀k,(G k=o)=False:=fun k=>by simp only[eq_iff_iff,iff_false];intro h;have h1:=Rf k;rw[h,FU]at h1;cases h1
    have SA:∀k,(G k=id)=False:=fun k=>by simp only[eq_iff_iff,iff_false];intro h;have h1:=Rf k;rw[h,Ii]at h1;cases h1
    (try((repeat(revert hN;revert N;apply Pn.out));refine wk (tw @c81 (tw @cg0 (tw @cg1 (tw @yZ (tw @Kk (tw @Kl (tw @nG (tw @ra (tw @mo (tw @Cr (tw @xt (tw @se (tw @hrk (tw @hid (tw @sf (tw @tz (tw @k9 (tw @hma (tw @e1 (tw @OZ (tw @OR (tw @Qh (tw @OY (tw @hiM (tw @hiT (tw @oS (tw @oT (tw @Bool.not_false @Bool.not_true)))))))))))))))))))))))))))) ?_;(repeat(refine Pn.mk ?_;intro N hN))))
    refine gW ?_ ?_ ?_ (by(try dsimp only);exact⟨by omega,Pr.frame fun k hk=>sd (tw @Ng (tw @Nb (tw @Nc (tw @Nd (tw @Nf (tw @Nh @SA))))))⟩) (.inr ⟨o,sd (tw @RD @nG),by rw[Ru];exact SO _ (x1+1+1) _ (by omega) (by(try dsimp only);omega) (sd @Nat.zero_add) (sd (tw @sf (tw @tz (tw @OZ @OR)))) (fun j hj hv ml=>by
     have q1:=dP (i:=j) (n:=x1) (by omega)
     have q2:=gO hj (b:=240017000) (v:=st_b.next+1+1) (by decide)
     have q3:(j=o)=False:=by simp only[eq_iff_iff,iff_false];intro h;rw[h,FU]at hj;cases hj
     simp only[go_sem, ↓reduceIte,Nat.reduceEqDiff,Nat.reduceAdd,Nat.reduceSub,Nat.reduceLeDiff,reduceCtorEq,q1,q2,q3,ml])⟩)
    all_goals simp only[go_sem, ↓reduceIte,Nat.reduceEqDiff,Nat.reduceAdd,Nat.reduceSub,Nat.reduceLeDiff,reduceCtorEq,c81,cg0,cg1,yZ,Kk,Kl,KU,sf,tz,Qh,OY,hiM,hiT]
 have TK:x=cnt:=by omega
 rcases cI1 with⟨h0,_⟩|⟨o,nG,rows,ids,xt,hR,_,_,_,_⟩
 ·omega
 have se:=hR.len
 rw[qo]at se
 (try((repeat(revert hN;revert N;apply Pn.out));refine wk (tw @c81 (tw @cg0 (tw @cg1 (tw @yZ (tw @Kk (tw @Kl (tw @hx (tw @nG @xt)))))))) ?_;(repeat(refine Pn.mk ?_;intro N hN))))
 refine wz (.inl rfl) (by simp only[go_sem, ↓reduceIte,Nat.reduceEqDiff,Nat.reduceAdd,Nat.reduceSub,Nat.reduceLeDiff,reduceCtorEq];rfl) ?_
 rw[uq xt (by omega) (rows':=(fv cnt L).map Aj) (by
  rw[List.drop_zero,List.take_of_length_le (by omega)]
  rw[TK]at hR;exact IJ 3 hR)]
end Go.Proofs.YtgoelphibofcmaaGreat.V

namespace Go.Proofs.YtgoelphibofcmaaGreat.V
open Go.RowKit
attribute [local irreducible] eh wpOps fI Call
attribute [local go_sem] aM fj eJ fF fE da upd cu K.av cI AV.cells AV.cell rowOf rowsOf part ld rowAt bK bV dq dM gy bD cY dY fA eS dk dR cW cV dD dE bG bc cL bF cP cN dO dS dQ cK bL cX dN bE aO cR cz gx bm cH bH aY dp bl dr AV.undef bt bz dF dL dy dC cF dX eb cw dV dU cQ cU List.getD_cons_zero List.getD_cons_succ List.getD_nil List.all_cons List.all_nil Bool.and_true Bool.true_and Bool.and_self Bool.not_true Bool.not_false Option.map_some Option.map_none Option.bind_some Option.bind_none List.length_cons List.length_nil List.take_succ_cons List.take_zero List.take_nil List.drop_succ_cons List.drop_zero List.drop_nil List.head?_cons List.map_cons List.map_nil List.getElem?_cons_zero List.getElem?_cons_succ List.cons_append List.nil_append List.append_nil List.length_map List.set_cons_zero List.set_cons_succ Nat.reduceMul eq_self Int.toNat_natCast Int.natCast_nonneg and_self true_and and_true decide_true decide_false Bool.false_eq_true Nat.zero_add Nat.add_zero List.contains_cons List.contains_nil Bool.or_false Bool.false_or beq_self_eq_true Nat.reduceBEq ne_eq not_true_eq_false not_false_eq_true Id.mk.injEq false_and and_false Nat.reduceLT Int.reduceLE Int.reduceLT Int.reduceToNat Int.reduceNeg Int.reduceAdd Nat.le_refl List.length_append beq_true beq_false Bool.not_eq_eq_eq_not or_false false_or dK aj ar aH bd br bW aT aZ aU bf cJ bw
theorem JL (b:PB) (t:Int):au Tryz.prog 243 [.agg (aB b),.di [.int .i64 t]] (.bool (decide (b.s<t))):=by
 refine au.body eG rfl fun hl n0=>?_
 clear hl
 (try((repeat(revert hN;revert N;apply Pn.out));refine wk @aB.eq_1 ?_;(repeat(refine Pn.mk ?_;intro N hN))))
 exact aX (b:=decide (b.s<t)) (.inl rfl) (sd @Nat.zero_add) rfl
theorem yk (bs:List PB) (t:Int) (hl:bs.length<=1048576):au Tryz.prog 263 [.sl (bs.map aB),.fn 243 [.di [.int .i64 t]]] (.int .i64 (kb (fun b:PB=>decide (b.s<t)) bs)):=
 tD HK (show lZ Tryz.prog 263=some (sL 263 3 true) by kernel_rfl) bs hl 243 _ _ (fun x _=>JL x t) fun g=>by simp only[aj,ar,aU,Option.map_some]
theorem HE (bs:List PB) (hp:0<bs.length) (hl:bs.length<=1048576) (σ:aw):
  Call Tryz.prog 242 [.sl (bs.map aB)] σ fun r σ'=>∃o:Id,r=.own o 0 bs.length/\σ'.get o=some ⟨true,3,bs.map aB⟩/\σ.next<=o.cq/\o.cq<σ'.next/\∀i:Id,i.cq<σ.next->σ'.get i=σ.get i:=by
 refine fc eG rfl fun hl=>?_
 clear hl
 have hz:=all_map (l:=bs) MA
 obtain⟨b,r,rfl⟩:∃b r,bs=b::r:=by
  cases bs with
  |nil=>simp at hp
  |cons b r=>exact⟨b,r,rfl⟩
 have nA:(List.map aB (b::r)).length=(b::r).length:=by simp
 have e1:r.length<=16777215:=by simp at hl;omega
 rw[List.map_cons]at hz nA ⊢
 (try((repeat(revert hN;revert N;apply Pn.out));refine wk (tw @hz (tw @nA @e1)) ?_;(repeat(refine Pn.mk ?_;intro N hN))))
 refine eV (.inl rfl) (vs:=[.own ⟨242003002,σ.next+1+1⟩ 0 (b::r).length]) (by simp only[ft,ij,go_sem, ↓reduceIte,Nat.reduceEqDiff,Nat.reduceAdd,Nat.reduceSub,Nat.reduceLeDiff,reduceCtorEq,List.length_cons]) ⟨⟨242003002,σ.next+1+1⟩,rfl,sd @Nat.zero_add,by(try dsimp only);omega,by(try dsimp only);omega,fun i hi=>?_⟩
 have hv:=dP hi
 simp only[go_sem, ↓reduceIte,Nat.reduceEqDiff,Nat.reduceAdd,Nat.reduceSub,Nat.reduceLeDiff,reduceCtorEq,hv]
theorem oV {t:Int} {bs:List PB} {j:Nat} (hj:j<bs.length):aQ t (bs.take (j+1))=aQ t (bs.take j)++if decide (bs[j].s<t)=true then[]else[bs[j]]:=by
 rw[tN t bs j hj]
 congr 1
 by_cases h:bs[j].s<t
 ·rw[if_neg (by omega),if_pos (decide_eq_true h)]
 ·rw[if_pos (by omega),if_neg (by simp only[decide_eq_true_eq];exact h)]
theorem tM {t:Int} {bs:List PB} (h:∀b∈bs,¬b.s<t):aQ t bs=bs:=by
 unfold aQ
 rw[List.filter_eq_self]
 intro b hb
 have:=h b hb
 exact decide_eq_true (by omega)
structure tR (t:Int) (bs:List PB) (j:Nat) (R:List PB):Prop where
 len:R.length=bs.length
 pre:R.take (aQ t (bs.take j)).length=aQ t (bs.take j)
 post:∀x,j<=x->R[x]? =bs[x]?
 lt:(aQ t (bs.take j)).length<j
theorem tR.start {t:Int} {bs:List PB} {i:Nat} (hi:i<bs.length) (hw:bs[i].s<t) (hp:∀x (h:x<i),¬bs[x].s<t):tR t bs (i+1) bs/\(aQ t (bs.take (i+1))).length=i:=by
 have h1:aQ t (bs.take i)=bs.take i:=tM fun b hb=>by
  obtain⟨x,hx,rfl⟩:=List.getElem_of_mem hb
  rw[List.length_take]at hx
  rw[List.getElem_take]
  exact hp x (by omega)
 have h2:aQ t (bs.take (i+1))=bs.take i:=by rw[oV hi,if_pos (decide_eq_true hw),List.append_nil,h1]
 have h3:(bs.take i).length=i:=by rw[List.length_take];omega
 exact⟨⟨rfl,by rw[h2,h3],fun _ _=>rfl,by rw[h2,h3];omega⟩,by rw[h2,h3]⟩
theorem tR.QV {t:Int} {bs R:List PB} {j:Nat} (h:tR t bs j R) (hj:j<bs.length) (hw:bs[j].s<t):tR t bs (j+1) R/\(aQ t (bs.take (j+1))).length=(aQ t (bs.take j)).length:=by
 have h2:aQ t (bs.take (j+1))=aQ t (bs.take j):=by rw[oV hj,if_pos (decide_eq_true hw),List.append_nil]
 exact⟨⟨h.len,by rw[h2];exact h.pre,fun x hx=>h.post x (by omega),by rw[h2];have:=h.lt;omega⟩,by rw[h2]⟩
theorem tR.uf {t:Int} {bs R:List PB} {j:Nat} (h:tR t bs j R) (hj:j<bs.length) (hw:¬bs[j].s<t):tR t bs (j+1) (R.set (aQ t (bs.take j)).length bs[j])/\(aQ t (bs.take (j+1))).length=(aQ t (bs.take j)).length+1:=by
 have h2:aQ t (bs.take (j+1))=aQ t (bs.take j)++[bs[j]]:=by rw[oV hj,if_neg (by simp only[decide_eq_true_eq];exact hw)]
 have eo:=h.lt
 have hlen:=h.len
 have ud:=h.pre
 generalize hc:(aQ t (bs.take j)).length=c at *
 refine⟨⟨by rw[List.length_set];exact hlen,?_,fun x hx=>?_,by rw[h2,List.length_append,hc];simp;omega⟩,by rw[h2,List.length_append,hc];rfl⟩
 ·rw[h2,List.length_append,hc,List.length_singleton,List.take_succ_eq_append_getElem (by rw[List.length_set];omega),List.getElem_set_self,List.take_set_of_le (Nat.le_refl _),ud]
 ·rw[List.getElem?_set_ne (by omega)];exact h.post x (by omega)
theorem tR.at_ {t:Int} {bs R:List PB} {j:Nat} (h:tR t bs j R) (hj:j<bs.length):(R.map aB)[j]? =some (aB bs[j]):=by
 rw[List.getElem?_map,h.post j (Nat.le_refl j),List.getElem?_eq_getElem hj];rfl
theorem CU {p:PB->Bool} {bs:List PB} (h:¬0<=kb p bs):∀b∈bs,p b=false:=by
 intro b hb
 unfold kb at h
 split at h
 ·omega
 ·rename_i h1
  rw[List.findIdx_lt_length]at h1
  cases hp:p b
  ·rfl
  ·exact absurd ⟨b,hb,hp⟩ h1
theorem CV {p:PB->Bool} {bs:List PB} (h:0<=kb p bs):∃i,∃hi:i<bs.length,kb p bs=(i:Int)/\p bs[i]=true/\∀x (hx:x<i),p (bs[x]'(by omega))=false:=by
 unfold kb at h ⊢
 split
 ·rename_i h1
  exact⟨bs.findIdx p,h1,rfl,List.findIdx_getElem,fun x hx=>by simpa using List.not_of_lt_findIdx hx⟩
 ·rename_i h1;rw[if_neg h1]at h;omega
theorem FA (bs:List PB) (t:Int) (hl:bs.length<=1048576) (o T:Id) (σ:aw) (ho:σ.get o=some ⟨true,3,bs.map aB⟩) (hT:σ.get T=some ⟨true,1,[[.int .i64 t]]⟩) (sb:o.cq<σ.next) (H0:T.cq<σ.next) (OY:o≠T):
  Call Tryz.prog 241 [.own o 0 bs.length,.fn 243 [.ptr T 0 0]] σ fun r σ'=>∃rows,r=.own o 0 (aQ t bs).length/\σ'.get o=some ⟨true,3,rows⟩/\rows.take (aQ t bs).length=(aQ t bs).map aB/\(aQ t bs).length<=rows.length/\σ.next<=σ'.next/\∀i:Id,i.cq<σ.next->i≠o->σ'.get i=σ.get i:=by
 refine fc eG rfl fun lf=>?_
 clear lf
 have FR:=yk bs t hl
 have hzT:∀(g:Rows),g T=some ⟨true,1,[[.int .i64 t]]⟩->V.fz (dK g) 5 (.ptr T 0 0)=some (.di [.int .i64 t]):=fun g hg=>zg (sz:=1) (rows:=[[.int .i64 t]]) (by simp[dK,hg]) rfl (by simp only[List.drop_zero,aj,ar,aH,Option.map_some])
 have Aq:∀(g:Rows),g T=some ⟨true,1,[[.int .i64 t]]⟩->g o=some ⟨true,3,bs.map aB⟩->dd (dK g) 6 [.own o 0 bs.length,.fn 243 [.ptr T 0 0]]=some [.sl (bs.map aB),.fn 243 [.di [.int .i64 t]]]:=fun g h1 h2=>by
  have q1:=gG (g:=dK g) (n:=5) (e:=aB) (sz:=3) (len:=bs.length) (l:=bs) (id:=o) (by simp[dK,h2]) rfl fun b=>ze _ 4 b
  have q2:=hzT g h1
  simp only[aj,ar,q1,cJ,List.all_cons,List.all_nil,AV.cell,Bool.and_true,if_true,q2,Option.map_some]
 have lP:∀(g:Rows),g T=some ⟨true,1,[[.int .i64 t]]⟩->∀b:PB,dd (dK g) 6 [.agg (aB b),.ptr T 0 0]=some [.agg (aB b),.di [.int .i64 t]]:=fun g h1 b=>by
  have q3:V.fz (dK g) 6 (.ptr T 0 0)=some (.di [.int .i64 t]):=zg (sz:=1) (rows:=[[.int .i64 t]]) (by simp[dK,h1]) rfl (by simp only[List.drop_zero,aj,ar,aH,Option.map_some])
  simp only[aj,ar,aZ,ze,q3,Option.map_some]
 (try((repeat(revert hN;revert N;apply Pn.out));refine wk @Nat.zero_add ?_;(repeat(refine Pn.mk ?_;intro N hN))))
 refine .inl ⟨_,au.x FR (Aq _ hT ho),?_⟩
 refine hN _ _ ?_
 clear hN N
 by_cases h0:0<=kb (fun b:PB=>decide (b.s<t)) bs
 ·obtain⟨i,hi,JY,hpi,NH⟩:=CV h0
  rw[JY]at *
  have KN:decide ((i:Int)= -1)=false:=decide_eq_false (by omega)
  have Qt:IntKind.i64.wrap ((i:Int)+1)=((i+1:Nat):Int):=aC (by omega)
  obtain⟨eC,Df⟩:=tR.start (t:=t) hi (by simpa using hpi) (fun x hx=>by simpa using NH x hx)
  (try((repeat(revert hN;revert N;apply Pn.out));refine wk (tw @KN @Qt) ?_;(repeat(refine Pn.mk ?_;intro N hN))))
  refine bh (fun m env st=>∃(j:Nat) (R:List PB),m=bs.length-j/\env 6=.int .i64 (j:Int)/\env 5=.int .i64 ((aQ t (bs.take j)).length:Int)/\st.get o=some ⟨true,3,R.map aB⟩/\tR t bs j R/\j<=bs.length/\σ.next<=st.next/\∀x:Id,x.cq<σ.next->(x=o)=False->st.get x=σ.get x) (bs.length-(i+1)) ⟨i+1,bs,rfl,sd @Qt,sd @Df,sd @ho,eC,by omega,by(try dsimp only);omega,fun x _ _=>sd @Nat.zero_add⟩ ?_
  rintro m env_b st_b ⟨j,R,rfl,b6,b5,bg,hD,gV,hle,ik⟩ gQ
  have b0:=gQ 0 (by kernel_rfl)
  have b1:=gQ 1 (by kernel_rfl)
  simp only[go_sem, ↓reduceIte,Nat.reduceEqDiff,Nat.reduceAdd,Nat.reduceSub,Nat.reduceLeDiff,reduceCtorEq]at b0 b1
  clear gQ
  have bT:=(ik T H0 (by simp only[eq_iff_iff,iff_false];exact fun h=>OY h.symm)).trans hT
  have pM:=dP (i:=o) (n:=st_b.next) (by omega)
  have TG:=dP (i:=T) (n:=st_b.next) (by omega)
  have hRl:=hD.len
  have SJ:(R.map aB).length=bs.length:=by rw[List.length_map,hRl]
  have eo:=hD.lt
  by_cases hj:(j:Int)<(bs.length:Int)
  ·have jv:j<bs.length:=by omega
   have G5:=hD.at_ jv
   have NR:=JL bs[j] t
   have RS:IntKind.i64.wrap ((j:Int)+1)=((j+1:Nat):Int):=aC (by omega)
   have hD1:=hD.QV jv
   have hD2:=hD.uf jv
   generalize bs[j]=b at *
   (try((repeat(revert hN;revert N;apply Pn.out));refine wk (tw @b0 (tw @b1 (tw @b5 (tw @b6 (tw @bg (tw @hj (tw @G5 (tw @aB.eq_1 (tw @pM (tw @TG @SJ)))))))))) ?_;(repeat(refine Pn.mk ?_;intro N hN))))
   refine .inl ⟨_,au.x NR (lP _ (sd (tw @TG @bT)) b),?_⟩
   refine hN _ _ ?_
   clear hN N
   by_cases hw:b.s<t
   ·obtain⟨Sy,Sx⟩:=hD1 hw
    have hd:decide (b.s<t)=true:=decide_eq_true hw
    (try((repeat(revert hN;revert N;apply Pn.out));refine wk (tw @b0 (tw @b1 (tw @b5 (tw @b6 (tw @hd @RS))))) ?_;(repeat(refine Pn.mk ?_;intro N hN))))
    refine⟨_,?_,j+1,R,rfl,sd @RS,sd (tw @b5 @Sx),sd (tw @bg @pM),Sy,by omega,by(try dsimp only);omega,fun x hx G9=>?_⟩
    ·omega
    ·have O6:=dP (i:=x) (n:=st_b.next) (by omega)
     have:=ik x hx G9
     simp only[go_sem, ↓reduceIte,Nat.reduceEqDiff,Nat.reduceAdd,Nat.reduceSub,Nat.reduceLeDiff,reduceCtorEq,O6,this]
   ·obtain⟨Sy,Sx⟩:=hD2 hw
    have hd:decide (b.s<t)=false:=decide_eq_false hw
    have Ro:((aQ t (bs.take j)).length:Int)<(bs.length:Int):=by omega
    have Qs:IntKind.i64.wrap (((aQ t (bs.take j)).length:Int)+1)=(((aQ t (bs.take j)).length+1:Nat):Int):=aC (by omega)
    have eP:(R.map aB).set (aQ t (bs.take j)).length [.int .i64 (b.a:Int),.int .i64 (b.b:Int),.int .i64 b.s]=(R.set (aQ t (bs.take j)).length b).map aB:=by rw[List.map_set];rfl
    have Rt:∃y,(R.map aB)[(aQ t (bs.take j)).length]? =some (aB y):=⟨R[(aQ t (bs.take j)).length]'(by omega),by rw[List.getElem?_map,List.getElem?_eq_getElem (by omega)];rfl⟩
    obtain⟨y,Rt⟩:=Rt
    rw[aB]at Rt
    (try((repeat(revert hN;revert N;apply Pn.out));refine wk (tw @b0 (tw @b1 (tw @b5 (tw @b6 (tw @bg (tw @hd (tw @RS (tw @Qs (tw @Ro (tw @eP (tw @Rt (tw @pM (tw @TG @SJ))))))))))))) ?_;(repeat(refine Pn.mk ?_;intro N hN))))
    refine⟨_,?_,j+1,_,rfl,sd @RS,sd (tw @Qs @Sx),sd @eP,Sy,by omega,by(try dsimp only);omega,fun x hx G9=>?_⟩
    ·omega
    ·have O6:=dP (i:=x) (n:=st_b.next) (by omega)
     have:=ik x hx G9
     simp only[go_sem, ↓reduceIte,Nat.reduceEqDiff,Nat.reduceAdd,Nat.reduceSub,Nat.reduceLeDiff,reduceCtorEq,O6,this,G9]
  ·have gV:j=bs.length:=by omega
   subst gV
   have ud:=hD.pre
   rw[List.take_length]at b5 eo ud
   have Ro:((aQ t bs).length:Int)<=(bs.length:Int):=by omega
   have Rp:(aQ t bs).length<=bs.length:=by omega
   have qv:(aQ t bs).length+(bs.length-(aQ t bs).length)=bs.length:=by omega
   have Df:=ni t bs
   (try((repeat(revert hN;revert N;apply Pn.out));refine wk (tw @b0 (tw @b1 (tw @b5 (tw @b6 (tw @bg (tw @hj (tw @SJ (tw @Ro (tw @Rp (tw @qv (tw @Nat.le_refl (tw @Nat.sub_zero (tw @Int.le_refl @pM))))))))))))) ?_;(repeat(refine Pn.mk ?_;intro N hN))))
   refine eV (.inl rfl) (vs:=[.own o 0 (aQ t bs).length]) (sd @Nat.zero_add) ⟨_,rfl,by simp only[go_sem, ↓reduceIte,Nat.reduceEqDiff,Nat.reduceAdd,Nat.reduceSub,Nat.reduceLeDiff,reduceCtorEq];rfl,?_,?_,by(try dsimp only);omega,fun x hx G9=>?_⟩
   ·have hm:List.take (aQ t bs).length (List.map aB R)=(aQ t bs).map aB:=by rw[<-List.map_take,ud]
    rw[hm,List.append_assoc,List.take_append_of_le_length (by simp),List.take_of_length_le (by simp)]
   ·have hm:List.take (aQ t bs).length (List.map aB R)=(aQ t bs).map aB:=by rw[<-List.map_take,ud]
    rw[hm]
    simp only[List.length_append,List.length_map]
    omega
   ·have Qu:(x=o)=False:=by simp only[eq_iff_iff,iff_false];exact G9
    have:=ik x hx Qu
    simp only[go_sem, ↓reduceIte,Nat.reduceEqDiff,Nat.reduceAdd,Nat.reduceSub,Nat.reduceLeDiff,reduceCtorEq,Qu,this]
 ·have hn:=CU h0
  have eC:=tM (t:=t) (bs:=bs) fun b hb=>by simpa using hn b hb
  have hd:decide (kb (fun b:PB=>decide (b.s<t)) bs= -1)=true:=decide_eq_true (by
   unfold kb at h0 ⊢
   split
   ·rename_i h;rw[if_pos h]at h0;omega
   ·rfl)
  (try((repeat(revert hN;revert N;apply Pn.out));refine wk @hd ?_;(repeat(refine Pn.mk ?_;intro N hN))))
  refine eV (.inl rfl) (vs:=[.own o 0 bs.length]) (sd @Nat.zero_add) ⟨bs.map aB,by rw[eC];rfl,sd @ho,by rw[eC,List.take_of_length_le (by simp)],by rw[eC];simp,by(try dsimp only);omega,fun x _ _=>rfl⟩
end Go.Proofs.YtgoelphibofcmaaGreat.V

namespace Go.Proofs.YtgoelphibofcmaaGreat.V
open Go.RowKit
attribute [local irreducible] eh wpOps fI Call
attribute [local go_sem] aM fj eJ fF fE da upd cu K.av cI AV.cells AV.cell rowOf rowsOf part ld rowAt bK bV dq dM gy bD cY dY fA eS dk dR cW cV dD dE bG bc cL bF cP cN dO dS dQ cK bL cX dN bE aO cR cz gx bm cH bH aY dp bl dr AV.undef bt bz dF dL dy dC cF dX eb cw dV dU cQ cU List.getD_cons_zero List.getD_cons_succ List.getD_nil List.all_cons List.all_nil Bool.and_true Bool.true_and Bool.and_self Bool.not_true Bool.not_false Option.map_some Option.map_none Option.bind_some Option.bind_none List.length_cons List.length_nil List.take_succ_cons List.take_zero List.take_nil List.drop_succ_cons List.drop_zero List.drop_nil List.head?_cons List.map_cons List.map_nil List.getElem?_cons_zero List.getElem?_cons_succ List.cons_append List.nil_append List.append_nil List.length_map List.set_cons_zero List.set_cons_succ Nat.reduceMul eq_self Int.toNat_natCast Int.natCast_nonneg and_self true_and and_true decide_true decide_false Bool.false_eq_true Nat.zero_add Nat.add_zero List.contains_cons List.contains_nil Bool.or_false Bool.false_or beq_self_eq_true Nat.reduceBEq ne_eq not_true_eq_false not_false_eq_true Id.mk.injEq false_and and_false Nat.reduceLT Int.reduceLE Int.reduceLT Int.reduceToNat Int.reduceNeg Int.reduceAdd Nat.le_refl List.length_append beq_true beq_false Bool.not_eq_eq_eq_not or_false false_or dK aj ar aH bd br bW aT aZ aU bf cJ bw
end Go.Proofs.YtgoelphibofcmaaGreat.V

namespace Go.Proofs.YtgoelphibofcmaaGreat.V
open Go.RowKit
attribute [local irreducible] eh wpOps fI Call
attribute [local go_sem] aM fj eJ fF fE da upd cu K.av cI AV.cells AV.cell rowOf rowsOf part ld rowAt bK bV dq dM gy bD cY dY fA eS dk dR cW cV dD dE bG bc cL bF cP cN dO dS dQ cK bL cX dN bE aO cR cz gx bm cH bH aY dp bl dr AV.undef bt bz dF dL dy dC cF dX eb cw dV dU cQ cU List.getD_cons_zero List.getD_cons_succ List.getD_nil List.all_cons List.all_nil Bool.and_true Bool.true_and Bool.and_self Bool.not_true Bool.not_false Option.map_some Option.map_none Option.bind_some Option.bind_none List.length_cons List.length_nil List.take_succ_cons List.take_zero List.take_nil List.drop_succ_cons List.drop_zero List.drop_nil List.head?_cons List.map_cons List.map_nil List.getElem?_cons_zero List.getElem?_cons_succ List.cons_append List.nil_append List.append_nil List.length_map List.set_cons_zero List.set_cons_succ Nat.reduceMul eq_self Int.toNat_natCast Int.natCast_nonneg and_self true_and and_true decide_true decide_false Bool.false_eq_true Nat.zero_add Nat.add_zero List.contains_cons List.contains_nil Bool.or_false Bool.false_or beq_self_eq_true Nat.reduceBEq ne_eq not_true_eq_false not_false_eq_true Id.mk.injEq false_and and_false Nat.reduceLT Int.reduceLE Int.reduceLT Int.reduceToNat Int.reduceNeg Int.reduceAdd Nat.le_refl List.length_append beq_true beq_false Bool.not_eq_eq_eq_not or_false false_or dK aj ar aH bd br bW aT aZ aU bf cJ bw
end Go.Proofs.YtgoelphibofcmaaGreat.V

namespace Go.Proofs.YtgoelphibofcmaaGreat.V
open Go.RowKit Go.Shelf
attribute [local go_sem] Oper.semAt_some
structure pG (W:World) (v:Value) (l:List ah):Prop where
 sl:∃A c,v=.slice A l.length c/\(l.length<=c/\c<=maxLen)/\(l=[]∨∃b o,A=some ⟨b,o,none⟩/\∀i,i<l.length->W.cell? ⟨b,o+(i*3+0),none⟩=some (.int .i64 (bj l i).aW.eZ)/\W.cell? ⟨b,o+(i*3+1),none⟩=some (.int .i64 (bj l i).aW.eT)/\W.cell? ⟨b,o+(i*3+2),none⟩=some (.int .i64 (bj l i).aP))
structure Hg (K:World->World->Prop) (v:Value) (l:List ah):Prop where
 refl:∀W,K W W
 trans:∀{A B C:World},K A B->K B C->K A C
 of:∀{W W':World},Below W.heap.size W W'->K W W'
 size:∀{W W':World},K W W'->W.heap.size<=W'.heap.size
 typed:∀{W W':World},K W W'->∀(b:Nat) (cells:Array Value) (T:TypeId) (fr:Nat×Nat),W.heap[b]? =some (Obj.cells cells T fr)->T≠226->T≠246->W'.heap[b]? =W.heap[b]?
 pl:∀{W W':World},K W W'->pG W v l->pG W' v l
theorem uk {W:World} {b x:Nat} {v:Value} (h:W.cell? ⟨b,x,none⟩=some v):b<W.heap.size:=by
 rcases Nat.lt_or_ge b W.heap.size with h1|h1
 ·exact h1
 ·simp[World.cell?,Array.getElem?_eq_none h1]at h
theorem pG.below {W W':World} {v:Value} {l:List ah} (h:pG W v l) (k:Below W.heap.size W W'):pG W' v l:=by
 obtain⟨A,c,rfl,hm,hc⟩:=h.sl
 refine⟨A,c,rfl,hm,?_⟩
 rcases hc with h0|⟨b,o,rfl,jk⟩
 ·exact .inl h0
 ·refine .inr ⟨b,o,rfl,fun i hi=>?_⟩
  obtain⟨h1,h2,h3⟩:=jk i hi
  have hb:=uk h1
  exact⟨(k.cell (p:=⟨b,_,none⟩) hb).trans h1,(k.cell (p:=⟨b,_,none⟩) hb).trans h2,(k.cell (p:=⟨b,_,none⟩) hb).trans h3⟩
theorem pG.eU {P:Program} {W:World} {v:Value} {l:List ah} (h:pG W v l):jw P W (fun b=>b<W.heap.size) (.sl (l.map aa)) v:=by
 obtain⟨A,c,rfl,hm,hc⟩:=h.sl
 rcases hc with rfl|⟨b,o,rfl,jk⟩
 ·exact .As A c (by simpa using hm.2)
 by_cases RA:l=[]
 ·subst RA;exact .As _ c (by simpa using hm.2)
 ·have jA:0<l.length:=List.length_pos_iff.2 RA
  have hb:=uk (jk 0 jA).1
  refine .sl (l.map aa) b o l.length c 3 (fun i j=>if j=0 then .int .i64 (bj l i).aW.eZ else if j=1 then .int .i64 (bj l i).aW.eT else .int .i64 (bj l i).aP) (by simp) hm.1 hm.2 hb (fun cs du=>?_) (fun cs du a ha=>?_) (fun i j hi hj=>?_) (fun i j cs a hi hj=>?_)
  ·obtain⟨x,_,rfl⟩:=List.mem_map.1 du;rfl
  ·obtain⟨x,_,rfl⟩:=List.mem_map.1 du
   simp[aa]at ha
   rcases ha with rfl|rfl|rfl<;>rfl
  ·obtain⟨h1,h2,h3⟩:=jk i hi
   match j,hj with
   |0,_=>exact h1
   |1,_=>exact h2
   |2,_=>exact h3
   |j+3,hj=>omega
  ·have nI:i<l.length:=by have:=(List.getElem?_eq_some_iff.1 hi).1;simpa using this
   rw[fQ nI]at hi
   injection hi with hi
   subst hi
   match j,hj with
   |0,hj=>simp[aa]at hj;subst hj;exact .int _ _
   |1,hj=>simp[aa]at hj;subst hj;exact .int _ _
   |2,hj=>simp[aa]at hj;subst hj;exact .int _ _
   |j+3,hj=>simp[aa]at hj
theorem AK {P:Program} (hm:P.follows .mixedOrders=true) {f:Nat} {args:List AV} {vs:Array Value} {w:World} {r:AV} (h:au P f args r) (hr:∀g r0,gn g 6 r0=some r->r0=r) (hA:eW P w (fun b=>b<w.heap.size) (fun _=>none) args vs):
  Calls P f vs w fun e w'=>∃D ι u,e=.returned u/\dj P w' D ι r u/\Below w.heap.size w w':=by
 have hs:=ib hm (h 0) w.heap.size (fun b=>b<w.heap.size) (fun _=>none) w vs ⟨Nat.le_refl _,fun _ h=>h,fun id r h=>(by cases h),fun id kF r r' B B' h=>(by cases h)⟩ (fun id h=>absurd rfl h) hA
 refine hs.mono ?_
 rintro e w' ⟨r0,g',n',D',ι',u,rfl,⟨r',hz,rfl⟩,eC,hsim,_,_,gC⟩
 have:=hr _ _ hz
 subst this
 exact⟨D',ι',u,rfl,gC,eC.below⟩
theorem oI {g:Rows} {n:Nat} {a:AV} {k:IntKind} {m:Int} (h:gn g (n+1) a=some (.int k m)):a=.int k m:=by
 cases a<;>rw[gn]at h<;>simp_all
 all_goals (repeat' (split at h))<;>simp_all
theorem C0 {g:Rows} {a:AV} {x y:Int} (h:gn g 6 a=some (.agg [.int .i64 x,.int .i64 y])):a=.agg [.int .i64 x,.int .i64 y]:=by
 cases a with
 |agg cs=>
  rw[re]at h
  simp only[Option.map_eq_some_iff,AV.agg.injEq,exists_eq_right]at h
  match cs,h with
  |[],h=>rw[cD]at h;simp at h
  |[a],h=>
   rw[bJ,cD]at h
   cases ha:gn g 5 a<;>simp[ha]at h
  |[a,b],h=>
   rw[bJ,bJ,cD]at h
   cases ha:gn g 5 a<;>cases hb:gn g 5 b<;>simp[ha,hb]at h
   obtain⟨rfl,rfl⟩:=h
   rw[oI ha,oI hb]
  |a::b::c::r,h=>
   rw[bJ,bJ,bJ]at h
   cases ha:gn g 5 a<;>cases hb:gn g 5 b<;>cases hc:gn g 5 c<;>cases hd:ew g 5 r<;>simp[ha,hb,hc,hd]at h
 |_=>rw[gn]at h<;>simp_all<;>(repeat' (split at h))<;>simp_all
theorem DT (W:World) (p:aE) (d:Int) (hd:iC d 0 3=true) (hx:iB p.eZ) (hy:iB p.eT):Calls Tryz.prog 149 #[.agg #[.int .i64 p.eZ,.int .i64 p.eT],.int .i64 d] W fun e W'=>e=.returned (.agg #[.int .i64 (dx p d).eZ,.int .i64 (dx p d).eT])/\Below W.heap.size W W':=by
 refine(AK mixed (DV p d hd hx hy) (fun g r0 h=>C0 h) ?_:Calls _ _ _ _ _).mono ?_
 ·exact kQ (vs:= #[.int .i64 d]) (.agg _ _ (fun j=>if j=0 then .int .i64 p.eZ else .int .i64 p.eT) rfl (fun a ha=>by simp[ai]at ha;rcases ha with rfl|rfl<;>rfl) (fun j hj=>by match j,hj with|0,_=>rfl|1,_=>rfl|j+2,hj=>simp[ai]at hj;omega) (fun j a ha=>by match j,ha with|0,ha=>simp[ai]at ha;subst ha;exact .int _ _|1,ha=>simp[ai]at ha;subst ha;exact .int _ _|j+2,ha=>simp[ai]at ha)) (kQ (vs:= #[]) (.int _ _) wm)
 ·rintro e W' ⟨D,ι,u,rfl,hr,hB⟩
  refine⟨?_,hB⟩
  obtain⟨vs,f,rfl,fe,_,h1,h2⟩:=iP hr
  have v0:=h1 0 (by simp[ai])
  have v1:=h1 1 (by simp[ai])
  rw[dz (h2 0 _ rfl)]at v0
  rw[dz (h2 1 _ rfl)]at v1
  obtain⟨vl⟩:=vs
  match vl,fe with
  |[a,b],_=>
   simp at v0 v1
   rw[v0,v1]
theorem xF (W:World) (l:List ah) (v:Value) (hP:pG W v l) (p:aE) (hR:oh l) (FK:l.length<=1048576):Calls Tryz.prog 265 #[.agg #[v],.agg #[.int .i64 p.eZ,.int .i64 p.eT]] W fun e W'=>e=.returned (.int .i64 (eE l p))/\Below W.heap.size W W':=by
 refine(AK mixed (Gs l p hR FK) (fun g r0 h=>oI h) ?_:Calls _ _ _ _ _).mono ?_
 ·exact kQ (vs:= #[.agg #[.int .i64 p.eZ,.int .i64 p.eT]]) (.agg _ _ (fun _=>v) rfl (fun a ha=>by simp at ha;rw[ha];rfl) (fun j hj=>by match j,hj with|0,_=>rfl|j+1,hj=>simp at hj) (fun j a ha=>by match j,ha with|0,ha=>simp at ha;subst ha;exact hP.eU|j+1,ha=>simp at ha)) (kQ (vs:= #[]) (.agg _ _ (fun j=>if j=0 then .int .i64 p.eZ else .int .i64 p.eT) rfl (fun a ha=>by simp[ai]at ha;rcases ha with rfl|rfl<;>rfl) (fun j hj=>by match j,hj with|0,_=>rfl|1,_=>rfl|j+2,hj=>simp[ai]at hj;omega) (fun j a ha=>by match j,ha with|0,ha=>simp[ai]at ha;subst ha;exact .int _ _|1,ha=>simp[ai]at ha;subst ha;exact .int _ _|j+2,ha=>simp[ai]at ha)) wm)
 ·rintro e W' ⟨D,ι,u,rfl,hr,hB⟩
  exact⟨by rw[dz hr],hB⟩
theorem grown_of {W W':World} (h:Below W.heap.size W W'):W.grownBy W' none:=⟨h.os,h.tape,h.output,h.size,fun k hk _=>h.block k hk⟩
def BP (l:List ah) (i:Nat) (d:Int):List (Nat×Nat×Int):=if 0<=eE l (dx (bj l i).aW d)then[(i,(eE l (dx (bj l i).aW d)).toNat,d)]else[]
def kK (l:List ah) (i m:Nat):List (Nat×Nat×Int):=(List.range m).flatMap fun j:Nat=>BP l i (1-(j:Int))
def lh (l:List ah) (n:Nat):List (Nat×Nat×Int):=(List.range n).flatMap fun i=>kK l i 2
theorem ma (l:List ah) (n:Nat):lh l (n+1)=lh l n++kK l n 2:=by simp[lh,List.range_succ]
theorem mU (l:List ah) (i m:Nat):kK l i (m+1)=kK l i m++BP l i (1-(m:Int)):=by simp[kK,List.range_succ]
theorem N0 (l:List ah) {k m:Nat} (hk:k<l.length) (hm:m<=2):lh l k++kK l k m <+:lh l l.length:=by
 have h1:∀d,lh l k <+:lh l (k+d):=fun d=>by
  induction d with
  |zero=>exact List.prefix_refl _
  |succ d ih=>rw[<-Nat.add_assoc,ma l (k+d)];exact ih.trans (List.prefix_append _ _)
 have h2:∀d,lh l (k+1) <+:lh l (k+1+d):=fun d=>by
  induction d with
  |zero=>exact List.prefix_refl _
  |succ d ih=>rw[<-Nat.add_assoc,ma l (k+1+d)];exact ih.trans (List.prefix_append _ _)
 have h3:=h2 (l.length-(k+1))
 rw[show k+1+(l.length-(k+1))=l.length by omega,ma]at h3
 refine List.IsPrefix.trans ?_ h3
 have h4:kK l k m <+:kK l k 2:=by
  have:m=0∨m=1∨m=2:=by omega
  rcases this with rfl|rfl|rfl
  ·exact List.nil_prefix
  ·rw[mU l k 1];exact List.prefix_append _ _
  ·exact List.prefix_refl _
 exact(List.prefix_append_right_inj _).2 h4
def Pg (l:List ah) (x:Nat×Nat×Int):Prop:=x.1<l.length/\x.2.1<l.length/\(0<=x.2.2/\x.2.2<=1)
def Ev (x:Nat×Nat×Int):Array Value:= #[.agg #[.int .i64 (x.1:Int),.int .i64 (x.2.1:Int)],.int .i64 x.2.2]
theorem KZ (l:List ah) (p:aE) (h:0<l.length:=by omega):eE l p<(l.length:Int):=by
 unfold eE
 split<;>omega
theorem QJ (l:List ah) (hA:jB l) (q Ba:Nat) (vS:Value) (K:World->World->Prop) (kl:Hg K vS l) (J Jx:List (Nat×Nat×Int)->World->Prop) (n:Nat) (hn:1<=n)
  (hY:∀pre x W,J pre W->pre.length<(lh l l.length).length->Pg l x->YieldAt Fence.wide (n-1) Tryz.prog q (Ev x) W fun e W'=>
   (e=.returned (.bool true)/\J (pre++[x]) W'/\K W W')∨(e=.returned (.bool false)/\Jx (pre++[x]) W'))
  (W:World) (hJ:AbidesFrom W.heap.size J) (M9:W.heap[Ba]? =some (.cells #[vS] 41 (0,0))) (hP:pG W vS l) (h0:J [] W):
  CallsIn Fence.wide n Tryz.prog 264 #[.func (.yield q) #[] #[],.pointer (some ⟨Ba,0,none⟩)] W fun e W'=>(∃v,e=.returned v)/\
   ((∃ys,ys=lh l l.length/\J ys W')∨(∃pre,pre <+:lh l l.length/\Jx pre W')):=by
 obtain⟨A,cp,rfl,_,_⟩:=hP.sl
 refine callsIn_of_wp Tryz.func264 rfl trivial ?_ rfl
 simp only[Tryz.ntmps264,List.size_toArray,List.length_cons,List.length_nil,Nat.reduceAdd,Nat.reduceSub,Array.replicate_succ,Array.replicate_zero,List.push_toArray,List.append_toArray,List.nil_append,List.cons_append]
 have jF:W.cell? ⟨Ba,0,none⟩=some (.slice A l.length cp):=by simp[World.cell?,M9]
 gi_wp2
 gi_loopw [11] (fun i wr=>∃k:Nat,k<=l.length/\i=.int .i64 k/\J (lh l k) wr/\K W wr)
  (fun i _=>l.length-(intOf i).toNat)
 case atStart=>exact⟨0,Nat.zero_le _,rfl,h0,kl.refl _⟩
 case round=>
  obtain⟨k,hk,rfl,hJs,hKt⟩:=hrel
  by_cases eo:k<l.length
  ·have du:∃b o,A=some ⟨b,o,none⟩/\wr.cell? ⟨b,o+k*3,none⟩=some (.int .i64 (bj l k).aW.eZ)/\wr.cell? ⟨b,o+k*3+1,none⟩=some (.int .i64 (bj l k).aW.eT)/\wr.cell? ⟨b,o+k*3+2,none⟩=some (.int .i64 (bj l k).aP):=by
    obtain⟨A',c',hv,_,hc⟩:=(kl.pl hKt hP).sl
    cases hv
    rcases hc with rfl|⟨b,o,rfl,jk⟩
    ·simp at eo
    ·obtain⟨h1,h2,h3⟩:=jk k eo
     exact⟨b,o,rfl,by simpa using h1,by rw[Nat.add_assoc];exact h2,by rw[Nat.add_assoc];exact h3⟩
   obtain⟨b,o,rfl,hx,hy',ht⟩:=du
   gi_wp2
   obtain⟨W2,PM⟩:∃W2,(wr.alloc (.cells #[.int .i64 (bj l k).aW.eZ,.int .i64 (bj l k).aW.eT,.int .i64 (bj l k).aP] 137)).alloc (.cells #[.int .i64 1,.int .i64 0] 2)=W2:=⟨_,rfl⟩
   have pJ:Below wr.heap.size wr W2:=by rw[<-PM];exact((Below.refl _ wr).alloc (Nat.le_refl _) _).alloc (by simp) _
   have SD:W2.heap[wr.heap.size]? =some (.cells #[.int .i64 (bj l k).aW.eZ,.int .i64 (bj l k).aW.eT,.int .i64 (bj l k).aP] 137 (0,0)):=by
    rw[<-PM,Below.heap_alloc _ _ _ (by simp)];exact World.alloc_heap_new _ _
   have SC:W2.heap[wr.heap.size+1]? =some (.cells #[.int .i64 1,.int .i64 0] 2 (0,0)):=by
    have:=World.alloc_heap_new (wr.alloc (.cells #[.int .i64 (bj l k).aW.eZ,.int .i64 (bj l k).aW.eT,.int .i64 (bj l k).aP] 137)) (.cells #[.int .i64 1,.int .i64 0] 2)
    rw[World.size_alloc]at this
    rw[<-PM];exact this
   have PI:K W W2:=kl.trans hKt (kl.of pJ)
   have hJ2:J (lh l k++kK l k 0) W2:=by
    have:=hJ _ _ _ none hJs (grown_of pJ) (fun r h=>by cases h)
    simpa[kK]using this
   rw[PM]
   clear PM
   generalize wr=w1 at *
   gi_loopw [18] (fun j wr=>∃m:Nat,m<=2/\j=.int .i64 m/\J (lh l k++kK l k m) wr/\K W2 wr)
    (fun j _=>2-(intOf j).toNat)
   case atStart=>exact⟨0,by omega,rfl,hJ2,kl.refl _⟩
   case round=>
    obtain⟨m,hm,rfl,hJm,L2⟩:=hrel
    have hm0:m=0∨m=1∨m=2:=by omega
    by_cases EJ:m<2
    ·have hkd:=kl.typed L2 _ _ _ _ SC (by decide) (by decide)
     have KK:=kl.typed L2 _ _ _ _ SD (by decide) (by decide)
     have hka:=kl.typed (kl.trans PI L2) _ _ _ _ M9 (by decide) (by decide)
     have cd:wr.cell? ⟨w1.heap.size+1,m,none⟩=some (.int .i64 (1-(m:Int))):=by
      rw[World.cell?_of_block hkd]
      rcases hm0 with rfl|rfl|rfl
      ·simp[World.cell?,SC]
      ·simp[World.cell?,SC]
      ·omega
     have ct0:wr.cell? ⟨w1.heap.size,0,none⟩=some (.int .i64 (bj l k).aW.eZ):=by rw[World.cell?_of_block KK];simp[World.cell?,SD]
     have ct1:wr.cell? ⟨w1.heap.size,1,none⟩=some (.int .i64 (bj l k).aW.eT):=by rw[World.cell?_of_block KK];simp[World.cell?,SD]
     have ca:wr.cell? ⟨Ba,0,none⟩=some (.slice (some ⟨b,o,none⟩) l.length cp):=by rw[World.cell?_of_block hka];simp[World.cell?,M9]
     have hPw:pG wr (.slice (some ⟨b,o,none⟩) l.length cp) l:=kl.pl (kl.trans PI L2) hP
     have hba:Ba<wr.heap.size:=by
      have h1:=(Array.getElem?_eq_some_iff.1 M9).1
      have h2:=kl.size (kl.trans PI L2)
      omega
     have hdm:iC (1-(m:Int)) 0 3=true:=kG (by omega)
     have Qi:=sV (hA.pt eo)
     have O4:=fun w0=>DT w0 (bj l k).aW (1-(m:Int)) hdm Qi.1 Qi.2
     have hPd:pG wr.drew (.slice (some ⟨b,o,none⟩) l.length cp) l:=hPw.below ⟨rfl,rfl,rfl,Nat.le_refl _,fun _ _=>rfl⟩
     have cad:wr.drew.cell? ⟨Ba,0,none⟩=some (.slice (some ⟨b,o,none⟩) l.length cp):=ca
     have ctd0:wr.drew.cell? ⟨w1.heap.size,0,none⟩=some (.int .i64 (bj l k).aW.eZ):=ct0
     have ctd1:wr.drew.cell? ⟨w1.heap.size,1,none⟩=some (.int .i64 (bj l k).aW.eT):=ct1
     have hfw:=hA.zb
     have P9:=hA.Jf
     have Th:=mixed
     gi_wp2
     gi_region_with_o (first|(refine⟨trivial,?_⟩;gi_at_call 149;refine(callsIn_wide.2 (O4 _)).mono ?_;rintro e w3 ⟨rfl,Bb⟩;have ca3:=(Bb.cell (p:=⟨Ba,0,none⟩) hba).trans cad)|(refine⟨trivial,?_⟩;gi_at_call 265;refine(callsIn_wide.2 (xF _ l _ (hPd.below Bb) (dx (bj l k).aW (1-(m:Int))) P9 (by omega))).mono ?_;rintro e w4 ⟨rfl,hB4⟩))
     all_goals
      have M8:Below wr.heap.size wr w4:=(show Below wr.heap.size wr wr.drew from⟨rfl,rfl,rfl,Nat.le_refl _,fun _ _=>rfl⟩).trans (Bb.trans (hB4.mono Bb.size))
      have hJ4:J (lh l k++kK l k m) w4:=hJ _ _ _ none hJm (grown_of M8) (fun r h=>by cases h)
      have ud:=N0 l eo (m:=m+1) (by omega)
      rw[mU,<-List.append_assoc]at ud
      have pd:=mU l k m
      have hw:wrap64 ((m:Int)+1)=((m+1:Nat):Int):=by unfold wrap64;omega
      by_cases zq:0<=eE l (dx (bj l k).aW (1-(m:Int)))
      ·have fB:((eE l (dx (bj l k).aW (1-(m:Int)))).toNat:Int)=eE l (dx (bj l k).aW (1-(m:Int))):=by omega
       rw[BP,if_pos zq]at ud pd
       obtain⟨fn,tmps,assign,body,hy,hR⟩:=hY _ (k,(eE l (dx (bj l k).aW (1-(m:Int)))).toNat,1-(m:Int)) w4 hJ4 (by
        have:=ud.length_le
        simp only[List.length_append,List.length_cons,List.length_nil]at this ⊢
        omega) ⟨eo,by
        have:eE l (dx (bj l k).aW (1-(m:Int)))<(l.length:Int):=KZ _ _
        show(eE l (dx (bj l k).aW (1-(m:Int)))).toNat<l.length
        omega,by show 0<=1-(m:Int);omega,by show 1-(m:Int)<=1;omega⟩
       simp only[Ev,fB]at hy
       gi_wp2
       refine hR.mono ?_
       rintro e W3 (⟨rfl,hJ3,hk3⟩|⟨rfl,hJx3⟩)
       ·gi_wp2
        go_roundw
        case rel=>exact⟨m+1,by omega,by simp,by rw[pd,<-List.append_assoc];exact hJ3,kl.trans (kl.trans L2 (kl.of M8)) hk3⟩
        case measure=>simp[intOf];omega
       ·gi_wp2
        refine bodyPost_ret (results_none rfl _ _ _) rfl ?_
        exact⟨⟨_,rfl⟩,.inr ⟨_,ud,hJx3⟩⟩
      ·rw[BP,if_neg zq,List.append_nil]at pd
       gi_wp2
       refine⟨fun _ h=>(by cases h),?_⟩
       gi_wp2
       go_roundw
       case rel=>exact⟨m+1,by omega,by simp,by rw[pd];exact hJ4,kl.trans L2 (kl.of M8)⟩
       case measure=>simp[intOf];omega
    ·obtain rfl:m=2:=by omega
     have hfw:=hA.zb
     gi_wp2
     go_roundw
     case rel=>exact⟨k+1,by omega,by simp,by rw[ma];exact hJm,kl.trans PI L2⟩
     case measure=>simp[intOf];omega
  ·obtain rfl:k=l.length:=by omega
   gi_wp2
   go_end0
   exact⟨⟨_,rfl⟩,.inl ⟨_,rfl,hJs⟩⟩
end Go.Proofs.YtgoelphibofcmaaGreat.V

namespace Go.Proofs.YtgoelphibofcmaaGreat.V
open Go.RowKit Go.Shelf
attribute [local go_sem] Oper.semAt_some
theorem zJ (n:Nat) (vS:Value) (w:World):CallsIn Fence.wide n Tryz.prog 244 #[.agg #[vS]] w fun e w'=>e=.returned (.func (.func 264) #[] #[.pointer (some ⟨w.heap.size,0,none⟩)])/\w'=w.alloc (.cells #[vS] 41):=by
 refine callsIn_of_wp Tryz.func244 rfl trivial ?_ rfl
 simp only[Tryz.ntmps244,List.size_toArray,List.length_cons,List.length_nil,Nat.reduceAdd,Nat.reduceSub,Array.replicate_succ,Array.replicate_zero,List.push_toArray,List.append_toArray,List.nil_append,List.cons_append]
 gi_wp2
 go_ret
 exact⟨rfl,rfl⟩
abbrev MB (l:List ah):Type:={x:Nat×Nat×Int // Pg l x}
theorem IT (l:List ah) (hA:jB l) (Ba n:Nat) (hn:1<=n) (vS:Value) (K:World->World->Prop) (kl:Hg K vS l) (w:World) (M9:w.heap[Ba]? =some (.cells #[vS] 41 (0,0))) (hP:pG w vS l):
  SeqStopsK Fence.wide n Tryz.prog 264 #[.pointer (some ⟨Ba,0,none⟩)] (fun x:MB l=>Ev x.1) K (fun ys=>ys.map (·.1)=lh l l.length) (fun _=>True) (lh l l.length).length w:=fun q J Jx W hW hJ _ hY h0=>by
 refine(QJ l hA q Ba vS K kl (fun ys W=>∃zs:List (MB l),zs.map (·.1)=ys/\J zs W) (fun ys W=>∃zs:List (MB l),zs.map (·.1)=ys/\Jx zs W) n hn (fun pre x W1 hJ1 eo vN=>?_) W (fun s A B row ⟨zs,e,h⟩ hg hr=>⟨zs,e,hJ zs A B row h hg hr⟩) ((hW.block Ba (Array.getElem?_eq_some_iff.1 M9).1).trans M9) (hP.below hW) ⟨[],rfl,h0⟩).mono ?_
 ·obtain⟨zs,rfl,h1⟩:=hJ1
  refine YieldAt.mono (hY zs ⟨x,vN⟩ W1 h1 (by simpa using eo)) ?_
  rintro e W' (⟨h2,h3,h4⟩|⟨h2,h3⟩)
  ·exact .inl ⟨h2,⟨zs++[⟨x,vN⟩],by simp,h3⟩,h4⟩
  ·exact .inr ⟨h2,⟨zs++[⟨x,vN⟩],by simp,h3⟩⟩
 ·rintro e W' ⟨h1,⟨ys,rfl,zs,h2,h3⟩|⟨pre,_,zs,h2,h3⟩⟩
  ·exact⟨h1,.inl ⟨zs,h2,h3⟩⟩
  ·exact⟨h1,.inr ⟨zs,trivial,h3⟩⟩
def yY (s:ax) (l:List ah) (x:Nat×Nat×Int):List PB:=if 0<gN s (bj l x.1).aP x.2.2 (bj l x.2.1).aP then[⟨x.1,x.2.1,gN s (bj l x.1).aP x.2.2 (bj l x.2.1).aP⟩]else[]
theorem HA (s:ax) (l:List ah):db s l=(lh l l.length).flatMap (yY s l):=by
 have h1:∀i d,mE s l i d=(BP l i d).flatMap (yY s l):=fun i d=>by
  unfold mE BP
  by_cases h:0<=eE l (dx (bj l i).aW d)
  ·rw[if_pos h]
   simp only[List.flatMap_cons,List.flatMap_nil,List.append_nil,yY]
   by_cases h2:0<gN s (bj l i).aP d (bj l (eE l (dx (bj l i).aW d)).toNat).aP
   ·rw[if_pos ⟨h,h2⟩,if_pos h2]
   ·rw[if_neg fun hc=>h2 hc.2,if_neg h2]
  ·rw[if_neg h,if_neg fun hc=>h hc.1];rfl
 unfold db gE lh
 rw[List.flatMap_assoc]
 congr 1
 funext i
 unfold fX kK
 rw[List.flatMap_assoc]
 congr 1
 funext j
 exact h1 i _
end Go.Proofs.YtgoelphibofcmaaGreat.V

namespace Go.Proofs.YtgoelphibofcmaaGreat.V
open Go.RowKit
attribute [local irreducible] eh wpOps fI Call
attribute [local go_sem] aM fj eJ fF fE da upd cu K.av cI AV.cells AV.cell rowOf rowsOf part ld rowAt bK bV dq dM gy bD cY dY fA eS dk dR cW cV dD dE bG bc cL bF cP cN dO dS dQ cK bL cX dN bE aO cR cz gx bm cH bH aY dp bl dr AV.undef bt bz dF dL dy dC cF dX eb cw dV dU cQ cU List.getD_cons_zero List.getD_cons_succ List.getD_nil List.all_cons List.all_nil Bool.and_true Bool.true_and Bool.and_self Bool.not_true Bool.not_false Option.map_some Option.map_none Option.bind_some Option.bind_none List.length_cons List.length_nil List.take_succ_cons List.take_zero List.take_nil List.drop_succ_cons List.drop_zero List.drop_nil List.head?_cons List.map_cons List.map_nil List.getElem?_cons_zero List.getElem?_cons_succ List.cons_append List.nil_append List.append_nil List.length_map List.set_cons_zero List.set_cons_succ Nat.reduceMul eq_self Int.toNat_natCast Int.natCast_nonneg and_self true_and and_true decide_true decide_false Bool.false_eq_true Nat.zero_add Nat.add_zero List.contains_cons List.contains_nil Bool.or_false Bool.false_or beq_self_eq_true Nat.reduceBEq ne_eq not_true_eq_false not_false_eq_true Id.mk.injEq false_and and_false Nat.reduceLT Int.reduceLE Int.reduceLT Int.reduceToNat Int.reduceNeg Int.reduceAdd Nat.le_refl List.length_append beq_true beq_false Bool.not_eq_eq_eq_not or_false false_or dK aj ar aH bd br bW aT aZ aU bf cJ bw
def zV (bs:List PB):AV:=if bs=[]then .bq else .sl (bs.map aB)
theorem LD:zV []=.bq:=rfl
theorem zW {bs:List PB} (h:0<bs.length):zV bs=.sl (bs.map aB):=by
 unfold zV
 rw[if_neg (by rintro rfl;simp at h)]
theorem xn (cnt:Nat) (vM:1<=cnt) (hn:cnt<=1048576) (bs:List PB) (hb:∀b∈bs,b.a<cnt/\b.b<cnt) (hp:0<bs.length) (qq:bs.length<=1048576) (t:Int):au Tryz.prog 221 [.int .i64 cnt,.sl (bs.map aB),.int .i64 t] (.iO [.int .i64 (leads cnt (eD (aQ t bs))).length,zV (dt (eD (aQ t bs)) bs)]):=by
 refine au.body eG rfl fun hl n0=>?_
 clear hl
 (try((repeat(revert hN;revert N;apply Pn.out));refine wk @Nat.zero_add ?_;(repeat(refine Pn.mk ?_;intro N hN))))
 refine .inr (aJ _ _ _ _ _ (fun r σ1 hq=>?_) (HE bs hp qq _))
 obtain⟨o,rfl,ho,KR,KS,PZ⟩:=hq
 (try dsimp only at ho KR KS PZ)
 refine hN _ _ ?_
 clear hN N
 (try((repeat(revert hN;revert N;apply Pn.out));refine wk @Nat.zero_add ?_;(repeat(refine Pn.mk ?_;intro N hN))))
 refine .inr (aJ _ _ _ _ _ (fun r σ2 hq=>?_) (FA bs t qq o ⟨221000000,n0⟩ _ ho (by rw[PZ _ (by(try dsimp only);omega)];simp only[go_sem, ↓reduceIte,Nat.reduceEqDiff,Nat.reduceAdd,Nat.reduceSub,Nat.reduceLeDiff,reduceCtorEq]) (by(try dsimp only);omega) (by(try dsimp only);omega) (by rintro rfl;simp only at KR;omega)))
 obtain⟨rows,rfl,fY,hrt,se,mM,Ih⟩:=hq
 (try dsimp only at mM Ih)
 refine hN _ _ ?_
 clear hN N
 have G6:=vD cnt vM hn (aQ t bs) (fun b h=>hb b (wL h)) (by have:=ni t bs;omega)
 have hL:=tF (aQ t bs)
 have hz:∀x,dd (dK σ2.get) 6 [.int .i64 x,.own o 0 (aQ t bs).length]=some [.int .i64 x,.sl ((aQ t bs).map aB)]:=fun x=>by
  have:V.fz (dK σ2.get) 6 (.own o 0 (aQ t bs).length)=some (.sl ((aQ t bs).map aB)):=by
   rw[im];simp only[dK,fY,Option.map_some,if_true]
   rw[if_pos (by omega),List.drop_zero,hrt,qm fun b=>ze _ 4 b];rfl
  simp only[aj,ar,aH,this,Option.map_some]
 (try((repeat(revert hN;revert N;apply Pn.out));refine wk @Nat.zero_add ?_;(repeat(refine Pn.mk ?_;intro N hN))))
 refine .inl ⟨_,au.x G6 (hz _),?_⟩
 refine hN _ _ ?_
 clear hN N
 generalize eD (aQ t bs)=L at *
 have sJ:((fv cnt L).map Aj).length=(leads cnt L).length:=by simp[fv]
 have RB:=jL cnt L
 have jF:(0:Int)<=(cnt:Int):=by omega
 have mK:(cnt:Int)<=((16777216:Nat):Int):=by omega
 have gC:List.replicate cnt [AV.int .i64 0]=dH (dh cnt L 0 0) cnt:=by rw[wR,oL]
 (try((repeat(revert hN;revert N;apply Pn.out));refine wk (tw @jF (tw @mK (tw @Int.le_refl (tw @sJ @gC)))) ?_;(repeat(refine Pn.mk ?_;intro N hN))))
 refine bh (fun n env st=>∃i:Nat,n=((leads cnt L).length)-i/\i<=((leads cnt L).length)/\env 27=.int .i64 (i:Int)/\st.get ⟨221002001,σ2.next+1⟩=some ⟨true,1,dH (dh cnt L i 0) cnt⟩/\(σ2.next+1<st.next)) ((leads cnt L).length) ⟨0,by omega,by omega,sl (tw @gC @sJ),sl (tw @gC @sJ),(by(try dsimp only);omega)⟩ ?_
 rintro n_c env_c st_c ⟨i,rfl,cle,c27,cg0,cI0⟩ cfr
 have c1:=cfr 1 (by kernel_rfl);have c8:=cfr 8 (by kernel_rfl);have c9:=cfr 9 (by kernel_rfl);have xi:=cfr 25 (by kernel_rfl);have xj:=cfr 26 (by kernel_rfl)
 simp only[go_sem, ↓reduceIte,Nat.reduceEqDiff,Nat.reduceAdd,Nat.reduceSub,Nat.reduceLeDiff,reduceCtorEq,gC,sJ]at c1 c8 c9 xi xj
 clear cfr
 by_cases hi:(i:Int)<((leads cnt L).length:Int)
 ·have gW:∀{e:Env} {gg:Rows} {nx:Nat},(e 27=.int .i64 (IntKind.i64.wrap ((i:Int)+1)))->(gg ⟨221002001,σ2.next+1⟩=some ⟨true,1,dH (dh cnt L (i+1) 0) cnt⟩)->(σ2.next+1<nx)->∃m0,m0<((leads cnt L).length)-i/\∃i:Nat,m0=((leads cnt L).length)-i/\i<=((leads cnt L).length)/\e 27=.int .i64 (i:Int)/\gg ⟨221002001,σ2.next+1⟩=some ⟨true,1,dH (dh cnt L i 0) cnt⟩/\(σ2.next+1<nx):=fun x1 x2 x3=>⟨_,by omega,i+1,rfl,by omega,(by rw[x1,aC (by omega)]),x2,x3⟩
  have fB:i<(leads cnt L).length:=by omega
  have k9:((fv cnt L).map Aj)[i]? =some (Aj (members cnt L (leads cnt L)[i])):=by simp[fv,fB]
  have tu:(leads cnt L).getD i 0=(leads cnt L)[i]:=by simp[List.getD_eq_getElem?_getD,fB]
  have k5:∀m,dh cnt L i m=fun x=>if cj L x<i then cj L x else if x∈(members cnt L (leads cnt L)[i]).take m then i else 0:=fun m=>by unfold dh;rw[tu]
  have rn:=fun x (hx:x<cnt)=>sR hL (n:=cnt) (k:=x) (i:=i) hx fB
  have mm:(members cnt L (leads cnt L)[i]).Nodup:=List.nodup_range.filter _
  have NA:∀x∈members cnt L (leads cnt L)[i],x<cnt:=fun x hx=>(ly.1 hx).1
  have hMc:(members cnt L (leads cnt L)[i]).length<=cnt:=by
   have:=List.length_filter_le (fun k=>L k==(leads cnt L)[i]) (List.range cnt)
   simpa[members]using this
  generalize members cnt L (leads cnt L)[i]=M at *
  have Cp:(M.map eN).length=M.length:=by simp
  (try((repeat(revert hN;revert N;apply Pn.out));refine wk (tw @c27 (tw @cg0 (tw @c1 (tw @c8 (tw @c9 (tw @xi (tw @xj (tw @hi (tw @sJ (tw @k9 (tw @Aj.eq_1 @Cp))))))))))) ?_;(repeat(refine Pn.mk ?_;intro N hN))))
  refine bh (fun n env st=>∃m:Nat,n=(M.length)-m/\m<=(M.length)/\env 34=.int .i64 (m:Int)/\st.get ⟨221002001,σ2.next+1⟩=some ⟨true,1,dH (dh cnt L i m) cnt⟩/\(σ2.next+1<st.next)) (M.length) ⟨0,by omega,by omega,sl (tw @c27 (tw @cg0 (tw @c1 (tw @c8 (tw @c9 (tw @xi (tw @xj @Cp))))))),sl (tw @c27 (tw @cg0 (tw @c1 (tw @c8 (tw @c9 (tw @xi (tw @xj @Cp))))))),(by(try dsimp only);omega)⟩ ?_
  rintro n_d env_d st_d ⟨m,rfl,dle,d34,dg0,dI0⟩ dfr
  have d1:=dfr 1 (by kernel_rfl);have d8:=dfr 8 (by kernel_rfl);have d9:=dfr 9 (by kernel_rfl);have d10:=dfr 10 (by kernel_rfl);have d25:=dfr 25 (by kernel_rfl);have d26:=dfr 26 (by kernel_rfl);have d27:=dfr 27 (by kernel_rfl);have d32:=dfr 32 (by kernel_rfl);have d33:=dfr 33 (by kernel_rfl)
  simp only[go_sem, ↓reduceIte,Nat.reduceEqDiff,Nat.reduceAdd,Nat.reduceSub,Nat.reduceLeDiff,reduceCtorEq,c27,cg0,c1,c8,c9,xi,xj,Cp]at d1 d8 d9 d10 d25 d26 d27 d32 d33
  clear dfr
  have tl:=ga (dh cnt L i m) cnt
  by_cases hm:(m:Int)<(M.length:Int)
  ·have tJ:∀{e:Env} {gg:Rows} {nx:Nat},(e 34=.int .i64 (IntKind.i64.wrap ((m:Int)+1)))->(gg ⟨221002001,σ2.next+1⟩=some ⟨true,1,dH (dh cnt L i (m+1)) cnt⟩)->(σ2.next+1<nx)->∃m0,m0<(M.length)-m/\∃m:Nat,m0=(M.length)-m/\m<=(M.length)/\e 34=.int .i64 (m:Int)/\gg ⟨221002001,σ2.next+1⟩=some ⟨true,1,dH (dh cnt L i m) cnt⟩/\(σ2.next+1<nx):=fun x1 x2 x3=>⟨_,by omega,m+1,rfl,by omega,(by rw[x1,aC (by omega)]),x2,x3⟩
   have zr:m<M.length:=by omega
   have vH:(M.map eN)[m]? =some (eN M[m]):=by simp[zr]
   have vO:=NA _ (List.getElem_mem zr)
   have Ct:(M[m]:Int)<(cnt:Int):=by omega
   have Cs:=fq (f:=dh cnt L i m) vO
   have eP:(dH (dh cnt L i m) cnt).set M[m] (eN i)=dH (dh cnt L i (m+1)) cnt:=pz vO (by
    have h1:=(rn _ vO).1 (List.getElem_mem zr)
    rw[k5]
    simp only[]
    rw[if_neg (by omega),if_pos (by rw[List.take_succ_eq_append_getElem zr];exact List.mem_append_right _ (List.mem_singleton.2 rfl))]) fun x hx gM=>by
    rw[k5,k5]
    simp only[]
    rw[List.take_succ_eq_append_getElem zr]
    simp only[List.mem_append,List.mem_singleton,gM,or_false]
   rw[eN]at eP Cs
   generalize M[m]=xm at *
   (try((repeat(revert hN;revert N;apply Pn.out));refine wk (tw @d34 (tw @dg0 (tw @d1 (tw @d8 (tw @d9 (tw @d10 (tw @d25 (tw @d26 (tw @d27 (tw @d32 (tw @d33 (tw @hm (tw @hi (tw @vH (tw @Cp (tw @Ct (tw @Cs (tw @tl (tw @eP @eN.eq_1))))))))))))))))))) ?_;(repeat(refine Pn.mk ?_;intro N hN))))
   refine tJ ?_ ?_ (by(try dsimp only);omega)
   all_goals simp only[go_sem, ↓reduceIte,Nat.reduceEqDiff,Nat.reduceAdd,Nat.reduceSub,Nat.reduceLeDiff,reduceCtorEq,d34,dg0,d1,d8,d9,d10,d25,d26,d27,d32,d33,eP]
  ·have nA:m=M.length:=by omega
   subst nA
   have pd:dH (dh cnt L i M.length) cnt=dH (dh cnt L (i+1) 0) cnt:=gS fun x hx=>by
    rw[k5,List.take_length]
    simp only[dh,List.take_zero,List.not_mem_nil,if_false]
    have h1:=rn x hx
    by_cases h2:cj L x<i
    ·rw[if_pos h2,if_pos (by omega)]
    ·rw[if_neg h2]
     by_cases h3:x∈M
     ·rw[if_pos h3,if_pos (by have:=h1.1 h3;omega),h1.1 h3]
     ·rw[if_neg h3,if_neg fun h4=>h3 (h1.2 (by omega))]
   (try((repeat(revert hN;revert N;apply Pn.out));refine wk (tw @d34 (tw @dg0 (tw @d1 (tw @d8 (tw @d9 (tw @d10 (tw @d25 (tw @d26 (tw @d27 (tw @d32 (tw @d33 (tw @hm (tw @hi (tw @sJ @Cp)))))))))))))) ?_;(repeat(refine Pn.mk ?_;intro N hN))))
   refine gW ?_ ?_ (by(try dsimp only);omega)
   all_goals simp only[go_sem, ↓reduceIte,Nat.reduceEqDiff,Nat.reduceAdd,Nat.reduceSub,Nat.reduceLeDiff,reduceCtorEq,c27,cg0,c1,c8,c9,xi,xj,d34,dg0,d1,d8,d9,d10,d25,d26,d27,d32,d33,pd]
 have nI:i=(leads cnt L).length:=by omega
 subst nI
 have xb:dH (dh cnt L (leads cnt L).length 0) cnt=dH (cj L) cnt:=gS fun x hx=>by rw[dh,if_pos (jY hL hx)]
 rw[xb]at cg0
 have tl:=ga (cj L) cnt
 have Rm:(bs.map aB).length=bs.length:=by simp
 (try((repeat(revert hN;revert N;apply Pn.out));refine wk (tw @c27 (tw @cg0 (tw @c1 (tw @c8 (tw @c9 (tw @xi (tw @xj (tw @hi (tw @sJ @Rm))))))))) ?_;(repeat(refine Pn.mk ?_;intro N hN))))
 have Rp:σ2.next+1<st_c.next:=cI0
 refine bh (fun n env st=>∃j:Nat,n=(bs.length)-j/\j<=(bs.length)/\env 46=.int .i64 (j:Int)/\st.get ⟨221002001,σ2.next+1⟩=some ⟨true,1,dH (cj L) cnt⟩/\(st_c.next<=st.next/\((dt L (bs.take j)=[]/\env 14=.bq)∨∃p:Id,env 14=.own p 0 (dt L (bs.take j)).length/\st.get p=some ⟨true,3,(dt L (bs.take j)).map aB⟩/\st_c.next<=p.cq/\p.cq<st.next/\0<(dt L (bs.take j)).length))) (bs.length) ⟨0,by omega,by omega,sl (tw @c27 (tw @cg0 (tw @c1 (tw @c8 (tw @c9 (tw @xi (tw @xj @Rm))))))),sl (tw @c27 (tw @cg0 (tw @c1 (tw @c8 (tw @c9 (tw @xi (tw @xj @Rm))))))),⟨by(try dsimp only);omega,.inl ⟨rfl,by(simp only[go_sem, ↓reduceIte,Nat.reduceEqDiff,Nat.reduceAdd,Nat.reduceSub,Nat.reduceLeDiff,reduceCtorEq])⟩⟩⟩ ?_
 rintro n_f env_f st_f ⟨j,rfl,fle,f46,fg0,fI0⟩ ffr
 have f1:=ffr 1 (by kernel_rfl);have f8:=ffr 8 (by kernel_rfl);have f9:=ffr 9 (by kernel_rfl);have f44:=ffr 44 (by kernel_rfl);have f45:=ffr 45 (by kernel_rfl)
 simp only[go_sem, ↓reduceIte,Nat.reduceEqDiff,Nat.reduceAdd,Nat.reduceSub,Nat.reduceLeDiff,reduceCtorEq,c27,cg0,c1,c8,c9,xi,xj,Rm]at f1 f8 f9 f44 f45
 clear ffr
 obtain⟨OQ,fO⟩:=fI0
 have Ix:=dP (i:=⟨221002001,σ2.next+1⟩) (n:=st_f.next) (by(try dsimp only);omega)
 have Df:=(nh L (bs.take j)).1
 rw[List.length_take]at Df
 by_cases hj:(j:Int)<(bs.length:Int)
 ·have rN:∀{e:Env} {gg:Rows} {nx:Nat},(e 46=.int .i64 (IntKind.i64.wrap ((j:Int)+1)))->(gg ⟨221002001,σ2.next+1⟩=some ⟨true,1,dH (cj L) cnt⟩)->(st_c.next<=nx/\((dt L (bs.take (j+1))=[]/\e 14=.bq)∨∃p:Id,e 14=.own p 0 (dt L (bs.take (j+1))).length/\gg p=some ⟨true,3,(dt L (bs.take (j+1))).map aB⟩/\st_c.next<=p.cq/\p.cq<nx/\0<(dt L (bs.take (j+1))).length))->∃m0,m0<(bs.length)-j/\∃j:Nat,m0=(bs.length)-j/\j<=(bs.length)/\e 46=.int .i64 (j:Int)/\gg ⟨221002001,σ2.next+1⟩=some ⟨true,1,dH (cj L) cnt⟩/\(st_c.next<=nx/\((dt L (bs.take j)=[]/\e 14=.bq)∨∃p:Id,e 14=.own p 0 (dt L (bs.take j)).length/\gg p=some ⟨true,3,(dt L (bs.take j)).map aB⟩/\st_c.next<=p.cq/\p.cq<nx/\0<(dt L (bs.take j)).length)):=fun x1 x2 x3=>⟨_,by omega,j+1,rfl,by omega,(by rw[x1,aC (by omega)]),x2,x3⟩
  have jv:j<bs.length:=by omega
  have G5:(bs.map aB)[j]? =some (aB bs[j]):=by simp[jv]
  have L7:=hb _ (List.getElem_mem jv)
  have hs:=zS L (bs.take j) bs[j]
  rw[<-List.take_succ_eq_append_getElem jv]at hs
  generalize bs[j]=b at *
  have hA:=fq (f:=cj L) L7.1
  have hB:=fq (f:=cj L) L7.2
  have gz:(b.a:Int)<(cnt:Int):=by omega
  have fS:(b.b:Int)<(cnt:Int):=by omega
  rw[eN]at hA hB
  have e1:(dt L (bs.take j)).length+1<=16777216:=by omega
  have nA:((dt L (bs.take j)).map aB).length=(dt L (bs.take j)).length:=by simp
  by_cases he:cj L b.a=cj L b.b
  ·rw[if_pos he,List.append_nil]at hs
   have w7:decide ((cj L b.a:Int)=(cj L b.b:Int))=true:=decide_eq_true (by rw[he])
   (try((repeat(revert hN;revert N;apply Pn.out));refine wk (tw @f46 (tw @fg0 (tw @f1 (tw @f8 (tw @f9 (tw @f44 (tw @f45 (tw @hj (tw @G5 (tw @hA (tw @hB (tw @gz (tw @fS (tw @tl (tw @w7 (tw @Ix (tw @aB.eq_1 (tw @Bool.not_true @Bool.not_false)))))))))))))))))) ?_;(repeat(refine Pn.mk ?_;intro N hN))))
   refine rN ?_ ?_ (by(try dsimp only);exact⟨by omega,by
    rw[hs]
    rcases fO with⟨h1,h2⟩|⟨p,h1,h2,h3,h4,h5⟩
    ·exact .inl ⟨h1,sd @h2⟩
    ·have Ao:=dP h4
     exact .inr ⟨p,sd @h1,sd (tw @h2 @Ao),h3,by omega,h5⟩⟩)
   all_goals simp only[go_sem, ↓reduceIte,Nat.reduceEqDiff,Nat.reduceAdd,Nat.reduceSub,Nat.reduceLeDiff,reduceCtorEq,f46,fg0,f1,f8,f9,f44,f45,Ix]
  ·rw[if_neg he]at hs
   have w7:decide ((cj L b.a:Int)=(cj L b.b:Int))=false:=decide_eq_false fun h=>he (by omega)
   rcases fO with⟨h1,f14⟩|⟨p,f14,fg,NF,Mg,hp3⟩
   ·rw[h1]at hs
    (try((repeat(revert hN;revert N;apply Pn.out));refine wk (tw @f46 (tw @fg0 (tw @f1 (tw @f8 (tw @f9 (tw @f44 (tw @f45 (tw @f14 (tw @hj (tw @G5 (tw @hA (tw @hB (tw @gz (tw @fS (tw @tl (tw @w7 (tw @Ix (tw @aB.eq_1 (tw @Bool.not_true @Bool.not_false))))))))))))))))))) ?_;(repeat(refine Pn.mk ?_;intro N hN))))
    refine rN ?_ ?_ (by(try dsimp only);exact⟨by omega,.inr ⟨⟨221017015,st_f.next+1+1+1⟩,by rw[hs];simp only[go_sem, ↓reduceIte,Nat.reduceEqDiff,Nat.reduceAdd,Nat.reduceSub,Nat.reduceLeDiff,reduceCtorEq,List.nil_append,List.length_cons,List.length_nil],by rw[hs];simp only[go_sem, ↓reduceIte,Nat.reduceEqDiff,Nat.reduceAdd,Nat.reduceSub,Nat.reduceLeDiff,reduceCtorEq,aB,List.nil_append,List.map_cons,List.map_nil],by(try dsimp only);omega,by(try dsimp only);omega,by rw[hs];simp⟩⟩)
    all_goals simp only[go_sem, ↓reduceIte,Nat.reduceEqDiff,Nat.reduceAdd,Nat.reduceSub,Nat.reduceLeDiff,reduceCtorEq,f46,fg0,f1,f8,f9,f44,f45,Ix]
   ·have x1:=cZ (a:=⟨221002001,σ2.next+1⟩) (b:=p) (by(try dsimp only);omega)
    have Ao:=dP Mg
    (try((repeat(revert hN;revert N;apply Pn.out));refine wk (tw @f46 (tw @fg0 (tw @f1 (tw @f8 (tw @f9 (tw @f44 (tw @f45 (tw @f14 (tw @fg (tw @hj (tw @G5 (tw @hA (tw @hB (tw @gz (tw @fS (tw @tl (tw @w7 (tw @x1 (tw @Ao (tw @Ix (tw @e1 (tw @nA (tw @aB.eq_1 (tw @Bool.not_true @Bool.not_false)))))))))))))))))))))))) ?_;(repeat(refine Pn.mk ?_;intro N hN))))
    refine rN ?_ ?_ (by(try dsimp only);exact⟨by omega,.inr ⟨⟨221017015,st_f.next+1+1+1⟩,by rw[hs,List.length_append];simp only[go_sem, ↓reduceIte,Nat.reduceEqDiff,Nat.reduceAdd,Nat.reduceSub,Nat.reduceLeDiff,reduceCtorEq,List.length_cons,List.length_nil],by rw[hs,List.map_append,List.map_cons,List.map_nil];simp only[go_sem, ↓reduceIte,Nat.reduceEqDiff,Nat.reduceAdd,Nat.reduceSub,Nat.reduceLeDiff,reduceCtorEq,aB],by(try dsimp only);omega,by(try dsimp only);omega,by rw[hs];simp⟩⟩)
    all_goals simp only[go_sem, ↓reduceIte,Nat.reduceEqDiff,Nat.reduceAdd,Nat.reduceSub,Nat.reduceLeDiff,reduceCtorEq,f46,fg0,f1,f8,f9,f44,f45,x1,Ix]
 ·have gV:j=bs.length:=by omega
  subst gV
  rw[List.take_length]at fO
  rcases fO with⟨h1,f14⟩|⟨p,f14,fg,NF,Mg,hp3⟩
  ·(try((repeat(revert hN;revert N;apply Pn.out));refine wk (tw @f46 (tw @fg0 (tw @f1 (tw @f8 (tw @f9 (tw @f44 (tw @f45 (tw @f14 (tw @hj @sJ))))))))) ?_;(repeat(refine Pn.mk ?_;intro N hN))))
   refine js (.inl rfl) (r1:=.int .i64 ((leads cnt L).length:Int)) (sd @Nat.zero_add) (by simp only[go_sem, ↓reduceIte,Nat.reduceEqDiff,Nat.reduceAdd,Nat.reduceSub,Nat.reduceLeDiff,reduceCtorEq];rfl) ?_
   simp only[eM,bJ,cD,eA,jj,h1,LD,Option.map_some]
  ·(try((repeat(revert hN;revert N;apply Pn.out));refine wk (tw @f46 (tw @fg0 (tw @f1 (tw @f8 (tw @f9 (tw @f44 (tw @f45 (tw @f14 (tw @hj @sJ))))))))) ?_;(repeat(refine Pn.mk ?_;intro N hN))))
   refine js (.inl rfl) (r1:=.int .i64 ((leads cnt L).length:Int)) (sd @Nat.zero_add) (by simp only[go_sem, ↓reduceIte,Nat.reduceEqDiff,Nat.reduceAdd,Nat.reduceSub,Nat.reduceLeDiff,reduceCtorEq];rfl) ?_
   have h1:gn st_f.get 5 (.own p 0 (dt L bs).length)=some (.sl ((dt L bs).map aB)):=fG (sz:=3) fg rfl fun b=>uo _ 3 b
   simp only[eM,bJ,cD,eA,h1,zW hp3,Option.map_some]
theorem xl (cnt:Nat) (vM:1<=cnt) (hn:cnt<=1048576) (t:Int):au Tryz.prog 221 [.int .i64 cnt,.bq,.int .i64 t] (.iO [.int .i64 cnt,.bq]):=by
 refine au.body eG rfl fun hl n0=>?_
 clear hl
 have h1:au Tryz.prog 242 [.bq] .bq:=by
  refine au.body eG rfl fun hl n0=>?_
  clear hl
  (try((repeat(revert hN;revert N;apply Pn.out));refine wk @Nat.zero_add ?_;(repeat(refine Pn.mk ?_;intro N hN))))
  exact wz (.inl rfl) (r0:=.bq) (sd @Nat.zero_add) (jj _ _)
 have h2:au Tryz.prog 241 [.bq,.fn 243 [.di [.int .i64 t]]] .bq:=by
  have FR:=(yk [] t (by simp)).cut mixed (.bq (.same _ .nil))
  refine au.body eG rfl fun hl n0=>?_
  clear hl
  (try((repeat(revert hN;revert N;apply Pn.out));refine wk @Nat.zero_add ?_;(repeat(refine Pn.mk ?_;intro N hN))))
  refine .inl ⟨_,au.x FR (by simp only[aj,ar,aT,cJ,aU,List.all_cons,List.all_nil,AV.cell,Bool.and_true,if_true,Option.map_some]),?_⟩
  refine hN _ _ ?_
  clear hN N
  have hd:decide (kb (fun b:PB=>decide (b.s<t)) []= -1)=true:=rfl
  (try((repeat(revert hN;revert N;apply Pn.out));refine wk @hd ?_;(repeat(refine Pn.mk ?_;intro N hN))))
  exact wz (.inl rfl) (r0:=.bq) (sd @Nat.zero_add) (jj _ _)
 have G6:=(vD cnt vM hn [] (fun b h=>by cases h) (by simp)).cut mixed (.same _ (.bq .nil))
 (repeat(first|((repeat(revert hN;revert N;apply Pn.out));refine wk @Nat.zero_add ?_;(repeat(refine Pn.mk ?_;intro N hN)))|((try apply Or.inl);refine⟨_,au.x (h1) (sd @Nat.zero_add),?_⟩;refine hN _ _ ?_;clear hN N)))
 refine .inl ⟨_,au.x h2 ?_,?_⟩
 ·have:V.fz (dK (bK (fun _=>none) ⟨221000000,n0⟩ ⟨true,1,[[.int .i64 t]]⟩)) 5 (.ptr ⟨221000000,n0⟩ 0 0)=some (.di [.int .i64 t]):=zg (sz:=1) (rows:=[[.int .i64 t]]) (by simp[dK,bK]) rfl (by simp only[List.drop_zero,aj,ar,aH,Option.map_some])
  simp only[aj,ar,aT,cJ,this,List.all_cons,List.all_nil,AV.cell,Bool.and_true,if_true,Option.map_some]
 refine hN _ _ ?_
 clear hN N
 have fS:eD ([]:List PB)=id:=rfl
 rw[fS]at G6
 have hL:jC id:=fS▸tF ([]:List PB)
 have OU:(leads cnt id).length=cnt:=by rw[leads,List.filter_eq_self.2 (fun a _=>by simp)];simp
 generalize (id:Nat->Nat)=L at *
 have sJ:((fv cnt L).map Aj).length=(leads cnt L).length:=by simp[fv]
 have RB:=jL cnt L
 have jF:(0:Int)<=(cnt:Int):=by omega
 have mK:(cnt:Int)<=((16777216:Nat):Int):=by omega
 have gC:List.replicate cnt [AV.int .i64 0]=dH (dh cnt L 0 0) cnt:=by rw[wR,oL]
 (repeat(first|((repeat(revert hN;revert N;apply Pn.out));refine wk (tw @jF (tw @mK (tw @Int.le_refl (tw @sJ @gC)))) ?_;(repeat(refine Pn.mk ?_;intro N hN)))|((try apply Or.inl);refine⟨_,au.x (G6) (sd (tw @jF (tw @mK (tw @Int.le_refl (tw @sJ @gC))))),?_⟩;refine hN _ _ ?_;clear hN N)))
 refine bh (fun n env st=>∃i:Nat,n=((leads cnt L).length)-i/\i<=((leads cnt L).length)/\env 27=.int .i64 (i:Int)/\st.get ⟨221002001,n0+1+1⟩=some ⟨true,1,dH (dh cnt L i 0) cnt⟩/\(n0+1+1<st.next)) ((leads cnt L).length) ⟨0,by omega,by omega,sl (tw @gC @sJ),sl (tw @gC @sJ),(by(try dsimp only);omega)⟩ ?_
 rintro n_c env_c st_c ⟨i,rfl,cle,c27,cg0,cI0⟩ cfr
 have c1:=cfr 1 (by kernel_rfl);have c8:=cfr 8 (by kernel_rfl);have c9:=cfr 9 (by kernel_rfl);have xi:=cfr 25 (by kernel_rfl);have xj:=cfr 26 (by kernel_rfl)
 simp only[go_sem, ↓reduceIte,Nat.reduceEqDiff,Nat.reduceAdd,Nat.reduceSub,Nat.reduceLeDiff,reduceCtorEq,gC,sJ]at c1 c8 c9 xi xj
 clear cfr
 by_cases hi:(i:Int)<((leads cnt L).length:Int)
 ·have gW:∀{e:Env} {gg:Rows} {nx:Nat},(e 27=.int .i64 (IntKind.i64.wrap ((i:Int)+1)))->(gg ⟨221002001,n0+1+1⟩=some ⟨true,1,dH (dh cnt L (i+1) 0) cnt⟩)->(n0+1+1<nx)->∃m0,m0<((leads cnt L).length)-i/\∃i:Nat,m0=((leads cnt L).length)-i/\i<=((leads cnt L).length)/\e 27=.int .i64 (i:Int)/\gg ⟨221002001,n0+1+1⟩=some ⟨true,1,dH (dh cnt L i 0) cnt⟩/\(n0+1+1<nx):=fun x1 x2 x3=>⟨_,by omega,i+1,rfl,by omega,(by rw[x1,aC (by omega)]),x2,x3⟩
  have fB:i<(leads cnt L).length:=by omega
  have k9:((fv cnt L).map Aj)[i]? =some (Aj (members cnt L (leads cnt L)[i])):=by simp[fv,fB]
  have tu:(leads cnt L).getD i 0=(leads cnt L)[i]:=by simp[List.getD_eq_getElem?_getD,fB]
  have k5:∀m,dh cnt L i m=fun x=>if cj L x<i then cj L x else if x∈(members cnt L (leads cnt L)[i]).take m then i else 0:=fun m=>by unfold dh;rw[tu]
  have rn:=fun x (hx:x<cnt)=>sR hL (n:=cnt) (k:=x) (i:=i) hx fB
  have mm:(members cnt L (leads cnt L)[i]).Nodup:=List.nodup_range.filter _
  have NA:∀x∈members cnt L (leads cnt L)[i],x<cnt:=fun x hx=>(ly.1 hx).1
  have hMc:(members cnt L (leads cnt L)[i]).length<=cnt:=by
   have:=List.length_filter_le (fun k=>L k==(leads cnt L)[i]) (List.range cnt)
   simpa[members]using this
  generalize members cnt L (leads cnt L)[i]=M at *
  have Cp:(M.map eN).length=M.length:=by simp
  (try((repeat(revert hN;revert N;apply Pn.out));refine wk (tw @c27 (tw @cg0 (tw @c1 (tw @c8 (tw @c9 (tw @xi (tw @xj (tw @hi (tw @sJ (tw @k9 (tw @Aj.eq_1 @Cp))))))))))) ?_;(repeat(refine Pn.mk ?_;intro N hN))))
  refine bh (fun n env st=>∃m:Nat,n=(M.length)-m/\m<=(M.length)/\env 34=.int .i64 (m:Int)/\st.get ⟨221002001,n0+1+1⟩=some ⟨true,1,dH (dh cnt L i m) cnt⟩/\(n0+1+1<st.next)) (M.length) ⟨0,by omega,by omega,sl (tw @c27 (tw @cg0 (tw @c1 (tw @c8 (tw @c9 (tw @xi (tw @xj @Cp))))))),sl (tw @c27 (tw @cg0 (tw @c1 (tw @c8 (tw @c9 (tw @xi (tw @xj @Cp))))))),(by(try dsimp only);omega)⟩ ?_
  rintro n_d env_d st_d ⟨m,rfl,dle,d34,dg0,dI0⟩ dfr
  have d1:=dfr 1 (by kernel_rfl);have d8:=dfr 8 (by kernel_rfl);have d9:=dfr 9 (by kernel_rfl);have d10:=dfr 10 (by kernel_rfl);have d25:=dfr 25 (by kernel_rfl);have d26:=dfr 26 (by kernel_rfl);have d27:=dfr 27 (by kernel_rfl);have d32:=dfr 32 (by kernel_rfl);have d33:=dfr 33 (by kernel_rfl)
  simp only[go_sem, ↓reduceIte,Nat.reduceEqDiff,Nat.reduceAdd,Nat.reduceSub,Nat.reduceLeDiff,reduceCtorEq,c27,cg0,c1,c8,c9,xi,xj,Cp]at d1 d8 d9 d10 d25 d26 d27 d32 d33
  clear dfr
  have tl:=ga (dh cnt L i m) cnt
  by_cases hm:(m:Int)<(M.length:Int)
  ·have tJ:∀{e:Env} {gg:Rows} {nx:Nat},(e 34=.int .i64 (IntKind.i64.wrap ((m:Int)+1)))->(gg ⟨221002001,n0+1+1⟩=some ⟨true,1,dH (dh cnt L i (m+1)) cnt⟩)->(n0+1+1<nx)->∃m0,m0<(M.length)-m/\∃m:Nat,m0=(M.length)-m/\m<=(M.length)/\e 34=.int .i64 (m:Int)/\gg ⟨221002001,n0+1+1⟩=some ⟨true,1,dH (dh cnt L i m) cnt⟩/\(n0+1+1<nx):=fun x1 x2 x3=>⟨_,by omega,m+1,rfl,by omega,(by rw[x1,aC (by omega)]),x2,x3⟩
   have zr:m<M.length:=by omega
   have vH:(M.map eN)[m]? =some (eN M[m]):=by simp[zr]
   have vO:=NA _ (List.getElem_mem zr)
   have Ct:(M[m]:Int)<(cnt:Int):=by omega
   have Cs:=fq (f:=dh cnt L i m) vO
   have eP:(dH (dh cnt L i m) cnt).set M[m] (eN i)=dH (dh cnt L i (m+1)) cnt:=pz vO (by
    have h1:=(rn _ vO).1 (List.getElem_mem zr)
    rw[k5]
    simp only[]
    rw[if_neg (by omega),if_pos (by rw[List.take_succ_eq_append_getElem zr];exact List.mem_append_right _ (List.mem_singleton.2 rfl))]) fun x hx gM=>by
    rw[k5,k5]
    simp only[]
    rw[List.take_succ_eq_append_getElem zr]
    simp only[List.mem_append,List.mem_singleton,gM,or_false]
   rw[eN]at eP Cs
   generalize M[m]=xm at *
   (try((repeat(revert hN;revert N;apply Pn.out));refine wk (tw @d34 (tw @dg0 (tw @d1 (tw @d8 (tw @d9 (tw @d10 (tw @d25 (tw @d26 (tw @d27 (tw @d32 (tw @d33 (tw @hm (tw @hi (tw @vH (tw @Cp (tw @Ct (tw @Cs (tw @tl (tw @eP @eN.eq_1))))))))))))))))))) ?_;(repeat(refine Pn.mk ?_;intro N hN))))
   refine tJ ?_ ?_ (by(try dsimp only);omega)
   all_goals simp only[go_sem, ↓reduceIte,Nat.reduceEqDiff,Nat.reduceAdd,Nat.reduceSub,Nat.reduceLeDiff,reduceCtorEq,d34,dg0,d1,d8,d9,d10,d25,d26,d27,d32,d33,eP]
  ·have nA:m=M.length:=by omega
   subst nA
   have pd:dH (dh cnt L i M.length) cnt=dH (dh cnt L (i+1) 0) cnt:=gS fun x hx=>by
    rw[k5,List.take_length]
    simp only[dh,List.take_zero,List.not_mem_nil,if_false]
    have h1:=rn x hx
    by_cases h2:cj L x<i
    ·rw[if_pos h2,if_pos (by omega)]
    ·rw[if_neg h2]
     by_cases h3:x∈M
     ·rw[if_pos h3,if_pos (by have:=h1.1 h3;omega),h1.1 h3]
     ·rw[if_neg h3,if_neg fun h4=>h3 (h1.2 (by omega))]
   (try((repeat(revert hN;revert N;apply Pn.out));refine wk (tw @d34 (tw @dg0 (tw @d1 (tw @d8 (tw @d9 (tw @d10 (tw @d25 (tw @d26 (tw @d27 (tw @d32 (tw @d33 (tw @hm (tw @hi (tw @sJ @Cp)))))))))))))) ?_;(repeat(refine Pn.mk ?_;intro N hN))))
   refine gW ?_ ?_ (by(try dsimp only);omega)
   all_goals simp only[go_sem, ↓reduceIte,Nat.reduceEqDiff,Nat.reduceAdd,Nat.reduceSub,Nat.reduceLeDiff,reduceCtorEq,c27,cg0,c1,c8,c9,xi,xj,d34,dg0,d1,d8,d9,d10,d25,d26,d27,d32,d33,pd]
 have nI:i=(leads cnt L).length:=by omega
 subst nI
 have xb:dH (dh cnt L (leads cnt L).length 0) cnt=dH (cj L) cnt:=gS fun x hx=>by rw[dh,if_pos (jY hL hx)]
 rw[xb]at cg0
 have tl:=ga (cj L) cnt
 (try((repeat(revert hN;revert N;apply Pn.out));refine wk (tw @c27 (tw @cg0 (tw @c1 (tw @c8 (tw @c9 (tw @xi (tw @xj (tw @hi @sJ)))))))) ?_;(repeat(refine Pn.mk ?_;intro N hN))))
 refine bh (fun n env st=>∃j:Nat,n=(0)-j/\j<=(0)/\env 46=.int .i64 (j:Int)/\env 14=.bq) (0) ⟨0,by omega,by omega,sl (tw @c27 (tw @cg0 (tw @c1 (tw @c8 (tw @c9 (tw @xi @xj)))))),sl (tw @c27 (tw @cg0 (tw @c1 (tw @c8 (tw @c9 (tw @xi @xj))))))⟩ ?_
 rintro n_f env_f st_f ⟨j,rfl,fle,f46,f14⟩ ffr
 have f8:=ffr 8 (by kernel_rfl);have f44:=ffr 44 (by kernel_rfl);have f45:=ffr 45 (by kernel_rfl)
 simp only[go_sem, ↓reduceIte,Nat.reduceEqDiff,Nat.reduceAdd,Nat.reduceSub,Nat.reduceLeDiff,reduceCtorEq,c27,cg0,c1,c8,c9,xi,xj]at f8 f44 f45
 clear ffr
 have hj:¬(j:Int)<((0:Nat):Int):=by omega
 (try((repeat(revert hN;revert N;apply Pn.out));refine wk (tw @f46 (tw @f14 (tw @f8 (tw @f44 (tw @f45 (tw @hj @sJ)))))) ?_;(repeat(refine Pn.mk ?_;intro N hN))))
 refine js (.inl rfl) (r1:=.int .i64 ((leads cnt L).length:Int)) (r2:=.bq) (sd @Nat.zero_add) (sd @Nat.zero_add) ?_
 simp only[eM,bJ,cD,eA,jj,OU,Option.map_some]
theorem y9 (cnt:Nat) (vM:1<=cnt) (hn:cnt<=1048576) (bs:List PB) (hb:∀b∈bs,b.a<cnt/\b.b<cnt) (qq:bs.length<=1048576) (t:Int):au Tryz.prog 221 [.int .i64 cnt,zV bs,.int .i64 t] (.iO [.int .i64 (leads cnt (eD (aQ t bs))).length,zV (dt (eD (aQ t bs)) bs)]):=by
 cases bs with
 |nil=>
  have h:=xl cnt vM hn t
  have OU:(leads cnt (eD (aQ t []))).length=cnt:=by
   show(leads cnt id).length=cnt
   rw[leads,List.filter_eq_self.2 (fun a _=>by simp)];simp
  rw[OU]
  exact h
 |cons b r=>
  rw[zW (by simp)]
  exact xn cnt vM hn (b::r) hb (by simp) qq t
end Go.Proofs.YtgoelphibofcmaaGreat.V

namespace Go.Proofs.YtgoelphibofcmaaGreat.V
open Go.RowKit
attribute [local irreducible] eh wpOps fI Call
attribute [local go_sem] aM fj eJ fF fE da upd cu K.av cI AV.cells AV.cell rowOf rowsOf part ld rowAt bK bV dq dM gy bD cY dY fA eS dk dR cW cV dD dE bG bc cL bF cP cN dO dS dQ cK bL cX dN bE aO cR cz gx bm cH bH aY dp bl dr AV.undef bt bz dF dL dy dC cF dX eb cw dV dU cQ cU List.getD_cons_zero List.getD_cons_succ List.getD_nil List.all_cons List.all_nil Bool.and_true Bool.true_and Bool.and_self Bool.not_true Bool.not_false Option.map_some Option.map_none Option.bind_some Option.bind_none List.length_cons List.length_nil List.take_succ_cons List.take_zero List.take_nil List.drop_succ_cons List.drop_zero List.drop_nil List.head?_cons List.map_cons List.map_nil List.getElem?_cons_zero List.getElem?_cons_succ List.cons_append List.nil_append List.append_nil List.length_map List.set_cons_zero List.set_cons_succ Nat.reduceMul eq_self Int.toNat_natCast Int.natCast_nonneg and_self true_and and_true decide_true decide_false Bool.false_eq_true Nat.zero_add Nat.add_zero List.contains_cons List.contains_nil Bool.or_false Bool.false_or beq_self_eq_true Nat.reduceBEq ne_eq not_true_eq_false not_false_eq_true Id.mk.injEq false_and and_false Nat.reduceLT Int.reduceLE Int.reduceLT Int.reduceToNat Int.reduceNeg Int.reduceAdd Nat.le_refl List.length_append beq_true beq_false Bool.not_eq_eq_eq_not or_false false_or dK aj ar aH bd br bW aT aZ aU bf cJ bw
attribute [local go_sem] Fb
section
attribute [-go_sem] dq
theorem Lj (n:Nat) (hn:n<=1048576):au Tryz.prog 277 [.int .u64 1,.int .u64 n] (.iO [.int .u64 0,.int .u64 n]):=by
 refine au.body eG rfl fun hl n0=>?_
 clear hl
 have b1:(BitVec.ofInt 64 (n:Int)&&& BitVec.ofInt 64 4294967295).toNat=n:=by
  rw[BitVec.toNat_and]
  have e1:(BitVec.ofInt 64 (n:Int)).toNat=n:=by rw[BitVec.toNat_ofInt];omega
  have e2:(BitVec.ofInt 64 4294967295).toNat=2 ^ 32-1:=by decide
  rw[e1,e2]
  exact Nat.and_two_pow_sub_one_of_lt_two_pow (by omega)
 have zn:IntKind.u64.wrap (n:Int)=n:=by rw[IntKind.wrap_u64];omega
 have i1:dq .and .u64 (n:Int) 4294967295=some (.int .u64 n):=by
  show some (AV.int .u64 (IntKind.u64.wrap (((BitVec.ofInt 64 (n:Int)&&& BitVec.ofInt 64 4294967295).toNat:Nat):Int)))= _
  rw[b1,zn]
 have i2:dq .and .u64 1 4294967295=some (.int .u64 1):=rfl
 have i3:dq .and .u64 0 4294967295=some (.int .u64 0):=rfl
 have i4:dq .mul .u64 1 (n:Int)=some (.int .u64 n):=by simp only[dq,Int.one_mul,zn]
 have i5:dq .mul .u64 0 (n:Int)=some (.int .u64 0):=by simp only[dq,Int.zero_mul];rfl
 have i6:dq .mul .u64 1 0=some (.int .u64 0):=rfl
 have i7:dq .mul .u64 0 0=some (.int .u64 0):=rfl
 have i8:dq .add .u64 0 0=some (.int .u64 0):=rfl
 have a3:Int.fdiv 1 (2 ^ min 32 64)=0:=by decide
 have a4:Int.fdiv (n:Int) (2 ^ min 32 64)=0:=by
  rw[Int.fdiv_eq_ediv_of_nonneg _ (by decide)]
  have h32:(2:Int) ^ min 32 64=4294967296:=by decide
  exact Int.ediv_eq_zero_of_lt (by omega) (by omega)
 have z1:Int.fdiv 0 (2 ^ min 32 64)=0:=by decide
 (try((repeat(revert hN;revert N;apply Pn.out));refine wk (tw @i1 (tw @i2 (tw @i3 (tw @i4 (tw @i5 (tw @i6 (tw @i7 (tw @i8 (tw @a3 (tw @a4 @z1)))))))))) ?_;(repeat(refine Pn.mk ?_;intro N hN))))
 refine js (.inl rfl) (r1:=.int .u64 0) (r2:=.int .u64 n) (sd @Nat.zero_add) (sd @Nat.zero_add) ?_
 simp only[eM,bJ,cD,eA,Option.map_some]
end
theorem QI (n:Nat) (hn:n<=1048576):au Tryz.prog 275 [.int .u64 1,.int .u64 n] (.iO [.int .u64 0,.int .u64 n]):=by
 refine au.body eG rfl fun hl n0=>?_
 clear hl
 have h:=Lj n hn
 (repeat(first|((repeat(revert hN;revert N;apply Pn.out));refine wk @Nat.zero_add ?_;(repeat(refine Pn.mk ?_;intro N hN)))|((try apply Or.inl);refine⟨_,au.x (h) (sd @Nat.zero_add),?_⟩;refine hN _ _ ?_;clear hN N)))
 refine js (.inl rfl) (r1:=.int .u64 0) (r2:=.int .u64 n) (sd @Nat.zero_add) (sd @Nat.zero_add) ?_
 simp only[eM,bJ,cD,eA,Option.map_some]
theorem Jc (cnt:Nat) (vM:1<=cnt) (hn:cnt<=1048576) (v:Int) (x:Id) (σ:aw) (hx:σ.get x=some ⟨true,1,[[.int .i64 v]]⟩) (TL:x.cq<σ.next):
  Call Tryz.prog 271 [.own x 0 1,.int .i64 cnt] σ fun r σ'=>∃o:Id,r=.own o 0 cnt/\σ'.get o=some ⟨true,1,List.replicate cnt [.int .i64 v]⟩/\σ.next<=o.cq/\o.cq<σ'.next/\∀i:Id,i.cq<σ.next->σ'.get i=σ.get i:=by
 refine fc eG rfl fun hl=>?_
 clear hl
 have h:=QI cnt hn
 have w1:IntKind.u64.wrap (cnt:Int)=cnt:=by rw[IntKind.wrap_u64];omega
 have w2:IntKind.i64.wrap (cnt:Int)=cnt:=JM (by omega)
 have w0:IntKind.u64.wrap ((1:Nat):Int)=1:=by decide
 have g1:¬(cnt:Int)<0:=by omega
 have g2:¬(9223372036854775807:Int)<cnt:=by omega
 have jF:(0:Int)<=(cnt:Int):=by omega
 have mK:(cnt:Int)<=((16777216:Nat):Int):=by omega
 have O6:=dP TL
 have se:(List.replicate cnt [AV.int .i64 0]).length=cnt:=List.length_replicate
 have m1:min 1 cnt=1:=by omega
 (repeat(first|((repeat(revert hN;revert N;apply Pn.out));refine wk (tw @w0 (tw @w1 (tw @w2 (tw @g1 (tw @g2 (tw @jF (tw @mK (tw @Int.le_refl (tw @Nat.le_refl (tw @hx (tw @O6 (tw @se @m1)))))))))))) ?_;(repeat(refine Pn.mk ?_;intro N hN)))|((try apply Or.inl);refine⟨_,au.x (h) (sd (tw @w0 (tw @w1 (tw @w2 (tw @g1 (tw @g2 (tw @jF (tw @mK (tw @Int.le_refl (tw @Nat.le_refl (tw @hx (tw @O6 (tw @se @m1))))))))))))),?_⟩;refine hN _ _ ?_;clear hN N)))
 refine bh (fun m env st=>∃k:Nat,m=cnt-k/\1<=k/\k<=cnt/\env 8=.int .i64 (k:Int)/\st.get ⟨271006002,σ.next+1+1+1+1⟩=some ⟨true,1,List.replicate k [.int .i64 v]++List.replicate (cnt-k) [.int .i64 0]⟩/\σ.next+4<st.next/\∀i:Id,i.cq<σ.next->st.get i=σ.get i) (cnt-1) ⟨1,rfl,Nat.le_refl _,vM,by(simp only[go_sem, ↓reduceIte,Nat.reduceEqDiff,Nat.reduceAdd,Nat.reduceSub,Nat.reduceLeDiff,reduceCtorEq,m1])<;>rfl,?_,by(try dsimp only);omega,fun i hi=>?_⟩ ?_
 ·simp only[go_sem, ↓reduceIte,Nat.reduceEqDiff,Nat.reduceAdd,Nat.reduceSub,Nat.reduceLeDiff,reduceCtorEq]
  rw[List.drop_replicate];rfl
 ·have Dg:=dP hi
  simp only[go_sem, ↓reduceIte,Nat.reduceEqDiff,Nat.reduceAdd,Nat.reduceSub,Nat.reduceLeDiff,reduceCtorEq,Dg]
 rintro m env_b st_b ⟨k,rfl,vI,vJ,b8,bg,bn,gQ⟩ bkp
 have b7:=bkp 7 (by kernel_rfl)
 simp only[go_sem, ↓reduceIte,Nat.reduceEqDiff,Nat.reduceAdd,Nat.reduceSub,Nat.reduceLeDiff,reduceCtorEq]at b7
 clear bkp
 have Qm:(List.replicate k [AV.int .i64 v]++List.replicate (cnt-k) [AV.int .i64 0]).length=cnt:=by simp;omega
 by_cases hk:(k:Int)<(cnt:Int)
 ·have fw:k<cnt:=by omega
  have w8:(k:Int)<=(cnt:Int):=by omega
  have hw:IntKind.i64.wrap ((k:Int)+((min k (cnt-k):Nat):Int))=((k+min k (cnt-k):Nat):Int):=by rw[bQ (by omega)];omega
  have nK:List.take k (List.replicate k [AV.int .i64 v]++List.replicate (cnt-k) [AV.int .i64 0])=List.replicate k [AV.int .i64 v]:=List.take_left' (by simp)
  have ef:(List.replicate k [AV.int .i64 v]).all (fun c=>c.length==1&&c.all AV.cell)=true:=List.all_eq_true.2 fun c hc=>by rw[List.eq_of_mem_replicate hc];rfl
  have hlr:(List.replicate k [AV.int .i64 v]).length=k:=List.length_replicate
  have NN:k+(cnt-k)=cnt:=by omega
  have zt:List.replicate k [AV.int .i64 v]++List.take (min k (cnt-k)) (List.replicate k [AV.int .i64 v])++List.drop (k+min k (cnt-k)) (List.replicate k [AV.int .i64 v]++List.replicate (cnt-k) [AV.int .i64 0])=List.replicate (k+min k (cnt-k)) [AV.int .i64 v]++List.replicate (cnt-(k+min k (cnt-k))) [AV.int .i64 0]:=by
   rw[List.take_replicate,List.drop_append,List.drop_of_length_le (by simp),List.nil_append,hlr,List.drop_replicate,List.replicate_append_replicate]
   congr 2
   ·omega
   ·omega
  (try((repeat(revert hN;revert N;apply Pn.out));refine wk (tw @b7 (tw @b8 (tw @bg (tw @Qm (tw @hk (tw @w8 (tw @vJ (tw @hw (tw @fw (tw @Nat.sub_zero (tw @nK (tw @ef (tw @hlr (tw @NN (tw @Nat.le_refl @zt))))))))))))))) ?_;(repeat(refine Pn.mk ?_;intro N hN))))
  refine⟨_,?_,k+min k (cnt-k),rfl,by omega,by omega,sd @hw,sd @zt,by(try dsimp only);omega,fun i hi=>?_⟩
  ·omega
  ·have Dg:=dP hi
   have:=gQ i hi
   simp only[go_sem, ↓reduceIte,Nat.reduceEqDiff,Nat.reduceAdd,Nat.reduceSub,Nat.reduceLeDiff,reduceCtorEq,Dg,this]
 ·have lO:k=cnt:=by omega
  subst lO
  (try((repeat(revert hN;revert N;apply Pn.out));refine wk (tw @b7 (tw @b8 (tw @bg (tw @Qm @hk)))) ?_;(repeat(refine Pn.mk ?_;intro N hN))))
  refine eV (.inl rfl) (vs:=[.own ⟨271006002,σ.next+1+1+1+1⟩ 0 k]) (sd @Nat.zero_add) ⟨⟨271006002,σ.next+1+1+1+1⟩,rfl,by simp only[go_sem, ↓reduceIte,Nat.reduceEqDiff,Nat.reduceAdd,Nat.reduceSub,Nat.reduceLeDiff,reduceCtorEq,bg];simp,by(try dsimp only);omega,by(try dsimp only);omega,fun i hi=>gQ i hi⟩
end Go.Proofs.YtgoelphibofcmaaGreat.V

namespace Go.Proofs.YtgoelphibofcmaaGreat.V
open Go.RowKit
attribute [local irreducible] eh wpOps fI Call
attribute [local go_sem] aM fj eJ fF fE da upd cu K.av cI AV.cells AV.cell rowOf rowsOf part ld rowAt bK bV dq dM gy bD cY dY fA eS dk dR cW cV dD dE bG bc cL bF cP cN dO dS dQ cK bL cX dN bE aO cR cz gx bm cH bH aY dp bl dr AV.undef bt bz dF dL dy dC cF dX eb cw dV dU cQ cU List.getD_cons_zero List.getD_cons_succ List.getD_nil List.all_cons List.all_nil Bool.and_true Bool.true_and Bool.and_self Bool.not_true Bool.not_false Option.map_some Option.map_none Option.bind_some Option.bind_none List.length_cons List.length_nil List.take_succ_cons List.take_zero List.take_nil List.drop_succ_cons List.drop_zero List.drop_nil List.head?_cons List.map_cons List.map_nil List.getElem?_cons_zero List.getElem?_cons_succ List.cons_append List.nil_append List.append_nil List.length_map List.set_cons_zero List.set_cons_succ Nat.reduceMul eq_self Int.toNat_natCast Int.natCast_nonneg and_self true_and and_true decide_true decide_false Bool.false_eq_true Nat.zero_add Nat.add_zero List.contains_cons List.contains_nil Bool.or_false Bool.false_or beq_self_eq_true Nat.reduceBEq ne_eq not_true_eq_false not_false_eq_true Id.mk.injEq false_and and_false Nat.reduceLT Int.reduceLE Int.reduceLT Int.reduceToNat Int.reduceNeg Int.reduceAdd Nat.le_refl List.length_append beq_true beq_false Bool.not_eq_eq_eq_not or_false false_or dK aj ar aH bd br bW aT aZ aU bf cJ bw
def kV (R:Nat->Id) (n k:Nat):List (List AV):=(List.range k).map fun i=>[.own (R i) 0 n]
theorem j4 (R:Nat->Id) (n k:Nat):(kV R n k).length=k:=by simp[kV]
theorem rY {R:Nat->Id} {n k i:Nat} (h:i<k):(kV R n k)[i]? =some [.own (R i) 0 n]:=by simp[kV,h]
theorem s8 (R:Nat->Id) (n k:Nat):kV R n (k+1)=kV R n k++[[.own (R k) 0 n]]:=by simp[kV,List.range_succ]
def xH (c:Nat->Nat->Int) (n:Nat):List (List AV):=(List.range n).map fun i=>[.sl (ek (c i) n)]
theorem B9 {c:Nat->Nat->Int} {n i:Nat} (h:i<n):(xH c n)[i]? =some [.sl (ek (c i) n)]:=by simp[xH,h]
theorem wQ (c:Nat->Nat->Int) (n:Nat):(xH c n).length=n:=by simp[xH]
structure Fj (X o1 o2:Id) (R1 R2:Nat->Id) (n nb:Nat):Prop where
 sx:X.site=245001001
 s1:o1.site=245004008
 s2:o2.site=245005008
 RX:∀i,i<n->(R1 i).site=245004006
 Mu:∀i,i<n->(R2 i).site=245005006
 i1:∀i j,i<n->j<n->R1 i=R1 j->i=j
 i2:∀i j,i<n->j<n->R2 i=R2 j->i=j
 vx:X.cq<nb
 v1:o1.cq<nb
 v2:o2.cq<nb
 RZ:∀i,i<n->(R1 i).cq<nb
 Pd:∀i,i<n->(R2 i).cq<nb
structure nD (g:Rows) (X o1 o2:Id) (R1 R2:Nat->Id) (n:Nat) (c f:Nat->Nat->Int):Prop where
 x:g X=some ⟨true,2,[[.own o1 0 n,.own o2 0 n]]⟩
 t1:g o1=some ⟨true,1,kV R1 n n⟩
 t2:g o2=some ⟨true,1,kV R2 n n⟩
 r1:∀i,i<n->g (R1 i)=some ⟨true,1,ek (c i) n⟩
 r2:∀i,i<n->g (R2 i)=some ⟨true,1,ek (f i) n⟩
theorem nD.frame {g g':Rows} {X o1 o2:Id} {R1 R2:Nat->Id} {n nb:Nat} {c f:Nat->Nat->Int} (I:Fj X o1 o2 R1 R2 n nb) (h:nD g X o1 o2 R1 R2 n c f) (hf:∀i:Id,i.cq<nb->g' i=g i):nD g' X o1 o2 R1 R2 n c f:=
 ⟨(hf _ I.vx).trans h.x,(hf _ I.v1).trans h.t1,(hf _ I.v2).trans h.t2,fun i hi=>(hf _ (I.RZ i hi)).trans (h.r1 i hi),fun i hi=>(hf _ (I.Pd i hi)).trans (h.r2 i hi)⟩
theorem ou {f:Nat->Nat->Int} {a b:Nat} {d:Int} {n:Nat} (hb:b<n):(ek (f a) n).set b (bu (f a b+d))=ek (bump f a b d a) n:=kX hb (by simp[bump]) fun i _ hi=>by simp[bump,hi]
theorem jU {f:Nat->Nat->Int} {a b i:Nat} {d:Int} (h:i≠a):bump f a b d i=f i:=by funext v;simp[bump,h]
theorem nD.add {g g':Rows} {X o1 o2:Id} {R1 R2:Nat->Id} {n nb:Nat} {c f:Nat->Nat->Int} (I:Fj X o1 o2 R1 R2 n nb) (h:nD g X o1 o2 R1 R2 n c f) (b:PB) (ha:b.a<n) (hb:b.b<n) (hA:b.a≠b.b->g' (R1 b.a)=some ⟨true,1,ek (bump c b.a b.b b.s b.a) n⟩) (hB:g' (R1 b.b)=some ⟨true,1,ek (nE c b b.b) n⟩) (hf:∀i:Id,i.cq<nb->(i=R1 b.a)=False->(i=R1 b.b)=False->g' i=g i):nD g' X o1 o2 R1 R2 n (nE c b) f:=by
 have ne:∀{i:Id} {s:Nat},i.site=s->(s==245004006)=false->∀a,a<n->(i=R1 a)=False:=fun {i s} hi hs a ha=>by
  simp only[eq_iff_iff,iff_false]
  rintro rfl
  rw[I.RX a ha]at hi
  subst hi
  simp at hs
 refine⟨(hf _ I.vx (ne I.sx (by decide) _ ha) (ne I.sx (by decide) _ hb)).trans h.x,(hf _ I.v1 (ne I.s1 (by decide) _ ha) (ne I.s1 (by decide) _ hb)).trans h.t1,(hf _ I.v2 (ne I.s2 (by decide) _ ha) (ne I.s2 (by decide) _ hb)).trans h.t2,fun i hi=>?_,fun i hi=>(hf _ (I.Pd i hi) (ne (I.Mu i hi) (by decide) _ ha) (ne (I.Mu i hi) (by decide) _ hb)).trans (h.r2 i hi)⟩
 by_cases JX:i=b.b
 ·subst JX;exact hB
 ·by_cases Nw:i=b.a
  ·subst Nw
   rw[hA JX,nE,jU JX]
  ·rw[nE,jU JX,jU Nw,hf _ (I.RZ i hi) (by simp only[eq_iff_iff,iff_false];exact fun he=>Nw (I.i1 i _ hi ha he)) (by simp only[eq_iff_iff,iff_false];exact fun he=>JX (I.i1 i _ hi hb he))]
   exact h.r1 i hi
def lr (n:Nat) (c f:Nat->Nat->Int):List AV:=[.sl (xH c n),.sl (xH f n)]
theorem Fa {g:Rows} {R:Nat->Id} {n k:Nat} {c:Nat->Nat->Int} (h:∀i,i<k->g (R i)=some ⟨true,1,ek (c i) n⟩) (m:Nat):ev (dK g) (m+3) (kV R n k)=some ((List.range k).map fun i=>[.sl (ek (c i) n)]):=by
 induction k with
 |zero=>rw[show kV R n 0=[]from rfl,ev];rfl
 |succ k ih=>
  have e1:V.fz (dK g) (m+3) (.own (R k) 0 n)=some (.sl (ek (c k) n)):=by
   rw[im];simp only[dK,h k (by omega),Option.map_some,if_true]
   rw[if_pos (by rw[dG];omega),List.drop_zero,List.take_of_length_le (by rw[dG];omega),z7];rfl
  have app:∀(xs ys:List (List AV)) (R0 Q6:List (List AV)),ev (dK g) (m+3) xs=some R0->ev (dK g) (m+3) ys=some Q6->ev (dK g) (m+3) (xs++ys)=some (R0++Q6):=by
   intro xs
   induction xs with
   |nil=>intro ys R0 Q6 h1 h2;rw[ev]at h1;cases h1;exact h2
   |cons a xs ih2=>
    intro ys R0 Q6 h1 h2
    rw[ev]at h1
    rw[List.cons_append,ev]
    cases ha:dd (dK g) (m+3) a with
    |none=>simp[ha]at h1
    |some a'=>
     cases hb:ev (dK g) (m+3) xs with
     |none=>simp[ha,hb]at h1
     |some b'=>
      simp[ha,hb]at h1
      subst h1
      rw[ih2 ys b' Q6 hb h2];rfl
  rw[s8,List.range_succ,List.map_append]
  refine app _ _ _ _ (ih fun i hi=>h i (by omega)) ?_
  rw[ev,aj,ar,e1,ev];rfl
theorem nD.fz {g:Rows} {X o1 o2:Id} {R1 R2:Nat->Id} {n:Nat} {c f:Nat->Nat->Int} (h:nD g X o1 o2 R1 R2 n c f):V.fz (dK g) 6 (.ptr X 0 0)=some (.di (lr n c f)):=by
 refine zg (sz:=2) (rows:=[[.own o1 0 n,.own o2 0 n]]) (by simp[dK,h.x]) rfl ?_
 have e1:V.fz (dK g) 5 (.own o1 0 n)=some (.sl (xH c n)):=by
  rw[im];simp only[dK,h.t1,Option.map_some,if_true]
  rw[if_pos (by rw[j4];omega),List.drop_zero,List.take_of_length_le (by rw[j4];omega)]
  rw[show ev _ 4 _=some (xH c n)from Fa h.r1 1];rfl
 have e2:V.fz (dK g) 5 (.own o2 0 n)=some (.sl (xH f n)):=by
  rw[im];simp only[dK,h.t2,Option.map_some,if_true]
  rw[if_pos (by rw[j4];omega),List.drop_zero,List.take_of_length_le (by rw[j4];omega)]
  rw[show ev _ 4 _=some (xH f n)from Fa h.r2 1];rfl
 simp only[List.drop_zero,aj,ar,e1,e2,lr,Option.map_some]
theorem M1 (n:Nat) (c f:Nat->Nat->Int) (u v:Nat) (hu:u<n) (hv:v<n):au Tryz.prog 272 [.di (lr n c f),.int .i64 u,.int .i64 v] (.bool (decide (f u v<c u v))):=by
 refine au.body eG rfl fun hl n0=>?_
 clear hl
 have h1:=B9 (c:=c) hu
 have h2:=B9 (c:=f) hu
 have h3:=ec (f:=c u) hv
 have h4:=ec (f:=f u) hv
 have hui:(u:Int)<(n:Int):=by omega
 have Dg:(v:Int)<(n:Int):=by omega
 have l1:=wQ c n
 have l2:=wQ f n
 have l3:=dG (c u) n
 have l4:=dG (f u) n
 rw[bu]at h3 h4
 (try((repeat(revert hN;revert N;apply Pn.out));refine wk (tw @lr.eq_1 (tw @h1 (tw @h2 (tw @h3 (tw @h4 (tw @hui (tw @Dg (tw @l1 (tw @l2 (tw @l3 @l4)))))))))) ?_;(repeat(refine Pn.mk ?_;intro N hN))))
 exact aX (b:=decide (f u v<c u v)) (.inl rfl) (sd @Nat.zero_add) rfl
end Go.Proofs.YtgoelphibofcmaaGreat.V

namespace Go.Proofs.YtgoelphibofcmaaGreat.V
open Go.RowKit
attribute [local irreducible] eh wpOps fI Call
attribute [local go_sem] aM fj eJ fF fE da upd cu K.av cI AV.cells AV.cell rowOf rowsOf part ld rowAt bK bV dq dM gy bD cY dY fA eS dk dR cW cV dD dE bG bc cL bF cP cN dO dS dQ cK bL cX dN bE aO cR cz gx bm cH bH aY dp bl dr AV.undef bt bz dF dL dy dC cF dX eb cw dV dU cQ cU List.getD_cons_zero List.getD_cons_succ List.getD_nil List.all_cons List.all_nil Bool.and_true Bool.true_and Bool.and_self Bool.not_true Bool.not_false Option.map_some Option.map_none Option.bind_some Option.bind_none List.length_cons List.length_nil List.take_succ_cons List.take_zero List.take_nil List.drop_succ_cons List.drop_zero List.drop_nil List.head?_cons List.map_cons List.map_nil List.getElem?_cons_zero List.getElem?_cons_succ List.cons_append List.nil_append List.append_nil List.length_map List.set_cons_zero List.set_cons_succ Nat.reduceMul eq_self Int.toNat_natCast Int.natCast_nonneg and_self true_and and_true decide_true decide_false Bool.false_eq_true Nat.zero_add Nat.add_zero List.contains_cons List.contains_nil Bool.or_false Bool.false_or beq_self_eq_true Nat.reduceBEq ne_eq not_true_eq_false not_false_eq_true Id.mk.injEq false_and and_false Nat.reduceLT Int.reduceLE Int.reduceLT Int.reduceToNat Int.reduceNeg Int.reduceAdd Nat.le_refl List.length_append beq_true beq_false Bool.not_eq_eq_eq_not or_false false_or dK aj ar aH bd br bW aT aZ aU bf cJ bw
theorem GK (n:Nat):List.replicate n [AV.int .i64 0]=ek (fun _=>0) n:=by
 refine List.ext_getElem? fun i=>?_
 by_cases h:i<n
 ·rw[ec h,List.getElem?_replicate,if_pos h];rfl
 ·rw[List.getElem?_eq_none (by simp;omega),List.getElem?_eq_none (by rw[dG];omega)]
theorem zY {i j:Id} {s t:Nat} (hi:i.site=s) (hj:j.site=t) (h:(s==t)=false):(i=j)=False/\(j=i)=False:=by
 constructor<;>(simp only[eq_iff_iff,iff_false];rintro rfl;rw[hi]at hj;subst hj;simp at h)
theorem BR (cnt:Nat) (vM:1<=cnt) (hn:cnt<=1048576) (bs:List PB) (hb:∀b∈bs,b.a<cnt/\b.b<cnt) (eC:∀b∈bs,0<=b.s/\b.s<=4) (qq:bs.length<=1048576) (σ:aw):
  Call Tryz.prog 245 [.int .i64 cnt,.sl (bs.map aB)] σ fun r σ'=>∃X o1 o2 R1 R2,r=.ptr X 0 0/\Fj X o1 o2 R1 R2 cnt σ'.next/\σ.next<=σ'.next/\nD σ'.get X o1 o2 R1 R2 cnt (kT bs) (fun _ _=>0)/\∀i:Id,i.cq<σ.next->σ'.get i=σ.get i:=by
 refine fc eG rfl fun hl=>?_
 clear hl
 (try((repeat(revert hN;revert N;apply Pn.out));refine wk @Nat.zero_add ?_;(repeat(refine Pn.mk ?_;intro N hN))))
 obtain⟨X,hX⟩:∃X:Id,X=⟨245001001,σ.next+1⟩:=⟨_,rfl⟩
 obtain⟨R1,SI⟩:∃R:Nat->Id,R=fun k=>⟨245004006,σ.next+3+4*k+1⟩:=⟨_,rfl⟩
 obtain⟨R2,PK⟩:∃R:Nat->Id,R=fun k=>⟨245005006,σ.next+3+4*k+2⟩:=⟨_,rfl⟩
 have sX:X.site=245001001:=by rw[hX]
 have vX:X.cq=σ.next+1:=by rw[hX]
 have s1:∀k,(R1 k).site=245004006:=fun k=>by rw[SI]
 have s2:∀k,(R2 k).site=245005006:=fun k=>by rw[PK]
 have v1:∀k,(R1 k).cq=σ.next+3+4*k+1:=fun k=>by rw[SI]
 have v2:∀k,(R2 k).cq=σ.next+3+4*k+2:=fun k=>by rw[PK]
 have jF:(0:Int)<=(cnt:Int):=by omega
 have mK:(cnt:Int)<=((16777216:Nat):Int):=by omega
 have hz:=GK cnt
 have t1:kV R1 cnt 0=[]:=rfl
 have t2:kV R2 cnt 0=[]:=rfl
 refine bh (fun n env st=>∃k:Nat,n=(cnt)-k/\k<=(cnt)/\env 11=.int .i64 (k:Int)/\env 5=(.ptr X 0 0)/\(st.next=σ.next+3+4*k/\(∀i:Id,i.cq<σ.next->st.get i=σ.get i)/\∀j,j<k->st.get (R1 j)=some ⟨true,1,ek (fun _=>0) cnt⟩/\st.get (R2 j)=some ⟨true,1,ek (fun _=>0) cnt⟩)/\((k=0/\st.get X=some ⟨true,2,[[.bq,.bq]]⟩)∨∃o1 o2:Id,o1.site=245004008/\o2.site=245005008/\o1.cq<st.next/\o2.cq<st.next/\σ.next<=o1.cq/\σ.next<=o2.cq/\st.get X=some ⟨true,2,[[.own o1 0 k,.own o2 0 k]]⟩/\st.get o1=some ⟨true,1,kV R1 cnt k⟩/\st.get o2=some ⟨true,1,kV R2 cnt k⟩)) (cnt) ⟨0,by omega,by omega,sl @hX,sl @hX,⟨rfl,fun i hi=>by(have Dg:=dP hi);simp only[go_sem, ↓reduceIte,Nat.reduceEqDiff,Nat.reduceAdd,Nat.reduceSub,Nat.reduceLeDiff,reduceCtorEq,Dg],fun j hj=>absurd hj (Nat.not_lt_zero j)⟩,.inl ⟨rfl,by rw[hX];simp only[go_sem, ↓reduceIte,Nat.reduceEqDiff,Nat.reduceAdd,Nat.reduceSub,Nat.reduceLeDiff,reduceCtorEq]⟩⟩ ?_
 rintro n_a env_a st_a ⟨k,rfl,ale,a11,a5,lS,aI1⟩ dW
 have a0:=dW 0 (by kernel_rfl);have a1:=dW 1 (by kernel_rfl);have xM:=dW 10 (by kernel_rfl)
 simp only[go_sem, ↓reduceIte,Nat.reduceEqDiff,Nat.reduceAdd,Nat.reduceSub,Nat.reduceLeDiff,reduceCtorEq,hX]at a0 a1 xM
 clear dW
 obtain⟨anx,dW,aR⟩:=lS
 have wX:=dP (i:=X) (n:=st_a.next) (by omega)
 by_cases hk:(k:Int)<(cnt:Int)
 ·have cG:∀{e:Env} {gg:Rows} {nx:Nat},(e 11=.int .i64 (IntKind.i64.wrap ((k:Int)+1)))->(e 5=(.ptr X 0 0))->(nx=σ.next+3+4*(k+1)/\(∀i:Id,i.cq<σ.next->gg i=σ.get i)/\∀j,j<(k+1)->gg (R1 j)=some ⟨true,1,ek (fun _=>0) cnt⟩/\gg (R2 j)=some ⟨true,1,ek (fun _=>0) cnt⟩)->(((k+1)=0/\gg X=some ⟨true,2,[[.bq,.bq]]⟩)∨∃o1 o2:Id,o1.site=245004008/\o2.site=245005008/\o1.cq<nx/\o2.cq<nx/\σ.next<=o1.cq/\σ.next<=o2.cq/\gg X=some ⟨true,2,[[.own o1 0 (k+1),.own o2 0 (k+1)]]⟩/\gg o1=some ⟨true,1,kV R1 cnt (k+1)⟩/\gg o2=some ⟨true,1,kV R2 cnt (k+1)⟩)->∃m0,m0<(cnt)-k/\∃k:Nat,m0=(cnt)-k/\k<=(cnt)/\e 11=.int .i64 (k:Int)/\e 5=(.ptr X 0 0)/\(nx=σ.next+3+4*k/\(∀i:Id,i.cq<σ.next->gg i=σ.get i)/\∀j,j<k->gg (R1 j)=some ⟨true,1,ek (fun _=>0) cnt⟩/\gg (R2 j)=some ⟨true,1,ek (fun _=>0) cnt⟩)/\((k=0/\gg X=some ⟨true,2,[[.bq,.bq]]⟩)∨∃o1 o2:Id,o1.site=245004008/\o2.site=245005008/\o1.cq<nx/\o2.cq<nx/\σ.next<=o1.cq/\σ.next<=o2.cq/\gg X=some ⟨true,2,[[.own o1 0 k,.own o2 0 k]]⟩/\gg o1=some ⟨true,1,kV R1 cnt k⟩/\gg o2=some ⟨true,1,kV R2 cnt k⟩):=fun x1 x2 x3 x4=>⟨_,by omega,k+1,rfl,by omega,(by rw[x1,aC (by omega)]),x2,x3,x4⟩
  have fw:k<cnt:=by omega
  have vI:R1 k=⟨245004006,st_a.next+1⟩:=by rw[SI,anx]
  have vJ:R2 k=⟨245005006,st_a.next+1+1⟩:=by rw[PK,anx]
  have Mj:kV R1 cnt (k+1)=kV R1 cnt k++[[.own ⟨245004006,st_a.next+1⟩ 0 cnt]]:=by rw[s8,vI]
  have O3:kV R2 cnt (k+1)=kV R2 cnt k++[[.own ⟨245005006,st_a.next+1+1⟩ 0 cnt]]:=by rw[s8,vJ]
  rcases aI1 with⟨rfl,Po⟩|⟨o1,o2,so1,so2,vo1,vo2,vn1,vn2,Po,ag1,ag2⟩
  ·(try((repeat(revert hN;revert N;apply Pn.out));refine wk (tw @a11 (tw @a5 (tw @a0 (tw @a1 (tw @xM (tw @hk (tw @wX (tw @Po (tw @jF (tw @mK (tw @Int.le_refl @hz))))))))))) ?_;(repeat(refine Pn.mk ?_;intro N hN))))
   refine cG ?_ ?_ (by
    (try dsimp only)
    refine⟨by omega,fun i hi=>?_,fun j hj=>?_⟩
    ·have q1:=dP (i:=i) (n:=st_a.next) (by omega)
     have q2:=cZ (a:=i) (b:=X) (by omega)
     have:=dW i hi
     simp only[go_sem, ↓reduceIte,Nat.reduceEqDiff,Nat.reduceAdd,Nat.reduceSub,Nat.reduceLeDiff,reduceCtorEq,q1,q2,this]
    ·by_cases yf:j=0
     ·subst yf
      rw[vI,vJ]
      have q1:=gO sX (b:=245004006) (v:=st_a.next+1) (by decide)
      have q2:=gO sX (b:=245005006) (v:=st_a.next+1+1) (by decide)
      simp only[go_sem, ↓reduceIte,Nat.reduceEqDiff,Nat.reduceAdd,Nat.reduceSub,Nat.reduceLeDiff,reduceCtorEq,q1,q2]
     ·obtain⟨r1,r2⟩:=aR j (by omega)
      have q1:=dP (i:=R1 j) (n:=st_a.next) (by rw[v1];omega)
      have q2:=dP (i:=R2 j) (n:=st_a.next) (by rw[v2];omega)
      have q3:=zY (s1 j) sX (by decide)
      have q4:=zY (s2 j) sX (by decide)
      constructor
      ·simp only[go_sem, ↓reduceIte,Nat.reduceEqDiff,Nat.reduceAdd,Nat.reduceSub,Nat.reduceLeDiff,reduceCtorEq,q1,q3,r1]
      ·simp only[go_sem, ↓reduceIte,Nat.reduceEqDiff,Nat.reduceAdd,Nat.reduceSub,Nat.reduceLeDiff,reduceCtorEq,q2,q4,r2]) (.inr ⟨⟨245004008,st_a.next+1⟩,⟨245005008,st_a.next+1+1⟩,rfl,rfl,by(try dsimp only);omega,by(try dsimp only);omega,by(try dsimp only);omega,by(try dsimp only);omega,sd @wX,by rw[Mj,t1];simp only[go_sem, ↓reduceIte,Nat.reduceEqDiff,Nat.reduceAdd,Nat.reduceSub,Nat.reduceLeDiff,reduceCtorEq,wX,List.nil_append],by rw[O3,t2];simp only[go_sem, ↓reduceIte,Nat.reduceEqDiff,Nat.reduceAdd,Nat.reduceSub,Nat.reduceLeDiff,reduceCtorEq,wX,List.nil_append]⟩)
   all_goals simp only[go_sem, ↓reduceIte,Nat.reduceEqDiff,Nat.reduceAdd,Nat.reduceSub,Nat.reduceLeDiff,reduceCtorEq,a11,a5,a0,a1,xM,wX]
  ·have l1:=j4 R1 cnt k
   have l2:=j4 R2 cnt k
   have e1:k+1<=16777216:=by omega
   have w1:=dP vo1
   have w2:=dP vo2
   have x1:=zY sX so1 (by decide)
   have x2:=zY sX so2 (by decide)
   have x3:=zY so1 so2 (by decide)
   (try((repeat(revert hN;revert N;apply Pn.out));refine wk (tw @a11 (tw @a5 (tw @a0 (tw @a1 (tw @xM (tw @hk (tw @wX (tw @Po (tw @ag1 (tw @ag2 (tw @l1 (tw @l2 (tw @e1 (tw @w1 (tw @w2 (tw @x1 (tw @x2 (tw @x3 (tw @jF (tw @mK (tw @Int.le_refl @hz))))))))))))))))))))) ?_;(repeat(refine Pn.mk ?_;intro N hN))))
   refine cG ?_ ?_ (by
    (try dsimp only)
    refine⟨by omega,fun i hi=>?_,fun j hj=>?_⟩
    ·have q1:=dP (i:=i) (n:=st_a.next) (by omega)
     have q2:=cZ (a:=i) (b:=X) (by omega)
     have q3:=cZ (a:=i) (b:=o1) (by omega)
     have q4:=cZ (a:=i) (b:=o2) (by omega)
     have:=dW i hi
     simp only[go_sem, ↓reduceIte,Nat.reduceEqDiff,Nat.reduceAdd,Nat.reduceSub,Nat.reduceLeDiff,reduceCtorEq,q1,q2,this,q3,q4]
    ·by_cases yf:j=k
     ·subst yf
      rw[vI,vJ]
      have q1:=gO sX (b:=245004006) (v:=st_a.next+1) (by decide)
      have q2:=gO sX (b:=245005006) (v:=st_a.next+1+1) (by decide)
      simp only[go_sem, ↓reduceIte,Nat.reduceEqDiff,Nat.reduceAdd,Nat.reduceSub,Nat.reduceLeDiff,reduceCtorEq,q1,q2,w1,w2]
     ·obtain⟨r1,r2⟩:=aR j (by omega)
      have q1:=dP (i:=R1 j) (n:=st_a.next) (by rw[v1];omega)
      have q2:=dP (i:=R2 j) (n:=st_a.next) (by rw[v2];omega)
      have q3:=zY (s1 j) sX (by decide)
      have q4:=zY (s2 j) sX (by decide)
      have q5:=zY (s1 j) so1 (by decide)
      have q6:=zY (s1 j) so2 (by decide)
      have q7:=zY (s2 j) so1 (by decide)
      have q8:=zY (s2 j) so2 (by decide)
      constructor
      ·simp only[go_sem, ↓reduceIte,Nat.reduceEqDiff,Nat.reduceAdd,Nat.reduceSub,Nat.reduceLeDiff,reduceCtorEq,q1,q3,r1,q5,q6]
      ·simp only[go_sem, ↓reduceIte,Nat.reduceEqDiff,Nat.reduceAdd,Nat.reduceSub,Nat.reduceLeDiff,reduceCtorEq,q2,q4,r2,q7,q8]) (.inr ⟨⟨245004008,st_a.next+1⟩,⟨245005008,st_a.next+1+1⟩,rfl,rfl,by(try dsimp only);omega,by(try dsimp only);omega,by(try dsimp only);omega,by(try dsimp only);omega,sd @wX,by rw[Mj];simp only[go_sem, ↓reduceIte,Nat.reduceEqDiff,Nat.reduceAdd,Nat.reduceSub,Nat.reduceLeDiff,reduceCtorEq,wX,w1,w2],by rw[O3];simp only[go_sem, ↓reduceIte,Nat.reduceEqDiff,Nat.reduceAdd,Nat.reduceSub,Nat.reduceLeDiff,reduceCtorEq,wX,w1,w2]⟩)
   all_goals simp only[go_sem, ↓reduceIte,Nat.reduceEqDiff,Nat.reduceAdd,Nat.reduceSub,Nat.reduceLeDiff,reduceCtorEq,a11,a5,a0,a1,xM,wX,w1,w2,x1,x2,x3]
 have lO:cnt=k:=by omega
 subst lO
 rcases aI1 with⟨h0,_⟩|⟨o1,o2,so1,so2,vo1,vo2,vn1,vn2,Po,ag1,ag2⟩
 ·omega
 (try((repeat(revert hN;revert N;apply Pn.out));refine wk (tw @a11 (tw @a5 (tw @a0 (tw @a1 (tw @xM @hk))))) ?_;(repeat(refine Pn.mk ?_;intro N hN))))
 have I:Fj X o1 o2 R1 R2 cnt st_a.next:=⟨sX,so1,so2,fun i _=>s1 i,fun i _=>s2 i,fun i j _ _ h=>by have:=v1 i;rw[h,v1]at this;omega,fun i j _ _ h=>by have:=v2 i;rw[h,v2]at this;omega,by omega,vo1,vo2,fun i hi=>by rw[v1];omega,fun i hi=>by rw[v2];omega⟩
 refine bh (fun n env st=>∃i:Nat,n=(bs.length)-i/\i<=(bs.length)/\env 38=.int .i64 (i:Int)/\(st_a.next<=st.next/\(∀x:Id,x.cq<σ.next->st.get x=σ.get x)/\nD st.get X o1 o2 R1 R2 cnt (kT (bs.take i)) (fun _ _=>0))) (bs.length) ⟨0,by omega,by omega,sl (tw @a11 (tw @a5 (tw @a0 (tw @a1 @xM)))),⟨by(try dsimp only);omega,dW,Po,ag1,ag2,fun j hj=>(aR j hj).1,fun j hj=>(aR j hj).2⟩⟩ ?_
 rintro n_b env_b st_b ⟨i,rfl,ble,b38,bI0⟩ gQ
 have b0:=gQ 0 (by kernel_rfl);have b1:=gQ 1 (by kernel_rfl);have b5:=gQ 5 (by kernel_rfl);have OK:=gQ 36 (by kernel_rfl);have OL:=gQ 37 (by kernel_rfl)
 simp only[go_sem, ↓reduceIte,Nat.reduceEqDiff,Nat.reduceAdd,Nat.reduceSub,Nat.reduceLeDiff,reduceCtorEq,a11,a5,a0,a1,xM]at b0 b1 b5 OK OL
 clear gQ
 obtain⟨bn,MM,bM⟩:=bI0
 by_cases hi:(i:Int)<(bs.length:Int)
 ·have iy:∀{e:Env} {gg:Rows} {nx:Nat},(e 38=.int .i64 (IntKind.i64.wrap ((i:Int)+1)))->(st_a.next<=nx/\(∀x:Id,x.cq<σ.next->gg x=σ.get x)/\nD gg X o1 o2 R1 R2 cnt (kT (bs.take (i+1))) (fun _ _=>0))->∃m0,m0<(bs.length)-i/\∃i:Nat,m0=(bs.length)-i/\i<=(bs.length)/\e 38=.int .i64 (i:Int)/\(st_a.next<=nx/\(∀x:Id,x.cq<σ.next->gg x=σ.get x)/\nD gg X o1 o2 R1 R2 cnt (kT (bs.take i)) (fun _ _=>0)):=fun x1 x2=>⟨_,by omega,i+1,rfl,by omega,(by rw[x1,aC (by omega)]),x2⟩
  have fB:i<bs.length:=by omega
  have k9:(bs.map aB)[i]? =some (aB bs[i]):=by simp[fB]
  have fS:=hb _ (List.getElem_mem fB)
  have hsi:=eC _ (List.getElem_mem fB)
  have sK:kT (bs.take (i+1))=nE (kT (bs.take i)) bs[i]:=by rw[List.take_succ_eq_append_getElem fB,DN]
  have qt:=zQ (bs.take i) (fun _ _=>0) (fun b hb=>(eC b (List.mem_of_mem_take hb)).1) (fun _ _=>Int.le_refl _)
  have hle:=room_le (bs.take i) (fun _ _=>0) 0 (fun b hb=>(eC b (List.mem_of_mem_take hb)).2) (fun _ _=>Int.le_refl _) (Int.le_refl _)
  rw[List.length_take]at hle
  have eL:(bs.take i).foldl nE (fun _ _=>0)=kT (bs.take i):=rfl
  rw[eL]at qt hle
  generalize kT (bs.take i)=c at *
  generalize bs[i]=b at *
  obtain⟨ha,sI⟩:=fS
  have gA:=rY (R:=R1) (n:=cnt) ha
  have gB:=rY (R:=R1) (n:=cnt) sI
  have rA:=bM.r1 _ ha
  have rB:=bM.r1 _ sI
  have cA:=ec (f:=c b.a) sI
  have cB:=ec (f:=c b.b) ha
  have sA:=ou (f:=c) (a:=b.a) (d:=b.s) sI
  have gX:=bM.x
  have g1:=bM.t1
  have gz:(b.a:Int)<(cnt:Int):=by omega
  have fS:(b.b:Int)<(cnt:Int):=by omega
  have qX:=dP (i:=X) (n:=st_b.next) (by omega)
  have q1:=dP (i:=o1) (n:=st_b.next) (by omega)
  have qA:=dP (i:=R1 b.a) (n:=st_b.next) (by rw[v1];omega)
  have qB:=dP (i:=R1 b.b) (n:=st_b.next) (by rw[v1];omega)
  have xA:=zY sX (s1 b.a) (by decide)
  have xB:=zY sX (s1 b.b) (by decide)
  have yA:=zY so1 (s1 b.a) (by decide)
  have yB:=zY so1 (s1 b.b) (by decide)
  have l1:=j4 R1 cnt cnt
  have lA:=dG (c b.a) cnt
  have lB:=dG (c b.b) cnt
  have hAB:=hle b.a b.b
  have hBA:=hle b.b b.a
  have gAB:=qt b.a b.b
  have gBA:=qt b.b b.a
  have wA:IntKind.i64.wrap (c b.a b.b+b.s)=c b.a b.b+b.s:=bQ (by omega)
  by_cases rh:b.a=b.b
  ·obtain⟨ba,bb,s⟩:=b
   dsimp only at *
   subst rh
   have NL:=ou (f:=bump c ba ba s) (a:=ba) (b:=ba) (d:=s) (n:=cnt) ha
   have SQ:=ec (f:=bump c ba ba s ba) ha
   have hv:bump c ba ba s ba ba=c ba ba+s:=by simp[bump]
   have lC:=dG (bump c ba ba s ba) cnt
   have wB:IntKind.i64.wrap (c ba ba+s+s)=c ba ba+s+s:=bQ (by omega)
   rw[hv]at NL SQ
   have rl:nE c ⟨ba,ba,s⟩ ba=bump (bump c ba ba s) ba ba s ba:=rfl
   rw[bu]at cA sA NL SQ
   (try((repeat(revert hN;revert N;apply Pn.out));refine wk (tw @b38 (tw @b0 (tw @b1 (tw @b5 (tw @OK (tw @OL (tw @hi (tw @k9 (tw @aB.eq_1 (tw @gA (tw @rA (tw @cA (tw @sA (tw @gX (tw @g1 (tw @gz (tw @qX (tw @q1 (tw @qA (tw @xA (tw @yA (tw @l1 (tw @lA (tw @wA (tw @NL (tw @SQ (tw @lC @wB))))))))))))))))))))))))))) ?_;(repeat(refine Pn.mk ?_;intro N hN))))
   exact iy (sd (tw @b38 (tw @b0 (tw @b1 (tw @b5 (tw @OK @OL)))))) (by
    (try dsimp only)
    refine⟨by omega,fun x hx=>?_,?_⟩
    ·have p1:=dP (i:=x) (n:=st_b.next) (by omega)
     have p2:=cZ (a:=x) (b:=R1 ba) (by rw[v1];omega)
     have:=MM x hx
     simp only[go_sem, ↓reduceIte,Nat.reduceEqDiff,Nat.reduceAdd,Nat.reduceSub,Nat.reduceLeDiff,reduceCtorEq,p1,p2,this]
    ·rw[sK]
     refine bM.add I ⟨ba,ba,s⟩ ha ha (fun h=>absurd rfl h) ?_ fun x hx h1 h2=>?_
     ·rw[rl]
      simp only[go_sem, ↓reduceIte,Nat.reduceEqDiff,Nat.reduceAdd,Nat.reduceSub,Nat.reduceLeDiff,reduceCtorEq]
     ·have p1:=dP (i:=x) (n:=st_b.next) (by omega)
      (try dsimp only at h2)
      simp only[go_sem, ↓reduceIte,Nat.reduceEqDiff,Nat.reduceAdd,Nat.reduceSub,Nat.reduceLeDiff,reduceCtorEq,p1,h2])
  ·have gM:(R1 b.a=R1 b.b)=False:=by simp only[eq_iff_iff,iff_false];exact fun h=>rh (I.i1 _ _ ha sI h)
   have Il:(R1 b.b=R1 b.a)=False:=by simp only[eq_iff_iff,iff_false];exact fun h=>rh (I.i1 _ _ ha sI h.symm)
   have NC:bump c b.a b.b b.s b.b=c b.b:=jU fun h=>rh h.symm
   have NL:=ou (f:=bump c b.a b.b b.s) (a:=b.b) (b:=b.a) (d:=b.s) (n:=cnt) ha
   rw[NC]at NL
   have wB:IntKind.i64.wrap (c b.b b.a+b.s)=c b.b b.a+b.s:=bQ (by omega)
   have rl:nE c b b.b=bump (bump c b.a b.b b.s) b.b b.a b.s b.b:=rfl
   rw[bu]at cA cB sA NL
   (try((repeat(revert hN;revert N;apply Pn.out));refine wk (tw @b38 (tw @b0 (tw @b1 (tw @b5 (tw @OK (tw @OL (tw @hi (tw @k9 (tw @aB.eq_1 (tw @gA (tw @gB (tw @rA (tw @rB (tw @cA (tw @cB (tw @sA (tw @gX (tw @g1 (tw @gz (tw @fS (tw @qX (tw @q1 (tw @qA (tw @qB (tw @xA (tw @xB (tw @yA (tw @yB (tw @l1 (tw @lA (tw @lB (tw @wA (tw @NL (tw @wB (tw @gM @Il))))))))))))))))))))))))))))))))))) ?_;(repeat(refine Pn.mk ?_;intro N hN))))
   exact iy (sd (tw @b38 (tw @b0 (tw @b1 (tw @b5 (tw @OK @OL)))))) (by
    (try dsimp only)
    refine⟨by omega,fun x hx=>?_,?_⟩
    ·have p1:=dP (i:=x) (n:=st_b.next) (by omega)
     have p2:=cZ (a:=x) (b:=R1 b.b) (by rw[v1];omega)
     have p3:=cZ (a:=x) (b:=R1 b.a) (by rw[v1];omega)
     have:=MM x hx
     simp only[go_sem, ↓reduceIte,Nat.reduceEqDiff,Nat.reduceAdd,Nat.reduceSub,Nat.reduceLeDiff,reduceCtorEq,p1,p2,p3,this]
    ·rw[sK]
     refine bM.add I b ha sI (fun h=>?_) ?_ fun x hx h1 h2=>?_
     ·simp only[go_sem, ↓reduceIte,Nat.reduceEqDiff,Nat.reduceAdd,Nat.reduceSub,Nat.reduceLeDiff,reduceCtorEq,gM]
     ·rw[rl]
      simp only[go_sem, ↓reduceIte,Nat.reduceEqDiff,Nat.reduceAdd,Nat.reduceSub,Nat.reduceLeDiff,reduceCtorEq,gM]
     ·have p1:=dP (i:=x) (n:=st_b.next) (by omega)
      simp only[go_sem, ↓reduceIte,Nat.reduceEqDiff,Nat.reduceAdd,Nat.reduceSub,Nat.reduceLeDiff,reduceCtorEq,p1,h1,h2])
 ·have nI:i=bs.length:=by omega
  subst nI
  rw[List.take_length]at bM
  (try((repeat(revert hN;revert N;apply Pn.out));refine wk (tw @b38 (tw @b0 (tw @b1 (tw @b5 (tw @OK (tw @OL @hi)))))) ?_;(repeat(refine Pn.mk ?_;intro N hN))))
  exact eV (.inl rfl) (vs:=[.ptr X 0 0]) (sd @Nat.zero_add) ⟨X,o1,o2,R1,R2,rfl,⟨I.sx,I.s1,I.s2,I.RX,I.Mu,I.i1,I.i2,by have:=I.vx;(try dsimp only);omega,by have:=I.v1;(try dsimp only);omega,by have:=I.v2;(try dsimp only);omega,fun j hj=>by have:=I.RZ j hj;(try dsimp only);omega,fun j hj=>by have:=I.Pd j hj;(try dsimp only);omega⟩,by(try dsimp only);omega,bM,MM⟩
end Go.Proofs.YtgoelphibofcmaaGreat.V

namespace Go.Proofs.YtgoelphibofcmaaGreat.V
structure Bq (n:Nat) (c f:Nat->Nat->Int) (x:Nat) (par:Nat->Int) (Q:List Nat) (i:Nat):Prop where
 nodup:Q.Nodup
 lt:∀v∈Q,v<n
 root:par x=(x:Int)
 mem:x∈Q
 iff:∀v,v<n->(0<=par v↔v∈Q)
 up:∀v∈Q,v≠x->∃u,u∈Q/\par v=(u:Int)/\Q.idxOf u<Q.idxOf v/\f u v<c u v
 done:∀j (_:j<i) (hl:j<Q.length) (v:Nat),v<n->f Q[j] v<c Q[j] v->v∈Q
 ile:i<=Q.length
section
variable {n:Nat} {c f:Nat->Nat->Int} {x:Nat} {par:Nat->Int} {Q:List Nat} {i:Nat}
theorem Bq.len (h:Bq n c f x par Q i):Q.length<=n:=oM n Q h.nodup h.lt
theorem Bq.start (hx:x<n):Bq n c f x (fun v=>if v=x then(x:Int)else -1) [x] 0:=by
 refine⟨by simp,fun v hv=>by simp at hv;omega,by simp,by simp,fun v hv=>?_,fun v hv gM=>absurd (by simpa using hv) gM,fun j hj=>by omega,by simp⟩
 by_cases h:v=x
 ·simp[h]
 ·simp[h]
theorem Bq.visit (h:Bq n c f x par Q i) (hi:i<Q.length) {v:Nat} (hv:v<n) (hp:par v<0) (hr:f Q[i] v<c Q[i] v):Bq n c f x (fun w=>if w=v then(Q[i]:Int)else par w) (Q++[v]) i:=by
 have TF:v∉Q:=fun hm=>by have:=(h.iff v hv).2 hm;omega
 have TL:x≠v:=fun e=>TF (e▸h.mem)
 have zq:∀u∈Q,(Q++[v]).idxOf u=Q.idxOf u:=fun u hu=>by rw[List.idxOf_append,if_pos hu]
 have vK:(Q++[v]).idxOf v=Q.length:=by rw[List.idxOf_append,if_neg TF];simp
 refine⟨?_,fun w hw=>?_,by simp only[if_neg TL];exact h.root,by simp[h.mem],fun w hw=>?_,fun w hw gM=>?_,fun j hj hl w hw Cr=>?_,by simp;omega⟩
 ·refine List.nodup_append.2 ⟨h.nodup,by simp,fun a ha b hb=>?_⟩
  rw[List.mem_singleton.1 hb]
  rintro rfl;exact TF ha
 ·rcases List.mem_append.1 hw with hw|hw
  ·exact h.lt w hw
  ·rw[List.mem_singleton.1 hw];exact hv
 ·by_cases ER:w=v
  ·subst ER;simp
  ·rw[if_neg ER,h.iff w hw];simp[ER]
 ·by_cases ER:w=v
  ·subst ER
   refine⟨Q[i],by simp,by simp,?_,hr⟩
   rw[zq _ (List.getElem_mem hi),vK]
   exact List.idxOf_lt_length_of_mem (List.getElem_mem hi)
  ·have hwQ:w∈Q:=by
    rcases List.mem_append.1 hw with hw|hw
    ·exact hw
    ·exact absurd (List.mem_singleton.1 hw) ER
   obtain⟨u,h1,h2,h3,h4⟩:=h.up w hwQ gM
   exact⟨u,by simp[h1],by rw[if_neg ER];exact h2,by rw[zq u h1,zq w hwQ];exact h3,h4⟩
 ·have gV:j<Q.length:=by have:=h.ile;omega
  rw[List.getElem_append_left gV]at Cr
  exact List.mem_append_left _ (h.done j hj gV w hw Cr)
theorem Bq.next (h:Bq n c f x par Q i) (hi:i<Q.length) (ef:∀v,v<n->f Q[i] v<c Q[i] v->0<=par v):Bq n c f x par Q (i+1):=by
 refine⟨h.nodup,h.lt,h.root,h.mem,h.iff,h.up,fun j hj hl v hv hr=>?_,by omega⟩
 by_cases ml:j=i
 ·subst ml;exact(h.iff v hv).1 (ef v hv hr)
 ·exact h.done j (by omega) hl v hv hr
theorem Bq.cut (h:Bq n c f x par Q Q.length) {y:Nat} (hy:y<n) (hp:par y<0):∃S:Nat->Bool,S x=true/\S y=false/\∀u v,u<n->v<n->S u=true->S v=false->¬f u v<c u v:=by
 refine⟨fun v=>decide (v∈Q),by simp[h.mem],?_,fun u v hu hv h1 h2 hr=>?_⟩
 ·have:y∉Q:=fun hm=>by have:=(h.iff y hy).2 hm;omega
  simp[this]
 ·simp only[decide_eq_true_eq,decide_eq_false_iff_not]at h1 h2
  obtain⟨j,hj,rfl⟩:=List.getElem_of_mem h1
  exact h2 (h.done j hj hj v hv hr)
def uG (c f:Nat->Nat->Int) (Q:List Nat) (y k:Nat) (out:List Nat):Prop:=∃rest,out.reverse=k::rest/\(k::rest).getLast (by simp)=y/\qO f c (k::rest)/\(k::rest).Pairwise (fun a b=>Q.idxOf a<Q.idxOf b)/\∀v∈k::rest,v∈Q
theorem uG.start {y:Nat} (hy:y∈Q):uG c f Q y y [y]:=⟨[],rfl,rfl,trivial,by simp,by simpa using hy⟩
theorem uG.step {y k u:Nat} {out:List Nat} (h:uG c f Q y k out) (hu:u∈Q) (hi:Q.idxOf u<Q.idxOf k) (hr:f u k<c u k):uG c f Q y u (out++[u]):=by
 obtain⟨rest,h1,h2,h3,h4,h5⟩:=h
 refine⟨k::rest,by rw[List.reverse_append,h1];rfl,by rw[List.getLast_cons (by simp)];exact h2,⟨hr,h3⟩,?_,?_⟩
 ·refine List.pairwise_cons.2 ⟨fun b hb=>?_,h4⟩
  rcases List.mem_cons.1 hb with rfl|hb
  ·exact hi
  ·have:=(List.pairwise_cons.1 h4).1 b hb;omega
 ·intro v hv
  rcases List.mem_cons.1 hv with rfl|hv
  ·exact hu
  ·exact h5 v hv
theorem uG.len {y k:Nat} {out:List Nat} (h:uG c f Q y k out) (hq:∀v∈Q,v<n):out.length<=n:=by
 obtain⟨rest,h1,_,_,h4,h5⟩:=h
 rw[<-List.length_reverse,h1]
 refine oM n _ (h4.imp fun eo he=>?_) fun v hv=>hq v (h5 v hv)
 subst he;omega
structure Pm (n:Nat) (c f:Nat->Nat->Int) (x y:Nat) (p:List Nat):Prop where
 way:∃r,p=x::r/\(x::r).getLast (by simp)=y
 nodup:p.Nodup
 room:qO f c p
 lt:∀v∈p,v<n
theorem uG.way {y:Nat} {out:List Nat} (h:uG c f Q y x out) (hq:∀v∈Q,v<n):Pm n c f x y out.reverse:=by
 obtain⟨rest,h1,h2,h3,h4,h5⟩:=h
 rw[h1]
 exact⟨⟨rest,rfl,h2⟩,h4.imp fun eo he=>by subst he;omega,h3,fun v hv=>hq v (h5 v hv)⟩
end
end Go.Proofs.YtgoelphibofcmaaGreat.V

namespace Go.Proofs.YtgoelphibofcmaaGreat.V
open Go.RowKit
attribute [local irreducible] eh wpOps fI Call
attribute [local go_sem] aM fj eJ fF fE da upd cu K.av cI AV.cells AV.cell rowOf rowsOf part ld rowAt bK bV dq dM gy bD cY dY fA eS dk dR cW cV dD dE bG bc cL bF cP cN dO dS dQ cK bL cX dN bE aO cR cz gx bm cH bH aY dp bl dr AV.undef bt bz dF dL dy dC cF dX eb cw dV dU cQ cU List.getD_cons_zero List.getD_cons_succ List.getD_nil List.all_cons List.all_nil Bool.and_true Bool.true_and Bool.and_self Bool.not_true Bool.not_false Option.map_some Option.map_none Option.bind_some Option.bind_none List.length_cons List.length_nil List.take_succ_cons List.take_zero List.take_nil List.drop_succ_cons List.drop_zero List.drop_nil List.head?_cons List.map_cons List.map_nil List.getElem?_cons_zero List.getElem?_cons_succ List.cons_append List.nil_append List.append_nil List.length_map List.set_cons_zero List.set_cons_succ Nat.reduceMul eq_self Int.toNat_natCast Int.natCast_nonneg and_self true_and and_true decide_true decide_false Bool.false_eq_true Nat.zero_add Nat.add_zero List.contains_cons List.contains_nil Bool.or_false Bool.false_or beq_self_eq_true Nat.reduceBEq ne_eq not_true_eq_false not_false_eq_true Id.mk.injEq false_and and_false Nat.reduceLT Int.reduceLE Int.reduceLT Int.reduceToNat Int.reduceNeg Int.reduceAdd Nat.le_refl List.length_append beq_true beq_false Bool.not_eq_eq_eq_not or_false false_or dK aj ar aH bd br bW aT aZ aU bf cJ bw
def lJ (l:List Nat) (i x:Nat):Nat:=if x<i∨l.length-i<=x then l.getD (l.length-1-x) 0 else l.getD x 0
theorem yP (l:List Nat):l.map eN=dH (fun x=>l.getD x 0) l.length:=by
 refine List.ext_getElem? fun i=>?_
 by_cases h:i<l.length
 ·rw[fq h,List.getElem?_map,List.getElem?_eq_getElem h];simp[List.getD_eq_getElem?_getD,h]
 ·rw[List.getElem?_eq_none (by simp;omega),List.getElem?_eq_none (by rw[ga];omega)]
theorem Gw (l:List Nat):dH (lJ l 0) l.length=l.map eN:=by
 rw[yP]
 exact gS fun x hx=>by unfold lJ;rw[if_neg (by omega)]
theorem Je (l:List Nat) {i:Nat} (h:l.length<=2*i+1) (hi:i<=l.length):dH (lJ l i) l.length=l.reverse.map eN:=by
 rw[yP l.reverse,List.length_reverse]
 refine gS fun x hx=>?_
 have hr:l.reverse.getD x 0=l.getD (l.length-1-x) 0:=by
  rw[List.getD_eq_getElem?_getD,List.getElem?_reverse hx,List.getD_eq_getElem?_getD]
 rw[hr]
 unfold lJ
 by_cases hc:x<i∨l.length-i<=x
 ·rw[if_pos hc]
 ·rw[if_neg hc]
  have:x=l.length-1-x:=by omega
  rw[<-this]
theorem Gx (l:List Nat) (hp:0<l.length) (hl:l.length<=1048576) (o:Id) (σ:aw) (ho:σ.get o=some ⟨true,1,l.map eN⟩) (sb:o.cq<σ.next):
  Call Tryz.prog 273 [.own o 0 l.length] σ fun r σ'=>σ'.get o=some ⟨true,1,l.reverse.map eN⟩/\σ.next<=σ'.next/\∀i:Id,i.cq<σ.next->(i=o)=False->σ'.get i=σ.get i:=by
 refine fc eG rfl fun lf=>?_
 clear lf
 rw[<-Gw]at ho
 have RQ:IntKind.i64.wrap ((l.length:Int)-1)=((l.length-1:Nat):Int):=by rw[bQ (by omega)];omega
 (try((repeat(revert hN;revert N;apply Pn.out));refine wk @RQ ?_;(repeat(refine Pn.mk ?_;intro N hN))))
 refine bh (fun m env st=>∃i:Nat,m=l.length-i/\2*i<=l.length+1/\i<=l.length/\env 2=.int .i64 (i:Int)/\env 3=.int .i64 ((l.length:Int)-1-i)/\st.get o=some ⟨true,1,dH (lJ l i) l.length⟩/\σ.next<=st.next/\∀x:Id,x.cq<σ.next->(x=o)=False->st.get x=σ.get x) l.length ⟨0,rfl,by omega,by omega,by(simp only[go_sem, ↓reduceIte,Nat.reduceEqDiff,Nat.reduceAdd,Nat.reduceSub,Nat.reduceLeDiff,reduceCtorEq])<;>rfl,by(simp only[go_sem, ↓reduceIte,Nat.reduceEqDiff,Nat.reduceAdd,Nat.reduceSub,Nat.reduceLeDiff,reduceCtorEq,RQ]);congr 1;omega,ho,by(try dsimp only);omega,fun x _ _=>rfl⟩ ?_
 rintro m env_b st_b ⟨i,rfl,Be,nI,b2,b3,bg,bn,gQ⟩ bkp
 have b0:=bkp 0 (by kernel_rfl)
 simp only[go_sem, ↓reduceIte,Nat.reduceEqDiff,Nat.reduceAdd,Nat.reduceSub,Nat.reduceLeDiff,reduceCtorEq]at b0
 clear bkp
 have tl:=ga (lJ l i) l.length
 have pM:=dP (i:=o) (n:=st_b.next) (by omega)
 by_cases hi:(i:Int)<(l.length:Int)-1-i
 ·have fB:i<l.length:=by omega
  obtain⟨j,hj⟩:∃j,j=l.length-1-i:=⟨_,rfl⟩
  have jv:j<l.length:=by omega
  have KI:(l.length:Int)-1-i=(j:Int):=by omega
  rw[KI]at b3 hi
  have g1:=fq (f:=lJ l i) fB
  have g2:=fq (f:=lJ l i) jv
  have e1:lJ l i i=l.getD i 0:=by unfold lJ;rw[if_neg (by omega)]
  have e2:lJ l i j=l.getD j 0:=by unfold lJ;rw[if_neg (by omega)]
  have Ml:(dH (lJ l i) l.length).set i (eN (l.getD j 0))=dH (fun x=>if x=i then l.getD j 0 else lJ l i x) l.length:=pz fB (if_pos rfl) fun x _ hx=>if_neg hx
  have Is:(dH (fun x=>if x=i then l.getD j 0 else lJ l i x) l.length).set j (eN (l.getD i 0))=dH (lJ l (i+1)) l.length:=pz jv (by unfold lJ;rw[if_pos (by omega)];congr 1;omega) fun x hx O7=>by
   by_cases Ct:x=i
   ·rw[if_pos Ct];unfold lJ;rw[if_pos (by omega)];congr 1;omega
   ·rw[if_neg Ct];unfold lJ
    by_cases hc:x<i∨l.length-i<=x
    ·rw[if_pos hc,if_pos (by omega)]
    ·rw[if_neg hc,if_neg (by omega)]
  have RY:=ga (fun x=>if x=i then l.getD j 0 else lJ l i x) l.length
  have g3:=fq (f:=fun x=>if x=i then l.getD j 0 else lJ l i x) jv
  rw[e1]at g1
  rw[e2]at g2
  rw[if_neg (by omega),e2]at g3
  rw[eN]at g1 g2 g3 Ml Is
  have hii:(i:Int)<(l.length:Int):=by omega
  have ml:(j:Int)<(l.length:Int):=by omega
  have pe:IntKind.i64.wrap ((i:Int)+1)=((i+1:Nat):Int):=aC (by omega)
  have yi:IntKind.i64.wrap ((j:Int)-1)=(l.length:Int)-1-((i+1:Nat):Int):=by rw[bQ (by omega)];omega
  (try((repeat(revert hN;revert N;apply Pn.out));refine wk (tw @b0 (tw @b2 (tw @b3 (tw @bg (tw @hi (tw @hii (tw @ml (tw @g1 (tw @g2 (tw @g3 (tw @Ml (tw @Is (tw @tl (tw @RY (tw @pM (tw @pe @yi)))))))))))))))) ?_;(repeat(refine Pn.mk ?_;intro N hN))))
  refine⟨_,?_,i+1,rfl,by omega,by omega,sd @pe,sd @yi,sd @Is,by(try dsimp only);omega,fun x hx G9=>?_⟩
  ·omega
  ·have:=gQ x hx G9
   simp only[go_sem, ↓reduceIte,Nat.reduceEqDiff,Nat.reduceAdd,Nat.reduceSub,Nat.reduceLeDiff,reduceCtorEq,G9,this]
 ·rw[Je l (by omega) nI]at bg
  (try((repeat(revert hN;revert N;apply Pn.out));refine wk (tw @b0 (tw @b2 (tw @b3 (tw @bg @hi)))) ?_;(repeat(refine Pn.mk ?_;intro N hN))))
  exact eV (.inr rfl) (vs:=[]) (by simp only[ft,go_sem, ↓reduceIte,Nat.reduceEqDiff,Nat.reduceAdd,Nat.reduceSub,Nat.reduceLeDiff,reduceCtorEq]) ⟨bg,by(try dsimp only);omega,gQ⟩
end Go.Proofs.YtgoelphibofcmaaGreat.V

namespace Go.Proofs.YtgoelphibofcmaaGreat.V
open Go.RowKit
attribute [local irreducible] eh wpOps fI Call
attribute [local go_sem] aM fj eJ fF fE da upd cu K.av cI AV.cells AV.cell rowOf rowsOf part ld rowAt bK bV dq dM gy bD cY dY fA eS dk dR cW cV dD dE bG bc cL bF cP cN dO dS dQ cK bL cX dN bE aO cR cz gx bm cH bH aY dp bl dr AV.undef bt bz dF dL dy dC cF dX eb cw dV dU cQ cU List.getD_cons_zero List.getD_cons_succ List.getD_nil List.all_cons List.all_nil Bool.and_true Bool.true_and Bool.and_self Bool.not_true Bool.not_false Option.map_some Option.map_none Option.bind_some Option.bind_none List.length_cons List.length_nil List.take_succ_cons List.take_zero List.take_nil List.drop_succ_cons List.drop_zero List.drop_nil List.head?_cons List.map_cons List.map_nil List.getElem?_cons_zero List.getElem?_cons_succ List.cons_append List.nil_append List.append_nil List.length_map List.set_cons_zero List.set_cons_succ Nat.reduceMul eq_self Int.toNat_natCast Int.natCast_nonneg and_self true_and and_true decide_true decide_false Bool.false_eq_true Nat.zero_add Nat.add_zero List.contains_cons List.contains_nil Bool.or_false Bool.false_or beq_self_eq_true Nat.reduceBEq ne_eq not_true_eq_false not_false_eq_true Id.mk.injEq false_and and_false Nat.reduceLT Int.reduceLE Int.reduceLT Int.reduceToNat Int.reduceNeg Int.reduceAdd Nat.le_refl List.length_append beq_true beq_false Bool.not_eq_eq_eq_not or_false false_or dK aj ar aH bd br bW aT aZ aU bf cJ bw
theorem QU (cnt:Nat) (vM:1<=cnt) (hn:cnt<=1048576) (c f:Nat->Nat->Int) (x y:Nat) (hx:x<cnt) (hy:y<cnt):
  lQ Tryz.prog 266 [.di (lr cnt c f),.int .i64 x,.int .i64 y] fun r=>(r=.bq/\∃S:Nat->Bool,S x=true/\S y=false/\∀u v,u<cnt->v<cnt->S u=true->S v=false->¬f u v<c u v)∨∃p:List Nat,r=.sl (p.map eN)/\Pm cnt c f x y p:=by
 refine lQ.body eG rfl fun hl n0=>?_
 clear hl
 have lM:=wQ c cnt
 have jF:(0:Int)<=(cnt:Int):=by omega
 have Ct:(x:Int)<(cnt:Int):=by omega
 have RT:(y:Int)<(cnt:Int):=by omega
 (try((repeat(revert hN;revert N;apply Pn.out));refine wk (tw @lr.eq_1 @lM) ?_;(repeat(refine Pn.mk ?_;intro N hN))))
 refine .inr (aJ _ _ _ _ _ (fun r σ1 hq=>?_) (Jc cnt vM hn (-1) ⟨266002000,n0+1+1⟩ _ (sd @Nat.zero_add) (by(try dsimp only);omega)))
 obtain⟨o,rfl,ho,KR,KS,ik⟩:=hq
 (try dsimp only at ho KR KS ik)
 refine hN _ _ ?_
 clear hN N
 have pM:=dP KS
 have mK:(cnt:Int)<=1048576:=by omega
 have PV:qj<qj+cnt:=by omega
 have gC:List.replicate cnt [AV.int .i64 (-1)]=ek (fun _=>-1) cnt:=by
  refine List.ext_getElem? fun i=>?_
  by_cases h:i<cnt
  ·rw[ec h,List.getElem?_replicate,if_pos h];rfl
  ·rw[List.getElem?_eq_none (by simp;omega),List.getElem?_eq_none (by rw[dG];omega)]
 rw[gC]at ho
 have Bl:(ek (fun _=>-1) cnt).set x (bu (x:Int))=ek (fun v=>if v=x then(x:Int)else -1) cnt:=kX hx (if_pos rfl) fun v _ hv=>if_neg hv
 have hg0:=ec (f:=fun _=>-1) hx
 have tl0:=dG (fun _=>-1) cnt
 rw[bu]at Bl hg0
 (try((repeat(revert hN;revert N;apply Pn.out));refine wk (tw @lr.eq_1 (tw @lM (tw @jF (tw @mK @pM)))) ?_;(repeat(refine Pn.mk ?_;intro N hN))))
 refine JJ ?_
 simp only[go_sem, ↓reduceIte,Nat.reduceEqDiff,Nat.reduceAdd,Nat.reduceSub,Nat.reduceLeDiff,reduceCtorEq,PV]
 refine hN _ _ ?_
 clear hN N
 (try((repeat(revert hN;revert N;apply Pn.out));refine wk (tw @ho (tw @pM (tw @Bl (tw @hg0 (tw @tl0 @Ct))))) ?_;(repeat(refine Pn.mk ?_;intro N hN))))
 obtain⟨C,hC⟩:∃C:Id,C=⟨266003001,σ1.next+1⟩:=⟨_,rfl⟩
 have Qg:=cZ (a:=o) (b:=C) (by rw[hC];(try dsimp only);omega)
 have hCv:C.cq=σ1.next+1:=by rw[hC]
 refine bh (fun m env st=>∃(par:Nat->Int) (Q:List Nat) (i:Nat),m=cnt-i/\Bq cnt c f x par Q i/\st.get o=some ⟨true,1,ek par cnt⟩/\st.get C=some ⟨true,qj+cnt,(Q.drop i).map eN⟩/\σ1.next+1<st.next) cnt ⟨_,[x],0,rfl,Bq.start hx,sd @pM,by rw[hC];simp only[go_sem, ↓reduceIte,Nat.reduceEqDiff,Nat.reduceAdd,Nat.reduceSub,Nat.reduceLeDiff,reduceCtorEq,pM];rfl,by(try dsimp only);omega⟩ ?_
 rintro m env_b st_b ⟨par,Q,i,rfl,hB,bgo,bgC,bn⟩ bkp
 have b0:=bkp 0 (by kernel_rfl)
 have b1:=bkp 1 (by kernel_rfl)
 have b2:=bkp 2 (by kernel_rfl)
 have b7:=bkp 7 (by kernel_rfl)
 have b8:=bkp 8 (by kernel_rfl)
 have b9:=bkp 9 (by kernel_rfl)
 rw[<-hC]at b9
 simp only[go_sem, ↓reduceIte,Nat.reduceEqDiff,Nat.reduceAdd,Nat.reduceSub,Nat.reduceLeDiff,reduceCtorEq]at b0 b1 b2 b7 b8 b9
 clear bkp
 have hQn:=hB.len
 have nI:=hB.ile
 have G4:((Q.drop i).map eN).length=Q.length-i:=by simp
 by_cases hi:i<Q.length
 ·have jA:(0:Int)<((Q.length-i:Nat):Int):=by omega
  have r9:Q.drop i=Q[i]::Q.drop (i+1):=List.drop_eq_getElem_cons hi
  obtain⟨u,hu⟩:∃u,u=Q[i]:=⟨_,rfl⟩
  have hun:u<cnt:=by rw[hu];exact hB.lt _ (List.getElem_mem hi)
  rw[<-hu]at r9
  (try((repeat(revert hN;revert N;apply Pn.out));refine wk (tw @b0 (tw @b1 (tw @b2 (tw @b7 (tw @b8 (tw @b9 (tw @bgC (tw @G4 @jA)))))))) ?_;(repeat(refine Pn.mk ?_;intro N hN))))
  refine JJ ?_
  rw[r9,List.map_cons,show eN u=[.int .i64 (u:Int)]from rfl]at bgC
  simp only[go_sem, ↓reduceIte,Nat.reduceEqDiff,Nat.reduceAdd,Nat.reduceSub,Nat.reduceLeDiff,reduceCtorEq,b9,bgC]
  refine hN _ _ ?_
  clear hN N
  (try((repeat(revert hN;revert N;apply Pn.out));refine wk @b7 ?_;(repeat(refine Pn.mk ?_;intro N hN))))
  refine bh (fun m env st=>∃(v:Nat) (par':Nat->Int) (Q':List Nat),m=cnt-v/\v<=cnt/\env 36=.int .i64 (v:Int)/\Bq cnt c f x par' Q' i/\(∃h:i<Q'.length,Q'[i]=u)/\st.get o=some ⟨true,1,ek par' cnt⟩/\st.get C=some ⟨true,qj+cnt,(Q'.drop (i+1)).map eN⟩/\σ1.next+1<st.next/\∀w,w<v->f u w<c u w->0<=par' w) cnt ⟨0,par,Q,rfl,Nat.zero_le _,by(simp only[go_sem, ↓reduceIte,Nat.reduceEqDiff,Nat.reduceAdd,Nat.reduceSub,Nat.reduceLeDiff,reduceCtorEq])<;>rfl,hB,⟨hi,hu.symm⟩,sd (tw @Qg @bgo),sd @Qg,by(try dsimp only);omega,fun w hw=>absurd hw (Nat.not_lt_zero w)⟩ ?_
  rintro m env_c st_c ⟨v,par',Q',rfl,hvn,c36,dJ,⟨qL,EO⟩,xV,cgC,cn,ef⟩ ckp
  have c0:=ckp 0 (by kernel_rfl)
  have c1:=ckp 1 (by kernel_rfl)
  have c2:=ckp 2 (by kernel_rfl)
  have c7:=ckp 7 (by kernel_rfl)
  have c8:=ckp 8 (by kernel_rfl)
  have c9:=ckp 9 (by kernel_rfl)
  have ju:=ckp 10 (by kernel_rfl)
  have MP:=ckp 35 (by kernel_rfl)
  simp only[go_sem, ↓reduceIte,Nat.reduceEqDiff,Nat.reduceAdd,Nat.reduceSub,Nat.reduceLeDiff,reduceCtorEq,b0,b1,b2,b7,b8,b9]at c0 c1 c2 c7 c8 c9 ju MP
  clear ckp
  have tl:=dG par' cnt
  by_cases hv:(v:Int)<(cnt:Int)
  ·have Dh:v<cnt:=by omega
   have Nu:=ec (f:=par') Dh
   have ik:=M1 cnt c f u v hun Dh
   have hw:IntKind.i64.wrap ((v:Int)+1)=((v+1:Nat):Int):=aC (by omega)
   rw[bu]at Nu
   rw[lr]at ik
   by_cases jW:par' v<0
   ·by_cases hr:f u v<c u v
    ·rw[decide_eq_true hr]at ik
     have eP:(ek par' cnt).set v (bu (u:Int))=ek (fun w=>if w=v then(u:Int)else par' w) cnt:=kX Dh (if_pos rfl) fun w _ hw=>if_neg hw
     rw[bu]at eP
     have pJ:=dJ.visit qL Dh jW (by rw[EO];exact hr)
     rw[EO]at pJ
     have hQ2:=pJ.len
     rw[List.length_append]at hQ2
     simp only[List.length_singleton]at hQ2
     have eL:qj+(Q'.drop (i+1)).length<qj+cnt:=by rw[List.length_drop];omega
     (repeat(first|((repeat(revert hN;revert N;apply Pn.out));refine wk (tw @lr.eq_1 (tw @c0 (tw @c7 (tw @c8 (tw @c9 (tw @ju (tw @c36 (tw @MP (tw @hv (tw @xV (tw @Nu (tw @tl (tw @jW @eP))))))))))))) ?_;(repeat(refine Pn.mk ?_;intro N hN)))|((try apply Or.inl);refine⟨_,au.x (ik) (sd (tw @lr.eq_1 (tw @c0 (tw @c7 (tw @c8 (tw @c9 (tw @ju (tw @c36 (tw @MP (tw @hv (tw @xV (tw @Nu (tw @tl (tw @jW @eP)))))))))))))),?_⟩;refine hN _ _ ?_;clear hN N)))
     refine JJ ?_
     have hq:(Q'.drop (i+1)).map eN++[[.int .i64 (v:Int)]]=((Q'++[v]).drop (i+1)).map eN:=by rw[List.drop_append_of_le_length (by omega),List.map_append];rfl
     simp only[go_sem, ↓reduceIte,Nat.reduceEqDiff,Nat.reduceAdd,Nat.reduceSub,Nat.reduceLeDiff,reduceCtorEq,c9,cgC,eL,Qg,hq]
     refine hN _ _ ?_
     clear hN N
     (try((repeat(revert hN;revert N;apply Pn.out));refine wk (tw @c36 @hw) ?_;(repeat(refine Pn.mk ?_;intro N hN))))
     refine⟨_,?_,v+1,_,_,rfl,Dh,sd @hw,pJ,⟨by rw[List.length_append];omega,by rw[List.getElem_append_left qL];exact EO⟩,sd @Qg,sd @Qg,by(try dsimp only);omega,fun w hw Cr=>?_⟩
     ·omega
     ·by_cases ER:w=v
      ·rw[if_pos ER];omega
      ·rw[if_neg ER];exact ef w (by omega) Cr
    ·rw[decide_eq_false hr]at ik
     (repeat(first|((repeat(revert hN;revert N;apply Pn.out));refine wk (tw @lr.eq_1 (tw @c0 (tw @c7 (tw @c8 (tw @c9 (tw @ju (tw @c36 (tw @MP (tw @hv (tw @xV (tw @Nu (tw @tl (tw @jW @hw))))))))))))) ?_;(repeat(refine Pn.mk ?_;intro N hN)))|((try apply Or.inl);refine⟨_,au.x (ik) (sd (tw @lr.eq_1 (tw @c0 (tw @c7 (tw @c8 (tw @c9 (tw @ju (tw @c36 (tw @MP (tw @hv (tw @xV (tw @Nu (tw @tl (tw @jW @hw)))))))))))))),?_⟩;refine hN _ _ ?_;clear hN N)))
     refine⟨_,?_,v+1,par',Q',rfl,Dh,sd @hw,dJ,⟨qL,EO⟩,sd @xV,sd @cgC,by(try dsimp only);omega,fun w hw Cr=>?_⟩
     ·omega
     ·by_cases ER:w=v
      ·subst ER;exact absurd Cr hr
      ·exact ef w (by omega) Cr
   ·(try((repeat(revert hN;revert N;apply Pn.out));refine wk (tw @lr.eq_1 (tw @c0 (tw @c7 (tw @c8 (tw @c9 (tw @ju (tw @c36 (tw @MP (tw @hv (tw @xV (tw @Nu (tw @tl (tw @jW @hw))))))))))))) ?_;(repeat(refine Pn.mk ?_;intro N hN))))
    refine⟨_,?_,v+1,par',Q',rfl,Dh,sd @hw,dJ,⟨qL,EO⟩,sd @xV,sd @cgC,by(try dsimp only);omega,fun w hw Cr=>?_⟩
    ·omega
    ·by_cases ER:w=v
     ·subst ER;omega
     ·exact ef w (by omega) Cr
  ·have hvc:v=cnt:=by omega
   subst hvc
   (try((repeat(revert hN;revert N;apply Pn.out));refine wk (tw @c36 (tw @MP @hv)) ?_;(repeat(refine Pn.mk ?_;intro N hN))))
   refine⟨_,?_,par',Q',i+1,rfl,dJ.next qL fun w hw hr=>ef w hw (by rw[<-EO];exact hr),sd @xV,sd @cgC,by(try dsimp only);omega⟩
   omega
 ·have hiQ:i=Q.length:=by omega
  subst hiQ
  have jA:¬(0:Int)<((Q.length-Q.length:Nat):Int):=by omega
  have Tb:=ec (f:=par) hy
  have tl:=dG par cnt
  rw[bu]at Tb
  by_cases jW:par y<0
  ·(try((repeat(revert hN;revert N;apply Pn.out));refine wk (tw @b0 (tw @b1 (tw @b2 (tw @b7 (tw @b8 (tw @b9 (tw @bgC (tw @G4 (tw @jA (tw @bgo (tw @Tb (tw @tl (tw @RT @jW))))))))))))) ?_;(repeat(refine Pn.mk ?_;intro N hN))))
   exact⟨[.bq],sd @Nat.zero_add,.bq,jj _ _,.inl ⟨rfl,hB.cut hy jW⟩⟩
  ·(try((repeat(revert hN;revert N;apply Pn.out));refine wk (tw @b0 (tw @b1 (tw @b2 (tw @b7 (tw @b8 (tw @b9 (tw @bgC (tw @G4 (tw @jA (tw @bgo (tw @Tb (tw @tl (tw @RT @jW))))))))))))) ?_;(repeat(refine Pn.mk ?_;intro N hN))))
   refine bh (fun m env st=>∃(k:Nat) (out:List Nat) (p:Id),m=Q.idxOf k/\env 13=.int .i64 (k:Int)/\env 12=.own p 0 out.length/\st.get p=some ⟨true,1,out.map eN⟩/\p.cq<st.next/\st_b.next<=p.cq/\k∈Q/\uG c f Q y k out/\st.get o=some ⟨true,1,ek par cnt⟩) (Q.idxOf y) ⟨y,[y],⟨266017001,st_b.next+1+1⟩,rfl,by(simp only[go_sem, ↓reduceIte,Nat.reduceEqDiff,Nat.reduceAdd,Nat.reduceSub,Nat.reduceLeDiff,reduceCtorEq]),by(simp only[go_sem, ↓reduceIte,Nat.reduceEqDiff,Nat.reduceAdd,Nat.reduceSub,Nat.reduceLeDiff,reduceCtorEq])<;>rfl,by(simp only[go_sem, ↓reduceIte,Nat.reduceEqDiff,Nat.reduceAdd,Nat.reduceSub,Nat.reduceLeDiff,reduceCtorEq])<;>rfl,by(try dsimp only);omega,by(try dsimp only);omega,(hB.iff y hy).1 (by omega),uG.start ((hB.iff y hy).1 (by omega)),by(have O5:=dP (i:=o) (n:=st_b.next) (by omega));simp only[go_sem, ↓reduceIte,Nat.reduceEqDiff,Nat.reduceAdd,Nat.reduceSub,Nat.reduceLeDiff,reduceCtorEq,O5,bgo]⟩ ?_
   rintro m env_d st_d ⟨k,out,p,rfl,d13,d12,dgp,dpn,dpo,hkQ,uu,dgo⟩ dkp
   have d1:=dkp 1 (by kernel_rfl)
   have d8:=dkp 8 (by kernel_rfl)
   simp only[go_sem, ↓reduceIte,Nat.reduceEqDiff,Nat.reduceAdd,Nat.reduceSub,Nat.reduceLeDiff,reduceCtorEq,b1,b8]at d1 d8
   clear dkp
   have Ao:=dP dpn
   have Bn:=dP (i:=o) (n:=st_d.next) (by omega)
   have er:=cZ (a:=o) (b:=p) (by omega)
   have KO:=uu.len hB.lt
   have fw:=hB.lt k hkQ
   have nA:(out.map eN).length=out.length:=by simp
   by_cases Ry:k=x
   ·have hd:decide ((k:Int)=(x:Int))=true:=decide_eq_true (by rw[Ry])
    have Tt:0<out.length:=by
     obtain⟨rest,h1,_⟩:=uu
     rw[<-List.length_reverse,h1];simp
    (try((repeat(revert hN;revert N;apply Pn.out));refine wk (tw @d1 (tw @d8 (tw @d12 (tw @d13 (tw @hd @Bool.not_true))))) ?_;(repeat(refine Pn.mk ?_;intro N hN))))
    refine .inr (aJ _ _ _ _ _ (fun r σ2 hq=>?_) (Gx out Tt (by omega) p _ dgp (by(try dsimp only);omega)))
    obtain⟨P0,mM,Ih⟩:=hq
    refine hN _ _ ?_
    clear hN N
    (try((repeat(revert hN;revert N;apply Pn.out));refine wk @d12 ?_;(repeat(refine Pn.mk ?_;intro N hN))))
    refine⟨[.own p 0 out.length],sd @d12,.sl (out.reverse.map eN),?_,.inr ⟨out.reverse,rfl,by subst Ry;exact uu.way hB.lt⟩⟩
    exact fG (sz:=1) P0 (by simp) fun a=>M3 _ 4 a
   ·have hd:decide ((k:Int)=(x:Int))=false:=decide_eq_false fun h=>Ry (by omega)
    obtain⟨u,huQ,hpu,zq,hr⟩:=hB.up k hkQ Ry
    have eQ:=ec (f:=par) fw
    rw[bu,hpu]at eQ
    have hki:(k:Int)<(cnt:Int):=by omega
    have e1:out.length+1<=16777216:=by omega
    (try((repeat(revert hN;revert N;apply Pn.out));refine wk (tw @d1 (tw @d8 (tw @d12 (tw @d13 (tw @hd (tw @Bool.not_false (tw @dgo (tw @dgp (tw @eQ (tw @tl (tw @hki (tw @Ao (tw @Bn (tw @er (tw @nA @e1))))))))))))))) ?_;(repeat(refine Pn.mk ?_;intro N hN))))
    refine⟨_,zq,u,out++[u],⟨266021003,st_d.next+1+1⟩,rfl,sd @Nat.zero_add,by rw[List.length_append];simp only[go_sem, ↓reduceIte,Nat.reduceEqDiff,Nat.reduceAdd,Nat.reduceSub,Nat.reduceLeDiff,reduceCtorEq,List.length_cons,List.length_nil],by rw[List.map_append,List.map_cons,List.map_nil];simp only[go_sem, ↓reduceIte,Nat.reduceEqDiff,Nat.reduceAdd,Nat.reduceSub,Nat.reduceLeDiff,reduceCtorEq,eN],by(try dsimp only);omega,by(try dsimp only);omega,huQ,uu.step huQ zq hr,sd (tw @Bn (tw @er @dgo))⟩
end Go.Proofs.YtgoelphibofcmaaGreat.V

namespace Go.Proofs.YtgoelphibofcmaaGreat.V
open Go.RowKit
attribute [local irreducible] eh wpOps fI Call
attribute [local go_sem] aM fj eJ fF fE da upd cu K.av cI AV.cells AV.cell rowOf rowsOf part ld rowAt bK bV dq dM gy bD cY dY fA eS dk dR cW cV dD dE bG bc cL bF cP cN dO dS dQ cK bL cX dN bE aO cR cz gx bm cH bH aY dp bl dr AV.undef bt bz dF dL dy dC cF dX eb cw dV dU cQ cU List.getD_cons_zero List.getD_cons_succ List.getD_nil List.all_cons List.all_nil Bool.and_true Bool.true_and Bool.and_self Bool.not_true Bool.not_false Option.map_some Option.map_none Option.bind_some Option.bind_none List.length_cons List.length_nil List.take_succ_cons List.take_zero List.take_nil List.drop_succ_cons List.drop_zero List.drop_nil List.head?_cons List.map_cons List.map_nil List.getElem?_cons_zero List.getElem?_cons_succ List.cons_append List.nil_append List.append_nil List.length_map List.set_cons_zero List.set_cons_succ Nat.reduceMul eq_self Int.toNat_natCast Int.natCast_nonneg and_self true_and and_true decide_true decide_false Bool.false_eq_true Nat.zero_add Nat.add_zero List.contains_cons List.contains_nil Bool.or_false Bool.false_or beq_self_eq_true Nat.reduceBEq ne_eq not_true_eq_false not_false_eq_true Id.mk.injEq false_and and_false Nat.reduceLT Int.reduceLE Int.reduceLT Int.reduceToNat Int.reduceNeg Int.reduceAdd Nat.le_refl List.length_append beq_true beq_false Bool.not_eq_eq_eq_not or_false false_or dK aj ar aH bd br bW aT aZ aU bf cJ bw
theorem AE (b:Nat):∀(l:List Nat) (a:Nat) (f:Nat->Nat->Int),lU f ((a::l)++[b])=kd (lU f (a::l)) ((a::l).getLast (by simp)) b
 |[],a,f=>rfl
 |c::l,a,f=>by
  rw[List.cons_append,List.cons_append,lU,<-List.cons_append,AE b l c (kd f a c),lU,List.getLast_cons_cons]
theorem Fq {p:List Nat} {f:Nat->Nat->Int} {i:Nat} (h1:1<=i) (hi:i<p.length):lU f (p.take (i+1))=kd (lU f (p.take i)) (p[i-1]'(by omega)) p[i]:=by
 rw[List.take_succ_eq_append_getElem hi]
 have gM:p.take i≠[]:=by
  intro h
  have:(p.take i).length=0:=by rw[h];rfl
  rw[List.length_take]at this;omega
 obtain⟨a,l,Rl⟩:∃a l,p.take i=a::l:=by
  cases h:p.take i with
  |nil=>exact absurd h gM
  |cons a l=>exact⟨a,l,rfl⟩
 have vK:(p.take i).getLast gM=p[i-1]'(by omega):=by
  rw[List.getLast_eq_getElem,List.getElem_take]
  congr 1
  rw[List.length_take];omega
 simp only[Rl]at vK ⊢
 rw[AE,vK]
theorem Gt (f:Nat->Nat->Int) (a b u v:Nat):kd f a b u v<=f u v+1/\f u v-1<=kd f a b u v:=by
 unfold kd bump
 split<;>split<;>constructor<;>omega
theorem lV:∀(p:List Nat) (f:Nat->Nat->Int) (u v:Nat),lU f p u v<=f u v+p.length/\f u v-p.length<=lU f p u v
 |[],f,u,v=>by simp[lU]
 |[_],f,u,v=>by simp[lU];omega
 |a::b::r,f,u,v=>by
  rw[lU]
  have h1:=lV (b::r) (kd f a b) u v
  have h2:=Gt f a b u v
  simp only[List.length_cons]at h1 ⊢
  omega
theorem nD.push {g g':Rows} {X o1 o2:Id} {R1 R2:Nat->Id} {n nb:Nat} {c f:Nat->Nat->Int} (I:Fj X o1 o2 R1 R2 n nb) (h:nD g X o1 o2 R1 R2 n c f) {a b:Nat} (ha:a<n) (hb:b<n) (rh:a≠b) (hA:g' (R2 a)=some ⟨true,1,ek (bump f a b 1 a) n⟩) (hB:g' (R2 b)=some ⟨true,1,ek (bump (bump f a b 1) b a (-1) b) n⟩) (hf:∀i:Id,i.cq<nb->(i=R2 a)=False->(i=R2 b)=False->g' i=g i):nD g' X o1 o2 R1 R2 n c (kd f a b):=by
 have ne:∀{i:Id} {s:Nat},i.site=s->(s==245005006)=false->∀a,a<n->(i=R2 a)=False:=fun {i s} hi hs a ha=>by
  simp only[eq_iff_iff,iff_false]
  rintro rfl
  rw[I.Mu a ha]at hi
  subst hi
  simp at hs
 refine⟨(hf _ I.vx (ne I.sx (by decide) _ ha) (ne I.sx (by decide) _ hb)).trans h.x,(hf _ I.v1 (ne I.s1 (by decide) _ ha) (ne I.s1 (by decide) _ hb)).trans h.t1,(hf _ I.v2 (ne I.s2 (by decide) _ ha) (ne I.s2 (by decide) _ hb)).trans h.t2,fun i hi=>(hf _ (I.RZ i hi) (ne (I.RX i hi) (by decide) _ ha) (ne (I.RX i hi) (by decide) _ hb)).trans (h.r1 i hi),fun i hi=>?_⟩
 by_cases JX:i=b
 ·subst JX;exact hB
 ·by_cases Nw:i=a
  ·subst Nw
   rw[hA,kd,jU JX]
  ·rw[kd,jU JX,jU Nw,hf _ (I.Pd i hi) (by simp only[eq_iff_iff,iff_false];exact fun he=>Nw (I.i2 i _ hi ha he)) (by simp only[eq_iff_iff,iff_false];exact fun he=>JX (I.i2 i _ hi hb he))]
   exact h.r2 i hi
theorem N9 (cnt:Nat) (vM:1<=cnt) (hn:cnt<=1048576) (c:Nat->Nat->Int) (hc:∀u v,u<cnt->v<cnt->0<=c u v/\c u v<=16777216) (x y:Nat) (hx:x<cnt) (hy:y<cnt) (Qv:x≠y) (t:Int) (ht:t<=1099511627776)
  (X o1 o2:Id) (R1 R2:Nat->Id) (nb:Nat) (I:Fj X o1 o2 R1 R2 cnt nb) (σ:aw) (hM:nD σ.get X o1 o2 R1 R2 cnt c (fun _ _=>0)) (RE:nb<=σ.next):
  Call Tryz.prog 246 [.ptr X 0 0,.int .i64 x,.int .i64 y,.int .i64 t] σ fun r σ'=>∃val:Int,r=.int .i64 val/\(val<t↔∃S:Nat->Bool,S x=true/\S y=false/\l6 cnt S c<t)/\σ.next<=σ'.next:=by
 refine fc eG rfl fun hl=>?_
 clear hl
 have hxS:(fun v=>decide (v=x)) x=true:=by simp
 have hyS:(fun v=>decide (v=x)) y=false:=by simp;exact fun h=>Qv h.symm
 obtain⟨top,TE⟩:∃top,top=l6 cnt (fun v=>decide (v=x)) c:=⟨_,rfl⟩
 (try((repeat(revert hN;revert N;apply Pn.out));refine wk @Nat.zero_add ?_;(repeat(refine Pn.mk ?_;intro N hN))))
 refine bh (fun m env st=>∃(k:Nat) (f:Nat->Nat->Int),m=(top-k).toNat/\env 9=.int .i64 (k:Int)/\ll cnt c f x y k/\nD st.get X o1 o2 R1 R2 cnt c f/\σ.next<=st.next/\(0<k->(k:Int)<=t)/\∀u v,-((k:Int)*(cnt:Int))<=f u v) (top-0).toNat ⟨0,fun _ _=>0,rfl,by(simp only[go_sem, ↓reduceIte,Nat.reduceEqDiff,Nat.reduceAdd,Nat.reduceSub,Nat.reduceLeDiff,reduceCtorEq])<;>rfl,ll.zero fun u v hu hv=>(hc u v hu hv).1,hM,by(try dsimp only);omega,fun h=>absurd h (Nat.lt_irrefl 0),fun u v=>by simp⟩ ?_
 rintro m env_b st_b ⟨k,f,rfl,b9,hF,bM,bn,bk,blo⟩ bkp
 have b0:=bkp 0 (by kernel_rfl)
 have b1:=bkp 1 (by kernel_rfl)
 have b2:=bkp 2 (by kernel_rfl)
 have b3:=bkp 3 (by kernel_rfl)
 simp only[go_sem, ↓reduceIte,Nat.reduceEqDiff,Nat.reduceAdd,Nat.reduceSub,Nat.reduceLeDiff,reduceCtorEq]at b0 b1 b2 b3
 clear bkp
 have hz:dd (dK st_b.get) 6 [.ptr X 0 0,.int .i64 (x:Int),.int .i64 (y:Int)]=some [.di (lr cnt c f),.int .i64 x,.int .i64 y]:=by simp only[aj,ar,bM.fz,aH,Option.map_some]
 (try((repeat(revert hN;revert N;apply Pn.out));refine wk (tw @b0 (tw @b1 (tw @b2 (tw @b3 @b9)))) ?_;(repeat(refine Pn.mk ?_;intro N hN))))
 refine .inr (aJ _ _ _ _ _ (fun r σ1 hq=>?_) ((QU cnt vM hn c f x y hx hy).x mixed hz))
 obtain⟨NJ,rfl⟩:=hq
 refine hN _ _ ?_
 clear hN N
 rcases NJ with⟨rfl,S,Nj,Nk,Rj⟩|⟨p,rfl,hW⟩
 ·(try((repeat(revert hN;revert N;apply Pn.out));refine wk (tw @b0 (tw @b1 (tw @b2 (tw @b3 (tw @b9 (tw @Bool.not_true @Bool.not_false)))))) ?_;(repeat(refine Pn.mk ?_;intro N hN))))
  refine eV (.inl rfl) (vs:=[.int .i64 (k:Int)]) (sd @Nat.zero_add) ⟨(k:Int),rfl,⟨fun h=>⟨S,Nj,Nk,by rw[<-hF.full Nj Nk Rj];exact h⟩,fun⟨S',h1,h2,h3⟩=>by have:=hF.bound h1 h2;omega⟩,by(try dsimp only);omega⟩
 ·obtain⟨⟨rs,rfl,vK⟩,mm,eL,hplt⟩:=hW
  by_cases KK:t<=(k:Int)
  ·(try((repeat(revert hN;revert N;apply Pn.out));refine wk (tw @b0 (tw @b1 (tw @b2 (tw @b3 (tw @b9 (tw @KK (tw @Bool.not_true @Bool.not_false))))))) ?_;(repeat(refine Pn.mk ?_;intro N hN))))
   refine eV (.inl rfl) (vs:=[.int .i64 (k:Int)]) (sd @Nat.zero_add) ⟨(k:Int),rfl,⟨fun h=>by omega,fun⟨S',h1,h2,h3⟩=>by have:=hF.bound h1 h2;omega⟩,by(try dsimp only);omega⟩
  ·(try((repeat(revert hN;revert N;apply Pn.out));refine wk (tw @b0 (tw @b1 (tw @b2 (tw @b3 (tw @b9 (tw @KK (tw @Bool.not_true @Bool.not_false))))))) ?_;(repeat(refine Pn.mk ?_;intro N hN))))
   have mo:=oM cnt _ mm hplt
   have hkc:(k:Int)*(cnt:Int)<=1099511627776*1048576:=Int.mul_le_mul (by omega) (by omega) (by omega) (by omega)
   have hfb:=hF.bound (S:=fun v=>decide (v=x)) hxS hyS
   have hnear:=lV
   obtain⟨p,hp⟩:∃p,p=x::rs:=⟨_,rfl⟩
   have hmp:eN x::List.map eN rs=p.map eN:=by rw[hp];rfl
   rw[hmp]
   have NF:1<=p.length:=by rw[hp];simp
   have PG:=hF.aug vK mm eL hplt
   rw[<-hp]at PG mm eL hplt mo
   have NO:p.take 1=[x]:=by rw[hp];rfl
   clear hmp vK
   refine bh (fun m env st=>∃i:Nat,m=p.length-i/\1<=i/\i<=p.length/\env 11=.int .i64 (i:Int)/\nD st.get X o1 o2 R1 R2 cnt c (lU f (p.take i))/\st_b.next<=st.next) (p.length-1) ⟨1,rfl,Nat.le_refl _,NF,by(simp only[go_sem, ↓reduceIte,Nat.reduceEqDiff,Nat.reduceAdd,Nat.reduceSub,Nat.reduceLeDiff,reduceCtorEq])<;>rfl,by rw[NO];exact bM,by(try dsimp only);omega⟩ ?_
   rintro m env_c st_c ⟨i,rfl,KH,nI,nG,cM,cn⟩ ckp
   have c0:=ckp 0 (by kernel_rfl)
   have c1:=ckp 1 (by kernel_rfl)
   have c2:=ckp 2 (by kernel_rfl)
   have c3:=ckp 3 (by kernel_rfl)
   have c9:=ckp 9 (by kernel_rfl)
   have ju:=ckp 10 (by kernel_rfl)
   simp only[go_sem, ↓reduceIte,Nat.reduceEqDiff,Nat.reduceAdd,Nat.reduceSub,Nat.reduceLeDiff,reduceCtorEq,b0,b1,b2,b3,b9]at c0 c1 c2 c3 c9 ju
   clear ckp
   have nA:(p.map eN).length=p.length:=by simp
   by_cases hi:(i:Int)<(p.length:Int)
   ·have fB:i<p.length:=by omega
    have xz:=Fq (f:=f) KH fB
    obtain⟨a,ha⟩:∃a,a=p[i-1]'(by omega):=⟨_,rfl⟩
    obtain⟨b,hb⟩:∃b,b=p[i]:=⟨_,rfl⟩
    have ED:a<cnt:=by rw[ha];exact hplt _ (List.getElem_mem _)
    have EF:b<cnt:=by rw[hb];exact hplt _ (List.getElem_mem _)
    have rh:a≠b:=by
     rw[ha,hb]
     exact List.pairwise_iff_getElem.1 mm (i-1) i (by omega) fB (by omega)
    have P3:(p.map eN)[i-1]? =some [.int .i64 (a:Int)]:=by rw[List.getElem?_map,List.getElem?_eq_getElem (by omega),ha];rfl
    have P4:(p.map eN)[i]? =some [.int .i64 (b:Int)]:=by rw[List.getElem?_map,List.getElem?_eq_getElem fB,hb];rfl
    rw[<-ha,<-hb]at xz
    have Tk:=lV (p.take i) f a b
    have Tl:=lV (p.take i) f b a
    rw[List.length_take]at Tk Tl
    have hl1:=blo b a
    have hl2:=blo a b
    have Qp:=hF.le a b ED EF
    have hu2:=hF.le b a EF ED
    have hca:=hc a b ED EF
    have EG:=hc b a EF ED
    generalize lU f (p.take i)=fl at *
    have gA:=rY (R:=R2) (n:=cnt) ED
    have gB:=rY (R:=R2) (n:=cnt) EF
    have rA:=cM.r2 _ ED
    have rB:=cM.r2 _ EF
    have cA:=ec (f:=fl a) EF
    have cB:=ec (f:=fl b) ED
    have sA:=ou (f:=fl) (a:=a) (d:=1) EF
    have NC:bump fl a b 1 b=fl b:=jU fun h=>rh h.symm
    have sB:=ou (f:=bump fl a b 1) (a:=b) (b:=a) (d:=-1) (n:=cnt) ED
    rw[NC]at sB
    have gX:=cM.x
    have g2:=cM.t2
    have gz:(a:Int)<(cnt:Int):=by omega
    have fS:(b:Int)<(cnt:Int):=by omega
    have RQ:IntKind.i64.wrap ((i:Int)-1)=((i-1:Nat):Int):=by rw[bQ (by omega)];omega
    have Be:((i-1:Nat):Int)<(p.length:Int):=by omega
    have wA:IntKind.i64.wrap (fl a b+1)=fl a b+1:=bQ (by omega)
    have wB:IntKind.i64.wrap (fl b a-1)=fl b a+-1:=by rw[bQ (by omega)];omega
    have Qt:IntKind.i64.wrap ((i:Int)+1)=((i+1:Nat):Int):=aC (by omega)
    have l2:=j4 R2 cnt cnt
    have lA:=dG (fl a) cnt
    have lB:=dG (fl b) cnt
    have gM:(R2 a=R2 b)=False:=by simp only[eq_iff_iff,iff_false];exact fun h=>rh (I.i2 _ _ ED EF h)
    have Il:(R2 b=R2 a)=False:=by simp only[eq_iff_iff,iff_false];exact fun h=>rh (I.i2 _ _ ED EF h.symm)
    have xA:=zY I.sx (I.Mu a ED) (by decide)
    have xB:=zY I.sx (I.Mu b EF) (by decide)
    have yA:=zY I.s2 (I.Mu a ED) (by decide)
    have yB:=zY I.s2 (I.Mu b EF) (by decide)
    have qX:=dP (i:=X) (n:=st_c.next) (by have:=I.vx;omega)
    have q2:=dP (i:=o2) (n:=st_c.next) (by have:=I.v2;omega)
    have qA:=dP (i:=R2 a) (n:=st_c.next) (by have:=I.Pd a ED;omega)
    have qB:=dP (i:=R2 b) (n:=st_c.next) (by have:=I.Pd b EF;omega)
    rw[bu]at cA cB sA sB
    (try((repeat(revert hN;revert N;apply Pn.out));refine wk (tw @c0 (tw @c9 (tw @ju (tw @nG (tw @nA (tw @hi (tw @Be (tw @P3 (tw @P4 (tw @gA (tw @gB (tw @rA (tw @rB (tw @cA (tw @cB (tw @sA (tw @sB (tw @gX (tw @g2 (tw @gz (tw @fS (tw @RQ (tw @wA (tw @wB (tw @Qt (tw @l2 (tw @lA (tw @lB (tw @gM (tw @Il (tw @xA (tw @xB (tw @yA (tw @yB (tw @qX (tw @q2 (tw @qA @qB))))))))))))))))))))))))))))))))))))) ?_;(repeat(refine Pn.mk ?_;intro N hN))))
    refine⟨_,?_,i+1,rfl,by omega,by omega,sd @Qt,?_,by(try dsimp only);omega⟩
    ·omega
    ·rw[xz]
     refine cM.push I ED EF rh ?_ ?_ fun j hj h1 h2=>?_
     ·simp only[go_sem, ↓reduceIte,Nat.reduceEqDiff,Nat.reduceAdd,Nat.reduceSub,Nat.reduceLeDiff,reduceCtorEq,gM]
     ·simp only[go_sem, ↓reduceIte,Nat.reduceEqDiff,Nat.reduceAdd,Nat.reduceSub,Nat.reduceLeDiff,reduceCtorEq,gM]
     ·simp only[go_sem, ↓reduceIte,Nat.reduceEqDiff,Nat.reduceAdd,Nat.reduceSub,Nat.reduceLeDiff,reduceCtorEq,h1,h2]
   ·have JY:i=p.length:=by omega
    subst JY
    rw[List.take_length]at cM
    have NR:IntKind.i64.wrap ((k:Int)+1)=((k+1:Nat):Int):=aC (by omega)
    have S6:=PG.bound (S:=fun v=>decide (v=x)) hxS hyS
    (try((repeat(revert hN;revert N;apply Pn.out));refine wk (tw @c0 (tw @c9 (tw @ju (tw @nG (tw @nA (tw @hi @NR)))))) ?_;(repeat(refine Pn.mk ?_;intro N hN))))
    refine⟨_,?_,k+1,_,rfl,sd @NR,by rw[Int.natCast_add];exact PG,cM,by(try dsimp only);omega,fun _=>by omega,fun u v=>?_⟩
    ·rw[<-TE]at S6;omega
    ·have h1:=(lV p f u v).2
     have h2:=blo u v
     rw[Int.natCast_add,Int.add_mul]
     omega
end Go.Proofs.YtgoelphibofcmaaGreat.V

namespace Go.Proofs.YtgoelphibofcmaaGreat.V
open Go.RowKit
attribute [local irreducible] eh wpOps fI Call
attribute [local go_sem] aM fj eJ fF fE da upd cu K.av cI AV.cells AV.cell rowOf rowsOf part ld rowAt bK bV dq dM gy bD cY dY fA eS dk dR cW cV dD dE bG bc cL bF cP cN dO dS dQ cK bL cX dN bE aO cR cz gx bm cH bH aY dp bl dr AV.undef bt bz dF dL dy dC cF dX eb cw dV dU cQ cU List.getD_cons_zero List.getD_cons_succ List.getD_nil List.all_cons List.all_nil Bool.and_true Bool.true_and Bool.and_self Bool.not_true Bool.not_false Option.map_some Option.map_none Option.bind_some Option.bind_none List.length_cons List.length_nil List.take_succ_cons List.take_zero List.take_nil List.drop_succ_cons List.drop_zero List.drop_nil List.head?_cons List.map_cons List.map_nil List.getElem?_cons_zero List.getElem?_cons_succ List.cons_append List.nil_append List.append_nil List.length_map List.set_cons_zero List.set_cons_succ Nat.reduceMul eq_self Int.toNat_natCast Int.natCast_nonneg and_self true_and and_true decide_true decide_false Bool.false_eq_true Nat.zero_add Nat.add_zero List.contains_cons List.contains_nil Bool.or_false Bool.false_or beq_self_eq_true Nat.reduceBEq ne_eq not_true_eq_false not_false_eq_true Id.mk.injEq false_and and_false Nat.reduceLT Int.reduceLE Int.reduceLT Int.reduceToNat Int.reduceNeg Int.reduceAdd Nat.le_refl List.length_append beq_true beq_false Bool.not_eq_eq_eq_not or_false false_or dK aj ar aH bd br bW aT aZ aU bf cJ bw
noncomputable def tx (n:Nat) (bs:List PB) (t:Int):Bool:=@decide (kq n bs t) (Classical.propDecidable _)
theorem yg {n:Nat} {bs:List PB} {t:Int} (h:kq n bs t):true=tx n bs t:=by simp[tx,h]
theorem Bi {n:Nat} {bs:List PB} {t:Int} (h:¬kq n bs t):false=tx n bs t:=by simp[tx,h]
theorem KP (cnt:Nat) (hn:cnt<=1048576) (bs:List PB) (hb:∀b∈bs,b.a<cnt/\b.b<cnt) (eC:∀b∈bs,0<=b.s/\b.s<=4) (qq:bs.length<=1048576) (t:Int) (ht:t<=1099511627776):
  au Tryz.prog 223 [.int .i64 cnt,.sl (bs.map aB),.int .i64 t] (.bool (tx cnt bs t)):=by
 refine au.body eG rfl fun hl n0=>?_
 clear hl
 have qt:=zQ bs (fun _ _=>0) (fun b h=>(eC b h).1) (fun _ _=>Int.le_refl _)
 have hle:=room_le bs (fun _ _=>0) 0 (fun b h=>(eC b h).2) (fun _ _=>Int.le_refl _) (Int.le_refl _)
 have eL:bs.foldl nE (fun _ _=>0)=kT bs:=rfl
 rw[eL]at qt hle
 (try((repeat(revert hN;revert N;apply Pn.out));refine wk @Nat.zero_add ?_;(repeat(refine Pn.mk ?_;intro N hN))))
 refine bh (fun m env st=>∃y:Nat,m=cnt+1-y/\1<=y/\env 7=.int .i64 (y:Int)/\y<=cnt+1/\∀z,1<=z->z<y->z<cnt->∀S:Nat->Bool,S 0=true->S z=false->t<=jb S bs) (cnt+1-1) ⟨1,rfl,Nat.le_refl _,by(simp only[go_sem, ↓reduceIte,Nat.reduceEqDiff,Nat.reduceAdd,Nat.reduceSub,Nat.reduceLeDiff,reduceCtorEq])<;>rfl,by omega,fun z h1 h2=>by omega⟩ ?_
 rintro m env_b st_b ⟨y,rfl,Qw,b7,hyl,ef⟩ bkp
 have b0:=bkp 0 (by kernel_rfl)
 have b1:=bkp 1 (by kernel_rfl)
 have b2:=bkp 2 (by kernel_rfl)
 simp only[go_sem, ↓reduceIte,Nat.reduceEqDiff,Nat.reduceAdd,Nat.reduceSub,Nat.reduceLeDiff,reduceCtorEq]at b0 b1 b2
 clear bkp
 by_cases hy:(y:Int)<(cnt:Int)
 ·have hyn:y<cnt:=by omega
  (try((repeat(revert hN;revert N;apply Pn.out));refine wk (tw @b0 (tw @b1 (tw @b2 (tw @b7 @hy)))) ?_;(repeat(refine Pn.mk ?_;intro N hN))))
  refine .inr (aJ _ _ _ _ _ (fun r σ1 hq=>?_) (BR cnt (by omega) hn bs hb eC qq _))
  obtain⟨X,o1,o2,R1,R2,rfl,I,KL,hM,_⟩:=hq
  refine hN _ _ ?_
  clear hN N
  (try((repeat(revert hN;revert N;apply Pn.out));refine wk (tw @b0 (tw @b1 (tw @b2 @b7))) ?_;(repeat(refine Pn.mk ?_;intro N hN))))
  have hsd:=N9 cnt (by omega) hn (kT bs) (fun u v _ _=>⟨qt u v,by have:=hle u v;omega⟩) 0 y (by omega) hyn (by omega) t ht X o1 o2 R1 R2 σ1.next I
  refine .inr (aJ _ _ _ _ _ (fun r σ2 hq=>?_) (hsd _ hM (by(try dsimp only);omega)))
  obtain⟨val,rfl,rD,mM⟩:=hq
  refine hN _ _ ?_
  clear hN N
  by_cases eo:val<t
  ·(try((repeat(revert hN;revert N;apply Pn.out));refine wk (tw @b0 (tw @b1 (tw @b2 (tw @b7 @eo)))) ?_;(repeat(refine Pn.mk ?_;intro N hN))))
   obtain⟨S,h1,h2,h3⟩:=rD.1 eo
   rw[AQ hb]at h3
   exact aX (b:=false) (.inl rfl) (sd @Nat.zero_add) (Bi fun h=>by have:=h S h1 ⟨y,hyn,h2⟩;omega)
  ·have hw:IntKind.i64.wrap ((y:Int)+1)=((y+1:Nat):Int):=aC (by omega)
   (try((repeat(revert hN;revert N;apply Pn.out));refine wk (tw @b0 (tw @b1 (tw @b2 (tw @b7 (tw @eo @hw))))) ?_;(repeat(refine Pn.mk ?_;intro N hN))))
   refine⟨_,?_,y+1,rfl,by omega,sd (tw @b7 @hw),by omega,fun z h1 h2 h3 S Nj Nk=>?_⟩
   ·omega
   ·by_cases hzy:z=y
    ·subst hzy
     rcases Int.lt_or_le (jb S bs) t with h|h
     ·exact absurd (rD.2 ⟨S,Nj,Nk,by rw[AQ hb];exact h⟩) eo
     ·exact h
    ·exact ef z h1 (by omega) h3 S Nj Nk
 ·(try((repeat(revert hN;revert N;apply Pn.out));refine wk (tw @b0 (tw @b1 (tw @b2 (tw @b7 @hy)))) ?_;(repeat(refine Pn.mk ?_;intro N hN))))
  exact aX (b:=true) (.inl rfl) (sd @Nat.zero_add) (yg fun S h0 ⟨z,hz,hzf⟩=>by
   have:z≠0:=by rintro rfl;rw[h0]at hzf;cases hzf
   exact ef z (by omega) (by omega) hz S h0 hzf)
theorem Im (cnt:Nat) (hn:cnt<=1048576) (bs:List PB) (hb:∀b∈bs,b.a<cnt/\b.b<cnt) (eC:∀b∈bs,0<=b.s/\b.s<=4) (qq:bs.length<=1048576) (t:Int) (ht:t<=1099511627776):
  au Tryz.prog 223 [.int .i64 cnt,zV bs,.int .i64 t] (.bool (tx cnt bs t)):=by
 have h:=KP cnt hn bs hb eC qq t ht
 cases bs with
 |nil=>exact h.cut mixed (.same _ (.bq (.same _ .nil)))
 |cons b r=>rw[zW (by simp)];exact h
end Go.Proofs.YtgoelphibofcmaaGreat.V

namespace Go.Proofs.YtgoelphibofcmaaGreat.V
open Go.RowKit
attribute [local irreducible] eh wpOps fI Call
attribute [local go_sem] aM fj eJ fF fE da upd cu K.av cI AV.cells AV.cell rowOf rowsOf part ld rowAt bK bV dq dM gy bD cY dY fA eS dk dR cW cV dD dE bG bc cL bF cP cN dO dS dQ cK bL cX dN bE aO cR cz gx bm cH bH aY dp bl dr AV.undef bt bz dF dL dy dC cF dX eb cw dV dU cQ cU List.getD_cons_zero List.getD_cons_succ List.getD_nil List.all_cons List.all_nil Bool.and_true Bool.true_and Bool.and_self Bool.not_true Bool.not_false Option.map_some Option.map_none Option.bind_some Option.bind_none List.length_cons List.length_nil List.take_succ_cons List.take_zero List.take_nil List.drop_succ_cons List.drop_zero List.drop_nil List.head?_cons List.map_cons List.map_nil List.getElem?_cons_zero List.getElem?_cons_succ List.cons_append List.nil_append List.append_nil List.length_map List.set_cons_zero List.set_cons_succ Nat.reduceMul eq_self Int.toNat_natCast Int.natCast_nonneg and_self true_and and_true decide_true decide_false Bool.false_eq_true Nat.zero_add Nat.add_zero List.contains_cons List.contains_nil Bool.or_false Bool.false_or beq_self_eq_true Nat.reduceBEq ne_eq not_true_eq_false not_false_eq_true Id.mk.injEq false_and and_false Nat.reduceLT Int.reduceLE Int.reduceLT Int.reduceToNat Int.reduceNeg Int.reduceAdd Nat.le_refl List.length_append beq_true beq_false Bool.not_eq_eq_eq_not or_false false_or dK aj ar aH bd br bW aT aZ aU bf cJ bw
def Cw:Prop:=∀(s:ax) (l:List ah),gY s->lE s l->au Tryz.prog 222 [.agg (ae s),.agg [.sl (l.map aa)]] (zV (db s l))
noncomputable def ux (s:ax) (l:List ah) (t:Int):Bool:=if 64<il s l t then false else tx (il s l t) (dt (eD (aQ t (db s l))) (db s l)) t
theorem Dl (s:ax) (l:List ah) (t:Int):ux s l t=nB s l t:=by
 letI:=Classical.propDecidable (pa l.length (db s l) t)
 unfold ux
 by_cases h:64<il s l t
 ·rw[if_pos h]
  exact(me (p:=False) ⟨False.elim,fun k=>by have:=k.1;unfold il at h;omega⟩).symm.trans (by simp) |>.symm
 ·rw[if_neg h]
  by_cases hp:kq (il s l t) (dt (eD (aQ t (db s l))) (db s l)) t
  ·rw[<-yg hp]
   exact((me (p:=True) ⟨fun _=>⟨by unfold il at h;omega,hp⟩,fun _=>trivial⟩).symm.trans (by simp)).symm
  ·rw[<-Bi hp]
   exact((me (p:=False) ⟨False.elim,fun k=>hp k.2⟩).symm.trans (by simp)).symm
theorem Jj (Sv:Cw) (s:ax) (l:List ah) (t:Int) (ht:t<=1099511627776) (h1:1<=l.length) (hS:gY s) (hA:lE s l):au Tryz.prog 197 [.agg (ae s),.agg [.sl (l.map aa)],.int .i64 t] (.iO [.bool (nB s l t),.bool (decide ¬64<il s l t)]):=by
 rw[<-Dl]
 refine au.body eG rfl fun hl n0=>?_
 clear hl
 have hb:=xS (l:=l) hS
 have qq:=qa (s:=s) hA.1
 have Ns:=hA.1.zb
 have w5:=Sv s l hS hA
 have PV:=y9 l.length h1 (by omega) (db s l) (fun b h=>⟨(hb b h).1,(hb b h).2.1⟩) (by omega) t
 have hL:=tF (aQ t (db s l))
 have fB:=DR hL (fun b h=>⟨(hb b h).1,(hb b h).2.1⟩)
 have hlen:=(nh (eD (aQ t (db s l))) (db s l)).1
 have mL:=jL l.length (eD (aQ t (db s l)))
 have hho:=Im (il s l t) (by unfold il;omega) (dt (eD (aQ t (db s l))) (db s l)) (fun b h=>⟨(fB b h).1,(fB b h).2.1⟩) (fun b h=>by
  obtain⟨_,_,_,c,hc,du⟩:=fB b h
  rw[du];have:=hb c hc;omega) (by omega) t ht
 have fY:(l.map aa).length=l.length:=by simp
 have hzB:∀(g:Rows) (n:Nat) (bs:List PB),V.fz g (n+1) (zV bs)=some (zV bs):=fun g n bs=>by
  unfold zV;split
  ·exact aT _ _
  ·exact bW _ _ _
 rw[ae]at w5
 rw[<-il]at PV
 have yj:∀(g:Rows) (x:Int),dd (dK g) 6 [.int .i64 l.length,zV (db s l),.int .i64 x]=some [.int .i64 l.length,zV (db s l),.int .i64 x]:=fun g x=>by simp only[aj,ar,aH,hzB,Option.map_some]
 have hzh:∀(g:Rows) (x y:Int),dd (dK g) 6 [.int .i64 x,zV (dt (eD (aQ t (db s l))) (db s l)),.int .i64 y]=some [.int .i64 x,zV (dt (eD (aQ t (db s l))) (db s l)),.int .i64 y]:=fun g x y=>by simp only[aj,ar,aH,hzB,Option.map_some]
 generalize zV (db s l)=B1 at *
 generalize zV (dt (eD (aQ t (db s l))) (db s l))=B2 at *
 by_cases ub:(64:Int)<(il s l t:Int)
 ·have uc:64<il s l t:=by omega
  (repeat(first|((repeat(revert hN;revert N;apply Pn.out));refine wk (tw @ae.eq_1 (tw @ub @fY)) ?_;(repeat(refine Pn.mk ?_;intro N hN)))|((try apply Or.inl);refine⟨_,au.x (w5) (sd (tw @ae.eq_1 (tw @ub @fY))),?_⟩;refine hN _ _ ?_;clear hN N)))
  refine⟨_,au.x PV (yj _ _),?_⟩
  refine hN _ _ ?_
  clear hN N
  (try((repeat(revert hN;revert N;apply Pn.out));refine wk @ub ?_;(repeat(refine Pn.mk ?_;intro N hN))))
  exact js (.inl rfl) (r1:=.bool false) (r2:=.bool false) (sd @Nat.zero_add) (sd @Nat.zero_add) (by rw[ux,if_pos uc,decide_eq_false fun h=>h uc];simp only[eM,bJ,cD,fN,Option.map_some])
 ·have uc:¬64<il s l t:=by omega
  (repeat(first|((repeat(revert hN;revert N;apply Pn.out));refine wk (tw @ae.eq_1 (tw @ub @fY)) ?_;(repeat(refine Pn.mk ?_;intro N hN)))|((try apply Or.inl);refine⟨_,au.x (w5) (sd (tw @ae.eq_1 (tw @ub @fY))),?_⟩;refine hN _ _ ?_;clear hN N)))
  refine⟨_,au.x PV (yj _ _),?_⟩
  refine hN _ _ ?_
  clear hN N
  (try((repeat(revert hN;revert N;apply Pn.out));refine wk @ub ?_;(repeat(refine Pn.mk ?_;intro N hN))))
  refine .inl ⟨_,au.x hho (hzh _ _ _),?_⟩
  refine hN _ _ ?_
  clear hN N
  (try((repeat(revert hN;revert N;apply Pn.out));refine wk @Nat.zero_add ?_;(repeat(refine Pn.mk ?_;intro N hN))))
  exact js (.inl rfl) (r1:=.bool (tx (il s l t) (dt (eD (aQ t (db s l))) (db s l)) t)) (r2:=.bool true) (sd @Nat.zero_add) (sd @Nat.zero_add) (by rw[ux,if_neg uc,decide_eq_true uc];simp only[eM,bJ,cD,fN,Option.map_some])
theorem ue (t:Int):au Tryz.prog 196 [.int .i64 t] (.bool (iC t 1 16)):=by
 refine au.body eG rfl fun hl n0=>?_
 clear hl
 have h:=j5 t 1 16
 (repeat(first|((repeat(revert hN;revert N;apply Pn.out));refine wk @Nat.zero_add ?_;(repeat(refine Pn.mk ?_;intro N hN)))|((try apply Or.inl);refine⟨_,au.x (h) (sd @Nat.zero_add),?_⟩;refine hN _ _ ?_;clear hN N)))
 exact aX (b:=iC t 1 16) (.inl rfl) (sd @Nat.zero_add) rfl
theorem xh (Sv:Cw) (s:aI) (hn:fm s.aD) (hg:s.aD.aA.length<=1048576) (ht:s.aD.aq.length<=1048576) (hs:∀t∈s.aD.aq,t.bI.length<=1048576) (hl:s.bx.aq.length<=1048576):au Tryz.prog 105 [.agg (az s)] (.bool (nj s)):=by
 refine au.body eG rfl fun lf n0=>?_
 clear lf
 by_cases h0:(s.bx.aq.length:Int)=0
 ·have hd:decide ((s.bx.aq.length:Int)=0)=true:=decide_eq_true h0
  (try((repeat(revert hN;revert N;apply Pn.out));refine wk (tw @az.eq_1 @hd) ?_;(repeat(refine Pn.mk ?_;intro N hN))))
  exact aX (b:=false) (.inl rfl) (sd @Nat.zero_add) (jS fun h=>by have:=h.some;omega)
 have hd:decide ((s.bx.aq.length:Int)=0)=false:=decide_eq_false h0
 have Nl:=nv s.aD s.bx.aq hn hg ht hs hl
 have PL:=ue s.ay
 have key:au Tryz.prog 163 [.agg (ae s.aD),.agg [.sl (s.bx.aq.map aa)],.int .i64 s.ay] (.iO [.bool (nj s),.int .i64 (if qI s.aD&&pH s.aD s.bx.aq then(if iC s.ay 1 16 then(if 64<il s.aD s.bx.aq s.ay then 4 else 0)else 2)else 1)]):=by
  refine au.body eG rfl fun lf n0=>?_
  clear lf
  rw[ae]at Nl
  cases hA:qI s.aD&&pH s.aD s.bx.aq
  ·rw[hA]at Nl
   have lF:nj s=false:=(jS fun h=>by rw[mc.2 h.set,lT.2 h.GB]at hA;cases hA).symm
   (repeat(first|((repeat(revert hN;revert N;apply Pn.out));refine wk @ae.eq_1 ?_;(repeat(refine Pn.mk ?_;intro N hN)))|((try apply Or.inl);refine⟨_,au.x (Nl) (sd @ae.eq_1),?_⟩;refine hN _ _ ?_;clear hN N)))
   exact js (.inl rfl) (r1:=.bool false) (r2:=.int .i64 1) (sd @Nat.zero_add) (sd @Nat.zero_add) (by rw[lF];simp only[eM,bJ,cD,fN,eA,Option.map_some];rfl)
  rw[hA]at Nl
  simp only[Bool.and_eq_true]at hA
  have hS:=mc.1 hA.1
  have hP:=lT.1 hA.2
  cases hT:iC s.ay 1 16
  ·rw[hT]at PL
   have lF:nj s=false:=(jS fun h=>by have:=h.Jw;rw[hT]at this;cases this).symm
   (repeat(first|((repeat(revert hN;revert N;apply Pn.out));refine wk @ae.eq_1 ?_;(repeat(refine Pn.mk ?_;intro N hN)))|((try apply Or.inl);refine⟨_,au.x (Nl) (sd @ae.eq_1),?_⟩;refine hN _ _ ?_;clear hN N)|((try apply Or.inl);refine⟨_,au.x (PL) (sd @ae.eq_1),?_⟩;refine hN _ _ ?_;clear hN N)))
   exact js (.inl rfl) (r1:=.bool false) (r2:=.int .i64 2) (sd @Nat.zero_add) (sd @Nat.zero_add) (by rw[lF];simp only[eM,bJ,cD,fN,eA,Option.map_some];rfl)
  have KV:=ej hT
  rw[hT]at PL
  have eC:=Jj Sv s.aD s.bx.aq s.ay (by omega) (by omega) hS hP
  rw[ae]at eC
  have hsy:nj s=nB s.aD s.bx.aq s.ay:=by
   cases hB:nB s.aD s.bx.aq s.ay
   ·exact(jS fun h=>by have:=pr.2 h.holds;rw[hB]at this;cases this).symm
   ·exact(B7 ⟨hS,hP,by omega,hT,pr.1 hB⟩).symm
  by_cases ub:64<il s.aD s.bx.aq s.ay
  ·rw[decide_eq_false fun h=>h ub]at eC
   have lF:nj s=false:=(jS fun h=>by have:=h.holds.1;unfold il at ub;omega).symm
   (repeat(first|((repeat(revert hN;revert N;apply Pn.out));refine wk @ae.eq_1 ?_;(repeat(refine Pn.mk ?_;intro N hN)))|((try apply Or.inl);refine⟨_,au.x (Nl) (sd @ae.eq_1),?_⟩;refine hN _ _ ?_;clear hN N)|((try apply Or.inl);refine⟨_,au.x (PL) (sd @ae.eq_1),?_⟩;refine hN _ _ ?_;clear hN N)|((try apply Or.inl);refine⟨_,au.x (eC) (sd @ae.eq_1),?_⟩;refine hN _ _ ?_;clear hN N)))
   exact js (.inl rfl) (r1:=.bool false) (r2:=.int .i64 4) (sd @Nat.zero_add) (sd @Nat.zero_add) (by rw[lF,if_pos ub];simp only[eM,bJ,cD,fN,eA,Option.map_some])
  ·rw[decide_eq_true ub,<-hsy]at eC
   (repeat(first|((repeat(revert hN;revert N;apply Pn.out));refine wk @ae.eq_1 ?_;(repeat(refine Pn.mk ?_;intro N hN)))|((try apply Or.inl);refine⟨_,au.x (Nl) (sd @ae.eq_1),?_⟩;refine hN _ _ ?_;clear hN N)|((try apply Or.inl);refine⟨_,au.x (PL) (sd @ae.eq_1),?_⟩;refine hN _ _ ?_;clear hN N)|((try apply Or.inl);refine⟨_,au.x (eC) (sd @ae.eq_1),?_⟩;refine hN _ _ ?_;clear hN N)))
   exact js (.inl rfl) (r1:=.bool (nj s)) (r2:=.int .i64 0) (sd @Nat.zero_add) (sd @Nat.zero_add) (by rw[if_neg ub];simp only[eM,bJ,cD,fN,eA,Option.map_some])
 generalize hcode:(if qI s.aD&&pH s.aD s.bx.aq then(if iC s.ay 1 16 then(if 64<il s.aD s.bx.aq s.ay then(4:Int)else 0)else 2)else 1)=code at key
 rw[ae]at key
 cases hB:nj s
 ·rw[hB]at key
  (repeat(first|((repeat(revert hN;revert N;apply Pn.out));refine wk (tw @az.eq_1 @hd) ?_;(repeat(refine Pn.mk ?_;intro N hN)))|((try apply Or.inl);refine⟨_,au.x (key) (sd (tw @az.eq_1 @hd)),?_⟩;refine hN _ _ ?_;clear hN N)))
  exact aX (b:=false) (.inl rfl) (sd @Nat.zero_add) rfl
 ·rw[hB]at key
  have hP:=wN.1 hB
  have hc:code=0:=by
   rw[<-hcode,mc.2 hP.set,lT.2 hP.GB,hP.Jw]
   have:=hP.holds.1
   simp only[Bool.and_self,if_true]
   rw[if_neg (by unfold il;omega)]
  rw[hc]at key
  (repeat(first|((repeat(revert hN;revert N;apply Pn.out));refine wk (tw @az.eq_1 @hd) ?_;(repeat(refine Pn.mk ?_;intro N hN)))|((try apply Or.inl);refine⟨_,au.x (key) (sd (tw @az.eq_1 @hd)),?_⟩;refine hN _ _ ?_;clear hN N)))
  exact aX (b:=true) (.inl rfl) (sd @Nat.zero_add) rfl
end Go.Proofs.YtgoelphibofcmaaGreat.V

namespace Go.Proofs.YtgoelphibofcmaaGreat.V
open Go.RowKit
variable {P:Program} {hs:Nat}
theorem GW {q n i:Nat} {ops:Array Oper} {Q:Exit->Act->World->Prop} {K K':Act->World->Prop} {a:Act} {w:World} (mm:∀(j:Nat) (o:Oper),ops[j]? =some o->∀c,o.op≠.defer c) (lF:¬LetsOut Q) (hK:∀a w,K a w->K' a w) (h:wpOp P ops Q i K a w):wpOpIn (Fence.wide.inRound q) n P ops Q i K' a w:=by
 unfold wpOp at h
 unfold wpOpIn
 split at h
 ·rename_i ho;simp only[ho];exact hK _ _ h
 ·rename_i o ho
  simp only[ho]
  split at h
  ·rename_i hw
   rw[if_pos hw]
   replace h:=h.resolve_right fun hc=>lF hc.2
   refine⟨fun _ _=>trivial,?_⟩
   rw[Oper.semAt_eq _ _ _ (mm i o ho)]
   unfold Oper.wp at h
   generalize (execOp a.eval o).run P w=r at *
   cases r with
   |ok m w'=>
    cases m<;>simp only[Oper.upon,Oper.uponIn]at h ⊢
    case value=>exact hK _ _ h
    case skip=>exact hK _ _ h
    case defer=>exact hK _ _ h
    case enter f args=>
     refine⟨fun h=>by simp[Fence.wide]at h,CallsIn.inRound q (callsIn_wide.2 (h.mono fun e J8 he=>?_))⟩
     cases e with
     |returned v=>exact hK _ _ he
     |panicked c=>exact he
     |outgrown=>exact he
    case row r args=>exact⟨fun h=>by simp[Fence.wide]at h,fun c cs _=>let ⟨v,J8,h1,s⟩:=h c cs;⟨v,J8,hK _ _ h1,stepsIn_wide.2 s⟩⟩
   |halt x w'=>cases x<;>simp only[Oper.upon,Oper.uponIn]at h ⊢;exact h
  ·rename_i hw
   rw[if_neg hw]
   exact⟨fun _ _=>trivial,hK _ _ h⟩
theorem wZ {q n:Nat} {md:Region.Mode} {ops:Array Oper} {Q:Exit->Act->World->Prop} (mm:∀(j:Nat) (o:Oper),ops[j]? =some o->∀c,o.op≠.defer c) (lF:¬LetsOut Q):∀(fuel:Nat) (listed:Array Bool) (a:Act) (w:World),wpAny P md ops Q fuel listed a w->wpAnyIn (Fence.wide.inRound q) n P md ops Q fuel listed a w
 |0,_,_,_,h=>h
 |fuel+1,listed,_,_,h=>⟨h.1,fun i hi=>GW mm lF (fun a w=>wZ mm lF fuel _ a w) (h.2 i hi)⟩
def EW:Op->Bool
 | .defer _=>true
 |_=>false
theorem IV {ops:Array Oper} (h:(ops.all fun o=> !EW o.op)=true):∀(j:Nat) (o:Oper),ops[j]? =some o->∀c,o.op≠.defer c:=fun j o hj c hc=>by
 have:=Array.all_eq_true_iff_forall_mem.1 h o (Array.mem_of_getElem? hj)
 rw[hc]at this
 simp[EW]at this
theorem zP (hm:P.follows .mixedOrders=true) {nt site0 id q n:Nat} {ops:Array Oper} {vl:List bB} (h:qY P nt site0 ops true false=some vl) (mm:∀(j:Nat) (o:Oper),ops[j]? =some o->∀c,o.op≠.defer c)
  {K:Env->aw->Prop} {env:Env} {σ:aw} {a:Act} {w:World} {D:Nat->Prop} {ι:Names} {Q:Exit->Act->World->Prop} (hv:wpOps (Sound P) true vl K env σ) (eC:St P hs nt D ι env σ a w)
  (hK:∀iA σ' a' w' D' ι',K iA σ'->Step hs D ι w D' ι' w'->St P hs nt D' ι' iA σ' a' w'->a'.defers=a.defers->Q .normal a' w'):(Code.region id ops true).wpIn (Fence.wide.inRound q) n P Q a w:=by
 have ef:∃hidden tb,allM (l5 P ops nt site0 true false (jx ops) hidden) ops.toList 0=some tb/\vl=tb/\oy ops tb (jx ops)=true:=by
  unfold qY at h
  simp only[if_true,Bool.not_true,Bool.false_or]at h
  split at h
  ·rename_i tb h'
   split at h
   ·rename_i vN;simp at h;exact⟨_,tb,h',h.symm,vN⟩
   ·cases h
  ·cases h
 obtain⟨hidden,tb,ef,rfl,vN⟩:=ef
 obtain⟨rz,T0⟩:=eC.drew
 obtain⟨hlen,_⟩:=oq ef
 have jG:vl.length=ops.size:=by rw[hlen];simp
 have C4:=wV (X:=Sound P) (K:=K) (n:=σ.next) vN jG vl 0 (Array.replicate ops.size false) env σ.get (by simp) (by simp) (fun i hi=>by simp[hi]) (by simp[jG]) (fun k i h=>by
  exfalso
  rcases Nat.lt_or_ge k ops.size with hk|hk
  ·simp[hk]at h
  ·simp[Nat.not_lt.2 hk]at h) hv
 rw[jG]at C4
 have hw:=xN (Q:=fun e a w=>e=.normal/\Q .normal a w) ef ops.size _ env σ.get a w.drew D ι (fun _=>False) C4 rz.J7 rz.used (fun _ h=>h.elim) rz.env rz.size fun jy g1 a1 w1 D1 ι1 U1 hk T S1 R9 E1 Aq hd=>⟨rfl,hK jy ⟨g1,σ.next+1⟩ a1 w1 D1 ι1 hk (T0.trans T) ⟨S1,R9.next,E1,Aq⟩ hd⟩
 have fB:=wZ (q:=q) (n:=n) (Q:=fun e a w=>e=.normal/\Q .normal a w) mm (by rintro⟨_,_,hc,_⟩;cases hc) ops.size _ a w.drew hw
 refine wpIn_mono (wpIn_region_any (id:=id) hm fB) ?_
 rintro e a w ⟨rfl,h⟩
 exact h
end Go.Proofs.YtgoelphibofcmaaGreat.V
