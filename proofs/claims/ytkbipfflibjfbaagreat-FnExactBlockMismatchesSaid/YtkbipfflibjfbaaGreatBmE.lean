/- Marks on lists of lists of numbers. -/
import Derived.Test.YtkbipfflibjfbaaGreatBmD
import Derived.Test.YtkbipfflibjfbaaGreatBmC
import Derived.Test.YtkbipfflibjfbaaGreatBmA
import Derived.Test.YtkbipfflibjfbaaGreatChecked
import Derived.RangeFuncCalls
import Derived.OrdersIn
import Derived.LoopNIn
import Derived.TacticsIn
import Derived.Test.YtkbipfflibjfbaaGreatBmB
import Derived.Shelf.SlSortCmp.WholeK
import Derived.Shelf.SlSortCmp.NoneTotal
import Derived.Ground.SlsfProg
import Derived.Test.YtkbipfflibjfbaaGreatProg
import Derived.WalkKit
import Derived.BigRegion
import Derived.RangeFuncNested
import Derived.RangeFuncBound
import Derived.RangeFuncLeaves
import Derived.Shelf.Abstract
import Derived.Shelf.RegionOpen
import Derived.OwnWalkIn
import Derived.TacticsInMore
import Derived.LoopIn
import Derived.BigQuiet
import Derived.RangeFuncBox
import Derived.RangeFuncWrites
import Derived.Maps.AppendAt
set_option linter.unusedVariables false
set_option linter.unusedSimpArgs false
set_option maxRecDepth 100000
set_option maxHeartbeats 16000000
namespace Go.Proofs.YtkbipfflibjfbaaGreat.V
open Go.RowKit
attribute [local irreducible] ef wpOps gN Call
attribute [local go_sem] aH fJ eW fZ gh dh upd cD K.av cP AV.cells AV.cell rowOf rowsOf part ld rowAt bU cw dI ek iq bL de eD gj fq dx ew db da dW dY bR bd cU bQ cW cV er ez eu cR bV dc eo bP aL cY cI im br cH bz bc dB bo dF AV.undef bx bE dZ ej dV ec cJ eC eE cF eB eA cX cZ List.getD_cons_zero List.getD_cons_succ List.getD_nil List.all_cons List.all_nil Bool.and_true Bool.true_and Bool.and_self Bool.not_true Bool.not_false Option.map_some Option.map_none Option.bind_some Option.bind_none List.length_cons List.length_nil List.take_succ_cons List.take_zero List.take_nil List.drop_succ_cons List.drop_zero List.drop_nil List.head?_cons List.map_cons List.map_nil List.getElem?_cons_zero List.getElem?_cons_succ List.cons_append List.nil_append List.append_nil List.length_map List.set_cons_zero List.set_cons_succ Nat.reduceMul eq_self Int.toNat_natCast Int.natCast_nonneg and_self true_and and_true decide_true decide_false Bool.false_eq_true Nat.zero_add Nat.add_zero List.contains_cons List.contains_nil Bool.or_false Bool.false_or beq_self_eq_true Nat.reduceBEq ne_eq not_true_eq_false not_false_eq_true Id.mk.injEq false_and and_false Nat.reduceLT Int.reduceLE Int.reduceLT Int.reduceToNat Int.reduceNeg Int.reduceAdd Nat.le_refl List.length_append beq_true beq_false Bool.not_eq_eq_eq_not or_false false_or dM ai ao aD bt cz aY bj aV bf cL bJ
theorem clI (x:Int):(aX x).all AV.clean=true:=rfl
def TV (R:List Int):List AV:=[.sl (R.map aX)]
def Bl:yq (List Int):=fun g cs R ids=>∃u,cs=[.own u 0 R.length]/\g u=some ⟨true,1,R.map aX⟩/\ids=[u]
theorem Wh:uA Bl 1 where
 frame:=fun⟨i,h1,h2,h3⟩ hf=>⟨i,h1,(hf i (by rw[h3];simp)).trans h2,h3⟩
 len:=fun⟨i,h1,_⟩=>by rw[h1];rfl
 cell:=fun⟨i,h1,_⟩=>by rw[h1];rfl
 live:=fun⟨i,h1,h2,h3⟩ j hj=>by
  rw[h3]at hj
  have:j=i:=by simpa using hj
  subst this
  exact⟨_,h2,rfl,by simp[qt]⟩
 small:=by simp[qt]
theorem UD {g:Rows} {cs:List AV} {x:List Int} {ids:List Id} (n:Nat) (h:Bl g cs x ids):cQ (dM g) (n+2) cs=some (TV x):=by
 obtain⟨i,rfl,h2,_⟩:=h
 have h3:V.fz (dM g) (n+2) (.own i 0 x.length)=some (.sl (x.map aX)):=gH (e:=aX) (sz:=1) (by simp[dM,h2]) rfl fun y=>by simp[aX,ai,ao,aD]
 simp only[ai,ao,h3,Option.map_some,TV]
theorem Th {g:Rows} {cs:List AV} {x:List Int} {ids:List Id} (n:Nat) (h:Bl g cs x ids):eh g (n+2) cs=some (TV x):=by
 obtain⟨i,rfl,h2,_⟩:=h
 have h3:gw g (n+2) (.own i 0 x.length)=some (.sl (x.map aX)):=e9 (e:=aX) h2 rfl fun y=>by simp[aX,aI,aW,dw]
 simp only[aI,aW,h3,Option.map_some,TV]
theorem Ry {g:Rows} {cs:List AV} {x:List Int} {ids:List Id} (h:Bl g cs x ids):cs.all AV.clean=true/\Handed ids g:=by
 obtain⟨i,rfl,h2,rfl⟩:=h
 refine⟨rfl,fun j hj=>?_⟩
 rw[List.mem_singleton.1 hj]
 refine⟨_,h2,rfl,fun cs dy a ha=>?_⟩
 obtain⟨y,_,rfl⟩:=List.mem_map.1 dy
 exact List.all_eq_true.1 (clI y) a ha
def OutIs (g:Rows) (v:AV) (L:List (List Int)) (ids:List Id):Prop:=RE Bl 1 g v L ids
section
variable {g g':Rows} {v:AV} {L:List (List Int)} {ids:List Id}
end
end Go.Proofs.YtkbipfflibjfbaaGreat.V

namespace Go.Proofs.YtkbipfflibjfbaaGreat.V
open Go.RowKit
variable {g g':Rows} {v:AV} {L:List Int} {ids:List Id}
theorem fz5I (x:Int) (g:Rows):cQ g 5 (aX x)=some (aX x):=by simp[aX,ai,ao,aD]
theorem fzS4I (x:Int) (g:Rows):eh g 4 (aX x)=some (aX x):=by simp[aX,aI,aW,dw]
def OutI (g:Rows) (v:AV) (L:List Int) (ids:List Id):Prop:=lU aX 1 g v L ids
def GrJ (z m:Nat) (L:List Int) (v:AV) (g:Rows) (n:Nat):Prop:=(L=[]/\v=.ck)∨∃u:Id,v=.own u 0 L.length/\g u=some ⟨true,1,L.map aX⟩/\m<=u.cC/\u.cC<n/\0<L.length/\u.site=z
end Go.Proofs.YtkbipfflibjfbaaGreat.V

namespace Go.Proofs.YtkbipfflibjfbaaGreat.V
open Go.RowKit
attribute [local irreducible] ef wpOps gN Call
attribute [local go_sem] aH fJ eW fZ gh dh upd cD K.av cP AV.cells AV.cell rowOf rowsOf part ld rowAt bU cw dI ek iq bL de eD gj fq dx ew db da dW dY bR bd cU bQ cW cV er ez eu cR bV dc eo bP aL cY cI im br cH bz bc dB bo dF AV.undef bx bE dZ ej dV ec cJ eC eE cF eB eA cX cZ List.getD_cons_zero List.getD_cons_succ List.getD_nil List.all_cons List.all_nil Bool.and_true Bool.true_and Bool.and_self Bool.not_true Bool.not_false Option.map_some Option.map_none Option.bind_some Option.bind_none List.length_cons List.length_nil List.take_succ_cons List.take_zero List.take_nil List.drop_succ_cons List.drop_zero List.drop_nil List.head?_cons List.map_cons List.map_nil List.getElem?_cons_zero List.getElem?_cons_succ List.cons_append List.nil_append List.append_nil List.length_map List.set_cons_zero List.set_cons_succ Nat.reduceMul eq_self Int.toNat_natCast Int.natCast_nonneg and_self true_and and_true decide_true decide_false Bool.false_eq_true Nat.zero_add Nat.add_zero List.contains_cons List.contains_nil Bool.or_false Bool.false_or beq_self_eq_true Nat.reduceBEq ne_eq not_true_eq_false not_false_eq_true Id.mk.injEq false_and and_false Nat.reduceLT Int.reduceLE Int.reduceLT Int.reduceToNat Int.reduceNeg Int.reduceAdd Nat.le_refl List.length_append beq_true beq_false Bool.not_eq_eq_eq_not or_false false_or dM ai ao aD bt cz aY bj aV bf cL bJ
def Ih (z m:Nat) (L:List aq) (v:AV) (g:Rows) (n:Nat):Prop:=(L=[]/\v=.ck)∨∃u:Id,v=.own u 0 L.length/\g u=some ⟨true,2,L.map aa⟩/\m<=u.cC/\u.cC<n/\0<L.length/\u.site=z
theorem Ih.frame {z m:Nat} {L:List aq} {v v':AV} {g g':Rows} {n n':Nat} (h:Ih z m L v g n) (he:v'=v) (hn:n<=n') (hf:∀x:Id,x.cC<n->x.site=z->g' x=g x):Ih z m L v' g' n':=by
 subst he
 rcases h with h|⟨u,h1,h2,h3,h4,h5,h6⟩
 ·exact .inl h
 ·exact .inr ⟨u,h1,(hf u h4 h6).trans h2,h3,ae,h5,h6⟩
def I0 (k c:Nat):aq:=⟨(c % k:Nat),(c / k:Nat)⟩
def fN (k n:Nat):List aq:=(List.range n).map (I0 k)
theorem jy (k n:Nat):(fN k n).length=n:=by simp[fN]
theorem BL (k n:Nat):fN k (n+1)=fN k n++[I0 k n]:=by simp[fN,List.range_succ]
theorem L3 {k y x:Nat} (hx:x<k):I0 k (y*k+x)=⟨x,y⟩:=by
 have h1:(y*k+x) % k=x:=by rw[Nat.mul_comm,Nat.mul_add_mod,Nat.mod_eq_of_lt hx]
 have h2:(y*k+x) / k=y:=by rw[Nat.mul_comm,Nat.mul_add_div ae,Nat.div_eq_of_lt hx,Nat.add_zero]
 rw[I0,h1,h2]
section
set_option maxRecDepth 100000
set_option maxHeartbeats 16000000
theorem CW (k:Nat) (h1:1<=k) (h4:k<=4) (σ:ax):
  Call Tryz.prog 154 [.agg [.int .i64 0,.int .i64 0],.agg [.int .i64 ((k:Int)-1),.int .i64 ((k:Int)-1)]] σ (fun r σ'=>∃u:Id,r=.own u 0 (k*k)/\σ'.get u=some ⟨true,2,(fN k (k*k)).map aa⟩/\σ.next<=u.cC/\u.cC<σ'.next/\σ.next<=σ'.next/\∀i:Id,i.cC<σ.next->σ'.get i=σ.get i):=by
 refine fj eM rfl fun hl=>?_
 clear hl
 have Lt:=Cu h1 h4
 (try((repeat(revert hN;revert N;apply Pn.out));refine wk @Nat.zero_add ?_;(repeat(refine Pn.mk ?_;intro N hN))))
 refine aT (fun n env st=>∃y:Nat,n=(k)-y/\y<=(k)/\env 6=.int .i64 (y:Int)/\(Ih 154008005 (σ.next+1) (fN k (y*k)) (env 5) st.get st.next/\σ.next<st.next/\st.get ⟨154000000,σ.next⟩=some ⟨true,2,[[.int .i64 0,.int .i64 0]]⟩/\st.get ⟨154000001,σ.next⟩=some ⟨true,2,[[.int .i64 ((k:Int)-1),.int .i64 ((k:Int)-1)]]⟩/\∀i:Id,i.cC<σ.next->st.get i=σ.get i)) (k) ⟨0,ae,ae,sl @Nat.zero_add,by(try dsimp only);exact⟨.inl ⟨by rw[Nat.zero_mul];rfl,sd @Nat.zero_add⟩,ae,sd @Nat.zero_add,sd @Nat.zero_add,fun i hi=>(by have h9:=eX hi;simp only[go_sem, ↓reduceIte,Nat.reduceEqDiff,Nat.reduceAdd,Nat.reduceSub,Nat.reduceLeDiff,reduceCtorEq,h9])⟩⟩ ?_
 rintro n_a env_a st_a ⟨y,rfl,ale,a6,kB⟩ dr
 have a2:=dr 2 (by kernel_rfl);have a3:=dr 3 (by kernel_rfl)
 simp only[go_sem, ↓reduceIte,Nat.reduceEqDiff,Nat.reduceAdd,Nat.reduceSub,Nat.reduceLeDiff,reduceCtorEq]at a2 a3
 clear dr
 obtain⟨aG,an,oW,xD,aF⟩:=kB
 by_cases hy:(y:Int)<=(k:Int)-1
 ·have bZ:∀{e:Env} {gg:Rows} {nx:Nat},(e 6=.int .i64 (IntKind.i64.wrap ((y:Int)+1)))->(Ih 154008005 (σ.next+1) (fN k ((y+1)*k)) (e 5) gg nx/\σ.next<nx/\gg ⟨154000000,σ.next⟩=some ⟨true,2,[[.int .i64 0,.int .i64 0]]⟩/\gg ⟨154000001,σ.next⟩=some ⟨true,2,[[.int .i64 ((k:Int)-1),.int .i64 ((k:Int)-1)]]⟩/\∀i:Id,i.cC<σ.next->gg i=σ.get i)->∃m0,m0<(k)-y/\∃y:Nat,m0=(k)-y/\y<=(k)/\e 6=.int .i64 (y:Int)/\(Ih 154008005 (σ.next+1) (fN k (y*k)) (e 5) gg nx/\σ.next<nx/\gg ⟨154000000,σ.next⟩=some ⟨true,2,[[.int .i64 0,.int .i64 0]]⟩/\gg ⟨154000001,σ.next⟩=some ⟨true,2,[[.int .i64 ((k:Int)-1),.int .i64 ((k:Int)-1)]]⟩/\∀i:Id,i.cC<σ.next->gg i=σ.get i):=fun x1 x2=>⟨_,ae,y+1,rfl,ae,(by rw[x1,aB ae]),x2⟩
  have hyk:y<k:=ae
  (try((repeat(revert hN;revert N;apply Pn.out));refine wk (tw @a6 (tw @a2 (tw @a3 (tw @hy (tw @oW @xD))))) ?_;(repeat(refine Pn.mk ?_;intro N hN))))
  refine aT (fun n env st=>∃x:Nat,n=(k)-x/\x<=(k)/\env 7=.int .i64 (x:Int)/\(Ih 154008005 (σ.next+1) (fN k (y*k+x)) (env 5) st.get st.next/\σ.next<st.next/\st.get ⟨154000000,σ.next⟩=some ⟨true,2,[[.int .i64 0,.int .i64 0]]⟩/\st.get ⟨154000001,σ.next⟩=some ⟨true,2,[[.int .i64 ((k:Int)-1),.int .i64 ((k:Int)-1)]]⟩/\∀i:Id,i.cC<σ.next->st.get i=σ.get i)) (k) ⟨0,ae,ae,sl (tw @a6 (tw @a2 @a3)),by(try dsimp only);exact⟨aG.frame (sd @Nat.zero_add) bW (fun i hi hs=>(sd @Nat.zero_add)),ae,oW,xD,aF⟩⟩ ?_
  rintro n_b env_b st_b ⟨x,rfl,ble,b7,bI0⟩ bfr
  have b2:=bfr 2 (by kernel_rfl);have b3:=bfr 3 (by kernel_rfl);have b6:=bfr 6 (by kernel_rfl)
  simp only[go_sem, ↓reduceIte,Nat.reduceEqDiff,Nat.reduceAdd,Nat.reduceSub,Nat.reduceLeDiff,reduceCtorEq,a6,a2,a3]at b2 b3 b6
  clear bfr
  obtain⟨bG,bn,xE,Q2,bF⟩:=bI0
  by_cases hx:(x:Int)<=(k:Int)-1
  ·have gY:∀{e:Env} {gg:Rows} {nx:Nat},(e 7=.int .i64 (IntKind.i64.wrap ((x:Int)+1)))->(Ih 154008005 (σ.next+1) (fN k (y*k+(x+1))) (e 5) gg nx/\σ.next<nx/\gg ⟨154000000,σ.next⟩=some ⟨true,2,[[.int .i64 0,.int .i64 0]]⟩/\gg ⟨154000001,σ.next⟩=some ⟨true,2,[[.int .i64 ((k:Int)-1),.int .i64 ((k:Int)-1)]]⟩/\∀i:Id,i.cC<σ.next->gg i=σ.get i)->∃m0,m0<(k)-x/\∃x:Nat,m0=(k)-x/\x<=(k)/\e 7=.int .i64 (x:Int)/\(Ih 154008005 (σ.next+1) (fN k (y*k+x)) (e 5) gg nx/\σ.next<nx/\gg ⟨154000000,σ.next⟩=some ⟨true,2,[[.int .i64 0,.int .i64 0]]⟩/\gg ⟨154000001,σ.next⟩=some ⟨true,2,[[.int .i64 ((k:Int)-1),.int .i64 ((k:Int)-1)]]⟩/\∀i:Id,i.cC<σ.next->gg i=σ.get i):=fun x1 x2=>⟨_,ae,x+1,rfl,ae,(by rw[x1,aB ae]),x2⟩
   have Wc:x<k:=ae
   have hle:y*k+x<=16:=by
    have:y*k<=(k-1)*k:=Nat.mul_le_mul ae (Nat.le_refl _)
    have h5:(k-1)*k+k=k*k:=by
     obtain⟨m,rfl⟩:∃m,k=m+1:=⟨k-1,ae⟩
     simp[Nat.succ_mul]
    omega
   have EA:fN k (y*k+(x+1))=fN k (y*k+x)++[⟨x,y⟩]:=by rw[<-Nat.add_assoc,BL,L3 Wc]
   have G7:=jy k (y*k+x)
   generalize fN k (y*k+x)=M at bG EA G7
   have wG:(M++[(⟨x,y⟩:aq)]).map aa=M.map aa++[[.int .i64 (x:Int),.int .i64 (y:Int)]]:=by rw[List.map_append];rfl
   have nR:(M++[(⟨x,y⟩:aq)]).length=M.length+1:=by rw[List.length_append];rfl
   have Bg:(M.map aa).length=M.length:=by simp
   have Ll:M.length<=16777215:=ae
   rcases bG with⟨hM,b5⟩|⟨u,b5,hu,hum,x8,k6,y8⟩
   ·subst hM
    (try((repeat(revert hN;revert N;apply Pn.out));refine wk (tw @b7 (tw @b2 (tw @b3 (tw @b6 (tw @hx (tw @xE (tw @Q2 @b5))))))) ?_;(repeat(refine Pn.mk ?_;intro N hN))))
    exact gY (sd (tw @b7 (tw @b2 (tw @b3 @b6)))) (by(try dsimp only);exact⟨.inr ⟨⟨154008005,st_b.next+1⟩,by rw[EA,nR];simp only[go_sem, ↓reduceIte,Nat.reduceEqDiff,Nat.reduceAdd,Nat.reduceSub,Nat.reduceLeDiff,reduceCtorEq]<;>rfl,by rw[EA,wG];simp only[go_sem, ↓reduceIte,Nat.reduceEqDiff,Nat.reduceAdd,Nat.reduceSub,Nat.reduceLeDiff,reduceCtorEq]<;>rfl,bW,bW,by rw[EA,nR];omega,rfl⟩,ae,sd @xE,sd @Q2,fun i hi=>by
     have h9:=eX (i:=i) (n:=st_b.next) ae
     have h8:=bF i hi
     simp only[go_sem, ↓reduceIte,Nat.reduceEqDiff,Nat.reduceAdd,Nat.reduceSub,Nat.reduceLeDiff,reduceCtorEq,h9,h8]⟩)
   ·have vu:=eX x8
    have u2:((⟨154000000,σ.next⟩:Id)=u)=False:=eq_false fun e=>absurd (show(154000000:Nat)=154008005 from(congrArg Id.site e).trans y8) (by decide)
    have u3:((⟨154000001,σ.next⟩:Id)=u)=False:=eq_false fun e=>absurd (show(154000001:Nat)=154008005 from(congrArg Id.site e).trans y8) (by decide)
    (try((repeat(revert hN;revert N;apply Pn.out));refine wk (tw @b7 (tw @b2 (tw @b3 (tw @b6 (tw @hx (tw @xE (tw @Q2 (tw @b5 (tw @hu (tw @vu (tw @u2 (tw @u3 (tw @Bg @Ll))))))))))))) ?_;(repeat(refine Pn.mk ?_;intro N hN))))
    exact gY (sd (tw @b7 (tw @b2 (tw @b3 @b6)))) (by(try dsimp only);exact⟨.inr ⟨⟨154008005,st_b.next+1⟩,by rw[EA,nR];simp only[go_sem, ↓reduceIte,Nat.reduceEqDiff,Nat.reduceAdd,Nat.reduceSub,Nat.reduceLeDiff,reduceCtorEq]<;>rfl,by rw[EA,wG];simp only[go_sem, ↓reduceIte,Nat.reduceEqDiff,Nat.reduceAdd,Nat.reduceSub,Nat.reduceLeDiff,reduceCtorEq]<;>rfl,bW,bW,by rw[EA,nR];omega,rfl⟩,ae,sd (tw @xE @u2),sd (tw @Q2 @u3),fun i hi=>by
     have h9:=eX (i:=i) (n:=st_b.next) ae
     have h8:=bF i hi
     have h7:=ep (a:=i) (b:=u) ae
     simp only[go_sem, ↓reduceIte,Nat.reduceEqDiff,Nat.reduceAdd,Nat.reduceSub,Nat.reduceLeDiff,reduceCtorEq,h9,h8,h7]⟩)
  ·have Wc:x=k:=ae
   subst Wc
   (try((repeat(revert hN;revert N;apply Pn.out));refine wk (tw @b7 (tw @b2 (tw @b3 (tw @b6 (tw @hx (tw @xE @Q2)))))) ?_;(repeat(refine Pn.mk ?_;intro N hN))))
   have e:y*x+x=(y+1)*x:=by rw[Nat.succ_mul]
   rw[e]at bG
   exact bZ (sd (tw @b7 (tw @b2 (tw @b3 @b6)))) (by(try dsimp only);exact⟨bG.frame (sd @Nat.zero_add) bW (fun i hi hs=>(sd @Nat.zero_add)),ae,xE,Q2,bF⟩)
 ·have hyk:y=k:=ae
  subst hyk
  rcases aG with⟨hM,a5⟩|⟨u,a5,hu,hum,x8,k6,y8⟩
  ·have:=congrArg List.length hM
   rw[jy]at this
   simp at this
   omega
  ·rw[jy]at a5
   (try((repeat(revert hN;revert N;apply Pn.out));refine wk (tw @a6 (tw @a2 (tw @a3 (tw @hy (tw @oW (tw @xD @a5)))))) ?_;(repeat(refine Pn.mk ?_;intro N hN))))
   exact gJ (.inl rfl) (vs:=[.own u 0 (y*y)]) (sd @a5) ⟨u,rfl,hu,ae,bW,bW,aF⟩
theorem FG (k:Nat) (h1:1<=k) (h4:k<=4) (σ:ax):
  Call Tryz.prog 109 [.int .i64 (k:Int)] σ (fun r σ'=>∃u:Id,r=.own u 0 (k*k)/\σ'.get u=some ⟨true,2,(fN k (k*k)).map aa⟩/\σ.next<=u.cC/\u.cC<σ'.next/\σ.next<=σ'.next/\∀i:Id,i.cC<σ.next->σ'.get i=σ.get i):=by
 refine fj eM rfl fun hl=>?_
 clear hl
 have hr:=fun σ1:ax=>CW k h1 h4 σ1
 have w1:IntKind.i64.wrap ((k:Int)-1)=(k:Int)-1:=aJ ae
 (try((repeat(revert hN;revert N;apply Pn.out));refine wk @w1 ?_;(repeat(refine Pn.mk ?_;intro N hN))))
 refine .inr (aU _ _ _ _ _ (fun r σ1 hq=>?_) (hr _))
 obtain⟨g1,n1⟩:=σ1
 obtain⟨u,rfl,q1,q2,q3,q4,q5⟩:=hq
 (try dsimp only at q1 q2 q3 q4 q5)
 refine hN _ _ ?_
 clear hN N
 (try((repeat(revert hN;revert N;apply Pn.out));refine wk @Nat.zero_add ?_;(repeat(refine Pn.mk ?_;intro N hN))))
 exact gJ (.inl rfl) (vs:=[.own u 0 (k*k)]) (sd @Nat.zero_add) ⟨u,rfl,q1,ae,bW,bW,fun i hi=>q5 i ae⟩
theorem L4 (k:Nat) (h1:1<=k) (h4:k<=4):ak Tryz.prog 109 [.int .i64 (k:Int)] (.sl ((fN k (k*k)).map aa)):=fun n=>by
 refine aU _ _ _ _ _ (fun r σ1 hq=>?_) (FG k h1 h4 _)
 obtain⟨u,rfl,q1,_⟩:=hq
 exact⟨_,e9 (e:=aa) q1 (jy _ _).symm fun y=>by simp[aa,aI,aW,dw],rfl⟩
theorem zq (b:aq) (x y k:Nat) (h1:1<=k) (h4:k<=4) (hx: -1000000<=b.dQ/\b.dQ<=1000000) (hy: -1000000<=b.dH/\b.dH<=1000000) (On:x<=1000) (hyl:y<=1000):
  ak Tryz.prog 56 [.agg (aa b),.agg [.int .i64 (x:Int),.int .i64 (y:Int)],.int .i64 (k:Int)] (.agg (aa ⟨b.dQ*k+x,b.dH*k+y⟩)):=by
 refine ak.body eM rfl fun hl n0=>?_
 clear hl
 have m1:=mul_k h1 h4 hx
 have m2:=mul_k h1 h4 hy
 have w1:IntKind.i64.wrap ((k:Int)*b.dQ)=b.dQ*(k:Int):=by rw[Int.mul_comm];exact aJ ae
 have w2:IntKind.i64.wrap ((k:Int)*b.dH)=b.dH*(k:Int):=by rw[Int.mul_comm];exact aJ ae
 have w3:IntKind.i64.wrap (b.dQ*(k:Int)+(x:Int))=b.dQ*(k:Int)+(x:Int):=aJ ae
 have w4:IntKind.i64.wrap (b.dH*(k:Int)+(y:Int))=b.dH*(k:Int)+(y:Int):=aJ ae
 rw[aa,aa]
 (try dsimp only)
 (try((repeat(revert hN;revert N;apply Pn.out));refine wk (tw @w1 (tw @w2 (tw @w3 @w4))) ?_;(repeat(refine Pn.mk ?_;intro N hN))))
 exact gZ (.inl rfl) (vs:=[.agg [.int .i64 (b.dQ*(k:Int)+(x:Int)),.int .i64 (b.dH*(k:Int)+(y:Int))]]) (sd @Nat.zero_add) (by simp[eJ,jR,aI,aW,dw])
end
theorem Jm {l:List ah} {b:aq} {k c:Nat} (hc:c<k*k):jt l b k c=true↔0<=bT l b k c-c/\(bT l b k c-c) % ((k*k:Nat):Int)=0/\(bT l b k c-c) / ((k*k:Nat):Int)=bT l b k 0 / ((k*k:Nat):Int):=by
 simp only[jt,Bool.and_eq_true,decide_eq_true_eq]
 generalize bT l b k c=t
 generalize bT l b k 0 / ((k*k:Nat):Int)=q0
 generalize k*k=m at *
 have hm:(0:Int)<(m:Int):=ae
 constructor
 ·rintro⟨h1,h2,h3⟩
  have h4:=Int.emod_add_mul_ediv t (m:Int)
  rw[h2]at h4
  have h5:t-(c:Int)=(m:Int)*(t / (m:Int)):=ae
  have h6:0<=t / (m:Int):=Int.ediv_nonneg h1 ae
  rw[h5]
  refine⟨Int.mul_nonneg ae h6,Int.mul_emod_right _ _,?_⟩
  rw[Int.mul_ediv_cancel_left _ ae]
  exact h3
 ·rintro⟨h1,h2,h3⟩
  have h4:=Int.emod_add_mul_ediv (t-(c:Int)) (m:Int)
  rw[h2,Int.zero_add]at h4
  have h5:t=(c:Int)+(m:Int)*((t-c) / (m:Int)):=ae
  refine⟨ae,?_,?_⟩
  ·rw[h5,Int.add_mul_emod_self_left]
   exact Int.emod_eq_of_lt ae ae
  ·rw[h5,Int.add_mul_ediv_left _ _ ae,Int.ediv_eq_zero_of_lt ae ae,Int.zero_add]
   exact h3
section
set_option maxRecDepth 100000
set_option maxHeartbeats 16000000
theorem DT (l:List ah) (hR:qL l) (SR:l.length<=1048576) (hT:∀p,oY l p<=4611686018427387904) (hT2:∀p,-1<=oY l p) (b:aq) (k:Nat) (h1:1<=k) (h4:k<=4) (hx: -1000000<=b.dQ/\b.dQ<=1000000) (hy: -1000000<=b.dH/\b.dH<=1000000):
  ak Tryz.prog 105 [.agg [.sl (l.map ab)],.agg (aa b),.int .i64 (k:Int)] (.int .i64 (lW l b k)):=by
 refine ak.body eM rfl fun hl n0=>?_
 clear hl
 have mc:=L4 k h1 h4
 have gn:=fun c:Nat=>zq b (c % k) (c / k) k h1 h4 hx hy
 have Lm:=fun c:Nat=>OP l ⟨b.dQ*k+(c % k:Nat),b.dH*k+(c / k:Nat)⟩ hR ae
 have Lt:=Cu h1 h4
 have qv:IntKind.i64.wrap ((k:Int)*(k:Int))=((k*k:Nat):Int):=by rw[<-Int.natCast_mul,aJ ae]
 have qE:¬((k*k:Nat):Int)=0:=ae
 have kf:((fN k (k*k)).map aa).length=k*k:=by rw[List.length_map,jy]
 have Im:∀c,c<k*k->((fN k (k*k)).map aa)[c]? =some [.int .i64 ((c % k:Nat):Int),.int .i64 ((c / k:Nat):Int)]:=fun c hc=>by simp[fN,hc,I0,aa]
 generalize (fN k (k*k)).map aa=C at mc kf Im
 obtain⟨R,Ej⟩:∃R,lW l b k=R:=⟨_,rfl⟩
 rw[Ej]
 rw[aa]at gn ⊢
 (try dsimp only at gn)
 (repeat(first|((repeat(revert hN;revert N;apply Pn.out));refine wk @kf ?_;(repeat(refine Pn.mk ?_;intro N hN)))|((try apply Or.inl);refine⟨_,ak.x (mc) (sd @kf),?_⟩;refine hN _ _ ?_;clear hN N)))
 refine aT (fun n env st=>∃c:Nat,n=(k*k)-c/\c<=(k*k)/\env 14=.int .i64 (c:Int)/\(∃m:Int,env 7=.int .i64 m/\(0<c->m % ((k*k:Nat):Int)=0/\0<=m/\m<=4611686018427387904/\m / ((k*k:Nat):Int)=bT l b k 0 / ((k*k:Nat):Int)))/\(∀j:Nat,j<c->jt l b k j=true)/\st.get ⟨105000001,n0⟩=some ⟨true,2,[[.int .i64 b.dQ,.int .i64 b.dH]]⟩/\st.get ⟨105000000,n0⟩=some ⟨true,1,[[.sl (l.map ab)]]⟩) (k*k) ⟨0,ae,ae,sl @Nat.zero_add,by exact⟨-1,sd @Nat.zero_add,fun h=>absurd h (Nat.lt_irrefl _)⟩,fun _ h=>absurd h (Nat.not_lt_zero _),sl @Nat.zero_add,sl @Nat.zero_add⟩ ?_
 rintro n_a env_a st_a ⟨c,rfl,ale,a14,kB,lV,ag0,ag1⟩ dr
 have a2:=dr 2 (by kernel_rfl);have a3:=dr 3 (by kernel_rfl);have a4:=dr 4 (by kernel_rfl);have a12:=dr 12 (by kernel_rfl);have mo:=dr 13 (by kernel_rfl)
 simp only[go_sem, ↓reduceIte,Nat.reduceEqDiff,Nat.reduceAdd,Nat.reduceSub,Nat.reduceLeDiff,reduceCtorEq]at a2 a3 a4 a12 mo
 clear dr
 obtain⟨m,a7,aM⟩:=kB
 by_cases hc:(c:Int)<((k*k:Nat):Int)
 ·have bZ:∀{e:Env} {gg:Rows},(e 14=.int .i64 (IntKind.i64.wrap ((c:Int)+1)))->(∃m:Int,e 7=.int .i64 m/\(0<(c+1)->m % ((k*k:Nat):Int)=0/\0<=m/\m<=4611686018427387904/\m / ((k*k:Nat):Int)=bT l b k 0 / ((k*k:Nat):Int)))->(jt l b k c=true)->(gg ⟨105000001,n0⟩=some ⟨true,2,[[.int .i64 b.dQ,.int .i64 b.dH]]⟩)->(gg ⟨105000000,n0⟩=some ⟨true,1,[[.sl (l.map ab)]]⟩)->∃m0,m0<(k*k)-c/\∃c:Nat,m0=(k*k)-c/\c<=(k*k)/\e 14=.int .i64 (c:Int)/\(∃m:Int,e 7=.int .i64 m/\(0<c->m % ((k*k:Nat):Int)=0/\0<=m/\m<=4611686018427387904/\m / ((k*k:Nat):Int)=bT l b k 0 / ((k*k:Nat):Int)))/\(∀j:Nat,j<c->jt l b k j=true)/\gg ⟨105000001,n0⟩=some ⟨true,2,[[.int .i64 b.dQ,.int .i64 b.dH]]⟩/\gg ⟨105000000,n0⟩=some ⟨true,1,[[.sl (l.map ab)]]⟩:=fun x1 x2 x3 x4 x5=>⟨_,ae,c+1,rfl,ae,(by rw[x1,aB ae]),x2,(all_succ lV x3),x4,x5⟩
  have ql:c<k*k:=ae
  have eQ:=Im c ql
  have G5:c % k<=c:=Nat.mod_le _ _
  have Uf:c / k<=c:=Nat.div_le_self _ _
  have uI:=gn c ae ae
  have xF:=Lm c
  rw[aa]at uI xF
  (try dsimp only at uI xF)
  have Sw:oY l ⟨b.dQ*k+(c % k:Nat),b.dH*k+(c / k:Nat)⟩=bT l b k c:=rfl
  rw[Sw]at xF
  have Ub:=hT ⟨b.dQ*k+(c % k:Nat),b.dH*k+(c / k:Nat)⟩
  have hTc:=hT2 ⟨b.dQ*k+(c % k:Nat),b.dH*k+(c / k:Nat)⟩
  rw[Sw]at Ub hTc
  have oy:=Jm (l:=l) (b:=b) ql
  generalize b.dQ*(k:Int)+((c % k:Nat):Int)=px at uI xF
  generalize b.dH*(k:Int)+((c / k:Nat):Int)=py at uI xF
  generalize ((c % k:Nat):Int)=cx at uI eQ
  generalize ((c / k:Nat):Int)=cy at uI eQ
  clear G5 Uf
  obtain⟨t,ht⟩:∃t,bT l b k c-c=t:=⟨_,rfl⟩
  have wt:IntKind.i64.wrap (bT l b k c-(c:Int))=t:=by rw[ht];exact aJ ae
  rw[ht]at oy
  have jA:jt l b k c=false->R= -1:=fun h=>Ej.symm.trans (uR ql h)
  by_cases h0:t<0
  ·have hr:=jA (by rw[<-Bool.not_eq_true,oy];omega)
   subst hr
   (repeat(first|((repeat(revert hN;revert N;apply Pn.out));refine wk (tw @a14 (tw @ag0 (tw @ag1 (tw @a2 (tw @a3 (tw @a4 (tw @a12 (tw @mo (tw @hc (tw @kf (tw @eQ (tw @qv (tw @qE (tw @wt @h0)))))))))))))) ?_;(repeat(refine Pn.mk ?_;intro N hN)))|((try apply Or.inl);refine⟨_,ak.x (uI) (sd (tw @a14 (tw @ag0 (tw @ag1 (tw @a2 (tw @a3 (tw @a4 (tw @a12 (tw @mo (tw @hc (tw @kf (tw @eQ (tw @qv (tw @qE (tw @wt @h0))))))))))))))),?_⟩;refine hN _ _ ?_;clear hN N)|((try apply Or.inl);refine⟨_,ak.x (xF) (sd (tw @a14 (tw @ag0 (tw @ag1 (tw @a2 (tw @a3 (tw @a4 (tw @a12 (tw @mo (tw @hc (tw @kf (tw @eQ (tw @qv (tw @qE (tw @wt @h0))))))))))))))),?_⟩;refine hN _ _ ?_;clear hN N)))
   exact cu (b:=-1) (.inl rfl) (sd @Nat.zero_add) rfl
  have kW:t.tmod ((k*k:Nat):Int)=t % ((k*k:Nat):Int):=Int.tmod_eq_emod_of_nonneg ae
  by_cases h2:t % ((k*k:Nat):Int)=0
  ·have d2:=decide_eq_true h2
   by_cases jN:c=0
   ·have c0:¬(0:Int)<(c:Int):=ae
    have hte:t / ((k*k:Nat):Int)=bT l b k 0 / ((k*k:Nat):Int):=by
     rw[<-ht,jN];simp
    have qp:jt l b k c=true:=oy.2 ⟨ae,h2,hte⟩
    (repeat(first|((repeat(revert hN;revert N;apply Pn.out));refine wk (tw @a14 (tw @ag0 (tw @ag1 (tw @a2 (tw @a3 (tw @a4 (tw @a12 (tw @mo (tw @hc (tw @kf (tw @eQ (tw @qv (tw @qE (tw @wt (tw @h0 (tw @kW (tw @d2 @c0))))))))))))))))) ?_;(repeat(refine Pn.mk ?_;intro N hN)))|((try apply Or.inl);refine⟨_,ak.x (uI) (sd (tw @a14 (tw @ag0 (tw @ag1 (tw @a2 (tw @a3 (tw @a4 (tw @a12 (tw @mo (tw @hc (tw @kf (tw @eQ (tw @qv (tw @qE (tw @wt (tw @h0 (tw @kW (tw @d2 @c0)))))))))))))))))),?_⟩;refine hN _ _ ?_;clear hN N)|((try apply Or.inl);refine⟨_,ak.x (xF) (sd (tw @a14 (tw @ag0 (tw @ag1 (tw @a2 (tw @a3 (tw @a4 (tw @a12 (tw @mo (tw @hc (tw @kf (tw @eQ (tw @qv (tw @qE (tw @wt (tw @h0 (tw @kW (tw @d2 @c0)))))))))))))))))),?_⟩;refine hN _ _ ?_;clear hN N)))
    refine bZ ?_ (⟨t,sd @Nat.zero_add,fun _=>⟨h2,ae,ae,hte⟩⟩) (qp) ?_ ?_
    all_goals simp only[go_sem, ↓reduceIte,Nat.reduceEqDiff,Nat.reduceAdd,Nat.reduceSub,Nat.reduceLeDiff,reduceCtorEq,a14,ag0,ag1,a2,a3,a4,a12,mo]
   ·have c0:(0:Int)<(c:Int):=ae
    obtain⟨m1,m2,m3,m4⟩:=aM ae
    by_cases hq:t=m
    ·have d3:=decide_eq_true hq
     have qp:jt l b k c=true:=oy.2 ⟨ae,h2,by rw[hq];exact m4⟩
     (repeat(first|((repeat(revert hN;revert N;apply Pn.out));refine wk (tw @a14 (tw @ag0 (tw @ag1 (tw @a2 (tw @a3 (tw @a4 (tw @a12 (tw @mo (tw @a7 (tw @hc (tw @kf (tw @eQ (tw @qv (tw @qE (tw @wt (tw @h0 (tw @kW (tw @d2 (tw @c0 @d3))))))))))))))))))) ?_;(repeat(refine Pn.mk ?_;intro N hN)))|((try apply Or.inl);refine⟨_,ak.x (uI) (sd (tw @a14 (tw @ag0 (tw @ag1 (tw @a2 (tw @a3 (tw @a4 (tw @a12 (tw @mo (tw @a7 (tw @hc (tw @kf (tw @eQ (tw @qv (tw @qE (tw @wt (tw @h0 (tw @kW (tw @d2 (tw @c0 @d3)))))))))))))))))))),?_⟩;refine hN _ _ ?_;clear hN N)|((try apply Or.inl);refine⟨_,ak.x (xF) (sd (tw @a14 (tw @ag0 (tw @ag1 (tw @a2 (tw @a3 (tw @a4 (tw @a12 (tw @mo (tw @a7 (tw @hc (tw @kf (tw @eQ (tw @qv (tw @qE (tw @wt (tw @h0 (tw @kW (tw @d2 (tw @c0 @d3)))))))))))))))))))),?_⟩;refine hN _ _ ?_;clear hN N)))
     refine bZ ?_ (⟨t,sd @Nat.zero_add,fun _=>⟨h2,ae,ae,by rw[hq];exact m4⟩⟩) (qp) ?_ ?_
     all_goals simp only[go_sem, ↓reduceIte,Nat.reduceEqDiff,Nat.reduceAdd,Nat.reduceSub,Nat.reduceLeDiff,reduceCtorEq,a14,ag0,ag1,a2,a3,a4,a12,mo]
    ·have d3:=decide_eq_false hq
     have hr:=jA (by
      rw[<-Bool.not_eq_true,oy]
      rintro⟨-,-,h5⟩
      have e1:=Int.emod_add_mul_ediv t ((k*k:Nat):Int)
      have e2:=Int.emod_add_mul_ediv m ((k*k:Nat):Int)
      rw[h2,h5]at e1
      rw[m1,m4]at e2
      exact hq (e1.symm.trans e2))
     subst hr
     (repeat(first|((repeat(revert hN;revert N;apply Pn.out));refine wk (tw @a14 (tw @ag0 (tw @ag1 (tw @a2 (tw @a3 (tw @a4 (tw @a12 (tw @mo (tw @a7 (tw @hc (tw @kf (tw @eQ (tw @qv (tw @qE (tw @wt (tw @h0 (tw @kW (tw @d2 (tw @c0 @d3))))))))))))))))))) ?_;(repeat(refine Pn.mk ?_;intro N hN)))|((try apply Or.inl);refine⟨_,ak.x (uI) (sd (tw @a14 (tw @ag0 (tw @ag1 (tw @a2 (tw @a3 (tw @a4 (tw @a12 (tw @mo (tw @a7 (tw @hc (tw @kf (tw @eQ (tw @qv (tw @qE (tw @wt (tw @h0 (tw @kW (tw @d2 (tw @c0 @d3)))))))))))))))))))),?_⟩;refine hN _ _ ?_;clear hN N)|((try apply Or.inl);refine⟨_,ak.x (xF) (sd (tw @a14 (tw @ag0 (tw @ag1 (tw @a2 (tw @a3 (tw @a4 (tw @a12 (tw @mo (tw @a7 (tw @hc (tw @kf (tw @eQ (tw @qv (tw @qE (tw @wt (tw @h0 (tw @kW (tw @d2 (tw @c0 @d3)))))))))))))))))))),?_⟩;refine hN _ _ ?_;clear hN N)))
     exact cu (b:=-1) (.inl rfl) (sd @Nat.zero_add) rfl
  ·have d2:=decide_eq_false h2
   have hr:=jA (by rw[<-Bool.not_eq_true,oy];rintro⟨-,h5,-⟩;exact h2 h5)
   subst hr
   (repeat(first|((repeat(revert hN;revert N;apply Pn.out));refine wk (tw @a14 (tw @ag0 (tw @ag1 (tw @a2 (tw @a3 (tw @a4 (tw @a12 (tw @mo (tw @hc (tw @kf (tw @eQ (tw @qv (tw @qE (tw @wt (tw @h0 (tw @kW @d2)))))))))))))))) ?_;(repeat(refine Pn.mk ?_;intro N hN)))|((try apply Or.inl);refine⟨_,ak.x (uI) (sd (tw @a14 (tw @ag0 (tw @ag1 (tw @a2 (tw @a3 (tw @a4 (tw @a12 (tw @mo (tw @hc (tw @kf (tw @eQ (tw @qv (tw @qE (tw @wt (tw @h0 (tw @kW @d2))))))))))))))))),?_⟩;refine hN _ _ ?_;clear hN N)|((try apply Or.inl);refine⟨_,ak.x (xF) (sd (tw @a14 (tw @ag0 (tw @ag1 (tw @a2 (tw @a3 (tw @a4 (tw @a12 (tw @mo (tw @hc (tw @kf (tw @eQ (tw @qv (tw @qE (tw @wt (tw @h0 (tw @kW @d2))))))))))))))))),?_⟩;refine hN _ _ ?_;clear hN N)))
   exact cu (b:=-1) (.inl rfl) (sd @Nat.zero_add) rfl
 ·have ql:c=k*k:=ae
  subst ql
  have qp:=BO lV
  rw[Ej]at qp
  obtain⟨m1,m2,m3,m4⟩:=aM ae
  have hdiv:m.tdiv ((k*k:Nat):Int)=R:=by rw[Int.tdiv_eq_ediv_of_nonneg m2,m4,qp]
  have xH:0<=m / ((k*k:Nat):Int):=Int.ediv_nonneg m2 ae
  have tn:m / ((k*k:Nat):Int)<=m:=Int.ediv_le_self _ m2
  have wq:IntKind.i64.wrap R=R:=aJ (by rw[qp,<-m4];omega)
  (try((repeat(revert hN;revert N;apply Pn.out));refine wk (tw @a14 (tw @ag0 (tw @ag1 (tw @a2 (tw @a3 (tw @a4 (tw @a12 (tw @mo (tw @a7 (tw @hc (tw @kf (tw @qv (tw @qE (tw @hdiv @wq)))))))))))))) ?_;(repeat(refine Pn.mk ?_;intro N hN))))
  exact cu (b:=R) (.inl rfl) (sd @Nat.zero_add) rfl
end
end Go.Proofs.YtkbipfflibjfbaaGreat.V

namespace Go.Proofs.YtkbipfflibjfbaaGreat.V
open Go.RowKit
theorem yN (l:List ah) (k:Nat) (B:List aq):∀i,i<=B.length->((eH l k B i).map fun t=>t.bw).Sublist (B.take i)
 |0,_=>by simp[eH]
 |i+1,hi=>by
  have h:=yN l k B i ae
  rw[List.take_succ_eq_append_getElem ae,eH]
  split
  ·rw[List.map_append,<-jC ae]
   exact h.append (List.Sublist.refl _)
  ·exact h.trans (List.sublist_append_left _ _)
theorem yK {l:List ah} {b:aq} {k:Nat} (h:0<=lW l b k):∀c,c<k*k->0<=bT l b k c:=by
 by_cases hg:∀c,c<k*k->jt l b k c=true
 ·intro c hc
  have:=hg c hc
  simp only[jt,Bool.and_eq_true,decide_eq_true_eq]at this
  exact this.1
 ·rw[lW,if_neg hg]at h;omega
theorem uS {l:List ah} {k:Nat} {t:ah} (h:t∈dj l k):t.bw∈jJ l k/\t.bY=lW l t.bw k/\0<=t.bY:=by
 obtain⟨j,hj,rfl,h0⟩:=tD h
 exact⟨vk hj,rfl,h0⟩
theorem L5 {l:List ah} (hF:iv l) (b:aq) {k:Nat} (h1:1<=k) (h4:k<=4):lW l b k<=159:=by
 have Lt:=Cu h1 h4
 by_cases hg:∀c,c<k*k->jt l b k c=true
 ·rw[lW,if_pos hg]
  have h0:=hg 0 ae
  simp only[jt,Bool.and_eq_true,decide_eq_true_eq]at h0
  have h2:bT l b k 0<=159:=(sJ hF _).2
  have h3:=Int.ediv_le_self (((k*k:Nat):Int)) h0.1
  omega
 ·rw[lW,if_neg hg];omega
theorem vU {l:List ah} (hF:iv l) {k:Nat} (h1:1<=k) (h4:k<=4):iv (dj l k):=by
 have hlen:(dj l k).length<=l.length:=Nat.le_trans (lq l k (jJ l k) _) (lp l k l.length)
 have hs:=yN l k (jJ l k) _ (Nat.le_refl _)
 rw[List.take_length]at hs
 have hR:((dj l k).map fun t=>t.bw).Pairwise fun a b=>k8 a b=true:=(pN l k l.length).sublist hs
 have Ah:=hF.zX
 refine⟨ae,fun i hi=>?_⟩
 have hm:=jY hi
 obtain⟨m1,m2,m3⟩:=uS hm
 refine⟨rQ hF ae ae (Nat.le_refl _) m1,?_,fun h0=>?_⟩
 ·have:=L5 hF (bq (dj l k) i).bw h1 h4
  exact mC ⟨m3,by rw[m2];exact this⟩
 ·have h:=List.pairwise_iff_getElem.1 hR (i-1) i (by simp;omega) (by simp;omega) ae
  rw[List.getElem_map,List.getElem_map,<-fP ae,<-fP hi]at h
  exact h
theorem Kz {l:List ah} {b:aq} {k c:Nat} {d:Int} (hd:d=0∨d=1) (hc:c<k) (h:0<=lW l b k):0<=oY l (gV b d k c):=by
 have hg:=yK h
 have Lt:(k-1)*k+k=k*k:=by
  obtain⟨m,rfl⟩:∃m,k=m+1:=⟨k-1,ae⟩
  simp[Nat.succ_mul]
 rcases hd with rfl|rfl
 ·have h2:=hg ((k-1)*k+c) ae
  rw[bT,Nat.mul_comm,Nat.mul_add_mod,Nat.mod_eq_of_lt hc,Nat.mul_add_div ae,Nat.div_eq_of_lt hc,Nat.add_zero]at h2
  exact h2
 ·have ql:c*k<=(k-1)*k:=Nat.mul_le_mul ae (Nat.le_refl _)
  have h2:=hg (c*k+(k-1)) ae
  rw[bT,Nat.mul_comm c k,Nat.mul_add_mod,Nat.mod_eq_of_lt ae,Nat.mul_add_div ae,Nat.div_eq_of_lt ae,Nat.add_zero]at h2
  exact h2
theorem KA {b:aq} {k c:Nat} {d:Int} (hd:d=0∨d=1) (hk:1<=k):dt (gV b d k c) d=if d=0 then⟨(dt b d).dQ*k+c,(dt b d).dH*k+(0:Nat)⟩else⟨(dt b d).dQ*k+(0:Nat),(dt b d).dH*k+c⟩:=by
 have re:((k-1:Nat):Int)=(k:Int)-1:=ae
 rcases hd with rfl|rfl
 ·rw[if_pos rfl,gV,if_pos rfl,re]
  simp only[dt]
  simp[Int.add_mul]
  omega
 ·rw[if_neg (by decide),gV,if_neg (by decide),re]
  simp only[dt]
  simp[Int.add_mul]
  omega
theorem Gc {l:List ah} {b:aq} {k c:Nat} {d:Int} (hd:d=0∨d=1) (hc:c<k) (h:0<=lW l (dt b d) k):0<=oY l (dt (gV b d k c) d):=by
 have hg:=yK h
 rw[KA hd ae]
 have hle:k<=k*k:=by
  have:=Nat.mul_le_mul (Nat.le_refl k) (show 1<=k by omega)
  omega
 rcases hd with rfl|rfl
 ·have h2:=hg c ae
  rw[bT,Nat.mod_eq_of_lt hc,Nat.div_eq_of_lt hc]at h2
  rw[if_pos rfl];exact h2
 ·have ql:c*k<=(k-1)*k:=Nat.mul_le_mul ae (Nat.le_refl _)
  have Lt:(k-1)*k+k=k*k:=by
   obtain⟨m,rfl⟩:∃m,k=m+1:=⟨k-1,ae⟩
   simp[Nat.succ_mul]
  have h2:=hg (c*k) ae
  rw[bT,Nat.mul_mod_left,Nat.mul_div_cancel _ ae]at h2
  rw[if_neg (by decide)];exact h2
end Go.Proofs.YtkbipfflibjfbaaGreat.V

namespace Go.Proofs.YtkbipfflibjfbaaGreat.V
open Go.RowKit
attribute [local irreducible] ef wpOps gN Call
attribute [local go_sem] aH fJ eW fZ gh dh upd cD K.av cP AV.cells AV.cell rowOf rowsOf part ld rowAt bU cw dI ek iq bL de eD gj fq dx ew db da dW dY bR bd cU bQ cW cV er ez eu cR bV dc eo bP aL cY cI im br cH bz bc dB bo dF AV.undef bx bE dZ ej dV ec cJ eC eE cF eB eA cX cZ List.getD_cons_zero List.getD_cons_succ List.getD_nil List.all_cons List.all_nil Bool.and_true Bool.true_and Bool.and_self Bool.not_true Bool.not_false Option.map_some Option.map_none Option.bind_some Option.bind_none List.length_cons List.length_nil List.take_succ_cons List.take_zero List.take_nil List.drop_succ_cons List.drop_zero List.drop_nil List.head?_cons List.map_cons List.map_nil List.getElem?_cons_zero List.getElem?_cons_succ List.cons_append List.nil_append List.append_nil List.length_map List.set_cons_zero List.set_cons_succ Nat.reduceMul eq_self Int.toNat_natCast Int.natCast_nonneg and_self true_and and_true decide_true decide_false Bool.false_eq_true Nat.zero_add Nat.add_zero List.contains_cons List.contains_nil Bool.or_false Bool.false_or beq_self_eq_true Nat.reduceBEq ne_eq not_true_eq_false not_false_eq_true Id.mk.injEq false_and and_false Nat.reduceLT Int.reduceLE Int.reduceLT Int.reduceToNat Int.reduceNeg Int.reduceAdd Nat.le_refl List.length_append beq_true beq_false Bool.not_eq_eq_eq_not or_false false_or dM ai ao aD bt cz aY bj aV bf cL bJ
noncomputable def DK (s:aw) (l:List ah) (k i:Nat) (d:Int):List PB:=
 if 0<=fD (dj l k) (dt (bq (dj l k) i).bw d)/\0<gq s l (bq (dj l k) i).bw d k k then[⟨i,(fD (dj l k) (dt (bq (dj l k) i).bw d)).toNat,(gq s l (bq (dj l k) i).bw d k k:Nat)⟩]else[]
noncomputable def kh (s:aw) (l:List ah) (k i m:Nat):List PB:=(List.range m).flatMap fun j:Nat=>DK s l k i (1-(j:Int))
noncomputable def oZ (s:aw) (l:List ah) (k n:Nat):List PB:=(List.range n).flatMap fun i=>kh s l k i 2
noncomputable def LU (s:aw) (l:List ah) (k:Nat):List PB:=oZ s l k (dj l k).length
theorem tT (s:aw) (l:List ah) (k i m:Nat):kh s l k i (m+1)=kh s l k i m++DK s l k i (1-(m:Int)):=by simp[kh,List.range_succ]
theorem yE (s:aw) (l:List ah) (k n:Nat):oZ s l k (n+1)=oZ s l k n++kh s l k n 2:=by simp[oZ,List.range_succ]
theorem IV (s:aw) (l:List ah) (k i:Nat) (d:Int):(DK s l k i d).length<=1:=by unfold DK;split<;>simp
theorem vL (s:aw) (l:List ah) (k i m:Nat):(kh s l k i m).length<=m:=by
 induction m with
 |zero=>simp[kh]
 |succ m ih=>rw[tT,List.length_append];have:=IV s l k i (1-(m:Int));omega
theorem vM (s:aw) (l:List ah) (k n:Nat):(oZ s l k n).length<=2*n:=by
 induction n with
 |zero=>simp[oZ]
 |succ n ih=>rw[yE,List.length_append];have:=vL s l k n 2;omega
noncomputable def sW (s:cj) (a:dD) (k:Int):List PB×Int:=
 if rO s a.aj=true then(if iw k 1 4=true then(LU s.aC a.aj k.toNat,0)else([],2))else([],1)
theorem FQ {g:Rows} {u:Id} {L:List PB} (h:g u=some ⟨true,3,L.map ay⟩) (c:Int):V.fz g 6 (eJ [.own u 0 L.length,.int .i64 c])=some (.iJ [.sl (L.map ay),.int .i64 c]):=by
 have hz:=gH (n:=4) (e:=ay) (l:=L) (sz:=3) (len:=L.length) (id:=u) (g:=g) h rfl (fun b=>wb _ 3 b)
 simp only[eJ,bJ,ai,ao,aD,hz,Option.map_some]
def Qq:Id->Prop:=fun o=>o.site=19007000∨o.site=19018006
theorem rH (s:cj) (a:dD) (k:Int) (hn:gy s.aC) (hg:s.aC.az.length<=1048576) (ht:s.aC.aj.length<=1048576):
  lS Tryz.prog 19 [.agg (aA s),.agg (aP a),.int .i64 k] (.iJ [.sl ((sW s a k).1.map ay),.int .i64 (sW s a k).2]):=by
 obtain⟨l⟩:=a
 have h1:=EL s l hn hg ht
 have i1:=lj k 1 4
 rw[aP]
 (try dsimp only)
 refine lS.body eM rfl fun wz σ=>?_
 clear wz
 cases hask:rO s l
 ·rw[hask]at h1
  have hr:sW s ⟨l⟩ k=([],1):=by rw[sW,hask];rfl
  rw[hr]
  rw[aA]at h1 ⊢
  (repeat(first|((repeat(revert hN;revert N;apply Pn.out));refine wk @Nat.zero_add ?_;(repeat(refine Pn.mk ?_;intro N hN)))|((try apply Or.inl);refine⟨_,ak.x (h1) (sd @Nat.zero_add),?_⟩;refine hN _ _ ?_;clear hN N)))
  exact xe (.inl rfl) (vs:=[.own ⟨19003000,σ.next+1+1+1⟩ 0 0,.int .i64 1]) (by simp only[fo,gS,go_sem, ↓reduceIte,Nat.reduceEqDiff,Nat.reduceAdd,Nat.reduceSub,Nat.reduceLeDiff,reduceCtorEq]<;>rfl) (FQ (L:=[]) (sl @Nat.zero_add) _)
 rw[hask]at h1
 obtain⟨hP,hA⟩:=Bu.1 hask
 have hF:=hP.set.form
 cases xG:iw k 1 4
 ·rw[xG]at i1
  have hr:sW s ⟨l⟩ k=([],2):=by rw[sW,hask,if_pos rfl,xG];rfl
  rw[hr]
  rw[aA]at h1 ⊢
  (repeat(first|((repeat(revert hN;revert N;apply Pn.out));refine wk @Nat.zero_add ?_;(repeat(refine Pn.mk ?_;intro N hN)))|((try apply Or.inl);refine⟨_,ak.x (h1) (sd @Nat.zero_add),?_⟩;refine hN _ _ ?_;clear hN N)|((try apply Or.inl);refine⟨_,ak.x (i1) (sd @Nat.zero_add),?_⟩;refine hN _ _ ?_;clear hN N)))
  exact xe (.inl rfl) (vs:=[.own ⟨19005000,σ.next+1+1+1+1⟩ 0 0,.int .i64 2]) (by simp only[fo,gS,go_sem, ↓reduceIte,Nat.reduceEqDiff,Nat.reduceAdd,Nat.reduceSub,Nat.reduceLeDiff,reduceCtorEq]<;>rfl) (FQ (L:=[]) (sl @Nat.zero_add) _)
 rw[xG]at i1
 have kb:=dX xG
 obtain⟨kn,rfl⟩:∃n:Nat,k=(n:Int):=⟨k.toNat,ae⟩
 have hr:sW s ⟨l⟩ kn=(LU s.aC l kn,0):=by rw[sW,hask,if_pos rfl,xG];rfl
 rw[hr]
 have hD:=CD l hA.1 kn ae ae
 have Q7:=vU hA.1 (k:=kn) ae ae
 rw[aA]at h1 ⊢
 by_cases Ve:(dj l kn).length=0
 ·rw[xK,if_pos Ve]at hD
  have Rc:LU s.aC l kn=[]:=by rw[LU,Ve];rfl
  rw[Rc]
  (repeat(first|((repeat(revert hN;revert N;apply Pn.out));refine wk @Nat.zero_add ?_;(repeat(refine Pn.mk ?_;intro N hN)))|((try apply Or.inl);refine⟨_,ak.x (h1) (sd @Nat.zero_add),?_⟩;refine hN _ _ ?_;clear hN N)|((try apply Or.inl);refine⟨_,ak.x (i1) (sd @Nat.zero_add),?_⟩;refine hN _ _ ?_;clear hN N)|((try apply Or.inl);refine⟨_,ak.x (hD) (sd @Nat.zero_add),?_⟩;refine hN _ _ ?_;clear hN N)))
  refine aT (fun n env st=>∃i:Nat,n=(0)-i/\i<=(0)/\env 11=.int .i64 (i:Int)/\env 10=.own ⟨19007000,σ.next+1+1+1+1+1⟩ 0 0/\st.get ⟨19007000,σ.next+1+1+1+1+1⟩=some ⟨true,3,[]⟩/\st.get ⟨19006002,σ.next+1+1+1+1⟩=some ⟨true,1,[[.ck]]⟩) (0) ⟨0,ae,ae,sl @Nat.zero_add,sl @Nat.zero_add,sl @Nat.zero_add,sl @Nat.zero_add⟩ ?_
  rintro n_a env_a st_a ⟨i,rfl,ale,fV,qy,ag0,ag1⟩ dr
  have a9:=dr 9 (by kernel_rfl)
  simp only[go_sem, ↓reduceIte,Nat.reduceEqDiff,Nat.reduceAdd,Nat.reduceSub,Nat.reduceLeDiff,reduceCtorEq]at a9
  clear dr
  have uJ:i=0:=ae
  subst uJ
  have d1:¬((0:Nat):Int)<((0:Nat):Int):=ae
  (try((repeat(revert hN;revert N;apply Pn.out));refine wk (tw @fV (tw @qy (tw @ag0 (tw @ag1 (tw @a9 @d1))))) ?_;(repeat(refine Pn.mk ?_;intro N hN))))
  exact xe (.inl rfl) (vs:=[.own ⟨19007000,σ.next+1+1+1+1+1⟩ 0 0,.int .i64 0]) (sd (tw @fV (tw @qy (tw @ag0 (tw @ag1 @a9))))) (FQ (L:=[]) (sl (tw @fV (tw @qy (tw @ag0 (tw @ag1 @a9))))) _)
 rw[xK,if_neg Ve]at hD
 have hbP:LU s.aC l kn=oZ s.aC l kn (dj l kn).length:=rfl
 rw[hbP]
 have hDfew:=Q7.zX
 have r8:=fun i (hi:i<(dj l kn).length)=>uS (l:=l) (k:=kn) (jY hi)
 have El:=fun i (hi:i<(dj l kn).length)=>rz (rQ hA.1 (k:=(kn:Int)) ae ae (Nat.le_refl _) (r8 i hi).1)
 have Dn:((dj l kn).map ab).length=(dj l kn).length:=by simp
 have ei:∀d c,ak Tryz.prog c d (.bool true)->True:=fun _ _ _=>trivial
 clear ei
 (repeat(first|((repeat(revert hN;revert N;apply Pn.out));refine wk @Nat.zero_add ?_;(repeat(refine Pn.mk ?_;intro N hN)))|((try apply Or.inl);refine⟨_,ak.x (h1) (sd @Nat.zero_add),?_⟩;refine hN _ _ ?_;clear hN N)|((try apply Or.inl);refine⟨_,ak.x (i1) (sd @Nat.zero_add),?_⟩;refine hN _ _ ?_;clear hN N)|((try apply Or.inl);refine⟨_,ak.x (hD) (sd @Nat.zero_add),?_⟩;refine hN _ _ ?_;clear hN N)))
 refine aT (fun n env st=>∃i:Nat,n=((dj l kn).length)-i/\i<=((dj l kn).length)/\env 11=.int .i64 (i:Int)/\(kT ay 3 (env 10) st.get Qq (oZ s.aC l kn i))/\st.get ⟨19006002,σ.next+1+1+1+1⟩=some ⟨true,1,[[.sl ((dj l kn).map ab)]]⟩/\st.get ⟨19000000,σ.next⟩=some ⟨true,4,[[.sl (s.aC.az.map bI),.sl (s.aC.aj.map bm),.sl (s.cq.aj.map ab),.int .i64 s.au]]⟩/\st.get ⟨19000001,σ.next⟩=some ⟨true,1,[[.sl (l.map ab)]]⟩) ((dj l kn).length) ⟨0,ae,ae,sl @Nat.zero_add,⟨⟨19007000,σ.next+1+1+1+1+1⟩,.inl rfl,by simp only[go_sem, ↓reduceIte,Nat.reduceEqDiff,Nat.reduceAdd,Nat.reduceSub,Nat.reduceLeDiff,reduceCtorEq];rfl,by simp only[go_sem, ↓reduceIte,Nat.reduceEqDiff,Nat.reduceAdd,Nat.reduceSub,Nat.reduceLeDiff,reduceCtorEq];rfl⟩,sl @Nat.zero_add,sl @Nat.zero_add,sl @Nat.zero_add⟩ ?_
 rintro n_a env_a st_a ⟨i,rfl,ale,fV,kB,ag0,ag1,oW⟩ dr
 have a2:=dr 2 (by kernel_rfl);have a3:=dr 3 (by kernel_rfl);have a4:=dr 4 (by kernel_rfl);have a9:=dr 9 (by kernel_rfl)
 simp only[go_sem, ↓reduceIte,Nat.reduceEqDiff,Nat.reduceAdd,Nat.reduceSub,Nat.reduceLeDiff,reduceCtorEq]at a2 a3 a4 a9
 clear dr
 by_cases hi:(i:Int)<((dj l kn).length:Int)
 ·have bZ:∀{e:Env} {gg:Rows},(e 11=.int .i64 (IntKind.i64.wrap ((i:Int)+1)))->(kT ay 3 (e 10) gg Qq (oZ s.aC l kn (i+1)))->(gg ⟨19006002,σ.next+1+1+1+1⟩=some ⟨true,1,[[.sl ((dj l kn).map ab)]]⟩)->(gg ⟨19000000,σ.next⟩=some ⟨true,4,[[.sl (s.aC.az.map bI),.sl (s.aC.aj.map bm),.sl (s.cq.aj.map ab),.int .i64 s.au]]⟩)->(gg ⟨19000001,σ.next⟩=some ⟨true,1,[[.sl (l.map ab)]]⟩)->∃m0,m0<((dj l kn).length)-i/\∃i:Nat,m0=((dj l kn).length)-i/\i<=((dj l kn).length)/\e 11=.int .i64 (i:Int)/\(kT ay 3 (e 10) gg Qq (oZ s.aC l kn i))/\gg ⟨19006002,σ.next+1+1+1+1⟩=some ⟨true,1,[[.sl ((dj l kn).map ab)]]⟩/\gg ⟨19000000,σ.next⟩=some ⟨true,4,[[.sl (s.aC.az.map bI),.sl (s.aC.aj.map bm),.sl (s.cq.aj.map ab),.int .i64 s.au]]⟩/\gg ⟨19000001,σ.next⟩=some ⟨true,1,[[.sl (l.map ab)]]⟩:=fun x1 x2 x3 x4 x5=>⟨_,ae,i+1,rfl,ae,(by rw[x1,aB ae]),x2,x3,x4,x5⟩
  have fB:i<(dj l kn).length:=ae
  have gT:=gu fB
  have Ux:=vM s.aC l kn i
  (try((repeat(revert hN;revert N;apply Pn.out));refine wk (tw @fV (tw @ag0 (tw @ag1 (tw @oW (tw @a2 (tw @a3 (tw @a4 (tw @a9 (tw @hi @Dn))))))))) ?_;(repeat(refine Pn.mk ?_;intro N hN))))
  refine aT (fun n env st=>∃m:Nat,n=(2)-m/\m<=(2)/\env 12=(.int .i64 (1-(m:Int)))/\(kT ay 3 (env 10) st.get Qq (oZ s.aC l kn i++kh s.aC l kn i m))/\st.get ⟨19006002,σ.next+1+1+1+1⟩=some ⟨true,1,[[.sl ((dj l kn).map ab)]]⟩/\st.get ⟨19000000,σ.next⟩=some ⟨true,4,[[.sl (s.aC.az.map bI),.sl (s.aC.aj.map bm),.sl (s.cq.aj.map ab),.int .i64 s.au]]⟩/\st.get ⟨19000001,σ.next⟩=some ⟨true,1,[[.sl (l.map ab)]]⟩) (2) ⟨0,ae,ae,sl (tw @fV (tw @ag0 (tw @ag1 (tw @oW (tw @a2 (tw @a3 (tw @a4 @a9))))))),by(simp only[go_sem, ↓reduceIte,Nat.reduceEqDiff,Nat.reduceAdd,Nat.reduceSub,Nat.reduceLeDiff,reduceCtorEq];exact kB.cast (by simp[kh])),sl (tw @fV (tw @ag0 (tw @ag1 (tw @oW (tw @a2 (tw @a3 (tw @a4 @a9))))))),sl (tw @fV (tw @ag0 (tw @ag1 (tw @oW (tw @a2 (tw @a3 (tw @a4 @a9))))))),sl (tw @fV (tw @ag0 (tw @ag1 (tw @oW (tw @a2 (tw @a3 (tw @a4 @a9)))))))⟩ ?_
  rintro n_b env_b st_b ⟨m,rfl,ble,b12,bI0,bg0,bg1,xE⟩ bfr
  have b2:=bfr 2 (by kernel_rfl);have b3:=bfr 3 (by kernel_rfl);have b4:=bfr 4 (by kernel_rfl);have b9:=bfr 9 (by kernel_rfl);have yw:=bfr 11 (by kernel_rfl)
  simp only[go_sem, ↓reduceIte,Nat.reduceEqDiff,Nat.reduceAdd,Nat.reduceSub,Nat.reduceLeDiff,reduceCtorEq,fV,ag0,ag1,oW,a2,a3,a4,a9]at b2 b3 b4 b9 yw
  clear bfr
  have N1:=vL s.aC l kn i m
  have iL:=tT s.aC l kn i m
  by_cases hm:(m:Int)<2
  ·have gY:∀{e:Env} {gg:Rows},(e 12=(.int .i64 (1-((m+1):Int))))->(kT ay 3 (e 10) gg Qq (oZ s.aC l kn i++kh s.aC l kn i (m+1)))->(gg ⟨19006002,σ.next+1+1+1+1⟩=some ⟨true,1,[[.sl ((dj l kn).map ab)]]⟩)->(gg ⟨19000000,σ.next⟩=some ⟨true,4,[[.sl (s.aC.az.map bI),.sl (s.aC.aj.map bm),.sl (s.cq.aj.map ab),.int .i64 s.au]]⟩)->(gg ⟨19000001,σ.next⟩=some ⟨true,1,[[.sl (l.map ab)]]⟩)->∃m0,m0<(2)-m/\∃m:Nat,m0=(2)-m/\m<=(2)/\e 12=(.int .i64 (1-(m:Int)))/\(kT ay 3 (e 10) gg Qq (oZ s.aC l kn i++kh s.aC l kn i m))/\gg ⟨19006002,σ.next+1+1+1+1⟩=some ⟨true,1,[[.sl ((dj l kn).map ab)]]⟩/\gg ⟨19000000,σ.next⟩=some ⟨true,4,[[.sl (s.aC.az.map bI),.sl (s.aC.aj.map bm),.sl (s.cq.aj.map ab),.int .i64 s.au]]⟩/\gg ⟨19000001,σ.next⟩=some ⟨true,1,[[.sl (l.map ab)]]⟩:=fun x1 x2 x3 x4 x5=>⟨_,ae,m+1,rfl,ae,x1,x2,x3,x4,x5⟩
   have mz:(0:Int)<=1-(m:Int):=ae
   have hd:iw (1-(m:Int)) 0 3=true:=mC ae
   have q9:1-(m:Int)=0∨1-(m:Int)=1:=ae
   have hw:IntKind.i64.wrap (1-(m:Int)-1)=1-((m:Int)+1):=by rw[aJ ae];omega
   have JD:=qF (dj l kn) Q7 i (1-(m:Int)) fB hd
   have Uc:=El i fB
   obtain⟨q1,q2,q3⟩:=r8 i fB
   unfold DK at iL
   obtain⟨ix,Bf⟩:∃ix,fD (dj l kn) (dt (bq (dj l kn) i).bw (1-(m:Int)))=ix:=⟨_,rfl⟩
   rw[Bf]at JD iL
   by_cases h0:ix<0
   ·rw[if_neg ae,List.append_nil]at iL
    (repeat(first|((repeat(revert hN;revert N;apply Pn.out));refine wk (tw @b12 (tw @bg0 (tw @bg1 (tw @xE (tw @b2 (tw @b3 (tw @b4 (tw @b9 (tw @yw (tw @mz (tw @hw @h0))))))))))) ?_;(repeat(refine Pn.mk ?_;intro N hN)))|((try apply Or.inl);refine⟨_,ak.x (JD) (sd (tw @b12 (tw @bg0 (tw @bg1 (tw @xE (tw @b2 (tw @b3 (tw @b4 (tw @b9 (tw @yw (tw @mz (tw @hw @h0)))))))))))),?_⟩;refine hN _ _ ?_;clear hN N)))
    refine gY ?_ (by(simp only[go_sem, ↓reduceIte,Nat.reduceEqDiff,Nat.reduceAdd,Nat.reduceSub,Nat.reduceLeDiff,reduceCtorEq];exact bI0.cast (by rw[iL]))) ?_ ?_ ?_
    all_goals simp only[go_sem, ↓reduceIte,Nat.reduceEqDiff,Nat.reduceAdd,Nat.reduceSub,Nat.reduceLeDiff,reduceCtorEq,b12,bg0,bg1,xE,b2,b3,b4,b9,yw,hw]
   ·have uJ:0<=ix:=ae
    have wu:=mh (l:=dj l kn) (p:=dt (bq (dj l kn) i).bw (1-(m:Int))) ae
    rw[Bf]at wu
    obtain⟨z1,z2,z3⟩:=r8 _ wu.1
    have FZ:=Au s l hF hA (bq (dj l kn) i).bw (1-(m:Int)) kn ae ae q9 ae ae (fun c hc=>⟨Kz q9 hc (by rw[<-q2];exact q3),Gc q9 hc (by rw[<-wu.2,<-z2];exact z3)⟩)
    have G8:=FZ.cut mixed (.ptr _ [.sl (s.cq.aj.map ab),.int .i64 s.au] (.same _ (.same _ (.same _ (.same _ .nil)))))
    rw[ad]at G8
    simp only[List.cons_append,List.nil_append]at G8
    clear FZ
    have ke:=pk s.aC l (bq (dj l kn) i).bw (1-(m:Int)) kn kn
    generalize gq s.aC l (bq (dj l kn) i).bw (1-(m:Int)) kn kn=n at G8 iL ke
    rw[ab]at gT
    rw[aa]at G8
    by_cases hb:0<n
    ·rw[if_pos ⟨uJ,hb⟩]at iL
     have fE:(0:Int)<(n:Int):=ae
     (repeat(first|((repeat(revert hN;revert N;apply Pn.out));refine wa (tw @b12 (tw @bg0 (tw @bg1 (tw @xE (tw @b2 (tw @b3 (tw @b4 (tw @b9 (tw @yw (tw @mz (tw @hw (tw @h0 (tw @uJ (tw @Dn (tw @gT @fE))))))))))))))) ?_;(repeat(refine Pn.mk ?_;intro N hN)))|((try apply Or.inl);refine⟨_,ak.x (JD) (sd (tw @b12 (tw @bg0 (tw @bg1 (tw @xE (tw @b2 (tw @b3 (tw @b4 (tw @b9 (tw @yw (tw @mz (tw @hw (tw @h0 (tw @uJ (tw @Dn (tw @gT @fE)))))))))))))))),?_⟩;refine hN _ _ ?_;clear hN N)|((try apply Or.inl);refine⟨_,ak.x (G8) (sd (tw @b12 (tw @bg0 (tw @bg1 (tw @xE (tw @b2 (tw @b3 (tw @b4 (tw @b9 (tw @yw (tw @mz (tw @hw (tw @h0 (tw @uJ (tw @Dn (tw @gT @fE)))))))))))))))),?_⟩;refine hN _ _ ?_;clear hN N)))
     refine K4 (enc:=ay) (S:=Qq) (L:=oZ s.aC l kn i++kh s.aC l kn i m) (xv:=env_b 10) [⟨i,ix.toNat,(n:Int)⟩] rfl rfl (sd @Nat.zero_add) (bI0.frame fun o ho=>by rcases ho with ho|ho<;>simp only[go_sem, ↓reduceIte,Nat.reduceEqDiff,Nat.reduceAdd,Nat.reduceSub,Nat.reduceLeDiff,reduceCtorEq,vp ho]) (sd (tw @ay.eq_1 (Int.toNat_of_nonneg uJ))) Le (.inr rfl) (by simp only[dF,List.length_append,List.length_cons,List.length_nil];omega) fun v g' hO kR=>?_
     rw[List.append_assoc,<-iL]at hO
     have f0:=kR ⟨19006002,σ.next+1+1+1+1⟩ (by rintro(h|h)<;>exact absurd (show(19006002:Nat)= _ from h) (by decide))
     have f1:=kR ⟨19000000,σ.next⟩ (by rintro(h|h)<;>exact absurd (show(19000000:Nat)= _ from h) (by decide))
     have f2:=kR ⟨19000001,σ.next⟩ (by rintro(h|h)<;>exact absurd (show(19000001:Nat)= _ from h) (by decide))
     simp only[go_sem, ↓reduceIte,Nat.reduceEqDiff,Nat.reduceAdd,Nat.reduceSub,Nat.reduceLeDiff,reduceCtorEq,b12,bg0,bg1,xE,b2,b3,b4,b9,yw]at f0 f1 f2
     clear kR
     (try((repeat(revert hN;revert N;apply Pn.out));refine wk (tw @b12 (tw @bg0 (tw @bg1 (tw @xE (tw @b2 (tw @b3 (tw @b4 (tw @b9 (tw @yw @hw))))))))) ?_;(repeat(refine Pn.mk ?_;intro N hN))))
     refine gY ?_ (by(simp only[go_sem, ↓reduceIte,Nat.reduceEqDiff,Nat.reduceAdd,Nat.reduceSub,Nat.reduceLeDiff,reduceCtorEq];exact hO)) ?_ ?_ ?_
     all_goals simp only[go_sem, ↓reduceIte,Nat.reduceEqDiff,Nat.reduceAdd,Nat.reduceSub,Nat.reduceLeDiff,reduceCtorEq,b12,bg0,bg1,xE,b2,b3,b4,b9,yw,hw,f0,f1,f2]
    ·rw[if_neg fun h=>hb h.2,List.append_nil]at iL
     have fE:¬(0:Int)<(n:Int):=ae
     (repeat(first|((repeat(revert hN;revert N;apply Pn.out));refine wk (tw @b12 (tw @bg0 (tw @bg1 (tw @xE (tw @b2 (tw @b3 (tw @b4 (tw @b9 (tw @yw (tw @mz (tw @hw (tw @h0 (tw @uJ (tw @Dn (tw @gT @fE))))))))))))))) ?_;(repeat(refine Pn.mk ?_;intro N hN)))|((try apply Or.inl);refine⟨_,ak.x (JD) (sd (tw @b12 (tw @bg0 (tw @bg1 (tw @xE (tw @b2 (tw @b3 (tw @b4 (tw @b9 (tw @yw (tw @mz (tw @hw (tw @h0 (tw @uJ (tw @Dn (tw @gT @fE)))))))))))))))),?_⟩;refine hN _ _ ?_;clear hN N)|((try apply Or.inl);refine⟨_,ak.x (G8) (sd (tw @b12 (tw @bg0 (tw @bg1 (tw @xE (tw @b2 (tw @b3 (tw @b4 (tw @b9 (tw @yw (tw @mz (tw @hw (tw @h0 (tw @uJ (tw @Dn (tw @gT @fE)))))))))))))))),?_⟩;refine hN _ _ ?_;clear hN N)))
     refine gY ?_ (by(simp only[go_sem, ↓reduceIte,Nat.reduceEqDiff,Nat.reduceAdd,Nat.reduceSub,Nat.reduceLeDiff,reduceCtorEq];exact bI0.cast (by rw[iL]))) ?_ ?_ ?_
     all_goals simp only[go_sem, ↓reduceIte,Nat.reduceEqDiff,Nat.reduceAdd,Nat.reduceSub,Nat.reduceLeDiff,reduceCtorEq,b12,bg0,bg1,xE,b2,b3,b4,b9,yw,hw]
  ·have ud:m=2:=ae
   subst ud
   have dO:¬(0:Int)<=1-((2:Nat):Int):=ae
   (try((repeat(revert hN;revert N;apply Pn.out));refine wk (tw @b12 (tw @bg0 (tw @bg1 (tw @xE (tw @b2 (tw @b3 (tw @b4 (tw @b9 (tw @yw @dO))))))))) ?_;(repeat(refine Pn.mk ?_;intro N hN))))
   refine bZ ?_ (by(simp only[go_sem, ↓reduceIte,Nat.reduceEqDiff,Nat.reduceAdd,Nat.reduceSub,Nat.reduceLeDiff,reduceCtorEq];exact bI0.cast (by rw[yE]))) ?_ ?_ ?_
   all_goals simp only[go_sem, ↓reduceIte,Nat.reduceEqDiff,Nat.reduceAdd,Nat.reduceSub,Nat.reduceLeDiff,reduceCtorEq,fV,ag0,ag1,oW,a2,a3,a4,a9,b12,bg0,bg1,xE,b2,b3,b4,b9,yw]
 ·have mQ:i=(dj l kn).length:=ae
  subst mQ
  obtain⟨o,hoS,ho1,ho2⟩:=kB
  (try((repeat(revert hN;revert N;apply Pn.out));refine wk (tw @fV (tw @ag0 (tw @ag1 (tw @oW (tw @a2 (tw @a3 (tw @a4 (tw @a9 (tw @hi (tw @Dn @ho1)))))))))) ?_;(repeat(refine Pn.mk ?_;intro N hN))))
  exact xe (.inl rfl) (vs:=[.own o 0 (oZ s.aC l kn (dj l kn).length).length,.int .i64 0]) (sd @ho1) (FQ ho2 _)
end Go.Proofs.YtkbipfflibjfbaaGreat.V

namespace Go.Proofs.YtkbipfflibjfbaaGreat.V
open Go.RowKit
variable {P:Program} {hs:Nat}
theorem Ib {q n i:Nat} {ops:Array Oper} {Q:Exit->Act->World->Prop} {K K':Act->World->Prop} {a:Act} {w:World} (kZ:∀(j:Nat) (o:Oper),ops[j]? =some o->∀c,o.op≠.defer c) (jA:¬LetsOut Q) (hK:∀a w,K a w->K' a w) (h:wpOp P ops Q i K a w):wpOpIn (Fence.wide.inRound q) n P ops Q i K' a w:=by
 unfold wpOp at h
 unfold wpOpIn
 split at h
 ·rename_i ho;simp only[ho];exact hK _ _ h
 ·rename_i o ho
  simp only[ho]
  split at h
  ·rename_i hw
   rw[if_pos hw]
   replace h:=h.resolve_right fun hc=>jA hc.2
   refine⟨fun _ _=>trivial,?_⟩
   rw[Oper.semAt_eq _ _ _ (kZ i o ho)]
   unfold Oper.wp at h
   generalize (execOp a.eval o).run P w=r at *
   cases r with
   |ok m w'=>
    cases m<;>simp only[Oper.upon,Oper.uponIn]at h ⊢
    case value=>exact hK _ _ h
    case skip=>exact hK _ _ h
    case defer=>exact hK _ _ h
    case enter f args=>
     refine⟨fun h=>by simp[Fence.wide]at h,CallsIn.inRound q (callsIn_wide.2 (h.mono fun e Ia he=>?_))⟩
     cases e with
     |returned v=>exact hK _ _ he
     |panicked c=>exact he
     |outgrown=>exact he
    case row r args=>exact⟨fun h=>by simp[Fence.wide]at h,fun c cs _=>let ⟨v,Ia,h1,s⟩:=h c cs;⟨v,Ia,hK _ _ h1,stepsIn_wide.2 s⟩⟩
   |halt x w'=>cases x<;>simp only[Oper.upon,Oper.uponIn]at h ⊢;exact h
  ·rename_i hw
   rw[if_neg hw]
   exact⟨fun _ _=>trivial,hK _ _ h⟩
theorem lR {q n:Nat} {md:Region.Mode} {ops:Array Oper} {Q:Exit->Act->World->Prop} (kZ:∀(j:Nat) (o:Oper),ops[j]? =some o->∀c,o.op≠.defer c) (jA:¬LetsOut Q):∀(fuel:Nat) (listed:Array Bool) (a:Act) (w:World),wpAny P md ops Q fuel listed a w->wpAnyIn (Fence.wide.inRound q) n P md ops Q fuel listed a w
 |0,_,_,_,h=>h
 |fuel+1,listed,_,_,h=>⟨h.1,fun i hi=>Ib kZ jA (fun a w=>lR kZ jA fuel _ a w) (h.2 i hi)⟩
def An:Op->Bool
 | .defer _=>true
 |_=>false
theorem CT {ops:Array Oper} (h:(ops.all fun o=> !An o.op)=true):∀(j:Nat) (o:Oper),ops[j]? =some o->∀c,o.op≠.defer c:=fun j o hj c hc=>by
 have:=Array.all_eq_true_iff_forall_mem.1 h o (Array.mem_of_getElem? hj)
 rw[hc]at this
 simp[An]at this
theorem AK (hm:P.follows .mixedOrders=true) {nt site0 id q n:Nat} {ops:Array Oper} {vl:List bh} (h:o5 P nt site0 ops true false=some vl) (kZ:∀(j:Nat) (o:Oper),ops[j]? =some o->∀c,o.op≠.defer c)
  {K:Env->ax->Prop} {env:Env} {σ:ax} {a:Act} {w:World} {D:Nat->Prop} {ι:Names} {Q:Exit->Act->World->Prop} (hv:wpOps (Sound P) true vl K env σ) (dR:St P hs nt D ι env σ a w)
  (hK:∀jn σ' a' w' D' ι',K jn σ'->Step hs D ι w D' ι' w'->St P hs nt D' ι' jn σ' a' w'->a'.defers=a.defers->Q .normal a' w'):(Code.region id ops true).wpIn (Fence.wide.inRound q) n P Q a w:=by
 have dz:∃hidden nE,allM (kY P ops nt site0 true false (iN ops) hidden) ops.toList 0=some nE/\vl=nE/\nN ops nE (iN ops)=true:=by
  unfold o5 at h
  simp only[if_true,Bool.not_true,Bool.false_or]at h
  split at h
  ·rename_i nE h'
   split at h
   ·rename_i k5;simp at h;exact⟨_,nE,h',h.symm,k5⟩
   ·cases h
  ·cases h
 obtain⟨hidden,nE,dz,rfl,k5⟩:=dz
 obtain⟨jU,T0⟩:=dR.drew
 obtain⟨hlen,_⟩:=lz dz
 have iU:vl.length=ops.size:=by rw[hlen];simp
 have qY:=sN (X:=Sound P) (K:=K) (n:=σ.next) k5 iU vl 0 (Array.replicate ops.size false) env σ.get (by simp) (by simp) (fun i hi=>by simp[hi]) (by simp[iU]) (fun k i h=>by
  exfalso
  rcases Nat.lt_or_ge k ops.size with hk|hk
  ·simp[hk]at h
  ·simp[Nat.not_lt.2 hk]at h) hv
 rw[iU]at qY
 have hw:=pM (Q:=fun e a w=>e=.normal/\Q .normal a w) dz ops.size _ env σ.get a w.drew D ι (fun _=>False) qY jU.Gg jU.used (fun _ h=>h.elim) jU.env jU.size fun fA g1 a1 w1 D1 ι1 U1 hk T S1 OI E1 sS hd=>⟨rfl,hK fA ⟨g1,σ.next+1⟩ a1 w1 D1 ι1 hk (T0.trans T) ⟨S1,OI.next,E1,sS⟩ hd⟩
 have fB:=lR (q:=q) (n:=n) (Q:=fun e a w=>e=.normal/\Q .normal a w) kZ (by rintro⟨_,_,hc,_⟩;cases hc) ops.size _ a w.drew hw
 refine wpIn_mono (wpIn_region_any (id:=id) hm fB) ?_
 rintro e a w ⟨rfl,h⟩
 exact h
end Go.Proofs.YtkbipfflibjfbaaGreat.V

namespace Go.Proofs.YtkbipfflibjfbaaGreat.V
open Go.RowKit
variable {P:Program} {hs:Nat}
theorem M7 {q n:Nat} {Q:Exit->Act->World->Prop} {K K':Act->World->Prop} {a:Act} {w:World} {o:Oper} (kZ:∀c,o.op≠.defer c) (jA:¬LetsOut Q) (hK:∀a w,K a w->K' a w) (h:o.wp P a w K Q∨(o.asks P a w/\LetsOut Q)):o.wpIn (Fence.wide.inRound q) n P a w K' Q:=by
 replace h:=h.resolve_right fun hc=>jA hc.2
 refine⟨fun _ _=>trivial,?_⟩
 rw[Oper.semAt_eq _ _ _ kZ]
 unfold Oper.wp at h
 generalize (execOp a.eval o).run P w=r at *
 cases r with
 |ok m w'=>
  cases m<;>simp only[Oper.upon,Oper.uponIn]at h ⊢
  case value=>exact hK _ _ h
  case skip=>exact hK _ _ h
  case defer=>exact hK _ _ h
  case enter f args=>
   refine⟨fun h=>by simp[Fence.wide]at h,CallsIn.inRound q (callsIn_wide.2 (h.mono fun e Ia he=>?_))⟩
   cases e with
   |returned v=>exact hK _ _ he
   |panicked c=>exact he
   |outgrown=>exact he
  case row r args=>exact⟨fun h=>by simp[Fence.wide]at h,fun c cs _=>let ⟨v,Ia,h1,s⟩:=h c cs;⟨v,Ia,hK _ _ h1,stepsIn_wide.2 s⟩⟩
 |halt x w'=>cases x<;>simp only[Oper.upon,Oper.uponIn]at h ⊢;exact h
theorem uy {q n:Nat} {ops:Array Oper} {Q:Exit->Act->World->Prop} (jA:¬LetsOut Q):∀(l:List Oper),(∀o∈l,∀c,o.op≠.defer c)->∀(a:Act) (w:World),wpList P ops Q l a w->wpListIn (Fence.wide.inRound q) n P ops Q l a w
 |[],_,_,_,h=>h
 |o::l,kZ,a,w,h=>by
  unfold wpList at h
  unfold wpListIn
  have hl:=uy (q:=q) (n:=n) (ops:=ops) jA l fun o ho=>kZ o (List.mem_cons_of_mem _ ho)
  split at h
  ·rename_i hw
   rw[if_pos hw]
   exact M7 (kZ o (List.mem_cons_self ..)) jA (fun a w h=>hl a w h) h
  ·rename_i hw
   rw[if_neg hw]
   exact⟨fun _ _=>trivial,hl _ _ h⟩
def rj:Code->Bool
 | .skip=>true
 | .exit _=>true
 | .ret=>true
 | .label _=>true
 | .seq x y=>rj x&&rj y
 | .cond _ x y=>rj x&&rj y
 | .block _ c=>rj c
 | .loop c=>rj c
 | .region _ ops draw=>(ops.all fun o=> !An o.op)&& !(!draw&&ops.any fun o=>JW o.op)
 |_=>false
def FP (S:Nat) (x y:bh):Bool:=rF x y&&x.op.cls !=.write&&x.hid.contains S&&x.site !=S
def Wm (vl:List bh) (bs:Array Nat) (s m:Nat):Bool:=match vl[s]?,vl[m]? with
 |some vs,some vm=>match vs.op,vm.op,vm.dst,vs.guard,vm.guard with
  | .store _ (.t t) _,.new _,some t',none,none=>t==t'&&(bs.getD s 0).testBit m&&(vl.zipIdx.all fun(v,i)=>i==m||v.dst !=some t)&&vl.zipIdx.all fun(y,j)=>vl.zipIdx.all fun(x,i)=> !(decide (i<j))||(bs.getD j 0).testBit i||yU x y||(j==s&&FP vm.site x y)
  |_,_,_,_,_=>false
 |_,_=>false
def NR (P:Program) (nt site0:Nat) (ops:Array Oper) (s m:Nat):Option VC:=
 match allM (kY P ops nt site0 true false (iN ops) (ops.toList.zipIdx.map fun(o,i)=>(i,((qO P o.op).map pj).getD false))) ops.toList 0 with
 |some vl=>if pQ ops&&Wm vl (iN ops) s m then some (.eS true vl)else none
 |none=>none
structure LS (vl:List bh) (bs:Array Nat) (s m t:Nat) (vs vm:bh):Prop where
 hs:vl[s]? =some vs
 hm:vl[m]? =some vm
 op:∃sz y,vs.op=.store sz (.t t) y
 nw:∃z,vm.op=.new z
 dst:vm.dst=some t
 gs:vs.guard=none
 gm:vm.guard=none
 bit:(bs.getD s 0).testBit m=true
 one:∀i v,vl[i]? =some v->i≠m->v.dst≠some t
 pair:∀i j x y,vl[i]? =some x->vl[j]? =some y->i<j->(bs.getD j 0).testBit i=false->yU x y=true∨(j=s/\FP vm.site x y=true)
theorem Qh {vl:List bh} {bs:Array Nat} {s m:Nat} (h:Wm vl bs s m=true):∃t vs vm,LS vl bs s m t vs vm:=by
 unfold Wm at h
 split at h
 ·rename_i vs vm hs hm
  split at h
  ·rename_i sz t y z t' h1 h2 h3 h4 h5
   simp only[Bool.and_eq_true,beq_iff_eq,List.all_eq_true]at h
   obtain⟨⟨⟨rfl,hb⟩,hone⟩,hp⟩:=h
   have mem:∀(k:Nat) (z:bh),vl[k]? =some z->(z,k)∈vl.zipIdx:=fun k z hk=>by
    rw[List.mem_iff_getElem?]
    exact⟨k,by simp[List.getElem?_zipIdx,hk]⟩
   refine⟨t,vs,vm,hs,hm,⟨sz,y,h1⟩,⟨z,h2⟩,h3,h4,h5,hb,fun i v hv hi=>?_,fun i j x y hx hy dO Vt=>?_⟩
   ·have:=hone _ (mem i v hv)
    simp only[Bool.or_eq_true,beq_iff_eq,bne_iff_ne]at this
    exact this.resolve_left hi
   ·have:=hp _ (mem j y hy) _ (mem i x hx)
    simp only[dO,decide_true,Bool.not_true,Bool.false_or,Vt,Bool.or_eq_true,Bool.and_eq_true,beq_iff_eq]at this
    exact this
  ·cases h
 ·cases h
def IA (n S m t:Nat) (listed:Array Bool) (env:Env):Prop:=listed.getD m false=true->env t=.ptr ⟨S,n⟩ 0 0
theorem OD {X:fm} {n:Nat} {vm:bh} {z:List K} (eb:vm.op=.new z) (hg:vm.guard=none) {env:Env} {g g':Rows} {v:AV} (h:GS X n vm env g v g'):v=.ptr ⟨vm.site,n⟩ 0 0:=by
 unfold GS at h
 simp only[hg,aH,if_true]at h
 unfold VS at h
 simp only[eb]at h
 obtain⟨mr,h,_⟩:=h
 simp only[eW,Option.some.injEq,Prod.mk.injEq]at h
 exact h.1.symm
theorem IA.step {X:fm} {n:Nat} {vl:List bh} {bs:Array Nat} {s m t:Nat} {vs vm:bh} (L:LS vl bs s m t vs vm) {listed:Array Bool} {env:Env} (hI:IA n vm.site m t listed env) {j:Nat} {vj:bh} (hj:vl[j]? =some vj) {g g':Rows} {v:AV} (hG:GS X n vj env g v g'):IA n vm.site m t (listed.setIfInBounds j true) (upd env vj.dst v):=by
 intro hm
 by_cases VK:j=m
 ·subst VK
  have:=L.hm
  rw[hj]at this;injection this with this;subst this
  obtain⟨z,hz⟩:=L.nw
  rw[L.dst,OD hz L.gm hG]
  simp[upd]
 ·rw[getD_set_ne false VK]at hm
  have hd:=L.one j vj hj VK
  have:=hI hm
  cases PD:vj.dst with
  |none=>exact this
  |some d=>
   have gI:t≠d:=fun e=>hd (by rw[PD,e])
   simp only[upd,if_neg gI];exact this
theorem O4 {X:fm} {n:Nat} {x y:bh} {S sz t:Nat} {a:O} {env:Env} {g g1 g2:Rows} {v v':AV} (eb:y.op=.store sz (.t t) a) (SL:y.guard=none) (F:FP S x y=true) (ht:env t=.ptr ⟨S,n⟩ 0 0) (h1:GS X n x env g v g1) (h2:GS X n y (upd env x.dst v) g1 v' g2):
  ∃yW,GS X n y env g v' yW/\GS X n x (upd env y.dst v') yW v g2/\upd (upd env x.dst v) y.dst v'=upd (upd env y.dst v') x.dst v:=by
 unfold FP at F
 simp only[Bool.and_eq_true,bne_iff_ne]at F
 obtain⟨⟨⟨f1,f2⟩,f3⟩,f4⟩:=F
 have A:=od f1
 have x8:=sM (env:=env) (v:=v) (u:=v') A.dst
 replace h2:GS X n y env g1 v' g2:=oM (kO A.xy) h2
 have back:∀{yW},GS X n x env yW v g2->GS X n x (upd env y.dst v') yW v g2:=fun h=>oM (fun t ht=>(kO A.yx t ht).symm) h
 have ex:dh env (.t t)=.ptr ⟨S,n⟩ 0 0:=ht
 have store:∀(h h':Rows) (u:AV),GS X n y env h u h'↔(bz h sz (dh env a) (.ptr ⟨S,n⟩ 0 0)).map (fun g'=>(AV.undef,g'))=some (u,h'):=fun h h' u=>by
  unfold GS
  simp only[SL,aH,if_true]
  unfold VS
  simp only[eb,fZ,ex]
 rw[store]at h2
 simp only[bz,Option.map_eq_some_iff,Option.bind_eq_some_iff,Prod.mk.injEq]at h2
 obtain⟨g',⟨r,hr,cs,dy,SO⟩,rfl,rfl⟩:=h2
 split at SO
 ·rename_i hc
  simp only[Option.some.injEq]at SO
  unfold GS at h1
  by_cases wx:aH x.guard env=true
  ·rw[if_pos wx]at h1
   obtain⟨mx,rfl,kx,OM⟩:=rN f2 h1
   have gI:(⟨S,n⟩:Id)≠⟨x.site,n⟩:=fun e=>f4 (by injection e with e;exact e.symm)
   have oz:g ⟨S,n⟩=some r:=by
    cases mx with
    |none=>exact hr
    |some row=>simpa only[jm,bU,if_neg gI]using hr
   refine⟨bU g ⟨S,n⟩ {r with rows:=r.rows.set 0 (cH cs 0 (dh env a).cells)},?_,back ?_,x8⟩
   ·rw[store]
    simp only[bz,oz,Option.bind_some,dy,if_pos hc,Option.map_some]
   ·unfold GS
    rw[if_pos wx,<-SO]
    have hv:=OM (bU g ⟨S,n⟩ {r with rows:=r.rows.set 0 (cH cs 0 (dh env a).cells)}) (by
     have:=xz (hid:=x.hid) (g:=g) (s:=S) (n:=n) (mr:=some {r with rows:=r.rows.set 0 (cH cs 0 (dh env a).cells)}) (fun _=>f3)
     exact this)
    have G5:=yv (g:=g) gI (some {r with rows:=r.rows.set 0 (cH cs 0 (dh env a).cells)}) mx
    simp only[jm]at G5 hv
    rw[show bU (jm g ⟨x.site,n⟩ mx) ⟨S,n⟩ {r with rows:=r.rows.set 0 (cH cs 0 (dh env a).cells)}=jm (bU g ⟨S,n⟩ {r with rows:=r.rows.set 0 (cH cs 0 (dh env a).cells)}) ⟨x.site,n⟩ mx from G5.symm]
    exact hv
  ·rw[if_neg wx]at h1
   obtain⟨rfl,rfl⟩:=h1
   refine⟨g',?_,back ?_,x8⟩
   ·rw[store]
    simp only[bz,hr,Option.bind_some,dy,if_pos hc,Option.map_some,SO]
   ·unfold GS;rw[if_neg wx];exact⟨rfl,rfl⟩
 ·cases SO
theorem Dh {X:fm} {n:Nat} {ops:Array Oper} {vl:List bh} {K:Env->Rows->Prop} {s m t:Nat} {vs vm:bh} (L:LS vl (iN ops) s m t vs vm) {i:Nat} {vi:bh} (hi:vl[i]? =some vi) {v:AV}:∀(fuel:Nat) (listed:Array Bool) (env:Env) (g g1:Rows),
  DC ops listed->(∀j,j<i->listed.getD j false=true)->IA n vm.site m t listed env->i∈Region.ready .any ops listed->GS X n vi env g v g1->Dg X n ops vl K fuel (listed.setIfInBounds i true) (upd env vi.dst v) g1->Dg X n ops vl K (fuel+1) listed env g:=by
 intro fuel
 induction fuel with
 |zero=>
  intro listed env g g1 _ _ _ hr hG H
  refine⟨fun h=>(by rw[h]at hr;cases hr),fun j hj=>?_⟩
  by_cases lr:j=i
  ·subst lr;exact⟨vi,hi,v,g1,hG,H⟩
  ·have:=ready_mono hj lr
   rw[H.1]at this;cases this
 |succ fuel ih=>
  intro listed env g g1 pf xW hI hr hG H
  refine⟨fun h=>(by rw[h]at hr;cases hr),fun j hj=>?_⟩
  by_cases lr:j=i
  ·subst lr;exact⟨vi,hi,v,g1,hG,H⟩
  ·obtain⟨vj,F1,v',g2,TY,H2⟩:=H.2 j (ready_mono hj lr)
   have b1:((iN ops).getD j 0).testBit i=false:=by
    cases hb:((iN ops).getD j 0).testBit i with
    |false=>rfl
    |true=>have:=jD pf hj i hb;rw[iE hr]at this;cases this
   have y4:i<j:=by
    rcases Nat.lt_or_ge j i with h|h
    ·have:=xW j h;rw[iE hj]at this;cases this
    ·omega
   have Sz:∃yW,GS X n vj env g v' yW/\GS X n vi (upd env vj.dst v') yW v g2/\upd (upd env vi.dst v) vj.dst v'=upd (upd env vj.dst v') vi.dst v:=by
    rcases L.pair i j vi vj hi F1 y4 b1 with hF|⟨rfl,hF⟩
    ·exact zF (nP hF) hG TY
    ·have:=L.hs
     rw[F1]at this;injection this with this;subst this
     obtain⟨sz,y,eb⟩:=L.op
     exact O4 eb L.gs hF (hI (jD pf hj m L.bit)) hG TY
   obtain⟨yW,q1,q2,q3⟩:=Sz
   refine⟨vj,F1,v',yW,q1,ih _ _ _ g2 (pf.list hj) (fun k hk=>getD_set_true (xW k hk)) (hI.step L F1 q1) (ready_mono hr (fun e=>lr e.symm)) q2 ?_⟩
   rw[<-q3,Array.setIfInBounds_comm _ _ lr]
   exact H2
theorem Ku {ops:Array Oper} (he:pQ ops=true) {k:Nat} {listed:Array Bool} (hk:k<ops.size) (h0:listed[k]? =some false) (hl:∀i,i<k->listed[i]? =some true):k∈Region.ready .any ops listed:=by
 rw[mem_ready]
 refine⟨by simp[h0],ops[k],Array.getElem?_eq_getElem hk,fun e hem hb=>?_⟩
 unfold pQ at he
 simp only[List.all_eq_true]at he
 have hm:(ops[k],k)∈ops.toList.zipIdx:=by
  rw[List.mem_iff_getElem?]
  exact⟨k,by simp[List.getElem?_zipIdx,hk]⟩
 have:=he _ hm
 rw[Array.all_eq_true_iff_forall_mem]at this
 have:=this e hem
 simp only[hb,Bool.not_true,Bool.false_or,decide_eq_true_eq]at this
 simp[hl e.on this]
theorem zB {X:fm} {ops:Array Oper} {vl:List bh} {K:Env->ax->Prop} {n:Nat} {s m t:Nat} {vs vm:bh} (he:pQ ops=true) (L:LS vl (iN ops) s m t vs vm) (hlen:vl.length=ops.size):∀(r:List bh) (k:Nat) (listed:Array Bool) (env:Env) (g:Rows),
  (∀j,r[j]? =vl[k+j]?)->listed.size=ops.size->(∀i,i<ops.size->listed[i]? =some (decide (i<k)))->k+r.length=ops.size->DC ops listed->IA n vm.site m t listed env->wpOps X true r K env ⟨g,n⟩->Dg X n ops vl (fun env g=>K env ⟨g,n+1⟩) r.length listed env g
 |[],k,listed,env,g,_,fy,hl,hk,_,_,hv=>by
  refine⟨?_,hv⟩
  rw[List.eq_nil_iff_forall_not_mem]
  intro j hj
  obtain⟨h0,o,ho,_⟩:=mem_ready.1 hj
  have dO:j<ops.size:=(Array.getElem?_eq_some_iff.1 ho).1
  have:=hl j dO
  simp at hk
  simp[this,show j<k by omega]at h0
 |vo::r,k,listed,env,g,hr,fy,hl,hk,pf,hI,hv=>by
  simp only[List.length_cons]at hk
  have lZ:vl[k]? =some vo:=by simpa using(hr 0).symm
  have wE:=Ku he (k:=k) (listed:=listed) ae (by rw[hl k ae];simp) (fun i hi=>by rw[hl i ae];simp[hi])
  have Vh:∃v g',GS X n vo env g v g'/\wpOps X true r K (upd env vo.dst v) ⟨g',n⟩:=by
   rw[wpOps]at hv
   unfold GS
   split at hv
   ·rename_i hw
    simp only[hw,if_true]
    exact K3 hv
   ·rename_i hw
    simp only[hw]
    exact⟨.undef,g,⟨rfl,rfl⟩,hv⟩
  obtain⟨v,g',h1,h2⟩:=Vh
  refine Dh L lZ r.length listed env g g' pf (fun j hj=>by simp[hl j ae,hj]) hI wE h1 ?_
  refine zB he L hlen r (k+1) _ _ _ (fun j=>by have:=hr (j+1);simpa[Nat.add_assoc,Nat.add_comm 1 j]using this) (by simp[fy]) (fun i hi=>?_) ae (pf.list wE) (hI.step L lZ h1) h2
  by_cases wo:i=k
  ·subst wo;simp[fy,hi]
  ·rw[Array.getElem?_setIfInBounds_ne (fun e=>wo e.symm),hl i hi]
   congr 1
   rw[decide_eq_decide];omega
def iH (P:Program) (l3:List (Nat×Nat×Nat)) (md:List (Nat×Nat)) (nt fid:Nat):Code->Option VC
 | .skip=>some .skip
 | .region id ops draw=>match l3.find? fun x=>draw&&x.1==id with
  |some x=>NR P nt ((fid*1000+id)*1000) ops x.2.1 x.2.2
  |none=>L2 P nt ((fid*1000+id)*1000) ops draw (rn md id)
 | .seq a b=>do pure (.seq (<-iH P l3 md nt fid a) (<-iH P l3 md nt fid b))
 | .cond c x y=>do pure (.cond (<-cO P c) (<-iH P l3 md nt fid x) (<-iH P l3 md nt fid y))
 | .block id c=>(iH P l3 md nt fid c).map (VC.block id)
 | .loop c=>(iH P l3 md nt fid c).map VC.loop
 | .exit id=>some (.exit id)
 | .ret=>some .ret
 | .label _=>some .skip
 |_=>none
theorem pW {Q':Exit->Act->World->Prop}:¬LetsOut (fun e a w=>e=Exit.normal/\Q' .normal a w):=by
 rintro⟨_,_,hc,_⟩;cases hc
theorem FH (hm:P.follows .mixedOrders=true) {l3:List (Nat×Nat×Nat)} {md:List (Nat×Nat)} {nt fid q n:Nat}:∀(c:Code) (vc:VC),iH P l3 md nt fid c=some vc->rj c=true->∀(Q:Ex->Env->ax->Prop) (env:Env) (σ:ax) (a:Act) (w:World) (D:Nat->Prop) (ι:Names) (Q':Exit->Act->World->Prop),
  ef (Sound P) vc Q env σ->St P hs nt D ι env σ a w->qx P hs nt a.defers Q σ.next D ι w Q'->c.wpIn (Fence.wide.inRound q) n P Q' a w:=by
 intro c
 induction c with
 |skip=>
  intro vc h k5 Q env σ a w D ι Q' hv dR hQ
  simp[iH]at h;subst h
  exact wpIn_skip (hQ .normal env σ a w D ι hv (Step.refl _ _ _ _) dR rfl (Nat.le_refl _))
 |exit id=>
  intro vc h k5 Q env σ a w D ι Q' hv dR hQ
  simp[iH]at h;subst h
  exact wpIn_exit (hQ (.exit id) env σ a w D ι hv (Step.refl _ _ _ _) dR rfl (Nat.le_refl _))
 |ret=>
  intro vc h k5 Q env σ a w D ι Q' hv dR hQ
  simp[iH]at h;subst h
  exact wpIn_ret (hQ .ret env σ a w D ι hv (Step.refl _ _ _ _) dR rfl (Nat.le_refl _))
 |label l=>
  intro vc h k5 Q env σ a w D ι Q' hv dR hQ
  simp[iH]at h;subst h
  exact wpIn_label (hQ .normal env σ a w D ι hv (Step.refl _ _ _ _) dR rfl (Nat.le_refl _))
 |seq x y ihx ihy=>
  intro vc h k5 Q env σ a w D ι Q' hv dR hQ
  simp only[rj,Bool.and_eq_true]at k5
  simp only[iH,Option.bind_eq_bind,Option.bind_eq_some_iff,Option.pure_def,Option.some.injEq]at h
  obtain⟨vx,hx,vy,hy,rfl⟩:=h
  refine wpIn_seq (ihx vx hx k5.1 _ env σ a w D ι _ hv dR fun ex fA σ1 a1 w1 D1 ι1 hq T gr hd hle=>?_)
  cases ex with
  |normal=>exact ihy vy hy k5.2 Q fA σ1 a1 w1 D1 ι1 Q' hq gr (by rw[hd];exact hQ.later T hle)
  |exit id=>exact hQ (.exit id) fA σ1 a1 w1 D1 ι1 hq T gr hd hle
  |ret=>exact hQ .ret fA σ1 a1 w1 D1 ι1 hq T gr hd hle
 |cond c x y ihx ihy=>
  intro vc h k5 Q env σ a w D ι Q' hv dR hQ
  simp only[rj,Bool.and_eq_true]at k5
  simp only[iH,Option.bind_eq_bind,Option.bind_eq_some_iff,Option.pure_def,Option.some.injEq]at h
  obtain⟨c',hc,vx,hx,vy,hy,rfl⟩:=h
  unfold ef at hv
  have hr:=dv dR.env hc
  split at hv
  ·rename_i b hb
   rw[hb]at hr
   refine wpIn_cond (fa hr) ?_
   cases b with
   |true=>exact ihx vx hx k5.1 Q env σ a w D ι Q' hv dR hQ
   |false=>exact ihy vy hy k5.2 Q env σ a w D ι Q' hv dR hQ
  ·exact hv.elim
 |block id c ih=>
  intro vc h k5 Q env σ a w D ι Q' hv dR hQ
  simp only[rj]at k5
  simp only[iH,Option.map_eq_some_iff]at h
  obtain⟨vx,hx,rfl⟩:=h
  refine wpIn_block (ih vx hx k5 _ env σ a w D ι _ hv dR fun ex fA σ1 a1 w1 D1 ι1 hq T gr hd hle=>?_)
  cases ex with
  |normal=>exact hQ .normal fA σ1 a1 w1 D1 ι1 hq T gr hd hle
  |ret=>exact hQ .ret fA σ1 a1 w1 D1 ι1 hq T gr hd hle
  |exit kS=>
   simp only[bo]at hq
   simp only[U0,Exit.inBlock]
   by_cases hid:kS=id
   ·rw[if_pos hid]at hq ⊢;exact hQ .normal fA σ1 a1 w1 D1 ι1 hq T gr hd hle
   ·rw[if_neg hid]at hq ⊢;exact hQ (.exit kS) fA σ1 a1 w1 D1 ι1 hq T gr hd hle
 |loop c ih=>
  intro vc h k5 Q env σ a w D ι Q' hv dR hQ
  simp only[rj]at k5
  simp only[iH,Option.map_eq_some_iff]at h
  obtain⟨vx,hx,rfl⟩:=h
  obtain⟨m,hv⟩:=hv
  refine wpIn_loop_rounds m ?_
  have key:∀m env σ a w D ι,CF (ef (Sound P) vx) Q m env σ->St P hs nt D ι env σ a w->qx P hs nt a.defers Q σ.next D ι w Q'->Code.roundsIn (Fence.wide.inRound q) n P c Q' m a w:=by
   intro m
   induction m with
   |zero=>intro env σ a w D ι h;exact h.elim
   |succ m ihn=>
    intro env σ a w D ι h dR hQ
    rw[roundsIn_succ]
    refine ih vx hx k5 _ env σ a w D ι _ h dR fun ex fA σ1 a1 w1 D1 ι1 hq T gr hd hle=>?_
    cases ex with
    |normal=>exact ihn fA σ1 a1 w1 D1 ι1 hq gr (by rw[hd];exact hQ.later T hle)
    |exit id=>exact hQ (.exit id) fA σ1 a1 w1 D1 ι1 hq T gr hd hle
    |ret=>exact hQ .ret fA σ1 a1 w1 D1 ι1 hq T gr hd hle
  exact key m env σ a w D ι hv dR hQ
 |region id ops draw=>
  intro vc h k5 Q env σ a w D ι Q' hv dR hQ
  simp only[rj,Bool.and_eq_true,Bool.not_eq_true']at k5
  obtain⟨VZ,V0⟩:=k5
  have kZ:=CT VZ
  refine wpIn_mono (Q:=fun e a w=>e=Exit.normal/\Q' .normal a w) ?_ (by rintro e a w ⟨rfl,h⟩;exact h)
  have hQ0:qx P hs nt a.defers (fun ex e s=>ex=.normal/\Q .normal e s) σ.next D ι w (fun e a w=>e=Exit.normal/\Q' .normal a w):=by
   rintro ex fA σ1 a1 w1 D1 ι1 ⟨rfl,hq⟩ T gr hd hle
   exact⟨rfl,hQ .normal fA σ1 a1 w1 D1 ι1 hq T gr hd hle⟩
  rw[iH]at h
  split at h
  ·rename_i x h3
   have PF:draw=true:=by
    have:=List.find?_some h3
    simp only[Bool.and_eq_true]at this;exact this.1
   subst PF
   unfold NR at h
   split at h
   ·rename_i vl dz
    split at h
    ·rename_i hpok
     simp only[Bool.and_eq_true]at hpok
     simp only[Option.some.injEq]at h
     subst h
     obtain⟨t,vs,vm,L⟩:=Qh hpok.2
     obtain⟨jU,T0⟩:=dR.drew
     obtain⟨hlen,_⟩:=lz dz
     have iU:vl.length=ops.size:=by rw[hlen];simp
     have nol:∀k,(Array.replicate ops.size false).getD k false=false:=fun k=>by
      rcases Nat.lt_or_ge k ops.size with hk|hk
      ·simp[hk]
      ·simp[Nat.not_lt.2 hk]
     have qY:=zB (X:=Sound P) (K:=Q .normal) (n:=σ.next) hpok.1 L iU vl 0 (Array.replicate ops.size false) env σ.get (by simp) (by simp) (fun i hi=>by simp[hi]) (by simp[iU]) (fun k i h=>by rw[nol]at h;cases h) (fun h=>by rw[nol]at h;cases h) hv
     rw[iU]at qY
     refine wpIn_region_any hm (lR kZ pW _ _ _ _ ?_)
     exact pM dz ops.size _ env σ.get a w.drew D ι (fun _=>False) qY jU.Gg jU.used (fun _ h=>h.elim) jU.env jU.size fun fA g1 a1 w1 D1 ι1 U1 hk T S1 OI E1 sS hd=>⟨rfl,hQ .normal fA ⟨g1,σ.next+1⟩ a1 w1 D1 ι1 hk (T0.trans T) ⟨S1,OI.next,E1,sS⟩ hd (Nat.le_succ _)⟩
    ·cases h
   ·cases h
  simp only[L2]at h
  split at h
  ·rename_i hmode
   have PF:draw=true:=by
    simp only[Bool.and_eq_true]at hmode;exact hmode.1
   subst PF
   split at h
   ·rename_i vl dz
    obtain⟨jU,T0⟩:=dR.drew
    have qY:=zz (X:=Sound P) ly ops.size _ vc env σ h (fun k i h=>by
     exfalso
     rcases Nat.lt_or_ge k ops.size with hk|hk
     ·simp[hk]at h
     ·simp[Nat.not_lt.2 hk]at h) hv
    refine wpIn_region_any hm (lR kZ pW _ _ _ _ ?_)
    exact xw dz ops.size _ env σ a w.drew D ι (fun _=>False) qY jU.Gg jU.used (fun _ h=>h.elim) jU.env jU.size fun fA σ1 a1 w1 D1 ι1 hk T gr hd hle=>⟨rfl,hQ .normal fA σ1 a1 w1 D1 ι1 hk (T0.trans T) gr hd hle⟩
   ·cases h
  split at h
  ·rename_i hcom
   rw[V0]at hcom;cases hcom
  generalize (rn md id==1)=mk at h
  simp only[Option.map_eq_some_iff]at h
  obtain⟨vl,mB,rfl⟩:=h
  cases draw with
  |false=>
   have dz:∃nE,allM (kY P ops nt ((fid*1000+id)*1000) false mk #[] []) ops.toList 0=some nE/\vl=nE:=by
    unfold o5 at mB
    simp only[Bool.false_eq_true,if_false,Bool.not_false,Bool.true_or,if_true]at mB
    split at mB
    ·rename_i nE h;simp at mB;exact⟨nE,h,mB.symm⟩
    ·cases mB
   obtain⟨nE,dz,rfl⟩:=dz
   refine wpIn_region_list (uy pW _ (fun o ho=>?_) _ _ ?_)
   ·obtain⟨j,hj,rfl⟩:=List.getElem_of_mem ho
    exact kZ j _ (by simp)
   exact zo ops.toList vl 0 env σ a w D ι (fun _=>False) dz hv dR.Gg dR.used (fun _ h=>h.elim) dR.env dR.size fun fA σ1 a1 w1 D1 ι1 hk T gr hd hle=>⟨rfl,hQ .normal fA σ1 a1 w1 D1 ι1 hk T gr hd hle⟩
  |true=>
   have dz:∃hidden nE,allM (kY P ops nt ((fid*1000+id)*1000) true mk (iN ops) hidden) ops.toList 0=some nE/\vl=nE/\nN ops nE (iN ops)=true:=by
    unfold o5 at mB
    simp only[if_true,Bool.not_true,Bool.false_or]at mB
    split at mB
    ·rename_i nE h
     split at mB
     ·rename_i k5;simp at mB;exact⟨_,nE,h,mB.symm,k5⟩
     ·cases mB
    ·cases mB
   obtain⟨hidden,nE,dz,rfl,k5⟩:=dz
   obtain⟨jU,T0⟩:=dR.drew
   obtain⟨hlen,_⟩:=lz dz
   have iU:vl.length=ops.size:=by rw[hlen];simp
   have qY:=sN (X:=Sound P) (K:=Q .normal) (n:=σ.next) k5 iU vl 0 (Array.replicate ops.size false) env σ.get (by simp) (by simp) (fun i hi=>by simp[hi]) (by simp[iU]) (fun k i h=>by
    exfalso
    rcases Nat.lt_or_ge k ops.size with hk|hk
    ·simp[hk]at h
    ·simp[Nat.not_lt.2 hk]at h) hv
   rw[iU]at qY
   refine wpIn_region_any hm (lR kZ pW _ _ _ _ ?_)
   exact pM dz ops.size _ env σ.get a w.drew D ι (fun _=>False) qY jU.Gg jU.used (fun _ h=>h.elim) jU.env jU.size fun fA g1 a1 w1 D1 ι1 U1 hk T S1 OI E1 sS hd=>⟨rfl,hQ .normal fA ⟨g1,σ.next+1⟩ a1 w1 D1 ι1 hk (T0.trans T) ⟨S1,OI.next,E1,sS⟩ hd (Nat.le_succ _)⟩
 |_=>
  intro vc h k5
  simp[rj]at k5
end Go.Proofs.YtkbipfflibjfbaaGreat.V

namespace Go.Proofs.YtkbipfflibjfbaaGreat.V
open Go.RowKit
def OR:VC:=(.seq (.eS false [q 34 (.du (.t 11)) 21011000,q 35 (.load false 1 (.t 5)) 21011001,q 36 (.call 55 [(.t 34),(.t 35)]) 21011002,q 37 (.len (.t 36)) 21011003,q 38 (.du (.k (.int .i64 0))) 21011004]) (.block 3 (.loop (.seq (.eS false [q 39 (.bin .lss .i64 (.t 38) (.t 37)) 21012000]) (.seq (.cond (.t 39) .skip (.exit 3)) (.seq (.block 4 (.seq (.eS false [q 40 (.dE 2 (.t 36) (.t 38)) 21013000,q 41 (.load true 2 (.t 40)) 21013001,q 14 (.new [(.int .i64 0),(.int .i64 0)]) 21013002,⟨none,(.store 2 (.t 14) (.t 41)),none,21013003,[]⟩]) (.seq (.eS true [⟨(some 42),(.fu 0 (.t 9)),none,21014000,[21014010,21014011]⟩,⟨(some 43),(.load false 1 (.t 42)),none,21014001,[21014010,21014011]⟩,⟨(some 44),(.JS 2 1 (.t 10) (.k (.int .i64 0))),none,21014002,[21014010,21014011]⟩,⟨(some 45),(.load false 1 (.t 44)),none,21014003,[21014010,21014011]⟩,⟨(some 46),(.dE 3 (.t 43) (.t 45)),none,21014004,[21014010,21014011]⟩,⟨(some 47),(.fu 0 (.t 46)),none,21014005,[21014010,21014011]⟩,⟨(some 48),(.load true 2 (.t 47)),none,21014006,[21014010,21014011]⟩,⟨(some 49),(.load true 2 (.t 14)),none,21014007,[21014010,21014011]⟩,⟨(some 50),(.load false 1 (.t 5)),none,21014008,[21014010,21014011]⟩,⟨(some 51),(.call 56 [(.t 48),(.t 49),(.t 50)]),none,21014009,[21014010,21014011]⟩,⟨(some 15),(.new [(.int .i64 0),(.int .i64 0)]),none,21014010,[21014011]⟩,⟨none,(.store 2 (.t 15) (.t 51)),none,21014011,[]⟩]) (.seq (.eS true [⟨(some 52),(.fu 0 (.t 3)),none,21015000,[21015018,21015019,21015020,21015021]⟩,⟨(some 53),(.fu 1 (.t 52)),none,21015001,[21015018,21015019,21015020,21015021]⟩,⟨(some 54),(.load false 1 (.t 53)),none,21015002,[21015018,21015019,21015020,21015021]⟩,⟨(some 55),(.load true 1 (.t 4)),none,21015003,[21015018,21015019,21015020,21015021]⟩,⟨(some 56),(.load true 2 (.t 15)),none,21015004,[21015018,21015019,21015020,21015021]⟩,⟨(some 57),(.call 57 [(.t 55),(.t 56)]),none,21015005,[21015018,21015019,21015020,21015021]⟩,⟨(some 58),(.dE 2 (.t 54) (.t 57)),none,21015006,[21015018,21015019,21015020,21015021]⟩,⟨(some 59),(.load true 2 (.t 58)),none,21015007,[21015018,21015019,21015020,21015021]⟩,⟨(some 60),(.fu 0 (.t 3)),none,21015008,[21015018,21015019,21015020,21015021]⟩,⟨(some 61),(.fu 1 (.t 60)),none,21015009,[21015018,21015019,21015020,21015021]⟩,⟨(some 62),(.load false 1 (.t 61)),none,21015010,[21015018,21015019,21015020,21015021]⟩,⟨(some 63),(.load true 1 (.t 4)),none,21015011,[21015018,21015019,21015020,21015021]⟩,⟨(some 64),(.load true 2 (.t 15)),none,21015012,[21015018,21015019,21015020,21015021]⟩,⟨(some 65),(.du (.t 11)),none,21015013,[21015018,21015019,21015020,21015021]⟩,⟨(some 66),(.call 58 [(.t 64),(.t 65)]),none,21015014,[21015018,21015019,21015020,21015021]⟩,⟨(some 67),(.call 57 [(.t 63),(.t 66)]),none,21015015,[21015018,21015019,21015020,21015021]⟩,⟨(some 68),(.dE 2 (.t 62) (.t 67)),none,21015016,[21015018,21015019,21015020,21015021]⟩,⟨(some 69),(.load true 2 (.t 68)),none,21015017,[21015018,21015019,21015020,21015021]⟩,⟨(some 16),(.new [(.str []),.ck]),none,21015018,[21015019,21015020,21015021]⟩,⟨(some 17),(.new [(.str []),.ck]),none,21015019,[21015018,21015020,21015021]⟩,⟨none,(.store 2 (.t 16) (.t 59)),none,21015020,[21015021]⟩,⟨none,(.store 2 (.t 17) (.t 69)),none,21015021,[]⟩]) (.seq (.eS true [q 70 (.fu 1 (.t 16)) 21016000,q 71 (.load false 1 (.t 70)) 21016001,q 72 (.du (.t 11)) 21016002,q 73 (.dE 1 (.t 71) (.t 72)) 21016003,q 74 (.load false 1 (.t 73)) 21016004,q 75 (.fu 1 (.t 17)) 21016005,q 76 (.load false 1 (.t 75)) 21016006,q 77 (.du (.t 11)) 21016007,q 78 (.call 59 [(.t 77)]) 21016008,q 79 (.dE 1 (.t 76) (.t 78)) 21016009,q 80 (.load false 1 (.t 79)) 21016010,q 81 (.NS true .tI (.t 74) (.t 80)) 21016011]) (.cond (.t 81) (.eS false [q 82 (.du (.t 12)) 21017000,q 83 (.bin .add .i64 (.t 82) (.k (.int .i64 1))) 21017001,q 12 (.du (.t 83)) 21017002]) .skip)))))) (.eS false [q 84 (.bin .add .i64 (.t 38) (.k (.int .i64 1))) 21018000,q 38 (.du (.t 84)) 21018001])))))))
end Go.Proofs.YtkbipfflibjfbaaGreat.V

namespace Go.Proofs.YtkbipfflibjfbaaGreat.V
open Go.RowKit
attribute [local irreducible] ef wpOps gN Call
attribute [local go_sem] aH fJ eW fZ gh dh upd cD K.av cP AV.cells AV.cell rowOf rowsOf part ld rowAt bU cw dI ek iq bL de eD gj fq dx ew db da dW dY bR bd cU bQ cW cV er ez eu cR bV dc eo bP aL cY cI im br cH bz bc dB bo dF AV.undef bx bE dZ ej dV ec cJ eC eE cF eB eA cX cZ List.getD_cons_zero List.getD_cons_succ List.getD_nil List.all_cons List.all_nil Bool.and_true Bool.true_and Bool.and_self Bool.not_true Bool.not_false Option.map_some Option.map_none Option.bind_some Option.bind_none List.length_cons List.length_nil List.take_succ_cons List.take_zero List.take_nil List.drop_succ_cons List.drop_zero List.drop_nil List.head?_cons List.map_cons List.map_nil List.getElem?_cons_zero List.getElem?_cons_succ List.cons_append List.nil_append List.append_nil List.length_map List.set_cons_zero List.set_cons_succ Nat.reduceMul eq_self Int.toNat_natCast Int.natCast_nonneg and_self true_and and_true decide_true decide_false Bool.false_eq_true Nat.zero_add Nat.add_zero List.contains_cons List.contains_nil Bool.or_false Bool.false_or beq_self_eq_true Nat.reduceBEq ne_eq not_true_eq_false not_false_eq_true Id.mk.injEq false_and and_false Nat.reduceLT Int.reduceLE Int.reduceLT Int.reduceToNat Int.reduceNeg Int.reduceAdd Nat.le_refl List.length_append beq_true beq_false Bool.not_eq_eq_eq_not or_false false_or dM ai ao aD bt cz aY bj aV bf cL bJ
theorem Gb (a b:aq):(decide (a.dQ=b.dQ)&&decide (a.dH=b.dH))=decide (a=b):=by
 cases a;cases b;simp[Bool.decide_and]
theorem DR (ps:List aq) (h0:ps≠[]) (hlen:ps.length<=1048576) (σ:ax) (id:Id) (hv:id.cC<σ.next) (hg:σ.get id=some ⟨true,2,ps.map aa⟩):
  Call Tryz.prog 175 [.own id 0 ps.length] σ fun a σ'=>∃o:Id,a=.own o 0 ps.length/\σ'.get o=some ⟨true,2,ps.map aa⟩/\σ.next<=o.cC/\o.cC<σ'.next/\∀x:Id,x.cC<σ.next->σ'.get x=σ.get x:=by
 refine fj eM rfl fun hl=>?_
 clear hl
 have h2:ps.length<=16777216:=ae
 have hm:(ps.map aa).length=ps.length:=by simp
 have v1:=eX hv
 have ht:(ps.map aa).take ps.length=ps.map aa:=by rw[<-hm,List.take_length]
 have ha:(ps.map aa).all (fun c=>c.length==2&&c.all AV.cell)=true:=all_map fun x=>by simp[aa,AV.cell]
 (try((repeat(revert hN;revert N;apply Pn.out));refine wk (tw @hg (tw @h2 (tw @hm (tw @v1 (tw @ht @ha))))) ?_;(repeat(refine Pn.mk ?_;intro N hN))))
 exact gJ (vs:=[.own ⟨175003002,σ.next+2⟩ 0 ps.length]) (.inl rfl) (sd @Nat.zero_add) ⟨_,rfl,sd @Nat.zero_add,bW,bW,fun x hx=>by
  have:=eX hx
  simp only[go_sem, ↓reduceIte,Nat.reduceEqDiff,Nat.reduceAdd,Nat.reduceSub,Nat.reduceLeDiff,reduceCtorEq,this]⟩
def dd (L:List aq):Nat->List aq
 |0=>[]
 |j+1=>if 0<j/\iu L j=iu L (j-1)then dd L j else dd L j++[iu L j]
theorem I3 (L:List aq):∀j,0<j->0<(dd L j).length
 |j+1,_=>by
  rw[dd]
  split
  ·rename_i h;exact I3 L j h.1
  ·simp
theorem zT {L:List aq} {x:aq}:∀j,x∈dd L j↔∃i,i<j/\iu L i=x
 |0=>by simp[dd]
 |j+1=>by
  rw[dd]
  split
  ·rename_i h
   rw[zT j]
   constructor
   ·rintro⟨i,hi,e⟩;exact⟨i,ae,e⟩
   ·rintro⟨i,hi,e⟩
    by_cases y4:i=j
    ·subst y4;exact⟨i-1,ae,by rw[<-h.2];exact e⟩
    ·exact⟨i,ae,e⟩
  ·rw[List.mem_append,zT j]
   constructor
   ·rintro(⟨i,hi,e⟩|h)
    ·exact⟨i,ae,e⟩
    ·exact⟨j,ae,(List.mem_singleton.1 h).symm⟩
   ·rintro⟨i,hi,e⟩
    by_cases y4:i=j
    ·subst y4;exact .inr (List.mem_singleton.2 e.symm)
    ·exact .inl ⟨i,ae,e⟩
theorem I4 {L:List aq} (hs:∀i j:Nat,i<j->j<L.length->k8 (iu L j) (iu L i)=false):∀j,j<=L.length->uC (dd L j)
 |0,_=>List.Pairwise.nil
 |j+1,hj=>by
  have ih:=I4 hs j ae
  rw[dd]
  split
  ·exact ih
  ·rename_i gI
   unfold uC
   rw[List.pairwise_append]
   refine⟨ih,List.pairwise_singleton _ _,fun a ha b hb=>?_⟩
   rw[List.mem_singleton.1 hb]
   obtain⟨i,hi,rfl⟩:=(zT j).1 ha
   have h0:0<j:=ae
   have hn:iu L j≠iu L (j-1):=fun e=>gI ⟨h0,e⟩
   have dO:k8 (iu L (j-1)) (iu L j)=true:=vg (hs (j-1) j ae ae) hn
   by_cases y4:i=j-1
   ·subst y4;exact dO
   ·have h1:=hs i (j-1) ae ae
    by_cases he:iu L (j-1)=iu L i
    ·rw[<-he];exact dO
    ·exact iD (vg h1 he) dO
theorem GJ (L:List aq) (hlen:L.length<=1000000) (σ:ax) (id:Id) (hg:σ.get id=some ⟨true,2,L.map aa⟩):
  Call Tryz.prog 177 [.own id 0 L.length] σ fun a σ'=>σ.next<=σ'.next/\(∀x:Id,x.cC<σ.next->x≠id->σ'.get x=σ.get x)/\∃X:List aq,a=.own id 0 (dd L L.length).length/\σ'.get id=some ⟨true,2,(dd L L.length++X).map aa⟩:=by
 refine fj eM rfl fun hl=>?_
 clear hl
 by_cases h2:(L.length:Int)<2
 ·have hd:dd L L.length=L:=by
   match L,h2 with
   |[],_=>rfl
   |[a],_=>rfl
   |a::b::r,h=>simp at h;omega
  (try((repeat(revert hN;revert N;apply Pn.out));refine wk @h2 ?_;(repeat(refine Pn.mk ?_;intro N hN))))
  exact gJ (vs:=[.own id 0 L.length]) (.inl rfl) (sd @Nat.zero_add) ⟨bW,fun _ _ _=>rfl,[],by rw[hd];rfl,by simp only[hd,List.append_nil];exact hg⟩
 (try((repeat(revert hN;revert N;apply Pn.out));refine wk @h2 ?_;(repeat(refine Pn.mk ?_;intro N hN))))
 have PQ:2<=L.length:=ae
 refine aT (fun n env st=>∃k:Nat,n=(L.length-1)-k/\k<=(L.length-1)/\env 3=.int .i64 ((1+k:Nat):Int)/\(dd L (1+k)=L.take (1+k))/\(σ.next<=st.next/\∀x:Id,x.cC<σ.next->x≠id->st.get x=σ.get x)/\st.get id=some ⟨true,2,L.map aa⟩) (L.length-1) ⟨0,ae,ae,sl @hg,by(match L,PQ with|a::b::r,_=>rfl),⟨bW,fun _ _ _=>rfl⟩,sl @hg⟩ ?_
 rintro n_a env_a st_a ⟨k,rfl,ale,a3,kB,aI1,ag0⟩ dr
 have a0:=dr 0 (by kernel_rfl)
 simp only[go_sem, ↓reduceIte,Nat.reduceEqDiff,Nat.reduceAdd,Nat.reduceSub,Nat.reduceLeDiff,reduceCtorEq,hg]at a0
 clear dr
 have hR:∀{q:Nat},q<L.length->(L.map aa)[q]? =some (aa (iu L q)):=fun h=>sq h
 by_cases hk:((1+k:Nat):Int)<(L.length:Int)
 ·have bZ:∀{e:Env} {gg:Rows} {nx:Nat},(e 3=.int .i64 ((1+(k+1):Nat):Int))->(dd L (1+(k+1))=L.take (1+(k+1)))->(σ.next<=nx/\∀x:Id,x.cC<σ.next->x≠id->gg x=σ.get x)->(gg id=some ⟨true,2,L.map aa⟩)->∃m0,m0<(L.length-1)-k/\∃k:Nat,m0=(L.length-1)-k/\k<=(L.length-1)/\e 3=.int .i64 ((1+k:Nat):Int)/\(dd L (1+k)=L.take (1+k))/\(σ.next<=nx/\∀x:Id,x.cC<σ.next->x≠id->gg x=σ.get x)/\gg id=some ⟨true,2,L.map aa⟩:=fun x1 x2 x3 x4=>⟨_,ae,k+1,rfl,ae,x1,x2,x3,x4⟩
  have fK:1+k<L.length:=ae
  have e1:IntKind.i64.wrap (((1+k:Nat):Int)-1)=(k:Int):=by rw[aJ ae];omega
  have e2:IntKind.i64.wrap (((1+k:Nat):Int)+1)=((1+(k+1):Nat):Int):=by rw[aJ ae];omega
  have g1:=hR fK
  have g2:=hR (show k<L.length by omega)
  have b2:(k:Int)<(L.length:Int):=ae
  have PD:dd L (1+k+1)=if 0<1+k/\iu L (1+k)=iu L (1+k-1)then dd L (1+k)else dd L (1+k)++[iu L (1+k)]:=rfl
  rw[show 1+k-1=k from by omega]at PD
  cases he:(decide ((iu L (1+k)).dQ=(iu L k).dQ)&&decide ((iu L (1+k)).dH=(iu L k).dH))
  ·(try((repeat(revert hN;revert N;apply Pn.out));refine wk (tw @a3 (tw @ag0 (tw @a0 (tw @hk (tw @e1 (tw @g1 (tw @g2 (tw @b2 (tw @he @aa.eq_1))))))))) ?_;(repeat(refine Pn.mk ?_;intro N hN))))
   rw[Gb,decide_eq_false_iff_not]at he
   refine bZ ?_ (by rw[show 1+(k+1)=1+k+1 from by omega,PD,if_neg (fun h=>he h.2),kB,List.take_succ_eq_append_getElem fK,jC fK]) (by exact⟨bW,fun x hx hi=>aI1.2 x hx hi⟩) ?_
   all_goals simp only[go_sem, ↓reduceIte,Nat.reduceEqDiff,Nat.reduceAdd,Nat.reduceSub,Nat.reduceLeDiff,reduceCtorEq,a3,ag0,a0,e2]
  ·have SE:=he
   rw[Gb,decide_eq_true_eq]at SE
   rw[if_pos ⟨ae,SE⟩,kB]at PD
   have FY:(dd L (1+k+1)).length=1+k:=by rw[PD,List.length_take];omega
   have Hd:L.map aa=(dd L (1+k+1)++L.drop (dd L (1+k+1)).length).map aa:=by rw[FY,PD,List.take_append_drop]
   have b3:((1+k:Nat):Int)<=(L.length:Int):=ae
   have He:(dd L (1+k+1)++L.drop (1+k)).map aa=L.map aa:=by rw[Hd,FY]
   (try((repeat(revert hN;revert N;apply Pn.out));refine wk (tw @a3 (tw @ag0 (tw @a0 (tw @hk (tw @e1 (tw @g1 (tw @g2 (tw @b2 (tw @b3 (tw @he @aa.eq_1)))))))))) ?_;(repeat(refine Pn.mk ?_;intro N hN))))
   refine aT (fun n env st=>∃m:Nat,n=(L.length-(1+k)-1)-m/\m<=(L.length-(1+k)-1)/\env 5=.int .i64 ((1+m:Nat):Int)/\env 3=.int .i64 ((dd L (1+k+1+m)).length:Int)/\((dd L (1+k+1+m)).length<=1+k+m)/\(σ.next<=st.next/\∀x:Id,x.cC<σ.next->x≠id->st.get x=σ.get x)/\st.get id=some ⟨true,2,(dd L (1+k+1+m)++L.drop (dd L (1+k+1+m)).length).map aa⟩) (L.length-(1+k)-1) ⟨0,ae,ae,sl (tw @a3 (tw @ag0 (tw @a0 (tw @FY @He)))),sl (tw @a3 (tw @ag0 (tw @a0 (tw @FY @He)))),by(rw[Nat.add_zero,FY];omega),⟨bW,fun x hx hi=>aI1.2 x hx hi⟩,sl (tw @a3 (tw @ag0 (tw @a0 (tw @FY @He))))⟩ ?_
   rintro n_b env_b st_b ⟨m,rfl,ble,b5,b3,bI0,bI1,bg0⟩ bfr
   have b0:=bfr 0 (by kernel_rfl);have b4:=bfr 4 (by kernel_rfl)
   simp only[go_sem, ↓reduceIte,Nat.reduceEqDiff,Nat.reduceAdd,Nat.reduceSub,Nat.reduceLeDiff,reduceCtorEq,a3,ag0,a0,FY,He]at b0 b4
   clear bfr
   clear Hd He he ag0
   have fh:∀{q:Nat},(dd L (1+k+1+m)).length<=q->q<L.length->((dd L (1+k+1+m)++L.drop (dd L (1+k+1+m)).length).map aa)[q]? =some (aa (iu L q)):=fun {q} h1 h2=>by
    rw[List.getElem?_map,List.getElem?_append_right h1,List.getElem?_drop,show(dd L (1+k+1+m)).length+(q-(dd L (1+k+1+m)).length)=q from by omega,List.getElem?_eq_getElem h2,jC h2];rfl
   have Mq:dd L (1+k+1+(m+1))=if 0<1+k+1+m/\iu L (1+k+1+m)=iu L (1+k+1+m-1)then dd L (1+k+1+m)else dd L (1+k+1+m)++[iu L (1+k+1+m)]:=rfl
   rw[show 1+k+1+m-1=1+k+m from by omega]at Mq
   have hKn:=I3 L (1+k+1+m) ae
   by_cases hm:((1+m:Nat):Int)<((L.length-(1+k):Nat):Int)
   ·have gY:∀{e:Env} {gg:Rows} {nx:Nat},(e 5=.int .i64 ((1+(m+1):Nat):Int))->(e 3=.int .i64 ((dd L (1+k+1+(m+1))).length:Int))->((dd L (1+k+1+(m+1))).length<=1+k+(m+1))->(σ.next<=nx/\∀x:Id,x.cC<σ.next->x≠id->gg x=σ.get x)->(gg id=some ⟨true,2,(dd L (1+k+1+(m+1))++L.drop (dd L (1+k+1+(m+1))).length).map aa⟩)->∃m0,m0<(L.length-(1+k)-1)-m/\∃m:Nat,m0=(L.length-(1+k)-1)-m/\m<=(L.length-(1+k)-1)/\e 5=.int .i64 ((1+m:Nat):Int)/\e 3=.int .i64 ((dd L (1+k+1+m)).length:Int)/\((dd L (1+k+1+m)).length<=1+k+m)/\(σ.next<=nx/\∀x:Id,x.cC<σ.next->x≠id->gg x=σ.get x)/\gg id=some ⟨true,2,(dd L (1+k+1+m)++L.drop (dd L (1+k+1+m)).length).map aa⟩:=fun x1 x2 x3 x4 x5=>⟨_,ae,m+1,rfl,ae,x1,x2,x3,x4,x5⟩
    have f1:IntKind.i64.wrap (((1+m:Nat):Int)-1)=(m:Int):=by rw[aJ ae];omega
    have f2:IntKind.i64.wrap (((1+m:Nat):Int)+1)=((1+(m+1):Nat):Int):=by rw[aJ ae];omega
    have f3:(m:Int)<((L.length-(1+k):Nat):Int):=ae
    have r1:=fh (q:=1+k+(1+m)) ae ae
    have r2:=fh (q:=1+k+m) ae ae
    rw[show 1+k+1+m=1+k+(1+m)from by omega]at *
    generalize hD:dd L (1+k+(1+m))=D at *
    have hK:D.length<L.length:=ae
    have s1:=fh (q:=D.length) (Nat.le_refl _) hK
    have u4:(D.length:Int)<(L.length:Int):=ae
    have f4:IntKind.i64.wrap ((D.length:Int)+1)=((D.length+1:Nat):Int):=aB ae
    cases hc:(decide ((iu L (1+k+(1+m))).dQ=(iu L (1+k+m)).dQ)&&decide ((iu L (1+k+(1+m))).dH=(iu L (1+k+m)).dH))
    ·have Af:=hc
     rw[Gb,decide_eq_false_iff_not]at Af
     rw[if_neg (fun h=>Af h.2)]at Mq
     have e6:((D++L.drop D.length).map aa).set D.length [.int .i64 (iu L (1+k+(1+m))).dQ,.int .i64 (iu L (1+k+(1+m))).dH]=((D++[iu L (1+k+(1+m))])++L.drop (D.length+1)).map aa:=by
      have:(D++L.drop D.length).set D.length (iu L (1+k+(1+m)))=(D++[iu L (1+k+(1+m))])++L.drop (D.length+1):=by
       rw[List.set_append_right _ _ (Nat.le_refl _),Nat.sub_self,List.drop_eq_getElem_cons hK,List.set_cons_zero,List.append_assoc];rfl
      rw[<-this,List.map_set];rfl
     (try((repeat(revert hN;revert N;apply Pn.out));refine wk (tw @b5 (tw @b3 (tw @bg0 (tw @b0 (tw @b4 (tw @hm (tw @f1 (tw @f3 (tw @r1 (tw @r2 (tw @s1 (tw @u4 (tw @hc (tw @e6 @aa.eq_1)))))))))))))) ?_;(repeat(refine Pn.mk ?_;intro N hN))))
     refine gY ?_ ?_ (by rw[Mq];simp;omega) (by exact⟨bW,fun x hx hi=>by
      have h1:=eq_false hi
      have h2:=bI1.2 x hx hi
      simp only[go_sem, ↓reduceIte,Nat.reduceEqDiff,Nat.reduceAdd,Nat.reduceSub,Nat.reduceLeDiff,reduceCtorEq,h1,h2]⟩) ?_
     all_goals simp only[go_sem, ↓reduceIte,Nat.reduceEqDiff,Nat.reduceAdd,Nat.reduceSub,Nat.reduceLeDiff,reduceCtorEq,b5,b3,bg0,b0,b4,f2,f4,Mq,e6,aa]
    ·have Af:=hc
     rw[Gb,decide_eq_true_eq]at Af
     rw[if_pos ⟨ae,Af⟩]at Mq
     (try((repeat(revert hN;revert N;apply Pn.out));refine wk (tw @b5 (tw @b3 (tw @bg0 (tw @b0 (tw @b4 (tw @hm (tw @f1 (tw @f3 (tw @r1 (tw @r2 (tw @s1 (tw @u4 (tw @hc @aa.eq_1))))))))))))) ?_;(repeat(refine Pn.mk ?_;intro N hN))))
     refine gY ?_ ?_ (by rw[Mq];omega) (by exact⟨bW,fun x hx hi=>bI1.2 x hx hi⟩) ?_
     all_goals simp only[go_sem, ↓reduceIte,Nat.reduceEqDiff,Nat.reduceAdd,Nat.reduceSub,Nat.reduceLeDiff,reduceCtorEq,b5,b3,bg0,b0,b4,f2,Mq,aa]
   ·have hJ:1+k+1+m=L.length:=ae
    rw[hJ]at bI0 bg0 b3
    generalize hD:dd L L.length=D at *
    have hK:D.length<L.length:=ae
    have u4:(D.length:Int)<=(L.length:Int):=ae
    have u5:D.length+(L.length-D.length)=L.length:=ae
    have u6:(L.length-D.length)=(L.drop D.length).length:=by simp
    have c1:((D++L.drop D.length).map aa).take D.length=D.map aa:=by rw[<-List.map_take,List.take_append_of_le_length (Nat.le_refl _),List.take_length]
    have c2:((D++L.drop D.length).map aa).drop L.length=[]:=List.drop_eq_nil_of_le (by simp;omega)
    have c3:D.length+(L.length-D.length)<=((D++L.drop D.length).map aa).length:=by simp
    have u7:L.length<=D.length+(L.drop D.length).length:=by simp;omega
    (try((repeat(revert hN;revert N;apply Pn.out));refine wk (tw @b5 (tw @b3 (tw @bg0 (tw @b0 (tw @b4 (tw @hm (tw @u4 (tw @u5 (tw @u7 (tw @c1 (tw @c2 @aa.eq_1))))))))))) ?_;(repeat(refine Pn.mk ?_;intro N hN))))
    refine gJ (vs:=[.own id 0 D.length]) (.inl rfl) (by simp only[fo,gS,Nat.sub_zero,go_sem, ↓reduceIte,Nat.reduceEqDiff,Nat.reduceAdd,Nat.reduceSub,Nat.reduceLeDiff,reduceCtorEq]) ⟨bW,fun x hx hi=>by
      have h1:=eq_false hi
      have h2:=bI1.2 x hx hi
      simp only[go_sem, ↓reduceIte,Nat.reduceEqDiff,Nat.reduceAdd,Nat.reduceSub,Nat.reduceLeDiff,reduceCtorEq,h1,h2],List.replicate (L.length-D.length) ⟨0,0⟩,rfl,?_⟩
    simp only[go_sem, ↓reduceIte,Nat.reduceEqDiff,Nat.reduceAdd,Nat.reduceSub,Nat.reduceLeDiff,reduceCtorEq,bg0,c1,c2]
    simp[aa]
 ·have hkf:1+k=L.length:=ae
  have hd:dd L L.length=L:=by rw[<-hkf,kB,hkf,List.take_length]
  (try((repeat(revert hN;revert N;apply Pn.out));refine wk (tw @a3 (tw @ag0 (tw @a0 @hk))) ?_;(repeat(refine Pn.mk ?_;intro N hN))))
  exact gJ (vs:=[.own id 0 L.length]) (.inl rfl) (sd (tw @a3 (tw @ag0 @a0))) ⟨bW,fun x hx hi=>aI1.2 x hx hi,[],by rw[hd];rfl,by simp only[hd,List.append_nil];exact ag0⟩
theorem GV:QW aa (fun c=>.agg (aa c)) 2 true:=⟨fun _=>rfl,fun _=>rfl,fun x g=>by simp only[aa,ai,ao,bj,aD,Option.map_some]⟩
def e7 (p:aq->Bool) (l:List aq):List aq:=l.filter fun x=> !p x
theorem rl {p:aq->Bool} {l:List aq} {j:Nat} (hj:j<l.length):e7 p (l.take (j+1))=e7 p (l.take j)++if p l[j]=true then[]else[l[j]]:=by
 unfold e7
 rw[List.take_succ_eq_append_getElem hj,List.filter_append]
 congr 1
 cases h:p l[j]<;>simp[h]
theorem wJ {p:aq->Bool} {l:List aq} (h:∀b∈l,p b=false):e7 p l=l:=by
 unfold e7
 rw[List.filter_eq_self]
 intro b hb
 rw[h b hb];rfl
structure Ig (p:aq->Bool) (bs:List aq) (j:Nat) (R:List aq):Prop where
 len:R.length=bs.length
 pre:R.take (e7 p (bs.take j)).length=e7 p (bs.take j)
 post:∀x,j<=x->R[x]? =bs[x]?
 lt:(e7 p (bs.take j)).length<j
theorem Ig.start {p:aq->Bool} {bs:List aq} {i:Nat} (hi:i<bs.length) (hw:p bs[i]=true) (hp:∀x (h:x<i),p bs[x]=false):Ig p bs (i+1) bs/\(e7 p (bs.take (i+1))).length=i:=by
 have h1:e7 p (bs.take i)=bs.take i:=wJ fun b hb=>by
  obtain⟨x,hx,rfl⟩:=List.getElem_of_mem hb
  rw[List.length_take]at hx
  rw[List.getElem_take]
  exact hp x ae
 have h2:e7 p (bs.take (i+1))=bs.take i:=by rw[rl hi,if_pos hw,List.append_nil,h1]
 have h3:(bs.take i).length=i:=by rw[List.length_take];omega
 exact⟨⟨rfl,by rw[h2,h3],fun _ _=>rfl,by rw[h2,h3];omega⟩,by rw[h2,h3]⟩
theorem Ig.QG {p:aq->Bool} {bs R:List aq} {j:Nat} (h:Ig p bs j R) (hj:j<bs.length) (hw:p bs[j]=true):Ig p bs (j+1) R/\(e7 p (bs.take (j+1))).length=(e7 p (bs.take j)).length:=by
 have h2:e7 p (bs.take (j+1))=e7 p (bs.take j):=by rw[rl hj,if_pos hw,List.append_nil]
 exact⟨⟨h.len,by rw[h2];exact h.pre,fun x hx=>h.post x ae,by rw[h2];have:=h.lt;omega⟩,by rw[h2]⟩
theorem Ig.tx {p:aq->Bool} {bs R:List aq} {j:Nat} (h:Ig p bs j R) (hj:j<bs.length) (hw:p bs[j]=false):Ig p bs (j+1) (R.set (e7 p (bs.take j)).length bs[j])/\(e7 p (bs.take (j+1))).length=(e7 p (bs.take j)).length+1:=by
 have h2:e7 p (bs.take (j+1))=e7 p (bs.take j)++[bs[j]]:=by rw[rl hj,hw];rfl
 have dO:=h.lt
 have hlen:=h.len
 have qn:=h.pre
 generalize hc:(e7 p (bs.take j)).length=c at *
 refine⟨⟨by rw[List.length_set];exact hlen,?_,fun x hx=>?_,by rw[h2,List.length_append,hc];simp;omega⟩,by rw[h2,List.length_append,hc];rfl⟩
 ·rw[h2,List.length_append,hc,List.length_singleton,List.take_succ_eq_append_getElem (by rw[List.length_set];omega),List.getElem_set_self,List.take_set_of_le (Nat.le_refl _),qn]
 ·rw[List.getElem?_set_ne ae];exact h.post x ae
theorem Ig.at_ {p:aq->Bool} {bs R:List aq} {j:Nat} (h:Ig p bs j R) (hj:j<bs.length):(R.map aa)[j]? =some (aa bs[j]):=by
 rw[List.getElem?_map,h.post j (Nat.le_refl j),List.getElem?_eq_getElem hj];rfl
theorem D8 {p:aq->Bool} {bs:List aq} (h:¬0<=jd p bs):∀b∈bs,p b=false:=by
 intro b hb
 unfold jd at h
 split at h
 ·omega
 ·rename_i h1
  rw[List.findIdx_lt_length]at h1
  cases hp:p b
  ·rfl
  ·exact absurd ⟨b,hb,hp⟩ h1
theorem D9 {p:aq->Bool} {bs:List aq} (h:0<=jd p bs):∃i,∃hi:i<bs.length,jd p bs=(i:Int)/\p bs[i]=true/\∀x (hx:x<i),p (bs[x]'ae)=false:=by
 unfold jd at h ⊢
 split
 ·rename_i h1
  exact⟨bs.findIdx p,h1,rfl,List.findIdx_getElem,fun x hx=>by simpa using List.not_of_lt_findIdx hx⟩
 ·rename_i h1;rw[if_neg h1]at h;omega
structure oq (n:Nat) (px:Nat->Option Nat) (L:Nat->Nat):Prop where
 top:∀k,k<n->px k=none->L k=k
 up:∀k j,k<n->px k=some j->j<k/\L j=L k
theorem oq.root {n:Nat} {px:Nat->Option Nat} {L:Nat->Nat} (h:oq n px L) (hL:kc L) {k:Nat} (hk:k<n) (hr:L k=k):px k=none:=by
 rcases hp:px k with _|j
 ·rfl
 ·obtain⟨h1,h2⟩:=h.up k j hk hp
  have:=hL.le j
  omega
theorem oq.start (n:Nat):oq n (fun _=>none) id:=⟨fun _ _ _=>rfl,fun _ _ _ h=>by cases h⟩
theorem oq.join {n:Nat} {px:Nat->Option Nat} {L:Nat->Nat} (h:oq n px L) (hL:kc L) (b:PB) (dO:min (L b.a) (L b.b)<max (L b.a) (L b.b)):oq n (fun k=>if k=max (L b.a) (L b.b)then some (min (L b.a) (L b.b))else px k) (eY L b):=by
 have ha:=hL.idem b.a
 have hb:=hL.idem b.b
 have Aj:L (min (L b.a) (L b.b))=min (L b.a) (L b.b):=by
  rcases Nat.le_total (L b.a) (L b.b)with h|h
  ·rw[Nat.min_eq_left h,ha]
  ·rw[Nat.min_eq_right h,hb]
 have Rk:L (max (L b.a) (L b.b))=max (L b.a) (L b.b):=by
  rcases Nat.le_total (L b.a) (L b.b)with h|h
  ·rw[Nat.max_eq_right h,hb]
  ·rw[Nat.max_eq_left h,ha]
 unfold eY
 generalize min (L b.a) (L b.b)=lo at *
 generalize max (L b.a) (L b.b)=hi at *
 refine⟨fun k hk hp=>?_,fun k j hk hp=>?_⟩
 ·by_cases Ls:k=hi
  ·rw[if_pos Ls]at hp;cases hp
  ·rw[if_neg Ls]at hp
   have:=h.top k hk hp
   rw[if_neg ae];exact this
 ·by_cases Ls:k=hi
  ·rw[if_pos Ls]at hp
   cases hp
   subst Ls
   exact⟨dO,by rw[if_neg ae,if_pos Rk,Aj]⟩
  ·rw[if_neg Ls]at hp
   obtain⟨h1,h2⟩:=h.up k j hk hp
   exact⟨h1,by rw[h2]⟩
theorem Av {L:Nat->Nat} {b:PB} (h:L b.a=L b.b):eY L b=L:=by
 funext k
 unfold eY
 rw[h,Nat.max_self,Nat.min_self]
 split
 ·rename_i h;exact h.symm
 ·rfl
def te (G:Nat->Id) (px:Nat->Option Nat) (k:Nat):List AV:=[match px k with|none=>.iI|some j=>.ptr (G j) 0 0,.int .i64 (k:Int)]
def uB (g:Rows) (G:Nat->Id) (n:Nat) (px:Nat->Option Nat):Prop:=∀k,k<n->g (G k)=some ⟨true,2,[te G px k]⟩
theorem uB.frame {g g':Rows} {G:Nat->Id} {n:Nat} {px:Nat->Option Nat} (h:uB g G n px) (hf:∀k,k<n->g' (G k)=g (G k)):uB g' G n px:=fun k hk=>(hf k hk).trans (h k hk)
theorem mb {G:Nat->Id} {px:Nat->Option Nat} {k:Nat} (h:px k=none):te G px k=[.iI,.int .i64 (k:Int)]:=by rw[te,h]
theorem uc {G:Nat->Id} {px:Nat->Option Nat} {k j:Nat} (h:px k=some j):te G px k=[.ptr (G j) 0 0,.int .i64 (k:Int)]:=by rw[te,h]
theorem zY (G:Nat->Id) (n:Nat) (px:Nat->Option Nat) (L:Nat->Nat) (h:oq n px L) (k:Nat) (hk:k<n) (σ:ax) (hG:uB σ.get G n px):
  Call Tryz.prog 226 [.ptr (G k) 0 0] σ fun r σ'=>r=.ptr (G (L k)) 0 0/\σ'.get=σ.get/\σ.next<=σ'.next:=by
 refine fj eM rfl fun hl=>?_
 clear hl
 (try((repeat(revert hN;revert N;apply Pn.out));refine wk @Nat.zero_add ?_;(repeat(refine Pn.mk ?_;intro N hN))))
 refine aT (fun m env st=>∃j:Nat,m=j/\j<n/\env 0=.ptr (G j) 0 0/\L j=L k/\st.get=σ.get/\σ.next<=st.next) k ⟨k,rfl,hk,sd @Nat.zero_add,rfl,by(try dsimp only),bW⟩ ?_
 rintro m env_b st_b ⟨j,rfl,hj,b0,hLj,hg,hle⟩ bfr
 clear bfr
 have fh:=hG m hj
 rcases hp:px m with _|j
 ·rw[mb hp]at fh
  (try((repeat(revert hN;revert N;apply Pn.out));refine wk (tw @b0 (tw @hg @fh)) ?_;(repeat(refine Pn.mk ?_;intro N hN))))
  exact gJ (.inl rfl) (vs:=[.ptr (G m) 0 0]) (sd @Nat.zero_add) ⟨by rw[<-hLj,h.top m hj hp];rfl,by first|trivial|rfl|exact hg,bW⟩
 ·rw[uc hp]at fh
  obtain⟨h1,h2⟩:=h.up m j hj hp
  (try((repeat(revert hN;revert N;apply Pn.out));refine wk (tw @b0 (tw @hg @fh)) ?_;(repeat(refine Pn.mk ?_;intro N hN))))
  exact⟨j,h1,j,rfl,ae,sd @Nat.zero_add,ae,by first|trivial|rfl|exact hg,bW⟩
end Go.Proofs.YtkbipfflibjfbaaGreat.V

namespace Go.Proofs.YtkbipfflibjfbaaGreat.V
open Go.RowKit
attribute [local irreducible] ef wpOps gN Call
attribute [local go_sem] aH fJ eW fZ gh dh upd cD K.av cP AV.cells AV.cell rowOf rowsOf part ld rowAt bU cw dI ek iq bL de eD gj fq dx ew db da dW dY bR bd cU bQ cW cV er ez eu cR bV dc eo bP aL cY cI im br cH bz bc dB bo dF AV.undef bx bE dZ ej dV ec cJ eC eE cF eB eA cX cZ List.getD_cons_zero List.getD_cons_succ List.getD_nil List.all_cons List.all_nil Bool.and_true Bool.true_and Bool.and_self Bool.not_true Bool.not_false Option.map_some Option.map_none Option.bind_some Option.bind_none List.length_cons List.length_nil List.take_succ_cons List.take_zero List.take_nil List.drop_succ_cons List.drop_zero List.drop_nil List.head?_cons List.map_cons List.map_nil List.getElem?_cons_zero List.getElem?_cons_succ List.cons_append List.nil_append List.append_nil List.length_map List.set_cons_zero List.set_cons_succ eq_self Int.toNat_natCast Int.natCast_nonneg and_self true_and and_true decide_true decide_false Bool.false_eq_true Nat.zero_add Nat.add_zero List.contains_cons List.contains_nil Bool.or_false Bool.false_or beq_self_eq_true ne_eq not_true_eq_false not_false_eq_true Id.mk.injEq false_and and_false Nat.le_refl List.length_append beq_true beq_false Bool.not_eq_eq_eq_not or_false false_or dM ai ao aD bt cz aY bj aV bf cL bJ
abbrev mI:MK:=⟨false,[.tI]⟩
def tr (l:List (Nat×Nat)):List (List AV):=l.map fun p=>[.int .i64 (p.1:Int),.int .i64 (p.2:Int)]
theorem Co (r:Nat):∀(l:List (Nat×Nat)) (i:Nat),((∀p∈l,p.1≠r)->jk mI [.int .i64 (r:Int)] (tr l) i=some none)/\(∀j v,l[j]? =some (r,v)->(∀x y,x<j->l[x]? =some y->y.1≠r)->jk mI [.int .i64 (r:Int)] (tr l) i=some (some (i+j)))
 |[],i=>⟨fun _=>rfl,fun j v h=>by simp at h⟩
 |p::l,i=>by
  obtain⟨h1,h2⟩:=Co r l (i+1)
  by_cases h:p.1=r
  ·refine⟨fun hp=>absurd h (hp p (by simp)),fun j v hj hf=>?_⟩
   have hj0:j=0:=by
    rcases Nat.eq_zero_or_pos j with h0|h0
    ·exact h0
    ·exact absurd h (hf 0 p h0 (by simp))
   subst hj0
   simp[tr,jk,fq,gj,MK.ks,h]
  ·have hd:¬((r:Int)=(p.1:Int)):=ae
   have q9:¬r=p.1:=fun he=>h he.symm
   have step:jk mI [.int .i64 (r:Int)] (tr (p::l)) i=jk mI [.int .i64 (r:Int)] (tr l) (i+1):=by
    unfold tr
    simp[jk,MK.ks,fq,gj,hd,q9,h]
   rw[step]
   refine⟨fun hp=>h1 fun q hq=>hp q (by simp[hq]),fun j v hj hf=>?_⟩
   cases j with
   |zero=>simp at hj;rw[hj]at h;exact absurd rfl h
   |succ j=>
    rw[h2 j v (by simpa using hj) fun x y hx hy=>hf (x+1) y ae (by simpa using hy)]
    congr 2;omega
theorem zd {r:Nat} {l:List (Nat×Nat)}:((∀p∈l,p.1≠r)->iV mI (.int .i64 (r:Int)) (tr l)=some none)/\(∀j v,l[j]? =some (r,v)->(∀x y,x<j->l[x]? =some y->y.1≠r)->iV mI (.int .i64 (r:Int)) (tr l)=some (some j)):=by
 have e:iV mI (.int .i64 (r:Int)) (tr l)=jk mI [.int .i64 (r:Int)] (tr l) 0:=by
  unfold iV
  rw[if_pos ⟨rfl,rfl,rfl⟩];rfl
 obtain⟨h1,h2⟩:=Co r l 0
 rw[e]
 exact⟨h1,fun j v hj hf=>by rw[h2 j v hj hf,Nat.zero_add]⟩
def lH (k:Nat) (L:Nat->Nat):List (List AV):=tr (leads k L).zipIdx
theorem EP {k:Nat} {L:Nat->Nat} (h:L k=k):lH (k+1) L=lH k L++[[.int .i64 (k:Int),.int .i64 ((leads k L).length:Int)]]:=by
 unfold lH
 rw[ik,if_pos h,List.zipIdx_append]
 simp[tr]
theorem EO {k:Nat} {L:Nat->Nat} (h:L k≠k):lH (k+1) L=lH k L:=by
 unfold lH
 rw[ik,if_neg h,List.append_nil]
theorem Hu {k:Nat} {L:Nat->Nat} (h:L k=k):iV mI (.int .i64 (k:Int)) (lH k L)=some none:=by
 refine zd.1 fun p hp=>?_
 have:=List.fst_mem_of_mem_zipIdx hp
 have:=(zi.1 this).1
 omega
theorem zh {n:Nat} {L:Nat->Nat} {x y:Nat} (hx:x<(leads n L).length) (hy:y<(leads n L).length) (h:(leads n L)[x]=(leads n L)[y]):x=y:=by
 have hp:=List.pairwise_iff_getElem.1 (uj n L)
 rcases Nat.lt_trichotomy x y with dO|he|dO
 ·exact absurd h (hp x y hx hy dO)
 ·exact he
 ·exact absurd h.symm (hp y x hy hx dO)
theorem zg {k:Nat} {L:Nat->Nat} (hL:kc L) (h:L k≠k):iV mI (.int .i64 (L k:Int)) (lH k L)=some (some (cm L k))/\(lH k L)[cm L k]? =some [.int .i64 (L k:Int),.int .i64 (cm L k:Int)]/\cm L k<(leads k L).length:=by
 have dO:L k<k:=Nat.lt_of_le_of_ne (hL.le k) h
 have hn:cm L (L k)=cm L k:=by rw[cm,hL.idem,cm]
 have hg:=pS hL dO
 rw[hn,hL.idem]at hg
 have hl:cm L k<(leads k L).length:=(List.getElem?_eq_some_iff.1 hg).1
 have hz:(leads k L).zipIdx[cm L k]? =some (L k,cm L k):=by simp[List.getElem?_zipIdx,hg]
 refine⟨zd.2 _ _ hz fun x y hx hy=>?_,by unfold lH tr;rw[List.getElem?_map,hz];rfl,hl⟩
 intro he
 rw[List.getElem?_zipIdx]at hy
 have On:x<(leads k L).length:=ae
 rw[List.getElem?_eq_getElem On]at hy
 simp at hy
 rw[<-hy]at he
 simp at he
 have e2:(leads k L)[cm L k]=L k:=(List.getElem?_eq_some_iff.1 hg).2
 have:=zh On hl (he.trans e2.symm)
 omega
def ki (k:Nat) (L:Nat->Nat):List (List Nat):=(leads k L).map (members k L)
theorem qW (k:Nat) (L:Nat->Nat):(ki k L).length=(leads k L).length:=by simp[ki]
theorem Ef {k:Nat} {L:Nat->Nat} (hL:kc L) (h:L k=k):ki (k+1) L=ki k L++[[k]]:=by
 unfold ki
 rw[ik,if_pos h,List.map_append,List.map_cons,List.map_nil,jW,if_pos h,nS hL (Nat.le_refl k),List.nil_append]
 congr 1
 refine List.map_congr_left fun r hr=>?_
 have:=(zi.1 hr).1
 rw[jW,if_neg ae,List.append_nil]
theorem Eg {k:Nat} {L:Nat->Nat} (hL:kc L) (h:L k≠k):(ki k L)[cm L k]? =some (members k L (L k))/\ki (k+1) L=(ki k L).set (cm L k) (members k L (L k)++[k]):=by
 obtain⟨_,_,hl⟩:=zg hL h
 have dO:L k<k:=Nat.lt_of_le_of_ne (hL.le k) h
 have hg:=pS hL dO
 have hn:cm L (L k)=cm L k:=by rw[cm,hL.idem,cm]
 rw[hn,hL.idem]at hg
 refine⟨by unfold ki;rw[List.getElem?_map,hg];rfl,?_⟩
 unfold ki
 rw[ik,if_neg h,List.append_nil]
 refine List.ext_getElem? fun i=>?_
 rw[List.getElem?_set,List.getElem?_map,List.length_map]
 by_cases hi:cm L k=i
 ·subst hi
  rw[if_pos rfl,if_pos hl,hg,Option.map_some,jW,if_pos rfl]
 ·rw[if_neg hi,List.getElem?_map]
  rcases hr:(leads k L)[i]? with _|r
  ·rfl
  ·rw[Option.map_some,Option.map_some,jW,if_neg,List.append_nil]
   rintro rfl
   obtain⟨nj,he⟩:=List.getElem?_eq_some_iff.1 hr
   have e2:(leads k L)[cm L k]=L k:=(List.getElem?_eq_some_iff.1 hg).2
   exact hi (zh hl nj (e2.trans he.symm))
theorem CK (k:Nat) (L:Nat->Nat) (r:Nat):(members k L r).length<=k:=by
 have:=List.length_filter_le (fun x=>L x==r) (List.range k)
 simpa[members]using this
def Lf (g:Rows) (o:Id) (L:List (List Nat)) (nx:Nat):Prop:=∃rows ids,g o=some ⟨true,1,rows⟩/\eT QY g rows L ids/\ids.Nodup/\(∀i∈ids,i.site=200026008/\i.cC<nx)/\o.site=200025002/\o.cC<nx
theorem Mh {g':Rows} {v v' yg j:Nat} (h1:g' ⟨200025002,v⟩=some ⟨true,1,[[.own ⟨200026008,v'⟩ 0 1]]⟩) (h2:g' ⟨200026008,v'⟩=some ⟨true,1,[eN j]⟩) (hv:v<yg) (oI:v'<yg):Lf g' ⟨200025002,v⟩ [[j]] yg:=
 ⟨_,[⟨200026008,v'⟩],h1,.one ⟨_,rfl,h2,rfl⟩,by simp,fun i hi=>by rw[List.mem_singleton.1 hi];exact⟨rfl,oI⟩,rfl,hv⟩
theorem Lf.new {g:Rows} {o:Id} {L:List (List Nat)} {nx:Nat} (h:Lf g o L nx) (j:Nat):∃rows,g o=some ⟨true,1,rows⟩/\rows.length=L.length/\∀(g':Rows) (v v' yg:Nat),nx<=v'->v<yg->v'<yg->g' ⟨200025002,v⟩=some ⟨true,1,rows++[[.own ⟨200026008,v'⟩ 0 1]]⟩->g' ⟨200026008,v'⟩=some ⟨true,1,[eN j]⟩->(∀i:Id,i.site=200026008->i.cC<nx->g' i=g i)->Lf g' ⟨200025002,v⟩ (L++[[j]]) yg:=by
 obtain⟨rows,ids,h1,h2,h3,h4,h5,h6⟩:=h
 refine⟨rows,h1,h2.len,fun g' v v' yg hv uf JO q1 q2 q3=>⟨_,ids++[⟨200026008,v'⟩],q1,(h2.frame Qc fun i hi=>q3 i (h4 i hi).1 (h4 i hi).2).app (.one ⟨_,rfl,q2,rfl⟩),?_,fun i hi=>?_,rfl,uf⟩⟩
 ·refine List.nodup_append.2 ⟨h3,by simp,fun a ha b hb rZ=>?_⟩
  rw[List.mem_singleton.1 hb]at rZ
  have:=(h4 a ha).2
  rw[rZ]at this
  simp only at this
  omega
 ·rcases List.mem_append.1 hi with hi|hi
  ·have:=h4 i hi;exact⟨this.1,ae⟩
  ·rw[List.mem_singleton.1 hi];exact⟨rfl,JO⟩
theorem Lf.add {g:Rows} {o:Id} {L:List (List Nat)} {nx k:Nat} {La:List Nat} (h:Lf g o L nx) (hk:L[k]? =some La) (j:Nat):∃rows id,g o=some ⟨true,1,rows⟩/\rows.length=L.length/\rows[k]? =some [.own id 0 La.length]/\g id=some ⟨true,1,La.map eN⟩/\id.site=200026008/\id.cC<nx/\∀(g':Rows) (v' yg:Nat),nx<=v'->v'<yg->g' o=some ⟨true,1,rows.set k [.own ⟨200026008,v'⟩ 0 (La.length+1)]⟩->g' ⟨200026008,v'⟩=some ⟨true,1,La.map eN++[[.int .i64 (j:Int)]]⟩->(∀i:Id,i.site=200026008->i.cC<nx->(i=id)=False->g' i=g i)->Lf g' o (L.set k (La++[j])) yg:=by
 obtain⟨rows,ids,h1,h2,h3,h4,h5,h6⟩:=h
 have mQ:k<L.length:=(List.getElem?_eq_some_iff.1 hk).1
 have Vo:=lE hk mQ
 obtain⟨cs,ic,dy,Ra,SN,wD⟩:=h2.Tv Qc h3 k mQ
 rw[Vo]at Ra
 obtain⟨id,rfl,q1,rfl⟩:=Ra
 have hid:=h4 id (SN id (by simp))
 refine⟨rows,id,h1,h2.len,dy,q1,hid.1,hid.2,fun g' v' yg hv uf r1 r2 r3=>?_⟩
 obtain⟨EE,s1,s2,s3⟩:=wD g' [.own ⟨200026008,v'⟩ 0 (La.length+1)] (La++[j]) [⟨200026008,v'⟩] ⟨_,by simp,by rw[r2];simp[eN],rfl⟩ (fun i hi Uq=>r3 i (h4 i hi).1 (h4 i hi).2 (by
  simp only[eq_iff_iff,iff_false];rintro rfl;exact Uq (by simp))) (by simp) fun i hi hc=>by
   rw[List.mem_singleton.1 hi]at hc
   have:=(h4 _ hc).2
   simp only at this
   omega
 refine⟨_,EE,r1,s1,s2,fun i hi=>?_,h5,ae⟩
 rcases s3 i hi with h|h
 ·rw[List.mem_singleton.1 h];exact⟨rfl,uf⟩
 ·have:=h4 i h;exact⟨this.1,ae⟩
def mL (G:Nat->Id) (n k:Nat):List (List AV):=(List.range n).map fun i=>[if i<k then .ptr (G i) 0 0 else .iI]
theorem nD (G:Nat->Id) (n k:Nat):(mL G n k).length=n:=by simp[mL]
theorem HX (G:Nat->Id) (n:Nat):List.replicate n [AV.iI]=mL G n 0:=by
 refine List.ext_getElem? fun i=>?_
 by_cases h:i<n
 ·rw[List.getElem?_replicate,if_pos h];simp[mL,h]
 ·rw[List.getElem?_eq_none (by simp;omega),List.getElem?_eq_none (by rw[nD];omega)]
theorem xp {G:Nat->Id} {n i:Nat} (h:i<n):(mL G n n)[i]? =some [.ptr (G i) 0 0]:=by simp[mL,h]
theorem KP {G:Nat->Id} {n k:Nat} (h:k<n):(mL G n k).set k [.ptr (G k) 0 0]=mL G n (k+1):=by
 refine List.ext_getElem? fun i=>?_
 rw[List.getElem?_set,nD]
 by_cases hi:k=i
 ·subst hi;rw[if_pos rfl,if_pos h];simp[mL,h]
 ·rw[if_neg hi]
  by_cases fB:i<n
  ·simp only[mL,List.getElem?_map,List.getElem?_range fB,Option.map_some]
   by_cases wo:i<k
   ·rw[if_pos wo,if_pos ae]
   ·rw[if_neg wo,if_neg ae]
  ·rw[List.getElem?_eq_none (by rw[nD];omega),List.getElem?_eq_none (by rw[nD];omega)]
end Go.Proofs.YtkbipfflibjfbaaGreat.V

namespace Go.Proofs.YtkbipfflibjfbaaGreat.V
open Go.RowKit
attribute [local irreducible] ef wpOps gN Call
attribute [local go_sem] aH fJ eW fZ gh dh upd cD K.av cP AV.cells AV.cell rowOf rowsOf part ld rowAt bU cw dI ek iq bL de eD gj fq dx ew db da dW dY bR bd cU bQ cW cV er ez eu cR bV dc eo bP aL cY cI im br cH bz bc dB bo dF AV.undef bx bE dZ ej dV ec cJ eC eE cF eB eA cX cZ List.getD_cons_zero List.getD_cons_succ List.getD_nil List.all_cons List.all_nil Bool.and_true Bool.true_and Bool.and_self Bool.not_true Bool.not_false Option.map_some Option.map_none Option.bind_some Option.bind_none List.length_cons List.length_nil List.take_succ_cons List.take_zero List.take_nil List.drop_succ_cons List.drop_zero List.drop_nil List.head?_cons List.map_cons List.map_nil List.getElem?_cons_zero List.getElem?_cons_succ List.cons_append List.nil_append List.append_nil List.length_map List.set_cons_zero List.set_cons_succ Nat.reduceMul eq_self Int.toNat_natCast Int.natCast_nonneg and_self true_and and_true decide_true decide_false Bool.false_eq_true Nat.zero_add Nat.add_zero List.contains_cons List.contains_nil Bool.or_false Bool.false_or beq_self_eq_true Nat.reduceBEq ne_eq not_true_eq_false not_false_eq_true Id.mk.injEq false_and and_false Nat.reduceLT Int.reduceLE Int.reduceLT Int.reduceToNat Int.reduceNeg Int.reduceAdd Nat.le_refl List.length_append beq_true beq_false Bool.not_eq_eq_eq_not or_false false_or dM ai ao aD bt cz aY bj aV bf cL bJ
theorem iz {o:Id} {a:Nat} (h:o.site=a) {b v:Nat} (rZ:(a==b)=false):(o=⟨b,v⟩)=False/\((⟨b,v⟩:Id)=o)=False:=by
 have h1:=vp h (v:=v) rZ
 refine⟨h1,?_⟩
 simp only[eq_iff_iff,iff_false]at h1 ⊢
 exact fun h=>h1 h.symm
theorem wh (cnt:Nat) (uL:1<=cnt) (hn:cnt<=1048576) (bs:List PB) (hb:∀b∈bs,b.a<cnt/\b.b<cnt) (ke:bs.length<=1048576):ak Tryz.prog 200 [.int .i64 cnt,.sl (bs.map ay)] (.sl ((fI cnt (eR bs)).map Bb)):=by
 intro n0
 refine Iw O2 rfl fun hl=>?_
 try simp only[q]
 clear hl
 have jN:(0:Int)<=(cnt:Int):=ae
 have qk:(cnt:Int)<=((16777216:Nat):Int):=ae
 obtain⟨G,hG⟩:∃G:Nat->Id,G=fun k=>⟨200005004,n0+3+4*k+2⟩:=⟨_,rfl⟩
 have T4:∀k,(G k).site=200005004:=fun k=>by rw[hG]
 have Vk:∀k,(G k).cC=n0+3+4*k+2:=fun k=>by rw[hG]
 have Vi:∀i j,i≠j->(G i=G j)=False:=fun i j h=>by
  simp only[eq_iff_iff,iff_false]
  intro he
  have h1:=Vk i
  rw[he,Vk j]at h1
  omega
 have Mm:∀i s v,(200005004==s)=false->(G i=⟨s,v⟩)=False:=fun i s v h=>vp (T4 i) h
 have hz:=HX G cnt
 (try((repeat(revert hN;revert N;apply Pn.out));refine wk (tw @jN (tw @qk (tw @Int.le_refl @hz))) ?_;(repeat(refine Pn.mk ?_;intro N hN))))
 refine aT (fun n env st=>∃k:Nat,n=(cnt)-k/\k<=(cnt)/\env 21=.int .i64 (k:Int)/\st.get ⟨200001001,n0+1⟩=some ⟨true,1,mL G cnt k⟩/\(st.next=n0+3+4*k/\∀j:Nat,j<k->st.get (G j)=some ⟨true,2,[[.iI,.int .i64 (j:Int)]]⟩)) (cnt) ⟨0,ae,ae,sl @hz,sl @hz,⟨rfl,fun j hj=>ae⟩⟩ ?_
 rintro n_a env_a st_a ⟨k,rfl,ale,a21,ag0,kB⟩ dr
 have a0:=dr 0 (by kernel_rfl);have a1:=dr 1 (by kernel_rfl);have a5:=dr 5 (by kernel_rfl);have OK:=dr 19 (by kernel_rfl);have a20:=dr 20 (by kernel_rfl)
 simp only[go_sem, ↓reduceIte,Nat.reduceEqDiff,Nat.reduceAdd,Nat.reduceSub,Nat.reduceLeDiff,reduceCtorEq,hz]at a0 a1 a5 OK a20
 clear dr
 obtain⟨kB,lV⟩:=kB
 by_cases hk:(k:Int)<(cnt:Int)
 ·have bZ:∀{e:Env} {gg:Rows} {nx:Nat},(e 21=.int .i64 (IntKind.i64.wrap ((k:Int)+1)))->(gg ⟨200001001,n0+1⟩=some ⟨true,1,mL G cnt (k+1)⟩)->(nx=n0+3+4*(k+1)/\∀j:Nat,j<(k+1)->gg (G j)=some ⟨true,2,[[.iI,.int .i64 (j:Int)]]⟩)->∃m0,m0<(cnt)-k/\∃k:Nat,m0=(cnt)-k/\k<=(cnt)/\e 21=.int .i64 (k:Int)/\gg ⟨200001001,n0+1⟩=some ⟨true,1,mL G cnt k⟩/\(nx=n0+3+4*k/\∀j:Nat,j<k->gg (G j)=some ⟨true,2,[[.iI,.int .i64 (j:Int)]]⟩):=fun x1 x2 x3=>⟨_,ae,k+1,rfl,ae,(by rw[x1,aB ae]),x2,x3⟩
  have fK:k<cnt:=ae
  have tl:=nD G cnt k
  have ei:=KP (G:=G) fK
  have fe:(mL G cnt k)[k]? =some [.iI]:=by simp[mL,fK]
  have TZ:(⟨200005004,st_a.next+1+1⟩:Id)=G k:=by rw[hG,kB]
  have hGf:∀j,j<k->(G j=G k)=False:=fun j hj=>Vi j k ae
  have Ae:∀j,(G j=(⟨200001001,n0+1⟩:Id))=False:=fun j=>Mm j _ _ (by decide)
  have Ei:∀j,((⟨200001001,n0+1⟩:Id)=G j)=False:=fun j=>by
   have:=Ae j
   simp only[eq_iff_iff,iff_false]at this ⊢
   exact fun h=>this h.symm
  (try((repeat(revert hN;revert N;apply Pn.out));refine wk (tw @a21 (tw @ag0 (tw @a0 (tw @a1 (tw @a5 (tw @OK (tw @a20 (tw @hk (tw @tl (tw @TZ (tw @Ae (tw @Ei (tw @ei @fe))))))))))))) ?_;(repeat(refine Pn.mk ?_;intro N hN))))
  refine bZ ?_ ?_ (by
   refine⟨by(try dsimp only)<;>omega,fun j hj=>?_⟩
   by_cases y5:j=k
   ·subst y5;simp only[go_sem, ↓reduceIte,Nat.reduceEqDiff,Nat.reduceAdd,Nat.reduceSub,Nat.reduceLeDiff,reduceCtorEq,TZ,Ae,Ei]
   ·have hold:=lV j ae
    have gI:=hGf j ae
    simp only[go_sem, ↓reduceIte,Nat.reduceEqDiff,Nat.reduceAdd,Nat.reduceSub,Nat.reduceLeDiff,reduceCtorEq,TZ,Ae,Ei,gI,hold])
  all_goals simp only[go_sem, ↓reduceIte,Nat.reduceEqDiff,Nat.reduceAdd,Nat.reduceSub,Nat.reduceLeDiff,reduceCtorEq,a21,ag0,a0,a1,a5,OK,a20,TZ,Ae,Ei,ei]
 have mQ:cnt=k:=ae
 subst mQ
 (try((repeat(revert hN;revert N;apply Pn.out));refine wk (tw @a21 (tw @ag0 (tw @a0 (tw @a1 (tw @a5 (tw @OK (tw @a20 @hk))))))) ?_;(repeat(refine Pn.mk ?_;intro N hN))))
 refine aT (fun n env st=>∃i:Nat,n=(bs.length)-i/\i<=(bs.length)/\env 33=.int .i64 (i:Int)/\st.get ⟨200001001,n0+1⟩=some ⟨true,1,mL G cnt cnt⟩/\(n0+3+4*cnt<=st.next)/\(∃px,oq cnt px (eR (bs.take i))/\uB st.get G cnt px)) (bs.length) ⟨0,ae,ae,sl (tw @a21 (tw @ag0 (tw @a0 (tw @a1 (tw @a5 (tw @OK @a20)))))),sl (tw @a21 (tw @ag0 (tw @a0 (tw @a1 (tw @a5 (tw @OK @a20)))))),bW,⟨fun _=>none,oq.start cnt,lV⟩⟩ ?_
 rintro n_b env_b st_b ⟨i,rfl,ble,b33,bg0,bI0,bI1⟩ bfr
 have b0:=bfr 0 (by kernel_rfl);have b1:=bfr 1 (by kernel_rfl);have b5:=bfr 5 (by kernel_rfl);have yy:=bfr 31 (by kernel_rfl);have yz:=bfr 32 (by kernel_rfl)
 simp only[go_sem, ↓reduceIte,Nat.reduceEqDiff,Nat.reduceAdd,Nat.reduceSub,Nat.reduceLeDiff,reduceCtorEq,a21,ag0,a0,a1,a5,OK,a20]at b0 b1 b5 yy yz
 clear bfr
 obtain⟨px,Lv,T3⟩:=bI1
 have tl:=nD G cnt cnt
 have Si:∀j v,(G j=(⟨200009002,v⟩:Id))=False:=fun j v=>Mm j _ v (by decide)
 have Ae:∀j v,(G j=(⟨200001001,v⟩:Id))=False:=fun j v=>Mm j _ v (by decide)
 have Ei:∀j v,((⟨200001001,v⟩:Id)=G j)=False:=fun j v=>by
  have:=Ae j v
  simp only[eq_iff_iff,iff_false]at this ⊢
  exact fun h=>this h.symm
 have hGn:∀j,j<cnt->(G j).cC<st_b.next:=fun j hj=>by rw[Vk];omega
 by_cases hi:(i:Int)<(bs.length:Int)
 ·have gY:∀{e:Env} {gg:Rows} {nx:Nat},(e 33=.int .i64 (IntKind.i64.wrap ((i:Int)+1)))->(gg ⟨200001001,n0+1⟩=some ⟨true,1,mL G cnt cnt⟩)->(n0+3+4*cnt<=nx)->(∃px,oq cnt px (eR (bs.take (i+1)))/\uB gg G cnt px)->∃m0,m0<(bs.length)-i/\∃i:Nat,m0=(bs.length)-i/\i<=(bs.length)/\e 33=.int .i64 (i:Int)/\gg ⟨200001001,n0+1⟩=some ⟨true,1,mL G cnt cnt⟩/\(n0+3+4*cnt<=nx)/\(∃px,oq cnt px (eR (bs.take i))/\uB gg G cnt px):=fun x1 x2 x3 x4=>⟨_,ae,i+1,rfl,ae,(by rw[x1,aB ae]),x2,x3,x4⟩
  have fB:i<bs.length:=ae
  have gT:(bs.map ay)[i]? =some (ay bs[i]):=by simp[fB]
  have G4:=hb _ (List.getElem_mem fB)
  have oA:bs.take (i+1)=bs.take i++[bs[i]]:=List.take_succ_eq_append_getElem fB
  have iL:eR (bs.take (i+1))=eY (eR (bs.take i)) bs[i]:=by rw[oA,wM]
  have hL:=ui (bs.take i)
  generalize eR (bs.take i)=L at *
  generalize bs[i]=b at *
  have gA:=xp (G:=G) G4.1
  have gB:=xp (G:=G) G4.2
  have gU:(b.a:Int)<(cnt:Int):=ae
  have fE:(b.b:Int)<(cnt:Int):=ae
  (try((repeat(revert hN;revert N;apply Pn.out));refine wk (tw @b33 (tw @bg0 (tw @b0 (tw @b1 (tw @b5 (tw @yy (tw @yz (tw @hi (tw @gT (tw @ay.eq_1 (tw @gA (tw @gB (tw @gU (tw @fE @tl)))))))))))))) ?_;(repeat(refine Pn.mk ?_;intro N hN))))
  refine Fx (fun e s=>e 0=.int .i64 cnt/\e 1=.sl (bs.map ay)/\e 5=.own ⟨200001001,n0+1⟩ 0 cnt/\e 31=.sl (bs.map ay)/\e 32=.int .i64 bs.length/\e 33=.int .i64 i/\e 9=.ptr (G (L b.a)) 0 0/\e 10=.ptr (G (L b.b)) 0 0/\(∀j:Id,j.cC<st_b.next->s.get j=st_b.get j)/\st_b.next<=s.next) ?_ ?_
  ·rintro e1 s1 ⟨m0,m1,m5,m31,m32,m33,m9,m10,mf,mn⟩
   refine hN _ _ ?_
   clear hN N
   have mG:uB s1.get G cnt px:=T3.frame fun k hk=>mf _ (hGn k hk)
   have mt:=(mf ⟨200001001,n0+1⟩ bW).trans bg0
   have VM:L b.a<cnt:=Nat.lt_of_le_of_lt (hL.le _) G4.1
   have SS:L b.b<cnt:=Nat.lt_of_le_of_lt (hL.le _) G4.2
   have ra:=mG _ VM
   have rb:=mG _ SS
   rw[mb (Lv.root hL VM (hL.idem _))]at ra
   rw[mb (Lv.root hL SS (hL.idem _))]at rb
   have put:∀(g':Rows) (lo hi:Nat),hi<cnt->g' (G hi)=some ⟨true,2,[[.ptr (G lo) 0 0,.int .i64 (hi:Int)]]⟩->(∀k,k≠hi->k<cnt->g' (G k)=s1.get (G k))->uB g' G cnt (fun k=>if k=hi then some lo else px k):=fun g' lo hi _ h1 h2 k hk=>by
    by_cases Ls:k=hi
    ·subst Ls;rw[h1,uc (j:=lo) (if_pos rfl)]
    ·rw[h2 k Ls hk,mG k hk]
     unfold te
     simp only[if_neg Ls]
   rcases Nat.lt_trichotomy (L b.a) (L b.b)with dO|heq|dO
   ·have PN:(L b.a:Int)<(L b.b:Int):=ae
    have hj:=Lv.join hL b ae
    rw[Nat.max_eq_right ae,Nat.min_eq_left ae,<-iL]at hj
    (try((repeat(revert hN;revert N;apply Pn.out));refine wk (tw @m0 (tw @m1 (tw @m5 (tw @m31 (tw @m32 (tw @m33 (tw @m9 (tw @m10 (tw @ra (tw @rb @PN)))))))))) ?_;(repeat(refine Pn.mk ?_;intro N hN))))
    refine gY ?_ ?_ bW (⟨_,hj,put _ _ _ SS (sd @Nat.zero_add) (fun k hk _=>by
     have gI:=Vi k _ hk
     simp only[go_sem, ↓reduceIte,Nat.reduceEqDiff,Nat.reduceAdd,Nat.reduceSub,Nat.reduceLeDiff,reduceCtorEq,gI])⟩)
    all_goals simp only[go_sem, ↓reduceIte,Nat.reduceEqDiff,Nat.reduceAdd,Nat.reduceSub,Nat.reduceLeDiff,reduceCtorEq,m0,m1,m5,m31,m32,m33,mt,Ae,Ei]
   ·have uL:¬(L b.a:Int)<(L b.b:Int):=ae
    have PQ:¬(L b.b:Int)<(L b.a:Int):=ae
    have wG:=Av heq
    rw[wG]at iL
    (try((repeat(revert hN;revert N;apply Pn.out));refine wk (tw @m0 (tw @m1 (tw @m5 (tw @m31 (tw @m32 (tw @m33 (tw @m9 (tw @m10 (tw @ra (tw @rb (tw @uL @PQ))))))))))) ?_;(repeat(refine Pn.mk ?_;intro N hN))))
    refine gY ?_ ?_ bW (⟨_,iL▸Lv,mG.frame fun k hk=>rfl⟩)
    all_goals simp only[go_sem, ↓reduceIte,Nat.reduceEqDiff,Nat.reduceAdd,Nat.reduceSub,Nat.reduceLeDiff,reduceCtorEq,m0,m1,m5,m31,m32,m33,mt]
   ·have PN:(L b.b:Int)<(L b.a:Int):=ae
    have uL:¬(L b.a:Int)<(L b.b:Int):=ae
    have hj:=Lv.join hL b ae
    rw[Nat.max_eq_left ae,Nat.min_eq_right ae,<-iL]at hj
    (try((repeat(revert hN;revert N;apply Pn.out));refine wk (tw @m0 (tw @m1 (tw @m5 (tw @m31 (tw @m32 (tw @m33 (tw @m9 (tw @m10 (tw @ra (tw @rb (tw @PN @uL))))))))))) ?_;(repeat(refine Pn.mk ?_;intro N hN))))
    refine gY ?_ ?_ bW (⟨_,hj,put _ _ _ VM (sd @Nat.zero_add) (fun k hk _=>by
     have gI:=Vi k _ hk
     simp only[go_sem, ↓reduceIte,Nat.reduceEqDiff,Nat.reduceAdd,Nat.reduceSub,Nat.reduceLeDiff,reduceCtorEq,gI])⟩)
    all_goals simp only[go_sem, ↓reduceIte,Nat.reduceEqDiff,Nat.reduceAdd,Nat.reduceSub,Nat.reduceLeDiff,reduceCtorEq,m0,m1,m5,m31,m32,m33,mt,Ae,Ei]
  ·intro N hN
   refine fw ?_ ?_<;>(try((repeat(revert hN;revert N;apply Pn.out));refine wk (tw @b33 (tw @bg0 (tw @b0 (tw @b1 (tw @b5 (tw @yy (tw @yz (tw @hi (tw @gT (tw @ay.eq_1 (tw @gA (tw @gB (tw @gU (tw @fE @tl)))))))))))))) ?_;(repeat(refine Pn.mk ?_;intro N hN))))<;>(try refine fw ?_ ?_)<;>(try((repeat(revert hN;revert N;apply Pn.out));refine wk (tw @b33 (tw @bg0 (tw @b0 (tw @b1 (tw @b5 (tw @yy (tw @yz (tw @hi (tw @gT (tw @ay.eq_1 (tw @gA (tw @gB (tw @gU (tw @fE @tl)))))))))))))) ?_;(repeat(refine Pn.mk ?_;intro N hN))))<;>(try refine fw ?_ ?_)<;>(try((repeat(revert hN;revert N;apply Pn.out));refine wk (tw @b33 (tw @bg0 (tw @b0 (tw @b1 (tw @b5 (tw @yy (tw @yz (tw @hi (tw @gT (tw @ay.eq_1 (tw @gA (tw @gB (tw @gU (tw @fE @tl)))))))))))))) ?_;(repeat(refine Pn.mk ?_;intro N hN))))
   all_goals
    refine .inr (aU _ _ _ _ _ (fun r σ1 hq=>?_) (zY G cnt px L Lv b.a G4.1 _ (T3.frame fun k hk=>sd @Si)))
    obtain⟨g1,x1⟩:=σ1
    obtain⟨rfl,Be,Mw⟩:=hq
    (try dsimp only at Be Mw)
    subst Be
    refine hN _ _ ?_
    clear hN N
    (try((repeat(revert hN;revert N;apply Pn.out));refine wk (tw @b33 (tw @bg0 (tw @b0 (tw @b1 (tw @b5 (tw @yy (tw @yz (tw @hi (tw @gT (tw @ay.eq_1 (tw @gA (tw @gB (tw @gU (tw @fE @tl)))))))))))))) ?_;(repeat(refine Pn.mk ?_;intro N hN))))
    refine .inr (aU _ _ _ _ _ (fun r σ1 hq=>?_) (zY G cnt px L Lv b.b G4.2 _ (T3.frame fun k hk=>sd @Si)))
    obtain⟨g1,x2⟩:=σ1
    obtain⟨rfl,Be,mA⟩:=hq
    (try dsimp only at Be mA)
    subst Be
    refine hN _ _ ?_
    clear hN N
    (try((repeat(revert hN;revert N;apply Pn.out));refine wk (tw @b33 (tw @bg0 (tw @b0 (tw @b1 (tw @b5 (tw @yy (tw @yz (tw @hi (tw @gT (tw @ay.eq_1 (tw @gA (tw @gB (tw @gU (tw @fE @tl)))))))))))))) ?_;(repeat(refine Pn.mk ?_;intro N hN))))
    exact⟨sd (tw @b33 (tw @bg0 (tw @b0 (tw @b1 (tw @b5 (tw @yy @yz)))))),sd (tw @b33 (tw @bg0 (tw @b0 (tw @b1 (tw @b5 (tw @yy @yz)))))),sd (tw @b33 (tw @bg0 (tw @b0 (tw @b1 (tw @b5 (tw @yy @yz)))))),sd (tw @b33 (tw @bg0 (tw @b0 (tw @b1 (tw @b5 (tw @yy @yz)))))),sd (tw @b33 (tw @bg0 (tw @b0 (tw @b1 (tw @b5 (tw @yy @yz)))))),sd (tw @b33 (tw @bg0 (tw @b0 (tw @b1 (tw @b5 (tw @yy @yz)))))),sd (tw @b33 (tw @bg0 (tw @b0 (tw @b1 (tw @b5 (tw @yy @yz)))))),sd (tw @b33 (tw @bg0 (tw @b0 (tw @b1 (tw @b5 (tw @yy @yz)))))),fun j hj=>by
     have hv:=eX hj
     simp only[go_sem, ↓reduceIte,Nat.reduceEqDiff,Nat.reduceAdd,Nat.reduceSub,Nat.reduceLeDiff,reduceCtorEq,hv],bW⟩
 have nj:i=bs.length:=ae
 subst nj
 rw[List.take_length]at Lv
 have hL:=ui bs
 generalize eR bs=L at *
 (try((repeat(revert hN;revert N;apply Pn.out));refine wk (tw @b33 (tw @bg0 (tw @b0 (tw @b1 (tw @b5 (tw @yy (tw @yz (tw @hi @tl)))))))) ?_;(repeat(refine Pn.mk ?_;intro N hN))))
 have l0:lH 0 L=[]:=rfl
 have oS:(none:Option Nat).isSome=false:=rfl
 have oT:∀a:Nat,(some a).isSome=true:=fun _=>rfl
 refine aT (fun n env st=>∃x:Nat,n=(cnt)-x/\x<=(cnt)/\env 81=.int .i64 (x:Int)/\st.get ⟨200001001,n0+1⟩=some ⟨true,1,mL G cnt cnt⟩/\st.get ⟨200017000,st_b.next+1+1⟩=some ⟨true,mI.AM,lH x L⟩/\(st_b.next+3<=st.next/\uB st.get G cnt px)/\((x=0/\env 11=.ck)∨∃o:Id,env 11=.own o 0 (leads x L).length/\Lf st.get o (ki x L) st.next)) (cnt) ⟨0,ae,ae,sl (tw @b33 (tw @bg0 (tw @b0 (tw @b1 (tw @b5 (tw @yy (tw @yz @l0))))))),sl (tw @b33 (tw @bg0 (tw @b0 (tw @b1 (tw @b5 (tw @yy (tw @yz @l0))))))),sl (tw @b33 (tw @bg0 (tw @b0 (tw @b1 (tw @b5 (tw @yy (tw @yz @l0))))))),⟨bW,T3.frame fun k hk=>by(have gI:=Mm k 200017000 (st_b.next+1+1) (by decide));simp only[go_sem, ↓reduceIte,Nat.reduceEqDiff,Nat.reduceAdd,Nat.reduceSub,Nat.reduceLeDiff,reduceCtorEq,gI]⟩,.inl ⟨rfl,sd @Nat.zero_add⟩⟩ ?_
 rintro n_c env_c st_c ⟨x,rfl,cle,c81,cg0,cg1,cI0,cI1⟩ cfr
 have zN:=cfr 12 (by kernel_rfl);have LZ:=cfr 79 (by kernel_rfl);have L1:=cfr 80 (by kernel_rfl)
 simp only[go_sem, ↓reduceIte,Nat.reduceEqDiff,Nat.reduceAdd,Nat.reduceSub,Nat.reduceLeDiff,reduceCtorEq,b33,bg0,b0,b1,b5,yy,yz,l0]at zN LZ L1
 clear cfr
 obtain⟨mT,RP⟩:=cI0
 have Pw:∀j v,(G j=(⟨200017000,v⟩:Id))=False:=fun j v=>Mm j _ v (by decide)
 have Ps:∀j v,(G j=(⟨200025002,v⟩:Id))=False:=fun j v=>Mm j _ v (by decide)
 have Pu:∀j v,(G j=(⟨200025001,v⟩:Id))=False:=fun j v=>Mm j _ v (by decide)
 have Pv:∀j v,(G j=(⟨200026007,v⟩:Id))=False:=fun j v=>Mm j _ v (by decide)
 have Pt:∀j v,(G j=(⟨200026008,v⟩:Id))=False:=fun j v=>Mm j _ v (by decide)
 by_cases hx:(x:Int)<(cnt:Int)
 ·have iM:∀{e:Env} {gg:Rows} {nx:Nat},(e 81=.int .i64 (IntKind.i64.wrap ((x:Int)+1)))->(gg ⟨200001001,n0+1⟩=some ⟨true,1,mL G cnt cnt⟩)->(gg ⟨200017000,st_b.next+1+1⟩=some ⟨true,mI.AM,lH (x+1) L⟩)->(st_b.next+3<=nx/\uB gg G cnt px)->(((x+1)=0/\e 11=.ck)∨∃o:Id,e 11=.own o 0 (leads (x+1) L).length/\Lf gg o (ki (x+1) L) nx)->∃m0,m0<(cnt)-x/\∃x:Nat,m0=(cnt)-x/\x<=(cnt)/\e 81=.int .i64 (x:Int)/\gg ⟨200001001,n0+1⟩=some ⟨true,1,mL G cnt cnt⟩/\gg ⟨200017000,st_b.next+1+1⟩=some ⟨true,mI.AM,lH x L⟩/\(st_b.next+3<=nx/\uB gg G cnt px)/\((x=0/\e 11=.ck)∨∃o:Id,e 11=.own o 0 (leads x L).length/\Lf gg o (ki x L) nx):=fun x1 x2 x3 x4 x5=>⟨_,ae,x+1,rfl,ae,(by rw[x1,aB ae]),x2,x3,x4,x5⟩
  have Rv:x<cnt:=ae
  have gX:=xp (G:=G) Rv
  have hlx:L x<cnt:=Nat.lt_of_le_of_lt (hL.le _) Rv
  have ra:=RP _ hlx
  rw[mb (Lv.root hL hlx (hL.idem _))]at ra
  have kf:=kj x L
  (try((repeat(revert hN;revert N;apply Pn.out));refine wk (tw @c81 (tw @cg0 (tw @cg1 (tw @zN (tw @LZ (tw @L1 (tw @hx (tw @gX @tl)))))))) ?_;(repeat(refine Pn.mk ?_;intro N hN))))
  refine .inr (aU _ _ _ _ _ (fun r σ1 hq=>?_) (zY G cnt px L Lv x Rv _ (RP.frame fun k hk=>sd @Nat.zero_add)))
  obtain⟨g1,x1⟩:=σ1
  obtain⟨rfl,Be,Mw⟩:=hq
  (try dsimp only at Be Mw)
  subst Be
  refine hN _ _ ?_
  clear hN N
  by_cases hr:L x=x
  ·rw[hr]at ra ⊢
   have nk:=Hu hr
   have Uo:(leads (x+1) L).length=(leads x L).length+1:=by rw[ik,if_pos hr];simp
   have Rr:=EP hr
   have Uj:=Ef hL hr
   rcases cI1 with⟨rfl,oF⟩|⟨o,oF,cS⟩
   ·have V4:lH 1 L=[[.int .i64 ((0:Nat):Int),.int .i64 ((0:Nat):Int)]]:=Rr
    (try((repeat(revert hN;revert N;apply Pn.out));refine wk (tw @c81 (tw @cg0 (tw @cg1 (tw @zN (tw @LZ (tw @L1 (tw @oF (tw @ra (tw @nk (tw @l0 (tw @oS (tw @oT (tw @Bool.not_false @Bool.not_true))))))))))))) ?_;(repeat(refine Pn.mk ?_;intro N hN))))
    refine iM ?_ ?_ ?_ (by(try dsimp only);exact⟨ae,RP.frame fun k hk=>sd (tw @Pw (tw @Ps (tw @Pt (tw @Pu @Pv))))⟩) (.inr ⟨⟨200025002,x1+1+1+1+1⟩,by simp only[go_sem, ↓reduceIte,Nat.reduceEqDiff,Nat.reduceAdd,Nat.reduceSub,Nat.reduceLeDiff,reduceCtorEq,Uo];rfl,by rw[Uj];exact Mh (v':=x1+1+1+1+1+1) (sd @Nat.zero_add) (sd @eN.eq_1) bW bW⟩)
    all_goals simp only[go_sem, ↓reduceIte,Nat.reduceEqDiff,Nat.reduceAdd,Nat.reduceSub,Nat.reduceLeDiff,reduceCtorEq,c81,cg0,cg1,zN,LZ,L1,V4]
   ·obtain⟨rows,xU,sR,lF⟩:=cS.new x
    rw[qW]at sR
    have Hc:o.site=200025002:=by obtain⟨_,_,_,_,_,_,h,_⟩:=cS;exact h
    have r9:o.cC<x1:=by obtain⟨_,_,_,_,_,_,_,h⟩:=cS;omega
    have rh:=eX r9
    have S3:=iz (o:=o) Hc (b:=200017000) (v:=st_b.next+1+1) (by decide)
    have Rl:=iz (o:=o) Hc (b:=200001001) (v:=n0+1) (by decide)
    have Px:∀k,(G k=o)=False:=fun k=>by simp only[eq_iff_iff,iff_false];intro h;have h1:=T4 k;rw[h,Hc]at h1;cases h1
    have tj:(rows++[[AV.ck]])[(leads x L).length]? =some [.ck]:=by rw[<-sR];simp
    have nR:∀a:List AV,(rows++[[AV.ck]]).set (leads x L).length a=rows++[a]:=fun a=>by rw[<-sR];simp
    have e1:(leads x L).length+1<=16777216:=ae
    have e2:((leads x L).length:Int)<(((leads x L).length+1:Nat):Int):=ae
    (try((repeat(revert hN;revert N;apply Pn.out));refine wk (tw @c81 (tw @cg0 (tw @cg1 (tw @zN (tw @LZ (tw @L1 (tw @oF (tw @ra (tw @nk (tw @xU (tw @sR (tw @rh (tw @S3 (tw @tj (tw @nR (tw @e1 (tw @e2 (tw @oS (tw @oT (tw @Bool.not_false @Bool.not_true)))))))))))))))))))) ?_;(repeat(refine Pn.mk ?_;intro N hN))))
    refine iM ?_ ?_ ?_ (by(try dsimp only);exact⟨ae,RP.frame fun k hk=>sd (tw @Pw (tw @Ps (tw @Pt (tw @Pu (tw @Pv @Px)))))⟩) (.inr ⟨⟨200025002,x1+1+1+1+1⟩,sd @Uo,by rw[Uj];exact lF _ _ (x1+1+1+1+1+1) _ ae bW bW (sd @nR) (sd @eN.eq_1) (fun j hj hv=>by
     have q1:=eX (i:=j) (n:=x1) ae
     have q2:=iz hj (b:=200017000) (v:=st_b.next+1+1) (by decide)
     have q3:(j=o)=False:=by simp only[eq_iff_iff,iff_false];intro h;rw[h,Hc]at hj;cases hj
     simp only[go_sem, ↓reduceIte,Nat.reduceEqDiff,Nat.reduceAdd,Nat.reduceSub,Nat.reduceLeDiff,reduceCtorEq,q1,q2,q3])⟩)
    all_goals simp only[go_sem, ↓reduceIte,Nat.reduceEqDiff,Nat.reduceAdd,Nat.reduceSub,Nat.reduceLeDiff,reduceCtorEq,c81,cg0,cg1,zN,LZ,L1,Rr,rh,S3,Rl]
  ·obtain⟨nk,JJ,dO⟩:=zg hL hr
   obtain⟨SJ,Uj⟩:=Eg hL hr
   have Uo:(leads (x+1) L).length=(leads x L).length:=by rw[ik,if_neg hr];simp
   have wG:=EO hr
   rcases cI1 with⟨rfl,oF⟩|⟨o,oF,cS⟩
   ·exact absurd (Nat.le_zero.1 (hL.le 0)) hr
   ·obtain⟨rows,id,xU,sR,hrk,hid,Jz,hidv,Vs⟩:=cS.add SJ x
    rw[qW]at sR
    have Hc:o.site=200025002:=by obtain⟨_,_,_,_,_,_,h,_⟩:=cS;exact h
    have r9:o.cC<x1:=by obtain⟨_,_,_,_,_,_,_,h⟩:=cS;omega
    have rh:=eX r9
    have uf:=eX (i:=id) (n:=x1) ae
    have gT:(cm L x:Int)<((leads x L).length:Int):=ae
    have Rk:=CK x L (L x)
    have hma:((members x L (L x)).map eN).length=(members x L (L x)).length:=by simp
    have e1:(members x L (L x)).length+1<=16777216:=ae
    have Rm:(o=id)=False:=by simp only[eq_iff_iff,iff_false];rintro rfl;rw[Jz]at Hc;cases Hc
    have Rh:(id=o)=False:=by simp only[eq_iff_iff,iff_false];rintro rfl;rw[Jz]at Hc;cases Hc
    have S3:=iz (o:=o) Hc (b:=200017000) (v:=st_b.next+1+1) (by decide)
    have Rl:=iz (o:=o) Hc (b:=200001001) (v:=n0+1) (by decide)
    have hiM:=iz (o:=id) Jz (b:=200017000) (v:=st_b.next+1+1) (by decide)
    have hiT:=iz (o:=id) Jz (b:=200001001) (v:=n0+1) (by decide)
    have Px:∀k,(G k=o)=False:=fun k=>by simp only[eq_iff_iff,iff_false];intro h;have h1:=T4 k;rw[h,Hc]at h1;cases h1
    have Vj:∀k,(G k=id)=False:=fun k=>by simp only[eq_iff_iff,iff_false];intro h;have h1:=T4 k;rw[h,Jz]at h1;cases h1
    (try((repeat(revert hN;revert N;apply Pn.out));refine wk (tw @c81 (tw @cg0 (tw @cg1 (tw @zN (tw @LZ (tw @L1 (tw @oF (tw @ra (tw @nk (tw @JJ (tw @xU (tw @sR (tw @hrk (tw @hid (tw @rh (tw @uf (tw @gT (tw @hma (tw @e1 (tw @Rm (tw @Rh (tw @S3 (tw @Rl (tw @hiM (tw @hiT (tw @oS (tw @oT (tw @Bool.not_false @Bool.not_true)))))))))))))))))))))))))))) ?_;(repeat(refine Pn.mk ?_;intro N hN))))
    refine iM ?_ ?_ ?_ (by(try dsimp only);exact⟨ae,RP.frame fun k hk=>sd (tw @Pw (tw @Ps (tw @Pt (tw @Pu (tw @Pv (tw @Px @Vj))))))⟩) (.inr ⟨o,sd (tw @Uo @oF),by rw[Uj];exact Vs _ (x1+1+1) _ ae bW (sd @Nat.zero_add) (sd (tw @rh (tw @uf (tw @Rm @Rh)))) (fun j hj hv lr=>by
     have q1:=eX (i:=j) (n:=x1) ae
     have q2:=iz hj (b:=200017000) (v:=st_b.next+1+1) (by decide)
     have q3:(j=o)=False:=by simp only[eq_iff_iff,iff_false];intro h;rw[h,Hc]at hj;cases hj
     simp only[go_sem, ↓reduceIte,Nat.reduceEqDiff,Nat.reduceAdd,Nat.reduceSub,Nat.reduceLeDiff,reduceCtorEq,q1,q2,q3,lr])⟩)
    all_goals simp only[go_sem, ↓reduceIte,Nat.reduceEqDiff,Nat.reduceAdd,Nat.reduceSub,Nat.reduceLeDiff,reduceCtorEq,c81,cg0,cg1,zN,LZ,L1,wG,rh,uf,S3,Rl,hiM,hiT]
 have Wb:x=cnt:=ae
 rcases cI1 with⟨h0,_⟩|⟨o,oF,rows,ids,xU,hR,_,_,_,_⟩
 ·omega
 have sR:=hR.len
 rw[qW]at sR
 (try((repeat(revert hN;revert N;apply Pn.out));refine wk (tw @c81 (tw @cg0 (tw @cg1 (tw @zN (tw @LZ (tw @L1 (tw @hx (tw @oF @xU)))))))) ?_;(repeat(refine Pn.mk ?_;intro N hN))))
 refine xd (.inl rfl) (by simp only[go_sem, ↓reduceIte,Nat.reduceEqDiff,Nat.reduceAdd,Nat.reduceSub,Nat.reduceLeDiff,reduceCtorEq];rfl) ?_
 rw[nQ xU ae (rows':=(fI cnt L).map Bb) (by
  rw[List.drop_zero,List.take_of_length_le ae]
  rw[Wb]at hR;exact J3 3 hR)]
theorem K7 (b:PB) (t:Int):ak Tryz.prog 203 [.agg (ay b),.dq [.int .i64 t]] (.bool (decide (b.s<t))):=by
 refine ak.body eM rfl fun hl n0=>?_
 clear hl
 (try((repeat(revert hN;revert N;apply Pn.out));refine wk @ay.eq_1 ?_;(repeat(refine Pn.mk ?_;intro N hN))))
 exact aZ (b:=decide (b.s<t)) (.inl rfl) (sd @Nat.zero_add) rfl
theorem zb (bs:List PB) (t:Int) (hl:bs.length<=1048576):ak Tryz.prog 227 [.sl (bs.map ay),.fn 203 [.dq [.int .i64 t]]] (.int .i64 (jd (fun b:PB=>decide (b.s<t)) bs)):=
 ph Ja (show nf Tryz.prog 227=some (tq 227 3 true) by kernel_rfl) bs hl 203 _ _ (fun x _=>K7 x t) fun g=>by simp only[ai,ao,aV,Option.map_some]
theorem I2 (bs:List PB) (hp:0<bs.length) (hl:bs.length<=1048576) (σ:ax):
  Call Tryz.prog 202 [.sl (bs.map ay)] σ fun r σ'=>∃o:Id,r=.own o 0 bs.length/\σ'.get o=some ⟨true,3,bs.map ay⟩/\σ.next<=o.cC/\o.cC<σ'.next/\∀i:Id,i.cC<σ.next->σ'.get i=σ.get i:=by
 refine fj eM rfl fun hl=>?_
 clear hl
 have hz:=all_map (l:=bs) Le
 obtain⟨b,r,rfl⟩:∃b r,bs=b::r:=by
  cases bs with
  |nil=>simp at hp
  |cons b r=>exact⟨b,r,rfl⟩
 have kf:(List.map ay (b::r)).length=(b::r).length:=by simp
 have e1:r.length<=16777215:=by simp at hl;omega
 rw[List.map_cons]at hz kf ⊢
 (try((repeat(revert hN;revert N;apply Pn.out));refine wk (tw @hz (tw @kf @e1)) ?_;(repeat(refine Pn.mk ?_;intro N hN))))
 refine gJ (.inl rfl) (vs:=[.own ⟨202003002,σ.next+1+1⟩ 0 (b::r).length]) (by simp only[fo,gS,go_sem, ↓reduceIte,Nat.reduceEqDiff,Nat.reduceAdd,Nat.reduceSub,Nat.reduceLeDiff,reduceCtorEq,List.length_cons]) ⟨⟨202003002,σ.next+1+1⟩,rfl,sd @Nat.zero_add,bW,bW,fun i hi=>?_⟩
 have hv:=eX hi
 simp only[go_sem, ↓reduceIte,Nat.reduceEqDiff,Nat.reduceAdd,Nat.reduceSub,Nat.reduceLeDiff,reduceCtorEq,hv]
theorem pE {t:Int} {bs:List PB} {j:Nat} (hj:j<bs.length):aQ t (bs.take (j+1))=aQ t (bs.take j)++if decide (bs[j].s<t)=true then[]else[bs[j]]:=by
 rw[ur t bs j hj]
 congr 1
 by_cases h:bs[j].s<t
 ·rw[if_neg ae,if_pos (decide_eq_true h)]
 ·rw[if_pos ae,if_neg (by simp only[decide_eq_true_eq];exact h)]
theorem uq {t:Int} {bs:List PB} (h:∀b∈bs,¬b.s<t):aQ t bs=bs:=by
 unfold aQ
 rw[List.filter_eq_self]
 intro b hb
 have:=h b hb
 exact decide_eq_true ae
structure uz (t:Int) (bs:List PB) (j:Nat) (R:List PB):Prop where
 len:R.length=bs.length
 pre:R.take (aQ t (bs.take j)).length=aQ t (bs.take j)
 post:∀x,j<=x->R[x]? =bs[x]?
 lt:(aQ t (bs.take j)).length<j
theorem uz.start {t:Int} {bs:List PB} {i:Nat} (hi:i<bs.length) (hw:bs[i].s<t) (hp:∀x (h:x<i),¬bs[x].s<t):uz t bs (i+1) bs/\(aQ t (bs.take (i+1))).length=i:=by
 have h1:aQ t (bs.take i)=bs.take i:=uq fun b hb=>by
  obtain⟨x,hx,rfl⟩:=List.getElem_of_mem hb
  rw[List.length_take]at hx
  rw[List.getElem_take]
  exact hp x ae
 have h2:aQ t (bs.take (i+1))=bs.take i:=by rw[pE hi,if_pos (decide_eq_true hw),List.append_nil,h1]
 have h3:(bs.take i).length=i:=by rw[List.length_take];omega
 exact⟨⟨rfl,by rw[h2,h3],fun _ _=>rfl,by rw[h2,h3];omega⟩,by rw[h2,h3]⟩
theorem uz.QG {t:Int} {bs R:List PB} {j:Nat} (h:uz t bs j R) (hj:j<bs.length) (hw:bs[j].s<t):uz t bs (j+1) R/\(aQ t (bs.take (j+1))).length=(aQ t (bs.take j)).length:=by
 have h2:aQ t (bs.take (j+1))=aQ t (bs.take j):=by rw[pE hj,if_pos (decide_eq_true hw),List.append_nil]
 exact⟨⟨h.len,by rw[h2];exact h.pre,fun x hx=>h.post x ae,by rw[h2];have:=h.lt;omega⟩,by rw[h2]⟩
theorem uz.tx {t:Int} {bs R:List PB} {j:Nat} (h:uz t bs j R) (hj:j<bs.length) (hw:¬bs[j].s<t):uz t bs (j+1) (R.set (aQ t (bs.take j)).length bs[j])/\(aQ t (bs.take (j+1))).length=(aQ t (bs.take j)).length+1:=by
 have h2:aQ t (bs.take (j+1))=aQ t (bs.take j)++[bs[j]]:=by rw[pE hj,if_neg (by simp only[decide_eq_true_eq];exact hw)]
 have dO:=h.lt
 have hlen:=h.len
 have qn:=h.pre
 generalize hc:(aQ t (bs.take j)).length=c at *
 refine⟨⟨by rw[List.length_set];exact hlen,?_,fun x hx=>?_,by rw[h2,List.length_append,hc];simp;omega⟩,by rw[h2,List.length_append,hc];rfl⟩
 ·rw[h2,List.length_append,hc,List.length_singleton,List.take_succ_eq_append_getElem (by rw[List.length_set];omega),List.getElem_set_self,List.take_set_of_le (Nat.le_refl _),qn]
 ·rw[List.getElem?_set_ne ae];exact h.post x ae
theorem uz.at_ {t:Int} {bs R:List PB} {j:Nat} (h:uz t bs j R) (hj:j<bs.length):(R.map ay)[j]? =some (ay bs[j]):=by
 rw[List.getElem?_map,h.post j (Nat.le_refl j),List.getElem?_eq_getElem hj];rfl
theorem D6 {p:PB->Bool} {bs:List PB} (h:¬0<=jd p bs):∀b∈bs,p b=false:=by
 intro b hb
 unfold jd at h
 split at h
 ·omega
 ·rename_i h1
  rw[List.findIdx_lt_length]at h1
  cases hp:p b
  ·rfl
  ·exact absurd ⟨b,hb,hp⟩ h1
theorem D7 {p:PB->Bool} {bs:List PB} (h:0<=jd p bs):∃i,∃hi:i<bs.length,jd p bs=(i:Int)/\p bs[i]=true/\∀x (hx:x<i),p (bs[x]'ae)=false:=by
 unfold jd at h ⊢
 split
 ·rename_i h1
  exact⟨bs.findIdx p,h1,rfl,List.findIdx_getElem,fun x hx=>by simpa using List.not_of_lt_findIdx hx⟩
 ·rename_i h1;rw[if_neg h1]at h;omega
theorem GP (bs:List PB) (t:Int) (hl:bs.length<=1048576) (o T:Id) (σ:ax) (ho:σ.get o=some ⟨true,3,bs.map ay⟩) (hT:σ.get T=some ⟨true,1,[[.int .i64 t]]⟩) (r9:o.cC<σ.next) (hTv:T.cC<σ.next) (Rl:o≠T):
  Call Tryz.prog 201 [.own o 0 bs.length,.fn 203 [.ptr T 0 0]] σ fun r σ'=>∃rows,r=.own o 0 (aQ t bs).length/\σ'.get o=some ⟨true,3,rows⟩/\rows.take (aQ t bs).length=(aQ t bs).map ay/\(aQ t bs).length<=rows.length/\σ.next<=σ'.next/\∀i:Id,i.cC<σ.next->i≠o->σ'.get i=σ.get i:=by
 refine fj eM rfl fun wz=>?_
 clear wz
 have Bf:=zb bs t hl
 have hzT:∀(g:Rows),g T=some ⟨true,1,[[.int .i64 t]]⟩->V.fz (dM g) 5 (.ptr T 0 0)=some (.dq [.int .i64 t]):=fun g hg=>tb (sz:=1) (rows:=[[.int .i64 t]]) (by simp[dM,hg]) rfl (by simp only[List.drop_zero,ai,ao,aD,Option.map_some])
 have sS:∀(g:Rows),g T=some ⟨true,1,[[.int .i64 t]]⟩->g o=some ⟨true,3,bs.map ay⟩->cQ (dM g) 6 [.own o 0 bs.length,.fn 203 [.ptr T 0 0]]=some [.sl (bs.map ay),.fn 203 [.dq [.int .i64 t]]]:=fun g h1 h2=>by
  have q1:=gH (g:=dM g) (n:=5) (e:=ay) (sz:=3) (len:=bs.length) (l:=bs) (id:=o) (by simp[dM,h2]) rfl fun b=>wb _ 4 b
  have q2:=hzT g h1
  simp only[ai,ao,q1,cL,List.all_cons,List.all_nil,AV.cell,Bool.and_true,if_true,q2,Option.map_some]
 have k7:∀(g:Rows),g T=some ⟨true,1,[[.int .i64 t]]⟩->∀b:PB,cQ (dM g) 6 [.agg (ay b),.ptr T 0 0]=some [.agg (ay b),.dq [.int .i64 t]]:=fun g h1 b=>by
  have q3:V.fz (dM g) 6 (.ptr T 0 0)=some (.dq [.int .i64 t]):=tb (sz:=1) (rows:=[[.int .i64 t]]) (by simp[dM,h1]) rfl (by simp only[List.drop_zero,ai,ao,aD,Option.map_some])
  simp only[ai,ao,bj,wb,q3,Option.map_some]
 (try((repeat(revert hN;revert N;apply Pn.out));refine wk @Nat.zero_add ?_;(repeat(refine Pn.mk ?_;intro N hN))))
 refine .inl ⟨_,ak.x Bf (sS _ hT ho),?_⟩
 refine hN _ _ ?_
 clear hN N
 by_cases h0:0<=jd (fun b:PB=>decide (b.s<t)) bs
 ·obtain⟨i,hi,Io,Uv,Lw⟩:=D7 h0
  rw[Io]at *
  have G9:decide ((i:Int)= -1)=false:=decide_eq_false ae
  have Ol:IntKind.i64.wrap ((i:Int)+1)=((i+1:Nat):Int):=aB ae
  obtain⟨dR,nR⟩:=uz.start (t:=t) hi (by simpa using Uv) (fun x hx=>by simpa using Lw x hx)
  (try((repeat(revert hN;revert N;apply Pn.out));refine wk (tw @G9 @Ol) ?_;(repeat(refine Pn.mk ?_;intro N hN))))
  refine aT (fun m env st=>∃(j:Nat) (R:List PB),m=bs.length-j/\env 6=.int .i64 (j:Int)/\env 5=.int .i64 ((aQ t (bs.take j)).length:Int)/\st.get o=some ⟨true,3,R.map ay⟩/\uz t bs j R/\j<=bs.length/\σ.next<=st.next/\∀x:Id,x.cC<σ.next->(x=o)=False->st.get x=σ.get x) (bs.length-(i+1)) ⟨i+1,bs,rfl,sd @Ol,sd @nR,sd @ho,dR,ae,bW,fun x _ _=>sd @Nat.zero_add⟩ ?_
  rintro m env_b st_b ⟨j,R,rfl,b6,b5,bg,hD,gW,hle,kR⟩ bfr
  have b0:=bfr 0 (by kernel_rfl)
  have b1:=bfr 1 (by kernel_rfl)
  simp only[go_sem, ↓reduceIte,Nat.reduceEqDiff,Nat.reduceAdd,Nat.reduceSub,Nat.reduceLeDiff,reduceCtorEq]at b0 b1
  clear bfr
  have bT:=(kR T hTv (by simp only[eq_iff_iff,iff_false];exact fun h=>Rl h.symm)).trans hT
  have lZ:=eX (i:=o) (n:=st_b.next) ae
  have V9:=eX (i:=T) (n:=st_b.next) ae
  have T9:=hD.len
  have Py:(R.map ay).length=bs.length:=by rw[List.length_map,T9]
  have dO:=hD.lt
  by_cases hj:(j:Int)<(bs.length:Int)
  ·have jI:j<bs.length:=ae
   have FX:=hD.at_ jI
   have MG:=K7 bs[j] t
   have MF:IntKind.i64.wrap ((j:Int)+1)=((j+1:Nat):Int):=aB ae
   have Sg:=hD.QG jI
   have Sh:=hD.tx jI
   generalize bs[j]=b at *
   (try((repeat(revert hN;revert N;apply Pn.out));refine wk (tw @b0 (tw @b1 (tw @b5 (tw @b6 (tw @bg (tw @hj (tw @FX (tw @ay.eq_1 (tw @lZ (tw @V9 @Py)))))))))) ?_;(repeat(refine Pn.mk ?_;intro N hN))))
   refine .inl ⟨_,ak.x MG (k7 _ (sd (tw @V9 @bT)) b),?_⟩
   refine hN _ _ ?_
   clear hN N
   by_cases hw:b.s<t
   ·obtain⟨Pq,Dn⟩:=Sg hw
    have hd:decide (b.s<t)=true:=decide_eq_true hw
    (try((repeat(revert hN;revert N;apply Pn.out));refine wk (tw @b0 (tw @b1 (tw @b5 (tw @b6 (tw @hd @MF))))) ?_;(repeat(refine Pn.mk ?_;intro N hN))))
    refine⟨_,?_,j+1,R,rfl,sd @MF,sd (tw @b5 @Dn),sd (tw @bg @lZ),Pq,ae,bW,fun x hx tp=>?_⟩
    ·omega
    ·have LC:=eX (i:=x) (n:=st_b.next) ae
     have:=kR x hx tp
     simp only[go_sem, ↓reduceIte,Nat.reduceEqDiff,Nat.reduceAdd,Nat.reduceSub,Nat.reduceLeDiff,reduceCtorEq,LC,this]
   ·obtain⟨Pq,Dn⟩:=Sh hw
    have hd:decide (b.s<t)=false:=decide_eq_false hw
    have PA:((aQ t (bs.take j)).length:Int)<(bs.length:Int):=ae
    have Tb:IntKind.i64.wrap (((aQ t (bs.take j)).length:Int)+1)=(((aQ t (bs.take j)).length+1:Nat):Int):=aB ae
    have ei:(R.map ay).set (aQ t (bs.take j)).length [.int .i64 (b.a:Int),.int .i64 (b.b:Int),.int .i64 b.s]=(R.set (aQ t (bs.take j)).length b).map ay:=by rw[List.map_set];rfl
    have Mt:∃y,(R.map ay)[(aQ t (bs.take j)).length]? =some (ay y):=⟨R[(aQ t (bs.take j)).length]'ae,by rw[List.getElem?_map,List.getElem?_eq_getElem ae];rfl⟩
    obtain⟨y,Mt⟩:=Mt
    rw[ay]at Mt
    (try((repeat(revert hN;revert N;apply Pn.out));refine wk (tw @b0 (tw @b1 (tw @b5 (tw @b6 (tw @bg (tw @hd (tw @MF (tw @Tb (tw @PA (tw @ei (tw @Mt (tw @lZ (tw @V9 @Py))))))))))))) ?_;(repeat(refine Pn.mk ?_;intro N hN))))
    refine⟨_,?_,j+1,_,rfl,sd @MF,sd (tw @Tb @Dn),sd @ei,Pq,ae,bW,fun x hx tp=>?_⟩
    ·omega
    ·have LC:=eX (i:=x) (n:=st_b.next) ae
     have:=kR x hx tp
     simp only[go_sem, ↓reduceIte,Nat.reduceEqDiff,Nat.reduceAdd,Nat.reduceSub,Nat.reduceLeDiff,reduceCtorEq,LC,this,tp]
  ·have gW:j=bs.length:=ae
   subst gW
   have qn:=hD.pre
   rw[List.take_length]at b5 dO qn
   have PA:((aQ t bs).length:Int)<=(bs.length:Int):=ae
   have Re:(aQ t bs).length<=bs.length:=ae
   have pg:(aQ t bs).length+(bs.length-(aQ t bs).length)=bs.length:=ae
   have nR:=nY t bs
   (try((repeat(revert hN;revert N;apply Pn.out));refine wk (tw @b0 (tw @b1 (tw @b5 (tw @b6 (tw @bg (tw @hj (tw @Py (tw @PA (tw @Re (tw @pg (tw @Nat.le_refl (tw @Nat.sub_zero (tw @Int.le_refl @lZ))))))))))))) ?_;(repeat(refine Pn.mk ?_;intro N hN))))
   refine gJ (.inl rfl) (vs:=[.own o 0 (aQ t bs).length]) (sd @Nat.zero_add) ⟨_,rfl,by simp only[go_sem, ↓reduceIte,Nat.reduceEqDiff,Nat.reduceAdd,Nat.reduceSub,Nat.reduceLeDiff,reduceCtorEq];rfl,?_,?_,bW,fun x hx tp=>?_⟩
   ·have hm:List.take (aQ t bs).length (List.map ay R)=(aQ t bs).map ay:=by rw[<-List.map_take,qn]
    rw[hm,List.append_assoc,List.take_append_of_le_length (by simp),List.take_of_length_le (by simp)]
   ·have hm:List.take (aQ t bs).length (List.map ay R)=(aQ t bs).map ay:=by rw[<-List.map_take,qn]
    rw[hm]
    simp only[List.length_append,List.length_map]
    omega
   ·have JR:(x=o)=False:=by simp only[eq_iff_iff,iff_false];exact tp
    have:=kR x hx JR
    simp only[go_sem, ↓reduceIte,Nat.reduceEqDiff,Nat.reduceAdd,Nat.reduceSub,Nat.reduceLeDiff,reduceCtorEq,JR,this]
 ·have hn:=D6 h0
  have dR:=uq (t:=t) (bs:=bs) fun b hb=>by simpa using hn b hb
  have hd:decide (jd (fun b:PB=>decide (b.s<t)) bs= -1)=true:=decide_eq_true (by
   unfold jd at h0 ⊢
   split
   ·rename_i h;rw[if_pos h]at h0;omega
   ·rfl)
  (try((repeat(revert hN;revert N;apply Pn.out));refine wk @hd ?_;(repeat(refine Pn.mk ?_;intro N hN))))
  refine gJ (.inl rfl) (vs:=[.own o 0 bs.length]) (sd @Nat.zero_add) ⟨bs.map ay,by rw[dR];rfl,sd @ho,by rw[dR,List.take_of_length_le (by simp)],by rw[dR];simp,bW,fun x _ _=>rfl⟩
end Go.Proofs.YtkbipfflibjfbaaGreat.V

namespace Go.Proofs.YtkbipfflibjfbaaGreat.V
open Go.RowKit Go.Shelf Go.Lib Go.Sort
instance:Inhabited aq:=⟨⟨0,0⟩⟩
variable {P:Program} {w:World} {D:Nat->Prop} {ι:Names}
theorem w6 {vs:Array Value} (h:fc P w D ι [] vs):vs= #[]:=Array.eq_empty_of_size_eq_zero h.1
theorem lu {a:AV} {r:List AV} {vs:Array Value} (h:fc P w D ι (a::r) vs):∃u us,vs=(u::us).toArray/\cN P w D ι a u/\fc P w D ι r us.toArray:=by
 obtain⟨h1,h2⟩:=h
 obtain⟨l⟩:=vs
 cases l with
 |nil=>simp at h1
 |cons u us=>
  obtain⟨u',hu,hr⟩:=h2 0 a rfl
  simp at hu;subst hu
  exact⟨u,us,rfl,hr,by simpa using h1,fun j b hj=>by
   obtain⟨v,hv,me⟩:=h2 (j+1) b (by simpa using hj)
   exact⟨v,by simpa using hv,me⟩⟩
def NO:Prop:=∀(yD off cap:Nat) (d:Array aq) (w:World),HoldsK fW 2 w yD off d->yD<w.heap.size->d.size<4611686018427387904->
 Calls Tryz.prog 176 #[.slice (some ⟨yD,off,none⟩) d.size cap,.func (.func 155) #[] #[]] w fun e w'=>e=.returned (.tuple #[])/\∃d' n os,PermIn 0 d.size d d'/\SortedIn (ltOf qi) 0 d.size d'/\w'=sortWorldK fW 2 w yD off n d' os
def NP:Prop:=∀(p:Option Addr) (cap:Nat) (fv:Value) (w:World),Calls Tryz.prog 176 #[.slice p 0 cap,fv] w fun e w'=>e=.returned (.tuple #[])/\w'=w
theorem Md (p:aq) (j:Nat) (a:AV) (h:(aa p)[j]? =some a) (P:Program) (w:World) (D:Nat->Prop) (ι:Names):cN P w D ι a (fW p)[j]! :=by
 match j,h with
 |0,h=>simp[aa]at h;subst h;exact .eO _ _ (.int _ _)
 |1,h=>simp[aa]at h;subst h;exact .eO _ _ (.int _ _)
 |j+2,h=>simp[aa]at h
theorem HR (hC:NO) (hN:NP) (ps:List aq) (hlen:ps.length<=1048576) (σ:ax) (id:Id) (hg:σ.get id=some ⟨true,2,ps.map aa⟩):
  Call Tryz.prog 176 [.own id 0 ps.length,.fn 155 []] σ fun r σ'=>σ'.next=σ.next/\(∀x,x≠id->σ'.get x=σ.get x)/\∃qs,σ'.get id=some ⟨true,2,qs.map aa⟩/\qs.length=ps.length/\(∀x,x∈qs↔x∈ps)/\∀i j:Nat,i<j->j<qs.length->k8 (iu qs j) (iu qs i)=false:=by
 refine gF fun hs D ι w vs S U A=>?_
 obtain⟨u1,us1,rfl,h1,h2⟩:=lu A
 obtain⟨u2,us2,h3,h4,h5⟩:=lu h2
 simp at h3;subst h3
 have:=w6 h5
 simp at this;subst this
 obtain⟨o,cap,B,rfl,hB,Em,ho,Cc,hmax,hk⟩:=jx h1
 obtain⟨TD,gf,rfl,_,hz,_,_⟩:=w7 h4
 have We:TD= #[]:=Array.eq_empty_of_size_eq_zero (by simpa using hz)
 subst We
 by_cases h0:ps=[]
 ·subst h0
  refine(hN _ _ _ w).mono ?_
  rintro e w' ⟨rfl,rfl⟩
  exact⟨.iJ [],σ.get,σ.next,D,ι,_,rfl,⟨rfl,fun _ _=>rfl,[],hg,rfl,fun x=>Iff.rfl,fun i j _ hj=>by simp at hj⟩,Step.refl _ _ _ _,S,U,Nat.le_refl _,.iJ [] #[] (fun _=>Go.undef) rfl (fun j hj=>by simp at hj) (fun j a h=>by simp at h)⟩
 have je:0<ps.length:=List.length_pos_iff.2 h0
 obtain⟨B',dG,R,kJ,kZ⟩:=S.row id _ hg
 rw[hB]at dG;injection dG with dG;subst dG
 replace R:=R.row hk
 have fy:B.sz=2:=R.sz
 have Ds:o=0:=by rcases ho with h|h<;>omega
 subst Ds
 obtain⟨cur,T,hblk,dy,Lm⟩:=R.cur
 have Cd:ps.length*2<=B.C:=by simpa using R.fits
 have hH:HoldsK fW 2 w B.b 0 ps.toArray:=by
  intro t ht
  rw[size_flatK]at ht
  have ht2:t<ps.length*2:=by simpa using ht
  have hi:t / 2<ps.length:=ae
  have Dq:w.frozen? ⟨B.b,0+t,none⟩=false:=by
   simp only[World.frozen?,hblk];simp
  refine⟨?_,Dq⟩
  rw[get_flatK _ _ _ _ ht]
  have hd:(ps.toArray)[t / 2]! =ps[t / 2]:=by simp[getElem!_pos,hi]
  rw[hd]
  have hj:t % 2=0∨t % 2=1:=ae
  have ht3:0+t=(t / 2)*2+t % 2:=ae
  rw[ht3]
  rcases hj with hj|hj
  ·obtain⟨v,hv,hr⟩:=R.at_ (t / 2) 0 (aa ps[t / 2]) _ (by simp[hi]) rfl
   rw[dn hr]at hv
   rw[hj];exact hv
  ·obtain⟨v,hv,hr⟩:=R.at_ (t / 2) 1 (aa ps[t / 2]) _ (by simp[hi]) rfl
   rw[dn hr]at hv
   rw[hj];exact hv
 have ke:B.b<w.heap.size:=(Array.getElem?_eq_some_iff.1 hblk).1
 have SA:=hC B.b 0 cap ps.toArray w hH ke (by simp;omega)
 rw[show ps.toArray.size=ps.length from by simp]at SA
 refine SA.mono ?_
 rintro e w' ⟨rfl,d',m,os,⟨Lx,_,hperm⟩,hsort,rfl⟩
 have SD:d'.size=ps.length:=by rw[Lx];simp
 have hql:d'.toList.length=ps.length:=by simpa using SD
 have hP:d'.toList.Perm ps:=by
  have e1:d'.extract 0 ps.length=d':=by rw[<-SD];exact Array.extract_size
  have e2:ps.toArray.extract 0 ps.length=ps.toArray:=by
   have:ps.length=ps.toArray.size:=by simp
   rw[this];exact Array.extract_size
  rw[e1,e2]at hperm
  simpa using hperm
 have hF:∀t,t<ps.length*2->(flatK fW 2 d')[t]! =(fW d'[t / 2]!)[t % 2]! :=fun t ht=>get_flatK _ _ _ _ (by rw[SD];exact ht)
 have hFs:(flatK fW 2 d').size=ps.length*2:=by rw[size_flatK,SD]
 have hw:sortWorldK fW 2 w B.b 0 m d' os=Go.Sort.grow (Go.Sort.putRow (fun v:Value=>v) (Go.Sort.ahead w m) B.b 0 (flatK fW 2 d')) os:=rfl
 rw[hw]
 clear hw hH
 generalize flatK fW 2 d'=Fl at hF hFs ⊢
 have wD:=S.put (r':=⟨true,2,d'.toList.map aa⟩) (cur':=Go.Sort.putCells (fun v:Value=>v) 0 Fl cur) hg rfl hB hblk (by simp[Go.Sort.putCells]) rfl rfl (by simpa[SD]using Cd) (fun cs dy=>by
   obtain⟨x,_,rfl⟩:=List.mem_map.1 dy;rfl) (fun cs dy a ha=>by
   obtain⟨x,_,rfl⟩:=List.mem_map.1 dy
   simp[aa]at ha;rcases ha with rfl|rfl<;>rfl) (fun i j cs a hi hj=>by
   have yZ:i<d'.toList.length:=by
    have:=(List.getElem?_eq_some_iff.1 hi).1
    simpa using this
   have VH:j<2:=by
    have:=List.mem_of_getElem? hi
    obtain⟨x,_,rfl⟩:=List.mem_map.1 this
    exact(List.getElem?_eq_some_iff.1 hj).1
   have Vu:cs=aa d'[i]! :=by
    rw[List.getElem?_map,List.getElem?_eq_getElem yZ]at hi
    simp at hi
    rw[<-hi,getElem!_pos d' i (by simpa using yZ)]
   subst Vu
   have Oh:i*2+j<ps.length*2:=ae
   refine⟨(fW d'[i]!)[j]!,?_,Md _ _ _ hj _ _ _ _⟩
   have mc:i*2+j<cur.size:=by rw[dy];omega
   show(Go.Sort.putCells (fun v:Value=>v) 0 Fl cur)[i*2+j]? = _
   simp only[Go.Sort.putCells,Array.getElem?_mapIdx,Array.getElem?_eq_getElem mc,Option.map_some]
   rw[if_pos ⟨Nat.zero_le _,by rw[hFs];omega⟩,Nat.sub_zero,hF _ Oh,show(i*2+j) / 2=i from by omega,show(i*2+j) % 2=j from by omega])
 obtain⟨S1,Gx⟩:=wD
 have S8:(Go.Sort.putRow (fun v:Value=>v) (Go.Sort.ahead w m) B.b 0 Fl).heap.size=w.heap.size:=by simp
 have N8:∀k,k<(w.setRow B.b (Go.Sort.putCells (fun v:Value=>v) 0 Fl cur)).heap.size->(Go.Sort.grow (Go.Sort.putRow (fun v:Value=>v) (Go.Sort.ahead w m) B.b 0 Fl) os).heap[k]? =(w.setRow B.b (Go.Sort.putCells (fun v:Value=>v) 0 Fl cur)).heap[k]? :=fun k hk=>by
  have JB:k<w.heap.size:=by simpa using hk
  rw[heap_grow_old _ _ (by rw[S8];exact JB)]
  simp only[Go.Sort.putRow,Go.Sort.mapBlock,heap_ahead,Array.getElem?_modify]
  by_cases VL:B.b=k
  ·subst VL
   rw[setRow_heap w B.b cur _ T _ hblk,if_pos rfl,hblk];rfl
  ·rw[if_neg VL,setRow_other w B.b k _ (fun h=>VL h.symm)]
 have k7:(w.setRow B.b (Go.Sort.putCells (fun v:Value=>v) 0 Fl cur)).heap.size<=(Go.Sort.grow (Go.Sort.putRow (fun v:Value=>v) (Go.Sort.ahead w m) B.b 0 Fl) os).heap.size:=by
  rw[size_grow,S8];simp
 have S2:=S1.stay (D':=D) (ι':=ι) N8 k7 (fun _ h=>h) (fun b hb=>Nat.lt_of_lt_of_le (S1.dead b hb) k7) (fun _ h=>.inl h) (fun _ _ h=>h)
 have OG:=Gx.trans (Step.stay (D':=D) (ι':=ι) S1 N8 k7 (by simp[Go.Sort.grow,Go.Sort.putRow,Go.Sort.mapBlock,Go.Sort.ahead]) (by simp[Go.Sort.grow,Go.Sort.putRow,Go.Sort.mapBlock,Go.Sort.ahead]) (by simp[Go.Sort.grow,Go.Sort.putRow,Go.Sort.mapBlock,Go.Sort.ahead]) (fun _ h=>h) (fun _ h=>.inl h) (fun _ _ h=>h))
 refine⟨.iJ [],bU σ.get id ⟨true,2,d'.toList.map aa⟩,σ.next,D,ι,_,rfl,⟨rfl,fun x hx=>by simp[bU,hx],d'.toList,by simp[bU],hql,fun x=>hP.mem_iff,fun i j y4 hj=>?_⟩,OG,S2,U,Nat.le_refl _,.iJ [] #[] (fun _=>Go.undef) rfl (fun j hj=>by simp at hj) (fun j a h=>by simp at h)⟩
 have h:=hsort i j (Nat.zero_le _) y4 ae
 rw[ltOf,nM]at h
 have e1:d'[j]! =iu d'.toList j:=by rw[jC hj,getElem!_pos d' j (by simpa using hj)];rfl
 have hi:i<d'.toList.length:=ae
 have e2:d'[i]! =iu d'.toList i:=by rw[jC hi,getElem!_pos d' i (by simpa using hi)];rfl
 rw[<-e1,<-e2];exact h
end Go.Proofs.YtkbipfflibjfbaaGreat.V

namespace Go.Proofs
open Go.Shelf
def Tryz.Fc:Go.Shelf.Ren:=⟨fun|6=>176|15=>193|14=>192|28=>214|29=>215|20=>206|21=>207|22=>208|23=>209|24=>210|25=>211|26=>212|27=>213|46=>229|47=>230|48=>231|49=>232|50=>233|57=>240|n=>n,fun|22=>111|24=>74|25=>227|3=>3|39=>226|0=>0|53=>283|55=>285|4=>4|46=>277|45=>276|50=>187|5=>5|9=>9|66=>302|70=>306|76=>314|77=>130|n=>n,fun|n=>n⟩
theorem Tryz.KE:Go.Proofs.SlLaysF0.n6 Tryz.prog Tryz.Fc:={
 mixed:=by kernel_rfl
 f6:=⟨Tryz.f176.name,by decide,Tryz.func176.trans (congrArg some (by kernel_rfl))⟩
 f14:=⟨Tryz.f192.name,by decide,Tryz.func192.trans (congrArg some (by kernel_rfl))⟩
 f15:=Tryz.func193.trans (congrArg some (by kernel_rfl))
 f20:=⟨Tryz.f206.name,by decide,Tryz.func206.trans (congrArg some (by kernel_rfl))⟩
 f21:=⟨Tryz.f207.name,by decide,Tryz.func207.trans (congrArg some (by kernel_rfl))⟩
 f22:=⟨Tryz.f208.name,by decide,Tryz.func208.trans (congrArg some (by kernel_rfl))⟩
 f23:=⟨Tryz.f209.name,by decide,Tryz.func209.trans (congrArg some (by kernel_rfl))⟩
 f24:=⟨Tryz.f210.name,by decide,Tryz.func210.trans (congrArg some (by kernel_rfl))⟩
 f25:=⟨Tryz.f211.name,by decide,Tryz.func211.trans (congrArg some (by kernel_rfl))⟩
 f26:=⟨Tryz.f212.name,by decide,Tryz.func212.trans (congrArg some (by kernel_rfl))⟩
 f27:=⟨Tryz.f213.name,by decide,Tryz.func213.trans (congrArg some (by kernel_rfl))⟩
 f28:=Tryz.func214.trans (congrArg some (by kernel_rfl))
 f29:=Tryz.func215.trans (congrArg some (by kernel_rfl))
 f46:=⟨Tryz.f229.name,by decide,Tryz.func229.trans (congrArg some (by kernel_rfl))⟩
 f47:=Tryz.func230.trans (congrArg some (by kernel_rfl))
 f48:=Tryz.func231.trans (congrArg some (by kernel_rfl))
 f49:=⟨Tryz.f232.name,by decide,Tryz.func232.trans (congrArg some (by kernel_rfl))⟩
 f50:=⟨Tryz.f233.name,by decide,Tryz.func233.trans (congrArg some (by kernel_rfl))⟩
 f57:=⟨Tryz.f240.name,by decide,Tryz.func240.trans (congrArg some (by kernel_rfl))⟩
 t0:=Tryz.underlying0
 a0:=Tryz.isAgg0
 z0:=Tryz.sizeOf0
 v0:=Tryz.zeroValue0
 t3:=Tryz.underlying3
 a3:=Tryz.isAgg3
 z3:=Tryz.sizeOf3
 v3:=Tryz.zeroValue3
 t4:=Tryz.underlying4
 a4:=Tryz.isAgg4
 z4:=Tryz.sizeOf4
 v4:=Tryz.zeroValue4
 t5:=Tryz.underlying5
 a5:=Tryz.isAgg5
 z5:=Tryz.sizeOf5
 v5:=Tryz.zeroValue5
 t9:=Tryz.underlying9
 a9:=Tryz.isAgg9
 z9:=Tryz.sizeOf9
 v9:=Tryz.zeroValue9
 t22:=Tryz.underlying111
 a22:=Tryz.isAgg111
 z22:=Tryz.sizeOf111
 v22:=Tryz.zeroValue111
 t25:=Tryz.underlying227
 a25:=Tryz.isAgg227
 z25:=Tryz.sizeOf227
 v25:=Tryz.zeroValue227
 t39:=Tryz.underlying226
 a39:=Tryz.isAgg226
 z39:=Tryz.sizeOf226
 v39:=Tryz.zeroValue226
 t45:=Tryz.underlying276
 a45:=Tryz.isAgg276
 z45:=Tryz.sizeOf276
 v45:=Tryz.zeroValue276
 t46:=Tryz.underlying277
 a46:=Tryz.isAgg277
 z46:=Tryz.sizeOf277
 v46:=Tryz.zeroValue277
 t50:=Tryz.underlying187
 a50:=Tryz.isAgg187
 z50:=Tryz.sizeOf187
 v50:=Tryz.zeroValue187
 t53:=Tryz.underlying283
 a53:=Tryz.isAgg283
 z53:=Tryz.sizeOf283
 v53:=Tryz.zeroValue283
 t55:=Tryz.underlying285
 a55:=Tryz.isAgg285
 z55:=Tryz.sizeOf285
 v55:=Tryz.zeroValue285
 t66:=Tryz.underlying302
 a66:=Tryz.isAgg302
 z66:=Tryz.sizeOf302
 v66:=Tryz.zeroValue302
 t70:=Tryz.underlying306
 a70:=Tryz.isAgg306
 z70:=Tryz.sizeOf306
 v70:=Tryz.zeroValue306
 t76:=Tryz.underlying314
 a76:=Tryz.isAgg314
 z76:=Tryz.sizeOf314
 v76:=Tryz.zeroValue314
 t77:=Tryz.underlying130
 a77:=Tryz.isAgg130
 z77:=Tryz.sizeOf130
 v77:=Tryz.zeroValue130}
end Go.Proofs

namespace Go.Proofs.YtkbipfflibjfbaaGreat.V
open Go.RowKit Go.Shelf Go.Lib Go.Sort
theorem BP (w:World) (a b:Int):Calls Tryz.prog 179 #[.int .i64 a,.int .i64 b] w fun e w'=>e=.returned (.int .i64 (rV a b))/\w=w':=by
 go_enter Tryz.func179,Tryz.ntmps179
 go_wp2_with go_in
 all_goals
  go_ret
  exact⟨C1 (by unfold rV;split<;>(try split)<;>omega),rfl⟩
theorem M8 (w:World) (a b:Int) (g:Nat) (ha:w.cell? ⟨g,0,none⟩=some (.int .i64 a)) (hb:w.cell? ⟨g,1,none⟩=some (.int .i64 b)):Calls Tryz.prog 178 #[.slice (some ⟨g,0,none⟩) 2 2] w fun e w'=>e=.returned (.int .i64 (M9 a b))/\w=w':=by
 go_enter Tryz.func178,Tryz.ntmps178
 go_wp2_with fail
 go_loop [8] (fun i=>∃k:Nat,k<=2/\i=.int .i64 k/\Hid ((1<=k->a=0)/\(2<=k->b=0))) (fun i=>2-(intOf i).toNat)
 case atStart=>exact⟨0,ae,rfl,Lib.hid ⟨fun h=>ae,fun h=>ae⟩⟩
 case round=>
  obtain⟨k,hk,rfl,hz⟩:=hrel
  have h3:k=0∨k=1∨k=2:=ae
  rcases h3 with rfl|rfl|rfl
  ·go_wp2_with fail
   ·rename_i h
    go_ret
    exact⟨C1 (by unfold M9;simp_all),rfl⟩
   ·rename_i h
    go_round
    case rel=>exact⟨1,ae,rfl,Lib.hid ⟨fun _=>by simpa using h,fun h=>ae⟩⟩
    case measure=>simp[intOf]
  ·have h0:=hz.out.1 ae
   replace h0:=Lib.hid h0
   go_wp2_with fail
   ·go_ret
    exact⟨C1 (by unfold M9;rw[if_pos h0.out]),rfl⟩
   ·rename_i h
    go_round
    case rel=>exact⟨2,ae,rfl,Lib.hid ⟨fun _=>h0.out,fun _=>by simpa using h⟩⟩
    case measure=>simp[intOf]
  ·have h0:=Lib.hid (hz.out.1 ae)
   have h1:=Lib.hid (hz.out.2 ae)
   go_wp2_with fail
   go_ret
   exact⟨C1 (by unfold M9;rw[if_pos h0.out,h1.out]),rfl⟩
def Grown (w w':World):Prop:=∃(q:Nat) (os:Array Obj),w'=Go.Sort.grow (w.drewN q) os
theorem Grown.refl (w:World):Grown w w:=⟨0, #[],by rw[grow_empty];rfl⟩
theorem Grown.alloc {w w':World} (h:Grown w w') (o:Obj):Grown w (w'.alloc o):=by
 obtain⟨q,os,rfl⟩:=h
 exact⟨q,os++ #[o],by rw[alloc_eq_grow,grow_grow]⟩
theorem Grown.drew {w w':World} (h:Grown w w'):Grown w w'.drew:=by
 obtain⟨q,os,rfl⟩:=h
 exact⟨q+1,os,by rw[drew_grow];rfl⟩
theorem Grown.dN {w w':World} (h:Grown w w') (n:Nat):Grown w (w'.drewN n):=by
 obtain⟨q,os,rfl⟩:=h
 exact⟨q+n,os,by
  show Go.Sort.grow ((w.drewN q).drewN n) os=Go.Sort.grow (w.drewN (q+n)) os
  simp[World.drewN,Nat.add_assoc]⟩
theorem uE (w:World) (a b:aq):Calls Tryz.prog 155 #[.agg #[.int .i64 a.dQ,.int .i64 a.dH],.agg #[.int .i64 b.dQ,.int .i64 b.dH]] w fun e w'=>e=.returned (.int .i64 (qi a b))/\Grown w w':=by
 go_enter Tryz.func155,Tryz.ntmps155
 go_wp2_with fail
 go_region_held3 (fun w'=>w'.cell? ⟨w.heap.size,0,none⟩=some (.int .i64 a.dQ)/\w'.cell? ⟨w.heap.size,1,none⟩=some (.int .i64 a.dH)/\
   w'.cell? ⟨w.heap.size+1,0,none⟩=some (.int .i64 b.dQ)/\w'.cell? ⟨w.heap.size+1,1,none⟩=some (.int .i64 b.dH))
  (first|go_keep)
  (first|(go_at_call 179;refine(BP _ _ _).mono ?_;rintro e w' ⟨rfl,rfl⟩)|(go_at_call 178;refine(M8 _ (rV a.dH b.dH) (rV a.dQ b.dQ) _ (by simp[go_sem]) (by simp[go_sem])).mono ?_;rintro e w' ⟨rfl,rfl⟩))
 go_wp2_with fail
 go_ret
 refine⟨rfl,?_⟩
 repeat(first|(with_reducible exact Grown.refl _)|(refine Grown.alloc ?_ _)|(refine Grown.drew ?_)|(refine Grown.dN ?_ _))
theorem Wn:SWO (ltOf qi) where
 irrefl x:=by rw[ltOf,nM];exact pU
 trans x y z h1 h2:=by rw[ltOf,nM]at *;exact iD h1 h2
 ntrans x y z h1 h2:=by rw[ltOf,nM]at *;rw[pT]at *;omega
theorem Tz:NO:=fun yD off cap d w hH hblk fy=>by
 have eg:∀args w,(callFunc 155 args).run Tryz.prog w=.ok (.enter 155 args) w:=enters_of Tryz.func155 (by kernel_rfl) rfl
 have h:=AnyQ.slices_SortFunc Tryz.KE 2 Tryz.isAgg74 Tryz.sizeOf74 fW (fun _=>rfl) (fun x v hv=>by simp[fW]at hv;rcases hv with rfl|rfl<;>rfl) qi Wn 155 #[] yD off cap d w eg (fun m os dk _ x y=>(uE _ x y).mono fun _ _ ⟨he,q,os',hw⟩=>⟨he,q,os',hw⟩) hH hblk fy
 exact h
theorem Ov:NP:=fun p cap fv w=>AnyF.slices_SortFunc_none Tryz.KE p cap fv w
theorem yi {P:Program} {fn:Func} {p u:Tmp} {ty tz:TypeId} (h:fn.results= #[.cell p ty,.cell u tz]) (tmps:Array Value) (w:World) (g g':Nat) (t t':TypeId) (cs mM:Array Value) (fr R7:Nat×Nat) (d d':TypeDesc)
  (hp:tmps.getD p undef=.pointer (some ⟨g,0,none⟩)) (hq:tmps.getD u undef=.pointer (some ⟨g',0,none⟩))
  (hg:w.heap[g]? =some (.cells cs t fr)) (FW:w.heap[g']? =some (.cells mM t' R7))
  (hu:P.underlying ty=some d) (hd:(match d with| .struct _| .array _ _=>true|_=>false)=true) (hi:(P.info? ty).map (·.size)=some cs.size)
  (Dt:P.underlying tz=some d') (Rf:(match d' with| .struct _| .array _ _=>true|_=>false)=true) (qD:(P.info? tz).map (·.size)=some mM.size):
  (results fn tmps).run P w=.ok (.tuple #[.agg cs,.agg mM]) w:=by
 have MB:tmps[p]?.getD undef=.pointer (some ⟨g,0,none⟩):=by simpa using hp
 have JI:tmps[u]?.getD undef=.pointer (some ⟨g',0,none⟩):=by simpa using hq
 simp[results,h,MB,JI,asAddr,Sem.run_bind,run_loadVar_row w g t ty cs fr d hg hu hd hi,run_loadVar_row w g' t' tz mM R7 d' FW Dt Rf qD]
theorem LQ (tmps:Array Value) (W:World) (g g':Nat) (cs mM:Array Value) (fr R7:Nat×Nat) (hs:cs.size=2) (Ak:mM.size=2)
  (h4:tmps.getD 4 undef=.pointer (some ⟨g,0,none⟩)) (h5:tmps.getD 5 undef=.pointer (some ⟨g',0,none⟩))
  (hg:W.heap[g]? =some (.cells cs 74 fr)) (FW:W.heap[g']? =some (.cells mM 74 R7)):
  (results Tryz.f151 tmps).run Tryz.prog W=.ok (.tuple #[.agg cs,.agg mM]) W:=by
 have hi:(Tryz.prog.info? 74).map (·.size)=some 2:=by kernel_rfl
 exact yi (p:=4) (u:=5) rfl tmps W g g' _ _ cs mM fr R7 _ _ h4 h5 hg FW rfl rfl (hi.trans (by rw[hs])) rfl rfl (hi.trans (by rw[Ak]))
theorem BB (w:World) (a b c d:Obj):((((w.alloc a).alloc b).alloc c).alloc d).drew.drew.heap[w.heap.size+1]? =some b/\((((w.alloc a).alloc b).alloc c).alloc d).drew.drew.heap[w.heap.size+1+1]? =some c:=by
 show((((w.heap.push a).push b).push c).push d)[w.heap.size+1]? =some b/\((((w.heap.push a).push b).push c).push d)[w.heap.size+1+1]? =some c
 refine⟨?_,?_⟩<;>simp[Array.getElem?_push,Array.getElem_push]
theorem Jh (w:World) (a k:Int) (h1:1<=k) (h4:k<=4) (ha: -1000000<=a) (hb:a<=1000000):Calls Tryz.prog 174 #[.int .i64 a,.int .i64 k] w fun e w'=>e=.returned (.int .i64 (a / k))/\w=w':=by
 go_enter Tryz.func174,Tryz.ntmps174
 have tk:¬k=0:=ae
 go_wp2_with fail
 ·go_ret
  have hn:=I7 h1 h4 ‹a<0›
  have hB:=ni h1 h4 ha hb
  have hq:wrap64 (-((-a+k-1) / k))=a / k:=by
   have e: -((-a+k-1) / k)=a / k:=by
    rw[<-hn,show 0-a+k-1= -a+k-1 by omega]
    generalize (-a+k-1) / k=q
    omega
   rw[e]
   exact IntWalk.wrap64_in _ ae
  exact⟨C1 hq,rfl⟩
 ·go_ret
  exact⟨rfl,rfl⟩
theorem BC (w:World) (x y k:Int) (h1:1<=k) (h4:k<=4) (hx: -1000000<=x/\x<=1000000) (hy: -1000000<=y/\y<=1000000):Calls Tryz.prog 151 #[.agg #[.int .i64 x,.int .i64 y],.int .i64 k] w fun e w'=>e=.returned (.tuple #[.agg #[.int .i64 (x / k),.int .i64 (y / k)],.agg #[.int .i64 (x-k*(x / k)),.int .i64 (y-k*(y / k))]])/\Below w.heap.size w w':=by
 go_enter Tryz.func151,Tryz.ntmps151
 go_wp2_with fail
 go_region_held3 (fun w'=>w'.cell? ⟨w.heap.size,0,none⟩=some (.int .i64 x)/\w'.cell? ⟨w.heap.size,1,none⟩=some (.int .i64 y))
  (first|go_keep)
  (first|(go_at_call 174;refine(Jh _ _ _ h1 h4 ae ae).mono ?_;rintro e w' ⟨rfl,rfl⟩)|fail)
 all_goals go_wp2_with fail
 all_goals go_region
 all_goals go_wp2_with fail
 all_goals
  have hBx:=ni h1 h4 hx.1 hx.2
  have hBy:=ni h1 h4 hy.1 hy.2
  have Rk: -4000000<=k*(x / k)/\k*(x / k)<=4000000:=by rcases four h1 h4 with rfl|rfl|rfl|rfl<;>omega
  have hmy: -4000000<=k*(y / k)/\k*(y / k)<=4000000:=by rcases four h1 h4 with rfl|rfl|rfl|rfl<;>omega
  have w1:wrap64 (k*(x / k))=k*(x / k):=IntWalk.wrap64_in _ ae
  have w2:wrap64 (k*(y / k))=k*(y / k):=IntWalk.wrap64_in _ ae
  have w3:wrap64 (x-k*(x / k))=x-k*(x / k):=IntWalk.wrap64_in _ ae
  have w4:wrap64 (y-k*(y / k))=y-k*(y / k):=IntWalk.wrap64_in _ ae
  simp only[w1,w2,w3,w4]
  exact bodyPost_ret (LQ _ _ (w.heap.size+1) (w.heap.size+1+1) _ _ _ _ rfl rfl rfl rfl (BB _ _ _ _ _).1 (BB _ _ _ _ _).2) rfl ⟨rfl,(by repeat(first|(with_reducible exact Below.refl _ _)|(refine Below.alloc ?_ (by simp;try omega) _)|(refine Below.drew ?_)|(refine IQ ?_ _)|(refine Below.setCell ?_ (by simp;try omega) _)))⟩
end Go.Proofs.YtkbipfflibjfbaaGreat.V

namespace Go.Proofs.YtkbipfflibjfbaaGreat.V
open Go.RowKit Go.Shelf
attribute [local go_sem] Oper.semAt_some
structure mm (W:World) (v:Value) (l:List ah):Prop where
 sl:∃A c,v=.slice A l.length c/\(l.length<=c/\c<=maxLen)/\(l=[]∨∃b o,A=some ⟨b,o,none⟩/\∀i,i<l.length->W.cell? ⟨b,o+(i*3+0),none⟩=some (.int .i64 (bq l i).bw.dQ)/\W.cell? ⟨b,o+(i*3+1),none⟩=some (.int .i64 (bq l i).bw.dH)/\W.cell? ⟨b,o+(i*3+2),none⟩=some (.int .i64 (bq l i).bY))
structure Fz (K:World->World->Prop) (v:Value) (l:List ah):Prop where
 refl:∀W,K W W
 trans:∀{A B C:World},K A B->K B C->K A C
 of:∀{W W':World},Below W.heap.size W W'->K W W'
 size:∀{W W':World},K W W'->W.heap.size<=W'.heap.size
 typed:∀{W W':World},K W W'->∀(b:Nat) (cells:Array Value) (T:TypeId) (fr:Nat×Nat),W.heap[b]? =some (Obj.cells cells T fr)->T≠53->T≠103->W'.heap[b]? =W.heap[b]?
 pl:∀{W W':World},K W W'->mm W v l->mm W' v l
theorem nL {W:World} {b x:Nat} {v:Value} (h:W.cell? ⟨b,x,none⟩=some v):b<W.heap.size:=by
 rcases Nat.lt_or_ge b W.heap.size with h1|h1
 ·exact h1
 ·simp[World.cell?,Array.getElem?_eq_none h1]at h
theorem mm.below {W W':World} {v:Value} {l:List ah} (h:mm W v l) (k:Below W.heap.size W W'):mm W' v l:=by
 obtain⟨A,c,rfl,hm,hc⟩:=h.sl
 refine⟨A,c,rfl,hm,?_⟩
 rcases hc with h0|⟨b,o,rfl,gn⟩
 ·exact .inl h0
 ·refine .inr ⟨b,o,rfl,fun i hi=>?_⟩
  obtain⟨h1,h2,h3⟩:=gn i hi
  have hb:=nL h1
  exact⟨(k.cell (p:=⟨b,_,none⟩) hb).trans h1,(k.cell (p:=⟨b,_,none⟩) hb).trans h2,(k.cell (p:=⟨b,_,none⟩) hb).trans h3⟩
theorem mm.eO {P:Program} {W:World} {v:Value} {l:List ah} (h:mm W v l):ja P W (fun b=>b<W.heap.size) (.sl (l.map ab)) v:=by
 obtain⟨A,c,rfl,hm,hc⟩:=h.sl
 rcases hc with rfl|⟨b,o,rfl,gn⟩
 ·exact .Dw A c (by simpa using hm.2)
 by_cases FY:l=[]
 ·subst FY;exact .Dw _ c (by simpa using hm.2)
 ·have je:0<l.length:=List.length_pos_iff.2 FY
  have hb:=nL (gn 0 je).1
  refine .sl (l.map ab) b o l.length c 3 (fun i j=>if j=0 then .int .i64 (bq l i).bw.dQ else if j=1 then .int .i64 (bq l i).bw.dH else .int .i64 (bq l i).bY) (by simp) hm.1 hm.2 hb (fun cs dy=>?_) (fun cs dy a ha=>?_) (fun i j hi hj=>?_) (fun i j cs a hi hj=>?_)
  ·obtain⟨x,_,rfl⟩:=List.mem_map.1 dy;rfl
  ·obtain⟨x,_,rfl⟩:=List.mem_map.1 dy
   simp[ab]at ha
   rcases ha with rfl|rfl|rfl<;>rfl
  ·obtain⟨h1,h2,h3⟩:=gn i hi
   match j,hj with
   |0,_=>exact h1
   |1,_=>exact h2
   |2,_=>exact h3
   |j+3,hj=>omega
  ·have nj:i<l.length:=by have:=(List.getElem?_eq_some_iff.1 hi).1;simpa using this
   rw[gu nj]at hi
   injection hi with hi
   subst hi
   match j,hj with
   |0,hj=>simp[ab]at hj;subst hj;exact .int _ _
   |1,hj=>simp[ab]at hj;subst hj;exact .int _ _
   |2,hj=>simp[ab]at hj;subst hj;exact .int _ _
   |j+3,hj=>simp[ab]at hj
theorem BH {P:Program} (hm:P.follows .mixedOrders=true) {f:Nat} {args:List AV} {vs:Array Value} {w:World} {r:AV} (h:ak P f args r) (hr:∀g r0,gw g 6 r0=some r->r0=r) (hA:fc P w (fun b=>b<w.heap.size) (fun _=>none) args vs):
  Calls P f vs w fun e w'=>∃D ι u,e=.returned u/\cN P w' D ι r u/\Below w.heap.size w w':=by
 have hs:=gG hm (h 0) w.heap.size (fun b=>b<w.heap.size) (fun _=>none) w vs ⟨Nat.le_refl _,fun _ h=>h,fun id r h=>(by cases h),fun id kS r r' B B' h=>(by cases h)⟩ (fun id h=>absurd rfl h) hA
 refine hs.mono ?_
 rintro e w' ⟨r0,g',n',D',ι',u,rfl,⟨r',hz,rfl⟩,dR,hsim,_,_,ij⟩
 have:=hr _ _ hz
 subst this
 exact⟨D',ι',u,rfl,ij,dR.below⟩
theorem pe {g:Rows} {n:Nat} {a:AV} {k:IntKind} {m:Int} (h:gw g (n+1) a=some (.int k m)):a=.int k m:=by
 cases a<;>rw[gw]at h<;>simp_all
 all_goals (repeat' (split at h))<;>simp_all
theorem Ee {g:Rows} {a:AV} {x y:Int} (h:gw g 6 a=some (.agg [.int .i64 x,.int .i64 y])):a=.agg [.int .i64 x,.int .i64 y]:=by
 cases a with
 |agg cs=>
  rw[jR]at h
  simp only[Option.map_eq_some_iff,AV.agg.injEq,exists_eq_right]at h
  match cs,h with
  |[],h=>rw[aW]at h;simp at h
  |[a],h=>
   rw[aI,aW]at h
   cases ha:gw g 5 a<;>simp[ha]at h
  |[a,b],h=>
   rw[aI,aI,aW]at h
   cases ha:gw g 5 a<;>cases hb:gw g 5 b<;>simp[ha,hb]at h
   obtain⟨rfl,rfl⟩:=h
   rw[pe ha,pe hb]
  |a::b::c::r,h=>
   rw[aI,aI,aI]at h
   cases ha:gw g 5 a<;>cases hb:gw g 5 b<;>cases hc:gw g 5 c<;>cases hd:eh g 5 r<;>simp[ha,hb,hc,hd]at h
 |_=>rw[gw]at h<;>simp_all<;>(repeat' (split at h))<;>simp_all
theorem Fe (W:World) (p:aq) (d:Int) (hd:iw d 0 3=true) (hx:iB p.dQ) (hy:iB p.dH):Calls Tryz.prog 58 #[.agg #[.int .i64 p.dQ,.int .i64 p.dH],.int .i64 d] W fun e W'=>e=.returned (.agg #[.int .i64 (dt p d).dQ,.int .i64 (dt p d).dH])/\Below W.heap.size W W':=by
 refine(BH mixed (KG p d hd hx hy) (fun g r0 h=>Ee h) ?_:Calls _ _ _ _ _).mono ?_
 ·exact iy (vs:= #[.int .i64 d]) (.agg _ _ (fun j=>if j=0 then .int .i64 p.dQ else .int .i64 p.dH) rfl (fun a ha=>by simp[aa]at ha;rcases ha with rfl|rfl<;>rfl) (fun j hj=>by match j,hj with|0,_=>rfl|1,_=>rfl|j+2,hj=>simp[aa]at hj;omega) (fun j a ha=>by match j,ha with|0,ha=>simp[aa]at ha;subst ha;exact .int _ _|1,ha=>simp[aa]at ha;subst ha;exact .int _ _|j+2,ha=>simp[aa]at ha)) (iy (vs:= #[]) (.int _ _) kq)
 ·rintro e W' ⟨D,ι,u,rfl,hr,hB⟩
  refine⟨?_,hB⟩
  obtain⟨vs,f,rfl,fy,_,h1,h2⟩:=gM hr
  have v0:=h1 0 (by simp[aa])
  have v1:=h1 1 (by simp[aa])
  rw[dn (h2 0 _ rfl)]at v0
  rw[dn (h2 1 _ rfl)]at v1
  obtain⟨vl⟩:=vs
  match vl,fy with
  |[a,b],_=>
   simp at v0 v1
   rw[v0,v1]
theorem yh (W:World) (l:List ah) (v:Value) (hP:mm W v l) (p:aq) (hR:qL l) (Mi:l.length<=1048576):Calls Tryz.prog 107 #[.agg #[v],.agg #[.int .i64 p.dQ,.int .i64 p.dH]] W fun e W'=>e=.returned (.int .i64 (fD l p))/\Below W.heap.size W W':=by
 refine(BH mixed (HI l p hR Mi) (fun g r0 h=>pe h) ?_:Calls _ _ _ _ _).mono ?_
 ·exact iy (vs:= #[.agg #[.int .i64 p.dQ,.int .i64 p.dH]]) (.agg _ _ (fun _=>v) rfl (fun a ha=>by simp at ha;rw[ha];rfl) (fun j hj=>by match j,hj with|0,_=>rfl|j+1,hj=>simp at hj) (fun j a ha=>by match j,ha with|0,ha=>simp at ha;subst ha;exact hP.eO|j+1,ha=>simp at ha)) (iy (vs:= #[]) (.agg _ _ (fun j=>if j=0 then .int .i64 p.dQ else .int .i64 p.dH) rfl (fun a ha=>by simp[aa]at ha;rcases ha with rfl|rfl<;>rfl) (fun j hj=>by match j,hj with|0,_=>rfl|1,_=>rfl|j+2,hj=>simp[aa]at hj;omega) (fun j a ha=>by match j,ha with|0,ha=>simp[aa]at ha;subst ha;exact .int _ _|1,ha=>simp[aa]at ha;subst ha;exact .int _ _|j+2,ha=>simp[aa]at ha)) kq)
 ·rintro e W' ⟨D,ι,u,rfl,hr,hB⟩
  exact⟨by rw[dn hr],hB⟩
theorem grown_of {W W':World} (h:Below W.heap.size W W'):W.grownBy W' none:=⟨h.os,h.tape,h.output,h.size,fun k hk _=>h.block k hk⟩
def yf (l:List ah) (i:Nat) (d:Int):List (Nat×Nat×Int):=if 0<=fD l (dt (bq l i).bw d)then[(i,(fD l (dt (bq l i).bw d)).toNat,d)]else[]
def k9 (l:List ah) (i m:Nat):List (Nat×Nat×Int):=(List.range m).flatMap fun j:Nat=>yf l i (1-(j:Int))
def lk (l:List ah) (n:Nat):List (Nat×Nat×Int):=(List.range n).flatMap fun i=>k9 l i 2
theorem nu (l:List ah) (n:Nat):lk l (n+1)=lk l n++k9 l n 2:=by simp[lk,List.range_succ]
theorem nT (l:List ah) (i m:Nat):k9 l i (m+1)=k9 l i m++yf l i (1-(m:Int)):=by simp[k9,List.range_succ]
theorem Qf (l:List ah) {k m:Nat} (hk:k<l.length) (hm:m<=2):lk l k++k9 l k m <+:lk l l.length:=by
 have h1:∀d,lk l k <+:lk l (k+d):=fun d=>by
  induction d with
  |zero=>exact List.prefix_refl _
  |succ d ih=>rw[<-Nat.add_assoc,nu l (k+d)];exact ih.trans (List.prefix_append _ _)
 have h2:∀d,lk l (k+1) <+:lk l (k+1+d):=fun d=>by
  induction d with
  |zero=>exact List.prefix_refl _
  |succ d ih=>rw[<-Nat.add_assoc,nu l (k+1+d)];exact ih.trans (List.prefix_append _ _)
 have h3:=h2 (l.length-(k+1))
 rw[show k+1+(l.length-(k+1))=l.length by omega,nu]at h3
 refine List.IsPrefix.trans ?_ h3
 have h4:k9 l k m <+:k9 l k 2:=by
  have:m=0∨m=1∨m=2:=ae
  rcases this with rfl|rfl|rfl
  ·exact List.nil_prefix
  ·rw[nT l k 1];exact List.prefix_append _ _
  ·exact List.prefix_refl _
 exact(List.prefix_append_right_inj _).2 h4
def RD (l:List ah) (x:Nat×Nat×Int):Prop:=x.1<l.length/\x.2.1<l.length/\(0<=x.2.2/\x.2.2<=1)/\(x.2.1:Int)=fD l (dt (bq l x.1).bw x.2.2)
def BU (x:Nat×Nat×Int):Array Value:= #[.agg #[.int .i64 (x.1:Int),.int .i64 (x.2.1:Int)],.int .i64 x.2.2]
theorem MI (l:List ah) (p:aq) (h:0<l.length:=by omega):fD l p<(l.length:Int):=by
 unfold fD
 split<;>omega
theorem Tq (l:List ah) (hA:iv l) (q Ba:Nat) (vS:Value) (K:World->World->Prop) (kl:Fz K vS l) (J Jx:List (Nat×Nat×Int)->World->Prop) (n:Nat) (hn:1<=n)
  (hY:∀pre x W,J pre W->pre.length<(lk l l.length).length->RD l x->YieldAt Fence.wide (n-1) Tryz.prog q (BU x) W fun e W'=>
   (e=.returned (.bool true)/\J (pre++[x]) W'/\K W W')∨(e=.returned (.bool false)/\Jx (pre++[x]) W'))
  (W:World) (hJ:AbidesFrom W.heap.size J) (Lj:W.heap[Ba]? =some (.cells #[vS] 41 (0,0))) (hP:mm W vS l) (h0:J [] W):
  CallsIn Fence.wide n Tryz.prog 106 #[.func (.yield q) #[] #[],.pointer (some ⟨Ba,0,none⟩)] W fun e W'=>(∃v,e=.returned v)/\
   ((∃ys,ys=lk l l.length/\J ys W')∨(∃pre,pre <+:lk l l.length/\Jx pre W')):=by
 obtain⟨A,cp,rfl,_,_⟩:=hP.sl
 refine callsIn_of_wp Tryz.func106 rfl trivial ?_ rfl
 simp only[Tryz.ntmps106,List.size_toArray,List.length_cons,List.length_nil,Nat.reduceAdd,Nat.reduceSub,Array.replicate_succ,Array.replicate_zero,List.push_toArray,List.append_toArray,List.nil_append,List.cons_append]
 have jN:W.cell? ⟨Ba,0,none⟩=some (.slice A l.length cp):=by simp[World.cell?,Lj]
 gi_wp2
 gi_loopw [11] (fun i wr=>∃k:Nat,k<=l.length/\i=.int .i64 k/\J (lk l k) wr/\K W wr)
  (fun i _=>l.length-(intOf i).toNat)
 case atStart=>exact⟨0,Nat.zero_le _,rfl,h0,kl.refl _⟩
 case round=>
  obtain⟨k,hk,rfl,hJs,hKt⟩:=hrel
  by_cases dO:k<l.length
  ·have dy:∃b o,A=some ⟨b,o,none⟩/\wr.cell? ⟨b,o+k*3,none⟩=some (.int .i64 (bq l k).bw.dQ)/\wr.cell? ⟨b,o+k*3+1,none⟩=some (.int .i64 (bq l k).bw.dH)/\wr.cell? ⟨b,o+k*3+2,none⟩=some (.int .i64 (bq l k).bY):=by
    obtain⟨A',c',hv,_,hc⟩:=(kl.pl hKt hP).sl
    cases hv
    rcases hc with rfl|⟨b,o,rfl,gn⟩
    ·simp at dO
    ·obtain⟨h1,h2,h3⟩:=gn k dO
     exact⟨b,o,rfl,by simpa using h1,by rw[Nat.add_assoc];exact h2,by rw[Nat.add_assoc];exact h3⟩
   obtain⟨b,o,rfl,hx,Uz,ht⟩:=dy
   gi_wp2
   obtain⟨W2,Sr⟩:∃W2,(wr.alloc (.cells #[.int .i64 (bq l k).bw.dQ,.int .i64 (bq l k).bw.dH,.int .i64 (bq l k).bY] 76)).alloc (.cells #[.int .i64 1,.int .i64 0] 2)=W2:=⟨_,rfl⟩
   have mv:Below wr.heap.size wr W2:=by rw[<-Sr];exact((Below.refl _ wr).alloc (Nat.le_refl _) _).alloc (by simp) _
   have Vm:W2.heap[wr.heap.size]? =some (.cells #[.int .i64 (bq l k).bw.dQ,.int .i64 (bq l k).bw.dH,.int .i64 (bq l k).bY] 76 (0,0)):=by
    rw[<-Sr,Below.heap_alloc _ _ _ (by simp)];exact World.alloc_heap_new _ _
   have Vl:W2.heap[wr.heap.size+1]? =some (.cells #[.int .i64 1,.int .i64 0] 2 (0,0)):=by
    have:=World.alloc_heap_new (wr.alloc (.cells #[.int .i64 (bq l k).bw.dQ,.int .i64 (bq l k).bw.dH,.int .i64 (bq l k).bY] 76)) (.cells #[.int .i64 1,.int .i64 0] 2)
    rw[World.size_alloc]at this
    rw[<-Sr];exact this
   have Sj:K W W2:=kl.trans hKt (kl.of mv)
   have hJ2:J (lk l k++k9 l k 0) W2:=by
    have:=hJ _ _ _ none hJs (grown_of mv) (fun r h=>by cases h)
    simpa[k9]using this
   rw[Sr]
   clear Sr
   generalize wr=w1 at *
   gi_loopw [18] (fun j wr=>∃m:Nat,m<=2/\j=.int .i64 m/\J (lk l k++k9 l k m) wr/\K W2 wr)
    (fun j _=>2-(intOf j).toNat)
   case atStart=>exact⟨0,ae,rfl,hJ2,kl.refl _⟩
   case round=>
    obtain⟨m,hm,rfl,hJm,NV⟩:=hrel
    have SU:m=0∨m=1∨m=2:=ae
    by_cases ud:m<2
    ·have hkd:=kl.typed NV _ _ _ _ Vl (by decide) (by decide)
     have Ce:=kl.typed NV _ _ _ _ Vm (by decide) (by decide)
     have hka:=kl.typed (kl.trans Sj NV) _ _ _ _ Lj (by decide) (by decide)
     have cd:wr.cell? ⟨w1.heap.size+1,m,none⟩=some (.int .i64 (1-(m:Int))):=by
      rw[World.cell?_of_block hkd]
      rcases SU with rfl|rfl|rfl
      ·simp[World.cell?,Vl]
      ·simp[World.cell?,Vl]
      ·omega
     have ct0:wr.cell? ⟨w1.heap.size,0,none⟩=some (.int .i64 (bq l k).bw.dQ):=by rw[World.cell?_of_block Ce];simp[World.cell?,Vm]
     have ct1:wr.cell? ⟨w1.heap.size,1,none⟩=some (.int .i64 (bq l k).bw.dH):=by rw[World.cell?_of_block Ce];simp[World.cell?,Vm]
     have ca:wr.cell? ⟨Ba,0,none⟩=some (.slice (some ⟨b,o,none⟩) l.length cp):=by rw[World.cell?_of_block hka];simp[World.cell?,Lj]
     have hPw:mm wr (.slice (some ⟨b,o,none⟩) l.length cp) l:=kl.pl (kl.trans Sj NV) hP
     have hba:Ba<wr.heap.size:=by
      have h1:=(Array.getElem?_eq_some_iff.1 Lj).1
      have h2:=kl.size (kl.trans Sj NV)
      omega
     have Mq:iw (1-(m:Int)) 0 3=true:=mC ae
     have Uu:=Kp (hA.pt dO)
     have Rr:=fun w0=>Fe w0 (bq l k).bw (1-(m:Int)) Mq Uu.1 Uu.2
     have hPd:mm wr.drew (.slice (some ⟨b,o,none⟩) l.length cp) l:=hPw.below ⟨rfl,rfl,rfl,Nat.le_refl _,fun _ _=>rfl⟩
     have cad:wr.drew.cell? ⟨Ba,0,none⟩=some (.slice (some ⟨b,o,none⟩) l.length cp):=ca
     have ctd0:wr.drew.cell? ⟨w1.heap.size,0,none⟩=some (.int .i64 (bq l k).bw.dQ):=ct0
     have ctd1:wr.drew.cell? ⟨w1.heap.size,1,none⟩=some (.int .i64 (bq l k).bw.dH):=ct1
     have hfw:=hA.zX
     have SS:=hA.Qn
     have VN:=mixed
     gi_wp2
     gi_region_with_o (first|(refine⟨trivial,?_⟩;gi_at_call 58;refine(callsIn_wide.2 (Rr _)).mono ?_;rintro e w3 ⟨rfl,mN⟩;have ca3:=(mN.cell (p:=⟨Ba,0,none⟩) hba).trans cad)|(refine⟨trivial,?_⟩;gi_at_call 107;refine(callsIn_wide.2 (yh _ l _ (hPd.below mN) (dt (bq l k).bw (1-(m:Int))) SS ae)).mono ?_;rintro e w4 ⟨rfl,hB4⟩))
     all_goals
      have Pp:Below wr.heap.size wr w4:=(show Below wr.heap.size wr wr.drew from⟨rfl,rfl,rfl,Nat.le_refl _,fun _ _=>rfl⟩).trans (mN.trans (hB4.mono mN.size))
      have hJ4:J (lk l k++k9 l k m) w4:=hJ _ _ _ none hJm (grown_of Pp) (fun r h=>by cases h)
      have qn:=Qf l dO (m:=m+1) ae
      rw[nT,<-List.append_assoc]at qn
      have mT:=nT l k m
      have hw:wrap64 ((m:Int)+1)=((m+1:Nat):Int):=by unfold wrap64;omega
      by_cases Ai:0<=fD l (dt (bq l k).bw (1-(m:Int)))
      ·have fB:((fD l (dt (bq l k).bw (1-(m:Int)))).toNat:Int)=fD l (dt (bq l k).bw (1-(m:Int))):=ae
       rw[yf,if_pos Ai]at qn mT
       obtain⟨fn,tmps,assign,body,hy,hR⟩:=hY _ (k,(fD l (dt (bq l k).bw (1-(m:Int)))).toNat,1-(m:Int)) w4 hJ4 (by
        have:=qn.length_le
        simp only[List.length_append,List.length_cons,List.length_nil]at this ⊢
        omega) ⟨dO,by
        have:fD l (dt (bq l k).bw (1-(m:Int)))<(l.length:Int):=MI _ _
        show(fD l (dt (bq l k).bw (1-(m:Int)))).toNat<l.length
        omega,⟨by show 0<=1-(m:Int);omega,by show 1-(m:Int)<=1;omega⟩,fB⟩
       simp only[BU,fB]at hy
       gi_wp2
       refine hR.mono ?_
       rintro e W3 (⟨rfl,hJ3,hk3⟩|⟨rfl,hJx3⟩)
       ·gi_wp2
        go_roundw
        case rel=>exact⟨m+1,ae,by simp,by rw[mT,<-List.append_assoc];exact hJ3,kl.trans (kl.trans NV (kl.of Pp)) hk3⟩
        case measure=>simp[intOf];omega
       ·gi_wp2
        refine bodyPost_ret (results_none rfl _ _ _) rfl ?_
        exact⟨⟨_,rfl⟩,.inr ⟨_,qn,hJx3⟩⟩
      ·rw[yf,if_neg Ai,List.append_nil]at mT
       gi_wp2
       refine⟨fun _ h=>(by cases h),?_⟩
       gi_wp2
       go_roundw
       case rel=>exact⟨m+1,ae,by simp,by rw[mT];exact hJ4,kl.trans NV (kl.of Pp)⟩
       case measure=>simp[intOf];omega
    ·obtain rfl:m=2:=ae
     have hfw:=hA.zX
     gi_wp2
     go_roundw
     case rel=>exact⟨k+1,ae,by simp,by rw[nu];exact hJm,kl.trans Sj NV⟩
     case measure=>simp[intOf];omega
  ·obtain rfl:k=l.length:=ae
   gi_wp2
   go_end0
   exact⟨⟨_,rfl⟩,.inl ⟨_,rfl,hJs⟩⟩
theorem sn (n:Nat) (vS:Value) (w:World):CallsIn Fence.wide n Tryz.prog 54 #[.agg #[vS]] w fun e w'=>e=.returned (.func (.func 106) #[] #[.pointer (some ⟨w.heap.size,0,none⟩)])/\w'=w.alloc (.cells #[vS] 41):=by
 refine callsIn_of_wp Tryz.func54 rfl trivial ?_ rfl
 simp only[Tryz.ntmps54,List.size_toArray,List.length_cons,List.length_nil,Nat.reduceAdd,Nat.reduceSub,Array.replicate_succ,Array.replicate_zero,List.push_toArray,List.append_toArray,List.nil_append,List.cons_append]
 gi_wp2
 go_ret
 exact⟨rfl,rfl⟩
abbrev IB (l:List ah):Type:={x:Nat×Nat×Int // RD l x}
theorem CQ (l:List ah) (hA:iv l) (Ba n:Nat) (hn:1<=n) (vS:Value) (K:World->World->Prop) (kl:Fz K vS l) (w:World) (Lj:w.heap[Ba]? =some (.cells #[vS] 41 (0,0))) (hP:mm w vS l):
  SeqStopsK Fence.wide n Tryz.prog 106 #[.pointer (some ⟨Ba,0,none⟩)] (fun x:IB l=>BU x.1) K (fun ys=>ys.map (·.1)=lk l l.length) (fun _=>True) (lk l l.length).length w:=fun q J Jx W hW hJ _ hY h0=>by
 refine(Tq l hA q Ba vS K kl (fun ys W=>∃zs:List (IB l),zs.map (·.1)=ys/\J zs W) (fun ys W=>∃zs:List (IB l),zs.map (·.1)=ys/\Jx zs W) n hn (fun pre x W1 hJ1 dO k5=>?_) W (fun s A B row ⟨zs,e,h⟩ hg hr=>⟨zs,e,hJ zs A B row h hg hr⟩) ((hW.block Ba (Array.getElem?_eq_some_iff.1 Lj).1).trans Lj) (hP.below hW) ⟨[],rfl,h0⟩).mono ?_
 ·obtain⟨zs,rfl,h1⟩:=hJ1
  refine YieldAt.mono (hY zs ⟨x,k5⟩ W1 h1 (by simpa using dO)) ?_
  rintro e W' (⟨h2,h3,h4⟩|⟨h2,h3⟩)
  ·exact .inl ⟨h2,⟨zs++[⟨x,k5⟩],by simp,h3⟩,h4⟩
  ·exact .inr ⟨h2,⟨zs++[⟨x,k5⟩],by simp,h3⟩⟩
 ·rintro e W' ⟨h1,⟨ys,rfl,zs,h2,h3⟩|⟨pre,_,zs,h2,h3⟩⟩
  ·exact⟨h1,.inl ⟨zs,h2,h3⟩⟩
  ·exact⟨h1,.inr ⟨zs,trivial,h3⟩⟩
def zL (s:aw) (l:List ah) (x:Nat×Nat×Int):List PB:=if 0<jG s (bq l x.1).bY x.2.2 (bq l x.2.1).bY then[⟨x.1,x.2.1,jG s (bq l x.1).bY x.2.2 (bq l x.2.1).bY⟩]else[]
theorem IY (s:aw) (l:List ah):di s l=(lk l l.length).flatMap (zL s l):=by
 have h1:∀i d,nJ s l i d=(yf l i d).flatMap (zL s l):=fun i d=>by
  unfold nJ yf
  by_cases h:0<=fD l (dt (bq l i).bw d)
  ·rw[if_pos h]
   simp only[List.flatMap_cons,List.flatMap_nil,List.append_nil,zL]
   by_cases h2:0<jG s (bq l i).bY d (bq l (fD l (dt (bq l i).bw d)).toNat).bY
   ·rw[if_pos ⟨h,h2⟩,if_pos h2]
   ·rw[if_neg fun hc=>h2 hc.2,if_neg h2]
  ·rw[if_neg h,if_neg fun hc=>h hc.1];rfl
 unfold di hZ lk
 rw[List.flatMap_assoc]
 congr 1
 funext i
 unfold gz k9
 rw[List.flatMap_assoc]
 congr 1
 funext j
 exact h1 i _
end Go.Proofs.YtkbipfflibjfbaaGreat.V

namespace Go.Proofs.YtkbipfflibjfbaaGreat.V
open Go.RowKit
attribute [local irreducible] ef wpOps gN Call
attribute [local go_sem] aH fJ eW fZ gh dh upd cD K.av cP AV.cells AV.cell rowOf rowsOf part ld rowAt bU cw dI ek iq bL de eD gj fq dx ew db da dW dY bR bd cU bQ cW cV er ez eu cR bV dc eo bP aL cY cI im br cH bz bc dB bo dF AV.undef bx bE dZ ej dV ec cJ eC eE cF eB eA cX cZ List.getD_cons_zero List.getD_cons_succ List.getD_nil List.all_cons List.all_nil Bool.and_true Bool.true_and Bool.and_self Bool.not_true Bool.not_false Option.map_some Option.map_none Option.bind_some Option.bind_none List.length_cons List.length_nil List.take_succ_cons List.take_zero List.take_nil List.drop_succ_cons List.drop_zero List.drop_nil List.head?_cons List.map_cons List.map_nil List.getElem?_cons_zero List.getElem?_cons_succ List.cons_append List.nil_append List.append_nil List.length_map List.set_cons_zero List.set_cons_succ Nat.reduceMul eq_self Int.toNat_natCast Int.natCast_nonneg and_self true_and and_true decide_true decide_false Bool.false_eq_true Nat.zero_add Nat.add_zero List.contains_cons List.contains_nil Bool.or_false Bool.false_or beq_self_eq_true Nat.reduceBEq ne_eq not_true_eq_false not_false_eq_true Id.mk.injEq false_and and_false Nat.reduceLT Int.reduceLE Int.reduceLT Int.reduceToNat Int.reduceNeg Int.reduceAdd Nat.le_refl List.length_append beq_true beq_false Bool.not_eq_eq_eq_not or_false false_or dM ai ao aD bt cz aY bj aV bf cL bJ
def AP (bs:List PB):AV:=if bs=[]then .ck else .sl (bs.map ay)
theorem Nu:AP []=.ck:=rfl
theorem AQ {bs:List PB} (h:0<bs.length):AP bs=.sl (bs.map ay):=by
 unfold AP
 rw[if_neg (by rintro rfl;simp at h)]
theorem xR (cnt:Nat) (uL:1<=cnt) (hn:cnt<=1048576) (bs:List PB) (hb:∀b∈bs,b.a<cnt/\b.b<cnt) (hp:0<bs.length) (ke:bs.length<=1048576) (t:Int):ak Tryz.prog 190 [.int .i64 cnt,.sl (bs.map ay),.int .i64 t] (.iJ [.int .i64 (leads cnt (eR (aQ t bs))).length,AP (dC (eR (aQ t bs)) bs)]):=by
 refine ak.body eM rfl fun hl n0=>?_
 clear hl
 (try((repeat(revert hN;revert N;apply Pn.out));refine wk @Nat.zero_add ?_;(repeat(refine Pn.mk ?_;intro N hN))))
 refine .inr (aU _ _ _ _ _ (fun r σ1 hq=>?_) (I2 bs hp ke _))
 obtain⟨o,rfl,ho,Mz,MA,SH⟩:=hq
 (try dsimp only at ho Mz MA SH)
 refine hN _ _ ?_
 clear hN N
 (try((repeat(revert hN;revert N;apply Pn.out));refine wk @Nat.zero_add ?_;(repeat(refine Pn.mk ?_;intro N hN))))
 refine .inr (aU _ _ _ _ _ (fun r σ2 hq=>?_) (GP bs t ke o ⟨190000000,n0⟩ _ ho (by rw[SH _ bW];simp only[go_sem, ↓reduceIte,Nat.reduceEqDiff,Nat.reduceAdd,Nat.reduceSub,Nat.reduceLeDiff,reduceCtorEq]) bW bW (by rintro rfl;simp only at Mz;omega)))
 obtain⟨rows,rfl,fh,hrt,sR,mA,Jw⟩:=hq
 (try dsimp only at mA Jw)
 refine hN _ _ ?_
 clear hN N
 have Il:=wh cnt uL hn (aQ t bs) (fun b h=>hb b (xl h)) (by have:=nY t bs;omega)
 have hL:=ui (aQ t bs)
 have hz:∀x,cQ (dM σ2.get) 6 [.int .i64 x,.own o 0 (aQ t bs).length]=some [.int .i64 x,.sl ((aQ t bs).map ay)]:=fun x=>by
  have:V.fz (dM σ2.get) 6 (.own o 0 (aQ t bs).length)=some (.sl ((aQ t bs).map ay)):=by
   rw[ig];simp only[dM,fh,Option.map_some,if_true]
   rw[if_pos ae,List.drop_zero,hrt,lD fun b=>wb _ 4 b];rfl
  simp only[ai,ao,aD,this,Option.map_some]
 (try((repeat(revert hN;revert N;apply Pn.out));refine wk @Nat.zero_add ?_;(repeat(refine Pn.mk ?_;intro N hN))))
 refine .inl ⟨_,ak.x Il (hz _),?_⟩
 refine hN _ _ ?_
 clear hN N
 generalize eR (aQ t bs)=L at *
 have tj:((fI cnt L).map Bb).length=(leads cnt L).length:=by simp[fI]
 have Un:=kj cnt L
 have jN:(0:Int)<=(cnt:Int):=ae
 have qk:(cnt:Int)<=((16777216:Nat):Int):=ae
 have ij:List.replicate cnt [AV.int .i64 0]=dU (dm cnt L 0 0) cnt:=by rw[xr,pr]
 (try((repeat(revert hN;revert N;apply Pn.out));refine wk (tw @jN (tw @qk (tw @Int.le_refl (tw @tj @ij)))) ?_;(repeat(refine Pn.mk ?_;intro N hN))))
 refine aT (fun n env st=>∃i:Nat,n=((leads cnt L).length)-i/\i<=((leads cnt L).length)/\env 27=.int .i64 (i:Int)/\st.get ⟨190002001,σ2.next+1⟩=some ⟨true,1,dU (dm cnt L i 0) cnt⟩/\(σ2.next+1<st.next)) ((leads cnt L).length) ⟨0,ae,ae,sl (tw @ij @tj),sl (tw @ij @tj),bW⟩ ?_
 rintro n_c env_c st_c ⟨i,rfl,cle,c27,cg0,cI0⟩ cfr
 have c1:=cfr 1 (by kernel_rfl);have c8:=cfr 8 (by kernel_rfl);have c9:=cfr 9 (by kernel_rfl);have xN:=cfr 25 (by kernel_rfl);have xO:=cfr 26 (by kernel_rfl)
 simp only[go_sem, ↓reduceIte,Nat.reduceEqDiff,Nat.reduceAdd,Nat.reduceSub,Nat.reduceLeDiff,reduceCtorEq,ij,tj]at c1 c8 c9 xN xO
 clear cfr
 by_cases hi:(i:Int)<((leads cnt L).length:Int)
 ·have iM:∀{e:Env} {gg:Rows} {nx:Nat},(e 27=.int .i64 (IntKind.i64.wrap ((i:Int)+1)))->(gg ⟨190002001,σ2.next+1⟩=some ⟨true,1,dU (dm cnt L (i+1) 0) cnt⟩)->(σ2.next+1<nx)->∃m0,m0<((leads cnt L).length)-i/\∃i:Nat,m0=((leads cnt L).length)-i/\i<=((leads cnt L).length)/\e 27=.int .i64 (i:Int)/\gg ⟨190002001,σ2.next+1⟩=some ⟨true,1,dU (dm cnt L i 0) cnt⟩/\(σ2.next+1<nx):=fun x1 x2 x3=>⟨_,ae,i+1,rfl,ae,(by rw[x1,aB ae]),x2,x3⟩
  have fB:i<(leads cnt L).length:=ae
  have gT:((fI cnt L).map Bb)[i]? =some (Bb (members cnt L (leads cnt L)[i])):=by simp[fI,fB]
  have oy:(leads cnt L).getD i 0=(leads cnt L)[i]:=by simp[List.getD_eq_getElem?_getD,fB]
  have k6:∀m,dm cnt L i m=fun x=>if cm L x<i then cm L x else if x∈(members cnt L (leads cnt L)[i]).take m then i else 0:=fun m=>by unfold dm;rw[oy]
  have r7:=fun x (hx:x<cnt)=>tE hL (n:=cnt) (k:=x) (i:=i) hx fB
  have kZ:(members cnt L (leads cnt L)[i]).Nodup:=List.nodup_range.filter _
  have Bg:∀x∈members cnt L (leads cnt L)[i],x<cnt:=fun x hx=>(mi.1 hx).1
  have hMc:(members cnt L (leads cnt L)[i]).length<=cnt:=by
   have:=List.length_filter_le (fun k=>L k==(leads cnt L)[i]) (List.range cnt)
   simpa[members]using this
  generalize members cnt L (leads cnt L)[i]=M at *
  have Dp:(M.map eN).length=M.length:=by simp
  (try((repeat(revert hN;revert N;apply Pn.out));refine wk (tw @c27 (tw @cg0 (tw @c1 (tw @c8 (tw @c9 (tw @xN (tw @xO (tw @hi (tw @tj (tw @gT (tw @Bb.eq_1 @Dp))))))))))) ?_;(repeat(refine Pn.mk ?_;intro N hN))))
  refine aT (fun n env st=>∃m:Nat,n=(M.length)-m/\m<=(M.length)/\env 34=.int .i64 (m:Int)/\st.get ⟨190002001,σ2.next+1⟩=some ⟨true,1,dU (dm cnt L i m) cnt⟩/\(σ2.next+1<st.next)) (M.length) ⟨0,ae,ae,sl (tw @c27 (tw @cg0 (tw @c1 (tw @c8 (tw @c9 (tw @xN (tw @xO @Dp))))))),sl (tw @c27 (tw @cg0 (tw @c1 (tw @c8 (tw @c9 (tw @xN (tw @xO @Dp))))))),bW⟩ ?_
  rintro n_d env_d st_d ⟨m,rfl,dle,d34,dg0,dI0⟩ dfr
  have d1:=dfr 1 (by kernel_rfl);have d8:=dfr 8 (by kernel_rfl);have d9:=dfr 9 (by kernel_rfl);have d10:=dfr 10 (by kernel_rfl);have d25:=dfr 25 (by kernel_rfl);have d26:=dfr 26 (by kernel_rfl);have d27:=dfr 27 (by kernel_rfl);have d32:=dfr 32 (by kernel_rfl);have d33:=dfr 33 (by kernel_rfl)
  simp only[go_sem, ↓reduceIte,Nat.reduceEqDiff,Nat.reduceAdd,Nat.reduceSub,Nat.reduceLeDiff,reduceCtorEq,c27,cg0,c1,c8,c9,xN,xO,Dp]at d1 d8 d9 d10 d25 d26 d27 d32 d33
  clear dfr
  have tl:=gD (dm cnt L i m) cnt
  by_cases hm:(m:Int)<(M.length:Int)
  ·have uk:∀{e:Env} {gg:Rows} {nx:Nat},(e 34=.int .i64 (IntKind.i64.wrap ((m:Int)+1)))->(gg ⟨190002001,σ2.next+1⟩=some ⟨true,1,dU (dm cnt L i (m+1)) cnt⟩)->(σ2.next+1<nx)->∃m0,m0<(M.length)-m/\∃m:Nat,m0=(M.length)-m/\m<=(M.length)/\e 34=.int .i64 (m:Int)/\gg ⟨190002001,σ2.next+1⟩=some ⟨true,1,dU (dm cnt L i m) cnt⟩/\(σ2.next+1<nx):=fun x1 x2 x3=>⟨_,ae,m+1,rfl,ae,(by rw[x1,aB ae]),x2,x3⟩
   have Aj:m<M.length:=ae
   have wm:(M.map eN)[m]? =some (eN M[m]):=by simp[Aj]
   have wH:=Bg _ (List.getElem_mem Aj)
   have Du:(M[m]:Int)<(cnt:Int):=ae
   have y9:=fG (f:=dm cnt L i m) wH
   have ei:(dU (dm cnt L i m) cnt).set M[m] (eN i)=dU (dm cnt L i (m+1)) cnt:=qd wH (by
    have h1:=(r7 _ wH).1 (List.getElem_mem Aj)
    rw[k6]
    simp only[]
    rw[if_neg ae,if_pos (by rw[List.take_succ_eq_append_getElem Aj];exact List.mem_append_right _ (List.mem_singleton.2 rfl))]) fun x hx gI=>by
    rw[k6,k6]
    simp only[]
    rw[List.take_succ_eq_append_getElem Aj]
    simp only[List.mem_append,List.mem_singleton,gI,or_false]
   rw[eN]at ei y9
   generalize M[m]=xm at *
   (try((repeat(revert hN;revert N;apply Pn.out));refine wk (tw @d34 (tw @dg0 (tw @d1 (tw @d8 (tw @d9 (tw @d10 (tw @d25 (tw @d26 (tw @d27 (tw @d32 (tw @d33 (tw @hm (tw @hi (tw @wm (tw @Dp (tw @Du (tw @y9 (tw @tl (tw @ei @eN.eq_1))))))))))))))))))) ?_;(repeat(refine Pn.mk ?_;intro N hN))))
   refine uk ?_ ?_ bW
   all_goals simp only[go_sem, ↓reduceIte,Nat.reduceEqDiff,Nat.reduceAdd,Nat.reduceSub,Nat.reduceLeDiff,reduceCtorEq,d34,dg0,d1,d8,d9,d10,d25,d26,d27,d32,d33,ei]
  ·have kf:m=M.length:=ae
   subst kf
   have mT:dU (dm cnt L i M.length) cnt=dU (dm cnt L (i+1) 0) cnt:=iG fun x hx=>by
    rw[k6,List.take_length]
    simp only[dm,List.take_zero,List.not_mem_nil,if_false]
    have h1:=r7 x hx
    by_cases h2:cm L x<i
    ·rw[if_pos h2,if_pos ae]
    ·rw[if_neg h2]
     by_cases h3:x∈M
     ·rw[if_pos h3,if_pos (by have:=h1.1 h3;omega),h1.1 h3]
     ·rw[if_neg h3,if_neg fun h4=>h3 (h1.2 ae)]
   (try((repeat(revert hN;revert N;apply Pn.out));refine wk (tw @d34 (tw @dg0 (tw @d1 (tw @d8 (tw @d9 (tw @d10 (tw @d25 (tw @d26 (tw @d27 (tw @d32 (tw @d33 (tw @hm (tw @hi (tw @tj @Dp)))))))))))))) ?_;(repeat(refine Pn.mk ?_;intro N hN))))
   refine iM ?_ ?_ bW
   all_goals simp only[go_sem, ↓reduceIte,Nat.reduceEqDiff,Nat.reduceAdd,Nat.reduceSub,Nat.reduceLeDiff,reduceCtorEq,c27,cg0,c1,c8,c9,xN,xO,d34,dg0,d1,d8,d9,d10,d25,d26,d27,d32,d33,mT]
 have nj:i=(leads cnt L).length:=ae
 subst nj
 have Bh:dU (dm cnt L (leads cnt L).length 0) cnt=dU (cm L) cnt:=iG fun x hx=>by rw[dm,if_pos (kM hL hx)]
 rw[Bh]at cg0
 have tl:=gD (cm L) cnt
 have Rc:(bs.map ay).length=bs.length:=by simp
 (try((repeat(revert hN;revert N;apply Pn.out));refine wk (tw @c27 (tw @cg0 (tw @c1 (tw @c8 (tw @c9 (tw @xN (tw @xO (tw @hi (tw @tj @Rc))))))))) ?_;(repeat(refine Pn.mk ?_;intro N hN))))
 have Re:σ2.next+1<st_c.next:=cI0
 refine aT (fun n env st=>∃j:Nat,n=(bs.length)-j/\j<=(bs.length)/\env 46=.int .i64 (j:Int)/\st.get ⟨190002001,σ2.next+1⟩=some ⟨true,1,dU (cm L) cnt⟩/\(st_c.next<=st.next/\((dC L (bs.take j)=[]/\env 14=.ck)∨∃p:Id,env 14=.own p 0 (dC L (bs.take j)).length/\st.get p=some ⟨true,3,(dC L (bs.take j)).map ay⟩/\st_c.next<=p.cC/\p.cC<st.next/\0<(dC L (bs.take j)).length))) (bs.length) ⟨0,ae,ae,sl (tw @c27 (tw @cg0 (tw @c1 (tw @c8 (tw @c9 (tw @xN (tw @xO @Rc))))))),sl (tw @c27 (tw @cg0 (tw @c1 (tw @c8 (tw @c9 (tw @xN (tw @xO @Rc))))))),⟨bW,.inl ⟨rfl,by(simp only[go_sem, ↓reduceIte,Nat.reduceEqDiff,Nat.reduceAdd,Nat.reduceSub,Nat.reduceLeDiff,reduceCtorEq])⟩⟩⟩ ?_
 rintro n_f env_f st_f ⟨j,rfl,fle,f46,fg0,fI0⟩ ffr
 have f1:=ffr 1 (by kernel_rfl);have f8:=ffr 8 (by kernel_rfl);have f9:=ffr 9 (by kernel_rfl);have f44:=ffr 44 (by kernel_rfl);have f45:=ffr 45 (by kernel_rfl)
 simp only[go_sem, ↓reduceIte,Nat.reduceEqDiff,Nat.reduceAdd,Nat.reduceSub,Nat.reduceLeDiff,reduceCtorEq,c27,cg0,c1,c8,c9,xN,xO,Rc]at f1 f8 f9 f44 f45
 clear ffr
 obtain⟨Uh,fO⟩:=fI0
 have JP:=eX (i:=⟨190002001,σ2.next+1⟩) (n:=st_f.next) bW
 have nR:=(nX L (bs.take j)).1
 rw[List.length_take]at nR
 by_cases hj:(j:Int)<(bs.length:Int)
 ·have so:∀{e:Env} {gg:Rows} {nx:Nat},(e 46=.int .i64 (IntKind.i64.wrap ((j:Int)+1)))->(gg ⟨190002001,σ2.next+1⟩=some ⟨true,1,dU (cm L) cnt⟩)->(st_c.next<=nx/\((dC L (bs.take (j+1))=[]/\e 14=.ck)∨∃p:Id,e 14=.own p 0 (dC L (bs.take (j+1))).length/\gg p=some ⟨true,3,(dC L (bs.take (j+1))).map ay⟩/\st_c.next<=p.cC/\p.cC<nx/\0<(dC L (bs.take (j+1))).length))->∃m0,m0<(bs.length)-j/\∃j:Nat,m0=(bs.length)-j/\j<=(bs.length)/\e 46=.int .i64 (j:Int)/\gg ⟨190002001,σ2.next+1⟩=some ⟨true,1,dU (cm L) cnt⟩/\(st_c.next<=nx/\((dC L (bs.take j)=[]/\e 14=.ck)∨∃p:Id,e 14=.own p 0 (dC L (bs.take j)).length/\gg p=some ⟨true,3,(dC L (bs.take j)).map ay⟩/\st_c.next<=p.cC/\p.cC<nx/\0<(dC L (bs.take j)).length)):=fun x1 x2 x3=>⟨_,ae,j+1,rfl,ae,(by rw[x1,aB ae]),x2,x3⟩
  have jI:j<bs.length:=ae
  have FX:(bs.map ay)[j]? =some (ay bs[j]):=by simp[jI]
  have NX:=hb _ (List.getElem_mem jI)
  have hs:=AN L (bs.take j) bs[j]
  rw[<-List.take_succ_eq_append_getElem jI]at hs
  generalize bs[j]=b at *
  have hA:=fG (f:=cm L) NX.1
  have hB:=fG (f:=cm L) NX.2
  have gU:(b.a:Int)<(cnt:Int):=ae
  have fE:(b.b:Int)<(cnt:Int):=ae
  rw[eN]at hA hB
  have e1:(dC L (bs.take j)).length+1<=16777216:=ae
  have kf:((dC L (bs.take j)).map ay).length=(dC L (bs.take j)).length:=by simp
  by_cases he:cm L b.a=cm L b.b
  ·rw[if_pos he,List.append_nil]at hs
   have uY:decide ((cm L b.a:Int)=(cm L b.b:Int))=true:=decide_eq_true (by rw[he])
   (try((repeat(revert hN;revert N;apply Pn.out));refine wk (tw @f46 (tw @fg0 (tw @f1 (tw @f8 (tw @f9 (tw @f44 (tw @f45 (tw @hj (tw @FX (tw @hA (tw @hB (tw @gU (tw @fE (tw @tl (tw @uY (tw @JP (tw @ay.eq_1 (tw @Bool.not_true @Bool.not_false)))))))))))))))))) ?_;(repeat(refine Pn.mk ?_;intro N hN))))
   refine so ?_ ?_ (by(try dsimp only);exact⟨ae,by
    rw[hs]
    rcases fO with⟨h1,h2⟩|⟨p,h1,h2,h3,h4,h5⟩
    ·exact .inl ⟨h1,sd @h2⟩
    ·have Bi:=eX h4
     exact .inr ⟨p,sd @h1,sd (tw @h2 @Bi),h3,ae,h5⟩⟩)
   all_goals simp only[go_sem, ↓reduceIte,Nat.reduceEqDiff,Nat.reduceAdd,Nat.reduceSub,Nat.reduceLeDiff,reduceCtorEq,f46,fg0,f1,f8,f9,f44,f45,JP]
  ·rw[if_neg he]at hs
   have uY:decide ((cm L b.a:Int)=(cm L b.b:Int))=false:=decide_eq_false fun h=>he ae
   rcases fO with⟨h1,f14⟩|⟨p,f14,fg,PT,Oc,hp3⟩
   ·rw[h1]at hs
    (try((repeat(revert hN;revert N;apply Pn.out));refine wk (tw @f46 (tw @fg0 (tw @f1 (tw @f8 (tw @f9 (tw @f44 (tw @f45 (tw @f14 (tw @hj (tw @FX (tw @hA (tw @hB (tw @gU (tw @fE (tw @tl (tw @uY (tw @JP (tw @ay.eq_1 (tw @Bool.not_true @Bool.not_false))))))))))))))))))) ?_;(repeat(refine Pn.mk ?_;intro N hN))))
    refine so ?_ ?_ (by(try dsimp only);exact⟨ae,.inr ⟨⟨190017015,st_f.next+1+1+1⟩,by rw[hs];simp only[go_sem, ↓reduceIte,Nat.reduceEqDiff,Nat.reduceAdd,Nat.reduceSub,Nat.reduceLeDiff,reduceCtorEq,List.nil_append,List.length_cons,List.length_nil],by rw[hs];simp only[go_sem, ↓reduceIte,Nat.reduceEqDiff,Nat.reduceAdd,Nat.reduceSub,Nat.reduceLeDiff,reduceCtorEq,ay,List.nil_append,List.map_cons,List.map_nil],bW,bW,by rw[hs];simp⟩⟩)
    all_goals simp only[go_sem, ↓reduceIte,Nat.reduceEqDiff,Nat.reduceAdd,Nat.reduceSub,Nat.reduceLeDiff,reduceCtorEq,f46,fg0,f1,f8,f9,f44,f45,JP]
   ·have x1:=ep (a:=⟨190002001,σ2.next+1⟩) (b:=p) bW
    have Bi:=eX Oc
    (try((repeat(revert hN;revert N;apply Pn.out));refine wk (tw @f46 (tw @fg0 (tw @f1 (tw @f8 (tw @f9 (tw @f44 (tw @f45 (tw @f14 (tw @fg (tw @hj (tw @FX (tw @hA (tw @hB (tw @gU (tw @fE (tw @tl (tw @uY (tw @x1 (tw @Bi (tw @JP (tw @e1 (tw @kf (tw @ay.eq_1 (tw @Bool.not_true @Bool.not_false)))))))))))))))))))))))) ?_;(repeat(refine Pn.mk ?_;intro N hN))))
    refine so ?_ ?_ (by(try dsimp only);exact⟨ae,.inr ⟨⟨190017015,st_f.next+1+1+1⟩,by rw[hs,List.length_append];simp only[go_sem, ↓reduceIte,Nat.reduceEqDiff,Nat.reduceAdd,Nat.reduceSub,Nat.reduceLeDiff,reduceCtorEq,List.length_cons,List.length_nil],by rw[hs,List.map_append,List.map_cons,List.map_nil];simp only[go_sem, ↓reduceIte,Nat.reduceEqDiff,Nat.reduceAdd,Nat.reduceSub,Nat.reduceLeDiff,reduceCtorEq,ay],bW,bW,by rw[hs];simp⟩⟩)
    all_goals simp only[go_sem, ↓reduceIte,Nat.reduceEqDiff,Nat.reduceAdd,Nat.reduceSub,Nat.reduceLeDiff,reduceCtorEq,f46,fg0,f1,f8,f9,f44,f45,x1,JP]
 ·have gW:j=bs.length:=ae
  subst gW
  rw[List.take_length]at fO
  rcases fO with⟨h1,f14⟩|⟨p,f14,fg,PT,Oc,hp3⟩
  ·(try((repeat(revert hN;revert N;apply Pn.out));refine wk (tw @f46 (tw @fg0 (tw @f1 (tw @f8 (tw @f9 (tw @f44 (tw @f45 (tw @f14 (tw @hj @tj))))))))) ?_;(repeat(refine Pn.mk ?_;intro N hN))))
   refine j0 (.inl rfl) (r1:=.int .i64 ((leads cnt L).length:Int)) (sd @Nat.zero_add) (by simp only[go_sem, ↓reduceIte,Nat.reduceEqDiff,Nat.reduceAdd,Nat.reduceSub,Nat.reduceLeDiff,reduceCtorEq];rfl) ?_
   simp only[eV,aI,aW,dw,gC,h1,Nu,Option.map_some]
  ·(try((repeat(revert hN;revert N;apply Pn.out));refine wk (tw @f46 (tw @fg0 (tw @f1 (tw @f8 (tw @f9 (tw @f44 (tw @f45 (tw @f14 (tw @hj @tj))))))))) ?_;(repeat(refine Pn.mk ?_;intro N hN))))
   refine j0 (.inl rfl) (r1:=.int .i64 ((leads cnt L).length:Int)) (sd @Nat.zero_add) (by simp only[go_sem, ↓reduceIte,Nat.reduceEqDiff,Nat.reduceAdd,Nat.reduceSub,Nat.reduceLeDiff,reduceCtorEq];rfl) ?_
   have h1:gw st_f.get 5 (.own p 0 (dC L bs).length)=some (.sl ((dC L bs).map ay)):=e9 (sz:=3) fg rfl fun b=>uU _ 3 b
   simp only[eV,aI,aW,dw,h1,AQ hp3,Option.map_some]
theorem xQ (cnt:Nat) (uL:1<=cnt) (hn:cnt<=1048576) (t:Int):ak Tryz.prog 190 [.int .i64 cnt,.ck,.int .i64 t] (.iJ [.int .i64 cnt,.ck]):=by
 refine ak.body eM rfl fun hl n0=>?_
 clear hl
 have h1:ak Tryz.prog 202 [.ck] .ck:=by
  refine ak.body eM rfl fun hl n0=>?_
  clear hl
  (try((repeat(revert hN;revert N;apply Pn.out));refine wk @Nat.zero_add ?_;(repeat(refine Pn.mk ?_;intro N hN))))
  exact xd (.inl rfl) (r0:=.ck) (sd @Nat.zero_add) (gC _ _)
 have h2:ak Tryz.prog 201 [.ck,.fn 203 [.dq [.int .i64 t]]] .ck:=by
  have Bf:=(zb [] t (by simp)).cut mixed (.ck (.same _ .nil))
  refine ak.body eM rfl fun hl n0=>?_
  clear hl
  (try((repeat(revert hN;revert N;apply Pn.out));refine wk @Nat.zero_add ?_;(repeat(refine Pn.mk ?_;intro N hN))))
  refine .inl ⟨_,ak.x Bf (by simp only[ai,ao,aY,cL,aV,List.all_cons,List.all_nil,AV.cell,Bool.and_true,if_true,Option.map_some]),?_⟩
  refine hN _ _ ?_
  clear hN N
  have hd:decide (jd (fun b:PB=>decide (b.s<t)) []= -1)=true:=rfl
  (try((repeat(revert hN;revert N;apply Pn.out));refine wk @hd ?_;(repeat(refine Pn.mk ?_;intro N hN))))
  exact xd (.inl rfl) (r0:=.ck) (sd @Nat.zero_add) (gC _ _)
 have Il:=(wh cnt uL hn [] (fun b h=>by cases h) (by simp)).cut mixed (.same _ (.ck .nil))
 (repeat(first|((repeat(revert hN;revert N;apply Pn.out));refine wk @Nat.zero_add ?_;(repeat(refine Pn.mk ?_;intro N hN)))|((try apply Or.inl);refine⟨_,ak.x (h1) (sd @Nat.zero_add),?_⟩;refine hN _ _ ?_;clear hN N)))
 refine .inl ⟨_,ak.x h2 ?_,?_⟩
 ·have:V.fz (dM (bU (fun _=>none) ⟨190000000,n0⟩ ⟨true,1,[[.int .i64 t]]⟩)) 5 (.ptr ⟨190000000,n0⟩ 0 0)=some (.dq [.int .i64 t]):=tb (sz:=1) (rows:=[[.int .i64 t]]) (by simp[dM,bU]) rfl (by simp only[List.drop_zero,ai,ao,aD,Option.map_some])
  simp only[ai,ao,aY,cL,this,List.all_cons,List.all_nil,AV.cell,Bool.and_true,if_true,Option.map_some]
 refine hN _ _ ?_
 clear hN N
 have fE:eR ([]:List PB)=id:=rfl
 rw[fE]at Il
 have hL:kc id:=fE▸ui ([]:List PB)
 have Rj:(leads cnt id).length=cnt:=by rw[leads,List.filter_eq_self.2 (fun a _=>by simp)];simp
 generalize (id:Nat->Nat)=L at *
 have tj:((fI cnt L).map Bb).length=(leads cnt L).length:=by simp[fI]
 have Un:=kj cnt L
 have jN:(0:Int)<=(cnt:Int):=ae
 have qk:(cnt:Int)<=((16777216:Nat):Int):=ae
 have ij:List.replicate cnt [AV.int .i64 0]=dU (dm cnt L 0 0) cnt:=by rw[xr,pr]
 (repeat(first|((repeat(revert hN;revert N;apply Pn.out));refine wk (tw @jN (tw @qk (tw @Int.le_refl (tw @tj @ij)))) ?_;(repeat(refine Pn.mk ?_;intro N hN)))|((try apply Or.inl);refine⟨_,ak.x (Il) (sd (tw @jN (tw @qk (tw @Int.le_refl (tw @tj @ij))))),?_⟩;refine hN _ _ ?_;clear hN N)))
 refine aT (fun n env st=>∃i:Nat,n=((leads cnt L).length)-i/\i<=((leads cnt L).length)/\env 27=.int .i64 (i:Int)/\st.get ⟨190002001,n0+1+1⟩=some ⟨true,1,dU (dm cnt L i 0) cnt⟩/\(n0+1+1<st.next)) ((leads cnt L).length) ⟨0,ae,ae,sl (tw @ij @tj),sl (tw @ij @tj),bW⟩ ?_
 rintro n_c env_c st_c ⟨i,rfl,cle,c27,cg0,cI0⟩ cfr
 have c1:=cfr 1 (by kernel_rfl);have c8:=cfr 8 (by kernel_rfl);have c9:=cfr 9 (by kernel_rfl);have xN:=cfr 25 (by kernel_rfl);have xO:=cfr 26 (by kernel_rfl)
 simp only[go_sem, ↓reduceIte,Nat.reduceEqDiff,Nat.reduceAdd,Nat.reduceSub,Nat.reduceLeDiff,reduceCtorEq,ij,tj]at c1 c8 c9 xN xO
 clear cfr
 by_cases hi:(i:Int)<((leads cnt L).length:Int)
 ·have iM:∀{e:Env} {gg:Rows} {nx:Nat},(e 27=.int .i64 (IntKind.i64.wrap ((i:Int)+1)))->(gg ⟨190002001,n0+1+1⟩=some ⟨true,1,dU (dm cnt L (i+1) 0) cnt⟩)->(n0+1+1<nx)->∃m0,m0<((leads cnt L).length)-i/\∃i:Nat,m0=((leads cnt L).length)-i/\i<=((leads cnt L).length)/\e 27=.int .i64 (i:Int)/\gg ⟨190002001,n0+1+1⟩=some ⟨true,1,dU (dm cnt L i 0) cnt⟩/\(n0+1+1<nx):=fun x1 x2 x3=>⟨_,ae,i+1,rfl,ae,(by rw[x1,aB ae]),x2,x3⟩
  have fB:i<(leads cnt L).length:=ae
  have gT:((fI cnt L).map Bb)[i]? =some (Bb (members cnt L (leads cnt L)[i])):=by simp[fI,fB]
  have oy:(leads cnt L).getD i 0=(leads cnt L)[i]:=by simp[List.getD_eq_getElem?_getD,fB]
  have k6:∀m,dm cnt L i m=fun x=>if cm L x<i then cm L x else if x∈(members cnt L (leads cnt L)[i]).take m then i else 0:=fun m=>by unfold dm;rw[oy]
  have r7:=fun x (hx:x<cnt)=>tE hL (n:=cnt) (k:=x) (i:=i) hx fB
  have kZ:(members cnt L (leads cnt L)[i]).Nodup:=List.nodup_range.filter _
  have Bg:∀x∈members cnt L (leads cnt L)[i],x<cnt:=fun x hx=>(mi.1 hx).1
  have hMc:(members cnt L (leads cnt L)[i]).length<=cnt:=by
   have:=List.length_filter_le (fun k=>L k==(leads cnt L)[i]) (List.range cnt)
   simpa[members]using this
  generalize members cnt L (leads cnt L)[i]=M at *
  have Dp:(M.map eN).length=M.length:=by simp
  (try((repeat(revert hN;revert N;apply Pn.out));refine wk (tw @c27 (tw @cg0 (tw @c1 (tw @c8 (tw @c9 (tw @xN (tw @xO (tw @hi (tw @tj (tw @gT (tw @Bb.eq_1 @Dp))))))))))) ?_;(repeat(refine Pn.mk ?_;intro N hN))))
  refine aT (fun n env st=>∃m:Nat,n=(M.length)-m/\m<=(M.length)/\env 34=.int .i64 (m:Int)/\st.get ⟨190002001,n0+1+1⟩=some ⟨true,1,dU (dm cnt L i m) cnt⟩/\(n0+1+1<st.next)) (M.length) ⟨0,ae,ae,sl (tw @c27 (tw @cg0 (tw @c1 (tw @c8 (tw @c9 (tw @xN (tw @xO @Dp))))))),sl (tw @c27 (tw @cg0 (tw @c1 (tw @c8 (tw @c9 (tw @xN (tw @xO @Dp))))))),bW⟩ ?_
  rintro n_d env_d st_d ⟨m,rfl,dle,d34,dg0,dI0⟩ dfr
  have d1:=dfr 1 (by kernel_rfl);have d8:=dfr 8 (by kernel_rfl);have d9:=dfr 9 (by kernel_rfl);have d10:=dfr 10 (by kernel_rfl);have d25:=dfr 25 (by kernel_rfl);have d26:=dfr 26 (by kernel_rfl);have d27:=dfr 27 (by kernel_rfl);have d32:=dfr 32 (by kernel_rfl);have d33:=dfr 33 (by kernel_rfl)
  simp only[go_sem, ↓reduceIte,Nat.reduceEqDiff,Nat.reduceAdd,Nat.reduceSub,Nat.reduceLeDiff,reduceCtorEq,c27,cg0,c1,c8,c9,xN,xO,Dp]at d1 d8 d9 d10 d25 d26 d27 d32 d33
  clear dfr
  have tl:=gD (dm cnt L i m) cnt
  by_cases hm:(m:Int)<(M.length:Int)
  ·have uk:∀{e:Env} {gg:Rows} {nx:Nat},(e 34=.int .i64 (IntKind.i64.wrap ((m:Int)+1)))->(gg ⟨190002001,n0+1+1⟩=some ⟨true,1,dU (dm cnt L i (m+1)) cnt⟩)->(n0+1+1<nx)->∃m0,m0<(M.length)-m/\∃m:Nat,m0=(M.length)-m/\m<=(M.length)/\e 34=.int .i64 (m:Int)/\gg ⟨190002001,n0+1+1⟩=some ⟨true,1,dU (dm cnt L i m) cnt⟩/\(n0+1+1<nx):=fun x1 x2 x3=>⟨_,ae,m+1,rfl,ae,(by rw[x1,aB ae]),x2,x3⟩
   have Aj:m<M.length:=ae
   have wm:(M.map eN)[m]? =some (eN M[m]):=by simp[Aj]
   have wH:=Bg _ (List.getElem_mem Aj)
   have Du:(M[m]:Int)<(cnt:Int):=ae
   have y9:=fG (f:=dm cnt L i m) wH
   have ei:(dU (dm cnt L i m) cnt).set M[m] (eN i)=dU (dm cnt L i (m+1)) cnt:=qd wH (by
    have h1:=(r7 _ wH).1 (List.getElem_mem Aj)
    rw[k6]
    simp only[]
    rw[if_neg ae,if_pos (by rw[List.take_succ_eq_append_getElem Aj];exact List.mem_append_right _ (List.mem_singleton.2 rfl))]) fun x hx gI=>by
    rw[k6,k6]
    simp only[]
    rw[List.take_succ_eq_append_getElem Aj]
    simp only[List.mem_append,List.mem_singleton,gI,or_false]
   rw[eN]at ei y9
   generalize M[m]=xm at *
   (try((repeat(revert hN;revert N;apply Pn.out));refine wk (tw @d34 (tw @dg0 (tw @d1 (tw @d8 (tw @d9 (tw @d10 (tw @d25 (tw @d26 (tw @d27 (tw @d32 (tw @d33 (tw @hm (tw @hi (tw @wm (tw @Dp (tw @Du (tw @y9 (tw @tl (tw @ei @eN.eq_1))))))))))))))))))) ?_;(repeat(refine Pn.mk ?_;intro N hN))))
   refine uk ?_ ?_ bW
   all_goals simp only[go_sem, ↓reduceIte,Nat.reduceEqDiff,Nat.reduceAdd,Nat.reduceSub,Nat.reduceLeDiff,reduceCtorEq,d34,dg0,d1,d8,d9,d10,d25,d26,d27,d32,d33,ei]
  ·have kf:m=M.length:=ae
   subst kf
   have mT:dU (dm cnt L i M.length) cnt=dU (dm cnt L (i+1) 0) cnt:=iG fun x hx=>by
    rw[k6,List.take_length]
    simp only[dm,List.take_zero,List.not_mem_nil,if_false]
    have h1:=r7 x hx
    by_cases h2:cm L x<i
    ·rw[if_pos h2,if_pos ae]
    ·rw[if_neg h2]
     by_cases h3:x∈M
     ·rw[if_pos h3,if_pos (by have:=h1.1 h3;omega),h1.1 h3]
     ·rw[if_neg h3,if_neg fun h4=>h3 (h1.2 ae)]
   (try((repeat(revert hN;revert N;apply Pn.out));refine wk (tw @d34 (tw @dg0 (tw @d1 (tw @d8 (tw @d9 (tw @d10 (tw @d25 (tw @d26 (tw @d27 (tw @d32 (tw @d33 (tw @hm (tw @hi (tw @tj @Dp)))))))))))))) ?_;(repeat(refine Pn.mk ?_;intro N hN))))
   refine iM ?_ ?_ bW
   all_goals simp only[go_sem, ↓reduceIte,Nat.reduceEqDiff,Nat.reduceAdd,Nat.reduceSub,Nat.reduceLeDiff,reduceCtorEq,c27,cg0,c1,c8,c9,xN,xO,d34,dg0,d1,d8,d9,d10,d25,d26,d27,d32,d33,mT]
 have nj:i=(leads cnt L).length:=ae
 subst nj
 have Bh:dU (dm cnt L (leads cnt L).length 0) cnt=dU (cm L) cnt:=iG fun x hx=>by rw[dm,if_pos (kM hL hx)]
 rw[Bh]at cg0
 have tl:=gD (cm L) cnt
 (try((repeat(revert hN;revert N;apply Pn.out));refine wk (tw @c27 (tw @cg0 (tw @c1 (tw @c8 (tw @c9 (tw @xN (tw @xO (tw @hi @tj)))))))) ?_;(repeat(refine Pn.mk ?_;intro N hN))))
 refine aT (fun n env st=>∃j:Nat,n=(0)-j/\j<=(0)/\env 46=.int .i64 (j:Int)/\env 14=.ck) (0) ⟨0,ae,ae,sl (tw @c27 (tw @cg0 (tw @c1 (tw @c8 (tw @c9 (tw @xN @xO)))))),sl (tw @c27 (tw @cg0 (tw @c1 (tw @c8 (tw @c9 (tw @xN @xO))))))⟩ ?_
 rintro n_f env_f st_f ⟨j,rfl,fle,f46,f14⟩ ffr
 have f8:=ffr 8 (by kernel_rfl);have f44:=ffr 44 (by kernel_rfl);have f45:=ffr 45 (by kernel_rfl)
 simp only[go_sem, ↓reduceIte,Nat.reduceEqDiff,Nat.reduceAdd,Nat.reduceSub,Nat.reduceLeDiff,reduceCtorEq,c27,cg0,c1,c8,c9,xN,xO]at f8 f44 f45
 clear ffr
 have hj:¬(j:Int)<((0:Nat):Int):=ae
 (try((repeat(revert hN;revert N;apply Pn.out));refine wk (tw @f46 (tw @f14 (tw @f8 (tw @f44 (tw @f45 (tw @hj @tj)))))) ?_;(repeat(refine Pn.mk ?_;intro N hN))))
 refine j0 (.inl rfl) (r1:=.int .i64 ((leads cnt L).length:Int)) (r2:=.ck) (sd @Nat.zero_add) (sd @Nat.zero_add) ?_
 simp only[eV,aI,aW,dw,gC,Rj,Option.map_some]
theorem zS (cnt:Nat) (uL:1<=cnt) (hn:cnt<=1048576) (bs:List PB) (hb:∀b∈bs,b.a<cnt/\b.b<cnt) (ke:bs.length<=1048576) (t:Int):ak Tryz.prog 190 [.int .i64 cnt,AP bs,.int .i64 t] (.iJ [.int .i64 (leads cnt (eR (aQ t bs))).length,AP (dC (eR (aQ t bs)) bs)]):=by
 cases bs with
 |nil=>
  have h:=xQ cnt uL hn t
  have Rj:(leads cnt (eR (aQ t []))).length=cnt:=by
   show(leads cnt id).length=cnt
   rw[leads,List.filter_eq_self.2 (fun a _=>by simp)];simp
  rw[Rj]
  exact h
 |cons b r=>
  rw[AQ (by simp)]
  exact xR cnt uL hn (b::r) hb (by simp) ke t
end Go.Proofs.YtkbipfflibjfbaaGreat.V

namespace Go.Proofs.YtkbipfflibjfbaaGreat.V
open Go.RowKit
attribute [local irreducible] ef wpOps gN Call
attribute [local go_sem] aH fJ eW fZ gh dh upd cD K.av cP AV.cells AV.cell rowOf rowsOf part ld rowAt bU cw dI ek iq bL de eD gj fq dx ew db da dW dY bR bd cU bQ cW cV er ez eu cR bV dc eo bP aL cY cI im br cH bz bc dB bo dF AV.undef bx bE dZ ej dV ec cJ eC eE cF eB eA cX cZ List.getD_cons_zero List.getD_cons_succ List.getD_nil List.all_cons List.all_nil Bool.and_true Bool.true_and Bool.and_self Bool.not_true Bool.not_false Option.map_some Option.map_none Option.bind_some Option.bind_none List.length_cons List.length_nil List.take_succ_cons List.take_zero List.take_nil List.drop_succ_cons List.drop_zero List.drop_nil List.head?_cons List.map_cons List.map_nil List.getElem?_cons_zero List.getElem?_cons_succ List.cons_append List.nil_append List.append_nil List.length_map List.set_cons_zero List.set_cons_succ Nat.reduceMul eq_self Int.toNat_natCast Int.natCast_nonneg and_self true_and and_true decide_true decide_false Bool.false_eq_true Nat.zero_add Nat.add_zero List.contains_cons List.contains_nil Bool.or_false Bool.false_or beq_self_eq_true Nat.reduceBEq ne_eq not_true_eq_false not_false_eq_true Id.mk.injEq false_and and_false Nat.reduceLT Int.reduceLE Int.reduceLT Int.reduceToNat Int.reduceNeg Int.reduceAdd Nat.le_refl List.length_append beq_true beq_false Bool.not_eq_eq_eq_not or_false false_or dM ai ao aD bt cz aY bj aV bf cL bJ
attribute [local go_sem] Gl
section
attribute [-go_sem] dI
theorem M1 (n:Nat) (hn:n<=1048576):ak Tryz.prog 244 [.int .u64 1,.int .u64 n] (.iJ [.int .u64 0,.int .u64 n]):=by
 refine ak.body eM rfl fun hl n0=>?_
 clear hl
 have b1:(BitVec.ofInt 64 (n:Int)&&& BitVec.ofInt 64 4294967295).toNat=n:=by
  rw[BitVec.toNat_and]
  have e1:(BitVec.ofInt 64 (n:Int)).toNat=n:=by rw[BitVec.toNat_ofInt];omega
  have e2:(BitVec.ofInt 64 4294967295).toNat=2 ^ 32-1:=by decide
  rw[e1,e2]
  exact Nat.and_two_pow_sub_one_of_lt_two_pow ae
 have zn:IntKind.u64.wrap (n:Int)=n:=by rw[IntKind.wrap_u64];omega
 have i1:dI .and .u64 (n:Int) 4294967295=some (.int .u64 n):=by
  show some (AV.int .u64 (IntKind.u64.wrap (((BitVec.ofInt 64 (n:Int)&&& BitVec.ofInt 64 4294967295).toNat:Nat):Int)))= _
  rw[b1,zn]
 have i2:dI .and .u64 1 4294967295=some (.int .u64 1):=rfl
 have i3:dI .and .u64 0 4294967295=some (.int .u64 0):=rfl
 have i4:dI .mul .u64 1 (n:Int)=some (.int .u64 n):=by simp only[dI,Int.one_mul,zn]
 have i5:dI .mul .u64 0 (n:Int)=some (.int .u64 0):=by simp only[dI,Int.zero_mul];rfl
 have i6:dI .mul .u64 1 0=some (.int .u64 0):=rfl
 have i7:dI .mul .u64 0 0=some (.int .u64 0):=rfl
 have i8:dI .add .u64 0 0=some (.int .u64 0):=rfl
 have a3:Int.fdiv 1 (2 ^ min 32 64)=0:=by decide
 have a4:Int.fdiv (n:Int) (2 ^ min 32 64)=0:=by
  rw[Int.fdiv_eq_ediv_of_nonneg _ (by decide)]
  have h32:(2:Int) ^ min 32 64=4294967296:=by decide
  exact Int.ediv_eq_zero_of_lt ae ae
 have z1:Int.fdiv 0 (2 ^ min 32 64)=0:=by decide
 (try((repeat(revert hN;revert N;apply Pn.out));refine wk (tw @i1 (tw @i2 (tw @i3 (tw @i4 (tw @i5 (tw @i6 (tw @i7 (tw @i8 (tw @a3 (tw @a4 @z1)))))))))) ?_;(repeat(refine Pn.mk ?_;intro N hN))))
 refine j0 (.inl rfl) (r1:=.int .u64 0) (r2:=.int .u64 n) (sd @Nat.zero_add) (sd @Nat.zero_add) ?_
 simp only[eV,aI,aW,dw,Option.map_some]
end
theorem Tp (n:Nat) (hn:n<=1048576):ak Tryz.prog 242 [.int .u64 1,.int .u64 n] (.iJ [.int .u64 0,.int .u64 n]):=by
 refine ak.body eM rfl fun hl n0=>?_
 clear hl
 have h:=M1 n hn
 (repeat(first|((repeat(revert hN;revert N;apply Pn.out));refine wk @Nat.zero_add ?_;(repeat(refine Pn.mk ?_;intro N hN)))|((try apply Or.inl);refine⟨_,ak.x (h) (sd @Nat.zero_add),?_⟩;refine hN _ _ ?_;clear hN N)))
 refine j0 (.inl rfl) (r1:=.int .u64 0) (r2:=.int .u64 n) (sd @Nat.zero_add) (sd @Nat.zero_add) ?_
 simp only[eV,aI,aW,dw,Option.map_some]
theorem Kw (cnt:Nat) (uL:1<=cnt) (hn:cnt<=1048576) (v:Int) (x:Id) (σ:ax) (hx:σ.get x=some ⟨true,1,[[.int .i64 v]]⟩) (Wd:x.cC<σ.next):
  Call Tryz.prog 237 [.own x 0 1,.int .i64 cnt] σ fun r σ'=>∃o:Id,r=.own o 0 cnt/\σ'.get o=some ⟨true,1,List.replicate cnt [.int .i64 v]⟩/\σ.next<=o.cC/\o.cC<σ'.next/\∀i:Id,i.cC<σ.next->σ'.get i=σ.get i:=by
 refine fj eM rfl fun hl=>?_
 clear hl
 have h:=Tp cnt hn
 have w1:IntKind.u64.wrap (cnt:Int)=cnt:=by rw[IntKind.wrap_u64];omega
 have w2:IntKind.i64.wrap (cnt:Int)=cnt:=K8 ae
 have w0:IntKind.u64.wrap ((1:Nat):Int)=1:=by decide
 have g1:¬(cnt:Int)<0:=ae
 have g2:¬(9223372036854775807:Int)<cnt:=ae
 have jN:(0:Int)<=(cnt:Int):=ae
 have qk:(cnt:Int)<=((16777216:Nat):Int):=ae
 have LC:=eX Wd
 have sR:(List.replicate cnt [AV.int .i64 0]).length=cnt:=List.length_replicate
 have m1:min 1 cnt=1:=ae
 (repeat(first|((repeat(revert hN;revert N;apply Pn.out));refine wk (tw @w0 (tw @w1 (tw @w2 (tw @g1 (tw @g2 (tw @jN (tw @qk (tw @Int.le_refl (tw @Nat.le_refl (tw @hx (tw @LC (tw @sR @m1)))))))))))) ?_;(repeat(refine Pn.mk ?_;intro N hN)))|((try apply Or.inl);refine⟨_,ak.x (h) (sd (tw @w0 (tw @w1 (tw @w2 (tw @g1 (tw @g2 (tw @jN (tw @qk (tw @Int.le_refl (tw @Nat.le_refl (tw @hx (tw @LC (tw @sR @m1))))))))))))),?_⟩;refine hN _ _ ?_;clear hN N)))
 refine aT (fun m env st=>∃k:Nat,m=cnt-k/\1<=k/\k<=cnt/\env 8=.int .i64 (k:Int)/\st.get ⟨237006002,σ.next+1+1+1+1⟩=some ⟨true,1,List.replicate k [.int .i64 v]++List.replicate (cnt-k) [.int .i64 0]⟩/\σ.next+4<st.next/\∀i:Id,i.cC<σ.next->st.get i=σ.get i) (cnt-1) ⟨1,rfl,Nat.le_refl _,uL,by(simp only[go_sem, ↓reduceIte,Nat.reduceEqDiff,Nat.reduceAdd,Nat.reduceSub,Nat.reduceLeDiff,reduceCtorEq,m1])<;>rfl,?_,bW,fun i hi=>?_⟩ ?_
 ·simp only[go_sem, ↓reduceIte,Nat.reduceEqDiff,Nat.reduceAdd,Nat.reduceSub,Nat.reduceLeDiff,reduceCtorEq]
  rw[List.drop_replicate];rfl
 ·have EB:=eX hi
  simp only[go_sem, ↓reduceIte,Nat.reduceEqDiff,Nat.reduceAdd,Nat.reduceSub,Nat.reduceLeDiff,reduceCtorEq,EB]
 rintro m env_b st_b ⟨k,rfl,re,uK,b8,bg,bn,bfr⟩ bkp
 have b7:=bkp 7 (by kernel_rfl)
 simp only[go_sem, ↓reduceIte,Nat.reduceEqDiff,Nat.reduceAdd,Nat.reduceSub,Nat.reduceLeDiff,reduceCtorEq]at b7
 clear bkp
 have S5:(List.replicate k [AV.int .i64 v]++List.replicate (cnt-k) [AV.int .i64 0]).length=cnt:=by simp;omega
 by_cases hk:(k:Int)<(cnt:Int)
 ·have fK:k<cnt:=ae
  have tk:(k:Int)<=(cnt:Int):=ae
  have hw:IntKind.i64.wrap ((k:Int)+((min k (cnt-k):Nat):Int))=((k+min k (cnt-k):Nat):Int):=by rw[aJ ae];omega
  have oA:List.take k (List.replicate k [AV.int .i64 v]++List.replicate (cnt-k) [AV.int .i64 0])=List.replicate k [AV.int .i64 v]:=List.take_left' (by simp)
  have dz:(List.replicate k [AV.int .i64 v]).all (fun c=>c.length==1&&c.all AV.cell)=true:=List.all_eq_true.2 fun c hc=>by rw[List.eq_of_mem_replicate hc];rfl
  have hlr:(List.replicate k [AV.int .i64 v]).length=k:=List.length_replicate
  have P3:k+(cnt-k)=cnt:=ae
  have wD:List.replicate k [AV.int .i64 v]++List.take (min k (cnt-k)) (List.replicate k [AV.int .i64 v])++List.drop (k+min k (cnt-k)) (List.replicate k [AV.int .i64 v]++List.replicate (cnt-k) [AV.int .i64 0])=List.replicate (k+min k (cnt-k)) [AV.int .i64 v]++List.replicate (cnt-(k+min k (cnt-k))) [AV.int .i64 0]:=by
   rw[List.take_replicate,List.drop_append,List.drop_of_length_le (by simp),List.nil_append,hlr,List.drop_replicate,List.replicate_append_replicate]
   congr 2
   ·omega
   ·omega
  (try((repeat(revert hN;revert N;apply Pn.out));refine wk (tw @b7 (tw @b8 (tw @bg (tw @S5 (tw @hk (tw @tk (tw @uK (tw @hw (tw @fK (tw @Nat.sub_zero (tw @oA (tw @dz (tw @hlr (tw @P3 (tw @Nat.le_refl @wD))))))))))))))) ?_;(repeat(refine Pn.mk ?_;intro N hN))))
  refine⟨_,?_,k+min k (cnt-k),rfl,ae,ae,sd @hw,sd @wD,bW,fun i hi=>?_⟩
  ·omega
  ·have EB:=eX hi
   have:=bfr i hi
   simp only[go_sem, ↓reduceIte,Nat.reduceEqDiff,Nat.reduceAdd,Nat.reduceSub,Nat.reduceLeDiff,reduceCtorEq,EB,this]
 ·have mQ:k=cnt:=ae
  subst mQ
  (try((repeat(revert hN;revert N;apply Pn.out));refine wk (tw @b7 (tw @b8 (tw @bg (tw @S5 @hk)))) ?_;(repeat(refine Pn.mk ?_;intro N hN))))
  refine gJ (.inl rfl) (vs:=[.own ⟨237006002,σ.next+1+1+1+1⟩ 0 k]) (sd @Nat.zero_add) ⟨⟨237006002,σ.next+1+1+1+1⟩,rfl,by simp only[go_sem, ↓reduceIte,Nat.reduceEqDiff,Nat.reduceAdd,Nat.reduceSub,Nat.reduceLeDiff,reduceCtorEq,bg];simp,bW,bW,fun i hi=>bfr i hi⟩
end Go.Proofs.YtkbipfflibjfbaaGreat.V

namespace Go.Proofs.YtkbipfflibjfbaaGreat.V
open Go.RowKit
attribute [local irreducible] ef wpOps gN Call
attribute [local go_sem] aH fJ eW fZ gh dh upd cD K.av cP AV.cells AV.cell rowOf rowsOf part ld rowAt bU cw dI ek iq bL de eD gj fq dx ew db da dW dY bR bd cU bQ cW cV er ez eu cR bV dc eo bP aL cY cI im br cH bz bc dB bo dF AV.undef bx bE dZ ej dV ec cJ eC eE cF eB eA cX cZ List.getD_cons_zero List.getD_cons_succ List.getD_nil List.all_cons List.all_nil Bool.and_true Bool.true_and Bool.and_self Bool.not_true Bool.not_false Option.map_some Option.map_none Option.bind_some Option.bind_none List.length_cons List.length_nil List.take_succ_cons List.take_zero List.take_nil List.drop_succ_cons List.drop_zero List.drop_nil List.head?_cons List.map_cons List.map_nil List.getElem?_cons_zero List.getElem?_cons_succ List.cons_append List.nil_append List.append_nil List.length_map List.set_cons_zero List.set_cons_succ Nat.reduceMul eq_self Int.toNat_natCast Int.natCast_nonneg and_self true_and and_true decide_true decide_false Bool.false_eq_true Nat.zero_add Nat.add_zero List.contains_cons List.contains_nil Bool.or_false Bool.false_or beq_self_eq_true Nat.reduceBEq ne_eq not_true_eq_false not_false_eq_true Id.mk.injEq false_and and_false Nat.reduceLT Int.reduceLE Int.reduceLT Int.reduceToNat Int.reduceNeg Int.reduceAdd Nat.le_refl List.length_append beq_true beq_false Bool.not_eq_eq_eq_not or_false false_or dM ai ao aD bt cz aY bj aV bf cL bJ
def lP (R:Nat->Id) (n k:Nat):List (List AV):=(List.range k).map fun i=>[.own (R i) 0 n]
theorem kN (R:Nat->Id) (n k:Nat):(lP R n k).length=k:=by simp[lP]
theorem sI {R:Nat->Id} {n k i:Nat} (h:i<k):(lP R n k)[i]? =some [.own (R i) 0 n]:=by simp[lP,h]
theorem tM (R:Nat->Id) (n k:Nat):lP R n (k+1)=lP R n k++[[.own (R k) 0 n]]:=by simp[lP,List.range_succ]
def ym (c:Nat->Nat->Int) (n:Nat):List (List AV):=(List.range n).map fun i=>[.sl (eF (c i) n)]
theorem Db {c:Nat->Nat->Int} {n i:Nat} (h:i<n):(ym c n)[i]? =some [.sl (eF (c i) n)]:=by simp[ym,h]
theorem xq (c:Nat->Nat->Int) (n:Nat):(ym c n).length=n:=by simp[ym]
structure Gu (X o1 o2:Id) (R1 R2:Nat->Id) (n nb:Nat):Prop where
 sx:X.site=204001001
 s1:o1.site=204004008
 s2:o2.site=204005008
 UF:∀i,i<n->(R1 i).site=204004006
 Ow:∀i,i<n->(R2 i).site=204005006
 i1:∀i j,i<n->j<n->R1 i=R1 j->i=j
 i2:∀i j,i<n->j<n->R2 i=R2 j->i=j
 vx:X.cC<nb
 v1:o1.cC<nb
 v2:o2.cC<nb
 Wp:∀i,i<n->(R1 i).cC<nb
 TC:∀i,i<n->(R2 i).cC<nb
structure oP (g:Rows) (X o1 o2:Id) (R1 R2:Nat->Id) (n:Nat) (c f:Nat->Nat->Int):Prop where
 x:g X=some ⟨true,2,[[.own o1 0 n,.own o2 0 n]]⟩
 t1:g o1=some ⟨true,1,lP R1 n n⟩
 t2:g o2=some ⟨true,1,lP R2 n n⟩
 r1:∀i,i<n->g (R1 i)=some ⟨true,1,eF (c i) n⟩
 r2:∀i,i<n->g (R2 i)=some ⟨true,1,eF (f i) n⟩
theorem o3 {f:Nat->Nat->Int} {a b:Nat} {d:Int} {n:Nat} (hb:b<n):(eF (f a) n).set b (aX (f a b+d))=eF (bump f a b d a) n:=lQ hb (by simp[bump]) fun i _ hi=>by simp[bump,hi]
theorem kG {f:Nat->Nat->Int} {a b i:Nat} {d:Int} (h:i≠a):bump f a b d i=f i:=by funext v;simp[bump,h]
theorem oP.add {g g':Rows} {X o1 o2:Id} {R1 R2:Nat->Id} {n nb:Nat} {c f:Nat->Nat->Int} (I:Gu X o1 o2 R1 R2 n nb) (h:oP g X o1 o2 R1 R2 n c f) (b:PB) (ha:b.a<n) (hb:b.b<n) (hA:b.a≠b.b->g' (R1 b.a)=some ⟨true,1,eF (bump c b.a b.b b.s b.a) n⟩) (hB:g' (R1 b.b)=some ⟨true,1,eF (oD c b b.b) n⟩) (hf:∀i:Id,i.cC<nb->(i=R1 b.a)=False->(i=R1 b.b)=False->g' i=g i):oP g' X o1 o2 R1 R2 n (oD c b) f:=by
 have ne:∀{i:Id} {s:Nat},i.site=s->(s==204004006)=false->∀a,a<n->(i=R1 a)=False:=fun {i s} hi hs a ha=>by
  simp only[eq_iff_iff,iff_false]
  rintro rfl
  rw[I.UF a ha]at hi
  subst hi
  simp at hs
 refine⟨(hf _ I.vx (ne I.sx (by decide) _ ha) (ne I.sx (by decide) _ hb)).trans h.x,(hf _ I.v1 (ne I.s1 (by decide) _ ha) (ne I.s1 (by decide) _ hb)).trans h.t1,(hf _ I.v2 (ne I.s2 (by decide) _ ha) (ne I.s2 (by decide) _ hb)).trans h.t2,fun i hi=>?_,fun i hi=>(hf _ (I.TC i hi) (ne (I.Ow i hi) (by decide) _ ha) (ne (I.Ow i hi) (by decide) _ hb)).trans (h.r2 i hi)⟩
 by_cases Lr:i=b.b
 ·subst Lr;exact hB
 ·by_cases Lq:i=b.a
  ·subst Lq
   rw[hA Lr,oD,kG Lr]
  ·rw[oD,kG Lr,kG Lq,hf _ (I.Wp i hi) (by simp only[eq_iff_iff,iff_false];exact fun he=>Lq (I.i1 i _ hi ha he)) (by simp only[eq_iff_iff,iff_false];exact fun he=>Lr (I.i1 i _ hi hb he))]
   exact h.r1 i hi
def l9 (n:Nat) (c f:Nat->Nat->Int):List AV:=[.sl (ym c n),.sl (ym f n)]
theorem Gj {g:Rows} {R:Nat->Id} {n k:Nat} {c:Nat->Nat->Int} (h:∀i,i<k->g (R i)=some ⟨true,1,eF (c i) n⟩) (m:Nat):eK (dM g) (m+3) (lP R n k)=some ((List.range k).map fun i=>[.sl (eF (c i) n)]):=by
 induction k with
 |zero=>rw[show lP R n 0=[]from rfl,eK];rfl
 |succ k ih=>
  have e1:V.fz (dM g) (m+3) (.own (R k) 0 n)=some (.sl (eF (c k) n)):=by
   rw[ig];simp only[dM,h k ae,Option.map_some,if_true]
   rw[if_pos (by rw[dS];omega),List.drop_zero,List.take_of_length_le (by rw[dS];omega),AX];rfl
  have app:∀(xs ys:List (List AV)) (UH TQ:List (List AV)),eK (dM g) (m+3) xs=some UH->eK (dM g) (m+3) ys=some TQ->eK (dM g) (m+3) (xs++ys)=some (UH++TQ):=by
   intro xs
   induction xs with
   |nil=>intro ys UH TQ h1 h2;rw[eK]at h1;cases h1;exact h2
   |cons a xs ih2=>
    intro ys UH TQ h1 h2
    rw[eK]at h1
    rw[List.cons_append,eK]
    cases ha:cQ (dM g) (m+3) a with
    |none=>simp[ha]at h1
    |some a'=>
     cases hb:eK (dM g) (m+3) xs with
     |none=>simp[ha,hb]at h1
     |some b'=>
      simp[ha,hb]at h1
      subst h1
      rw[ih2 ys b' TQ hb h2];rfl
  rw[tM,List.range_succ,List.map_append]
  refine app _ _ _ _ (ih fun i hi=>h i ae) ?_
  rw[eK,ai,ao,e1,eK];rfl
theorem oP.fz {g:Rows} {X o1 o2:Id} {R1 R2:Nat->Id} {n:Nat} {c f:Nat->Nat->Int} (h:oP g X o1 o2 R1 R2 n c f):V.fz (dM g) 6 (.ptr X 0 0)=some (.dq (l9 n c f)):=by
 refine tb (sz:=2) (rows:=[[.own o1 0 n,.own o2 0 n]]) (by simp[dM,h.x]) rfl ?_
 have e1:V.fz (dM g) 5 (.own o1 0 n)=some (.sl (ym c n)):=by
  rw[ig];simp only[dM,h.t1,Option.map_some,if_true]
  rw[if_pos (by rw[kN];omega),List.drop_zero,List.take_of_length_le (by rw[kN];omega)]
  rw[show eK _ 4 _=some (ym c n)from Gj h.r1 1];rfl
 have e2:V.fz (dM g) 5 (.own o2 0 n)=some (.sl (ym f n)):=by
  rw[ig];simp only[dM,h.t2,Option.map_some,if_true]
  rw[if_pos (by rw[kN];omega),List.drop_zero,List.take_of_length_le (by rw[kN];omega)]
  rw[show eK _ 4 _=some (ym f n)from Gj h.r2 1];rfl
 simp only[List.drop_zero,ai,ao,e1,e2,l9,Option.map_some]
theorem Pg (n:Nat) (c f:Nat->Nat->Int) (u v:Nat) (hu:u<n) (hv:v<n):ak Tryz.prog 238 [.dq (l9 n c f),.int .i64 u,.int .i64 v] (.bool (decide (f u v<c u v))):=by
 refine ak.body eM rfl fun hl n0=>?_
 clear hl
 have h1:=Db (c:=c) hu
 have h2:=Db (c:=f) hu
 have h3:=ee (f:=c u) hv
 have h4:=ee (f:=f u) hv
 have hui:(u:Int)<(n:Int):=ae
 have EB:(v:Int)<(n:Int):=ae
 have l1:=xq c n
 have l2:=xq f n
 have l3:=dS (c u) n
 have l4:=dS (f u) n
 rw[aX]at h3 h4
 (try((repeat(revert hN;revert N;apply Pn.out));refine wk (tw @l9.eq_1 (tw @h1 (tw @h2 (tw @h3 (tw @h4 (tw @hui (tw @EB (tw @l1 (tw @l2 (tw @l3 @l4)))))))))) ?_;(repeat(refine Pn.mk ?_;intro N hN))))
 exact aZ (b:=decide (f u v<c u v)) (.inl rfl) (sd @Nat.zero_add) rfl
theorem HZ (n:Nat):List.replicate n [AV.int .i64 0]=eF (fun _=>0) n:=by
 refine List.ext_getElem? fun i=>?_
 by_cases h:i<n
 ·rw[ee h,List.getElem?_replicate,if_pos h];rfl
 ·rw[List.getElem?_eq_none (by simp;omega),List.getElem?_eq_none (by rw[dS];omega)]
theorem AS {i j:Id} {s t:Nat} (hi:i.site=s) (hj:j.site=t) (h:(s==t)=false):(i=j)=False/\(j=i)=False:=by
 constructor<;>(simp only[eq_iff_iff,iff_false];rintro rfl;rw[hi]at hj;subst hj;simp at h)
theorem CR (cnt:Nat) (uL:1<=cnt) (hn:cnt<=1048576) (bs:List PB) (hb:∀b∈bs,b.a<cnt/\b.b<cnt) (dR:∀b∈bs,0<=b.s/\b.s<=4) (ke:bs.length<=1048576) (σ:ax):
  Call Tryz.prog 204 [.int .i64 cnt,.sl (bs.map ay)] σ fun r σ'=>∃X o1 o2 R1 R2,r=.ptr X 0 0/\Gu X o1 o2 R1 R2 cnt σ'.next/\σ.next<=σ'.next/\oP σ'.get X o1 o2 R1 R2 cnt (lN bs) (fun _ _=>0)/\∀i:Id,i.cC<σ.next->σ'.get i=σ.get i:=by
 refine fj eM rfl fun hl=>?_
 clear hl
 (try((repeat(revert hN;revert N;apply Pn.out));refine wk @Nat.zero_add ?_;(repeat(refine Pn.mk ?_;intro N hN))))
 obtain⟨X,hX⟩:∃X:Id,X=⟨204001001,σ.next+1⟩:=⟨_,rfl⟩
 obtain⟨R1,Sn⟩:∃R:Nat->Id,R=fun k=>⟨204004006,σ.next+3+4*k+1⟩:=⟨_,rfl⟩
 obtain⟨R2,Ej⟩:∃R:Nat->Id,R=fun k=>⟨204005006,σ.next+3+4*k+2⟩:=⟨_,rfl⟩
 have sX:X.site=204001001:=by rw[hX]
 have vX:X.cC=σ.next+1:=by rw[hX]
 have s1:∀k,(R1 k).site=204004006:=fun k=>by rw[Sn]
 have s2:∀k,(R2 k).site=204005006:=fun k=>by rw[Ej]
 have v1:∀k,(R1 k).cC=σ.next+3+4*k+1:=fun k=>by rw[Sn]
 have v2:∀k,(R2 k).cC=σ.next+3+4*k+2:=fun k=>by rw[Ej]
 have jN:(0:Int)<=(cnt:Int):=ae
 have qk:(cnt:Int)<=((16777216:Nat):Int):=ae
 have hz:=HZ cnt
 have t1:lP R1 cnt 0=[]:=rfl
 have t2:lP R2 cnt 0=[]:=rfl
 refine aT (fun n env st=>∃k:Nat,n=(cnt)-k/\k<=(cnt)/\env 11=.int .i64 (k:Int)/\env 5=(.ptr X 0 0)/\(st.next=σ.next+3+4*k/\(∀i:Id,i.cC<σ.next->st.get i=σ.get i)/\∀j,j<k->st.get (R1 j)=some ⟨true,1,eF (fun _=>0) cnt⟩/\st.get (R2 j)=some ⟨true,1,eF (fun _=>0) cnt⟩)/\((k=0/\st.get X=some ⟨true,2,[[.ck,.ck]]⟩)∨∃o1 o2:Id,o1.site=204004008/\o2.site=204005008/\o1.cC<st.next/\o2.cC<st.next/\σ.next<=o1.cC/\σ.next<=o2.cC/\st.get X=some ⟨true,2,[[.own o1 0 k,.own o2 0 k]]⟩/\st.get o1=some ⟨true,1,lP R1 cnt k⟩/\st.get o2=some ⟨true,1,lP R2 cnt k⟩)) (cnt) ⟨0,ae,ae,sl @hX,sl @hX,⟨rfl,fun i hi=>by(have EB:=eX hi);simp only[go_sem, ↓reduceIte,Nat.reduceEqDiff,Nat.reduceAdd,Nat.reduceSub,Nat.reduceLeDiff,reduceCtorEq,EB],fun j hj=>absurd hj (Nat.not_lt_zero j)⟩,.inl ⟨rfl,by rw[hX];simp only[go_sem, ↓reduceIte,Nat.reduceEqDiff,Nat.reduceAdd,Nat.reduceSub,Nat.reduceLeDiff,reduceCtorEq]⟩⟩ ?_
 rintro n_a env_a st_a ⟨k,rfl,ale,fV,a5,kB,aI1⟩ dr
 have a0:=dr 0 (by kernel_rfl);have a1:=dr 1 (by kernel_rfl);have qy:=dr 10 (by kernel_rfl)
 simp only[go_sem, ↓reduceIte,Nat.reduceEqDiff,Nat.reduceAdd,Nat.reduceSub,Nat.reduceLeDiff,reduceCtorEq,hX]at a0 a1 qy
 clear dr
 obtain⟨anx,dr,aR⟩:=kB
 have wX:=eX (i:=X) (n:=st_a.next) ae
 by_cases hk:(k:Int)<(cnt:Int)
 ·have bZ:∀{e:Env} {gg:Rows} {nx:Nat},(e 11=.int .i64 (IntKind.i64.wrap ((k:Int)+1)))->(e 5=(.ptr X 0 0))->(nx=σ.next+3+4*(k+1)/\(∀i:Id,i.cC<σ.next->gg i=σ.get i)/\∀j,j<(k+1)->gg (R1 j)=some ⟨true,1,eF (fun _=>0) cnt⟩/\gg (R2 j)=some ⟨true,1,eF (fun _=>0) cnt⟩)->(((k+1)=0/\gg X=some ⟨true,2,[[.ck,.ck]]⟩)∨∃o1 o2:Id,o1.site=204004008/\o2.site=204005008/\o1.cC<nx/\o2.cC<nx/\σ.next<=o1.cC/\σ.next<=o2.cC/\gg X=some ⟨true,2,[[.own o1 0 (k+1),.own o2 0 (k+1)]]⟩/\gg o1=some ⟨true,1,lP R1 cnt (k+1)⟩/\gg o2=some ⟨true,1,lP R2 cnt (k+1)⟩)->∃m0,m0<(cnt)-k/\∃k:Nat,m0=(cnt)-k/\k<=(cnt)/\e 11=.int .i64 (k:Int)/\e 5=(.ptr X 0 0)/\(nx=σ.next+3+4*k/\(∀i:Id,i.cC<σ.next->gg i=σ.get i)/\∀j,j<k->gg (R1 j)=some ⟨true,1,eF (fun _=>0) cnt⟩/\gg (R2 j)=some ⟨true,1,eF (fun _=>0) cnt⟩)/\((k=0/\gg X=some ⟨true,2,[[.ck,.ck]]⟩)∨∃o1 o2:Id,o1.site=204004008/\o2.site=204005008/\o1.cC<nx/\o2.cC<nx/\σ.next<=o1.cC/\σ.next<=o2.cC/\gg X=some ⟨true,2,[[.own o1 0 k,.own o2 0 k]]⟩/\gg o1=some ⟨true,1,lP R1 cnt k⟩/\gg o2=some ⟨true,1,lP R2 cnt k⟩):=fun x1 x2 x3 x4=>⟨_,ae,k+1,rfl,ae,(by rw[x1,aB ae]),x2,x3,x4⟩
  have fK:k<cnt:=ae
  have re:R1 k=⟨204004006,st_a.next+1⟩:=by rw[Sn,anx]
  have uK:R2 k=⟨204005006,st_a.next+1+1⟩:=by rw[Ej,anx]
  have Lx:lP R1 cnt (k+1)=lP R1 cnt k++[[.own ⟨204004006,st_a.next+1⟩ 0 cnt]]:=by rw[tM,re]
  have Rq:lP R2 cnt (k+1)=lP R2 cnt k++[[.own ⟨204005006,st_a.next+1+1⟩ 0 cnt]]:=by rw[tM,uK]
  rcases aI1 with⟨rfl,RH⟩|⟨o1,o2,so1,so2,vo1,vo2,vn1,vn2,RH,ag1,oW⟩
  ·(try((repeat(revert hN;revert N;apply Pn.out));refine wk (tw @fV (tw @a5 (tw @a0 (tw @a1 (tw @qy (tw @hk (tw @wX (tw @RH (tw @jN (tw @qk (tw @Int.le_refl @hz))))))))))) ?_;(repeat(refine Pn.mk ?_;intro N hN))))
   refine bZ ?_ ?_ (by
    (try dsimp only)
    refine⟨ae,fun i hi=>?_,fun j hj=>?_⟩
    ·have q1:=eX (i:=i) (n:=st_a.next) ae
     have q2:=ep (a:=i) (b:=X) ae
     have:=dr i hi
     simp only[go_sem, ↓reduceIte,Nat.reduceEqDiff,Nat.reduceAdd,Nat.reduceSub,Nat.reduceLeDiff,reduceCtorEq,q1,q2,this]
    ·by_cases y5:j=0
     ·subst y5
      rw[re,uK]
      have q1:=iz sX (b:=204004006) (v:=st_a.next+1) (by decide)
      have q2:=iz sX (b:=204005006) (v:=st_a.next+1+1) (by decide)
      simp only[go_sem, ↓reduceIte,Nat.reduceEqDiff,Nat.reduceAdd,Nat.reduceSub,Nat.reduceLeDiff,reduceCtorEq,q1,q2]
     ·obtain⟨r1,r2⟩:=aR j ae
      have q1:=eX (i:=R1 j) (n:=st_a.next) (by rw[v1];omega)
      have q2:=eX (i:=R2 j) (n:=st_a.next) (by rw[v2];omega)
      have q3:=AS (s1 j) sX (by decide)
      have q4:=AS (s2 j) sX (by decide)
      constructor
      ·simp only[go_sem, ↓reduceIte,Nat.reduceEqDiff,Nat.reduceAdd,Nat.reduceSub,Nat.reduceLeDiff,reduceCtorEq,q1,q3,r1]
      ·simp only[go_sem, ↓reduceIte,Nat.reduceEqDiff,Nat.reduceAdd,Nat.reduceSub,Nat.reduceLeDiff,reduceCtorEq,q2,q4,r2]) (.inr ⟨⟨204004008,st_a.next+1⟩,⟨204005008,st_a.next+1+1⟩,rfl,rfl,bW,bW,bW,bW,sd @wX,by rw[Lx,t1];simp only[go_sem, ↓reduceIte,Nat.reduceEqDiff,Nat.reduceAdd,Nat.reduceSub,Nat.reduceLeDiff,reduceCtorEq,wX,List.nil_append],by rw[Rq,t2];simp only[go_sem, ↓reduceIte,Nat.reduceEqDiff,Nat.reduceAdd,Nat.reduceSub,Nat.reduceLeDiff,reduceCtorEq,wX,List.nil_append]⟩)
   all_goals simp only[go_sem, ↓reduceIte,Nat.reduceEqDiff,Nat.reduceAdd,Nat.reduceSub,Nat.reduceLeDiff,reduceCtorEq,fV,a5,a0,a1,qy,wX]
  ·have l1:=kN R1 cnt k
   have l2:=kN R2 cnt k
   have e1:k+1<=16777216:=ae
   have w1:=eX vo1
   have w2:=eX vo2
   have x1:=AS sX so1 (by decide)
   have x2:=AS sX so2 (by decide)
   have x3:=AS so1 so2 (by decide)
   (try((repeat(revert hN;revert N;apply Pn.out));refine wk (tw @fV (tw @a5 (tw @a0 (tw @a1 (tw @qy (tw @hk (tw @wX (tw @RH (tw @ag1 (tw @oW (tw @l1 (tw @l2 (tw @e1 (tw @w1 (tw @w2 (tw @x1 (tw @x2 (tw @x3 (tw @jN (tw @qk (tw @Int.le_refl @hz))))))))))))))))))))) ?_;(repeat(refine Pn.mk ?_;intro N hN))))
   refine bZ ?_ ?_ (by
    (try dsimp only)
    refine⟨ae,fun i hi=>?_,fun j hj=>?_⟩
    ·have q1:=eX (i:=i) (n:=st_a.next) ae
     have q2:=ep (a:=i) (b:=X) ae
     have q3:=ep (a:=i) (b:=o1) ae
     have q4:=ep (a:=i) (b:=o2) ae
     have:=dr i hi
     simp only[go_sem, ↓reduceIte,Nat.reduceEqDiff,Nat.reduceAdd,Nat.reduceSub,Nat.reduceLeDiff,reduceCtorEq,q1,q2,this,q3,q4]
    ·by_cases y5:j=k
     ·subst y5
      rw[re,uK]
      have q1:=iz sX (b:=204004006) (v:=st_a.next+1) (by decide)
      have q2:=iz sX (b:=204005006) (v:=st_a.next+1+1) (by decide)
      simp only[go_sem, ↓reduceIte,Nat.reduceEqDiff,Nat.reduceAdd,Nat.reduceSub,Nat.reduceLeDiff,reduceCtorEq,q1,q2,w1,w2]
     ·obtain⟨r1,r2⟩:=aR j ae
      have q1:=eX (i:=R1 j) (n:=st_a.next) (by rw[v1];omega)
      have q2:=eX (i:=R2 j) (n:=st_a.next) (by rw[v2];omega)
      have q3:=AS (s1 j) sX (by decide)
      have q4:=AS (s2 j) sX (by decide)
      have q5:=AS (s1 j) so1 (by decide)
      have q6:=AS (s1 j) so2 (by decide)
      have q7:=AS (s2 j) so1 (by decide)
      have q8:=AS (s2 j) so2 (by decide)
      constructor
      ·simp only[go_sem, ↓reduceIte,Nat.reduceEqDiff,Nat.reduceAdd,Nat.reduceSub,Nat.reduceLeDiff,reduceCtorEq,q1,q3,r1,q5,q6]
      ·simp only[go_sem, ↓reduceIte,Nat.reduceEqDiff,Nat.reduceAdd,Nat.reduceSub,Nat.reduceLeDiff,reduceCtorEq,q2,q4,r2,q7,q8]) (.inr ⟨⟨204004008,st_a.next+1⟩,⟨204005008,st_a.next+1+1⟩,rfl,rfl,bW,bW,bW,bW,sd @wX,by rw[Lx];simp only[go_sem, ↓reduceIte,Nat.reduceEqDiff,Nat.reduceAdd,Nat.reduceSub,Nat.reduceLeDiff,reduceCtorEq,wX,w1,w2],by rw[Rq];simp only[go_sem, ↓reduceIte,Nat.reduceEqDiff,Nat.reduceAdd,Nat.reduceSub,Nat.reduceLeDiff,reduceCtorEq,wX,w1,w2]⟩)
   all_goals simp only[go_sem, ↓reduceIte,Nat.reduceEqDiff,Nat.reduceAdd,Nat.reduceSub,Nat.reduceLeDiff,reduceCtorEq,fV,a5,a0,a1,qy,wX,w1,w2,x1,x2,x3]
 have mQ:cnt=k:=ae
 subst mQ
 rcases aI1 with⟨h0,_⟩|⟨o1,o2,so1,so2,vo1,vo2,vn1,vn2,RH,ag1,oW⟩
 ·omega
 (try((repeat(revert hN;revert N;apply Pn.out));refine wk (tw @fV (tw @a5 (tw @a0 (tw @a1 (tw @qy @hk))))) ?_;(repeat(refine Pn.mk ?_;intro N hN))))
 have I:Gu X o1 o2 R1 R2 cnt st_a.next:=⟨sX,so1,so2,fun i _=>s1 i,fun i _=>s2 i,fun i j _ _ h=>by have:=v1 i;rw[h,v1]at this;omega,fun i j _ _ h=>by have:=v2 i;rw[h,v2]at this;omega,ae,vo1,vo2,fun i hi=>by rw[v1];omega,fun i hi=>by rw[v2];omega⟩
 refine aT (fun n env st=>∃i:Nat,n=(bs.length)-i/\i<=(bs.length)/\env 38=.int .i64 (i:Int)/\(st_a.next<=st.next/\(∀x:Id,x.cC<σ.next->st.get x=σ.get x)/\oP st.get X o1 o2 R1 R2 cnt (lN (bs.take i)) (fun _ _=>0))) (bs.length) ⟨0,ae,ae,sl (tw @fV (tw @a5 (tw @a0 (tw @a1 @qy)))),⟨bW,dr,RH,ag1,oW,fun j hj=>(aR j hj).1,fun j hj=>(aR j hj).2⟩⟩ ?_
 rintro n_b env_b st_b ⟨i,rfl,ble,b38,bI0⟩ bfr
 have b0:=bfr 0 (by kernel_rfl);have b1:=bfr 1 (by kernel_rfl);have b5:=bfr 5 (by kernel_rfl);have QZ:=bfr 36 (by kernel_rfl);have Q0:=bfr 37 (by kernel_rfl)
 simp only[go_sem, ↓reduceIte,Nat.reduceEqDiff,Nat.reduceAdd,Nat.reduceSub,Nat.reduceLeDiff,reduceCtorEq,fV,a5,a0,a1,qy]at b0 b1 b5 QZ Q0
 clear bfr
 obtain⟨bn,OQ,bM⟩:=bI0
 by_cases hi:(i:Int)<(bs.length:Int)
 ·have gY:∀{e:Env} {gg:Rows} {nx:Nat},(e 38=.int .i64 (IntKind.i64.wrap ((i:Int)+1)))->(st_a.next<=nx/\(∀x:Id,x.cC<σ.next->gg x=σ.get x)/\oP gg X o1 o2 R1 R2 cnt (lN (bs.take (i+1))) (fun _ _=>0))->∃m0,m0<(bs.length)-i/\∃i:Nat,m0=(bs.length)-i/\i<=(bs.length)/\e 38=.int .i64 (i:Int)/\(st_a.next<=nx/\(∀x:Id,x.cC<σ.next->gg x=σ.get x)/\oP gg X o1 o2 R1 R2 cnt (lN (bs.take i)) (fun _ _=>0)):=fun x1 x2=>⟨_,ae,i+1,rfl,ae,(by rw[x1,aB ae]),x2⟩
  have fB:i<bs.length:=ae
  have gT:(bs.map ay)[i]? =some (ay bs[i]):=by simp[fB]
  have fE:=hb _ (List.getElem_mem fB)
  have hsi:=dR _ (List.getElem_mem fB)
  have qo:lN (bs.take (i+1))=oD (lN (bs.take i)) bs[i]:=by rw[List.take_succ_eq_append_getElem fB,E7]
  have mz:=AL (bs.take i) (fun _ _=>0) (fun b hb=>(dR b (List.mem_of_mem_take hb)).1) (fun _ _=>Int.le_refl _)
  have hle:=room_le (bs.take i) (fun _ _=>0) 0 (fun b hb=>(dR b (List.mem_of_mem_take hb)).2) (fun _ _=>Int.le_refl _) (Int.le_refl _)
  rw[List.length_take]at hle
  have gp:(bs.take i).foldl oD (fun _ _=>0)=lN (bs.take i):=rfl
  rw[gp]at mz hle
  generalize lN (bs.take i)=c at *
  generalize bs[i]=b at *
  obtain⟨ha,tf⟩:=fE
  have gA:=sI (R:=R1) (n:=cnt) ha
  have gB:=sI (R:=R1) (n:=cnt) tf
  have rA:=bM.r1 _ ha
  have rB:=bM.r1 _ tf
  have cA:=ee (f:=c b.a) tf
  have cB:=ee (f:=c b.b) ha
  have sA:=o3 (f:=c) (a:=b.a) (d:=b.s) tf
  have gX:=bM.x
  have g1:=bM.t1
  have gU:(b.a:Int)<(cnt:Int):=ae
  have fE:(b.b:Int)<(cnt:Int):=ae
  have qX:=eX (i:=X) (n:=st_b.next) ae
  have q1:=eX (i:=o1) (n:=st_b.next) ae
  have qA:=eX (i:=R1 b.a) (n:=st_b.next) (by rw[v1];omega)
  have qB:=eX (i:=R1 b.b) (n:=st_b.next) (by rw[v1];omega)
  have xA:=AS sX (s1 b.a) (by decide)
  have xB:=AS sX (s1 b.b) (by decide)
  have yA:=AS so1 (s1 b.a) (by decide)
  have yB:=AS so1 (s1 b.b) (by decide)
  have l1:=kN R1 cnt cnt
  have lA:=dS (c b.a) cnt
  have lB:=dS (c b.b) cnt
  have hAB:=hle b.a b.b
  have hBA:=hle b.b b.a
  have gAB:=mz b.a b.b
  have gBA:=mz b.b b.a
  have wA:IntKind.i64.wrap (c b.a b.b+b.s)=c b.a b.b+b.s:=aJ ae
  by_cases rZ:b.a=b.b
  ·obtain⟨ba,bb,s⟩:=b
   dsimp only at *
   subst rZ
   have PZ:=o3 (f:=bump c ba ba s) (a:=ba) (b:=ba) (d:=s) (n:=cnt) ha
   have Sx:=ee (f:=bump c ba ba s ba) ha
   have hv:bump c ba ba s ba ba=c ba ba+s:=by simp[bump]
   have lC:=dS (bump c ba ba s ba) cnt
   have wB:IntKind.i64.wrap (c ba ba+s+s)=c ba ba+s+s:=aJ ae
   rw[hv]at PZ Sx
   have th:oD c ⟨ba,ba,s⟩ ba=bump (bump c ba ba s) ba ba s ba:=rfl
   rw[aX]at cA sA PZ Sx
   (try((repeat(revert hN;revert N;apply Pn.out));refine wk (tw @b38 (tw @b0 (tw @b1 (tw @b5 (tw @QZ (tw @Q0 (tw @hi (tw @gT (tw @ay.eq_1 (tw @gA (tw @rA (tw @cA (tw @sA (tw @gX (tw @g1 (tw @gU (tw @qX (tw @q1 (tw @qA (tw @xA (tw @yA (tw @l1 (tw @lA (tw @wA (tw @PZ (tw @Sx (tw @lC @wB))))))))))))))))))))))))))) ?_;(repeat(refine Pn.mk ?_;intro N hN))))
   exact gY (sd (tw @b38 (tw @b0 (tw @b1 (tw @b5 (tw @QZ @Q0)))))) (by
    (try dsimp only)
    refine⟨ae,fun x hx=>?_,?_⟩
    ·have p1:=eX (i:=x) (n:=st_b.next) ae
     have p2:=ep (a:=x) (b:=R1 ba) (by rw[v1];omega)
     have:=OQ x hx
     simp only[go_sem, ↓reduceIte,Nat.reduceEqDiff,Nat.reduceAdd,Nat.reduceSub,Nat.reduceLeDiff,reduceCtorEq,p1,p2,this]
    ·rw[qo]
     refine bM.add I ⟨ba,ba,s⟩ ha ha (fun h=>absurd rfl h) ?_ fun x hx h1 h2=>?_
     ·rw[th]
      simp only[go_sem, ↓reduceIte,Nat.reduceEqDiff,Nat.reduceAdd,Nat.reduceSub,Nat.reduceLeDiff,reduceCtorEq]
     ·have p1:=eX (i:=x) (n:=st_b.next) ae
      (try dsimp only at h2)
      simp only[go_sem, ↓reduceIte,Nat.reduceEqDiff,Nat.reduceAdd,Nat.reduceSub,Nat.reduceLeDiff,reduceCtorEq,p1,h2])
  ·have gI:(R1 b.a=R1 b.b)=False:=by simp only[eq_iff_iff,iff_false];exact fun h=>rZ (I.i1 _ _ ha tf h)
   have JE:(R1 b.b=R1 b.a)=False:=by simp only[eq_iff_iff,iff_false];exact fun h=>rZ (I.i1 _ _ ha tf h.symm)
   have PS:bump c b.a b.b b.s b.b=c b.b:=kG fun h=>rZ h.symm
   have PZ:=o3 (f:=bump c b.a b.b b.s) (a:=b.b) (b:=b.a) (d:=b.s) (n:=cnt) ha
   rw[PS]at PZ
   have wB:IntKind.i64.wrap (c b.b b.a+b.s)=c b.b b.a+b.s:=aJ ae
   have th:oD c b b.b=bump (bump c b.a b.b b.s) b.b b.a b.s b.b:=rfl
   rw[aX]at cA cB sA PZ
   (try((repeat(revert hN;revert N;apply Pn.out));refine wk (tw @b38 (tw @b0 (tw @b1 (tw @b5 (tw @QZ (tw @Q0 (tw @hi (tw @gT (tw @ay.eq_1 (tw @gA (tw @gB (tw @rA (tw @rB (tw @cA (tw @cB (tw @sA (tw @gX (tw @g1 (tw @gU (tw @fE (tw @qX (tw @q1 (tw @qA (tw @qB (tw @xA (tw @xB (tw @yA (tw @yB (tw @l1 (tw @lA (tw @lB (tw @wA (tw @PZ (tw @wB (tw @gI @JE))))))))))))))))))))))))))))))))))) ?_;(repeat(refine Pn.mk ?_;intro N hN))))
   exact gY (sd (tw @b38 (tw @b0 (tw @b1 (tw @b5 (tw @QZ @Q0)))))) (by
    (try dsimp only)
    refine⟨ae,fun x hx=>?_,?_⟩
    ·have p1:=eX (i:=x) (n:=st_b.next) ae
     have p2:=ep (a:=x) (b:=R1 b.b) (by rw[v1];omega)
     have p3:=ep (a:=x) (b:=R1 b.a) (by rw[v1];omega)
     have:=OQ x hx
     simp only[go_sem, ↓reduceIte,Nat.reduceEqDiff,Nat.reduceAdd,Nat.reduceSub,Nat.reduceLeDiff,reduceCtorEq,p1,p2,p3,this]
    ·rw[qo]
     refine bM.add I b ha tf (fun h=>?_) ?_ fun x hx h1 h2=>?_
     ·simp only[go_sem, ↓reduceIte,Nat.reduceEqDiff,Nat.reduceAdd,Nat.reduceSub,Nat.reduceLeDiff,reduceCtorEq,gI]
     ·rw[th]
      simp only[go_sem, ↓reduceIte,Nat.reduceEqDiff,Nat.reduceAdd,Nat.reduceSub,Nat.reduceLeDiff,reduceCtorEq,gI]
     ·have p1:=eX (i:=x) (n:=st_b.next) ae
      simp only[go_sem, ↓reduceIte,Nat.reduceEqDiff,Nat.reduceAdd,Nat.reduceSub,Nat.reduceLeDiff,reduceCtorEq,p1,h1,h2])
 ·have nj:i=bs.length:=ae
  subst nj
  rw[List.take_length]at bM
  (try((repeat(revert hN;revert N;apply Pn.out));refine wk (tw @b38 (tw @b0 (tw @b1 (tw @b5 (tw @QZ (tw @Q0 @hi)))))) ?_;(repeat(refine Pn.mk ?_;intro N hN))))
  exact gJ (.inl rfl) (vs:=[.ptr X 0 0]) (sd @Nat.zero_add) ⟨X,o1,o2,R1,R2,rfl,⟨I.sx,I.s1,I.s2,I.UF,I.Ow,I.i1,I.i2,by have:=I.vx;(try dsimp only);omega,by have:=I.v1;(try dsimp only);omega,by have:=I.v2;(try dsimp only);omega,fun j hj=>by have:=I.Wp j hj;(try dsimp only);omega,fun j hj=>by have:=I.TC j hj;(try dsimp only);omega⟩,bW,bM,OQ⟩
end Go.Proofs.YtkbipfflibjfbaaGreat.V

namespace Go.Proofs.YtkbipfflibjfbaaGreat.V
structure Bq (n:Nat) (c f:Nat->Nat->Int) (x:Nat) (par:Nat->Int) (Q:List Nat) (i:Nat):Prop where
 nodup:Q.Nodup
 lt:∀v∈Q,v<n
 root:par x=(x:Int)
 mem:x∈Q
 iff:∀v,v<n->(0<=par v↔v∈Q)
 up:∀v∈Q,v≠x->∃u,u∈Q/\par v=(u:Int)/\Q.idxOf u<Q.idxOf v/\f u v<c u v
 done:∀j (_:j<i) (hl:j<Q.length) (v:Nat),v<n->f Q[j] v<c Q[j] v->v∈Q
 ile:i<=Q.length
section
variable {n:Nat} {c f:Nat->Nat->Int} {x:Nat} {par:Nat->Int} {Q:List Nat} {i:Nat}
theorem Bq.len (h:Bq n c f x par Q i):Q.length<=n:=pv n Q h.nodup h.lt
theorem Bq.start (hx:x<n):Bq n c f x (fun v=>if v=x then(x:Int)else -1) [x] 0:=by
 refine⟨by simp,fun v hv=>by simp at hv;omega,by simp,by simp,fun v hv=>?_,fun v hv gI=>absurd (by simpa using hv) gI,fun j hj=>ae,by simp⟩
 by_cases h:v=x
 ·simp[h]
 ·simp[h]
theorem Bq.visit (h:Bq n c f x par Q i) (hi:i<Q.length) {v:Nat} (hv:v<n) (hp:par v<0) (hr:f Q[i] v<c Q[i] v):Bq n c f x (fun w=>if w=v then(Q[i]:Int)else par w) (Q++[v]) i:=by
 have V8:v∉Q:=fun hm=>by have:=(h.iff v hv).2 hm;omega
 have Wd:x≠v:=fun e=>V8 (e▸h.mem)
 have Ai:∀u∈Q,(Q++[v]).idxOf u=Q.idxOf u:=fun u hu=>by rw[List.idxOf_append,if_pos hu]
 have wv:(Q++[v]).idxOf v=Q.length:=by rw[List.idxOf_append,if_neg V8];simp
 refine⟨?_,fun w hw=>?_,by simp only[if_neg Wd];exact h.root,by simp[h.mem],fun w hw=>?_,fun w hw gI=>?_,fun j hj hl w hw JJ=>?_,by simp;omega⟩
 ·refine List.nodup_append.2 ⟨h.nodup,by simp,fun a ha b hb=>?_⟩
  rw[List.mem_singleton.1 hb]
  rintro rfl;exact V8 ha
 ·rcases List.mem_append.1 hw with hw|hw
  ·exact h.lt w hw
  ·rw[List.mem_singleton.1 hw];exact hv
 ·by_cases F2:w=v
  ·subst F2;simp
  ·rw[if_neg F2,h.iff w hw];simp[F2]
 ·by_cases F2:w=v
  ·subst F2
   refine⟨Q[i],by simp,by simp,?_,hr⟩
   rw[Ai _ (List.getElem_mem hi),wv]
   exact List.idxOf_lt_length_of_mem (List.getElem_mem hi)
  ·have hwQ:w∈Q:=by
    rcases List.mem_append.1 hw with hw|hw
    ·exact hw
    ·exact absurd (List.mem_singleton.1 hw) F2
   obtain⟨u,h1,h2,h3,h4⟩:=h.up w hwQ gI
   exact⟨u,by simp[h1],by rw[if_neg F2];exact h2,by rw[Ai u h1,Ai w hwQ];exact h3,h4⟩
 ·have gW:j<Q.length:=by have:=h.ile;omega
  rw[List.getElem_append_left gW]at JJ
  exact List.mem_append_left _ (h.done j hj gW w hw JJ)
theorem Bq.next (h:Bq n c f x par Q i) (hi:i<Q.length) (dz:∀v,v<n->f Q[i] v<c Q[i] v->0<=par v):Bq n c f x par Q (i+1):=by
 refine⟨h.nodup,h.lt,h.root,h.mem,h.iff,h.up,fun j hj hl v hv hr=>?_,ae⟩
 by_cases lr:j=i
 ·subst lr;exact(h.iff v hv).1 (dz v hv hr)
 ·exact h.done j ae hl v hv hr
theorem Bq.cut (h:Bq n c f x par Q Q.length) {y:Nat} (hy:y<n) (hp:par y<0):∃S:Nat->Bool,S x=true/\S y=false/\∀u v,u<n->v<n->S u=true->S v=false->¬f u v<c u v:=by
 refine⟨fun v=>decide (v∈Q),by simp[h.mem],?_,fun u v hu hv h1 h2 hr=>?_⟩
 ·have:y∉Q:=fun hm=>by have:=(h.iff y hy).2 hm;omega
  simp[this]
 ·simp only[decide_eq_true_eq,decide_eq_false_iff_not]at h1 h2
  obtain⟨j,hj,rfl⟩:=List.getElem_of_mem h1
  exact h2 (h.done j hj hj v hv hr)
def vz (c f:Nat->Nat->Int) (Q:List Nat) (y k:Nat) (out:List Nat):Prop:=∃rest,out.reverse=k::rest/\(k::rest).getLast (by simp)=y/\rJ f c (k::rest)/\(k::rest).Pairwise (fun a b=>Q.idxOf a<Q.idxOf b)/\∀v∈k::rest,v∈Q
theorem vz.start {y:Nat} (hy:y∈Q):vz c f Q y y [y]:=⟨[],rfl,rfl,trivial,by simp,by simpa using hy⟩
theorem vz.step {y k u:Nat} {out:List Nat} (h:vz c f Q y k out) (hu:u∈Q) (hi:Q.idxOf u<Q.idxOf k) (hr:f u k<c u k):vz c f Q y u (out++[u]):=by
 obtain⟨rest,h1,h2,h3,h4,h5⟩:=h
 refine⟨k::rest,by rw[List.reverse_append,h1];rfl,by rw[List.getLast_cons (by simp)];exact h2,⟨hr,h3⟩,?_,?_⟩
 ·refine List.pairwise_cons.2 ⟨fun b hb=>?_,h4⟩
  rcases List.mem_cons.1 hb with rfl|hb
  ·exact hi
  ·have:=(List.pairwise_cons.1 h4).1 b hb;omega
 ·intro v hv
  rcases List.mem_cons.1 hv with rfl|hv
  ·exact hu
  ·exact h5 v hv
theorem vz.len {y k:Nat} {out:List Nat} (h:vz c f Q y k out) (hq:∀v∈Q,v<n):out.length<=n:=by
 obtain⟨rest,h1,_,_,h4,h5⟩:=h
 rw[<-List.length_reverse,h1]
 refine pv n _ (h4.imp fun dO he=>?_) fun v hv=>hq v (h5 v hv)
 subst he;omega
structure RG (n:Nat) (c f:Nat->Nat->Int) (x y:Nat) (p:List Nat):Prop where
 way:∃r,p=x::r/\(x::r).getLast (by simp)=y
 nodup:p.Nodup
 room:rJ f c p
 lt:∀v∈p,v<n
theorem vz.way {y:Nat} {out:List Nat} (h:vz c f Q y x out) (hq:∀v∈Q,v<n):RG n c f x y out.reverse:=by
 obtain⟨rest,h1,h2,h3,h4,h5⟩:=h
 rw[h1]
 exact⟨⟨rest,rfl,h2⟩,h4.imp fun dO he=>by subst he;omega,h3,fun v hv=>hq v (h5 v hv)⟩
end
end Go.Proofs.YtkbipfflibjfbaaGreat.V
