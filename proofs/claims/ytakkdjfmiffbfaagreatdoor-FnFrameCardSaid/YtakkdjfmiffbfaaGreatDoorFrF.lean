/- errors.Is of what two package variables hold, or of nil, at the machine; then as the small language sees it. -/
import Derived.Test.YtakkdjfmiffbfaaGreatDoorFrE
import Derived.WalkKit
import Derived.LaidEql
import Derived.Stop.Asserts
import Derived.RowKitTokens
import Derived.Test.YtakkdjfmiffbfaaGreatDoorFrC
import Derived.Test.YtakkdjfmiffbfaaGreatDoorFrB
import Derived.Test.YtakkdjfmiffbfaaGreatDoorFrD
import Derived.BigRegion
import Derived.Lib.MinMax
import Derived.Deep.RegionHeld
import Derived.Test.YtakkdjfmiffbfaaGreatDoorChecked
import Derived.ProofKit
import Derived.Deep.Slices
import Derived.ChangeSame
import Derived.Test.YtakkdjfmiffbfaaGreatDoorRows
import Derived.OpenShut
import Derived.ShutString
import Derived.ChangeOld
import Derived.Below
import Derived.Lay
import Derived.Handed
import Derived.MakeChecks
set_option linter.unusedVariables false
set_option linter.unusedSimpArgs false
set_option maxRecDepth 100000
set_option maxHeartbeats 16000000
namespace Go.Proofs.YtakkdjfmiffbfaaGreatDoor.V
open Go.RowKit Go.Extern.Stop Go.Stop Go.Extern
theorem Ca (v:Value) (w:World):(Extern.ReflectliteType.typeOf #[.iface 353 v]).run Tryz.prog w=.ok (.iface 267 (.agg #[.pointer (some ⟨6,353,none⟩)])) w:=by kernel_rfl
def zM:Array Value->Sem Value:=Extern.ReflectliteType.method fun t=>do Extern.Rtype.noPackHeld "Comparable" t;pure (.bool (<-typeInfo t).comparable)
theorem qZ (w:World):(zM #[.agg #[.pointer (some ⟨6,353,none⟩)]]).run Tryz.prog w=.ok (.bool true) w:=by kernel_rfl
theorem kz (v:Value) (w:World):(Go.method 488 267 v "Comparable").run Tryz.prog w=.ok (270,v) w:=by kernel_rfl
theorem J3:(Tryz.prog.info? 353).map (·.comparable)=some true:=by kernel_rfl
theorem J4:(Tryz.prog.info? 377).map (·.size)=some 1:=by kernel_rfl
theorem TU (v:Value) (xT:TypeId) (w:World):(Instr.typeAssert (.iface 353 v) xT 269 true).run Tryz.prog w=.ok (.tuple #[.nilIface,.bool false]) w:=run_typeAssert_lacksB Tryz.underlying269 (by kernel_rfl) (by kernel_rfl) v xT w
theorem Hs (v:Value) (xT:TypeId) (w:World):(Instr.typeAssert (.iface 353 v) xT 272 true).run Tryz.prog w=.ok (.tuple #[.nilIface,.bool false]) w:=run_typeAssert_lacksB Tryz.underlying272 (by kernel_rfl) (by kernel_rfl) v xT w
theorem Eg (v:Value) (xT:TypeId) (w:World):(Instr.typeAssert (.iface 353 v) xT 274 true).run Tryz.prog w=.ok (.tuple #[.nilIface,.bool false]) w:=run_typeAssert_lacksB Tryz.underlying274 (by kernel_rfl) (by kernel_rfl) v xT w
theorem M1 (a:Addr) (w:World):
  Calls Tryz.prog 100 #[.iface 353 (.pointer (some a)),.iface 353 (.pointer (some a))] w fun e w'=>e=.returned (.bool true)/\w'=w:=by
 obtain⟨i,hi,P7⟩:=Option.map_eq_some_iff.1 J3
 obtain⟨j,hj,hjs⟩:=Option.map_eq_some_iff.1 J4
 have h8:=@run_callFunc_extern Tryz.prog 133 _ Extern.ReflectliteType.typeOf Tryz.func133 (by kernel_rfl) (by kernel_rfl) (by kernel_rfl) (by kernel_rfl)
 have h32:=@run_callFunc_extern Tryz.prog 270 _ zM Tryz.func270 (by kernel_rfl) (by kernel_rfl) (by kernel_rfl) (by kernel_rfl)
 have tT:=Ca
 have cT:=qZ
 have mR:=kz
 have heq:=run_eql_iface_ptr_same (P:=Tryz.prog) w a Tryz.underlying150 Tryz.underlying353 hi P7 hj
 go_enter Tryz.func100,Tryz.ntmps100
 go_wp2
 refine wp_loop_rounds 1 ?_
 rw[rounds_succ]
 go_wp2
 go_ret
 exact⟨rfl,rfl⟩
theorem QI (b:Addr) (w:World):
  Calls Tryz.prog 100 #[.nilIface,.iface 353 (.pointer (some b))] w fun e w'=>e=.returned (.bool false)/\w'=w:=by
 have hn:=run_eql_iface_nil_left (P:=Tryz.prog) w 353 (.pointer (some b)) Tryz.underlying150
 go_enter Tryz.func100,Tryz.ntmps100
 go_wp2
 go_ret
 exact⟨rfl,rfl⟩
theorem J6 (a b:Addr) (ca cb:Array Value) (ta tb:TypeId) (w:World) (ig:a≠b) (ha:w.heap[a.block]? =some (.cells ca ta (0,0))) (hb:w.heap[b.block]? =some (.cells cb tb (0,0))):
  Calls Tryz.prog 100 #[.iface 353 (.pointer (some a)),.iface 353 (.pointer (some b))] w fun e w'=>e=.returned (.bool false)/\w'=w:=by
 obtain⟨i,hi,P7⟩:=Option.map_eq_some_iff.1 J3
 obtain⟨j,hj,hjs⟩:=Option.map_eq_some_iff.1 J4
 have h8:=@run_callFunc_extern Tryz.prog 133 _ Extern.ReflectliteType.typeOf Tryz.func133 (by kernel_rfl) (by kernel_rfl) (by kernel_rfl) (by kernel_rfl)
 have h32:=@run_callFunc_extern Tryz.prog 270 _ zM Tryz.func270 (by kernel_rfl) (by kernel_rfl) (by kernel_rfl) (by kernel_rfl)
 have tT:=Ca
 have cT:=qZ
 have mR:=kz
 have nE:=TU
 have uE:=Hs
 have vE:=Eg
 have heq:=run_eql_iface_ptr_other (P:=Tryz.prog) w Tryz.underlying150 Tryz.underlying353 hi P7 hj (by rw[hjs];decide) ig ha hb
 go_enter Tryz.func100,Tryz.ntmps100
 go_wp2
 refine wp_loop_rounds 1 ?_
 rw[rounds_succ]
 go_wp2
 go_ret
 exact⟨rfl,rfl⟩
variable {σ:aq}
theorem xl {w:World} {D:Nat->Prop} {ι:Names} {x y:AV} {vs:Array Value} (h:fo Tryz.prog w D ι [x,y] vs):∃u v,vs= #[u,v]/\dF Tryz.prog w D ι x u/\dF Tryz.prog w D ι y v:=by
 obtain⟨h1,h2⟩:=h
 obtain⟨u,e1,r1⟩:=h2 0 x rfl
 obtain⟨v,e2,r2⟩:=h2 1 y rfl
 refine⟨u,v,?_,r1,r2⟩
 apply Array.ext
 ·simpa using h1
 ·intro i hi hj
  have:i=0∨i=1:=by simp at hj;omega
  rcases this with rfl|rfl
  ·rw[Array.getElem?_eq_some_iff]at e1;obtain⟨_,e1⟩:=e1;simpa using e1
  ·rw[Array.getElem?_eq_some_iff]at e2;obtain⟨_,e2⟩:=e2;simpa using e2
theorem ud (g:Nat) (s:ByteArray):Call Tryz.prog 100 [.err g tE s,.err g tE s] σ fun r σ'=>r=.bool true/\σ'=σ:=by
 refine eV fun hs D ι w vs S U A=>?_
 obtain⟨u,v,rfl,r1,r2⟩:=xl A
 obtain⟨a,c,ty,rfl,d1,e1,_⟩:=pf r1
 obtain⟨b,c',XK,rfl,_,e2,_⟩:=pf r2
 rw[e1]at e2
 simp only[Option.some.injEq,Value.iface.injEq,Value.pointer.injEq,true_and]at e2
 subst e2
 refine(M1 a w).mono ?_
 rintro e w' ⟨rfl,rfl⟩
 exact⟨.bool true,σ.get,σ.next,D,ι,.bool true,rfl,⟨rfl,rfl⟩,.refl _ _ _ _,S,U,Nat.le_refl _,.eG _ _ (.bool _)⟩
theorem zw (g:Nat) (s:ByteArray):Call Tryz.prog 100 [.iF,.err g tE s] σ fun r σ'=>r=.bool false/\σ'=σ:=by
 refine eV fun hs D ι w vs S U A=>?_
 obtain⟨u,v,rfl,r1,r2⟩:=xl A
 rw[wY r1]
 obtain⟨b,c',XK,rfl,_,e2,_⟩:=pf r2
 refine(QI b w).mono ?_
 rintro e w' ⟨rfl,rfl⟩
 exact⟨.bool false,σ.get,σ.next,D,ι,.bool false,rfl,⟨rfl,rfl⟩,.refl _ _ _ _,S,U,Nat.le_refl _,.eG _ _ (.bool _)⟩
theorem AY (x y:Nat) (s u:ByteArray) (ig:s≠u):Call Tryz.prog 100 [.err x tE s,.err y tE u] σ fun r σ'=>r=.bool false/\σ'=σ:=by
 refine eV fun hs D ι w vs S U A=>?_
 obtain⟨u1,v,rfl,r1,r2⟩:=xl A
 obtain⟨a,c,ty,rfl,_,_,_,k1,k2⟩:=pf r1
 obtain⟨b,c',XK,rfl,_,_,_,q1,q2⟩:=pf r2
 have qQ:a≠b:=fun e=>by
  subst e
  rw[k2]at q2
  simp only[Option.some.injEq,Value.string.injEq]at q2
  exact ig q2
 refine(J6 a b c c' ty XK w qQ k1 q1).mono ?_
 rintro e w' ⟨rfl,rfl⟩
 exact⟨.bool false,σ.get,σ.next,D,ι,.bool false,rfl,⟨rfl,rfl⟩,.refl _ _ _ _,S,U,Nat.le_refl _,.eG _ _ (.bool _)⟩
end Go.Proofs.YtakkdjfmiffbfaaGreatDoor.V

namespace Go.Proofs.YtakkdjfmiffbfaaGreatDoor.V
open Go.RowKit
attribute [local irreducible] dL wpOps ez Call
attribute [local go_sem] ay ew dZ eE eC cY upd bJ K.av bZ AV.cells AV.cell rowOf rowsOf part ld rowAt eO bH bI cX dj eQ bq cF dx eA ed cQ dq cD cC dc de bu aE cm bt cr cq dn dr dp ck bz cE dm br aw cw bQ eP aZ bW bx aD cR aQ cZ AV.undef bd bj dh di c6 da bV dw dz bP du dt cu cz List.getD_cons_zero List.getD_cons_succ List.getD_nil List.all_cons List.all_nil Bool.and_true Bool.true_and Bool.and_self Bool.not_true Bool.not_false Option.map_some Option.map_none Option.bind_some Option.bind_none List.length_cons List.length_nil List.take_succ_cons List.take_zero List.take_nil List.drop_succ_cons List.drop_zero List.drop_nil List.head?_cons List.map_cons List.map_nil List.getElem?_cons_zero List.getElem?_cons_succ List.cons_append List.nil_append List.append_nil List.length_map List.set_cons_zero List.set_cons_succ Nat.reduceMul eq_self Int.toNat_natCast Int.natCast_nonneg and_self true_and and_true decide_true decide_false Bool.false_eq_true Nat.zero_add Nat.add_zero List.contains_cons List.contains_nil Bool.or_false Bool.false_or beq_self_eq_true Nat.reduceBEq ne_eq not_true_eq_false not_false_eq_true Id.mk.injEq false_and and_false Nat.reduceLT Int.reduceLE Int.reduceLT Int.reduceToNat Int.reduceNeg Int.reduceAdd Nat.le_refl List.length_append beq_true beq_false Bool.not_eq_eq_eq_not or_false false_or dW ad ae aL aI bf bR az bc aA aJ cj bh
theorem CF (sch:List Int) (σ:aq):Call Tryz.prog 98 [.sl (sch.map bE)] σ (fun r σ'=>∃B:Id,r=.fn 130 [.ptr B 0 0]/\σ'.get B=some ⟨true,1,[[.sl (sch.map bE)]]⟩/\σ.next<=B.cW/\B.cW<σ'.next/\∀x:Id,x.cW<σ.next->σ'.get x=σ.get x):=by
 refine eU fH rfl fun fR=>?_
 clear fR
 (try((repeat(revert hN;revert N;apply Pn.out));refine wk @Nat.zero_add ?_;(repeat(refine Pn.mk ?_;intro N hN))))
 exact eK (.inl rfl) (vs:=[.fn 130 [.ptr ⟨98000000,σ.next⟩ 0 0]]) (sd @Nat.zero_add) ⟨_,rfl,sd @Nat.zero_add,bL,bL,fun x hx=>by
  have h1:=dE hx
  simp only[go_sem, ↓reduceIte,Nat.reduceEqDiff,Nat.reduceAdd,Nat.reduceSub,Nat.reduceLeDiff,reduceCtorEq,h1]⟩
def VO (σ:aq) (c T O:Id) (s:ax) (sch:List Int) (steps:Nat) (r:AV) (σ':aq):Prop:=
 σ.next<=σ'.next/\(∀x:Id,x.cW<σ.next->x≠T->x≠O->σ'.get x=σ.get x)/\
 ((qP s sch steps=none/\r=.fK [.bB,.bool false])∨∃(es:List aa) (v:AV),qP s sch steps=some es/\gC s es/\np σ'.get σ'.next c T O s (s.dI.ah++es)/\r=.fK [v,.bool true]/\C9 63008003 σ.next es v σ'.get σ'.next)
def NW (σ:aq) (c T O:Id) (s:ax) (K:List aa) (sch:List Int) (steps:Nat) (r:AV) (σ':aq):Prop:=
 σ.next<=σ'.next/\(∀x:Id,x.cW<σ.next->x≠T->x≠O->σ'.get x=σ.get x)/\
 ((qP (iV s K) sch steps=none/\r=.fK [.bB,.bool false])∨∃(es:List aa) (v:AV),qP (iV s K) sch steps=some es/\gC (iV s K) es/\np σ'.get σ'.next c T O s (K++es)/\r=.fK [v,.bool true]/\C9 63008003 σ.next es v σ'.get σ'.next)
theorem qO {s:ax} {sch:List Int} {steps f:Nat} {es:List aa} (h:(iG s (ek s es es.length)).length=0∨steps<=es.length):mF s sch steps f es=some es:=by
 cases f with
 |zero=>rfl
 |succ f=>
  rw[mF]
  by_cases h0:(iG s (ek s es es.length)).length=0
  ·rw[if_pos h0]
  ·rw[if_neg h0,if_pos ab]
theorem PM {σ:aq} {c T O:Id} {s:ax} {K:List aa} (hP:IE (iV s K)) (h:np σ.get σ.next c T O s K) (hE:fF σ.get) (BN:1<=T.cW) (DN:1<=O.cW)
  {sch:List Int} (hs:∀x∈sch,0<=x/\x<=1000) (nP:sch.length<=200) (steps:Nat) (ee:steps<=501):
  Call Tryz.prog 63 [.ptr c 0 0,.sl (sch.map bE),.int .i64 (steps:Int)] σ (NW σ c T O s K sch steps):=by
 refine eU fH rfl fun fR=>?_
 clear fR
 have Lw:=h.o.tv
 have hO0:=h.o.ov
 (try((repeat(revert hN;revert N;apply Pn.out));refine wk @Nat.zero_add ?_;(repeat(refine Pn.mk ?_;intro N hN))))
 refine .inr (aS _ _ _ _ _ (fun r σ1 hq=>?_) (CF sch _))
 obtain⟨g1,x1⟩:=σ1
 obtain⟨B,rfl,hB,Ib,UU,hf⟩:=hq
 (try dsimp only at hB Ib UU hf)
 refine hN _ _ ?_
 clear hN N
 (try((repeat(revert hN;revert N;apply Pn.out));refine wk @Nat.zero_add ?_;(repeat(refine Pn.mk ?_;intro N hN))))
 have base:∀x:Id,x.cW<σ.next->g1 x=σ.get x:=fun x hx=>hf x bL
 have Sz:fF g1:=hE.frame (n:=1) (Nat.le_refl _) fun x hx _=>base x ab
 have Ic:np g1 x1 c T O s K:=h.frame (by(try dsimp only at Ib);omega) base
 have yK:1<=K.length:=hP.some
 have fin:∀(es:List aa) (v:AV) (g:Rows) (n:Nat),qP (iV s K) sch steps=some es->gC (iV s K) es->np g n c T O s (K++es)->C9 63008003 x1 es v g n->(∀x:Id,x.cW<x1->x≠T->x≠O->g x=g1 x)->x1<=n->NW σ c T O s K sch steps (.fK [v,.bool true]) ⟨g,n⟩:=fun es v g n h1 h2 h3 h4 h5 h6=>⟨by(try dsimp only at Ib ⊢);omega,fun x hx hT hO=>(h5 x ab hT hO).trans (base x hx),.inr ⟨es,v,h1,h2,h3,rfl,by
  rcases h4 with h4|⟨u,k1,k2,k3,k4⟩
  ·exact .inl h4
  ·exact .inr ⟨u,k1,k2,ab,k4⟩⟩⟩
 refine cU (fun m env st=>∃(es:List aa) (f:Nat),m=f/\mF (iV s K) sch steps f es=qP (iV s K) sch steps/\gC (iV s K) es/\es.length<=steps/\f+es.length=501/\np st.get st.next c T O s (K++es)/\C9 63008003 x1 es (env 9) st.get st.next/\(∀x:Id,x.cW<x1->x≠T->x≠O->st.get x=g1 x)/\x1<=st.next) 501 ⟨[],501,rfl,rfl,gC.nil (iV s K),Nat.zero_le _,rfl,by rw[List.append_nil];exact Ic.frame bL fun x hx=>sd @Nat.zero_add,.inl ⟨rfl,sd @Nat.zero_add⟩,fun x hx _ _=>sd @Nat.zero_add,bL⟩ ?_
 rintro m env_b st_b ⟨es,f,rfl,hgro,hgood,hes,hfu,hC,hu,jP,hn⟩ fA
 have b0:=fA 0 (by kernel_rfl)
 have b1:=fA 1 (by kernel_rfl)
 have b2:=fA 2 (by kernel_rfl)
 have b8:=fA 8 (by kernel_rfl)
 simp only[go_sem, ↓reduceIte,Nat.reduceEqDiff,Nat.reduceAdd,Nat.reduceSub,Nat.reduceLeDiff,reduceCtorEq]at b0 b1 b2 b8
 clear fA
 have hA:=pe hP (es:=es) es.length (Nat.le_refl _) hgood
 have JC:=hA.1.CX
 have la:(ek (iV s K) es es.length).length=K.length+es.length:=oF (iV s K) es es.length (Nat.le_refl _)
 obtain⟨f,rfl⟩:∃f,m=f+1:=⟨m-1,ab⟩
 have UW:fF st_b.get:=Sz.frame (n:=1) (Nat.le_refl _) fun x hx _=>jP x ab (fun e=>by rw[e]at hx;omega) (fun e=>by rw[e]at hx;omega)
 have hBb:=(jP B UU (fun e=>by rw[e]at Ib;omega) (fun e=>by rw[e]at Ib;omega)).trans hB
 rcases hu with⟨rfl,e9⟩|⟨u,e9,gu,u1,u2,u3,u4⟩
 ·by_cases hd:((0:Nat):Int)<(steps:Int)
  ·(try((repeat(revert hN;revert N;apply Pn.out));refine wk (tw @b0 (tw @b1 (tw @b2 (tw @b8 (tw @e9 @hd))))) ?_;(repeat(refine Pn.mk ?_;intro N hN))))
   refine .inr (aS _ _ _ _ _ (fun r σ2 hq=>?_) (Km (σ:=⟨st_b.get,st_b.next+1+1⟩) (c:=c) (T:=T) (O:=O) (B:=B) (es:=[]) hP hgood (hC.frame bL fun x hx=>rfl) UW bL hs nP hBb bL))
   obtain⟨g2,x2⟩:=σ2
   obtain⟨n2,f2,hq⟩:=hq
   (try dsimp only at n2 f2 hq)
   refine hN _ _ ?_
   clear hN N
   have Wg:fF g2:=UW.frame (n:=1) (Nat.le_refl _) fun x hx _=>f2 x ab (fun e=>by rw[e]at hx;omega) (fun e=>by rw[e]at hx;omega)
   obtain⟨⟨b3,k0⟩,b4,k1⟩:=Wg
   have w0:=dE (i:=oq 0) (n:=x2) (by rw[iN];omega)
   have w1:=dE (i:=oq 1) (n:=x2) (by rw[iN];omega)
   have p0:(oq 0).site=999000000:=rfl
   have p1:(oq 1).site=999000001:=rfl
   rcases hq with⟨hO,rfl,vN⟩|⟨hO,yD,rfl⟩|⟨hO,gM,rfl,vN⟩
   ·(try((repeat(revert hN;revert N;apply Pn.out));refine wk (tw @b0 (tw @b1 (tw @b2 (tw @b8 (tw @e9 (tw @k0 (tw @k1 (tw @w0 (tw @w1 (tw @p0 @p1)))))))))) ?_;(repeat(refine Pn.mk ?_;intro N hN))))
    refine .inr (aS _ _ _ _ _ (fun r σ3 hq=>?_) (ud 0 sT))
    obtain⟨rfl,rfl⟩:=hq
    refine hN _ _ ?_
    clear hN N
    (try((repeat(revert hN;revert N;apply Pn.out));refine wk (tw @b0 (tw @b1 (tw @b2 (tw @b8 (tw @e9 (tw @k0 (tw @k1 (tw @w0 (tw @w1 (tw @p0 @p1)))))))))) ?_;(repeat(refine Pn.mk ?_;intro N hN))))
    exact eK (.inl rfl) (vs:=[.bB,.bool true]) (sd @e9) (fin [] _ _ _ (by rw[<-hgro];exact qO (.inl (by rw[hO];rfl))) hgood (vN.frame bL fun x hx=>by
     have z1:=dE hx
     simp only[go_sem, ↓reduceIte,Nat.reduceEqDiff,Nat.reduceAdd,Nat.reduceSub,Nat.reduceLeDiff,reduceCtorEq,z1]) (.inl ⟨rfl,rfl⟩) (fun x hx hT hO=>by
     have z1:=dE (i:=x) (n:=x2) ab
     have z2:=f2 x bL hT hO
     have z3:=jP x hx hT hO
     simp only[go_sem, ↓reduceIte,Nat.reduceEqDiff,Nat.reduceAdd,Nat.reduceSub,Nat.reduceLeDiff,reduceCtorEq,z1]
     exact z2.trans z3) bL)
   ·(try((repeat(revert hN;revert N;apply Pn.out));refine wk (tw @b0 (tw @b1 (tw @b2 (tw @b8 (tw @e9 (tw @k0 (tw @k1 (tw @w0 (tw @w1 (tw @p0 @p1)))))))))) ?_;(repeat(refine Pn.mk ?_;intro N hN))))
    refine .inr (aS _ _ _ _ _ (fun r σ3 hq=>?_) (AY 1 0 sN sT fun e=>sTN e.symm))
    obtain⟨rfl,rfl⟩:=hq
    refine hN _ _ ?_
    clear hN N
    (try((repeat(revert hN;revert N;apply Pn.out));refine wk (tw @b0 (tw @b1 (tw @b2 (tw @b8 (tw @e9 (tw @k0 (tw @k1 (tw @w0 (tw @w1 (tw @p0 @p1)))))))))) ?_;(repeat(refine Pn.mk ?_;intro N hN))))
    refine .inr (aS _ _ _ _ _ (fun r σ3 hq=>?_) (ud 1 sN))
    obtain⟨rfl,rfl⟩:=hq
    refine hN _ _ ?_
    clear hN N
    (try((repeat(revert hN;revert N;apply Pn.out));refine wk (tw @b0 (tw @b1 (tw @b2 (tw @b8 (tw @e9 (tw @k0 (tw @k1 (tw @w0 (tw @w1 (tw @p0 @p1)))))))))) ?_;(repeat(refine Pn.mk ?_;intro N hN))))
    exact eK (.inl rfl) (vs:=[.bB,.bool false]) (sd @Nat.zero_add) ⟨by(try dsimp only at Ib ⊢);omega,fun x hx hT hO=>by
     have z1:=dE (i:=x) (n:=x2) ab
     have z2:=f2 x bL hT hO
     have z3:=jP x ab hT hO
     simp only[go_sem, ↓reduceIte,Nat.reduceEqDiff,Nat.reduceAdd,Nat.reduceSub,Nat.reduceLeDiff,reduceCtorEq,z1]
     exact z2.trans (z3.trans (base x hx)),.inl ⟨by rw[<-hgro,mF,if_neg (fun e=>hO (List.length_eq_zero_iff.1 e)),if_neg (by(try simp only[List.length_nil]at hd ⊢);omega),if_pos yD],rfl⟩⟩
   ·obtain⟨x,hx⟩:∃x,cP (iG (iV s K) (ek (iV s K) [] ([]:List aa).length)) (ua sch ([]:List aa).length (iG (iV s K) (ek (iV s K) [] ([]:List aa).length)).length)=x:=⟨_,rfl⟩
    rw[hx]at vN ⊢
    have LK:x∈iG (iV s K) (ek (iV s K) [] ([]:List aa).length):=by rw[<-hx];exact gP (pn (List.length_pos_iff.2 hO))
    have z8:=hgood.add LK gM
    have JH:mF (iV s K) sch steps f (([]:List aa)++[x])=qP (iV s K) sch steps:=by rw[<-hgro,mF,if_neg (fun e=>hO (List.length_eq_zero_iff.1 e)),if_neg (by(try simp only[List.length_nil]at hd ⊢);omega),if_neg ab,hx]
    have qS:([]:List aa).length<=16777215:=by(try simp only[List.length_nil]);omega
    rw[ai]
    (try((repeat(revert hN;revert N;apply Pn.out));refine wk (tw @b0 (tw @b1 (tw @b2 (tw @b8 (tw @e9 (tw @k0 (tw @k1 (tw @w0 (tw @w1 (tw @p0 @p1)))))))))) ?_;(repeat(refine Pn.mk ?_;intro N hN))))
    refine .inr (aS _ _ _ _ _ (fun r σ3 hq=>?_) (zw 0 sT))
    obtain⟨rfl,rfl⟩:=hq
    refine hN _ _ ?_
    clear hN N
    (try((repeat(revert hN;revert N;apply Pn.out));refine wk (tw @b0 (tw @b1 (tw @b2 (tw @b8 (tw @e9 (tw @k0 (tw @k1 (tw @w0 (tw @w1 (tw @p0 @p1)))))))))) ?_;(repeat(refine Pn.mk ?_;intro N hN))))
    refine .inr (aS _ _ _ _ _ (fun r σ3 hq=>?_) (zw 1 sN))
    obtain⟨rfl,rfl⟩:=hq
    refine hN _ _ ?_
    clear hN N
    (try((repeat(revert hN;revert N;apply Pn.out));refine wk (tw @b0 (tw @b1 (tw @b2 (tw @b8 (tw @e9 (tw @k0 (tw @k1 (tw @w0 (tw @w1 (tw @p0 @p1)))))))))) ?_;(repeat(refine Pn.mk ?_;intro N hN))))
    have JA:(([]:List aa)++[x]).map ai=([]:List aa).map ai++[ai x]:=by simp
    have yG:(([]:List aa)++[x]).length=([]:List aa).length+1:=by simp
    rw[ai]at JA
    have P9:=h.o.cv
    refine⟨f,ab,([]:List aa)++[x],f,rfl,JH,z8,by rw[yG];(try simp only[List.length_nil]at hd ⊢);omega,by rw[yG];(try simp only[List.length_nil]at hfu ⊢);omega,?_,.inr ⟨⟨63008003,x2+1+1+1+1+1⟩,by rw[yG];simp only[go_sem, ↓reduceIte,Nat.reduceEqDiff,Nat.reduceAdd,Nat.reduceSub,Nat.reduceLeDiff,reduceCtorEq]<;>rfl,by rw[JA];simp only[go_sem, ↓reduceIte,Nat.reduceEqDiff,Nat.reduceAdd,Nat.reduceSub,Nat.reduceLeDiff,reduceCtorEq]<;>rfl,bL,bL,by rw[yG];omega,rfl⟩,fun y hy hT hO=>?_,bL⟩
    ·have zc:=dE vN.o.cv
     have zT:=dE vN.o.tv
     have zO:=dE vN.o.ov
     obtain⟨en,a1,a2⟩:=vN.op
     refine⟨vN.o.three bL (sd @zc) (sd @zT) (sd @zO),en,sd (tw @zO @a1),a2.frame bL fun y hy ⟨k,r,hk⟩=>?_⟩
     have zy:=dE hy
     simp only[go_sem, ↓reduceIte,Nat.reduceEqDiff,Nat.reduceAdd,Nat.reduceSub,Nat.reduceLeDiff,reduceCtorEq,zy]
    ·have zy:=dE (i:=y) (n:=x2) ab
     simp only[go_sem, ↓reduceIte,Nat.reduceEqDiff,Nat.reduceAdd,Nat.reduceSub,Nat.reduceLeDiff,reduceCtorEq,zy]
     exact(f2 y bL hT hO).trans (jP y hy hT hO)
  ·(try((repeat(revert hN;revert N;apply Pn.out));refine wk (tw @b0 (tw @b1 (tw @b2 (tw @b8 (tw @e9 @hd))))) ?_;(repeat(refine Pn.mk ?_;intro N hN))))
   exact eK (.inl rfl) (vs:=[.bB,.bool true]) (sd @e9) (fin [] _ _ _ (by rw[<-hgro];exact qO (.inr (by(try simp only[List.length_nil]at hd ⊢);omega))) hgood (hC.frame bL fun x hx=>sd @Nat.zero_add) (.inl ⟨rfl,rfl⟩) (fun x hx hT hO=>by
    have z3:=jP x hx hT hO
    simp only[go_sem, ↓reduceIte,Nat.reduceEqDiff,Nat.reduceAdd,Nat.reduceSub,Nat.reduceLeDiff,reduceCtorEq,z3]) bL)
 ·by_cases hd:(es.length:Int)<(steps:Int)
  ·(try((repeat(revert hN;revert N;apply Pn.out));refine wk (tw @b0 (tw @b1 (tw @b2 (tw @b8 (tw @e9 (tw @gu @hd)))))) ?_;(repeat(refine Pn.mk ?_;intro N hN))))
   refine .inr (aS _ _ _ _ _ (fun r σ2 hq=>?_) (Km (σ:=⟨st_b.get,st_b.next+1+1⟩) (c:=c) (T:=T) (O:=O) (B:=B) (es:=es) hP hgood (hC.frame bL fun x hx=>rfl) UW bL hs nP hBb bL))
   obtain⟨g2,x2⟩:=σ2
   obtain⟨n2,f2,hq⟩:=hq
   (try dsimp only at n2 f2 hq)
   refine hN _ _ ?_
   clear hN N
   have Wg:fF g2:=UW.frame (n:=1) (Nat.le_refl _) fun x hx _=>f2 x ab (fun e=>by rw[e]at hx;omega) (fun e=>by rw[e]at hx;omega)
   obtain⟨⟨b3,k0⟩,b4,k1⟩:=Wg
   have w0:=dE (i:=oq 0) (n:=x2) (by rw[iN];omega)
   have w1:=dE (i:=oq 1) (n:=x2) (by rw[iN];omega)
   have p0:(oq 0).site=999000000:=rfl
   have p1:(oq 1).site=999000001:=rfl
   have ku:=(f2 u bL (fun e=>by rw[e]at u1;omega) (fun e=>by rw[e]at u1;omega)).trans gu
   have wu:=dE (i:=u) (n:=x2) ab
   rcases hq with⟨hO,rfl,vN⟩|⟨hO,yD,rfl⟩|⟨hO,gM,rfl,vN⟩
   ·(try((repeat(revert hN;revert N;apply Pn.out));refine wk (tw @b0 (tw @b1 (tw @b2 (tw @b8 (tw @e9 (tw @gu (tw @k0 (tw @k1 (tw @w0 (tw @w1 (tw @p0 (tw @p1 (tw @ku @wu))))))))))))) ?_;(repeat(refine Pn.mk ?_;intro N hN))))
    refine .inr (aS _ _ _ _ _ (fun r σ3 hq=>?_) (ud 0 sT))
    obtain⟨rfl,rfl⟩:=hq
    refine hN _ _ ?_
    clear hN N
    (try((repeat(revert hN;revert N;apply Pn.out));refine wk (tw @b0 (tw @b1 (tw @b2 (tw @b8 (tw @e9 (tw @gu (tw @k0 (tw @k1 (tw @w0 (tw @w1 (tw @p0 (tw @p1 (tw @ku @wu))))))))))))) ?_;(repeat(refine Pn.mk ?_;intro N hN))))
    exact eK (.inl rfl) (vs:=[.own u 0 es.length,.bool true]) (sd @e9) (fin es _ _ _ (by rw[<-hgro];exact qO (.inl (by rw[hO];rfl))) hgood (vN.frame bL fun x hx=>by
     have z1:=dE hx
     simp only[go_sem, ↓reduceIte,Nat.reduceEqDiff,Nat.reduceAdd,Nat.reduceSub,Nat.reduceLeDiff,reduceCtorEq,z1]) (.inr ⟨u,rfl,sd (tw @wu @ku),u1,bL,u3,u4⟩) (fun x hx hT hO=>by
     have z1:=dE (i:=x) (n:=x2) ab
     have z2:=f2 x bL hT hO
     have z3:=jP x hx hT hO
     simp only[go_sem, ↓reduceIte,Nat.reduceEqDiff,Nat.reduceAdd,Nat.reduceSub,Nat.reduceLeDiff,reduceCtorEq,z1]
     exact z2.trans z3) bL)
   ·(try((repeat(revert hN;revert N;apply Pn.out));refine wk (tw @b0 (tw @b1 (tw @b2 (tw @b8 (tw @e9 (tw @gu (tw @k0 (tw @k1 (tw @w0 (tw @w1 (tw @p0 (tw @p1 (tw @ku @wu))))))))))))) ?_;(repeat(refine Pn.mk ?_;intro N hN))))
    refine .inr (aS _ _ _ _ _ (fun r σ3 hq=>?_) (AY 1 0 sN sT fun e=>sTN e.symm))
    obtain⟨rfl,rfl⟩:=hq
    refine hN _ _ ?_
    clear hN N
    (try((repeat(revert hN;revert N;apply Pn.out));refine wk (tw @b0 (tw @b1 (tw @b2 (tw @b8 (tw @e9 (tw @gu (tw @k0 (tw @k1 (tw @w0 (tw @w1 (tw @p0 (tw @p1 (tw @ku @wu))))))))))))) ?_;(repeat(refine Pn.mk ?_;intro N hN))))
    refine .inr (aS _ _ _ _ _ (fun r σ3 hq=>?_) (ud 1 sN))
    obtain⟨rfl,rfl⟩:=hq
    refine hN _ _ ?_
    clear hN N
    (try((repeat(revert hN;revert N;apply Pn.out));refine wk (tw @b0 (tw @b1 (tw @b2 (tw @b8 (tw @e9 (tw @gu (tw @k0 (tw @k1 (tw @w0 (tw @w1 (tw @p0 (tw @p1 (tw @ku @wu))))))))))))) ?_;(repeat(refine Pn.mk ?_;intro N hN))))
    exact eK (.inl rfl) (vs:=[.bB,.bool false]) (sd @Nat.zero_add) ⟨by(try dsimp only at Ib ⊢);omega,fun x hx hT hO=>by
     have z1:=dE (i:=x) (n:=x2) ab
     have z2:=f2 x bL hT hO
     have z3:=jP x ab hT hO
     simp only[go_sem, ↓reduceIte,Nat.reduceEqDiff,Nat.reduceAdd,Nat.reduceSub,Nat.reduceLeDiff,reduceCtorEq,z1]
     exact z2.trans (z3.trans (base x hx)),.inl ⟨by rw[<-hgro,mF,if_neg (fun e=>hO (List.length_eq_zero_iff.1 e)),if_neg (by(try simp only[List.length_nil]at hd ⊢);omega),if_pos yD],rfl⟩⟩
   ·obtain⟨x,hx⟩:∃x,cP (iG (iV s K) (ek (iV s K) es es.length)) (ua sch es.length (iG (iV s K) (ek (iV s K) es es.length)).length)=x:=⟨_,rfl⟩
    rw[hx]at vN ⊢
    have LK:x∈iG (iV s K) (ek (iV s K) es es.length):=by rw[<-hx];exact gP (pn (List.length_pos_iff.2 hO))
    have z8:=hgood.add LK gM
    have JH:mF (iV s K) sch steps f (es++[x])=qP (iV s K) sch steps:=by rw[<-hgro,mF,if_neg (fun e=>hO (List.length_eq_zero_iff.1 e)),if_neg (by(try simp only[List.length_nil]at hd ⊢);omega),if_neg ab,hx]
    have qS:es.length<=16777215:=by(try simp only[List.length_nil]);omega
    rw[ai]
    (try((repeat(revert hN;revert N;apply Pn.out));refine wk (tw @b0 (tw @b1 (tw @b2 (tw @b8 (tw @e9 (tw @k0 (tw @k1 (tw @w0 (tw @w1 (tw @p0 (tw @p1 (tw @ku (tw @wu @qS))))))))))))) ?_;(repeat(refine Pn.mk ?_;intro N hN))))
    refine .inr (aS _ _ _ _ _ (fun r σ3 hq=>?_) (zw 0 sT))
    obtain⟨rfl,rfl⟩:=hq
    refine hN _ _ ?_
    clear hN N
    (try((repeat(revert hN;revert N;apply Pn.out));refine wk (tw @b0 (tw @b1 (tw @b2 (tw @b8 (tw @e9 (tw @k0 (tw @k1 (tw @w0 (tw @w1 (tw @p0 (tw @p1 (tw @ku (tw @wu @qS))))))))))))) ?_;(repeat(refine Pn.mk ?_;intro N hN))))
    refine .inr (aS _ _ _ _ _ (fun r σ3 hq=>?_) (zw 1 sN))
    obtain⟨rfl,rfl⟩:=hq
    refine hN _ _ ?_
    clear hN N
    (try((repeat(revert hN;revert N;apply Pn.out));refine wk (tw @b0 (tw @b1 (tw @b2 (tw @b8 (tw @e9 (tw @k0 (tw @k1 (tw @w0 (tw @w1 (tw @p0 (tw @p1 (tw @ku (tw @wu @qS))))))))))))) ?_;(repeat(refine Pn.mk ?_;intro N hN))))
    have JA:(es++[x]).map ai=es.map ai++[ai x]:=by simp
    have yG:(es++[x]).length=es.length+1:=by simp
    rw[ai]at JA
    have P9:=h.o.cv
    have ncu:(c=u)=False:=eq_false fun e=>by rw[<-e]at u1;omega
    have nTu:(T=u)=False:=eq_false fun e=>by rw[<-e]at u1;omega
    have nOu:(O=u)=False:=eq_false fun e=>by rw[<-e]at u1;omega
    refine⟨f,ab,es++[x],f,rfl,JH,z8,by rw[yG];(try simp only[List.length_nil]at hd ⊢);omega,by rw[yG];(try simp only[List.length_nil]at hfu ⊢);omega,?_,.inr ⟨⟨63008003,x2+1+1+1+1+1⟩,by rw[yG];simp only[go_sem, ↓reduceIte,Nat.reduceEqDiff,Nat.reduceAdd,Nat.reduceSub,Nat.reduceLeDiff,reduceCtorEq]<;>rfl,by rw[JA];simp only[go_sem, ↓reduceIte,Nat.reduceEqDiff,Nat.reduceAdd,Nat.reduceSub,Nat.reduceLeDiff,reduceCtorEq]<;>rfl,bL,bL,by rw[yG];omega,rfl⟩,fun y hy hT hO=>?_,bL⟩
    ·have zc:=dE vN.o.cv
     have zT:=dE vN.o.tv
     have zO:=dE vN.o.ov
     obtain⟨en,a1,a2⟩:=vN.op
     refine⟨vN.o.three bL (sd (tw @zc @ncu)) (sd (tw @zT @nTu)) (sd (tw @zO @nOu)),en,sd (tw @zO (tw @a1 @nOu)),a2.frame bL fun y hy ⟨k,r,hk⟩=>?_⟩
     have zy:=dE hy
     have Xy:(y=u)=False:=eq_false fun e=>by
      rw[e,ku]at hk
      simp at hk
     simp only[go_sem, ↓reduceIte,Nat.reduceEqDiff,Nat.reduceAdd,Nat.reduceSub,Nat.reduceLeDiff,reduceCtorEq,zy,Xy]
    ·have zy:=dE (i:=y) (n:=x2) ab
     have Xy:(y=u)=False:=eq_false fun e=>by rw[<-e]at u1;omega
     simp only[go_sem, ↓reduceIte,Nat.reduceEqDiff,Nat.reduceAdd,Nat.reduceSub,Nat.reduceLeDiff,reduceCtorEq,zy,Xy]
     exact(f2 y bL hT hO).trans (jP y hy hT hO)
  ·(try((repeat(revert hN;revert N;apply Pn.out));refine wk (tw @b0 (tw @b1 (tw @b2 (tw @b8 (tw @e9 (tw @gu @hd)))))) ?_;(repeat(refine Pn.mk ?_;intro N hN))))
   exact eK (.inl rfl) (vs:=[.own u 0 es.length,.bool true]) (sd @e9) (fin es _ _ _ (by rw[<-hgro];exact qO (.inr (by(try simp only[List.length_nil]at hd ⊢);omega))) hgood (hC.frame bL fun x hx=>sd @Nat.zero_add) (.inr ⟨u,rfl,sd @gu,u1,bL,u3,u4⟩) (fun x hx hT hO=>by
    have z3:=jP x hx hT hO
    simp only[go_sem, ↓reduceIte,Nat.reduceEqDiff,Nat.reduceAdd,Nat.reduceSub,Nat.reduceLeDiff,reduceCtorEq,z3]) bL)
theorem PL {σ:aq} {c T O:Id} {s:ax} (hP:kU s) (h:np σ.get σ.next c T O s s.dI.ah) (hE:fF σ.get) (BN:1<=T.cW) (DN:1<=O.cW)
  {sch:List Int} (hs:∀x∈sch,0<=x/\x<=1000) (nP:sch.length<=200) (steps:Nat) (ee:steps<=501):
  Call Tryz.prog 63 [.ptr c 0 0,.sl (sch.map bE),.int .i64 (steps:Int)] σ (VO σ c T O s sch steps):=
 PM (K:=s.dI.ah) hP.w h hE BN DN hs nP steps ee
section
variable {P:Program} {L:List aa}
end
def Nx (sch:List Int):Bool:=decide (sch.length<=200)&& !(sch.any fun n=> !je n 0 1000)
theorem KW {sch:List Int}:Nx sch=true↔sch.length<=200/\∀x∈sch,0<=x/\x<=1000:=by
 unfold Nx
 simp only[Bool.and_eq_true,decide_eq_true_eq,Bool.not_eq_true',List.any_eq_false,Bool.not_eq_false',je,Bool.not_eq_true]
 constructor
 ·rintro⟨h1,h2⟩
  exact⟨h1,fun x hx=>by have:=h2 x hx;simpa using this⟩
 ·rintro⟨h1,h2⟩
  exact⟨h1,fun x hx=>by simpa using h2 x hx⟩
theorem KX (n:Int):aP Tryz.prog 61 [.int .i64 n] (.bool (!je n 0 1000)):=by
 refine aP.body fH rfl fun hl n0=>?_
 clear hl
 have h:=gS n 0 1000
 (repeat(first|((repeat(revert hN;revert N;apply Pn.out));refine wk @Nat.zero_add ?_;(repeat(refine Pn.mk ?_;intro N hN)))|((try apply Or.inl);refine⟨_,aP.x (h) (sd @Nat.zero_add),?_⟩;refine hN _ _ ?_;clear hN N)))
 exact dU (b:= !je n 0 1000) (.inl rfl) (sd @Nat.zero_add) rfl
theorem HJ (ws:List Int) (hl:ws.length<=1048576):aP Tryz.prog 60 [.sl (ws.map bE),.fn 61 []] (.bool (ws.any fun n=> !je n 0 1000)):=
 ki Fh (show Bh Tryz.prog 60=some (z6 60 96) by kernel_rfl)
  (show Bh Tryz.prog 96=some (sw 96 1 false) by kernel_rfl) ws hl _ _ _ rfl (fun g=>by rw[ae]) (fun x _=>KX x) fun g=>by rw[ae]
theorem tP (sch:List Int) (hl:sch.length<=1048576):aP Tryz.prog 34 [.sl (sch.map bE)] (.bool (Nx sch)):=by
 refine aP.body fH rfl fun fR n0=>?_
 clear fR
 have fw:(sch.map bE).length=sch.length:=by simp
 have h:=HJ sch hl
 unfold Nx
 by_cases h2:sch.length<=200
 ·have h3:decide ((sch.length:Int)<=200)=true:=decide_eq_true ab
  (repeat(first|((repeat(revert hN;revert N;apply Pn.out));refine wk (tw @fw @h3) ?_;(repeat(refine Pn.mk ?_;intro N hN)))|((try apply Or.inl);refine⟨_,aP.x (h) (sd (tw @fw @h3)),?_⟩;refine hN _ _ ?_;clear hN N)))
  exact dU (b:= !(sch.any fun n=> !je n 0 1000)) (.inl rfl) (sd @Nat.zero_add) (by rw[decide_eq_true h2];rfl)
 ·have h3:decide ((sch.length:Int)<=200)=false:=decide_eq_false ab
  (repeat(first|((repeat(revert hN;revert N;apply Pn.out));refine wk (tw @fw @h3) ?_;(repeat(refine Pn.mk ?_;intro N hN)))|((try apply Or.inl);refine⟨_,aP.x (h) (sd (tw @fw @h3)),?_⟩;refine hN _ _ ?_;clear hN N)))
  exact dU (b:=false) (.inl rfl) (sd @Nat.zero_add) (by rw[decide_eq_false h2];rfl)
def Iw (σ:aq) (s:ax) (sch:List Int) (steps:Nat) (r:AV) (σ':aq):Prop:=
 σ.next<=σ'.next/\(∀x:Id,x.cW<σ.next->σ'.get x=σ.get x)/\
 ((qP s sch steps=none/\r=.fK [.bB,.agg [.bB],.int .i64 4])∨∃(es:List aa) (v:AV) (o:Id),qP s sch steps=some es/\gC s es/\r=.fK [v,.agg [.own o 0 (ek s es es.length).length],.int .i64 0]/\C9 63008003 σ.next es v σ'.get σ'.next/\σ'.get o=some ⟨true,3,(ek s es es.length).map ai⟩/\σ.next<=o.cW/\o.cW<σ'.next/\∀u m,v=.own u 0 m->u≠o)
theorem Mq {σ:aq} {s:ax} (hP:kU s) (hE:fF σ.get) (qq:1<=σ.next) {sch:List Int} (hs:∀x∈sch,0<=x/\x<=1000) (nP:sch.length<=200) (steps:Nat) (ee:steps<=501):
  Call Tryz.prog 35 [.agg (ej s),.sl (sch.map bE),.int .i64 (steps:Int)] σ (Iw σ s sch steps):=by
 refine eU fH rfl fun fR=>?_
 clear fR
 have hT:1<=s.bD:=(eH hP.pz).1
 have hc:=fun σ=>Au s hP.set hT s.dI.ah hP.nI σ
 rw[ej]at hc ⊢
 (try((repeat(revert hN;revert N;apply Pn.out));refine wk @Nat.zero_add ?_;(repeat(refine Pn.mk ?_;intro N hN))))
 refine .inr (aS _ _ _ _ _ (fun r σ1 hq=>?_) (hc _))
 obtain⟨g1,x1⟩:=σ1
 obtain⟨c,T,O,rfl,hC,P9,BN,DN,BU,jP⟩:=hq
 (try dsimp only at hC P9 BN DN BU jP)
 have base:∀x:Id,x.cW<σ.next->g1 x=σ.get x:=fun x hx=>by
  have h1:=dE hx
  have h2:=jP x bL
  simp only[go_sem, ↓reduceIte,Nat.reduceEqDiff,Nat.reduceAdd,Nat.reduceSub,Nat.reduceLeDiff,reduceCtorEq,h1]at h2
  exact h2
 have k7:=jP ⟨35000002,σ.next⟩ bL
 simp only[go_sem, ↓reduceIte,Nat.reduceEqDiff,Nat.reduceAdd,Nat.reduceSub,Nat.reduceLeDiff,reduceCtorEq]at k7
 refine hN _ _ ?_
 clear hN N
 have Sz:fF g1:=hE.frame (n:=1) (Nat.le_refl _) fun x hx _=>base x ab
 (try((repeat(revert hN;revert N;apply Pn.out));refine wk @k7 ?_;(repeat(refine Pn.mk ?_;intro N hN))))
 refine .inr (aS _ _ _ _ _ (fun r σ2 hq=>?_) (PL (σ:=⟨g1,_⟩) (c:=c) (T:=T) (O:=O) hP (hC.frame bL fun x hx=>rfl) Sz ab ab hs nP steps ee))
 obtain⟨g2,x2⟩:=σ2
 obtain⟨n2,f2,hq⟩:=hq
 (try dsimp only at n2 f2 hq)
 have kT:T.cW<x1:=hC.o.tv
 have kO:O.cW<x1:=hC.o.ov
 have Xv:=(f2 ⟨35000002,σ.next⟩ bL (fun e=>by rw[<-e]at BN;(try dsimp only at BN);omega) (fun e=>by rw[<-e]at DN;(try dsimp only at DN);omega)).trans k7
 have N5:∀x:Id,x.cW<σ.next->g2 x=σ.get x:=fun x hx=>(f2 x ab (fun e=>by rw[e]at hx;omega) (fun e=>by rw[e]at hx;omega)).trans (base x hx)
 refine hN _ _ ?_
 clear hN N
 rcases hq with⟨hg,rfl⟩|⟨es,v,hg,hG,vN,rfl,hL⟩
 ·(try((repeat(revert hN;revert N;apply Pn.out));refine wk @Xv ?_;(repeat(refine Pn.mk ?_;intro N hN))))
  exact eK (.inl rfl) (vs:=[.bB,.agg [.bB],.int .i64 4]) (sd @Nat.zero_add) ⟨bL,fun x hx=>by
   have h1:=dE hx
   simp only[go_sem, ↓reduceIte,Nat.reduceEqDiff,Nat.reduceAdd,Nat.reduceSub,Nat.reduceLeDiff,reduceCtorEq,h1,N5 x hx],.inl ⟨hg,rfl⟩⟩
 ·have hA:=jS hP (es:=es) es.length (Nat.le_refl _) hG
  have P3:=y9 hP (es:=es) es.length (Nat.le_refl _) hG
  rw[List.take_length]at P3
  have la:=oF s es es.length (Nat.le_refl _)
  have JC:=hA.1.CX
  have yK:=hP.some
  (try((repeat(revert hN;revert N;apply Pn.out));refine wk @Xv ?_;(repeat(refine Pn.mk ?_;intro N hN))))
  refine .inr (aS _ _ _ _ _ (fun r σ3 hq=>?_) (Dd (σ:=⟨g2,_⟩) (L:=ek s es es.length) (vN.o.frame bL fun x _=>rfl) (by rw[List.length_append];omega) (fun e=>by have:=congrArg List.length e;rw[List.length_append,List.length_nil]at this;omega) hA.1.OG P3.perm))
  obtain⟨g3,x3⟩:=σ3
  obtain⟨o,rfl,q1,q2,q3,q4,q5⟩:=hq
  (try dsimp only at q1 q2 q3 q4 q5)
  have k73:=(q5 ⟨35000002,σ.next⟩ bL (fun e=>by rw[<-e]at BN;(try dsimp only at BN);omega)).trans Xv
  have vo:=dD (a:=(⟨35000002,σ.next⟩:Id)) (b:=o) bL
  refine hN _ _ ?_
  clear hN N
  have vc:v.cells=[v]/\v.cell=true:=by
   rcases hL with⟨_,rfl⟩|⟨u,rfl,_⟩<;>exact⟨rfl,rfl⟩
  obtain⟨c1,c2⟩:=vc
  (try((repeat(revert hN;revert N;apply Pn.out));refine wk (tw @k73 (tw @vo (tw @c1 @c2))) ?_;(repeat(refine Pn.mk ?_;intro N hN))))
  refine eK (.inl rfl) (vs:=[v,.agg [.own o 0 (ek s es es.length).length],.int .i64 0]) (sd @Nat.zero_add) ⟨bL,fun x hx=>?_,.inr ⟨es,v,o,hg,hG,rfl,?_,sd (tw @vo @q1),ab,bL,?_⟩⟩
  ·have h1:=dE hx
   have h2:=q5 x ab (fun e=>by rw[e]at hx;omega)
   simp only[go_sem, ↓reduceIte,Nat.reduceEqDiff,Nat.reduceAdd,Nat.reduceSub,Nat.reduceLeDiff,reduceCtorEq,h1]
   exact h2.trans (N5 x hx)
  ·rcases hL with h1|⟨u,h1,h2,h3,h4,h40,h5⟩
   ·exact .inl h1
   ·have vu:(u=(⟨35000002,σ.next⟩:Id))=False:=eq_false fun e=>by rw[e]at h3;(try dsimp only at h3);omega
    have h6:=(q5 u bL (fun e=>by rw[e]at h3;omega)).trans h2
    exact .inr ⟨u,h1,sd (tw @vu @h6),ab,bL,h40,h5⟩
  ·intro u m e1 e2
   rcases hL with⟨_,h1⟩|⟨u',h1,h2,h3,h4,h40,h5⟩
   ·rw[h1]at e1;cases e1
   ·rw[h1]at e1
    injection e1 with e1
    rw[<-e1]at e2
    rw[e2]at h4
    (try dsimp only at q2)
    omega
def RW (σ:aq) (s:ax) (sch:List Int) (steps:Nat) (r:AV) (σ':aq):Prop:=
 (nJ s=false/\r=.fK [.bB,.agg [.bB],.int .i64 1]/\σ.next<=σ'.next/\∀x:Id,x.cW<σ.next->σ'.get x=σ.get x)∨(nJ s=true/\Iw σ s sch steps r σ')
theorem O0 {σ:aq} (s:ax) (hn:mm s.ar) (hm:ID s) (hE:fF σ.get) (qq:1<=σ.next) {sch:List Int} (hs:∀x∈sch,0<=x/\x<=1000) (nP:sch.length<=200):
  Call Tryz.prog 10 [.agg (ej s),.sl (sch.map bE)] σ (RW σ s sch 501):=by
 refine eU fH rfl fun fR=>?_
 clear fR
 have h1:=xD Pk s hn hm.s.g hm.s.t (fun t ht=>hm.s.s t ht) hm.a
 have h2:=tP sch ab
 rw[KW.2 ⟨nP,hs⟩]at h2
 have hc:=fun(hP:kU s) (σ:aq) (hE:fF σ.get) (h1:1<=σ.next)=>Mq hP hE h1 hs nP 501 ab
 cases h0:nJ s
 ·rw[h0]at h1
  rw[ej]at h1 ⊢
  (repeat(first|((repeat(revert hN;revert N;apply Pn.out));refine wk @Nat.zero_add ?_;(repeat(refine Pn.mk ?_;intro N hN)))|((try apply Or.inl);refine⟨_,aP.x (h1) (sd @Nat.zero_add),?_⟩;refine hN _ _ ?_;clear hN N)))
  exact eK (.inl rfl) (vs:=[.bB,.agg [.bB],.int .i64 1]) (sd @Nat.zero_add) (.inl ⟨h0,rfl,bL,fun x hx=>by
   have h1:=dE hx
   simp only[go_sem, ↓reduceIte,Nat.reduceEqDiff,Nat.reduceAdd,Nat.reduceSub,Nat.reduceLeDiff,reduceCtorEq,h1]⟩)
 ·rw[h0]at h1
  have hP:=rJ.1 h0
  rw[ej]at h1 hc ⊢
  (repeat(first|((repeat(revert hN;revert N;apply Pn.out));refine wk @Nat.zero_add ?_;(repeat(refine Pn.mk ?_;intro N hN)))|((try apply Or.inl);refine⟨_,aP.x (h1) (sd @Nat.zero_add),?_⟩;refine hN _ _ ?_;clear hN N)|((try apply Or.inl);refine⟨_,aP.x (h2) (sd @Nat.zero_add),?_⟩;refine hN _ _ ?_;clear hN N)))
  refine .inr (aS _ _ _ _ _ (fun r σ1 hq=>?_) (hc hP _ (hE.frame (n:=1) (Nat.le_refl _) fun x hx _=>by
   have h1:=dE (i:=x) (n:=σ.next) ab
   simp only[go_sem, ↓reduceIte,Nat.reduceEqDiff,Nat.reduceAdd,Nat.reduceSub,Nat.reduceLeDiff,reduceCtorEq,h1]) bL))
  obtain⟨g1,x1⟩:=σ1
  obtain⟨n1,f1,hq⟩:=hq
  (try dsimp only at n1 f1 hq)
  have k7:=f1 ⟨10000002,σ.next⟩ bL
  simp only[go_sem, ↓reduceIte,Nat.reduceEqDiff,Nat.reduceAdd,Nat.reduceSub,Nat.reduceLeDiff,reduceCtorEq]at k7
  have base:∀x:Id,x.cW<σ.next->g1 x=σ.get x:=fun x hx=>by
   have h1:=dE hx
   have h2:=f1 x bL
   simp only[go_sem, ↓reduceIte,Nat.reduceEqDiff,Nat.reduceAdd,Nat.reduceSub,Nat.reduceLeDiff,reduceCtorEq,h1]at h2
   exact h2
  refine hN _ _ ?_
  clear hN N
  rcases hq with⟨hg,rfl⟩|⟨es,v,o,hg,hG,rfl,hL,go,q2,q3,ig⟩
  ·(try((repeat(revert hN;revert N;apply Pn.out));refine wk @k7 ?_;(repeat(refine Pn.mk ?_;intro N hN))))
   exact eK (.inl rfl) (vs:=[.bB,.agg [.bB],.int .i64 4]) (sd @Nat.zero_add) (.inr ⟨h0,bL,fun x hx=>by
    have h1:=dE hx
    simp only[go_sem, ↓reduceIte,Nat.reduceEqDiff,Nat.reduceAdd,Nat.reduceSub,Nat.reduceLeDiff,reduceCtorEq,h1,base x hx],.inl ⟨hg,rfl⟩⟩)
  ·have vc:v.cells=[v]/\v.cell=true:=by
    rcases hL with⟨_,rfl⟩|⟨u,rfl,_⟩<;>exact⟨rfl,rfl⟩
   obtain⟨c1,c2⟩:=vc
   have vo:(o=(⟨10000002,σ.next⟩:Id))=False:=eq_false fun e=>by rw[e]at q2;(try dsimp only at q2);omega
   (try((repeat(revert hN;revert N;apply Pn.out));refine wk (tw @k7 (tw @vo (tw @c1 @c2))) ?_;(repeat(refine Pn.mk ?_;intro N hN))))
   refine eK (.inl rfl) (vs:=[v,.agg [.own o 0 (ek s es es.length).length],.int .i64 0]) (sd @Nat.zero_add) (.inr ⟨h0,bL,fun x hx=>by
    have h1:=dE hx
    simp only[go_sem, ↓reduceIte,Nat.reduceEqDiff,Nat.reduceAdd,Nat.reduceSub,Nat.reduceLeDiff,reduceCtorEq,h1,base x hx],.inr ⟨es,v,o,hg,hG,rfl,?_,sd (tw @vo @go),by(try dsimp only at q2);omega,bL,ig⟩⟩)
   rcases hL with h1|⟨u,h1,h2,h3,h4,h40,h5⟩
   ·exact .inl h1
   ·have vu:(u=(⟨10000002,σ.next⟩:Id))=False:=eq_false fun e=>by rw[e]at h3;(try dsimp only at h3);omega
    exact .inr ⟨u,h1,sd (tw @vu @h2),by(try dsimp only at h3);omega,bL,h40,h5⟩
def nS (g:Rows) (X:Id) (bs:List Int) (a:Nat) (z:Int):Prop:=g X=some ⟨true,3,[[.sl (bs.map iC),.int .i64 (a:Int),.int .u64 z]]⟩
theorem QP (bs:List Int) (hb:∀b∈bs,0<=b/\b<=255) (nA:bs.length<=4096) (a:Nat) (WB:a<=1073741824) (z:Int):
  ∃v z':Int,(∀(X:Id) (σ:aq),nS σ.get X bs a z->Call Tryz.prog 53 [.ptr X 0 0] σ fun r σ'=>r=.int .i64 v/\nS σ'.get X bs (a+1) z'/\j9 X σ σ')/\0<=v/\v<=255:=by
 have fw:(bs.map iC).length=bs.length:=by simp
 have w1:IntKind.i64.wrap ((a:Int)+1)=((a+1:Nat):Int):=(dy ab).trans ab
 by_cases ha:(a:Int)<(bs.length:Int)
 ·have JG:(bs.map iC)[a]? =some [.int .u8 (bs.getD a 0)]:=getD_map iC ab
  have CZ:=hb (bs.getD a 0) (by rw[List.getD_eq_getElem?_getD,List.getElem?_eq_getElem (by omega:a<bs.length)];exact List.getElem_mem ab)
  generalize bs.getD a 0=b at JG CZ
  have w2:IntKind.i64.wrap b=b:=dy ab
  have hle:((a+1:Nat):Int)<=(bs.length:Int):=ab
  apply Exists.intro b
  apply Exists.intro
  refine⟨fun X σ hg=>?_,CZ.1,CZ.2⟩
  unfold nS at hg
  refine eU fH rfl fun fR=>?_
  clear fR
  (try((repeat(revert hN;revert N;apply Pn.out));refine wk (tw @hg (tw @fw (tw @ha (tw @JG (tw @w1 (tw @w2 @hle)))))) ?_;(repeat(refine Pn.mk ?_;intro N hN))))
  exact eK (.inl rfl) (vs:=[.int .i64 b]) (sd @Nat.zero_add) ⟨rfl,by unfold nS;simp only[go_sem, ↓reduceIte,Nat.reduceEqDiff,Nat.reduceAdd,Nat.reduceSub,Nat.reduceLeDiff,reduceCtorEq];rfl,bL,fun i hi _=>sd @hi⟩
 ·have hle:decide (((a+1:Nat):Int)<=(bs.length:Int))=false:=decide_eq_false ab
  apply Exists.intro
  apply Exists.intro
  refine⟨fun X σ hg=>?_,?_⟩
  ·unfold nS at hg
   refine eU fH rfl fun fR=>?_
   clear fR
   (try((repeat(revert hN;revert N;apply Pn.out));refine wk (tw @hg (tw @fw (tw @ha (tw @w1 @hle)))) ?_;(repeat(refine Pn.mk ?_;intro N hN))))
   exact eK (.inl rfl) (vs:=[.int .i64 _]) (by simp only[gR,jV,go_sem, ↓reduceIte,Nat.reduceEqDiff,Nat.reduceAdd,Nat.reduceSub,Nat.reduceLeDiff,reduceCtorEq]<;>rfl) ⟨rfl,by unfold nS;simp only[go_sem, ↓reduceIte,Nat.reduceEqDiff,Nat.reduceAdd,Nat.reduceSub,Nat.reduceLeDiff,reduceCtorEq];rfl,bL,fun i hi _=>sd @hi⟩
  ·exact uS _
theorem Av (bs:List Int) (hb:∀b∈bs,0<=b/\b<=255) (nA:bs.length<=4096) (n:Int) (qq:1<n) (pH:n<=200) (a:Nat) (WB:a<=1073741824) (z:Int):
  ∃v z':Int,(∀(X:Id) (σ:aq),nS σ.get X bs a z->Call Tryz.prog 20 [.ptr X 0 0,.int .i64 n] σ fun r σ'=>r=.int .i64 v/\nS σ'.get X bs (a+1) z'/\j9 X σ σ')/\0<=v/\v<n:=by
 obtain⟨v,z',hc,v0,v1⟩:=QP bs hb nA a WB z
 have Ij:(n=0)=False:=eq_false ab
 have h1:¬n<=1:=ab
 have h2:¬(200:Int)<n:=ab
 refine⟨v.tmod n,z',fun X σ hg=>?_,(sV v0 ab).1,by have:=(sV v0 (show 0<n by omega)).2;omega⟩
 refine eU fH rfl fun fR=>?_
 clear fR
 (try((repeat(revert hN;revert N;apply Pn.out));refine wk @h1 ?_;(repeat(refine Pn.mk ?_;intro N hN))))
 refine .inr (aS _ _ _ _ _ (fun r σ1 hq=>?_) (hc X _ hg))
 obtain⟨rfl,q1,k1⟩:=hq
 refine hN _ _ ?_
 clear hN N
 (try((repeat(revert hN;revert N;apply Pn.out));refine wk (tw @h2 @Ij) ?_;(repeat(refine Pn.mk ?_;intro N hN))))
 exact eK (.inl rfl) (vs:=[.int .i64 (v.tmod n)]) (sd @Nat.zero_add) ⟨rfl,q1,(j9.to k1 ab bL:j9 X ⟨σ.get,σ.next⟩ ⟨σ1.get,_⟩)⟩
theorem Hb (bs:List Int) (σ:aq):
  Call Tryz.prog 19 [.sl (bs.map iC)] σ fun r σ'=>∃X:Id,r=.ptr X 0 0/\σ.next<=X.cW/\X.cW<σ'.next/\nS σ'.get X bs 0 0:=by
 refine eU fH rfl fun fR=>?_
 clear fR
 (try((repeat(revert hN;revert N;apply Pn.out));refine wk @Nat.zero_add ?_;(repeat(refine Pn.mk ?_;intro N hN))))
 exact eK (.inl rfl) (vs:=[.ptr ⟨19001002,_⟩ 0 0]) (by simp only[gR,jV,go_sem, ↓reduceIte,Nat.reduceEqDiff,Nat.reduceAdd,Nat.reduceSub,Nat.reduceLeDiff,reduceCtorEq]<;>rfl) ⟨_,rfl,bL,bL,by unfold nS;simp only[go_sem, ↓reduceIte,Nat.reduceEqDiff,Nat.reduceAdd,Nat.reduceSub,Nat.reduceLeDiff,reduceCtorEq]<;>rfl⟩
theorem Me (bs:List Int) (hb:∀b∈bs,0<=b/\b<=255) (nA:bs.length<=4096):∃F:Nat->Int->Int×Int,∀a z,a<=1073741824->(∀(X:Id) (σ:aq),nS σ.get X bs a z->Call Tryz.prog 20 [.ptr X 0 0,.int .i64 20] σ fun r σ'=>r=.int .i64 (F a z).1/\nS σ'.get X bs (a+1) (F a z).2/\j9 X σ σ')/\0<=(F a z).1/\(F a z).1<20:=by
 classical
 refine⟨fun a z=>if h:a<=1073741824 then((Av bs hb nA 20 ab ab a h z).choose,(Av bs hb nA 20 ab ab a h z).choose_spec.choose)else(0,0),fun a z h=>?_⟩
 simp only[dif_pos h]
 exact(Av bs hb nA 20 ab ab a h z).choose_spec.choose_spec
def pD (F:Nat->Int->Int×Int):Nat->Nat->Int->List Int
 |0,_,_=>[]
 |m+1,a,z=>(F a z).1::pD F m (a+1) (F a z).2
theorem ym (F:Nat->Int->Int×Int):∀m a z,(pD F m a z).length=m
 |0,_,_=>rfl
 |m+1,a,z=>by rw[pD,List.length_cons,ym F m]
theorem xz (bs:List Int) (hb:∀b∈bs,0<=b/\b<=255) (nA:bs.length<=4096):
  ∃sch:List Int,aP Tryz.prog 11 [.sl (bs.map iC)] (.sl (sch.map bE))/\(∀x∈sch,0<=x/\x<=19)/\sch.length<=6:=by
 obtain⟨F,hF⟩:=Me bs hb nA
 obtain⟨k,z1,hk,k0,k7⟩:=Av bs hb nA 7 ab ab 0 ab 0
 obtain⟨m,rfl⟩:=Int.eq_ofNat_of_zero_le k0
 have SU:∀n a z,a+n<=1000->∀x∈pD F n a z,0<=x/\x<=19:=fun n=>by
  induction n with
  |zero=>intro a z _ x hx;cases hx
  |succ n ih=>
   intro a z ha x hx
   rw[pD]at hx
   rcases List.mem_cons.1 hx with rfl|hx
   ·have:=(hF a z ab).2;omega
   ·exact ih _ _ ab x hx
 refine⟨pD F m 1 z1,?_,SU m 1 z1 ab,by rw[ym];omega⟩
 refine aP.body fH rfl fun fR n0=>?_
 clear fR
 (try((repeat(revert hN;revert N;apply Pn.out));refine wk @Nat.zero_add ?_;(repeat(refine Pn.mk ?_;intro N hN))))
 refine .inr (aS _ _ _ _ _ (fun r σ1 hq=>?_) (Hb bs _))
 obtain⟨X,rfl,x0,x1,hs⟩:=hq
 refine hN _ _ ?_
 clear hN N
 have vX:=dE x1
 have LJ:nS (bH σ1.get ⟨11002000,σ1.next+1⟩ ⟨true,1,[]⟩) X bs 0 0:=by
  unfold nS at hs ⊢
  simp only[go_sem, ↓reduceIte,Nat.reduceEqDiff,Nat.reduceAdd,Nat.reduceSub,Nat.reduceLeDiff,reduceCtorEq,vX]<;>exact hs
 (try((repeat(revert hN;revert N;apply Pn.out));refine wk @Nat.zero_add ?_;(repeat(refine Pn.mk ?_;intro N hN))))
 refine .inr (aS _ _ _ _ _ (fun r σ2 hq=>?_) (hk X _ LJ))
 obtain⟨rfl,h2,k2⟩:=hq
 have hw:=k2.2 ⟨11002000,σ1.next+1⟩ (fun e=>by rw[<-e]at x1;(try dsimp only at x1);omega) bL
 have pH:=k2.1
 (try dsimp only at pH)
 simp only[go_sem, ↓reduceIte,Nat.reduceEqDiff,Nat.reduceAdd,Nat.reduceSub,Nat.reduceLeDiff,reduceCtorEq]at hw
 clear vX hs LJ k2
 refine hN _ _ ?_
 clear hN N
 (try((repeat(revert hN;revert N;apply Pn.out));refine wk @Nat.zero_add ?_;(repeat(refine Pn.mk ?_;intro N hN))))
 refine cU (fun i env st=>∃(sch:List Int) (w:Id) (z:Int),env 5=.int .i64 (i:Int)/\env 4=.own w 0 sch.length/\st.get w=some ⟨true,1,sch.map bE⟩/\nS st.get X bs (1+sch.length) z/\i+sch.length=m/\sch++pD F i (1+sch.length) z=pD F m 1 z1/\w.cW<st.next/\X.cW<st.next/\w≠X) m ⟨[],⟨11002000,σ1.next+1⟩,z1,sd @Nat.zero_add,sl @Nat.zero_add,hw,h2,by simp,rfl,bL,bL,fun e=>by rw[<-e]at x1;(try dsimp only at x1);omega⟩ ?_
 rintro i env_b st_b ⟨sch,w,z,b5,b4,gw,hs,hl,hr,vw,vx,ig⟩ fA
 have b3:=fA 3 (by kernel_rfl)
 simp only[go_sem, ↓reduceIte,Nat.reduceEqDiff,Nat.reduceAdd,Nat.reduceSub,Nat.reduceLeDiff,reduceCtorEq]at b3
 clear fA
 by_cases hm:(0:Int)<(i:Int)
 ·obtain⟨i,rfl⟩:∃j,i=j+1:=⟨i-1,ab⟩
  obtain⟨hc,u0,u1⟩:=hF (1+sch.length) z ab
  rw[pD]at hr
  generalize hFv:F (1+sch.length) z=q0 at *
  obtain⟨u,z2⟩:=q0
  (try dsimp only at hc u0 u1 hr)
  (try((repeat(revert hN;revert N;apply Pn.out));refine wk (tw @b3 (tw @b4 (tw @b5 @hm))) ?_;(repeat(refine Pn.mk ?_;intro N hN))))
  refine .inr (aS _ _ _ _ _ (fun r σ3 hq=>?_) (hc X _ hs))
  obtain⟨rfl,h3,k3⟩:=hq
  have gw3:=(k3.2 w ig bL).trans gw
  have Ql:=k3.1
  (try dsimp only at Ql)
  clear k3
  have vw3:=dE (i:=w) (n:=σ3.next) ab
  have vx3:=dE (i:=X) (n:=σ3.next) ab
  have wm:IntKind.i64.wrap (((i+1:Nat):Int)-1)=(i:Int):=(dy ab).trans ab
  refine hN _ _ ?_
  clear hN N
  have qS:sch.length<=16777215:=ab
  have e1:(X=w)=False/\(w=X)=False:=⟨eq_false fun e=>ig e.symm,eq_false ig⟩
  have hms:(sch++[u]).map bE=sch.map bE++[bE u]:=by simp
  have yG:(sch++[u]).length=sch.length+1:=by simp
  rw[bE]at hms
  unfold nS at h3
  (try((repeat(revert hN;revert N;apply Pn.out));refine wk (tw @b3 (tw @b4 (tw @b5 (tw @gw3 (tw @vw3 (tw @wm @qS)))))) ?_;(repeat(refine Pn.mk ?_;intro N hN))))
  refine⟨i,ab,sch++[u],⟨11006004,σ3.next⟩,z2,sl @Nat.zero_add,sl @yG,sl @hms,by unfold nS;rw[yG];simp only[go_sem, ↓reduceIte,Nat.reduceEqDiff,Nat.reduceAdd,Nat.reduceSub,Nat.reduceLeDiff,reduceCtorEq,vx3,e1];exact h3,by rw[yG];omega,by rw[yG,List.append_assoc];exact hr,bL,bL,fun e=>by have:=congrArg Id.cW e;(try dsimp only at this);omega⟩
 ·obtain rfl:i=0:=ab
  (try((repeat(revert hN;revert N;apply Pn.out));refine wk (tw @b3 (tw @b4 (tw @b5 @hm))) ?_;(repeat(refine Pn.mk ?_;intro N hN))))
  rw[pD,List.append_nil]at hr
  exact⟨[.own w 0 sch.length],sd @b4,_,by simp only[iL];exact fN (e:=bE) gw rfl fun x=>Ss _ _ _,by rw[hr]⟩
theorem x7 (bs:List Int) (hb:∀b∈bs,0<=b/\b<=255) (nA:bs.length<=4096) (n:Int) (hn:0<n):pA Tryz.prog 6 [.sl (bs.map iC),.int .i64 n] fun r=>∃k:Nat,r=.int .i64 (k:Int)/\(k:Int)<n:=by
 refine pA.body fH rfl fun fR n0=>?_
 clear fR
 (try((repeat(revert hN;revert N;apply Pn.out));refine wk @Nat.zero_add ?_;(repeat(refine Pn.mk ?_;intro N hN))))
 refine .inr (aS _ _ _ _ _ (fun r σ1 hq=>?_) (Hc bs _))
 obtain⟨X,rfl,x0,x1,hs,hK⟩:=hq
 clear hK
 refine hN _ _ ?_
 clear hN N
 (try((repeat(revert hN;revert N;apply Pn.out));refine wk @Nat.zero_add ?_;(repeat(refine Pn.mk ?_;intro N hN))))
 refine .inr (aS _ _ _ _ _ (fun r σ2 hq=>?_) (QS bs hb nA X n 0 ab _ hs))
 obtain⟨v,rfl,v0,v1,h2,k2⟩:=hq
 obtain⟨m,rfl⟩:=Int.eq_ofNat_of_zero_le v0
 refine hN _ _ ?_
 clear hN N
 (try((repeat(revert hN;revert N;apply Pn.out));refine wk @Nat.zero_add ?_;(repeat(refine Pn.mk ?_;intro N hN))))
 exact⟨[.int .i64 (m:Int)],sd @Nat.zero_add,_,by simp only[iL,eW],m,rfl,ab⟩
noncomputable def GO (s:ax) (sch:List Int) (steps:Nat):AV:=if nJ s then(match qP s sch steps with
 |some es=>.fK [RS ai es,.agg [.sl ((ek s es es.length).map ai)],.int .i64 0]
 |none=>.fK [.bB,.agg [.bB],.int .i64 4])else .fK [.bB,.agg [.bB],.int .i64 1]
theorem fF.ro {g:Rows} (h:fF g):fF (V.ro g):=by
 obtain⟨⟨b,h1⟩,c,h2⟩:=h
 exact⟨⟨false,by unfold V.ro;rw[h1];rfl⟩,false,by unfold V.ro;rw[h2];rfl⟩
end Go.Proofs.YtakkdjfmiffbfaaGreatDoor.V

namespace Go.Proofs.YtakkdjfmiffbfaaGreatDoor.V
open Go.RowKit
def q9 (g:Rows):Rows:=fun id=>if id=oq 0∨id=oq 1 then(g id).map fun r=>{r with w:=false}else none
theorem fF.xS {g:Rows} (h:fF g):fF (q9 g):=by
 obtain⟨⟨b,h1⟩,c,h2⟩:=h
 refine⟨⟨false,?_⟩,false,?_⟩
 ·unfold q9;rw[if_pos (.inl rfl),h1];rfl
 ·unfold q9;rw[if_pos (.inr rfl),h2];rfl
section
variable {P:Program} {w w':World} {D D' D1 D2:Nat->Prop} {ι ι1 ι2:Names}
theorem EV {f:Nat} {args args':List AV} {g:Rows} {n:Nat} {K:AV->aq->Prop} (hv:er (dW g) 6 args=some args')
  (h:Sound P f args' ⟨q9 g,n⟩ fun r σ'=>∃ids,r.zL=true/\Handed ids σ'.get/\K r ⟨rM ids g σ'.get,σ'.next⟩):Sound P f args ⟨g,n⟩ K:=by
 intro hs D ι w vs S U A
 let E:Nat->Prop:=fun b=>D b∨∃id r B,g id=some r/\ι id=some B/\b=B.b
 have lt:∀id r B,g id=some r->ι id=some B->B.b<w.heap.size:=fun id r B h1 h2=>by
  obtain⟨B',ei,R,_⟩:=S.row id r h1
  rw[h2]at ei;injection ei with ei;subst ei
  exact R.lt
 have kp:∀{id r},q9 g id=some r->r.w=false/\∃r0,g id=some r0/\r={r0 with w:=false}:=fun {id r} h=>by
  unfold q9 at h
  split at h
  ·simp only[Option.map_eq_some_iff]at h
   obtain⟨r0,h1,rfl⟩:=h
   exact⟨rfl,r0,h1,rfl⟩
  ·cases h
 have S0:fY P w.heap.size E ι (q9 g) w:=⟨Nat.le_refl _,fun b hb=>by
  rcases hb with hb|⟨id,r,B,h1,h2,rfl⟩
  ·exact S.dead b hb
  ·exact lt id r B h1 h2,fun id r h=>by
   obtain⟨hw,r0,h0,rfl⟩:=kp h
   obtain⟨B,hB,R,_,_⟩:=S.row id r0 h0
   exact⟨B,hB,(R.frame rfl fun a v h=>h.frame (fun _ _=>rfl) (fun _ h=>.inl h) fun _ _ h=>h).flag false,fun h=>(by cases h),fun h=>(by cases h)⟩,fun id jQ r r' B B' h h' hw=>by
   obtain⟨tX,_⟩:=kp h
   rw[hw]at tX;cases tX⟩
 obtain⟨l1,l2⟩:=gx hv
 have A':fo P w E ι args' vs:=⟨by rw[A.1,l1],fun j a hj=>by
  obtain⟨a0,kQ,hz⟩:=l2 j a hj
  obtain⟨u,hu,hr⟩:=A.2 j a0 kQ
  refine⟨u,hu,(qN (D2:=E) (ι2:=ι) (fun b h=>.inl h) (fun id row hg hw=>?_) 6 a0 u a hr hz).1⟩
  unfold dW at hg
  simp only[Option.map_eq_some_iff]at hg
  obtain⟨r,nL,rfl⟩:=hg
  obtain⟨B,hB,R,_,_⟩:=S.row id r nL
  exact⟨B,hB,R.flag true,.inr ⟨id,r,B,nL,hB,rfl⟩⟩⟩
 refine(h w.heap.size E ι w vs S0 U A').mono ?_
 rintro e w' ⟨r0,g',n',D2,ι1,u,rfl,⟨ids,mH,hid,hK⟩,T,S1,U1,hn,hR⟩
 have hb:∀b,b<w.heap.size->w'.heap[b]? =w.heap[b]? :=T.below.block
 have hz:=T.below.size
 have frame:∀{a v},dF P w D ι a v->dF P w' D ι1 a v:=fun h=>h.frame (fun b hd=>hb b (S.dead b hd)) (fun _ h=>h) T.names
 refine⟨r0,_,n',D,ι1,u,rfl,hK,⟨T.below.mono S.lo,fun b hd=>hb b (S.dead b hd),fun _ h=>h,T.names,fun _ h=>.inl h⟩,⟨Nat.le_trans S.lo hz,fun b hd=>Nat.lt_of_lt_of_le (S.dead b hd) hz,fun id r hr=>?_,fun TG id2 r1 r2 B1 B2 h1 h2 hw AN pv CZ=>?_⟩,U1,hn,Ev mH hR⟩
 ·by_cases hi:id∈ids
  ·rw[oP hi]at hr
   obtain⟨r',nL,hw,hcr⟩:=hid id hi
   rw[hr]at nL;injection nL with nL;subst nL
   obtain⟨B,hB,R,k1,k2⟩:=S1.row id r hr
   have lx:=k1 hw
   exact⟨B,hB,R.clean hcr,fun _=>Nat.le_trans S.lo lx,fun _ hd=>Nat.lt_irrefl _ (Nat.lt_of_lt_of_le (S.dead _ hd) lx)⟩
  ·rw[zq hi]at hr
   obtain⟨B,hB,R,k1,k2⟩:=S.row id r hr
   have Ib:=lt id r B hr hB
   exact⟨B,T.names _ _ hB,R.frame (hb _ Ib) fun a v h=>frame h,k1,k2⟩
 ·have new:∀{id r B},id∈ids->rM ids g g' id=some r->ι1 id=some B->w.heap.size<=B.b/\g' id=some r/\r.w=true:=fun {id r B} hi hr hB=>by
   rw[oP hi]at hr
   obtain⟨r',nL,hw,_⟩:=hid id hi
   replace nL:g' id=some r':=nL
   rw[hr]at nL;injection nL with nL;subst nL
   obtain⟨B',ei,_,k1,_⟩:=S1.row id r hr
   rw[hB]at ei;injection ei with ei;subst ei
   exact⟨k1 hw,hr,hw⟩
  have Cs:∀{id r B},id∉ids->rM ids g g' id=some r->ι1 id=some B->B.b<w.heap.size/\g id=some r/\ι id=some B:=fun {id r B} hi hr hB=>by
   rw[zq hi]at hr
   obtain⟨B',ei,_⟩:=S.row id r hr
   have:=T.names _ _ ei
   rw[hB]at this;injection this with this;subst this
   exact⟨lt id r _ hr ei,hr,ei⟩
  by_cases i1:TG∈ids
  ·obtain⟨a1,a2,a3⟩:=new i1 h1 AN
   by_cases i2:id2∈ids
   ·obtain⟨b1,b2,b3⟩:=new i2 h2 pv
    exact S1.inj TG id2 r1 r2 B1 B2 a2 b2 hw AN pv CZ
   ·obtain⟨b1,_⟩:=Cs i2 h2 pv
    omega
  ·obtain⟨a1,a2,a3⟩:=Cs i1 h1 AN
   by_cases i2:id2∈ids
   ·obtain⟨b1,_⟩:=new i2 h2 pv
    omega
   ·obtain⟨b1,b2,b3⟩:=Cs i2 h2 pv
    exact S.inj TG id2 r1 r2 B1 B2 a2 b2 hw a3 b3 CZ
end
theorem Gf {P:Program} (hm:P.follows .mixedOrders=true) {f:Nat} {args args':List AV} {σ:aq} {K:AV->aq->Prop} (hv:er (dW σ.get) 6 args=some args')
  (h:Call P f args' ⟨q9 σ.get,σ.next⟩ fun r σ'=>∃ids,r.zL=true/\Handed ids σ'.get/\K r ⟨rM ids σ.get σ'.get,σ'.next⟩):Call P f args σ K:=
 eV (EV hv (gG hm h))
section
variable {α:Type} {e:α->List AV} {z:Nat} {L:List α}
end
end Go.Proofs.YtakkdjfmiffbfaaGreatDoor.V

namespace Go.Proofs.YtakkdjfmiffbfaaGreatDoor.V
open Go.RowKit
attribute [local irreducible] dL wpOps ez Call
attribute [local go_sem] ay ew dZ eE eC cY upd bJ K.av bZ AV.cells AV.cell rowOf rowsOf part ld rowAt eO bH bI cX dj eQ bq cF dx eA ed cQ dq cD cC dc de bu aE cm bt cr cq dn dr dp ck bz cE dm br aw cw bQ eP aZ bW bx aD cR aQ cZ AV.undef bd bj dh di c6 da bV dw dz bP du dt cu cz List.getD_cons_zero List.getD_cons_succ List.getD_nil List.all_cons List.all_nil Bool.and_true Bool.true_and Bool.and_self Bool.not_true Bool.not_false Option.map_some Option.map_none Option.bind_some Option.bind_none List.length_cons List.length_nil List.take_succ_cons List.take_zero List.take_nil List.drop_succ_cons List.drop_zero List.drop_nil List.head?_cons List.map_cons List.map_nil List.getElem?_cons_zero List.getElem?_cons_succ List.cons_append List.nil_append List.append_nil List.length_map List.set_cons_zero List.set_cons_succ Nat.reduceMul eq_self Int.toNat_natCast Int.natCast_nonneg and_self true_and and_true decide_true decide_false Bool.false_eq_true Nat.zero_add Nat.add_zero List.contains_cons List.contains_nil Bool.or_false Bool.false_or beq_self_eq_true Nat.reduceBEq ne_eq not_true_eq_false not_false_eq_true Id.mk.injEq false_and and_false Nat.reduceLT Int.reduceLE Int.reduceLT Int.reduceToNat Int.reduceNeg Int.reduceAdd Nat.le_refl List.length_append beq_true beq_false Bool.not_eq_eq_eq_not or_false false_or dW ad ae aL aI bf bR az bc aA aJ cj bh
theorem Hg (a:List aa) (ha:a.length<=1048576):aP Tryz.prog 32 [.eT [.sl (a.map ai)],.eT [.sl (a.map ai)]] (.bool true):=by
 refine aP.body fH rfl fun hl n0=>?_
 clear hl
 have fw:(a.map ai).length=a.length:=by simp
 have hd:∀x:Int,decide (x=x)=true:=fun x=>decide_eq_true rfl
 (try((repeat(revert hN;revert N;apply Pn.out));refine wk (tw @fw @hd) ?_;(repeat(refine Pn.mk ?_;intro N hN))))
 refine cU (fun n env st=>∃k:Nat,n=(a.length)-k/\k<=(a.length)/\env 5=.int .i64 (k:Int)) (a.length) ⟨0,ab,ab,sl (tw @fw @hd)⟩ ?_
 rintro n_b env_b st_b ⟨k,rfl,ble,b5⟩ fA
 have b0:=fA 0 (by kernel_rfl);have b1:=fA 1 (by kernel_rfl)
 simp only[go_sem, ↓reduceIte,Nat.reduceEqDiff,Nat.reduceAdd,Nat.reduceSub,Nat.reduceLeDiff,reduceCtorEq,fw,hd]at b0 b1
 clear fA
 by_cases hk:(k:Int)<(a.length:Int)
 ·have fP:∀{e:Env},(e 5=.int .i64 (IntKind.i64.wrap ((k:Int)+1)))->∃m0,m0<(a.length)-k/\∃k:Nat,m0=(a.length)-k/\k<=(a.length)/\e 5=.int .i64 (k:Int):=fun x1=>⟨_,ab,k+1,rfl,ab,(by rw[x1,cI ab])⟩
  have gV:=jn (l:=a) (i:=k) ab
  rw[ai]at gV
  (try((repeat(revert hN;revert N;apply Pn.out));refine wk (tw @b5 (tw @b0 (tw @b1 (tw @hk (tw @gV (tw @fw (tw @hd (tw @Bool.and_true @Bool.not_true)))))))) ?_;(repeat(refine Pn.mk ?_;intro N hN))))
  exact fP (sd (tw @b5 (tw @b0 @b1)))
 ·(try((repeat(revert hN;revert N;apply Pn.out));refine wk (tw @b5 (tw @b0 (tw @b1 (tw @hk @fw)))) ?_;(repeat(refine Pn.mk ?_;intro N hN))))
  exact dU (b:=true) (.inl rfl) (sd @Nat.zero_add) rfl
theorem Fm (bs:List Int):aP Tryz.prog 5 [.sl (bs.map iC)] (.bool (decide (4096<bs.length))):=by
 refine aP.body fH rfl fun hl n0=>?_
 clear hl
 have fw:(bs.map iC).length=bs.length:=by simp
 (try((repeat(revert hN;revert N;apply Pn.out));refine wk @fw ?_;(repeat(refine Pn.mk ?_;intro N hN))))
 exact dU (b:=decide ((4096:Int)<(bs.length:Int))) (.inl rfl) (sd @Nat.zero_add) (by apply decide_eq_decide.2;omega)
theorem gj.names {s:aH} (h:gj s):mm s:=by
 refine⟨fun g hg=>?_,fun t ht=>?_⟩
 ·obtain⟨i,hi,rfl⟩:=List.getElem_of_mem hg
  have h1:=(sG.1 (h.Sx i hi).1).1.2
  rw[show tj s i=s.bU[i] by unfold tj;rw[List.getD_eq_getElem?_getD,List.getElem?_eq_getElem hi];rfl]at h1
  omega
 ·obtain⟨i,hi,rfl⟩:=List.getElem_of_mem ht
  have h1:=(sG.1 (h.tok i hi).1).1.2
  rw[show nn s i=s.ah[i] by unfold nn;rw[List.getD_eq_getElem?_getD,List.getElem?_eq_getElem hi];rfl]at h1
  omega
theorem gj.four {s:aH} (h:gj s):∀t∈s.ah,t.dM.length=4:=fun t ht=>by
 obtain⟨i,hi,rfl⟩:=List.getElem_of_mem ht
 have h1:=(h.tok i hi).2.1
 rwa [show nn s i=s.ah[i] by unfold nn;rw[List.getD_eq_getElem?_getD,List.getElem?_eq_getElem hi];rfl]at h1
theorem kU.sm {s:ax} (h:kU s):ID s:=⟨⟨by have:=h.set.ou;omega,by have:=h.set.rO;omega,fun t ht=>by unfold IF;rw[h.set.four t ht];omega⟩,by have:=h.nI.1.CX;omega⟩
theorem Uh (g:Rows):dW (V.ro g)=dW g:=funext fun id=>by
 unfold dW V.ro
 cases g id<;>rfl
theorem sI {g:Rows} {u:Id} {L:List aa} (h:g u=some ⟨true,3,L.map ai⟩):∃r,g u=some r/\r.w=true/\∀cs∈r.rows,∀a∈cs,a.clean=true:=⟨_,h,rfl,fun cs hc a ha=>by
 obtain⟨x,_,rfl⟩:=List.mem_map.1 hc
 have h1:=V5 x
 rw[List.all_eq_true]at h1
 exact h1 a ha⟩
theorem Iv {σ:aq} (s:ax) (hn:mm s.ar) (hm:ID s) (hE:fF σ.get) (qq:1<=σ.next) {sch:List Int} (hs:∀x∈sch,0<=x/\x<=1000) (nP:sch.length<=200) {args:List AV} (hv:er (dW σ.get) 6 args=some [.agg (ej s),.sl (sch.map bE)]):
  ez (Call Tryz.prog) 10 args σ (fun r'=>r'=GO s sch 501):=by
 unfold ez PC
 refine Or.inl (Gf mixed (σ:=⟨V.ro σ.get,σ.next⟩) (args':=[.agg (ej s),.sl (sch.map bE)]) (by(try dsimp only);rw[Uh];exact hv) (aS _ _ _ _ _ (fun r σ' hq=>?_) (O0 (σ:=⟨q9 (V.ro σ.get),σ.next⟩) s hn hm hE.ro.xS qq hs nP)))
 unfold GO
 rcases hq with⟨h0,rfl,_⟩|⟨h0,_,_,h⟩
 ·rw[h0]
  exact⟨[],rfl,Handed.nil,_,by simp only[bh,ad,ae,bc,az,aL,Option.map_some]<;>rfl,rfl⟩
 ·rw[h0]
  rcases h with⟨hg,rfl⟩|⟨es,v,o,hg,_,rfl,hL,ho,_⟩
  ·rw[hg]
   exact⟨[],rfl,Handed.nil,_,by simp only[bh,ad,ae,bc,az,aL,Option.map_some]<;>rfl,rfl⟩
  ·rw[hg]
   rcases hL with⟨rfl,rfl⟩|⟨u,rfl,hu,_,_,h0,_⟩
   ·have hz:=gi (g:=rM [o] (V.ro σ.get) σ'.get) (n:=3) (e:=ai) ((oP (List.mem_singleton.2 rfl)).trans ho) rfl fun x=>by simp[ai,ad,ae,aL]
    exact⟨[o],rfl,fun i hi=>by rw[List.mem_singleton.1 hi];exact sI ho,.fK [.bB,.agg [.sl ((ek s [] ([]:List aa).length).map ai)],.int .i64 0],by simp only[bh,ad,ae,bc,az,hz,aL,Option.map_some],rfl⟩
   ·have hz:=gi (g:=rM [u,o] (V.ro σ.get) σ'.get) (n:=3) (e:=ai) ((oP (by simp)).trans ho) rfl fun x=>by simp[ai,ad,ae,aL]
    have hy:=gi (g:=rM [u,o] (V.ro σ.get) σ'.get) (n:=4) (e:=ai) ((oP (by simp)).trans hu) rfl fun x=>by simp[ai,ad,ae,aL]
    refine⟨[u,o],rfl,fun i hi=>?_,.fK [.sl (es.map ai),.agg [.sl ((ek s es es.length).map ai)],.int .i64 0],by simp only[bh,ad,ae,bc,hy,hz,aL,Option.map_some],by(try dsimp only);rw[show RS ai es=.sl (es.map ai)from if_neg ab];rfl⟩
    rcases List.mem_cons.1 hi with rfl|hi
    ·exact sI hu
    ·rw[List.mem_singleton.1 hi];exact sI ho
section
variable {E:Nat->Prop} {n0 n:Nat} {g:Rows}
theorem TX.fzR:∀{rows:List (List AV)} {Ts:List dR},TX E n0 g n rows Ts->∀k,eX (dW g) (k+2) rows=some (Ts.map dS)
 |[],[],_=>fun k=>by(try simp only[List.map_nil]);rw[tf]
 |[],_::_,h=>by have:=h.len;simp at this
 |_::_,[],h=>by have:=h.len;simp at this
 |row::rows,t::Ts,h=>fun k=>by
  obtain⟨es,h1,h2,h3,h4⟩:=h
  match es,h1,h3,h4 with
  |[],_,h3,_=>simp at h3
  |e::es,h1,h3,h4=>
  have ih:=TX.fzR (rows:=rows) (Ts:=Ts) ⟨es,(List.nodup_cons.1 h1).2,by simpa using h2,by simpa using h3,fun j row t e q1 q2 q3=>h4 (j+1) row t e (by simpa using q1) (by simpa using q2) (by simpa using q3)⟩ k
  obtain⟨a1,a2,a3,a4,a5,a6,a7⟩:=h4 0 row t e rfl rfl rfl
  subst a1
  have h9:V.fz (dW g) (k+2) (.own e 0 4)=some (.sl (t.dM.map bE)):=by
   rw[<-a3];exact gi (sz:=1) (e:=bE) (by simp[dW,a7]) rfl fun x=>by simp[bE,ad,ae,aL]
  rw[qM,ad,bf,ad,h9,ae,ih]
  rfl
end
def UK (v:AV) (L:List eS):Prop:=(L=[]/\v=.bB)∨v=.sl (L.map ea)
def VT (v:AV) (T:List dR):Prop:=(T=[]/\v=.bB)∨v=.sl (T.map dS)
theorem GX.fz {z n0:Nat} {g:Rows} {n:Nat} {v:AV} {L:List eS} (h:GX z n0 g n v L):∃v',UK v' L/\V.fz (dW g) 5 v=some v':=by
 rcases h with⟨rfl,rfl⟩|⟨o,rfl,_,h3,_⟩
 ·exact⟨.bB,.inl ⟨rfl,rfl⟩,by rw[az]⟩
 ·exact⟨_,.inr rfl,gi (sz:=2) (n:=4) (e:=ea) (by simp[dW,h3]) rfl fun x=>by simp[ea,ad,ae,aL,bf]⟩
theorem TV.fz {zt ze n0:Nat} {g:Rows} {n:Nat} {v:AV} {T:List dR} (h:TV zt ze n0 g n v T):∃v',VT v' T/\V.fz (dW g) 5 v=some v':=by
 rcases h with⟨rfl,rfl⟩|⟨o,rows,rfl,_,h3,h4,_⟩
 ·exact⟨.bB,.inl ⟨rfl,rfl⟩,by rw[az]⟩
 ·have hl:=h4.len
  refine⟨_,.inr rfl,?_⟩
  rw[mC]
  have:dW g o=some ⟨true,2,rows⟩:=by simp[dW,h3]
  simp only[this,if_true]
  rw[if_pos ab,List.drop_zero,List.take_of_length_le ab,h4.fzR 2]
  rfl
section
set_option maxRecDepth 100000
set_option maxHeartbeats 4000000
theorem yQ (L:List eS) (v b:AV) (hv:UK v L) (hl:L.length<=1048576) (nm:ByteArray):aP Tryz.prog 55 [.eT [v,b],.str nm] (.int .i64 (pX L nm)):=by
 refine aP.body fH rfl fun fR n0=>?_
 clear fR
 rcases hv with⟨rfl,rfl⟩|rfl
 ·(try((repeat(revert hN;revert N;apply Pn.out));refine wk @Nat.zero_add ?_;(repeat(refine Pn.mk ?_;intro N hN))))
  refine cU (fun n env st=>∃k:Nat,n=(0)-k/\k<=(0)/\env 5=.int .i64 (k:Int)) (0) ⟨0,ab,ab,sl @Nat.zero_add⟩ ?_
  rintro n_a env_a st_a ⟨k,rfl,ale,a5⟩ eL
  have a0:=eL 0 (by kernel_rfl);have a1:=eL 1 (by kernel_rfl)
  simp only[go_sem, ↓reduceIte,Nat.reduceEqDiff,Nat.reduceAdd,Nat.reduceSub,Nat.reduceLeDiff,reduceCtorEq]at a0 a1
  clear eL
  have hk:¬(k:Int)<((0:Nat):Int):=ab
  have tq:¬(k:Int)<(0:Int):=ab
  (try((repeat(revert hN;revert N;apply Pn.out));refine wk (tw @a5 (tw @a0 (tw @a1 (tw @hk @tq)))) ?_;(repeat(refine Pn.mk ?_;intro N hN))))
  exact fx (b:=0) (.inl rfl) (sd @Nat.zero_add) rfl
 ·have hlen:(L.map ea).length=L.length:=by simp
  (try((repeat(revert hN;revert N;apply Pn.out));refine wk @hlen ?_;(repeat(refine Pn.mk ?_;intro N hN))))
  refine cU (fun n env st=>∃k:Nat,n=(L.length)-k/\k<=(L.length)/\env 5=.int .i64 (k:Int)/\(∀j:Nat,j<k->∀h:j<L.length,decide (L[j].dG=nm)=false)) (L.length) ⟨0,ab,ab,sl @hlen,fun _ h=>absurd h (Nat.not_lt_zero _)⟩ ?_
  rintro n_a env_a st_a ⟨k,rfl,ale,a5,ug⟩ eL
  have a0:=eL 0 (by kernel_rfl);have a1:=eL 1 (by kernel_rfl)
  simp only[go_sem, ↓reduceIte,Nat.reduceEqDiff,Nat.reduceAdd,Nat.reduceSub,Nat.reduceLeDiff,reduceCtorEq,hlen]at a0 a1
  clear eL
  by_cases hk:(k:Int)<(L.length:Int)
  ·have eB:∀{e:Env},(e 5=.int .i64 (IntKind.i64.wrap ((k:Int)+1)))->(∀h:k<L.length,decide (L[k].dG=nm)=false)->∃m0,m0<(L.length)-k/\∃k:Nat,m0=(L.length)-k/\k<=(L.length)/\e 5=.int .i64 (k:Int)/\(∀j:Nat,j<k->∀h:j<L.length,decide (L[j].dG=nm)=false):=fun x1 x2=>⟨_,ab,k+1,rfl,ab,(by rw[x1,cI ab]),(all_succ ug x2)⟩
   have jB:k<L.length:=ab
   have gV:(L.map ea)[k]? =some (ea L[k]):=by rw[List.getElem?_map,List.getElem?_eq_getElem jB];rfl
   rw[ea]at gV
   obtain⟨d,hd⟩:∃d,decide (L[k].dG=nm)=d:=⟨_,rfl⟩
   cases d
   ·have Oj:=of_decide_eq_false hd
    (try((repeat(revert hN;revert N;apply Pn.out));refine wk (tw @a5 (tw @a0 (tw @a1 (tw @hk (tw @gV (tw @hlen (tw @Oj @hd))))))) ?_;(repeat(refine Pn.mk ?_;intro N hN))))
    exact eB (sd (tw @a5 (tw @a0 @a1))) (fun _=>hd)
   ·have Oj:=of_decide_eq_true hd
    have hw:IntKind.i64.wrap ((k:Int)+1)=(k:Int)+1:=dy ab
    (try((repeat(revert hN;revert N;apply Pn.out));refine wk (tw @a5 (tw @a0 (tw @a1 (tw @hk (tw @gV (tw @hlen (tw @hd @hw))))))) ?_;(repeat(refine Pn.mk ?_;intro N hN))))
    exact fx (b:=(k:Int)+1) (.inl rfl) (sd @Nat.zero_add) (by rw[pX,Fo jB hd fun j h hj=>ug j hj h])
  ·(try((repeat(revert hN;revert N;apply Pn.out));refine wk (tw @a5 (tw @a0 (tw @a1 (tw @hk @hlen)))) ?_;(repeat(refine Pn.mk ?_;intro N hN))))
   exact fx (b:=0) (.inl rfl) (sd @Nat.zero_add) (by rw[pX,yn fun j h=>ug j ab h];rfl)
theorem Hf (T:List dR) (v b:AV) (hv:VT v T) (hl:T.length<=1048576) (nm:ByteArray):aP Tryz.prog 56 [.eT [b,v],.str nm] (.int .i64 (RT T nm)):=by
 refine aP.body fH rfl fun fR n0=>?_
 clear fR
 rcases hv with⟨rfl,rfl⟩|rfl
 ·(try((repeat(revert hN;revert N;apply Pn.out));refine wk @Nat.zero_add ?_;(repeat(refine Pn.mk ?_;intro N hN))))
  refine cU (fun n env st=>∃k:Nat,n=(0)-k/\k<=(0)/\env 5=.int .i64 (k:Int)) (0) ⟨0,ab,ab,sl @Nat.zero_add⟩ ?_
  rintro n_a env_a st_a ⟨k,rfl,ale,a5⟩ eL
  have a0:=eL 0 (by kernel_rfl);have a1:=eL 1 (by kernel_rfl)
  simp only[go_sem, ↓reduceIte,Nat.reduceEqDiff,Nat.reduceAdd,Nat.reduceSub,Nat.reduceLeDiff,reduceCtorEq]at a0 a1
  clear eL
  have hk:¬(k:Int)<((0:Nat):Int):=ab
  have tq:¬(k:Int)<(0:Int):=ab
  (try((repeat(revert hN;revert N;apply Pn.out));refine wk (tw @a5 (tw @a0 (tw @a1 (tw @hk @tq)))) ?_;(repeat(refine Pn.mk ?_;intro N hN))))
  exact fx (b:=-1) (.inl rfl) (sd @Nat.zero_add) rfl
 ·have hlen:(T.map dS).length=T.length:=by simp
  (try((repeat(revert hN;revert N;apply Pn.out));refine wk @hlen ?_;(repeat(refine Pn.mk ?_;intro N hN))))
  refine cU (fun n env st=>∃k:Nat,n=(T.length)-k/\k<=(T.length)/\env 5=.int .i64 (k:Int)/\(∀j:Nat,j<k->∀h:j<T.length,decide (T[j].dG=nm)=false)) (T.length) ⟨0,ab,ab,sl @hlen,fun _ h=>absurd h (Nat.not_lt_zero _)⟩ ?_
  rintro n_a env_a st_a ⟨k,rfl,ale,a5,ug⟩ eL
  have a0:=eL 0 (by kernel_rfl);have a1:=eL 1 (by kernel_rfl)
  simp only[go_sem, ↓reduceIte,Nat.reduceEqDiff,Nat.reduceAdd,Nat.reduceSub,Nat.reduceLeDiff,reduceCtorEq,hlen]at a0 a1
  clear eL
  by_cases hk:(k:Int)<(T.length:Int)
  ·have eB:∀{e:Env},(e 5=.int .i64 (IntKind.i64.wrap ((k:Int)+1)))->(∀h:k<T.length,decide (T[k].dG=nm)=false)->∃m0,m0<(T.length)-k/\∃k:Nat,m0=(T.length)-k/\k<=(T.length)/\e 5=.int .i64 (k:Int)/\(∀j:Nat,j<k->∀h:j<T.length,decide (T[j].dG=nm)=false):=fun x1 x2=>⟨_,ab,k+1,rfl,ab,(by rw[x1,cI ab]),(all_succ ug x2)⟩
   have jB:k<T.length:=ab
   have gV:(T.map dS)[k]? =some (dS T[k]):=by rw[List.getElem?_map,List.getElem?_eq_getElem jB];rfl
   rw[dS]at gV
   obtain⟨d,hd⟩:∃d,decide (T[k].dG=nm)=d:=⟨_,rfl⟩
   cases d
   ·have Oj:=of_decide_eq_false hd
    (try((repeat(revert hN;revert N;apply Pn.out));refine wk (tw @a5 (tw @a0 (tw @a1 (tw @hk (tw @gV (tw @hlen (tw @Oj @hd))))))) ?_;(repeat(refine Pn.mk ?_;intro N hN))))
    exact eB (sd (tw @a5 (tw @a0 @a1))) (fun _=>hd)
   ·(try((repeat(revert hN;revert N;apply Pn.out));refine wk (tw @a5 (tw @a0 (tw @a1 (tw @hk (tw @gV (tw @hlen @hd)))))) ?_;(repeat(refine Pn.mk ?_;intro N hN))))
    exact fx (b:=(k:Int)) (.inl rfl) (sd @Nat.zero_add) (by rw[RT,Fo jB hd fun j h hj=>ug j hj h])
  ·(try((repeat(revert hN;revert N;apply Pn.out));refine wk (tw @a5 (tw @a0 (tw @a1 (tw @hk @hlen)))) ?_;(repeat(refine Pn.mk ?_;intro N hN))))
   exact fx (b:=-1) (.inl rfl) (sd @Nat.zero_add) (by rw[RT,yn fun j h=>ug j ab h])
theorem M9 (L:List eS) (v b:AV) (hv:UK v L) (hl:L.length<=1048576) (nm:ByteArray):aP Tryz.prog 57 [.eT [v,b],.str nm] (.int .i64 (pX L nm)):=by
 refine aP.body fH rfl fun fR n0=>?_
 clear fR
 have h1:=yQ L v b hv hl nm
 (repeat(first|((repeat(revert hN;revert N;apply Pn.out));refine wk @Nat.zero_add ?_;(repeat(refine Pn.mk ?_;intro N hN)))|((try apply Or.inl);refine⟨_,aP.x (h1) (sd @Nat.zero_add),?_⟩;refine hN _ _ ?_;clear hN N)))
 exact fx (b:=pX L nm) (.inl rfl) (sd @Nat.zero_add) rfl
end
structure ue (n0:Nat) (g:Rows) (n:Nat) (B:Id) (L:List eS) (T:List dR):Prop where
 row:∃vg vt,g B=some ⟨true,2,[[vg,vt]]⟩/\GX 27003010 n0 g n vg L/\TV 29003022 29003019 n0 g n vt T
 bs:(B.site==27003010)=false/\(B.site==29003022)=false/\(B.site==29003019)=false
 b0:n0<=B.cW
 b1:B.cW<n
theorem ue.frame {n0:Nat} {g g':Rows} {n n':Nat} {B:Id} {L:List eS} {T:List dR} (h:ue n0 g n B L T) (hn:n<=n') (hf:∀i:Id,i.cW<n->g' i=g i):ue n0 g' n' B L T:=by
 obtain⟨vg,vt,h1,h2,h3⟩:=h.row
 exact⟨⟨vg,vt,(hf B h.b1).trans h1,h2.frame hn fun i _ _ h=>hf i h,h3.frame hn fun i _ _ h=>hf i h⟩,h.bs,h.b0,by have:=h.b1;omega⟩
theorem ue.fz {n0:Nat} {g:Rows} {n:Nat} {B:Id} {L:List eS} {T:List dR} (h:ue n0 g n B L T):∃v b,UK v L/\VT b T/\V.fz (dW g) 6 (.ptr B 0 0)=some (.eT [v,b]):=by
 obtain⟨vg,vt,h1,h2,h3⟩:=h.row
 obtain⟨v,hv,z1⟩:=h2.fz
 obtain⟨b,hb,z2⟩:=h3.fz
 exact⟨v,b,hv,hb,vJ (sz:=2) (rows:=[[vg,vt]]) (by simp[dW,h1]) rfl (by simp only[List.drop_zero,ad,ae,z1,z2,Option.map_some])⟩
theorem yh {B:Id} {z:Nat} (h:(B.site==z)=false) {o:Id} (ho:o.site=z):(B=o)=False/\(o=B)=False:=by
 have:B≠o:=fun e=>by rw[e,ho]at h;simp at h
 exact⟨eq_false this,eq_false fun e=>this e.symm⟩
section
set_option maxRecDepth 100000
set_option maxHeartbeats 8000000
theorem AB {n0:Nat} {σ:aq} {B:Id} {L:List eS} {T:List dR} (h:ue n0 σ.get σ.next B L T) (nm:ByteArray) (st:Int) (hL:L.length<=1000) (iT:pX L nm=0):
  Call Tryz.prog 27 [.ptr B 0 0,.str nm,.int .i64 st] σ (fun r σ'=>r=.int .i64 ((L.length:Int)+1)/\ue n0 σ'.get σ'.next B (L++[⟨nm,st⟩]) T/\σ.next<=σ'.next/\∀x:Id,x.cW<n0->σ'.get x=σ.get x):=by
 refine eU fH rfl fun fR=>?_
 clear fR
 obtain⟨v,b,hv,hb,hz⟩:=h.fz
 obtain⟨⟨vg,vt,hB,hG,hT⟩,⟨bs1,bs2,bs3⟩,b0,b1⟩:=h
 have h1:=yQ L v b hv ab nm
 rw[iT]at h1
 have vB:=dE b1
 have tc:=hT.cell
 have fw:(L.map ea).length=L.length:=by simp
 have qS:L.length<=16777215:=ab
 have Wr:(L++[(⟨nm,st⟩:eS)]).map ea=L.map ea++[[.str nm,.int .i64 st]]:=by rw[List.map_append];rfl
 have Oh:(L++[(⟨nm,st⟩:eS)]).length=L.length+1:=by simp
 obtain⟨C3,C4⟩:=tc
 unfold AV.cells at C3
 unfold AV.cell at C4
 have hd:decide ((0:Int)=0)=true:=rfl
 have iB:∀i:Id,(i.site=29003022∨i.site=29003019)->(i=B)=False:=fun i hs=>by
  rcases hs with hs|hs
  ·exact(yh bs2 hs).2
  ·exact(yh bs3 hs).2
 (try((repeat(revert hN;revert N;apply Pn.out));refine wk @Nat.zero_add ?_;(repeat(refine Pn.mk ?_;intro N hN))))
 refine .inl ⟨_,aP.x h1 (qm hz (bf _ _ _)),?_⟩
 refine hN _ _ ?_
 clear hN N
 rcases hG with⟨rfl,rfl⟩|⟨og,rfl,PZ,go,zo,o0,o1⟩
 ·(try((repeat(revert hN;revert N;apply Pn.out));refine wk (tw @hB (tw @vB (tw @C3 (tw @C4 @hd)))) ?_;(repeat(refine Pn.mk ?_;intro N hN))))
  refine eK (.inl rfl) (vs:=[.int .i64 ((1:Nat):Int)]) (sd @Nat.zero_add) ⟨rfl,⟨⟨.own ⟨27003010,σ.next+1+1+1⟩ 0 1,vt,sd (tw @vB (tw @C3 @C4)),.inr ⟨⟨27003010,σ.next+1+1+1⟩,rfl,by simp,sl @vB,rfl,bL,bL⟩,hT.frame bL fun i hs GY tU=>by
    have h9:=dE tU
    have h8:=iB i hs
    simp only[go_sem, ↓reduceIte,Nat.reduceEqDiff,Nat.reduceAdd,Nat.reduceSub,Nat.reduceLeDiff,reduceCtorEq,h9,h8]⟩,⟨bs1,bs2,bs3⟩,b0,bL⟩,bL,fun x hx=>by
   have h9:=dE (i:=x) (n:=σ.next) ab
   have xB:=(dD (a:=x) (b:=B) ab).1
   simp only[go_sem, ↓reduceIte,Nat.reduceEqDiff,Nat.reduceAdd,Nat.reduceSub,Nat.reduceLeDiff,reduceCtorEq,h9,xB]⟩
 ·have vo:=dE o1
  have oB:=yh bs1 zo
  (try((repeat(revert hN;revert N;apply Pn.out));refine wk (tw @hB (tw @go (tw @vB (tw @vo (tw @oB (tw @C3 (tw @C4 (tw @fw (tw @qS @hd))))))))) ?_;(repeat(refine Pn.mk ?_;intro N hN))))
  refine eK (.inl rfl) (vs:=[.int .i64 ((L.length+1:Nat):Int)]) (sd @Nat.zero_add) ⟨rfl,⟨⟨.own ⟨27003010,σ.next+1+1+1⟩ 0 (L.length+1),vt,sd (tw @vB (tw @oB (tw @C3 @C4))),.inr ⟨⟨27003010,σ.next+1+1+1⟩,by rw[Oh],by simp,by rw[Wr];simp only[go_sem, ↓reduceIte,Nat.reduceEqDiff,Nat.reduceAdd,Nat.reduceSub,Nat.reduceLeDiff,reduceCtorEq,vB,vo]<;>rfl,rfl,bL,bL⟩,hT.frame bL fun i hs GY tU=>by
    have h9:=dE tU
    have h8:=iB i hs
    have io:(i=og)=False:=eq_false fun e=>by subst e;rcases hs with hs|hs<;>rw[zo]at hs<;>revert hs<;>decide
    simp only[go_sem, ↓reduceIte,Nat.reduceEqDiff,Nat.reduceAdd,Nat.reduceSub,Nat.reduceLeDiff,reduceCtorEq,h9,h8,io]⟩,⟨bs1,bs2,bs3⟩,b0,bL⟩,bL,fun x hx=>by
   have h9:=dE (i:=x) (n:=σ.next) ab
   have xB:=(dD (a:=x) (b:=B) ab).1
   have xo:=(dD (a:=x) (b:=og) ab).1
   simp only[go_sem, ↓reduceIte,Nat.reduceEqDiff,Nat.reduceAdd,Nat.reduceSub,Nat.reduceLeDiff,reduceCtorEq,h9,xB,xo]⟩
theorem uA {n0:Nat} {σ:aq} {B:Id} {L:List eS} {T:List dR} (h:ue n0 σ.get σ.next B L T) (nm:ByteArray) (qt:nm.size<=64/\1<=nm.size) (hL:L.length<=1000) (hT:T.length<=1000) (iT:RT T nm= -1) (w x y z:ByteArray):
  Call Tryz.prog 29 [.ptr B 0 0,.str nm,.str w,.str x,.str y,.str z] σ (fun r σ'=>r=.int .i64 (T.length:Int)/\ue n0 σ'.get σ'.next B L (T++[⟨nm,[w,x,y,z].map (pX L)⟩])/\σ.next<=σ'.next/\∀x:Id,x.cW<n0->σ'.get x=σ.get x):=by
 refine eU fH rfl fun fR=>?_
 clear fR
 have yK:∀(g':Rows) (n':Nat),(∀i:Id,i.cW<σ.next->g' i=σ.get i)->∀VD,ez (Call Tryz.prog) 57 [.ptr B 0 0,.str VD] ⟨g',n'⟩ (fun r'=>r'=.int .i64 (pX L VD)):=fun g' n' hf VD=>by
  obtain⟨v,b,hv,hb,hz⟩:=(h.frame (g':=g') (n':=σ.next) (Nat.le_refl _) hf).fz
  exact aP.x (M9 L v b hv ab VD) (qm hz (bf _ _ _))
 obtain⟨v,b,hv,hb,hz⟩:=h.fz
 obtain⟨⟨vg,vt,hB,hG,hV⟩,⟨bs1,bs2,bs3⟩,b0,b1⟩:=h
 have h1:=Hf T b v hb ab nm
 rw[iT]at h1
 have hs4:[w,x,y,z].map (pX L)=[pX L w,pX L x,pX L y,pX L z]:=rfl
 rw[hs4]
 have vB:=dE b1
 have gc:=hG.cell
 obtain⟨um,uo⟩:=gc
 unfold AV.cells at um
 unfold AV.cell at uo
 have G0:(-1:Int)<0:=by decide
 have Wz:(T++[(⟨nm,[pX L w,pX L x,pX L y,pX L z]⟩:dR)]).length=T.length+1:=by simp
 have qS:T.length<=16777215:=ab
 have hw:IntKind.i64.wrap (((T.length+1:Nat):Int)-1)=(T.length:Int):=by rw[show((T.length+1:Nat):Int)-1=(T.length:Int) by omega];exact dy ab
 have iB:∀i:Id,(i.site=27003010∨i.site=29003019)->(i=B)=False:=fun i hs=>by
  rcases hs with hs|hs
  ·exact(yh bs1 hs).2
  ·exact(yh bs3 hs).2
 (try((repeat(revert hN;revert N;apply Pn.out));refine wk @Nat.zero_add ?_;(repeat(refine Pn.mk ?_;intro N hN))))
 refine .inl ⟨_,aP.x h1 (qm hz (bf _ _ _)),?_⟩
 refine hN _ _ ?_
 clear hN N
 rcases hV with⟨rfl,rfl⟩|⟨o,rows,rfl,Lw,go,hX,zo,o0,o1⟩
 ·(try((repeat(revert hN;revert N;apply Pn.out));refine wk (tw @hB (tw @vB (tw @um (tw @uo @G0)))) ?_;(repeat(refine Pn.mk ?_;intro N hN))))
  refine⟨_,yK _ _ (fun i hi=>by(try dsimp only);rw[if_neg fun h=>by have:=h.2;omega]) w,?_⟩
  refine hN _ _ ?_
  clear hN N
  (try((repeat(revert hN;revert N;apply Pn.out));refine wk (tw @hB (tw @vB (tw @um (tw @uo @G0)))) ?_;(repeat(refine Pn.mk ?_;intro N hN))))
  refine⟨_,yK _ _ (fun i hi=>by(try dsimp only);rw[if_neg fun h=>by have:=h.2;omega]) x,?_⟩
  refine hN _ _ ?_
  clear hN N
  (try((repeat(revert hN;revert N;apply Pn.out));refine wk (tw @hB (tw @vB (tw @um (tw @uo @G0)))) ?_;(repeat(refine Pn.mk ?_;intro N hN))))
  refine⟨_,yK _ _ (fun i hi=>by(try dsimp only);rw[if_neg fun h=>by have:=h.2;omega]) y,?_⟩
  refine hN _ _ ?_
  clear hN N
  (try((repeat(revert hN;revert N;apply Pn.out));refine wk (tw @hB (tw @vB (tw @um (tw @uo @G0)))) ?_;(repeat(refine Pn.mk ?_;intro N hN))))
  refine⟨_,yK _ _ (fun i hi=>by(try dsimp only);rw[if_neg fun h=>by have:=h.2;omega]) z,?_⟩
  refine hN _ _ ?_
  clear hN N
  (try((repeat(revert hN;revert N;apply Pn.out));refine wk (tw @hB (tw @vB (tw @um (tw @uo @G0)))) ?_;(repeat(refine Pn.mk ?_;intro N hN))))
  exact eK (.inl rfl) (vs:=[.int .i64 (IntKind.i64.wrap (((1:Nat):Int)-1))]) (sd @Nat.zero_add) ⟨rfl,⟨⟨vg,.own ⟨29003022,σ.next+1+1+1⟩ 0 1,sd (tw @vB (tw @um @uo)),hG.frame bL fun i hs GY tU=>(by
    have h9:=dE tU
    have h8:=iB i (.inl hs)
    simp only[go_sem, ↓reduceIte,Nat.reduceEqDiff,Nat.reduceAdd,Nat.reduceSub,Nat.reduceLeDiff,reduceCtorEq,h9,h8]),.inr ⟨⟨29003022,σ.next+1+1+1⟩,[[.str nm,.own ⟨29003019,σ.next+1+1+1⟩ 0 4]],rfl,by simp,sl @vB,TX.one (t:=⟨nm,[pX L w,pX L x,pX L y,pX L z]⟩) ⟨rfl,qt,rfl,rfl,bL,bL,sl @vB⟩,rfl,bL,bL⟩⟩,⟨bs1,bs2,bs3⟩,b0,bL⟩,bL,fun x hx=>by
   have h9:=dE (i:=x) (n:=σ.next) ab
   have h8:=(dD (a:=x) (b:=B) ab).1
   simp only[go_sem, ↓reduceIte,Nat.reduceEqDiff,Nat.reduceAdd,Nat.reduceSub,Nat.reduceLeDiff,reduceCtorEq,h9,h8]⟩
 ·have vo:=dE o1
  have oB:=yh bs2 zo
  have xQ:rows.length=T.length:=hX.len
  (try((repeat(revert hN;revert N;apply Pn.out));refine wk (tw @hB (tw @go (tw @vB (tw @vo (tw @oB (tw @um (tw @uo (tw @G0 (tw @xQ (tw @qS @hw)))))))))) ?_;(repeat(refine Pn.mk ?_;intro N hN))))
  refine⟨_,yK _ _ (fun i hi=>by(try dsimp only);rw[if_neg fun h=>by have:=h.2;omega]) w,?_⟩
  refine hN _ _ ?_
  clear hN N
  (try((repeat(revert hN;revert N;apply Pn.out));refine wk (tw @hB (tw @go (tw @vB (tw @vo (tw @oB (tw @um (tw @uo (tw @G0 (tw @xQ (tw @qS @hw)))))))))) ?_;(repeat(refine Pn.mk ?_;intro N hN))))
  refine⟨_,yK _ _ (fun i hi=>by(try dsimp only);rw[if_neg fun h=>by have:=h.2;omega]) x,?_⟩
  refine hN _ _ ?_
  clear hN N
  (try((repeat(revert hN;revert N;apply Pn.out));refine wk (tw @hB (tw @go (tw @vB (tw @vo (tw @oB (tw @um (tw @uo (tw @G0 (tw @xQ (tw @qS @hw)))))))))) ?_;(repeat(refine Pn.mk ?_;intro N hN))))
  refine⟨_,yK _ _ (fun i hi=>by(try dsimp only);rw[if_neg fun h=>by have:=h.2;omega]) y,?_⟩
  refine hN _ _ ?_
  clear hN N
  (try((repeat(revert hN;revert N;apply Pn.out));refine wk (tw @hB (tw @go (tw @vB (tw @vo (tw @oB (tw @um (tw @uo (tw @G0 (tw @xQ (tw @qS @hw)))))))))) ?_;(repeat(refine Pn.mk ?_;intro N hN))))
  refine⟨_,yK _ _ (fun i hi=>by(try dsimp only);rw[if_neg fun h=>by have:=h.2;omega]) z,?_⟩
  refine hN _ _ ?_
  clear hN N
  (try((repeat(revert hN;revert N;apply Pn.out));refine wk (tw @hB (tw @go (tw @vB (tw @vo (tw @oB (tw @um (tw @uo (tw @G0 (tw @xQ (tw @qS @hw)))))))))) ?_;(repeat(refine Pn.mk ?_;intro N hN))))
  exact eK (.inl rfl) (vs:=[.int .i64 (T.length:Int)]) (sd @Nat.zero_add) ⟨rfl,⟨⟨vg,.own ⟨29003022,σ.next+1+1+1⟩ 0 (T.length+1),sd (tw @vB (tw @oB (tw @um @uo))),hG.frame bL fun i hs GY tU=>(by
    have h9:=dE tU
    have h8:=iB i (.inl hs)
    have h7:=(qu hs zo (by decide)).1
    simp only[go_sem, ↓reduceIte,Nat.reduceEqDiff,Nat.reduceAdd,Nat.reduceSub,Nat.reduceLeDiff,reduceCtorEq,h9,h8,h7]),.inr ⟨⟨29003022,σ.next+1+1+1⟩,rows++[[.str nm,.own ⟨29003019,σ.next+1+1+1⟩ 0 4]],by rw[Wz],ab,sl (tw @vB @vo),(hX.frame (Nat.le_refl _) fun i hs GY tU=>(by
    have h9:=dE tU
    have h8:=iB i (.inr hs)
    have h7:=(qu hs zo (by decide)).1
    simp only[go_sem, ↓reduceIte,Nat.reduceEqDiff,Nat.reduceAdd,Nat.reduceSub,Nat.reduceLeDiff,reduceCtorEq,h9,h8,h7])).snoc (t:=⟨nm,[pX L w,pX L x,pX L y,pX L z]⟩) bL bL ⟨rfl,qt,rfl,rfl,bL,bL,sl (tw @vB @vo)⟩,rfl,bL,bL⟩⟩,⟨bs1,bs2,bs3⟩,b0,bL⟩,bL,fun x hx=>by
   have h9:=dE (i:=x) (n:=σ.next) ab
   have h8:=(dD (a:=x) (b:=B) ab).1
   have h6:=(dD (a:=x) (b:=o) ab).1
   simp only[go_sem, ↓reduceIte,Nat.reduceEqDiff,Nat.reduceAdd,Nat.reduceSub,Nat.reduceLeDiff,reduceCtorEq,h9,h8,h6]⟩
end
def ni (x:Int) (ks:List Int) (j:Nat):List aa:=(List.range j).map fun(i:Nat)=>⟨⟨x+(i:Int),0⟩,ks.getD i 0⟩
theorem HK (x:Int) (ks:List Int) (j:Nat):(ni x ks j).length=j:=by simp[ni]
theorem ED (x:Int) (ks:List Int) (j:Nat):(ni x ks (j+1)).map ai=(ni x ks j).map ai++[[.int .i64 (x+(j:Int)),.int .i64 0,.int .i64 (ks.getD j 0)]]:=by
 simp[ni,List.range_succ,ai]
theorem Ui:∀W,W<8->∀H,H<8->1<=W->1<=H->[⟨#[119,49]⟩,⟨#[101,49]⟩,⟨#[]⟩,⟨#[]⟩].map (pX (jj (H-1) (W-1)))=pr W H 0:=by decide+kernel
theorem Ul:∀W,W<8->∀H,H<8->1<=W->∀k,k<H-1->[lD 119 (k+1+1),ft,lD 119 (k+1),⟨#[]⟩].map (pX (jj (H-1) (W-1)))=pr W H (k+1):=by decide+kernel
theorem Uj:∀W,W<8->∀H,H<8->1<=H->∀k,k<W-1->[ft,lD 101 (k+1+1),⟨#[]⟩,lD 101 (k+1)].map (pX (jj (H-1) (W-1)))=pr W H (H+k):=by decide+kernel
theorem Uk:∀W,W<8->∀H,H<8->1<=W->1<=H->[ft,ft,ft,ft].map (pX (jj (H-1) (W-1)))=pr W H (W+H-1):=by decide+kernel
theorem yl (k:Nat) (h:k<10):aP Tryz.prog 28 [.int .i64 (k:Int)] (.str (gY k)):=by
 have:=GB (k:Int) ab ab
 rwa [GA h]at this
section
set_option maxRecDepth 100000
set_option maxHeartbeats 16000000
theorem HP {n0:Nat} {σ:aq} {B:Id} {L:List eS} {T:List dR} (h:ue n0 σ.get σ.next B L T) (x:Int) (hx: -1000<=x/\x<=1000) (ks:List Int) (hks:ks.length<=1000) {u:Id} (hu:∃b,σ.get u=some ⟨b,1,ks.map bE⟩) (JX:u.cW<σ.next):
  Call Tryz.prog 30 [.ptr B 0 0,.int .i64 x,.own u 0 ks.length] σ (fun r σ'=>∃vg vt vs,r=.agg [vg,vt,vs,.int .i64 2]/\GX 27003010 n0 σ'.get σ'.next vg L/\TV 29003022 29003019 n0 σ'.get σ'.next vt T/\((ks.length=0/\vs=.bB)∨∃d:Id,vs=.own d 0 ks.length/\0<ks.length/\σ'.get d=some ⟨true,3,(ni x ks ks.length).map ai⟩/\σ.next<=d.cW/\d.cW<σ'.next)/\σ.next<=σ'.next/\∀i:Id,i.cW<σ.next->σ'.get i=σ.get i):=by
 refine eU fH rfl fun fR=>?_
 clear fR
 obtain⟨⟨vg,vt,hB,hG,hV⟩,bs,b0,b1⟩:=h
 obtain⟨ub,hu⟩:=hu
 have vB:=dE b1
 have vu:=dE JX
 have fw:(ks.map bE).length=ks.length:=by simp
 have gc:=hG.cell
 have tc:=hV.cell
 obtain⟨um,uo⟩:=gc
 obtain⟨C3,C4⟩:=tc
 unfold AV.cells at um C3
 unfold AV.cell at uo C4
 (try((repeat(revert hN;revert N;apply Pn.out));refine wk (tw @hB (tw @vB (tw @um (tw @uo (tw @C3 @C4))))) ?_;(repeat(refine Pn.mk ?_;intro N hN))))
 refine cU (fun n env st=>∃k:Nat,n=(ks.length)-k/\k<=(ks.length)/\env 8=.int .i64 (k:Int)/\((∃v,st.get ⟨30001005,σ.next+1⟩=some ⟨true,4,[[vg,vt,v,.int .i64 2]]⟩/\((k=0/\v=.bB)∨∃d:Id,v=.own d 0 k/\0<k/\st.get d=some ⟨true,3,(ni x ks k).map ai⟩/\d.site=30005013/\σ.next+2<=d.cW/\d.cW<st.next))/\σ.next+2<=st.next/\st.get ⟨30000000,σ.next⟩=some ⟨true,4,[[.bB,.bB,.bB,.int .i64 0]]⟩/\(∀i:Id,i.cW<σ.next->st.get i=σ.get i))) (ks.length) ⟨0,ab,ab,sl @Nat.zero_add,by(try dsimp only);exact⟨⟨.bB,sl (tw @um (tw @uo (tw @C3 @C4))),.inl ⟨rfl,rfl⟩⟩,ab,sl @Nat.zero_add,fun i hi=>(by have h9:=dE hi;simp only[go_sem, ↓reduceIte,Nat.reduceEqDiff,Nat.reduceAdd,Nat.reduceSub,Nat.reduceLeDiff,reduceCtorEq,h9])⟩⟩ ?_
 rintro n_a env_a st_a ⟨k,rfl,ale,a8,qn⟩ eL
 have a0:=eL 0 (by kernel_rfl);have a1:=eL 1 (by kernel_rfl);have a2:=eL 2 (by kernel_rfl);have a6:=eL 6 (by kernel_rfl);have a7:=eL 7 (by kernel_rfl)
 simp only[go_sem, ↓reduceIte,Nat.reduceEqDiff,Nat.reduceAdd,Nat.reduceSub,Nat.reduceLeDiff,reduceCtorEq]at a0 a1 a2 a6 a7
 clear eL
 obtain⟨⟨v,aX,aV⟩,aN,aC,aF⟩:=qn
 have aU:=(aF u JX).trans hu
 have wu:=dE (i:=u) (n:=st_a.next) ab
 have wX:=dE (i:=⟨30001005,σ.next+1⟩) (n:=st_a.next) bL
 have wC:=dE (i:=⟨30000000,σ.next⟩) (n:=st_a.next) bL
 have uX:=(dD (a:=u) (b:=⟨30001005,σ.next+1⟩) bL)
 by_cases hk:(k:Int)<(ks.length:Int)
 ·have eB:∀{e:Env} {gg:Rows} {nx:Nat},(e 8=.int .i64 (IntKind.i64.wrap ((k:Int)+1)))->((∃v,gg ⟨30001005,σ.next+1⟩=some ⟨true,4,[[vg,vt,v,.int .i64 2]]⟩/\(((k+1)=0/\v=.bB)∨∃d:Id,v=.own d 0 (k+1)/\0<(k+1)/\gg d=some ⟨true,3,(ni x ks (k+1)).map ai⟩/\d.site=30005013/\σ.next+2<=d.cW/\d.cW<nx))/\σ.next+2<=nx/\gg ⟨30000000,σ.next⟩=some ⟨true,4,[[.bB,.bB,.bB,.int .i64 0]]⟩/\(∀i:Id,i.cW<σ.next->gg i=σ.get i))->∃m0,m0<(ks.length)-k/\∃k:Nat,m0=(ks.length)-k/\k<=(ks.length)/\e 8=.int .i64 (k:Int)/\((∃v,gg ⟨30001005,σ.next+1⟩=some ⟨true,4,[[vg,vt,v,.int .i64 2]]⟩/\((k=0/\v=.bB)∨∃d:Id,v=.own d 0 k/\0<k/\gg d=some ⟨true,3,(ni x ks k).map ai⟩/\d.site=30005013/\σ.next+2<=d.cW/\d.cW<nx))/\σ.next+2<=nx/\gg ⟨30000000,σ.next⟩=some ⟨true,4,[[.bB,.bB,.bB,.int .i64 0]]⟩/\(∀i:Id,i.cW<σ.next->gg i=σ.get i)):=fun x1 x2=>⟨_,ab,k+1,rfl,ab,(by rw[x1,cI ab]),x2⟩
  have jB:k<ks.length:=ab
  have gV:(ks.map bE)[k]? =some [.int .i64 (ks.getD k 0)]:=getD_map (d:=0) bE jB
  have hw:IntKind.i64.wrap (x+(k:Int))=x+(k:Int):=dy ab
  have v7:=ED x ks k
  have nP:((ni x ks k).map ai).length=k:=by rw[List.length_map,HK]
  have qS:k<=16777215:=ab
  have G5:k=0->ni x ks k=[]:=fun e=>by subst e;rfl
  generalize ni x ks k=S at *
  generalize ks.getD k 0=y at *
  rcases aV with⟨k0,rfl⟩|⟨d,rfl,k0,gd,zd,d0,d1⟩
  ·subst k0
   have:=G5 rfl
   subst this
   (try((repeat(revert hN;revert N;apply Pn.out));refine wk (tw @a8 (tw @a0 (tw @a1 (tw @a2 (tw @a6 (tw @a7 (tw @hk (tw @aX (tw @aU (tw @wu (tw @wX (tw @uX (tw @fw (tw @gV @hw)))))))))))))) ?_;(repeat(refine Pn.mk ?_;intro N hN))))
   exact eB (sd (tw @a8 (tw @a0 (tw @a1 (tw @a2 (tw @a6 @a7)))))) (by(try dsimp only);exact⟨⟨.own ⟨30005013,st_a.next+1⟩ 0 1,sl @wX,.inr ⟨⟨30005013,st_a.next+1⟩,rfl,ab,by rw[v7];simp only[go_sem, ↓reduceIte,Nat.reduceEqDiff,Nat.reduceAdd,Nat.reduceSub,Nat.reduceLeDiff,reduceCtorEq,wX]<;>rfl,rfl,bL,bL⟩⟩,ab,sd (tw @wC @aC),fun i hi=>by
    have h9:=dE (i:=i) (n:=st_a.next) ab
    have h8:=(dD (a:=i) (b:=⟨30001005,σ.next+1⟩) bL).1
    have h7:=aF i hi
    simp only[go_sem, ↓reduceIte,Nat.reduceEqDiff,Nat.reduceAdd,Nat.reduceSub,Nat.reduceLeDiff,reduceCtorEq,h9,h8,h7]⟩)
  ·have wd:=dE d1
   have dX:=(dD (a:=⟨30001005,σ.next+1⟩) (b:=d) bL)
   have dC:=(dD (a:=⟨30000000,σ.next⟩) (b:=d) bL)
   (try((repeat(revert hN;revert N;apply Pn.out));refine wk (tw @a8 (tw @a0 (tw @a1 (tw @a2 (tw @a6 (tw @a7 (tw @hk (tw @aX (tw @aU (tw @wu (tw @wX (tw @uX (tw @fw (tw @gV (tw @hw (tw @gd (tw @wd (tw @dX (tw @nP @qS))))))))))))))))))) ?_;(repeat(refine Pn.mk ?_;intro N hN))))
   exact eB (sd (tw @a8 (tw @a0 (tw @a1 (tw @a2 (tw @a6 @a7)))))) (by(try dsimp only);exact⟨⟨.own ⟨30005013,st_a.next+1⟩ 0 (k+1),sl (tw @wX @dX),.inr ⟨⟨30005013,st_a.next+1⟩,rfl,ab,by rw[v7];simp only[go_sem, ↓reduceIte,Nat.reduceEqDiff,Nat.reduceAdd,Nat.reduceSub,Nat.reduceLeDiff,reduceCtorEq,wX,wd,dX]<;>rfl,rfl,bL,bL⟩⟩,ab,sd (tw @wC (tw @aC @dC)),fun i hi=>by
    have h9:=dE (i:=i) (n:=st_a.next) ab
    have h8:=(dD (a:=i) (b:=⟨30001005,σ.next+1⟩) bL).1
    have h6:=(dD (a:=i) (b:=d) ab).1
    have h7:=aF i hi
    simp only[go_sem, ↓reduceIte,Nat.reduceEqDiff,Nat.reduceAdd,Nat.reduceSub,Nat.reduceLeDiff,reduceCtorEq,h9,h8,h7,h6]⟩)
 ·have jB:k=ks.length:=ab
  subst jB
  have vc:v.cells=[v]/\v.cell=true:=by rcases aV with⟨_,rfl⟩|⟨d,rfl,_⟩<;>exact⟨rfl,rfl⟩
  obtain⟨vc1,vc2⟩:=vc
  unfold AV.cells at vc1
  unfold AV.cell at vc2
  (try((repeat(revert hN;revert N;apply Pn.out));refine wk (tw @a8 (tw @a0 (tw @a1 (tw @a2 (tw @a6 (tw @a7 (tw @hk (tw @fw (tw @aX (tw @wX (tw @aC (tw @wC (tw @um (tw @uo (tw @C3 (tw @C4 (tw @vc1 @vc2))))))))))))))))) ?_;(repeat(refine Pn.mk ?_;intro N hN))))
  have fin:∀i:Id,i.cW<σ.next->bH st_a.get ⟨30000000,σ.next⟩ ⟨true,4,[[vg,vt,v,.int .i64 2]]⟩ i=σ.get i:=fun i hi=>by
   have h9:=dE hi
   have h7:=aF i hi
   simp only[go_sem, ↓reduceIte,Nat.reduceEqDiff,Nat.reduceAdd,Nat.reduceSub,Nat.reduceLeDiff,reduceCtorEq,h9,h7]
  refine eK (.inl rfl) (vs:=[.agg [vg,vt,v,.int .i64 2]]) (sd (tw @a8 (tw @a0 (tw @a1 (tw @a2 (tw @a6 @a7)))))) ⟨vg,vt,v,rfl,hG.frame bL fun i _ _ hi=>fin i hi,hV.frame bL fun i _ _ hi=>fin i hi,?_,bL,fin⟩
  rcases aV with⟨k0,rfl⟩|⟨d,rfl,k0,gd,zd,d0,d1⟩
  ·exact .inl ⟨k0,rfl⟩
  ·have dC:=(dD (a:=⟨30000000,σ.next⟩) (b:=d) bL).2
   exact .inr ⟨d,rfl,k0,by simp only[go_sem, ↓reduceIte,Nat.reduceEqDiff,Nat.reduceAdd,Nat.reduceSub,Nat.reduceLeDiff,reduceCtorEq,dC]<;>exact gd,bL,bL⟩
end
section
set_option maxRecDepth 100000
set_option maxHeartbeats 16000000
theorem xx (W H:Nat) (hW:W<8) (hH:H<8) (w1:1<=W) (h1:1<=H):aP Tryz.prog 8 [.int .i64 (W:Int),.int .i64 (H:Int)] (.fK [.agg (ej (pV W H)),.int .i64 0]):=by
 refine aP.body fH rfl fun fR n0=>?_
 clear fR
 have i1:=FO (W:Int) 1 60
 have i2:=FO (H:Int) 1 60
 rw[lh (show(1:Int)<=W by omega) (show(W:Int)<=60 by omega)]at i1
 rw[lh (show(1:Int)<=H by omega) (show(H:Int)<=60 by omega)]at i2
 have hwh:W*H<=7*7:=Nat.mul_le_mul ab ab
 have e1:(W:Int)*(H:Int)=((W*H:Nat):Int):=by simp
 have e2:IntKind.i64.wrap ((W:Int)*(H:Int))=((W*H:Nat):Int):=by rw[e1];exact dy ab
 have e3:¬(500:Int)<((W*H:Nat):Int):=ab
 (repeat(first|((repeat(revert hN;revert N;apply Pn.out));refine wk (tw @e2 @e3) ?_;(repeat(refine Pn.mk ?_;intro N hN)))|((try apply Or.inl);refine⟨_,aP.x (i1) (sd (tw @e2 @e3)),?_⟩;refine hN _ _ ?_;clear hN N)|((try apply Or.inl);refine⟨_,aP.x (i2) (sd (tw @e2 @e3)),?_⟩;refine hN _ _ ?_;clear hN N)))
 refine .inr (aS _ _ _ _ _ (fun r σ2 hq=>?_) (AB (σ:=⟨_,_⟩) (n0:=n0+1) (B:=⟨8005001,_⟩) (L:=[]) (T:=[]) ⟨⟨.bB,.bB,sl @Nat.zero_add,.inl ⟨rfl,rfl⟩,.inl ⟨rfl,rfl⟩⟩,⟨rfl,rfl,rfl⟩,bL,bL⟩ ft 1 (by simp) rfl))
 obtain⟨rfl,iY,pH,jO⟩:=hq
 obtain⟨g2,x2⟩:=σ2
 (try dsimp only at iY pH jO)
 refine hN _ _ ?_
 clear hN N
 have jv:g2 ⟨8000000,n0⟩=some ⟨true,4,[[.bB,.bB,.bB,.int .i64 0]]⟩:=(jO ⟨8000000,n0⟩ bL).trans (sl @Nat.zero_add)
 (try dsimp only at jv)
 obtain⟨y0,hy,B,hBe,PY,QD⟩:∃y0,n0<y0/\∃B:Id,⟨8005001,n0+1+1+1⟩=B/\ue y0 g2 x2 B (jj 0 0) []/\y0<=x2:=⟨n0+1,ab,_,rfl,iY,ab⟩
 rw[hBe]
 clear iY jO hBe
 (try((repeat(revert hN;revert N;apply Pn.out));refine wk @Nat.zero_add ?_;(repeat(refine Pn.mk ?_;intro N hN))))
 refine cU (fun n env st=>∃k:Nat,n=(H-1)-k/\k<=(H-1)/\(env 7=.int .i64 ((k:Int)+1)/\ue y0 st.get st.next B (jj k 0) ([])/\st.get ⟨8000000,n0⟩=some ⟨true,4,[[.bB,.bB,.bB,.int .i64 0]]⟩/\y0<=st.next)) (H-1) ⟨0,ab,ab,by(try dsimp only);exact⟨sl @Nat.zero_add,PY.frame bL fun i hi=>(by try rfl),jv,ab⟩⟩ ?_
 rintro n_a env_a st_a ⟨k,rfl,ale,qn⟩ eL
 have a0:=eL 0 (by kernel_rfl);have a1:=eL 1 (by kernel_rfl);have a4:=eL 4 (by kernel_rfl);have a5:=eL 5 (by kernel_rfl);have a6:=eL 6 (by kernel_rfl)
 simp only[go_sem, ↓reduceIte,Nat.reduceEqDiff,Nat.reduceAdd,Nat.reduceSub,Nat.reduceLeDiff,reduceCtorEq,e2]at a0 a1 a4 a5 a6
 clear eL
 obtain⟨a7,aK,aC,aY⟩:=qn
 by_cases hk:(k:Int)+1<(H:Int)
 ·have eB:∀{e:Env} {gg:Rows} {nx:Nat},(e 7=.int .i64 (((k+1):Int)+1)/\ue y0 gg nx B (jj (k+1) 0) ([])/\gg ⟨8000000,n0⟩=some ⟨true,4,[[.bB,.bB,.bB,.int .i64 0]]⟩/\y0<=nx)->∃m0,m0<(H-1)-k/\∃k:Nat,m0=(H-1)-k/\k<=(H-1)/\(e 7=.int .i64 ((k:Int)+1)/\ue y0 gg nx B (jj k 0) ([])/\gg ⟨8000000,n0⟩=some ⟨true,4,[[.bB,.bB,.bB,.int .i64 0]]⟩/\y0<=nx):=fun x1=>⟨_,ab,k+1,rfl,ab,x1⟩
  have tt:=yl (k+1) ab
  rw[show((k+1:Nat):Int)=(k:Int)+1 from rfl]at tt
  have Qm:=(PN k ab).1
  have hw:IntKind.i64.wrap ((k:Int)+1+1)=(k:Int)+1+1:=dy ab
  have pM:(#[119]:Array UInt8).size+(gY (k+1)).size<=9223372036854775807:=by rw[iQ ab];decide
  (repeat(first|((repeat(revert hN;revert N;apply Pn.out));refine wk (tw @a0 (tw @a1 (tw @a4 (tw @a5 (tw @a6 (tw @a7 (tw @hk (tw @hw @pM)))))))) ?_;(repeat(refine Pn.mk ?_;intro N hN)))|((try apply Or.inl);refine⟨_,aP.x (tt) (sd (tw @a0 (tw @a1 (tw @a4 (tw @a5 (tw @a6 (tw @a7 (tw @hk (tw @hw @pM))))))))),?_⟩;refine hN _ _ ?_;clear hN N)))
  refine .inr (aS _ _ _ _ _ (fun r σ2 hq=>?_) (AB (σ:=⟨_,_⟩) (aK.frame bL fun i hi=>(by try rfl)) (lD 119 (k+1)) 2 (by rw[ir];omega) Qm))
  obtain⟨rfl,iY,pH,jO⟩:=hq
  obtain⟨g2,x2⟩:=σ2
  (try dsimp only at iY pH jO)
  refine hN _ _ ?_
  clear hN N
  have jv:=(jO ⟨8000000,n0⟩ bL).trans aC
  (try dsimp only at jv)
  (try((repeat(revert hN;revert N;apply Pn.out));refine wk (tw @a0 (tw @a1 (tw @a4 (tw @a5 (tw @a6 (tw @a7 (tw @hk @hw))))))) ?_;(repeat(refine Pn.mk ?_;intro N hN))))
  exact eB (by(try dsimp only);exact⟨sl @hw,by rw[Jo];exact iY.frame bL fun i hi=>(by try rfl),jv,ab⟩)
 ·have DU:k=H-1:=ab
  subst DU
  (try((repeat(revert hN;revert N;apply Pn.out));refine wk (tw @a0 (tw @a1 (tw @a4 (tw @a5 (tw @a6 (tw @a7 @hk)))))) ?_;(repeat(refine Pn.mk ?_;intro N hN))))
  refine cU (fun n env st=>∃k:Nat,n=(W-1)-k/\k<=(W-1)/\(env 8=.int .i64 ((k:Int)+1)/\ue y0 st.get st.next B (jj (H-1) k) ([])/\st.get ⟨8000000,n0⟩=some ⟨true,4,[[.bB,.bB,.bB,.int .i64 0]]⟩/\y0<=st.next)) (W-1) ⟨0,ab,ab,by(try dsimp only);exact⟨sl @Nat.zero_add,aK.frame bL fun i hi=>(by try rfl),aC,ab⟩⟩ ?_
  rintro n_b env_b st_b ⟨k,rfl,ble,bI0⟩ fA
  have b0:=fA 0 (by kernel_rfl);have b1:=fA 1 (by kernel_rfl);have b4:=fA 4 (by kernel_rfl);have b5:=fA 5 (by kernel_rfl);have b6:=fA 6 (by kernel_rfl)
  simp only[go_sem, ↓reduceIte,Nat.reduceEqDiff,Nat.reduceAdd,Nat.reduceSub,Nat.reduceLeDiff,reduceCtorEq,a0,a1,a4,a5,a6]at b0 b1 b4 b5 b6
  clear fA
  obtain⟨b8,bK,bC,bY⟩:=bI0
  by_cases hk:(k:Int)+1<(W:Int)
  ·have fP:∀{e:Env} {gg:Rows} {nx:Nat},(e 8=.int .i64 (((k+1):Int)+1)/\ue y0 gg nx B (jj (H-1) (k+1)) ([])/\gg ⟨8000000,n0⟩=some ⟨true,4,[[.bB,.bB,.bB,.int .i64 0]]⟩/\y0<=nx)->∃m0,m0<(W-1)-k/\∃k:Nat,m0=(W-1)-k/\k<=(W-1)/\(e 8=.int .i64 ((k:Int)+1)/\ue y0 gg nx B (jj (H-1) k) ([])/\gg ⟨8000000,n0⟩=some ⟨true,4,[[.bB,.bB,.bB,.int .i64 0]]⟩/\y0<=nx):=fun x1=>⟨_,ab,k+1,rfl,ab,x1⟩
   have tt:=yl (k+1) ab
   rw[show((k+1:Nat):Int)=(k:Int)+1 from rfl]at tt
   have Qm:=(PJ (H-1) ab k ab).1
   have hw:IntKind.i64.wrap ((k:Int)+1+1)=(k:Int)+1+1:=dy ab
   have pM:(#[101]:Array UInt8).size+(gY (k+1)).size<=9223372036854775807:=by rw[iQ ab];decide
   (repeat(first|((repeat(revert hN;revert N;apply Pn.out));refine wk (tw @b0 (tw @b1 (tw @b4 (tw @b5 (tw @b6 (tw @b8 (tw @hk (tw @hw @pM)))))))) ?_;(repeat(refine Pn.mk ?_;intro N hN)))|((try apply Or.inl);refine⟨_,aP.x (tt) (sd (tw @b0 (tw @b1 (tw @b4 (tw @b5 (tw @b6 (tw @b8 (tw @hk (tw @hw @pM))))))))),?_⟩;refine hN _ _ ?_;clear hN N)))
   refine .inr (aS _ _ _ _ _ (fun r σ2 hq=>?_) (AB (σ:=⟨_,_⟩) (bK.frame bL fun i hi=>(by try rfl)) (lD 101 (k+1)) 2 (by rw[ir];omega) Qm))
   obtain⟨rfl,iY,pH,jO⟩:=hq
   obtain⟨g2,x2⟩:=σ2
   (try dsimp only at iY pH jO)
   refine hN _ _ ?_
   clear hN N
   have jv:=(jO ⟨8000000,n0⟩ bL).trans bC
   (try dsimp only at jv)
   (try((repeat(revert hN;revert N;apply Pn.out));refine wk (tw @b0 (tw @b1 (tw @b4 (tw @b5 (tw @b6 (tw @b8 (tw @hk @hw))))))) ?_;(repeat(refine Pn.mk ?_;intro N hN))))
   exact fP (by(try dsimp only);exact⟨sl @hw,by rw[Jp];exact iY.frame bL fun i hi=>(by try rfl),jv,ab⟩)
  ·have DU:k=W-1:=ab
   subst DU
   (try((repeat(revert hN;revert N;apply Pn.out));refine wk (tw @b0 (tw @b1 (tw @b4 (tw @b5 (tw @b6 (tw @b8 @hk)))))) ?_;(repeat(refine Pn.mk ?_;intro N hN))))
   have Tw:RT [] rj= -1:=rfl
   refine .inr (aS _ _ _ _ _ (fun r σ2 hq=>?_) (uA (σ:=⟨_,_⟩) (bK.frame bL fun i hi=>(by try rfl)) rj (by decide) (by rw[ir];omega) (by simp) Tw ⟨#[119,49]⟩ ⟨#[101,49]⟩ ⟨#[]⟩ ⟨#[]⟩))
   obtain⟨rfl,iY,pH,jO⟩:=hq
   obtain⟨g2,x2⟩:=σ2
   (try dsimp only at iY pH jO)
   refine hN _ _ ?_
   clear hN N
   have jv:=(jO ⟨8000000,n0⟩ bL).trans bC
   (try dsimp only at jv)
   rw[Ui W hW H hH w1 h1]at iY
   have PY:ue y0 g2 x2 B (jj (H-1) (W-1)) (jk W H 1):=iY
   clear iY
   (try((repeat(revert hN;revert N;apply Pn.out));refine wk (tw @a0 (tw @a1 (tw @a4 (tw @a5 (tw @a6 (tw @b0 (tw @b1 (tw @b4 (tw @b5 @b6))))))))) ?_;(repeat(refine Pn.mk ?_;intro N hN))))
   refine cU (fun n env st=>∃k:Nat,n=(H-1)-k/\k<=(H-1)/\(env 9=.int .i64 ((k:Int)+1)/\ue y0 st.get st.next B (jj (H-1) (W-1)) (jk W H (k+1))/\st.get ⟨8000000,n0⟩=some ⟨true,4,[[.bB,.bB,.bB,.int .i64 0]]⟩/\y0<=st.next)) (H-1) ⟨0,ab,ab,by(try dsimp only);exact⟨sl @Nat.zero_add,PY.frame bL fun i hi=>(by try rfl),jv,ab⟩⟩ ?_
   rintro n_d env_d st_d ⟨k,rfl,dle,dI0⟩ dfr
   have d0:=dfr 0 (by kernel_rfl);have d1:=dfr 1 (by kernel_rfl);have d4:=dfr 4 (by kernel_rfl);have d5:=dfr 5 (by kernel_rfl);have d6:=dfr 6 (by kernel_rfl)
   simp only[go_sem, ↓reduceIte,Nat.reduceEqDiff,Nat.reduceAdd,Nat.reduceSub,Nat.reduceLeDiff,reduceCtorEq,a0,a1,a4,a5,a6,b0,b1,b4,b5,b6]at d0 d1 d4 d5 d6
   clear dfr
   obtain⟨d9,dK,dC,dY⟩:=dI0
   by_cases hk:(k:Int)+1<(H:Int)
   ·have wK:∀{e:Env} {gg:Rows} {nx:Nat},(e 9=.int .i64 (((k+1):Int)+1)/\ue y0 gg nx B (jj (H-1) (W-1)) (jk W H ((k+1)+1))/\gg ⟨8000000,n0⟩=some ⟨true,4,[[.bB,.bB,.bB,.int .i64 0]]⟩/\y0<=nx)->∃m0,m0<(H-1)-k/\∃k:Nat,m0=(H-1)-k/\k<=(H-1)/\(e 9=.int .i64 ((k:Int)+1)/\ue y0 gg nx B (jj (H-1) (W-1)) (jk W H (k+1))/\gg ⟨8000000,n0⟩=some ⟨true,4,[[.bB,.bB,.bB,.int .i64 0]]⟩/\y0<=nx):=fun x1=>⟨_,ab,k+1,rfl,ab,x1⟩
    have tt:=yl (k+1) ab
    rw[show((k+1:Nat):Int)=(k:Int)+1 from rfl]at tt
    have JM:=yl (k+1+1) ab
    rw[show((k+1+1:Nat):Int)=(k:Int)+1+1 from rfl]at JM
    have hw:IntKind.i64.wrap ((k:Int)+1+1)=(k:Int)+1+1:=dy ab
    have qt:=TR W hW H hH w1 k ab
    have yK:=Ul W hW H hH w1 k ab
    have Ik:=K8 W hW H hH w1 h1 (k+1) ab
    rw[qt]at Ik
    have pM:(#[119]:Array UInt8).size+(gY (k+1)).size<=9223372036854775807:=by rw[iQ ab];decide
    have nH:(#[119]:Array UInt8).size+(gY (k+1+1)).size<=9223372036854775807:=by rw[iQ ab];decide
    (repeat(first|((repeat(revert hN;revert N;apply Pn.out));refine wk (tw @d0 (tw @d1 (tw @d4 (tw @d5 (tw @d6 (tw @d9 (tw @hk (tw @hw (tw @pM @nH))))))))) ?_;(repeat(refine Pn.mk ?_;intro N hN)))|((try apply Or.inl);refine⟨_,aP.x (tt) (sd (tw @d0 (tw @d1 (tw @d4 (tw @d5 (tw @d6 (tw @d9 (tw @hk (tw @hw (tw @pM @nH)))))))))),?_⟩;refine hN _ _ ?_;clear hN N)|((try apply Or.inl);refine⟨_,aP.x (JM) (sd (tw @d0 (tw @d1 (tw @d4 (tw @d5 (tw @d6 (tw @d9 (tw @hk (tw @hw (tw @pM @nH)))))))))),?_⟩;refine hN _ _ ?_;clear hN N)))
    refine .inr (aS _ _ _ _ _ (fun r σ2 hq=>?_) (uA (σ:=⟨_,_⟩) (dK.frame bL fun i hi=>(by try rfl)) (lD 119 (k+1)) (by rw[rl _ _ ab];omega) (by rw[ir];omega) (by rw[il];omega) Ik (lD 119 (k+1+1)) ft (lD 119 (k+1)) ⟨#[]⟩))
    obtain⟨rfl,iY,pH,jO⟩:=hq
    obtain⟨g2,x2⟩:=σ2
    (try dsimp only at iY pH jO)
    refine hN _ _ ?_
    clear hN N
    have jv:=(jO ⟨8000000,n0⟩ bL).trans dC
    (try dsimp only at jv)
    rw[yK,<-qt,<-sg]at iY
    (try((repeat(revert hN;revert N;apply Pn.out));refine wk (tw @d0 (tw @d1 (tw @d4 (tw @d5 (tw @d6 (tw @d9 (tw @hk @hw))))))) ?_;(repeat(refine Pn.mk ?_;intro N hN))))
    exact wK (by(try dsimp only);exact⟨sl @hw,iY.frame bL fun i hi=>(by try rfl),jv,ab⟩)
   ·have DU:k=H-1:=ab
    subst DU
    (try((repeat(revert hN;revert N;apply Pn.out));refine wk (tw @d0 (tw @d1 (tw @d4 (tw @d5 (tw @d6 (tw @d9 @hk)))))) ?_;(repeat(refine Pn.mk ?_;intro N hN))))
    have Wl:H-1+1=H:=ab
    rw[Wl]at dK
    refine cU (fun n env st=>∃k:Nat,n=(W-1)-k/\k<=(W-1)/\(env 10=.int .i64 ((k:Int)+1)/\ue y0 st.get st.next B (jj (H-1) (W-1)) (jk W H (H+k))/\st.get ⟨8000000,n0⟩=some ⟨true,4,[[.bB,.bB,.bB,.int .i64 0]]⟩/\y0<=st.next)) (W-1) ⟨0,ab,ab,by(try dsimp only);exact⟨sl @Nat.zero_add,dK.frame bL fun i hi=>(by try rfl),dC,ab⟩⟩ ?_
    rintro n_p env_p st_p ⟨k,rfl,ple,pI0⟩ pfr
    have p0:=pfr 0 (by kernel_rfl);have p1:=pfr 1 (by kernel_rfl);have p4:=pfr 4 (by kernel_rfl);have p5:=pfr 5 (by kernel_rfl);have p6:=pfr 6 (by kernel_rfl)
    simp only[go_sem, ↓reduceIte,Nat.reduceEqDiff,Nat.reduceAdd,Nat.reduceSub,Nat.reduceLeDiff,reduceCtorEq,a0,a1,a4,a5,a6,b0,b1,b4,b5,b6,d0,d1,d4,d5,d6]at p0 p1 p4 p5 p6
    clear pfr
    obtain⟨T6,pK,pC,pY⟩:=pI0
    by_cases hk:(k:Int)+1<(W:Int)
    ·have Kp:∀{e:Env} {gg:Rows} {nx:Nat},(e 10=.int .i64 (((k+1):Int)+1)/\ue y0 gg nx B (jj (H-1) (W-1)) (jk W H (H+(k+1)))/\gg ⟨8000000,n0⟩=some ⟨true,4,[[.bB,.bB,.bB,.int .i64 0]]⟩/\y0<=nx)->∃m0,m0<(W-1)-k/\∃k:Nat,m0=(W-1)-k/\k<=(W-1)/\(e 10=.int .i64 ((k:Int)+1)/\ue y0 gg nx B (jj (H-1) (W-1)) (jk W H (H+k))/\gg ⟨8000000,n0⟩=some ⟨true,4,[[.bB,.bB,.bB,.int .i64 0]]⟩/\y0<=nx):=fun x1=>⟨_,ab,k+1,rfl,ab,x1⟩
     have tt:=yl (k+1) ab
     rw[show((k+1:Nat):Int)=(k:Int)+1 from rfl]at tt
     have JM:=yl (k+1+1) ab
     rw[show((k+1+1:Nat):Int)=(k:Int)+1+1 from rfl]at JM
     have hw:IntKind.i64.wrap ((k:Int)+1+1)=(k:Int)+1+1:=dy ab
     have qt:=TQ W hW H hH h1 k ab
     have yK:=Uj W hW H hH h1 k ab
     have Ik:=K8 W hW H hH w1 h1 (H+k) ab
     rw[qt]at Ik
     have pM:(#[101]:Array UInt8).size+(gY (k+1)).size<=9223372036854775807:=by rw[iQ ab];decide
     have nH:(#[101]:Array UInt8).size+(gY (k+1+1)).size<=9223372036854775807:=by rw[iQ ab];decide
     (repeat(first|((repeat(revert hN;revert N;apply Pn.out));refine wk (tw @p0 (tw @p1 (tw @p4 (tw @p5 (tw @p6 (tw @T6 (tw @hk (tw @hw (tw @pM @nH))))))))) ?_;(repeat(refine Pn.mk ?_;intro N hN)))|((try apply Or.inl);refine⟨_,aP.x (tt) (sd (tw @p0 (tw @p1 (tw @p4 (tw @p5 (tw @p6 (tw @T6 (tw @hk (tw @hw (tw @pM @nH)))))))))),?_⟩;refine hN _ _ ?_;clear hN N)|((try apply Or.inl);refine⟨_,aP.x (JM) (sd (tw @p0 (tw @p1 (tw @p4 (tw @p5 (tw @p6 (tw @T6 (tw @hk (tw @hw (tw @pM @nH)))))))))),?_⟩;refine hN _ _ ?_;clear hN N)))
     refine .inr (aS _ _ _ _ _ (fun r σ2 hq=>?_) (uA (σ:=⟨_,_⟩) (pK.frame bL fun i hi=>(by try rfl)) (lD 101 (k+1)) (by rw[rl _ _ ab];omega) (by rw[ir];omega) (by rw[il];omega) Ik ft (lD 101 (k+1+1)) ⟨#[]⟩ (lD 101 (k+1))))
     obtain⟨rfl,iY,pH,jO⟩:=hq
     obtain⟨g2,x2⟩:=σ2
     (try dsimp only at iY pH jO)
     refine hN _ _ ?_
     clear hN N
     have jv:=(jO ⟨8000000,n0⟩ bL).trans pC
     (try dsimp only at jv)
     rw[yK,<-qt,<-sg]at iY
     (try((repeat(revert hN;revert N;apply Pn.out));refine wk (tw @p0 (tw @p1 (tw @p4 (tw @p5 (tw @p6 (tw @T6 (tw @hk @hw))))))) ?_;(repeat(refine Pn.mk ?_;intro N hN))))
     exact Kp (by(try dsimp only);exact⟨sl @hw,iY.frame bL fun i hi=>(by try rfl),jv,ab⟩)
    ·have DU:k=W-1:=ab
     subst DU
     (try((repeat(revert hN;revert N;apply Pn.out));refine wk (tw @p0 (tw @p1 (tw @p4 (tw @p5 (tw @p6 (tw @T6 @hk)))))) ?_;(repeat(refine Pn.mk ?_;intro N hN))))
     have Wn:H+(W-1)=W+H-1:=ab
     rw[Wn]at pK
     have Ik:=K8 W hW H hH w1 h1 (W+H-1) ab
     rw[QQ W hW H hH w1 h1]at Ik
     refine .inr (aS _ _ _ _ _ (fun r σ2 hq=>?_) (uA (σ:=⟨_,_⟩) (pK.frame bL fun i hi=>(by try rfl)) rm (by decide) (by rw[ir];omega) (by rw[il];omega) Ik ft ft ft ft))
     obtain⟨rfl,iY,pH,jO⟩:=hq
     obtain⟨g2,x2⟩:=σ2
     (try dsimp only at iY pH jO)
     refine hN _ _ ?_
     clear hN N
     have jv:=(jO ⟨8000000,n0⟩ bL).trans pC
     (try dsimp only at jv)
     rw[Uk W hW H hH w1 h1,<-QQ W hW H hH w1 h1,<-sg,show W+H-1+1=W+H by omega]at iY
     (try((repeat(revert hN;revert N;apply Pn.out));refine wk (tw @p0 (tw @p1 (tw @p4 (tw @p5 @p6)))) ?_;(repeat(refine Pn.mk ?_;intro N hN))))
     refine .inr (aS _ _ _ _ _ (fun r σ3 hq=>?_) (HP (σ:=⟨_,_⟩) (iY.frame bL fun i hi=>(by have h9:=dE hi;simp only[go_sem, ↓reduceIte,Nat.reduceEqDiff,Nat.reduceAdd,Nat.reduceSub,Nat.reduceLeDiff,reduceCtorEq,h9])) 0 ab [0] (by simp) (u:=⟨8025001,_⟩) ⟨true,sl @Nat.zero_add⟩ bL))
     obtain⟨vg,vt,vs,rfl,kG,kT,kS,Ql,hf3⟩:=hq
     obtain⟨g3,x3⟩:=σ3
     (try dsimp only at kG kT kS Ql hf3)
     refine hN _ _ ?_
     clear hN N
     have hc3:g3 ⟨8000000,n0⟩=some ⟨true,4,[[.bB,.bB,.bB,.int .i64 0]]⟩:=(hf3 ⟨8000000,n0⟩ bL).trans (by have h9:=dE (i:=⟨8000000,n0⟩) (n:=x2) bL;simp only[go_sem, ↓reduceIte,Nat.reduceEqDiff,Nat.reduceAdd,Nat.reduceSub,Nat.reduceLeDiff,reduceCtorEq,h9,jv])
     have lG:=ir (H-1) (W-1)
     have lT:=il W H (W+H)
     rcases kG with⟨k0,_⟩|⟨og,rfl,_,gg0,_,gv0,gv⟩
     ·rw[k0]at lG;simp at lG
     rcases kT with⟨k0,_⟩|⟨ot,rows,rfl,_,gt0,hX,_,tv0,tv⟩
     ·rw[k0]at lT;simp at lT;omega
     rcases kS with⟨k0,_⟩|⟨od,rfl,_,gd0,dv0,dv⟩
     ·simp at k0
     have vC:=dE (i:=⟨8000000,n0⟩) (n:=x3) bL
     (try((repeat(revert hN;revert N;apply Pn.out));refine wk (tw @p0 (tw @p1 (tw @p4 (tw @p5 (tw @p6 (tw @vC @hc3)))))) ?_;(repeat(refine Pn.mk ?_;intro N hN))))
     have Xz:=(dD (a:=⟨8000000,n0⟩) (b:=og) bL).2
     have XB:=(dD (a:=⟨8000000,n0⟩) (b:=ot) bL).2
     have odC:=(dD (a:=⟨8000000,n0⟩) (b:=od) bL).2
     obtain⟨gF,JF⟩:∃gF,bH g3 ⟨8000000,n0⟩ ⟨true,4,[[.own og 0 (jj (H-1) (W-1)).length,.own ot 0 (jk W H (W+H)).length,.own od 0 1,.int .i64 2]]⟩=gF:=⟨_,rfl⟩
     have q1:gF og=some ⟨true,2,(jj (H-1) (W-1)).map ea⟩:=by rw[<-JF];simp only[go_sem, ↓reduceIte,Nat.reduceEqDiff,Nat.reduceAdd,Nat.reduceSub,Nat.reduceLeDiff,reduceCtorEq,Xz]<;>exact gg0
     have q2:gF ot=some ⟨true,2,rows⟩:=by rw[<-JF];simp only[go_sem, ↓reduceIte,Nat.reduceEqDiff,Nat.reduceAdd,Nat.reduceSub,Nat.reduceLeDiff,reduceCtorEq,XB]<;>exact gt0
     have q3:TX (fun s=>s=29003019) y0 gF x3 rows (jk W H (W+H)):=hX.frame (Nat.le_refl _) fun i _ i0 i1=>by
      have h8:=(dD (a:=⟨8000000,n0⟩) (b:=i) bL).2
      rw[<-JF]
      simp only[go_sem, ↓reduceIte,Nat.reduceEqDiff,Nat.reduceAdd,Nat.reduceSub,Nat.reduceLeDiff,reduceCtorEq,h8]
     have q4:gF od=some ⟨true,3,[ai ⟨⟨0,0⟩,0⟩]⟩:=by rw[<-JF];simp only[go_sem, ↓reduceIte,Nat.reduceEqDiff,Nat.reduceAdd,Nat.reduceSub,Nat.reduceLeDiff,reduceCtorEq,odC]<;>exact gd0
     have hF:=CN (p:=⟨⟨0,0⟩,0⟩) q1 rfl q2 rfl q3 q4
     exact⟨[.agg [.own og 0 (jj (H-1) (W-1)).length,.own ot 0 (jk W H (W+H)).length,.own od 0 1,.int .i64 2],.int .i64 0],sd (tw @p0 (tw @p1 (tw @p4 (tw @p5 @p6)))),.fK [.agg (ej (pV W H)),.int .i64 0],by(try dsimp only);rw[JF];simp only[iL,gp,cV,dH,hF,eW,Option.map_some]<;>rfl,rfl⟩
end
theorem four {k:Int} (h1:1<=k) (h4:k<=4):k=1∨k=2∨k=3∨k=4:=ab
end Go.Proofs.YtakkdjfmiffbfaaGreatDoor.V

namespace Go.Proofs.YtakkdjfmiffbfaaGreatDoor.V
open Go.RowKit Go.Shelf Go.Lib Go.Sort
theorem xW {P:Program} {fn:Func} {p u:Tmp} {ty tz:TypeId} (h:fn.results= #[.cell p ty,.cell u tz]) (tmps:Array Value) (w:World) (g g':Nat) (t t':TypeId) (cs mA:Array Value) (fr Sk:Nat×Nat) (d d':TypeDesc)
  (hp:tmps.getD p undef=.pointer (some ⟨g,0,none⟩)) (hq:tmps.getD u undef=.pointer (some ⟨g',0,none⟩))
  (hg:w.heap[g]? =some (.cells cs t fr)) (Vb:w.heap[g']? =some (.cells mA t' Sk))
  (hu:P.underlying ty=some d) (hd:(match d with| .struct _| .array _ _=>true|_=>false)=true) (hi:(P.info? ty).map (·.size)=some cs.size)
  (C1:P.underlying tz=some d') (Oj:(match d' with| .struct _| .array _ _=>true|_=>false)=true) (pG:(P.info? tz).map (·.size)=some mA.size):
  (results fn tmps).run P w=.ok (.tuple #[.agg cs,.agg mA]) w:=by
 have MG:tmps[p]?.getD undef=.pointer (some ⟨g,0,none⟩):=by simpa using hp
 have JP:tmps[u]?.getD undef=.pointer (some ⟨g',0,none⟩):=by simpa using hq
 simp[results,h,MG,JP,asAddr,Sem.run_bind,run_loadVar_row w g t ty cs fr d hg hu hd hi,run_loadVar_row w g' t' tz mA Sk d' Vb C1 Oj pG]
end Go.Proofs.YtakkdjfmiffbfaaGreatDoor.V

namespace Go.Proofs.YtakkdjfmiffbfaaGreatDoor.V
open Go.RowKit
theorem CA {P:Program} {w:World} {D:Nat->Prop} {ι:Names} (k1 k2:IntKind) (x y:Int):dF P w D ι (.agg [.int k1 x,.int k2 y]) (.agg #[.int k1 x,.int k2 y]):=by
 refine .eG _ _ (.agg _ _ (fun j=>if j=0 then .int k1 x else .int k2 y) rfl (by simp[AV.cell]) (fun j hj=>?_) (fun j a ha=>?_))
 ·have:j=0∨j=1:=by simp at hj;omega
  rcases this with rfl|rfl<;>rfl
 ·match j,ha with
  |0,ha=>simp at ha;subst ha;exact .int _ _
  |1,ha=>simp at ha;subst ha;exact .int _ _
  |j+2,ha=>simp at ha
end Go.Proofs.YtakkdjfmiffbfaaGreatDoor.V

namespace Go.Proofs.YtakkdjfmiffbfaaGreatDoor.V
open Go.RowKit
attribute [local irreducible] dL wpOps ez Call
attribute [local go_sem] ay ew dZ eE eC cY upd bJ K.av bZ AV.cells AV.cell rowOf rowsOf part ld rowAt eO bH bI cX dj eQ bq cF dx eA ed cQ dq cD cC dc de bu aE cm bt cr cq dn dr dp ck bz cE dm br aw cw bQ eP aZ bW bx aD cR aQ cZ AV.undef bd bj dh di c6 da bV dw dz bP du dt cu cz List.getD_cons_zero List.getD_cons_succ List.getD_nil List.all_cons List.all_nil Bool.and_true Bool.true_and Bool.and_self Bool.not_true Bool.not_false Option.map_some Option.map_none Option.bind_some Option.bind_none List.length_cons List.length_nil List.take_succ_cons List.take_zero List.take_nil List.drop_succ_cons List.drop_zero List.drop_nil List.head?_cons List.map_cons List.map_nil List.getElem?_cons_zero List.getElem?_cons_succ List.cons_append List.nil_append List.append_nil List.length_map List.set_cons_zero List.set_cons_succ Nat.reduceMul eq_self Int.toNat_natCast Int.natCast_nonneg and_self true_and and_true decide_true decide_false Bool.false_eq_true Nat.zero_add Nat.add_zero List.contains_cons List.contains_nil Bool.or_false Bool.false_or beq_self_eq_true Nat.reduceBEq ne_eq not_true_eq_false not_false_eq_true Id.mk.injEq false_and and_false Nat.reduceLT Int.reduceLE Int.reduceLT Int.reduceToNat Int.reduceNeg Int.reduceAdd Nat.le_refl List.length_append beq_true beq_false Bool.not_eq_eq_eq_not or_false false_or dW ad ae aL aI bf bR az bc aA aJ cj bh
def LO (z m:Nat) (L:List af) (v:AV) (g:Rows) (n:Nat):Prop:=(L=[]/\v=.bB)∨∃u:Id,v=.own u 0 L.length/\g u=some ⟨true,2,L.map aj⟩/\m<=u.cW/\u.cW<n/\0<L.length/\u.site=z
theorem LO.frame {z m:Nat} {L:List af} {v v':AV} {g g':Rows} {n n':Nat} (h:LO z m L v g n) (he:v'=v) (hn:n<=n') (hf:∀x:Id,x.cW<n->x.site=z->g' x=g x):LO z m L v' g' n':=by
 subst he
 rcases h with h|⟨u,h1,h2,h3,h4,h5,h6⟩
 ·exact .inl h
 ·exact .inr ⟨u,h1,(hf u h4 h6).trans h2,h3,ab,h5,h6⟩
def ql (y x:Nat):List af:=(List.range x).map fun(k:Nat)=>⟨(k:Int),(y:Int)⟩
theorem KT (y x:Nat):(ql y x).length=x:=by simp[ql]
theorem HG (y x:Nat):ql y (x+1)=ql y x++[⟨x,y⟩]:=by simp[ql,List.range_succ]
theorem KI (W y:Nat):ib W (y+1)=ib W y++ql y W:=by simp[ib,ql,List.range_succ]
section
set_option maxRecDepth 100000
set_option maxHeartbeats 16000000
theorem Cx (W H:Nat) (w1:1<=W) (h1:1<=H) (hW:W<8) (hH:H<8) (σ:aq):
  Call Tryz.prog 43 [.agg [.int .i64 0,.int .i64 0],.agg [.int .i64 ((W:Int)-1),.int .i64 ((H:Int)-1)]] σ (fun r σ'=>∃u:Id,r=.own u 0 (W*H)/\σ'.get u=some ⟨true,2,(ib W H).map aj⟩/\σ.next<=u.cW/\u.cW<σ'.next/\σ.next<=σ'.next/\∀i:Id,i.cW<σ.next->σ'.get i=σ.get i):=by
 refine eU fH rfl fun hl=>?_
 clear hl
 (try((repeat(revert hN;revert N;apply Pn.out));refine wk @Nat.zero_add ?_;(repeat(refine Pn.mk ?_;intro N hN))))
 refine cU (fun n env st=>∃y:Nat,n=(H)-y/\y<=(H)/\env 6=.int .i64 (y:Int)/\(LO 43008005 (σ.next+1) (ib W y) (env 5) st.get st.next/\σ.next<st.next/\st.get ⟨43000000,σ.next⟩=some ⟨true,2,[[.int .i64 0,.int .i64 0]]⟩/\st.get ⟨43000001,σ.next⟩=some ⟨true,2,[[.int .i64 ((W:Int)-1),.int .i64 ((H:Int)-1)]]⟩/\∀i:Id,i.cW<σ.next->st.get i=σ.get i)) (H) ⟨0,ab,ab,sl @Nat.zero_add,by(try dsimp only);exact⟨.inl ⟨rfl,sd @Nat.zero_add⟩,ab,sd @Nat.zero_add,sd @Nat.zero_add,fun i hi=>(by have h9:=dE hi;simp only[go_sem, ↓reduceIte,Nat.reduceEqDiff,Nat.reduceAdd,Nat.reduceSub,Nat.reduceLeDiff,reduceCtorEq,h9])⟩⟩ ?_
 rintro n_a env_a st_a ⟨y,rfl,ale,a6,qn⟩ eL
 have a2:=eL 2 (by kernel_rfl);have a3:=eL 3 (by kernel_rfl)
 simp only[go_sem, ↓reduceIte,Nat.reduceEqDiff,Nat.reduceAdd,Nat.reduceSub,Nat.reduceLeDiff,reduceCtorEq]at a2 a3
 clear eL
 obtain⟨aG,an,Dc,LW,aF⟩:=qn
 by_cases hy:(y:Int)<=(H:Int)-1
 ·have eB:∀{e:Env} {gg:Rows} {nx:Nat},(e 6=.int .i64 (IntKind.i64.wrap ((y:Int)+1)))->(LO 43008005 (σ.next+1) (ib W (y+1)) (e 5) gg nx/\σ.next<nx/\gg ⟨43000000,σ.next⟩=some ⟨true,2,[[.int .i64 0,.int .i64 0]]⟩/\gg ⟨43000001,σ.next⟩=some ⟨true,2,[[.int .i64 ((W:Int)-1),.int .i64 ((H:Int)-1)]]⟩/\∀i:Id,i.cW<σ.next->gg i=σ.get i)->∃m0,m0<(H)-y/\∃y:Nat,m0=(H)-y/\y<=(H)/\e 6=.int .i64 (y:Int)/\(LO 43008005 (σ.next+1) (ib W y) (e 5) gg nx/\σ.next<nx/\gg ⟨43000000,σ.next⟩=some ⟨true,2,[[.int .i64 0,.int .i64 0]]⟩/\gg ⟨43000001,σ.next⟩=some ⟨true,2,[[.int .i64 ((W:Int)-1),.int .i64 ((H:Int)-1)]]⟩/\∀i:Id,i.cW<σ.next->gg i=σ.get i):=fun x1 x2=>⟨_,ab,y+1,rfl,ab,(by rw[x1,cI ab]),x2⟩
  have hyk:y<H:=ab
  (try((repeat(revert hN;revert N;apply Pn.out));refine wk (tw @a6 (tw @a2 (tw @a3 (tw @hy (tw @Dc @LW))))) ?_;(repeat(refine Pn.mk ?_;intro N hN))))
  refine cU (fun n env st=>∃x:Nat,n=(W)-x/\x<=(W)/\env 7=.int .i64 (x:Int)/\(LO 43008005 (σ.next+1) (ib W y++ql y x) (env 5) st.get st.next/\σ.next<st.next/\st.get ⟨43000000,σ.next⟩=some ⟨true,2,[[.int .i64 0,.int .i64 0]]⟩/\st.get ⟨43000001,σ.next⟩=some ⟨true,2,[[.int .i64 ((W:Int)-1),.int .i64 ((H:Int)-1)]]⟩/\∀i:Id,i.cW<σ.next->st.get i=σ.get i)) (W) ⟨0,ab,ab,sl (tw @a6 (tw @a2 @a3)),by(try dsimp only);rw[show ib W y++ql y 0=ib W y from List.append_nil _];exact⟨aG.frame (sd @Nat.zero_add) bL (fun i hi hs=>(sd @Nat.zero_add)),ab,Dc,LW,aF⟩⟩ ?_
  rintro n_b env_b st_b ⟨x,rfl,ble,b7,bI0⟩ fA
  have b2:=fA 2 (by kernel_rfl);have b3:=fA 3 (by kernel_rfl);have b6:=fA 6 (by kernel_rfl)
  simp only[go_sem, ↓reduceIte,Nat.reduceEqDiff,Nat.reduceAdd,Nat.reduceSub,Nat.reduceLeDiff,reduceCtorEq,a6,a2,a3]at b2 b3 b6
  clear fA
  obtain⟨bG,bn,Rv,Rw,bF⟩:=bI0
  by_cases hx:(x:Int)<=(W:Int)-1
  ·have fP:∀{e:Env} {gg:Rows} {nx:Nat},(e 7=.int .i64 (IntKind.i64.wrap ((x:Int)+1)))->(LO 43008005 (σ.next+1) (ib W y++ql y (x+1)) (e 5) gg nx/\σ.next<nx/\gg ⟨43000000,σ.next⟩=some ⟨true,2,[[.int .i64 0,.int .i64 0]]⟩/\gg ⟨43000001,σ.next⟩=some ⟨true,2,[[.int .i64 ((W:Int)-1),.int .i64 ((H:Int)-1)]]⟩/\∀i:Id,i.cW<σ.next->gg i=σ.get i)->∃m0,m0<(W)-x/\∃x:Nat,m0=(W)-x/\x<=(W)/\e 7=.int .i64 (x:Int)/\(LO 43008005 (σ.next+1) (ib W y++ql y x) (e 5) gg nx/\σ.next<nx/\gg ⟨43000000,σ.next⟩=some ⟨true,2,[[.int .i64 0,.int .i64 0]]⟩/\gg ⟨43000001,σ.next⟩=some ⟨true,2,[[.int .i64 ((W:Int)-1),.int .i64 ((H:Int)-1)]]⟩/\∀i:Id,i.cW<σ.next->gg i=σ.get i):=fun x1 x2=>⟨_,ab,x+1,rfl,ab,(by rw[x1,cI ab]),x2⟩
   have hxk:x<W:=ab
   have v7:ib W y++ql y (x+1)=(ib W y++ql y x)++[⟨x,y⟩]:=by rw[HG,List.append_assoc]
   have Qi:(ib W y++ql y x).length<=100:=by
    rw[List.length_append,lk,KT]
    have:W*y<=7*7:=Nat.mul_le_mul ab ab
    omega
   generalize ib W y++ql y x=M at bG v7 Qi
   have Qt:(M++[(⟨x,y⟩:af)]).map aj=M.map aj++[[.int .i64 (x:Int),.int .i64 (y:Int)]]:=by rw[List.map_append];rfl
   have nP:(M++[(⟨x,y⟩:af)]).length=M.length+1:=by rw[List.length_append];rfl
   have Qk:(M.map aj).length=M.length:=by simp
   have Wt:M.length<=16777215:=ab
   rcases bG with⟨hM,b5⟩|⟨u,b5,hu,hum,JZ,JY,QA⟩
   ·subst hM
    (try((repeat(revert hN;revert N;apply Pn.out));refine wk (tw @b7 (tw @b2 (tw @b3 (tw @b6 (tw @hx (tw @Rv (tw @Rw @b5))))))) ?_;(repeat(refine Pn.mk ?_;intro N hN))))
    exact fP (sd (tw @b7 (tw @b2 (tw @b3 @b6)))) (by(try dsimp only);exact⟨.inr ⟨⟨43008005,st_b.next+1⟩,by rw[v7,nP];simp only[go_sem, ↓reduceIte,Nat.reduceEqDiff,Nat.reduceAdd,Nat.reduceSub,Nat.reduceLeDiff,reduceCtorEq]<;>rfl,by rw[v7,Qt];simp only[go_sem, ↓reduceIte,Nat.reduceEqDiff,Nat.reduceAdd,Nat.reduceSub,Nat.reduceLeDiff,reduceCtorEq]<;>rfl,bL,bL,by rw[v7,nP];omega,rfl⟩,ab,sd @Rv,sd @Rw,fun i hi=>by
     have h9:=dE (i:=i) (n:=st_b.next) ab
     have h8:=bF i hi
     simp only[go_sem, ↓reduceIte,Nat.reduceEqDiff,Nat.reduceAdd,Nat.reduceSub,Nat.reduceLeDiff,reduceCtorEq,h9,h8]⟩)
   ·have vu:=dE JZ
    have u2:((⟨43000000,σ.next⟩:Id)=u)=False:=eq_false fun e=>absurd (show(43000000:Nat)=43008005 from(congrArg Id.site e).trans QA) (by decide)
    have u3:((⟨43000001,σ.next⟩:Id)=u)=False:=eq_false fun e=>absurd (show(43000001:Nat)=43008005 from(congrArg Id.site e).trans QA) (by decide)
    (try((repeat(revert hN;revert N;apply Pn.out));refine wk (tw @b7 (tw @b2 (tw @b3 (tw @b6 (tw @hx (tw @Rv (tw @Rw (tw @b5 (tw @hu (tw @vu (tw @u2 (tw @u3 (tw @Qk @Wt))))))))))))) ?_;(repeat(refine Pn.mk ?_;intro N hN))))
    exact fP (sd (tw @b7 (tw @b2 (tw @b3 @b6)))) (by(try dsimp only);exact⟨.inr ⟨⟨43008005,st_b.next+1⟩,by rw[v7,nP];simp only[go_sem, ↓reduceIte,Nat.reduceEqDiff,Nat.reduceAdd,Nat.reduceSub,Nat.reduceLeDiff,reduceCtorEq]<;>rfl,by rw[v7,Qt];simp only[go_sem, ↓reduceIte,Nat.reduceEqDiff,Nat.reduceAdd,Nat.reduceSub,Nat.reduceLeDiff,reduceCtorEq]<;>rfl,bL,bL,by rw[v7,nP];omega,rfl⟩,ab,sd (tw @Rv @u2),sd (tw @Rw @u3),fun i hi=>by
     have h9:=dE (i:=i) (n:=st_b.next) ab
     have h8:=bF i hi
     have h7:=dD (a:=i) (b:=u) ab
     simp only[go_sem, ↓reduceIte,Nat.reduceEqDiff,Nat.reduceAdd,Nat.reduceSub,Nat.reduceLeDiff,reduceCtorEq,h9,h8,h7]⟩)
  ·have hxk:x=W:=ab
   subst hxk
   (try((repeat(revert hN;revert N;apply Pn.out));refine wk (tw @b7 (tw @b2 (tw @b3 (tw @b6 (tw @hx (tw @Rv @Rw)))))) ?_;(repeat(refine Pn.mk ?_;intro N hN))))
   rw[<-KI]at bG
   exact eB (sd (tw @b7 (tw @b2 (tw @b3 @b6)))) (by(try dsimp only);exact⟨bG.frame (sd @Nat.zero_add) bL (fun i hi hs=>(sd @Nat.zero_add)),ab,Rv,Rw,bF⟩)
 ·have hyk:y=H:=ab
  subst hyk
  rcases aG with⟨hM,a5⟩|⟨u,a5,hu,hum,JZ,JY,QA⟩
  ·have:=congrArg List.length hM
   rw[lk]at this
   have h0:0<W*y:=Nat.mul_pos w1 h1
   simp at this
   omega
  ·rw[lk]at a5
   (try((repeat(revert hN;revert N;apply Pn.out));refine wk (tw @a6 (tw @a2 (tw @a3 (tw @hy (tw @Dc (tw @LW @a5)))))) ?_;(repeat(refine Pn.mk ?_;intro N hN))))
   exact eK (.inl rfl) (vs:=[.own u 0 (W*y)]) (sd @a5) ⟨u,rfl,hu,ab,bL,bL,aF⟩
end
end Go.Proofs.YtakkdjfmiffbfaaGreatDoor.V

namespace Go.Proofs.YtakkdjfmiffbfaaGreatDoor.V
open Go.RowKit Go.Shelf Go.Lib Go.Sort
theorem Fc (tmps:Array Value) (W:World) (g g':Nat) (cs mA:Array Value) (fr Sk:Nat×Nat) (hs:cs.size=2) (Ad:mA.size=2)
  (h4:tmps.getD 2 undef=.pointer (some ⟨g,0,none⟩)) (h5:tmps.getD 3 undef=.pointer (some ⟨g',0,none⟩))
  (hg:W.heap[g]? =some (.cells cs 72 fr)) (Vb:W.heap[g']? =some (.cells mA 72 Sk)):
  (results Tryz.f41 tmps).run Tryz.prog W=.ok (.tuple #[.agg cs,.agg mA]) W:=by
 have hi:(Tryz.prog.info? 72).map (·.size)=some 2:=by kernel_rfl
 exact xW (p:=2) (u:=3) rfl tmps W g g' _ _ cs mA fr Sk _ _ h4 h5 hg Vb rfl rfl (hi.trans (by rw[hs])) rfl rfl (hi.trans (by rw[Ad]))
theorem Bi {w:World} {a:Addr} {v:Value} (h:w.cell? a=some v) (o:Obj):(w.alloc o).cell? a=some v:=by
 rw[World.cell?_alloc_some w a o (by rw[h];rfl)];exact h
theorem gW {w:World} {b i:Nat} {cs:Array Value} {t:TypeId} {v:Value} (h:w.heap[b]? =some (.cells cs t (0,0))) (hv:cs[i]? =some v):w.cell? ⟨b,i,none⟩=some v:=by
 simp[World.cell?,h,hv]
theorem gm {w:World} {b i:Nat} {cs:Array Value} {t:TypeId} (h:w.heap[b]? =some (.cells cs t (0,0))):w.frozen? ⟨b,i,none⟩=false:=by
 simp[World.frozen?,h]
theorem N7 {w wr:World} {b i:Nat} (h:wr.heap[b]? =w.heap[b]?):wr.cell? ⟨b,i,none⟩=w.cell? ⟨b,i,none⟩:=by
 simp[World.cell?,h]
theorem ox {w:World} {b:Nat} {x:Obj} (h:w.heap[b]? =some x) (o:Obj):(w.alloc o).heap[b]? =some x:=by
 have hb:b<w.heap.size:=by
  rcases Nat.lt_or_ge b w.heap.size with h'|h'
  ·exact h'
  ·rw[Array.getElem?_eq_none h']at h;cases h
 show(w.heap.push o)[b]? = _
 rw[Array.getElem?_push_lt hb,<-h,Array.getElem?_eq_getElem hb]
def Ed (X:Nat->Int):Nat->Int
 |0=>X 0
 |k+1=>min (Ed X k) (X k)
def Hq (X:Nat->Int):Nat->Int
 |0=>X 0
 |k+1=>max (Hq X k) (X k)
structure AW (w wr:World) (L U:Nat) (a b c d:Int):Prop where
 low:wr.heap[L]? =some (.cells #[.int .i64 a,.int .i64 b] 72 (0,0))
 OM:wr.heap[U]? =some (.cells #[.int .i64 c,.int .i64 d] 72 (0,0))
 r2:wr.heap[w.heap.size]? =some (.cells #[.int .i64 0,.int .i64 0] 72 (0,0))
 r3:wr.heap[w.heap.size+1]? =some (.cells #[.int .i64 0,.int .i64 0] 72 (0,0))
 below:Below w.heap.size w wr
 sz:w.heap.size+4<=wr.heap.size
theorem yf (w:World) (L U:Nat) (o1 o2:Obj) (a b c d:Int) (hL:(L=w.heap.size+1+1/\U=w.heap.size+1+1+1/\o1=.cells #[.int .i64 a,.int .i64 b] 72 (0,0)/\o2=.cells #[.int .i64 c,.int .i64 d] 72 (0,0))∨(U=w.heap.size+1+1/\L=w.heap.size+1+1+1/\o1=.cells #[.int .i64 c,.int .i64 d] 72 (0,0)/\o2=.cells #[.int .i64 a,.int .i64 b] 72 (0,0))):
  AW w ((((w.alloc (.cells #[.int .i64 0,.int .i64 0] 72)).alloc (.cells #[.int .i64 0,.int .i64 0] 72)).alloc o1).alloc o2).drew L U a b c d:=by
 have h2:((((w.alloc (.cells #[.int .i64 0,.int .i64 0] 72)).alloc (.cells #[.int .i64 0,.int .i64 0] 72)).alloc o1).alloc o2).drew.heap[w.heap.size+1+1]? =some o1:=by
  show((((w.heap.push _).push _).push o1).push o2)[w.heap.size+1+1]? = _
  simp[Array.getElem?_push,Array.getElem_push]
 have h3:((((w.alloc (.cells #[.int .i64 0,.int .i64 0] 72)).alloc (.cells #[.int .i64 0,.int .i64 0] 72)).alloc o1).alloc o2).drew.heap[w.heap.size+1+1+1]? =some o2:=by
  show((((w.heap.push _).push _).push o1).push o2)[w.heap.size+1+1+1]? = _
  simp[Array.getElem?_push,Array.getElem_push]
 refine⟨?_,?_,?_,?_,(by repeat(first|(with_reducible exact Below.refl _ _)|(refine Below.alloc ?_ (by simp;try omega) _)|(refine Below.drew ?_)|(refine IU ?_ _)|(refine Below.setCell ?_ (by simp;try omega) _))),by simp⟩
 ·rcases hL with⟨rfl,rfl,rfl,rfl⟩|⟨rfl,rfl,rfl,rfl⟩
  ·exact h2
  ·exact h3
 ·rcases hL with⟨rfl,rfl,rfl,rfl⟩|⟨rfl,rfl,rfl,rfl⟩
  ·exact h3
  ·exact h2
 ·exact ox (ox (ox (w:=w.alloc (.cells #[.int .i64 0,.int .i64 0] 72)) (x:=.cells #[.int .i64 0,.int .i64 0] 72 (0,0)) (show(w.heap.push _)[w.heap.size]? = _ by simp) _) _) _
 ·show((((w.heap.push _).push _).push o1).push o2)[w.heap.size+1]? = _
  simp[Array.getElem?_push,Array.getElem_push]
theorem uC (x y u v:Value):((#[x,y]:Array Value).setIfInBounds 0 u).setIfInBounds 1 v= #[u,v]:=rfl
theorem AW.step {w wr:World} {L U:Nat} {a b c d:Int} (h:AW w wr L U a b c d) (U4:L≠U) (hL:w.heap.size+2<=L) (hU:w.heap.size+2<=U) (o:Obj) (a' b' c' d':Int):
  AW w (((((wr.alloc o).setCell ⟨L,0,none⟩ (.int .i64 a')).setCell ⟨L,1,none⟩ (.int .i64 b')).setCell ⟨U,0,none⟩ (.int .i64 c')).setCell ⟨U,1,none⟩ (.int .i64 d')) L U a' b' c' d' where
 low:=by
  rw[Below.heap_setCell _ _ _ _ U4,Below.heap_setCell _ _ _ _ U4,heap_setCell_same (heap_setCell_same (ox h.low o) 0 _) 1 _,uC]
 OM:=by
  rw[heap_setCell_same (heap_setCell_same (cs:= #[.int .i64 c,.int .i64 d]) (t:=72) (fr:=(0,0)) ?_ 0 _) 1 _,uC]
  rw[Below.heap_setCell _ _ _ _ U4.symm,Below.heap_setCell _ _ _ _ U4.symm]
  exact ox h.OM o
 r2:=by
  rw[Below.heap_setCell _ _ _ _ (show w.heap.size≠U by omega),Below.heap_setCell _ _ _ _ (show w.heap.size≠U by omega),Below.heap_setCell _ _ _ _ (show w.heap.size≠L by omega),Below.heap_setCell _ _ _ _ (show w.heap.size≠L by omega)]
  exact ox h.r2 o
 r3:=by
  rw[Below.heap_setCell _ _ _ _ (show w.heap.size+1≠U by omega),Below.heap_setCell _ _ _ _ (show w.heap.size+1≠U by omega),Below.heap_setCell _ _ _ _ (show w.heap.size+1≠L by omega),Below.heap_setCell _ _ _ _ (show w.heap.size+1≠L by omega)]
  exact ox h.r3 o
 below:=((((h.below.alloc (by have:=h.sz;omega) o).setCell bL _).setCell bL _).setCell bL _).setCell bL _
 sz:=by
  have:=h.sz
  simp[World.setCell]
  omega
theorem AW.done {w wr:World} {L U:Nat} {a b c d:Int} (h:AW w wr L U a b c d) (a' b' c' d':Int):
  ((((wr.setCell ⟨w.heap.size,0,none⟩ (.int .i64 a')).setCell ⟨w.heap.size,1,none⟩ (.int .i64 b')).setCell ⟨w.heap.size+1,0,none⟩ (.int .i64 c')).setCell ⟨w.heap.size+1,1,none⟩ (.int .i64 d')).drew.heap[w.heap.size]? =some (.cells #[.int .i64 a',.int .i64 b'] 72 (0,0))/\
  ((((wr.setCell ⟨w.heap.size,0,none⟩ (.int .i64 a')).setCell ⟨w.heap.size,1,none⟩ (.int .i64 b')).setCell ⟨w.heap.size+1,0,none⟩ (.int .i64 c')).setCell ⟨w.heap.size+1,1,none⟩ (.int .i64 d')).drew.heap[w.heap.size+1]? =some (.cells #[.int .i64 c',.int .i64 d'] 72 (0,0))/\
  Below w.heap.size w ((((wr.setCell ⟨w.heap.size,0,none⟩ (.int .i64 a')).setCell ⟨w.heap.size,1,none⟩ (.int .i64 b')).setCell ⟨w.heap.size+1,0,none⟩ (.int .i64 c')).setCell ⟨w.heap.size+1,1,none⟩ (.int .i64 d')).drew:=by
 refine⟨?_,?_,(((((h.below.setCell bL _).setCell bL _).setCell bL _).setCell bL _).drew)⟩
 ·show(World.setCell _ _ _).heap[_]? = _
  rw[Below.heap_setCell _ _ _ _ (show w.heap.size≠w.heap.size+1 by omega),Below.heap_setCell _ _ _ _ (show w.heap.size≠w.heap.size+1 by omega),heap_setCell_same (heap_setCell_same h.r2 0 _) 1 _,uC]
 ·show(World.setCell _ _ _).heap[_]? = _
  rw[heap_setCell_same (heap_setCell_same (cs:= #[.int .i64 0,.int .i64 0]) (t:=72) (fr:=(0,0)) ?_ 0 _) 1 _,uC]
  rw[Below.heap_setCell _ _ _ _ (show w.heap.size+1≠w.heap.size by omega),Below.heap_setCell _ _ _ _ (show w.heap.size+1≠w.heap.size by omega)]
  exact h.r3
theorem Dl (w:World) (b o n c:Nat) (X Y:Nat->Int) (hn:0<n) (hc:n<=c) (hX:∀i,i<n->w.cell? ⟨b,o+i*2,none⟩=some (.int .i64 (X i))) (hY:∀i,i<n->w.cell? ⟨b,o+i*2+1,none⟩=some (.int .i64 (Y i))) (hb:b<w.heap.size) (Vj:n<=1048576):
  Calls Tryz.prog 41 #[.slice (some ⟨b,o,none⟩) n c] w fun e w'=>e=.returned (.tuple #[.agg #[.int .i64 (Ed X n),.int .i64 (Ed Y n)],.agg #[.int .i64 (Hq X n),.int .i64 (Hq Y n)]])/\Below w.heap.size w w':=by
 go_enter Tryz.func41,Tryz.ntmps41
 have DZ:w.cell? ⟨b,o,none⟩=some (.int .i64 (X 0)):=by simpa using hX 0 hn
 have Vz:w.cell? ⟨b,o+1,none⟩=some (.int .i64 (Y 0)):=by simpa using hY 0 hn
 have MO:=Bi DZ
 have AS:=fun o1 o2=>Bi (MO o1) o2
 have hx3:=fun o1 o2 o3=>Bi (AS o1 o2) o3
 have hx4:=fun o1 o2 o3 o4=>Bi (hx3 o1 o2 o3) o4
 have VA:=Bi Vz
 have hy2:=fun o1 o2=>Bi (VA o1) o2
 have hy3:=fun o1 o2 o3=>Bi (hy2 o1 o2) o3
 have hy4:=fun o1 o2 o3 o4=>Bi (hy3 o1 o2 o3) o4
 go_wp2_with fail
 go_region
 all_goals go_wp2_with fail
 ·go_loopw [16] (fun i wr=>∃k:Nat,i=.int .i64 (k:Int)/\k<=n/\AW w wr (w.heap.size+1+1) (w.heap.size+1+1+1) (Ed X k) (Ed Y k) (Hq X k) (Hq Y k)) (fun i _=>n-(intOf i).toNat)
  case atStart=>exact⟨0,rfl,Nat.zero_le _,yf w _ _ _ _ _ _ _ _ (.inl ⟨rfl,rfl,rfl,rfl⟩)⟩
  case round=>
   obtain⟨k,rfl,hk,hS⟩:=hrel
   have cx:∀i,wr.cell? ⟨b,i,none⟩=w.cell? ⟨b,i,none⟩:=fun i=>N7 (hS.below.block b hb)
   have cl0:=gW (i:=0) hS.low rfl
   have cl1:=gW (i:=1) hS.low rfl
   have cu0:=gW (i:=0) hS.OM rfl
   have cu1:=gW (i:=1) hS.OM rfl
   have e8:=hS.sz
   by_cases jB:k<n
   ·have al:=fun o=>ox hS.low o
    have au:=fun o=>ox hS.OM o
    have dl0:=fun o=>gW (i:=0) (al o) rfl
    have dl1:=fun o=>gW (i:=1) (al o) rfl
    have du0:=fun o=>gW (i:=0) (au o) rfl
    have du1:=fun o=>gW (i:=1) (au o) rfl
    have fl0:=fun o=>gm (i:=0) (al o)
    have fl1:=fun o=>gm (i:=1) (al o)
    have fu0:=fun o=>gm (i:=0) (au o)
    have fu1:=fun o=>gm (i:=1) (au o)
    have n1:¬w.heap.size+1+1=wr.heap.size:=ab
    have n2:¬w.heap.size+1+1+1=wr.heap.size:=ab
    have n3:¬wr.heap.size=w.heap.size+1+1:=ab
    have n4:¬wr.heap.size=w.heap.size+1+1+1:=ab
    have ex:=(cx (o+k*2)).trans (hX k jB)
    have ey:=(cx (o+k*2+1)).trans (hY k jB)
    have Td:(k:Int)<(n:Int):=ab
    clear al au
    go_wp2_with fail
    exact⟨⟨k+1,rfl,ab,hS.step ab ab ab _ _ _ _ _⟩,by simp only[intOf];omega⟩
   ·have Td:¬(k:Int)<(n:Int):=ab
    have Vd:k=n:=ab
    subst Vd
    have c20:=gW (i:=0) hS.r2 rfl
    have c21:=gW (i:=1) hS.r2 rfl
    have c30:=gW (i:=0) hS.r3 rfl
    have c31:=gW (i:=1) hS.r3 rfl
    have f20:=gm (i:=0) hS.r2
    have f21:=gm (i:=1) hS.r2
    have f30:=gm (i:=0) hS.r3
    have f31:=gm (i:=1) hS.r3
    go_wp2_with fail
    go_region
    all_goals go_wp2_with fail
    all_goals
     obtain⟨q1,q2,q3⟩:=hS.done (Ed X k) (Ed Y k) (Hq X k) (Hq Y k)
     exact bodyPost_ret (Fc _ _ w.heap.size (w.heap.size+1) _ _ _ _ rfl rfl rfl rfl q1 q2) rfl ⟨rfl,q3⟩
 ·go_loopw [16] (fun i wr=>∃k:Nat,i=.int .i64 (k:Int)/\k<=n/\AW w wr (w.heap.size+1+1+1) (w.heap.size+1+1) (Ed X k) (Ed Y k) (Hq X k) (Hq Y k)) (fun i _=>n-(intOf i).toNat)
  case atStart=>exact⟨0,rfl,Nat.zero_le _,yf w _ _ _ _ _ _ _ _ (.inr ⟨rfl,rfl,rfl,rfl⟩)⟩
  case round=>
   obtain⟨k,rfl,hk,hS⟩:=hrel
   have cx:∀i,wr.cell? ⟨b,i,none⟩=w.cell? ⟨b,i,none⟩:=fun i=>N7 (hS.below.block b hb)
   have cl0:=gW (i:=0) hS.low rfl
   have cl1:=gW (i:=1) hS.low rfl
   have cu0:=gW (i:=0) hS.OM rfl
   have cu1:=gW (i:=1) hS.OM rfl
   have e8:=hS.sz
   by_cases jB:k<n
   ·have al:=fun o=>ox hS.low o
    have au:=fun o=>ox hS.OM o
    have dl0:=fun o=>gW (i:=0) (al o) rfl
    have dl1:=fun o=>gW (i:=1) (al o) rfl
    have du0:=fun o=>gW (i:=0) (au o) rfl
    have du1:=fun o=>gW (i:=1) (au o) rfl
    have fl0:=fun o=>gm (i:=0) (al o)
    have fl1:=fun o=>gm (i:=1) (al o)
    have fu0:=fun o=>gm (i:=0) (au o)
    have fu1:=fun o=>gm (i:=1) (au o)
    have n1:¬w.heap.size+1+1+1=wr.heap.size:=ab
    have n2:¬w.heap.size+1+1=wr.heap.size:=ab
    have n3:¬wr.heap.size=w.heap.size+1+1+1:=ab
    have n4:¬wr.heap.size=w.heap.size+1+1:=ab
    have ex:=(cx (o+k*2)).trans (hX k jB)
    have ey:=(cx (o+k*2+1)).trans (hY k jB)
    have Td:(k:Int)<(n:Int):=ab
    clear al au
    go_wp2_with fail
    exact⟨⟨k+1,rfl,ab,hS.step ab ab ab _ _ _ _ _⟩,by simp only[intOf];omega⟩
   ·have Td:¬(k:Int)<(n:Int):=ab
    have Vd:k=n:=ab
    subst Vd
    have c20:=gW (i:=0) hS.r2 rfl
    have c21:=gW (i:=1) hS.r2 rfl
    have c30:=gW (i:=0) hS.r3 rfl
    have c31:=gW (i:=1) hS.r3 rfl
    have f20:=gm (i:=0) hS.r2
    have f21:=gm (i:=1) hS.r2
    have f30:=gm (i:=0) hS.r3
    have f31:=gm (i:=1) hS.r3
    go_wp2_with fail
    go_region
    all_goals go_wp2_with fail
    all_goals
     obtain⟨q1,q2,q3⟩:=hS.done (Ed X k) (Ed Y k) (Hq X k) (Hq Y k)
     exact bodyPost_ret (Fc _ _ w.heap.size (w.heap.size+1) _ _ _ _ rfl rfl rfl rfl q1 q2) rfl ⟨rfl,q3⟩
end Go.Proofs.YtakkdjfmiffbfaaGreatDoor.V

namespace Go.Proofs.YtakkdjfmiffbfaaGreatDoor.V
open Go.RowKit
attribute [local irreducible] dL wpOps ez Call
attribute [local go_sem] ay ew dZ eE eC cY upd bJ K.av bZ AV.cells AV.cell rowOf rowsOf part ld rowAt eO bH bI cX dj eQ bq cF dx eA ed cQ dq cD cC dc de bu aE cm bt cr cq dn dr dp ck bz cE dm br aw cw bQ eP aZ bW bx aD cR aQ cZ AV.undef bd bj dh di c6 da bV dw dz bP du dt cu cz List.getD_cons_zero List.getD_cons_succ List.getD_nil List.all_cons List.all_nil Bool.and_true Bool.true_and Bool.and_self Bool.not_true Bool.not_false Option.map_some Option.map_none Option.bind_some Option.bind_none List.length_cons List.length_nil List.take_succ_cons List.take_zero List.take_nil List.drop_succ_cons List.drop_zero List.drop_nil List.head?_cons List.map_cons List.map_nil List.getElem?_cons_zero List.getElem?_cons_succ List.cons_append List.nil_append List.append_nil List.length_map List.set_cons_zero List.set_cons_succ Nat.reduceMul eq_self Int.toNat_natCast Int.natCast_nonneg and_self true_and and_true decide_true decide_false Bool.false_eq_true Nat.zero_add Nat.add_zero List.contains_cons List.contains_nil Bool.or_false Bool.false_or beq_self_eq_true Nat.reduceBEq ne_eq not_true_eq_false not_false_eq_true Id.mk.injEq false_and and_false Nat.reduceLT Int.reduceLE Int.reduceLT Int.reduceToNat Int.reduceNeg Int.reduceAdd Nat.le_refl List.length_append beq_true beq_false Bool.not_eq_eq_eq_not or_false false_or dW ad ae aL aI bf bR az bc aA aJ cj bh
section
set_option maxRecDepth 100000
set_option maxHeartbeats 4000000
theorem Hd (l:List Int) (hl:l.length<=1048576):aP Tryz.prog 58 [.sl (l.map bE),.sl (l.map bE)] (.bool true):=by
 refine aP.body fH rfl fun fR n0=>?_
 clear fR
 have fw:(l.map bE).length=l.length:=by simp
 have hd:∀x:Int,decide (x=x)=true:=fun x=>decide_eq_true rfl
 (try((repeat(revert hN;revert N;apply Pn.out));refine wk (tw @fw @hd) ?_;(repeat(refine Pn.mk ?_;intro N hN))))
 refine cU (fun n env st=>∃k:Nat,n=(l.length)-k/\k<=(l.length)/\env 5=.int .i64 (k:Int)) (l.length) ⟨0,ab,ab,sl (tw @fw @hd)⟩ ?_
 rintro n_b env_b st_b ⟨k,rfl,ble,b5⟩ fA
 have b0:=fA 0 (by kernel_rfl);have b1:=fA 1 (by kernel_rfl)
 simp only[go_sem, ↓reduceIte,Nat.reduceEqDiff,Nat.reduceAdd,Nat.reduceSub,Nat.reduceLeDiff,reduceCtorEq,fw,hd]at b0 b1
 clear fA
 by_cases hk:(k:Int)<(l.length:Int)
 ·have fP:∀{e:Env},(e 5=.int .i64 (IntKind.i64.wrap ((k:Int)+1)))->∃m0,m0<(l.length)-k/\∃k:Nat,m0=(l.length)-k/\k<=(l.length)/\e 5=.int .i64 (k:Int):=fun x1=>⟨_,ab,k+1,rfl,ab,(by rw[x1,cI ab])⟩
  have gV:(l.map bE)[k]? =some [.int .i64 (l.getD k 0)]:=getD_map (d:=0) bE ab
  (try((repeat(revert hN;revert N;apply Pn.out));refine wk (tw @b5 (tw @b0 (tw @b1 (tw @hk (tw @gV (tw @fw @hd)))))) ?_;(repeat(refine Pn.mk ?_;intro N hN))))
  exact fP (sd (tw @b5 (tw @b0 @b1)))
 ·(try((repeat(revert hN;revert N;apply Pn.out));refine wk (tw @b5 (tw @b0 (tw @b1 (tw @hk @fw)))) ?_;(repeat(refine Pn.mk ?_;intro N hN))))
  exact dU (b:=true) (.inl rfl) (sd @Nat.zero_add) rfl
theorem He (s:aH) (hg:s.bU.length<=1048576) (ht:s.ah.length<=1048576) (h4:∀t∈s.ah,t.dM.length=4):aP Tryz.prog 31 [.eT (ao s),.eT (ao s)] (.bool true):=by
 refine aP.body fH rfl fun fR n0=>?_
 clear fR
 have fw:(s.bU.map ea).length=s.bU.length:=by simp
 have MB:(s.ah.map dS).length=s.ah.length:=by simp
 have hd:∀x:Int,decide (x=x)=true:=fun x=>decide_eq_true rfl
 have hb:∀x:ByteArray,decide (x=x)=true:=fun x=>decide_eq_true rfl
 rw[ao]
 (try((repeat(revert hN;revert N;apply Pn.out));refine wk (tw @fw (tw @MB @hd)) ?_;(repeat(refine Pn.mk ?_;intro N hN))))
 refine cU (fun n env st=>∃k:Nat,n=(s.bU.length)-k/\k<=(s.bU.length)/\env 5=.int .i64 (k:Int)) (s.bU.length) ⟨0,ab,ab,sl (tw @fw (tw @MB @hd))⟩ ?_
 rintro n_b env_b st_b ⟨k,rfl,ble,b5⟩ fA
 have b0:=fA 0 (by kernel_rfl);have b1:=fA 1 (by kernel_rfl)
 simp only[go_sem, ↓reduceIte,Nat.reduceEqDiff,Nat.reduceAdd,Nat.reduceSub,Nat.reduceLeDiff,reduceCtorEq,fw,MB,hd]at b0 b1
 clear fA
 by_cases hk:(k:Int)<(s.bU.length:Int)
 ·have fP:∀{e:Env},(e 5=.int .i64 (IntKind.i64.wrap ((k:Int)+1)))->∃m0,m0<(s.bU.length)-k/\∃k:Nat,m0=(s.bU.length)-k/\k<=(s.bU.length)/\e 5=.int .i64 (k:Int):=fun x1=>⟨_,ab,k+1,rfl,ab,(by rw[x1,cI ab])⟩
  have gV:=Fx (s:=s) (i:=k) ab
  generalize tj s k=x at gV
  rw[ea]at gV
  (try((repeat(revert hN;revert N;apply Pn.out));refine wk (tw @b5 (tw @b0 (tw @b1 (tw @hk (tw @gV (tw @fw (tw @hd (tw @hb (tw @Bool.and_true @Bool.not_true))))))))) ?_;(repeat(refine Pn.mk ?_;intro N hN))))
  exact fP (sd (tw @b5 (tw @b0 @b1)))
 ·(try((repeat(revert hN;revert N;apply Pn.out));refine wk (tw @b5 (tw @b0 (tw @b1 (tw @hk (tw @fw @MB))))) ?_;(repeat(refine Pn.mk ?_;intro N hN))))
  refine cU (fun n env st=>∃k:Nat,n=(s.ah.length)-k/\k<=(s.ah.length)/\env 6=.int .i64 (k:Int)) (s.ah.length) ⟨0,ab,ab,sl (tw @fw (tw @MB (tw @hd (tw @b5 (tw @b0 @b1)))))⟩ ?_
  rintro n_a env_a st_a ⟨k,rfl,ale,a6⟩ eL
  have a0:=eL 0 (by kernel_rfl);have a1:=eL 1 (by kernel_rfl)
  simp only[go_sem, ↓reduceIte,Nat.reduceEqDiff,Nat.reduceAdd,Nat.reduceSub,Nat.reduceLeDiff,reduceCtorEq,fw,MB,hd,b5,b0,b1]at a0 a1
  clear eL
  by_cases hk:(k:Int)<(s.ah.length:Int)
  ·have eB:∀{e:Env},(e 6=.int .i64 (IntKind.i64.wrap ((k:Int)+1)))->∃m0,m0<(s.ah.length)-k/\∃k:Nat,m0=(s.ah.length)-k/\k<=(s.ah.length)/\e 6=.int .i64 (k:Int):=fun x1=>⟨_,ab,k+1,rfl,ab,(by rw[x1,cI ab])⟩
   have gV:=F4 (s:=s) (i:=k) ab
   have Qh:(nn s k).dM.length=4:=by rw[Q3 ab];exact h4 _ (List.getElem_mem _)
   generalize nn s k=x at gV Qh
   have hs:=Hd x.dM ab
   rw[dS]at gV
   (repeat(first|((repeat(revert hN;revert N;apply Pn.out));refine wk (tw @a6 (tw @a0 (tw @a1 (tw @hk (tw @gV (tw @MB (tw @hd (tw @hb @Bool.not_true)))))))) ?_;(repeat(refine Pn.mk ?_;intro N hN)))|((try apply Or.inl);refine⟨_,aP.x (hs) (sd (tw @a6 (tw @a0 (tw @a1 (tw @hk (tw @gV (tw @MB (tw @hd (tw @hb @Bool.not_true))))))))),?_⟩;refine hN _ _ ?_;clear hN N)))
   exact eB (sd (tw @a6 (tw @a0 @a1)))
  ·(try((repeat(revert hN;revert N;apply Pn.out));refine wk (tw @a6 (tw @a0 (tw @a1 (tw @hk @MB)))) ?_;(repeat(refine Pn.mk ?_;intro N hN))))
   exact dU (b:=true) (.inl rfl) (sd @Nat.zero_add) rfl
theorem zx (s:ax) (hP:kU s):aP Tryz.prog 9 [.agg (ej s),.agg (ej s)] (.bool true):=by
 refine aP.body fH rfl fun fR n0=>?_
 clear fR
 have hm:=hP.sm
 have h1:=He s.ar hm.s.g hm.s.t hP.set.four
 have h2:=Hg s.dI.ah (by have:=hP.nI.1.CX;omega)
 have hd:∀x:Int,decide (x=x)=true:=fun x=>decide_eq_true rfl
 rw[ao]at h1
 have h3:=aP.cut mixed (.ptr _ [.sl (s.dI.ah.map ai),.int .i64 s.bD] (.ptr _ [.sl (s.dI.ah.map ai),.int .i64 s.bD] .nil)) h1
 have h4:=aP.cut mixed (.ptr _ [.int .i64 s.bD] (.ptr _ [.int .i64 s.bD] .nil)) h2
 simp only[List.cons_append,List.nil_append]at h3 h4
 rw[ej]
 (repeat(first|((repeat(revert hN;revert N;apply Pn.out));refine wk @hd ?_;(repeat(refine Pn.mk ?_;intro N hN)))|((try apply Or.inl);refine⟨_,aP.x (h3) (sd @hd),?_⟩;refine hN _ _ ?_;clear hN N)|((try apply Or.inl);refine⟨_,aP.x (h4) (sd @hd),?_⟩;refine hN _ _ ?_;clear hN N)))
 exact dU (b:=true) (.inl rfl) (sd @Nat.zero_add) rfl
end
def OE (oG:List af) (i:Nat):Int:=(oG.getD i ⟨0,0⟩).fu
def OF (oG:List af) (i:Nat):Int:=(oG.getD i ⟨0,0⟩).eZ
def L3 (oG:List af):af:=⟨Ed (OE oG) oG.length,Ed (OF oG) oG.length⟩
def Pj (oG:List af):af:=⟨Hq (OE oG) oG.length,Hq (OF oG) oG.length⟩
theorem IZ (oG:List af) (h0:0<oG.length) (hl:oG.length<=1048576):aP Tryz.prog 41 [.sl (oG.map aj)] (.fK [.agg (aj (L3 oG)),.agg (aj (Pj oG))]):=by
 intro n
 refine eV fun hs D ι w vs S U A=>?_
 obtain⟨u,us,rfl,g1,g2⟩:=iv A
 have:=oI g2
 simp at this;subst this
 obtain⟨A1,c,rfl,hc,hm,hr⟩:=sL g1
 have yG:(oG.map aj).length=oG.length:=by simp
 rcases hr with hr|⟨b,o,sz,vs,rfl,hD,e8,kn,hv,himm⟩
 ·rw[hr]at yG;simp at yG;omega
 have Ae:sz=2:=by
  have:=e8 (aj oG[0]) (List.mem_map.2 ⟨_,List.getElem_mem h0,rfl⟩)
  exact this.symm
 subst Ae
 have fS:∀i,i<oG.length->(oG.map aj)[i]? =some [.int .i64 (OE oG i),.int .i64 (OF oG i)]:=fun i hi=>getD_map (d:=⟨0,0⟩) aj hi
 have hX:∀i,i<oG.length->w.cell? ⟨b,o+i*2,none⟩=some (.int .i64 (OE oG i)):=fun i hi=>by
  have h1:=hv i 0 (by rw[yG];exact hi) ab
  have h2:=himm i 0 _ _ (fS i hi) rfl
  generalize vs i 0=v at h1 h2
  cases h2
  exact h1
 have hY:∀i,i<oG.length->w.cell? ⟨b,o+i*2+1,none⟩=some (.int .i64 (OF oG i)):=fun i hi=>by
  have h1:=hv i 1 (by rw[yG];exact hi) ab
  have h2:=himm i 1 _ _ (fS i hi) rfl
  generalize vs i 1=v at h1 h2
  cases h2
  exact h1
 rw[yG]at hc ⊢
 refine(Dl w b o oG.length c (OE oG) (OF oG) h0 hc hX hY (S.dead b hD) hl).mono ?_
 rintro e w' ⟨rfl,hb⟩
 exact⟨.fK [.agg (aj (L3 oG)),.agg (aj (Pj oG))],_,n,D,ι,_,rfl,⟨_,by simp only[aj,gp,zX,cV,dH,eW,Option.map_some],rfl⟩,Step.stay S hb.block hb.size hb.os hb.tape hb.output (fun _ h=>h) (fun _ h=>.inl h) (fun _ _ h=>h),
  S.stay hb.block hb.size (fun _ h=>h) (fun b hd=>Nat.lt_of_lt_of_le (S.dead b hd) hb.size) (fun _ h=>.inl h) (fun _ _ h=>h),U,Nat.le_refl _,CC (CA _ _ _ _) (CA _ _ _ _)⟩
section
set_option maxRecDepth 100000
set_option maxHeartbeats 8000000
theorem KC (l:List aa) (h0:0<l.length) (hl:l.length<=1048576):aP Tryz.prog 40 [.agg [.sl (l.map ai)]] (.sl ((l.map (·.cG)).map aj)):=by
 refine aP.body fH rfl fun fR n0=>?_
 clear fR
 have fw:(l.map ai).length=l.length:=by simp
 (try((repeat(revert hN;revert N;apply Pn.out));refine wk @fw ?_;(repeat(refine Pn.mk ?_;intro N hN))))
 refine cU (fun n env st=>∃k:Nat,n=(l.length)-k/\k<=(l.length)/\env 9=.int .i64 (k:Int)/\(((k=0/\env 3=.bB)∨∃u:Id,env 3=.own u 0 k/\st.get u=some ⟨true,2,((l.take k).map (·.cG)).map aj⟩/\u.cW<st.next/\0<k))) (l.length) ⟨0,ab,ab,sl @fw,by exact .inl ⟨rfl,sd @Nat.zero_add⟩⟩ ?_
 rintro n_a env_a st_a ⟨k,rfl,ale,a9,qn⟩ eL
 have a7:=eL 7 (by kernel_rfl);have a8:=eL 8 (by kernel_rfl)
 simp only[go_sem, ↓reduceIte,Nat.reduceEqDiff,Nat.reduceAdd,Nat.reduceSub,Nat.reduceLeDiff,reduceCtorEq,fw]at a7 a8
 clear eL
 by_cases hk:(k:Int)<(l.length:Int)
 ·have eB:∀{e:Env} {gg:Rows} {nx:Nat},(e 9=.int .i64 (IntKind.i64.wrap ((k:Int)+1)))->((((k+1)=0/\e 3=.bB)∨∃u:Id,e 3=.own u 0 (k+1)/\gg u=some ⟨true,2,((l.take (k+1)).map (·.cG)).map aj⟩/\u.cW<nx/\0<(k+1)))->∃m0,m0<(l.length)-k/\∃k:Nat,m0=(l.length)-k/\k<=(l.length)/\e 9=.int .i64 (k:Int)/\(((k=0/\e 3=.bB)∨∃u:Id,e 3=.own u 0 k/\gg u=some ⟨true,2,((l.take k).map (·.cG)).map aj⟩/\u.cW<nx/\0<k)):=fun x1 x2=>⟨_,ab,k+1,rfl,ab,(by rw[x1,cI ab]),x2⟩
  have jB:k<l.length:=ab
  have gV:=jn jB
  have qS:k<=16777215:=ab
  have pL:(l.take (k+1)).map (·.cG)=(l.take k).map (·.cG)++[(cP l k).cG]:=by rw[rN jB,List.map_append];rfl
  have Tf:(((l.take k).map (·.cG)).map aj).length=k:=by simp;omega
  generalize cP l k=x at *
  rw[ai]at gV
  have RE:((l.take k).map (·.cG)++[x.cG]).map aj=((l.take k).map (·.cG)).map aj++[aj x.cG]:=by simp
  rw[aj]at RE
  rcases qn with⟨rfl,a3⟩|⟨u,a3,gu,u1,u3⟩
  ·(try((repeat(revert hN;revert N;apply Pn.out));refine wk (tw @a9 (tw @a7 (tw @a8 (tw @hk (tw @gV (tw @fw (tw @a3 @qS))))))) ?_;(repeat(refine Pn.mk ?_;intro N hN))))
   exact eB (sd (tw @a9 (tw @a7 @a8))) (by exact .inr ⟨⟨40005004,st_a.next+1+1⟩,sl @Nat.zero_add,by rw[pL,RE];simp only[go_sem, ↓reduceIte,Nat.reduceEqDiff,Nat.reduceAdd,Nat.reduceSub,Nat.reduceLeDiff,reduceCtorEq]<;>rfl,bL,ab⟩)
  ·have vu:=dE u1
   (try((repeat(revert hN;revert N;apply Pn.out));refine wk (tw @a9 (tw @a7 (tw @a8 (tw @hk (tw @gV (tw @fw (tw @a3 (tw @gu (tw @vu (tw @Tf @qS)))))))))) ?_;(repeat(refine Pn.mk ?_;intro N hN))))
   exact eB (sd (tw @a9 (tw @a7 @a8))) (by exact .inr ⟨⟨40005004,st_a.next+1+1⟩,sl @Nat.zero_add,by rw[pL,RE];simp only[go_sem, ↓reduceIte,Nat.reduceEqDiff,Nat.reduceAdd,Nat.reduceSub,Nat.reduceLeDiff,reduceCtorEq,vu]<;>rfl,bL,ab⟩)
 ·have jB:k=l.length:=ab
  subst jB
  rcases qn with⟨hz,_⟩|⟨u,a3,gu,u1,u3⟩
  ·omega
  rw[List.take_length]at gu
  (try((repeat(revert hN;revert N;apply Pn.out));refine wk (tw @a9 (tw @a7 (tw @a8 (tw @hk @a3)))) ?_;(repeat(refine Pn.mk ?_;intro N hN))))
  exact zi (.inl rfl) (r0:=.own u 0 l.length) (sd @a3) (fN (e:=aj) (n:=5) gu (by simp) fun x=>by simp[aj,cV,dH,eW])
theorem Je (l:List af) (hl:l.length<=1048576):aP Tryz.prog 42 [.sl (l.map aj),.sl (l.map aj)] (.bool true):=by
 refine aP.body fH rfl fun fR n0=>?_
 clear fR
 have fw:(l.map aj).length=l.length:=by simp
 have hd:∀x:Int,decide (x=x)=true:=fun x=>decide_eq_true rfl
 (try((repeat(revert hN;revert N;apply Pn.out));refine wk (tw @fw @hd) ?_;(repeat(refine Pn.mk ?_;intro N hN))))
 refine cU (fun n env st=>∃k:Nat,n=(l.length)-k/\k<=(l.length)/\env 13=.int .i64 (k:Int)) (l.length) ⟨0,ab,ab,sl (tw @fw @hd)⟩ ?_
 rintro n_b env_b st_b ⟨k,rfl,ble,IK⟩ fA
 have b0:=fA 0 (by kernel_rfl);have b1:=fA 1 (by kernel_rfl);have UM:=fA 12 (by kernel_rfl)
 simp only[go_sem, ↓reduceIte,Nat.reduceEqDiff,Nat.reduceAdd,Nat.reduceSub,Nat.reduceLeDiff,reduceCtorEq,fw,hd]at b0 b1 UM
 clear fA
 by_cases hk:(k:Int)<(l.length:Int)
 ·have fP:∀{e:Env},(e 13=.int .i64 (IntKind.i64.wrap ((k:Int)+1)))->∃m0,m0<(l.length)-k/\∃k:Nat,m0=(l.length)-k/\k<=(l.length)/\e 13=.int .i64 (k:Int):=fun x1=>⟨_,ab,k+1,rfl,ab,(by rw[x1,cI ab])⟩
  have gV:(l.map aj)[k]? =some [.int .i64 (OE l k),.int .i64 (OF l k)]:=getD_map (d:=⟨0,0⟩) aj ab
  (try((repeat(revert hN;revert N;apply Pn.out));refine wk (tw @IK (tw @b0 (tw @b1 (tw @UM (tw @hk (tw @gV (tw @fw (tw @hd (tw @Bool.and_true @Bool.not_true))))))))) ?_;(repeat(refine Pn.mk ?_;intro N hN))))
  exact fP (sd (tw @IK (tw @b0 (tw @b1 @UM))))
 ·(try((repeat(revert hN;revert N;apply Pn.out));refine wk (tw @IK (tw @b0 (tw @b1 (tw @UM (tw @hk @fw))))) ?_;(repeat(refine Pn.mk ?_;intro N hN))))
  exact dU (b:=true) (.inl rfl) (sd @Nat.zero_add) rfl
theorem Cy (W H:Nat) (w1:1<=W) (h1:1<=H) (hW:W<8) (hH:H<8):aP Tryz.prog 43 [.agg [.int .i64 0,.int .i64 0],.agg [.int .i64 ((W:Int)-1),.int .i64 ((H:Int)-1)]] (.sl ((ib W H).map aj)):=fun n=>by
 refine aS _ _ _ _ _ (fun r σ' hq=>?_) (Cx W H w1 h1 hW hH ⟨fun _=>none,n⟩)
 obtain⟨u,rfl,gu,_⟩:=hq
 exact⟨_,fN (e:=aj) (n:=5) gu (by rw[lk]) fun x=>by simp[aj,cV,dH,eW],rfl⟩
theorem Cl (X:Nat->Int) (n:Nat) (h:∀i,i<n->0<=X i) (h0:X 0=0):Ed X n=0:=by
 induction n with
 |zero=>exact h0
 |succ k ih=>
  have h1:=h k ab
  rw[Ed,ih fun i hi=>h i ab]
  omega
theorem IV (W H:Nat) (w1:1<=W) (h1:1<=H):L3 (ib W H)=⟨0,0⟩:=by
 have hm:∀i,i<(ib W H).length->(ib W H).getD i ⟨0,0⟩∈ib W H:=fun i hi=>by
  rw[List.getD_eq_getElem?_getD,List.getElem?_eq_getElem hi];exact List.getElem_mem hi
 have Fz:(ib W H).getD 0 ⟨0,0⟩=⟨0,0⟩:=by
  obtain⟨W,rfl⟩:∃k,W=k+1:=⟨W-1,ab⟩
  obtain⟨H,rfl⟩:∃k,H=k+1:=⟨H-1,ab⟩
  unfold ib
  rw[List.range_succ_eq_map (n:=H),List.flatMap_cons,List.range_succ_eq_map (n:=W)]
  rfl
 unfold L3
 rw[Cl (OE (ib W H)) _ (fun i hi=>(uw.1 (hm i hi)).1) (by unfold OE;rw[Fz]),Cl (OF (ib W H)) _ (fun i hi=>(uw.1 (hm i hi)).2.2.1) (by unfold OF;rw[Fz])]
theorem Mj (W H:Nat) (c r f:Int):(zU W H c r f).map (·.cG)=ib W H:=by unfold zU;rw[List.map_map];exact List.map_id _
theorem uJ (W H:Nat) (w1:1<=W) (h1:1<=H) (hW:W<8) (hH:H<8) (c r f:Int) (hF:pE (zU W H c r f)=true):aP Tryz.prog 13 [.agg [.sl ((zU W H c r f).map ai)],.int .i64 (W:Int),.int .i64 (H:Int)] (.bool true):=by
 have hWH:W*H<=7*7:=Nat.mul_le_mul ab ab
 have hWH0:0<W*H:=Nat.mul_pos w1 h1
 have hl:=Fq W H c r f
 have i1:=gS (W:Int) 1 500
 have i2:=gS (H:Int) 1 500
 rw[lh (show(1:Int)<=W by omega) (show(W:Int)<=500 by omega)]at i1
 rw[lh (show(1:Int)<=H by omega) (show(H:Int)<=500 by omega)]at i2
 have o1:=yz (zU W H c r f)
 rw[hF]at o1
 have o2:=KC (zU W H c r f) ab ab
 rw[Mj]at o2
 have o3:=IZ (ib W H) (by rw[lk];omega) (by rw[lk];omega)
 rw[IV W H w1 h1]at o3
 have o4:=Cy W H w1 h1 hW hH
 have o5:=Je (ib W H) (by rw[lk];omega)
 have fw:((zU W H c r f).map ai).length=W*H:=by rw[List.length_map,hl]
 have e1:(W:Int)*(H:Int)=((W*H:Nat):Int):=by simp
 have e2:IntKind.i64.wrap ((W:Int)*(H:Int))=((W*H:Nat):Int):=by rw[e1];exact dy ab
 have e3:∀x:Int,decide (x=x)=true:=fun x=>decide_eq_true rfl
 have e4:IntKind.i64.wrap (0+(W:Int))=(W:Int):=by rw[Int.zero_add];exact dy ab
 have e5:IntKind.i64.wrap ((W:Int)-1)=(W:Int)-1:=dy ab
 have e6:IntKind.i64.wrap (0+(H:Int))=(H:Int):=by rw[Int.zero_add];exact dy ab
 have e7:IntKind.i64.wrap ((H:Int)-1)=(H:Int)-1:=dy ab
 refine aP.body fH rfl fun fR n0=>?_
 clear fR
 generalize Pj (ib W H)=B at o3
 rw[aj,aj]at o3
 (try dsimp only at o3)
 (repeat(first|((repeat(revert hN;revert N;apply Pn.out));refine wk (tw @fw (tw @e2 (tw @e3 (tw @e4 (tw @e5 (tw @e6 @e7)))))) ?_;(repeat(refine Pn.mk ?_;intro N hN)))|((try apply Or.inl);refine⟨_,aP.x (i1) (sd (tw @fw (tw @e2 (tw @e3 (tw @e4 (tw @e5 (tw @e6 @e7))))))),?_⟩;refine hN _ _ ?_;clear hN N)|((try apply Or.inl);refine⟨_,aP.x (i2) (sd (tw @fw (tw @e2 (tw @e3 (tw @e4 (tw @e5 (tw @e6 @e7))))))),?_⟩;refine hN _ _ ?_;clear hN N)|((try apply Or.inl);refine⟨_,aP.x (o1) (sd (tw @fw (tw @e2 (tw @e3 (tw @e4 (tw @e5 (tw @e6 @e7))))))),?_⟩;refine hN _ _ ?_;clear hN N)|((try apply Or.inl);refine⟨_,aP.x (o2) (sd (tw @fw (tw @e2 (tw @e3 (tw @e4 (tw @e5 (tw @e6 @e7))))))),?_⟩;refine hN _ _ ?_;clear hN N)|((try apply Or.inl);refine⟨_,aP.x (o3) (sd (tw @fw (tw @e2 (tw @e3 (tw @e4 (tw @e5 (tw @e6 @e7))))))),?_⟩;refine hN _ _ ?_;clear hN N)|((try apply Or.inl);refine⟨_,aP.x (o4) (sd (tw @fw (tw @e2 (tw @e3 (tw @e4 (tw @e5 (tw @e6 @e7))))))),?_⟩;refine hN _ _ ?_;clear hN N)|((try apply Or.inl);refine⟨_,aP.x (o5) (sd (tw @fw (tw @e2 (tw @e3 (tw @e4 (tw @e5 (tw @e6 @e7))))))),?_⟩;refine hN _ _ ?_;clear hN N)))
 exact dU (b:=true) (.inl rfl) (sd @Nat.zero_add) rfl
end
theorem Hj (code more:List Int) (hc:∀b∈code,0<=b/\b<=255) (hm:∀b∈more,0<=b/\b<=255) (σ:aq) (hE:fF σ.get) (qq:1<=σ.next):Call Tryz.prog 3 [.sl (code.map iC),.sl (more.map iC)] σ fun r _=>r=.bool true:=by
 refine eU fH rfl fun fR=>?_
 clear fR
 have h1:=Fm code
 have h2:=Fm more
 by_cases c1:4096<code.length
 ·rw[decide_eq_true c1]at h1
  (repeat(first|((repeat(revert hN;revert N;apply Pn.out));refine wk @Nat.zero_add ?_;(repeat(refine Pn.mk ?_;intro N hN)))|((try apply Or.inl);refine⟨_,aP.x (h1) (sd @Nat.zero_add),?_⟩;refine hN _ _ ?_;clear hN N)))
  exact eK (.inl rfl) (vs:=[.bool true]) (sd @Nat.zero_add) rfl
 rw[decide_eq_false c1]at h1
 by_cases c2:4096<more.length
 ·rw[decide_eq_true c2]at h2
  (repeat(first|((repeat(revert hN;revert N;apply Pn.out));refine wk @Nat.zero_add ?_;(repeat(refine Pn.mk ?_;intro N hN)))|((try apply Or.inl);refine⟨_,aP.x (h1) (sd @Nat.zero_add),?_⟩;refine hN _ _ ?_;clear hN N)|((try apply Or.inl);refine⟨_,aP.x (h2) (sd @Nat.zero_add),?_⟩;refine hN _ _ ?_;clear hN N)))
  exact eK (.inl rfl) (vs:=[.bool true]) (sd @Nat.zero_add) rfl
 rw[decide_eq_false c2]at h2
 (repeat(first|((repeat(revert hN;revert N;apply Pn.out));refine wk @Nat.zero_add ?_;(repeat(refine Pn.mk ?_;intro N hN)))|((try apply Or.inl);refine⟨_,aP.x (h1) (sd @Nat.zero_add),?_⟩;refine hN _ _ ?_;clear hN N)|((try apply Or.inl);refine⟨_,aP.x (h2) (sd @Nat.zero_add),?_⟩;refine hN _ _ ?_;clear hN N)))
 refine .inr (aS _ _ _ _ _ (fun r σ1 hq=>?_) (pA.x mixed (x7 code hc ab 7 ab) (Sv (bR _ _ _) (aL _ _ _ _))))
 obtain⟨⟨w,rfl,hw⟩,rfl⟩:=hq
 refine hN _ _ ?_
 clear hN N
 have e1:IntKind.i64.wrap (1+(w:Int))=((w+1:Nat):Int):=by rw[show 1+(w:Int)=((w+1:Nat):Int) by omega];exact dy ab
 (try((repeat(revert hN;revert N;apply Pn.out));refine wk @e1 ?_;(repeat(refine Pn.mk ?_;intro N hN))))
 refine .inr (aS _ _ _ _ _ (fun r σ1 hq=>?_) (pA.x mixed (x7 more hm ab 7 ab) (Sv (bR _ _ _) (aL _ _ _ _))))
 obtain⟨⟨h,rfl,hh⟩,rfl⟩:=hq
 refine hN _ _ ?_
 clear hN N
 have e2:IntKind.i64.wrap (1+(h:Int))=((h+1:Nat):Int):=by rw[show 1+(h:Int)=((h+1:Nat):Int) by omega];exact dy ab
 obtain⟨W,hWe⟩:∃W,w+1=W:=⟨_,rfl⟩
 obtain⟨H,hHe⟩:∃H,h+1=H:=⟨_,rfl⟩
 rw[hWe]at e1 ⊢
 rw[hHe]at e2
 have hW:W<8:=ab
 have hH:H<8:=ab
 have w1:1<=W:=ab
 have h1:1<=H:=ab
 have p1:=xw W H hW hH w1 h1
 have p2:=xx W H hW hH w1 h1
 have hP:=Mn hW hH w1 h1
 have Ry:=Mo hW hH w1 h1
 have p3:=zx (pV W H) hP
 have hn:=hP.set.names
 have hm:=hP.sm
 have Vi:=Ry.set.names
 have yH:=Ry.sm
 have sv:0<(pV W H).ar.bU.length:=by show 0<(jj (H-1) (W-1)).length;rw[ir];omega
 have Vp:=uO (pV W H).ar hn hP.set sv hP.set.four
 obtain⟨sch,ML,yJ,LJ⟩:=xz more ‹_› ab
 have hsr:∀x∈sch,0<=x/\x<=1000:=fun x hx=>by have:=yJ x hx;omega
 have MH:=fun(σ:aq) (hE:fF σ.get) (h1:1<=σ.next) {args:List AV} (hv:er (dW σ.get) 6 args=some [.agg (ej (pV W H)),.sl (sch.map bE)])=>Iv (pV W H) hn hm hE h1 hsr ab hv
 have DW:=fun(σ:aq) (hE:fF σ.get) (h1:1<=σ.next) {args:List AV} (hv:er (dW σ.get) 6 args=some [.agg (ej (PH W H)),.sl (sch.map bE)])=>Iv (PH W H) Vi yH hE h1 hsr ab hv
 obtain⟨es,xt,Qc⟩:=td hP (Od w1 h1) hW hH sch
 obtain⟨ds,My,jO⟩:=td Ry (Sr w1 h1) hH hW sch
 have S6:GO (pV W H) sch 501=.fK [RS ai es,.agg [.sl ((zU W H 0 ((H:Int)-1) ((W:Int)+H-1)).map ai)],.int .i64 0]:=by rw[GO,rJ.2 hP,xt,<-Qc];rfl
 have S7:GO (PH W H) sch 501=.fK [RS ai ds,.agg [.sl ((zU H W ((H:Int)-1) 0 ((W:Int)+H-1)).map ai)],.int .i64 0]:=by rw[GO,rJ.2 Ry,My,<-jO];rfl
 have q1:=uJ W H w1 h1 hW hH 0 ((H:Int)-1) ((W:Int)+H-1) (by rw[<-Qc];exact sb.2 (jS hP (es:=es) es.length (Nat.le_refl _) (sj xt).1).1)
 have q2:=uJ H W h1 w1 hH hW ((H:Int)-1) 0 ((W:Int)+H-1) (by rw[<-jO];exact sb.2 (jS Ry (es:=ds) ds.length (Nat.le_refl _) (sj My).1).1)
 rw[S6]at MH
 rw[S7]at DW
 have hd:∀x:Int,decide (x=x)=true:=fun x=>decide_eq_true rfl
 unfold PH at DW
 clear S6 S7 xt My Qc jO Ry Vi yH sv
 generalize pV W H=s at *
 generalize zU W H 0 ((H:Int)-1) ((W:Int)+H-1)=A at *
 generalize zU H W ((H:Int)-1) 0 ((W:Int)+H-1)=B at *
 obtain⟨v,hv⟩:∃v,RS ai es=v:=⟨_,rfl⟩
 obtain⟨y,hy⟩:∃y,RS ai ds=y:=⟨_,rfl⟩
 rw[hv]at MH
 rw[hy]at DW
 clear hv hy
 rw[ej]at p1 p2 p3 MH
 (try dsimp only at DW)
 rw[ao]at Vp
 (repeat(first|((repeat(revert hN;revert N;apply Pn.out));refine wk (tw @e1 (tw @e2 @hd)) ?_;(repeat(refine Pn.mk ?_;intro N hN)))|((try apply Or.inl);refine⟨_,aP.x (p1) (sd (tw @e1 (tw @e2 @hd))),?_⟩;refine hN _ _ ?_;clear hN N)|((try apply Or.inl);refine⟨_,aP.x (p2) (sd (tw @e1 (tw @e2 @hd))),?_⟩;refine hN _ _ ?_;clear hN N)|((try apply Or.inl);refine⟨_,aP.x (p3) (sd (tw @e1 (tw @e2 @hd))),?_⟩;refine hN _ _ ?_;clear hN N)|((try apply Or.inl);refine⟨_,aP.x (ML) (sd (tw @e1 (tw @e2 @hd))),?_⟩;refine hN _ _ ?_;clear hN N)))
 first|refine .inl ⟨_,MH _ ?_ ?_ (qm (by rw[<-ej];exact uk _ _) (bR _ _ _)),?_⟩|refine⟨_,MH _ ?_ ?_ (qm (by rw[<-ej];exact uk _ _) (bR _ _ _)),?_⟩
 ·exact hE.frame (n:=1) (Nat.le_refl _) fun x hx hs=>by
   have z1:=dE (i:=x) (n:=σ.next) ab
   rcases hs with h|h<;>simp only[go_sem, ↓reduceIte,Nat.reduceEqDiff,Nat.reduceAdd,Nat.reduceSub,Nat.reduceLeDiff,reduceCtorEq,z1,h]
 ·(try dsimp only);omega
 refine hN _ _ ?_
 clear hN N
 (try((repeat(revert hN;revert N;apply Pn.out));refine wk @hd ?_;(repeat(refine Pn.mk ?_;intro N hN))))
 refine .inr (aS _ _ _ _ _ (fun r σ2 hq=>?_) (uF.x mixed Vp))
 obtain⟨rfl,rfl⟩:=hq
 refine hN _ _ ?_
 clear hN N
 rw[ao]
 (repeat(first|((repeat(revert hN;revert N;apply Pn.out));refine wk @hd ?_;(repeat(refine Pn.mk ?_;intro N hN)))|((try apply Or.inl);refine⟨_,aP.x (q1) (sd @hd),?_⟩;refine hN _ _ ?_;clear hN N)|((try apply Or.inl);refine⟨_,aP.x (ML) (sd @hd),?_⟩;refine hN _ _ ?_;clear hN N)))
 first|refine .inl ⟨_,DW _ ?_ ?_ (qm (by exact uk _ (⟨fE s.ar,s.dI,2⟩:ax)) (bR _ _ _)),?_⟩|refine⟨_,DW _ ?_ ?_ (qm (by exact uk _ (⟨fE s.ar,s.dI,2⟩:ax)) (bR _ _ _)),?_⟩
 ·exact hE.frame (n:=1) (Nat.le_refl _) fun x hx hs=>by
   have z1:=dE (i:=x) (n:=σ.next) ab
   have z2:=dE (i:=x) (n:=σ.next+1+1+1+1+1+1+1) ab
   rcases hs with h|h<;>simp only[go_sem, ↓reduceIte,Nat.reduceEqDiff,Nat.reduceAdd,Nat.reduceSub,Nat.reduceLeDiff,reduceCtorEq,z1,z2,h]
 ·(try dsimp only);omega
 refine hN _ _ ?_
 clear hN N
 (repeat(first|((repeat(revert hN;revert N;apply Pn.out));refine wk @hd ?_;(repeat(refine Pn.mk ?_;intro N hN)))|((try apply Or.inl);refine⟨_,aP.x (q2) (sd @hd),?_⟩;refine hN _ _ ?_;clear hN N)))
 exact eK (.inl rfl) (vs:=[.bool true]) (sd @Nat.zero_add) rfl
end Go.Proofs.YtakkdjfmiffbfaaGreatDoor.V

namespace Go.Proofs.YtakkdjfmiffbfaaGreatDoor
open Go.ChangeShapes Go.WideShapes Go.ChangeAt Go.RowKit Go.Deep
section
variable {H:Type} {enc:TypeId×Value->H} {P:Program} {w:World}
theorem mo.TM {α:Type} {rep:World->List Nat->List Value->α->Prop} {sz:Nat} {w:World} {b o len cap:Nat} (oa:Nat->List Value) (fs:Nat->List Nat) (ds:Nat->α) (hc:len<=cap) (hm:cap<=maxLen)
  (hl:∀i,i<len->(oa i).length=sz) (hr:∀i,i<len->rep w (fs i) (oa i) (ds i)) (BP:∀i,i<len->∀j u,(oa i)[j]? =some u->w.cell? ⟨b,o+(i*sz+j),none⟩=some u):
  mo rep sz w ([b]++((List.range len).map fs).flatten) (.slice (some ⟨b,o,none⟩) len cap) ((List.range len).map ds):=by
 refine⟨(List.range len).map oa,(List.range len).map fs,[b],rfl,⟨some ⟨b,o,none⟩,cap,by simp,by simpa using hc,hm,.inr ⟨b,o,rfl,rfl,fun j u hj=>?_⟩⟩,by simp,by simp,fun i cs f d h1 h2 h3=>?_⟩
 ·have hlen:∀cs∈(List.range len).map oa,cs.length=sz:=fun cs eb=>by
   obtain⟨i,hi,rfl⟩:=List.mem_map.1 eb
   exact hl i (List.mem_range.1 hi)
  have iZ:=(List.getElem?_eq_some_iff.1 hj).1
  have JD:((List.range len).map oa).flatten.length=len*sz:=by
   rw[List.length_flatten,List.map_map]
   have:∀(l:List Nat),(∀i∈l,i<len)->(l.map (List.length∘oa)).sum=l.length*sz:=by
    intro l
    induction l with
    |nil=>intro _;simp
    |cons a l ih=>intro h;rw[List.map_cons,List.sum_cons,ih fun i hi=>h i (List.mem_cons_of_mem _ hi)];simp only[Function.comp,hl a (h a (by simp)),List.length_cons,Nat.add_mul];omega
   rw[this _ fun i hi=>List.mem_range.1 hi,List.length_range]
  rw[JD]at iZ
  have G5:0<sz:=by
   rcases Nat.eq_zero_or_pos sz with h|h
   ·subst h;simp at iZ
   ·exact h
  have hi:j / sz<len:=(Nat.div_lt_iff_lt_mul G5).2 iZ
  have Vh:j % sz<sz:=Nat.mod_lt _ G5
  have Tb:j=(j / sz)*sz+j % sz:=by rw[Nat.mul_comm];exact(Nat.div_add_mod j sz).symm
  rw[Tb,s9 hlen (i:=j / sz) (cs:=oa (j / sz)) (by simp[hi]) Vh]at hj
  rw[Tb]
  have:=BP (j / sz) hi (j % sz) u hj
  rw[<-Tb]at this ⊢
  exact this
 ·have hi:i<len:=by
   have:=(List.getElem?_eq_some_iff.1 h1).1
   simpa using this
  simp[hi]at h1 h2 h3
  subst h1 h2 h3
  exact⟨hr i hi,hl i hi⟩
theorem jY (b o k:Nat):(⟨b,o,none⟩:Addr).add k=⟨b,o+k,none⟩:=by
 unfold Addr.add;split
 ·rename_i h;subst h;rfl
 ·rfl
theorem HX {α:Type} {rep:World->List Nat->List Value->α->Prop} {Q:α->Prop} {t e:TypeId} {sz fuel:Nat} {cs:List Value} {x:DataW H×List MemPlace} (ht:P.underlying t=some (.slice e)) (hC:P.cellsOf e=sz) (G5:0<sz)
  (h:DataW.trod enc P w 0 (fun _=>true) true fuel t cs=some x) (hel:∀n mA y,mA.length=sz->DataW.trod enc P w 0 (fun _=>true) true n e mA=some y->∃f d,jX f 0 w.heap.size/\rep w f mA d/\Q d):
  ∃A n c f xs,cs=[.slice A n c]/\jX f 0 w.heap.size/\mo rep sz w f (.slice A n c) xs/\∀d∈xs,Q d:=by
 rcases open_slice ht h with⟨rfl,_⟩|⟨a,len,cap,m,n,D,Pl,rfl,_,hl,hm,Qk,_,hi⟩
 ·exact⟨none,0,0,[],[],rfl,jX.nil _ _,mo.nil _ _ _,fun d h=>by cases h⟩
 rw[hC]at hi
 simp only[if_true]at Qk
 by_cases h0:len=0
 ·subst h0
  exact⟨some a,0,cap,[],[],rfl,jX.nil _ _,⟨[],[],[],rfl,⟨some a,cap,rfl,Nat.zero_le _,hm,.inl ⟨rfl,rfl⟩⟩,rfl,rfl,fun i cs f d hc=>by simp at hc⟩,fun d h=>by cases h⟩
 obtain⟨b,o,sp⟩:=a
 have cell0:∃v,w.cell? ⟨b,o,sp⟩=some v:=by
  obtain⟨mA,hc,_⟩:=hi 0 (by omega)
  obtain⟨_,mH,BP⟩:=World.cells?_some hc
  refine⟨mA[0]'(by omega),?_⟩
  have:=BP 0 G5
  rw[List.getElem?_eq_getElem (by omega)]at this
  simpa[Addr.add]using this
 obtain⟨v0,yL⟩:=cell0
 have hb:b<w.heap.size:=World.block_lt_of_cell? w _ yL
 have hsp:sp=none:=by
  unfold World.cell? at yL
  split at yL
  ·split at yL
   ·cases yL
   ·rename_i h;simpa using h
  ·cases yL
 subst hsp
 have key:∀i,i<len->∃mA f d,mA.length=sz/\jX f 0 w.heap.size/\rep w f mA d/\Q d/\∀j u,mA[j]? =some u->w.cell? ⟨b,o+(i*sz+j),none⟩=some u:=fun i qp=>by
  obtain⟨mA,hc,htr⟩:=hi i (by omega)
  obtain⟨_,mH,BP⟩:=World.cells?_some hc
  obtain⟨f,d,h1,h2,h3⟩:=hel n mA _ mH htr
  refine⟨mA,f,d,mH,h1,h2,h3,fun j u hj=>?_⟩
  have iZ:=(List.getElem?_eq_some_iff.1 hj).1
  have:=BP j (by omega)
  rw[hj]at this
  rw[<-this,Go.Deep.add_add,jY]
 have:Nonempty α:=by
  obtain⟨_,_,d,_⟩:=key 0 (by omega)
  exact⟨d⟩
 let cf:Nat->List Value:=fun i=>if hi:i<len then(key i hi).choose else[]
 let ff:Nat->List Nat:=fun i=>if hi:i<len then(key i hi).choose_spec.choose else[]
 let df:Nat->α:=fun i=>if hi:i<len then(key i hi).choose_spec.choose_spec.choose else Classical.choice this
 have eJ:∀i,i<len->(cf i).length=sz/\jX (ff i) 0 w.heap.size/\rep w (ff i) (cf i) (df i)/\Q (df i)/\∀j u,(cf i)[j]? =some u->w.cell? ⟨b,o+(i*sz+j),none⟩=some u:=fun i hi=>by
  have:=(key i hi).choose_spec.choose_spec.choose_spec
  simp only[cf,ff,df,dif_pos hi]
  exact this
 refine⟨some ⟨b,o,none⟩,len,cap,_,(List.range len).map df,rfl,?_,mo.TM cf ff df hl hm (fun i hi=>(eJ i hi).1) (fun i hi=>(eJ i hi).2.2.1) (fun i hi=>(eJ i hi).2.2.2.2),fun d hd=>?_⟩
 ·intro x hx
  rcases List.mem_append.1 hx with hx|hx
  ·simp at hx;subst hx;exact⟨Nat.zero_le _,hb⟩
  ·obtain⟨l,Tf,Vx⟩:=List.mem_flatten.1 hx
   obtain⟨i,hi,rfl⟩:=List.mem_map.1 Tf
   exact(eJ i (List.mem_range.1 hi)).2.1 x Vx
 ·obtain⟨i,hi,rfl⟩:=List.mem_map.1 hd
  exact(eJ i (List.mem_range.1 hi)).2.2.2.1
end
section
variable {H:Type} {enc:TypeId×Value->H} {w:World} {fuel:Nat} {cs:List Value} {x:DataW H×List MemPlace}
abbrev TT (enc:TypeId×Value->H) (w:World) (fuel t:Nat) (cs:List Value) (x:DataW H×List MemPlace):Prop:=DataW.trod enc Tryz.prog w 0 (fun _=>true) true fuel t cs=some x
end
end Go.Proofs.YtakkdjfmiffbfaaGreatDoor

namespace Go.Proofs.YtakkdjfmiffbfaaGreatDoor
open Go.ChangeShapes Go.WideShapes Go.ChangeAt Go.RowKit V
def uN:=Flat (fun b:Int=>[Value.int .u8 b])
theorem AX {P:Program} {w:World} {D:Nat->Prop} {f:List Nat} {v:Value} {xs:List Int} (h:mo uN 1 w f v xs) (hD:∀b∈f,D b):jK P w D (.sl (xs.map iC)) v:=
 K0 h hD (fun _ _=>rfl) (fun x _ a ha=>by simp[iC]at ha;rcases ha with rfl<;>rfl) fun x _ f' cs hr hf=>by
  obtain⟨_,rfl⟩:=hr
  intro j a ha
  match j,ha with
  |0,ha=>simp[iC]at ha;subst ha;exact⟨_,rfl,.int _ _⟩
  |j+1,ha=>simp[iC]at ha
theorem FX {H:Type} {enc:TypeId×Value->H} {w:World} {fuel:Nat} {cs:List Value} {x:DataW H×List MemPlace} (h:TT enc w fuel 22 cs x):∃A n c f xs,cs=[.slice A n c]/\jX f 0 w.heap.size/\mo uN 1 w f (.slice A n c) xs/\∀b∈xs,0<=b/\b<=255:=
 HX (rep:=uN) (Q:=fun b=>0<=b/\b<=255) Tryz.underlying22 (sz:=1) (by kernel_rfl) (by omega) h fun n mA y hl hy=>by
  obtain⟨b,rfl,_,hw⟩:=DataW.trod_int Tryz.underlying5 hy
  exact⟨[],b,jX.nil _ _,⟨rfl,rfl⟩,by simpa[Lit.wf,IntKind.min,IntKind.max,IntKind.signed,IntKind.bits]using hw⟩
theorem T5:ownKnob Tryz.prog.godebug=none:=by kernel_rfl
theorem J9:laidOutB Tryz.prog=true:=by kernel_rfl
theorem Jf:fF (xI 0 1 tE sT sN):=⟨⟨_,Px 0 1 tE sT sN⟩,_,Py (by decide) tE sT sN⟩
theorem GL (os:Os) (started:os.Started) (H:Type) (enc:TypeId×Value->H):
  ReturnsInHanded {} Tryz.checked os 3 .any (fun w args=>(Rows.fnFrameSpec.pre enc Tryz.prog Tryz.f3 [] false w args/\laidMetH Tryz.prog Rows.fnFrameRow.laid w)/\sizedMet enc Tryz.prog Tryz.f3 (OpenSpec.ofChange Rows.fnFrameSpec) false w args) (Rows.fnFrameSpec.post enc Tryz.prog Tryz.f3 false true false false):=by
 refine returnsInHanded_of_change_and (C:=Tryz.checked) (X:=fun w _=>laidMetH Tryz.prog Rows.fnFrameRow.laid w) (fun _ _ _ hh h=>h.of_heap hh) T5 started (by kernel_rfl) Tryz.func3
  (ChangeSpec.witness_shaped (enc:=enc) (C:=Tryz.checked) (os:=os) (X:=fun w _=>laidMetH Tryz.prog Rows.fnFrameRow.laid w) false (World.laidAll Tryz.prog os Rows.fnFrameRow.laid) #[.slice none 0 0,.slice none 0 0] 8 (World.laidAll_os _ _ _)
   (World.shaped_of_ZipB (by kernel_rfl) (by kernel_rfl)) (by kernel_rfl) (by kernel_rfl) (by kernel_rfl)
   (by rw[MakeChecks.laidMetH_plain _ _ _ (by kernel_rfl)];exact laidMet_laidAll _ (by kernel_rfl) (by kernel_rfl))) ?_
 intro W base args ds gs before Ov hW hcnd _ hL _
 have wa:∀(j:Nat) t v,Tryz.f3.params[j]? =some t->args[j]? =some v->Value.okWide Tryz.prog W .any base t v:=Ov
 have hW':=hW
 obtain⟨p,q,hA0,hV0,rfl,Mx,pI⟩:=hW
 have hA:DataW.TrodAll enc Tryz.prog W 0 (fun _=>true) true Tryz.f3.params.toList args.toList ds p:=hA0
 have hV:DataW.TrodVars enc Tryz.prog W (fun _=>true) ["loop.example/g01081/impl.errTerminal", "loop.example/g01081/impl.errNoSpace"] gs q:=hV0
 rw[Tryz.params3]at hA wa
 obtain⟨v0,vs0,d0,ds0,p0,q0,nh,rfl,rfl,h0,r0⟩:=trodAll_cons hA
 obtain⟨v1,vs1,d1,ds1,p1,q1,rfl,rfl,rfl,h1,r1⟩:=trodAll_cons r0
 obtain⟨rfl,rfl,rfl⟩:=trodAll_nil r1
 obtain rfl:args= #[v0,v1]:=by cases args;simp_all
 rw[MakeChecks.laidMetH_plain _ _ _ (by kernel_rfl)]at hL
 obtain⟨a0,a1,yL,qb,hT,hN⟩:=Hi (mJ (mJ (mJ hL)))
 have vr:∀{X:World},X.var? Tryz.prog "loop.example/g01081/impl.errTerminal" =some #[.iface tE (.pointer (some a0))]->X.var? Tryz.prog "loop.example/g01081/impl.errNoSpace" =some #[.iface tE (.pointer (some a1))]->∀sp:Nat->Bool,
   DataW.TrodVars enc Tryz.prog X sp ["loop.example/g01081/impl.errTerminal", "loop.example/g01081/impl.errNoSpace"] [tok enc (.iface tE (.pointer (some a0))),tok enc (.iface tE (.pointer (some a1)))] [.cell gT 0,.cell gN 0]:=
  fun x0 x1 sp=>vars_read2 enc Jr Of Tryz.underlying150 x0 trivial Jq Oe Tryz.underlying150 x1 trivial sp
 obtain⟨rfl,rfl⟩:=hV.unique (vr yL qb _)
 obtain⟨A0,n0,c0,rfl⟩:=okWide_slice Tryz.underlying22 (wa 0 22 v0 rfl rfl)
 obtain⟨A1,n1,c1,rfl⟩:=okWide_slice Tryz.underlying22 (wa 1 22 v1 rfl rfl)
 have k0:=h0
 have k1:=h1
 have lt0:∀x∈p0,x.block<W.heap.size:=by obtain⟨m,hm⟩:=k0;exact DataW.trod_lt m _ _ _ hm
 have RP:∀x∈p1,x.block<W.heap.size:=by obtain⟨m,hm⟩:=k1;exact DataW.trod_lt m _ _ _ hm
 obtain⟨f0,xs,w0,s0,b0⟩:∃f,∃d:List Int,jX f 0 W.heap.size/\mo uN 1 W f (.slice A0 n0 c0) d/\∀b∈d,0<=b/\b<=255:=by
  obtain⟨fuel,hf⟩:=h0
  obtain⟨A,n,c,f,xs,e,w,z,hb⟩:=FX hf
  simp[Value.cells]at e
  obtain⟨rfl,rfl,rfl⟩:=e
  exact⟨f,xs,w,z,hb⟩
 obtain⟨f1,ys,w1,s1,b1⟩:∃f,∃d:List Int,jX f 0 W.heap.size/\mo uN 1 W f (.slice A1 n1 c1) d/\∀b∈d,0<=b/\b<=255:=by
  obtain⟨fuel,hf⟩:=h1
  obtain⟨A,n,c,f,xs,e,w,z,hb⟩:=FX hf
  simp[Value.cells]at e
  obtain⟨rfl,rfl,rfl⟩:=e
  exact⟨f,xs,w,z,hb⟩
 clear hA0 hV0 Ov
 have hZ:fo Tryz.prog W (fun b=>b<W.heap.size) (fun _=>none) [.sl (xs.map iC),.sl (ys.map iC)] #[.slice A0 n0 c0,.slice A1 n1 c1]:=by
  have h:=l7 (AX s0 (fun b hb=>(w0 b hb).2)) (l7 (AX s1 (fun b hb=>(w1 b hb).2)) (⟨rfl,fun j b hj=>by cases j<;>cases hj⟩:fo Tryz.prog W (fun b=>b<W.heap.size) (fun _=>none) [] #[]))
  simpa using h
 have SN:=M4 (x:=0) (y:=1) (t:=tE) (s:=sT) (u:=sN) mixed (by decide) (Hj xs ys b0 b1 ⟨xI 0 1 tE sT sN,1⟩ Jf (Nat.le_refl _)) hT hN hZ
 clear s0 s1 w0 w1 hZ
 refine(SN.mono fun e W' ⟨he,bel⟩=>?_)
 subst he
 exact⟨_,rfl,_,_,_,[],_,_,hW',trodAll_mk1 (shut_bool Tryz.underlying4 _),(trodAll_cons_mk (Below.trod J9 (by kernel_rfl) (of_decide_eq_true (by kernel_rfl)) k0 bel lt0) (trodAll_cons_mk (Below.trod J9 (by kernel_rfl) (of_decide_eq_true (by kernel_rfl)) k1 bel RP) trodAll_mk0)),vr (V.var?_below Jr yL bel) (V.var?_below Jq qb bel) _,bel.frame _,fun h=>by cases h⟩
end Go.Proofs.YtakkdjfmiffbfaaGreatDoor

