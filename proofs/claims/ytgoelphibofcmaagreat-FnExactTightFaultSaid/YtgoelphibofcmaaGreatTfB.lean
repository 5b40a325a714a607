/- One operation, calls among them. -/
import Derived.Test.YtgoelphibofcmaaGreatTfA
import Derived.Orders
import Derived.Conc.LoneCalls
import Derived.WalkKit
import Derived.WalkSpells
import Derived.WalkLawsBesides
import Derived.Lib.Hide
import Derived.Deep.QuietTactic
import Derived.BigQuiet
import Derived.StillTailTactics
import Derived.Deep.RegionWith
import Derived.Deep.RegionHeld3
import Derived.Deep.LoopGhost
import Derived.Deep.CutRange
import Derived.Deep.DeepCutAuto
import Derived.Test.YtgoelphibofcmaaGreatChecked
set_option linter.unusedVariables false
set_option linter.unusedSimpArgs false
set_option maxRecDepth 100000
set_option maxHeartbeats 16000000
namespace Go.Proofs.YtgoelphibofcmaaGreat.V
open Go.RowKit
variable {P:Program} {w w':World} {D D' D2:Nat->Prop} {ι ι' ι2:Names}
def Sound (P:Program):fu:=fun f args σ K=>∀(hs:Nat) (D:Nat->Prop) (ι:Names) (w:World) (vs:Array Value),fU P hs D ι σ.get w->Used ι σ.next (fun _=>False)->fh P w D ι args vs->
 Calls P f vs w fun e w'=>∃r g' n' D' ι' u,e=.returned u/\K r ⟨g',n'⟩/\Step hs D ι w D' ι' w'/\fU P hs D' ι' g' w'/\Used ι' n' (fun _=>False)/\σ.next<=n'/\cq P w' D' ι' r u
section
variable {g:Rows} {hs:Nat} {env:Env} {a:Act} {o:Oper} {id:Id} {v:AV}
theorem fU.ro (S:fU P hs D ι g w):fU P w.heap.size D ι (ro g) w:=by
 refine⟨Nat.le_refl _,S.dead,fun id r h=>?_,fun id jJ r r' B B' h h' hw=>?_⟩
 ·unfold V.ro at h
  simp only[Option.map_eq_some_iff]at h
  obtain⟨r0,h0,rfl⟩:=h
  obtain⟨B,hB,R,_,_⟩:=S.row id r0 h0
  exact⟨B,hB,R.flag false,fun h=>by simp at h,fun h=>by simp at h⟩
 ·unfold V.ro at h
  simp only[Option.map_eq_some_iff]at h
  obtain⟨r0,h0,rfl⟩:=h
  simp at hw
theorem Ab {g0:Rows} {f:Nat} {args:List AV} {n:Nat} {K:AV->Prop} {vs:Array Value} (h:PC (Sound P) f args ⟨g0,n⟩ K) (nZ:∀id r,g0 id=some r->g id=some r) (S:fU P hs D ι g w) (U:Used ι n (fun _=>False)) (A:fh P w D ι args vs):
  Calls P f vs w fun e w'=>∃r D' u,e=.returned u/\K r/\Step hs D ι w D' ι w'/\fU P hs D' ι g w'/\cq P w' D' ι r u:=by
 refine(h w.heap.size D ι w vs (S.sub nZ).ro U A).mono ?_
 rintro e w' ⟨r0,g',n',D1,ι1,u,rfl,⟨r,hr,hK⟩,T,S1,_,_,hR⟩
 have hb:∀b,b<w.heap.size->w'.heap[b]? =w.heap[b]? :=T.below.block
 have hz:=T.below.size
 have q:=qC (D2:=fun b=>D b∨(w.heap.size<=b/\b<w'.heap.size)) (ι2:=ι) (fun b hd=>by
  rcases T.new b hd with h|h
  ·exact .inl h
  ·exact .inr ⟨h,S1.dead b hd⟩) (fun id row hg hw=>by
  obtain⟨B,hB,R,h1,_⟩:=S1.row id row hg
  exact⟨B,hB,R,.inr ⟨h1 hw,R.lt⟩⟩) 6 r0 u r hR hr
 refine⟨r,_,u,rfl,hK,?_,?_,q.1⟩
 ·exact Step.stay S hb hz T.below.os T.below.tape T.below.output (fun _ h=>.inl h) (fun b h=>by rcases h with h|h;exact .inl h;exact .inr h.1) (fun _ _ h=>h)
 ·exact S.stay hb hz (fun _ h=>.inl h) (fun b h=>by rcases h with h|h;exact Nat.lt_of_lt_of_le (S.dead b h) hz;exact h.2) (fun b h=>by rcases h with h|h;exact .inl h;exact .inr h.1) (fun _ _ h=>h)
theorem xc {g0:Rows} {f:Nat} {args:List AV} {n:Nat} {K:AV->Prop} {vs:Array Value} (h:PCv (Sound P) f args ⟨g0,n⟩ K) (nZ:∀id r,g0 id=some r->g id=some r) (S:fU P hs D ι g w) (U:Used ι n (fun _=>False)) (A:fh P w D ι args vs):
  Calls P f vs w fun e w'=>∃r D' u,e=.returned u/\K r/\Step hs D ι w D' ι w'/\fU P hs D' ι g w'/\cq P w' D' ι r u:=by
 obtain⟨args',ha,h⟩:=h
 let D1:Nat->Prop:=fun b=>D b∨∃id r B,g id=some r/\ι id=some B/\b=B.b
 have lt:∀id r B,g id=some r->ι id=some B->B.b<w.heap.size:=fun id r B h1 h2=>by
  obtain⟨B',dr,R,_⟩:=S.row id r h1
  rw[h2]at dr;injection dr with dr;subst dr
  exact R.lt
 have S0:fU P w.heap.size D1 ι (fun _=>none) w:=⟨Nat.le_refl _,fun b hb=>by
  rcases hb with hb|⟨id,r,B,h1,h2,rfl⟩
  ·exact S.dead b hb
  ·exact lt id r B h1 h2,fun id r h=>(by cases h),fun id jJ r r' B B' h=>(by cases h)⟩
 obtain⟨l1,l2⟩:=gi ha
 have A':fh P w D1 ι args' vs:=⟨by rw[A.1,l1],fun j a hj=>by
  obtain⟨a0,kV,hf⟩:=l2 j a hj
  obtain⟨u,hu,hr⟩:=A.2 j a0 kV
  refine⟨u,hu,(qC (D2:=D1) (ι2:=ι) (fun b h=>.inl h) (fun id row hg hw=>?_) 6 a0 u a hr hf).1⟩
  unfold dQ at hg
  simp only[Option.map_eq_some_iff]at hg
  obtain⟨r,nB,rfl⟩:=hg
  obtain⟨B,hB,R,_,_⟩:=S.row id r (nZ id r nB)
  exact⟨B,hB,R.flag true,.inr ⟨id,r,B,nZ id r nB,hB,rfl⟩⟩⟩
 refine(h w.heap.size D1 ι w vs S0 U A').mono ?_
 rintro e w' ⟨r0,g',n',D2,ι1,u,rfl,⟨r,hr,hK⟩,T,S1,_,_,hR⟩
 have hb:∀b,b<w.heap.size->w'.heap[b]? =w.heap[b]? :=T.below.block
 have hz:=T.below.size
 have q:=Fp (D2:=fun b=>D b∨(w.heap.size<=b/\b<w'.heap.size)) (ι2:=ι) (fun id row hg hw=>by
  obtain⟨B,hB,R,h1,_⟩:=S1.row id row hg
  exact⟨B,hB,R,.inr ⟨h1 hw,R.lt⟩⟩) 6 r0 u r hR hr
 refine⟨r,_,u,rfl,hK,?_,?_,q.1⟩
 ·exact Step.stay S hb hz T.below.os T.below.tape T.below.output (fun _ h=>.inl h) (fun b h=>by rcases h with h|h;exact .inl h;exact .inr h.1) (fun _ _ h=>h)
 ·exact S.stay hb hz (fun _ h=>.inl h) (fun b h=>by rcases h with h|h;exact Nat.lt_of_lt_of_le (S.dead b h) hz;exact h.2) (fun b h=>by rcases h with h|h;exact .inl h;exact .inr h.1) (fun _ _ h=>h)
theorem EY {g0:Rows} {f:Nat} {args:List AV} {n:Nat} {K:AV->Prop} {vs:Array Value} (h:gI (Sound P) f args ⟨g0,n⟩ K) (nZ:∀id r,g0 id=some r->g id=some r) (S:fU P hs D ι g w) (U:Used ι n (fun _=>False)) (A:fh P w D ι args vs):
  Calls P f vs w fun e w'=>∃r D' u,e=.returned u/\K r/\Step hs D ι w D' ι w'/\fU P hs D' ι g w'/\cq P w' D' ι r u:=by
 rcases h with h|h
 ·exact Ab h nZ S U A
 ·exact xc h nZ S U A
theorem F6 {D1 D2:Nat->Prop} {ι1 ι2:Names} {w1:World} {a:AV} {v:Value} (hp:a.plain=true) (h:cq P w D1 ι1 a v):cq P w1 D2 ι2 a v:=by
 cases h with
 |eF a v h=>cases h<;>first|(simp[AV.plain]at hp;done)|exact .eF _ _ (by constructor)
 |_=>simp[AV.plain]at hp
theorem fU.add {r:Row} {B:rz} (S:fU P hs D ι g w) (S':fU P hs D ι g w') (hf:ι id=none) (jA:w.heap.size<=B.b) (R:gq P w' D (ke ι id B) B r):fU P hs D (ke ι id B) (bB g id r) w':=by
 have lt:∀jJ r' B',g jJ=some r'->ι jJ=some B'->B'.b<w.heap.size:=fun jJ r' B' h1 h2=>by
  obtain⟨B2,pc,R2,_⟩:=S.row jJ r' h1
  rw[h2]at pc;injection pc with pc;subst pc
  exact R2.lt
 have ne:∀jJ r',g jJ=some r'->jJ≠id:=fun jJ r' h he=>by
  subst he
  obtain⟨B2,pc,_⟩:=S.row _ r' h
  rw[hf]at pc;cases pc
 refine⟨S'.lo,S'.dead,fun jJ r' h=>?_,fun Qc id2 r1 r2 B1 B2 h1 h2 hw zW pc hb=>?_⟩
 ·unfold bB at h
  split at h
  ·rename_i he
   subst he
   injection h with h;subst h
   exact⟨B,dH _ _ _,R,fun _=>Nat.le_trans S.lo jA,fun _ hd=>Nat.lt_irrefl _ (Nat.lt_of_lt_of_le (S.dead _ hd) jA)⟩
  ·obtain⟨B',dr,R',k1,k2⟩:=S'.row jJ r' h
   exact⟨B',by rw[fQ (ne _ _ h)];exact dr,R'.frame rfl (fun a v hr=>hr.frame (fun _ _=>rfl) (fun _ h=>h) (eY hf)),k1,k2⟩
 ·unfold bB at h1 h2
  split at h1
  ·rename_i e1
   split at h2
   ·rename_i e2;rw[e1,e2]
   ·exfalso
    subst e1
    rw[dH]at zW;injection zW with zW;subst zW
    rw[fQ (ne _ _ h2)]at pc
    have:=lt _ _ _ h2 pc
    omega
  ·rw[fQ (ne _ _ h1)]at zW
   split at h2
   ·rename_i e2
    exfalso
    subst e2
    rw[dH]at pc;injection pc with pc;subst pc
    have:=lt _ _ _ h1 zW
    omega
   ·rw[fQ (ne _ _ h2)]at pc
    exact S'.inj Qc id2 r1 r2 B1 B2 h1 h2 hw zW pc hb
theorem GP {g0:Rows} {f:Nat} {args:List AV} {n sz:Nat} {rows:List (List AV)} {vs:Array Value} (h:CM (Sound P) f args ⟨g0,n⟩ sz rows) (nZ:∀id r,g0 id=some r->g id=some r) (S:fU P hs D ι g w) (U:Used ι n (fun _=>False)) (A:fh P w D ι args vs) (hf:ι id=none):
  Calls P f vs w fun e w'=>∃u B,e=.returned u/\Step hs D ι w D (ke ι id B) w'/\fU P hs D (ke ι id B) (bB g id ⟨true,sz,rows⟩) w'/\cq P w' D (ke ι id B) (.own id 0 rows.length) u:=by
 obtain⟨l9,args',ha,h⟩:=h
 let D1:Nat->Prop:=fun b=>D b∨∃id r B,g id=some r/\ι id=some B/\b=B.b
 have lt:∀id r B,g id=some r->ι id=some B->B.b<w.heap.size:=fun id r B h1 h2=>by
  obtain⟨B',dr,R,_⟩:=S.row id r h1
  rw[h2]at dr;injection dr with dr;subst dr
  exact R.lt
 have S0:fU P w.heap.size D1 ι (fun _=>none) w:=⟨Nat.le_refl _,fun b hb=>by
  rcases hb with hb|⟨id,r,B,h1,h2,rfl⟩
  ·exact S.dead b hb
  ·exact lt id r B h1 h2,fun id r h=>(by cases h),fun id jJ r r' B B' h=>(by cases h)⟩
 obtain⟨l1,l2⟩:=gi ha
 have A':fh P w D1 ι args' vs:=⟨by rw[A.1,l1],fun j a hj=>by
  obtain⟨a0,kV,hz⟩:=l2 j a hj
  obtain⟨u,hu,hr⟩:=A.2 j a0 kV
  refine⟨u,hu,(qC (D2:=D1) (ι2:=ι) (fun b h=>.inl h) (fun id row hg hw=>?_) 6 a0 u a hr hz).1⟩
  unfold dQ at hg
  simp only[Option.map_eq_some_iff]at hg
  obtain⟨r,nB,rfl⟩:=hg
  obtain⟨B,hB,R,_,_⟩:=S.row id r (nZ id r nB)
  exact⟨B,hB,R.flag true,.inr ⟨id,r,B,nZ id r nB,hB,rfl⟩⟩⟩
 refine(h w.heap.size D1 ι w vs S0 U A').mono ?_
 rintro e w' ⟨r0,g',n',D2,ι1,u,rfl,⟨i0,hr,hg⟩,T,S1,_,_,hR⟩
 subst hr
 have hb:∀b,b<w.heap.size->w'.heap[b]? =w.heap[b]? :=T.below.block
 have hz:=T.below.size
 obtain⟨B,hB,R,k1,_⟩:=S1.row i0 _ hg
 have jA:w.heap.size<=B.b:=k1 rfl
 obtain⟨o,cap,B',rfl,dr,q2,q3,q4,q5,hk⟩:=iG hR
 rw[hB]at dr;injection dr with dr;subst dr
 replace R:=R.row hk
 have S':fU P hs D ι g w':=S.stay hb hz (fun _ h=>h) (fun b h=>Nat.lt_of_lt_of_le (S.dead b h) hz) (fun b h=>.inl h) (fun _ _ h=>h)
 have R':lf P w' D (ke ι id B) B ⟨true,sz,rows⟩:=⟨R.sz,R.wH,R.fits,R.len,R.flat,fun i j cs a hi hj=>by
  obtain⟨v,h1,h2⟩:=R.at_ i j cs a hi hj
  exact⟨v,h1,F6 (l9 cs (List.mem_of_getElem? hi) a (List.mem_of_getElem? hj)) h2⟩⟩
 exact⟨_,B,rfl,Step.stay S hb hz T.below.os T.below.tape T.below.output (fun _ h=>h) (fun _ h=>.inl h) (eY hf),S.add S' hf jA (R'.obj hk),.own id 0 _ _ _ B (dH _ _ _) hk q2 q3 q4 q5⟩
theorem jl {f:Nat} {args:Array Value} (hc:fD P f=true):(callFunc f args).run P w=.ok (.enter f args) w:=by
 unfold fD at hc
 split at hc
 ·rename_i fn hf
  simp only[Bool.and_eq_true,Bool.not_eq_true']at hc
  have hb:fn.body.isNone=false:=by cases hq:fn.body<;>simp_all
  simp only[callFunc,Sem.run_bind,run_program,Result.andThen_ok,hf,hc.2,Bool.false_eq_true,if_false,hb]
  rfl
 ·simp at hc
theorem A6 {f:Nat} {args:List O} (hc:qh P o.op=some (.call f args)):∃c,o.op=.call c/\c.callee=.value (.func f)/\fD P f=true/\c.args.toList.mapM (cO P)=some args:=by
 unfold qh at hc
 split at hc
 case h_23=>
  rename_i c ho
  refine⟨c,ho,?_⟩
  unfold mT at hc
  split at hc
  all_goals (try(repeat' (split at hc))<;>(simp only[Option.bind_eq_bind,Option.bind_eq_some_iff,Option.pure_def,Option.some.injEq,Option.map_eq_some_iff,reduceCtorEq,and_false,exists_false]at hc))
  all_goals simp_all
 all_goals (try unfold uj at hc)<;>(try unfold rI at hc)<;>(repeat' (split at hc))<;>(simp only[Option.bind_eq_bind,Option.bind_eq_some_iff,Option.pure_def,Option.some.injEq,Option.map_eq_some_iff,reduceCtorEq,and_false,exists_false]at hc)
theorem rY {x:O} {args:List O} (hc:qh P o.op=some (.sD x args)):∃c t,o.op=.call c/\c.callee=.value (.tmp t)/\x=.t t/\c.args.toList.mapM (cO P)=some args:=by
 unfold qh at hc
 split at hc
 case h_23=>
  rename_i c ho
  refine⟨c,?_⟩
  unfold mT at hc
  split at hc
  all_goals (try(repeat' (split at hc))<;>(simp only[Option.bind_eq_bind,Option.bind_eq_some_iff,Option.pure_def,Option.some.injEq,Option.map_eq_some_iff,reduceCtorEq,and_false,exists_false]at hc))
  all_goals simp_all
 all_goals (try unfold uj at hc)<;>(try unfold rI at hc)<;>(repeat' (split at hc))<;>(simp only[Option.bind_eq_bind,Option.bind_eq_some_iff,Option.pure_def,Option.some.injEq,Option.map_eq_some_iff,reduceCtorEq,and_false,exists_false]at hc)
theorem FH {n:Nat} {x y:O} (hc:qh P o.op=some (.store n x y)):∃t x' y',o.op=.store t x' y'/\dI P t=some n/\cO P x'=some x/\cO P y'=some y:=by
 unfold qh at hc
 split at hc
 case h_7=>
  rename_i t x' y' ho
  refine⟨t,x',y',ho,?_⟩
  simp only[Option.bind_eq_bind,Option.bind_eq_some_iff,Option.pure_def,Option.some.injEq]at hc
  obtain⟨n',h1,x2,h2,y2,h3,he⟩:=hc
  injection he with e1 e2 e3
  subst e1;subst e2;subst e3
  exact⟨h1,h2,h3⟩
 all_goals (try unfold uj at hc)<;>(try unfold rI at hc)<;>(try unfold mT at hc)<;>(repeat' (split at hc))<;>(simp only[Option.bind_eq_bind,Option.bind_eq_some_iff,Option.pure_def,Option.some.injEq,Option.map_eq_some_iff,reduceCtorEq,and_false,exists_false]at hc)
theorem C0 {n:Nat} {x y:O} (hc:qh P o.op=some (.append n x y)):∃(t e:TypeId) (m:Nat) (z:List K) (i:TypeInfo) (x' y':Operand),n=m+1/\o.op=.call {callee:=.builtin .append,args:= #[x',y'],argTypes:= #[t,t]}/\
  P.underlying t=some (.slice e)/\dI P e=some (m+1)/\ju P e=some z/\P.info? e=some i/\i.bytes<=32768/\cO P x'=some x/\cO P y'=some y:=by
 unfold qh at hc
 split at hc
 case h_23=>
  rename_i c ho
  unfold mT at hc
  split at hc
  case h_2=>
   rename_i j9
   split at hc
   ·rename_i x' y' t u h1 h2
    split at hc
    ·rename_i e ht
     split at hc
     ·rename_i m z i e1 e2 e3
      split at hc
      ·rename_i hb
       simp only[Option.bind_eq_bind,Option.bind_eq_some_iff,Option.pure_def,Option.some.injEq]at hc
       obtain⟨x2,h3,y2,h4,he⟩:=hc
       injection he with k1 k2 k3
       subst k1;subst k2;subst k3
       obtain⟨Lx,rfl⟩:=hb
       refine⟨t,e,m,z,i,x',y',rfl,?_,ht,e1,e2,e3,Lx,h3,h4⟩
       rw[ho]
       obtain⟨ca,cb,cc⟩:=c
       simp only at h1 h2 j9
       subst j9
       congr
       ·exact Array.ext' h1
       ·exact Array.ext' h2
      ·simp at hc
     ·simp at hc
    ·simp at hc
   ·simp at hc
  all_goals (repeat' (split at hc))<;>(simp only[Option.bind_eq_bind,Option.bind_eq_some_iff,Option.pure_def,Option.some.injEq,Option.map_eq_some_iff,reduceCtorEq,and_false,exists_false]at hc)
 all_goals (try unfold uj at hc)<;>(try unfold rI at hc)<;>(repeat' (split at hc))<;>(simp only[Option.bind_eq_bind,Option.bind_eq_some_iff,Option.pure_def,Option.some.injEq,Option.map_eq_some_iff,reduceCtorEq,and_false,exists_false]at hc)
theorem H8 {n:Nat} {x y:O} (hc:qh P o.op=some (.copy n x y)):∃(t t2 e:TypeId) (m:Nat) (x' y':Operand),n=m+1/\o.op=.call {callee:=.builtin .copy,args:= #[x',y'],argTypes:= #[t,t2]}/\
  P.underlying t=some (.slice e)/\dI P e=some (m+1)/\cO P x'=some x/\cO P y'=some y:=by
 unfold qh at hc
 split at hc
 case h_23=>
  rename_i c ho
  unfold mT at hc
  split at hc
  case h_7=>
   rename_i j9
   split at hc
   ·rename_i x' y' t t2 h1 h2
    split at hc
    ·rename_i e ht
     split at hc
     ·rename_i m e1
      simp only[Option.bind_eq_bind,Option.bind_eq_some_iff,Option.pure_def,Option.some.injEq,fX.copy.injEq]at hc
      obtain⟨x2,h3,y2,h4,k0,k1,k2⟩:=hc
      subst k1;subst k2
      refine⟨t,t2,e,m,x',y',k0.symm,?_,ht,e1,h3,h4⟩
      rw[ho]
      obtain⟨ca,cb,cc⟩:=c
      simp only at h1 h2 j9
      subst j9
      congr
      ·exact Array.ext' h1
      ·exact Array.ext' h2
     ·simp at hc
    ·simp at hc
   ·simp at hc
  all_goals (repeat' (split at hc))<;>(simp only[Option.bind_eq_bind,Option.bind_eq_some_iff,Option.pure_def,Option.some.injEq,Option.map_eq_some_iff,reduceCtorEq,and_false,exists_false]at hc)
 all_goals (try unfold uj at hc)<;>(try unfold rI at hc)<;>(repeat' (split at hc))<;>(simp only[Option.bind_eq_bind,Option.bind_eq_some_iff,Option.pure_def,Option.some.injEq,Option.map_eq_some_iff,reduceCtorEq,and_false,exists_false]at hc)
theorem FG {z:List K} {x:O} (hc:qh P o.op=some (.clear z x)):∃(t e:TypeId) (m:Nat) (x':Operand),o.op=.call {callee:=.builtin .clear,args:= #[x'],argTypes:= #[t]}/\
  P.underlying t=some (.slice e)/\dI P e=some (m+1)/\ju P e=some z/\cO P x'=some x:=by
 unfold qh at hc
 split at hc
 case h_23=>
  rename_i c ho
  unfold mT at hc
  split at hc
  case h_3=>
   rename_i j9
   split at hc
   ·rename_i x' t h1 h2
    split at hc
    ·rename_i e ht
     split at hc
     ·rename_i m z' e1 e2
      simp only[Option.map_eq_some_iff]at hc
      obtain⟨x2,h3,he⟩:=hc
      injection he with k1 k2
      subst k1;subst k2
      refine⟨t,e,m,x',?_,ht,e1,e2,h3⟩
      rw[ho]
      obtain⟨ca,cb,cc⟩:=c
      simp only at h1 h2 j9
      subst j9
      congr
      ·exact Array.ext' h1
      ·exact Array.ext' h2
     ·simp at hc
    ·simp at hc
   ·simp at hc
  all_goals (repeat' (split at hc))<;>(simp only[Option.bind_eq_bind,Option.bind_eq_some_iff,Option.pure_def,Option.some.injEq,Option.map_eq_some_iff,reduceCtorEq,and_false,exists_false]at hc)
 all_goals (try unfold uj at hc)<;>(try unfold rI at hc)<;>(repeat' (split at hc))<;>(simp only[Option.bind_eq_bind,Option.bind_eq_some_iff,Option.pure_def,Option.some.injEq,Option.map_eq_some_iff,reduceCtorEq,and_false,exists_false]at hc)
theorem Nw {q:MW} {xs:List O} (hc:qh P o.op=some (.mw q xs)):
  (∃t x k y m z x' k' y',(o.op=.mapUpdate t x k y∨o.op=.insert t x k y)/\rJ P t=some (m,z)/\cO P x=some x'/\cO P k=some k'/\cO P y=some y'/\q=.set m/\xs=[x',k',y'])∨
  (∃t t' x k m z x' k',o.op=.call {callee:=.builtin .delete,args:= #[x,k],argTypes:= #[t,t']}/\rJ P t=some (m,z)/\cO P x=some x'/\cO P k=some k'/\q=.del m/\xs=[x',k']):=by
 unfold qh at hc
 split at hc
 case h_23=>
  rename_i c ho
  right
  unfold mT at hc
  split at hc
  case h_6=>
   rename_i j9
   split at hc
   ·rename_i x k t t' h1 h2
    split at hc
    ·rename_i m z x' k' e1 e2 e3
     injection hc with hc
     injection hc with q1 q2
     refine⟨t,t',x,k,m,z,x',k',?_,e1,e2,e3,q1.symm,q2.symm⟩
     rw[ho]
     obtain⟨ca,cb,cc⟩:=c
     simp only at h1 h2 j9
     subst j9
     congr
     ·exact Array.ext' h1
     ·exact Array.ext' h2
    ·cases hc
   ·cases hc
  all_goals (repeat' (split at hc))<;>(simp only[Option.bind_eq_bind,Option.bind_eq_some_iff,Option.pure_def,Option.some.injEq,Option.map_eq_some_iff,reduceCtorEq,and_false,exists_false]at hc)
 case h_29=>
  rename_i t x k y ho
  left
  split at hc
  ·rename_i m z x' k' y' e1 e2 e3 e4
   injection hc with hc
   injection hc with q1 q2
   exact⟨t,x,k,y,m,z,x',k',y',.inl ho,e1,e2,e3,e4,q1.symm,q2.symm⟩
  ·cases hc
 case h_30=>
  rename_i t x k y ho
  left
  split at hc
  ·rename_i m z x' k' y' e1 e2 e3 e4
   injection hc with hc
   injection hc with q1 q2
   exact⟨t,x,k,y,m,z,x',k',y',.inr ho,e1,e2,e3,e4,q1.symm,q2.symm⟩
  ·cases hc
 all_goals (try unfold uj at hc)<;>(try unfold rI at hc)<;>(repeat' (split at hc))<;>(simp only[Option.bind_eq_bind,Option.bind_eq_some_iff,Option.pure_def,Option.some.injEq,Option.map_eq_some_iff,reduceCtorEq,and_false,exists_false]at hc)
def iZ (g:Rows) (id:Id):Option Row->Rows
 |some r=>bB g id r
 |none=>g
def um (X:fu) (hid:List Nat) (site n:Nat) (f:Nat) (args:List AV) (g:Rows) (v:AV) (g':Rows):Prop:=
 (gI X f args ⟨gy hid n g,n+1⟩ (fun r=>r=v)/\g'=g)∨
 (hid.contains site=true/\∃sz rows,CM X f args ⟨gy hid n g,n+1⟩ sz rows/\v=.own ⟨site,n⟩ 0 rows.length/\g'=bB g ⟨site,n⟩ ⟨true,sz,rows⟩)
def VS (X:fu) (n:Nat) (vo:aM) (env:Env) (g:Rows) (v:AV) (g':Rows):Prop:=
 match vo.op with
 | .call f args=>um X vo.hid vo.site n f (args.map (cE env)) g v g'
 | .sD x args=>∃f l,uk (cE env x) (args.map (cE env))=some (f,l)/\um X vo.hid vo.site n f l g v g'
 | .store .. | .append .. | .copy .. | .clear .. | .mw .. =>gE vo.op (cE env) g ⟨vo.site,n⟩=some (v,g')
 |_=>∃mr,eU vo.op (cE env) (gy vo.hid n g) ⟨vo.site,n⟩=some (v,mr)/\g'=iZ g ⟨vo.site,n⟩ mr
def Li (P:Program) (hs:Nat) (D:Nat->Prop) (ι:Names) (w:World) (U:Nat->Prop) (site n:Nat) (a:Act) (dst:Option Tmp) (v:AV) (g':Rows) (a':Act) (w':World):Prop:=
 ∃u D' ι',a'=a.put dst u/\Step hs D ι w D' ι' w'/\fU P hs D' ι' g' w'/\cq P w' D' ι' v u/\Used ι' n (fun s=>U s∨s=site)
theorem fresh {n:Nat} {U:Nat->Prop} {s:Nat} (h:Used ι n U) (hU:¬U s):ι ⟨s,n⟩=none:=by
 cases hq:ι ⟨s,n⟩with
 |none=>rfl
 |some B=>
  rcases h ⟨s,n⟩ (by rw[hq];simp)with h|⟨_,h⟩
  ·exact absurd h (Nat.lt_irrefl _)
  ·exact absurd h hU
theorem Used.more {n:Nat} {U U':Nat->Prop} (h:Used ι n U) (hU:∀s,U s->U' s):Used ι n U':=fun id hid=>by
 rcases h id hid with h|⟨h1,h2⟩
 ·exact .inl h
 ·exact .inr ⟨h1,hU _ h2⟩
theorem Used.next {n:Nat} {U:Nat->Prop} (h:Used ι n U):Used ι (n+1) (fun _=>False):=fun id hid=>by
 rcases h id hid with h|⟨h1,_⟩
 ·exact .inl (Nat.lt_succ_of_lt h)
 ·exact .inl (by omega)
theorem Used.upd {n:Nat} {U:Nat->Prop} {s:Nat} {B:rz} (h:Used ι n U):Used (ke ι ⟨s,n⟩ B) n (fun x=>U x∨x=s):=fun id hid=>by
 by_cases he:id=⟨s,n⟩
 ·subst he;exact .inr ⟨rfl,.inr rfl⟩
 ·rw[fQ he]at hid
  exact(h.more (U':=fun x=>U x∨x=s) fun _ h=>Or.inl h) id hid
theorem nL {xs:Array Operand} {ys:List O} (E:bD P w D ι env a) (h:xs.toList.mapM (cO P)=some ys):fh P w D ι (ys.map (cE env)) (xs.map a.eval):=by
 obtain⟨h1,h2⟩:=Dj E h
 refine⟨by simpa using h1,fun j b hj=>?_⟩
 simp only[List.getElem?_map,Option.map_eq_some_iff]at hj
 obtain⟨y,hy,rfl⟩:=hj
 have dz:j<xs.size:=by have:=(List.getElem?_eq_some_iff.1 hy).1;simp at h1;omega
 refine⟨a.eval xs[j],by simp[dz],?_⟩
 have:=h2 j y hy
 simpa[List.getD_eq_getElem?_getD,dz]using this
theorem oq {xs ys:List AV} {vs us:Array Value} (h:fh P w D ι xs vs) (k:fh P w D ι ys us):fh P w D ι (xs++ys) (vs++us):=
 ⟨by simp[h.1,k.1],fun j b hj=>by
  by_cases dz:j<xs.length
  ·rw[List.getElem?_append_left dz]at hj
   obtain⟨u,hu,wS⟩:=h.2 j b hj
   exact⟨u,by rw[Array.getElem?_append_left (by rw[h.1];exact dz)];exact hu,wS⟩
  ·rw[List.getElem?_append_right (by omega)]at hj
   obtain⟨u,hu,wS⟩:=k.2 _ b hj
   exact⟨u,by rw[Array.getElem?_append_right (by rw[h.1];omega),h.1];exact hu,wS⟩⟩
theorem vK:fh P w D ι [] #[]:=⟨rfl,fun j b hj=>by simp at hj⟩
theorem uo {x:AV} {l l':List AV} {f:Nat} {vs:Array Value} {v:Value} (h:uk x l=some (f,l')) (hr:cq P w D ι x v) (hA:fh P w D ι l vs):
  ∃first cz,v=.func (.func f) first cz/\fD P f=true/\fh P w D ι l' (first++vs++cz):=by
 unfold uk at h
 split at h
 ·simp only[Option.some.injEq,Prod.mk.injEq]at h
  obtain⟨rfl,rfl⟩:=h
  obtain⟨us,q,he,Ei,n1,q1,q2⟩:=zr hr
  refine⟨#[],us,he,Ei,?_⟩
  rw[Array.empty_append]
  exact oq hA ⟨n1,fun j b hj=>⟨q j,q1 j (List.getElem?_eq_some_iff.1 hj).1,q2 j b hj⟩⟩
 ·simp only[Option.some.injEq,Prod.mk.injEq]at h
  obtain⟨rfl,rfl⟩:=h
  obtain⟨us,q,he,Ei,n1,q1,q2⟩:=KW hr
  refine⟨us, #[],he,Ei,?_⟩
  rw[Array.append_empty]
  exact oq ⟨n1,fun j b hj=>⟨q j,q1 j (List.getElem?_eq_some_iff.1 hj).1,q2 j b hj⟩⟩ hA
 ·cases h
theorem Ae {n:Nat} {vo:aM} {g':Rows} {U:Nat->Prop} {Q:Exit->Act->World->Prop} {K:Act->World->Prop} (hc:qh P o.op=some vo.op) (hv:VS (Sound P) n vo env g v g') (S:fU P hs D ι g w) (Us:Used ι n U) (hU:¬U vo.site) (E:bD P w D ι env a)
  (hK:∀a' w',Li P hs D ι w U vo.site n a o.dst v g' a' w'->K a' w'):o.wp P a w K Q:=by
 have hf:=fresh Us hU
 have Am:∀(f:Nat) (args:List AV) (vs:Array Value),um (Sound P) vo.hid vo.site n f args g v g'->fh P w D ι args vs->(execOp a.eval o).run P w=.ok (.enter f vs) w->o.wp P a w K Q:=by
  intro f args vs hP hA fM
  unfold Oper.wp
  rw[fM]
  rcases hP with⟨hP,rfl⟩|⟨_,sz,rows,hM,rfl,rfl⟩
  ·refine(EY hP zJ S Us.next hA).mono ?_
   rintro e w' ⟨r,D',u,rfl,rfl,T,S',hR⟩
   exact hK _ _ ⟨u,D',ι,rfl,T,S',hR,Us.more fun _ h=>.inl h⟩
  ·refine(GP hM zJ S Us.next hA hf).mono ?_
   rintro e w' ⟨u,B,rfl,T,S',hR⟩
   exact hK _ _ ⟨u,D,_,rfl,T,S',hR,Us.upd⟩
 have quiet:∀(mr:Option Row),eU vo.op (cE env) (gy vo.hid n g) ⟨vo.site,n⟩=some (v,mr)->g'=iZ g ⟨vo.site,n⟩ mr->o.wp P a w K Q:=by
  intro mr hq hg
  have hqs:=xZ hc hq (S.sub zJ) E
  unfold Oper.wp
  cases mr with
  |none=>
   obtain⟨u,fM,hR⟩:=hqs
   rw[fM]
   subst hg
   exact hK _ _ ⟨u,D,ι,rfl,Step.refl _ _ _ _,S,hR,Us.more fun _ h=>.inl h⟩
  |some r=>
   rcases hqs with⟨u,cells,T,fM,h1,h2,h3,h4,h5,h6⟩|⟨m,fM,Nu,Kl⟩|⟨c,fM,Nu,Kl⟩
   case inr.inr=>
    rw[fM]
    subst hg Nu Kl
    have e9:w.heap.size<(w.alloc (.chan c #[] false 0 0 false)).heap.size:=by simp
    have S':=S.stay (w':=w.alloc (.chan c #[] false 0 0 false)) (D':=D) (ι':=ι) (fun k hk=>Below.heap_alloc _ _ _ hk) (by simp) (fun _ h=>h) (fun b hd=>Nat.lt_trans (S.dead b hd) e9) (fun _ h=>.inl h) (fun _ _ h=>h)
    have S1:=S.add S' (id:=⟨vo.site,n⟩) (B:=⟨w.heap.size,pM+c,0,some (.chan c)⟩) (r:=⟨true,pM+c,[]⟩) hf (Nat.le_refl _) ⟨rfl,fun cs h=>by simp at h,fun h=>by simp at h,fun m' h=>(by simp at h),fun c' h=>by
     simp only[Option.some.injEq,BK.chan.injEq]at h;subst h
     exact⟨rfl, #[],0,0,(show(w.heap.push (Obj.chan c #[] false 0 0 false))[w.heap.size]? =some (Obj.chan c #[] false 0 0 false) by simp),rfl,fun i cs h=>by simp at h⟩⟩
    exact hK _ _ ⟨_,D,_,rfl,Step.stay S (fun k hk=>Below.heap_alloc _ _ _ hk) (by simp) rfl rfl rfl (fun _ h=>h) (fun _ h=>.inl h) (eY hf),S1,.qx _ _ _ (dH _ _ _) rfl,Us.upd⟩
   case inr.inl=>
    rw[fM]
    subst hg Nu Kl
    have e9:w.heap.size<(w.alloc (.map #[] 0)).heap.size:=by simp
    have S':=S.stay (w':=w.alloc (.map #[] 0)) (D':=D) (ι':=ι) (fun k hk=>Below.heap_alloc _ _ _ hk) (by simp) (fun _ h=>h) (fun b hd=>Nat.lt_trans (S.dead b hd) e9) (fun _ h=>.inl h) (fun _ _ h=>h)
    have S1:=S.add S' (id:=⟨vo.site,n⟩) (B:=⟨w.heap.size,m.nA,0,some (.map m)⟩) (r:=⟨true,m.nA,[]⟩) hf (Nat.le_refl _) ⟨rfl,fun cs h=>by simp at h,fun h=>by simp at h,fun m' h=>by
     simp only[Option.some.injEq,BK.map.injEq]at h;subst h
     exact⟨rfl, #[],0,(show(w.heap.push (Obj.map #[] 0))[w.heap.size]? =some (Obj.map #[] 0) by simp),rfl,⟨fun cs h=>by simp at h,fun x h=>by simp at h,by simp⟩,fun i cs h=>by simp at h⟩,fun c h=>by simp at h⟩
    exact hK _ _ ⟨_,D,_,rfl,Step.stay S (fun k hk=>Below.heap_alloc _ _ _ hk) (by simp) rfl rfl rfl (fun _ h=>h) (fun _ h=>.inl h) (eY hf),S1,.map _ _ _ (dH _ _ _) rfl,Us.upd⟩
   rw[fM]
   subst hg
   have S1:=S.alloc (id:=⟨vo.site,n⟩) (w':=w.alloc (.cells cells T)) rfl hf h1 h2 h3 h4 h5
   refine hK _ _ ⟨u,D,_,rfl,Step.stay S (fun k hk=>Below.heap_alloc _ _ _ hk) (by simp) rfl rfl rfl (fun _ h=>h) (fun _ h=>.inl h) (eY hf),S1,(h6 (ke ι _ _) (dH _ _ _)).frame (fun b hd=>Below.heap_alloc _ _ _ (S.dead b hd)) (fun _ h=>h) (fun _ _ h=>h),Us.upd⟩
 have Oy:gE vo.op (cE env) g ⟨vo.site,n⟩=some (v,g')->(∀JI,B4 P hs a o JI D ι ⟨vo.site,n⟩ v g'->JI=w->o.wp P a w K Q):=by
  intro _ JI hE he
  subst he
  obtain⟨u,w',ι',fM,T,S',hR,hι⟩:=hE
  have HD:Li P hs D ι JI U vo.site n a o.dst v g' (a.put o.dst u) w':=⟨u,D,ι',rfl,T,S',hR,fun id hid=>by
   by_cases he:id=⟨vo.site,n⟩
   ·subst he;exact .inr ⟨rfl,.inr rfl⟩
   ·rw[hι id he]at hid
    exact(Us.more (U':=fun x=>U x∨x=vo.site) fun _ h=>Or.inl h) id hid⟩
  unfold Oper.wp
  rcases fM with fM|⟨fM,rfl⟩
  ·rw[fM];exact hK _ _ HD
  ·rw[fM];exact hK _ _ HD
 unfold VS at hv
 split at hv
 ·rename_i f args dL
  rw[dL]at hc
  obtain⟨c,ho,j9,Ei,mY⟩:=A6 hc
  refine Am f _ (c.args.map a.eval) hv (nL E mY) ?_
  simp only[execOp,ho,resolve,j9,Deferred.ofValue,Act.eval,Sem.run_bind,Sem.run_pure,Result.andThen_ok,invoke,Array.empty_append,Array.append_empty]
  exact jl Ei
 ·rename_i x args dL
  obtain⟨f,l,hx,hP⟩:=hv
  rw[dL]at hc
  obtain⟨c,t,ho,j9,rfl,mY⟩:=rY hc
  obtain⟨first,cz,he,Ei,hL⟩:=uo (v:=a.eval (.tmp t)) hx (E t) (nL E mY)
  refine Am f _ (first++c.args.map a.eval++cz) hP hL ?_
  simp only[execOp,ho,resolve,j9,he,Deferred.ofValue,Sem.run_bind,Sem.run_pure,Result.andThen_ok,invoke]
  exact jl Ei
 ·rename_i m x y dL
  have kz:=hc
  rw[dL]at kz
  obtain⟨t,x',y',ho,h1,h2,h3⟩:=FH kz
  have nw:=hv
  rw[dL]at nw
  simp only[gE,Option.map_eq_some_iff,Prod.mk.injEq]at nw
  obtain⟨g1,CK,rfl,rfl⟩:=nw
  exact Oy hv w (JY S E ho h1 h2 h3 CK) rfl
 ·rename_i m x y dL
  have kz:=hc
  rw[dL]at kz
  obtain⟨t,e,m',z,i,x',y',rfl,ho,h1,h2,h3,h4,h5,h6,h7⟩:=C0 kz
  have nw:=hv
  rw[dL]at nw
  simp only[gE,Option.bind_eq_some_iff]at nw
  obtain⟨ys,Et,nw⟩:=nw
  exact Oy hv w (Ho S E hf ho h1 h2 h3 h4 h5 h6 h7 Et nw) rfl
 ·rename_i m x y dL
  have kz:=hc
  rw[dL]at kz
  obtain⟨t,t2,e,m',x',y',rfl,ho,h1,h2,h3,h4⟩:=H8 kz
  have nw:=hv
  rw[dL]at nw
  simp only[gE,Option.bind_eq_some_iff]at nw
  obtain⟨ys,Et,nw⟩:=nw
  exact Oy hv w (Mu S E ho h1 h2 h3 h4 Et nw) rfl
 ·rename_i z x dL
  have kz:=hc
  rw[dL]at kz
  obtain⟨t,e,m',x',ho,h1,h2,h3,h4⟩:=FG kz
  have nw:=hv
  rw[dL]at nw
  simp only[gE,Option.map_eq_some_iff,Prod.mk.injEq]at nw
  obtain⟨g1,CK,rfl,rfl⟩:=nw
  exact Oy hv w (JX S E ho h1 h2 h3 h4 CK) rfl
 ·rename_i q xs dL
  have kz:=hc
  rw[dL]at kz
  have nw:=hv
  rw[dL]at nw
  simp only[gE,Option.map_eq_some_iff,Prod.mk.injEq]at nw
  obtain⟨g1,CK,rfl,rfl⟩:=nw
  rcases Nw kz with⟨t,x,k,y,m,z,x',k',y',ho,h1,h2,h3,h4,rfl,rfl⟩|⟨t,t',x,k,m,z,x',k',ho,h1,h2,h3,rfl,rfl⟩
  ·exact Oy hv w (Mw S E ho h1 h2 h3 h4 CK) rfl
  ·exact Oy hv w (Mv S E ho h1 h2 h3 CK) rfl
 ·obtain⟨mr,hq,hg⟩:=hv
  exact quiet mr hq hg
end
end Go.Proofs.YtgoelphibofcmaaGreat.V

namespace Go.Proofs.YtgoelphibofcmaaGreat.V
open Go.RowKit
variable {P:Program} {w w':World} {D D' D2:Nat->Prop} {ι ι' ι2:Names}
section
variable {g:Rows} {hs:Nat} {env:Env} {a:Act} {o:Oper} {id:Id} {v:AV}
theorem oF {ops:Array Oper} {nt site0 j:Nat} {draw mk:Bool} {bs:Array Nat} {hidden:List (Nat×Bool)} {vo:aM} (h:ko P ops nt site0 draw mk bs hidden j o=some vo):
  qh P o.op=some vo.op/\vo.dst=o.dst/\vo.site=site0+j/\(∀d,o.dst=some d->d<nt)/\(match o.guard with
   |none=>vo.guard=none
   |some (i,b)=>∃t,(ops[i]?).bind (·.dst)=some t/\vo.guard=some (t,b)):=by
 unfold ko at h
 simp only[Option.bind_eq_bind,Option.bind_eq_some_iff]at h
 obtain⟨v,hv,gd,hg,h⟩:=h
 split at h
 ·rename_i hd
  simp only[Option.pure_def,Option.some.injEq]at h
  subst h
  refine⟨hv,rfl,rfl,fun d Q6=>?_,?_⟩
  ·rw[Q6]at hd;simpa using hd
  ·unfold Cj at hg
   cases uL:o.guard with
   |none=>rw[uL]at hg;simp at hg;exact hg.symm
   |some p=>
    obtain⟨i,b⟩:=p
    rw[uL]at hg
    dsimp only at hg ⊢
    split at hg
    ·rename_i t ht
     simp at hg;exact⟨t,ht,hg.symm⟩
    ·simp at hg
 ·simp at h
theorem sn {ops:Array Oper} {vo:aM} (E:bD P w D ι env a) (hg:match o.guard with
   |none=>vo.guard=none
   |some (i,b)=>∃t,(ops[i]?).bind (·.dst)=some t/\vo.guard=some (t,b)):aK vo.guard env=Region.wanted o (yielded ops a.tmps):=by
 unfold Region.wanted
 cases uL:o.guard with
 |none=>rw[uL]at hg;simp only at hg;rw[hg];rfl
 |some p=>
  obtain⟨i,b⟩:=p
  rw[uL]at hg
  obtain⟨t,ht,hv⟩:=hg
  rw[hv]
  simp only[aK,yielded,ht,Option.bind_some]
  have hr:=E t
  by_cases dz:t<a.tmps.size
  ·have gF:a.tmps[t]? =some a.tmps[t]:=Array.getElem?_eq_getElem dz
   have hd:a.tmps.getD t undef=a.tmps[t]:=by simp[dz]
   rw[hd]at hr
   rw[gF]
   generalize a.tmps[t]=u at hr
   cases he:env t with
   |bool c=>rw[he]at hr;rw[eX hr];simp
   |_=>
    rw[he]at hr
    have:∀c,u≠.bool c:=by
     intro c hu
     subst hu
     cases hr with
     |eF _ _ h=>cases h
    cases u<;>simp_all
  ·have gF:a.tmps[t]? =none:=Array.getElem?_eq_none (Nat.le_of_not_lt dz)
   have hd:a.tmps.getD t undef=undef:=by simp[gF]
   rw[hd]at hr
   rw[gF]
   cases he:env t with
   |bool c=>rw[he]at hr;have:=eX hr;simp[undef]at this
   |_=>simp
theorem il {dst:Option Nat} {nt:Nat} {u:Value} (E:bD P w D ι env a) (hr:cq P w D ι v u) (hd:∀d,dst=some d->d<nt) (hs:a.tmps.size=nt):bD P w D ι (upd env dst v) (a.put dst u):=by
 intro t
 cases dst with
 |none=>exact E t
 |some d=>
  have dz:d<a.tmps.size:=by rw[hs];exact hd d rfl
  simp only[upd,Act.put]
  by_cases ht:t=d
  ·subst ht
   simp[dz];exact hr
  ·rw[if_neg ht]
   have:(a.tmps.setIfInBounds d u).getD t undef=a.tmps.getD t undef:=by
    simp only[Array.getD_eq_getD_getElem?]
    rw[Array.getElem?_setIfInBounds_ne (fun e=>ht e.symm)]
   rw[this];exact E t
theorem nQ {hs:Nat} (E:bD P w D ι env a) (T:Step hs D ι w D' ι' w'):bD P w' D' ι' env a:=fun t=>T.rep (E t)
theorem eS (a:Act) (dst:Option Tmp) (u:Value):(a.put dst u).tmps.size=a.tmps.size:=by cases dst<;>simp[Act.put]
theorem put_defers (a:Act) (dst:Option Tmp) (u:Value):(a.put dst u).defers=a.defers:=by cases dst<;>rfl
theorem yf {draw:Bool} {vo:aM} {σ:ar} {next:AV->ar->Prop} {U:Nat->Prop} {Q:Exit->Act->World->Prop} {K:Act->World->Prop} (hc:qh P o.op=some vo.op) (hv:fW (Sound P) draw vo env σ next) (S:fU P hs D ι σ.get w) (Us:Used ι σ.next U) (hU:¬U vo.site) (E:bD P w D ι env a)
  (hK:∀v σ' u D' ι' w',next v σ'->Step hs D ι w D' ι' w'->fU P hs D' ι' σ'.get w'->cq P w' D' ι' v u->Used ι' σ'.next (fun s=>U s∨s=vo.site)->σ.next<=σ'.next->K (a.put o.dst u) w'):o.wp P a w K Q:=by
 have close:∀v g',VS (Sound P) σ.next vo env σ.get v g'->next v ⟨g',σ.next⟩->o.wp P a w K Q:=fun v g' h1 h2=>
  Ae hc h1 S Us hU E fun a' w' ⟨u,D',ι',ha,T,S',hR,U'⟩=>by subst ha;exact hK v ⟨g',σ.next⟩ u D' ι' w' h2 T S' hR U' (Nat.le_refl _)
 have It:∀(f:Nat) (args:List AV) (vs:Array Value),Sound P f args ⟨σ.get,σ.next+1⟩ next->fh P w D ι args vs->(execOp a.eval o).run P w=.ok (.enter f vs) w->o.wp P a w K Q:=by
  intro f args vs h hA fM
  unfold Oper.wp
  rw[fM]
  refine(h hs D ι w vs S Us.next hA).mono ?_
  rintro e w' ⟨r,g',n',D',ι',u,rfl,hn,T,S',U',hle,hR⟩
  exact hK r ⟨g',n'⟩ u D' ι' w' hn T S' hR (U'.more fun _ h=>h.elim) (Nat.le_trans (Nat.le_succ _) hle)
 unfold fW at hv
 split at hv
 ·rename_i f args dL
  rcases hv with⟨r,hP,hn⟩|⟨_,hX⟩|⟨Ep,sz,rows,hM,hn⟩
  ·exact close r σ.get (by unfold VS;rw[dL];exact .inl ⟨hP,rfl⟩) hn
  rotate_left
  ·exact close _ _ (by unfold VS;rw[dL];exact .inr ⟨Ep,sz,rows,hM,rfl,rfl⟩) hn
  ·have kz:=hc
   rw[dL]at kz
   obtain⟨c,ho,j9,Ei,mY⟩:=A6 kz
   refine It f _ (c.args.map a.eval) hX (nL E mY) ?_
   simp only[execOp,ho,resolve,j9,Deferred.ofValue,Act.eval,Sem.run_bind,Sem.run_pure,Result.andThen_ok,invoke,Array.empty_append,Array.append_empty]
   exact jl Ei
 ·rename_i x args dL
  split at hv
  ·rename_i f cz hx
   have sQ:uk (cE env x) (args.map (cE env))=some (f,args.map (cE env)++cz):=by rw[hx];rfl
   rcases hv with⟨r,hP,hn⟩|⟨_,hX⟩|⟨Ep,sz,rows,hM,hn⟩
   ·exact close r σ.get (by unfold VS;rw[dL];exact⟨f,_,sQ,.inl ⟨hP,rfl⟩⟩) hn
   rotate_left
   ·exact close _ _ (by unfold VS;rw[dL];exact⟨f,_,sQ,.inr ⟨Ep,sz,rows,hM,rfl,rfl⟩⟩) hn
   ·have kz:=hc
    rw[dL]at kz
    obtain⟨c,t,ho,j9,rfl,mY⟩:=rY kz
    obtain⟨first,us,he,Ei,hL⟩:=uo (v:=a.eval (.tmp t)) sQ (E t) (nL E mY)
    refine It f _ (first++c.args.map a.eval++us) hX hL ?_
    simp only[execOp,ho,resolve,j9,he,Deferred.ofValue,Sem.run_bind,Sem.run_pure,Result.andThen_ok,invoke]
    exact jl Ei
  ·rename_i f cz hx
   have sQ:uk (cE env x) (args.map (cE env))=some (f,cz++args.map (cE env)):=by rw[hx];rfl
   rcases hv with⟨r,hP,hn⟩|⟨_,hX⟩|⟨Ep,sz,rows,hM,hn⟩
   ·exact close r σ.get (by unfold VS;rw[dL];exact⟨f,_,sQ,.inl ⟨hP,rfl⟩⟩) hn
   rotate_left
   ·exact close _ _ (by unfold VS;rw[dL];exact⟨f,_,sQ,.inr ⟨Ep,sz,rows,hM,rfl,rfl⟩⟩) hn
   ·have kz:=hc
    rw[dL]at kz
    obtain⟨c,t,ho,j9,rfl,mY⟩:=rY kz
    obtain⟨first,us,he,Ei,hL⟩:=uo (v:=a.eval (.tmp t)) sQ (E t) (nL E mY)
    refine It f _ (first++c.args.map a.eval++us) hX hL ?_
    simp only[execOp,ho,resolve,j9,he,Deferred.ofValue,Sem.run_bind,Sem.run_pure,Result.andThen_ok,invoke]
    exact jl Ei
  ·exact hv.elim
 ·rename_i m x y dL
  split at hv
  ·rename_i v' g' he
   exact close v' g' (by unfold VS;rw[dL];rw[dL]at he;exact he) hv
  ·exact hv.elim
 ·rename_i m x y dL
  split at hv
  ·rename_i v' g' he
   exact close v' g' (by unfold VS;rw[dL];rw[dL]at he;exact he) hv
  ·exact hv.elim
 ·rename_i m x y dL
  split at hv
  ·rename_i v' g' he
   exact close v' g' (by unfold VS;rw[dL];rw[dL]at he;exact he) hv
  ·exact hv.elim
 ·rename_i m x dL
  split at hv
  ·rename_i v' g' he
   exact close v' g' (by unfold VS;rw[dL];rw[dL]at he;exact he) hv
  ·exact hv.elim
 ·rename_i m x dL
  split at hv
  ·rename_i v' g' he
   exact close v' g' (by unfold VS;rw[dL];rw[dL]at he;exact he) hv
  ·exact hv.elim
 ·rename_i n1 n2 n3 n4 n5 n6 n7
  split at hv
  ·rename_i v' r hq
   refine close v' (bB σ.get ⟨vo.site,σ.next⟩ r) ?_ hv
   unfold VS
   split
   ·rename_i h;exact(n1 _ _ h).elim
   ·rename_i h;exact(n2 _ _ h).elim
   ·rename_i h;exact(n3 _ _ _ h).elim
   ·rename_i h;exact(n4 _ _ _ h).elim
   ·rename_i h;exact(n5 _ _ _ h).elim
   ·rename_i h;exact(n6 _ _ h).elim
   ·rename_i h;exact(n7 _ _ h).elim
   ·exact⟨some r,hq,rfl⟩
  ·rename_i v' hq
   refine close v' σ.get ?_ hv
   unfold VS
   split
   ·rename_i h;exact(n1 _ _ h).elim
   ·rename_i h;exact(n2 _ _ h).elim
   ·rename_i h;exact(n3 _ _ _ h).elim
   ·rename_i h;exact(n4 _ _ _ h).elim
   ·rename_i h;exact(n5 _ _ _ h).elim
   ·rename_i h;exact(n6 _ _ h).elim
   ·rename_i h;exact(n7 _ _ h).elim
   ·exact⟨none,hq,rfl⟩
  ·exact hv.elim
structure St (P:Program) (hs nt:Nat) (D:Nat->Prop) (ι:Names) (env:Env) (σ:ar) (a:Act) (w:World):Prop where
 sb:fU P hs D ι σ.get w
 used:Used ι σ.next (fun _=>False)
 env:bD P w D ι env a
 size:a.tmps.size=nt
theorem vw (rest:List Oper) {ops:Array Oper} {nt site0:Nat} {draw mk:Bool} {bs:Array Nat} {hidden:List (Nat×Bool)} {K:Env->ar->Prop} {Q:Exit->Act->World->Prop}:∀(l:List Oper) (vl:List aM) (j:Nat) (env:Env) (σ:ar) (a:Act) (w:World) (D:Nat->Prop) (ι:Names) (U:Nat->Prop),
  allM (ko P ops nt site0 draw mk bs hidden) l j=some vl->wpOps (Sound P) draw vl K env σ->fU P hs D ι σ.get w->Used ι σ.next U->(∀s,U s->s<site0+j)->bD P w D ι env a->a.tmps.size=nt->
  (∀iy σ' a' w' D' ι',K iy σ'->Step hs D ι w D' ι' w'->St P hs nt D' ι' iy σ' a' w'->a'.defers=a.defers->σ.next<=σ'.next->wpList P ops Q rest a' w')->wpList P ops Q (l++rest) a w:=by
 intro l
 induction l with
 |nil=>
  intro vl j env σ a w D ι U h hv S Us _ E e9 hQ
  simp[allM]at h;subst h
  exact hQ env ⟨σ.get,σ.next+1⟩ a w D ι hv (Step.refl _ _ _ _) ⟨S,Us.next,E,e9⟩ rfl (Nat.le_succ _)
 |cons o l ih=>
  intro vl j env σ a w D ι U h hv S Us hU E e9 hQ
  simp only[allM,Option.bind_eq_bind,Option.bind_eq_some_iff,Option.pure_def,Option.some.injEq]at h
  obtain⟨vo,iY,sk,rE,rfl⟩:=h
  obtain⟨hc,hd,AU,wP,hg⟩:=oF iY
  have hw:=sn (ops:=ops) (vo:=vo) E hg
  unfold wpOps at hv
  show wpList P ops Q (o::(l++rest)) a w
  unfold wpList
  rw[<-hw]
  split at hv
  ·rename_i FA
   rw[if_pos FA]
   refine .inl (yf hc hv S Us (fun h=>by have:=hU _ h;omega) E fun v σ' u D' ι' w' hn T S' hR U' hle=>?_)
   refine ih sk (j+1) (upd env vo.dst v) σ' (a.put o.dst u) w' D' ι' _ rE hn S' U' (fun s AQ=>by
    rcases AQ with h|h
    ·have:=hU _ h;omega
    ·omega) (by rw[hd];exact il (nQ E T) hR wP e9) (by rw[eS];exact e9) fun iy σ2 a' w2 D2 ι2 hk T2 Mb CI lz=>hQ iy σ2 a' w2 D2 ι2 hk (T.trans T2) Mb (CI.trans (put_defers _ _ _)) (Nat.le_trans hle lz)
  ·rename_i FA
   rw[if_neg FA]
   refine ih sk (j+1) (upd env vo.dst .undef) σ (a.put o.dst undef) w D ι U rE hv S Us (fun s AQ=>by have:=hU _ AQ;omega) (by rw[hd];exact il E cq.undef wP e9) (by rw[eS];exact e9) fun iy σ2 a' w2 D2 ι2 hk T2 Mb CI lz=>hQ iy σ2 a' w2 D2 ι2 hk T2 Mb (CI.trans (put_defers _ _ _)) lz
theorem xW {ops:Array Oper} {nt site0:Nat} {draw mk:Bool} {bs:Array Nat} {hidden:List (Nat×Bool)} {K:Env->ar->Prop} {Q:Exit->Act->World->Prop}:∀(l:List Oper) (vl:List aM) (j:Nat) (env:Env) (σ:ar) (a:Act) (w:World) (D:Nat->Prop) (ι:Names) (U:Nat->Prop),
  allM (ko P ops nt site0 draw mk bs hidden) l j=some vl->wpOps (Sound P) draw vl K env σ->fU P hs D ι σ.get w->Used ι σ.next U->(∀s,U s->s<site0+j)->bD P w D ι env a->a.tmps.size=nt->
  (∀iy σ' a' w' D' ι',K iy σ'->Step hs D ι w D' ι' w'->St P hs nt D' ι' iy σ' a' w'->a'.defers=a.defers->σ.next<=σ'.next->Q .normal a' w')->wpList P ops Q l a w:=fun l vl j env σ a w D ι U h hv S Us hU E e9 hQ=>by
 have:=vw [] l vl j env σ a w D ι U h hv S Us hU E e9 hQ
 rwa [List.append_nil]at this
end
end Go.Proofs.YtgoelphibofcmaaGreat.V

namespace Go.Proofs.YtgoelphibofcmaaGreat.V
open Go.RowKit
variable {P:Program} {w w':World} {D D' D2:Nat->Prop} {ι ι' ι2:Names}
section
variable {hs:Nat} {X:fu}
theorem aO {env iJ:Env} {x:O} (h:∀t∈gH x,env t=iJ t):cE env x=cE iJ x:=by
 cases x with
 |t n=>exact h n (by simp[gH])
 |_=>rfl
theorem map_congr {env iJ:Env} {l:List O} (h:∀t∈l.flatMap gH,env t=iJ t):l.map (cE env)=l.map (cE iJ):=
 List.map_congr_left fun x hx=>aO fun t ht=>h t (List.mem_flatMap.2 ⟨x,hx,ht⟩)
theorem oM {env iJ:Env} {x:Option O} (h:∀t∈vB x,env t=iJ t):x.map (cE env)=x.map (cE iJ):=by
 cases x with
 |none=>rfl
 |some y=>simp only[Option.map_some];rw[aO h]
theorem r9 {env iJ:Env} {o:fX} {g:Rows} {id:Id} (h:∀t∈o.gm,env t=iJ t):eU o (cE env) g id=eU o (cE iJ) g id:=by
 cases o<;>simp only[fX.gm,List.mem_append]at h<;>simp only[eU]
 case cH x=>rw[aO h]
 case pick c a b=>rw[aO (x:=c) fun t ht=>h t (.inl (.inl ht)),aO (x:=a) fun t ht=>h t (.inl (.inr ht)),aO (x:=b) fun t ht=>h t (.inr ht)]
 case box x=>rw[aO h]
 case build z ps=>
  have:(ps.map fun(x:Nat×Nat×O)=>(x.1,x.2.1,cE env x.2.2))=ps.map fun(x:Nat×Nat×O)=>(x.1,x.2.1,cE iJ x.2.2):=List.map_congr_left fun x hx=>by
   rw[aO (x:=x.2.2) fun t ht=>h t (List.mem_flatMap.2 ⟨x,hx,ht⟩)]
  rw[this]
 case kn a b l=>rw[map_congr h]
 case load a n x=>rw[aO h]
 case zU x=>rw[aO h]
 case bin a b x y=>rw[aO (x:=x) fun t ht=>h t (.inl ht),aO (x:=y) fun t ht=>h t (.inr ht)]
 case sh a x y=>rw[aO (x:=x) fun t ht=>h t (.inl ht),aO (x:=y) fun t ht=>h t (.inr ht)]
 case JU a x y=>rw[aO (x:=x) fun t ht=>h t (.inl ht),aO (x:=y) fun t ht=>h t (.inr ht)]
 case Mx a b x y=>rw[aO (x:=x) fun t ht=>h t (.inl ht),aO (x:=y) fun t ht=>h t (.inr ht)]
 case QO a b x y=>rw[aO (x:=x) fun t ht=>h t (.inl ht),aO (x:=y) fun t ht=>h t (.inr ht)]
 case Pf a b x=>rw[aO h]
 case QP a x=>rw[aO h]
 case not x=>rw[aO h]
 case neg x=>rw[aO h]
 case conv k x=>rw[aO h]
 case D6 x=>rw[aO h]
 case slice s x lo hi=>rw[aO (x:=x) fun t ht=>h t (.inl (.inl ht)),oM (x:=lo) fun t ht=>h t (.inl (.inr ht)),oM (x:=hi) fun t ht=>h t (.inr ht)]
 case zB x lo hi=>rw[aO (x:=x) fun t ht=>h t (.inl (.inl ht)),oM (x:=lo) fun t ht=>h t (.inl (.inr ht)),oM (x:=hi) fun t ht=>h t (.inr ht)]
 case fG k x=>rw[aO h]
 case field a b c x=>rw[aO h]
 case dy s x y=>rw[aO (x:=x) fun t ht=>h t (.inl ht),aO (x:=y) fun t ht=>h t (.inr ht)]
 case Kt n s x y=>rw[aO (x:=x) fun t ht=>h t (.inl ht),aO (x:=y) fun t ht=>h t (.inr ht)]
 case Kv x y=>rw[aO (x:=x) fun t ht=>h t (.inl ht),aO (x:=y) fun t ht=>h t (.inr ht)]
 case ek a b c x y=>rw[aO (x:=x) fun t ht=>h t (.inl ht),aO (x:=y) fun t ht=>h t (.inr ht)]
 case extract i x=>rw[aO h]
 case len x=>rw[aO h]
 case KB x=>rw[aO h]
 case Im x=>rw[aO h]
 case Ig x=>rw[aO h]
 case KF f l=>rw[map_congr h]
 case KG f l=>rw[map_congr h]
 case mq f l=>rw[map_congr h]
 case jK z x y=>rw[aO (x:=x) fun t ht=>h t (.inl ht),aO (x:=y) fun t ht=>h t (.inr ht)]
theorem gM {env iJ:Env} {o:fX} {g:Rows} {id:Id} (h:∀t∈o.gm,env t=iJ t):gE o (cE env) g id=gE o (cE iJ) g id:=by
 cases o<;>simp only[fX.gm,List.mem_append]at h<;>simp only[gE]
 case clear z x=>rw[aO h]
 case mw f l=>rw[map_congr h]
 all_goals rename_i a x y
 all_goals rw[aO (x:=x) fun t ht=>h t (.inl ht),aO (x:=y) fun t ht=>h t (.inr ht)]
theorem G5 {n:Nat} {vo:aM} {env iJ:Env} {g g':Rows} {v:AV} (h:∀t∈vo.op.gm,env t=iJ t) (hv:VS X n vo env g v g'):VS X n vo iJ g v g':=by
 unfold VS at hv ⊢
 split at hv
 ·rename_i f args dL
  rw[dL]at h
  simp only[fX.gm]at h
  rw[<-map_congr h];exact hv
 ·rename_i x args dL
  rw[dL]at h
  simp only[fX.gm,List.mem_append]at h
  rw[<-map_congr (l:=args) fun t ht=>h t (.inr ht),<-aO (x:=x) fun t ht=>h t (.inl ht)];exact hv
 ·rw[<-gM h];exact hv
 ·rw[<-gM h];exact hv
 ·rw[<-gM h];exact hv
 ·rw[<-gM h];exact hv
 ·rw[<-gM h];exact hv
 ·rw[<-r9 h];exact hv
theorem Da {q:MQ} {vs:List AV} {g:Rows} {id:Id} {v:AV} {r:Row} (h:bF q vs g id=some (v,some r)):∃m,q=.new m:=by
 unfold bF at h
 split at h
 ·exact⟨_,rfl⟩
 ·simp[Option.bind_eq_some_iff]at h
 ·simp at h
 ·cases h
theorem vI {o:fX} {ρ:O->AV} {g:Rows} {id:Id} {v:AV} {r:Row} (h:eU o ρ g id=some (v,some r)):p7 o=true:=by
 cases o<;>simp only[eU]at h<;>(try rfl)<;>(try simp at h)
 case mq q xs=>obtain⟨m,rfl⟩:=Da h;rfl
 all_goals (try(split at h<;>simp at h))
theorem vJ {o:fX} {ρ:O->AV} {g g2:Rows} {id id2:Id} (h:o.cls=.pure):eU o ρ g id=eU o ρ g2 id2:=by
 cases o<;>(try simp[fX.cls]at h)<;>(try simp only[eU])
 case mq q xs=>cases q<;>simp[fX.cls]at h
theorem ug {n:Nat} {vo:aM} {env:Env} {g g':Rows} {v:AV} (hw:vo.op.cls≠.write) (hv:VS X n vo env g v g'):∃mr,g'=iZ g ⟨vo.site,n⟩ mr/\(mr≠none->vo.makes=true)/\∀g0,gy vo.hid n g0=gy vo.hid n g->VS X n vo env g0 v (iZ g0 ⟨vo.site,n⟩ mr):=by
 unfold VS at hv
 split at hv
 ·rename_i f args dL
  rcases hv with⟨h1,rfl⟩|⟨hs,sz,rows,hM,rfl,rfl⟩
  ·refine⟨none,rfl,fun h=>(h rfl).elim,fun g0 h0=>?_⟩
   unfold VS;rw[dL];simp only;unfold um;rw[h0];exact .inl ⟨h1,rfl⟩
  ·refine⟨some _,rfl,fun _=>by unfold aM.makes;rw[dL,hs];simp[fX.lD],fun g0 h0=>?_⟩
   unfold VS;rw[dL];simp only;unfold um;rw[h0];exact .inr ⟨hs,sz,rows,hM,rfl,rfl⟩
 ·rename_i x args dL
  obtain⟨f,cz,hx,hv⟩:=hv
  rcases hv with⟨h1,rfl⟩|⟨hs,sz,rows,hM,rfl,rfl⟩
  ·refine⟨none,rfl,fun h=>(h rfl).elim,fun g0 h0=>?_⟩
   unfold VS;rw[dL];simp only;unfold um;rw[h0];exact⟨f,cz,hx,.inl ⟨h1,rfl⟩⟩
  ·refine⟨some _,rfl,fun _=>by unfold aM.makes;rw[dL,hs];simp[fX.lD],fun g0 h0=>?_⟩
   unfold VS;rw[dL];simp only;unfold um;rw[h0];exact⟨f,cz,hx,.inr ⟨hs,sz,rows,hM,rfl,rfl⟩⟩
 ·rename_i dL;rw[dL]at hw;exact(hw rfl).elim
 ·rename_i dL;rw[dL]at hw;exact(hw rfl).elim
 ·rename_i dL;rw[dL]at hw;exact(hw rfl).elim
 ·rename_i dL;rw[dL]at hw;exact(hw rfl).elim
 ·rename_i dL;rw[dL]at hw;exact(hw rfl).elim
 ·rename_i n1 n2 n3 n4 n5 n6 n7
  obtain⟨mr,hq,rfl⟩:=hv
  refine⟨mr,rfl,fun h=>?_,fun g0 h0=>?_⟩
  ·cases mr with
   |none=>exact(h rfl).elim
   |some r=>unfold aM.makes;rw[vI hq];rfl
  ·unfold VS
   split
   ·rename_i hh;exact(n1 _ _ hh).elim
   ·rename_i hh;exact(n2 _ _ hh).elim
   ·rename_i hh;exact(n3 _ _ _ hh).elim
   ·rename_i hh;exact(n4 _ _ _ hh).elim
   ·rename_i hh;exact(n5 _ _ _ hh).elim
   ·rename_i hh;exact(n6 _ _ hh).elim
   ·rename_i hh;exact(n7 _ _ hh).elim
   ·rw[h0];exact⟨mr,hq,rfl⟩
theorem yn {n:Nat} {vo:aM} {env:Env} {g g':Rows} {v:AV} (hp:vo.op.cls=.pure) (hv:VS X n vo env g v g'):g'=g/\∀g0,VS X n vo env g0 v g0:=by
 unfold VS at hv
 split at hv
 ·rename_i dL;rw[dL]at hp;simp[fX.cls]at hp
 ·rename_i dL;rw[dL]at hp;simp[fX.cls]at hp
 ·rename_i dL;rw[dL]at hp;simp[fX.cls]at hp
 ·rename_i dL;rw[dL]at hp;simp[fX.cls]at hp
 ·rename_i dL;rw[dL]at hp;simp[fX.cls]at hp
 ·rename_i dL;rw[dL]at hp;simp[fX.cls]at hp
 ·rename_i dL;rw[dL]at hp;simp[fX.cls]at hp
 ·rename_i n1 n2 n3 n4 n5 n6 n7
  obtain⟨mr,hq,rfl⟩:=hv
  have SO:mr=none:=by
   cases mr with
   |none=>rfl
   |some r=>have:=vI hq;simp[p7,hp]at this
  subst SO
  refine⟨rfl,fun g0=>?_⟩
  unfold VS
  split
  ·rename_i hh;exact(n1 _ _ hh).elim
  ·rename_i hh;exact(n2 _ _ hh).elim
  ·rename_i hh;exact(n3 _ _ _ hh).elim
  ·rename_i hh;exact(n4 _ _ _ hh).elim
  ·rename_i hh;exact(n5 _ _ _ hh).elim
  ·rename_i hh;exact(n6 _ _ hh).elim
  ·rename_i hh;exact(n7 _ _ hh).elim
  ·exact⟨none,by rw[vJ hp];exact hq,rfl⟩
def GS (X:fu) (n:Nat) (vo:aM) (env:Env) (g:Rows) (v:AV) (g':Rows):Prop:=
 if aK vo.guard env then VS X n vo env g v g' else v=.undef/\g'=g
theorem BH {hid:List Nat} {g:Rows} {s n:Nat} {mr:Option Row} (h:mr≠none->hid.contains s=true):gy hid n (iZ g ⟨s,n⟩ mr)=gy hid n g:=by
 cases mr with
 |none=>rfl
 |some r=>
  have hc:=h (by simp)
  cases hid with
  |nil=>simp at hc
  |cons a l=>
   funext i
   show(if (a::l).contains i.site=true/\i.aZ=n then none else iZ g ⟨s,n⟩ (some r) i)=if (a::l).contains i.site=true/\i.aZ=n then none else g i
   by_cases hi:i=⟨s,n⟩
   ·subst hi;rw[if_pos ⟨hc,rfl⟩,if_pos ⟨hc,rfl⟩]
   ·simp only[iZ,bB,if_neg hi]
theorem E0 {g:Rows} {i j:Id} (h:i≠j) (m1 m2:Option Row):iZ (iZ g i m1) j m2=iZ (iZ g j m2) i m1:=by
 cases m1<;>cases m2<;>simp only[iZ]
 funext k
 simp only[bB]
 by_cases h1:k=i
 ·subst h1;rw[if_neg h,if_pos rfl];simp
 ·by_cases h2:k=j
  ·subst h2;simp[h1]
  ·simp[h1,h2]
theorem wm {env:Env} {d e:Option Nat} {v u:AV} (h:∀k,d=some k->e≠some k):upd (upd env d v) e u=upd (upd env e u) d v:=by
 cases d with
 |none=>rfl
 |some d=>
  cases e with
  |none=>rfl
  |some e=>
   have fZ:d≠e:=fun he=>h d rfl (by rw[he])
   funext t
   simp only[upd]
   by_cases h1:t=d
   ·subst h1;rw[if_neg fZ,if_pos rfl,if_pos rfl]
   ·by_cases h2:t=e
    ·subst h2;rw[if_pos rfl,if_neg h1,if_pos rfl]
    ·simp[h1,h2]
theorem l5 {env:Env} {d:Option Nat} {v:AV} {l:List Nat} (h:∀k,d=some k->k∉l):∀t∈l,upd env d v t=env t:=by
 intro t ht
 cases d with
 |none=>rfl
 |some d=>
  have:t≠d:=fun he=>h d rfl (he▸ht)
  simp[upd,this]
structure B5 (x y:aM):Prop where
 xy:∀k,x.dst=some k->k∉y.gm
 yx:∀k,y.dst=some k->k∉x.gm
 dst:∀k,x.dst=some k->y.dst≠some k
 cls:clash x.op.cls y.op.cls=false
 hx:x.makes=true->y.hid.contains x.site=true
 hy:y.makes=true->x.hid.contains y.site=true
 site:x.site≠y.site
theorem B5.symm {x y:aM} (h:B5 x y):B5 y x:=
 ⟨h.yx,h.xy,fun k hk he=>h.dst k he hk,by have:=h.cls;revert this;cases x.op.cls<;>cases y.op.cls<;>simp[clash],h.hy,h.hx,fun e=>h.site e.symm⟩
theorem pO {x y:aM} (h:Ef x y=true):B5 x y:=by
 unfold Ef at h
 simp only[Bool.and_eq_true,Bool.not_eq_true',Bool.or_eq_true,bne_iff_ne]at h
 obtain⟨⟨⟨⟨h1,h2⟩,h3⟩,h4⟩,h5⟩:=h
 unfold sj at h1
 simp only[Bool.and_eq_true]at h1
 obtain⟨a1,a2⟩:=h1
 refine⟨fun k hk=>?_,fun k hk=>?_,fun k hk=>?_,h2,fun hm=>?_,fun hm=>?_,h5⟩
 ·rw[hk]at a1;simp at a1;exact a1.1
 ·rw[hk]at a2;simpa using a2
 ·rw[hk]at a1;simp at a1;exact a1.2
 ·rcases h3 with h3|h3
  ·rw[hm]at h3;cases h3
  ·exact h3
 ·rcases h4 with h4|h4
  ·rw[hm]at h4;cases h4
  ·exact h4
theorem qY {vo:aM} {t:Nat} (h:t∈vo.op.gm):t∈vo.gm:=List.mem_append_left _ h
theorem mL {vo:aM} {env iJ:Env} (h:∀t∈vo.gm,env t=iJ t):aK vo.guard env=aK vo.guard iJ:=by
 unfold aK
 cases hg:vo.guard with
 |none=>rfl
 |some p=>
  obtain⟨t,b⟩:=p
  have:env t=iJ t:=h t (List.mem_append_right _ (by rw[hg];simp))
  simp only[this]
theorem ua {n:Nat} {vo:aM} {env iJ:Env} {g g':Rows} {v:AV} (h:∀t∈vo.gm,env t=iJ t) (hv:GS X n vo env g v g'):GS X n vo iJ g v g':=by
 unfold GS at hv ⊢
 rw[<-mL h]
 split at hv
 ·rename_i hw;rw[if_pos hw];exact G5 (fun t ht=>h t (qY ht)) hv
 ·rename_i hw;rw[if_neg hw];exact hv
theorem DR {n:Nat} {x y:aM} {env:Env} {g g1 g2:Rows} {v v':AV} (F:B5 x y) (h1:GS X n x env g v g1) (h2:GS X n y (upd env x.dst v) g1 v' g2):
  ∃J1,GS X n y env g v' J1/\GS X n x (upd env y.dst v') J1 v g2/\upd (upd env x.dst v) y.dst v'=upd (upd env y.dst v') x.dst v:=by
 have LM:=wm (env:=env) (v:=v) (u:=v') F.dst
 replace h2:GS X n y env g1 v' g2:=ua (l5 F.xy) h2
 have back:∀{J1},GS X n x env J1 v g2->GS X n x (upd env y.dst v') J1 v g2:=fun h=>ua (fun t ht=>(l5 F.yx t ht).symm) h
 unfold GS at h1 h2
 by_cases wx:aK x.guard env=true
 ·rw[if_pos wx]at h1
  by_cases wy:aK y.guard env=true
  ·rw[if_pos wy]at h2
   by_cases cx:x.op.cls=.write
   ·have cy:y.op.cls=.pure:=by
     have:=F.cls;rw[cx]at this
     cases hc:y.op.cls<;>simp[clash,hc]at this ⊢
    obtain⟨rfl,dF⟩:=yn cy h2
    exact⟨g,by unfold GS;rw[if_pos wy];exact dF g,back (by unfold GS;rw[if_pos wx];exact h1),LM⟩
   ·by_cases cy:y.op.cls=.write
    ·have cx':x.op.cls=.pure:=by
      have:=F.cls;rw[cy]at this
      cases hc:x.op.cls<;>simp[clash,hc]at this ⊢
     obtain⟨rfl,dF⟩:=yn cx' h1
     exact⟨g2,by unfold GS;rw[if_pos wy];exact h2,back (by unfold GS;rw[if_pos wx];exact dF g2),LM⟩
    ·obtain⟨mx,rfl,kx,RP⟩:=ug cx h1
     obtain⟨my,rfl,ky,Mg⟩:=ug cy h2
     have fZ:(⟨x.site,n⟩:Id)≠⟨y.site,n⟩:=fun e=>F.site (by injection e)
     refine⟨iZ g ⟨y.site,n⟩ my,?_,back ?_,LM⟩
     ·unfold GS;rw[if_pos wy]
      exact Mg g (BH fun h=>F.hx (kx h)).symm
     ·unfold GS;rw[if_pos wx,E0 fZ]
      exact RP _ (BH fun h=>F.hy (ky h))
  ·rw[if_neg wy]at h2
   obtain⟨rfl,rfl⟩:=h2
   exact⟨g,by unfold GS;rw[if_neg wy];exact⟨rfl,rfl⟩,back (by unfold GS;rw[if_pos wx];exact h1),LM⟩
 ·rw[if_neg wx]at h1
  obtain⟨rfl,rfl⟩:=h1
  exact⟨g2,h2,back (by unfold GS;rw[if_neg wx];exact⟨rfl,rfl⟩),LM⟩
end
end Go.Proofs.YtgoelphibofcmaaGreat.V

namespace Go.Proofs.YtgoelphibofcmaaGreat.V
open Go.RowKit
variable {P:Program} {w w':World} {D D' D2:Nat->Prop} {ι ι' ι2:Names}
section
variable {hs:Nat} {X:fu}
def ja (acc:Array Nat) (o:Oper):Nat:=o.after.foldl (fun s e=>if Region.binds .any e then s|||2 ^ e.on|||acc.getD e.on 0 else s) 0
theorem JQ (ops:Array Oper):jo ops=ops.foldl (fun acc o=>acc.push (ja acc o)) #[]:=rfl
theorem Aj {acc:Array Nat} {o:Oper} {i:Nat} (h:(ja acc o).testBit i=true):∃e∈o.after,Region.binds .any e=true/\(e.on=i∨(acc.getD e.on 0).testBit i=true):=by
 unfold ja at h
 rw[<-Array.foldl_toList]at h
 have gen:∀(l:List Edge) (s:Nat),(l.foldl (fun s e=>if Region.binds .any e then s|||2 ^ e.on|||acc.getD e.on 0 else s) s).testBit i=true->s.testBit i=true∨∃e∈l,Region.binds .any e=true/\(e.on=i∨(acc.getD e.on 0).testBit i=true):=by
  intro l
  induction l with
  |nil=>intro s h;exact .inl h
  |cons e r ih=>
   intro s h
   rw[List.foldl_cons]at h
   rcases ih _ h with h|⟨e',J7,h'⟩
   ·by_cases hb:Region.binds .any e=true
    ·rw[if_pos hb]at h
     simp only[Nat.testBit_or,Bool.or_eq_true]at h
     rcases h with(h|h)|h
     ·exact .inl h
     ·refine .inr ⟨e,by simp,hb,.inl ?_⟩
      rw[Nat.testBit_two_pow]at h
      simpa using h
     ·exact .inr ⟨e,by simp,hb,.inr h⟩
    ·rw[if_neg hb]at h;exact .inl h
   ·exact .inr ⟨e',List.mem_cons_of_mem _ J7,h'⟩
 rcases gen _ _ h with h|⟨e,he,h⟩
 ·simp at h
 ·exact⟨e,Array.mem_toList_iff.1 he,h⟩
theorem He {ops:Array Oper} {j i:Nat} (h:((jo ops).getD j 0).testBit i=true):∃o,ops[j]? =some o/\∃e∈o.after,Region.binds .any e=true/\(e.on=i∨((jo ops).getD e.on 0).testBit i=true):=by
 have key:∀(l pre:List Oper) (acc:Array Nat),acc.size=pre.length->(∀j i,(acc.getD j 0).testBit i=true->∃o,pre[j]? =some o/\∃e∈o.after,Region.binds .any e=true/\(e.on=i∨(acc.getD e.on 0).testBit i=true))->
   ∀j i,((l.foldl (fun acc o=>acc.push (ja acc o)) acc).getD j 0).testBit i=true->∃o,(pre++l)[j]? =some o/\∃e∈o.after,Region.binds .any e=true/\(e.on=i∨((l.foldl (fun acc o=>acc.push (ja acc o)) acc).getD e.on 0).testBit i=true):=by
  intro l
  induction l with
  |nil=>intro pre acc _ h j i hb;simpa using h j i hb
  |cons o r ih=>
   intro pre acc e9 h j i hb
   have xV:∀k,k<acc.size->(acc.push (ja acc o)).getD k 0=acc.getD k 0:=fun k hk=>by
    simp only[Array.getD_eq_getD_getElem?,Array.getElem?_push]
    rw[if_neg (by omega)]
   have big:∀k,acc.size<=k->acc.getD k 0=0:=fun k hk=>by simp[Array.getElem?_eq_none hk]
   have lift:∀k i,(acc.getD k 0).testBit i=true->((acc.push (ja acc o)).getD k 0).testBit i=true:=fun k i hk=>by
    by_cases dz:k<acc.size
    ·rw[xV k dz];exact hk
    ·rw[big k (by omega)]at hk;simp at hk
   have:=ih (pre++[o]) (acc.push (ja acc o)) (by simp[e9]) (fun j i hb=>by
    by_cases dz:j<acc.size
    ·rw[xV j dz]at hb
     obtain⟨o',BW,e,he,fw,h2⟩:=h j i hb
     refine⟨o',by rw[List.getElem?_append_left (by omega)];exact BW,e,he,fw,?_⟩
     rcases h2 with h2|h2
     ·exact .inl h2
     ·exact .inr (lift _ _ h2)
    ·by_cases hj:j=acc.size
     ·subst hj
      have e0:(acc.push (ja acc o)).getD acc.size 0=ja acc o:=by simp
      rw[e0]at hb
      obtain⟨e,he,fw,h2⟩:=Aj hb
      refine⟨o,by rw[List.getElem?_append_right (by omega),e9];simp,e,he,fw,?_⟩
      rcases h2 with h2|h2
      ·exact .inl h2
      ·exact .inr (lift _ _ h2)
     ·have:(acc.push (ja acc o)).getD j 0=0:=by
       simp only[Array.getD_eq_getD_getElem?]
       rw[Array.getElem?_eq_none (by simp;omega)];rfl
      rw[this]at hb;simp at hb) j i (by simpa using hb)
   simpa using this
 rw[JQ,<-Array.foldl_toList]at h ⊢
 have:=key ops.toList [] #[] rfl (fun j i h=>by simp at h) j i h
 simpa using this
def DC (ops:Array Oper) (listed:Array Bool):Prop:=∀k i,listed.getD k false=true->((jo ops).getD k 0).testBit i=true->listed.getD i false=true
theorem kH {ops:Array Oper} {listed:Array Bool} (h:DC ops listed) {j:Nat} (hj:j∈Region.ready .any ops listed):∀i,((jo ops).getD j 0).testBit i=true->listed.getD i false=true:=by
 intro i hb
 obtain⟨_,o,ho,dF⟩:=mem_ready.1 hj
 obtain⟨o',BW,e,he,fw,h2⟩:=He hb
 rw[ho]at BW;injection BW with BW;subst BW
 have hl:=dF e he fw
 rcases h2 with h2|h2
 ·rw[<-h2];exact hl
 ·exact h _ _ hl h2
theorem DC.list {ops:Array Oper} {listed:Array Bool} (h:DC ops listed) {j:Nat} (hj:j∈Region.ready .any ops listed):DC ops (listed.setIfInBounds j true):=by
 intro k i hk hb
 by_cases hkj:k=j
 ·subst hkj;exact getD_set_true (kH h hj i hb)
 ·rw[getD_set_ne false (fun e=>hkj e.symm)]at hk
  exact getD_set_true (h k i hk hb)
theorem iR {ops:Array Oper} {listed:Array Bool} {j:Nat} (hj:j∈Region.ready .any ops listed):listed.getD j false=false:=by
 have h0:=(mem_ready.1 hj).1
 rcases Nat.lt_or_ge j listed.size with h|h
 ·simp[h]at h0 ⊢;exact h0
 ·simp[Array.getElem?_eq_none h]at h0
def Jc (X:fu) (n:Nat) (ops:Array Oper) (vl:List aM) (K:Env->Rows->Prop):Nat->Array Bool->Env->Rows->Prop
 |0,listed,env,g=>Region.ready .any ops listed=[]/\K env g
 |f+1,listed,env,g=>(Region.ready .any ops listed=[]->K env g)/\∀i∈Region.ready .any ops listed,∃vo,vl[i]? =some vo/\∃v g',GS X n vo env g v g'/\Jc X n ops vl K f (listed.setIfInBounds i true) (upd env vo.dst v) g'
theorem Au {ops:Array Oper} {vl:List aM} (h:nP ops vl (jo ops)=true) {i j:Nat} {x y:aM} (hi:vl[i]? =some x) (hj:vl[j]? =some y) (Em:i≠j) (h1:((jo ops).getD j 0).testBit i=false) (h2:((jo ops).getD i 0).testBit j=false):B5 x y:=by
 unfold nP at h
 simp only[Bool.and_eq_true,List.all_eq_true]at h
 obtain⟨_,h⟩:=h
 have mem:∀(k:Nat) (z:aM),vl[k]? =some z->(z,k)∈vl.zipIdx:=fun k z hk=>by
  rw[List.mem_iff_getElem?]
  exact⟨k,by simp[List.getElem?_zipIdx,hk]⟩
 rcases Nat.lt_or_gt_of_ne Em with dz|Ka
 ·have:=h _ (mem j y hj) _ (mem i x hi)
  simp only[dz,decide_true,Bool.not_true,Bool.false_or,h1]at this
  exact pO this
 ·have:=h _ (mem i x hi) _ (mem j y hj)
  simp only[Ka,decide_true,Bool.not_true,Bool.false_or,h2]at this
  exact(pO this).symm
theorem DN {n:Nat} {ops:Array Oper} {vl:List aM} {K:Env->Rows->Prop} (uP:nP ops vl (jo ops)=true) (hlen:vl.length=ops.size) {i:Nat} {vi:aM} (hi:vl[i]? =some vi) {v:AV}:∀(fuel:Nat) (listed:Array Bool) (env:Env) (g g1:Rows),
  DC ops listed->i∈Region.ready .any ops listed->GS X n vi env g v g1->Jc X n ops vl K fuel (listed.setIfInBounds i true) (upd env vi.dst v) g1->Jc X n ops vl K (fuel+1) listed env g:=by
 intro fuel
 induction fuel with
 |zero=>
  intro listed env g g1 _ hr hG H
  refine⟨fun h=>(by rw[h]at hr;cases hr),fun j hj=>?_⟩
  by_cases l8:j=i
  ·subst l8;exact⟨vi,hi,v,g1,hG,H⟩
  ·have:=ready_mono hj l8
   rw[H.1]at this;cases this
 |succ fuel ih=>
  intro listed env g g1 rC hr hG H
  refine⟨fun h=>(by rw[h]at hr;cases hr),fun j hj=>?_⟩
  by_cases l8:j=i
  ·subst l8;exact⟨vi,hi,v,g1,hG,H⟩
  ·obtain⟨vj,Ko,v',g2,hG2,H2⟩:=H.2 j (ready_mono hj l8)
   have b1:((jo ops).getD j 0).testBit i=false:=by
    cases hb:((jo ops).getD j 0).testBit i with
    |false=>rfl
    |true=>have:=kH rC hj i hb;rw[iR hr]at this;cases this
   have b2:((jo ops).getD i 0).testBit j=false:=by
    cases hb:((jo ops).getD i 0).testBit j with
    |false=>rfl
    |true=>have:=kH rC hr j hb;rw[iR hj]at this;cases this
   have F:=Au uP hi Ko (fun e=>l8 e.symm) b1 b2
   obtain⟨J1,q1,q2,q3⟩:=DR F hG hG2
   refine⟨vj,Ko,v',J1,q1,ih _ _ _ g2 (rC.list hj) (ready_mono hr (fun e=>l8 e.symm)) q2 ?_⟩
   rw[<-q3,Array.setIfInBounds_comm _ _ l8]
   exact H2
theorem Md {n:Nat} {vo:aM} {env:Env} {g:Rows} {v:AV} {mr:Option Row} (h:eU vo.op (cE env) (gy vo.hid n g) ⟨vo.site,n⟩=some (v,mr)):VS X n vo env g v (iZ g ⟨vo.site,n⟩ mr):=by
 unfold VS
 split
 ·rename_i dL;rw[dL]at h;simp[eU]at h
 ·rename_i dL;rw[dL]at h;simp[eU]at h
 ·rename_i dL;rw[dL]at h;simp[eU]at h
 ·rename_i dL;rw[dL]at h;simp[eU]at h
 ·rename_i dL;rw[dL]at h;simp[eU]at h
 ·rename_i dL;rw[dL]at h;simp[eU]at h
 ·rename_i dL;rw[dL]at h;simp[eU]at h
 ·exact⟨mr,h,rfl⟩
theorem G6 {n:Nat} {vo:aM} {env:Env} {g g':Rows} {v:AV} (h:gE vo.op (cE env) g ⟨vo.site,n⟩=some (v,g')):VS X n vo env g v g':=by
 unfold VS
 split
 ·rename_i dL;rw[dL]at h;simp[gE]at h
 ·rename_i dL;rw[dL]at h;simp[gE]at h
 ·exact h
 ·exact h
 ·exact h
 ·exact h
 ·exact h
 ·rename_i n1 n2 n3 n4 n5 n6 n7
  exfalso
  unfold gE at h
  split at h
  ·rename_i hh;exact n3 _ _ _ hh
  ·rename_i hh;exact n4 _ _ _ hh
  ·rename_i hh;exact n5 _ _ _ hh
  ·rename_i hh;exact n6 _ _ hh
  ·rename_i hh;exact n7 _ _ hh
  ·simp at h
theorem N0 {vo:aM} {env:Env} {σ:ar} {next:AV->ar->Prop} (hv:fW X true vo env σ next):∃v g',VS X σ.next vo env σ.get v g'/\next v ⟨g',σ.next⟩:=by
 unfold fW at hv
 split at hv
 ·rename_i f args dL
  rcases hv with⟨r,hP,hn⟩|⟨h,_⟩|⟨hs,sz,rows,hM,hn⟩
  ·exact⟨r,σ.get,by unfold VS;rw[dL];exact .inl ⟨hP,rfl⟩,hn⟩
  ·cases h
  ·exact⟨_,_,by unfold VS;rw[dL];exact .inr ⟨hs,sz,rows,hM,rfl,rfl⟩,hn⟩
 ·rename_i x args dL
  split at hv
  ·rename_i f cz hx
   have sQ:uk (cE env x) (args.map (cE env))=some (f,args.map (cE env)++cz):=by rw[hx];rfl
   rcases hv with⟨r,hP,hn⟩|⟨h,_⟩|⟨hs,sz,rows,hM,hn⟩
   ·exact⟨r,σ.get,by unfold VS;rw[dL];exact⟨f,_,sQ,.inl ⟨hP,rfl⟩⟩,hn⟩
   ·cases h
   ·exact⟨_,_,by unfold VS;rw[dL];exact⟨f,_,sQ,.inr ⟨hs,sz,rows,hM,rfl,rfl⟩⟩,hn⟩
  ·rename_i f cz hx
   have sQ:uk (cE env x) (args.map (cE env))=some (f,cz++args.map (cE env)):=by rw[hx];rfl
   rcases hv with⟨r,hP,hn⟩|⟨h,_⟩|⟨hs,sz,rows,hM,hn⟩
   ·exact⟨r,σ.get,by unfold VS;rw[dL];exact⟨f,_,sQ,.inl ⟨hP,rfl⟩⟩,hn⟩
   ·cases h
   ·exact⟨_,_,by unfold VS;rw[dL];exact⟨f,_,sQ,.inr ⟨hs,sz,rows,hM,rfl,rfl⟩⟩,hn⟩
  ·exact hv.elim
 ·split at hv
  ·rename_i v g h;exact⟨v,g,G6 h,hv⟩
  ·exact hv.elim
 ·split at hv
  ·rename_i v g h;exact⟨v,g,G6 h,hv⟩
  ·exact hv.elim
 ·split at hv
  ·rename_i v g h;exact⟨v,g,G6 h,hv⟩
  ·exact hv.elim
 ·split at hv
  ·rename_i v g h;exact⟨v,g,G6 h,hv⟩
  ·exact hv.elim
 ·split at hv
  ·rename_i v g h;exact⟨v,g,G6 h,hv⟩
  ·exact hv.elim
 ·split at hv
  ·rename_i v r h;exact⟨v,_,Md h,hv⟩
  ·rename_i v h;exact⟨v,_,Md h,hv⟩
  ·exact hv.elim
theorem wo {ops:Array Oper} {vl:List aM} {K:Env->ar->Prop} {n:Nat} (uP:nP ops vl (jo ops)=true) (hlen:vl.length=ops.size):∀(r:List aM) (k:Nat) (listed:Array Bool) (env:Env) (g:Rows),
  (∀j,r[j]? =vl[k+j]?)->listed.size=ops.size->(∀i,i<ops.size->listed[i]? =some (decide (i<k)))->k+r.length=ops.size->DC ops listed->wpOps X true r K env ⟨g,n⟩->Jc X n ops vl (fun env g=>K env ⟨g,n+1⟩) r.length listed env g
 |[],k,listed,env,g,_,e9,hl,hk,_,hv=>by
  refine⟨?_,hv⟩
  rw[List.eq_nil_iff_forall_not_mem]
  intro j hj
  obtain⟨h0,o,ho,_⟩:=mem_ready.1 hj
  have dz:j<ops.size:=(Array.getElem?_eq_some_iff.1 ho).1
  have:=hl j dz
  simp at hk
  simp[this,show j<k by omega]at h0
 |vo::r,k,listed,env,g,hr,e9,hl,hk,rC,hv=>by
  simp only[List.length_cons]at hk
  have iY:vl[k]? =some vo:=by simpa using(hr 0).symm
  have kW:k<ops.size:=by omega
  have HZ:k∈Region.ready .any ops listed:=by
   rw[mem_ready]
   refine⟨by simp[hl k kW],ops[k],Array.getElem?_eq_getElem kW,fun e he hb=>?_⟩
   unfold nP D8 at uP
   simp only[Bool.and_eq_true,List.all_eq_true]at uP
   have hm:(ops[k],k)∈ops.toList.zipIdx:=by
    rw[List.mem_iff_getElem?]
    exact⟨k,by simp[List.getElem?_zipIdx,kW]⟩
   have:=uP.1 _ hm
   rw[Array.all_eq_true_iff_forall_mem]at this
   have:=this e he
   simp only[hb,Bool.not_true,Bool.false_or,decide_eq_true_eq]at this
   simp[hl e.on (by omega),this]
  have hGS:∃v g',GS X n vo env g v g'/\wpOps X true r K (upd env vo.dst v) ⟨g',n⟩:=by
   unfold wpOps at hv
   unfold GS
   split at hv
   ·rename_i hw
    simp only[hw,if_true]
    exact N0 hv
   ·rename_i hw
    simp only[hw]
    exact⟨.undef,g,⟨rfl,rfl⟩,hv⟩
  obtain⟨v,g',h1,h2⟩:=hGS
  refine DN uP hlen iY r.length listed env g g' rC HZ h1 ?_
  refine wo uP hlen r (k+1) _ _ _ (fun j=>by have:=hr (j+1);simpa[Nat.add_assoc,Nat.add_comm 1 j]using this) (by simp[e9]) (fun i hi=>?_) (by omega) (rC.list HZ) h2
  by_cases xD:i=k
  ·subst xD;simp[e9,kW]
  ·rw[Array.getElem?_setIfInBounds_ne (fun e=>xD e.symm),hl i hi]
   congr 1
   have:(i<k)=(i<k+1):=by apply propext;omega
   simp[this]
theorem nK {f:Nat->Oper->Option aM}:∀{l:List Oper} {vl:List aM} {j:Nat},allM f l j=some vl->vl.length=l.length/\∀(i:Nat) (o:Oper),l[i]? =some o->∃vo,vl[i]? =some vo/\f (j+i) o=some vo
 |[],vl,j,h=>by simp[allM]at h;subst h;simp
 |o::l,vl,j,h=>by
  simp only[allM,Option.bind_eq_bind,Option.bind_eq_some_iff,Option.pure_def,Option.some.injEq]at h
  obtain⟨vo,iY,sk,rE,rfl⟩:=h
  obtain⟨h1,h2⟩:=nK rE
  refine⟨by simp[h1],fun i o' hi=>?_⟩
  cases i with
  |zero=>simp at hi;subst hi;exact⟨vo,rfl,iY⟩
  |succ i=>
   simp at hi
   obtain⟨q,hq,hf⟩:=h2 i o' hi
   exact⟨q,by simpa using hq,by rw[<-hf];congr 1;omega⟩
theorem xe {ops:Array Oper} {vl:List aM} {nt site0:Nat} {draw mk:Bool} {bs:Array Nat} {hidden:List (Nat×Bool)} {n:Nat} {K:Env->Rows->Prop} {Q:Exit->Act->World->Prop} (dF:allM (ko P ops nt site0 draw mk bs hidden) ops.toList 0=some vl):
  ∀(fuel:Nat) (listed:Array Bool) (env:Env) (g:Rows) (a:Act) (w:World) (D:Nat->Prop) (ι:Names) (U:Nat->Prop),Jc (Sound P) n ops vl K fuel listed env g->fU P hs D ι g w->Used ι n U->(∀s,U s->∃i,s=site0+i/\listed.getD i false=true)->bD P w D ι env a->a.tmps.size=nt->
  (∀iy g' a' w' D' ι' U',K iy g'->Step hs D ι w D' ι' w'->fU P hs D' ι' g' w'->Used ι' n U'->bD P w' D' ι' iy a'->a'.tmps.size=nt->a'.defers=a.defers->Q .normal a' w')->wpAny P .any ops Q fuel listed a w:=by
 intro fuel
 induction fuel with
 |zero=>intro listed env g a w D ι U h S Us hU E e9 hQ;exact⟨h.1,hQ env g a w D ι U h.2 (Step.refl _ _ _ _) S Us E e9 rfl⟩
 |succ fuel ih=>
  intro listed env g a w D ι U h S Us hU E e9 hQ
  refine⟨fun hr=>hQ env g a w D ι U (h.1 hr) (Step.refl _ _ _ _) S Us E e9 rfl,fun i hi=>?_⟩
  obtain⟨vo,iY,v,g',hG,LJ⟩:=h.2 i hi
  obtain⟨_,o,ho,_⟩:=mem_ready.1 hi
  obtain⟨vo',lS,Pt⟩:=(nK dF).2 i o (by simpa using ho)
  rw[iY]at lS;injection lS with lS;subst lS
  rw[Nat.zero_add]at Pt
  obtain⟨hc,hd,AU,wP,hg⟩:=oF Pt
  have hw:=sn (ops:=ops) (vo:=vo) E hg
  have Sn:¬U vo.site:=fun hu=>by
   obtain⟨i',he,hl⟩:=hU _ hu
   have:i'=i:=by omega
   subst this
   rw[iR hi]at hl;cases hl
  have jr:i<listed.size:=by
   have h0:=(mem_ready.1 hi).1
   rcases Nat.lt_or_ge i listed.size with h|h
   ·exact h
   ·simp[Array.getElem?_eq_none h]at h0
  unfold wpOp
  simp only[ho]
  rw[<-hw]
  unfold GS at hG
  by_cases FA:aK vo.guard env=true
  ·rw[if_pos FA]
   rw[if_pos FA]at hG
   refine .inl (Ae hc hG S Us Sn E fun a' w' ⟨u,D',ι',ha,T,S',hR,U'⟩=>?_)
   subst ha
   refine ih _ _ _ _ w' D' ι' _ LJ S' U' (fun s AQ=>?_) (by rw[hd];exact il (nQ E T) hR wP e9) (by rw[eS];exact e9) fun iy g2 a2 w2 D2 ι2 U2 hk T2 S2 RN E2 kh CI=>hQ iy g2 a2 w2 D2 ι2 U2 hk (T.trans T2) S2 RN E2 kh (CI.trans (put_defers _ _ _))
   rcases AQ with h|h
   ·obtain⟨i',he,hl⟩:=hU _ h
    exact⟨i',he,getD_set_true hl⟩
   ·exact⟨i,by rw[h,AU],by simp[jr]⟩
  ·rw[if_neg FA]
   rw[if_neg FA]at hG
   obtain⟨rfl,rfl⟩:=hG
   refine ih _ _ _ _ w D ι U LJ S Us (fun s AQ=>?_) (by rw[hd];exact il E cq.undef wP e9) (by rw[eS];exact e9) fun iy g2 a2 w2 D2 ι2 U2 hk T2 S2 RN E2 kh CI=>hQ iy g2 a2 w2 D2 ι2 U2 hk T2 S2 RN E2 kh (CI.trans (put_defers _ _ _))
   obtain⟨i',he,hl⟩:=hU _ AQ
   exact⟨i',he,getD_set_true hl⟩
end
end Go.Proofs.YtgoelphibofcmaaGreat.V

namespace Go.Proofs.YtgoelphibofcmaaGreat.V
open Go.RowKit
variable {P:Program} {w w':World} {D D' D2:Nat->Prop} {ι ι' ι2:Names}
section
variable {hs:Nat} {X:fu}
def pj (X:fu):Prop:=∀f args σ K K',(∀r σ',K r σ'->K' r σ')->X f args σ K->X f args σ K'
theorem km:pj (Sound P):=fun _ _ _ _ _ hK h hs D ι w vs S U A=>
 (h hs D ι w vs S U A).mono fun _ _ ⟨r,g',n',D',ι',u,he,hk,rest⟩=>⟨r,g',n',D',ι',u,he,hK _ _ hk,rest⟩
def step (X:fu) (vo:aM) (N:Env->ar->Prop) (env:Env) (σ:ar):Prop:=
 if aK vo.guard env then fW X false vo env σ fun v σ'=>N (upd env vo.dst v) σ' else N (upd env vo.dst .undef) σ
theorem pJ (hK:pj X) {draw:Bool} {hid:List Nat} {site f:Nat} {args:List AV} {σ:ar} {n n':AV->ar->Prop} (hn:∀v σ',n v σ'->n' v σ') (hp:cI X draw hid site f args σ n):cI X draw hid site f args σ n':=by
 rcases hp with⟨r,h1,h2⟩|⟨h1,h2⟩|⟨h1,sz,rows,h2,h3⟩
 ·exact .inl ⟨r,h1,hn _ _ h2⟩
 ·exact .inr (.inl ⟨h1,hK _ _ _ _ _ hn h2⟩)
 ·exact .inr (.inr ⟨h1,sz,rows,h2,hn _ _ h3⟩)
theorem BI (hK:pj X) {draw:Bool} {o:aM} {env:Env} {σ:ar} {n n':AV->ar->Prop} (hn:∀v σ',n v σ'->n' v σ') (hp:fW X draw o env σ n):fW X draw o env σ n':=by
 unfold fW at hp ⊢
 split at hp
 ·exact pJ hK hn hp
 ·split at hp
  ·exact pJ hK hn hp
  ·exact pJ hK hn hp
  ·exact hp.elim
 ·split at hp
  ·exact hn _ _ hp
  ·exact hp.elim
 ·split at hp
  ·exact hn _ _ hp
  ·exact hp.elim
 ·split at hp
  ·exact hn _ _ hp
  ·exact hp.elim
 ·split at hp
  ·exact hn _ _ hp
  ·exact hp.elim
 ·split at hp
  ·exact hn _ _ hp
  ·exact hp.elim
 ·split at hp
  ·exact hn _ _ hp
  ·exact hn _ _ hp
  ·exact hp.elim
theorem jF (hK:pj X) {vo:aM} {N N':Env->ar->Prop} (h:∀e s,N e s->N' e s) {env:Env} {σ:ar} (hp:step X vo N env σ):step X vo N' env σ:=by
 unfold step at hp ⊢
 split at hp
 ·rename_i hw;rw[if_pos hw];exact BI hK (fun v σ'=>h _ _) hp
 ·rename_i hw;rw[if_neg hw];exact h _ _ hp
theorem Gw {env iJ:Env} {vo:aM} {σ:ar} {n:AV->ar->Prop} (h:∀t∈vo.op.gm,env t=iJ t) (hv:fW X false vo env σ n):fW X false vo iJ σ n:=by
 unfold fW at hv ⊢
 split at hv
 ·rename_i f args dL
  rw[dL]at h
  simp only[fX.gm]at h
  rw[<-map_congr h];exact hv
 ·rename_i x args dL
  rw[dL]at h
  simp only[fX.gm,List.mem_append]at h
  rw[<-map_congr (l:=args) fun t ht=>h t (.inr ht),<-aO (x:=x) fun t ht=>h t (.inl ht)];exact hv
 ·rw[<-gM h];exact hv
 ·rw[<-gM h];exact hv
 ·rw[<-gM h];exact hv
 ·rw[<-gM h];exact hv
 ·rw[<-gM h];exact hv
 ·rw[<-r9 h];exact hv
theorem lu {x:aM} (hq:kG x=true) {N:Env->ar->Prop} {env:Env} {σ:ar}:step X x N env σ↔∃v g',GS X σ.next x env σ.get v g'/\N (upd env x.dst v) ⟨g',σ.next⟩:=by
 unfold kG at hq
 simp only[Bool.and_eq_true,Bool.not_eq_true',bne_iff_ne]at hq
 obtain⟨GI,Kj⟩:=hq
 unfold step GS
 by_cases hw:aK x.guard env=true
 ·rw[if_pos hw]
  simp only[hw,if_true]
  unfold fW
  split
  ·rename_i dL;simp[dL,fX.lD]at GI
  ·rename_i dL;simp[dL,fX.lD]at GI
  ·rename_i dL;simp[dL,fX.cls]at Kj
  ·rename_i dL;simp[dL,fX.cls]at Kj
  ·rename_i dL;simp[dL,fX.cls]at Kj
  ·rename_i dL;simp[dL,fX.cls]at Kj
  ·rename_i dL;simp[dL,fX.cls]at Kj
  ·rename_i n1 n2 n3 n4 n5 n6 n7
   have hVS:∀v g',VS X σ.next x env σ.get v g'↔∃mr,eU x.op (cE env) (gy x.hid σ.next σ.get) ⟨x.site,σ.next⟩=some (v,mr)/\g'=iZ σ.get ⟨x.site,σ.next⟩ mr:=fun v g'=>by
    unfold VS
    split
    ·rename_i hh;exact(n1 _ _ hh).elim
    ·rename_i hh;exact(n2 _ _ hh).elim
    ·rename_i hh;exact(n3 _ _ _ hh).elim
    ·rename_i hh;exact(n4 _ _ _ hh).elim
    ·rename_i hh;exact(n5 _ _ _ hh).elim
    ·rename_i hh;exact(n6 _ _ hh).elim
    ·rename_i hh;exact(n7 _ _ hh).elim
    ·exact Iff.rfl
   simp only[hVS]
   cases hz:eU x.op (cE env) (gy x.hid σ.next σ.get) ⟨x.site,σ.next⟩with
   |none=>
    exact⟨fun h=>h.elim,fun⟨v,g',⟨mr,h,_⟩,_⟩=>by cases h⟩
   |some p=>
    obtain⟨v,mr⟩:=p
    have key:∀(v':AV) (g':Rows),(∃OY,some (v,mr)=some (v',OY)/\g'=iZ σ.get ⟨x.site,σ.next⟩ OY)↔v'=v/\g'=iZ σ.get ⟨x.site,σ.next⟩ mr:=fun v' g'=>by
     constructor
     ·rintro⟨OY,h1,h2⟩
      injection h1 with h1;injection h1 with h1 h3
      subst h1;subst h3
      exact⟨rfl,h2⟩
     ·rintro⟨rfl,rfl⟩;exact⟨mr,rfl,rfl⟩
    have fin:(∃v' g',(∃OY,some (v,mr)=some (v',OY)/\g'=iZ σ.get ⟨x.site,σ.next⟩ OY)/\N (upd env x.dst v') ⟨g',σ.next⟩)↔N (upd env x.dst v) ⟨iZ σ.get ⟨x.site,σ.next⟩ mr,σ.next⟩:=by
     constructor
     ·rintro⟨v',g',h,hN⟩
      obtain⟨rfl,rfl⟩:=(key v' g').1 h
      exact hN
     ·intro hN;exact⟨v,_,(key _ _).2 ⟨rfl,rfl⟩,hN⟩
    cases mr with
    |none=>exact fin.symm
    |some r=>exact fin.symm
 ·rw[if_neg hw]
  simp only[if_neg hw]
  exact⟨fun h=>⟨_,_,⟨rfl,rfl⟩,h⟩,fun⟨v,g',⟨hv,hg⟩,h⟩=>by rw[hv,hg]at h;exact h⟩
def xv (x:aM) (env:Env) (v:AV):Prop:=if aK x.guard env then eU x.op (cE env) (fun _=>none) ⟨0,0⟩=some (v,none)else v=.undef
theorem vD {x:aM} (hp:x.op.cls=.pure):kG x=true:=by
 unfold kG
 rw[hp]
 cases hc:x.op<;>simp[hc,fX.cls]at hp<;>rfl
theorem sf {x:aM} (hp:x.op.cls=.pure) {N:Env->ar->Prop} {env:Env} {σ:ar}:step X x N env σ↔∃v,xv x env v/\N (upd env x.dst v) σ:=by
 rw[lu (vD hp)]
 unfold GS xv
 by_cases hw:aK x.guard env=true
 ·simp only[hw,if_true]
  constructor
  ·rintro⟨v,g',h,hN⟩
   obtain⟨rfl,dF⟩:=yn hp h
   refine⟨v,?_,hN⟩
   unfold VS at h
   split at h
   ·rename_i dL;rw[dL]at hp;simp[fX.cls]at hp
   ·rename_i dL;rw[dL]at hp;simp[fX.cls]at hp
   ·rename_i dL;rw[dL]at hp;simp[fX.cls]at hp
   ·rename_i dL;rw[dL]at hp;simp[fX.cls]at hp
   ·rename_i dL;rw[dL]at hp;simp[fX.cls]at hp
   ·rename_i dL;rw[dL]at hp;simp[fX.cls]at hp
   ·rename_i dL;rw[dL]at hp;simp[fX.cls]at hp
   ·obtain⟨mr,hq,_⟩:=h
    have SO:mr=none:=by
     cases mr with
     |none=>rfl
     |some r=>have:=vI hq;simp[p7,hp]at this
    subst SO
    rw[<-vJ (g:=gy x.hid σ.next σ.get) (id:=⟨x.site,σ.next⟩) hp];exact hq
  ·rintro⟨v,h,hN⟩
   exact⟨v,σ.get,Md (mr:=none) (by rw[vJ (g2:=fun _=>none) (id2:=⟨0,0⟩) hp];exact h),hN⟩
 ·simp only[if_neg hw]
  exact⟨fun⟨v,g',⟨hv,hg⟩,h⟩=>⟨v,hv,by rw[hg]at h;exact h⟩,fun⟨v,hv,h⟩=>⟨v,σ.get,⟨hv,rfl⟩,h⟩⟩
theorem Jm {x:aM} {env iJ:Env} {v:AV} (h:∀t∈x.gm,env t=iJ t) (hv:xv x env v):xv x iJ v:=by
 unfold xv at hv ⊢
 rw[<-mL h,<-r9 fun t ht=>h t (qY ht)];exact hv
structure Lj (x y:aM):Prop where
 xy:∀k,x.dst=some k->k∉y.gm
 yx:∀k,y.dst=some k->k∉x.gm
 dst:∀k,x.dst=some k->y.dst≠some k
theorem rj {x y:aM} (h:sj x y=true):Lj x y:=by
 unfold sj at h
 simp only[Bool.and_eq_true]at h
 obtain⟨a1,a2⟩:=h
 refine⟨fun k hk=>?_,fun k hk=>?_,fun k hk=>?_⟩
 ·rw[hk]at a1;simp at a1;exact a1.1
 ·rw[hk]at a2;simpa using a2
 ·rw[hk]at a1;simp at a1;exact a1.2
theorem xz {x y:aM} (h:xx x y=true):(Lj x y/\x.op.cls=.pure)∨(B5 x y/\kG x=true/\kG y=true):=by
 unfold xx at h
 simp only[Bool.or_eq_true,Bool.and_eq_true,beq_iff_eq]at h
 rcases h with⟨h1,h2⟩|⟨⟨h1,h2⟩,h3⟩
 ·exact .inl ⟨rj h1,h2⟩
 ·exact .inr ⟨pO h1,h2,h3⟩
theorem AA {x y:aM} (h:xx x y=true):kG x=true:=by
 rcases xz h with h|h
 ·exact vD h.2
 ·exact h.2.1
theorem Gf (hK:pj X) {x y:aM} (hf:xx x y=true) {N:Env->ar->Prop} {env:Env} {σ:ar} (h:step X x (fun e s=>step X y N e s) env σ):step X y (fun e s=>step X x N e s) env σ:=by
 rcases xz hf with⟨F,hp⟩|⟨F,hx,hy⟩
 ·rw[sf hp]at h
  obtain⟨v,hx,h⟩:=h
  have LM:=fun(v':AV)=>wm (env:=env) (v:=v) (u:=v') F.dst
  have AW:=l5 (env:=env) (v:=v) F.xy
  have back:∀(v':AV),xv x (upd env y.dst v') v:=fun v'=>Jm (fun t ht=>(l5 F.yx t ht).symm) hx
  unfold step at h ⊢
  rw[mL AW]at h
  split at h
  ·rename_i hw
   rw[if_pos hw]
   refine BI hK (fun v' σ' hN=>?_) (Gw (fun t ht=>AW t (qY ht)) h)
   rw[LM]at hN
   exact(sf hp).2 ⟨v,back v',hN⟩
  ·rename_i hw
   rw[if_neg hw]
   rw[LM]at h
   exact(sf hp).2 ⟨v,back _,h⟩
 ·rw[lu hx]at h
  obtain⟨v,g1,h1,h⟩:=h
  rw[lu hy]at h
  obtain⟨v',g2,h2,h⟩:=h
  obtain⟨J1,q1,q2,q3⟩:=DR F h1 h2
  rw[q3]at h
  exact(lu hy).2 ⟨v',J1,q1,(lu hx).2 ⟨v,g2,q2,h⟩⟩
def zL (X:fu) (ops:Array Oper) (vl:List aM) (K:Env->ar->Prop):Nat->Array Bool->Env->ar->Prop
 |0,listed,env,σ=>Region.ready .any ops listed=[]/\K env ⟨σ.get,σ.next+1⟩
 |f+1,listed,env,σ=>(Region.ready .any ops listed=[]->K env ⟨σ.get,σ.next+1⟩)/\∀i∈Region.ready .any ops listed,∃vo,vl[i]? =some vo/\step X vo (fun e s=>zL X ops vl K f (listed.setIfInBounds i true) e s) env σ
theorem Cy {ops:Array Oper} {vl:List aM} {bs:Array Nat} {listed:Array Bool} {i:Nat} (h:pN ops vl bs listed i=true) (j:Nat):pN ops vl bs (listed.setIfInBounds j true) i=true:=by
 unfold pN at h ⊢
 split at h
 ·rename_i x hx
  simp only[List.all_eq_true,Bool.or_eq_true]at h ⊢
  intro k hk
  rcases h k hk with((h|h)|h)|h
  ·exact .inl (.inl (.inl (getD_set_true h)))
  ·exact .inl (.inl (.inr h))
  ·exact .inl (.inr h)
  ·exact .inr h
 ·cases h
theorem sI {ops:Array Oper} {vl:List aM} {listed:Array Bool} {i j:Nat} {vi:aM} (rC:DC ops listed) (h:pN ops vl (jo ops) listed i=true) (hi:vl[i]? =some vi) (hr:i∈Region.ready .any ops listed) (hj:j∈Region.ready .any ops listed) (l8:j≠i):∃vj,vl[j]? =some vj/\xx vi vj=true:=by
 unfold pN at h
 rw[hi]at h
 simp only[List.all_eq_true,Bool.or_eq_true,beq_iff_eq]at h
 obtain⟨_,o,ho,_⟩:=mem_ready.1 hj
 rcases h j (List.mem_range.2 (Array.getElem?_eq_some_iff.1 ho).1)with((h|h)|h)|h
 ·rw[iR hj]at h;cases h
 ·exact absurd h l8
 ·have:=kH rC hj i h
  rw[iR hr]at this;cases this
 ·split at h
  ·rename_i y hy;exact⟨y,hy,h⟩
  ·cases h
theorem DP (hK:pj X) {ops:Array Oper} {vl:List aM} {K:Env->ar->Prop} {i:Nat} {vi:aM} (hi:vl[i]? =some vi):∀(fuel:Nat) (listed:Array Bool) (env:Env) (σ:ar),
  DC ops listed->i∈Region.ready .any ops listed->pN ops vl (jo ops) listed i=true->step X vi (fun e s=>zL X ops vl K fuel (listed.setIfInBounds i true) e s) env σ->zL X ops vl K (fuel+1) listed env σ:=by
 intro fuel
 induction fuel with
 |zero=>
  intro listed env σ rC hr jq H
  refine⟨fun h=>(by rw[h]at hr;cases hr),fun j hj=>?_⟩
  by_cases l8:j=i
  ·subst l8;exact⟨vi,hi,H⟩
  ·obtain⟨vj,Ko,PG⟩:=sI rC jq hi hr hj l8
   rw[lu (AA PG)]at H
   obtain⟨v,g',_,H⟩:=H
   have:=ready_mono hj l8
   rw[H.1]at this;cases this
 |succ fuel ih=>
  intro listed env σ rC hr jq H
  refine⟨fun h=>(by rw[h]at hr;cases hr),fun j hj=>?_⟩
  by_cases l8:j=i
  ·subst l8;exact⟨vi,hi,H⟩
  ·obtain⟨vj,Ko,PG⟩:=sI rC jq hi hr hj l8
   refine⟨vj,Ko,?_⟩
   have H2:step X vi (fun e s=>step X vj (fun e s=>zL X ops vl K fuel ((listed.setIfInBounds i true).setIfInBounds j true) e s) e s) env σ:=jF hK (fun e s h=>by
    obtain⟨vj',yU,h'⟩:=h.2 j (ready_mono hj l8)
    rw[Ko]at yU;injection yU with yU;subst yU
    exact h') H
   refine jF hK (fun e s h=>?_) (Gf hK PG H2)
   refine ih _ _ _ (rC.list hj) (ready_mono hr (fun e=>l8 e.symm)) (Cy jq j) ?_
   rw[Array.setIfInBounds_comm _ _ l8]
   exact h
theorem se {x:aM} (hg:x.guard=none) {N:Env->ar->Prop} {env:Env} {σ:ar}:step X x N env σ=fW X false x env σ (fun v σ'=>N (upd env x.dst v) σ'):=by
 unfold step
 rw[hg]
 simp[aK]
theorem Dx {x y:aM} {t s sz:Nat} {ys:O} (hx:x.op=.append sz (.t t) ys) (hg:x.guard=none) (hf:Ee s x y=true) {N:Env->ar->Prop} {env:Env} {σ:ar} (hl:KC t s ys env σ.next) (h:step X x (fun e s=>step X y N e s) env σ):
  step X y (fun e σ'=>KC t s ys e σ'.next/\step X x N e σ') env σ:=by
 unfold Ee at hf
 simp only[Bool.and_eq_true,bne_iff_ne]at hf
 obtain⟨⟨⟨⟨⟨f1,hq⟩,f3⟩,f4⟩,f5⟩,f6⟩:=hf
 have F:=rj f1
 obtain⟨⟨len,ht⟩,hsrc⟩:=hl
 have H3:∀k∈x.op.gm,∀v',upd env y.dst v' k=env k:=fun k hk v'=>l5 (env:=env) (v:=v') F.yx k (qY hk)
 have dc:t∈x.op.gm:=by rw[hx];simp[fX.gm,gH]
 have Et:∀v',cE (upd env y.dst v') ys=cE env ys:=fun v'=>(aO fun k hk=>by rw[H3 k (by rw[hx];simp[fX.gm,hk])]).symm
 rw[se hg]at h
 unfold fW at h
 simp only[hx,gE]at h
 have ex:cE env (.t t)=.own ⟨s,σ.next⟩ 0 len:=ht
 rw[ex]at h
 cases hr:bz σ.get (cE env ys)with
 |none=>rw[hr]at h;exact h.elim
 |some rs=>
  rw[hr]at h
  simp only[Option.bind_some,aU]at h
  cases hgs:σ.get ⟨s,σ.next⟩with
  |none=>rw[hgs]at h;exact h.elim
  |some r=>
   rw[hgs]at h
   simp only[Option.bind_some]at h
   split at h
   ·rename_i v g1 hv
    split at hv
    ·rename_i hcond
     simp only[Option.some.injEq,Prod.mk.injEq]at hv
     obtain⟨rfl,rfl⟩:=hv
     rw[lu hq]at h
     obtain⟨v',g2,hG,hN⟩:=h
     have Fw:(⟨y.site,σ.next⟩:Id)≠⟨s,σ.next⟩:=fun e=>f5 (by injection e)
     have HQ:(⟨y.site,σ.next⟩:Id)≠⟨x.site,σ.next⟩:=fun e=>f6 (by injection e)
     replace hG:GS X σ.next y env (bB (bY σ.get ⟨s,σ.next⟩) ⟨x.site,σ.next⟩ ⟨true,sz,r.rows++rs⟩) v' g2:=ua (l5 F.xy) hG
     have Tf:gy y.hid σ.next σ.get=gy y.hid σ.next (bB (bY σ.get ⟨s,σ.next⟩) ⟨x.site,σ.next⟩ ⟨true,sz,r.rows++rs⟩):=by
      cases hh:y.hid with
      |nil=>rw[hh]at f3;simp at f3
      |cons a l=>
       rw[hh]at f3 f4
       funext i
       show(if (a::l).contains i.site=true/\i.aZ=σ.next then none else σ.get i)=if (a::l).contains i.site=true/\i.aZ=σ.next then none else _
       by_cases h1:i=⟨x.site,σ.next⟩
       ·subst h1;rw[if_pos ⟨f4,rfl⟩,if_pos ⟨f4,rfl⟩]
       ·by_cases h2:i=⟨s,σ.next⟩
        ·subst h2;rw[if_pos ⟨f3,rfl⟩,if_pos ⟨f3,rfl⟩]
        ·simp only[bB,bY,if_neg h1,if_neg h2]
     obtain⟨my,SD,hG'⟩:∃my,g2=iZ (bB (bY σ.get ⟨s,σ.next⟩) ⟨x.site,σ.next⟩ ⟨true,sz,r.rows++rs⟩) ⟨y.site,σ.next⟩ my/\GS X σ.next y env σ.get v' (iZ σ.get ⟨y.site,σ.next⟩ my):=by
      unfold GS at hG ⊢
      by_cases wy:aK y.guard env=true
      ·rw[if_pos wy]at hG
       have hcw:y.op.cls≠.write:=by
        unfold kG at hq
        simp only[Bool.and_eq_true,bne_iff_ne]at hq
        exact hq.2
       obtain⟨my,rfl,_,Mg⟩:=ug hcw hG
       exact⟨my,rfl,by rw[if_pos wy];exact Mg _ Tf⟩
      ·rw[if_neg wy]at hG
       obtain⟨rfl,rfl⟩:=hG
       exact⟨none,rfl,by rw[if_neg wy];exact⟨rfl,rfl⟩⟩
     subst SD
     refine(lu hq).2 ⟨v',_,hG',⟨⟨len,by rw[H3 t dc];exact ht⟩,fun id o l he=>hsrc id o l (by rw[<-Et v'];exact he)⟩,?_⟩
     rw[se hg]
     unfold fW
     have ex':cE (upd env y.dst v') (.t t)=.own ⟨s,σ.next⟩ 0 len:=by
      show upd env y.dst v' t= _
      rw[H3 t dc];exact ht
     simp only[hx,gE,ex',Et v']
     have nB:bz (iZ σ.get ⟨y.site,σ.next⟩ my) (cE env ys)=some rs:=by
      cases my with
      |none=>exact hr
      |some row=>
       revert hr
       cases hev:cE env ys<;>simp only[bz,iZ]<;>try exact fun h=>h
       rename_i id o l
       have:id≠⟨y.site,σ.next⟩:=fun e=>hsrc id o l hev (by rw[e])
       simp only[bB,if_neg this];exact fun h=>h
     have SF:iZ σ.get ⟨y.site,σ.next⟩ my ⟨s,σ.next⟩=some r:=by
      cases my with
      |none=>exact hgs
      |some row=>simp only[iZ,bB,if_neg (fun e=>Fw e.symm:(⟨s,σ.next⟩:Id)≠⟨y.site,σ.next⟩)];exact hgs
     rw[nB]
     simp only[Option.bind_some,aU,SF]
     rw[if_pos hcond]
     have hgg:bB (bY (iZ σ.get ⟨y.site,σ.next⟩ my) ⟨s,σ.next⟩) ⟨x.site,σ.next⟩ ⟨true,sz,r.rows++rs⟩=iZ (bB (bY σ.get ⟨s,σ.next⟩) ⟨x.site,σ.next⟩ ⟨true,sz,r.rows++rs⟩) ⟨y.site,σ.next⟩ my:=by
      cases my with
      |none=>rfl
      |some row=>
       funext i
       simp only[iZ,bB,bY]
       by_cases h1:i=⟨y.site,σ.next⟩
       ·subst h1;rw[if_neg HQ,if_neg Fw,if_pos rfl,if_pos rfl]
       ·simp only[if_neg h1]
     have hu:=wm (env:=env) (v:=AV.own ⟨x.site,σ.next⟩ 0 (len+rs.length)) (u:=v') F.dst
     show N (upd (upd env y.dst v') x.dst (.own ⟨x.site,σ.next⟩ 0 (len+rs.length))) ⟨bB (bY (iZ σ.get ⟨y.site,σ.next⟩ my) ⟨s,σ.next⟩) ⟨x.site,σ.next⟩ ⟨true,sz,r.rows++rs⟩,σ.next⟩
     rw[hgg,<-hu]
     exact hN
    ·cases hv
   ·exact h.elim
theorem Cx {ops:Array Oper} {vl:List aM} {bs:Array Nat} {listed:Array Bool} {i s:Nat} (h:nS ops vl bs listed i s=true) (j:Nat):nS ops vl bs (listed.setIfInBounds j true) i s=true:=by
 unfold nS at h ⊢
 split at h
 ·rename_i x hx
  simp only[List.all_eq_true,Bool.or_eq_true]at h ⊢
  intro k hk
  rcases h k hk with((h|h)|h)|h
  ·exact .inl (.inl (.inl (getD_set_true h)))
  ·exact .inl (.inl (.inr h))
  ·exact .inl (.inr h)
  ·exact .inr h
 ·cases h
theorem Ay {ops:Array Oper} {vl:List aM} {listed:Array Bool} {i j s:Nat} {vi:aM} (rC:DC ops listed) (h:nS ops vl (jo ops) listed i s=true) (hi:vl[i]? =some vi) (hr:i∈Region.ready .any ops listed) (hj:j∈Region.ready .any ops listed) (l8:j≠i):∃vj,vl[j]? =some vj/\Ee s vi vj=true:=by
 unfold nS at h
 rw[hi]at h
 simp only[List.all_eq_true,Bool.or_eq_true,beq_iff_eq]at h
 obtain⟨_,o,ho,_⟩:=mem_ready.1 hj
 rcases h j (List.mem_range.2 (Array.getElem?_eq_some_iff.1 ho).1)with((h|h)|h)|h
 ·rw[iR hj]at h;cases h
 ·exact absurd h l8
 ·have:=kH rC hj i h
  rw[iR hr]at this;cases this
 ·split at h
  ·rename_i y hy;exact⟨y,hy,h⟩
  ·cases h
theorem BJ (hK:pj X) {ops:Array Oper} {vl:List aM} {K:Env->ar->Prop} {i t s sz:Nat} {ys:O} {vi:aM} (hi:vl[i]? =some vi) (hx:vi.op=.append sz (.t t) ys) (hg:vi.guard=none):∀(fuel:Nat) (listed:Array Bool) (env:Env) (σ:ar),
  DC ops listed->i∈Region.ready .any ops listed->nS ops vl (jo ops) listed i s=true->KC t s ys env σ.next->step X vi (fun e s=>zL X ops vl K fuel (listed.setIfInBounds i true) e s) env σ->zL X ops vl K (fuel+1) listed env σ:=by
 intro fuel
 induction fuel with
 |zero=>
  intro listed env σ rC hr jq OD H
  refine⟨fun h=>(by rw[h]at hr;cases hr),fun j hj=>?_⟩
  by_cases l8:j=i
  ·subst l8;exact⟨vi,hi,H⟩
  ·exfalso
   have h0:=ready_mono hj l8
   rw[se hg]at H
   unfold fW at H
   simp only[hx]at H
   split at H
   ·rw[H.1]at h0;cases h0
   ·exact H
 |succ fuel ih=>
  intro listed env σ rC hr jq OD H
  refine⟨fun h=>(by rw[h]at hr;cases hr),fun j hj=>?_⟩
  by_cases l8:j=i
  ·subst l8;exact⟨vi,hi,H⟩
  ·obtain⟨vj,Ko,PG⟩:=Ay rC jq hi hr hj l8
   refine⟨vj,Ko,?_⟩
   have H2:step X vi (fun e s=>step X vj (fun e s=>zL X ops vl K fuel ((listed.setIfInBounds i true).setIfInBounds j true) e s) e s) env σ:=jF hK (fun e s h=>by
    obtain⟨vj',yU,h'⟩:=h.2 j (ready_mono hj l8)
    rw[Ko]at yU;injection yU with yU;subst yU
    exact h') H
   refine jF hK (fun e s h=>?_) (Dx hx hg PG OD H2)
   refine ih _ _ _ (rC.list hj) (ready_mono hr (fun e=>l8 e.symm)) (Cx jq j) h.1 ?_
   rw[Array.setIfInBounds_comm _ _ l8]
   exact h.2
theorem Ii {ops:Array Oper} {vl:List aM} {bs:Array Nat} {listed:Array Bool} {i i' t s:Nat} {y:O} {vo:aM} (h:Ny ops vl bs listed i=some (i',t,s,y,vo)):i'=i/\vl[i]? =some vo/\(∃sz,vo.op=.append sz (.t t) y)/\vo.guard=none/\nS ops vl bs listed i s=true:=by
 unfold Ny at h
 split at h
 ·rename_i x hx
  split at h
  ·rename_i t' s' y' jA
   split at h
   ·rename_i hf
    simp only[Option.some.injEq,Prod.mk.injEq]at h
    obtain⟨rfl,rfl,rfl,rfl,rfl⟩:=h
    unfold LV at jA
    split at jA
    ·rename_i sz t2 y2 ho tK
     split at jA
     ·simp only[Option.some.injEq,Prod.mk.injEq]at jA
      obtain⟨rfl,rfl,rfl⟩:=jA
      exact⟨rfl,hx,⟨sz,ho⟩,tK,hf⟩
     ·cases jA
    ·cases jA
   ·cases h
  ·cases h
 ·cases h
theorem xk {X:fu} {Q:Ex->Env->ar->Prop} {env:Env} {σ:ar}:∀{l:List VC} {t:VC},Al l=some t->dD X t Q env σ->∀c∈l,dD X c Q env σ
 |[],t,h,_,c,hc=>by cases hc
 |[c0],t,h,hw,c,hc=>by
  simp only[Al,Option.some.injEq]at h
  subst h
  rw[List.mem_singleton]at hc
  subst hc;exact hw
 |c0::c1::r,t,h,hw,c,hc=>by
  simp only[Al,Option.map_eq_some_iff]at h
  obtain⟨t',GK,rfl⟩:=h
  rcases List.mem_cons.1 hc with rfl|hc
  ·exact hw.1
  ·exact xk GK hw.2 c hc
theorem mapM_mem {α β:Type} {f:α->Option β}:∀{l:List α} {r:List β},l.mapM f=some r->∀i∈l,∃b∈r,f i=some b
 |[],_,_,i,hi=>by cases hi
 |a::l,r,h,i,hi=>by
  simp only[List.mapM_cons,Option.bind_eq_bind,Option.bind_eq_some_iff,Option.pure_def,Option.some.injEq]at h
  obtain⟨b,hb,r',hr,rfl⟩:=h
  rcases List.mem_cons.1 hi with rfl|hi
  ·exact⟨b,by simp,hb⟩
  ·obtain⟨c,hc,hf⟩:=mapM_mem hr i hi
   exact⟨c,List.mem_cons_of_mem _ hc,hf⟩
theorem Gs (hK:pj X) {ops:Array Oper} {vl:List aM} {Q:Ex->Env->ar->Prop}:∀(n:Nat) (listed:Array Bool) (t:VC) (env:Env) (σ:ar),wj ops vl (jo ops) n listed=some t->DC ops listed->dD X t Q env σ->zL X ops vl (Q .normal) n listed env σ:=by
 intro n
 induction n with
 |zero=>
  intro listed t env σ h _ hw
  unfold wj at h
  split at h
  ·rename_i hr
   simp only[Option.some.injEq]at h
   subst h
   exact⟨hr,hw⟩
  ·cases h
 |succ n ih=>
  intro listed t env σ h rC hw
  unfold wj at h
  split at h
  ·rename_i hr
   simp only[Option.some.injEq]at h
   subst h
   exact⟨fun _=>hw,fun i hi=>by rw[hr]at hi;cases hi⟩
  ·rename_i r rs hr
   dsimp only at h
   split at h
   ·rename_i i hfind
    have Kb:=List.mem_of_find?_eq_some hfind
    have xC:=List.find?_some hfind
    rw[<-hr]at Kb
    split at h
    ·rename_i vo iY
     simp only[Option.map_eq_some_iff]at h
     obtain⟨t',GK,rfl⟩:=h
     exact DP hK iY n listed env σ rC Kb xC (jF hK (fun e s h=>ih _ _ _ _ GK (rC.list Kb) h) hw)
    ·cases h
   ·split at h
    ·rename_i i t s y vo hfind
     obtain⟨i0,GD,dz⟩:=List.exists_of_findSome?_eq_some hfind
     obtain⟨rfl,iY,⟨sz,dL⟩,tK,J8⟩:=Ii dz
     rw[<-hr]at GD
     simp only[Option.map_eq_some_iff]at h
     obtain⟨t',GK,rfl⟩:=h
     exact BJ hK iY dL tK n listed env σ rC GD J8 hw.1 (jF hK (fun e s h=>ih _ _ _ _ GK (rC.list GD) h) hw.2)
    split at h
    ·rename_i l hl
     have dF:=xk h hw
     refine⟨fun h=>(by rw[h]at hr;cases hr),fun i hi=>?_⟩
     rw[hr]at hi
     obtain⟨b,Lx,HF⟩:=mapM_mem hl i hi
     simp only[Option.bind_eq_some_iff,Option.map_eq_some_iff]at HF
     obtain⟨vo,iY,t',GK,rfl⟩:=HF
     exact⟨vo,iY,jF hK (fun e s h=>ih _ _ _ _ GK (rC.list (by rw[hr];exact hi)) h) (dF _ Lx)⟩
    ·cases h
theorem DL {ops:Array Oper} {vl:List aM} {nt site0:Nat} {draw mk:Bool} {bs:Array Nat} {hidden:List (Nat×Bool)} {K:Env->ar->Prop} {Q:Exit->Act->World->Prop} (dF:allM (ko P ops nt site0 draw mk bs hidden) ops.toList 0=some vl):
  ∀(fuel:Nat) (listed:Array Bool) (env:Env) (σ:ar) (a:Act) (w:World) (D:Nat->Prop) (ι:Names) (U:Nat->Prop),zL (Sound P) ops vl K fuel listed env σ->fU P hs D ι σ.get w->Used ι σ.next U->(∀s,U s->∃i,s=site0+i/\listed.getD i false=true)->bD P w D ι env a->a.tmps.size=nt->
  (∀iy σ' a' w' D' ι',K iy σ'->Step hs D ι w D' ι' w'->St P hs nt D' ι' iy σ' a' w'->a'.defers=a.defers->σ.next<=σ'.next->Q .normal a' w')->wpAny P .any ops Q fuel listed a w:=by
 intro fuel
 induction fuel with
 |zero=>intro listed env σ a w D ι U h S Us hU E e9 hQ;exact⟨h.1,hQ env _ a w D ι h.2 (Step.refl _ _ _ _) ⟨S,Us.next,E,e9⟩ rfl (Nat.le_succ _)⟩
 |succ fuel ih=>
  intro listed env σ a w D ι U h S Us hU E e9 hQ
  refine⟨fun hr=>hQ env _ a w D ι (h.1 hr) (Step.refl _ _ _ _) ⟨S,Us.next,E,e9⟩ rfl (Nat.le_succ _),fun i hi=>?_⟩
  obtain⟨vo,iY,hG⟩:=h.2 i hi
  obtain⟨_,o,ho,_⟩:=mem_ready.1 hi
  obtain⟨vo',lS,Pt⟩:=(nK dF).2 i o (by simpa using ho)
  rw[iY]at lS;injection lS with lS;subst lS
  rw[Nat.zero_add]at Pt
  obtain⟨hc,hd,AU,wP,hg⟩:=oF Pt
  have hw:=sn (ops:=ops) (vo:=vo) E hg
  have Sn:¬U vo.site:=fun hu=>by
   obtain⟨i',he,hl⟩:=hU _ hu
   have:i'=i:=by omega
   subst this
   rw[iR hi]at hl;cases hl
  have jr:i<listed.size:=by
   have h0:=(mem_ready.1 hi).1
   rcases Nat.lt_or_ge i listed.size with h|h
   ·exact h
   ·simp[Array.getElem?_eq_none h]at h0
  unfold wpOp
  simp only[ho]
  rw[<-hw]
  unfold step at hG
  by_cases FA:aK vo.guard env=true
  ·rw[if_pos FA]
   rw[if_pos FA]at hG
   refine .inl (yf hc hG S Us Sn E fun v σ' u D' ι' w' hn T S' hR U' hle=>?_)
   refine ih _ _ _ _ w' D' ι' _ hn S' U' (fun s AQ=>?_) (by rw[hd];exact il (nQ E T) hR wP e9) (by rw[eS];exact e9) fun iy σ2 a2 w2 D2 ι2 hk T2 Nq CI lz=>hQ iy σ2 a2 w2 D2 ι2 hk (T.trans T2) Nq (CI.trans (put_defers _ _ _)) (Nat.le_trans hle lz)
   rcases AQ with h|h
   ·obtain⟨i',he,hl⟩:=hU _ h
    exact⟨i',he,getD_set_true hl⟩
   ·exact⟨i,by rw[h,AU],by simp[jr]⟩
  ·rw[if_neg FA]
   rw[if_neg FA]at hG
   refine ih _ _ _ _ w D ι U hG S Us (fun s AQ=>?_) (by rw[hd];exact il E cq.undef wP e9) (by rw[eS];exact e9) fun iy σ2 a2 w2 D2 ι2 hk T2 Nq CI lz=>hQ iy σ2 a2 w2 D2 ι2 hk T2 Nq (CI.trans (put_defers _ _ _)) lz
   obtain⟨i',he,hl⟩:=hU _ AQ
   exact⟨i',he,getD_set_true hl⟩
end
end Go.Proofs.YtgoelphibofcmaaGreat.V

namespace Go.Proofs.YtgoelphibofcmaaGreat.V
open Go.RowKit
variable {P:Program} {w w':World} {D D' D2:Nat->Prop} {ι ι' ι2:Names}
def zS (P:Program) (c:Code) (Q:Exit->Act->World->Prop) (a:Act) (w:World):Prop:=
 ∀(b:Frame) (k:List Item) (cs:List Frame),b.kind≠.early->∃e a' w',Q e a' w'/\Arrives P (lone (b.at a (.code c::k)) cs w) b k cs e a' w'
section
variable {Q:Exit->Act->World->Prop} {a:Act}
theorem j3 {c:Code} (h:c.wp P Q a w):zS P c Q a w:=fun b k cs _=>h b k cs
theorem lr {x y:Code} (h:zS P x (Exit.then (zS P y Q) Q) a w):zS P (.seq x y) Q a w:=by
 intro b k cs hb
 obtain⟨e,a1,w1,hq,jz⟩:=h b (.code y::k) cs hb
 by_cases he:e=.normal
 ·subst he
  obtain⟨e2,a2,w2,Kj,HE⟩:=hq b k cs hb
  exact⟨e2,a2,w2,Kj,.of_steps (.head step_seq jz) HE⟩
 ·refine⟨e,a1,w1,?_,.of_steps (.one step_seq) (.pass (x:=.code y) rfl (fun _ _=>.inl he) jz)⟩
  cases e<;>first|exact absurd rfl he|exact hq
theorem vn {c:Operand} {x y:Code} {t:Bool} (hc:a.eval c=.bool t) (h:zS P (if t then x else y) Q a w):zS P (.cond c x y) Q a w:=
 fun b k cs hb=>let ⟨e,a',w',q,r⟩:=h b k cs hb;⟨e,a',w',q,.of_steps (.one (step_cond hc)) r⟩
theorem r6 {id:Nat} {c:Code} (h:zS P c (Exit.inBlock id Q) a w):zS P (.block id c) Q a w:=by
 intro b k cs hb
 obtain⟨e,a1,w1,hq,jz⟩:=h b (.inBlock id::k) cs hb
 cases e with
 |normal=>exact⟨.normal,a1,w1,hq,.head step_block (Steps.trans jz (.one step_inBlock))⟩
 |exit jJ=>
  by_cases hid:jJ=id
  ·simp only[Exit.inBlock,hid,if_true]at hq
   exact⟨.normal,a1,w1,hq,.head step_block (jz k (by simp[exitTo,hid]))⟩
  ·simp only[Exit.inBlock,hid,if_false]at hq
   exact⟨.exit jJ,a1,w1,hq,fun k' hk=>.head step_block (jz k' (by simp[exitTo,Ne.symm hid,hk]))⟩
 |goto l=>exact⟨_,a1,w1,hq,fun k' hk=>.head step_block (jz k' (by simp[gotoIn,hk]))⟩
 |ret=>exact⟨_,a1,w1,hq,.of_steps (.one step_block) jz⟩
 |panic ch=>exact⟨_,a1,w1,hq,.of_steps (.one step_block) jz⟩
 |outgrown=>exact⟨_,a1,w1,hq,.of_steps (b:=b) (k:=k) (cs:=cs) (e:=.outgrown) (.one step_block) jz⟩
def oL (P:Program) (c:Code) (Q:Exit->Act->World->Prop):Nat->Act->World->Prop
 |0=>fun _ _=>False
 |n+1=>zS P c (Exit.then (oL P c Q n) Q)
theorem Bo {c:Code} (n:Nat) (h:oL P c Q n a w):zS P (.loop c) Q a w:=by
 intro b k cs hb
 have key:∀n a w,oL P c Q n a w->∃e a' w',Q e a' w'/\Arrives P (lone (b.at a (.code c::.inLoop c::k)) cs w) b k cs e a' w':=by
  intro n
  induction n with
  |zero=>intro a w h;exact h.elim
  |succ n ih=>
   intro a w h
   obtain⟨e,a1,w1,hq,jz⟩:=h b (.inLoop c::k) cs hb
   by_cases he:e=.normal
   ·subst he
    obtain⟨e2,a2,w2,Kj,HE⟩:=ih a1 w1 hq
    exact⟨e2,a2,w2,Kj,.of_steps (Steps.trans jz (.one step_inLoop)) HE⟩
   ·refine⟨e,a1,w1,?_,.pass (x:=.inLoop c) rfl (fun _ _=>.inl he) jz⟩
    cases e<;>first|exact absurd rfl he|exact hq
 obtain⟨e,a',w',hq,jz⟩:=key n a w h
 exact⟨e,a',w',hq,.of_steps (.one step_loop) jz⟩
theorem yw {f:FuncId} {fn:Func} {c:Code} {args:Array Value} {R:Ending->World->Prop} (hf:P.funcs[f]? =some fn) (hb:fn.body=some c)
  (h:zS P c (bodyPost P fn R) {tmps:=args++Array.replicate (fn.ntmps-args.size) undef,defers:=[]} w):Calls P f args w R:=by
 intro cs
 have M4:Frame.enter P f args .normal=({(default:Frame)with fn:=f,kind:=.normal}:Frame).at {tmps:=args++Array.replicate (fn.ntmps-args.size) undef,defers:=[]} [.code c]:=by simp[Frame.enter,Frame.at,hf,hb]
 obtain⟨e,a',w',hq,jz⟩:=h {(default:Frame)with fn:=f,kind:=.normal} [] cs (by simp)
 rw[<-M4]at jz
 cases e with
 |normal=>obtain⟨hd,v,hr,hR⟩:=hq;exact⟨.returned v,w',_,hR,Steps.trans jz (.one step_end),rfl,rfl,hd,rfl,fn,hf,hr⟩
 |ret=>obtain⟨hd,v,hr,hR⟩:=hq;obtain⟨todo,hs⟩:=jz;exact⟨.returned v,w',_,hR,hs,rfl,rfl,hd,rfl,fn,hf,hr⟩
 |panic chain=>obtain⟨hd,hR⟩:=hq;obtain⟨todo,hs⟩:=jz;exact⟨.panicked chain,w',_,hR,hs,rfl,rfl,hd,fn,hf⟩
 |exit id=>exact hq.elim
 |goto l=>exact hq.elim
 |outgrown=>exact⟨.outgrown,w',{(default:Frame)with fn:=f,kind:=.normal},hq,jz.resolve_left (by simp),rfl,trivial⟩
def wE (P:Program) (ops:Array Oper) (Q:Exit->Act->World->Prop) (l:List Nat) (a:Act) (w:World):Prop:=
 ∀(b:Frame) (k:List Item) (cs:List Frame),b.kind≠.early->∃e a' w',Q e a' w'/\Arrives P (lone (b.at a (.inRegion ops l::k)) cs w) b k cs e a' w'
theorem Dc {id:Nat} {ops:Array Oper} (h:wE P ops Q (List.range ops.size) a w):zS P (.region id ops false) Q a w:=
 fun b k cs hb=>let ⟨e,a',w',q,r⟩:=h b k cs hb;⟨e,a',w',q,.of_steps (.one step_region) r⟩
theorem NG {ops:Array Oper} (h:Q .normal a w):wE P ops Q [] a w:=fun _ _ _ _=>⟨.normal,a,w,h,.one step_region_end⟩
theorem oz {o:Oper} {ys:Nat->Option Bool} (h:o.guard=none):Region.wanted o ys=true:=by simp[Region.wanted,h]
theorem Ix {ops:Array Oper} {i:Nat} {rest:List Nat} {o:Oper} {v:Value} (ho:ops[i]? =some o) (hg:o.guard=none) (hr:(execOp a.eval o).run P w=.ok (.value v) w') (h:wE P ops Q rest (a.put o.dst v) w'):wE P ops Q (i::rest) a w:=by
 intro b k cs hb
 obtain⟨e,a',w2,hq,jz⟩:=h b k cs hb
 refine⟨e,a',w2,hq,.of_steps (.one ?_) jz⟩
 have rS:(b.at a (.inRegion ops (i::rest)::k)).finish v=b.at (a.put o.dst v) (.inRegion ops rest::k):=by rw[Frame.finish_at,ho];rfl
 rw[<-rS]
 refine step_lone_go ?_
 have h2:=stepG_op (P:=P) (b:=b) (k:=k) (cs:=cs) (w:=w) (rest:=rest) ho (oz hg (ys:=yielded ops a.tmps))
 rw[h2];simp[stepG.apply,hr]
theorem KQ {ops:Array Oper} {i:Nat} {rest:List Nat} {o:Oper} {v z:Value} {c cap s r:Nat} {buf:Array Value} (ho:ops[i]? =some o) (hg:o.guard=none) (hr:(execOp a.eval o).run P w=.ok (.comm #[Conc.scase c v z] true .send) w)
  (hc:w.heap[c]? =some (.chan cap buf false s r false)) (fV:buf.size<cap) (h:wE P ops Q rest (a.put o.dst undef) (w.setChan c cap (buf.push v) false (s+1) r false)):wE P ops Q (i::rest) a w:=by
 intro b k cs hb
 obtain⟨e,a',w2,hq,jz⟩:=h b k cs hb
 refine⟨e,a',w2,hq,.of_steps (.one ?_) jz⟩
 have rS:(b.at a (.inRegion ops (i::rest)::k)).finish undef=b.at (a.put o.dst undef) (.inRegion ops rest::k):=by rw[Frame.finish_at,ho];rfl
 rw[<-rS,Conc.lone_eq_solo,Conc.lone_eq_solo]
 exact Conc.step_lone_send_room (Conc.stepG_comm ho (oz hg) hb hr) hc fV
theorem KP {ops:Array Oper} {i:Nat} {rest:List Nat} {o:Oper} {z:Value} {c cap s r:Nat} {buf:Array Value} (ho:ops[i]? =some o) (hg:o.guard=none) (hr:(execOp a.eval o).run P w=.ok (.comm #[Conc.rcase c z] true (.recv false)) w)
  (hc:w.heap[c]? =some (.chan cap buf false s r false)) (H4:0<buf.size) (h:wE P ops Q rest (a.put o.dst (buf.getD 0 undef)) (w.setChan c cap (buf.extract 1 buf.size) false s (r+1) false)):wE P ops Q (i::rest) a w:=by
 intro b k cs hb
 obtain⟨e,a',w2,hq,jz⟩:=h b k cs hb
 refine⟨e,a',w2,hq,.of_steps (.one ?_) jz⟩
 have rS:(b.at a (.inRegion ops (i::rest)::k)).finish (buf.getD 0 undef)=b.at (a.put o.dst (buf.getD 0 undef)) (.inRegion ops rest::k):=by rw[Frame.finish_at,ho];rfl
 rw[<-rS,Conc.lone_eq_solo,Conc.lone_eq_solo]
 exact Conc.step_lone_recv_buf false (Conc.stepG_comm ho (oz hg) hb hr) hc H4
end
section
variable {hs:Nat} {g:Rows} {env:Env} {a:Act} {o:Oper}
theorem Kx {x y:O} (hc:qh P o.op=some (.snd x y)):∃x' y',o.op=.send x' y'/\cO P x'=some x/\cO P y'=some y:=by
 unfold qh at hc
 split at hc
 case h_25=>
  rename_i x' y' h
  simp only[Option.bind_eq_bind,Option.bind_eq_some_iff,Option.pure_def,Option.some.injEq,fX.snd.injEq]at hc
  obtain⟨p,h1,q,h2,rfl,rfl⟩:=hc
  exact⟨_,_,h,h1,h2⟩
 all_goals (try unfold mT at hc)<;>(try unfold uj at hc)<;>(try unfold rI at hc)<;>(repeat' (split at hc))<;>(simp only[Option.bind_eq_bind,Option.bind_eq_some_iff,Option.pure_def,Option.some.injEq,Option.map_eq_some_iff,reduceCtorEq,and_false,exists_false]at hc)
theorem Kw {x:O} (hc:qh P o.op=some (.NK x)):∃t dir e i z x',o.op=.recv t x' false/\P.underlying t=some (.chan dir e)/\P.info? e=some i/\i.zero=some z/\cO P x'=some x:=by
 unfold qh at hc
 split at hc
 case h_26=>
  rename_i t x' h
  split at hc
  ·rename_i dir e ht
   split at hc
   ·rename_i z hz
    simp only[Option.bind_eq_some_iff]at hz
    obtain⟨i,hi,hz⟩:=hz
    simp only[Option.map_eq_some_iff,fX.NK.injEq]at hc
    obtain⟨p,h1,rfl⟩:=hc
    exact⟨t,dir,e,i,z,x',h,ht,hi,hz,h1⟩
   ·cases hc
  ·cases hc
 all_goals (try unfold mT at hc)<;>(try unfold uj at hc)<;>(try unfold rI at hc)<;>(repeat' (split at hc))<;>(simp only[Option.bind_eq_bind,Option.bind_eq_some_iff,Option.pure_def,Option.some.injEq,Option.map_eq_some_iff,reduceCtorEq,and_false,exists_false]at hc)
theorem Pa {x y:O} {g':Rows} (S:fU P hs D ι g w) (hc:qh P o.op=some (.snd x y)) (E:bD P w D ι env a) (hv:eE g (cE env x) (cE env y)=some g'):
  ∃c cap s r buf u,(execOp a.eval o).run P w=.ok (.comm #[Conc.scase c u (.tuple #[])] true .send) w/\w.heap[c]? =some (.chan cap buf false s r false)/\buf.size<cap/\fU P hs D ι g' (w.setChan c cap (buf.push u) false (s+1) r false)/\Step hs D ι w D ι (w.setChan c cap (buf.push u) false (s+1) r false):=by
 obtain⟨x',y',ho,hx,hy⟩:=Kx hc
 have rx:=cJ E hx
 have ry:=cJ E hy
 unfold eE at hv
 split at hv
 ·rename_i i he
  simp only[Option.bind_eq_some_iff]at hv
  obtain⟨r,hg,hv⟩:=hv
  split at hv
  ·rename_i hcond
   simp only[Option.some.injEq]at hv
   subst hv
   obtain⟨B,c,hu,hB,hk,e9,buf,s,q,hb,Ju,hR⟩:=yy S rx he hg
   obtain⟨B',dr,RR,_⟩:=S.row i r hg
   rw[hB]at dr;injection dr with dr;subst dr
   have nv:=S.Gt (ob:=.chan c (buf.push (a.eval y')) false (s+1) q false) (r':={r with rows:=r.rows++[[cE env y]]}) hg hcond.1 hB fun hr j0=>⟨RR.sz,fun cs dn=>?_,fun h0=>(by rw[hk]at h0;cases h0),fun m hm=>(by rw[hk]at hm;cases hm),fun c' kz=>?_⟩
   ·exact⟨B.b,c,s,q,buf,a.eval y',by simp[execOp,ho,hu,Conc.scase],hb,by rw[Ju];omega,nv.1,nv.2⟩
   ·rcases List.mem_append.1 dn with h|h
    ·exact RR.flat cs h
    ·rw[List.mem_singleton.1 h]
     intro b rR
     rw[List.mem_singleton.1 rR];exact hcond.2.2
   ·rw[hk]at kz
    simp only[Option.some.injEq,BK.chan.injEq]at kz
    subst kz
    refine⟨e9,_,_,_,j0,by simp[Ju],fun j cs hj=>?_⟩
    rw[List.getElem?_append]at hj
    split at hj
    ·rename_i dz
     obtain⟨b,u,q1,q2,q3⟩:=hR j cs hj
     refine⟨b,u,q1,?_,hr _ _ q3⟩
     rw[Array.getElem?_push,if_neg (by omega)];exact q2
    ·rename_i oH
     have gw:j=r.rows.length:=by
      have:=(List.getElem?_eq_some_iff.1 hj).1
      simp at this;omega
     subst gw
     simp at hj
     subst hj
     exact⟨_,_,rfl,by rw[Array.getElem?_push,if_pos Ju.symm],hr _ _ ry⟩
  ·cases hv
 ·cases hv
theorem O9 {x:O} {g':Rows} {v:AV} (S:fU P hs D ι g w) (hc:qh P o.op=some (.NK x)) (E:bD P w D ι env a) (hv:eD g (cE env x)=some (v,g')):
  ∃c cap s r buf z,(execOp a.eval o).run P w=.ok (.comm #[Conc.rcase c z] true (.recv false)) w/\w.heap[c]? =some (.chan cap buf false s r false)/\0<buf.size/\fU P hs D ι g' (w.setChan c cap (buf.extract 1 buf.size) false s (r+1) false)/\Step hs D ι w D ι (w.setChan c cap (buf.extract 1 buf.size) false s (r+1) false)/\cq P (w.setChan c cap (buf.extract 1 buf.size) false s (r+1) false) D ι v (buf.getD 0 undef):=by
 obtain⟨t,dir,e,i0,z,x',ho,ht,hi,hz,hx⟩:=Kw hc
 have rx:=cJ E hx
 unfold eD at hv
 split at hv
 ·rename_i i he
  simp only[Option.bind_eq_some_iff]at hv
  obtain⟨r,hg,hv⟩:=hv
  split at hv
  ·rename_i v' rest nY
   split at hv
   ·rename_i hcond
    simp only[Option.some.injEq,Prod.mk.injEq]at hv
    obtain⟨rfl,rfl⟩:=hv
    obtain⟨B,c,hu,hB,hk,e9,buf,s,q,hb,Ju,hR⟩:=yy S rx he hg
    obtain⟨B',dr,RR,_⟩:=S.row i r hg
    rw[hB]at dr;injection dr with dr;subst dr
    obtain⟨b0,u0,q1,q2,q3⟩:=hR 0 [v'] (by rw[nY];rfl)
    simp only[List.cons.injEq,and_true]at q1
    subst q1
    have k5:0<buf.size:=by rw[Ju,nY];simp
    have Rt:buf.getD 0 undef=u0:=by rw[Array.getD_eq_getD_getElem?,q2];rfl
    have nv:=S.Gt (ob:=.chan c (buf.extract 1 buf.size) false s (q+1) false) (r':={r with rows:=rest}) hg hcond hB fun hr j0=>⟨RR.sz,fun cs dn=>RR.flat cs (by rw[nY];exact List.mem_cons_of_mem _ dn),fun h0=>(by rw[hk]at h0;cases h0),fun m hm=>(by rw[hk]at hm;cases hm),fun c' kz=>?_⟩
    ·refine⟨B.b,c,s,q,buf,z,?_,hb,k5,nv.1,nv.2,?_⟩
     ·have uS:(zeroValue e).run P w=.ok z w:=by simp[zeroValue,typeInfo,hi,hz]
      simp[execOp,ho,hu,Conc.rcase,run_underlying ht,uS]
     ·rw[Rt];exact nv.2.rep q3
    ·rw[hk]at kz
     simp only[Option.some.injEq,BK.chan.injEq]at kz
     subst kz
     refine⟨e9,_,_,_,j0,by simp[Ju,nY],fun j cs hj=>?_⟩
     obtain⟨b,u,k1,k2,k3⟩:=hR (j+1) cs (by rw[nY];simpa using hj)
     refine⟨b,u,k1,?_,hr _ _ k3⟩
     have dz:=(Array.getElem?_eq_some_iff.1 k2).1
     rw[Array.getElem?_extract,if_pos (by omega),Nat.add_comm 1 j];exact k2
   ·cases hv
  ·cases hv
 ·cases hv
theorem E8 {ops:Array Oper} {nt site0:Nat} {K:Env->ar->Prop} {Q:Exit->Act->World->Prop}:∀(l:List Oper) (vl:List aM) (j:Nat) (env:Env) (σ:ar) (a:Act) (w:World) (D:Nat->Prop) (ι:Names),
  ops.toList.drop j=l->allM (ko P ops nt site0 false false #[] []) l j=some vl->cD vl K env σ->fU P hs D ι σ.get w->Used ι σ.next (fun _=>False)->bD P w D ι env a->a.tmps.size=nt->
  (∀iy σ' a' w' D' ι',K iy σ'->Step hs D ι w D' ι' w'->St P hs nt D' ι' iy σ' a' w'->a'.defers=a.defers->σ.next<=σ'.next->Q .normal a' w')->wE P ops Q (List.range' j l.length) a w:=by
 intro l
 induction l with
 |nil=>
  intro vl j env σ a w D ι _ h hv S Us E e9 hQ
  simp[allM]at h;subst h
  exact NG (hQ env ⟨σ.get,σ.next+1⟩ a w D ι hv (Step.refl _ _ _ _) ⟨S,Us.next,E,e9⟩ rfl (Nat.le_succ _))
 |cons o l ih=>
  intro vl j env σ a w D ι hl h hv S Us E e9 hQ
  simp only[allM,Option.bind_eq_bind,Option.bind_eq_some_iff,Option.pure_def,Option.some.injEq]at h
  obtain⟨vo,iY,sk,rE,rfl⟩:=h
  obtain⟨hc,hd,AU,wP,hg⟩:=oF iY
  obtain⟨PL,hv⟩:=hv
  have SX:o.guard=none:=by
   split at hg
   ·assumption
   ·obtain⟨t,_,h⟩:=hg
    rw[PL]at h;cases h
  have SY:ops[j]? =some o:=by
   have h0:=congrArg (fun x=>x[0]?) hl
   rw[<-Array.getElem?_toList]
   simpa[List.getElem?_drop]using h0
  have JB:ops.toList.drop (j+1)=l:=by rw[<-List.drop_drop,hl];rfl
  have go:∀(v:AV) (u:Value) (g2:Rows) (w2:World),cD sk K (upd env vo.dst v) ⟨g2,σ.next⟩->fU P hs D ι g2 w2->Step hs D ι w D ι w2->cq P w2 D ι v u->wE P ops Q (List.range' (j+1) l.length) (a.put o.dst u) w2:=fun v u g2 w2 hn S2 T hR=>
   ih sk (j+1) (upd env vo.dst v) ⟨g2,σ.next⟩ (a.put o.dst u) w2 D ι JB rE hn S2 Us (by rw[hd];exact il (nQ E T) hR wP e9) (by rw[eS];exact e9) fun iy σ2 a' w3 D3 ι3 hk T2 Mb CI lz=>hQ iy σ2 a' w3 D3 ι3 hk (T.trans T2) Mb (CI.trans (put_defers _ _ _)) lz
  rw[show List.range' j (o::l).length=j::List.range' (j+1) l.length from rfl]
  split at hv
  ·rename_i x y dL
   split at hv
   ·rename_i g2 OM
    rw[dL]at hc
    obtain⟨c,cap,s,r,buf,u,fM,hb,fV,S2,T⟩:=Pa S hc E OM
    exact KQ SY SX fM hb fV (go _ _ _ _ hv S2 T cq.undef)
   ·exact hv.elim
  ·rename_i x dL
   split at hv
   ·rename_i v g2 OM
    rw[dL]at hc
    obtain⟨c,cap,s,r,buf,z,fM,hb,H4,S2,T,hR⟩:=O9 S hc E OM
    exact KP SY SX fM hb H4 (go _ _ _ _ hv S2 T hR)
   ·exact hv.elim
  ·split at hv
   ·rename_i v hq
    obtain⟨u,fM,hR⟩:=xZ hc hq S E
    exact Ix SY SX fM (go _ _ _ _ hv S (Step.refl _ _ _ _) hR)
   ·exact hv.elim
end
end Go.Proofs.YtgoelphibofcmaaGreat.V

namespace Go.Proofs.YtgoelphibofcmaaGreat.V
open Go.RowKit
variable {P:Program} {w w':World} {D D' D2:Nat->Prop} {ι ι' ι2:Names}
section
variable {hs:Nat} {X:fu}
def QQ:Ex->Exit
 | .normal=>.normal
 | .exit id=>.exit id
 | .ret=>.ret
theorem St.drew {nt:Nat} {env:Env} {σ:ar} {a:Act} {D:Nat->Prop} {ι:Names} (h:St P hs nt D ι env σ a w):St P hs nt D ι env σ a w.drew/\Step hs D ι w D ι w.drew:=by
 have T:Step hs D ι w D ι w.drew:=Step.stay h.sb (fun _ _=>rfl) (Nat.le_refl _) rfl rfl rfl (fun _ h=>h) (fun _ h=>.inl h) (fun _ _ h=>h)
 exact⟨⟨h.sb.stay (fun _ _=>rfl) (Nat.le_refl _) (fun _ h=>h) h.sb.dead (fun _ h=>.inl h) (fun _ _ h=>h),h.used,nQ h.env T,h.size⟩,T⟩
def su (P:Program) (hs nt:Nat) (ds:List Deferred) (Q:Ex->Env->ar->Prop) (n0:Nat) (D:Nat->Prop) (ι:Names) (w:World) (Q':Exit->Act->World->Prop):Prop:=
 ∀ex env σ a w' D' ι',Q ex env σ->Step hs D ι w D' ι' w'->St P hs nt D' ι' env σ a w'->a.defers=ds->n0<=σ.next->Q' (QQ ex) a w'
theorem su.later {nt:Nat} {ds:List Deferred} {Q:Ex->Env->ar->Prop} {n0 n1:Nat} {Q':Exit->Act->World->Prop} (h:su P hs nt ds Q n0 D ι w Q') (T:Step hs D ι w D' ι' w') (hn:n0<=n1):su P hs nt ds Q n1 D' ι' w' Q':=
 fun ex env σ a w2 D2 ι2 hq T2 dc hd hle=>h ex env σ a w2 D2 ι2 hq (T.trans T2) dc hd (Nat.le_trans hn hle)
theorem pK (hm:P.follows .mixedOrders=true) {md:List (Nat×Nat)} {nt fid:Nat}:∀(c:Code) (vc:VC),jc P md nt fid c=some vc->∀(Q:Ex->Env->ar->Prop) (env:Env) (σ:ar) (a:Act) (w:World) (D:Nat->Prop) (ι:Names) (Q':Exit->Act->World->Prop),
  dD (Sound P) vc Q env σ->St P hs nt D ι env σ a w->su P hs nt a.defers Q σ.next D ι w Q'->zS P c Q' a w:=by
 intro c
 induction c with
 |skip=>
  intro vc h Q env σ a w D ι Q' hv dc hQ
  simp[jc]at h;subst h
  exact j3 <| wp_skip (hQ .normal env σ a w D ι hv (Step.refl _ _ _ _) dc rfl (Nat.le_refl _))
 |exit id=>
  intro vc h Q env σ a w D ι Q' hv dc hQ
  simp[jc]at h;subst h
  exact j3 <| wp_exit (hQ (.exit id) env σ a w D ι hv (Step.refl _ _ _ _) dc rfl (Nat.le_refl _))
 |ret=>
  intro vc h Q env σ a w D ι Q' hv dc hQ
  simp[jc]at h;subst h
  exact j3 <| wp_ret (hQ .ret env σ a w D ι hv (Step.refl _ _ _ _) dc rfl (Nat.le_refl _))
 |seq x y ihx ihy=>
  intro vc h Q env σ a w D ι Q' hv dc hQ
  simp only[jc,Option.bind_eq_bind,Option.bind_eq_some_iff,Option.pure_def,Option.some.injEq]at h
  obtain⟨vx,hx,vy,hy,rfl⟩:=h
  refine lr (ihx vx hx _ env σ a w D ι _ hv dc fun ex iT σ1 a1 w1 D1 ι1 hq T jR hd hle=>?_)
  cases ex with
  |normal=>exact ihy vy hy Q iT σ1 a1 w1 D1 ι1 Q' hq jR (by rw[hd];exact hQ.later T hle)
  |exit id=>exact hQ (.exit id) iT σ1 a1 w1 D1 ι1 hq T jR hd hle
  |ret=>exact hQ .ret iT σ1 a1 w1 D1 ι1 hq T jR hd hle
 |cond c x y ihx ihy=>
  intro vc h Q env σ a w D ι Q' hv dc hQ
  simp only[jc,Option.bind_eq_bind,Option.bind_eq_some_iff,Option.pure_def,Option.some.injEq]at h
  obtain⟨c',hc,vx,hx,vy,hy,rfl⟩:=h
  unfold dD at hv
  have hr:=cJ dc.env hc
  split at hv
  ·rename_i b hb
   rw[hb]at hr
   refine vn (eX hr) ?_
   cases b with
   |true=>exact ihx vx hx Q env σ a w D ι Q' hv dc hQ
   |false=>exact ihy vy hy Q env σ a w D ι Q' hv dc hQ
  ·exact hv.elim
 |block id c ih=>
  intro vc h Q env σ a w D ι Q' hv dc hQ
  simp only[jc,Option.map_eq_some_iff]at h
  obtain⟨vx,hx,rfl⟩:=h
  refine r6 (ih vx hx _ env σ a w D ι _ hv dc fun ex iT σ1 a1 w1 D1 ι1 hq T jR hd hle=>?_)
  cases ex with
  |normal=>exact hQ .normal iT σ1 a1 w1 D1 ι1 hq T jR hd hle
  |ret=>exact hQ .ret iT σ1 a1 w1 D1 ι1 hq T jR hd hle
  |exit jJ=>
   simp only[aT]at hq
   simp only[QQ,Exit.inBlock]
   by_cases hid:jJ=id
   ·rw[if_pos hid]at hq ⊢;exact hQ .normal iT σ1 a1 w1 D1 ι1 hq T jR hd hle
   ·rw[if_neg hid]at hq ⊢;exact hQ (.exit jJ) iT σ1 a1 w1 D1 ι1 hq T jR hd hle
 |loop c ih=>
  intro vc h Q env σ a w D ι Q' hv dc hQ
  simp only[jc,Option.map_eq_some_iff]at h
  obtain⟨vx,hx,rfl⟩:=h
  obtain⟨n,hv⟩:=hv
  refine Bo n ?_
  have key:∀n env σ a w D ι,Ez (dD (Sound P) vx) Q n env σ->St P hs nt D ι env σ a w->su P hs nt a.defers Q σ.next D ι w Q'->oL P c Q' n a w:=by
   intro n
   induction n with
   |zero=>intro env σ a w D ι h;exact h.elim
   |succ n ihn=>
    intro env σ a w D ι h dc hQ
    refine ih vx hx _ env σ a w D ι _ h dc fun ex iT σ1 a1 w1 D1 ι1 hq T jR hd hle=>?_
    cases ex with
    |normal=>exact ihn iT σ1 a1 w1 D1 ι1 hq jR (by rw[hd];exact hQ.later T hle)
    |exit id=>exact hQ (.exit id) iT σ1 a1 w1 D1 ι1 hq T jR hd hle
    |ret=>exact hQ .ret iT σ1 a1 w1 D1 ι1 hq T jR hd hle
  exact key n env σ a w D ι hv dc hQ
 |region id ops draw=>
  intro vc h Q env σ a w D ι Q' hv dc hQ
  simp only[jc,O8]at h
  split at h
  ·rename_i hmode
   have Sx:draw=true:=by
    simp only[Bool.and_eq_true]at hmode;exact hmode.1
   subst Sx
   split at h
   ·rename_i vl dF
    obtain⟨qF,T0⟩:=dc.drew
    have CG:=Gs (X:=Sound P) km ops.size _ vc env σ h (fun k i h=>by
     exfalso
     rcases Nat.lt_or_ge k ops.size with hk|hk
     ·simp[hk]at h
     ·simp[Nat.not_lt.2 hk]at h) hv
    refine j3 (wp_region_any hm ?_)
    exact DL dF ops.size _ env σ a w.drew D ι (fun _=>False) CG qF.sb qF.used (fun _ h=>h.elim) qF.env qF.size fun iT σ1 a1 w1 D1 ι1 hk T jR hd hle=>hQ .normal iT σ1 a1 w1 D1 ι1 hk (T0.trans T) jR hd hle
   ·cases h
  split at h
  ·rename_i hcom
   have Sx:draw=false:=by
    simp only[Bool.and_eq_true,Bool.not_eq_true']at hcom;exact hcom.1
   subst Sx
   simp only[Option.map_eq_some_iff]at h
   obtain⟨vl,rE,rfl⟩:=h
   have dF:allM (ko P ops nt ((fid*1000+id)*1000) false false #[] []) ops.toList 0=some vl:=by
    unfold qw at rE
    simp only[Bool.false_eq_true,if_false,Bool.not_false,Bool.true_or,if_true]at rE
    split at rE
    ·rename_i sk h;simp at rE;subst rE;exact h
    ·cases rE
   refine Dc ?_
   have:=E8 (Q:=Q') ops.toList vl 0 env σ a w D ι rfl dF hv dc.sb dc.used dc.env dc.size fun iT σ1 a1 w1 D1 ι1 hk T jR hd hle=>hQ .normal iT σ1 a1 w1 D1 ι1 hk T jR hd hle
   rwa [<-List.range_eq_range',Array.length_toList]at this
  generalize (ve md id==1)=mk at h
  simp only[Option.map_eq_some_iff]at h
  obtain⟨vl,rE,rfl⟩:=h
  cases draw with
  |false=>
   have dF:∃sk,allM (ko P ops nt ((fid*1000+id)*1000) false mk #[] []) ops.toList 0=some sk/\vl=sk:=by
    unfold qw at rE
    simp only[Bool.false_eq_true,if_false,Bool.not_false,Bool.true_or,if_true]at rE
    split at rE
    ·rename_i sk h;simp at rE;exact⟨sk,h,rE.symm⟩
    ·cases rE
   obtain⟨sk,dF,rfl⟩:=dF
   refine j3 (wp_region_list ?_)
   exact xW ops.toList vl 0 env σ a w D ι (fun _=>False) dF hv dc.sb dc.used (fun _ h=>h.elim) dc.env dc.size fun iT σ1 a1 w1 D1 ι1 hk T jR hd hle=>hQ .normal iT σ1 a1 w1 D1 ι1 hk T jR hd hle
  |true=>
   have dF:∃hidden sk,allM (ko P ops nt ((fid*1000+id)*1000) true mk (jo ops) hidden) ops.toList 0=some sk/\vl=sk/\nP ops sk (jo ops)=true:=by
    unfold qw at rE
    simp only[if_true,Bool.not_true,Bool.false_or]at rE
    split at rE
    ·rename_i sk h
     split at rE
     ·rename_i uP;simp at rE;exact⟨_,sk,h,rE.symm,uP⟩
     ·cases rE
    ·cases rE
   obtain⟨hidden,sk,dF,rfl,uP⟩:=dF
   obtain⟨qF,T0⟩:=dc.drew
   obtain⟨hlen,_⟩:=nK dF
   have kB:vl.length=ops.size:=by rw[hlen];simp
   have CG:=wo (X:=Sound P) (K:=Q .normal) (n:=σ.next) uP kB vl 0 (Array.replicate ops.size false) env σ.get (by simp) (by simp) (fun i hi=>by simp[hi]) (by simp[kB]) (fun k i h=>by
    exfalso
    rcases Nat.lt_or_ge k ops.size with hk|hk
    ·simp[hk]at h
    ·simp[Nat.not_lt.2 hk]at h) hv
   refine j3 (wp_region_any hm ?_)
   rw[kB]at CG
   exact xe dF ops.size _ env σ.get a w.drew D ι (fun _=>False) CG qF.sb qF.used (fun _ h=>h.elim) qF.env qF.size fun iT g1 a1 w1 D1 ι1 U1 hk T S1 RM E1 tM hd=>hQ .normal iT ⟨g1,σ.next+1⟩ a1 w1 D1 ι1 hk (T0.trans T) ⟨S1,RM.next,E1,tM⟩ hd (Nat.le_succ _)
 |_=>
  intro vc h
  simp[jc]at h
def IG (tmps:Array Value):ResultVar->Sem Value
 | .tmp t=>pure (tmps.getD t undef)
 | .cell a t=>do loadVar t (<-asAddr (tmps.getD a undef))
theorem Dl (fn:Func) (tmps:Array Value):results fn tmps=(do
  let vs <-fn.results.mapM (IG tmps)
  pure (if h:vs.size=1 then vs[0]else .tuple vs)):=by
 unfold results
 congr 2
theorem s5 {nt:Nat} {env:Env} {σ:ar} {a:Act} {D:Nat->Prop} {ι:Names} (dc:St P hs nt D ι env σ a w):∀(rs:List ResultVar) (vr:List ni) (vs:List AV),rs.mapM (Ck P)=some vr->e5 env σ.get vr=some vs->
  ∃us:List Value,(rs.mapM (IG a.tmps)).run P w=.ok us w/\us.length=vs.length/\∀(j:Nat) (v:AV),vs[j]? =some v->∃u,us[j]? =some u/\cq P w D ι v u
 |[],vr,vs,h,hv=>by
  simp at h;subst h
  simp[e5]at hv;subst hv
  exact⟨[],by simp,rfl,fun j v h=>by simp at h⟩
 |r::rs,vr,vs,h,hv=>by
  simp only[List.mapM_cons,Option.bind_eq_bind,Option.bind_eq_some_iff]at h
  obtain⟨x,hx,vr',hr,h⟩:=h
  simp at h;subst h
  simp only[e5,Option.bind_eq_some_iff,Option.map_eq_some_iff]at hv
  obtain⟨v,xH,Tq,Kp,rfl⟩:=hv
  obtain⟨us,h1,h2,h3⟩:=s5 dc rs vr' Tq hr Kp
  have one:∃u,(IG a.tmps r).run P w=.ok u w/\cq P w D ι v u:=by
   cases r with
   |tmp t=>
    simp[Ck]at hx;subst hx
    simp[gV]at xH;subst xH
    exact⟨_,rfl,dc.env t⟩
   |cell b t=>
    simp only[Ck,Option.bind_eq_bind,Option.bind_eq_some_iff,Option.pure_def,Option.some.injEq]at hx
    obtain⟨ag,tH,n,hn,rfl⟩:=hx
    simp only[gV]at xH
    have gp:=dc.env b
    unfold ld at xH
    split at xH
    ·rename_i jJ i' oo hb
     rw[hb]at gp
     obtain⟨B,he,hB,hk⟩:=ir gp
     simp only[Option.bind_eq_some_iff]at xH
     obtain⟨cs,dn,hp⟩:=xH
     obtain⟨B',r0,GC,dr,R,hi,fl,f,hf⟩:=IL (S:=dc.sb) dn (fun B2 h2=>by rw[hB]at h2;injection h2 with h2;subst h2;exact hk)
     rw[hB]at dr;injection dr with dr;subst dr
     obtain⟨u,k1,k2⟩:=kd (w:=w) (b:=B.b) (oo:=i'*B.sz+oo) (f:=fun j=>f (oo+j)) tH hn hp (fun a ha=>fl a (List.mem_of_mem_drop ha)) (fun j hj=>by
      rw[Nat.add_assoc];exact(hf _ (by simp at hj;omega)).1) (fun j a ha=>by
      simp at ha;exact(hf _ ((List.getElem?_eq_some_iff.1 ha).1)).2 _ ha)
     exact⟨u,by simp only[IG,he,asAddr,Sem.run_bind,Sem.run_pure,Result.andThen_ok,k1],k2⟩
    ·rename_i cs hb
     rw[hb]at gp
     obtain⟨b',oo,vs2,he,q1,q2,q3,q4⟩:=kI gp
     obtain⟨u,k1,k2⟩:=kd (w:=w) (b:=b') (oo:=oo) (f:=vs2) tH hn xH q2 q3 (fun j a ha=>.eF _ _ (q4 j a ha))
     exact⟨u,by simp only[IG,he,asAddr,Sem.run_bind,Sem.run_pure,Result.andThen_ok,k1],k2⟩
    ·simp at xH
  obtain⟨u,hu,wS⟩:=one
  refine⟨u::us,?_,by simp[h2],fun j v' hj=>?_⟩
  ·rw[List.mapM_cons]
   simp only[Sem.run_bind,hu,h1,Result.andThen_ok,Sem.run_pure]
  ·cases j with
   |zero=>simp at hj;subst hj;exact⟨u,rfl,wS⟩
   |succ j=>simp at hj ⊢;exact h3 j v' hj
theorem uh {f:Nat} {fn:Func} {c:Code} {args:List AV} {σ:ar} {K:AV->ar->Prop} {vr:List ni} (OB:P.funcs[f]? =some fn) (hc:fn.body=some c) (hr:fn.results.toList.mapM (Ck P)=some vr) (ha:fn.params.size+fn.nfree=args.length) (hle:fn.params.size+fn.nfree<=fn.ntmps)
  (h:∀(hs:Nat) (w:World) (D:Nat->Prop) (ι:Names) (a:Act) (Q':Exit->Act->World->Prop),St P hs fn.ntmps D ι (ck args) σ a w->su P hs fn.ntmps a.defers (kb vr K) σ.next D ι w Q'->zS P c Q' a w):Sound P f args σ K:=by
 intro hs D ι w vs S Us A
 have e9:vs.size=args.length:=A.1
 refine yw OB hc ?_
 refine h hs w D ι _ _ ⟨S,Us,fun t=>?_,by simp;omega⟩ fun ex iT σ1 a1 w1 D1 ι1 hq T jR hd hle=>?_
 ·simp only[ck]
  by_cases dz:t<args.length
  ·obtain⟨u,hu,wS⟩:=A.2 t args[t] (List.getElem?_eq_getElem dz)
   have e1:args.getD t .undef=args[t]:=by simp[List.getD_eq_getElem?_getD,dz]
   have e2:(vs++Array.replicate (fn.ntmps-vs.size) undef).getD t undef=u:=by
    simp only[Array.getD_eq_getD_getElem?]
    rw[Array.getElem?_append_left (by omega),hu];rfl
   rw[e1,e2];exact wS
  ·have e1:args.getD t .undef=.undef:=by simp[List.getD_eq_getElem?_getD,Nat.le_of_not_lt dz]
   have e2:(vs++Array.replicate (fn.ntmps-vs.size) undef).getD t undef=undef:=by
    simp only[Array.getD_eq_getD_getElem?]
    rw[Array.getElem?_append_right (by omega),Array.getElem?_replicate]
    split<;>rfl
   rw[e1,e2];exact cq.undef
 ·have fin:(∃vs,e5 iT σ1.get vr=some vs/\K (eT vs) σ1)->a1.defers=[]/\∃v,(results fn a1.tmps).run P w1=.ok v w1/\∃r g' n' D' ι' u,Ending.returned v=.returned u/\K r ⟨g',n'⟩/\Step hs D ι w D' ι' w1/\fU P hs D' ι' g' w1/\Used ι' n' (fun _=>False)/\σ.next<=n'/\cq P w1 D' ι' r u:=by
   rintro⟨avs,Kp,hK⟩
   obtain⟨us,h1,h2,h3⟩:=s5 jR fn.results.toList vr avs hr Kp
   have Nk:(results fn a1.tmps).run P w1=.ok (if h:us.toArray.size=1 then us.toArray[0]else .tuple us.toArray) w1:=by
    rw[Dl,Array.mapM_eq_mapM_toList]
    simp only[Sem.run_bind,Sem.run_map,h1,Result.andThen_ok,Sem.run_pure]
   refine⟨hd,_,Nk,eT avs,σ1.get,σ1.next,D1,ι1,_,rfl,hK,T,jR.sb,jR.used,hle,?_⟩
   unfold eT
   split
   ·rename_i v
    have hl:us.length=1:=h2
    obtain⟨u,hu,wS⟩:=h3 0 v rfl
    rw[dif_pos (by simpa using hl)]
    have:us.toArray[0]'(by simp[hl])=u:=by
     have:=(List.getElem?_eq_some_iff.1 hu).2
     simpa using this
    rw[this];exact wS
   ·rename_i fZ
    rw[dif_neg (by
     simp only[List.size_toArray,h2]
     intro h
     obtain⟨v,hv⟩:=List.length_eq_one_iff.1 h
     exact fZ v hv)]
    exact .gx _ _ (fun j=>us.getD j undef) (by simp[h2]) (fun j hj=>by
     have:j<us.length:=by rw[h2];exact hj
     simp[this]) (fun j v hj=>by
     obtain⟨u,hu,wS⟩:=h3 j v hj
     simpa[List.getD_eq_getElem?_getD,hu]using wS)
  cases ex with
  |normal=>exact fin hq
  |ret=>exact fin hq
  |exit id=>exact hq.elim
theorem HB (hm:P.follows .mixedOrders=true) {f:Nat} {md:List (Nat×Nat)} {vf:zT} {args:List AV} {σ:ar} {K:AV->ar->Prop} (hf:wK P f md=some vf) (ha:vf.xT=args.length) (h:dD (Sound P) vf.body (kb vf.res K) (ck args) σ):Sound P f args σ K:=by
 unfold wK at hf
 split at hf
 ·rename_i fn OB
  split at hf
  ·rename_i c hc
   simp only[Option.bind_eq_bind,Option.bind_eq_some_iff]at hf
   obtain⟨vb,hb,vr,hr,hf⟩:=hf
   split at hf
   ·rename_i hle
    simp only[Option.pure_def,Option.some.injEq]at hf
    subst hf
    simp only at ha h
    exact uh OB hc hr ha hle fun hs w D ι a Q' dc hQ=>pK hm c vb hb (kb vr K) (ck args) σ a w D ι Q' h dc hQ
   ·simp at hf
  ·simp at hf
 ·simp at hf
def LZ (P:Program) (X:fu):fu:=fun f args σ K=>(∃md vf,wK P f md=some vf/\vf.xT=args.length/\((∀a∈args,dZ a)->dD X vf.body (kb vf.res K) (ck args) σ))∨Sound P f args σ K
def Call (P:Program):fu:=fun f args σ K=>∀X:fu,pj X->(∀f args σ K,LZ P X f args σ K->X f args σ K)->X f args σ K
theorem fR (hm:P.follows .mixedOrders=true) {f:Nat} {args:List AV} {σ:ar} {K:AV->ar->Prop} (h:Call P f args σ K):Sound P f args σ K:=
 h (Sound P) km fun f args σ K hs=>by
  rcases hs with⟨md,vf,h1,h2,h3⟩|h
  ·intro hs D ι w vs S U A
   exact HB hm h1 h2 (h3 (oh fun j a hj=>by obtain⟨u,_,hr⟩:=A.2 j a hj;exact hr.Ie)) hs D ι w vs S U A
  ·exact h
end
end Go.Proofs.YtgoelphibofcmaaGreat.V

namespace Go.Proofs.YtgoelphibofcmaaGreat.V
open Go.RowKit
variable {P:Program} {X Y:fu}
theorem GZ (h:∀f args σ K,X f args σ K->Y f args σ K) {f:Nat} {args:List AV} {σ:ar} {K:AV->Prop} (hp:gI X f args σ K):gI Y f args σ K:=by
 rcases hp with hp|⟨a,h1,h2⟩
 ·exact .inl (h _ _ _ _ hp)
 ·exact .inr ⟨a,h1,h _ _ _ _ h2⟩
theorem JK (h:∀f args σ K,X f args σ K->Y f args σ K) {f:Nat} {args:List AV} {σ:ar} {sz:Nat} {rows:List (List AV)} (hp:CM X f args σ sz rows):CM Y f args σ sz rows:=by
 obtain⟨h1,a,h2,h3⟩:=hp
 exact⟨h1,a,h2,h _ _ _ _ h3⟩
theorem pI (h:∀f args σ K,X f args σ K->Y f args σ K) (hK:∀f args σ K K',(∀r σ',K r σ'->K' r σ')->Y f args σ K->Y f args σ K') {draw:Bool} {hid:List Nat} {site:Nat} {f:Nat} {args:List AV} {σ:ar} {n n':AV->ar->Prop} (hn:∀v σ',n v σ'->n' v σ') (hp:cI X draw hid site f args σ n):cI Y draw hid site f args σ n':=by
 rcases hp with⟨r,h1,h2⟩|⟨h1,h2⟩|⟨h1,sz,rows,h2,h3⟩
 ·exact .inl ⟨r,GZ h h1,hn _ _ h2⟩
 ·exact .inr (.inl ⟨h1,hK _ _ _ _ _ hn (h _ _ _ _ h2)⟩)
 ·exact .inr (.inr ⟨h1,sz,rows,JK h h2,hn _ _ h3⟩)
theorem rm (h:∀f args σ K,X f args σ K->Y f args σ K) (hK:∀f args σ K K',(∀r σ',K r σ'->K' r σ')->Y f args σ K->Y f args σ K') {draw:Bool} {o:aM} {env:Env} {σ:ar} {n n':AV->ar->Prop} (hn:∀v σ',n v σ'->n' v σ') (hp:fW X draw o env σ n):fW Y draw o env σ n':=by
 unfold fW at hp ⊢
 split at hp
 ·exact pI h hK hn hp
 ·split at hp
  ·exact pI h hK hn hp
  ·exact pI h hK hn hp
  ·exact hp.elim
 ·split at hp
  ·exact hn _ _ hp
  ·exact hp.elim
 ·split at hp
  ·exact hn _ _ hp
  ·exact hp.elim
 ·split at hp
  ·exact hn _ _ hp
  ·exact hp.elim
 ·split at hp
  ·exact hn _ _ hp
  ·exact hp.elim
 ·split at hp
  ·exact hn _ _ hp
  ·exact hp.elim
 ·split at hp
  ·exact hn _ _ hp
  ·exact hn _ _ hp
  ·exact hp.elim
theorem kQ (h:∀f args σ K,X f args σ K->Y f args σ K) (hK:∀f args σ K K',(∀r σ',K r σ'->K' r σ')->Y f args σ K->Y f args σ K') {draw:Bool} {Q Q':Env->ar->Prop} (hQ:∀e s,Q e s->Q' e s):∀(l:List aM) (env:Env) (σ:ar),wpOps X draw l Q env σ->wpOps Y draw l Q' env σ
 |[],env,σ,hp=>hQ _ _ hp
 |o::r,env,σ,hp=>by
  unfold wpOps at hp ⊢
  split at hp
  ·rename_i hw;rw[if_pos hw];exact rm h hK (fun v σ'=>kQ h hK hQ r _ _) hp
  ·rename_i hw;rw[if_neg hw];exact kQ h hK hQ r _ _ hp
theorem mM {Q Q':Env->ar->Prop} (hQ:∀e s,Q e s->Q' e s):∀(l:List aM) (env:Env) (σ:ar),cD l Q env σ->cD l Q' env σ
 |[],env,σ,hp=>hQ _ _ hp
 |o::r,env,σ,hp=>by
  unfold cD at hp ⊢
  refine⟨hp.1,?_⟩
  replace hp:=hp.2
  split at hp
  ·split at hp
   ·exact mM hQ r _ _ hp
   ·exact hp.elim
  ·split at hp
   ·exact mM hQ r _ _ hp
   ·exact hp.elim
  ·split at hp
   ·exact mM hQ r _ _ hp
   ·exact hp.elim
theorem jm (h:∀f args σ K,X f args σ K->Y f args σ K) (hK:∀f args σ K K',(∀r σ',K r σ'->K' r σ')->Y f args σ K->Y f args σ K'):∀(c:VC) (Q Q':Ex->Env->ar->Prop) (env:Env) (σ:ar),(∀x e s,Q x e s->Q' x e s)->dD X c Q env σ->dD Y c Q' env σ:=by
 intro c
 induction c with
 |skip=>intro Q Q' env σ hQ hp;exact hQ _ _ _ hp
 |exit id=>intro Q Q' env σ hQ hp;exact hQ _ _ _ hp
 |ret=>intro Q Q' env σ hQ hp;exact hQ _ _ _ hp
 |one o c ih=>
  intro Q Q' env σ hQ hp
  unfold dD at hp ⊢
  split at hp
  ·rename_i hw;rw[if_pos hw];exact rm h hK (fun v σ'=>ih Q Q' _ _ hQ) hp
  ·rename_i hw;rw[if_neg hw];exact ih Q Q' _ _ hQ hp
 |both a b iha ihb=>intro Q Q' env σ hQ hp;exact⟨iha Q Q' env σ hQ hp.1,ihb Q Q' env σ hQ hp.2⟩
 |loc t s y c ih=>intro Q Q' env σ hQ hp;exact⟨hp.1,ih Q Q' env σ hQ hp.2⟩
 |Mr ops=>intro Q Q' env σ hQ hp;exact mM (hQ .normal) ops env σ hp
 |dW draw ops=>intro Q Q' env σ hQ hp;exact kQ h hK (hQ .normal) ops env σ hp
 |seq a b iha ihb=>
  intro Q Q' env σ hQ hp
  refine iha _ _ env σ (fun x e s hx=>?_) hp
  cases x with
  |normal=>exact ihb Q Q' e s hQ hx
  |exit id=>exact hQ _ _ _ hx
  |ret=>exact hQ _ _ _ hx
 |cond c a b iha ihb=>
  intro Q Q' env σ hQ hp
  unfold dD at hp ⊢
  split at hp
  ·rename_i t ht
   cases t with
   |true=>exact iha Q Q' env σ hQ hp
   |false=>exact ihb Q Q' env σ hQ hp
  ·exact hp.elim
 |block id a iha=>
  intro Q Q' env σ hQ hp
  refine iha _ _ env σ (fun x e s hx=>?_) hp
  cases x with
  |normal=>exact hQ _ _ _ hx
  |ret=>exact hQ _ _ _ hx
  |exit jJ=>
   unfold aT at hx ⊢
   dsimp only at hx ⊢
   split at hx
   ·rename_i hid;rw[if_pos hid];exact hQ _ _ _ hx
   ·rename_i hid;rw[if_neg hid];exact hQ _ _ _ hx
 |loop a iha=>
  intro Q Q' env σ hQ hp
  obtain⟨n,hp⟩:=hp
  refine⟨n,?_⟩
  induction n generalizing env σ with
  |zero=>exact hp
  |succ n ihn=>
   refine iha _ _ env σ (fun x e s hx=>?_) hp
   cases x with
   |normal=>exact ihn e s hx
   |exit id=>exact hQ _ _ _ hx
   |ret=>exact hQ _ _ _ hx
theorem aV:pj (Call P):=fun _ _ _ _ _ hK h X hX hc=>hX _ _ _ _ _ hK (h X hX hc)
theorem xb {f:Nat} {args:List AV} {σ:ar} {K:AV->ar->Prop} (h:LZ P (Call P) f args σ K):Call P f args σ K:=by
 intro X hX hc
 refine hc _ _ _ _ ?_
 rcases h with⟨md,vf,h1,h2,h3⟩|h
 ·exact .inl ⟨md,vf,h1,h2,fun hl=>jm (fun f args σ K h=>h X hX hc) hX _ _ _ _ _ (fun _ _ _ h=>h) (h3 hl)⟩
 ·exact .inr h
theorem tZ {f:Nat} {md:List (Nat×Nat)} {args:List AV} {σ:ar} {K:AV->ar->Prop} {vf:zT} (hf:wK P f md=some vf) (ha:vf.xT=args.length) (h:(∀a∈args,dZ a)->dD (Call P) vf.body (kb vf.res K) (ck args) σ):Call P f args σ K:=
 xb (.inl ⟨md,vf,hf,ha,h⟩)
theorem lJ {f:Nat} {args:List AV} {σ:ar} {K:AV->ar->Prop} {vf:zT} (hf:ns P f=some vf) (ha:vf.xT=args.length) (h:(∀a∈args,dZ a)->dD (Call P) vf.body (kb vf.res K) (ck args) σ):Call P f args σ K:=
 tZ hf ha h
theorem gz {f:Nat} {args:List AV} {σ:ar} {K:AV->ar->Prop} (h:Sound P f args σ K):Call P f args σ K:=xb (.inr h)
def l7 (P:Program) (f:Nat) (args:List AV) (r:AV):Prop:=∀σ,PC (Call P) f args σ (fun r'=>r'=r)
theorem l7.body {f:Nat} {args:List AV} {r:AV} {nt na:Nat} {body:VC} {res:List ni} (hf:ns P f=some ⟨nt,na,body,res⟩) (ha:na=args.length) (h:(∀a∈args,dZ a)->∀σ:ar,dD (Call P) body (kb res fun r0 σ'=>∃r',fz σ'.get 6 r0=some r'/\r'=r) (ck args) ⟨V.ro σ.get,σ.next⟩):l7 P f args r:=fun σ=>lJ hf ha fun hl=>h hl σ
variable {Q:Ex->Env->ar->Prop} {K:Env->ar->Prop} {env:Env} {σ:ar}
theorem BO {a b:VC} (h:∀N:Env->ar->Prop,(∀e s,dD X b Q e s->N e s)->dD X a (dh N Q) env σ):dD X (.seq a b) Q env σ:=h _ fun _ _ h=>h
theorem zQ (h:Q .normal env σ):dD X .skip Q env σ:=h
theorem zO {id:Nat} (h:Q (.exit id) env σ):dD X (.exit id) Q env σ:=h
theorem ER (h:Q .ret env σ):dD X .ret Q env σ:=h
theorem tV {id:Nat} {c:VC} (h:dD X c (aT id Q) env σ):dD X (.block id c) Q env σ:=h
theorem EO {o:aM} {c:VC} (h:∀N:AV->ar->Prop,(∀v s,dD X c Q (upd env o.dst v) s->N v s)->if aK o.guard env then fW X false o env σ N else N .undef σ):dD X (.one o c) Q env σ:=by
 have:=h (fun v s=>dD X c Q (upd env o.dst v) s) fun _ _ h=>h
 unfold dD
 split
 ·rename_i hw;rw[if_pos hw]at this;exact this
 ·rename_i hw;rw[if_neg hw]at this;exact this
def eH (s n:Nat):AV->Prop
 | .own id 0 _=>id=⟨s,n⟩
 |_=>False
def eK (n:Nat):AV->Prop
 | .own id _ _=>¬id.aZ=n
 |_=>True
theorem zP {t s:Nat} {y:O} {c:VC} (h1:eH s σ.next (env t)) (h2:eK σ.next (cE env y)) (h:dD X c Q env σ):dD X (.loc t s y c) Q env σ:=by
 refine⟨⟨?_,fun id o l he=>?_⟩,h⟩
 ·revert h1
  unfold eH
  split
  ·rename_i id l he;rintro rfl;exact⟨l,he⟩
  ·exact fun h=>h.elim
 ·rw[he]at h2;exact h2
theorem eZ {a b:VC} (ha:dD X a Q env σ) (hb:dD X b Q env σ):dD X (.both a b) Q env σ:=⟨ha,hb⟩
theorem EP {draw:Bool} {ops:List aM} (h:∀N:Env->ar->Prop,(∀e s,Q .normal e s->N e s)->wpOps X draw ops N env σ):dD X (.dW draw ops) Q env σ:=h _ fun _ _ h=>h
theorem Jg {ops:List aM} (h:cD ops (Q .normal) env σ):dD X (.Mr ops) Q env σ:=h
theorem BN {draw:Bool} (h:K env ⟨σ.get,σ.next+1⟩):wpOps X draw [] K env σ:=h
theorem N3 {draw:Bool} {o:aM} {r:List aM} (h:∀N:AV->ar->Prop,(∀v s,wpOps X draw r K (upd env o.dst v) s->N v s)->if aK o.guard env then fW X draw o env σ N else N .undef σ):wpOps X draw (o::r) K env σ:=by
 have:=h (fun v s=>wpOps X draw r K (upd env o.dst v) s) fun _ _ h=>h
 unfold wpOps
 split
 ·rename_i hw;rw[if_pos hw]at this;exact this
 ·rename_i hw;rw[if_neg hw]at this;exact this
theorem Jh {c:O} {x y:VC} {b:Bool} (hc:cE env c=.bool b) (ht:b=true->dD X x Q env σ) (hf:b=false->dD X y Q env σ):dD X (.cond c x y) Q env σ:=by
 unfold dD
 simp only[hc]
 cases b with
 |true=>exact ht rfl
 |false=>exact hf rfl
inductive nC:AV->Prop->Prop->Prop
 |t {A B:Prop}:A->nC (.bool true) A B
 |f {A B:Prop}:B->nC (.bool false) A B
theorem tW {c:O} {x y:VC} {v:AV} (hv:cE env c=v) (h:nC v (dD X x Q env σ) (dD X y Q env σ)):dD X (.cond c x y) Q env σ:=by
 cases h with
 |t h=>exact Jh hv (fun _=>h) (fun e=>by cases e)
 |f h=>exact Jh hv (fun e=>by cases e) (fun _=>h)
theorem N2 {c:VC} (I:Nat->Env->ar->Prop) (n:Nat) (h0:I n env σ) (step:∀n env σ,I n env σ->dD X c (fun x e s=>match x with| .normal=>∃m,m<n/\I m e s|x=>Q x e s) env σ)
  (hX:∀(c:VC) (Q Q':Ex->Env->ar->Prop) env σ,(∀x e s,Q x e s->Q' x e s)->dD X c Q env σ->dD X c Q' env σ):dD X (.loop c) Q env σ:=by
 have key:∀N n env σ,n<N->I n env σ->Ez (dD X c) Q N env σ:=by
  intro N
  induction N with
  |zero=>intro n env σ h;exact absurd h (Nat.not_lt_zero _)
  |succ N ih=>
   intro n env σ hn hI
   refine hX c _ _ env σ (fun x e s hx=>?_) (step n env σ hI)
   cases x with
   |normal=>obtain⟨m,hm,Sg⟩:=hx;exact ih m e s (by omega) Sg
   |exit id=>exact hx
   |ret=>exact hx
 exact⟨n+1,key _ n env σ (Nat.lt_succ_self _) h0⟩
theorem K6 {c:VC} (I:Nat->Env->ar->Prop) (n:Nat) (h0:I n env σ) (step:∀n env σ,I n env σ->dD (Call P) c (fun x e s=>match x with| .normal=>∃m,m<n/\I m e s|x=>Q x e s) env σ):dD (Call P) (.loop c) Q env σ:=
 N2 I n h0 step fun c Q Q' env σ hQ h=>jm (fun _ _ _ _ h=>h) aV c Q Q' env σ hQ h
def xf:VC->List Nat
 | .dW _ ops=>ops.filterMap (·.dst)
 | .seq a b=>xf a++xf b
 | .cond _ a b=>xf a++xf b
 | .block _ a=>xf a
 | .loop a=>xf a
 | .one o c=>o.dst.toList++xf c
 | .both a b=>xf a++xf b
 | .loc _ _ _ c=>xf c
 | .Mr ops=>ops.filterMap (·.dst)
 |_=>[]
def ga (l:List Nat) (env iy:Env):Prop:=∀t,l.contains t=false->iy t=env t
theorem ga.refl (l:List Nat) (env:Env):ga l env env:=fun _ _=>rfl
theorem ga.trans {l:List Nat} {e e' e'':Env} (h:ga l e e') (k:ga l e' e''):ga l e e'':=fun t ht=>(k t ht).trans (h t ht)
theorem ga.sub {l l':List Nat} {e e':Env} (h:ga l e e') (hs:∀t,t∈l->t∈l'):ga l' e e':=fun t ht=>h t (by
 rw[<-Bool.not_eq_true]at ht ⊢
 simp only[List.contains_iff_mem]at ht ⊢
 exact fun hc=>ht (hs t hc))
theorem ga.upd {l:List Nat} {e e':Env} {d:Option Nat} {v:AV} (h:ga l e e') (hd:∀t,d=some t->t∈l):ga l e (upd e' d v):=fun t ht=>by
 cases d with
 |none=>exact h t ht
 |some d=>
  have:t≠d:=fun hc=>by subst hc;rw[<-Bool.not_eq_true,List.contains_iff_mem]at ht;exact ht (hd _ rfl)
  show(if t=d then v else e' t)=e t
  rw[if_neg this];exact h t ht
theorem oB {draw:Bool} {Q:Env->ar->Prop} {l:List Nat} {e0:Env}:∀(ops:List aM) (env:Env) (σ:ar),(∀t,t∈ops.filterMap (·.dst)->t∈l)->ga l e0 env->wpOps (Call P) draw ops Q env σ->wpOps (Call P) draw ops (fun e s=>Q e s/\ga l e0 e) env σ
 |[],env,σ,_,hk,hp=>⟨hp,hk⟩
 |o::r,env,σ,hl,hk,hp=>by
  have hd:∀t,o.dst=some t->t∈l:=fun t ht=>hl t (List.mem_filterMap.2 ⟨o,by simp,ht⟩)
  have hr:∀t,t∈r.filterMap (·.dst)->t∈l:=fun t ht=>hl t (by
   obtain⟨x,hx,h⟩:=List.mem_filterMap.1 ht
   exact List.mem_filterMap.2 ⟨x,List.mem_cons_of_mem _ hx,h⟩)
  unfold wpOps at hp ⊢
  split at hp
  ·rename_i hw;rw[if_pos hw]
   exact rm (fun _ _ _ _ h=>h) aV (fun v σ' h=>oB r _ _ hr (hk.upd hd) h) hp
  ·rename_i hw;rw[if_neg hw];exact oB r _ _ hr (hk.upd hd) hp
theorem lx {Q:Env->ar->Prop} {l:List Nat} {e0:Env}:∀(ops:List aM) (env:Env) (σ:ar),(∀t,t∈ops.filterMap (·.dst)->t∈l)->ga l e0 env->cD ops Q env σ->cD ops (fun e s=>Q e s/\ga l e0 e) env σ
 |[],env,σ,_,hk,hp=>⟨hp,hk⟩
 |o::r,env,σ,hl,hk,hp=>by
  have hd:∀t,o.dst=some t->t∈l:=fun t ht=>hl t (List.mem_filterMap.2 ⟨o,by simp,ht⟩)
  have hr:∀t,t∈r.filterMap (·.dst)->t∈l:=fun t ht=>hl t (by
   obtain⟨x,hx,h⟩:=List.mem_filterMap.1 ht
   exact List.mem_filterMap.2 ⟨x,List.mem_cons_of_mem _ hx,h⟩)
  unfold cD at hp ⊢
  refine⟨hp.1,?_⟩
  replace hp:=hp.2
  split at hp
  ·split at hp
   ·exact lx r _ _ hr (hk.upd hd) hp
   ·exact hp.elim
  ·split at hp
   ·exact lx r _ _ hr (hk.upd hd) hp
   ·exact hp.elim
  ·split at hp
   ·exact lx r _ _ hr (hk.upd hd) hp
   ·exact hp.elim
theorem yg {l:List Nat} {e0:Env}:∀(c:VC) (Q:Ex->Env->ar->Prop) (env:Env) (σ:ar),(∀t,t∈xf c->t∈l)->ga l e0 env->dD (Call P) c Q env σ->dD (Call P) c (fun x e s=>Q x e s/\ga l e0 e) env σ:=by
 intro c
 induction c with
 |skip=>intro Q env σ _ hk hp;exact⟨hp,hk⟩
 |exit id=>intro Q env σ _ hk hp;exact⟨hp,hk⟩
 |ret=>intro Q env σ _ hk hp;exact⟨hp,hk⟩
 |one o c ih=>
  intro Q env σ hl hk hp
  have hd:∀t,o.dst=some t->t∈l:=fun t ht=>hl t (List.mem_append_left _ (by rw[ht];simp))
  have hr:∀t,t∈xf c->t∈l:=fun t ht=>hl t (List.mem_append_right _ ht)
  unfold dD at hp ⊢
  split at hp
  ·rename_i hw;rw[if_pos hw]
   exact rm (fun _ _ _ _ h=>h) aV (fun v σ' h=>ih Q _ _ hr (hk.upd hd) h) hp
  ·rename_i hw;rw[if_neg hw];exact ih Q _ _ hr (hk.upd hd) hp
 |both a b iha ihb=>
  intro Q env σ hl hk hp
  exact⟨iha Q env σ (fun t ht=>hl t (List.mem_append_left _ ht)) hk hp.1,ihb Q env σ (fun t ht=>hl t (List.mem_append_right _ ht)) hk hp.2⟩
 |loc t s y c ih=>intro Q env σ hl hk hp;exact⟨hp.1,ih Q env σ hl hk hp.2⟩
 |Mr ops=>intro Q env σ hl hk hp;exact lx ops env σ hl hk hp
 |dW draw ops=>intro Q env σ hl hk hp;exact oB ops env σ hl hk hp
 |seq a b iha ihb=>
  intro Q env σ hl hk hp
  refine jm (fun _ _ _ _ h=>h) aV a _ _ env σ (fun x e s hx=>?_) (iha _ env σ (fun t ht=>hl t (List.mem_append_left _ ht)) hk hp)
  cases x with
  |normal=>exact ihb Q e s (fun t ht=>hl t (List.mem_append_right _ ht)) hx.2 hx.1
  |exit id=>exact hx
  |ret=>exact hx
 |cond c a b iha ihb=>
  intro Q env σ hl hk hp
  unfold dD at hp ⊢
  split at hp
  ·rename_i t ht
   cases t with
   |true=>exact iha Q env σ (fun t ht=>hl t (List.mem_append_left _ ht)) hk hp
   |false=>exact ihb Q env σ (fun t ht=>hl t (List.mem_append_right _ ht)) hk hp
  ·exact hp.elim
 |block id a iha=>
  intro Q env σ hl hk hp
  refine jm (fun _ _ _ _ h=>h) aV a _ _ env σ (fun x e s hx=>?_) (iha _ env σ hl hk hp)
  obtain⟨hx,Fu⟩:=hx
  cases x with
  |normal=>exact⟨hx,Fu⟩
  |ret=>exact⟨hx,Fu⟩
  |exit jJ=>
   unfold aT at hx ⊢
   dsimp only at hx ⊢
   split at hx
   ·rename_i hid;rw[if_pos hid];exact⟨hx,Fu⟩
   ·rename_i hid;rw[if_neg hid];exact⟨hx,Fu⟩
 |loop a iha=>
  intro Q env σ hl hk hp
  obtain⟨n,hp⟩:=hp
  refine⟨n,?_⟩
  induction n generalizing env σ with
  |zero=>exact hp
  |succ n ihn=>
   refine jm (fun _ _ _ _ h=>h) aV _ _ _ _ _ (fun x e s hx=>?_) (iha _ env σ hl hk hp)
   obtain⟨hx,Fu⟩:=hx
   cases x with
   |normal=>exact ihn e s Fu hx
   |exit id=>exact⟨hx,Fu⟩
   |ret=>exact⟨hx,Fu⟩
theorem aJ {c:VC} (I:Nat->Env->ar->Prop) (n:Nat) (h0:I n env σ) (step:∀n e s,I n e s->ga (xf c) env e->dD (Call P) c (fun x e s=>match x with| .normal=>∃m,m<n/\I m e s|x=>Q x e s) e s):dD (Call P) (.loop c) Q env σ:=by
 refine K6 (fun n e s=>I n e s/\ga (xf c) env e) n ⟨h0,ga.refl _ _⟩ fun n e s hI=>?_
 refine jm (fun _ _ _ _ h=>h) aV _ _ _ _ _ (fun x e' s' hx=>?_) (yg c _ e s (fun _ h=>h) hI.2 (step n e s hI.1 hI.2))
 obtain⟨hx,hk⟩:=hx
 cases x with
 |normal=>obtain⟨m,hm,h⟩:=hx;exact⟨m,hm,h,hk⟩
 |exit id=>exact hx
 |ret=>exact hx
theorem Jj {k:Nat} (h:k<=9223372036854775807):IntKind.i64.wrap (k:Int)=k:=by rw[IntKind.wrap_i64];omega
theorem bp {z:Int} (h: -9223372036854775808<=z/\z<=9223372036854775807):IntKind.i64.wrap z=z:=by rw[IntKind.wrap_i64];omega
theorem ax {k:Nat} (h:(k:Int)+1<=9223372036854775807):IntKind.i64.wrap ((k:Int)+1)=((k+1:Nat):Int):=by rw[IntKind.wrap_i64];omega
theorem all_succ {k:Nat} {p:Nat->Prop} (h:∀j,j<k->p j) (hk:p k):∀j,j<k+1->p j:=fun j hj=>by
 by_cases xE:j=k
 ·subst xE;exact hk
 ·exact h j (by omega)
theorem aH (g:Rows) (n:Nat) (k:IntKind) (m:Int):fz g (n+1) (.int k m)=some (.int k m):=by rw[fz]<;>intros<;>simp_all
theorem bd (g:Rows) (n:Nat) (b:Bool):fz g (n+1) (.bool b)=some (.bool b):=by rw[fz]<;>intros<;>simp_all
theorem bE (g:Rows) (n:Nat) (b:ByteArray):fz g (n+1) (.str b)=some (.str b):=by rw[fz]<;>intros<;>simp_all
theorem cm (g:Rows) (n:Nat) (l:List (List AV)):fz g (n+1) (.sl l)=some (.sl l):=by rw[fz]<;>intros<;>simp_all
theorem aW (g:Rows) (n:Nat):fz g (n+1) .cj=some .cj:=by rw[fz]<;>intros<;>simp_all
theorem Qp {t:Nat} {r r0:AV} {x:Ex} (hx:x=.ret∨x=.normal) (he:env t=r0) (hz:fz σ.get 6 r0=some r):kb [.tmp t] (fun r0 σ'=>∃r',fz σ'.get 6 r0=some r'/\r'=r) x env σ:=by
 have:∃vs,e5 env σ.get [.tmp t]=some vs/\∃r',fz σ.get 6 (eT vs)=some r'/\r'=r:=⟨[env t],rfl,r,by subst he;exact hz,rfl⟩
 rcases hx with rfl|rfl
 ·exact this
 ·exact this
def ao (P:Program) (f:Nat) (args:List AV) (r:AV):Prop:=∀n:Nat,Call P f args ⟨fun _=>none,n⟩ fun r0 σ'=>∃r',fY σ'.get 6 r0=some r'/\r'=r
theorem ao.body {f:Nat} {args:List AV} {r:AV} {nt na:Nat} {body:VC} {res:List ni} (hf:ns P f=some ⟨nt,na,body,res⟩) (ha:na=args.length) (h:(∀a∈args,dZ a)->∀n:Nat,dD (Call P) body (kb res fun r0 σ'=>∃r',fY σ'.get 6 r0=some r'/\r'=r) (ck args) ⟨fun _=>none,n⟩):ao P f args r:=fun n=>lJ hf ha fun hl=>h hl n
theorem ao.x {f:Nat} {args args':List AV} {r:AV} (h:ao P f args' r) {σ:ar} (hv:cG (dQ σ.get) 6 args=some args'):gI (Call P) f args σ (fun r'=>r'=r):=.inr ⟨args',hv,h _⟩
theorem l7.x {f:Nat} {args:List AV} {r:AV} (h:l7 P f args r) (σ:ar):gI (Call P) f args σ (fun r'=>r'=r):=.inl (h σ)
theorem dC (g:Rows) (n:Nat) (k:IntKind) (m:Int):fY g (n+1) (.int k m)=some (.int k m):=by rw[fY]<;>intros<;>simp_all
theorem dU (g:Rows) (n:Nat) (b:Bool):fY g (n+1) (.bool b)=some (.bool b):=by rw[fY]<;>intros<;>simp_all
theorem kr (g:Rows) (n:Nat):fY g (n+1) .cj=some .cj:=by rw[fY]<;>intros<;>simp_all
theorem dM (g:Rows) (n:Nat) (l:List AV):fY g (n+1) (.gx l)=(dS g n l).map AV.gx:=by rw[fY]
theorem j8 (g:Rows) (n:Nat) (l:List AV):fY g (n+1) (.agg l)=(dS g n l).map AV.agg:=by rw[fY]
theorem tE {g:Rows} {n:Nat} {id:Id} {off len sz:Nat} {rows rows':List (List AV)} (h:g id=some ⟨true,sz,rows⟩) (hl:off+len<=rows.length) (hr:gR g n ((rows.drop off).take len)=some rows'):fY g (n+1) (.own id off len)=some (.sl rows'):=by
 rw[fY];simp only[h,if_true,if_pos hl,hr,Option.map_some]
theorem bt (g:Rows) (n:Nat):dS g n []=some []:=by rw[dS]
theorem aP (g:Rows) (n:Nat) (a:AV) (l:List AV):dS g n (a::l)=match fY g n a with
  |some b=>(dS g n l).map (b::·)
  |none=>none:=by rw[dS];cases fY g n a<;>rfl
theorem sK {g:Rows} {n:Nat}:∀{l:List (List AV)},(∀c∈l,dS g n c=some c)->gR g n l=some l
 |[],_=>by rw[gR]
 |c::r,h=>by rw[gR,h c (by simp),sK fun d hd=>h d (List.mem_cons_of_mem _ hd)];rfl
theorem bc (g:Rows) (n:Nat) (l:List AV):fz g (n+1) (.agg l)=(cG g n l).map AV.agg:=by rw[fz]
theorem aN (g:Rows) (n:Nat) (l:List AV):fz g (n+1) (.cr l)=some (.cr l):=by rw[fz]<;>intros<;>simp_all
theorem rO {g:Rows} {n:Nat} {id:Id} {i off sz:Nat} {rows:List (List AV)} {cs pq:List AV} (h:g id=some ⟨true,sz,rows⟩) (hi:rows[i]? =some cs) (hr:cG g n (cs.drop off)=some pq):fz g (n+1) (.ptr id i off)=some (.cr pq):=by
 rw[fz];simp only[h,if_true,hi,hr,Option.map_some]
theorem aq (g:Rows) (n:Nat):cG g n []=some []:=by rw[cG]
theorem aj (g:Rows) (n:Nat) (a:AV) (l:List AV):cG g n (a::l)=match fz g n a with
  |some b=>(cG g n l).map (b::·)
  |none=>none:=by rw[cG];cases fz g n a<;>rfl
theorem vO {t:Nat} {r r0:AV} {x:Ex} (hx:x=.ret∨x=.normal) (he:env t=r0) (hz:fY σ.get 6 r0=some r):kb [.tmp t] (fun r0 σ'=>∃r',fY σ'.get 6 r0=some r'/\r'=r) x env σ:=by
 have:∃vs,e5 env σ.get [.tmp t]=some vs/\∃r',fY σ.get 6 (eT vs)=some r'/\r'=r:=⟨[env t],rfl,r,by subst he;exact hz,rfl⟩
 rcases hx with rfl|rfl
 ·exact this
 ·exact this
theorem aI {t:Nat} {b c:Bool} {x:Ex} (hx:x=.ret∨x=.normal) (he:env t=.bool b) (hb:b=c):kb [.tmp t] (fun r0 σ'=>∃r',fY σ'.get 6 r0=some r'/\r'=.bool c) x env σ:=vO hx he (by rw[dU,hb])
theorem bx {t:Nat} {k:IntKind} {b c:Int} {x:Ex} (hx:x=.ret∨x=.normal) (he:env t=.int k b) (hb:b=c):kb [.tmp t] (fun r0 σ'=>∃r',fY σ'.get 6 r0=some r'/\r'=.int k c) x env σ:=vO hx he (by rw[dC,hb])
theorem jk {t u:Nat} {r r1 r2:AV} {x:Ex} (hx:x=.ret∨x=.normal) (h1:env t=r1) (h2:env u=r2) (hz:fY σ.get 6 (.gx [r1,r2])=some r):kb [.tmp t,.tmp u] (fun r0 σ'=>∃r',fY σ'.get 6 r0=some r'/\r'=r) x env σ:=by
 have:∃vs,e5 env σ.get [.tmp t,.tmp u]=some vs/\∃r',fY σ.get 6 (eT vs)=some r'/\r'=r:=⟨[env t,env u],rfl,r,by subst h1;subst h2;exact hz,rfl⟩
 rcases hx with rfl|rfl
 ·exact this
 ·exact this
structure Pn (p:Prop):Prop where
 out:p
theorem tw {A B:Prop} (a:A) (b:B):A/\B:=⟨a,b⟩
theorem wk {A R G:Prop} (a:A) (r:R) (h:A->R->G:=by
  intro fL kk
  (repeat(refine Pn.mk ?_;intro N hN))
  (first|((first|apply BO|apply EP);intro N hN)|((first|(apply N3;intro N hN)|(apply EO;intro N hN));simp only[go_sem, ↓reduceIte,Nat.reduceEqDiff,Nat.reduceAdd,Nat.reduceSub,Nat.reduceMul,Nat.reduceLeDiff,Nat.reduceBEq,reduceCtorEq,Nat.reduceLT,Int.reduceLE,Int.reduceLT,Int.reduceToNat,Int.reduceNeg,Int.reduceAdd,Int.reduceEq,fL];first|(refine hN _ _ ?_;clear hN N)|skip)|(apply tW;(simp only[go_sem, ↓reduceIte,Nat.reduceEqDiff,Nat.reduceAdd,Nat.reduceSub,Nat.reduceMul,Nat.reduceLeDiff,Nat.reduceBEq,reduceCtorEq,Nat.reduceLT,Int.reduceLE,Int.reduceLT,Int.reduceToNat,Int.reduceNeg,Int.reduceAdd,Int.reduceEq,fL];rfl);first|with_reducible apply nC.t|with_reducible apply nC.f)|(apply BN;refine hN _ _ ?_;clear hN N;try(simp only[dh,aT, ↓reduceIte,Nat.reduceEqDiff]);try(refine hN _ _ ?_;clear hN N))|apply tV|(refine zP ?_ ?_ ?_;(focus(simp only[go_sem, ↓reduceIte,Nat.reduceEqDiff,Nat.reduceAdd,Nat.reduceSub,Nat.reduceMul,Nat.reduceLeDiff,Nat.reduceBEq,reduceCtorEq,Nat.reduceLT,Int.reduceLE,Int.reduceLT,Int.reduceToNat,Int.reduceNeg,Int.reduceAdd,Int.reduceEq,fL];done));(focus(simp only[go_sem, ↓reduceIte,Nat.reduceEqDiff,Nat.reduceAdd,Nat.reduceSub,Nat.reduceMul,Nat.reduceLeDiff,Nat.reduceBEq,reduceCtorEq,Nat.reduceLT,Int.reduceLE,Int.reduceLT,Int.reduceToNat,Int.reduceNeg,Int.reduceAdd,Int.reduceEq,fL];done)))|((first|apply zQ|apply zO|apply ER);try(simp only[dh,aT, ↓reduceIte,Nat.reduceEqDiff]);try(refine hN _ _ ?_;clear hN N))|((first|refine hN _ _ ?_|(clear hN N;first|refine hN _ _ ?_|(clear hN N;first|refine hN _ _ ?_|(clear hN N;first|refine hN _ _ ?_|(clear hN N;refine hN _ _ ?_)))));clear hN N))
  (repeat(first|((first|apply BO|apply EP);intro N hN)|((first|(apply N3;intro N hN)|(apply EO;intro N hN));simp only[go_sem, ↓reduceIte,Nat.reduceEqDiff,Nat.reduceAdd,Nat.reduceSub,Nat.reduceMul,Nat.reduceLeDiff,Nat.reduceBEq,reduceCtorEq,Nat.reduceLT,Int.reduceLE,Int.reduceLT,Int.reduceToNat,Int.reduceNeg,Int.reduceAdd,Int.reduceEq,fL];first|(refine hN _ _ ?_;clear hN N)|skip)|(apply tW;(simp only[go_sem, ↓reduceIte,Nat.reduceEqDiff,Nat.reduceAdd,Nat.reduceSub,Nat.reduceMul,Nat.reduceLeDiff,Nat.reduceBEq,reduceCtorEq,Nat.reduceLT,Int.reduceLE,Int.reduceLT,Int.reduceToNat,Int.reduceNeg,Int.reduceAdd,Int.reduceEq,fL];rfl);first|with_reducible apply nC.t|with_reducible apply nC.f)|(apply BN;refine hN _ _ ?_;clear hN N;try(simp only[dh,aT, ↓reduceIte,Nat.reduceEqDiff]);try(refine hN _ _ ?_;clear hN N))|apply tV|(refine zP ?_ ?_ ?_;(focus(simp only[go_sem, ↓reduceIte,Nat.reduceEqDiff,Nat.reduceAdd,Nat.reduceSub,Nat.reduceMul,Nat.reduceLeDiff,Nat.reduceBEq,reduceCtorEq,Nat.reduceLT,Int.reduceLE,Int.reduceLT,Int.reduceToNat,Int.reduceNeg,Int.reduceAdd,Int.reduceEq,fL];done));(focus(simp only[go_sem, ↓reduceIte,Nat.reduceEqDiff,Nat.reduceAdd,Nat.reduceSub,Nat.reduceMul,Nat.reduceLeDiff,Nat.reduceBEq,reduceCtorEq,Nat.reduceLT,Int.reduceLE,Int.reduceLT,Int.reduceToNat,Int.reduceNeg,Int.reduceAdd,Int.reduceEq,fL];done)))|((first|apply zQ|apply zO|apply ER);try(simp only[dh,aT, ↓reduceIte,Nat.reduceEqDiff]);try(refine hN _ _ ?_;clear hN N))|((first|refine hN _ _ ?_|(clear hN N;first|refine hN _ _ ?_|(clear hN N;first|refine hN _ _ ?_|(clear hN N;first|refine hN _ _ ?_|(clear hN N;refine hN _ _ ?_)))));clear hN N)))
  (repeat(revert hN;revert N;apply Pn.out))
  exact kk):G:=h a r
theorem wa {A R G:Prop} (a:A) (r:R) (h:A->R->G:=by
  intro fL kk
  (repeat(refine Pn.mk ?_;intro N hN))
  (first|((first|apply BO|apply EP);intro N hN)|((first|(refine L4 rfl fun N hN=>?_)|(apply EO;intro N hN));simp only[go_sem, ↓reduceIte,Nat.reduceEqDiff,Nat.reduceAdd,Nat.reduceSub,Nat.reduceMul,Nat.reduceLeDiff,Nat.reduceBEq,reduceCtorEq,Nat.reduceLT,Int.reduceLE,Int.reduceLT,Int.reduceToNat,Int.reduceNeg,Int.reduceAdd,Int.reduceEq,fL];first|(refine hN _ _ ?_;clear hN N)|skip)|(apply tW;(simp only[go_sem, ↓reduceIte,Nat.reduceEqDiff,Nat.reduceAdd,Nat.reduceSub,Nat.reduceMul,Nat.reduceLeDiff,Nat.reduceBEq,reduceCtorEq,Nat.reduceLT,Int.reduceLE,Int.reduceLT,Int.reduceToNat,Int.reduceNeg,Int.reduceAdd,Int.reduceEq,fL];rfl);first|with_reducible apply nC.t|with_reducible apply nC.f)|(apply BN;refine hN _ _ ?_;clear hN N;try(simp only[dh,aT, ↓reduceIte,Nat.reduceEqDiff]);try(refine hN _ _ ?_;clear hN N))|apply tV|(refine zP ?_ ?_ ?_;(focus(simp only[go_sem, ↓reduceIte,Nat.reduceEqDiff,Nat.reduceAdd,Nat.reduceSub,Nat.reduceMul,Nat.reduceLeDiff,Nat.reduceBEq,reduceCtorEq,Nat.reduceLT,Int.reduceLE,Int.reduceLT,Int.reduceToNat,Int.reduceNeg,Int.reduceAdd,Int.reduceEq,fL];done));(focus(simp only[go_sem, ↓reduceIte,Nat.reduceEqDiff,Nat.reduceAdd,Nat.reduceSub,Nat.reduceMul,Nat.reduceLeDiff,Nat.reduceBEq,reduceCtorEq,Nat.reduceLT,Int.reduceLE,Int.reduceLT,Int.reduceToNat,Int.reduceNeg,Int.reduceAdd,Int.reduceEq,fL];done)))|((first|apply zQ|apply zO|apply ER);try(simp only[dh,aT, ↓reduceIte,Nat.reduceEqDiff]);try(refine hN _ _ ?_;clear hN N))|((first|refine hN _ _ ?_|(clear hN N;first|refine hN _ _ ?_|(clear hN N;first|refine hN _ _ ?_|(clear hN N;first|refine hN _ _ ?_|(clear hN N;refine hN _ _ ?_)))));clear hN N))
  (repeat(first|((first|apply BO|apply EP);intro N hN)|((first|(refine L4 rfl fun N hN=>?_)|(apply EO;intro N hN));simp only[go_sem, ↓reduceIte,Nat.reduceEqDiff,Nat.reduceAdd,Nat.reduceSub,Nat.reduceMul,Nat.reduceLeDiff,Nat.reduceBEq,reduceCtorEq,Nat.reduceLT,Int.reduceLE,Int.reduceLT,Int.reduceToNat,Int.reduceNeg,Int.reduceAdd,Int.reduceEq,fL];first|(refine hN _ _ ?_;clear hN N)|skip)|(apply tW;(simp only[go_sem, ↓reduceIte,Nat.reduceEqDiff,Nat.reduceAdd,Nat.reduceSub,Nat.reduceMul,Nat.reduceLeDiff,Nat.reduceBEq,reduceCtorEq,Nat.reduceLT,Int.reduceLE,Int.reduceLT,Int.reduceToNat,Int.reduceNeg,Int.reduceAdd,Int.reduceEq,fL];rfl);first|with_reducible apply nC.t|with_reducible apply nC.f)|(apply BN;refine hN _ _ ?_;clear hN N;try(simp only[dh,aT, ↓reduceIte,Nat.reduceEqDiff]);try(refine hN _ _ ?_;clear hN N))|apply tV|(refine zP ?_ ?_ ?_;(focus(simp only[go_sem, ↓reduceIte,Nat.reduceEqDiff,Nat.reduceAdd,Nat.reduceSub,Nat.reduceMul,Nat.reduceLeDiff,Nat.reduceBEq,reduceCtorEq,Nat.reduceLT,Int.reduceLE,Int.reduceLT,Int.reduceToNat,Int.reduceNeg,Int.reduceAdd,Int.reduceEq,fL];done));(focus(simp only[go_sem, ↓reduceIte,Nat.reduceEqDiff,Nat.reduceAdd,Nat.reduceSub,Nat.reduceMul,Nat.reduceLeDiff,Nat.reduceBEq,reduceCtorEq,Nat.reduceLT,Int.reduceLE,Int.reduceLT,Int.reduceToNat,Int.reduceNeg,Int.reduceAdd,Int.reduceEq,fL];done)))|((first|apply zQ|apply zO|apply ER);try(simp only[dh,aT, ↓reduceIte,Nat.reduceEqDiff]);try(refine hN _ _ ?_;clear hN N))|((first|refine hN _ _ ?_|(clear hN N;first|refine hN _ _ ?_|(clear hN N;first|refine hN _ _ ?_|(clear hN N;first|refine hN _ _ ?_|(clear hN N;refine hN _ _ ?_)))));clear hN N)))
  (repeat(revert hN;revert N;apply Pn.out))
  exact kk):G:=h a r
theorem sd {A G:Prop} (a:A) (h:A->G:=by
  intro fL
  first|(simp only[go_sem, ↓reduceIte,Nat.reduceEqDiff,Nat.reduceAdd,Nat.reduceSub,Nat.reduceMul,Nat.reduceLeDiff,Nat.reduceBEq,reduceCtorEq,Nat.reduceLT,Int.reduceLE,Int.reduceLT,Int.reduceToNat,Int.reduceNeg,Int.reduceAdd,Int.reduceEq,fL,e5,gV];done)|fail):G:=h a
theorem sl {A G:Prop} (a:A) (h:A->G:=by
  intro fL
  (try simp only[go_sem, ↓reduceIte,Nat.reduceEqDiff,Nat.reduceAdd,Nat.reduceSub,Nat.reduceMul,Nat.reduceLeDiff,Nat.reduceBEq,reduceCtorEq,Nat.reduceLT,Int.reduceLE,Int.reduceLT,Int.reduceToNat,Int.reduceNeg,Int.reduceAdd,Int.reduceEq,fL])
  try rfl):G:=h a
end Go.Proofs.YtgoelphibofcmaaGreat.V

namespace Go.Proofs.YtgoelphibofcmaaGreat.V
open Go.RowKit
variable {P:Program} {X:fu} {env:Env} {σ:ar}
theorem bU (g:Rows) (n:Nat) (l:List AV):fz g (n+1) (.gx l)=(cG g n l).map AV.gx:=by rw[fz]
theorem cL (g:Rows) (n:Nat) (f:Nat) (l:List AV):fz g (n+1) (.fn f l)=if l.all AV.cell then(cG g n l).map (AV.fn f)else none:=by rw[fz]
theorem bf (g:Rows) (n:Nat) (id:Id) (i off:Nat):fz g (n+1) (.ptr id i off)=match g id with
  |some r=>if r.w then(match r.rows[i]? with
   |some cs=>(cG g n (cs.drop off)).map AV.cr
   |none=>none)else none
  |none=>none:=by rw[fz];rfl
theorem gT (g:Rows) (n:Nat) (id:Id) (off len:Nat):fz g (n+1) (.own id off len)=match g id with
  |some r=>if r.w then(if off+len<=r.rows.length then(dK g n ((r.rows.drop off).take len)).map AV.sl else none)else none
  |none=>none:=by rw[fz];rfl
theorem nV (g:Rows) (n:Nat):dK g n []=some []:=by rw[dK]
theorem yI (g:Rows) (n:Nat) (c:List AV) (l:List (List AV)):dK g n (c::l)=match cG g n c with
  |some b=>(dK g n l).map (b::·)
  |none=>none:=by rw[dK];cases cG g n c<;>rfl
theorem uE {g:Rows} {n:Nat}:∀{l:List (List AV)},(∀c∈l,cG g n c=some c)->dK g n l=some l
 |[],_=>by rw[dK]
 |c::r,h=>by rw[dK,h c (by simp),uE fun d hd=>h d (List.mem_cons_of_mem _ hd)];rfl
theorem ml {α:Type} {g:Rows} {n:Nat} {e:α->List AV} {l:List α} (h:∀x,cG g n (e x)=some (e x)):dK g n (l.map e)=some (l.map e):=uE fun c hc=>by
 obtain⟨x,_,rfl⟩:=List.mem_map.1 hc
 exact h x
theorem sM {α:Type} {g:Rows} {n:Nat} {e:α->List AV} {l:List α} (h:∀x,dS g n (e x)=some (e x)):gR g n (l.map e)=some (l.map e):=sK fun c hc=>by
 obtain⟨x,_,rfl⟩:=List.mem_map.1 hc
 exact h x
theorem ib {α:Type} {g:Rows} {n:Nat} {e:α->List AV} {l:List α} {id:Id} {sz len:Nat} (hg:g id=some ⟨true,sz,l.map e⟩) (hl:len=l.length) (h:∀x,cG g n (e x)=some (e x)):fz g (n+1) (.own id 0 len)=some (.sl (l.map e)):=by
 subst hl
 rw[gT];simp only[hg,if_true]
 rw[if_pos (by simp),List.drop_zero,List.take_of_length_le (by simp),ml h];rfl
theorem gu {α:Type} {g:Rows} {n:Nat} {e:α->List AV} {l:List α} {id:Id} {sz len:Nat} (hg:g id=some ⟨true,sz,l.map e⟩) (hl:len=l.length) (h:∀x,dS g n (e x)=some (e x)):fY g (n+1) (.own id 0 len)=some (.sl (l.map e)):=by
 subst hl
 exact tE hg (by simp) (by rw[List.drop_zero,List.take_of_length_le (by simp),sM h])
theorem all_map {α:Type} {e:α->List AV} {sz:Nat} {l:List α} (h:∀x,(e x).length=sz/\(e x).all AV.cell=true):(l.map e).all (fun c=>c.length==sz&&c.all AV.cell)=true:=by
 rw[List.all_eq_true]
 intro c hc
 obtain⟨x,_,rfl⟩:=List.mem_map.1 hc
 simp[(h x).1,(h x).2]
def O2 (P:Program) (f:Nat) (args:List AV) (sz:Nat) (rows:List (List AV)):Prop:=(∀c∈rows,∀a∈c,a.plain=true)/\∀n:Nat,Call P f args ⟨fun _=>none,n⟩ fun r σ'=>∃id,r=.own id 0 rows.length/\σ'.get id=some ⟨true,sz,rows⟩
theorem O2.x {f sz:Nat} {args args':List AV} {rows:List (List AV)} (h:O2 P f args' sz rows) {σ:ar} (hv:cG (dQ σ.get) 6 args=some args'):CM (Call P) f args σ sz rows:=⟨h.1,args',hv,h.2 _⟩
theorem Dm {res:List ni} {r:AV} {vs:List AV} {x:Ex} (hx:x=.ret∨x=.normal) (hv:e5 env σ.get res=some vs) (hz:fz σ.get 6 (eT vs)=some r):kb res (fun r0 σ'=>∃r',fz σ'.get 6 r0=some r'/\r'=r) x env σ:=by
 rcases hx with rfl|rfl
 ·exact⟨vs,hv,r,hz,rfl⟩
 ·exact⟨vs,hv,r,hz,rfl⟩
theorem jU {res:List ni} {r:AV} {vs:List AV} {x:Ex} (hx:x=.ret∨x=.normal) (hv:e5 env σ.get res=some vs) (hz:fY σ.get 6 (eT vs)=some r):kb res (fun r0 σ'=>∃r',fY σ'.get 6 r0=some r'/\r'=r) x env σ:=by
 rcases hx with rfl|rfl
 ·exact⟨vs,hv,r,hz,rfl⟩
 ·exact⟨vs,hv,r,hz,rfl⟩
theorem gK {res:List ni} {K:AV->ar->Prop} {vs:List AV} {x:Ex} (hx:x=.ret∨x=.normal) (hv:e5 env σ.get res=some vs) (hK:K (eT vs) σ):kb res K x env σ:=by
 rcases hx with rfl|rfl
 ·exact⟨vs,hv,hK⟩
 ·exact⟨vs,hv,hK⟩
theorem gW {f:Nat} {args:List AV} {σ:ar} {K:AV->ar->Prop} {nt na:Nat} {body:VC} {res:List ni} (hf:ns P f=some ⟨nt,na,body,res⟩) (ha:na=args.length) (h:(∀a∈args,dZ a)->dD (Call P) body (kb res K) (ck args) σ):Call P f args σ K:=lJ hf ha h
theorem GQ {f:Nat} {md:List (Nat×Nat)} {args:List AV} {σ:ar} {K:AV->ar->Prop} {nt na:Nat} {body:VC} {res:List ni} (hf:wK P f md=some ⟨nt,na,body,res⟩) (ha:na=args.length) (h:(∀a∈args,dZ a)->dD (Call P) body (kb res K) (ck args) σ):Call P f args σ K:=tZ hf ha h
theorem dw {i:Id} {n:Nat} (h:i.aZ<n):(∀s,(i=⟨s,n⟩)=False/\(i=⟨s,n+1⟩)=False/\(i=⟨s,n+1+1⟩)=False/\(i=⟨s,n+1+1+1⟩)=False/\(i=⟨s,n+1+1+1+1⟩)=False/\(i=⟨s,n+1+1+1+1+1⟩)=False/\(i=⟨s,n+1+1+1+1+1+1⟩)=False/\(i=⟨s,n+1+1+1+1+1+1+1⟩)=False/\(i=⟨s,n+1+1+1+1+1+1+1+1⟩)=False/\(i=⟨s,n+1+1+1+1+1+1+1+1+1⟩)=False/\(⟨s,n⟩=i)=False/\(⟨s,n+1⟩=i)=False/\(⟨s,n+1+1⟩=i)=False/\(⟨s,n+1+1+1⟩=i)=False/\(⟨s,n+1+1+1+1⟩=i)=False/\(⟨s,n+1+1+1+1+1⟩=i)=False/\(⟨s,n+1+1+1+1+1+1⟩=i)=False/\(⟨s,n+1+1+1+1+1+1+1⟩=i)=False/\(⟨s,n+1+1+1+1+1+1+1+1⟩=i)=False/\(⟨s,n+1+1+1+1+1+1+1+1+1⟩=i)=False)/\(i.aZ=n)=False/\(i.aZ=n+1)=False/\(i.aZ=n+1+1)=False/\(i.aZ=n+1+1+1)=False/\(i.aZ=n+1+1+1+1)=False/\(i.aZ=n+1+1+1+1+1)=False/\(i.aZ=n+1+1+1+1+1+1)=False/\(i.aZ=n+1+1+1+1+1+1+1)=False/\(i.aZ=n+1+1+1+1+1+1+1+1)=False/\(i.aZ=n+1+1+1+1+1+1+1+1+1)=False:=by
 refine⟨fun s=>?_,?_⟩
 ·obtain⟨a,b⟩:=i
  simp only[Id.mk.injEq,eq_iff_iff,iff_false,not_and]
  simp only at h
  refine⟨?_,?_,?_,?_,?_,?_,?_,?_,?_,?_,?_,?_,?_,?_,?_,?_,?_,?_,?_,?_⟩<;>(intros;omega)
 ·simp only[eq_iff_iff,iff_false]
  refine⟨?_,?_,?_,?_,?_,?_,?_,?_,?_,?_⟩<;>omega
def nH (a b:Nat) (ids:List Id):Prop:=ids.Nodup/\∀i∈ids,a<=i.aZ/\i.aZ<b
def Kept (σ σ':ar):Prop:=σ.next<=σ'.next/\∀j:Id,j.aZ<σ.next->σ'.get j=σ.get j
theorem Kept.trans {a b c:ar} (h:Kept a b) (k:Kept b c):Kept a c:=⟨Nat.le_trans h.1 k.1,fun j hj=>(k.2 j (Nat.lt_of_lt_of_le hj h.1)).trans (h.2 j hj)⟩
theorem nH.wide {a b a' b':Nat} {ids:List Id} (h:nH a b ids) (h1:a'<=a) (h2:b<=b'):nH a' b' ids:=⟨h.1,fun i hi=>⟨Nat.le_trans h1 (h.2 i hi).1,Nat.lt_of_lt_of_le (h.2 i hi).2 h2⟩⟩
theorem nH.app {a b c d:Nat} {i j:List Id} (h:nH a b i) (k:nH c d j) (M0:b<=c) (sO:a<=b) (hcd:c<=d):nH a d (i++j):=
 ⟨List.nodup_append.2 ⟨h.1,k.1,fun x hx y hy e=>by subst e;have:=(h.2 x hx).2;have:=(k.2 x hy).1;omega⟩,fun x hx=>by
  rcases List.mem_append.1 hx with hx|hx
  ·have:=h.2 x hx;omega
  ·have:=k.2 x hx;omega⟩
end Go.Proofs.YtgoelphibofcmaaGreat.V

namespace Go.Proofs.YtgoelphibofcmaaGreat.V
open Go.RowKit
attribute [local irreducible] dD wpOps gI Call
attribute [local go_sem] aK fW eU gE gy cE upd ck K.av cN AV.cells AV.cell rowOf rowsOf part ld rowAt bB bY dO ev iI bK db eI gr e8 dx eB cZ cY ea ec bQ aY cQ bP cU cR ez eC eA cP bV da ew bL aL cW cF iH bz cK bR aU dh aT dP AV.undef bF bG eh eu dX dY cI eH eK cD eE eD cV cX List.getD_cons_zero List.getD_cons_succ List.getD_nil List.all_cons List.all_nil Bool.and_true Bool.true_and Bool.and_self Bool.not_true Bool.not_false Option.map_some Option.map_none Option.bind_some Option.bind_none List.length_cons List.length_nil List.take_succ_cons List.take_zero List.take_nil List.drop_succ_cons List.drop_zero List.drop_nil List.head?_cons List.map_cons List.map_nil List.getElem?_cons_zero List.getElem?_cons_succ List.cons_append List.nil_append List.append_nil List.length_map List.set_cons_zero List.set_cons_succ Nat.reduceMul eq_self Int.toNat_natCast Int.natCast_nonneg and_self true_and and_true decide_true decide_false Bool.false_eq_true Nat.zero_add Nat.add_zero List.contains_cons List.contains_nil Bool.or_false Bool.false_or beq_self_eq_true Nat.reduceBEq ne_eq not_true_eq_false not_false_eq_true Id.mk.injEq false_and and_false Nat.reduceLT Int.reduceLE Int.reduceLT Int.reduceToNat Int.reduceNeg Int.reduceAdd Nat.le_refl List.length_append beq_true beq_false Bool.not_eq_eq_eq_not or_false false_or dQ aj aq aH bd bE cm aW bc aN bf cL bU
variable {P:Program}
def IY (f g z:Nat):zT:=let s:=f*1000000
 ⟨27,2,(.seq (.dW false [q 4 (.cH (.k (.int .i64 0))) s]) (.seq (.dW false [q 6 (.cH (.t 1)) (s+1000),q 7 (.cH (.t 0)) (s+1001),q 8 (.len (.t 7)) (s+1002),q 9 (.bin .sub .i64 (.t 6) (.t 8)) (s+1003),q 1 (.cH (.t 9)) (s+1004)]) (.seq (.seq (.dW false [q 10 (.cH (.t 1)) (s+2000),q 11 (.bin .lss .i64 (.t 10) (.k (.int .i64 0))) (s+2001)]) (.cond (.t 11) (.seq (.dW false [q 4 (.cH (.k (.int .i64 (-1)))) (s+3000)]) .ret) .skip)) (.seq (.seq (.dW false [q 5 (.cH (.k (.int .i64 0))) (s+4000)]) (.block 0 (.loop (.seq (.seq (.dW false [q 12 (.cH (.t 5)) (s+5000),q 13 (.cH (.t 0)) (s+5001),q 14 (.len (.t 13)) (s+5002),q 15 (.bin .lss .i64 (.t 12) (.t 14)) (s+5003)]) (.cond (.t 15) .skip (.exit 0))) (.seq (.block 1 (.seq (.dW false [q 18 (.cH (.t 0)) (s+7000),q 19 (.cH (.t 5)) (s+7001),q 20 (.dy z (.t 18) (.t 19)) (s+7002),q 21 (.load true z (.t 20)) (s+7003),q 22 (.cH (.t 1)) (s+7004),q 23 (.call g [(.t 21),(.t 22)]) (s+7005),q 1 (.cH (.t 23)) (s+7006)]) (.seq (.dW false [q 24 (.cH (.t 1)) (s+8000),q 25 (.bin .lss .i64 (.t 24) (.k (.int .i64 0))) (s+8001)]) (.cond (.t 25) (.seq (.dW false [q 4 (.cH (.k (.int .i64 (-1)))) (s+9000)]) .ret) .skip)))) (.dW false [q 16 (.cH (.t 5)) (s+6000),q 17 (.bin .add .i64 (.t 16) (.k (.int .i64 1))) (s+6001),q 5 (.cH (.t 17)) (s+6002)])))))) (.seq (.dW false [q 26 (.cH (.t 1)) (s+10000),q 4 (.cH (.t 26)) (s+10001)]) .ret))))),[(.tmp 4)]⟩
def IW (f:Nat):zT:=let s:=f*1000000
 ⟨12,2,(.seq (.dW false [q 4 (.cH (.k (.int .i64 0))) s]) (.seq (.dW false [q 5 (.cH (.t 1)) (s+1000),q 6 (.cH (.t 0)) (s+1001),q 7 (.len (.t 6)) (s+1002),q 8 (.bin .sub .i64 (.t 5) (.t 7)) (s+1003),q 1 (.cH (.t 8)) (s+1004)]) (.seq (.seq (.dW false [q 9 (.cH (.t 1)) (s+2000),q 10 (.bin .lss .i64 (.t 9) (.k (.int .i64 0))) (s+2001)]) (.cond (.t 10) (.seq (.dW false [q 4 (.cH (.k (.int .i64 (-1)))) (s+3000)]) .ret) .skip)) (.seq (.dW false [q 11 (.cH (.t 1)) (s+4000),q 4 (.cH (.t 11)) (s+4001)]) .ret)))),[(.tmp 4)]⟩
def Ec (f g z:Nat):zT:=let s:=f*1000000
 ⟨27,2,(.seq (.dW false [q 4 (.cH (.k (.bool false))) s]) (.seq (.seq (.dW false [q 6 (.cH (.t 0)) (s+1000),q 7 (.len (.t 6)) (s+1001),q 8 (.cH (.t 1)) (s+1002),q 9 (.len (.t 8)) (s+1003),q 10 (.Mx true .tI (.t 7) (.t 9)) (s+1004)]) (.cond (.t 10) (.seq (.dW false [q 4 (.cH (.k (.bool false))) (s+2000)]) .ret) .skip)) (.seq (.seq (.dW false [q 5 (.cH (.k (.int .i64 0))) (s+3000)]) (.block 0 (.loop (.seq (.seq (.dW false [q 11 (.cH (.t 5)) (s+4000),q 12 (.cH (.t 0)) (s+4001),q 13 (.len (.t 12)) (s+4002),q 14 (.bin .lss .i64 (.t 11) (.t 13)) (s+4003)]) (.cond (.t 14) .skip (.exit 0))) (.seq (.block 1 (.seq (.dW true [q 17 (.cH (.t 0)) (s+6000),q 18 (.cH (.t 5)) (s+6001),q 19 (.dy z (.t 17) (.t 18)) (s+6002),q 20 (.load true z (.t 19)) (s+6003),q 21 (.cH (.t 1)) (s+6004),q 22 (.cH (.t 5)) (s+6005),q 23 (.dy z (.t 21) (.t 22)) (s+6006),q 24 (.load true z (.t 23)) (s+6007),q 25 (.call g [(.t 20),(.t 24)]) (s+6008),q 26 (.not (.t 25)) (s+6009)]) (.cond (.t 26) (.seq (.dW false [q 4 (.cH (.k (.bool false))) (s+7000)]) .ret) .skip))) (.dW false [q 15 (.cH (.t 5)) (s+5000),q 16 (.bin .add .i64 (.t 15) (.k (.int .i64 1))) (s+5001),q 5 (.cH (.t 16)) (s+5002)])))))) (.seq (.dW false [q 4 (.cH (.k (.bool true))) (s+8000)]) .ret)))),[(.tmp 4)]⟩
def Ls (f:Nat) (t:TS):zT:=let s:=f*1000000
 ⟨26,2,(.seq (.dW false [q 4 (.cH (.k (.bool false))) s]) (.seq (.seq (.dW false [q 6 (.cH (.t 0)) (s+1000),q 7 (.len (.t 6)) (s+1001),q 8 (.cH (.t 1)) (s+1002),q 9 (.len (.t 8)) (s+1003),q 10 (.Mx true .tI (.t 7) (.t 9)) (s+1004)]) (.cond (.t 10) (.seq (.dW false [q 4 (.cH (.k (.bool false))) (s+2000)]) .ret) .skip)) (.seq (.seq (.dW false [q 5 (.cH (.k (.int .i64 0))) (s+3000)]) (.block 0 (.loop (.seq (.seq (.dW false [q 11 (.cH (.t 5)) (s+4000),q 12 (.cH (.t 0)) (s+4001),q 13 (.len (.t 12)) (s+4002),q 14 (.bin .lss .i64 (.t 11) (.t 13)) (s+4003)]) (.cond (.t 14) .skip (.exit 0))) (.seq (.block 1 (.seq (.dW true [q 17 (.cH (.t 0)) (s+6000),q 18 (.cH (.t 5)) (s+6001),q 19 (.dy 1 (.t 17) (.t 18)) (s+6002),q 20 (.load false 1 (.t 19)) (s+6003),q 21 (.cH (.t 1)) (s+6004),q 22 (.cH (.t 5)) (s+6005),q 23 (.dy 1 (.t 21) (.t 22)) (s+6006),q 24 (.load false 1 (.t 23)) (s+6007),q 25 (.Mx true t (.t 20) (.t 24)) (s+6008)]) (.cond (.t 25) (.seq (.dW false [q 4 (.cH (.k (.bool false))) (s+7000)]) .ret) .skip))) (.dW false [q 15 (.cH (.t 5)) (s+5000),q 16 (.bin .add .i64 (.t 15) (.k (.int .i64 1))) (s+5001),q 5 (.cH (.t 16)) (s+5002)])))))) (.seq (.dW false [q 4 (.cH (.k (.bool true))) (s+8000)]) .ret)))),[(.tmp 4)]⟩
def EL (f g z:Nat) (zero:List K):zT:=let s:=f*1000000
 ⟨23,1,(.seq (.dW false [q 2 (.cH (.k .cj)) s]) (.seq (.dW false [q 5 (.cH (.t 0)) (s+1000),q 6 (.len (.t 5)) (s+1001),q 7 (.jK zero (.t 6) (.t 6)) (s+1002),q 3 (.cH (.t 7)) (s+1003)]) (.seq (.seq (.dW false [q 4 (.cH (.k (.int .i64 0))) (s+2000)]) (.block 0 (.loop (.seq (.seq (.dW false [q 8 (.cH (.t 4)) (s+3000),q 9 (.cH (.t 0)) (s+3001),q 10 (.len (.t 9)) (s+3002),q 11 (.bin .lss .i64 (.t 8) (.t 10)) (s+3003)]) (.cond (.t 11) .skip (.exit 0))) (.seq (.block 1 (.dW false [q 14 (.cH (.t 3)) (s+5000),q 15 (.cH (.t 4)) (s+5001),q 16 (.cH (.t 0)) (s+5002),q 17 (.cH (.t 4)) (s+5003),q 18 (.dy z (.t 16) (.t 17)) (s+5004),q 19 (.load true z (.t 18)) (s+5005),q 20 (.call g [(.t 19)]) (s+5006),q 21 (.dy z (.t 14) (.t 15)) (s+5007),⟨none,(.store z (.t 21) (.t 20)),none,(s+5008),[]⟩])) (.dW false [q 12 (.cH (.t 4)) (s+4000),q 13 (.bin .add .i64 (.t 12) (.k (.int .i64 1))) (s+4001),q 4 (.cH (.t 13)) (s+4002)])))))) (.seq (.dW false [q 22 (.cH (.t 3)) (s+6000),q 2 (.cH (.t 22)) (s+6001)]) .ret)))),[(.tmp 2)]⟩
def L1 (f:Nat) (zero:K):zT:=let s:=f*1000000
 ⟨22,1,(.seq (.dW false [q 2 (.cH (.k .cj)) s]) (.seq (.dW false [q 5 (.cH (.t 0)) (s+1000),q 6 (.len (.t 5)) (s+1001),q 7 (.jK [zero] (.t 6) (.t 6)) (s+1002),q 3 (.cH (.t 7)) (s+1003)]) (.seq (.seq (.dW false [q 4 (.cH (.k (.int .i64 0))) (s+2000)]) (.block 0 (.loop (.seq (.seq (.dW false [q 8 (.cH (.t 4)) (s+3000),q 9 (.cH (.t 0)) (s+3001),q 10 (.len (.t 9)) (s+3002),q 11 (.bin .lss .i64 (.t 8) (.t 10)) (s+3003)]) (.cond (.t 11) .skip (.exit 0))) (.seq (.block 1 (.dW false [q 14 (.cH (.t 3)) (s+5000),q 15 (.cH (.t 4)) (s+5001),q 16 (.cH (.t 0)) (s+5002),q 17 (.cH (.t 4)) (s+5003),q 18 (.dy 1 (.t 16) (.t 17)) (s+5004),q 19 (.load false 1 (.t 18)) (s+5005),q 20 (.dy 1 (.t 14) (.t 15)) (s+5006),⟨none,(.store 1 (.t 20) (.t 19)),none,(s+5007),[]⟩])) (.dW false [q 12 (.cH (.t 4)) (s+4000),q 13 (.bin .add .i64 (.t 12) (.k (.int .i64 1))) (s+4001),q 4 (.cH (.t 13)) (s+4002)])))))) (.seq (.dW false [q 21 (.cH (.t 3)) (s+6000),q 2 (.cH (.t 21)) (s+6001)]) .ret)))),[(.tmp 2)]⟩
def w7 (n:Nat) (l:Int):Int:=if (n:Int)<=l then l-n else -1
theorem IX {fk:Nat} (hc:ns P fk=some (IW fk)) (rows:List (List AV)) (left:Int) (h0:0<=left) (h1:left<=1048576):ao P fk [.sl rows,.int .i64 left] (.int .i64 (w7 rows.length left)):=by
 refine ao.body hc rfl fun hl n0=>?_
 try simp only[q]
 have hn:rows.length<=9223372036854775807:=(hl (.sl rows) (by simp)).len
 clear hl
 have hw:IntKind.i64.wrap (left-(rows.length:Int))=left-rows.length:=bp (by omega)
 by_cases hf:(rows.length:Int)<=left
 ·have jI:¬left-(rows.length:Int)<0:=by omega
  (try((repeat(revert hN;revert N;apply Pn.out));refine wk (tw @hw @jI) ?_;(repeat(refine Pn.mk ?_;intro N hN))))
  exact bx (b:=left-(rows.length:Int)) (.inl rfl) (sd @Nat.zero_add) (by rw[w7,if_pos hf])
 ·have jI:left-(rows.length:Int)<0:=by omega
  (try((repeat(revert hN;revert N;apply Pn.out));refine wk (tw @hw @jI) ?_;(repeat(refine Pn.mk ?_;intro N hN))))
  exact bx (b:=-1) (.inl rfl) (sd @Nat.zero_add) (by rw[w7,if_neg hf])
def kM {α:Type} (f:α->Nat) (xs:List α) (k:Nat):Nat:=((xs.take k).map f).sum
theorem oU {α:Type} (f:α->Nat) (xs:List α):kM f xs 0=0:=by simp[kM]
theorem IT {α:Type} (f:α->Nat) (xs:List α):kM f xs xs.length=(xs.map f).sum:=by simp[kM]
theorem DE {α:Type} (f:α->Nat) {xs:List α} {k:Nat} (hk:k<xs.length):kM f xs (k+1)=kM f xs k+f xs[k]:=by
 unfold kM
 rw[List.take_succ_eq_append_getElem hk,List.map_append,List.sum_append];simp
theorem w6 {α:Type} (f:α->Nat) (xs:List α) (k:Nat):kM f xs k<=(xs.map f).sum:=by
 unfold kM
 conv=>rhs;rw[<-List.take_append_drop k xs]
 rw[List.map_append,List.sum_append];omega
theorem IZ {α:Type} {e:α->List AV} {z fk gk:Nat} (wt:α->Nat) (hc:ns P fk=some (IY fk gk z)) (hz:∀x,(e x).length=z) (BU:∀x g,cG g 6 [.agg (e x)]=some [.agg (e x)]) (xs:List α) (left:Int) (h0:0<=left) (h1:left<=1048576)
  (hg:∀x∈xs,∀l:Int,0<=l->l<=1048576->ao P gk [.agg (e x),.int .i64 l] (.int .i64 (w7 (wt x) l))):ao P fk [.sl (xs.map e),.int .i64 left] (.int .i64 (w7 (xs.length+(xs.map wt).sum) left)):=by
 refine ao.body hc rfl fun hl n0=>?_
 try simp only[q]
 have hn:xs.length<=9223372036854775807:=by simpa using(hl (.sl (xs.map e)) (by simp)).len
 clear hl
 have hw:IntKind.i64.wrap (left-(xs.length:Int))=left-xs.length:=bp (by omega)
 by_cases hf:(xs.length:Int)<=left
 ·have jI:¬left-(xs.length:Int)<0:=by omega
  (try((repeat(revert hN;revert N;apply Pn.out));refine wk (tw @hw @jI) ?_;(repeat(refine Pn.mk ?_;intro N hN))))
  refine aJ (fun n env st=>∃k:Nat,n=(xs.length)-k/\k<=(xs.length)/\env 5=.int .i64 (k:Int)/\env 1=(.int .i64 (left-xs.length-(kM wt xs k:Nat)))/\(0<=left-xs.length-(kM wt xs k:Nat))) (xs.length) ⟨0,by omega,by omega,sl (tw @oU (tw @Int.natCast_zero @Int.sub_zero)),sl (tw @oU (tw @Int.natCast_zero @Int.sub_zero)),(by rw[oU];omega)⟩ ?_
  rintro n_a env_a st_a ⟨k,rfl,ale,a5,a1,nj⟩ dv
  have a0:=dv 0 (by kernel_rfl)
  simp only[go_sem, ↓reduceIte,Nat.reduceEqDiff,Nat.reduceAdd,Nat.reduceSub,Nat.reduceLeDiff,reduceCtorEq,oU,Int.natCast_zero,Int.sub_zero]at a0
  clear dv
  by_cases hk:(k:Int)<(xs.length:Int)
  ·have cw:∀{e:Env},(e 5=.int .i64 (IntKind.i64.wrap ((k:Int)+1)))->(e 1=(.int .i64 (left-xs.length-(kM wt xs (k+1):Nat))))->(0<=left-xs.length-(kM wt xs (k+1):Nat))->∃m0,m0<(xs.length)-k/\∃k:Nat,m0=(xs.length)-k/\k<=(xs.length)/\e 5=.int .i64 (k:Int)/\e 1=(.int .i64 (left-xs.length-(kM wt xs k:Nat)))/\(0<=left-xs.length-(kM wt xs k:Nat)):=fun x1 x2 x3=>⟨_,by omega,k+1,rfl,by omega,(by rw[x1,ax (by omega)]),x2,x3⟩
   have e7:k<xs.length:=by omega
   have eJ:(xs.map e)[k]? =some (e xs[k]):=by simp[e7]
   have wD:=hz xs[k]
   have ht:(e xs[k]).take z=e xs[k]:=by rw[<-wD,List.take_length]
   have hs:=DE wt e7
   have AW:=w6 wt xs (k+1)
   have iO:=hg _ (List.getElem_mem e7) (left-xs.length-(kM wt xs k:Nat)) nj (by omega)
   have kh:cG (dQ st_a.get) 6 [.agg (e xs[k]),.int .i64 (left-xs.length-(kM wt xs k:Nat))]=some [.agg (e xs[k]),.int .i64 (left-xs.length-(kM wt xs k:Nat))]:=by
    have q1:=BU xs[k] (dQ st_a.get)
    rw[aj,aq]at q1
    rw[aj,aj,aq,aH]
    revert q1
    cases V.fz (dQ st_a.get) 6 (.agg (e xs[k]))<;>simp
   by_cases AK:(wt xs[k]:Int)<=left-xs.length-(kM wt xs k:Nat)
   ·rw[w7,if_pos AK]at iO
    have GG:¬left-xs.length-(kM wt xs k:Nat)-(wt xs[k]:Int)<0:=by omega
    have iU:left-xs.length-(kM wt xs k:Nat)-(wt xs[k]:Int)=left-xs.length-(kM wt xs (k+1):Nat):=by rw[hs];omega
    generalize hex:e xs[k]=c at iO kh eJ wD ht
    (try((repeat(revert hN;revert N;apply Pn.out));refine wk (tw @a5 (tw @a1 (tw @a0 (tw @hk (tw @eJ (tw @wD (tw @ht @Nat.le_refl))))))) ?_;(repeat(refine Pn.mk ?_;intro N hN))))
    refine .inl ⟨_,ao.x iO kh,?_⟩
    refine hN _ _ ?_
    clear hN N
    (try((repeat(revert hN;revert N;apply Pn.out));refine wk (tw @a5 (tw @a1 (tw @a0 @GG))) ?_;(repeat(refine Pn.mk ?_;intro N hN))))
    refine cw ?_ ?_ ((by rw[hs];omega))
    all_goals simp only[go_sem, ↓reduceIte,Nat.reduceEqDiff,Nat.reduceAdd,Nat.reduceSub,Nat.reduceLeDiff,reduceCtorEq,a5,a1,a0,iU]
   ·rw[w7,if_neg AK]at iO
    generalize hex:e xs[k]=c at iO kh eJ wD ht
    (try((repeat(revert hN;revert N;apply Pn.out));refine wk (tw @a5 (tw @a1 (tw @a0 (tw @hk (tw @eJ (tw @wD (tw @ht @Nat.le_refl))))))) ?_;(repeat(refine Pn.mk ?_;intro N hN))))
    refine .inl ⟨_,ao.x iO kh,?_⟩
    refine hN _ _ ?_
    clear hN N
    (try((repeat(revert hN;revert N;apply Pn.out));refine wk (tw @a5 (tw @a1 @a0)) ?_;(repeat(refine Pn.mk ?_;intro N hN))))
    exact bx (b:=-1) (.inl rfl) (sd @Nat.zero_add) (by rw[w7,if_neg (by omega)])
  ·(try((repeat(revert hN;revert N;apply Pn.out));refine wk (tw @a5 (tw @a1 (tw @a0 @hk))) ?_;(repeat(refine Pn.mk ?_;intro N hN))))
   have e7:k=xs.length:=by omega
   subst e7
   have Jt:=IT wt xs
   exact bx (b:=left-xs.length-(kM wt xs xs.length:Nat)) (.inl rfl) (sd (tw @a5 (tw @a1 @a0))) (by rw[w7,if_pos (by omega)];omega)
 ·have jI:left-(xs.length:Int)<0:=by omega
  (try((repeat(revert hN;revert N;apply Pn.out));refine wk (tw @hw @jI) ?_;(repeat(refine Pn.mk ?_;intro N hN))))
  exact bx (b:=-1) (.inl rfl) (sd @Nat.zero_add) (by rw[w7,if_neg (by omega)])
theorem Hv {α:Type} {xs ys:List α} (hl:xs.length=ys.length) (h:∀j:Nat,j<xs.length->∀(h1:j<xs.length) (h2:j<ys.length),xs[j]=ys[j]):xs=ys:=List.ext_getElem hl fun j h1 h2=>h j h1 h1 h2
theorem Cp {α:Type} [DecidableEq α] {e:α->List AV} {z fk gk:Nat} (hc:ns P fk=some (Ec fk gk z)) (hz:∀x,(e x).length=z) (BU:∀x g,cG g 6 [.agg (e x)]=some [.agg (e x)]) (xs ys:List α)
  (hg:∀x y,ao P gk [.agg (e x),.agg (e y)] (.bool (decide (x=y)))):ao P fk [.sl (xs.map e),.sl (ys.map e)] (.bool (decide (xs=ys))):=by
 refine ao.body hc rfl fun hl n0=>?_
 try simp only[q]
 have hn:xs.length<=9223372036854775807:=by simpa using(hl (.sl (xs.map e)) (by simp)).len
 clear hl
 by_cases hlen:xs.length=ys.length
 ·have kB:decide ((xs.length:Int)=(ys.length:Int))=true:=by simp[hlen]
  (try((repeat(revert hN;revert N;apply Pn.out));refine wk @kB ?_;(repeat(refine Pn.mk ?_;intro N hN))))
  refine aJ (fun n env st=>∃k:Nat,n=(xs.length)-k/\k<=(xs.length)/\env 5=.int .i64 (k:Int)/\(∀j:Nat,j<k->∀(h1:j<xs.length) (h2:j<ys.length),xs[j]=ys[j])) (xs.length) ⟨0,by omega,by omega,sl @Nat.zero_add,fun _ h=>absurd h (Nat.not_lt_zero _)⟩ ?_
  rintro n_a env_a st_a ⟨k,rfl,ale,a5,kR⟩ dv
  have a0:=dv 0 (by kernel_rfl);have a1:=dv 1 (by kernel_rfl)
  simp only[go_sem, ↓reduceIte,Nat.reduceEqDiff,Nat.reduceAdd,Nat.reduceSub,Nat.reduceLeDiff,reduceCtorEq]at a0 a1
  clear dv
  by_cases hk:(k:Int)<(xs.length:Int)
  ·have cw:∀{e:Env},(e 5=.int .i64 (IntKind.i64.wrap ((k:Int)+1)))->(∀(h1:k<xs.length) (h2:k<ys.length),xs[k]=ys[k])->∃m0,m0<(xs.length)-k/\∃k:Nat,m0=(xs.length)-k/\k<=(xs.length)/\e 5=.int .i64 (k:Int)/\(∀j:Nat,j<k->∀(h1:j<xs.length) (h2:j<ys.length),xs[j]=ys[j]):=fun x1 x2=>⟨_,by omega,k+1,rfl,by omega,(by rw[x1,ax (by omega)]),(all_succ kR x2)⟩
   have e7:k<xs.length:=by omega
   have Rf:k<ys.length:=by omega
   have eJ:(xs.map e)[k]? =some (e xs[k]):=by simp[e7]
   have CO:(ys.map e)[k]? =some (e ys[k]):=by simp[Rf]
   have wD:=hz xs[k]
   have CX:=hz ys[k]
   have ht:(e xs[k]).take z=e xs[k]:=by rw[<-wD,List.take_length]
   have GK:(e ys[k]).take z=e ys[k]:=by rw[<-CX,List.take_length]
   have iO:=hg xs[k] ys[k]
   have kh:∀g,cG g 6 [.agg (e xs[k]),.agg (e ys[k])]=some [.agg (e xs[k]),.agg (e ys[k])]:=fun g=>by
    have q1:=BU xs[k] g
    have q2:=BU ys[k] g
    rw[aj,aq]at q1
    rw[aj,q2]
    revert q1
    cases V.fz g 6 (.agg (e xs[k]))<;>simp
   by_cases heq:xs[k]=ys[k]
   ·rw[decide_eq_true heq]at iO
    generalize hex:e xs[k]=c at iO kh eJ wD ht
    generalize hey:e ys[k]=d at iO kh CO CX GK
    (try((repeat(revert hN;revert N;apply Pn.out));refine wk (tw @a5 (tw @a0 (tw @a1 (tw @hk (tw @eJ (tw @CO (tw @wD (tw @CX (tw @ht (tw @GK @Nat.le_refl)))))))))) ?_;(repeat(refine Pn.mk ?_;intro N hN))))
    refine⟨_,ao.x iO (kh _),?_⟩
    refine hN _ _ ?_
    clear hN N
    (try((repeat(revert hN;revert N;apply Pn.out));refine wk (tw @a5 (tw @a0 @a1)) ?_;(repeat(refine Pn.mk ?_;intro N hN))))
    exact cw (sd (tw @a5 (tw @a0 @a1))) (fun _ _=>heq)
   ·rw[decide_eq_false heq]at iO
    generalize hex:e xs[k]=c at iO kh eJ wD ht
    generalize hey:e ys[k]=d at iO kh CO CX GK
    (try((repeat(revert hN;revert N;apply Pn.out));refine wk (tw @a5 (tw @a0 (tw @a1 (tw @hk (tw @eJ (tw @CO (tw @wD (tw @CX (tw @ht (tw @GK @Nat.le_refl)))))))))) ?_;(repeat(refine Pn.mk ?_;intro N hN))))
    refine⟨_,ao.x iO (kh _),?_⟩
    refine hN _ _ ?_
    clear hN N
    (try((repeat(revert hN;revert N;apply Pn.out));refine wk (tw @a5 (tw @a0 @a1)) ?_;(repeat(refine Pn.mk ?_;intro N hN))))
    exact aI (b:=false) (.inl rfl) (sd @Nat.zero_add) (decide_eq_false fun h=>heq (List.getElem_of_eq h _)).symm
  ·(try((repeat(revert hN;revert N;apply Pn.out));refine wk (tw @a5 (tw @a0 (tw @a1 @hk))) ?_;(repeat(refine Pn.mk ?_;intro N hN))))
   exact aI (b:=true) (.inl rfl) (sd @Nat.zero_add) (decide_eq_true (Hv hlen fun j hj h1 h2=>kR j (by omega) h1 h2)).symm
 ·have kB:decide ((xs.length:Int)=(ys.length:Int))=false:=decide_eq_false fun h=>hlen (by omega)
  (try((repeat(revert hN;revert N;apply Pn.out));refine wk @kB ?_;(repeat(refine Pn.mk ?_;intro N hN))))
  exact aI (b:=false) (.inl rfl) (sd @Nat.zero_add) (decide_eq_false fun h=>hlen (by subst h;rfl)).symm
theorem Pe {fk:Nat} (hc:ns P fk=some (Ls fk .tI)) (xs ys:List Int):
  ao P fk [.sl (xs.map fun x=>[AV.int .i64 x]),.sl (ys.map fun x=>[AV.int .i64 x])] (.bool (decide (xs=ys))):=by
 refine ao.body hc rfl fun hl n0=>?_
 try simp only[q]
 have hn:xs.length<=9223372036854775807:=by simpa using(hl (.sl (xs.map fun x=>[AV.int .i64 x])) (by simp)).len
 clear hl
 by_cases hlen:xs.length=ys.length
 ·have kB:decide ((xs.length:Int)=(ys.length:Int))=true:=by simp[hlen]
  (try((repeat(revert hN;revert N;apply Pn.out));refine wk @kB ?_;(repeat(refine Pn.mk ?_;intro N hN))))
  refine aJ (fun n env st=>∃k:Nat,n=(xs.length)-k/\k<=(xs.length)/\env 5=.int .i64 (k:Int)/\(∀j:Nat,j<k->∀(h1:j<xs.length) (h2:j<ys.length),xs[j]=ys[j])) (xs.length) ⟨0,by omega,by omega,sl @Nat.zero_add,fun _ h=>absurd h (Nat.not_lt_zero _)⟩ ?_
  rintro n_a env_a st_a ⟨k,rfl,ale,a5,kR⟩ dv
  have a0:=dv 0 (by kernel_rfl);have a1:=dv 1 (by kernel_rfl)
  simp only[go_sem, ↓reduceIte,Nat.reduceEqDiff,Nat.reduceAdd,Nat.reduceSub,Nat.reduceLeDiff,reduceCtorEq]at a0 a1
  clear dv
  by_cases hk:(k:Int)<(xs.length:Int)
  ·have cw:∀{e:Env},(e 5=.int .i64 (IntKind.i64.wrap ((k:Int)+1)))->(∀(h1:k<xs.length) (h2:k<ys.length),xs[k]=ys[k])->∃m0,m0<(xs.length)-k/\∃k:Nat,m0=(xs.length)-k/\k<=(xs.length)/\e 5=.int .i64 (k:Int)/\(∀j:Nat,j<k->∀(h1:j<xs.length) (h2:j<ys.length),xs[j]=ys[j]):=fun x1 x2=>⟨_,by omega,k+1,rfl,by omega,(by rw[x1,ax (by omega)]),(all_succ kR x2)⟩
   have e7:k<xs.length:=by omega
   have Rf:k<ys.length:=by omega
   have eJ:(xs.map fun x=>[AV.int .i64 x])[k]? =some [.int .i64 xs[k]]:=by simp[e7]
   have CO:(ys.map fun x=>[AV.int .i64 x])[k]? =some [.int .i64 ys[k]]:=by simp[Rf]
   by_cases heq:xs[k]=ys[k]
   ·have hq:=decide_eq_true heq
    (try((repeat(revert hN;revert N;apply Pn.out));refine wk (tw @a5 (tw @a0 (tw @a1 (tw @hk (tw @eJ (tw @CO @hq)))))) ?_;(repeat(refine Pn.mk ?_;intro N hN))))
    exact cw (sd (tw @a5 (tw @a0 @a1))) (fun _ _=>heq)
   ·have hq:=decide_eq_false heq
    (try((repeat(revert hN;revert N;apply Pn.out));refine wk (tw @a5 (tw @a0 (tw @a1 (tw @hk (tw @eJ (tw @CO @hq)))))) ?_;(repeat(refine Pn.mk ?_;intro N hN))))
    exact aI (b:=false) (.inl rfl) (sd @Nat.zero_add) (decide_eq_false fun h=>heq (List.getElem_of_eq h _)).symm
  ·(try((repeat(revert hN;revert N;apply Pn.out));refine wk (tw @a5 (tw @a0 (tw @a1 @hk))) ?_;(repeat(refine Pn.mk ?_;intro N hN))))
   exact aI (b:=true) (.inl rfl) (sd @Nat.zero_add) (decide_eq_true (Hv hlen fun j hj h1 h2=>kR j (by omega) h1 h2)).symm
 ·have kB:decide ((xs.length:Int)=(ys.length:Int))=false:=decide_eq_false fun h=>hlen (by omega)
  (try((repeat(revert hN;revert N;apply Pn.out));refine wk @kB ?_;(repeat(refine Pn.mk ?_;intro N hN))))
  exact aI (b:=false) (.inl rfl) (sd @Nat.zero_add) (decide_eq_false fun h=>hlen (by subst h;rfl)).symm
theorem Ce (l:List AV):l++[]=l:=List.append_nil l
def iw {α:Type} (e:α->List AV) (zc:List AV) (xs:List α) (k:Nat):List (List AV):=(xs.take k).map e++List.replicate (xs.length-k) zc
theorem sE {α:Type} (e:α->List AV) (zc:List AV) (xs:List α):List.replicate xs.length zc=iw e zc xs 0:=by simp[iw]
theorem uv {α:Type} (e:α->List AV) (zc:List AV) (xs:List α):iw e zc xs xs.length=xs.map e:=by simp[iw]
theorem uw {α:Type} (e:α->List AV) (zc:List AV) (xs:List α) {k:Nat} (hk:k<xs.length):(iw e zc xs k)[k]? =some zc:=by
 have h1:((xs.take k).map e).length=k:=by simp;omega
 rw[iw,List.getElem?_append_right (by omega),h1,Nat.sub_self,List.getElem?_replicate,if_pos (by omega)]
theorem uy {α:Type} (e:α->List AV) (zc:List AV) (xs:List α) {k:Nat} (hk:k<xs.length):(iw e zc xs k).set k (e xs[k])=iw e zc xs (k+1):=by
 have h1:((xs.take k).map e).length=k:=by simp;omega
 rw[iw,List.set_append_right _ _ (by omega),h1,Nat.sub_self,iw,List.take_succ_eq_append_getElem hk,List.map_append,List.append_assoc]
 congr 1
 obtain⟨m,hm⟩:∃m,xs.length-k=m+1:=⟨xs.length-k-1,by omega⟩
 rw[hm,show xs.length-(k+1)=m by omega,List.replicate_succ]
 rfl
theorem DJ {α:Type} {en:α->List AV} {z fk gk:Nat} {zero:List K} (hc:ns P fk=some (EL fk gk z zero)) (LR:zero.length=z) (hz:∀x,(en x).length=z) (j5:∀x,(en x).all AV.cell=true) (BU:∀x g,cG g 5 (en x)=some (en x)) (xs:List α) (hlen:xs.length<=1048576)
  (hg:∀x∈xs,l7 P gk [.agg (en x)] (.agg (en x))):l7 P fk [.sl (xs.map en)] (.sl (xs.map en)):=by
 refine l7.body hc rfl fun hl σ=>?_
 try simp only[q]
 clear hl
 have hm:(xs.length:Int)<=((16777216:Nat):Int):=by omega
 have h0:(0:Int)<=(xs.length:Int):=by omega
 (try((repeat(revert hN;revert N;apply Pn.out));refine wk (tw @hm (tw @h0 (tw @Int.le_refl (tw (sE en (zero.map K.av) xs) @LR)))) ?_;(repeat(refine Pn.mk ?_;intro N hN))))
 refine aJ (fun n env st=>∃k:Nat,n=(xs.length)-k/\k<=(xs.length)/\env 4=.int .i64 (k:Int)/\st.get ⟨fk*1000000+1002,σ.next+1⟩=some ⟨true,z,iw en (zero.map K.av) xs k⟩) (xs.length) ⟨0,by omega,by omega,sl @Nat.zero_add,sl @Nat.zero_add⟩ ?_
 rintro n_a env_a st_a ⟨k,rfl,ale,a4,ag0⟩ dv
 have a0:=dv 0 (by kernel_rfl);have a3:=dv 3 (by kernel_rfl)
 simp only[go_sem, ↓reduceIte,Nat.reduceEqDiff,Nat.reduceAdd,Nat.reduceSub,Nat.reduceLeDiff,reduceCtorEq]at a0 a3
 clear dv
 by_cases hk:(k:Int)<(xs.length:Int)
 ·have cw:∀{e:Env} {gg:Rows},(e 4=.int .i64 (IntKind.i64.wrap ((k:Int)+1)))->(gg ⟨fk*1000000+1002,σ.next+1⟩=some ⟨true,z,iw en (zero.map K.av) xs (k+1)⟩)->∃m0,m0<(xs.length)-k/\∃k:Nat,m0=(xs.length)-k/\k<=(xs.length)/\e 4=.int .i64 (k:Int)/\gg ⟨fk*1000000+1002,σ.next+1⟩=some ⟨true,z,iw en (zero.map K.av) xs k⟩:=fun x1 x2=>⟨_,by omega,k+1,rfl,by omega,(by rw[x1,ax (by omega)]),x2⟩
  have e7:k<xs.length:=by omega
  have eJ:(xs.map en)[k]? =some (en xs[k]):=by simp[e7]
  have wD:=hz xs[k]
  have Jv:=j5 xs[k]
  have ht:(en xs[k]).take z=en xs[k]:=by rw[<-wD,List.take_length]
  have iO:=hg _ (List.getElem_mem e7)
  have fA:=uw en (zero.map K.av) xs e7
  have eO:=uy en (zero.map K.av) xs e7
  have Pz:(zero.map K.av).drop z=[]:=List.drop_of_length_le (by simp[LR])
  generalize hex:en xs[k]=c at iO eJ wD ht Jv eO
  (repeat(first|((repeat(revert hN;revert N;apply Pn.out));refine wk (tw @a4 (tw @ag0 (tw @a0 (tw @a3 (tw @hk (tw @eJ (tw @wD (tw @ht (tw @Nat.le_refl (tw @fA (tw @eO (tw @Pz (tw @Ce (tw @Jv @LR)))))))))))))) ?_;(repeat(refine Pn.mk ?_;intro N hN)))|((try apply Or.inl);refine⟨_,l7.x (iO) _,?_⟩;refine hN _ _ ?_;clear hN N)))
  refine cw ?_ ?_
  all_goals simp only[go_sem, ↓reduceIte,Nat.reduceEqDiff,Nat.reduceAdd,Nat.reduceSub,Nat.reduceLeDiff,reduceCtorEq,a4,ag0,a0,a3]
 ·(try((repeat(revert hN;revert N;apply Pn.out));refine wk (tw @a4 (tw @ag0 (tw @a0 (tw @a3 @hk)))) ?_;(repeat(refine Pn.mk ?_;intro N hN))))
  have e7:k=xs.length:=by omega
  subst e7
  refine Qp (.inl rfl) (r0:=.own ⟨fk*1000000+1002,σ.next+1⟩ 0 xs.length) (sd (tw @a4 (tw @ag0 (tw @a0 @a3)))) ?_
  rw[uv]at ag0
  exact ib ag0 (by simp) fun x=>BU x _
theorem Qv {fk:Nat} (hc:ns P fk=some (L1 fk (.int .i64 0))) (xs:List Int) (hlen:xs.length<=1048576):l7 P fk [.sl (xs.map fun x=>[AV.int .i64 x])] (.sl (xs.map fun x=>[AV.int .i64 x])):=by
 refine l7.body hc rfl fun hl σ=>?_
 try simp only[q]
 clear hl
 obtain⟨en,LB⟩:∃en:Int->List AV,en=fun x=>[AV.int .i64 x]:=⟨_,rfl⟩
 rw[<-LB]
 have hm:(xs.length:Int)<=((16777216:Nat):Int):=by omega
 have h0:(0:Int)<=(xs.length:Int):=by omega
 (try((repeat(revert hN;revert N;apply Pn.out));refine wk (tw @hm (tw @h0 (tw @Int.le_refl (sE en [AV.int .i64 0] xs)))) ?_;(repeat(refine Pn.mk ?_;intro N hN))))
 refine aJ (fun n env st=>∃k:Nat,n=(xs.length)-k/\k<=(xs.length)/\env 4=.int .i64 (k:Int)/\st.get ⟨fk*1000000+1002,σ.next+1⟩=some ⟨true,1,iw en [AV.int .i64 0] xs k⟩) (xs.length) ⟨0,by omega,by omega,sl @Nat.zero_add,sl @Nat.zero_add⟩ ?_
 rintro n_a env_a st_a ⟨k,rfl,ale,a4,ag0⟩ dv
 have a0:=dv 0 (by kernel_rfl);have a3:=dv 3 (by kernel_rfl)
 simp only[go_sem, ↓reduceIte,Nat.reduceEqDiff,Nat.reduceAdd,Nat.reduceSub,Nat.reduceLeDiff,reduceCtorEq]at a0 a3
 clear dv
 by_cases hk:(k:Int)<(xs.length:Int)
 ·have cw:∀{e:Env} {gg:Rows},(e 4=.int .i64 (IntKind.i64.wrap ((k:Int)+1)))->(gg ⟨fk*1000000+1002,σ.next+1⟩=some ⟨true,1,iw en [AV.int .i64 0] xs (k+1)⟩)->∃m0,m0<(xs.length)-k/\∃k:Nat,m0=(xs.length)-k/\k<=(xs.length)/\e 4=.int .i64 (k:Int)/\gg ⟨fk*1000000+1002,σ.next+1⟩=some ⟨true,1,iw en [AV.int .i64 0] xs k⟩:=fun x1 x2=>⟨_,by omega,k+1,rfl,by omega,(by rw[x1,ax (by omega)]),x2⟩
  have e7:k<xs.length:=by omega
  have eJ:(xs.map en)[k]? =some [AV.int .i64 xs[k]]:=by simp[e7,LB]
  have fA:=uw en [AV.int .i64 0] xs e7
  have eO:=uy en [AV.int .i64 0] xs e7
  rw[show en xs[k]=[AV.int .i64 xs[k]] by rw[LB]]at eO
  (try((repeat(revert hN;revert N;apply Pn.out));refine wk (tw @a4 (tw @ag0 (tw @a0 (tw @a3 (tw @hk (tw @eJ (tw @fA @eO))))))) ?_;(repeat(refine Pn.mk ?_;intro N hN))))
  refine cw ?_ ?_
  all_goals simp only[go_sem, ↓reduceIte,Nat.reduceEqDiff,Nat.reduceAdd,Nat.reduceSub,Nat.reduceLeDiff,reduceCtorEq,a4,ag0,a0,a3]
 ·(try((repeat(revert hN;revert N;apply Pn.out));refine wk (tw @a4 (tw @ag0 (tw @a0 (tw @a3 @hk)))) ?_;(repeat(refine Pn.mk ?_;intro N hN))))
  have e7:k=xs.length:=by omega
  subst e7
  refine Qp (.inl rfl) (r0:=.own ⟨fk*1000000+1002,σ.next+1⟩ 0 xs.length) (sd (tw @a4 (tw @ag0 (tw @a0 @a3)))) ?_
  rw[uv]at ag0
  exact ib ag0 (by simp) fun x=>by simp[LB,aj,aq,aH]
end Go.Proofs.YtgoelphibofcmaaGreat.V

namespace Go.Proofs.YtgoelphibofcmaaGreat
open Go.RowKit
def Sl (w:World) (fp:List Nat) (v:Value) (n:Nat) (xs:List Value):Prop:=
 ∃A c,v=.slice A n c/\n<=c/\c<=maxLen/\
  ((fp=[]/\n=0)∨∃b o,fp=[b]/\A=some ⟨b,o,none⟩/\∀j u,xs[j]? =some u->w.cell? ⟨b,o+j,none⟩=some u)
def fC (fp:List Nat) (lo hi:Nat):Prop:=∀b∈fp,lo<=b/\b<hi
theorem fC.nil (lo hi:Nat):fC [] lo hi:=fun _ h=>by cases h
theorem Sl.nil (w:World):Sl w [] (.slice none 0 0) 0 []:=⟨none,0,rfl,Nat.le_refl _,by simp[maxLen],.inl ⟨rfl,rfl⟩⟩
def Ma {α:Type} (rep:World->List Nat->List Value->α->Prop) (sz:Nat) (w:World) (nO:List (List Value)) (Ed:List (List Nat)) (ds:List α):Prop:=
 nO.length=ds.length/\Ed.length=ds.length/\∀(i:Nat) (cs:List Value) (f:List Nat) (d:α),nO[i]? =some cs->Ed[i]? =some f->ds[i]? =some d->rep w f cs d/\cs.length=sz
def mc {α:Type} (rep:World->List Nat->List Value->α->Prop) (sz:Nat) (w:World) (fp:List Nat) (v:Value) (ds:List α):Prop:=
 ∃nO Ed RY,fp=RY++Ed.flatten/\Sl w RY v ds.length nO.flatten/\Ma rep sz w nO Ed ds
theorem p9 {α:Type} {Ed:List (List α)} {i:Nat} {f:List α} (h:Ed[i]? =some f):∀b∈f,b∈Ed.flatten:=fun b hb=>
 List.mem_flatten.2 ⟨f,List.mem_of_getElem? h,hb⟩
theorem sJ {α:Type} {nO:List (List α)} {sz:Nat} (h:∀cs∈nO,cs.length=sz) {i j:Nat} {cs:List α} (hi:nO[i]? =some cs) (hj:j<sz):nO.flatten[i*sz+j]? =cs[j]? :=by
 induction nO generalizing i with
 |nil=>simp at hi
 |cons c r ih=>
  have hc:c.length=sz:=h c (by simp)
  cases i with
  |zero=>
   simp at hi;subst hi
   rw[List.flatten_cons,List.getElem?_append_left (by omega)];simp
  |succ i=>
   rw[List.flatten_cons,List.getElem?_append_right (by rw[hc,Nat.succ_mul];omega)]
   have:(i+1)*sz+j-c.length=i*sz+j:=by rw[hc,Nat.succ_mul];omega
   rw[this]
   exact ih (fun cs dn=>h cs (List.mem_cons_of_mem _ dn)) (by simpa using hi)
theorem Ma.lens {α:Type} {rep:World->List Nat->List Value->α->Prop} {sz:Nat} {w:World} {nO:List (List Value)} {Ed:List (List Nat)} {ds:List α}
  (h:Ma rep sz w nO Ed ds):∀cs∈nO,cs.length=sz:=fun cs dn=>by
 obtain⟨i,hi,rfl⟩:=List.getElem_of_mem dn
 have h1:i<Ed.length:=by rw[h.2.1,<-h.1];exact hi
 have h2:i<ds.length:=by rw[<-h.1];exact hi
 exact(h.2.2 i _ _ _ (List.getElem?_eq_getElem hi) (List.getElem?_eq_getElem h1) (List.getElem?_eq_getElem h2)).2
theorem mc.at_ {α:Type} {rep:World->List Nat->List Value->α->Prop} {sz:Nat} {w:World} {fp:List Nat} {A:Option Addr} {n c:Nat} {ds:List α}
  (h:mc rep sz w fp (.slice A n c) ds) (k:Nat) (hk:k<ds.length):
  ∃b o cs f,A=some ⟨b,o,none⟩/\b∈fp/\(∀x∈f,x∈fp)/\rep w f cs ds[k]/\cs.length=sz/\∀j u,cs[j]? =some u->w.cell? ⟨b,o+(k*sz+j),none⟩=some u:=by
 obtain⟨nO,Ed,RY,rfl,⟨A',c',hv,_,_,hc⟩,hr⟩:=h
 simp only[Value.slice.injEq]at hv
 obtain⟨rfl,hn,rfl⟩:=hv
 rcases hc with⟨_,h0⟩|⟨b,o,rfl,rfl,hc⟩
 ·omega
 have h1:k<nO.length:=by rw[hr.1];exact hk
 have h2:k<Ed.length:=by rw[hr.2.1];exact hk
 obtain⟨gp,hl⟩:=hr.2.2 k _ _ _ (List.getElem?_eq_getElem h1) (List.getElem?_eq_getElem h2) (List.getElem?_eq_getElem hk)
 refine⟨b,o,nO[k],Ed[k],rfl,by simp,fun x hx=>List.mem_append_right _ (p9 (List.getElem?_eq_getElem h2) x hx),gp,hl,fun j u hj=>?_⟩
 have gw:j<sz:=by rw[<-hl];exact(List.getElem?_eq_some_iff.1 hj).1
 exact hc _ u (by rw[sJ hr.lens (List.getElem?_eq_getElem h1) gw];exact hj)
theorem mc.len {α:Type} {rep:World->List Nat->List Value->α->Prop} {sz:Nat} {w:World} {fp:List Nat} {v:Value} {ds:List α}
  (h:mc rep sz w fp v ds):∃A c,v=.slice A ds.length c/\ds.length<=c/\c<=maxLen:=by
 obtain⟨_,_,_,_,⟨A,c,hv,h1,h2,_⟩,_⟩:=h
 exact⟨A,c,hv,h1,h2⟩
theorem mc.nil {α:Type} (rep:World->List Nat->List Value->α->Prop) (sz:Nat) (w:World):mc rep sz w [] (.slice none 0 0) ([]:List α):=
 ⟨[],[],[],rfl,Sl.nil w,rfl,rfl,fun i cs f d hc=>by simp at hc⟩
def Flat {α:Type} (enc:α->List Value):World->List Nat->List Value->α->Prop:=fun _ f cs d=>f=[]/\cs=enc d
end Go.Proofs.YtgoelphibofcmaaGreat

namespace Go.Proofs.YtgoelphibofcmaaGreat
open Go.RowKit
def Q (w w':World):Prop:=∃q,w'=w.drewN q
theorem Q.refl (w:World):Q w w:=⟨0,rfl⟩
theorem Q.d {w w':World} (h:Q w w') (n:Nat):Q w (w'.drewN n):=by obtain⟨q,rfl⟩:=h;exact⟨q+n,by rw[World.drewN_drewN]⟩
theorem Q.d1 {w w':World} (h:Q w w'):Q w w'.drew:=by obtain⟨q,rfl⟩:=h;exact⟨q+1,rfl⟩
theorem Q.n (w:World) (n:Nat):Q w (w.drewN n):=⟨n,rfl⟩
theorem Q.trans {a b c:World} (h:Q a b) (k:Q b c):Q a c:=by obtain⟨q,rfl⟩:=k;exact h.d q
theorem Hf {B:Nat} {a w:World} (h:Below B a w) (n:Nat):Below B a (w.drewN n):=⟨h.os,h.tape,h.output,h.size,h.block⟩
theorem Q.below {w w':World} (h:Q w w'):Below w.heap.size w w':=by obtain⟨q,rfl⟩:=h;exact Hf (Below.refl _ _) q
theorem iv {a b:Bool} (h:a=b):Ending.returned (.bool a)=.returned (.bool b):=by rw[h]
theorem EG {k:IntKind} {a b:Int} (h:a=b):Ending.returned (.int k a)=.returned (.int k b):=by rw[h]
end Go.Proofs.YtgoelphibofcmaaGreat

namespace Go.Proofs.YtgoelphibofcmaaGreat
open Go.RowKit
end Go.Proofs.YtgoelphibofcmaaGreat

namespace Go.Proofs.YtgoelphibofcmaaGreat
open Go.RowKit
end Go.Proofs.YtgoelphibofcmaaGreat

namespace Go.Proofs.YtgoelphibofcmaaGreat
open Go.RowKit
structure ai where
 eM:Int
 ep:Int
deriving DecidableEq
structure ae where
 aF:ai
 aQ:Int
deriving DecidableEq
structure eQ where
 ah:List ae
deriving DecidableEq
structure gO where
 aD:ByteArray
 ef:Int
deriving DecidableEq
structure fe where
 aD:ByteArray
 bI:List Int
deriving DecidableEq
structure aw where
 aA:List gO
 ah:List fe
deriving DecidableEq
structure aB where
 aC:aw
 bh:eQ
 az:Int
deriving DecidableEq
def Fj (d:Int):List Value:=[.int .i64 d]
def DU:=Flat Fj
def fy (d:ai):List Value:=[.int .i64 d.eM,.int .i64 d.ep]
def Cm (d:ae):List Value:=[.int .i64 d.aF.eM,.int .i64 d.aF.ep,.int .i64 d.aQ]
def Ac:=Flat Cm
def iN:=mc Ac 3
def Hq (d:gO):List Value:=[.string d.aD,.int .i64 d.ef]
def G0:=Flat Hq
def ql:=mc G0 2
def ud:=mc DU 1
def G1 (w:World) (f:List Nat) (cs:List Value) (d:fe):Prop:=
 ∃v1 f1,f=f1/\cs=[.string d.aD,v1]/\ud w f1 v1 d.bI
def qm:=mc G1 2
end Go.Proofs.YtgoelphibofcmaaGreat

namespace Go.Proofs.YtgoelphibofcmaaGreat.V
open Go.RowKit
variable {P:Program} {w:World} {D:Nat->Prop}
def GU (P:Program) (w:World) (D:Nat->Prop) (al:List AV) (cs:List Value):Prop:=∀(j:Nat) (a:AV),al[j]? =some a->∃u:Value,cs[j]? =some u/\js P w D a u
theorem qW {α:Type} {rep:World->List Nat->List Value->α->Prop} {e:α->List AV} {sz:Nat} {f:List Nat} {v:Value} {xs:List α} (h:mc rep sz w f v xs) (hD:∀b∈f,D b)
  (hl:∀x∈xs,(e x).length=sz) (hc:∀x∈xs,∀a∈e x,a.cell=true) (hr:∀x∈xs,∀f' cs,rep w f' cs x->(∀b∈f',D b)->GU P w D (e x) cs):js P w D (.sl (xs.map e)) v:=by
 obtain⟨A,c,rfl,h1,h2⟩:=mc.len h
 by_cases h0:xs=[]
 ·subst h0;exact .z8 _ _ h2
 have k5:0<xs.length:=List.length_pos_iff.2 h0
 obtain⟨b,o,Ox,f0,rfl,hb,Q9,OL,J4,jv⟩:=mc.at_ h 0 k5
 have key:∀(i:Nat) (hi:i<xs.length),∃cs f',(∀x∈f',x∈f)/\rep w f' cs xs[i]/\cs.length=sz/\∀j u,cs[j]? =some u->w.cell? ⟨b,o+(i*sz+j),none⟩=some u:=by
  intro i hi
  obtain⟨b',o',cs,f',Q4,_,jI,nB,dn,kz⟩:=mc.at_ h i hi
  simp only[Option.some.injEq,Addr.mk.injEq,and_true]at Q4
  obtain⟨rfl,rfl⟩:=Q4
  exact⟨cs,f',jI,nB,dn,kz⟩
 refine .sl _ b o _ c sz (fun i j=>(w.cell? ⟨b,o+(i*sz+j),none⟩).getD Go.undef) (by simp) h1 h2 (hD b hb) ?_ ?_ ?_ ?_
 ·intro cs dn
  obtain⟨x,hx,rfl⟩:=List.mem_map.1 dn
  exact hl x hx
 ·intro cs dn
  obtain⟨x,hx,rfl⟩:=List.mem_map.1 dn
  exact hc x hx
 ·intro i j hi hj
  obtain⟨cs,f',_,_,dn,kz⟩:=key i hi
  rw[kz j cs[j] (List.getElem?_eq_getElem (by omega))]
  rfl
 ·intro i j cs a dn ha
  have hi:i<xs.length:=by
   have:=(List.getElem?_eq_some_iff.1 dn).1
   simpa using this
  obtain⟨pq,f',jI,nB,hcs',kz⟩:=key i hi
  simp[hi]at dn
  subst dn
  obtain⟨u,hu,him⟩:=hr _ (List.getElem_mem hi) f' pq nB (fun b hb=>hD b (jI b hb)) j a ha
  rw[kz j u hu]
  exact him
end Go.Proofs.YtgoelphibofcmaaGreat.V

namespace Go.Proofs.YtgoelphibofcmaaGreat.V
open Go.RowKit
variable {P:Program} {w:World} {D:Nat->Prop}
def bq (d:Int):List AV:=[.int .i64 d]
def aa (d:ai):List AV:=[.int .i64 d.eM,.int .i64 d.ep]
def ad (d:ae):List AV:=[.int .i64 d.aF.eM,.int .i64 d.aF.ep,.int .i64 d.aQ]
def aS (d:eQ):List AV:=[.sl (d.ah.map ad)]
def bZ (d:gO):List AV:=[.str d.aD,.int .i64 d.ef]
def bj (d:fe):List AV:=[.str d.aD,.sl (d.bI.map bq)]
def ab (d:aw):List AV:=[.sl (d.aA.map bZ),.sl (d.ah.map bj)]
def au (d:aB):List AV:=[.sl (d.aC.aA.map bZ),.sl (d.aC.ah.map bj),.sl (d.bh.ah.map ad),.int .i64 d.az]
theorem sr {f:List Nat} {v:Value} {xs:List ae} (h:iN w f v xs) (hD:∀b∈f,D b):js P w D (.sl (xs.map ad)) v:=
 qW h hD (fun _ _=>rfl) (fun x _ a ha=>by simp[ad]at ha;rcases ha with rfl|rfl|rfl<;>rfl) fun x _ f' cs hr hf=>by
  obtain⟨_,rfl⟩:=hr
  intro j a ha
  match j,ha with
  |0,ha=>simp[ad]at ha;subst ha;exact⟨_,rfl,.int _ _⟩
  |1,ha=>simp[ad]at ha;subst ha;exact⟨_,rfl,.int _ _⟩
  |2,ha=>simp[ad]at ha;subst ha;exact⟨_,rfl,.int _ _⟩
  |j+3,ha=>simp[ad]at ha
theorem yh {d:eQ} {f0:List Nat} {v0:Value} (h0:iN w f0 v0 d.ah) (d0:∀b∈f0,D b):js P w D (.agg (aS d)) (.agg #[v0]):=by
 refine .agg _ _ (fun j=>(#[v0]:Array Value).getD j Go.undef) rfl (fun a ha=>by simp[aS]at ha;rcases ha with rfl<;>rfl) (fun j hj=>?_) (fun j a ha=>?_)
 ·match j,hj with
  |0,_=>rfl
  |j+1,hj=>simp[aS]at hj<;>omega
 ·match j,ha with
  |0,ha=>simp[aS]at ha;subst ha;exact sr h0 d0
  |j+1,ha=>simp[aS]at ha
theorem EU {f:List Nat} {v:Value} {xs:List gO} (h:ql w f v xs) (hD:∀b∈f,D b):js P w D (.sl (xs.map bZ)) v:=
 qW h hD (fun _ _=>rfl) (fun x _ a ha=>by simp[bZ]at ha;rcases ha with rfl|rfl<;>rfl) fun x _ f' cs hr hf=>by
  obtain⟨_,rfl⟩:=hr
  intro j a ha
  match j,ha with
  |0,ha=>simp[bZ]at ha;subst ha;exact⟨_,rfl,.str _⟩
  |1,ha=>simp[bZ]at ha;subst ha;exact⟨_,rfl,.int _ _⟩
  |j+2,ha=>simp[bZ]at ha
theorem B7 {f:List Nat} {v:Value} {xs:List Int} (h:ud w f v xs) (hD:∀b∈f,D b):js P w D (.sl (xs.map bq)) v:=
 qW h hD (fun _ _=>rfl) (fun x _ a ha=>by simp[bq]at ha;rcases ha with rfl<;>rfl) fun x _ f' cs hr hf=>by
  obtain⟨_,rfl⟩:=hr
  intro j a ha
  match j,ha with
  |0,ha=>simp[bq]at ha;subst ha;exact⟨_,rfl,.int _ _⟩
  |j+1,ha=>simp[bq]at ha
theorem EZ {f:List Nat} {v:Value} {xs:List fe} (h:qm w f v xs) (hD:∀b∈f,D b):js P w D (.sl (xs.map bj)) v:=
 qW h hD (fun _ _=>rfl) (fun x _ a ha=>by simp[bj]at ha;rcases ha with rfl|rfl<;>rfl) fun x _ f' cs hr hf=>by
  obtain⟨v1,f1,rfl,rfl,h1⟩:=hr
  intro j a ha
  match j,ha with
  |0,ha=>simp[bj]at ha;subst ha;exact⟨_,rfl,.str _⟩
  |1,ha=>simp[bj]at ha;subst ha;exact⟨_,rfl,B7 h1 hf⟩
  |j+2,ha=>simp[bj]at ha
theorem Ca {d:aB} {f0:List Nat} {v0:Value} (h0:ql w f0 v0 d.aC.aA) (d0:∀b∈f0,D b) {f1:List Nat} {v1:Value} (h1:qm w f1 v1 d.aC.ah) (d1:∀b∈f1,D b) {f2:List Nat} {v2:Value} (h2:iN w f2 v2 d.bh.ah) (d2:∀b∈f2,D b):js P w D (.agg (au d)) (.agg #[v0,v1,v2,.int .i64 d.az]):=by
 refine .agg _ _ (fun j=>(#[v0,v1,v2,.int .i64 d.az]:Array Value).getD j Go.undef) rfl (fun a ha=>by simp[au]at ha;rcases ha with rfl|rfl|rfl|rfl<;>rfl) (fun j hj=>?_) (fun j a ha=>?_)
 ·match j,hj with
  |0,_=>rfl
  |1,_=>rfl
  |2,_=>rfl
  |3,_=>rfl
  |j+4,hj=>simp[au]at hj<;>omega
 ·match j,ha with
  |0,ha=>simp[au]at ha;subst ha;exact EU h0 d0
  |1,ha=>simp[au]at ha;subst ha;exact EZ h1 d1
  |2,ha=>simp[au]at ha;subst ha;exact sr h2 d2
  |3,ha=>simp[au]at ha;subst ha;exact .int _ _
  |j+4,ha=>simp[au]at ha
end Go.Proofs.YtgoelphibofcmaaGreat.V

namespace Go.Proofs.YtgoelphibofcmaaGreat.V
open Go.RowKit
attribute [local irreducible] dD wpOps gI Call
attribute [local go_sem] aK fW eU gE gy cE upd ck K.av cN AV.cells AV.cell rowOf rowsOf part ld rowAt bB bY dO ev iI bK db eI gr e8 dx eB cZ cY ea ec bQ aY cQ bP cU cR ez eC eA cP bV da ew bL aL cW cF iH bz cK bR aU dh aT dP AV.undef bF bG eh eu dX dY cI eH eK cD eE eD cV cX List.getD_cons_zero List.getD_cons_succ List.getD_nil List.all_cons List.all_nil Bool.and_true Bool.true_and Bool.and_self Bool.not_true Bool.not_false Option.map_some Option.map_none Option.bind_some Option.bind_none List.length_cons List.length_nil List.take_succ_cons List.take_zero List.take_nil List.drop_succ_cons List.drop_zero List.drop_nil List.head?_cons List.map_cons List.map_nil List.getElem?_cons_zero List.getElem?_cons_succ List.cons_append List.nil_append List.append_nil List.length_map List.set_cons_zero List.set_cons_succ Nat.reduceMul eq_self Int.toNat_natCast Int.natCast_nonneg and_self true_and and_true decide_true decide_false Bool.false_eq_true Nat.zero_add Nat.add_zero List.contains_cons List.contains_nil Bool.or_false Bool.false_or beq_self_eq_true Nat.reduceBEq ne_eq not_true_eq_false not_false_eq_true Id.mk.injEq false_and and_false Nat.reduceLT Int.reduceLE Int.reduceLT Int.reduceToNat Int.reduceNeg Int.reduceAdd Nat.le_refl List.length_append beq_true beq_false Bool.not_eq_eq_eq_not or_false false_or dQ aj aq aH bd bE cm aW bc aN bf cL bU
variable {P:Program}
theorem DQ {X:fu} {Q:Ex->Env->ar->Prop} {N:Env->ar->Prop} {c:VC} {env:Env} {σ:ar} (I:Env->ar->Prop) (h2:∀e s,I e s->N e s) (h1:∀N':Env->ar->Prop,(∀e s,I e s->N' e s)->dD X c (dh N' Q) env σ):dD X c (dh N Q) env σ:=h1 N h2
def pV (f z:Nat) (a:Bool):zT:=let s:=f*1000000
 ⟨19,2,(.seq (.dW false [q 4 (.cH (.k (.int .i64 0))) s]) (.seq (.seq (.dW false [q 6 (.cH (.t 0)) (s+1000),q 7 (.len (.t 6)) (s+1001),q 8 (.cH (.k (.int .i64 0))) (s+1002)]) (.block 0 (.loop (.seq (.dW false [q 9 (.bin .lss .i64 (.t 8) (.t 7)) (s+2000)]) (.seq (.cond (.t 9) .skip (.exit 0)) (.seq (.block 1 (.seq (.dW false [q 10 (.cH (.t 8)) (s+3000),q 5 (.cH (.t 10)) (s+3001)]) (.seq (.dW false [q 11 (.cH (.t 1)) (s+4000),q 12 (.cH (.t 0)) (s+4001),q 13 (.cH (.t 5)) (s+4002),q 14 (.dy z (.t 12) (.t 13)) (s+4003),q 15 (.load a z (.t 14)) (s+4004),q 16 (.sD (.t 11) [(.t 15)]) (s+4005)]) (.cond (.t 16) (.seq (.dW false [q 17 (.cH (.t 5)) (s+5000),q 4 (.cH (.t 17)) (s+5001)]) .ret) .skip)))) (.dW false [q 18 (.bin .add .i64 (.t 8) (.k (.int .i64 1))) (s+6000),q 8 (.cH (.t 18)) (s+6001)]))))))) (.seq (.dW false [q 4 (.cH (.k (.int .i64 (-1)))) (s+7000)]) .ret))),[(.tmp 4)]⟩
def yO (f g:Nat):zT:=let s:=f*1000000
 ⟨9,2,(.seq (.dW false [q 4 (.cH (.k (.bool false))) s]) (.seq (.dW false [q 5 (.cH (.t 0)) (s+1000),q 6 (.cH (.t 1)) (s+1001),q 7 (.call g [(.t 5),(.t 6)]) (s+1002),q 8 (.bin .geq .i64 (.t 7) (.k (.int .i64 0))) (s+1003),q 4 (.cH (.t 8)) (s+1004)]) .ret)),[(.tmp 4)]⟩
def im {α:Type} (p:α->Bool) (xs:List α):Int:=if xs.findIdx p<xs.length then(xs.findIdx p:Int)else -1
theorem Hw {α:Type} (p:α->Bool) (xs:List α):decide (0<=im p xs)=xs.any p:=by
 unfold im
 by_cases h:xs.findIdx p<xs.length
 ·rw[if_pos h]
  have:xs.any p=true:=List.any_eq_true.2 (List.findIdx_lt_length.1 h)
  rw[this];simp
 ·rw[if_neg h]
  have:xs.any p=false:=by
   rw[Bool.eq_false_iff]
   intro hc
   exact h (List.findIdx_lt_length.2 (List.any_eq_true.1 hc))
  rw[this];rfl
theorem tx (a:AV) (l m:List AV):a::l++m=a::(l++m):=rfl
theorem yp (l:List AV):[]++l=l:=rfl
structure On {α:Type} (e:α->List AV) (v:α->AV) (z:Nat) (a:Bool):Prop where
 len:∀x,(e x).length=z
 val:∀x,if a=true then v x=.agg (e x)else e x=[v x]
 fz:∀x g,cG g 6 [v x]=some [v x]
theorem n9 {α:Type} {e:α->List AV} {v:α->AV} {z fk:Nat} {a:Bool} (hE:On e v z a) (hc:ns P fk=some (pV fk z a)) (xs:List α) (hlen:xs.length<=1048576) (f:Nat) (cz:List AV) (p:α->Bool)
  (hf:∀x∈xs,ao P f (v x::cz) (.bool (p x))) (HL:∀g,cG g 6 cz=some cz):
  ao P fk [.sl (xs.map e),.fn f cz] (.int .i64 (im p xs)):=by
 refine ao.body hc rfl fun hl n0=>?_
 try simp only[q]
 clear hl
 (try((repeat(revert hN;revert N;apply Pn.out));refine wk @Nat.zero_add ?_;(repeat(refine Pn.mk ?_;intro N hN))))
 refine aJ (fun n env st=>∃k:Nat,n=(xs.length)-k/\k<=(xs.length)/\env 8=.int .i64 (k:Int)/\(∀j:Nat,j<k->∀h:j<xs.length,p xs[j]=false)) (xs.length) ⟨0,by omega,by omega,sl @Nat.zero_add,fun _ h=>absurd h (Nat.not_lt_zero _)⟩ ?_
 rintro n_a env_a st_a ⟨k,rfl,ale,a8,kR⟩ dv
 have a0:=dv 0 (by kernel_rfl);have a1:=dv 1 (by kernel_rfl);have a7:=dv 7 (by kernel_rfl)
 simp only[go_sem, ↓reduceIte,Nat.reduceEqDiff,Nat.reduceAdd,Nat.reduceSub,Nat.reduceLeDiff,reduceCtorEq]at a0 a1 a7
 clear dv
 by_cases hk:(k:Int)<(xs.length:Int)
 ·have cw:∀{e:Env},(e 8=.int .i64 (IntKind.i64.wrap ((k:Int)+1)))->(∀h:k<xs.length,p xs[k]=false)->∃m0,m0<(xs.length)-k/\∃k:Nat,m0=(xs.length)-k/\k<=(xs.length)/\e 8=.int .i64 (k:Int)/\(∀j:Nat,j<k->∀h:j<xs.length,p xs[j]=false):=fun x1 x2=>⟨_,by omega,k+1,rfl,by omega,(by rw[x1,ax (by omega)]),(all_succ kR x2)⟩
  have e7:k<xs.length:=by omega
  have hg:(xs.map e)[k]? =some (e xs[k]):=by simp[e7]
  have BX:=hf _ (List.getElem_mem e7)
  have hz:=hE.len xs[k]
  have hv:=hE.val xs[k]
  have kh:cG (dQ st_a.get) 6 (v xs[k]::cz)=some (v xs[k]::cz):=by
   have h1:=hE.fz xs[k] (dQ st_a.get)
   rw[aj,aq]at h1
   rw[aj,HL]
   revert h1
   cases V.fz (dQ st_a.get) 6 (v xs[k])<;>simp
  have fin:∀hN:True,(p xs[k]=true->xs.findIdx p=k):=fun _ hp=>by
   rw[List.findIdx_eq e7];exact⟨hp,fun j hj=>kR j hj (by omega)⟩
  cases hp:p xs[k]
  ·have OI:=hp
   cases a
   ·rw[if_neg (by simp)]at hv
    have tM:z=1:=by rw[<-hz,hv];rfl
    subst tM
    rw[hv]at hg hz
    rw[hp]at BX
    generalize v xs[k]=c at BX kh hg hz
    (try((repeat(revert hN;revert N;apply Pn.out));refine wk (tw @a8 (tw @a0 (tw @a1 (tw @a7 (tw @hk (tw @hg (tw @hz (tw @tx @yp)))))))) ?_;(repeat(refine Pn.mk ?_;intro N hN))))
    refine .inl ⟨_,ao.x BX kh,?_⟩
    refine hN _ _ ?_
    clear hN N
    (try((repeat(revert hN;revert N;apply Pn.out));refine wk (tw @a8 (tw @a0 (tw @a1 @a7))) ?_;(repeat(refine Pn.mk ?_;intro N hN))))
    exact cw (sd (tw @a8 (tw @a0 (tw @a1 @a7)))) (fun _=>OI)
   ·rw[if_pos rfl]at hv
    have ht:(e xs[k]).take z=e xs[k]:=by rw[<-hz,List.take_length]
    rw[hv]at BX kh
    rw[hp]at BX
    generalize e xs[k]=c at BX kh hg hz ht
    (try((repeat(revert hN;revert N;apply Pn.out));refine wk (tw @a8 (tw @a0 (tw @a1 (tw @a7 (tw @hk (tw @hg (tw @hz (tw @ht (tw @tx (tw @yp @Nat.le_refl)))))))))) ?_;(repeat(refine Pn.mk ?_;intro N hN))))
    refine .inl ⟨_,ao.x BX kh,?_⟩
    refine hN _ _ ?_
    clear hN N
    (try((repeat(revert hN;revert N;apply Pn.out));refine wk (tw @a8 (tw @a0 (tw @a1 @a7))) ?_;(repeat(refine Pn.mk ?_;intro N hN))))
    exact cw (sd (tw @a8 (tw @a0 (tw @a1 @a7)))) (fun _=>OI)
  ·have hi:=fin trivial hp
   cases a
   ·rw[if_neg (by simp)]at hv
    have tM:z=1:=by rw[<-hz,hv];rfl
    subst tM
    rw[hv]at hg hz
    rw[hp]at BX
    generalize v xs[k]=c at BX kh hg hz
    (try((repeat(revert hN;revert N;apply Pn.out));refine wk (tw @a8 (tw @a0 (tw @a1 (tw @a7 (tw @hk (tw @hg (tw @hz (tw @tx @yp)))))))) ?_;(repeat(refine Pn.mk ?_;intro N hN))))
    refine .inl ⟨_,ao.x BX kh,?_⟩
    refine hN _ _ ?_
    clear hN N
    (try((repeat(revert hN;revert N;apply Pn.out));refine wk (tw @a8 (tw @a0 (tw @a1 @a7))) ?_;(repeat(refine Pn.mk ?_;intro N hN))))
    exact bx (b:=(k:Int)) (.inl rfl) (sd @Nat.zero_add) (by rw[im,hi,if_pos e7])
   ·rw[if_pos rfl]at hv
    have ht:(e xs[k]).take z=e xs[k]:=by rw[<-hz,List.take_length]
    rw[hv]at BX kh
    rw[hp]at BX
    generalize e xs[k]=c at BX kh hg hz ht
    (try((repeat(revert hN;revert N;apply Pn.out));refine wk (tw @a8 (tw @a0 (tw @a1 (tw @a7 (tw @hk (tw @hg (tw @hz (tw @ht (tw @tx (tw @yp @Nat.le_refl)))))))))) ?_;(repeat(refine Pn.mk ?_;intro N hN))))
    refine .inl ⟨_,ao.x BX kh,?_⟩
    refine hN _ _ ?_
    clear hN N
    (try((repeat(revert hN;revert N;apply Pn.out));refine wk (tw @a8 (tw @a0 (tw @a1 @a7))) ?_;(repeat(refine Pn.mk ?_;intro N hN))))
    exact bx (b:=(k:Int)) (.inl rfl) (sd @Nat.zero_add) (by rw[im,hi,if_pos e7])
 ·(try((repeat(revert hN;revert N;apply Pn.out));refine wk (tw @a8 (tw @a0 (tw @a1 (tw @a7 @hk)))) ?_;(repeat(refine Pn.mk ?_;intro N hN))))
  have hi:¬xs.findIdx p<xs.length:=by
   rw[List.findIdx_lt_length]
   rintro⟨x,hx,HW⟩
   obtain⟨j,hj,rfl⟩:=List.getElem_of_mem hx
   rw[kR j (by omega) hj]at HW;cases HW
  exact bx (b:=-1) (.inl rfl) (sd @Nat.zero_add) (by rw[im,if_neg hi])
theorem kq {α:Type} {e:α->List AV} {v:α->AV} {z fk gk:Nat} {a:Bool} (hE:On e v z a) (hc:ns P fk=some (yO fk gk)) (yP:ns P gk=some (pV gk z a)) (xs:List α) (hlen:xs.length<=1048576) (f:Nat) (cz:List AV) (p:α->Bool) (HG:cz.all AV.cell=true) (BU:∀g,cG g 5 cz=some cz)
  (hf:∀x∈xs,ao P f (v x::cz) (.bool (p x))) (HL:∀g,cG g 6 cz=some cz):
  ao P fk [.sl (xs.map e),.fn f cz] (.bool (xs.any p)):=by
 refine ao.body hc rfl fun hl n0=>?_
 try simp only[q]
 clear hl
 have hi:=n9 hE yP xs hlen f cz p hf HL
 (repeat(first|((repeat(revert hN;revert N;apply Pn.out));refine wk (tw @HG @BU) ?_;(repeat(refine Pn.mk ?_;intro N hN)))|((try apply Or.inl);refine⟨_,ao.x (hi) (sd (tw @HG @BU)),?_⟩;refine hN _ _ ?_;clear hN N)))
 exact aI (b:=decide (0<=im p xs)) (.inl rfl) (sd @Nat.zero_add) (Hw p xs)
end Go.Proofs.YtgoelphibofcmaaGreat.V

namespace Go.Proofs.YtgoelphibofcmaaGreat.V
open Go.RowKit
def qJ (P:Program) (mk:Bool):List Oper->Nat->List Nat
 |[],_=>[]
 |o::r,i=>match qh P o.op with
  |some v=>if p7 v||mk&&v.lD then i::qJ P mk r (i+1)else qJ P mk r (i+1)
  |none=>qJ P mk r (i+1)
def yv (P:Program) (ops:Array Oper) (site0:Nat) (mk:Bool) (bs:Array Nat) (hidden:List Nat):List Oper->Nat->Option (List aM)
 |[],_=>some []
 |o::r,j=>do
  let v <-qh P o.op
  let g <-Cj ops o
  pure ({dst:=o.dst,op:=v,guard:=g,site:=site0+j,hid:=(hidden.filter fun i=> !(bs.getD j 0).testBit i&&(i !=j||mk&&v.lD)).map fun i=>site0+i}::(<-yv P ops site0 mk bs hidden r (j+1)))
def pG (P:Program) (md:List (Nat×Nat)) (fid:Nat):Code->Option VC
 | .skip=>some .skip
 | .region id ops draw=>if draw then(yv P ops ((fid*1000+id)*1000) (ve md id==1) (jo ops) (qJ P (ve md id==1) ops.toList 0) ops.toList 0).map (VC.dW true)else(yv P ops ((fid*1000+id)*1000) false #[] [] ops.toList 0).map (if ops.toList.any fun o=>LS o.op then VC.Mr else VC.dW false)
 | .seq a b=>do pure (.seq (<-pG P md fid a) (<-pG P md fid b))
 | .cond c x y=>do pure (.cond (<-cO P c) (<-pG P md fid x) (<-pG P md fid y))
 | .block id c=>(pG P md fid c).map (VC.block id)
 | .loop c=>(pG P md fid c).map VC.loop
 | .exit id=>some (.exit id)
 | .ret=>some .ret
 |_=>none
def O6 (P:Program) (md:List (Nat×Nat)) (f:Nat):Option zT:=
 match P.funcs[f]? with
 |some fn=>match fn.body with
  |some c=>do
   let b <-pG P md f c
   let r <-fn.results.toList.mapM (Ck P)
   pure {ntmps:=fn.ntmps,xT:=fn.params.size+fn.nfree,body:=b,res:=r}
  |none=>none
 |none=>none
theorem cfM {P:Program} (md:List (Nat×Nat)) {f:Nat} {v:zT} (_:O6 P md f=some v:=by(conv=>lhs;cbv)<;>exact rfl) (h:wK P f md=some v:=by kernel_rfl):wK P f md=some v:=h
theorem eG {P:Program} {f:Nat} {v:zT} (_:O6 P [] f=some v:=by(conv=>lhs;cbv)<;>exact rfl) (h:ns P f=some v:=by kernel_rfl):ns P f=some v:=h
end Go.Proofs.YtgoelphibofcmaaGreat.V

namespace Go.Proofs.YtgoelphibofcmaaGreat.V
open Go.RowKit
def NY:zT:=⟨77,2,(.seq (.dW false [q 4 (.cH (.k .gj)) 237000000]) (.seq (.dW false [q 7 (.cH (.t 0)) 237001000,q 8 (.cH (.t 1)) 237001001,q 9 (.build [(.int .i64 0),.cj,.cj,.cj] [(0,(1,(.t 7))),(1,(1,(.t 8)))]) 237001002,q 10 (.box (.t 9)) 237001003,q 5 (.cH (.t 10)) 237001004]) (.seq (.dW false [q 11 (.cH (.t 5)) 237002000,q 12 (.cH (.t 0)) 237002001,q 13 (.jK [.cj] (.t 12) (.t 12)) 237002002,q 14 (.zU (.t 11)) 237002003,q 15 (.fG 2 (.t 14)) 237002004,⟨none,(.store 1 (.t 15) (.t 13)),none,237002005,[]⟩]) (.seq (.dW false [q 16 (.cH (.t 5)) 237003000,q 17 (.cH (.t 1)) 237003001,q 18 (.len (.t 17)) 237003002,q 19 (.jK [(.int .i64 0)] (.t 18) (.t 18)) 237003003,q 20 (.zU (.t 16)) 237003004,q 21 (.fG 3 (.t 20)) 237003005,⟨none,(.store 1 (.t 21) (.t 19)),none,237003006,[]⟩]) (.seq (.seq (.dW false [q 6 (.cH (.k (.int .i64 0))) 237004000]) (.block 0 (.loop (.seq (.seq (.dW false [q 22 (.cH (.t 6)) 237005000,q 23 (.cH (.t 1)) 237005001,q 24 (.len (.t 23)) 237005002,q 25 (.bin .lss .i64 (.t 22) (.t 24)) 237005003]) (.cond (.t 25) .skip (.exit 0))) (.seq (.block 1 (.seq (.one ⟨(some 28),(.cH (.t 5)),none,237007000,[237007021,237007022,237007024]⟩ (.one ⟨(some 29),(.zU (.t 28)),none,237007001,[237007021,237007022,237007024]⟩ (.one ⟨(some 30),(.fG 2 (.t 29)),none,237007002,[237007021,237007022,237007024]⟩ (.one ⟨(some 32),(.cH (.t 1)),none,237007004,[237007021,237007022,237007024]⟩ (.one ⟨(some 33),(.cH (.t 6)),none,237007005,[237007021,237007022,237007024]⟩ (.one ⟨(some 37),(.cH (.t 5)),none,237007009,[237007021,237007022,237007024]⟩ (.one ⟨(some 38),(.zU (.t 37)),none,237007010,[237007021,237007022,237007024]⟩ (.one ⟨(some 39),(.fG 2 (.t 38)),none,237007011,[237007021,237007022,237007024]⟩ (.one ⟨(some 40),(.load false 1 (.t 39)),none,237007012,[237007021,237007022,237007024]⟩ (.one ⟨(some 41),(.cH (.t 1)),none,237007013,[237007021,237007022,237007024]⟩ (.one ⟨(some 42),(.cH (.t 6)),none,237007014,[237007021,237007022,237007024]⟩ (.one ⟨(some 43),(.dy 3 (.t 41) (.t 42)),none,237007015,[237007021,237007022,237007024]⟩ (.one ⟨(some 44),(.fG 0 (.t 43)),none,237007016,[237007021,237007022,237007024]⟩ (.one ⟨(some 45),(.load false 1 (.t 44)),none,237007017,[237007021,237007022,237007024]⟩ (.one ⟨(some 46),(.dy 1 (.t 40) (.t 45)),none,237007018,[237007021,237007022,237007024]⟩ (.one ⟨(some 47),(.load false 1 (.t 46)),none,237007019,[237007021,237007022,237007024]⟩ (.one ⟨(some 48),(.cH (.t 6)),none,237007020,[237007021,237007022,237007024]⟩ (.one ⟨(some 49),(.kn 1 1 [(.t 48)]),none,237007021,[237007022,237007024]⟩ (.both (.one ⟨(some 31),(.load false 1 (.t 30)),none,237007003,[237007021,237007022,237007024]⟩ (.both (.one ⟨(some 34),(.dy 3 (.t 32) (.t 33)),none,237007006,[237007021,237007022,237007024]⟩ (.one ⟨(some 35),(.fG 0 (.t 34)),none,237007007,[237007021,237007022,237007024]⟩ (.both (.one ⟨(some 36),(.load false 1 (.t 35)),none,237007008,[237007021,237007022,237007024]⟩ (.one ⟨(some 50),(.append 1 (.t 47) (.t 49)),none,237007022,[237007024]⟩ (.one ⟨(some 51),(.dy 1 (.t 31) (.t 36)),none,237007023,[237007024]⟩ (.one ⟨none,(.store 1 (.t 51) (.t 50)),none,237007024,[]⟩ (.dW false []))))) (.one ⟨(some 50),(.append 1 (.t 47) (.t 49)),none,237007022,[237007024]⟩ (.one ⟨(some 36),(.load false 1 (.t 35)),none,237007008,[237007021,237007022,237007024]⟩ (.one ⟨(some 51),(.dy 1 (.t 31) (.t 36)),none,237007023,[237007024]⟩ (.one ⟨none,(.store 1 (.t 51) (.t 50)),none,237007024,[]⟩ (.dW false [])))))))) (.one ⟨(some 50),(.append 1 (.t 47) (.t 49)),none,237007022,[237007024]⟩ (.one ⟨(some 34),(.dy 3 (.t 32) (.t 33)),none,237007006,[237007021,237007022,237007024]⟩ (.one ⟨(some 35),(.fG 0 (.t 34)),none,237007007,[237007021,237007022,237007024]⟩ (.one ⟨(some 36),(.load false 1 (.t 35)),none,237007008,[237007021,237007022,237007024]⟩ (.one ⟨(some 51),(.dy 1 (.t 31) (.t 36)),none,237007023,[237007024]⟩ (.one ⟨none,(.store 1 (.t 51) (.t 50)),none,237007024,[]⟩ (.dW false []))))))))) (.both (.one ⟨(some 34),(.dy 3 (.t 32) (.t 33)),none,237007006,[237007021,237007022,237007024]⟩ (.one ⟨(some 35),(.fG 0 (.t 34)),none,237007007,[237007021,237007022,237007024]⟩ (.both (.one ⟨(some 31),(.load false 1 (.t 30)),none,237007003,[237007021,237007022,237007024]⟩ (.both (.one ⟨(some 36),(.load false 1 (.t 35)),none,237007008,[237007021,237007022,237007024]⟩ (.one ⟨(some 50),(.append 1 (.t 47) (.t 49)),none,237007022,[237007024]⟩ (.one ⟨(some 51),(.dy 1 (.t 31) (.t 36)),none,237007023,[237007024]⟩ (.one ⟨none,(.store 1 (.t 51) (.t 50)),none,237007024,[]⟩ (.dW false []))))) (.one ⟨(some 50),(.append 1 (.t 47) (.t 49)),none,237007022,[237007024]⟩ (.one ⟨(some 36),(.load false 1 (.t 35)),none,237007008,[237007021,237007022,237007024]⟩ (.one ⟨(some 51),(.dy 1 (.t 31) (.t 36)),none,237007023,[237007024]⟩ (.one ⟨none,(.store 1 (.t 51) (.t 50)),none,237007024,[]⟩ (.dW false []))))))) (.both (.one ⟨(some 36),(.load false 1 (.t 35)),none,237007008,[237007021,237007022,237007024]⟩ (.both (.one ⟨(some 31),(.load false 1 (.t 30)),none,237007003,[237007021,237007022,237007024]⟩ (.one ⟨(some 50),(.append 1 (.t 47) (.t 49)),none,237007022,[237007024]⟩ (.one ⟨(some 51),(.dy 1 (.t 31) (.t 36)),none,237007023,[237007024]⟩ (.one ⟨none,(.store 1 (.t 51) (.t 50)),none,237007024,[]⟩ (.dW false []))))) (.one ⟨(some 50),(.append 1 (.t 47) (.t 49)),none,237007022,[237007024]⟩ (.one ⟨(some 31),(.load false 1 (.t 30)),none,237007003,[237007021,237007022,237007024]⟩ (.one ⟨(some 51),(.dy 1 (.t 31) (.t 36)),none,237007023,[237007024]⟩ (.one ⟨none,(.store 1 (.t 51) (.t 50)),none,237007024,[]⟩ (.dW false []))))))) (.one ⟨(some 50),(.append 1 (.t 47) (.t 49)),none,237007022,[237007024]⟩ (.one ⟨(some 31),(.load false 1 (.t 30)),none,237007003,[237007021,237007022,237007024]⟩ (.one ⟨(some 36),(.load false 1 (.t 35)),none,237007008,[237007021,237007022,237007024]⟩ (.one ⟨(some 51),(.dy 1 (.t 31) (.t 36)),none,237007023,[237007024]⟩ (.one ⟨none,(.store 1 (.t 51) (.t 50)),none,237007024,[]⟩ (.dW false [])))))))))) (.one ⟨(some 50),(.append 1 (.t 47) (.t 49)),none,237007022,[237007024]⟩ (.one ⟨(some 31),(.load false 1 (.t 30)),none,237007003,[237007021,237007022,237007024]⟩ (.one ⟨(some 34),(.dy 3 (.t 32) (.t 33)),none,237007006,[237007021,237007022,237007024]⟩ (.one ⟨(some 35),(.fG 0 (.t 34)),none,237007007,[237007021,237007022,237007024]⟩ (.one ⟨(some 36),(.load false 1 (.t 35)),none,237007008,[237007021,237007022,237007024]⟩ (.one ⟨(some 51),(.dy 1 (.t 31) (.t 36)),none,237007023,[237007024]⟩ (.one ⟨none,(.store 1 (.t 51) (.t 50)),none,237007024,[]⟩ (.dW false [])))))))))))))))))))))))))))) (.one ⟨(some 52),(.cH (.t 5)),none,237008000,[237008021,237008022,237008024]⟩ (.one ⟨(some 53),(.zU (.t 52)),none,237008001,[237008021,237008022,237008024]⟩ (.one ⟨(some 54),(.fG 2 (.t 53)),none,237008002,[237008021,237008022,237008024]⟩ (.one ⟨(some 56),(.cH (.t 1)),none,237008004,[237008021,237008022,237008024]⟩ (.one ⟨(some 57),(.cH (.t 6)),none,237008005,[237008021,237008022,237008024]⟩ (.one ⟨(some 61),(.cH (.t 5)),none,237008009,[237008021,237008022,237008024]⟩ (.one ⟨(some 62),(.zU (.t 61)),none,237008010,[237008021,237008022,237008024]⟩ (.one ⟨(some 63),(.fG 2 (.t 62)),none,237008011,[237008021,237008022,237008024]⟩ (.one ⟨(some 64),(.load false 1 (.t 63)),none,237008012,[237008021,237008022,237008024]⟩ (.one ⟨(some 65),(.cH (.t 1)),none,237008013,[237008021,237008022,237008024]⟩ (.one ⟨(some 66),(.cH (.t 6)),none,237008014,[237008021,237008022,237008024]⟩ (.one ⟨(some 67),(.dy 3 (.t 65) (.t 66)),none,237008015,[237008021,237008022,237008024]⟩ (.one ⟨(some 68),(.fG 1 (.t 67)),none,237008016,[237008021,237008022,237008024]⟩ (.one ⟨(some 69),(.load false 1 (.t 68)),none,237008017,[237008021,237008022,237008024]⟩ (.one ⟨(some 70),(.dy 1 (.t 64) (.t 69)),none,237008018,[237008021,237008022,237008024]⟩ (.one ⟨(some 71),(.load false 1 (.t 70)),none,237008019,[237008021,237008022,237008024]⟩ (.one ⟨(some 72),(.cH (.t 6)),none,237008020,[237008021,237008022,237008024]⟩ (.one ⟨(some 73),(.kn 1 1 [(.t 72)]),none,237008021,[237008022,237008024]⟩ (.both (.one ⟨(some 55),(.load false 1 (.t 54)),none,237008003,[237008021,237008022,237008024]⟩ (.both (.one ⟨(some 58),(.dy 3 (.t 56) (.t 57)),none,237008006,[237008021,237008022,237008024]⟩ (.one ⟨(some 59),(.fG 1 (.t 58)),none,237008007,[237008021,237008022,237008024]⟩ (.both (.one ⟨(some 60),(.load false 1 (.t 59)),none,237008008,[237008021,237008022,237008024]⟩ (.one ⟨(some 74),(.append 1 (.t 71) (.t 73)),none,237008022,[237008024]⟩ (.one ⟨(some 75),(.dy 1 (.t 55) (.t 60)),none,237008023,[237008024]⟩ (.one ⟨none,(.store 1 (.t 75) (.t 74)),none,237008024,[]⟩ (.dW false []))))) (.one ⟨(some 74),(.append 1 (.t 71) (.t 73)),none,237008022,[237008024]⟩ (.one ⟨(some 60),(.load false 1 (.t 59)),none,237008008,[237008021,237008022,237008024]⟩ (.one ⟨(some 75),(.dy 1 (.t 55) (.t 60)),none,237008023,[237008024]⟩ (.one ⟨none,(.store 1 (.t 75) (.t 74)),none,237008024,[]⟩ (.dW false [])))))))) (.one ⟨(some 74),(.append 1 (.t 71) (.t 73)),none,237008022,[237008024]⟩ (.one ⟨(some 58),(.dy 3 (.t 56) (.t 57)),none,237008006,[237008021,237008022,237008024]⟩ (.one ⟨(some 59),(.fG 1 (.t 58)),none,237008007,[237008021,237008022,237008024]⟩ (.one ⟨(some 60),(.load false 1 (.t 59)),none,237008008,[237008021,237008022,237008024]⟩ (.one ⟨(some 75),(.dy 1 (.t 55) (.t 60)),none,237008023,[237008024]⟩ (.one ⟨none,(.store 1 (.t 75) (.t 74)),none,237008024,[]⟩ (.dW false []))))))))) (.both (.one ⟨(some 58),(.dy 3 (.t 56) (.t 57)),none,237008006,[237008021,237008022,237008024]⟩ (.one ⟨(some 59),(.fG 1 (.t 58)),none,237008007,[237008021,237008022,237008024]⟩ (.both (.one ⟨(some 55),(.load false 1 (.t 54)),none,237008003,[237008021,237008022,237008024]⟩ (.both (.one ⟨(some 60),(.load false 1 (.t 59)),none,237008008,[237008021,237008022,237008024]⟩ (.one ⟨(some 74),(.append 1 (.t 71) (.t 73)),none,237008022,[237008024]⟩ (.one ⟨(some 75),(.dy 1 (.t 55) (.t 60)),none,237008023,[237008024]⟩ (.one ⟨none,(.store 1 (.t 75) (.t 74)),none,237008024,[]⟩ (.dW false []))))) (.one ⟨(some 74),(.append 1 (.t 71) (.t 73)),none,237008022,[237008024]⟩ (.one ⟨(some 60),(.load false 1 (.t 59)),none,237008008,[237008021,237008022,237008024]⟩ (.one ⟨(some 75),(.dy 1 (.t 55) (.t 60)),none,237008023,[237008024]⟩ (.one ⟨none,(.store 1 (.t 75) (.t 74)),none,237008024,[]⟩ (.dW false []))))))) (.both (.one ⟨(some 60),(.load false 1 (.t 59)),none,237008008,[237008021,237008022,237008024]⟩ (.both (.one ⟨(some 55),(.load false 1 (.t 54)),none,237008003,[237008021,237008022,237008024]⟩ (.one ⟨(some 74),(.append 1 (.t 71) (.t 73)),none,237008022,[237008024]⟩ (.one ⟨(some 75),(.dy 1 (.t 55) (.t 60)),none,237008023,[237008024]⟩ (.one ⟨none,(.store 1 (.t 75) (.t 74)),none,237008024,[]⟩ (.dW false []))))) (.one ⟨(some 74),(.append 1 (.t 71) (.t 73)),none,237008022,[237008024]⟩ (.one ⟨(some 55),(.load false 1 (.t 54)),none,237008003,[237008021,237008022,237008024]⟩ (.one ⟨(some 75),(.dy 1 (.t 55) (.t 60)),none,237008023,[237008024]⟩ (.one ⟨none,(.store 1 (.t 75) (.t 74)),none,237008024,[]⟩ (.dW false []))))))) (.one ⟨(some 74),(.append 1 (.t 71) (.t 73)),none,237008022,[237008024]⟩ (.one ⟨(some 55),(.load false 1 (.t 54)),none,237008003,[237008021,237008022,237008024]⟩ (.one ⟨(some 60),(.load false 1 (.t 59)),none,237008008,[237008021,237008022,237008024]⟩ (.one ⟨(some 75),(.dy 1 (.t 55) (.t 60)),none,237008023,[237008024]⟩ (.one ⟨none,(.store 1 (.t 75) (.t 74)),none,237008024,[]⟩ (.dW false [])))))))))) (.one ⟨(some 74),(.append 1 (.t 71) (.t 73)),none,237008022,[237008024]⟩ (.one ⟨(some 55),(.load false 1 (.t 54)),none,237008003,[237008021,237008022,237008024]⟩ (.one ⟨(some 58),(.dy 3 (.t 56) (.t 57)),none,237008006,[237008021,237008022,237008024]⟩ (.one ⟨(some 59),(.fG 1 (.t 58)),none,237008007,[237008021,237008022,237008024]⟩ (.one ⟨(some 60),(.load false 1 (.t 59)),none,237008008,[237008021,237008022,237008024]⟩ (.one ⟨(some 75),(.dy 1 (.t 55) (.t 60)),none,237008023,[237008024]⟩ (.one ⟨none,(.store 1 (.t 75) (.t 74)),none,237008024,[]⟩ (.dW false [])))))))))))))))))))))))))))))) (.dW false [q 26 (.cH (.t 6)) 237006000,q 27 (.bin .add .i64 (.t 26) (.k (.int .i64 1))) 237006001,q 6 (.cH (.t 27)) 237006002])))))) (.seq (.dW false [q 76 (.cH (.t 5)) 237009000,q 4 (.cH (.t 76)) 237009001]) .ret)))))),[(.tmp 4)]⟩
theorem Mp:wK Tryz.prog 237 [(7,2),(8,2)]=some NY:=by kernel_rfl
def NZ:zT:=⟨118,2,(.seq (.dW false [q 4 (.cH (.k .cj)) 240000000]) (.seq (.dW false [q 17 (.cH (.t 0)) 240001000,q 18 (.jK [.gj] (.t 17) (.t 17)) 240001001,q 5 (.cH (.t 18)) 240001002]) (.seq (.seq (.dW false [q 19 (.cH (.t 5)) 240002000,q 20 (.len (.t 19)) 240002001,q 21 (.cH (.k (.int .i64 0))) 240002002]) (.block 0 (.loop (.seq (.dW false [q 22 (.bin .lss .i64 (.t 21) (.t 20)) 240003000]) (.seq (.cond (.t 22) .skip (.exit 0)) (.seq (.block 1 (.seq (.dW false [q 23 (.cH (.t 21)) 240004000,q 6 (.cH (.t 23)) 240004001]) (.dW false [q 24 (.cH (.t 5)) 240005000,q 25 (.cH (.t 6)) 240005001,q 26 (.cH (.t 6)) 240005002,q 27 (.build [.gj,(.int .i64 0)] [(1,(1,(.t 26)))]) 240005003,q 28 (.box (.t 27)) 240005004,q 29 (.dy 1 (.t 24) (.t 25)) 240005005,⟨none,(.store 1 (.t 29) (.t 28)),none,240005006,[]⟩]))) (.dW false [q 30 (.bin .add .i64 (.t 21) (.k (.int .i64 1))) 240006000,q 21 (.cH (.t 30)) 240006001]))))))) (.seq (.seq (.dW false [q 31 (.cH (.t 1)) 240007000,q 32 (.len (.t 31)) 240007001,q 33 (.cH (.k (.int .i64 0))) 240007002]) (.block 2 (.loop (.seq (.dW false [q 34 (.bin .lss .i64 (.t 33) (.t 32)) 240008000]) (.seq (.cond (.t 34) .skip (.exit 2)) (.seq (.block 3 (.seq (.dW false [q 35 (.dy 3 (.t 31) (.t 33)) 240009000,q 36 (.load true 3 (.t 35)) 240009001,q 8 (.new [(.int .i64 0),(.int .i64 0),(.int .i64 0)]) 240009002,⟨none,(.store 3 (.t 8) (.t 36)),none,240009003,[]⟩]) (.seq (.one (q 37 (.cH (.t 5)) 240010000) (.one (q 38 (.fG 0 (.t 8)) 240010001) (.one (q 39 (.load false 1 (.t 38)) 240010002) (.one (q 40 (.dy 1 (.t 37) (.t 39)) 240010003) (.one (q 41 (.load false 1 (.t 40)) 240010004) (.one (q 43 (.cH (.t 5)) 240010006) (.one (q 44 (.fG 1 (.t 8)) 240010007) (.both (.one (q 42 (.call 262 [(.t 41)]) 240010005) (.one (q 45 (.load false 1 (.t 44)) 240010008) (.one (q 46 (.dy 1 (.t 43) (.t 45)) 240010009) (.one (q 47 (.load false 1 (.t 46)) 240010010) (.one (q 48 (.call 262 [(.t 47)]) 240010011) (.one (q 9 (.cH (.t 42)) 240010012) (.one (q 10 (.cH (.t 48)) 240010013) (.dW false [])))))))) (.one (q 45 (.load false 1 (.t 44)) 240010008) (.both (.one (q 42 (.call 262 [(.t 41)]) 240010005) (.one (q 46 (.dy 1 (.t 43) (.t 45)) 240010009) (.one (q 47 (.load false 1 (.t 46)) 240010010) (.one (q 48 (.call 262 [(.t 47)]) 240010011) (.one (q 9 (.cH (.t 42)) 240010012) (.one (q 10 (.cH (.t 48)) 240010013) (.dW false []))))))) (.one (q 46 (.dy 1 (.t 43) (.t 45)) 240010009) (.both (.one (q 42 (.call 262 [(.t 41)]) 240010005) (.one (q 47 (.load false 1 (.t 46)) 240010010) (.one (q 48 (.call 262 [(.t 47)]) 240010011) (.one (q 9 (.cH (.t 42)) 240010012) (.one (q 10 (.cH (.t 48)) 240010013) (.dW false [])))))) (.one (q 47 (.load false 1 (.t 46)) 240010010) (.one (q 42 (.call 262 [(.t 41)]) 240010005) (.one (q 48 (.call 262 [(.t 47)]) 240010011) (.one (q 9 (.cH (.t 42)) 240010012) (.one (q 10 (.cH (.t 48)) 240010013) (.dW false [])))))))))))))))))) (.block 4 (.seq (.dW true [q 50 (.cH (.t 9)) 240011000,q 51 (.zU (.t 50)) 240011001,q 52 (.fG 1 (.t 51)) 240011002,q 53 (.load false 1 (.t 52)) 240011003,q 54 (.cH (.t 10)) 240011004,q 55 (.zU (.t 54)) 240011005,q 56 (.fG 1 (.t 55)) 240011006,q 57 (.load false 1 (.t 56)) 240011007,q 58 (.bin .lss .i64 (.t 53) (.t 57)) 240011008,q 49 (.cH (.t 58)) 240011009]) (.cond (.t 49) (.dW false [q 59 (.cH (.t 10)) 240012000,q 60 (.cH (.t 9)) 240012001,q 61 (.zU (.t 59)) 240012002,q 62 (.fG 0 (.t 61)) 240012003,⟨none,(.store 1 (.t 62) (.t 60)),none,240012004,[]⟩]) (.seq (.dW true [q 64 (.cH (.t 10)) 240013000,q 65 (.zU (.t 64)) 240013001,q 66 (.fG 1 (.t 65)) 240013002,q 67 (.load false 1 (.t 66)) 240013003,q 68 (.cH (.t 9)) 240013004,q 69 (.zU (.t 68)) 240013005,q 70 (.fG 1 (.t 69)) 240013006,q 71 (.load false 1 (.t 70)) 240013007,q 72 (.bin .lss .i64 (.t 67) (.t 71)) 240013008,q 63 (.cH (.t 72)) 240013009]) (.cond (.t 63) (.dW false [q 73 (.cH (.t 9)) 240014000,q 74 (.cH (.t 10)) 240014001,q 75 (.zU (.t 73)) 240014002,q 76 (.fG 0 (.t 75)) 240014003,⟨none,(.store 1 (.t 76) (.t 74)),none,240014004,[]⟩]) .skip)))))))) (.dW false [q 77 (.bin .add .i64 (.t 33) (.k (.int .i64 1))) 240015000,q 33 (.cH (.t 77)) 240015001]))))))) (.seq (.dW false [q 11 (.cH (.k .cj)) 240016000]) (.seq (.dW false [⟨(some 78),(.mq (.new ⟨false,[.tI]⟩) []),none,240017000,[]⟩,q 12 (.cH (.t 78)) 240017001]) (.seq (.seq (.dW false [q 79 (.cH (.t 5)) 240018000,q 80 (.len (.t 79)) 240018001,q 81 (.cH (.k (.int .i64 0))) 240018002]) (.block 5 (.loop (.seq (.dW false [q 82 (.bin .lss .i64 (.t 81) (.t 80)) 240019000]) (.seq (.cond (.t 82) .skip (.exit 5)) (.seq (.block 6 (.seq (.dW false [q 83 (.cH (.t 81)) 240020000,q 84 (.dy 1 (.t 79) (.t 81)) 240020001,q 85 (.load false 1 (.t 84)) 240020002,q 13 (.cH (.t 83)) 240020003,q 14 (.cH (.t 85)) 240020004]) (.seq (.dW false [q 87 (.cH (.t 12)) 240021000,q 88 (.cH (.t 14)) 240021001,q 89 (.call 262 [(.t 88)]) 240021002,q 90 (.zU (.t 89)) 240021003,q 91 (.fG 1 (.t 90)) 240021004,q 92 (.load false 1 (.t 91)) 240021005,⟨(some 93),(.mq (.look ⟨false,[.tI]⟩ true (.int .i64 0)) [(.t 87),(.t 92)]),none,240021006,[]⟩,q 86 (.cH (.t 93)) 240021007,q 94 (.extract 0 (.t 86)) 240021008,q 95 (.extract 1 (.t 86)) 240021009,q 15 (.cH (.t 94)) 240021010,q 16 (.cH (.t 95)) 240021011]) (.seq (.seq (.dW false [q 96 (.cH (.t 16)) 240022000,q 97 (.not (.t 96)) 240022001]) (.cond (.t 97) (.seq (.dW false [q 98 (.cH (.t 11)) 240023000,q 99 (.len (.t 98)) 240023001,q 15 (.cH (.t 99)) 240023002]) (.seq (.dW false [q 100 (.cH (.t 12)) 240024000,q 101 (.cH (.t 13)) 240024001,q 102 (.cH (.t 15)) 240024002,⟨none,(.mw (.set ⟨false,[.tI]⟩) [(.t 100),(.t 101),(.t 102)]),none,240024003,[]⟩]) (.dW false [q 103 (.cH (.t 11)) 240025000,q 104 (.kn 1 1 [(.k .cj)]) 240025001,q 105 (.append 1 (.t 103) (.t 104)) 240025002,q 11 (.cH (.t 105)) 240025003]))) .skip)) (.dW false [q 106 (.cH (.t 11)) 240026000,q 107 (.cH (.t 15)) 240026001,q 108 (.cH (.t 11)) 240026002,q 109 (.cH (.t 15)) 240026003,q 110 (.dy 1 (.t 108) (.t 109)) 240026004,q 111 (.load false 1 (.t 110)) 240026005,q 112 (.cH (.t 13)) 240026006,q 113 (.kn 1 1 [(.t 112)]) 240026007,q 114 (.append 1 (.t 111) (.t 113)) 240026008,q 115 (.dy 1 (.t 106) (.t 107)) 240026009,⟨none,(.store 1 (.t 115) (.t 114)),none,240026010,[]⟩]))))) (.dW false [q 116 (.bin .add .i64 (.t 81) (.k (.int .i64 1))) 240027000,q 81 (.cH (.t 116)) 240027001]))))))) (.seq (.dW false [q 117 (.cH (.t 11)) 240028000,q 4 (.cH (.t 117)) 240028001]) .ret)))))))),[(.tmp 4)]⟩
theorem Mq:wK Tryz.prog 240 [(10,2)]=some NZ:=by kernel_rfl
end Go.Proofs.YtgoelphibofcmaaGreat.V

namespace Go.Proofs.YtgoelphibofcmaaGreat.V
open Go.RowKit
attribute [local irreducible] dD wpOps gI Call
attribute [local go_sem] aK fW eU gE gy cE upd ck K.av cN AV.cells AV.cell rowOf rowsOf part ld rowAt bB bY dO ev iI bK db eI gr e8 dx eB cZ cY ea ec bQ aY cQ bP cU cR ez eC eA cP bV da ew bL aL cW cF iH bz cK bR aU dh aT dP AV.undef bF bG eh eu dX dY cI eH eK cD eE eD cV cX List.getD_cons_zero List.getD_cons_succ List.getD_nil List.all_cons List.all_nil Bool.and_true Bool.true_and Bool.and_self Bool.not_true Bool.not_false Option.map_some Option.map_none Option.bind_some Option.bind_none List.length_cons List.length_nil List.take_succ_cons List.take_zero List.take_nil List.drop_succ_cons List.drop_zero List.drop_nil List.head?_cons List.map_cons List.map_nil List.getElem?_cons_zero List.getElem?_cons_succ List.cons_append List.nil_append List.append_nil List.length_map List.set_cons_zero List.set_cons_succ Nat.reduceMul eq_self Int.toNat_natCast Int.natCast_nonneg and_self true_and and_true decide_true decide_false Bool.false_eq_true Nat.zero_add Nat.add_zero List.contains_cons List.contains_nil Bool.or_false Bool.false_or beq_self_eq_true Nat.reduceBEq ne_eq not_true_eq_false not_false_eq_true Id.mk.injEq false_and and_false Nat.reduceLT Int.reduceLE Int.reduceLT Int.reduceToNat Int.reduceNeg Int.reduceAdd Nat.le_refl List.length_append beq_true beq_false Bool.not_eq_eq_eq_not or_false false_or dQ aj aq aH bd bE cm aW bc aN bf cL bU
theorem AB (x:gO) (g:Rows):cG g 6 [.agg (bZ x)]=some [.agg (bZ x)]:=by simp[bZ,aj,aq,bc,bE,aH]
theorem AD (x:fe) (g:Rows):cG g 6 [.agg (bj x)]=some [.agg (bj x)]:=by simp[bj,aj,aq,bc,bE,cm]
theorem CD (x:ae) (g:Rows):cG g 6 [.agg (ad x)]=some [.agg (ad x)]:=by simp[ad,aj,aq,bc,aH]
theorem iu {n:Nat} {l:Int} (h:(n:Int)<=l):w7 n l=l-n:=if_pos h
theorem iz {n:Nat} {l:Int} (h:¬(n:Int)<=l):w7 n l= -1:=if_neg h
def lv (t:fe):Nat:=t.aD.size+t.bI.length
def wq (s:aw):Nat:=(s.aA.length+(s.aA.map fun g=>g.aD.size).sum)+(s.ah.length+(s.ah.map lv).sum)
def zN (s:aB):Nat:=wq s.aC+s.bh.ah.length
def fJ (s:aw):Prop:=(∀g∈s.aA,g.aD.size<=9223372036854775807)/\∀t∈s.ah,t.aD.size<=9223372036854775807
theorem IU (g:gO) (l:Int) (h0:0<=l) (h1:l<=1048576) (hs:g.aD.size<=9223372036854775807):ao Tryz.prog 154 [.agg (bZ g),.int .i64 l] (.int .i64 (w7 g.aD.size l)):=by
 refine ao.body eG rfl fun hl n0=>?_
 clear hl
 have hw:IntKind.i64.wrap (l-(g.aD.size:Int))=l-g.aD.size:=bp (by omega)
 by_cases hf:(g.aD.size:Int)<=l
 ·have jI:¬l-(g.aD.size:Int)<0:=by omega
  (try((repeat(revert hN;revert N;apply Pn.out));refine wk (tw @bZ.eq_1 (tw @hw @jI)) ?_;(repeat(refine Pn.mk ?_;intro N hN))))
  exact bx (b:=l-(g.aD.size:Int)) (.inl rfl) (sd @Nat.zero_add) (iu hf).symm
 ·have jI:l-(g.aD.size:Int)<0:=by omega
  (try((repeat(revert hN;revert N;apply Pn.out));refine wk (tw @bZ.eq_1 (tw @hw @jI)) ?_;(repeat(refine Pn.mk ?_;intro N hN))))
  exact bx (b:=-1) (.inl rfl) (sd @Nat.zero_add) (iz hf).symm
theorem IV (xs:List Int) (l:Int) (h0:0<=l) (h1:l<=1048576):ao Tryz.prog 188 [.sl (xs.map bq),.int .i64 l] (.int .i64 (w7 xs.length l)):=by
 have h:=IX (show ns Tryz.prog 188=some (IW 188) by kernel_rfl) (xs.map bq) l h0 h1
 rwa [List.length_map]at h
theorem I0 (t:fe) (l:Int) (h0:0<=l) (h1:l<=1048576) (hs:t.aD.size<=9223372036854775807):ao Tryz.prog 155 [.agg (bj t),.int .i64 l] (.int .i64 (w7 (lv t) l)):=by
 refine ao.body eG rfl fun hl n0=>?_
 clear hl
 have hw:IntKind.i64.wrap (l-(t.aD.size:Int))=l-t.aD.size:=bp (by omega)
 by_cases hf:(t.aD.size:Int)<=l
 ·have jI:¬l-(t.aD.size:Int)<0:=by omega
  have hc:=IV t.bI (l-t.aD.size) (by omega) (by omega)
  by_cases hg:(t.bI.length:Int)<=l-t.aD.size
  ·rw[iu hg]at hc
   have yQ:¬l-(t.aD.size:Int)-(t.bI.length:Int)<0:=by omega
   (repeat(first|((repeat(revert hN;revert N;apply Pn.out));refine wk (tw @bj.eq_1 (tw @hw (tw @jI @yQ))) ?_;(repeat(refine Pn.mk ?_;intro N hN)))|((try apply Or.inl);refine⟨_,ao.x (hc) (sd (tw @bj.eq_1 (tw @hw (tw @jI @yQ)))),?_⟩;refine hN _ _ ?_;clear hN N)))
   exact bx (b:=l-(t.aD.size:Int)-(t.bI.length:Int)) (.inl rfl) (sd @Nat.zero_add) (by rw[iu (by unfold lv;omega)];unfold lv;omega)
  ·rw[iz hg]at hc
   (repeat(first|((repeat(revert hN;revert N;apply Pn.out));refine wk (tw @bj.eq_1 (tw @hw @jI)) ?_;(repeat(refine Pn.mk ?_;intro N hN)))|((try apply Or.inl);refine⟨_,ao.x (hc) (sd (tw @bj.eq_1 (tw @hw @jI))),?_⟩;refine hN _ _ ?_;clear hN N)))
   exact bx (b:=-1) (.inl rfl) (sd @Nat.zero_add) (iz (by unfold lv;omega)).symm
 ·have jI:l-(t.aD.size:Int)<0:=by omega
  (try((repeat(revert hN;revert N;apply Pn.out));refine wk (tw @bj.eq_1 (tw @hw @jI)) ?_;(repeat(refine Pn.mk ?_;intro N hN))))
  exact bx (b:=-1) (.inl rfl) (sd @Nat.zero_add) (iz (by unfold lv;omega)).symm
theorem Gi (xs:List gO) (l:Int) (h0:0<=l) (h1:l<=1048576) (hs:∀g∈xs,g.aD.size<=9223372036854775807):ao Tryz.prog 94 [.sl (xs.map bZ),.int .i64 l] (.int .i64 (w7 (xs.length+(xs.map fun g=>g.aD.size).sum) l)):=
 IZ (fun g:gO=>g.aD.size) (show ns Tryz.prog 94=some (IY 94 154 2) by kernel_rfl) (fun _=>rfl) AB xs l h0 h1 fun x hx l a b=>IU x l a b (hs x hx)
theorem Gj (xs:List fe) (l:Int) (h0:0<=l) (h1:l<=1048576) (hs:∀t∈xs,t.aD.size<=9223372036854775807):ao Tryz.prog 95 [.sl (xs.map bj),.int .i64 l] (.int .i64 (w7 (xs.length+(xs.map lv).sum) l)):=
 IZ lv (show ns Tryz.prog 95=some (IY 95 155 2) by kernel_rfl) (fun _=>rfl) AD xs l h0 h1 fun x hx l a b=>I0 x l a b (hs x hx)
theorem DF (xs:List ae) (l:Int) (h0:0<=l) (h1:l<=1048576):ao Tryz.prog 57 [.sl (xs.map ad),.int .i64 l] (.int .i64 (w7 xs.length l)):=by
 have h:=IX (show ns Tryz.prog 57=some (IW 57) by kernel_rfl) (xs.map ad) l h0 h1
 rwa [List.length_map]at h
theorem BC (s:aw) (l:Int) (h0:0<=l) (h1:l<=1048576) (hs:fJ s):ao Tryz.prog 56 [.agg (ab s),.int .i64 l] (.int .i64 (w7 (wq s) l)):=by
 refine ao.body eG rfl fun hl n0=>?_
 clear hl
 have ha:=Gi s.aA l h0 h1 hs.1
 have he:wq s=(s.aA.length+(s.aA.map fun g=>g.aD.size).sum)+(s.ah.length+(s.ah.map lv).sum):=rfl
 by_cases hf:((s.aA.length+(s.aA.map fun g=>g.aD.size).sum:Nat):Int)<=l
 ·rw[iu hf]at ha
  obtain⟨A,hA⟩:∃A:Int,A=l-((s.aA.length+(s.aA.map fun g=>g.aD.size).sum:Nat):Int):=⟨_,rfl⟩
  rw[<-hA]at ha
  have jI:¬A<0:=by omega
  have hb:=Gj s.ah A (by omega) (by omega) hs.2
  by_cases hg:((s.ah.length+(s.ah.map lv).sum:Nat):Int)<=A
  ·rw[iu hg]at hb
   obtain⟨B,hB⟩:∃B:Int,B=A-((s.ah.length+(s.ah.map lv).sum:Nat):Int):=⟨_,rfl⟩
   rw[<-hB]at hb
   have yQ:¬B<0:=by omega
   (repeat(first|((repeat(revert hN;revert N;apply Pn.out));refine wk (tw @ab.eq_1 (tw @jI @yQ)) ?_;(repeat(refine Pn.mk ?_;intro N hN)))|((try apply Or.inl);refine⟨_,ao.x (ha) (sd (tw @ab.eq_1 (tw @jI @yQ))),?_⟩;refine hN _ _ ?_;clear hN N)|((try apply Or.inl);refine⟨_,ao.x (hb) (sd (tw @ab.eq_1 (tw @jI @yQ))),?_⟩;refine hN _ _ ?_;clear hN N)))
   exact bx (b:=B) (.inl rfl) (sd @Nat.zero_add) (by rw[iu (by omega)];omega)
  ·rw[iz hg]at hb
   (repeat(first|((repeat(revert hN;revert N;apply Pn.out));refine wk (tw @ab.eq_1 @jI) ?_;(repeat(refine Pn.mk ?_;intro N hN)))|((try apply Or.inl);refine⟨_,ao.x (ha) (sd (tw @ab.eq_1 @jI)),?_⟩;refine hN _ _ ?_;clear hN N)|((try apply Or.inl);refine⟨_,ao.x (hb) (sd (tw @ab.eq_1 @jI)),?_⟩;refine hN _ _ ?_;clear hN N)))
   exact bx (b:=-1) (.inl rfl) (sd @Nat.zero_add) (iz (by omega)).symm
 ·rw[iz hf]at ha
  (repeat(first|((repeat(revert hN;revert N;apply Pn.out));refine wk @ab.eq_1 ?_;(repeat(refine Pn.mk ?_;intro N hN)))|((try apply Or.inl);refine⟨_,ao.x (ha) (sd @ab.eq_1),?_⟩;refine hN _ _ ?_;clear hN N)))
  exact bx (b:=-1) (.inl rfl) (sd @Nat.zero_add) (iz (by omega)).symm
theorem q9 (a:eQ) (l:Int) (h0:0<=l) (h1:l<=1048576):ao Tryz.prog 15 [.agg (aS a),.int .i64 l] (.int .i64 (w7 a.ah.length l)):=by
 refine ao.body eG rfl fun hl n0=>?_
 clear hl
 have ha:=DF a.ah l h0 h1
 by_cases hf:(a.ah.length:Int)<=l
 ·rw[iu hf]at ha
  have jI:¬l-(a.ah.length:Int)<0:=by omega
  (repeat(first|((repeat(revert hN;revert N;apply Pn.out));refine wk (tw @aS.eq_1 @jI) ?_;(repeat(refine Pn.mk ?_;intro N hN)))|((try apply Or.inl);refine⟨_,ao.x (ha) (sd (tw @aS.eq_1 @jI)),?_⟩;refine hN _ _ ?_;clear hN N)))
  exact bx (b:=l-(a.ah.length:Int)) (.inl rfl) (sd @Nat.zero_add) (iu hf).symm
 ·rw[iz hf]at ha
  (repeat(first|((repeat(revert hN;revert N;apply Pn.out));refine wk @aS.eq_1 ?_;(repeat(refine Pn.mk ?_;intro N hN)))|((try apply Or.inl);refine⟨_,ao.x (ha) (sd @aS.eq_1),?_⟩;refine hN _ _ ?_;clear hN N)))
  exact bx (b:=-1) (.inl rfl) (sd @Nat.zero_add) (iz hf).symm
theorem DG (s:aB) (l:Int) (h0:0<=l) (h1:l<=1048576) (hs:fJ s.aC):ao Tryz.prog 14 [.agg (au s),.int .i64 l] (.int .i64 (w7 (zN s) l)):=by
 refine ao.body eG rfl fun hl n0=>?_
 clear hl
 have ha:=BC s.aC l h0 h1 hs
 rw[ab]at ha
 have he:zN s=wq s.aC+s.bh.ah.length:=rfl
 by_cases hf:(wq s.aC:Int)<=l
 ·rw[iu hf]at ha
  have jI:¬l-(wq s.aC:Int)<0:=by omega
  have hb:=q9 s.bh (l-wq s.aC) (by omega) (by omega)
  rw[aS]at hb
  by_cases hg:(s.bh.ah.length:Int)<=l-wq s.aC
  ·rw[iu hg]at hb
   have yQ:¬l-(wq s.aC:Int)-(s.bh.ah.length:Int)<0:=by omega
   (repeat(first|((repeat(revert hN;revert N;apply Pn.out));refine wk (tw @au.eq_1 (tw @jI @yQ)) ?_;(repeat(refine Pn.mk ?_;intro N hN)))|((try apply Or.inl);refine⟨_,ao.x (ha) (sd (tw @au.eq_1 (tw @jI @yQ))),?_⟩;refine hN _ _ ?_;clear hN N)|((try apply Or.inl);refine⟨_,ao.x (hb) (sd (tw @au.eq_1 (tw @jI @yQ))),?_⟩;refine hN _ _ ?_;clear hN N)))
   exact bx (b:=l-(wq s.aC:Int)-(s.bh.ah.length:Int)) (.inl rfl) (sd @Nat.zero_add) (by rw[iu (by omega)];omega)
  ·rw[iz hg]at hb
   (repeat(first|((repeat(revert hN;revert N;apply Pn.out));refine wk (tw @au.eq_1 @jI) ?_;(repeat(refine Pn.mk ?_;intro N hN)))|((try apply Or.inl);refine⟨_,ao.x (ha) (sd (tw @au.eq_1 @jI)),?_⟩;refine hN _ _ ?_;clear hN N)|((try apply Or.inl);refine⟨_,ao.x (hb) (sd (tw @au.eq_1 @jI)),?_⟩;refine hN _ _ ?_;clear hN N)))
   exact bx (b:=-1) (.inl rfl) (sd @Nat.zero_add) (iz (by omega)).symm
 ·rw[iz hf]at ha
  (repeat(first|((repeat(revert hN;revert N;apply Pn.out));refine wk @au.eq_1 ?_;(repeat(refine Pn.mk ?_;intro N hN)))|((try apply Or.inl);refine⟨_,ao.x (ha) (sd @au.eq_1),?_⟩;refine hN _ _ ?_;clear hN N)))
  exact bx (b:=-1) (.inl rfl) (sd @Nat.zero_add) (iz (by omega)).symm
end Go.Proofs.YtgoelphibofcmaaGreat.V

namespace Go.Proofs.YtgoelphibofcmaaGreat.V
open Go.RowKit
attribute [local irreducible] dD wpOps gI Call
attribute [local go_sem] aK fW eU gE gy cE upd ck K.av cN AV.cells AV.cell rowOf rowsOf part ld rowAt bB bY dO ev iI bK db eI gr e8 dx eB cZ cY ea ec bQ aY cQ bP cU cR ez eC eA cP bV da ew bL aL cW cF iH bz cK bR aU dh aT dP AV.undef bF bG eh eu dX dY cI eH eK cD eE eD cV cX List.getD_cons_zero List.getD_cons_succ List.getD_nil List.all_cons List.all_nil Bool.and_true Bool.true_and Bool.and_self Bool.not_true Bool.not_false Option.map_some Option.map_none Option.bind_some Option.bind_none List.length_cons List.length_nil List.take_succ_cons List.take_zero List.take_nil List.drop_succ_cons List.drop_zero List.drop_nil List.head?_cons List.map_cons List.map_nil List.getElem?_cons_zero List.getElem?_cons_succ List.cons_append List.nil_append List.append_nil List.length_map List.set_cons_zero List.set_cons_succ Nat.reduceMul eq_self Int.toNat_natCast Int.natCast_nonneg and_self true_and and_true decide_true decide_false Bool.false_eq_true Nat.zero_add Nat.add_zero List.contains_cons List.contains_nil Bool.or_false Bool.false_or beq_self_eq_true Nat.reduceBEq ne_eq not_true_eq_false not_false_eq_true Id.mk.injEq false_and and_false Nat.reduceLT Int.reduceLE Int.reduceLT Int.reduceToNat Int.reduceNeg Int.reduceAdd Nat.le_refl List.length_append beq_true beq_false Bool.not_eq_eq_eq_not or_false false_or dQ aj aq aH bd bE cm aW bc aN bf cL bU
theorem KS (x:gO) (g:Rows):cG g 5 (bZ x)=some (bZ x):=by simp[bZ,aj,aq,bE,aH]
theorem KT (x:fe) (g:Rows):cG g 5 (bj x)=some (bj x):=by simp[bj,aj,aq,bE,cm]
theorem F5 (x:ae) (g:Rows):cG g 5 (ad x)=some (ad x):=by simp[ad,aj,aq,aH]
theorem Gq (p:ai):l7 Tryz.prog 82 [.agg (aa p)] (.agg (aa p)):=by
 refine l7.body eG rfl fun hl σ=>?_
 clear hl
 (try((repeat(revert hN;revert N;apply Pn.out));refine wk @aa.eq_1 ?_;(repeat(refine Pn.mk ?_;intro N hN))))
 exact Dm (.inl rfl) (vs:=[.agg (aa p)]) (by simp only[go_sem, ↓reduceIte,Nat.reduceEqDiff,Nat.reduceAdd,Nat.reduceSub,Nat.reduceLeDiff,reduceCtorEq,e5,gV,aa]) (by simp[eT,aa,bc,aj,aq,aH])
theorem DI (p:ae):l7 Tryz.prog 104 [.agg (ad p)] (.agg (ad p)):=by
 refine l7.body eG rfl fun hl σ=>?_
 clear hl
 have h:=Gq p.aF
 rw[aa]at h
 (repeat(first|((repeat(revert hN;revert N;apply Pn.out));refine wk @ad.eq_1 ?_;(repeat(refine Pn.mk ?_;intro N hN)))|((try apply Or.inl);refine⟨_,l7.x (h) _,?_⟩;refine hN _ _ ?_;clear hN N)))
 exact Dm (.inl rfl) (vs:=[.agg (ad p)]) (by simp only[go_sem, ↓reduceIte,Nat.reduceEqDiff,Nat.reduceAdd,Nat.reduceSub,Nat.reduceLeDiff,reduceCtorEq,e5,gV,ad]) (by simp[eT,ad,bc,aj,aq,aH])
theorem I6 (p:gO):l7 Tryz.prog 161 [.agg (bZ p)] (.agg (bZ p)):=by
 refine l7.body eG rfl fun hl σ=>?_
 clear hl
 (try((repeat(revert hN;revert N;apply Pn.out));refine wk @bZ.eq_1 ?_;(repeat(refine Pn.mk ?_;intro N hN))))
 exact Dm (.inl rfl) (vs:=[.agg (bZ p)]) (by simp only[go_sem, ↓reduceIte,Nat.reduceEqDiff,Nat.reduceAdd,Nat.reduceSub,Nat.reduceLeDiff,reduceCtorEq,e5,gV,bZ]) (by simp[eT,bZ,bc,aj,aq,aH,bE])
theorem I7 (xs:List Int) (h:xs.length<=1048576):l7 Tryz.prog 195 [.sl (xs.map bq)] (.sl (xs.map bq)):=
 Qv (show ns Tryz.prog 195=some (L1 195 (.int .i64 0)) by kernel_rfl) xs h
def ym (t:fe):Prop:=t.bI.length<=1048576
theorem I8 (p:fe) (hs:ym p):l7 Tryz.prog 162 [.agg (bj p)] (.agg (bj p)):=by
 refine l7.body eG rfl fun hl σ=>?_
 clear hl
 have h:=I7 p.bI hs
 (repeat(first|((repeat(revert hN;revert N;apply Pn.out));refine wk @bj.eq_1 ?_;(repeat(refine Pn.mk ?_;intro N hN)))|((try apply Or.inl);refine⟨_,l7.x (h) _,?_⟩;refine hN _ _ ?_;clear hN N)))
 exact Dm (.inl rfl) (vs:=[.agg (bj p)]) (by simp only[go_sem, ↓reduceIte,Nat.reduceEqDiff,Nat.reduceAdd,Nat.reduceSub,Nat.reduceLeDiff,reduceCtorEq,e5,gV,bj]) (by simp[eT,bj,bc,aj,aq,cm,bE])
theorem Ht (xs ys:List Int):ao Tryz.prog 30 [.sl (xs.map bq),.sl (ys.map bq)] (.bool (decide (xs=ys))):=
 Pe (show ns Tryz.prog 30=some (Ls 30 .tI) by kernel_rfl) xs ys
theorem Hu (a b:fe):ao Tryz.prog 170 [.agg (bj a),.agg (bj b)] (.bool (decide (a=b))):=by
 refine ao.body eG rfl fun hl n0=>?_
 clear hl
 have h:=Ht a.bI b.bI
 by_cases h1:a.aD=b.aD
 ·have e1:decide (a.aD=b.aD)=true:=decide_eq_true h1
  by_cases h2:a.bI=b.bI
  ·rw[decide_eq_true h2]at h
   (repeat(first|((repeat(revert hN;revert N;apply Pn.out));refine wk (tw @bj.eq_1 @e1) ?_;(repeat(refine Pn.mk ?_;intro N hN)))|((try apply Or.inl);refine⟨_,ao.x (h) (sd (tw @bj.eq_1 @e1)),?_⟩;refine hN _ _ ?_;clear hN N)))
   exact aI (b:=true) (.inl rfl) (sd @Nat.zero_add) (decide_eq_true (by cases a;cases b;simp_all)).symm
  ·rw[decide_eq_false h2]at h
   (repeat(first|((repeat(revert hN;revert N;apply Pn.out));refine wk (tw @bj.eq_1 @e1) ?_;(repeat(refine Pn.mk ?_;intro N hN)))|((try apply Or.inl);refine⟨_,ao.x (h) (sd (tw @bj.eq_1 @e1)),?_⟩;refine hN _ _ ?_;clear hN N)))
   exact aI (b:=false) (.inl rfl) (sd @Nat.zero_add) (decide_eq_false (by rintro rfl;exact h2 rfl)).symm
 ·have e1:decide (a.aD=b.aD)=false:=decide_eq_false h1
  (try((repeat(revert hN;revert N;apply Pn.out));refine wk (tw @bj.eq_1 @e1) ?_;(repeat(refine Pn.mk ?_;intro N hN))))
  exact aI (b:=false) (.inl rfl) (sd @Nat.zero_add) (decide_eq_false (by rintro rfl;exact h1 rfl)).symm
theorem Gp (xs:List gO) (h:xs.length<=1048576):l7 Tryz.prog 102 [.sl (xs.map bZ)] (.sl (xs.map bZ)):=
 DJ (show ns Tryz.prog 102=some (EL 102 161 2 [.str [],.int .i64 0]) by kernel_rfl) rfl (fun _=>rfl) (fun _=>rfl) KS xs h fun x _=>I6 x
theorem Gr (xs:List fe) (h:xs.length<=1048576) (hs:∀t∈xs,ym t):l7 Tryz.prog 103 [.sl (xs.map bj)] (.sl (xs.map bj)):=
 DJ (show ns Tryz.prog 103=some (EL 103 162 2 [.str [],.cj]) by kernel_rfl) rfl (fun _=>rfl) (fun _=>rfl) KT xs h fun x hx=>I8 x (hs x hx)
theorem BF (xs:List ae) (h:xs.length<=1048576):l7 Tryz.prog 62 [.sl (xs.map ad)] (.sl (xs.map ad)):=
 DJ (show ns Tryz.prog 62=some (EL 62 104 3 [.int .i64 0,.int .i64 0,.int .i64 0]) by kernel_rfl) rfl (fun _=>rfl) (fun _=>rfl) F5 xs h fun x _=>DI x
structure Ln (s:aw):Prop where
 g:s.aA.length<=1048576
 t:s.ah.length<=1048576
 s:∀t∈s.ah,ym t
structure uf (y:aB):Prop where
 s:Ln y.aC
 a:y.bh.ah.length<=1048576
theorem BG (p:aw) (hs:Ln p):l7 Tryz.prog 61 [.agg (ab p)] (.agg (ab p)):=by
 refine l7.body eG rfl fun hl σ=>?_
 clear hl
 have h1:=Gp p.aA hs.g
 have h2:=Gr p.ah hs.t hs.s
 (repeat(first|((repeat(revert hN;revert N;apply Pn.out));refine wk @ab.eq_1 ?_;(repeat(refine Pn.mk ?_;intro N hN)))|((try apply Or.inl);refine⟨_,l7.x (h1) _,?_⟩;refine hN _ _ ?_;clear hN N)|((try apply Or.inl);refine⟨_,l7.x (h2) _,?_⟩;refine hN _ _ ?_;clear hN N)))
 exact Dm (.inl rfl) (vs:=[.agg (ab p)]) (by simp only[go_sem, ↓reduceIte,Nat.reduceEqDiff,Nat.reduceAdd,Nat.reduceSub,Nat.reduceLeDiff,reduceCtorEq,e5,gV,ab]) (by simp[eT,ab,bc,aj,aq,cm])
theorem rh (p:eQ) (hs:p.ah.length<=1048576):l7 Tryz.prog 18 [.agg (aS p)] (.agg (aS p)):=by
 refine l7.body eG rfl fun hl σ=>?_
 clear hl
 have h1:=BF p.ah hs
 (repeat(first|((repeat(revert hN;revert N;apply Pn.out));refine wk @aS.eq_1 ?_;(repeat(refine Pn.mk ?_;intro N hN)))|((try apply Or.inl);refine⟨_,l7.x (h1) _,?_⟩;refine hN _ _ ?_;clear hN N)))
 exact Dm (.inl rfl) (vs:=[.agg (aS p)]) (by simp only[go_sem, ↓reduceIte,Nat.reduceEqDiff,Nat.reduceAdd,Nat.reduceSub,Nat.reduceLeDiff,reduceCtorEq,e5,gV,aS]) (by simp[eT,aS,bc,aj,aq,cm])
theorem DK (p:aB) (hs:uf p):l7 Tryz.prog 17 [.agg (au p)] (.agg (au p)):=by
 refine l7.body eG rfl fun hl σ=>?_
 clear hl
 have h1:=BG p.aC hs.s
 have h2:=rh p.bh hs.a
 rw[ab]at h1
 rw[aS]at h2
 (repeat(first|((repeat(revert hN;revert N;apply Pn.out));refine wk @au.eq_1 ?_;(repeat(refine Pn.mk ?_;intro N hN)))|((try apply Or.inl);refine⟨_,l7.x (h1) _,?_⟩;refine hN _ _ ?_;clear hN N)|((try apply Or.inl);refine⟨_,l7.x (h2) _,?_⟩;refine hN _ _ ?_;clear hN N)))
 exact Dm (.inl rfl) (vs:=[.agg (au p)]) (by simp only[go_sem, ↓reduceIte,Nat.reduceEqDiff,Nat.reduceAdd,Nat.reduceSub,Nat.reduceLeDiff,reduceCtorEq,e5,gV,au]) (by simp[eT,au,bc,aj,aq,cm,aH])
theorem Hs (a b:gO):ao Tryz.prog 169 [.agg (bZ a),.agg (bZ b)] (.bool (decide (a=b))):=by
 refine ao.body eG rfl fun hl n0=>?_
 clear hl
 by_cases h1:a.aD=b.aD
 ·have e1:decide (a.aD=b.aD)=true:=decide_eq_true h1
  by_cases h2:a.ef=b.ef
  ·have e2:decide (a.ef=b.ef)=true:=decide_eq_true h2
   (try((repeat(revert hN;revert N;apply Pn.out));refine wk (tw @bZ.eq_1 (tw @e1 @e2)) ?_;(repeat(refine Pn.mk ?_;intro N hN))))
   exact aI (b:=true) (.inl rfl) (sd @Nat.zero_add) (decide_eq_true (by cases a;cases b;simp_all)).symm
  ·have e2:decide (a.ef=b.ef)=false:=decide_eq_false h2
   (try((repeat(revert hN;revert N;apply Pn.out));refine wk (tw @bZ.eq_1 (tw @e1 @e2)) ?_;(repeat(refine Pn.mk ?_;intro N hN))))
   exact aI (b:=false) (.inl rfl) (sd @Nat.zero_add) (decide_eq_false (by rintro rfl;exact h2 rfl)).symm
 ·have e1:decide (a.aD=b.aD)=false:=decide_eq_false h1
  (try((repeat(revert hN;revert N;apply Pn.out));refine wk (tw @bZ.eq_1 @e1) ?_;(repeat(refine Pn.mk ?_;intro N hN))))
  exact aI (b:=false) (.inl rfl) (sd @Nat.zero_add) (decide_eq_false (by rintro rfl;exact h1 rfl)).symm
theorem xr (a b:ai):ao Tryz.prog 29 [.agg (aa a),.agg (aa b)] (.bool (decide (a=b))):=by
 refine ao.body eG rfl fun hl n0=>?_
 clear hl
 by_cases h1:a.eM=b.eM
 ·have e1:decide (a.eM=b.eM)=true:=decide_eq_true h1
  by_cases h2:a.ep=b.ep
  ·have e2:decide (a.ep=b.ep)=true:=decide_eq_true h2
   (try((repeat(revert hN;revert N;apply Pn.out));refine wk (tw @aa.eq_1 (tw @e1 @e2)) ?_;(repeat(refine Pn.mk ?_;intro N hN))))
   exact aI (b:=true) (.inl rfl) (sd @Nat.zero_add) (decide_eq_true (by cases a;cases b;simp_all)).symm
  ·have e2:decide (a.ep=b.ep)=false:=decide_eq_false h2
   (try((repeat(revert hN;revert N;apply Pn.out));refine wk (tw @aa.eq_1 (tw @e1 @e2)) ?_;(repeat(refine Pn.mk ?_;intro N hN))))
   exact aI (b:=false) (.inl rfl) (sd @Nat.zero_add) (decide_eq_false (by rintro rfl;exact h2 rfl)).symm
 ·have e1:decide (a.eM=b.eM)=false:=decide_eq_false h1
  (try((repeat(revert hN;revert N;apply Pn.out));refine wk (tw @aa.eq_1 @e1) ?_;(repeat(refine Pn.mk ?_;intro N hN))))
  exact aI (b:=false) (.inl rfl) (sd @Nat.zero_add) (decide_eq_false (by rintro rfl;exact h1 rfl)).symm
theorem Co (a b:ae):ao Tryz.prog 110 [.agg (ad a),.agg (ad b)] (.bool (decide (a=b))):=by
 refine ao.body eG rfl fun hl n0=>?_
 clear hl
 have h:=xr a.aF b.aF
 rw[aa,aa]at h
 by_cases h1:a.aF=b.aF
 ·rw[decide_eq_true h1]at h
  by_cases h2:a.aQ=b.aQ
  ·have e2:decide (a.aQ=b.aQ)=true:=decide_eq_true h2
   (repeat(first|((repeat(revert hN;revert N;apply Pn.out));refine wk (tw @ad.eq_1 @e2) ?_;(repeat(refine Pn.mk ?_;intro N hN)))|((try apply Or.inl);refine⟨_,ao.x (h) (sd (tw @ad.eq_1 @e2)),?_⟩;refine hN _ _ ?_;clear hN N)))
   exact aI (b:=true) (.inl rfl) (sd @Nat.zero_add) (decide_eq_true (by cases a;cases b;simp_all)).symm
  ·have e2:decide (a.aQ=b.aQ)=false:=decide_eq_false h2
   (repeat(first|((repeat(revert hN;revert N;apply Pn.out));refine wk (tw @ad.eq_1 @e2) ?_;(repeat(refine Pn.mk ?_;intro N hN)))|((try apply Or.inl);refine⟨_,ao.x (h) (sd (tw @ad.eq_1 @e2)),?_⟩;refine hN _ _ ?_;clear hN N)))
   exact aI (b:=false) (.inl rfl) (sd @Nat.zero_add) (decide_eq_false (by rintro rfl;exact h2 rfl)).symm
 ·rw[decide_eq_false h1]at h
  (repeat(first|((repeat(revert hN;revert N;apply Pn.out));refine wk @ad.eq_1 ?_;(repeat(refine Pn.mk ?_;intro N hN)))|((try apply Or.inl);refine⟨_,ao.x (h) (sd @ad.eq_1),?_⟩;refine hN _ _ ?_;clear hN N)))
  exact aI (b:=false) (.inl rfl) (sd @Nat.zero_add) (decide_eq_false (by rintro rfl;exact h1 rfl)).symm
theorem Fk (xs ys:List gO):ao Tryz.prog 108 [.sl (xs.map bZ),.sl (ys.map bZ)] (.bool (decide (xs=ys))):=
 Cp (show ns Tryz.prog 108=some (Ec 108 169 2) by kernel_rfl) (fun _=>rfl) AB xs ys Hs
theorem Fm (xs ys:List fe):ao Tryz.prog 109 [.sl (xs.map bj),.sl (ys.map bj)] (.bool (decide (xs=ys))):=
 Cp (show ns Tryz.prog 109=some (Ec 109 170 2) by kernel_rfl) (fun _=>rfl) AD xs ys Hu
theorem sG (xs ys:List ae):ao Tryz.prog 66 [.sl (xs.map ad),.sl (ys.map ad)] (.bool (decide (xs=ys))):=
 Cp (show ns Tryz.prog 66=some (Ec 66 110 3) by kernel_rfl) (fun _=>rfl) CD xs ys Co
theorem Cq (a:aB):ao Tryz.prog 20 [.agg (au a),.agg (au a)] (.bool true):=by
 have q1:ao Tryz.prog 65 [.agg (ab a.aC),.agg (ab a.aC)] (.bool true):=by
  refine ao.body eG rfl fun hl n0=>?_
  clear hl
  have h1:=Fk a.aC.aA a.aC.aA
  have h2:=Fm a.aC.ah a.aC.ah
  rw[decide_eq_true rfl]at h1 h2
  (repeat(first|((repeat(revert hN;revert N;apply Pn.out));refine wk @ab.eq_1 ?_;(repeat(refine Pn.mk ?_;intro N hN)))|((try apply Or.inl);refine⟨_,ao.x (h1) (sd @ab.eq_1),?_⟩;refine hN _ _ ?_;clear hN N)|((try apply Or.inl);refine⟨_,ao.x (h2) (sd @ab.eq_1),?_⟩;refine hN _ _ ?_;clear hN N)))
  exact aI (b:=true) (.inl rfl) (sd @Nat.zero_add) rfl
 have q2:ao Tryz.prog 21 [.agg (aS a.bh),.agg (aS a.bh)] (.bool true):=by
  refine ao.body eG rfl fun hl n0=>?_
  clear hl
  have h1:=sG a.bh.ah a.bh.ah
  rw[decide_eq_true rfl]at h1
  (repeat(first|((repeat(revert hN;revert N;apply Pn.out));refine wk @aS.eq_1 ?_;(repeat(refine Pn.mk ?_;intro N hN)))|((try apply Or.inl);refine⟨_,ao.x (h1) (sd @aS.eq_1),?_⟩;refine hN _ _ ?_;clear hN N)))
  exact aI (b:=true) (.inl rfl) (sd @Nat.zero_add) rfl
 rw[ab]at q1
 rw[aS]at q2
 refine ao.body eG rfl fun hl n0=>?_
 clear hl
 have e:decide (a.az=a.az)=true:=decide_eq_true rfl
 (repeat(first|((repeat(revert hN;revert N;apply Pn.out));refine wk (tw @au.eq_1 @e) ?_;(repeat(refine Pn.mk ?_;intro N hN)))|((try apply Or.inl);refine⟨_,ao.x (q1) (sd (tw @au.eq_1 @e)),?_⟩;refine hN _ _ ?_;clear hN N)|((try apply Or.inl);refine⟨_,ao.x (q2) (sd (tw @au.eq_1 @e)),?_⟩;refine hN _ _ ?_;clear hN N)))
 exact aI (b:=true) (.inl rfl) (sd @Nat.zero_add) rfl
end Go.Proofs.YtgoelphibofcmaaGreat.V

namespace Go.Proofs.YtgoelphibofcmaaGreat.V
open Go.RowKit
variable {P:Program}
theorem Nx (hm:P.follows .mixedOrders=true) {f:Nat} {args:List AV} {vs:Array Value} {w:World} (h:ao P f args (.bool true)) (hA:fh P w (fun b=>b<w.heap.size) (fun _=>none) args vs):
  Calls P f vs w fun e w'=>e=.returned (.bool true)/\Below w.heap.size w w':=by
 have hs:=fR hm (h 0) w.heap.size (fun b=>b<w.heap.size) (fun _=>none) w vs ⟨Nat.le_refl _,fun _ h=>h,fun id r h=>(by cases h),fun id jJ r r' B B' h=>(by cases h)⟩ (fun id h=>absurd rfl h) hA
 refine hs.mono ?_
 rintro e w' ⟨r,g',n',D',ι',u,rfl,⟨r',hz,rfl⟩,dc,hsim,_,_,gp⟩
 have hr:r=.bool true:=by
  cases r<;>rw[fY]at hz<;>simp_all
  all_goals (repeat' (split at hz))<;>simp_all
 subst hr
 exact⟨by rw[eX gp],dc.below⟩
theorem lV {xs:List AV} {w:World} {D:Nat->Prop} {ι:Names} {a:AV} {v:Value} {vs:Array Value} (h:js P w D a v) (k:fh P w D ι xs vs):fh P w D ι (a::xs) (#[v]++vs):=
 oq (xs:=[a]) ⟨rfl,fun j b hj=>by
  cases j with
  |zero=>simp at hj;subst hj;exact⟨v,rfl,.eF _ _ h⟩
  |succ j=>simp at hj⟩ k
end Go.Proofs.YtgoelphibofcmaaGreat.V

namespace Go.Proofs.YtgoelphibofcmaaGreat.V
open Go.RowKit
attribute [local irreducible] dD wpOps gI Call
attribute [local go_sem] aK fW eU gE gy cE upd ck K.av cN AV.cells AV.cell rowOf rowsOf part ld rowAt bB bY dO ev iI bK db eI gr e8 dx eB cZ cY ea ec bQ aY cQ bP cU cR ez eC eA cP bV da ew bL aL cW cF iH bz cK bR aU dh aT dP AV.undef bF bG eh eu dX dY cI eH eK cD eE eD cV cX List.getD_cons_zero List.getD_cons_succ List.getD_nil List.all_cons List.all_nil Bool.and_true Bool.true_and Bool.and_self Bool.not_true Bool.not_false Option.map_some Option.map_none Option.bind_some Option.bind_none List.length_cons List.length_nil List.take_succ_cons List.take_zero List.take_nil List.drop_succ_cons List.drop_zero List.drop_nil List.head?_cons List.map_cons List.map_nil List.getElem?_cons_zero List.getElem?_cons_succ List.cons_append List.nil_append List.append_nil List.length_map List.set_cons_zero List.set_cons_succ Nat.reduceMul eq_self Int.toNat_natCast Int.natCast_nonneg and_self true_and and_true decide_true decide_false Bool.false_eq_true Nat.zero_add Nat.add_zero List.contains_cons List.contains_nil Bool.or_false Bool.false_or beq_self_eq_true Nat.reduceBEq ne_eq not_true_eq_false not_false_eq_true Id.mk.injEq false_and and_false Nat.reduceLT Int.reduceLE Int.reduceLT Int.reduceToNat Int.reduceNeg Int.reduceAdd Nat.le_refl List.length_append beq_true beq_false Bool.not_eq_eq_eq_not or_false false_or dQ aj aq aH bd bE cm aW bc aN bf cL bU
theorem NS {α:Type} (f:α->Nat) {xs:List α} {x:α} (h:x∈xs):f x<=(xs.map f).sum:=by
 induction xs with
 |nil=>cases h
 |cons y ys ih=>
  simp only[List.map_cons,List.sum_cons]
  rcases List.mem_cons.1 h with rfl|h
  ·omega
  ·have:=ih h;omega
theorem Gh {s:aB} (h:zN s<=1048576):uf s:=by
 unfold zN wq at h
 refine⟨⟨by omega,by omega,fun t ht=>?_⟩,by omega⟩
 have:=NS lv ht
 have h2:t.bI.length<=lv t:=by unfold lv;omega
 unfold ym
 omega
theorem yE (a:eQ):ao Tryz.prog 21 [.agg (aS a),.agg (aS a)] (.bool true):=by
 refine ao.body eG rfl fun hl n0=>?_
 clear hl
 have h1:=sG a.ah a.ah
 rw[decide_eq_true rfl]at h1
 (repeat(first|((repeat(revert hN;revert N;apply Pn.out));refine wk @aS.eq_1 ?_;(repeat(refine Pn.mk ?_;intro N hN)))|((try apply Or.inl);refine⟨_,ao.x (h1) (sd @aS.eq_1),?_⟩;refine hN _ _ ?_;clear hN N)))
 exact aI (b:=true) (.inl rfl) (sd @Nat.zero_add) rfl
end Go.Proofs.YtgoelphibofcmaaGreat.V
