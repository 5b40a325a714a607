/- One operation, calls among them. -/
import Derived.Test.YtgoljkjaameagaaGreatRqA
import Derived.Orders
import Derived.Conc.LoneCalls
import Derived.WalkKit
import Derived.WalkSpells
import Derived.WalkLawsBesides
import Derived.Lib.Hide
import Derived.Deep.QuietTactic
import Derived.BigQuiet
import Derived.StillTailTactics
import Derived.Deep.RegionWith
import Derived.Deep.RegionHeld3
import Derived.Deep.LoopGhost
import Derived.Deep.CutRange
import Derived.Deep.DeepCutAuto
import Derived.Test.YtgoljkjaameagaaGreatChecked
set_option linter.unusedVariables false
set_option linter.unusedSimpArgs false
set_option maxRecDepth 100000
set_option maxHeartbeats 16000000
namespace Go.Proofs.YtgoljkjaameagaaGreat.V
open Go.RowKit
variable {P:Program} {w w':World} {D D' D2:Nat->Prop} {ι ι' ι2:Names}
def Sound (P:Program):fQ:=fun f args σ K=>∀(hs:Nat) (D:Nat->Prop) (ι:Names) (w:World) (vs:Array Value),gx P hs D ι σ.get w->Used ι σ.next (fun _=>False)->fw P w D ι args vs->
 Calls P f vs w fun e w'=>∃r g' n' D' ι' u,e=.returned u/\K r ⟨g',n'⟩/\Step hs D ι w D' ι' w'/\gx P hs D' ι' g' w'/\Used ι' n' (fun _=>False)/\σ.next<=n'/\dd P w' D' ι' r u
section
variable {g:Rows} {hs:Nat} {env:Env} {a:Act} {o:Oper} {id:Id} {v:AV}
theorem gx.ro (S:gx P hs D ι g w):gx P w.heap.size D ι (ro g) w:=by
 refine⟨Nat.le_refl _,S.dead,fun id r h=>?_,fun id jG r r' B B' h h' hw=>?_⟩
 ·unfold V.ro at h
  simp only[Option.map_eq_some_iff]at h
  obtain⟨r0,h0,rfl⟩:=h
  obtain⟨B,hB,R,_,_⟩:=S.row id r0 h0
  exact⟨B,hB,R.flag false,fun h=>by simp at h,fun h=>by simp at h⟩
 ·unfold V.ro at h
  simp only[Option.map_eq_some_iff]at h
  obtain⟨r0,h0,rfl⟩:=h
  simp at hw
theorem Ao {g0:Rows} {f:Nat} {args:List AV} {n:Nat} {K:AV->Prop} {vs:Array Value} (h:PC (Sound P) f args ⟨g0,n⟩ K) (pZ:∀id r,g0 id=some r->g id=some r) (S:gx P hs D ι g w) (U:Used ι n (fun _=>False)) (A:fw P w D ι args vs):
  Calls P f vs w fun e w'=>∃r D' u,e=.returned u/\K r/\Step hs D ι w D' ι w'/\gx P hs D' ι g w'/\dd P w' D' ι r u:=by
 refine(h w.heap.size D ι w vs (S.sub pZ).ro U A).mono ?_
 rintro e w' ⟨r0,g',n',D1,ι1,u,rfl,⟨r,hr,hK⟩,T,S1,_,_,hR⟩
 have hb:∀b,b<w.heap.size->w'.heap[b]? =w.heap[b]? :=T.below.block
 have hz:=T.below.size
 have q:=qF (D2:=fun b=>D b∨(w.heap.size<=b/\b<w'.heap.size)) (ι2:=ι) (fun b hd=>by
  rcases T.new b hd with h|h
  ·exact .inl h
  ·exact .inr ⟨h,S1.dead b hd⟩) (fun id row hg hw=>by
  obtain⟨B,hB,R,h1,_⟩:=S1.row id row hg
  exact⟨B,hB,R,.inr ⟨h1 hw,R.lt⟩⟩) 6 r0 u r hR hr
 refine⟨r,_,u,rfl,hK,?_,?_,q.1⟩
 ·exact Step.stay S hb hz T.below.os T.below.tape T.below.output (fun _ h=>.inl h) (fun b h=>by rcases h with h|h;exact .inl h;exact .inr h.1) (fun _ _ h=>h)
 ·exact S.stay hb hz (fun _ h=>.inl h) (fun b h=>by rcases h with h|h;exact Nat.lt_of_lt_of_le (S.dead b h) hz;exact h.2) (fun b h=>by rcases h with h|h;exact .inl h;exact .inr h.1) (fun _ _ h=>h)
theorem xw {g0:Rows} {f:Nat} {args:List AV} {n:Nat} {K:AV->Prop} {vs:Array Value} (h:PCv (Sound P) f args ⟨g0,n⟩ K) (pZ:∀id r,g0 id=some r->g id=some r) (S:gx P hs D ι g w) (U:Used ι n (fun _=>False)) (A:fw P w D ι args vs):
  Calls P f vs w fun e w'=>∃r D' u,e=.returned u/\K r/\Step hs D ι w D' ι w'/\gx P hs D' ι g w'/\dd P w' D' ι r u:=by
 obtain⟨eS,ha,h⟩:=h
 let D1:Nat->Prop:=fun b=>D b∨∃id r B,g id=some r/\ι id=some B/\b=B.b
 have lt:∀id r B,g id=some r->ι id=some B->B.b<w.heap.size:=fun id r B h1 h2=>by
  obtain⟨B',dW,R,_⟩:=S.row id r h1
  rw[h2]at dW;injection dW with dW;subst dW
  exact R.lt
 have S0:gx P w.heap.size D1 ι (fun _=>none) w:=⟨Nat.le_refl _,fun b hb=>by
  rcases hb with hb|⟨id,r,B,h1,h2,rfl⟩
  ·exact S.dead b hb
  ·exact lt id r B h1 h2,fun id r h=>(by cases h),fun id jG r r' B B' h=>(by cases h)⟩
 obtain⟨l1,l2⟩:=gC ha
 have A':fw P w D1 ι eS vs:=⟨by rw[A.1,l1],fun j a hj=>by
  obtain⟨a0,kJ,hf⟩:=l2 j a hj
  obtain⟨u,hu,hr⟩:=A.2 j a0 kJ
  refine⟨u,hu,(qF (D2:=D1) (ι2:=ι) (fun b h=>.inl h) (fun id row hg hw=>?_) 6 a0 u a hr hf).1⟩
  unfold dR at hg
  simp only[Option.map_eq_some_iff]at hg
  obtain⟨r,nA,rfl⟩:=hg
  obtain⟨B,hB,R,_,_⟩:=S.row id r (pZ id r nA)
  exact⟨B,hB,R.flag true,.inr ⟨id,r,B,pZ id r nA,hB,rfl⟩⟩⟩
 refine(h w.heap.size D1 ι w vs S0 U A').mono ?_
 rintro e w' ⟨r0,g',n',D2,ι1,u,rfl,⟨r,hr,hK⟩,T,S1,_,_,hR⟩
 have hb:∀b,b<w.heap.size->w'.heap[b]? =w.heap[b]? :=T.below.block
 have hz:=T.below.size
 have q:=Gd (D2:=fun b=>D b∨(w.heap.size<=b/\b<w'.heap.size)) (ι2:=ι) (fun id row hg hw=>by
  obtain⟨B,hB,R,h1,_⟩:=S1.row id row hg
  exact⟨B,hB,R,.inr ⟨h1 hw,R.lt⟩⟩) 6 r0 u r hR hr
 refine⟨r,_,u,rfl,hK,?_,?_,q.1⟩
 ·exact Step.stay S hb hz T.below.os T.below.tape T.below.output (fun _ h=>.inl h) (fun b h=>by rcases h with h|h;exact .inl h;exact .inr h.1) (fun _ _ h=>h)
 ·exact S.stay hb hz (fun _ h=>.inl h) (fun b h=>by rcases h with h|h;exact Nat.lt_of_lt_of_le (S.dead b h) hz;exact h.2) (fun b h=>by rcases h with h|h;exact .inl h;exact .inr h.1) (fun _ _ h=>h)
theorem FO {g0:Rows} {f:Nat} {args:List AV} {n:Nat} {K:AV->Prop} {vs:Array Value} (h:ft (Sound P) f args ⟨g0,n⟩ K) (pZ:∀id r,g0 id=some r->g id=some r) (S:gx P hs D ι g w) (U:Used ι n (fun _=>False)) (A:fw P w D ι args vs):
  Calls P f vs w fun e w'=>∃r D' u,e=.returned u/\K r/\Step hs D ι w D' ι w'/\gx P hs D' ι g w'/\dd P w' D' ι r u:=by
 rcases h with h|h
 ·exact Ao h pZ S U A
 ·exact xw h pZ S U A
theorem G2 {D1 D2:Nat->Prop} {ι1 ι2:Names} {w1:World} {a:AV} {v:Value} (hp:a.plain=true) (h:dd P w D1 ι1 a v):dd P w1 D2 ι2 a v:=by
 cases h with
 |eM a v h=>cases h<;>first|(simp[AV.plain]at hp;done)|exact .eM _ _ (by constructor)
 |_=>simp[AV.plain]at hp
theorem gx.add {r:Row} {B:rL} (S:gx P hs D ι g w) (S':gx P hs D ι g w') (hf:ι id=none) (ju:w.heap.size<=B.b) (R:gT P w' D (kd ι id B) B r):gx P hs D (kd ι id B) (bD g id r) w':=by
 have lt:∀jG r' B',g jG=some r'->ι jG=some B'->B'.b<w.heap.size:=fun jG r' B' h1 h2=>by
  obtain⟨B2,pa,R2,_⟩:=S.row jG r' h1
  rw[h2]at pa;injection pa with pa;subst pa
  exact R2.lt
 have ne:∀jG r',g jG=some r'->jG≠id:=fun jG r' h he=>by
  subst he
  obtain⟨B2,pa,_⟩:=S.row _ r' h
  rw[hf]at pa;cases pa
 refine⟨S'.lo,S'.dead,fun jG r' h=>?_,fun RN id2 r1 r2 B1 B2 h1 h2 hw Ae pa hb=>?_⟩
 ·unfold bD at h
  split at h
  ·rename_i he
   subst he
   injection h with h;subst h
   exact⟨B,eo _ _ _,R,fun _=>Nat.le_trans S.lo ju,fun _ hd=>Nat.lt_irrefl _ (Nat.lt_of_lt_of_le (S.dead _ hd) ju)⟩
  ·obtain⟨B',dW,R',k1,k2⟩:=S'.row jG r' h
   exact⟨B',by rw[gp (ne _ _ h)];exact dW,R'.frame rfl (fun a v hr=>hr.frame (fun _ _=>rfl) (fun _ h=>h) (fh hf)),k1,k2⟩
 ·unfold bD at h1 h2
  split at h1
  ·rename_i e1
   split at h2
   ·rename_i e2;rw[e1,e2]
   ·exfalso
    subst e1
    rw[eo]at Ae;injection Ae with Ae;subst Ae
    rw[gp (ne _ _ h2)]at pa
    have:=lt _ _ _ h2 pa
    omega
  ·rw[gp (ne _ _ h1)]at Ae
   split at h2
   ·rename_i e2
    exfalso
    subst e2
    rw[eo]at pa;injection pa with pa;subst pa
    have:=lt _ _ _ h1 Ae
    omega
   ·rw[gp (ne _ _ h2)]at pa
    exact S'.inj RN id2 r1 r2 B1 B2 h1 h2 hw Ae pa hb
theorem HE {g0:Rows} {f:Nat} {args:List AV} {n sz:Nat} {rows:List (List AV)} {vs:Array Value} (h:CM (Sound P) f args ⟨g0,n⟩ sz rows) (pZ:∀id r,g0 id=some r->g id=some r) (S:gx P hs D ι g w) (U:Used ι n (fun _=>False)) (A:fw P w D ι args vs) (hf:ι id=none):
  Calls P f vs w fun e w'=>∃u B,e=.returned u/\Step hs D ι w D (kd ι id B) w'/\gx P hs D (kd ι id B) (bD g id ⟨true,sz,rows⟩) w'/\dd P w' D (kd ι id B) (.own id 0 rows.length) u:=by
 obtain⟨k7,eS,ha,h⟩:=h
 let D1:Nat->Prop:=fun b=>D b∨∃id r B,g id=some r/\ι id=some B/\b=B.b
 have lt:∀id r B,g id=some r->ι id=some B->B.b<w.heap.size:=fun id r B h1 h2=>by
  obtain⟨B',dW,R,_⟩:=S.row id r h1
  rw[h2]at dW;injection dW with dW;subst dW
  exact R.lt
 have S0:gx P w.heap.size D1 ι (fun _=>none) w:=⟨Nat.le_refl _,fun b hb=>by
  rcases hb with hb|⟨id,r,B,h1,h2,rfl⟩
  ·exact S.dead b hb
  ·exact lt id r B h1 h2,fun id r h=>(by cases h),fun id jG r r' B B' h=>(by cases h)⟩
 obtain⟨l1,l2⟩:=gC ha
 have A':fw P w D1 ι eS vs:=⟨by rw[A.1,l1],fun j a hj=>by
  obtain⟨a0,kJ,hz⟩:=l2 j a hj
  obtain⟨u,hu,hr⟩:=A.2 j a0 kJ
  refine⟨u,hu,(qF (D2:=D1) (ι2:=ι) (fun b h=>.inl h) (fun id row hg hw=>?_) 6 a0 u a hr hz).1⟩
  unfold dR at hg
  simp only[Option.map_eq_some_iff]at hg
  obtain⟨r,nA,rfl⟩:=hg
  obtain⟨B,hB,R,_,_⟩:=S.row id r (pZ id r nA)
  exact⟨B,hB,R.flag true,.inr ⟨id,r,B,pZ id r nA,hB,rfl⟩⟩⟩
 refine(h w.heap.size D1 ι w vs S0 U A').mono ?_
 rintro e w' ⟨r0,g',n',D2,ι1,u,rfl,⟨i0,hr,hg⟩,T,S1,_,_,hR⟩
 subst hr
 have hb:∀b,b<w.heap.size->w'.heap[b]? =w.heap[b]? :=T.below.block
 have hz:=T.below.size
 obtain⟨B,hB,R,k1,_⟩:=S1.row i0 _ hg
 have ju:w.heap.size<=B.b:=k1 rfl
 obtain⟨o,cap,B',rfl,dW,q2,q3,q4,q5,hk⟩:=iF hR
 rw[hB]at dW;injection dW with dW;subst dW
 replace R:=R.row hk
 have S':gx P hs D ι g w':=S.stay hb hz (fun _ h=>h) (fun b h=>Nat.lt_of_lt_of_le (S.dead b h) hz) (fun b h=>.inl h) (fun _ _ h=>h)
 have R':kV P w' D (kd ι id B) B ⟨true,sz,rows⟩:=⟨R.sz,R.wS,R.fits,R.len,R.flat,fun i j cs a hi hj=>by
  obtain⟨v,h1,h2⟩:=R.at_ i j cs a hi hj
  exact⟨v,h1,G2 (k7 cs (List.mem_of_getElem? hi) a (List.mem_of_getElem? hj)) h2⟩⟩
 exact⟨_,B,rfl,Step.stay S hb hz T.below.os T.below.tape T.below.output (fun _ h=>h) (fun _ h=>.inl h) (fh hf),S.add S' hf ju (R'.obj hk),.own id 0 _ _ _ B (eo _ _ _) hk q2 q3 q4 q5⟩
theorem ji {f:Nat} {args:Array Value} (hc:fS P f=true):(callFunc f args).run P w=.ok (.enter f args) w:=by
 unfold fS at hc
 split at hc
 ·rename_i fn hf
  simp only[Bool.and_eq_true,Bool.not_eq_true']at hc
  have hb:fn.body.isNone=false:=by cases hq:fn.body<;>simp_all
  simp only[callFunc,Sem.run_bind,run_program,Result.andThen_ok,hf,hc.2,Bool.false_eq_true,if_false,hb]
  rfl
 ·simp at hc
theorem By {f:Nat} {args:List O} (hc:qh P o.op=some (.call f args)):∃c,o.op=.call c/\c.callee=.value (.func f)/\fS P f=true/\c.args.toList.mapM (cO P)=some args:=by
 unfold qh at hc
 split at hc
 case h_23=>
  rename_i c ho
  refine⟨c,ho,?_⟩
  unfold mU at hc
  split at hc
  all_goals (try(repeat' (split at hc))<;>(simp only[Option.bind_eq_bind,Option.bind_eq_some_iff,Option.pure_def,Option.some.injEq,Option.map_eq_some_iff,reduceCtorEq,and_false,exists_false]at hc))
  all_goals simp_all
 all_goals (try unfold uu at hc)<;>(try unfold rR at hc)<;>(repeat' (split at hc))<;>(simp only[Option.bind_eq_bind,Option.bind_eq_some_iff,Option.pure_def,Option.some.injEq,Option.map_eq_some_iff,reduceCtorEq,and_false,exists_false]at hc)
theorem sf {x:O} {args:List O} (hc:qh P o.op=some (.sM x args)):∃c t,o.op=.call c/\c.callee=.value (.tmp t)/\x=.t t/\c.args.toList.mapM (cO P)=some args:=by
 unfold qh at hc
 split at hc
 case h_23=>
  rename_i c ho
  refine⟨c,?_⟩
  unfold mU at hc
  split at hc
  all_goals (try(repeat' (split at hc))<;>(simp only[Option.bind_eq_bind,Option.bind_eq_some_iff,Option.pure_def,Option.some.injEq,Option.map_eq_some_iff,reduceCtorEq,and_false,exists_false]at hc))
  all_goals simp_all
 all_goals (try unfold uu at hc)<;>(try unfold rR at hc)<;>(repeat' (split at hc))<;>(simp only[Option.bind_eq_bind,Option.bind_eq_some_iff,Option.pure_def,Option.some.injEq,Option.map_eq_some_iff,reduceCtorEq,and_false,exists_false]at hc)
theorem Gy {n:Nat} {x y:O} (hc:qh P o.op=some (.store n x y)):∃t x' y',o.op=.store t x' y'/\ep P t=some n/\cO P x'=some x/\cO P y'=some y:=by
 unfold qh at hc
 split at hc
 case h_7=>
  rename_i t x' y' ho
  refine⟨t,x',y',ho,?_⟩
  simp only[Option.bind_eq_bind,Option.bind_eq_some_iff,Option.pure_def,Option.some.injEq]at hc
  obtain⟨n',h1,x2,h2,y2,h3,he⟩:=hc
  injection he with e1 e2 e3
  subst e1;subst e2;subst e3
  exact⟨h1,h2,h3⟩
 all_goals (try unfold uu at hc)<;>(try unfold rR at hc)<;>(try unfold mU at hc)<;>(repeat' (split at hc))<;>(simp only[Option.bind_eq_bind,Option.bind_eq_some_iff,Option.pure_def,Option.some.injEq,Option.map_eq_some_iff,reduceCtorEq,and_false,exists_false]at hc)
theorem DG {n:Nat} {x y:O} (hc:qh P o.op=some (.append n x y)):∃(t e:TypeId) (m:Nat) (z:List K) (i:TypeInfo) (x' y':Operand),n=m+1/\o.op=.call {callee:=.builtin .append,args:= #[x',y'],argTypes:= #[t,t]}/\
  P.underlying t=some (.slice e)/\ep P e=some (m+1)/\js P e=some z/\P.info? e=some i/\i.bytes<=32768/\cO P x'=some x/\cO P y'=some y:=by
 unfold qh at hc
 split at hc
 case h_23=>
  rename_i c ho
  unfold mU at hc
  split at hc
  case h_2=>
   rename_i j8
   split at hc
   ·rename_i x' y' t u h1 h2
    split at hc
    ·rename_i e ht
     split at hc
     ·rename_i m z i e1 e2 e3
      split at hc
      ·rename_i hb
       simp only[Option.bind_eq_bind,Option.bind_eq_some_iff,Option.pure_def,Option.some.injEq]at hc
       obtain⟨x2,h3,y2,h4,he⟩:=hc
       injection he with k1 k2 k3
       subst k1;subst k2;subst k3
       obtain⟨Kt,rfl⟩:=hb
       refine⟨t,e,m,z,i,x',y',rfl,?_,ht,e1,e2,e3,Kt,h3,h4⟩
       rw[ho]
       obtain⟨ca,cb,cc⟩:=c
       simp only at h1 h2 j8
       subst j8
       congr
       ·exact Array.ext' h1
       ·exact Array.ext' h2
      ·simp at hc
     ·simp at hc
    ·simp at hc
   ·simp at hc
  all_goals (repeat' (split at hc))<;>(simp only[Option.bind_eq_bind,Option.bind_eq_some_iff,Option.pure_def,Option.some.injEq,Option.map_eq_some_iff,reduceCtorEq,and_false,exists_false]at hc)
 all_goals (try unfold uu at hc)<;>(try unfold rR at hc)<;>(repeat' (split at hc))<;>(simp only[Option.bind_eq_bind,Option.bind_eq_some_iff,Option.pure_def,Option.some.injEq,Option.map_eq_some_iff,reduceCtorEq,and_false,exists_false]at hc)
theorem I7 {n:Nat} {x y:O} (hc:qh P o.op=some (.copy n x y)):∃(t t2 e:TypeId) (m:Nat) (x' y':Operand),n=m+1/\o.op=.call {callee:=.builtin .copy,args:= #[x',y'],argTypes:= #[t,t2]}/\
  P.underlying t=some (.slice e)/\ep P e=some (m+1)/\cO P x'=some x/\cO P y'=some y:=by
 unfold qh at hc
 split at hc
 case h_23=>
  rename_i c ho
  unfold mU at hc
  split at hc
  case h_7=>
   rename_i j8
   split at hc
   ·rename_i x' y' t t2 h1 h2
    split at hc
    ·rename_i e ht
     split at hc
     ·rename_i m e1
      simp only[Option.bind_eq_bind,Option.bind_eq_some_iff,Option.pure_def,Option.some.injEq,gy.copy.injEq]at hc
      obtain⟨x2,h3,y2,h4,k0,k1,k2⟩:=hc
      subst k1;subst k2
      refine⟨t,t2,e,m,x',y',k0.symm,?_,ht,e1,h3,h4⟩
      rw[ho]
      obtain⟨ca,cb,cc⟩:=c
      simp only at h1 h2 j8
      subst j8
      congr
      ·exact Array.ext' h1
      ·exact Array.ext' h2
     ·simp at hc
    ·simp at hc
   ·simp at hc
  all_goals (repeat' (split at hc))<;>(simp only[Option.bind_eq_bind,Option.bind_eq_some_iff,Option.pure_def,Option.some.injEq,Option.map_eq_some_iff,reduceCtorEq,and_false,exists_false]at hc)
 all_goals (try unfold uu at hc)<;>(try unfold rR at hc)<;>(repeat' (split at hc))<;>(simp only[Option.bind_eq_bind,Option.bind_eq_some_iff,Option.pure_def,Option.some.injEq,Option.map_eq_some_iff,reduceCtorEq,and_false,exists_false]at hc)
theorem Gx {z:List K} {x:O} (hc:qh P o.op=some (.clear z x)):∃(t e:TypeId) (m:Nat) (x':Operand),o.op=.call {callee:=.builtin .clear,args:= #[x'],argTypes:= #[t]}/\
  P.underlying t=some (.slice e)/\ep P e=some (m+1)/\js P e=some z/\cO P x'=some x:=by
 unfold qh at hc
 split at hc
 case h_23=>
  rename_i c ho
  unfold mU at hc
  split at hc
  case h_3=>
   rename_i j8
   split at hc
   ·rename_i x' t h1 h2
    split at hc
    ·rename_i e ht
     split at hc
     ·rename_i m z' e1 e2
      simp only[Option.map_eq_some_iff]at hc
      obtain⟨x2,h3,he⟩:=hc
      injection he with k1 k2
      subst k1;subst k2
      refine⟨t,e,m,x',?_,ht,e1,e2,h3⟩
      rw[ho]
      obtain⟨ca,cb,cc⟩:=c
      simp only at h1 h2 j8
      subst j8
      congr
      ·exact Array.ext' h1
      ·exact Array.ext' h2
     ·simp at hc
    ·simp at hc
   ·simp at hc
  all_goals (repeat' (split at hc))<;>(simp only[Option.bind_eq_bind,Option.bind_eq_some_iff,Option.pure_def,Option.some.injEq,Option.map_eq_some_iff,reduceCtorEq,and_false,exists_false]at hc)
 all_goals (try unfold uu at hc)<;>(try unfold rR at hc)<;>(repeat' (split at hc))<;>(simp only[Option.bind_eq_bind,Option.bind_eq_some_iff,Option.pure_def,Option.some.injEq,Option.map_eq_some_iff,reduceCtorEq,and_false,exists_false]at hc)
theorem O2 {q:MW} {xs:List O} (hc:qh P o.op=some (.mw q xs)):
  (∃t x k y m z x' k' y',(o.op=.mapUpdate t x k y∨o.op=.insert t x k y)/\rS P t=some (m,z)/\cO P x=some x'/\cO P k=some k'/\cO P y=some y'/\q=.set m/\xs=[x',k',y'])∨
  (∃t t' x k m z x' k',o.op=.call {callee:=.builtin .delete,args:= #[x,k],argTypes:= #[t,t']}/\rS P t=some (m,z)/\cO P x=some x'/\cO P k=some k'/\q=.del m/\xs=[x',k']):=by
 unfold qh at hc
 split at hc
 case h_23=>
  rename_i c ho
  right
  unfold mU at hc
  split at hc
  case h_6=>
   rename_i j8
   split at hc
   ·rename_i x k t t' h1 h2
    split at hc
    ·rename_i m z x' k' e1 e2 e3
     injection hc with hc
     injection hc with q1 q2
     refine⟨t,t',x,k,m,z,x',k',?_,e1,e2,e3,q1.symm,q2.symm⟩
     rw[ho]
     obtain⟨ca,cb,cc⟩:=c
     simp only at h1 h2 j8
     subst j8
     congr
     ·exact Array.ext' h1
     ·exact Array.ext' h2
    ·cases hc
   ·cases hc
  all_goals (repeat' (split at hc))<;>(simp only[Option.bind_eq_bind,Option.bind_eq_some_iff,Option.pure_def,Option.some.injEq,Option.map_eq_some_iff,reduceCtorEq,and_false,exists_false]at hc)
 case h_29=>
  rename_i t x k y ho
  left
  split at hc
  ·rename_i m z x' k' y' e1 e2 e3 e4
   injection hc with hc
   injection hc with q1 q2
   exact⟨t,x,k,y,m,z,x',k',y',.inl ho,e1,e2,e3,e4,q1.symm,q2.symm⟩
  ·cases hc
 case h_30=>
  rename_i t x k y ho
  left
  split at hc
  ·rename_i m z x' k' y' e1 e2 e3 e4
   injection hc with hc
   injection hc with q1 q2
   exact⟨t,x,k,y,m,z,x',k',y',.inr ho,e1,e2,e3,e4,q1.symm,q2.symm⟩
  ·cases hc
 all_goals (try unfold uu at hc)<;>(try unfold rR at hc)<;>(repeat' (split at hc))<;>(simp only[Option.bind_eq_bind,Option.bind_eq_some_iff,Option.pure_def,Option.some.injEq,Option.map_eq_some_iff,reduceCtorEq,and_false,exists_false]at hc)
def iU (g:Rows) (id:Id):Option Row->Rows
 |some r=>bD g id r
 |none=>g
def uw (X:fQ) (hid:List Nat) (site n:Nat) (f:Nat) (args:List AV) (g:Rows) (v:AV) (g':Rows):Prop:=
 (ft X f args ⟨e8 hid n g,n+1⟩ (fun r=>r=v)/\g'=g)∨
 (hid.contains site=true/\∃sz rows,CM X f args ⟨e8 hid n g,n+1⟩ sz rows/\v=.own ⟨site,n⟩ 0 rows.length/\g'=bD g ⟨site,n⟩ ⟨true,sz,rows⟩)
def VS (X:fQ) (n:Nat) (vo:bH) (env:Env) (g:Rows) (v:AV) (g':Rows):Prop:=
 match vo.op with
 | .call f args=>uw X vo.hid vo.site n f (args.map (cZ env)) g v g'
 | .sM x args=>∃f l,uv (cZ env x) (args.map (cZ env))=some (f,l)/\uw X vo.hid vo.site n f l g v g'
 | .store .. | .append .. | .copy .. | .clear .. | .mw .. =>e9 vo.op (cZ env) g ⟨vo.site,n⟩=some (v,g')
 |_=>∃mr,ef vo.op (cZ env) (e8 vo.hid n g) ⟨vo.site,n⟩=some (v,mr)/\g'=iU g ⟨vo.site,n⟩ mr
def MC (P:Program) (hs:Nat) (D:Nat->Prop) (ι:Names) (w:World) (U:Nat->Prop) (site n:Nat) (a:Act) (dst:Option Tmp) (v:AV) (g':Rows) (a':Act) (w':World):Prop:=
 ∃u D' ι',a'=a.put dst u/\Step hs D ι w D' ι' w'/\gx P hs D' ι' g' w'/\dd P w' D' ι' v u/\Used ι' n (fun s=>U s∨s=site)
theorem fresh {n:Nat} {U:Nat->Prop} {s:Nat} (h:Used ι n U) (hU:¬U s):ι ⟨s,n⟩=none:=by
 cases hq:ι ⟨s,n⟩with
 |none=>rfl
 |some B=>
  rcases h ⟨s,n⟩ (by rw[hq];simp)with h|⟨_,h⟩
  ·exact absurd h (Nat.lt_irrefl _)
  ·exact absurd h hU
theorem Used.more {n:Nat} {U U':Nat->Prop} (h:Used ι n U) (hU:∀s,U s->U' s):Used ι n U':=fun id hid=>by
 rcases h id hid with h|⟨h1,h2⟩
 ·exact .inl h
 ·exact .inr ⟨h1,hU _ h2⟩
theorem Used.next {n:Nat} {U:Nat->Prop} (h:Used ι n U):Used ι (n+1) (fun _=>False):=fun id hid=>by
 rcases h id hid with h|⟨h1,_⟩
 ·exact .inl (Nat.lt_succ_of_lt h)
 ·exact .inl ai
theorem Used.upd {n:Nat} {U:Nat->Prop} {s:Nat} {B:rL} (h:Used ι n U):Used (kd ι ⟨s,n⟩ B) n (fun x=>U x∨x=s):=fun id hid=>by
 by_cases he:id=⟨s,n⟩
 ·subst he;exact .inr ⟨rfl,.inr rfl⟩
 ·rw[gp he]at hid
  exact(h.more (U':=fun x=>U x∨x=s) fun _ h=>Or.inl h) id hid
theorem nM {xs:Array Operand} {ys:List O} (E:cQ P w D ι env a) (h:xs.toList.mapM (cO P)=some ys):fw P w D ι (ys.map (cZ env)) (xs.map a.eval):=by
 obtain⟨h1,h2⟩:=Eb E h
 refine⟨by simpa using h1,fun j b hj=>?_⟩
 simp only[List.getElem?_map,Option.map_eq_some_iff]at hj
 obtain⟨y,hy,rfl⟩:=hj
 have eh:j<xs.size:=by have:=(List.getElem?_eq_some_iff.1 hy).1;simp at h1;omega
 refine⟨a.eval xs[j],by simp[eh],?_⟩
 have:=h2 j y hy
 simpa[List.getD_eq_getElem?_getD,eh]using this
theorem ot {xs ys:List AV} {vs us:Array Value} (h:fw P w D ι xs vs) (k:fw P w D ι ys us):fw P w D ι (xs++ys) (vs++us):=
 ⟨by simp[h.1,k.1],fun j b hj=>by
  by_cases eh:j<xs.length
  ·rw[List.getElem?_append_left eh]at hj
   obtain⟨u,hu,xg⟩:=h.2 j b hj
   exact⟨u,by rw[Array.getElem?_append_left (by rw[h.1];exact eh)];exact hu,xg⟩
  ·rw[List.getElem?_append_right ai]at hj
   obtain⟨u,hu,xg⟩:=k.2 _ b hj
   exact⟨u,by rw[Array.getElem?_append_right (by rw[h.1];omega),h.1];exact hu,xg⟩⟩
theorem vI:fw P w D ι [] #[]:=⟨rfl,fun j b hj=>by simp at hj⟩
theorem ux {x:AV} {l l':List AV} {f:Nat} {vs:Array Value} {v:Value} (h:uv x l=some (f,l')) (hr:dd P w D ι x v) (hA:fw P w D ι l vs):
  ∃first di,v=.func (.func f) first di/\fS P f=true/\fw P w D ι l' (first++vs++di):=by
 unfold uv at h
 split at h
 ·simp only[Option.some.injEq,Prod.mk.injEq]at h
  obtain⟨rfl,rfl⟩:=h
  obtain⟨us,q,he,E9,n1,q1,q2⟩:=zE hr
  refine⟨#[],us,he,E9,?_⟩
  rw[Array.empty_append]
  exact ot hA ⟨n1,fun j b hj=>⟨q j,q1 j (List.getElem?_eq_some_iff.1 hj).1,q2 j b hj⟩⟩
 ·simp only[Option.some.injEq,Prod.mk.injEq]at h
  obtain⟨rfl,rfl⟩:=h
  obtain⟨us,q,he,E9,n1,q1,q2⟩:=Mi hr
  refine⟨us, #[],he,E9,?_⟩
  rw[Array.append_empty]
  exact ot ⟨n1,fun j b hj=>⟨q j,q1 j (List.getElem?_eq_some_iff.1 hj).1,q2 j b hj⟩⟩ hA
 ·cases h
theorem Av {n:Nat} {vo:bH} {g':Rows} {U:Nat->Prop} {Q:Exit->Act->World->Prop} {K:Act->World->Prop} (hc:qh P o.op=some vo.op) (hv:VS (Sound P) n vo env g v g') (S:gx P hs D ι g w) (Us:Used ι n U) (hU:¬U vo.site) (E:cQ P w D ι env a)
  (hK:∀a' w',MC P hs D ι w U vo.site n a o.dst v g' a' w'->K a' w'):o.wp P a w K Q:=by
 have hf:=fresh Us hU
 have AE:∀(f:Nat) (args:List AV) (vs:Array Value),uw (Sound P) vo.hid vo.site n f args g v g'->fw P w D ι args vs->(execOp a.eval o).run P w=.ok (.enter f vs) w->o.wp P a w K Q:=by
  intro f args vs hP hA gi
  unfold Oper.wp
  rw[gi]
  rcases hP with⟨hP,rfl⟩|⟨_,sz,rows,hM,rfl,rfl⟩
  ·refine(FO hP zY S Us.next hA).mono ?_
   rintro e w' ⟨r,D',u,rfl,rfl,T,S',hR⟩
   exact hK _ _ ⟨u,D',ι,rfl,T,S',hR,Us.more fun _ h=>.inl h⟩
  ·refine(HE hM zY S Us.next hA hf).mono ?_
   rintro e w' ⟨u,B,rfl,T,S',hR⟩
   exact hK _ _ ⟨u,D,_,rfl,T,S',hR,Us.upd⟩
 have quiet:∀(mr:Option Row),ef vo.op (cZ env) (e8 vo.hid n g) ⟨vo.site,n⟩=some (v,mr)->g'=iU g ⟨vo.site,n⟩ mr->o.wp P a w K Q:=by
  intro mr hq hg
  have hqs:=yw hc hq (S.sub zY) E
  unfold Oper.wp
  cases mr with
  |none=>
   obtain⟨u,gi,hR⟩:=hqs
   rw[gi]
   subst hg
   exact hK _ _ ⟨u,D,ι,rfl,Step.refl _ _ _ _,S,hR,Us.more fun _ h=>.inl h⟩
  |some r=>
   rcases hqs with⟨u,cells,T,gi,h1,h2,h3,h4,h5,h6⟩|⟨m,gi,OY,zh⟩|⟨c,gi,OY,zh⟩
   case inr.inr=>
    rw[gi]
    subst hg OY zh
    have fu:w.heap.size<(w.alloc (.chan c #[] false 0 0 false)).heap.size:=by simp
    have S':=S.stay (w':=w.alloc (.chan c #[] false 0 0 false)) (D':=D) (ι':=ι) (fun k hk=>Below.heap_alloc _ _ _ hk) (by simp) (fun _ h=>h) (fun b hd=>Nat.lt_trans (S.dead b hd) fu) (fun _ h=>.inl h) (fun _ _ h=>h)
    have S1:=S.add S' (id:=⟨vo.site,n⟩) (B:=⟨w.heap.size,qC+c,0,some (.chan c)⟩) (r:=⟨true,qC+c,[]⟩) hf (Nat.le_refl _) ⟨rfl,fun cs h=>by simp at h,fun h=>by simp at h,fun m' h=>(by simp at h),fun c' h=>by
     simp only[Option.some.injEq,BK.chan.injEq]at h;subst h
     exact⟨rfl, #[],0,0,(show(w.heap.push (Obj.chan c #[] false 0 0 false))[w.heap.size]? =some (Obj.chan c #[] false 0 0 false) by simp),rfl,fun i cs h=>by simp at h⟩⟩
    exact hK _ _ ⟨_,D,_,rfl,Step.stay S (fun k hk=>Below.heap_alloc _ _ _ hk) (by simp) rfl rfl rfl (fun _ h=>h) (fun _ h=>.inl h) (fh hf),S1,.qx _ _ _ (eo _ _ _) rfl,Us.upd⟩
   case inr.inl=>
    rw[gi]
    subst hg OY zh
    have fu:w.heap.size<(w.alloc (.map #[] 0)).heap.size:=by simp
    have S':=S.stay (w':=w.alloc (.map #[] 0)) (D':=D) (ι':=ι) (fun k hk=>Below.heap_alloc _ _ _ hk) (by simp) (fun _ h=>h) (fun b hd=>Nat.lt_trans (S.dead b hd) fu) (fun _ h=>.inl h) (fun _ _ h=>h)
    have S1:=S.add S' (id:=⟨vo.site,n⟩) (B:=⟨w.heap.size,m.ua,0,some (.map m)⟩) (r:=⟨true,m.ua,[]⟩) hf (Nat.le_refl _) ⟨rfl,fun cs h=>by simp at h,fun h=>by simp at h,fun m' h=>by
     simp only[Option.some.injEq,BK.map.injEq]at h;subst h
     exact⟨rfl, #[],0,(show(w.heap.push (Obj.map #[] 0))[w.heap.size]? =some (Obj.map #[] 0) by simp),rfl,⟨fun cs h=>by simp at h,fun x h=>by simp at h,by simp⟩,fun i cs h=>by simp at h⟩,fun c h=>by simp at h⟩
    exact hK _ _ ⟨_,D,_,rfl,Step.stay S (fun k hk=>Below.heap_alloc _ _ _ hk) (by simp) rfl rfl rfl (fun _ h=>h) (fun _ h=>.inl h) (fh hf),S1,.map _ _ _ (eo _ _ _) rfl,Us.upd⟩
   rw[gi]
   subst hg
   have S1:=S.alloc (id:=⟨vo.site,n⟩) (w':=w.alloc (.cells cells T)) rfl hf h1 h2 h3 h4 h5
   refine hK _ _ ⟨u,D,_,rfl,Step.stay S (fun k hk=>Below.heap_alloc _ _ _ hk) (by simp) rfl rfl rfl (fun _ h=>h) (fun _ h=>.inl h) (fh hf),S1,(h6 (kd ι _ _) (eo _ _ _)).frame (fun b hd=>Below.heap_alloc _ _ _ (S.dead b hd)) (fun _ h=>h) (fun _ _ h=>h),Us.upd⟩
 have P7:e9 vo.op (cZ env) g ⟨vo.site,n⟩=some (v,g')->(∀KF,CI P hs a o KF D ι ⟨vo.site,n⟩ v g'->KF=w->o.wp P a w K Q):=by
  intro _ KF hE he
  subst he
  obtain⟨u,w',ι',gi,T,S',hR,hι⟩:=hE
  have Iw:MC P hs D ι KF U vo.site n a o.dst v g' (a.put o.dst u) w':=⟨u,D,ι',rfl,T,S',hR,fun id hid=>by
   by_cases he:id=⟨vo.site,n⟩
   ·subst he;exact .inr ⟨rfl,.inr rfl⟩
   ·rw[hι id he]at hid
    exact(Us.more (U':=fun x=>U x∨x=vo.site) fun _ h=>Or.inl h) id hid⟩
  unfold Oper.wp
  rcases gi with gi|⟨gi,rfl⟩
  ·rw[gi];exact hK _ _ Iw
  ·rw[gi];exact hK _ _ Iw
 unfold VS at hv
 split at hv
 ·rename_i f args ez
  rw[ez]at hc
  obtain⟨c,ho,j8,E9,mZ⟩:=By hc
  refine AE f _ (c.args.map a.eval) hv (nM E mZ) ?_
  simp only[execOp,ho,resolve,j8,Deferred.ofValue,Act.eval,Sem.run_bind,Sem.run_pure,Result.andThen_ok,invoke,Array.empty_append,Array.append_empty]
  exact ji E9
 ·rename_i x args ez
  obtain⟨f,l,hx,hP⟩:=hv
  rw[ez]at hc
  obtain⟨c,t,ho,j8,rfl,mZ⟩:=sf hc
  obtain⟨first,di,he,E9,hL⟩:=ux (v:=a.eval (.tmp t)) hx (E t) (nM E mZ)
  refine AE f _ (first++c.args.map a.eval++di) hP hL ?_
  simp only[execOp,ho,resolve,j8,he,Deferred.ofValue,Sem.run_bind,Sem.run_pure,Result.andThen_ok,invoke]
  exact ji E9
 ·rename_i m x y ez
  have kq:=hc
  rw[ez]at kq
  obtain⟨t,x',y',ho,h1,h2,h3⟩:=Gy kq
  have nw:=hv
  rw[ez]at nw
  simp only[e9,Option.map_eq_some_iff,Prod.mk.injEq]at nw
  obtain⟨g1,Ah,rfl,rfl⟩:=nw
  exact P7 hv w (K4 S E ho h1 h2 h3 Ah) rfl
 ·rename_i m x y ez
  have kq:=hc
  rw[ez]at kq
  obtain⟨t,e,m',z,i,x',y',rfl,ho,h1,h2,h3,h4,h5,h6,h7⟩:=DG kq
  have nw:=hv
  rw[ez]at nw
  simp only[e9,Option.bind_eq_some_iff]at nw
  obtain⟨ys,Fk,nw⟩:=nw
  exact P7 hv w (Ig S E hf ho h1 h2 h3 h4 h5 h6 h7 Fk nw) rfl
 ·rename_i m x y ez
  have kq:=hc
  rw[ez]at kq
  obtain⟨t,t2,e,m',x',y',rfl,ho,h1,h2,h3,h4⟩:=I7 kq
  have nw:=hv
  rw[ez]at nw
  simp only[e9,Option.bind_eq_some_iff]at nw
  obtain⟨ys,Fk,nw⟩:=nw
  exact P7 hv w (NU S E ho h1 h2 h3 h4 Fk nw) rfl
 ·rename_i z x ez
  have kq:=hc
  rw[ez]at kq
  obtain⟨t,e,m',x',ho,h1,h2,h3,h4⟩:=Gx kq
  have nw:=hv
  rw[ez]at nw
  simp only[e9,Option.map_eq_some_iff,Prod.mk.injEq]at nw
  obtain⟨g1,Ah,rfl,rfl⟩:=nw
  exact P7 hv w (K3 S E ho h1 h2 h3 h4 Ah) rfl
 ·rename_i q xs ez
  have kq:=hc
  rw[ez]at kq
  have nw:=hv
  rw[ez]at nw
  simp only[e9,Option.map_eq_some_iff,Prod.mk.injEq]at nw
  obtain⟨g1,Ah,rfl,rfl⟩:=nw
  rcases O2 kq with⟨t,x,k,y,m,z,x',k',y',ho,h1,h2,h3,h4,rfl,rfl⟩|⟨t,t',x,k,m,z,x',k',ho,h1,h2,h3,rfl,rfl⟩
  ·exact P7 hv w (NW S E ho h1 h2 h3 h4 Ah) rfl
  ·exact P7 hv w (NV S E ho h1 h2 h3 Ah) rfl
 ·obtain⟨mr,hq,hg⟩:=hv
  exact quiet mr hq hg
end
end Go.Proofs.YtgoljkjaameagaaGreat.V

namespace Go.Proofs.YtgoljkjaameagaaGreat.V
open Go.RowKit
variable {P:Program} {w w':World} {D D' D2:Nat->Prop} {ι ι' ι2:Names}
section
variable {g:Rows} {hs:Nat} {env:Env} {a:Act} {o:Oper} {id:Id} {v:AV}
theorem oL {ops:Array Oper} {nt site0 j:Nat} {draw mk:Bool} {bs:Array Nat} {hidden:List (Nat×Bool)} {vo:bH} (h:kn P ops nt site0 draw mk bs hidden j o=some vo):
  qh P o.op=some vo.op/\vo.dst=o.dst/\vo.site=site0+j/\(∀d,o.dst=some d->d<nt)/\(match o.guard with
   |none=>vo.guard=none
   |some (i,b)=>∃t,(ops[i]?).bind (·.dst)=some t/\vo.guard=some (t,b)):=by
 unfold kn at h
 simp only[Option.bind_eq_bind,Option.bind_eq_some_iff]at h
 obtain⟨v,hv,gd,hg,h⟩:=h
 split at h
 ·rename_i hd
  simp only[Option.pure_def,Option.some.injEq]at h
  subst h
  refine⟨hv,rfl,rfl,fun d Qb=>?_,?_⟩
  ·rw[Qb]at hd;simpa using hd
  ·unfold CW at hg
   cases xb:o.guard with
   |none=>rw[xb]at hg;simp at hg;exact hg.symm
   |some p=>
    obtain⟨i,b⟩:=p
    rw[xb]at hg
    dsimp only at hg ⊢
    split at hg
    ·rename_i t ht
     simp at hg;exact⟨t,ht,hg.symm⟩
    ·simp at hg
 ·simp at h
theorem sH {ops:Array Oper} {vo:bH} (E:cQ P w D ι env a) (hg:match o.guard with
   |none=>vo.guard=none
   |some (i,b)=>∃t,(ops[i]?).bind (·.dst)=some t/\vo.guard=some (t,b)):aA vo.guard env=Region.wanted o (yielded ops a.tmps):=by
 unfold Region.wanted
 cases xb:o.guard with
 |none=>rw[xb]at hg;simp only at hg;rw[hg];rfl
 |some p=>
  obtain⟨i,b⟩:=p
  rw[xb]at hg
  obtain⟨t,ht,hv⟩:=hg
  rw[hv]
  simp only[aA,yielded,ht,Option.bind_some]
  have hr:=E t
  by_cases eh:t<a.tmps.size
  ·have fq:a.tmps[t]? =some a.tmps[t]:=Array.getElem?_eq_getElem eh
   have hd:a.tmps.getD t undef=a.tmps[t]:=by simp[eh]
   rw[hd]at hr
   rw[fq]
   generalize a.tmps[t]=u at hr
   cases he:env t with
   |bool c=>rw[he]at hr;rw[fe hr];simp
   |_=>
    rw[he]at hr
    have:∀c,u≠.bool c:=by
     intro c hu
     subst hu
     cases hr with
     |eM _ _ h=>cases h
    cases u<;>simp_all
  ·have fq:a.tmps[t]? =none:=Array.getElem?_eq_none (Nat.le_of_not_lt eh)
   have hd:a.tmps.getD t undef=undef:=by simp[fq]
   rw[hd]at hr
   rw[fq]
   cases he:env t with
   |bool c=>rw[he]at hr;have:=fe hr;simp[undef]at this
   |_=>simp
theorem im {dst:Option Nat} {nt:Nat} {u:Value} (E:cQ P w D ι env a) (hr:dd P w D ι v u) (hd:∀d,dst=some d->d<nt) (hs:a.tmps.size=nt):cQ P w D ι (upd env dst v) (a.put dst u):=by
 intro t
 cases dst with
 |none=>exact E t
 |some d=>
  have eh:d<a.tmps.size:=by rw[hs];exact hd d rfl
  simp only[upd,Act.put]
  by_cases ht:t=d
  ·subst ht
   simp[eh];exact hr
  ·rw[if_neg ht]
   have:(a.tmps.setIfInBounds d u).getD t undef=a.tmps.getD t undef:=by
    simp only[Array.getD_eq_getD_getElem?]
    rw[Array.getElem?_setIfInBounds_ne (fun e=>ht e.symm)]
   rw[this];exact E t
theorem nS {hs:Nat} (E:cQ P w D ι env a) (T:Step hs D ι w D' ι' w'):cQ P w' D' ι' env a:=fun t=>T.rep (E t)
theorem e6 (a:Act) (dst:Option Tmp) (u:Value):(a.put dst u).tmps.size=a.tmps.size:=by cases dst<;>simp[Act.put]
theorem put_defers (a:Act) (dst:Option Tmp) (u:Value):(a.put dst u).defers=a.defers:=by cases dst<;>rfl
theorem yH {draw:Bool} {vo:bH} {σ:au} {next:AV->au->Prop} {U:Nat->Prop} {Q:Exit->Act->World->Prop} {K:Act->World->Prop} (hc:qh P o.op=some vo.op) (hv:eV (Sound P) draw vo env σ next) (S:gx P hs D ι σ.get w) (Us:Used ι σ.next U) (hU:¬U vo.site) (E:cQ P w D ι env a)
  (hK:∀v σ' u D' ι' w',next v σ'->Step hs D ι w D' ι' w'->gx P hs D' ι' σ'.get w'->dd P w' D' ι' v u->Used ι' σ'.next (fun s=>U s∨s=vo.site)->σ.next<=σ'.next->K (a.put o.dst u) w'):o.wp P a w K Q:=by
 have close:∀v g',VS (Sound P) σ.next vo env σ.get v g'->next v ⟨g',σ.next⟩->o.wp P a w K Q:=fun v g' h1 h2=>
  Av hc h1 S Us hU E fun a' w' ⟨u,D',ι',ha,T,S',hR,U'⟩=>by subst ha;exact hK v ⟨g',σ.next⟩ u D' ι' w' h2 T S' hR U' (Nat.le_refl _)
 have Jv:∀(f:Nat) (args:List AV) (vs:Array Value),Sound P f args ⟨σ.get,σ.next+1⟩ next->fw P w D ι args vs->(execOp a.eval o).run P w=.ok (.enter f vs) w->o.wp P a w K Q:=by
  intro f args vs h hA gi
  unfold Oper.wp
  rw[gi]
  refine(h hs D ι w vs S Us.next hA).mono ?_
  rintro e w' ⟨r,g',n',D',ι',u,rfl,hn,T,S',U',hle,hR⟩
  exact hK r ⟨g',n'⟩ u D' ι' w' hn T S' hR (U'.more fun _ h=>h.elim) (Nat.le_trans (Nat.le_succ _) hle)
 unfold eV at hv
 split at hv
 ·rename_i f args ez
  rcases hv with⟨r,hP,hn⟩|⟨_,hX⟩|⟨CD,sz,rows,hM,hn⟩
  ·exact close r σ.get (by unfold VS;rw[ez];exact .inl ⟨hP,rfl⟩) hn
  rotate_left
  ·exact close _ _ (by unfold VS;rw[ez];exact .inr ⟨CD,sz,rows,hM,rfl,rfl⟩) hn
  ·have kq:=hc
   rw[ez]at kq
   obtain⟨c,ho,j8,E9,mZ⟩:=By kq
   refine Jv f _ (c.args.map a.eval) hX (nM E mZ) ?_
   simp only[execOp,ho,resolve,j8,Deferred.ofValue,Act.eval,Sem.run_bind,Sem.run_pure,Result.andThen_ok,invoke,Array.empty_append,Array.append_empty]
   exact ji E9
 ·rename_i x args ez
  split at hv
  ·rename_i f di hx
   have wM:uv (cZ env x) (args.map (cZ env))=some (f,args.map (cZ env)++di):=by rw[hx];rfl
   rcases hv with⟨r,hP,hn⟩|⟨_,hX⟩|⟨CD,sz,rows,hM,hn⟩
   ·exact close r σ.get (by unfold VS;rw[ez];exact⟨f,_,wM,.inl ⟨hP,rfl⟩⟩) hn
   rotate_left
   ·exact close _ _ (by unfold VS;rw[ez];exact⟨f,_,wM,.inr ⟨CD,sz,rows,hM,rfl,rfl⟩⟩) hn
   ·have kq:=hc
    rw[ez]at kq
    obtain⟨c,t,ho,j8,rfl,mZ⟩:=sf kq
    obtain⟨first,us,he,E9,hL⟩:=ux (v:=a.eval (.tmp t)) wM (E t) (nM E mZ)
    refine Jv f _ (first++c.args.map a.eval++us) hX hL ?_
    simp only[execOp,ho,resolve,j8,he,Deferred.ofValue,Sem.run_bind,Sem.run_pure,Result.andThen_ok,invoke]
    exact ji E9
  ·rename_i f di hx
   have wM:uv (cZ env x) (args.map (cZ env))=some (f,di++args.map (cZ env)):=by rw[hx];rfl
   rcases hv with⟨r,hP,hn⟩|⟨_,hX⟩|⟨CD,sz,rows,hM,hn⟩
   ·exact close r σ.get (by unfold VS;rw[ez];exact⟨f,_,wM,.inl ⟨hP,rfl⟩⟩) hn
   rotate_left
   ·exact close _ _ (by unfold VS;rw[ez];exact⟨f,_,wM,.inr ⟨CD,sz,rows,hM,rfl,rfl⟩⟩) hn
   ·have kq:=hc
    rw[ez]at kq
    obtain⟨c,t,ho,j8,rfl,mZ⟩:=sf kq
    obtain⟨first,us,he,E9,hL⟩:=ux (v:=a.eval (.tmp t)) wM (E t) (nM E mZ)
    refine Jv f _ (first++c.args.map a.eval++us) hX hL ?_
    simp only[execOp,ho,resolve,j8,he,Deferred.ofValue,Sem.run_bind,Sem.run_pure,Result.andThen_ok,invoke]
    exact ji E9
  ·exact hv.elim
 ·rename_i m x y ez
  split at hv
  ·rename_i v' g' he
   exact close v' g' (by unfold VS;rw[ez];rw[ez]at he;exact he) hv
  ·exact hv.elim
 ·rename_i m x y ez
  split at hv
  ·rename_i v' g' he
   exact close v' g' (by unfold VS;rw[ez];rw[ez]at he;exact he) hv
  ·exact hv.elim
 ·rename_i m x y ez
  split at hv
  ·rename_i v' g' he
   exact close v' g' (by unfold VS;rw[ez];rw[ez]at he;exact he) hv
  ·exact hv.elim
 ·rename_i m x ez
  split at hv
  ·rename_i v' g' he
   exact close v' g' (by unfold VS;rw[ez];rw[ez]at he;exact he) hv
  ·exact hv.elim
 ·rename_i m x ez
  split at hv
  ·rename_i v' g' he
   exact close v' g' (by unfold VS;rw[ez];rw[ez]at he;exact he) hv
  ·exact hv.elim
 ·rename_i n1 n2 n3 n4 n5 n6 n7
  split at hv
  ·rename_i v' r hq
   refine close v' (bD σ.get ⟨vo.site,σ.next⟩ r) ?_ hv
   unfold VS
   split
   ·rename_i h;exact(n1 _ _ h).elim
   ·rename_i h;exact(n2 _ _ h).elim
   ·rename_i h;exact(n3 _ _ _ h).elim
   ·rename_i h;exact(n4 _ _ _ h).elim
   ·rename_i h;exact(n5 _ _ _ h).elim
   ·rename_i h;exact(n6 _ _ h).elim
   ·rename_i h;exact(n7 _ _ h).elim
   ·exact⟨some r,hq,rfl⟩
  ·rename_i v' hq
   refine close v' σ.get ?_ hv
   unfold VS
   split
   ·rename_i h;exact(n1 _ _ h).elim
   ·rename_i h;exact(n2 _ _ h).elim
   ·rename_i h;exact(n3 _ _ _ h).elim
   ·rename_i h;exact(n4 _ _ _ h).elim
   ·rename_i h;exact(n5 _ _ _ h).elim
   ·rename_i h;exact(n6 _ _ h).elim
   ·rename_i h;exact(n7 _ _ h).elim
   ·exact⟨none,hq,rfl⟩
  ·exact hv.elim
structure St (P:Program) (hs nt:Nat) (D:Nat->Prop) (ι:Names) (env:Env) (σ:au) (a:Act) (w:World):Prop where
 su:gx P hs D ι σ.get w
 used:Used ι σ.next (fun _=>False)
 env:cQ P w D ι env a
 size:a.tmps.size=nt
theorem vu (rest:List Oper) {ops:Array Oper} {nt site0:Nat} {draw mk:Bool} {bs:Array Nat} {hidden:List (Nat×Bool)} {K:Env->au->Prop} {Q:Exit->Act->World->Prop}:∀(l:List Oper) (vl:List bH) (j:Nat) (env:Env) (σ:au) (a:Act) (w:World) (D:Nat->Prop) (ι:Names) (U:Nat->Prop),
  allM (kn P ops nt site0 draw mk bs hidden) l j=some vl->wpOps (Sound P) draw vl K env σ->gx P hs D ι σ.get w->Used ι σ.next U->(∀s,U s->s<site0+j)->cQ P w D ι env a->a.tmps.size=nt->
  (∀iz σ' a' w' D' ι',K iz σ'->Step hs D ι w D' ι' w'->St P hs nt D' ι' iz σ' a' w'->a'.defers=a.defers->σ.next<=σ'.next->wpList P ops Q rest a' w')->wpList P ops Q (l++rest) a w:=by
 intro l
 induction l with
 |nil=>
  intro vl j env σ a w D ι U h hv S Us _ E fu hQ
  simp[allM]at h;subst h
  exact hQ env ⟨σ.get,σ.next+1⟩ a w D ι hv (Step.refl _ _ _ _) ⟨S,Us.next,E,fu⟩ rfl (Nat.le_succ _)
 |cons o l ih=>
  intro vl j env σ a w D ι U h hv S Us hU E fu hQ
  simp only[allM,Option.bind_eq_bind,Option.bind_eq_some_iff,Option.pure_def,Option.some.injEq]at h
  obtain⟨vo,pd,sG,rK,rfl⟩:=h
  obtain⟨hc,hd,Br,w9,hg⟩:=oL pd
  have hw:=sH (ops:=ops) (vo:=vo) E hg
  unfold wpOps at hv
  show wpList P ops Q (o::(l++rest)) a w
  unfold wpList
  rw[<-hw]
  split at hv
  ·rename_i Gt
   rw[if_pos Gt]
   refine .inl (yH hc hv S Us (fun h=>by have:=hU _ h;omega) E fun v σ' u D' ι' w' hn T S' hR U' hle=>?_)
   refine ih sG (j+1) (upd env vo.dst v) σ' (a.put o.dst u) w' D' ι' _ rK hn S' U' (fun s zi=>by
    rcases zi with h|h
    ·have:=hU _ h;omega
    ·omega) (by rw[hd];exact im (nS E T) hR w9 fu) (by rw[e6];exact fu) fun iz σ2 a' w2 D2 ι2 hk T2 NC Dn mC=>hQ iz σ2 a' w2 D2 ι2 hk (T.trans T2) NC (Dn.trans (put_defers _ _ _)) (Nat.le_trans hle mC)
  ·rename_i Gt
   rw[if_neg Gt]
   refine ih sG (j+1) (upd env vo.dst .undef) σ (a.put o.dst undef) w D ι U rK hv S Us (fun s zi=>by have:=hU _ zi;omega) (by rw[hd];exact im E dd.undef w9 fu) (by rw[e6];exact fu) fun iz σ2 a' w2 D2 ι2 hk T2 NC Dn mC=>hQ iz σ2 a' w2 D2 ι2 hk T2 NC (Dn.trans (put_defers _ _ _)) mC
theorem yp {ops:Array Oper} {nt site0:Nat} {draw mk:Bool} {bs:Array Nat} {hidden:List (Nat×Bool)} {K:Env->au->Prop} {Q:Exit->Act->World->Prop}:∀(l:List Oper) (vl:List bH) (j:Nat) (env:Env) (σ:au) (a:Act) (w:World) (D:Nat->Prop) (ι:Names) (U:Nat->Prop),
  allM (kn P ops nt site0 draw mk bs hidden) l j=some vl->wpOps (Sound P) draw vl K env σ->gx P hs D ι σ.get w->Used ι σ.next U->(∀s,U s->s<site0+j)->cQ P w D ι env a->a.tmps.size=nt->
  (∀iz σ' a' w' D' ι',K iz σ'->Step hs D ι w D' ι' w'->St P hs nt D' ι' iz σ' a' w'->a'.defers=a.defers->σ.next<=σ'.next->Q .normal a' w')->wpList P ops Q l a w:=fun l vl j env σ a w D ι U h hv S Us hU E fu hQ=>by
 have:=vu [] l vl j env σ a w D ι U h hv S Us hU E fu hQ
 rwa [List.append_nil]at this
end
end Go.Proofs.YtgoljkjaameagaaGreat.V

namespace Go.Proofs.YtgoljkjaameagaaGreat.V
open Go.RowKit
variable {P:Program} {w w':World} {D D' D2:Nat->Prop} {ι ι' ι2:Names}
section
variable {hs:Nat} {X:fQ}
theorem bI {env iG:Env} {x:O} (h:∀t∈gO x,env t=iG t):cZ env x=cZ iG x:=by
 cases x with
 |t n=>exact h n (by simp[gO])
 |_=>rfl
theorem map_congr {env iG:Env} {l:List O} (h:∀t∈l.flatMap gO,env t=iG t):l.map (cZ env)=l.map (cZ iG):=
 List.map_congr_left fun x hx=>bI fun t ht=>h t (List.mem_flatMap.2 ⟨x,hx,ht⟩)
theorem oQ {env iG:Env} {x:Option O} (h:∀t∈vw x,env t=iG t):x.map (cZ env)=x.map (cZ iG):=by
 cases x with
 |none=>rfl
 |some y=>simp only[Option.map_some];rw[bI h]
theorem sq {env iG:Env} {o:gy} {g:Rows} {id:Id} (h:∀t∈o.gF,env t=iG t):ef o (cZ env) g id=ef o (cZ iG) g id:=by
 cases o<;>simp only[gy.gF,List.mem_append]at h<;>simp only[ef]
 case dq x=>rw[bI h]
 case pick c a b=>rw[bI (x:=c) fun t ht=>h t (.inl (.inl ht)),bI (x:=a) fun t ht=>h t (.inl (.inr ht)),bI (x:=b) fun t ht=>h t (.inr ht)]
 case box x=>rw[bI h]
 case build z ps=>
  have:(ps.map fun(x:Nat×Nat×O)=>(x.1,x.2.1,cZ env x.2.2))=ps.map fun(x:Nat×Nat×O)=>(x.1,x.2.1,cZ iG x.2.2):=List.map_congr_left fun x hx=>by
   rw[bI (x:=x.2.2) fun t ht=>h t (List.mem_flatMap.2 ⟨x,hx,ht⟩)]
  rw[this]
 case lr a b l=>rw[map_congr h]
 case load a n x=>rw[bI h]
 case AI x=>rw[bI h]
 case bin a b x y=>rw[bI (x:=x) fun t ht=>h t (.inl ht),bI (x:=y) fun t ht=>h t (.inr ht)]
 case sh a x y=>rw[bI (x:=x) fun t ht=>h t (.inl ht),bI (x:=y) fun t ht=>h t (.inr ht)]
 case KW a x y=>rw[bI (x:=x) fun t ht=>h t (.inl ht),bI (x:=y) fun t ht=>h t (.inr ht)]
 case MJ a b x y=>rw[bI (x:=x) fun t ht=>h t (.inl ht),bI (x:=y) fun t ht=>h t (.inr ht)]
 case Sx a b x y=>rw[bI (x:=x) fun t ht=>h t (.inl ht),bI (x:=y) fun t ht=>h t (.inr ht)]
 case QN a b x=>rw[bI h]
 case Sy a x=>rw[bI h]
 case not x=>rw[bI h]
 case neg x=>rw[bI h]
 case conv k x=>rw[bI h]
 case ES x=>rw[bI h]
 case slice s x lo hi=>rw[bI (x:=x) fun t ht=>h t (.inl (.inl ht)),oQ (x:=lo) fun t ht=>h t (.inl (.inr ht)),oQ (x:=hi) fun t ht=>h t (.inr ht)]
 case zO x lo hi=>rw[bI (x:=x) fun t ht=>h t (.inl (.inl ht)),oQ (x:=lo) fun t ht=>h t (.inl (.inr ht)),oQ (x:=hi) fun t ht=>h t (.inr ht)]
 case fx k x=>rw[bI h]
 case field a b c x=>rw[bI h]
 case ea s x y=>rw[bI (x:=x) fun t ht=>h t (.inl ht),bI (x:=y) fun t ht=>h t (.inr ht)]
 case LD n s x y=>rw[bI (x:=x) fun t ht=>h t (.inl ht),bI (x:=y) fun t ht=>h t (.inr ht)]
 case LG x y=>rw[bI (x:=x) fun t ht=>h t (.inl ht),bI (x:=y) fun t ht=>h t (.inr ht)]
 case eO a b c x y=>rw[bI (x:=x) fun t ht=>h t (.inl ht),bI (x:=y) fun t ht=>h t (.inr ht)]
 case extract i x=>rw[bI h]
 case len x=>rw[bI h]
 case LO x=>rw[bI h]
 case Jp x=>rw[bI h]
 case Jf x=>rw[bI h]
 case LV f l=>rw[map_congr h]
 case LW f l=>rw[map_congr h]
 case mq f l=>rw[map_congr h]
 case jJ z x y=>rw[bI (x:=x) fun t ht=>h t (.inl ht),bI (x:=y) fun t ht=>h t (.inr ht)]
theorem gR {env iG:Env} {o:gy} {g:Rows} {id:Id} (h:∀t∈o.gF,env t=iG t):e9 o (cZ env) g id=e9 o (cZ iG) g id:=by
 cases o<;>simp only[gy.gF,List.mem_append]at h<;>simp only[e9]
 case clear z x=>rw[bI h]
 case mw f l=>rw[map_congr h]
 all_goals rename_i a x y
 all_goals rw[bI (x:=x) fun t ht=>h t (.inl ht),bI (x:=y) fun t ht=>h t (.inr ht)]
theorem HR {n:Nat} {vo:bH} {env iG:Env} {g g':Rows} {v:AV} (h:∀t∈vo.op.gF,env t=iG t) (hv:VS X n vo env g v g'):VS X n vo iG g v g':=by
 unfold VS at hv ⊢
 split at hv
 ·rename_i f args ez
  rw[ez]at h
  simp only[gy.gF]at h
  rw[<-map_congr h];exact hv
 ·rename_i x args ez
  rw[ez]at h
  simp only[gy.gF,List.mem_append]at h
  rw[<-map_congr (l:=args) fun t ht=>h t (.inr ht),<-bI (x:=x) fun t ht=>h t (.inl ht)];exact hv
 ·rw[<-gR h];exact hv
 ·rw[<-gR h];exact hv
 ·rw[<-gR h];exact hv
 ·rw[<-gR h];exact hv
 ·rw[<-gR h];exact hv
 ·rw[<-sq h];exact hv
theorem DS {q:MQ} {vs:List AV} {g:Rows} {id:Id} {v:AV} {r:Row} (h:bp q vs g id=some (v,some r)):∃m,q=.new m:=by
 unfold bp at h
 split at h
 ·exact⟨_,rfl⟩
 ·simp[Option.bind_eq_some_iff]at h
 ·simp at h
 ·cases h
theorem vG {o:gy} {ρ:O->AV} {g:Rows} {id:Id} {v:AV} {r:Row} (h:ef o ρ g id=some (v,some r)):p9 o=true:=by
 cases o<;>simp only[ef]at h<;>(try rfl)<;>(try simp at h)
 case mq q xs=>obtain⟨m,rfl⟩:=DS h;rfl
 all_goals (try(split at h<;>simp at h))
theorem vH {o:gy} {ρ:O->AV} {g g2:Rows} {id id2:Id} (h:o.cls=.pure):ef o ρ g id=ef o ρ g2 id2:=by
 cases o<;>(try simp[gy.cls]at h)<;>(try simp only[ef])
 case mq q xs=>cases q<;>simp[gy.cls]at h
theorem uo {n:Nat} {vo:bH} {env:Env} {g g':Rows} {v:AV} (hw:vo.op.cls≠.write) (hv:VS X n vo env g v g'):∃mr,g'=iU g ⟨vo.site,n⟩ mr/\(mr≠none->vo.makes=true)/\∀g0,e8 vo.hid n g0=e8 vo.hid n g->VS X n vo env g0 v (iU g0 ⟨vo.site,n⟩ mr):=by
 unfold VS at hv
 split at hv
 ·rename_i f args ez
  rcases hv with⟨h1,rfl⟩|⟨hs,sz,rows,hM,rfl,rfl⟩
  ·refine⟨none,rfl,fun h=>(h rfl).elim,fun g0 h0=>?_⟩
   unfold VS;rw[ez];simp only;unfold uw;rw[h0];exact .inl ⟨h1,rfl⟩
  ·refine⟨some _,rfl,fun _=>by unfold bH.makes;rw[ez,hs];simp[gy.lx],fun g0 h0=>?_⟩
   unfold VS;rw[ez];simp only;unfold uw;rw[h0];exact .inr ⟨hs,sz,rows,hM,rfl,rfl⟩
 ·rename_i x args ez
  obtain⟨f,di,hx,hv⟩:=hv
  rcases hv with⟨h1,rfl⟩|⟨hs,sz,rows,hM,rfl,rfl⟩
  ·refine⟨none,rfl,fun h=>(h rfl).elim,fun g0 h0=>?_⟩
   unfold VS;rw[ez];simp only;unfold uw;rw[h0];exact⟨f,di,hx,.inl ⟨h1,rfl⟩⟩
  ·refine⟨some _,rfl,fun _=>by unfold bH.makes;rw[ez,hs];simp[gy.lx],fun g0 h0=>?_⟩
   unfold VS;rw[ez];simp only;unfold uw;rw[h0];exact⟨f,di,hx,.inr ⟨hs,sz,rows,hM,rfl,rfl⟩⟩
 ·rename_i ez;rw[ez]at hw;exact(hw rfl).elim
 ·rename_i ez;rw[ez]at hw;exact(hw rfl).elim
 ·rename_i ez;rw[ez]at hw;exact(hw rfl).elim
 ·rename_i ez;rw[ez]at hw;exact(hw rfl).elim
 ·rename_i ez;rw[ez]at hw;exact(hw rfl).elim
 ·rename_i n1 n2 n3 n4 n5 n6 n7
  obtain⟨mr,hq,rfl⟩:=hv
  refine⟨mr,rfl,fun h=>?_,fun g0 h0=>?_⟩
  ·cases mr with
   |none=>exact(h rfl).elim
   |some r=>unfold bH.makes;rw[vG hq];rfl
  ·unfold VS
   split
   ·rename_i hh;exact(n1 _ _ hh).elim
   ·rename_i hh;exact(n2 _ _ hh).elim
   ·rename_i hh;exact(n3 _ _ _ hh).elim
   ·rename_i hh;exact(n4 _ _ _ hh).elim
   ·rename_i hh;exact(n5 _ _ _ hh).elim
   ·rename_i hh;exact(n6 _ _ hh).elim
   ·rename_i hh;exact(n7 _ _ hh).elim
   ·rw[h0];exact⟨mr,hq,rfl⟩
theorem yN {n:Nat} {vo:bH} {env:Env} {g g':Rows} {v:AV} (hp:vo.op.cls=.pure) (hv:VS X n vo env g v g'):g'=g/\∀g0,VS X n vo env g0 v g0:=by
 unfold VS at hv
 split at hv
 ·rename_i ez;rw[ez]at hp;simp[gy.cls]at hp
 ·rename_i ez;rw[ez]at hp;simp[gy.cls]at hp
 ·rename_i ez;rw[ez]at hp;simp[gy.cls]at hp
 ·rename_i ez;rw[ez]at hp;simp[gy.cls]at hp
 ·rename_i ez;rw[ez]at hp;simp[gy.cls]at hp
 ·rename_i ez;rw[ez]at hp;simp[gy.cls]at hp
 ·rename_i ez;rw[ez]at hp;simp[gy.cls]at hp
 ·rename_i n1 n2 n3 n4 n5 n6 n7
  obtain⟨mr,hq,rfl⟩:=hv
  have UO:mr=none:=by
   cases mr with
   |none=>rfl
   |some r=>have:=vG hq;simp[p9,hp]at this
  subst UO
  refine⟨rfl,fun g0=>?_⟩
  unfold VS
  split
  ·rename_i hh;exact(n1 _ _ hh).elim
  ·rename_i hh;exact(n2 _ _ hh).elim
  ·rename_i hh;exact(n3 _ _ _ hh).elim
  ·rename_i hh;exact(n4 _ _ _ hh).elim
  ·rename_i hh;exact(n5 _ _ _ hh).elim
  ·rename_i hh;exact(n6 _ _ hh).elim
  ·rename_i hh;exact(n7 _ _ hh).elim
  ·exact⟨none,by rw[vH hp];exact hq,rfl⟩
def GS (X:fQ) (n:Nat) (vo:bH) (env:Env) (g:Rows) (v:AV) (g':Rows):Prop:=
 if aA vo.guard env then VS X n vo env g v g' else v=.undef/\g'=g
theorem Cr {hid:List Nat} {g:Rows} {s n:Nat} {mr:Option Row} (h:mr≠none->hid.contains s=true):e8 hid n (iU g ⟨s,n⟩ mr)=e8 hid n g:=by
 cases mr with
 |none=>rfl
 |some r=>
  have hc:=h (by simp)
  cases hid with
  |nil=>simp at hc
  |cons a l=>
   funext i
   show(if (a::l).contains i.site=true/\i.cV=n then none else iU g ⟨s,n⟩ (some r) i)=if (a::l).contains i.site=true/\i.cV=n then none else g i
   by_cases hi:i=⟨s,n⟩
   ·subst hi;rw[if_pos ⟨hc,rfl⟩,if_pos ⟨hc,rfl⟩]
   ·simp only[iU,bD,if_neg hi]
theorem FP {g:Rows} {i j:Id} (h:i≠j) (m1 m2:Option Row):iU (iU g i m1) j m2=iU (iU g j m2) i m1:=by
 cases m1<;>cases m2<;>simp only[iU]
 funext k
 simp only[bD]
 by_cases h1:k=i
 ·subst h1;rw[if_neg h,if_pos rfl];simp
 ·by_cases h2:k=j
  ·subst h2;simp[h1]
  ·simp[h1,h2]
theorem wD {env:Env} {d e:Option Nat} {v u:AV} (h:∀k,d=some k->e≠some k):upd (upd env d v) e u=upd (upd env e u) d v:=by
 cases d with
 |none=>rfl
 |some d=>
  cases e with
  |none=>rfl
  |some e=>
   have gP:d≠e:=fun he=>h d rfl (by rw[he])
   funext t
   simp only[upd]
   by_cases h1:t=d
   ·subst h1;rw[if_neg gP,if_pos rfl,if_pos rfl]
   ·by_cases h2:t=e
    ·subst h2;rw[if_pos rfl,if_neg h1,if_pos rfl]
    ·simp[h1,h2]
theorem mc {env:Env} {d:Option Nat} {v:AV} {l:List Nat} (h:∀k,d=some k->k∉l):∀t∈l,upd env d v t=env t:=by
 intro t ht
 cases d with
 |none=>rfl
 |some d=>
  have:t≠d:=fun he=>h d rfl (he▸ht)
  simp[upd,this]
structure CJ (x y:bH):Prop where
 xy:∀k,x.dst=some k->k∉y.gF
 yx:∀k,y.dst=some k->k∉x.gF
 dst:∀k,x.dst=some k->y.dst≠some k
 cls:clash x.op.cls y.op.cls=false
 hx:x.makes=true->y.hid.contains x.site=true
 hy:y.makes=true->x.hid.contains y.site=true
 site:x.site≠y.site
theorem CJ.symm {x y:bH} (h:CJ x y):CJ y x:=
 ⟨h.yx,h.xy,fun k hk he=>h.dst k he hk,by have:=h.cls;revert this;cases x.op.cls<;>cases y.op.cls<;>simp[clash],h.hy,h.hx,fun e=>h.site e.symm⟩
theorem pS {x y:bH} (h:E5 x y=true):CJ x y:=by
 unfold E5 at h
 simp only[Bool.and_eq_true,Bool.not_eq_true',Bool.or_eq_true,bne_iff_ne]at h
 obtain⟨⟨⟨⟨h1,h2⟩,h3⟩,h4⟩,h5⟩:=h
 unfold sF at h1
 simp only[Bool.and_eq_true]at h1
 obtain⟨a1,a2⟩:=h1
 refine⟨fun k hk=>?_,fun k hk=>?_,fun k hk=>?_,h2,fun hm=>?_,fun hm=>?_,h5⟩
 ·rw[hk]at a1;simp at a1;exact a1.1
 ·rw[hk]at a2;simpa using a2
 ·rw[hk]at a1;simp at a1;exact a1.2
 ·rcases h3 with h3|h3
  ·rw[hm]at h3;cases h3
  ·exact h3
 ·rcases h4 with h4|h4
  ·rw[hm]at h4;cases h4
  ·exact h4
theorem rj {vo:bH} {t:Nat} (h:t∈vo.op.gF):t∈vo.gF:=List.mem_append_left _ h
theorem mL {vo:bH} {env iG:Env} (h:∀t∈vo.gF,env t=iG t):aA vo.guard env=aA vo.guard iG:=by
 unfold aA
 cases hg:vo.guard with
 |none=>rfl
 |some p=>
  obtain⟨t,b⟩:=p
  have:env t=iG t:=h t (List.mem_append_right _ (by rw[hg];simp))
  simp only[this]
theorem uh {n:Nat} {vo:bH} {env iG:Env} {g g':Rows} {v:AV} (h:∀t∈vo.gF,env t=iG t) (hv:GS X n vo env g v g'):GS X n vo iG g v g':=by
 unfold GS at hv ⊢
 rw[<-mL h]
 split at hv
 ·rename_i hw;rw[if_pos hw];exact HR (fun t ht=>h t (rj ht)) hv
 ·rename_i hw;rw[if_neg hw];exact hv
theorem EI {n:Nat} {x y:bH} {env:Env} {g g1 g2:Rows} {v v':AV} (F:CJ x y) (h1:GS X n x env g v g1) (h2:GS X n y (upd env x.dst v) g1 v' g2):
  ∃K9,GS X n y env g v' K9/\GS X n x (upd env y.dst v') K9 v g2/\upd (upd env x.dst v) y.dst v'=upd (upd env y.dst v') x.dst v:=by
 have Nc:=wD (env:=env) (v:=v) (u:=v') F.dst
 replace h2:GS X n y env g1 v' g2:=uh (mc F.xy) h2
 have back:∀{K9},GS X n x env K9 v g2->GS X n x (upd env y.dst v') K9 v g2:=fun h=>uh (fun t ht=>(mc F.yx t ht).symm) h
 unfold GS at h1 h2
 by_cases wx:aA x.guard env=true
 ·rw[if_pos wx]at h1
  by_cases wy:aA y.guard env=true
  ·rw[if_pos wy]at h2
   by_cases cx:x.op.cls=.write
   ·have cy:y.op.cls=.pure:=by
     have:=F.cls;rw[cx]at this
     cases hc:y.op.cls<;>simp[clash,hc]at this ⊢
    obtain⟨rfl,ee⟩:=yN cy h2
    exact⟨g,by unfold GS;rw[if_pos wy];exact ee g,back (by unfold GS;rw[if_pos wx];exact h1),Nc⟩
   ·by_cases cy:y.op.cls=.write
    ·have cx':x.op.cls=.pure:=by
      have:=F.cls;rw[cy]at this
      cases hc:x.op.cls<;>simp[clash,hc]at this ⊢
     obtain⟨rfl,ee⟩:=yN cx' h1
     exact⟨g2,by unfold GS;rw[if_pos wy];exact h2,back (by unfold GS;rw[if_pos wx];exact ee g2),Nc⟩
    ·obtain⟨mx,rfl,kx,Tz⟩:=uo cx h1
     obtain⟨my,rfl,ky,NH⟩:=uo cy h2
     have gP:(⟨x.site,n⟩:Id)≠⟨y.site,n⟩:=fun e=>F.site (by injection e)
     refine⟨iU g ⟨y.site,n⟩ my,?_,back ?_,Nc⟩
     ·unfold GS;rw[if_pos wy]
      exact NH g (Cr fun h=>F.hx (kx h)).symm
     ·unfold GS;rw[if_pos wx,FP gP]
      exact Tz _ (Cr fun h=>F.hy (ky h))
  ·rw[if_neg wy]at h2
   obtain⟨rfl,rfl⟩:=h2
   exact⟨g,by unfold GS;rw[if_neg wy];exact⟨rfl,rfl⟩,back (by unfold GS;rw[if_pos wx];exact h1),Nc⟩
 ·rw[if_neg wx]at h1
  obtain⟨rfl,rfl⟩:=h1
  exact⟨g2,h2,back (by unfold GS;rw[if_neg wx];exact⟨rfl,rfl⟩),Nc⟩
end
end Go.Proofs.YtgoljkjaameagaaGreat.V

namespace Go.Proofs.YtgoljkjaameagaaGreat.V
open Go.RowKit
variable {P:Program} {w w':World} {D D' D2:Nat->Prop} {ι ι' ι2:Names}
section
variable {hs:Nat} {X:fQ}
def iV (acc:Array Nat) (o:Oper):Nat:=o.after.foldl (fun s e=>if Region.binds .any e then s|||2 ^ e.on|||acc.getD e.on 0 else s) 0
theorem KQ (ops:Array Oper):jn ops=ops.foldl (fun acc o=>acc.push (iV acc o)) #[]:=rfl
theorem Ay {acc:Array Nat} {o:Oper} {i:Nat} (h:(iV acc o).testBit i=true):∃e∈o.after,Region.binds .any e=true/\(e.on=i∨(acc.getD e.on 0).testBit i=true):=by
 unfold iV at h
 rw[<-Array.foldl_toList]at h
 have gen:∀(l:List Edge) (s:Nat),(l.foldl (fun s e=>if Region.binds .any e then s|||2 ^ e.on|||acc.getD e.on 0 else s) s).testBit i=true->s.testBit i=true∨∃e∈l,Region.binds .any e=true/\(e.on=i∨(acc.getD e.on 0).testBit i=true):=by
  intro l
  induction l with
  |nil=>intro s h;exact .inl h
  |cons e r ih=>
   intro s h
   rw[List.foldl_cons]at h
   rcases ih _ h with h|⟨e',Lg,h'⟩
   ·by_cases hb:Region.binds .any e=true
    ·rw[if_pos hb]at h
     simp only[Nat.testBit_or,Bool.or_eq_true]at h
     rcases h with(h|h)|h
     ·exact .inl h
     ·refine .inr ⟨e,by simp,hb,.inl ?_⟩
      rw[Nat.testBit_two_pow]at h
      simpa using h
     ·exact .inr ⟨e,by simp,hb,.inr h⟩
    ·rw[if_neg hb]at h;exact .inl h
   ·exact .inr ⟨e',List.mem_cons_of_mem _ Lg,h'⟩
 rcases gen _ _ h with h|⟨e,he,h⟩
 ·simp at h
 ·exact⟨e,Array.mem_toList_iff.1 he,h⟩
theorem HZ {ops:Array Oper} {j i:Nat} (h:((jn ops).getD j 0).testBit i=true):∃o,ops[j]? =some o/\∃e∈o.after,Region.binds .any e=true/\(e.on=i∨((jn ops).getD e.on 0).testBit i=true):=by
 have key:∀(l pre:List Oper) (acc:Array Nat),acc.size=pre.length->(∀j i,(acc.getD j 0).testBit i=true->∃o,pre[j]? =some o/\∃e∈o.after,Region.binds .any e=true/\(e.on=i∨(acc.getD e.on 0).testBit i=true))->
   ∀j i,((l.foldl (fun acc o=>acc.push (iV acc o)) acc).getD j 0).testBit i=true->∃o,(pre++l)[j]? =some o/\∃e∈o.after,Region.binds .any e=true/\(e.on=i∨((l.foldl (fun acc o=>acc.push (iV acc o)) acc).getD e.on 0).testBit i=true):=by
  intro l
  induction l with
  |nil=>intro pre acc _ h j i hb;simpa using h j i hb
  |cons o r ih=>
   intro pre acc fu h j i hb
   have yn:∀k,k<acc.size->(acc.push (iV acc o)).getD k 0=acc.getD k 0:=fun k hk=>by
    simp only[Array.getD_eq_getD_getElem?,Array.getElem?_push]
    rw[if_neg ai]
   have TC:∀k,acc.size<=k->acc.getD k 0=0:=fun k hk=>by simp[Array.getElem?_eq_none hk]
   have lift:∀k i,(acc.getD k 0).testBit i=true->((acc.push (iV acc o)).getD k 0).testBit i=true:=fun k i hk=>by
    by_cases eh:k<acc.size
    ·rw[yn k eh];exact hk
    ·rw[TC k ai]at hk;simp at hk
   have:=ih (pre++[o]) (acc.push (iV acc o)) (by simp[fu]) (fun j i hb=>by
    by_cases eh:j<acc.size
    ·rw[yn j eh]at hb
     obtain⟨o',CB,e,he,fW,h2⟩:=h j i hb
     refine⟨o',by rw[List.getElem?_append_left ai];exact CB,e,he,fW,?_⟩
     rcases h2 with h2|h2
     ·exact .inl h2
     ·exact .inr (lift _ _ h2)
    ·by_cases hj:j=acc.size
     ·subst hj
      have e0:(acc.push (iV acc o)).getD acc.size 0=iV acc o:=by simp
      rw[e0]at hb
      obtain⟨e,he,fW,h2⟩:=Ay hb
      refine⟨o,by rw[List.getElem?_append_right ai,fu];simp,e,he,fW,?_⟩
      rcases h2 with h2|h2
      ·exact .inl h2
      ·exact .inr (lift _ _ h2)
     ·have:(acc.push (iV acc o)).getD j 0=0:=by
       simp only[Array.getD_eq_getD_getElem?]
       rw[Array.getElem?_eq_none (by simp;omega)];rfl
      rw[this]at hb;simp at hb) j i (by simpa using hb)
   simpa using this
 rw[KQ,<-Array.foldl_toList]at h ⊢
 have:=key ops.toList [] #[] rfl (fun j i h=>by simp at h) j i h
 simpa using this
def DC (ops:Array Oper) (listed:Array Bool):Prop:=∀k i,listed.getD k false=true->((jn ops).getD k 0).testBit i=true->listed.getD i false=true
theorem kD {ops:Array Oper} {listed:Array Bool} (h:DC ops listed) {j:Nat} (hj:j∈Region.ready .any ops listed):∀i,((jn ops).getD j 0).testBit i=true->listed.getD i false=true:=by
 intro i hb
 obtain⟨_,o,ho,ee⟩:=mem_ready.1 hj
 obtain⟨o',CB,e,he,fW,h2⟩:=HZ hb
 rw[ho]at CB;injection CB with CB;subst CB
 have hl:=ee e he fW
 rcases h2 with h2|h2
 ·rw[<-h2];exact hl
 ·exact h _ _ hl h2
theorem DC.list {ops:Array Oper} {listed:Array Bool} (h:DC ops listed) {j:Nat} (hj:j∈Region.ready .any ops listed):DC ops (listed.setIfInBounds j true):=by
 intro k i hk hb
 by_cases hkj:k=j
 ·subst hkj;exact getD_set_true (kD h hj i hb)
 ·rw[getD_set_ne false (fun e=>hkj e.symm)]at hk
  exact getD_set_true (h k i hk hb)
theorem iO {ops:Array Oper} {listed:Array Bool} {j:Nat} (hj:j∈Region.ready .any ops listed):listed.getD j false=false:=by
 have h0:=(mem_ready.1 hj).1
 rcases Nat.lt_or_ge j listed.size with h|h
 ·simp[h]at h0 ⊢;exact h0
 ·simp[Array.getElem?_eq_none h]at h0
def Kf (X:fQ) (n:Nat) (ops:Array Oper) (vl:List bH) (K:Env->Rows->Prop):Nat->Array Bool->Env->Rows->Prop
 |0,listed,env,g=>Region.ready .any ops listed=[]/\K env g
 |f+1,listed,env,g=>(Region.ready .any ops listed=[]->K env g)/\∀i∈Region.ready .any ops listed,∃vo,vl[i]? =some vo/\∃v g',GS X n vo env g v g'/\Kf X n ops vl K f (listed.setIfInBounds i true) (upd env vo.dst v) g'
theorem AQ {ops:Array Oper} {vl:List bH} (h:nR ops vl (jn ops)=true) {i j:Nat} {x y:bH} (hi:vl[i]? =some x) (hj:vl[j]? =some y) (Gk:i≠j) (h1:((jn ops).getD j 0).testBit i=false) (h2:((jn ops).getD i 0).testBit j=false):CJ x y:=by
 unfold nR at h
 simp only[Bool.and_eq_true,List.all_eq_true]at h
 obtain⟨_,h⟩:=h
 have mem:∀(k:Nat) (z:bH),vl[k]? =some z->(z,k)∈vl.zipIdx:=fun k z hk=>by
  rw[List.mem_iff_getElem?]
  exact⟨k,by simp[List.getElem?_zipIdx,hk]⟩
 rcases Nat.lt_or_gt_of_ne Gk with eh|Lj
 ·have:=h _ (mem j y hj) _ (mem i x hi)
  simp only[eh,decide_true,Bool.not_true,Bool.false_or,h1]at this
  exact pS this
 ·have:=h _ (mem i x hi) _ (mem j y hj)
  simp only[Lj,decide_true,Bool.not_true,Bool.false_or,h2]at this
  exact(pS this).symm
theorem EE {n:Nat} {ops:Array Oper} {vl:List bH} {K:Env->Rows->Prop} (uS:nR ops vl (jn ops)=true) (hlen:vl.length=ops.size) {i:Nat} {vi:bH} (hi:vl[i]? =some vi) {v:AV}:∀(fuel:Nat) (listed:Array Bool) (env:Env) (g g1:Rows),
  DC ops listed->i∈Region.ready .any ops listed->GS X n vi env g v g1->Kf X n ops vl K fuel (listed.setIfInBounds i true) (upd env vi.dst v) g1->Kf X n ops vl K (fuel+1) listed env g:=by
 intro fuel
 induction fuel with
 |zero=>
  intro listed env g g1 _ hr hG H
  refine⟨fun h=>(by rw[h]at hr;cases hr),fun j hj=>?_⟩
  by_cases mj:j=i
  ·subst mj;exact⟨vi,hi,v,g1,hG,H⟩
  ·have:=ready_mono hj mj
   rw[H.1]at this;cases this
 |succ fuel ih=>
  intro listed env g g1 rG hr hG H
  refine⟨fun h=>(by rw[h]at hr;cases hr),fun j hj=>?_⟩
  by_cases mj:j=i
  ·subst mj;exact⟨vi,hi,v,g1,hG,H⟩
  ·obtain⟨vj,LB,v',g2,hG2,H2⟩:=H.2 j (ready_mono hj mj)
   have b1:((jn ops).getD j 0).testBit i=false:=by
    cases hb:((jn ops).getD j 0).testBit i with
    |false=>rfl
    |true=>have:=kD rG hj i hb;rw[iO hr]at this;cases this
   have b2:((jn ops).getD i 0).testBit j=false:=by
    cases hb:((jn ops).getD i 0).testBit j with
    |false=>rfl
    |true=>have:=kD rG hr j hb;rw[iO hj]at this;cases this
   have F:=AQ uS hi LB (fun e=>mj e.symm) b1 b2
   obtain⟨K9,q1,q2,q3⟩:=EI F hG hG2
   refine⟨vj,LB,v',K9,q1,ih _ _ _ g2 (rG.list hj) (ready_mono hr (fun e=>mj e.symm)) q2 ?_⟩
   rw[<-q3,Array.setIfInBounds_comm _ _ mj]
   exact H2
theorem NF {n:Nat} {vo:bH} {env:Env} {g:Rows} {v:AV} {mr:Option Row} (h:ef vo.op (cZ env) (e8 vo.hid n g) ⟨vo.site,n⟩=some (v,mr)):VS X n vo env g v (iU g ⟨vo.site,n⟩ mr):=by
 unfold VS
 split
 ·rename_i ez;rw[ez]at h;simp[ef]at h
 ·rename_i ez;rw[ez]at h;simp[ef]at h
 ·rename_i ez;rw[ez]at h;simp[ef]at h
 ·rename_i ez;rw[ez]at h;simp[ef]at h
 ·rename_i ez;rw[ez]at h;simp[ef]at h
 ·rename_i ez;rw[ez]at h;simp[ef]at h
 ·rename_i ez;rw[ez]at h;simp[ef]at h
 ·exact⟨mr,h,rfl⟩
theorem HS {n:Nat} {vo:bH} {env:Env} {g g':Rows} {v:AV} (h:e9 vo.op (cZ env) g ⟨vo.site,n⟩=some (v,g')):VS X n vo env g v g':=by
 unfold VS
 split
 ·rename_i ez;rw[ez]at h;simp[e9]at h
 ·rename_i ez;rw[ez]at h;simp[e9]at h
 ·exact h
 ·exact h
 ·exact h
 ·exact h
 ·exact h
 ·rename_i n1 n2 n3 n4 n5 n6 n7
  exfalso
  unfold e9 at h
  split at h
  ·rename_i hh;exact n3 _ _ _ hh
  ·rename_i hh;exact n4 _ _ _ hh
  ·rename_i hh;exact n5 _ _ _ hh
  ·rename_i hh;exact n6 _ _ hh
  ·rename_i hh;exact n7 _ _ hh
  ·simp at h
theorem PE {vo:bH} {env:Env} {σ:au} {next:AV->au->Prop} (hv:eV X true vo env σ next):∃v g',VS X σ.next vo env σ.get v g'/\next v ⟨g',σ.next⟩:=by
 unfold eV at hv
 split at hv
 ·rename_i f args ez
  rcases hv with⟨r,hP,hn⟩|⟨h,_⟩|⟨hs,sz,rows,hM,hn⟩
  ·exact⟨r,σ.get,by unfold VS;rw[ez];exact .inl ⟨hP,rfl⟩,hn⟩
  ·cases h
  ·exact⟨_,_,by unfold VS;rw[ez];exact .inr ⟨hs,sz,rows,hM,rfl,rfl⟩,hn⟩
 ·rename_i x args ez
  split at hv
  ·rename_i f di hx
   have wM:uv (cZ env x) (args.map (cZ env))=some (f,args.map (cZ env)++di):=by rw[hx];rfl
   rcases hv with⟨r,hP,hn⟩|⟨h,_⟩|⟨hs,sz,rows,hM,hn⟩
   ·exact⟨r,σ.get,by unfold VS;rw[ez];exact⟨f,_,wM,.inl ⟨hP,rfl⟩⟩,hn⟩
   ·cases h
   ·exact⟨_,_,by unfold VS;rw[ez];exact⟨f,_,wM,.inr ⟨hs,sz,rows,hM,rfl,rfl⟩⟩,hn⟩
  ·rename_i f di hx
   have wM:uv (cZ env x) (args.map (cZ env))=some (f,di++args.map (cZ env)):=by rw[hx];rfl
   rcases hv with⟨r,hP,hn⟩|⟨h,_⟩|⟨hs,sz,rows,hM,hn⟩
   ·exact⟨r,σ.get,by unfold VS;rw[ez];exact⟨f,_,wM,.inl ⟨hP,rfl⟩⟩,hn⟩
   ·cases h
   ·exact⟨_,_,by unfold VS;rw[ez];exact⟨f,_,wM,.inr ⟨hs,sz,rows,hM,rfl,rfl⟩⟩,hn⟩
  ·exact hv.elim
 ·split at hv
  ·rename_i v g h;exact⟨v,g,HS h,hv⟩
  ·exact hv.elim
 ·split at hv
  ·rename_i v g h;exact⟨v,g,HS h,hv⟩
  ·exact hv.elim
 ·split at hv
  ·rename_i v g h;exact⟨v,g,HS h,hv⟩
  ·exact hv.elim
 ·split at hv
  ·rename_i v g h;exact⟨v,g,HS h,hv⟩
  ·exact hv.elim
 ·split at hv
  ·rename_i v g h;exact⟨v,g,HS h,hv⟩
  ·exact hv.elim
 ·split at hv
  ·rename_i v r h;exact⟨v,_,NF h,hv⟩
  ·rename_i v h;exact⟨v,_,NF h,hv⟩
  ·exact hv.elim
theorem wE {ops:Array Oper} {vl:List bH} {K:Env->au->Prop} {n:Nat} (uS:nR ops vl (jn ops)=true) (hlen:vl.length=ops.size):∀(r:List bH) (k:Nat) (listed:Array Bool) (env:Env) (g:Rows),
  (∀j,r[j]? =vl[k+j]?)->listed.size=ops.size->(∀i,i<ops.size->listed[i]? =some (decide (i<k)))->k+r.length=ops.size->DC ops listed->wpOps X true r K env ⟨g,n⟩->Kf X n ops vl (fun env g=>K env ⟨g,n+1⟩) r.length listed env g
 |[],k,listed,env,g,_,fu,hl,hk,_,hv=>by
  refine⟨?_,hv⟩
  rw[List.eq_nil_iff_forall_not_mem]
  intro j hj
  obtain⟨h0,o,ho,_⟩:=mem_ready.1 hj
  have eh:j<ops.size:=(Array.getElem?_eq_some_iff.1 ho).1
  have:=hl j eh
  simp at hk
  simp[this,show j<k by omega]at h0
 |vo::r,k,listed,env,g,hr,fu,hl,hk,rG,hv=>by
  simp only[List.length_cons]at hk
  have pd:vl[k]? =some vo:=by simpa using(hr 0).symm
  have ml:k<ops.size:=ai
  have IX:k∈Region.ready .any ops listed:=by
   rw[mem_ready]
   refine⟨by simp[hl k ml],ops[k],Array.getElem?_eq_getElem ml,fun e he hb=>?_⟩
   unfold nR EV at uS
   simp only[Bool.and_eq_true,List.all_eq_true]at uS
   have hm:(ops[k],k)∈ops.toList.zipIdx:=by
    rw[List.mem_iff_getElem?]
    exact⟨k,by simp[List.getElem?_zipIdx,ml]⟩
   have:=uS.1 _ hm
   rw[Array.all_eq_true_iff_forall_mem]at this
   have:=this e he
   simp only[hb,Bool.not_true,Bool.false_or,decide_eq_true_eq]at this
   simp[hl e.on ai,this]
  have hGS:∃v g',GS X n vo env g v g'/\wpOps X true r K (upd env vo.dst v) ⟨g',n⟩:=by
   unfold wpOps at hv
   unfold GS
   split at hv
   ·rename_i hw
    simp only[hw,if_true]
    exact PE hv
   ·rename_i hw
    simp only[hw]
    exact⟨.undef,g,⟨rfl,rfl⟩,hv⟩
  obtain⟨v,g',h1,h2⟩:=hGS
  refine EE uS hlen pd r.length listed env g g' rG IX h1 ?_
  refine wE uS hlen r (k+1) _ _ _ (fun j=>by have:=hr (j+1);simpa[Nat.add_assoc,Nat.add_comm 1 j]using this) (by simp[fu]) (fun i hi=>?_) ai (rG.list IX) h2
  by_cases xU:i=k
  ·subst xU;simp[fu,ml]
  ·rw[Array.getElem?_setIfInBounds_ne (fun e=>xU e.symm),hl i hi]
   congr 1
   have:(i<k)=(i<k+1):=by apply propext;omega
   simp[this]
theorem nL {f:Nat->Oper->Option bH}:∀{l:List Oper} {vl:List bH} {j:Nat},allM f l j=some vl->vl.length=l.length/\∀(i:Nat) (o:Oper),l[i]? =some o->∃vo,vl[i]? =some vo/\f (j+i) o=some vo
 |[],vl,j,h=>by simp[allM]at h;subst h;simp
 |o::l,vl,j,h=>by
  simp only[allM,Option.bind_eq_bind,Option.bind_eq_some_iff,Option.pure_def,Option.some.injEq]at h
  obtain⟨vo,pd,sG,rK,rfl⟩:=h
  obtain⟨h1,h2⟩:=nL rK
  refine⟨by simp[h1],fun i o' hi=>?_⟩
  cases i with
  |zero=>simp at hi;subst hi;exact⟨vo,rfl,pd⟩
  |succ i=>
   simp at hi
   obtain⟨q,hq,hf⟩:=h2 i o' hi
   exact⟨q,by simpa using hq,by rw[<-hf];congr 1;omega⟩
theorem xz {ops:Array Oper} {vl:List bH} {nt site0:Nat} {draw mk:Bool} {bs:Array Nat} {hidden:List (Nat×Bool)} {n:Nat} {K:Env->Rows->Prop} {Q:Exit->Act->World->Prop} (ee:allM (kn P ops nt site0 draw mk bs hidden) ops.toList 0=some vl):
  ∀(fuel:Nat) (listed:Array Bool) (env:Env) (g:Rows) (a:Act) (w:World) (D:Nat->Prop) (ι:Names) (U:Nat->Prop),Kf (Sound P) n ops vl K fuel listed env g->gx P hs D ι g w->Used ι n U->(∀s,U s->∃i,s=site0+i/\listed.getD i false=true)->cQ P w D ι env a->a.tmps.size=nt->
  (∀iz g' a' w' D' ι' U',K iz g'->Step hs D ι w D' ι' w'->gx P hs D' ι' g' w'->Used ι' n U'->cQ P w' D' ι' iz a'->a'.tmps.size=nt->a'.defers=a.defers->Q .normal a' w')->wpAny P .any ops Q fuel listed a w:=by
 intro fuel
 induction fuel with
 |zero=>intro listed env g a w D ι U h S Us hU E fu hQ;exact⟨h.1,hQ env g a w D ι U h.2 (Step.refl _ _ _ _) S Us E fu rfl⟩
 |succ fuel ih=>
  intro listed env g a w D ι U h S Us hU E fu hQ
  refine⟨fun hr=>hQ env g a w D ι U (h.1 hr) (Step.refl _ _ _ _) S Us E fu rfl,fun i hi=>?_⟩
  obtain⟨vo,pd,v,g',hG,M6⟩:=h.2 i hi
  obtain⟨_,o,ho,_⟩:=mem_ready.1 hi
  obtain⟨vo',lU,Q7⟩:=(nL ee).2 i o (by simpa using ho)
  rw[pd]at lU;injection lU with lU;subst lU
  rw[Nat.zero_add]at Q7
  obtain⟨hc,hd,Br,w9,hg⟩:=oL Q7
  have hw:=sH (ops:=ops) (vo:=vo) E hg
  have Um:¬U vo.site:=fun hu=>by
   obtain⟨i',he,hl⟩:=hU _ hu
   have:i'=i:=ai
   subst this
   rw[iO hi]at hl;cases hl
  have jo:i<listed.size:=by
   have h0:=(mem_ready.1 hi).1
   rcases Nat.lt_or_ge i listed.size with h|h
   ·exact h
   ·simp[Array.getElem?_eq_none h]at h0
  unfold wpOp
  simp only[ho]
  rw[<-hw]
  unfold GS at hG
  by_cases Gt:aA vo.guard env=true
  ·rw[if_pos Gt]
   rw[if_pos Gt]at hG
   refine .inl (Av hc hG S Us Um E fun a' w' ⟨u,D',ι',ha,T,S',hR,U'⟩=>?_)
   subst ha
   refine ih _ _ _ _ w' D' ι' _ M6 S' U' (fun s zi=>?_) (by rw[hd];exact im (nS E T) hR w9 fu) (by rw[e6];exact fu) fun iz g2 a2 w2 D2 ι2 U2 hk T2 S2 Ty E2 lf Dn=>hQ iz g2 a2 w2 D2 ι2 U2 hk (T.trans T2) S2 Ty E2 lf (Dn.trans (put_defers _ _ _))
   rcases zi with h|h
   ·obtain⟨i',he,hl⟩:=hU _ h
    exact⟨i',he,getD_set_true hl⟩
   ·exact⟨i,by rw[h,Br],by simp[jo]⟩
  ·rw[if_neg Gt]
   rw[if_neg Gt]at hG
   obtain⟨rfl,rfl⟩:=hG
   refine ih _ _ _ _ w D ι U M6 S Us (fun s zi=>?_) (by rw[hd];exact im E dd.undef w9 fu) (by rw[e6];exact fu) fun iz g2 a2 w2 D2 ι2 U2 hk T2 S2 Ty E2 lf Dn=>hQ iz g2 a2 w2 D2 ι2 U2 hk T2 S2 Ty E2 lf (Dn.trans (put_defers _ _ _))
   obtain⟨i',he,hl⟩:=hU _ zi
   exact⟨i',he,getD_set_true hl⟩
end
end Go.Proofs.YtgoljkjaameagaaGreat.V

namespace Go.Proofs.YtgoljkjaameagaaGreat.V
open Go.RowKit
variable {P:Program} {w w':World} {D D' D2:Nat->Prop} {ι ι' ι2:Names}
section
variable {hs:Nat} {X:fQ}
def pg (X:fQ):Prop:=∀f args σ K K',(∀r σ',K r σ'->K' r σ')->X f args σ K->X f args σ K'
theorem kj:pg (Sound P):=fun _ _ _ _ _ hK h hs D ι w vs S U A=>
 (h hs D ι w vs S U A).mono fun _ _ ⟨r,g',n',D',ι',u,he,hk,rest⟩=>⟨r,g',n',D',ι',u,he,hK _ _ hk,rest⟩
def step (X:fQ) (vo:bH) (N:Env->au->Prop) (env:Env) (σ:au):Prop:=
 if aA vo.guard env then eV X false vo env σ fun v σ'=>N (upd env vo.dst v) σ' else N (upd env vo.dst .undef) σ
theorem pM (hK:pg X) {draw:Bool} {hid:List Nat} {site f:Nat} {args:List AV} {σ:au} {n n':AV->au->Prop} (hn:∀v σ',n v σ'->n' v σ') (hp:cm X draw hid site f args σ n):cm X draw hid site f args σ n':=by
 rcases hp with⟨r,h1,h2⟩|⟨h1,h2⟩|⟨h1,sz,rows,h2,h3⟩
 ·exact .inl ⟨r,h1,hn _ _ h2⟩
 ·exact .inr (.inl ⟨h1,hK _ _ _ _ _ hn h2⟩)
 ·exact .inr (.inr ⟨h1,sz,rows,h2,hn _ _ h3⟩)
theorem Cs (hK:pg X) {draw:Bool} {o:bH} {env:Env} {σ:au} {n n':AV->au->Prop} (hn:∀v σ',n v σ'->n' v σ') (hp:eV X draw o env σ n):eV X draw o env σ n':=by
 unfold eV at hp ⊢
 split at hp
 ·exact pM hK hn hp
 ·split at hp
  ·exact pM hK hn hp
  ·exact pM hK hn hp
  ·exact hp.elim
 ·split at hp
  ·exact hn _ _ hp
  ·exact hp.elim
 ·split at hp
  ·exact hn _ _ hp
  ·exact hp.elim
 ·split at hp
  ·exact hn _ _ hp
  ·exact hp.elim
 ·split at hp
  ·exact hn _ _ hp
  ·exact hp.elim
 ·split at hp
  ·exact hn _ _ hp
  ·exact hp.elim
 ·split at hp
  ·exact hn _ _ hp
  ·exact hn _ _ hp
  ·exact hp.elim
theorem jD (hK:pg X) {vo:bH} {N N':Env->au->Prop} (h:∀e s,N e s->N' e s) {env:Env} {σ:au} (hp:step X vo N env σ):step X vo N' env σ:=by
 unfold step at hp ⊢
 split at hp
 ·rename_i hw;rw[if_pos hw];exact Cs hK (fun v σ'=>h _ _) hp
 ·rename_i hw;rw[if_neg hw];exact h _ _ hp
theorem Hq {env iG:Env} {vo:bH} {σ:au} {n:AV->au->Prop} (h:∀t∈vo.op.gF,env t=iG t) (hv:eV X false vo env σ n):eV X false vo iG σ n:=by
 unfold eV at hv ⊢
 split at hv
 ·rename_i f args ez
  rw[ez]at h
  simp only[gy.gF]at h
  rw[<-map_congr h];exact hv
 ·rename_i x args ez
  rw[ez]at h
  simp only[gy.gF,List.mem_append]at h
  rw[<-map_congr (l:=args) fun t ht=>h t (.inr ht),<-bI (x:=x) fun t ht=>h t (.inl ht)];exact hv
 ·rw[<-gR h];exact hv
 ·rw[<-gR h];exact hv
 ·rw[<-gR h];exact hv
 ·rw[<-gR h];exact hv
 ·rw[<-gR h];exact hv
 ·rw[<-sq h];exact hv
theorem lp {x:bH} (hq:kC x=true) {N:Env->au->Prop} {env:Env} {σ:au}:step X x N env σ↔∃v g',GS X σ.next x env σ.get v g'/\N (upd env x.dst v) ⟨g',σ.next⟩:=by
 unfold kC at hq
 simp only[Bool.and_eq_true,Bool.not_eq_true',bne_iff_ne]at hq
 obtain⟨CC,n9⟩:=hq
 unfold step GS
 by_cases hw:aA x.guard env=true
 ·rw[if_pos hw]
  simp only[hw,if_true]
  unfold eV
  split
  ·rename_i ez;simp[ez,gy.lx]at CC
  ·rename_i ez;simp[ez,gy.lx]at CC
  ·rename_i ez;simp[ez,gy.cls]at n9
  ·rename_i ez;simp[ez,gy.cls]at n9
  ·rename_i ez;simp[ez,gy.cls]at n9
  ·rename_i ez;simp[ez,gy.cls]at n9
  ·rename_i ez;simp[ez,gy.cls]at n9
  ·rename_i n1 n2 n3 n4 n5 n6 n7
   have hVS:∀v g',VS X σ.next x env σ.get v g'↔∃mr,ef x.op (cZ env) (e8 x.hid σ.next σ.get) ⟨x.site,σ.next⟩=some (v,mr)/\g'=iU σ.get ⟨x.site,σ.next⟩ mr:=fun v g'=>by
    unfold VS
    split
    ·rename_i hh;exact(n1 _ _ hh).elim
    ·rename_i hh;exact(n2 _ _ hh).elim
    ·rename_i hh;exact(n3 _ _ _ hh).elim
    ·rename_i hh;exact(n4 _ _ _ hh).elim
    ·rename_i hh;exact(n5 _ _ _ hh).elim
    ·rename_i hh;exact(n6 _ _ hh).elim
    ·rename_i hh;exact(n7 _ _ hh).elim
    ·exact Iff.rfl
   simp only[hVS]
   cases hz:ef x.op (cZ env) (e8 x.hid σ.next σ.get) ⟨x.site,σ.next⟩with
   |none=>
    exact⟨fun h=>h.elim,fun⟨v,g',⟨mr,h,_⟩,_⟩=>by cases h⟩
   |some p=>
    obtain⟨v,mr⟩:=p
    have key:∀(v':AV) (g':Rows),(∃Qw,some (v,mr)=some (v',Qw)/\g'=iU σ.get ⟨x.site,σ.next⟩ Qw)↔v'=v/\g'=iU σ.get ⟨x.site,σ.next⟩ mr:=fun v' g'=>by
     constructor
     ·rintro⟨Qw,h1,h2⟩
      injection h1 with h1;injection h1 with h1 h3
      subst h1;subst h3
      exact⟨rfl,h2⟩
     ·rintro⟨rfl,rfl⟩;exact⟨mr,rfl,rfl⟩
    have fin:(∃v' g',(∃Qw,some (v,mr)=some (v',Qw)/\g'=iU σ.get ⟨x.site,σ.next⟩ Qw)/\N (upd env x.dst v') ⟨g',σ.next⟩)↔N (upd env x.dst v) ⟨iU σ.get ⟨x.site,σ.next⟩ mr,σ.next⟩:=by
     constructor
     ·rintro⟨v',g',h,hN⟩
      obtain⟨rfl,rfl⟩:=(key v' g').1 h
      exact hN
     ·intro hN;exact⟨v,_,(key _ _).2 ⟨rfl,rfl⟩,hN⟩
    cases mr with
    |none=>exact fin.symm
    |some r=>exact fin.symm
 ·rw[if_neg hw]
  simp only[if_neg hw]
  exact⟨fun h=>⟨_,_,⟨rfl,rfl⟩,h⟩,fun⟨v,g',⟨hv,hg⟩,h⟩=>by rw[hv,hg]at h;exact h⟩
def xv (x:bH) (env:Env) (v:AV):Prop:=if aA x.guard env then ef x.op (cZ env) (fun _=>none) ⟨0,0⟩=some (v,none)else v=.undef
theorem vD {x:bH} (hp:x.op.cls=.pure):kC x=true:=by
 unfold kC
 rw[hp]
 cases hc:x.op<;>simp[hc,gy.cls]at hp<;>rfl
theorem sD {x:bH} (hp:x.op.cls=.pure) {N:Env->au->Prop} {env:Env} {σ:au}:step X x N env σ↔∃v,xv x env v/\N (upd env x.dst v) σ:=by
 rw[lp (vD hp)]
 unfold GS xv
 by_cases hw:aA x.guard env=true
 ·simp only[hw,if_true]
  constructor
  ·rintro⟨v,g',h,hN⟩
   obtain⟨rfl,ee⟩:=yN hp h
   refine⟨v,?_,hN⟩
   unfold VS at h
   split at h
   ·rename_i ez;rw[ez]at hp;simp[gy.cls]at hp
   ·rename_i ez;rw[ez]at hp;simp[gy.cls]at hp
   ·rename_i ez;rw[ez]at hp;simp[gy.cls]at hp
   ·rename_i ez;rw[ez]at hp;simp[gy.cls]at hp
   ·rename_i ez;rw[ez]at hp;simp[gy.cls]at hp
   ·rename_i ez;rw[ez]at hp;simp[gy.cls]at hp
   ·rename_i ez;rw[ez]at hp;simp[gy.cls]at hp
   ·obtain⟨mr,hq,_⟩:=h
    have UO:mr=none:=by
     cases mr with
     |none=>rfl
     |some r=>have:=vG hq;simp[p9,hp]at this
    subst UO
    rw[<-vH (g:=e8 x.hid σ.next σ.get) (id:=⟨x.site,σ.next⟩) hp];exact hq
  ·rintro⟨v,h,hN⟩
   exact⟨v,σ.get,NF (mr:=none) (by rw[vH (g2:=fun _=>none) (id2:=⟨0,0⟩) hp];exact h),hN⟩
 ·simp only[if_neg hw]
  exact⟨fun⟨v,g',⟨hv,hg⟩,h⟩=>⟨v,hv,by rw[hg]at h;exact h⟩,fun⟨v,hv,h⟩=>⟨v,σ.get,⟨hv,rfl⟩,h⟩⟩
theorem Km {x:bH} {env iG:Env} {v:AV} (h:∀t∈x.gF,env t=iG t) (hv:xv x env v):xv x iG v:=by
 unfold xv at hv ⊢
 rw[<-mL h,<-sq fun t ht=>h t (rj ht)];exact hv
structure MD (x y:bH):Prop where
 xy:∀k,x.dst=some k->k∉y.gF
 yx:∀k,y.dst=some k->k∉x.gF
 dst:∀k,x.dst=some k->y.dst≠some k
theorem rC {x y:bH} (h:sF x y=true):MD x y:=by
 unfold sF at h
 simp only[Bool.and_eq_true]at h
 obtain⟨a1,a2⟩:=h
 refine⟨fun k hk=>?_,fun k hk=>?_,fun k hk=>?_⟩
 ·rw[hk]at a1;simp at a1;exact a1.1
 ·rw[hk]at a2;simpa using a2
 ·rw[hk]at a1;simp at a1;exact a1.2
theorem xR {x y:bH} (h:xQ x y=true):(MD x y/\x.op.cls=.pure)∨(CJ x y/\kC x=true/\kC y=true):=by
 unfold xQ at h
 simp only[Bool.or_eq_true,Bool.and_eq_true,beq_iff_eq]at h
 rcases h with⟨h1,h2⟩|⟨⟨h1,h2⟩,h3⟩
 ·exact .inl ⟨rC h1,h2⟩
 ·exact .inr ⟨pS h1,h2,h3⟩
theorem A9 {x y:bH} (h:xQ x y=true):kC x=true:=by
 rcases xR h with h|h
 ·exact vD h.2
 ·exact h.2.1
theorem Hc (hK:pg X) {x y:bH} (hf:xQ x y=true) {N:Env->au->Prop} {env:Env} {σ:au} (h:step X x (fun e s=>step X y N e s) env σ):step X y (fun e s=>step X x N e s) env σ:=by
 rcases xR hf with⟨F,hp⟩|⟨F,hx,hy⟩
 ·rw[sD hp]at h
  obtain⟨v,hx,h⟩:=h
  have Nc:=fun(v':AV)=>wD (env:=env) (v:=v) (u:=v') F.dst
  have Dx:=mc (env:=env) (v:=v) F.xy
  have back:∀(v':AV),xv x (upd env y.dst v') v:=fun v'=>Km (fun t ht=>(mc F.yx t ht).symm) hx
  unfold step at h ⊢
  rw[mL Dx]at h
  split at h
  ·rename_i hw
   rw[if_pos hw]
   refine Cs hK (fun v' σ' hN=>?_) (Hq (fun t ht=>Dx t (rj ht)) h)
   rw[Nc]at hN
   exact(sD hp).2 ⟨v,back v',hN⟩
  ·rename_i hw
   rw[if_neg hw]
   rw[Nc]at h
   exact(sD hp).2 ⟨v,back _,h⟩
 ·rw[lp hx]at h
  obtain⟨v,g1,h1,h⟩:=h
  rw[lp hy]at h
  obtain⟨v',g2,h2,h⟩:=h
  obtain⟨K9,q1,q2,q3⟩:=EI F h1 h2
  rw[q3]at h
  exact(lp hy).2 ⟨v',K9,q1,(lp hx).2 ⟨v,g2,q2,h⟩⟩
def zZ (X:fQ) (ops:Array Oper) (vl:List bH) (K:Env->au->Prop):Nat->Array Bool->Env->au->Prop
 |0,listed,env,σ=>Region.ready .any ops listed=[]/\K env ⟨σ.get,σ.next+1⟩
 |f+1,listed,env,σ=>(Region.ready .any ops listed=[]->K env ⟨σ.get,σ.next+1⟩)/\∀i∈Region.ready .any ops listed,∃vo,vl[i]? =some vo/\step X vo (fun e s=>zZ X ops vl K f (listed.setIfInBounds i true) e s) env σ
theorem Dd {ops:Array Oper} {vl:List bH} {bs:Array Nat} {listed:Array Bool} {i:Nat} (h:pR ops vl bs listed i=true) (j:Nat):pR ops vl bs (listed.setIfInBounds j true) i=true:=by
 unfold pR at h ⊢
 split at h
 ·rename_i x hx
  simp only[List.all_eq_true,Bool.or_eq_true]at h ⊢
  intro k hk
  rcases h k hk with((h|h)|h)|h
  ·exact .inl (.inl (.inl (getD_set_true h)))
  ·exact .inl (.inl (.inr h))
  ·exact .inl (.inr h)
  ·exact .inr h
 ·cases h
theorem sN {ops:Array Oper} {vl:List bH} {listed:Array Bool} {i j:Nat} {vi:bH} (rG:DC ops listed) (h:pR ops vl (jn ops) listed i=true) (hi:vl[i]? =some vi) (hr:i∈Region.ready .any ops listed) (hj:j∈Region.ready .any ops listed) (mj:j≠i):∃vj,vl[j]? =some vj/\xQ vi vj=true:=by
 unfold pR at h
 rw[hi]at h
 simp only[List.all_eq_true,Bool.or_eq_true,beq_iff_eq]at h
 obtain⟨_,o,ho,_⟩:=mem_ready.1 hj
 rcases h j (List.mem_range.2 (Array.getElem?_eq_some_iff.1 ho).1)with((h|h)|h)|h
 ·rw[iO hj]at h;cases h
 ·exact absurd h mj
 ·have:=kD rG hj i h
  rw[iO hr]at this;cases this
 ·split at h
  ·rename_i y hy;exact⟨y,hy,h⟩
  ·cases h
theorem EG (hK:pg X) {ops:Array Oper} {vl:List bH} {K:Env->au->Prop} {i:Nat} {vi:bH} (hi:vl[i]? =some vi):∀(fuel:Nat) (listed:Array Bool) (env:Env) (σ:au),
  DC ops listed->i∈Region.ready .any ops listed->pR ops vl (jn ops) listed i=true->step X vi (fun e s=>zZ X ops vl K fuel (listed.setIfInBounds i true) e s) env σ->zZ X ops vl K (fuel+1) listed env σ:=by
 intro fuel
 induction fuel with
 |zero=>
  intro listed env σ rG hr kK H
  refine⟨fun h=>(by rw[h]at hr;cases hr),fun j hj=>?_⟩
  by_cases mj:j=i
  ·subst mj;exact⟨vi,hi,H⟩
  ·obtain⟨vj,LB,Ri⟩:=sN rG kK hi hr hj mj
   rw[lp (A9 Ri)]at H
   obtain⟨v,g',_,H⟩:=H
   have:=ready_mono hj mj
   rw[H.1]at this;cases this
 |succ fuel ih=>
  intro listed env σ rG hr kK H
  refine⟨fun h=>(by rw[h]at hr;cases hr),fun j hj=>?_⟩
  by_cases mj:j=i
  ·subst mj;exact⟨vi,hi,H⟩
  ·obtain⟨vj,LB,Ri⟩:=sN rG kK hi hr hj mj
   refine⟨vj,LB,?_⟩
   have H2:step X vi (fun e s=>step X vj (fun e s=>zZ X ops vl K fuel ((listed.setIfInBounds i true).setIfInBounds j true) e s) e s) env σ:=jD hK (fun e s h=>by
    obtain⟨vj',zj,h'⟩:=h.2 j (ready_mono hj mj)
    rw[LB]at zj;injection zj with zj;subst zj
    exact h') H
   refine jD hK (fun e s h=>?_) (Hc hK Ri H2)
   refine ih _ _ _ (rG.list hj) (ready_mono hr (fun e=>mj e.symm)) (Dd kK j) ?_
   rw[Array.setIfInBounds_comm _ _ mj]
   exact h
theorem sC {x:bH} (hg:x.guard=none) {N:Env->au->Prop} {env:Env} {σ:au}:step X x N env σ=eV X false x env σ (fun v σ'=>N (upd env x.dst v) σ'):=by
 unfold step
 rw[hg]
 simp[aA]
theorem Es {x y:bH} {t s sz:Nat} {ys:O} (hx:x.op=.append sz (.t t) ys) (hg:x.guard=none) (hf:E4 s x y=true) {N:Env->au->Prop} {env:Env} {σ:au} (hl:LQ t s ys env σ.next) (h:step X x (fun e s=>step X y N e s) env σ):
  step X y (fun e σ'=>LQ t s ys e σ'.next/\step X x N e σ') env σ:=by
 unfold E4 at hf
 simp only[Bool.and_eq_true,bne_iff_ne]at hf
 obtain⟨⟨⟨⟨⟨f1,hq⟩,f3⟩,f4⟩,f5⟩,f6⟩:=hf
 have F:=rC f1
 obtain⟨⟨len,ht⟩,hsrc⟩:=hl
 have I0:∀k∈x.op.gF,∀v',upd env y.dst v' k=env k:=fun k hk v'=>mc (env:=env) (v:=v') F.yx k (rj hk)
 have eb:t∈x.op.gF:=by rw[hx];simp[gy.gF,gO]
 have Fk:∀v',cZ (upd env y.dst v') ys=cZ env ys:=fun v'=>(bI fun k hk=>by rw[I0 k (by rw[hx];simp[gy.gF,hk])]).symm
 rw[sC hg]at h
 unfold eV at h
 simp only[hx,e9]at h
 have ex:cZ env (.t t)=.own ⟨s,σ.next⟩ 0 len:=ht
 rw[ex]at h
 cases hr:bj σ.get (cZ env ys)with
 |none=>rw[hr]at h;exact h.elim
 |some rs=>
  rw[hr]at h
  simp only[Option.bind_some,aJ]at h
  cases IH:σ.get ⟨s,σ.next⟩with
  |none=>rw[IH]at h;exact h.elim
  |some r=>
   rw[IH]at h
   simp only[Option.bind_some]at h
   split at h
   ·rename_i v g1 hv
    split at hv
    ·rename_i hcond
     simp only[Option.some.injEq,Prod.mk.injEq]at hv
     obtain⟨rfl,rfl⟩:=hv
     rw[lp hq]at h
     obtain⟨v',g2,hG,hN⟩:=h
     have Lo:(⟨y.site,σ.next⟩:Id)≠⟨s,σ.next⟩:=fun e=>f5 (by injection e)
     have IM:(⟨y.site,σ.next⟩:Id)≠⟨x.site,σ.next⟩:=fun e=>f6 (by injection e)
     replace hG:GS X σ.next y env (bD (bL σ.get ⟨s,σ.next⟩) ⟨x.site,σ.next⟩ ⟨true,sz,r.rows++rs⟩) v' g2:=uh (mc F.xy) hG
     have Vf:e8 y.hid σ.next σ.get=e8 y.hid σ.next (bD (bL σ.get ⟨s,σ.next⟩) ⟨x.site,σ.next⟩ ⟨true,sz,r.rows++rs⟩):=by
      cases hh:y.hid with
      |nil=>rw[hh]at f3;simp at f3
      |cons a l=>
       rw[hh]at f3 f4
       funext i
       show(if (a::l).contains i.site=true/\i.cV=σ.next then none else σ.get i)=if (a::l).contains i.site=true/\i.cV=σ.next then none else _
       by_cases h1:i=⟨x.site,σ.next⟩
       ·subst h1;rw[if_pos ⟨f4,rfl⟩,if_pos ⟨f4,rfl⟩]
       ·by_cases h2:i=⟨s,σ.next⟩
        ·subst h2;rw[if_pos ⟨f3,rfl⟩,if_pos ⟨f3,rfl⟩]
        ·simp only[bD,bL,if_neg h1,if_neg h2]
     obtain⟨my,Fb,hG'⟩:∃my,g2=iU (bD (bL σ.get ⟨s,σ.next⟩) ⟨x.site,σ.next⟩ ⟨true,sz,r.rows++rs⟩) ⟨y.site,σ.next⟩ my/\GS X σ.next y env σ.get v' (iU σ.get ⟨y.site,σ.next⟩ my):=by
      unfold GS at hG ⊢
      by_cases wy:aA y.guard env=true
      ·rw[if_pos wy]at hG
       have hcw:y.op.cls≠.write:=by
        unfold kC at hq
        simp only[Bool.and_eq_true,bne_iff_ne]at hq
        exact hq.2
       obtain⟨my,rfl,_,NH⟩:=uo hcw hG
       exact⟨my,rfl,by rw[if_pos wy];exact NH _ Vf⟩
      ·rw[if_neg wy]at hG
       obtain⟨rfl,rfl⟩:=hG
       exact⟨none,rfl,by rw[if_neg wy];exact⟨rfl,rfl⟩⟩
     subst Fb
     refine(lp hq).2 ⟨v',_,hG',⟨⟨len,by rw[I0 t eb];exact ht⟩,fun id o l he=>hsrc id o l (by rw[<-Fk v'];exact he)⟩,?_⟩
     rw[sC hg]
     unfold eV
     have ex':cZ (upd env y.dst v') (.t t)=.own ⟨s,σ.next⟩ 0 len:=by
      show upd env y.dst v' t= _
      rw[I0 t eb];exact ht
     simp only[hx,e9,ex',Fk v']
     have nA:bj (iU σ.get ⟨y.site,σ.next⟩ my) (cZ env ys)=some rs:=by
      cases my with
      |none=>exact hr
      |some row=>
       revert hr
       cases hev:cZ env ys<;>simp only[bj,iU]<;>try exact fun h=>h
       rename_i id o l
       have:id≠⟨y.site,σ.next⟩:=fun e=>hsrc id o l hev (by rw[e])
       simp only[bD,if_neg this];exact fun h=>h
     have UD:iU σ.get ⟨y.site,σ.next⟩ my ⟨s,σ.next⟩=some r:=by
      cases my with
      |none=>exact IH
      |some row=>simp only[iU,bD,if_neg (fun e=>Lo e.symm:(⟨s,σ.next⟩:Id)≠⟨y.site,σ.next⟩)];exact IH
     rw[nA]
     simp only[Option.bind_some,aJ,UD]
     rw[if_pos hcond]
     have hgg:bD (bL (iU σ.get ⟨y.site,σ.next⟩ my) ⟨s,σ.next⟩) ⟨x.site,σ.next⟩ ⟨true,sz,r.rows++rs⟩=iU (bD (bL σ.get ⟨s,σ.next⟩) ⟨x.site,σ.next⟩ ⟨true,sz,r.rows++rs⟩) ⟨y.site,σ.next⟩ my:=by
      cases my with
      |none=>rfl
      |some row=>
       funext i
       simp only[iU,bD,bL]
       by_cases h1:i=⟨y.site,σ.next⟩
       ·subst h1;rw[if_neg IM,if_neg Lo,if_pos rfl,if_pos rfl]
       ·simp only[if_neg h1]
     have hu:=wD (env:=env) (v:=AV.own ⟨x.site,σ.next⟩ 0 (len+rs.length)) (u:=v') F.dst
     show N (upd (upd env y.dst v') x.dst (.own ⟨x.site,σ.next⟩ 0 (len+rs.length))) ⟨bD (bL (iU σ.get ⟨y.site,σ.next⟩ my) ⟨s,σ.next⟩) ⟨x.site,σ.next⟩ ⟨true,sz,r.rows++rs⟩,σ.next⟩
     rw[hgg,<-hu]
     exact hN
    ·cases hv
   ·exact h.elim
theorem Dc {ops:Array Oper} {vl:List bH} {bs:Array Nat} {listed:Array Bool} {i s:Nat} (h:nU ops vl bs listed i s=true) (j:Nat):nU ops vl bs (listed.setIfInBounds j true) i s=true:=by
 unfold nU at h ⊢
 split at h
 ·rename_i x hx
  simp only[List.all_eq_true,Bool.or_eq_true]at h ⊢
  intro k hk
  rcases h k hk with((h|h)|h)|h
  ·exact .inl (.inl (.inl (getD_set_true h)))
  ·exact .inl (.inl (.inr h))
  ·exact .inl (.inr h)
  ·exact .inr h
 ·cases h
theorem AZ {ops:Array Oper} {vl:List bH} {listed:Array Bool} {i j s:Nat} {vi:bH} (rG:DC ops listed) (h:nU ops vl (jn ops) listed i s=true) (hi:vl[i]? =some vi) (hr:i∈Region.ready .any ops listed) (hj:j∈Region.ready .any ops listed) (mj:j≠i):∃vj,vl[j]? =some vj/\E4 s vi vj=true:=by
 unfold nU at h
 rw[hi]at h
 simp only[List.all_eq_true,Bool.or_eq_true,beq_iff_eq]at h
 obtain⟨_,o,ho,_⟩:=mem_ready.1 hj
 rcases h j (List.mem_range.2 (Array.getElem?_eq_some_iff.1 ho).1)with((h|h)|h)|h
 ·rw[iO hj]at h;cases h
 ·exact absurd h mj
 ·have:=kD rG hj i h
  rw[iO hr]at this;cases this
 ·split at h
  ·rename_i y hy;exact⟨y,hy,h⟩
  ·cases h
theorem Ct (hK:pg X) {ops:Array Oper} {vl:List bH} {K:Env->au->Prop} {i t s sz:Nat} {ys:O} {vi:bH} (hi:vl[i]? =some vi) (hx:vi.op=.append sz (.t t) ys) (hg:vi.guard=none):∀(fuel:Nat) (listed:Array Bool) (env:Env) (σ:au),
  DC ops listed->i∈Region.ready .any ops listed->nU ops vl (jn ops) listed i s=true->LQ t s ys env σ.next->step X vi (fun e s=>zZ X ops vl K fuel (listed.setIfInBounds i true) e s) env σ->zZ X ops vl K (fuel+1) listed env σ:=by
 intro fuel
 induction fuel with
 |zero=>
  intro listed env σ rG hr kK Qf H
  refine⟨fun h=>(by rw[h]at hr;cases hr),fun j hj=>?_⟩
  by_cases mj:j=i
  ·subst mj;exact⟨vi,hi,H⟩
  ·exfalso
   have h0:=ready_mono hj mj
   rw[sC hg]at H
   unfold eV at H
   simp only[hx]at H
   split at H
   ·rw[H.1]at h0;cases h0
   ·exact H
 |succ fuel ih=>
  intro listed env σ rG hr kK Qf H
  refine⟨fun h=>(by rw[h]at hr;cases hr),fun j hj=>?_⟩
  by_cases mj:j=i
  ·subst mj;exact⟨vi,hi,H⟩
  ·obtain⟨vj,LB,Ri⟩:=AZ rG kK hi hr hj mj
   refine⟨vj,LB,?_⟩
   have H2:step X vi (fun e s=>step X vj (fun e s=>zZ X ops vl K fuel ((listed.setIfInBounds i true).setIfInBounds j true) e s) e s) env σ:=jD hK (fun e s h=>by
    obtain⟨vj',zj,h'⟩:=h.2 j (ready_mono hj mj)
    rw[LB]at zj;injection zj with zj;subst zj
    exact h') H
   refine jD hK (fun e s h=>?_) (Es hx hg Ri Qf H2)
   refine ih _ _ _ (rG.list hj) (ready_mono hr (fun e=>mj e.symm)) (Dc kK j) h.1 ?_
   rw[Array.setIfInBounds_comm _ _ mj]
   exact h.2
theorem Jh {ops:Array Oper} {vl:List bH} {bs:Array Nat} {listed:Array Bool} {i i' t s:Nat} {y:O} {vo:bH} (h:O8 ops vl bs listed i=some (i',t,s,y,vo)):i'=i/\vl[i]? =some vo/\(∃sz,vo.op=.append sz (.t t) y)/\vo.guard=none/\nU ops vl bs listed i s=true:=by
 unfold O8 at h
 split at h
 ·rename_i x hx
  split at h
  ·rename_i t' s' y' ju
   split at h
   ·rename_i hf
    simp only[Option.some.injEq,Prod.mk.injEq]at h
    obtain⟨rfl,rfl,rfl,rfl,rfl⟩:=h
    unfold Ni at ju
    split at ju
    ·rename_i sz t2 y2 ho tT
     split at ju
     ·simp only[Option.some.injEq,Prod.mk.injEq]at ju
      obtain⟨rfl,rfl,rfl⟩:=ju
      exact⟨rfl,hx,⟨sz,ho⟩,tT,hf⟩
     ·cases ju
    ·cases ju
   ·cases h
  ·cases h
 ·cases h
theorem xH {X:fQ} {Q:Ex->Env->au->Prop} {env:Env} {σ:au}:∀{l:List VC} {t:VC},AD l=some t->dQ X t Q env σ->∀c∈l,dQ X c Q env σ
 |[],t,h,_,c,hc=>by cases hc
 |[c0],t,h,hw,c,hc=>by
  simp only[AD,Option.some.injEq]at h
  subst h
  rw[List.mem_singleton]at hc
  subst hc;exact hw
 |c0::c1::r,t,h,hw,c,hc=>by
  simp only[AD,Option.map_eq_some_iff]at h
  obtain⟨t',Hz,rfl⟩:=h
  rcases List.mem_cons.1 hc with rfl|hc
  ·exact hw.1
  ·exact xH Hz hw.2 c hc
theorem mapM_mem {α β:Type} {f:α->Option β}:∀{l:List α} {r:List β},l.mapM f=some r->∀i∈l,∃b∈r,f i=some b
 |[],_,_,i,hi=>by cases hi
 |a::l,r,h,i,hi=>by
  simp only[List.mapM_cons,Option.bind_eq_bind,Option.bind_eq_some_iff,Option.pure_def,Option.some.injEq]at h
  obtain⟨b,hb,r',hr,rfl⟩:=h
  rcases List.mem_cons.1 hi with rfl|hi
  ·exact⟨b,by simp,hb⟩
  ·obtain⟨c,hc,hf⟩:=mapM_mem hr i hi
   exact⟨c,List.mem_cons_of_mem _ hc,hf⟩
theorem Hn (hK:pg X) {ops:Array Oper} {vl:List bH} {Q:Ex->Env->au->Prop}:∀(n:Nat) (listed:Array Bool) (t:VC) (env:Env) (σ:au),wz ops vl (jn ops) n listed=some t->DC ops listed->dQ X t Q env σ->zZ X ops vl (Q .normal) n listed env σ:=by
 intro n
 induction n with
 |zero=>
  intro listed t env σ h _ hw
  unfold wz at h
  split at h
  ·rename_i hr
   simp only[Option.some.injEq]at h
   subst h
   exact⟨hr,hw⟩
  ·cases h
 |succ n ih=>
  intro listed t env σ h rG hw
  unfold wz at h
  split at h
  ·rename_i hr
   simp only[Option.some.injEq]at h
   subst h
   exact⟨fun _=>hw,fun i hi=>by rw[hr]at hi;cases hi⟩
  ·rename_i r rs hr
   dsimp only at h
   split at h
   ·rename_i i hfind
    have Lk:=List.mem_of_find?_eq_some hfind
    have xT:=List.find?_some hfind
    rw[<-hr]at Lk
    split at h
    ·rename_i vo pd
     simp only[Option.map_eq_some_iff]at h
     obtain⟨t',Hz,rfl⟩:=h
     exact EG hK pd n listed env σ rG Lk xT (jD hK (fun e s h=>ih _ _ _ _ Hz (rG.list Lk) h) hw)
    ·cases h
   ·split at h
    ·rename_i i t s y vo hfind
     obtain⟨i0,Fe,eh⟩:=List.exists_of_findSome?_eq_some hfind
     obtain⟨rfl,pd,⟨sz,ez⟩,tT,Li⟩:=Jh eh
     rw[<-hr]at Fe
     simp only[Option.map_eq_some_iff]at h
     obtain⟨t',Hz,rfl⟩:=h
     exact Ct hK pd ez tT n listed env σ rG Fe Li hw.1 (jD hK (fun e s h=>ih _ _ _ _ Hz (rG.list Fe) h) hw.2)
    split at h
    ·rename_i l hl
     have ee:=xH h hw
     refine⟨fun h=>(by rw[h]at hr;cases hr),fun i hi=>?_⟩
     rw[hr]at hi
     obtain⟨b,Kt,Gf⟩:=mapM_mem hl i hi
     simp only[Option.bind_eq_some_iff,Option.map_eq_some_iff]at Gf
     obtain⟨vo,pd,t',Hz,rfl⟩:=Gf
     exact⟨vo,pd,jD hK (fun e s h=>ih _ _ _ _ Hz (rG.list (by rw[hr];exact hi)) h) (ee _ Kt)⟩
    ·cases h
theorem EB {ops:Array Oper} {vl:List bH} {nt site0:Nat} {draw mk:Bool} {bs:Array Nat} {hidden:List (Nat×Bool)} {K:Env->au->Prop} {Q:Exit->Act->World->Prop} (ee:allM (kn P ops nt site0 draw mk bs hidden) ops.toList 0=some vl):
  ∀(fuel:Nat) (listed:Array Bool) (env:Env) (σ:au) (a:Act) (w:World) (D:Nat->Prop) (ι:Names) (U:Nat->Prop),zZ (Sound P) ops vl K fuel listed env σ->gx P hs D ι σ.get w->Used ι σ.next U->(∀s,U s->∃i,s=site0+i/\listed.getD i false=true)->cQ P w D ι env a->a.tmps.size=nt->
  (∀iz σ' a' w' D' ι',K iz σ'->Step hs D ι w D' ι' w'->St P hs nt D' ι' iz σ' a' w'->a'.defers=a.defers->σ.next<=σ'.next->Q .normal a' w')->wpAny P .any ops Q fuel listed a w:=by
 intro fuel
 induction fuel with
 |zero=>intro listed env σ a w D ι U h S Us hU E fu hQ;exact⟨h.1,hQ env _ a w D ι h.2 (Step.refl _ _ _ _) ⟨S,Us.next,E,fu⟩ rfl (Nat.le_succ _)⟩
 |succ fuel ih=>
  intro listed env σ a w D ι U h S Us hU E fu hQ
  refine⟨fun hr=>hQ env _ a w D ι (h.1 hr) (Step.refl _ _ _ _) ⟨S,Us.next,E,fu⟩ rfl (Nat.le_succ _),fun i hi=>?_⟩
  obtain⟨vo,pd,hG⟩:=h.2 i hi
  obtain⟨_,o,ho,_⟩:=mem_ready.1 hi
  obtain⟨vo',lU,Q7⟩:=(nL ee).2 i o (by simpa using ho)
  rw[pd]at lU;injection lU with lU;subst lU
  rw[Nat.zero_add]at Q7
  obtain⟨hc,hd,Br,w9,hg⟩:=oL Q7
  have hw:=sH (ops:=ops) (vo:=vo) E hg
  have Um:¬U vo.site:=fun hu=>by
   obtain⟨i',he,hl⟩:=hU _ hu
   have:i'=i:=ai
   subst this
   rw[iO hi]at hl;cases hl
  have jo:i<listed.size:=by
   have h0:=(mem_ready.1 hi).1
   rcases Nat.lt_or_ge i listed.size with h|h
   ·exact h
   ·simp[Array.getElem?_eq_none h]at h0
  unfold wpOp
  simp only[ho]
  rw[<-hw]
  unfold step at hG
  by_cases Gt:aA vo.guard env=true
  ·rw[if_pos Gt]
   rw[if_pos Gt]at hG
   refine .inl (yH hc hG S Us Um E fun v σ' u D' ι' w' hn T S' hR U' hle=>?_)
   refine ih _ _ _ _ w' D' ι' _ hn S' U' (fun s zi=>?_) (by rw[hd];exact im (nS E T) hR w9 fu) (by rw[e6];exact fu) fun iz σ2 a2 w2 D2 ι2 hk T2 OT Dn mC=>hQ iz σ2 a2 w2 D2 ι2 hk (T.trans T2) OT (Dn.trans (put_defers _ _ _)) (Nat.le_trans hle mC)
   rcases zi with h|h
   ·obtain⟨i',he,hl⟩:=hU _ h
    exact⟨i',he,getD_set_true hl⟩
   ·exact⟨i,by rw[h,Br],by simp[jo]⟩
  ·rw[if_neg Gt]
   rw[if_neg Gt]at hG
   refine ih _ _ _ _ w D ι U hG S Us (fun s zi=>?_) (by rw[hd];exact im E dd.undef w9 fu) (by rw[e6];exact fu) fun iz σ2 a2 w2 D2 ι2 hk T2 OT Dn mC=>hQ iz σ2 a2 w2 D2 ι2 hk T2 OT (Dn.trans (put_defers _ _ _)) mC
   obtain⟨i',he,hl⟩:=hU _ zi
   exact⟨i',he,getD_set_true hl⟩
end
end Go.Proofs.YtgoljkjaameagaaGreat.V

namespace Go.Proofs.YtgoljkjaameagaaGreat.V
open Go.RowKit
variable {P:Program} {w w':World} {D D' D2:Nat->Prop} {ι ι' ι2:Names}
def Ab (P:Program) (c:Code) (Q:Exit->Act->World->Prop) (a:Act) (w:World):Prop:=
 ∀(b:Frame) (k:List Item) (cs:List Frame),b.kind≠.early->∃e a' w',Q e a' w'/\Arrives P (lone (b.at a (.code c::k)) cs w) b k cs e a' w'
section
variable {Q:Exit->Act->World->Prop} {a:Act}
theorem j0 {c:Code} (h:c.wp P Q a w):Ab P c Q a w:=fun b k cs _=>h b k cs
theorem lj {x y:Code} (h:Ab P x (Exit.then (Ab P y Q) Q) a w):Ab P (.seq x y) Q a w:=by
 intro b k cs hb
 obtain⟨e,a1,w1,hq,jx⟩:=h b (.code y::k) cs hb
 by_cases he:e=.normal
 ·subst he
  obtain⟨e2,a2,w2,n9,Ix⟩:=hq b k cs hb
  exact⟨e2,a2,w2,n9,.of_steps (.head step_seq jx) Ix⟩
 ·refine⟨e,a1,w1,?_,.of_steps (.one step_seq) (.pass (x:=.code y) rfl (fun _ _=>.inl he) jx)⟩
  cases e<;>first|exact absurd rfl he|exact hq
theorem vp {c:Operand} {x y:Code} {t:Bool} (hc:a.eval c=.bool t) (h:Ab P (if t then x else y) Q a w):Ab P (.cond c x y) Q a w:=
 fun b k cs hb=>let ⟨e,a',w',q,r⟩:=h b k cs hb;⟨e,a',w',q,.of_steps (.one (step_cond hc)) r⟩
theorem sj {id:Nat} {c:Code} (h:Ab P c (Exit.inBlock id Q) a w):Ab P (.block id c) Q a w:=by
 intro b k cs hb
 obtain⟨e,a1,w1,hq,jx⟩:=h b (.inBlock id::k) cs hb
 cases e with
 |normal=>exact⟨.normal,a1,w1,hq,.head step_block (Steps.trans jx (.one step_inBlock))⟩
 |exit jG=>
  by_cases hid:jG=id
  ·simp only[Exit.inBlock,hid,if_true]at hq
   exact⟨.normal,a1,w1,hq,.head step_block (jx k (by simp[exitTo,hid]))⟩
  ·simp only[Exit.inBlock,hid,if_false]at hq
   exact⟨.exit jG,a1,w1,hq,fun k' hk=>.head step_block (jx k' (by simp[exitTo,Ne.symm hid,hk]))⟩
 |goto l=>exact⟨_,a1,w1,hq,fun k' hk=>.head step_block (jx k' (by simp[gotoIn,hk]))⟩
 |ret=>exact⟨_,a1,w1,hq,.of_steps (.one step_block) jx⟩
 |panic ch=>exact⟨_,a1,w1,hq,.of_steps (.one step_block) jx⟩
 |outgrown=>exact⟨_,a1,w1,hq,.of_steps (b:=b) (k:=k) (cs:=cs) (e:=.outgrown) (.one step_block) jx⟩
def oP (P:Program) (c:Code) (Q:Exit->Act->World->Prop):Nat->Act->World->Prop
 |0=>fun _ _=>False
 |n+1=>Ab P c (Exit.then (oP P c Q n) Q)
theorem BX {c:Code} (n:Nat) (h:oP P c Q n a w):Ab P (.loop c) Q a w:=by
 intro b k cs hb
 have key:∀n a w,oP P c Q n a w->∃e a' w',Q e a' w'/\Arrives P (lone (b.at a (.code c::.inLoop c::k)) cs w) b k cs e a' w':=by
  intro n
  induction n with
  |zero=>intro a w h;exact h.elim
  |succ n ih=>
   intro a w h
   obtain⟨e,a1,w1,hq,jx⟩:=h b (.inLoop c::k) cs hb
   by_cases he:e=.normal
   ·subst he
    obtain⟨e2,a2,w2,n9,Ix⟩:=ih a1 w1 hq
    exact⟨e2,a2,w2,n9,.of_steps (Steps.trans jx (.one step_inLoop)) Ix⟩
   ·refine⟨e,a1,w1,?_,.pass (x:=.inLoop c) rfl (fun _ _=>.inl he) jx⟩
    cases e<;>first|exact absurd rfl he|exact hq
 obtain⟨e,a',w',hq,jx⟩:=key n a w h
 exact⟨e,a',w',hq,.of_steps (.one step_loop) jx⟩
theorem yU {f:FuncId} {fn:Func} {c:Code} {args:Array Value} {R:Ending->World->Prop} (hf:P.funcs[f]? =some fn) (hb:fn.body=some c)
  (h:Ab P c (bodyPost P fn R) {tmps:=args++Array.replicate (fn.ntmps-args.size) undef,defers:=[]} w):Calls P f args w R:=by
 intro cs
 have Oy:Frame.enter P f args .normal=({(default:Frame)with fn:=f,kind:=.normal}:Frame).at {tmps:=args++Array.replicate (fn.ntmps-args.size) undef,defers:=[]} [.code c]:=by simp[Frame.enter,Frame.at,hf,hb]
 obtain⟨e,a',w',hq,jx⟩:=h {(default:Frame)with fn:=f,kind:=.normal} [] cs (by simp)
 rw[<-Oy]at jx
 cases e with
 |normal=>obtain⟨hd,v,hr,hR⟩:=hq;exact⟨.returned v,w',_,hR,Steps.trans jx (.one step_end),rfl,rfl,hd,rfl,fn,hf,hr⟩
 |ret=>obtain⟨hd,v,hr,hR⟩:=hq;obtain⟨todo,hs⟩:=jx;exact⟨.returned v,w',_,hR,hs,rfl,rfl,hd,rfl,fn,hf,hr⟩
 |panic chain=>obtain⟨hd,hR⟩:=hq;obtain⟨todo,hs⟩:=jx;exact⟨.panicked chain,w',_,hR,hs,rfl,rfl,hd,fn,hf⟩
 |exit id=>exact hq.elim
 |goto l=>exact hq.elim
 |outgrown=>exact⟨.outgrown,w',{(default:Frame)with fn:=f,kind:=.normal},hq,jx.resolve_left (by simp),rfl,trivial⟩
def wP (P:Program) (ops:Array Oper) (Q:Exit->Act->World->Prop) (l:List Nat) (a:Act) (w:World):Prop:=
 ∀(b:Frame) (k:List Item) (cs:List Frame),b.kind≠.early->∃e a' w',Q e a' w'/\Arrives P (lone (b.at a (.inRegion ops l::k)) cs w) b k cs e a' w'
theorem DW {id:Nat} {ops:Array Oper} (h:wP P ops Q (List.range ops.size) a w):Ab P (.region id ops false) Q a w:=
 fun b k cs hb=>let ⟨e,a',w',q,r⟩:=h b k cs hb;⟨e,a',w',q,.of_steps (.one step_region) r⟩
theorem Pe {ops:Array Oper} (h:Q .normal a w):wP P ops Q [] a w:=fun _ _ _ _=>⟨.normal,a,w,h,.one step_region_end⟩
theorem oH {o:Oper} {ys:Nat->Option Bool} (h:o.guard=none):Region.wanted o ys=true:=by simp[Region.wanted,h]
theorem JB {ops:Array Oper} {i:Nat} {rest:List Nat} {o:Oper} {v:Value} (ho:ops[i]? =some o) (hg:o.guard=none) (hr:(execOp a.eval o).run P w=.ok (.value v) w') (h:wP P ops Q rest (a.put o.dst v) w'):wP P ops Q (i::rest) a w:=by
 intro b k cs hb
 obtain⟨e,a',w2,hq,jx⟩:=h b k cs hb
 refine⟨e,a',w2,hq,.of_steps (.one ?_) jx⟩
 have r4:(b.at a (.inRegion ops (i::rest)::k)).finish v=b.at (a.put o.dst v) (.inRegion ops rest::k):=by rw[Frame.finish_at,ho];rfl
 rw[<-r4]
 refine step_lone_go ?_
 have h2:=stepG_op (P:=P) (b:=b) (k:=k) (cs:=cs) (w:=w) (rest:=rest) ho (oH hg (ys:=yielded ops a.tmps))
 rw[h2];simp[stepG.apply,hr]
theorem L7 {ops:Array Oper} {i:Nat} {rest:List Nat} {o:Oper} {v z:Value} {c cap s r:Nat} {buf:Array Value} (ho:ops[i]? =some o) (hg:o.guard=none) (hr:(execOp a.eval o).run P w=.ok (.comm #[Conc.scase c v z] true .send) w)
  (hc:w.heap[c]? =some (.chan cap buf false s r false)) (fV:buf.size<cap) (h:wP P ops Q rest (a.put o.dst undef) (w.setChan c cap (buf.push v) false (s+1) r false)):wP P ops Q (i::rest) a w:=by
 intro b k cs hb
 obtain⟨e,a',w2,hq,jx⟩:=h b k cs hb
 refine⟨e,a',w2,hq,.of_steps (.one ?_) jx⟩
 have r4:(b.at a (.inRegion ops (i::rest)::k)).finish undef=b.at (a.put o.dst undef) (.inRegion ops rest::k):=by rw[Frame.finish_at,ho];rfl
 rw[<-r4,Conc.lone_eq_solo,Conc.lone_eq_solo]
 exact Conc.step_lone_send_room (Conc.stepG_comm ho (oH hg) hb hr) hc fV
theorem L6 {ops:Array Oper} {i:Nat} {rest:List Nat} {o:Oper} {z:Value} {c cap s r:Nat} {buf:Array Value} (ho:ops[i]? =some o) (hg:o.guard=none) (hr:(execOp a.eval o).run P w=.ok (.comm #[Conc.rcase c z] true (.recv false)) w)
  (hc:w.heap[c]? =some (.chan cap buf false s r false)) (I3:0<buf.size) (h:wP P ops Q rest (a.put o.dst (buf.getD 0 undef)) (w.setChan c cap (buf.extract 1 buf.size) false s (r+1) false)):wP P ops Q (i::rest) a w:=by
 intro b k cs hb
 obtain⟨e,a',w2,hq,jx⟩:=h b k cs hb
 refine⟨e,a',w2,hq,.of_steps (.one ?_) jx⟩
 have r4:(b.at a (.inRegion ops (i::rest)::k)).finish (buf.getD 0 undef)=b.at (a.put o.dst (buf.getD 0 undef)) (.inRegion ops rest::k):=by rw[Frame.finish_at,ho];rfl
 rw[<-r4,Conc.lone_eq_solo,Conc.lone_eq_solo]
 exact Conc.step_lone_recv_buf false (Conc.stepG_comm ho (oH hg) hb hr) hc I3
end
section
variable {hs:Nat} {g:Rows} {env:Env} {a:Act} {o:Oper}
theorem LI {x y:O} (hc:qh P o.op=some (.snd x y)):∃x' y',o.op=.send x' y'/\cO P x'=some x/\cO P y'=some y:=by
 unfold qh at hc
 split at hc
 case h_25=>
  rename_i x' y' h
  simp only[Option.bind_eq_bind,Option.bind_eq_some_iff,Option.pure_def,Option.some.injEq,gy.snd.injEq]at hc
  obtain⟨p,h1,q,h2,rfl,rfl⟩:=hc
  exact⟨_,_,h,h1,h2⟩
 all_goals (try unfold mU at hc)<;>(try unfold uu at hc)<;>(try unfold rR at hc)<;>(repeat' (split at hc))<;>(simp only[Option.bind_eq_bind,Option.bind_eq_some_iff,Option.pure_def,Option.some.injEq,Option.map_eq_some_iff,reduceCtorEq,and_false,exists_false]at hc)
theorem LH {x:O} (hc:qh P o.op=some (.Pj x)):∃t dir e i z x',o.op=.recv t x' false/\P.underlying t=some (.chan dir e)/\P.info? e=some i/\i.zero=some z/\cO P x'=some x:=by
 unfold qh at hc
 split at hc
 case h_26=>
  rename_i t x' h
  split at hc
  ·rename_i dir e ht
   split at hc
   ·rename_i z hz
    simp only[Option.bind_eq_some_iff]at hz
    obtain⟨i,hi,hz⟩:=hz
    simp only[Option.map_eq_some_iff,gy.Pj.injEq]at hc
    obtain⟨p,h1,rfl⟩:=hc
    exact⟨t,dir,e,i,z,x',h,ht,hi,hz,h1⟩
   ·cases hc
  ·cases hc
 all_goals (try unfold mU at hc)<;>(try unfold uu at hc)<;>(try unfold rR at hc)<;>(repeat' (split at hc))<;>(simp only[Option.bind_eq_bind,Option.bind_eq_some_iff,Option.pure_def,Option.some.injEq,Option.map_eq_some_iff,reduceCtorEq,and_false,exists_false]at hc)
theorem QI {x y:O} {g':Rows} (S:gx P hs D ι g w) (hc:qh P o.op=some (.snd x y)) (E:cQ P w D ι env a) (hv:dK g (cZ env x) (cZ env y)=some g'):
  ∃c cap s r buf u,(execOp a.eval o).run P w=.ok (.comm #[Conc.scase c u (.tuple #[])] true .send) w/\w.heap[c]? =some (.chan cap buf false s r false)/\buf.size<cap/\gx P hs D ι g' (w.setChan c cap (buf.push u) false (s+1) r false)/\Step hs D ι w D ι (w.setChan c cap (buf.push u) false (s+1) r false):=by
 obtain⟨x',y',ho,hx,hy⟩:=LI hc
 have rx:=dB E hx
 have ry:=dB E hy
 unfold dK at hv
 split at hv
 ·rename_i i he
  simp only[Option.bind_eq_some_iff]at hv
  obtain⟨r,hg,hv⟩:=hv
  split at hv
  ·rename_i hcond
   simp only[Option.some.injEq]at hv
   subst hv
   obtain⟨B,c,hu,hB,hk,fu,buf,s,q,hb,Ku,hR⟩:=yV S rx he hg
   obtain⟨B',dW,RR,_⟩:=S.row i r hg
   rw[hB]at dW;injection dW with dW;subst dW
   have nv:=S.Ho (ob:=.chan c (buf.push (a.eval y')) false (s+1) q false) (r':={r with rows:=r.rows++[[cZ env y]]}) hg hcond.1 hB fun hr jY=>⟨RR.sz,fun cs dS=>?_,fun h0=>(by rw[hk]at h0;cases h0),fun m hm=>(by rw[hk]at hm;cases hm),fun c' kq=>?_⟩
   ·exact⟨B.b,c,s,q,buf,a.eval y',by simp[execOp,ho,hu,Conc.scase],hb,by rw[Ku];omega,nv.1,nv.2⟩
   ·rcases List.mem_append.1 dS with h|h
    ·exact RR.flat cs h
    ·rw[List.mem_singleton.1 h]
     intro b rZ
     rw[List.mem_singleton.1 rZ];exact hcond.2.2
   ·rw[hk]at kq
    simp only[Option.some.injEq,BK.chan.injEq]at kq
    subst kq
    refine⟨fu,_,_,_,jY,by simp[Ku],fun j cs hj=>?_⟩
    rw[List.getElem?_append]at hj
    split at hj
    ·rename_i eh
     obtain⟨b,u,q1,q2,q3⟩:=hR j cs hj
     refine⟨b,u,q1,?_,hr _ _ q3⟩
     rw[Array.getElem?_push,if_neg ai];exact q2
    ·rename_i pY
     have gZ:j=r.rows.length:=by
      have:=(List.getElem?_eq_some_iff.1 hj).1
      simp at this;omega
     subst gZ
     simp at hj
     subst hj
     exact⟨_,_,rfl,by rw[Array.getElem?_push,if_pos Ku.symm],hr _ _ ry⟩
  ·cases hv
 ·cases hv
theorem QH {x:O} {g':Rows} {v:AV} (S:gx P hs D ι g w) (hc:qh P o.op=some (.Pj x)) (E:cQ P w D ι env a) (hv:dJ g (cZ env x)=some (v,g')):
  ∃c cap s r buf z,(execOp a.eval o).run P w=.ok (.comm #[Conc.rcase c z] true (.recv false)) w/\w.heap[c]? =some (.chan cap buf false s r false)/\0<buf.size/\gx P hs D ι g' (w.setChan c cap (buf.extract 1 buf.size) false s (r+1) false)/\Step hs D ι w D ι (w.setChan c cap (buf.extract 1 buf.size) false s (r+1) false)/\dd P (w.setChan c cap (buf.extract 1 buf.size) false s (r+1) false) D ι v (buf.getD 0 undef):=by
 obtain⟨t,dir,e,i0,z,x',ho,ht,hi,hz,hx⟩:=LH hc
 have rx:=dB E hx
 unfold dJ at hv
 split at hv
 ·rename_i i he
  simp only[Option.bind_eq_some_iff]at hv
  obtain⟨r,hg,hv⟩:=hv
  split at hv
  ·rename_i v' rest qI
   split at hv
   ·rename_i hcond
    simp only[Option.some.injEq,Prod.mk.injEq]at hv
    obtain⟨rfl,rfl⟩:=hv
    obtain⟨B,c,hu,hB,hk,fu,buf,s,q,hb,Ku,hR⟩:=yV S rx he hg
    obtain⟨B',dW,RR,_⟩:=S.row i r hg
    rw[hB]at dW;injection dW with dW;subst dW
    obtain⟨b0,u0,q1,q2,q3⟩:=hR 0 [v'] (by rw[qI];rfl)
    simp only[List.cons.injEq,and_true]at q1
    subst q1
    have jZ:0<buf.size:=by rw[Ku,qI];simp
    have Tf:buf.getD 0 undef=u0:=by rw[Array.getD_eq_getD_getElem?,q2];rfl
    have nv:=S.Ho (ob:=.chan c (buf.extract 1 buf.size) false s (q+1) false) (r':={r with rows:=rest}) hg hcond hB fun hr jY=>⟨RR.sz,fun cs dS=>RR.flat cs (by rw[qI];exact List.mem_cons_of_mem _ dS),fun h0=>(by rw[hk]at h0;cases h0),fun m hm=>(by rw[hk]at hm;cases hm),fun c' kq=>?_⟩
    ·refine⟨B.b,c,s,q,buf,z,?_,hb,jZ,nv.1,nv.2,?_⟩
     ·have uV:(zeroValue e).run P w=.ok z w:=by simp[zeroValue,typeInfo,hi,hz]
      simp[execOp,ho,hu,Conc.rcase,run_underlying ht,uV]
     ·rw[Tf];exact nv.2.rep q3
    ·rw[hk]at kq
     simp only[Option.some.injEq,BK.chan.injEq]at kq
     subst kq
     refine⟨fu,_,_,_,jY,by simp[Ku,qI],fun j cs hj=>?_⟩
     obtain⟨b,u,k1,k2,k3⟩:=hR (j+1) cs (by rw[qI];simpa using hj)
     refine⟨b,u,k1,?_,hr _ _ k3⟩
     have eh:=(Array.getElem?_eq_some_iff.1 k2).1
     rw[Array.getElem?_extract,if_pos ai,Nat.add_comm 1 j];exact k2
   ·cases hv
  ·cases hv
 ·cases hv
theorem FX {ops:Array Oper} {nt site0:Nat} {K:Env->au->Prop} {Q:Exit->Act->World->Prop}:∀(l:List Oper) (vl:List bH) (j:Nat) (env:Env) (σ:au) (a:Act) (w:World) (D:Nat->Prop) (ι:Names),
  ops.toList.drop j=l->allM (kn P ops nt site0 false false #[] []) l j=some vl->bU vl K env σ->gx P hs D ι σ.get w->Used ι σ.next (fun _=>False)->cQ P w D ι env a->a.tmps.size=nt->
  (∀iz σ' a' w' D' ι',K iz σ'->Step hs D ι w D' ι' w'->St P hs nt D' ι' iz σ' a' w'->a'.defers=a.defers->σ.next<=σ'.next->Q .normal a' w')->wP P ops Q (List.range' j l.length) a w:=by
 intro l
 induction l with
 |nil=>
  intro vl j env σ a w D ι _ h hv S Us E fu hQ
  simp[allM]at h;subst h
  exact Pe (hQ env ⟨σ.get,σ.next+1⟩ a w D ι hv (Step.refl _ _ _ _) ⟨S,Us.next,E,fu⟩ rfl (Nat.le_succ _))
 |cons o l ih=>
  intro vl j env σ a w D ι hl h hv S Us E fu hQ
  simp only[allM,Option.bind_eq_bind,Option.bind_eq_some_iff,Option.pure_def,Option.some.injEq]at h
  obtain⟨vo,pd,sG,rK,rfl⟩:=h
  obtain⟨hc,hd,Br,w9,hg⟩:=oL pd
  obtain⟨Rm,hv⟩:=hv
  have UZ:o.guard=none:=by
   split at hg
   ·assumption
   ·obtain⟨t,_,h⟩:=hg
    rw[Rm]at h;cases h
  have U0:ops[j]? =some o:=by
   have h0:=congrArg (fun x=>x[0]?) hl
   rw[<-Array.getElem?_toList]
   simpa[List.getElem?_drop]using h0
  have Kz:ops.toList.drop (j+1)=l:=by rw[<-List.drop_drop,hl];rfl
  have go:∀(v:AV) (u:Value) (g2:Rows) (w2:World),bU sG K (upd env vo.dst v) ⟨g2,σ.next⟩->gx P hs D ι g2 w2->Step hs D ι w D ι w2->dd P w2 D ι v u->wP P ops Q (List.range' (j+1) l.length) (a.put o.dst u) w2:=fun v u g2 w2 hn S2 T hR=>
   ih sG (j+1) (upd env vo.dst v) ⟨g2,σ.next⟩ (a.put o.dst u) w2 D ι Kz rK hn S2 Us (by rw[hd];exact im (nS E T) hR w9 fu) (by rw[e6];exact fu) fun iz σ2 a' w3 D3 ι3 hk T2 NC Dn mC=>hQ iz σ2 a' w3 D3 ι3 hk (T.trans T2) NC (Dn.trans (put_defers _ _ _)) mC
  rw[show List.range' j (o::l).length=j::List.range' (j+1) l.length from rfl]
  split at hv
  ·rename_i x y ez
   split at hv
   ·rename_i g2 Lx
    rw[ez]at hc
    obtain⟨c,cap,s,r,buf,u,gi,hb,fV,S2,T⟩:=QI S hc E Lx
    exact L7 U0 UZ gi hb fV (go _ _ _ _ hv S2 T dd.undef)
   ·exact hv.elim
  ·rename_i x ez
   split at hv
   ·rename_i v g2 Lx
    rw[ez]at hc
    obtain⟨c,cap,s,r,buf,z,gi,hb,I3,S2,T,hR⟩:=QH S hc E Lx
    exact L6 U0 UZ gi hb I3 (go _ _ _ _ hv S2 T hR)
   ·exact hv.elim
  ·split at hv
   ·rename_i v hq
    obtain⟨u,gi,hR⟩:=yw hc hq S E
    exact JB U0 UZ gi (go _ _ _ _ hv S (Step.refl _ _ _ _) hR)
   ·exact hv.elim
end
end Go.Proofs.YtgoljkjaameagaaGreat.V

namespace Go.Proofs.YtgoljkjaameagaaGreat.V
open Go.RowKit
variable {P:Program} {w w':World} {D D' D2:Nat->Prop} {ι ι' ι2:Names}
section
variable {hs:Nat} {X:fQ}
def Sz:Ex->Exit
 | .normal=>.normal
 | .exit id=>.exit id
 | .ret=>.ret
theorem St.drew {nt:Nat} {env:Env} {σ:au} {a:Act} {D:Nat->Prop} {ι:Names} (h:St P hs nt D ι env σ a w):St P hs nt D ι env σ a w.drew/\Step hs D ι w D ι w.drew:=by
 have T:Step hs D ι w D ι w.drew:=Step.stay h.su (fun _ _=>rfl) (Nat.le_refl _) rfl rfl rfl (fun _ h=>h) (fun _ h=>.inl h) (fun _ _ h=>h)
 exact⟨⟨h.su.stay (fun _ _=>rfl) (Nat.le_refl _) (fun _ h=>h) h.su.dead (fun _ h=>.inl h) (fun _ _ h=>h),h.used,nS h.env T,h.size⟩,T⟩
def sJ (P:Program) (hs nt:Nat) (ds:List Deferred) (Q:Ex->Env->au->Prop) (n0:Nat) (D:Nat->Prop) (ι:Names) (w:World) (Q':Exit->Act->World->Prop):Prop:=
 ∀ex env σ a w' D' ι',Q ex env σ->Step hs D ι w D' ι' w'->St P hs nt D' ι' env σ a w'->a.defers=ds->n0<=σ.next->Q' (Sz ex) a w'
theorem sJ.later {nt:Nat} {ds:List Deferred} {Q:Ex->Env->au->Prop} {n0 n1:Nat} {Q':Exit->Act->World->Prop} (h:sJ P hs nt ds Q n0 D ι w Q') (T:Step hs D ι w D' ι' w') (hn:n0<=n1):sJ P hs nt ds Q n1 D' ι' w' Q':=
 fun ex env σ a w2 D2 ι2 hq T2 eb hd hle=>h ex env σ a w2 D2 ι2 hq (T.trans T2) eb hd (Nat.le_trans hn hle)
theorem pN (hm:P.follows .mixedOrders=true) {md:List (Nat×Nat)} {nt fid:Nat}:∀(c:Code) (vc:VC),iX P md nt fid c=some vc->∀(Q:Ex->Env->au->Prop) (env:Env) (σ:au) (a:Act) (w:World) (D:Nat->Prop) (ι:Names) (Q':Exit->Act->World->Prop),
  dQ (Sound P) vc Q env σ->St P hs nt D ι env σ a w->sJ P hs nt a.defers Q σ.next D ι w Q'->Ab P c Q' a w:=by
 intro c
 induction c with
 |skip=>
  intro vc h Q env σ a w D ι Q' hv eb hQ
  simp[iX]at h;subst h
  exact j0 <| wp_skip (hQ .normal env σ a w D ι hv (Step.refl _ _ _ _) eb rfl (Nat.le_refl _))
 |exit id=>
  intro vc h Q env σ a w D ι Q' hv eb hQ
  simp[iX]at h;subst h
  exact j0 <| wp_exit (hQ (.exit id) env σ a w D ι hv (Step.refl _ _ _ _) eb rfl (Nat.le_refl _))
 |ret=>
  intro vc h Q env σ a w D ι Q' hv eb hQ
  simp[iX]at h;subst h
  exact j0 <| wp_ret (hQ .ret env σ a w D ι hv (Step.refl _ _ _ _) eb rfl (Nat.le_refl _))
 |seq x y ihx ihy=>
  intro vc h Q env σ a w D ι Q' hv eb hQ
  simp only[iX,Option.bind_eq_bind,Option.bind_eq_some_iff,Option.pure_def,Option.some.injEq]at h
  obtain⟨vx,hx,vy,hy,rfl⟩:=h
  refine lj (ihx vx hx _ env σ a w D ι _ hv eb fun ex iQ σ1 a1 w1 D1 ι1 hq T jQ hd hle=>?_)
  cases ex with
  |normal=>exact ihy vy hy Q iQ σ1 a1 w1 D1 ι1 Q' hq jQ (by rw[hd];exact hQ.later T hle)
  |exit id=>exact hQ (.exit id) iQ σ1 a1 w1 D1 ι1 hq T jQ hd hle
  |ret=>exact hQ .ret iQ σ1 a1 w1 D1 ι1 hq T jQ hd hle
 |cond c x y ihx ihy=>
  intro vc h Q env σ a w D ι Q' hv eb hQ
  simp only[iX,Option.bind_eq_bind,Option.bind_eq_some_iff,Option.pure_def,Option.some.injEq]at h
  obtain⟨c',hc,vx,hx,vy,hy,rfl⟩:=h
  unfold dQ at hv
  have hr:=dB eb.env hc
  split at hv
  ·rename_i b hb
   rw[hb]at hr
   refine vp (fe hr) ?_
   cases b with
   |true=>exact ihx vx hx Q env σ a w D ι Q' hv eb hQ
   |false=>exact ihy vy hy Q env σ a w D ι Q' hv eb hQ
  ·exact hv.elim
 |block id c ih=>
  intro vc h Q env σ a w D ι Q' hv eb hQ
  simp only[iX,Option.map_eq_some_iff]at h
  obtain⟨vx,hx,rfl⟩:=h
  refine sj (ih vx hx _ env σ a w D ι _ hv eb fun ex iQ σ1 a1 w1 D1 ι1 hq T jQ hd hle=>?_)
  cases ex with
  |normal=>exact hQ .normal iQ σ1 a1 w1 D1 ι1 hq T jQ hd hle
  |ret=>exact hQ .ret iQ σ1 a1 w1 D1 ι1 hq T jQ hd hle
  |exit jG=>
   simp only[aX]at hq
   simp only[Sz,Exit.inBlock]
   by_cases hid:jG=id
   ·rw[if_pos hid]at hq ⊢;exact hQ .normal iQ σ1 a1 w1 D1 ι1 hq T jQ hd hle
   ·rw[if_neg hid]at hq ⊢;exact hQ (.exit jG) iQ σ1 a1 w1 D1 ι1 hq T jQ hd hle
 |loop c ih=>
  intro vc h Q env σ a w D ι Q' hv eb hQ
  simp only[iX,Option.map_eq_some_iff]at h
  obtain⟨vx,hx,rfl⟩:=h
  obtain⟨n,hv⟩:=hv
  refine BX n ?_
  have key:∀n env σ a w D ι,Ft (dQ (Sound P) vx) Q n env σ->St P hs nt D ι env σ a w->sJ P hs nt a.defers Q σ.next D ι w Q'->oP P c Q' n a w:=by
   intro n
   induction n with
   |zero=>intro env σ a w D ι h;exact h.elim
   |succ n ihn=>
    intro env σ a w D ι h eb hQ
    refine ih vx hx _ env σ a w D ι _ h eb fun ex iQ σ1 a1 w1 D1 ι1 hq T jQ hd hle=>?_
    cases ex with
    |normal=>exact ihn iQ σ1 a1 w1 D1 ι1 hq jQ (by rw[hd];exact hQ.later T hle)
    |exit id=>exact hQ (.exit id) iQ σ1 a1 w1 D1 ι1 hq T jQ hd hle
    |ret=>exact hQ .ret iQ σ1 a1 w1 D1 ι1 hq T jQ hd hle
  exact key n env σ a w D ι hv eb hQ
 |region id ops draw=>
  intro vc h Q env σ a w D ι Q' hv eb hQ
  simp only[iX,QG]at h
  split at h
  ·rename_i hmode
   have Uw:draw=true:=by
    simp only[Bool.and_eq_true]at hmode;exact hmode.1
   subst Uw
   split at h
   ·rename_i vl ee
    obtain⟨qJ,T0⟩:=eb.drew
    have Dl:=Hn (X:=Sound P) kj ops.size _ vc env σ h (fun k i h=>by
     exfalso
     rcases Nat.lt_or_ge k ops.size with hk|hk
     ·simp[hk]at h
     ·simp[Nat.not_lt.2 hk]at h) hv
    refine j0 (wp_region_any hm ?_)
    exact EB ee ops.size _ env σ a w.drew D ι (fun _=>False) Dl qJ.su qJ.used (fun _ h=>h.elim) qJ.env qJ.size fun iQ σ1 a1 w1 D1 ι1 hk T jQ hd hle=>hQ .normal iQ σ1 a1 w1 D1 ι1 hk (T0.trans T) jQ hd hle
   ·cases h
  split at h
  ·rename_i hcom
   have Uw:draw=false:=by
    simp only[Bool.and_eq_true,Bool.not_eq_true']at hcom;exact hcom.1
   subst Uw
   simp only[Option.map_eq_some_iff]at h
   obtain⟨vl,rK,rfl⟩:=h
   have ee:allM (kn P ops nt ((fid*1000+id)*1000) false false #[] []) ops.toList 0=some vl:=by
    unfold qw at rK
    simp only[Bool.false_eq_true,if_false,Bool.not_false,Bool.true_or,if_true]at rK
    split at rK
    ·rename_i sG h;simp at rK;subst rK;exact h
    ·cases rK
   refine DW ?_
   have:=FX (Q:=Q') ops.toList vl 0 env σ a w D ι rfl ee hv eb.su eb.used eb.env eb.size fun iQ σ1 a1 w1 D1 ι1 hk T jQ hd hle=>hQ .normal iQ σ1 a1 w1 D1 ι1 hk T jQ hd hle
   rwa [<-List.range_eq_range',Array.length_toList]at this
  generalize (vk md id==1)=mk at h
  simp only[Option.map_eq_some_iff]at h
  obtain⟨vl,rK,rfl⟩:=h
  cases draw with
  |false=>
   have ee:∃sG,allM (kn P ops nt ((fid*1000+id)*1000) false mk #[] []) ops.toList 0=some sG/\vl=sG:=by
    unfold qw at rK
    simp only[Bool.false_eq_true,if_false,Bool.not_false,Bool.true_or,if_true]at rK
    split at rK
    ·rename_i sG h;simp at rK;exact⟨sG,h,rK.symm⟩
    ·cases rK
   obtain⟨sG,ee,rfl⟩:=ee
   refine j0 (wp_region_list ?_)
   exact yp ops.toList vl 0 env σ a w D ι (fun _=>False) ee hv eb.su eb.used (fun _ h=>h.elim) eb.env eb.size fun iQ σ1 a1 w1 D1 ι1 hk T jQ hd hle=>hQ .normal iQ σ1 a1 w1 D1 ι1 hk T jQ hd hle
  |true=>
   have ee:∃hidden sG,allM (kn P ops nt ((fid*1000+id)*1000) true mk (jn ops) hidden) ops.toList 0=some sG/\vl=sG/\nR ops sG (jn ops)=true:=by
    unfold qw at rK
    simp only[if_true,Bool.not_true,Bool.false_or]at rK
    split at rK
    ·rename_i sG h
     split at rK
     ·rename_i uS;simp at rK;exact⟨_,sG,h,rK.symm,uS⟩
     ·cases rK
    ·cases rK
   obtain⟨hidden,sG,ee,rfl,uS⟩:=ee
   obtain⟨qJ,T0⟩:=eb.drew
   obtain⟨hlen,_⟩:=nL ee
   have kr:vl.length=ops.size:=by rw[hlen];simp
   have Dl:=wE (X:=Sound P) (K:=Q .normal) (n:=σ.next) uS kr vl 0 (Array.replicate ops.size false) env σ.get (by simp) (by simp) (fun i hi=>by simp[hi]) (by simp[kr]) (fun k i h=>by
    exfalso
    rcases Nat.lt_or_ge k ops.size with hk|hk
    ·simp[hk]at h
    ·simp[Nat.not_lt.2 hk]at h) hv
   refine j0 (wp_region_any hm ?_)
   rw[kr]at Dl
   exact xz ee ops.size _ env σ.get a w.drew D ι (fun _=>False) Dl qJ.su qJ.used (fun _ h=>h.elim) qJ.env qJ.size fun iQ g1 a1 w1 D1 ι1 U1 hk T S1 Tx E1 Al hd=>hQ .normal iQ ⟨g1,σ.next+1⟩ a1 w1 D1 ι1 hk (T0.trans T) ⟨S1,Tx.next,E1,Al⟩ hd (Nat.le_succ _)
 |_=>
  intro vc h
  simp[iX]at h
def JN (tmps:Array Value):ResultVar->Sem Value
 | .tmp t=>pure (tmps.getD t undef)
 | .cell a t=>do loadVar t (<-asAddr (tmps.getD a undef))
theorem Ee (fn:Func) (tmps:Array Value):results fn tmps=(do
  let vs <-fn.results.mapM (JN tmps)
  pure (if h:vs.size=1 then vs[0]else .tuple vs)):=by
 unfold results
 congr 2
theorem td {nt:Nat} {env:Env} {σ:au} {a:Act} {D:Nat->Prop} {ι:Names} (eb:St P hs nt D ι env σ a w):∀(rs:List ResultVar) (vr:List nh) (vs:List AV),rs.mapM (CX P)=some vr->fj env σ.get vr=some vs->
  ∃us:List Value,(rs.mapM (JN a.tmps)).run P w=.ok us w/\us.length=vs.length/\∀(j:Nat) (v:AV),vs[j]? =some v->∃u,us[j]? =some u/\dd P w D ι v u
 |[],vr,vs,h,hv=>by
  simp at h;subst h
  simp[fj]at hv;subst hv
  exact⟨[],by simp,rfl,fun j v h=>by simp at h⟩
 |r::rs,vr,vs,h,hv=>by
  simp only[List.mapM_cons,Option.bind_eq_bind,Option.bind_eq_some_iff]at h
  obtain⟨x,hx,vr',hr,h⟩:=h
  simp at h;subst h
  simp only[fj,Option.bind_eq_some_iff,Option.map_eq_some_iff]at hv
  obtain⟨v,xZ,Vs,RG,rfl⟩:=hv
  obtain⟨us,h1,h2,h3⟩:=td eb rs vr' Vs hr RG
  have one:∃u,(JN a.tmps r).run P w=.ok u w/\dd P w D ι v u:=by
   cases r with
   |tmp t=>
    simp[CX]at hx;subst hx
    simp[gJ]at xZ;subst xZ
    exact⟨_,rfl,eb.env t⟩
   |cell b t=>
    simp only[CX,Option.bind_eq_bind,Option.bind_eq_some_iff,Option.pure_def,Option.some.injEq]at hx
    obtain⟨ag,tQ,n,hn,rfl⟩:=hx
    simp only[gJ]at xZ
    have gH:=eb.env b
    unfold ld at xZ
    split at xZ
    ·rename_i jG i' oo hb
     rw[hb]at gH
     obtain⟨B,he,hB,hk⟩:=iv gH
     simp only[Option.bind_eq_some_iff]at xZ
     obtain⟨cs,dS,hp⟩:=xZ
     obtain⟨B',r0,Hw,dW,R,hi,fl,f,hf⟩:=JS (S:=eb.su) dS (fun B2 h2=>by rw[hB]at h2;injection h2 with h2;subst h2;exact hk)
     rw[hB]at dW;injection dW with dW;subst dW
     obtain⟨u,k1,k2⟩:=kc (w:=w) (b:=B.b) (oo:=i'*B.sz+oo) (f:=fun j=>f (oo+j)) tQ hn hp (fun a ha=>fl a (List.mem_of_mem_drop ha)) (fun j hj=>by
      rw[Nat.add_assoc];exact(hf _ (by simp at hj;omega)).1) (fun j a ha=>by
      simp at ha;exact(hf _ ((List.getElem?_eq_some_iff.1 ha).1)).2 _ ha)
     exact⟨u,by simp only[JN,he,asAddr,Sem.run_bind,Sem.run_pure,Result.andThen_ok,k1],k2⟩
    ·rename_i cs hb
     rw[hb]at gH
     obtain⟨b',oo,vs2,he,q1,q2,q3,q4⟩:=jS gH
     obtain⟨u,k1,k2⟩:=kc (w:=w) (b:=b') (oo:=oo) (f:=vs2) tQ hn xZ q2 q3 (fun j a ha=>.eM _ _ (q4 j a ha))
     exact⟨u,by simp only[JN,he,asAddr,Sem.run_bind,Sem.run_pure,Result.andThen_ok,k1],k2⟩
    ·simp at xZ
  obtain⟨u,hu,xg⟩:=one
  refine⟨u::us,?_,by simp[h2],fun j v' hj=>?_⟩
  ·rw[List.mapM_cons]
   simp only[Sem.run_bind,hu,h1,Result.andThen_ok,Sem.run_pure]
  ·cases j with
   |zero=>simp at hj;subst hj;exact⟨u,rfl,xg⟩
   |succ j=>simp at hj ⊢;exact h3 j v' hj
theorem ur {f:Nat} {fn:Func} {c:Code} {args:List AV} {σ:au} {K:AV->au->Prop} {vr:List nh} (Qc:P.funcs[f]? =some fn) (hc:fn.body=some c) (hr:fn.results.toList.mapM (CX P)=some vr) (ha:fn.params.size+fn.nfree=args.length) (hle:fn.params.size+fn.nfree<=fn.ntmps)
  (h:∀(hs:Nat) (w:World) (D:Nat->Prop) (ι:Names) (a:Act) (Q':Exit->Act->World->Prop),St P hs fn.ntmps D ι (bQ args) σ a w->sJ P hs fn.ntmps a.defers (kb vr K) σ.next D ι w Q'->Ab P c Q' a w):Sound P f args σ K:=by
 intro hs D ι w vs S Us A
 have fu:vs.size=args.length:=A.1
 refine yU Qc hc ?_
 refine h hs w D ι _ _ ⟨S,Us,fun t=>?_,by simp;omega⟩ fun ex iQ σ1 a1 w1 D1 ι1 hq T jQ hd hle=>?_
 ·simp only[bQ]
  by_cases eh:t<args.length
  ·obtain⟨u,hu,xg⟩:=A.2 t args[t] (List.getElem?_eq_getElem eh)
   have e1:args.getD t .undef=args[t]:=by simp[List.getD_eq_getElem?_getD,eh]
   have e2:(vs++Array.replicate (fn.ntmps-vs.size) undef).getD t undef=u:=by
    simp only[Array.getD_eq_getD_getElem?]
    rw[Array.getElem?_append_left ai,hu];rfl
   rw[e1,e2];exact xg
  ·have e1:args.getD t .undef=.undef:=by simp[List.getD_eq_getElem?_getD,Nat.le_of_not_lt eh]
   have e2:(vs++Array.replicate (fn.ntmps-vs.size) undef).getD t undef=undef:=by
    simp only[Array.getD_eq_getD_getElem?]
    rw[Array.getElem?_append_right ai,Array.getElem?_replicate]
    split<;>rfl
   rw[e1,e2];exact dd.undef
 ·have fin:(∃vs,fj iQ σ1.get vr=some vs/\K (eX vs) σ1)->a1.defers=[]/\∃v,(results fn a1.tmps).run P w1=.ok v w1/\∃r g' n' D' ι' u,Ending.returned v=.returned u/\K r ⟨g',n'⟩/\Step hs D ι w D' ι' w1/\gx P hs D' ι' g' w1/\Used ι' n' (fun _=>False)/\σ.next<=n'/\dd P w1 D' ι' r u:=by
   rintro⟨avs,RG,hK⟩
   obtain⟨us,h1,h2,h3⟩:=td jQ fn.results.toList vr avs hr RG
   have OO:(results fn a1.tmps).run P w1=.ok (if h:us.toArray.size=1 then us.toArray[0]else .tuple us.toArray) w1:=by
    rw[Ee,Array.mapM_eq_mapM_toList]
    simp only[Sem.run_bind,Sem.run_map,h1,Result.andThen_ok,Sem.run_pure]
   refine⟨hd,_,OO,eX avs,σ1.get,σ1.next,D1,ι1,_,rfl,hK,T,jQ.su,jQ.used,hle,?_⟩
   unfold eX
   split
   ·rename_i v
    have hl:us.length=1:=h2
    obtain⟨u,hu,xg⟩:=h3 0 v rfl
    rw[dif_pos (by simpa using hl)]
    have:us.toArray[0]'(by simp[hl])=u:=by
     have:=(List.getElem?_eq_some_iff.1 hu).2
     simpa using this
    rw[this];exact xg
   ·rename_i gP
    rw[dif_neg (by
     simp only[List.size_toArray,h2]
     intro h
     obtain⟨v,hv⟩:=List.length_eq_one_iff.1 h
     exact gP v hv)]
    exact .gn _ _ (fun j=>us.getD j undef) (by simp[h2]) (fun j hj=>by
     have:j<us.length:=by rw[h2];exact hj
     simp[this]) (fun j v hj=>by
     obtain⟨u,hu,xg⟩:=h3 j v hj
     simpa[List.getD_eq_getElem?_getD,hu]using xg)
  cases ex with
  |normal=>exact fin hq
  |ret=>exact fin hq
  |exit id=>exact hq.elim
theorem Iu (hm:P.follows .mixedOrders=true) {f:Nat} {md:List (Nat×Nat)} {vf:Ac} {args:List AV} {σ:au} {K:AV->au->Prop} (hf:wW P f md=some vf) (ha:vf.yl=args.length) (h:dQ (Sound P) vf.body (kb vf.res K) (bQ args) σ):Sound P f args σ K:=by
 unfold wW at hf
 split at hf
 ·rename_i fn Qc
  split at hf
  ·rename_i c hc
   simp only[Option.bind_eq_bind,Option.bind_eq_some_iff]at hf
   obtain⟨vb,hb,vr,hr,hf⟩:=hf
   split at hf
   ·rename_i hle
    simp only[Option.pure_def,Option.some.injEq]at hf
    subst hf
    simp only at ha h
    exact ur Qc hc hr ha hle fun hs w D ι a Q' eb hQ=>pN hm c vb hb (kb vr K) (bQ args) σ a w D ι Q' h eb hQ
   ·simp at hf
  ·simp at hf
 ·simp at hf
def Np (P:Program) (X:fQ):fQ:=fun f args σ K=>(∃md vf,wW P f md=some vf/\vf.yl=args.length/\((∀a∈args,eR a)->dQ X vf.body (kb vf.res K) (bQ args) σ))∨Sound P f args σ K
def Call (P:Program):fQ:=fun f args σ K=>∀X:fQ,pg X->(∀f args σ K,Np P X f args σ K->X f args σ K)->X f args σ K
theorem fR (hm:P.follows .mixedOrders=true) {f:Nat} {args:List AV} {σ:au} {K:AV->au->Prop} (h:Call P f args σ K):Sound P f args σ K:=
 h (Sound P) kj fun f args σ K hs=>by
  rcases hs with⟨md,vf,h1,h2,h3⟩|h
  ·intro hs D ι w vs S U A
   exact Iu hm h1 h2 (h3 (oj fun j a hj=>by obtain⟨u,_,hr⟩:=A.2 j a hj;exact hr.Je)) hs D ι w vs S U A
  ·exact h
end
end Go.Proofs.YtgoljkjaameagaaGreat.V

namespace Go.Proofs.YtgoljkjaameagaaGreat.V
open Go.RowKit
variable {P:Program} {X Y:fQ}
theorem HK (h:∀f args σ K,X f args σ K->Y f args σ K) {f:Nat} {args:List AV} {σ:au} {K:AV->Prop} (hp:ft X f args σ K):ft Y f args σ K:=by
 rcases hp with hp|⟨a,h1,h2⟩
 ·exact .inl (h _ _ _ _ hp)
 ·exact .inr ⟨a,h1,h _ _ _ _ h2⟩
theorem KH (h:∀f args σ K,X f args σ K->Y f args σ K) {f:Nat} {args:List AV} {σ:au} {sz:Nat} {rows:List (List AV)} (hp:CM X f args σ sz rows):CM Y f args σ sz rows:=by
 obtain⟨h1,a,h2,h3⟩:=hp
 exact⟨h1,a,h2,h _ _ _ _ h3⟩
theorem pK (h:∀f args σ K,X f args σ K->Y f args σ K) (hK:∀f args σ K K',(∀r σ',K r σ'->K' r σ')->Y f args σ K->Y f args σ K') {draw:Bool} {hid:List Nat} {site:Nat} {f:Nat} {args:List AV} {σ:au} {n n':AV->au->Prop} (hn:∀v σ',n v σ'->n' v σ') (hp:cm X draw hid site f args σ n):cm Y draw hid site f args σ n':=by
 rcases hp with⟨r,h1,h2⟩|⟨h1,h2⟩|⟨h1,sz,rows,h2,h3⟩
 ·exact .inl ⟨r,HK h h1,hn _ _ h2⟩
 ·exact .inr (.inl ⟨h1,hK _ _ _ _ _ hn (h _ _ _ _ h2)⟩)
 ·exact .inr (.inr ⟨h1,sz,rows,KH h h2,hn _ _ h3⟩)
theorem rE (h:∀f args σ K,X f args σ K->Y f args σ K) (hK:∀f args σ K K',(∀r σ',K r σ'->K' r σ')->Y f args σ K->Y f args σ K') {draw:Bool} {o:bH} {env:Env} {σ:au} {n n':AV->au->Prop} (hn:∀v σ',n v σ'->n' v σ') (hp:eV X draw o env σ n):eV Y draw o env σ n':=by
 unfold eV at hp ⊢
 split at hp
 ·exact pK h hK hn hp
 ·split at hp
  ·exact pK h hK hn hp
  ·exact pK h hK hn hp
  ·exact hp.elim
 ·split at hp
  ·exact hn _ _ hp
  ·exact hp.elim
 ·split at hp
  ·exact hn _ _ hp
  ·exact hp.elim
 ·split at hp
  ·exact hn _ _ hp
  ·exact hp.elim
 ·split at hp
  ·exact hn _ _ hp
  ·exact hp.elim
 ·split at hp
  ·exact hn _ _ hp
  ·exact hp.elim
 ·split at hp
  ·exact hn _ _ hp
  ·exact hn _ _ hp
  ·exact hp.elim
theorem kI (h:∀f args σ K,X f args σ K->Y f args σ K) (hK:∀f args σ K K',(∀r σ',K r σ'->K' r σ')->Y f args σ K->Y f args σ K') {draw:Bool} {Q Q':Env->au->Prop} (hQ:∀e s,Q e s->Q' e s):∀(l:List bH) (env:Env) (σ:au),wpOps X draw l Q env σ->wpOps Y draw l Q' env σ
 |[],env,σ,hp=>hQ _ _ hp
 |o::r,env,σ,hp=>by
  unfold wpOps at hp ⊢
  split at hp
  ·rename_i hw;rw[if_pos hw];exact rE h hK (fun v σ'=>kI h hK hQ r _ _) hp
  ·rename_i hw;rw[if_neg hw];exact kI h hK hQ r _ _ hp
theorem mM {Q Q':Env->au->Prop} (hQ:∀e s,Q e s->Q' e s):∀(l:List bH) (env:Env) (σ:au),bU l Q env σ->bU l Q' env σ
 |[],env,σ,hp=>hQ _ _ hp
 |o::r,env,σ,hp=>by
  unfold bU at hp ⊢
  refine⟨hp.1,?_⟩
  replace hp:=hp.2
  split at hp
  ·split at hp
   ·exact mM hQ r _ _ hp
   ·exact hp.elim
  ·split at hp
   ·exact mM hQ r _ _ hp
   ·exact hp.elim
  ·split at hp
   ·exact mM hQ r _ _ hp
   ·exact hp.elim
theorem jk (h:∀f args σ K,X f args σ K->Y f args σ K) (hK:∀f args σ K K',(∀r σ',K r σ'->K' r σ')->Y f args σ K->Y f args σ K'):∀(c:VC) (Q Q':Ex->Env->au->Prop) (env:Env) (σ:au),(∀x e s,Q x e s->Q' x e s)->dQ X c Q env σ->dQ Y c Q' env σ:=by
 intro c
 induction c with
 |skip=>intro Q Q' env σ hQ hp;exact hQ _ _ _ hp
 |exit id=>intro Q Q' env σ hQ hp;exact hQ _ _ _ hp
 |ret=>intro Q Q' env σ hQ hp;exact hQ _ _ _ hp
 |one o c ih=>
  intro Q Q' env σ hQ hp
  unfold dQ at hp ⊢
  split at hp
  ·rename_i hw;rw[if_pos hw];exact rE h hK (fun v σ'=>ih Q Q' _ _ hQ) hp
  ·rename_i hw;rw[if_neg hw];exact ih Q Q' _ _ hQ hp
 |both a b iha ihb=>intro Q Q' env σ hQ hp;exact⟨iha Q Q' env σ hQ hp.1,ihb Q Q' env σ hQ hp.2⟩
 |loc t s y c ih=>intro Q Q' env σ hQ hp;exact⟨hp.1,ih Q Q' env σ hQ hp.2⟩
 |NQ ops=>intro Q Q' env σ hQ hp;exact mM (hQ .normal) ops env σ hp
 |eA draw ops=>intro Q Q' env σ hQ hp;exact kI h hK (hQ .normal) ops env σ hp
 |seq a b iha ihb=>
  intro Q Q' env σ hQ hp
  refine iha _ _ env σ (fun x e s hx=>?_) hp
  cases x with
  |normal=>exact ihb Q Q' e s hQ hx
  |exit id=>exact hQ _ _ _ hx
  |ret=>exact hQ _ _ _ hx
 |cond c a b iha ihb=>
  intro Q Q' env σ hQ hp
  unfold dQ at hp ⊢
  split at hp
  ·rename_i t ht
   cases t with
   |true=>exact iha Q Q' env σ hQ hp
   |false=>exact ihb Q Q' env σ hQ hp
  ·exact hp.elim
 |block id a iha=>
  intro Q Q' env σ hQ hp
  refine iha _ _ env σ (fun x e s hx=>?_) hp
  cases x with
  |normal=>exact hQ _ _ _ hx
  |ret=>exact hQ _ _ _ hx
  |exit jG=>
   unfold aX at hx ⊢
   dsimp only at hx ⊢
   split at hx
   ·rename_i hid;rw[if_pos hid];exact hQ _ _ _ hx
   ·rename_i hid;rw[if_neg hid];exact hQ _ _ _ hx
 |loop a iha=>
  intro Q Q' env σ hQ hp
  obtain⟨n,hp⟩:=hp
  refine⟨n,?_⟩
  induction n generalizing env σ with
  |zero=>exact hp
  |succ n ihn=>
   refine iha _ _ env σ (fun x e s hx=>?_) hp
   cases x with
   |normal=>exact ihn e s hx
   |exit id=>exact hQ _ _ _ hx
   |ret=>exact hQ _ _ _ hx
theorem aY:pg (Call P):=fun _ _ _ _ _ hK h X hX hc=>hX _ _ _ _ _ hK (h X hX hc)
theorem xt {f:Nat} {args:List AV} {σ:au} {K:AV->au->Prop} (h:Np P (Call P) f args σ K):Call P f args σ K:=by
 intro X hX hc
 refine hc _ _ _ _ ?_
 rcases h with⟨md,vf,h1,h2,h3⟩|h
 ·exact .inl ⟨md,vf,h1,h2,fun hl=>jk (fun f args σ K h=>h X hX hc) hX _ _ _ _ _ (fun _ _ _ h=>h) (h3 hl)⟩
 ·exact .inr h
theorem uf {f:Nat} {md:List (Nat×Nat)} {args:List AV} {σ:au} {K:AV->au->Prop} {vf:Ac} (hf:wW P f md=some vf) (ha:vf.yl=args.length) (h:(∀a∈args,eR a)->dQ (Call P) vf.body (kb vf.res K) (bQ args) σ):Call P f args σ K:=
 xt (.inl ⟨md,vf,hf,ha,h⟩)
theorem lJ {f:Nat} {args:List AV} {σ:au} {K:AV->au->Prop} {vf:Ac} (hf:lP P f=some vf) (ha:vf.yl=args.length) (h:(∀a∈args,eR a)->dQ (Call P) vf.body (kb vf.res K) (bQ args) σ):Call P f args σ K:=
 uf hf ha h
theorem fB {f:Nat} {args:List AV} {σ:au} {K:AV->au->Prop} (h:Sound P f args σ K):Call P f args σ K:=xt (.inr h)
def jU (P:Program) (f:Nat) (args:List AV) (r:AV):Prop:=∀σ,PC (Call P) f args σ (fun r'=>r'=r)
theorem jU.body {f:Nat} {args:List AV} {r:AV} {nt na:Nat} {body:VC} {res:List nh} (hf:lP P f=some ⟨nt,na,body,res⟩) (ha:na=args.length) (h:(∀a∈args,eR a)->∀σ:au,dQ (Call P) body (kb res fun r0 σ'=>∃r',fz σ'.get 6 r0=some r'/\r'=r) (bQ args) ⟨V.ro σ.get,σ.next⟩):jU P f args r:=fun σ=>lJ hf ha fun hl=>h hl σ
variable {Q:Ex->Env->au->Prop} {K:Env->au->Prop} {env:Env} {σ:au}
theorem FK {a b:VC} (h:∀N:Env->au->Prop,(∀e s,dQ X b Q e s->N e s)->dQ X a (cX N Q) env σ):dQ X (.seq a b) Q env σ:=h _ fun _ _ h=>h
theorem z8 (h:Q .normal env σ):dQ X .skip Q env σ:=h
theorem z6 {id:Nat} (h:Q (.exit id) env σ):dQ X (.exit id) Q env σ:=h
theorem FJ (h:Q .ret env σ):dQ X .ret Q env σ:=h
theorem ub {id:Nat} {c:VC} (h:dQ X c (aX id Q) env σ):dQ X (.block id c) Q env σ:=h
theorem FH {o:bH} {c:VC} (h:∀N:AV->au->Prop,(∀v s,dQ X c Q (upd env o.dst v) s->N v s)->if aA o.guard env then eV X false o env σ N else N .undef σ):dQ X (.one o c) Q env σ:=by
 have:=h (fun v s=>dQ X c Q (upd env o.dst v) s) fun _ _ h=>h
 unfold dQ
 split
 ·rename_i hw;rw[if_pos hw]at this;exact this
 ·rename_i hw;rw[if_neg hw]at this;exact this
def dM (s n:Nat):AV->Prop
 | .own id 0 _=>id=⟨s,n⟩
 |_=>False
def dP (n:Nat):AV->Prop
 | .own id _ _=>¬id.cV=n
 |_=>True
theorem z7 {t s:Nat} {y:O} {c:VC} (h1:dM s σ.next (env t)) (h2:dP σ.next (cZ env y)) (h:dQ X c Q env σ):dQ X (.loc t s y c) Q env σ:=by
 refine⟨⟨?_,fun id o l he=>?_⟩,h⟩
 ·revert h1
  unfold dM
  split
  ·rename_i id l he;rintro rfl;exact⟨l,he⟩
  ·exact fun h=>h.elim
 ·rw[he]at h2;exact h2
theorem fm {a b:VC} (ha:dQ X a Q env σ) (hb:dQ X b Q env σ):dQ X (.both a b) Q env σ:=⟨ha,hb⟩
theorem FI {draw:Bool} {ops:List bH} (h:∀N:Env->au->Prop,(∀e s,Q .normal e s->N e s)->wpOps X draw ops N env σ):dQ X (.eA draw ops) Q env σ:=h _ fun _ _ h=>h
theorem Kh {ops:List bH} (h:bU ops (Q .normal) env σ):dQ X (.NQ ops) Q env σ:=h
theorem Cu {draw:Bool} (h:K env ⟨σ.get,σ.next+1⟩):wpOps X draw [] K env σ:=h
theorem PH {draw:Bool} {o:bH} {r:List bH} (h:∀N:AV->au->Prop,(∀v s,wpOps X draw r K (upd env o.dst v) s->N v s)->if aA o.guard env then eV X draw o env σ N else N .undef σ):wpOps X draw (o::r) K env σ:=by
 have:=h (fun v s=>wpOps X draw r K (upd env o.dst v) s) fun _ _ h=>h
 unfold wpOps
 split
 ·rename_i hw;rw[if_pos hw]at this;exact this
 ·rename_i hw;rw[if_neg hw]at this;exact this
theorem Ki {c:O} {x y:VC} {b:Bool} (hc:cZ env c=.bool b) (ht:b=true->dQ X x Q env σ) (hf:b=false->dQ X y Q env σ):dQ X (.cond c x y) Q env σ:=by
 unfold dQ
 simp only[hc]
 cases b with
 |true=>exact ht rfl
 |false=>exact hf rfl
inductive nC:AV->Prop->Prop->Prop
 |t {A B:Prop}:A->nC (.bool true) A B
 |f {A B:Prop}:B->nC (.bool false) A B
theorem uc {c:O} {x y:VC} {v:AV} (hv:cZ env c=v) (h:nC v (dQ X x Q env σ) (dQ X y Q env σ)):dQ X (.cond c x y) Q env σ:=by
 cases h with
 |t h=>exact Ki hv (fun _=>h) (fun e=>by cases e)
 |f h=>exact Ki hv (fun e=>by cases e) (fun _=>h)
theorem PG {c:VC} (I:Nat->Env->au->Prop) (n:Nat) (h0:I n env σ) (step:∀n env σ,I n env σ->dQ X c (fun x e s=>match x with| .normal=>∃m,m<n/\I m e s|x=>Q x e s) env σ)
  (hX:∀(c:VC) (Q Q':Ex->Env->au->Prop) env σ,(∀x e s,Q x e s->Q' x e s)->dQ X c Q env σ->dQ X c Q' env σ):dQ X (.loop c) Q env σ:=by
 have key:∀N n env σ,n<N->I n env σ->Ft (dQ X c) Q N env σ:=by
  intro N
  induction N with
  |zero=>intro n env σ h;exact absurd h (Nat.not_lt_zero _)
  |succ N ih=>
   intro n env σ hn hI
   refine hX c _ _ env σ (fun x e s hx=>?_) (step n env σ hI)
   cases x with
   |normal=>obtain⟨m,hm,Uh⟩:=hx;exact ih m e s ai Uh
   |exit id=>exact hx
   |ret=>exact hx
 exact⟨n+1,key _ n env σ (Nat.lt_succ_self _) h0⟩
theorem Mv {c:VC} (I:Nat->Env->au->Prop) (n:Nat) (h0:I n env σ) (step:∀n env σ,I n env σ->dQ (Call P) c (fun x e s=>match x with| .normal=>∃m,m<n/\I m e s|x=>Q x e s) env σ):dQ (Call P) (.loop c) Q env σ:=
 PG I n h0 step fun c Q Q' env σ hQ h=>jk (fun _ _ _ _ h=>h) aY c Q Q' env σ hQ h
def xC:VC->List Nat
 | .eA _ ops=>ops.filterMap (·.dst)
 | .seq a b=>xC a++xC b
 | .cond _ a b=>xC a++xC b
 | .block _ a=>xC a
 | .loop a=>xC a
 | .one o c=>o.dst.toList++xC c
 | .both a b=>xC a++xC b
 | .loc _ _ _ c=>xC c
 | .NQ ops=>ops.filterMap (·.dst)
 |_=>[]
def iK (l:List Nat) (env iz:Env):Prop:=∀t,l.contains t=false->iz t=env t
theorem iK.refl (l:List Nat) (env:Env):iK l env env:=fun _ _=>rfl
theorem iK.upd {l:List Nat} {e e':Env} {d:Option Nat} {v:AV} (h:iK l e e') (hd:∀t,d=some t->t∈l):iK l e (upd e' d v):=fun t ht=>by
 cases d with
 |none=>exact h t ht
 |some d=>
  have:t≠d:=fun hc=>by subst hc;rw[<-Bool.not_eq_true,List.contains_iff_mem]at ht;exact ht (hd _ rfl)
  show(if t=d then v else e' t)=e t
  rw[if_neg this];exact h t ht
theorem oI {draw:Bool} {Q:Env->au->Prop} {l:List Nat} {e0:Env}:∀(ops:List bH) (env:Env) (σ:au),(∀t,t∈ops.filterMap (·.dst)->t∈l)->iK l e0 env->wpOps (Call P) draw ops Q env σ->wpOps (Call P) draw ops (fun e s=>Q e s/\iK l e0 e) env σ
 |[],env,σ,_,hk,hp=>⟨hp,hk⟩
 |o::r,env,σ,hl,hk,hp=>by
  have hd:∀t,o.dst=some t->t∈l:=fun t ht=>hl t (List.mem_filterMap.2 ⟨o,by simp,ht⟩)
  have hr:∀t,t∈r.filterMap (·.dst)->t∈l:=fun t ht=>hl t (by
   obtain⟨x,hx,h⟩:=List.mem_filterMap.1 ht
   exact List.mem_filterMap.2 ⟨x,List.mem_cons_of_mem _ hx,h⟩)
  unfold wpOps at hp ⊢
  split at hp
  ·rename_i hw;rw[if_pos hw]
   exact rE (fun _ _ _ _ h=>h) aY (fun v σ' h=>oI r _ _ hr (hk.upd hd) h) hp
  ·rename_i hw;rw[if_neg hw];exact oI r _ _ hr (hk.upd hd) hp
theorem lq {Q:Env->au->Prop} {l:List Nat} {e0:Env}:∀(ops:List bH) (env:Env) (σ:au),(∀t,t∈ops.filterMap (·.dst)->t∈l)->iK l e0 env->bU ops Q env σ->bU ops (fun e s=>Q e s/\iK l e0 e) env σ
 |[],env,σ,_,hk,hp=>⟨hp,hk⟩
 |o::r,env,σ,hl,hk,hp=>by
  have hd:∀t,o.dst=some t->t∈l:=fun t ht=>hl t (List.mem_filterMap.2 ⟨o,by simp,ht⟩)
  have hr:∀t,t∈r.filterMap (·.dst)->t∈l:=fun t ht=>hl t (by
   obtain⟨x,hx,h⟩:=List.mem_filterMap.1 ht
   exact List.mem_filterMap.2 ⟨x,List.mem_cons_of_mem _ hx,h⟩)
  unfold bU at hp ⊢
  refine⟨hp.1,?_⟩
  replace hp:=hp.2
  split at hp
  ·split at hp
   ·exact lq r _ _ hr (hk.upd hd) hp
   ·exact hp.elim
  ·split at hp
   ·exact lq r _ _ hr (hk.upd hd) hp
   ·exact hp.elim
  ·split at hp
   ·exact lq r _ _ hr (hk.upd hd) hp
   ·exact hp.elim
theorem yI {l:List Nat} {e0:Env}:∀(c:VC) (Q:Ex->Env->au->Prop) (env:Env) (σ:au),(∀t,t∈xC c->t∈l)->iK l e0 env->dQ (Call P) c Q env σ->dQ (Call P) c (fun x e s=>Q x e s/\iK l e0 e) env σ:=by
 intro c
 induction c with
 |skip=>intro Q env σ _ hk hp;exact⟨hp,hk⟩
 |exit id=>intro Q env σ _ hk hp;exact⟨hp,hk⟩
 |ret=>intro Q env σ _ hk hp;exact⟨hp,hk⟩
 |one o c ih=>
  intro Q env σ hl hk hp
  have hd:∀t,o.dst=some t->t∈l:=fun t ht=>hl t (List.mem_append_left _ (by rw[ht];simp))
  have hr:∀t,t∈xC c->t∈l:=fun t ht=>hl t (List.mem_append_right _ ht)
  unfold dQ at hp ⊢
  split at hp
  ·rename_i hw;rw[if_pos hw]
   exact rE (fun _ _ _ _ h=>h) aY (fun v σ' h=>ih Q _ _ hr (hk.upd hd) h) hp
  ·rename_i hw;rw[if_neg hw];exact ih Q _ _ hr (hk.upd hd) hp
 |both a b iha ihb=>
  intro Q env σ hl hk hp
  exact⟨iha Q env σ (fun t ht=>hl t (List.mem_append_left _ ht)) hk hp.1,ihb Q env σ (fun t ht=>hl t (List.mem_append_right _ ht)) hk hp.2⟩
 |loc t s y c ih=>intro Q env σ hl hk hp;exact⟨hp.1,ih Q env σ hl hk hp.2⟩
 |NQ ops=>intro Q env σ hl hk hp;exact lq ops env σ hl hk hp
 |eA draw ops=>intro Q env σ hl hk hp;exact oI ops env σ hl hk hp
 |seq a b iha ihb=>
  intro Q env σ hl hk hp
  refine jk (fun _ _ _ _ h=>h) aY a _ _ env σ (fun x e s hx=>?_) (iha _ env σ (fun t ht=>hl t (List.mem_append_left _ ht)) hk hp)
  cases x with
  |normal=>exact ihb Q e s (fun t ht=>hl t (List.mem_append_right _ ht)) hx.2 hx.1
  |exit id=>exact hx
  |ret=>exact hx
 |cond c a b iha ihb=>
  intro Q env σ hl hk hp
  unfold dQ at hp ⊢
  split at hp
  ·rename_i t ht
   cases t with
   |true=>exact iha Q env σ (fun t ht=>hl t (List.mem_append_left _ ht)) hk hp
   |false=>exact ihb Q env σ (fun t ht=>hl t (List.mem_append_right _ ht)) hk hp
  ·exact hp.elim
 |block id a iha=>
  intro Q env σ hl hk hp
  refine jk (fun _ _ _ _ h=>h) aY a _ _ env σ (fun x e s hx=>?_) (iha _ env σ hl hk hp)
  obtain⟨hx,Gm⟩:=hx
  cases x with
  |normal=>exact⟨hx,Gm⟩
  |ret=>exact⟨hx,Gm⟩
  |exit jG=>
   unfold aX at hx ⊢
   dsimp only at hx ⊢
   split at hx
   ·rename_i hid;rw[if_pos hid];exact⟨hx,Gm⟩
   ·rename_i hid;rw[if_neg hid];exact⟨hx,Gm⟩
 |loop a iha=>
  intro Q env σ hl hk hp
  obtain⟨n,hp⟩:=hp
  refine⟨n,?_⟩
  induction n generalizing env σ with
  |zero=>exact hp
  |succ n ihn=>
   refine jk (fun _ _ _ _ h=>h) aY _ _ _ _ _ (fun x e s hx=>?_) (iha _ env σ hl hk hp)
   obtain⟨hx,Gm⟩:=hx
   cases x with
   |normal=>exact ihn e s Gm hx
   |exit id=>exact⟨hx,Gm⟩
   |ret=>exact⟨hx,Gm⟩
theorem bF {c:VC} (I:Nat->Env->au->Prop) (n:Nat) (h0:I n env σ) (step:∀n e s,I n e s->iK (xC c) env e->dQ (Call P) c (fun x e s=>match x with| .normal=>∃m,m<n/\I m e s|x=>Q x e s) e s):dQ (Call P) (.loop c) Q env σ:=by
 refine Mv (fun n e s=>I n e s/\iK (xC c) env e) n ⟨h0,iK.refl _ _⟩ fun n e s hI=>?_
 refine jk (fun _ _ _ _ h=>h) aY _ _ _ _ _ (fun x e' s' hx=>?_) (yI c _ e s (fun _ h=>h) hI.2 (step n e s hI.1 hI.2))
 obtain⟨hx,hk⟩:=hx
 cases x with
 |normal=>obtain⟨m,hm,h⟩:=hx;exact⟨m,hm,h,hk⟩
 |exit id=>exact hx
 |ret=>exact hx
theorem Kl {k:Nat} (h:k<=9223372036854775807):IntKind.i64.wrap (k:Int)=k:=by rw[IntKind.wrap_i64];omega
theorem bP {z:Int} (h: -9223372036854775808<=z/\z<=9223372036854775807):IntKind.i64.wrap z=z:=by rw[IntKind.wrap_i64];omega
theorem aI {k:Nat} (h:(k:Int)+1<=9223372036854775807):IntKind.i64.wrap ((k:Int)+1)=((k+1:Nat):Int):=by rw[IntKind.wrap_i64];omega
theorem all_succ {k:Nat} {p:Nat->Prop} (h:∀j,j<k->p j) (hk:p k):∀j,j<k+1->p j:=fun j hj=>by
 by_cases xV:j=k
 ·subst xV;exact hk
 ·exact h j ai
theorem ay (g:Rows) (n:Nat) (k:IntKind) (m:Int):fz g (n+1) (.int k m)=some (.int k m):=by rw[fz]<;>intros<;>simp_all
theorem bo (g:Rows) (n:Nat) (b:ByteArray):fz g (n+1) (.str b)=some (.str b):=by rw[fz]<;>intros<;>simp_all
theorem bJ (g:Rows) (n:Nat) (l:List (List AV)):fz g (n+1) (.sl l)=some (.sl l):=by rw[fz]<;>intros<;>simp_all
theorem aD (g:Rows) (n:Nat):fz g (n+1) .bS=some .bS:=by rw[fz]<;>intros<;>simp_all
theorem R6 {t:Nat} {r r0:AV} {x:Ex} (hx:x=.ret∨x=.normal) (he:env t=r0) (hz:fz σ.get 6 r0=some r):kb [.tmp t] (fun r0 σ'=>∃r',fz σ'.get 6 r0=some r'/\r'=r) x env σ:=by
 have:∃vs,fj env σ.get [.tmp t]=some vs/\∃r',fz σ.get 6 (eX vs)=some r'/\r'=r:=⟨[env t],rfl,r,by subst he;exact hz,rfl⟩
 rcases hx with rfl|rfl
 ·exact this
 ·exact this
def aq (P:Program) (f:Nat) (args:List AV) (r:AV):Prop:=∀n:Nat,Call P f args ⟨fun _=>none,n⟩ fun r0 σ'=>∃r',gq σ'.get 6 r0=some r'/\r'=r
theorem aq.body {f:Nat} {args:List AV} {r:AV} {nt na:Nat} {body:VC} {res:List nh} (hf:lP P f=some ⟨nt,na,body,res⟩) (ha:na=args.length) (h:(∀a∈args,eR a)->∀n:Nat,dQ (Call P) body (kb res fun r0 σ'=>∃r',gq σ'.get 6 r0=some r'/\r'=r) (bQ args) ⟨fun _=>none,n⟩):aq P f args r:=fun n=>lJ hf ha fun hl=>h hl n
theorem aq.x {f:Nat} {args eS:List AV} {r:AV} (h:aq P f eS r) {σ:au} (hv:de (dR σ.get) 6 args=some eS):ft (Call P) f args σ (fun r'=>r'=r):=.inr ⟨eS,hv,h _⟩
theorem jU.x {f:Nat} {args:List AV} {r:AV} (h:jU P f args r) (σ:au):ft (Call P) f args σ (fun r'=>r'=r):=.inl (h σ)
theorem eC (g:Rows) (n:Nat) (k:IntKind) (m:Int):gq g (n+1) (.int k m)=some (.int k m):=by rw[gq]<;>intros<;>simp_all
theorem fF (g:Rows) (n:Nat) (b:Bool):gq g (n+1) (.bool b)=some (.bool b):=by rw[gq]<;>intros<;>simp_all
theorem K8 (g:Rows) (n:Nat) (b:ByteArray):gq g (n+1) (.str b)=some (.str b):=by rw[gq]<;>intros<;>simp_all
theorem jO (g:Rows) (n:Nat):gq g (n+1) .bS=some .bS:=by rw[gq]<;>intros<;>simp_all
theorem eP (g:Rows) (n:Nat) (l:List AV):gq g (n+1) (.gn l)=(eB g n l).map AV.gn:=by rw[gq]
theorem tN (g:Rows) (n:Nat) (l:List AV):gq g (n+1) (.agg l)=(eB g n l).map AV.agg:=by rw[gq]
theorem qE {g:Rows} {n:Nat} {id:Id} {off len sz:Nat} {rows rows':List (List AV)} (h:g id=some ⟨true,sz,rows⟩) (hl:off+len<=rows.length) (hr:gU g n ((rows.drop off).take len)=some rows'):gq g (n+1) (.own id off len)=some (.sl rows'):=by
 rw[gq];simp only[h,if_true,if_pos hl,hr,Option.map_some]
theorem cU (g:Rows) (n:Nat):eB g n []=some []:=by rw[eB]
theorem bW (g:Rows) (n:Nat) (a:AV) (l:List AV):eB g n (a::l)=match gq g n a with
  |some b=>(eB g n l).map (b::·)
  |none=>none:=by rw[eB];cases gq g n a<;>rfl
theorem sP {g:Rows} {n:Nat}:∀{l:List (List AV)},(∀c∈l,eB g n c=some c)->gU g n l=some l
 |[],_=>by rw[gU]
 |c::r,h=>by rw[gU,h c (by simp),sP fun d hd=>h d (List.mem_cons_of_mem _ hd)];rfl
theorem aV (g:Rows) (n:Nat) (l:List AV):fz g (n+1) (.agg l)=(de g n l).map AV.agg:=by rw[fz]
theorem aH (g:Rows) (n:Nat) (l:List AV):fz g (n+1) (.dt l)=some (.dt l):=by rw[fz]<;>intros<;>simp_all
theorem pT {g:Rows} {n:Nat} {id:Id} {i off sz:Nat} {rows:List (List AV)} {cs lH:List AV} (h:g id=some ⟨true,sz,rows⟩) (hi:rows[i]? =some cs) (hr:de g n (cs.drop off)=some lH):fz g (n+1) (.ptr id i off)=some (.dt lH):=by
 rw[fz];simp only[h,if_true,hi,hr,Option.map_some]
theorem aj (g:Rows) (n:Nat):de g n []=some []:=by rw[de]
theorem ab (g:Rows) (n:Nat) (a:AV) (l:List AV):de g n (a::l)=match fz g n a with
  |some b=>(de g n l).map (b::·)
  |none=>none:=by rw[de];cases fz g n a<;>rfl
theorem vN {t:Nat} {r r0:AV} {x:Ex} (hx:x=.ret∨x=.normal) (he:env t=r0) (hz:gq σ.get 6 r0=some r):kb [.tmp t] (fun r0 σ'=>∃r',gq σ'.get 6 r0=some r'/\r'=r) x env σ:=by
 have:∃vs,fj env σ.get [.tmp t]=some vs/\∃r',gq σ.get 6 (eX vs)=some r'/\r'=r:=⟨[env t],rfl,r,by subst he;exact hz,rfl⟩
 rcases hx with rfl|rfl
 ·exact this
 ·exact this
theorem bd {t:Nat} {b c:Bool} {x:Ex} (hx:x=.ret∨x=.normal) (he:env t=.bool b) (hb:b=c):kb [.tmp t] (fun r0 σ'=>∃r',gq σ'.get 6 r0=some r'/\r'=.bool c) x env σ:=vN hx he (by rw[fF,hb])
theorem cR {t:Nat} {k:IntKind} {b c:Int} {x:Ex} (hx:x=.ret∨x=.normal) (he:env t=.int k b) (hb:b=c):kb [.tmp t] (fun r0 σ'=>∃r',gq σ'.get 6 r0=some r'/\r'=.int k c) x env σ:=vN hx he (by rw[eC,hb])
theorem jh {t u:Nat} {r r1 r2:AV} {x:Ex} (hx:x=.ret∨x=.normal) (h1:env t=r1) (h2:env u=r2) (hz:gq σ.get 6 (.gn [r1,r2])=some r):kb [.tmp t,.tmp u] (fun r0 σ'=>∃r',gq σ'.get 6 r0=some r'/\r'=r) x env σ:=by
 have:∃vs,fj env σ.get [.tmp t,.tmp u]=some vs/\∃r',gq σ.get 6 (eX vs)=some r'/\r'=r:=⟨[env t,env u],rfl,r,by subst h1;subst h2;exact hz,rfl⟩
 rcases hx with rfl|rfl
 ·exact this
 ·exact this
structure Pn (p:Prop):Prop where
 out:p
theorem tw {A B:Prop} (a:A) (b:B):A/\B:=⟨a,b⟩
theorem wk {A R G:Prop} (a:A) (r:R) (h:A->R->G:=by
  intro fL kk
  (repeat(refine Pn.mk ?_;intro N hN))
  (first|((first|apply FK|apply FI);intro N hN)|((first|(apply PH;intro N hN)|(apply FH;intro N hN));simp only[go_sem, ↓reduceIte,Nat.reduceEqDiff,Nat.reduceAdd,Nat.reduceSub,Nat.reduceMul,Nat.reduceLeDiff,Nat.reduceBEq,reduceCtorEq,Nat.reduceLT,Int.reduceLE,Int.reduceLT,Int.reduceToNat,Int.reduceNeg,Int.reduceAdd,Int.reduceEq,fL];first|(refine hN _ _ ?_;clear hN N)|skip)|(apply uc;(simp only[go_sem, ↓reduceIte,Nat.reduceEqDiff,Nat.reduceAdd,Nat.reduceSub,Nat.reduceMul,Nat.reduceLeDiff,Nat.reduceBEq,reduceCtorEq,Nat.reduceLT,Int.reduceLE,Int.reduceLT,Int.reduceToNat,Int.reduceNeg,Int.reduceAdd,Int.reduceEq,fL];rfl);first|with_reducible apply nC.t|with_reducible apply nC.f)|(apply Cu;refine hN _ _ ?_;clear hN N;try(simp only[cX,aX, ↓reduceIte,Nat.reduceEqDiff]);try(refine hN _ _ ?_;clear hN N))|apply ub|(refine z7 ?_ ?_ ?_;(focus(simp only[go_sem, ↓reduceIte,Nat.reduceEqDiff,Nat.reduceAdd,Nat.reduceSub,Nat.reduceMul,Nat.reduceLeDiff,Nat.reduceBEq,reduceCtorEq,Nat.reduceLT,Int.reduceLE,Int.reduceLT,Int.reduceToNat,Int.reduceNeg,Int.reduceAdd,Int.reduceEq,fL];done));(focus(simp only[go_sem, ↓reduceIte,Nat.reduceEqDiff,Nat.reduceAdd,Nat.reduceSub,Nat.reduceMul,Nat.reduceLeDiff,Nat.reduceBEq,reduceCtorEq,Nat.reduceLT,Int.reduceLE,Int.reduceLT,Int.reduceToNat,Int.reduceNeg,Int.reduceAdd,Int.reduceEq,fL];done)))|((first|apply z8|apply z6|apply FJ);try(simp only[cX,aX, ↓reduceIte,Nat.reduceEqDiff]);try(refine hN _ _ ?_;clear hN N))|((first|refine hN _ _ ?_|(clear hN N;first|refine hN _ _ ?_|(clear hN N;first|refine hN _ _ ?_|(clear hN N;first|refine hN _ _ ?_|(clear hN N;refine hN _ _ ?_)))));clear hN N))
  (repeat(first|((first|apply FK|apply FI);intro N hN)|((first|(apply PH;intro N hN)|(apply FH;intro N hN));simp only[go_sem, ↓reduceIte,Nat.reduceEqDiff,Nat.reduceAdd,Nat.reduceSub,Nat.reduceMul,Nat.reduceLeDiff,Nat.reduceBEq,reduceCtorEq,Nat.reduceLT,Int.reduceLE,Int.reduceLT,Int.reduceToNat,Int.reduceNeg,Int.reduceAdd,Int.reduceEq,fL];first|(refine hN _ _ ?_;clear hN N)|skip)|(apply uc;(simp only[go_sem, ↓reduceIte,Nat.reduceEqDiff,Nat.reduceAdd,Nat.reduceSub,Nat.reduceMul,Nat.reduceLeDiff,Nat.reduceBEq,reduceCtorEq,Nat.reduceLT,Int.reduceLE,Int.reduceLT,Int.reduceToNat,Int.reduceNeg,Int.reduceAdd,Int.reduceEq,fL];rfl);first|with_reducible apply nC.t|with_reducible apply nC.f)|(apply Cu;refine hN _ _ ?_;clear hN N;try(simp only[cX,aX, ↓reduceIte,Nat.reduceEqDiff]);try(refine hN _ _ ?_;clear hN N))|apply ub|(refine z7 ?_ ?_ ?_;(focus(simp only[go_sem, ↓reduceIte,Nat.reduceEqDiff,Nat.reduceAdd,Nat.reduceSub,Nat.reduceMul,Nat.reduceLeDiff,Nat.reduceBEq,reduceCtorEq,Nat.reduceLT,Int.reduceLE,Int.reduceLT,Int.reduceToNat,Int.reduceNeg,Int.reduceAdd,Int.reduceEq,fL];done));(focus(simp only[go_sem, ↓reduceIte,Nat.reduceEqDiff,Nat.reduceAdd,Nat.reduceSub,Nat.reduceMul,Nat.reduceLeDiff,Nat.reduceBEq,reduceCtorEq,Nat.reduceLT,Int.reduceLE,Int.reduceLT,Int.reduceToNat,Int.reduceNeg,Int.reduceAdd,Int.reduceEq,fL];done)))|((first|apply z8|apply z6|apply FJ);try(simp only[cX,aX, ↓reduceIte,Nat.reduceEqDiff]);try(refine hN _ _ ?_;clear hN N))|((first|refine hN _ _ ?_|(clear hN N;first|refine hN _ _ ?_|(clear hN N;first|refine hN _ _ ?_|(clear hN N;first|refine hN _ _ ?_|(clear hN N;refine hN _ _ ?_)))));clear hN N)))
  (repeat(revert hN;revert N;apply Pn.out))
  exact kk):G:=h a r
theorem wa {A R G:Prop} (a:A) (r:R) (h:A->R->G:=by
  intro fL kk
  (repeat(refine Pn.mk ?_;intro N hN))
  (first|((first|apply FK|apply FI);intro N hN)|((first|(refine Nu rfl fun N hN=>?_)|(apply FH;intro N hN));simp only[go_sem, ↓reduceIte,Nat.reduceEqDiff,Nat.reduceAdd,Nat.reduceSub,Nat.reduceMul,Nat.reduceLeDiff,Nat.reduceBEq,reduceCtorEq,Nat.reduceLT,Int.reduceLE,Int.reduceLT,Int.reduceToNat,Int.reduceNeg,Int.reduceAdd,Int.reduceEq,fL];first|(refine hN _ _ ?_;clear hN N)|skip)|(apply uc;(simp only[go_sem, ↓reduceIte,Nat.reduceEqDiff,Nat.reduceAdd,Nat.reduceSub,Nat.reduceMul,Nat.reduceLeDiff,Nat.reduceBEq,reduceCtorEq,Nat.reduceLT,Int.reduceLE,Int.reduceLT,Int.reduceToNat,Int.reduceNeg,Int.reduceAdd,Int.reduceEq,fL];rfl);first|with_reducible apply nC.t|with_reducible apply nC.f)|(apply Cu;refine hN _ _ ?_;clear hN N;try(simp only[cX,aX, ↓reduceIte,Nat.reduceEqDiff]);try(refine hN _ _ ?_;clear hN N))|apply ub|(refine z7 ?_ ?_ ?_;(focus(simp only[go_sem, ↓reduceIte,Nat.reduceEqDiff,Nat.reduceAdd,Nat.reduceSub,Nat.reduceMul,Nat.reduceLeDiff,Nat.reduceBEq,reduceCtorEq,Nat.reduceLT,Int.reduceLE,Int.reduceLT,Int.reduceToNat,Int.reduceNeg,Int.reduceAdd,Int.reduceEq,fL];done));(focus(simp only[go_sem, ↓reduceIte,Nat.reduceEqDiff,Nat.reduceAdd,Nat.reduceSub,Nat.reduceMul,Nat.reduceLeDiff,Nat.reduceBEq,reduceCtorEq,Nat.reduceLT,Int.reduceLE,Int.reduceLT,Int.reduceToNat,Int.reduceNeg,Int.reduceAdd,Int.reduceEq,fL];done)))|((first|apply z8|apply z6|apply FJ);try(simp only[cX,aX, ↓reduceIte,Nat.reduceEqDiff]);try(refine hN _ _ ?_;clear hN N))|((first|refine hN _ _ ?_|(clear hN N;first|refine hN _ _ ?_|(clear hN N;first|refine hN _ _ ?_|(clear hN N;first|refine hN _ _ ?_|(clear hN N;refine hN _ _ ?_)))));clear hN N))
  (repeat(first|((first|apply FK|apply FI);intro N hN)|((first|(refine Nu rfl fun N hN=>?_)|(apply FH;intro N hN));simp only[go_sem, ↓reduceIte,Nat.reduceEqDiff,Nat.reduceAdd,Nat.reduceSub,Nat.reduceMul,Nat.reduceLeDiff,Nat.reduceBEq,reduceCtorEq,Nat.reduceLT,Int.reduceLE,Int.reduceLT,Int.reduceToNat,Int.reduceNeg,Int.reduceAdd,Int.reduceEq,fL];first|(refine hN _ _ ?_;clear hN N)|skip)|(apply uc;(simp only[go_sem, ↓reduceIte,Nat.reduceEqDiff,Nat.reduceAdd,Nat.reduceSub,Nat.reduceMul,Nat.reduceLeDiff,Nat.reduceBEq,reduceCtorEq,Nat.reduceLT,Int.reduceLE,Int.reduceLT,Int.reduceToNat,Int.reduceNeg,Int.reduceAdd,Int.reduceEq,fL];rfl);first|with_reducible apply nC.t|with_reducible apply nC.f)|(apply Cu;refine hN _ _ ?_;clear hN N;try(simp only[cX,aX, ↓reduceIte,Nat.reduceEqDiff]);try(refine hN _ _ ?_;clear hN N))|apply ub|(refine z7 ?_ ?_ ?_;(focus(simp only[go_sem, ↓reduceIte,Nat.reduceEqDiff,Nat.reduceAdd,Nat.reduceSub,Nat.reduceMul,Nat.reduceLeDiff,Nat.reduceBEq,reduceCtorEq,Nat.reduceLT,Int.reduceLE,Int.reduceLT,Int.reduceToNat,Int.reduceNeg,Int.reduceAdd,Int.reduceEq,fL];done));(focus(simp only[go_sem, ↓reduceIte,Nat.reduceEqDiff,Nat.reduceAdd,Nat.reduceSub,Nat.reduceMul,Nat.reduceLeDiff,Nat.reduceBEq,reduceCtorEq,Nat.reduceLT,Int.reduceLE,Int.reduceLT,Int.reduceToNat,Int.reduceNeg,Int.reduceAdd,Int.reduceEq,fL];done)))|((first|apply z8|apply z6|apply FJ);try(simp only[cX,aX, ↓reduceIte,Nat.reduceEqDiff]);try(refine hN _ _ ?_;clear hN N))|((first|refine hN _ _ ?_|(clear hN N;first|refine hN _ _ ?_|(clear hN N;first|refine hN _ _ ?_|(clear hN N;first|refine hN _ _ ?_|(clear hN N;refine hN _ _ ?_)))));clear hN N)))
  (repeat(revert hN;revert N;apply Pn.out))
  exact kk):G:=h a r
theorem sd {A G:Prop} (a:A) (h:A->G:=by
  intro fL
  first|(simp only[go_sem, ↓reduceIte,Nat.reduceEqDiff,Nat.reduceAdd,Nat.reduceSub,Nat.reduceMul,Nat.reduceLeDiff,Nat.reduceBEq,reduceCtorEq,Nat.reduceLT,Int.reduceLE,Int.reduceLT,Int.reduceToNat,Int.reduceNeg,Int.reduceAdd,Int.reduceEq,fL,fj,gJ];done)|fail):G:=h a
theorem sl {A G:Prop} (a:A) (h:A->G:=by
  intro fL
  (try simp only[go_sem, ↓reduceIte,Nat.reduceEqDiff,Nat.reduceAdd,Nat.reduceSub,Nat.reduceMul,Nat.reduceLeDiff,Nat.reduceBEq,reduceCtorEq,Nat.reduceLT,Int.reduceLE,Int.reduceLT,Int.reduceToNat,Int.reduceNeg,Int.reduceAdd,Int.reduceEq,fL])
  try rfl):G:=h a
end Go.Proofs.YtgoljkjaameagaaGreat.V

namespace Go.Proofs.YtgoljkjaameagaaGreat.V
open Go.RowKit
variable {P:Program} {X:fQ} {env:Env} {σ:au}
theorem bq (g:Rows) (n:Nat) (l:List AV):fz g (n+1) (.gn l)=(de g n l).map AV.gn:=by rw[fz]
theorem cu (g:Rows) (n:Nat) (f:Nat) (l:List AV):fz g (n+1) (.fn f l)=if l.all AV.cell then(de g n l).map (AV.fn f)else none:=by rw[fz]
theorem aU (g:Rows) (n:Nat) (id:Id) (i off:Nat):fz g (n+1) (.ptr id i off)=match g id with
  |some r=>if r.w then(match r.rows[i]? with
   |some cs=>(de g n (cs.drop off)).map AV.dt
   |none=>none)else none
  |none=>none:=by rw[fz];rfl
theorem gV (g:Rows) (n:Nat) (id:Id) (off len:Nat):fz g (n+1) (.own id off len)=match g id with
  |some r=>if r.w then(if off+len<=r.rows.length then(ew g n ((r.rows.drop off).take len)).map AV.sl else none)else none
  |none=>none:=by rw[fz];rfl
theorem nW (g:Rows) (n:Nat):ew g n []=some []:=by rw[ew]
theorem y5 (g:Rows) (n:Nat) (c:List AV) (l:List (List AV)):ew g n (c::l)=match de g n c with
  |some b=>(ew g n l).map (b::·)
  |none=>none:=by rw[ew];cases de g n c<;>rfl
theorem uK {g:Rows} {n:Nat}:∀{l:List (List AV)},(∀c∈l,de g n c=some c)->ew g n l=some l
 |[],_=>by rw[ew]
 |c::r,h=>by rw[ew,h c (by simp),uK fun d hd=>h d (List.mem_cons_of_mem _ hd)];rfl
theorem mA {α:Type} {g:Rows} {n:Nat} {e:α->List AV} {l:List α} (h:∀x,de g n (e x)=some (e x)):ew g n (l.map e)=some (l.map e):=uK fun c hc=>by
 obtain⟨x,_,rfl⟩:=List.mem_map.1 hc
 exact h x
theorem nX {α:Type} {g:Rows} {n:Nat} {e:α->List AV} {l:List α} (h:∀x,eB g n (e x)=some (e x)):gU g n (l.map e)=some (l.map e):=sP fun c hc=>by
 obtain⟨x,_,rfl⟩:=List.mem_map.1 hc
 exact h x
theorem gr {α:Type} {g:Rows} {n:Nat} {e:α->List AV} {l:List α} {id:Id} {sz len:Nat} (hg:g id=some ⟨true,sz,l.map e⟩) (hl:len=l.length) (h:∀x,de g n (e x)=some (e x)):fz g (n+1) (.own id 0 len)=some (.sl (l.map e)):=by
 subst hl
 rw[gV];simp only[hg,if_true]
 rw[if_pos (by simp),List.drop_zero,List.take_of_length_le (by simp),mA h];rfl
theorem ig {α:Type} {g:Rows} {n:Nat} {e:α->List AV} {l:List α} {id:Id} {sz len:Nat} (hg:g id=some ⟨true,sz,l.map e⟩) (hl:len=l.length) (h:∀x,eB g n (e x)=some (e x)):gq g (n+1) (.own id 0 len)=some (.sl (l.map e)):=by
 subst hl
 exact qE hg (by simp) (by rw[List.drop_zero,List.take_of_length_le (by simp),nX h])
theorem all_map {α:Type} {e:α->List AV} {sz:Nat} {l:List α} (h:∀x,(e x).length=sz/\(e x).all AV.cell=true):(l.map e).all (fun c=>c.length==sz&&c.all AV.cell)=true:=by
 rw[List.all_eq_true]
 intro c hc
 obtain⟨x,_,rfl⟩:=List.mem_map.1 hc
 simp[(h x).1,(h x).2]
def RowM (P:Program) (f:Nat) (args:List AV) (sz:Nat) (rows:List (List AV)):Prop:=(∀c∈rows,∀a∈c,a.plain=true)/\∀n:Nat,Call P f args ⟨fun _=>none,n⟩ fun r σ'=>∃id,r=.own id 0 rows.length/\σ'.get id=some ⟨true,sz,rows⟩
theorem vO {res:List nh} {r:AV} {vs:List AV} {x:Ex} (hx:x=.ret∨x=.normal) (hv:fj env σ.get res=some vs) (hz:fz σ.get 6 (eX vs)=some r):kb res (fun r0 σ'=>∃r',fz σ'.get 6 r0=some r'/\r'=r) x env σ:=by
 rcases hx with rfl|rfl
 ·exact⟨vs,hv,r,hz,rfl⟩
 ·exact⟨vs,hv,r,hz,rfl⟩
theorem ll {res:List nh} {r:AV} {vs:List AV} {x:Ex} (hx:x=.ret∨x=.normal) (hv:fj env σ.get res=some vs) (hz:gq σ.get 6 (eX vs)=some r):kb res (fun r0 σ'=>∃r',gq σ'.get 6 r0=some r'/\r'=r) x env σ:=by
 rcases hx with rfl|rfl
 ·exact⟨vs,hv,r,hz,rfl⟩
 ·exact⟨vs,hv,r,hz,rfl⟩
theorem fJ {res:List nh} {K:AV->au->Prop} {vs:List AV} {x:Ex} (hx:x=.ret∨x=.normal) (hv:fj env σ.get res=some vs) (hK:K (eX vs) σ):kb res K x env σ:=by
 rcases hx with rfl|rfl
 ·exact⟨vs,hv,hK⟩
 ·exact⟨vs,hv,hK⟩
theorem fo {f:Nat} {args:List AV} {σ:au} {K:AV->au->Prop} {nt na:Nat} {body:VC} {res:List nh} (hf:lP P f=some ⟨nt,na,body,res⟩) (ha:na=args.length) (h:(∀a∈args,eR a)->dQ (Call P) body (kb res K) (bQ args) σ):Call P f args σ K:=lJ hf ha h
theorem HF {f:Nat} {md:List (Nat×Nat)} {args:List AV} {σ:au} {K:AV->au->Prop} {nt na:Nat} {body:VC} {res:List nh} (hf:wW P f md=some ⟨nt,na,body,res⟩) (ha:na=args.length) (h:(∀a∈args,eR a)->dQ (Call P) body (kb res K) (bQ args) σ):Call P f args σ K:=uf hf ha h
theorem eL {i:Id} {n:Nat} (h:i.cV<n):(∀s,(i=⟨s,n⟩)=False/\(i=⟨s,n+1⟩)=False/\(i=⟨s,n+1+1⟩)=False/\(i=⟨s,n+1+1+1⟩)=False/\(i=⟨s,n+1+1+1+1⟩)=False/\(i=⟨s,n+1+1+1+1+1⟩)=False/\(i=⟨s,n+1+1+1+1+1+1⟩)=False/\(i=⟨s,n+1+1+1+1+1+1+1⟩)=False/\(i=⟨s,n+1+1+1+1+1+1+1+1⟩)=False/\(i=⟨s,n+1+1+1+1+1+1+1+1+1⟩)=False/\(⟨s,n⟩=i)=False/\(⟨s,n+1⟩=i)=False/\(⟨s,n+1+1⟩=i)=False/\(⟨s,n+1+1+1⟩=i)=False/\(⟨s,n+1+1+1+1⟩=i)=False/\(⟨s,n+1+1+1+1+1⟩=i)=False/\(⟨s,n+1+1+1+1+1+1⟩=i)=False/\(⟨s,n+1+1+1+1+1+1+1⟩=i)=False/\(⟨s,n+1+1+1+1+1+1+1+1⟩=i)=False/\(⟨s,n+1+1+1+1+1+1+1+1+1⟩=i)=False)/\(i.cV=n)=False/\(i.cV=n+1)=False/\(i.cV=n+1+1)=False/\(i.cV=n+1+1+1)=False/\(i.cV=n+1+1+1+1)=False/\(i.cV=n+1+1+1+1+1)=False/\(i.cV=n+1+1+1+1+1+1)=False/\(i.cV=n+1+1+1+1+1+1+1)=False/\(i.cV=n+1+1+1+1+1+1+1+1)=False/\(i.cV=n+1+1+1+1+1+1+1+1+1)=False:=by
 refine⟨fun s=>?_,?_⟩
 ·obtain⟨a,b⟩:=i
  simp only[Id.mk.injEq,eq_iff_iff,iff_false,not_and]
  simp only at h
  refine⟨?_,?_,?_,?_,?_,?_,?_,?_,?_,?_,?_,?_,?_,?_,?_,?_,?_,?_,?_,?_⟩<;>(intros;omega)
 ·simp only[eq_iff_iff,iff_false]
  refine⟨?_,?_,?_,?_,?_,?_,?_,?_,?_,?_⟩<;>omega
def fC (a b:Nat) (ids:List Id):Prop:=ids.Nodup/\∀i∈ids,a<=i.cV/\i.cV<b
def Kept (σ σ':au):Prop:=σ.next<=σ'.next/\∀j:Id,j.cV<σ.next->σ'.get j=σ.get j
theorem fC.wide {a b a' b':Nat} {ids:List Id} (h:fC a b ids) (h1:a'<=a) (h2:b<=b'):fC a' b' ids:=⟨h.1,fun i hi=>⟨Nat.le_trans h1 (h.2 i hi).1,Nat.lt_of_lt_of_le (h.2 i hi).2 h2⟩⟩
theorem fC.app {a b c d:Nat} {i j:List Id} (h:fC a b i) (k:fC c d j) (hbc:b<=c) (pW:a<=b) (hcd:c<=d):fC a d (i++j):=
 ⟨List.nodup_append.2 ⟨h.1,k.1,fun x hx y hy e=>by subst e;have:=(h.2 x hx).2;have:=(k.2 x hy).1;omega⟩,fun x hx=>by
  rcases List.mem_append.1 hx with hx|hx
  ·have:=h.2 x hx;omega
  ·have:=k.2 x hx;omega⟩
end Go.Proofs.YtgoljkjaameagaaGreat.V

namespace Go.Proofs.YtgoljkjaameagaaGreat.V
open Go.RowKit
attribute [local irreducible] dQ wpOps ft Call
attribute [local go_sem] aA eV ef e9 e8 cZ upd bQ K.av cr AV.cells AV.cell rowOf rowsOf part ld rowAt bD bL dm dD fE bu cK dO fa eF db dH cI cH dw dx bz aQ cz bx cD cC dF dI dG cw bC cJ dE bw az cF bZ fD bj cq bB aJ cX aX dn AV.undef bp br dy dC du dz cm dM dP bU dK dJ cE cG List.getD_cons_zero List.getD_cons_succ List.getD_nil List.all_cons List.all_nil Bool.and_true Bool.true_and Bool.and_self Bool.not_true Bool.not_false Option.map_some Option.map_none Option.bind_some Option.bind_none List.length_cons List.length_nil List.take_succ_cons List.take_zero List.take_nil List.drop_succ_cons List.drop_zero List.drop_nil List.head?_cons List.map_cons List.map_nil List.getElem?_cons_zero List.getElem?_cons_succ List.cons_append List.nil_append List.append_nil List.length_map List.set_cons_zero List.set_cons_succ Nat.reduceMul eq_self Int.toNat_natCast Int.natCast_nonneg and_self true_and and_true decide_true decide_false Bool.false_eq_true Nat.zero_add Nat.add_zero List.contains_cons List.contains_nil Bool.or_false Bool.false_or beq_self_eq_true Nat.reduceBEq ne_eq not_true_eq_false not_false_eq_true Id.mk.injEq false_and and_false Nat.reduceLT Int.reduceLE Int.reduceLT Int.reduceToNat Int.reduceNeg Int.reduceAdd Nat.le_refl List.length_append beq_true beq_false Bool.not_eq_eq_eq_not or_false false_or dR ab aj ay bo bJ aD aV aH aU cu bq
variable {P:Program}
def J2 (f g z:Nat):Ac:=let s:=f*1000000
 ⟨27,2,(.seq (.eA false [q 4 (.dq (.k (.int .i64 0))) s]) (.seq (.eA false [q 6 (.dq (.t 1)) (s+1000),q 7 (.dq (.t 0)) (s+1001),q 8 (.len (.t 7)) (s+1002),q 9 (.bin .sub .i64 (.t 6) (.t 8)) (s+1003),q 1 (.dq (.t 9)) (s+1004)]) (.seq (.seq (.eA false [q 10 (.dq (.t 1)) (s+2000),q 11 (.bin .lss .i64 (.t 10) (.k (.int .i64 0))) (s+2001)]) (.cond (.t 11) (.seq (.eA false [q 4 (.dq (.k (.int .i64 (-1)))) (s+3000)]) .ret) .skip)) (.seq (.seq (.eA false [q 5 (.dq (.k (.int .i64 0))) (s+4000)]) (.block 0 (.loop (.seq (.seq (.eA false [q 12 (.dq (.t 5)) (s+5000),q 13 (.dq (.t 0)) (s+5001),q 14 (.len (.t 13)) (s+5002),q 15 (.bin .lss .i64 (.t 12) (.t 14)) (s+5003)]) (.cond (.t 15) .skip (.exit 0))) (.seq (.block 1 (.seq (.eA false [q 18 (.dq (.t 0)) (s+7000),q 19 (.dq (.t 5)) (s+7001),q 20 (.ea z (.t 18) (.t 19)) (s+7002),q 21 (.load true z (.t 20)) (s+7003),q 22 (.dq (.t 1)) (s+7004),q 23 (.call g [(.t 21),(.t 22)]) (s+7005),q 1 (.dq (.t 23)) (s+7006)]) (.seq (.eA false [q 24 (.dq (.t 1)) (s+8000),q 25 (.bin .lss .i64 (.t 24) (.k (.int .i64 0))) (s+8001)]) (.cond (.t 25) (.seq (.eA false [q 4 (.dq (.k (.int .i64 (-1)))) (s+9000)]) .ret) .skip)))) (.eA false [q 16 (.dq (.t 5)) (s+6000),q 17 (.bin .add .i64 (.t 16) (.k (.int .i64 1))) (s+6001),q 5 (.dq (.t 17)) (s+6002)])))))) (.seq (.eA false [q 26 (.dq (.t 1)) (s+10000),q 4 (.dq (.t 26)) (s+10001)]) .ret))))),[(.tmp 4)]⟩
def J0 (f:Nat):Ac:=let s:=f*1000000
 ⟨12,2,(.seq (.eA false [q 4 (.dq (.k (.int .i64 0))) s]) (.seq (.eA false [q 5 (.dq (.t 1)) (s+1000),q 6 (.dq (.t 0)) (s+1001),q 7 (.len (.t 6)) (s+1002),q 8 (.bin .sub .i64 (.t 5) (.t 7)) (s+1003),q 1 (.dq (.t 8)) (s+1004)]) (.seq (.seq (.eA false [q 9 (.dq (.t 1)) (s+2000),q 10 (.bin .lss .i64 (.t 9) (.k (.int .i64 0))) (s+2001)]) (.cond (.t 10) (.seq (.eA false [q 4 (.dq (.k (.int .i64 (-1)))) (s+3000)]) .ret) .skip)) (.seq (.eA false [q 11 (.dq (.t 1)) (s+4000),q 4 (.dq (.t 11)) (s+4001)]) .ret)))),[(.tmp 4)]⟩
def EZ (f g z:Nat):Ac:=let s:=f*1000000
 ⟨27,2,(.seq (.eA false [q 4 (.dq (.k (.bool false))) s]) (.seq (.seq (.eA false [q 6 (.dq (.t 0)) (s+1000),q 7 (.len (.t 6)) (s+1001),q 8 (.dq (.t 1)) (s+1002),q 9 (.len (.t 8)) (s+1003),q 10 (.MJ true .tI (.t 7) (.t 9)) (s+1004)]) (.cond (.t 10) (.seq (.eA false [q 4 (.dq (.k (.bool false))) (s+2000)]) .ret) .skip)) (.seq (.seq (.eA false [q 5 (.dq (.k (.int .i64 0))) (s+3000)]) (.block 0 (.loop (.seq (.seq (.eA false [q 11 (.dq (.t 5)) (s+4000),q 12 (.dq (.t 0)) (s+4001),q 13 (.len (.t 12)) (s+4002),q 14 (.bin .lss .i64 (.t 11) (.t 13)) (s+4003)]) (.cond (.t 14) .skip (.exit 0))) (.seq (.block 1 (.seq (.eA true [q 17 (.dq (.t 0)) (s+6000),q 18 (.dq (.t 5)) (s+6001),q 19 (.ea z (.t 17) (.t 18)) (s+6002),q 20 (.load true z (.t 19)) (s+6003),q 21 (.dq (.t 1)) (s+6004),q 22 (.dq (.t 5)) (s+6005),q 23 (.ea z (.t 21) (.t 22)) (s+6006),q 24 (.load true z (.t 23)) (s+6007),q 25 (.call g [(.t 20),(.t 24)]) (s+6008),q 26 (.not (.t 25)) (s+6009)]) (.cond (.t 26) (.seq (.eA false [q 4 (.dq (.k (.bool false))) (s+7000)]) .ret) .skip))) (.eA false [q 15 (.dq (.t 5)) (s+5000),q 16 (.bin .add .i64 (.t 15) (.k (.int .i64 1))) (s+5001),q 5 (.dq (.t 16)) (s+5002)])))))) (.seq (.eA false [q 4 (.dq (.k (.bool true))) (s+8000)]) .ret)))),[(.tmp 4)]⟩
def ML (f:Nat) (t:TS):Ac:=let s:=f*1000000
 ⟨26,2,(.seq (.eA false [q 4 (.dq (.k (.bool false))) s]) (.seq (.seq (.eA false [q 6 (.dq (.t 0)) (s+1000),q 7 (.len (.t 6)) (s+1001),q 8 (.dq (.t 1)) (s+1002),q 9 (.len (.t 8)) (s+1003),q 10 (.MJ true .tI (.t 7) (.t 9)) (s+1004)]) (.cond (.t 10) (.seq (.eA false [q 4 (.dq (.k (.bool false))) (s+2000)]) .ret) .skip)) (.seq (.seq (.eA false [q 5 (.dq (.k (.int .i64 0))) (s+3000)]) (.block 0 (.loop (.seq (.seq (.eA false [q 11 (.dq (.t 5)) (s+4000),q 12 (.dq (.t 0)) (s+4001),q 13 (.len (.t 12)) (s+4002),q 14 (.bin .lss .i64 (.t 11) (.t 13)) (s+4003)]) (.cond (.t 14) .skip (.exit 0))) (.seq (.block 1 (.seq (.eA true [q 17 (.dq (.t 0)) (s+6000),q 18 (.dq (.t 5)) (s+6001),q 19 (.ea 1 (.t 17) (.t 18)) (s+6002),q 20 (.load false 1 (.t 19)) (s+6003),q 21 (.dq (.t 1)) (s+6004),q 22 (.dq (.t 5)) (s+6005),q 23 (.ea 1 (.t 21) (.t 22)) (s+6006),q 24 (.load false 1 (.t 23)) (s+6007),q 25 (.MJ true t (.t 20) (.t 24)) (s+6008)]) (.cond (.t 25) (.seq (.eA false [q 4 (.dq (.k (.bool false))) (s+7000)]) .ret) .skip))) (.eA false [q 15 (.dq (.t 5)) (s+5000),q 16 (.bin .add .i64 (.t 15) (.k (.int .i64 1))) (s+5001),q 5 (.dq (.t 16)) (s+5002)])))))) (.seq (.eA false [q 4 (.dq (.k (.bool true))) (s+8000)]) .ret)))),[(.tmp 4)]⟩
def tg (f g z:Nat) (zero:List K):Ac:=let s:=f*1000000
 ⟨23,1,(.seq (.eA false [q 2 (.dq (.k .bS)) s]) (.seq (.eA false [q 5 (.dq (.t 0)) (s+1000),q 6 (.len (.t 5)) (s+1001),q 7 (.jJ zero (.t 6) (.t 6)) (s+1002),q 3 (.dq (.t 7)) (s+1003)]) (.seq (.seq (.eA false [q 4 (.dq (.k (.int .i64 0))) (s+2000)]) (.block 0 (.loop (.seq (.seq (.eA false [q 8 (.dq (.t 4)) (s+3000),q 9 (.dq (.t 0)) (s+3001),q 10 (.len (.t 9)) (s+3002),q 11 (.bin .lss .i64 (.t 8) (.t 10)) (s+3003)]) (.cond (.t 11) .skip (.exit 0))) (.seq (.block 1 (.eA false [q 14 (.dq (.t 3)) (s+5000),q 15 (.dq (.t 4)) (s+5001),q 16 (.dq (.t 0)) (s+5002),q 17 (.dq (.t 4)) (s+5003),q 18 (.ea z (.t 16) (.t 17)) (s+5004),q 19 (.load true z (.t 18)) (s+5005),q 20 (.call g [(.t 19)]) (s+5006),q 21 (.ea z (.t 14) (.t 15)) (s+5007),⟨none,(.store z (.t 21) (.t 20)),none,(s+5008),[]⟩])) (.eA false [q 12 (.dq (.t 4)) (s+4000),q 13 (.bin .add .i64 (.t 12) (.k (.int .i64 1))) (s+4001),q 4 (.dq (.t 13)) (s+4002)])))))) (.seq (.eA false [q 22 (.dq (.t 3)) (s+6000),q 2 (.dq (.t 22)) (s+6001)]) .ret)))),[(.tmp 2)]⟩
def Kc (f:Nat) (zero:K):Ac:=let s:=f*1000000
 ⟨22,1,(.seq (.eA false [q 2 (.dq (.k .bS)) s]) (.seq (.eA false [q 5 (.dq (.t 0)) (s+1000),q 6 (.len (.t 5)) (s+1001),q 7 (.jJ [zero] (.t 6) (.t 6)) (s+1002),q 3 (.dq (.t 7)) (s+1003)]) (.seq (.seq (.eA false [q 4 (.dq (.k (.int .i64 0))) (s+2000)]) (.block 0 (.loop (.seq (.seq (.eA false [q 8 (.dq (.t 4)) (s+3000),q 9 (.dq (.t 0)) (s+3001),q 10 (.len (.t 9)) (s+3002),q 11 (.bin .lss .i64 (.t 8) (.t 10)) (s+3003)]) (.cond (.t 11) .skip (.exit 0))) (.seq (.block 1 (.eA false [q 14 (.dq (.t 3)) (s+5000),q 15 (.dq (.t 4)) (s+5001),q 16 (.dq (.t 0)) (s+5002),q 17 (.dq (.t 4)) (s+5003),q 18 (.ea 1 (.t 16) (.t 17)) (s+5004),q 19 (.load false 1 (.t 18)) (s+5005),q 20 (.ea 1 (.t 14) (.t 15)) (s+5006),⟨none,(.store 1 (.t 20) (.t 19)),none,(s+5007),[]⟩])) (.eA false [q 12 (.dq (.t 4)) (s+4000),q 13 (.bin .add .i64 (.t 12) (.k (.int .i64 1))) (s+4001),q 4 (.dq (.t 13)) (s+4002)])))))) (.seq (.eA false [q 21 (.dq (.t 3)) (s+6000),q 2 (.dq (.t 21)) (s+6001)]) .ret)))),[(.tmp 2)]⟩
def wN (n:Nat) (l:Int):Int:=if (n:Int)<=l then l-n else -1
theorem J1 {fk:Nat} (hc:lP P fk=some (J0 fk)) (rows:List (List AV)) (left:Int) (h0:0<=left) (h1:left<=1048576):aq P fk [.sl rows,.int .i64 left] (.int .i64 (wN rows.length left)):=by
 refine aq.body hc rfl fun hl n0=>?_
 try simp only[q]
 have hn:rows.length<=9223372036854775807:=(hl (.sl rows) (by simp)).len
 clear hl
 have hw:IntKind.i64.wrap (left-(rows.length:Int))=left-rows.length:=bP ai
 by_cases hf:(rows.length:Int)<=left
 ·have lI:¬left-(rows.length:Int)<0:=ai
  (try((repeat(revert hN;revert N;apply Pn.out));refine wk (tw @hw @lI) ?_;(repeat(refine Pn.mk ?_;intro N hN))))
  exact cR (b:=left-(rows.length:Int)) (.inl rfl) (sd @Nat.zero_add) (by rw[wN,if_pos hf])
 ·have lI:left-(rows.length:Int)<0:=ai
  (try((repeat(revert hN;revert N;apply Pn.out));refine wk (tw @hw @lI) ?_;(repeat(refine Pn.mk ?_;intro N hN))))
  exact cR (b:=-1) (.inl rfl) (sd @Nat.zero_add) (by rw[wN,if_neg hf])
def iA {α:Type} (f:α->Nat) (xs:List α) (k:Nat):Nat:=((xs.take k).map f).sum
theorem l8 {α:Type} (f:α->Nat) (xs:List α):iA f xs 0=0:=by simp[iA]
theorem Cg {α:Type} (f:α->Nat) (xs:List α):iA f xs xs.length=(xs.map f).sum:=by simp[iA]
theorem v8 {α:Type} (f:α->Nat) {xs:List α} {k:Nat} (hk:k<xs.length):iA f xs (k+1)=iA f xs k+f xs[k]:=by
 unfold iA
 rw[List.take_succ_eq_append_getElem hk,List.map_append,List.sum_append];simp
theorem pB {α:Type} (f:α->Nat) (xs:List α) (k:Nat):iA f xs k<=(xs.map f).sum:=by
 unfold iA
 conv=>rhs;rw[<-List.take_append_drop k xs]
 rw[List.map_append,List.sum_append];omega
theorem J3 {α:Type} {e:α->List AV} {z fk gk:Nat} (wt:α->Nat) (hc:lP P fk=some (J2 fk gk z)) (hz:∀x,(e x).length=z) (Cy:∀x g,de g 6 [.agg (e x)]=some [.agg (e x)]) (xs:List α) (left:Int) (h0:0<=left) (h1:left<=1048576)
  (hg:∀x∈xs,∀l:Int,0<=l->l<=1048576->aq P gk [.agg (e x),.int .i64 l] (.int .i64 (wN (wt x) l))):aq P fk [.sl (xs.map e),.int .i64 left] (.int .i64 (wN (xs.length+(xs.map wt).sum) left)):=by
 refine aq.body hc rfl fun hl n0=>?_
 try simp only[q]
 have hn:xs.length<=9223372036854775807:=by simpa using(hl (.sl (xs.map e)) (by simp)).len
 clear hl
 have hw:IntKind.i64.wrap (left-(xs.length:Int))=left-xs.length:=bP ai
 by_cases hf:(xs.length:Int)<=left
 ·have lI:¬left-(xs.length:Int)<0:=ai
  (try((repeat(revert hN;revert N;apply Pn.out));refine wk (tw @hw @lI) ?_;(repeat(refine Pn.mk ?_;intro N hN))))
  refine bF (fun n env st=>∃k:Nat,n=(xs.length)-k/\k<=(xs.length)/\env 5=.int .i64 (k:Int)/\env 1=(.int .i64 (left-xs.length-(iA wt xs k:Nat)))/\(0<=left-xs.length-(iA wt xs k:Nat))) (xs.length) ⟨0,ai,ai,sl (tw @l8 (tw @Int.natCast_zero @Int.sub_zero)),sl (tw @l8 (tw @Int.natCast_zero @Int.sub_zero)),(by rw[l8];omega)⟩ ?_
  rintro n_a env_a st_a ⟨k,rfl,ale,a5,a1,lL⟩ ev
  have a0:=ev 0 (by kernel_rfl)
  simp only[go_sem, ↓reduceIte,Nat.reduceEqDiff,Nat.reduceAdd,Nat.reduceSub,Nat.reduceLeDiff,reduceCtorEq,l8,Int.natCast_zero,Int.sub_zero]at a0
  clear ev
  by_cases hk:(k:Int)<(xs.length:Int)
  ·have cY:∀{e:Env},(e 5=.int .i64 (IntKind.i64.wrap ((k:Int)+1)))->(e 1=(.int .i64 (left-xs.length-(iA wt xs (k+1):Nat))))->(0<=left-xs.length-(iA wt xs (k+1):Nat))->∃m0,m0<(xs.length)-k/\∃k:Nat,m0=(xs.length)-k/\k<=(xs.length)/\e 5=.int .i64 (k:Int)/\e 1=(.int .i64 (left-xs.length-(iA wt xs k:Nat)))/\(0<=left-xs.length-(iA wt xs k:Nat)):=fun x1 x2 x3=>⟨_,ai,k+1,rfl,ai,(by rw[x1,aI ai]),x2,x3⟩
   have fM:k<xs.length:=ai
   have eU:(xs.map e)[k]? =some (e xs[k]):=by simp[fM]
   have sV:=hz xs[k]
   have ht:(e xs[k]).take z=e xs[k]:=by rw[<-sV,List.take_length]
   have hs:=v8 wt fM
   have Dx:=pB wt xs (k+1)
   have ij:=hg _ (List.getElem_mem fM) (left-xs.length-(iA wt xs k:Nat)) lL ai
   have lf:de (dR st_a.get) 6 [.agg (e xs[k]),.int .i64 (left-xs.length-(iA wt xs k:Nat))]=some [.agg (e xs[k]),.int .i64 (left-xs.length-(iA wt xs k:Nat))]:=by
    have q1:=Cy xs[k] (dR st_a.get)
    rw[ab,aj]at q1
    rw[ab,ab,aj,ay]
    revert q1
    cases V.fz (dR st_a.get) 6 (.agg (e xs[k]))<;>simp
   by_cases Bi:(wt xs[k]:Int)<=left-xs.length-(iA wt xs k:Nat)
   ·rw[wN,if_pos Bi]at ij
    have CA:¬left-xs.length-(iA wt xs k:Nat)-(wt xs[k]:Int)<0:=ai
    have xd:left-xs.length-(iA wt xs k:Nat)-(wt xs[k]:Int)=left-xs.length-(iA wt xs (k+1):Nat):=by rw[hs];omega
    generalize hex:e xs[k]=c at ij lf eU sV ht
    (try((repeat(revert hN;revert N;apply Pn.out));refine wk (tw @a5 (tw @a1 (tw @a0 (tw @hk (tw @eU (tw @sV (tw @ht @Nat.le_refl))))))) ?_;(repeat(refine Pn.mk ?_;intro N hN))))
    refine .inl ⟨_,aq.x ij lf,?_⟩
    refine hN _ _ ?_
    clear hN N
    (try((repeat(revert hN;revert N;apply Pn.out));refine wk (tw @a5 (tw @a1 (tw @a0 @CA))) ?_;(repeat(refine Pn.mk ?_;intro N hN))))
    refine cY ?_ ?_ ((by rw[hs];omega))
    all_goals simp only[go_sem, ↓reduceIte,Nat.reduceEqDiff,Nat.reduceAdd,Nat.reduceSub,Nat.reduceLeDiff,reduceCtorEq,a5,a1,a0,xd]
   ·rw[wN,if_neg Bi]at ij
    generalize hex:e xs[k]=c at ij lf eU sV ht
    (try((repeat(revert hN;revert N;apply Pn.out));refine wk (tw @a5 (tw @a1 (tw @a0 (tw @hk (tw @eU (tw @sV (tw @ht @Nat.le_refl))))))) ?_;(repeat(refine Pn.mk ?_;intro N hN))))
    refine .inl ⟨_,aq.x ij lf,?_⟩
    refine hN _ _ ?_
    clear hN N
    (try((repeat(revert hN;revert N;apply Pn.out));refine wk (tw @a5 (tw @a1 @a0)) ?_;(repeat(refine Pn.mk ?_;intro N hN))))
    exact cR (b:=-1) (.inl rfl) (sd @Nat.zero_add) (by rw[wN,if_neg ai])
  ·(try((repeat(revert hN;revert N;apply Pn.out));refine wk (tw @a5 (tw @a1 (tw @a0 @hk))) ?_;(repeat(refine Pn.mk ?_;intro N hN))))
   have fM:k=xs.length:=ai
   subst fM
   have SO:=Cg wt xs
   exact cR (b:=left-xs.length-(iA wt xs xs.length:Nat)) (.inl rfl) (sd (tw @a5 (tw @a1 @a0))) (by rw[wN,if_pos ai];omega)
 ·have lI:left-(xs.length:Int)<0:=ai
  (try((repeat(revert hN;revert N;apply Pn.out));refine wk (tw @hw @lI) ?_;(repeat(refine Pn.mk ?_;intro N hN))))
  exact cR (b:=-1) (.inl rfl) (sd @Nat.zero_add) (by rw[wN,if_neg ai])
theorem Io {α:Type} {xs ys:List α} (hl:xs.length=ys.length) (h:∀j:Nat,j<xs.length->∀(h1:j<xs.length) (h2:j<ys.length),xs[j]=ys[j]):xs=ys:=List.ext_getElem hl fun j h1 h2=>h j h1 h1 h2
theorem C4 {α:Type} [DecidableEq α] {e:α->List AV} {z fk gk:Nat} (hc:lP P fk=some (EZ fk gk z)) (hz:∀x,(e x).length=z) (Cy:∀x g,de g 6 [.agg (e x)]=some [.agg (e x)]) (xs ys:List α)
  (hg:∀x y,aq P gk [.agg (e x),.agg (e y)] (.bool (decide (x=y)))):aq P fk [.sl (xs.map e),.sl (ys.map e)] (.bool (decide (xs=ys))):=by
 refine aq.body hc rfl fun hl n0=>?_
 try simp only[q]
 have hn:xs.length<=9223372036854775807:=by simpa using(hl (.sl (xs.map e)) (by simp)).len
 clear hl
 by_cases hlen:xs.length=ys.length
 ·have kr:decide ((xs.length:Int)=(ys.length:Int))=true:=by simp[hlen]
  (try((repeat(revert hN;revert N;apply Pn.out));refine wk @kr ?_;(repeat(refine Pn.mk ?_;intro N hN))))
  refine bF (fun n env st=>∃k:Nat,n=(xs.length)-k/\k<=(xs.length)/\env 5=.int .i64 (k:Int)/\(∀j:Nat,j<k->∀(h1:j<xs.length) (h2:j<ys.length),xs[j]=ys[j])) (xs.length) ⟨0,ai,ai,sl @Nat.zero_add,fun _ h=>absurd h (Nat.not_lt_zero _)⟩ ?_
  rintro n_a env_a st_a ⟨k,rfl,ale,a5,lG⟩ ev
  have a0:=ev 0 (by kernel_rfl);have a1:=ev 1 (by kernel_rfl)
  simp only[go_sem, ↓reduceIte,Nat.reduceEqDiff,Nat.reduceAdd,Nat.reduceSub,Nat.reduceLeDiff,reduceCtorEq]at a0 a1
  clear ev
  by_cases hk:(k:Int)<(xs.length:Int)
  ·have cY:∀{e:Env},(e 5=.int .i64 (IntKind.i64.wrap ((k:Int)+1)))->(∀(h1:k<xs.length) (h2:k<ys.length),xs[k]=ys[k])->∃m0,m0<(xs.length)-k/\∃k:Nat,m0=(xs.length)-k/\k<=(xs.length)/\e 5=.int .i64 (k:Int)/\(∀j:Nat,j<k->∀(h1:j<xs.length) (h2:j<ys.length),xs[j]=ys[j]):=fun x1 x2=>⟨_,ai,k+1,rfl,ai,(by rw[x1,aI ai]),(all_succ lG x2)⟩
   have fM:k<xs.length:=ai
   have S3:k<ys.length:=ai
   have eU:(xs.map e)[k]? =some (e xs[k]):=by simp[fM]
   have Ds:(ys.map e)[k]? =some (e ys[k]):=by simp[S3]
   have sV:=hz xs[k]
   have DD:=hz ys[k]
   have ht:(e xs[k]).take z=e xs[k]:=by rw[<-sV,List.take_length]
   have Hz:(e ys[k]).take z=e ys[k]:=by rw[<-DD,List.take_length]
   have ij:=hg xs[k] ys[k]
   have lf:∀g,de g 6 [.agg (e xs[k]),.agg (e ys[k])]=some [.agg (e xs[k]),.agg (e ys[k])]:=fun g=>by
    have q1:=Cy xs[k] g
    have q2:=Cy ys[k] g
    rw[ab,aj]at q1
    rw[ab,q2]
    revert q1
    cases V.fz g 6 (.agg (e xs[k]))<;>simp
   by_cases heq:xs[k]=ys[k]
   ·rw[decide_eq_true heq]at ij
    generalize hex:e xs[k]=c at ij lf eU sV ht
    generalize hey:e ys[k]=d at ij lf Ds DD Hz
    (try((repeat(revert hN;revert N;apply Pn.out));refine wk (tw @a5 (tw @a0 (tw @a1 (tw @hk (tw @eU (tw @Ds (tw @sV (tw @DD (tw @ht (tw @Hz @Nat.le_refl)))))))))) ?_;(repeat(refine Pn.mk ?_;intro N hN))))
    refine⟨_,aq.x ij (lf _),?_⟩
    refine hN _ _ ?_
    clear hN N
    (try((repeat(revert hN;revert N;apply Pn.out));refine wk (tw @a5 (tw @a0 @a1)) ?_;(repeat(refine Pn.mk ?_;intro N hN))))
    exact cY (sd (tw @a5 (tw @a0 @a1))) (fun _ _=>heq)
   ·rw[decide_eq_false heq]at ij
    generalize hex:e xs[k]=c at ij lf eU sV ht
    generalize hey:e ys[k]=d at ij lf Ds DD Hz
    (try((repeat(revert hN;revert N;apply Pn.out));refine wk (tw @a5 (tw @a0 (tw @a1 (tw @hk (tw @eU (tw @Ds (tw @sV (tw @DD (tw @ht (tw @Hz @Nat.le_refl)))))))))) ?_;(repeat(refine Pn.mk ?_;intro N hN))))
    refine⟨_,aq.x ij (lf _),?_⟩
    refine hN _ _ ?_
    clear hN N
    (try((repeat(revert hN;revert N;apply Pn.out));refine wk (tw @a5 (tw @a0 @a1)) ?_;(repeat(refine Pn.mk ?_;intro N hN))))
    exact bd (b:=false) (.inl rfl) (sd @Nat.zero_add) (decide_eq_false fun h=>heq (List.getElem_of_eq h _)).symm
  ·(try((repeat(revert hN;revert N;apply Pn.out));refine wk (tw @a5 (tw @a0 (tw @a1 @hk))) ?_;(repeat(refine Pn.mk ?_;intro N hN))))
   exact bd (b:=true) (.inl rfl) (sd @Nat.zero_add) (decide_eq_true (Io hlen fun j hj h1 h2=>lG j ai h1 h2)).symm
 ·have kr:decide ((xs.length:Int)=(ys.length:Int))=false:=decide_eq_false fun h=>hlen ai
  (try((repeat(revert hN;revert N;apply Pn.out));refine wk @kr ?_;(repeat(refine Pn.mk ?_;intro N hN))))
  exact bd (b:=false) (.inl rfl) (sd @Nat.zero_add) (decide_eq_false fun h=>hlen (by subst h;rfl)).symm
theorem QM {fk:Nat} (hc:lP P fk=some (ML fk .tI)) (xs ys:List Int):
  aq P fk [.sl (xs.map fun x=>[AV.int .i64 x]),.sl (ys.map fun x=>[AV.int .i64 x])] (.bool (decide (xs=ys))):=by
 refine aq.body hc rfl fun hl n0=>?_
 try simp only[q]
 have hn:xs.length<=9223372036854775807:=by simpa using(hl (.sl (xs.map fun x=>[AV.int .i64 x])) (by simp)).len
 clear hl
 by_cases hlen:xs.length=ys.length
 ·have kr:decide ((xs.length:Int)=(ys.length:Int))=true:=by simp[hlen]
  (try((repeat(revert hN;revert N;apply Pn.out));refine wk @kr ?_;(repeat(refine Pn.mk ?_;intro N hN))))
  refine bF (fun n env st=>∃k:Nat,n=(xs.length)-k/\k<=(xs.length)/\env 5=.int .i64 (k:Int)/\(∀j:Nat,j<k->∀(h1:j<xs.length) (h2:j<ys.length),xs[j]=ys[j])) (xs.length) ⟨0,ai,ai,sl @Nat.zero_add,fun _ h=>absurd h (Nat.not_lt_zero _)⟩ ?_
  rintro n_a env_a st_a ⟨k,rfl,ale,a5,lG⟩ ev
  have a0:=ev 0 (by kernel_rfl);have a1:=ev 1 (by kernel_rfl)
  simp only[go_sem, ↓reduceIte,Nat.reduceEqDiff,Nat.reduceAdd,Nat.reduceSub,Nat.reduceLeDiff,reduceCtorEq]at a0 a1
  clear ev
  by_cases hk:(k:Int)<(xs.length:Int)
  ·have cY:∀{e:Env},(e 5=.int .i64 (IntKind.i64.wrap ((k:Int)+1)))->(∀(h1:k<xs.length) (h2:k<ys.length),xs[k]=ys[k])->∃m0,m0<(xs.length)-k/\∃k:Nat,m0=(xs.length)-k/\k<=(xs.length)/\e 5=.int .i64 (k:Int)/\(∀j:Nat,j<k->∀(h1:j<xs.length) (h2:j<ys.length),xs[j]=ys[j]):=fun x1 x2=>⟨_,ai,k+1,rfl,ai,(by rw[x1,aI ai]),(all_succ lG x2)⟩
   have fM:k<xs.length:=ai
   have S3:k<ys.length:=ai
   have eU:(xs.map fun x=>[AV.int .i64 x])[k]? =some [.int .i64 xs[k]]:=by simp[fM]
   have Ds:(ys.map fun x=>[AV.int .i64 x])[k]? =some [.int .i64 ys[k]]:=by simp[S3]
   by_cases heq:xs[k]=ys[k]
   ·have hq:=decide_eq_true heq
    (try((repeat(revert hN;revert N;apply Pn.out));refine wk (tw @a5 (tw @a0 (tw @a1 (tw @hk (tw @eU (tw @Ds @hq)))))) ?_;(repeat(refine Pn.mk ?_;intro N hN))))
    exact cY (sd (tw @a5 (tw @a0 @a1))) (fun _ _=>heq)
   ·have hq:=decide_eq_false heq
    (try((repeat(revert hN;revert N;apply Pn.out));refine wk (tw @a5 (tw @a0 (tw @a1 (tw @hk (tw @eU (tw @Ds @hq)))))) ?_;(repeat(refine Pn.mk ?_;intro N hN))))
    exact bd (b:=false) (.inl rfl) (sd @Nat.zero_add) (decide_eq_false fun h=>heq (List.getElem_of_eq h _)).symm
  ·(try((repeat(revert hN;revert N;apply Pn.out));refine wk (tw @a5 (tw @a0 (tw @a1 @hk))) ?_;(repeat(refine Pn.mk ?_;intro N hN))))
   exact bd (b:=true) (.inl rfl) (sd @Nat.zero_add) (decide_eq_true (Io hlen fun j hj h1 h2=>lG j ai h1 h2)).symm
 ·have kr:decide ((xs.length:Int)=(ys.length:Int))=false:=decide_eq_false fun h=>hlen ai
  (try((repeat(revert hN;revert N;apply Pn.out));refine wk @kr ?_;(repeat(refine Pn.mk ?_;intro N hN))))
  exact bd (b:=false) (.inl rfl) (sd @Nat.zero_add) (decide_eq_false fun h=>hlen (by subst h;rfl)).symm
theorem uq (l:List AV):l++[]=l:=List.append_nil l
def gL {α:Type} (e:α->List AV) (zc:List AV) (xs:List α) (k:Nat):List (List AV):=(xs.take k).map e++List.replicate (xs.length-k) zc
theorem nP {α:Type} (e:α->List AV) (zc:List AV) (xs:List α):List.replicate xs.length zc=gL e zc xs 0:=by simp[gL]
theorem pO {α:Type} (e:α->List AV) (zc:List AV) (xs:List α):gL e zc xs xs.length=xs.map e:=by simp[gL]
theorem pP {α:Type} (e:α->List AV) (zc:List AV) (xs:List α) {k:Nat} (hk:k<xs.length):(gL e zc xs k)[k]? =some zc:=by
 have h1:((xs.take k).map e).length=k:=by simp;omega
 rw[gL,List.getElem?_append_right ai,h1,Nat.sub_self,List.getElem?_replicate,if_pos ai]
theorem pQ {α:Type} (e:α->List AV) (zc:List AV) (xs:List α) {k:Nat} (hk:k<xs.length):(gL e zc xs k).set k (e xs[k])=gL e zc xs (k+1):=by
 have h1:((xs.take k).map e).length=k:=by simp;omega
 rw[gL,List.set_append_right _ _ ai,h1,Nat.sub_self,gL,List.take_succ_eq_append_getElem hk,List.map_append,List.append_assoc]
 congr 1
 obtain⟨m,hm⟩:∃m,xs.length-k=m+1:=⟨xs.length-k-1,ai⟩
 rw[hm,show xs.length-(k+1)=m by omega,List.replicate_succ]
 rfl
theorem EA {α:Type} {en:α->List AV} {z fk gk:Nat} {zero:List K} (hc:lP P fk=some (tg fk gk z zero)) (HC:zero.length=z) (hz:∀x,(en x).length=z) (j4:∀x,(en x).all AV.cell=true) (Cy:∀x g,de g 5 (en x)=some (en x)) (xs:List α) (hlen:xs.length<=1048576)
  (hg:∀x∈xs,jU P gk [.agg (en x)] (.agg (en x))):jU P fk [.sl (xs.map en)] (.sl (xs.map en)):=by
 refine jU.body hc rfl fun hl σ=>?_
 try simp only[q]
 clear hl
 have hm:(xs.length:Int)<=((16777216:Nat):Int):=ai
 have h0:(0:Int)<=(xs.length:Int):=ai
 (try((repeat(revert hN;revert N;apply Pn.out));refine wk (tw @hm (tw @h0 (tw @Int.le_refl (tw (nP en (zero.map K.av) xs) @HC)))) ?_;(repeat(refine Pn.mk ?_;intro N hN))))
 refine bF (fun n env st=>∃k:Nat,n=(xs.length)-k/\k<=(xs.length)/\env 4=.int .i64 (k:Int)/\st.get ⟨fk*1000000+1002,σ.next+1⟩=some ⟨true,z,gL en (zero.map K.av) xs k⟩) (xs.length) ⟨0,ai,ai,sl @Nat.zero_add,sl @Nat.zero_add⟩ ?_
 rintro n_a env_a st_a ⟨k,rfl,ale,a4,ag0⟩ ev
 have a0:=ev 0 (by kernel_rfl);have a3:=ev 3 (by kernel_rfl)
 simp only[go_sem, ↓reduceIte,Nat.reduceEqDiff,Nat.reduceAdd,Nat.reduceSub,Nat.reduceLeDiff,reduceCtorEq]at a0 a3
 clear ev
 by_cases hk:(k:Int)<(xs.length:Int)
 ·have cY:∀{e:Env} {gg:Rows},(e 4=.int .i64 (IntKind.i64.wrap ((k:Int)+1)))->(gg ⟨fk*1000000+1002,σ.next+1⟩=some ⟨true,z,gL en (zero.map K.av) xs (k+1)⟩)->∃m0,m0<(xs.length)-k/\∃k:Nat,m0=(xs.length)-k/\k<=(xs.length)/\e 4=.int .i64 (k:Int)/\gg ⟨fk*1000000+1002,σ.next+1⟩=some ⟨true,z,gL en (zero.map K.av) xs k⟩:=fun x1 x2=>⟨_,ai,k+1,rfl,ai,(by rw[x1,aI ai]),x2⟩
  have fM:k<xs.length:=ai
  have eU:(xs.map en)[k]? =some (en xs[k]):=by simp[fM]
  have sV:=hz xs[k]
  have Kv:=j4 xs[k]
  have ht:(en xs[k]).take z=en xs[k]:=by rw[<-sV,List.take_length]
  have ij:=hg _ (List.getElem_mem fM)
  have gh:=pP en (zero.map K.av) xs fM
  have eI:=pQ en (zero.map K.av) xs fM
  have ID:(zero.map K.av).drop z=[]:=List.drop_of_length_le (by simp[HC])
  generalize hex:en xs[k]=c at ij eU sV ht Kv eI
  (repeat(first|((repeat(revert hN;revert N;apply Pn.out));refine wk (tw @a4 (tw @ag0 (tw @a0 (tw @a3 (tw @hk (tw @eU (tw @sV (tw @ht (tw @Nat.le_refl (tw @gh (tw @eI (tw @ID (tw @uq (tw @Kv @HC)))))))))))))) ?_;(repeat(refine Pn.mk ?_;intro N hN)))|((try apply Or.inl);refine⟨_,jU.x (ij) _,?_⟩;refine hN _ _ ?_;clear hN N)))
  refine cY ?_ ?_
  all_goals simp only[go_sem, ↓reduceIte,Nat.reduceEqDiff,Nat.reduceAdd,Nat.reduceSub,Nat.reduceLeDiff,reduceCtorEq,a4,ag0,a0,a3]
 ·(try((repeat(revert hN;revert N;apply Pn.out));refine wk (tw @a4 (tw @ag0 (tw @a0 (tw @a3 @hk)))) ?_;(repeat(refine Pn.mk ?_;intro N hN))))
  have fM:k=xs.length:=ai
  subst fM
  refine R6 (.inl rfl) (r0:=.own ⟨fk*1000000+1002,σ.next+1⟩ 0 xs.length) (sd (tw @a4 (tw @ag0 (tw @a0 @a3)))) ?_
  rw[pO]at ag0
  exact gr ag0 (by simp) fun x=>Cy x _
theorem Sa {fk:Nat} (hc:lP P fk=some (Kc fk (.int .i64 0))) (xs:List Int) (hlen:xs.length<=1048576):jU P fk [.sl (xs.map fun x=>[AV.int .i64 x])] (.sl (xs.map fun x=>[AV.int .i64 x])):=by
 refine jU.body hc rfl fun hl σ=>?_
 try simp only[q]
 clear hl
 obtain⟨en,Hv⟩:∃en:Int->List AV,en=fun x=>[AV.int .i64 x]:=⟨_,rfl⟩
 rw[<-Hv]
 have hm:(xs.length:Int)<=((16777216:Nat):Int):=ai
 have h0:(0:Int)<=(xs.length:Int):=ai
 (try((repeat(revert hN;revert N;apply Pn.out));refine wk (tw @hm (tw @h0 (tw @Int.le_refl (nP en [AV.int .i64 0] xs)))) ?_;(repeat(refine Pn.mk ?_;intro N hN))))
 refine bF (fun n env st=>∃k:Nat,n=(xs.length)-k/\k<=(xs.length)/\env 4=.int .i64 (k:Int)/\st.get ⟨fk*1000000+1002,σ.next+1⟩=some ⟨true,1,gL en [AV.int .i64 0] xs k⟩) (xs.length) ⟨0,ai,ai,sl @Nat.zero_add,sl @Nat.zero_add⟩ ?_
 rintro n_a env_a st_a ⟨k,rfl,ale,a4,ag0⟩ ev
 have a0:=ev 0 (by kernel_rfl);have a3:=ev 3 (by kernel_rfl)
 simp only[go_sem, ↓reduceIte,Nat.reduceEqDiff,Nat.reduceAdd,Nat.reduceSub,Nat.reduceLeDiff,reduceCtorEq]at a0 a3
 clear ev
 by_cases hk:(k:Int)<(xs.length:Int)
 ·have cY:∀{e:Env} {gg:Rows},(e 4=.int .i64 (IntKind.i64.wrap ((k:Int)+1)))->(gg ⟨fk*1000000+1002,σ.next+1⟩=some ⟨true,1,gL en [AV.int .i64 0] xs (k+1)⟩)->∃m0,m0<(xs.length)-k/\∃k:Nat,m0=(xs.length)-k/\k<=(xs.length)/\e 4=.int .i64 (k:Int)/\gg ⟨fk*1000000+1002,σ.next+1⟩=some ⟨true,1,gL en [AV.int .i64 0] xs k⟩:=fun x1 x2=>⟨_,ai,k+1,rfl,ai,(by rw[x1,aI ai]),x2⟩
  have fM:k<xs.length:=ai
  have eU:(xs.map en)[k]? =some [AV.int .i64 xs[k]]:=by simp[fM,Hv]
  have gh:=pP en [AV.int .i64 0] xs fM
  have eI:=pQ en [AV.int .i64 0] xs fM
  rw[show en xs[k]=[AV.int .i64 xs[k]] by rw[Hv]]at eI
  (try((repeat(revert hN;revert N;apply Pn.out));refine wk (tw @a4 (tw @ag0 (tw @a0 (tw @a3 (tw @hk (tw @eU (tw @gh @eI))))))) ?_;(repeat(refine Pn.mk ?_;intro N hN))))
  refine cY ?_ ?_
  all_goals simp only[go_sem, ↓reduceIte,Nat.reduceEqDiff,Nat.reduceAdd,Nat.reduceSub,Nat.reduceLeDiff,reduceCtorEq,a4,ag0,a0,a3]
 ·(try((repeat(revert hN;revert N;apply Pn.out));refine wk (tw @a4 (tw @ag0 (tw @a0 (tw @a3 @hk)))) ?_;(repeat(refine Pn.mk ?_;intro N hN))))
  have fM:k=xs.length:=ai
  subst fM
  refine R6 (.inl rfl) (r0:=.own ⟨fk*1000000+1002,σ.next+1⟩ 0 xs.length) (sd (tw @a4 (tw @ag0 (tw @a0 @a3)))) ?_
  rw[pO]at ag0
  exact gr ag0 (by simp) fun x=>by simp[Hv,ab,aj,ay]
end Go.Proofs.YtgoljkjaameagaaGreat.V

namespace Go.Proofs.YtgoljkjaameagaaGreat
open Go.RowKit
def Sl (w:World) (fp:List Nat) (v:Value) (n:Nat) (xs:List Value):Prop:=
 ∃A c,v=.slice A n c/\n<=c/\c<=maxLen/\
  ((fp=[]/\n=0)∨∃b o,fp=[b]/\A=some ⟨b,o,none⟩/\∀j u,xs[j]? =some u->w.cell? ⟨b,o+j,none⟩=some u)
def gz (fp:List Nat) (lo hi:Nat):Prop:=∀b∈fp,lo<=b/\b<hi
theorem gz.nil (lo hi:Nat):gz [] lo hi:=fun _ h=>by cases h
theorem Sl.nil (w:World):Sl w [] (.slice none 0 0) 0 []:=⟨none,0,rfl,Nat.le_refl _,by simp[maxLen],.inl ⟨rfl,rfl⟩⟩
def Nz {α:Type} (rep:World->List Nat->List Value->α->Prop) (sz:Nat) (w:World) (nQ:List (List Value)) (E0:List (List Nat)) (ds:List α):Prop:=
 nQ.length=ds.length/\E0.length=ds.length/\∀(i:Nat) (cs:List Value) (f:List Nat) (d:α),nQ[i]? =some cs->E0[i]? =some f->ds[i]? =some d->rep w f cs d/\cs.length=sz
def mu {α:Type} (rep:World->List Nat->List Value->α->Prop) (sz:Nat) (w:World) (fp:List Nat) (v:Value) (ds:List α):Prop:=
 ∃nQ E0 TR,fp=TR++E0.flatten/\Sl w TR v ds.length nQ.flatten/\Nz rep sz w nQ E0 ds
theorem qa {α:Type} {E0:List (List α)} {i:Nat} {f:List α} (h:E0[i]? =some f):∀b∈f,b∈E0.flatten:=fun b hb=>
 List.mem_flatten.2 ⟨f,List.mem_of_getElem? h,hb⟩
theorem sO {α:Type} {nQ:List (List α)} {sz:Nat} (h:∀cs∈nQ,cs.length=sz) {i j:Nat} {cs:List α} (hi:nQ[i]? =some cs) (hj:j<sz):nQ.flatten[i*sz+j]? =cs[j]? :=by
 induction nQ generalizing i with
 |nil=>simp at hi
 |cons c r ih=>
  have hc:c.length=sz:=h c (by simp)
  cases i with
  |zero=>
   simp at hi;subst hi
   rw[List.flatten_cons,List.getElem?_append_left (by omega)];simp
  |succ i=>
   rw[List.flatten_cons,List.getElem?_append_right (by rw[hc,Nat.succ_mul];omega)]
   have:(i+1)*sz+j-c.length=i*sz+j:=by rw[hc,Nat.succ_mul];omega
   rw[this]
   exact ih (fun cs dS=>h cs (List.mem_cons_of_mem _ dS)) (by simpa using hi)
theorem Nz.lens {α:Type} {rep:World->List Nat->List Value->α->Prop} {sz:Nat} {w:World} {nQ:List (List Value)} {E0:List (List Nat)} {ds:List α}
  (h:Nz rep sz w nQ E0 ds):∀cs∈nQ,cs.length=sz:=fun cs dS=>by
 obtain⟨i,hi,rfl⟩:=List.getElem_of_mem dS
 have h1:i<E0.length:=by rw[h.2.1,<-h.1];exact hi
 have h2:i<ds.length:=by rw[<-h.1];exact hi
 exact(h.2.2 i _ _ _ (List.getElem?_eq_getElem hi) (List.getElem?_eq_getElem h1) (List.getElem?_eq_getElem h2)).2
theorem mu.at_ {α:Type} {rep:World->List Nat->List Value->α->Prop} {sz:Nat} {w:World} {fp:List Nat} {A:Option Addr} {n c:Nat} {ds:List α}
  (h:mu rep sz w fp (.slice A n c) ds) (k:Nat) (hk:k<ds.length):
  ∃b o cs f,A=some ⟨b,o,none⟩/\b∈fp/\(∀x∈f,x∈fp)/\rep w f cs ds[k]/\cs.length=sz/\∀j u,cs[j]? =some u->w.cell? ⟨b,o+(k*sz+j),none⟩=some u:=by
 obtain⟨nQ,E0,TR,rfl,⟨A',c',hv,_,_,hc⟩,hr⟩:=h
 simp only[Value.slice.injEq]at hv
 obtain⟨rfl,hn,rfl⟩:=hv
 rcases hc with⟨_,h0⟩|⟨b,o,rfl,rfl,hc⟩
 ·omega
 have h1:k<nQ.length:=by rw[hr.1];exact hk
 have h2:k<E0.length:=by rw[hr.2.1];exact hk
 obtain⟨gH,hl⟩:=hr.2.2 k _ _ _ (List.getElem?_eq_getElem h1) (List.getElem?_eq_getElem h2) (List.getElem?_eq_getElem hk)
 refine⟨b,o,nQ[k],E0[k],rfl,by simp,fun x hx=>List.mem_append_right _ (qa (List.getElem?_eq_getElem h2) x hx),gH,hl,fun j u hj=>?_⟩
 have gZ:j<sz:=by rw[<-hl];exact(List.getElem?_eq_some_iff.1 hj).1
 exact hc _ u (by rw[sO hr.lens (List.getElem?_eq_getElem h1) gZ];exact hj)
theorem mu.len {α:Type} {rep:World->List Nat->List Value->α->Prop} {sz:Nat} {w:World} {fp:List Nat} {v:Value} {ds:List α}
  (h:mu rep sz w fp v ds):∃A c,v=.slice A ds.length c/\ds.length<=c/\c<=maxLen:=by
 obtain⟨_,_,_,_,⟨A,c,hv,h1,h2,_⟩,_⟩:=h
 exact⟨A,c,hv,h1,h2⟩
theorem mu.nil {α:Type} (rep:World->List Nat->List Value->α->Prop) (sz:Nat) (w:World):mu rep sz w [] (.slice none 0 0) ([]:List α):=
 ⟨[],[],[],rfl,Sl.nil w,rfl,rfl,fun i cs f d hc=>by simp at hc⟩
def Flat {α:Type} (enc:α->List Value):World->List Nat->List Value->α->Prop:=fun _ f cs d=>f=[]/\cs=enc d
def Q (w w':World):Prop:=∃q,w'=w.drewN q
theorem H0 {B:Nat} {a w:World} (h:Below B a w) (n:Nat):Below B a (w.drewN n):=⟨h.os,h.tape,h.output,h.size,h.block⟩
theorem iy {a b:Bool} (h:a=b):Ending.returned (.bool a)=.returned (.bool b):=by rw[h]
theorem Ca {k:IntKind} {a b:Int} (h:a=b):Ending.returned (.int k a)=.returned (.int k b):=by rw[h]
def Unf (w:World) (b:Nat):Prop:=∃cs e,w.heap[b]? =some (.cells cs e (0,0))
def putCells (w:World) (g:Nat):Nat->List Value->World
 |_,[]=>w
 |i,v::r=>putCells (w.setCell ⟨g,i,none⟩ v) g (i+1) r
structure Only (fp:List Nat) (w w':World):Prop where
 os:w'.os=w.os
 tape:w'.tape=w.tape
 output:w'.output=w.output
 size:w.heap.size<=w'.heap.size
 block:∀x,x<w.heap.size->x∉fp->w'.heap[x]? =w.heap[x]?
 unf:∀x,Unf w x->Unf w' x
structure aO where
 fb:Int
 eT:Int
deriving DecidableEq
structure ae where
 bE:aO
 bR:Int
deriving DecidableEq
structure eu where
 ah:List ae
deriving DecidableEq
structure fH where
 aW:ByteArray
 eD:Int
deriving DecidableEq
structure eW where
 aW:ByteArray
 b4:List Int
deriving DecidableEq
structure ax where
 aw:List fH
 ah:List eW
deriving DecidableEq
structure dc where
 aM:ax
 cj:eu
 aC:Int
deriving DecidableEq
def F5 (d:Int):List Value:=[.int .i64 d]
def EL:=Flat F5
def eY (d:ae):List Value:=[.int .i64 d.bE.fb,.int .i64 d.bE.eT,.int .i64 d.bR]
def Ap:=Flat eY
def iL:=mu Ap 3
def Ij (d:fH):List Value:=[.string d.aW,.int .i64 d.eD]
def HL:=Flat Ij
def qm:=mu HL 2
def qn:=mu EL 1
def HM (w:World) (f:List Nat) (cs:List Value) (d:eW):Prop:=
 ∃v1 f1,f=f1/\cs=[.string d.aW,v1]/\qn w f1 v1 d.b4
def qo:=mu HM 2
end Go.Proofs.YtgoljkjaameagaaGreat

namespace Go.Proofs.YtgoljkjaameagaaGreat.V
open Go.RowKit
variable {P:Program} {w:World} {D:Nat->Prop}
def HG (P:Program) (w:World) (D:Nat->Prop) (al:List AV) (cs:List Value):Prop:=∀(j:Nat) (a:AV),al[j]? =some a->∃u:Value,cs[j]? =some u/\jl P w D a u
theorem rh {α:Type} {rep:World->List Nat->List Value->α->Prop} {e:α->List AV} {sz:Nat} {f:List Nat} {v:Value} {xs:List α} (h:mu rep sz w f v xs) (hD:∀b∈f,D b)
  (hl:∀x∈xs,(e x).length=sz) (hc:∀x∈xs,∀a∈e x,a.cell=true) (hr:∀x∈xs,∀f' cs,rep w f' cs x->(∀b∈f',D b)->HG P w D (e x) cs):jl P w D (.sl (xs.map e)) v:=by
 obtain⟨A,c,rfl,h1,h2⟩:=mu.len h
 by_cases h0:xs=[]
 ·subst h0;exact .zL _ _ h2
 have jZ:0<xs.length:=List.length_pos_iff.2 h0
 obtain⟨b,o,MI,f0,rfl,hb,SX,U8,Lf,jt⟩:=mu.at_ h 0 jZ
 have key:∀(i:Nat) (hi:i<xs.length),∃cs f',(∀x∈f',x∈f)/\rep w f' cs xs[i]/\cs.length=sz/\∀j u,cs[j]? =some u->w.cell? ⟨b,o+(i*sz+j),none⟩=some u:=by
  intro i hi
  obtain⟨b',o',cs,f',SQ,_,lI,nA,dS,kq⟩:=mu.at_ h i hi
  simp only[Option.some.injEq,Addr.mk.injEq,and_true]at SQ
  obtain⟨rfl,rfl⟩:=SQ
  exact⟨cs,f',lI,nA,dS,kq⟩
 refine .sl _ b o _ c sz (fun i j=>(w.cell? ⟨b,o+(i*sz+j),none⟩).getD Go.undef) (by simp) h1 h2 (hD b hb) ?_ ?_ ?_ ?_
 ·intro cs dS
  obtain⟨x,hx,rfl⟩:=List.mem_map.1 dS
  exact hl x hx
 ·intro cs dS
  obtain⟨x,hx,rfl⟩:=List.mem_map.1 dS
  exact hc x hx
 ·intro i j hi hj
  obtain⟨cs,f',_,_,dS,kq⟩:=key i hi
  rw[kq j cs[j] (List.getElem?_eq_getElem ai)]
  rfl
 ·intro i j cs a dS ha
  have hi:i<xs.length:=by
   have:=(List.getElem?_eq_some_iff.1 dS).1
   simpa using this
  obtain⟨lH,f',lI,nA,hcs',kq⟩:=key i hi
  simp[hi]at dS
  subst dS
  obtain⟨u,hu,him⟩:=hr _ (List.getElem_mem hi) f' lH nA (fun b hb=>hD b (lI b hb)) j a ha
  rw[kq j u hu]
  exact him
end Go.Proofs.YtgoljkjaameagaaGreat.V

namespace Go.Proofs.YtgoljkjaameagaaGreat.V
open Go.RowKit
variable {P:Program} {w:World} {D:Nat->Prop}
def bt (d:Int):List AV:=[.int .i64 d]
def ar (d:aO):List AV:=[.int .i64 d.fb,.int .i64 d.eT]
def aa (d:ae):List AV:=[.int .i64 d.bE.fb,.int .i64 d.bE.eT,.int .i64 d.bR]
def bh (d:eu):List AV:=[.sl (d.ah.map aa)]
def cL (d:fH):List AV:=[.str d.aW,.int .i64 d.eD]
def bV (d:eW):List AV:=[.str d.aW,.sl (d.b4.map bt)]
def ad (d:ax):List AV:=[.sl (d.aw.map cL),.sl (d.ah.map bV)]
def bY (d:dc):List AV:=[.sl (d.aM.aw.map cL),.sl (d.aM.ah.map bV),.sl (d.cj.ah.map aa),.int .i64 d.aC]
theorem nH {f:List Nat} {v:Value} {xs:List ae} (h:iL w f v xs) (hD:∀b∈f,D b):jl P w D (.sl (xs.map aa)) v:=
 rh h hD (fun _ _=>rfl) (fun x _ a ha=>by simp[aa]at ha;rcases ha with rfl|rfl|rfl<;>rfl) fun x _ f' cs hr hf=>by
  obtain⟨_,rfl⟩:=hr
  intro j a ha
  match j,ha with
  |0,ha=>simp[aa]at ha;subst ha;exact⟨_,rfl,.int _ _⟩
  |1,ha=>simp[aa]at ha;subst ha;exact⟨_,rfl,.int _ _⟩
  |2,ha=>simp[aa]at ha;subst ha;exact⟨_,rfl,.int _ _⟩
  |j+3,ha=>simp[aa]at ha
theorem yK {d:eu} {f0:List Nat} {v0:Value} (h0:iL w f0 v0 d.ah) (d0:∀b∈f0,D b):jl P w D (.agg (bh d)) (.agg #[v0]):=by
 refine .agg _ _ (fun j=>(#[v0]:Array Value).getD j Go.undef) rfl (fun a ha=>by simp[bh]at ha;rcases ha with rfl<;>rfl) (fun j hj=>?_) (fun j a ha=>?_)
 ·match j,hj with
  |0,_=>rfl
  |j+1,hj=>simp[bh]at hj<;>omega
 ·match j,ha with
  |0,ha=>simp[bh]at ha;subst ha;exact nH h0 d0
  |j+1,ha=>simp[bh]at ha
theorem xu {f:List Nat} {v:Value} {xs:List fH} (h:qm w f v xs) (hD:∀b∈f,D b):jl P w D (.sl (xs.map cL)) v:=
 rh h hD (fun _ _=>rfl) (fun x _ a ha=>by simp[cL]at ha;rcases ha with rfl|rfl<;>rfl) fun x _ f' cs hr hf=>by
  obtain⟨_,rfl⟩:=hr
  intro j a ha
  match j,ha with
  |0,ha=>simp[cL]at ha;subst ha;exact⟨_,rfl,.str _⟩
  |1,ha=>simp[cL]at ha;subst ha;exact⟨_,rfl,.int _ _⟩
  |j+2,ha=>simp[cL]at ha
theorem ui {f:List Nat} {v:Value} {xs:List Int} (h:qn w f v xs) (hD:∀b∈f,D b):jl P w D (.sl (xs.map bt)) v:=
 rh h hD (fun _ _=>rfl) (fun x _ a ha=>by simp[bt]at ha;rcases ha with rfl<;>rfl) fun x _ f' cs hr hf=>by
  obtain⟨_,rfl⟩:=hr
  intro j a ha
  match j,ha with
  |0,ha=>simp[bt]at ha;subst ha;exact⟨_,rfl,.int _ _⟩
  |j+1,ha=>simp[bt]at ha
theorem xx {f:List Nat} {v:Value} {xs:List eW} (h:qo w f v xs) (hD:∀b∈f,D b):jl P w D (.sl (xs.map bV)) v:=
 rh h hD (fun _ _=>rfl) (fun x _ a ha=>by simp[bV]at ha;rcases ha with rfl|rfl<;>rfl) fun x _ f' cs hr hf=>by
  obtain⟨v1,f1,rfl,rfl,h1⟩:=hr
  intro j a ha
  match j,ha with
  |0,ha=>simp[bV]at ha;subst ha;exact⟨_,rfl,.str _⟩
  |1,ha=>simp[bV]at ha;subst ha;exact⟨_,rfl,ui h1 hf⟩
  |j+2,ha=>simp[bV]at ha
end Go.Proofs.YtgoljkjaameagaaGreat.V

namespace Go.Proofs.YtgoljkjaameagaaGreat.V
open Go.RowKit
attribute [local irreducible] dQ wpOps ft Call
attribute [local go_sem] aA eV ef e9 e8 cZ upd bQ K.av cr AV.cells AV.cell rowOf rowsOf part ld rowAt bD bL dm dD fE bu cK dO fa eF db dH cI cH dw dx bz aQ cz bx cD cC dF dI dG cw bC cJ dE bw az cF bZ fD bj cq bB aJ cX aX dn AV.undef bp br dy dC du dz cm dM dP bU dK dJ cE cG List.getD_cons_zero List.getD_cons_succ List.getD_nil List.all_cons List.all_nil Bool.and_true Bool.true_and Bool.and_self Bool.not_true Bool.not_false Option.map_some Option.map_none Option.bind_some Option.bind_none List.length_cons List.length_nil List.take_succ_cons List.take_zero List.take_nil List.drop_succ_cons List.drop_zero List.drop_nil List.head?_cons List.map_cons List.map_nil List.getElem?_cons_zero List.getElem?_cons_succ List.cons_append List.nil_append List.append_nil List.length_map List.set_cons_zero List.set_cons_succ Nat.reduceMul eq_self Int.toNat_natCast Int.natCast_nonneg and_self true_and and_true decide_true decide_false Bool.false_eq_true Nat.zero_add Nat.add_zero List.contains_cons List.contains_nil Bool.or_false Bool.false_or beq_self_eq_true Nat.reduceBEq ne_eq not_true_eq_false not_false_eq_true Id.mk.injEq false_and and_false Nat.reduceLT Int.reduceLE Int.reduceLT Int.reduceToNat Int.reduceNeg Int.reduceAdd Nat.le_refl List.length_append beq_true beq_false Bool.not_eq_eq_eq_not or_false false_or dR ab aj ay bo bJ aD aV aH aU cu bq
variable {P:Program}
theorem Kj {X:fQ} {Q:Ex->Env->au->Prop} {N:Env->au->Prop} {c:VC} {env:Env} {σ:au} (I:Env->au->Prop) (h2:∀e s,I e s->N e s) (h1:∀N':Env->au->Prop,(∀e s,I e s->N' e s)->dQ X c (cX N' Q) env σ):dQ X c (cX N Q) env σ:=h1 N h2
def sb (f z:Nat) (a:Bool):Ac:=let s:=f*1000000
 ⟨19,2,(.seq (.eA false [q 4 (.dq (.k (.int .i64 0))) s]) (.seq (.seq (.eA false [q 6 (.dq (.t 0)) (s+1000),q 7 (.len (.t 6)) (s+1001),q 8 (.dq (.k (.int .i64 0))) (s+1002)]) (.block 0 (.loop (.seq (.eA false [q 9 (.bin .lss .i64 (.t 8) (.t 7)) (s+2000)]) (.seq (.cond (.t 9) .skip (.exit 0)) (.seq (.block 1 (.seq (.eA false [q 10 (.dq (.t 8)) (s+3000),q 5 (.dq (.t 10)) (s+3001)]) (.seq (.eA false [q 11 (.dq (.t 1)) (s+4000),q 12 (.dq (.t 0)) (s+4001),q 13 (.dq (.t 5)) (s+4002),q 14 (.ea z (.t 12) (.t 13)) (s+4003),q 15 (.load a z (.t 14)) (s+4004),q 16 (.sM (.t 11) [(.t 15)]) (s+4005)]) (.cond (.t 16) (.seq (.eA false [q 17 (.dq (.t 5)) (s+5000),q 4 (.dq (.t 17)) (s+5001)]) .ret) .skip)))) (.eA false [q 18 (.bin .add .i64 (.t 8) (.k (.int .i64 1))) (s+6000),q 8 (.dq (.t 18)) (s+6001)]))))))) (.seq (.eA false [q 4 (.dq (.k (.int .i64 (-1)))) (s+7000)]) .ret))),[(.tmp 4)]⟩
def za (f g:Nat):Ac:=let s:=f*1000000
 ⟨9,2,(.seq (.eA false [q 4 (.dq (.k (.bool false))) s]) (.seq (.eA false [q 5 (.dq (.t 0)) (s+1000),q 6 (.dq (.t 1)) (s+1001),q 7 (.call g [(.t 5),(.t 6)]) (s+1002),q 8 (.bin .geq .i64 (.t 7) (.k (.int .i64 0))) (s+1003),q 4 (.dq (.t 8)) (s+1004)]) .ret)),[(.tmp 4)]⟩
def jX {α:Type} (p:α->Bool) (xs:List α):Int:=if xs.findIdx p<xs.length then(xs.findIdx p:Int)else -1
theorem Ip {α:Type} (p:α->Bool) (xs:List α):decide (0<=jX p xs)=xs.any p:=by
 unfold jX
 by_cases h:xs.findIdx p<xs.length
 ·rw[if_pos h]
  have:xs.any p=true:=List.any_eq_true.2 (List.findIdx_lt_length.1 h)
  rw[this];simp
 ·rw[if_neg h]
  have:xs.any p=false:=by
   rw[Bool.eq_false_iff]
   intro hc
   exact h (List.findIdx_lt_length.2 (List.any_eq_true.1 hc))
  rw[this];rfl
theorem tF (a:AV) (l m:List AV):a::l++m=a::(l++m):=rfl
theorem yQ (l:List AV):[]++l=l:=rfl
structure PZ {α:Type} (e:α->List AV) (v:α->AV) (z:Nat) (a:Bool):Prop where
 len:∀x,(e x).length=z
 val:∀x,if a=true then v x=.agg (e x)else e x=[v x]
 fz:∀x g,de g 6 [v x]=some [v x]
theorem sW {α:Type} {e:α->List AV} {v:α->AV} {z fk:Nat} {a:Bool} (hE:PZ e v z a) (hc:lP P fk=some (sb fk z a)) (xs:List α) (hlen:xs.length<=1048576) (f:Nat) (di:List AV) (p:α->Bool)
  (hf:∀x∈xs,aq P f (v x::di) (.bool (p x))) (IF:∀g,de g 6 di=some di):
  aq P fk [.sl (xs.map e),.fn f di] (.int .i64 (jX p xs)):=by
 refine aq.body hc rfl fun hl n0=>?_
 try simp only[q]
 clear hl
 (try((repeat(revert hN;revert N;apply Pn.out));refine wk @Nat.zero_add ?_;(repeat(refine Pn.mk ?_;intro N hN))))
 refine bF (fun n env st=>∃k:Nat,n=(xs.length)-k/\k<=(xs.length)/\env 8=.int .i64 (k:Int)/\(∀j:Nat,j<k->∀h:j<xs.length,p xs[j]=false)) (xs.length) ⟨0,ai,ai,sl @Nat.zero_add,fun _ h=>absurd h (Nat.not_lt_zero _)⟩ ?_
 rintro n_a env_a st_a ⟨k,rfl,ale,a8,lG⟩ ev
 have a0:=ev 0 (by kernel_rfl);have a1:=ev 1 (by kernel_rfl);have a7:=ev 7 (by kernel_rfl)
 simp only[go_sem, ↓reduceIte,Nat.reduceEqDiff,Nat.reduceAdd,Nat.reduceSub,Nat.reduceLeDiff,reduceCtorEq]at a0 a1 a7
 clear ev
 by_cases hk:(k:Int)<(xs.length:Int)
 ·have cY:∀{e:Env},(e 8=.int .i64 (IntKind.i64.wrap ((k:Int)+1)))->(∀h:k<xs.length,p xs[k]=false)->∃m0,m0<(xs.length)-k/\∃k:Nat,m0=(xs.length)-k/\k<=(xs.length)/\e 8=.int .i64 (k:Int)/\(∀j:Nat,j<k->∀h:j<xs.length,p xs[j]=false):=fun x1 x2=>⟨_,ai,k+1,rfl,ai,(by rw[x1,aI ai]),(all_succ lG x2)⟩
  have fM:k<xs.length:=ai
  have hg:(xs.map e)[k]? =some (e xs[k]):=by simp[fM]
  have Fg:=hf _ (List.getElem_mem fM)
  have hz:=hE.len xs[k]
  have hv:=hE.val xs[k]
  have lf:de (dR st_a.get) 6 (v xs[k]::di)=some (v xs[k]::di):=by
   have h1:=hE.fz xs[k] (dR st_a.get)
   rw[ab,aj]at h1
   rw[ab,IF]
   revert h1
   cases V.fz (dR st_a.get) 6 (v xs[k])<;>simp
  have fin:∀hN:True,(p xs[k]=true->xs.findIdx p=k):=fun _ hp=>by
   rw[List.findIdx_eq fM];exact⟨hp,fun j hj=>lG j hj ai⟩
  cases hp:p xs[k]
  ·have Tb:=hp
   cases a
   ·rw[if_neg (by simp)]at hv
    have Al:z=1:=by rw[<-hz,hv];rfl
    subst Al
    rw[hv]at hg hz
    rw[hp]at Fg
    generalize v xs[k]=c at Fg lf hg hz
    (try((repeat(revert hN;revert N;apply Pn.out));refine wk (tw @a8 (tw @a0 (tw @a1 (tw @a7 (tw @hk (tw @hg (tw @hz (tw @tF @yQ)))))))) ?_;(repeat(refine Pn.mk ?_;intro N hN))))
    refine .inl ⟨_,aq.x Fg lf,?_⟩
    refine hN _ _ ?_
    clear hN N
    (try((repeat(revert hN;revert N;apply Pn.out));refine wk (tw @a8 (tw @a0 (tw @a1 @a7))) ?_;(repeat(refine Pn.mk ?_;intro N hN))))
    exact cY (sd (tw @a8 (tw @a0 (tw @a1 @a7)))) (fun _=>Tb)
   ·rw[if_pos rfl]at hv
    have ht:(e xs[k]).take z=e xs[k]:=by rw[<-hz,List.take_length]
    rw[hv]at Fg lf
    rw[hp]at Fg
    generalize e xs[k]=c at Fg lf hg hz ht
    (try((repeat(revert hN;revert N;apply Pn.out));refine wk (tw @a8 (tw @a0 (tw @a1 (tw @a7 (tw @hk (tw @hg (tw @hz (tw @ht (tw @tF (tw @yQ @Nat.le_refl)))))))))) ?_;(repeat(refine Pn.mk ?_;intro N hN))))
    refine .inl ⟨_,aq.x Fg lf,?_⟩
    refine hN _ _ ?_
    clear hN N
    (try((repeat(revert hN;revert N;apply Pn.out));refine wk (tw @a8 (tw @a0 (tw @a1 @a7))) ?_;(repeat(refine Pn.mk ?_;intro N hN))))
    exact cY (sd (tw @a8 (tw @a0 (tw @a1 @a7)))) (fun _=>Tb)
  ·have hi:=fin trivial hp
   cases a
   ·rw[if_neg (by simp)]at hv
    have Al:z=1:=by rw[<-hz,hv];rfl
    subst Al
    rw[hv]at hg hz
    rw[hp]at Fg
    generalize v xs[k]=c at Fg lf hg hz
    (try((repeat(revert hN;revert N;apply Pn.out));refine wk (tw @a8 (tw @a0 (tw @a1 (tw @a7 (tw @hk (tw @hg (tw @hz (tw @tF @yQ)))))))) ?_;(repeat(refine Pn.mk ?_;intro N hN))))
    refine .inl ⟨_,aq.x Fg lf,?_⟩
    refine hN _ _ ?_
    clear hN N
    (try((repeat(revert hN;revert N;apply Pn.out));refine wk (tw @a8 (tw @a0 (tw @a1 @a7))) ?_;(repeat(refine Pn.mk ?_;intro N hN))))
    exact cR (b:=(k:Int)) (.inl rfl) (sd @Nat.zero_add) (by rw[jX,hi,if_pos fM])
   ·rw[if_pos rfl]at hv
    have ht:(e xs[k]).take z=e xs[k]:=by rw[<-hz,List.take_length]
    rw[hv]at Fg lf
    rw[hp]at Fg
    generalize e xs[k]=c at Fg lf hg hz ht
    (try((repeat(revert hN;revert N;apply Pn.out));refine wk (tw @a8 (tw @a0 (tw @a1 (tw @a7 (tw @hk (tw @hg (tw @hz (tw @ht (tw @tF (tw @yQ @Nat.le_refl)))))))))) ?_;(repeat(refine Pn.mk ?_;intro N hN))))
    refine .inl ⟨_,aq.x Fg lf,?_⟩
    refine hN _ _ ?_
    clear hN N
    (try((repeat(revert hN;revert N;apply Pn.out));refine wk (tw @a8 (tw @a0 (tw @a1 @a7))) ?_;(repeat(refine Pn.mk ?_;intro N hN))))
    exact cR (b:=(k:Int)) (.inl rfl) (sd @Nat.zero_add) (by rw[jX,hi,if_pos fM])
 ·(try((repeat(revert hN;revert N;apply Pn.out));refine wk (tw @a8 (tw @a0 (tw @a1 (tw @a7 @hk)))) ?_;(repeat(refine Pn.mk ?_;intro N hN))))
  have hi:¬xs.findIdx p<xs.length:=by
   rw[List.findIdx_lt_length]
   rintro⟨x,hx,OM⟩
   obtain⟨j,hj,rfl⟩:=List.getElem_of_mem hx
   rw[lG j ai hj]at OM;cases OM
  exact cR (b:=-1) (.inl rfl) (sd @Nat.zero_add) (by rw[jX,if_neg hi])
theorem ko {α:Type} {e:α->List AV} {v:α->AV} {z fk gk:Nat} {a:Bool} (hE:PZ e v z a) (hc:lP P fk=some (za fk gk)) (Gh:lP P gk=some (sb gk z a)) (xs:List α) (hlen:xs.length<=1048576) (f:Nat) (di:List AV) (p:α->Bool) (Iz:di.all AV.cell=true) (Cy:∀g,de g 5 di=some di)
  (hf:∀x∈xs,aq P f (v x::di) (.bool (p x))) (IF:∀g,de g 6 di=some di):
  aq P fk [.sl (xs.map e),.fn f di] (.bool (xs.any p)):=by
 refine aq.body hc rfl fun hl n0=>?_
 try simp only[q]
 clear hl
 have hi:=sW hE Gh xs hlen f di p hf IF
 (repeat(first|((repeat(revert hN;revert N;apply Pn.out));refine wk (tw @Iz @Cy) ?_;(repeat(refine Pn.mk ?_;intro N hN)))|((try apply Or.inl);refine⟨_,aq.x (hi) (sd (tw @Iz @Cy)),?_⟩;refine hN _ _ ?_;clear hN N)))
 exact bd (b:=decide (0<=jX p xs)) (.inl rfl) (sd @Nat.zero_add) (Ip p xs)
end Go.Proofs.YtgoljkjaameagaaGreat.V

namespace Go.Proofs.YtgoljkjaameagaaGreat.V
open Go.RowKit
def qQ (P:Program) (mk:Bool):List Oper->Nat->List Nat
 |[],_=>[]
 |o::r,i=>match qh P o.op with
  |some v=>if p9 v||mk&&v.lx then i::qQ P mk r (i+1)else qQ P mk r (i+1)
  |none=>qQ P mk r (i+1)
def yT (P:Program) (ops:Array Oper) (site0:Nat) (mk:Bool) (bs:Array Nat) (hidden:List Nat):List Oper->Nat->Option (List bH)
 |[],_=>some []
 |o::r,j=>do
  let v <-qh P o.op
  let g <-CW ops o
  pure ({dst:=o.dst,op:=v,guard:=g,site:=site0+j,hid:=(hidden.filter fun i=> !(bs.getD j 0).testBit i&&(i !=j||mk&&v.lx)).map fun i=>site0+i}::(<-yT P ops site0 mk bs hidden r (j+1)))
def pI (P:Program) (md:List (Nat×Nat)) (fid:Nat):Code->Option VC
 | .skip=>some .skip
 | .region id ops draw=>if draw then(yT P ops ((fid*1000+id)*1000) (vk md id==1) (jn ops) (qQ P (vk md id==1) ops.toList 0) ops.toList 0).map (VC.eA true)else(yT P ops ((fid*1000+id)*1000) false #[] [] ops.toList 0).map (if ops.toList.any fun o=>Ng o.op then VC.NQ else VC.eA false)
 | .seq a b=>do pure (.seq (<-pI P md fid a) (<-pI P md fid b))
 | .cond c x y=>do pure (.cond (<-cO P c) (<-pI P md fid x) (<-pI P md fid y))
 | .block id c=>(pI P md fid c).map (VC.block id)
 | .loop c=>(pI P md fid c).map VC.loop
 | .exit id=>some (.exit id)
 | .ret=>some .ret
 |_=>none
def QE (P:Program) (md:List (Nat×Nat)) (f:Nat):Option Ac:=
 match P.funcs[f]? with
 |some fn=>match fn.body with
  |some c=>do
   let b <-pI P md f c
   let r <-fn.results.toList.mapM (CX P)
   pure {ntmps:=fn.ntmps,yl:=fn.params.size+fn.nfree,body:=b,res:=r}
  |none=>none
 |none=>none
theorem cfM {P:Program} (md:List (Nat×Nat)) {f:Nat} {v:Ac} (_:QE P md f=some v:=by(conv=>lhs;cbv)<;>exact rfl) (h:wW P f md=some v:=by kernel_rfl):wW P f md=some v:=h
theorem eG {P:Program} {f:Nat} {v:Ac} (_:QE P [] f=some v:=by(conv=>lhs;cbv)<;>exact rfl) (h:lP P f=some v:=by kernel_rfl):lP P f=some v:=h
def PA:Ac:=⟨77,2,(.seq (.eA false [q 4 (.dq (.k .gE)) 251000000]) (.seq (.eA false [q 7 (.dq (.t 0)) 251001000,q 8 (.dq (.t 1)) 251001001,q 9 (.build [(.int .i64 0),.bS,.bS,.bS] [(0,(1,(.t 7))),(1,(1,(.t 8)))]) 251001002,q 10 (.box (.t 9)) 251001003,q 5 (.dq (.t 10)) 251001004]) (.seq (.eA false [q 11 (.dq (.t 5)) 251002000,q 12 (.dq (.t 0)) 251002001,q 13 (.jJ [.bS] (.t 12) (.t 12)) 251002002,q 14 (.AI (.t 11)) 251002003,q 15 (.fx 2 (.t 14)) 251002004,⟨none,(.store 1 (.t 15) (.t 13)),none,251002005,[]⟩]) (.seq (.eA false [q 16 (.dq (.t 5)) 251003000,q 17 (.dq (.t 1)) 251003001,q 18 (.len (.t 17)) 251003002,q 19 (.jJ [(.int .i64 0)] (.t 18) (.t 18)) 251003003,q 20 (.AI (.t 16)) 251003004,q 21 (.fx 3 (.t 20)) 251003005,⟨none,(.store 1 (.t 21) (.t 19)),none,251003006,[]⟩]) (.seq (.seq (.eA false [q 6 (.dq (.k (.int .i64 0))) 251004000]) (.block 0 (.loop (.seq (.seq (.eA false [q 22 (.dq (.t 6)) 251005000,q 23 (.dq (.t 1)) 251005001,q 24 (.len (.t 23)) 251005002,q 25 (.bin .lss .i64 (.t 22) (.t 24)) 251005003]) (.cond (.t 25) .skip (.exit 0))) (.seq (.block 1 (.seq (.one ⟨(some 28),(.dq (.t 5)),none,251007000,[251007021,251007022,251007024]⟩ (.one ⟨(some 29),(.AI (.t 28)),none,251007001,[251007021,251007022,251007024]⟩ (.one ⟨(some 30),(.fx 2 (.t 29)),none,251007002,[251007021,251007022,251007024]⟩ (.one ⟨(some 32),(.dq (.t 1)),none,251007004,[251007021,251007022,251007024]⟩ (.one ⟨(some 33),(.dq (.t 6)),none,251007005,[251007021,251007022,251007024]⟩ (.one ⟨(some 37),(.dq (.t 5)),none,251007009,[251007021,251007022,251007024]⟩ (.one ⟨(some 38),(.AI (.t 37)),none,251007010,[251007021,251007022,251007024]⟩ (.one ⟨(some 39),(.fx 2 (.t 38)),none,251007011,[251007021,251007022,251007024]⟩ (.one ⟨(some 40),(.load false 1 (.t 39)),none,251007012,[251007021,251007022,251007024]⟩ (.one ⟨(some 41),(.dq (.t 1)),none,251007013,[251007021,251007022,251007024]⟩ (.one ⟨(some 42),(.dq (.t 6)),none,251007014,[251007021,251007022,251007024]⟩ (.one ⟨(some 43),(.ea 3 (.t 41) (.t 42)),none,251007015,[251007021,251007022,251007024]⟩ (.one ⟨(some 44),(.fx 0 (.t 43)),none,251007016,[251007021,251007022,251007024]⟩ (.one ⟨(some 45),(.load false 1 (.t 44)),none,251007017,[251007021,251007022,251007024]⟩ (.one ⟨(some 46),(.ea 1 (.t 40) (.t 45)),none,251007018,[251007021,251007022,251007024]⟩ (.one ⟨(some 47),(.load false 1 (.t 46)),none,251007019,[251007021,251007022,251007024]⟩ (.one ⟨(some 48),(.dq (.t 6)),none,251007020,[251007021,251007022,251007024]⟩ (.one ⟨(some 49),(.lr 1 1 [(.t 48)]),none,251007021,[251007022,251007024]⟩ (.both (.one ⟨(some 31),(.load false 1 (.t 30)),none,251007003,[251007021,251007022,251007024]⟩ (.both (.one ⟨(some 34),(.ea 3 (.t 32) (.t 33)),none,251007006,[251007021,251007022,251007024]⟩ (.one ⟨(some 35),(.fx 0 (.t 34)),none,251007007,[251007021,251007022,251007024]⟩ (.both (.one ⟨(some 36),(.load false 1 (.t 35)),none,251007008,[251007021,251007022,251007024]⟩ (.one ⟨(some 50),(.append 1 (.t 47) (.t 49)),none,251007022,[251007024]⟩ (.one ⟨(some 51),(.ea 1 (.t 31) (.t 36)),none,251007023,[251007024]⟩ (.one ⟨none,(.store 1 (.t 51) (.t 50)),none,251007024,[]⟩ (.eA false []))))) (.one ⟨(some 50),(.append 1 (.t 47) (.t 49)),none,251007022,[251007024]⟩ (.one ⟨(some 36),(.load false 1 (.t 35)),none,251007008,[251007021,251007022,251007024]⟩ (.one ⟨(some 51),(.ea 1 (.t 31) (.t 36)),none,251007023,[251007024]⟩ (.one ⟨none,(.store 1 (.t 51) (.t 50)),none,251007024,[]⟩ (.eA false [])))))))) (.one ⟨(some 50),(.append 1 (.t 47) (.t 49)),none,251007022,[251007024]⟩ (.one ⟨(some 34),(.ea 3 (.t 32) (.t 33)),none,251007006,[251007021,251007022,251007024]⟩ (.one ⟨(some 35),(.fx 0 (.t 34)),none,251007007,[251007021,251007022,251007024]⟩ (.one ⟨(some 36),(.load false 1 (.t 35)),none,251007008,[251007021,251007022,251007024]⟩ (.one ⟨(some 51),(.ea 1 (.t 31) (.t 36)),none,251007023,[251007024]⟩ (.one ⟨none,(.store 1 (.t 51) (.t 50)),none,251007024,[]⟩ (.eA false []))))))))) (.both (.one ⟨(some 34),(.ea 3 (.t 32) (.t 33)),none,251007006,[251007021,251007022,251007024]⟩ (.one ⟨(some 35),(.fx 0 (.t 34)),none,251007007,[251007021,251007022,251007024]⟩ (.both (.one ⟨(some 31),(.load false 1 (.t 30)),none,251007003,[251007021,251007022,251007024]⟩ (.both (.one ⟨(some 36),(.load false 1 (.t 35)),none,251007008,[251007021,251007022,251007024]⟩ (.one ⟨(some 50),(.append 1 (.t 47) (.t 49)),none,251007022,[251007024]⟩ (.one ⟨(some 51),(.ea 1 (.t 31) (.t 36)),none,251007023,[251007024]⟩ (.one ⟨none,(.store 1 (.t 51) (.t 50)),none,251007024,[]⟩ (.eA false []))))) (.one ⟨(some 50),(.append 1 (.t 47) (.t 49)),none,251007022,[251007024]⟩ (.one ⟨(some 36),(.load false 1 (.t 35)),none,251007008,[251007021,251007022,251007024]⟩ (.one ⟨(some 51),(.ea 1 (.t 31) (.t 36)),none,251007023,[251007024]⟩ (.one ⟨none,(.store 1 (.t 51) (.t 50)),none,251007024,[]⟩ (.eA false []))))))) (.both (.one ⟨(some 36),(.load false 1 (.t 35)),none,251007008,[251007021,251007022,251007024]⟩ (.both (.one ⟨(some 31),(.load false 1 (.t 30)),none,251007003,[251007021,251007022,251007024]⟩ (.one ⟨(some 50),(.append 1 (.t 47) (.t 49)),none,251007022,[251007024]⟩ (.one ⟨(some 51),(.ea 1 (.t 31) (.t 36)),none,251007023,[251007024]⟩ (.one ⟨none,(.store 1 (.t 51) (.t 50)),none,251007024,[]⟩ (.eA false []))))) (.one ⟨(some 50),(.append 1 (.t 47) (.t 49)),none,251007022,[251007024]⟩ (.one ⟨(some 31),(.load false 1 (.t 30)),none,251007003,[251007021,251007022,251007024]⟩ (.one ⟨(some 51),(.ea 1 (.t 31) (.t 36)),none,251007023,[251007024]⟩ (.one ⟨none,(.store 1 (.t 51) (.t 50)),none,251007024,[]⟩ (.eA false []))))))) (.one ⟨(some 50),(.append 1 (.t 47) (.t 49)),none,251007022,[251007024]⟩ (.one ⟨(some 31),(.load false 1 (.t 30)),none,251007003,[251007021,251007022,251007024]⟩ (.one ⟨(some 36),(.load false 1 (.t 35)),none,251007008,[251007021,251007022,251007024]⟩ (.one ⟨(some 51),(.ea 1 (.t 31) (.t 36)),none,251007023,[251007024]⟩ (.one ⟨none,(.store 1 (.t 51) (.t 50)),none,251007024,[]⟩ (.eA false [])))))))))) (.one ⟨(some 50),(.append 1 (.t 47) (.t 49)),none,251007022,[251007024]⟩ (.one ⟨(some 31),(.load false 1 (.t 30)),none,251007003,[251007021,251007022,251007024]⟩ (.one ⟨(some 34),(.ea 3 (.t 32) (.t 33)),none,251007006,[251007021,251007022,251007024]⟩ (.one ⟨(some 35),(.fx 0 (.t 34)),none,251007007,[251007021,251007022,251007024]⟩ (.one ⟨(some 36),(.load false 1 (.t 35)),none,251007008,[251007021,251007022,251007024]⟩ (.one ⟨(some 51),(.ea 1 (.t 31) (.t 36)),none,251007023,[251007024]⟩ (.one ⟨none,(.store 1 (.t 51) (.t 50)),none,251007024,[]⟩ (.eA false [])))))))))))))))))))))))))))) (.one ⟨(some 52),(.dq (.t 5)),none,251008000,[251008021,251008022,251008024]⟩ (.one ⟨(some 53),(.AI (.t 52)),none,251008001,[251008021,251008022,251008024]⟩ (.one ⟨(some 54),(.fx 2 (.t 53)),none,251008002,[251008021,251008022,251008024]⟩ (.one ⟨(some 56),(.dq (.t 1)),none,251008004,[251008021,251008022,251008024]⟩ (.one ⟨(some 57),(.dq (.t 6)),none,251008005,[251008021,251008022,251008024]⟩ (.one ⟨(some 61),(.dq (.t 5)),none,251008009,[251008021,251008022,251008024]⟩ (.one ⟨(some 62),(.AI (.t 61)),none,251008010,[251008021,251008022,251008024]⟩ (.one ⟨(some 63),(.fx 2 (.t 62)),none,251008011,[251008021,251008022,251008024]⟩ (.one ⟨(some 64),(.load false 1 (.t 63)),none,251008012,[251008021,251008022,251008024]⟩ (.one ⟨(some 65),(.dq (.t 1)),none,251008013,[251008021,251008022,251008024]⟩ (.one ⟨(some 66),(.dq (.t 6)),none,251008014,[251008021,251008022,251008024]⟩ (.one ⟨(some 67),(.ea 3 (.t 65) (.t 66)),none,251008015,[251008021,251008022,251008024]⟩ (.one ⟨(some 68),(.fx 1 (.t 67)),none,251008016,[251008021,251008022,251008024]⟩ (.one ⟨(some 69),(.load false 1 (.t 68)),none,251008017,[251008021,251008022,251008024]⟩ (.one ⟨(some 70),(.ea 1 (.t 64) (.t 69)),none,251008018,[251008021,251008022,251008024]⟩ (.one ⟨(some 71),(.load false 1 (.t 70)),none,251008019,[251008021,251008022,251008024]⟩ (.one ⟨(some 72),(.dq (.t 6)),none,251008020,[251008021,251008022,251008024]⟩ (.one ⟨(some 73),(.lr 1 1 [(.t 72)]),none,251008021,[251008022,251008024]⟩ (.both (.one ⟨(some 55),(.load false 1 (.t 54)),none,251008003,[251008021,251008022,251008024]⟩ (.both (.one ⟨(some 58),(.ea 3 (.t 56) (.t 57)),none,251008006,[251008021,251008022,251008024]⟩ (.one ⟨(some 59),(.fx 1 (.t 58)),none,251008007,[251008021,251008022,251008024]⟩ (.both (.one ⟨(some 60),(.load false 1 (.t 59)),none,251008008,[251008021,251008022,251008024]⟩ (.one ⟨(some 74),(.append 1 (.t 71) (.t 73)),none,251008022,[251008024]⟩ (.one ⟨(some 75),(.ea 1 (.t 55) (.t 60)),none,251008023,[251008024]⟩ (.one ⟨none,(.store 1 (.t 75) (.t 74)),none,251008024,[]⟩ (.eA false []))))) (.one ⟨(some 74),(.append 1 (.t 71) (.t 73)),none,251008022,[251008024]⟩ (.one ⟨(some 60),(.load false 1 (.t 59)),none,251008008,[251008021,251008022,251008024]⟩ (.one ⟨(some 75),(.ea 1 (.t 55) (.t 60)),none,251008023,[251008024]⟩ (.one ⟨none,(.store 1 (.t 75) (.t 74)),none,251008024,[]⟩ (.eA false [])))))))) (.one ⟨(some 74),(.append 1 (.t 71) (.t 73)),none,251008022,[251008024]⟩ (.one ⟨(some 58),(.ea 3 (.t 56) (.t 57)),none,251008006,[251008021,251008022,251008024]⟩ (.one ⟨(some 59),(.fx 1 (.t 58)),none,251008007,[251008021,251008022,251008024]⟩ (.one ⟨(some 60),(.load false 1 (.t 59)),none,251008008,[251008021,251008022,251008024]⟩ (.one ⟨(some 75),(.ea 1 (.t 55) (.t 60)),none,251008023,[251008024]⟩ (.one ⟨none,(.store 1 (.t 75) (.t 74)),none,251008024,[]⟩ (.eA false []))))))))) (.both (.one ⟨(some 58),(.ea 3 (.t 56) (.t 57)),none,251008006,[251008021,251008022,251008024]⟩ (.one ⟨(some 59),(.fx 1 (.t 58)),none,251008007,[251008021,251008022,251008024]⟩ (.both (.one ⟨(some 55),(.load false 1 (.t 54)),none,251008003,[251008021,251008022,251008024]⟩ (.both (.one ⟨(some 60),(.load false 1 (.t 59)),none,251008008,[251008021,251008022,251008024]⟩ (.one ⟨(some 74),(.append 1 (.t 71) (.t 73)),none,251008022,[251008024]⟩ (.one ⟨(some 75),(.ea 1 (.t 55) (.t 60)),none,251008023,[251008024]⟩ (.one ⟨none,(.store 1 (.t 75) (.t 74)),none,251008024,[]⟩ (.eA false []))))) (.one ⟨(some 74),(.append 1 (.t 71) (.t 73)),none,251008022,[251008024]⟩ (.one ⟨(some 60),(.load false 1 (.t 59)),none,251008008,[251008021,251008022,251008024]⟩ (.one ⟨(some 75),(.ea 1 (.t 55) (.t 60)),none,251008023,[251008024]⟩ (.one ⟨none,(.store 1 (.t 75) (.t 74)),none,251008024,[]⟩ (.eA false []))))))) (.both (.one ⟨(some 60),(.load false 1 (.t 59)),none,251008008,[251008021,251008022,251008024]⟩ (.both (.one ⟨(some 55),(.load false 1 (.t 54)),none,251008003,[251008021,251008022,251008024]⟩ (.one ⟨(some 74),(.append 1 (.t 71) (.t 73)),none,251008022,[251008024]⟩ (.one ⟨(some 75),(.ea 1 (.t 55) (.t 60)),none,251008023,[251008024]⟩ (.one ⟨none,(.store 1 (.t 75) (.t 74)),none,251008024,[]⟩ (.eA false []))))) (.one ⟨(some 74),(.append 1 (.t 71) (.t 73)),none,251008022,[251008024]⟩ (.one ⟨(some 55),(.load false 1 (.t 54)),none,251008003,[251008021,251008022,251008024]⟩ (.one ⟨(some 75),(.ea 1 (.t 55) (.t 60)),none,251008023,[251008024]⟩ (.one ⟨none,(.store 1 (.t 75) (.t 74)),none,251008024,[]⟩ (.eA false []))))))) (.one ⟨(some 74),(.append 1 (.t 71) (.t 73)),none,251008022,[251008024]⟩ (.one ⟨(some 55),(.load false 1 (.t 54)),none,251008003,[251008021,251008022,251008024]⟩ (.one ⟨(some 60),(.load false 1 (.t 59)),none,251008008,[251008021,251008022,251008024]⟩ (.one ⟨(some 75),(.ea 1 (.t 55) (.t 60)),none,251008023,[251008024]⟩ (.one ⟨none,(.store 1 (.t 75) (.t 74)),none,251008024,[]⟩ (.eA false [])))))))))) (.one ⟨(some 74),(.append 1 (.t 71) (.t 73)),none,251008022,[251008024]⟩ (.one ⟨(some 55),(.load false 1 (.t 54)),none,251008003,[251008021,251008022,251008024]⟩ (.one ⟨(some 58),(.ea 3 (.t 56) (.t 57)),none,251008006,[251008021,251008022,251008024]⟩ (.one ⟨(some 59),(.fx 1 (.t 58)),none,251008007,[251008021,251008022,251008024]⟩ (.one ⟨(some 60),(.load false 1 (.t 59)),none,251008008,[251008021,251008022,251008024]⟩ (.one ⟨(some 75),(.ea 1 (.t 55) (.t 60)),none,251008023,[251008024]⟩ (.one ⟨none,(.store 1 (.t 75) (.t 74)),none,251008024,[]⟩ (.eA false [])))))))))))))))))))))))))))))) (.eA false [q 26 (.dq (.t 6)) 251006000,q 27 (.bin .add .i64 (.t 26) (.k (.int .i64 1))) 251006001,q 6 (.dq (.t 27)) 251006002])))))) (.seq (.eA false [q 76 (.dq (.t 5)) 251009000,q 4 (.dq (.t 76)) 251009001]) .ret)))))),[(.tmp 4)]⟩
theorem NO:wW Tryz.prog 251 [(7,2),(8,2)]=some PA:=by kernel_rfl
def PD:Ac:=⟨118,2,(.seq (.eA false [q 4 (.dq (.k .bS)) 320000000]) (.seq (.eA false [q 17 (.dq (.t 0)) 320001000,q 18 (.jJ [.gE] (.t 17) (.t 17)) 320001001,q 5 (.dq (.t 18)) 320001002]) (.seq (.seq (.eA false [q 19 (.dq (.t 5)) 320002000,q 20 (.len (.t 19)) 320002001,q 21 (.dq (.k (.int .i64 0))) 320002002]) (.block 0 (.loop (.seq (.eA false [q 22 (.bin .lss .i64 (.t 21) (.t 20)) 320003000]) (.seq (.cond (.t 22) .skip (.exit 0)) (.seq (.block 1 (.seq (.eA false [q 23 (.dq (.t 21)) 320004000,q 6 (.dq (.t 23)) 320004001]) (.eA false [q 24 (.dq (.t 5)) 320005000,q 25 (.dq (.t 6)) 320005001,q 26 (.dq (.t 6)) 320005002,q 27 (.build [.gE,(.int .i64 0)] [(1,(1,(.t 26)))]) 320005003,q 28 (.box (.t 27)) 320005004,q 29 (.ea 1 (.t 24) (.t 25)) 320005005,⟨none,(.store 1 (.t 29) (.t 28)),none,320005006,[]⟩]))) (.eA false [q 30 (.bin .add .i64 (.t 21) (.k (.int .i64 1))) 320006000,q 21 (.dq (.t 30)) 320006001]))))))) (.seq (.seq (.eA false [q 31 (.dq (.t 1)) 320007000,q 32 (.len (.t 31)) 320007001,q 33 (.dq (.k (.int .i64 0))) 320007002]) (.block 2 (.loop (.seq (.eA false [q 34 (.bin .lss .i64 (.t 33) (.t 32)) 320008000]) (.seq (.cond (.t 34) .skip (.exit 2)) (.seq (.block 3 (.seq (.eA false [q 35 (.ea 3 (.t 31) (.t 33)) 320009000,q 36 (.load true 3 (.t 35)) 320009001,q 8 (.new [(.int .i64 0),(.int .i64 0),(.int .i64 0)]) 320009002,⟨none,(.store 3 (.t 8) (.t 36)),none,320009003,[]⟩]) (.seq (.one (q 37 (.dq (.t 5)) 320010000) (.one (q 38 (.fx 0 (.t 8)) 320010001) (.one (q 39 (.load false 1 (.t 38)) 320010002) (.one (q 40 (.ea 1 (.t 37) (.t 39)) 320010003) (.one (q 41 (.load false 1 (.t 40)) 320010004) (.one (q 43 (.dq (.t 5)) 320010006) (.one (q 44 (.fx 1 (.t 8)) 320010007) (.both (.one (q 42 (.call 334 [(.t 41)]) 320010005) (.one (q 45 (.load false 1 (.t 44)) 320010008) (.one (q 46 (.ea 1 (.t 43) (.t 45)) 320010009) (.one (q 47 (.load false 1 (.t 46)) 320010010) (.one (q 48 (.call 334 [(.t 47)]) 320010011) (.one (q 9 (.dq (.t 42)) 320010012) (.one (q 10 (.dq (.t 48)) 320010013) (.eA false [])))))))) (.one (q 45 (.load false 1 (.t 44)) 320010008) (.both (.one (q 42 (.call 334 [(.t 41)]) 320010005) (.one (q 46 (.ea 1 (.t 43) (.t 45)) 320010009) (.one (q 47 (.load false 1 (.t 46)) 320010010) (.one (q 48 (.call 334 [(.t 47)]) 320010011) (.one (q 9 (.dq (.t 42)) 320010012) (.one (q 10 (.dq (.t 48)) 320010013) (.eA false []))))))) (.one (q 46 (.ea 1 (.t 43) (.t 45)) 320010009) (.both (.one (q 42 (.call 334 [(.t 41)]) 320010005) (.one (q 47 (.load false 1 (.t 46)) 320010010) (.one (q 48 (.call 334 [(.t 47)]) 320010011) (.one (q 9 (.dq (.t 42)) 320010012) (.one (q 10 (.dq (.t 48)) 320010013) (.eA false [])))))) (.one (q 47 (.load false 1 (.t 46)) 320010010) (.one (q 42 (.call 334 [(.t 41)]) 320010005) (.one (q 48 (.call 334 [(.t 47)]) 320010011) (.one (q 9 (.dq (.t 42)) 320010012) (.one (q 10 (.dq (.t 48)) 320010013) (.eA false [])))))))))))))))))) (.block 4 (.seq (.eA true [q 50 (.dq (.t 9)) 320011000,q 51 (.AI (.t 50)) 320011001,q 52 (.fx 1 (.t 51)) 320011002,q 53 (.load false 1 (.t 52)) 320011003,q 54 (.dq (.t 10)) 320011004,q 55 (.AI (.t 54)) 320011005,q 56 (.fx 1 (.t 55)) 320011006,q 57 (.load false 1 (.t 56)) 320011007,q 58 (.bin .lss .i64 (.t 53) (.t 57)) 320011008,q 49 (.dq (.t 58)) 320011009]) (.cond (.t 49) (.eA false [q 59 (.dq (.t 10)) 320012000,q 60 (.dq (.t 9)) 320012001,q 61 (.AI (.t 59)) 320012002,q 62 (.fx 0 (.t 61)) 320012003,⟨none,(.store 1 (.t 62) (.t 60)),none,320012004,[]⟩]) (.seq (.eA true [q 64 (.dq (.t 10)) 320013000,q 65 (.AI (.t 64)) 320013001,q 66 (.fx 1 (.t 65)) 320013002,q 67 (.load false 1 (.t 66)) 320013003,q 68 (.dq (.t 9)) 320013004,q 69 (.AI (.t 68)) 320013005,q 70 (.fx 1 (.t 69)) 320013006,q 71 (.load false 1 (.t 70)) 320013007,q 72 (.bin .lss .i64 (.t 67) (.t 71)) 320013008,q 63 (.dq (.t 72)) 320013009]) (.cond (.t 63) (.eA false [q 73 (.dq (.t 9)) 320014000,q 74 (.dq (.t 10)) 320014001,q 75 (.AI (.t 73)) 320014002,q 76 (.fx 0 (.t 75)) 320014003,⟨none,(.store 1 (.t 76) (.t 74)),none,320014004,[]⟩]) .skip)))))))) (.eA false [q 77 (.bin .add .i64 (.t 33) (.k (.int .i64 1))) 320015000,q 33 (.dq (.t 77)) 320015001]))))))) (.seq (.eA false [q 11 (.dq (.k .bS)) 320016000]) (.seq (.eA false [⟨(some 78),(.mq (.new ⟨false,[.tI]⟩) []),none,320017000,[]⟩,q 12 (.dq (.t 78)) 320017001]) (.seq (.seq (.eA false [q 79 (.dq (.t 5)) 320018000,q 80 (.len (.t 79)) 320018001,q 81 (.dq (.k (.int .i64 0))) 320018002]) (.block 5 (.loop (.seq (.eA false [q 82 (.bin .lss .i64 (.t 81) (.t 80)) 320019000]) (.seq (.cond (.t 82) .skip (.exit 5)) (.seq (.block 6 (.seq (.eA false [q 83 (.dq (.t 81)) 320020000,q 84 (.ea 1 (.t 79) (.t 81)) 320020001,q 85 (.load false 1 (.t 84)) 320020002,q 13 (.dq (.t 83)) 320020003,q 14 (.dq (.t 85)) 320020004]) (.seq (.eA false [q 87 (.dq (.t 12)) 320021000,q 88 (.dq (.t 14)) 320021001,q 89 (.call 334 [(.t 88)]) 320021002,q 90 (.AI (.t 89)) 320021003,q 91 (.fx 1 (.t 90)) 320021004,q 92 (.load false 1 (.t 91)) 320021005,⟨(some 93),(.mq (.look ⟨false,[.tI]⟩ true (.int .i64 0)) [(.t 87),(.t 92)]),none,320021006,[]⟩,q 86 (.dq (.t 93)) 320021007,q 94 (.extract 0 (.t 86)) 320021008,q 95 (.extract 1 (.t 86)) 320021009,q 15 (.dq (.t 94)) 320021010,q 16 (.dq (.t 95)) 320021011]) (.seq (.seq (.eA false [q 96 (.dq (.t 16)) 320022000,q 97 (.not (.t 96)) 320022001]) (.cond (.t 97) (.seq (.eA false [q 98 (.dq (.t 11)) 320023000,q 99 (.len (.t 98)) 320023001,q 15 (.dq (.t 99)) 320023002]) (.seq (.eA false [q 100 (.dq (.t 12)) 320024000,q 101 (.dq (.t 13)) 320024001,q 102 (.dq (.t 15)) 320024002,⟨none,(.mw (.set ⟨false,[.tI]⟩) [(.t 100),(.t 101),(.t 102)]),none,320024003,[]⟩]) (.eA false [q 103 (.dq (.t 11)) 320025000,q 104 (.lr 1 1 [(.k .bS)]) 320025001,q 105 (.append 1 (.t 103) (.t 104)) 320025002,q 11 (.dq (.t 105)) 320025003]))) .skip)) (.eA false [q 106 (.dq (.t 11)) 320026000,q 107 (.dq (.t 15)) 320026001,q 108 (.dq (.t 11)) 320026002,q 109 (.dq (.t 15)) 320026003,q 110 (.ea 1 (.t 108) (.t 109)) 320026004,q 111 (.load false 1 (.t 110)) 320026005,q 112 (.dq (.t 13)) 320026006,q 113 (.lr 1 1 [(.t 112)]) 320026007,q 114 (.append 1 (.t 111) (.t 113)) 320026008,q 115 (.ea 1 (.t 106) (.t 107)) 320026009,⟨none,(.store 1 (.t 115) (.t 114)),none,320026010,[]⟩]))))) (.eA false [q 116 (.bin .add .i64 (.t 81) (.k (.int .i64 1))) 320027000,q 81 (.dq (.t 116)) 320027001]))))))) (.seq (.eA false [q 117 (.dq (.t 11)) 320028000,q 4 (.dq (.t 117)) 320028001]) .ret)))))))),[(.tmp 4)]⟩
theorem NP:wW Tryz.prog 320 [(10,2)]=some PD:=by kernel_rfl
end Go.Proofs.YtgoljkjaameagaaGreat.V

namespace Go.Proofs.YtgoljkjaameagaaGreat.V
open Go.RowKit
attribute [local irreducible] dQ wpOps ft Call
attribute [local go_sem] aA eV ef e9 e8 cZ upd bQ K.av cr AV.cells AV.cell rowOf rowsOf part ld rowAt bD bL dm dD fE bu cK dO fa eF db dH cI cH dw dx bz aQ cz bx cD cC dF dI dG cw bC cJ dE bw az cF bZ fD bj cq bB aJ cX aX dn AV.undef bp br dy dC du dz cm dM dP bU dK dJ cE cG List.getD_cons_zero List.getD_cons_succ List.getD_nil List.all_cons List.all_nil Bool.and_true Bool.true_and Bool.and_self Bool.not_true Bool.not_false Option.map_some Option.map_none Option.bind_some Option.bind_none List.length_cons List.length_nil List.take_succ_cons List.take_zero List.take_nil List.drop_succ_cons List.drop_zero List.drop_nil List.head?_cons List.map_cons List.map_nil List.getElem?_cons_zero List.getElem?_cons_succ List.cons_append List.nil_append List.append_nil List.length_map List.set_cons_zero List.set_cons_succ Nat.reduceMul eq_self Int.toNat_natCast Int.natCast_nonneg and_self true_and and_true decide_true decide_false Bool.false_eq_true Nat.zero_add Nat.add_zero List.contains_cons List.contains_nil Bool.or_false Bool.false_or beq_self_eq_true Nat.reduceBEq ne_eq not_true_eq_false not_false_eq_true Id.mk.injEq false_and and_false Nat.reduceLT Int.reduceLE Int.reduceLT Int.reduceToNat Int.reduceNeg Int.reduceAdd Nat.le_refl List.length_append beq_true beq_false Bool.not_eq_eq_eq_not or_false false_or dR ab aj ay bo bJ aD aV aH aU cu bq
theorem Bc (x:fH) (g:Rows):de g 6 [.agg (cL x)]=some [.agg (cL x)]:=by simp[cL,ab,aj,aV,bo,ay]
theorem Bd (x:eW) (g:Rows):de g 6 [.agg (bV x)]=some [.agg (bV x)]:=by simp[bV,ab,aj,aV,bo,bJ]
theorem Di (x:ae) (g:Rows):de g 6 [.agg (aa x)]=some [.agg (aa x)]:=by simp[aa,ab,aj,aV,ay]
theorem gj {n:Nat} {l:Int} (h:(n:Int)<=l):wN n l=l-n:=if_pos h
theorem fX {n:Nat} {l:Int} (h:¬(n:Int)<=l):wN n l= -1:=if_neg h
def j7 (t:eW):Nat:=t.aW.size+t.b4.length
def tE (s:ax):Nat:=(s.aw.length+(s.aw.map fun g=>g.aW.size).sum)+(s.ah.length+(s.ah.map j7).sum)
def j3 (s:dc):Nat:=tE s.aM+s.cj.ah.length
def fZ (s:ax):Prop:=(∀g∈s.aw,g.aW.size<=9223372036854775807)/\∀t∈s.ah,t.aW.size<=9223372036854775807
theorem JZ (g:fH) (l:Int) (h0:0<=l) (h1:l<=1048576) (hs:g.aW.size<=9223372036854775807):aq Tryz.prog 187 [.agg (cL g),.int .i64 l] (.int .i64 (wN g.aW.size l)):=by
 refine aq.body eG rfl fun hl n0=>?_
 clear hl
 have hw:IntKind.i64.wrap (l-(g.aW.size:Int))=l-g.aW.size:=bP ai
 by_cases hf:(g.aW.size:Int)<=l
 ·have lI:¬l-(g.aW.size:Int)<0:=ai
  (try((repeat(revert hN;revert N;apply Pn.out));refine wk (tw @cL.eq_1 (tw @hw @lI)) ?_;(repeat(refine Pn.mk ?_;intro N hN))))
  exact cR (b:=l-(g.aW.size:Int)) (.inl rfl) (sd @Nat.zero_add) (gj hf).symm
 ·have lI:l-(g.aW.size:Int)<0:=ai
  (try((repeat(revert hN;revert N;apply Pn.out));refine wk (tw @cL.eq_1 (tw @hw @lI)) ?_;(repeat(refine Pn.mk ?_;intro N hN))))
  exact cR (b:=-1) (.inl rfl) (sd @Nat.zero_add) (fX hf).symm
theorem Ci (xs:List Int) (l:Int) (h0:0<=l) (h1:l<=1048576):aq Tryz.prog 140 [.sl (xs.map bt),.int .i64 l] (.int .i64 (wN xs.length l)):=by
 have h:=J1 (show lP Tryz.prog 140=some (J0 140) by kernel_rfl) (xs.map bt) l h0 h1
 rwa [List.length_map]at h
theorem J4 (t:eW) (l:Int) (h0:0<=l) (h1:l<=1048576) (hs:t.aW.size<=9223372036854775807):aq Tryz.prog 188 [.agg (bV t),.int .i64 l] (.int .i64 (wN (j7 t) l)):=by
 refine aq.body eG rfl fun hl n0=>?_
 clear hl
 have hw:IntKind.i64.wrap (l-(t.aW.size:Int))=l-t.aW.size:=bP ai
 by_cases hf:(t.aW.size:Int)<=l
 ·have lI:¬l-(t.aW.size:Int)<0:=ai
  have hc:=Ci t.b4 (l-t.aW.size) ai ai
  by_cases hg:(t.b4.length:Int)<=l-t.aW.size
  ·rw[gj hg]at hc
   have Fa:¬l-(t.aW.size:Int)-(t.b4.length:Int)<0:=ai
   (repeat(first|((repeat(revert hN;revert N;apply Pn.out));refine wk (tw @bV.eq_1 (tw @hw (tw @lI @Fa))) ?_;(repeat(refine Pn.mk ?_;intro N hN)))|((try apply Or.inl);refine⟨_,aq.x (hc) (sd (tw @bV.eq_1 (tw @hw (tw @lI @Fa)))),?_⟩;refine hN _ _ ?_;clear hN N)))
   exact cR (b:=l-(t.aW.size:Int)-(t.b4.length:Int)) (.inl rfl) (sd @Nat.zero_add) (by rw[gj (by unfold j7;omega)];unfold j7;omega)
  ·rw[fX hg]at hc
   (repeat(first|((repeat(revert hN;revert N;apply Pn.out));refine wk (tw @bV.eq_1 (tw @hw @lI)) ?_;(repeat(refine Pn.mk ?_;intro N hN)))|((try apply Or.inl);refine⟨_,aq.x (hc) (sd (tw @bV.eq_1 (tw @hw @lI))),?_⟩;refine hN _ _ ?_;clear hN N)))
   exact cR (b:=-1) (.inl rfl) (sd @Nat.zero_add) (fX (by unfold j7;omega)).symm
 ·have lI:l-(t.aW.size:Int)<0:=ai
  (try((repeat(revert hN;revert N;apply Pn.out));refine wk (tw @bV.eq_1 (tw @hw @lI)) ?_;(repeat(refine Pn.mk ?_;intro N hN))))
  exact cR (b:=-1) (.inl rfl) (sd @Nat.zero_add) (fX (by unfold j7;omega)).symm
theorem He (xs:List fH) (l:Int) (h0:0<=l) (h1:l<=1048576) (hs:∀g∈xs,g.aW.size<=9223372036854775807):aq Tryz.prog 120 [.sl (xs.map cL),.int .i64 l] (.int .i64 (wN (xs.length+(xs.map fun g=>g.aW.size).sum) l)):=
 J3 (fun g:fH=>g.aW.size) (show lP Tryz.prog 120=some (J2 120 187 2) by kernel_rfl) (fun _=>rfl) Bc xs l h0 h1 fun x hx l a b=>JZ x l a b (hs x hx)
theorem Hf (xs:List eW) (l:Int) (h0:0<=l) (h1:l<=1048576) (hs:∀t∈xs,t.aW.size<=9223372036854775807):aq Tryz.prog 121 [.sl (xs.map bV),.int .i64 l] (.int .i64 (wN (xs.length+(xs.map j7).sum) l)):=
 J3 j7 (show lP Tryz.prog 121=some (J2 121 188 2) by kernel_rfl) (fun _=>rfl) Bd xs l h0 h1 fun x hx l a b=>J4 x l a b (hs x hx)
theorem Ew (xs:List ae) (l:Int) (h0:0<=l) (h1:l<=1048576):aq Tryz.prog 76 [.sl (xs.map aa),.int .i64 l] (.int .i64 (wN xs.length l)):=by
 have h:=J1 (show lP Tryz.prog 76=some (J0 76) by kernel_rfl) (xs.map aa) l h0 h1
 rwa [List.length_map]at h
theorem Cj (s:ax) (l:Int) (h0:0<=l) (h1:l<=1048576) (hs:fZ s):aq Tryz.prog 61 [.agg (ad s),.int .i64 l] (.int .i64 (wN (tE s) l)):=by
 refine aq.body eG rfl fun hl n0=>?_
 clear hl
 have ha:=He s.aw l h0 h1 hs.1
 have he:tE s=(s.aw.length+(s.aw.map fun g=>g.aW.size).sum)+(s.ah.length+(s.ah.map j7).sum):=rfl
 by_cases hf:((s.aw.length+(s.aw.map fun g=>g.aW.size).sum:Nat):Int)<=l
 ·rw[gj hf]at ha
  obtain⟨A,hA⟩:∃A:Int,A=l-((s.aw.length+(s.aw.map fun g=>g.aW.size).sum:Nat):Int):=⟨_,rfl⟩
  rw[<-hA]at ha
  have lI:¬A<0:=ai
  have hb:=Hf s.ah A ai ai hs.2
  by_cases hg:((s.ah.length+(s.ah.map j7).sum:Nat):Int)<=A
  ·rw[gj hg]at hb
   obtain⟨B,hB⟩:∃B:Int,B=A-((s.ah.length+(s.ah.map j7).sum:Nat):Int):=⟨_,rfl⟩
   rw[<-hB]at hb
   have Fa:¬B<0:=ai
   (repeat(first|((repeat(revert hN;revert N;apply Pn.out));refine wk (tw @ad.eq_1 (tw @lI @Fa)) ?_;(repeat(refine Pn.mk ?_;intro N hN)))|((try apply Or.inl);refine⟨_,aq.x (ha) (sd (tw @ad.eq_1 (tw @lI @Fa))),?_⟩;refine hN _ _ ?_;clear hN N)|((try apply Or.inl);refine⟨_,aq.x (hb) (sd (tw @ad.eq_1 (tw @lI @Fa))),?_⟩;refine hN _ _ ?_;clear hN N)))
   exact cR (b:=B) (.inl rfl) (sd @Nat.zero_add) (by rw[gj ai];omega)
  ·rw[fX hg]at hb
   (repeat(first|((repeat(revert hN;revert N;apply Pn.out));refine wk (tw @ad.eq_1 @lI) ?_;(repeat(refine Pn.mk ?_;intro N hN)))|((try apply Or.inl);refine⟨_,aq.x (ha) (sd (tw @ad.eq_1 @lI)),?_⟩;refine hN _ _ ?_;clear hN N)|((try apply Or.inl);refine⟨_,aq.x (hb) (sd (tw @ad.eq_1 @lI)),?_⟩;refine hN _ _ ?_;clear hN N)))
   exact cR (b:=-1) (.inl rfl) (sd @Nat.zero_add) (fX ai).symm
 ·rw[fX hf]at ha
  (repeat(first|((repeat(revert hN;revert N;apply Pn.out));refine wk @ad.eq_1 ?_;(repeat(refine Pn.mk ?_;intro N hN)))|((try apply Or.inl);refine⟨_,aq.x (ha) (sd @ad.eq_1),?_⟩;refine hN _ _ ?_;clear hN N)))
  exact cR (b:=-1) (.inl rfl) (sd @Nat.zero_add) (fX ai).symm
theorem rm (a:eu) (l:Int) (h0:0<=l) (h1:l<=1048576):aq Tryz.prog 14 [.agg (bh a),.int .i64 l] (.int .i64 (wN a.ah.length l)):=by
 refine aq.body eG rfl fun hl n0=>?_
 clear hl
 have ha:=Ew a.ah l h0 h1
 by_cases hf:(a.ah.length:Int)<=l
 ·rw[gj hf]at ha
  have lI:¬l-(a.ah.length:Int)<0:=ai
  (repeat(first|((repeat(revert hN;revert N;apply Pn.out));refine wk (tw @bh.eq_1 @lI) ?_;(repeat(refine Pn.mk ?_;intro N hN)))|((try apply Or.inl);refine⟨_,aq.x (ha) (sd (tw @bh.eq_1 @lI)),?_⟩;refine hN _ _ ?_;clear hN N)))
  exact cR (b:=l-(a.ah.length:Int)) (.inl rfl) (sd @Nat.zero_add) (gj hf).symm
 ·rw[fX hf]at ha
  (repeat(first|((repeat(revert hN;revert N;apply Pn.out));refine wk @bh.eq_1 ?_;(repeat(refine Pn.mk ?_;intro N hN)))|((try apply Or.inl);refine⟨_,aq.x (ha) (sd @bh.eq_1),?_⟩;refine hN _ _ ?_;clear hN N)))
  exact cR (b:=-1) (.inl rfl) (sd @Nat.zero_add) (fX hf).symm
theorem wg (s:dc) (l:Int) (h0:0<=l) (h1:l<=1048576) (hs:fZ s.aM):aq Tryz.prog 13 [.agg (bY s),.int .i64 l] (.int .i64 (wN (j3 s) l)):=by
 refine aq.body eG rfl fun hl n0=>?_
 clear hl
 have ha:=Cj s.aM l h0 h1 hs
 rw[ad]at ha
 have he:j3 s=tE s.aM+s.cj.ah.length:=rfl
 by_cases hf:(tE s.aM:Int)<=l
 ·rw[gj hf]at ha
  have lI:¬l-(tE s.aM:Int)<0:=ai
  have hb:=rm s.cj (l-tE s.aM) ai ai
  rw[bh]at hb
  by_cases hg:(s.cj.ah.length:Int)<=l-tE s.aM
  ·rw[gj hg]at hb
   have Fa:¬l-(tE s.aM:Int)-(s.cj.ah.length:Int)<0:=ai
   (repeat(first|((repeat(revert hN;revert N;apply Pn.out));refine wk (tw @bY.eq_1 (tw @lI @Fa)) ?_;(repeat(refine Pn.mk ?_;intro N hN)))|((try apply Or.inl);refine⟨_,aq.x (ha) (sd (tw @bY.eq_1 (tw @lI @Fa))),?_⟩;refine hN _ _ ?_;clear hN N)|((try apply Or.inl);refine⟨_,aq.x (hb) (sd (tw @bY.eq_1 (tw @lI @Fa))),?_⟩;refine hN _ _ ?_;clear hN N)))
   exact cR (b:=l-(tE s.aM:Int)-(s.cj.ah.length:Int)) (.inl rfl) (sd @Nat.zero_add) (by rw[gj ai];omega)
  ·rw[fX hg]at hb
   (repeat(first|((repeat(revert hN;revert N;apply Pn.out));refine wk (tw @bY.eq_1 @lI) ?_;(repeat(refine Pn.mk ?_;intro N hN)))|((try apply Or.inl);refine⟨_,aq.x (ha) (sd (tw @bY.eq_1 @lI)),?_⟩;refine hN _ _ ?_;clear hN N)|((try apply Or.inl);refine⟨_,aq.x (hb) (sd (tw @bY.eq_1 @lI)),?_⟩;refine hN _ _ ?_;clear hN N)))
   exact cR (b:=-1) (.inl rfl) (sd @Nat.zero_add) (fX ai).symm
 ·rw[fX hf]at ha
  (repeat(first|((repeat(revert hN;revert N;apply Pn.out));refine wk @bY.eq_1 ?_;(repeat(refine Pn.mk ?_;intro N hN)))|((try apply Or.inl);refine⟨_,aq.x (ha) (sd @bY.eq_1),?_⟩;refine hN _ _ ?_;clear hN N)))
  exact cR (b:=-1) (.inl rfl) (sd @Nat.zero_add) (fX ai).symm
theorem Mc (x:fH) (g:Rows):de g 5 (cL x)=some (cL x):=by simp[cL,ab,aj,bo,ay]
theorem Md (x:eW) (g:Rows):de g 5 (bV x)=some (bV x):=by simp[bV,ab,aj,bo,bJ]
theorem G1 (x:ae) (g:Rows):de g 5 (aa x)=some (aa x):=by simp[aa,ab,aj,ay]
theorem yG (p:aO):jU Tryz.prog 109 [.agg (ar p)] (.agg (ar p)):=by
 refine jU.body eG rfl fun hl σ=>?_
 clear hl
 (try((repeat(revert hN;revert N;apply Pn.out));refine wk @ar.eq_1 ?_;(repeat(refine Pn.mk ?_;intro N hN))))
 exact vO (.inl rfl) (vs:=[.agg (ar p)]) (by simp only[go_sem, ↓reduceIte,Nat.reduceEqDiff,Nat.reduceAdd,Nat.reduceSub,Nat.reduceLeDiff,reduceCtorEq,fj,gJ,ar]) (by simp[eX,ar,aV,ab,aj,ay])
theorem Ez (p:ae):jU Tryz.prog 149 [.agg (aa p)] (.agg (aa p)):=by
 refine jU.body eG rfl fun hl σ=>?_
 clear hl
 have h:=yG p.bE
 rw[ar]at h
 (repeat(first|((repeat(revert hN;revert N;apply Pn.out));refine wk @aa.eq_1 ?_;(repeat(refine Pn.mk ?_;intro N hN)))|((try apply Or.inl);refine⟨_,jU.x (h) _,?_⟩;refine hN _ _ ?_;clear hN N)))
 exact vO (.inl rfl) (vs:=[.agg (aa p)]) (by simp only[go_sem, ↓reduceIte,Nat.reduceEqDiff,Nat.reduceAdd,Nat.reduceSub,Nat.reduceLeDiff,reduceCtorEq,fj,gJ,aa]) (by simp[eX,aa,aV,ab,aj,ay])
theorem Kb (p:fH):jU Tryz.prog 197 [.agg (cL p)] (.agg (cL p)):=by
 refine jU.body eG rfl fun hl σ=>?_
 clear hl
 (try((repeat(revert hN;revert N;apply Pn.out));refine wk @cL.eq_1 ?_;(repeat(refine Pn.mk ?_;intro N hN))))
 exact vO (.inl rfl) (vs:=[.agg (cL p)]) (by simp only[go_sem, ↓reduceIte,Nat.reduceEqDiff,Nat.reduceAdd,Nat.reduceSub,Nat.reduceLeDiff,reduceCtorEq,fj,gJ,cL]) (by simp[eX,cL,aV,ab,aj,ay,bo])
theorem Cm (xs:List Int) (h:xs.length<=1048576):jU Tryz.prog 17 [.sl (xs.map bt)] (.sl (xs.map bt)):=
 Sa (show lP Tryz.prog 17=some (Kc 17 (.int .i64 0)) by kernel_rfl) xs h
def rP (t:eW):Prop:=t.b4.length<=1048576
theorem Ke (p:eW) (hs:rP p):jU Tryz.prog 198 [.agg (bV p)] (.agg (bV p)):=by
 refine jU.body eG rfl fun hl σ=>?_
 clear hl
 have h:=Cm p.b4 hs
 (repeat(first|((repeat(revert hN;revert N;apply Pn.out));refine wk @bV.eq_1 ?_;(repeat(refine Pn.mk ?_;intro N hN)))|((try apply Or.inl);refine⟨_,jU.x (h) _,?_⟩;refine hN _ _ ?_;clear hN N)))
 exact vO (.inl rfl) (vs:=[.agg (bV p)]) (by simp only[go_sem, ↓reduceIte,Nat.reduceEqDiff,Nat.reduceAdd,Nat.reduceSub,Nat.reduceLeDiff,reduceCtorEq,fj,gJ,bV]) (by simp[eX,bV,aV,ab,aj,bJ,bo])
theorem AS (xs ys:List Int):aq Tryz.prog 20 [.sl (xs.map bt),.sl (ys.map bt)] (.bool (decide (xs=ys))):=
 QM (show lP Tryz.prog 20=some (ML 20 .tI) by kernel_rfl) xs ys
theorem Im (a b:eW):aq Tryz.prog 212 [.agg (bV a),.agg (bV b)] (.bool (decide (a=b))):=by
 refine aq.body eG rfl fun hl n0=>?_
 clear hl
 have h:=AS a.b4 b.b4
 by_cases h1:a.aW=b.aW
 ·have e1:decide (a.aW=b.aW)=true:=decide_eq_true h1
  by_cases h2:a.b4=b.b4
  ·rw[decide_eq_true h2]at h
   (repeat(first|((repeat(revert hN;revert N;apply Pn.out));refine wk (tw @bV.eq_1 @e1) ?_;(repeat(refine Pn.mk ?_;intro N hN)))|((try apply Or.inl);refine⟨_,aq.x (h) (sd (tw @bV.eq_1 @e1)),?_⟩;refine hN _ _ ?_;clear hN N)))
   exact bd (b:=true) (.inl rfl) (sd @Nat.zero_add) (decide_eq_true (by cases a;cases b;simp_all)).symm
  ·rw[decide_eq_false h2]at h
   (repeat(first|((repeat(revert hN;revert N;apply Pn.out));refine wk (tw @bV.eq_1 @e1) ?_;(repeat(refine Pn.mk ?_;intro N hN)))|((try apply Or.inl);refine⟨_,aq.x (h) (sd (tw @bV.eq_1 @e1)),?_⟩;refine hN _ _ ?_;clear hN N)))
   exact bd (b:=false) (.inl rfl) (sd @Nat.zero_add) (decide_eq_false (by rintro rfl;exact h2 rfl)).symm
 ·have e1:decide (a.aW=b.aW)=false:=decide_eq_false h1
  (try((repeat(revert hN;revert N;apply Pn.out));refine wk (tw @bV.eq_1 @e1) ?_;(repeat(refine Pn.mk ?_;intro N hN))))
  exact bd (b:=false) (.inl rfl) (sd @Nat.zero_add) (decide_eq_false (by rintro rfl;exact h1 rfl)).symm
theorem Hk (xs:List fH) (h:xs.length<=1048576):jU Tryz.prog 129 [.sl (xs.map cL)] (.sl (xs.map cL)):=
 EA (show lP Tryz.prog 129=some (tg 129 197 2 [.str [],.int .i64 0]) by kernel_rfl) rfl (fun _=>rfl) (fun _=>rfl) Mc xs h fun x _=>Kb x
theorem Hm (xs:List eW) (h:xs.length<=1048576) (hs:∀t∈xs,rP t):jU Tryz.prog 130 [.sl (xs.map bV)] (.sl (xs.map bV)):=
 EA (show lP Tryz.prog 130=some (tg 130 198 2 [.str [],.bS]) by kernel_rfl) rfl (fun _=>rfl) (fun _=>rfl) Md xs h fun x hx=>Ke x (hs x hx)
theorem Co (xs:List ae) (h:xs.length<=1048576):jU Tryz.prog 80 [.sl (xs.map aa)] (.sl (xs.map aa)):=
 EA (show lP Tryz.prog 80=some (tg 80 149 3 [.int .i64 0,.int .i64 0,.int .i64 0]) by kernel_rfl) rfl (fun _=>rfl) (fun _=>rfl) G1 xs h fun x _=>Ez x
structure HO (s:ax):Prop where
 g:s.aw.length<=1048576
 t:s.ah.length<=1048576
 s:∀t∈s.ah,rP t
structure As (y:dc):Prop where
 s:HO y.aM
 a:y.cj.ah.length<=1048576
theorem Cq (p:ax) (hs:HO p):jU Tryz.prog 63 [.agg (ad p)] (.agg (ad p)):=by
 refine jU.body eG rfl fun hl σ=>?_
 clear hl
 have h1:=Hk p.aw hs.g
 have h2:=Hm p.ah hs.t hs.s
 (repeat(first|((repeat(revert hN;revert N;apply Pn.out));refine wk @ad.eq_1 ?_;(repeat(refine Pn.mk ?_;intro N hN)))|((try apply Or.inl);refine⟨_,jU.x (h1) _,?_⟩;refine hN _ _ ?_;clear hN N)|((try apply Or.inl);refine⟨_,jU.x (h2) _,?_⟩;refine hN _ _ ?_;clear hN N)))
 exact vO (.inl rfl) (vs:=[.agg (ad p)]) (by simp only[go_sem, ↓reduceIte,Nat.reduceEqDiff,Nat.reduceAdd,Nat.reduceSub,Nat.reduceLeDiff,reduceCtorEq,fj,gJ,ad]) (by simp[eX,ad,aV,ab,aj,bJ])
theorem rz (p:eu) (hs:p.ah.length<=1048576):jU Tryz.prog 18 [.agg (bh p)] (.agg (bh p)):=by
 refine jU.body eG rfl fun hl σ=>?_
 clear hl
 have h1:=Co p.ah hs
 (repeat(first|((repeat(revert hN;revert N;apply Pn.out));refine wk @bh.eq_1 ?_;(repeat(refine Pn.mk ?_;intro N hN)))|((try apply Or.inl);refine⟨_,jU.x (h1) _,?_⟩;refine hN _ _ ?_;clear hN N)))
 exact vO (.inl rfl) (vs:=[.agg (bh p)]) (by simp only[go_sem, ↓reduceIte,Nat.reduceEqDiff,Nat.reduceAdd,Nat.reduceSub,Nat.reduceLeDiff,reduceCtorEq,fj,gJ,bh]) (by simp[eX,bh,aV,ab,aj,bJ])
theorem wv (p:dc) (hs:As p):jU Tryz.prog 16 [.agg (bY p)] (.agg (bY p)):=by
 refine jU.body eG rfl fun hl σ=>?_
 clear hl
 have h1:=Cq p.aM hs.s
 have h2:=rz p.cj hs.a
 rw[ad]at h1
 rw[bh]at h2
 (repeat(first|((repeat(revert hN;revert N;apply Pn.out));refine wk @bY.eq_1 ?_;(repeat(refine Pn.mk ?_;intro N hN)))|((try apply Or.inl);refine⟨_,jU.x (h1) _,?_⟩;refine hN _ _ ?_;clear hN N)|((try apply Or.inl);refine⟨_,jU.x (h2) _,?_⟩;refine hN _ _ ?_;clear hN N)))
 exact vO (.inl rfl) (vs:=[.agg (bY p)]) (by simp only[go_sem, ↓reduceIte,Nat.reduceEqDiff,Nat.reduceAdd,Nat.reduceSub,Nat.reduceLeDiff,reduceCtorEq,fj,gJ,bY]) (by simp[eX,bY,aV,ab,aj,bJ,ay])
theorem Il (a b:fH):aq Tryz.prog 211 [.agg (cL a),.agg (cL b)] (.bool (decide (a=b))):=by
 refine aq.body eG rfl fun hl n0=>?_
 clear hl
 by_cases h1:a.aW=b.aW
 ·have e1:decide (a.aW=b.aW)=true:=decide_eq_true h1
  by_cases h2:a.eD=b.eD
  ·have e2:decide (a.eD=b.eD)=true:=decide_eq_true h2
   (try((repeat(revert hN;revert N;apply Pn.out));refine wk (tw @cL.eq_1 (tw @e1 @e2)) ?_;(repeat(refine Pn.mk ?_;intro N hN))))
   exact bd (b:=true) (.inl rfl) (sd @Nat.zero_add) (decide_eq_true (by cases a;cases b;simp_all)).symm
  ·have e2:decide (a.eD=b.eD)=false:=decide_eq_false h2
   (try((repeat(revert hN;revert N;apply Pn.out));refine wk (tw @cL.eq_1 (tw @e1 @e2)) ?_;(repeat(refine Pn.mk ?_;intro N hN))))
   exact bd (b:=false) (.inl rfl) (sd @Nat.zero_add) (decide_eq_false (by rintro rfl;exact h2 rfl)).symm
 ·have e1:decide (a.aW=b.aW)=false:=decide_eq_false h1
  (try((repeat(revert hN;revert N;apply Pn.out));refine wk (tw @cL.eq_1 @e1) ?_;(repeat(refine Pn.mk ?_;intro N hN))))
  exact bd (b:=false) (.inl rfl) (sd @Nat.zero_add) (decide_eq_false (by rintro rfl;exact h1 rfl)).symm
theorem F7 (a b:aO):aq Tryz.prog 112 [.agg (ar a),.agg (ar b)] (.bool (decide (a=b))):=by
 refine aq.body eG rfl fun hl n0=>?_
 clear hl
 by_cases h1:a.fb=b.fb
 ·have e1:decide (a.fb=b.fb)=true:=decide_eq_true h1
  by_cases h2:a.eT=b.eT
  ·have e2:decide (a.eT=b.eT)=true:=decide_eq_true h2
   (try((repeat(revert hN;revert N;apply Pn.out));refine wk (tw @ar.eq_1 (tw @e1 @e2)) ?_;(repeat(refine Pn.mk ?_;intro N hN))))
   exact bd (b:=true) (.inl rfl) (sd @Nat.zero_add) (decide_eq_true (by cases a;cases b;simp_all)).symm
  ·have e2:decide (a.eT=b.eT)=false:=decide_eq_false h2
   (try((repeat(revert hN;revert N;apply Pn.out));refine wk (tw @ar.eq_1 (tw @e1 @e2)) ?_;(repeat(refine Pn.mk ?_;intro N hN))))
   exact bd (b:=false) (.inl rfl) (sd @Nat.zero_add) (decide_eq_false (by rintro rfl;exact h2 rfl)).symm
 ·have e1:decide (a.fb=b.fb)=false:=decide_eq_false h1
  (try((repeat(revert hN;revert N;apply Pn.out));refine wk (tw @ar.eq_1 @e1) ?_;(repeat(refine Pn.mk ?_;intro N hN))))
  exact bd (b:=false) (.inl rfl) (sd @Nat.zero_add) (decide_eq_false (by rintro rfl;exact h1 rfl)).symm
theorem C3 (a b:ae):aq Tryz.prog 119 [.agg (aa a),.agg (aa b)] (.bool (decide (a=b))):=by
 refine aq.body eG rfl fun hl n0=>?_
 clear hl
 have h:=F7 a.bE b.bE
 rw[ar,ar]at h
 by_cases h1:a.bE=b.bE
 ·rw[decide_eq_true h1]at h
  by_cases h2:a.bR=b.bR
  ·have e2:decide (a.bR=b.bR)=true:=decide_eq_true h2
   (repeat(first|((repeat(revert hN;revert N;apply Pn.out));refine wk (tw @aa.eq_1 @e2) ?_;(repeat(refine Pn.mk ?_;intro N hN)))|((try apply Or.inl);refine⟨_,aq.x (h) (sd (tw @aa.eq_1 @e2)),?_⟩;refine hN _ _ ?_;clear hN N)))
   exact bd (b:=true) (.inl rfl) (sd @Nat.zero_add) (decide_eq_true (by cases a;cases b;simp_all)).symm
  ·have e2:decide (a.bR=b.bR)=false:=decide_eq_false h2
   (repeat(first|((repeat(revert hN;revert N;apply Pn.out));refine wk (tw @aa.eq_1 @e2) ?_;(repeat(refine Pn.mk ?_;intro N hN)))|((try apply Or.inl);refine⟨_,aq.x (h) (sd (tw @aa.eq_1 @e2)),?_⟩;refine hN _ _ ?_;clear hN N)))
   exact bd (b:=false) (.inl rfl) (sd @Nat.zero_add) (decide_eq_false (by rintro rfl;exact h2 rfl)).symm
 ·rw[decide_eq_false h1]at h
  (repeat(first|((repeat(revert hN;revert N;apply Pn.out));refine wk @aa.eq_1 ?_;(repeat(refine Pn.mk ?_;intro N hN)))|((try apply Or.inl);refine⟨_,aq.x (h) (sd @aa.eq_1),?_⟩;refine hN _ _ ?_;clear hN N)))
  exact bd (b:=false) (.inl rfl) (sd @Nat.zero_add) (decide_eq_false (by rintro rfl;exact h1 rfl)).symm
theorem F6 (xs ys:List fH):aq Tryz.prog 136 [.sl (xs.map cL),.sl (ys.map cL)] (.bool (decide (xs=ys))):=
 C4 (show lP Tryz.prog 136=some (EZ 136 211 2) by kernel_rfl) (fun _=>rfl) Bc xs ys Il
theorem F8 (xs ys:List eW):aq Tryz.prog 137 [.sl (xs.map bV),.sl (ys.map bV)] (.bool (decide (xs=ys))):=
 C4 (show lP Tryz.prog 137=some (EZ 137 212 2) by kernel_rfl) (fun _=>rfl) Bd xs ys Im
theorem nT (xs ys:List ae):aq Tryz.prog 58 [.sl (xs.map aa),.sl (ys.map aa)] (.bool (decide (xs=ys))):=
 C4 (show lP Tryz.prog 58=some (EZ 58 119 3) by kernel_rfl) (fun _=>rfl) Di xs ys C3
theorem uF (a:dc):aq Tryz.prog 21 [.agg (bY a),.agg (bY a)] (.bool true):=by
 have q1:aq Tryz.prog 66 [.agg (ad a.aM),.agg (ad a.aM)] (.bool true):=by
  refine aq.body eG rfl fun hl n0=>?_
  clear hl
  have h1:=F6 a.aM.aw a.aM.aw
  have h2:=F8 a.aM.ah a.aM.ah
  rw[decide_eq_true rfl]at h1 h2
  (repeat(first|((repeat(revert hN;revert N;apply Pn.out));refine wk @ad.eq_1 ?_;(repeat(refine Pn.mk ?_;intro N hN)))|((try apply Or.inl);refine⟨_,aq.x (h1) (sd @ad.eq_1),?_⟩;refine hN _ _ ?_;clear hN N)|((try apply Or.inl);refine⟨_,aq.x (h2) (sd @ad.eq_1),?_⟩;refine hN _ _ ?_;clear hN N)))
  exact bd (b:=true) (.inl rfl) (sd @Nat.zero_add) rfl
 have q2:aq Tryz.prog 22 [.agg (bh a.cj),.agg (bh a.cj)] (.bool true):=by
  refine aq.body eG rfl fun hl n0=>?_
  clear hl
  have h1:=nT a.cj.ah a.cj.ah
  rw[decide_eq_true rfl]at h1
  (repeat(first|((repeat(revert hN;revert N;apply Pn.out));refine wk @bh.eq_1 ?_;(repeat(refine Pn.mk ?_;intro N hN)))|((try apply Or.inl);refine⟨_,aq.x (h1) (sd @bh.eq_1),?_⟩;refine hN _ _ ?_;clear hN N)))
  exact bd (b:=true) (.inl rfl) (sd @Nat.zero_add) rfl
 rw[ad]at q1
 rw[bh]at q2
 refine aq.body eG rfl fun hl n0=>?_
 clear hl
 have e:decide (a.aC=a.aC)=true:=decide_eq_true rfl
 (repeat(first|((repeat(revert hN;revert N;apply Pn.out));refine wk (tw @bY.eq_1 @e) ?_;(repeat(refine Pn.mk ?_;intro N hN)))|((try apply Or.inl);refine⟨_,aq.x (q1) (sd (tw @bY.eq_1 @e)),?_⟩;refine hN _ _ ?_;clear hN N)|((try apply Or.inl);refine⟨_,aq.x (q2) (sd (tw @bY.eq_1 @e)),?_⟩;refine hN _ _ ?_;clear hN N)))
 exact bd (b:=true) (.inl rfl) (sd @Nat.zero_add) rfl
end Go.Proofs.YtgoljkjaameagaaGreat.V

namespace Go.Proofs.YtgoljkjaameagaaGreat.V
open Go.RowKit
def isApp:gy->Bool
 | .append .. =>true
 |_=>false
variable {P:Program} {X:fQ} {K:Env->au->Prop} {env:Env} {σ:au}
theorem Nu {draw:Bool} {o:bH} {r:List bH} (_:isApp o.op=false) (h:∀N:AV->au->Prop,(∀v s,wpOps X draw r K (upd env o.dst v) s->N v s)->if aA o.guard env then eV X draw o env σ N else N .undef σ):wpOps X draw (o::r) K env σ:=PH h
end Go.Proofs.YtgoljkjaameagaaGreat.V

namespace Go.Proofs.YtgoljkjaameagaaGreat.V
open Go.RowKit
section
variable {α:Type} {enc:α->List AV} {sz:Nat} {g g':Rows} {a:AV} {xs:List α} {ids:List Id}
end
abbrev Cv (α:Type):=Rows->List AV->α->List Id->Prop
structure wO {α:Type} (R:Cv α) (sz:Nat):Prop where
 frame:∀{g g':Rows} {cs x ids},R g cs x ids->(∀i∈ids,g' i=g i)->R g' cs x ids
 len:∀{g cs x ids},R g cs x ids->cs.length=sz
 cell:∀{g cs x ids},R g cs x ids->cs.all AV.cell=true
 live:∀{g cs x ids},R g cs x ids->∀i∈ids,∃r,g i=some r/\r.w=true/\r.sz<tC
 small:sz<tC
inductive eH {α:Type} (R:Cv α) (g:Rows):List (List AV)->List α->List Id->Prop
 |nil:eH R g [] [] []
 |cons {cs x i1 rs xs i2}:R g cs x i1->eH R g rs xs i2->eH R g (cs::rs) (x::xs) (i1++i2)
section
variable {α:Type} {R:Cv α} {sz:Nat} {g g':Rows} {rows r1 r2:List (List AV)} {xs x1 x2:List α} {ids i1 i2:List Id}
theorem eH.len (h:eH R g rows xs ids):rows.length=xs.length:=by
 induction h with
 |nil=>rfl
 |cons _ _ ih=>simp[ih]
theorem eH.frame (ok:wO R sz) (h:eH R g rows xs ids) (hf:∀i∈ids,g' i=g i):eH R g' rows xs ids:=by
 induction h with
 |nil=>exact .nil
 |cons h1 _ ih=>exact .cons (ok.frame h1 fun i hi=>hf i (List.mem_append_left _ hi)) (ih fun i hi=>hf i (List.mem_append_right _ hi))
theorem eH.app (h1:eH R g r1 x1 i1) (h2:eH R g r2 x2 i2):eH R g (r1++r2) (x1++x2) (i1++i2):=by
 induction h1 with
 |nil=>exact h2
 |cons h _ ih=>rw[List.append_assoc];exact .cons h ih
theorem eH.one {cs:List AV} {x:α} (h:R g cs x ids):eH R g [cs] [x] ids:=by
 have:=eH.cons h eH.nil
 rwa [List.append_nil]at this
theorem eH.split (h:eH R g rows xs ids):∀k (hk:k<xs.length),∃r1 cs r2 i1 ic i2,rows=r1++cs::r2/\r1.length=k/\ids=i1++(ic++i2)/\eH R g r1 (xs.take k) i1/\R g cs xs[k] ic/\eH R g r2 (xs.drop (k+1)) i2:=by
 induction h with
 |nil=>intro k hk;simp at hk
 |cons h1 h2 ih=>
  rename_i cs x j1 rs xs j2
  intro k hk
  cases k with
  |zero=>exact⟨[],cs,rs,[],j1,j2,rfl,rfl,rfl,.nil,h1,h2⟩
  |succ k=>
   obtain⟨r1,lH,r2,i1,ic,i2,rfl,hl,rfl,h3,h4,h5⟩:=ih k (by simpa using hk)
   exact⟨cs::r1,lH,r2,j1++i1,ic,i2,rfl,by simp[hl],by rw[List.append_assoc],.cons h1 h3,h4,h5⟩
theorem eH.at_ (h:eH R g rows xs ids) (k:Nat) (hk:k<xs.length):∃cs ic,rows[k]? =some cs/\R g cs xs[k] ic/\∀i∈ic,i∈ids:=by
 obtain⟨r1,cs,r2,i1,ic,i2,rfl,hl,rfl,h3,h4,h5⟩:=h.split k hk
 refine⟨cs,ic,by rw[List.getElem?_append_right ai];simp[hl],h4,fun i hi=>by simp[hi]⟩
theorem eH.fz {n:Nat} {e:α->List AV} (h:eH R g rows xs ids) (hz:∀{cs x ids},R g cs x ids->de (dR g) n cs=some (e x)):ew (dR g) n rows=some (xs.map e):=by
 induction h with
 |nil=>rw[ew];rfl
 |cons h1 _ ih=>rw[ew,hz h1,ih];rfl
end
section
variable {α:Type} {R:Cv α} {sz:Nat} {g g':Rows} {a:AV} {xs:List α} {ids:List Id}
end
variable {P:Program} {X:fQ} {K:Env->au->Prop} {env:Env} {σ:au}
def mo {α:Type} (enc:α->List AV) (sz:Nat) (x:AV) (g:Rows) (S:Id->Prop) (L:List α):Prop:=∃o:Id,S o/\x=.own o 0 L.length/\g o=some ⟨true,sz,L.map enc⟩
section
variable {α:Type} {enc:α->List AV} {sz:Nat} {x:AV} {g g':Rows} {S:Id->Prop} {L L':List α}
theorem mo.cast (h:mo enc sz x g S L) (hL:L'=L):mo enc sz x g S L':=by subst hL;exact h
theorem mo.frame (h:mo enc sz x g S L) (hg:∀o:Id,S o->g' o=g o):mo enc sz x g' S L:=by
 obtain⟨o,h1,h2,h3⟩:=h
 exact⟨o,h1,h2,(hg o h1).trans h3⟩
theorem mo.app (hz:∀a,(enc a).length=sz/\(enc a).all AV.cell=true) (h:mo enc sz x g S L) (id:Id) (hid:S id) (M:List α) (hlen:L.length+M.length<=dn):
  ∃v g',aJ g id sz x (M.map enc)=some (v,g')/\mo enc sz v g' S (L++M)/\∀j:Id,¬S j->g' j=g j:=by
 obtain⟨o,h1,rfl,h4⟩:=h
 refine⟨.own id 0 (L.length+(M.map enc).length),bD (bL g o) id ⟨true,sz,L.map enc++M.map enc⟩,?_,⟨id,hid,by simp,by simp[bD]⟩,fun j hj=>?_⟩
 ·have ha:=all_map (l:=M) hz
  simp only[aJ,h4,Option.bind_some]
  rw[if_pos ⟨trivial,trivial,by simp,by simpa using hlen,ha⟩]
 ·have e1:¬j=id:=fun h=>hj (h▸hid)
  have e2:¬j=o:=fun h=>hj (h▸h1)
  simp[bD,bL,e1,e2]
theorem PF {draw:Bool} {o:bH} {r:List bH} {x' y:O} {xv:AV} (M:List α) (ho:o.op=.append sz x' y) (hw:aA o.guard env=true) (hx:cZ env x'=xv) (hO:mo enc sz xv σ.get S L)
  (hy:bj σ.get (cZ env y)=some (M.map enc)) (hz:∀a,(enc a).length=sz/\(enc a).all AV.cell=true) (hid:S ⟨o.site,σ.next⟩) (hlen:L.length+M.length<=dn)
  (next:∀v g',mo enc sz v g' S (L++M)->(∀j:Id,¬S j->g' j=σ.get j)->wpOps X draw r K (upd env o.dst v) ⟨g',σ.next⟩):wpOps X draw (o::r) K env σ:=by
 obtain⟨v,g',h1,h2,h3⟩:=hO.app hz ⟨o.site,σ.next⟩ hid M hlen
 unfold wpOps
 rw[if_pos hw]
 unfold eV
 simp only[ho,e9,hy,hx,Option.bind_some,h1]
 exact next v g' h2 h3
theorem mo.gq {n:Nat} (h:mo enc sz x g S L) (he:∀a,eB g n (enc a)=some (enc a)):gq g (n+1) x=some (.sl (L.map enc)):=by
 obtain⟨o,_,rfl,h3⟩:=h
 exact ig h3 rfl he
end
theorem dr {a b:Id} (h:a.cV<b.cV):(a=b)=False/\(b=a)=False:=by
 constructor<;>(simp only[eq_iff_iff,iff_false];rintro rfl;omega)
theorem zK {o:Id} {a:Nat} (h:o.site=a) {b v:Nat} (pW:(a==b)=false):(o=⟨b,v⟩)=False:=by
 simp only[eq_iff_iff,iff_false]
 rintro rfl
 simp only at h
 subst h
 simp at pW
def eN (n:Nat):List AV:=[.int .i64 n]
theorem SD (g:Rows) (n:Nat) (a:Nat):de g (n+1) (eN a)=some (eN a):=by simp[eN,ab,aj,ay]
theorem Oa (g:Rows) (n:Nat) (a:Nat):eB g (n+1) (eN a)=some (eN a):=by simp[eN,bW,cU,eC]
def P3:Cv (List Nat):=fun g cs x ids=>∃id,cs=[.own id 0 x.length]/\g id=some ⟨true,1,x.map eN⟩/\ids=[id]
theorem O9:wO P3 1 where
 frame:=fun⟨id,h1,h2,h3⟩ hf=>by subst h3;exact⟨id,h1,(hf id (by simp)).trans h2,rfl⟩
 len:=fun⟨id,h1,_⟩=>by subst h1;rfl
 cell:=fun⟨id,h1,_⟩=>by subst h1;rfl
 live:=fun⟨id,h1,h2,h3⟩ i hi=>by
  subst h3
  have:i=id:=by simpa using hi
  subst this
  exact⟨_,h2,rfl,by simp[tC]⟩
 small:=by simp[tC]
def Ad (l:List Nat):List AV:=[.sl (l.map eN)]
theorem Ji {g:Rows} {rows:List (List AV)} {xs:List (List Nat)} {ids:List Id} (n:Nat) (h:eH P3 g rows xs ids):gU g (n+2) rows=some (xs.map Ad):=by
 induction h with
 |nil=>rw[gU];rfl
 |cons h1 _ ih=>
  obtain⟨id,rfl,h2,_⟩:=h1
  rw[gU,ih,bW,cU,ig (e:=eN) (sz:=1) h2 rfl fun a=>Oa g n a];rfl
end Go.Proofs.YtgoljkjaameagaaGreat.V
