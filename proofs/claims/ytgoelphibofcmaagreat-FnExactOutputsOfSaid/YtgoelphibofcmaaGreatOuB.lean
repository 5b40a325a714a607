/- One operation, calls among them. -/
import Derived.Test.YtgoelphibofcmaaGreatOuA
import Derived.Orders
import Derived.Conc.LoneCalls
import Derived.WalkKit
import Derived.WalkSpells
import Derived.WalkLawsBesides
import Derived.Lib.Hide
import Derived.Deep.QuietTactic
import Derived.BigQuiet
import Derived.StillTailTactics
import Derived.Deep.RegionWith
import Derived.Deep.RegionHeld3
import Derived.Deep.LoopGhost
import Derived.Deep.CutRange
import Derived.Deep.DeepCutAuto
import Derived.Test.YtgoelphibofcmaaGreatChecked
set_option linter.unusedVariables false
set_option linter.unusedSimpArgs false
set_option maxRecDepth 100000
set_option maxHeartbeats 16000000
namespace Go.Proofs.YtgoelphibofcmaaGreat.V
open Go.RowKit
variable {P:Program} {w w':World} {D D' D2:Nat->Prop} {ι ι' ι2:Names}
def Sound (P:Program):fZ:=fun f args σ K=>∀(hs:Nat) (D:Nat->Prop) (ι:Names) (w:World) (vs:Array Value),gJ P hs D ι σ.get w->Used ι σ.next (fun _=>False)->fF P w D ι args vs->
 Calls P f vs w fun e w'=>∃r g' n' D' ι' u,e=.returned u/\K r ⟨g',n'⟩/\Step hs D ι w D' ι' w'/\gJ P hs D' ι' g' w'/\Used ι' n' (fun _=>False)/\σ.next<=n'/\di P w' D' ι' r u
section
variable {g:Rows} {hs:Nat} {env:Env} {a:Act} {o:Oper} {id:Id} {v:AV}
theorem gJ.ro (S:gJ P hs D ι g w):gJ P w.heap.size D ι (ro g) w:=by
 refine⟨Nat.le_refl _,S.dead,fun id r h=>?_,fun id kf r r' B B' h h' hw=>?_⟩
 ·unfold V.ro at h
  simp only[Option.map_eq_some_iff]at h
  obtain⟨r0,h0,rfl⟩:=h
  obtain⟨B,hB,R,_,_⟩:=S.row id r0 h0
  exact⟨B,hB,R.flag false,fun h=>by simp at h,fun h=>by simp at h⟩
 ·unfold V.ro at h
  simp only[Option.map_eq_some_iff]at h
  obtain⟨r0,h0,rfl⟩:=h
  simp at hw
theorem BR {g0:Rows} {f:Nat} {args:List AV} {n:Nat} {K:AV->Prop} {vs:Array Value} (h:PC (Sound P) f args ⟨g0,n⟩ K) (rq:∀id r,g0 id=some r->g id=some r) (S:gJ P hs D ι g w) (U:Used ι n (fun _=>False)) (A:fF P w D ι args vs):
  Calls P f vs w fun e w'=>∃r D' u,e=.returned u/\K r/\Step hs D ι w D' ι w'/\gJ P hs D' ι g w'/\di P w' D' ι r u:=by
 refine(h w.heap.size D ι w vs (S.sub rq).ro U A).mono ?_
 rintro e w' ⟨r0,g',n',D1,ι1,u,rfl,⟨r,hr,hK⟩,T,S1,_,_,hR⟩
 have hb:∀b,b<w.heap.size->w'.heap[b]? =w.heap[b]? :=T.below.block
 have hz:=T.below.size
 have q:=sb (D2:=fun b=>D b∨(w.heap.size<=b/\b<w'.heap.size)) (ι2:=ι) (fun b hd=>by
  rcases T.new b hd with h|h
  ·exact .inl h
  ·exact .inr ⟨h,S1.dead b hd⟩) (fun id row hg hw=>by
  obtain⟨B,hB,R,h1,_⟩:=S1.row id row hg
  exact⟨B,hB,R,.inr ⟨h1 hw,R.lt⟩⟩) 6 r0 u r hR hr
 refine⟨r,_,u,rfl,hK,?_,?_,q.1⟩
 ·exact Step.stay S hb hz T.below.os T.below.tape T.below.output (fun _ h=>.inl h) (fun b h=>by rcases h with h|h;exact .inl h;exact .inr h.1) (fun _ _ h=>h)
 ·exact S.stay hb hz (fun _ h=>.inl h) (fun b h=>by rcases h with h|h;exact Nat.lt_of_lt_of_le (S.dead b h) hz;exact h.2) (fun b h=>by rcases h with h|h;exact .inl h;exact .inr h.1) (fun _ _ h=>h)
theorem yY {g0:Rows} {f:Nat} {args:List AV} {n:Nat} {K:AV->Prop} {vs:Array Value} (h:PCv (Sound P) f args ⟨g0,n⟩ K) (rq:∀id r,g0 id=some r->g id=some r) (S:gJ P hs D ι g w) (U:Used ι n (fun _=>False)) (A:fF P w D ι args vs):
  Calls P f vs w fun e w'=>∃r D' u,e=.returned u/\K r/\Step hs D ι w D' ι w'/\gJ P hs D' ι g w'/\di P w' D' ι r u:=by
 obtain⟨args',ha,h⟩:=h
 let D1:Nat->Prop:=fun b=>D b∨∃id r B,g id=some r/\ι id=some B/\b=B.b
 have lt:∀id r B,g id=some r->ι id=some B->B.b<w.heap.size:=fun id r B h1 h2=>by
  obtain⟨B',dM,R,_⟩:=S.row id r h1
  rw[h2]at dM;injection dM with dM;subst dM
  exact R.lt
 have S0:gJ P w.heap.size D1 ι (fun _=>none) w:=⟨Nat.le_refl _,fun b hb=>by
  rcases hb with hb|⟨id,r,B,h1,h2,rfl⟩
  ·exact S.dead b hb
  ·exact lt id r B h1 h2,fun id r h=>(by cases h),fun id kf r r' B B' h=>(by cases h)⟩
 obtain⟨l1,l2⟩:=gR ha
 have A':fF P w D1 ι args' vs:=⟨by rw[A.1,l1],fun j a hj=>by
  obtain⟨a0,lK,hf⟩:=l2 j a hj
  obtain⟨u,hu,hr⟩:=A.2 j a0 lK
  refine⟨u,hu,(sb (D2:=D1) (ι2:=ι) (fun b h=>.inl h) (fun id row hg hw=>?_) 6 a0 u a hr hf).1⟩
  unfold dX at hg
  simp only[Option.map_eq_some_iff]at hg
  obtain⟨r,oK,rfl⟩:=hg
  obtain⟨B,hB,R,_,_⟩:=S.row id r (rq id r oK)
  exact⟨B,hB,R.flag true,.inr ⟨id,r,B,rq id r oK,hB,rfl⟩⟩⟩
 refine(h w.heap.size D1 ι w vs S0 U A').mono ?_
 rintro e w' ⟨r0,g',n',D2,ι1,u,rfl,⟨r,hr,hK⟩,T,S1,_,_,hR⟩
 have hb:∀b,b<w.heap.size->w'.heap[b]? =w.heap[b]? :=T.below.block
 have hz:=T.below.size
 have q:=Hw (D2:=fun b=>D b∨(w.heap.size<=b/\b<w'.heap.size)) (ι2:=ι) (fun id row hg hw=>by
  obtain⟨B,hB,R,h1,_⟩:=S1.row id row hg
  exact⟨B,hB,R,.inr ⟨h1 hw,R.lt⟩⟩) 6 r0 u r hR hr
 refine⟨r,_,u,rfl,hK,?_,?_,q.1⟩
 ·exact Step.stay S hb hz T.below.os T.below.tape T.below.output (fun _ h=>.inl h) (fun b h=>by rcases h with h|h;exact .inl h;exact .inr h.1) (fun _ _ h=>h)
 ·exact S.stay hb hz (fun _ h=>.inl h) (fun b h=>by rcases h with h|h;exact Nat.lt_of_lt_of_le (S.dead b h) hz;exact h.2) (fun b h=>by rcases h with h|h;exact .inl h;exact .inr h.1) (fun _ _ h=>h)
theorem G9 {g0:Rows} {f:Nat} {args:List AV} {n:Nat} {K:AV->Prop} {vs:Array Value} (h:fX (Sound P) f args ⟨g0,n⟩ K) (rq:∀id r,g0 id=some r->g id=some r) (S:gJ P hs D ι g w) (U:Used ι n (fun _=>False)) (A:fF P w D ι args vs):
  Calls P f vs w fun e w'=>∃r D' u,e=.returned u/\K r/\Step hs D ι w D' ι w'/\gJ P hs D' ι g w'/\di P w' D' ι r u:=by
 rcases h with h|h
 ·exact BR h rq S U A
 ·exact yY h rq S U A
theorem Ip {D1 D2:Nat->Prop} {ι1 ι2:Names} {w1:World} {a:AV} {v:Value} (hp:a.plain=true) (h:di P w D1 ι1 a v):di P w1 D2 ι2 a v:=by
 cases h with
 |eZ a v h=>cases h<;>first|(simp[AV.plain]at hp;done)|exact .eZ _ _ (by constructor)
 |_=>simp[AV.plain]at hp
theorem gJ.add {r:Row} {B:s9} (S:gJ P hs D ι g w) (S':gJ P hs D ι g w') (hf:ι id=none) (kI:w.heap.size<=B.b) (R:ib P w' D (kY ι id B) B r):gJ P hs D (kY ι id B) (bQ g id r) w':=by
 have lt:∀kf r' B',g kf=some r'->ι kf=some B'->B'.b<w.heap.size:=fun kf r' B' h1 h2=>by
  obtain⟨B2,qt,R2,_⟩:=S.row kf r' h1
  rw[h2]at qt;injection qt with qt;subst qt
  exact R2.lt
 have ne:∀kf r',g kf=some r'->kf≠id:=fun kf r' h he=>by
  subst he
  obtain⟨B2,qt,_⟩:=S.row _ r' h
  rw[hf]at qt;cases qt
 refine⟨S'.lo,S'.dead,fun kf r' h=>?_,fun Tm id2 r1 r2 B1 B2 h1 h2 hw BD qt hb=>?_⟩
 ·unfold bQ at h
  split at h
  ·rename_i he
   subst he
   injection h with h;subst h
   exact⟨B,eD _ _ _,R,fun _=>Nat.le_trans S.lo kI,fun _ hd=>Nat.lt_irrefl _ (Nat.lt_of_lt_of_le (S.dead _ hd) kI)⟩
  ·obtain⟨B',dM,R',k1,k2⟩:=S'.row kf r' h
   exact⟨B',by rw[gE (ne _ _ h)];exact dM,R'.frame rfl (fun a v hr=>hr.frame (fun _ _=>rfl) (fun _ h=>h) (fB hf)),k1,k2⟩
 ·unfold bQ at h1 h2
  split at h1
  ·rename_i e1
   split at h2
   ·rename_i e2;rw[e1,e2]
   ·exfalso
    subst e1
    rw[eD]at BD;injection BD with BD;subst BD
    rw[gE (ne _ _ h2)]at qt
    have:=lt _ _ _ h2 qt
    omega
  ·rw[gE (ne _ _ h1)]at BD
   split at h2
   ·rename_i e2
    exfalso
    subst e2
    rw[eD]at qt;injection qt with qt;subst qt
    have:=lt _ _ _ h1 BD
    omega
   ·rw[gE (ne _ _ h2)]at qt
    exact S'.inj Tm id2 r1 r2 B1 B2 h1 h2 hw BD qt hb
theorem Ja {g0:Rows} {f:Nat} {args:List AV} {n sz:Nat} {rows:List (List AV)} {vs:Array Value} (h:CM (Sound P) f args ⟨g0,n⟩ sz rows) (rq:∀id r,g0 id=some r->g id=some r) (S:gJ P hs D ι g w) (U:Used ι n (fun _=>False)) (A:fF P w D ι args vs) (hf:ι id=none):
  Calls P f vs w fun e w'=>∃u B,e=.returned u/\Step hs D ι w D (kY ι id B) w'/\gJ P hs D (kY ι id B) (bQ g id ⟨true,sz,rows⟩) w'/\di P w' D (kY ι id B) (.own id 0 rows.length) u:=by
 obtain⟨me,args',ha,h⟩:=h
 let D1:Nat->Prop:=fun b=>D b∨∃id r B,g id=some r/\ι id=some B/\b=B.b
 have lt:∀id r B,g id=some r->ι id=some B->B.b<w.heap.size:=fun id r B h1 h2=>by
  obtain⟨B',dM,R,_⟩:=S.row id r h1
  rw[h2]at dM;injection dM with dM;subst dM
  exact R.lt
 have S0:gJ P w.heap.size D1 ι (fun _=>none) w:=⟨Nat.le_refl _,fun b hb=>by
  rcases hb with hb|⟨id,r,B,h1,h2,rfl⟩
  ·exact S.dead b hb
  ·exact lt id r B h1 h2,fun id r h=>(by cases h),fun id kf r r' B B' h=>(by cases h)⟩
 obtain⟨l1,l2⟩:=gR ha
 have A':fF P w D1 ι args' vs:=⟨by rw[A.1,l1],fun j a hj=>by
  obtain⟨a0,lK,hz⟩:=l2 j a hj
  obtain⟨u,hu,hr⟩:=A.2 j a0 lK
  refine⟨u,hu,(sb (D2:=D1) (ι2:=ι) (fun b h=>.inl h) (fun id row hg hw=>?_) 6 a0 u a hr hz).1⟩
  unfold dX at hg
  simp only[Option.map_eq_some_iff]at hg
  obtain⟨r,oK,rfl⟩:=hg
  obtain⟨B,hB,R,_,_⟩:=S.row id r (rq id r oK)
  exact⟨B,hB,R.flag true,.inr ⟨id,r,B,rq id r oK,hB,rfl⟩⟩⟩
 refine(h w.heap.size D1 ι w vs S0 U A').mono ?_
 rintro e w' ⟨r0,g',n',D2,ι1,u,rfl,⟨i0,hr,hg⟩,T,S1,_,_,hR⟩
 subst hr
 have hb:∀b,b<w.heap.size->w'.heap[b]? =w.heap[b]? :=T.below.block
 have hz:=T.below.size
 obtain⟨B,hB,R,k1,_⟩:=S1.row i0 _ hg
 have kI:w.heap.size<=B.b:=k1 rfl
 obtain⟨o,cap,B',rfl,dM,q2,q3,q4,q5,hk⟩:=ji hR
 rw[hB]at dM;injection dM with dM;subst dM
 replace R:=R.row hk
 have S':gJ P hs D ι g w':=S.stay hb hz (fun _ h=>h) (fun b h=>Nat.lt_of_lt_of_le (S.dead b h) hz) (fun b h=>.inl h) (fun _ _ h=>h)
 have R':lT P w' D (kY ι id B) B ⟨true,sz,rows⟩:=⟨R.sz,R.yv,R.fits,R.len,R.flat,fun i j cs a hi hj=>by
  obtain⟨v,h1,h2⟩:=R.at_ i j cs a hi hj
  exact⟨v,h1,Ip (me cs (List.mem_of_getElem? hi) a (List.mem_of_getElem? hj)) h2⟩⟩
 exact⟨_,B,rfl,Step.stay S hb hz T.below.os T.below.tape T.below.output (fun _ h=>h) (fun _ h=>.inl h) (fB hf),S.add S' hf kI (R'.obj hk),.own id 0 _ _ _ B (eD _ _ _) hk q2 q3 q4 q5⟩
theorem jM {f:Nat} {args:Array Value} (hc:ga P f=true):(callFunc f args).run P w=.ok (.enter f args) w:=by
 unfold ga at hc
 split at hc
 ·rename_i fn hf
  simp only[Bool.and_eq_true,Bool.not_eq_true']at hc
  have hb:fn.body.isNone=false:=by cases hq:fn.body<;>simp_all
  simp only[callFunc,Sem.run_bind,run_program,Result.andThen_ok,hf,hc.2,Bool.false_eq_true,if_false,hb]
  rfl
 ·simp at hc
theorem CO {f:Nat} {args:List O} (hc:rR P o.op=some (.call f args)):∃c,o.op=.call c/\c.callee=.value (.func f)/\ga P f=true/\c.args.toList.mapM (cO P)=some args:=by
 unfold rR at hc
 split at hc
 case h_23=>
  rename_i c ho
  refine⟨c,ho,?_⟩
  unfold oe at hc
  split at hc
  all_goals (try(repeat' (split at hc))<;>(simp only[Option.bind_eq_bind,Option.bind_eq_some_iff,Option.pure_def,Option.some.injEq,Option.map_eq_some_iff,reduceCtorEq,and_false,exists_false]at hc))
  all_goals simp_all
 all_goals (try unfold wO at hc)<;>(try unfold tr at hc)<;>(repeat' (split at hc))<;>(simp only[Option.bind_eq_bind,Option.bind_eq_some_iff,Option.pure_def,Option.some.injEq,Option.map_eq_some_iff,reduceCtorEq,and_false,exists_false]at hc)
theorem tO {x:O} {args:List O} (hc:rR P o.op=some (.um x args)):∃c t,o.op=.call c/\c.callee=.value (.tmp t)/\x=.t t/\c.args.toList.mapM (cO P)=some args:=by
 unfold rR at hc
 split at hc
 case h_23=>
  rename_i c ho
  refine⟨c,?_⟩
  unfold oe at hc
  split at hc
  all_goals (try(repeat' (split at hc))<;>(simp only[Option.bind_eq_bind,Option.bind_eq_some_iff,Option.pure_def,Option.some.injEq,Option.map_eq_some_iff,reduceCtorEq,and_false,exists_false]at hc))
  all_goals simp_all
 all_goals (try unfold wO at hc)<;>(try unfold tr at hc)<;>(repeat' (split at hc))<;>(simp only[Option.bind_eq_bind,Option.bind_eq_some_iff,Option.pure_def,Option.some.injEq,Option.map_eq_some_iff,reduceCtorEq,and_false,exists_false]at hc)
theorem HQ {n:Nat} {x y:O} (hc:rR P o.op=some (.store n x y)):∃t x' y',o.op=.store t x' y'/\eE P t=some n/\cO P x'=some x/\cO P y'=some y:=by
 unfold rR at hc
 split at hc
 case h_7=>
  rename_i t x' y' ho
  refine⟨t,x',y',ho,?_⟩
  simp only[Option.bind_eq_bind,Option.bind_eq_some_iff,Option.pure_def,Option.some.injEq]at hc
  obtain⟨n',h1,x2,h2,y2,h3,he⟩:=hc
  injection he with e1 e2 e3
  subst e1;subst e2;subst e3
  exact⟨h1,h2,h3⟩
 all_goals (try unfold wO at hc)<;>(try unfold tr at hc)<;>(try unfold oe at hc)<;>(repeat' (split at hc))<;>(simp only[Option.bind_eq_bind,Option.bind_eq_some_iff,Option.pure_def,Option.some.injEq,Option.map_eq_some_iff,reduceCtorEq,and_false,exists_false]at hc)
theorem Fb {n:Nat} {x y:O} (hc:rR P o.op=some (.append n x y)):∃(t e:TypeId) (m:Nat) (z:List K) (i:TypeInfo) (x' y':Operand),n=m+1/\o.op=.call {callee:=.builtin .append,args:= #[x',y'],argTypes:= #[t,t]}/\
  P.underlying t=some (.slice e)/\eE P e=some (m+1)/\jV P e=some z/\P.info? e=some i/\i.bytes<=32768/\cO P x'=some x/\cO P y'=some y:=by
 unfold rR at hc
 split at hc
 case h_23=>
  rename_i c ho
  unfold oe at hc
  split at hc
  case h_2=>
   rename_i kS
   split at hc
   ·rename_i x' y' t u h1 h2
    split at hc
    ·rename_i e ht
     split at hc
     ·rename_i m z i e1 e2 e3
      split at hc
      ·rename_i hb
       simp only[Option.bind_eq_bind,Option.bind_eq_some_iff,Option.pure_def,Option.some.injEq]at hc
       obtain⟨x2,h3,y2,h4,he⟩:=hc
       injection he with k1 k2 k3
       subst k1;subst k2;subst k3
       obtain⟨L8,rfl⟩:=hb
       refine⟨t,e,m,z,i,x',y',rfl,?_,ht,e1,e2,e3,L8,h3,h4⟩
       rw[ho]
       obtain⟨ca,cb,cc⟩:=c
       simp only at h1 h2 kS
       subst kS
       congr
       ·exact Array.ext' h1
       ·exact Array.ext' h2
      ·simp at hc
     ·simp at hc
    ·simp at hc
   ·simp at hc
  all_goals (repeat' (split at hc))<;>(simp only[Option.bind_eq_bind,Option.bind_eq_some_iff,Option.pure_def,Option.some.injEq,Option.map_eq_some_iff,reduceCtorEq,and_false,exists_false]at hc)
 all_goals (try unfold wO at hc)<;>(try unfold tr at hc)<;>(repeat' (split at hc))<;>(simp only[Option.bind_eq_bind,Option.bind_eq_some_iff,Option.pure_def,Option.some.injEq,Option.map_eq_some_iff,reduceCtorEq,and_false,exists_false]at hc)
theorem Kz {n:Nat} {x y:O} (hc:rR P o.op=some (.copy n x y)):∃(t t2 e:TypeId) (m:Nat) (x' y':Operand),n=m+1/\o.op=.call {callee:=.builtin .copy,args:= #[x',y'],argTypes:= #[t,t2]}/\
  P.underlying t=some (.slice e)/\eE P e=some (m+1)/\cO P x'=some x/\cO P y'=some y:=by
 unfold rR at hc
 split at hc
 case h_23=>
  rename_i c ho
  unfold oe at hc
  split at hc
  case h_7=>
   rename_i kS
   split at hc
   ·rename_i x' y' t t2 h1 h2
    split at hc
    ·rename_i e ht
     split at hc
     ·rename_i m e1
      simp only[Option.bind_eq_bind,Option.bind_eq_some_iff,Option.pure_def,Option.some.injEq,gN.copy.injEq]at hc
      obtain⟨x2,h3,y2,h4,k0,k1,k2⟩:=hc
      subst k1;subst k2
      refine⟨t,t2,e,m,x',y',k0.symm,?_,ht,e1,h3,h4⟩
      rw[ho]
      obtain⟨ca,cb,cc⟩:=c
      simp only at h1 h2 kS
      subst kS
      congr
      ·exact Array.ext' h1
      ·exact Array.ext' h2
     ·simp at hc
    ·simp at hc
   ·simp at hc
  all_goals (repeat' (split at hc))<;>(simp only[Option.bind_eq_bind,Option.bind_eq_some_iff,Option.pure_def,Option.some.injEq,Option.map_eq_some_iff,reduceCtorEq,and_false,exists_false]at hc)
 all_goals (try unfold wO at hc)<;>(try unfold tr at hc)<;>(repeat' (split at hc))<;>(simp only[Option.bind_eq_bind,Option.bind_eq_some_iff,Option.pure_def,Option.some.injEq,Option.map_eq_some_iff,reduceCtorEq,and_false,exists_false]at hc)
theorem HP {z:List K} {x:O} (hc:rR P o.op=some (.clear z x)):∃(t e:TypeId) (m:Nat) (x':Operand),o.op=.call {callee:=.builtin .clear,args:= #[x'],argTypes:= #[t]}/\
  P.underlying t=some (.slice e)/\eE P e=some (m+1)/\jV P e=some z/\cO P x'=some x:=by
 unfold rR at hc
 split at hc
 case h_23=>
  rename_i c ho
  unfold oe at hc
  split at hc
  case h_3=>
   rename_i kS
   split at hc
   ·rename_i x' t h1 h2
    split at hc
    ·rename_i e ht
     split at hc
     ·rename_i m z' e1 e2
      simp only[Option.map_eq_some_iff]at hc
      obtain⟨x2,h3,he⟩:=hc
      injection he with k1 k2
      subst k1;subst k2
      refine⟨t,e,m,x',?_,ht,e1,e2,h3⟩
      rw[ho]
      obtain⟨ca,cb,cc⟩:=c
      simp only at h1 h2 kS
      subst kS
      congr
      ·exact Array.ext' h1
      ·exact Array.ext' h2
     ·simp at hc
    ·simp at hc
   ·simp at hc
  all_goals (repeat' (split at hc))<;>(simp only[Option.bind_eq_bind,Option.bind_eq_some_iff,Option.pure_def,Option.some.injEq,Option.map_eq_some_iff,reduceCtorEq,and_false,exists_false]at hc)
 all_goals (try unfold wO at hc)<;>(try unfold tr at hc)<;>(repeat' (split at hc))<;>(simp only[Option.bind_eq_bind,Option.bind_eq_some_iff,Option.pure_def,Option.some.injEq,Option.map_eq_some_iff,reduceCtorEq,and_false,exists_false]at hc)
theorem Qu {q:MW} {xs:List O} (hc:rR P o.op=some (.mw q xs)):
  (∃t x k y m z x' k' y',(o.op=.mapUpdate t x k y∨o.op=.insert t x k y)/\tt P t=some (m,z)/\cO P x=some x'/\cO P k=some k'/\cO P y=some y'/\q=.set m/\xs=[x',k',y'])∨
  (∃t t' x k m z x' k',o.op=.call {callee:=.builtin .delete,args:= #[x,k],argTypes:= #[t,t']}/\tt P t=some (m,z)/\cO P x=some x'/\cO P k=some k'/\q=.del m/\xs=[x',k']):=by
 unfold rR at hc
 split at hc
 case h_23=>
  rename_i c ho
  right
  unfold oe at hc
  split at hc
  case h_6=>
   rename_i kS
   split at hc
   ·rename_i x k t t' h1 h2
    split at hc
    ·rename_i m z x' k' e1 e2 e3
     injection hc with hc
     injection hc with q1 q2
     refine⟨t,t',x,k,m,z,x',k',?_,e1,e2,e3,q1.symm,q2.symm⟩
     rw[ho]
     obtain⟨ca,cb,cc⟩:=c
     simp only at h1 h2 kS
     subst kS
     congr
     ·exact Array.ext' h1
     ·exact Array.ext' h2
    ·cases hc
   ·cases hc
  all_goals (repeat' (split at hc))<;>(simp only[Option.bind_eq_bind,Option.bind_eq_some_iff,Option.pure_def,Option.some.injEq,Option.map_eq_some_iff,reduceCtorEq,and_false,exists_false]at hc)
 case h_29=>
  rename_i t x k y ho
  left
  split at hc
  ·rename_i m z x' k' y' e1 e2 e3 e4
   injection hc with hc
   injection hc with q1 q2
   exact⟨t,x,k,y,m,z,x',k',y',.inl ho,e1,e2,e3,e4,q1.symm,q2.symm⟩
  ·cases hc
 case h_30=>
  rename_i t x k y ho
  left
  split at hc
  ·rename_i m z x' k' y' e1 e2 e3 e4
   injection hc with hc
   injection hc with q1 q2
   exact⟨t,x,k,y,m,z,x',k',y',.inr ho,e1,e2,e3,e4,q1.symm,q2.symm⟩
  ·cases hc
 all_goals (try unfold wO at hc)<;>(try unfold tr at hc)<;>(repeat' (split at hc))<;>(simp only[Option.bind_eq_bind,Option.bind_eq_some_iff,Option.pure_def,Option.some.injEq,Option.map_eq_some_iff,reduceCtorEq,and_false,exists_false]at hc)
def jz (g:Rows) (id:Id):Option Row->Rows
 |some r=>bQ g id r
 |none=>g
def wQ (X:fZ) (hid:List Nat) (site n:Nat) (f:Nat) (args:List AV) (g:Rows) (v:AV) (g':Rows):Prop:=
 (fX X f args ⟨fW hid n g,n+1⟩ (fun r=>r=v)/\g'=g)∨
 (hid.contains site=true/\∃sz rows,CM X f args ⟨fW hid n g,n+1⟩ sz rows/\v=.own ⟨site,n⟩ 0 rows.length/\g'=bQ g ⟨site,n⟩ ⟨true,sz,rows⟩)
def VS (X:fZ) (n:Nat) (vo:br) (env:Env) (g:Rows) (v:AV) (g':Rows):Prop:=
 match vo.op with
 | .call f args=>wQ X vo.hid vo.site n f (args.map (dm env)) g v g'
 | .um x args=>∃f l,wP (dm env x) (args.map (dm env))=some (f,l)/\wQ X vo.hid vo.site n f l g v g'
 | .store .. | .append .. | .copy .. | .clear .. | .mw .. =>fY vo.op (dm env) g ⟨vo.site,n⟩=some (v,g')
 |_=>∃mr,eU vo.op (dm env) (fW vo.hid n g) ⟨vo.site,n⟩=some (v,mr)/\g'=jz g ⟨vo.site,n⟩ mr
def N5 (P:Program) (hs:Nat) (D:Nat->Prop) (ι:Names) (w:World) (U:Nat->Prop) (site n:Nat) (a:Act) (dst:Option Tmp) (v:AV) (g':Rows) (a':Act) (w':World):Prop:=
 ∃u D' ι',a'=a.put dst u/\Step hs D ι w D' ι' w'/\gJ P hs D' ι' g' w'/\di P w' D' ι' v u/\Used ι' n (fun s=>U s∨s=site)
theorem fresh {n:Nat} {U:Nat->Prop} {s:Nat} (h:Used ι n U) (hU:¬U s):ι ⟨s,n⟩=none:=by
 cases hq:ι ⟨s,n⟩with
 |none=>rfl
 |some B=>
  rcases h ⟨s,n⟩ (by rw[hq];simp)with h|⟨_,h⟩
  ·exact absurd h (Nat.lt_irrefl _)
  ·exact absurd h hU
theorem Used.more {n:Nat} {U U':Nat->Prop} (h:Used ι n U) (hU:∀s,U s->U' s):Used ι n U':=fun id hid=>by
 rcases h id hid with h|⟨h1,h2⟩
 ·exact .inl h
 ·exact .inr ⟨h1,hU _ h2⟩
theorem Used.next {n:Nat} {U:Nat->Prop} (h:Used ι n U):Used ι (n+1) (fun _=>False):=fun id hid=>by
 rcases h id hid with h|⟨h1,_⟩
 ·exact .inl (Nat.lt_succ_of_lt h)
 ·exact .inl (by omega)
theorem Used.upd {n:Nat} {U:Nat->Prop} {s:Nat} {B:s9} (h:Used ι n U):Used (kY ι ⟨s,n⟩ B) n (fun x=>U x∨x=s):=fun id hid=>by
 by_cases he:id=⟨s,n⟩
 ·subst he;exact .inr ⟨rfl,.inr rfl⟩
 ·rw[gE he]at hid
  exact(h.more (U':=fun x=>U x∨x=s) fun _ h=>Or.inl h) id hid
theorem oW {xs:Array Operand} {ys:List O} (E:cI P w D ι env a) (h:xs.toList.mapM (cO P)=some ys):fF P w D ι (ys.map (dm env)) (xs.map a.eval):=by
 obtain⟨h1,h2⟩:=Fy E h
 refine⟨by simpa using h1,fun j b hj=>?_⟩
 simp only[List.getElem?_map,Option.map_eq_some_iff]at hj
 obtain⟨y,hy,rfl⟩:=hj
 have ew:j<xs.size:=by have:=(List.getElem?_eq_some_iff.1 hy).1;simp at h1;omega
 refine⟨a.eval xs[j],by simp[ew],?_⟩
 have:=h2 j y hy
 simpa[List.getD_eq_getElem?_getD,ew]using this
theorem pG {xs ys:List AV} {vs us:Array Value} (h:fF P w D ι xs vs) (k:fF P w D ι ys us):fF P w D ι (xs++ys) (vs++us):=
 ⟨by simp[h.1,k.1],fun j b hj=>by
  by_cases ew:j<xs.length
  ·rw[List.getElem?_append_left ew]at hj
   obtain⟨u,hu,yL⟩:=h.2 j b hj
   exact⟨u,by rw[Array.getElem?_append_left (by rw[h.1];exact ew)];exact hu,yL⟩
  ·rw[List.getElem?_append_right (by omega)]at hj
   obtain⟨u,hu,yL⟩:=k.2 _ b hj
   exact⟨u,by rw[Array.getElem?_append_right (by rw[h.1];omega),h.1];exact hu,yL⟩⟩
theorem xM:fF P w D ι [] #[]:=⟨rfl,fun j b hj=>by simp at hj⟩
theorem wR {x:AV} {l l':List AV} {f:Nat} {vs:Array Value} {v:Value} (h:wP x l=some (f,l')) (hr:di P w D ι x v) (hA:fF P w D ι l vs):
  ∃first dp,v=.func (.func f) first dp/\ga P f=true/\fF P w D ι l' (first++vs++dp):=by
 unfold wP at h
 split at h
 ·simp only[Option.some.injEq,Prod.mk.injEq]at h
  obtain⟨rfl,rfl⟩:=h
  obtain⟨us,q,he,Gl,n1,q1,q2⟩:=A6 hr
  refine⟨#[],us,he,Gl,?_⟩
  rw[Array.empty_append]
  exact pG hA ⟨n1,fun j b hj=>⟨q j,q1 j (List.getElem?_eq_some_iff.1 hj).1,q2 j b hj⟩⟩
 ·simp only[Option.some.injEq,Prod.mk.injEq]at h
  obtain⟨rfl,rfl⟩:=h
  obtain⟨us,q,he,Gl,n1,q1,q2⟩:=NO hr
  refine⟨us, #[],he,Gl,?_⟩
  rw[Array.append_empty]
  exact pG ⟨n1,fun j b hj=>⟨q j,q1 j (List.getElem?_eq_some_iff.1 hj).1,q2 j b hj⟩⟩ hA
 ·cases h
theorem BT {n:Nat} {vo:br} {g':Rows} {U:Nat->Prop} {Q:Exit->Act->World->Prop} {K:Act->World->Prop} (hc:rR P o.op=some vo.op) (hv:VS (Sound P) n vo env g v g') (S:gJ P hs D ι g w) (Us:Used ι n U) (hU:¬U vo.site) (E:cI P w D ι env a)
  (hK:∀a' w',N5 P hs D ι w U vo.site n a o.dst v g' a' w'->K a' w'):o.wp P a w K Q:=by
 have hf:=fresh Us hU
 have B6:∀(f:Nat) (args:List AV) (vs:Array Value),wQ (Sound P) vo.hid vo.site n f args g v g'->fF P w D ι args vs->(execOp a.eval o).run P w=.ok (.enter f vs) w->o.wp P a w K Q:=by
  intro f args vs hP hA gy
  unfold Oper.wp
  rw[gy]
  rcases hP with⟨hP,rfl⟩|⟨_,sz,rows,hM,rfl,rfl⟩
  ·refine(G9 hP Br S Us.next hA).mono ?_
   rintro e w' ⟨r,D',u,rfl,rfl,T,S',hR⟩
   exact hK _ _ ⟨u,D',ι,rfl,T,S',hR,Us.more fun _ h=>.inl h⟩
  ·refine(Ja hM Br S Us.next hA hf).mono ?_
   rintro e w' ⟨u,B,rfl,T,S',hR⟩
   exact hK _ _ ⟨u,D,_,rfl,T,S',hR,Us.upd⟩
 have quiet:∀(mr:Option Row),eU vo.op (dm env) (fW vo.hid n g) ⟨vo.site,n⟩=some (v,mr)->g'=jz g ⟨vo.site,n⟩ mr->o.wp P a w K Q:=by
  intro mr hq hg
  have hqs:=zQ hc hq (S.sub Br) E
  unfold Oper.wp
  cases mr with
  |none=>
   obtain⟨u,gy,hR⟩:=hqs
   rw[gy]
   subst hg
   exact hK _ _ ⟨u,D,ι,rfl,Step.refl _ _ _ _,S,hR,Us.more fun _ h=>.inl h⟩
  |some r=>
   rcases hqs with⟨u,cells,T,gy,h1,h2,h3,h4,h5,h6⟩|⟨m,gy,Qn,EY⟩|⟨c,gy,Qn,EY⟩
   case inr.inr=>
    rw[gy]
    subst hg Qn EY
    have fH:w.heap.size<(w.alloc (.chan c #[] false 0 0 false)).heap.size:=by simp
    have S':=S.stay (w':=w.alloc (.chan c #[] false 0 0 false)) (D':=D) (ι':=ι) (fun k hk=>Below.heap_alloc _ _ _ hk) (by simp) (fun _ h=>h) (fun b hd=>Nat.lt_trans (S.dead b hd) fH) (fun _ h=>.inl h) (fun _ _ h=>h)
    have S1:=S.add S' (id:=⟨vo.site,n⟩) (B:=⟨w.heap.size,qU+c,0,some (.chan c)⟩) (r:=⟨true,qU+c,[]⟩) hf (Nat.le_refl _) ⟨rfl,fun cs h=>by simp at h,fun h=>by simp at h,fun m' h=>(by simp at h),fun c' h=>by
     simp only[Option.some.injEq,BK.chan.injEq]at h;subst h
     exact⟨rfl, #[],0,0,(show(w.heap.push (Obj.chan c #[] false 0 0 false))[w.heap.size]? =some (Obj.chan c #[] false 0 0 false) by simp),rfl,fun i cs h=>by simp at h⟩⟩
    exact hK _ _ ⟨_,D,_,rfl,Step.stay S (fun k hk=>Below.heap_alloc _ _ _ hk) (by simp) rfl rfl rfl (fun _ h=>h) (fun _ h=>.inl h) (fB hf),S1,.r6 _ _ _ (eD _ _ _) rfl,Us.upd⟩
   case inr.inl=>
    rw[gy]
    subst hg Qn EY
    have fH:w.heap.size<(w.alloc (.map #[] 0)).heap.size:=by simp
    have S':=S.stay (w':=w.alloc (.map #[] 0)) (D':=D) (ι':=ι) (fun k hk=>Below.heap_alloc _ _ _ hk) (by simp) (fun _ h=>h) (fun b hd=>Nat.lt_trans (S.dead b hd) fH) (fun _ h=>.inl h) (fun _ _ h=>h)
    have S1:=S.add S' (id:=⟨vo.site,n⟩) (B:=⟨w.heap.size,m.qe,0,some (.map m)⟩) (r:=⟨true,m.qe,[]⟩) hf (Nat.le_refl _) ⟨rfl,fun cs h=>by simp at h,fun h=>by simp at h,fun m' h=>by
     simp only[Option.some.injEq,BK.map.injEq]at h;subst h
     exact⟨rfl, #[],0,(show(w.heap.push (Obj.map #[] 0))[w.heap.size]? =some (Obj.map #[] 0) by simp),rfl,⟨fun cs h=>by simp at h,fun x h=>by simp at h,by simp⟩,fun i cs h=>by simp at h⟩,fun c h=>by simp at h⟩
    exact hK _ _ ⟨_,D,_,rfl,Step.stay S (fun k hk=>Below.heap_alloc _ _ _ hk) (by simp) rfl rfl rfl (fun _ h=>h) (fun _ h=>.inl h) (fB hf),S1,.map _ _ _ (eD _ _ _) rfl,Us.upd⟩
   rw[gy]
   subst hg
   have S1:=S.alloc (id:=⟨vo.site,n⟩) (w':=w.alloc (.cells cells T)) rfl hf h1 h2 h3 h4 h5
   refine hK _ _ ⟨u,D,_,rfl,Step.stay S (fun k hk=>Below.heap_alloc _ _ _ hk) (by simp) rfl rfl rfl (fun _ h=>h) (fun _ h=>.inl h) (fB hf),S1,(h6 (kY ι _ _) (eD _ _ _)).frame (fun b hd=>Below.heap_alloc _ _ _ (S.dead b hd)) (fun _ h=>h) (fun _ _ h=>h),Us.upd⟩
 have Ro:fY vo.op (dm env) g ⟨vo.site,n⟩=some (v,g')->(∀Mj,D6 P hs a o Mj D ι ⟨vo.site,n⟩ v g'->Mj=w->o.wp P a w K Q):=by
  intro _ Mj hE he
  subst he
  obtain⟨u,w',ι',gy,T,S',hR,hι⟩:=hE
  have J1:N5 P hs D ι Mj U vo.site n a o.dst v g' (a.put o.dst u) w':=⟨u,D,ι',rfl,T,S',hR,fun id hid=>by
   by_cases he:id=⟨vo.site,n⟩
   ·subst he;exact .inr ⟨rfl,.inr rfl⟩
   ·rw[hι id he]at hid
    exact(Us.more (U':=fun x=>U x∨x=vo.site) fun _ h=>Or.inl h) id hid⟩
  unfold Oper.wp
  rcases gy with gy|⟨gy,rfl⟩
  ·rw[gy];exact hK _ _ J1
  ·rw[gy];exact hK _ _ J1
 unfold VS at hv
 split at hv
 ·rename_i f args eA
  rw[eA]at hc
  obtain⟨c,ho,kS,Gl,mQ⟩:=CO hc
  refine B6 f _ (c.args.map a.eval) hv (oW E mQ) ?_
  simp only[execOp,ho,resolve,kS,Deferred.ofValue,Act.eval,Sem.run_bind,Sem.run_pure,Result.andThen_ok,invoke,Array.empty_append,Array.append_empty]
  exact jM Gl
 ·rename_i x args eA
  obtain⟨f,l,hx,hP⟩:=hv
  rw[eA]at hc
  obtain⟨c,t,ho,kS,rfl,mQ⟩:=tO hc
  obtain⟨first,dp,he,Gl,hL⟩:=wR (v:=a.eval (.tmp t)) hx (E t) (oW E mQ)
  refine B6 f _ (first++c.args.map a.eval++dp) hP hL ?_
  simp only[execOp,ho,resolve,kS,he,Deferred.ofValue,Sem.run_bind,Sem.run_pure,Result.andThen_ok,invoke]
  exact jM Gl
 ·rename_i m x y eA
  have lk:=hc
  rw[eA]at lk
  obtain⟨t,x',y',ho,h1,h2,h3⟩:=HQ lk
  have oI:=hv
  rw[eA]at oI
  simp only[fY,Option.map_eq_some_iff,Prod.mk.injEq]at oI
  obtain⟨g1,BG,rfl,rfl⟩:=oI
  exact Ro hv w (ME S E ho h1 h2 h3 BG) rfl
 ·rename_i m x y eA
  have lk:=hc
  rw[eA]at lk
  obtain⟨t,e,m',z,i,x',y',rfl,ho,h1,h2,h3,h4,h5,h6,h7⟩:=Fb lk
  have oI:=hv
  rw[eA]at oI
  simp only[fY,Option.bind_eq_some_iff]at oI
  obtain⟨ys,Gy,oI⟩:=oI
  exact Ro hv w (JH S E hf ho h1 h2 h3 h4 h5 h6 h7 Gy oI) rfl
 ·rename_i m x y eA
  have lk:=hc
  rw[eA]at lk
  obtain⟨t,t2,e,m',x',y',rfl,ho,h1,h2,h3,h4⟩:=Kz lk
  have oI:=hv
  rw[eA]at oI
  simp only[fY,Option.bind_eq_some_iff]at oI
  obtain⟨ys,Gy,oI⟩:=oI
  exact Ro hv w (Pk S E ho h1 h2 h3 h4 Gy oI) rfl
 ·rename_i z x eA
  have lk:=hc
  rw[eA]at lk
  obtain⟨t,e,m',x',ho,h1,h2,h3,h4⟩:=HP lk
  have oI:=hv
  rw[eA]at oI
  simp only[fY,Option.map_eq_some_iff,Prod.mk.injEq]at oI
  obtain⟨g1,BG,rfl,rfl⟩:=oI
  exact Ro hv w (MD S E ho h1 h2 h3 h4 BG) rfl
 ·rename_i q xs eA
  have lk:=hc
  rw[eA]at lk
  have oI:=hv
  rw[eA]at oI
  simp only[fY,Option.map_eq_some_iff,Prod.mk.injEq]at oI
  obtain⟨g1,BG,rfl,rfl⟩:=oI
  rcases Qu lk with⟨t,x,k,y,m,z,x',k',y',ho,h1,h2,h3,h4,rfl,rfl⟩|⟨t,t',x,k,m,z,x',k',ho,h1,h2,h3,rfl,rfl⟩
  ·exact Ro hv w (Po S E ho h1 h2 h3 h4 BG) rfl
  ·exact Ro hv w (Pm S E ho h1 h2 h3 BG) rfl
 ·obtain⟨mr,hq,hg⟩:=hv
  exact quiet mr hq hg
end
end Go.Proofs.YtgoelphibofcmaaGreat.V

namespace Go.Proofs.YtgoelphibofcmaaGreat.V
open Go.RowKit
variable {P:Program} {w w':World} {D D' D2:Nat->Prop} {ι ι' ι2:Names}
section
variable {g:Rows} {hs:Nat} {env:Env} {a:Act} {o:Oper} {id:Id} {v:AV}
theorem pV {ops:Array Oper} {nt site0 j:Nat} {draw mk:Bool} {bs:Array Nat} {hidden:List (Nat×Bool)} {vo:br} (h:lh P ops nt site0 draw mk bs hidden j o=some vo):
  rR P o.op=some vo.op/\vo.dst=o.dst/\vo.site=site0+j/\(∀d,o.dst=some d->d<nt)/\(match o.guard with
   |none=>vo.guard=none
   |some (i,b)=>∃t,(ops[i]?).bind (·.dst)=some t/\vo.guard=some (t,b)):=by
 unfold lh at h
 simp only[Option.bind_eq_bind,Option.bind_eq_some_iff]at h
 obtain⟨v,hv,gd,hg,h⟩:=h
 split at h
 ·rename_i hd
  simp only[Option.pure_def,Option.some.injEq]at h
  subst h
  refine⟨hv,rfl,rfl,fun d Ur=>?_,?_⟩
  ·rw[Ur]at hd;simpa using hd
  ·unfold Eo at hg
   cases yH:o.guard with
   |none=>rw[yH]at hg;simp at hg;exact hg.symm
   |some p=>
    obtain⟨i,b⟩:=p
    rw[yH]at hg
    dsimp only at hg ⊢
    split at hg
    ·rename_i t ht
     simp at hg;exact⟨t,ht,hg.symm⟩
    ·simp at hg
 ·simp at h
theorem uf {ops:Array Oper} {vo:br} (E:cI P w D ι env a) (hg:match o.guard with
   |none=>vo.guard=none
   |some (i,b)=>∃t,(ops[i]?).bind (·.dst)=some t/\vo.guard=some (t,b)):aQ vo.guard env=Region.wanted o (yielded ops a.tmps):=by
 unfold Region.wanted
 cases yH:o.guard with
 |none=>rw[yH]at hg;simp only at hg;rw[hg];rfl
 |some p=>
  obtain⟨i,b⟩:=p
  rw[yH]at hg
  obtain⟨t,ht,hv⟩:=hg
  rw[hv]
  simp only[aQ,yielded,ht,Option.bind_some]
  have hr:=E t
  by_cases ew:t<a.tmps.size
  ·have fC:a.tmps[t]? =some a.tmps[t]:=Array.getElem?_eq_getElem ew
   have hd:a.tmps.getD t undef=a.tmps[t]:=by simp[ew]
   rw[hd]at hr
   rw[fC]
   generalize a.tmps[t]=u at hr
   cases he:env t with
   |bool c=>rw[he]at hr;rw[fA hr];simp
   |_=>
    rw[he]at hr
    have:∀c,u≠.bool c:=by
     intro c hu
     subst hu
     cases hr with
     |eZ _ _ h=>cases h
    cases u<;>simp_all
  ·have fC:a.tmps[t]? =none:=Array.getElem?_eq_none (Nat.le_of_not_lt ew)
   have hd:a.tmps.getD t undef=undef:=by simp[fC]
   rw[hd]at hr
   rw[fC]
   cases he:env t with
   |bool c=>rw[he]at hr;have:=fA hr;simp[undef]at this
   |_=>simp
theorem iO {dst:Option Nat} {nt:Nat} {u:Value} (E:cI P w D ι env a) (hr:di P w D ι v u) (hd:∀d,dst=some d->d<nt) (hs:a.tmps.size=nt):cI P w D ι (upd env dst v) (a.put dst u):=by
 intro t
 cases dst with
 |none=>exact E t
 |some d=>
  have ew:d<a.tmps.size:=by rw[hs];exact hd d rfl
  simp only[upd,Act.put]
  by_cases ht:t=d
  ·subst ht
   simp[ew];exact hr
  ·rw[if_neg ht]
   have:(a.tmps.setIfInBounds d u).getD t undef=a.tmps.getD t undef:=by
    simp only[Array.getD_eq_getD_getElem?]
    rw[Array.getElem?_setIfInBounds_ne (fun e=>ht e.symm)]
   rw[this];exact E t
theorem pc {hs:Nat} (E:cI P w D ι env a) (T:Step hs D ι w D' ι' w'):cI P w' D' ι' env a:=fun t=>T.rep (E t)
theorem ft (a:Act) (dst:Option Tmp) (u:Value):(a.put dst u).tmps.size=a.tmps.size:=by cases dst<;>simp[Act.put]
theorem put_defers (a:Act) (dst:Option Tmp) (u:Value):(a.put dst u).defers=a.defers:=by cases dst<;>rfl
theorem z7 {draw:Bool} {vo:br} {σ:au} {next:AV->au->Prop} {U:Nat->Prop} {Q:Exit->Act->World->Prop} {K:Act->World->Prop} (hc:rR P o.op=some vo.op) (hv:fM (Sound P) draw vo env σ next) (S:gJ P hs D ι σ.get w) (Us:Used ι σ.next U) (hU:¬U vo.site) (E:cI P w D ι env a)
  (hK:∀v σ' u D' ι' w',next v σ'->Step hs D ι w D' ι' w'->gJ P hs D' ι' σ'.get w'->di P w' D' ι' v u->Used ι' σ'.next (fun s=>U s∨s=vo.site)->σ.next<=σ'.next->K (a.put o.dst u) w'):o.wp P a w K Q:=by
 have close:∀v g',VS (Sound P) σ.next vo env σ.get v g'->next v ⟨g',σ.next⟩->o.wp P a w K Q:=fun v g' h1 h2=>
  BT hc h1 S Us hU E fun a' w' ⟨u,D',ι',ha,T,S',hR,U'⟩=>by subst ha;exact hK v ⟨g',σ.next⟩ u D' ι' w' h2 T S' hR U' (Nat.le_refl _)
 have KX:∀(f:Nat) (args:List AV) (vs:Array Value),Sound P f args ⟨σ.get,σ.next+1⟩ next->fF P w D ι args vs->(execOp a.eval o).run P w=.ok (.enter f vs) w->o.wp P a w K Q:=by
  intro f args vs h hA gy
  unfold Oper.wp
  rw[gy]
  refine(h hs D ι w vs S Us.next hA).mono ?_
  rintro e w' ⟨r,g',n',D',ι',u,rfl,hn,T,S',U',hle,hR⟩
  exact hK r ⟨g',n'⟩ u D' ι' w' hn T S' hR (U'.more fun _ h=>h.elim) (Nat.le_trans (Nat.le_succ _) hle)
 unfold fM at hv
 split at hv
 ·rename_i f args eA
  rcases hv with⟨r,hP,hn⟩|⟨_,hX⟩|⟨Gt,sz,rows,hM,hn⟩
  ·exact close r σ.get (by unfold VS;rw[eA];exact .inl ⟨hP,rfl⟩) hn
  rotate_left
  ·exact close _ _ (by unfold VS;rw[eA];exact .inr ⟨Gt,sz,rows,hM,rfl,rfl⟩) hn
  ·have lk:=hc
   rw[eA]at lk
   obtain⟨c,ho,kS,Gl,mQ⟩:=CO lk
   refine KX f _ (c.args.map a.eval) hX (oW E mQ) ?_
   simp only[execOp,ho,resolve,kS,Deferred.ofValue,Act.eval,Sem.run_bind,Sem.run_pure,Result.andThen_ok,invoke,Array.empty_append,Array.append_empty]
   exact jM Gl
 ·rename_i x args eA
  split at hv
  ·rename_i f dp hx
   have yl:wP (dm env x) (args.map (dm env))=some (f,args.map (dm env)++dp):=by rw[hx];rfl
   rcases hv with⟨r,hP,hn⟩|⟨_,hX⟩|⟨Gt,sz,rows,hM,hn⟩
   ·exact close r σ.get (by unfold VS;rw[eA];exact⟨f,_,yl,.inl ⟨hP,rfl⟩⟩) hn
   rotate_left
   ·exact close _ _ (by unfold VS;rw[eA];exact⟨f,_,yl,.inr ⟨Gt,sz,rows,hM,rfl,rfl⟩⟩) hn
   ·have lk:=hc
    rw[eA]at lk
    obtain⟨c,t,ho,kS,rfl,mQ⟩:=tO lk
    obtain⟨first,us,he,Gl,hL⟩:=wR (v:=a.eval (.tmp t)) yl (E t) (oW E mQ)
    refine KX f _ (first++c.args.map a.eval++us) hX hL ?_
    simp only[execOp,ho,resolve,kS,he,Deferred.ofValue,Sem.run_bind,Sem.run_pure,Result.andThen_ok,invoke]
    exact jM Gl
  ·rename_i f dp hx
   have yl:wP (dm env x) (args.map (dm env))=some (f,dp++args.map (dm env)):=by rw[hx];rfl
   rcases hv with⟨r,hP,hn⟩|⟨_,hX⟩|⟨Gt,sz,rows,hM,hn⟩
   ·exact close r σ.get (by unfold VS;rw[eA];exact⟨f,_,yl,.inl ⟨hP,rfl⟩⟩) hn
   rotate_left
   ·exact close _ _ (by unfold VS;rw[eA];exact⟨f,_,yl,.inr ⟨Gt,sz,rows,hM,rfl,rfl⟩⟩) hn
   ·have lk:=hc
    rw[eA]at lk
    obtain⟨c,t,ho,kS,rfl,mQ⟩:=tO lk
    obtain⟨first,us,he,Gl,hL⟩:=wR (v:=a.eval (.tmp t)) yl (E t) (oW E mQ)
    refine KX f _ (first++c.args.map a.eval++us) hX hL ?_
    simp only[execOp,ho,resolve,kS,he,Deferred.ofValue,Sem.run_bind,Sem.run_pure,Result.andThen_ok,invoke]
    exact jM Gl
  ·exact hv.elim
 ·rename_i m x y eA
  split at hv
  ·rename_i v' g' he
   exact close v' g' (by unfold VS;rw[eA];rw[eA]at he;exact he) hv
  ·exact hv.elim
 ·rename_i m x y eA
  split at hv
  ·rename_i v' g' he
   exact close v' g' (by unfold VS;rw[eA];rw[eA]at he;exact he) hv
  ·exact hv.elim
 ·rename_i m x y eA
  split at hv
  ·rename_i v' g' he
   exact close v' g' (by unfold VS;rw[eA];rw[eA]at he;exact he) hv
  ·exact hv.elim
 ·rename_i m x eA
  split at hv
  ·rename_i v' g' he
   exact close v' g' (by unfold VS;rw[eA];rw[eA]at he;exact he) hv
  ·exact hv.elim
 ·rename_i m x eA
  split at hv
  ·rename_i v' g' he
   exact close v' g' (by unfold VS;rw[eA];rw[eA]at he;exact he) hv
  ·exact hv.elim
 ·rename_i n1 n2 n3 n4 n5 n6 n7
  split at hv
  ·rename_i v' r hq
   refine close v' (bQ σ.get ⟨vo.site,σ.next⟩ r) ?_ hv
   unfold VS
   split
   ·rename_i h;exact(n1 _ _ h).elim
   ·rename_i h;exact(n2 _ _ h).elim
   ·rename_i h;exact(n3 _ _ _ h).elim
   ·rename_i h;exact(n4 _ _ _ h).elim
   ·rename_i h;exact(n5 _ _ _ h).elim
   ·rename_i h;exact(n6 _ _ h).elim
   ·rename_i h;exact(n7 _ _ h).elim
   ·exact⟨some r,hq,rfl⟩
  ·rename_i v' hq
   refine close v' σ.get ?_ hv
   unfold VS
   split
   ·rename_i h;exact(n1 _ _ h).elim
   ·rename_i h;exact(n2 _ _ h).elim
   ·rename_i h;exact(n3 _ _ _ h).elim
   ·rename_i h;exact(n4 _ _ _ h).elim
   ·rename_i h;exact(n5 _ _ _ h).elim
   ·rename_i h;exact(n6 _ _ h).elim
   ·rename_i h;exact(n7 _ _ h).elim
   ·exact⟨none,hq,rfl⟩
  ·exact hv.elim
structure St (P:Program) (hs nt:Nat) (D:Nat->Prop) (ι:Names) (env:Env) (σ:au) (a:Act) (w:World):Prop where
 tX:gJ P hs D ι σ.get w
 used:Used ι σ.next (fun _=>False)
 env:cI P w D ι env a
 size:a.tmps.size=nt
theorem xG (rest:List Oper) {ops:Array Oper} {nt site0:Nat} {draw mk:Bool} {bs:Array Nat} {hidden:List (Nat×Bool)} {K:Env->au->Prop} {Q:Exit->Act->World->Prop}:∀(l:List Oper) (vl:List br) (j:Nat) (env:Env) (σ:au) (a:Act) (w:World) (D:Nat->Prop) (ι:Names) (U:Nat->Prop),
  allM (lh P ops nt site0 draw mk bs hidden) l j=some vl->wpOps (Sound P) draw vl K env σ->gJ P hs D ι σ.get w->Used ι σ.next U->(∀s,U s->s<site0+j)->cI P w D ι env a->a.tmps.size=nt->
  (∀iU σ' a' w' D' ι',K iU σ'->Step hs D ι w D' ι' w'->St P hs nt D' ι' iU σ' a' w'->a'.defers=a.defers->σ.next<=σ'.next->wpList P ops Q rest a' w')->wpList P ops Q (l++rest) a w:=by
 intro l
 induction l with
 |nil=>
  intro vl j env σ a w D ι U h hv S Us _ E fH hQ
  simp[allM]at h;subst h
  exact hQ env ⟨σ.get,σ.next+1⟩ a w D ι hv (Step.refl _ _ _ _) ⟨S,Us.next,E,fH⟩ rfl (Nat.le_succ _)
 |cons o l ih=>
  intro vl j env σ a w D ι U h hv S Us hU E fH hQ
  simp only[allM,Option.bind_eq_bind,Option.bind_eq_some_iff,Option.pure_def,Option.some.injEq]at h
  obtain⟨vo,qv,ue,tg,rfl⟩:=h
  obtain⟨hc,hd,CG,yG,hg⟩:=pV qv
  have hw:=uf (ops:=ops) (vo:=vo) E hg
  unfold wpOps at hv
  show wpList P ops Q (o::(l++rest)) a w
  unfold wpList
  rw[<-hw]
  split at hv
  ·rename_i HJ
   rw[if_pos HJ]
   refine .inl (z7 hc hv S Us (fun h=>by have:=hU _ h;omega) E fun v σ' u D' ι' w' hn T S' hR U' hle=>?_)
   refine ih ue (j+1) (upd env vo.dst v) σ' (a.put o.dst u) w' D' ι' _ tg hn S' U' (fun s CD=>by
    rcases CD with h|h
    ·have:=hU _ h;omega
    ·omega) (by rw[hd];exact iO (pc E T) hR yG fH) (by rw[ft];exact fH) fun iU σ2 a' w2 D2 ι2 hk T2 O4 EL nH=>hQ iU σ2 a' w2 D2 ι2 hk (T.trans T2) O4 (EL.trans (put_defers _ _ _)) (Nat.le_trans hle nH)
  ·rename_i HJ
   rw[if_neg HJ]
   refine ih ue (j+1) (upd env vo.dst .undef) σ (a.put o.dst undef) w D ι U tg hv S Us (fun s CD=>by have:=hU _ CD;omega) (by rw[hd];exact iO E di.undef yG fH) (by rw[ft];exact fH) fun iU σ2 a' w2 D2 ι2 hk T2 O4 EL nH=>hQ iU σ2 a' w2 D2 ι2 hk T2 O4 (EL.trans (put_defers _ _ _)) nH
theorem zJ {ops:Array Oper} {nt site0:Nat} {draw mk:Bool} {bs:Array Nat} {hidden:List (Nat×Bool)} {K:Env->au->Prop} {Q:Exit->Act->World->Prop}:∀(l:List Oper) (vl:List br) (j:Nat) (env:Env) (σ:au) (a:Act) (w:World) (D:Nat->Prop) (ι:Names) (U:Nat->Prop),
  allM (lh P ops nt site0 draw mk bs hidden) l j=some vl->wpOps (Sound P) draw vl K env σ->gJ P hs D ι σ.get w->Used ι σ.next U->(∀s,U s->s<site0+j)->cI P w D ι env a->a.tmps.size=nt->
  (∀iU σ' a' w' D' ι',K iU σ'->Step hs D ι w D' ι' w'->St P hs nt D' ι' iU σ' a' w'->a'.defers=a.defers->σ.next<=σ'.next->Q .normal a' w')->wpList P ops Q l a w:=fun l vl j env σ a w D ι U h hv S Us hU E fH hQ=>by
 have:=xG [] l vl j env σ a w D ι U h hv S Us hU E fH hQ
 rwa [List.append_nil]at this
end
end Go.Proofs.YtgoelphibofcmaaGreat.V

namespace Go.Proofs.YtgoelphibofcmaaGreat.V
open Go.RowKit
variable {P:Program} {w w':World} {D D' D2:Nat->Prop} {ι ι' ι2:Names}
section
variable {hs:Nat} {X:fZ}
theorem bw {env jj:Env} {x:O} (h:∀t∈iq x,env t=jj t):dm env x=dm jj x:=by
 cases x with
 |t n=>exact h n (by simp[iq])
 |_=>rfl
theorem map_congr {env jj:Env} {l:List O} (h:∀t∈l.flatMap iq,env t=jj t):l.map (dm env)=l.map (dm jj):=
 List.map_congr_left fun x hx=>bw fun t ht=>h t (List.mem_flatMap.2 ⟨x,hx,ht⟩)
theorem qc {env jj:Env} {x:Option O} (h:∀t∈xH x,env t=jj t):x.map (dm env)=x.map (dm jj):=by
 cases x with
 |none=>rfl
 |some y=>simp only[Option.map_some];rw[bw h]
theorem tV {env jj:Env} {o:gN} {g:Rows} {id:Id} (h:∀t∈o.gU,env t=jj t):eU o (dm env) g id=eU o (dm jj) g id:=by
 cases o<;>simp only[gN.gU,List.mem_append]at h<;>simp only[eU]
 case dz x=>rw[bw h]
 case pick c a b=>rw[bw (x:=c) fun t ht=>h t (.inl (.inl ht)),bw (x:=a) fun t ht=>h t (.inl (.inr ht)),bw (x:=b) fun t ht=>h t (.inr ht)]
 case box x=>rw[bw h]
 case build z ps=>
  have:(ps.map fun(x:Nat×Nat×O)=>(x.1,x.2.1,dm env x.2.2))=ps.map fun(x:Nat×Nat×O)=>(x.1,x.2.1,dm jj x.2.2):=List.map_congr_left fun x hx=>by
   rw[bw (x:=x.2.2) fun t ht=>h t (List.mem_flatMap.2 ⟨x,hx,ht⟩)]
  rw[this]
 case mc a b l=>rw[map_congr h]
 case load a n x=>rw[bw h]
 case BB x=>rw[bw h]
 case bin a b x y=>rw[bw (x:=x) fun t ht=>h t (.inl ht),bw (x:=y) fun t ht=>h t (.inr ht)]
 case sh a x y=>rw[bw (x:=x) fun t ht=>h t (.inl ht),bw (x:=y) fun t ht=>h t (.inr ht)]
 case MA a x y=>rw[bw (x:=x) fun t ht=>h t (.inl ht),bw (x:=y) fun t ht=>h t (.inr ht)]
 case Pq a b x y=>rw[bw (x:=x) fun t ht=>h t (.inl ht),bw (x:=y) fun t ht=>h t (.inr ht)]
 case T9 a b x y=>rw[bw (x:=x) fun t ht=>h t (.inl ht),bw (x:=y) fun t ht=>h t (.inr ht)]
 case Sc a b x=>rw[bw h]
 case Ua a x=>rw[bw h]
 case not x=>rw[bw h]
 case neg x=>rw[bw h]
 case conv k x=>rw[bw h]
 case Gb x=>rw[bw h]
 case slice s x lo hi=>rw[bw (x:=x) fun t ht=>h t (.inl (.inl ht)),qc (x:=lo) fun t ht=>h t (.inl (.inr ht)),qc (x:=hi) fun t ht=>h t (.inr ht)]
 case Be x lo hi=>rw[bw (x:=x) fun t ht=>h t (.inl (.inl ht)),qc (x:=lo) fun t ht=>h t (.inl (.inr ht)),qc (x:=hi) fun t ht=>h t (.inr ht)]
 case gp k x=>rw[bw h]
 case field a b c x=>rw[bw h]
 case dY s x y=>rw[bw (x:=x) fun t ht=>h t (.inl ht),bw (x:=y) fun t ht=>h t (.inr ht)]
 case Nb n s x y=>rw[bw (x:=x) fun t ht=>h t (.inl ht),bw (x:=y) fun t ht=>h t (.inr ht)]
 case Nd x y=>rw[bw (x:=x) fun t ht=>h t (.inl ht),bw (x:=y) fun t ht=>h t (.inr ht)]
 case eY a b c x y=>rw[bw (x:=x) fun t ht=>h t (.inl ht),bw (x:=y) fun t ht=>h t (.inr ht)]
 case extract i x=>rw[bw h]
 case len x=>rw[bw h]
 case Nq x=>rw[bw h]
 case KS x=>rw[bw h]
 case KJ x=>rw[bw h]
 case Nv f l=>rw[map_congr h]
 case Nw f l=>rw[map_congr h]
 case mq f l=>rw[map_congr h]
 case kg z x y=>rw[bw (x:=x) fun t ht=>h t (.inl ht),bw (x:=y) fun t ht=>h t (.inr ht)]
theorem iz {env jj:Env} {o:gN} {g:Rows} {id:Id} (h:∀t∈o.gU,env t=jj t):fY o (dm env) g id=fY o (dm jj) g id:=by
 cases o<;>simp only[gN.gU,List.mem_append]at h<;>simp only[fY]
 case clear z x=>rw[bw h]
 case mw f l=>rw[map_congr h]
 all_goals rename_i a x y
 all_goals rw[bw (x:=x) fun t ht=>h t (.inl ht),bw (x:=y) fun t ht=>h t (.inr ht)]
theorem Jp {n:Nat} {vo:br} {env jj:Env} {g g':Rows} {v:AV} (h:∀t∈vo.op.gU,env t=jj t) (hv:VS X n vo env g v g'):VS X n vo jj g v g':=by
 unfold VS at hv ⊢
 split at hv
 ·rename_i f args eA
  rw[eA]at h
  simp only[gN.gU]at h
  rw[<-map_congr h];exact hv
 ·rename_i x args eA
  rw[eA]at h
  simp only[gN.gU,List.mem_append]at h
  rw[<-map_congr (l:=args) fun t ht=>h t (.inr ht),<-bw (x:=x) fun t ht=>h t (.inl ht)];exact hv
 ·rw[<-iz h];exact hv
 ·rw[<-iz h];exact hv
 ·rw[<-iz h];exact hv
 ·rw[<-iz h];exact hv
 ·rw[<-iz h];exact hv
 ·rw[<-tV h];exact hv
theorem Fj {q:MQ} {vs:List AV} {g:Rows} {id:Id} {v:AV} {r:Row} (h:bH q vs g id=some (v,some r)):∃m,q=.new m:=by
 unfold bH at h
 split at h
 ·exact⟨_,rfl⟩
 ·simp[Option.bind_eq_some_iff]at h
 ·simp at h
 ·cases h
theorem xK {o:gN} {ρ:O->AV} {g:Rows} {id:Id} {v:AV} {r:Row} (h:eU o ρ g id=some (v,some r)):rJ o=true:=by
 cases o<;>simp only[eU]at h<;>(try rfl)<;>(try simp at h)
 case mq q xs=>obtain⟨m,rfl⟩:=Fj h;rfl
 all_goals (try(split at h<;>simp at h))
theorem xL {o:gN} {ρ:O->AV} {g g2:Rows} {id id2:Id} (h:o.cls=.pure):eU o ρ g id=eU o ρ g2 id2:=by
 cases o<;>(try simp[gN.cls]at h)<;>(try simp only[eU])
 case mq q xs=>cases q<;>simp[gN.cls]at h
theorem wI {n:Nat} {vo:br} {env:Env} {g g':Rows} {v:AV} (hw:vo.op.cls≠.write) (hv:VS X n vo env g v g'):∃mr,g'=jz g ⟨vo.site,n⟩ mr/\(mr≠none->vo.makes=true)/\∀g0,fW vo.hid n g0=fW vo.hid n g->VS X n vo env g0 v (jz g0 ⟨vo.site,n⟩ mr):=by
 unfold VS at hv
 split at hv
 ·rename_i f args eA
  rcases hv with⟨h1,rfl⟩|⟨hs,sz,rows,hM,rfl,rfl⟩
  ·refine⟨none,rfl,fun h=>(h rfl).elim,fun g0 h0=>?_⟩
   unfold VS;rw[eA];simp only;unfold wQ;rw[h0];exact .inl ⟨h1,rfl⟩
  ·refine⟨some _,rfl,fun _=>by unfold br.makes;rw[eA,hs];simp[gN.mh],fun g0 h0=>?_⟩
   unfold VS;rw[eA];simp only;unfold wQ;rw[h0];exact .inr ⟨hs,sz,rows,hM,rfl,rfl⟩
 ·rename_i x args eA
  obtain⟨f,dp,hx,hv⟩:=hv
  rcases hv with⟨h1,rfl⟩|⟨hs,sz,rows,hM,rfl,rfl⟩
  ·refine⟨none,rfl,fun h=>(h rfl).elim,fun g0 h0=>?_⟩
   unfold VS;rw[eA];simp only;unfold wQ;rw[h0];exact⟨f,dp,hx,.inl ⟨h1,rfl⟩⟩
  ·refine⟨some _,rfl,fun _=>by unfold br.makes;rw[eA,hs];simp[gN.mh],fun g0 h0=>?_⟩
   unfold VS;rw[eA];simp only;unfold wQ;rw[h0];exact⟨f,dp,hx,.inr ⟨hs,sz,rows,hM,rfl,rfl⟩⟩
 ·rename_i eA;rw[eA]at hw;exact(hw rfl).elim
 ·rename_i eA;rw[eA]at hw;exact(hw rfl).elim
 ·rename_i eA;rw[eA]at hw;exact(hw rfl).elim
 ·rename_i eA;rw[eA]at hw;exact(hw rfl).elim
 ·rename_i eA;rw[eA]at hw;exact(hw rfl).elim
 ·rename_i n1 n2 n3 n4 n5 n6 n7
  obtain⟨mr,hq,rfl⟩:=hv
  refine⟨mr,rfl,fun h=>?_,fun g0 h0=>?_⟩
  ·cases mr with
   |none=>exact(h rfl).elim
   |some r=>unfold br.makes;rw[xK hq];rfl
  ·unfold VS
   split
   ·rename_i hh;exact(n1 _ _ hh).elim
   ·rename_i hh;exact(n2 _ _ hh).elim
   ·rename_i hh;exact(n3 _ _ _ hh).elim
   ·rename_i hh;exact(n4 _ _ _ hh).elim
   ·rename_i hh;exact(n5 _ _ _ hh).elim
   ·rename_i hh;exact(n6 _ _ hh).elim
   ·rename_i hh;exact(n7 _ _ hh).elim
   ·rw[h0];exact⟨mr,hq,rfl⟩
theorem Ad {n:Nat} {vo:br} {env:Env} {g g':Rows} {v:AV} (hp:vo.op.cls=.pure) (hv:VS X n vo env g v g'):g'=g/\∀g0,VS X n vo env g0 v g0:=by
 unfold VS at hv
 split at hv
 ·rename_i eA;rw[eA]at hp;simp[gN.cls]at hp
 ·rename_i eA;rw[eA]at hp;simp[gN.cls]at hp
 ·rename_i eA;rw[eA]at hp;simp[gN.cls]at hp
 ·rename_i eA;rw[eA]at hp;simp[gN.cls]at hp
 ·rename_i eA;rw[eA]at hp;simp[gN.cls]at hp
 ·rename_i eA;rw[eA]at hp;simp[gN.cls]at hp
 ·rename_i eA;rw[eA]at hp;simp[gN.cls]at hp
 ·rename_i n1 n2 n3 n4 n5 n6 n7
  obtain⟨mr,hq,rfl⟩:=hv
  have Wf:mr=none:=by
   cases mr with
   |none=>rfl
   |some r=>have:=xK hq;simp[rJ,hp]at this
  subst Wf
  refine⟨rfl,fun g0=>?_⟩
  unfold VS
  split
  ·rename_i hh;exact(n1 _ _ hh).elim
  ·rename_i hh;exact(n2 _ _ hh).elim
  ·rename_i hh;exact(n3 _ _ _ hh).elim
  ·rename_i hh;exact(n4 _ _ _ hh).elim
  ·rename_i hh;exact(n5 _ _ _ hh).elim
  ·rename_i hh;exact(n6 _ _ hh).elim
  ·rename_i hh;exact(n7 _ _ hh).elim
  ·exact⟨none,by rw[xL hp];exact hq,rfl⟩
def GS (X:fZ) (n:Nat) (vo:br) (env:Env) (g:Rows) (v:AV) (g':Rows):Prop:=
 if aQ vo.guard env then VS X n vo env g v g' else v=.undef/\g'=g
theorem DL {hid:List Nat} {g:Rows} {s n:Nat} {mr:Option Row} (h:mr≠none->hid.contains s=true):fW hid n (jz g ⟨s,n⟩ mr)=fW hid n g:=by
 cases mr with
 |none=>rfl
 |some r=>
  have hc:=h (by simp)
  cases hid with
  |nil=>simp at hc
  |cons a l=>
   funext i
   show(if (a::l).contains i.site=true/\i.bE=n then none else jz g ⟨s,n⟩ (some r) i)=if (a::l).contains i.site=true/\i.bE=n then none else g i
   by_cases hi:i=⟨s,n⟩
   ·subst hi;rw[if_pos ⟨hc,rfl⟩,if_pos ⟨hc,rfl⟩]
   ·simp only[jz,bQ,if_neg hi]
theorem Hb {g:Rows} {i j:Id} (h:i≠j) (m1 m2:Option Row):jz (jz g i m1) j m2=jz (jz g j m2) i m1:=by
 cases m1<;>cases m2<;>simp only[jz]
 funext k
 simp only[bQ]
 by_cases h1:k=i
 ·subst h1;rw[if_neg h,if_pos rfl];simp
 ·by_cases h2:k=j
  ·subst h2;simp[h1]
  ·simp[h1,h2]
theorem yf {env:Env} {d e:Option Nat} {v u:AV} (h:∀k,d=some k->e≠some k):upd (upd env d v) e u=upd (upd env e u) d v:=by
 cases d with
 |none=>rfl
 |some d=>
  cases e with
  |none=>rfl
  |some e=>
   have gM:d≠e:=fun he=>h d rfl (by rw[he])
   funext t
   simp only[upd]
   by_cases h1:t=d
   ·subst h1;rw[if_neg gM,if_pos rfl,if_pos rfl]
   ·by_cases h2:t=e
    ·subst h2;rw[if_pos rfl,if_neg h1,if_pos rfl]
    ·simp[h1,h2]
theorem ns {env:Env} {d:Option Nat} {v:AV} {l:List Nat} (h:∀k,d=some k->k∉l):∀t∈l,upd env d v t=env t:=by
 intro t ht
 cases d with
 |none=>rfl
 |some d=>
  have:t≠d:=fun he=>h d rfl (he▸ht)
  simp[upd,this]
structure D7 (x y:br):Prop where
 xy:∀k,x.dst=some k->k∉y.gU
 yx:∀k,y.dst=some k->k∉x.gU
 dst:∀k,x.dst=some k->y.dst≠some k
 cls:clash x.op.cls y.op.cls=false
 hx:x.makes=true->y.hid.contains x.site=true
 hy:y.makes=true->x.hid.contains y.site=true
 site:x.site≠y.site
theorem D7.symm {x y:br} (h:D7 x y):D7 y x:=
 ⟨h.yx,h.xy,fun k hk he=>h.dst k he hk,by have:=h.cls;revert this;cases x.op.cls<;>cases y.op.cls<;>simp[clash],h.hy,h.hx,fun e=>h.site e.symm⟩
theorem qW {x y:br} (h:Gj x y=true):D7 x y:=by
 unfold Gj at h
 simp only[Bool.and_eq_true,Bool.not_eq_true',Bool.or_eq_true,bne_iff_ne]at h
 obtain⟨⟨⟨⟨h1,h2⟩,h3⟩,h4⟩,h5⟩:=h
 unfold ud at h1
 simp only[Bool.and_eq_true]at h1
 obtain⟨a1,a2⟩:=h1
 refine⟨fun k hk=>?_,fun k hk=>?_,fun k hk=>?_,h2,fun hm=>?_,fun hm=>?_,h5⟩
 ·rw[hk]at a1;simp at a1;exact a1.1
 ·rw[hk]at a2;simpa using a2
 ·rw[hk]at a1;simp at a1;exact a1.2
 ·rcases h3 with h3|h3
  ·rw[hm]at h3;cases h3
  ·exact h3
 ·rcases h4 with h4|h4
  ·rw[hm]at h4;cases h4
  ·exact h4
theorem sV {vo:br} {t:Nat} (h:t∈vo.op.gU):t∈vo.gU:=List.mem_append_left _ h
theorem nU {vo:br} {env jj:Env} (h:∀t∈vo.gU,env t=jj t):aQ vo.guard env=aQ vo.guard jj:=by
 unfold aQ
 cases hg:vo.guard with
 |none=>rfl
 |some p=>
  obtain⟨t,b⟩:=p
  have:env t=jj t:=h t (List.mem_append_right _ (by rw[hg];simp))
  simp only[this]
theorem wm {n:Nat} {vo:br} {env jj:Env} {g g':Rows} {v:AV} (h:∀t∈vo.gU,env t=jj t) (hv:GS X n vo env g v g'):GS X n vo jj g v g':=by
 unfold GS at hv ⊢
 rw[<-nU h]
 split at hv
 ·rename_i hw;rw[if_pos hw];exact Jp (fun t ht=>h t (sV ht)) hv
 ·rename_i hw;rw[if_neg hw];exact hv
theorem F2 {n:Nat} {x y:br} {env:Env} {g g1 g2:Rows} {v v':AV} (F:D7 x y) (h1:GS X n x env g v g1) (h2:GS X n y (upd env x.dst v) g1 v' g2):
  ∃MI,GS X n y env g v' MI/\GS X n x (upd env y.dst v') MI v g2/\upd (upd env x.dst v) y.dst v'=upd (upd env y.dst v') x.dst v:=by
 have OC:=yf (env:=env) (v:=v) (u:=v') F.dst
 replace h2:GS X n y env g1 v' g2:=wm (ns F.xy) h2
 have back:∀{MI},GS X n x env MI v g2->GS X n x (upd env y.dst v') MI v g2:=fun h=>wm (fun t ht=>(ns F.yx t ht).symm) h
 unfold GS at h1 h2
 by_cases wx:aQ x.guard env=true
 ·rw[if_pos wx]at h1
  by_cases wy:aQ y.guard env=true
  ·rw[if_pos wy]at h2
   by_cases cx:x.op.cls=.write
   ·have cy:y.op.cls=.pure:=by
     have:=F.cls;rw[cx]at this
     cases hc:y.op.cls<;>simp[clash,hc]at this ⊢
    obtain⟨rfl,dx⟩:=Ad cy h2
    exact⟨g,by unfold GS;rw[if_pos wy];exact dx g,back (by unfold GS;rw[if_pos wx];exact h1),OC⟩
   ·by_cases cy:y.op.cls=.write
    ·have cx':x.op.cls=.pure:=by
      have:=F.cls;rw[cy]at this
      cases hc:x.op.cls<;>simp[clash,hc]at this ⊢
     obtain⟨rfl,dx⟩:=Ad cx' h1
     exact⟨g2,by unfold GS;rw[if_pos wy];exact h2,back (by unfold GS;rw[if_pos wx];exact dx g2),OC⟩
    ·obtain⟨mx,rfl,kx,Vc⟩:=wI cx h1
     obtain⟨my,rfl,ky,O8⟩:=wI cy h2
     have gM:(⟨x.site,n⟩:Id)≠⟨y.site,n⟩:=fun e=>F.site (by injection e)
     refine⟨jz g ⟨y.site,n⟩ my,?_,back ?_,OC⟩
     ·unfold GS;rw[if_pos wy]
      exact O8 g (DL fun h=>F.hx (kx h)).symm
     ·unfold GS;rw[if_pos wx,Hb gM]
      exact Vc _ (DL fun h=>F.hy (ky h))
  ·rw[if_neg wy]at h2
   obtain⟨rfl,rfl⟩:=h2
   exact⟨g,by unfold GS;rw[if_neg wy];exact⟨rfl,rfl⟩,back (by unfold GS;rw[if_pos wx];exact h1),OC⟩
 ·rw[if_neg wx]at h1
  obtain⟨rfl,rfl⟩:=h1
  exact⟨g2,h2,back (by unfold GS;rw[if_neg wx];exact⟨rfl,rfl⟩),OC⟩
end
end Go.Proofs.YtgoelphibofcmaaGreat.V

namespace Go.Proofs.YtgoelphibofcmaaGreat.V
open Go.RowKit
variable {P:Program} {w w':World} {D D' D2:Nat->Prop} {ι ι' ι2:Names}
section
variable {hs:Nat} {X:fZ}
def jA (acc:Array Nat) (o:Oper):Nat:=o.after.foldl (fun s e=>if Region.binds .any e then s|||2 ^ e.on|||acc.getD e.on 0 else s) 0
theorem Mv (ops:Array Oper):jR ops=ops.foldl (fun acc o=>acc.push (jA acc o)) #[]:=rfl
theorem B3 {acc:Array Nat} {o:Oper} {i:Nat} (h:(jA acc o).testBit i=true):∃e∈o.after,Region.binds .any e=true/\(e.on=i∨(acc.getD e.on 0).testBit i=true):=by
 unfold jA at h
 rw[<-Array.foldl_toList]at h
 have gen:∀(l:List Edge) (s:Nat),(l.foldl (fun s e=>if Region.binds .any e then s|||2 ^ e.on|||acc.getD e.on 0 else s) s).testBit i=true->s.testBit i=true∨∃e∈l,Region.binds .any e=true/\(e.on=i∨(acc.getD e.on 0).testBit i=true):=by
  intro l
  induction l with
  |nil=>intro s h;exact .inl h
  |cons e r ih=>
   intro s h
   rw[List.foldl_cons]at h
   rcases ih _ h with h|⟨e',MT,h'⟩
   ·by_cases hb:Region.binds .any e=true
    ·rw[if_pos hb]at h
     simp only[Nat.testBit_or,Bool.or_eq_true]at h
     rcases h with(h|h)|h
     ·exact .inl h
     ·refine .inr ⟨e,by simp,hb,.inl ?_⟩
      rw[Nat.testBit_two_pow]at h
      simpa using h
     ·exact .inr ⟨e,by simp,hb,.inr h⟩
    ·rw[if_neg hb]at h;exact .inl h
   ·exact .inr ⟨e',List.mem_cons_of_mem _ MT,h'⟩
 rcases gen _ _ h with h|⟨e,he,h⟩
 ·simp at h
 ·exact⟨e,Array.mem_toList_iff.1 he,h⟩
theorem Jz {ops:Array Oper} {j i:Nat} (h:((jR ops).getD j 0).testBit i=true):∃o,ops[j]? =some o/\∃e∈o.after,Region.binds .any e=true/\(e.on=i∨((jR ops).getD e.on 0).testBit i=true):=by
 have key:∀(l pre:List Oper) (acc:Array Nat),acc.size=pre.length->(∀j i,(acc.getD j 0).testBit i=true->∃o,pre[j]? =some o/\∃e∈o.after,Region.binds .any e=true/\(e.on=i∨(acc.getD e.on 0).testBit i=true))->
   ∀j i,((l.foldl (fun acc o=>acc.push (jA acc o)) acc).getD j 0).testBit i=true->∃o,(pre++l)[j]? =some o/\∃e∈o.after,Region.binds .any e=true/\(e.on=i∨((l.foldl (fun acc o=>acc.push (jA acc o)) acc).getD e.on 0).testBit i=true):=by
  intro l
  induction l with
  |nil=>intro pre acc _ h j i hb;simpa using h j i hb
  |cons o r ih=>
   intro pre acc fH h j i hb
   have zI:∀k,k<acc.size->(acc.push (jA acc o)).getD k 0=acc.getD k 0:=fun k hk=>by
    simp only[Array.getD_eq_getD_getElem?,Array.getElem?_push]
    rw[if_neg (by omega)]
   have big:∀k,acc.size<=k->acc.getD k 0=0:=fun k hk=>by simp[Array.getElem?_eq_none hk]
   have lift:∀k i,(acc.getD k 0).testBit i=true->((acc.push (jA acc o)).getD k 0).testBit i=true:=fun k i hk=>by
    by_cases ew:k<acc.size
    ·rw[zI k ew];exact hk
    ·rw[big k (by omega)]at hk;simp at hk
   have:=ih (pre++[o]) (acc.push (jA acc o)) (by simp[fH]) (fun j i hb=>by
    by_cases ew:j<acc.size
    ·rw[zI j ew]at hb
     obtain⟨o',DV,e,he,gm,h2⟩:=h j i hb
     refine⟨o',by rw[List.getElem?_append_left (by omega)];exact DV,e,he,gm,?_⟩
     rcases h2 with h2|h2
     ·exact .inl h2
     ·exact .inr (lift _ _ h2)
    ·by_cases hj:j=acc.size
     ·subst hj
      have e0:(acc.push (jA acc o)).getD acc.size 0=jA acc o:=by simp
      rw[e0]at hb
      obtain⟨e,he,gm,h2⟩:=B3 hb
      refine⟨o,by rw[List.getElem?_append_right (by omega),fH];simp,e,he,gm,?_⟩
      rcases h2 with h2|h2
      ·exact .inl h2
      ·exact .inr (lift _ _ h2)
     ·have:(acc.push (jA acc o)).getD j 0=0:=by
       simp only[Array.getD_eq_getD_getElem?]
       rw[Array.getElem?_eq_none (by simp;omega)];rfl
      rw[this]at hb;simp at hb) j i (by simpa using hb)
   simpa using this
 rw[Mv,<-Array.foldl_toList]at h ⊢
 have:=key ops.toList [] #[] rfl (fun j i h=>by simp at h) j i h
 simpa using this
def DC (ops:Array Oper) (listed:Array Bool):Prop:=∀k i,listed.getD k false=true->((jR ops).getD k 0).testBit i=true->listed.getD i false=true
theorem lz {ops:Array Oper} {listed:Array Bool} (h:DC ops listed) {j:Nat} (hj:j∈Region.ready .any ops listed):∀i,((jR ops).getD j 0).testBit i=true->listed.getD i false=true:=by
 intro i hb
 obtain⟨_,o,ho,dx⟩:=mem_ready.1 hj
 obtain⟨o',DV,e,he,gm,h2⟩:=Jz hb
 rw[ho]at DV;injection DV with DV;subst DV
 have hl:=dx e he gm
 rcases h2 with h2|h2
 ·rw[<-h2];exact hl
 ·exact h _ _ hl h2
theorem DC.list {ops:Array Oper} {listed:Array Bool} (h:DC ops listed) {j:Nat} (hj:j∈Region.ready .any ops listed):DC ops (listed.setIfInBounds j true):=by
 intro k i hk hb
 by_cases hkj:k=j
 ·subst hkj;exact getD_set_true (lz h hj i hb)
 ·rw[getD_set_ne false (fun e=>hkj e.symm)]at hk
  exact getD_set_true (h k i hk hb)
theorem js {ops:Array Oper} {listed:Array Bool} {j:Nat} (hj:j∈Region.ready .any ops listed):listed.getD j false=false:=by
 have h0:=(mem_ready.1 hj).1
 rcases Nat.lt_or_ge j listed.size with h|h
 ·simp[h]at h0 ⊢;exact h0
 ·simp[Array.getElem?_eq_none h]at h0
def LR (X:fZ) (n:Nat) (ops:Array Oper) (vl:List br) (K:Env->Rows->Prop):Nat->Array Bool->Env->Rows->Prop
 |0,listed,env,g=>Region.ready .any ops listed=[]/\K env g
 |f+1,listed,env,g=>(Region.ready .any ops listed=[]->K env g)/\∀i∈Region.ready .any ops listed,∃vo,vl[i]? =some vo/\∃v g',GS X n vo env g v g'/\LR X n ops vl K f (listed.setIfInBounds i true) (upd env vo.dst v) g'
theorem Ce {ops:Array Oper} {vl:List br} (h:pb ops vl (jR ops)=true) {i j:Nat} {x y:br} (hi:vl[i]? =some x) (hj:vl[j]? =some y) (xi:i≠j) (h1:((jR ops).getD j 0).testBit i=false) (h2:((jR ops).getD i 0).testBit j=false):D7 x y:=by
 unfold pb at h
 simp only[Bool.and_eq_true,List.all_eq_true]at h
 obtain⟨_,h⟩:=h
 have mem:∀(k:Nat) (z:br),vl[k]? =some z->(z,k)∈vl.zipIdx:=fun k z hk=>by
  rw[List.mem_iff_getElem?]
  exact⟨k,by simp[List.getElem?_zipIdx,hk]⟩
 rcases Nat.lt_or_gt_of_ne xi with ew|MV
 ·have:=h _ (mem j y hj) _ (mem i x hi)
  simp only[ew,decide_true,Bool.not_true,Bool.false_or,h1]at this
  exact qW this
 ·have:=h _ (mem i x hi) _ (mem j y hj)
  simp only[MV,decide_true,Bool.not_true,Bool.false_or,h2]at this
  exact(qW this).symm
theorem FZ {n:Nat} {ops:Array Oper} {vl:List br} {K:Env->Rows->Prop} (xn:pb ops vl (jR ops)=true) (hlen:vl.length=ops.size) {i:Nat} {vi:br} (hi:vl[i]? =some vi) {v:AV}:∀(fuel:Nat) (listed:Array Bool) (env:Env) (g g1:Rows),
  DC ops listed->i∈Region.ready .any ops listed->GS X n vi env g v g1->LR X n ops vl K fuel (listed.setIfInBounds i true) (upd env vi.dst v) g1->LR X n ops vl K (fuel+1) listed env g:=by
 intro fuel
 induction fuel with
 |zero=>
  intro listed env g g1 _ hr hG H
  refine⟨fun h=>(by rw[h]at hr;cases hr),fun j hj=>?_⟩
  by_cases ny:j=i
  ·subst ny;exact⟨vi,hi,v,g1,hG,H⟩
  ·have:=ready_mono hj ny
   rw[H.1]at this;cases this
 |succ fuel ih=>
  intro listed env g g1 ta hr hG H
  refine⟨fun h=>(by rw[h]at hr;cases hr),fun j hj=>?_⟩
  by_cases ny:j=i
  ·subst ny;exact⟨vi,hi,v,g1,hG,H⟩
  ·obtain⟨vj,M9,v',g2,hG2,H2⟩:=H.2 j (ready_mono hj ny)
   have b1:((jR ops).getD j 0).testBit i=false:=by
    cases hb:((jR ops).getD j 0).testBit i with
    |false=>rfl
    |true=>have:=lz ta hj i hb;rw[js hr]at this;cases this
   have b2:((jR ops).getD i 0).testBit j=false:=by
    cases hb:((jR ops).getD i 0).testBit j with
    |false=>rfl
    |true=>have:=lz ta hr j hb;rw[js hj]at this;cases this
   have F:=Ce xn hi M9 (fun e=>ny e.symm) b1 b2
   obtain⟨MI,q1,q2,q3⟩:=F2 F hG hG2
   refine⟨vj,M9,v',MI,q1,ih _ _ _ g2 (ta.list hj) (ready_mono hr (fun e=>ny e.symm)) q2 ?_⟩
   rw[<-q3,Array.setIfInBounds_comm _ _ ny]
   exact H2
theorem O6 {n:Nat} {vo:br} {env:Env} {g:Rows} {v:AV} {mr:Option Row} (h:eU vo.op (dm env) (fW vo.hid n g) ⟨vo.site,n⟩=some (v,mr)):VS X n vo env g v (jz g ⟨vo.site,n⟩ mr):=by
 unfold VS
 split
 ·rename_i eA;rw[eA]at h;simp[eU]at h
 ·rename_i eA;rw[eA]at h;simp[eU]at h
 ·rename_i eA;rw[eA]at h;simp[eU]at h
 ·rename_i eA;rw[eA]at h;simp[eU]at h
 ·rename_i eA;rw[eA]at h;simp[eU]at h
 ·rename_i eA;rw[eA]at h;simp[eU]at h
 ·rename_i eA;rw[eA]at h;simp[eU]at h
 ·exact⟨mr,h,rfl⟩
theorem Jq {n:Nat} {vo:br} {env:Env} {g g':Rows} {v:AV} (h:fY vo.op (dm env) g ⟨vo.site,n⟩=some (v,g')):VS X n vo env g v g':=by
 unfold VS
 split
 ·rename_i eA;rw[eA]at h;simp[fY]at h
 ·rename_i eA;rw[eA]at h;simp[fY]at h
 ·exact h
 ·exact h
 ·exact h
 ·exact h
 ·exact h
 ·rename_i n1 n2 n3 n4 n5 n6 n7
  exfalso
  unfold fY at h
  split at h
  ·rename_i hh;exact n3 _ _ _ hh
  ·rename_i hh;exact n4 _ _ _ hh
  ·rename_i hh;exact n5 _ _ _ hh
  ·rename_i hh;exact n6 _ _ hh
  ·rename_i hh;exact n7 _ _ hh
  ·simp at h
theorem QW {vo:br} {env:Env} {σ:au} {next:AV->au->Prop} (hv:fM X true vo env σ next):∃v g',VS X σ.next vo env σ.get v g'/\next v ⟨g',σ.next⟩:=by
 unfold fM at hv
 split at hv
 ·rename_i f args eA
  rcases hv with⟨r,hP,hn⟩|⟨h,_⟩|⟨hs,sz,rows,hM,hn⟩
  ·exact⟨r,σ.get,by unfold VS;rw[eA];exact .inl ⟨hP,rfl⟩,hn⟩
  ·cases h
  ·exact⟨_,_,by unfold VS;rw[eA];exact .inr ⟨hs,sz,rows,hM,rfl,rfl⟩,hn⟩
 ·rename_i x args eA
  split at hv
  ·rename_i f dp hx
   have yl:wP (dm env x) (args.map (dm env))=some (f,args.map (dm env)++dp):=by rw[hx];rfl
   rcases hv with⟨r,hP,hn⟩|⟨h,_⟩|⟨hs,sz,rows,hM,hn⟩
   ·exact⟨r,σ.get,by unfold VS;rw[eA];exact⟨f,_,yl,.inl ⟨hP,rfl⟩⟩,hn⟩
   ·cases h
   ·exact⟨_,_,by unfold VS;rw[eA];exact⟨f,_,yl,.inr ⟨hs,sz,rows,hM,rfl,rfl⟩⟩,hn⟩
  ·rename_i f dp hx
   have yl:wP (dm env x) (args.map (dm env))=some (f,dp++args.map (dm env)):=by rw[hx];rfl
   rcases hv with⟨r,hP,hn⟩|⟨h,_⟩|⟨hs,sz,rows,hM,hn⟩
   ·exact⟨r,σ.get,by unfold VS;rw[eA];exact⟨f,_,yl,.inl ⟨hP,rfl⟩⟩,hn⟩
   ·cases h
   ·exact⟨_,_,by unfold VS;rw[eA];exact⟨f,_,yl,.inr ⟨hs,sz,rows,hM,rfl,rfl⟩⟩,hn⟩
  ·exact hv.elim
 ·split at hv
  ·rename_i v g h;exact⟨v,g,Jq h,hv⟩
  ·exact hv.elim
 ·split at hv
  ·rename_i v g h;exact⟨v,g,Jq h,hv⟩
  ·exact hv.elim
 ·split at hv
  ·rename_i v g h;exact⟨v,g,Jq h,hv⟩
  ·exact hv.elim
 ·split at hv
  ·rename_i v g h;exact⟨v,g,Jq h,hv⟩
  ·exact hv.elim
 ·split at hv
  ·rename_i v g h;exact⟨v,g,Jq h,hv⟩
  ·exact hv.elim
 ·split at hv
  ·rename_i v r h;exact⟨v,_,O6 h,hv⟩
  ·rename_i v h;exact⟨v,_,O6 h,hv⟩
  ·exact hv.elim
theorem yg {ops:Array Oper} {vl:List br} {K:Env->au->Prop} {n:Nat} (xn:pb ops vl (jR ops)=true) (hlen:vl.length=ops.size):∀(r:List br) (k:Nat) (listed:Array Bool) (env:Env) (g:Rows),
  (∀j,r[j]? =vl[k+j]?)->listed.size=ops.size->(∀i,i<ops.size->listed[i]? =some (decide (i<k)))->k+r.length=ops.size->DC ops listed->wpOps X true r K env ⟨g,n⟩->LR X n ops vl (fun env g=>K env ⟨g,n+1⟩) r.length listed env g
 |[],k,listed,env,g,_,fH,hl,hk,_,hv=>by
  refine⟨?_,hv⟩
  rw[List.eq_nil_iff_forall_not_mem]
  intro j hj
  obtain⟨h0,o,ho,_⟩:=mem_ready.1 hj
  have ew:j<ops.size:=(Array.getElem?_eq_some_iff.1 ho).1
  have:=hl j ew
  simp at hk
  simp[this,show j<k by omega]at h0
 |vo::r,k,listed,env,g,hr,fH,hl,hk,ta,hv=>by
  simp only[List.length_cons]at hk
  have qv:vl[k]? =some vo:=by simpa using(hr 0).symm
  have kT:k<ops.size:=by omega
  have Kq:k∈Region.ready .any ops listed:=by
   rw[mem_ready]
   refine⟨by simp[hl k kT],ops[k],Array.getElem?_eq_getElem kT,fun e he hb=>?_⟩
   unfold pb Gc at xn
   simp only[Bool.and_eq_true,List.all_eq_true]at xn
   have hm:(ops[k],k)∈ops.toList.zipIdx:=by
    rw[List.mem_iff_getElem?]
    exact⟨k,by simp[List.getElem?_zipIdx,kT]⟩
   have:=xn.1 _ hm
   rw[Array.all_eq_true_iff_forall_mem]at this
   have:=this e he
   simp only[hb,Bool.not_true,Bool.false_or,decide_eq_true_eq]at this
   simp[hl e.on (by omega),this]
  have hGS:∃v g',GS X n vo env g v g'/\wpOps X true r K (upd env vo.dst v) ⟨g',n⟩:=by
   unfold wpOps at hv
   unfold GS
   split at hv
   ·rename_i hw
    simp only[hw,if_true]
    exact QW hv
   ·rename_i hw
    simp only[hw]
    exact⟨.undef,g,⟨rfl,rfl⟩,hv⟩
  obtain⟨v,g',h1,h2⟩:=hGS
  refine FZ xn hlen qv r.length listed env g g' ta Kq h1 ?_
  refine yg xn hlen r (k+1) _ _ _ (fun j=>by have:=hr (j+1);simpa[Nat.add_assoc,Nat.add_comm 1 j]using this) (by simp[fH]) (fun i hi=>?_) (by omega) (ta.list Kq) h2
  by_cases zk:i=k
  ·subst zk;simp[fH,kT]
  ·rw[Array.getElem?_setIfInBounds_ne (fun e=>zk e.symm),hl i hi]
   congr 1
   have:(i<k)=(i<k+1):=by apply propext;omega
   simp[this]
theorem oV {f:Nat->Oper->Option br}:∀{l:List Oper} {vl:List br} {j:Nat},allM f l j=some vl->vl.length=l.length/\∀(i:Nat) (o:Oper),l[i]? =some o->∃vo,vl[i]? =some vo/\f (j+i) o=some vo
 |[],vl,j,h=>by simp[allM]at h;subst h;simp
 |o::l,vl,j,h=>by
  simp only[allM,Option.bind_eq_bind,Option.bind_eq_some_iff,Option.pure_def,Option.some.injEq]at h
  obtain⟨vo,qv,ue,tg,rfl⟩:=h
  obtain⟨h1,h2⟩:=oV tg
  refine⟨by simp[h1],fun i o' hi=>?_⟩
  cases i with
  |zero=>simp at hi;subst hi;exact⟨vo,rfl,qv⟩
  |succ i=>
   simp at hi
   obtain⟨q,hq,hf⟩:=h2 i o' hi
   exact⟨q,by simpa using hq,by rw[<-hf];congr 1;omega⟩
theorem yZ {ops:Array Oper} {vl:List br} {nt site0:Nat} {draw mk:Bool} {bs:Array Nat} {hidden:List (Nat×Bool)} {n:Nat} {K:Env->Rows->Prop} {Q:Exit->Act->World->Prop} (dx:allM (lh P ops nt site0 draw mk bs hidden) ops.toList 0=some vl):
  ∀(fuel:Nat) (listed:Array Bool) (env:Env) (g:Rows) (a:Act) (w:World) (D:Nat->Prop) (ι:Names) (U:Nat->Prop),LR (Sound P) n ops vl K fuel listed env g->gJ P hs D ι g w->Used ι n U->(∀s,U s->∃i,s=site0+i/\listed.getD i false=true)->cI P w D ι env a->a.tmps.size=nt->
  (∀iU g' a' w' D' ι' U',K iU g'->Step hs D ι w D' ι' w'->gJ P hs D' ι' g' w'->Used ι' n U'->cI P w' D' ι' iU a'->a'.tmps.size=nt->a'.defers=a.defers->Q .normal a' w')->wpAny P .any ops Q fuel listed a w:=by
 intro fuel
 induction fuel with
 |zero=>intro listed env g a w D ι U h S Us hU E fH hQ;exact⟨h.1,hQ env g a w D ι U h.2 (Step.refl _ _ _ _) S Us E fH rfl⟩
 |succ fuel ih=>
  intro listed env g a w D ι U h S Us hU E fH hQ
  refine⟨fun hr=>hQ env g a w D ι U (h.1 hr) (Step.refl _ _ _ _) S Us E fH rfl,fun i hi=>?_⟩
  obtain⟨vo,qv,v,g',hG,Oy⟩:=h.2 i hi
  obtain⟨_,o,ho,_⟩:=mem_ready.1 hi
  obtain⟨vo',mV,SA⟩:=(oV dx).2 i o (by simpa using ho)
  rw[qv]at mV;injection mV with mV;subst mV
  rw[Nat.zero_add]at SA
  obtain⟨hc,hd,CG,yG,hg⟩:=pV SA
  have hw:=uf (ops:=ops) (vo:=vo) E hg
  have VI:¬U vo.site:=fun hu=>by
   obtain⟨i',he,hl⟩:=hU _ hu
   have:i'=i:=by omega
   subst this
   rw[js hi]at hl;cases hl
  have jS:i<listed.size:=by
   have h0:=(mem_ready.1 hi).1
   rcases Nat.lt_or_ge i listed.size with h|h
   ·exact h
   ·simp[Array.getElem?_eq_none h]at h0
  unfold wpOp
  simp only[ho]
  rw[<-hw]
  unfold GS at hG
  by_cases HJ:aQ vo.guard env=true
  ·rw[if_pos HJ]
   rw[if_pos HJ]at hG
   refine .inl (BT hc hG S Us VI E fun a' w' ⟨u,D',ι',ha,T,S',hR,U'⟩=>?_)
   subst ha
   refine ih _ _ _ _ w' D' ι' _ Oy S' U' (fun s CD=>?_) (by rw[hd];exact iO (pc E T) hR yG fH) (by rw[ft];exact fH) fun iU g2 a2 w2 D2 ι2 U2 hk T2 S2 Vb E2 k6 EL=>hQ iU g2 a2 w2 D2 ι2 U2 hk (T.trans T2) S2 Vb E2 k6 (EL.trans (put_defers _ _ _))
   rcases CD with h|h
   ·obtain⟨i',he,hl⟩:=hU _ h
    exact⟨i',he,getD_set_true hl⟩
   ·exact⟨i,by rw[h,CG],by simp[jS]⟩
  ·rw[if_neg HJ]
   rw[if_neg HJ]at hG
   obtain⟨rfl,rfl⟩:=hG
   refine ih _ _ _ _ w D ι U Oy S Us (fun s CD=>?_) (by rw[hd];exact iO E di.undef yG fH) (by rw[ft];exact fH) fun iU g2 a2 w2 D2 ι2 U2 hk T2 S2 Vb E2 k6 EL=>hQ iU g2 a2 w2 D2 ι2 U2 hk T2 S2 Vb E2 k6 (EL.trans (put_defers _ _ _))
   obtain⟨i',he,hl⟩:=hU _ CD
   exact⟨i',he,getD_set_true hl⟩
end
end Go.Proofs.YtgoelphibofcmaaGreat.V

namespace Go.Proofs.YtgoelphibofcmaaGreat.V
open Go.RowKit
variable {P:Program} {w w':World} {D D' D2:Nat->Prop} {ι ι' ι2:Names}
section
variable {hs:Nat} {X:fZ}
def qy (X:fZ):Prop:=∀f args σ K K',(∀r σ',K r σ'->K' r σ')->X f args σ K->X f args σ K'
theorem lg:qy (Sound P):=fun _ _ _ _ _ hK h hs D ι w vs S U A=>
 (h hs D ι w vs S U A).mono fun _ _ ⟨r,g',n',D',ι',u,he,hk,rest⟩=>⟨r,g',n',D',ι',u,he,hK _ _ hk,rest⟩
def step (X:fZ) (vo:br) (N:Env->au->Prop) (env:Env) (σ:au):Prop:=
 if aQ vo.guard env then fM X false vo env σ fun v σ'=>N (upd env vo.dst v) σ' else N (upd env vo.dst .undef) σ
theorem qP (hK:qy X) {draw:Bool} {hid:List Nat} {site f:Nat} {args:List AV} {σ:au} {n n':AV->au->Prop} (hn:∀v σ',n v σ'->n' v σ') (hp:cN X draw hid site f args σ n):cN X draw hid site f args σ n':=by
 rcases hp with⟨r,h1,h2⟩|⟨h1,h2⟩|⟨h1,sz,rows,h2,h3⟩
 ·exact .inl ⟨r,h1,hn _ _ h2⟩
 ·exact .inr (.inl ⟨h1,hK _ _ _ _ _ hn h2⟩)
 ·exact .inr (.inr ⟨h1,sz,rows,h2,hn _ _ h3⟩)
theorem DM (hK:qy X) {draw:Bool} {o:br} {env:Env} {σ:au} {n n':AV->au->Prop} (hn:∀v σ',n v σ'->n' v σ') (hp:fM X draw o env σ n):fM X draw o env σ n':=by
 unfold fM at hp ⊢
 split at hp
 ·exact qP hK hn hp
 ·split at hp
  ·exact qP hK hn hp
  ·exact qP hK hn hp
  ·exact hp.elim
 ·split at hp
  ·exact hn _ _ hp
  ·exact hp.elim
 ·split at hp
  ·exact hn _ _ hp
  ·exact hp.elim
 ·split at hp
  ·exact hn _ _ hp
  ·exact hp.elim
 ·split at hp
  ·exact hn _ _ hp
  ·exact hp.elim
 ·split at hp
  ·exact hn _ _ hp
  ·exact hp.elim
 ·split at hp
  ·exact hn _ _ hp
  ·exact hn _ _ hp
  ·exact hp.elim
theorem kc (hK:qy X) {vo:br} {N N':Env->au->Prop} (h:∀e s,N e s->N' e s) {env:Env} {σ:au} (hp:step X vo N env σ):step X vo N' env σ:=by
 unfold step at hp ⊢
 split at hp
 ·rename_i hw;rw[if_pos hw];exact DM hK (fun v σ'=>h _ _) hp
 ·rename_i hw;rw[if_neg hw];exact h _ _ hp
theorem IP {env jj:Env} {vo:br} {σ:au} {n:AV->au->Prop} (h:∀t∈vo.op.gU,env t=jj t) (hv:fM X false vo env σ n):fM X false vo jj σ n:=by
 unfold fM at hv ⊢
 split at hv
 ·rename_i f args eA
  rw[eA]at h
  simp only[gN.gU]at h
  rw[<-map_congr h];exact hv
 ·rename_i x args eA
  rw[eA]at h
  simp only[gN.gU,List.mem_append]at h
  rw[<-map_congr (l:=args) fun t ht=>h t (.inr ht),<-bw (x:=x) fun t ht=>h t (.inl ht)];exact hv
 ·rw[<-iz h];exact hv
 ·rw[<-iz h];exact hv
 ·rw[<-iz h];exact hv
 ·rw[<-iz h];exact hv
 ·rw[<-iz h];exact hv
 ·rw[<-tV h];exact hv
theorem ma {x:br} (hq:ly x=true) {N:Env->au->Prop} {env:Env} {σ:au}:step X x N env σ↔∃v g',GS X σ.next x env σ.get v g'/\N (upd env x.dst v) ⟨g',σ.next⟩:=by
 unfold ly at hq
 simp only[Bool.and_eq_true,Bool.not_eq_true',bne_iff_ne]at hq
 obtain⟨Gr,nz⟩:=hq
 unfold step GS
 by_cases hw:aQ x.guard env=true
 ·rw[if_pos hw]
  simp only[hw,if_true]
  unfold fM
  split
  ·rename_i eA;simp[eA,gN.mh]at Gr
  ·rename_i eA;simp[eA,gN.mh]at Gr
  ·rename_i eA;simp[eA,gN.cls]at nz
  ·rename_i eA;simp[eA,gN.cls]at nz
  ·rename_i eA;simp[eA,gN.cls]at nz
  ·rename_i eA;simp[eA,gN.cls]at nz
  ·rename_i eA;simp[eA,gN.cls]at nz
  ·rename_i n1 n2 n3 n4 n5 n6 n7
   have hVS:∀v g',VS X σ.next x env σ.get v g'↔∃mr,eU x.op (dm env) (fW x.hid σ.next σ.get) ⟨x.site,σ.next⟩=some (v,mr)/\g'=jz σ.get ⟨x.site,σ.next⟩ mr:=fun v g'=>by
    unfold VS
    split
    ·rename_i hh;exact(n1 _ _ hh).elim
    ·rename_i hh;exact(n2 _ _ hh).elim
    ·rename_i hh;exact(n3 _ _ _ hh).elim
    ·rename_i hh;exact(n4 _ _ _ hh).elim
    ·rename_i hh;exact(n5 _ _ _ hh).elim
    ·rename_i hh;exact(n6 _ _ hh).elim
    ·rename_i hh;exact(n7 _ _ hh).elim
    ·exact Iff.rfl
   simp only[hVS]
   cases hz:eU x.op (dm env) (fW x.hid σ.next σ.get) ⟨x.site,σ.next⟩with
   |none=>
    exact⟨fun h=>h.elim,fun⟨v,g',⟨mr,h,_⟩,_⟩=>by cases h⟩
   |some p=>
    obtain⟨v,mr⟩:=p
    have key:∀(v':AV) (g':Rows),(∃RS,some (v,mr)=some (v',RS)/\g'=jz σ.get ⟨x.site,σ.next⟩ RS)↔v'=v/\g'=jz σ.get ⟨x.site,σ.next⟩ mr:=fun v' g'=>by
     constructor
     ·rintro⟨RS,h1,h2⟩
      injection h1 with h1;injection h1 with h1 h3
      subst h1;subst h3
      exact⟨rfl,h2⟩
     ·rintro⟨rfl,rfl⟩;exact⟨mr,rfl,rfl⟩
    have fin:(∃v' g',(∃RS,some (v,mr)=some (v',RS)/\g'=jz σ.get ⟨x.site,σ.next⟩ RS)/\N (upd env x.dst v') ⟨g',σ.next⟩)↔N (upd env x.dst v) ⟨jz σ.get ⟨x.site,σ.next⟩ mr,σ.next⟩:=by
     constructor
     ·rintro⟨v',g',h,hN⟩
      obtain⟨rfl,rfl⟩:=(key v' g').1 h
      exact hN
     ·intro hN;exact⟨v,_,(key _ _).2 ⟨rfl,rfl⟩,hN⟩
    cases mr with
    |none=>exact fin.symm
    |some r=>exact fin.symm
 ·rw[if_neg hw]
  simp only[if_neg hw]
  exact⟨fun h=>⟨_,_,⟨rfl,rfl⟩,h⟩,fun⟨v,g',⟨hv,hg⟩,h⟩=>by rw[hv,hg]at h;exact h⟩
def xv (x:br) (env:Env) (v:AV):Prop:=if aQ x.guard env then eU x.op (dm env) (fun _=>none) ⟨0,0⟩=some (v,none)else v=.undef
theorem xJ {x:br} (hp:x.op.cls=.pure):ly x=true:=by
 unfold ly
 rw[hp]
 cases hc:x.op<;>simp[hc,gN.cls]at hp<;>rfl
theorem tZ {x:br} (hp:x.op.cls=.pure) {N:Env->au->Prop} {env:Env} {σ:au}:step X x N env σ↔∃v,xv x env v/\N (upd env x.dst v) σ:=by
 rw[ma (xJ hp)]
 unfold GS xv
 by_cases hw:aQ x.guard env=true
 ·simp only[hw,if_true]
  constructor
  ·rintro⟨v,g',h,hN⟩
   obtain⟨rfl,dx⟩:=Ad hp h
   refine⟨v,?_,hN⟩
   unfold VS at h
   split at h
   ·rename_i eA;rw[eA]at hp;simp[gN.cls]at hp
   ·rename_i eA;rw[eA]at hp;simp[gN.cls]at hp
   ·rename_i eA;rw[eA]at hp;simp[gN.cls]at hp
   ·rename_i eA;rw[eA]at hp;simp[gN.cls]at hp
   ·rename_i eA;rw[eA]at hp;simp[gN.cls]at hp
   ·rename_i eA;rw[eA]at hp;simp[gN.cls]at hp
   ·rename_i eA;rw[eA]at hp;simp[gN.cls]at hp
   ·obtain⟨mr,hq,_⟩:=h
    have Wf:mr=none:=by
     cases mr with
     |none=>rfl
     |some r=>have:=xK hq;simp[rJ,hp]at this
    subst Wf
    rw[<-xL (g:=fW x.hid σ.next σ.get) (id:=⟨x.site,σ.next⟩) hp];exact hq
  ·rintro⟨v,h,hN⟩
   exact⟨v,σ.get,O6 (mr:=none) (by rw[xL (g2:=fun _=>none) (id2:=⟨0,0⟩) hp];exact h),hN⟩
 ·simp only[if_neg hw]
  exact⟨fun⟨v,g',⟨hv,hg⟩,h⟩=>⟨v,hv,by rw[hg]at h;exact h⟩,fun⟨v,hv,h⟩=>⟨v,σ.get,⟨hv,rfl⟩,h⟩⟩
theorem LZ {x:br} {env jj:Env} {v:AV} (h:∀t∈x.gU,env t=jj t) (hv:xv x env v):xv x jj v:=by
 unfold xv at hv ⊢
 rw[<-nU h,<-tV fun t ht=>h t (sV ht)];exact hv
structure N6 (x y:br):Prop where
 xy:∀k,x.dst=some k->k∉y.gU
 yx:∀k,y.dst=some k->k∉x.gU
 dst:∀k,x.dst=some k->y.dst≠some k
theorem s4 {x y:br} (h:ud x y=true):N6 x y:=by
 unfold ud at h
 simp only[Bool.and_eq_true]at h
 obtain⟨a1,a2⟩:=h
 refine⟨fun k hk=>?_,fun k hk=>?_,fun k hk=>?_⟩
 ·rw[hk]at a1;simp at a1;exact a1.1
 ·rw[hk]at a2;simpa using a2
 ·rw[hk]at a1;simp at a1;exact a1.2
theorem zj {x y:br} (h:zi x y=true):(N6 x y/\x.op.cls=.pure)∨(D7 x y/\ly x=true/\ly y=true):=by
 unfold zi at h
 simp only[Bool.or_eq_true,Bool.and_eq_true,beq_iff_eq]at h
 rcases h with⟨h1,h2⟩|⟨⟨h1,h2⟩,h3⟩
 ·exact .inl ⟨s4 h1,h2⟩
 ·exact .inr ⟨qW h1,h2,h3⟩
theorem Cp {x y:br} (h:zi x y=true):ly x=true:=by
 rcases zj h with h|h
 ·exact xJ h.2
 ·exact h.2.1
theorem Iy (hK:qy X) {x y:br} (hf:zi x y=true) {N:Env->au->Prop} {env:Env} {σ:au} (h:step X x (fun e s=>step X y N e s) env σ):step X y (fun e s=>step X x N e s) env σ:=by
 rcases zj hf with⟨F,hp⟩|⟨F,hx,hy⟩
 ·rw[tZ hp]at h
  obtain⟨v,hx,h⟩:=h
  have OC:=fun(v':AV)=>yf (env:=env) (v:=v) (u:=v') F.dst
  have E0:=ns (env:=env) (v:=v) F.xy
  have back:∀(v':AV),xv x (upd env y.dst v') v:=fun v'=>LZ (fun t ht=>(ns F.yx t ht).symm) hx
  unfold step at h ⊢
  rw[nU E0]at h
  split at h
  ·rename_i hw
   rw[if_pos hw]
   refine DM hK (fun v' σ' hN=>?_) (IP (fun t ht=>E0 t (sV ht)) h)
   rw[OC]at hN
   exact(tZ hp).2 ⟨v,back v',hN⟩
  ·rename_i hw
   rw[if_neg hw]
   rw[OC]at h
   exact(tZ hp).2 ⟨v,back _,h⟩
 ·rw[ma hx]at h
  obtain⟨v,g1,h1,h⟩:=h
  rw[ma hy]at h
  obtain⟨v',g2,h2,h⟩:=h
  obtain⟨MI,q1,q2,q3⟩:=F2 F h1 h2
  rw[q3]at h
  exact(ma hy).2 ⟨v',MI,q1,(ma hx).2 ⟨v,g2,q2,h⟩⟩
def Bt (X:fZ) (ops:Array Oper) (vl:List br) (K:Env->au->Prop):Nat->Array Bool->Env->au->Prop
 |0,listed,env,σ=>Region.ready .any ops listed=[]/\K env ⟨σ.get,σ.next+1⟩
 |f+1,listed,env,σ=>(Region.ready .any ops listed=[]->K env ⟨σ.get,σ.next+1⟩)/\∀i∈Region.ready .any ops listed,∃vo,vl[i]? =some vo/\step X vo (fun e s=>Bt X ops vl K f (listed.setIfInBounds i true) e s) env σ
theorem EA {ops:Array Oper} {vl:List br} {bs:Array Nat} {listed:Array Bool} {i:Nat} (h:qV ops vl bs listed i=true) (j:Nat):qV ops vl bs (listed.setIfInBounds j true) i=true:=by
 unfold qV at h ⊢
 split at h
 ·rename_i x hx
  simp only[List.all_eq_true,Bool.or_eq_true]at h ⊢
  intro k hk
  rcases h k hk with((h|h)|h)|h
  ·exact .inl (.inl (.inl (getD_set_true h)))
  ·exact .inl (.inl (.inr h))
  ·exact .inl (.inr h)
  ·exact .inr h
 ·cases h
theorem uo {ops:Array Oper} {vl:List br} {listed:Array Bool} {i j:Nat} {vi:br} (ta:DC ops listed) (h:qV ops vl (jR ops) listed i=true) (hi:vl[i]? =some vi) (hr:i∈Region.ready .any ops listed) (hj:j∈Region.ready .any ops listed) (ny:j≠i):∃vj,vl[j]? =some vj/\zi vi vj=true:=by
 unfold qV at h
 rw[hi]at h
 simp only[List.all_eq_true,Bool.or_eq_true,beq_iff_eq]at h
 obtain⟨_,o,ho,_⟩:=mem_ready.1 hj
 rcases h j (List.mem_range.2 (Array.getElem?_eq_some_iff.1 ho).1)with((h|h)|h)|h
 ·rw[js hj]at h;cases h
 ·exact absurd h ny
 ·have:=lz ta hj i h
  rw[js hr]at this;cases this
 ·split at h
  ·rename_i y hy;exact⟨y,hy,h⟩
  ·cases h
theorem F1 (hK:qy X) {ops:Array Oper} {vl:List br} {K:Env->au->Prop} {i:Nat} {vi:br} (hi:vl[i]? =some vi):∀(fuel:Nat) (listed:Array Bool) (env:Env) (σ:au),
  DC ops listed->i∈Region.ready .any ops listed->qV ops vl (jR ops) listed i=true->step X vi (fun e s=>Bt X ops vl K fuel (listed.setIfInBounds i true) e s) env σ->Bt X ops vl K (fuel+1) listed env σ:=by
 intro fuel
 induction fuel with
 |zero=>
  intro listed env σ ta hr jH H
  refine⟨fun h=>(by rw[h]at hr;cases hr),fun j hj=>?_⟩
  by_cases ny:j=i
  ·subst ny;exact⟨vi,hi,H⟩
  ·obtain⟨vj,M9,SI⟩:=uo ta jH hi hr hj ny
   rw[ma (Cp SI)]at H
   obtain⟨v,g',_,H⟩:=H
   have:=ready_mono hj ny
   rw[H.1]at this;cases this
 |succ fuel ih=>
  intro listed env σ ta hr jH H
  refine⟨fun h=>(by rw[h]at hr;cases hr),fun j hj=>?_⟩
  by_cases ny:j=i
  ·subst ny;exact⟨vi,hi,H⟩
  ·obtain⟨vj,M9,SI⟩:=uo ta jH hi hr hj ny
   refine⟨vj,M9,?_⟩
   have H2:step X vi (fun e s=>step X vj (fun e s=>Bt X ops vl K fuel ((listed.setIfInBounds i true).setIfInBounds j true) e s) e s) env σ:=kc hK (fun e s h=>by
    obtain⟨vj',AF,h'⟩:=h.2 j (ready_mono hj ny)
    rw[M9]at AF;injection AF with AF;subst AF
    exact h') H
   refine kc hK (fun e s h=>?_) (Iy hK SI H2)
   refine ih _ _ _ (ta.list hj) (ready_mono hr (fun e=>ny e.symm)) (EA jH j) ?_
   rw[Array.setIfInBounds_comm _ _ ny]
   exact h
theorem tY {x:br} (hg:x.guard=none) {N:Env->au->Prop} {env:Env} {σ:au}:step X x N env σ=fM X false x env σ (fun v σ'=>N (upd env x.dst v) σ'):=by
 unfold step
 rw[hg]
 simp[aQ]
theorem FL {x y:br} {t s sz:Nat} {ys:O} (hx:x.op=.append sz (.t t) ys) (hg:x.guard=none) (hf:Gi s x y=true) {N:Env->au->Prop} {env:Env} {σ:au} (hl:Nr t s ys env σ.next) (h:step X x (fun e s=>step X y N e s) env σ):
  step X y (fun e σ'=>Nr t s ys e σ'.next/\step X x N e σ') env σ:=by
 unfold Gi at hf
 simp only[Bool.and_eq_true,bne_iff_ne]at hf
 obtain⟨⟨⟨⟨⟨f1,hq⟩,f3⟩,f4⟩,f5⟩,f6⟩:=hf
 have F:=s4 f1
 obtain⟨⟨len,ht⟩,hsrc⟩:=hl
 have Ks:∀k∈x.op.gU,∀v',upd env y.dst v' k=env k:=fun k hk v'=>ns (env:=env) (v:=v') F.yx k (sV hk)
 have dJ:t∈x.op.gU:=by rw[hx];simp[gN.gU,iq]
 have Gy:∀v',dm (upd env y.dst v') ys=dm env ys:=fun v'=>(bw fun k hk=>by rw[Ks k (by rw[hx];simp[gN.gU,hk])]).symm
 rw[tY hg]at h
 unfold fM at h
 simp only[hx,fY]at h
 have ex:dm env (.t t)=.own ⟨s,σ.next⟩ 0 len:=ht
 rw[ex]at h
 cases hr:bx σ.get (dm env ys)with
 |none=>rw[hr]at h;exact h.elim
 |some rs=>
  rw[hr]at h
  simp only[Option.bind_some,bd]at h
  cases Ka:σ.get ⟨s,σ.next⟩with
  |none=>rw[Ka]at h;exact h.elim
  |some r=>
   rw[Ka]at h
   simp only[Option.bind_some]at h
   split at h
   ·rename_i v g1 hv
    split at hv
    ·rename_i hcond
     simp only[Option.some.injEq,Prod.mk.injEq]at hv
     obtain⟨rfl,rfl⟩:=hv
     rw[ma hq]at h
     obtain⟨v',g2,hG,hN⟩:=h
     have M0:(⟨y.site,σ.next⟩:Id)≠⟨s,σ.next⟩:=fun e=>f5 (by injection e)
     have Kh:(⟨y.site,σ.next⟩:Id)≠⟨x.site,σ.next⟩:=fun e=>f6 (by injection e)
     replace hG:GS X σ.next y env (bQ (cC σ.get ⟨s,σ.next⟩) ⟨x.site,σ.next⟩ ⟨true,sz,r.rows++rs⟩) v' g2:=wm (ns F.xy) hG
     have WE:fW y.hid σ.next σ.get=fW y.hid σ.next (bQ (cC σ.get ⟨s,σ.next⟩) ⟨x.site,σ.next⟩ ⟨true,sz,r.rows++rs⟩):=by
      cases hh:y.hid with
      |nil=>rw[hh]at f3;simp at f3
      |cons a l=>
       rw[hh]at f3 f4
       funext i
       show(if (a::l).contains i.site=true/\i.bE=σ.next then none else σ.get i)=if (a::l).contains i.site=true/\i.bE=σ.next then none else _
       by_cases h1:i=⟨x.site,σ.next⟩
       ·subst h1;rw[if_pos ⟨f4,rfl⟩,if_pos ⟨f4,rfl⟩]
       ·by_cases h2:i=⟨s,σ.next⟩
        ·subst h2;rw[if_pos ⟨f3,rfl⟩,if_pos ⟨f3,rfl⟩]
        ·simp only[bQ,cC,if_neg h1,if_neg h2]
     obtain⟨my,SJ,hG'⟩:∃my,g2=jz (bQ (cC σ.get ⟨s,σ.next⟩) ⟨x.site,σ.next⟩ ⟨true,sz,r.rows++rs⟩) ⟨y.site,σ.next⟩ my/\GS X σ.next y env σ.get v' (jz σ.get ⟨y.site,σ.next⟩ my):=by
      unfold GS at hG ⊢
      by_cases wy:aQ y.guard env=true
      ·rw[if_pos wy]at hG
       have hcw:y.op.cls≠.write:=by
        unfold ly at hq
        simp only[Bool.and_eq_true,bne_iff_ne]at hq
        exact hq.2
       obtain⟨my,rfl,_,O8⟩:=wI hcw hG
       exact⟨my,rfl,by rw[if_pos wy];exact O8 _ WE⟩
      ·rw[if_neg wy]at hG
       obtain⟨rfl,rfl⟩:=hG
       exact⟨none,rfl,by rw[if_neg wy];exact⟨rfl,rfl⟩⟩
     subst SJ
     refine(ma hq).2 ⟨v',_,hG',⟨⟨len,by rw[Ks t dJ];exact ht⟩,fun id o l he=>hsrc id o l (by rw[<-Gy v'];exact he)⟩,?_⟩
     rw[tY hg]
     unfold fM
     have ex':dm (upd env y.dst v') (.t t)=.own ⟨s,σ.next⟩ 0 len:=by
      show upd env y.dst v' t= _
      rw[Ks t dJ];exact ht
     simp only[hx,fY,ex',Gy v']
     have oK:bx (jz σ.get ⟨y.site,σ.next⟩ my) (dm env ys)=some rs:=by
      cases my with
      |none=>exact hr
      |some row=>
       revert hr
       cases hev:dm env ys<;>simp only[bx,jz]<;>try exact fun h=>h
       rename_i id o l
       have:id≠⟨y.site,σ.next⟩:=fun e=>hsrc id o l hev (by rw[e])
       simp only[bQ,if_neg this];exact fun h=>h
     have V3:jz σ.get ⟨y.site,σ.next⟩ my ⟨s,σ.next⟩=some r:=by
      cases my with
      |none=>exact Ka
      |some row=>simp only[jz,bQ,if_neg (fun e=>M0 e.symm:(⟨s,σ.next⟩:Id)≠⟨y.site,σ.next⟩)];exact Ka
     rw[oK]
     simp only[Option.bind_some,bd,V3]
     rw[if_pos hcond]
     have hgg:bQ (cC (jz σ.get ⟨y.site,σ.next⟩ my) ⟨s,σ.next⟩) ⟨x.site,σ.next⟩ ⟨true,sz,r.rows++rs⟩=jz (bQ (cC σ.get ⟨s,σ.next⟩) ⟨x.site,σ.next⟩ ⟨true,sz,r.rows++rs⟩) ⟨y.site,σ.next⟩ my:=by
      cases my with
      |none=>rfl
      |some row=>
       funext i
       simp only[jz,bQ,cC]
       by_cases h1:i=⟨y.site,σ.next⟩
       ·subst h1;rw[if_neg Kh,if_neg M0,if_pos rfl,if_pos rfl]
       ·simp only[if_neg h1]
     have hu:=yf (env:=env) (v:=AV.own ⟨x.site,σ.next⟩ 0 (len+rs.length)) (u:=v') F.dst
     show N (upd (upd env y.dst v') x.dst (.own ⟨x.site,σ.next⟩ 0 (len+rs.length))) ⟨bQ (cC (jz σ.get ⟨y.site,σ.next⟩ my) ⟨s,σ.next⟩) ⟨x.site,σ.next⟩ ⟨true,sz,r.rows++rs⟩,σ.next⟩
     rw[hgg,<-hu]
     exact hN
    ·cases hv
   ·exact h.elim
theorem Ez {ops:Array Oper} {vl:List br} {bs:Array Nat} {listed:Array Bool} {i s:Nat} (h:pd ops vl bs listed i s=true) (j:Nat):pd ops vl bs (listed.setIfInBounds j true) i s=true:=by
 unfold pd at h ⊢
 split at h
 ·rename_i x hx
  simp only[List.all_eq_true,Bool.or_eq_true]at h ⊢
  intro k hk
  rcases h k hk with((h|h)|h)|h
  ·exact .inl (.inl (.inl (getD_set_true h)))
  ·exact .inl (.inl (.inr h))
  ·exact .inl (.inr h)
  ·exact .inr h
 ·cases h
theorem Cm {ops:Array Oper} {vl:List br} {listed:Array Bool} {i j s:Nat} {vi:br} (ta:DC ops listed) (h:pd ops vl (jR ops) listed i s=true) (hi:vl[i]? =some vi) (hr:i∈Region.ready .any ops listed) (hj:j∈Region.ready .any ops listed) (ny:j≠i):∃vj,vl[j]? =some vj/\Gi s vi vj=true:=by
 unfold pd at h
 rw[hi]at h
 simp only[List.all_eq_true,Bool.or_eq_true,beq_iff_eq]at h
 obtain⟨_,o,ho,_⟩:=mem_ready.1 hj
 rcases h j (List.mem_range.2 (Array.getElem?_eq_some_iff.1 ho).1)with((h|h)|h)|h
 ·rw[js hj]at h;cases h
 ·exact absurd h ny
 ·have:=lz ta hj i h
  rw[js hr]at this;cases this
 ·split at h
  ·rename_i y hy;exact⟨y,hy,h⟩
  ·cases h
theorem DN (hK:qy X) {ops:Array Oper} {vl:List br} {K:Env->au->Prop} {i t s sz:Nat} {ys:O} {vi:br} (hi:vl[i]? =some vi) (hx:vi.op=.append sz (.t t) ys) (hg:vi.guard=none):∀(fuel:Nat) (listed:Array Bool) (env:Env) (σ:au),
  DC ops listed->i∈Region.ready .any ops listed->pd ops vl (jR ops) listed i s=true->Nr t s ys env σ.next->step X vi (fun e s=>Bt X ops vl K fuel (listed.setIfInBounds i true) e s) env σ->Bt X ops vl K (fuel+1) listed env σ:=by
 intro fuel
 induction fuel with
 |zero=>
  intro listed env σ ta hr jH Rx H
  refine⟨fun h=>(by rw[h]at hr;cases hr),fun j hj=>?_⟩
  by_cases ny:j=i
  ·subst ny;exact⟨vi,hi,H⟩
  ·exfalso
   have h0:=ready_mono hj ny
   rw[tY hg]at H
   unfold fM at H
   simp only[hx]at H
   split at H
   ·rw[H.1]at h0;cases h0
   ·exact H
 |succ fuel ih=>
  intro listed env σ ta hr jH Rx H
  refine⟨fun h=>(by rw[h]at hr;cases hr),fun j hj=>?_⟩
  by_cases ny:j=i
  ·subst ny;exact⟨vi,hi,H⟩
  ·obtain⟨vj,M9,SI⟩:=Cm ta jH hi hr hj ny
   refine⟨vj,M9,?_⟩
   have H2:step X vi (fun e s=>step X vj (fun e s=>Bt X ops vl K fuel ((listed.setIfInBounds i true).setIfInBounds j true) e s) e s) env σ:=kc hK (fun e s h=>by
    obtain⟨vj',AF,h'⟩:=h.2 j (ready_mono hj ny)
    rw[M9]at AF;injection AF with AF;subst AF
    exact h') H
   refine kc hK (fun e s h=>?_) (FL hx hg SI Rx H2)
   refine ih _ _ _ (ta.list hj) (ready_mono hr (fun e=>ny e.symm)) (Ez jH j) h.1 ?_
   rw[Array.setIfInBounds_comm _ _ ny]
   exact h.2
theorem KL {ops:Array Oper} {vl:List br} {bs:Array Nat} {listed:Array Bool} {i i' t s:Nat} {y:O} {vo:br} (h:Qv ops vl bs listed i=some (i',t,s,y,vo)):i'=i/\vl[i]? =some vo/\(∃sz,vo.op=.append sz (.t t) y)/\vo.guard=none/\pd ops vl bs listed i s=true:=by
 unfold Qv at h
 split at h
 ·rename_i x hx
  split at h
  ·rename_i t' s' y' kI
   split at h
   ·rename_i hf
    simp only[Option.some.injEq,Prod.mk.injEq]at h
    obtain⟨rfl,rfl,rfl,rfl,rfl⟩:=h
    unfold OI at kI
    split at kI
    ·rename_i sz t2 y2 ho tb
     split at kI
     ·simp only[Option.some.injEq,Prod.mk.injEq]at kI
      obtain⟨rfl,rfl,rfl⟩:=kI
      exact⟨rfl,hx,⟨sz,ho⟩,tb,hf⟩
     ·cases kI
    ·cases kI
   ·cases h
  ·cases h
 ·cases h
theorem y8 {X:fZ} {Q:Ex->Env->au->Prop} {env:Env} {σ:au}:∀{l:List VC} {t:VC},B5 l=some t->dQ X t Q env σ->∀c∈l,dQ X c Q env σ
 |[],t,h,_,c,hc=>by cases hc
 |[c0],t,h,hw,c,hc=>by
  simp only[B5,Option.some.injEq]at h
  subst h
  rw[List.mem_singleton]at hc
  subst hc;exact hw
 |c0::c1::r,t,h,hw,c,hc=>by
  simp only[B5,Option.map_eq_some_iff]at h
  obtain⟨t',I0,rfl⟩:=h
  rcases List.mem_cons.1 hc with rfl|hc
  ·exact hw.1
  ·exact y8 I0 hw.2 c hc
theorem mapM_mem {α β:Type} {f:α->Option β}:∀{l:List α} {r:List β},l.mapM f=some r->∀i∈l,∃b∈r,f i=some b
 |[],_,_,i,hi=>by cases hi
 |a::l,r,h,i,hi=>by
  simp only[List.mapM_cons,Option.bind_eq_bind,Option.bind_eq_some_iff,Option.pure_def,Option.some.injEq]at h
  obtain⟨b,hb,r',hr,rfl⟩:=h
  rcases List.mem_cons.1 hi with rfl|hi
  ·exact⟨b,by simp,hb⟩
  ·obtain⟨c,hc,hf⟩:=mapM_mem hr i hi
   exact⟨c,List.mem_cons_of_mem _ hc,hf⟩
theorem IK (hK:qy X) {ops:Array Oper} {vl:List br} {Q:Ex->Env->au->Prop}:∀(n:Nat) (listed:Array Bool) (t:VC) (env:Env) (σ:au),ye ops vl (jR ops) n listed=some t->DC ops listed->dQ X t Q env σ->Bt X ops vl (Q .normal) n listed env σ:=by
 intro n
 induction n with
 |zero=>
  intro listed t env σ h _ hw
  unfold ye at h
  split at h
  ·rename_i hr
   simp only[Option.some.injEq]at h
   subst h
   exact⟨hr,hw⟩
  ·cases h
 |succ n ih=>
  intro listed t env σ h ta hw
  unfold ye at h
  split at h
  ·rename_i hr
   simp only[Option.some.injEq]at h
   subst h
   exact⟨fun _=>hw,fun i hi=>by rw[hr]at hi;cases hi⟩
  ·rename_i r rs hr
   dsimp only at h
   split at h
   ·rename_i i hfind
    have MX:=List.mem_of_find?_eq_some hfind
    have vV:=List.find?_some hfind
    rw[<-hr]at MX
    split at h
    ·rename_i vo qv
     simp only[Option.map_eq_some_iff]at h
     obtain⟨t',I0,rfl⟩:=h
     exact F1 hK qv n listed env σ ta MX vV (kc hK (fun e s h=>ih _ _ _ _ I0 (ta.list MX) h) hw)
    ·cases h
   ·split at h
    ·rename_i i t s y vo hfind
     obtain⟨i0,uZ,ew⟩:=List.exists_of_findSome?_eq_some hfind
     obtain⟨rfl,qv,⟨sz,eA⟩,tb,HC⟩:=KL ew
     rw[<-hr]at uZ
     simp only[Option.map_eq_some_iff]at h
     obtain⟨t',I0,rfl⟩:=h
     exact DN hK qv eA tb n listed env σ ta uZ HC hw.1 (kc hK (fun e s h=>ih _ _ _ _ I0 (ta.list uZ) h) hw.2)
    split at h
    ·rename_i l hl
     have dx:=y8 h hw
     refine⟨fun h=>(by rw[h]at hr;cases hr),fun i hi=>?_⟩
     rw[hr]at hi
     obtain⟨b,L8,BE⟩:=mapM_mem hl i hi
     simp only[Option.bind_eq_some_iff,Option.map_eq_some_iff]at BE
     obtain⟨vo,qv,t',I0,rfl⟩:=BE
     exact⟨vo,qv,kc hK (fun e s h=>ih _ _ _ _ I0 (ta.list (by rw[hr];exact hi)) h) (dx _ L8)⟩
    ·cases h
theorem FX {ops:Array Oper} {vl:List br} {nt site0:Nat} {draw mk:Bool} {bs:Array Nat} {hidden:List (Nat×Bool)} {K:Env->au->Prop} {Q:Exit->Act->World->Prop} (dx:allM (lh P ops nt site0 draw mk bs hidden) ops.toList 0=some vl):
  ∀(fuel:Nat) (listed:Array Bool) (env:Env) (σ:au) (a:Act) (w:World) (D:Nat->Prop) (ι:Names) (U:Nat->Prop),Bt (Sound P) ops vl K fuel listed env σ->gJ P hs D ι σ.get w->Used ι σ.next U->(∀s,U s->∃i,s=site0+i/\listed.getD i false=true)->cI P w D ι env a->a.tmps.size=nt->
  (∀iU σ' a' w' D' ι',K iU σ'->Step hs D ι w D' ι' w'->St P hs nt D' ι' iU σ' a' w'->a'.defers=a.defers->σ.next<=σ'.next->Q .normal a' w')->wpAny P .any ops Q fuel listed a w:=by
 intro fuel
 induction fuel with
 |zero=>intro listed env σ a w D ι U h S Us hU E fH hQ;exact⟨h.1,hQ env _ a w D ι h.2 (Step.refl _ _ _ _) ⟨S,Us.next,E,fH⟩ rfl (Nat.le_succ _)⟩
 |succ fuel ih=>
  intro listed env σ a w D ι U h S Us hU E fH hQ
  refine⟨fun hr=>hQ env _ a w D ι (h.1 hr) (Step.refl _ _ _ _) ⟨S,Us.next,E,fH⟩ rfl (Nat.le_succ _),fun i hi=>?_⟩
  obtain⟨vo,qv,hG⟩:=h.2 i hi
  obtain⟨_,o,ho,_⟩:=mem_ready.1 hi
  obtain⟨vo',mV,SA⟩:=(oV dx).2 i o (by simpa using ho)
  rw[qv]at mV;injection mV with mV;subst mV
  rw[Nat.zero_add]at SA
  obtain⟨hc,hd,CG,yG,hg⟩:=pV SA
  have hw:=uf (ops:=ops) (vo:=vo) E hg
  have VI:¬U vo.site:=fun hu=>by
   obtain⟨i',he,hl⟩:=hU _ hu
   have:i'=i:=by omega
   subst this
   rw[js hi]at hl;cases hl
  have jS:i<listed.size:=by
   have h0:=(mem_ready.1 hi).1
   rcases Nat.lt_or_ge i listed.size with h|h
   ·exact h
   ·simp[Array.getElem?_eq_none h]at h0
  unfold wpOp
  simp only[ho]
  rw[<-hw]
  unfold step at hG
  by_cases HJ:aQ vo.guard env=true
  ·rw[if_pos HJ]
   rw[if_pos HJ]at hG
   refine .inl (z7 hc hG S Us VI E fun v σ' u D' ι' w' hn T S' hR U' hle=>?_)
   refine ih _ _ _ _ w' D' ι' _ hn S' U' (fun s CD=>?_) (by rw[hd];exact iO (pc E T) hR yG fH) (by rw[ft];exact fH) fun iU σ2 a2 w2 D2 ι2 hk T2 yM EL nH=>hQ iU σ2 a2 w2 D2 ι2 hk (T.trans T2) yM (EL.trans (put_defers _ _ _)) (Nat.le_trans hle nH)
   rcases CD with h|h
   ·obtain⟨i',he,hl⟩:=hU _ h
    exact⟨i',he,getD_set_true hl⟩
   ·exact⟨i,by rw[h,CG],by simp[jS]⟩
  ·rw[if_neg HJ]
   rw[if_neg HJ]at hG
   refine ih _ _ _ _ w D ι U hG S Us (fun s CD=>?_) (by rw[hd];exact iO E di.undef yG fH) (by rw[ft];exact fH) fun iU σ2 a2 w2 D2 ι2 hk T2 yM EL nH=>hQ iU σ2 a2 w2 D2 ι2 hk T2 yM (EL.trans (put_defers _ _ _)) nH
   obtain⟨i',he,hl⟩:=hU _ CD
   exact⟨i',he,getD_set_true hl⟩
end
end Go.Proofs.YtgoelphibofcmaaGreat.V

namespace Go.Proofs.YtgoelphibofcmaaGreat.V
open Go.RowKit
variable {P:Program} {w w':World} {D D' D2:Nat->Prop} {ι ι' ι2:Names}
def Bz (P:Program) (c:Code) (Q:Exit->Act->World->Prop) (a:Act) (w:World):Prop:=
 ∀(b:Frame) (k:List Item) (cs:List Frame),b.kind≠.early->∃e a' w',Q e a' w'/\Arrives P (lone (b.at a (.code c::k)) cs w) b k cs e a' w'
section
variable {Q:Exit->Act->World->Prop} {a:Act}
theorem kM {c:Code} (h:c.wp P Q a w):Bz P c Q a w:=fun b k cs _=>h b k cs
theorem l8 {x y:Code} (h:Bz P x (Exit.then (Bz P y Q) Q) a w):Bz P (.seq x y) Q a w:=by
 intro b k cs hb
 obtain⟨e,a1,w1,hq,j5⟩:=h b (.code y::k) cs hb
 by_cases he:e=.normal
 ·subst he
  obtain⟨e2,a2,w2,nz,J2⟩:=hq b k cs hb
  exact⟨e2,a2,w2,nz,.of_steps (.head step_seq j5) J2⟩
 ·refine⟨e,a1,w1,?_,.of_steps (.one step_seq) (.pass (x:=.code y) rfl (fun _ _=>.inl he) j5)⟩
  cases e<;>first|exact absurd rfl he|exact hq
theorem xE {c:Operand} {x y:Code} {t:Bool} (hc:a.eval c=.bool t) (h:Bz P (if t then x else y) Q a w):Bz P (.cond c x y) Q a w:=
 fun b k cs hb=>let ⟨e,a',w',q,r⟩:=h b k cs hb;⟨e,a',w',q,.of_steps (.one (step_cond hc)) r⟩
theorem tT {id:Nat} {c:Code} (h:Bz P c (Exit.inBlock id Q) a w):Bz P (.block id c) Q a w:=by
 intro b k cs hb
 obtain⟨e,a1,w1,hq,j5⟩:=h b (.inBlock id::k) cs hb
 cases e with
 |normal=>exact⟨.normal,a1,w1,hq,.head step_block (Steps.trans j5 (.one step_inBlock))⟩
 |exit kf=>
  by_cases hid:kf=id
  ·simp only[Exit.inBlock,hid,if_true]at hq
   exact⟨.normal,a1,w1,hq,.head step_block (j5 k (by simp[exitTo,hid]))⟩
  ·simp only[Exit.inBlock,hid,if_false]at hq
   exact⟨.exit kf,a1,w1,hq,fun k' hk=>.head step_block (j5 k' (by simp[exitTo,Ne.symm hid,hk]))⟩
 |goto l=>exact⟨_,a1,w1,hq,fun k' hk=>.head step_block (j5 k' (by simp[gotoIn,hk]))⟩
 |ret=>exact⟨_,a1,w1,hq,.of_steps (.one step_block) j5⟩
 |panic ch=>exact⟨_,a1,w1,hq,.of_steps (.one step_block) j5⟩
 |outgrown=>exact⟨_,a1,w1,hq,.of_steps (b:=b) (k:=k) (cs:=cs) (e:=.outgrown) (.one step_block) j5⟩
def qb (P:Program) (c:Code) (Q:Exit->Act->World->Prop):Nat->Act->World->Prop
 |0=>fun _ _=>False
 |n+1=>Bz P c (Exit.then (qb P c Q n) Q)
theorem De {c:Code} (n:Nat) (h:qb P c Q n a w):Bz P (.loop c) Q a w:=by
 intro b k cs hb
 have key:∀n a w,qb P c Q n a w->∃e a' w',Q e a' w'/\Arrives P (lone (b.at a (.code c::.inLoop c::k)) cs w) b k cs e a' w':=by
  intro n
  induction n with
  |zero=>intro a w h;exact h.elim
  |succ n ih=>
   intro a w h
   obtain⟨e,a1,w1,hq,j5⟩:=h b (.inLoop c::k) cs hb
   by_cases he:e=.normal
   ·subst he
    obtain⟨e2,a2,w2,nz,J2⟩:=ih a1 w1 hq
    exact⟨e2,a2,w2,nz,.of_steps (Steps.trans j5 (.one step_inLoop)) J2⟩
   ·refine⟨e,a1,w1,?_,.pass (x:=.inLoop c) rfl (fun _ _=>.inl he) j5⟩
    cases e<;>first|exact absurd rfl he|exact hq
 obtain⟨e,a',w',hq,j5⟩:=key n a w h
 exact⟨e,a',w',hq,.of_steps (.one step_loop) j5⟩
theorem An {f:FuncId} {fn:Func} {c:Code} {args:Array Value} {R:Ending->World->Prop} (hf:P.funcs[f]? =some fn) (hb:fn.body=some c)
  (h:Bz P c (bodyPost P fn R) {tmps:=args++Array.replicate (fn.ntmps-args.size) undef,defers:=[]} w):Calls P f args w R:=by
 intro cs
 have PW:Frame.enter P f args .normal=({(default:Frame)with fn:=f,kind:=.normal}:Frame).at {tmps:=args++Array.replicate (fn.ntmps-args.size) undef,defers:=[]} [.code c]:=by simp[Frame.enter,Frame.at,hf,hb]
 obtain⟨e,a',w',hq,j5⟩:=h {(default:Frame)with fn:=f,kind:=.normal} [] cs (by simp)
 rw[<-PW]at j5
 cases e with
 |normal=>obtain⟨hd,v,hr,hR⟩:=hq;exact⟨.returned v,w',_,hR,Steps.trans j5 (.one step_end),rfl,rfl,hd,rfl,fn,hf,hr⟩
 |ret=>obtain⟨hd,v,hr,hR⟩:=hq;obtain⟨todo,hs⟩:=j5;exact⟨.returned v,w',_,hR,hs,rfl,rfl,hd,rfl,fn,hf,hr⟩
 |panic chain=>obtain⟨hd,hR⟩:=hq;obtain⟨todo,hs⟩:=j5;exact⟨.panicked chain,w',_,hR,hs,rfl,rfl,hd,fn,hf⟩
 |exit id=>exact hq.elim
 |goto l=>exact hq.elim
 |outgrown=>exact⟨.outgrown,w',{(default:Frame)with fn:=f,kind:=.normal},hq,j5.resolve_left (by simp),rfl,trivial⟩
def yp (P:Program) (ops:Array Oper) (Q:Exit->Act->World->Prop) (l:List Nat) (a:Act) (w:World):Prop:=
 ∀(b:Frame) (k:List Item) (cs:List Frame),b.kind≠.early->∃e a' w',Q e a' w'/\Arrives P (lone (b.at a (.inRegion ops l::k)) cs w) b k cs e a' w'
theorem Fm {id:Nat} {ops:Array Oper} (h:yp P ops Q (List.range ops.size) a w):Bz P (.region id ops false) Q a w:=
 fun b k cs hb=>let ⟨e,a',w',q,r⟩:=h b k cs hb;⟨e,a',w',q,.of_steps (.one step_region) r⟩
theorem QC {ops:Array Oper} (h:Q .normal a w):yp P ops Q [] a w:=fun _ _ _ _=>⟨.normal,a,w,h,.one step_region_end⟩
theorem pP {o:Oper} {ys:Nat->Option Bool} (h:o.guard=none):Region.wanted o ys=true:=by simp[Region.wanted,h]
theorem K6 {ops:Array Oper} {i:Nat} {rest:List Nat} {o:Oper} {v:Value} (ho:ops[i]? =some o) (hg:o.guard=none) (hr:(execOp a.eval o).run P w=.ok (.value v) w') (h:yp P ops Q rest (a.put o.dst v) w'):yp P ops Q (i::rest) a w:=by
 intro b k cs hb
 obtain⟨e,a',w2,hq,j5⟩:=h b k cs hb
 refine⟨e,a',w2,hq,.of_steps (.one ?_) j5⟩
 have tG:(b.at a (.inRegion ops (i::rest)::k)).finish v=b.at (a.put o.dst v) (.inRegion ops rest::k):=by rw[Frame.finish_at,ho];rfl
 rw[<-tG]
 refine step_lone_go ?_
 have h2:=stepG_op (P:=P) (b:=b) (k:=k) (cs:=cs) (w:=w) (rest:=rest) ho (pP hg (ys:=yielded ops a.tmps))
 rw[h2];simp[stepG.apply,hr]
theorem NH {ops:Array Oper} {i:Nat} {rest:List Nat} {o:Oper} {v z:Value} {c cap s r:Nat} {buf:Array Value} (ho:ops[i]? =some o) (hg:o.guard=none) (hr:(execOp a.eval o).run P w=.ok (.comm #[Conc.scase c v z] true .send) w)
  (hc:w.heap[c]? =some (.chan cap buf false s r false)) (gq:buf.size<cap) (h:yp P ops Q rest (a.put o.dst undef) (w.setChan c cap (buf.push v) false (s+1) r false)):yp P ops Q (i::rest) a w:=by
 intro b k cs hb
 obtain⟨e,a',w2,hq,j5⟩:=h b k cs hb
 refine⟨e,a',w2,hq,.of_steps (.one ?_) j5⟩
 have tG:(b.at a (.inRegion ops (i::rest)::k)).finish undef=b.at (a.put o.dst undef) (.inRegion ops rest::k):=by rw[Frame.finish_at,ho];rfl
 rw[<-tG,Conc.lone_eq_solo,Conc.lone_eq_solo]
 exact Conc.step_lone_send_room (Conc.stepG_comm ho (pP hg) hb hr) hc gq
theorem NG {ops:Array Oper} {i:Nat} {rest:List Nat} {o:Oper} {z:Value} {c cap s r:Nat} {buf:Array Value} (ho:ops[i]? =some o) (hg:o.guard=none) (hr:(execOp a.eval o).run P w=.ok (.comm #[Conc.rcase c z] true (.recv false)) w)
  (hc:w.heap[c]? =some (.chan cap buf false s r false)) (Kt:0<buf.size) (h:yp P ops Q rest (a.put o.dst (buf.getD 0 undef)) (w.setChan c cap (buf.extract 1 buf.size) false s (r+1) false)):yp P ops Q (i::rest) a w:=by
 intro b k cs hb
 obtain⟨e,a',w2,hq,j5⟩:=h b k cs hb
 refine⟨e,a',w2,hq,.of_steps (.one ?_) j5⟩
 have tG:(b.at a (.inRegion ops (i::rest)::k)).finish (buf.getD 0 undef)=b.at (a.put o.dst (buf.getD 0 undef)) (.inRegion ops rest::k):=by rw[Frame.finish_at,ho];rfl
 rw[<-tG,Conc.lone_eq_solo,Conc.lone_eq_solo]
 exact Conc.step_lone_recv_buf false (Conc.stepG_comm ho (pP hg) hb hr) hc Kt
end
section
variable {hs:Nat} {g:Rows} {env:Env} {a:Act} {o:Oper}
theorem Ni {x y:O} (hc:rR P o.op=some (.snd x y)):∃x' y',o.op=.send x' y'/\cO P x'=some x/\cO P y'=some y:=by
 unfold rR at hc
 split at hc
 case h_25=>
  rename_i x' y' h
  simp only[Option.bind_eq_bind,Option.bind_eq_some_iff,Option.pure_def,Option.some.injEq,gN.snd.injEq]at hc
  obtain⟨p,h1,q,h2,rfl,rfl⟩:=hc
  exact⟨_,_,h,h1,h2⟩
 all_goals (try unfold oe at hc)<;>(try unfold wO at hc)<;>(try unfold tr at hc)<;>(repeat' (split at hc))<;>(simp only[Option.bind_eq_bind,Option.bind_eq_some_iff,Option.pure_def,Option.some.injEq,Option.map_eq_some_iff,reduceCtorEq,and_false,exists_false]at hc)
theorem Nh {x:O} (hc:rR P o.op=some (.QG x)):∃t dir e i z x',o.op=.recv t x' false/\P.underlying t=some (.chan dir e)/\P.info? e=some i/\i.zero=some z/\cO P x'=some x:=by
 unfold rR at hc
 split at hc
 case h_26=>
  rename_i t x' h
  split at hc
  ·rename_i dir e ht
   split at hc
   ·rename_i z hz
    simp only[Option.bind_eq_some_iff]at hz
    obtain⟨i,hi,hz⟩:=hz
    simp only[Option.map_eq_some_iff,gN.QG.injEq]at hc
    obtain⟨p,h1,rfl⟩:=hc
    exact⟨t,dir,e,i,z,x',h,ht,hi,hz,h1⟩
   ·cases hc
  ·cases hc
 all_goals (try unfold oe at hc)<;>(try unfold wO at hc)<;>(try unfold tr at hc)<;>(repeat' (split at hc))<;>(simp only[Option.bind_eq_bind,Option.bind_eq_some_iff,Option.pure_def,Option.some.injEq,Option.map_eq_some_iff,reduceCtorEq,and_false,exists_false]at hc)
theorem R7 {x y:O} {g':Rows} (S:gJ P hs D ι g w) (hc:rR P o.op=some (.snd x y)) (E:cI P w D ι env a) (hv:ej g (dm env x) (dm env y)=some g'):
  ∃c cap s r buf u,(execOp a.eval o).run P w=.ok (.comm #[Conc.scase c u (.tuple #[])] true .send) w/\w.heap[c]? =some (.chan cap buf false s r false)/\buf.size<cap/\gJ P hs D ι g' (w.setChan c cap (buf.push u) false (s+1) r false)/\Step hs D ι w D ι (w.setChan c cap (buf.push u) false (s+1) r false):=by
 obtain⟨x',y',ho,hx,hy⟩:=Ni hc
 have rx:=dw E hx
 have ry:=dw E hy
 unfold ej at hv
 split at hv
 ·rename_i i he
  simp only[Option.bind_eq_some_iff]at hv
  obtain⟨r,hg,hv⟩:=hv
  split at hv
  ·rename_i hcond
   simp only[Option.some.injEq]at hv
   subst hv
   obtain⟨B,c,hu,hB,hk,fH,buf,s,q,hb,L9,hR⟩:=Ao S rx he hg
   obtain⟨B',dM,RR,_⟩:=S.row i r hg
   rw[hB]at dM;injection dM with dM;subst dM
   have oG:=S.IL (ob:=.chan c (buf.push (a.eval y')) false (s+1) q false) (r':={r with rows:=r.rows++[[dm env y]]}) hg hcond.1 hB fun hr kJ=>⟨RR.sz,fun cs dC=>?_,fun h0=>(by rw[hk]at h0;cases h0),fun m hm=>(by rw[hk]at hm;cases hm),fun c' lk=>?_⟩
   ·exact⟨B.b,c,s,q,buf,a.eval y',by simp[execOp,ho,hu,Conc.scase],hb,by rw[L9];omega,oG.1,oG.2⟩
   ·rcases List.mem_append.1 dC with h|h
    ·exact RR.flat cs h
    ·rw[List.mem_singleton.1 h]
     intro b tE
     rw[List.mem_singleton.1 tE];exact hcond.2.2
   ·rw[hk]at lk
    simp only[Option.some.injEq,BK.chan.injEq]at lk
    subst lk
    refine⟨fH,_,_,_,kJ,by simp[L9],fun j cs hj=>?_⟩
    rw[List.getElem?_append]at hj
    split at hj
    ·rename_i ew
     obtain⟨b,u,q1,q2,q3⟩:=hR j cs hj
     refine⟨b,u,q1,?_,hr _ _ q3⟩
     rw[Array.getElem?_push,if_neg (by omega)];exact q2
    ·rename_i rl
     have iA:j=r.rows.length:=by
      have:=(List.getElem?_eq_some_iff.1 hj).1
      simp at this;omega
     subst iA
     simp at hj
     subst hj
     exact⟨_,_,rfl,by rw[Array.getElem?_push,if_pos L9.symm],hr _ _ ry⟩
  ·cases hv
 ·cases hv
theorem R6 {x:O} {g':Rows} {v:AV} (S:gJ P hs D ι g w) (hc:rR P o.op=some (.QG x)) (E:cI P w D ι env a) (hv:ei g (dm env x)=some (v,g')):
  ∃c cap s r buf z,(execOp a.eval o).run P w=.ok (.comm #[Conc.rcase c z] true (.recv false)) w/\w.heap[c]? =some (.chan cap buf false s r false)/\0<buf.size/\gJ P hs D ι g' (w.setChan c cap (buf.extract 1 buf.size) false s (r+1) false)/\Step hs D ι w D ι (w.setChan c cap (buf.extract 1 buf.size) false s (r+1) false)/\di P (w.setChan c cap (buf.extract 1 buf.size) false s (r+1) false) D ι v (buf.getD 0 undef):=by
 obtain⟨t,dir,e,i0,z,x',ho,ht,hi,hz,hx⟩:=Nh hc
 have rx:=dw E hx
 unfold ei at hv
 split at hv
 ·rename_i i he
  simp only[Option.bind_eq_some_iff]at hv
  obtain⟨r,hg,hv⟩:=hv
  split at hv
  ·rename_i v' rest ph
   split at hv
   ·rename_i hcond
    simp only[Option.some.injEq,Prod.mk.injEq]at hv
    obtain⟨rfl,rfl⟩:=hv
    obtain⟨B,c,hu,hB,hk,fH,buf,s,q,hb,L9,hR⟩:=Ao S rx he hg
    obtain⟨B',dM,RR,_⟩:=S.row i r hg
    rw[hB]at dM;injection dM with dM;subst dM
    obtain⟨b0,u0,q1,q2,q3⟩:=hR 0 [v'] (by rw[ph];rfl)
    simp only[List.cons.injEq,and_true]at q1
    subst q1
    have kK:0<buf.size:=by rw[L9,ph];simp
    have UL:buf.getD 0 undef=u0:=by rw[Array.getD_eq_getD_getElem?,q2];rfl
    have oG:=S.IL (ob:=.chan c (buf.extract 1 buf.size) false s (q+1) false) (r':={r with rows:=rest}) hg hcond hB fun hr kJ=>⟨RR.sz,fun cs dC=>RR.flat cs (by rw[ph];exact List.mem_cons_of_mem _ dC),fun h0=>(by rw[hk]at h0;cases h0),fun m hm=>(by rw[hk]at hm;cases hm),fun c' lk=>?_⟩
    ·refine⟨B.b,c,s,q,buf,z,?_,hb,kK,oG.1,oG.2,?_⟩
     ·have mW:(zeroValue e).run P w=.ok z w:=by simp[zeroValue,typeInfo,hi,hz]
      simp[execOp,ho,hu,Conc.rcase,run_underlying ht,mW]
     ·rw[UL];exact oG.2.rep q3
    ·rw[hk]at lk
     simp only[Option.some.injEq,BK.chan.injEq]at lk
     subst lk
     refine⟨fH,_,_,_,kJ,by simp[L9,ph],fun j cs hj=>?_⟩
     obtain⟨b,u,k1,k2,k3⟩:=hR (j+1) cs (by rw[ph];simpa using hj)
     refine⟨b,u,k1,?_,hr _ _ k3⟩
     have ew:=(Array.getElem?_eq_some_iff.1 k2).1
     rw[Array.getElem?_extract,if_pos (by omega),Nat.add_comm 1 j];exact k2
   ·cases hv
  ·cases hv
 ·cases hv
theorem Hj {ops:Array Oper} {nt site0:Nat} {K:Env->au->Prop} {Q:Exit->Act->World->Prop}:∀(l:List Oper) (vl:List br) (j:Nat) (env:Env) (σ:au) (a:Act) (w:World) (D:Nat->Prop) (ι:Names),
  ops.toList.drop j=l->allM (lh P ops nt site0 false false #[] []) l j=some vl->cJ vl K env σ->gJ P hs D ι σ.get w->Used ι σ.next (fun _=>False)->cI P w D ι env a->a.tmps.size=nt->
  (∀iU σ' a' w' D' ι',K iU σ'->Step hs D ι w D' ι' w'->St P hs nt D' ι' iU σ' a' w'->a'.defers=a.defers->σ.next<=σ'.next->Q .normal a' w')->yp P ops Q (List.range' j l.length) a w:=by
 intro l
 induction l with
 |nil=>
  intro vl j env σ a w D ι _ h hv S Us E fH hQ
  simp[allM]at h;subst h
  exact QC (hQ env ⟨σ.get,σ.next+1⟩ a w D ι hv (Step.refl _ _ _ _) ⟨S,Us.next,E,fH⟩ rfl (Nat.le_succ _))
 |cons o l ih=>
  intro vl j env σ a w D ι hl h hv S Us E fH hQ
  simp only[allM,Option.bind_eq_bind,Option.bind_eq_some_iff,Option.pure_def,Option.some.injEq]at h
  obtain⟨vo,qv,ue,tg,rfl⟩:=h
  obtain⟨hc,hd,CG,yG,hg⟩:=pV qv
  obtain⟨SN,hv⟩:=hv
  have Wp:o.guard=none:=by
   split at hg
   ·assumption
   ·obtain⟨t,_,h⟩:=hg
    rw[SN]at h;cases h
  have Wq:ops[j]? =some o:=by
   have h0:=congrArg (fun x=>x[0]?) hl
   rw[<-Array.getElem?_toList]
   simpa[List.getElem?_drop]using h0
  have Mf:ops.toList.drop (j+1)=l:=by rw[<-List.drop_drop,hl];rfl
  have go:∀(v:AV) (u:Value) (g2:Rows) (w2:World),cJ ue K (upd env vo.dst v) ⟨g2,σ.next⟩->gJ P hs D ι g2 w2->Step hs D ι w D ι w2->di P w2 D ι v u->yp P ops Q (List.range' (j+1) l.length) (a.put o.dst u) w2:=fun v u g2 w2 hn S2 T hR=>
   ih ue (j+1) (upd env vo.dst v) ⟨g2,σ.next⟩ (a.put o.dst u) w2 D ι Mf tg hn S2 Us (by rw[hd];exact iO (pc E T) hR yG fH) (by rw[ft];exact fH) fun iU σ2 a' w3 D3 ι3 hk T2 O4 EL nH=>hQ iU σ2 a' w3 D3 ι3 hk (T.trans T2) O4 (EL.trans (put_defers _ _ _)) nH
  rw[show List.range' j (o::l).length=j::List.range' (j+1) l.length from rfl]
  split at hv
  ·rename_i x y eA
   split at hv
   ·rename_i g2 RG
    rw[eA]at hc
    obtain⟨c,cap,s,r,buf,u,gy,hb,gq,S2,T⟩:=R7 S hc E RG
    exact NH Wq Wp gy hb gq (go _ _ _ _ hv S2 T di.undef)
   ·exact hv.elim
  ·rename_i x eA
   split at hv
   ·rename_i v g2 RG
    rw[eA]at hc
    obtain⟨c,cap,s,r,buf,z,gy,hb,Kt,S2,T,hR⟩:=R6 S hc E RG
    exact NG Wq Wp gy hb Kt (go _ _ _ _ hv S2 T hR)
   ·exact hv.elim
  ·split at hv
   ·rename_i v hq
    obtain⟨u,gy,hR⟩:=zQ hc hq S E
    exact K6 Wq Wp gy (go _ _ _ _ hv S (Step.refl _ _ _ _) hR)
   ·exact hv.elim
end
end Go.Proofs.YtgoelphibofcmaaGreat.V

namespace Go.Proofs.YtgoelphibofcmaaGreat.V
open Go.RowKit
variable {P:Program} {w w':World} {D D' D2:Nat->Prop} {ι ι' ι2:Names}
section
variable {hs:Nat} {X:fZ}
def Ub:Ex->Exit
 | .normal=>.normal
 | .exit id=>.exit id
 | .ret=>.ret
theorem St.drew {nt:Nat} {env:Env} {σ:au} {a:Act} {D:Nat->Prop} {ι:Names} (h:St P hs nt D ι env σ a w):St P hs nt D ι env σ a w.drew/\Step hs D ι w D ι w.drew:=by
 have T:Step hs D ι w D ι w.drew:=Step.stay h.tX (fun _ _=>rfl) (Nat.le_refl _) rfl rfl rfl (fun _ h=>h) (fun _ h=>.inl h) (fun _ _ h=>h)
 exact⟨⟨h.tX.stay (fun _ _=>rfl) (Nat.le_refl _) (fun _ h=>h) h.tX.dead (fun _ h=>.inl h) (fun _ _ h=>h),h.used,pc h.env T,h.size⟩,T⟩
def uh (P:Program) (hs nt:Nat) (ds:List Deferred) (Q:Ex->Env->au->Prop) (n0:Nat) (D:Nat->Prop) (ι:Names) (w:World) (Q':Exit->Act->World->Prop):Prop:=
 ∀ex env σ a w' D' ι',Q ex env σ->Step hs D ι w D' ι' w'->St P hs nt D' ι' env σ a w'->a.defers=ds->n0<=σ.next->Q' (Ub ex) a w'
theorem uh.later {nt:Nat} {ds:List Deferred} {Q:Ex->Env->au->Prop} {n0 n1:Nat} {Q':Exit->Act->World->Prop} (h:uh P hs nt ds Q n0 D ι w Q') (T:Step hs D ι w D' ι' w') (hn:n0<=n1):uh P hs nt ds Q n1 D' ι' w' Q':=
 fun ex env σ a w2 D2 ι2 hq T2 dJ hd hle=>h ex env σ a w2 D2 ι2 hq (T.trans T2) dJ hd (Nat.le_trans hn hle)
theorem qQ (hm:P.follows .mixedOrders=true) {md:List (Nat×Nat)} {nt fid:Nat}:∀(c:Code) (vc:VC),jC P md nt fid c=some vc->∀(Q:Ex->Env->au->Prop) (env:Env) (σ:au) (a:Act) (w:World) (D:Nat->Prop) (ι:Names) (Q':Exit->Act->World->Prop),
  dQ (Sound P) vc Q env σ->St P hs nt D ι env σ a w->uh P hs nt a.defers Q σ.next D ι w Q'->Bz P c Q' a w:=by
 intro c
 induction c with
 |skip=>
  intro vc h Q env σ a w D ι Q' hv dJ hQ
  simp[jC]at h;subst h
  exact kM <| wp_skip (hQ .normal env σ a w D ι hv (Step.refl _ _ _ _) dJ rfl (Nat.le_refl _))
 |exit id=>
  intro vc h Q env σ a w D ι Q' hv dJ hQ
  simp[jC]at h;subst h
  exact kM <| wp_exit (hQ (.exit id) env σ a w D ι hv (Step.refl _ _ _ _) dJ rfl (Nat.le_refl _))
 |ret=>
  intro vc h Q env σ a w D ι Q' hv dJ hQ
  simp[jC]at h;subst h
  exact kM <| wp_ret (hQ .ret env σ a w D ι hv (Step.refl _ _ _ _) dJ rfl (Nat.le_refl _))
 |seq x y ihx ihy=>
  intro vc h Q env σ a w D ι Q' hv dJ hQ
  simp only[jC,Option.bind_eq_bind,Option.bind_eq_some_iff,Option.pure_def,Option.some.injEq]at h
  obtain⟨vx,hx,vy,hy,rfl⟩:=h
  refine l8 (ihx vx hx _ env σ a w D ι _ hv dJ fun ex ju σ1 a1 w1 D1 ι1 hq T kr hd hle=>?_)
  cases ex with
  |normal=>exact ihy vy hy Q ju σ1 a1 w1 D1 ι1 Q' hq kr (by rw[hd];exact hQ.later T hle)
  |exit id=>exact hQ (.exit id) ju σ1 a1 w1 D1 ι1 hq T kr hd hle
  |ret=>exact hQ .ret ju σ1 a1 w1 D1 ι1 hq T kr hd hle
 |cond c x y ihx ihy=>
  intro vc h Q env σ a w D ι Q' hv dJ hQ
  simp only[jC,Option.bind_eq_bind,Option.bind_eq_some_iff,Option.pure_def,Option.some.injEq]at h
  obtain⟨c',hc,vx,hx,vy,hy,rfl⟩:=h
  unfold dQ at hv
  have hr:=dw dJ.env hc
  split at hv
  ·rename_i b hb
   rw[hb]at hr
   refine xE (fA hr) ?_
   cases b with
   |true=>exact ihx vx hx Q env σ a w D ι Q' hv dJ hQ
   |false=>exact ihy vy hy Q env σ a w D ι Q' hv dJ hQ
  ·exact hv.elim
 |block id c ih=>
  intro vc h Q env σ a w D ι Q' hv dJ hQ
  simp only[jC,Option.map_eq_some_iff]at h
  obtain⟨vx,hx,rfl⟩:=h
  refine tT (ih vx hx _ env σ a w D ι _ hv dJ fun ex ju σ1 a1 w1 D1 ι1 hq T kr hd hle=>?_)
  cases ex with
  |normal=>exact hQ .normal ju σ1 a1 w1 D1 ι1 hq T kr hd hle
  |ret=>exact hQ .ret ju σ1 a1 w1 D1 ι1 hq T kr hd hle
  |exit kf=>
   simp only[bl]at hq
   simp only[Ub,Exit.inBlock]
   by_cases hid:kf=id
   ·rw[if_pos hid]at hq ⊢;exact hQ .normal ju σ1 a1 w1 D1 ι1 hq T kr hd hle
   ·rw[if_neg hid]at hq ⊢;exact hQ (.exit kf) ju σ1 a1 w1 D1 ι1 hq T kr hd hle
 |loop c ih=>
  intro vc h Q env σ a w D ι Q' hv dJ hQ
  simp only[jC,Option.map_eq_some_iff]at h
  obtain⟨vx,hx,rfl⟩:=h
  obtain⟨n,hv⟩:=hv
  refine De n ?_
  have key:∀n env σ a w D ι,GF (dQ (Sound P) vx) Q n env σ->St P hs nt D ι env σ a w->uh P hs nt a.defers Q σ.next D ι w Q'->qb P c Q' n a w:=by
   intro n
   induction n with
   |zero=>intro env σ a w D ι h;exact h.elim
   |succ n ihn=>
    intro env σ a w D ι h dJ hQ
    refine ih vx hx _ env σ a w D ι _ h dJ fun ex ju σ1 a1 w1 D1 ι1 hq T kr hd hle=>?_
    cases ex with
    |normal=>exact ihn ju σ1 a1 w1 D1 ι1 hq kr (by rw[hd];exact hQ.later T hle)
    |exit id=>exact hQ (.exit id) ju σ1 a1 w1 D1 ι1 hq T kr hd hle
    |ret=>exact hQ .ret ju σ1 a1 w1 D1 ι1 hq T kr hd hle
  exact key n env σ a w D ι hv dJ hQ
 |region id ops draw=>
  intro vc h Q env σ a w D ι Q' hv dJ hQ
  simp only[jC,R5]at h
  split at h
  ·rename_i hmode
   have VV:draw=true:=by
    simp only[Bool.and_eq_true]at hmode;exact hmode.1
   subst VV
   split at h
   ·rename_i vl dx
    obtain⟨si,T0⟩:=dJ.drew
    have EH:=IK (X:=Sound P) lg ops.size _ vc env σ h (fun k i h=>by
     exfalso
     rcases Nat.lt_or_ge k ops.size with hk|hk
     ·simp[hk]at h
     ·simp[Nat.not_lt.2 hk]at h) hv
    refine kM (wp_region_any hm ?_)
    exact FX dx ops.size _ env σ a w.drew D ι (fun _=>False) EH si.tX si.used (fun _ h=>h.elim) si.env si.size fun ju σ1 a1 w1 D1 ι1 hk T kr hd hle=>hQ .normal ju σ1 a1 w1 D1 ι1 hk (T0.trans T) kr hd hle
   ·cases h
  split at h
  ·rename_i hcom
   have VV:draw=false:=by
    simp only[Bool.and_eq_true,Bool.not_eq_true']at hcom;exact hcom.1
   subst VV
   simp only[Option.map_eq_some_iff]at h
   obtain⟨vl,tg,rfl⟩:=h
   have dx:allM (lh P ops nt ((fid*1000+id)*1000) false false #[] []) ops.toList 0=some vl:=by
    unfold r5 at tg
    simp only[Bool.false_eq_true,if_false,Bool.not_false,Bool.true_or,if_true]at tg
    split at tg
    ·rename_i ue h;simp at tg;subst tg;exact h
    ·cases tg
   refine Fm ?_
   have:=Hj (Q:=Q') ops.toList vl 0 env σ a w D ι rfl dx hv dJ.tX dJ.used dJ.env dJ.size fun ju σ1 a1 w1 D1 ι1 hk T kr hd hle=>hQ .normal ju σ1 a1 w1 D1 ι1 hk T kr hd hle
   rwa [<-List.range_eq_range',Array.length_toList]at this
  generalize (xz md id==1)=mk at h
  simp only[Option.map_eq_some_iff]at h
  obtain⟨vl,tg,rfl⟩:=h
  cases draw with
  |false=>
   have dx:∃ue,allM (lh P ops nt ((fid*1000+id)*1000) false mk #[] []) ops.toList 0=some ue/\vl=ue:=by
    unfold r5 at tg
    simp only[Bool.false_eq_true,if_false,Bool.not_false,Bool.true_or,if_true]at tg
    split at tg
    ·rename_i ue h;simp at tg;exact⟨ue,h,tg.symm⟩
    ·cases tg
   obtain⟨ue,dx,rfl⟩:=dx
   refine kM (wp_region_list ?_)
   exact zJ ops.toList vl 0 env σ a w D ι (fun _=>False) dx hv dJ.tX dJ.used (fun _ h=>h.elim) dJ.env dJ.size fun ju σ1 a1 w1 D1 ι1 hk T kr hd hle=>hQ .normal ju σ1 a1 w1 D1 ι1 hk T kr hd hle
  |true=>
   have dx:∃hidden ue,allM (lh P ops nt ((fid*1000+id)*1000) true mk (jR ops) hidden) ops.toList 0=some ue/\vl=ue/\pb ops ue (jR ops)=true:=by
    unfold r5 at tg
    simp only[if_true,Bool.not_true,Bool.false_or]at tg
    split at tg
    ·rename_i ue h
     split at tg
     ·rename_i xn;simp at tg;exact⟨_,ue,h,tg.symm,xn⟩
     ·cases tg
    ·cases tg
   obtain⟨hidden,ue,dx,rfl,xn⟩:=dx
   obtain⟨si,T0⟩:=dJ.drew
   obtain⟨hlen,_⟩:=oV dx
   have ll:vl.length=ops.size:=by rw[hlen];simp
   have EH:=yg (X:=Sound P) (K:=Q .normal) (n:=σ.next) xn ll vl 0 (Array.replicate ops.size false) env σ.get (by simp) (by simp) (fun i hi=>by simp[hi]) (by simp[ll]) (fun k i h=>by
    exfalso
    rcases Nat.lt_or_ge k ops.size with hk|hk
    ·simp[hk]at h
    ·simp[Nat.not_lt.2 hk]at h) hv
   refine kM (wp_region_any hm ?_)
   rw[ll]at EH
   exact yZ dx ops.size _ env σ.get a w.drew D ι (fun _=>False) EH si.tX si.used (fun _ h=>h.elim) si.env si.size fun ju g1 a1 w1 D1 ι1 U1 hk T S1 Va E1 BL hd=>hQ .normal ju ⟨g1,σ.next+1⟩ a1 w1 D1 ι1 hk (T0.trans T) ⟨S1,Va.next,E1,BL⟩ hd (Nat.le_succ _)
 |_=>
  intro vc h
  simp[jC]at h
def Lm (tmps:Array Value):ResultVar->Sem Value
 | .tmp t=>pure (tmps.getD t undef)
 | .cell a t=>do loadVar t (<-asAddr (tmps.getD a undef))
theorem FA (fn:Func) (tmps:Array Value):results fn tmps=(do
  let vs <-fn.results.mapM (Lm tmps)
  pure (if h:vs.size=1 then vs[0]else .tuple vs)):=by
 unfold results
 congr 2
theorem uI {nt:Nat} {env:Env} {σ:au} {a:Act} {D:Nat->Prop} {ι:Names} (dJ:St P hs nt D ι env σ a w):∀(rs:List ResultVar) (vr:List ox) (vs:List AV),rs.mapM (Ep P)=some vr->fG env σ.get vr=some vs->
  ∃us:List Value,(rs.mapM (Lm a.tmps)).run P w=.ok us w/\us.length=vs.length/\∀(j:Nat) (v:AV),vs[j]? =some v->∃u,us[j]? =some u/\di P w D ι v u
 |[],vr,vs,h,hv=>by
  simp at h;subst h
  simp[fG]at hv;subst hv
  exact⟨[],by simp,rfl,fun j v h=>by simp at h⟩
 |r::rs,vr,vs,h,hv=>by
  simp only[List.mapM_cons,Option.bind_eq_bind,Option.bind_eq_some_iff]at h
  obtain⟨x,hx,vr',hr,h⟩:=h
  simp at h;subst h
  simp only[fG,Option.bind_eq_some_iff,Option.map_eq_some_iff]at hv
  obtain⟨v,zo,WR,Te,rfl⟩:=hv
  obtain⟨us,h1,h2,h3⟩:=uI dJ rs vr' WR hr Te
  have one:∃u,(Lm a.tmps r).run P w=.ok u w/\di P w D ι v u:=by
   cases r with
   |tmp t=>
    simp[Ep]at hx;subst hx
    simp[iG]at zo;subst zo
    exact⟨_,rfl,dJ.env t⟩
   |cell b t=>
    simp only[Ep,Option.bind_eq_bind,Option.bind_eq_some_iff,Option.pure_def,Option.some.injEq]at hx
    obtain⟨ag,vP,n,hn,rfl⟩:=hx
    simp only[iG]at zo
    have gH:=dJ.env b
    unfold ld at zo
    split at zo
    ·rename_i kf i' oo hb
     rw[hb]at gH
     obtain⟨B,he,hB,hk⟩:=iS gH
     simp only[Option.bind_eq_some_iff]at zo
     obtain⟨cs,dC,hp⟩:=zo
     obtain⟨B',r0,IW,dM,R,hi,fl,f,hf⟩:=Ls (S:=dJ.tX) dC (fun B2 h2=>by rw[hB]at h2;injection h2 with h2;subst h2;exact hk)
     rw[hB]at dM;injection dM with dM;subst dM
     obtain⟨u,k1,k2⟩:=kW (w:=w) (b:=B.b) (oo:=i'*B.sz+oo) (f:=fun j=>f (oo+j)) vP hn hp (fun a ha=>fl a (List.mem_of_mem_drop ha)) (fun j hj=>by
      rw[Nat.add_assoc];exact(hf _ (by simp at hj;omega)).1) (fun j a ha=>by
      simp at ha;exact(hf _ ((List.getElem?_eq_some_iff.1 ha).1)).2 _ ha)
     exact⟨u,by simp only[Lm,he,asAddr,Sem.run_bind,Sem.run_pure,Result.andThen_ok,k1],k2⟩
    ·rename_i cs hb
     rw[hb]at gH
     obtain⟨b',oo,vs2,he,q1,q2,q3,q4⟩:=lD gH
     obtain⟨u,k1,k2⟩:=kW (w:=w) (b:=b') (oo:=oo) (f:=vs2) vP hn zo q2 q3 (fun j a ha=>.eZ _ _ (q4 j a ha))
     exact⟨u,by simp only[Lm,he,asAddr,Sem.run_bind,Sem.run_pure,Result.andThen_ok,k1],k2⟩
    ·simp at zo
  obtain⟨u,hu,yL⟩:=one
  refine⟨u::us,?_,by simp[h2],fun j v' hj=>?_⟩
  ·rw[List.mapM_cons]
   simp only[Sem.run_bind,hu,h1,Result.andThen_ok,Sem.run_pure]
  ·cases j with
   |zero=>simp at hj;subst hj;exact⟨u,rfl,yL⟩
   |succ j=>simp at hj ⊢;exact h3 j v' hj
theorem wM {f:Nat} {fn:Func} {c:Code} {args:List AV} {σ:au} {K:AV->au->Prop} {vr:List ox} (Rt:P.funcs[f]? =some fn) (hc:fn.body=some c) (hr:fn.results.toList.mapM (Ep P)=some vr) (ha:fn.params.size+fn.nfree=args.length) (hle:fn.params.size+fn.nfree<=fn.ntmps)
  (h:∀(hs:Nat) (w:World) (D:Nat->Prop) (ι:Names) (a:Act) (Q':Exit->Act->World->Prop),St P hs fn.ntmps D ι (cG args) σ a w->uh P hs fn.ntmps a.defers (kV vr K) σ.next D ι w Q'->Bz P c Q' a w):Sound P f args σ K:=by
 intro hs D ι w vs S Us A
 have fH:vs.size=args.length:=A.1
 refine An Rt hc ?_
 refine h hs w D ι _ _ ⟨S,Us,fun t=>?_,by simp;omega⟩ fun ex ju σ1 a1 w1 D1 ι1 hq T kr hd hle=>?_
 ·simp only[cG]
  by_cases ew:t<args.length
  ·obtain⟨u,hu,yL⟩:=A.2 t args[t] (List.getElem?_eq_getElem ew)
   have e1:args.getD t .undef=args[t]:=by simp[List.getD_eq_getElem?_getD,ew]
   have e2:(vs++Array.replicate (fn.ntmps-vs.size) undef).getD t undef=u:=by
    simp only[Array.getD_eq_getD_getElem?]
    rw[Array.getElem?_append_left (by omega),hu];rfl
   rw[e1,e2];exact yL
  ·have e1:args.getD t .undef=.undef:=by simp[List.getD_eq_getElem?_getD,Nat.le_of_not_lt ew]
   have e2:(vs++Array.replicate (fn.ntmps-vs.size) undef).getD t undef=undef:=by
    simp only[Array.getD_eq_getD_getElem?]
    rw[Array.getElem?_append_right (by omega),Array.getElem?_replicate]
    split<;>rfl
   rw[e1,e2];exact di.undef
 ·have fin:(∃vs,fG ju σ1.get vr=some vs/\K (eW vs) σ1)->a1.defers=[]/\∃v,(results fn a1.tmps).run P w1=.ok v w1/\∃r g' n' D' ι' u,Ending.returned v=.returned u/\K r ⟨g',n'⟩/\Step hs D ι w D' ι' w1/\gJ P hs D' ι' g' w1/\Used ι' n' (fun _=>False)/\σ.next<=n'/\di P w1 D' ι' r u:=by
   rintro⟨avs,Te,hK⟩
   obtain⟨us,h1,h2,h3⟩:=uI kr fn.results.toList vr avs hr Te
   have Qg:(results fn a1.tmps).run P w1=.ok (if h:us.toArray.size=1 then us.toArray[0]else .tuple us.toArray) w1:=by
    rw[FA,Array.mapM_eq_mapM_toList]
    simp only[Sem.run_bind,Sem.run_map,h1,Result.andThen_ok,Sem.run_pure]
   refine⟨hd,_,Qg,eW avs,σ1.get,σ1.next,D1,ι1,_,rfl,hK,T,kr.tX,kr.used,hle,?_⟩
   unfold eW
   split
   ·rename_i v
    have hl:us.length=1:=h2
    obtain⟨u,hu,yL⟩:=h3 0 v rfl
    rw[dif_pos (by simpa using hl)]
    have:us.toArray[0]'(by simp[hl])=u:=by
     have:=(List.getElem?_eq_some_iff.1 hu).2
     simpa using this
    rw[this];exact yL
   ·rename_i gM
    rw[dif_neg (by
     simp only[List.size_toArray,h2]
     intro h
     obtain⟨v,hv⟩:=List.length_eq_one_iff.1 h
     exact gM v hv)]
    exact .gD _ _ (fun j=>us.getD j undef) (by simp[h2]) (fun j hj=>by
     have:j<us.length:=by rw[h2];exact hj
     simp[this]) (fun j v hj=>by
     obtain⟨u,hu,yL⟩:=h3 j v hj
     simpa[List.getD_eq_getElem?_getD,hu]using yL)
  cases ex with
  |normal=>exact fin hq
  |ret=>exact fin hq
  |exit id=>exact hq.elim
theorem JW (hm:P.follows .mixedOrders=true) {f:Nat} {md:List (Nat×Nat)} {vf:BA} {args:List AV} {σ:au} {K:AV->au->Prop} (hf:yz P f md=some vf) (ha:vf.zE=args.length) (h:dQ (Sound P) vf.body (kV vf.res K) (cG args) σ):Sound P f args σ K:=by
 unfold yz at hf
 split at hf
 ·rename_i fn Rt
  split at hf
  ·rename_i c hc
   simp only[Option.bind_eq_bind,Option.bind_eq_some_iff]at hf
   obtain⟨vb,hb,vr,hr,hf⟩:=hf
   split at hf
   ·rename_i hle
    simp only[Option.pure_def,Option.some.injEq]at hf
    subst hf
    simp only at ha h
    exact wM Rt hc hr ha hle fun hs w D ι a Q' dJ hQ=>qQ hm c vb hb (kV vr K) (cG args) σ a w D ι Q' h dJ hQ
   ·simp at hf
  ·simp at hf
 ·simp at hf
def OQ (P:Program) (X:fZ):fZ:=fun f args σ K=>(∃md vf,yz P f md=some vf/\vf.zE=args.length/\((∀a∈args,eP a)->dQ X vf.body (kV vf.res K) (cG args) σ))∨Sound P f args σ K
def Call (P:Program):fZ:=fun f args σ K=>∀X:fZ,qy X->(∀f args σ K,OQ P X f args σ K->X f args σ K)->X f args σ K
theorem gG (hm:P.follows .mixedOrders=true) {f:Nat} {args:List AV} {σ:au} {K:AV->au->Prop} (h:Call P f args σ K):Sound P f args σ K:=
 h (Sound P) lg fun f args σ K hs=>by
  rcases hs with⟨md,vf,h1,h2,h3⟩|h
  ·intro hs D ι w vs S U A
   exact JW hm h1 h2 (h3 (pz fun j a hj=>by obtain⟨u,_,hr⟩:=A.2 j a hj;exact hr.KI)) hs D ι w vs S U A
  ·exact h
end
end Go.Proofs.YtgoelphibofcmaaGreat.V

namespace Go.Proofs.YtgoelphibofcmaaGreat.V
open Go.RowKit
variable {P:Program} {X Y:fZ}
theorem Ji (h:∀f args σ K,X f args σ K->Y f args σ K) {f:Nat} {args:List AV} {σ:au} {K:AV->Prop} (hp:fX X f args σ K):fX Y f args σ K:=by
 rcases hp with hp|⟨a,h1,h2⟩
 ·exact .inl (h _ _ _ _ hp)
 ·exact .inr ⟨a,h1,h _ _ _ _ h2⟩
theorem Ml (h:∀f args σ K,X f args σ K->Y f args σ K) {f:Nat} {args:List AV} {σ:au} {sz:Nat} {rows:List (List AV)} (hp:CM X f args σ sz rows):CM Y f args σ sz rows:=by
 obtain⟨h1,a,h2,h3⟩:=hp
 exact⟨h1,a,h2,h _ _ _ _ h3⟩
theorem qO (h:∀f args σ K,X f args σ K->Y f args σ K) (hK:∀f args σ K K',(∀r σ',K r σ'->K' r σ')->Y f args σ K->Y f args σ K') {draw:Bool} {hid:List Nat} {site:Nat} {f:Nat} {args:List AV} {σ:au} {n n':AV->au->Prop} (hn:∀v σ',n v σ'->n' v σ') (hp:cN X draw hid site f args σ n):cN Y draw hid site f args σ n':=by
 rcases hp with⟨r,h1,h2⟩|⟨h1,h2⟩|⟨h1,sz,rows,h2,h3⟩
 ·exact .inl ⟨r,Ji h h1,hn _ _ h2⟩
 ·exact .inr (.inl ⟨h1,hK _ _ _ _ _ hn (h _ _ _ _ h2)⟩)
 ·exact .inr (.inr ⟨h1,sz,rows,Ml h h2,hn _ _ h3⟩)
theorem s6 (h:∀f args σ K,X f args σ K->Y f args σ K) (hK:∀f args σ K K',(∀r σ',K r σ'->K' r σ')->Y f args σ K->Y f args σ K') {draw:Bool} {o:br} {env:Env} {σ:au} {n n':AV->au->Prop} (hn:∀v σ',n v σ'->n' v σ') (hp:fM X draw o env σ n):fM Y draw o env σ n':=by
 unfold fM at hp ⊢
 split at hp
 ·exact qO h hK hn hp
 ·split at hp
  ·exact qO h hK hn hp
  ·exact qO h hK hn hp
  ·exact hp.elim
 ·split at hp
  ·exact hn _ _ hp
  ·exact hp.elim
 ·split at hp
  ·exact hn _ _ hp
  ·exact hp.elim
 ·split at hp
  ·exact hn _ _ hp
  ·exact hp.elim
 ·split at hp
  ·exact hn _ _ hp
  ·exact hp.elim
 ·split at hp
  ·exact hn _ _ hp
  ·exact hp.elim
 ·split at hp
  ·exact hn _ _ hp
  ·exact hn _ _ hp
  ·exact hp.elim
theorem lJ (h:∀f args σ K,X f args σ K->Y f args σ K) (hK:∀f args σ K K',(∀r σ',K r σ'->K' r σ')->Y f args σ K->Y f args σ K') {draw:Bool} {Q Q':Env->au->Prop} (hQ:∀e s,Q e s->Q' e s):∀(l:List br) (env:Env) (σ:au),wpOps X draw l Q env σ->wpOps Y draw l Q' env σ
 |[],env,σ,hp=>hQ _ _ hp
 |o::r,env,σ,hp=>by
  unfold wpOps at hp ⊢
  split at hp
  ·rename_i hw;rw[if_pos hw];exact s6 h hK (fun v σ'=>lJ h hK hQ r _ _) hp
  ·rename_i hw;rw[if_neg hw];exact lJ h hK hQ r _ _ hp
theorem nV {Q Q':Env->au->Prop} (hQ:∀e s,Q e s->Q' e s):∀(l:List br) (env:Env) (σ:au),cJ l Q env σ->cJ l Q' env σ
 |[],env,σ,hp=>hQ _ _ hp
 |o::r,env,σ,hp=>by
  unfold cJ at hp ⊢
  refine⟨hp.1,?_⟩
  replace hp:=hp.2
  split at hp
  ·split at hp
   ·exact nV hQ r _ _ hp
   ·exact hp.elim
  ·split at hp
   ·exact nV hQ r _ _ hp
   ·exact hp.elim
  ·split at hp
   ·exact nV hQ r _ _ hp
   ·exact hp.elim
theorem jN (h:∀f args σ K,X f args σ K->Y f args σ K) (hK:∀f args σ K K',(∀r σ',K r σ'->K' r σ')->Y f args σ K->Y f args σ K'):∀(c:VC) (Q Q':Ex->Env->au->Prop) (env:Env) (σ:au),(∀x e s,Q x e s->Q' x e s)->dQ X c Q env σ->dQ Y c Q' env σ:=by
 intro c
 induction c with
 |skip=>intro Q Q' env σ hQ hp;exact hQ _ _ _ hp
 |exit id=>intro Q Q' env σ hQ hp;exact hQ _ _ _ hp
 |ret=>intro Q Q' env σ hQ hp;exact hQ _ _ _ hp
 |one o c ih=>
  intro Q Q' env σ hQ hp
  unfold dQ at hp ⊢
  split at hp
  ·rename_i hw;rw[if_pos hw];exact s6 h hK (fun v σ'=>ih Q Q' _ _ hQ) hp
  ·rename_i hw;rw[if_neg hw];exact ih Q Q' _ _ hQ hp
 |both a b iha ihb=>intro Q Q' env σ hQ hp;exact⟨iha Q Q' env σ hQ hp.1,ihb Q Q' env σ hQ hp.2⟩
 |loc t s y c ih=>intro Q Q' env σ hQ hp;exact⟨hp.1,ih Q Q' env σ hQ hp.2⟩
 |Pg ops=>intro Q Q' env σ hQ hp;exact nV (hQ .normal) ops env σ hp
 |eS draw ops=>intro Q Q' env σ hQ hp;exact lJ h hK (hQ .normal) ops env σ hp
 |seq a b iha ihb=>
  intro Q Q' env σ hQ hp
  refine iha _ _ env σ (fun x e s hx=>?_) hp
  cases x with
  |normal=>exact ihb Q Q' e s hQ hx
  |exit id=>exact hQ _ _ _ hx
  |ret=>exact hQ _ _ _ hx
 |cond c a b iha ihb=>
  intro Q Q' env σ hQ hp
  unfold dQ at hp ⊢
  split at hp
  ·rename_i t ht
   cases t with
   |true=>exact iha Q Q' env σ hQ hp
   |false=>exact ihb Q Q' env σ hQ hp
  ·exact hp.elim
 |block id a iha=>
  intro Q Q' env σ hQ hp
  refine iha _ _ env σ (fun x e s hx=>?_) hp
  cases x with
  |normal=>exact hQ _ _ _ hx
  |ret=>exact hQ _ _ _ hx
  |exit kf=>
   unfold bl at hx ⊢
   dsimp only at hx ⊢
   split at hx
   ·rename_i hid;rw[if_pos hid];exact hQ _ _ _ hx
   ·rename_i hid;rw[if_neg hid];exact hQ _ _ _ hx
 |loop a iha=>
  intro Q Q' env σ hQ hp
  obtain⟨n,hp⟩:=hp
  refine⟨n,?_⟩
  induction n generalizing env σ with
  |zero=>exact hp
  |succ n ihn=>
   refine iha _ _ env σ (fun x e s hx=>?_) hp
   cases x with
   |normal=>exact ihn e s hx
   |exit id=>exact hQ _ _ _ hx
   |ret=>exact hQ _ _ _ hx
theorem aE:qy (Call P):=fun _ _ _ _ _ hK h X hX hc=>hX _ _ _ _ _ hK (h X hX hc)
theorem yX {f:Nat} {args:List AV} {σ:au} {K:AV->au->Prop} (h:OQ P (Call P) f args σ K):Call P f args σ K:=by
 intro X hX hc
 refine hc _ _ _ _ ?_
 rcases h with⟨md,vf,h1,h2,h3⟩|h
 ·exact .inl ⟨md,vf,h1,h2,fun hl=>jN (fun f args σ K h=>h X hX hc) hX _ _ _ _ _ (fun _ _ _ h=>h) (h3 hl)⟩
 ·exact .inr h
theorem wi {f:Nat} {md:List (Nat×Nat)} {args:List AV} {σ:au} {K:AV->au->Prop} {vf:BA} (hf:yz P f md=some vf) (ha:vf.zE=args.length) (h:(∀a∈args,eP a)->dQ (Call P) vf.body (kV vf.res K) (cG args) σ):Call P f args σ K:=
 yX (.inl ⟨md,vf,hf,ha,h⟩)
theorem mJ {f:Nat} {args:List AV} {σ:au} {K:AV->au->Prop} {vf:BA} (hf:lV P f=some vf) (ha:vf.zE=args.length) (h:(∀a∈args,eP a)->dQ (Call P) vf.body (kV vf.res K) (cG args) σ):Call P f args σ K:=
 wi hf ha h
theorem ig {f:Nat} {args:List AV} {σ:au} {K:AV->au->Prop} (h:Sound P f args σ K):Call P f args σ K:=yX (.inr h)
def iM (P:Program) (f:Nat) (args:List AV) (r:AV):Prop:=∀σ,PC (Call P) f args σ (fun r'=>r'=r)
theorem iM.body {f:Nat} {args:List AV} {r:AV} {nt na:Nat} {body:VC} {res:List ox} (hf:lV P f=some ⟨nt,na,body,res⟩) (ha:na=args.length) (h:(∀a∈args,eP a)->∀σ:au,dQ (Call P) body (kV res fun r0 σ'=>∃r',fz σ'.get 6 r0=some r'/\r'=r) (cG args) ⟨V.ro σ.get,σ.next⟩):iM P f args r:=fun σ=>mJ hf ha fun hl=>h hl σ
variable {Q:Ex->Env->au->Prop} {K:Env->au->Prop} {env:Env} {σ:au}
theorem G5 {a b:VC} (h:∀N:Env->au->Prop,(∀e s,dQ X b Q e s->N e s)->dQ X a (dv N Q) env σ):dQ X (.seq a b) Q env σ:=h _ fun _ _ h=>h
theorem Bw (h:Q .normal env σ):dQ X .skip Q env σ:=h
theorem Bu {id:Nat} (h:Q (.exit id) env σ):dQ X (.exit id) Q env σ:=h
theorem G4 (h:Q .ret env σ):dQ X .ret Q env σ:=h
theorem wc {id:Nat} {c:VC} (h:dQ X c (bl id Q) env σ):dQ X (.block id c) Q env σ:=h
theorem G2 {o:br} {c:VC} (h:∀N:AV->au->Prop,(∀v s,dQ X c Q (upd env o.dst v) s->N v s)->if aQ o.guard env then fM X false o env σ N else N .undef σ):dQ X (.one o c) Q env σ:=by
 have:=h (fun v s=>dQ X c Q (upd env o.dst v) s) fun _ _ h=>h
 unfold dQ
 split
 ·rename_i hw;rw[if_pos hw]at this;exact this
 ·rename_i hw;rw[if_neg hw]at this;exact this
def ek (s n:Nat):AV->Prop
 | .own id 0 _=>id=⟨s,n⟩
 |_=>False
def eu (n:Nat):AV->Prop
 | .own id _ _=>¬id.bE=n
 |_=>True
theorem Bv {t s:Nat} {y:O} {c:VC} (h1:ek s σ.next (env t)) (h2:eu σ.next (dm env y)) (h:dQ X c Q env σ):dQ X (.loc t s y c) Q env σ:=by
 refine⟨⟨?_,fun id o l he=>?_⟩,h⟩
 ·revert h1
  unfold ek
  split
  ·rename_i id l he;rintro rfl;exact⟨l,he⟩
  ·exact fun h=>h.elim
 ·rw[he]at h2;exact h2
theorem fD {a b:VC} (ha:dQ X a Q env σ) (hb:dQ X b Q env σ):dQ X (.both a b) Q env σ:=⟨ha,hb⟩
theorem G3 {draw:Bool} {ops:List br} (h:∀N:Env->au->Prop,(∀e s,Q .normal e s->N e s)->wpOps X draw ops N env σ):dQ X (.eS draw ops) Q env σ:=h _ fun _ _ h=>h
theorem LU {ops:List br} (h:cJ ops (Q .normal) env σ):dQ X (.Pg ops) Q env σ:=h
theorem DO {draw:Bool} (h:K env ⟨σ.get,σ.next+1⟩):wpOps X draw [] K env σ:=h
theorem QZ {draw:Bool} {o:br} {r:List br} (h:∀N:AV->au->Prop,(∀v s,wpOps X draw r K (upd env o.dst v) s->N v s)->if aQ o.guard env then fM X draw o env σ N else N .undef σ):wpOps X draw (o::r) K env σ:=by
 have:=h (fun v s=>wpOps X draw r K (upd env o.dst v) s) fun _ _ h=>h
 unfold wpOps
 split
 ·rename_i hw;rw[if_pos hw]at this;exact this
 ·rename_i hw;rw[if_neg hw]at this;exact this
theorem LV {c:O} {x y:VC} {b:Bool} (hc:dm env c=.bool b) (ht:b=true->dQ X x Q env σ) (hf:b=false->dQ X y Q env σ):dQ X (.cond c x y) Q env σ:=by
 unfold dQ
 simp only[hc]
 cases b with
 |true=>exact ht rfl
 |false=>exact hf rfl
inductive oL:AV->Prop->Prop->Prop
 |t {A B:Prop}:A->oL (.bool true) A B
 |f {A B:Prop}:B->oL (.bool false) A B
theorem we {c:O} {x y:VC} {v:AV} (hv:dm env c=v) (h:oL v (dQ X x Q env σ) (dQ X y Q env σ)):dQ X (.cond c x y) Q env σ:=by
 cases h with
 |t h=>exact LV hv (fun _=>h) (fun e=>by cases e)
 |f h=>exact LV hv (fun e=>by cases e) (fun _=>h)
theorem QY {c:VC} (I:Nat->Env->au->Prop) (n:Nat) (h0:I n env σ) (step:∀n env σ,I n env σ->dQ X c (fun x e s=>match x with| .normal=>∃m,m<n/\I m e s|x=>Q x e s) env σ)
  (hX:∀(c:VC) (Q Q':Ex->Env->au->Prop) env σ,(∀x e s,Q x e s->Q' x e s)->dQ X c Q env σ->dQ X c Q' env σ):dQ X (.loop c) Q env σ:=by
 have key:∀N n env σ,n<N->I n env σ->GF (dQ X c) Q N env σ:=by
  intro N
  induction N with
  |zero=>intro n env σ h;exact absurd h (Nat.not_lt_zero _)
  |succ N ih=>
   intro n env σ hn hI
   refine hX c _ _ env σ (fun x e s hx=>?_) (step n env σ hI)
   cases x with
   |normal=>obtain⟨m,hm,Vy⟩:=hx;exact ih m e s (by omega) Vy
   |exit id=>exact hx
   |ret=>exact hx
 exact⟨n+1,key _ n env σ (Nat.lt_succ_self _) h0⟩
theorem NY {c:VC} (I:Nat->Env->au->Prop) (n:Nat) (h0:I n env σ) (step:∀n env σ,I n env σ->dQ (Call P) c (fun x e s=>match x with| .normal=>∃m,m<n/\I m e s|x=>Q x e s) env σ):dQ (Call P) (.loop c) Q env σ:=
 QY I n h0 step fun c Q Q' env σ hQ h=>jN (fun _ _ _ _ h=>h) aE c Q Q' env σ hQ h
def y4:VC->List Nat
 | .eS _ ops=>ops.filterMap (·.dst)
 | .seq a b=>y4 a++y4 b
 | .cond _ a b=>y4 a++y4 b
 | .block _ a=>y4 a
 | .loop a=>y4 a
 | .one o c=>o.dst.toList++y4 c
 | .both a b=>y4 a++y4 b
 | .loc _ _ _ c=>y4 c
 | .Pg ops=>ops.filterMap (·.dst)
 |_=>[]
def gO (l:List Nat) (env iU:Env):Prop:=∀t,l.contains t=false->iU t=env t
theorem gO.refl (l:List Nat) (env:Env):gO l env env:=fun _ _=>rfl
theorem gO.trans {l:List Nat} {e e' e'':Env} (h:gO l e e') (k:gO l e' e''):gO l e e'':=fun t ht=>(k t ht).trans (h t ht)
theorem gO.sub {l l':List Nat} {e e':Env} (h:gO l e e') (hs:∀t,t∈l->t∈l'):gO l' e e':=fun t ht=>h t (by
 rw[<-Bool.not_eq_true]at ht ⊢
 simp only[List.contains_iff_mem]at ht ⊢
 exact fun hc=>ht (hs t hc))
theorem gO.upd {l:List Nat} {e e':Env} {d:Option Nat} {v:AV} (h:gO l e e') (hd:∀t,d=some t->t∈l):gO l e (upd e' d v):=fun t ht=>by
 cases d with
 |none=>exact h t ht
 |some d=>
  have:t≠d:=fun hc=>by subst hc;rw[<-Bool.not_eq_true,List.contains_iff_mem]at ht;exact ht (hd _ rfl)
  show(if t=d then v else e' t)=e t
  rw[if_neg this];exact h t ht
theorem pQ {draw:Bool} {Q:Env->au->Prop} {l:List Nat} {e0:Env}:∀(ops:List br) (env:Env) (σ:au),(∀t,t∈ops.filterMap (·.dst)->t∈l)->gO l e0 env->wpOps (Call P) draw ops Q env σ->wpOps (Call P) draw ops (fun e s=>Q e s/\gO l e0 e) env σ
 |[],env,σ,_,hk,hp=>⟨hp,hk⟩
 |o::r,env,σ,hl,hk,hp=>by
  have hd:∀t,o.dst=some t->t∈l:=fun t ht=>hl t (List.mem_filterMap.2 ⟨o,by simp,ht⟩)
  have hr:∀t,t∈r.filterMap (·.dst)->t∈l:=fun t ht=>hl t (by
   obtain⟨x,hx,h⟩:=List.mem_filterMap.1 ht
   exact List.mem_filterMap.2 ⟨x,List.mem_cons_of_mem _ hx,h⟩)
  unfold wpOps at hp ⊢
  split at hp
  ·rename_i hw;rw[if_pos hw]
   exact s6 (fun _ _ _ _ h=>h) aE (fun v σ' h=>pQ r _ _ hr (hk.upd hd) h) hp
  ·rename_i hw;rw[if_neg hw];exact pQ r _ _ hr (hk.upd hd) hp
theorem mb {Q:Env->au->Prop} {l:List Nat} {e0:Env}:∀(ops:List br) (env:Env) (σ:au),(∀t,t∈ops.filterMap (·.dst)->t∈l)->gO l e0 env->cJ ops Q env σ->cJ ops (fun e s=>Q e s/\gO l e0 e) env σ
 |[],env,σ,_,hk,hp=>⟨hp,hk⟩
 |o::r,env,σ,hl,hk,hp=>by
  have hd:∀t,o.dst=some t->t∈l:=fun t ht=>hl t (List.mem_filterMap.2 ⟨o,by simp,ht⟩)
  have hr:∀t,t∈r.filterMap (·.dst)->t∈l:=fun t ht=>hl t (by
   obtain⟨x,hx,h⟩:=List.mem_filterMap.1 ht
   exact List.mem_filterMap.2 ⟨x,List.mem_cons_of_mem _ hx,h⟩)
  unfold cJ at hp ⊢
  refine⟨hp.1,?_⟩
  replace hp:=hp.2
  split at hp
  ·split at hp
   ·exact mb r _ _ hr (hk.upd hd) hp
   ·exact hp.elim
  ·split at hp
   ·exact mb r _ _ hr (hk.upd hd) hp
   ·exact hp.elim
  ·split at hp
   ·exact mb r _ _ hr (hk.upd hd) hp
   ·exact hp.elim
theorem z8 {l:List Nat} {e0:Env}:∀(c:VC) (Q:Ex->Env->au->Prop) (env:Env) (σ:au),(∀t,t∈y4 c->t∈l)->gO l e0 env->dQ (Call P) c Q env σ->dQ (Call P) c (fun x e s=>Q x e s/\gO l e0 e) env σ:=by
 intro c
 induction c with
 |skip=>intro Q env σ _ hk hp;exact⟨hp,hk⟩
 |exit id=>intro Q env σ _ hk hp;exact⟨hp,hk⟩
 |ret=>intro Q env σ _ hk hp;exact⟨hp,hk⟩
 |one o c ih=>
  intro Q env σ hl hk hp
  have hd:∀t,o.dst=some t->t∈l:=fun t ht=>hl t (List.mem_append_left _ (by rw[ht];simp))
  have hr:∀t,t∈y4 c->t∈l:=fun t ht=>hl t (List.mem_append_right _ ht)
  unfold dQ at hp ⊢
  split at hp
  ·rename_i hw;rw[if_pos hw]
   exact s6 (fun _ _ _ _ h=>h) aE (fun v σ' h=>ih Q _ _ hr (hk.upd hd) h) hp
  ·rename_i hw;rw[if_neg hw];exact ih Q _ _ hr (hk.upd hd) hp
 |both a b iha ihb=>
  intro Q env σ hl hk hp
  exact⟨iha Q env σ (fun t ht=>hl t (List.mem_append_left _ ht)) hk hp.1,ihb Q env σ (fun t ht=>hl t (List.mem_append_right _ ht)) hk hp.2⟩
 |loc t s y c ih=>intro Q env σ hl hk hp;exact⟨hp.1,ih Q env σ hl hk hp.2⟩
 |Pg ops=>intro Q env σ hl hk hp;exact mb ops env σ hl hk hp
 |eS draw ops=>intro Q env σ hl hk hp;exact pQ ops env σ hl hk hp
 |seq a b iha ihb=>
  intro Q env σ hl hk hp
  refine jN (fun _ _ _ _ h=>h) aE a _ _ env σ (fun x e s hx=>?_) (iha _ env σ (fun t ht=>hl t (List.mem_append_left _ ht)) hk hp)
  cases x with
  |normal=>exact ihb Q e s (fun t ht=>hl t (List.mem_append_right _ ht)) hx.2 hx.1
  |exit id=>exact hx
  |ret=>exact hx
 |cond c a b iha ihb=>
  intro Q env σ hl hk hp
  unfold dQ at hp ⊢
  split at hp
  ·rename_i t ht
   cases t with
   |true=>exact iha Q env σ (fun t ht=>hl t (List.mem_append_left _ ht)) hk hp
   |false=>exact ihb Q env σ (fun t ht=>hl t (List.mem_append_right _ ht)) hk hp
  ·exact hp.elim
 |block id a iha=>
  intro Q env σ hl hk hp
  refine jN (fun _ _ _ _ h=>h) aE a _ _ env σ (fun x e s hx=>?_) (iha _ env σ hl hk hp)
  obtain⟨hx,HE⟩:=hx
  cases x with
  |normal=>exact⟨hx,HE⟩
  |ret=>exact⟨hx,HE⟩
  |exit kf=>
   unfold bl at hx ⊢
   dsimp only at hx ⊢
   split at hx
   ·rename_i hid;rw[if_pos hid];exact⟨hx,HE⟩
   ·rename_i hid;rw[if_neg hid];exact⟨hx,HE⟩
 |loop a iha=>
  intro Q env σ hl hk hp
  obtain⟨n,hp⟩:=hp
  refine⟨n,?_⟩
  induction n generalizing env σ with
  |zero=>exact hp
  |succ n ihn=>
   refine jN (fun _ _ _ _ h=>h) aE _ _ _ _ _ (fun x e s hx=>?_) (iha _ env σ hl hk hp)
   obtain⟨hx,HE⟩:=hx
   cases x with
   |normal=>exact ihn e s HE hx
   |exit id=>exact⟨hx,HE⟩
   |ret=>exact⟨hx,HE⟩
theorem aZ {c:VC} (I:Nat->Env->au->Prop) (n:Nat) (h0:I n env σ) (step:∀n e s,I n e s->gO (y4 c) env e->dQ (Call P) c (fun x e s=>match x with| .normal=>∃m,m<n/\I m e s|x=>Q x e s) e s):dQ (Call P) (.loop c) Q env σ:=by
 refine NY (fun n e s=>I n e s/\gO (y4 c) env e) n ⟨h0,gO.refl _ _⟩ fun n e s hI=>?_
 refine jN (fun _ _ _ _ h=>h) aE _ _ _ _ _ (fun x e' s' hx=>?_) (z8 c _ e s (fun _ h=>h) hI.2 (step n e s hI.1 hI.2))
 obtain⟨hx,hk⟩:=hx
 cases x with
 |normal=>obtain⟨m,hm,h⟩:=hx;exact⟨m,hm,h,hk⟩
 |exit id=>exact hx
 |ret=>exact hx
theorem LY {k:Nat} (h:k<=9223372036854775807):IntKind.i64.wrap (k:Int)=k:=by rw[IntKind.wrap_i64];omega
theorem bI {z:Int} (h: -9223372036854775808<=z/\z<=9223372036854775807):IntKind.i64.wrap z=z:=by rw[IntKind.wrap_i64];omega
theorem aD {k:Nat} (h:(k:Int)+1<=9223372036854775807):IntKind.i64.wrap ((k:Int)+1)=((k+1:Nat):Int):=by rw[IntKind.wrap_i64];omega
theorem all_succ {k:Nat} {p:Nat->Prop} (h:∀j,j<k->p j) (hk:p k):∀j,j<k+1->p j:=fun j hj=>by
 by_cases xj:j=k
 ·subst xj;exact hk
 ·exact h j (by omega)
theorem aJ (g:Rows) (n:Nat) (k:IntKind) (m:Int):fz g (n+1) (.int k m)=some (.int k m):=by rw[fz]<;>intros<;>simp_all
theorem bq (g:Rows) (n:Nat) (b:Bool):fz g (n+1) (.bool b)=some (.bool b):=by rw[fz]<;>intros<;>simp_all
theorem bG (g:Rows) (n:Nat) (b:ByteArray):fz g (n+1) (.str b)=some (.str b):=by rw[fz]<;>intros<;>simp_all
theorem cr (g:Rows) (n:Nat) (l:List (List AV)):fz g (n+1) (.sl l)=some (.sl l):=by rw[fz]<;>intros<;>simp_all
theorem aY (g:Rows) (n:Nat):fz g (n+1) .bD=some .bD:=by rw[fz]<;>intros<;>simp_all
theorem TE {t:Nat} {r r0:AV} {x:Ex} (hx:x=.ret∨x=.normal) (he:env t=r0) (hz:fz σ.get 6 r0=some r):kV [.tmp t] (fun r0 σ'=>∃r',fz σ'.get 6 r0=some r'/\r'=r) x env σ:=by
 have:∃vs,fG env σ.get [.tmp t]=some vs/\∃r',fz σ.get 6 (eW vs)=some r'/\r'=r:=⟨[env t],rfl,r,by subst he;exact hz,rfl⟩
 rcases hx with rfl|rfl
 ·exact this
 ·exact this
def aq (P:Program) (f:Nat) (args:List AV) (r:AV):Prop:=∀n:Nat,Call P f args ⟨fun _=>none,n⟩ fun r0 σ'=>∃r',gK σ'.get 6 r0=some r'/\r'=r
theorem aq.body {f:Nat} {args:List AV} {r:AV} {nt na:Nat} {body:VC} {res:List ox} (hf:lV P f=some ⟨nt,na,body,res⟩) (ha:na=args.length) (h:(∀a∈args,eP a)->∀n:Nat,dQ (Call P) body (kV res fun r0 σ'=>∃r',gK σ'.get 6 r0=some r'/\r'=r) (cG args) ⟨fun _=>none,n⟩):aq P f args r:=fun n=>mJ hf ha fun hl=>h hl n
theorem aq.x {f:Nat} {args args':List AV} {r:AV} (h:aq P f args' r) {σ:au} (hv:dt (dX σ.get) 6 args=some args'):fX (Call P) f args σ (fun r'=>r'=r):=.inr ⟨args',hv,h _⟩
theorem iM.x {f:Nat} {args:List AV} {r:AV} (h:iM P f args r) (σ:au):fX (Call P) f args σ (fun r'=>r'=r):=.inl (h σ)
theorem er (g:Rows) (n:Nat) (k:IntKind) (m:Int):gK g (n+1) (.int k m)=some (.int k m):=by rw[gK]<;>intros<;>simp_all
theorem gh (g:Rows) (n:Nat) (b:Bool):gK g (n+1) (.bool b)=some (.bool b):=by rw[gK]<;>intros<;>simp_all
theorem MH (g:Rows) (n:Nat) (b:ByteArray):gK g (n+1) (.str b)=some (.str b):=by rw[gK]<;>intros<;>simp_all
theorem jE (g:Rows) (n:Nat):gK g (n+1) .bD=some .bD:=by rw[gK]<;>intros<;>simp_all
theorem e9 (g:Rows) (n:Nat) (l:List AV):gK g (n+1) (.gD l)=(eI g n l).map AV.gD:=by rw[gK]
theorem vK (g:Rows) (n:Nat) (l:List AV):gK g (n+1) (.agg l)=(eI g n l).map AV.agg:=by rw[gK]
theorem vL {g:Rows} {n:Nat} {id:Id} {off len sz:Nat} {rows rows':List (List AV)} (h:g id=some ⟨true,sz,rows⟩) (hl:off+len<=rows.length) (hr:iE g n ((rows.drop off).take len)=some rows'):gK g (n+1) (.own id off len)=some (.sl rows'):=by
 rw[gK];simp only[h,if_true,if_pos hl,hr,Option.map_some]
theorem cz (g:Rows) (n:Nat):eI g n []=some []:=by rw[eI]
theorem bt (g:Rows) (n:Nat) (a:AV) (l:List AV):eI g n (a::l)=match gK g n a with
  |some b=>(eI g n l).map (b::·)
  |none=>none:=by rw[eI];cases gK g n a<;>rfl
theorem ur {g:Rows} {n:Nat}:∀{l:List (List AV)},(∀c∈l,eI g n c=some c)->iE g n l=some l
 |[],_=>by rw[iE]
 |c::r,h=>by rw[iE,h c (by simp),ur fun d hd=>h d (List.mem_cons_of_mem _ hd)];rfl
theorem bf (g:Rows) (n:Nat) (l:List AV):fz g (n+1) (.agg l)=(dt g n l).map AV.agg:=by rw[fz]
theorem aW (g:Rows) (n:Nat) (l:List AV):fz g (n+1) (.du l)=some (.du l):=by rw[fz]<;>intros<;>simp_all
theorem xb {g:Rows} {n:Nat} {id:Id} {i off sz:Nat} {rows:List (List AV)} {cs qp:List AV} (h:g id=some ⟨true,sz,rows⟩) (hi:rows[i]? =some cs) (hr:dt g n (cs.drop off)=some qp):fz g (n+1) (.ptr id i off)=some (.du qp):=by
 rw[fz];simp only[h,if_true,hi,hr,Option.map_some]
theorem aj (g:Rows) (n:Nat):dt g n []=some []:=by rw[dt]
theorem ae (g:Rows) (n:Nat) (a:AV) (l:List AV):dt g n (a::l)=match fz g n a with
  |some b=>(dt g n l).map (b::·)
  |none=>none:=by rw[dt];cases fz g n a<;>rfl
theorem xQ {t:Nat} {r r0:AV} {x:Ex} (hx:x=.ret∨x=.normal) (he:env t=r0) (hz:gK σ.get 6 r0=some r):kV [.tmp t] (fun r0 σ'=>∃r',gK σ'.get 6 r0=some r'/\r'=r) x env σ:=by
 have:∃vs,fG env σ.get [.tmp t]=some vs/\∃r',gK σ.get 6 (eW vs)=some r'/\r'=r:=⟨[env t],rfl,r,by subst he;exact hz,rfl⟩
 rcases hx with rfl|rfl
 ·exact this
 ·exact this
theorem bc {t:Nat} {b c:Bool} {x:Ex} (hx:x=.ret∨x=.normal) (he:env t=.bool b) (hb:b=c):kV [.tmp t] (fun r0 σ'=>∃r',gK σ'.get 6 r0=some r'/\r'=.bool c) x env σ:=xQ hx he (by rw[gh,hb])
theorem dj {t:Nat} {k:IntKind} {b c:Int} {x:Ex} (hx:x=.ret∨x=.normal) (he:env t=.int k b) (hb:b=c):kV [.tmp t] (fun r0 σ'=>∃r',gK σ'.get 6 r0=some r'/\r'=.int k c) x env σ:=xQ hx he (by rw[er,hb])
theorem jL {t u:Nat} {r r1 r2:AV} {x:Ex} (hx:x=.ret∨x=.normal) (h1:env t=r1) (h2:env u=r2) (hz:gK σ.get 6 (.gD [r1,r2])=some r):kV [.tmp t,.tmp u] (fun r0 σ'=>∃r',gK σ'.get 6 r0=some r'/\r'=r) x env σ:=by
 have:∃vs,fG env σ.get [.tmp t,.tmp u]=some vs/\∃r',gK σ.get 6 (eW vs)=some r'/\r'=r:=⟨[env t,env u],rfl,r,by subst h1;subst h2;exact hz,rfl⟩
 rcases hx with rfl|rfl
 ·exact this
 ·exact this
structure Pn (p:Prop):Prop where
 out:p
theorem tw {A B:Prop} (a:A) (b:B):A/\B:=⟨a,b⟩
theorem wk {A R G:Prop} (a:A) (r:R) (h:A->R->G:=by
  intro fL kk
  (repeat(refine Pn.mk ?_;intro N hN))
  (first|((first|apply G5|apply G3);intro N hN)|((first|(apply QZ;intro N hN)|(apply G2;intro N hN));simp only[go_sem, ↓reduceIte,Nat.reduceEqDiff,Nat.reduceAdd,Nat.reduceSub,Nat.reduceMul,Nat.reduceLeDiff,Nat.reduceBEq,reduceCtorEq,Nat.reduceLT,Int.reduceLE,Int.reduceLT,Int.reduceToNat,Int.reduceNeg,Int.reduceAdd,Int.reduceEq,fL];first|(refine hN _ _ ?_;clear hN N)|skip)|(apply we;(simp only[go_sem, ↓reduceIte,Nat.reduceEqDiff,Nat.reduceAdd,Nat.reduceSub,Nat.reduceMul,Nat.reduceLeDiff,Nat.reduceBEq,reduceCtorEq,Nat.reduceLT,Int.reduceLE,Int.reduceLT,Int.reduceToNat,Int.reduceNeg,Int.reduceAdd,Int.reduceEq,fL];rfl);first|with_reducible apply oL.t|with_reducible apply oL.f)|(apply DO;refine hN _ _ ?_;clear hN N;try(simp only[dv,bl, ↓reduceIte,Nat.reduceEqDiff]);try(refine hN _ _ ?_;clear hN N))|apply wc|(refine Bv ?_ ?_ ?_;(focus(simp only[go_sem, ↓reduceIte,Nat.reduceEqDiff,Nat.reduceAdd,Nat.reduceSub,Nat.reduceMul,Nat.reduceLeDiff,Nat.reduceBEq,reduceCtorEq,Nat.reduceLT,Int.reduceLE,Int.reduceLT,Int.reduceToNat,Int.reduceNeg,Int.reduceAdd,Int.reduceEq,fL];done));(focus(simp only[go_sem, ↓reduceIte,Nat.reduceEqDiff,Nat.reduceAdd,Nat.reduceSub,Nat.reduceMul,Nat.reduceLeDiff,Nat.reduceBEq,reduceCtorEq,Nat.reduceLT,Int.reduceLE,Int.reduceLT,Int.reduceToNat,Int.reduceNeg,Int.reduceAdd,Int.reduceEq,fL];done)))|((first|apply Bw|apply Bu|apply G4);try(simp only[dv,bl, ↓reduceIte,Nat.reduceEqDiff]);try(refine hN _ _ ?_;clear hN N))|((first|refine hN _ _ ?_|(clear hN N;first|refine hN _ _ ?_|(clear hN N;first|refine hN _ _ ?_|(clear hN N;first|refine hN _ _ ?_|(clear hN N;refine hN _ _ ?_)))));clear hN N))
  (repeat(first|((first|apply G5|apply G3);intro N hN)|((first|(apply QZ;intro N hN)|(apply G2;intro N hN));simp only[go_sem, ↓reduceIte,Nat.reduceEqDiff,Nat.reduceAdd,Nat.reduceSub,Nat.reduceMul,Nat.reduceLeDiff,Nat.reduceBEq,reduceCtorEq,Nat.reduceLT,Int.reduceLE,Int.reduceLT,Int.reduceToNat,Int.reduceNeg,Int.reduceAdd,Int.reduceEq,fL];first|(refine hN _ _ ?_;clear hN N)|skip)|(apply we;(simp only[go_sem, ↓reduceIte,Nat.reduceEqDiff,Nat.reduceAdd,Nat.reduceSub,Nat.reduceMul,Nat.reduceLeDiff,Nat.reduceBEq,reduceCtorEq,Nat.reduceLT,Int.reduceLE,Int.reduceLT,Int.reduceToNat,Int.reduceNeg,Int.reduceAdd,Int.reduceEq,fL];rfl);first|with_reducible apply oL.t|with_reducible apply oL.f)|(apply DO;refine hN _ _ ?_;clear hN N;try(simp only[dv,bl, ↓reduceIte,Nat.reduceEqDiff]);try(refine hN _ _ ?_;clear hN N))|apply wc|(refine Bv ?_ ?_ ?_;(focus(simp only[go_sem, ↓reduceIte,Nat.reduceEqDiff,Nat.reduceAdd,Nat.reduceSub,Nat.reduceMul,Nat.reduceLeDiff,Nat.reduceBEq,reduceCtorEq,Nat.reduceLT,Int.reduceLE,Int.reduceLT,Int.reduceToNat,Int.reduceNeg,Int.reduceAdd,Int.reduceEq,fL];done));(focus(simp only[go_sem, ↓reduceIte,Nat.reduceEqDiff,Nat.reduceAdd,Nat.reduceSub,Nat.reduceMul,Nat.reduceLeDiff,Nat.reduceBEq,reduceCtorEq,Nat.reduceLT,Int.reduceLE,Int.reduceLT,Int.reduceToNat,Int.reduceNeg,Int.reduceAdd,Int.reduceEq,fL];done)))|((first|apply Bw|apply Bu|apply G4);try(simp only[dv,bl, ↓reduceIte,Nat.reduceEqDiff]);try(refine hN _ _ ?_;clear hN N))|((first|refine hN _ _ ?_|(clear hN N;first|refine hN _ _ ?_|(clear hN N;first|refine hN _ _ ?_|(clear hN N;first|refine hN _ _ ?_|(clear hN N;refine hN _ _ ?_)))));clear hN N)))
  (repeat(revert hN;revert N;apply Pn.out))
  exact kk):G:=h a r
theorem wa {A R G:Prop} (a:A) (r:R) (h:A->R->G:=by
  intro fL kk
  (repeat(refine Pn.mk ?_;intro N hN))
  (first|((first|apply G5|apply G3);intro N hN)|((first|(refine OU rfl fun N hN=>?_)|(apply G2;intro N hN));simp only[go_sem, ↓reduceIte,Nat.reduceEqDiff,Nat.reduceAdd,Nat.reduceSub,Nat.reduceMul,Nat.reduceLeDiff,Nat.reduceBEq,reduceCtorEq,Nat.reduceLT,Int.reduceLE,Int.reduceLT,Int.reduceToNat,Int.reduceNeg,Int.reduceAdd,Int.reduceEq,fL];first|(refine hN _ _ ?_;clear hN N)|skip)|(apply we;(simp only[go_sem, ↓reduceIte,Nat.reduceEqDiff,Nat.reduceAdd,Nat.reduceSub,Nat.reduceMul,Nat.reduceLeDiff,Nat.reduceBEq,reduceCtorEq,Nat.reduceLT,Int.reduceLE,Int.reduceLT,Int.reduceToNat,Int.reduceNeg,Int.reduceAdd,Int.reduceEq,fL];rfl);first|with_reducible apply oL.t|with_reducible apply oL.f)|(apply DO;refine hN _ _ ?_;clear hN N;try(simp only[dv,bl, ↓reduceIte,Nat.reduceEqDiff]);try(refine hN _ _ ?_;clear hN N))|apply wc|(refine Bv ?_ ?_ ?_;(focus(simp only[go_sem, ↓reduceIte,Nat.reduceEqDiff,Nat.reduceAdd,Nat.reduceSub,Nat.reduceMul,Nat.reduceLeDiff,Nat.reduceBEq,reduceCtorEq,Nat.reduceLT,Int.reduceLE,Int.reduceLT,Int.reduceToNat,Int.reduceNeg,Int.reduceAdd,Int.reduceEq,fL];done));(focus(simp only[go_sem, ↓reduceIte,Nat.reduceEqDiff,Nat.reduceAdd,Nat.reduceSub,Nat.reduceMul,Nat.reduceLeDiff,Nat.reduceBEq,reduceCtorEq,Nat.reduceLT,Int.reduceLE,Int.reduceLT,Int.reduceToNat,Int.reduceNeg,Int.reduceAdd,Int.reduceEq,fL];done)))|((first|apply Bw|apply Bu|apply G4);try(simp only[dv,bl, ↓reduceIte,Nat.reduceEqDiff]);try(refine hN _ _ ?_;clear hN N))|((first|refine hN _ _ ?_|(clear hN N;first|refine hN _ _ ?_|(clear hN N;first|refine hN _ _ ?_|(clear hN N;first|refine hN _ _ ?_|(clear hN N;refine hN _ _ ?_)))));clear hN N))
  (repeat(first|((first|apply G5|apply G3);intro N hN)|((first|(refine OU rfl fun N hN=>?_)|(apply G2;intro N hN));simp only[go_sem, ↓reduceIte,Nat.reduceEqDiff,Nat.reduceAdd,Nat.reduceSub,Nat.reduceMul,Nat.reduceLeDiff,Nat.reduceBEq,reduceCtorEq,Nat.reduceLT,Int.reduceLE,Int.reduceLT,Int.reduceToNat,Int.reduceNeg,Int.reduceAdd,Int.reduceEq,fL];first|(refine hN _ _ ?_;clear hN N)|skip)|(apply we;(simp only[go_sem, ↓reduceIte,Nat.reduceEqDiff,Nat.reduceAdd,Nat.reduceSub,Nat.reduceMul,Nat.reduceLeDiff,Nat.reduceBEq,reduceCtorEq,Nat.reduceLT,Int.reduceLE,Int.reduceLT,Int.reduceToNat,Int.reduceNeg,Int.reduceAdd,Int.reduceEq,fL];rfl);first|with_reducible apply oL.t|with_reducible apply oL.f)|(apply DO;refine hN _ _ ?_;clear hN N;try(simp only[dv,bl, ↓reduceIte,Nat.reduceEqDiff]);try(refine hN _ _ ?_;clear hN N))|apply wc|(refine Bv ?_ ?_ ?_;(focus(simp only[go_sem, ↓reduceIte,Nat.reduceEqDiff,Nat.reduceAdd,Nat.reduceSub,Nat.reduceMul,Nat.reduceLeDiff,Nat.reduceBEq,reduceCtorEq,Nat.reduceLT,Int.reduceLE,Int.reduceLT,Int.reduceToNat,Int.reduceNeg,Int.reduceAdd,Int.reduceEq,fL];done));(focus(simp only[go_sem, ↓reduceIte,Nat.reduceEqDiff,Nat.reduceAdd,Nat.reduceSub,Nat.reduceMul,Nat.reduceLeDiff,Nat.reduceBEq,reduceCtorEq,Nat.reduceLT,Int.reduceLE,Int.reduceLT,Int.reduceToNat,Int.reduceNeg,Int.reduceAdd,Int.reduceEq,fL];done)))|((first|apply Bw|apply Bu|apply G4);try(simp only[dv,bl, ↓reduceIte,Nat.reduceEqDiff]);try(refine hN _ _ ?_;clear hN N))|((first|refine hN _ _ ?_|(clear hN N;first|refine hN _ _ ?_|(clear hN N;first|refine hN _ _ ?_|(clear hN N;first|refine hN _ _ ?_|(clear hN N;refine hN _ _ ?_)))));clear hN N)))
  (repeat(revert hN;revert N;apply Pn.out))
  exact kk):G:=h a r
theorem sd {A G:Prop} (a:A) (h:A->G:=by
  intro fL
  first|(simp only[go_sem, ↓reduceIte,Nat.reduceEqDiff,Nat.reduceAdd,Nat.reduceSub,Nat.reduceMul,Nat.reduceLeDiff,Nat.reduceBEq,reduceCtorEq,Nat.reduceLT,Int.reduceLE,Int.reduceLT,Int.reduceToNat,Int.reduceNeg,Int.reduceAdd,Int.reduceEq,fL,fG,iG];done)|fail):G:=h a
theorem sl {A G:Prop} (a:A) (h:A->G:=by
  intro fL
  (try simp only[go_sem, ↓reduceIte,Nat.reduceEqDiff,Nat.reduceAdd,Nat.reduceSub,Nat.reduceMul,Nat.reduceLeDiff,Nat.reduceBEq,reduceCtorEq,Nat.reduceLT,Int.reduceLE,Int.reduceLT,Int.reduceToNat,Int.reduceNeg,Int.reduceAdd,Int.reduceEq,fL])
  try rfl):G:=h a
end Go.Proofs.YtgoelphibofcmaaGreat.V

namespace Go.Proofs.YtgoelphibofcmaaGreat.V
open Go.RowKit
variable {P:Program} {X:fZ} {env:Env} {σ:au}
theorem bB (g:Rows) (n:Nat) (l:List AV):fz g (n+1) (.gD l)=(dt g n l).map AV.gD:=by rw[fz]
theorem cR (g:Rows) (n:Nat) (f:Nat) (l:List AV):fz g (n+1) (.fn f l)=if l.all AV.cell then(dt g n l).map (AV.fn f)else none:=by rw[fz]
theorem bp (g:Rows) (n:Nat) (id:Id) (i off:Nat):fz g (n+1) (.ptr id i off)=match g id with
  |some r=>if r.w then(match r.rows[i]? with
   |some cs=>(dt g n (cs.drop off)).map AV.du
   |none=>none)else none
  |none=>none:=by rw[fz];rfl
theorem iP (g:Rows) (n:Nat) (id:Id) (off len:Nat):fz g (n+1) (.own id off len)=match g id with
  |some r=>if r.w then(if off+len<=r.rows.length then(eH g n ((r.rows.drop off).take len)).map AV.sl else none)else none
  |none=>none:=by rw[fz];rfl
theorem pf (g:Rows) (n:Nat):eH g n []=some []:=by rw[eH]
theorem Av (g:Rows) (n:Nat) (c:List AV) (l:List (List AV)):eH g n (c::l)=match dt g n c with
  |some b=>(eH g n l).map (b::·)
  |none=>none:=by rw[eH];cases dt g n c<;>rfl
theorem w8 {g:Rows} {n:Nat}:∀{l:List (List AV)},(∀c∈l,dt g n c=some c)->eH g n l=some l
 |[],_=>by rw[eH]
 |c::r,h=>by rw[eH,h c (by simp),w8 fun d hd=>h d (List.mem_cons_of_mem _ hd)];rfl
theorem qY {α:Type} {g:Rows} {n:Nat} {e:α->List AV} {l:List α} (h:∀x,dt g n (e x)=some (e x)):eH g n (l.map e)=some (l.map e):=w8 fun c hc=>by
 obtain⟨x,_,rfl⟩:=List.mem_map.1 hc
 exact h x
theorem uv {α:Type} {g:Rows} {n:Nat} {e:α->List AV} {l:List α} (h:∀x,eI g n (e x)=some (e x)):iE g n (l.map e)=some (l.map e):=ur fun c hc=>by
 obtain⟨x,_,rfl⟩:=List.mem_map.1 hc
 exact h x
theorem il {α:Type} {g:Rows} {n:Nat} {e:α->List AV} {l:List α} {id:Id} {sz len:Nat} (hg:g id=some ⟨true,sz,l.map e⟩) (hl:len=l.length) (h:∀x,dt g n (e x)=some (e x)):fz g (n+1) (.own id 0 len)=some (.sl (l.map e)):=by
 subst hl
 rw[iP];simp only[hg,if_true]
 rw[if_pos (by simp),List.drop_zero,List.take_of_length_le (by simp),qY h];rfl
theorem fu {α:Type} {g:Rows} {n:Nat} {e:α->List AV} {l:List α} {id:Id} {sz len:Nat} (hg:g id=some ⟨true,sz,l.map e⟩) (hl:len=l.length) (h:∀x,eI g n (e x)=some (e x)):gK g (n+1) (.own id 0 len)=some (.sl (l.map e)):=by
 subst hl
 exact vL hg (by simp) (by rw[List.drop_zero,List.take_of_length_le (by simp),uv h])
theorem all_map {α:Type} {e:α->List AV} {sz:Nat} {l:List α} (h:∀x,(e x).length=sz/\(e x).all AV.cell=true):(l.map e).all (fun c=>c.length==sz&&c.all AV.cell)=true:=by
 rw[List.all_eq_true]
 intro c hc
 obtain⟨x,_,rfl⟩:=List.mem_map.1 hc
 simp[(h x).1,(h x).2]
def RW (P:Program) (f:Nat) (args:List AV) (sz:Nat) (rows:List (List AV)):Prop:=(∀c∈rows,∀a∈c,a.plain=true)/\∀n:Nat,Call P f args ⟨fun _=>none,n⟩ fun r σ'=>∃id,r=.own id 0 rows.length/\σ'.get id=some ⟨true,sz,rows⟩
theorem RW.x {f sz:Nat} {args args':List AV} {rows:List (List AV)} (h:RW P f args' sz rows) {σ:au} (hv:dt (dX σ.get) 6 args=some args'):CM (Call P) f args σ sz rows:=⟨h.1,args',hv,h.2 _⟩
theorem rP {res:List ox} {r:AV} {vs:List AV} {x:Ex} (hx:x=.ret∨x=.normal) (hv:fG env σ.get res=some vs) (hz:fz σ.get 6 (eW vs)=some r):kV res (fun r0 σ'=>∃r',fz σ'.get 6 r0=some r'/\r'=r) x env σ:=by
 rcases hx with rfl|rfl
 ·exact⟨vs,hv,r,hz,rfl⟩
 ·exact⟨vs,hv,r,hz,rfl⟩
theorem l9 {res:List ox} {r:AV} {vs:List AV} {x:Ex} (hx:x=.ret∨x=.normal) (hv:fG env σ.get res=some vs) (hz:gK σ.get 6 (eW vs)=some r):kV res (fun r0 σ'=>∃r',gK σ'.get 6 r0=some r'/\r'=r) x env σ:=by
 rcases hx with rfl|rfl
 ·exact⟨vs,hv,r,hz,rfl⟩
 ·exact⟨vs,hv,r,hz,rfl⟩
theorem eV {res:List ox} {K:AV->au->Prop} {vs:List AV} {x:Ex} (hx:x=.ret∨x=.normal) (hv:fG env σ.get res=some vs) (hK:K (eW vs) σ):kV res K x env σ:=by
 rcases hx with rfl|rfl
 ·exact⟨vs,hv,hK⟩
 ·exact⟨vs,hv,hK⟩
theorem eJ {f:Nat} {args:List AV} {σ:au} {K:AV->au->Prop} {nt na:Nat} {body:VC} {res:List ox} (hf:lV P f=some ⟨nt,na,body,res⟩) (ha:na=args.length) (h:(∀a∈args,eP a)->dQ (Call P) body (kV res K) (cG args) σ):Call P f args σ K:=mJ hf ha h
theorem Jb {f:Nat} {md:List (Nat×Nat)} {args:List AV} {σ:au} {K:AV->au->Prop} {nt na:Nat} {body:VC} {res:List ox} (hf:yz P f md=some ⟨nt,na,body,res⟩) (ha:na=args.length) (h:(∀a∈args,eP a)->dQ (Call P) body (kV res K) (cG args) σ):Call P f args σ K:=wi hf ha h
theorem dr {i:Id} {n:Nat} (h:i.bE<n):(∀s,(i=⟨s,n⟩)=False/\(i=⟨s,n+1⟩)=False/\(i=⟨s,n+1+1⟩)=False/\(i=⟨s,n+1+1+1⟩)=False/\(i=⟨s,n+1+1+1+1⟩)=False/\(i=⟨s,n+1+1+1+1+1⟩)=False/\(i=⟨s,n+1+1+1+1+1+1⟩)=False/\(i=⟨s,n+1+1+1+1+1+1+1⟩)=False/\(i=⟨s,n+1+1+1+1+1+1+1+1⟩)=False/\(i=⟨s,n+1+1+1+1+1+1+1+1+1⟩)=False/\(⟨s,n⟩=i)=False/\(⟨s,n+1⟩=i)=False/\(⟨s,n+1+1⟩=i)=False/\(⟨s,n+1+1+1⟩=i)=False/\(⟨s,n+1+1+1+1⟩=i)=False/\(⟨s,n+1+1+1+1+1⟩=i)=False/\(⟨s,n+1+1+1+1+1+1⟩=i)=False/\(⟨s,n+1+1+1+1+1+1+1⟩=i)=False/\(⟨s,n+1+1+1+1+1+1+1+1⟩=i)=False/\(⟨s,n+1+1+1+1+1+1+1+1+1⟩=i)=False)/\(i.bE=n)=False/\(i.bE=n+1)=False/\(i.bE=n+1+1)=False/\(i.bE=n+1+1+1)=False/\(i.bE=n+1+1+1+1)=False/\(i.bE=n+1+1+1+1+1)=False/\(i.bE=n+1+1+1+1+1+1)=False/\(i.bE=n+1+1+1+1+1+1+1)=False/\(i.bE=n+1+1+1+1+1+1+1+1)=False/\(i.bE=n+1+1+1+1+1+1+1+1+1)=False:=by
 refine⟨fun s=>?_,?_⟩
 ·obtain⟨a,b⟩:=i
  simp only[Id.mk.injEq,eq_iff_iff,iff_false,not_and]
  simp only at h
  refine⟨?_,?_,?_,?_,?_,?_,?_,?_,?_,?_,?_,?_,?_,?_,?_,?_,?_,?_,?_,?_⟩<;>(intros;omega)
 ·simp only[eq_iff_iff,iff_false]
  refine⟨?_,?_,?_,?_,?_,?_,?_,?_,?_,?_⟩<;>omega
def gQ (a b:Nat) (ids:List Id):Prop:=ids.Nodup/\∀i∈ids,a<=i.bE/\i.bE<b
def Kept (σ σ':au):Prop:=σ.next<=σ'.next/\∀j:Id,j.bE<σ.next->σ'.get j=σ.get j
theorem Kept.trans {a b c:au} (h:Kept a b) (k:Kept b c):Kept a c:=⟨Nat.le_trans h.1 k.1,fun j hj=>(k.2 j (Nat.lt_of_lt_of_le hj h.1)).trans (h.2 j hj)⟩
theorem gQ.wide {a b a' b':Nat} {ids:List Id} (h:gQ a b ids) (h1:a'<=a) (h2:b<=b'):gQ a' b' ids:=⟨h.1,fun i hi=>⟨Nat.le_trans h1 (h.2 i hi).1,Nat.lt_of_lt_of_le (h.2 i hi).2 h2⟩⟩
theorem gQ.app {a b c d:Nat} {i j:List Id} (h:gQ a b i) (k:gQ c d j) (PU:b<=c) (rh:a<=b) (hcd:c<=d):gQ a d (i++j):=
 ⟨List.nodup_append.2 ⟨h.1,k.1,fun x hx y hy e=>by subst e;have:=(h.2 x hx).2;have:=(k.2 x hy).1;omega⟩,fun x hx=>by
  rcases List.mem_append.1 hx with hx|hx
  ·have:=h.2 x hx;omega
  ·have:=k.2 x hx;omega⟩
end Go.Proofs.YtgoelphibofcmaaGreat.V

namespace Go.Proofs.YtgoelphibofcmaaGreat.V
open Go.RowKit
attribute [local irreducible] dQ wpOps fX Call
attribute [local go_sem] aQ fM eU fY fW dm upd cG K.av cQ AV.cells AV.cell rowOf rowsOf part ld rowAt bQ cC dE ea gZ bS dh eo fV fj dB ef dd dc dS dU b4 bj cV bW cY cW ec eh ee cU ck de eb bV aU da cK gY bx cP cj bd dv bl dG AV.undef bH bK dW dZ dO dL cN ek eu cJ ej ei cZ db List.getD_cons_zero List.getD_cons_succ List.getD_nil List.all_cons List.all_nil Bool.and_true Bool.true_and Bool.and_self Bool.not_true Bool.not_false Option.map_some Option.map_none Option.bind_some Option.bind_none List.length_cons List.length_nil List.take_succ_cons List.take_zero List.take_nil List.drop_succ_cons List.drop_zero List.drop_nil List.head?_cons List.map_cons List.map_nil List.getElem?_cons_zero List.getElem?_cons_succ List.cons_append List.nil_append List.append_nil List.length_map List.set_cons_zero List.set_cons_succ Nat.reduceMul eq_self Int.toNat_natCast Int.natCast_nonneg and_self true_and and_true decide_true decide_false Bool.false_eq_true Nat.zero_add Nat.add_zero List.contains_cons List.contains_nil Bool.or_false Bool.false_or beq_self_eq_true Nat.reduceBEq ne_eq not_true_eq_false not_false_eq_true Id.mk.injEq false_and and_false Nat.reduceLT Int.reduceLE Int.reduceLT Int.reduceToNat Int.reduceNeg Int.reduceAdd Nat.le_refl List.length_append beq_true beq_false Bool.not_eq_eq_eq_not or_false false_or dX ae aj aJ bq bG cr aY bf aW bp cR bB
variable {P:Program}
def Lz (f g z:Nat):BA:=let s:=f*1000000
 ⟨27,2,(.seq (.eS false [q 4 (.dz (.k (.int .i64 0))) s]) (.seq (.eS false [q 6 (.dz (.t 1)) (s+1000),q 7 (.dz (.t 0)) (s+1001),q 8 (.len (.t 7)) (s+1002),q 9 (.bin .sub .i64 (.t 6) (.t 8)) (s+1003),q 1 (.dz (.t 9)) (s+1004)]) (.seq (.seq (.eS false [q 10 (.dz (.t 1)) (s+2000),q 11 (.bin .lss .i64 (.t 10) (.k (.int .i64 0))) (s+2001)]) (.cond (.t 11) (.seq (.eS false [q 4 (.dz (.k (.int .i64 (-1)))) (s+3000)]) .ret) .skip)) (.seq (.seq (.eS false [q 5 (.dz (.k (.int .i64 0))) (s+4000)]) (.block 0 (.loop (.seq (.seq (.eS false [q 12 (.dz (.t 5)) (s+5000),q 13 (.dz (.t 0)) (s+5001),q 14 (.len (.t 13)) (s+5002),q 15 (.bin .lss .i64 (.t 12) (.t 14)) (s+5003)]) (.cond (.t 15) .skip (.exit 0))) (.seq (.block 1 (.seq (.eS false [q 18 (.dz (.t 0)) (s+7000),q 19 (.dz (.t 5)) (s+7001),q 20 (.dY z (.t 18) (.t 19)) (s+7002),q 21 (.load true z (.t 20)) (s+7003),q 22 (.dz (.t 1)) (s+7004),q 23 (.call g [(.t 21),(.t 22)]) (s+7005),q 1 (.dz (.t 23)) (s+7006)]) (.seq (.eS false [q 24 (.dz (.t 1)) (s+8000),q 25 (.bin .lss .i64 (.t 24) (.k (.int .i64 0))) (s+8001)]) (.cond (.t 25) (.seq (.eS false [q 4 (.dz (.k (.int .i64 (-1)))) (s+9000)]) .ret) .skip)))) (.eS false [q 16 (.dz (.t 5)) (s+6000),q 17 (.bin .add .i64 (.t 16) (.k (.int .i64 1))) (s+6001),q 5 (.dz (.t 17)) (s+6002)])))))) (.seq (.eS false [q 26 (.dz (.t 1)) (s+10000),q 4 (.dz (.t 26)) (s+10001)]) .ret))))),[(.tmp 4)]⟩
def GY (f:Nat):BA:=let s:=f*1000000
 ⟨12,2,(.seq (.eS false [q 4 (.dz (.k (.int .i64 0))) s]) (.seq (.eS false [q 5 (.dz (.t 1)) (s+1000),q 6 (.dz (.t 0)) (s+1001),q 7 (.len (.t 6)) (s+1002),q 8 (.bin .sub .i64 (.t 5) (.t 7)) (s+1003),q 1 (.dz (.t 8)) (s+1004)]) (.seq (.seq (.eS false [q 9 (.dz (.t 1)) (s+2000),q 10 (.bin .lss .i64 (.t 9) (.k (.int .i64 0))) (s+2001)]) (.cond (.t 10) (.seq (.eS false [q 4 (.dz (.k (.int .i64 (-1)))) (s+3000)]) .ret) .skip)) (.seq (.eS false [q 11 (.dz (.t 1)) (s+4000),q 4 (.dz (.t 11)) (s+4001)]) .ret)))),[(.tmp 4)]⟩
def Cj (f g z:Nat):BA:=let s:=f*1000000
 ⟨27,2,(.seq (.eS false [q 4 (.dz (.k (.bool false))) s]) (.seq (.seq (.eS false [q 6 (.dz (.t 0)) (s+1000),q 7 (.len (.t 6)) (s+1001),q 8 (.dz (.t 1)) (s+1002),q 9 (.len (.t 8)) (s+1003),q 10 (.Pq true .tI (.t 7) (.t 9)) (s+1004)]) (.cond (.t 10) (.seq (.eS false [q 4 (.dz (.k (.bool false))) (s+2000)]) .ret) .skip)) (.seq (.seq (.eS false [q 5 (.dz (.k (.int .i64 0))) (s+3000)]) (.block 0 (.loop (.seq (.seq (.eS false [q 11 (.dz (.t 5)) (s+4000),q 12 (.dz (.t 0)) (s+4001),q 13 (.len (.t 12)) (s+4002),q 14 (.bin .lss .i64 (.t 11) (.t 13)) (s+4003)]) (.cond (.t 14) .skip (.exit 0))) (.seq (.block 1 (.seq (.eS true [q 17 (.dz (.t 0)) (s+6000),q 18 (.dz (.t 5)) (s+6001),q 19 (.dY z (.t 17) (.t 18)) (s+6002),q 20 (.load true z (.t 19)) (s+6003),q 21 (.dz (.t 1)) (s+6004),q 22 (.dz (.t 5)) (s+6005),q 23 (.dY z (.t 21) (.t 22)) (s+6006),q 24 (.load true z (.t 23)) (s+6007),q 25 (.call g [(.t 20),(.t 24)]) (s+6008),q 26 (.not (.t 25)) (s+6009)]) (.cond (.t 26) (.seq (.eS false [q 4 (.dz (.k (.bool false))) (s+7000)]) .ret) .skip))) (.eS false [q 15 (.dz (.t 5)) (s+5000),q 16 (.bin .add .i64 (.t 15) (.k (.int .i64 1))) (s+5001),q 5 (.dz (.t 16)) (s+5002)])))))) (.seq (.eS false [q 4 (.dz (.k (.bool true))) (s+8000)]) .ret)))),[(.tmp 4)]⟩
def Ob (f:Nat) (t:TS):BA:=let s:=f*1000000
 ⟨26,2,(.seq (.eS false [q 4 (.dz (.k (.bool false))) s]) (.seq (.seq (.eS false [q 6 (.dz (.t 0)) (s+1000),q 7 (.len (.t 6)) (s+1001),q 8 (.dz (.t 1)) (s+1002),q 9 (.len (.t 8)) (s+1003),q 10 (.Pq true .tI (.t 7) (.t 9)) (s+1004)]) (.cond (.t 10) (.seq (.eS false [q 4 (.dz (.k (.bool false))) (s+2000)]) .ret) .skip)) (.seq (.seq (.eS false [q 5 (.dz (.k (.int .i64 0))) (s+3000)]) (.block 0 (.loop (.seq (.seq (.eS false [q 11 (.dz (.t 5)) (s+4000),q 12 (.dz (.t 0)) (s+4001),q 13 (.len (.t 12)) (s+4002),q 14 (.bin .lss .i64 (.t 11) (.t 13)) (s+4003)]) (.cond (.t 14) .skip (.exit 0))) (.seq (.block 1 (.seq (.eS true [q 17 (.dz (.t 0)) (s+6000),q 18 (.dz (.t 5)) (s+6001),q 19 (.dY 1 (.t 17) (.t 18)) (s+6002),q 20 (.load false 1 (.t 19)) (s+6003),q 21 (.dz (.t 1)) (s+6004),q 22 (.dz (.t 5)) (s+6005),q 23 (.dY 1 (.t 21) (.t 22)) (s+6006),q 24 (.load false 1 (.t 23)) (s+6007),q 25 (.Pq true t (.t 20) (.t 24)) (s+6008)]) (.cond (.t 25) (.seq (.eS false [q 4 (.dz (.k (.bool false))) (s+7000)]) .ret) .skip))) (.eS false [q 15 (.dz (.t 5)) (s+5000),q 16 (.bin .add .i64 (.t 15) (.k (.int .i64 1))) (s+5001),q 5 (.dz (.t 16)) (s+5002)])))))) (.seq (.eS false [q 4 (.dz (.k (.bool true))) (s+8000)]) .ret)))),[(.tmp 4)]⟩
def qI (f g z:Nat) (zero:List K):BA:=let s:=f*1000000
 ⟨23,1,(.seq (.eS false [q 2 (.dz (.k .bD)) s]) (.seq (.eS false [q 5 (.dz (.t 0)) (s+1000),q 6 (.len (.t 5)) (s+1001),q 7 (.kg zero (.t 6) (.t 6)) (s+1002),q 3 (.dz (.t 7)) (s+1003)]) (.seq (.seq (.eS false [q 4 (.dz (.k (.int .i64 0))) (s+2000)]) (.block 0 (.loop (.seq (.seq (.eS false [q 8 (.dz (.t 4)) (s+3000),q 9 (.dz (.t 0)) (s+3001),q 10 (.len (.t 9)) (s+3002),q 11 (.bin .lss .i64 (.t 8) (.t 10)) (s+3003)]) (.cond (.t 11) .skip (.exit 0))) (.seq (.block 1 (.eS false [q 14 (.dz (.t 3)) (s+5000),q 15 (.dz (.t 4)) (s+5001),q 16 (.dz (.t 0)) (s+5002),q 17 (.dz (.t 4)) (s+5003),q 18 (.dY z (.t 16) (.t 17)) (s+5004),q 19 (.load true z (.t 18)) (s+5005),q 20 (.call g [(.t 19)]) (s+5006),q 21 (.dY z (.t 14) (.t 15)) (s+5007),⟨none,(.store z (.t 21) (.t 20)),none,(s+5008),[]⟩])) (.eS false [q 12 (.dz (.t 4)) (s+4000),q 13 (.bin .add .i64 (.t 12) (.k (.int .i64 1))) (s+4001),q 4 (.dz (.t 13)) (s+4002)])))))) (.seq (.eS false [q 22 (.dz (.t 3)) (s+6000),q 2 (.dz (.t 22)) (s+6001)]) .ret)))),[(.tmp 2)]⟩
def LM (f:Nat) (zero:K):BA:=let s:=f*1000000
 ⟨22,1,(.seq (.eS false [q 2 (.dz (.k .bD)) s]) (.seq (.eS false [q 5 (.dz (.t 0)) (s+1000),q 6 (.len (.t 5)) (s+1001),q 7 (.kg [zero] (.t 6) (.t 6)) (s+1002),q 3 (.dz (.t 7)) (s+1003)]) (.seq (.seq (.eS false [q 4 (.dz (.k (.int .i64 0))) (s+2000)]) (.block 0 (.loop (.seq (.seq (.eS false [q 8 (.dz (.t 4)) (s+3000),q 9 (.dz (.t 0)) (s+3001),q 10 (.len (.t 9)) (s+3002),q 11 (.bin .lss .i64 (.t 8) (.t 10)) (s+3003)]) (.cond (.t 11) .skip (.exit 0))) (.seq (.block 1 (.eS false [q 14 (.dz (.t 3)) (s+5000),q 15 (.dz (.t 4)) (s+5001),q 16 (.dz (.t 0)) (s+5002),q 17 (.dz (.t 4)) (s+5003),q 18 (.dY 1 (.t 16) (.t 17)) (s+5004),q 19 (.load false 1 (.t 18)) (s+5005),q 20 (.dY 1 (.t 14) (.t 15)) (s+5006),⟨none,(.store 1 (.t 20) (.t 19)),none,(s+5007),[]⟩])) (.eS false [q 12 (.dz (.t 4)) (s+4000),q 13 (.bin .add .i64 (.t 12) (.k (.int .i64 1))) (s+4001),q 4 (.dz (.t 13)) (s+4002)])))))) (.seq (.eS false [q 21 (.dz (.t 3)) (s+6000),q 2 (.dz (.t 21)) (s+6001)]) .ret)))),[(.tmp 2)]⟩
def ym (n:Nat) (l:Int):Int:=if (n:Int)<=l then l-n else -1
theorem FQ {fk:Nat} (hc:lV P fk=some (GY fk)) (rows:List (List AV)) (left:Int) (h0:0<=left) (h1:left<=1048576):aq P fk [.sl rows,.int .i64 left] (.int .i64 (ym rows.length left)):=by
 refine aq.body hc rfl fun hl n0=>?_
 try simp only[q]
 have hn:rows.length<=9223372036854775807:=(hl (.sl rows) (by simp)).len
 clear hl
 have hw:IntKind.i64.wrap (left-(rows.length:Int))=left-rows.length:=bI (by omega)
 by_cases hf:(rows.length:Int)<=left
 ·have jX:¬left-(rows.length:Int)<0:=by omega
  (try((repeat(revert hN;revert N;apply Pn.out));refine wk (tw @hw @jX) ?_;(repeat(refine Pn.mk ?_;intro N hN))))
  exact dj (b:=left-(rows.length:Int)) (.inl rfl) (sd @Nat.zero_add) (by rw[ym,if_pos hf])
 ·have jX:left-(rows.length:Int)<0:=by omega
  (try((repeat(revert hN;revert N;apply Pn.out));refine wk (tw @hw @jX) ?_;(repeat(refine Pn.mk ?_;intro N hN))))
  exact dj (b:=-1) (.inl rfl) (sd @Nat.zero_add) (by rw[ym,if_neg hf])
def iW {α:Type} (f:α->Nat) (xs:List α) (k:Nat):Nat:=((xs.take k).map f).sum
theorem nk {α:Type} (f:α->Nat) (xs:List α):iW f xs 0=0:=by simp[iW]
theorem Dx {α:Type} (f:α->Nat) (xs:List α):iW f xs xs.length=(xs.map f).sum:=by simp[iW]
theorem xZ {α:Type} (f:α->Nat) {xs:List α} {k:Nat} (hk:k<xs.length):iW f xs (k+1)=iW f xs k+f xs[k]:=by
 unfold iW
 rw[List.take_succ_eq_append_getElem hk,List.map_append,List.sum_append];simp
theorem qH {α:Type} (f:α->Nat) (xs:List α) (k:Nat):iW f xs k<=(xs.map f).sum:=by
 unfold iW
 conv=>rhs;rw[<-List.take_append_drop k xs]
 rw[List.map_append,List.sum_append];omega
theorem LB {α:Type} {e:α->List AV} {z fk gk:Nat} (wt:α->Nat) (hc:lV P fk=some (Lz fk gk z)) (hz:∀x,(e x).length=z) (Cz:∀x g,dt g 6 [.agg (e x)]=some [.agg (e x)]) (xs:List α) (left:Int) (h0:0<=left) (h1:left<=1048576)
  (hg:∀x∈xs,∀l:Int,0<=l->l<=1048576->aq P gk [.agg (e x),.int .i64 l] (.int .i64 (ym (wt x) l))):aq P fk [.sl (xs.map e),.int .i64 left] (.int .i64 (ym (xs.length+(xs.map wt).sum) left)):=by
 refine aq.body hc rfl fun hl n0=>?_
 try simp only[q]
 have hn:xs.length<=9223372036854775807:=by simpa using(hl (.sl (xs.map e)) (by simp)).len
 clear hl
 have hw:IntKind.i64.wrap (left-(xs.length:Int))=left-xs.length:=bI (by omega)
 by_cases hf:(xs.length:Int)<=left
 ·have jX:¬left-(xs.length:Int)<0:=by omega
  (try((repeat(revert hN;revert N;apply Pn.out));refine wk (tw @hw @jX) ?_;(repeat(refine Pn.mk ?_;intro N hN))))
  refine aZ (fun n env st=>∃k:Nat,n=(xs.length)-k/\k<=(xs.length)/\env 5=.int .i64 (k:Int)/\env 1=(.int .i64 (left-xs.length-(iW wt xs k:Nat)))/\(0<=left-xs.length-(iW wt xs k:Nat))) (xs.length) ⟨0,by omega,by omega,sl (tw @nk (tw @Int.natCast_zero @Int.sub_zero)),sl (tw @nk (tw @Int.natCast_zero @Int.sub_zero)),(by rw[nk];omega)⟩ ?_
  rintro n_a env_a st_a ⟨k,rfl,ale,a5,a1,jO⟩ dy
  have a0:=dy 0 (by kernel_rfl)
  simp only[go_sem, ↓reduceIte,Nat.reduceEqDiff,Nat.reduceAdd,Nat.reduceSub,Nat.reduceLeDiff,reduceCtorEq,nk,Int.natCast_zero,Int.sub_zero]at a0
  clear dy
  by_cases hk:(k:Int)<(xs.length:Int)
  ·have cw:∀{e:Env},(e 5=.int .i64 (IntKind.i64.wrap ((k:Int)+1)))->(e 1=(.int .i64 (left-xs.length-(iW wt xs (k+1):Nat))))->(0<=left-xs.length-(iW wt xs (k+1):Nat))->∃m0,m0<(xs.length)-k/\∃k:Nat,m0=(xs.length)-k/\k<=(xs.length)/\e 5=.int .i64 (k:Int)/\e 1=(.int .i64 (left-xs.length-(iW wt xs k:Nat)))/\(0<=left-xs.length-(iW wt xs k:Nat)):=fun x1 x2 x3=>⟨_,by omega,k+1,rfl,by omega,(by rw[x1,aD (by omega)]),x2,x3⟩
   have fP:k<xs.length:=by omega
   have eX:(xs.map e)[k]? =some (e xs[k]):=by simp[fP]
   have uA:=hz xs[k]
   have ht:(e xs[k]).take z=e xs[k]:=by rw[<-uA,List.take_length]
   have hs:=xZ wt fP
   have E0:=qH wt xs (k+1)
   have iv:=hg _ (List.getElem_mem fP) (left-xs.length-(iW wt xs k:Nat)) jO (by omega)
   have k6:dt (dX st_a.get) 6 [.agg (e xs[k]),.int .i64 (left-xs.length-(iW wt xs k:Nat))]=some [.agg (e xs[k]),.int .i64 (left-xs.length-(iW wt xs k:Nat))]:=by
    have q1:=Cz xs[k] (dX st_a.get)
    rw[ae,aj]at q1
    rw[ae,ae,aj,aJ]
    revert q1
    cases V.fz (dX st_a.get) 6 (.agg (e xs[k]))<;>simp
   by_cases rj:(wt xs[k]:Int)<=left-xs.length-(iW wt xs k:Nat)
   ·rw[ym,if_pos rj]at iv
    have DU:¬left-xs.length-(iW wt xs k:Nat)-(wt xs[k]:Int)<0:=by omega
    have tK:left-xs.length-(iW wt xs k:Nat)-(wt xs[k]:Int)=left-xs.length-(iW wt xs (k+1):Nat):=by rw[hs];omega
    generalize hex:e xs[k]=c at iv k6 eX uA ht
    (try((repeat(revert hN;revert N;apply Pn.out));refine wk (tw @a5 (tw @a1 (tw @a0 (tw @hk (tw @eX (tw @uA (tw @ht @Nat.le_refl))))))) ?_;(repeat(refine Pn.mk ?_;intro N hN))))
    refine .inl ⟨_,aq.x iv k6,?_⟩
    refine hN _ _ ?_
    clear hN N
    (try((repeat(revert hN;revert N;apply Pn.out));refine wk (tw @a5 (tw @a1 (tw @a0 @DU))) ?_;(repeat(refine Pn.mk ?_;intro N hN))))
    refine cw ?_ ?_ ((by rw[hs];omega))
    all_goals simp only[go_sem, ↓reduceIte,Nat.reduceEqDiff,Nat.reduceAdd,Nat.reduceSub,Nat.reduceLeDiff,reduceCtorEq,a5,a1,a0,tK]
   ·rw[ym,if_neg rj]at iv
    generalize hex:e xs[k]=c at iv k6 eX uA ht
    (try((repeat(revert hN;revert N;apply Pn.out));refine wk (tw @a5 (tw @a1 (tw @a0 (tw @hk (tw @eX (tw @uA (tw @ht @Nat.le_refl))))))) ?_;(repeat(refine Pn.mk ?_;intro N hN))))
    refine .inl ⟨_,aq.x iv k6,?_⟩
    refine hN _ _ ?_
    clear hN N
    (try((repeat(revert hN;revert N;apply Pn.out));refine wk (tw @a5 (tw @a1 @a0)) ?_;(repeat(refine Pn.mk ?_;intro N hN))))
    exact dj (b:=-1) (.inl rfl) (sd @Nat.zero_add) (by rw[ym,if_neg (by omega)])
  ·(try((repeat(revert hN;revert N;apply Pn.out));refine wk (tw @a5 (tw @a1 (tw @a0 @hk))) ?_;(repeat(refine Pn.mk ?_;intro N hN))))
   have fP:k=xs.length:=by omega
   subst fP
   have Um:=Dx wt xs
   exact dj (b:=left-xs.length-(iW wt xs xs.length:Nat)) (.inl rfl) (sd (tw @a5 (tw @a1 @a0))) (by rw[ym,if_pos (by omega)];omega)
 ·have jX:left-(xs.length:Int)<0:=by omega
  (try((repeat(revert hN;revert N;apply Pn.out));refine wk (tw @hw @jX) ?_;(repeat(refine Pn.mk ?_;intro N hN))))
  exact dj (b:=-1) (.inl rfl) (sd @Nat.zero_add) (by rw[ym,if_neg (by omega)])
theorem JO {α:Type} {xs ys:List α} (hl:xs.length=ys.length) (h:∀j:Nat,j<xs.length->∀(h1:j<xs.length) (h2:j<ys.length),xs[j]=ys[j]):xs=ys:=List.ext_getElem hl fun j h1 h2=>h j h1 h1 h2
theorem Ar {α:Type} [DecidableEq α] {e:α->List AV} {z fk gk:Nat} (hc:lV P fk=some (Cj fk gk z)) (hz:∀x,(e x).length=z) (Cz:∀x g,dt g 6 [.agg (e x)]=some [.agg (e x)]) (xs ys:List α)
  (hg:∀x y,aq P gk [.agg (e x),.agg (e y)] (.bool (decide (x=y)))):aq P fk [.sl (xs.map e),.sl (ys.map e)] (.bool (decide (xs=ys))):=by
 refine aq.body hc rfl fun hl n0=>?_
 try simp only[q]
 have hn:xs.length<=9223372036854775807:=by simpa using(hl (.sl (xs.map e)) (by simp)).len
 clear hl
 by_cases hlen:xs.length=ys.length
 ·have ll:decide ((xs.length:Int)=(ys.length:Int))=true:=by simp[hlen]
  (try((repeat(revert hN;revert N;apply Pn.out));refine wk @ll ?_;(repeat(refine Pn.mk ?_;intro N hN))))
  refine aZ (fun n env st=>∃k:Nat,n=(xs.length)-k/\k<=(xs.length)/\env 5=.int .i64 (k:Int)/\(∀j:Nat,j<k->∀(h1:j<xs.length) (h2:j<ys.length),xs[j]=ys[j])) (xs.length) ⟨0,by omega,by omega,sl @Nat.zero_add,fun _ h=>absurd h (Nat.not_lt_zero _)⟩ ?_
  rintro n_a env_a st_a ⟨k,rfl,ale,a5,kj⟩ dy
  have a0:=dy 0 (by kernel_rfl);have a1:=dy 1 (by kernel_rfl)
  simp only[go_sem, ↓reduceIte,Nat.reduceEqDiff,Nat.reduceAdd,Nat.reduceSub,Nat.reduceLeDiff,reduceCtorEq]at a0 a1
  clear dy
  by_cases hk:(k:Int)<(xs.length:Int)
  ·have cw:∀{e:Env},(e 5=.int .i64 (IntKind.i64.wrap ((k:Int)+1)))->(∀(h1:k<xs.length) (h2:k<ys.length),xs[k]=ys[k])->∃m0,m0<(xs.length)-k/\∃k:Nat,m0=(xs.length)-k/\k<=(xs.length)/\e 5=.int .i64 (k:Int)/\(∀j:Nat,j<k->∀(h1:j<xs.length) (h2:j<ys.length),xs[j]=ys[j]):=fun x1 x2=>⟨_,by omega,k+1,rfl,by omega,(by rw[x1,aD (by omega)]),(all_succ kj x2)⟩
   have fP:k<xs.length:=by omega
   have UA:k<ys.length:=by omega
   have eX:(xs.map e)[k]? =some (e xs[k]):=by simp[fP]
   have ER:(ys.map e)[k]? =some (e ys[k]):=by simp[UA]
   have uA:=hz xs[k]
   have E7:=hz ys[k]
   have ht:(e xs[k]).take z=e xs[k]:=by rw[<-uA,List.take_length]
   have I0:(e ys[k]).take z=e ys[k]:=by rw[<-E7,List.take_length]
   have iv:=hg xs[k] ys[k]
   have k6:∀g,dt g 6 [.agg (e xs[k]),.agg (e ys[k])]=some [.agg (e xs[k]),.agg (e ys[k])]:=fun g=>by
    have q1:=Cz xs[k] g
    have q2:=Cz ys[k] g
    rw[ae,aj]at q1
    rw[ae,q2]
    revert q1
    cases V.fz g 6 (.agg (e xs[k]))<;>simp
   by_cases heq:xs[k]=ys[k]
   ·rw[decide_eq_true heq]at iv
    generalize hex:e xs[k]=c at iv k6 eX uA ht
    generalize hey:e ys[k]=d at iv k6 ER E7 I0
    (try((repeat(revert hN;revert N;apply Pn.out));refine wk (tw @a5 (tw @a0 (tw @a1 (tw @hk (tw @eX (tw @ER (tw @uA (tw @E7 (tw @ht (tw @I0 @Nat.le_refl)))))))))) ?_;(repeat(refine Pn.mk ?_;intro N hN))))
    refine⟨_,aq.x iv (k6 _),?_⟩
    refine hN _ _ ?_
    clear hN N
    (try((repeat(revert hN;revert N;apply Pn.out));refine wk (tw @a5 (tw @a0 @a1)) ?_;(repeat(refine Pn.mk ?_;intro N hN))))
    exact cw (sd (tw @a5 (tw @a0 @a1))) (fun _ _=>heq)
   ·rw[decide_eq_false heq]at iv
    generalize hex:e xs[k]=c at iv k6 eX uA ht
    generalize hey:e ys[k]=d at iv k6 ER E7 I0
    (try((repeat(revert hN;revert N;apply Pn.out));refine wk (tw @a5 (tw @a0 (tw @a1 (tw @hk (tw @eX (tw @ER (tw @uA (tw @E7 (tw @ht (tw @I0 @Nat.le_refl)))))))))) ?_;(repeat(refine Pn.mk ?_;intro N hN))))
    refine⟨_,aq.x iv (k6 _),?_⟩
    refine hN _ _ ?_
    clear hN N
    (try((repeat(revert hN;revert N;apply Pn.out));refine wk (tw @a5 (tw @a0 @a1)) ?_;(repeat(refine Pn.mk ?_;intro N hN))))
    exact bc (b:=false) (.inl rfl) (sd @Nat.zero_add) (decide_eq_false fun h=>heq (List.getElem_of_eq h _)).symm
  ·(try((repeat(revert hN;revert N;apply Pn.out));refine wk (tw @a5 (tw @a0 (tw @a1 @hk))) ?_;(repeat(refine Pn.mk ?_;intro N hN))))
   exact bc (b:=true) (.inl rfl) (sd @Nat.zero_add) (decide_eq_true (JO hlen fun j hj h1 h2=>kj j (by omega) h1 h2)).symm
 ·have ll:decide ((xs.length:Int)=(ys.length:Int))=false:=decide_eq_false fun h=>hlen (by omega)
  (try((repeat(revert hN;revert N;apply Pn.out));refine wk @ll ?_;(repeat(refine Pn.mk ?_;intro N hN))))
  exact bc (b:=false) (.inl rfl) (sd @Nat.zero_add) (decide_eq_false fun h=>hlen (by subst h;rfl)).symm
theorem Sb {fk:Nat} (hc:lV P fk=some (Ob fk .tI)) (xs ys:List Int):
  aq P fk [.sl (xs.map fun x=>[AV.int .i64 x]),.sl (ys.map fun x=>[AV.int .i64 x])] (.bool (decide (xs=ys))):=by
 refine aq.body hc rfl fun hl n0=>?_
 try simp only[q]
 have hn:xs.length<=9223372036854775807:=by simpa using(hl (.sl (xs.map fun x=>[AV.int .i64 x])) (by simp)).len
 clear hl
 by_cases hlen:xs.length=ys.length
 ·have ll:decide ((xs.length:Int)=(ys.length:Int))=true:=by simp[hlen]
  (try((repeat(revert hN;revert N;apply Pn.out));refine wk @ll ?_;(repeat(refine Pn.mk ?_;intro N hN))))
  refine aZ (fun n env st=>∃k:Nat,n=(xs.length)-k/\k<=(xs.length)/\env 5=.int .i64 (k:Int)/\(∀j:Nat,j<k->∀(h1:j<xs.length) (h2:j<ys.length),xs[j]=ys[j])) (xs.length) ⟨0,by omega,by omega,sl @Nat.zero_add,fun _ h=>absurd h (Nat.not_lt_zero _)⟩ ?_
  rintro n_a env_a st_a ⟨k,rfl,ale,a5,kj⟩ dy
  have a0:=dy 0 (by kernel_rfl);have a1:=dy 1 (by kernel_rfl)
  simp only[go_sem, ↓reduceIte,Nat.reduceEqDiff,Nat.reduceAdd,Nat.reduceSub,Nat.reduceLeDiff,reduceCtorEq]at a0 a1
  clear dy
  by_cases hk:(k:Int)<(xs.length:Int)
  ·have cw:∀{e:Env},(e 5=.int .i64 (IntKind.i64.wrap ((k:Int)+1)))->(∀(h1:k<xs.length) (h2:k<ys.length),xs[k]=ys[k])->∃m0,m0<(xs.length)-k/\∃k:Nat,m0=(xs.length)-k/\k<=(xs.length)/\e 5=.int .i64 (k:Int)/\(∀j:Nat,j<k->∀(h1:j<xs.length) (h2:j<ys.length),xs[j]=ys[j]):=fun x1 x2=>⟨_,by omega,k+1,rfl,by omega,(by rw[x1,aD (by omega)]),(all_succ kj x2)⟩
   have fP:k<xs.length:=by omega
   have UA:k<ys.length:=by omega
   have eX:(xs.map fun x=>[AV.int .i64 x])[k]? =some [.int .i64 xs[k]]:=by simp[fP]
   have ER:(ys.map fun x=>[AV.int .i64 x])[k]? =some [.int .i64 ys[k]]:=by simp[UA]
   by_cases heq:xs[k]=ys[k]
   ·have hq:=decide_eq_true heq
    (try((repeat(revert hN;revert N;apply Pn.out));refine wk (tw @a5 (tw @a0 (tw @a1 (tw @hk (tw @eX (tw @ER @hq)))))) ?_;(repeat(refine Pn.mk ?_;intro N hN))))
    exact cw (sd (tw @a5 (tw @a0 @a1))) (fun _ _=>heq)
   ·have hq:=decide_eq_false heq
    (try((repeat(revert hN;revert N;apply Pn.out));refine wk (tw @a5 (tw @a0 (tw @a1 (tw @hk (tw @eX (tw @ER @hq)))))) ?_;(repeat(refine Pn.mk ?_;intro N hN))))
    exact bc (b:=false) (.inl rfl) (sd @Nat.zero_add) (decide_eq_false fun h=>heq (List.getElem_of_eq h _)).symm
  ·(try((repeat(revert hN;revert N;apply Pn.out));refine wk (tw @a5 (tw @a0 (tw @a1 @hk))) ?_;(repeat(refine Pn.mk ?_;intro N hN))))
   exact bc (b:=true) (.inl rfl) (sd @Nat.zero_add) (decide_eq_true (JO hlen fun j hj h1 h2=>kj j (by omega) h1 h2)).symm
 ·have ll:decide ((xs.length:Int)=(ys.length:Int))=false:=decide_eq_false fun h=>hlen (by omega)
  (try((repeat(revert hN;revert N;apply Pn.out));refine wk @ll ?_;(repeat(refine Pn.mk ?_;intro N hN))))
  exact bc (b:=false) (.inl rfl) (sd @Nat.zero_add) (decide_eq_false fun h=>hlen (by subst h;rfl)).symm
theorem wK (l:List AV):l++[]=l:=List.append_nil l
def ik {α:Type} (e:α->List AV) (zc:List AV) (xs:List α) (k:Nat):List (List AV):=(xs.take k).map e++List.replicate (xs.length-k) zc
theorem o9 {α:Type} (e:α->List AV) (zc:List AV) (xs:List α):List.replicate xs.length zc=ik e zc xs 0:=by simp[ik]
theorem qR {α:Type} (e:α->List AV) (zc:List AV) (xs:List α):ik e zc xs xs.length=xs.map e:=by simp[ik]
theorem qS {α:Type} (e:α->List AV) (zc:List AV) (xs:List α) {k:Nat} (hk:k<xs.length):(ik e zc xs k)[k]? =some zc:=by
 have h1:((xs.take k).map e).length=k:=by simp;omega
 rw[ik,List.getElem?_append_right (by omega),h1,Nat.sub_self,List.getElem?_replicate,if_pos (by omega)]
theorem qT {α:Type} (e:α->List AV) (zc:List AV) (xs:List α) {k:Nat} (hk:k<xs.length):(ik e zc xs k).set k (e xs[k])=ik e zc xs (k+1):=by
 have h1:((xs.take k).map e).length=k:=by simp;omega
 rw[ik,List.set_append_right _ _ (by omega),h1,Nat.sub_self,ik,List.take_succ_eq_append_getElem hk,List.map_append,List.append_assoc]
 congr 1
 obtain⟨m,hm⟩:∃m,xs.length-k=m+1:=⟨xs.length-k-1,by omega⟩
 rw[hm,show xs.length-(k+1)=m by omega,List.replicate_succ]
 rfl
theorem Bm {α:Type} {en:α->List AV} {z fk gk:Nat} {zero:List K} (hc:lV P fk=some (qI fk gk z zero)) (I5:zero.length=z) (hz:∀x,(en x).length=z) (kP:∀x,(en x).all AV.cell=true) (Cz:∀x g,dt g 5 (en x)=some (en x)) (xs:List α) (hlen:xs.length<=1048576)
  (hg:∀x∈xs,iM P gk [.agg (en x)] (.agg (en x))):iM P fk [.sl (xs.map en)] (.sl (xs.map en)):=by
 refine iM.body hc rfl fun hl σ=>?_
 try simp only[q]
 clear hl
 have hm:(xs.length:Int)<=((16777216:Nat):Int):=by omega
 have h0:(0:Int)<=(xs.length:Int):=by omega
 (try((repeat(revert hN;revert N;apply Pn.out));refine wk (tw @hm (tw @h0 (tw @Int.le_refl (tw (o9 en (zero.map K.av) xs) @I5)))) ?_;(repeat(refine Pn.mk ?_;intro N hN))))
 refine aZ (fun n env st=>∃k:Nat,n=(xs.length)-k/\k<=(xs.length)/\env 4=.int .i64 (k:Int)/\st.get ⟨fk*1000000+1002,σ.next+1⟩=some ⟨true,z,ik en (zero.map K.av) xs k⟩) (xs.length) ⟨0,by omega,by omega,sl @Nat.zero_add,sl @Nat.zero_add⟩ ?_
 rintro n_a env_a st_a ⟨k,rfl,ale,a4,ag0⟩ dy
 have a0:=dy 0 (by kernel_rfl);have a3:=dy 3 (by kernel_rfl)
 simp only[go_sem, ↓reduceIte,Nat.reduceEqDiff,Nat.reduceAdd,Nat.reduceSub,Nat.reduceLeDiff,reduceCtorEq]at a0 a3
 clear dy
 by_cases hk:(k:Int)<(xs.length:Int)
 ·have cw:∀{e:Env} {gg:Rows},(e 4=.int .i64 (IntKind.i64.wrap ((k:Int)+1)))->(gg ⟨fk*1000000+1002,σ.next+1⟩=some ⟨true,z,ik en (zero.map K.av) xs (k+1)⟩)->∃m0,m0<(xs.length)-k/\∃k:Nat,m0=(xs.length)-k/\k<=(xs.length)/\e 4=.int .i64 (k:Int)/\gg ⟨fk*1000000+1002,σ.next+1⟩=some ⟨true,z,ik en (zero.map K.av) xs k⟩:=fun x1 x2=>⟨_,by omega,k+1,rfl,by omega,(by rw[x1,aD (by omega)]),x2⟩
  have fP:k<xs.length:=by omega
  have eX:(xs.map en)[k]? =some (en xs[k]):=by simp[fP]
  have uA:=hz xs[k]
  have Ma:=kP xs[k]
  have ht:(en xs[k]).take z=en xs[k]:=by rw[<-uA,List.take_length]
  have iv:=hg _ (List.getElem_mem fP)
  have gn:=qS en (zero.map K.av) xs fP
  have eL:=qT en (zero.map K.av) xs fP
  have J8:(zero.map K.av).drop z=[]:=List.drop_of_length_le (by simp[I5])
  generalize hex:en xs[k]=c at iv eX uA ht Ma eL
  (repeat(first|((repeat(revert hN;revert N;apply Pn.out));refine wk (tw @a4 (tw @ag0 (tw @a0 (tw @a3 (tw @hk (tw @eX (tw @uA (tw @ht (tw @Nat.le_refl (tw @gn (tw @eL (tw @J8 (tw @wK (tw @Ma @I5)))))))))))))) ?_;(repeat(refine Pn.mk ?_;intro N hN)))|((try apply Or.inl);refine⟨_,iM.x (iv) _,?_⟩;refine hN _ _ ?_;clear hN N)))
  refine cw ?_ ?_
  all_goals simp only[go_sem, ↓reduceIte,Nat.reduceEqDiff,Nat.reduceAdd,Nat.reduceSub,Nat.reduceLeDiff,reduceCtorEq,a4,ag0,a0,a3]
 ·(try((repeat(revert hN;revert N;apply Pn.out));refine wk (tw @a4 (tw @ag0 (tw @a0 (tw @a3 @hk)))) ?_;(repeat(refine Pn.mk ?_;intro N hN))))
  have fP:k=xs.length:=by omega
  subst fP
  refine TE (.inl rfl) (r0:=.own ⟨fk*1000000+1002,σ.next+1⟩ 0 xs.length) (sd (tw @a4 (tw @ag0 (tw @a0 @a3)))) ?_
  rw[qR]at ag0
  exact il ag0 (by simp) fun x=>Cz x _
theorem TI {fk:Nat} (hc:lV P fk=some (LM fk (.int .i64 0))) (xs:List Int) (hlen:xs.length<=1048576):iM P fk [.sl (xs.map fun x=>[AV.int .i64 x])] (.sl (xs.map fun x=>[AV.int .i64 x])):=by
 refine iM.body hc rfl fun hl σ=>?_
 try simp only[q]
 clear hl
 obtain⟨en,IV⟩:∃en:Int->List AV,en=fun x=>[AV.int .i64 x]:=⟨_,rfl⟩
 rw[<-IV]
 have hm:(xs.length:Int)<=((16777216:Nat):Int):=by omega
 have h0:(0:Int)<=(xs.length:Int):=by omega
 (try((repeat(revert hN;revert N;apply Pn.out));refine wk (tw @hm (tw @h0 (tw @Int.le_refl (o9 en [AV.int .i64 0] xs)))) ?_;(repeat(refine Pn.mk ?_;intro N hN))))
 refine aZ (fun n env st=>∃k:Nat,n=(xs.length)-k/\k<=(xs.length)/\env 4=.int .i64 (k:Int)/\st.get ⟨fk*1000000+1002,σ.next+1⟩=some ⟨true,1,ik en [AV.int .i64 0] xs k⟩) (xs.length) ⟨0,by omega,by omega,sl @Nat.zero_add,sl @Nat.zero_add⟩ ?_
 rintro n_a env_a st_a ⟨k,rfl,ale,a4,ag0⟩ dy
 have a0:=dy 0 (by kernel_rfl);have a3:=dy 3 (by kernel_rfl)
 simp only[go_sem, ↓reduceIte,Nat.reduceEqDiff,Nat.reduceAdd,Nat.reduceSub,Nat.reduceLeDiff,reduceCtorEq]at a0 a3
 clear dy
 by_cases hk:(k:Int)<(xs.length:Int)
 ·have cw:∀{e:Env} {gg:Rows},(e 4=.int .i64 (IntKind.i64.wrap ((k:Int)+1)))->(gg ⟨fk*1000000+1002,σ.next+1⟩=some ⟨true,1,ik en [AV.int .i64 0] xs (k+1)⟩)->∃m0,m0<(xs.length)-k/\∃k:Nat,m0=(xs.length)-k/\k<=(xs.length)/\e 4=.int .i64 (k:Int)/\gg ⟨fk*1000000+1002,σ.next+1⟩=some ⟨true,1,ik en [AV.int .i64 0] xs k⟩:=fun x1 x2=>⟨_,by omega,k+1,rfl,by omega,(by rw[x1,aD (by omega)]),x2⟩
  have fP:k<xs.length:=by omega
  have eX:(xs.map en)[k]? =some [AV.int .i64 xs[k]]:=by simp[fP,IV]
  have gn:=qS en [AV.int .i64 0] xs fP
  have eL:=qT en [AV.int .i64 0] xs fP
  rw[show en xs[k]=[AV.int .i64 xs[k]] by rw[IV]]at eL
  (try((repeat(revert hN;revert N;apply Pn.out));refine wk (tw @a4 (tw @ag0 (tw @a0 (tw @a3 (tw @hk (tw @eX (tw @gn @eL))))))) ?_;(repeat(refine Pn.mk ?_;intro N hN))))
  refine cw ?_ ?_
  all_goals simp only[go_sem, ↓reduceIte,Nat.reduceEqDiff,Nat.reduceAdd,Nat.reduceSub,Nat.reduceLeDiff,reduceCtorEq,a4,ag0,a0,a3]
 ·(try((repeat(revert hN;revert N;apply Pn.out));refine wk (tw @a4 (tw @ag0 (tw @a0 (tw @a3 @hk)))) ?_;(repeat(refine Pn.mk ?_;intro N hN))))
  have fP:k=xs.length:=by omega
  subst fP
  refine TE (.inl rfl) (r0:=.own ⟨fk*1000000+1002,σ.next+1⟩ 0 xs.length) (sd (tw @a4 (tw @ag0 (tw @a0 @a3)))) ?_
  rw[qR]at ag0
  exact il ag0 (by simp) fun x=>by simp[IV,ae,aj,aJ]
end Go.Proofs.YtgoelphibofcmaaGreat.V

namespace Go.Proofs.YtgoelphibofcmaaGreat
open Go.RowKit
def Sl (w:World) (fp:List Nat) (v:Value) (n:Nat) (xs:List Value):Prop:=
 ∃A c,v=.slice A n c/\n<=c/\c<=maxLen/\
  ((fp=[]/\n=0)∨∃b o,fp=[b]/\A=some ⟨b,o,none⟩/\∀j u,xs[j]? =some u->w.cell? ⟨b,o+j,none⟩=some u)
def fo (fp:List Nat) (lo hi:Nat):Prop:=∀b∈fp,lo<=b/\b<hi
theorem fo.nil (lo hi:Nat):fo [] lo hi:=fun _ h=>by cases h
theorem Sl.nil (w:World):Sl w [] (.slice none 0 0) 0 []:=⟨none,0,rfl,Nat.le_refl _,by simp[maxLen],.inl ⟨rfl,rfl⟩⟩
def O3 {α:Type} (rep:World->List Nat->List Value->α->Prop) (sz:Nat) (w:World) (pa:List (List Value)) (Gh:List (List Nat)) (ds:List α):Prop:=
 pa.length=ds.length/\Gh.length=ds.length/\∀(i:Nat) (cs:List Value) (f:List Nat) (d:α),pa[i]? =some cs->Gh[i]? =some f->ds[i]? =some d->rep w f cs d/\cs.length=sz
def nC {α:Type} (rep:World->List Nat->List Value->α->Prop) (sz:Nat) (w:World) (fp:List Nat) (v:Value) (ds:List α):Prop:=
 ∃pa Gh Vi,fp=Vi++Gh.flatten/\Sl w Vi v ds.length pa.flatten/\O3 rep sz w pa Gh ds
theorem rK {α:Type} {Gh:List (List α)} {i:Nat} {f:List α} (h:Gh[i]? =some f):∀b∈f,b∈Gh.flatten:=fun b hb=>
 List.mem_flatten.2 ⟨f,List.mem_of_getElem? h,hb⟩
theorem uq {α:Type} {pa:List (List α)} {sz:Nat} (h:∀cs∈pa,cs.length=sz) {i j:Nat} {cs:List α} (hi:pa[i]? =some cs) (hj:j<sz):pa.flatten[i*sz+j]? =cs[j]? :=by
 induction pa generalizing i with
 |nil=>simp at hi
 |cons c r ih=>
  have hc:c.length=sz:=h c (by simp)
  cases i with
  |zero=>
   simp at hi;subst hi
   rw[List.flatten_cons,List.getElem?_append_left (by omega)];simp
  |succ i=>
   rw[List.flatten_cons,List.getElem?_append_right (by rw[hc,Nat.succ_mul];omega)]
   have:(i+1)*sz+j-c.length=i*sz+j:=by rw[hc,Nat.succ_mul];omega
   rw[this]
   exact ih (fun cs dC=>h cs (List.mem_cons_of_mem _ dC)) (by simpa using hi)
theorem O3.lens {α:Type} {rep:World->List Nat->List Value->α->Prop} {sz:Nat} {w:World} {pa:List (List Value)} {Gh:List (List Nat)} {ds:List α}
  (h:O3 rep sz w pa Gh ds):∀cs∈pa,cs.length=sz:=fun cs dC=>by
 obtain⟨i,hi,rfl⟩:=List.getElem_of_mem dC
 have h1:i<Gh.length:=by rw[h.2.1,<-h.1];exact hi
 have h2:i<ds.length:=by rw[<-h.1];exact hi
 exact(h.2.2 i _ _ _ (List.getElem?_eq_getElem hi) (List.getElem?_eq_getElem h1) (List.getElem?_eq_getElem h2)).2
theorem nC.at_ {α:Type} {rep:World->List Nat->List Value->α->Prop} {sz:Nat} {w:World} {fp:List Nat} {A:Option Addr} {n c:Nat} {ds:List α}
  (h:nC rep sz w fp (.slice A n c) ds) (k:Nat) (hk:k<ds.length):
  ∃b o cs f,A=some ⟨b,o,none⟩/\b∈fp/\(∀x∈f,x∈fp)/\rep w f cs ds[k]/\cs.length=sz/\∀j u,cs[j]? =some u->w.cell? ⟨b,o+(k*sz+j),none⟩=some u:=by
 obtain⟨pa,Gh,Vi,rfl,⟨A',c',hv,_,_,hc⟩,hr⟩:=h
 simp only[Value.slice.injEq]at hv
 obtain⟨rfl,hn,rfl⟩:=hv
 rcases hc with⟨_,h0⟩|⟨b,o,rfl,rfl,hc⟩
 ·omega
 have h1:k<pa.length:=by rw[hr.1];exact hk
 have h2:k<Gh.length:=by rw[hr.2.1];exact hk
 obtain⟨gH,hl⟩:=hr.2.2 k _ _ _ (List.getElem?_eq_getElem h1) (List.getElem?_eq_getElem h2) (List.getElem?_eq_getElem hk)
 refine⟨b,o,pa[k],Gh[k],rfl,by simp,fun x hx=>List.mem_append_right _ (rK (List.getElem?_eq_getElem h2) x hx),gH,hl,fun j u hj=>?_⟩
 have iA:j<sz:=by rw[<-hl];exact(List.getElem?_eq_some_iff.1 hj).1
 exact hc _ u (by rw[uq hr.lens (List.getElem?_eq_getElem h1) iA];exact hj)
theorem nC.len {α:Type} {rep:World->List Nat->List Value->α->Prop} {sz:Nat} {w:World} {fp:List Nat} {v:Value} {ds:List α}
  (h:nC rep sz w fp v ds):∃A c,v=.slice A ds.length c/\ds.length<=c/\c<=maxLen:=by
 obtain⟨_,_,_,_,⟨A,c,hv,h1,h2,_⟩,_⟩:=h
 exact⟨A,c,hv,h1,h2⟩
theorem nC.nil {α:Type} (rep:World->List Nat->List Value->α->Prop) (sz:Nat) (w:World):nC rep sz w [] (.slice none 0 0) ([]:List α):=
 ⟨[],[],[],rfl,Sl.nil w,rfl,rfl,fun i cs f d hc=>by simp at hc⟩
def Flat {α:Type} (enc:α->List Value):World->List Nat->List Value->α->Prop:=fun _ f cs d=>f=[]/\cs=enc d
end Go.Proofs.YtgoelphibofcmaaGreat

namespace Go.Proofs.YtgoelphibofcmaaGreat
open Go.RowKit
def Q (w w':World):Prop:=∃q,w'=w.drewN q
theorem Q.refl (w:World):Q w w:=⟨0,rfl⟩
theorem Q.d {w w':World} (h:Q w w') (n:Nat):Q w (w'.drewN n):=by obtain⟨q,rfl⟩:=h;exact⟨q+n,by rw[World.drewN_drewN]⟩
theorem Q.d1 {w w':World} (h:Q w w'):Q w w'.drew:=by obtain⟨q,rfl⟩:=h;exact⟨q+1,rfl⟩
theorem Q.n (w:World) (n:Nat):Q w (w.drewN n):=⟨n,rfl⟩
theorem Q.trans {a b c:World} (h:Q a b) (k:Q b c):Q a c:=by obtain⟨q,rfl⟩:=k;exact h.d q
theorem JA {B:Nat} {a w:World} (h:Below B a w) (n:Nat):Below B a (w.drewN n):=⟨h.os,h.tape,h.output,h.size,h.block⟩
theorem Q.below {w w':World} (h:Q w w'):Below w.heap.size w w':=by obtain⟨q,rfl⟩:=h;exact JA (Below.refl _ _) q
theorem iT {a b:Bool} (h:a=b):Ending.returned (.bool a)=.returned (.bool b):=by rw[h]
theorem GQ {k:IntKind} {a b:Int} (h:a=b):Ending.returned (.int k a)=.returned (.int k b):=by rw[h]
end Go.Proofs.YtgoelphibofcmaaGreat

namespace Go.Proofs.YtgoelphibofcmaaGreat
open Go.RowKit
end Go.Proofs.YtgoelphibofcmaaGreat

namespace Go.Proofs.YtgoelphibofcmaaGreat
open Go.RowKit
end Go.Proofs.YtgoelphibofcmaaGreat

namespace Go.Proofs.YtgoelphibofcmaaGreat
open Go.RowKit
structure aM where
 fc:Int
 eR:Int
deriving DecidableEq
structure ab where
 aL:aM
 aT:Int
deriving DecidableEq
structure gF where
 ai:List ab
deriving DecidableEq
structure fQ where
 aO:ByteArray
 eK:Int
deriving DecidableEq
structure fh where
 aO:ByteArray
 bL:List Int
deriving DecidableEq
structure ax where
 aB:List fQ
 ai:List fh
deriving DecidableEq
structure aw where
 aI:ax
 bh:gF
 ay:Int
deriving DecidableEq
def Hr (d:Int):List Value:=[.int .i64 d]
def F5:=Flat Hr
def fq (d:ab):List Value:=[.int .i64 d.aL.fc,.int .i64 d.aL.eR,.int .i64 d.aT]
def wE:=Flat fq
def iy:=nC wE 3
def JK (d:fQ):List Value:=[.string d.aO,.int .i64 d.eK]
def Jj:=Flat JK
def pS:=nC Jj 2
def wG:=nC F5 1
def Jk (w:World) (f:List Nat) (cs:List Value) (d:fh):Prop:=
 ∃v1 f1,f=f1/\cs=[.string d.aO,v1]/\wG w f1 v1 d.bL
def pT:=nC Jk 2
end Go.Proofs.YtgoelphibofcmaaGreat

namespace Go.Proofs.YtgoelphibofcmaaGreat.V
open Go.RowKit
variable {P:Program} {w:World} {D:Nat->Prop}
def Jc (P:Program) (w:World) (D:Nat->Prop) (al:List AV) (cs:List Value):Prop:=∀(j:Nat) (a:AV),al[j]? =some a->∃u:Value,cs[j]? =some u/\j0 P w D a u
theorem sU {α:Type} {rep:World->List Nat->List Value->α->Prop} {e:α->List AV} {sz:Nat} {f:List Nat} {v:Value} {xs:List α} (h:nC rep sz w f v xs) (hD:∀b∈f,D b)
  (hl:∀x∈xs,(e x).length=sz) (hc:∀x∈xs,∀a∈e x,a.cell=true) (hr:∀x∈xs,∀f' cs,rep w f' cs x->(∀b∈f',D b)->Jc P w D (e x) cs):j0 P w D (.sl (xs.map e)) v:=by
 obtain⟨A,c,rfl,h1,h2⟩:=nC.len h
 by_cases h0:xs=[]
 ·subst h0;exact .BM _ _ h2
 have kK:0<xs.length:=List.length_pos_iff.2 h0
 obtain⟨b,o,L6,f0,rfl,hb,Uv,Wx,MS,jW⟩:=nC.at_ h 0 kK
 have key:∀(i:Nat) (hi:i<xs.length),∃cs f',(∀x∈f',x∈f)/\rep w f' cs xs[i]/\cs.length=sz/\∀j u,cs[j]? =some u->w.cell? ⟨b,o+(i*sz+j),none⟩=some u:=by
  intro i hi
  obtain⟨b',o',cs,f',Uo,_,jX,oK,dC,lk⟩:=nC.at_ h i hi
  simp only[Option.some.injEq,Addr.mk.injEq,and_true]at Uo
  obtain⟨rfl,rfl⟩:=Uo
  exact⟨cs,f',jX,oK,dC,lk⟩
 refine .sl _ b o _ c sz (fun i j=>(w.cell? ⟨b,o+(i*sz+j),none⟩).getD Go.undef) (by simp) h1 h2 (hD b hb) ?_ ?_ ?_ ?_
 ·intro cs dC
  obtain⟨x,hx,rfl⟩:=List.mem_map.1 dC
  exact hl x hx
 ·intro cs dC
  obtain⟨x,hx,rfl⟩:=List.mem_map.1 dC
  exact hc x hx
 ·intro i j hi hj
  obtain⟨cs,f',_,_,dC,lk⟩:=key i hi
  rw[lk j cs[j] (List.getElem?_eq_getElem (by omega))]
  rfl
 ·intro i j cs a dC ha
  have hi:i<xs.length:=by
   have:=(List.getElem?_eq_some_iff.1 dC).1
   simpa using this
  obtain⟨qp,f',jX,oK,hcs',lk⟩:=key i hi
  simp[hi]at dC
  subst dC
  obtain⟨u,hu,him⟩:=hr _ (List.getElem_mem hi) f' qp oK (fun b hb=>hD b (jX b hb)) j a ha
  rw[lk j u hu]
  exact him
end Go.Proofs.YtgoelphibofcmaaGreat.V

namespace Go.Proofs.YtgoelphibofcmaaGreat.V
open Go.RowKit
variable {P:Program} {w:World} {D:Nat->Prop}
def az (d:Int):List AV:=[.int .i64 d]
def ah (d:aM):List AV:=[.int .i64 d.fc,.int .i64 d.eR]
def aa (d:ab):List AV:=[.int .i64 d.aL.fc,.int .i64 d.aL.eR,.int .i64 d.aT]
def dP (d:gF):List AV:=[.sl (d.ai.map aa)]
def cq (d:fQ):List AV:=[.str d.aO,.int .i64 d.eK]
def bJ (d:fh):List AV:=[.str d.aO,.sl (d.bL.map az)]
def ad (d:ax):List AV:=[.sl (d.aB.map cq),.sl (d.ai.map bJ)]
def ar (d:aw):List AV:=[.sl (d.aI.aB.map cq),.sl (d.aI.ai.map bJ),.sl (d.bh.ai.map aa),.int .i64 d.ay]
theorem oQ {f:List Nat} {v:Value} {xs:List ab} (h:iy w f v xs) (hD:∀b∈f,D b):j0 P w D (.sl (xs.map aa)) v:=
 sU h hD (fun _ _=>rfl) (fun x _ a ha=>by simp[aa]at ha;rcases ha with rfl|rfl|rfl<;>rfl) fun x _ f' cs hr hf=>by
  obtain⟨_,rfl⟩:=hr
  intro j a ha
  match j,ha with
  |0,ha=>simp[aa]at ha;subst ha;exact⟨_,rfl,.int _ _⟩
  |1,ha=>simp[aa]at ha;subst ha;exact⟨_,rfl,.int _ _⟩
  |2,ha=>simp[aa]at ha;subst ha;exact⟨_,rfl,.int _ _⟩
  |j+3,ha=>simp[aa]at ha
theorem G7 {f:List Nat} {v:Value} {xs:List fQ} (h:pS w f v xs) (hD:∀b∈f,D b):j0 P w D (.sl (xs.map cq)) v:=
 sU h hD (fun _ _=>rfl) (fun x _ a ha=>by simp[cq]at ha;rcases ha with rfl|rfl<;>rfl) fun x _ f' cs hr hf=>by
  obtain⟨_,rfl⟩:=hr
  intro j a ha
  match j,ha with
  |0,ha=>simp[cq]at ha;subst ha;exact⟨_,rfl,.str _⟩
  |1,ha=>simp[cq]at ha;subst ha;exact⟨_,rfl,.int _ _⟩
  |j+2,ha=>simp[cq]at ha
theorem Eb {f:List Nat} {v:Value} {xs:List Int} (h:wG w f v xs) (hD:∀b∈f,D b):j0 P w D (.sl (xs.map az)) v:=
 sU h hD (fun _ _=>rfl) (fun x _ a ha=>by simp[az]at ha;rcases ha with rfl<;>rfl) fun x _ f' cs hr hf=>by
  obtain⟨_,rfl⟩:=hr
  intro j a ha
  match j,ha with
  |0,ha=>simp[az]at ha;subst ha;exact⟨_,rfl,.int _ _⟩
  |j+1,ha=>simp[az]at ha
theorem Ha {f:List Nat} {v:Value} {xs:List fh} (h:pT w f v xs) (hD:∀b∈f,D b):j0 P w D (.sl (xs.map bJ)) v:=
 sU h hD (fun _ _=>rfl) (fun x _ a ha=>by simp[bJ]at ha;rcases ha with rfl|rfl<;>rfl) fun x _ f' cs hr hf=>by
  obtain⟨v1,f1,rfl,rfl,h1⟩:=hr
  intro j a ha
  match j,ha with
  |0,ha=>simp[bJ]at ha;subst ha;exact⟨_,rfl,.str _⟩
  |1,ha=>simp[bJ]at ha;subst ha;exact⟨_,rfl,Eb h1 hf⟩
  |j+2,ha=>simp[bJ]at ha
theorem wH {d:aw} {f0:List Nat} {v0:Value} (h0:pS w f0 v0 d.aI.aB) (d0:∀b∈f0,D b) {f1:List Nat} {v1:Value} (h1:pT w f1 v1 d.aI.ai) (d1:∀b∈f1,D b) {f2:List Nat} {v2:Value} (h2:iy w f2 v2 d.bh.ai) (d2:∀b∈f2,D b):j0 P w D (.agg (ar d)) (.agg #[v0,v1,v2,.int .i64 d.ay]):=by
 refine .agg _ _ (fun j=>(#[v0,v1,v2,.int .i64 d.ay]:Array Value).getD j Go.undef) rfl (fun a ha=>by simp[ar]at ha;rcases ha with rfl|rfl|rfl|rfl<;>rfl) (fun j hj=>?_) (fun j a ha=>?_)
 ·match j,hj with
  |0,_=>rfl
  |1,_=>rfl
  |2,_=>rfl
  |3,_=>rfl
  |j+4,hj=>simp[ar]at hj<;>omega
 ·match j,ha with
  |0,ha=>simp[ar]at ha;subst ha;exact G7 h0 d0
  |1,ha=>simp[ar]at ha;subst ha;exact Ha h1 d1
  |2,ha=>simp[ar]at ha;subst ha;exact oQ h2 d2
  |3,ha=>simp[ar]at ha;subst ha;exact .int _ _
  |j+4,ha=>simp[ar]at ha
end Go.Proofs.YtgoelphibofcmaaGreat.V

namespace Go.Proofs.YtgoelphibofcmaaGreat.V
open Go.RowKit
attribute [local irreducible] dQ wpOps fX Call
attribute [local go_sem] aQ fM eU fY fW dm upd cG K.av cQ AV.cells AV.cell rowOf rowsOf part ld rowAt bQ cC dE ea gZ bS dh eo fV fj dB ef dd dc dS dU b4 bj cV bW cY cW ec eh ee cU ck de eb bV aU da cK gY bx cP cj bd dv bl dG AV.undef bH bK dW dZ dO dL cN ek eu cJ ej ei cZ db List.getD_cons_zero List.getD_cons_succ List.getD_nil List.all_cons List.all_nil Bool.and_true Bool.true_and Bool.and_self Bool.not_true Bool.not_false Option.map_some Option.map_none Option.bind_some Option.bind_none List.length_cons List.length_nil List.take_succ_cons List.take_zero List.take_nil List.drop_succ_cons List.drop_zero List.drop_nil List.head?_cons List.map_cons List.map_nil List.getElem?_cons_zero List.getElem?_cons_succ List.cons_append List.nil_append List.append_nil List.length_map List.set_cons_zero List.set_cons_succ Nat.reduceMul eq_self Int.toNat_natCast Int.natCast_nonneg and_self true_and and_true decide_true decide_false Bool.false_eq_true Nat.zero_add Nat.add_zero List.contains_cons List.contains_nil Bool.or_false Bool.false_or beq_self_eq_true Nat.reduceBEq ne_eq not_true_eq_false not_false_eq_true Id.mk.injEq false_and and_false Nat.reduceLT Int.reduceLE Int.reduceLT Int.reduceToNat Int.reduceNeg Int.reduceAdd Nat.le_refl List.length_append beq_true beq_false Bool.not_eq_eq_eq_not or_false false_or dX ae aj aJ bq bG cr aY bf aW bp cR bB
variable {P:Program}
theorem LW {X:fZ} {Q:Ex->Env->au->Prop} {N:Env->au->Prop} {c:VC} {env:Env} {σ:au} (I:Env->au->Prop) (h2:∀e s,I e s->N e s) (h1:∀N':Env->au->Prop,(∀e s,I e s->N' e s)->dQ X c (dv N' Q) env σ):dQ X c (dv N Q) env σ:=h1 N h2
def tM (f z:Nat) (a:Bool):BA:=let s:=f*1000000
 ⟨19,2,(.seq (.eS false [q 4 (.dz (.k (.int .i64 0))) s]) (.seq (.seq (.eS false [q 6 (.dz (.t 0)) (s+1000),q 7 (.len (.t 6)) (s+1001),q 8 (.dz (.k (.int .i64 0))) (s+1002)]) (.block 0 (.loop (.seq (.eS false [q 9 (.bin .lss .i64 (.t 8) (.t 7)) (s+2000)]) (.seq (.cond (.t 9) .skip (.exit 0)) (.seq (.block 1 (.seq (.eS false [q 10 (.dz (.t 8)) (s+3000),q 5 (.dz (.t 10)) (s+3001)]) (.seq (.eS false [q 11 (.dz (.t 1)) (s+4000),q 12 (.dz (.t 0)) (s+4001),q 13 (.dz (.t 5)) (s+4002),q 14 (.dY z (.t 12) (.t 13)) (s+4003),q 15 (.load a z (.t 14)) (s+4004),q 16 (.um (.t 11) [(.t 15)]) (s+4005)]) (.cond (.t 16) (.seq (.eS false [q 17 (.dz (.t 5)) (s+5000),q 4 (.dz (.t 17)) (s+5001)]) .ret) .skip)))) (.eS false [q 18 (.bin .add .i64 (.t 8) (.k (.int .i64 1))) (s+6000),q 8 (.dz (.t 18)) (s+6001)]))))))) (.seq (.eS false [q 4 (.dz (.k (.int .i64 (-1)))) (s+7000)]) .ret))),[(.tmp 4)]⟩
def EK (f g:Nat):BA:=let s:=f*1000000
 ⟨9,2,(.seq (.eS false [q 4 (.dz (.k (.bool false))) s]) (.seq (.eS false [q 5 (.dz (.t 0)) (s+1000),q 6 (.dz (.t 1)) (s+1001),q 7 (.call g [(.t 5),(.t 6)]) (s+1002),q 8 (.bin .geq .i64 (.t 7) (.k (.int .i64 0))) (s+1003),q 4 (.dz (.t 8)) (s+1004)]) .ret)),[(.tmp 4)]⟩
def gL {α:Type} (p:α->Bool) (xs:List α):Int:=if xs.findIdx p<xs.length then(xs.findIdx p:Int)else -1
theorem JP {α:Type} (p:α->Bool) (xs:List α):decide (0<=gL p xs)=xs.any p:=by
 unfold gL
 by_cases h:xs.findIdx p<xs.length
 ·rw[if_pos h]
  have:xs.any p=true:=List.any_eq_true.2 (List.findIdx_lt_length.1 h)
  rw[this];simp
 ·rw[if_neg h]
  have:xs.any p=false:=by
   rw[Bool.eq_false_iff]
   intro hc
   exact h (List.findIdx_lt_length.2 (List.any_eq_true.1 hc))
  rw[this];rfl
theorem vn (a:AV) (l m:List AV):a::l++m=a::(l++m):=rfl
theorem Aj (l:List AV):[]++l=l:=rfl
structure Rh {α:Type} (e:α->List AV) (v:α->AV) (z:Nat) (a:Bool):Prop where
 len:∀x,(e x).length=z
 val:∀x,if a=true then v x=.agg (e x)else e x=[v x]
 fz:∀x g,dt g 6 [v x]=some [v x]
theorem pk {α:Type} {e:α->List AV} {v:α->AV} {z fk:Nat} {a:Bool} (hE:Rh e v z a) (hc:lV P fk=some (tM fk z a)) (xs:List α) (hlen:xs.length<=1048576) (f:Nat) (dp:List AV) (p:α->Bool)
  (hf:∀x∈xs,aq P f (v x::dp) (.bool (p x))) (J9:∀g,dt g 6 dp=some dp):
  aq P fk [.sl (xs.map e),.fn f dp] (.int .i64 (gL p xs)):=by
 refine aq.body hc rfl fun hl n0=>?_
 try simp only[q]
 clear hl
 (try((repeat(revert hN;revert N;apply Pn.out));refine wk @Nat.zero_add ?_;(repeat(refine Pn.mk ?_;intro N hN))))
 refine aZ (fun n env st=>∃k:Nat,n=(xs.length)-k/\k<=(xs.length)/\env 8=.int .i64 (k:Int)/\(∀j:Nat,j<k->∀h:j<xs.length,p xs[j]=false)) (xs.length) ⟨0,by omega,by omega,sl @Nat.zero_add,fun _ h=>absurd h (Nat.not_lt_zero _)⟩ ?_
 rintro n_a env_a st_a ⟨k,rfl,ale,a8,kj⟩ dy
 have a0:=dy 0 (by kernel_rfl);have a1:=dy 1 (by kernel_rfl);have a7:=dy 7 (by kernel_rfl)
 simp only[go_sem, ↓reduceIte,Nat.reduceEqDiff,Nat.reduceAdd,Nat.reduceSub,Nat.reduceLeDiff,reduceCtorEq]at a0 a1 a7
 clear dy
 by_cases hk:(k:Int)<(xs.length:Int)
 ·have cw:∀{e:Env},(e 8=.int .i64 (IntKind.i64.wrap ((k:Int)+1)))->(∀h:k<xs.length,p xs[k]=false)->∃m0,m0<(xs.length)-k/\∃k:Nat,m0=(xs.length)-k/\k<=(xs.length)/\e 8=.int .i64 (k:Int)/\(∀j:Nat,j<k->∀h:j<xs.length,p xs[j]=false):=fun x1 x2=>⟨_,by omega,k+1,rfl,by omega,(by rw[x1,aD (by omega)]),(all_succ kj x2)⟩
  have fP:k<xs.length:=by omega
  have hg:(xs.map e)[k]? =some (e xs[k]):=by simp[fP]
  have Gq:=hf _ (List.getElem_mem fP)
  have hz:=hE.len xs[k]
  have hv:=hE.val xs[k]
  have k6:dt (dX st_a.get) 6 (v xs[k]::dp)=some (v xs[k]::dp):=by
   have h1:=hE.fz xs[k] (dX st_a.get)
   rw[ae,aj]at h1
   rw[ae,J9]
   revert h1
   cases V.fz (dX st_a.get) 6 (v xs[k])<;>simp
  have fin:∀hN:True,(p xs[k]=true->xs.findIdx p=k):=fun _ hp=>by
   rw[List.findIdx_eq fP];exact⟨hp,fun j hj=>kj j hj (by omega)⟩
  cases hp:p xs[k]
  ·have UH:=hp
   cases a
   ·rw[if_neg (by simp)]at hv
    have BL:z=1:=by rw[<-hz,hv];rfl
    subst BL
    rw[hv]at hg hz
    rw[hp]at Gq
    generalize v xs[k]=c at Gq k6 hg hz
    (try((repeat(revert hN;revert N;apply Pn.out));refine wk (tw @a8 (tw @a0 (tw @a1 (tw @a7 (tw @hk (tw @hg (tw @hz (tw @vn @Aj)))))))) ?_;(repeat(refine Pn.mk ?_;intro N hN))))
    refine .inl ⟨_,aq.x Gq k6,?_⟩
    refine hN _ _ ?_
    clear hN N
    (try((repeat(revert hN;revert N;apply Pn.out));refine wk (tw @a8 (tw @a0 (tw @a1 @a7))) ?_;(repeat(refine Pn.mk ?_;intro N hN))))
    exact cw (sd (tw @a8 (tw @a0 (tw @a1 @a7)))) (fun _=>UH)
   ·rw[if_pos rfl]at hv
    have ht:(e xs[k]).take z=e xs[k]:=by rw[<-hz,List.take_length]
    rw[hv]at Gq k6
    rw[hp]at Gq
    generalize e xs[k]=c at Gq k6 hg hz ht
    (try((repeat(revert hN;revert N;apply Pn.out));refine wk (tw @a8 (tw @a0 (tw @a1 (tw @a7 (tw @hk (tw @hg (tw @hz (tw @ht (tw @vn (tw @Aj @Nat.le_refl)))))))))) ?_;(repeat(refine Pn.mk ?_;intro N hN))))
    refine .inl ⟨_,aq.x Gq k6,?_⟩
    refine hN _ _ ?_
    clear hN N
    (try((repeat(revert hN;revert N;apply Pn.out));refine wk (tw @a8 (tw @a0 (tw @a1 @a7))) ?_;(repeat(refine Pn.mk ?_;intro N hN))))
    exact cw (sd (tw @a8 (tw @a0 (tw @a1 @a7)))) (fun _=>UH)
  ·have hi:=fin trivial hp
   cases a
   ·rw[if_neg (by simp)]at hv
    have BL:z=1:=by rw[<-hz,hv];rfl
    subst BL
    rw[hv]at hg hz
    rw[hp]at Gq
    generalize v xs[k]=c at Gq k6 hg hz
    (try((repeat(revert hN;revert N;apply Pn.out));refine wk (tw @a8 (tw @a0 (tw @a1 (tw @a7 (tw @hk (tw @hg (tw @hz (tw @vn @Aj)))))))) ?_;(repeat(refine Pn.mk ?_;intro N hN))))
    refine .inl ⟨_,aq.x Gq k6,?_⟩
    refine hN _ _ ?_
    clear hN N
    (try((repeat(revert hN;revert N;apply Pn.out));refine wk (tw @a8 (tw @a0 (tw @a1 @a7))) ?_;(repeat(refine Pn.mk ?_;intro N hN))))
    exact dj (b:=(k:Int)) (.inl rfl) (sd @Nat.zero_add) (by rw[gL,hi,if_pos fP])
   ·rw[if_pos rfl]at hv
    have ht:(e xs[k]).take z=e xs[k]:=by rw[<-hz,List.take_length]
    rw[hv]at Gq k6
    rw[hp]at Gq
    generalize e xs[k]=c at Gq k6 hg hz ht
    (try((repeat(revert hN;revert N;apply Pn.out));refine wk (tw @a8 (tw @a0 (tw @a1 (tw @a7 (tw @hk (tw @hg (tw @hz (tw @ht (tw @vn (tw @Aj @Nat.le_refl)))))))))) ?_;(repeat(refine Pn.mk ?_;intro N hN))))
    refine .inl ⟨_,aq.x Gq k6,?_⟩
    refine hN _ _ ?_
    clear hN N
    (try((repeat(revert hN;revert N;apply Pn.out));refine wk (tw @a8 (tw @a0 (tw @a1 @a7))) ?_;(repeat(refine Pn.mk ?_;intro N hN))))
    exact dj (b:=(k:Int)) (.inl rfl) (sd @Nat.zero_add) (by rw[gL,hi,if_pos fP])
 ·(try((repeat(revert hN;revert N;apply Pn.out));refine wk (tw @a8 (tw @a0 (tw @a1 (tw @a7 @hk)))) ?_;(repeat(refine Pn.mk ?_;intro N hN))))
  have hi:¬xs.findIdx p<xs.length:=by
   rw[List.findIdx_lt_length]
   rintro⟨x,hx,M7⟩
   obtain⟨j,hj,rfl⟩:=List.getElem_of_mem hx
   rw[kj j (by omega) hj]at M7;cases M7
  exact dj (b:=-1) (.inl rfl) (sd @Nat.zero_add) (by rw[gL,if_neg hi])
theorem o8 {α:Type} {e:α->List AV} {v:α->AV} {z fk gk:Nat} {a:Bool} (hE:Rh e v z a) (hc:lV P fk=some (EK fk gk)) (yF:lV P gk=some (tM gk z a)) (xs:List α) (hlen:xs.length<=1048576) (f:Nat) (dp:List AV) (p:α->Bool) (J4:dp.all AV.cell=true) (Cz:∀g,dt g 5 dp=some dp)
  (hf:∀x∈xs,aq P f (v x::dp) (.bool (p x))) (J9:∀g,dt g 6 dp=some dp):
  aq P fk [.sl (xs.map e),.fn f dp] (.bool (xs.any p)):=by
 refine aq.body hc rfl fun hl n0=>?_
 try simp only[q]
 clear hl
 have hi:=pk hE yF xs hlen f dp p hf J9
 (repeat(first|((repeat(revert hN;revert N;apply Pn.out));refine wk (tw @J4 @Cz) ?_;(repeat(refine Pn.mk ?_;intro N hN)))|((try apply Or.inl);refine⟨_,aq.x (hi) (sd (tw @J4 @Cz)),?_⟩;refine hN _ _ ?_;clear hN N)))
 exact bc (b:=decide (0<=gL p xs)) (.inl rfl) (sd @Nat.zero_add) (JP p xs)
end Go.Proofs.YtgoelphibofcmaaGreat.V

namespace Go.Proofs.YtgoelphibofcmaaGreat.V
open Go.RowKit
def sw (P:Program) (mk:Bool):List Oper->Nat->List Nat
 |[],_=>[]
 |o::r,i=>match rR P o.op with
  |some v=>if rJ v||mk&&v.mh then i::sw P mk r (i+1)else sw P mk r (i+1)
  |none=>sw P mk r (i+1)
def Am (P:Program) (ops:Array Oper) (site0:Nat) (mk:Bool) (bs:Array Nat) (hidden:List Nat):List Oper->Nat->Option (List br)
 |[],_=>some []
 |o::r,j=>do
  let v <-rR P o.op
  let g <-Eo ops o
  pure ({dst:=o.dst,op:=v,guard:=g,site:=site0+j,hid:=(hidden.filter fun i=> !(bs.getD j 0).testBit i&&(i !=j||mk&&v.mh)).map fun i=>site0+i}::(<-Am P ops site0 mk bs hidden r (j+1)))
def qM (P:Program) (md:List (Nat×Nat)) (fid:Nat):Code->Option VC
 | .skip=>some .skip
 | .region id ops draw=>if draw then(Am P ops ((fid*1000+id)*1000) (xz md id==1) (jR ops) (sw P (xz md id==1) ops.toList 0) ops.toList 0).map (VC.eS true)else(Am P ops ((fid*1000+id)*1000) false #[] [] ops.toList 0).map (if ops.toList.any fun o=>OG o.op then VC.Pg else VC.eS false)
 | .seq a b=>do pure (.seq (<-qM P md fid a) (<-qM P md fid b))
 | .cond c x y=>do pure (.cond (<-cO P c) (<-qM P md fid x) (<-qM P md fid y))
 | .block id c=>(qM P md fid c).map (VC.block id)
 | .loop c=>(qM P md fid c).map VC.loop
 | .exit id=>some (.exit id)
 | .ret=>some .ret
 |_=>none
def R3 (P:Program) (md:List (Nat×Nat)) (f:Nat):Option BA:=
 match P.funcs[f]? with
 |some fn=>match fn.body with
  |some c=>do
   let b <-qM P md f c
   let r <-fn.results.toList.mapM (Ep P)
   pure {ntmps:=fn.ntmps,zE:=fn.params.size+fn.nfree,body:=b,res:=r}
  |none=>none
 |none=>none
theorem cfM {P:Program} (md:List (Nat×Nat)) {f:Nat} {v:BA} (_:R3 P md f=some v:=by(conv=>lhs;cbv)<;>exact rfl) (h:yz P f md=some v:=by kernel_rfl):yz P f md=some v:=h
theorem eF {P:Program} {f:Nat} {v:BA} (_:R3 P [] f=some v:=by(conv=>lhs;cbv)<;>exact rfl) (h:lV P f=some v:=by kernel_rfl):lV P f=some v:=h
end Go.Proofs.YtgoelphibofcmaaGreat.V

namespace Go.Proofs.YtgoelphibofcmaaGreat.V
open Go.RowKit
def QU:BA:=⟨77,2,(.seq (.eS false [q 4 (.dz (.k .gT)) 237000000]) (.seq (.eS false [q 7 (.dz (.t 0)) 237001000,q 8 (.dz (.t 1)) 237001001,q 9 (.build [(.int .i64 0),.bD,.bD,.bD] [(0,(1,(.t 7))),(1,(1,(.t 8)))]) 237001002,q 10 (.box (.t 9)) 237001003,q 5 (.dz (.t 10)) 237001004]) (.seq (.eS false [q 11 (.dz (.t 5)) 237002000,q 12 (.dz (.t 0)) 237002001,q 13 (.kg [.bD] (.t 12) (.t 12)) 237002002,q 14 (.BB (.t 11)) 237002003,q 15 (.gp 2 (.t 14)) 237002004,⟨none,(.store 1 (.t 15) (.t 13)),none,237002005,[]⟩]) (.seq (.eS false [q 16 (.dz (.t 5)) 237003000,q 17 (.dz (.t 1)) 237003001,q 18 (.len (.t 17)) 237003002,q 19 (.kg [(.int .i64 0)] (.t 18) (.t 18)) 237003003,q 20 (.BB (.t 16)) 237003004,q 21 (.gp 3 (.t 20)) 237003005,⟨none,(.store 1 (.t 21) (.t 19)),none,237003006,[]⟩]) (.seq (.seq (.eS false [q 6 (.dz (.k (.int .i64 0))) 237004000]) (.block 0 (.loop (.seq (.seq (.eS false [q 22 (.dz (.t 6)) 237005000,q 23 (.dz (.t 1)) 237005001,q 24 (.len (.t 23)) 237005002,q 25 (.bin .lss .i64 (.t 22) (.t 24)) 237005003]) (.cond (.t 25) .skip (.exit 0))) (.seq (.block 1 (.seq (.one ⟨(some 28),(.dz (.t 5)),none,237007000,[237007021,237007022,237007024]⟩ (.one ⟨(some 29),(.BB (.t 28)),none,237007001,[237007021,237007022,237007024]⟩ (.one ⟨(some 30),(.gp 2 (.t 29)),none,237007002,[237007021,237007022,237007024]⟩ (.one ⟨(some 32),(.dz (.t 1)),none,237007004,[237007021,237007022,237007024]⟩ (.one ⟨(some 33),(.dz (.t 6)),none,237007005,[237007021,237007022,237007024]⟩ (.one ⟨(some 37),(.dz (.t 5)),none,237007009,[237007021,237007022,237007024]⟩ (.one ⟨(some 38),(.BB (.t 37)),none,237007010,[237007021,237007022,237007024]⟩ (.one ⟨(some 39),(.gp 2 (.t 38)),none,237007011,[237007021,237007022,237007024]⟩ (.one ⟨(some 40),(.load false 1 (.t 39)),none,237007012,[237007021,237007022,237007024]⟩ (.one ⟨(some 41),(.dz (.t 1)),none,237007013,[237007021,237007022,237007024]⟩ (.one ⟨(some 42),(.dz (.t 6)),none,237007014,[237007021,237007022,237007024]⟩ (.one ⟨(some 43),(.dY 3 (.t 41) (.t 42)),none,237007015,[237007021,237007022,237007024]⟩ (.one ⟨(some 44),(.gp 0 (.t 43)),none,237007016,[237007021,237007022,237007024]⟩ (.one ⟨(some 45),(.load false 1 (.t 44)),none,237007017,[237007021,237007022,237007024]⟩ (.one ⟨(some 46),(.dY 1 (.t 40) (.t 45)),none,237007018,[237007021,237007022,237007024]⟩ (.one ⟨(some 47),(.load false 1 (.t 46)),none,237007019,[237007021,237007022,237007024]⟩ (.one ⟨(some 48),(.dz (.t 6)),none,237007020,[237007021,237007022,237007024]⟩ (.one ⟨(some 49),(.mc 1 1 [(.t 48)]),none,237007021,[237007022,237007024]⟩ (.both (.one ⟨(some 31),(.load false 1 (.t 30)),none,237007003,[237007021,237007022,237007024]⟩ (.both (.one ⟨(some 34),(.dY 3 (.t 32) (.t 33)),none,237007006,[237007021,237007022,237007024]⟩ (.one ⟨(some 35),(.gp 0 (.t 34)),none,237007007,[237007021,237007022,237007024]⟩ (.both (.one ⟨(some 36),(.load false 1 (.t 35)),none,237007008,[237007021,237007022,237007024]⟩ (.one ⟨(some 50),(.append 1 (.t 47) (.t 49)),none,237007022,[237007024]⟩ (.one ⟨(some 51),(.dY 1 (.t 31) (.t 36)),none,237007023,[237007024]⟩ (.one ⟨none,(.store 1 (.t 51) (.t 50)),none,237007024,[]⟩ (.eS false []))))) (.one ⟨(some 50),(.append 1 (.t 47) (.t 49)),none,237007022,[237007024]⟩ (.one ⟨(some 36),(.load false 1 (.t 35)),none,237007008,[237007021,237007022,237007024]⟩ (.one ⟨(some 51),(.dY 1 (.t 31) (.t 36)),none,237007023,[237007024]⟩ (.one ⟨none,(.store 1 (.t 51) (.t 50)),none,237007024,[]⟩ (.eS false [])))))))) (.one ⟨(some 50),(.append 1 (.t 47) (.t 49)),none,237007022,[237007024]⟩ (.one ⟨(some 34),(.dY 3 (.t 32) (.t 33)),none,237007006,[237007021,237007022,237007024]⟩ (.one ⟨(some 35),(.gp 0 (.t 34)),none,237007007,[237007021,237007022,237007024]⟩ (.one ⟨(some 36),(.load false 1 (.t 35)),none,237007008,[237007021,237007022,237007024]⟩ (.one ⟨(some 51),(.dY 1 (.t 31) (.t 36)),none,237007023,[237007024]⟩ (.one ⟨none,(.store 1 (.t 51) (.t 50)),none,237007024,[]⟩ (.eS false []))))))))) (.both (.one ⟨(some 34),(.dY 3 (.t 32) (.t 33)),none,237007006,[237007021,237007022,237007024]⟩ (.one ⟨(some 35),(.gp 0 (.t 34)),none,237007007,[237007021,237007022,237007024]⟩ (.both (.one ⟨(some 31),(.load false 1 (.t 30)),none,237007003,[237007021,237007022,237007024]⟩ (.both (.one ⟨(some 36),(.load false 1 (.t 35)),none,237007008,[237007021,237007022,237007024]⟩ (.one ⟨(some 50),(.append 1 (.t 47) (.t 49)),none,237007022,[237007024]⟩ (.one ⟨(some 51),(.dY 1 (.t 31) (.t 36)),none,237007023,[237007024]⟩ (.one ⟨none,(.store 1 (.t 51) (.t 50)),none,237007024,[]⟩ (.eS false []))))) (.one ⟨(some 50),(.append 1 (.t 47) (.t 49)),none,237007022,[237007024]⟩ (.one ⟨(some 36),(.load false 1 (.t 35)),none,237007008,[237007021,237007022,237007024]⟩ (.one ⟨(some 51),(.dY 1 (.t 31) (.t 36)),none,237007023,[237007024]⟩ (.one ⟨none,(.store 1 (.t 51) (.t 50)),none,237007024,[]⟩ (.eS false []))))))) (.both (.one ⟨(some 36),(.load false 1 (.t 35)),none,237007008,[237007021,237007022,237007024]⟩ (.both (.one ⟨(some 31),(.load false 1 (.t 30)),none,237007003,[237007021,237007022,237007024]⟩ (.one ⟨(some 50),(.append 1 (.t 47) (.t 49)),none,237007022,[237007024]⟩ (.one ⟨(some 51),(.dY 1 (.t 31) (.t 36)),none,237007023,[237007024]⟩ (.one ⟨none,(.store 1 (.t 51) (.t 50)),none,237007024,[]⟩ (.eS false []))))) (.one ⟨(some 50),(.append 1 (.t 47) (.t 49)),none,237007022,[237007024]⟩ (.one ⟨(some 31),(.load false 1 (.t 30)),none,237007003,[237007021,237007022,237007024]⟩ (.one ⟨(some 51),(.dY 1 (.t 31) (.t 36)),none,237007023,[237007024]⟩ (.one ⟨none,(.store 1 (.t 51) (.t 50)),none,237007024,[]⟩ (.eS false []))))))) (.one ⟨(some 50),(.append 1 (.t 47) (.t 49)),none,237007022,[237007024]⟩ (.one ⟨(some 31),(.load false 1 (.t 30)),none,237007003,[237007021,237007022,237007024]⟩ (.one ⟨(some 36),(.load false 1 (.t 35)),none,237007008,[237007021,237007022,237007024]⟩ (.one ⟨(some 51),(.dY 1 (.t 31) (.t 36)),none,237007023,[237007024]⟩ (.one ⟨none,(.store 1 (.t 51) (.t 50)),none,237007024,[]⟩ (.eS false [])))))))))) (.one ⟨(some 50),(.append 1 (.t 47) (.t 49)),none,237007022,[237007024]⟩ (.one ⟨(some 31),(.load false 1 (.t 30)),none,237007003,[237007021,237007022,237007024]⟩ (.one ⟨(some 34),(.dY 3 (.t 32) (.t 33)),none,237007006,[237007021,237007022,237007024]⟩ (.one ⟨(some 35),(.gp 0 (.t 34)),none,237007007,[237007021,237007022,237007024]⟩ (.one ⟨(some 36),(.load false 1 (.t 35)),none,237007008,[237007021,237007022,237007024]⟩ (.one ⟨(some 51),(.dY 1 (.t 31) (.t 36)),none,237007023,[237007024]⟩ (.one ⟨none,(.store 1 (.t 51) (.t 50)),none,237007024,[]⟩ (.eS false [])))))))))))))))))))))))))))) (.one ⟨(some 52),(.dz (.t 5)),none,237008000,[237008021,237008022,237008024]⟩ (.one ⟨(some 53),(.BB (.t 52)),none,237008001,[237008021,237008022,237008024]⟩ (.one ⟨(some 54),(.gp 2 (.t 53)),none,237008002,[237008021,237008022,237008024]⟩ (.one ⟨(some 56),(.dz (.t 1)),none,237008004,[237008021,237008022,237008024]⟩ (.one ⟨(some 57),(.dz (.t 6)),none,237008005,[237008021,237008022,237008024]⟩ (.one ⟨(some 61),(.dz (.t 5)),none,237008009,[237008021,237008022,237008024]⟩ (.one ⟨(some 62),(.BB (.t 61)),none,237008010,[237008021,237008022,237008024]⟩ (.one ⟨(some 63),(.gp 2 (.t 62)),none,237008011,[237008021,237008022,237008024]⟩ (.one ⟨(some 64),(.load false 1 (.t 63)),none,237008012,[237008021,237008022,237008024]⟩ (.one ⟨(some 65),(.dz (.t 1)),none,237008013,[237008021,237008022,237008024]⟩ (.one ⟨(some 66),(.dz (.t 6)),none,237008014,[237008021,237008022,237008024]⟩ (.one ⟨(some 67),(.dY 3 (.t 65) (.t 66)),none,237008015,[237008021,237008022,237008024]⟩ (.one ⟨(some 68),(.gp 1 (.t 67)),none,237008016,[237008021,237008022,237008024]⟩ (.one ⟨(some 69),(.load false 1 (.t 68)),none,237008017,[237008021,237008022,237008024]⟩ (.one ⟨(some 70),(.dY 1 (.t 64) (.t 69)),none,237008018,[237008021,237008022,237008024]⟩ (.one ⟨(some 71),(.load false 1 (.t 70)),none,237008019,[237008021,237008022,237008024]⟩ (.one ⟨(some 72),(.dz (.t 6)),none,237008020,[237008021,237008022,237008024]⟩ (.one ⟨(some 73),(.mc 1 1 [(.t 72)]),none,237008021,[237008022,237008024]⟩ (.both (.one ⟨(some 55),(.load false 1 (.t 54)),none,237008003,[237008021,237008022,237008024]⟩ (.both (.one ⟨(some 58),(.dY 3 (.t 56) (.t 57)),none,237008006,[237008021,237008022,237008024]⟩ (.one ⟨(some 59),(.gp 1 (.t 58)),none,237008007,[237008021,237008022,237008024]⟩ (.both (.one ⟨(some 60),(.load false 1 (.t 59)),none,237008008,[237008021,237008022,237008024]⟩ (.one ⟨(some 74),(.append 1 (.t 71) (.t 73)),none,237008022,[237008024]⟩ (.one ⟨(some 75),(.dY 1 (.t 55) (.t 60)),none,237008023,[237008024]⟩ (.one ⟨none,(.store 1 (.t 75) (.t 74)),none,237008024,[]⟩ (.eS false []))))) (.one ⟨(some 74),(.append 1 (.t 71) (.t 73)),none,237008022,[237008024]⟩ (.one ⟨(some 60),(.load false 1 (.t 59)),none,237008008,[237008021,237008022,237008024]⟩ (.one ⟨(some 75),(.dY 1 (.t 55) (.t 60)),none,237008023,[237008024]⟩ (.one ⟨none,(.store 1 (.t 75) (.t 74)),none,237008024,[]⟩ (.eS false [])))))))) (.one ⟨(some 74),(.append 1 (.t 71) (.t 73)),none,237008022,[237008024]⟩ (.one ⟨(some 58),(.dY 3 (.t 56) (.t 57)),none,237008006,[237008021,237008022,237008024]⟩ (.one ⟨(some 59),(.gp 1 (.t 58)),none,237008007,[237008021,237008022,237008024]⟩ (.one ⟨(some 60),(.load false 1 (.t 59)),none,237008008,[237008021,237008022,237008024]⟩ (.one ⟨(some 75),(.dY 1 (.t 55) (.t 60)),none,237008023,[237008024]⟩ (.one ⟨none,(.store 1 (.t 75) (.t 74)),none,237008024,[]⟩ (.eS false []))))))))) (.both (.one ⟨(some 58),(.dY 3 (.t 56) (.t 57)),none,237008006,[237008021,237008022,237008024]⟩ (.one ⟨(some 59),(.gp 1 (.t 58)),none,237008007,[237008021,237008022,237008024]⟩ (.both (.one ⟨(some 55),(.load false 1 (.t 54)),none,237008003,[237008021,237008022,237008024]⟩ (.both (.one ⟨(some 60),(.load false 1 (.t 59)),none,237008008,[237008021,237008022,237008024]⟩ (.one ⟨(some 74),(.append 1 (.t 71) (.t 73)),none,237008022,[237008024]⟩ (.one ⟨(some 75),(.dY 1 (.t 55) (.t 60)),none,237008023,[237008024]⟩ (.one ⟨none,(.store 1 (.t 75) (.t 74)),none,237008024,[]⟩ (.eS false []))))) (.one ⟨(some 74),(.append 1 (.t 71) (.t 73)),none,237008022,[237008024]⟩ (.one ⟨(some 60),(.load false 1 (.t 59)),none,237008008,[237008021,237008022,237008024]⟩ (.one ⟨(some 75),(.dY 1 (.t 55) (.t 60)),none,237008023,[237008024]⟩ (.one ⟨none,(.store 1 (.t 75) (.t 74)),none,237008024,[]⟩ (.eS false []))))))) (.both (.one ⟨(some 60),(.load false 1 (.t 59)),none,237008008,[237008021,237008022,237008024]⟩ (.both (.one ⟨(some 55),(.load false 1 (.t 54)),none,237008003,[237008021,237008022,237008024]⟩ (.one ⟨(some 74),(.append 1 (.t 71) (.t 73)),none,237008022,[237008024]⟩ (.one ⟨(some 75),(.dY 1 (.t 55) (.t 60)),none,237008023,[237008024]⟩ (.one ⟨none,(.store 1 (.t 75) (.t 74)),none,237008024,[]⟩ (.eS false []))))) (.one ⟨(some 74),(.append 1 (.t 71) (.t 73)),none,237008022,[237008024]⟩ (.one ⟨(some 55),(.load false 1 (.t 54)),none,237008003,[237008021,237008022,237008024]⟩ (.one ⟨(some 75),(.dY 1 (.t 55) (.t 60)),none,237008023,[237008024]⟩ (.one ⟨none,(.store 1 (.t 75) (.t 74)),none,237008024,[]⟩ (.eS false []))))))) (.one ⟨(some 74),(.append 1 (.t 71) (.t 73)),none,237008022,[237008024]⟩ (.one ⟨(some 55),(.load false 1 (.t 54)),none,237008003,[237008021,237008022,237008024]⟩ (.one ⟨(some 60),(.load false 1 (.t 59)),none,237008008,[237008021,237008022,237008024]⟩ (.one ⟨(some 75),(.dY 1 (.t 55) (.t 60)),none,237008023,[237008024]⟩ (.one ⟨none,(.store 1 (.t 75) (.t 74)),none,237008024,[]⟩ (.eS false [])))))))))) (.one ⟨(some 74),(.append 1 (.t 71) (.t 73)),none,237008022,[237008024]⟩ (.one ⟨(some 55),(.load false 1 (.t 54)),none,237008003,[237008021,237008022,237008024]⟩ (.one ⟨(some 58),(.dY 3 (.t 56) (.t 57)),none,237008006,[237008021,237008022,237008024]⟩ (.one ⟨(some 59),(.gp 1 (.t 58)),none,237008007,[237008021,237008022,237008024]⟩ (.one ⟨(some 60),(.load false 1 (.t 59)),none,237008008,[237008021,237008022,237008024]⟩ (.one ⟨(some 75),(.dY 1 (.t 55) (.t 60)),none,237008023,[237008024]⟩ (.one ⟨none,(.store 1 (.t 75) (.t 74)),none,237008024,[]⟩ (.eS false [])))))))))))))))))))))))))))))) (.eS false [q 26 (.dz (.t 6)) 237006000,q 27 (.bin .add .i64 (.t 26) (.k (.int .i64 1))) 237006001,q 6 (.dz (.t 27)) 237006002])))))) (.seq (.eS false [q 76 (.dz (.t 5)) 237009000,q 4 (.dz (.t 76)) 237009001]) .ret)))))),[(.tmp 4)]⟩
theorem Pe:yz Tryz.prog 237 [(7,2),(8,2)]=some QU:=by kernel_rfl
def QV:BA:=⟨118,2,(.seq (.eS false [q 4 (.dz (.k .bD)) 240000000]) (.seq (.eS false [q 17 (.dz (.t 0)) 240001000,q 18 (.kg [.gT] (.t 17) (.t 17)) 240001001,q 5 (.dz (.t 18)) 240001002]) (.seq (.seq (.eS false [q 19 (.dz (.t 5)) 240002000,q 20 (.len (.t 19)) 240002001,q 21 (.dz (.k (.int .i64 0))) 240002002]) (.block 0 (.loop (.seq (.eS false [q 22 (.bin .lss .i64 (.t 21) (.t 20)) 240003000]) (.seq (.cond (.t 22) .skip (.exit 0)) (.seq (.block 1 (.seq (.eS false [q 23 (.dz (.t 21)) 240004000,q 6 (.dz (.t 23)) 240004001]) (.eS false [q 24 (.dz (.t 5)) 240005000,q 25 (.dz (.t 6)) 240005001,q 26 (.dz (.t 6)) 240005002,q 27 (.build [.gT,(.int .i64 0)] [(1,(1,(.t 26)))]) 240005003,q 28 (.box (.t 27)) 240005004,q 29 (.dY 1 (.t 24) (.t 25)) 240005005,⟨none,(.store 1 (.t 29) (.t 28)),none,240005006,[]⟩]))) (.eS false [q 30 (.bin .add .i64 (.t 21) (.k (.int .i64 1))) 240006000,q 21 (.dz (.t 30)) 240006001]))))))) (.seq (.seq (.eS false [q 31 (.dz (.t 1)) 240007000,q 32 (.len (.t 31)) 240007001,q 33 (.dz (.k (.int .i64 0))) 240007002]) (.block 2 (.loop (.seq (.eS false [q 34 (.bin .lss .i64 (.t 33) (.t 32)) 240008000]) (.seq (.cond (.t 34) .skip (.exit 2)) (.seq (.block 3 (.seq (.eS false [q 35 (.dY 3 (.t 31) (.t 33)) 240009000,q 36 (.load true 3 (.t 35)) 240009001,q 8 (.new [(.int .i64 0),(.int .i64 0),(.int .i64 0)]) 240009002,⟨none,(.store 3 (.t 8) (.t 36)),none,240009003,[]⟩]) (.seq (.one (q 37 (.dz (.t 5)) 240010000) (.one (q 38 (.gp 0 (.t 8)) 240010001) (.one (q 39 (.load false 1 (.t 38)) 240010002) (.one (q 40 (.dY 1 (.t 37) (.t 39)) 240010003) (.one (q 41 (.load false 1 (.t 40)) 240010004) (.one (q 43 (.dz (.t 5)) 240010006) (.one (q 44 (.gp 1 (.t 8)) 240010007) (.both (.one (q 42 (.call 262 [(.t 41)]) 240010005) (.one (q 45 (.load false 1 (.t 44)) 240010008) (.one (q 46 (.dY 1 (.t 43) (.t 45)) 240010009) (.one (q 47 (.load false 1 (.t 46)) 240010010) (.one (q 48 (.call 262 [(.t 47)]) 240010011) (.one (q 9 (.dz (.t 42)) 240010012) (.one (q 10 (.dz (.t 48)) 240010013) (.eS false [])))))))) (.one (q 45 (.load false 1 (.t 44)) 240010008) (.both (.one (q 42 (.call 262 [(.t 41)]) 240010005) (.one (q 46 (.dY 1 (.t 43) (.t 45)) 240010009) (.one (q 47 (.load false 1 (.t 46)) 240010010) (.one (q 48 (.call 262 [(.t 47)]) 240010011) (.one (q 9 (.dz (.t 42)) 240010012) (.one (q 10 (.dz (.t 48)) 240010013) (.eS false []))))))) (.one (q 46 (.dY 1 (.t 43) (.t 45)) 240010009) (.both (.one (q 42 (.call 262 [(.t 41)]) 240010005) (.one (q 47 (.load false 1 (.t 46)) 240010010) (.one (q 48 (.call 262 [(.t 47)]) 240010011) (.one (q 9 (.dz (.t 42)) 240010012) (.one (q 10 (.dz (.t 48)) 240010013) (.eS false [])))))) (.one (q 47 (.load false 1 (.t 46)) 240010010) (.one (q 42 (.call 262 [(.t 41)]) 240010005) (.one (q 48 (.call 262 [(.t 47)]) 240010011) (.one (q 9 (.dz (.t 42)) 240010012) (.one (q 10 (.dz (.t 48)) 240010013) (.eS false [])))))))))))))))))) (.block 4 (.seq (.eS true [q 50 (.dz (.t 9)) 240011000,q 51 (.BB (.t 50)) 240011001,q 52 (.gp 1 (.t 51)) 240011002,q 53 (.load false 1 (.t 52)) 240011003,q 54 (.dz (.t 10)) 240011004,q 55 (.BB (.t 54)) 240011005,q 56 (.gp 1 (.t 55)) 240011006,q 57 (.load false 1 (.t 56)) 240011007,q 58 (.bin .lss .i64 (.t 53) (.t 57)) 240011008,q 49 (.dz (.t 58)) 240011009]) (.cond (.t 49) (.eS false [q 59 (.dz (.t 10)) 240012000,q 60 (.dz (.t 9)) 240012001,q 61 (.BB (.t 59)) 240012002,q 62 (.gp 0 (.t 61)) 240012003,⟨none,(.store 1 (.t 62) (.t 60)),none,240012004,[]⟩]) (.seq (.eS true [q 64 (.dz (.t 10)) 240013000,q 65 (.BB (.t 64)) 240013001,q 66 (.gp 1 (.t 65)) 240013002,q 67 (.load false 1 (.t 66)) 240013003,q 68 (.dz (.t 9)) 240013004,q 69 (.BB (.t 68)) 240013005,q 70 (.gp 1 (.t 69)) 240013006,q 71 (.load false 1 (.t 70)) 240013007,q 72 (.bin .lss .i64 (.t 67) (.t 71)) 240013008,q 63 (.dz (.t 72)) 240013009]) (.cond (.t 63) (.eS false [q 73 (.dz (.t 9)) 240014000,q 74 (.dz (.t 10)) 240014001,q 75 (.BB (.t 73)) 240014002,q 76 (.gp 0 (.t 75)) 240014003,⟨none,(.store 1 (.t 76) (.t 74)),none,240014004,[]⟩]) .skip)))))))) (.eS false [q 77 (.bin .add .i64 (.t 33) (.k (.int .i64 1))) 240015000,q 33 (.dz (.t 77)) 240015001]))))))) (.seq (.eS false [q 11 (.dz (.k .bD)) 240016000]) (.seq (.eS false [⟨(some 78),(.mq (.new ⟨false,[.tI]⟩) []),none,240017000,[]⟩,q 12 (.dz (.t 78)) 240017001]) (.seq (.seq (.eS false [q 79 (.dz (.t 5)) 240018000,q 80 (.len (.t 79)) 240018001,q 81 (.dz (.k (.int .i64 0))) 240018002]) (.block 5 (.loop (.seq (.eS false [q 82 (.bin .lss .i64 (.t 81) (.t 80)) 240019000]) (.seq (.cond (.t 82) .skip (.exit 5)) (.seq (.block 6 (.seq (.eS false [q 83 (.dz (.t 81)) 240020000,q 84 (.dY 1 (.t 79) (.t 81)) 240020001,q 85 (.load false 1 (.t 84)) 240020002,q 13 (.dz (.t 83)) 240020003,q 14 (.dz (.t 85)) 240020004]) (.seq (.eS false [q 87 (.dz (.t 12)) 240021000,q 88 (.dz (.t 14)) 240021001,q 89 (.call 262 [(.t 88)]) 240021002,q 90 (.BB (.t 89)) 240021003,q 91 (.gp 1 (.t 90)) 240021004,q 92 (.load false 1 (.t 91)) 240021005,⟨(some 93),(.mq (.look ⟨false,[.tI]⟩ true (.int .i64 0)) [(.t 87),(.t 92)]),none,240021006,[]⟩,q 86 (.dz (.t 93)) 240021007,q 94 (.extract 0 (.t 86)) 240021008,q 95 (.extract 1 (.t 86)) 240021009,q 15 (.dz (.t 94)) 240021010,q 16 (.dz (.t 95)) 240021011]) (.seq (.seq (.eS false [q 96 (.dz (.t 16)) 240022000,q 97 (.not (.t 96)) 240022001]) (.cond (.t 97) (.seq (.eS false [q 98 (.dz (.t 11)) 240023000,q 99 (.len (.t 98)) 240023001,q 15 (.dz (.t 99)) 240023002]) (.seq (.eS false [q 100 (.dz (.t 12)) 240024000,q 101 (.dz (.t 13)) 240024001,q 102 (.dz (.t 15)) 240024002,⟨none,(.mw (.set ⟨false,[.tI]⟩) [(.t 100),(.t 101),(.t 102)]),none,240024003,[]⟩]) (.eS false [q 103 (.dz (.t 11)) 240025000,q 104 (.mc 1 1 [(.k .bD)]) 240025001,q 105 (.append 1 (.t 103) (.t 104)) 240025002,q 11 (.dz (.t 105)) 240025003]))) .skip)) (.eS false [q 106 (.dz (.t 11)) 240026000,q 107 (.dz (.t 15)) 240026001,q 108 (.dz (.t 11)) 240026002,q 109 (.dz (.t 15)) 240026003,q 110 (.dY 1 (.t 108) (.t 109)) 240026004,q 111 (.load false 1 (.t 110)) 240026005,q 112 (.dz (.t 13)) 240026006,q 113 (.mc 1 1 [(.t 112)]) 240026007,q 114 (.append 1 (.t 111) (.t 113)) 240026008,q 115 (.dY 1 (.t 106) (.t 107)) 240026009,⟨none,(.store 1 (.t 115) (.t 114)),none,240026010,[]⟩]))))) (.eS false [q 116 (.bin .add .i64 (.t 81) (.k (.int .i64 1))) 240027000,q 81 (.dz (.t 116)) 240027001]))))))) (.seq (.eS false [q 117 (.dz (.t 11)) 240028000,q 4 (.dz (.t 117)) 240028001]) .ret)))))))),[(.tmp 4)]⟩
theorem Pf:yz Tryz.prog 240 [(10,2)]=some QV:=by kernel_rfl
end Go.Proofs.YtgoelphibofcmaaGreat.V

namespace Go.Proofs.YtgoelphibofcmaaGreat.V
open Go.RowKit
attribute [local irreducible] dQ wpOps fX Call
attribute [local go_sem] aQ fM eU fY fW dm upd cG K.av cQ AV.cells AV.cell rowOf rowsOf part ld rowAt bQ cC dE ea gZ bS dh eo fV fj dB ef dd dc dS dU b4 bj cV bW cY cW ec eh ee cU ck de eb bV aU da cK gY bx cP cj bd dv bl dG AV.undef bH bK dW dZ dO dL cN ek eu cJ ej ei cZ db List.getD_cons_zero List.getD_cons_succ List.getD_nil List.all_cons List.all_nil Bool.and_true Bool.true_and Bool.and_self Bool.not_true Bool.not_false Option.map_some Option.map_none Option.bind_some Option.bind_none List.length_cons List.length_nil List.take_succ_cons List.take_zero List.take_nil List.drop_succ_cons List.drop_zero List.drop_nil List.head?_cons List.map_cons List.map_nil List.getElem?_cons_zero List.getElem?_cons_succ List.cons_append List.nil_append List.append_nil List.length_map List.set_cons_zero List.set_cons_succ Nat.reduceMul eq_self Int.toNat_natCast Int.natCast_nonneg and_self true_and and_true decide_true decide_false Bool.false_eq_true Nat.zero_add Nat.add_zero List.contains_cons List.contains_nil Bool.or_false Bool.false_or beq_self_eq_true Nat.reduceBEq ne_eq not_true_eq_false not_false_eq_true Id.mk.injEq false_and and_false Nat.reduceLT Int.reduceLE Int.reduceLT Int.reduceToNat Int.reduceNeg Int.reduceAdd Nat.le_refl List.length_append beq_true beq_false Bool.not_eq_eq_eq_not or_false false_or dX ae aj aJ bq bG cr aY bf aW bp cR bB
theorem Cq (x:fQ) (g:Rows):dt g 6 [.agg (cq x)]=some [.agg (cq x)]:=by simp[cq,ae,aj,bf,bG,aJ]
theorem Cr (x:fh) (g:Rows):dt g 6 [.agg (bJ x)]=some [.agg (bJ x)]:=by simp[bJ,ae,aj,bf,bG,cr]
theorem xc (x:ab) (g:Rows):dt g 6 [.agg (aa x)]=some [.agg (aa x)]:=by simp[aa,ae,aj,bf,aJ]
theorem iu {n:Nat} {l:Int} (h:(n:Int)<=l):ym n l=l-n:=if_pos h
theorem iD {n:Nat} {l:Int} (h:¬(n:Int)<=l):ym n l= -1:=if_neg h
def kR (t:fh):Nat:=t.aO.size+t.bL.length
def vm (s:ax):Nat:=(s.aB.length+(s.aB.map fun g=>g.aO.size).sum)+(s.ai.length+(s.ai.map kR).sum)
def qx (s:aw):Nat:=vm s.aI+s.bh.ai.length
def fm (s:ax):Prop:=(∀g∈s.aB,g.aO.size<=9223372036854775807)/\∀t∈s.ai,t.aO.size<=9223372036854775807
theorem Lx (g:fQ) (l:Int) (h0:0<=l) (h1:l<=1048576) (hs:g.aO.size<=9223372036854775807):aq Tryz.prog 154 [.agg (cq g),.int .i64 l] (.int .i64 (ym g.aO.size l)):=by
 refine aq.body eF rfl fun hl n0=>?_
 clear hl
 have hw:IntKind.i64.wrap (l-(g.aO.size:Int))=l-g.aO.size:=bI (by omega)
 by_cases hf:(g.aO.size:Int)<=l
 ·have jX:¬l-(g.aO.size:Int)<0:=by omega
  (try((repeat(revert hN;revert N;apply Pn.out));refine wk (tw @cq.eq_1 (tw @hw @jX)) ?_;(repeat(refine Pn.mk ?_;intro N hN))))
  exact dj (b:=l-(g.aO.size:Int)) (.inl rfl) (sd @Nat.zero_add) (iu hf).symm
 ·have jX:l-(g.aO.size:Int)<0:=by omega
  (try((repeat(revert hN;revert N;apply Pn.out));refine wk (tw @cq.eq_1 (tw @hw @jX)) ?_;(repeat(refine Pn.mk ?_;intro N hN))))
  exact dj (b:=-1) (.inl rfl) (sd @Nat.zero_add) (iD hf).symm
theorem Ly (xs:List Int) (l:Int) (h0:0<=l) (h1:l<=1048576):aq Tryz.prog 188 [.sl (xs.map az),.int .i64 l] (.int .i64 (ym xs.length l)):=by
 have h:=FQ (show lV Tryz.prog 188=some (GY 188) by kernel_rfl) (xs.map az) l h0 h1
 rwa [List.length_map]at h
theorem LC (t:fh) (l:Int) (h0:0<=l) (h1:l<=1048576) (hs:t.aO.size<=9223372036854775807):aq Tryz.prog 155 [.agg (bJ t),.int .i64 l] (.int .i64 (ym (kR t) l)):=by
 refine aq.body eF rfl fun hl n0=>?_
 clear hl
 have hw:IntKind.i64.wrap (l-(t.aO.size:Int))=l-t.aO.size:=bI (by omega)
 by_cases hf:(t.aO.size:Int)<=l
 ·have jX:¬l-(t.aO.size:Int)<0:=by omega
  have hc:=Ly t.bL (l-t.aO.size) (by omega) (by omega)
  by_cases hg:(t.bL.length:Int)<=l-t.aO.size
  ·rw[iu hg]at hc
   have BF:¬l-(t.aO.size:Int)-(t.bL.length:Int)<0:=by omega
   (repeat(first|((repeat(revert hN;revert N;apply Pn.out));refine wk (tw @bJ.eq_1 (tw @hw (tw @jX @BF))) ?_;(repeat(refine Pn.mk ?_;intro N hN)))|((try apply Or.inl);refine⟨_,aq.x (hc) (sd (tw @bJ.eq_1 (tw @hw (tw @jX @BF)))),?_⟩;refine hN _ _ ?_;clear hN N)))
   exact dj (b:=l-(t.aO.size:Int)-(t.bL.length:Int)) (.inl rfl) (sd @Nat.zero_add) (by rw[iu (by unfold kR;omega)];unfold kR;omega)
  ·rw[iD hg]at hc
   (repeat(first|((repeat(revert hN;revert N;apply Pn.out));refine wk (tw @bJ.eq_1 (tw @hw @jX)) ?_;(repeat(refine Pn.mk ?_;intro N hN)))|((try apply Or.inl);refine⟨_,aq.x (hc) (sd (tw @bJ.eq_1 (tw @hw @jX))),?_⟩;refine hN _ _ ?_;clear hN N)))
   exact dj (b:=-1) (.inl rfl) (sd @Nat.zero_add) (iD (by unfold kR;omega)).symm
 ·have jX:l-(t.aO.size:Int)<0:=by omega
  (try((repeat(revert hN;revert N;apply Pn.out));refine wk (tw @bJ.eq_1 (tw @hw @jX)) ?_;(repeat(refine Pn.mk ?_;intro N hN))))
  exact dj (b:=-1) (.inl rfl) (sd @Nat.zero_add) (iD (by unfold kR;omega)).symm
theorem IB (xs:List fQ) (l:Int) (h0:0<=l) (h1:l<=1048576) (hs:∀g∈xs,g.aO.size<=9223372036854775807):aq Tryz.prog 94 [.sl (xs.map cq),.int .i64 l] (.int .i64 (ym (xs.length+(xs.map fun g=>g.aO.size).sum) l)):=
 LB (fun g:fQ=>g.aO.size) (show lV Tryz.prog 94=some (Lz 94 154 2) by kernel_rfl) (fun _=>rfl) Cq xs l h0 h1 fun x hx l a b=>Lx x l a b (hs x hx)
theorem IC (xs:List fh) (l:Int) (h0:0<=l) (h1:l<=1048576) (hs:∀t∈xs,t.aO.size<=9223372036854775807):aq Tryz.prog 95 [.sl (xs.map bJ),.int .i64 l] (.int .i64 (ym (xs.length+(xs.map kR).sum) l)):=
 LB kR (show lV Tryz.prog 95=some (Lz 95 155 2) by kernel_rfl) (fun _=>rfl) Cr xs l h0 h1 fun x hx l a b=>LC x l a b (hs x hx)
theorem FP (xs:List ab) (l:Int) (h0:0<=l) (h1:l<=1048576):aq Tryz.prog 57 [.sl (xs.map aa),.int .i64 l] (.int .i64 (ym xs.length l)):=by
 have h:=FQ (show lV Tryz.prog 57=some (GY 57) by kernel_rfl) (xs.map aa) l h0 h1
 rwa [List.length_map]at h
theorem DD (s:ax) (l:Int) (h0:0<=l) (h1:l<=1048576) (hs:fm s):aq Tryz.prog 56 [.agg (ad s),.int .i64 l] (.int .i64 (ym (vm s) l)):=by
 refine aq.body eF rfl fun hl n0=>?_
 clear hl
 have ha:=IB s.aB l h0 h1 hs.1
 have he:vm s=(s.aB.length+(s.aB.map fun g=>g.aO.size).sum)+(s.ai.length+(s.ai.map kR).sum):=rfl
 by_cases hf:((s.aB.length+(s.aB.map fun g=>g.aO.size).sum:Nat):Int)<=l
 ·rw[iu hf]at ha
  obtain⟨A,hA⟩:∃A:Int,A=l-((s.aB.length+(s.aB.map fun g=>g.aO.size).sum:Nat):Int):=⟨_,rfl⟩
  rw[<-hA]at ha
  have jX:¬A<0:=by omega
  have hb:=IC s.ai A (by omega) (by omega) hs.2
  by_cases hg:((s.ai.length+(s.ai.map kR).sum:Nat):Int)<=A
  ·rw[iu hg]at hb
   obtain⟨B,hB⟩:∃B:Int,B=A-((s.ai.length+(s.ai.map kR).sum:Nat):Int):=⟨_,rfl⟩
   rw[<-hB]at hb
   have BF:¬B<0:=by omega
   (repeat(first|((repeat(revert hN;revert N;apply Pn.out));refine wk (tw @ad.eq_1 (tw @jX @BF)) ?_;(repeat(refine Pn.mk ?_;intro N hN)))|((try apply Or.inl);refine⟨_,aq.x (ha) (sd (tw @ad.eq_1 (tw @jX @BF))),?_⟩;refine hN _ _ ?_;clear hN N)|((try apply Or.inl);refine⟨_,aq.x (hb) (sd (tw @ad.eq_1 (tw @jX @BF))),?_⟩;refine hN _ _ ?_;clear hN N)))
   exact dj (b:=B) (.inl rfl) (sd @Nat.zero_add) (by rw[iu (by omega)];omega)
  ·rw[iD hg]at hb
   (repeat(first|((repeat(revert hN;revert N;apply Pn.out));refine wk (tw @ad.eq_1 @jX) ?_;(repeat(refine Pn.mk ?_;intro N hN)))|((try apply Or.inl);refine⟨_,aq.x (ha) (sd (tw @ad.eq_1 @jX)),?_⟩;refine hN _ _ ?_;clear hN N)|((try apply Or.inl);refine⟨_,aq.x (hb) (sd (tw @ad.eq_1 @jX)),?_⟩;refine hN _ _ ?_;clear hN N)))
   exact dj (b:=-1) (.inl rfl) (sd @Nat.zero_add) (iD (by omega)).symm
 ·rw[iD hf]at ha
  (repeat(first|((repeat(revert hN;revert N;apply Pn.out));refine wk @ad.eq_1 ?_;(repeat(refine Pn.mk ?_;intro N hN)))|((try apply Or.inl);refine⟨_,aq.x (ha) (sd @ad.eq_1),?_⟩;refine hN _ _ ?_;clear hN N)))
  exact dj (b:=-1) (.inl rfl) (sd @Nat.zero_add) (iD (by omega)).symm
theorem Bg (a:gF) (l:Int) (h0:0<=l) (h1:l<=1048576):aq Tryz.prog 15 [.agg (dP a),.int .i64 l] (.int .i64 (ym a.ai.length l)):=by
 refine aq.body eF rfl fun hl n0=>?_
 clear hl
 have ha:=FP a.ai l h0 h1
 by_cases hf:(a.ai.length:Int)<=l
 ·rw[iu hf]at ha
  have jX:¬l-(a.ai.length:Int)<0:=by omega
  (repeat(first|((repeat(revert hN;revert N;apply Pn.out));refine wk (tw @dP.eq_1 @jX) ?_;(repeat(refine Pn.mk ?_;intro N hN)))|((try apply Or.inl);refine⟨_,aq.x (ha) (sd (tw @dP.eq_1 @jX)),?_⟩;refine hN _ _ ?_;clear hN N)))
  exact dj (b:=l-(a.ai.length:Int)) (.inl rfl) (sd @Nat.zero_add) (iu hf).symm
 ·rw[iD hf]at ha
  (repeat(first|((repeat(revert hN;revert N;apply Pn.out));refine wk @dP.eq_1 ?_;(repeat(refine Pn.mk ?_;intro N hN)))|((try apply Or.inl);refine⟨_,aq.x (ha) (sd @dP.eq_1),?_⟩;refine hN _ _ ?_;clear hN N)))
  exact dj (b:=-1) (.inl rfl) (sd @Nat.zero_add) (iD hf).symm
theorem x7 (s:aw) (l:Int) (h0:0<=l) (h1:l<=1048576) (hs:fm s.aI):aq Tryz.prog 14 [.agg (ar s),.int .i64 l] (.int .i64 (ym (qx s) l)):=by
 refine aq.body eF rfl fun hl n0=>?_
 clear hl
 have ha:=DD s.aI l h0 h1 hs
 rw[ad]at ha
 have he:qx s=vm s.aI+s.bh.ai.length:=rfl
 by_cases hf:(vm s.aI:Int)<=l
 ·rw[iu hf]at ha
  have jX:¬l-(vm s.aI:Int)<0:=by omega
  have hb:=Bg s.bh (l-vm s.aI) (by omega) (by omega)
  rw[dP]at hb
  by_cases hg:(s.bh.ai.length:Int)<=l-vm s.aI
  ·rw[iu hg]at hb
   have BF:¬l-(vm s.aI:Int)-(s.bh.ai.length:Int)<0:=by omega
   (repeat(first|((repeat(revert hN;revert N;apply Pn.out));refine wk (tw @ar.eq_1 (tw @jX @BF)) ?_;(repeat(refine Pn.mk ?_;intro N hN)))|((try apply Or.inl);refine⟨_,aq.x (ha) (sd (tw @ar.eq_1 (tw @jX @BF))),?_⟩;refine hN _ _ ?_;clear hN N)|((try apply Or.inl);refine⟨_,aq.x (hb) (sd (tw @ar.eq_1 (tw @jX @BF))),?_⟩;refine hN _ _ ?_;clear hN N)))
   exact dj (b:=l-(vm s.aI:Int)-(s.bh.ai.length:Int)) (.inl rfl) (sd @Nat.zero_add) (by rw[iu (by omega)];omega)
  ·rw[iD hg]at hb
   (repeat(first|((repeat(revert hN;revert N;apply Pn.out));refine wk (tw @ar.eq_1 @jX) ?_;(repeat(refine Pn.mk ?_;intro N hN)))|((try apply Or.inl);refine⟨_,aq.x (ha) (sd (tw @ar.eq_1 @jX)),?_⟩;refine hN _ _ ?_;clear hN N)|((try apply Or.inl);refine⟨_,aq.x (hb) (sd (tw @ar.eq_1 @jX)),?_⟩;refine hN _ _ ?_;clear hN N)))
   exact dj (b:=-1) (.inl rfl) (sd @Nat.zero_add) (iD (by omega)).symm
 ·rw[iD hf]at ha
  (repeat(first|((repeat(revert hN;revert N;apply Pn.out));refine wk @ar.eq_1 ?_;(repeat(refine Pn.mk ?_;intro N hN)))|((try apply Or.inl);refine⟨_,aq.x (ha) (sd @ar.eq_1),?_⟩;refine hN _ _ ?_;clear hN N)))
  exact dj (b:=-1) (.inl rfl) (sd @Nat.zero_add) (iD (by omega)).symm
end Go.Proofs.YtgoelphibofcmaaGreat.V

namespace Go.Proofs.YtgoelphibofcmaaGreat.V
open Go.RowKit
attribute [local irreducible] dQ wpOps fX Call
attribute [local go_sem] aQ fM eU fY fW dm upd cG K.av cQ AV.cells AV.cell rowOf rowsOf part ld rowAt bQ cC dE ea gZ bS dh eo fV fj dB ef dd dc dS dU b4 bj cV bW cY cW ec eh ee cU ck de eb bV aU da cK gY bx cP cj bd dv bl dG AV.undef bH bK dW dZ dO dL cN ek eu cJ ej ei cZ db List.getD_cons_zero List.getD_cons_succ List.getD_nil List.all_cons List.all_nil Bool.and_true Bool.true_and Bool.and_self Bool.not_true Bool.not_false Option.map_some Option.map_none Option.bind_some Option.bind_none List.length_cons List.length_nil List.take_succ_cons List.take_zero List.take_nil List.drop_succ_cons List.drop_zero List.drop_nil List.head?_cons List.map_cons List.map_nil List.getElem?_cons_zero List.getElem?_cons_succ List.cons_append List.nil_append List.append_nil List.length_map List.set_cons_zero List.set_cons_succ Nat.reduceMul eq_self Int.toNat_natCast Int.natCast_nonneg and_self true_and and_true decide_true decide_false Bool.false_eq_true Nat.zero_add Nat.add_zero List.contains_cons List.contains_nil Bool.or_false Bool.false_or beq_self_eq_true Nat.reduceBEq ne_eq not_true_eq_false not_false_eq_true Id.mk.injEq false_and and_false Nat.reduceLT Int.reduceLE Int.reduceLT Int.reduceToNat Int.reduceNeg Int.reduceAdd Nat.le_refl List.length_append beq_true beq_false Bool.not_eq_eq_eq_not or_false false_or dX ae aj aJ bq bG cr aY bf aW bp cR bB
theorem NJ (x:fQ) (g:Rows):dt g 5 (cq x)=some (cq x):=by simp[cq,ae,aj,bG,aJ]
theorem NK (x:fh) (g:Rows):dt g 5 (bJ x)=some (bJ x):=by simp[bJ,ae,aj,bG,cr]
theorem zR (x:ab) (g:Rows):dt g 5 (aa x)=some (aa x):=by simp[aa,ae,aj,aJ]
theorem qm (p:aM):iM Tryz.prog 82 [.agg (ah p)] (.agg (ah p)):=by
 refine iM.body eF rfl fun hl σ=>?_
 clear hl
 (try((repeat(revert hN;revert N;apply Pn.out));refine wk @ah.eq_1 ?_;(repeat(refine Pn.mk ?_;intro N hN))))
 exact rP (.inl rfl) (vs:=[.agg (ah p)]) (by simp only[go_sem, ↓reduceIte,Nat.reduceEqDiff,Nat.reduceAdd,Nat.reduceSub,Nat.reduceLeDiff,reduceCtorEq,fG,iG,ah]) (by simp[eW,ah,bf,ae,aj,aJ])
theorem FW (p:ab):iM Tryz.prog 104 [.agg (aa p)] (.agg (aa p)):=by
 refine iM.body eF rfl fun hl σ=>?_
 clear hl
 have h:=qm p.aL
 rw[ah]at h
 (repeat(first|((repeat(revert hN;revert N;apply Pn.out));refine wk @aa.eq_1 ?_;(repeat(refine Pn.mk ?_;intro N hN)))|((try apply Or.inl);refine⟨_,iM.x (h) _,?_⟩;refine hN _ _ ?_;clear hN N)))
 exact rP (.inl rfl) (vs:=[.agg (aa p)]) (by simp only[go_sem, ↓reduceIte,Nat.reduceEqDiff,Nat.reduceAdd,Nat.reduceSub,Nat.reduceLeDiff,reduceCtorEq,fG,iG,aa]) (by simp[eW,aa,bf,ae,aj,aJ])
theorem LJ (p:fQ):iM Tryz.prog 161 [.agg (cq p)] (.agg (cq p)):=by
 refine iM.body eF rfl fun hl σ=>?_
 clear hl
 (try((repeat(revert hN;revert N;apply Pn.out));refine wk @cq.eq_1 ?_;(repeat(refine Pn.mk ?_;intro N hN))))
 exact rP (.inl rfl) (vs:=[.agg (cq p)]) (by simp only[go_sem, ↓reduceIte,Nat.reduceEqDiff,Nat.reduceAdd,Nat.reduceSub,Nat.reduceLeDiff,reduceCtorEq,fG,iG,cq]) (by simp[eW,cq,bf,ae,aj,aJ,bG])
theorem LL (xs:List Int) (h:xs.length<=1048576):iM Tryz.prog 195 [.sl (xs.map az)] (.sl (xs.map az)):=
 TI (show lV Tryz.prog 195=some (LM 195 (.int .i64 0)) by kernel_rfl) xs h
def tn (t:fh):Prop:=t.bL.length<=1048576
theorem LO (p:fh) (hs:tn p):iM Tryz.prog 162 [.agg (bJ p)] (.agg (bJ p)):=by
 refine iM.body eF rfl fun hl σ=>?_
 clear hl
 have h:=LL p.bL hs
 (repeat(first|((repeat(revert hN;revert N;apply Pn.out));refine wk @bJ.eq_1 ?_;(repeat(refine Pn.mk ?_;intro N hN)))|((try apply Or.inl);refine⟨_,iM.x (h) _,?_⟩;refine hN _ _ ?_;clear hN N)))
 exact rP (.inl rfl) (vs:=[.agg (bJ p)]) (by simp only[go_sem, ↓reduceIte,Nat.reduceEqDiff,Nat.reduceAdd,Nat.reduceSub,Nat.reduceLeDiff,reduceCtorEq,fG,iG,bJ]) (by simp[eW,bJ,bf,ae,aj,cr,bG])
theorem Cf (xs ys:List Int):aq Tryz.prog 30 [.sl (xs.map az),.sl (ys.map az)] (.bool (decide (xs=ys))):=
 Sb (show lV Tryz.prog 30=some (Ob 30 .tI) by kernel_rfl) xs ys
theorem JN (a b:fh):aq Tryz.prog 170 [.agg (bJ a),.agg (bJ b)] (.bool (decide (a=b))):=by
 refine aq.body eF rfl fun hl n0=>?_
 clear hl
 have h:=Cf a.bL b.bL
 by_cases h1:a.aO=b.aO
 ·have e1:decide (a.aO=b.aO)=true:=decide_eq_true h1
  by_cases h2:a.bL=b.bL
  ·rw[decide_eq_true h2]at h
   (repeat(first|((repeat(revert hN;revert N;apply Pn.out));refine wk (tw @bJ.eq_1 @e1) ?_;(repeat(refine Pn.mk ?_;intro N hN)))|((try apply Or.inl);refine⟨_,aq.x (h) (sd (tw @bJ.eq_1 @e1)),?_⟩;refine hN _ _ ?_;clear hN N)))
   exact bc (b:=true) (.inl rfl) (sd @Nat.zero_add) (decide_eq_true (by cases a;cases b;simp_all)).symm
  ·rw[decide_eq_false h2]at h
   (repeat(first|((repeat(revert hN;revert N;apply Pn.out));refine wk (tw @bJ.eq_1 @e1) ?_;(repeat(refine Pn.mk ?_;intro N hN)))|((try apply Or.inl);refine⟨_,aq.x (h) (sd (tw @bJ.eq_1 @e1)),?_⟩;refine hN _ _ ?_;clear hN N)))
   exact bc (b:=false) (.inl rfl) (sd @Nat.zero_add) (decide_eq_false (by rintro rfl;exact h2 rfl)).symm
 ·have e1:decide (a.aO=b.aO)=false:=decide_eq_false h1
  (try((repeat(revert hN;revert N;apply Pn.out));refine wk (tw @bJ.eq_1 @e1) ?_;(repeat(refine Pn.mk ?_;intro N hN))))
  exact bc (b:=false) (.inl rfl) (sd @Nat.zero_add) (decide_eq_false (by rintro rfl;exact h1 rfl)).symm
theorem IH (xs:List fQ) (h:xs.length<=1048576):iM Tryz.prog 102 [.sl (xs.map cq)] (.sl (xs.map cq)):=
 Bm (show lV Tryz.prog 102=some (qI 102 161 2 [.str [],.int .i64 0]) by kernel_rfl) rfl (fun _=>rfl) (fun _=>rfl) NJ xs h fun x _=>LJ x
theorem IJ (xs:List fh) (h:xs.length<=1048576) (hs:∀t∈xs,tn t):iM Tryz.prog 103 [.sl (xs.map bJ)] (.sl (xs.map bJ)):=
 Bm (show lV Tryz.prog 103=some (qI 103 162 2 [.str [],.bD]) by kernel_rfl) rfl (fun _=>rfl) (fun _=>rfl) NK xs h fun x hx=>LO x (hs x hx)
theorem DI (xs:List ab) (h:xs.length<=1048576):iM Tryz.prog 62 [.sl (xs.map aa)] (.sl (xs.map aa)):=
 Bm (show lV Tryz.prog 62=some (qI 62 104 3 [.int .i64 0,.int .i64 0,.int .i64 0]) by kernel_rfl) rfl (fun _=>rfl) (fun _=>rfl) zR xs h fun x _=>FW x
structure Jm (s:ax):Prop where
 g:s.aB.length<=1048576
 t:s.ai.length<=1048576
 s:∀t∈s.ai,tn t
structure mK (y:aw):Prop where
 s:Jm y.aI
 a:y.bh.ai.length<=1048576
theorem DK (p:ax) (hs:Jm p):iM Tryz.prog 61 [.agg (ad p)] (.agg (ad p)):=by
 refine iM.body eF rfl fun hl σ=>?_
 clear hl
 have h1:=IH p.aB hs.g
 have h2:=IJ p.ai hs.t hs.s
 (repeat(first|((repeat(revert hN;revert N;apply Pn.out));refine wk @ad.eq_1 ?_;(repeat(refine Pn.mk ?_;intro N hN)))|((try apply Or.inl);refine⟨_,iM.x (h1) _,?_⟩;refine hN _ _ ?_;clear hN N)|((try apply Or.inl);refine⟨_,iM.x (h2) _,?_⟩;refine hN _ _ ?_;clear hN N)))
 exact rP (.inl rfl) (vs:=[.agg (ad p)]) (by simp only[go_sem, ↓reduceIte,Nat.reduceEqDiff,Nat.reduceAdd,Nat.reduceSub,Nat.reduceLeDiff,reduceCtorEq,fG,iG,ad]) (by simp[eW,ad,bf,ae,aj,cr])
theorem Bl (p:gF) (hs:p.ai.length<=1048576):iM Tryz.prog 18 [.agg (dP p)] (.agg (dP p)):=by
 refine iM.body eF rfl fun hl σ=>?_
 clear hl
 have h1:=DI p.ai hs
 (repeat(first|((repeat(revert hN;revert N;apply Pn.out));refine wk @dP.eq_1 ?_;(repeat(refine Pn.mk ?_;intro N hN)))|((try apply Or.inl);refine⟨_,iM.x (h1) _,?_⟩;refine hN _ _ ?_;clear hN N)))
 exact rP (.inl rfl) (vs:=[.agg (dP p)]) (by simp only[go_sem, ↓reduceIte,Nat.reduceEqDiff,Nat.reduceAdd,Nat.reduceSub,Nat.reduceLeDiff,reduceCtorEq,fG,iG,dP]) (by simp[eW,dP,bf,ae,aj,cr])
theorem yd (p:aw) (hs:mK p):iM Tryz.prog 17 [.agg (ar p)] (.agg (ar p)):=by
 refine iM.body eF rfl fun hl σ=>?_
 clear hl
 have h1:=DK p.aI hs.s
 have h2:=Bl p.bh hs.a
 rw[ad]at h1
 rw[dP]at h2
 (repeat(first|((repeat(revert hN;revert N;apply Pn.out));refine wk @ar.eq_1 ?_;(repeat(refine Pn.mk ?_;intro N hN)))|((try apply Or.inl);refine⟨_,iM.x (h1) _,?_⟩;refine hN _ _ ?_;clear hN N)|((try apply Or.inl);refine⟨_,iM.x (h2) _,?_⟩;refine hN _ _ ?_;clear hN N)))
 exact rP (.inl rfl) (vs:=[.agg (ar p)]) (by simp only[go_sem, ↓reduceIte,Nat.reduceEqDiff,Nat.reduceAdd,Nat.reduceSub,Nat.reduceLeDiff,reduceCtorEq,fG,iG,ar]) (by simp[eW,ar,bf,ae,aj,cr,aJ])
theorem JM (a b:fQ):aq Tryz.prog 169 [.agg (cq a),.agg (cq b)] (.bool (decide (a=b))):=by
 refine aq.body eF rfl fun hl n0=>?_
 clear hl
 by_cases h1:a.aO=b.aO
 ·have e1:decide (a.aO=b.aO)=true:=decide_eq_true h1
  by_cases h2:a.eK=b.eK
  ·have e2:decide (a.eK=b.eK)=true:=decide_eq_true h2
   (try((repeat(revert hN;revert N;apply Pn.out));refine wk (tw @cq.eq_1 (tw @e1 @e2)) ?_;(repeat(refine Pn.mk ?_;intro N hN))))
   exact bc (b:=true) (.inl rfl) (sd @Nat.zero_add) (decide_eq_true (by cases a;cases b;simp_all)).symm
  ·have e2:decide (a.eK=b.eK)=false:=decide_eq_false h2
   (try((repeat(revert hN;revert N;apply Pn.out));refine wk (tw @cq.eq_1 (tw @e1 @e2)) ?_;(repeat(refine Pn.mk ?_;intro N hN))))
   exact bc (b:=false) (.inl rfl) (sd @Nat.zero_add) (decide_eq_false (by rintro rfl;exact h2 rfl)).symm
 ·have e1:decide (a.aO=b.aO)=false:=decide_eq_false h1
  (try((repeat(revert hN;revert N;apply Pn.out));refine wk (tw @cq.eq_1 @e1) ?_;(repeat(refine Pn.mk ?_;intro N hN))))
  exact bc (b:=false) (.inl rfl) (sd @Nat.zero_add) (decide_eq_false (by rintro rfl;exact h1 rfl)).symm
theorem ze (a b:aM):aq Tryz.prog 29 [.agg (ah a),.agg (ah b)] (.bool (decide (a=b))):=by
 refine aq.body eF rfl fun hl n0=>?_
 clear hl
 by_cases h1:a.fc=b.fc
 ·have e1:decide (a.fc=b.fc)=true:=decide_eq_true h1
  by_cases h2:a.eR=b.eR
  ·have e2:decide (a.eR=b.eR)=true:=decide_eq_true h2
   (try((repeat(revert hN;revert N;apply Pn.out));refine wk (tw @ah.eq_1 (tw @e1 @e2)) ?_;(repeat(refine Pn.mk ?_;intro N hN))))
   exact bc (b:=true) (.inl rfl) (sd @Nat.zero_add) (decide_eq_true (by cases a;cases b;simp_all)).symm
  ·have e2:decide (a.eR=b.eR)=false:=decide_eq_false h2
   (try((repeat(revert hN;revert N;apply Pn.out));refine wk (tw @ah.eq_1 (tw @e1 @e2)) ?_;(repeat(refine Pn.mk ?_;intro N hN))))
   exact bc (b:=false) (.inl rfl) (sd @Nat.zero_add) (decide_eq_false (by rintro rfl;exact h2 rfl)).symm
 ·have e1:decide (a.fc=b.fc)=false:=decide_eq_false h1
  (try((repeat(revert hN;revert N;apply Pn.out));refine wk (tw @ah.eq_1 @e1) ?_;(repeat(refine Pn.mk ?_;intro N hN))))
  exact bc (b:=false) (.inl rfl) (sd @Nat.zero_add) (decide_eq_false (by rintro rfl;exact h1 rfl)).symm
theorem Eu (a b:ab):aq Tryz.prog 110 [.agg (aa a),.agg (aa b)] (.bool (decide (a=b))):=by
 refine aq.body eF rfl fun hl n0=>?_
 clear hl
 have h:=ze a.aL b.aL
 rw[ah,ah]at h
 by_cases h1:a.aL=b.aL
 ·rw[decide_eq_true h1]at h
  by_cases h2:a.aT=b.aT
  ·have e2:decide (a.aT=b.aT)=true:=decide_eq_true h2
   (repeat(first|((repeat(revert hN;revert N;apply Pn.out));refine wk (tw @aa.eq_1 @e2) ?_;(repeat(refine Pn.mk ?_;intro N hN)))|((try apply Or.inl);refine⟨_,aq.x (h) (sd (tw @aa.eq_1 @e2)),?_⟩;refine hN _ _ ?_;clear hN N)))
   exact bc (b:=true) (.inl rfl) (sd @Nat.zero_add) (decide_eq_true (by cases a;cases b;simp_all)).symm
  ·have e2:decide (a.aT=b.aT)=false:=decide_eq_false h2
   (repeat(first|((repeat(revert hN;revert N;apply Pn.out));refine wk (tw @aa.eq_1 @e2) ?_;(repeat(refine Pn.mk ?_;intro N hN)))|((try apply Or.inl);refine⟨_,aq.x (h) (sd (tw @aa.eq_1 @e2)),?_⟩;refine hN _ _ ?_;clear hN N)))
   exact bc (b:=false) (.inl rfl) (sd @Nat.zero_add) (decide_eq_false (by rintro rfl;exact h2 rfl)).symm
 ·rw[decide_eq_false h1]at h
  (repeat(first|((repeat(revert hN;revert N;apply Pn.out));refine wk @aa.eq_1 ?_;(repeat(refine Pn.mk ?_;intro N hN)))|((try apply Or.inl);refine⟨_,aq.x (h) (sd @aa.eq_1),?_⟩;refine hN _ _ ?_;clear hN N)))
  exact bc (b:=false) (.inl rfl) (sd @Nat.zero_add) (decide_eq_false (by rintro rfl;exact h1 rfl)).symm
theorem Hs (xs ys:List fQ):aq Tryz.prog 108 [.sl (xs.map cq),.sl (ys.map cq)] (.bool (decide (xs=ys))):=
 Ar (show lV Tryz.prog 108=some (Cj 108 169 2) by kernel_rfl) (fun _=>rfl) Cq xs ys JM
theorem Ht (xs ys:List fh):aq Tryz.prog 109 [.sl (xs.map bJ),.sl (ys.map bJ)] (.bool (decide (xs=ys))):=
 Ar (show lV Tryz.prog 109=some (Cj 109 170 2) by kernel_rfl) (fun _=>rfl) Cr xs ys JN
theorem Ci (xs ys:List ab):aq Tryz.prog 66 [.sl (xs.map aa),.sl (ys.map aa)] (.bool (decide (xs=ys))):=
 Ar (show lV Tryz.prog 66=some (Cj 66 110 3) by kernel_rfl) (fun _=>rfl) xc xs ys Eu
theorem wW (a:aw):aq Tryz.prog 20 [.agg (ar a),.agg (ar a)] (.bool true):=by
 have q1:aq Tryz.prog 65 [.agg (ad a.aI),.agg (ad a.aI)] (.bool true):=by
  refine aq.body eF rfl fun hl n0=>?_
  clear hl
  have h1:=Hs a.aI.aB a.aI.aB
  have h2:=Ht a.aI.ai a.aI.ai
  rw[decide_eq_true rfl]at h1 h2
  (repeat(first|((repeat(revert hN;revert N;apply Pn.out));refine wk @ad.eq_1 ?_;(repeat(refine Pn.mk ?_;intro N hN)))|((try apply Or.inl);refine⟨_,aq.x (h1) (sd @ad.eq_1),?_⟩;refine hN _ _ ?_;clear hN N)|((try apply Or.inl);refine⟨_,aq.x (h2) (sd @ad.eq_1),?_⟩;refine hN _ _ ?_;clear hN N)))
  exact bc (b:=true) (.inl rfl) (sd @Nat.zero_add) rfl
 have q2:aq Tryz.prog 21 [.agg (dP a.bh),.agg (dP a.bh)] (.bool true):=by
  refine aq.body eF rfl fun hl n0=>?_
  clear hl
  have h1:=Ci a.bh.ai a.bh.ai
  rw[decide_eq_true rfl]at h1
  (repeat(first|((repeat(revert hN;revert N;apply Pn.out));refine wk @dP.eq_1 ?_;(repeat(refine Pn.mk ?_;intro N hN)))|((try apply Or.inl);refine⟨_,aq.x (h1) (sd @dP.eq_1),?_⟩;refine hN _ _ ?_;clear hN N)))
  exact bc (b:=true) (.inl rfl) (sd @Nat.zero_add) rfl
 rw[ad]at q1
 rw[dP]at q2
 refine aq.body eF rfl fun hl n0=>?_
 clear hl
 have e:decide (a.ay=a.ay)=true:=decide_eq_true rfl
 (repeat(first|((repeat(revert hN;revert N;apply Pn.out));refine wk (tw @ar.eq_1 @e) ?_;(repeat(refine Pn.mk ?_;intro N hN)))|((try apply Or.inl);refine⟨_,aq.x (q1) (sd (tw @ar.eq_1 @e)),?_⟩;refine hN _ _ ?_;clear hN N)|((try apply Or.inl);refine⟨_,aq.x (q2) (sd (tw @ar.eq_1 @e)),?_⟩;refine hN _ _ ?_;clear hN N)))
 exact bc (b:=true) (.inl rfl) (sd @Nat.zero_add) rfl
end Go.Proofs.YtgoelphibofcmaaGreat.V

namespace Go.Proofs.YtgoelphibofcmaaGreat.V
open Go.RowKit
def isApp:gN->Bool
 | .append .. =>true
 |_=>false
variable {P:Program} {X:fZ} {K:Env->au->Prop} {env:Env} {σ:au}
theorem OU {draw:Bool} {o:br} {r:List br} (_:isApp o.op=false) (h:∀N:AV->au->Prop,(∀v s,wpOps X draw r K (upd env o.dst v) s->N v s)->if aQ o.guard env then fM X draw o env σ N else N .undef σ):wpOps X draw (o::r) K env σ:=QZ h
end Go.Proofs.YtgoelphibofcmaaGreat.V

namespace Go.Proofs.YtgoelphibofcmaaGreat.V
open Go.RowKit
section
variable {α:Type} {enc:α->List AV} {sz:Nat} {g g':Rows} {a:AV} {xs:List α} {ids:List Id}
end
abbrev DP (α:Type):=Rows->List AV->α->List Id->Prop
structure yn {α:Type} (R:DP α) (sz:Nat):Prop where
 frame:∀{g g':Rows} {cs x ids},R g cs x ids->(∀i∈ids,g' i=g i)->R g' cs x ids
 len:∀{g cs x ids},R g cs x ids->cs.length=sz
 cell:∀{g cs x ids},R g cs x ids->cs.all AV.cell=true
 live:∀{g cs x ids},R g cs x ids->∀i∈ids,∃r,g i=some r/\r.w=true/\r.sz<sE
 small:sz<sE
inductive eQ {α:Type} (R:DP α) (g:Rows):List (List AV)->List α->List Id->Prop
 |nil:eQ R g [] [] []
 |cons {cs x i1 rs xs i2}:R g cs x i1->eQ R g rs xs i2->eQ R g (cs::rs) (x::xs) (i1++i2)
section
variable {α:Type} {R:DP α} {sz:Nat} {g g':Rows} {rows r1 r2:List (List AV)} {xs x1 x2:List α} {ids i1 i2:List Id}
theorem eQ.len (h:eQ R g rows xs ids):rows.length=xs.length:=by
 induction h with
 |nil=>rfl
 |cons _ _ ih=>simp[ih]
theorem eQ.frame (ok:yn R sz) (h:eQ R g rows xs ids) (hf:∀i∈ids,g' i=g i):eQ R g' rows xs ids:=by
 induction h with
 |nil=>exact .nil
 |cons h1 _ ih=>exact .cons (ok.frame h1 fun i hi=>hf i (List.mem_append_left _ hi)) (ih fun i hi=>hf i (List.mem_append_right _ hi))
theorem eQ.app (h1:eQ R g r1 x1 i1) (h2:eQ R g r2 x2 i2):eQ R g (r1++r2) (x1++x2) (i1++i2):=by
 induction h1 with
 |nil=>exact h2
 |cons h _ ih=>rw[List.append_assoc];exact .cons h ih
theorem eQ.one {cs:List AV} {x:α} (h:R g cs x ids):eQ R g [cs] [x] ids:=by
 have:=eQ.cons h eQ.nil
 rwa [List.append_nil]at this
theorem eQ.split (h:eQ R g rows xs ids):∀k (hk:k<xs.length),∃r1 cs r2 i1 ic i2,rows=r1++cs::r2/\r1.length=k/\ids=i1++(ic++i2)/\eQ R g r1 (xs.take k) i1/\R g cs xs[k] ic/\eQ R g r2 (xs.drop (k+1)) i2:=by
 induction h with
 |nil=>intro k hk;simp at hk
 |cons h1 h2 ih=>
  rename_i cs x j1 rs xs j2
  intro k hk
  cases k with
  |zero=>exact⟨[],cs,rs,[],j1,j2,rfl,rfl,rfl,.nil,h1,h2⟩
  |succ k=>
   obtain⟨r1,qp,r2,i1,ic,i2,rfl,hl,rfl,h3,h4,h5⟩:=ih k (by simpa using hk)
   exact⟨cs::r1,qp,r2,j1++i1,ic,i2,rfl,by simp[hl],by rw[List.append_assoc],.cons h1 h3,h4,h5⟩
theorem eQ.at_ (h:eQ R g rows xs ids) (k:Nat) (hk:k<xs.length):∃cs ic,rows[k]? =some cs/\R g cs xs[k] ic/\∀i∈ic,i∈ids:=by
 obtain⟨r1,cs,r2,i1,ic,i2,rfl,hl,rfl,h3,h4,h5⟩:=h.split k hk
 refine⟨cs,ic,by rw[List.getElem?_append_right (by omega)];simp[hl],h4,fun i hi=>by simp[hi]⟩
theorem eQ.fz {n:Nat} {e:α->List AV} (h:eQ R g rows xs ids) (hz:∀{cs x ids},R g cs x ids->dt (dX g) n cs=some (e x)):eH (dX g) n rows=some (xs.map e):=by
 induction h with
 |nil=>rw[eH];rfl
 |cons h1 _ ih=>rw[eH,hz h1,ih];rfl
end
section
variable {α:Type} {R:DP α} {sz:Nat} {g g':Rows} {a:AV} {xs:List α} {ids:List Id}
end
end Go.Proofs.YtgoelphibofcmaaGreat.V
