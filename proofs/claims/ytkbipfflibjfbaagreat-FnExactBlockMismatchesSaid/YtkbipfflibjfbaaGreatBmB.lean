/- One operation, calls among them. -/
import Derived.Test.YtkbipfflibjfbaaGreatBmA
import Derived.Orders
import Derived.Conc.LoneCalls
import Derived.WalkKit
import Derived.WalkSpells
import Derived.WalkLawsBesides
import Derived.Lib.Hide
import Derived.Deep.QuietTactic
import Derived.BigQuiet
import Derived.StillTailTactics
import Derived.Deep.RegionWith
import Derived.Deep.RegionHeld3
import Derived.Deep.LoopGhost
import Derived.Deep.CutRange
import Derived.Deep.DeepCutAuto
import Derived.Test.YtkbipfflibjfbaaGreatChecked
set_option linter.unusedVariables false
set_option linter.unusedSimpArgs false
set_option maxRecDepth 100000
set_option maxHeartbeats 16000000
namespace Go.Proofs.YtkbipfflibjfbaaGreat.V
open Go.RowKit
variable {P:Program} {w w':World} {D D' D2:Nat->Prop} {ι ι' ι2:Names}
def Sound (P:Program):fm:=fun f args σ K=>∀(hs:Nat) (D:Nat->Prop) (ι:Names) (w:World) (vs:Array Value),gK P hs D ι σ.get w->Used ι σ.next (fun _=>False)->fc P w D ι args vs->
 Calls P f vs w fun e w'=>∃r g' n' D' ι' u,e=.returned u/\K r ⟨g',n'⟩/\Step hs D ι w D' ι' w'/\gK P hs D' ι' g' w'/\Used ι' n' (fun _=>False)/\σ.next<=n'/\cN P w' D' ι' r u
section
variable {g:Rows} {hs:Nat} {env:Env} {a:Act} {o:Oper} {id:Id} {v:AV}
theorem gK.ro (S:gK P hs D ι g w):gK P w.heap.size D ι (ro g) w:=by
 refine⟨Nat.le_refl _,S.dead,fun id r h=>?_,fun id kS r r' B B' h h' hw=>?_⟩
 ·unfold V.ro at h
  simp only[Option.map_eq_some_iff]at h
  obtain⟨r0,h0,rfl⟩:=h
  obtain⟨B,hB,R,_,_⟩:=S.row id r0 h0
  exact⟨B,hB,R.flag false,fun h=>by simp at h,fun h=>by simp at h⟩
 ·unfold V.ro at h
  simp only[Option.map_eq_some_iff]at h
  obtain⟨r0,h0,rfl⟩:=h
  simp at hw
theorem Bn {g0:Rows} {f:Nat} {args:List AV} {n:Nat} {K:AV->Prop} {vs:Array Value} (h:PC (Sound P) f args ⟨g0,n⟩ K) (pg:∀id r,g0 id=some r->g id=some r) (S:gK P hs D ι g w) (U:Used ι n (fun _=>False)) (A:fc P w D ι args vs):
  Calls P f vs w fun e w'=>∃r D' u,e=.returned u/\K r/\Step hs D ι w D' ι w'/\gK P hs D' ι g w'/\cN P w' D' ι r u:=by
 refine(h w.heap.size D ι w vs (S.sub pg).ro U A).mono ?_
 rintro e w' ⟨r0,g',n',D1,ι1,u,rfl,⟨r,hr,hK⟩,T,S1,_,_,hR⟩
 have hb:∀b,b<w.heap.size->w'.heap[b]? =w.heap[b]? :=T.below.block
 have hz:=T.below.size
 have q:=rY (D2:=fun b=>D b∨(w.heap.size<=b/\b<w'.heap.size)) (ι2:=ι) (fun b hd=>by
  rcases T.new b hd with h|h
  ·exact .inl h
  ·exact .inr ⟨h,S1.dead b hd⟩) (fun id row hg hw=>by
  obtain⟨B,hB,R,h1,_⟩:=S1.row id row hg
  exact⟨B,hB,R,.inr ⟨h1 hw,R.lt⟩⟩) 6 r0 u r hR hr
 refine⟨r,_,u,rfl,hK,?_,?_,q.1⟩
 ·exact Step.stay S hb hz T.below.os T.below.tape T.below.output (fun _ h=>.inl h) (fun b h=>by rcases h with h|h;exact .inl h;exact .inr h.1) (fun _ _ h=>h)
 ·exact S.stay hb hz (fun _ h=>.inl h) (fun b h=>by rcases h with h|h;exact Nat.lt_of_lt_of_le (S.dead b h) hz;exact h.2) (fun b h=>by rcases h with h|h;exact .inl h;exact .inr h.1) (fun _ _ h=>h)
theorem yu {g0:Rows} {f:Nat} {args:List AV} {n:Nat} {K:AV->Prop} {vs:Array Value} (h:PCv (Sound P) f args ⟨g0,n⟩ K) (pg:∀id r,g0 id=some r->g id=some r) (S:gK P hs D ι g w) (U:Used ι n (fun _=>False)) (A:fc P w D ι args vs):
  Calls P f vs w fun e w'=>∃r D' u,e=.returned u/\K r/\Step hs D ι w D' ι w'/\gK P hs D' ι g w'/\cN P w' D' ι r u:=by
 obtain⟨fx,ha,h⟩:=h
 let D1:Nat->Prop:=fun b=>D b∨∃id r B,g id=some r/\ι id=some B/\b=B.b
 have lt:∀id r B,g id=some r->ι id=some B->B.b<w.heap.size:=fun id r B h1 h2=>by
  obtain⟨B',dG,R,_⟩:=S.row id r h1
  rw[h2]at dG;injection dG with dG;subst dG
  exact R.lt
 have S0:gK P w.heap.size D1 ι (fun _=>none) w:=⟨Nat.le_refl _,fun b hb=>by
  rcases hb with hb|⟨id,r,B,h1,h2,rfl⟩
  ·exact S.dead b hb
  ·exact lt id r B h1 h2,fun id r h=>(by cases h),fun id kS r r' B B' h=>(by cases h)⟩
 obtain⟨l1,l2⟩:=gO ha
 have A':fc P w D1 ι fx vs:=⟨by rw[A.1,l1],fun j a hj=>by
  obtain⟨a0,lT,hf⟩:=l2 j a hj
  obtain⟨u,hu,hr⟩:=A.2 j a0 lT
  refine⟨u,hu,(rY (D2:=D1) (ι2:=ι) (fun b h=>.inl h) (fun id row hg hw=>?_) 6 a0 u a hr hf).1⟩
  unfold dM at hg
  simp only[Option.map_eq_some_iff]at hg
  obtain⟨r,oz,rfl⟩:=hg
  obtain⟨B,hB,R,_,_⟩:=S.row id r (pg id r oz)
  exact⟨B,hB,R.flag true,.inr ⟨id,r,B,pg id r oz,hB,rfl⟩⟩⟩
 refine(h w.heap.size D1 ι w vs S0 U A').mono ?_
 rintro e w' ⟨r0,g',n',D2,ι1,u,rfl,⟨r,hr,hK⟩,T,S1,_,_,hR⟩
 have hb:∀b,b<w.heap.size->w'.heap[b]? =w.heap[b]? :=T.below.block
 have hz:=T.below.size
 have q:=yV (D2:=fun b=>D b∨(w.heap.size<=b/\b<w'.heap.size)) (ι2:=ι) (fun id row hg hw=>by
  obtain⟨B,hB,R,h1,_⟩:=S1.row id row hg
  exact⟨B,hB,R,.inr ⟨h1 hw,R.lt⟩⟩) 6 r0 u r hR hr
 refine⟨r,_,u,rfl,hK,?_,?_,q.1⟩
 ·exact Step.stay S hb hz T.below.os T.below.tape T.below.output (fun _ h=>.inl h) (fun b h=>by rcases h with h|h;exact .inl h;exact .inr h.1) (fun _ _ h=>h)
 ·exact S.stay hb hz (fun _ h=>.inl h) (fun b h=>by rcases h with h|h;exact Nat.lt_of_lt_of_le (S.dead b h) hz;exact h.2) (fun b h=>by rcases h with h|h;exact .inl h;exact .inr h.1) (fun _ _ h=>h)
theorem Gw {g0:Rows} {f:Nat} {args:List AV} {n:Nat} {K:AV->Prop} {vs:Array Value} (h:gN (Sound P) f args ⟨g0,n⟩ K) (pg:∀id r,g0 id=some r->g id=some r) (S:gK P hs D ι g w) (U:Used ι n (fun _=>False)) (A:fc P w D ι args vs):
  Calls P f vs w fun e w'=>∃r D' u,e=.returned u/\K r/\Step hs D ι w D' ι w'/\gK P hs D' ι g w'/\cN P w' D' ι r u:=by
 rcases h with h|h
 ·exact Bn h pg S U A
 ·exact yu h pg S U A
theorem HL {D1 D2:Nat->Prop} {ι1 ι2:Names} {w1:World} {a:AV} {v:Value} (hp:a.plain=true) (h:cN P w D1 ι1 a v):cN P w1 D2 ι2 a v:=by
 cases h with
 |eO a v h=>cases h<;>first|(simp[AV.plain]at hp;done)|exact .eO _ _ (by constructor)
 |_=>simp[AV.plain]at hp
theorem gK.add {r:Row} {B:sU} (S:gK P hs D ι g w) (S':gK P hs D ι g w') (hf:ι id=none) (kJ:w.heap.size<=B.b) (R:iR P w' D (kX ι id B) B r):gK P hs D (kX ι id B) (bU g id r) w':=by
 have lt:∀kS r' B',g kS=some r'->ι kS=some B'->B'.b<w.heap.size:=fun kS r' B' h1 h2=>by
  obtain⟨B2,mv,R2,_⟩:=S.row kS r' h1
  rw[h2]at mv;injection mv with mv;subst mv
  exact R2.lt
 have ne:∀kS r',g kS=some r'->kS≠id:=fun kS r' h he=>by
  subst he
  obtain⟨B2,mv,_⟩:=S.row _ r' h
  rw[hf]at mv;cases mv
 refine⟨S'.lo,S'.dead,fun kS r' h=>?_,fun Tg id2 r1 r2 B1 B2 h1 h2 hw qj mv hb=>?_⟩
 ·unfold bU at h
  split at h
  ·rename_i he
   subst he
   injection h with h;subst h
   exact⟨B,eL _ _ _,R,fun _=>Nat.le_trans S.lo kJ,fun _ hd=>Nat.lt_irrefl _ (Nat.lt_of_lt_of_le (S.dead _ hd) kJ)⟩
  ·obtain⟨B',dG,R',k1,k2⟩:=S'.row kS r' h
   exact⟨B',by rw[gE (ne _ _ h)];exact dG,R'.frame rfl (fun a v hr=>hr.frame (fun _ _=>rfl) (fun _ h=>h) (ga hf)),k1,k2⟩
 ·unfold bU at h1 h2
  split at h1
  ·rename_i e1
   split at h2
   ·rename_i e2;rw[e1,e2]
   ·exfalso
    subst e1
    rw[eL]at qj;injection qj with qj;subst qj
    rw[gE (ne _ _ h2)]at mv
    have:=lt _ _ _ h2 mv
    omega
  ·rw[gE (ne _ _ h1)]at qj
   split at h2
   ·rename_i e2
    exfalso
    subst e2
    rw[eL]at mv;injection mv with mv;subst mv
    have:=lt _ _ _ h1 qj
    omega
   ·rw[gE (ne _ _ h2)]at mv
    exact S'.inj Tg id2 r1 r2 B1 B2 h1 h2 hw qj mv hb
theorem Iv {g0:Rows} {f:Nat} {args:List AV} {n sz:Nat} {rows:List (List AV)} {vs:Array Value} (h:CM (Sound P) f args ⟨g0,n⟩ sz rows) (pg:∀id r,g0 id=some r->g id=some r) (S:gK P hs D ι g w) (U:Used ι n (fun _=>False)) (A:fc P w D ι args vs) (hf:ι id=none):
  Calls P f vs w fun e w'=>∃u B,e=.returned u/\Step hs D ι w D (kX ι id B) w'/\gK P hs D (kX ι id B) (bU g id ⟨true,sz,rows⟩) w'/\cN P w' D (kX ι id B) (.own id 0 rows.length) u:=by
 obtain⟨nk,fx,ha,h⟩:=h
 let D1:Nat->Prop:=fun b=>D b∨∃id r B,g id=some r/\ι id=some B/\b=B.b
 have lt:∀id r B,g id=some r->ι id=some B->B.b<w.heap.size:=fun id r B h1 h2=>by
  obtain⟨B',dG,R,_⟩:=S.row id r h1
  rw[h2]at dG;injection dG with dG;subst dG
  exact R.lt
 have S0:gK P w.heap.size D1 ι (fun _=>none) w:=⟨Nat.le_refl _,fun b hb=>by
  rcases hb with hb|⟨id,r,B,h1,h2,rfl⟩
  ·exact S.dead b hb
  ·exact lt id r B h1 h2,fun id r h=>(by cases h),fun id kS r r' B B' h=>(by cases h)⟩
 obtain⟨l1,l2⟩:=gO ha
 have A':fc P w D1 ι fx vs:=⟨by rw[A.1,l1],fun j a hj=>by
  obtain⟨a0,lT,hz⟩:=l2 j a hj
  obtain⟨u,hu,hr⟩:=A.2 j a0 lT
  refine⟨u,hu,(rY (D2:=D1) (ι2:=ι) (fun b h=>.inl h) (fun id row hg hw=>?_) 6 a0 u a hr hz).1⟩
  unfold dM at hg
  simp only[Option.map_eq_some_iff]at hg
  obtain⟨r,oz,rfl⟩:=hg
  obtain⟨B,hB,R,_,_⟩:=S.row id r (pg id r oz)
  exact⟨B,hB,R.flag true,.inr ⟨id,r,B,pg id r oz,hB,rfl⟩⟩⟩
 refine(h w.heap.size D1 ι w vs S0 U A').mono ?_
 rintro e w' ⟨r0,g',n',D2,ι1,u,rfl,⟨i0,hr,hg⟩,T,S1,_,_,hR⟩
 subst hr
 have hb:∀b,b<w.heap.size->w'.heap[b]? =w.heap[b]? :=T.below.block
 have hz:=T.below.size
 obtain⟨B,hB,R,k1,_⟩:=S1.row i0 _ hg
 have kJ:w.heap.size<=B.b:=k1 rfl
 obtain⟨o,cap,B',rfl,dG,q2,q3,q4,q5,hk⟩:=jx hR
 rw[hB]at dG;injection dG with dG;subst dG
 replace R:=R.row hk
 have S':gK P hs D ι g w':=S.stay hb hz (fun _ h=>h) (fun b h=>Nat.lt_of_lt_of_le (S.dead b h) hz) (fun b h=>.inl h) (fun _ _ h=>h)
 have R':lx P w' D (kX ι id B) B ⟨true,sz,rows⟩:=⟨R.sz,R.yD,R.fits,R.len,R.flat,fun i j cs a hi hj=>by
  obtain⟨v,h1,h2⟩:=R.at_ i j cs a hi hj
  exact⟨v,h1,HL (nk cs (List.mem_of_getElem? hi) a (List.mem_of_getElem? hj)) h2⟩⟩
 exact⟨_,B,rfl,Step.stay S hb hz T.below.os T.below.tape T.below.output (fun _ h=>h) (fun _ h=>.inl h) (ga hf),S.add S' hf kJ (R'.obj hk),.own id 0 _ _ _ B (eL _ _ _) hk q2 q3 q4 q5⟩
theorem j3 {f:Nat} {args:Array Value} (hc:fY P f=true):(callFunc f args).run P w=.ok (.enter f args) w:=by
 unfold fY at hc
 split at hc
 ·rename_i fn hf
  simp only[Bool.and_eq_true,Bool.not_eq_true']at hc
  have hb:fn.body.isNone=false:=by cases hq:fn.body<;>simp_all
  simp only[callFunc,Sem.run_bind,run_program,Result.andThen_ok,hf,hc.2,Bool.false_eq_true,if_false,hb]
  rfl
 ·simp at hc
theorem Cr {f:Nat} {args:List O} (hc:qO P o.op=some (.call f args)):∃c,o.op=.call c/\c.callee=.value (.func f)/\fY P f=true/\c.args.toList.mapM (cO P)=some args:=by
 unfold qO at hc
 split at hc
 case h_23=>
  rename_i c ho
  refine⟨c,ho,?_⟩
  unfold ou at hc
  split at hc
  all_goals (try(repeat' (split at hc))<;>(simp only[Option.bind_eq_bind,Option.bind_eq_some_iff,Option.pure_def,Option.some.injEq,Option.map_eq_some_iff,reduceCtorEq,and_false,exists_false]at hc))
  all_goals simp_all
 all_goals (try unfold vN at hc)<;>(try unfold sZ at hc)<;>(repeat' (split at hc))<;>(simp only[Option.bind_eq_bind,Option.bind_eq_some_iff,Option.pure_def,Option.some.injEq,Option.map_eq_some_iff,reduceCtorEq,and_false,exists_false]at hc)
theorem tu {x:O} {args:List O} (hc:qO P o.op=some (.tV x args)):∃c t,o.op=.call c/\c.callee=.value (.tmp t)/\x=.t t/\c.args.toList.mapM (cO P)=some args:=by
 unfold qO at hc
 split at hc
 case h_23=>
  rename_i c ho
  refine⟨c,?_⟩
  unfold ou at hc
  split at hc
  all_goals (try(repeat' (split at hc))<;>(simp only[Option.bind_eq_bind,Option.bind_eq_some_iff,Option.pure_def,Option.some.injEq,Option.map_eq_some_iff,reduceCtorEq,and_false,exists_false]at hc))
  all_goals simp_all
 all_goals (try unfold vN at hc)<;>(try unfold sZ at hc)<;>(repeat' (split at hc))<;>(simp only[Option.bind_eq_bind,Option.bind_eq_some_iff,Option.pure_def,Option.some.injEq,Option.map_eq_some_iff,reduceCtorEq,and_false,exists_false]at hc)
theorem Hl {n:Nat} {x y:O} (hc:qO P o.op=some (.store n x y)):∃t x' y',o.op=.store t x' y'/\eG P t=some n/\cO P x'=some x/\cO P y'=some y:=by
 unfold qO at hc
 split at hc
 case h_7=>
  rename_i t x' y' ho
  refine⟨t,x',y',ho,?_⟩
  simp only[Option.bind_eq_bind,Option.bind_eq_some_iff,Option.pure_def,Option.some.injEq]at hc
  obtain⟨n',h1,x2,h2,y2,h3,he⟩:=hc
  injection he with e1 e2 e3
  subst e1;subst e2;subst e3
  exact⟨h1,h2,h3⟩
 all_goals (try unfold vN at hc)<;>(try unfold sZ at hc)<;>(try unfold ou at hc)<;>(repeat' (split at hc))<;>(simp only[Option.bind_eq_bind,Option.bind_eq_some_iff,Option.pure_def,Option.some.injEq,Option.map_eq_some_iff,reduceCtorEq,and_false,exists_false]at hc)
theorem EH {n:Nat} {x y:O} (hc:qO P o.op=some (.append n x y)):∃(t e:TypeId) (m:Nat) (z:List K) (i:TypeInfo) (x' y':Operand),n=m+1/\o.op=.call {callee:=.builtin .append,args:= #[x',y'],argTypes:= #[t,t]}/\
  P.underlying t=some (.slice e)/\eG P e=some (m+1)/\kd P e=some z/\P.info? e=some i/\i.bytes<=32768/\cO P x'=some x/\cO P y'=some y:=by
 unfold qO at hc
 split at hc
 case h_23=>
  rename_i c ho
  unfold ou at hc
  split at hc
  case h_2=>
   rename_i lh
   split at hc
   ·rename_i x' y' t u h1 h2
    split at hc
    ·rename_i e ht
     split at hc
     ·rename_i m z i e1 e2 e3
      split at hc
      ·rename_i hb
       simp only[Option.bind_eq_bind,Option.bind_eq_some_iff,Option.pure_def,Option.some.injEq]at hc
       obtain⟨x2,h3,y2,h4,he⟩:=hc
       injection he with k1 k2 k3
       subst k1;subst k2;subst k3
       obtain⟨Ln,rfl⟩:=hb
       refine⟨t,e,m,z,i,x',y',rfl,?_,ht,e1,e2,e3,Ln,h3,h4⟩
       rw[ho]
       obtain⟨ca,cb,cc⟩:=c
       simp only at h1 h2 lh
       subst lh
       congr
       ·exact Array.ext' h1
       ·exact Array.ext' h2
      ·simp at hc
     ·simp at hc
    ·simp at hc
   ·simp at hc
  all_goals (repeat' (split at hc))<;>(simp only[Option.bind_eq_bind,Option.bind_eq_some_iff,Option.pure_def,Option.some.injEq,Option.map_eq_some_iff,reduceCtorEq,and_false,exists_false]at hc)
 all_goals (try unfold vN at hc)<;>(try unfold sZ at hc)<;>(repeat' (split at hc))<;>(simp only[Option.bind_eq_bind,Option.bind_eq_some_iff,Option.pure_def,Option.some.injEq,Option.map_eq_some_iff,reduceCtorEq,and_false,exists_false]at hc)
theorem JV {n:Nat} {x y:O} (hc:qO P o.op=some (.copy n x y)):∃(t t2 e:TypeId) (m:Nat) (x' y':Operand),n=m+1/\o.op=.call {callee:=.builtin .copy,args:= #[x',y'],argTypes:= #[t,t2]}/\
  P.underlying t=some (.slice e)/\eG P e=some (m+1)/\cO P x'=some x/\cO P y'=some y:=by
 unfold qO at hc
 split at hc
 case h_23=>
  rename_i c ho
  unfold ou at hc
  split at hc
  case h_7=>
   rename_i lh
   split at hc
   ·rename_i x' y' t t2 h1 h2
    split at hc
    ·rename_i e ht
     split at hc
     ·rename_i m e1
      simp only[Option.bind_eq_bind,Option.bind_eq_some_iff,Option.pure_def,Option.some.injEq,gL.copy.injEq]at hc
      obtain⟨x2,h3,y2,h4,k0,k1,k2⟩:=hc
      subst k1;subst k2
      refine⟨t,t2,e,m,x',y',k0.symm,?_,ht,e1,h3,h4⟩
      rw[ho]
      obtain⟨ca,cb,cc⟩:=c
      simp only at h1 h2 lh
      subst lh
      congr
      ·exact Array.ext' h1
      ·exact Array.ext' h2
     ·simp at hc
    ·simp at hc
   ·simp at hc
  all_goals (repeat' (split at hc))<;>(simp only[Option.bind_eq_bind,Option.bind_eq_some_iff,Option.pure_def,Option.some.injEq,Option.map_eq_some_iff,reduceCtorEq,and_false,exists_false]at hc)
 all_goals (try unfold vN at hc)<;>(try unfold sZ at hc)<;>(repeat' (split at hc))<;>(simp only[Option.bind_eq_bind,Option.bind_eq_some_iff,Option.pure_def,Option.some.injEq,Option.map_eq_some_iff,reduceCtorEq,and_false,exists_false]at hc)
theorem Hk {z:List K} {x:O} (hc:qO P o.op=some (.clear z x)):∃(t e:TypeId) (m:Nat) (x':Operand),o.op=.call {callee:=.builtin .clear,args:= #[x'],argTypes:= #[t]}/\
  P.underlying t=some (.slice e)/\eG P e=some (m+1)/\kd P e=some z/\cO P x'=some x:=by
 unfold qO at hc
 split at hc
 case h_23=>
  rename_i c ho
  unfold ou at hc
  split at hc
  case h_3=>
   rename_i lh
   split at hc
   ·rename_i x' t h1 h2
    split at hc
    ·rename_i e ht
     split at hc
     ·rename_i m z' e1 e2
      simp only[Option.map_eq_some_iff]at hc
      obtain⟨x2,h3,he⟩:=hc
      injection he with k1 k2
      subst k1;subst k2
      refine⟨t,e,m,x',?_,ht,e1,e2,h3⟩
      rw[ho]
      obtain⟨ca,cb,cc⟩:=c
      simp only at h1 h2 lh
      subst lh
      congr
      ·exact Array.ext' h1
      ·exact Array.ext' h2
     ·simp at hc
    ·simp at hc
   ·simp at hc
  all_goals (repeat' (split at hc))<;>(simp only[Option.bind_eq_bind,Option.bind_eq_some_iff,Option.pure_def,Option.some.injEq,Option.map_eq_some_iff,reduceCtorEq,and_false,exists_false]at hc)
 all_goals (try unfold vN at hc)<;>(try unfold sZ at hc)<;>(repeat' (split at hc))<;>(simp only[Option.bind_eq_bind,Option.bind_eq_some_iff,Option.pure_def,Option.some.injEq,Option.map_eq_some_iff,reduceCtorEq,and_false,exists_false]at hc)
theorem P9 {q:MW} {xs:List O} (hc:qO P o.op=some (.mw q xs)):
  (∃t x k y m z x' k' y',(o.op=.mapUpdate t x k y∨o.op=.insert t x k y)/\s4 P t=some (m,z)/\cO P x=some x'/\cO P k=some k'/\cO P y=some y'/\q=.set m/\xs=[x',k',y'])∨
  (∃t t' x k m z x' k',o.op=.call {callee:=.builtin .delete,args:= #[x,k],argTypes:= #[t,t']}/\s4 P t=some (m,z)/\cO P x=some x'/\cO P k=some k'/\q=.del m/\xs=[x',k']):=by
 unfold qO at hc
 split at hc
 case h_23=>
  rename_i c ho
  right
  unfold ou at hc
  split at hc
  case h_6=>
   rename_i lh
   split at hc
   ·rename_i x k t t' h1 h2
    split at hc
    ·rename_i m z x' k' e1 e2 e3
     injection hc with hc
     injection hc with q1 q2
     refine⟨t,t',x,k,m,z,x',k',?_,e1,e2,e3,q1.symm,q2.symm⟩
     rw[ho]
     obtain⟨ca,cb,cc⟩:=c
     simp only at h1 h2 lh
     subst lh
     congr
     ·exact Array.ext' h1
     ·exact Array.ext' h2
    ·cases hc
   ·cases hc
  all_goals (repeat' (split at hc))<;>(simp only[Option.bind_eq_bind,Option.bind_eq_some_iff,Option.pure_def,Option.some.injEq,Option.map_eq_some_iff,reduceCtorEq,and_false,exists_false]at hc)
 case h_29=>
  rename_i t x k y ho
  left
  split at hc
  ·rename_i m z x' k' y' e1 e2 e3 e4
   injection hc with hc
   injection hc with q1 q2
   exact⟨t,x,k,y,m,z,x',k',y',.inl ho,e1,e2,e3,e4,q1.symm,q2.symm⟩
  ·cases hc
 case h_30=>
  rename_i t x k y ho
  left
  split at hc
  ·rename_i m z x' k' y' e1 e2 e3 e4
   injection hc with hc
   injection hc with q1 q2
   exact⟨t,x,k,y,m,z,x',k',y',.inr ho,e1,e2,e3,e4,q1.symm,q2.symm⟩
  ·cases hc
 all_goals (try unfold vN at hc)<;>(try unfold sZ at hc)<;>(repeat' (split at hc))<;>(simp only[Option.bind_eq_bind,Option.bind_eq_some_iff,Option.pure_def,Option.some.injEq,Option.map_eq_some_iff,reduceCtorEq,and_false,exists_false]at hc)
def jm (g:Rows) (id:Id):Option Row->Rows
 |some r=>bU g id r
 |none=>g
def vP (X:fm) (hid:List Nat) (site n:Nat) (f:Nat) (args:List AV) (g:Rows) (v:AV) (g':Rows):Prop:=
 (gN X f args ⟨gh hid n g,n+1⟩ (fun r=>r=v)/\g'=g)∨
 (hid.contains site=true/\∃sz rows,CM X f args ⟨gh hid n g,n+1⟩ sz rows/\v=.own ⟨site,n⟩ 0 rows.length/\g'=bU g ⟨site,n⟩ ⟨true,sz,rows⟩)
def VS (X:fm) (n:Nat) (vo:bh) (env:Env) (g:Rows) (v:AV) (g':Rows):Prop:=
 match vo.op with
 | .call f args=>vP X vo.hid vo.site n f (args.map (dh env)) g v g'
 | .tV x args=>∃f l,vO (dh env x) (args.map (dh env))=some (f,l)/\vP X vo.hid vo.site n f l g v g'
 | .store .. | .append .. | .copy .. | .clear .. | .mw .. =>fZ vo.op (dh env) g ⟨vo.site,n⟩=some (v,g')
 |_=>∃mr,eW vo.op (dh env) (gh vo.hid n g) ⟨vo.site,n⟩=some (v,mr)/\g'=jm g ⟨vo.site,n⟩ mr
def NL (P:Program) (hs:Nat) (D:Nat->Prop) (ι:Names) (w:World) (U:Nat->Prop) (site n:Nat) (a:Act) (dst:Option Tmp) (v:AV) (g':Rows) (a':Act) (w':World):Prop:=
 ∃u D' ι',a'=a.put dst u/\Step hs D ι w D' ι' w'/\gK P hs D' ι' g' w'/\cN P w' D' ι' v u/\Used ι' n (fun s=>U s∨s=site)
theorem fresh {n:Nat} {U:Nat->Prop} {s:Nat} (h:Used ι n U) (hU:¬U s):ι ⟨s,n⟩=none:=by
 cases hq:ι ⟨s,n⟩with
 |none=>rfl
 |some B=>
  rcases h ⟨s,n⟩ (by rw[hq];simp)with h|⟨_,h⟩
  ·exact absurd h (Nat.lt_irrefl _)
  ·exact absurd h hU
theorem Used.more {n:Nat} {U U':Nat->Prop} (h:Used ι n U) (hU:∀s,U s->U' s):Used ι n U':=fun id hid=>by
 rcases h id hid with h|⟨h1,h2⟩
 ·exact .inl h
 ·exact .inr ⟨h1,hU _ h2⟩
theorem Used.next {n:Nat} {U:Nat->Prop} (h:Used ι n U):Used ι (n+1) (fun _=>False):=fun id hid=>by
 rcases h id hid with h|⟨h1,_⟩
 ·exact .inl (Nat.lt_succ_of_lt h)
 ·exact .inl ae
theorem Used.upd {n:Nat} {U:Nat->Prop} {s:Nat} {B:sU} (h:Used ι n U):Used (kX ι ⟨s,n⟩ B) n (fun x=>U x∨x=s):=fun id hid=>by
 by_cases he:id=⟨s,n⟩
 ·subst he;exact .inr ⟨rfl,.inr rfl⟩
 ·rw[gE he]at hid
  exact(h.more (U':=fun x=>U x∨x=s) fun _ h=>Or.inl h) id hid
theorem oX {xs:Array Operand} {ys:List O} (E:cE P w D ι env a) (h:xs.toList.mapM (cO P)=some ys):fc P w D ι (ys.map (dh env)) (xs.map a.eval):=by
 obtain⟨h1,h2⟩:=E4 E h
 refine⟨by simpa using h1,fun j b hj=>?_⟩
 simp only[List.getElem?_map,Option.map_eq_some_iff]at hj
 obtain⟨y,hy,rfl⟩:=hj
 have dO:j<xs.size:=by have:=(List.getElem?_eq_some_iff.1 hy).1;simp at h1;omega
 refine⟨a.eval xs[j],by simp[dO],?_⟩
 have:=h2 j y hy
 simpa[List.getD_eq_getElem?_getD,dO]using this
theorem pB {xs ys:List AV} {vs us:Array Value} (h:fc P w D ι xs vs) (k:fc P w D ι ys us):fc P w D ι (xs++ys) (vs++us):=
 ⟨by simp[h.1,k.1],fun j b hj=>by
  by_cases dO:j<xs.length
  ·rw[List.getElem?_append_left dO]at hj
   obtain⟨u,hu,xX⟩:=h.2 j b hj
   exact⟨u,by rw[Array.getElem?_append_left (by rw[h.1];exact dO)];exact hu,xX⟩
  ·rw[List.getElem?_append_right ae]at hj
   obtain⟨u,hu,xX⟩:=k.2 _ b hj
   exact⟨u,by rw[Array.getElem?_append_right (by rw[h.1];omega),h.1];exact hu,xX⟩⟩
theorem kq:fc P w D ι [] #[]:=⟨rfl,fun j b hj=>by simp at hj⟩
theorem vQ {x:AV} {l l':List AV} {f:Nat} {vs:Array Value} {v:Value} (h:vO x l=some (f,l')) (hr:cN P w D ι x v) (hA:fc P w D ι l vs):
  ∃first dp,v=.func (.func f) first dp/\fY P f=true/\fc P w D ι l' (first++vs++dp):=by
 unfold vO at h
 split at h
 ·simp only[Option.some.injEq,Prod.mk.injEq]at h
  obtain⟨rfl,rfl⟩:=h
  obtain⟨us,q,he,FV,n1,q1,q2⟩:=w7 hr
  refine⟨#[],us,he,FV,?_⟩
  rw[Array.empty_append]
  exact pB hA ⟨n1,fun j b hj=>⟨q j,q1 j (List.getElem?_eq_some_iff.1 hj).1,q2 j b hj⟩⟩
 ·simp only[Option.some.injEq,Prod.mk.injEq]at h
  obtain⟨rfl,rfl⟩:=h
  obtain⟨us,q,he,FV,n1,q1,q2⟩:=Nn hr
  refine⟨us, #[],he,FV,?_⟩
  rw[Array.append_empty]
  exact pB ⟨n1,fun j b hj=>⟨q j,q1 j (List.getElem?_eq_some_iff.1 hj).1,q2 j b hj⟩⟩ hA
 ·cases h
theorem Bt {n:Nat} {vo:bh} {g':Rows} {U:Nat->Prop} {Q:Exit->Act->World->Prop} {K:Act->World->Prop} (hc:qO P o.op=some vo.op) (hv:VS (Sound P) n vo env g v g') (S:gK P hs D ι g w) (Us:Used ι n U) (hU:¬U vo.site) (E:cE P w D ι env a)
  (hK:∀a' w',NL P hs D ι w U vo.site n a o.dst v g' a' w'->K a' w'):o.wp P a w K Q:=by
 have hf:=fresh Us hU
 have BG:∀(f:Nat) (args:List AV) (vs:Array Value),vP (Sound P) vo.hid vo.site n f args g v g'->fc P w D ι args vs->(execOp a.eval o).run P w=.ok (.enter f vs) w->o.wp P a w K Q:=by
  intro f args vs hP hA jf
  unfold Oper.wp
  rw[jf]
  rcases hP with⟨hP,rfl⟩|⟨_,sz,rows,hM,rfl,rfl⟩
  ·refine(Gw hP AZ S Us.next hA).mono ?_
   rintro e w' ⟨r,D',u,rfl,rfl,T,S',hR⟩
   exact hK _ _ ⟨u,D',ι,rfl,T,S',hR,Us.more fun _ h=>.inl h⟩
  ·refine(Iv hM AZ S Us.next hA hf).mono ?_
   rintro e w' ⟨u,B,rfl,T,S',hR⟩
   exact hK _ _ ⟨u,D,_,rfl,T,S',hR,Us.upd⟩
 have quiet:∀(mr:Option Row),eW vo.op (dh env) (gh vo.hid n g) ⟨vo.site,n⟩=some (v,mr)->g'=jm g ⟨vo.site,n⟩ mr->o.wp P a w K Q:=by
  intro mr hq hg
  have hqs:=zr hc hq (S.sub AZ) E
  unfold Oper.wp
  cases mr with
  |none=>
   obtain⟨u,jf,hR⟩:=hqs
   rw[jf]
   subst hg
   exact hK _ _ ⟨u,D,ι,rfl,Step.refl _ _ _ _,S,hR,Us.more fun _ h=>.inl h⟩
  |some r=>
   rcases hqs with⟨u,cells,T,jf,h1,h2,h3,h4,h5,h6⟩|⟨m,jf,JO,Ip⟩|⟨c,jf,JO,Ip⟩
   case inr.inr=>
    rw[jf]
    subst hg JO Ip
    have fy:w.heap.size<(w.alloc (.chan c #[] false 0 0 false)).heap.size:=by simp
    have S':=S.stay (w':=w.alloc (.chan c #[] false 0 0 false)) (D':=D) (ι':=ι) (fun k hk=>Below.heap_alloc _ _ _ hk) (by simp) (fun _ h=>h) (fun b hd=>Nat.lt_trans (S.dead b hd) fy) (fun _ h=>.inl h) (fun _ _ h=>h)
    have S1:=S.add S' (id:=⟨vo.site,n⟩) (B:=⟨w.heap.size,rW+c,0,some (.chan c)⟩) (r:=⟨true,rW+c,[]⟩) hf (Nat.le_refl _) ⟨rfl,fun cs h=>by simp at h,fun h=>by simp at h,fun m' h=>(by simp at h),fun c' h=>by
     simp only[Option.some.injEq,BK.chan.injEq]at h;subst h
     exact⟨rfl, #[],0,0,(show(w.heap.push (Obj.chan c #[] false 0 0 false))[w.heap.size]? =some (Obj.chan c #[] false 0 0 false) by simp),rfl,fun i cs h=>by simp at h⟩⟩
    exact hK _ _ ⟨_,D,_,rfl,Step.stay S (fun k hk=>Below.heap_alloc _ _ _ hk) (by simp) rfl rfl rfl (fun _ h=>h) (fun _ h=>.inl h) (ga hf),S1,.s8 _ _ _ (eL _ _ _) rfl,Us.upd⟩
   case inr.inl=>
    rw[jf]
    subst hg JO Ip
    have fy:w.heap.size<(w.alloc (.map #[] 0)).heap.size:=by simp
    have S':=S.stay (w':=w.alloc (.map #[] 0)) (D':=D) (ι':=ι) (fun k hk=>Below.heap_alloc _ _ _ hk) (by simp) (fun _ h=>h) (fun b hd=>Nat.lt_trans (S.dead b hd) fy) (fun _ h=>.inl h) (fun _ _ h=>h)
    have S1:=S.add S' (id:=⟨vo.site,n⟩) (B:=⟨w.heap.size,m.AM,0,some (.map m)⟩) (r:=⟨true,m.AM,[]⟩) hf (Nat.le_refl _) ⟨rfl,fun cs h=>by simp at h,fun h=>by simp at h,fun m' h=>by
     simp only[Option.some.injEq,BK.map.injEq]at h;subst h
     exact⟨rfl, #[],0,(show(w.heap.push (Obj.map #[] 0))[w.heap.size]? =some (Obj.map #[] 0) by simp),rfl,⟨fun cs h=>by simp at h,fun x h=>by simp at h,by simp⟩,fun i cs h=>by simp at h⟩,fun c h=>by simp at h⟩
    exact hK _ _ ⟨_,D,_,rfl,Step.stay S (fun k hk=>Below.heap_alloc _ _ _ hk) (by simp) rfl rfl rfl (fun _ h=>h) (fun _ h=>.inl h) (ga hf),S1,.map _ _ _ (eL _ _ _) rfl,Us.upd⟩
   rw[jf]
   subst hg
   have S1:=S.alloc (id:=⟨vo.site,n⟩) (w':=w.alloc (.cells cells T)) rfl hf h1 h2 h3 h4 h5
   refine hK _ _ ⟨u,D,_,rfl,Step.stay S (fun k hk=>Below.heap_alloc _ _ _ hk) (by simp) rfl rfl rfl (fun _ h=>h) (fun _ h=>.inl h) (ga hf),S1,(h6 (kX ι _ _) (eL _ _ _)).frame (fun b hd=>Below.heap_alloc _ _ _ (S.dead b hd)) (fun _ h=>h) (fun _ _ h=>h),Us.upd⟩
 have Q4:fZ vo.op (dh env) g ⟨vo.site,n⟩=some (v,g')->(∀Ia,Dy P hs a o Ia D ι ⟨vo.site,n⟩ v g'->Ia=w->o.wp P a w K Q):=by
  intro _ Ia hE he
  subst he
  obtain⟨u,w',ι',jf,T,S',hR,hι⟩:=hE
  have Jn:NL P hs D ι Ia U vo.site n a o.dst v g' (a.put o.dst u) w':=⟨u,D,ι',rfl,T,S',hR,fun id hid=>by
   by_cases he:id=⟨vo.site,n⟩
   ·subst he;exact .inr ⟨rfl,.inr rfl⟩
   ·rw[hι id he]at hid
    exact(Us.more (U':=fun x=>U x∨x=vo.site) fun _ h=>Or.inl h) id hid⟩
  unfold Oper.wp
  rcases jf with jf|⟨jf,rfl⟩
  ·rw[jf];exact hK _ _ Jn
  ·rw[jf];exact hK _ _ Jn
 unfold VS at hv
 split at hv
 ·rename_i f args eb
  rw[eb]at hc
  obtain⟨c,ho,lh,FV,ox⟩:=Cr hc
  refine BG f _ (c.args.map a.eval) hv (oX E ox) ?_
  simp only[execOp,ho,resolve,lh,Deferred.ofValue,Act.eval,Sem.run_bind,Sem.run_pure,Result.andThen_ok,invoke,Array.empty_append,Array.append_empty]
  exact j3 FV
 ·rename_i x args eb
  obtain⟨f,l,hx,hP⟩:=hv
  rw[eb]at hc
  obtain⟨c,t,ho,lh,rfl,ox⟩:=tu hc
  obtain⟨first,dp,he,FV,hL⟩:=vQ (v:=a.eval (.tmp t)) hx (E t) (oX E ox)
  refine BG f _ (first++c.args.map a.eval++dp) hP hL ?_
  simp only[execOp,ho,resolve,lh,he,Deferred.ofValue,Sem.run_bind,Sem.run_pure,Result.andThen_ok,invoke]
  exact j3 FV
 ·rename_i m x y eb
  have lg:=hc
  rw[eb]at lg
  obtain⟨t,x',y',ho,h1,h2,h3⟩:=Hl lg
  have oI:=hv
  rw[eb]at oI
  simp only[fZ,Option.map_eq_some_iff,Prod.mk.injEq]at oI
  obtain⟨g1,Be,rfl,rfl⟩:=oI
  exact Q4 hv w (Mb S E ho h1 h2 h3 Be) rfl
 ·rename_i m x y eb
  have lg:=hc
  rw[eb]at lg
  obtain⟨t,e,m',z,i,x',y',rfl,ho,h1,h2,h3,h4,h5,h6,h7⟩:=EH lg
  have oI:=hv
  rw[eb]at oI
  simp only[fZ,Option.bind_eq_some_iff]at oI
  obtain⟨ys,Dv,oI⟩:=oI
  exact Q4 hv w (I9 S E hf ho h1 h2 h3 h4 h5 h6 h7 Dv oI) rfl
 ·rename_i m x y eb
  have lg:=hc
  rw[eb]at lg
  obtain⟨t,t2,e,m',x',y',rfl,ho,h1,h2,h3,h4⟩:=JV lg
  have oI:=hv
  rw[eb]at oI
  simp only[fZ,Option.bind_eq_some_iff]at oI
  obtain⟨ys,Dv,oI⟩:=oI
  exact Q4 hv w (O6 S E ho h1 h2 h3 h4 Dv oI) rfl
 ·rename_i z x eb
  have lg:=hc
  rw[eb]at lg
  obtain⟨t,e,m',x',ho,h1,h2,h3,h4⟩:=Hk lg
  have oI:=hv
  rw[eb]at oI
  simp only[fZ,Option.map_eq_some_iff,Prod.mk.injEq]at oI
  obtain⟨g1,Be,rfl,rfl⟩:=oI
  exact Q4 hv w (Ma S E ho h1 h2 h3 h4 Be) rfl
 ·rename_i q xs eb
  have lg:=hc
  rw[eb]at lg
  have oI:=hv
  rw[eb]at oI
  simp only[fZ,Option.map_eq_some_iff,Prod.mk.injEq]at oI
  obtain⟨g1,Be,rfl,rfl⟩:=oI
  rcases P9 lg with⟨t,x,k,y,m,z,x',k',y',ho,h1,h2,h3,h4,rfl,rfl⟩|⟨t,t',x,k,m,z,x',k',ho,h1,h2,h3,rfl,rfl⟩
  ·exact Q4 hv w (O8 S E ho h1 h2 h3 h4 Be) rfl
  ·exact Q4 hv w (O7 S E ho h1 h2 h3 Be) rfl
 ·obtain⟨mr,hq,hg⟩:=hv
  exact quiet mr hq hg
end
end Go.Proofs.YtkbipfflibjfbaaGreat.V

namespace Go.Proofs.YtkbipfflibjfbaaGreat.V
open Go.RowKit
variable {P:Program} {w w':World} {D D' D2:Nat->Prop} {ι ι' ι2:Names}
section
variable {g:Rows} {hs:Nat} {env:Env} {a:Act} {o:Oper} {id:Id} {v:AV}
theorem pO {ops:Array Oper} {nt site0 j:Nat} {draw mk:Bool} {bs:Array Nat} {hidden:List (Nat×Bool)} {vo:bh} (h:kY P ops nt site0 draw mk bs hidden j o=some vo):
  qO P o.op=some vo.op/\vo.dst=o.dst/\vo.site=site0+j/\(∀d,o.dst=some d->d<nt)/\(match o.guard with
   |none=>vo.guard=none
   |some (i,b)=>∃t,(ops[i]?).bind (·.dst)=some t/\vo.guard=some (t,b)):=by
 unfold kY at h
 simp only[Option.bind_eq_bind,Option.bind_eq_some_iff]at h
 obtain⟨v,hv,gd,hg,h⟩:=h
 split at h
 ·rename_i hd
  simp only[Option.pure_def,Option.some.injEq]at h
  subst h
  refine⟨hv,rfl,rfl,fun d Rf=>?_,?_⟩
  ·rw[Rf]at hd;simpa using hd
  ·unfold DO at hg
   cases xU:o.guard with
   |none=>rw[xU]at hg;simp at hg;exact hg.symm
   |some p=>
    obtain⟨i,b⟩:=p
    rw[xU]at hg
    dsimp only at hg ⊢
    split at hg
    ·rename_i t ht
     simp at hg;exact⟨t,ht,hg.symm⟩
    ·simp at hg
 ·simp at h
theorem tO {ops:Array Oper} {vo:bh} (E:cE P w D ι env a) (hg:match o.guard with
   |none=>vo.guard=none
   |some (i,b)=>∃t,(ops[i]?).bind (·.dst)=some t/\vo.guard=some (t,b)):aH vo.guard env=Region.wanted o (yielded ops a.tmps):=by
 unfold Region.wanted
 cases xU:o.guard with
 |none=>rw[xU]at hg;simp only at hg;rw[hg];rfl
 |some p=>
  obtain⟨i,b⟩:=p
  rw[xU]at hg
  obtain⟨t,ht,hv⟩:=hg
  rw[hv]
  simp only[aH,yielded,ht,Option.bind_some]
  have hr:=E t
  by_cases dO:t<a.tmps.size
  ·have eQ:a.tmps[t]? =some a.tmps[t]:=Array.getElem?_eq_getElem dO
   have hd:a.tmps.getD t undef=a.tmps[t]:=by simp[dO]
   rw[hd]at hr
   rw[eQ]
   generalize a.tmps[t]=u at hr
   cases he:env t with
   |bool c=>rw[he]at hr;rw[fa hr];simp
   |_=>
    rw[he]at hr
    have:∀c,u≠.bool c:=by
     intro c hu
     subst hu
     cases hr with
     |eO _ _ h=>cases h
    cases u<;>simp_all
  ·have eQ:a.tmps[t]? =none:=Array.getElem?_eq_none (Nat.le_of_not_lt dO)
   have hd:a.tmps.getD t undef=undef:=by simp[eQ]
   rw[hd]at hr
   rw[eQ]
   cases he:env t with
   |bool c=>rw[he]at hr;have:=fa hr;simp[undef]at this
   |_=>simp
theorem nO {dst:Option Nat} {nt:Nat} {u:Value} (E:cE P w D ι env a) (hr:cN P w D ι v u) (hd:∀d,dst=some d->d<nt) (hs:a.tmps.size=nt):cE P w D ι (upd env dst v) (a.put dst u):=by
 intro t
 cases dst with
 |none=>exact E t
 |some d=>
  have dO:d<a.tmps.size:=by rw[hs];exact hd d rfl
  simp only[upd,Act.put]
  by_cases ht:t=d
  ·subst ht
   simp[dO];exact hr
  ·rw[if_neg ht]
   have:(a.tmps.setIfInBounds d u).getD t undef=a.tmps.getD t undef:=by
    simp only[Array.getD_eq_getD_getElem?]
    rw[Array.getElem?_setIfInBounds_ne (fun e=>ht e.symm)]
   rw[this];exact E t
theorem pa {hs:Nat} (E:cE P w D ι env a) (T:Step hs D ι w D' ι' w'):cE P w' D' ι' env a:=fun t=>T.rep (E t)
theorem lJ (a:Act) (dst:Option Tmp) (u:Value):(a.put dst u).tmps.size=a.tmps.size:=by cases dst<;>simp[Act.put]
theorem put_defers (a:Act) (dst:Option Tmp) (u:Value):(a.put dst u).defers=a.defers:=by cases dst<;>rfl
theorem zC {draw:Bool} {vo:bh} {σ:ax} {next:AV->ax->Prop} {U:Nat->Prop} {Q:Exit->Act->World->Prop} {K:Act->World->Prop} (hc:qO P o.op=some vo.op) (hv:fJ (Sound P) draw vo env σ next) (S:gK P hs D ι σ.get w) (Us:Used ι σ.next U) (hU:¬U vo.site) (E:cE P w D ι env a)
  (hK:∀v σ' u D' ι' w',next v σ'->Step hs D ι w D' ι' w'->gK P hs D' ι' σ'.get w'->cN P w' D' ι' v u->Used ι' σ'.next (fun s=>U s∨s=vo.site)->σ.next<=σ'.next->K (a.put o.dst u) w'):o.wp P a w K Q:=by
 have close:∀v g',VS (Sound P) σ.next vo env σ.get v g'->next v ⟨g',σ.next⟩->o.wp P a w K Q:=fun v g' h1 h2=>
  Bt hc h1 S Us hU E fun a' w' ⟨u,D',ι',ha,T,S',hR,U'⟩=>by subst ha;exact hK v ⟨g',σ.next⟩ u D' ι' w' h2 T S' hR U' (Nat.le_refl _)
 have Kj:∀(f:Nat) (args:List AV) (vs:Array Value),Sound P f args ⟨σ.get,σ.next+1⟩ next->fc P w D ι args vs->(execOp a.eval o).run P w=.ok (.enter f vs) w->o.wp P a w K Q:=by
  intro f args vs h hA jf
  unfold Oper.wp
  rw[jf]
  refine(h hs D ι w vs S Us.next hA).mono ?_
  rintro e w' ⟨r,g',n',D',ι',u,rfl,hn,T,S',U',hle,hR⟩
  exact hK r ⟨g',n'⟩ u D' ι' w' hn T S' hR (U'.more fun _ h=>h.elim) (Nat.le_trans (Nat.le_succ _) hle)
 unfold fJ at hv
 split at hv
 ·rename_i f args eb
  rcases hv with⟨r,hP,hn⟩|⟨_,hX⟩|⟨Lx,sz,rows,hM,hn⟩
  ·exact close r σ.get (by unfold VS;rw[eb];exact .inl ⟨hP,rfl⟩) hn
  rotate_left
  ·exact close _ _ (by unfold VS;rw[eb];exact .inr ⟨Lx,sz,rows,hM,rfl,rfl⟩) hn
  ·have lg:=hc
   rw[eb]at lg
   obtain⟨c,ho,lh,FV,ox⟩:=Cr lg
   refine Kj f _ (c.args.map a.eval) hX (oX E ox) ?_
   simp only[execOp,ho,resolve,lh,Deferred.ofValue,Act.eval,Sem.run_bind,Sem.run_pure,Result.andThen_ok,invoke,Array.empty_append,Array.append_empty]
   exact j3 FV
 ·rename_i x args eb
  split at hv
  ·rename_i f dp hx
   have ug:vO (dh env x) (args.map (dh env))=some (f,args.map (dh env)++dp):=by rw[hx];rfl
   rcases hv with⟨r,hP,hn⟩|⟨_,hX⟩|⟨Lx,sz,rows,hM,hn⟩
   ·exact close r σ.get (by unfold VS;rw[eb];exact⟨f,_,ug,.inl ⟨hP,rfl⟩⟩) hn
   rotate_left
   ·exact close _ _ (by unfold VS;rw[eb];exact⟨f,_,ug,.inr ⟨Lx,sz,rows,hM,rfl,rfl⟩⟩) hn
   ·have lg:=hc
    rw[eb]at lg
    obtain⟨c,t,ho,lh,rfl,ox⟩:=tu lg
    obtain⟨first,us,he,FV,hL⟩:=vQ (v:=a.eval (.tmp t)) ug (E t) (oX E ox)
    refine Kj f _ (first++c.args.map a.eval++us) hX hL ?_
    simp only[execOp,ho,resolve,lh,he,Deferred.ofValue,Sem.run_bind,Sem.run_pure,Result.andThen_ok,invoke]
    exact j3 FV
  ·rename_i f dp hx
   have ug:vO (dh env x) (args.map (dh env))=some (f,dp++args.map (dh env)):=by rw[hx];rfl
   rcases hv with⟨r,hP,hn⟩|⟨_,hX⟩|⟨Lx,sz,rows,hM,hn⟩
   ·exact close r σ.get (by unfold VS;rw[eb];exact⟨f,_,ug,.inl ⟨hP,rfl⟩⟩) hn
   rotate_left
   ·exact close _ _ (by unfold VS;rw[eb];exact⟨f,_,ug,.inr ⟨Lx,sz,rows,hM,rfl,rfl⟩⟩) hn
   ·have lg:=hc
    rw[eb]at lg
    obtain⟨c,t,ho,lh,rfl,ox⟩:=tu lg
    obtain⟨first,us,he,FV,hL⟩:=vQ (v:=a.eval (.tmp t)) ug (E t) (oX E ox)
    refine Kj f _ (first++c.args.map a.eval++us) hX hL ?_
    simp only[execOp,ho,resolve,lh,he,Deferred.ofValue,Sem.run_bind,Sem.run_pure,Result.andThen_ok,invoke]
    exact j3 FV
  ·exact hv.elim
 ·rename_i m x y eb
  split at hv
  ·rename_i v' g' he
   exact close v' g' (by unfold VS;rw[eb];rw[eb]at he;exact he) hv
  ·exact hv.elim
 ·rename_i m x y eb
  split at hv
  ·rename_i v' g' he
   exact close v' g' (by unfold VS;rw[eb];rw[eb]at he;exact he) hv
  ·exact hv.elim
 ·rename_i m x y eb
  split at hv
  ·rename_i v' g' he
   exact close v' g' (by unfold VS;rw[eb];rw[eb]at he;exact he) hv
  ·exact hv.elim
 ·rename_i m x eb
  split at hv
  ·rename_i v' g' he
   exact close v' g' (by unfold VS;rw[eb];rw[eb]at he;exact he) hv
  ·exact hv.elim
 ·rename_i m x eb
  split at hv
  ·rename_i v' g' he
   exact close v' g' (by unfold VS;rw[eb];rw[eb]at he;exact he) hv
  ·exact hv.elim
 ·rename_i n1 n2 n3 n4 n5 n6 n7
  split at hv
  ·rename_i v' r hq
   refine close v' (bU σ.get ⟨vo.site,σ.next⟩ r) ?_ hv
   unfold VS
   split
   ·rename_i h;exact(n1 _ _ h).elim
   ·rename_i h;exact(n2 _ _ h).elim
   ·rename_i h;exact(n3 _ _ _ h).elim
   ·rename_i h;exact(n4 _ _ _ h).elim
   ·rename_i h;exact(n5 _ _ _ h).elim
   ·rename_i h;exact(n6 _ _ h).elim
   ·rename_i h;exact(n7 _ _ h).elim
   ·exact⟨some r,hq,rfl⟩
  ·rename_i v' hq
   refine close v' σ.get ?_ hv
   unfold VS
   split
   ·rename_i h;exact(n1 _ _ h).elim
   ·rename_i h;exact(n2 _ _ h).elim
   ·rename_i h;exact(n3 _ _ _ h).elim
   ·rename_i h;exact(n4 _ _ _ h).elim
   ·rename_i h;exact(n5 _ _ _ h).elim
   ·rename_i h;exact(n6 _ _ h).elim
   ·rename_i h;exact(n7 _ _ h).elim
   ·exact⟨none,hq,rfl⟩
  ·exact hv.elim
structure St (P:Program) (hs nt:Nat) (D:Nat->Prop) (ι:Names) (env:Env) (σ:ax) (a:Act) (w:World):Prop where
 Gg:gK P hs D ι σ.get w
 used:Used ι σ.next (fun _=>False)
 env:cE P w D ι env a
 size:a.tmps.size=nt
theorem EZ (rest:List Oper) {ops:Array Oper} {nt site0:Nat} {draw mk:Bool} {bs:Array Nat} {hidden:List (Nat×Bool)} {K:Env->ax->Prop} {Q:Exit->Act->World->Prop}:∀(l:List Oper) (vl:List bh) (j:Nat) (env:Env) (σ:ax) (a:Act) (w:World) (D:Nat->Prop) (ι:Names) (U:Nat->Prop),
  allM (kY P ops nt site0 draw mk bs hidden) l j=some vl->wpOps (Sound P) draw vl K env σ->gK P hs D ι σ.get w->Used ι σ.next U->(∀s,U s->s<site0+j)->cE P w D ι env a->a.tmps.size=nt->
  (∀jn σ' a' w' D' ι',K jn σ'->Step hs D ι w D' ι' w'->St P hs nt D' ι' jn σ' a' w'->a'.defers=a.defers->σ.next<=σ'.next->wpList P ops Q rest a' w')->wpList P ops Q (l++rest) a w:=by
 intro l
 induction l with
 |nil=>
  intro vl j env σ a w D ι U h hv S Us _ E fy hQ
  simp[allM]at h;subst h
  exact hQ env ⟨σ.get,σ.next+1⟩ a w D ι hv (Step.refl _ _ _ _) ⟨S,Us.next,E,fy⟩ rfl (Nat.le_succ _)
 |cons o l ih=>
  intro vl j env σ a w D ι U h hv S Us hU E fy hQ
  simp only[allM,Option.bind_eq_bind,Option.bind_eq_some_iff,Option.pure_def,Option.some.injEq]at h
  obtain⟨vo,lZ,nE,mB,rfl⟩:=h
  obtain⟨hc,hd,Cl,xT,hg⟩:=pO lZ
  have hw:=tO (ops:=ops) (vo:=vo) E hg
  unfold wpOps at hv
  show wpList P ops Q (o::(l++rest)) a w
  unfold wpList
  rw[<-hw]
  split at hv
  ·rename_i Hg
   rw[if_pos Hg]
   refine .inl (zC hc hv S Us (fun h=>by have:=hU _ h;omega) E fun v σ' u D' ι' w' hn T S' hR U' hle=>?_)
   refine ih nE (j+1) (upd env vo.dst v) σ' (a.put o.dst u) w' D' ι' _ mB hn S' U' (fun s Ak=>by
    rcases Ak with h|h
    ·have:=hU _ h;omega
    ·omega) (by rw[hd];exact nO (pa E T) hR xT fy) (by rw[lJ];exact fy) fun jn σ2 a' w2 D2 ι2 hk T2 OG Cb mA=>hQ jn σ2 a' w2 D2 ι2 hk (T.trans T2) OG (Cb.trans (put_defers _ _ _)) (Nat.le_trans hle mA)
  ·rename_i Hg
   rw[if_neg Hg]
   refine ih nE (j+1) (upd env vo.dst .undef) σ (a.put o.dst undef) w D ι U mB hv S Us (fun s Ak=>by have:=hU _ Ak;omega) (by rw[hd];exact nO E cN.undef xT fy) (by rw[lJ];exact fy) fun jn σ2 a' w2 D2 ι2 hk T2 OG Cb mA=>hQ jn σ2 a' w2 D2 ι2 hk T2 OG (Cb.trans (put_defers _ _ _)) mA
theorem zo {ops:Array Oper} {nt site0:Nat} {draw mk:Bool} {bs:Array Nat} {hidden:List (Nat×Bool)} {K:Env->ax->Prop} {Q:Exit->Act->World->Prop}:∀(l:List Oper) (vl:List bh) (j:Nat) (env:Env) (σ:ax) (a:Act) (w:World) (D:Nat->Prop) (ι:Names) (U:Nat->Prop),
  allM (kY P ops nt site0 draw mk bs hidden) l j=some vl->wpOps (Sound P) draw vl K env σ->gK P hs D ι σ.get w->Used ι σ.next U->(∀s,U s->s<site0+j)->cE P w D ι env a->a.tmps.size=nt->
  (∀jn σ' a' w' D' ι',K jn σ'->Step hs D ι w D' ι' w'->St P hs nt D' ι' jn σ' a' w'->a'.defers=a.defers->σ.next<=σ'.next->Q .normal a' w')->wpList P ops Q l a w:=fun l vl j env σ a w D ι U h hv S Us hU E fy hQ=>by
 have:=EZ [] l vl j env σ a w D ι U h hv S Us hU E fy hQ
 rwa [List.append_nil]at this
end
end Go.Proofs.YtkbipfflibjfbaaGreat.V

namespace Go.Proofs.YtkbipfflibjfbaaGreat.V
open Go.RowKit
variable {P:Program} {w w':World} {D D' D2:Nat->Prop} {ι ι' ι2:Names}
section
variable {hs:Nat} {X:fm}
theorem bp {env jo:Env} {x:O} (h:∀t∈il x,env t=jo t):dh env x=dh jo x:=by
 cases x with
 |t n=>exact h n (by simp[il])
 |_=>rfl
theorem map_congr {env jo:Env} {l:List O} (h:∀t∈l.flatMap il,env t=jo t):l.map (dh env)=l.map (dh jo):=
 List.map_congr_left fun x hx=>bp fun t ht=>h t (List.mem_flatMap.2 ⟨x,hx,ht⟩)
theorem pY {env jo:Env} {x:Option O} (h:∀t∈wV x,env t=jo t):x.map (dh env)=x.map (dh jo):=by
 cases x with
 |none=>rfl
 |some y=>simp only[Option.map_some];rw[bp h]
theorem tG {env jo:Env} {o:gL} {g:Rows} {id:Id} (h:∀t∈o.gQ,env t=jo t):eW o (dh env) g id=eW o (dh jo) g id:=by
 cases o<;>simp only[gL.gQ,List.mem_append]at h<;>simp only[eW]
 case du x=>rw[bp h]
 case pick c a b=>rw[bp (x:=c) fun t ht=>h t (.inl (.inl ht)),bp (x:=a) fun t ht=>h t (.inl (.inr ht)),bp (x:=b) fun t ht=>h t (.inr ht)]
 case box x=>rw[bp h]
 case build z ps=>
  have:(ps.map fun(x:Nat×Nat×O)=>(x.1,x.2.1,dh env x.2.2))=ps.map fun(x:Nat×Nat×O)=>(x.1,x.2.1,dh jo x.2.2):=List.map_congr_left fun x hx=>by
   rw[bp (x:=x.2.2) fun t ht=>h t (List.mem_flatMap.2 ⟨x,hx,ht⟩)]
  rw[this]
 case nK a b l=>rw[map_congr h]
 case load a n x=>rw[bp h]
 case BM x=>rw[bp h]
 case bin a b x y=>rw[bp (x:=x) fun t ht=>h t (.inl ht),bp (x:=y) fun t ht=>h t (.inr ht)]
 case sh a x y=>rw[bp (x:=x) fun t ht=>h t (.inl ht),bp (x:=y) fun t ht=>h t (.inr ht)]
 case L7 a x y=>rw[bp (x:=x) fun t ht=>h t (.inl ht),bp (x:=y) fun t ht=>h t (.inr ht)]
 case NS a b x y=>rw[bp (x:=x) fun t ht=>h t (.inl ht),bp (x:=y) fun t ht=>h t (.inr ht)]
 case TW a b x y=>rw[bp (x:=x) fun t ht=>h t (.inl ht),bp (x:=y) fun t ht=>h t (.inr ht)]
 case RY a b x=>rw[bp h]
 case TX a x=>rw[bp h]
 case not x=>rw[bp h]
 case neg x=>rw[bp h]
 case conv k x=>rw[bp h]
 case FI x=>rw[bp h]
 case slice s x lo hi=>rw[bp (x:=x) fun t ht=>h t (.inl (.inl ht)),pY (x:=lo) fun t ht=>h t (.inl (.inr ht)),pY (x:=hi) fun t ht=>h t (.inr ht)]
 case AR x lo hi=>rw[bp (x:=x) fun t ht=>h t (.inl (.inl ht)),pY (x:=lo) fun t ht=>h t (.inl (.inr ht)),pY (x:=hi) fun t ht=>h t (.inr ht)]
 case fu k x=>rw[bp h]
 case field a b c x=>rw[bp h]
 case dE s x y=>rw[bp (x:=x) fun t ht=>h t (.inl ht),bp (x:=y) fun t ht=>h t (.inr ht)]
 case JS n s x y=>rw[bp (x:=x) fun t ht=>h t (.inl ht),bp (x:=y) fun t ht=>h t (.inr ht)]
 case ML x y=>rw[bp (x:=x) fun t ht=>h t (.inl ht),bp (x:=y) fun t ht=>h t (.inr ht)]
 case fD a b c x y=>rw[bp (x:=x) fun t ht=>h t (.inl ht),bp (x:=y) fun t ht=>h t (.inr ht)]
 case extract i x=>rw[bp h]
 case len x=>rw[bp h]
 case MT x=>rw[bp h]
 case Kc x=>rw[bp h]
 case J1 x=>rw[bp h]
 case MZ f l=>rw[map_congr h]
 case M0 f l=>rw[map_congr h]
 case mq f l=>rw[map_congr h]
 case kC z x y=>rw[bp (x:=x) fun t ht=>h t (.inl ht),bp (x:=y) fun t ht=>h t (.inr ht)]
theorem iC {env jo:Env} {o:gL} {g:Rows} {id:Id} (h:∀t∈o.gQ,env t=jo t):fZ o (dh env) g id=fZ o (dh jo) g id:=by
 cases o<;>simp only[gL.gQ,List.mem_append]at h<;>simp only[fZ]
 case clear z x=>rw[bp h]
 case mw f l=>rw[map_congr h]
 all_goals rename_i a x y
 all_goals rw[bp (x:=x) fun t ht=>h t (.inl ht),bp (x:=y) fun t ht=>h t (.inr ht)]
theorem IH {n:Nat} {vo:bh} {env jo:Env} {g g':Rows} {v:AV} (h:∀t∈vo.op.gQ,env t=jo t) (hv:VS X n vo env g v g'):VS X n vo jo g v g':=by
 unfold VS at hv ⊢
 split at hv
 ·rename_i f args eb
  rw[eb]at h
  simp only[gL.gQ]at h
  rw[<-map_congr h];exact hv
 ·rename_i x args eb
  rw[eb]at h
  simp only[gL.gQ,List.mem_append]at h
  rw[<-map_congr (l:=args) fun t ht=>h t (.inr ht),<-bp (x:=x) fun t ht=>h t (.inl ht)];exact hv
 ·rw[<-iC h];exact hv
 ·rw[<-iC h];exact hv
 ·rw[<-iC h];exact hv
 ·rw[<-iC h];exact hv
 ·rw[<-iC h];exact hv
 ·rw[<-tG h];exact hv
theorem ET {q:MQ} {vs:List AV} {g:Rows} {id:Id} {v:AV} {r:Row} (h:bx q vs g id=some (v,some r)):∃m,q=.new m:=by
 unfold bx at h
 split at h
 ·exact⟨_,rfl⟩
 ·simp[Option.bind_eq_some_iff]at h
 ·simp at h
 ·cases h
theorem wY {o:gL} {ρ:O->AV} {g:Rows} {id:Id} {v:AV} {r:Row} (h:eW o ρ g id=some (v,some r)):pj o=true:=by
 cases o<;>simp only[eW]at h<;>(try rfl)<;>(try simp at h)
 case mq q xs=>obtain⟨m,rfl⟩:=ET h;rfl
 all_goals (try(split at h<;>simp at h))
theorem wZ {o:gL} {ρ:O->AV} {g g2:Rows} {id id2:Id} (h:o.cls=.pure):eW o ρ g id=eW o ρ g2 id2:=by
 cases o<;>(try simp[gL.cls]at h)<;>(try simp only[eW])
 case mq q xs=>cases q<;>simp[gL.cls]at h
theorem rN {n:Nat} {vo:bh} {env:Env} {g g':Rows} {v:AV} (hw:vo.op.cls≠.write) (hv:VS X n vo env g v g'):∃mr,g'=jm g ⟨vo.site,n⟩ mr/\(mr≠none->vo.makes=true)/\∀g0,gh vo.hid n g0=gh vo.hid n g->VS X n vo env g0 v (jm g0 ⟨vo.site,n⟩ mr):=by
 unfold VS at hv
 split at hv
 ·rename_i f args eb
  rcases hv with⟨h1,rfl⟩|⟨hs,sz,rows,hM,rfl,rfl⟩
  ·refine⟨none,rfl,fun h=>(h rfl).elim,fun g0 h0=>?_⟩
   unfold VS;rw[eb];simp only;unfold vP;rw[h0];exact .inl ⟨h1,rfl⟩
  ·refine⟨some _,rfl,fun _=>by unfold bh.makes;rw[eb,hs];simp[gL.mD],fun g0 h0=>?_⟩
   unfold VS;rw[eb];simp only;unfold vP;rw[h0];exact .inr ⟨hs,sz,rows,hM,rfl,rfl⟩
 ·rename_i x args eb
  obtain⟨f,dp,hx,hv⟩:=hv
  rcases hv with⟨h1,rfl⟩|⟨hs,sz,rows,hM,rfl,rfl⟩
  ·refine⟨none,rfl,fun h=>(h rfl).elim,fun g0 h0=>?_⟩
   unfold VS;rw[eb];simp only;unfold vP;rw[h0];exact⟨f,dp,hx,.inl ⟨h1,rfl⟩⟩
  ·refine⟨some _,rfl,fun _=>by unfold bh.makes;rw[eb,hs];simp[gL.mD],fun g0 h0=>?_⟩
   unfold VS;rw[eb];simp only;unfold vP;rw[h0];exact⟨f,dp,hx,.inr ⟨hs,sz,rows,hM,rfl,rfl⟩⟩
 ·rename_i eb;rw[eb]at hw;exact(hw rfl).elim
 ·rename_i eb;rw[eb]at hw;exact(hw rfl).elim
 ·rename_i eb;rw[eb]at hw;exact(hw rfl).elim
 ·rename_i eb;rw[eb]at hw;exact(hw rfl).elim
 ·rename_i eb;rw[eb]at hw;exact(hw rfl).elim
 ·rename_i n1 n2 n3 n4 n5 n6 n7
  obtain⟨mr,hq,rfl⟩:=hv
  refine⟨mr,rfl,fun h=>?_,fun g0 h0=>?_⟩
  ·cases mr with
   |none=>exact(h rfl).elim
   |some r=>unfold bh.makes;rw[wY hq];rfl
  ·unfold VS
   split
   ·rename_i hh;exact(n1 _ _ hh).elim
   ·rename_i hh;exact(n2 _ _ hh).elim
   ·rename_i hh;exact(n3 _ _ _ hh).elim
   ·rename_i hh;exact(n4 _ _ _ hh).elim
   ·rename_i hh;exact(n5 _ _ _ hh).elim
   ·rename_i hh;exact(n6 _ _ hh).elim
   ·rename_i hh;exact(n7 _ _ hh).elim
   ·rw[h0];exact⟨mr,hq,rfl⟩
theorem zH {n:Nat} {vo:bh} {env:Env} {g g':Rows} {v:AV} (hp:vo.op.cls=.pure) (hv:VS X n vo env g v g'):g'=g/\∀g0,VS X n vo env g0 v g0:=by
 unfold VS at hv
 split at hv
 ·rename_i eb;rw[eb]at hp;simp[gL.cls]at hp
 ·rename_i eb;rw[eb]at hp;simp[gL.cls]at hp
 ·rename_i eb;rw[eb]at hp;simp[gL.cls]at hp
 ·rename_i eb;rw[eb]at hp;simp[gL.cls]at hp
 ·rename_i eb;rw[eb]at hp;simp[gL.cls]at hp
 ·rename_i eb;rw[eb]at hp;simp[gL.cls]at hp
 ·rename_i eb;rw[eb]at hp;simp[gL.cls]at hp
 ·rename_i n1 n2 n3 n4 n5 n6 n7
  obtain⟨mr,hq,rfl⟩:=hv
  have VP:mr=none:=by
   cases mr with
   |none=>rfl
   |some r=>have:=wY hq;simp[pj,hp]at this
  subst VP
  refine⟨rfl,fun g0=>?_⟩
  unfold VS
  split
  ·rename_i hh;exact(n1 _ _ hh).elim
  ·rename_i hh;exact(n2 _ _ hh).elim
  ·rename_i hh;exact(n3 _ _ _ hh).elim
  ·rename_i hh;exact(n4 _ _ _ hh).elim
  ·rename_i hh;exact(n5 _ _ _ hh).elim
  ·rename_i hh;exact(n6 _ _ hh).elim
  ·rename_i hh;exact(n7 _ _ hh).elim
  ·exact⟨none,by rw[wZ hp];exact hq,rfl⟩
def GS (X:fm) (n:Nat) (vo:bh) (env:Env) (g:Rows) (v:AV) (g':Rows):Prop:=
 if aH vo.guard env then VS X n vo env g v g' else v=.undef/\g'=g
theorem xz {hid:List Nat} {g:Rows} {s n:Nat} {mr:Option Row} (h:mr≠none->hid.contains s=true):gh hid n (jm g ⟨s,n⟩ mr)=gh hid n g:=by
 cases mr with
 |none=>rfl
 |some r=>
  have hc:=h (by simp)
  cases hid with
  |nil=>simp at hc
  |cons a l=>
   funext i
   show(if (a::l).contains i.site=true/\i.cC=n then none else jm g ⟨s,n⟩ (some r) i)=if (a::l).contains i.site=true/\i.cC=n then none else g i
   by_cases hi:i=⟨s,n⟩
   ·subst hi;rw[if_pos ⟨hc,rfl⟩,if_pos ⟨hc,rfl⟩]
   ·simp only[jm,bU,if_neg hi]
theorem yv {g:Rows} {i j:Id} (h:i≠j) (m1 m2:Option Row):jm (jm g i m1) j m2=jm (jm g j m2) i m1:=by
 cases m1<;>cases m2<;>simp only[jm]
 funext k
 simp only[bU]
 by_cases h1:k=i
 ·subst h1;rw[if_neg h,if_pos rfl];simp
 ·by_cases h2:k=j
  ·subst h2;simp[h1]
  ·simp[h1,h2]
theorem sM {env:Env} {d e:Option Nat} {v u:AV} (h:∀k,d=some k->e≠some k):upd (upd env d v) e u=upd (upd env e u) d v:=by
 cases d with
 |none=>rfl
 |some d=>
  cases e with
  |none=>rfl
  |some e=>
   have gI:d≠e:=fun he=>h d rfl (by rw[he])
   funext t
   simp only[upd]
   by_cases h1:t=d
   ·subst h1;rw[if_neg gI,if_pos rfl,if_pos rfl]
   ·by_cases h2:t=e
    ·subst h2;rw[if_pos rfl,if_neg h1,if_pos rfl]
    ·simp[h1,h2]
theorem kO {env:Env} {d:Option Nat} {v:AV} {l:List Nat} (h:∀k,d=some k->k∉l):∀t∈l,upd env d v t=env t:=by
 intro t ht
 cases d with
 |none=>rfl
 |some d=>
  have:t≠d:=fun he=>h d rfl (he▸ht)
  simp[upd,this]
structure Dz (x y:bh):Prop where
 xy:∀k,x.dst=some k->k∉y.gQ
 yx:∀k,y.dst=some k->k∉x.gQ
 dst:∀k,x.dst=some k->y.dst≠some k
 cls:clash x.op.cls y.op.cls=false
 hx:x.makes=true->y.hid.contains x.site=true
 hy:y.makes=true->x.hid.contains y.site=true
 site:x.site≠y.site
theorem Dz.symm {x y:bh} (h:Dz x y):Dz y x:=
 ⟨h.yx,h.xy,fun k hk he=>h.dst k he hk,by have:=h.cls;revert this;cases x.op.cls<;>cases y.op.cls<;>simp[clash],h.hy,h.hx,fun e=>h.site e.symm⟩
theorem nP {x y:bh} (h:yU x y=true):Dz x y:=by
 unfold yU at h
 simp only[Bool.and_eq_true,Bool.not_eq_true',Bool.or_eq_true,bne_iff_ne]at h
 obtain⟨⟨⟨⟨h1,h2⟩,h3⟩,h4⟩,h5⟩:=h
 unfold rF at h1
 simp only[Bool.and_eq_true]at h1
 obtain⟨a1,a2⟩:=h1
 refine⟨fun k hk=>?_,fun k hk=>?_,fun k hk=>?_,h2,fun hm=>?_,fun hm=>?_,h5⟩
 ·rw[hk]at a1;simp at a1;exact a1.1
 ·rw[hk]at a2;simpa using a2
 ·rw[hk]at a1;simp at a1;exact a1.2
 ·rcases h3 with h3|h3
  ·rw[hm]at h3;cases h3
  ·exact h3
 ·rcases h4 with h4|h4
  ·rw[hm]at h4;cases h4
  ·exact h4
theorem sF {vo:bh} {t:Nat} (h:t∈vo.op.gQ):t∈vo.gQ:=List.mem_append_left _ h
theorem oe {vo:bh} {env jo:Env} (h:∀t∈vo.gQ,env t=jo t):aH vo.guard env=aH vo.guard jo:=by
 unfold aH
 cases hg:vo.guard with
 |none=>rfl
 |some p=>
  obtain⟨t,b⟩:=p
  have:env t=jo t:=h t (List.mem_append_right _ (by rw[hg];simp))
  simp only[this]
theorem oM {n:Nat} {vo:bh} {env jo:Env} {g g':Rows} {v:AV} (h:∀t∈vo.gQ,env t=jo t) (hv:GS X n vo env g v g'):GS X n vo jo g v g':=by
 unfold GS at hv ⊢
 rw[<-oe h]
 split at hv
 ·rename_i hw;rw[if_pos hw];exact IH (fun t ht=>h t (sF ht)) hv
 ·rename_i hw;rw[if_neg hw];exact hv
theorem zF {n:Nat} {x y:bh} {env:Env} {g g1 g2:Rows} {v v':AV} (F:Dz x y) (h1:GS X n x env g v g1) (h2:GS X n y (upd env x.dst v) g1 v' g2):
  ∃yW,GS X n y env g v' yW/\GS X n x (upd env y.dst v') yW v g2/\upd (upd env x.dst v) y.dst v'=upd (upd env y.dst v') x.dst v:=by
 have x8:=sM (env:=env) (v:=v) (u:=v') F.dst
 replace h2:GS X n y env g1 v' g2:=oM (kO F.xy) h2
 have back:∀{yW},GS X n x env yW v g2->GS X n x (upd env y.dst v') yW v g2:=fun h=>oM (fun t ht=>(kO F.yx t ht).symm) h
 unfold GS at h1 h2
 by_cases wx:aH x.guard env=true
 ·rw[if_pos wx]at h1
  by_cases wy:aH y.guard env=true
  ·rw[if_pos wy]at h2
   by_cases cx:x.op.cls=.write
   ·have cy:y.op.cls=.pure:=by
     have:=F.cls;rw[cx]at this
     cases hc:y.op.cls<;>simp[clash,hc]at this ⊢
    obtain⟨rfl,dz⟩:=zH cy h2
    exact⟨g,by unfold GS;rw[if_pos wy];exact dz g,back (by unfold GS;rw[if_pos wx];exact h1),x8⟩
   ·by_cases cy:y.op.cls=.write
    ·have cx':x.op.cls=.pure:=by
      have:=F.cls;rw[cy]at this
      cases hc:x.op.cls<;>simp[clash,hc]at this ⊢
     obtain⟨rfl,dz⟩:=zH cx' h1
     exact⟨g2,by unfold GS;rw[if_pos wy];exact h2,back (by unfold GS;rw[if_pos wx];exact dz g2),x8⟩
    ·obtain⟨mx,rfl,kx,OM⟩:=rN cx h1
     obtain⟨my,rfl,ky,ON⟩:=rN cy h2
     have gI:(⟨x.site,n⟩:Id)≠⟨y.site,n⟩:=fun e=>F.site (by injection e)
     refine⟨jm g ⟨y.site,n⟩ my,?_,back ?_,x8⟩
     ·unfold GS;rw[if_pos wy]
      exact ON g (xz fun h=>F.hx (kx h)).symm
     ·unfold GS;rw[if_pos wx,yv gI]
      exact OM _ (xz fun h=>F.hy (ky h))
  ·rw[if_neg wy]at h2
   obtain⟨rfl,rfl⟩:=h2
   exact⟨g,by unfold GS;rw[if_neg wy];exact⟨rfl,rfl⟩,back (by unfold GS;rw[if_pos wx];exact h1),x8⟩
 ·rw[if_neg wx]at h1
  obtain⟨rfl,rfl⟩:=h1
  exact⟨g2,h2,back (by unfold GS;rw[if_neg wx];exact⟨rfl,rfl⟩),x8⟩
end
end Go.Proofs.YtkbipfflibjfbaaGreat.V

namespace Go.Proofs.YtkbipfflibjfbaaGreat.V
open Go.RowKit
variable {P:Program} {w w':World} {D D' D2:Nat->Prop} {ι ι' ι2:Names}
section
variable {hs:Nat} {X:fm}
def jO (acc:Array Nat) (o:Oper):Nat:=o.after.foldl (fun s e=>if Region.binds .any e then s|||2 ^ e.on|||acc.getD e.on 0 else s) 0
theorem LP (ops:Array Oper):iN ops=ops.foldl (fun acc o=>acc.push (jO acc o)) #[]:=rfl
theorem Bz {acc:Array Nat} {o:Oper} {i:Nat} (h:(jO acc o).testBit i=true):∃e∈o.after,Region.binds .any e=true/\(e.on=i∨(acc.getD e.on 0).testBit i=true):=by
 unfold jO at h
 rw[<-Array.foldl_toList]at h
 have gen:∀(l:List Edge) (s:Nat),(l.foldl (fun s e=>if Region.binds .any e then s|||2 ^ e.on|||acc.getD e.on 0 else s) s).testBit i=true->s.testBit i=true∨∃e∈l,Region.binds .any e=true/\(e.on=i∨(acc.getD e.on 0).testBit i=true):=by
  intro l
  induction l with
  |nil=>intro s h;exact .inl h
  |cons e r ih=>
   intro s h
   rw[List.foldl_cons]at h
   rcases ih _ h with h|⟨e',Mr,h'⟩
   ·by_cases hb:Region.binds .any e=true
    ·rw[if_pos hb]at h
     simp only[Nat.testBit_or,Bool.or_eq_true]at h
     rcases h with(h|h)|h
     ·exact .inl h
     ·refine .inr ⟨e,by simp,hb,.inl ?_⟩
      rw[Nat.testBit_two_pow]at h
      simpa using h
     ·exact .inr ⟨e,by simp,hb,.inr h⟩
    ·rw[if_neg hb]at h;exact .inl h
   ·exact .inr ⟨e',List.mem_cons_of_mem _ Mr,h'⟩
 rcases gen _ _ h with h|⟨e,he,h⟩
 ·simp at h
 ·exact⟨e,Array.mem_toList_iff.1 he,h⟩
theorem IP {ops:Array Oper} {j i:Nat} (h:((iN ops).getD j 0).testBit i=true):∃o,ops[j]? =some o/\∃e∈o.after,Region.binds .any e=true/\(e.on=i∨((iN ops).getD e.on 0).testBit i=true):=by
 have key:∀(l pre:List Oper) (acc:Array Nat),acc.size=pre.length->(∀j i,(acc.getD j 0).testBit i=true->∃o,pre[j]? =some o/\∃e∈o.after,Region.binds .any e=true/\(e.on=i∨(acc.getD e.on 0).testBit i=true))->
   ∀j i,((l.foldl (fun acc o=>acc.push (jO acc o)) acc).getD j 0).testBit i=true->∃o,(pre++l)[j]? =some o/\∃e∈o.after,Region.binds .any e=true/\(e.on=i∨((l.foldl (fun acc o=>acc.push (jO acc o)) acc).getD e.on 0).testBit i=true):=by
  intro l
  induction l with
  |nil=>intro pre acc _ h j i hb;simpa using h j i hb
  |cons o r ih=>
   intro pre acc fy h j i hb
   have CU:∀k,k<acc.size->(acc.push (jO acc o)).getD k 0=acc.getD k 0:=fun k hk=>by
    simp only[Array.getD_eq_getD_getElem?,Array.getElem?_push]
    rw[if_neg ae]
   have big:∀k,acc.size<=k->acc.getD k 0=0:=fun k hk=>by simp[Array.getElem?_eq_none hk]
   have lift:∀k i,(acc.getD k 0).testBit i=true->((acc.push (jO acc o)).getD k 0).testBit i=true:=fun k i hk=>by
    by_cases dO:k<acc.size
    ·rw[CU k dO];exact hk
    ·rw[big k ae]at hk;simp at hk
   have:=ih (pre++[o]) (acc.push (jO acc o)) (by simp[fy]) (fun j i hb=>by
    by_cases dO:j<acc.size
    ·rw[CU j dO]at hb
     obtain⟨o',Ds,e,he,fE,h2⟩:=h j i hb
     refine⟨o',by rw[List.getElem?_append_left ae];exact Ds,e,he,fE,?_⟩
     rcases h2 with h2|h2
     ·exact .inl h2
     ·exact .inr (lift _ _ h2)
    ·by_cases hj:j=acc.size
     ·subst hj
      have e0:(acc.push (jO acc o)).getD acc.size 0=jO acc o:=by simp
      rw[e0]at hb
      obtain⟨e,he,fE,h2⟩:=Bz hb
      refine⟨o,by rw[List.getElem?_append_right ae,fy];simp,e,he,fE,?_⟩
      rcases h2 with h2|h2
      ·exact .inl h2
      ·exact .inr (lift _ _ h2)
     ·have:(acc.push (jO acc o)).getD j 0=0:=by
       simp only[Array.getD_eq_getD_getElem?]
       rw[Array.getElem?_eq_none (by simp;omega)];rfl
      rw[this]at hb;simp at hb) j i (by simpa using hb)
   simpa using this
 rw[LP,<-Array.foldl_toList]at h ⊢
 have:=key ops.toList [] #[] rfl (fun j i h=>by simp at h) j i h
 simpa using this
def DC (ops:Array Oper) (listed:Array Bool):Prop:=∀k i,listed.getD k false=true->((iN ops).getD k 0).testBit i=true->listed.getD i false=true
theorem jD {ops:Array Oper} {listed:Array Bool} (h:DC ops listed) {j:Nat} (hj:j∈Region.ready .any ops listed):∀i,((iN ops).getD j 0).testBit i=true->listed.getD i false=true:=by
 intro i hb
 obtain⟨_,o,ho,dz⟩:=mem_ready.1 hj
 obtain⟨o',Ds,e,he,fE,h2⟩:=IP hb
 rw[ho]at Ds;injection Ds with Ds;subst Ds
 have hl:=dz e he fE
 rcases h2 with h2|h2
 ·rw[<-h2];exact hl
 ·exact h _ _ hl h2
theorem DC.list {ops:Array Oper} {listed:Array Bool} (h:DC ops listed) {j:Nat} (hj:j∈Region.ready .any ops listed):DC ops (listed.setIfInBounds j true):=by
 intro k i hk hb
 by_cases hkj:k=j
 ·subst hkj;exact getD_set_true (jD h hj i hb)
 ·rw[getD_set_ne false (fun e=>hkj e.symm)]at hk
  exact getD_set_true (h k i hk hb)
theorem iE {ops:Array Oper} {listed:Array Bool} {j:Nat} (hj:j∈Region.ready .any ops listed):listed.getD j false=false:=by
 have h0:=(mem_ready.1 hj).1
 rcases Nat.lt_or_ge j listed.size with h|h
 ·simp[h]at h0 ⊢;exact h0
 ·simp[Array.getElem?_eq_none h]at h0
def Dg (X:fm) (n:Nat) (ops:Array Oper) (vl:List bh) (K:Env->Rows->Prop):Nat->Array Bool->Env->Rows->Prop
 |0,listed,env,g=>Region.ready .any ops listed=[]/\K env g
 |f+1,listed,env,g=>(Region.ready .any ops listed=[]->K env g)/\∀i∈Region.ready .any ops listed,∃vo,vl[i]? =some vo/\∃v g',GS X n vo env g v g'/\Dg X n ops vl K f (listed.setIfInBounds i true) (upd env vo.dst v) g'
theorem BT {ops:Array Oper} {vl:List bh} (h:nN ops vl (iN ops)=true) {i j:Nat} {x y:bh} (hi:vl[i]? =some x) (hj:vl[j]? =some y) (y4:i≠j) (h1:((iN ops).getD j 0).testBit i=false) (h2:((iN ops).getD i 0).testBit j=false):Dz x y:=by
 unfold nN at h
 simp only[Bool.and_eq_true,List.all_eq_true]at h
 obtain⟨_,h⟩:=h
 have mem:∀(k:Nat) (z:bh),vl[k]? =some z->(z,k)∈vl.zipIdx:=fun k z hk=>by
  rw[List.mem_iff_getElem?]
  exact⟨k,by simp[List.getElem?_zipIdx,hk]⟩
 rcases Nat.lt_or_gt_of_ne y4 with dO|Im
 ·have:=h _ (mem j y hj) _ (mem i x hi)
  simp only[dO,decide_true,Bool.not_true,Bool.false_or,h1]at this
  exact nP this
 ·have:=h _ (mem i x hi) _ (mem j y hj)
  simp only[Im,decide_true,Bool.not_true,Bool.false_or,h2]at this
  exact(nP this).symm
theorem Fu {n:Nat} {ops:Array Oper} {vl:List bh} {K:Env->Rows->Prop} (k5:nN ops vl (iN ops)=true) (hlen:vl.length=ops.size) {i:Nat} {vi:bh} (hi:vl[i]? =some vi) {v:AV}:∀(fuel:Nat) (listed:Array Bool) (env:Env) (g g1:Rows),
  DC ops listed->i∈Region.ready .any ops listed->GS X n vi env g v g1->Dg X n ops vl K fuel (listed.setIfInBounds i true) (upd env vi.dst v) g1->Dg X n ops vl K (fuel+1) listed env g:=by
 intro fuel
 induction fuel with
 |zero=>
  intro listed env g g1 _ hr hG H
  refine⟨fun h=>(by rw[h]at hr;cases hr),fun j hj=>?_⟩
  by_cases lr:j=i
  ·subst lr;exact⟨vi,hi,v,g1,hG,H⟩
  ·have:=ready_mono hj lr
   rw[H.1]at this;cases this
 |succ fuel ih=>
  intro listed env g g1 pf hr hG H
  refine⟨fun h=>(by rw[h]at hr;cases hr),fun j hj=>?_⟩
  by_cases lr:j=i
  ·subst lr;exact⟨vi,hi,v,g1,hG,H⟩
  ·obtain⟨vj,F1,v',g2,TY,H2⟩:=H.2 j (ready_mono hj lr)
   have b1:((iN ops).getD j 0).testBit i=false:=by
    cases hb:((iN ops).getD j 0).testBit i with
    |false=>rfl
    |true=>have:=jD pf hj i hb;rw[iE hr]at this;cases this
   have b2:((iN ops).getD i 0).testBit j=false:=by
    cases hb:((iN ops).getD i 0).testBit j with
    |false=>rfl
    |true=>have:=jD pf hr j hb;rw[iE hj]at this;cases this
   have F:=BT k5 hi F1 (fun e=>lr e.symm) b1 b2
   obtain⟨yW,q1,q2,q3⟩:=zF F hG TY
   refine⟨vj,F1,v',yW,q1,ih _ _ _ g2 (pf.list hj) (ready_mono hr (fun e=>lr e.symm)) q2 ?_⟩
   rw[<-q3,Array.setIfInBounds_comm _ _ lr]
   exact H2
theorem OJ {n:Nat} {vo:bh} {env:Env} {g:Rows} {v:AV} {mr:Option Row} (h:eW vo.op (dh env) (gh vo.hid n g) ⟨vo.site,n⟩=some (v,mr)):VS X n vo env g v (jm g ⟨vo.site,n⟩ mr):=by
 unfold VS
 split
 ·rename_i eb;rw[eb]at h;simp[eW]at h
 ·rename_i eb;rw[eb]at h;simp[eW]at h
 ·rename_i eb;rw[eb]at h;simp[eW]at h
 ·rename_i eb;rw[eb]at h;simp[eW]at h
 ·rename_i eb;rw[eb]at h;simp[eW]at h
 ·rename_i eb;rw[eb]at h;simp[eW]at h
 ·rename_i eb;rw[eb]at h;simp[eW]at h
 ·exact⟨mr,h,rfl⟩
theorem II {n:Nat} {vo:bh} {env:Env} {g g':Rows} {v:AV} (h:fZ vo.op (dh env) g ⟨vo.site,n⟩=some (v,g')):VS X n vo env g v g':=by
 unfold VS
 split
 ·rename_i eb;rw[eb]at h;simp[fZ]at h
 ·rename_i eb;rw[eb]at h;simp[fZ]at h
 ·exact h
 ·exact h
 ·exact h
 ·exact h
 ·exact h
 ·rename_i n1 n2 n3 n4 n5 n6 n7
  exfalso
  unfold fZ at h
  split at h
  ·rename_i hh;exact n3 _ _ _ hh
  ·rename_i hh;exact n4 _ _ _ hh
  ·rename_i hh;exact n5 _ _ _ hh
  ·rename_i hh;exact n6 _ _ hh
  ·rename_i hh;exact n7 _ _ hh
  ·simp at h
theorem K3 {vo:bh} {env:Env} {σ:ax} {next:AV->ax->Prop} (hv:fJ X true vo env σ next):∃v g',VS X σ.next vo env σ.get v g'/\next v ⟨g',σ.next⟩:=by
 unfold fJ at hv
 split at hv
 ·rename_i f args eb
  rcases hv with⟨r,hP,hn⟩|⟨h,_⟩|⟨hs,sz,rows,hM,hn⟩
  ·exact⟨r,σ.get,by unfold VS;rw[eb];exact .inl ⟨hP,rfl⟩,hn⟩
  ·cases h
  ·exact⟨_,_,by unfold VS;rw[eb];exact .inr ⟨hs,sz,rows,hM,rfl,rfl⟩,hn⟩
 ·rename_i x args eb
  split at hv
  ·rename_i f dp hx
   have ug:vO (dh env x) (args.map (dh env))=some (f,args.map (dh env)++dp):=by rw[hx];rfl
   rcases hv with⟨r,hP,hn⟩|⟨h,_⟩|⟨hs,sz,rows,hM,hn⟩
   ·exact⟨r,σ.get,by unfold VS;rw[eb];exact⟨f,_,ug,.inl ⟨hP,rfl⟩⟩,hn⟩
   ·cases h
   ·exact⟨_,_,by unfold VS;rw[eb];exact⟨f,_,ug,.inr ⟨hs,sz,rows,hM,rfl,rfl⟩⟩,hn⟩
  ·rename_i f dp hx
   have ug:vO (dh env x) (args.map (dh env))=some (f,dp++args.map (dh env)):=by rw[hx];rfl
   rcases hv with⟨r,hP,hn⟩|⟨h,_⟩|⟨hs,sz,rows,hM,hn⟩
   ·exact⟨r,σ.get,by unfold VS;rw[eb];exact⟨f,_,ug,.inl ⟨hP,rfl⟩⟩,hn⟩
   ·cases h
   ·exact⟨_,_,by unfold VS;rw[eb];exact⟨f,_,ug,.inr ⟨hs,sz,rows,hM,rfl,rfl⟩⟩,hn⟩
  ·exact hv.elim
 ·split at hv
  ·rename_i v g h;exact⟨v,g,II h,hv⟩
  ·exact hv.elim
 ·split at hv
  ·rename_i v g h;exact⟨v,g,II h,hv⟩
  ·exact hv.elim
 ·split at hv
  ·rename_i v g h;exact⟨v,g,II h,hv⟩
  ·exact hv.elim
 ·split at hv
  ·rename_i v g h;exact⟨v,g,II h,hv⟩
  ·exact hv.elim
 ·split at hv
  ·rename_i v g h;exact⟨v,g,II h,hv⟩
  ·exact hv.elim
 ·split at hv
  ·rename_i v r h;exact⟨v,_,OJ h,hv⟩
  ·rename_i v h;exact⟨v,_,OJ h,hv⟩
  ·exact hv.elim
theorem sN {ops:Array Oper} {vl:List bh} {K:Env->ax->Prop} {n:Nat} (k5:nN ops vl (iN ops)=true) (hlen:vl.length=ops.size):∀(r:List bh) (k:Nat) (listed:Array Bool) (env:Env) (g:Rows),
  (∀j,r[j]? =vl[k+j]?)->listed.size=ops.size->(∀i,i<ops.size->listed[i]? =some (decide (i<k)))->k+r.length=ops.size->DC ops listed->wpOps X true r K env ⟨g,n⟩->Dg X n ops vl (fun env g=>K env ⟨g,n+1⟩) r.length listed env g
 |[],k,listed,env,g,_,fy,hl,hk,_,hv=>by
  refine⟨?_,hv⟩
  rw[List.eq_nil_iff_forall_not_mem]
  intro j hj
  obtain⟨h0,o,ho,_⟩:=mem_ready.1 hj
  have dO:j<ops.size:=(Array.getElem?_eq_some_iff.1 ho).1
  have:=hl j dO
  simp at hk
  simp[this,show j<k by omega]at h0
 |vo::r,k,listed,env,g,hr,fy,hl,hk,pf,hv=>by
  simp only[List.length_cons]at hk
  have lZ:vl[k]? =some vo:=by simpa using(hr 0).symm
  have mQ:k<ops.size:=ae
  have wE:k∈Region.ready .any ops listed:=by
   rw[mem_ready]
   refine⟨by simp[hl k mQ],ops[k],Array.getElem?_eq_getElem mQ,fun e he hb=>?_⟩
   unfold nN pQ at k5
   simp only[Bool.and_eq_true,List.all_eq_true]at k5
   have hm:(ops[k],k)∈ops.toList.zipIdx:=by
    rw[List.mem_iff_getElem?]
    exact⟨k,by simp[List.getElem?_zipIdx,mQ]⟩
   have:=k5.1 _ hm
   rw[Array.all_eq_true_iff_forall_mem]at this
   have:=this e he
   simp only[hb,Bool.not_true,Bool.false_or,decide_eq_true_eq]at this
   simp[hl e.on ae,this]
  have Vh:∃v g',GS X n vo env g v g'/\wpOps X true r K (upd env vo.dst v) ⟨g',n⟩:=by
   unfold wpOps at hv
   unfold GS
   split at hv
   ·rename_i hw
    simp only[hw,if_true]
    exact K3 hv
   ·rename_i hw
    simp only[hw]
    exact⟨.undef,g,⟨rfl,rfl⟩,hv⟩
  obtain⟨v,g',h1,h2⟩:=Vh
  refine Fu k5 hlen lZ r.length listed env g g' pf wE h1 ?_
  refine sN k5 hlen r (k+1) _ _ _ (fun j=>by have:=hr (j+1);simpa[Nat.add_assoc,Nat.add_comm 1 j]using this) (by simp[fy]) (fun i hi=>?_) ae (pf.list wE) h2
  by_cases wo:i=k
  ·subst wo;simp[fy,mQ]
  ·rw[Array.getElem?_setIfInBounds_ne (fun e=>wo e.symm),hl i hi]
   congr 1
   have:(i<k)=(i<k+1):=by apply propext;omega
   simp[this]
theorem lz {f:Nat->Oper->Option bh}:∀{l:List Oper} {vl:List bh} {j:Nat},allM f l j=some vl->vl.length=l.length/\∀(i:Nat) (o:Oper),l[i]? =some o->∃vo,vl[i]? =some vo/\f (j+i) o=some vo
 |[],vl,j,h=>by simp[allM]at h;subst h;simp
 |o::l,vl,j,h=>by
  simp only[allM,Option.bind_eq_bind,Option.bind_eq_some_iff,Option.pure_def,Option.some.injEq]at h
  obtain⟨vo,lZ,nE,mB,rfl⟩:=h
  obtain⟨h1,h2⟩:=lz mB
  refine⟨by simp[h1],fun i o' hi=>?_⟩
  cases i with
  |zero=>simp at hi;subst hi;exact⟨vo,rfl,lZ⟩
  |succ i=>
   simp at hi
   obtain⟨q,hq,hf⟩:=h2 i o' hi
   exact⟨q,by simpa using hq,by rw[<-hf];congr 1;omega⟩
theorem pM {ops:Array Oper} {vl:List bh} {nt site0:Nat} {draw mk:Bool} {bs:Array Nat} {hidden:List (Nat×Bool)} {n:Nat} {K:Env->Rows->Prop} {Q:Exit->Act->World->Prop} (dz:allM (kY P ops nt site0 draw mk bs hidden) ops.toList 0=some vl):
  ∀(fuel:Nat) (listed:Array Bool) (env:Env) (g:Rows) (a:Act) (w:World) (D:Nat->Prop) (ι:Names) (U:Nat->Prop),Dg (Sound P) n ops vl K fuel listed env g->gK P hs D ι g w->Used ι n U->(∀s,U s->∃i,s=site0+i/\listed.getD i false=true)->cE P w D ι env a->a.tmps.size=nt->
  (∀jn g' a' w' D' ι' U',K jn g'->Step hs D ι w D' ι' w'->gK P hs D' ι' g' w'->Used ι' n U'->cE P w' D' ι' jn a'->a'.tmps.size=nt->a'.defers=a.defers->Q .normal a' w')->wpAny P .any ops Q fuel listed a w:=by
 intro fuel
 induction fuel with
 |zero=>intro listed env g a w D ι U h S Us hU E fy hQ;exact⟨h.1,hQ env g a w D ι U h.2 (Step.refl _ _ _ _) S Us E fy rfl⟩
 |succ fuel ih=>
  intro listed env g a w D ι U h S Us hU E fy hQ
  refine⟨fun hr=>hQ env g a w D ι U (h.1 hr) (Step.refl _ _ _ _) S Us E fy rfl,fun i hi=>?_⟩
  obtain⟨vo,lZ,v,g',hG,Od⟩:=h.2 i hi
  obtain⟨_,o,ho,_⟩:=mem_ready.1 hi
  obtain⟨vo',nq,Sy⟩:=(lz dz).2 i o (by simpa using ho)
  rw[lZ]at nq;injection nq with nq;subst nq
  rw[Nat.zero_add]at Sy
  obtain⟨hc,hd,Cl,xT,hg⟩:=pO Sy
  have hw:=tO (ops:=ops) (vo:=vo) E hg
  have Vr:¬U vo.site:=fun hu=>by
   obtain⟨i',he,hl⟩:=hU _ hu
   have:i'=i:=ae
   subst this
   rw[iE hi]at hl;cases hl
  have j7:i<listed.size:=by
   have h0:=(mem_ready.1 hi).1
   rcases Nat.lt_or_ge i listed.size with h|h
   ·exact h
   ·simp[Array.getElem?_eq_none h]at h0
  unfold wpOp
  simp only[ho]
  rw[<-hw]
  unfold GS at hG
  by_cases Hg:aH vo.guard env=true
  ·rw[if_pos Hg]
   rw[if_pos Hg]at hG
   refine .inl (Bt hc hG S Us Vr E fun a' w' ⟨u,D',ι',ha,T,S',hR,U'⟩=>?_)
   subst ha
   refine ih _ _ _ _ w' D' ι' _ Od S' U' (fun s Ak=>?_) (by rw[hd];exact nO (pa E T) hR xT fy) (by rw[lJ];exact fy) fun jn g2 a2 w2 D2 ι2 U2 hk T2 S2 UM E2 k7 Cb=>hQ jn g2 a2 w2 D2 ι2 U2 hk (T.trans T2) S2 UM E2 k7 (Cb.trans (put_defers _ _ _))
   rcases Ak with h|h
   ·obtain⟨i',he,hl⟩:=hU _ h
    exact⟨i',he,getD_set_true hl⟩
   ·exact⟨i,by rw[h,Cl],by simp[j7]⟩
  ·rw[if_neg Hg]
   rw[if_neg Hg]at hG
   obtain⟨rfl,rfl⟩:=hG
   refine ih _ _ _ _ w D ι U Od S Us (fun s Ak=>?_) (by rw[hd];exact nO E cN.undef xT fy) (by rw[lJ];exact fy) fun jn g2 a2 w2 D2 ι2 U2 hk T2 S2 UM E2 k7 Cb=>hQ jn g2 a2 w2 D2 ι2 U2 hk T2 S2 UM E2 k7 (Cb.trans (put_defers _ _ _))
   obtain⟨i',he,hl⟩:=hU _ Ak
   exact⟨i',he,getD_set_true hl⟩
end
end Go.Proofs.YtkbipfflibjfbaaGreat.V

namespace Go.Proofs.YtkbipfflibjfbaaGreat.V
open Go.RowKit
variable {P:Program} {w w':World} {D D' D2:Nat->Prop} {ι ι' ι2:Names}
section
variable {hs:Nat} {X:fm}
def qw (X:fm):Prop:=∀f args σ K K',(∀r σ',K r σ'->K' r σ')->X f args σ K->X f args σ K'
theorem ly:qw (Sound P):=fun _ _ _ _ _ hK h hs D ι w vs S U A=>
 (h hs D ι w vs S U A).mono fun _ _ ⟨r,g',n',D',ι',u,he,hk,rest⟩=>⟨r,g',n',D',ι',u,he,hK _ _ hk,rest⟩
def step (X:fm) (vo:bh) (N:Env->ax->Prop) (env:Env) (σ:ax):Prop:=
 if aH vo.guard env then fJ X false vo env σ fun v σ'=>N (upd env vo.dst v) σ' else N (upd env vo.dst .undef) σ
theorem qR (hK:qw X) {draw:Bool} {hid:List Nat} {site f:Nat} {args:List AV} {σ:ax} {n n':AV->ax->Prop} (hn:∀v σ',n v σ'->n' v σ') (hp:cJ X draw hid site f args σ n):cJ X draw hid site f args σ n':=by
 rcases hp with⟨r,h1,h2⟩|⟨h1,h2⟩|⟨h1,sz,rows,h2,h3⟩
 ·exact .inl ⟨r,h1,hn _ _ h2⟩
 ·exact .inr (.inl ⟨h1,hK _ _ _ _ _ hn h2⟩)
 ·exact .inr (.inr ⟨h1,sz,rows,h2,hn _ _ h3⟩)
theorem Di (hK:qw X) {draw:Bool} {o:bh} {env:Env} {σ:ax} {n n':AV->ax->Prop} (hn:∀v σ',n v σ'->n' v σ') (hp:fJ X draw o env σ n):fJ X draw o env σ n':=by
 unfold fJ at hp ⊢
 split at hp
 ·exact qR hK hn hp
 ·split at hp
  ·exact qR hK hn hp
  ·exact qR hK hn hp
  ·exact hp.elim
 ·split at hp
  ·exact hn _ _ hp
  ·exact hp.elim
 ·split at hp
  ·exact hn _ _ hp
  ·exact hp.elim
 ·split at hp
  ·exact hn _ _ hp
  ·exact hp.elim
 ·split at hp
  ·exact hn _ _ hp
  ·exact hp.elim
 ·split at hp
  ·exact hn _ _ hp
  ·exact hp.elim
 ·split at hp
  ·exact hn _ _ hp
  ·exact hn _ _ hp
  ·exact hp.elim
theorem ku (hK:qw X) {vo:bh} {N N':Env->ax->Prop} (h:∀e s,N e s->N' e s) {env:Env} {σ:ax} (hp:step X vo N env σ):step X vo N' env σ:=by
 unfold step at hp ⊢
 split at hp
 ·rename_i hw;rw[if_pos hw];exact Di hK (fun v σ'=>h _ _) hp
 ·rename_i hw;rw[if_neg hw];exact h _ _ hp
theorem H9 {env jo:Env} {vo:bh} {σ:ax} {n:AV->ax->Prop} (h:∀t∈vo.op.gQ,env t=jo t) (hv:fJ X false vo env σ n):fJ X false vo jo σ n:=by
 unfold fJ at hv ⊢
 split at hv
 ·rename_i f args eb
  rw[eb]at h
  simp only[gL.gQ]at h
  rw[<-map_congr h];exact hv
 ·rename_i x args eb
  rw[eb]at h
  simp only[gL.gQ,List.mem_append]at h
  rw[<-map_congr (l:=args) fun t ht=>h t (.inr ht),<-bp (x:=x) fun t ht=>h t (.inl ht)];exact hv
 ·rw[<-iC h];exact hv
 ·rw[<-iC h];exact hv
 ·rw[<-iC h];exact hv
 ·rw[<-iC h];exact hv
 ·rw[<-iC h];exact hv
 ·rw[<-tG h];exact hv
theorem mj {x:bh} (hq:lK x=true) {N:Env->ax->Prop} {env:Env} {σ:ax}:step X x N env σ↔∃v g',GS X σ.next x env σ.get v g'/\N (upd env x.dst v) ⟨g',σ.next⟩:=by
 unfold lK at hq
 simp only[Bool.and_eq_true,Bool.not_eq_true',bne_iff_ne]at hq
 obtain⟨xH,tn⟩:=hq
 unfold step GS
 by_cases hw:aH x.guard env=true
 ·rw[if_pos hw]
  simp only[hw,if_true]
  unfold fJ
  split
  ·rename_i eb;simp[eb,gL.mD]at xH
  ·rename_i eb;simp[eb,gL.mD]at xH
  ·rename_i eb;simp[eb,gL.cls]at tn
  ·rename_i eb;simp[eb,gL.cls]at tn
  ·rename_i eb;simp[eb,gL.cls]at tn
  ·rename_i eb;simp[eb,gL.cls]at tn
  ·rename_i eb;simp[eb,gL.cls]at tn
  ·rename_i n1 n2 n3 n4 n5 n6 n7
   have hVS:∀v g',VS X σ.next x env σ.get v g'↔∃mr,eW x.op (dh env) (gh x.hid σ.next σ.get) ⟨x.site,σ.next⟩=some (v,mr)/\g'=jm σ.get ⟨x.site,σ.next⟩ mr:=fun v g'=>by
    unfold VS
    split
    ·rename_i hh;exact(n1 _ _ hh).elim
    ·rename_i hh;exact(n2 _ _ hh).elim
    ·rename_i hh;exact(n3 _ _ _ hh).elim
    ·rename_i hh;exact(n4 _ _ _ hh).elim
    ·rename_i hh;exact(n5 _ _ _ hh).elim
    ·rename_i hh;exact(n6 _ _ hh).elim
    ·rename_i hh;exact(n7 _ _ hh).elim
    ·exact Iff.rfl
   simp only[hVS]
   cases hz:eW x.op (dh env) (gh x.hid σ.next σ.get) ⟨x.site,σ.next⟩with
   |none=>
    exact⟨fun h=>h.elim,fun⟨v,g',⟨mr,h,_⟩,_⟩=>by cases h⟩
   |some p=>
    obtain⟨v,mr⟩:=p
    have key:∀(v':AV) (g':Rows),(∃Rz,some (v,mr)=some (v',Rz)/\g'=jm σ.get ⟨x.site,σ.next⟩ Rz)↔v'=v/\g'=jm σ.get ⟨x.site,σ.next⟩ mr:=fun v' g'=>by
     constructor
     ·rintro⟨Rz,h1,h2⟩
      injection h1 with h1;injection h1 with h1 h3
      subst h1;subst h3
      exact⟨rfl,h2⟩
     ·rintro⟨rfl,rfl⟩;exact⟨mr,rfl,rfl⟩
    have fin:(∃v' g',(∃Rz,some (v,mr)=some (v',Rz)/\g'=jm σ.get ⟨x.site,σ.next⟩ Rz)/\N (upd env x.dst v') ⟨g',σ.next⟩)↔N (upd env x.dst v) ⟨jm σ.get ⟨x.site,σ.next⟩ mr,σ.next⟩:=by
     constructor
     ·rintro⟨v',g',h,hN⟩
      obtain⟨rfl,rfl⟩:=(key v' g').1 h
      exact hN
     ·intro hN;exact⟨v,_,(key _ _).2 ⟨rfl,rfl⟩,hN⟩
    cases mr with
    |none=>exact fin.symm
    |some r=>exact fin.symm
 ·rw[if_neg hw]
  simp only[if_neg hw]
  exact⟨fun h=>⟨_,_,⟨rfl,rfl⟩,h⟩,fun⟨v,g',⟨hv,hg⟩,h⟩=>by rw[hv,hg]at h;exact h⟩
def xv (x:bh) (env:Env) (v:AV):Prop:=if aH x.guard env then eW x.op (dh env) (fun _=>none) ⟨0,0⟩=some (v,none)else v=.undef
theorem wW {x:bh} (hp:x.op.cls=.pure):lK x=true:=by
 unfold lK
 rw[hp]
 cases hc:x.op<;>simp[hc,gL.cls]at hp<;>rfl
theorem tL {x:bh} (hp:x.op.cls=.pure) {N:Env->ax->Prop} {env:Env} {σ:ax}:step X x N env σ↔∃v,xv x env v/\N (upd env x.dst v) σ:=by
 rw[mj (wW hp)]
 unfold GS xv
 by_cases hw:aH x.guard env=true
 ·simp only[hw,if_true]
  constructor
  ·rintro⟨v,g',h,hN⟩
   obtain⟨rfl,dz⟩:=zH hp h
   refine⟨v,?_,hN⟩
   unfold VS at h
   split at h
   ·rename_i eb;rw[eb]at hp;simp[gL.cls]at hp
   ·rename_i eb;rw[eb]at hp;simp[gL.cls]at hp
   ·rename_i eb;rw[eb]at hp;simp[gL.cls]at hp
   ·rename_i eb;rw[eb]at hp;simp[gL.cls]at hp
   ·rename_i eb;rw[eb]at hp;simp[gL.cls]at hp
   ·rename_i eb;rw[eb]at hp;simp[gL.cls]at hp
   ·rename_i eb;rw[eb]at hp;simp[gL.cls]at hp
   ·obtain⟨mr,hq,_⟩:=h
    have VP:mr=none:=by
     cases mr with
     |none=>rfl
     |some r=>have:=wY hq;simp[pj,hp]at this
    subst VP
    rw[<-wZ (g:=gh x.hid σ.next σ.get) (id:=⟨x.site,σ.next⟩) hp];exact hq
  ·rintro⟨v,h,hN⟩
   exact⟨v,σ.get,OJ (mr:=none) (by rw[wZ (g2:=fun _=>none) (id2:=⟨0,0⟩) hp];exact h),hN⟩
 ·simp only[if_neg hw]
  exact⟨fun⟨v,g',⟨hv,hg⟩,h⟩=>⟨v,hv,by rw[hg]at h;exact h⟩,fun⟨v,hv,h⟩=>⟨v,σ.get,⟨hv,rfl⟩,h⟩⟩
theorem K9 {x:bh} {env jo:Env} {v:AV} (h:∀t∈x.gQ,env t=jo t) (hv:xv x env v):xv x jo v:=by
 unfold xv at hv ⊢
 rw[<-oe h,<-tG fun t ht=>h t (sF ht)];exact hv
structure NM (x y:bh):Prop where
 xy:∀k,x.dst=some k->k∉y.gQ
 yx:∀k,y.dst=some k->k∉x.gQ
 dst:∀k,x.dst=some k->y.dst≠some k
theorem od {x y:bh} (h:rF x y=true):NM x y:=by
 unfold rF at h
 simp only[Bool.and_eq_true]at h
 obtain⟨a1,a2⟩:=h
 refine⟨fun k hk=>?_,fun k hk=>?_,fun k hk=>?_⟩
 ·rw[hk]at a1;simp at a1;exact a1.1
 ·rw[hk]at a2;simpa using a2
 ·rw[hk]at a1;simp at a1;exact a1.2
theorem yT {x y:bh} (h:yS x y=true):(NM x y/\x.op.cls=.pure)∨(Dz x y/\lK x=true/\lK y=true):=by
 unfold yS at h
 simp only[Bool.or_eq_true,Bool.and_eq_true,beq_iff_eq]at h
 rcases h with⟨h1,h2⟩|⟨⟨h1,h2⟩,h3⟩
 ·exact .inl ⟨od h1,h2⟩
 ·exact .inr ⟨nP h1,h2,h3⟩
theorem B6 {x y:bh} (h:yS x y=true):lK x=true:=by
 rcases yT h with h|h
 ·exact wW h.2
 ·exact h.2.1
theorem HS (hK:qw X) {x y:bh} (hf:yS x y=true) {N:Env->ax->Prop} {env:Env} {σ:ax} (h:step X x (fun e s=>step X y N e s) env σ):step X y (fun e s=>step X x N e s) env σ:=by
 rcases yT hf with⟨F,hp⟩|⟨F,hx,hy⟩
 ·rw[tL hp]at h
  obtain⟨v,hx,h⟩:=h
  have x8:=fun(v':AV)=>sM (env:=env) (v:=v) (u:=v') F.dst
  have nR:=kO (env:=env) (v:=v) F.xy
  have back:∀(v':AV),xv x (upd env y.dst v') v:=fun v'=>K9 (fun t ht=>(kO F.yx t ht).symm) hx
  unfold step at h ⊢
  rw[oe nR]at h
  split at h
  ·rename_i hw
   rw[if_pos hw]
   refine Di hK (fun v' σ' hN=>?_) (H9 (fun t ht=>nR t (sF ht)) h)
   rw[x8]at hN
   exact(tL hp).2 ⟨v,back v',hN⟩
  ·rename_i hw
   rw[if_neg hw]
   rw[x8]at h
   exact(tL hp).2 ⟨v,back _,h⟩
 ·rw[mj hx]at h
  obtain⟨v,g1,h1,h⟩:=h
  rw[mj hy]at h
  obtain⟨v',g2,h2,h⟩:=h
  obtain⟨yW,q1,q2,q3⟩:=zF F h1 h2
  rw[q3]at h
  exact(mj hy).2 ⟨v',yW,q1,(mj hx).2 ⟨v,g2,q2,h⟩⟩
def A4 (X:fm) (ops:Array Oper) (vl:List bh) (K:Env->ax->Prop):Nat->Array Bool->Env->ax->Prop
 |0,listed,env,σ=>Region.ready .any ops listed=[]/\K env ⟨σ.get,σ.next+1⟩
 |f+1,listed,env,σ=>(Region.ready .any ops listed=[]->K env ⟨σ.get,σ.next+1⟩)/\∀i∈Region.ready .any ops listed,∃vo,vl[i]? =some vo/\step X vo (fun e s=>A4 X ops vl K f (listed.setIfInBounds i true) e s) env σ
theorem Eb {ops:Array Oper} {vl:List bh} {bs:Array Nat} {listed:Array Bool} {i:Nat} (h:qV ops vl bs listed i=true) (j:Nat):qV ops vl bs (listed.setIfInBounds j true) i=true:=by
 unfold qV at h ⊢
 split at h
 ·rename_i x hx
  simp only[List.all_eq_true,Bool.or_eq_true]at h ⊢
  intro k hk
  rcases h k hk with((h|h)|h)|h
  ·exact .inl (.inl (.inl (getD_set_true h)))
  ·exact .inl (.inl (.inr h))
  ·exact .inl (.inr h)
  ·exact .inr h
 ·cases h
theorem tX {ops:Array Oper} {vl:List bh} {listed:Array Bool} {i j:Nat} {vi:bh} (pf:DC ops listed) (h:qV ops vl (iN ops) listed i=true) (hi:vl[i]? =some vi) (hr:i∈Region.ready .any ops listed) (hj:j∈Region.ready .any ops listed) (lr:j≠i):∃vj,vl[j]? =some vj/\yS vi vj=true:=by
 unfold qV at h
 rw[hi]at h
 simp only[List.all_eq_true,Bool.or_eq_true,beq_iff_eq]at h
 obtain⟨_,o,ho,_⟩:=mem_ready.1 hj
 rcases h j (List.mem_range.2 (Array.getElem?_eq_some_iff.1 ho).1)with((h|h)|h)|h
 ·rw[iE hj]at h;cases h
 ·exact absurd h lr
 ·have:=jD pf hj i h
  rw[iE hr]at this;cases this
 ·split at h
  ·rename_i y hy;exact⟨y,hy,h⟩
  ·cases h
theorem Fw (hK:qw X) {ops:Array Oper} {vl:List bh} {K:Env->ax->Prop} {i:Nat} {vi:bh} (hi:vl[i]? =some vi):∀(fuel:Nat) (listed:Array Bool) (env:Env) (σ:ax),
  DC ops listed->i∈Region.ready .any ops listed->qV ops vl (iN ops) listed i=true->step X vi (fun e s=>A4 X ops vl K fuel (listed.setIfInBounds i true) e s) env σ->A4 X ops vl K (fuel+1) listed env σ:=by
 intro fuel
 induction fuel with
 |zero=>
  intro listed env σ pf hr kR H
  refine⟨fun h=>(by rw[h]at hr;cases hr),fun j hj=>?_⟩
  by_cases lr:j=i
  ·subst lr;exact⟨vi,hi,H⟩
  ·obtain⟨vj,F1,SG⟩:=tX pf kR hi hr hj lr
   rw[mj (B6 SG)]at H
   obtain⟨v,g',_,H⟩:=H
   have:=ready_mono hj lr
   rw[H.1]at this;cases this
 |succ fuel ih=>
  intro listed env σ pf hr kR H
  refine⟨fun h=>(by rw[h]at hr;cases hr),fun j hj=>?_⟩
  by_cases lr:j=i
  ·subst lr;exact⟨vi,hi,H⟩
  ·obtain⟨vj,F1,SG⟩:=tX pf kR hi hr hj lr
   refine⟨vj,F1,?_⟩
   have H2:step X vi (fun e s=>step X vj (fun e s=>A4 X ops vl K fuel ((listed.setIfInBounds i true).setIfInBounds j true) e s) e s) env σ:=ku hK (fun e s h=>by
    obtain⟨vj',Al,h'⟩:=h.2 j (ready_mono hj lr)
    rw[F1]at Al;injection Al with Al;subst Al
    exact h') H
   refine ku hK (fun e s h=>?_) (HS hK SG H2)
   refine ih _ _ _ (pf.list hj) (ready_mono hr (fun e=>lr e.symm)) (Eb kR j) ?_
   rw[Array.setIfInBounds_comm _ _ lr]
   exact h
theorem tK {x:bh} (hg:x.guard=none) {N:Env->ax->Prop} {env:Env} {σ:ax}:step X x N env σ=fJ X false x env σ (fun v σ'=>N (upd env x.dst v) σ'):=by
 unfold step
 rw[hg]
 simp[aH]
theorem Ff {x y:bh} {t s sz:Nat} {ys:O} (hx:x.op=.append sz (.t t) ys) (hg:x.guard=none) (hf:FO s x y=true) {N:Env->ax->Prop} {env:Env} {σ:ax} (hl:MU t s ys env σ.next) (h:step X x (fun e s=>step X y N e s) env σ):
  step X y (fun e σ'=>MU t s ys e σ'.next/\step X x N e σ') env σ:=by
 unfold FO at hf
 simp only[Bool.and_eq_true,bne_iff_ne]at hf
 obtain⟨⟨⟨⟨⟨f1,hq⟩,f3⟩,f4⟩,f5⟩,f6⟩:=hf
 have F:=od f1
 obtain⟨⟨len,ht⟩,hsrc⟩:=hl
 have JL:∀k∈x.op.gQ,∀v',upd env y.dst v' k=env k:=fun k hk v'=>kO (env:=env) (v:=v') F.yx k (sF hk)
 have dR:t∈x.op.gQ:=by rw[hx];simp[gL.gQ,il]
 have Dv:∀v',dh (upd env y.dst v') ys=dh env ys:=fun v'=>(bp fun k hk=>by rw[JL k (by rw[hx];simp[gL.gQ,hk])]).symm
 rw[tK hg]at h
 unfold fJ at h
 simp only[hx,fZ]at h
 have ex:dh env (.t t)=.own ⟨s,σ.next⟩ 0 len:=ht
 rw[ex]at h
 cases hr:br σ.get (dh env ys)with
 |none=>rw[hr]at h;exact h.elim
 |some rs=>
  rw[hr]at h
  simp only[Option.bind_some,bc]at h
  cases Jy:σ.get ⟨s,σ.next⟩with
  |none=>rw[Jy]at h;exact h.elim
  |some r=>
   rw[Jy]at h
   simp only[Option.bind_some]at h
   split at h
   ·rename_i v g1 hv
    split at hv
    ·rename_i hcond
     simp only[Option.some.injEq,Prod.mk.injEq]at hv
     obtain⟨rfl,rfl⟩:=hv
     rw[mj hq]at h
     obtain⟨v',g2,hG,hN⟩:=h
     have G9:(⟨y.site,σ.next⟩:Id)≠⟨s,σ.next⟩:=fun e=>f5 (by injection e)
     have JE:(⟨y.site,σ.next⟩:Id)≠⟨x.site,σ.next⟩:=fun e=>f6 (by injection e)
     replace hG:GS X σ.next y env (bU (cw σ.get ⟨s,σ.next⟩) ⟨x.site,σ.next⟩ ⟨true,sz,r.rows++rs⟩) v' g2:=oM (kO F.xy) hG
     have Wa:gh y.hid σ.next σ.get=gh y.hid σ.next (bU (cw σ.get ⟨s,σ.next⟩) ⟨x.site,σ.next⟩ ⟨true,sz,r.rows++rs⟩):=by
      cases hh:y.hid with
      |nil=>rw[hh]at f3;simp at f3
      |cons a l=>
       rw[hh]at f3 f4
       funext i
       show(if (a::l).contains i.site=true/\i.cC=σ.next then none else σ.get i)=if (a::l).contains i.site=true/\i.cC=σ.next then none else _
       by_cases h1:i=⟨x.site,σ.next⟩
       ·subst h1;rw[if_pos ⟨f4,rfl⟩,if_pos ⟨f4,rfl⟩]
       ·by_cases h2:i=⟨s,σ.next⟩
        ·subst h2;rw[if_pos ⟨f3,rfl⟩,if_pos ⟨f3,rfl⟩]
        ·simp only[bU,cw,if_neg h1,if_neg h2]
     obtain⟨my,SI,hG'⟩:∃my,g2=jm (bU (cw σ.get ⟨s,σ.next⟩) ⟨x.site,σ.next⟩ ⟨true,sz,r.rows++rs⟩) ⟨y.site,σ.next⟩ my/\GS X σ.next y env σ.get v' (jm σ.get ⟨y.site,σ.next⟩ my):=by
      unfold GS at hG ⊢
      by_cases wy:aH y.guard env=true
      ·rw[if_pos wy]at hG
       have hcw:y.op.cls≠.write:=by
        unfold lK at hq
        simp only[Bool.and_eq_true,bne_iff_ne]at hq
        exact hq.2
       obtain⟨my,rfl,_,ON⟩:=rN hcw hG
       exact⟨my,rfl,by rw[if_pos wy];exact ON _ Wa⟩
      ·rw[if_neg wy]at hG
       obtain⟨rfl,rfl⟩:=hG
       exact⟨none,rfl,by rw[if_neg wy];exact⟨rfl,rfl⟩⟩
     subst SI
     refine(mj hq).2 ⟨v',_,hG',⟨⟨len,by rw[JL t dR];exact ht⟩,fun id o l he=>hsrc id o l (by rw[<-Dv v'];exact he)⟩,?_⟩
     rw[tK hg]
     unfold fJ
     have ex':dh (upd env y.dst v') (.t t)=.own ⟨s,σ.next⟩ 0 len:=by
      show upd env y.dst v' t= _
      rw[JL t dR];exact ht
     simp only[hx,fZ,ex',Dv v']
     have oz:br (jm σ.get ⟨y.site,σ.next⟩ my) (dh env ys)=some rs:=by
      cases my with
      |none=>exact hr
      |some row=>
       revert hr
       cases hev:dh env ys<;>simp only[br,jm]<;>try exact fun h=>h
       rename_i id o l
       have:id≠⟨y.site,σ.next⟩:=fun e=>hsrc id o l hev (by rw[e])
       simp only[bU,if_neg this];exact fun h=>h
     have VF:jm σ.get ⟨y.site,σ.next⟩ my ⟨s,σ.next⟩=some r:=by
      cases my with
      |none=>exact Jy
      |some row=>simp only[jm,bU,if_neg (fun e=>G9 e.symm:(⟨s,σ.next⟩:Id)≠⟨y.site,σ.next⟩)];exact Jy
     rw[oz]
     simp only[Option.bind_some,bc,VF]
     rw[if_pos hcond]
     have hgg:bU (cw (jm σ.get ⟨y.site,σ.next⟩ my) ⟨s,σ.next⟩) ⟨x.site,σ.next⟩ ⟨true,sz,r.rows++rs⟩=jm (bU (cw σ.get ⟨s,σ.next⟩) ⟨x.site,σ.next⟩ ⟨true,sz,r.rows++rs⟩) ⟨y.site,σ.next⟩ my:=by
      cases my with
      |none=>rfl
      |some row=>
       funext i
       simp only[jm,bU,cw]
       by_cases h1:i=⟨y.site,σ.next⟩
       ·subst h1;rw[if_neg JE,if_neg G9,if_pos rfl,if_pos rfl]
       ·simp only[if_neg h1]
     have hu:=sM (env:=env) (v:=AV.own ⟨x.site,σ.next⟩ 0 (len+rs.length)) (u:=v') F.dst
     show N (upd (upd env y.dst v') x.dst (.own ⟨x.site,σ.next⟩ 0 (len+rs.length))) ⟨bU (cw (jm σ.get ⟨y.site,σ.next⟩ my) ⟨s,σ.next⟩) ⟨x.site,σ.next⟩ ⟨true,sz,r.rows++rs⟩,σ.next⟩
     rw[hgg,<-hu]
     exact hN
    ·cases hv
   ·exact h.elim
theorem Ea {ops:Array Oper} {vl:List bh} {bs:Array Nat} {listed:Array Bool} {i s:Nat} (h:pb ops vl bs listed i s=true) (j:Nat):pb ops vl bs (listed.setIfInBounds j true) i s=true:=by
 unfold pb at h ⊢
 split at h
 ·rename_i x hx
  simp only[List.all_eq_true,Bool.or_eq_true]at h ⊢
  intro k hk
  rcases h k hk with((h|h)|h)|h
  ·exact .inl (.inl (.inl (getD_set_true h)))
  ·exact .inl (.inl (.inr h))
  ·exact .inl (.inr h)
  ·exact .inr h
 ·cases h
theorem B3 {ops:Array Oper} {vl:List bh} {listed:Array Bool} {i j s:Nat} {vi:bh} (pf:DC ops listed) (h:pb ops vl (iN ops) listed i s=true) (hi:vl[i]? =some vi) (hr:i∈Region.ready .any ops listed) (hj:j∈Region.ready .any ops listed) (lr:j≠i):∃vj,vl[j]? =some vj/\FO s vi vj=true:=by
 unfold pb at h
 rw[hi]at h
 simp only[List.all_eq_true,Bool.or_eq_true,beq_iff_eq]at h
 obtain⟨_,o,ho,_⟩:=mem_ready.1 hj
 rcases h j (List.mem_range.2 (Array.getElem?_eq_some_iff.1 ho).1)with((h|h)|h)|h
 ·rw[iE hj]at h;cases h
 ·exact absurd h lr
 ·have:=jD pf hj i h
  rw[iE hr]at this;cases this
 ·split at h
  ·rename_i y hy;exact⟨y,hy,h⟩
  ·cases h
theorem Dj (hK:qw X) {ops:Array Oper} {vl:List bh} {K:Env->ax->Prop} {i t s sz:Nat} {ys:O} {vi:bh} (hi:vl[i]? =some vi) (hx:vi.op=.append sz (.t t) ys) (hg:vi.guard=none):∀(fuel:Nat) (listed:Array Bool) (env:Env) (σ:ax),
  DC ops listed->i∈Region.ready .any ops listed->pb ops vl (iN ops) listed i s=true->MU t s ys env σ.next->step X vi (fun e s=>A4 X ops vl K fuel (listed.setIfInBounds i true) e s) env σ->A4 X ops vl K (fuel+1) listed env σ:=by
 intro fuel
 induction fuel with
 |zero=>
  intro listed env σ pf hr kR Rj H
  refine⟨fun h=>(by rw[h]at hr;cases hr),fun j hj=>?_⟩
  by_cases lr:j=i
  ·subst lr;exact⟨vi,hi,H⟩
  ·exfalso
   have h0:=ready_mono hj lr
   rw[tK hg]at H
   unfold fJ at H
   simp only[hx]at H
   split at H
   ·rw[H.1]at h0;cases h0
   ·exact H
 |succ fuel ih=>
  intro listed env σ pf hr kR Rj H
  refine⟨fun h=>(by rw[h]at hr;cases hr),fun j hj=>?_⟩
  by_cases lr:j=i
  ·subst lr;exact⟨vi,hi,H⟩
  ·obtain⟨vj,F1,SG⟩:=B3 pf kR hi hr hj lr
   refine⟨vj,F1,?_⟩
   have H2:step X vi (fun e s=>step X vj (fun e s=>A4 X ops vl K fuel ((listed.setIfInBounds i true).setIfInBounds j true) e s) e s) env σ:=ku hK (fun e s h=>by
    obtain⟨vj',Al,h'⟩:=h.2 j (ready_mono hj lr)
    rw[F1]at Al;injection Al with Al;subst Al
    exact h') H
   refine ku hK (fun e s h=>?_) (Ff hx hg SG Rj H2)
   refine ih _ _ _ (pf.list hj) (ready_mono hr (fun e=>lr e.symm)) (Ea kR j) h.1 ?_
   rw[Array.setIfInBounds_comm _ _ lr]
   exact h.2
theorem J2 {ops:Array Oper} {vl:List bh} {bs:Array Nat} {listed:Array Bool} {i i' t s:Nat} {y:O} {vo:bh} (h:Qb ops vl bs listed i=some (i',t,s,y,vo)):i'=i/\vl[i]? =some vo/\(∃sz,vo.op=.append sz (.t t) y)/\vo.guard=none/\pb ops vl bs listed i s=true:=by
 unfold Qb at h
 split at h
 ·rename_i x hx
  split at h
  ·rename_i t' s' y' kJ
   split at h
   ·rename_i hf
    simp only[Option.some.injEq,Prod.mk.injEq]at h
    obtain⟨rfl,rfl,rfl,rfl,rfl⟩:=h
    unfold Oq at kJ
    split at kJ
    ·rename_i sz t2 y2 ho oy
     split at kJ
     ·simp only[Option.some.injEq,Prod.mk.injEq]at kJ
      obtain⟨rfl,rfl,rfl⟩:=kJ
      exact⟨rfl,hx,⟨sz,ho⟩,oy,hf⟩
     ·cases kJ
    ·cases kJ
   ·cases h
  ·cases h
 ·cases h
theorem yG {X:fm} {Q:Ex->Env->ax->Prop} {env:Env} {σ:ax}:∀{l:List VC} {t:VC},BF l=some t->ef X t Q env σ->∀c∈l,ef X c Q env σ
 |[],t,h,_,c,hc=>by cases hc
 |[c0],t,h,hw,c,hc=>by
  simp only[BF,Option.some.injEq]at h
  subst h
  rw[List.mem_singleton]at hc
  subst hc;exact hw
 |c0::c1::r,t,h,hw,c,hc=>by
  simp only[BF,Option.map_eq_some_iff]at h
  obtain⟨t',Iq,rfl⟩:=h
  rcases List.mem_cons.1 hc with rfl|hc
  ·exact hw.1
  ·exact yG Iq hw.2 c hc
theorem mapM_mem {α β:Type} {f:α->Option β}:∀{l:List α} {r:List β},l.mapM f=some r->∀i∈l,∃b∈r,f i=some b
 |[],_,_,i,hi=>by cases hi
 |a::l,r,h,i,hi=>by
  simp only[List.mapM_cons,Option.bind_eq_bind,Option.bind_eq_some_iff,Option.pure_def,Option.some.injEq]at h
  obtain⟨b,hb,r',hr,rfl⟩:=h
  rcases List.mem_cons.1 hi with rfl|hi
  ·exact⟨b,by simp,hb⟩
  ·obtain⟨c,hc,hf⟩:=mapM_mem hr i hi
   exact⟨c,List.mem_cons_of_mem _ hc,hf⟩
theorem zz (hK:qw X) {ops:Array Oper} {vl:List bh} {Q:Ex->Env->ax->Prop}:∀(n:Nat) (listed:Array Bool) (t:VC) (env:Env) (σ:ax),xu ops vl (iN ops) n listed=some t->DC ops listed->ef X t Q env σ->A4 X ops vl (Q .normal) n listed env σ:=by
 intro n
 induction n with
 |zero=>
  intro listed t env σ h _ hw
  unfold xu at h
  split at h
  ·rename_i hr
   simp only[Option.some.injEq]at h
   subst h
   exact⟨hr,hw⟩
  ·cases h
 |succ n ih=>
  intro listed t env σ h pf hw
  unfold xu at h
  split at h
  ·rename_i hr
   simp only[Option.some.injEq]at h
   subst h
   exact⟨fun _=>hw,fun i hi=>by rw[hr]at hi;cases hi⟩
  ·rename_i r rs hr
   dsimp only at h
   split at h
   ·rename_i i hfind
    have Mu:=List.mem_of_find?_eq_some hfind
    have yZ:=List.find?_some hfind
    rw[<-hr]at Mu
    split at h
    ·rename_i vo lZ
     simp only[Option.map_eq_some_iff]at h
     obtain⟨t',Iq,rfl⟩:=h
     exact Fw hK lZ n listed env σ pf Mu yZ (ku hK (fun e s h=>ih _ _ _ _ Iq (pf.list Mu) h) hw)
    ·cases h
   ·split at h
    ·rename_i i t s y vo hfind
     obtain⟨i0,uJ,dO⟩:=List.exists_of_findSome?_eq_some hfind
     obtain⟨rfl,lZ,⟨sz,eb⟩,oy,Ms⟩:=J2 dO
     rw[<-hr]at uJ
     simp only[Option.map_eq_some_iff]at h
     obtain⟨t',Iq,rfl⟩:=h
     exact Dj hK lZ eb oy n listed env σ pf uJ Ms hw.1 (ku hK (fun e s h=>ih _ _ _ _ Iq (pf.list uJ) h) hw.2)
    split at h
    ·rename_i l hl
     have dz:=yG h hw
     refine⟨fun h=>(by rw[h]at hr;cases hr),fun i hi=>?_⟩
     rw[hr]at hi
     obtain⟨b,Ln,xG⟩:=mapM_mem hl i hi
     simp only[Option.bind_eq_some_iff,Option.map_eq_some_iff]at xG
     obtain⟨vo,lZ,t',Iq,rfl⟩:=xG
     exact⟨vo,lZ,ku hK (fun e s h=>ih _ _ _ _ Iq (pf.list (by rw[hr];exact hi)) h) (dz _ Ln)⟩
    ·cases h
theorem xw {ops:Array Oper} {vl:List bh} {nt site0:Nat} {draw mk:Bool} {bs:Array Nat} {hidden:List (Nat×Bool)} {K:Env->ax->Prop} {Q:Exit->Act->World->Prop} (dz:allM (kY P ops nt site0 draw mk bs hidden) ops.toList 0=some vl):
  ∀(fuel:Nat) (listed:Array Bool) (env:Env) (σ:ax) (a:Act) (w:World) (D:Nat->Prop) (ι:Names) (U:Nat->Prop),A4 (Sound P) ops vl K fuel listed env σ->gK P hs D ι σ.get w->Used ι σ.next U->(∀s,U s->∃i,s=site0+i/\listed.getD i false=true)->cE P w D ι env a->a.tmps.size=nt->
  (∀jn σ' a' w' D' ι',K jn σ'->Step hs D ι w D' ι' w'->St P hs nt D' ι' jn σ' a' w'->a'.defers=a.defers->σ.next<=σ'.next->Q .normal a' w')->wpAny P .any ops Q fuel listed a w:=by
 intro fuel
 induction fuel with
 |zero=>intro listed env σ a w D ι U h S Us hU E fy hQ;exact⟨h.1,hQ env _ a w D ι h.2 (Step.refl _ _ _ _) ⟨S,Us.next,E,fy⟩ rfl (Nat.le_succ _)⟩
 |succ fuel ih=>
  intro listed env σ a w D ι U h S Us hU E fy hQ
  refine⟨fun hr=>hQ env _ a w D ι (h.1 hr) (Step.refl _ _ _ _) ⟨S,Us.next,E,fy⟩ rfl (Nat.le_succ _),fun i hi=>?_⟩
  obtain⟨vo,lZ,hG⟩:=h.2 i hi
  obtain⟨_,o,ho,_⟩:=mem_ready.1 hi
  obtain⟨vo',nq,Sy⟩:=(lz dz).2 i o (by simpa using ho)
  rw[lZ]at nq;injection nq with nq;subst nq
  rw[Nat.zero_add]at Sy
  obtain⟨hc,hd,Cl,xT,hg⟩:=pO Sy
  have hw:=tO (ops:=ops) (vo:=vo) E hg
  have Vr:¬U vo.site:=fun hu=>by
   obtain⟨i',he,hl⟩:=hU _ hu
   have:i'=i:=ae
   subst this
   rw[iE hi]at hl;cases hl
  have j7:i<listed.size:=by
   have h0:=(mem_ready.1 hi).1
   rcases Nat.lt_or_ge i listed.size with h|h
   ·exact h
   ·simp[Array.getElem?_eq_none h]at h0
  unfold wpOp
  simp only[ho]
  rw[<-hw]
  unfold step at hG
  by_cases Hg:aH vo.guard env=true
  ·rw[if_pos Hg]
   rw[if_pos Hg]at hG
   refine .inl (zC hc hG S Us Vr E fun v σ' u D' ι' w' hn T S' hR U' hle=>?_)
   refine ih _ _ _ _ w' D' ι' _ hn S' U' (fun s Ak=>?_) (by rw[hd];exact nO (pa E T) hR xT fy) (by rw[lJ];exact fy) fun jn σ2 a2 w2 D2 ι2 hk T2 JN Cb mA=>hQ jn σ2 a2 w2 D2 ι2 hk (T.trans T2) JN (Cb.trans (put_defers _ _ _)) (Nat.le_trans hle mA)
   rcases Ak with h|h
   ·obtain⟨i',he,hl⟩:=hU _ h
    exact⟨i',he,getD_set_true hl⟩
   ·exact⟨i,by rw[h,Cl],by simp[j7]⟩
  ·rw[if_neg Hg]
   rw[if_neg Hg]at hG
   refine ih _ _ _ _ w D ι U hG S Us (fun s Ak=>?_) (by rw[hd];exact nO E cN.undef xT fy) (by rw[lJ];exact fy) fun jn σ2 a2 w2 D2 ι2 hk T2 JN Cb mA=>hQ jn σ2 a2 w2 D2 ι2 hk T2 JN (Cb.trans (put_defers _ _ _)) mA
   obtain⟨i',he,hl⟩:=hU _ Ak
   exact⟨i',he,getD_set_true hl⟩
end
end Go.Proofs.YtkbipfflibjfbaaGreat.V

namespace Go.Proofs.YtkbipfflibjfbaaGreat.V
open Go.RowKit
variable {P:Program} {w w':World} {D D' D2:Nat->Prop} {ι ι' ι2:Names}
def Bm (P:Program) (c:Code) (Q:Exit->Act->World->Prop) (a:Act) (w:World):Prop:=
 ∀(b:Frame) (k:List Item) (cs:List Frame),b.kind≠.early->∃e a' w',Q e a' w'/\Arrives P (lone (b.at a (.code c::k)) cs w) b k cs e a' w'
section
variable {Q:Exit->Act->World->Prop} {a:Act}
theorem rq {c:Code} (h:c.wp P Q a w):Bm P c Q a w:=fun b k cs _=>h b k cs
theorem M4 {x y:Code} (h:Bm P x (Exit.then (Bm P y Q) Q) a w):Bm P (.seq x y) Q a w:=by
 intro b k cs hb
 obtain⟨e,a1,w1,hq,jq⟩:=h b (.code y::k) cs hb
 by_cases he:e=.normal
 ·subst he
  obtain⟨e2,a2,w2,tn,Jo⟩:=hq b k cs hb
  exact⟨e2,a2,w2,tn,.of_steps (.head step_seq jq) Jo⟩
 ·refine⟨e,a1,w1,?_,.of_steps (.one step_seq) (.pass (x:=.code y) rfl (fun _ _=>.inl he) jq)⟩
  cases e<;>first|exact absurd rfl he|exact hq
theorem Kf {c:Operand} {x y:Code} {t:Bool} (hc:a.eval c=.bool t) (h:Bm P (if t then x else y) Q a w):Bm P (.cond c x y) Q a w:=
 fun b k cs hb=>let ⟨e,a',w',q,r⟩:=h b k cs hb;⟨e,a',w',q,.of_steps (.one (step_cond hc)) r⟩
theorem HF {id:Nat} {c:Code} (h:Bm P c (Exit.inBlock id Q) a w):Bm P (.block id c) Q a w:=by
 intro b k cs hb
 obtain⟨e,a1,w1,hq,jq⟩:=h b (.inBlock id::k) cs hb
 cases e with
 |normal=>exact⟨.normal,a1,w1,hq,.head step_block (Steps.trans jq (.one step_inBlock))⟩
 |exit kS=>
  by_cases hid:kS=id
  ·simp only[Exit.inBlock,hid,if_true]at hq
   exact⟨.normal,a1,w1,hq,.head step_block (jq k (by simp[exitTo,hid]))⟩
  ·simp only[Exit.inBlock,hid,if_false]at hq
   exact⟨.exit kS,a1,w1,hq,fun k' hk=>.head step_block (jq k' (by simp[exitTo,Ne.symm hid,hk]))⟩
 |goto l=>exact⟨_,a1,w1,hq,fun k' hk=>.head step_block (jq k' (by simp[gotoIn,hk]))⟩
 |ret=>exact⟨_,a1,w1,hq,.of_steps (.one step_block) jq⟩
 |panic ch=>exact⟨_,a1,w1,hq,.of_steps (.one step_block) jq⟩
 |outgrown=>exact⟨_,a1,w1,hq,.of_steps (b:=b) (k:=k) (cs:=cs) (e:=.outgrown) (.one step_block) jq⟩
theorem HG {c:Code} (h:Bm P c (Exit.noGoto Q) a w):Bm P (.scope c) Q a w:=by
 intro b k cs hb
 obtain⟨e,a1,w1,hq,jq⟩:=h b (.inScope c::k) cs hb
 cases e with
 |normal=>exact⟨.normal,a1,w1,hq,.head step_scope (Steps.trans jq (.one step_inScope))⟩
 |exit id=>exact⟨.exit id,a1,w1,hq,fun k' hk=>.head step_scope (jq k' (by simp[exitTo,hk]))⟩
 |goto l=>exact hq.elim
 |ret=>exact⟨_,a1,w1,hq,.of_steps (.one step_scope) jq⟩
 |panic ch=>exact⟨_,a1,w1,hq,.of_steps (.one step_scope) jq⟩
 |outgrown=>exact⟨_,a1,w1,hq,.of_steps (b:=b) (k:=k) (cs:=cs) (e:=.outgrown) (.one step_scope) jq⟩
def vh (P:Program) (c:Code) (Q:Exit->Act->World->Prop):Nat->Act->World->Prop
 |0=>fun _ _=>False
 |n+1=>Bm P c (Exit.then (vh P c Q n) Q)
theorem Kg {c:Code} (n:Nat) (h:vh P c Q n a w):Bm P (.loop c) Q a w:=by
 intro b k cs hb
 have key:∀n a w,vh P c Q n a w->∃e a' w',Q e a' w'/\Arrives P (lone (b.at a (.code c::.inLoop c::k)) cs w) b k cs e a' w':=by
  intro n
  induction n with
  |zero=>intro a w h;exact h.elim
  |succ n ih=>
   intro a w h
   obtain⟨e,a1,w1,hq,jq⟩:=h b (.inLoop c::k) cs hb
   by_cases he:e=.normal
   ·subst he
    obtain⟨e2,a2,w2,tn,Jo⟩:=ih a1 w1 hq
    exact⟨e2,a2,w2,tn,.of_steps (Steps.trans jq (.one step_inLoop)) Jo⟩
   ·refine⟨e,a1,w1,?_,.pass (x:=.inLoop c) rfl (fun _ _=>.inl he) jq⟩
    cases e<;>first|exact absurd rfl he|exact hq
 obtain⟨e,a',w',hq,jq⟩:=key n a w h
 exact⟨e,a',w',hq,.of_steps (.one step_loop) jq⟩
theorem zP {f:FuncId} {fn:Func} {c:Code} {args:Array Value} {R:Ending->World->Prop} (hf:P.funcs[f]? =some fn) (hb:fn.body=some c)
  (h:Bm P c (bodyPost P fn R) {tmps:=args++Array.replicate (fn.ntmps-args.size) undef,defers:=[]} w):Calls P f args w R:=by
 intro cs
 have PG:Frame.enter P f args .normal=({(default:Frame)with fn:=f,kind:=.normal}:Frame).at {tmps:=args++Array.replicate (fn.ntmps-args.size) undef,defers:=[]} [.code c]:=by simp[Frame.enter,Frame.at,hf,hb]
 obtain⟨e,a',w',hq,jq⟩:=h {(default:Frame)with fn:=f,kind:=.normal} [] cs (by simp)
 rw[<-PG]at jq
 cases e with
 |normal=>obtain⟨hd,v,hr,hR⟩:=hq;exact⟨.returned v,w',_,hR,Steps.trans jq (.one step_end),rfl,rfl,hd,rfl,fn,hf,hr⟩
 |ret=>obtain⟨hd,v,hr,hR⟩:=hq;obtain⟨todo,hs⟩:=jq;exact⟨.returned v,w',_,hR,hs,rfl,rfl,hd,rfl,fn,hf,hr⟩
 |panic chain=>obtain⟨hd,hR⟩:=hq;obtain⟨todo,hs⟩:=jq;exact⟨.panicked chain,w',_,hR,hs,rfl,rfl,hd,fn,hf⟩
 |exit id=>exact hq.elim
 |goto l=>exact hq.elim
 |outgrown=>exact⟨.outgrown,w',{(default:Frame)with fn:=f,kind:=.normal},hq,jq.resolve_left (by simp),rfl,trivial⟩
def xL (P:Program) (ops:Array Oper) (Q:Exit->Act->World->Prop) (l:List Nat) (a:Act) (w:World):Prop:=
 ∀(b:Frame) (k:List Item) (cs:List Frame),b.kind≠.early->∃e a' w',Q e a' w'/\Arrives P (lone (b.at a (.inRegion ops l::k)) cs w) b k cs e a' w'
theorem EX {id:Nat} {ops:Array Oper} (h:xL P ops Q (List.range ops.size) a w):Bm P (.region id ops false) Q a w:=
 fun b k cs hb=>let ⟨e,a',w',q,r⟩:=h b k cs hb;⟨e,a',w',q,.of_steps (.one step_region) r⟩
theorem Qi {ops:Array Oper} (h:Q .normal a w):xL P ops Q [] a w:=fun _ _ _ _=>⟨.normal,a,w,h,.one step_region_end⟩
theorem pH {o:Oper} {ys:Nat->Option Bool} (h:o.guard=none):Region.wanted o ys=true:=by simp[Region.wanted,h]
theorem Km {ops:Array Oper} {i:Nat} {rest:List Nat} {o:Oper} {v:Value} (ho:ops[i]? =some o) (hg:o.guard=none) (hr:(execOp a.eval o).run P w=.ok (.value v) w') (h:xL P ops Q rest (a.put o.dst v) w'):xL P ops Q (i::rest) a w:=by
 intro b k cs hb
 obtain⟨e,a',w2,hq,jq⟩:=h b k cs hb
 refine⟨e,a',w2,hq,.of_steps (.one ?_) jq⟩
 have th:(b.at a (.inRegion ops (i::rest)::k)).finish v=b.at (a.put o.dst v) (.inRegion ops rest::k):=by rw[Frame.finish_at,ho];rfl
 rw[<-th]
 refine step_lone_go ?_
 have h2:=stepG_op (P:=P) (b:=b) (k:=k) (cs:=cs) (w:=w) (rest:=rest) ho (pH hg (ys:=yielded ops a.tmps))
 rw[h2];simp[stepG.apply,hr]
theorem Nd {ops:Array Oper} {i:Nat} {rest:List Nat} {o:Oper} {v z:Value} {c cap s r:Nat} {buf:Array Value} (ho:ops[i]? =some o) (hg:o.guard=none) (hr:(execOp a.eval o).run P w=.ok (.comm #[Conc.scase c v z] true .send) w)
  (hc:w.heap[c]? =some (.chan cap buf false s r false)) (gp:buf.size<cap) (h:xL P ops Q rest (a.put o.dst undef) (w.setChan c cap (buf.push v) false (s+1) r false)):xL P ops Q (i::rest) a w:=by
 intro b k cs hb
 obtain⟨e,a',w2,hq,jq⟩:=h b k cs hb
 refine⟨e,a',w2,hq,.of_steps (.one ?_) jq⟩
 have th:(b.at a (.inRegion ops (i::rest)::k)).finish undef=b.at (a.put o.dst undef) (.inRegion ops rest::k):=by rw[Frame.finish_at,ho];rfl
 rw[<-th,Conc.lone_eq_solo,Conc.lone_eq_solo]
 exact Conc.step_lone_send_room (Conc.stepG_comm ho (pH hg) hb hr) hc gp
theorem Nc {ops:Array Oper} {i:Nat} {rest:List Nat} {o:Oper} {z:Value} {c cap s r:Nat} {buf:Array Value} (ho:ops[i]? =some o) (hg:o.guard=none) (hr:(execOp a.eval o).run P w=.ok (.comm #[Conc.rcase c z] true (.recv false)) w)
  (hc:w.heap[c]? =some (.chan cap buf false s r false)) (JM:0<buf.size) (h:xL P ops Q rest (a.put o.dst (buf.getD 0 undef)) (w.setChan c cap (buf.extract 1 buf.size) false s (r+1) false)):xL P ops Q (i::rest) a w:=by
 intro b k cs hb
 obtain⟨e,a',w2,hq,jq⟩:=h b k cs hb
 refine⟨e,a',w2,hq,.of_steps (.one ?_) jq⟩
 have th:(b.at a (.inRegion ops (i::rest)::k)).finish (buf.getD 0 undef)=b.at (a.put o.dst (buf.getD 0 undef)) (.inRegion ops rest::k):=by rw[Frame.finish_at,ho];rfl
 rw[<-th,Conc.lone_eq_solo,Conc.lone_eq_solo]
 exact Conc.step_lone_recv_buf false (Conc.stepG_comm ho (pH hg) hb hr) hc JM
end
section
variable {hs:Nat} {g:Rows} {env:Env} {a:Act} {o:Oper}
theorem MN {x y:O} (hc:qO P o.op=some (.snd x y)):∃x' y',o.op=.send x' y'/\cO P x'=some x/\cO P y'=some y:=by
 unfold qO at hc
 split at hc
 case h_25=>
  rename_i x' y' h
  simp only[Option.bind_eq_bind,Option.bind_eq_some_iff,Option.pure_def,Option.some.injEq,gL.snd.injEq]at hc
  obtain⟨p,h1,q,h2,rfl,rfl⟩:=hc
  exact⟨_,_,h,h1,h2⟩
 all_goals (try unfold ou at hc)<;>(try unfold vN at hc)<;>(try unfold sZ at hc)<;>(repeat' (split at hc))<;>(simp only[Option.bind_eq_bind,Option.bind_eq_some_iff,Option.pure_def,Option.some.injEq,Option.map_eq_some_iff,reduceCtorEq,and_false,exists_false]at hc)
theorem MM {x:O} (hc:qO P o.op=some (.Ql x)):∃t dir e i z x',o.op=.recv t x' false/\P.underlying t=some (.chan dir e)/\P.info? e=some i/\i.zero=some z/\cO P x'=some x:=by
 unfold qO at hc
 split at hc
 case h_26=>
  rename_i t x' h
  split at hc
  ·rename_i dir e ht
   split at hc
   ·rename_i z hz
    simp only[Option.bind_eq_some_iff]at hz
    obtain⟨i,hi,hz⟩:=hz
    simp only[Option.map_eq_some_iff,gL.Ql.injEq]at hc
    obtain⟨p,h1,rfl⟩:=hc
    exact⟨t,dir,e,i,z,x',h,ht,hi,hz,h1⟩
   ·cases hc
  ·cases hc
 all_goals (try unfold ou at hc)<;>(try unfold vN at hc)<;>(try unfold sZ at hc)<;>(repeat' (split at hc))<;>(simp only[Option.bind_eq_bind,Option.bind_eq_some_iff,Option.pure_def,Option.some.injEq,Option.map_eq_some_iff,reduceCtorEq,and_false,exists_false]at hc)
theorem RS {x y:O} {g':Rows} (S:gK P hs D ι g w) (hc:qO P o.op=some (.snd x y)) (E:cE P w D ι env a) (hv:eB g (dh env x) (dh env y)=some g'):
  ∃c cap s r buf u,(execOp a.eval o).run P w=.ok (.comm #[Conc.scase c u (.tuple #[])] true .send) w/\w.heap[c]? =some (.chan cap buf false s r false)/\buf.size<cap/\gK P hs D ι g' (w.setChan c cap (buf.push u) false (s+1) r false)/\Step hs D ι w D ι (w.setChan c cap (buf.push u) false (s+1) r false):=by
 obtain⟨x',y',ho,hx,hy⟩:=MN hc
 have rx:=dv E hx
 have ry:=dv E hy
 unfold eB at hv
 split at hv
 ·rename_i i he
  simp only[Option.bind_eq_some_iff]at hv
  obtain⟨r,hg,hv⟩:=hv
  split at hv
  ·rename_i hcond
   simp only[Option.some.injEq]at hv
   subst hv
   obtain⟨B,c,hu,hB,hk,fy,buf,s,q,hb,Ij,hR⟩:=zQ S rx he hg
   obtain⟨B',dG,RR,_⟩:=S.row i r hg
   rw[hB]at dG;injection dG with dG;subst dG
   have oH:=S.H6 (ob:=.chan c (buf.push (a.eval y')) false (s+1) q false) (r':={r with rows:=r.rows++[[dh env y]]}) hg hcond.1 hB fun hr lF=>⟨RR.sz,fun cs dy=>?_,fun h0=>(by rw[hk]at h0;cases h0),fun m hm=>(by rw[hk]at hm;cases hm),fun c' lg=>?_⟩
   ·exact⟨B.b,c,s,q,buf,a.eval y',by simp[execOp,ho,hu,Conc.scase],hb,by rw[Ij];omega,oH.1,oH.2⟩
   ·rcases List.mem_append.1 dy with h|h
    ·exact RR.flat cs h
    ·rw[List.mem_singleton.1 h]
     intro b tf
     rw[List.mem_singleton.1 tf];exact hcond.2.2
   ·rw[hk]at lg
    simp only[Option.some.injEq,BK.chan.injEq]at lg
    subst lg
    refine⟨fy,_,_,_,lF,by simp[Ij],fun j cs hj=>?_⟩
    rw[List.getElem?_append]at hj
    split at hj
    ·rename_i dO
     obtain⟨b,u,q1,q2,q3⟩:=hR j cs hj
     refine⟨b,u,q1,?_,hr _ _ q3⟩
     rw[Array.getElem?_push,if_neg ae];exact q2
    ·rename_i mz
     have gW:j=r.rows.length:=by
      have:=(List.getElem?_eq_some_iff.1 hj).1
      simp at this;omega
     subst gW
     simp at hj
     subst hj
     exact⟨_,_,rfl,by rw[Array.getElem?_push,if_pos Ij.symm],hr _ _ ry⟩
  ·cases hv
 ·cases hv
theorem RQ {x:O} {g':Rows} {v:AV} (S:gK P hs D ι g w) (hc:qO P o.op=some (.Ql x)) (E:cE P w D ι env a) (hv:eA g (dh env x)=some (v,g')):
  ∃c cap s r buf z,(execOp a.eval o).run P w=.ok (.comm #[Conc.rcase c z] true (.recv false)) w/\w.heap[c]? =some (.chan cap buf false s r false)/\0<buf.size/\gK P hs D ι g' (w.setChan c cap (buf.extract 1 buf.size) false s (r+1) false)/\Step hs D ι w D ι (w.setChan c cap (buf.extract 1 buf.size) false s (r+1) false)/\cN P (w.setChan c cap (buf.extract 1 buf.size) false s (r+1) false) D ι v (buf.getD 0 undef):=by
 obtain⟨t,dir,e,i0,z,x',ho,ht,hi,hz,hx⟩:=MM hc
 have rx:=dv E hx
 unfold eA at hv
 split at hv
 ·rename_i i he
  simp only[Option.bind_eq_some_iff]at hv
  obtain⟨r,hg,hv⟩:=hv
  split at hv
  ·rename_i v' rest sb
   split at hv
   ·rename_i hcond
    simp only[Option.some.injEq,Prod.mk.injEq]at hv
    obtain⟨rfl,rfl⟩:=hv
    obtain⟨B,c,hu,hB,hk,fy,buf,s,q,hb,Ij,hR⟩:=zQ S rx he hg
    obtain⟨B',dG,RR,_⟩:=S.row i r hg
    rw[hB]at dG;injection dG with dG;subst dG
    obtain⟨b0,u0,q1,q2,q3⟩:=hR 0 [v'] (by rw[sb];rfl)
    simp only[List.cons.injEq,and_true]at q1
    subst q1
    have je:0<buf.size:=by rw[Ij,sb];simp
    have P6:buf.getD 0 undef=u0:=by rw[Array.getD_eq_getD_getElem?,q2];rfl
    have oH:=S.H6 (ob:=.chan c (buf.extract 1 buf.size) false s (q+1) false) (r':={r with rows:=rest}) hg hcond hB fun hr lF=>⟨RR.sz,fun cs dy=>RR.flat cs (by rw[sb];exact List.mem_cons_of_mem _ dy),fun h0=>(by rw[hk]at h0;cases h0),fun m hm=>(by rw[hk]at hm;cases hm),fun c' lg=>?_⟩
    ·refine⟨B.b,c,s,q,buf,z,?_,hb,je,oH.1,oH.2,?_⟩
     ·have wI:(zeroValue e).run P w=.ok z w:=by simp[zeroValue,typeInfo,hi,hz]
      simp[execOp,ho,hu,Conc.rcase,run_underlying ht,wI]
     ·rw[P6];exact oH.2.rep q3
    ·rw[hk]at lg
     simp only[Option.some.injEq,BK.chan.injEq]at lg
     subst lg
     refine⟨fy,_,_,_,lF,by simp[Ij,sb],fun j cs hj=>?_⟩
     obtain⟨b,u,k1,k2,k3⟩:=hR (j+1) cs (by rw[sb];simpa using hj)
     refine⟨b,u,k1,?_,hr _ _ k3⟩
     have dO:=(Array.getElem?_eq_some_iff.1 k2).1
     rw[Array.getElem?_extract,if_pos ae,Nat.add_comm 1 j];exact k2
   ·cases hv
  ·cases hv
 ·cases hv
theorem GI {ops:Array Oper} {nt site0:Nat} {K:Env->ax->Prop} {Q:Exit->Act->World->Prop}:∀(l:List Oper) (vl:List bh) (j:Nat) (env:Env) (σ:ax) (a:Act) (w:World) (D:Nat->Prop) (ι:Names),
  ops.toList.drop j=l->allM (kY P ops nt site0 false false #[] []) l j=some vl->cF vl K env σ->gK P hs D ι σ.get w->Used ι σ.next (fun _=>False)->cE P w D ι env a->a.tmps.size=nt->
  (∀jn σ' a' w' D' ι',K jn σ'->Step hs D ι w D' ι' w'->St P hs nt D' ι' jn σ' a' w'->a'.defers=a.defers->σ.next<=σ'.next->Q .normal a' w')->xL P ops Q (List.range' j l.length) a w:=by
 intro l
 induction l with
 |nil=>
  intro vl j env σ a w D ι _ h hv S Us E fy hQ
  simp[allM]at h;subst h
  exact Qi (hQ env ⟨σ.get,σ.next+1⟩ a w D ι hv (Step.refl _ _ _ _) ⟨S,Us.next,E,fy⟩ rfl (Nat.le_succ _))
 |cons o l ih=>
  intro vl j env σ a w D ι hl h hv S Us E fy hQ
  simp only[allM,Option.bind_eq_bind,Option.bind_eq_some_iff,Option.pure_def,Option.some.injEq]at h
  obtain⟨vo,lZ,nE,mB,rfl⟩:=h
  obtain⟨hc,hd,Cl,xT,hg⟩:=pO lZ
  obtain⟨SK,hv⟩:=hv
  have VX:o.guard=none:=by
   split at hg
   ·assumption
   ·obtain⟨t,_,h⟩:=hg
    rw[SK]at h;cases h
  have VY:ops[j]? =some o:=by
   have h0:=congrArg (fun x=>x[0]?) hl
   rw[<-Array.getElem?_toList]
   simpa[List.getElem?_drop]using h0
  have Lu:ops.toList.drop (j+1)=l:=by rw[<-List.drop_drop,hl];rfl
  have go:∀(v:AV) (u:Value) (g2:Rows) (w2:World),cF nE K (upd env vo.dst v) ⟨g2,σ.next⟩->gK P hs D ι g2 w2->Step hs D ι w D ι w2->cN P w2 D ι v u->xL P ops Q (List.range' (j+1) l.length) (a.put o.dst u) w2:=fun v u g2 w2 hn S2 T hR=>
   ih nE (j+1) (upd env vo.dst v) ⟨g2,σ.next⟩ (a.put o.dst u) w2 D ι Lu mB hn S2 Us (by rw[hd];exact nO (pa E T) hR xT fy) (by rw[lJ];exact fy) fun jn σ2 a' w3 D3 ι3 hk T2 OG Cb mA=>hQ jn σ2 a' w3 D3 ι3 hk (T.trans T2) OG (Cb.trans (put_defers _ _ _)) mA
  rw[show List.range' j (o::l).length=j::List.range' (j+1) l.length from rfl]
  split at hv
  ·rename_i x y eb
   split at hv
   ·rename_i g2 Rq
    rw[eb]at hc
    obtain⟨c,cap,s,r,buf,u,jf,hb,gp,S2,T⟩:=RS S hc E Rq
    exact Nd VY VX jf hb gp (go _ _ _ _ hv S2 T cN.undef)
   ·exact hv.elim
  ·rename_i x eb
   split at hv
   ·rename_i v g2 Rq
    rw[eb]at hc
    obtain⟨c,cap,s,r,buf,z,jf,hb,JM,S2,T,hR⟩:=RQ S hc E Rq
    exact Nc VY VX jf hb JM (go _ _ _ _ hv S2 T hR)
   ·exact hv.elim
  ·split at hv
   ·rename_i v hq
    obtain⟨u,jf,hR⟩:=zr hc hq S E
    exact Km VY VX jf (go _ _ _ _ hv S (Step.refl _ _ _ _) hR)
   ·exact hv.elim
end
end Go.Proofs.YtkbipfflibjfbaaGreat.V

namespace Go.Proofs.YtkbipfflibjfbaaGreat.V
open Go.RowKit
variable {P:Program} {w w':World} {D D' D2:Nat->Prop} {ι ι' ι2:Names}
section
variable {hs:Nat} {X:fm}
def U0:Ex->Exit
 | .normal=>.normal
 | .exit id=>.exit id
 | .ret=>.ret
theorem St.drew {nt:Nat} {env:Env} {σ:ax} {a:Act} {D:Nat->Prop} {ι:Names} (h:St P hs nt D ι env σ a w):St P hs nt D ι env σ a w.drew/\Step hs D ι w D ι w.drew:=by
 have T:Step hs D ι w D ι w.drew:=Step.stay h.Gg (fun _ _=>rfl) (Nat.le_refl _) rfl rfl rfl (fun _ h=>h) (fun _ h=>.inl h) (fun _ _ h=>h)
 exact⟨⟨h.Gg.stay (fun _ _=>rfl) (Nat.le_refl _) (fun _ h=>h) h.Gg.dead (fun _ h=>.inl h) (fun _ _ h=>h),h.used,pa h.env T,h.size⟩,T⟩
def qx (P:Program) (hs nt:Nat) (ds:List Deferred) (Q:Ex->Env->ax->Prop) (n0:Nat) (D:Nat->Prop) (ι:Names) (w:World) (Q':Exit->Act->World->Prop):Prop:=
 ∀ex env σ a w' D' ι',Q ex env σ->Step hs D ι w D' ι' w'->St P hs nt D' ι' env σ a w'->a.defers=ds->n0<=σ.next->Q' (U0 ex) a w'
theorem qx.later {nt:Nat} {ds:List Deferred} {Q:Ex->Env->ax->Prop} {n0 n1:Nat} {Q':Exit->Act->World->Prop} (h:qx P hs nt ds Q n0 D ι w Q') (T:Step hs D ι w D' ι' w') (hn:n0<=n1):qx P hs nt ds Q n1 D' ι' w' Q':=
 fun ex env σ a w2 D2 ι2 hq T2 dR hd hle=>h ex env σ a w2 D2 ι2 hq (T.trans T2) dR hd (Nat.le_trans hn hle)
theorem DS (hm:P.follows .mixedOrders=true) {md:List (Nat×Nat)} {nt fid:Nat}:∀(c:Code) (vc:VC),jH P md nt fid c=some vc->∀(Q:Ex->Env->ax->Prop) (env:Env) (σ:ax) (a:Act) (w:World) (D:Nat->Prop) (ι:Names) (Q':Exit->Act->World->Prop),
  ef (Sound P) vc Q env σ->St P hs nt D ι env σ a w->qx P hs nt a.defers Q σ.next D ι w Q'->Bm P c Q' a w:=by
 intro c
 induction c with
 |skip=>
  intro vc h Q env σ a w D ι Q' hv dR hQ
  simp[jH]at h;subst h
  exact rq <| wp_skip (hQ .normal env σ a w D ι hv (Step.refl _ _ _ _) dR rfl (Nat.le_refl _))
 |exit id=>
  intro vc h Q env σ a w D ι Q' hv dR hQ
  simp[jH]at h;subst h
  exact rq <| wp_exit (hQ (.exit id) env σ a w D ι hv (Step.refl _ _ _ _) dR rfl (Nat.le_refl _))
 |ret=>
  intro vc h Q env σ a w D ι Q' hv dR hQ
  simp[jH]at h;subst h
  exact rq <| wp_ret (hQ .ret env σ a w D ι hv (Step.refl _ _ _ _) dR rfl (Nat.le_refl _))
 |seq x y ihx ihy=>
  intro vc h Q env σ a w D ι Q' hv dR hQ
  simp only[jH,Option.bind_eq_bind,Option.bind_eq_some_iff,Option.pure_def,Option.some.injEq]at h
  obtain⟨vx,hx,vy,hy,rfl⟩:=h
  refine M4 (ihx vx hx _ env σ a w D ι _ hv dR fun ex fA σ1 a1 w1 D1 ι1 hq T gr hd hle=>?_)
  cases ex with
  |normal=>exact ihy vy hy Q fA σ1 a1 w1 D1 ι1 Q' hq gr (by rw[hd];exact hQ.later T hle)
  |exit id=>exact hQ (.exit id) fA σ1 a1 w1 D1 ι1 hq T gr hd hle
  |ret=>exact hQ .ret fA σ1 a1 w1 D1 ι1 hq T gr hd hle
 |cond c x y ihx ihy=>
  intro vc h Q env σ a w D ι Q' hv dR hQ
  simp only[jH,Option.bind_eq_bind,Option.bind_eq_some_iff,Option.pure_def,Option.some.injEq]at h
  obtain⟨c',hc,vx,hx,vy,hy,rfl⟩:=h
  unfold ef at hv
  have hr:=dv dR.env hc
  split at hv
  ·rename_i b hb
   rw[hb]at hr
   refine Kf (fa hr) ?_
   cases b with
   |true=>exact ihx vx hx Q env σ a w D ι Q' hv dR hQ
   |false=>exact ihy vy hy Q env σ a w D ι Q' hv dR hQ
  ·exact hv.elim
 |block id c ih=>
  intro vc h Q env σ a w D ι Q' hv dR hQ
  simp only[jH,Option.map_eq_some_iff]at h
  obtain⟨vx,hx,rfl⟩:=h
  refine HF (ih vx hx _ env σ a w D ι _ hv dR fun ex fA σ1 a1 w1 D1 ι1 hq T gr hd hle=>?_)
  cases ex with
  |normal=>exact hQ .normal fA σ1 a1 w1 D1 ι1 hq T gr hd hle
  |ret=>exact hQ .ret fA σ1 a1 w1 D1 ι1 hq T gr hd hle
  |exit kS=>
   simp only[bo]at hq
   simp only[U0,Exit.inBlock]
   by_cases hid:kS=id
   ·rw[if_pos hid]at hq ⊢;exact hQ .normal fA σ1 a1 w1 D1 ι1 hq T gr hd hle
   ·rw[if_neg hid]at hq ⊢;exact hQ (.exit kS) fA σ1 a1 w1 D1 ι1 hq T gr hd hle
 |loop c ih=>
  intro vc h Q env σ a w D ι Q' hv dR hQ
  simp only[jH,Option.map_eq_some_iff]at h
  obtain⟨vx,hx,rfl⟩:=h
  obtain⟨n,hv⟩:=hv
  refine Kg n ?_
  have key:∀n env σ a w D ι,CF (ef (Sound P) vx) Q n env σ->St P hs nt D ι env σ a w->qx P hs nt a.defers Q σ.next D ι w Q'->vh P c Q' n a w:=by
   intro n
   induction n with
   |zero=>intro env σ a w D ι h;exact h.elim
   |succ n ihn=>
    intro env σ a w D ι h dR hQ
    refine ih vx hx _ env σ a w D ι _ h dR fun ex fA σ1 a1 w1 D1 ι1 hq T gr hd hle=>?_
    cases ex with
    |normal=>exact ihn fA σ1 a1 w1 D1 ι1 hq gr (by rw[hd];exact hQ.later T hle)
    |exit id=>exact hQ (.exit id) fA σ1 a1 w1 D1 ι1 hq T gr hd hle
    |ret=>exact hQ .ret fA σ1 a1 w1 D1 ι1 hq T gr hd hle
  exact key n env σ a w D ι hv dR hQ
 |region id ops draw=>
  intro vc h Q env σ a w D ι Q' hv dR hQ
  simp only[jH,L2]at h
  split at h
  ·rename_i hmode
   have PF:draw=true:=by
    simp only[Bool.and_eq_true]at hmode;exact hmode.1
   subst PF
   split at h
   ·rename_i vl dz
    obtain⟨jU,T0⟩:=dR.drew
    have qY:=zz (X:=Sound P) ly ops.size _ vc env σ h (fun k i h=>by
     exfalso
     rcases Nat.lt_or_ge k ops.size with hk|hk
     ·simp[hk]at h
     ·simp[Nat.not_lt.2 hk]at h) hv
    refine rq (wp_region_any hm ?_)
    exact xw dz ops.size _ env σ a w.drew D ι (fun _=>False) qY jU.Gg jU.used (fun _ h=>h.elim) jU.env jU.size fun fA σ1 a1 w1 D1 ι1 hk T gr hd hle=>hQ .normal fA σ1 a1 w1 D1 ι1 hk (T0.trans T) gr hd hle
   ·cases h
  split at h
  ·rename_i hcom
   have PF:draw=false:=by
    simp only[Bool.and_eq_true,Bool.not_eq_true']at hcom;exact hcom.1
   subst PF
   simp only[Option.map_eq_some_iff]at h
   obtain⟨vl,mB,rfl⟩:=h
   have dz:allM (kY P ops nt ((fid*1000+id)*1000) false false #[] []) ops.toList 0=some vl:=by
    unfold o5 at mB
    simp only[Bool.false_eq_true,if_false,Bool.not_false,Bool.true_or,if_true]at mB
    split at mB
    ·rename_i nE h;simp at mB;subst mB;exact h
    ·cases mB
   refine EX ?_
   have:=GI (Q:=Q') ops.toList vl 0 env σ a w D ι rfl dz hv dR.Gg dR.used dR.env dR.size fun fA σ1 a1 w1 D1 ι1 hk T gr hd hle=>hQ .normal fA σ1 a1 w1 D1 ι1 hk T gr hd hle
   rwa [<-List.range_eq_range',Array.length_toList]at this
  generalize (rn md id==1)=mk at h
  simp only[Option.map_eq_some_iff]at h
  obtain⟨vl,mB,rfl⟩:=h
  cases draw with
  |false=>
   have dz:∃nE,allM (kY P ops nt ((fid*1000+id)*1000) false mk #[] []) ops.toList 0=some nE/\vl=nE:=by
    unfold o5 at mB
    simp only[Bool.false_eq_true,if_false,Bool.not_false,Bool.true_or,if_true]at mB
    split at mB
    ·rename_i nE h;simp at mB;exact⟨nE,h,mB.symm⟩
    ·cases mB
   obtain⟨nE,dz,rfl⟩:=dz
   refine rq (wp_region_list ?_)
   exact zo ops.toList vl 0 env σ a w D ι (fun _=>False) dz hv dR.Gg dR.used (fun _ h=>h.elim) dR.env dR.size fun fA σ1 a1 w1 D1 ι1 hk T gr hd hle=>hQ .normal fA σ1 a1 w1 D1 ι1 hk T gr hd hle
  |true=>
   have dz:∃hidden nE,allM (kY P ops nt ((fid*1000+id)*1000) true mk (iN ops) hidden) ops.toList 0=some nE/\vl=nE/\nN ops nE (iN ops)=true:=by
    unfold o5 at mB
    simp only[if_true,Bool.not_true,Bool.false_or]at mB
    split at mB
    ·rename_i nE h
     split at mB
     ·rename_i k5;simp at mB;exact⟨_,nE,h,mB.symm,k5⟩
     ·cases mB
    ·cases mB
   obtain⟨hidden,nE,dz,rfl,k5⟩:=dz
   obtain⟨jU,T0⟩:=dR.drew
   obtain⟨hlen,_⟩:=lz dz
   have iU:vl.length=ops.size:=by rw[hlen];simp
   have qY:=sN (X:=Sound P) (K:=Q .normal) (n:=σ.next) k5 iU vl 0 (Array.replicate ops.size false) env σ.get (by simp) (by simp) (fun i hi=>by simp[hi]) (by simp[iU]) (fun k i h=>by
    exfalso
    rcases Nat.lt_or_ge k ops.size with hk|hk
    ·simp[hk]at h
    ·simp[Nat.not_lt.2 hk]at h) hv
   refine rq (wp_region_any hm ?_)
   rw[iU]at qY
   exact pM dz ops.size _ env σ.get a w.drew D ι (fun _=>False) qY jU.Gg jU.used (fun _ h=>h.elim) jU.env jU.size fun fA g1 a1 w1 D1 ι1 U1 hk T S1 OI E1 sS hd=>hQ .normal fA ⟨g1,σ.next+1⟩ a1 w1 D1 ι1 hk (T0.trans T) ⟨S1,OI.next,E1,sS⟩ hd (Nat.le_succ _)
 |label l=>
  intro vc h Q env σ a w D ι Q' hv dR hQ
  simp[jH]at h;subst h
  exact rq <| wp_label (hQ .normal env σ a w D ι hv (Step.refl _ _ _ _) dR rfl (Nat.le_refl _))
 |scope c ih=>
  intro vc h Q env σ a w D ι Q' hv dR hQ
  simp only[jH]at h
  refine HG (ih vc h Q env σ a w D ι _ hv dR fun ex fA σ1 a1 w1 D1 ι1 hq T gr hd hle=>?_)
  have h1:=hQ ex fA σ1 a1 w1 D1 ι1 hq T gr hd hle
  cases ex with
  |normal=>exact h1
  |exit id=>exact h1
  |ret=>exact h1
 |_=>
  intro vc h
  simp[jH]at h
def Kx (tmps:Array Value):ResultVar->Sem Value
 | .tmp t=>pure (tmps.getD t undef)
 | .cell a t=>do loadVar t (<-asAddr (tmps.getD a undef))
theorem E6 (fn:Func) (tmps:Array Value):results fn tmps=(do
  let vs <-fn.results.mapM (Kx tmps)
  pure (if h:vs.size=1 then vs[0]else .tuple vs)):=by
 unfold results
 congr 2
theorem uo {nt:Nat} {env:Env} {σ:ax} {a:Act} {D:Nat->Prop} {ι:Names} (dR:St P hs nt D ι env σ a w):∀(rs:List ResultVar) (vr:List qg) (vs:List AV),rs.mapM (GF P)=some vr->fo env σ.get vr=some vs->
  ∃us:List Value,(rs.mapM (Kx a.tmps)).run P w=.ok us w/\us.length=vs.length/\∀(j:Nat) (v:AV),vs[j]? =some v->∃u,us[j]? =some u/\cN P w D ι v u
 |[],vr,vs,h,hv=>by
  simp at h;subst h
  simp[fo]at hv;subst hv
  exact⟨[],by simp,rfl,fun j v h=>by simp at h⟩
 |r::rs,vr,vs,h,hv=>by
  simp only[List.mapM_cons,Option.bind_eq_bind,Option.bind_eq_some_iff]at h
  obtain⟨x,hx,vr',hr,h⟩:=h
  simp at h;subst h
  simp only[fo,Option.bind_eq_some_iff,Option.map_eq_some_iff]at hv
  obtain⟨v,uf,TD,ME,rfl⟩:=hv
  obtain⟨us,h1,h2,h3⟩:=uo dR rs vr' TD hr ME
  have one:∃u,(Kx a.tmps r).run P w=.ok u w/\cN P w D ι v u:=by
   cases r with
   |tmp t=>
    simp[GF]at hx;subst hx
    simp[gS]at uf;subst uf
    exact⟨_,rfl,dR.env t⟩
   |cell b t=>
    simp only[GF,Option.bind_eq_bind,Option.bind_eq_some_iff,Option.pure_def,Option.some.injEq]at hx
    obtain⟨ag,uX,n,hn,rfl⟩:=hx
    simp only[gS]at uf
    have ij:=dR.env b
    unfold ld at uf
    split at uf
    ·rename_i kS i' oo hb
     rw[hb]at ij
     obtain⟨B,he,hB,hk⟩:=ji ij
     simp only[Option.bind_eq_some_iff]at uf
     obtain⟨cs,dy,hp⟩:=uf
     obtain⟨B',r0,Il,dG,R,hi,fl,f,hf⟩:=KC (S:=dR.Gg) dy (fun B2 h2=>by rw[hB]at h2;injection h2 with h2;subst h2;exact hk)
     rw[hB]at dG;injection dG with dG;subst dG
     obtain⟨u,k1,k2⟩:=ll (w:=w) (b:=B.b) (oo:=i'*B.sz+oo) (f:=fun j=>f (oo+j)) uX hn hp (fun a ha=>fl a (List.mem_of_mem_drop ha)) (fun j hj=>by
      rw[Nat.add_assoc];exact(hf _ (by simp at hj;omega)).1) (fun j a ha=>by
      simp at ha;exact(hf _ ((List.getElem?_eq_some_iff.1 ha).1)).2 _ ha)
     exact⟨u,by simp only[Kx,he,asAddr,Sem.run_bind,Sem.run_pure,Result.andThen_ok,k1],k2⟩
    ·rename_i cs hb
     rw[hb]at ij
     obtain⟨b',oo,vs2,he,q1,q2,q3,q4⟩:=lL ij
     obtain⟨u,k1,k2⟩:=ll (w:=w) (b:=b') (oo:=oo) (f:=vs2) uX hn uf q2 q3 (fun j a ha=>.eO _ _ (q4 j a ha))
     exact⟨u,by simp only[Kx,he,asAddr,Sem.run_bind,Sem.run_pure,Result.andThen_ok,k1],k2⟩
    ·simp at uf
  obtain⟨u,hu,xX⟩:=one
  refine⟨u::us,?_,by simp[h2],fun j v' hj=>?_⟩
  ·rw[List.mapM_cons]
   simp only[Sem.run_bind,hu,h1,Result.andThen_ok,Sem.run_pure]
  ·cases j with
   |zero=>simp at hj;subst hj;exact⟨u,rfl,xX⟩
   |succ j=>simp at hj ⊢;exact h3 j v' hj
theorem DL {f:Nat} {fn:Func} {c:Code} {args:List AV} {σ:ax} {K:AV->ax->Prop} {vr:List qg} (Uh:P.funcs[f]? =some fn) (hc:fn.body=some c) (hr:fn.results.toList.mapM (GF P)=some vr) (ha:fn.params.size+fn.nfree=args.length) (hle:fn.params.size+fn.nfree<=fn.ntmps)
  (h:∀(hs:Nat) (w:World) (D:Nat->Prop) (ι:Names) (a:Act) (Q':Exit->Act->World->Prop),St P hs fn.ntmps D ι (cD args) σ a w->qx P hs fn.ntmps a.defers (mH vr K) σ.next D ι w Q'->Bm P c Q' a w):Sound P f args σ K:=by
 intro hs D ι w vs S Us A
 have fy:vs.size=args.length:=A.1
 refine zP Uh hc ?_
 refine h hs w D ι _ _ ⟨S,Us,fun t=>?_,by simp;omega⟩ fun ex fA σ1 a1 w1 D1 ι1 hq T gr hd hle=>?_
 ·simp only[cD]
  by_cases dO:t<args.length
  ·obtain⟨u,hu,xX⟩:=A.2 t args[t] (List.getElem?_eq_getElem dO)
   have e1:args.getD t .undef=args[t]:=by simp[List.getD_eq_getElem?_getD,dO]
   have e2:(vs++Array.replicate (fn.ntmps-vs.size) undef).getD t undef=u:=by
    simp only[Array.getD_eq_getD_getElem?]
    rw[Array.getElem?_append_left ae,hu];rfl
   rw[e1,e2];exact xX
  ·have e1:args.getD t .undef=.undef:=by simp[List.getD_eq_getElem?_getD,Nat.le_of_not_lt dO]
   have e2:(vs++Array.replicate (fn.ntmps-vs.size) undef).getD t undef=undef:=by
    simp only[Array.getD_eq_getD_getElem?]
    rw[Array.getElem?_append_right ae,Array.getElem?_replicate]
    split<;>rfl
   rw[e1,e2];exact cN.undef
 ·have fin:(∃vs,fo fA σ1.get vr=some vs/\K (eJ vs) σ1)->a1.defers=[]/\∃v,(results fn a1.tmps).run P w1=.ok v w1/\∃r g' n' D' ι' u,Ending.returned v=.returned u/\K r ⟨g',n'⟩/\Step hs D ι w D' ι' w1/\gK P hs D' ι' g' w1/\Used ι' n' (fun _=>False)/\σ.next<=n'/\cN P w1 D' ι' r u:=by
   rintro⟨avs,ME,hK⟩
   obtain⟨us,h1,h2,h3⟩:=uo gr fn.results.toList vr avs hr ME
   have PW:(results fn a1.tmps).run P w1=.ok (if h:us.toArray.size=1 then us.toArray[0]else .tuple us.toArray) w1:=by
    rw[E6,Array.mapM_eq_mapM_toList]
    simp only[Sem.run_bind,Sem.run_map,h1,Result.andThen_ok,Sem.run_pure]
   refine⟨hd,_,PW,eJ avs,σ1.get,σ1.next,D1,ι1,_,rfl,hK,T,gr.Gg,gr.used,hle,?_⟩
   unfold eJ
   split
   ·rename_i v
    have hl:us.length=1:=h2
    obtain⟨u,hu,xX⟩:=h3 0 v rfl
    rw[dif_pos (by simpa using hl)]
    have:us.toArray[0]'(by simp[hl])=u:=by
     have:=(List.getElem?_eq_some_iff.1 hu).2
     simpa using this
    rw[this];exact xX
   ·rename_i gI
    rw[dif_neg (by
     simp only[List.size_toArray,h2]
     intro h
     obtain⟨v,hv⟩:=List.length_eq_one_iff.1 h
     exact gI v hv)]
    exact .iJ _ _ (fun j=>us.getD j undef) (by simp[h2]) (fun j hj=>by
     have:j<us.length:=by rw[h2];exact hj
     simp[this]) (fun j v hj=>by
     obtain⟨u,hu,xX⟩:=h3 j v hj
     simpa[List.getD_eq_getElem?_getD,hu]using xX)
  cases ex with
  |normal=>exact fin hq
  |ret=>exact fin hq
  |exit id=>exact hq.elim
theorem Jl (hm:P.follows .mixedOrders=true) {f:Nat} {md:List (Nat×Nat)} {vf:A9} {args:List AV} {σ:ax} {K:AV->ax->Prop} (hf:xP P f md=some vf) (ha:vf.zk=args.length) (h:ef (Sound P) vf.body (mH vf.res K) (cD args) σ):Sound P f args σ K:=by
 unfold xP at hf
 split at hf
 ·rename_i fn Uh
  split at hf
  ·rename_i c hc
   simp only[Option.bind_eq_bind,Option.bind_eq_some_iff]at hf
   obtain⟨vb,hb,vr,hr,hf⟩:=hf
   split at hf
   ·rename_i hle
    simp only[Option.pure_def,Option.some.injEq]at hf
    subst hf
    simp only at ha h
    exact DL Uh hc hr ha hle fun hs w D ι a Q' dR hQ=>DS hm c vb hb (mH vr K) (cD args) σ a w D ι Q' h dR hQ
   ·simp at hf
  ·simp at hf
 ·simp at hf
def Ox (P:Program) (X:fm):fm:=fun f args σ K=>(∃md vf,xP P f md=some vf/\vf.zk=args.length/\((∀a∈args,eZ a)->ef X vf.body (mH vf.res K) (cD args) σ))∨Sound P f args σ K
def Call (P:Program):fm:=fun f args σ K=>∀X:fm,qw X->(∀f args σ K,Ox P X f args σ K->X f args σ K)->X f args σ K
theorem gG (hm:P.follows .mixedOrders=true) {f:Nat} {args:List AV} {σ:ax} {K:AV->ax->Prop} (h:Call P f args σ K):Sound P f args σ K:=
 h (Sound P) ly fun f args σ K hs=>by
  rcases hs with⟨md,vf,h1,h2,h3⟩|h
  ·intro hs D ι w vs S U A
   exact Jl hm h1 h2 (h3 (pw fun j a hj=>by obtain⟨u,_,hr⟩:=A.2 j a hj;exact hr.J0)) hs D ι w vs S U A
  ·exact h
end
end Go.Proofs.YtkbipfflibjfbaaGreat.V

namespace Go.Proofs.YtkbipfflibjfbaaGreat.V
open Go.RowKit
variable {P:Program} {X Y:fm}
theorem IC (h:∀f args σ K,X f args σ K->Y f args σ K) {f:Nat} {args:List AV} {σ:ax} {K:AV->Prop} (hp:gN X f args σ K):gN Y f args σ K:=by
 rcases hp with hp|⟨a,h1,h2⟩
 ·exact .inl (h _ _ _ _ hp)
 ·exact .inr ⟨a,h1,h _ _ _ _ h2⟩
theorem LH (h:∀f args σ K,X f args σ K->Y f args σ K) {f:Nat} {args:List AV} {σ:ax} {sz:Nat} {rows:List (List AV)} (hp:CM X f args σ sz rows):CM Y f args σ sz rows:=by
 obtain⟨h1,a,h2,h3⟩:=hp
 exact⟨h1,a,h2,h _ _ _ _ h3⟩
theorem qQ (h:∀f args σ K,X f args σ K->Y f args σ K) (hK:∀f args σ K K',(∀r σ',K r σ'->K' r σ')->Y f args σ K->Y f args σ K') {draw:Bool} {hid:List Nat} {site:Nat} {f:Nat} {args:List AV} {σ:ax} {n n':AV->ax->Prop} (hn:∀v σ',n v σ'->n' v σ') (hp:cJ X draw hid site f args σ n):cJ Y draw hid site f args σ n':=by
 rcases hp with⟨r,h1,h2⟩|⟨h1,h2⟩|⟨h1,sz,rows,h2,h3⟩
 ·exact .inl ⟨r,IC h h1,hn _ _ h2⟩
 ·exact .inr (.inl ⟨h1,hK _ _ _ _ _ hn (h _ _ _ _ h2)⟩)
 ·exact .inr (.inr ⟨h1,sz,rows,LH h h2,hn _ _ h3⟩)
theorem sP (h:∀f args σ K,X f args σ K->Y f args σ K) (hK:∀f args σ K K',(∀r σ',K r σ'->K' r σ')->Y f args σ K->Y f args σ K') {draw:Bool} {o:bh} {env:Env} {σ:ax} {n n':AV->ax->Prop} (hn:∀v σ',n v σ'->n' v σ') (hp:fJ X draw o env σ n):fJ Y draw o env σ n':=by
 unfold fJ at hp ⊢
 split at hp
 ·exact qQ h hK hn hp
 ·split at hp
  ·exact qQ h hK hn hp
  ·exact qQ h hK hn hp
  ·exact hp.elim
 ·split at hp
  ·exact hn _ _ hp
  ·exact hp.elim
 ·split at hp
  ·exact hn _ _ hp
  ·exact hp.elim
 ·split at hp
  ·exact hn _ _ hp
  ·exact hp.elim
 ·split at hp
  ·exact hn _ _ hp
  ·exact hp.elim
 ·split at hp
  ·exact hn _ _ hp
  ·exact hp.elim
 ·split at hp
  ·exact hn _ _ hp
  ·exact hn _ _ hp
  ·exact hp.elim
theorem oh (h:∀f args σ K,X f args σ K->Y f args σ K) (hK:∀f args σ K K',(∀r σ',K r σ'->K' r σ')->Y f args σ K->Y f args σ K') {draw:Bool} {Q Q':Env->ax->Prop} (hQ:∀e s,Q e s->Q' e s):∀(l:List bh) (env:Env) (σ:ax),wpOps X draw l Q env σ->wpOps Y draw l Q' env σ
 |[],env,σ,hp=>hQ _ _ hp
 |o::r,env,σ,hp=>by
  unfold wpOps at hp ⊢
  split at hp
  ·rename_i hw;rw[if_pos hw];exact sP h hK (fun v σ'=>oh h hK hQ r _ _) hp
  ·rename_i hw;rw[if_neg hw];exact oh h hK hQ r _ _ hp
theorem og {Q Q':Env->ax->Prop} (hQ:∀e s,Q e s->Q' e s):∀(l:List bh) (env:Env) (σ:ax),cF l Q env σ->cF l Q' env σ
 |[],env,σ,hp=>hQ _ _ hp
 |o::r,env,σ,hp=>by
  unfold cF at hp ⊢
  refine⟨hp.1,?_⟩
  replace hp:=hp.2
  split at hp
  ·split at hp
   ·exact og hQ r _ _ hp
   ·exact hp.elim
  ·split at hp
   ·exact og hQ r _ _ hp
   ·exact hp.elim
  ·split at hp
   ·exact og hQ r _ _ hp
   ·exact hp.elim
theorem kQ (h:∀f args σ K,X f args σ K->Y f args σ K) (hK:∀f args σ K K',(∀r σ',K r σ'->K' r σ')->Y f args σ K->Y f args σ K'):∀(c:VC) (Q Q':Ex->Env->ax->Prop) (env:Env) (σ:ax),(∀x e s,Q x e s->Q' x e s)->ef X c Q env σ->ef Y c Q' env σ:=by
 intro c
 induction c with
 |skip=>intro Q Q' env σ hQ hp;exact hQ _ _ _ hp
 |exit id=>intro Q Q' env σ hQ hp;exact hQ _ _ _ hp
 |ret=>intro Q Q' env σ hQ hp;exact hQ _ _ _ hp
 |one o c ih=>
  intro Q Q' env σ hQ hp
  unfold ef at hp ⊢
  split at hp
  ·rename_i hw;rw[if_pos hw];exact sP h hK (fun v σ'=>ih Q Q' _ _ hQ) hp
  ·rename_i hw;rw[if_neg hw];exact ih Q Q' _ _ hQ hp
 |both a b iha ihb=>intro Q Q' env σ hQ hp;exact⟨iha Q Q' env σ hQ hp.1,ihb Q Q' env σ hQ hp.2⟩
 |loc t s y c ih=>intro Q Q' env σ hQ hp;exact⟨hp.1,ih Q Q' env σ hQ hp.2⟩
 |O3 ops=>intro Q Q' env σ hQ hp;exact og (hQ .normal) ops env σ hp
 |eS draw ops=>intro Q Q' env σ hQ hp;exact oh h hK (hQ .normal) ops env σ hp
 |seq a b iha ihb=>
  intro Q Q' env σ hQ hp
  refine iha _ _ env σ (fun x e s hx=>?_) hp
  cases x with
  |normal=>exact ihb Q Q' e s hQ hx
  |exit id=>exact hQ _ _ _ hx
  |ret=>exact hQ _ _ _ hx
 |cond c a b iha ihb=>
  intro Q Q' env σ hQ hp
  unfold ef at hp ⊢
  split at hp
  ·rename_i t ht
   cases t with
   |true=>exact iha Q Q' env σ hQ hp
   |false=>exact ihb Q Q' env σ hQ hp
  ·exact hp.elim
 |block id a iha=>
  intro Q Q' env σ hQ hp
  refine iha _ _ env σ (fun x e s hx=>?_) hp
  cases x with
  |normal=>exact hQ _ _ _ hx
  |ret=>exact hQ _ _ _ hx
  |exit kS=>
   unfold bo at hx ⊢
   dsimp only at hx ⊢
   split at hx
   ·rename_i hid;rw[if_pos hid];exact hQ _ _ _ hx
   ·rename_i hid;rw[if_neg hid];exact hQ _ _ _ hx
 |loop a iha=>
  intro Q Q' env σ hQ hp
  obtain⟨n,hp⟩:=hp
  refine⟨n,?_⟩
  induction n generalizing env σ with
  |zero=>exact hp
  |succ n ihn=>
   refine iha _ _ env σ (fun x e s hx=>?_) hp
   cases x with
   |normal=>exact ihn e s hx
   |exit id=>exact hQ _ _ _ hx
   |ret=>exact hQ _ _ _ hx
theorem aU:qw (Call P):=fun _ _ _ _ _ hK h X hX hc=>hX _ _ _ _ _ hK (h X hX hc)
theorem yp {f:Nat} {args:List AV} {σ:ax} {K:AV->ax->Prop} (h:Ox P (Call P) f args σ K):Call P f args σ K:=by
 intro X hX hc
 refine hc _ _ _ _ ?_
 rcases h with⟨md,vf,h1,h2,h3⟩|h
 ·exact .inl ⟨md,vf,h1,h2,fun hl=>kQ (fun f args σ K h=>h X hX hc) hX _ _ _ _ _ (fun _ _ _ h=>h) (h3 hl)⟩
 ·exact .inr h
theorem vD {f:Nat} {md:List (Nat×Nat)} {args:List AV} {σ:ax} {K:AV->ax->Prop} {vf:A9} (hf:xP P f md=some vf) (ha:vf.zk=args.length) (h:(∀a∈args,eZ a)->ef (Call P) vf.body (mH vf.res K) (cD args) σ):Call P f args σ K:=
 yp (.inl ⟨md,vf,hf,ha,h⟩)
theorem mU {f:Nat} {args:List AV} {σ:ax} {K:AV->ax->Prop} {vf:A9} (hf:nf P f=some vf) (ha:vf.zk=args.length) (h:(∀a∈args,eZ a)->ef (Call P) vf.body (mH vf.res K) (cD args) σ):Call P f args σ K:=
 vD hf ha h
theorem gF {f:Nat} {args:List AV} {σ:ax} {K:AV->ax->Prop} (h:Sound P f args σ K):Call P f args σ K:=yp (.inr h)
def lS (P:Program) (f:Nat) (args:List AV) (r:AV):Prop:=∀σ,PC (Call P) f args σ (fun r'=>r'=r)
theorem lS.body {f:Nat} {args:List AV} {r:AV} {nt na:Nat} {body:VC} {res:List qg} (hf:nf P f=some ⟨nt,na,body,res⟩) (ha:na=args.length) (h:(∀a∈args,eZ a)->∀σ:ax,ef (Call P) body (mH res fun r0 σ'=>∃r',fz σ'.get 6 r0=some r'/\r'=r) (cD args) ⟨V.ro σ.get,σ.next⟩):lS P f args r:=fun σ=>mU hf ha fun hl=>h hl σ
variable {Q:Ex->Env->ax->Prop} {K:Env->ax->Prop} {env:Env} {σ:ax}
theorem Dk {a b:VC} (h:∀N:Env->ax->Prop,(∀e s,ef X b Q e s->N e s)->ef X a (dB N Q) env σ):ef X (.seq a b) Q env σ:=h _ fun _ _ h=>h
theorem A7 (h:Q .normal env σ):ef X .skip Q env σ:=h
theorem A5 {id:Nat} (h:Q (.exit id) env σ):ef X (.exit id) Q env σ:=h
theorem Gq (h:Q .ret env σ):ef X .ret Q env σ:=h
theorem vq {id:Nat} {c:VC} (h:ef X c (bo id Q) env σ):ef X (.block id c) Q env σ:=h
theorem Gn {o:bh} {c:VC} (h:∀N:AV->ax->Prop,(∀v s,ef X c Q (upd env o.dst v) s->N v s)->if aH o.guard env then fJ X false o env σ N else N .undef σ):ef X (.one o c) Q env σ:=by
 have:=h (fun v s=>ef X c Q (upd env o.dst v) s) fun _ _ h=>h
 unfold ef
 split
 ·rename_i hw;rw[if_pos hw]at this;exact this
 ·rename_i hw;rw[if_neg hw]at this;exact this
def eC (s n:Nat):AV->Prop
 | .own id 0 _=>id=⟨s,n⟩
 |_=>False
def eE (n:Nat):AV->Prop
 | .own id _ _=>¬id.cC=n
 |_=>True
theorem A6 {t s:Nat} {y:O} {c:VC} (h1:eC s σ.next (env t)) (h2:eE σ.next (dh env y)) (h:ef X c Q env σ):ef X (.loc t s y c) Q env σ:=by
 refine⟨⟨?_,fun id o l he=>?_⟩,h⟩
 ·revert h1
  unfold eC
  split
  ·rename_i id l he;rintro rfl;exact⟨l,he⟩
  ·exact fun h=>h.elim
 ·rw[he]at h2;exact h2
theorem fw {a b:VC} (ha:ef X a Q env σ) (hb:ef X b Q env σ):ef X (.both a b) Q env σ:=⟨ha,hb⟩
theorem Gp {draw:Bool} {ops:List bh} (h:∀N:Env->ax->Prop,(∀e s,Q .normal e s->N e s)->wpOps X draw ops N env σ):ef X (.eS draw ops) Q env σ:=h _ fun _ _ h=>h
theorem K5 {ops:List bh} (h:cF ops (Q .normal) env σ):ef X (.O3 ops) Q env σ:=h
theorem Gm {draw:Bool} (h:K env ⟨σ.get,σ.next+1⟩):wpOps X draw [] K env σ:=h
theorem QF {draw:Bool} {o:bh} {r:List bh} (h:∀N:AV->ax->Prop,(∀v s,wpOps X draw r K (upd env o.dst v) s->N v s)->if aH o.guard env then fJ X draw o env σ N else N .undef σ):wpOps X draw (o::r) K env σ:=by
 have:=h (fun v s=>wpOps X draw r K (upd env o.dst v) s) fun _ _ h=>h
 unfold wpOps
 split
 ·rename_i hw;rw[if_pos hw]at this;exact this
 ·rename_i hw;rw[if_neg hw]at this;exact this
theorem K6 {c:O} {x y:VC} {b:Bool} (hc:dh env c=.bool b) (ht:b=true->ef X x Q env σ) (hf:b=false->ef X y Q env σ):ef X (.cond c x y) Q env σ:=by
 unfold ef
 simp only[hc]
 cases b with
 |true=>exact ht rfl
 |false=>exact hf rfl
inductive oL:AV->Prop->Prop->Prop
 |t {A B:Prop}:A->oL (.bool true) A B
 |f {A B:Prop}:B->oL (.bool false) A B
theorem vw {c:O} {x y:VC} {v:AV} (hv:dh env c=v) (h:oL v (ef X x Q env σ) (ef X y Q env σ)):ef X (.cond c x y) Q env σ:=by
 cases h with
 |t h=>exact K6 hv (fun _=>h) (fun e=>by cases e)
 |f h=>exact K6 hv (fun e=>by cases e) (fun _=>h)
theorem QE {c:VC} (I:Nat->Env->ax->Prop) (n:Nat) (h0:I n env σ) (step:∀n env σ,I n env σ->ef X c (fun x e s=>match x with| .normal=>∃m,m<n/\I m e s|x=>Q x e s) env σ)
  (hX:∀(c:VC) (Q Q':Ex->Env->ax->Prop) env σ,(∀x e s,Q x e s->Q' x e s)->ef X c Q env σ->ef X c Q' env σ):ef X (.loop c) Q env σ:=by
 have key:∀N n env σ,n<N->I n env σ->CF (ef X c) Q N env σ:=by
  intro N
  induction N with
  |zero=>intro n env σ h;exact absurd h (Nat.not_lt_zero _)
  |succ N ih=>
   intro n env σ hn hI
   refine hX c _ _ env σ (fun x e s hx=>?_) (step n env σ hI)
   cases x with
   |normal=>obtain⟨m,hm,hI'⟩:=hx;exact ih m e s ae hI'
   |exit id=>exact hx
   |ret=>exact hx
 exact⟨n+1,key _ n env σ (Nat.lt_succ_self _) h0⟩
theorem NC {c:VC} (I:Nat->Env->ax->Prop) (n:Nat) (h0:I n env σ) (step:∀n env σ,I n env σ->ef (Call P) c (fun x e s=>match x with| .normal=>∃m,m<n/\I m e s|x=>Q x e s) env σ):ef (Call P) (.loop c) Q env σ:=
 QE I n h0 step fun c Q Q' env σ hQ h=>kQ (fun _ _ _ _ h=>h) aU c Q Q' env σ hQ h
def FC:VC->List Nat
 | .eS _ ops=>ops.filterMap (·.dst)
 | .seq a b=>FC a++FC b
 | .cond _ a b=>FC a++FC b
 | .block _ a=>FC a
 | .loop a=>FC a
 | .one o c=>o.dst.toList++FC c
 | .both a b=>FC a++FC b
 | .loc _ _ _ c=>FC c
 | .O3 ops=>ops.filterMap (·.dst)
 |_=>[]
def l8 (l:List Nat) (env jn:Env):Prop:=∀t,l.contains t=false->jn t=env t
theorem l8.refl (l:List Nat) (env:Env):l8 l env env:=fun _ _=>rfl
theorem l8.upd {l:List Nat} {e e':Env} {d:Option Nat} {v:AV} (h:l8 l e e') (hd:∀t,d=some t->t∈l):l8 l e (upd e' d v):=fun t ht=>by
 cases d with
 |none=>exact h t ht
 |some d=>
  have:t≠d:=fun hc=>by subst hc;rw[<-Bool.not_eq_true,List.contains_iff_mem]at ht;exact ht (hd _ rfl)
  show(if t=d then v else e' t)=e t
  rw[if_neg this];exact h t ht
theorem pI {draw:Bool} {Q:Env->ax->Prop} {l:List Nat} {e0:Env}:∀(ops:List bh) (env:Env) (σ:ax),(∀t,t∈ops.filterMap (·.dst)->t∈l)->l8 l e0 env->wpOps (Call P) draw ops Q env σ->wpOps (Call P) draw ops (fun e s=>Q e s/\l8 l e0 e) env σ
 |[],env,σ,_,hk,hp=>⟨hp,hk⟩
 |o::r,env,σ,hl,hk,hp=>by
  have hd:∀t,o.dst=some t->t∈l:=fun t ht=>hl t (List.mem_filterMap.2 ⟨o,by simp,ht⟩)
  have hr:∀t,t∈r.filterMap (·.dst)->t∈l:=fun t ht=>hl t (by
   obtain⟨x,hx,h⟩:=List.mem_filterMap.1 ht
   exact List.mem_filterMap.2 ⟨x,List.mem_cons_of_mem _ hx,h⟩)
  unfold wpOps at hp ⊢
  split at hp
  ·rename_i hw;rw[if_pos hw]
   exact sP (fun _ _ _ _ h=>h) aU (fun v σ' h=>pI r _ _ hr (hk.upd hd) h) hp
  ·rename_i hw;rw[if_neg hw];exact pI r _ _ hr (hk.upd hd) hp
theorem ml {Q:Env->ax->Prop} {l:List Nat} {e0:Env}:∀(ops:List bh) (env:Env) (σ:ax),(∀t,t∈ops.filterMap (·.dst)->t∈l)->l8 l e0 env->cF ops Q env σ->cF ops (fun e s=>Q e s/\l8 l e0 e) env σ
 |[],env,σ,_,hk,hp=>⟨hp,hk⟩
 |o::r,env,σ,hl,hk,hp=>by
  have hd:∀t,o.dst=some t->t∈l:=fun t ht=>hl t (List.mem_filterMap.2 ⟨o,by simp,ht⟩)
  have hr:∀t,t∈r.filterMap (·.dst)->t∈l:=fun t ht=>hl t (by
   obtain⟨x,hx,h⟩:=List.mem_filterMap.1 ht
   exact List.mem_filterMap.2 ⟨x,List.mem_cons_of_mem _ hx,h⟩)
  unfold cF at hp ⊢
  refine⟨hp.1,?_⟩
  replace hp:=hp.2
  split at hp
  ·split at hp
   ·exact ml r _ _ hr (hk.upd hd) hp
   ·exact hp.elim
  ·split at hp
   ·exact ml r _ _ hr (hk.upd hd) hp
   ·exact hp.elim
  ·split at hp
   ·exact ml r _ _ hr (hk.upd hd) hp
   ·exact hp.elim
theorem Ic {l:List Nat} {e0:Env}:∀(c:VC) (Q:Ex->Env->ax->Prop) (env:Env) (σ:ax),(∀t,t∈FC c->t∈l)->l8 l e0 env->ef (Call P) c Q env σ->ef (Call P) c (fun x e s=>Q x e s/\l8 l e0 e) env σ:=by
 intro c
 induction c with
 |skip=>intro Q env σ _ hk hp;exact⟨hp,hk⟩
 |exit id=>intro Q env σ _ hk hp;exact⟨hp,hk⟩
 |ret=>intro Q env σ _ hk hp;exact⟨hp,hk⟩
 |one o c ih=>
  intro Q env σ hl hk hp
  have hd:∀t,o.dst=some t->t∈l:=fun t ht=>hl t (List.mem_append_left _ (by rw[ht];simp))
  have hr:∀t,t∈FC c->t∈l:=fun t ht=>hl t (List.mem_append_right _ ht)
  unfold ef at hp ⊢
  split at hp
  ·rename_i hw;rw[if_pos hw]
   exact sP (fun _ _ _ _ h=>h) aU (fun v σ' h=>ih Q _ _ hr (hk.upd hd) h) hp
  ·rename_i hw;rw[if_neg hw];exact ih Q _ _ hr (hk.upd hd) hp
 |both a b iha ihb=>
  intro Q env σ hl hk hp
  exact⟨iha Q env σ (fun t ht=>hl t (List.mem_append_left _ ht)) hk hp.1,ihb Q env σ (fun t ht=>hl t (List.mem_append_right _ ht)) hk hp.2⟩
 |loc t s y c ih=>intro Q env σ hl hk hp;exact⟨hp.1,ih Q env σ hl hk hp.2⟩
 |O3 ops=>intro Q env σ hl hk hp;exact ml ops env σ hl hk hp
 |eS draw ops=>intro Q env σ hl hk hp;exact pI ops env σ hl hk hp
 |seq a b iha ihb=>
  intro Q env σ hl hk hp
  refine kQ (fun _ _ _ _ h=>h) aU a _ _ env σ (fun x e s hx=>?_) (iha _ env σ (fun t ht=>hl t (List.mem_append_left _ ht)) hk hp)
  cases x with
  |normal=>exact ihb Q e s (fun t ht=>hl t (List.mem_append_right _ ht)) hx.2 hx.1
  |exit id=>exact hx
  |ret=>exact hx
 |cond c a b iha ihb=>
  intro Q env σ hl hk hp
  unfold ef at hp ⊢
  split at hp
  ·rename_i t ht
   cases t with
   |true=>exact iha Q env σ (fun t ht=>hl t (List.mem_append_left _ ht)) hk hp
   |false=>exact ihb Q env σ (fun t ht=>hl t (List.mem_append_right _ ht)) hk hp
  ·exact hp.elim
 |block id a iha=>
  intro Q env σ hl hk hp
  refine kQ (fun _ _ _ _ h=>h) aU a _ _ env σ (fun x e s hx=>?_) (iha _ env σ hl hk hp)
  obtain⟨hx,JB⟩:=hx
  cases x with
  |normal=>exact⟨hx,JB⟩
  |ret=>exact⟨hx,JB⟩
  |exit kS=>
   unfold bo at hx ⊢
   dsimp only at hx ⊢
   split at hx
   ·rename_i hid;rw[if_pos hid];exact⟨hx,JB⟩
   ·rename_i hid;rw[if_neg hid];exact⟨hx,JB⟩
 |loop a iha=>
  intro Q env σ hl hk hp
  obtain⟨n,hp⟩:=hp
  refine⟨n,?_⟩
  induction n generalizing env σ with
  |zero=>exact hp
  |succ n ihn=>
   refine kQ (fun _ _ _ _ h=>h) aU _ _ _ _ _ (fun x e s hx=>?_) (iha _ env σ hl hk hp)
   obtain⟨hx,JB⟩:=hx
   cases x with
   |normal=>exact ihn e s JB hx
   |exit id=>exact⟨hx,JB⟩
   |ret=>exact⟨hx,JB⟩
theorem aT {c:VC} (I:Nat->Env->ax->Prop) (n:Nat) (h0:I n env σ) (step:∀n e s,I n e s->l8 (FC c) env e->ef (Call P) c (fun x e s=>match x with| .normal=>∃m,m<n/\I m e s|x=>Q x e s) e s):ef (Call P) (.loop c) Q env σ:=by
 refine NC (fun n e s=>I n e s/\l8 (FC c) env e) n ⟨h0,l8.refl _ _⟩ fun n e s hI=>?_
 refine kQ (fun _ _ _ _ h=>h) aU _ _ _ _ _ (fun x e' s' hx=>?_) (Ic c _ e s (fun _ h=>h) hI.2 (step n e s hI.1 hI.2))
 obtain⟨hx,hk⟩:=hx
 cases x with
 |normal=>obtain⟨m,hm,h⟩:=hx;exact⟨m,hm,h,hk⟩
 |exit id=>exact hx
 |ret=>exact hx
theorem K8 {k:Nat} (h:k<=9223372036854775807):IntKind.i64.wrap (k:Int)=k:=by rw[IntKind.wrap_i64];omega
theorem aJ {z:Int} (h: -9223372036854775808<=z/\z<=9223372036854775807):IntKind.i64.wrap z=z:=by rw[IntKind.wrap_i64];omega
theorem aB {k:Nat} (h:(k:Int)+1<=9223372036854775807):IntKind.i64.wrap ((k:Int)+1)=((k+1:Nat):Int):=by rw[IntKind.wrap_i64];omega
theorem all_succ {k:Nat} {p:Nat->Prop} (h:∀j,j<k->p j) (hk:p k):∀j,j<k+1->p j:=fun j hj=>by
 by_cases y5:j=k
 ·subst y5;exact hk
 ·exact h j ae
theorem aD (g:Rows) (n:Nat) (k:IntKind) (m:Int):fz g (n+1) (.int k m)=some (.int k m):=by rw[fz]<;>intros<;>simp_all
theorem bt (g:Rows) (n:Nat) (b:ByteArray):fz g (n+1) (.str b)=some (.str b):=by rw[fz]<;>intros<;>simp_all
theorem cz (g:Rows) (n:Nat) (l:List (List AV)):fz g (n+1) (.sl l)=some (.sl l):=by rw[fz]<;>intros<;>simp_all
theorem aY (g:Rows) (n:Nat):fz g (n+1) .ck=some .ck:=by rw[fz]<;>intros<;>simp_all
theorem Tw {t:Nat} {r r0:AV} {x:Ex} (hx:x=.ret∨x=.normal) (he:env t=r0) (hz:fz σ.get 6 r0=some r):mH [.tmp t] (fun r0 σ'=>∃r',fz σ'.get 6 r0=some r'/\r'=r) x env σ:=by
 have:∃vs,fo env σ.get [.tmp t]=some vs/\∃r',fz σ.get 6 (eJ vs)=some r'/\r'=r:=⟨[env t],rfl,r,by subst he;exact hz,rfl⟩
 rcases hx with rfl|rfl
 ·exact this
 ·exact this
def ak (P:Program) (f:Nat) (args:List AV) (r:AV):Prop:=∀n:Nat,Call P f args ⟨fun _=>none,n⟩ fun r0 σ'=>∃r',gw σ'.get 6 r0=some r'/\r'=r
theorem ak.body {f:Nat} {args:List AV} {r:AV} {nt na:Nat} {body:VC} {res:List qg} (hf:nf P f=some ⟨nt,na,body,res⟩) (ha:na=args.length) (h:(∀a∈args,eZ a)->∀n:Nat,ef (Call P) body (mH res fun r0 σ'=>∃r',gw σ'.get 6 r0=some r'/\r'=r) (cD args) ⟨fun _=>none,n⟩):ak P f args r:=fun n=>mU hf ha fun hl=>h hl n
theorem ak.x {f:Nat} {args fx:List AV} {r:AV} (h:ak P f fx r) {σ:ax} (hv:cQ (dM σ.get) 6 args=some fx):gN (Call P) f args σ (fun r'=>r'=r):=.inr ⟨fx,hv,h _⟩
theorem lS.x {f:Nat} {args:List AV} {r:AV} (h:lS P f args r) (σ:ax):gN (Call P) f args σ (fun r'=>r'=r):=.inl (h σ)
theorem dw (g:Rows) (n:Nat) (k:IntKind) (m:Int):gw g (n+1) (.int k m)=some (.int k m):=by rw[gw]<;>intros<;>simp_all
theorem fH (g:Rows) (n:Nat) (b:Bool):gw g (n+1) (.bool b)=some (.bool b):=by rw[gw]<;>intros<;>simp_all
theorem Mg (g:Rows) (n:Nat) (b:ByteArray):gw g (n+1) (.str b)=some (.str b):=by rw[gw]<;>intros<;>simp_all
theorem gC (g:Rows) (n:Nat):gw g (n+1) .ck=some .ck:=by rw[gw]<;>intros<;>simp_all
theorem eV (g:Rows) (n:Nat) (l:List AV):gw g (n+1) (.iJ l)=(eh g n l).map AV.iJ:=by rw[gw]
theorem jR (g:Rows) (n:Nat) (l:List AV):gw g (n+1) (.agg l)=(eh g n l).map AV.agg:=by rw[gw]
theorem nQ {g:Rows} {n:Nat} {id:Id} {off len sz:Nat} {rows rows':List (List AV)} (h:g id=some ⟨true,sz,rows⟩) (hl:off+len<=rows.length) (hr:iK g n ((rows.drop off).take len)=some rows'):gw g (n+1) (.own id off len)=some (.sl rows'):=by
 rw[gw];simp only[h,if_true,if_pos hl,hr,Option.map_some]
theorem aW (g:Rows) (n:Nat):eh g n []=some []:=by rw[eh]
theorem aI (g:Rows) (n:Nat) (a:AV) (l:List AV):eh g n (a::l)=match gw g n a with
  |some b=>(eh g n l).map (b::·)
  |none=>none:=by rw[eh];cases gw g n a<;>rfl
theorem tZ {g:Rows} {n:Nat}:∀{l:List (List AV)},(∀c∈l,eh g n c=some c)->iK g n l=some l
 |[],_=>by rw[iK]
 |c::r,h=>by rw[iK,h c (by simp),tZ fun d hd=>h d (List.mem_cons_of_mem _ hd)];rfl
theorem bj (g:Rows) (n:Nat) (l:List AV):fz g (n+1) (.agg l)=(cQ g n l).map AV.agg:=by rw[fz]
theorem aV (g:Rows) (n:Nat) (l:List AV):fz g (n+1) (.dq l)=some (.dq l):=by rw[fz]<;>intros<;>simp_all
theorem tb {g:Rows} {n:Nat} {id:Id} {i off sz:Nat} {rows:List (List AV)} {cs mM:List AV} (h:g id=some ⟨true,sz,rows⟩) (hi:rows[i]? =some cs) (hr:cQ g n (cs.drop off)=some mM):fz g (n+1) (.ptr id i off)=some (.dq mM):=by
 rw[fz];simp only[h,if_true,hi,hr,Option.map_some]
theorem ao (g:Rows) (n:Nat):cQ g n []=some []:=by rw[cQ]
theorem ai (g:Rows) (n:Nat) (a:AV) (l:List AV):cQ g n (a::l)=match fz g n a with
  |some b=>(cQ g n l).map (b::·)
  |none=>none:=by rw[cQ];cases fz g n a<;>rfl
theorem xd {t:Nat} {r r0:AV} {x:Ex} (hx:x=.ret∨x=.normal) (he:env t=r0) (hz:gw σ.get 6 r0=some r):mH [.tmp t] (fun r0 σ'=>∃r',gw σ'.get 6 r0=some r'/\r'=r) x env σ:=by
 have:∃vs,fo env σ.get [.tmp t]=some vs/\∃r',gw σ.get 6 (eJ vs)=some r'/\r'=r:=⟨[env t],rfl,r,by subst he;exact hz,rfl⟩
 rcases hx with rfl|rfl
 ·exact this
 ·exact this
theorem aZ {t:Nat} {b c:Bool} {x:Ex} (hx:x=.ret∨x=.normal) (he:env t=.bool b) (hb:b=c):mH [.tmp t] (fun r0 σ'=>∃r',gw σ'.get 6 r0=some r'/\r'=.bool c) x env σ:=xd hx he (by rw[fH,hb])
theorem cu {t:Nat} {k:IntKind} {b c:Int} {x:Ex} (hx:x=.ret∨x=.normal) (he:env t=.int k b) (hb:b=c):mH [.tmp t] (fun r0 σ'=>∃r',gw σ'.get 6 r0=some r'/\r'=.int k c) x env σ:=xd hx he (by rw[dw,hb])
theorem j0 {t u:Nat} {r r1 r2:AV} {x:Ex} (hx:x=.ret∨x=.normal) (h1:env t=r1) (h2:env u=r2) (hz:gw σ.get 6 (.iJ [r1,r2])=some r):mH [.tmp t,.tmp u] (fun r0 σ'=>∃r',gw σ'.get 6 r0=some r'/\r'=r) x env σ:=by
 have:∃vs,fo env σ.get [.tmp t,.tmp u]=some vs/\∃r',gw σ.get 6 (eJ vs)=some r'/\r'=r:=⟨[env t,env u],rfl,r,by subst h1;subst h2;exact hz,rfl⟩
 rcases hx with rfl|rfl
 ·exact this
 ·exact this
structure Pn (p:Prop):Prop where
 out:p
theorem tw {A B:Prop} (a:A) (b:B):A/\B:=⟨a,b⟩
theorem wk {A R G:Prop} (a:A) (r:R) (h:A->R->G:=by
  intro fL kk
  (repeat(refine Pn.mk ?_;intro N hN))
  (first|((first|apply Dk|apply Gp);intro N hN)|((first|(apply QF;intro N hN)|(apply Gn;intro N hN));simp only[go_sem, ↓reduceIte,Nat.reduceEqDiff,Nat.reduceAdd,Nat.reduceSub,Nat.reduceMul,Nat.reduceLeDiff,Nat.reduceBEq,reduceCtorEq,Nat.reduceLT,Int.reduceLE,Int.reduceLT,Int.reduceToNat,Int.reduceNeg,Int.reduceAdd,Int.reduceEq,fL];first|(refine hN _ _ ?_;clear hN N)|skip)|(apply vw;(simp only[go_sem, ↓reduceIte,Nat.reduceEqDiff,Nat.reduceAdd,Nat.reduceSub,Nat.reduceMul,Nat.reduceLeDiff,Nat.reduceBEq,reduceCtorEq,Nat.reduceLT,Int.reduceLE,Int.reduceLT,Int.reduceToNat,Int.reduceNeg,Int.reduceAdd,Int.reduceEq,fL];rfl);first|with_reducible apply oL.t|with_reducible apply oL.f)|(apply Gm;refine hN _ _ ?_;clear hN N;try(simp only[dB,bo, ↓reduceIte,Nat.reduceEqDiff]);try(refine hN _ _ ?_;clear hN N))|apply vq|(refine A6 ?_ ?_ ?_;(focus(simp only[go_sem, ↓reduceIte,Nat.reduceEqDiff,Nat.reduceAdd,Nat.reduceSub,Nat.reduceMul,Nat.reduceLeDiff,Nat.reduceBEq,reduceCtorEq,Nat.reduceLT,Int.reduceLE,Int.reduceLT,Int.reduceToNat,Int.reduceNeg,Int.reduceAdd,Int.reduceEq,fL];done));(focus(simp only[go_sem, ↓reduceIte,Nat.reduceEqDiff,Nat.reduceAdd,Nat.reduceSub,Nat.reduceMul,Nat.reduceLeDiff,Nat.reduceBEq,reduceCtorEq,Nat.reduceLT,Int.reduceLE,Int.reduceLT,Int.reduceToNat,Int.reduceNeg,Int.reduceAdd,Int.reduceEq,fL];done)))|((first|apply A7|apply A5|apply Gq);try(simp only[dB,bo, ↓reduceIte,Nat.reduceEqDiff]);try(refine hN _ _ ?_;clear hN N))|((first|refine hN _ _ ?_|(clear hN N;first|refine hN _ _ ?_|(clear hN N;first|refine hN _ _ ?_|(clear hN N;first|refine hN _ _ ?_|(clear hN N;refine hN _ _ ?_)))));clear hN N))
  (repeat(first|((first|apply Dk|apply Gp);intro N hN)|((first|(apply QF;intro N hN)|(apply Gn;intro N hN));simp only[go_sem, ↓reduceIte,Nat.reduceEqDiff,Nat.reduceAdd,Nat.reduceSub,Nat.reduceMul,Nat.reduceLeDiff,Nat.reduceBEq,reduceCtorEq,Nat.reduceLT,Int.reduceLE,Int.reduceLT,Int.reduceToNat,Int.reduceNeg,Int.reduceAdd,Int.reduceEq,fL];first|(refine hN _ _ ?_;clear hN N)|skip)|(apply vw;(simp only[go_sem, ↓reduceIte,Nat.reduceEqDiff,Nat.reduceAdd,Nat.reduceSub,Nat.reduceMul,Nat.reduceLeDiff,Nat.reduceBEq,reduceCtorEq,Nat.reduceLT,Int.reduceLE,Int.reduceLT,Int.reduceToNat,Int.reduceNeg,Int.reduceAdd,Int.reduceEq,fL];rfl);first|with_reducible apply oL.t|with_reducible apply oL.f)|(apply Gm;refine hN _ _ ?_;clear hN N;try(simp only[dB,bo, ↓reduceIte,Nat.reduceEqDiff]);try(refine hN _ _ ?_;clear hN N))|apply vq|(refine A6 ?_ ?_ ?_;(focus(simp only[go_sem, ↓reduceIte,Nat.reduceEqDiff,Nat.reduceAdd,Nat.reduceSub,Nat.reduceMul,Nat.reduceLeDiff,Nat.reduceBEq,reduceCtorEq,Nat.reduceLT,Int.reduceLE,Int.reduceLT,Int.reduceToNat,Int.reduceNeg,Int.reduceAdd,Int.reduceEq,fL];done));(focus(simp only[go_sem, ↓reduceIte,Nat.reduceEqDiff,Nat.reduceAdd,Nat.reduceSub,Nat.reduceMul,Nat.reduceLeDiff,Nat.reduceBEq,reduceCtorEq,Nat.reduceLT,Int.reduceLE,Int.reduceLT,Int.reduceToNat,Int.reduceNeg,Int.reduceAdd,Int.reduceEq,fL];done)))|((first|apply A7|apply A5|apply Gq);try(simp only[dB,bo, ↓reduceIte,Nat.reduceEqDiff]);try(refine hN _ _ ?_;clear hN N))|((first|refine hN _ _ ?_|(clear hN N;first|refine hN _ _ ?_|(clear hN N;first|refine hN _ _ ?_|(clear hN N;first|refine hN _ _ ?_|(clear hN N;refine hN _ _ ?_)))));clear hN N)))
  (repeat(revert hN;revert N;apply Pn.out))
  exact kk):G:=h a r
theorem wa {A R G:Prop} (a:A) (r:R) (h:A->R->G:=by
  intro fL kk
  (repeat(refine Pn.mk ?_;intro N hN))
  (first|((first|apply Dk|apply Gp);intro N hN)|((first|(refine OB rfl fun N hN=>?_)|(apply Gn;intro N hN));simp only[go_sem, ↓reduceIte,Nat.reduceEqDiff,Nat.reduceAdd,Nat.reduceSub,Nat.reduceMul,Nat.reduceLeDiff,Nat.reduceBEq,reduceCtorEq,Nat.reduceLT,Int.reduceLE,Int.reduceLT,Int.reduceToNat,Int.reduceNeg,Int.reduceAdd,Int.reduceEq,fL];first|(refine hN _ _ ?_;clear hN N)|skip)|(apply vw;(simp only[go_sem, ↓reduceIte,Nat.reduceEqDiff,Nat.reduceAdd,Nat.reduceSub,Nat.reduceMul,Nat.reduceLeDiff,Nat.reduceBEq,reduceCtorEq,Nat.reduceLT,Int.reduceLE,Int.reduceLT,Int.reduceToNat,Int.reduceNeg,Int.reduceAdd,Int.reduceEq,fL];rfl);first|with_reducible apply oL.t|with_reducible apply oL.f)|(apply Gm;refine hN _ _ ?_;clear hN N;try(simp only[dB,bo, ↓reduceIte,Nat.reduceEqDiff]);try(refine hN _ _ ?_;clear hN N))|apply vq|(refine A6 ?_ ?_ ?_;(focus(simp only[go_sem, ↓reduceIte,Nat.reduceEqDiff,Nat.reduceAdd,Nat.reduceSub,Nat.reduceMul,Nat.reduceLeDiff,Nat.reduceBEq,reduceCtorEq,Nat.reduceLT,Int.reduceLE,Int.reduceLT,Int.reduceToNat,Int.reduceNeg,Int.reduceAdd,Int.reduceEq,fL];done));(focus(simp only[go_sem, ↓reduceIte,Nat.reduceEqDiff,Nat.reduceAdd,Nat.reduceSub,Nat.reduceMul,Nat.reduceLeDiff,Nat.reduceBEq,reduceCtorEq,Nat.reduceLT,Int.reduceLE,Int.reduceLT,Int.reduceToNat,Int.reduceNeg,Int.reduceAdd,Int.reduceEq,fL];done)))|((first|apply A7|apply A5|apply Gq);try(simp only[dB,bo, ↓reduceIte,Nat.reduceEqDiff]);try(refine hN _ _ ?_;clear hN N))|((first|refine hN _ _ ?_|(clear hN N;first|refine hN _ _ ?_|(clear hN N;first|refine hN _ _ ?_|(clear hN N;first|refine hN _ _ ?_|(clear hN N;refine hN _ _ ?_)))));clear hN N))
  (repeat(first|((first|apply Dk|apply Gp);intro N hN)|((first|(refine OB rfl fun N hN=>?_)|(apply Gn;intro N hN));simp only[go_sem, ↓reduceIte,Nat.reduceEqDiff,Nat.reduceAdd,Nat.reduceSub,Nat.reduceMul,Nat.reduceLeDiff,Nat.reduceBEq,reduceCtorEq,Nat.reduceLT,Int.reduceLE,Int.reduceLT,Int.reduceToNat,Int.reduceNeg,Int.reduceAdd,Int.reduceEq,fL];first|(refine hN _ _ ?_;clear hN N)|skip)|(apply vw;(simp only[go_sem, ↓reduceIte,Nat.reduceEqDiff,Nat.reduceAdd,Nat.reduceSub,Nat.reduceMul,Nat.reduceLeDiff,Nat.reduceBEq,reduceCtorEq,Nat.reduceLT,Int.reduceLE,Int.reduceLT,Int.reduceToNat,Int.reduceNeg,Int.reduceAdd,Int.reduceEq,fL];rfl);first|with_reducible apply oL.t|with_reducible apply oL.f)|(apply Gm;refine hN _ _ ?_;clear hN N;try(simp only[dB,bo, ↓reduceIte,Nat.reduceEqDiff]);try(refine hN _ _ ?_;clear hN N))|apply vq|(refine A6 ?_ ?_ ?_;(focus(simp only[go_sem, ↓reduceIte,Nat.reduceEqDiff,Nat.reduceAdd,Nat.reduceSub,Nat.reduceMul,Nat.reduceLeDiff,Nat.reduceBEq,reduceCtorEq,Nat.reduceLT,Int.reduceLE,Int.reduceLT,Int.reduceToNat,Int.reduceNeg,Int.reduceAdd,Int.reduceEq,fL];done));(focus(simp only[go_sem, ↓reduceIte,Nat.reduceEqDiff,Nat.reduceAdd,Nat.reduceSub,Nat.reduceMul,Nat.reduceLeDiff,Nat.reduceBEq,reduceCtorEq,Nat.reduceLT,Int.reduceLE,Int.reduceLT,Int.reduceToNat,Int.reduceNeg,Int.reduceAdd,Int.reduceEq,fL];done)))|((first|apply A7|apply A5|apply Gq);try(simp only[dB,bo, ↓reduceIte,Nat.reduceEqDiff]);try(refine hN _ _ ?_;clear hN N))|((first|refine hN _ _ ?_|(clear hN N;first|refine hN _ _ ?_|(clear hN N;first|refine hN _ _ ?_|(clear hN N;first|refine hN _ _ ?_|(clear hN N;refine hN _ _ ?_)))));clear hN N)))
  (repeat(revert hN;revert N;apply Pn.out))
  exact kk):G:=h a r
theorem sd {A G:Prop} (a:A) (h:A->G:=by
  intro fL
  first|(simp only[go_sem, ↓reduceIte,Nat.reduceEqDiff,Nat.reduceAdd,Nat.reduceSub,Nat.reduceMul,Nat.reduceLeDiff,Nat.reduceBEq,reduceCtorEq,Nat.reduceLT,Int.reduceLE,Int.reduceLT,Int.reduceToNat,Int.reduceNeg,Int.reduceAdd,Int.reduceEq,fL,fo,gS];done)|fail):G:=h a
theorem sl {A G:Prop} (a:A) (h:A->G:=by
  intro fL
  (try simp only[go_sem, ↓reduceIte,Nat.reduceEqDiff,Nat.reduceAdd,Nat.reduceSub,Nat.reduceMul,Nat.reduceLeDiff,Nat.reduceBEq,reduceCtorEq,Nat.reduceLT,Int.reduceLE,Int.reduceLT,Int.reduceToNat,Int.reduceNeg,Int.reduceAdd,Int.reduceEq,fL])
  try rfl):G:=h a
end Go.Proofs.YtkbipfflibjfbaaGreat.V

namespace Go.Proofs.YtkbipfflibjfbaaGreat.V
open Go.RowKit
variable {P:Program} {X:fm} {env:Env} {σ:ax}
theorem bJ (g:Rows) (n:Nat) (l:List AV):fz g (n+1) (.iJ l)=(cQ g n l).map AV.iJ:=by rw[fz]
theorem cL (g:Rows) (n:Nat) (f:Nat) (l:List AV):fz g (n+1) (.fn f l)=if l.all AV.cell then(cQ g n l).map (AV.fn f)else none:=by rw[fz]
theorem bf (g:Rows) (n:Nat) (id:Id) (i off:Nat):fz g (n+1) (.ptr id i off)=match g id with
  |some r=>if r.w then(match r.rows[i]? with
   |some cs=>(cQ g n (cs.drop off)).map AV.dq
   |none=>none)else none
  |none=>none:=by rw[fz];rfl
theorem ig (g:Rows) (n:Nat) (id:Id) (off len:Nat):fz g (n+1) (.own id off len)=match g id with
  |some r=>if r.w then(if off+len<=r.rows.length then(eK g n ((r.rows.drop off).take len)).map AV.sl else none)else none
  |none=>none:=by rw[fz];rfl
theorem pd (g:Rows) (n:Nat):eK g n []=some []:=by rw[eK]
theorem zZ (g:Rows) (n:Nat) (c:List AV) (l:List (List AV)):eK g n (c::l)=match cQ g n c with
  |some b=>(eK g n l).map (b::·)
  |none=>none:=by rw[eK];cases cQ g n c<;>rfl
theorem wc {g:Rows} {n:Nat}:∀{l:List (List AV)},(∀c∈l,cQ g n c=some c)->eK g n l=some l
 |[],_=>by rw[eK]
 |c::r,h=>by rw[eK,h c (by simp),wc fun d hd=>h d (List.mem_cons_of_mem _ hd)];rfl
theorem lD {α:Type} {g:Rows} {n:Nat} {e:α->List AV} {l:List α} (h:∀x,cQ g n (e x)=some (e x)):eK g n (l.map e)=some (l.map e):=wc fun c hc=>by
 obtain⟨x,_,rfl⟩:=List.mem_map.1 hc
 exact h x
theorem kI {α:Type} {g:Rows} {n:Nat} {e:α->List AV} {l:List α} (h:∀x,eh g n (e x)=some (e x)):iK g n (l.map e)=some (l.map e):=tZ fun c hc=>by
 obtain⟨x,_,rfl⟩:=List.mem_map.1 hc
 exact h x
theorem gH {α:Type} {g:Rows} {n:Nat} {e:α->List AV} {l:List α} {id:Id} {sz len:Nat} (hg:g id=some ⟨true,sz,l.map e⟩) (hl:len=l.length) (h:∀x,cQ g n (e x)=some (e x)):fz g (n+1) (.own id 0 len)=some (.sl (l.map e)):=by
 subst hl
 rw[ig];simp only[hg,if_true]
 rw[if_pos (by simp),List.drop_zero,List.take_of_length_le (by simp),lD h];rfl
theorem e9 {α:Type} {g:Rows} {n:Nat} {e:α->List AV} {l:List α} {id:Id} {sz len:Nat} (hg:g id=some ⟨true,sz,l.map e⟩) (hl:len=l.length) (h:∀x,eh g n (e x)=some (e x)):gw g (n+1) (.own id 0 len)=some (.sl (l.map e)):=by
 subst hl
 exact nQ hg (by simp) (by rw[List.drop_zero,List.take_of_length_le (by simp),kI h])
theorem all_map {α:Type} {e:α->List AV} {sz:Nat} {l:List α} (h:∀x,(e x).length=sz/\(e x).all AV.cell=true):(l.map e).all (fun c=>c.length==sz&&c.all AV.cell)=true:=by
 rw[List.all_eq_true]
 intro c hc
 obtain⟨x,_,rfl⟩:=List.mem_map.1 hc
 simp[(h x).1,(h x).2]
def RowM (P:Program) (f:Nat) (args:List AV) (sz:Nat) (rows:List (List AV)):Prop:=(∀c∈rows,∀a∈c,a.plain=true)/\∀n:Nat,Call P f args ⟨fun _=>none,n⟩ fun r σ'=>∃id,r=.own id 0 rows.length/\σ'.get id=some ⟨true,sz,rows⟩
theorem xe {res:List qg} {r:AV} {vs:List AV} {x:Ex} (hx:x=.ret∨x=.normal) (hv:fo env σ.get res=some vs) (hz:fz σ.get 6 (eJ vs)=some r):mH res (fun r0 σ'=>∃r',fz σ'.get 6 r0=some r'/\r'=r) x env σ:=by
 rcases hx with rfl|rfl
 ·exact⟨vs,hv,r,hz,rfl⟩
 ·exact⟨vs,hv,r,hz,rfl⟩
theorem gZ {res:List qg} {r:AV} {vs:List AV} {x:Ex} (hx:x=.ret∨x=.normal) (hv:fo env σ.get res=some vs) (hz:gw σ.get 6 (eJ vs)=some r):mH res (fun r0 σ'=>∃r',gw σ'.get 6 r0=some r'/\r'=r) x env σ:=by
 rcases hx with rfl|rfl
 ·exact⟨vs,hv,r,hz,rfl⟩
 ·exact⟨vs,hv,r,hz,rfl⟩
theorem gJ {res:List qg} {K:AV->ax->Prop} {vs:List AV} {x:Ex} (hx:x=.ret∨x=.normal) (hv:fo env σ.get res=some vs) (hK:K (eJ vs) σ):mH res K x env σ:=by
 rcases hx with rfl|rfl
 ·exact⟨vs,hv,hK⟩
 ·exact⟨vs,hv,hK⟩
theorem fj {f:Nat} {args:List AV} {σ:ax} {K:AV->ax->Prop} {nt na:Nat} {body:VC} {res:List qg} (hf:nf P f=some ⟨nt,na,body,res⟩) (ha:na=args.length) (h:(∀a∈args,eZ a)->ef (Call P) body (mH res K) (cD args) σ):Call P f args σ K:=mU hf ha h
theorem Iw {f:Nat} {md:List (Nat×Nat)} {args:List AV} {σ:ax} {K:AV->ax->Prop} {nt na:Nat} {body:VC} {res:List qg} (hf:xP P f md=some ⟨nt,na,body,res⟩) (ha:na=args.length) (h:(∀a∈args,eZ a)->ef (Call P) body (mH res K) (cD args) σ):Call P f args σ K:=vD hf ha h
theorem eX {i:Id} {n:Nat} (h:i.cC<n):(∀s,(i=⟨s,n⟩)=False/\(i=⟨s,n+1⟩)=False/\(i=⟨s,n+1+1⟩)=False/\(i=⟨s,n+1+1+1⟩)=False/\(i=⟨s,n+1+1+1+1⟩)=False/\(i=⟨s,n+1+1+1+1+1⟩)=False/\(i=⟨s,n+1+1+1+1+1+1⟩)=False/\(i=⟨s,n+1+1+1+1+1+1+1⟩)=False/\(i=⟨s,n+1+1+1+1+1+1+1+1⟩)=False/\(i=⟨s,n+1+1+1+1+1+1+1+1+1⟩)=False/\(⟨s,n⟩=i)=False/\(⟨s,n+1⟩=i)=False/\(⟨s,n+1+1⟩=i)=False/\(⟨s,n+1+1+1⟩=i)=False/\(⟨s,n+1+1+1+1⟩=i)=False/\(⟨s,n+1+1+1+1+1⟩=i)=False/\(⟨s,n+1+1+1+1+1+1⟩=i)=False/\(⟨s,n+1+1+1+1+1+1+1⟩=i)=False/\(⟨s,n+1+1+1+1+1+1+1+1⟩=i)=False/\(⟨s,n+1+1+1+1+1+1+1+1+1⟩=i)=False)/\(i.cC=n)=False/\(i.cC=n+1)=False/\(i.cC=n+1+1)=False/\(i.cC=n+1+1+1)=False/\(i.cC=n+1+1+1+1)=False/\(i.cC=n+1+1+1+1+1)=False/\(i.cC=n+1+1+1+1+1+1)=False/\(i.cC=n+1+1+1+1+1+1+1)=False/\(i.cC=n+1+1+1+1+1+1+1+1)=False/\(i.cC=n+1+1+1+1+1+1+1+1+1)=False:=by
 refine⟨fun s=>?_,?_⟩
 ·obtain⟨a,b⟩:=i
  simp only[Id.mk.injEq,eq_iff_iff,iff_false,not_and]
  simp only at h
  refine⟨?_,?_,?_,?_,?_,?_,?_,?_,?_,?_,?_,?_,?_,?_,?_,?_,?_,?_,?_,?_⟩<;>(intros;omega)
 ·simp only[eq_iff_iff,iff_false]
  refine⟨?_,?_,?_,?_,?_,?_,?_,?_,?_,?_⟩<;>omega
def e8 (a b:Nat) (ids:List Id):Prop:=ids.Nodup/\∀i∈ids,a<=i.cC/\i.cC<b
def Kept (σ σ':ax):Prop:=σ.next<=σ'.next/\∀j:Id,j.cC<σ.next->σ'.get j=σ.get j
theorem e8.wide {a b a' b':Nat} {ids:List Id} (h:e8 a b ids) (h1:a'<=a) (h2:b<=b'):e8 a' b' ids:=⟨h.1,fun i hi=>⟨Nat.le_trans h1 (h.2 i hi).1,Nat.lt_of_lt_of_le (h.2 i hi).2 h2⟩⟩
theorem e8.app {a b c d:Nat} {i j:List Id} (h:e8 a b i) (k:e8 c d j) (hbc:b<=c) (rZ:a<=b) (Uf:c<=d):e8 a d (i++j):=
 ⟨List.nodup_append.2 ⟨h.1,k.1,fun x hx y hy e=>by subst e;have:=(h.2 x hx).2;have:=(k.2 x hy).1;omega⟩,fun x hx=>by
  rcases List.mem_append.1 hx with hx|hx
  ·have:=h.2 x hx;omega
  ·have:=k.2 x hx;omega⟩
end Go.Proofs.YtkbipfflibjfbaaGreat.V

namespace Go.Proofs.YtkbipfflibjfbaaGreat.V
open Go.RowKit
attribute [local irreducible] ef wpOps gN Call
attribute [local go_sem] aH fJ eW fZ gh dh upd cD K.av cP AV.cells AV.cell rowOf rowsOf part ld rowAt bU cw dI ek iq bL de eD gj fq dx ew db da dW dY bR bd cU bQ cW cV er ez eu cR bV dc eo bP aL cY cI im br cH bz bc dB bo dF AV.undef bx bE dZ ej dV ec cJ eC eE cF eB eA cX cZ List.getD_cons_zero List.getD_cons_succ List.getD_nil List.all_cons List.all_nil Bool.and_true Bool.true_and Bool.and_self Bool.not_true Bool.not_false Option.map_some Option.map_none Option.bind_some Option.bind_none List.length_cons List.length_nil List.take_succ_cons List.take_zero List.take_nil List.drop_succ_cons List.drop_zero List.drop_nil List.head?_cons List.map_cons List.map_nil List.getElem?_cons_zero List.getElem?_cons_succ List.cons_append List.nil_append List.append_nil List.length_map List.set_cons_zero List.set_cons_succ Nat.reduceMul eq_self Int.toNat_natCast Int.natCast_nonneg and_self true_and and_true decide_true decide_false Bool.false_eq_true Nat.zero_add Nat.add_zero List.contains_cons List.contains_nil Bool.or_false Bool.false_or beq_self_eq_true Nat.reduceBEq ne_eq not_true_eq_false not_false_eq_true Id.mk.injEq false_and and_false Nat.reduceLT Int.reduceLE Int.reduceLT Int.reduceToNat Int.reduceNeg Int.reduceAdd Nat.le_refl List.length_append beq_true beq_false Bool.not_eq_eq_eq_not or_false false_or dM ai ao aD bt cz aY bj aV bf cL bJ
variable {P:Program}
def KM (f g z:Nat):A9:=let s:=f*1000000
 ⟨27,2,(.seq (.eS false [q 4 (.du (.k (.int .i64 0))) s]) (.seq (.eS false [q 6 (.du (.t 1)) (s+1000),q 7 (.du (.t 0)) (s+1001),q 8 (.len (.t 7)) (s+1002),q 9 (.bin .sub .i64 (.t 6) (.t 8)) (s+1003),q 1 (.du (.t 9)) (s+1004)]) (.seq (.seq (.eS false [q 10 (.du (.t 1)) (s+2000),q 11 (.bin .lss .i64 (.t 10) (.k (.int .i64 0))) (s+2001)]) (.cond (.t 11) (.seq (.eS false [q 4 (.du (.k (.int .i64 (-1)))) (s+3000)]) .ret) .skip)) (.seq (.seq (.eS false [q 5 (.du (.k (.int .i64 0))) (s+4000)]) (.block 0 (.loop (.seq (.seq (.eS false [q 12 (.du (.t 5)) (s+5000),q 13 (.du (.t 0)) (s+5001),q 14 (.len (.t 13)) (s+5002),q 15 (.bin .lss .i64 (.t 12) (.t 14)) (s+5003)]) (.cond (.t 15) .skip (.exit 0))) (.seq (.block 1 (.seq (.eS false [q 18 (.du (.t 0)) (s+7000),q 19 (.du (.t 5)) (s+7001),q 20 (.dE z (.t 18) (.t 19)) (s+7002),q 21 (.load true z (.t 20)) (s+7003),q 22 (.du (.t 1)) (s+7004),q 23 (.call g [(.t 21),(.t 22)]) (s+7005),q 1 (.du (.t 23)) (s+7006)]) (.seq (.eS false [q 24 (.du (.t 1)) (s+8000),q 25 (.bin .lss .i64 (.t 24) (.k (.int .i64 0))) (s+8001)]) (.cond (.t 25) (.seq (.eS false [q 4 (.du (.k (.int .i64 (-1)))) (s+9000)]) .ret) .skip)))) (.eS false [q 16 (.du (.t 5)) (s+6000),q 17 (.bin .add .i64 (.t 16) (.k (.int .i64 1))) (s+6001),q 5 (.du (.t 17)) (s+6002)])))))) (.seq (.eS false [q 26 (.du (.t 1)) (s+10000),q 4 (.du (.t 26)) (s+10001)]) .ret))))),[(.tmp 4)]⟩
def KK (f:Nat):A9:=let s:=f*1000000
 ⟨12,2,(.seq (.eS false [q 4 (.du (.k (.int .i64 0))) s]) (.seq (.eS false [q 5 (.du (.t 1)) (s+1000),q 6 (.du (.t 0)) (s+1001),q 7 (.len (.t 6)) (s+1002),q 8 (.bin .sub .i64 (.t 5) (.t 7)) (s+1003),q 1 (.du (.t 8)) (s+1004)]) (.seq (.seq (.eS false [q 9 (.du (.t 1)) (s+2000),q 10 (.bin .lss .i64 (.t 9) (.k (.int .i64 0))) (s+2001)]) (.cond (.t 10) (.seq (.eS false [q 4 (.du (.k (.int .i64 (-1)))) (s+3000)]) .ret) .skip)) (.seq (.eS false [q 11 (.du (.t 1)) (s+4000),q 4 (.du (.t 11)) (s+4001)]) .ret)))),[(.tmp 4)]⟩
def BW (f g z:Nat):A9:=let s:=f*1000000
 ⟨27,2,(.seq (.eS false [q 4 (.du (.k (.bool false))) s]) (.seq (.seq (.eS false [q 6 (.du (.t 0)) (s+1000),q 7 (.len (.t 6)) (s+1001),q 8 (.du (.t 1)) (s+1002),q 9 (.len (.t 8)) (s+1003),q 10 (.NS true .tI (.t 7) (.t 9)) (s+1004)]) (.cond (.t 10) (.seq (.eS false [q 4 (.du (.k (.bool false))) (s+2000)]) .ret) .skip)) (.seq (.seq (.eS false [q 5 (.du (.k (.int .i64 0))) (s+3000)]) (.block 0 (.loop (.seq (.seq (.eS false [q 11 (.du (.t 5)) (s+4000),q 12 (.du (.t 0)) (s+4001),q 13 (.len (.t 12)) (s+4002),q 14 (.bin .lss .i64 (.t 11) (.t 13)) (s+4003)]) (.cond (.t 14) .skip (.exit 0))) (.seq (.block 1 (.seq (.eS true [q 17 (.du (.t 0)) (s+6000),q 18 (.du (.t 5)) (s+6001),q 19 (.dE z (.t 17) (.t 18)) (s+6002),q 20 (.load true z (.t 19)) (s+6003),q 21 (.du (.t 1)) (s+6004),q 22 (.du (.t 5)) (s+6005),q 23 (.dE z (.t 21) (.t 22)) (s+6006),q 24 (.load true z (.t 23)) (s+6007),q 25 (.call g [(.t 20),(.t 24)]) (s+6008),q 26 (.not (.t 25)) (s+6009)]) (.cond (.t 26) (.seq (.eS false [q 4 (.du (.k (.bool false))) (s+7000)]) .ret) .skip))) (.eS false [q 15 (.du (.t 5)) (s+5000),q 16 (.bin .add .i64 (.t 15) (.k (.int .i64 1))) (s+5001),q 5 (.du (.t 16)) (s+5002)])))))) (.seq (.eS false [q 4 (.du (.k (.bool true))) (s+8000)]) .ret)))),[(.tmp 4)]⟩
def NT (f:Nat) (t:TS):A9:=let s:=f*1000000
 ⟨26,2,(.seq (.eS false [q 4 (.du (.k (.bool false))) s]) (.seq (.seq (.eS false [q 6 (.du (.t 0)) (s+1000),q 7 (.len (.t 6)) (s+1001),q 8 (.du (.t 1)) (s+1002),q 9 (.len (.t 8)) (s+1003),q 10 (.NS true .tI (.t 7) (.t 9)) (s+1004)]) (.cond (.t 10) (.seq (.eS false [q 4 (.du (.k (.bool false))) (s+2000)]) .ret) .skip)) (.seq (.seq (.eS false [q 5 (.du (.k (.int .i64 0))) (s+3000)]) (.block 0 (.loop (.seq (.seq (.eS false [q 11 (.du (.t 5)) (s+4000),q 12 (.du (.t 0)) (s+4001),q 13 (.len (.t 12)) (s+4002),q 14 (.bin .lss .i64 (.t 11) (.t 13)) (s+4003)]) (.cond (.t 14) .skip (.exit 0))) (.seq (.block 1 (.seq (.eS true [q 17 (.du (.t 0)) (s+6000),q 18 (.du (.t 5)) (s+6001),q 19 (.dE 1 (.t 17) (.t 18)) (s+6002),q 20 (.load false 1 (.t 19)) (s+6003),q 21 (.du (.t 1)) (s+6004),q 22 (.du (.t 5)) (s+6005),q 23 (.dE 1 (.t 21) (.t 22)) (s+6006),q 24 (.load false 1 (.t 23)) (s+6007),q 25 (.NS true t (.t 20) (.t 24)) (s+6008)]) (.cond (.t 25) (.seq (.eS false [q 4 (.du (.k (.bool false))) (s+7000)]) .ret) .skip))) (.eS false [q 15 (.du (.t 5)) (s+5000),q 16 (.bin .add .i64 (.t 15) (.k (.int .i64 1))) (s+5001),q 5 (.du (.t 16)) (s+5002)])))))) (.seq (.eS false [q 4 (.du (.k (.bool true))) (s+8000)]) .ret)))),[(.tmp 4)]⟩
def uv (f g z:Nat) (zero:List K):A9:=let s:=f*1000000
 ⟨23,1,(.seq (.eS false [q 2 (.du (.k .ck)) s]) (.seq (.eS false [q 5 (.du (.t 0)) (s+1000),q 6 (.len (.t 5)) (s+1001),q 7 (.kC zero (.t 6) (.t 6)) (s+1002),q 3 (.du (.t 7)) (s+1003)]) (.seq (.seq (.eS false [q 4 (.du (.k (.int .i64 0))) (s+2000)]) (.block 0 (.loop (.seq (.seq (.eS false [q 8 (.du (.t 4)) (s+3000),q 9 (.du (.t 0)) (s+3001),q 10 (.len (.t 9)) (s+3002),q 11 (.bin .lss .i64 (.t 8) (.t 10)) (s+3003)]) (.cond (.t 11) .skip (.exit 0))) (.seq (.block 1 (.eS false [q 14 (.du (.t 3)) (s+5000),q 15 (.du (.t 4)) (s+5001),q 16 (.du (.t 0)) (s+5002),q 17 (.du (.t 4)) (s+5003),q 18 (.dE z (.t 16) (.t 17)) (s+5004),q 19 (.load true z (.t 18)) (s+5005),q 20 (.call g [(.t 19)]) (s+5006),q 21 (.dE z (.t 14) (.t 15)) (s+5007),⟨none,(.store z (.t 21) (.t 20)),none,(s+5008),[]⟩])) (.eS false [q 12 (.du (.t 4)) (s+4000),q 13 (.bin .add .i64 (.t 12) (.k (.int .i64 1))) (s+4001),q 4 (.du (.t 13)) (s+4002)])))))) (.seq (.eS false [q 22 (.du (.t 3)) (s+6000),q 2 (.du (.t 22)) (s+6001)]) .ret)))),[(.tmp 2)]⟩
def KW (f:Nat) (zero:K):A9:=let s:=f*1000000
 ⟨22,1,(.seq (.eS false [q 2 (.du (.k .ck)) s]) (.seq (.eS false [q 5 (.du (.t 0)) (s+1000),q 6 (.len (.t 5)) (s+1001),q 7 (.kC [zero] (.t 6) (.t 6)) (s+1002),q 3 (.du (.t 7)) (s+1003)]) (.seq (.seq (.eS false [q 4 (.du (.k (.int .i64 0))) (s+2000)]) (.block 0 (.loop (.seq (.seq (.eS false [q 8 (.du (.t 4)) (s+3000),q 9 (.du (.t 0)) (s+3001),q 10 (.len (.t 9)) (s+3002),q 11 (.bin .lss .i64 (.t 8) (.t 10)) (s+3003)]) (.cond (.t 11) .skip (.exit 0))) (.seq (.block 1 (.eS false [q 14 (.du (.t 3)) (s+5000),q 15 (.du (.t 4)) (s+5001),q 16 (.du (.t 0)) (s+5002),q 17 (.du (.t 4)) (s+5003),q 18 (.dE 1 (.t 16) (.t 17)) (s+5004),q 19 (.load false 1 (.t 18)) (s+5005),q 20 (.dE 1 (.t 14) (.t 15)) (s+5006),⟨none,(.store 1 (.t 20) (.t 19)),none,(s+5007),[]⟩])) (.eS false [q 12 (.du (.t 4)) (s+4000),q 13 (.bin .add .i64 (.t 12) (.k (.int .i64 1))) (s+4001),q 4 (.du (.t 13)) (s+4002)])))))) (.seq (.eS false [q 21 (.du (.t 3)) (s+6000),q 2 (.du (.t 21)) (s+6001)]) .ret)))),[(.tmp 2)]⟩
def yl (n:Nat) (l:Int):Int:=if (n:Int)<=l then l-n else -1
theorem KL {fk:Nat} (hc:nf P fk=some (KK fk)) (rows:List (List AV)) (left:Int) (h0:0<=left) (h1:left<=1048576):ak P fk [.sl rows,.int .i64 left] (.int .i64 (yl rows.length left)):=by
 refine ak.body hc rfl fun hl n0=>?_
 try simp only[q]
 have hn:rows.length<=9223372036854775807:=(hl (.sl rows) (by simp)).len
 clear hl
 have hw:IntKind.i64.wrap (left-(rows.length:Int))=left-rows.length:=aJ ae
 by_cases hf:(rows.length:Int)<=left
 ·have mO:¬left-(rows.length:Int)<0:=ae
  (try((repeat(revert hN;revert N;apply Pn.out));refine wk (tw @hw @mO) ?_;(repeat(refine Pn.mk ?_;intro N hN))))
  exact cu (b:=left-(rows.length:Int)) (.inl rfl) (sd @Nat.zero_add) (by rw[yl,if_pos hf])
 ·have mO:left-(rows.length:Int)<0:=ae
  (try((repeat(revert hN;revert N;apply Pn.out));refine wk (tw @hw @mO) ?_;(repeat(refine Pn.mk ?_;intro N hN))))
  exact cu (b:=-1) (.inl rfl) (sd @Nat.zero_add) (by rw[yl,if_neg hf])
def jr {α:Type} (f:α->Nat) (xs:List α) (k:Nat):Nat:=((xs.take k).map f).sum
theorem nC {α:Type} (f:α->Nat) (xs:List α):jr f xs 0=0:=by simp[jr]
theorem C7 {α:Type} (f:α->Nat) (xs:List α):jr f xs xs.length=(xs.map f).sum:=by simp[jr]
theorem xn {α:Type} (f:α->Nat) {xs:List α} {k:Nat} (hk:k<xs.length):jr f xs (k+1)=jr f xs k+f xs[k]:=by
 unfold jr
 rw[List.take_succ_eq_append_getElem hk,List.map_append,List.sum_append];simp
theorem qI {α:Type} (f:α->Nat) (xs:List α) (k:Nat):jr f xs k<=(xs.map f).sum:=by
 unfold jr
 conv=>rhs;rw[<-List.take_append_drop k xs]
 rw[List.map_append,List.sum_append];omega
theorem KN {α:Type} {e:α->List AV} {z fk gk:Nat} (wt:α->Nat) (hc:nf P fk=some (KM fk gk z)) (hz:∀x,(e x).length=z) (Dq:∀x g,cQ g 6 [.agg (e x)]=some [.agg (e x)]) (xs:List α) (left:Int) (h0:0<=left) (h1:left<=1048576)
  (hg:∀x∈xs,∀l:Int,0<=l->l<=1048576->ak P gk [.agg (e x),.int .i64 l] (.int .i64 (yl (wt x) l))):ak P fk [.sl (xs.map e),.int .i64 left] (.int .i64 (yl (xs.length+(xs.map wt).sum) left)):=by
 refine ak.body hc rfl fun hl n0=>?_
 try simp only[q]
 have hn:xs.length<=9223372036854775807:=by simpa using(hl (.sl (xs.map e)) (by simp)).len
 clear hl
 have hw:IntKind.i64.wrap (left-(xs.length:Int))=left-xs.length:=aJ ae
 by_cases hf:(xs.length:Int)<=left
 ·have mO:¬left-(xs.length:Int)<0:=ae
  (try((repeat(revert hN;revert N;apply Pn.out));refine wk (tw @hw @mO) ?_;(repeat(refine Pn.mk ?_;intro N hN))))
  refine aT (fun n env st=>∃k:Nat,n=(xs.length)-k/\k<=(xs.length)/\env 5=.int .i64 (k:Int)/\env 1=(.int .i64 (left-xs.length-(jr wt xs k:Nat)))/\(0<=left-xs.length-(jr wt xs k:Nat))) (xs.length) ⟨0,ae,ae,sl (tw @nC (tw @Int.natCast_zero @Int.sub_zero)),sl (tw @nC (tw @Int.natCast_zero @Int.sub_zero)),(by rw[nC];omega)⟩ ?_
  rintro n_a env_a st_a ⟨k,rfl,ale,a5,a1,kB⟩ dr
  have a0:=dr 0 (by kernel_rfl)
  simp only[go_sem, ↓reduceIte,Nat.reduceEqDiff,Nat.reduceAdd,Nat.reduceSub,Nat.reduceLeDiff,reduceCtorEq,nC,Int.natCast_zero,Int.sub_zero]at a0
  clear dr
  by_cases hk:(k:Int)<(xs.length:Int)
  ·have bZ:∀{e:Env},(e 5=.int .i64 (IntKind.i64.wrap ((k:Int)+1)))->(e 1=(.int .i64 (left-xs.length-(jr wt xs (k+1):Nat))))->(0<=left-xs.length-(jr wt xs (k+1):Nat))->∃m0,m0<(xs.length)-k/\∃k:Nat,m0=(xs.length)-k/\k<=(xs.length)/\e 5=.int .i64 (k:Int)/\e 1=(.int .i64 (left-xs.length-(jr wt xs k:Nat)))/\(0<=left-xs.length-(jr wt xs k:Nat)):=fun x1 x2 x3=>⟨_,ae,k+1,rfl,ae,(by rw[x1,aB ae]),x2,x3⟩
   have fK:k<xs.length:=ae
   have fe:(xs.map e)[k]? =some (e xs[k]):=by simp[fK]
   have uh:=hz xs[k]
   have ht:(e xs[k]).take z=e xs[k]:=by rw[<-uh,List.take_length]
   have hs:=xn wt fK
   have nR:=qI wt xs (k+1)
   have iT:=hg _ (List.getElem_mem fK) (left-xs.length-(jr wt xs k:Nat)) kB ae
   have k7:cQ (dM st_a.get) 6 [.agg (e xs[k]),.int .i64 (left-xs.length-(jr wt xs k:Nat))]=some [.agg (e xs[k]),.int .i64 (left-xs.length-(jr wt xs k:Nat))]:=by
    have q1:=Dq xs[k] (dM st_a.get)
    rw[ai,ao]at q1
    rw[ai,ai,ao,aD]
    revert q1
    cases V.fz (dM st_a.get) 6 (.agg (e xs[k]))<;>simp
   by_cases Cc:(wt xs[k]:Int)<=left-xs.length-(jr wt xs k:Nat)
   ·rw[yl,if_pos Cc]at iT
    have VV:¬left-xs.length-(jr wt xs k:Nat)-(wt xs[k]:Int)<0:=ae
    have mT:left-xs.length-(jr wt xs k:Nat)-(wt xs[k]:Int)=left-xs.length-(jr wt xs (k+1):Nat):=by rw[hs];omega
    generalize hex:e xs[k]=c at iT k7 fe uh ht
    (try((repeat(revert hN;revert N;apply Pn.out));refine wk (tw @a5 (tw @a1 (tw @a0 (tw @hk (tw @fe (tw @uh (tw @ht @Nat.le_refl))))))) ?_;(repeat(refine Pn.mk ?_;intro N hN))))
    refine .inl ⟨_,ak.x iT k7,?_⟩
    refine hN _ _ ?_
    clear hN N
    (try((repeat(revert hN;revert N;apply Pn.out));refine wk (tw @a5 (tw @a1 (tw @a0 @VV))) ?_;(repeat(refine Pn.mk ?_;intro N hN))))
    refine bZ ?_ ?_ ((by rw[hs];omega))
    all_goals simp only[go_sem, ↓reduceIte,Nat.reduceEqDiff,Nat.reduceAdd,Nat.reduceSub,Nat.reduceLeDiff,reduceCtorEq,a5,a1,a0,mT]
   ·rw[yl,if_neg Cc]at iT
    generalize hex:e xs[k]=c at iT k7 fe uh ht
    (try((repeat(revert hN;revert N;apply Pn.out));refine wk (tw @a5 (tw @a1 (tw @a0 (tw @hk (tw @fe (tw @uh (tw @ht @Nat.le_refl))))))) ?_;(repeat(refine Pn.mk ?_;intro N hN))))
    refine .inl ⟨_,ak.x iT k7,?_⟩
    refine hN _ _ ?_
    clear hN N
    (try((repeat(revert hN;revert N;apply Pn.out));refine wk (tw @a5 (tw @a1 @a0)) ?_;(repeat(refine Pn.mk ?_;intro N hN))))
    exact cu (b:=-1) (.inl rfl) (sd @Nat.zero_add) (by rw[yl,if_neg ae])
  ·(try((repeat(revert hN;revert N;apply Pn.out));refine wk (tw @a5 (tw @a1 (tw @a0 @hk))) ?_;(repeat(refine Pn.mk ?_;intro N hN))))
   have fK:k=xs.length:=ae
   subst fK
   have NW:=C7 wt xs
   exact cu (b:=left-xs.length-(jr wt xs xs.length:Nat)) (.inl rfl) (sd (tw @a5 (tw @a1 @a0))) (by rw[yl,if_pos ae];omega)
 ·have mO:left-(xs.length:Int)<0:=ae
  (try((repeat(revert hN;revert N;apply Pn.out));refine wk (tw @hw @mO) ?_;(repeat(refine Pn.mk ?_;intro N hN))))
  exact cu (b:=-1) (.inl rfl) (sd @Nat.zero_add) (by rw[yl,if_neg ae])
theorem Jf {α:Type} {xs ys:List α} (hl:xs.length=ys.length) (h:∀j:Nat,j<xs.length->∀(h1:j<xs.length) (h2:j<ys.length),xs[j]=ys[j]):xs=ys:=List.ext_getElem hl fun j h1 h2=>h j h1 h1 h2
theorem zW {α:Type} [DecidableEq α] {e:α->List AV} {z fk gk:Nat} (hc:nf P fk=some (BW fk gk z)) (hz:∀x,(e x).length=z) (Dq:∀x g,cQ g 6 [.agg (e x)]=some [.agg (e x)]) (xs ys:List α)
  (hg:∀x y,ak P gk [.agg (e x),.agg (e y)] (.bool (decide (x=y)))):ak P fk [.sl (xs.map e),.sl (ys.map e)] (.bool (decide (xs=ys))):=by
 refine ak.body hc rfl fun hl n0=>?_
 try simp only[q]
 have hn:xs.length<=9223372036854775807:=by simpa using(hl (.sl (xs.map e)) (by simp)).len
 clear hl
 by_cases hlen:xs.length=ys.length
 ·have iU:decide ((xs.length:Int)=(ys.length:Int))=true:=by simp[hlen]
  (try((repeat(revert hN;revert N;apply Pn.out));refine wk @iU ?_;(repeat(refine Pn.mk ?_;intro N hN))))
  refine aT (fun n env st=>∃k:Nat,n=(xs.length)-k/\k<=(xs.length)/\env 5=.int .i64 (k:Int)/\(∀j:Nat,j<k->∀(h1:j<xs.length) (h2:j<ys.length),xs[j]=ys[j])) (xs.length) ⟨0,ae,ae,sl @Nat.zero_add,fun _ h=>absurd h (Nat.not_lt_zero _)⟩ ?_
  rintro n_a env_a st_a ⟨k,rfl,ale,a5,lV⟩ dr
  have a0:=dr 0 (by kernel_rfl);have a1:=dr 1 (by kernel_rfl)
  simp only[go_sem, ↓reduceIte,Nat.reduceEqDiff,Nat.reduceAdd,Nat.reduceSub,Nat.reduceLeDiff,reduceCtorEq]at a0 a1
  clear dr
  by_cases hk:(k:Int)<(xs.length:Int)
  ·have bZ:∀{e:Env},(e 5=.int .i64 (IntKind.i64.wrap ((k:Int)+1)))->(∀(h1:k<xs.length) (h2:k<ys.length),xs[k]=ys[k])->∃m0,m0<(xs.length)-k/\∃k:Nat,m0=(xs.length)-k/\k<=(xs.length)/\e 5=.int .i64 (k:Int)/\(∀j:Nat,j<k->∀(h1:j<xs.length) (h2:j<ys.length),xs[j]=ys[j]):=fun x1 x2=>⟨_,ae,k+1,rfl,ae,(by rw[x1,aB ae]),(all_succ lV x2)⟩
   have fK:k<xs.length:=ae
   have Uk:k<ys.length:=ae
   have fe:(xs.map e)[k]? =some (e xs[k]):=by simp[fK]
   have Es:(ys.map e)[k]? =some (e ys[k]):=by simp[Uk]
   have uh:=hz xs[k]
   have ED:=hz ys[k]
   have ht:(e xs[k]).take z=e xs[k]:=by rw[<-uh,List.take_length]
   have Iq:(e ys[k]).take z=e ys[k]:=by rw[<-ED,List.take_length]
   have iT:=hg xs[k] ys[k]
   have k7:∀g,cQ g 6 [.agg (e xs[k]),.agg (e ys[k])]=some [.agg (e xs[k]),.agg (e ys[k])]:=fun g=>by
    have q1:=Dq xs[k] g
    have q2:=Dq ys[k] g
    rw[ai,ao]at q1
    rw[ai,q2]
    revert q1
    cases V.fz g 6 (.agg (e xs[k]))<;>simp
   by_cases heq:xs[k]=ys[k]
   ·rw[decide_eq_true heq]at iT
    generalize hex:e xs[k]=c at iT k7 fe uh ht
    generalize hey:e ys[k]=d at iT k7 Es ED Iq
    (try((repeat(revert hN;revert N;apply Pn.out));refine wk (tw @a5 (tw @a0 (tw @a1 (tw @hk (tw @fe (tw @Es (tw @uh (tw @ED (tw @ht (tw @Iq @Nat.le_refl)))))))))) ?_;(repeat(refine Pn.mk ?_;intro N hN))))
    refine⟨_,ak.x iT (k7 _),?_⟩
    refine hN _ _ ?_
    clear hN N
    (try((repeat(revert hN;revert N;apply Pn.out));refine wk (tw @a5 (tw @a0 @a1)) ?_;(repeat(refine Pn.mk ?_;intro N hN))))
    exact bZ (sd (tw @a5 (tw @a0 @a1))) (fun _ _=>heq)
   ·rw[decide_eq_false heq]at iT
    generalize hex:e xs[k]=c at iT k7 fe uh ht
    generalize hey:e ys[k]=d at iT k7 Es ED Iq
    (try((repeat(revert hN;revert N;apply Pn.out));refine wk (tw @a5 (tw @a0 (tw @a1 (tw @hk (tw @fe (tw @Es (tw @uh (tw @ED (tw @ht (tw @Iq @Nat.le_refl)))))))))) ?_;(repeat(refine Pn.mk ?_;intro N hN))))
    refine⟨_,ak.x iT (k7 _),?_⟩
    refine hN _ _ ?_
    clear hN N
    (try((repeat(revert hN;revert N;apply Pn.out));refine wk (tw @a5 (tw @a0 @a1)) ?_;(repeat(refine Pn.mk ?_;intro N hN))))
    exact aZ (b:=false) (.inl rfl) (sd @Nat.zero_add) (decide_eq_false fun h=>heq (List.getElem_of_eq h _)).symm
  ·(try((repeat(revert hN;revert N;apply Pn.out));refine wk (tw @a5 (tw @a0 (tw @a1 @hk))) ?_;(repeat(refine Pn.mk ?_;intro N hN))))
   exact aZ (b:=true) (.inl rfl) (sd @Nat.zero_add) (decide_eq_true (Jf hlen fun j hj h1 h2=>lV j ae h1 h2)).symm
 ·have iU:decide ((xs.length:Int)=(ys.length:Int))=false:=decide_eq_false fun h=>hlen ae
  (try((repeat(revert hN;revert N;apply Pn.out));refine wk @iU ?_;(repeat(refine Pn.mk ?_;intro N hN))))
  exact aZ (b:=false) (.inl rfl) (sd @Nat.zero_add) (decide_eq_false fun h=>hlen (by subst h;rfl)).symm
theorem RX {fk:Nat} (hc:nf P fk=some (NT fk .tI)) (xs ys:List Int):
  ak P fk [.sl (xs.map fun x=>[AV.int .i64 x]),.sl (ys.map fun x=>[AV.int .i64 x])] (.bool (decide (xs=ys))):=by
 refine ak.body hc rfl fun hl n0=>?_
 try simp only[q]
 have hn:xs.length<=9223372036854775807:=by simpa using(hl (.sl (xs.map fun x=>[AV.int .i64 x])) (by simp)).len
 clear hl
 by_cases hlen:xs.length=ys.length
 ·have iU:decide ((xs.length:Int)=(ys.length:Int))=true:=by simp[hlen]
  (try((repeat(revert hN;revert N;apply Pn.out));refine wk @iU ?_;(repeat(refine Pn.mk ?_;intro N hN))))
  refine aT (fun n env st=>∃k:Nat,n=(xs.length)-k/\k<=(xs.length)/\env 5=.int .i64 (k:Int)/\(∀j:Nat,j<k->∀(h1:j<xs.length) (h2:j<ys.length),xs[j]=ys[j])) (xs.length) ⟨0,ae,ae,sl @Nat.zero_add,fun _ h=>absurd h (Nat.not_lt_zero _)⟩ ?_
  rintro n_a env_a st_a ⟨k,rfl,ale,a5,lV⟩ dr
  have a0:=dr 0 (by kernel_rfl);have a1:=dr 1 (by kernel_rfl)
  simp only[go_sem, ↓reduceIte,Nat.reduceEqDiff,Nat.reduceAdd,Nat.reduceSub,Nat.reduceLeDiff,reduceCtorEq]at a0 a1
  clear dr
  by_cases hk:(k:Int)<(xs.length:Int)
  ·have bZ:∀{e:Env},(e 5=.int .i64 (IntKind.i64.wrap ((k:Int)+1)))->(∀(h1:k<xs.length) (h2:k<ys.length),xs[k]=ys[k])->∃m0,m0<(xs.length)-k/\∃k:Nat,m0=(xs.length)-k/\k<=(xs.length)/\e 5=.int .i64 (k:Int)/\(∀j:Nat,j<k->∀(h1:j<xs.length) (h2:j<ys.length),xs[j]=ys[j]):=fun x1 x2=>⟨_,ae,k+1,rfl,ae,(by rw[x1,aB ae]),(all_succ lV x2)⟩
   have fK:k<xs.length:=ae
   have Uk:k<ys.length:=ae
   have fe:(xs.map fun x=>[AV.int .i64 x])[k]? =some [.int .i64 xs[k]]:=by simp[fK]
   have Es:(ys.map fun x=>[AV.int .i64 x])[k]? =some [.int .i64 ys[k]]:=by simp[Uk]
   by_cases heq:xs[k]=ys[k]
   ·have hq:=decide_eq_true heq
    (try((repeat(revert hN;revert N;apply Pn.out));refine wk (tw @a5 (tw @a0 (tw @a1 (tw @hk (tw @fe (tw @Es @hq)))))) ?_;(repeat(refine Pn.mk ?_;intro N hN))))
    exact bZ (sd (tw @a5 (tw @a0 @a1))) (fun _ _=>heq)
   ·have hq:=decide_eq_false heq
    (try((repeat(revert hN;revert N;apply Pn.out));refine wk (tw @a5 (tw @a0 (tw @a1 (tw @hk (tw @fe (tw @Es @hq)))))) ?_;(repeat(refine Pn.mk ?_;intro N hN))))
    exact aZ (b:=false) (.inl rfl) (sd @Nat.zero_add) (decide_eq_false fun h=>heq (List.getElem_of_eq h _)).symm
  ·(try((repeat(revert hN;revert N;apply Pn.out));refine wk (tw @a5 (tw @a0 (tw @a1 @hk))) ?_;(repeat(refine Pn.mk ?_;intro N hN))))
   exact aZ (b:=true) (.inl rfl) (sd @Nat.zero_add) (decide_eq_true (Jf hlen fun j hj h1 h2=>lV j ae h1 h2)).symm
 ·have iU:decide ((xs.length:Int)=(ys.length:Int))=false:=decide_eq_false fun h=>hlen ae
  (try((repeat(revert hN;revert N;apply Pn.out));refine wk @iU ?_;(repeat(refine Pn.mk ?_;intro N hN))))
  exact aZ (b:=false) (.inl rfl) (sd @Nat.zero_add) (decide_eq_false fun h=>hlen (by subst h;rfl)).symm
theorem vK (l:List AV):l++[]=l:=List.append_nil l
def ib {α:Type} (e:α->List AV) (zc:List AV) (xs:List α) (k:Nat):List (List AV):=(xs.take k).map e++List.replicate (xs.length-k) zc
theorem o8 {α:Type} (e:α->List AV) (zc:List AV) (xs:List α):List.replicate xs.length zc=ib e zc xs 0:=by simp[ib]
theorem qS {α:Type} (e:α->List AV) (zc:List AV) (xs:List α):ib e zc xs xs.length=xs.map e:=by simp[ib]
theorem qT {α:Type} (e:α->List AV) (zc:List AV) (xs:List α) {k:Nat} (hk:k<xs.length):(ib e zc xs k)[k]? =some zc:=by
 have h1:((xs.take k).map e).length=k:=by simp;omega
 rw[ib,List.getElem?_append_right ae,h1,Nat.sub_self,List.getElem?_replicate,if_pos ae]
theorem qU {α:Type} (e:α->List AV) (zc:List AV) (xs:List α) {k:Nat} (hk:k<xs.length):(ib e zc xs k).set k (e xs[k])=ib e zc xs (k+1):=by
 have h1:((xs.take k).map e).length=k:=by simp;omega
 rw[ib,List.set_append_right _ _ ae,h1,Nat.sub_self,ib,List.take_succ_eq_append_getElem hk,List.map_append,List.append_assoc]
 congr 1
 obtain⟨m,hm⟩:∃m,xs.length-k=m+1:=⟨xs.length-k-1,ae⟩
 rw[hm,show xs.length-(k+1)=m by omega,List.replicate_succ]
 rfl
theorem Fp {α:Type} {en:α->List AV} {z fk gk:Nat} {zero:List K} (hc:nf P fk=some (uv fk gk z zero)) (xI:zero.length=z) (hz:∀x,(en x).length=z) (gn:∀x,(en x).all AV.cell=true) (Dq:∀x g,cQ g 5 (en x)=some (en x)) (xs:List α) (hlen:xs.length<=1048576)
  (hg:∀x∈xs,lS P gk [.agg (en x)] (.agg (en x))):lS P fk [.sl (xs.map en)] (.sl (xs.map en)):=by
 refine lS.body hc rfl fun hl σ=>?_
 try simp only[q]
 clear hl
 have hm:(xs.length:Int)<=((16777216:Nat):Int):=ae
 have h0:(0:Int)<=(xs.length:Int):=ae
 (try((repeat(revert hN;revert N;apply Pn.out));refine wk (tw @hm (tw @h0 (tw @Int.le_refl (tw (o8 en (zero.map K.av) xs) @xI)))) ?_;(repeat(refine Pn.mk ?_;intro N hN))))
 refine aT (fun n env st=>∃k:Nat,n=(xs.length)-k/\k<=(xs.length)/\env 4=.int .i64 (k:Int)/\st.get ⟨fk*1000000+1002,σ.next+1⟩=some ⟨true,z,ib en (zero.map K.av) xs k⟩) (xs.length) ⟨0,ae,ae,sl @Nat.zero_add,sl @Nat.zero_add⟩ ?_
 rintro n_a env_a st_a ⟨k,rfl,ale,a4,ag0⟩ dr
 have a0:=dr 0 (by kernel_rfl);have a3:=dr 3 (by kernel_rfl)
 simp only[go_sem, ↓reduceIte,Nat.reduceEqDiff,Nat.reduceAdd,Nat.reduceSub,Nat.reduceLeDiff,reduceCtorEq]at a0 a3
 clear dr
 by_cases hk:(k:Int)<(xs.length:Int)
 ·have bZ:∀{e:Env} {gg:Rows},(e 4=.int .i64 (IntKind.i64.wrap ((k:Int)+1)))->(gg ⟨fk*1000000+1002,σ.next+1⟩=some ⟨true,z,ib en (zero.map K.av) xs (k+1)⟩)->∃m0,m0<(xs.length)-k/\∃k:Nat,m0=(xs.length)-k/\k<=(xs.length)/\e 4=.int .i64 (k:Int)/\gg ⟨fk*1000000+1002,σ.next+1⟩=some ⟨true,z,ib en (zero.map K.av) xs k⟩:=fun x1 x2=>⟨_,ae,k+1,rfl,ae,(by rw[x1,aB ae]),x2⟩
  have fK:k<xs.length:=ae
  have fe:(xs.map en)[k]? =some (en xs[k]):=by simp[fK]
  have uh:=hz xs[k]
  have ql:=gn xs[k]
  have ht:(en xs[k]).take z=en xs[k]:=by rw[<-uh,List.take_length]
  have iT:=hg _ (List.getElem_mem fK)
  have fh:=qT en (zero.map K.av) xs fK
  have ei:=qU en (zero.map K.av) xs fK
  have Jt:(zero.map K.av).drop z=[]:=List.drop_of_length_le (by simp[xI])
  generalize hex:en xs[k]=c at iT fe uh ht ql ei
  (repeat(first|((repeat(revert hN;revert N;apply Pn.out));refine wk (tw @a4 (tw @ag0 (tw @a0 (tw @a3 (tw @hk (tw @fe (tw @uh (tw @ht (tw @Nat.le_refl (tw @fh (tw @ei (tw @Jt (tw @vK (tw @ql @xI)))))))))))))) ?_;(repeat(refine Pn.mk ?_;intro N hN)))|((try apply Or.inl);refine⟨_,lS.x (iT) _,?_⟩;refine hN _ _ ?_;clear hN N)))
  refine bZ ?_ ?_
  all_goals simp only[go_sem, ↓reduceIte,Nat.reduceEqDiff,Nat.reduceAdd,Nat.reduceSub,Nat.reduceLeDiff,reduceCtorEq,a4,ag0,a0,a3]
 ·(try((repeat(revert hN;revert N;apply Pn.out));refine wk (tw @a4 (tw @ag0 (tw @a0 (tw @a3 @hk)))) ?_;(repeat(refine Pn.mk ?_;intro N hN))))
  have fK:k=xs.length:=ae
  subst fK
  refine Tw (.inl rfl) (r0:=.own ⟨fk*1000000+1002,σ.next+1⟩ 0 xs.length) (sd (tw @a4 (tw @ag0 (tw @a0 @a3)))) ?_
  rw[qS]at ag0
  exact gH ag0 (by simp) fun x=>Dq x _
theorem TA {fk:Nat} (hc:nf P fk=some (KW fk (.int .i64 0))) (xs:List Int) (hlen:xs.length<=1048576):lS P fk [.sl (xs.map fun x=>[AV.int .i64 x])] (.sl (xs.map fun x=>[AV.int .i64 x])):=by
 refine lS.body hc rfl fun hl σ=>?_
 try simp only[q]
 clear hl
 obtain⟨en,Lp⟩:∃en:Int->List AV,en=fun x=>[AV.int .i64 x]:=⟨_,rfl⟩
 rw[<-Lp]
 have hm:(xs.length:Int)<=((16777216:Nat):Int):=ae
 have h0:(0:Int)<=(xs.length:Int):=ae
 (try((repeat(revert hN;revert N;apply Pn.out));refine wk (tw @hm (tw @h0 (tw @Int.le_refl (o8 en [AV.int .i64 0] xs)))) ?_;(repeat(refine Pn.mk ?_;intro N hN))))
 refine aT (fun n env st=>∃k:Nat,n=(xs.length)-k/\k<=(xs.length)/\env 4=.int .i64 (k:Int)/\st.get ⟨fk*1000000+1002,σ.next+1⟩=some ⟨true,1,ib en [AV.int .i64 0] xs k⟩) (xs.length) ⟨0,ae,ae,sl @Nat.zero_add,sl @Nat.zero_add⟩ ?_
 rintro n_a env_a st_a ⟨k,rfl,ale,a4,ag0⟩ dr
 have a0:=dr 0 (by kernel_rfl);have a3:=dr 3 (by kernel_rfl)
 simp only[go_sem, ↓reduceIte,Nat.reduceEqDiff,Nat.reduceAdd,Nat.reduceSub,Nat.reduceLeDiff,reduceCtorEq]at a0 a3
 clear dr
 by_cases hk:(k:Int)<(xs.length:Int)
 ·have bZ:∀{e:Env} {gg:Rows},(e 4=.int .i64 (IntKind.i64.wrap ((k:Int)+1)))->(gg ⟨fk*1000000+1002,σ.next+1⟩=some ⟨true,1,ib en [AV.int .i64 0] xs (k+1)⟩)->∃m0,m0<(xs.length)-k/\∃k:Nat,m0=(xs.length)-k/\k<=(xs.length)/\e 4=.int .i64 (k:Int)/\gg ⟨fk*1000000+1002,σ.next+1⟩=some ⟨true,1,ib en [AV.int .i64 0] xs k⟩:=fun x1 x2=>⟨_,ae,k+1,rfl,ae,(by rw[x1,aB ae]),x2⟩
  have fK:k<xs.length:=ae
  have fe:(xs.map en)[k]? =some [AV.int .i64 xs[k]]:=by simp[fK,Lp]
  have fh:=qT en [AV.int .i64 0] xs fK
  have ei:=qU en [AV.int .i64 0] xs fK
  rw[show en xs[k]=[AV.int .i64 xs[k]] by rw[Lp]]at ei
  (try((repeat(revert hN;revert N;apply Pn.out));refine wk (tw @a4 (tw @ag0 (tw @a0 (tw @a3 (tw @hk (tw @fe (tw @fh @ei))))))) ?_;(repeat(refine Pn.mk ?_;intro N hN))))
  refine bZ ?_ ?_
  all_goals simp only[go_sem, ↓reduceIte,Nat.reduceEqDiff,Nat.reduceAdd,Nat.reduceSub,Nat.reduceLeDiff,reduceCtorEq,a4,ag0,a0,a3]
 ·(try((repeat(revert hN;revert N;apply Pn.out));refine wk (tw @a4 (tw @ag0 (tw @a0 (tw @a3 @hk)))) ?_;(repeat(refine Pn.mk ?_;intro N hN))))
  have fK:k=xs.length:=ae
  subst fK
  refine Tw (.inl rfl) (r0:=.own ⟨fk*1000000+1002,σ.next+1⟩ 0 xs.length) (sd (tw @a4 (tw @ag0 (tw @a0 @a3)))) ?_
  rw[qS]at ag0
  exact gH ag0 (by simp) fun x=>by simp[Lp,ai,ao,aD]
end Go.Proofs.YtkbipfflibjfbaaGreat.V

namespace Go.Proofs.YtkbipfflibjfbaaGreat
open Go.RowKit
def Sl (w:World) (fp:List Nat) (v:Value) (n:Nat) (xs:List Value):Prop:=
 ∃A c,v=.slice A n c/\n<=c/\c<=maxLen/\
  ((fp=[]/\n=0)∨∃b o,fp=[b]/\A=some ⟨b,o,none⟩/\∀j u,xs[j]? =some u->w.cell? ⟨b,o+j,none⟩=some u)
def fX (fp:List Nat) (lo hi:Nat):Prop:=∀b∈fp,lo<=b/\b<hi
theorem fX.nil (lo hi:Nat):fX [] lo hi:=fun _ h=>by cases h
theorem Sl.nil (w:World):Sl w [] (.slice none 0 0) 0 []:=⟨none,0,rfl,Nat.le_refl _,by simp[maxLen],.inl ⟨rfl,rfl⟩⟩
def OF {α:Type} (rep:World->List Nat->List Value->α->Prop) (sz:Nat) (w:World) (o9:List (List Value)) (FN:List (List Nat)) (ds:List α):Prop:=
 o9.length=ds.length/\FN.length=ds.length/\∀(i:Nat) (cs:List Value) (f:List Nat) (d:α),o9[i]? =some cs->FN[i]? =some f->ds[i]? =some d->rep w f cs d/\cs.length=sz
def nF {α:Type} (rep:World->List Nat->List Value->α->Prop) (sz:Nat) (w:World) (fp:List Nat) (v:Value) (ds:List α):Prop:=
 ∃o9 FN U4,fp=U4++FN.flatten/\Sl w U4 v ds.length o9.flatten/\OF rep sz w o9 FN ds
theorem rm {α:Type} {FN:List (List α)} {i:Nat} {f:List α} (h:FN[i]? =some f):∀b∈f,b∈FN.flatten:=fun b hb=>
 List.mem_flatten.2 ⟨f,List.mem_of_getElem? h,hb⟩
theorem tY {α:Type} {o9:List (List α)} {sz:Nat} (h:∀cs∈o9,cs.length=sz) {i j:Nat} {cs:List α} (hi:o9[i]? =some cs) (hj:j<sz):o9.flatten[i*sz+j]? =cs[j]? :=by
 induction o9 generalizing i with
 |nil=>simp at hi
 |cons c r ih=>
  have hc:c.length=sz:=h c (by simp)
  cases i with
  |zero=>
   simp at hi;subst hi
   rw[List.flatten_cons,List.getElem?_append_left (by omega)];simp
  |succ i=>
   rw[List.flatten_cons,List.getElem?_append_right (by rw[hc,Nat.succ_mul];omega)]
   have:(i+1)*sz+j-c.length=i*sz+j:=by rw[hc,Nat.succ_mul];omega
   rw[this]
   exact ih (fun cs dy=>h cs (List.mem_cons_of_mem _ dy)) (by simpa using hi)
theorem OF.lens {α:Type} {rep:World->List Nat->List Value->α->Prop} {sz:Nat} {w:World} {o9:List (List Value)} {FN:List (List Nat)} {ds:List α}
  (h:OF rep sz w o9 FN ds):∀cs∈o9,cs.length=sz:=fun cs dy=>by
 obtain⟨i,hi,rfl⟩:=List.getElem_of_mem dy
 have h1:i<FN.length:=by rw[h.2.1,<-h.1];exact hi
 have h2:i<ds.length:=by rw[<-h.1];exact hi
 exact(h.2.2 i _ _ _ (List.getElem?_eq_getElem hi) (List.getElem?_eq_getElem h1) (List.getElem?_eq_getElem h2)).2
theorem nF.at_ {α:Type} {rep:World->List Nat->List Value->α->Prop} {sz:Nat} {w:World} {fp:List Nat} {A:Option Addr} {n c:Nat} {ds:List α}
  (h:nF rep sz w fp (.slice A n c) ds) (k:Nat) (hk:k<ds.length):
  ∃b o cs f,A=some ⟨b,o,none⟩/\b∈fp/\(∀x∈f,x∈fp)/\rep w f cs ds[k]/\cs.length=sz/\∀j u,cs[j]? =some u->w.cell? ⟨b,o+(k*sz+j),none⟩=some u:=by
 obtain⟨o9,FN,U4,rfl,⟨A',c',hv,_,_,hc⟩,hr⟩:=h
 simp only[Value.slice.injEq]at hv
 obtain⟨rfl,hn,rfl⟩:=hv
 rcases hc with⟨_,h0⟩|⟨b,o,rfl,rfl,hc⟩
 ·omega
 have h1:k<o9.length:=by rw[hr.1];exact hk
 have h2:k<FN.length:=by rw[hr.2.1];exact hk
 obtain⟨ij,hl⟩:=hr.2.2 k _ _ _ (List.getElem?_eq_getElem h1) (List.getElem?_eq_getElem h2) (List.getElem?_eq_getElem hk)
 refine⟨b,o,o9[k],FN[k],rfl,by simp,fun x hx=>List.mem_append_right _ (rm (List.getElem?_eq_getElem h2) x hx),ij,hl,fun j u hj=>?_⟩
 have gW:j<sz:=by rw[<-hl];exact(List.getElem?_eq_some_iff.1 hj).1
 exact hc _ u (by rw[tY hr.lens (List.getElem?_eq_getElem h1) gW];exact hj)
theorem nF.len {α:Type} {rep:World->List Nat->List Value->α->Prop} {sz:Nat} {w:World} {fp:List Nat} {v:Value} {ds:List α}
  (h:nF rep sz w fp v ds):∃A c,v=.slice A ds.length c/\ds.length<=c/\c<=maxLen:=by
 obtain⟨_,_,_,_,⟨A,c,hv,h1,h2,_⟩,_⟩:=h
 exact⟨A,c,hv,h1,h2⟩
theorem nF.nil {α:Type} (rep:World->List Nat->List Value->α->Prop) (sz:Nat) (w:World):nF rep sz w [] (.slice none 0 0) ([]:List α):=
 ⟨[],[],[],rfl,Sl.nil w,rfl,rfl,fun i cs f d hc=>by simp at hc⟩
def Flat {α:Type} (enc:α->List Value):World->List Nat->List Value->α->Prop:=fun _ f cs d=>f=[]/\cs=enc d
def Q (w w':World):Prop:=∃q,w'=w.drewN q
theorem IQ {B:Nat} {a w:World} (h:Below B a w) (n:Nat):Below B a (w.drewN n):=⟨h.os,h.tape,h.output,h.size,h.block⟩
theorem jl {a b:Bool} (h:a=b):Ending.returned (.bool a)=.returned (.bool b):=by rw[h]
theorem C1 {k:IntKind} {a b:Int} (h:a=b):Ending.returned (.int k a)=.returned (.int k b):=by rw[h]
def Unf (w:World) (b:Nat):Prop:=∃cs e,w.heap[b]? =some (.cells cs e (0,0))
def putCells (w:World) (g:Nat):Nat->List Value->World
 |_,[]=>w
 |i,v::r=>putCells (w.setCell ⟨g,i,none⟩ v) g (i+1) r
structure Only (fp:List Nat) (w w':World):Prop where
 os:w'.os=w.os
 tape:w'.tape=w.tape
 output:w'.output=w.output
 size:w.heap.size<=w'.heap.size
 block:∀x,x<w.heap.size->x∉fp->w'.heap[x]? =w.heap[x]?
 unf:∀x,Unf w x->Unf w' x
structure aq where
 dQ:Int
 dH:Int
deriving DecidableEq
structure ah where
 bw:aq
 bY:Int
deriving DecidableEq
structure dD where
 aj:List ah
deriving DecidableEq
structure fM where
 aE:ByteArray
 eP:Int
deriving DecidableEq
structure fb where
 aE:ByteArray
 bD:List Int
deriving DecidableEq
structure aw where
 az:List fM
 aj:List fb
deriving DecidableEq
structure cj where
 aC:aw
 cq:dD
 au:Int
deriving DecidableEq
def GW (d:Int):List Value:=[.int .i64 d]
def FB:=Flat GW
def fW (d:aq):List Value:=[.int .i64 d.dQ,.int .i64 d.dH]
def DV (d:ah):List Value:=[.int .i64 d.bw.dQ,.int .i64 d.bw.dH,.int .i64 d.bY]
def Bo:=Flat DV
def jF:=nF Bo 3
def Jb (d:fM):List Value:=[.string d.aE,.int .i64 d.eP]
def ID:=Flat Jb
def rK:=nF ID 2
def vJ:=nF FB 1
def IE (w:World) (f:List Nat) (cs:List Value) (d:fb):Prop:=
 ∃v1 f1,f=f1/\cs=[.string d.aE,v1]/\vJ w f1 v1 d.bD
def rL:=nF IE 2
end Go.Proofs.YtkbipfflibjfbaaGreat

namespace Go.Proofs.YtkbipfflibjfbaaGreat.V
open Go.RowKit
variable {P:Program} {w:World} {D:Nat->Prop}
def Iy (P:Program) (w:World) (D:Nat->Prop) (al:List AV) (cs:List Value):Prop:=∀(j:Nat) (a:AV),al[j]? =some a->∃u:Value,cs[j]? =some u/\ja P w D a u
theorem sE {α:Type} {rep:World->List Nat->List Value->α->Prop} {e:α->List AV} {sz:Nat} {f:List Nat} {v:Value} {xs:List α} (h:nF rep sz w f v xs) (hD:∀b∈f,D b)
  (hl:∀x∈xs,(e x).length=sz) (hc:∀x∈xs,∀a∈e x,a.cell=true) (hr:∀x∈xs,∀f' cs,rep w f' cs x->(∀b∈f',D b)->Iy P w D (e x) cs):ja P w D (.sl (xs.map e)) v:=by
 obtain⟨A,c,rfl,h1,h2⟩:=nF.len h
 by_cases h0:xs=[]
 ·subst h0;exact .Dw _ _ h2
 have je:0<xs.length:=List.length_pos_iff.2 h0
 obtain⟨b,o,Q3,f0,rfl,hb,Ik,Hd,En,jN⟩:=nF.at_ h 0 je
 have key:∀(i:Nat) (hi:i<xs.length),∃cs f',(∀x∈f',x∈f)/\rep w f' cs xs[i]/\cs.length=sz/\∀j u,cs[j]? =some u->w.cell? ⟨b,o+(i*sz+j),none⟩=some u:=by
  intro i hi
  obtain⟨b',o',cs,f',Ud,_,mO,oz,dy,lg⟩:=nF.at_ h i hi
  simp only[Option.some.injEq,Addr.mk.injEq,and_true]at Ud
  obtain⟨rfl,rfl⟩:=Ud
  exact⟨cs,f',mO,oz,dy,lg⟩
 refine .sl _ b o _ c sz (fun i j=>(w.cell? ⟨b,o+(i*sz+j),none⟩).getD Go.undef) (by simp) h1 h2 (hD b hb) ?_ ?_ ?_ ?_
 ·intro cs dy
  obtain⟨x,hx,rfl⟩:=List.mem_map.1 dy
  exact hl x hx
 ·intro cs dy
  obtain⟨x,hx,rfl⟩:=List.mem_map.1 dy
  exact hc x hx
 ·intro i j hi hj
  obtain⟨cs,f',_,_,dy,lg⟩:=key i hi
  rw[lg j cs[j] (List.getElem?_eq_getElem ae)]
  rfl
 ·intro i j cs a dy ha
  have hi:i<xs.length:=by
   have:=(List.getElem?_eq_some_iff.1 dy).1
   simpa using this
  obtain⟨mM,f',mO,oz,hcs',lg⟩:=key i hi
  simp[hi]at dy
  subst dy
  obtain⟨u,hu,him⟩:=hr _ (List.getElem_mem hi) f' mM oz (fun b hb=>hD b (mO b hb)) j a ha
  rw[lg j u hu]
  exact him
end Go.Proofs.YtkbipfflibjfbaaGreat.V

namespace Go.Proofs.YtkbipfflibjfbaaGreat.V
open Go.RowKit
variable {P:Program} {w:World} {D:Nat->Prop}
def aX (d:Int):List AV:=[.int .i64 d]
def aa (d:aq):List AV:=[.int .i64 d.dQ,.int .i64 d.dH]
def ab (d:ah):List AV:=[.int .i64 d.bw.dQ,.int .i64 d.bw.dH,.int .i64 d.bY]
def aP (d:dD):List AV:=[.sl (d.aj.map ab)]
def bI (d:fM):List AV:=[.str d.aE,.int .i64 d.eP]
def bm (d:fb):List AV:=[.str d.aE,.sl (d.bD.map aX)]
def ad (d:aw):List AV:=[.sl (d.az.map bI),.sl (d.aj.map bm)]
def aA (d:cj):List AV:=[.sl (d.aC.az.map bI),.sl (d.aC.aj.map bm),.sl (d.cq.aj.map ab),.int .i64 d.au]
theorem tR {f:List Nat} {v:Value} {xs:List ah} (h:jF w f v xs) (hD:∀b∈f,D b):ja P w D (.sl (xs.map ab)) v:=
 sE h hD (fun _ _=>rfl) (fun x _ a ha=>by simp[ab]at ha;rcases ha with rfl|rfl|rfl<;>rfl) fun x _ f' cs hr hf=>by
  obtain⟨_,rfl⟩:=hr
  intro j a ha
  match j,ha with
  |0,ha=>simp[ab]at ha;subst ha;exact⟨_,rfl,.int _ _⟩
  |1,ha=>simp[ab]at ha;subst ha;exact⟨_,rfl,.int _ _⟩
  |2,ha=>simp[ab]at ha;subst ha;exact⟨_,rfl,.int _ _⟩
  |j+3,ha=>simp[ab]at ha
theorem zE {d:dD} {f0:List Nat} {v0:Value} (h0:jF w f0 v0 d.aj) (d0:∀b∈f0,D b):ja P w D (.agg (aP d)) (.agg #[v0]):=by
 refine .agg _ _ (fun j=>(#[v0]:Array Value).getD j Go.undef) rfl (fun a ha=>by simp[aP]at ha;rcases ha with rfl<;>rfl) (fun j hj=>?_) (fun j a ha=>?_)
 ·match j,hj with
  |0,_=>rfl
  |j+1,hj=>simp[aP]at hj<;>omega
 ·match j,ha with
  |0,ha=>simp[aP]at ha;subst ha;exact tR h0 d0
  |j+1,ha=>simp[aP]at ha
theorem Gt {f:List Nat} {v:Value} {xs:List fM} (h:rK w f v xs) (hD:∀b∈f,D b):ja P w D (.sl (xs.map bI)) v:=
 sE h hD (fun _ _=>rfl) (fun x _ a ha=>by simp[bI]at ha;rcases ha with rfl|rfl<;>rfl) fun x _ f' cs hr hf=>by
  obtain⟨_,rfl⟩:=hr
  intro j a ha
  match j,ha with
  |0,ha=>simp[bI]at ha;subst ha;exact⟨_,rfl,.str _⟩
  |1,ha=>simp[bI]at ha;subst ha;exact⟨_,rfl,.int _ _⟩
  |j+2,ha=>simp[bI]at ha
theorem DE {f:List Nat} {v:Value} {xs:List Int} (h:vJ w f v xs) (hD:∀b∈f,D b):ja P w D (.sl (xs.map aX)) v:=
 sE h hD (fun _ _=>rfl) (fun x _ a ha=>by simp[aX]at ha;rcases ha with rfl<;>rfl) fun x _ f' cs hr hf=>by
  obtain⟨_,rfl⟩:=hr
  intro j a ha
  match j,ha with
  |0,ha=>simp[aX]at ha;subst ha;exact⟨_,rfl,.int _ _⟩
  |j+1,ha=>simp[aX]at ha
theorem Gy {f:List Nat} {v:Value} {xs:List fb} (h:rL w f v xs) (hD:∀b∈f,D b):ja P w D (.sl (xs.map bm)) v:=
 sE h hD (fun _ _=>rfl) (fun x _ a ha=>by simp[bm]at ha;rcases ha with rfl|rfl<;>rfl) fun x _ f' cs hr hf=>by
  obtain⟨v1,f1,rfl,rfl,h1⟩:=hr
  intro j a ha
  match j,ha with
  |0,ha=>simp[bm]at ha;subst ha;exact⟨_,rfl,.str _⟩
  |1,ha=>simp[bm]at ha;subst ha;exact⟨_,rfl,DE h1 hf⟩
  |j+2,ha=>simp[bm]at ha
theorem DF {d:cj} {f0:List Nat} {v0:Value} (h0:rK w f0 v0 d.aC.az) (d0:∀b∈f0,D b) {f1:List Nat} {v1:Value} (h1:rL w f1 v1 d.aC.aj) (d1:∀b∈f1,D b) {f2:List Nat} {v2:Value} (h2:jF w f2 v2 d.cq.aj) (d2:∀b∈f2,D b):ja P w D (.agg (aA d)) (.agg #[v0,v1,v2,.int .i64 d.au]):=by
 refine .agg _ _ (fun j=>(#[v0,v1,v2,.int .i64 d.au]:Array Value).getD j Go.undef) rfl (fun a ha=>by simp[aA]at ha;rcases ha with rfl|rfl|rfl|rfl<;>rfl) (fun j hj=>?_) (fun j a ha=>?_)
 ·match j,hj with
  |0,_=>rfl
  |1,_=>rfl
  |2,_=>rfl
  |3,_=>rfl
  |j+4,hj=>simp[aA]at hj<;>omega
 ·match j,ha with
  |0,ha=>simp[aA]at ha;subst ha;exact Gt h0 d0
  |1,ha=>simp[aA]at ha;subst ha;exact Gy h1 d1
  |2,ha=>simp[aA]at ha;subst ha;exact tR h2 d2
  |3,ha=>simp[aA]at ha;subst ha;exact .int _ _
  |j+4,ha=>simp[aA]at ha
end Go.Proofs.YtkbipfflibjfbaaGreat.V

namespace Go.Proofs.YtkbipfflibjfbaaGreat.V
open Go.RowKit
attribute [local irreducible] ef wpOps gN Call
attribute [local go_sem] aH fJ eW fZ gh dh upd cD K.av cP AV.cells AV.cell rowOf rowsOf part ld rowAt bU cw dI ek iq bL de eD gj fq dx ew db da dW dY bR bd cU bQ cW cV er ez eu cR bV dc eo bP aL cY cI im br cH bz bc dB bo dF AV.undef bx bE dZ ej dV ec cJ eC eE cF eB eA cX cZ List.getD_cons_zero List.getD_cons_succ List.getD_nil List.all_cons List.all_nil Bool.and_true Bool.true_and Bool.and_self Bool.not_true Bool.not_false Option.map_some Option.map_none Option.bind_some Option.bind_none List.length_cons List.length_nil List.take_succ_cons List.take_zero List.take_nil List.drop_succ_cons List.drop_zero List.drop_nil List.head?_cons List.map_cons List.map_nil List.getElem?_cons_zero List.getElem?_cons_succ List.cons_append List.nil_append List.append_nil List.length_map List.set_cons_zero List.set_cons_succ Nat.reduceMul eq_self Int.toNat_natCast Int.natCast_nonneg and_self true_and and_true decide_true decide_false Bool.false_eq_true Nat.zero_add Nat.add_zero List.contains_cons List.contains_nil Bool.or_false Bool.false_or beq_self_eq_true Nat.reduceBEq ne_eq not_true_eq_false not_false_eq_true Id.mk.injEq false_and and_false Nat.reduceLT Int.reduceLE Int.reduceLT Int.reduceToNat Int.reduceNeg Int.reduceAdd Nat.le_refl List.length_append beq_true beq_false Bool.not_eq_eq_eq_not or_false false_or dM ai ao aD bt cz aY bj aV bf cL bJ
variable {P:Program}
theorem Fx {X:fm} {Q:Ex->Env->ax->Prop} {N:Env->ax->Prop} {c:VC} {env:Env} {σ:ax} (I:Env->ax->Prop) (h2:∀e s,I e s->N e s) (h1:∀N':Env->ax->Prop,(∀e s,I e s->N' e s)->ef X c (dB N' Q) env σ):ef X c (dB N Q) env σ:=h1 N h2
def tq (f z:Nat) (a:Bool):A9:=let s:=f*1000000
 ⟨19,2,(.seq (.eS false [q 4 (.du (.k (.int .i64 0))) s]) (.seq (.seq (.eS false [q 6 (.du (.t 0)) (s+1000),q 7 (.len (.t 6)) (s+1001),q 8 (.du (.k (.int .i64 0))) (s+1002)]) (.block 0 (.loop (.seq (.eS false [q 9 (.bin .lss .i64 (.t 8) (.t 7)) (s+2000)]) (.seq (.cond (.t 9) .skip (.exit 0)) (.seq (.block 1 (.seq (.eS false [q 10 (.du (.t 8)) (s+3000),q 5 (.du (.t 10)) (s+3001)]) (.seq (.eS false [q 11 (.du (.t 1)) (s+4000),q 12 (.du (.t 0)) (s+4001),q 13 (.du (.t 5)) (s+4002),q 14 (.dE z (.t 12) (.t 13)) (s+4003),q 15 (.load a z (.t 14)) (s+4004),q 16 (.tV (.t 11) [(.t 15)]) (s+4005)]) (.cond (.t 16) (.seq (.eS false [q 17 (.du (.t 5)) (s+5000),q 4 (.du (.t 17)) (s+5001)]) .ret) .skip)))) (.eS false [q 18 (.bin .add .i64 (.t 8) (.k (.int .i64 1))) (s+6000),q 8 (.du (.t 18)) (s+6001)]))))))) (.seq (.eS false [q 4 (.du (.k (.int .i64 (-1)))) (s+7000)]) .ret))),[(.tmp 4)]⟩
def Ek (f g:Nat):A9:=let s:=f*1000000
 ⟨9,2,(.seq (.eS false [q 4 (.du (.k (.bool false))) s]) (.seq (.eS false [q 5 (.du (.t 0)) (s+1000),q 6 (.du (.t 1)) (s+1001),q 7 (.call g [(.t 5),(.t 6)]) (s+1002),q 8 (.bin .geq .i64 (.t 7) (.k (.int .i64 0))) (s+1003),q 4 (.du (.t 8)) (s+1004)]) .ret)),[(.tmp 4)]⟩
def jd {α:Type} (p:α->Bool) (xs:List α):Int:=if xs.findIdx p<xs.length then(xs.findIdx p:Int)else -1
theorem Jg {α:Type} (p:α->Bool) (xs:List α):decide (0<=jd p xs)=xs.any p:=by
 unfold jd
 by_cases h:xs.findIdx p<xs.length
 ·rw[if_pos h]
  have:xs.any p=true:=List.any_eq_true.2 (List.findIdx_lt_length.1 h)
  rw[this];simp
 ·rw[if_neg h]
  have:xs.any p=false:=by
   rw[Bool.eq_false_iff]
   intro hc
   exact h (List.findIdx_lt_length.2 (List.any_eq_true.1 hc))
  rw[this];rfl
theorem uP (a:AV) (l m:List AV):a::l++m=a::(l++m):=rfl
theorem zK (l:List AV):[]++l=l:=rfl
structure QW {α:Type} (e:α->List AV) (v:α->AV) (z:Nat) (a:Bool):Prop where
 len:∀x,(e x).length=z
 val:∀x,if a=true then v x=.agg (e x)else e x=[v x]
 fz:∀x g,cQ g 6 [v x]=some [v x]
theorem ph {α:Type} {e:α->List AV} {v:α->AV} {z fk:Nat} {a:Bool} (hE:QW e v z a) (hc:nf P fk=some (tq fk z a)) (xs:List α) (hlen:xs.length<=1048576) (f:Nat) (dp:List AV) (p:α->Bool)
  (hf:∀x∈xs,ak P f (v x::dp) (.bool (p x))) (Jv:∀g,cQ g 6 dp=some dp):
  ak P fk [.sl (xs.map e),.fn f dp] (.int .i64 (jd p xs)):=by
 refine ak.body hc rfl fun hl n0=>?_
 try simp only[q]
 clear hl
 (try((repeat(revert hN;revert N;apply Pn.out));refine wk @Nat.zero_add ?_;(repeat(refine Pn.mk ?_;intro N hN))))
 refine aT (fun n env st=>∃k:Nat,n=(xs.length)-k/\k<=(xs.length)/\env 8=.int .i64 (k:Int)/\(∀j:Nat,j<k->∀h:j<xs.length,p xs[j]=false)) (xs.length) ⟨0,ae,ae,sl @Nat.zero_add,fun _ h=>absurd h (Nat.not_lt_zero _)⟩ ?_
 rintro n_a env_a st_a ⟨k,rfl,ale,a8,lV⟩ dr
 have a0:=dr 0 (by kernel_rfl);have a1:=dr 1 (by kernel_rfl);have a7:=dr 7 (by kernel_rfl)
 simp only[go_sem, ↓reduceIte,Nat.reduceEqDiff,Nat.reduceAdd,Nat.reduceSub,Nat.reduceLeDiff,reduceCtorEq]at a0 a1 a7
 clear dr
 by_cases hk:(k:Int)<(xs.length:Int)
 ·have bZ:∀{e:Env},(e 8=.int .i64 (IntKind.i64.wrap ((k:Int)+1)))->(∀h:k<xs.length,p xs[k]=false)->∃m0,m0<(xs.length)-k/\∃k:Nat,m0=(xs.length)-k/\k<=(xs.length)/\e 8=.int .i64 (k:Int)/\(∀j:Nat,j<k->∀h:j<xs.length,p xs[j]=false):=fun x1 x2=>⟨_,ae,k+1,rfl,ae,(by rw[x1,aB ae]),(all_succ lV x2)⟩
  have fK:k<xs.length:=ae
  have hg:(xs.map e)[k]? =some (e xs[k]):=by simp[fK]
  have F0:=hf _ (List.getElem_mem fK)
  have hz:=hE.len xs[k]
  have hv:=hE.val xs[k]
  have k7:cQ (dM st_a.get) 6 (v xs[k]::dp)=some (v xs[k]::dp):=by
   have h1:=hE.fz xs[k] (dM st_a.get)
   rw[ai,ao]at h1
   rw[ai,Jv]
   revert h1
   cases V.fz (dM st_a.get) 6 (v xs[k])<;>simp
  have fin:∀hN:True,(p xs[k]=true->xs.findIdx p=k):=fun _ hp=>by
   rw[List.findIdx_eq fK];exact⟨hp,fun j hj=>lV j hj ae⟩
  cases hp:p xs[k]
  ·have Ut:=hp
   cases a
   ·rw[if_neg (by simp)]at hv
    have sS:z=1:=by rw[<-hz,hv];rfl
    subst sS
    rw[hv]at hg hz
    rw[hp]at F0
    generalize v xs[k]=c at F0 k7 hg hz
    (try((repeat(revert hN;revert N;apply Pn.out));refine wk (tw @a8 (tw @a0 (tw @a1 (tw @a7 (tw @hk (tw @hg (tw @hz (tw @uP @zK)))))))) ?_;(repeat(refine Pn.mk ?_;intro N hN))))
    refine .inl ⟨_,ak.x F0 k7,?_⟩
    refine hN _ _ ?_
    clear hN N
    (try((repeat(revert hN;revert N;apply Pn.out));refine wk (tw @a8 (tw @a0 (tw @a1 @a7))) ?_;(repeat(refine Pn.mk ?_;intro N hN))))
    exact bZ (sd (tw @a8 (tw @a0 (tw @a1 @a7)))) (fun _=>Ut)
   ·rw[if_pos rfl]at hv
    have ht:(e xs[k]).take z=e xs[k]:=by rw[<-hz,List.take_length]
    rw[hv]at F0 k7
    rw[hp]at F0
    generalize e xs[k]=c at F0 k7 hg hz ht
    (try((repeat(revert hN;revert N;apply Pn.out));refine wk (tw @a8 (tw @a0 (tw @a1 (tw @a7 (tw @hk (tw @hg (tw @hz (tw @ht (tw @uP (tw @zK @Nat.le_refl)))))))))) ?_;(repeat(refine Pn.mk ?_;intro N hN))))
    refine .inl ⟨_,ak.x F0 k7,?_⟩
    refine hN _ _ ?_
    clear hN N
    (try((repeat(revert hN;revert N;apply Pn.out));refine wk (tw @a8 (tw @a0 (tw @a1 @a7))) ?_;(repeat(refine Pn.mk ?_;intro N hN))))
    exact bZ (sd (tw @a8 (tw @a0 (tw @a1 @a7)))) (fun _=>Ut)
  ·have hi:=fin trivial hp
   cases a
   ·rw[if_neg (by simp)]at hv
    have sS:z=1:=by rw[<-hz,hv];rfl
    subst sS
    rw[hv]at hg hz
    rw[hp]at F0
    generalize v xs[k]=c at F0 k7 hg hz
    (try((repeat(revert hN;revert N;apply Pn.out));refine wk (tw @a8 (tw @a0 (tw @a1 (tw @a7 (tw @hk (tw @hg (tw @hz (tw @uP @zK)))))))) ?_;(repeat(refine Pn.mk ?_;intro N hN))))
    refine .inl ⟨_,ak.x F0 k7,?_⟩
    refine hN _ _ ?_
    clear hN N
    (try((repeat(revert hN;revert N;apply Pn.out));refine wk (tw @a8 (tw @a0 (tw @a1 @a7))) ?_;(repeat(refine Pn.mk ?_;intro N hN))))
    exact cu (b:=(k:Int)) (.inl rfl) (sd @Nat.zero_add) (by rw[jd,hi,if_pos fK])
   ·rw[if_pos rfl]at hv
    have ht:(e xs[k]).take z=e xs[k]:=by rw[<-hz,List.take_length]
    rw[hv]at F0 k7
    rw[hp]at F0
    generalize e xs[k]=c at F0 k7 hg hz ht
    (try((repeat(revert hN;revert N;apply Pn.out));refine wk (tw @a8 (tw @a0 (tw @a1 (tw @a7 (tw @hk (tw @hg (tw @hz (tw @ht (tw @uP (tw @zK @Nat.le_refl)))))))))) ?_;(repeat(refine Pn.mk ?_;intro N hN))))
    refine .inl ⟨_,ak.x F0 k7,?_⟩
    refine hN _ _ ?_
    clear hN N
    (try((repeat(revert hN;revert N;apply Pn.out));refine wk (tw @a8 (tw @a0 (tw @a1 @a7))) ?_;(repeat(refine Pn.mk ?_;intro N hN))))
    exact cu (b:=(k:Int)) (.inl rfl) (sd @Nat.zero_add) (by rw[jd,hi,if_pos fK])
 ·(try((repeat(revert hN;revert N;apply Pn.out));refine wk (tw @a8 (tw @a0 (tw @a1 (tw @a7 @hk)))) ?_;(repeat(refine Pn.mk ?_;intro N hN))))
  have hi:¬xs.findIdx p<xs.length:=by
   rw[List.findIdx_lt_length]
   rintro⟨x,hx,Lw⟩
   obtain⟨j,hj,rfl⟩:=List.getElem_of_mem hx
   rw[lV j ae hj]at Lw;cases Lw
  exact cu (b:=-1) (.inl rfl) (sd @Nat.zero_add) (by rw[jd,if_neg hi])
theorem o7 {α:Type} {e:α->List AV} {v:α->AV} {z fk gk:Nat} {a:Bool} (hE:QW e v z a) (hc:nf P fk=some (Ek fk gk)) (Af:nf P gk=some (tq gk z a)) (xs:List α) (hlen:xs.length<=1048576) (f:Nat) (dp:List AV) (p:α->Bool) (Em:dp.all AV.cell=true) (Dq:∀g,cQ g 5 dp=some dp)
  (hf:∀x∈xs,ak P f (v x::dp) (.bool (p x))) (Jv:∀g,cQ g 6 dp=some dp):
  ak P fk [.sl (xs.map e),.fn f dp] (.bool (xs.any p)):=by
 refine ak.body hc rfl fun hl n0=>?_
 try simp only[q]
 clear hl
 have hi:=ph hE Af xs hlen f dp p hf Jv
 (repeat(first|((repeat(revert hN;revert N;apply Pn.out));refine wk (tw @Em @Dq) ?_;(repeat(refine Pn.mk ?_;intro N hN)))|((try apply Or.inl);refine⟨_,ak.x (hi) (sd (tw @Em @Dq)),?_⟩;refine hN _ _ ?_;clear hN N)))
 exact aZ (b:=decide (0<=jd p xs)) (.inl rfl) (sd @Nat.zero_add) (Jg p xs)
end Go.Proofs.YtkbipfflibjfbaaGreat.V

namespace Go.Proofs.YtkbipfflibjfbaaGreat.V
open Go.RowKit
def si (P:Program) (mk:Bool):List Oper->Nat->List Nat
 |[],_=>[]
 |o::r,i=>match qO P o.op with
  |some v=>if pj v||mk&&v.mD then i::si P mk r (i+1)else si P mk r (i+1)
  |none=>si P mk r (i+1)
def zO (P:Program) (ops:Array Oper) (site0:Nat) (mk:Bool) (bs:Array Nat) (hidden:List Nat):List Oper->Nat->Option (List bh)
 |[],_=>some []
 |o::r,j=>do
  let v <-qO P o.op
  let g <-DO ops o
  pure ({dst:=o.dst,op:=v,guard:=g,site:=site0+j,hid:=(hidden.filter fun i=> !(bs.getD j 0).testBit i&&(i !=j||mk&&v.mD)).map fun i=>site0+i}::(<-zO P ops site0 mk bs hidden r (j+1)))
def o4 (P:Program) (md:List (Nat×Nat)) (fid:Nat):Code->Option VC
 | .skip=>some .skip
 | .region id ops draw=>if draw then(zO P ops ((fid*1000+id)*1000) (rn md id==1) (iN ops) (si P (rn md id==1) ops.toList 0) ops.toList 0).map (VC.eS true)else(zO P ops ((fid*1000+id)*1000) false #[] [] ops.toList 0).map (if ops.toList.any fun o=>JW o.op then VC.O3 else VC.eS false)
 | .seq a b=>do pure (.seq (<-o4 P md fid a) (<-o4 P md fid b))
 | .cond c x y=>do pure (.cond (<-cO P c) (<-o4 P md fid x) (<-o4 P md fid y))
 | .block id c=>(o4 P md fid c).map (VC.block id)
 | .loop c=>(o4 P md fid c).map VC.loop
 | .exit id=>some (.exit id)
 | .ret=>some .ret
 | .label _=>some .skip
 | .scope c=>o4 P md fid c
 |_=>none
def RN (P:Program) (md:List (Nat×Nat)) (f:Nat):Option A9:=
 match P.funcs[f]? with
 |some fn=>match fn.body with
  |some c=>do
   let b <-o4 P md f c
   let r <-fn.results.toList.mapM (GF P)
   pure {ntmps:=fn.ntmps,zk:=fn.params.size+fn.nfree,body:=b,res:=r}
  |none=>none
 |none=>none
theorem cfM {P:Program} (md:List (Nat×Nat)) {f:Nat} {v:A9} (_:RN P md f=some v:=by(conv=>lhs;cbv)<;>exact rfl) (h:xP P f md=some v:=by kernel_rfl):xP P f md=some v:=h
theorem eM {P:Program} {f:Nat} {v:A9} (_:RN P [] f=some v:=by(conv=>lhs;cbv)<;>exact rfl) (h:nf P f=some v:=by kernel_rfl):nf P f=some v:=h
def QC:A9:=⟨77,2,(.seq (.eS false [q 4 (.du (.k .iI)) 197000000]) (.seq (.eS false [q 7 (.du (.t 0)) 197001000,q 8 (.du (.t 1)) 197001001,q 9 (.build [(.int .i64 0),.ck,.ck,.ck] [(0,(1,(.t 7))),(1,(1,(.t 8)))]) 197001002,q 10 (.box (.t 9)) 197001003,q 5 (.du (.t 10)) 197001004]) (.seq (.eS false [q 11 (.du (.t 5)) 197002000,q 12 (.du (.t 0)) 197002001,q 13 (.kC [.ck] (.t 12) (.t 12)) 197002002,q 14 (.BM (.t 11)) 197002003,q 15 (.fu 2 (.t 14)) 197002004,⟨none,(.store 1 (.t 15) (.t 13)),none,197002005,[]⟩]) (.seq (.eS false [q 16 (.du (.t 5)) 197003000,q 17 (.du (.t 1)) 197003001,q 18 (.len (.t 17)) 197003002,q 19 (.kC [(.int .i64 0)] (.t 18) (.t 18)) 197003003,q 20 (.BM (.t 16)) 197003004,q 21 (.fu 3 (.t 20)) 197003005,⟨none,(.store 1 (.t 21) (.t 19)),none,197003006,[]⟩]) (.seq (.seq (.eS false [q 6 (.du (.k (.int .i64 0))) 197004000]) (.block 0 (.loop (.seq (.seq (.eS false [q 22 (.du (.t 6)) 197005000,q 23 (.du (.t 1)) 197005001,q 24 (.len (.t 23)) 197005002,q 25 (.bin .lss .i64 (.t 22) (.t 24)) 197005003]) (.cond (.t 25) .skip (.exit 0))) (.seq (.block 1 (.seq (.one ⟨(some 28),(.du (.t 5)),none,197007000,[197007021,197007022,197007024]⟩ (.one ⟨(some 29),(.BM (.t 28)),none,197007001,[197007021,197007022,197007024]⟩ (.one ⟨(some 30),(.fu 2 (.t 29)),none,197007002,[197007021,197007022,197007024]⟩ (.one ⟨(some 32),(.du (.t 1)),none,197007004,[197007021,197007022,197007024]⟩ (.one ⟨(some 33),(.du (.t 6)),none,197007005,[197007021,197007022,197007024]⟩ (.one ⟨(some 37),(.du (.t 5)),none,197007009,[197007021,197007022,197007024]⟩ (.one ⟨(some 38),(.BM (.t 37)),none,197007010,[197007021,197007022,197007024]⟩ (.one ⟨(some 39),(.fu 2 (.t 38)),none,197007011,[197007021,197007022,197007024]⟩ (.one ⟨(some 40),(.load false 1 (.t 39)),none,197007012,[197007021,197007022,197007024]⟩ (.one ⟨(some 41),(.du (.t 1)),none,197007013,[197007021,197007022,197007024]⟩ (.one ⟨(some 42),(.du (.t 6)),none,197007014,[197007021,197007022,197007024]⟩ (.one ⟨(some 43),(.dE 3 (.t 41) (.t 42)),none,197007015,[197007021,197007022,197007024]⟩ (.one ⟨(some 44),(.fu 0 (.t 43)),none,197007016,[197007021,197007022,197007024]⟩ (.one ⟨(some 45),(.load false 1 (.t 44)),none,197007017,[197007021,197007022,197007024]⟩ (.one ⟨(some 46),(.dE 1 (.t 40) (.t 45)),none,197007018,[197007021,197007022,197007024]⟩ (.one ⟨(some 47),(.load false 1 (.t 46)),none,197007019,[197007021,197007022,197007024]⟩ (.one ⟨(some 48),(.du (.t 6)),none,197007020,[197007021,197007022,197007024]⟩ (.one ⟨(some 49),(.nK 1 1 [(.t 48)]),none,197007021,[197007022,197007024]⟩ (.both (.one ⟨(some 31),(.load false 1 (.t 30)),none,197007003,[197007021,197007022,197007024]⟩ (.both (.one ⟨(some 34),(.dE 3 (.t 32) (.t 33)),none,197007006,[197007021,197007022,197007024]⟩ (.one ⟨(some 35),(.fu 0 (.t 34)),none,197007007,[197007021,197007022,197007024]⟩ (.both (.one ⟨(some 36),(.load false 1 (.t 35)),none,197007008,[197007021,197007022,197007024]⟩ (.one ⟨(some 50),(.append 1 (.t 47) (.t 49)),none,197007022,[197007024]⟩ (.one ⟨(some 51),(.dE 1 (.t 31) (.t 36)),none,197007023,[197007024]⟩ (.one ⟨none,(.store 1 (.t 51) (.t 50)),none,197007024,[]⟩ (.eS false []))))) (.one ⟨(some 50),(.append 1 (.t 47) (.t 49)),none,197007022,[197007024]⟩ (.one ⟨(some 36),(.load false 1 (.t 35)),none,197007008,[197007021,197007022,197007024]⟩ (.one ⟨(some 51),(.dE 1 (.t 31) (.t 36)),none,197007023,[197007024]⟩ (.one ⟨none,(.store 1 (.t 51) (.t 50)),none,197007024,[]⟩ (.eS false [])))))))) (.one ⟨(some 50),(.append 1 (.t 47) (.t 49)),none,197007022,[197007024]⟩ (.one ⟨(some 34),(.dE 3 (.t 32) (.t 33)),none,197007006,[197007021,197007022,197007024]⟩ (.one ⟨(some 35),(.fu 0 (.t 34)),none,197007007,[197007021,197007022,197007024]⟩ (.one ⟨(some 36),(.load false 1 (.t 35)),none,197007008,[197007021,197007022,197007024]⟩ (.one ⟨(some 51),(.dE 1 (.t 31) (.t 36)),none,197007023,[197007024]⟩ (.one ⟨none,(.store 1 (.t 51) (.t 50)),none,197007024,[]⟩ (.eS false []))))))))) (.both (.one ⟨(some 34),(.dE 3 (.t 32) (.t 33)),none,197007006,[197007021,197007022,197007024]⟩ (.one ⟨(some 35),(.fu 0 (.t 34)),none,197007007,[197007021,197007022,197007024]⟩ (.both (.one ⟨(some 31),(.load false 1 (.t 30)),none,197007003,[197007021,197007022,197007024]⟩ (.both (.one ⟨(some 36),(.load false 1 (.t 35)),none,197007008,[197007021,197007022,197007024]⟩ (.one ⟨(some 50),(.append 1 (.t 47) (.t 49)),none,197007022,[197007024]⟩ (.one ⟨(some 51),(.dE 1 (.t 31) (.t 36)),none,197007023,[197007024]⟩ (.one ⟨none,(.store 1 (.t 51) (.t 50)),none,197007024,[]⟩ (.eS false []))))) (.one ⟨(some 50),(.append 1 (.t 47) (.t 49)),none,197007022,[197007024]⟩ (.one ⟨(some 36),(.load false 1 (.t 35)),none,197007008,[197007021,197007022,197007024]⟩ (.one ⟨(some 51),(.dE 1 (.t 31) (.t 36)),none,197007023,[197007024]⟩ (.one ⟨none,(.store 1 (.t 51) (.t 50)),none,197007024,[]⟩ (.eS false []))))))) (.both (.one ⟨(some 36),(.load false 1 (.t 35)),none,197007008,[197007021,197007022,197007024]⟩ (.both (.one ⟨(some 31),(.load false 1 (.t 30)),none,197007003,[197007021,197007022,197007024]⟩ (.one ⟨(some 50),(.append 1 (.t 47) (.t 49)),none,197007022,[197007024]⟩ (.one ⟨(some 51),(.dE 1 (.t 31) (.t 36)),none,197007023,[197007024]⟩ (.one ⟨none,(.store 1 (.t 51) (.t 50)),none,197007024,[]⟩ (.eS false []))))) (.one ⟨(some 50),(.append 1 (.t 47) (.t 49)),none,197007022,[197007024]⟩ (.one ⟨(some 31),(.load false 1 (.t 30)),none,197007003,[197007021,197007022,197007024]⟩ (.one ⟨(some 51),(.dE 1 (.t 31) (.t 36)),none,197007023,[197007024]⟩ (.one ⟨none,(.store 1 (.t 51) (.t 50)),none,197007024,[]⟩ (.eS false []))))))) (.one ⟨(some 50),(.append 1 (.t 47) (.t 49)),none,197007022,[197007024]⟩ (.one ⟨(some 31),(.load false 1 (.t 30)),none,197007003,[197007021,197007022,197007024]⟩ (.one ⟨(some 36),(.load false 1 (.t 35)),none,197007008,[197007021,197007022,197007024]⟩ (.one ⟨(some 51),(.dE 1 (.t 31) (.t 36)),none,197007023,[197007024]⟩ (.one ⟨none,(.store 1 (.t 51) (.t 50)),none,197007024,[]⟩ (.eS false [])))))))))) (.one ⟨(some 50),(.append 1 (.t 47) (.t 49)),none,197007022,[197007024]⟩ (.one ⟨(some 31),(.load false 1 (.t 30)),none,197007003,[197007021,197007022,197007024]⟩ (.one ⟨(some 34),(.dE 3 (.t 32) (.t 33)),none,197007006,[197007021,197007022,197007024]⟩ (.one ⟨(some 35),(.fu 0 (.t 34)),none,197007007,[197007021,197007022,197007024]⟩ (.one ⟨(some 36),(.load false 1 (.t 35)),none,197007008,[197007021,197007022,197007024]⟩ (.one ⟨(some 51),(.dE 1 (.t 31) (.t 36)),none,197007023,[197007024]⟩ (.one ⟨none,(.store 1 (.t 51) (.t 50)),none,197007024,[]⟩ (.eS false [])))))))))))))))))))))))))))) (.one ⟨(some 52),(.du (.t 5)),none,197008000,[197008021,197008022,197008024]⟩ (.one ⟨(some 53),(.BM (.t 52)),none,197008001,[197008021,197008022,197008024]⟩ (.one ⟨(some 54),(.fu 2 (.t 53)),none,197008002,[197008021,197008022,197008024]⟩ (.one ⟨(some 56),(.du (.t 1)),none,197008004,[197008021,197008022,197008024]⟩ (.one ⟨(some 57),(.du (.t 6)),none,197008005,[197008021,197008022,197008024]⟩ (.one ⟨(some 61),(.du (.t 5)),none,197008009,[197008021,197008022,197008024]⟩ (.one ⟨(some 62),(.BM (.t 61)),none,197008010,[197008021,197008022,197008024]⟩ (.one ⟨(some 63),(.fu 2 (.t 62)),none,197008011,[197008021,197008022,197008024]⟩ (.one ⟨(some 64),(.load false 1 (.t 63)),none,197008012,[197008021,197008022,197008024]⟩ (.one ⟨(some 65),(.du (.t 1)),none,197008013,[197008021,197008022,197008024]⟩ (.one ⟨(some 66),(.du (.t 6)),none,197008014,[197008021,197008022,197008024]⟩ (.one ⟨(some 67),(.dE 3 (.t 65) (.t 66)),none,197008015,[197008021,197008022,197008024]⟩ (.one ⟨(some 68),(.fu 1 (.t 67)),none,197008016,[197008021,197008022,197008024]⟩ (.one ⟨(some 69),(.load false 1 (.t 68)),none,197008017,[197008021,197008022,197008024]⟩ (.one ⟨(some 70),(.dE 1 (.t 64) (.t 69)),none,197008018,[197008021,197008022,197008024]⟩ (.one ⟨(some 71),(.load false 1 (.t 70)),none,197008019,[197008021,197008022,197008024]⟩ (.one ⟨(some 72),(.du (.t 6)),none,197008020,[197008021,197008022,197008024]⟩ (.one ⟨(some 73),(.nK 1 1 [(.t 72)]),none,197008021,[197008022,197008024]⟩ (.both (.one ⟨(some 55),(.load false 1 (.t 54)),none,197008003,[197008021,197008022,197008024]⟩ (.both (.one ⟨(some 58),(.dE 3 (.t 56) (.t 57)),none,197008006,[197008021,197008022,197008024]⟩ (.one ⟨(some 59),(.fu 1 (.t 58)),none,197008007,[197008021,197008022,197008024]⟩ (.both (.one ⟨(some 60),(.load false 1 (.t 59)),none,197008008,[197008021,197008022,197008024]⟩ (.one ⟨(some 74),(.append 1 (.t 71) (.t 73)),none,197008022,[197008024]⟩ (.one ⟨(some 75),(.dE 1 (.t 55) (.t 60)),none,197008023,[197008024]⟩ (.one ⟨none,(.store 1 (.t 75) (.t 74)),none,197008024,[]⟩ (.eS false []))))) (.one ⟨(some 74),(.append 1 (.t 71) (.t 73)),none,197008022,[197008024]⟩ (.one ⟨(some 60),(.load false 1 (.t 59)),none,197008008,[197008021,197008022,197008024]⟩ (.one ⟨(some 75),(.dE 1 (.t 55) (.t 60)),none,197008023,[197008024]⟩ (.one ⟨none,(.store 1 (.t 75) (.t 74)),none,197008024,[]⟩ (.eS false [])))))))) (.one ⟨(some 74),(.append 1 (.t 71) (.t 73)),none,197008022,[197008024]⟩ (.one ⟨(some 58),(.dE 3 (.t 56) (.t 57)),none,197008006,[197008021,197008022,197008024]⟩ (.one ⟨(some 59),(.fu 1 (.t 58)),none,197008007,[197008021,197008022,197008024]⟩ (.one ⟨(some 60),(.load false 1 (.t 59)),none,197008008,[197008021,197008022,197008024]⟩ (.one ⟨(some 75),(.dE 1 (.t 55) (.t 60)),none,197008023,[197008024]⟩ (.one ⟨none,(.store 1 (.t 75) (.t 74)),none,197008024,[]⟩ (.eS false []))))))))) (.both (.one ⟨(some 58),(.dE 3 (.t 56) (.t 57)),none,197008006,[197008021,197008022,197008024]⟩ (.one ⟨(some 59),(.fu 1 (.t 58)),none,197008007,[197008021,197008022,197008024]⟩ (.both (.one ⟨(some 55),(.load false 1 (.t 54)),none,197008003,[197008021,197008022,197008024]⟩ (.both (.one ⟨(some 60),(.load false 1 (.t 59)),none,197008008,[197008021,197008022,197008024]⟩ (.one ⟨(some 74),(.append 1 (.t 71) (.t 73)),none,197008022,[197008024]⟩ (.one ⟨(some 75),(.dE 1 (.t 55) (.t 60)),none,197008023,[197008024]⟩ (.one ⟨none,(.store 1 (.t 75) (.t 74)),none,197008024,[]⟩ (.eS false []))))) (.one ⟨(some 74),(.append 1 (.t 71) (.t 73)),none,197008022,[197008024]⟩ (.one ⟨(some 60),(.load false 1 (.t 59)),none,197008008,[197008021,197008022,197008024]⟩ (.one ⟨(some 75),(.dE 1 (.t 55) (.t 60)),none,197008023,[197008024]⟩ (.one ⟨none,(.store 1 (.t 75) (.t 74)),none,197008024,[]⟩ (.eS false []))))))) (.both (.one ⟨(some 60),(.load false 1 (.t 59)),none,197008008,[197008021,197008022,197008024]⟩ (.both (.one ⟨(some 55),(.load false 1 (.t 54)),none,197008003,[197008021,197008022,197008024]⟩ (.one ⟨(some 74),(.append 1 (.t 71) (.t 73)),none,197008022,[197008024]⟩ (.one ⟨(some 75),(.dE 1 (.t 55) (.t 60)),none,197008023,[197008024]⟩ (.one ⟨none,(.store 1 (.t 75) (.t 74)),none,197008024,[]⟩ (.eS false []))))) (.one ⟨(some 74),(.append 1 (.t 71) (.t 73)),none,197008022,[197008024]⟩ (.one ⟨(some 55),(.load false 1 (.t 54)),none,197008003,[197008021,197008022,197008024]⟩ (.one ⟨(some 75),(.dE 1 (.t 55) (.t 60)),none,197008023,[197008024]⟩ (.one ⟨none,(.store 1 (.t 75) (.t 74)),none,197008024,[]⟩ (.eS false []))))))) (.one ⟨(some 74),(.append 1 (.t 71) (.t 73)),none,197008022,[197008024]⟩ (.one ⟨(some 55),(.load false 1 (.t 54)),none,197008003,[197008021,197008022,197008024]⟩ (.one ⟨(some 60),(.load false 1 (.t 59)),none,197008008,[197008021,197008022,197008024]⟩ (.one ⟨(some 75),(.dE 1 (.t 55) (.t 60)),none,197008023,[197008024]⟩ (.one ⟨none,(.store 1 (.t 75) (.t 74)),none,197008024,[]⟩ (.eS false [])))))))))) (.one ⟨(some 74),(.append 1 (.t 71) (.t 73)),none,197008022,[197008024]⟩ (.one ⟨(some 55),(.load false 1 (.t 54)),none,197008003,[197008021,197008022,197008024]⟩ (.one ⟨(some 58),(.dE 3 (.t 56) (.t 57)),none,197008006,[197008021,197008022,197008024]⟩ (.one ⟨(some 59),(.fu 1 (.t 58)),none,197008007,[197008021,197008022,197008024]⟩ (.one ⟨(some 60),(.load false 1 (.t 59)),none,197008008,[197008021,197008022,197008024]⟩ (.one ⟨(some 75),(.dE 1 (.t 55) (.t 60)),none,197008023,[197008024]⟩ (.one ⟨none,(.store 1 (.t 75) (.t 74)),none,197008024,[]⟩ (.eS false [])))))))))))))))))))))))))))))) (.eS false [q 26 (.du (.t 6)) 197006000,q 27 (.bin .add .i64 (.t 26) (.k (.int .i64 1))) 197006001,q 6 (.du (.t 27)) 197006002])))))) (.seq (.eS false [q 76 (.du (.t 5)) 197009000,q 4 (.du (.t 76)) 197009001]) .ret)))))),[(.tmp 4)]⟩
theorem O1:xP Tryz.prog 197 [(7,2),(8,2)]=some QC:=by kernel_rfl
def QD:A9:=⟨118,2,(.seq (.eS false [q 4 (.du (.k .ck)) 200000000]) (.seq (.eS false [q 17 (.du (.t 0)) 200001000,q 18 (.kC [.iI] (.t 17) (.t 17)) 200001001,q 5 (.du (.t 18)) 200001002]) (.seq (.seq (.eS false [q 19 (.du (.t 5)) 200002000,q 20 (.len (.t 19)) 200002001,q 21 (.du (.k (.int .i64 0))) 200002002]) (.block 0 (.loop (.seq (.eS false [q 22 (.bin .lss .i64 (.t 21) (.t 20)) 200003000]) (.seq (.cond (.t 22) .skip (.exit 0)) (.seq (.block 1 (.seq (.eS false [q 23 (.du (.t 21)) 200004000,q 6 (.du (.t 23)) 200004001]) (.eS false [q 24 (.du (.t 5)) 200005000,q 25 (.du (.t 6)) 200005001,q 26 (.du (.t 6)) 200005002,q 27 (.build [.iI,(.int .i64 0)] [(1,(1,(.t 26)))]) 200005003,q 28 (.box (.t 27)) 200005004,q 29 (.dE 1 (.t 24) (.t 25)) 200005005,⟨none,(.store 1 (.t 29) (.t 28)),none,200005006,[]⟩]))) (.eS false [q 30 (.bin .add .i64 (.t 21) (.k (.int .i64 1))) 200006000,q 21 (.du (.t 30)) 200006001]))))))) (.seq (.seq (.eS false [q 31 (.du (.t 1)) 200007000,q 32 (.len (.t 31)) 200007001,q 33 (.du (.k (.int .i64 0))) 200007002]) (.block 2 (.loop (.seq (.eS false [q 34 (.bin .lss .i64 (.t 33) (.t 32)) 200008000]) (.seq (.cond (.t 34) .skip (.exit 2)) (.seq (.block 3 (.seq (.eS false [q 35 (.dE 3 (.t 31) (.t 33)) 200009000,q 36 (.load true 3 (.t 35)) 200009001,q 8 (.new [(.int .i64 0),(.int .i64 0),(.int .i64 0)]) 200009002,⟨none,(.store 3 (.t 8) (.t 36)),none,200009003,[]⟩]) (.seq (.one (q 37 (.du (.t 5)) 200010000) (.one (q 38 (.fu 0 (.t 8)) 200010001) (.one (q 39 (.load false 1 (.t 38)) 200010002) (.one (q 40 (.dE 1 (.t 37) (.t 39)) 200010003) (.one (q 41 (.load false 1 (.t 40)) 200010004) (.one (q 43 (.du (.t 5)) 200010006) (.one (q 44 (.fu 1 (.t 8)) 200010007) (.both (.one (q 42 (.call 226 [(.t 41)]) 200010005) (.one (q 45 (.load false 1 (.t 44)) 200010008) (.one (q 46 (.dE 1 (.t 43) (.t 45)) 200010009) (.one (q 47 (.load false 1 (.t 46)) 200010010) (.one (q 48 (.call 226 [(.t 47)]) 200010011) (.one (q 9 (.du (.t 42)) 200010012) (.one (q 10 (.du (.t 48)) 200010013) (.eS false [])))))))) (.one (q 45 (.load false 1 (.t 44)) 200010008) (.both (.one (q 42 (.call 226 [(.t 41)]) 200010005) (.one (q 46 (.dE 1 (.t 43) (.t 45)) 200010009) (.one (q 47 (.load false 1 (.t 46)) 200010010) (.one (q 48 (.call 226 [(.t 47)]) 200010011) (.one (q 9 (.du (.t 42)) 200010012) (.one (q 10 (.du (.t 48)) 200010013) (.eS false []))))))) (.one (q 46 (.dE 1 (.t 43) (.t 45)) 200010009) (.both (.one (q 42 (.call 226 [(.t 41)]) 200010005) (.one (q 47 (.load false 1 (.t 46)) 200010010) (.one (q 48 (.call 226 [(.t 47)]) 200010011) (.one (q 9 (.du (.t 42)) 200010012) (.one (q 10 (.du (.t 48)) 200010013) (.eS false [])))))) (.one (q 47 (.load false 1 (.t 46)) 200010010) (.one (q 42 (.call 226 [(.t 41)]) 200010005) (.one (q 48 (.call 226 [(.t 47)]) 200010011) (.one (q 9 (.du (.t 42)) 200010012) (.one (q 10 (.du (.t 48)) 200010013) (.eS false [])))))))))))))))))) (.block 4 (.seq (.eS true [q 50 (.du (.t 9)) 200011000,q 51 (.BM (.t 50)) 200011001,q 52 (.fu 1 (.t 51)) 200011002,q 53 (.load false 1 (.t 52)) 200011003,q 54 (.du (.t 10)) 200011004,q 55 (.BM (.t 54)) 200011005,q 56 (.fu 1 (.t 55)) 200011006,q 57 (.load false 1 (.t 56)) 200011007,q 58 (.bin .lss .i64 (.t 53) (.t 57)) 200011008,q 49 (.du (.t 58)) 200011009]) (.cond (.t 49) (.eS false [q 59 (.du (.t 10)) 200012000,q 60 (.du (.t 9)) 200012001,q 61 (.BM (.t 59)) 200012002,q 62 (.fu 0 (.t 61)) 200012003,⟨none,(.store 1 (.t 62) (.t 60)),none,200012004,[]⟩]) (.seq (.eS true [q 64 (.du (.t 10)) 200013000,q 65 (.BM (.t 64)) 200013001,q 66 (.fu 1 (.t 65)) 200013002,q 67 (.load false 1 (.t 66)) 200013003,q 68 (.du (.t 9)) 200013004,q 69 (.BM (.t 68)) 200013005,q 70 (.fu 1 (.t 69)) 200013006,q 71 (.load false 1 (.t 70)) 200013007,q 72 (.bin .lss .i64 (.t 67) (.t 71)) 200013008,q 63 (.du (.t 72)) 200013009]) (.cond (.t 63) (.eS false [q 73 (.du (.t 9)) 200014000,q 74 (.du (.t 10)) 200014001,q 75 (.BM (.t 73)) 200014002,q 76 (.fu 0 (.t 75)) 200014003,⟨none,(.store 1 (.t 76) (.t 74)),none,200014004,[]⟩]) .skip)))))))) (.eS false [q 77 (.bin .add .i64 (.t 33) (.k (.int .i64 1))) 200015000,q 33 (.du (.t 77)) 200015001]))))))) (.seq (.eS false [q 11 (.du (.k .ck)) 200016000]) (.seq (.eS false [⟨(some 78),(.mq (.new ⟨false,[.tI]⟩) []),none,200017000,[]⟩,q 12 (.du (.t 78)) 200017001]) (.seq (.seq (.eS false [q 79 (.du (.t 5)) 200018000,q 80 (.len (.t 79)) 200018001,q 81 (.du (.k (.int .i64 0))) 200018002]) (.block 5 (.loop (.seq (.eS false [q 82 (.bin .lss .i64 (.t 81) (.t 80)) 200019000]) (.seq (.cond (.t 82) .skip (.exit 5)) (.seq (.block 6 (.seq (.eS false [q 83 (.du (.t 81)) 200020000,q 84 (.dE 1 (.t 79) (.t 81)) 200020001,q 85 (.load false 1 (.t 84)) 200020002,q 13 (.du (.t 83)) 200020003,q 14 (.du (.t 85)) 200020004]) (.seq (.eS false [q 87 (.du (.t 12)) 200021000,q 88 (.du (.t 14)) 200021001,q 89 (.call 226 [(.t 88)]) 200021002,q 90 (.BM (.t 89)) 200021003,q 91 (.fu 1 (.t 90)) 200021004,q 92 (.load false 1 (.t 91)) 200021005,⟨(some 93),(.mq (.look ⟨false,[.tI]⟩ true (.int .i64 0)) [(.t 87),(.t 92)]),none,200021006,[]⟩,q 86 (.du (.t 93)) 200021007,q 94 (.extract 0 (.t 86)) 200021008,q 95 (.extract 1 (.t 86)) 200021009,q 15 (.du (.t 94)) 200021010,q 16 (.du (.t 95)) 200021011]) (.seq (.seq (.eS false [q 96 (.du (.t 16)) 200022000,q 97 (.not (.t 96)) 200022001]) (.cond (.t 97) (.seq (.eS false [q 98 (.du (.t 11)) 200023000,q 99 (.len (.t 98)) 200023001,q 15 (.du (.t 99)) 200023002]) (.seq (.eS false [q 100 (.du (.t 12)) 200024000,q 101 (.du (.t 13)) 200024001,q 102 (.du (.t 15)) 200024002,⟨none,(.mw (.set ⟨false,[.tI]⟩) [(.t 100),(.t 101),(.t 102)]),none,200024003,[]⟩]) (.eS false [q 103 (.du (.t 11)) 200025000,q 104 (.nK 1 1 [(.k .ck)]) 200025001,q 105 (.append 1 (.t 103) (.t 104)) 200025002,q 11 (.du (.t 105)) 200025003]))) .skip)) (.eS false [q 106 (.du (.t 11)) 200026000,q 107 (.du (.t 15)) 200026001,q 108 (.du (.t 11)) 200026002,q 109 (.du (.t 15)) 200026003,q 110 (.dE 1 (.t 108) (.t 109)) 200026004,q 111 (.load false 1 (.t 110)) 200026005,q 112 (.du (.t 13)) 200026006,q 113 (.nK 1 1 [(.t 112)]) 200026007,q 114 (.append 1 (.t 111) (.t 113)) 200026008,q 115 (.dE 1 (.t 106) (.t 107)) 200026009,⟨none,(.store 1 (.t 115) (.t 114)),none,200026010,[]⟩]))))) (.eS false [q 116 (.bin .add .i64 (.t 81) (.k (.int .i64 1))) 200027000,q 81 (.du (.t 116)) 200027001]))))))) (.seq (.eS false [q 117 (.du (.t 11)) 200028000,q 4 (.du (.t 117)) 200028001]) .ret)))))))),[(.tmp 4)]⟩
theorem O2:xP Tryz.prog 200 [(10,2)]=some QD:=by kernel_rfl
end Go.Proofs.YtkbipfflibjfbaaGreat.V

namespace Go.Proofs.YtkbipfflibjfbaaGreat.V
open Go.RowKit
attribute [local irreducible] ef wpOps gN Call
attribute [local go_sem] aH fJ eW fZ gh dh upd cD K.av cP AV.cells AV.cell rowOf rowsOf part ld rowAt bU cw dI ek iq bL de eD gj fq dx ew db da dW dY bR bd cU bQ cW cV er ez eu cR bV dc eo bP aL cY cI im br cH bz bc dB bo dF AV.undef bx bE dZ ej dV ec cJ eC eE cF eB eA cX cZ List.getD_cons_zero List.getD_cons_succ List.getD_nil List.all_cons List.all_nil Bool.and_true Bool.true_and Bool.and_self Bool.not_true Bool.not_false Option.map_some Option.map_none Option.bind_some Option.bind_none List.length_cons List.length_nil List.take_succ_cons List.take_zero List.take_nil List.drop_succ_cons List.drop_zero List.drop_nil List.head?_cons List.map_cons List.map_nil List.getElem?_cons_zero List.getElem?_cons_succ List.cons_append List.nil_append List.append_nil List.length_map List.set_cons_zero List.set_cons_succ Nat.reduceMul eq_self Int.toNat_natCast Int.natCast_nonneg and_self true_and and_true decide_true decide_false Bool.false_eq_true Nat.zero_add Nat.add_zero List.contains_cons List.contains_nil Bool.or_false Bool.false_or beq_self_eq_true Nat.reduceBEq ne_eq not_true_eq_false not_false_eq_true Id.mk.injEq false_and and_false Nat.reduceLT Int.reduceLE Int.reduceLT Int.reduceToNat Int.reduceNeg Int.reduceAdd Nat.le_refl List.length_append beq_true beq_false Bool.not_eq_eq_eq_not or_false false_or dM ai ao aD bt cz aY bj aV bf cL bJ
theorem B8 (x:fM) (g:Rows):cQ g 6 [.agg (bI x)]=some [.agg (bI x)]:=by simp[bI,ai,ao,bj,bt,aD]
theorem B9 (x:fb) (g:Rows):cQ g 6 [.agg (bm x)]=some [.agg (bm x)]:=by simp[bm,ai,ao,bj,bt,cz]
theorem wg (x:ah) (g:Rows):cQ g 6 [.agg (ab x)]=some [.agg (ab x)]:=by simp[ab,ai,ao,bj,aD]
theorem jj {n:Nat} {l:Int} (h:(n:Int)<=l):yl n l=l-n:=if_pos h
theorem js {n:Nat} {l:Int} (h:¬(n:Int)<=l):yl n l= -1:=if_neg h
def lf (t:fb):Nat:=t.aE.size+t.bD.length
def uO (s:aw):Nat:=(s.az.length+(s.az.map fun g=>g.aE.size).sum)+(s.aj.length+(s.aj.map lf).sum)
def xC (s:cj):Nat:=uO s.aC+s.cq.aj.length
def gy (s:aw):Prop:=(∀g∈s.az,g.aE.size<=9223372036854775807)/\∀t∈s.aj,t.aE.size<=9223372036854775807
theorem KI (g:fM) (l:Int) (h0:0<=l) (h1:l<=1048576) (hs:g.aE.size<=9223372036854775807):ak Tryz.prog 61 [.agg (bI g),.int .i64 l] (.int .i64 (yl g.aE.size l)):=by
 refine ak.body eM rfl fun hl n0=>?_
 clear hl
 have hw:IntKind.i64.wrap (l-(g.aE.size:Int))=l-g.aE.size:=aJ ae
 by_cases hf:(g.aE.size:Int)<=l
 ·have mO:¬l-(g.aE.size:Int)<0:=ae
  (try((repeat(revert hN;revert N;apply Pn.out));refine wk (tw @bI.eq_1 (tw @hw @mO)) ?_;(repeat(refine Pn.mk ?_;intro N hN))))
  exact cu (b:=l-(g.aE.size:Int)) (.inl rfl) (sd @Nat.zero_add) (jj hf).symm
 ·have mO:l-(g.aE.size:Int)<0:=ae
  (try((repeat(revert hN;revert N;apply Pn.out));refine wk (tw @bI.eq_1 (tw @hw @mO)) ?_;(repeat(refine Pn.mk ?_;intro N hN))))
  exact cu (b:=-1) (.inl rfl) (sd @Nat.zero_add) (js hf).symm
theorem KJ (xs:List Int) (l:Int) (h0:0<=l) (h1:l<=1048576):ak Tryz.prog 114 [.sl (xs.map aX),.int .i64 l] (.int .i64 (yl xs.length l)):=by
 have h:=KL (show nf Tryz.prog 114=some (KK 114) by kernel_rfl) (xs.map aX) l h0 h1
 rwa [List.length_map]at h
theorem KO (t:fb) (l:Int) (h0:0<=l) (h1:l<=1048576) (hs:t.aE.size<=9223372036854775807):ak Tryz.prog 62 [.agg (bm t),.int .i64 l] (.int .i64 (yl (lf t) l)):=by
 refine ak.body eM rfl fun hl n0=>?_
 clear hl
 have hw:IntKind.i64.wrap (l-(t.aE.size:Int))=l-t.aE.size:=aJ ae
 by_cases hf:(t.aE.size:Int)<=l
 ·have mO:¬l-(t.aE.size:Int)<0:=ae
  have hc:=KJ t.bD (l-t.aE.size) ae ae
  by_cases hg:(t.bD.length:Int)<=l-t.aE.size
  ·rw[jj hg]at hc
   have FW:¬l-(t.aE.size:Int)-(t.bD.length:Int)<0:=ae
   (repeat(first|((repeat(revert hN;revert N;apply Pn.out));refine wk (tw @bm.eq_1 (tw @hw (tw @mO @FW))) ?_;(repeat(refine Pn.mk ?_;intro N hN)))|((try apply Or.inl);refine⟨_,ak.x (hc) (sd (tw @bm.eq_1 (tw @hw (tw @mO @FW)))),?_⟩;refine hN _ _ ?_;clear hN N)))
   exact cu (b:=l-(t.aE.size:Int)-(t.bD.length:Int)) (.inl rfl) (sd @Nat.zero_add) (by rw[jj (by unfold lf;omega)];unfold lf;omega)
  ·rw[js hg]at hc
   (repeat(first|((repeat(revert hN;revert N;apply Pn.out));refine wk (tw @bm.eq_1 (tw @hw @mO)) ?_;(repeat(refine Pn.mk ?_;intro N hN)))|((try apply Or.inl);refine⟨_,ak.x (hc) (sd (tw @bm.eq_1 (tw @hw @mO))),?_⟩;refine hN _ _ ?_;clear hN N)))
   exact cu (b:=-1) (.inl rfl) (sd @Nat.zero_add) (js (by unfold lf;omega)).symm
 ·have mO:l-(t.aE.size:Int)<0:=ae
  (try((repeat(revert hN;revert N;apply Pn.out));refine wk (tw @bm.eq_1 (tw @hw @mO)) ?_;(repeat(refine Pn.mk ?_;intro N hN))))
  exact cu (b:=-1) (.inl rfl) (sd @Nat.zero_add) (js (by unfold lf;omega)).symm
theorem HV (xs:List fM) (l:Int) (h0:0<=l) (h1:l<=1048576) (hs:∀g∈xs,g.aE.size<=9223372036854775807):ak Tryz.prog 27 [.sl (xs.map bI),.int .i64 l] (.int .i64 (yl (xs.length+(xs.map fun g=>g.aE.size).sum) l)):=
 KN (fun g:fM=>g.aE.size) (show nf Tryz.prog 27=some (KM 27 61 2) by kernel_rfl) (fun _=>rfl) B8 xs l h0 h1 fun x hx l a b=>KI x l a b (hs x hx)
theorem HW (xs:List fb) (l:Int) (h0:0<=l) (h1:l<=1048576) (hs:∀t∈xs,t.aE.size<=9223372036854775807):ak Tryz.prog 28 [.sl (xs.map bm),.int .i64 l] (.int .i64 (yl (xs.length+(xs.map lf).sum) l)):=
 KN lf (show nf Tryz.prog 28=some (KM 28 62 2) by kernel_rfl) (fun _=>rfl) B9 xs l h0 h1 fun x hx l a b=>KO x l a b (hs x hx)
theorem Fj (xs:List ah) (l:Int) (h0:0<=l) (h1:l<=1048576):ak Tryz.prog 29 [.sl (xs.map ab),.int .i64 l] (.int .i64 (yl xs.length l)):=by
 have h:=KL (show nf Tryz.prog 29=some (KK 29) by kernel_rfl) (xs.map ab) l h0 h1
 rwa [List.length_map]at h
theorem C9 (s:aw) (l:Int) (h0:0<=l) (h1:l<=1048576) (hs:gy s):ak Tryz.prog 5 [.agg (ad s),.int .i64 l] (.int .i64 (yl (uO s) l)):=by
 refine ak.body eM rfl fun hl n0=>?_
 clear hl
 have ha:=HV s.az l h0 h1 hs.1
 have he:uO s=(s.az.length+(s.az.map fun g=>g.aE.size).sum)+(s.aj.length+(s.aj.map lf).sum):=rfl
 by_cases hf:((s.az.length+(s.az.map fun g=>g.aE.size).sum:Nat):Int)<=l
 ·rw[jj hf]at ha
  obtain⟨A,hA⟩:∃A:Int,A=l-((s.az.length+(s.az.map fun g=>g.aE.size).sum:Nat):Int):=⟨_,rfl⟩
  rw[<-hA]at ha
  have mO:¬A<0:=ae
  have hb:=HW s.aj A ae ae hs.2
  by_cases hg:((s.aj.length+(s.aj.map lf).sum:Nat):Int)<=A
  ·rw[jj hg]at hb
   obtain⟨B,hB⟩:∃B:Int,B=A-((s.aj.length+(s.aj.map lf).sum:Nat):Int):=⟨_,rfl⟩
   rw[<-hB]at hb
   have FW:¬B<0:=ae
   (repeat(first|((repeat(revert hN;revert N;apply Pn.out));refine wk (tw @ad.eq_1 (tw @mO @FW)) ?_;(repeat(refine Pn.mk ?_;intro N hN)))|((try apply Or.inl);refine⟨_,ak.x (ha) (sd (tw @ad.eq_1 (tw @mO @FW))),?_⟩;refine hN _ _ ?_;clear hN N)|((try apply Or.inl);refine⟨_,ak.x (hb) (sd (tw @ad.eq_1 (tw @mO @FW))),?_⟩;refine hN _ _ ?_;clear hN N)))
   exact cu (b:=B) (.inl rfl) (sd @Nat.zero_add) (by rw[jj ae];omega)
  ·rw[js hg]at hb
   (repeat(first|((repeat(revert hN;revert N;apply Pn.out));refine wk (tw @ad.eq_1 @mO) ?_;(repeat(refine Pn.mk ?_;intro N hN)))|((try apply Or.inl);refine⟨_,ak.x (ha) (sd (tw @ad.eq_1 @mO)),?_⟩;refine hN _ _ ?_;clear hN N)|((try apply Or.inl);refine⟨_,ak.x (hb) (sd (tw @ad.eq_1 @mO)),?_⟩;refine hN _ _ ?_;clear hN N)))
   exact cu (b:=-1) (.inl rfl) (sd @Nat.zero_add) (js ae).symm
 ·rw[js hf]at ha
  (repeat(first|((repeat(revert hN;revert N;apply Pn.out));refine wk @ad.eq_1 ?_;(repeat(refine Pn.mk ?_;intro N hN)))|((try apply Or.inl);refine⟨_,ak.x (ha) (sd @ad.eq_1),?_⟩;refine hN _ _ ?_;clear hN N)))
  exact cu (b:=-1) (.inl rfl) (sd @Nat.zero_add) (js ae).symm
theorem sH (a:dD) (l:Int) (h0:0<=l) (h1:l<=1048576):ak Tryz.prog 6 [.agg (aP a),.int .i64 l] (.int .i64 (yl a.aj.length l)):=by
 refine ak.body eM rfl fun hl n0=>?_
 clear hl
 have ha:=Fj a.aj l h0 h1
 by_cases hf:(a.aj.length:Int)<=l
 ·rw[jj hf]at ha
  have mO:¬l-(a.aj.length:Int)<0:=ae
  (repeat(first|((repeat(revert hN;revert N;apply Pn.out));refine wk (tw @aP.eq_1 @mO) ?_;(repeat(refine Pn.mk ?_;intro N hN)))|((try apply Or.inl);refine⟨_,ak.x (ha) (sd (tw @aP.eq_1 @mO)),?_⟩;refine hN _ _ ?_;clear hN N)))
  exact cu (b:=l-(a.aj.length:Int)) (.inl rfl) (sd @Nat.zero_add) (jj hf).symm
 ·rw[js hf]at ha
  (repeat(first|((repeat(revert hN;revert N;apply Pn.out));refine wk @aP.eq_1 ?_;(repeat(refine Pn.mk ?_;intro N hN)))|((try apply Or.inl);refine⟨_,ak.x (ha) (sd @aP.eq_1),?_⟩;refine hN _ _ ?_;clear hN N)))
  exact cu (b:=-1) (.inl rfl) (sd @Nat.zero_add) (js hf).symm
theorem Fk (s:cj) (l:Int) (h0:0<=l) (h1:l<=1048576) (hs:gy s.aC):ak Tryz.prog 18 [.agg (aA s),.int .i64 l] (.int .i64 (yl (xC s) l)):=by
 refine ak.body eM rfl fun hl n0=>?_
 clear hl
 have ha:=C9 s.aC l h0 h1 hs
 rw[ad]at ha
 have he:xC s=uO s.aC+s.cq.aj.length:=rfl
 by_cases hf:(uO s.aC:Int)<=l
 ·rw[jj hf]at ha
  have mO:¬l-(uO s.aC:Int)<0:=ae
  have hb:=sH s.cq (l-uO s.aC) ae ae
  rw[aP]at hb
  by_cases hg:(s.cq.aj.length:Int)<=l-uO s.aC
  ·rw[jj hg]at hb
   have FW:¬l-(uO s.aC:Int)-(s.cq.aj.length:Int)<0:=ae
   (repeat(first|((repeat(revert hN;revert N;apply Pn.out));refine wk (tw @aA.eq_1 (tw @mO @FW)) ?_;(repeat(refine Pn.mk ?_;intro N hN)))|((try apply Or.inl);refine⟨_,ak.x (ha) (sd (tw @aA.eq_1 (tw @mO @FW))),?_⟩;refine hN _ _ ?_;clear hN N)|((try apply Or.inl);refine⟨_,ak.x (hb) (sd (tw @aA.eq_1 (tw @mO @FW))),?_⟩;refine hN _ _ ?_;clear hN N)))
   exact cu (b:=l-(uO s.aC:Int)-(s.cq.aj.length:Int)) (.inl rfl) (sd @Nat.zero_add) (by rw[jj ae];omega)
  ·rw[js hg]at hb
   (repeat(first|((repeat(revert hN;revert N;apply Pn.out));refine wk (tw @aA.eq_1 @mO) ?_;(repeat(refine Pn.mk ?_;intro N hN)))|((try apply Or.inl);refine⟨_,ak.x (ha) (sd (tw @aA.eq_1 @mO)),?_⟩;refine hN _ _ ?_;clear hN N)|((try apply Or.inl);refine⟨_,ak.x (hb) (sd (tw @aA.eq_1 @mO)),?_⟩;refine hN _ _ ?_;clear hN N)))
   exact cu (b:=-1) (.inl rfl) (sd @Nat.zero_add) (js ae).symm
 ·rw[js hf]at ha
  (repeat(first|((repeat(revert hN;revert N;apply Pn.out));refine wk @aA.eq_1 ?_;(repeat(refine Pn.mk ?_;intro N hN)))|((try apply Or.inl);refine⟨_,ak.x (ha) (sd @aA.eq_1),?_⟩;refine hN _ _ ?_;clear hN N)))
  exact cu (b:=-1) (.inl rfl) (sd @Nat.zero_add) (js ae).symm
theorem Nf (x:fM) (g:Rows):cQ g 5 (bI x)=some (bI x):=by simp[bI,ai,ao,bt,aD]
theorem Ng (x:fb) (g:Rows):cQ g 5 (bm x)=some (bm x):=by simp[bm,ai,ao,bt,cz]
theorem HK (x:ah) (g:Rows):cQ g 5 (ab x)=some (ab x):=by simp[ab,ai,ao,aD]
theorem zy (p:aq):lS Tryz.prog 125 [.agg (aa p)] (.agg (aa p)):=by
 refine lS.body eM rfl fun hl σ=>?_
 clear hl
 (try((repeat(revert hN;revert N;apply Pn.out));refine wk @aa.eq_1 ?_;(repeat(refine Pn.mk ?_;intro N hN))))
 exact xe (.inl rfl) (vs:=[.agg (aa p)]) (by simp only[go_sem, ↓reduceIte,Nat.reduceEqDiff,Nat.reduceAdd,Nat.reduceSub,Nat.reduceLeDiff,reduceCtorEq,fo,gS,aa]) (by simp[eJ,aa,bj,ai,ao,aD])
theorem Fo (p:ah):lS Tryz.prog 73 [.agg (ab p)] (.agg (ab p)):=by
 refine lS.body eM rfl fun hl σ=>?_
 clear hl
 have h:=zy p.bw
 rw[aa]at h
 (repeat(first|((repeat(revert hN;revert N;apply Pn.out));refine wk @ab.eq_1 ?_;(repeat(refine Pn.mk ?_;intro N hN)))|((try apply Or.inl);refine⟨_,lS.x (h) _,?_⟩;refine hN _ _ ?_;clear hN N)))
 exact xe (.inl rfl) (vs:=[.agg (ab p)]) (by simp only[go_sem, ↓reduceIte,Nat.reduceEqDiff,Nat.reduceAdd,Nat.reduceSub,Nat.reduceLeDiff,reduceCtorEq,fo,gS,ab]) (by simp[eJ,ab,bj,ai,ao,aD])
theorem KT (p:fM):lS Tryz.prog 71 [.agg (bI p)] (.agg (bI p)):=by
 refine lS.body eM rfl fun hl σ=>?_
 clear hl
 (try((repeat(revert hN;revert N;apply Pn.out));refine wk @bI.eq_1 ?_;(repeat(refine Pn.mk ?_;intro N hN))))
 exact xe (.inl rfl) (vs:=[.agg (bI p)]) (by simp only[go_sem, ↓reduceIte,Nat.reduceEqDiff,Nat.reduceAdd,Nat.reduceSub,Nat.reduceLeDiff,reduceCtorEq,fo,gS,bI]) (by simp[eJ,bI,bj,ai,ao,aD,bt])
theorem KV (xs:List Int) (h:xs.length<=1048576):lS Tryz.prog 124 [.sl (xs.map aX)] (.sl (xs.map aX)):=
 TA (show nf Tryz.prog 124=some (KW 124 (.int .i64 0)) by kernel_rfl) xs h
def sV (t:fb):Prop:=t.bD.length<=1048576
theorem KY (p:fb) (hs:sV p):lS Tryz.prog 72 [.agg (bm p)] (.agg (bm p)):=by
 refine lS.body eM rfl fun hl σ=>?_
 clear hl
 have h:=KV p.bD hs
 (repeat(first|((repeat(revert hN;revert N;apply Pn.out));refine wk @bm.eq_1 ?_;(repeat(refine Pn.mk ?_;intro N hN)))|((try apply Or.inl);refine⟨_,lS.x (h) _,?_⟩;refine hN _ _ ?_;clear hN N)))
 exact xe (.inl rfl) (vs:=[.agg (bm p)]) (by simp only[go_sem, ↓reduceIte,Nat.reduceEqDiff,Nat.reduceAdd,Nat.reduceSub,Nat.reduceLeDiff,reduceCtorEq,fo,gS,bm]) (by simp[eJ,bm,bj,ai,ao,cz,bt])
theorem Jd (xs ys:List Int):ak Tryz.prog 145 [.sl (xs.map aX),.sl (ys.map aX)] (.bool (decide (xs=ys))):=
 RX (show nf Tryz.prog 145=some (NT 145 .tI) by kernel_rfl) xs ys
theorem Je (a b:fb):ak Tryz.prog 90 [.agg (bm a),.agg (bm b)] (.bool (decide (a=b))):=by
 refine ak.body eM rfl fun hl n0=>?_
 clear hl
 have h:=Jd a.bD b.bD
 by_cases h1:a.aE=b.aE
 ·have e1:decide (a.aE=b.aE)=true:=decide_eq_true h1
  by_cases h2:a.bD=b.bD
  ·rw[decide_eq_true h2]at h
   (repeat(first|((repeat(revert hN;revert N;apply Pn.out));refine wk (tw @bm.eq_1 @e1) ?_;(repeat(refine Pn.mk ?_;intro N hN)))|((try apply Or.inl);refine⟨_,ak.x (h) (sd (tw @bm.eq_1 @e1)),?_⟩;refine hN _ _ ?_;clear hN N)))
   exact aZ (b:=true) (.inl rfl) (sd @Nat.zero_add) (decide_eq_true (by cases a;cases b;simp_all)).symm
  ·rw[decide_eq_false h2]at h
   (repeat(first|((repeat(revert hN;revert N;apply Pn.out));refine wk (tw @bm.eq_1 @e1) ?_;(repeat(refine Pn.mk ?_;intro N hN)))|((try apply Or.inl);refine⟨_,ak.x (h) (sd (tw @bm.eq_1 @e1)),?_⟩;refine hN _ _ ?_;clear hN N)))
   exact aZ (b:=false) (.inl rfl) (sd @Nat.zero_add) (decide_eq_false (by rintro rfl;exact h2 rfl)).symm
 ·have e1:decide (a.aE=b.aE)=false:=decide_eq_false h1
  (try((repeat(revert hN;revert N;apply Pn.out));refine wk (tw @bm.eq_1 @e1) ?_;(repeat(refine Pn.mk ?_;intro N hN))))
  exact aZ (b:=false) (.inl rfl) (sd @Nat.zero_add) (decide_eq_false (by rintro rfl;exact h1 rfl)).symm
theorem H3 (xs:List fM) (h:xs.length<=1048576):lS Tryz.prog 33 [.sl (xs.map bI)] (.sl (xs.map bI)):=
 Fp (show nf Tryz.prog 33=some (uv 33 71 2 [.str [],.int .i64 0]) by kernel_rfl) rfl (fun _=>rfl) (fun _=>rfl) Nf xs h fun x _=>KT x
theorem H5 (xs:List fb) (h:xs.length<=1048576) (hs:∀t∈xs,sV t):lS Tryz.prog 34 [.sl (xs.map bm)] (.sl (xs.map bm)):=
 Fp (show nf Tryz.prog 34=some (uv 34 72 2 [.str [],.ck]) by kernel_rfl) rfl (fun _=>rfl) (fun _=>rfl) Ng xs h fun x hx=>KY x (hs x hx)
theorem Dd (xs:List ah) (h:xs.length<=1048576):lS Tryz.prog 35 [.sl (xs.map ab)] (.sl (xs.map ab)):=
 Fp (show nf Tryz.prog 35=some (uv 35 73 3 [.int .i64 0,.int .i64 0,.int .i64 0]) by kernel_rfl) rfl (fun _=>rfl) (fun _=>rfl) HK xs h fun x _=>Fo x
structure IF (s:aw):Prop where
 g:s.az.length<=1048576
 t:s.aj.length<=1048576
 s:∀t∈s.aj,sV t
structure rM (y:cj):Prop where
 s:IF y.aC
 a:y.cq.aj.length<=1048576
theorem Df (p:aw) (hs:IF p):lS Tryz.prog 8 [.agg (ad p)] (.agg (ad p)):=by
 refine lS.body eM rfl fun hl σ=>?_
 clear hl
 have h1:=H3 p.az hs.g
 have h2:=H5 p.aj hs.t hs.s
 (repeat(first|((repeat(revert hN;revert N;apply Pn.out));refine wk @ad.eq_1 ?_;(repeat(refine Pn.mk ?_;intro N hN)))|((try apply Or.inl);refine⟨_,lS.x (h1) _,?_⟩;refine hN _ _ ?_;clear hN N)|((try apply Or.inl);refine⟨_,lS.x (h2) _,?_⟩;refine hN _ _ ?_;clear hN N)))
 exact xe (.inl rfl) (vs:=[.agg (ad p)]) (by simp only[go_sem, ↓reduceIte,Nat.reduceEqDiff,Nat.reduceAdd,Nat.reduceSub,Nat.reduceLeDiff,reduceCtorEq,fo,gS,ad]) (by simp[eJ,ad,bj,ai,ao,cz])
theorem sL (p:dD) (hs:p.aj.length<=1048576):lS Tryz.prog 9 [.agg (aP p)] (.agg (aP p)):=by
 refine lS.body eM rfl fun hl σ=>?_
 clear hl
 have h1:=Dd p.aj hs
 (repeat(first|((repeat(revert hN;revert N;apply Pn.out));refine wk @aP.eq_1 ?_;(repeat(refine Pn.mk ?_;intro N hN)))|((try apply Or.inl);refine⟨_,lS.x (h1) _,?_⟩;refine hN _ _ ?_;clear hN N)))
 exact xe (.inl rfl) (vs:=[.agg (aP p)]) (by simp only[go_sem, ↓reduceIte,Nat.reduceEqDiff,Nat.reduceAdd,Nat.reduceSub,Nat.reduceLeDiff,reduceCtorEq,fo,gS,aP]) (by simp[eJ,aP,bj,ai,ao,cz])
theorem Fs (p:cj) (hs:rM p):lS Tryz.prog 20 [.agg (aA p)] (.agg (aA p)):=by
 refine lS.body eM rfl fun hl σ=>?_
 clear hl
 have h1:=Df p.aC hs.s
 have h2:=sL p.cq hs.a
 rw[ad]at h1
 rw[aP]at h2
 (repeat(first|((repeat(revert hN;revert N;apply Pn.out));refine wk @aA.eq_1 ?_;(repeat(refine Pn.mk ?_;intro N hN)))|((try apply Or.inl);refine⟨_,lS.x (h1) _,?_⟩;refine hN _ _ ?_;clear hN N)|((try apply Or.inl);refine⟨_,lS.x (h2) _,?_⟩;refine hN _ _ ?_;clear hN N)))
 exact xe (.inl rfl) (vs:=[.agg (aA p)]) (by simp only[go_sem, ↓reduceIte,Nat.reduceEqDiff,Nat.reduceAdd,Nat.reduceSub,Nat.reduceLeDiff,reduceCtorEq,fo,gS,aA]) (by simp[eJ,aA,bj,ai,ao,cz,aD])
theorem Jc (a b:fM):ak Tryz.prog 89 [.agg (bI a),.agg (bI b)] (.bool (decide (a=b))):=by
 refine ak.body eM rfl fun hl n0=>?_
 clear hl
 by_cases h1:a.aE=b.aE
 ·have e1:decide (a.aE=b.aE)=true:=decide_eq_true h1
  by_cases h2:a.eP=b.eP
  ·have e2:decide (a.eP=b.eP)=true:=decide_eq_true h2
   (try((repeat(revert hN;revert N;apply Pn.out));refine wk (tw @bI.eq_1 (tw @e1 @e2)) ?_;(repeat(refine Pn.mk ?_;intro N hN))))
   exact aZ (b:=true) (.inl rfl) (sd @Nat.zero_add) (decide_eq_true (by cases a;cases b;simp_all)).symm
  ·have e2:decide (a.eP=b.eP)=false:=decide_eq_false h2
   (try((repeat(revert hN;revert N;apply Pn.out));refine wk (tw @bI.eq_1 (tw @e1 @e2)) ?_;(repeat(refine Pn.mk ?_;intro N hN))))
   exact aZ (b:=false) (.inl rfl) (sd @Nat.zero_add) (decide_eq_false (by rintro rfl;exact h2 rfl)).symm
 ·have e1:decide (a.aE=b.aE)=false:=decide_eq_false h1
  (try((repeat(revert hN;revert N;apply Pn.out));refine wk (tw @bI.eq_1 @e1) ?_;(repeat(refine Pn.mk ?_;intro N hN))))
  exact aZ (b:=false) (.inl rfl) (sd @Nat.zero_add) (decide_eq_false (by rintro rfl;exact h1 rfl)).symm
theorem GY (a b:aq):ak Tryz.prog 88 [.agg (aa a),.agg (aa b)] (.bool (decide (a=b))):=by
 refine ak.body eM rfl fun hl n0=>?_
 clear hl
 by_cases h1:a.dQ=b.dQ
 ·have e1:decide (a.dQ=b.dQ)=true:=decide_eq_true h1
  by_cases h2:a.dH=b.dH
  ·have e2:decide (a.dH=b.dH)=true:=decide_eq_true h2
   (try((repeat(revert hN;revert N;apply Pn.out));refine wk (tw @aa.eq_1 (tw @e1 @e2)) ?_;(repeat(refine Pn.mk ?_;intro N hN))))
   exact aZ (b:=true) (.inl rfl) (sd @Nat.zero_add) (decide_eq_true (by cases a;cases b;simp_all)).symm
  ·have e2:decide (a.dH=b.dH)=false:=decide_eq_false h2
   (try((repeat(revert hN;revert N;apply Pn.out));refine wk (tw @aa.eq_1 (tw @e1 @e2)) ?_;(repeat(refine Pn.mk ?_;intro N hN))))
   exact aZ (b:=false) (.inl rfl) (sd @Nat.zero_add) (decide_eq_false (by rintro rfl;exact h2 rfl)).symm
 ·have e1:decide (a.dQ=b.dQ)=false:=decide_eq_false h1
  (try((repeat(revert hN;revert N;apply Pn.out));refine wk (tw @aa.eq_1 @e1) ?_;(repeat(refine Pn.mk ?_;intro N hN))))
  exact aZ (b:=false) (.inl rfl) (sd @Nat.zero_add) (decide_eq_false (by rintro rfl;exact h1 rfl)).symm
theorem DW (a b:ah):ak Tryz.prog 91 [.agg (ab a),.agg (ab b)] (.bool (decide (a=b))):=by
 refine ak.body eM rfl fun hl n0=>?_
 clear hl
 have h:=GY a.bw b.bw
 rw[aa,aa]at h
 by_cases h1:a.bw=b.bw
 ·rw[decide_eq_true h1]at h
  by_cases h2:a.bY=b.bY
  ·have e2:decide (a.bY=b.bY)=true:=decide_eq_true h2
   (repeat(first|((repeat(revert hN;revert N;apply Pn.out));refine wk (tw @ab.eq_1 @e2) ?_;(repeat(refine Pn.mk ?_;intro N hN)))|((try apply Or.inl);refine⟨_,ak.x (h) (sd (tw @ab.eq_1 @e2)),?_⟩;refine hN _ _ ?_;clear hN N)))
   exact aZ (b:=true) (.inl rfl) (sd @Nat.zero_add) (decide_eq_true (by cases a;cases b;simp_all)).symm
  ·have e2:decide (a.bY=b.bY)=false:=decide_eq_false h2
   (repeat(first|((repeat(revert hN;revert N;apply Pn.out));refine wk (tw @ab.eq_1 @e2) ?_;(repeat(refine Pn.mk ?_;intro N hN)))|((try apply Or.inl);refine⟨_,ak.x (h) (sd (tw @ab.eq_1 @e2)),?_⟩;refine hN _ _ ?_;clear hN N)))
   exact aZ (b:=false) (.inl rfl) (sd @Nat.zero_add) (decide_eq_false (by rintro rfl;exact h2 rfl)).symm
 ·rw[decide_eq_false h1]at h
  (repeat(first|((repeat(revert hN;revert N;apply Pn.out));refine wk @ab.eq_1 ?_;(repeat(refine Pn.mk ?_;intro N hN)))|((try apply Or.inl);refine⟨_,ak.x (h) (sd @ab.eq_1),?_⟩;refine hN _ _ ?_;clear hN N)))
  exact aZ (b:=false) (.inl rfl) (sd @Nat.zero_add) (decide_eq_false (by rintro rfl;exact h1 rfl)).symm
theorem GX (xs ys:List fM):ak Tryz.prog 40 [.sl (xs.map bI),.sl (ys.map bI)] (.bool (decide (xs=ys))):=
 zW (show nf Tryz.prog 40=some (BW 40 89 2) by kernel_rfl) (fun _=>rfl) B8 xs ys Jc
theorem GZ (xs ys:List fb):ak Tryz.prog 41 [.sl (xs.map bm),.sl (ys.map bm)] (.bool (decide (xs=ys))):=
 zW (show nf Tryz.prog 41=some (BW 41 90 2) by kernel_rfl) (fun _=>rfl) B9 xs ys Je
theorem tW (xs ys:List ah):ak Tryz.prog 42 [.sl (xs.map ab),.sl (ys.map ab)] (.bool (decide (xs=ys))):=
 zW (show nf Tryz.prog 42=some (BW 42 91 3) by kernel_rfl) (fun _=>rfl) wg xs ys DW
theorem DX (a:cj):ak Tryz.prog 23 [.agg (aA a),.agg (aA a)] (.bool true):=by
 have q1:ak Tryz.prog 12 [.agg (ad a.aC),.agg (ad a.aC)] (.bool true):=by
  refine ak.body eM rfl fun hl n0=>?_
  clear hl
  have h1:=GX a.aC.az a.aC.az
  have h2:=GZ a.aC.aj a.aC.aj
  rw[decide_eq_true rfl]at h1 h2
  (repeat(first|((repeat(revert hN;revert N;apply Pn.out));refine wk @ad.eq_1 ?_;(repeat(refine Pn.mk ?_;intro N hN)))|((try apply Or.inl);refine⟨_,ak.x (h1) (sd @ad.eq_1),?_⟩;refine hN _ _ ?_;clear hN N)|((try apply Or.inl);refine⟨_,ak.x (h2) (sd @ad.eq_1),?_⟩;refine hN _ _ ?_;clear hN N)))
  exact aZ (b:=true) (.inl rfl) (sd @Nat.zero_add) rfl
 have q2:ak Tryz.prog 13 [.agg (aP a.cq),.agg (aP a.cq)] (.bool true):=by
  refine ak.body eM rfl fun hl n0=>?_
  clear hl
  have h1:=tW a.cq.aj a.cq.aj
  rw[decide_eq_true rfl]at h1
  (repeat(first|((repeat(revert hN;revert N;apply Pn.out));refine wk @aP.eq_1 ?_;(repeat(refine Pn.mk ?_;intro N hN)))|((try apply Or.inl);refine⟨_,ak.x (h1) (sd @aP.eq_1),?_⟩;refine hN _ _ ?_;clear hN N)))
  exact aZ (b:=true) (.inl rfl) (sd @Nat.zero_add) rfl
 rw[ad]at q1
 rw[aP]at q2
 refine ak.body eM rfl fun hl n0=>?_
 clear hl
 have e:decide (a.au=a.au)=true:=decide_eq_true rfl
 (repeat(first|((repeat(revert hN;revert N;apply Pn.out));refine wk (tw @aA.eq_1 @e) ?_;(repeat(refine Pn.mk ?_;intro N hN)))|((try apply Or.inl);refine⟨_,ak.x (q1) (sd (tw @aA.eq_1 @e)),?_⟩;refine hN _ _ ?_;clear hN N)|((try apply Or.inl);refine⟨_,ak.x (q2) (sd (tw @aA.eq_1 @e)),?_⟩;refine hN _ _ ?_;clear hN N)))
 exact aZ (b:=true) (.inl rfl) (sd @Nat.zero_add) rfl
end Go.Proofs.YtkbipfflibjfbaaGreat.V

namespace Go.Proofs.YtkbipfflibjfbaaGreat.V
open Go.RowKit
def isApp:gL->Bool
 | .append .. =>true
 |_=>false
variable {P:Program} {X:fm} {K:Env->ax->Prop} {env:Env} {σ:ax}
theorem OB {draw:Bool} {o:bh} {r:List bh} (_:isApp o.op=false) (h:∀N:AV->ax->Prop,(∀v s,wpOps X draw r K (upd env o.dst v) s->N v s)->if aH o.guard env then fJ X draw o env σ N else N .undef σ):wpOps X draw (o::r) K env σ:=QF h
end Go.Proofs.YtkbipfflibjfbaaGreat.V

namespace Go.Proofs.YtkbipfflibjfbaaGreat.V
open Go.RowKit
section
variable {α:Type} {enc:α->List AV} {sz:Nat} {g g':Rows} {a:AV} {xs:List α} {ids:List Id}
end
abbrev yq (α:Type):=Rows->List AV->α->List Id->Prop
structure uA {α:Type} (R:yq α) (sz:Nat):Prop where
 frame:∀{g g':Rows} {cs x ids},R g cs x ids->(∀i∈ids,g' i=g i)->R g' cs x ids
 len:∀{g cs x ids},R g cs x ids->cs.length=sz
 cell:∀{g cs x ids},R g cs x ids->cs.all AV.cell=true
 live:∀{g cs x ids},R g cs x ids->∀i∈ids,∃r,g i=some r/\r.w=true/\r.sz<qt
 small:sz<qt
inductive eT {α:Type} (R:yq α) (g:Rows):List (List AV)->List α->List Id->Prop
 |nil:eT R g [] [] []
 |cons {cs x i1 rs xs i2}:R g cs x i1->eT R g rs xs i2->eT R g (cs::rs) (x::xs) (i1++i2)
section
variable {α:Type} {R:yq α} {sz:Nat} {g g':Rows} {rows r1 r2:List (List AV)} {xs x1 x2:List α} {ids i1 i2:List Id}
theorem eT.len (h:eT R g rows xs ids):rows.length=xs.length:=by
 induction h with
 |nil=>rfl
 |cons _ _ ih=>simp[ih]
theorem eT.frame (ok:uA R sz) (h:eT R g rows xs ids) (hf:∀i∈ids,g' i=g i):eT R g' rows xs ids:=by
 induction h with
 |nil=>exact .nil
 |cons h1 _ ih=>exact .cons (ok.frame h1 fun i hi=>hf i (List.mem_append_left _ hi)) (ih fun i hi=>hf i (List.mem_append_right _ hi))
theorem eT.app (h1:eT R g r1 x1 i1) (h2:eT R g r2 x2 i2):eT R g (r1++r2) (x1++x2) (i1++i2):=by
 induction h1 with
 |nil=>exact h2
 |cons h _ ih=>rw[List.append_assoc];exact .cons h ih
theorem eT.one {cs:List AV} {x:α} (h:R g cs x ids):eT R g [cs] [x] ids:=by
 have:=eT.cons h eT.nil
 rwa [List.append_nil]at this
theorem eT.split (h:eT R g rows xs ids):∀k (hk:k<xs.length),∃r1 cs r2 i1 ic i2,rows=r1++cs::r2/\r1.length=k/\ids=i1++(ic++i2)/\eT R g r1 (xs.take k) i1/\R g cs xs[k] ic/\eT R g r2 (xs.drop (k+1)) i2:=by
 induction h with
 |nil=>intro k hk;simp at hk
 |cons h1 h2 ih=>
  rename_i cs x j1 rs xs j2
  intro k hk
  cases k with
  |zero=>exact⟨[],cs,rs,[],j1,j2,rfl,rfl,rfl,.nil,h1,h2⟩
  |succ k=>
   obtain⟨r1,mM,r2,i1,ic,i2,rfl,hl,rfl,h3,h4,h5⟩:=ih k (by simpa using hk)
   exact⟨cs::r1,mM,r2,j1++i1,ic,i2,rfl,by simp[hl],by rw[List.append_assoc],.cons h1 h3,h4,h5⟩
theorem eT.at_ (h:eT R g rows xs ids) (k:Nat) (hk:k<xs.length):∃cs ic,rows[k]? =some cs/\R g cs xs[k] ic/\∀i∈ic,i∈ids:=by
 obtain⟨r1,cs,r2,i1,ic,i2,rfl,hl,rfl,h3,h4,h5⟩:=h.split k hk
 refine⟨cs,ic,by rw[List.getElem?_append_right ae];simp[hl],h4,fun i hi=>by simp[hi]⟩
theorem eT.fz {n:Nat} {e:α->List AV} (h:eT R g rows xs ids) (hz:∀{cs x ids},R g cs x ids->cQ (dM g) n cs=some (e x)):eK (dM g) n rows=some (xs.map e):=by
 induction h with
 |nil=>rw[eK];rfl
 |cons h1 _ ih=>rw[eK,hz h1,ih];rfl
end
section
variable {α:Type} {R:yq α} {sz:Nat} {g g':Rows} {a:AV} {xs:List α} {ids:List Id}
end
end Go.Proofs.YtkbipfflibjfbaaGreat.V
