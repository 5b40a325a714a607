/- One operation, calls among them. -/
import Derived.Test.YtakkdjfmiffbfaaGreatDoorFrA
import Derived.Orders
import Derived.Conc.LoneCalls
import Derived.WalkKit
import Derived.WalkSpells
import Derived.WalkLawsBesides
import Derived.Lib.Hide
import Derived.Deep.QuietTactic
import Derived.BigQuiet
import Derived.StillTailTactics
import Derived.Deep.RegionWith
import Derived.Deep.RegionHeld3
import Derived.Deep.LoopGhost
import Derived.Deep.CutRange
import Derived.Deep.DeepCutAuto
import Derived.Test.YtakkdjfmiffbfaaGreatDoorChecked
set_option linter.unusedVariables false
set_option linter.unusedSimpArgs false
set_option maxRecDepth 100000
set_option maxHeartbeats 16000000
namespace Go.Proofs.YtakkdjfmiffbfaaGreatDoor.V
open Go.RowKit
variable {P:Program} {w w':World} {D D' D2:Nat->Prop} {ι ι' ι2:Names}
def Sound (P:Program):fU:=fun f args σ K=>∀(hs:Nat) (D:Nat->Prop) (ι:Names) (w:World) (vs:Array Value),fY P hs D ι σ.get w->Used ι σ.next (fun _=>False)->fo P w D ι args vs->
 Calls P f vs w fun e w'=>∃r g' n' D' ι' u,e=.returned u/\K r ⟨g',n'⟩/\Step hs D ι w D' ι' w'/\fY P hs D' ι' g' w'/\Used ι' n' (fun _=>False)/\σ.next<=n'/\dF P w' D' ι' r u
section
variable {g:Rows} {hs:Nat} {env:Env} {a:Act} {o:Oper} {id:Id} {v:AV}
theorem fY.ro (S:fY P hs D ι g w):fY P w.heap.size D ι (ro g) w:=by
 refine⟨Nat.le_refl _,S.dead,fun id r h=>?_,fun id jQ r r' B B' h h' hw=>?_⟩
 ·unfold V.ro at h
  simp only[Option.map_eq_some_iff]at h
  obtain⟨r0,h0,rfl⟩:=h
  obtain⟨B,hB,R,_,_⟩:=S.row id r0 h0
  exact⟨B,hB,R.flag false,fun h=>by simp at h,fun h=>by simp at h⟩
 ·unfold V.ro at h
  simp only[Option.map_eq_some_iff]at h
  obtain⟨r0,h0,rfl⟩:=h
  simp at hw
theorem AZ {g0:Rows} {f:Nat} {args:List AV} {n:Nat} {K:AV->Prop} {vs:Array Value} (h:PC (Sound P) f args ⟨g0,n⟩ K) (qa:∀id r,g0 id=some r->g id=some r) (S:fY P hs D ι g w) (U:Used ι n (fun _=>False)) (A:fo P w D ι args vs):
  Calls P f vs w fun e w'=>∃r D' u,e=.returned u/\K r/\Step hs D ι w D' ι w'/\fY P hs D' ι g w'/\dF P w' D' ι r u:=by
 refine(h w.heap.size D ι w vs (S.sub qa).ro U A).mono ?_
 rintro e w' ⟨r0,g',n',D1,ι1,u,rfl,⟨r,hr,hK⟩,T,S1,_,_,hR⟩
 have hb:∀b,b<w.heap.size->w'.heap[b]? =w.heap[b]? :=T.below.block
 have hz:=T.below.size
 have q:=qN (D2:=fun b=>D b∨(w.heap.size<=b/\b<w'.heap.size)) (ι2:=ι) (fun b hd=>by
  rcases T.new b hd with h|h
  ·exact .inl h
  ·exact .inr ⟨h,S1.dead b hd⟩) (fun id row hg hw=>by
  obtain⟨B,hB,R,h1,_⟩:=S1.row id row hg
  exact⟨B,hB,R,.inr ⟨h1 hw,R.lt⟩⟩) 6 r0 u r hR hr
 refine⟨r,_,u,rfl,hK,?_,?_,q.1⟩
 ·exact Step.stay S hb hz T.below.os T.below.tape T.below.output (fun _ h=>.inl h) (fun b h=>by rcases h with h|h;exact .inl h;exact .inr h.1) (fun _ _ h=>h)
 ·exact S.stay hb hz (fun _ h=>.inl h) (fun b h=>by rcases h with h|h;exact Nat.lt_of_lt_of_le (S.dead b h) hz;exact h.2) (fun b h=>by rcases h with h|h;exact .inl h;exact .inr h.1) (fun _ _ h=>h)
theorem x9 {g0:Rows} {f:Nat} {args:List AV} {n:Nat} {K:AV->Prop} {vs:Array Value} (h:PCv (Sound P) f args ⟨g0,n⟩ K) (qa:∀id r,g0 id=some r->g id=some r) (S:fY P hs D ι g w) (U:Used ι n (fun _=>False)) (A:fo P w D ι args vs):
  Calls P f vs w fun e w'=>∃r D' u,e=.returned u/\K r/\Step hs D ι w D' ι w'/\fY P hs D' ι g w'/\dF P w' D' ι r u:=by
 obtain⟨args',ha,h⟩:=h
 let D1:Nat->Prop:=fun b=>D b∨∃id r B,g id=some r/\ι id=some B/\b=B.b
 have lt:∀id r B,g id=some r->ι id=some B->B.b<w.heap.size:=fun id r B h1 h2=>by
  obtain⟨B',ei,R,_⟩:=S.row id r h1
  rw[h2]at ei;injection ei with ei;subst ei
  exact R.lt
 have S0:fY P w.heap.size D1 ι (fun _=>none) w:=⟨Nat.le_refl _,fun b hb=>by
  rcases hb with hb|⟨id,r,B,h1,h2,rfl⟩
  ·exact S.dead b hb
  ·exact lt id r B h1 h2,fun id r h=>(by cases h),fun id jQ r r' B B' h=>(by cases h)⟩
 obtain⟨l1,l2⟩:=gx ha
 have A':fo P w D1 ι args' vs:=⟨by rw[A.1,l1],fun j a hj=>by
  obtain⟨a0,kQ,hf⟩:=l2 j a hj
  obtain⟨u,hu,hr⟩:=A.2 j a0 kQ
  refine⟨u,hu,(qN (D2:=D1) (ι2:=ι) (fun b h=>.inl h) (fun id row hg hw=>?_) 6 a0 u a hr hf).1⟩
  unfold dW at hg
  simp only[Option.map_eq_some_iff]at hg
  obtain⟨r,nL,rfl⟩:=hg
  obtain⟨B,hB,R,_,_⟩:=S.row id r (qa id r nL)
  exact⟨B,hB,R.flag true,.inr ⟨id,r,B,qa id r nL,hB,rfl⟩⟩⟩
 refine(h w.heap.size D1 ι w vs S0 U A').mono ?_
 rintro e w' ⟨r0,g',n',D2,ι1,u,rfl,⟨r,hr,hK⟩,T,S1,_,_,hR⟩
 have hb:∀b,b<w.heap.size->w'.heap[b]? =w.heap[b]? :=T.below.block
 have hz:=T.below.size
 have q:=GN (D2:=fun b=>D b∨(w.heap.size<=b/\b<w'.heap.size)) (ι2:=ι) (fun id row hg hw=>by
  obtain⟨B,hB,R,h1,_⟩:=S1.row id row hg
  exact⟨B,hB,R,.inr ⟨h1 hw,R.lt⟩⟩) 6 r0 u r hR hr
 refine⟨r,_,u,rfl,hK,?_,?_,q.1⟩
 ·exact Step.stay S hb hz T.below.os T.below.tape T.below.output (fun _ h=>.inl h) (fun b h=>by rcases h with h|h;exact .inl h;exact .inr h.1) (fun _ _ h=>h)
 ·exact S.stay hb hz (fun _ h=>.inl h) (fun b h=>by rcases h with h|h;exact Nat.lt_of_lt_of_le (S.dead b h) hz;exact h.2) (fun b h=>by rcases h with h|h;exact .inl h;exact .inr h.1) (fun _ _ h=>h)
theorem Gi {g0:Rows} {f:Nat} {args:List AV} {n:Nat} {K:AV->Prop} {vs:Array Value} (h:ez (Sound P) f args ⟨g0,n⟩ K) (qa:∀id r,g0 id=some r->g id=some r) (S:fY P hs D ι g w) (U:Used ι n (fun _=>False)) (A:fo P w D ι args vs):
  Calls P f vs w fun e w'=>∃r D' u,e=.returned u/\K r/\Step hs D ι w D' ι w'/\fY P hs D' ι g w'/\dF P w' D' ι r u:=by
 rcases h with h|h
 ·exact AZ h qa S U A
 ·exact x9 h qa S U A
theorem HA {D1 D2:Nat->Prop} {ι1 ι2:Names} {w1:World} {a:AV} {v:Value} (hp:a.plain=true) (h:dF P w D1 ι1 a v):dF P w1 D2 ι2 a v:=by
 cases h with
 |eG a v h=>cases h<;>first|(simp[AV.plain]at hp;done)|exact .eG _ _ (by constructor)
 |_=>simp[AV.plain]at hp
theorem fY.add {r:Row} {B:rZ} (S:fY P hs D ι g w) (S':fY P hs D ι g w') (hf:ι id=none) (lx:w.heap.size<=B.b) (R:gD P w' D (jU ι id B) B r):fY P hs D (jU ι id B) (bH g id r) w':=by
 have lt:∀jQ r' B',g jQ=some r'->ι jQ=some B'->B'.b<w.heap.size:=fun jQ r' B' h1 h2=>by
  obtain⟨B2,pv,R2,_⟩:=S.row jQ r' h1
  rw[h2]at pv;injection pv with pv;subst pv
  exact R2.lt
 have ne:∀jQ r',g jQ=some r'->jQ≠id:=fun jQ r' h he=>by
  subst he
  obtain⟨B2,pv,_⟩:=S.row _ r' h
  rw[hf]at pv;cases pv
 refine⟨S'.lo,S'.dead,fun jQ r' h=>?_,fun TG id2 r1 r2 B1 B2 h1 h2 hw AN pv hb=>?_⟩
 ·unfold bH at h
  split at h
  ·rename_i he
   subst he
   injection h with h;subst h
   exact⟨B,eo _ _ _,R,fun _=>Nat.le_trans S.lo lx,fun _ hd=>Nat.lt_irrefl _ (Nat.lt_of_lt_of_le (S.dead _ hd) lx)⟩
  ·obtain⟨B',ei,R',k1,k2⟩:=S'.row jQ r' h
   exact⟨B',by rw[gh (ne _ _ h)];exact ei,R'.frame rfl (fun a v hr=>hr.frame (fun _ _=>rfl) (fun _ h=>h) (fe hf)),k1,k2⟩
 ·unfold bH at h1 h2
  split at h1
  ·rename_i e1
   split at h2
   ·rename_i e2;rw[e1,e2]
   ·exfalso
    subst e1
    rw[eo]at AN;injection AN with AN;subst AN
    rw[gh (ne _ _ h2)]at pv
    have:=lt _ _ _ h2 pv
    omega
  ·rw[gh (ne _ _ h1)]at AN
   split at h2
   ·rename_i e2
    exfalso
    subst e2
    rw[eo]at pv;injection pv with pv;subst pv
    have:=lt _ _ _ h1 AN
    omega
   ·rw[gh (ne _ _ h2)]at pv
    exact S'.inj TG id2 r1 r2 B1 B2 h1 h2 hw AN pv hb
theorem Iq {g0:Rows} {f:Nat} {args:List AV} {n sz:Nat} {rows:List (List AV)} {vs:Array Value} (h:CM (Sound P) f args ⟨g0,n⟩ sz rows) (qa:∀id r,g0 id=some r->g id=some r) (S:fY P hs D ι g w) (U:Used ι n (fun _=>False)) (A:fo P w D ι args vs) (hf:ι id=none):
  Calls P f vs w fun e w'=>∃u B,e=.returned u/\Step hs D ι w D (jU ι id B) w'/\fY P hs D (jU ι id B) (bH g id ⟨true,sz,rows⟩) w'/\dF P w' D (jU ι id B) (.own id 0 rows.length) u:=by
 obtain⟨la,args',ha,h⟩:=h
 let D1:Nat->Prop:=fun b=>D b∨∃id r B,g id=some r/\ι id=some B/\b=B.b
 have lt:∀id r B,g id=some r->ι id=some B->B.b<w.heap.size:=fun id r B h1 h2=>by
  obtain⟨B',ei,R,_⟩:=S.row id r h1
  rw[h2]at ei;injection ei with ei;subst ei
  exact R.lt
 have S0:fY P w.heap.size D1 ι (fun _=>none) w:=⟨Nat.le_refl _,fun b hb=>by
  rcases hb with hb|⟨id,r,B,h1,h2,rfl⟩
  ·exact S.dead b hb
  ·exact lt id r B h1 h2,fun id r h=>(by cases h),fun id jQ r r' B B' h=>(by cases h)⟩
 obtain⟨l1,l2⟩:=gx ha
 have A':fo P w D1 ι args' vs:=⟨by rw[A.1,l1],fun j a hj=>by
  obtain⟨a0,kQ,hz⟩:=l2 j a hj
  obtain⟨u,hu,hr⟩:=A.2 j a0 kQ
  refine⟨u,hu,(qN (D2:=D1) (ι2:=ι) (fun b h=>.inl h) (fun id row hg hw=>?_) 6 a0 u a hr hz).1⟩
  unfold dW at hg
  simp only[Option.map_eq_some_iff]at hg
  obtain⟨r,nL,rfl⟩:=hg
  obtain⟨B,hB,R,_,_⟩:=S.row id r (qa id r nL)
  exact⟨B,hB,R.flag true,.inr ⟨id,r,B,qa id r nL,hB,rfl⟩⟩⟩
 refine(h w.heap.size D1 ι w vs S0 U A').mono ?_
 rintro e w' ⟨r0,g',n',D2,ι1,u,rfl,⟨i0,hr,hg⟩,T,S1,_,_,hR⟩
 subst hr
 have hb:∀b,b<w.heap.size->w'.heap[b]? =w.heap[b]? :=T.below.block
 have hz:=T.below.size
 obtain⟨B,hB,R,k1,_⟩:=S1.row i0 _ hg
 have lx:w.heap.size<=B.b:=k1 rfl
 obtain⟨o,cap,B',rfl,ei,q2,q3,q4,q5,hk⟩:=iy hR
 rw[hB]at ei;injection ei with ei;subst ei
 replace R:=R.row hk
 have S':fY P hs D ι g w':=S.stay hb hz (fun _ h=>h) (fun b h=>Nat.lt_of_lt_of_le (S.dead b h) hz) (fun b h=>.inl h) (fun _ _ h=>h)
 have R':j6 P w' D (jU ι id B) B ⟨true,sz,rows⟩:=⟨R.sz,R.rU,R.fits,R.len,R.flat,fun i j cs a hi hj=>by
  obtain⟨v,h1,h2⟩:=R.at_ i j cs a hi hj
  exact⟨v,h1,HA (la cs (List.mem_of_getElem? hi) a (List.mem_of_getElem? hj)) h2⟩⟩
 exact⟨_,B,rfl,Step.stay S hb hz T.below.os T.below.tape T.below.output (fun _ h=>h) (fun _ h=>.inl h) (fe hf),S.add S' hf lx (R'.obj hk),.own id 0 _ _ _ B (eo _ _ _) hk q2 q3 q4 q5⟩
theorem jq {f:Nat} {args:Array Value} (hc:fW P f=true):(callFunc f args).run P w=.ok (.enter f args) w:=by
 unfold fW at hc
 split at hc
 ·rename_i fn hf
  simp only[Bool.and_eq_true,Bool.not_eq_true']at hc
  have hb:fn.body.isNone=false:=by cases hq:fn.body<;>simp_all
  simp only[callFunc,Sem.run_bind,run_program,Result.andThen_ok,hf,hc.2,Bool.false_eq_true,if_false,hb]
  rfl
 ·simp at hc
theorem B9 {f:Nat} {args:List O} (hc:qo P o.op=some (.call f args)):∃c,o.op=.call c/\c.callee=.value (.func f)/\fW P f=true/\c.args.toList.mapM (cO P)=some args:=by
 unfold qo at hc
 split at hc
 case h_24=>
  rename_i c ho
  refine⟨c,ho,?_⟩
  unfold mX at hc
  split at hc
  all_goals (try(repeat' (split at hc))<;>(simp only[Option.bind_eq_bind,Option.bind_eq_some_iff,Option.pure_def,Option.some.injEq,Option.map_eq_some_iff,reduceCtorEq,and_false,exists_false]at hc))
  all_goals simp_all
 all_goals (try unfold uY at hc)<;>(try unfold r7 at hc)<;>(repeat' (split at hc))<;>(simp only[Option.bind_eq_bind,Option.bind_eq_some_iff,Option.pure_def,Option.some.injEq,Option.map_eq_some_iff,reduceCtorEq,and_false,exists_false]at hc)
theorem sC {x:O} {args:List O} (hc:qo P o.op=some (.s7 x args)):∃c t,o.op=.call c/\c.callee=.value (.tmp t)/\x=.t t/\c.args.toList.mapM (cO P)=some args:=by
 unfold qo at hc
 split at hc
 case h_24=>
  rename_i c ho
  refine⟨c,?_⟩
  unfold mX at hc
  split at hc
  all_goals (try(repeat' (split at hc))<;>(simp only[Option.bind_eq_bind,Option.bind_eq_some_iff,Option.pure_def,Option.some.injEq,Option.map_eq_some_iff,reduceCtorEq,and_false,exists_false]at hc))
  all_goals simp_all
 all_goals (try unfold uY at hc)<;>(try unfold r7 at hc)<;>(repeat' (split at hc))<;>(simp only[Option.bind_eq_bind,Option.bind_eq_some_iff,Option.pure_def,Option.some.injEq,Option.map_eq_some_iff,reduceCtorEq,and_false,exists_false]at hc)
theorem G9 {n:Nat} {x y:O} (hc:qo P o.op=some (.store n x y)):∃t x' y',o.op=.store t x' y'/\ep P t=some n/\cO P x'=some x/\cO P y'=some y:=by
 unfold qo at hc
 split at hc
 case h_8=>
  rename_i t x' y' ho
  refine⟨t,x',y',ho,?_⟩
  simp only[Option.bind_eq_bind,Option.bind_eq_some_iff,Option.pure_def,Option.some.injEq]at hc
  obtain⟨n',h1,x2,h2,y2,h3,he⟩:=hc
  injection he with e1 e2 e3
  subst e1;subst e2;subst e3
  exact⟨h1,h2,h3⟩
 all_goals (try unfold uY at hc)<;>(try unfold r7 at hc)<;>(try unfold mX at hc)<;>(repeat' (split at hc))<;>(simp only[Option.bind_eq_bind,Option.bind_eq_some_iff,Option.pure_def,Option.some.injEq,Option.map_eq_some_iff,reduceCtorEq,and_false,exists_false]at hc)
theorem D7 {n:Nat} {x y:O} (hc:qo P o.op=some (.append n x y)):∃(t e:TypeId) (m:Nat) (z:List K) (i:TypeInfo) (x' y':Operand),n=m+1/\o.op=.call {callee:=.builtin .append,args:= #[x',y'],argTypes:= #[t,t]}/\
  P.underlying t=some (.slice e)/\ep P e=some (m+1)/\jy P e=some z/\P.info? e=some i/\i.bytes<=32768/\cO P x'=some x/\cO P y'=some y:=by
 unfold qo at hc
 split at hc
 case h_24=>
  rename_i c ho
  unfold mX at hc
  split at hc
  case h_2=>
   rename_i kb
   split at hc
   ·rename_i x' y' t u h1 h2
    split at hc
    ·rename_i e ht
     split at hc
     ·rename_i m z i e1 e2 e3
      split at hc
      ·rename_i hb
       simp only[Option.bind_eq_bind,Option.bind_eq_some_iff,Option.pure_def,Option.some.injEq]at hc
       obtain⟨x2,h3,y2,h4,he⟩:=hc
       injection he with k1 k2 k3
       subst k1;subst k2;subst k3
       obtain⟨P5,rfl⟩:=hb
       refine⟨t,e,m,z,i,x',y',rfl,?_,ht,e1,e2,e3,P5,h3,h4⟩
       rw[ho]
       obtain⟨ca,cb,cc⟩:=c
       simp only at h1 h2 kb
       subst kb
       congr
       ·exact Array.ext' h1
       ·exact Array.ext' h2
      ·simp at hc
     ·simp at hc
    ·simp at hc
   ·simp at hc
  all_goals (repeat' (split at hc))<;>(simp only[Option.bind_eq_bind,Option.bind_eq_some_iff,Option.pure_def,Option.some.injEq,Option.map_eq_some_iff,reduceCtorEq,and_false,exists_false]at hc)
 all_goals (try unfold uY at hc)<;>(try unfold r7 at hc)<;>(repeat' (split at hc))<;>(simp only[Option.bind_eq_bind,Option.bind_eq_some_iff,Option.pure_def,Option.some.injEq,Option.map_eq_some_iff,reduceCtorEq,and_false,exists_false]at hc)
theorem J2 {n:Nat} {x y:O} (hc:qo P o.op=some (.copy n x y)):∃(t t2 e:TypeId) (m:Nat) (x' y':Operand),n=m+1/\o.op=.call {callee:=.builtin .copy,args:= #[x',y'],argTypes:= #[t,t2]}/\
  P.underlying t=some (.slice e)/\ep P e=some (m+1)/\cO P x'=some x/\cO P y'=some y:=by
 unfold qo at hc
 split at hc
 case h_24=>
  rename_i c ho
  unfold mX at hc
  split at hc
  case h_7=>
   rename_i kb
   split at hc
   ·rename_i x' y' t t2 h1 h2
    split at hc
    ·rename_i e ht
     split at hc
     ·rename_i m e1
      simp only[Option.bind_eq_bind,Option.bind_eq_some_iff,Option.pure_def,Option.some.injEq,gr.copy.injEq]at hc
      obtain⟨x2,h3,y2,h4,k0,k1,k2⟩:=hc
      subst k1;subst k2
      refine⟨t,t2,e,m,x',y',k0.symm,?_,ht,e1,h3,h4⟩
      rw[ho]
      obtain⟨ca,cb,cc⟩:=c
      simp only at h1 h2 kb
      subst kb
      congr
      ·exact Array.ext' h1
      ·exact Array.ext' h2
     ·simp at hc
    ·simp at hc
   ·simp at hc
  all_goals (repeat' (split at hc))<;>(simp only[Option.bind_eq_bind,Option.bind_eq_some_iff,Option.pure_def,Option.some.injEq,Option.map_eq_some_iff,reduceCtorEq,and_false,exists_false]at hc)
 all_goals (try unfold uY at hc)<;>(try unfold r7 at hc)<;>(repeat' (split at hc))<;>(simp only[Option.bind_eq_bind,Option.bind_eq_some_iff,Option.pure_def,Option.some.injEq,Option.map_eq_some_iff,reduceCtorEq,and_false,exists_false]at hc)
theorem G8 {z:List K} {x:O} (hc:qo P o.op=some (.clear z x)):∃(t e:TypeId) (m:Nat) (x':Operand),o.op=.call {callee:=.builtin .clear,args:= #[x'],argTypes:= #[t]}/\
  P.underlying t=some (.slice e)/\ep P e=some (m+1)/\jy P e=some z/\cO P x'=some x:=by
 unfold qo at hc
 split at hc
 case h_24=>
  rename_i c ho
  unfold mX at hc
  split at hc
  case h_3=>
   rename_i kb
   split at hc
   ·rename_i x' t h1 h2
    split at hc
    ·rename_i e ht
     split at hc
     ·rename_i m z' e1 e2
      simp only[Option.map_eq_some_iff]at hc
      obtain⟨x2,h3,he⟩:=hc
      injection he with k1 k2
      subst k1;subst k2
      refine⟨t,e,m,x',?_,ht,e1,e2,h3⟩
      rw[ho]
      obtain⟨ca,cb,cc⟩:=c
      simp only at h1 h2 kb
      subst kb
      congr
      ·exact Array.ext' h1
      ·exact Array.ext' h2
     ·simp at hc
    ·simp at hc
   ·simp at hc
  all_goals (repeat' (split at hc))<;>(simp only[Option.bind_eq_bind,Option.bind_eq_some_iff,Option.pure_def,Option.some.injEq,Option.map_eq_some_iff,reduceCtorEq,and_false,exists_false]at hc)
 all_goals (try unfold uY at hc)<;>(try unfold r7 at hc)<;>(repeat' (split at hc))<;>(simp only[Option.bind_eq_bind,Option.bind_eq_some_iff,Option.pure_def,Option.some.injEq,Option.map_eq_some_iff,reduceCtorEq,and_false,exists_false]at hc)
theorem QH {q:MW} {xs:List O} (hc:qo P o.op=some (.mw q xs)):
  (∃t x k y m z x' k' y',(o.op=.mapUpdate t x k y∨o.op=.insert t x k y)/\r8 P t=some (m,z)/\cO P x=some x'/\cO P k=some k'/\cO P y=some y'/\q=.set m/\xs=[x',k',y'])∨
  (∃t t' x k m z x' k',o.op=.call {callee:=.builtin .delete,args:= #[x,k],argTypes:= #[t,t']}/\r8 P t=some (m,z)/\cO P x=some x'/\cO P k=some k'/\q=.del m/\xs=[x',k']):=by
 unfold qo at hc
 split at hc
 case h_24=>
  rename_i c ho
  right
  unfold mX at hc
  split at hc
  case h_6=>
   rename_i kb
   split at hc
   ·rename_i x k t t' h1 h2
    split at hc
    ·rename_i m z x' k' e1 e2 e3
     injection hc with hc
     injection hc with q1 q2
     refine⟨t,t',x,k,m,z,x',k',?_,e1,e2,e3,q1.symm,q2.symm⟩
     rw[ho]
     obtain⟨ca,cb,cc⟩:=c
     simp only at h1 h2 kb
     subst kb
     congr
     ·exact Array.ext' h1
     ·exact Array.ext' h2
    ·cases hc
   ·cases hc
  all_goals (repeat' (split at hc))<;>(simp only[Option.bind_eq_bind,Option.bind_eq_some_iff,Option.pure_def,Option.some.injEq,Option.map_eq_some_iff,reduceCtorEq,and_false,exists_false]at hc)
 case h_30=>
  rename_i t x k y ho
  left
  split at hc
  ·rename_i m z x' k' y' e1 e2 e3 e4
   injection hc with hc
   injection hc with q1 q2
   exact⟨t,x,k,y,m,z,x',k',y',.inl ho,e1,e2,e3,e4,q1.symm,q2.symm⟩
  ·cases hc
 case h_31=>
  rename_i t x k y ho
  left
  split at hc
  ·rename_i m z x' k' y' e1 e2 e3 e4
   injection hc with hc
   injection hc with q1 q2
   exact⟨t,x,k,y,m,z,x',k',y',.inr ho,e1,e2,e3,e4,q1.symm,q2.symm⟩
  ·cases hc
 all_goals (try unfold uY at hc)<;>(try unfold r7 at hc)<;>(repeat' (split at hc))<;>(simp only[Option.bind_eq_bind,Option.bind_eq_some_iff,Option.pure_def,Option.some.injEq,Option.map_eq_some_iff,reduceCtorEq,and_false,exists_false]at hc)
def jg (g:Rows) (id:Id):Option Row->Rows
 |some r=>bH g id r
 |none=>g
def u9 (X:fU) (hid:List Nat) (site n:Nat) (f:Nat) (args:List AV) (g:Rows) (v:AV) (g':Rows):Prop:=
 (ez X f args ⟨eC hid n g,n+1⟩ (fun r=>r=v)/\g'=g)∨
 (hid.contains site=true/\∃sz rows,CM X f args ⟨eC hid n g,n+1⟩ sz rows/\v=.own ⟨site,n⟩ 0 rows.length/\g'=bH g ⟨site,n⟩ ⟨true,sz,rows⟩)
def VS (X:fU) (n:Nat) (vo:cK) (env:Env) (g:Rows) (v:AV) (g':Rows):Prop:=
 match vo.op with
 | .call f args=>u9 X vo.hid vo.site n f (args.map (cY env)) g v g'
 | .s7 x args=>∃f l,u7 (cY env x) (args.map (cY env))=some (f,l)/\u9 X vo.hid vo.site n f l g v g'
 | .store .. | .append .. | .copy .. | .clear .. | .mw .. =>eE vo.op (cY env) g ⟨vo.site,n⟩=some (v,g')
 |_=>∃mr,dZ vo.op (cY env) (eC vo.hid n g) ⟨vo.site,n⟩=some (v,mr)/\g'=jg g ⟨vo.site,n⟩ mr
def NS (P:Program) (hs:Nat) (D:Nat->Prop) (ι:Names) (w:World) (U:Nat->Prop) (site n:Nat) (a:Act) (dst:Option Tmp) (v:AV) (g':Rows) (a':Act) (w':World):Prop:=
 ∃u D' ι',a'=a.put dst u/\Step hs D ι w D' ι' w'/\fY P hs D' ι' g' w'/\dF P w' D' ι' v u/\Used ι' n (fun s=>U s∨s=site)
theorem fresh {n:Nat} {U:Nat->Prop} {s:Nat} (h:Used ι n U) (hU:¬U s):ι ⟨s,n⟩=none:=by
 cases hq:ι ⟨s,n⟩with
 |none=>rfl
 |some B=>
  rcases h ⟨s,n⟩ (by rw[hq];simp)with h|⟨_,h⟩
  ·exact absurd h (Nat.lt_irrefl _)
  ·exact absurd h hU
theorem Used.more {n:Nat} {U U':Nat->Prop} (h:Used ι n U) (hU:∀s,U s->U' s):Used ι n U':=fun id hid=>by
 rcases h id hid with h|⟨h1,h2⟩
 ·exact .inl h
 ·exact .inr ⟨h1,hU _ h2⟩
theorem Used.next {n:Nat} {U:Nat->Prop} (h:Used ι n U):Used ι (n+1) (fun _=>False):=fun id hid=>by
 rcases h id hid with h|⟨h1,_⟩
 ·exact .inl (Nat.lt_succ_of_lt h)
 ·exact .inl ab
theorem Used.upd {n:Nat} {U:Nat->Prop} {s:Nat} {B:rZ} (h:Used ι n U):Used (jU ι ⟨s,n⟩ B) n (fun x=>U x∨x=s):=fun id hid=>by
 by_cases he:id=⟨s,n⟩
 ·subst he;exact .inr ⟨rfl,.inr rfl⟩
 ·rw[gh he]at hid
  exact(h.more (U':=fun x=>U x∨x=s) fun _ h=>Or.inl h) id hid
theorem nU {xs:Array Operand} {ys:List O} (E:db P w D ι env a) (h:xs.toList.mapM (cO P)=some ys):fo P w D ι (ys.map (cY env)) (xs.map a.eval):=by
 obtain⟨h1,h2⟩:=Eu E h
 refine⟨by simpa using h1,fun j b hj=>?_⟩
 simp only[List.getElem?_map,Option.map_eq_some_iff]at hj
 obtain⟨y,hy,rfl⟩:=hj
 have eR:j<xs.size:=by have:=(List.getElem?_eq_some_iff.1 hy).1;simp at h1;omega
 refine⟨a.eval xs[j],by simp[eR],?_⟩
 have:=h2 j y hy
 simpa[List.getD_eq_getElem?_getD,eR]using this
theorem oH {xs ys:List AV} {vs us:Array Value} (h:fo P w D ι xs vs) (k:fo P w D ι ys us):fo P w D ι (xs++ys) (vs++us):=
 ⟨by simp[h.1,k.1],fun j b hj=>by
  by_cases eR:j<xs.length
  ·rw[List.getElem?_append_left eR]at hj
   obtain⟨u,hu,xR⟩:=h.2 j b hj
   exact⟨u,by rw[Array.getElem?_append_left (by rw[h.1];exact eR)];exact hu,xR⟩
  ·rw[List.getElem?_append_right ab]at hj
   obtain⟨u,hu,xR⟩:=k.2 _ b hj
   exact⟨u,by rw[Array.getElem?_append_right (by rw[h.1];omega),h.1];exact hu,xR⟩⟩
theorem wV:fo P w D ι [] #[]:=⟨rfl,fun j b hj=>by simp at hj⟩
theorem vd {x:AV} {l l':List AV} {f:Nat} {vs:Array Value} {v:Value} (h:u7 x l=some (f,l')) (hr:dF P w D ι x v) (hA:fo P w D ι l vs):
  ∃first dJ,v=.func (.func f) first dJ/\fW P f=true/\fo P w D ι l' (first++vs++dJ):=by
 unfold u7 at h
 split at h
 ·simp only[Option.some.injEq,Prod.mk.injEq]at h
  obtain⟨rfl,rfl⟩:=h
  obtain⟨us,q,he,FE,n1,q1,q2⟩:=sK hr
  refine⟨#[],us,he,FE,?_⟩
  rw[Array.empty_append]
  exact oH hA ⟨n1,fun j b hj=>⟨q j,q1 j (List.getElem?_eq_some_iff.1 hj).1,q2 j b hj⟩⟩
 ·simp only[Option.some.injEq,Prod.mk.injEq]at h
  obtain⟨rfl,rfl⟩:=h
  obtain⟨us,q,he,FE,n1,q1,q2⟩:=Nu hr
  refine⟨us, #[],he,FE,?_⟩
  rw[Array.append_empty]
  exact oH ⟨n1,fun j b hj=>⟨q j,q1 j (List.getElem?_eq_some_iff.1 hj).1,q2 j b hj⟩⟩ hA
 ·cases h
theorem A3 {n:Nat} {vo:cK} {g':Rows} {U:Nat->Prop} {Q:Exit->Act->World->Prop} {K:Act->World->Prop} (hc:qo P o.op=some vo.op) (hv:VS (Sound P) n vo env g v g') (S:fY P hs D ι g w) (Us:Used ι n U) (hU:¬U vo.site) (E:db P w D ι env a)
  (hK:∀a' w',NS P hs D ι w U vo.site n a o.dst v g' a' w'->K a' w'):o.wp P a w K Q:=by
 have hf:=fresh Us hU
 have Bj:∀(f:Nat) (args:List AV) (vs:Array Value),u9 (Sound P) vo.hid vo.site n f args g v g'->fo P w D ι args vs->(execOp a.eval o).run P w=.ok (.enter f vs) w->o.wp P a w K Q:=by
  intro f args vs hP hA fG
  unfold Oper.wp
  rw[fG]
  rcases hP with⟨hP,rfl⟩|⟨_,sz,rows,hM,rfl,rfl⟩
  ·refine(Gi hP AK S Us.next hA).mono ?_
   rintro e w' ⟨r,D',u,rfl,rfl,T,S',hR⟩
   exact hK _ _ ⟨u,D',ι,rfl,T,S',hR,Us.more fun _ h=>.inl h⟩
  ·refine(Iq hM AK S Us.next hA hf).mono ?_
   rintro e w' ⟨u,B,rfl,T,S',hR⟩
   exact hK _ _ ⟨u,D,_,rfl,T,S',hR,Us.upd⟩
 have quiet:∀(mr:Option Row),dZ vo.op (cY env) (eC vo.hid n g) ⟨vo.site,n⟩=some (v,mr)->g'=jg g ⟨vo.site,n⟩ mr->o.wp P a w K Q:=by
  intro mr hq hg
  have Vm:=zh hc hq (S.sub AK) E
  unfold Oper.wp
  cases mr with
  |none=>
   obtain⟨u,fG,hR⟩:=Vm
   rw[fG]
   subst hg
   exact hK _ _ ⟨u,D,ι,rfl,Step.refl _ _ _ _,S,hR,Us.more fun _ h=>.inl h⟩
  |some r=>
   rcases Vm with⟨u,cells,T,fG,h1,h2,h3,h4,h5,h6⟩|⟨m,fG,MM,AQ⟩|⟨c,fG,MM,AQ⟩
   case inr.inr=>
    rw[fG]
    subst hg MM AQ
    have e8:w.heap.size<(w.alloc (.chan c #[] false 0 0 false)).heap.size:=by simp
    have S':=S.stay (w':=w.alloc (.chan c #[] false 0 0 false)) (D':=D) (ι':=ι) (fun k hk=>Below.heap_alloc _ _ _ hk) (by simp) (fun _ h=>h) (fun b hd=>Nat.lt_trans (S.dead b hd) e8) (fun _ h=>.inl h) (fun _ _ h=>h)
    have S1:=S.add S' (id:=⟨vo.site,n⟩) (B:=⟨w.heap.size,qH+c,0,some (.chan c)⟩) (r:=⟨true,qH+c,[]⟩) hf (Nat.le_refl _) ⟨rfl,fun cs h=>by simp at h,fun h=>by simp at h,fun m' h=>(by simp at h),fun c' h=>by
     simp only[Option.some.injEq,BK.chan.injEq]at h;subst h
     exact⟨rfl, #[],0,0,(show(w.heap.push (Obj.chan c #[] false 0 0 false))[w.heap.size]? =some (Obj.chan c #[] false 0 0 false) by simp),rfl,fun i cs h=>by simp at h⟩⟩
    exact hK _ _ ⟨_,D,_,rfl,Step.stay S (fun k hk=>Below.heap_alloc _ _ _ hk) (by simp) rfl rfl rfl (fun _ h=>h) (fun _ h=>.inl h) (fe hf),S1,.qF _ _ _ (eo _ _ _) rfl,Us.upd⟩
   case inr.inl=>
    rw[fG]
    subst hg MM AQ
    have e8:w.heap.size<(w.alloc (.map #[] 0)).heap.size:=by simp
    have S':=S.stay (w':=w.alloc (.map #[] 0)) (D':=D) (ι':=ι) (fun k hk=>Below.heap_alloc _ _ _ hk) (by simp) (fun _ h=>h) (fun b hd=>Nat.lt_trans (S.dead b hd) e8) (fun _ h=>.inl h) (fun _ _ h=>h)
    have S1:=S.add S' (id:=⟨vo.site,n⟩) (B:=⟨w.heap.size,m.j5,0,some (.map m)⟩) (r:=⟨true,m.j5,[]⟩) hf (Nat.le_refl _) ⟨rfl,fun cs h=>by simp at h,fun h=>by simp at h,fun m' h=>by
     simp only[Option.some.injEq,BK.map.injEq]at h;subst h
     exact⟨rfl, #[],0,(show(w.heap.push (Obj.map #[] 0))[w.heap.size]? =some (Obj.map #[] 0) by simp),rfl,⟨fun cs h=>by simp at h,fun x h=>by simp at h,by simp⟩,fun i cs h=>by simp at h⟩,fun c h=>by simp at h⟩
    exact hK _ _ ⟨_,D,_,rfl,Step.stay S (fun k hk=>Below.heap_alloc _ _ _ hk) (by simp) rfl rfl rfl (fun _ h=>h) (fun _ h=>.inl h) (fe hf),S1,.map _ _ _ (eo _ _ _) rfl,Us.upd⟩
   rw[fG]
   subst hg
   have S1:=S.alloc (id:=⟨vo.site,n⟩) (w':=w.alloc (.cells cells T)) rfl hf h1 h2 h3 h4 h5
   refine hK _ _ ⟨u,D,_,rfl,Step.stay S (fun k hk=>Below.heap_alloc _ _ _ hk) (by simp) rfl rfl rfl (fun _ h=>h) (fun _ h=>.inl h) (fe hf),S1,(h6 (jU ι _ _) (eo _ _ _)).frame (fun b hd=>Below.heap_alloc _ _ _ (S.dead b hd)) (fun _ h=>h) (fun _ _ h=>h),Us.upd⟩
 have Rx:eE vo.op (cY env) g ⟨vo.site,n⟩=some (v,g')->(∀LM,C7 P hs a o LM D ι ⟨vo.site,n⟩ v g'->LM=w->o.wp P a w K Q):=by
  intro _ LM hE he
  subst he
  obtain⟨u,w',ι',fG,T,S',hR,hι⟩:=hE
  have Jv:NS P hs D ι LM U vo.site n a o.dst v g' (a.put o.dst u) w':=⟨u,D,ι',rfl,T,S',hR,fun id hid=>by
   by_cases he:id=⟨vo.site,n⟩
   ·subst he;exact .inr ⟨rfl,.inr rfl⟩
   ·rw[hι id he]at hid
    exact(Us.more (U':=fun x=>U x∨x=vo.site) fun _ h=>Or.inl h) id hid⟩
  unfold Oper.wp
  rcases fG with fG|⟨fG,rfl⟩
  ·rw[fG];exact hK _ _ Jv
  ·rw[fG];exact hK _ _ Jv
 unfold VS at hv
 split at hv
 ·rename_i f args eu
  rw[eu]at hc
  obtain⟨c,ho,kb,FE,nh⟩:=B9 hc
  refine Bj f _ (c.args.map a.eval) hv (nU E nh) ?_
  simp only[execOp,ho,resolve,kb,Deferred.ofValue,Act.eval,Sem.run_bind,Sem.run_pure,Result.andThen_ok,invoke,Array.empty_append,Array.append_empty]
  exact jq FE
 ·rename_i x args eu
  obtain⟨f,l,hx,hP⟩:=hv
  rw[eu]at hc
  obtain⟨c,t,ho,kb,rfl,nh⟩:=sC hc
  obtain⟨first,dJ,he,FE,hL⟩:=vd (v:=a.eval (.tmp t)) hx (E t) (nU E nh)
  refine Bj f _ (first++c.args.map a.eval++dJ) hP hL ?_
  simp only[execOp,ho,resolve,kb,he,Deferred.ofValue,Sem.run_bind,Sem.run_pure,Result.andThen_ok,invoke]
  exact jq FE
 ·rename_i m x y eu
  have j3:=hc
  rw[eu]at j3
  obtain⟨t,x',y',ho,h1,h2,h3⟩:=G9 j3
  have nF:=hv
  rw[eu]at nF
  simp only[eE,Option.map_eq_some_iff,Prod.mk.injEq]at nF
  obtain⟨g1,xt,rfl,rfl⟩:=nF
  exact Rx hv w (Mg S E ho h1 h2 h3 xt) rfl
 ·rename_i m x y eu
  have j3:=hc
  rw[eu]at j3
  obtain⟨t,e,m',z,i,x',y',rfl,ho,h1,h2,h3,h4,h5,h6,h7⟩:=D7 j3
  have nF:=hv
  rw[eu]at nF
  simp only[eE,Option.bind_eq_some_iff]at nF
  obtain⟨ys,C2,nF⟩:=nF
  exact Rx hv w (Ja S E hf ho h1 h2 h3 h4 h5 h6 h7 C2 nF) rfl
 ·rename_i m x y eu
  have j3:=hc
  rw[eu]at j3
  obtain⟨t,t2,e,m',x',y',rfl,ho,h1,h2,h3,h4⟩:=J2 j3
  have nF:=hv
  rw[eu]at nF
  simp only[eE,Option.bind_eq_some_iff]at nF
  obtain⟨ys,C2,nF⟩:=nF
  exact Rx hv w (Pt S E ho h1 h2 h3 h4 C2 nF) rfl
 ·rename_i z x eu
  have j3:=hc
  rw[eu]at j3
  obtain⟨t,e,m',x',ho,h1,h2,h3,h4⟩:=G8 j3
  have nF:=hv
  rw[eu]at nF
  simp only[eE,Option.map_eq_some_iff,Prod.mk.injEq]at nF
  obtain⟨g1,xt,rfl,rfl⟩:=nF
  exact Rx hv w (Mf S E ho h1 h2 h3 h4 xt) rfl
 ·rename_i q xs eu
  have j3:=hc
  rw[eu]at j3
  have nF:=hv
  rw[eu]at nF
  simp only[eE,Option.map_eq_some_iff,Prod.mk.injEq]at nF
  obtain⟨g1,xt,rfl,rfl⟩:=nF
  rcases QH j3 with⟨t,x,k,y,m,z,x',k',y',ho,h1,h2,h3,h4,rfl,rfl⟩|⟨t,t',x,k,m,z,x',k',ho,h1,h2,h3,rfl,rfl⟩
  ·exact Rx hv w (Pv S E ho h1 h2 h3 h4 xt) rfl
  ·exact Rx hv w (Pu S E ho h1 h2 h3 xt) rfl
 ·obtain⟨mr,hq,hg⟩:=hv
  exact quiet mr hq hg
end
end Go.Proofs.YtakkdjfmiffbfaaGreatDoor.V

namespace Go.Proofs.YtakkdjfmiffbfaaGreatDoor.V
open Go.RowKit
variable {P:Program} {w w':World} {D D' D2:Nat->Prop} {ι ι' ι2:Names}
section
variable {g:Rows} {hs:Nat} {env:Env} {a:Act} {o:Oper} {id:Id} {v:AV}
theorem oY {ops:Array Oper} {nt site0 j:Nat} {draw mk:Bool} {bs:Array Nat} {hidden:List (Nat×Bool)} {vo:cK} (h:kh P ops nt site0 draw mk bs hidden j o=some vo):
  qo P o.op=some vo.op/\vo.dst=o.dst/\vo.site=site0+j/\(∀d,o.dst=some d->d<nt)/\(match o.guard with
   |none=>vo.guard=none
   |some (i,b)=>∃t,(ops[i]?).bind (·.dst)=some t/\vo.guard=some (t,b)):=by
 unfold kh at h
 simp only[Option.bind_eq_bind,Option.bind_eq_some_iff]at h
 obtain⟨v,hv,gd,hg,h⟩:=h
 split at h
 ·rename_i hd
  simp only[Option.pure_def,Option.some.injEq]at h
  subst h
  refine⟨hv,rfl,rfl,fun d Oj=>?_,?_⟩
  ·rw[Oj]at hd;simpa using hd
  ·unfold Dn at hg
   cases AO:o.guard with
   |none=>rw[AO]at hg;simp at hg;exact hg.symm
   |some p=>
    obtain⟨i,b⟩:=p
    rw[AO]at hg
    dsimp only at hg ⊢
    split at hg
    ·rename_i t ht
     simp at hg;exact⟨t,ht,hg.symm⟩
    ·simp at hg
 ·simp at h
theorem sZ {ops:Array Oper} {vo:cK} (E:db P w D ι env a) (hg:match o.guard with
   |none=>vo.guard=none
   |some (i,b)=>∃t,(ops[i]?).bind (·.dst)=some t/\vo.guard=some (t,b)):ay vo.guard env=Region.wanted o (yielded ops a.tmps):=by
 unfold Region.wanted
 cases AO:o.guard with
 |none=>rw[AO]at hg;simp only at hg;rw[hg];rfl
 |some p=>
  obtain⟨i,b⟩:=p
  rw[AO]at hg
  obtain⟨t,ht,hv⟩:=hg
  rw[hv]
  simp only[ay,yielded,ht,Option.bind_some]
  have hr:=E t
  by_cases eR:t<a.tmps.size
  ·have jl:a.tmps[t]? =some a.tmps[t]:=Array.getElem?_eq_getElem eR
   have hd:a.tmps.getD t undef=a.tmps[t]:=by simp[eR]
   rw[hd]at hr
   rw[jl]
   generalize a.tmps[t]=u at hr
   cases he:env t with
   |bool c=>rw[he]at hr;rw[fm hr];simp
   |_=>
    rw[he]at hr
    have:∀c,u≠.bool c:=by
     intro c hu
     subst hu
     cases hr with
     |eG _ _ h=>cases h
    cases u<;>simp_all
  ·have jl:a.tmps[t]? =none:=Array.getElem?_eq_none (Nat.le_of_not_lt eR)
   have hd:a.tmps.getD t undef=undef:=by simp[jl]
   rw[hd]at hr
   rw[jl]
   cases he:env t with
   |bool c=>rw[he]at hr;have:=fm hr;simp[undef]at this
   |_=>simp
theorem iq {dst:Option Nat} {nt:Nat} {u:Value} (E:db P w D ι env a) (hr:dF P w D ι v u) (hd:∀d,dst=some d->d<nt) (hs:a.tmps.size=nt):db P w D ι (upd env dst v) (a.put dst u):=by
 intro t
 cases dst with
 |none=>exact E t
 |some d=>
  have eR:d<a.tmps.size:=by rw[hs];exact hd d rfl
  simp only[upd,Act.put]
  by_cases ht:t=d
  ·subst ht
   simp[eR];exact hr
  ·rw[if_neg ht]
   have:(a.tmps.setIfInBounds d u).getD t undef=a.tmps.getD t undef:=by
    simp only[Array.getD_eq_getD_getElem?]
    rw[Array.getElem?_setIfInBounds_ne (fun e=>ht e.symm)]
   rw[this];exact E t
theorem oh {hs:Nat} (E:db P w D ι env a) (T:Step hs D ι w D' ι' w'):db P w' D' ι' env a:=fun t=>T.rep (E t)
theorem fc (a:Act) (dst:Option Tmp) (u:Value):(a.put dst u).tmps.size=a.tmps.size:=by cases dst<;>simp[Act.put]
theorem put_defers (a:Act) (dst:Option Tmp) (u:Value):(a.put dst u).defers=a.defers:=by cases dst<;>rfl
theorem zr {draw:Bool} {vo:cK} {σ:aq} {next:AV->aq->Prop} {U:Nat->Prop} {Q:Exit->Act->World->Prop} {K:Act->World->Prop} (hc:qo P o.op=some vo.op) (hv:ew (Sound P) draw vo env σ next) (S:fY P hs D ι σ.get w) (Us:Used ι σ.next U) (hU:¬U vo.site) (E:db P w D ι env a)
  (hK:∀v σ' u D' ι' w',next v σ'->Step hs D ι w D' ι' w'->fY P hs D' ι' σ'.get w'->dF P w' D' ι' v u->Used ι' σ'.next (fun s=>U s∨s=vo.site)->σ.next<=σ'.next->K (a.put o.dst u) w'):o.wp P a w K Q:=by
 have close:∀v g',VS (Sound P) σ.next vo env σ.get v g'->next v ⟨g',σ.next⟩->o.wp P a w K Q:=fun v g' h1 h2=>
  A3 hc h1 S Us hU E fun a' w' ⟨u,D',ι',ha,T,S',hR,U'⟩=>by subst ha;exact hK v ⟨g',σ.next⟩ u D' ι' w' h2 T S' hR U' (Nat.le_refl _)
 have Kv:∀(f:Nat) (args:List AV) (vs:Array Value),Sound P f args ⟨σ.get,σ.next+1⟩ next->fo P w D ι args vs->(execOp a.eval o).run P w=.ok (.enter f vs) w->o.wp P a w K Q:=by
  intro f args vs h hA fG
  unfold Oper.wp
  rw[fG]
  refine(h hs D ι w vs S Us.next hA).mono ?_
  rintro e w' ⟨r,g',n',D',ι',u,rfl,hn,T,S',U',hle,hR⟩
  exact hK r ⟨g',n'⟩ u D' ι' w' hn T S' hR (U'.more fun _ h=>h.elim) (Nat.le_trans (Nat.le_succ _) hle)
 unfold ew at hv
 split at hv
 ·rename_i f args eu
  rcases hv with⟨r,hP,hn⟩|⟨_,hX⟩|⟨yJ,sz,rows,hM,hn⟩
  ·exact close r σ.get (by unfold VS;rw[eu];exact .inl ⟨hP,rfl⟩) hn
  rotate_left
  ·exact close _ _ (by unfold VS;rw[eu];exact .inr ⟨yJ,sz,rows,hM,rfl,rfl⟩) hn
  ·have j3:=hc
   rw[eu]at j3
   obtain⟨c,ho,kb,FE,nh⟩:=B9 j3
   refine Kv f _ (c.args.map a.eval) hX (nU E nh) ?_
   simp only[execOp,ho,resolve,kb,Deferred.ofValue,Act.eval,Sem.run_bind,Sem.run_pure,Result.andThen_ok,invoke,Array.empty_append,Array.append_empty]
   exact jq FE
 ·rename_i x args eu
  split at hv
  ·rename_i f dJ hx
   have AR:u7 (cY env x) (args.map (cY env))=some (f,args.map (cY env)++dJ):=by rw[hx];rfl
   rcases hv with⟨r,hP,hn⟩|⟨_,hX⟩|⟨yJ,sz,rows,hM,hn⟩
   ·exact close r σ.get (by unfold VS;rw[eu];exact⟨f,_,AR,.inl ⟨hP,rfl⟩⟩) hn
   rotate_left
   ·exact close _ _ (by unfold VS;rw[eu];exact⟨f,_,AR,.inr ⟨yJ,sz,rows,hM,rfl,rfl⟩⟩) hn
   ·have j3:=hc
    rw[eu]at j3
    obtain⟨c,t,ho,kb,rfl,nh⟩:=sC j3
    obtain⟨first,us,he,FE,hL⟩:=vd (v:=a.eval (.tmp t)) AR (E t) (nU E nh)
    refine Kv f _ (first++c.args.map a.eval++us) hX hL ?_
    simp only[execOp,ho,resolve,kb,he,Deferred.ofValue,Sem.run_bind,Sem.run_pure,Result.andThen_ok,invoke]
    exact jq FE
  ·rename_i f dJ hx
   have AR:u7 (cY env x) (args.map (cY env))=some (f,dJ++args.map (cY env)):=by rw[hx];rfl
   rcases hv with⟨r,hP,hn⟩|⟨_,hX⟩|⟨yJ,sz,rows,hM,hn⟩
   ·exact close r σ.get (by unfold VS;rw[eu];exact⟨f,_,AR,.inl ⟨hP,rfl⟩⟩) hn
   rotate_left
   ·exact close _ _ (by unfold VS;rw[eu];exact⟨f,_,AR,.inr ⟨yJ,sz,rows,hM,rfl,rfl⟩⟩) hn
   ·have j3:=hc
    rw[eu]at j3
    obtain⟨c,t,ho,kb,rfl,nh⟩:=sC j3
    obtain⟨first,us,he,FE,hL⟩:=vd (v:=a.eval (.tmp t)) AR (E t) (nU E nh)
    refine Kv f _ (first++c.args.map a.eval++us) hX hL ?_
    simp only[execOp,ho,resolve,kb,he,Deferred.ofValue,Sem.run_bind,Sem.run_pure,Result.andThen_ok,invoke]
    exact jq FE
  ·exact hv.elim
 ·rename_i m x y eu
  split at hv
  ·rename_i v' g' he
   exact close v' g' (by unfold VS;rw[eu];rw[eu]at he;exact he) hv
  ·exact hv.elim
 ·rename_i m x y eu
  split at hv
  ·rename_i v' g' he
   exact close v' g' (by unfold VS;rw[eu];rw[eu]at he;exact he) hv
  ·exact hv.elim
 ·rename_i m x y eu
  split at hv
  ·rename_i v' g' he
   exact close v' g' (by unfold VS;rw[eu];rw[eu]at he;exact he) hv
  ·exact hv.elim
 ·rename_i m x eu
  split at hv
  ·rename_i v' g' he
   exact close v' g' (by unfold VS;rw[eu];rw[eu]at he;exact he) hv
  ·exact hv.elim
 ·rename_i m x eu
  split at hv
  ·rename_i v' g' he
   exact close v' g' (by unfold VS;rw[eu];rw[eu]at he;exact he) hv
  ·exact hv.elim
 ·rename_i n1 n2 n3 n4 n5 n6 n7
  split at hv
  ·rename_i v' r hq
   refine close v' (bH σ.get ⟨vo.site,σ.next⟩ r) ?_ hv
   unfold VS
   split
   ·rename_i h;exact(n1 _ _ h).elim
   ·rename_i h;exact(n2 _ _ h).elim
   ·rename_i h;exact(n3 _ _ _ h).elim
   ·rename_i h;exact(n4 _ _ _ h).elim
   ·rename_i h;exact(n5 _ _ _ h).elim
   ·rename_i h;exact(n6 _ _ h).elim
   ·rename_i h;exact(n7 _ _ h).elim
   ·exact⟨some r,hq,rfl⟩
  ·rename_i v' hq
   refine close v' σ.get ?_ hv
   unfold VS
   split
   ·rename_i h;exact(n1 _ _ h).elim
   ·rename_i h;exact(n2 _ _ h).elim
   ·rename_i h;exact(n3 _ _ _ h).elim
   ·rename_i h;exact(n4 _ _ _ h).elim
   ·rename_i h;exact(n5 _ _ _ h).elim
   ·rename_i h;exact(n6 _ _ h).elim
   ·rename_i h;exact(n7 _ _ h).elim
   ·exact⟨none,hq,rfl⟩
  ·exact hv.elim
structure St (P:Program) (hs nt:Nat) (D:Nat->Prop) (ι:Names) (env:Env) (σ:aq) (a:Act) (w:World):Prop where
 sO:fY P hs D ι σ.get w
 used:Used ι σ.next (fun _=>False)
 env:db P w D ι env a
 size:a.tmps.size=nt
theorem wN (rest:List Oper) {ops:Array Oper} {nt site0:Nat} {draw mk:Bool} {bs:Array Nat} {hidden:List (Nat×Bool)} {K:Env->aq->Prop} {Q:Exit->Act->World->Prop}:∀(l:List Oper) (vl:List cK) (j:Nat) (env:Env) (σ:aq) (a:Act) (w:World) (D:Nat->Prop) (ι:Names) (U:Nat->Prop),
  allM (kh P ops nt site0 draw mk bs hidden) l j=some vl->wpOps (Sound P) draw vl K env σ->fY P hs D ι σ.get w->Used ι σ.next U->(∀s,U s->s<site0+j)->db P w D ι env a->a.tmps.size=nt->
  (∀iD σ' a' w' D' ι',K iD σ'->Step hs D ι w D' ι' w'->St P hs nt D' ι' iD σ' a' w'->a'.defers=a.defers->σ.next<=σ'.next->wpList P ops Q rest a' w')->wpList P ops Q (l++rest) a w:=by
 intro l
 induction l with
 |nil=>
  intro vl j env σ a w D ι U h hv S Us _ E e8 hQ
  simp[allM]at h;subst h
  exact hQ env ⟨σ.get,σ.next+1⟩ a w D ι hv (Step.refl _ _ _ _) ⟨S,Us.next,E,e8⟩ rfl (Nat.le_succ _)
 |cons o l ih=>
  intro vl j env σ a w D ι U h hv S Us hU E e8 hQ
  simp only[allM,Option.bind_eq_bind,Option.bind_eq_some_iff,Option.pure_def,Option.some.injEq]at h
  obtain⟨vo,qW,sY,rY,rfl⟩:=h
  obtain⟨hc,hd,B3,xK,hg⟩:=oY qW
  have hw:=sZ (ops:=ops) (vo:=vo) E hg
  unfold wpOps at hv
  show wpList P ops Q (o::(l++rest)) a w
  unfold wpList
  rw[<-hw]
  split at hv
  ·rename_i G7
   rw[if_pos G7]
   refine .inl (zr hc hv S Us (fun h=>by have:=hU _ h;omega) E fun v σ' u D' ι' w' hn T S' hR U' hle=>?_)
   refine ih sY (j+1) (upd env vo.dst v) σ' (a.put o.dst u) w' D' ι' _ rY hn S' U' (fun s Ad=>by
    rcases Ad with h|h
    ·have:=hU _ h;omega
    ·omega) (by rw[hd];exact iq (oh E T) hR xK e8) (by rw[fc];exact e8) fun iD σ2 a' w2 D2 ι2 hk T2 LU DQ p7=>hQ iD σ2 a' w2 D2 ι2 hk (T.trans T2) LU (DQ.trans (put_defers _ _ _)) (Nat.le_trans hle p7)
  ·rename_i G7
   rw[if_neg G7]
   refine ih sY (j+1) (upd env vo.dst .undef) σ (a.put o.dst undef) w D ι U rY hv S Us (fun s Ad=>by have:=hU _ Ad;omega) (by rw[hd];exact iq E dF.undef xK e8) (by rw[fc];exact e8) fun iD σ2 a' w2 D2 ι2 hk T2 LU DQ p7=>hQ iD σ2 a' w2 D2 ι2 hk T2 LU (DQ.trans (put_defers _ _ _)) p7
theorem y7 {ops:Array Oper} {nt site0:Nat} {draw mk:Bool} {bs:Array Nat} {hidden:List (Nat×Bool)} {K:Env->aq->Prop} {Q:Exit->Act->World->Prop}:∀(l:List Oper) (vl:List cK) (j:Nat) (env:Env) (σ:aq) (a:Act) (w:World) (D:Nat->Prop) (ι:Names) (U:Nat->Prop),
  allM (kh P ops nt site0 draw mk bs hidden) l j=some vl->wpOps (Sound P) draw vl K env σ->fY P hs D ι σ.get w->Used ι σ.next U->(∀s,U s->s<site0+j)->db P w D ι env a->a.tmps.size=nt->
  (∀iD σ' a' w' D' ι',K iD σ'->Step hs D ι w D' ι' w'->St P hs nt D' ι' iD σ' a' w'->a'.defers=a.defers->σ.next<=σ'.next->Q .normal a' w')->wpList P ops Q l a w:=fun l vl j env σ a w D ι U h hv S Us hU E e8 hQ=>by
 have:=wN [] l vl j env σ a w D ι U h hv S Us hU E e8 hQ
 rwa [List.append_nil]at this
end
end Go.Proofs.YtakkdjfmiffbfaaGreatDoor.V

namespace Go.Proofs.YtakkdjfmiffbfaaGreatDoor.V
open Go.RowKit
variable {P:Program} {w w':World} {D D' D2:Nat->Prop} {ι ι' ι2:Names}
section
variable {hs:Nat} {X:fU}
theorem cJ {env iR:Env} {x:O} (h:∀t∈gI x,env t=iR t):cY env x=cY iR x:=by
 cases x with
 |t n=>exact h n (by simp[gI])
 |_=>rfl
theorem map_congr {env iR:Env} {l:List O} (h:∀t∈l.flatMap gI,env t=iR t):l.map (cY env)=l.map (cY iR):=
 List.map_congr_left fun x hx=>cJ fun t ht=>h t (List.mem_flatMap.2 ⟨x,hx,ht⟩)
theorem pd {env iR:Env} {x:Option O} (h:∀t∈wO x,env t=iR t):x.map (cY env)=x.map (cY iR):=by
 cases x with
 |none=>rfl
 |some y=>simp only[Option.map_some];rw[cJ h]
theorem sJ {env iR:Env} {o:gr} {g:Rows} {id:Id} (h:∀t∈o.gz,env t=iR t):dZ o (cY env) g id=dZ o (cY iR) g id:=by
 cases o<;>simp only[gr.gz,List.mem_append]at h<;>simp only[dZ]
 case gy x=>rw[cJ h]
 case pick c a b=>rw[cJ (x:=c) fun t ht=>h t (.inl (.inl ht)),cJ (x:=a) fun t ht=>h t (.inl (.inr ht)),cJ (x:=b) fun t ht=>h t (.inr ht)]
 case box x=>rw[cJ h]
 case build z ps=>
  have:(ps.map fun(x:Nat×Nat×O)=>(x.1,x.2.1,cY env x.2.2))=ps.map fun(x:Nat×Nat×O)=>(x.1,x.2.1,cY iR x.2.2):=List.map_congr_left fun x hx=>by
   rw[cJ (x:=x.2.2) fun t ht=>h t (List.mem_flatMap.2 ⟨x,hx,ht⟩)]
  rw[this]
 case nW a b l=>rw[map_congr h]
 case load a n x=>rw[cJ h]
 case H8 x=>rw[cJ h]
 case bin a b x y=>rw[cJ (x:=x) fun t ht=>h t (.inl ht),cJ (x:=y) fun t ht=>h t (.inr ht)]
 case sh a x y=>rw[cJ (x:=x) fun t ht=>h t (.inl ht),cJ (x:=y) fun t ht=>h t (.inr ht)]
 case Mb a x y=>rw[cJ (x:=x) fun t ht=>h t (.inl ht),cJ (x:=y) fun t ht=>h t (.inr ht)]
 case UQ a b x y=>rw[cJ (x:=x) fun t ht=>h t (.inl ht),cJ (x:=y) fun t ht=>h t (.inr ht)]
 case UO a b x y=>rw[cJ (x:=x) fun t ht=>h t (.inl ht),cJ (x:=y) fun t ht=>h t (.inr ht)]
 case Si a b x=>rw[cJ h]
 case UP a x=>rw[cJ h]
 case not x=>rw[cJ h]
 case neg x=>rw[cJ h]
 case conv k x=>rw[cJ h]
 case Ff x=>rw[cJ h]
 case slice s x lo hi=>rw[cJ (x:=x) fun t ht=>h t (.inl (.inl ht)),pd (x:=lo) fun t ht=>h t (.inl (.inr ht)),pd (x:=hi) fun t ht=>h t (.inr ht)]
 case AG x lo hi=>rw[cJ (x:=x) fun t ht=>h t (.inl (.inl ht)),pd (x:=lo) fun t ht=>h t (.inl (.inr ht)),pd (x:=hi) fun t ht=>h t (.inr ht)]
 case k8 k x=>rw[cJ h]
 case field a b c x=>rw[cJ h]
 case lf s x y=>rw[cJ (x:=x) fun t ht=>h t (.inl ht),cJ (x:=y) fun t ht=>h t (.inr ht)]
 case MS n s x y=>rw[cJ (x:=x) fun t ht=>h t (.inl ht),cJ (x:=y) fun t ht=>h t (.inr ht)]
 case MU x y=>rw[cJ (x:=x) fun t ht=>h t (.inl ht),cJ (x:=y) fun t ht=>h t (.inr ht)]
 case eF a b c x y=>rw[cJ (x:=x) fun t ht=>h t (.inl ht),cJ (x:=y) fun t ht=>h t (.inr ht)]
 case extract i x=>rw[cJ h]
 case len x=>rw[cJ h]
 case M5 x=>rw[cJ h]
 case Kj x=>rw[cJ h]
 case Kb x=>rw[cJ h]
 case Na f l=>rw[map_congr h]
 case Nb f l=>rw[map_congr h]
 case mq f l=>rw[map_congr h]
 case pb z x y=>rw[cJ (x:=x) fun t ht=>h t (.inl ht),cJ (x:=y) fun t ht=>h t (.inr ht)]
theorem gU {env iR:Env} {o:gr} {g:Rows} {id:Id} (h:∀t∈o.gz,env t=iR t):eE o (cY env) g id=eE o (cY iR) g id:=by
 cases o<;>simp only[gr.gz,List.mem_append]at h<;>simp only[eE]
 case clear z x=>rw[cJ h]
 case mw f l=>rw[map_congr h]
 all_goals rename_i a x y
 all_goals rw[cJ (x:=x) fun t ht=>h t (.inl ht),cJ (x:=y) fun t ht=>h t (.inr ht)]
theorem IH {n:Nat} {vo:cK} {env iR:Env} {g g':Rows} {v:AV} (h:∀t∈vo.op.gz,env t=iR t) (hv:VS X n vo env g v g'):VS X n vo iR g v g':=by
 unfold VS at hv ⊢
 split at hv
 ·rename_i f args eu
  rw[eu]at h
  simp only[gr.gz]at h
  rw[<-map_congr h];exact hv
 ·rename_i x args eu
  rw[eu]at h
  simp only[gr.gz,List.mem_append]at h
  rw[<-map_congr (l:=args) fun t ht=>h t (.inr ht),<-cJ (x:=x) fun t ht=>h t (.inl ht)];exact hv
 ·rw[<-gU h];exact hv
 ·rw[<-gU h];exact hv
 ·rw[<-gU h];exact hv
 ·rw[<-gU h];exact hv
 ·rw[<-gU h];exact hv
 ·rw[<-sJ h];exact hv
theorem Ee {q:MQ} {vs:List AV} {g:Rows} {id:Id} {v:AV} {r:Row} (h:bd q vs g id=some (v,some r)):∃m,q=.new m:=by
 unfold bd at h
 split at h
 ·exact⟨_,rfl⟩
 ·simp[Option.bind_eq_some_iff]at h
 ·simp at h
 ·cases h
theorem wT {o:gr} {ρ:O->AV} {g:Rows} {id:Id} {v:AV} {r:Row} (h:dZ o ρ g id=some (v,some r)):qc o=true:=by
 cases o<;>simp only[dZ]at h<;>(try rfl)<;>(try simp at h)
 case mq q xs=>obtain⟨m,rfl⟩:=Ee h;rfl
 all_goals (try(split at h<;>simp at h))
theorem wU {o:gr} {ρ:O->AV} {g g2:Rows} {id id2:Id} (h:o.cls=.pure):dZ o ρ g id=dZ o ρ g2 id2:=by
 cases o<;>(try simp[gr.cls]at h)<;>(try simp only[dZ])
 case mq q xs=>cases q<;>simp[gr.cls]at h
theorem uP {n:Nat} {vo:cK} {env:Env} {g g':Rows} {v:AV} (hw:vo.op.cls≠.write) (hv:VS X n vo env g v g'):∃mr,g'=jg g ⟨vo.site,n⟩ mr/\(mr≠none->vo.makes=true)/\∀g0,eC vo.hid n g0=eC vo.hid n g->VS X n vo env g0 v (jg g0 ⟨vo.site,n⟩ mr):=by
 unfold VS at hv
 split at hv
 ·rename_i f args eu
  rcases hv with⟨h1,rfl⟩|⟨hs,sz,rows,hM,rfl,rfl⟩
  ·refine⟨none,rfl,fun h=>(h rfl).elim,fun g0 h0=>?_⟩
   unfold VS;rw[eu];simp only;unfold u9;rw[h0];exact .inl ⟨h1,rfl⟩
  ·refine⟨some _,rfl,fun _=>by unfold cK.makes;rw[eu,hs];simp[gr.lz],fun g0 h0=>?_⟩
   unfold VS;rw[eu];simp only;unfold u9;rw[h0];exact .inr ⟨hs,sz,rows,hM,rfl,rfl⟩
 ·rename_i x args eu
  obtain⟨f,dJ,hx,hv⟩:=hv
  rcases hv with⟨h1,rfl⟩|⟨hs,sz,rows,hM,rfl,rfl⟩
  ·refine⟨none,rfl,fun h=>(h rfl).elim,fun g0 h0=>?_⟩
   unfold VS;rw[eu];simp only;unfold u9;rw[h0];exact⟨f,dJ,hx,.inl ⟨h1,rfl⟩⟩
  ·refine⟨some _,rfl,fun _=>by unfold cK.makes;rw[eu,hs];simp[gr.lz],fun g0 h0=>?_⟩
   unfold VS;rw[eu];simp only;unfold u9;rw[h0];exact⟨f,dJ,hx,.inr ⟨hs,sz,rows,hM,rfl,rfl⟩⟩
 ·rename_i eu;rw[eu]at hw;exact(hw rfl).elim
 ·rename_i eu;rw[eu]at hw;exact(hw rfl).elim
 ·rename_i eu;rw[eu]at hw;exact(hw rfl).elim
 ·rename_i eu;rw[eu]at hw;exact(hw rfl).elim
 ·rename_i eu;rw[eu]at hw;exact(hw rfl).elim
 ·rename_i n1 n2 n3 n4 n5 n6 n7
  obtain⟨mr,hq,rfl⟩:=hv
  refine⟨mr,rfl,fun h=>?_,fun g0 h0=>?_⟩
  ·cases mr with
   |none=>exact(h rfl).elim
   |some r=>unfold cK.makes;rw[wT hq];rfl
  ·unfold VS
   split
   ·rename_i hh;exact(n1 _ _ hh).elim
   ·rename_i hh;exact(n2 _ _ hh).elim
   ·rename_i hh;exact(n3 _ _ _ hh).elim
   ·rename_i hh;exact(n4 _ _ _ hh).elim
   ·rename_i hh;exact(n5 _ _ _ hh).elim
   ·rename_i hh;exact(n6 _ _ hh).elim
   ·rename_i hh;exact(n7 _ _ hh).elim
   ·rw[h0];exact⟨mr,hq,rfl⟩
theorem zz {n:Nat} {vo:cK} {env:Env} {g g':Rows} {v:AV} (hp:vo.op.cls=.pure) (hv:VS X n vo env g v g'):g'=g/\∀g0,VS X n vo env g0 v g0:=by
 unfold VS at hv
 split at hv
 ·rename_i eu;rw[eu]at hp;simp[gr.cls]at hp
 ·rename_i eu;rw[eu]at hp;simp[gr.cls]at hp
 ·rename_i eu;rw[eu]at hp;simp[gr.cls]at hp
 ·rename_i eu;rw[eu]at hp;simp[gr.cls]at hp
 ·rename_i eu;rw[eu]at hp;simp[gr.cls]at hp
 ·rename_i eu;rw[eu]at hp;simp[gr.cls]at hp
 ·rename_i eu;rw[eu]at hp;simp[gr.cls]at hp
 ·rename_i n1 n2 n3 n4 n5 n6 n7
  obtain⟨mr,hq,rfl⟩:=hv
  have W5:mr=none:=by
   cases mr with
   |none=>rfl
   |some r=>have:=wT hq;simp[qc,hp]at this
  subst W5
  refine⟨rfl,fun g0=>?_⟩
  unfold VS
  split
  ·rename_i hh;exact(n1 _ _ hh).elim
  ·rename_i hh;exact(n2 _ _ hh).elim
  ·rename_i hh;exact(n3 _ _ _ hh).elim
  ·rename_i hh;exact(n4 _ _ _ hh).elim
  ·rename_i hh;exact(n5 _ _ _ hh).elim
  ·rename_i hh;exact(n6 _ _ hh).elim
  ·rename_i hh;exact(n7 _ _ hh).elim
  ·exact⟨none,by rw[wU hp];exact hq,rfl⟩
def GS (X:fU) (n:Nat) (vo:cK) (env:Env) (g:Rows) (v:AV) (g':Rows):Prop:=
 if ay vo.guard env then VS X n vo env g v g' else v=.undef/\g'=g
theorem CT {hid:List Nat} {g:Rows} {s n:Nat} {mr:Option Row} (h:mr≠none->hid.contains s=true):eC hid n (jg g ⟨s,n⟩ mr)=eC hid n g:=by
 cases mr with
 |none=>rfl
 |some r=>
  have hc:=h (by simp)
  cases hid with
  |nil=>simp at hc
  |cons a l=>
   funext i
   show(if (a::l).contains i.site=true/\i.cW=n then none else jg g ⟨s,n⟩ (some r) i)=if (a::l).contains i.site=true/\i.cW=n then none else g i
   by_cases hi:i=⟨s,n⟩
   ·subst hi;rw[if_pos ⟨hc,rfl⟩,if_pos ⟨hc,rfl⟩]
   ·simp only[jg,bH,if_neg hi]
theorem Gj {g:Rows} {i j:Id} (h:i≠j) (m1 m2:Option Row):jg (jg g i m1) j m2=jg (jg g j m2) i m1:=by
 cases m1<;>cases m2<;>simp only[jg]
 funext k
 simp only[bH]
 by_cases h1:k=i
 ·subst h1;rw[if_neg h,if_pos rfl];simp
 ·by_cases h2:k=j
  ·subst h2;simp[h1]
  ·simp[h1,h2]
theorem xn {env:Env} {d e:Option Nat} {v u:AV} (h:∀k,d=some k->e≠some k):upd (upd env d v) e u=upd (upd env e u) d v:=by
 cases d with
 |none=>rfl
 |some d=>
  cases e with
  |none=>rfl
  |some e=>
   have ig:d≠e:=fun he=>h d rfl (by rw[he])
   funext t
   simp only[upd]
   by_cases h1:t=d
   ·subst h1;rw[if_neg ig,if_pos rfl,if_pos rfl]
   ·by_cases h2:t=e
    ·subst h2;rw[if_pos rfl,if_neg h1,if_pos rfl]
    ·simp[h1,h2]
theorem mh {env:Env} {d:Option Nat} {v:AV} {l:List Nat} (h:∀k,d=some k->k∉l):∀t∈l,upd env d v t=env t:=by
 intro t ht
 cases d with
 |none=>rfl
 |some d=>
  have:t≠d:=fun he=>h d rfl (he▸ht)
  simp[upd,this]
structure C8 (x y:cK):Prop where
 xy:∀k,x.dst=some k->k∉y.gz
 yx:∀k,y.dst=some k->k∉x.gz
 dst:∀k,x.dst=some k->y.dst≠some k
 cls:clash x.op.cls y.op.cls=false
 hx:x.makes=true->y.hid.contains x.site=true
 hy:y.makes=true->x.hid.contains y.site=true
 site:x.site≠y.site
theorem C8.symm {x y:cK} (h:C8 x y):C8 y x:=
 ⟨h.yx,h.xy,fun k hk he=>h.dst k he hk,by have:=h.cls;revert this;cases x.op.cls<;>cases y.op.cls<;>simp[clash],h.hy,h.hx,fun e=>h.site e.symm⟩
theorem pU {x y:cK} (h:Fu x y=true):C8 x y:=by
 unfold Fu at h
 simp only[Bool.and_eq_true,Bool.not_eq_true',Bool.or_eq_true,bne_iff_ne]at h
 obtain⟨⟨⟨⟨h1,h2⟩,h3⟩,h4⟩,h5⟩:=h
 unfold sW at h1
 simp only[Bool.and_eq_true]at h1
 obtain⟨a1,a2⟩:=h1
 refine⟨fun k hk=>?_,fun k hk=>?_,fun k hk=>?_,h2,fun hm=>?_,fun hm=>?_,h5⟩
 ·rw[hk]at a1;simp at a1;exact a1.1
 ·rw[hk]at a2;simpa using a2
 ·rw[hk]at a1;simp at a1;exact a1.2
 ·rcases h3 with h3|h3
  ·rw[hm]at h3;cases h3
  ·exact h3
 ·rcases h4 with h4|h4
  ·rw[hm]at h4;cases h4
  ·exact h4
theorem rI {vo:cK} {t:Nat} (h:t∈vo.op.gz):t∈vo.gz:=List.mem_append_left _ h
theorem mO {vo:cK} {env iR:Env} (h:∀t∈vo.gz,env t=iR t):ay vo.guard env=ay vo.guard iR:=by
 unfold ay
 cases hg:vo.guard with
 |none=>rfl
 |some p=>
  obtain⟨t,b⟩:=p
  have:env t=iR t:=h t (List.mem_append_right _ (by rw[hg];simp))
  simp only[this]
theorem uI {n:Nat} {vo:cK} {env iR:Env} {g g':Rows} {v:AV} (h:∀t∈vo.gz,env t=iR t) (hv:GS X n vo env g v g'):GS X n vo iR g v g':=by
 unfold GS at hv ⊢
 rw[<-mO h]
 split at hv
 ·rename_i hw;rw[if_pos hw];exact IH (fun t ht=>h t (rI ht)) hv
 ·rename_i hw;rw[if_neg hw];exact hv
theorem EZ {n:Nat} {x y:cK} {env:Env} {g g1 g2:Rows} {v v':AV} (F:C8 x y) (h1:GS X n x env g v g1) (h2:GS X n y (upd env x.dst v) g1 v' g2):
  ∃DI,GS X n y env g v' DI/\GS X n x (upd env y.dst v') DI v g2/\upd (upd env x.dst v) y.dst v'=upd (upd env y.dst v') x.dst v:=by
 have JZ:=xn (env:=env) (v:=v) (u:=v') F.dst
 replace h2:GS X n y env g1 v' g2:=uI (mh F.xy) h2
 have back:∀{DI},GS X n x env DI v g2->GS X n x (upd env y.dst v') DI v g2:=fun h=>uI (fun t ht=>(mh F.yx t ht).symm) h
 unfold GS at h1 h2
 by_cases wx:ay x.guard env=true
 ·rw[if_pos wx]at h1
  by_cases wy:ay y.guard env=true
  ·rw[if_pos wy]at h2
   by_cases cx:x.op.cls=.write
   ·have cy:y.op.cls=.pure:=by
     have:=F.cls;rw[cx]at this
     cases hc:y.op.cls<;>simp[clash,hc]at this ⊢
    obtain⟨rfl,eJ⟩:=zz cy h2
    exact⟨g,by unfold GS;rw[if_pos wy];exact eJ g,back (by unfold GS;rw[if_pos wx];exact h1),JZ⟩
   ·by_cases cy:y.op.cls=.write
    ·have cx':x.op.cls=.pure:=by
      have:=F.cls;rw[cy]at this
      cases hc:x.op.cls<;>simp[clash,hc]at this ⊢
     obtain⟨rfl,eJ⟩:=zz cx' h1
     exact⟨g2,by unfold GS;rw[if_pos wy];exact h2,back (by unfold GS;rw[if_pos wx];exact eJ g2),JZ⟩
    ·obtain⟨mx,rfl,kx,VW⟩:=uP cx h1
     obtain⟨my,rfl,ky,Pb⟩:=uP cy h2
     have ig:(⟨x.site,n⟩:Id)≠⟨y.site,n⟩:=fun e=>F.site (by injection e)
     refine⟨jg g ⟨y.site,n⟩ my,?_,back ?_,JZ⟩
     ·unfold GS;rw[if_pos wy]
      exact Pb g (CT fun h=>F.hx (kx h)).symm
     ·unfold GS;rw[if_pos wx,Gj ig]
      exact VW _ (CT fun h=>F.hy (ky h))
  ·rw[if_neg wy]at h2
   obtain⟨rfl,rfl⟩:=h2
   exact⟨g,by unfold GS;rw[if_neg wy];exact⟨rfl,rfl⟩,back (by unfold GS;rw[if_pos wx];exact h1),JZ⟩
 ·rw[if_neg wx]at h1
  obtain⟨rfl,rfl⟩:=h1
  exact⟨g2,h2,back (by unfold GS;rw[if_neg wx];exact⟨rfl,rfl⟩),JZ⟩
end
end Go.Proofs.YtakkdjfmiffbfaaGreatDoor.V

namespace Go.Proofs.YtakkdjfmiffbfaaGreatDoor.V
open Go.RowKit
variable {P:Program} {w w':World} {D D' D2:Nat->Prop} {ι ι' ι2:Names}
section
variable {hs:Nat} {X:fU}
def jh (acc:Array Nat) (o:Oper):Nat:=o.after.foldl (fun s e=>if Region.binds .any e then s|||2 ^ e.on|||acc.getD e.on 0 else s) 0
theorem L1 (ops:Array Oper):jb ops=ops.foldl (fun acc o=>acc.push (jh acc o)) #[]:=rfl
theorem Bc {acc:Array Nat} {o:Oper} {i:Nat} (h:(jh acc o).testBit i=true):∃e∈o.after,Region.binds .any e=true/\(e.on=i∨(acc.getD e.on 0).testBit i=true):=by
 unfold jh at h
 rw[<-Array.foldl_toList]at h
 have gen:∀(l:List Edge) (s:Nat),(l.foldl (fun s e=>if Region.binds .any e then s|||2 ^ e.on|||acc.getD e.on 0 else s) s).testBit i=true->s.testBit i=true∨∃e∈l,Region.binds .any e=true/\(e.on=i∨(acc.getD e.on 0).testBit i=true):=by
  intro l
  induction l with
  |nil=>intro s h;exact .inl h
  |cons e r ih=>
   intro s h
   rw[List.foldl_cons]at h
   rcases ih _ h with h|⟨e',Ig,h'⟩
   ·by_cases hb:Region.binds .any e=true
    ·rw[if_pos hb]at h
     simp only[Nat.testBit_or,Bool.or_eq_true]at h
     rcases h with(h|h)|h
     ·exact .inl h
     ·refine .inr ⟨e,by simp,hb,.inl ?_⟩
      rw[Nat.testBit_two_pow]at h
      simpa using h
     ·exact .inr ⟨e,by simp,hb,.inr h⟩
    ·rw[if_neg hb]at h;exact .inl h
   ·exact .inr ⟨e',List.mem_cons_of_mem _ Ig,h'⟩
 rcases gen _ _ h with h|⟨e,he,h⟩
 ·simp at h
 ·exact⟨e,Array.mem_toList_iff.1 he,h⟩
theorem IT {ops:Array Oper} {j i:Nat} (h:((jb ops).getD j 0).testBit i=true):∃o,ops[j]? =some o/\∃e∈o.after,Region.binds .any e=true/\(e.on=i∨((jb ops).getD e.on 0).testBit i=true):=by
 have key:∀(l pre:List Oper) (acc:Array Nat),acc.size=pre.length->(∀j i,(acc.getD j 0).testBit i=true->∃o,pre[j]? =some o/\∃e∈o.after,Region.binds .any e=true/\(e.on=i∨(acc.getD e.on 0).testBit i=true))->
   ∀j i,((l.foldl (fun acc o=>acc.push (jh acc o)) acc).getD j 0).testBit i=true->∃o,(pre++l)[j]? =some o/\∃e∈o.after,Region.binds .any e=true/\(e.on=i∨((l.foldl (fun acc o=>acc.push (jh acc o)) acc).getD e.on 0).testBit i=true):=by
  intro l
  induction l with
  |nil=>intro pre acc _ h j i hb;simpa using h j i hb
  |cons o r ih=>
   intro pre acc e8 h j i hb
   have Cs:∀k,k<acc.size->(acc.push (jh acc o)).getD k 0=acc.getD k 0:=fun k hk=>by
    simp only[Array.getD_eq_getD_getElem?,Array.getElem?_push]
    rw[if_neg ab]
   have big:∀k,acc.size<=k->acc.getD k 0=0:=fun k hk=>by simp[Array.getElem?_eq_none hk]
   have lift:∀k i,(acc.getD k 0).testBit i=true->((acc.push (jh acc o)).getD k 0).testBit i=true:=fun k i hk=>by
    by_cases eR:k<acc.size
    ·rw[Cs k eR];exact hk
    ·rw[big k ab]at hk;simp at hk
   have:=ih (pre++[o]) (acc.push (jh acc o)) (by simp[e8]) (fun j i hb=>by
    by_cases eR:j<acc.size
    ·rw[Cs j eR]at hb
     obtain⟨o',AP,e,he,rW,h2⟩:=h j i hb
     refine⟨o',by rw[List.getElem?_append_left ab];exact AP,e,he,rW,?_⟩
     rcases h2 with h2|h2
     ·exact .inl h2
     ·exact .inr (lift _ _ h2)
    ·by_cases hj:j=acc.size
     ·subst hj
      have e0:(acc.push (jh acc o)).getD acc.size 0=jh acc o:=by simp
      rw[e0]at hb
      obtain⟨e,he,rW,h2⟩:=Bc hb
      refine⟨o,by rw[List.getElem?_append_right ab,e8];simp,e,he,rW,?_⟩
      rcases h2 with h2|h2
      ·exact .inl h2
      ·exact .inr (lift _ _ h2)
     ·have:(acc.push (jh acc o)).getD j 0=0:=by
       simp only[Array.getD_eq_getD_getElem?]
       rw[Array.getElem?_eq_none (by simp;omega)];rfl
      rw[this]at hb;simp at hb) j i (by simpa using hb)
   simpa using this
 rw[L1,<-Array.foldl_toList]at h ⊢
 have:=key ops.toList [] #[] rfl (fun j i h=>by simp at h) j i h
 simpa using this
def DC (ops:Array Oper) (listed:Array Bool):Prop:=∀k i,listed.getD k false=true->((jb ops).getD k 0).testBit i=true->listed.getD i false=true
theorem kH {ops:Array Oper} {listed:Array Bool} (h:DC ops listed) {j:Nat} (hj:j∈Region.ready .any ops listed):∀i,((jb ops).getD j 0).testBit i=true->listed.getD i false=true:=by
 intro i hb
 obtain⟨_,o,ho,eJ⟩:=mem_ready.1 hj
 obtain⟨o',AP,e,he,rW,h2⟩:=IT hb
 rw[ho]at AP;injection AP with AP;subst AP
 have hl:=eJ e he rW
 rcases h2 with h2|h2
 ·rw[<-h2];exact hl
 ·exact h _ _ hl h2
theorem DC.list {ops:Array Oper} {listed:Array Bool} (h:DC ops listed) {j:Nat} (hj:j∈Region.ready .any ops listed):DC ops (listed.setIfInBounds j true):=by
 intro k i hk hb
 by_cases hkj:k=j
 ·subst hkj;exact getD_set_true (kH h hj i hb)
 ·rw[getD_set_ne false (fun e=>hkj e.symm)]at hk
  exact getD_set_true (h k i hk hb)
theorem ja {ops:Array Oper} {listed:Array Bool} {j:Nat} (hj:j∈Region.ready .any ops listed):listed.getD j false=false:=by
 have h0:=(mem_ready.1 hj).1
 rcases Nat.lt_or_ge j listed.size with h|h
 ·simp[h]at h0 ⊢;exact h0
 ·simp[Array.getElem?_eq_none h]at h0
def Lh (X:fU) (n:Nat) (ops:Array Oper) (vl:List cK) (K:Env->Rows->Prop):Nat->Array Bool->Env->Rows->Prop
 |0,listed,env,g=>Region.ready .any ops listed=[]/\K env g
 |f+1,listed,env,g=>(Region.ready .any ops listed=[]->K env g)/\∀i∈Region.ready .any ops listed,∃vo,vl[i]? =some vo/\∃v g',GS X n vo env g v g'/\Lh X n ops vl K f (listed.setIfInBounds i true) (upd env vo.dst v) g'
theorem Bu {ops:Array Oper} {vl:List cK} (h:oc ops vl (jb ops)=true) {i j:Nat} {x y:cK} (hi:vl[i]? =some x) (hj:vl[j]? =some y) (Ab:i≠j) (h1:((jb ops).getD j 0).testBit i=false) (h2:((jb ops).getD i 0).testBit j=false):C8 x y:=by
 unfold oc at h
 simp only[Bool.and_eq_true,List.all_eq_true]at h
 obtain⟨_,h⟩:=h
 have mem:∀(k:Nat) (z:cK),vl[k]? =some z->(z,k)∈vl.zipIdx:=fun k z hk=>by
  rw[List.mem_iff_getElem?]
  exact⟨k,by simp[List.getElem?_zipIdx,hk]⟩
 rcases Nat.lt_or_gt_of_ne Ab with eR|MA
 ·have:=h _ (mem j y hj) _ (mem i x hi)
  simp only[eR,decide_true,Bool.not_true,Bool.false_or,h1]at this
  exact pU this
 ·have:=h _ (mem i x hi) _ (mem j y hj)
  simp only[MA,decide_true,Bool.not_true,Bool.false_or,h2]at this
  exact(pU this).symm
theorem EU {n:Nat} {ops:Array Oper} {vl:List cK} {K:Env->Rows->Prop} (Ac:oc ops vl (jb ops)=true) (hlen:vl.length=ops.size) {i:Nat} {vi:cK} (hi:vl[i]? =some vi) {v:AV}:∀(fuel:Nat) (listed:Array Bool) (env:Env) (g g1:Rows),
  DC ops listed->i∈Region.ready .any ops listed->GS X n vi env g v g1->Lh X n ops vl K fuel (listed.setIfInBounds i true) (upd env vi.dst v) g1->Lh X n ops vl K (fuel+1) listed env g:=by
 intro fuel
 induction fuel with
 |zero=>
  intro listed env g g1 _ hr hG H
  refine⟨fun h=>(by rw[h]at hr;cases hr),fun j hj=>?_⟩
  by_cases mj:j=i
  ·subst mj;exact⟨vi,hi,v,g1,hG,H⟩
  ·have:=ready_mono hj mj
   rw[H.1]at this;cases this
 |succ fuel ih=>
  intro listed env g g1 rX hr hG H
  refine⟨fun h=>(by rw[h]at hr;cases hr),fun j hj=>?_⟩
  by_cases mj:j=i
  ·subst mj;exact⟨vi,hi,v,g1,hG,H⟩
  ·obtain⟨vj,MN,v',g2,SC,H2⟩:=H.2 j (ready_mono hj mj)
   have b1:((jb ops).getD j 0).testBit i=false:=by
    cases hb:((jb ops).getD j 0).testBit i with
    |false=>rfl
    |true=>have:=kH rX hj i hb;rw[ja hr]at this;cases this
   have b2:((jb ops).getD i 0).testBit j=false:=by
    cases hb:((jb ops).getD i 0).testBit j with
    |false=>rfl
    |true=>have:=kH rX hr j hb;rw[ja hj]at this;cases this
   have F:=Bu Ac hi MN (fun e=>mj e.symm) b1 b2
   obtain⟨DI,q1,q2,q3⟩:=EZ F hG SC
   refine⟨vj,MN,v',DI,q1,ih _ _ _ g2 (rX.list hj) (ready_mono hr (fun e=>mj e.symm)) q2 ?_⟩
   rw[<-q3,Array.setIfInBounds_comm _ _ mj]
   exact H2
theorem O6 {n:Nat} {vo:cK} {env:Env} {g:Rows} {v:AV} {mr:Option Row} (h:dZ vo.op (cY env) (eC vo.hid n g) ⟨vo.site,n⟩=some (v,mr)):VS X n vo env g v (jg g ⟨vo.site,n⟩ mr):=by
 unfold VS
 split
 ·rename_i eu;rw[eu]at h;simp[dZ]at h
 ·rename_i eu;rw[eu]at h;simp[dZ]at h
 ·rename_i eu;rw[eu]at h;simp[dZ]at h
 ·rename_i eu;rw[eu]at h;simp[dZ]at h
 ·rename_i eu;rw[eu]at h;simp[dZ]at h
 ·rename_i eu;rw[eu]at h;simp[dZ]at h
 ·rename_i eu;rw[eu]at h;simp[dZ]at h
 ·exact⟨mr,h,rfl⟩
theorem II {n:Nat} {vo:cK} {env:Env} {g g':Rows} {v:AV} (h:eE vo.op (cY env) g ⟨vo.site,n⟩=some (v,g')):VS X n vo env g v g':=by
 unfold VS
 split
 ·rename_i eu;rw[eu]at h;simp[eE]at h
 ·rename_i eu;rw[eu]at h;simp[eE]at h
 ·exact h
 ·exact h
 ·exact h
 ·exact h
 ·exact h
 ·rename_i n1 n2 n3 n4 n5 n6 n7
  exfalso
  unfold eE at h
  split at h
  ·rename_i hh;exact n3 _ _ _ hh
  ·rename_i hh;exact n4 _ _ _ hh
  ·rename_i hh;exact n5 _ _ _ hh
  ·rename_i hh;exact n6 _ _ hh
  ·rename_i hh;exact n7 _ _ hh
  ·simp at h
theorem Q8 {vo:cK} {env:Env} {σ:aq} {next:AV->aq->Prop} (hv:ew X true vo env σ next):∃v g',VS X σ.next vo env σ.get v g'/\next v ⟨g',σ.next⟩:=by
 unfold ew at hv
 split at hv
 ·rename_i f args eu
  rcases hv with⟨r,hP,hn⟩|⟨h,_⟩|⟨hs,sz,rows,hM,hn⟩
  ·exact⟨r,σ.get,by unfold VS;rw[eu];exact .inl ⟨hP,rfl⟩,hn⟩
  ·cases h
  ·exact⟨_,_,by unfold VS;rw[eu];exact .inr ⟨hs,sz,rows,hM,rfl,rfl⟩,hn⟩
 ·rename_i x args eu
  split at hv
  ·rename_i f dJ hx
   have AR:u7 (cY env x) (args.map (cY env))=some (f,args.map (cY env)++dJ):=by rw[hx];rfl
   rcases hv with⟨r,hP,hn⟩|⟨h,_⟩|⟨hs,sz,rows,hM,hn⟩
   ·exact⟨r,σ.get,by unfold VS;rw[eu];exact⟨f,_,AR,.inl ⟨hP,rfl⟩⟩,hn⟩
   ·cases h
   ·exact⟨_,_,by unfold VS;rw[eu];exact⟨f,_,AR,.inr ⟨hs,sz,rows,hM,rfl,rfl⟩⟩,hn⟩
  ·rename_i f dJ hx
   have AR:u7 (cY env x) (args.map (cY env))=some (f,dJ++args.map (cY env)):=by rw[hx];rfl
   rcases hv with⟨r,hP,hn⟩|⟨h,_⟩|⟨hs,sz,rows,hM,hn⟩
   ·exact⟨r,σ.get,by unfold VS;rw[eu];exact⟨f,_,AR,.inl ⟨hP,rfl⟩⟩,hn⟩
   ·cases h
   ·exact⟨_,_,by unfold VS;rw[eu];exact⟨f,_,AR,.inr ⟨hs,sz,rows,hM,rfl,rfl⟩⟩,hn⟩
  ·exact hv.elim
 ·split at hv
  ·rename_i v g h;exact⟨v,g,II h,hv⟩
  ·exact hv.elim
 ·split at hv
  ·rename_i v g h;exact⟨v,g,II h,hv⟩
  ·exact hv.elim
 ·split at hv
  ·rename_i v g h;exact⟨v,g,II h,hv⟩
  ·exact hv.elim
 ·split at hv
  ·rename_i v g h;exact⟨v,g,II h,hv⟩
  ·exact hv.elim
 ·split at hv
  ·rename_i v g h;exact⟨v,g,II h,hv⟩
  ·exact hv.elim
 ·split at hv
  ·rename_i v r h;exact⟨v,_,O6 h,hv⟩
  ·rename_i v h;exact⟨v,_,O6 h,hv⟩
  ·exact hv.elim
theorem xp {ops:Array Oper} {vl:List cK} {K:Env->aq->Prop} {n:Nat} (Ac:oc ops vl (jb ops)=true) (hlen:vl.length=ops.size):∀(r:List cK) (k:Nat) (listed:Array Bool) (env:Env) (g:Rows),
  (∀j,r[j]? =vl[k+j]?)->listed.size=ops.size->(∀i,i<ops.size->listed[i]? =some (decide (i<k)))->k+r.length=ops.size->DC ops listed->wpOps X true r K env ⟨g,n⟩->Lh X n ops vl (fun env g=>K env ⟨g,n+1⟩) r.length listed env g
 |[],k,listed,env,g,_,e8,hl,hk,_,hv=>by
  refine⟨?_,hv⟩
  rw[List.eq_nil_iff_forall_not_mem]
  intro j hj
  obtain⟨h0,o,ho,_⟩:=mem_ready.1 hj
  have eR:j<ops.size:=(Array.getElem?_eq_some_iff.1 ho).1
  have:=hl j eR
  simp at hk
  simp[this,show j<k by omega]at h0
 |vo::r,k,listed,env,g,hr,e8,hl,hk,rX,hv=>by
  simp only[List.length_cons]at hk
  have qW:vl[k]? =some vo:=by simpa using(hr 0).symm
  have ko:k<ops.size:=ab
  have JS:k∈Region.ready .any ops listed:=by
   rw[mem_ready]
   refine⟨by simp[hl k ko],ops[k],Array.getElem?_eq_getElem ko,fun e he hb=>?_⟩
   unfold oc Fg at Ac
   simp only[Bool.and_eq_true,List.all_eq_true]at Ac
   have hm:(ops[k],k)∈ops.toList.zipIdx:=by
    rw[List.mem_iff_getElem?]
    exact⟨k,by simp[List.getElem?_zipIdx,ko]⟩
   have:=Ac.1 _ hm
   rw[Array.all_eq_true_iff_forall_mem]at this
   have:=this e he
   simp only[hb,Bool.not_true,Bool.false_or,decide_eq_true_eq]at this
   simp[hl e.on ab,this]
  have hGS:∃v g',GS X n vo env g v g'/\wpOps X true r K (upd env vo.dst v) ⟨g',n⟩:=by
   unfold wpOps at hv
   unfold GS
   split at hv
   ·rename_i hw
    simp only[hw,if_true]
    exact Q8 hv
   ·rename_i hw
    simp only[hw]
    exact⟨.undef,g,⟨rfl,rfl⟩,hv⟩
  obtain⟨v,g',h1,h2⟩:=hGS
  refine EU Ac hlen qW r.length listed env g g' rX JS h1 ?_
  refine xp Ac hlen r (k+1) _ _ _ (fun j=>by have:=hr (j+1);simpa[Nat.add_assoc,Nat.add_comm 1 j]using this) (by simp[e8]) (fun i hi=>?_) ab (rX.list JS) h2
  by_cases C0:i=k
  ·subst C0;simp[e8,ko]
  ·rw[Array.getElem?_setIfInBounds_ne (fun e=>C0 e.symm),hl i hi]
   congr 1
   have:(i<k)=(i<k+1):=by apply propext;omega
   simp[this]
theorem nT {f:Nat->Oper->Option cK}:∀{l:List Oper} {vl:List cK} {j:Nat},allM f l j=some vl->vl.length=l.length/\∀(i:Nat) (o:Oper),l[i]? =some o->∃vo,vl[i]? =some vo/\f (j+i) o=some vo
 |[],vl,j,h=>by simp[allM]at h;subst h;simp
 |o::l,vl,j,h=>by
  simp only[allM,Option.bind_eq_bind,Option.bind_eq_some_iff,Option.pure_def,Option.some.injEq]at h
  obtain⟨vo,qW,sY,rY,rfl⟩:=h
  obtain⟨h1,h2⟩:=nT rY
  refine⟨by simp[h1],fun i o' hi=>?_⟩
  cases i with
  |zero=>simp at hi;subst hi;exact⟨vo,rfl,qW⟩
  |succ i=>
   simp at hi
   obtain⟨q,hq,hf⟩:=h2 i o' hi
   exact⟨q,by simpa using hq,by rw[<-hf];congr 1;omega⟩
theorem ya {ops:Array Oper} {vl:List cK} {nt site0:Nat} {draw mk:Bool} {bs:Array Nat} {hidden:List (Nat×Bool)} {n:Nat} {K:Env->Rows->Prop} {Q:Exit->Act->World->Prop} (eJ:allM (kh P ops nt site0 draw mk bs hidden) ops.toList 0=some vl):
  ∀(fuel:Nat) (listed:Array Bool) (env:Env) (g:Rows) (a:Act) (w:World) (D:Nat->Prop) (ι:Names) (U:Nat->Prop),Lh (Sound P) n ops vl K fuel listed env g->fY P hs D ι g w->Used ι n U->(∀s,U s->∃i,s=site0+i/\listed.getD i false=true)->db P w D ι env a->a.tmps.size=nt->
  (∀iD g' a' w' D' ι' U',K iD g'->Step hs D ι w D' ι' w'->fY P hs D' ι' g' w'->Used ι' n U'->db P w' D' ι' iD a'->a'.tmps.size=nt->a'.defers=a.defers->Q .normal a' w')->wpAny P .any ops Q fuel listed a w:=by
 intro fuel
 induction fuel with
 |zero=>intro listed env g a w D ι U h S Us hU E e8 hQ;exact⟨h.1,hQ env g a w D ι U h.2 (Step.refl _ _ _ _) S Us E e8 rfl⟩
 |succ fuel ih=>
  intro listed env g a w D ι U h S Us hU E e8 hQ
  refine⟨fun hr=>hQ env g a w D ι U (h.1 hr) (Step.refl _ _ _ _) S Us E e8 rfl,fun i hi=>?_⟩
  obtain⟨vo,qW,v,g',hG,Oq⟩:=h.2 i hi
  obtain⟨_,o,ho,_⟩:=mem_ready.1 hi
  obtain⟨vo',Ah,SQ⟩:=(nT eJ).2 i o (by simpa using ho)
  rw[qW]at Ah;injection Ah with Ah;subst Ah
  rw[Nat.zero_add]at SQ
  obtain⟨hc,hd,B3,xK,hg⟩:=oY SQ
  have hw:=sZ (ops:=ops) (vo:=vo) E hg
  have WA:¬U vo.site:=fun hu=>by
   obtain⟨i',he,hl⟩:=hU _ hu
   have:i'=i:=ab
   subst this
   rw[ja hi]at hl;cases hl
  have jw:i<listed.size:=by
   have h0:=(mem_ready.1 hi).1
   rcases Nat.lt_or_ge i listed.size with h|h
   ·exact h
   ·simp[Array.getElem?_eq_none h]at h0
  unfold wpOp
  simp only[ho]
  rw[<-hw]
  unfold GS at hG
  by_cases G7:ay vo.guard env=true
  ·rw[if_pos G7]
   rw[if_pos G7]at hG
   refine .inl (A3 hc hG S Us WA E fun a' w' ⟨u,D',ι',ha,T,S',hR,U'⟩=>?_)
   subst ha
   refine ih _ _ _ _ w' D' ι' _ Oq S' U' (fun s Ad=>?_) (by rw[hd];exact iq (oh E T) hR xK e8) (by rw[fc];exact e8) fun iD g2 a2 w2 D2 ι2 U2 hk T2 S2 VV E2 nH DQ=>hQ iD g2 a2 w2 D2 ι2 U2 hk (T.trans T2) S2 VV E2 nH (DQ.trans (put_defers _ _ _))
   rcases Ad with h|h
   ·obtain⟨i',he,hl⟩:=hU _ h
    exact⟨i',he,getD_set_true hl⟩
   ·exact⟨i,by rw[h,B3],by simp[jw]⟩
  ·rw[if_neg G7]
   rw[if_neg G7]at hG
   obtain⟨rfl,rfl⟩:=hG
   refine ih _ _ _ _ w D ι U Oq S Us (fun s Ad=>?_) (by rw[hd];exact iq E dF.undef xK e8) (by rw[fc];exact e8) fun iD g2 a2 w2 D2 ι2 U2 hk T2 S2 VV E2 nH DQ=>hQ iD g2 a2 w2 D2 ι2 U2 hk T2 S2 VV E2 nH (DQ.trans (put_defers _ _ _))
   obtain⟨i',he,hl⟩:=hU _ Ad
   exact⟨i',he,getD_set_true hl⟩
end
end Go.Proofs.YtakkdjfmiffbfaaGreatDoor.V

namespace Go.Proofs.YtakkdjfmiffbfaaGreatDoor.V
open Go.RowKit
variable {P:Program} {w w':World} {D D' D2:Nat->Prop} {ι ι' ι2:Names}
section
variable {hs:Nat} {X:fU}
def pB (X:fU):Prop:=∀f args σ K K',(∀r σ',K r σ'->K' r σ')->X f args σ K->X f args σ K'
theorem kg:pB (Sound P):=fun _ _ _ _ _ hK h hs D ι w vs S U A=>
 (h hs D ι w vs S U A).mono fun _ _ ⟨r,g',n',D',ι',u,he,hk,rest⟩=>⟨r,g',n',D',ι',u,he,hK _ _ hk,rest⟩
def step (X:fU) (vo:cK) (N:Env->aq->Prop) (env:Env) (σ:aq):Prop:=
 if ay vo.guard env then ew X false vo env σ fun v σ'=>N (upd env vo.dst v) σ' else N (upd env vo.dst .undef) σ
theorem pR (hK:pB X) {draw:Bool} {hid:List Nat} {site f:Nat} {args:List AV} {σ:aq} {n n':AV->aq->Prop} (hn:∀v σ',n v σ'->n' v σ') (hp:bV X draw hid site f args σ n):bV X draw hid site f args σ n':=by
 rcases hp with⟨r,h1,h2⟩|⟨h1,h2⟩|⟨h1,sz,rows,h2,h3⟩
 ·exact .inl ⟨r,h1,hn _ _ h2⟩
 ·exact .inr (.inl ⟨h1,hK _ _ _ _ _ hn h2⟩)
 ·exact .inr (.inr ⟨h1,sz,rows,h2,hn _ _ h3⟩)
theorem CU (hK:pB X) {draw:Bool} {o:cK} {env:Env} {σ:aq} {n n':AV->aq->Prop} (hn:∀v σ',n v σ'->n' v σ') (hp:ew X draw o env σ n):ew X draw o env σ n':=by
 unfold ew at hp ⊢
 split at hp
 ·exact pR hK hn hp
 ·split at hp
  ·exact pR hK hn hp
  ·exact pR hK hn hp
  ·exact hp.elim
 ·split at hp
  ·exact hn _ _ hp
  ·exact hp.elim
 ·split at hp
  ·exact hn _ _ hp
  ·exact hp.elim
 ·split at hp
  ·exact hn _ _ hp
  ·exact hp.elim
 ·split at hp
  ·exact hn _ _ hp
  ·exact hp.elim
 ·split at hp
  ·exact hn _ _ hp
  ·exact hp.elim
 ·split at hp
  ·exact hn _ _ hp
  ·exact hn _ _ hp
  ·exact hp.elim
theorem jH (hK:pB X) {vo:cK} {N N':Env->aq->Prop} (h:∀e s,N e s->N' e s) {env:Env} {σ:aq} (hp:step X vo N env σ):step X vo N' env σ:=by
 unfold step at hp ⊢
 split at hp
 ·rename_i hw;rw[if_pos hw];exact CU hK (fun v σ'=>h _ _) hp
 ·rename_i hw;rw[if_neg hw];exact h _ _ hp
theorem HZ {env iR:Env} {vo:cK} {σ:aq} {n:AV->aq->Prop} (h:∀t∈vo.op.gz,env t=iR t) (hv:ew X false vo env σ n):ew X false vo iR σ n:=by
 unfold ew at hv ⊢
 split at hv
 ·rename_i f args eu
  rw[eu]at h
  simp only[gr.gz]at h
  rw[<-map_congr h];exact hv
 ·rename_i x args eu
  rw[eu]at h
  simp only[gr.gz,List.mem_append]at h
  rw[<-map_congr (l:=args) fun t ht=>h t (.inr ht),<-cJ (x:=x) fun t ht=>h t (.inl ht)];exact hv
 ·rw[<-gU h];exact hv
 ·rw[<-gU h];exact hv
 ·rw[<-gU h];exact hv
 ·rw[<-gU h];exact hv
 ·rw[<-gU h];exact hv
 ·rw[<-sJ h];exact hv
theorem ll {x:cK} (hq:kF x=true) {N:Env->aq->Prop} {env:Env} {σ:aq}:step X x N env σ↔∃v g',GS X σ.next x env σ.get v g'/\N (upd env x.dst v) ⟨g',σ.next⟩:=by
 unfold kF at hq
 simp only[Bool.and_eq_true,Bool.not_eq_true',bne_iff_ne]at hq
 obtain⟨hq1,MJ⟩:=hq
 unfold step GS
 by_cases hw:ay x.guard env=true
 ·rw[if_pos hw]
  simp only[hw,if_true]
  unfold ew
  split
  ·rename_i eu;simp[eu,gr.lz]at hq1
  ·rename_i eu;simp[eu,gr.lz]at hq1
  ·rename_i eu;simp[eu,gr.cls]at MJ
  ·rename_i eu;simp[eu,gr.cls]at MJ
  ·rename_i eu;simp[eu,gr.cls]at MJ
  ·rename_i eu;simp[eu,gr.cls]at MJ
  ·rename_i eu;simp[eu,gr.cls]at MJ
  ·rename_i n1 n2 n3 n4 n5 n6 n7
   have hVS:∀v g',VS X σ.next x env σ.get v g'↔∃mr,dZ x.op (cY env) (eC x.hid σ.next σ.get) ⟨x.site,σ.next⟩=some (v,mr)/\g'=jg σ.get ⟨x.site,σ.next⟩ mr:=fun v g'=>by
    unfold VS
    split
    ·rename_i hh;exact(n1 _ _ hh).elim
    ·rename_i hh;exact(n2 _ _ hh).elim
    ·rename_i hh;exact(n3 _ _ _ hh).elim
    ·rename_i hh;exact(n4 _ _ _ hh).elim
    ·rename_i hh;exact(n5 _ _ _ hh).elim
    ·rename_i hh;exact(n6 _ _ hh).elim
    ·rename_i hh;exact(n7 _ _ hh).elim
    ·exact Iff.rfl
   simp only[hVS]
   cases hz:dZ x.op (cY env) (eC x.hid σ.next σ.get) ⟨x.site,σ.next⟩with
   |none=>
    exact⟨fun h=>h.elim,fun⟨v,g',⟨mr,h,_⟩,_⟩=>by cases h⟩
   |some p=>
    obtain⟨v,mr⟩:=p
    have key:∀(v':AV) (g':Rows),(∃RQ,some (v,mr)=some (v',RQ)/\g'=jg σ.get ⟨x.site,σ.next⟩ RQ)↔v'=v/\g'=jg σ.get ⟨x.site,σ.next⟩ mr:=fun v' g'=>by
     constructor
     ·rintro⟨RQ,h1,h2⟩
      injection h1 with h1;injection h1 with h1 h3
      subst h1;subst h3
      exact⟨rfl,h2⟩
     ·rintro⟨rfl,rfl⟩;exact⟨mr,rfl,rfl⟩
    have fin:(∃v' g',(∃RQ,some (v,mr)=some (v',RQ)/\g'=jg σ.get ⟨x.site,σ.next⟩ RQ)/\N (upd env x.dst v') ⟨g',σ.next⟩)↔N (upd env x.dst v) ⟨jg σ.get ⟨x.site,σ.next⟩ mr,σ.next⟩:=by
     constructor
     ·rintro⟨v',g',h,hN⟩
      obtain⟨rfl,rfl⟩:=(key v' g').1 h
      exact hN
     ·intro hN;exact⟨v,_,(key _ _).2 ⟨rfl,rfl⟩,hN⟩
    cases mr with
    |none=>exact fin.symm
    |some r=>exact fin.symm
 ·rw[if_neg hw]
  simp only[if_neg hw]
  exact⟨fun h=>⟨_,_,⟨rfl,rfl⟩,h⟩,fun⟨v,g',⟨hv,hg⟩,h⟩=>by rw[hv,hg]at h;exact h⟩
def xv (x:cK) (env:Env) (v:AV):Prop:=if ay x.guard env then dZ x.op (cY env) (fun _=>none) ⟨0,0⟩=some (v,none)else v=.undef
theorem wQ {x:cK} (hp:x.op.cls=.pure):kF x=true:=by
 unfold kF
 rw[hp]
 cases hc:x.op<;>simp[hc,gr.cls]at hp<;>rfl
theorem sR {x:cK} (hp:x.op.cls=.pure) {N:Env->aq->Prop} {env:Env} {σ:aq}:step X x N env σ↔∃v,xv x env v/\N (upd env x.dst v) σ:=by
 rw[ll (wQ hp)]
 unfold GS xv
 by_cases hw:ay x.guard env=true
 ·simp only[hw,if_true]
  constructor
  ·rintro⟨v,g',h,hN⟩
   obtain⟨rfl,eJ⟩:=zz hp h
   refine⟨v,?_,hN⟩
   unfold VS at h
   split at h
   ·rename_i eu;rw[eu]at hp;simp[gr.cls]at hp
   ·rename_i eu;rw[eu]at hp;simp[gr.cls]at hp
   ·rename_i eu;rw[eu]at hp;simp[gr.cls]at hp
   ·rename_i eu;rw[eu]at hp;simp[gr.cls]at hp
   ·rename_i eu;rw[eu]at hp;simp[gr.cls]at hp
   ·rename_i eu;rw[eu]at hp;simp[gr.cls]at hp
   ·rename_i eu;rw[eu]at hp;simp[gr.cls]at hp
   ·obtain⟨mr,hq,_⟩:=h
    have W5:mr=none:=by
     cases mr with
     |none=>rfl
     |some r=>have:=wT hq;simp[qc,hp]at this
    subst W5
    rw[<-wU (g:=eC x.hid σ.next σ.get) (id:=⟨x.site,σ.next⟩) hp];exact hq
  ·rintro⟨v,h,hN⟩
   exact⟨v,σ.get,O6 (mr:=none) (by rw[wU (g2:=fun _=>none) (id2:=⟨0,0⟩) hp];exact h),hN⟩
 ·simp only[if_neg hw]
  exact⟨fun⟨v,g',⟨hv,hg⟩,h⟩=>⟨v,hv,by rw[hg]at h;exact h⟩,fun⟨v,hv,h⟩=>⟨v,σ.get,⟨hv,rfl⟩,h⟩⟩
theorem Lr {x:cK} {env iR:Env} {v:AV} (h:∀t∈x.gz,env t=iR t) (hv:xv x env v):xv x iR v:=by
 unfold xv at hv ⊢
 rw[<-mO h,<-sJ fun t ht=>h t (rI ht)];exact hv
structure NT (x y:cK):Prop where
 xy:∀k,x.dst=some k->k∉y.gz
 yx:∀k,y.dst=some k->k∉x.gz
 dst:∀k,x.dst=some k->y.dst≠some k
theorem rQ {x y:cK} (h:sW x y=true):NT x y:=by
 unfold sW at h
 simp only[Bool.and_eq_true]at h
 obtain⟨a1,a2⟩:=h
 refine⟨fun k hk=>?_,fun k hk=>?_,fun k hk=>?_⟩
 ·rw[hk]at a1;simp at a1;exact a1.1
 ·rw[hk]at a2;simpa using a2
 ·rw[hk]at a1;simp at a1;exact a1.2
theorem yu {x y:cK} (h:yq x y=true):(NT x y/\x.op.cls=.pure)∨(C8 x y/\kF x=true/\kF y=true):=by
 unfold yq at h
 simp only[Bool.or_eq_true,Bool.and_eq_true,beq_iff_eq]at h
 rcases h with⟨h1,h2⟩|⟨⟨h1,h2⟩,h3⟩
 ·exact .inl ⟨rQ h1,h2⟩
 ·exact .inr ⟨pU h1,h2,h3⟩
theorem BD {x y:cK} (h:yq x y=true):kF x=true:=by
 rcases yu h with h|h
 ·exact wQ h.2
 ·exact h.2.1
theorem HQ (hK:pB X) {x y:cK} (hf:yq x y=true) {N:Env->aq->Prop} {env:Env} {σ:aq} (h:step X x (fun e s=>step X y N e s) env σ):step X y (fun e s=>step X x N e s) env σ:=by
 rcases yu hf with⟨F,hp⟩|⟨F,hx,hy⟩
 ·rw[sR hp]at h
  obtain⟨v,hx,h⟩:=h
  have JZ:=fun(v':AV)=>xn (env:=env) (v:=v) (u:=v') F.dst
  have nP:=mh (env:=env) (v:=v) F.xy
  have back:∀(v':AV),xv x (upd env y.dst v') v:=fun v'=>Lr (fun t ht=>(mh F.yx t ht).symm) hx
  unfold step at h ⊢
  rw[mO nP]at h
  split at h
  ·rename_i hw
   rw[if_pos hw]
   refine CU hK (fun v' σ' hN=>?_) (HZ (fun t ht=>nP t (rI ht)) h)
   rw[JZ]at hN
   exact(sR hp).2 ⟨v,back v',hN⟩
  ·rename_i hw
   rw[if_neg hw]
   rw[JZ]at h
   exact(sR hp).2 ⟨v,back _,h⟩
 ·rw[ll hx]at h
  obtain⟨v,g1,h1,h⟩:=h
  rw[ll hy]at h
  obtain⟨v',g2,h2,h⟩:=h
  obtain⟨DI,q1,q2,q3⟩:=EZ F h1 h2
  rw[q3]at h
  exact(ll hy).2 ⟨v',DI,q1,(ll hx).2 ⟨v,g2,q2,h⟩⟩
def AL (X:fU) (ops:Array Oper) (vl:List cK) (K:Env->aq->Prop):Nat->Array Bool->Env->aq->Prop
 |0,listed,env,σ=>Region.ready .any ops listed=[]/\K env ⟨σ.get,σ.next+1⟩
 |f+1,listed,env,σ=>(Region.ready .any ops listed=[]->K env ⟨σ.get,σ.next+1⟩)/\∀i∈Region.ready .any ops listed,∃vo,vl[i]? =some vo/\step X vo (fun e s=>AL X ops vl K f (listed.setIfInBounds i true) e s) env σ
theorem Dw {ops:Array Oper} {vl:List cK} {bs:Array Nat} {listed:Array Bool} {i:Nat} (h:pT ops vl bs listed i=true) (j:Nat):pT ops vl bs (listed.setIfInBounds j true) i=true:=by
 unfold pT at h ⊢
 split at h
 ·rename_i x hx
  simp only[List.all_eq_true,Bool.or_eq_true]at h ⊢
  intro k hk
  rcases h k hk with((h|h)|h)|h
  ·exact .inl (.inl (.inl (getD_set_true h)))
  ·exact .inl (.inl (.inr h))
  ·exact .inl (.inr h)
  ·exact .inr h
 ·cases h
theorem s8 {ops:Array Oper} {vl:List cK} {listed:Array Bool} {i j:Nat} {vi:cK} (rX:DC ops listed) (h:pT ops vl (jb ops) listed i=true) (hi:vl[i]? =some vi) (hr:i∈Region.ready .any ops listed) (hj:j∈Region.ready .any ops listed) (mj:j≠i):∃vj,vl[j]? =some vj/\yq vi vj=true:=by
 unfold pT at h
 rw[hi]at h
 simp only[List.all_eq_true,Bool.or_eq_true,beq_iff_eq]at h
 obtain⟨_,o,ho,_⟩:=mem_ready.1 hj
 rcases h j (List.mem_range.2 (Array.getElem?_eq_some_iff.1 ho).1)with((h|h)|h)|h
 ·rw[ja hj]at h;cases h
 ·exact absurd h mj
 ·have:=kH rX hj i h
  rw[ja hr]at this;cases this
 ·split at h
  ·rename_i y hy;exact⟨y,hy,h⟩
  ·cases h
theorem EX (hK:pB X) {ops:Array Oper} {vl:List cK} {K:Env->aq->Prop} {i:Nat} {vi:cK} (hi:vl[i]? =some vi):∀(fuel:Nat) (listed:Array Bool) (env:Env) (σ:aq),
  DC ops listed->i∈Region.ready .any ops listed->pT ops vl (jb ops) listed i=true->step X vi (fun e s=>AL X ops vl K fuel (listed.setIfInBounds i true) e s) env σ->AL X ops vl K (fuel+1) listed env σ:=by
 intro fuel
 induction fuel with
 |zero=>
  intro listed env σ rX hr jP H
  refine⟨fun h=>(by rw[h]at hr;cases hr),fun j hj=>?_⟩
  by_cases mj:j=i
  ·subst mj;exact⟨vi,hi,H⟩
  ·obtain⟨vj,MN,SV⟩:=s8 rX jP hi hr hj mj
   rw[ll (BD SV)]at H
   obtain⟨v,g',_,H⟩:=H
   have:=ready_mono hj mj
   rw[H.1]at this;cases this
 |succ fuel ih=>
  intro listed env σ rX hr jP H
  refine⟨fun h=>(by rw[h]at hr;cases hr),fun j hj=>?_⟩
  by_cases mj:j=i
  ·subst mj;exact⟨vi,hi,H⟩
  ·obtain⟨vj,MN,SV⟩:=s8 rX jP hi hr hj mj
   refine⟨vj,MN,?_⟩
   have H2:step X vi (fun e s=>step X vj (fun e s=>AL X ops vl K fuel ((listed.setIfInBounds i true).setIfInBounds j true) e s) e s) env σ:=jH hK (fun e s h=>by
    obtain⟨vj',Af,h'⟩:=h.2 j (ready_mono hj mj)
    rw[MN]at Af;injection Af with Af;subst Af
    exact h') H
   refine jH hK (fun e s h=>?_) (HQ hK SV H2)
   refine ih _ _ _ (rX.list hj) (ready_mono hr (fun e=>mj e.symm)) (Dw jP j) ?_
   rw[Array.setIfInBounds_comm _ _ mj]
   exact h
theorem sP {x:cK} (hg:x.guard=none) {N:Env->aq->Prop} {env:Env} {σ:aq}:step X x N env σ=ew X false x env σ (fun v σ'=>N (upd env x.dst v) σ'):=by
 unfold step
 rw[hg]
 simp[ay]
theorem EJ {x y:cK} {t s sz:Nat} {ys:O} (hx:x.op=.append sz (.t t) ys) (hg:x.guard=none) (hf:Ft s x y=true) {N:Env->aq->Prop} {env:Env} {σ:aq} (hl:M6 t s ys env σ.next) (h:step X x (fun e s=>step X y N e s) env σ):
  step X y (fun e σ'=>M6 t s ys e σ'.next/\step X x N e σ') env σ:=by
 unfold Ft at hf
 simp only[Bool.and_eq_true,bne_iff_ne]at hf
 obtain⟨⟨⟨⟨⟨f1,hq⟩,f3⟩,f4⟩,f5⟩,f6⟩:=hf
 have F:=rQ f1
 obtain⟨⟨len,ht⟩,hsrc⟩:=hl
 have JW:∀k∈x.op.gz,∀v',upd env y.dst v' k=env k:=fun k hk v'=>mh (env:=env) (v:=v') F.yx k (rI hk)
 have ee:t∈x.op.gz:=by rw[hx];simp[gr.gz,gI]
 have C2:∀v',cY (upd env y.dst v') ys=cY env ys:=fun v'=>(cJ fun k hk=>by rw[JW k (by rw[hx];simp[gr.gz,hk])]).symm
 rw[sP hg]at h
 unfold ew at h
 simp only[hx,eE]at h
 have ex:cY env (.t t)=.own ⟨s,σ.next⟩ 0 len:=ht
 rw[ex]at h
 cases hr:aZ σ.get (cY env ys)with
 |none=>rw[hr]at h;exact h.elim
 |some rs=>
  rw[hr]at h
  simp only[Option.bind_some,aD]at h
  cases hgs:σ.get ⟨s,σ.next⟩with
  |none=>rw[hgs]at h;exact h.elim
  |some r=>
   rw[hgs]at h
   simp only[Option.bind_some]at h
   split at h
   ·rename_i v g1 hv
    split at hv
    ·rename_i hcond
     simp only[Option.some.injEq,Prod.mk.injEq]at hv
     obtain⟨rfl,rfl⟩:=hv
     rw[ll hq]at h
     obtain⟨v',g2,hG,hN⟩:=h
     have MC:(⟨y.site,σ.next⟩:Id)≠⟨s,σ.next⟩:=fun e=>f5 (by injection e)
     have JN:(⟨y.site,σ.next⟩:Id)≠⟨x.site,σ.next⟩:=fun e=>f6 (by injection e)
     replace hG:GS X σ.next y env (bH (bI σ.get ⟨s,σ.next⟩) ⟨x.site,σ.next⟩ ⟨true,sz,r.rows++rs⟩) v' g2:=uI (mh F.xy) hG
     have Xq:eC y.hid σ.next σ.get=eC y.hid σ.next (bH (bI σ.get ⟨s,σ.next⟩) ⟨x.site,σ.next⟩ ⟨true,sz,r.rows++rs⟩):=by
      cases hh:y.hid with
      |nil=>rw[hh]at f3;simp at f3
      |cons a l=>
       rw[hh]at f3 f4
       funext i
       show(if (a::l).contains i.site=true/\i.cW=σ.next then none else σ.get i)=if (a::l).contains i.site=true/\i.cW=σ.next then none else _
       by_cases h1:i=⟨x.site,σ.next⟩
       ·subst h1;rw[if_pos ⟨f4,rfl⟩,if_pos ⟨f4,rfl⟩]
       ·by_cases h2:i=⟨s,σ.next⟩
        ·subst h2;rw[if_pos ⟨f3,rfl⟩,if_pos ⟨f3,rfl⟩]
        ·simp only[bH,bI,if_neg h1,if_neg h2]
     obtain⟨my,My,hG'⟩:∃my,g2=jg (bH (bI σ.get ⟨s,σ.next⟩) ⟨x.site,σ.next⟩ ⟨true,sz,r.rows++rs⟩) ⟨y.site,σ.next⟩ my/\GS X σ.next y env σ.get v' (jg σ.get ⟨y.site,σ.next⟩ my):=by
      unfold GS at hG ⊢
      by_cases wy:ay y.guard env=true
      ·rw[if_pos wy]at hG
       have hcw:y.op.cls≠.write:=by
        unfold kF at hq
        simp only[Bool.and_eq_true,bne_iff_ne]at hq
        exact hq.2
       obtain⟨my,rfl,_,Pb⟩:=uP hcw hG
       exact⟨my,rfl,by rw[if_pos wy];exact Pb _ Xq⟩
      ·rw[if_neg wy]at hG
       obtain⟨rfl,rfl⟩:=hG
       exact⟨none,rfl,by rw[if_neg wy];exact⟨rfl,rfl⟩⟩
     subst My
     refine(ll hq).2 ⟨v',_,hG',⟨⟨len,by rw[JW t ee];exact ht⟩,fun id o l he=>hsrc id o l (by rw[<-C2 v'];exact he)⟩,?_⟩
     rw[sP hg]
     unfold ew
     have ex':cY (upd env y.dst v') (.t t)=.own ⟨s,σ.next⟩ 0 len:=by
      show upd env y.dst v' t= _
      rw[JW t ee];exact ht
     simp only[hx,eE,ex',C2 v']
     have nL:aZ (jg σ.get ⟨y.site,σ.next⟩ my) (cY env ys)=some rs:=by
      cases my with
      |none=>exact hr
      |some row=>
       revert hr
       cases hev:cY env ys<;>simp only[aZ,jg]<;>try exact fun h=>h
       rename_i id o l
       have:id≠⟨y.site,σ.next⟩:=fun e=>hsrc id o l hev (by rw[e])
       simp only[bH,if_neg this];exact fun h=>h
     have WM:jg σ.get ⟨y.site,σ.next⟩ my ⟨s,σ.next⟩=some r:=by
      cases my with
      |none=>exact hgs
      |some row=>simp only[jg,bH,if_neg (fun e=>MC e.symm:(⟨s,σ.next⟩:Id)≠⟨y.site,σ.next⟩)];exact hgs
     rw[nL]
     simp only[Option.bind_some,aD,WM]
     rw[if_pos hcond]
     have hgg:bH (bI (jg σ.get ⟨y.site,σ.next⟩ my) ⟨s,σ.next⟩) ⟨x.site,σ.next⟩ ⟨true,sz,r.rows++rs⟩=jg (bH (bI σ.get ⟨s,σ.next⟩) ⟨x.site,σ.next⟩ ⟨true,sz,r.rows++rs⟩) ⟨y.site,σ.next⟩ my:=by
      cases my with
      |none=>rfl
      |some row=>
       funext i
       simp only[jg,bH,bI]
       by_cases h1:i=⟨y.site,σ.next⟩
       ·subst h1;rw[if_neg JN,if_neg MC,if_pos rfl,if_pos rfl]
       ·simp only[if_neg h1]
     have hu:=xn (env:=env) (v:=AV.own ⟨x.site,σ.next⟩ 0 (len+rs.length)) (u:=v') F.dst
     show N (upd (upd env y.dst v') x.dst (.own ⟨x.site,σ.next⟩ 0 (len+rs.length))) ⟨bH (bI (jg σ.get ⟨y.site,σ.next⟩ my) ⟨s,σ.next⟩) ⟨x.site,σ.next⟩ ⟨true,sz,r.rows++rs⟩,σ.next⟩
     rw[hgg,<-hu]
     exact hN
    ·cases hv
   ·exact h.elim
theorem Dv {ops:Array Oper} {vl:List cK} {bs:Array Nat} {listed:Array Bool} {i s:Nat} (h:oi ops vl bs listed i s=true) (j:Nat):oi ops vl bs (listed.setIfInBounds j true) i s=true:=by
 unfold oi at h ⊢
 split at h
 ·rename_i x hx
  simp only[List.all_eq_true,Bool.or_eq_true]at h ⊢
  intro k hk
  rcases h k hk with((h|h)|h)|h
  ·exact .inl (.inl (.inl (getD_set_true h)))
  ·exact .inl (.inl (.inr h))
  ·exact .inl (.inr h)
  ·exact .inr h
 ·cases h
theorem Bz {ops:Array Oper} {vl:List cK} {listed:Array Bool} {i j s:Nat} {vi:cK} (rX:DC ops listed) (h:oi ops vl (jb ops) listed i s=true) (hi:vl[i]? =some vi) (hr:i∈Region.ready .any ops listed) (hj:j∈Region.ready .any ops listed) (mj:j≠i):∃vj,vl[j]? =some vj/\Ft s vi vj=true:=by
 unfold oi at h
 rw[hi]at h
 simp only[List.all_eq_true,Bool.or_eq_true,beq_iff_eq]at h
 obtain⟨_,o,ho,_⟩:=mem_ready.1 hj
 rcases h j (List.mem_range.2 (Array.getElem?_eq_some_iff.1 ho).1)with((h|h)|h)|h
 ·rw[ja hj]at h;cases h
 ·exact absurd h mj
 ·have:=kH rX hj i h
  rw[ja hr]at this;cases this
 ·split at h
  ·rename_i y hy;exact⟨y,hy,h⟩
  ·cases h
theorem CV (hK:pB X) {ops:Array Oper} {vl:List cK} {K:Env->aq->Prop} {i t s sz:Nat} {ys:O} {vi:cK} (hi:vl[i]? =some vi) (hx:vi.op=.append sz (.t t) ys) (hg:vi.guard=none):∀(fuel:Nat) (listed:Array Bool) (env:Env) (σ:aq),
  DC ops listed->i∈Region.ready .any ops listed->oi ops vl (jb ops) listed i s=true->M6 t s ys env σ.next->step X vi (fun e s=>AL X ops vl K fuel (listed.setIfInBounds i true) e s) env σ->AL X ops vl K (fuel+1) listed env σ:=by
 intro fuel
 induction fuel with
 |zero=>
  intro listed env σ rX hr jP RD H
  refine⟨fun h=>(by rw[h]at hr;cases hr),fun j hj=>?_⟩
  by_cases mj:j=i
  ·subst mj;exact⟨vi,hi,H⟩
  ·exfalso
   have h0:=ready_mono hj mj
   rw[sP hg]at H
   unfold ew at H
   simp only[hx]at H
   split at H
   ·rw[H.1]at h0;cases h0
   ·exact H
 |succ fuel ih=>
  intro listed env σ rX hr jP RD H
  refine⟨fun h=>(by rw[h]at hr;cases hr),fun j hj=>?_⟩
  by_cases mj:j=i
  ·subst mj;exact⟨vi,hi,H⟩
  ·obtain⟨vj,MN,SV⟩:=Bz rX jP hi hr hj mj
   refine⟨vj,MN,?_⟩
   have H2:step X vi (fun e s=>step X vj (fun e s=>AL X ops vl K fuel ((listed.setIfInBounds i true).setIfInBounds j true) e s) e s) env σ:=jH hK (fun e s h=>by
    obtain⟨vj',Af,h'⟩:=h.2 j (ready_mono hj mj)
    rw[MN]at Af;injection Af with Af;subst Af
    exact h') H
   refine jH hK (fun e s h=>?_) (EJ hx hg SV RD H2)
   refine ih _ _ _ (rX.list hj) (ready_mono hr (fun e=>mj e.symm)) (Dv jP j) h.1 ?_
   rw[Array.setIfInBounds_comm _ _ mj]
   exact h.2
theorem Kd {ops:Array Oper} {vl:List cK} {bs:Array Nat} {listed:Array Bool} {i i' t s:Nat} {y:O} {vo:cK} (h:QK ops vl bs listed i=some (i',t,s,y,vo)):i'=i/\vl[i]? =some vo/\(∃sz,vo.op=.append sz (.t t) y)/\vo.guard=none/\oi ops vl bs listed i s=true:=by
 unfold QK at h
 split at h
 ·rename_i x hx
  split at h
  ·rename_i t' s' y' lx
   split at h
   ·rename_i hf
    simp only[Option.some.injEq,Prod.mk.injEq]at h
    obtain⟨rfl,rfl,rfl,rfl,rfl⟩:=h
    unfold OA at lx
    split at lx
    ·rename_i sz t2 y2 ho z8
     split at lx
     ·simp only[Option.some.injEq,Prod.mk.injEq]at lx
      obtain⟨rfl,rfl,rfl⟩:=lx
      exact⟨rfl,hx,⟨sz,ho⟩,z8,hf⟩
     ·cases lx
    ·cases lx
   ·cases h
  ·cases h
 ·cases h
theorem yg {X:fU} {Q:Ex->Env->aq->Prop} {env:Env} {σ:aq}:∀{l:List VC} {t:VC},Bg l=some t->dL X t Q env σ->∀c∈l,dL X c Q env σ
 |[],t,h,_,c,hc=>by cases hc
 |[c0],t,h,hw,c,hc=>by
  simp only[Bg,Option.some.injEq]at h
  subst h
  rw[List.mem_singleton]at hc
  subst hc;exact hw
 |c0::c1::r,t,h,hw,c,hc=>by
  simp only[Bg,Option.map_eq_some_iff]at h
  obtain⟨t',Qw,rfl⟩:=h
  rcases List.mem_cons.1 hc with rfl|hc
  ·exact hw.1
  ·exact yg Qw hw.2 c hc
theorem mapM_mem {α β:Type} {f:α->Option β}:∀{l:List α} {r:List β},l.mapM f=some r->∀i∈l,∃b∈r,f i=some b
 |[],_,_,i,hi=>by cases hi
 |a::l,r,h,i,hi=>by
  simp only[List.mapM_cons,Option.bind_eq_bind,Option.bind_eq_some_iff,Option.pure_def,Option.some.injEq]at h
  obtain⟨b,hb,r',hr,rfl⟩:=h
  rcases List.mem_cons.1 hi with rfl|hi
  ·exact⟨b,by simp,hb⟩
  ·obtain⟨c,hc,hf⟩:=mapM_mem hr i hi
   exact⟨c,List.mem_cons_of_mem _ hc,hf⟩
theorem HW (hK:pB X) {ops:Array Oper} {vl:List cK} {Q:Ex->Env->aq->Prop}:∀(n:Nat) (listed:Array Bool) (t:VC) (env:Env) (σ:aq),tL ops vl (jb ops) n listed=some t->DC ops listed->dL X t Q env σ->AL X ops vl (Q .normal) n listed env σ:=by
 intro n
 induction n with
 |zero=>
  intro listed t env σ h _ hw
  unfold tL at h
  split at h
  ·rename_i hr
   simp only[Option.some.injEq]at h
   subst h
   exact⟨hr,hw⟩
  ·cases h
 |succ n ih=>
  intro listed t env σ h rX hw
  unfold tL at h
  split at h
  ·rename_i hr
   simp only[Option.some.injEq]at h
   subst h
   exact⟨fun _=>hw,fun i hi=>by rw[hr]at hi;cases hi⟩
  ·rename_i r rs hr
   dsimp only at h
   split at h
   ·rename_i i hfind
    have tU:=List.mem_of_find?_eq_some hfind
    have vU:=List.find?_some hfind
    rw[<-hr]at tU
    split at h
    ·rename_i vo qW
     simp only[Option.map_eq_some_iff]at h
     obtain⟨t',Qw,rfl⟩:=h
     exact EX hK qW n listed env σ rX tU vU (jH hK (fun e s h=>ih _ _ _ _ Qw (rX.list tU) h) hw)
    ·cases h
   ·split at h
    ·rename_i i t s y vo hfind
     obtain⟨i0,GY,eR⟩:=List.exists_of_findSome?_eq_some hfind
     obtain⟨rfl,qW,⟨sz,eu⟩,z8,JD⟩:=Kd eR
     rw[<-hr]at GY
     simp only[Option.map_eq_some_iff]at h
     obtain⟨t',Qw,rfl⟩:=h
     exact CV hK qW eu z8 n listed env σ rX GY JD hw.1 (jH hK (fun e s h=>ih _ _ _ _ Qw (rX.list GY) h) hw.2)
    split at h
    ·rename_i l hl
     have eJ:=yg h hw
     refine⟨fun h=>(by rw[h]at hr;cases hr),fun i hi=>?_⟩
     rw[hr]at hi
     obtain⟨b,P5,DP⟩:=mapM_mem hl i hi
     simp only[Option.bind_eq_some_iff,Option.map_eq_some_iff]at DP
     obtain⟨vo,qW,t',Qw,rfl⟩:=DP
     exact⟨vo,qW,jH hK (fun e s h=>ih _ _ _ _ Qw (rX.list (by rw[hr];exact hi)) h) (eJ _ P5)⟩
    ·cases h
theorem EP {ops:Array Oper} {vl:List cK} {nt site0:Nat} {draw mk:Bool} {bs:Array Nat} {hidden:List (Nat×Bool)} {K:Env->aq->Prop} {Q:Exit->Act->World->Prop} (eJ:allM (kh P ops nt site0 draw mk bs hidden) ops.toList 0=some vl):
  ∀(fuel:Nat) (listed:Array Bool) (env:Env) (σ:aq) (a:Act) (w:World) (D:Nat->Prop) (ι:Names) (U:Nat->Prop),AL (Sound P) ops vl K fuel listed env σ->fY P hs D ι σ.get w->Used ι σ.next U->(∀s,U s->∃i,s=site0+i/\listed.getD i false=true)->db P w D ι env a->a.tmps.size=nt->
  (∀iD σ' a' w' D' ι',K iD σ'->Step hs D ι w D' ι' w'->St P hs nt D' ι' iD σ' a' w'->a'.defers=a.defers->σ.next<=σ'.next->Q .normal a' w')->wpAny P .any ops Q fuel listed a w:=by
 intro fuel
 induction fuel with
 |zero=>intro listed env σ a w D ι U h S Us hU E e8 hQ;exact⟨h.1,hQ env _ a w D ι h.2 (Step.refl _ _ _ _) ⟨S,Us.next,E,e8⟩ rfl (Nat.le_succ _)⟩
 |succ fuel ih=>
  intro listed env σ a w D ι U h S Us hU E e8 hQ
  refine⟨fun hr=>hQ env _ a w D ι (h.1 hr) (Step.refl _ _ _ _) ⟨S,Us.next,E,e8⟩ rfl (Nat.le_succ _),fun i hi=>?_⟩
  obtain⟨vo,qW,hG⟩:=h.2 i hi
  obtain⟨_,o,ho,_⟩:=mem_ready.1 hi
  obtain⟨vo',Ah,SQ⟩:=(nT eJ).2 i o (by simpa using ho)
  rw[qW]at Ah;injection Ah with Ah;subst Ah
  rw[Nat.zero_add]at SQ
  obtain⟨hc,hd,B3,xK,hg⟩:=oY SQ
  have hw:=sZ (ops:=ops) (vo:=vo) E hg
  have WA:¬U vo.site:=fun hu=>by
   obtain⟨i',he,hl⟩:=hU _ hu
   have:i'=i:=ab
   subst this
   rw[ja hi]at hl;cases hl
  have jw:i<listed.size:=by
   have h0:=(mem_ready.1 hi).1
   rcases Nat.lt_or_ge i listed.size with h|h
   ·exact h
   ·simp[Array.getElem?_eq_none h]at h0
  unfold wpOp
  simp only[ho]
  rw[<-hw]
  unfold step at hG
  by_cases G7:ay vo.guard env=true
  ·rw[if_pos G7]
   rw[if_pos G7]at hG
   refine .inl (zr hc hG S Us WA E fun v σ' u D' ι' w' hn T S' hR U' hle=>?_)
   refine ih _ _ _ _ w' D' ι' _ hn S' U' (fun s Ad=>?_) (by rw[hd];exact iq (oh E T) hR xK e8) (by rw[fc];exact e8) fun iD σ2 a2 w2 D2 ι2 hk T2 Qu DQ p7=>hQ iD σ2 a2 w2 D2 ι2 hk (T.trans T2) Qu (DQ.trans (put_defers _ _ _)) (Nat.le_trans hle p7)
   rcases Ad with h|h
   ·obtain⟨i',he,hl⟩:=hU _ h
    exact⟨i',he,getD_set_true hl⟩
   ·exact⟨i,by rw[h,B3],by simp[jw]⟩
  ·rw[if_neg G7]
   rw[if_neg G7]at hG
   refine ih _ _ _ _ w D ι U hG S Us (fun s Ad=>?_) (by rw[hd];exact iq E dF.undef xK e8) (by rw[fc];exact e8) fun iD σ2 a2 w2 D2 ι2 hk T2 Qu DQ p7=>hQ iD σ2 a2 w2 D2 ι2 hk T2 Qu (DQ.trans (put_defers _ _ _)) p7
   obtain⟨i',he,hl⟩:=hU _ Ad
   exact⟨i',he,getD_set_true hl⟩
end
end Go.Proofs.YtakkdjfmiffbfaaGreatDoor.V

namespace Go.Proofs.YtakkdjfmiffbfaaGreatDoor.V
open Go.RowKit
variable {P:Program} {w w':World} {D D' D2:Nat->Prop} {ι ι' ι2:Names}
def x8 (P:Program) (c:Code) (Q:Exit->Act->World->Prop) (a:Act) (w:World):Prop:=
 ∀(b:Frame) (k:List Item) (cs:List Frame),b.kind≠.early->∃e a' w',Q e a' w'/\Arrives P (lone (b.at a (.code c::k)) cs w) b k cs e a' w'
section
variable {Q:Exit->Act->World->Prop} {a:Act}
theorem jF {c:Code} (h:c.wp P Q a w):x8 P c Q a w:=fun b k cs _=>h b k cs
theorem lj {x y:Code} (h:x8 P x (Exit.then (x8 P y Q) Q) a w):x8 P (.seq x y) Q a w:=by
 intro b k cs hb
 obtain⟨e,a1,w1,hq,iE⟩:=h b (.code y::k) cs hb
 by_cases he:e=.normal
 ·subst he
  obtain⟨e2,a2,w2,MJ,Jw⟩:=hq b k cs hb
  exact⟨e2,a2,w2,MJ,.of_steps (.head step_seq iE) Jw⟩
 ·refine⟨e,a1,w1,?_,.of_steps (.one step_seq) (.pass (x:=.code y) rfl (fun _ _=>.inl he) iE)⟩
  cases e<;>first|exact absurd rfl he|exact hq
theorem wL {c:Operand} {x y:Code} {t:Bool} (hc:a.eval c=.bool t) (h:x8 P (if t then x else y) Q a w):x8 P (.cond c x y) Q a w:=
 fun b k cs hb=>let ⟨e,a',w',q,r⟩:=h b k cs hb;⟨e,a',w',q,.of_steps (.one (step_cond hc)) r⟩
theorem sH {id:Nat} {c:Code} (h:x8 P c (Exit.inBlock id Q) a w):x8 P (.block id c) Q a w:=by
 intro b k cs hb
 obtain⟨e,a1,w1,hq,iE⟩:=h b (.inBlock id::k) cs hb
 cases e with
 |normal=>exact⟨.normal,a1,w1,hq,.head step_block (Steps.trans iE (.one step_inBlock))⟩
 |exit jQ=>
  by_cases hid:jQ=id
  ·simp only[Exit.inBlock,hid,if_true]at hq
   exact⟨.normal,a1,w1,hq,.head step_block (iE k (by simp[exitTo,hid]))⟩
  ·simp only[Exit.inBlock,hid,if_false]at hq
   exact⟨.exit jQ,a1,w1,hq,fun k' hk=>.head step_block (iE k' (by simp[exitTo,Ne.symm hid,hk]))⟩
 |goto l=>exact⟨_,a1,w1,hq,fun k' hk=>.head step_block (iE k' (by simp[gotoIn,hk]))⟩
 |ret=>exact⟨_,a1,w1,hq,.of_steps (.one step_block) iE⟩
 |panic ch=>exact⟨_,a1,w1,hq,.of_steps (.one step_block) iE⟩
 |outgrown=>exact⟨_,a1,w1,hq,.of_steps (b:=b) (k:=k) (cs:=cs) (e:=.outgrown) (.one step_block) iE⟩
theorem Hu {c:Code} (h:x8 P c (Exit.noGoto Q) a w):x8 P (.scope c) Q a w:=by
 intro b k cs hb
 obtain⟨e,a1,w1,hq,iE⟩:=h b (.inScope c::k) cs hb
 cases e with
 |normal=>exact⟨.normal,a1,w1,hq,.head step_scope (Steps.trans iE (.one step_inScope))⟩
 |exit id=>exact⟨.exit id,a1,w1,hq,fun k' hk=>.head step_scope (iE k' (by simp[exitTo,hk]))⟩
 |goto l=>exact hq.elim
 |ret=>exact⟨_,a1,w1,hq,.of_steps (.one step_scope) iE⟩
 |panic ch=>exact⟨_,a1,w1,hq,.of_steps (.one step_scope) iE⟩
 |outgrown=>exact⟨_,a1,w1,hq,.of_steps (b:=b) (k:=k) (cs:=cs) (e:=.outgrown) (.one step_scope) iE⟩
def pc (P:Program) (c:Code) (Q:Exit->Act->World->Prop):Nat->Act->World->Prop
 |0=>fun _ _=>False
 |n+1=>x8 P c (Exit.then (pc P c Q n) Q)
theorem Cr {c:Code} (n:Nat) (h:pc P c Q n a w):x8 P (.loop c) Q a w:=by
 intro b k cs hb
 have key:∀n a w,pc P c Q n a w->∃e a' w',Q e a' w'/\Arrives P (lone (b.at a (.code c::.inLoop c::k)) cs w) b k cs e a' w':=by
  intro n
  induction n with
  |zero=>intro a w h;exact h.elim
  |succ n ih=>
   intro a w h
   obtain⟨e,a1,w1,hq,iE⟩:=h b (.inLoop c::k) cs hb
   by_cases he:e=.normal
   ·subst he
    obtain⟨e2,a2,w2,MJ,Jw⟩:=ih a1 w1 hq
    exact⟨e2,a2,w2,MJ,.of_steps (Steps.trans iE (.one step_inLoop)) Jw⟩
   ·refine⟨e,a1,w1,?_,.pass (x:=.inLoop c) rfl (fun _ _=>.inl he) iE⟩
    cases e<;>first|exact absurd rfl he|exact hq
 obtain⟨e,a',w',hq,iE⟩:=key n a w h
 exact⟨e,a',w',hq,.of_steps (.one step_loop) iE⟩
theorem zJ {f:FuncId} {fn:Func} {c:Code} {args:Array Value} {R:Ending->World->Prop} (hf:P.funcs[f]? =some fn) (hb:fn.body=some c)
  (h:x8 P c (bodyPost P fn R) {tmps:=args++Array.replicate (fn.ntmps-args.size) undef,defers:=[]} w):Calls P f args w R:=by
 intro cs
 have Qb:Frame.enter P f args .normal=({(default:Frame)with fn:=f,kind:=.normal}:Frame).at {tmps:=args++Array.replicate (fn.ntmps-args.size) undef,defers:=[]} [.code c]:=by simp[Frame.enter,Frame.at,hf,hb]
 obtain⟨e,a',w',hq,iE⟩:=h {(default:Frame)with fn:=f,kind:=.normal} [] cs (by simp)
 rw[<-Qb]at iE
 cases e with
 |normal=>obtain⟨hd,v,hr,hR⟩:=hq;exact⟨.returned v,w',_,hR,Steps.trans iE (.one step_end),rfl,rfl,hd,rfl,fn,hf,hr⟩
 |ret=>obtain⟨hd,v,hr,hR⟩:=hq;obtain⟨todo,hs⟩:=iE;exact⟨.returned v,w',_,hR,hs,rfl,rfl,hd,rfl,fn,hf,hr⟩
 |panic chain=>obtain⟨hd,hR⟩:=hq;obtain⟨todo,hs⟩:=iE;exact⟨.panicked chain,w',_,hR,hs,rfl,rfl,hd,fn,hf⟩
 |exit id=>exact hq.elim
 |goto l=>exact hq.elim
 |outgrown=>exact⟨.outgrown,w',{(default:Frame)with fn:=f,kind:=.normal},hq,iE.resolve_left (by simp),rfl,trivial⟩
def xC (P:Program) (ops:Array Oper) (Q:Exit->Act->World->Prop) (l:List Nat) (a:Act) (w:World):Prop:=
 ∀(b:Frame) (k:List Item) (cs:List Frame),b.kind≠.early->∃e a' w',Q e a' w'/\Arrives P (lone (b.at a (.inRegion ops l::k)) cs w) b k cs e a' w'
theorem Ei {id:Nat} {ops:Array Oper} (h:xC P ops Q (List.range ops.size) a w):x8 P (.region id ops false) Q a w:=
 fun b k cs hb=>let ⟨e,a',w',q,r⟩:=h b k cs hb;⟨e,a',w',q,.of_steps (.one step_region) r⟩
theorem QR {ops:Array Oper} (h:Q .normal a w):xC P ops Q [] a w:=fun _ _ _ _=>⟨.normal,a,w,h,.one step_region_end⟩
theorem oQ {o:Oper} {ys:Nat->Option Bool} (h:o.guard=none):Region.wanted o ys=true:=by simp[Region.wanted,h]
theorem Kz {ops:Array Oper} {i:Nat} {rest:List Nat} {o:Oper} {v:Value} (ho:ops[i]? =some o) (hg:o.guard=none) (hr:(execOp a.eval o).run P w=.ok (.value v) w') (h:xC P ops Q rest (a.put o.dst v) w'):xC P ops Q (i::rest) a w:=by
 intro b k cs hb
 obtain⟨e,a',w2,hq,iE⟩:=h b k cs hb
 refine⟨e,a',w2,hq,.of_steps (.one ?_) iE⟩
 have z7:(b.at a (.inRegion ops (i::rest)::k)).finish v=b.at (a.put o.dst v) (.inRegion ops rest::k):=by rw[Frame.finish_at,ho];rfl
 rw[<-z7]
 refine step_lone_go ?_
 have h2:=stepG_op (P:=P) (b:=b) (k:=k) (cs:=cs) (w:=w) (rest:=rest) ho (oQ hg (ys:=yielded ops a.tmps))
 rw[h2];simp[stepG.apply,hr]
theorem Nk {ops:Array Oper} {i:Nat} {rest:List Nat} {o:Oper} {v z:Value} {c cap s r:Nat} {buf:Array Value} (ho:ops[i]? =some o) (hg:o.guard=none) (hr:(execOp a.eval o).run P w=.ok (.comm #[Conc.scase c v z] true .send) w)
  (hc:w.heap[c]? =some (.chan cap buf false s r false)) (gM:buf.size<cap) (h:xC P ops Q rest (a.put o.dst undef) (w.setChan c cap (buf.push v) false (s+1) r false)):xC P ops Q (i::rest) a w:=by
 intro b k cs hb
 obtain⟨e,a',w2,hq,iE⟩:=h b k cs hb
 refine⟨e,a',w2,hq,.of_steps (.one ?_) iE⟩
 have z7:(b.at a (.inRegion ops (i::rest)::k)).finish undef=b.at (a.put o.dst undef) (.inRegion ops rest::k):=by rw[Frame.finish_at,ho];rfl
 rw[<-z7,Conc.lone_eq_solo,Conc.lone_eq_solo]
 exact Conc.step_lone_send_room (Conc.stepG_comm ho (oQ hg) hb hr) hc gM
theorem Nj {ops:Array Oper} {i:Nat} {rest:List Nat} {o:Oper} {z:Value} {c cap s r:Nat} {buf:Array Value} (ho:ops[i]? =some o) (hg:o.guard=none) (hr:(execOp a.eval o).run P w=.ok (.comm #[Conc.rcase c z] true (.recv false)) w)
  (hc:w.heap[c]? =some (.chan cap buf false s r false)) (B4:0<buf.size) (h:xC P ops Q rest (a.put o.dst (buf.getD 0 undef)) (w.setChan c cap (buf.extract 1 buf.size) false s (r+1) false)):xC P ops Q (i::rest) a w:=by
 intro b k cs hb
 obtain⟨e,a',w2,hq,iE⟩:=h b k cs hb
 refine⟨e,a',w2,hq,.of_steps (.one ?_) iE⟩
 have z7:(b.at a (.inRegion ops (i::rest)::k)).finish (buf.getD 0 undef)=b.at (a.put o.dst (buf.getD 0 undef)) (.inRegion ops rest::k):=by rw[Frame.finish_at,ho];rfl
 rw[<-z7,Conc.lone_eq_solo,Conc.lone_eq_solo]
 exact Conc.step_lone_recv_buf false (Conc.stepG_comm ho (oQ hg) hb hr) hc B4
end
section
variable {hs:Nat} {g:Rows} {env:Env} {a:Act} {o:Oper}
theorem MZ {x y:O} (hc:qo P o.op=some (.snd x y)):∃x' y',o.op=.send x' y'/\cO P x'=some x/\cO P y'=some y:=by
 unfold qo at hc
 split at hc
 case h_26=>
  rename_i x' y' h
  simp only[Option.bind_eq_bind,Option.bind_eq_some_iff,Option.pure_def,Option.some.injEq,gr.snd.injEq]at hc
  obtain⟨p,h1,q,h2,rfl,rfl⟩:=hc
  exact⟨_,_,h,h1,h2⟩
 all_goals (try unfold mX at hc)<;>(try unfold uY at hc)<;>(try unfold r7 at hc)<;>(repeat' (split at hc))<;>(simp only[Option.bind_eq_bind,Option.bind_eq_some_iff,Option.pure_def,Option.some.injEq,Option.map_eq_some_iff,reduceCtorEq,and_false,exists_false]at hc)
theorem MY {x:O} (hc:qo P o.op=some (.QU x)):∃t dir e i z x',o.op=.recv t x' false/\P.underlying t=some (.chan dir e)/\P.info? e=some i/\i.zero=some z/\cO P x'=some x:=by
 unfold qo at hc
 split at hc
 case h_27=>
  rename_i t x' h
  split at hc
  ·rename_i dir e ht
   split at hc
   ·rename_i z hz
    simp only[Option.bind_eq_some_iff]at hz
    obtain⟨i,hi,hz⟩:=hz
    simp only[Option.map_eq_some_iff,gr.QU.injEq]at hc
    obtain⟨p,h1,rfl⟩:=hc
    exact⟨t,dir,e,i,z,x',h,ht,hi,hz,h1⟩
   ·cases hc
  ·cases hc
 all_goals (try unfold mX at hc)<;>(try unfold uY at hc)<;>(try unfold r7 at hc)<;>(repeat' (split at hc))<;>(simp only[Option.bind_eq_bind,Option.bind_eq_some_iff,Option.pure_def,Option.some.injEq,Option.map_eq_some_iff,reduceCtorEq,and_false,exists_false]at hc)
theorem Sb {x y:O} {g':Rows} (S:fY P hs D ι g w) (hc:qo P o.op=some (.snd x y)) (E:db P w D ι env a) (hv:du g (cY env x) (cY env y)=some g'):
  ∃c cap s r buf u,(execOp a.eval o).run P w=.ok (.comm #[Conc.scase c u (.tuple #[])] true .send) w/\w.heap[c]? =some (.chan cap buf false s r false)/\buf.size<cap/\fY P hs D ι g' (w.setChan c cap (buf.push u) false (s+1) r false)/\Step hs D ι w D ι (w.setChan c cap (buf.push u) false (s+1) r false):=by
 obtain⟨x',y',ho,hx,hy⟩:=MZ hc
 have rx:=dQ E hx
 have ry:=dQ E hy
 unfold du at hv
 split at hv
 ·rename_i i he
  simp only[Option.bind_eq_some_iff]at hv
  obtain⟨r,hg,hv⟩:=hv
  split at hv
  ·rename_i hcond
   simp only[Option.some.injEq]at hv
   subst hv
   obtain⟨B,c,hu,hB,hk,e8,buf,s,q,hb,Lx,hR⟩:=zK S rx he hg
   obtain⟨B',ei,RR,_⟩:=S.row i r hg
   rw[hB]at ei;injection ei with ei;subst ei
   have nD:=S.CR (ob:=.chan c (buf.push (a.eval y')) false (s+1) q false) (r':={r with rows:=r.rows++[[cY env y]]}) hg hcond.1 hB fun hr iT=>⟨RR.sz,fun cs eb=>?_,fun h0=>(by rw[hk]at h0;cases h0),fun m hm=>(by rw[hk]at hm;cases hm),fun c' j3=>?_⟩
   ·exact⟨B.b,c,s,q,buf,a.eval y',by simp[execOp,ho,hu,Conc.scase],hb,by rw[Lx];omega,nD.1,nD.2⟩
   ·rcases List.mem_append.1 eb with h|h
    ·exact RR.flat cs h
    ·rw[List.mem_singleton.1 h]
     intro b sq
     rw[List.mem_singleton.1 sq];exact hcond.2.2
   ·rw[hk]at j3
    simp only[Option.some.injEq,BK.chan.injEq]at j3
    subst j3
    refine⟨e8,_,_,_,iT,by simp[Lx],fun j cs hj=>?_⟩
    rw[List.getElem?_append]at hj
    split at hj
    ·rename_i eR
     obtain⟨b,u,q1,q2,q3⟩:=hR j cs hj
     refine⟨b,u,q1,?_,hr _ _ q3⟩
     rw[Array.getElem?_push,if_neg ab];exact q2
    ·rename_i xN
     have iZ:j=r.rows.length:=by
      have:=(List.getElem?_eq_some_iff.1 hj).1
      simp at this;omega
     subst iZ
     simp at hj
     subst hj
     exact⟨_,_,rfl,by rw[Array.getElem?_push,if_pos Lx.symm],hr _ _ ry⟩
  ·cases hv
 ·cases hv
theorem Sa {x:O} {g':Rows} {v:AV} (S:fY P hs D ι g w) (hc:qo P o.op=some (.QU x)) (E:db P w D ι env a) (hv:dt g (cY env x)=some (v,g')):
  ∃c cap s r buf z,(execOp a.eval o).run P w=.ok (.comm #[Conc.rcase c z] true (.recv false)) w/\w.heap[c]? =some (.chan cap buf false s r false)/\0<buf.size/\fY P hs D ι g' (w.setChan c cap (buf.extract 1 buf.size) false s (r+1) false)/\Step hs D ι w D ι (w.setChan c cap (buf.extract 1 buf.size) false s (r+1) false)/\dF P (w.setChan c cap (buf.extract 1 buf.size) false s (r+1) false) D ι v (buf.getD 0 undef):=by
 obtain⟨t,dir,e,i0,z,x',ho,ht,hi,hz,hx⟩:=MY hc
 have rx:=dQ E hx
 unfold dt at hv
 split at hv
 ·rename_i i he
  simp only[Option.bind_eq_some_iff]at hv
  obtain⟨r,hg,hv⟩:=hv
  split at hv
  ·rename_i v' rest j7
   split at hv
   ·rename_i hcond
    simp only[Option.some.injEq,Prod.mk.injEq]at hv
    obtain⟨rfl,rfl⟩:=hv
    obtain⟨B,c,hu,hB,hk,e8,buf,s,q,hb,Lx,hR⟩:=zK S rx he hg
    obtain⟨B',ei,RR,_⟩:=S.row i r hg
    rw[hB]at ei;injection ei with ei;subst ei
    obtain⟨b0,u0,q1,q2,q3⟩:=hR 0 [v'] (by rw[j7];rfl)
    simp only[List.cons.injEq,and_true]at q1
    subst q1
    have kq:0<buf.size:=by rw[Lx,j7];simp
    have Vr:buf.getD 0 undef=u0:=by rw[Array.getD_eq_getD_getElem?,q2];rfl
    have nD:=S.CR (ob:=.chan c (buf.extract 1 buf.size) false s (q+1) false) (r':={r with rows:=rest}) hg hcond hB fun hr iT=>⟨RR.sz,fun cs eb=>RR.flat cs (by rw[j7];exact List.mem_cons_of_mem _ eb),fun h0=>(by rw[hk]at h0;cases h0),fun m hm=>(by rw[hk]at hm;cases hm),fun c' j3=>?_⟩
    ·refine⟨B.b,c,s,q,buf,z,?_,hb,kq,nD.1,nD.2,?_⟩
     ·have wb:(zeroValue e).run P w=.ok z w:=by simp[zeroValue,typeInfo,hi,hz]
      simp[execOp,ho,hu,Conc.rcase,run_underlying ht,wb]
     ·rw[Vr];exact nD.2.rep q3
    ·rw[hk]at j3
     simp only[Option.some.injEq,BK.chan.injEq]at j3
     subst j3
     refine⟨e8,_,_,_,iT,by simp[Lx,j7],fun j cs hj=>?_⟩
     obtain⟨b,u,k1,k2,k3⟩:=hR (j+1) cs (by rw[j7];simpa using hj)
     refine⟨b,u,k1,?_,hr _ _ k3⟩
     have eR:=(Array.getElem?_eq_some_iff.1 k2).1
     rw[Array.getElem?_extract,if_pos ab,Nat.add_comm 1 j];exact k2
   ·cases hv
  ·cases hv
 ·cases hv
theorem Gw {ops:Array Oper} {nt site0:Nat} {K:Env->aq->Prop} {Q:Exit->Act->World->Prop}:∀(l:List Oper) (vl:List cK) (j:Nat) (env:Env) (σ:aq) (a:Act) (w:World) (D:Nat->Prop) (ι:Names),
  ops.toList.drop j=l->allM (kh P ops nt site0 false false #[] []) l j=some vl->bP vl K env σ->fY P hs D ι σ.get w->Used ι σ.next (fun _=>False)->db P w D ι env a->a.tmps.size=nt->
  (∀iD σ' a' w' D' ι',K iD σ'->Step hs D ι w D' ι' w'->St P hs nt D' ι' iD σ' a' w'->a'.defers=a.defers->σ.next<=σ'.next->Q .normal a' w')->xC P ops Q (List.range' j l.length) a w:=by
 intro l
 induction l with
 |nil=>
  intro vl j env σ a w D ι _ h hv S Us E e8 hQ
  simp[allM]at h;subst h
  exact QR (hQ env ⟨σ.get,σ.next+1⟩ a w D ι hv (Step.refl _ _ _ _) ⟨S,Us.next,E,e8⟩ rfl (Nat.le_succ _))
 |cons o l ih=>
  intro vl j env σ a w D ι hl h hv S Us E e8 hQ
  simp only[allM,Option.bind_eq_bind,Option.bind_eq_some_iff,Option.pure_def,Option.some.injEq]at h
  obtain⟨vo,qW,sY,rY,rfl⟩:=h
  obtain⟨hc,hd,B3,xK,hg⟩:=oY qW
  obtain⟨WL,hv⟩:=hv
  have Xa:o.guard=none:=by
   split at hg
   ·assumption
   ·obtain⟨t,_,h⟩:=hg
    rw[WL]at h;cases h
  have Xb:ops[j]? =some o:=by
   have h0:=congrArg (fun x=>x[0]?) hl
   rw[<-Array.getElem?_toList]
   simpa[List.getElem?_drop]using h0
  have Qg:ops.toList.drop (j+1)=l:=by rw[<-List.drop_drop,hl];rfl
  have go:∀(v:AV) (u:Value) (g2:Rows) (w2:World),bP sY K (upd env vo.dst v) ⟨g2,σ.next⟩->fY P hs D ι g2 w2->Step hs D ι w D ι w2->dF P w2 D ι v u->xC P ops Q (List.range' (j+1) l.length) (a.put o.dst u) w2:=fun v u g2 w2 hn S2 T hR=>
   ih sY (j+1) (upd env vo.dst v) ⟨g2,σ.next⟩ (a.put o.dst u) w2 D ι Qg rY hn S2 Us (by rw[hd];exact iq (oh E T) hR xK e8) (by rw[fc];exact e8) fun iD σ2 a' w3 D3 ι3 hk T2 LU DQ p7=>hQ iD σ2 a' w3 D3 ι3 hk (T.trans T2) LU (DQ.trans (put_defers _ _ _)) p7
  rw[show List.range' j (o::l).length=j::List.range' (j+1) l.length from rfl]
  split at hv
  ·rename_i x y eu
   split at hv
   ·rename_i g2 LJ
    rw[eu]at hc
    obtain⟨c,cap,s,r,buf,u,fG,hb,gM,S2,T⟩:=Sb S hc E LJ
    exact Nk Xb Xa fG hb gM (go _ _ _ _ hv S2 T dF.undef)
   ·exact hv.elim
  ·rename_i x eu
   split at hv
   ·rename_i v g2 LJ
    rw[eu]at hc
    obtain⟨c,cap,s,r,buf,z,fG,hb,B4,S2,T,hR⟩:=Sa S hc E LJ
    exact Nj Xb Xa fG hb B4 (go _ _ _ _ hv S2 T hR)
   ·exact hv.elim
  ·split at hv
   ·rename_i v hq
    obtain⟨u,fG,hR⟩:=zh hc hq S E
    exact Kz Xb Xa fG (go _ _ _ _ hv S (Step.refl _ _ _ _) hR)
   ·exact hv.elim
end
end Go.Proofs.YtakkdjfmiffbfaaGreatDoor.V

namespace Go.Proofs.YtakkdjfmiffbfaaGreatDoor.V
open Go.RowKit
variable {P:Program} {w w':World} {D D' D2:Nat->Prop} {ι ι' ι2:Names}
section
variable {hs:Nat} {X:fU}
def UR:Ex->Exit
 | .normal=>.normal
 | .exit id=>.exit id
 | .ret=>.ret
theorem St.drew {nt:Nat} {env:Env} {σ:aq} {a:Act} {D:Nat->Prop} {ι:Names} (h:St P hs nt D ι env σ a w):St P hs nt D ι env σ a w.drew/\Step hs D ι w D ι w.drew:=by
 have T:Step hs D ι w D ι w.drew:=Step.stay h.sO (fun _ _=>rfl) (Nat.le_refl _) rfl rfl rfl (fun _ h=>h) (fun _ h=>.inl h) (fun _ _ h=>h)
 exact⟨⟨h.sO.stay (fun _ _=>rfl) (Nat.le_refl _) (fun _ h=>h) h.sO.dead (fun _ h=>.inl h) (fun _ _ h=>h),h.used,oh h.env T,h.size⟩,T⟩
def s4 (P:Program) (hs nt:Nat) (ds:List Deferred) (Q:Ex->Env->aq->Prop) (n0:Nat) (D:Nat->Prop) (ι:Names) (w:World) (Q':Exit->Act->World->Prop):Prop:=
 ∀ex env σ a w' D' ι',Q ex env σ->Step hs D ι w D' ι' w'->St P hs nt D' ι' env σ a w'->a.defers=ds->n0<=σ.next->Q' (UR ex) a w'
theorem s4.later {nt:Nat} {ds:List Deferred} {Q:Ex->Env->aq->Prop} {n0 n1:Nat} {Q':Exit->Act->World->Prop} (h:s4 P hs nt ds Q n0 D ι w Q') (T:Step hs D ι w D' ι' w') (hn:n0<=n1):s4 P hs nt ds Q n1 D' ι' w' Q':=
 fun ex env σ a w2 D2 ι2 hq T2 ee hd hle=>h ex env σ a w2 D2 ι2 hq (T.trans T2) ee hd (Nat.le_trans hn hle)
theorem pS (hm:P.follows .mixedOrders=true) {md:List (Nat×Nat)} {nt fid:Nat}:∀(c:Code) (vc:VC),iA P md nt fid c=some vc->∀(Q:Ex->Env->aq->Prop) (env:Env) (σ:aq) (a:Act) (w:World) (D:Nat->Prop) (ι:Names) (Q':Exit->Act->World->Prop),
  dL (Sound P) vc Q env σ->St P hs nt D ι env σ a w->s4 P hs nt a.defers Q σ.next D ι w Q'->x8 P c Q' a w:=by
 intro c
 induction c with
 |skip=>
  intro vc h Q env σ a w D ι Q' hv ee hQ
  simp[iA]at h;subst h
  exact jF <| wp_skip (hQ .normal env σ a w D ι hv (Step.refl _ _ _ _) ee rfl (Nat.le_refl _))
 |exit id=>
  intro vc h Q env σ a w D ι Q' hv ee hQ
  simp[iA]at h;subst h
  exact jF <| wp_exit (hQ (.exit id) env σ a w D ι hv (Step.refl _ _ _ _) ee rfl (Nat.le_refl _))
 |ret=>
  intro vc h Q env σ a w D ι Q' hv ee hQ
  simp[iA]at h;subst h
  exact jF <| wp_ret (hQ .ret env σ a w D ι hv (Step.refl _ _ _ _) ee rfl (Nat.le_refl _))
 |seq x y ihx ihy=>
  intro vc h Q env σ a w D ι Q' hv ee hQ
  simp only[iA,Option.bind_eq_bind,Option.bind_eq_some_iff,Option.pure_def,Option.some.injEq]at h
  obtain⟨vx,hx,vy,hy,rfl⟩:=h
  refine lj (ihx vx hx _ env σ a w D ι _ hv ee fun ex iH σ1 a1 w1 D1 ι1 hq T jx hd hle=>?_)
  cases ex with
  |normal=>exact ihy vy hy Q iH σ1 a1 w1 D1 ι1 Q' hq jx (by rw[hd];exact hQ.later T hle)
  |exit id=>exact hQ (.exit id) iH σ1 a1 w1 D1 ι1 hq T jx hd hle
  |ret=>exact hQ .ret iH σ1 a1 w1 D1 ι1 hq T jx hd hle
 |cond c x y ihx ihy=>
  intro vc h Q env σ a w D ι Q' hv ee hQ
  simp only[iA,Option.bind_eq_bind,Option.bind_eq_some_iff,Option.pure_def,Option.some.injEq]at h
  obtain⟨c',hc,vx,hx,vy,hy,rfl⟩:=h
  unfold dL at hv
  have hr:=dQ ee.env hc
  split at hv
  ·rename_i b hb
   rw[hb]at hr
   refine wL (fm hr) ?_
   cases b with
   |true=>exact ihx vx hx Q env σ a w D ι Q' hv ee hQ
   |false=>exact ihy vy hy Q env σ a w D ι Q' hv ee hQ
  ·exact hv.elim
 |block id c ih=>
  intro vc h Q env σ a w D ι Q' hv ee hQ
  simp only[iA,Option.map_eq_some_iff]at h
  obtain⟨vx,hx,rfl⟩:=h
  refine sH (ih vx hx _ env σ a w D ι _ hv ee fun ex iH σ1 a1 w1 D1 ι1 hq T jx hd hle=>?_)
  cases ex with
  |normal=>exact hQ .normal iH σ1 a1 w1 D1 ι1 hq T jx hd hle
  |ret=>exact hQ .ret iH σ1 a1 w1 D1 ι1 hq T jx hd hle
  |exit jQ=>
   simp only[aQ]at hq
   simp only[UR,Exit.inBlock]
   by_cases hid:jQ=id
   ·rw[if_pos hid]at hq ⊢;exact hQ .normal iH σ1 a1 w1 D1 ι1 hq T jx hd hle
   ·rw[if_neg hid]at hq ⊢;exact hQ (.exit jQ) iH σ1 a1 w1 D1 ι1 hq T jx hd hle
 |loop c ih=>
  intro vc h Q env σ a w D ι Q' hv ee hQ
  simp only[iA,Option.map_eq_some_iff]at h
  obtain⟨vx,hx,rfl⟩:=h
  obtain⟨n,hv⟩:=hv
  refine Cr n ?_
  have key:∀n env σ a w D ι,FR (dL (Sound P) vx) Q n env σ->St P hs nt D ι env σ a w->s4 P hs nt a.defers Q σ.next D ι w Q'->pc P c Q' n a w:=by
   intro n
   induction n with
   |zero=>intro env σ a w D ι h;exact h.elim
   |succ n ihn=>
    intro env σ a w D ι h ee hQ
    refine ih vx hx _ env σ a w D ι _ h ee fun ex iH σ1 a1 w1 D1 ι1 hq T jx hd hle=>?_
    cases ex with
    |normal=>exact ihn iH σ1 a1 w1 D1 ι1 hq jx (by rw[hd];exact hQ.later T hle)
    |exit id=>exact hQ (.exit id) iH σ1 a1 w1 D1 ι1 hq T jx hd hle
    |ret=>exact hQ .ret iH σ1 a1 w1 D1 ι1 hq T jx hd hle
  exact key n env σ a w D ι hv ee hQ
 |region id ops draw=>
  intro vc h Q env σ a w D ι Q' hv ee hQ
  simp only[iA,R9]at h
  split at h
  ·rename_i hmode
   have SU:draw=true:=by
    simp only[Bool.and_eq_true]at hmode;exact hmode.1
   subst SU
   split at h
   ·rename_i vl eJ
    obtain⟨qV,T0⟩:=ee.drew
    have DL:=HW (X:=Sound P) kg ops.size _ vc env σ h (fun k i h=>by
     exfalso
     rcases Nat.lt_or_ge k ops.size with hk|hk
     ·simp[hk]at h
     ·simp[Nat.not_lt.2 hk]at h) hv
    refine jF (wp_region_any hm ?_)
    exact EP eJ ops.size _ env σ a w.drew D ι (fun _=>False) DL qV.sO qV.used (fun _ h=>h.elim) qV.env qV.size fun iH σ1 a1 w1 D1 ι1 hk T jx hd hle=>hQ .normal iH σ1 a1 w1 D1 ι1 hk (T0.trans T) jx hd hle
   ·cases h
  split at h
  ·rename_i hcom
   have SU:draw=false:=by
    simp only[Bool.and_eq_true,Bool.not_eq_true']at hcom;exact hcom.1
   subst SU
   simp only[Option.map_eq_some_iff]at h
   obtain⟨vl,rY,rfl⟩:=h
   have eJ:allM (kh P ops nt ((fid*1000+id)*1000) false false #[] []) ops.toList 0=some vl:=by
    unfold qE at rY
    simp only[Bool.false_eq_true,if_false,Bool.not_false,Bool.true_or,if_true]at rY
    split at rY
    ·rename_i sY h;simp at rY;subst rY;exact h
    ·cases rY
   refine Ei ?_
   have:=Gw (Q:=Q') ops.toList vl 0 env σ a w D ι rfl eJ hv ee.sO ee.used ee.env ee.size fun iH σ1 a1 w1 D1 ι1 hk T jx hd hle=>hQ .normal iH σ1 a1 w1 D1 ι1 hk T jx hd hle
   rwa [<-List.range_eq_range',Array.length_toList]at this
  generalize (sE md id==1)=mk at h
  simp only[Option.map_eq_some_iff]at h
  obtain⟨vl,rY,rfl⟩:=h
  cases draw with
  |false=>
   have eJ:∃sY,allM (kh P ops nt ((fid*1000+id)*1000) false mk #[] []) ops.toList 0=some sY/\vl=sY:=by
    unfold qE at rY
    simp only[Bool.false_eq_true,if_false,Bool.not_false,Bool.true_or,if_true]at rY
    split at rY
    ·rename_i sY h;simp at rY;exact⟨sY,h,rY.symm⟩
    ·cases rY
   obtain⟨sY,eJ,rfl⟩:=eJ
   refine jF (wp_region_list ?_)
   exact y7 ops.toList vl 0 env σ a w D ι (fun _=>False) eJ hv ee.sO ee.used (fun _ h=>h.elim) ee.env ee.size fun iH σ1 a1 w1 D1 ι1 hk T jx hd hle=>hQ .normal iH σ1 a1 w1 D1 ι1 hk T jx hd hle
  |true=>
   have eJ:∃hidden sY,allM (kh P ops nt ((fid*1000+id)*1000) true mk (jb ops) hidden) ops.toList 0=some sY/\vl=sY/\oc ops sY (jb ops)=true:=by
    unfold qE at rY
    simp only[if_true,Bool.not_true,Bool.false_or]at rY
    split at rY
    ·rename_i sY h
     split at rY
     ·rename_i Ac;simp at rY;exact⟨_,sY,h,rY.symm,Ac⟩
     ·cases rY
    ·cases rY
   obtain⟨hidden,sY,eJ,rfl,Ac⟩:=eJ
   obtain⟨qV,T0⟩:=ee.drew
   obtain⟨hlen,_⟩:=nT eJ
   have vY:vl.length=ops.size:=by rw[hlen];simp
   have DL:=xp (X:=Sound P) (K:=Q .normal) (n:=σ.next) Ac vY vl 0 (Array.replicate ops.size false) env σ.get (by simp) (by simp) (fun i hi=>by simp[hi]) (by simp[vY]) (fun k i h=>by
    exfalso
    rcases Nat.lt_or_ge k ops.size with hk|hk
    ·simp[hk]at h
    ·simp[Nat.not_lt.2 hk]at h) hv
   refine jF (wp_region_any hm ?_)
   rw[vY]at DL
   exact ya eJ ops.size _ env σ.get a w.drew D ι (fun _=>False) DL qV.sO qV.used (fun _ h=>h.elim) qV.env qV.size fun iH g1 a1 w1 D1 ι1 U1 hk T S1 VU E1 pM hd=>hQ .normal iH ⟨g1,σ.next+1⟩ a1 w1 D1 ι1 hk (T0.trans T) ⟨S1,VU.next,E1,pM⟩ hd (Nat.le_succ _)
 |label l=>
  intro vc h Q env σ a w D ι Q' hv ee hQ
  simp[iA]at h;subst h
  exact jF <| wp_label (hQ .normal env σ a w D ι hv (Step.refl _ _ _ _) ee rfl (Nat.le_refl _))
 |scope c ih=>
  intro vc h Q env σ a w D ι Q' hv ee hQ
  simp only[iA]at h
  refine Hu (ih vc h Q env σ a w D ι _ hv ee fun ex iH σ1 a1 w1 D1 ι1 hq T jx hd hle=>?_)
  have h1:=hQ ex iH σ1 a1 w1 D1 ι1 hq T jx hd hle
  cases ex with
  |normal=>exact h1
  |exit id=>exact h1
  |ret=>exact h1
 |_=>
  intro vc h
  simp[iA]at h
def KO (tmps:Array Value):ResultVar->Sem Value
 | .tmp t=>pure (tmps.getD t undef)
 | .cell a t=>do loadVar t (<-asAddr (tmps.getD a undef))
theorem Ew (fn:Func) (tmps:Array Value):results fn tmps=(do
  let vs <-fn.results.mapM (KO tmps)
  pure (if h:vs.size=1 then vs[0]else .tuple vs)):=by
 unfold results
 congr 2
theorem tH {nt:Nat} {env:Env} {σ:aq} {a:Act} {D:Nat->Prop} {ι:Names} (ee:St P hs nt D ι env σ a w):∀(rs:List ResultVar) (vr:List pq) (vs:List AV),rs.mapM (Dp P)=some vr->gR env σ.get vr=some vs->
  ∃us:List Value,(rs.mapM (KO a.tmps)).run P w=.ok us w/\us.length=vs.length/\∀(j:Nat) (v:AV),vs[j]? =some v->∃u,us[j]? =some u/\dF P w D ι v u
 |[],vr,vs,h,hv=>by
  simp at h;subst h
  simp[gR]at hv;subst hv
  exact⟨[],by simp,rfl,fun j v h=>by simp at h⟩
 |r::rs,vr,vs,h,hv=>by
  simp only[List.mapM_cons,Option.bind_eq_bind,Option.bind_eq_some_iff]at h
  obtain⟨x,hx,vr',hr,h⟩:=h
  simp at h;subst h
  simp only[gR,Option.bind_eq_some_iff,Option.map_eq_some_iff]at hv
  obtain⟨v,qb,Ut,TB,rfl⟩:=hv
  obtain⟨us,h1,h2,h3⟩:=tH ee rs vr' Ut hr TB
  have one:∃u,(KO a.tmps r).run P w=.ok u w/\dF P w D ι v u:=by
   cases r with
   |tmp t=>
    simp[Dp]at hx;subst hx
    simp[jV]at qb;subst qb
    exact⟨_,rfl,ee.env t⟩
   |cell b t=>
    simp only[Dp,Option.bind_eq_bind,Option.bind_eq_some_iff,Option.pure_def,Option.some.injEq]at hx
    obtain⟨ag,tn,n,hn,rfl⟩:=hx
    simp only[jV]at qb
    have hZ:=ee.env b
    unfold ld at qb
    split at qb
    ·rename_i jQ i' oo hb
     rw[hb]at hZ
     obtain⟨B,he,hB,hk⟩:=gZ hZ
     simp only[Option.bind_eq_some_iff]at qb
     obtain⟨cs,eb,hp⟩:=qb
     obtain⟨B',r0,Lz,ei,R,hi,fl,f,hf⟩:=KU (S:=ee.sO) eb (fun B2 h2=>by rw[hB]at h2;injection h2 with h2;subst h2;exact hk)
     rw[hB]at ei;injection ei with ei;subst ei
     obtain⟨u,k1,k2⟩:=jr (w:=w) (b:=B.b) (oo:=i'*B.sz+oo) (f:=fun j=>f (oo+j)) tn hn hp (fun a ha=>fl a (List.mem_of_mem_drop ha)) (fun j hj=>by
      rw[Nat.add_assoc];exact(hf _ (by simp at hj;omega)).1) (fun j a ha=>by
      simp at ha;exact(hf _ ((List.getElem?_eq_some_iff.1 ha).1)).2 _ ha)
     exact⟨u,by simp only[KO,he,asAddr,Sem.run_bind,Sem.run_pure,Result.andThen_ok,k1],k2⟩
    ·rename_i cs hb
     rw[hb]at hZ
     obtain⟨b',oo,vs2,he,q1,q2,q3,q4⟩:=kI hZ
     obtain⟨u,k1,k2⟩:=jr (w:=w) (b:=b') (oo:=oo) (f:=vs2) tn hn qb q2 q3 (fun j a ha=>.eG _ _ (q4 j a ha))
     exact⟨u,by simp only[KO,he,asAddr,Sem.run_bind,Sem.run_pure,Result.andThen_ok,k1],k2⟩
    ·simp at qb
  obtain⟨u,hu,xR⟩:=one
  refine⟨u::us,?_,by simp[h2],fun j v' hj=>?_⟩
  ·rw[List.mapM_cons]
   simp only[Sem.run_bind,hu,h1,Result.andThen_ok,Sem.run_pure]
  ·cases j with
   |zero=>simp at hj;subst hj;exact⟨u,rfl,xR⟩
   |succ j=>simp at hj ⊢;exact h3 j v' hj
theorem uV {f:Nat} {fn:Func} {c:Code} {args:List AV} {σ:aq} {K:AV->aq->Prop} {vr:List pq} (Om:P.funcs[f]? =some fn) (hc:fn.body=some c) (hr:fn.results.toList.mapM (Dp P)=some vr) (ha:fn.params.size+fn.nfree=args.length) (hle:fn.params.size+fn.nfree<=fn.ntmps)
  (h:∀(hs:Nat) (w:World) (D:Nat->Prop) (ι:Names) (a:Act) (Q':Exit->Act->World->Prop),St P hs fn.ntmps D ι (bJ args) σ a w->s4 P hs fn.ntmps a.defers (l9 vr K) σ.next D ι w Q'->x8 P c Q' a w):Sound P f args σ K:=by
 intro hs D ι w vs S Us A
 have e8:vs.size=args.length:=A.1
 refine zJ Om hc ?_
 refine h hs w D ι _ _ ⟨S,Us,fun t=>?_,by simp;omega⟩ fun ex iH σ1 a1 w1 D1 ι1 hq T jx hd hle=>?_
 ·simp only[bJ]
  by_cases eR:t<args.length
  ·obtain⟨u,hu,xR⟩:=A.2 t args[t] (List.getElem?_eq_getElem eR)
   have e1:args.getD t .undef=args[t]:=by simp[List.getD_eq_getElem?_getD,eR]
   have e2:(vs++Array.replicate (fn.ntmps-vs.size) undef).getD t undef=u:=by
    simp only[Array.getD_eq_getD_getElem?]
    rw[Array.getElem?_append_left ab,hu];rfl
   rw[e1,e2];exact xR
  ·have e1:args.getD t .undef=.undef:=by simp[List.getD_eq_getElem?_getD,Nat.le_of_not_lt eR]
   have e2:(vs++Array.replicate (fn.ntmps-vs.size) undef).getD t undef=undef:=by
    simp only[Array.getD_eq_getD_getElem?]
    rw[Array.getElem?_append_right ab,Array.getElem?_replicate]
    split<;>rfl
   rw[e1,e2];exact dF.undef
 ·have fin:(∃vs,gR iH σ1.get vr=some vs/\K (iL vs) σ1)->a1.defers=[]/\∃v,(results fn a1.tmps).run P w1=.ok v w1/\∃r g' n' D' ι' u,Ending.returned v=.returned u/\K r ⟨g',n'⟩/\Step hs D ι w D' ι' w1/\fY P hs D' ι' g' w1/\Used ι' n' (fun _=>False)/\σ.next<=n'/\dF P w1 D' ι' r u:=by
   rintro⟨avs,TB,hK⟩
   obtain⟨us,h1,h2,h3⟩:=tH jx fn.results.toList vr avs hr TB
   have Qr:(results fn a1.tmps).run P w1=.ok (if h:us.toArray.size=1 then us.toArray[0]else .tuple us.toArray) w1:=by
    rw[Ew,Array.mapM_eq_mapM_toList]
    simp only[Sem.run_bind,Sem.run_map,h1,Result.andThen_ok,Sem.run_pure]
   refine⟨hd,_,Qr,iL avs,σ1.get,σ1.next,D1,ι1,_,rfl,hK,T,jx.sO,jx.used,hle,?_⟩
   unfold iL
   split
   ·rename_i v
    have hl:us.length=1:=h2
    obtain⟨u,hu,xR⟩:=h3 0 v rfl
    rw[dif_pos (by simpa using hl)]
    have:us.toArray[0]'(by simp[hl])=u:=by
     have:=(List.getElem?_eq_some_iff.1 hu).2
     simpa using this
    rw[this];exact xR
   ·rename_i ig
    rw[dif_neg (by
     simp only[List.size_toArray,h2]
     intro h
     obtain⟨v,hv⟩:=List.length_eq_one_iff.1 h
     exact ig v hv)]
    exact .fK _ _ (fun j=>us.getD j undef) (by simp[h2]) (fun j hj=>by
     have:j<us.length:=by rw[h2];exact hj
     simp[this]) (fun j v hj=>by
     obtain⟨u,hu,xR⟩:=h3 j v hj
     simpa[List.getD_eq_getElem?_getD,hu]using xR)
  cases ex with
  |normal=>exact fin hq
  |ret=>exact fin hq
  |exit id=>exact hq.elim
theorem Jm (hm:P.follows .mixedOrders=true) {f:Nat} {md:List (Nat×Nat)} {vf:IG} {args:List AV} {σ:aq} {K:AV->aq->Prop} (hf:zI P f md=some vf) (ha:vf.y5=args.length) (h:dL (Sound P) vf.body (l9 vf.res K) (bJ args) σ):Sound P f args σ K:=by
 unfold zI at hf
 split at hf
 ·rename_i fn Om
  split at hf
  ·rename_i c hc
   simp only[Option.bind_eq_bind,Option.bind_eq_some_iff]at hf
   obtain⟨vb,hb,vr,hr,hf⟩:=hf
   split at hf
   ·rename_i hle
    simp only[Option.pure_def,Option.some.injEq]at hf
    subst hf
    simp only at ha h
    exact uV Om hc hr ha hle fun hs w D ι a Q' ee hQ=>pS hm c vb hb (l9 vr K) (bJ args) σ a w D ι Q' h ee hQ
   ·simp at hf
  ·simp at hf
 ·simp at hf
def OJ (P:Program) (X:fU):fU:=fun f args σ K=>(∃md vf,zI P f md=some vf/\vf.y5=args.length/\((∀a∈args,eY a)->dL X vf.body (l9 vf.res K) (bJ args) σ))∨Sound P f args σ K
def Call (P:Program):fU:=fun f args σ K=>∀X:fU,pB X->(∀f args σ K,OJ P X f args σ K->X f args σ K)->X f args σ K
theorem gG (hm:P.follows .mixedOrders=true) {f:Nat} {args:List AV} {σ:aq} {K:AV->aq->Prop} (h:Call P f args σ K):Sound P f args σ K:=
 h (Sound P) kg fun f args σ K hs=>by
  rcases hs with⟨md,vf,h1,h2,h3⟩|h
  ·intro hs D ι w vs S U A
   exact Jm hm h1 h2 (h3 (oD fun j a hj=>by obtain⟨u,_,hr⟩:=A.2 j a hj;exact hr.Ka)) hs D ι w vs S U A
  ·exact h
end
end Go.Proofs.YtakkdjfmiffbfaaGreatDoor.V

namespace Go.Proofs.YtakkdjfmiffbfaaGreatDoor.V
open Go.RowKit
variable {P:Program} {X Y:fU}
theorem Iz (h:∀f args σ K,X f args σ K->Y f args σ K) {f:Nat} {args:List AV} {σ:aq} {K:AV->Prop} (hp:ez X f args σ K):ez Y f args σ K:=by
 rcases hp with hp|⟨a,h1,h2⟩
 ·exact .inl (h _ _ _ _ hp)
 ·exact .inr ⟨a,h1,h _ _ _ _ h2⟩
theorem LN (h:∀f args σ K,X f args σ K->Y f args σ K) {f:Nat} {args:List AV} {σ:aq} {sz:Nat} {rows:List (List AV)} (hp:CM X f args σ sz rows):CM Y f args σ sz rows:=by
 obtain⟨h1,a,h2,h3⟩:=hp
 exact⟨h1,a,h2,h _ _ _ _ h3⟩
theorem pQ (h:∀f args σ K,X f args σ K->Y f args σ K) (hK:∀f args σ K K',(∀r σ',K r σ'->K' r σ')->Y f args σ K->Y f args σ K') {draw:Bool} {hid:List Nat} {site:Nat} {f:Nat} {args:List AV} {σ:aq} {n n':AV->aq->Prop} (hn:∀v σ',n v σ'->n' v σ') (hp:bV X draw hid site f args σ n):bV Y draw hid site f args σ n':=by
 rcases hp with⟨r,h1,h2⟩|⟨h1,h2⟩|⟨h1,sz,rows,h2,h3⟩
 ·exact .inl ⟨r,Iz h h1,hn _ _ h2⟩
 ·exact .inr (.inl ⟨h1,hK _ _ _ _ _ hn (h _ _ _ _ h2)⟩)
 ·exact .inr (.inr ⟨h1,sz,rows,LN h h2,hn _ _ h3⟩)
theorem rR (h:∀f args σ K,X f args σ K->Y f args σ K) (hK:∀f args σ K K',(∀r σ',K r σ'->K' r σ')->Y f args σ K->Y f args σ K') {draw:Bool} {o:cK} {env:Env} {σ:aq} {n n':AV->aq->Prop} (hn:∀v σ',n v σ'->n' v σ') (hp:ew X draw o env σ n):ew Y draw o env σ n':=by
 unfold ew at hp ⊢
 split at hp
 ·exact pQ h hK hn hp
 ·split at hp
  ·exact pQ h hK hn hp
  ·exact pQ h hK hn hp
  ·exact hp.elim
 ·split at hp
  ·exact hn _ _ hp
  ·exact hp.elim
 ·split at hp
  ·exact hn _ _ hp
  ·exact hp.elim
 ·split at hp
  ·exact hn _ _ hp
  ·exact hp.elim
 ·split at hp
  ·exact hn _ _ hp
  ·exact hp.elim
 ·split at hp
  ·exact hn _ _ hp
  ·exact hp.elim
 ·split at hp
  ·exact hn _ _ hp
  ·exact hn _ _ hp
  ·exact hp.elim
theorem kP (h:∀f args σ K,X f args σ K->Y f args σ K) (hK:∀f args σ K K',(∀r σ',K r σ'->K' r σ')->Y f args σ K->Y f args σ K') {draw:Bool} {Q Q':Env->aq->Prop} (hQ:∀e s,Q e s->Q' e s):∀(l:List cK) (env:Env) (σ:aq),wpOps X draw l Q env σ->wpOps Y draw l Q' env σ
 |[],env,σ,hp=>hQ _ _ hp
 |o::r,env,σ,hp=>by
  unfold wpOps at hp ⊢
  split at hp
  ·rename_i hw;rw[if_pos hw];exact rR h hK (fun v σ'=>kP h hK hQ r _ _) hp
  ·rename_i hw;rw[if_neg hw];exact kP h hK hQ r _ _ hp
theorem mQ {Q Q':Env->aq->Prop} (hQ:∀e s,Q e s->Q' e s):∀(l:List cK) (env:Env) (σ:aq),bP l Q env σ->bP l Q' env σ
 |[],env,σ,hp=>hQ _ _ hp
 |o::r,env,σ,hp=>by
  unfold bP at hp ⊢
  refine⟨hp.1,?_⟩
  replace hp:=hp.2
  split at hp
  ·split at hp
   ·exact mQ hQ r _ _ hp
   ·exact hp.elim
  ·split at hp
   ·exact mQ hQ r _ _ hp
   ·exact hp.elim
  ·split at hp
   ·exact mQ hQ r _ _ hp
   ·exact hp.elim
theorem jW (h:∀f args σ K,X f args σ K->Y f args σ K) (hK:∀f args σ K K',(∀r σ',K r σ'->K' r σ')->Y f args σ K->Y f args σ K'):∀(c:VC) (Q Q':Ex->Env->aq->Prop) (env:Env) (σ:aq),(∀x e s,Q x e s->Q' x e s)->dL X c Q env σ->dL Y c Q' env σ:=by
 intro c
 induction c with
 |skip=>intro Q Q' env σ hQ hp;exact hQ _ _ _ hp
 |exit id=>intro Q Q' env σ hQ hp;exact hQ _ _ _ hp
 |ret=>intro Q Q' env σ hQ hp;exact hQ _ _ _ hp
 |one o c ih=>
  intro Q Q' env σ hQ hp
  unfold dL at hp ⊢
  split at hp
  ·rename_i hw;rw[if_pos hw];exact rR h hK (fun v σ'=>ih Q Q' _ _ hQ) hp
  ·rename_i hw;rw[if_neg hw];exact ih Q Q' _ _ hQ hp
 |both a b iha ihb=>intro Q Q' env σ hQ hp;exact⟨iha Q Q' env σ hQ hp.1,ihb Q Q' env σ hQ hp.2⟩
 |loc t s y c ih=>intro Q Q' env σ hQ hp;exact⟨hp.1,ih Q Q' env σ hQ hp.2⟩
 |Pq ops=>intro Q Q' env σ hQ hp;exact mQ (hQ .normal) ops env σ hp
 |jo draw ops=>intro Q Q' env σ hQ hp;exact kP h hK (hQ .normal) ops env σ hp
 |seq a b iha ihb=>
  intro Q Q' env σ hQ hp
  refine iha _ _ env σ (fun x e s hx=>?_) hp
  cases x with
  |normal=>exact ihb Q Q' e s hQ hx
  |exit id=>exact hQ _ _ _ hx
  |ret=>exact hQ _ _ _ hx
 |cond c a b iha ihb=>
  intro Q Q' env σ hQ hp
  unfold dL at hp ⊢
  split at hp
  ·rename_i t ht
   cases t with
   |true=>exact iha Q Q' env σ hQ hp
   |false=>exact ihb Q Q' env σ hQ hp
  ·exact hp.elim
 |block id a iha=>
  intro Q Q' env σ hQ hp
  refine iha _ _ env σ (fun x e s hx=>?_) hp
  cases x with
  |normal=>exact hQ _ _ _ hx
  |ret=>exact hQ _ _ _ hx
  |exit jQ=>
   unfold aQ at hx ⊢
   dsimp only at hx ⊢
   split at hx
   ·rename_i hid;rw[if_pos hid];exact hQ _ _ _ hx
   ·rename_i hid;rw[if_neg hid];exact hQ _ _ _ hx
 |loop a iha=>
  intro Q Q' env σ hQ hp
  obtain⟨n,hp⟩:=hp
  refine⟨n,?_⟩
  induction n generalizing env σ with
  |zero=>exact hp
  |succ n ihn=>
   refine iha _ _ env σ (fun x e s hx=>?_) hp
   cases x with
   |normal=>exact ihn e s hx
   |exit id=>exact hQ _ _ _ hx
   |ret=>exact hQ _ _ _ hx
theorem aS:pB (Call P):=fun _ _ _ _ _ hK h X hX hc=>hX _ _ _ _ _ hK (h X hX hc)
theorem xZ {f:Nat} {args:List AV} {σ:aq} {K:AV->aq->Prop} (h:OJ P (Call P) f args σ K):Call P f args σ K:=by
 intro X hX hc
 refine hc _ _ _ _ ?_
 rcases h with⟨md,vf,h1,h2,h3⟩|h
 ·exact .inl ⟨md,vf,h1,h2,fun hl=>jW (fun f args σ K h=>h X hX hc) hX _ _ _ _ _ (fun _ _ _ h=>h) (h3 hl)⟩
 ·exact .inr h
theorem uG {f:Nat} {md:List (Nat×Nat)} {args:List AV} {σ:aq} {K:AV->aq->Prop} {vf:IG} (hf:zI P f md=some vf) (ha:vf.y5=args.length) (h:(∀a∈args,eY a)->dL (Call P) vf.body (l9 vf.res K) (bJ args) σ):Call P f args σ K:=
 xZ (.inl ⟨md,vf,hf,ha,h⟩)
theorem oV {f:Nat} {args:List AV} {σ:aq} {K:AV->aq->Prop} {vf:IG} (hf:Bh P f=some vf) (ha:vf.y5=args.length) (h:(∀a∈args,eY a)->dL (Call P) vf.body (l9 vf.res K) (bJ args) σ):Call P f args σ K:=
 uG hf ha h
theorem eV {f:Nat} {args:List AV} {σ:aq} {K:AV->aq->Prop} (h:Sound P f args σ K):Call P f args σ K:=xZ (.inr h)
variable {Q:Ex->Env->aq->Prop} {K:Env->aq->Prop} {env:Env} {σ:aq}
theorem OS {a b:VC} (h:∀N:Env->aq->Prop,(∀e s,dL X b Q e s->N e s)->dL X a (cR N Q) env σ):dL X (.seq a b) Q env σ:=h _ fun _ _ h=>h
theorem Lo (h:Q .normal env σ):dL X .skip Q env σ:=h
theorem Ll {id:Nat} (h:Q (.exit id) env σ):dL X (.exit id) Q env σ:=h
theorem OR (h:Q .ret env σ):dL X .ret Q env σ:=h
theorem Gc {id:Nat} {c:VC} (h:dL X c (aQ id Q) env σ):dL X (.block id c) Q env σ:=h
theorem OP {o:cK} {c:VC} (h:∀N:AV->aq->Prop,(∀v s,dL X c Q (upd env o.dst v) s->N v s)->if ay o.guard env then ew X false o env σ N else N .undef σ):dL X (.one o c) Q env σ:=by
 have:=h (fun v s=>dL X c Q (upd env o.dst v) s) fun _ _ h=>h
 unfold dL
 split
 ·rename_i hw;rw[if_pos hw]at this;exact this
 ·rename_i hw;rw[if_neg hw]at this;exact this
def dw (s n:Nat):AV->Prop
 | .own id 0 _=>id=⟨s,n⟩
 |_=>False
def dz (n:Nat):AV->Prop
 | .own id _ _=>¬id.cW=n
 |_=>True
theorem Lm {t s:Nat} {y:O} {c:VC} (h1:dw s σ.next (env t)) (h2:dz σ.next (cY env y)) (h:dL X c Q env σ):dL X (.loc t s y c) Q env σ:=by
 refine⟨⟨?_,fun id o l he=>?_⟩,h⟩
 ·revert h1
  unfold dw
  split
  ·rename_i id l he;rintro rfl;exact⟨l,he⟩
  ·exact fun h=>h.elim
 ·rw[he]at h2;exact h2
theorem xq {a b:VC} (ha:dL X a Q env σ) (hb:dL X b Q env σ):dL X (.both a b) Q env σ:=⟨ha,hb⟩
theorem OQ {draw:Bool} {ops:List cK} (h:∀N:Env->aq->Prop,(∀e s,Q .normal e s->N e s)->wpOps X draw ops N env σ):dL X (.jo draw ops) Q env σ:=h _ fun _ _ h=>h
theorem Lj {ops:List cK} (h:bP ops (Q .normal) env σ):dL X (.Pq ops) Q env σ:=h
theorem Ln {draw:Bool} (h:K env ⟨σ.get,σ.next+1⟩):wpOps X draw [] K env σ:=h
theorem Uu {draw:Bool} {o:cK} {r:List cK} (h:∀N:AV->aq->Prop,(∀v s,wpOps X draw r K (upd env o.dst v) s->N v s)->if ay o.guard env then ew X draw o env σ N else N .undef σ):wpOps X draw (o::r) K env σ:=by
 have:=h (fun v s=>wpOps X draw r K (upd env o.dst v) s) fun _ _ h=>h
 unfold wpOps
 split
 ·rename_i hw;rw[if_pos hw]at this;exact this
 ·rename_i hw;rw[if_neg hw]at this;exact this
theorem Lk {c:O} {x y:VC} {b:Bool} (hc:cY env c=.bool b) (ht:b=true->dL X x Q env σ) (hf:b=false->dL X y Q env σ):dL X (.cond c x y) Q env σ:=by
 unfold dL
 simp only[hc]
 cases b with
 |true=>exact ht rfl
 |false=>exact hf rfl
inductive uH:AV->Prop->Prop->Prop
 |t {A B:Prop}:A->uH (.bool true) A B
 |f {A B:Prop}:B->uH (.bool false) A B
theorem Gd {c:O} {x y:VC} {v:AV} (hv:cY env c=v) (h:uH v (dL X x Q env σ) (dL X y Q env σ)):dL X (.cond c x y) Q env σ:=by
 cases h with
 |t h=>exact Lk hv (fun _=>h) (fun e=>by cases e)
 |f h=>exact Lk hv (fun e=>by cases e) (fun _=>h)
theorem Q9 {c:VC} (I:Nat->Env->aq->Prop) (n:Nat) (h0:I n env σ) (step:∀n env σ,I n env σ->dL X c (fun x e s=>match x with| .normal=>∃m,m<n/\I m e s|x=>Q x e s) env σ)
  (hX:∀(c:VC) (Q Q':Ex->Env->aq->Prop) env σ,(∀x e s,Q x e s->Q' x e s)->dL X c Q env σ->dL X c Q' env σ):dL X (.loop c) Q env σ:=by
 have key:∀N n env σ,n<N->I n env σ->FR (dL X c) Q N env σ:=by
  intro N
  induction N with
  |zero=>intro n env σ h;exact absurd h (Nat.not_lt_zero _)
  |succ N ih=>
   intro n env σ hn hI
   refine hX c _ _ env σ (fun x e s hx=>?_) (step n env σ hI)
   cases x with
   |normal=>obtain⟨m,hm,Wo⟩:=hx;exact ih m e s ab Wo
   |exit id=>exact hx
   |ret=>exact hx
 exact⟨n+1,key _ n env σ (Nat.lt_succ_self _) h0⟩
theorem NL {c:VC} (I:Nat->Env->aq->Prop) (n:Nat) (h0:I n env σ) (step:∀n env σ,I n env σ->dL (Call P) c (fun x e s=>match x with| .normal=>∃m,m<n/\I m e s|x=>Q x e s) env σ):dL (Call P) (.loop c) Q env σ:=
 Q9 I n h0 step fun c Q Q' env σ hQ h=>jW (fun _ _ _ _ h=>h) aS c Q Q' env σ hQ h
def yc:VC->List Nat
 | .jo _ ops=>ops.filterMap (·.dst)
 | .seq a b=>yc a++yc b
 | .cond _ a b=>yc a++yc b
 | .block _ a=>yc a
 | .loop a=>yc a
 | .one o c=>o.dst.toList++yc c
 | .both a b=>yc a++yc b
 | .loc _ _ _ c=>yc c
 | .Pq ops=>ops.filterMap (·.dst)
 |_=>[]
def iX (l:List Nat) (env iD:Env):Prop:=∀t,l.contains t=false->iD t=env t
theorem iX.refl (l:List Nat) (env:Env):iX l env env:=fun _ _=>rfl
theorem iX.upd {l:List Nat} {e e':Env} {d:Option Nat} {v:AV} (h:iX l e e') (hd:∀t,d=some t->t∈l):iX l e (upd e' d v):=fun t ht=>by
 cases d with
 |none=>exact h t ht
 |some d=>
  have:t≠d:=fun hc=>by subst hc;rw[<-Bool.not_eq_true,List.contains_iff_mem]at ht;exact ht (hd _ rfl)
  show(if t=d then v else e' t)=e t
  rw[if_neg this];exact h t ht
theorem oR {draw:Bool} {Q:Env->aq->Prop} {l:List Nat} {e0:Env}:∀(ops:List cK) (env:Env) (σ:aq),(∀t,t∈ops.filterMap (·.dst)->t∈l)->iX l e0 env->wpOps (Call P) draw ops Q env σ->wpOps (Call P) draw ops (fun e s=>Q e s/\iX l e0 e) env σ
 |[],env,σ,_,hk,hp=>⟨hp,hk⟩
 |o::r,env,σ,hl,hk,hp=>by
  have hd:∀t,o.dst=some t->t∈l:=fun t ht=>hl t (List.mem_filterMap.2 ⟨o,by simp,ht⟩)
  have hr:∀t,t∈r.filterMap (·.dst)->t∈l:=fun t ht=>hl t (by
   obtain⟨x,hx,h⟩:=List.mem_filterMap.1 ht
   exact List.mem_filterMap.2 ⟨x,List.mem_cons_of_mem _ hx,h⟩)
  unfold wpOps at hp ⊢
  split at hp
  ·rename_i hw;rw[if_pos hw]
   exact rR (fun _ _ _ _ h=>h) aS (fun v σ' h=>oR r _ _ hr (hk.upd hd) h) hp
  ·rename_i hw;rw[if_neg hw];exact oR r _ _ hr (hk.upd hd) hp
theorem lp {Q:Env->aq->Prop} {l:List Nat} {e0:Env}:∀(ops:List cK) (env:Env) (σ:aq),(∀t,t∈ops.filterMap (·.dst)->t∈l)->iX l e0 env->bP ops Q env σ->bP ops (fun e s=>Q e s/\iX l e0 e) env σ
 |[],env,σ,_,hk,hp=>⟨hp,hk⟩
 |o::r,env,σ,hl,hk,hp=>by
  have hd:∀t,o.dst=some t->t∈l:=fun t ht=>hl t (List.mem_filterMap.2 ⟨o,by simp,ht⟩)
  have hr:∀t,t∈r.filterMap (·.dst)->t∈l:=fun t ht=>hl t (by
   obtain⟨x,hx,h⟩:=List.mem_filterMap.1 ht
   exact List.mem_filterMap.2 ⟨x,List.mem_cons_of_mem _ hx,h⟩)
  unfold bP at hp ⊢
  refine⟨hp.1,?_⟩
  replace hp:=hp.2
  split at hp
  ·split at hp
   ·exact lp r _ _ hr (hk.upd hd) hp
   ·exact hp.elim
  ·split at hp
   ·exact lp r _ _ hr (hk.upd hd) hp
   ·exact hp.elim
  ·split at hp
   ·exact lp r _ _ hr (hk.upd hd) hp
   ·exact hp.elim
theorem zu {l:List Nat} {e0:Env}:∀(c:VC) (Q:Ex->Env->aq->Prop) (env:Env) (σ:aq),(∀t,t∈yc c->t∈l)->iX l e0 env->dL (Call P) c Q env σ->dL (Call P) c (fun x e s=>Q x e s/\iX l e0 e) env σ:=by
 intro c
 induction c with
 |skip=>intro Q env σ _ hk hp;exact⟨hp,hk⟩
 |exit id=>intro Q env σ _ hk hp;exact⟨hp,hk⟩
 |ret=>intro Q env σ _ hk hp;exact⟨hp,hk⟩
 |one o c ih=>
  intro Q env σ hl hk hp
  have hd:∀t,o.dst=some t->t∈l:=fun t ht=>hl t (List.mem_append_left _ (by rw[ht];simp))
  have hr:∀t,t∈yc c->t∈l:=fun t ht=>hl t (List.mem_append_right _ ht)
  unfold dL at hp ⊢
  split at hp
  ·rename_i hw;rw[if_pos hw]
   exact rR (fun _ _ _ _ h=>h) aS (fun v σ' h=>ih Q _ _ hr (hk.upd hd) h) hp
  ·rename_i hw;rw[if_neg hw];exact ih Q _ _ hr (hk.upd hd) hp
 |both a b iha ihb=>
  intro Q env σ hl hk hp
  exact⟨iha Q env σ (fun t ht=>hl t (List.mem_append_left _ ht)) hk hp.1,ihb Q env σ (fun t ht=>hl t (List.mem_append_right _ ht)) hk hp.2⟩
 |loc t s y c ih=>intro Q env σ hl hk hp;exact⟨hp.1,ih Q env σ hl hk hp.2⟩
 |Pq ops=>intro Q env σ hl hk hp;exact lp ops env σ hl hk hp
 |jo draw ops=>intro Q env σ hl hk hp;exact oR ops env σ hl hk hp
 |seq a b iha ihb=>
  intro Q env σ hl hk hp
  refine jW (fun _ _ _ _ h=>h) aS a _ _ env σ (fun x e s hx=>?_) (iha _ env σ (fun t ht=>hl t (List.mem_append_left _ ht)) hk hp)
  cases x with
  |normal=>exact ihb Q e s (fun t ht=>hl t (List.mem_append_right _ ht)) hx.2 hx.1
  |exit id=>exact hx
  |ret=>exact hx
 |cond c a b iha ihb=>
  intro Q env σ hl hk hp
  unfold dL at hp ⊢
  split at hp
  ·rename_i t ht
   cases t with
   |true=>exact iha Q env σ (fun t ht=>hl t (List.mem_append_left _ ht)) hk hp
   |false=>exact ihb Q env σ (fun t ht=>hl t (List.mem_append_right _ ht)) hk hp
  ·exact hp.elim
 |block id a iha=>
  intro Q env σ hl hk hp
  refine jW (fun _ _ _ _ h=>h) aS a _ _ env σ (fun x e s hx=>?_) (iha _ env σ hl hk hp)
  obtain⟨hx,DT⟩:=hx
  cases x with
  |normal=>exact⟨hx,DT⟩
  |ret=>exact⟨hx,DT⟩
  |exit jQ=>
   unfold aQ at hx ⊢
   dsimp only at hx ⊢
   split at hx
   ·rename_i hid;rw[if_pos hid];exact⟨hx,DT⟩
   ·rename_i hid;rw[if_neg hid];exact⟨hx,DT⟩
 |loop a iha=>
  intro Q env σ hl hk hp
  obtain⟨n,hp⟩:=hp
  refine⟨n,?_⟩
  induction n generalizing env σ with
  |zero=>exact hp
  |succ n ihn=>
   refine jW (fun _ _ _ _ h=>h) aS _ _ _ _ _ (fun x e s hx=>?_) (iha _ env σ hl hk hp)
   obtain⟨hx,DT⟩:=hx
   cases x with
   |normal=>exact ihn e s DT hx
   |exit id=>exact⟨hx,DT⟩
   |ret=>exact⟨hx,DT⟩
theorem cU {c:VC} (I:Nat->Env->aq->Prop) (n:Nat) (h0:I n env σ) (step:∀n e s,I n e s->iX (yc c) env e->dL (Call P) c (fun x e s=>match x with| .normal=>∃m,m<n/\I m e s|x=>Q x e s) e s):dL (Call P) (.loop c) Q env σ:=by
 refine NL (fun n e s=>I n e s/\iX (yc c) env e) n ⟨h0,iX.refl _ _⟩ fun n e s hI=>?_
 refine jW (fun _ _ _ _ h=>h) aS _ _ _ _ _ (fun x e' s' hx=>?_) (zu c _ e s (fun _ h=>h) hI.2 (step n e s hI.1 hI.2))
 obtain⟨hx,hk⟩:=hx
 cases x with
 |normal=>obtain⟨m,hm,h⟩:=hx;exact⟨m,hm,h,hk⟩
 |exit id=>exact hx
 |ret=>exact hx
theorem Lq {k:Nat} (h:k<=9223372036854775807):IntKind.i64.wrap (k:Int)=k:=by rw[IntKind.wrap_i64];omega
theorem dy {z:Int} (h: -9223372036854775808<=z/\z<=9223372036854775807):IntKind.i64.wrap z=z:=by rw[IntKind.wrap_i64];omega
theorem cI {k:Nat} (h:(k:Int)+1<=9223372036854775807):IntKind.i64.wrap ((k:Int)+1)=((k+1:Nat):Int):=by rw[IntKind.wrap_i64];omega
theorem all_succ {k:Nat} {p:Nat->Prop} (h:∀j,j<k->p j) (hk:p k):∀j,j<k+1->p j:=fun j hj=>by
 by_cases FF:j=k
 ·subst FF;exact hk
 ·exact h j ab
theorem aL (g:Rows) (n:Nat) (k:IntKind) (m:Int):fz g (n+1) (.int k m)=some (.int k m):=by rw[fz]<;>intros<;>simp_all
theorem aI (g:Rows) (n:Nat) (b:Bool):fz g (n+1) (.bool b)=some (.bool b):=by rw[fz]<;>intros<;>simp_all
theorem bf (g:Rows) (n:Nat) (b:ByteArray):fz g (n+1) (.str b)=some (.str b):=by rw[fz]<;>intros<;>simp_all
theorem bR (g:Rows) (n:Nat) (l:List (List AV)):fz g (n+1) (.sl l)=some (.sl l):=by rw[fz]<;>intros<;>simp_all
theorem az (g:Rows) (n:Nat):fz g (n+1) .bB=some .bB:=by rw[fz]<;>intros<;>simp_all
def aP (P:Program) (f:Nat) (args:List AV) (r:AV):Prop:=∀n:Nat,Call P f args ⟨fun _=>none,n⟩ fun r0 σ'=>∃r',gE σ'.get 6 r0=some r'/\r'=r
theorem aP.body {f:Nat} {args:List AV} {r:AV} {nt na:Nat} {body:VC} {res:List pq} (hf:Bh P f=some ⟨nt,na,body,res⟩) (ha:na=args.length) (h:(∀a∈args,eY a)->∀n:Nat,dL (Call P) body (l9 res fun r0 σ'=>∃r',gE σ'.get 6 r0=some r'/\r'=r) (bJ args) ⟨fun _=>none,n⟩):aP P f args r:=fun n=>oV hf ha fun hl=>h hl n
theorem aP.x {f:Nat} {args args':List AV} {r:AV} (h:aP P f args' r) {σ:aq} (hv:er (dW σ.get) 6 args=some args'):ez (Call P) f args σ (fun r'=>r'=r):=.inr ⟨args',hv,h _⟩
theorem eW (g:Rows) (n:Nat) (k:IntKind) (m:Int):gE g (n+1) (.int k m)=some (.int k m):=by rw[gE]<;>intros<;>simp_all
theorem iI (g:Rows) (n:Nat) (b:Bool):gE g (n+1) (.bool b)=some (.bool b):=by rw[gE]<;>intros<;>simp_all
theorem mB (g:Rows) (n:Nat) (b:ByteArray):gE g (n+1) (.str b)=some (.str b):=by rw[gE]<;>intros<;>simp_all
theorem lQ (g:Rows) (n:Nat):gE g (n+1) .bB=some .bB:=by rw[gE]<;>intros<;>simp_all
theorem gp (g:Rows) (n:Nat) (l:List AV):gE g (n+1) (.fK l)=(fa g n l).map AV.fK:=by rw[gE]
theorem zX (g:Rows) (n:Nat) (l:List AV):gE g (n+1) (.agg l)=(fa g n l).map AV.agg:=by rw[gE]
theorem zY {g:Rows} {n:Nat} {id:Id} {off len sz:Nat} {rows rows':List (List AV)} (h:g id=some ⟨true,sz,rows⟩) (hl:off+len<=rows.length) (hr:gn g n ((rows.drop off).take len)=some rows'):gE g (n+1) (.own id off len)=some (.sl rows'):=by
 rw[gE];simp only[h,if_true,if_pos hl,hr,Option.map_some]
theorem dH (g:Rows) (n:Nat):fa g n []=some []:=by rw[fa]
theorem cV (g:Rows) (n:Nat) (a:AV) (l:List AV):fa g n (a::l)=match gE g n a with
  |some b=>(fa g n l).map (b::·)
  |none=>none:=by rw[fa];cases gE g n a<;>rfl
theorem tg {g:Rows} {n:Nat}:∀{l:List (List AV)},(∀c∈l,fa g n c=some c)->gn g n l=some l
 |[],_=>by rw[gn]
 |c::r,h=>by rw[gn,h c (by simp),tg fun d hd=>h d (List.mem_cons_of_mem _ hd)];rfl
theorem bc (g:Rows) (n:Nat) (l:List AV):fz g (n+1) (.agg l)=(er g n l).map AV.agg:=by rw[fz]
theorem aA (g:Rows) (n:Nat) (l:List AV):fz g (n+1) (.eT l)=some (.eT l):=by rw[fz]<;>intros<;>simp_all
theorem vJ {g:Rows} {n:Nat} {id:Id} {i off sz:Nat} {rows:List (List AV)} {cs mA:List AV} (h:g id=some ⟨true,sz,rows⟩) (hi:rows[i]? =some cs) (hr:er g n (cs.drop off)=some mA):fz g (n+1) (.ptr id i off)=some (.eT mA):=by
 rw[fz];simp only[h,if_true,hi,hr,Option.map_some]
theorem ae (g:Rows) (n:Nat):er g n []=some []:=by rw[er]
theorem ad (g:Rows) (n:Nat) (a:AV) (l:List AV):er g n (a::l)=match fz g n a with
  |some b=>(er g n l).map (b::·)
  |none=>none:=by rw[er];cases fz g n a<;>rfl
theorem zi {t:Nat} {r r0:AV} {x:Ex} (hx:x=.ret∨x=.normal) (he:env t=r0) (hz:gE σ.get 6 r0=some r):l9 [.tmp t] (fun r0 σ'=>∃r',gE σ'.get 6 r0=some r'/\r'=r) x env σ:=by
 have:∃vs,gR env σ.get [.tmp t]=some vs/\∃r',gE σ.get 6 (iL vs)=some r'/\r'=r:=⟨[env t],rfl,r,by subst he;exact hz,rfl⟩
 rcases hx with rfl|rfl
 ·exact this
 ·exact this
theorem dU {t:Nat} {b c:Bool} {x:Ex} (hx:x=.ret∨x=.normal) (he:env t=.bool b) (hb:b=c):l9 [.tmp t] (fun r0 σ'=>∃r',gE σ'.get 6 r0=some r'/\r'=.bool c) x env σ:=zi hx he (by rw[iI,hb])
theorem fx {t:Nat} {k:IntKind} {b c:Int} {x:Ex} (hx:x=.ret∨x=.normal) (he:env t=.int k b) (hb:b=c):l9 [.tmp t] (fun r0 σ'=>∃r',gE σ'.get 6 r0=some r'/\r'=.int k c) x env σ:=zi hx he (by rw[eW,hb])
theorem l8 {t u:Nat} {r r1 r2:AV} {x:Ex} (hx:x=.ret∨x=.normal) (h1:env t=r1) (h2:env u=r2) (hz:gE σ.get 6 (.fK [r1,r2])=some r):l9 [.tmp t,.tmp u] (fun r0 σ'=>∃r',gE σ'.get 6 r0=some r'/\r'=r) x env σ:=by
 have:∃vs,gR env σ.get [.tmp t,.tmp u]=some vs/\∃r',gE σ.get 6 (iL vs)=some r'/\r'=r:=⟨[env t,env u],rfl,r,by subst h1;subst h2;exact hz,rfl⟩
 rcases hx with rfl|rfl
 ·exact this
 ·exact this
structure Pn (p:Prop):Prop where
 out:p
theorem tw {A B:Prop} (a:A) (b:B):A/\B:=⟨a,b⟩
theorem wk {A R G:Prop} (a:A) (r:R) (h:A->R->G:=by
  intro fL kk
  (repeat(refine Pn.mk ?_;intro N hN))
  (first|((first|apply OS|apply OQ);intro N hN)|((first|(apply Uu;intro N hN)|(apply OP;intro N hN));simp only[go_sem, ↓reduceIte,Nat.reduceEqDiff,Nat.reduceAdd,Nat.reduceSub,Nat.reduceMul,Nat.reduceLeDiff,Nat.reduceBEq,reduceCtorEq,Nat.reduceLT,Int.reduceLE,Int.reduceLT,Int.reduceToNat,Int.reduceNeg,Int.reduceAdd,Int.reduceEq,fL];first|(refine hN _ _ ?_;clear hN N)|skip)|(apply Gd;(simp only[go_sem, ↓reduceIte,Nat.reduceEqDiff,Nat.reduceAdd,Nat.reduceSub,Nat.reduceMul,Nat.reduceLeDiff,Nat.reduceBEq,reduceCtorEq,Nat.reduceLT,Int.reduceLE,Int.reduceLT,Int.reduceToNat,Int.reduceNeg,Int.reduceAdd,Int.reduceEq,fL];rfl);first|with_reducible apply uH.t|with_reducible apply uH.f)|(apply Ln;refine hN _ _ ?_;clear hN N;try(simp only[cR,aQ, ↓reduceIte,Nat.reduceEqDiff]);try(refine hN _ _ ?_;clear hN N))|apply Gc|(refine Lm ?_ ?_ ?_;(focus(simp only[go_sem, ↓reduceIte,Nat.reduceEqDiff,Nat.reduceAdd,Nat.reduceSub,Nat.reduceMul,Nat.reduceLeDiff,Nat.reduceBEq,reduceCtorEq,Nat.reduceLT,Int.reduceLE,Int.reduceLT,Int.reduceToNat,Int.reduceNeg,Int.reduceAdd,Int.reduceEq,fL];done));(focus(simp only[go_sem, ↓reduceIte,Nat.reduceEqDiff,Nat.reduceAdd,Nat.reduceSub,Nat.reduceMul,Nat.reduceLeDiff,Nat.reduceBEq,reduceCtorEq,Nat.reduceLT,Int.reduceLE,Int.reduceLT,Int.reduceToNat,Int.reduceNeg,Int.reduceAdd,Int.reduceEq,fL];done)))|((first|apply Lo|apply Ll|apply OR);try(simp only[cR,aQ, ↓reduceIte,Nat.reduceEqDiff]);try(refine hN _ _ ?_;clear hN N))|((first|refine hN _ _ ?_|(clear hN N;first|refine hN _ _ ?_|(clear hN N;first|refine hN _ _ ?_|(clear hN N;first|refine hN _ _ ?_|(clear hN N;refine hN _ _ ?_)))));clear hN N))
  (repeat(first|((first|apply OS|apply OQ);intro N hN)|((first|(apply Uu;intro N hN)|(apply OP;intro N hN));simp only[go_sem, ↓reduceIte,Nat.reduceEqDiff,Nat.reduceAdd,Nat.reduceSub,Nat.reduceMul,Nat.reduceLeDiff,Nat.reduceBEq,reduceCtorEq,Nat.reduceLT,Int.reduceLE,Int.reduceLT,Int.reduceToNat,Int.reduceNeg,Int.reduceAdd,Int.reduceEq,fL];first|(refine hN _ _ ?_;clear hN N)|skip)|(apply Gd;(simp only[go_sem, ↓reduceIte,Nat.reduceEqDiff,Nat.reduceAdd,Nat.reduceSub,Nat.reduceMul,Nat.reduceLeDiff,Nat.reduceBEq,reduceCtorEq,Nat.reduceLT,Int.reduceLE,Int.reduceLT,Int.reduceToNat,Int.reduceNeg,Int.reduceAdd,Int.reduceEq,fL];rfl);first|with_reducible apply uH.t|with_reducible apply uH.f)|(apply Ln;refine hN _ _ ?_;clear hN N;try(simp only[cR,aQ, ↓reduceIte,Nat.reduceEqDiff]);try(refine hN _ _ ?_;clear hN N))|apply Gc|(refine Lm ?_ ?_ ?_;(focus(simp only[go_sem, ↓reduceIte,Nat.reduceEqDiff,Nat.reduceAdd,Nat.reduceSub,Nat.reduceMul,Nat.reduceLeDiff,Nat.reduceBEq,reduceCtorEq,Nat.reduceLT,Int.reduceLE,Int.reduceLT,Int.reduceToNat,Int.reduceNeg,Int.reduceAdd,Int.reduceEq,fL];done));(focus(simp only[go_sem, ↓reduceIte,Nat.reduceEqDiff,Nat.reduceAdd,Nat.reduceSub,Nat.reduceMul,Nat.reduceLeDiff,Nat.reduceBEq,reduceCtorEq,Nat.reduceLT,Int.reduceLE,Int.reduceLT,Int.reduceToNat,Int.reduceNeg,Int.reduceAdd,Int.reduceEq,fL];done)))|((first|apply Lo|apply Ll|apply OR);try(simp only[cR,aQ, ↓reduceIte,Nat.reduceEqDiff]);try(refine hN _ _ ?_;clear hN N))|((first|refine hN _ _ ?_|(clear hN N;first|refine hN _ _ ?_|(clear hN N;first|refine hN _ _ ?_|(clear hN N;first|refine hN _ _ ?_|(clear hN N;refine hN _ _ ?_)))));clear hN N)))
  (repeat(revert hN;revert N;apply Pn.out))
  exact kk):G:=h a r
theorem sd {A G:Prop} (a:A) (h:A->G:=by
  intro fL
  first|(simp only[go_sem, ↓reduceIte,Nat.reduceEqDiff,Nat.reduceAdd,Nat.reduceSub,Nat.reduceMul,Nat.reduceLeDiff,Nat.reduceBEq,reduceCtorEq,Nat.reduceLT,Int.reduceLE,Int.reduceLT,Int.reduceToNat,Int.reduceNeg,Int.reduceAdd,Int.reduceEq,fL,gR,jV];done)|fail):G:=h a
theorem sl {A G:Prop} (a:A) (h:A->G:=by
  intro fL
  (try simp only[go_sem, ↓reduceIte,Nat.reduceEqDiff,Nat.reduceAdd,Nat.reduceSub,Nat.reduceMul,Nat.reduceLeDiff,Nat.reduceBEq,reduceCtorEq,Nat.reduceLT,Int.reduceLE,Int.reduceLT,Int.reduceToNat,Int.reduceNeg,Int.reduceAdd,Int.reduceEq,fL])
  try rfl):G:=h a
end Go.Proofs.YtakkdjfmiffbfaaGreatDoor.V

namespace Go.Proofs.YtakkdjfmiffbfaaGreatDoor
open Go.RowKit
def Sl (w:World) (fp:List Nat) (v:Value) (n:Nat) (xs:List Value):Prop:=
 ∃A c,v=.slice A n c/\n<=c/\c<=maxLen/\
  ((fp=[]/\n=0)∨∃b o,fp=[b]/\A=some ⟨b,o,none⟩/\∀j u,xs[j]? =some u->w.cell? ⟨b,o+j,none⟩=some u)
def jX (fp:List Nat) (lo hi:Nat):Prop:=∀b∈fp,lo<=b/\b<hi
theorem jX.nil (lo hi:Nat):jX [] lo hi:=fun _ h=>by cases h
theorem Sl.nil (w:World):Sl w [] (.slice none 0 0) 0 []:=⟨none,0,rfl,Nat.le_refl _,by simp[maxLen],.inl ⟨rfl,rfl⟩⟩
def O3 {α:Type} (rep:World->List Nat->List Value->α->Prop) (sz:Nat) (w:World) (oa:List (List Value)) (Fp:List (List Nat)) (ds:List α):Prop:=
 oa.length=ds.length/\Fp.length=ds.length/\∀(i:Nat) (cs:List Value) (f:List Nat) (d:α),oa[i]? =some cs->Fp[i]? =some f->ds[i]? =some d->rep w f cs d/\cs.length=sz
def mo {α:Type} (rep:World->List Nat->List Value->α->Prop) (sz:Nat) (w:World) (fp:List Nat) (v:Value) (ds:List α):Prop:=
 ∃oa Fp V8,fp=V8++Fp.flatten/\Sl w V8 v ds.length oa.flatten/\O3 rep sz w oa Fp ds
theorem qd {α:Type} {Fp:List (List α)} {i:Nat} {f:List α} (h:Fp[i]? =some f):∀b∈f,b∈Fp.flatten:=fun b hb=>
 List.mem_flatten.2 ⟨f,List.mem_of_getElem? h,hb⟩
theorem s9 {α:Type} {oa:List (List α)} {sz:Nat} (h:∀cs∈oa,cs.length=sz) {i j:Nat} {cs:List α} (hi:oa[i]? =some cs) (hj:j<sz):oa.flatten[i*sz+j]? =cs[j]? :=by
 induction oa generalizing i with
 |nil=>simp at hi
 |cons c r ih=>
  have hc:c.length=sz:=h c (by simp)
  cases i with
  |zero=>
   simp at hi;subst hi
   rw[List.flatten_cons,List.getElem?_append_left (by omega)];simp
  |succ i=>
   rw[List.flatten_cons,List.getElem?_append_right (by rw[hc,Nat.succ_mul];omega)]
   have:(i+1)*sz+j-c.length=i*sz+j:=by rw[hc,Nat.succ_mul];omega
   rw[this]
   exact ih (fun cs eb=>h cs (List.mem_cons_of_mem _ eb)) (by simpa using hi)
theorem O3.lens {α:Type} {rep:World->List Nat->List Value->α->Prop} {sz:Nat} {w:World} {oa:List (List Value)} {Fp:List (List Nat)} {ds:List α}
  (h:O3 rep sz w oa Fp ds):∀cs∈oa,cs.length=sz:=fun cs eb=>by
 obtain⟨i,hi,rfl⟩:=List.getElem_of_mem eb
 have h1:i<Fp.length:=by rw[h.2.1,<-h.1];exact hi
 have h2:i<ds.length:=by rw[<-h.1];exact hi
 exact(h.2.2 i _ _ _ (List.getElem?_eq_getElem hi) (List.getElem?_eq_getElem h1) (List.getElem?_eq_getElem h2)).2
theorem mo.at_ {α:Type} {rep:World->List Nat->List Value->α->Prop} {sz:Nat} {w:World} {fp:List Nat} {A:Option Addr} {n c:Nat} {ds:List α}
  (h:mo rep sz w fp (.slice A n c) ds) (k:Nat) (hk:k<ds.length):
  ∃b o cs f,A=some ⟨b,o,none⟩/\b∈fp/\(∀x∈f,x∈fp)/\rep w f cs ds[k]/\cs.length=sz/\∀j u,cs[j]? =some u->w.cell? ⟨b,o+(k*sz+j),none⟩=some u:=by
 obtain⟨oa,Fp,V8,rfl,⟨A',c',hv,_,_,hc⟩,hr⟩:=h
 simp only[Value.slice.injEq]at hv
 obtain⟨rfl,hn,rfl⟩:=hv
 rcases hc with⟨_,h0⟩|⟨b,o,rfl,rfl,hc⟩
 ·omega
 have h1:k<oa.length:=by rw[hr.1];exact hk
 have h2:k<Fp.length:=by rw[hr.2.1];exact hk
 obtain⟨hZ,hl⟩:=hr.2.2 k _ _ _ (List.getElem?_eq_getElem h1) (List.getElem?_eq_getElem h2) (List.getElem?_eq_getElem hk)
 refine⟨b,o,oa[k],Fp[k],rfl,by simp,fun x hx=>List.mem_append_right _ (qd (List.getElem?_eq_getElem h2) x hx),hZ,hl,fun j u hj=>?_⟩
 have iZ:j<sz:=by rw[<-hl];exact(List.getElem?_eq_some_iff.1 hj).1
 exact hc _ u (by rw[s9 hr.lens (List.getElem?_eq_getElem h1) iZ];exact hj)
theorem mo.len {α:Type} {rep:World->List Nat->List Value->α->Prop} {sz:Nat} {w:World} {fp:List Nat} {v:Value} {ds:List α}
  (h:mo rep sz w fp v ds):∃A c,v=.slice A ds.length c/\ds.length<=c/\c<=maxLen:=by
 obtain⟨_,_,_,_,⟨A,c,hv,h1,h2,_⟩,_⟩:=h
 exact⟨A,c,hv,h1,h2⟩
theorem mo.nil {α:Type} (rep:World->List Nat->List Value->α->Prop) (sz:Nat) (w:World):mo rep sz w [] (.slice none 0 0) ([]:List α):=
 ⟨[],[],[],rfl,Sl.nil w,rfl,rfl,fun i cs f d hc=>by simp at hc⟩
def Flat {α:Type} (enc:α->List Value):World->List Nat->List Value->α->Prop:=fun _ f cs d=>f=[]/\cs=enc d
def Q (w w':World):Prop:=∃q,w'=w.drewN q
theorem IU {B:Nat} {a w:World} (h:Below B a w) (n:Nat):Below B a (w.drewN n):=⟨h.os,h.tape,h.output,h.size,h.block⟩
theorem kJ {a b:Bool} (h:a=b):Ending.returned (.bool a)=.returned (.bool b):=by rw[h]
theorem F0 {k:IntKind} {a b:Int} (h:a=b):Ending.returned (.int k a)=.returned (.int k b):=by rw[h]
def Unf (w:World) (b:Nat):Prop:=∃cs e,w.heap[b]? =some (.cells cs e (0,0))
def putCells (w:World) (g:Nat):Nat->List Value->World
 |_,[]=>w
 |i,v::r=>putCells (w.setCell ⟨g,i,none⟩ v) g (i+1) r
theorem heap_setCell_same {w:World} {g:Nat} {cs:Array Value} {t:TypeId} {fr:Nat×Nat} (h:w.heap[g]? =some (.cells cs t fr)) (i:Nat) (u:Value):
  (w.setCell ⟨g,i,none⟩ u).heap[g]? =some (.cells (cs.setIfInBounds i u) t fr):=by
 simp[World.setCell,Array.getElem?_modify,h]
structure j9 (fp:List Nat) (w w':World):Prop where
 os:w'.os=w.os
 tape:w'.tape=w.tape
 output:w'.output=w.output
 size:w.heap.size<=w'.heap.size
 block:∀x,x<w.heap.size->x∉fp->w'.heap[x]? =w.heap[x]?
 unf:∀x,Unf w x->Unf w' x
theorem j9.trans {fp:List Nat} {a b c:World} (h:j9 fp a b) (k:j9 fp b c):j9 fp a c:=
 ⟨k.os.trans h.os,k.tape.trans h.tape,k.output.trans h.output,Nat.le_trans h.size k.size,fun x h1 h2=>(k.block x (Nat.lt_of_lt_of_le h1 h.size) h2).trans (h.block x h1 h2),fun x hx=>k.unf x (h.unf x hx)⟩
structure af where
 fu:Int
 eZ:Int
deriving DecidableEq
structure aa where
 cG:af
 cL:Int
deriving DecidableEq
structure C6 where
 ah:List aa
deriving DecidableEq
structure eS where
 dG:ByteArray
 gH:Int
deriving DecidableEq
structure dR where
 dG:ByteArray
 dM:List Int
deriving DecidableEq
structure aH where
 bU:List eS
 ah:List dR
deriving DecidableEq
structure ax where
 ar:aH
 dI:C6
 bD:Int
deriving DecidableEq
def fQ (d:af):List Value:=[.int .i64 d.fu,.int .i64 d.eZ]
def fq (d:aa):List Value:=[.int .i64 d.cG.fu,.int .i64 d.cG.eZ,.int .i64 d.cL]
end Go.Proofs.YtakkdjfmiffbfaaGreatDoor

namespace Go.Proofs.YtakkdjfmiffbfaaGreatDoor.V
open Go.RowKit
variable {P:Program} {w:World} {D:Nat->Prop}
def It (P:Program) (w:World) (D:Nat->Prop) (al:List AV) (cs:List Value):Prop:=∀(j:Nat) (a:AV),al[j]? =some a->∃u:Value,cs[j]? =some u/\jK P w D a u
theorem K0 {α:Type} {rep:World->List Nat->List Value->α->Prop} {e:α->List AV} {sz:Nat} {f:List Nat} {v:Value} {xs:List α} (h:mo rep sz w f v xs) (hD:∀b∈f,D b)
  (hl:∀x∈xs,(e x).length=sz) (hc:∀x∈xs,∀a∈e x,a.cell=true) (hr:∀x∈xs,∀f' cs,rep w f' cs x->(∀b∈f',D b)->It P w D (e x) cs):jK P w D (.sl (xs.map e)) v:=by
 obtain⟨A,c,rfl,h1,h2⟩:=mo.len h
 by_cases h0:xs=[]
 ·subst h0;exact .AU _ _ h2
 have kq:0<xs.length:=List.length_pos_iff.2 h0
 obtain⟨b,o,UN,f0,rfl,hb,U9,Xf,Mw,jA⟩:=mo.at_ h 0 kq
 have key:∀(i:Nat) (hi:i<xs.length),∃cs f',(∀x∈f',x∈f)/\rep w f' cs xs[i]/\cs.length=sz/\∀j u,cs[j]? =some u->w.cell? ⟨b,o+(i*sz+j),none⟩=some u:=by
  intro i hi
  obtain⟨b',o',cs,f',U8,_,WJ,nL,eb,j3⟩:=mo.at_ h i hi
  simp only[Option.some.injEq,Addr.mk.injEq,and_true]at U8
  obtain⟨rfl,rfl⟩:=U8
  exact⟨cs,f',WJ,nL,eb,j3⟩
 refine .sl _ b o _ c sz (fun i j=>(w.cell? ⟨b,o+(i*sz+j),none⟩).getD Go.undef) (by simp) h1 h2 (hD b hb) ?_ ?_ ?_ ?_
 ·intro cs eb
  obtain⟨x,hx,rfl⟩:=List.mem_map.1 eb
  exact hl x hx
 ·intro cs eb
  obtain⟨x,hx,rfl⟩:=List.mem_map.1 eb
  exact hc x hx
 ·intro i j hi hj
  obtain⟨cs,f',_,_,eb,j3⟩:=key i hi
  rw[j3 j cs[j] (List.getElem?_eq_getElem ab)]
  rfl
 ·intro i j cs a eb ha
  have hi:i<xs.length:=by
   have:=(List.getElem?_eq_some_iff.1 eb).1
   simpa using this
  obtain⟨mA,f',WJ,nL,hcs',j3⟩:=key i hi
  simp[hi]at eb
  subst eb
  obtain⟨u,hu,him⟩:=hr _ (List.getElem_mem hi) f' mA nL (fun b hb=>hD b (WJ b hb)) j a ha
  rw[j3 j u hu]
  exact him
end Go.Proofs.YtakkdjfmiffbfaaGreatDoor.V

namespace Go.Proofs.YtakkdjfmiffbfaaGreatDoor.V
open Go.RowKit
variable {P:Program} {w:World} {D:Nat->Prop}
def bE (d:Int):List AV:=[.int .i64 d]
def aj (d:af):List AV:=[.int .i64 d.fu,.int .i64 d.eZ]
def ai (d:aa):List AV:=[.int .i64 d.cG.fu,.int .i64 d.cG.eZ,.int .i64 d.cL]
def ea (d:eS):List AV:=[.str d.dG,.int .i64 d.gH]
def dS (d:dR):List AV:=[.str d.dG,.sl (d.dM.map bE)]
def ao (d:aH):List AV:=[.sl (d.bU.map ea),.sl (d.ah.map dS)]
def ej (d:ax):List AV:=[.sl (d.ar.bU.map ea),.sl (d.ar.ah.map dS),.sl (d.dI.ah.map ai),.int .i64 d.bD]
end Go.Proofs.YtakkdjfmiffbfaaGreatDoor.V

namespace Go.Proofs.YtakkdjfmiffbfaaGreatDoor.V
open Go.RowKit
variable {P:Program} {X:fU} {env:Env} {σ:aq}
theorem bh (g:Rows) (n:Nat) (l:List AV):fz g (n+1) (.fK l)=(er g n l).map AV.fK:=by rw[fz]
theorem cj (g:Rows) (n:Nat) (f:Nat) (l:List AV):fz g (n+1) (.fn f l)=if l.all AV.cell then(er g n l).map (AV.fn f)else none:=by rw[fz]
theorem aJ (g:Rows) (n:Nat) (id:Id) (i off:Nat):fz g (n+1) (.ptr id i off)=match g id with
  |some r=>if r.w then(match r.rows[i]? with
   |some cs=>(er g n (cs.drop off)).map AV.eT
   |none=>none)else none
  |none=>none:=by rw[fz];rfl
theorem mC (g:Rows) (n:Nat) (id:Id) (off len:Nat):fz g (n+1) (.own id off len)=match g id with
  |some r=>if r.w then(if off+len<=r.rows.length then(eX g n ((r.rows.drop off).take len)).map AV.sl else none)else none
  |none=>none:=by rw[fz];rfl
theorem tf (g:Rows) (n:Nat):eX g n []=some []:=by rw[eX]
theorem qM (g:Rows) (n:Nat) (c:List AV) (l:List (List AV)):eX g n (c::l)=match er g n c with
  |some b=>(eX g n l).map (b::·)
  |none=>none:=by rw[eX];cases er g n c<;>rfl
theorem vH {g:Rows} {n:Nat}:∀{l:List (List AV)},(∀c∈l,er g n c=some c)->eX g n l=some l
 |[],_=>by rw[eX]
 |c::r,h=>by rw[eX,h c (by simp),vH fun d hd=>h d (List.mem_cons_of_mem _ hd)];rfl
theorem pW {α:Type} {g:Rows} {n:Nat} {e:α->List AV} {l:List α} (h:∀x,er g n (e x)=some (e x)):eX g n (l.map e)=some (l.map e):=vH fun c hc=>by
 obtain⟨x,_,rfl⟩:=List.mem_map.1 hc
 exact h x
theorem BF {α:Type} {g:Rows} {n:Nat} {e:α->List AV} {l:List α} (h:∀x,fa g n (e x)=some (e x)):gn g n (l.map e)=some (l.map e):=tg fun c hc=>by
 obtain⟨x,_,rfl⟩:=List.mem_map.1 hc
 exact h x
theorem gi {α:Type} {g:Rows} {n:Nat} {e:α->List AV} {l:List α} {id:Id} {sz len:Nat} (hg:g id=some ⟨true,sz,l.map e⟩) (hl:len=l.length) (h:∀x,er g n (e x)=some (e x)):fz g (n+1) (.own id 0 len)=some (.sl (l.map e)):=by
 subst hl
 rw[mC];simp only[hg,if_true]
 rw[if_pos (by simp),List.drop_zero,List.take_of_length_le (by simp),pW h];rfl
theorem fN {α:Type} {g:Rows} {n:Nat} {e:α->List AV} {l:List α} {id:Id} {sz len:Nat} (hg:g id=some ⟨true,sz,l.map e⟩) (hl:len=l.length) (h:∀x,fa g n (e x)=some (e x)):gE g (n+1) (.own id 0 len)=some (.sl (l.map e)):=by
 subst hl
 exact zY hg (by simp) (by rw[List.drop_zero,List.take_of_length_le (by simp),BF h])
theorem all_map {α:Type} {e:α->List AV} {sz:Nat} {l:List α} (h:∀x,(e x).length=sz/\(e x).all AV.cell=true):(l.map e).all (fun c=>c.length==sz&&c.all AV.cell)=true:=by
 rw[List.all_eq_true]
 intro c hc
 obtain⟨x,_,rfl⟩:=List.mem_map.1 hc
 simp[(h x).1,(h x).2]
theorem tG {res:List pq} {r:AV} {vs:List AV} {x:Ex} (hx:x=.ret∨x=.normal) (hv:gR env σ.get res=some vs) (hz:gE σ.get 6 (iL vs)=some r):l9 res (fun r0 σ'=>∃r',gE σ'.get 6 r0=some r'/\r'=r) x env σ:=by
 rcases hx with rfl|rfl
 ·exact⟨vs,hv,r,hz,rfl⟩
 ·exact⟨vs,hv,r,hz,rfl⟩
theorem eK {res:List pq} {K:AV->aq->Prop} {vs:List AV} {x:Ex} (hx:x=.ret∨x=.normal) (hv:gR env σ.get res=some vs) (hK:K (iL vs) σ):l9 res K x env σ:=by
 rcases hx with rfl|rfl
 ·exact⟨vs,hv,hK⟩
 ·exact⟨vs,hv,hK⟩
theorem eU {f:Nat} {args:List AV} {σ:aq} {K:AV->aq->Prop} {nt na:Nat} {body:VC} {res:List pq} (hf:Bh P f=some ⟨nt,na,body,res⟩) (ha:na=args.length) (h:(∀a∈args,eY a)->dL (Call P) body (l9 res K) (bJ args) σ):Call P f args σ K:=oV hf ha h
theorem Ir {f:Nat} {md:List (Nat×Nat)} {args:List AV} {σ:aq} {K:AV->aq->Prop} {nt na:Nat} {body:VC} {res:List pq} (hf:zI P f md=some ⟨nt,na,body,res⟩) (ha:na=args.length) (h:(∀a∈args,eY a)->dL (Call P) body (l9 res K) (bJ args) σ):Call P f args σ K:=uG hf ha h
theorem dE {i:Id} {n:Nat} (h:i.cW<n):(∀s,(i=⟨s,n⟩)=False/\(i=⟨s,n+1⟩)=False/\(i=⟨s,n+1+1⟩)=False/\(i=⟨s,n+1+1+1⟩)=False/\(i=⟨s,n+1+1+1+1⟩)=False/\(i=⟨s,n+1+1+1+1+1⟩)=False/\(i=⟨s,n+1+1+1+1+1+1⟩)=False/\(i=⟨s,n+1+1+1+1+1+1+1⟩)=False/\(i=⟨s,n+1+1+1+1+1+1+1+1⟩)=False/\(i=⟨s,n+1+1+1+1+1+1+1+1+1⟩)=False/\(⟨s,n⟩=i)=False/\(⟨s,n+1⟩=i)=False/\(⟨s,n+1+1⟩=i)=False/\(⟨s,n+1+1+1⟩=i)=False/\(⟨s,n+1+1+1+1⟩=i)=False/\(⟨s,n+1+1+1+1+1⟩=i)=False/\(⟨s,n+1+1+1+1+1+1⟩=i)=False/\(⟨s,n+1+1+1+1+1+1+1⟩=i)=False/\(⟨s,n+1+1+1+1+1+1+1+1⟩=i)=False/\(⟨s,n+1+1+1+1+1+1+1+1+1⟩=i)=False)/\(i.cW=n)=False/\(i.cW=n+1)=False/\(i.cW=n+1+1)=False/\(i.cW=n+1+1+1)=False/\(i.cW=n+1+1+1+1)=False/\(i.cW=n+1+1+1+1+1)=False/\(i.cW=n+1+1+1+1+1+1)=False/\(i.cW=n+1+1+1+1+1+1+1)=False/\(i.cW=n+1+1+1+1+1+1+1+1)=False/\(i.cW=n+1+1+1+1+1+1+1+1+1)=False:=by
 refine⟨fun s=>?_,?_⟩
 ·obtain⟨a,b⟩:=i
  simp only[Id.mk.injEq,eq_iff_iff,iff_false,not_and]
  simp only at h
  refine⟨?_,?_,?_,?_,?_,?_,?_,?_,?_,?_,?_,?_,?_,?_,?_,?_,?_,?_,?_,?_⟩<;>(intros;omega)
 ·simp only[eq_iff_iff,iff_false]
  refine⟨?_,?_,?_,?_,?_,?_,?_,?_,?_,?_⟩<;>omega
end Go.Proofs.YtakkdjfmiffbfaaGreatDoor.V

namespace Go.Proofs.YtakkdjfmiffbfaaGreatDoor.V
open Go.RowKit
attribute [local irreducible] dL wpOps ez Call
attribute [local go_sem] ay ew dZ eE eC cY upd bJ K.av bZ AV.cells AV.cell rowOf rowsOf part ld rowAt eO bH bI cX dj eQ bq cF dx eA ed cQ dq cD cC dc de bu aE cm bt cr cq dn dr dp ck bz cE dm br aw cw bQ eP aZ bW bx aD cR aQ cZ AV.undef bd bj dh di c6 da bV dw dz bP du dt cu cz List.getD_cons_zero List.getD_cons_succ List.getD_nil List.all_cons List.all_nil Bool.and_true Bool.true_and Bool.and_self Bool.not_true Bool.not_false Option.map_some Option.map_none Option.bind_some Option.bind_none List.length_cons List.length_nil List.take_succ_cons List.take_zero List.take_nil List.drop_succ_cons List.drop_zero List.drop_nil List.head?_cons List.map_cons List.map_nil List.getElem?_cons_zero List.getElem?_cons_succ List.cons_append List.nil_append List.append_nil List.length_map List.set_cons_zero List.set_cons_succ Nat.reduceMul eq_self Int.toNat_natCast Int.natCast_nonneg and_self true_and and_true decide_true decide_false Bool.false_eq_true Nat.zero_add Nat.add_zero List.contains_cons List.contains_nil Bool.or_false Bool.false_or beq_self_eq_true Nat.reduceBEq ne_eq not_true_eq_false not_false_eq_true Id.mk.injEq false_and and_false Nat.reduceLT Int.reduceLE Int.reduceLT Int.reduceToNat Int.reduceNeg Int.reduceAdd Nat.le_refl List.length_append beq_true beq_false Bool.not_eq_eq_eq_not or_false false_or dW ad ae aL aI bf bR az bc aA aJ cj bh
variable {P:Program}
theorem Ra {X:fU} {Q:Ex->Env->aq->Prop} {N:Env->aq->Prop} {c:VC} {env:Env} {σ:aq} (I:Env->aq->Prop) (h2:∀e s,I e s->N e s) (h1:∀N':Env->aq->Prop,(∀e s,I e s->N' e s)->dL X c (cR N' Q) env σ):dL X c (cR N Q) env σ:=h1 N h2
def sw (f z:Nat) (a:Bool):IG:=let s:=f*1000000
 ⟨19,2,(.seq (.jo false [q 4 (.gy (.k (.int .i64 0))) s]) (.seq (.seq (.jo false [q 6 (.gy (.t 0)) (s+1000),q 7 (.len (.t 6)) (s+1001),q 8 (.gy (.k (.int .i64 0))) (s+1002)]) (.block 0 (.loop (.seq (.jo false [q 9 (.bin .lss .i64 (.t 8) (.t 7)) (s+2000)]) (.seq (.cond (.t 9) .skip (.exit 0)) (.seq (.block 1 (.seq (.jo false [q 10 (.gy (.t 8)) (s+3000),q 5 (.gy (.t 10)) (s+3001)]) (.seq (.jo false [q 11 (.gy (.t 1)) (s+4000),q 12 (.gy (.t 0)) (s+4001),q 13 (.gy (.t 5)) (s+4002),q 14 (.lf z (.t 12) (.t 13)) (s+4003),q 15 (.load a z (.t 14)) (s+4004),q 16 (.s7 (.t 11) [(.t 15)]) (s+4005)]) (.cond (.t 16) (.seq (.jo false [q 17 (.gy (.t 5)) (s+5000),q 4 (.gy (.t 17)) (s+5001)]) .ret) .skip)))) (.jo false [q 18 (.bin .add .i64 (.t 8) (.k (.int .i64 1))) (s+6000),q 8 (.gy (.t 18)) (s+6001)]))))))) (.seq (.jo false [q 4 (.gy (.k (.int .i64 (-1)))) (s+7000)]) .ret))),[(.tmp 4)]⟩
def z6 (f g:Nat):IG:=let s:=f*1000000
 ⟨9,2,(.seq (.jo false [q 4 (.gy (.k (.bool false))) s]) (.seq (.jo false [q 5 (.gy (.t 0)) (s+1000),q 6 (.gy (.t 1)) (s+1001),q 7 (.call g [(.t 5),(.t 6)]) (s+1002),q 8 (.bin .geq .i64 (.t 7) (.k (.int .i64 0))) (s+1003),q 4 (.gy (.t 8)) (s+1004)]) .ret)),[(.tmp 4)]⟩
def kj {α:Type} (p:α->Bool) (xs:List α):Int:=if xs.findIdx p<xs.length then(xs.findIdx p:Int)else -1
theorem Jg {α:Type} (p:α->Bool) (xs:List α):decide (0<=kj p xs)=xs.any p:=by
 unfold kj
 by_cases h:xs.findIdx p<xs.length
 ·rw[if_pos h]
  have:xs.any p=true:=List.any_eq_true.2 (List.findIdx_lt_length.1 h)
  rw[this];simp
 ·rw[if_neg h]
  have:xs.any p=false:=by
   rw[Bool.eq_false_iff]
   intro hc
   exact h (List.findIdx_lt_length.2 (List.any_eq_true.1 hc))
  rw[this];rfl
theorem uh (a:AV) (l m:List AV):a::l++m=a::(l++m):=rfl
theorem zC (l:List AV):[]++l=l:=rfl
structure RV {α:Type} (e:α->List AV) (v:α->AV) (z:Nat) (a:Bool):Prop where
 len:∀x,(e x).length=z
 val:∀x,if a=true then v x=.agg (e x)else e x=[v x]
 fz:∀x g,er g 6 [v x]=some [v x]
theorem tA {α:Type} {e:α->List AV} {v:α->AV} {z fk:Nat} {a:Bool} (hE:RV e v z a) (hc:Bh P fk=some (sw fk z a)) (xs:List α) (hlen:xs.length<=1048576) (f:Nat) (dJ:List AV) (p:α->Bool)
  (hf:∀x∈xs,aP P f (v x::dJ) (.bool (p x))) (JB:∀g,er g 6 dJ=some dJ):
  aP P fk [.sl (xs.map e),.fn f dJ] (.int .i64 (kj p xs)):=by
 refine aP.body hc rfl fun hl n0=>?_
 try simp only[q]
 clear hl
 (try((repeat(revert hN;revert N;apply Pn.out));refine wk @Nat.zero_add ?_;(repeat(refine Pn.mk ?_;intro N hN))))
 refine cU (fun n env st=>∃k:Nat,n=(xs.length)-k/\k<=(xs.length)/\env 8=.int .i64 (k:Int)/\(∀j:Nat,j<k->∀h:j<xs.length,p xs[j]=false)) (xs.length) ⟨0,ab,ab,sl @Nat.zero_add,fun _ h=>absurd h (Nat.not_lt_zero _)⟩ ?_
 rintro n_a env_a st_a ⟨k,rfl,ale,a8,ug⟩ eL
 have a0:=eL 0 (by kernel_rfl);have a1:=eL 1 (by kernel_rfl);have a7:=eL 7 (by kernel_rfl)
 simp only[go_sem, ↓reduceIte,Nat.reduceEqDiff,Nat.reduceAdd,Nat.reduceSub,Nat.reduceLeDiff,reduceCtorEq]at a0 a1 a7
 clear eL
 by_cases hk:(k:Int)<(xs.length:Int)
 ·have eB:∀{e:Env},(e 8=.int .i64 (IntKind.i64.wrap ((k:Int)+1)))->(∀h:k<xs.length,p xs[k]=false)->∃m0,m0<(xs.length)-k/\∃k:Nat,m0=(xs.length)-k/\k<=(xs.length)/\e 8=.int .i64 (k:Int)/\(∀j:Nat,j<k->∀h:j<xs.length,p xs[j]=false):=fun x1 x2=>⟨_,ab,k+1,rfl,ab,(by rw[x1,cI ab]),(all_succ ug x2)⟩
  have jB:k<xs.length:=ab
  have hg:(xs.map e)[k]? =some (e xs[k]):=by simp[jB]
  have BY:=hf _ (List.getElem_mem jB)
  have hz:=hE.len xs[k]
  have hv:=hE.val xs[k]
  have nH:er (dW st_a.get) 6 (v xs[k]::dJ)=some (v xs[k]::dJ):=by
   have h1:=hE.fz xs[k] (dW st_a.get)
   rw[ad,ae]at h1
   rw[ad,JB]
   revert h1
   cases V.fz (dW st_a.get) 6 (v xs[k])<;>simp
  have fin:∀hN:True,(p xs[k]=true->xs.findIdx p=k):=fun _ hp=>by
   rw[List.findIdx_eq jB];exact⟨hp,fun j hj=>ug j hj ab⟩
  cases hp:p xs[k]
  ·have Vk:=hp
   cases a
   ·rw[if_neg (by simp)]at hv
    have pM:z=1:=by rw[<-hz,hv];rfl
    subst pM
    rw[hv]at hg hz
    rw[hp]at BY
    generalize v xs[k]=c at BY nH hg hz
    (try((repeat(revert hN;revert N;apply Pn.out));refine wk (tw @a8 (tw @a0 (tw @a1 (tw @a7 (tw @hk (tw @hg (tw @hz (tw @uh @zC)))))))) ?_;(repeat(refine Pn.mk ?_;intro N hN))))
    refine .inl ⟨_,aP.x BY nH,?_⟩
    refine hN _ _ ?_
    clear hN N
    (try((repeat(revert hN;revert N;apply Pn.out));refine wk (tw @a8 (tw @a0 (tw @a1 @a7))) ?_;(repeat(refine Pn.mk ?_;intro N hN))))
    exact eB (sd (tw @a8 (tw @a0 (tw @a1 @a7)))) (fun _=>Vk)
   ·rw[if_pos rfl]at hv
    have ht:(e xs[k]).take z=e xs[k]:=by rw[<-hz,List.take_length]
    rw[hv]at BY nH
    rw[hp]at BY
    generalize e xs[k]=c at BY nH hg hz ht
    (try((repeat(revert hN;revert N;apply Pn.out));refine wk (tw @a8 (tw @a0 (tw @a1 (tw @a7 (tw @hk (tw @hg (tw @hz (tw @ht (tw @uh (tw @zC @Nat.le_refl)))))))))) ?_;(repeat(refine Pn.mk ?_;intro N hN))))
    refine .inl ⟨_,aP.x BY nH,?_⟩
    refine hN _ _ ?_
    clear hN N
    (try((repeat(revert hN;revert N;apply Pn.out));refine wk (tw @a8 (tw @a0 (tw @a1 @a7))) ?_;(repeat(refine Pn.mk ?_;intro N hN))))
    exact eB (sd (tw @a8 (tw @a0 (tw @a1 @a7)))) (fun _=>Vk)
  ·have hi:=fin trivial hp
   cases a
   ·rw[if_neg (by simp)]at hv
    have pM:z=1:=by rw[<-hz,hv];rfl
    subst pM
    rw[hv]at hg hz
    rw[hp]at BY
    generalize v xs[k]=c at BY nH hg hz
    (try((repeat(revert hN;revert N;apply Pn.out));refine wk (tw @a8 (tw @a0 (tw @a1 (tw @a7 (tw @hk (tw @hg (tw @hz (tw @uh @zC)))))))) ?_;(repeat(refine Pn.mk ?_;intro N hN))))
    refine .inl ⟨_,aP.x BY nH,?_⟩
    refine hN _ _ ?_
    clear hN N
    (try((repeat(revert hN;revert N;apply Pn.out));refine wk (tw @a8 (tw @a0 (tw @a1 @a7))) ?_;(repeat(refine Pn.mk ?_;intro N hN))))
    exact fx (b:=(k:Int)) (.inl rfl) (sd @Nat.zero_add) (by rw[kj,hi,if_pos jB])
   ·rw[if_pos rfl]at hv
    have ht:(e xs[k]).take z=e xs[k]:=by rw[<-hz,List.take_length]
    rw[hv]at BY nH
    rw[hp]at BY
    generalize e xs[k]=c at BY nH hg hz ht
    (try((repeat(revert hN;revert N;apply Pn.out));refine wk (tw @a8 (tw @a0 (tw @a1 (tw @a7 (tw @hk (tw @hg (tw @hz (tw @ht (tw @uh (tw @zC @Nat.le_refl)))))))))) ?_;(repeat(refine Pn.mk ?_;intro N hN))))
    refine .inl ⟨_,aP.x BY nH,?_⟩
    refine hN _ _ ?_
    clear hN N
    (try((repeat(revert hN;revert N;apply Pn.out));refine wk (tw @a8 (tw @a0 (tw @a1 @a7))) ?_;(repeat(refine Pn.mk ?_;intro N hN))))
    exact fx (b:=(k:Int)) (.inl rfl) (sd @Nat.zero_add) (by rw[kj,hi,if_pos jB])
 ·(try((repeat(revert hN;revert N;apply Pn.out));refine wk (tw @a8 (tw @a0 (tw @a1 (tw @a7 @hk)))) ?_;(repeat(refine Pn.mk ?_;intro N hN))))
  have hi:¬xs.findIdx p<xs.length:=by
   rw[List.findIdx_lt_length]
   rintro⟨x,hx,Qp⟩
   obtain⟨j,hj,rfl⟩:=List.getElem_of_mem hx
   rw[ug j ab hj]at Qp;cases Qp
  exact fx (b:=-1) (.inl rfl) (sd @Nat.zero_add) (by rw[kj,if_neg hi])
theorem ki {α:Type} {e:α->List AV} {v:α->AV} {z fk gk:Nat} {a:Bool} (hE:RV e v z a) (hc:Bh P fk=some (z6 fk gk)) (jv:Bh P gk=some (sw gk z a)) (xs:List α) (hlen:xs.length<=1048576) (f:Nat) (dJ:List AV) (p:α->Bool) (BQ:dJ.all AV.cell=true) (Mx:∀g,er g 5 dJ=some dJ)
  (hf:∀x∈xs,aP P f (v x::dJ) (.bool (p x))) (JB:∀g,er g 6 dJ=some dJ):
  aP P fk [.sl (xs.map e),.fn f dJ] (.bool (xs.any p)):=by
 refine aP.body hc rfl fun hl n0=>?_
 try simp only[q]
 clear hl
 have hi:=tA hE jv xs hlen f dJ p hf JB
 (repeat(first|((repeat(revert hN;revert N;apply Pn.out));refine wk (tw @BQ @Mx) ?_;(repeat(refine Pn.mk ?_;intro N hN)))|((try apply Or.inl);refine⟨_,aP.x (hi) (sd (tw @BQ @Mx)),?_⟩;refine hN _ _ ?_;clear hN N)))
 exact dU (b:=decide (0<=kj p xs)) (.inl rfl) (sd @Nat.zero_add) (Jg p xs)
end Go.Proofs.YtakkdjfmiffbfaaGreatDoor.V

namespace Go.Proofs.YtakkdjfmiffbfaaGreatDoor.V
open Go.RowKit
def pa (P:Program) (mk:Bool):List Oper->Nat->List Nat
 |[],_=>[]
 |o::r,i=>match qo P o.op with
  |some v=>if qc v||mk&&v.lz then i::pa P mk r (i+1)else pa P mk r (i+1)
  |none=>pa P mk r (i+1)
def uZ (P:Program) (ops:Array Oper) (site0:Nat) (mk:Bool) (bs:Array Nat) (hidden:List Nat):List Oper->Nat->Option (List cK)
 |[],_=>some []
 |o::r,j=>do
  let v <-qo P o.op
  let g <-Dn ops o
  pure ({dst:=o.dst,op:=v,guard:=g,site:=site0+j,hid:=(hidden.filter fun i=> !(bs.getD j 0).testBit i&&(i !=j||mk&&v.lz)).map fun i=>site0+i}::(<-uZ P ops site0 mk bs hidden r (j+1)))
def nZ (P:Program) (md:List (Nat×Nat)) (fid:Nat):Code->Option VC
 | .skip=>some .skip
 | .region id ops draw=>if draw&&sE md id==2 then(uZ P ops ((fid*1000+id)*1000) false (jb ops) (pa P false ops.toList 0) ops.toList 0).bind fun vl=>tL ops vl (jb ops) ops.size (Array.replicate ops.size false)else if draw then(uZ P ops ((fid*1000+id)*1000) (sE md id==1) (jb ops) (pa P (sE md id==1) ops.toList 0) ops.toList 0).map (VC.jo true)else(uZ P ops ((fid*1000+id)*1000) false #[] [] ops.toList 0).map (if ops.toList.any fun o=>Oy o.op then VC.Pq else VC.jo false)
 | .seq a b=>do pure (.seq (<-nZ P md fid a) (<-nZ P md fid b))
 | .cond c x y=>do pure (.cond (<-cO P c) (<-nZ P md fid x) (<-nZ P md fid y))
 | .block id c=>(nZ P md fid c).map (VC.block id)
 | .loop c=>(nZ P md fid c).map VC.loop
 | .exit id=>some (.exit id)
 | .ret=>some .ret
 | .label _=>some .skip
 | .scope c=>nZ P md fid c
 |_=>none
def R7 (P:Program) (md:List (Nat×Nat)) (f:Nat):Option IG:=
 match P.funcs[f]? with
 |some fn=>match fn.body with
  |some c=>do
   let b <-nZ P md f c
   let r <-fn.results.toList.mapM (Dp P)
   pure {ntmps:=fn.ntmps,y5:=fn.params.size+fn.nfree,body:=b,res:=r}
  |none=>none
 |none=>none
theorem cfM {P:Program} (md:List (Nat×Nat)) {f:Nat} {v:IG} (_:R7 P md f=some v:=by(conv=>lhs;cbv)<;>exact rfl) (h:zI P f md=some v:=by kernel_rfl):zI P f md=some v:=h
theorem fH {P:Program} {f:Nat} {v:IG} (_:R7 P [] f=some v:=by(conv=>lhs;cbv)<;>exact rfl) (h:Bh P f=some v:=by kernel_rfl):Bh P f=some v:=h
def XR:VC:=(.one (q 48 (.call 192 [(.t 47)]) 163010011) (.one (q 9 (.gy (.t 42)) 163010012) (.one (q 10 (.gy (.t 48)) 163010013) (.jo false []))))
def XS:VC:=(.one (q 47 (.load false 1 (.t 46)) 163010010) XR)
def XT:VC:=(.one (q 46 (.lf 1 (.t 43) (.t 45)) 163010009) XS)
def Q7:IG:=⟨118,2,(.seq (.jo false [q 4 (.gy (.k .bB)) 163000000]) (.seq (.jo false [q 17 (.gy (.t 0)) 163001000,q 18 (.pb [.gO] (.t 17) (.t 17)) 163001001,q 5 (.gy (.t 18)) 163001002]) (.seq (.seq (.jo false [q 19 (.gy (.t 5)) 163002000,q 20 (.len (.t 19)) 163002001,q 21 (.gy (.k (.int .i64 0))) 163002002]) (.block 0 (.loop (.seq (.jo false [q 22 (.bin .lss .i64 (.t 21) (.t 20)) 163003000]) (.seq (.cond (.t 22) .skip (.exit 0)) (.seq (.block 1 (.seq (.jo false [q 23 (.gy (.t 21)) 163004000,q 6 (.gy (.t 23)) 163004001]) (.jo false [q 24 (.gy (.t 5)) 163005000,q 25 (.gy (.t 6)) 163005001,q 26 (.gy (.t 6)) 163005002,q 27 (.build [.gO,(.int .i64 0)] [(1,(1,(.t 26)))]) 163005003,q 28 (.box (.t 27)) 163005004,q 29 (.lf 1 (.t 24) (.t 25)) 163005005,⟨none,(.store 1 (.t 29) (.t 28)),none,163005006,[]⟩]))) (.jo false [q 30 (.bin .add .i64 (.t 21) (.k (.int .i64 1))) 163006000,q 21 (.gy (.t 30)) 163006001]))))))) (.seq (.seq (.jo false [q 31 (.gy (.t 1)) 163007000,q 32 (.len (.t 31)) 163007001,q 33 (.gy (.k (.int .i64 0))) 163007002]) (.block 2 (.loop (.seq (.jo false [q 34 (.bin .lss .i64 (.t 33) (.t 32)) 163008000]) (.seq (.cond (.t 34) .skip (.exit 2)) (.seq (.block 3 (.seq (.jo false [q 35 (.lf 3 (.t 31) (.t 33)) 163009000,q 36 (.load true 3 (.t 35)) 163009001,q 8 (.new [(.int .i64 0),(.int .i64 0),(.int .i64 0)]) 163009002,⟨none,(.store 3 (.t 8) (.t 36)),none,163009003,[]⟩]) (.seq (.one (q 37 (.gy (.t 5)) 163010000) (.one (q 38 (.k8 0 (.t 8)) 163010001) (.one (q 39 (.load false 1 (.t 38)) 163010002) (.one (q 40 (.lf 1 (.t 37) (.t 39)) 163010003) (.one (q 41 (.load false 1 (.t 40)) 163010004) (.one (q 43 (.gy (.t 5)) 163010006) (.one (q 44 (.k8 1 (.t 8)) 163010007) (.both (.one (q 42 (.call 192 [(.t 41)]) 163010005) (.one (q 45 (.load false 1 (.t 44)) 163010008) XT)) (.one (q 45 (.load false 1 (.t 44)) 163010008) (.both (.one (q 42 (.call 192 [(.t 41)]) 163010005) XT) (.one (q 46 (.lf 1 (.t 43) (.t 45)) 163010009) (.both (.one (q 42 (.call 192 [(.t 41)]) 163010005) XS) (.one (q 47 (.load false 1 (.t 46)) 163010010) (.one (q 42 (.call 192 [(.t 41)]) 163010005) XR)))))))))))))) (.block 4 (.seq (.jo true [q 50 (.gy (.t 9)) 163011000,q 51 (.H8 (.t 50)) 163011001,q 52 (.k8 1 (.t 51)) 163011002,q 53 (.load false 1 (.t 52)) 163011003,q 54 (.gy (.t 10)) 163011004,q 55 (.H8 (.t 54)) 163011005,q 56 (.k8 1 (.t 55)) 163011006,q 57 (.load false 1 (.t 56)) 163011007,q 58 (.bin .lss .i64 (.t 53) (.t 57)) 163011008,q 49 (.gy (.t 58)) 163011009]) (.cond (.t 49) (.jo false [q 59 (.gy (.t 10)) 163012000,q 60 (.gy (.t 9)) 163012001,q 61 (.H8 (.t 59)) 163012002,q 62 (.k8 0 (.t 61)) 163012003,⟨none,(.store 1 (.t 62) (.t 60)),none,163012004,[]⟩]) (.seq (.jo true [q 64 (.gy (.t 10)) 163013000,q 65 (.H8 (.t 64)) 163013001,q 66 (.k8 1 (.t 65)) 163013002,q 67 (.load false 1 (.t 66)) 163013003,q 68 (.gy (.t 9)) 163013004,q 69 (.H8 (.t 68)) 163013005,q 70 (.k8 1 (.t 69)) 163013006,q 71 (.load false 1 (.t 70)) 163013007,q 72 (.bin .lss .i64 (.t 67) (.t 71)) 163013008,q 63 (.gy (.t 72)) 163013009]) (.cond (.t 63) (.jo false [q 73 (.gy (.t 9)) 163014000,q 74 (.gy (.t 10)) 163014001,q 75 (.H8 (.t 73)) 163014002,q 76 (.k8 0 (.t 75)) 163014003,⟨none,(.store 1 (.t 76) (.t 74)),none,163014004,[]⟩]) .skip)))))))) (.jo false [q 77 (.bin .add .i64 (.t 33) (.k (.int .i64 1))) 163015000,q 33 (.gy (.t 77)) 163015001]))))))) (.seq (.jo false [q 11 (.gy (.k .bB)) 163016000]) (.seq (.jo false [⟨(some 78),(.mq (.new ⟨false,[.tI]⟩) []),none,163017000,[]⟩,q 12 (.gy (.t 78)) 163017001]) (.seq (.seq (.jo false [q 79 (.gy (.t 5)) 163018000,q 80 (.len (.t 79)) 163018001,q 81 (.gy (.k (.int .i64 0))) 163018002]) (.block 5 (.loop (.seq (.jo false [q 82 (.bin .lss .i64 (.t 81) (.t 80)) 163019000]) (.seq (.cond (.t 82) .skip (.exit 5)) (.seq (.block 6 (.seq (.jo false [q 83 (.gy (.t 81)) 163020000,q 84 (.lf 1 (.t 79) (.t 81)) 163020001,q 85 (.load false 1 (.t 84)) 163020002,q 13 (.gy (.t 83)) 163020003,q 14 (.gy (.t 85)) 163020004]) (.seq (.jo false [q 87 (.gy (.t 12)) 163021000,q 88 (.gy (.t 14)) 163021001,q 89 (.call 192 [(.t 88)]) 163021002,q 90 (.H8 (.t 89)) 163021003,q 91 (.k8 1 (.t 90)) 163021004,q 92 (.load false 1 (.t 91)) 163021005,⟨(some 93),(.mq (.look ⟨false,[.tI]⟩ true (.int .i64 0)) [(.t 87),(.t 92)]),none,163021006,[]⟩,q 86 (.gy (.t 93)) 163021007,q 94 (.extract 0 (.t 86)) 163021008,q 95 (.extract 1 (.t 86)) 163021009,q 15 (.gy (.t 94)) 163021010,q 16 (.gy (.t 95)) 163021011]) (.seq (.seq (.jo false [q 96 (.gy (.t 16)) 163022000,q 97 (.not (.t 96)) 163022001]) (.cond (.t 97) (.seq (.jo false [q 98 (.gy (.t 11)) 163023000,q 99 (.len (.t 98)) 163023001,q 15 (.gy (.t 99)) 163023002]) (.seq (.jo false [q 100 (.gy (.t 12)) 163024000,q 101 (.gy (.t 13)) 163024001,q 102 (.gy (.t 15)) 163024002,⟨none,(.mw (.set ⟨false,[.tI]⟩) [(.t 100),(.t 101),(.t 102)]),none,163024003,[]⟩]) (.jo false [q 103 (.gy (.t 11)) 163025000,q 104 (.nW 1 1 [(.k .bB)]) 163025001,q 105 (.append 1 (.t 103) (.t 104)) 163025002,q 11 (.gy (.t 105)) 163025003]))) .skip)) (.jo false [q 106 (.gy (.t 11)) 163026000,q 107 (.gy (.t 15)) 163026001,q 108 (.gy (.t 11)) 163026002,q 109 (.gy (.t 15)) 163026003,q 110 (.lf 1 (.t 108) (.t 109)) 163026004,q 111 (.load false 1 (.t 110)) 163026005,q 112 (.gy (.t 13)) 163026006,q 113 (.nW 1 1 [(.t 112)]) 163026007,q 114 (.append 1 (.t 111) (.t 113)) 163026008,q 115 (.lf 1 (.t 106) (.t 107)) 163026009,⟨none,(.store 1 (.t 115) (.t 114)),none,163026010,[]⟩]))))) (.jo false [q 116 (.bin .add .i64 (.t 81) (.k (.int .i64 1))) 163027000,q 81 (.gy (.t 116)) 163027001]))))))) (.seq (.jo false [q 117 (.gy (.t 11)) 163028000,q 4 (.gy (.t 117)) 163028001]) .ret)))))))),[(.tmp 4)]⟩
theorem Pp:zI Tryz.prog 163 [(10,2)]=some Q7:=by kernel_rfl
end Go.Proofs.YtakkdjfmiffbfaaGreatDoor.V

namespace Go.Proofs.YtakkdjfmiffbfaaGreatDoor.V
open Go.RowKit
attribute [local irreducible] dL wpOps ez Call
attribute [local go_sem] ay ew dZ eE eC cY upd bJ K.av bZ AV.cells AV.cell rowOf rowsOf part ld rowAt eO bH bI cX dj eQ bq cF dx eA ed cQ dq cD cC dc de bu aE cm bt cr cq dn dr dp ck bz cE dm br aw cw bQ eP aZ bW bx aD cR aQ cZ AV.undef bd bj dh di c6 da bV dw dz bP du dt cu cz List.getD_cons_zero List.getD_cons_succ List.getD_nil List.all_cons List.all_nil Bool.and_true Bool.true_and Bool.and_self Bool.not_true Bool.not_false Option.map_some Option.map_none Option.bind_some Option.bind_none List.length_cons List.length_nil List.take_succ_cons List.take_zero List.take_nil List.drop_succ_cons List.drop_zero List.drop_nil List.head?_cons List.map_cons List.map_nil List.getElem?_cons_zero List.getElem?_cons_succ List.cons_append List.nil_append List.append_nil List.length_map List.set_cons_zero List.set_cons_succ Nat.reduceMul eq_self Int.toNat_natCast Int.natCast_nonneg and_self true_and and_true decide_true decide_false Bool.false_eq_true Nat.zero_add Nat.add_zero List.contains_cons List.contains_nil Bool.or_false Bool.false_or beq_self_eq_true Nat.reduceBEq ne_eq not_true_eq_false not_false_eq_true Id.mk.injEq false_and and_false Nat.reduceLT Int.reduceLE Int.reduceLT Int.reduceToNat Int.reduceNeg Int.reduceAdd Nat.le_refl List.length_append beq_true beq_false Bool.not_eq_eq_eq_not or_false false_or dW ad ae aL aI bf bR az bc aA aJ cj bh
def je (n lo hi:Int):Bool:=decide (lo<=n)&&decide (n<=hi)
theorem eH {n lo hi:Int} (h:je n lo hi=true):lo<=n/\n<=hi:=by simpa[je]using h
theorem ly {n lo hi:Int} (h:lo<=n/\n<=hi):je n lo hi=true:=by simpa[je]using h
def za (p:af):Bool:=je p.fu (-60) 60&&je p.eZ (-60) 60
theorem FO (n lo hi:Int):aP Tryz.prog 26 [.int .i64 n,.int .i64 lo,.int .i64 hi] (.bool (je n lo hi)):=by
 refine aP.body fH rfl fun hl n0=>?_
 clear hl
 by_cases h1:lo<=n
 ·(try((repeat(revert hN;revert N;apply Pn.out));refine wk @h1 ?_;(repeat(refine Pn.mk ?_;intro N hN))))
  exact dU (b:=decide (n<=hi)) (.inl rfl) (sd @Nat.zero_add) (by simp[je,h1])
 ·(try((repeat(revert hN;revert N;apply Pn.out));refine wk @h1 ?_;(repeat(refine Pn.mk ?_;intro N hN))))
  exact dU (b:=false) (.inl rfl) (sd @Nat.zero_add) (by simp[je,h1])
theorem gS (n lo hi:Int):aP Tryz.prog 21 [.int .i64 n,.int .i64 lo,.int .i64 hi] (.bool (je n lo hi)):=by
 refine aP.body fH rfl fun hl n0=>?_
 clear hl
 by_cases h1:lo<=n
 ·(try((repeat(revert hN;revert N;apply Pn.out));refine wk @h1 ?_;(repeat(refine Pn.mk ?_;intro N hN))))
  exact dU (b:=decide (n<=hi)) (.inl rfl) (sd @Nat.zero_add) (by simp[je,h1])
 ·(try((repeat(revert hN;revert N;apply Pn.out));refine wk @h1 ?_;(repeat(refine Pn.mk ?_;intro N hN))))
  exact dU (b:=false) (.inl rfl) (sd @Nat.zero_add) (by simp[je,h1])
theorem qy (p:af):aP Tryz.prog 69 [.agg (aj p)] (.bool (za p)):=by
 refine aP.body fH rfl fun hl n0=>?_
 clear hl
 have h1:=gS p.fu (-60) 60
 have h2:=gS p.eZ (-60) 60
 by_cases q:je p.fu (-60) 60=true
 ·rw[q]at h1
  (repeat(first|((repeat(revert hN;revert N;apply Pn.out));refine wk @aj.eq_1 ?_;(repeat(refine Pn.mk ?_;intro N hN)))|((try apply Or.inl);refine⟨_,aP.x (h1) (sd @aj.eq_1),?_⟩;refine hN _ _ ?_;clear hN N)|((try apply Or.inl);refine⟨_,aP.x (h2) (sd @aj.eq_1),?_⟩;refine hN _ _ ?_;clear hN N)))
  exact dU (b:=je p.eZ (-60) 60) (.inl rfl) (sd @Nat.zero_add) (by rw[za,q];rfl)
 ·rw[Bool.not_eq_true]at q
  rw[q]at h1
  (repeat(first|((repeat(revert hN;revert N;apply Pn.out));refine wk @aj.eq_1 ?_;(repeat(refine Pn.mk ?_;intro N hN)))|((try apply Or.inl);refine⟨_,aP.x (h1) (sd @aj.eq_1),?_⟩;refine hN _ _ ?_;clear hN N)|((try apply Or.inl);refine⟨_,aP.x (h2) (sd @aj.eq_1),?_⟩;refine hN _ _ ?_;clear hN N)))
  exact dU (b:=false) (.inl rfl) (sd @Nat.zero_add) (by rw[za,q];rfl)
def jR (d:Int):Int:=if je d 0 3 then(d+2) % 4 else -1
def cN (p:af) (d:Int):af:=
 if d=0 then⟨p.fu,p.eZ+1⟩else if d=1 then⟨p.fu+1,p.eZ⟩else if d=2 then⟨p.fu,p.eZ-1⟩else if d=3 then⟨p.fu-1,p.eZ⟩else p
def iB (n:Int):Prop:=-4611686018427387904<=n/\n<=4611686018427387904
theorem Aw (p p2:af) (x y:Int) (hx:IntKind.i64.wrap (p.fu+p2.fu)=x) (hy:IntKind.i64.wrap (p.eZ+p2.eZ)=y):aP Tryz.prog 171 [.agg (aj p),.agg (aj p2)] (.agg [.int .i64 x,.int .i64 y]):=by
 refine aP.body fH rfl fun hl n0=>?_
 clear hl
 (try((repeat(revert hN;revert N;apply Pn.out));refine wk (tw @aj.eq_1 (tw @hx @hy)) ?_;(repeat(refine Pn.mk ?_;intro N hN))))
 exact tG (.inl rfl) (vs:=[.agg [.int .i64 x,.int .i64 y]]) (by simp only[go_sem, ↓reduceIte,Nat.reduceEqDiff,Nat.reduceAdd,Nat.reduceSub,Nat.reduceLeDiff,reduceCtorEq,gR,jV,aj]) (by simp[iL,gE,fa])
theorem EK (p:af) (d:Int) (hd:je d 0 3=true) (hx:iB p.fu) (hy:iB p.eZ):aP Tryz.prog 128 [.agg (aj p),.int .i64 d] (.agg (aj (cN p d))):=by
 refine aP.body fH rfl fun hl n0=>?_
 clear hl
 obtain⟨x1,x2⟩:=hx
 obtain⟨y1,y2⟩:=hy
 have hb:=eH hd
 have hc:d=0∨d=1∨d=2∨d=3:=ab
 rcases hc with rfl|rfl|rfl|rfl
 ·have h:=Aw p ⟨0,1⟩ (p.fu) (p.eZ+1) (by rw[dy (by constructor<;>simp only<;>omega)]<;>(try simp only)<;>(try omega)) (by rw[dy (by constructor<;>simp only<;>omega)]<;>(try simp only)<;>(try omega))
  simp only[aj]at h
  (repeat(first|((repeat(revert hN;revert N;apply Pn.out));refine wk @aj.eq_1 ?_;(repeat(refine Pn.mk ?_;intro N hN)))|((try apply Or.inl);refine⟨_,aP.x (h) (sd @aj.eq_1),?_⟩;refine hN _ _ ?_;clear hN N)))
  exact tG (.inl rfl) (vs:=[.agg (aj (cN p 0))]) (by simp[gR,jV,aj,cN,ld,rowAt,bH,upd,part]) (by simp[iL,aj,gE,fa])
 ·have h:=Aw p ⟨1,0⟩ (p.fu+1) (p.eZ) (by rw[dy (by constructor<;>simp only<;>omega)]<;>(try simp only)<;>(try omega)) (by rw[dy (by constructor<;>simp only<;>omega)]<;>(try simp only)<;>(try omega))
  simp only[aj]at h
  (repeat(first|((repeat(revert hN;revert N;apply Pn.out));refine wk @aj.eq_1 ?_;(repeat(refine Pn.mk ?_;intro N hN)))|((try apply Or.inl);refine⟨_,aP.x (h) (sd @aj.eq_1),?_⟩;refine hN _ _ ?_;clear hN N)))
  exact tG (.inl rfl) (vs:=[.agg (aj (cN p 1))]) (by simp[gR,jV,aj,cN,ld,rowAt,bH,upd,part]) (by simp[iL,aj,gE,fa])
 ·have h:=Aw p ⟨0,(-1)⟩ (p.fu) (p.eZ-1) (by rw[dy (by constructor<;>simp only<;>omega)]<;>(try simp only)<;>(try omega)) (by rw[dy (by constructor<;>simp only<;>omega)]<;>(try simp only)<;>(try omega))
  simp only[aj]at h
  (repeat(first|((repeat(revert hN;revert N;apply Pn.out));refine wk @aj.eq_1 ?_;(repeat(refine Pn.mk ?_;intro N hN)))|((try apply Or.inl);refine⟨_,aP.x (h) (sd @aj.eq_1),?_⟩;refine hN _ _ ?_;clear hN N)))
  exact tG (.inl rfl) (vs:=[.agg (aj (cN p 2))]) (by simp[gR,jV,aj,cN,ld,rowAt,bH,upd,part]) (by simp[iL,aj,gE,fa])
 ·have h:=Aw p ⟨(-1),0⟩ (p.fu-1) (p.eZ) (by rw[dy (by constructor<;>simp only<;>omega)]<;>(try simp only)<;>(try omega)) (by rw[dy (by constructor<;>simp only<;>omega)]<;>(try simp only)<;>(try omega))
  simp only[aj]at h
  (repeat(first|((repeat(revert hN;revert N;apply Pn.out));refine wk @aj.eq_1 ?_;(repeat(refine Pn.mk ?_;intro N hN)))|((try apply Or.inl);refine⟨_,aP.x (h) (sd @aj.eq_1),?_⟩;refine hN _ _ ?_;clear hN N)))
  exact tG (.inl rfl) (vs:=[.agg (aj (cN p 3))]) (by simp[gR,jV,aj,cN,ld,rowAt,bH,upd,part]) (by simp[iL,aj,gE,fa])
theorem El (d:Int) (hd:je d 0 3=true):aP Tryz.prog 196 [.int .i64 d] (.int .i64 (jR d)):=by
 refine aP.body fH rfl fun hl n0=>?_
 clear hl
 have hb:=eH hd
 have hw:IntKind.i64.wrap (d+2)=d+2:=dy ab
 have ht:Int.tmod (d+2) 4=(d+2) % 4:=Int.tmod_eq_emod_of_nonneg ab
 have h4:¬((4:Int)=0):=ab
 (try((repeat(revert hN;revert N;apply Pn.out));refine wk (tw @hw (tw @ht @h4)) ?_;(repeat(refine Pn.mk ?_;intro N hN))))
 exact fx (b:=(d+2) % 4) (.inl rfl) (sd @Nat.zero_add) (by rw[jR,if_pos hd])
def ef (s:aH) (t:Int):Bool:=je t 0 ((s.ah.length:Int)-1)
theorem yO (t n:Int) (h0:0<=n) (h1:n<=9223372036854775807):aP Tryz.prog 70 [.int .i64 t,.int .i64 n] (.bool (je t 0 (n-1))):=by
 refine aP.body fH rfl fun hl n0=>?_
 clear hl
 have hw:IntKind.i64.wrap (n-1)=n-1:=dy ab
 have h:=gS t 0 (n-1)
 (repeat(first|((repeat(revert hN;revert N;apply Pn.out));refine wk @hw ?_;(repeat(refine Pn.mk ?_;intro N hN)))|((try apply Or.inl);refine⟨_,aP.x (h) (sd @hw),?_⟩;refine hN _ _ ?_;clear hN N)))
 exact dU (b:=je t 0 (n-1)) (.inl rfl) (sd @Nat.zero_add) rfl
theorem J5 (s:aH) (t:Int):aP Tryz.prog 124 [.agg (ao s),.int .i64 t] (.bool (ef s t)):=by
 refine aP.body fH rfl fun hl n0=>?_
 have hn:s.ah.length<=9223372036854775807:=by
  have h1:=(hl (.agg (ao s)) (by simp)).O9 (a:=.sl (s.ah.map dS)) (by simp[ao])
  simpa using h1.len
 clear hl
 have h:=yO t s.ah.length ab ab
 (repeat(first|((repeat(revert hN;revert N;apply Pn.out));refine wk @ao.eq_1 ?_;(repeat(refine Pn.mk ?_;intro N hN)))|((try apply Or.inl);refine⟨_,aP.x (h) (sd @ao.eq_1),?_⟩;refine hN _ _ ?_;clear hN N)))
 exact dU (b:=ef s t) (.inl rfl) (by simp only[go_sem, ↓reduceIte,Nat.reduceEqDiff,Nat.reduceAdd,Nat.reduceSub,Nat.reduceLeDiff,reduceCtorEq,ef]) rfl
def qg:dR:=⟨⟨#[]⟩,[]⟩
def aW (s:aH) (t:Int):dR:=s.ah.getD t.toNat qg
def bp (t:dR) (d:Int):Int:=t.dM.getD d.toNat 0
def mE (s:aH) (g:Int):eS:=s.bU.getD g.toNat ⟨⟨#[]⟩,0⟩
def mc (s:aH) (g:Int):Int:=if g=0 then 0 else(mE s (g-1)).gH
def fV (s:aH) (a d b:Int):Int:=if bp (aW s a) d=bp (aW s b) (jR d)then mc s (bp (aW s a) d)else 0
structure oW (s:aH):Prop where
 nj:∀t∈s.ah,t.dM.length=4
 ou:∀t∈s.ah,∀g∈t.dM,0<=g/\g<=s.bU.length
theorem getD_map {α β:Type} (e:α->β) {l:List α} {k:Nat} {d:α} (h:k<l.length):(l.map e)[k]? =some (e (l.getD k d)):=by simp[List.getD_eq_getElem?_getD,h]
theorem xi {s:aH} {a:Int} (h:ef s a=true):0<=a/\(s.ah.map dS)[a.toNat]? =some (dS (aW s a))/\aW s a∈s.ah:=by
 have h':=eH h
 have eR:a.toNat<s.ah.length:=ab
 refine⟨h'.1,getD_map dS eR,?_⟩
 unfold aW
 rw[List.getD_eq_getElem?_getD,List.getElem?_eq_getElem eR]
 exact List.getElem_mem eR
theorem xc {t:dR} {d:Int} (h:t.dM.length=4) (hd:je d 0 3=true):(t.dM.map bE)[d.toNat]? =some [.int .i64 (bp t d)]:=by
 have:=eH hd
 exact getD_map bE ab
theorem KZ {t:dR} {d:Int} (h:t.dM.length=4) (hd:je d 0 3=true):bp t d∈t.dM:=by
 have:=eH hd
 have eR:d.toNat<t.dM.length:=ab
 unfold bp
 rw[List.getD_eq_getElem?_getD,List.getElem?_eq_getElem eR]
 exact List.getElem_mem eR
theorem Kw {d:Int} (hd:je d 0 3=true):je (jR d) 0 3=true:=by
 have:=eH hd
 refine ly ?_
 rw[jR,if_pos hd];omega
theorem EM (s:aH) (hF:oW s) (a d:Int) (ha:ef s a=true) (hd:je d 0 3=true):aP Tryz.prog 197 [.agg (ao s),.int .i64 a,.int .i64 d] (.int .i64 (mc s (bp (aW s a) d))):=by
 refine aP.body fH rfl fun hl n0=>?_
 have hn:s.bU.length<=9223372036854775807:=by
  have h1:=(hl (.agg (ao s)) (by simp)).O9 (a:=.sl (s.bU.map ea)) (by simp[ao])
  simpa using h1.len
 clear hl
 obtain⟨a0,a1,a2⟩:=xi ha
 have s1:=xc (hF.nj _ a2) hd
 have gl:=hF.ou _ a2 _ (KZ (hF.nj _ a2) hd)
 have d0:=(eH hd).1
 by_cases hg:bp (aW s a) d=0
 ·have e:¬(0<bp (aW s a) d):=ab
  (try((repeat(revert hN;revert N;apply Pn.out));refine wk (tw @ao.eq_1 (tw @dS.eq_1 (tw @a0 (tw @a1 (tw @s1 (tw @d0 @e)))))) ?_;(repeat(refine Pn.mk ?_;intro N hN))))
  exact fx (b:=0) (.inl rfl) (sd @Nat.zero_add) (by rw[mc,if_pos hg])
 ·have e:0<bp (aW s a) d:=ab
  have hw:IntKind.i64.wrap (bp (aW s a) d-1)=bp (aW s a) d-1:=dy ab
  have xN:0<=bp (aW s a) d-1:=ab
  have jl:(s.bU.map ea)[(bp (aW s a) d-1).toNat]? =some (ea (mE s (bp (aW s a) d-1))):=getD_map ea ab
  (try((repeat(revert hN;revert N;apply Pn.out));refine wk (tw @ao.eq_1 (tw @dS.eq_1 (tw @a0 (tw @a1 (tw @s1 (tw @d0 (tw @e (tw @hw (tw @xN (tw @jl @ea.eq_1)))))))))) ?_;(repeat(refine Pn.mk ?_;intro N hN))))
  exact fx (b:=(mE s (bp (aW s a) d-1)).gH) (.inl rfl) (sd @Nat.zero_add) (by rw[mc,if_neg hg])
theorem IW (s:aH) (hF:oW s) (a d b:Int) (ha:ef s a=true) (hb:ef s b=true) (hd:je d 0 3=true):aP Tryz.prog 168 [.agg (ao s),.int .i64 a,.int .i64 d,.int .i64 b] (.int .i64 (fV s a d b)):=by
 refine aP.body fH rfl fun hl n0=>?_
 clear hl
 obtain⟨a0,a1,a2⟩:=xi ha
 obtain⟨b0,b1,b2⟩:=xi hb
 have s1:=xc (hF.nj _ a2) hd
 have s2:=xc (hF.nj _ b2) (Kw hd)
 have d0:=(eH hd).1
 have d1:=(eH (Kw hd)).1
 have h:=El d hd
 have hs:=EM s hF a d ha hd
 rw[ao]at hs
 by_cases e:bp (aW s a) d=bp (aW s b) (jR d)
 ·have e':decide (bp (aW s a) d=bp (aW s b) (jR d))=true:=decide_eq_true e
  (repeat(first|((repeat(revert hN;revert N;apply Pn.out));refine wk (tw @ao.eq_1 (tw @dS.eq_1 (tw @a0 (tw @a1 (tw @b0 (tw @b1 (tw @s1 (tw @s2 (tw @d0 (tw @d1 @e')))))))))) ?_;(repeat(refine Pn.mk ?_;intro N hN)))|((try apply Or.inl);refine⟨_,aP.x (h) (sd (tw @ao.eq_1 (tw @dS.eq_1 (tw @a0 (tw @a1 (tw @b0 (tw @b1 (tw @s1 (tw @s2 (tw @d0 (tw @d1 @e'))))))))))),?_⟩;refine hN _ _ ?_;clear hN N)|((try apply Or.inl);refine⟨_,aP.x (hs) (sd (tw @ao.eq_1 (tw @dS.eq_1 (tw @a0 (tw @a1 (tw @b0 (tw @b1 (tw @s1 (tw @s2 (tw @d0 (tw @d1 @e'))))))))))),?_⟩;refine hN _ _ ?_;clear hN N)))
  exact fx (b:=mc s (bp (aW s a) d)) (.inl rfl) (sd @Nat.zero_add) (by rw[fV,if_pos e])
 ·have e':decide (bp (aW s a) d=bp (aW s b) (jR d))=false:=decide_eq_false e
  (repeat(first|((repeat(revert hN;revert N;apply Pn.out));refine wk (tw @ao.eq_1 (tw @dS.eq_1 (tw @a0 (tw @a1 (tw @b0 (tw @b1 (tw @s1 (tw @s2 (tw @d0 (tw @d1 @e')))))))))) ?_;(repeat(refine Pn.mk ?_;intro N hN)))|((try apply Or.inl);refine⟨_,aP.x (h) (sd (tw @ao.eq_1 (tw @dS.eq_1 (tw @a0 (tw @a1 (tw @b0 (tw @b1 (tw @s1 (tw @s2 (tw @d0 (tw @d1 @e'))))))))))),?_⟩;refine hN _ _ ?_;clear hN N)))
  exact fx (b:=0) (.inl rfl) (sd @Nat.zero_add) (by rw[fV,if_neg e])
end Go.Proofs.YtakkdjfmiffbfaaGreatDoor.V

namespace Go.Proofs.YtakkdjfmiffbfaaGreatDoor
open Go.RowKit
def lS (n:Int):Bool:=(decide (97<=n)&&decide (n<=122))||(decide (65<=n)&&decide (n<=90))
def lP (n:Int):Bool:=decide (48<=n)&&decide (n<=57)
def yi (i:Nat) (n:Int):Prop:=lS n=true∨(0<i/\(lP n=true∨n=95))
def uL (s:ByteArray):Prop:=(1<=s.size/\s.size<=12)/\∀i (h:i<s.size),yi i s[i].toNat
open Classical in
noncomputable def kC (s:ByteArray):Bool:=decide (uL s)
theorem fh {s:ByteArray} (h:¬uL s):false=kC s:=by simp[kC,h]
theorem Cn {s:ByteArray} {b:Bool} (hb:b=true) (h:uL s):b=kC s:=by simp[kC,h,hb]
theorem rh {s:ByteArray} {b:Bool} (hb:b=false) (h:¬uL s):b=kC s:=by simp[kC,h,hb]
theorem sG {s:ByteArray}:kC s=true↔uL s:=by simp[kC]
theorem B7 (w:World) (s:ByteArray) (hs:s.size<=9223372036854775807):Calls Tryz.prog 65 #[.string s] w fun e w'=>e=.returned (.bool (kC s))/\w=w':=by
 go_enter Tryz.func65,Tryz.ntmps65
 go_wp2_with fail
 go_loop [8] (fun i=>∃k:Nat,k<=s.size/\i=.int .i64 k/\Hid (∀j (h:j<s.size),j<k->yi j s[j].toNat)) (fun i=>s.size-(intOf i).toNat)
 case atStart=>exact⟨0,by omega,rfl,Lib.hid fun j h hj=>by omega⟩
 case round=>
  obtain⟨k,hk,rfl,eJ⟩:=hrel
  by_cases eR:k<s.size
  ·have hc:(s[k].toNat:Int)<48∨(48<=(s[k].toNat:Int)/\(s[k].toNat:Int)<=57)∨(58<=(s[k].toNat:Int)/\(s[k].toNat:Int)<=64)∨(65<=(s[k].toNat:Int)/\(s[k].toNat:Int)<=90)∨(91<=(s[k].toNat:Int)/\(s[k].toNat:Int)<=94)∨(95<=(s[k].toNat:Int)/\(s[k].toNat:Int)<=95)∨(96<=(s[k].toNat:Int)/\(s[k].toNat:Int)<=96)∨(97<=(s[k].toNat:Int)/\(s[k].toNat:Int)<=122)∨123<=(s[k].toNat:Int):=by omega
   by_cases tq:k=0
   ·subst tq
    rcases hc with h|⟨h,h'⟩|⟨h,h'⟩|⟨h,h'⟩|⟨h,h'⟩|⟨h,h'⟩|⟨h,h'⟩|⟨h,h'⟩|h
    ·have BI:((s[0].toNat:Int) !=95)=true:=by simp;try omega
     go_wp2_with fail
     all_goals first
      |(go_ret;exact⟨kJ (fh fun hh=>by have:=hh.2 0 eR;simp[yi,lS,lP]at this;omega),rfl⟩)
      |(exfalso;simp_all;done)
      |(exfalso;simp_all;omega)
    ·have BI:((s[0].toNat:Int) !=95)=true:=by simp;try omega
     go_wp2_with fail
     all_goals first
      |(go_ret;exact⟨kJ (fh fun hh=>by have:=hh.2 0 eR;simp[yi,lS,lP]at this;omega),rfl⟩)
      |(exfalso;simp_all;done)
      |(exfalso;simp_all;omega)
    ·have BI:((s[0].toNat:Int) !=95)=true:=by simp;try omega
     go_wp2_with fail
     all_goals first
      |(go_ret;exact⟨kJ (fh fun hh=>by have:=hh.2 0 eR;simp[yi,lS,lP]at this;omega),rfl⟩)
      |(exfalso;simp_all;done)
      |(exfalso;simp_all;omega)
    ·have BI:((s[0].toNat:Int) !=95)=true:=by simp;try omega
     go_wp2_with fail
     go_round
     case rel=>exact⟨0+1,by omega,by go_num,Lib.hid fun j hj FF=>by
      by_cases JK:j=0
      ·subst JK;simp[yi,lS,lP];omega
      ·exact eJ.out j hj (by omega)⟩
     case measure=>simp[intOf];try omega
    ·have BI:((s[0].toNat:Int) !=95)=true:=by simp;try omega
     go_wp2_with fail
     all_goals first
      |(go_ret;exact⟨kJ (fh fun hh=>by have:=hh.2 0 eR;simp[yi,lS,lP]at this;omega),rfl⟩)
      |(exfalso;simp_all;done)
      |(exfalso;simp_all;omega)
    ·have BI:((s[0].toNat:Int) !=95)=false:=by simp;try omega
     go_wp2_with fail
     all_goals first
      |(go_ret;exact⟨kJ (fh fun hh=>by have:=hh.2 0 eR;simp[yi,lS,lP]at this;omega),rfl⟩)
      |(exfalso;simp_all;done)
      |(exfalso;simp_all;omega)
    ·have BI:((s[0].toNat:Int) !=95)=true:=by simp;try omega
     go_wp2_with fail
     all_goals first
      |(go_ret;exact⟨kJ (fh fun hh=>by have:=hh.2 0 eR;simp[yi,lS,lP]at this;omega),rfl⟩)
      |(exfalso;simp_all;done)
      |(exfalso;simp_all;omega)
    ·have BI:((s[0].toNat:Int) !=95)=true:=by simp;try omega
     go_wp2_with fail
     go_round
     case rel=>exact⟨0+1,by omega,by go_num,Lib.hid fun j hj FF=>by
      by_cases JK:j=0
      ·subst JK;simp[yi,lS,lP];omega
      ·exact eJ.out j hj (by omega)⟩
     case measure=>simp[intOf];try omega
    ·have BI:((s[0].toNat:Int) !=95)=true:=by simp;try omega
     go_wp2_with fail
     all_goals first
      |(go_ret;exact⟨kJ (fh fun hh=>by have:=hh.2 0 eR;simp[yi,lS,lP]at this;omega),rfl⟩)
      |(exfalso;simp_all;done)
      |(exfalso;simp_all;omega)
   ·have hz:((k:Int)==0)=false:=by simpa using tq
    have yF:1<=k:=by omega
    clear tq
    rcases hc with h|⟨h,h'⟩|⟨h,h'⟩|⟨h,h'⟩|⟨h,h'⟩|⟨h,h'⟩|⟨h,h'⟩|⟨h,h'⟩|h
    ·have BI:((s[k].toNat:Int) !=95)=true:=by simp;try omega
     go_wp2_with fail
     all_goals first
      |(go_ret;exact⟨kJ (fh fun hh=>by have:=hh.2 k eR;simp[yi,lS,lP]at this;omega),rfl⟩)
      |(exfalso;simp_all;done)
      |(exfalso;simp_all;omega)
    ·have BI:((s[k].toNat:Int) !=95)=true:=by simp;try omega
     go_wp2_with fail
     go_round
     case rel=>exact⟨k+1,by omega,by go_num,Lib.hid fun j hj FF=>by
      by_cases JK:j=k
      ·subst JK;simp[yi,lS,lP];omega
      ·exact eJ.out j hj (by omega)⟩
     case measure=>simp[intOf];try omega
    ·have BI:((s[k].toNat:Int) !=95)=true:=by simp;try omega
     go_wp2_with fail
     all_goals first
      |(go_ret;exact⟨kJ (fh fun hh=>by have:=hh.2 k eR;simp[yi,lS,lP]at this;omega),rfl⟩)
      |(exfalso;simp_all;done)
      |(exfalso;simp_all;omega)
    ·have BI:((s[k].toNat:Int) !=95)=true:=by simp;try omega
     go_wp2_with fail
     go_round
     case rel=>exact⟨k+1,by omega,by go_num,Lib.hid fun j hj FF=>by
      by_cases JK:j=k
      ·subst JK;simp[yi,lS,lP];omega
      ·exact eJ.out j hj (by omega)⟩
     case measure=>simp[intOf];try omega
    ·have BI:((s[k].toNat:Int) !=95)=true:=by simp;try omega
     go_wp2_with fail
     all_goals first
      |(go_ret;exact⟨kJ (fh fun hh=>by have:=hh.2 k eR;simp[yi,lS,lP]at this;omega),rfl⟩)
      |(exfalso;simp_all;done)
      |(exfalso;simp_all;omega)
    ·have BI:((s[k].toNat:Int) !=95)=false:=by simp;try omega
     go_wp2_with fail
     go_round
     case rel=>exact⟨k+1,by omega,by go_num,Lib.hid fun j hj FF=>by
      by_cases JK:j=k
      ·subst JK;simp[yi,lS,lP];omega
      ·exact eJ.out j hj (by omega)⟩
     case measure=>simp[intOf];try omega
    ·have BI:((s[k].toNat:Int) !=95)=true:=by simp;try omega
     go_wp2_with fail
     all_goals first
      |(go_ret;exact⟨kJ (fh fun hh=>by have:=hh.2 k eR;simp[yi,lS,lP]at this;omega),rfl⟩)
      |(exfalso;simp_all;done)
      |(exfalso;simp_all;omega)
    ·have BI:((s[k].toNat:Int) !=95)=true:=by simp;try omega
     go_wp2_with fail
     go_round
     case rel=>exact⟨k+1,by omega,by go_num,Lib.hid fun j hj FF=>by
      by_cases JK:j=k
      ·subst JK;simp[yi,lS,lP];omega
      ·exact eJ.out j hj (by omega)⟩
     case measure=>simp[intOf];try omega
    ·have BI:((s[k].toNat:Int) !=95)=true:=by simp;try omega
     go_wp2_with fail
     all_goals first
      |(go_ret;exact⟨kJ (fh fun hh=>by have:=hh.2 k eR;simp[yi,lS,lP]at this;omega),rfl⟩)
      |(exfalso;simp_all;done)
      |(exfalso;simp_all;omega)
  ·by_cases h1:1<=s.size
   ·by_cases h2:s.size<=12
    ·go_wp2_with fail
     go_ret
     exact⟨kJ (Cn (by simp<;>omega) ⟨⟨h1,h2⟩,fun i h=>eJ.out i h (by omega)⟩),rfl⟩
    ·go_wp2_with fail
     go_ret
     exact⟨kJ (rh (by simp<;>omega) fun h=>h2 h.1.2),rfl⟩
   ·go_wp2_with fail
    go_ret
    exact⟨kJ (rh (by simp<;>omega) fun h=>h1 h.1.1),rfl⟩
end Go.Proofs.YtakkdjfmiffbfaaGreatDoor

namespace Go.Proofs.YtakkdjfmiffbfaaGreatDoor.V
open Go.RowKit
theorem mixed:Tryz.prog.follows .mixedOrders=true:=by kernel_rfl
variable {P:Program} {w:World} {D:Nat->Prop} {ι:Names}
theorem lF {f:Nat} {args:List AV} {r:AV} {vs0:Array Value} {u0:Value} (nh:∀(w:World) (D:Nat->Prop) (ι:Names) vs,fo P w D ι args vs->vs=vs0) (hr:∀(w:World) (D:Nat->Prop) (ι:Names),dF P w D ι r u0) (Mx:∀g,gE g 6 r=some r)
  (h:∀w,Calls P f vs0 w fun e w'=>e=.returned u0/\Below w.heap.size w w'):aP P f args r:=by
 intro n
 refine eV fun hs D ι w vs S U A=>?_
 have:=nh w D ι vs A
 subst this
 refine(h w).mono ?_
 rintro e w' ⟨rfl,hb⟩
 exact⟨r,_,n,D,ι,u0,rfl,⟨r,Mx _,rfl⟩,Step.stay S hb.block hb.size hb.os hb.tape hb.output (fun _ h=>h) (fun _ h=>.inl h) (fun _ _ h=>h),
  S.stay hb.block hb.size (fun _ h=>h) (fun b hd=>Nat.lt_of_lt_of_le (S.dead b hd) hb.size) (fun _ h=>.inl h) (fun _ _ h=>h),U,Nat.le_refl _,hr _ _ _⟩
theorem KJ {s:ByteArray} {vs:Array Value} (h:fo P w D ι [.str s] vs):vs= #[.string s]:=by
 obtain⟨h1,h2⟩:=h
 obtain⟨u,hu,hr⟩:=h2 0 _ rfl
 rw[fM hr]at hu
 obtain⟨l⟩:=vs
 cases l with
 |nil=>simp at h1
 |cons a l=>cases l with
  |nil=>simp at hu;subst hu;rfl
  |cons b l=>simp at h1
theorem FM (s:ByteArray) (hs:s.size<=9223372036854775807):aP Tryz.prog 65 [.str s] (.bool (kC s)):=
 lF (fun _ _ _ _=>KJ) (fun _ _ _=>.eG _ _ (.bool _)) (fun g=>iI g 5 _) fun w=>(B7 w s hs).mono (by rintro e w' ⟨rfl,rfl⟩;exact⟨rfl,Below.refl _ _⟩)
end Go.Proofs.YtakkdjfmiffbfaaGreatDoor.V

namespace Go.Proofs.YtakkdjfmiffbfaaGreatDoor.V
open Go.RowKit
attribute [local irreducible] dL wpOps ez Call
attribute [local go_sem] ay ew dZ eE eC cY upd bJ K.av bZ AV.cells AV.cell rowOf rowsOf part ld rowAt eO bH bI cX dj eQ bq cF dx eA ed cQ dq cD cC dc de bu aE cm bt cr cq dn dr dp ck bz cE dm br aw cw bQ eP aZ bW bx aD cR aQ cZ AV.undef bd bj dh di c6 da bV dw dz bP du dt cu cz List.getD_cons_zero List.getD_cons_succ List.getD_nil List.all_cons List.all_nil Bool.and_true Bool.true_and Bool.and_self Bool.not_true Bool.not_false Option.map_some Option.map_none Option.bind_some Option.bind_none List.length_cons List.length_nil List.take_succ_cons List.take_zero List.take_nil List.drop_succ_cons List.drop_zero List.drop_nil List.head?_cons List.map_cons List.map_nil List.getElem?_cons_zero List.getElem?_cons_succ List.cons_append List.nil_append List.append_nil List.length_map List.set_cons_zero List.set_cons_succ Nat.reduceMul eq_self Int.toNat_natCast Int.natCast_nonneg and_self true_and and_true decide_true decide_false Bool.false_eq_true Nat.zero_add Nat.add_zero List.contains_cons List.contains_nil Bool.or_false Bool.false_or beq_self_eq_true Nat.reduceBEq ne_eq not_true_eq_false not_false_eq_true Id.mk.injEq false_and and_false Nat.reduceLT Int.reduceLE Int.reduceLT Int.reduceToNat Int.reduceNeg Int.reduceAdd Nat.le_refl List.length_append beq_true beq_false Bool.not_eq_eq_eq_not or_false false_or dW ad ae aL aI bf bR az bc aA aJ cj bh
variable {P:Program}
end Go.Proofs.YtakkdjfmiffbfaaGreatDoor.V

namespace Go.Proofs.YtakkdjfmiffbfaaGreatDoor.V
open Go.RowKit
attribute [local irreducible] dL wpOps ez Call
attribute [local go_sem] ay ew dZ eE eC cY upd bJ K.av bZ AV.cells AV.cell rowOf rowsOf part ld rowAt eO bH bI cX dj eQ bq cF dx eA ed cQ dq cD cC dc de bu aE cm bt cr cq dn dr dp ck bz cE dm br aw cw bQ eP aZ bW bx aD cR aQ cZ AV.undef bd bj dh di c6 da bV dw dz bP du dt cu cz List.getD_cons_zero List.getD_cons_succ List.getD_nil List.all_cons List.all_nil Bool.and_true Bool.true_and Bool.and_self Bool.not_true Bool.not_false Option.map_some Option.map_none Option.bind_some Option.bind_none List.length_cons List.length_nil List.take_succ_cons List.take_zero List.take_nil List.drop_succ_cons List.drop_zero List.drop_nil List.head?_cons List.map_cons List.map_nil List.getElem?_cons_zero List.getElem?_cons_succ List.cons_append List.nil_append List.append_nil List.length_map List.set_cons_zero List.set_cons_succ Nat.reduceMul eq_self Int.toNat_natCast Int.natCast_nonneg and_self true_and and_true decide_true decide_false Bool.false_eq_true Nat.zero_add Nat.add_zero List.contains_cons List.contains_nil Bool.or_false Bool.false_or beq_self_eq_true Nat.reduceBEq ne_eq not_true_eq_false not_false_eq_true Id.mk.injEq false_and and_false Nat.reduceLT Int.reduceLE Int.reduceLT Int.reduceToNat Int.reduceNeg Int.reduceAdd Nat.le_refl List.length_append beq_true beq_false Bool.not_eq_eq_eq_not or_false false_or dW ad ae aL aI bf bR az bc aA aJ cj bh
def mm (s:aH):Prop:=(∀g∈s.bU,g.dG.size<=9223372036854775807)/\∀t∈s.ah,t.dG.size<=9223372036854775807
def tj (s:aH) (i:Nat):eS:=s.bU.getD i ⟨⟨#[]⟩,0⟩
def nn (s:aH) (i:Nat):dR:=s.ah.getD i qg
def NV (s:aH) (i:Nat):Prop:=kC (tj s i).dG=true/\je (tj s i).gH 1 4=true/\∀j,j<i->(tj s j).dG≠(tj s i).dG
def LV (s:aH) (i:Nat):Prop:=kC (nn s i).dG=true/\(nn s i).dM.length=4/\(∀j,j<i->(nn s j).dG≠(nn s i).dG)/\∀g∈(nn s i).dM,je g 0 s.bU.length=true
structure gj (s:aH):Prop where
 ou:s.bU.length<=200
 some:1<=s.ah.length
 rO:s.ah.length<=160
 Sx:∀i,i<s.bU.length->NV s i
 tok:∀i,i<s.ah.length->LV s i
noncomputable def uc (s:aH):Bool:=@decide (gj s) (Classical.propDecidable _)
theorem rH {s:aH}:uc s=true↔gj s:=by simp[uc]
theorem kd {s:aH} (h:¬gj s):false=uc s:=by simp[uc,h]
theorem KY {s:aH} (h:gj s):true=uc s:=by simp[uc,h]
theorem F4 {s:aH} {i:Nat} (h:i<s.ah.length):(s.ah.map dS)[i]? =some (dS (nn s i)):=getD_map dS h
theorem Fx {s:aH} {i:Nat} (h:i<s.bU.length):(s.bU.map ea)[i]? =some (ea (tj s i)):=getD_map ea h
theorem gj.form {s:aH} (h:gj s):oW s:=by
 have key:∀t∈s.ah,∃i,i<s.ah.length/\t=nn s i:=fun t ht=>by
  obtain⟨i,hi,rfl⟩:=List.getElem_of_mem ht
  exact⟨i,hi,by simp[nn,List.getD_eq_getElem?_getD,hi]⟩
 refine⟨fun t ht=>?_,fun t ht g hg=>?_⟩
 ·obtain⟨i,hi,rfl⟩:=key t ht
  exact(h.tok i hi).2.1
 ·obtain⟨i,hi,rfl⟩:=key t ht
  exact eH ((h.tok i hi).2.2.2 g hg)
def ec (l:List ByteArray):List (List AV):=l.map fun n=>[.str n,.bool true]
abbrev mS:MK:=⟨false,[.tS]⟩
theorem zl (n:ByteArray):∀(l:List ByteArray) (i:Nat),∃r,fB mS [.str n] (ec l) i=some r/\((r=none/\n∉l)∨∃j,r=some (i+j)/\n∈l/\(ec l)[j]? =some [.str n,.bool true])
 |[],i=>⟨none,rfl,.inl ⟨rfl,by simp⟩⟩
 |m::l,i=>by
  obtain⟨r,h1,h2⟩:=zl n l (i+1)
  by_cases h:n=m
  ·subst h
   exact⟨some i,by simp[ec,fB,ed,eA,MK.ks],.inr ⟨0,rfl,by simp,rfl⟩⟩
  ·refine⟨r,?_,?_⟩
   ·unfold ec at h1 ⊢
    simp only[List.map_cons,fB,MK.ks,List.length_cons,List.length_nil,Nat.zero_add,List.take_succ_cons,List.take_zero,ed,eA,h,decide_false,Bool.and_true]
    exact h1
   ·rcases h2 with⟨rfl,h2⟩|⟨j,rfl,h2,h3⟩
    ·exact .inl ⟨rfl,by simp[h,h2]⟩
    ·exact .inr ⟨j+1,by congr 1;omega,by simp[h2],by simpa[ec]using h3⟩
theorem w9 (n:ByteArray) (l:List ByteArray):(n∉l/\fb mS (.str n) (ec l)=some none)∨∃j,n∈l/\fb mS (.str n) (ec l)=some (some j)/\(ec l)[j]? =some [.str n,.bool true]:=by
 obtain⟨r,h1,h2⟩:=zl n l 0
 have e:fb mS (.str n) (ec l)=some r:=by
  unfold fb
  rw[if_pos ⟨rfl,rfl,rfl⟩];exact h1
 rcases h2 with⟨rfl,h2⟩|⟨j,rfl,h2,h3⟩
 ·exact .inl ⟨h2,e⟩
 ·exact .inr ⟨j,h2,by rw[e,Nat.zero_add],h3⟩
theorem Q0 (s:aH) (g:Int):aP Tryz.prog 66 [.int .i64 g,.eT (ao s)] (.bool (!je g 0 s.bU.length)):=by
 refine aP.body fH rfl fun hl n0=>?_
 clear hl
 have h:=gS g 0 s.bU.length
 (repeat(first|((repeat(revert hN;revert N;apply Pn.out));refine wk @ao.eq_1 ?_;(repeat(refine Pn.mk ?_;intro N hN)))|((try apply Or.inl);refine⟨_,aP.x (h) (sd @ao.eq_1),?_⟩;refine hN _ _ ?_;clear hN N)))
 exact dU (b:= !je g 0 s.bU.length) (.inl rfl) (sd @Nat.zero_add) rfl
theorem Fh:RV bE (fun c=>.int .i64 c) 1 false:=⟨fun _=>rfl,fun _=>rfl,fun x g=>by rw[ad,aL,ae];rfl⟩
theorem NA (s:aH) (l:List Int) (hl:l.length<=1048576):aP Tryz.prog 60 [.sl (l.map bE),.fn 66 [.eT (ao s)]] (.bool (l.any fun g=> !je g 0 s.bU.length)):=
 ki Fh (show Bh Tryz.prog 60=some (z6 60 96) by kernel_rfl)
  (show Bh Tryz.prog 96=some (sw 96 1 false) by kernel_rfl) l hl _ _ _ rfl (fun g=>by rw[ad,aA,ae];rfl) (fun x _=>Q0 s x) fun g=>by rw[ad,aA,ae];rfl
theorem wF {α:Type} (f:Nat->α) (n k:Nat) (x:α):x∉(List.range k).map f↔∀j,j<k->f j≠x:=by
 constructor
 ·intro h j hj he
  exact h (List.mem_map.2 ⟨j,List.mem_range.2 hj,he⟩)
 ·intro h hm
  obtain⟨j,hj,he⟩:=List.mem_map.1 hm
  exact h j (List.mem_range.1 hj) he
theorem uQ (s:aH) (hn:mm s) (hg:s.bU.length<=1048576) (ht:s.ah.length<=1048576) (hs:∀t∈s.ah,t.dM.length<=1048576):aP Tryz.prog 36 [.agg (ao s)] (.bool (uc s)):=by
 refine aP.body fH rfl fun hl n0=>?_
 clear hl
 have WL:∀i,i<s.bU.length->(tj s i).dG.size<=9223372036854775807:=fun i hi=>hn.1 _ (by simp[tj,List.getD_eq_getElem?_getD,hi])
 have Ik:∀i,i<s.ah.length->(nn s i).dG.size<=9223372036854775807:=fun i hi=>hn.2 _ (by simp[nn,List.getD_eq_getElem?_getD,hi])
 have tx:∀i,i<s.ah.length->(nn s i).dM.length<=1048576:=fun i hi=>hs _ (by simp[nn,List.getD_eq_getElem?_getD,hi])
 have hw:=gS (s.ah.length:Int) 1 160
 by_cases h1:(200:Int)<(s.bU.length:Int)
 ·(try((repeat(revert hN;revert N;apply Pn.out));refine wk (tw @ao.eq_1 @h1) ?_;(repeat(refine Pn.mk ?_;intro N hN))))
  exact dU (b:=false) (.inl rfl) (sd @Nat.zero_add) (kd fun h=>by have:=h.ou;omega)
 by_cases h2:je (s.ah.length:Int) 1 160=true
 ·have CY:=eH h2
  rw[h2]at hw
  (repeat(first|((repeat(revert hN;revert N;apply Pn.out));refine wk (tw @ao.eq_1 @h1) ?_;(repeat(refine Pn.mk ?_;intro N hN)))|((try apply Or.inl);refine⟨_,aP.x (hw) (sd (tw @ao.eq_1 @h1)),?_⟩;refine hN _ _ ?_;clear hN N)))
  refine cU (fun n env st=>∃k:Nat,n=(s.bU.length)-k/\k<=(s.bU.length)/\env 24=.int .i64 (k:Int)/\st.get ⟨36000000,n0⟩=some ⟨true,2,[ao s]⟩/\st.get ⟨36003000,n0+1+1⟩=some ⟨true,mS.j5,ec ((List.range k).map fun i=>(tj s i).dG)⟩/\(∀j:Nat,j<k->NV s j)) (s.bU.length) ⟨0,ab,ab,by(try simp only[go_sem, ↓reduceIte,Nat.reduceEqDiff,Nat.reduceAdd,Nat.reduceSub,Nat.reduceLeDiff,reduceCtorEq,ao,List.range_zero,List.map_nil,ec]);try rfl,by(try simp only[go_sem, ↓reduceIte,Nat.reduceEqDiff,Nat.reduceAdd,Nat.reduceSub,Nat.reduceLeDiff,reduceCtorEq,ao,List.range_zero,List.map_nil,ec]);try rfl,by(try simp only[go_sem, ↓reduceIte,Nat.reduceEqDiff,Nat.reduceAdd,Nat.reduceSub,Nat.reduceLeDiff,reduceCtorEq,ao,List.range_zero,List.map_nil,ec]);try rfl,fun _ h=>absurd h (Nat.not_lt_zero _)⟩ ?_
  rintro n_a env_a st_a ⟨k,rfl,ale,a24,ag0,ag1,ug⟩ eL
  have a1:=eL 1 (by kernel_rfl);have a3:=eL 3 (by kernel_rfl);have a22:=eL 22 (by kernel_rfl);have a23:=eL 23 (by kernel_rfl)
  simp only[go_sem, ↓reduceIte,Nat.reduceEqDiff,Nat.reduceAdd,Nat.reduceSub,Nat.reduceLeDiff,reduceCtorEq,ao,List.range_zero,List.map_nil,ec]at a1 a3 a22 a23
  clear eL
  by_cases hk:(k:Int)<(s.bU.length:Int)
  ·have eB:∀{e:Env} {gg:Rows},(e 24=.int .i64 (IntKind.i64.wrap ((k:Int)+1)))->(gg ⟨36000000,n0⟩=some ⟨true,2,[ao s]⟩)->(gg ⟨36003000,n0+1+1⟩=some ⟨true,mS.j5,ec ((List.range (k+1)).map fun i=>(tj s i).dG)⟩)->(NV s k)->∃m0,m0<(s.bU.length)-k/\∃k:Nat,m0=(s.bU.length)-k/\k<=(s.bU.length)/\e 24=.int .i64 (k:Int)/\gg ⟨36000000,n0⟩=some ⟨true,2,[ao s]⟩/\gg ⟨36003000,n0+1+1⟩=some ⟨true,mS.j5,ec ((List.range k).map fun i=>(tj s i).dG)⟩/\(∀j:Nat,j<k->NV s j):=fun x1 x2 x3 x4=>⟨_,ab,k+1,rfl,ab,(by rw[x1,cI ab]),x2,x3,(all_succ ug x4)⟩
   have jB:k<s.bU.length:=ab
   have gV:=Fx jB
   have FG:=FM (tj s k).dG (WL k jB)
   have Vo:=gS (tj s k).gH 1 4
   have BZ:=w9 (tj s k).dG ((List.range k).map fun i=>(tj s i).dG)
   rw[wF _ k]at BZ
   have qT:(¬NV s k)->¬gj s:=fun h hp=>h (hp.Sx k jB)
   generalize z8:tj s k=gl at *
   cases hb:kC gl.dG
   ·rw[hb]at FG
    (repeat(first|((repeat(revert hN;revert N;apply Pn.out));refine wk (tw @a24 (tw @ag0 (tw @ag1 (tw @a1 (tw @a3 (tw @a22 (tw @a23 (tw @hk (tw @gV (tw @ea.eq_1 @ao.eq_1)))))))))) ?_;(repeat(refine Pn.mk ?_;intro N hN)))|((try apply Or.inl);refine⟨_,aP.x (FG) (sd (tw @a24 (tw @ag0 (tw @ag1 (tw @a1 (tw @a3 (tw @a22 (tw @a23 (tw @hk (tw @gV (tw @ea.eq_1 @ao.eq_1))))))))))),?_⟩;refine hN _ _ ?_;clear hN N)))
    exact dU (b:=false) (.inl rfl) (sd @Nat.zero_add) (kd (qT fun h=>by rw[NV,z8,hb]at h;cases h.1))
   ·rw[hb]at FG
    rcases BZ with⟨DR,la⟩|⟨j,iO,la,fS⟩
    ·cases ee:je gl.gH 1 4
     ·rw[ee]at Vo
      (repeat(first|((repeat(revert hN;revert N;apply Pn.out));refine wk (tw @a24 (tw @ag0 (tw @ag1 (tw @a1 (tw @a3 (tw @a22 (tw @a23 (tw @hk (tw @gV (tw @la (tw @ea.eq_1 @ao.eq_1))))))))))) ?_;(repeat(refine Pn.mk ?_;intro N hN)))|((try apply Or.inl);refine⟨_,aP.x (FG) (sd (tw @a24 (tw @ag0 (tw @ag1 (tw @a1 (tw @a3 (tw @a22 (tw @a23 (tw @hk (tw @gV (tw @la (tw @ea.eq_1 @ao.eq_1)))))))))))),?_⟩;refine hN _ _ ?_;clear hN N)|((try apply Or.inl);refine⟨_,aP.x (Vo) (sd (tw @a24 (tw @ag0 (tw @ag1 (tw @a1 (tw @a3 (tw @a22 (tw @a23 (tw @hk (tw @gV (tw @la (tw @ea.eq_1 @ao.eq_1)))))))))))),?_⟩;refine hN _ _ ?_;clear hN N)))
      exact dU (b:=false) (.inl rfl) (sd @Nat.zero_add) (kd (qT fun h=>by rw[NV,z8,ee]at h;cases h.2.1))
     ·rw[ee]at Vo
      have BU:ec ((List.range k).map fun i=>(tj s i).dG)++[[.str gl.dG,.bool true]]=ec (List.map (fun i=>(tj s i).dG) (List.range k++[k])):=by simp[ec,z8]
      (repeat(first|((repeat(revert hN;revert N;apply Pn.out));refine wk (tw @a24 (tw @ag0 (tw @ag1 (tw @a1 (tw @a3 (tw @a22 (tw @a23 (tw @hk (tw @gV (tw @la (tw @ea.eq_1 @ao.eq_1))))))))))) ?_;(repeat(refine Pn.mk ?_;intro N hN)))|((try apply Or.inl);refine⟨_,aP.x (FG) (sd (tw @a24 (tw @ag0 (tw @ag1 (tw @a1 (tw @a3 (tw @a22 (tw @a23 (tw @hk (tw @gV (tw @la (tw @ea.eq_1 @ao.eq_1)))))))))))),?_⟩;refine hN _ _ ?_;clear hN N)|((try apply Or.inl);refine⟨_,aP.x (Vo) (sd (tw @a24 (tw @ag0 (tw @ag1 (tw @a1 (tw @a3 (tw @a22 (tw @a23 (tw @hk (tw @gV (tw @la (tw @ea.eq_1 @ao.eq_1)))))))))))),?_⟩;refine hN _ _ ?_;clear hN N)))
      refine eB ?_ ?_ ?_ (⟨by rw[z8];exact hb,by rw[z8];exact ee,fun j hj=>by rw[z8];exact DR j hj⟩)
      all_goals simp only[go_sem, ↓reduceIte,Nat.reduceEqDiff,Nat.reduceAdd,Nat.reduceSub,Nat.reduceLeDiff,reduceCtorEq,a24,ag0,ag1,a1,a3,a22,a23,la,BU]
    ·(repeat(first|((repeat(revert hN;revert N;apply Pn.out));refine wk (tw @a24 (tw @ag0 (tw @ag1 (tw @a1 (tw @a3 (tw @a22 (tw @a23 (tw @hk (tw @gV (tw @la (tw @fS (tw @ea.eq_1 @ao.eq_1)))))))))))) ?_;(repeat(refine Pn.mk ?_;intro N hN)))|((try apply Or.inl);refine⟨_,aP.x (FG) (sd (tw @a24 (tw @ag0 (tw @ag1 (tw @a1 (tw @a3 (tw @a22 (tw @a23 (tw @hk (tw @gV (tw @la (tw @fS (tw @ea.eq_1 @ao.eq_1))))))))))))),?_⟩;refine hN _ _ ?_;clear hN N)))
     exact dU (b:=false) (.inl rfl) (sd @Nat.zero_add) (kd (qT fun h=>by
      rw[NV,z8]at h
      obtain⟨i,hi,he⟩:=List.mem_map.1 iO
      exact h.2.2 i (List.mem_range.1 hi) he))
  ·have ko:k=s.bU.length:=ab
   (try((repeat(revert hN;revert N;apply Pn.out));refine wk (tw @a24 (tw @ag0 (tw @ag1 (tw @a1 (tw @a3 (tw @a22 (tw @a23 (tw @hk @ao.eq_1)))))))) ?_;(repeat(refine Pn.mk ?_;intro N hN))))
   refine cU (fun n env st=>∃j:Nat,n=(s.ah.length)-j/\j<=(s.ah.length)/\env 52=.int .i64 (j:Int)/\st.get ⟨36000000,n0⟩=some ⟨true,2,[ao s]⟩/\st.get ⟨36011000,st_a.next+1⟩=some ⟨true,mS.j5,ec ((List.range j).map fun i=>(nn s i).dG)⟩/\(∀i:Nat,i<j->LV s i)/\(st_a.next<st.next)) (s.ah.length) ⟨0,ab,ab,by(try simp only[go_sem, ↓reduceIte,Nat.reduceEqDiff,Nat.reduceAdd,Nat.reduceSub,Nat.reduceLeDiff,reduceCtorEq,a24,ag0,ag1,a1,a3,a22,a23,ao,List.range_zero,List.map_nil,ec]);try rfl,by(try simp only[go_sem, ↓reduceIte,Nat.reduceEqDiff,Nat.reduceAdd,Nat.reduceSub,Nat.reduceLeDiff,reduceCtorEq,a24,ag0,ag1,a1,a3,a22,a23,ao,List.range_zero,List.map_nil,ec]);try rfl,by(try simp only[go_sem, ↓reduceIte,Nat.reduceEqDiff,Nat.reduceAdd,Nat.reduceSub,Nat.reduceLeDiff,reduceCtorEq,a24,ag0,ag1,a1,a3,a22,a23,ao,List.range_zero,List.map_nil,ec]);try rfl,fun _ h=>absurd h (Nat.not_lt_zero _),bL⟩ ?_
   rintro n_b env_b st_b ⟨j,rfl,ble,b52,bg0,bg1,bA0,bI0⟩ fA
   have b1:=fA 1 (by kernel_rfl);have b6:=fA 6 (by kernel_rfl);have Df:=fA 50 (by kernel_rfl);have Dg:=fA 51 (by kernel_rfl)
   simp only[go_sem, ↓reduceIte,Nat.reduceEqDiff,Nat.reduceAdd,Nat.reduceSub,Nat.reduceLeDiff,reduceCtorEq,a24,ag0,ag1,a1,a3,a22,a23,ao,List.range_zero,List.map_nil,ec]at b1 b6 Df Dg
   clear fA
   by_cases hj:(j:Int)<(s.ah.length:Int)
   ·have fP:∀{e:Env} {gg:Rows} {nx:Nat},(e 52=.int .i64 (IntKind.i64.wrap ((j:Int)+1)))->(gg ⟨36000000,n0⟩=some ⟨true,2,[ao s]⟩)->(gg ⟨36011000,st_a.next+1⟩=some ⟨true,mS.j5,ec ((List.range (j+1)).map fun i=>(nn s i).dG)⟩)->(LV s j)->(st_a.next<nx)->∃m0,m0<(s.ah.length)-j/\∃j:Nat,m0=(s.ah.length)-j/\j<=(s.ah.length)/\e 52=.int .i64 (j:Int)/\gg ⟨36000000,n0⟩=some ⟨true,2,[ao s]⟩/\gg ⟨36011000,st_a.next+1⟩=some ⟨true,mS.j5,ec ((List.range j).map fun i=>(nn s i).dG)⟩/\(∀i:Nat,i<j->LV s i)/\(st_a.next<nx):=fun x1 x2 x3 x4 x5=>⟨_,ab,j+1,rfl,ab,(by rw[x1,cI ab]),x2,x3,(all_succ bA0 x4),x5⟩
    have vV:j<s.ah.length:=ab
    have pL:=F4 vV
    have FG:=FM (nn s j).dG (Ik j vV)
    have Qv:=NA s (nn s j).dM (tx j vV)
    have BZ:=w9 (nn s j).dG ((List.range j).map fun i=>(nn s i).dG)
    rw[wF _ j]at BZ
    have qT:(¬LV s j)->¬gj s:=fun h hp=>h (hp.tok j vV)
    have ig:(⟨36011000,st_a.next+1⟩:Id)≠⟨36000000,n0⟩:=by simp
    generalize htd:nn s j=tl at *
    cases hb:kC tl.dG
    ·rw[hb]at FG
     (repeat(first|((repeat(revert hN;revert N;apply Pn.out));refine wk (tw @b52 (tw @bg0 (tw @bg1 (tw @b1 (tw @b6 (tw @Df (tw @Dg (tw @hj (tw @pL (tw @dS.eq_1 @ao.eq_1)))))))))) ?_;(repeat(refine Pn.mk ?_;intro N hN)))|((try apply Or.inl);refine⟨_,aP.x (FG) (sd (tw @b52 (tw @bg0 (tw @bg1 (tw @b1 (tw @b6 (tw @Df (tw @Dg (tw @hj (tw @pL (tw @dS.eq_1 @ao.eq_1))))))))))),?_⟩;refine hN _ _ ?_;clear hN N)))
     exact dU (b:=false) (.inl rfl) (sd @Nat.zero_add) (kd (qT fun h=>by rw[LV,htd,hb]at h;cases h.1))
    ·rw[hb]at FG
     rcases BZ with⟨DR,la⟩|⟨i,iO,la,fS⟩
     ·by_cases h4:(tl.dM.length:Int)=4
      ·have Ms:decide ((tl.dM.length:Int)=4)=true:=decide_eq_true h4
       cases hany:tl.dM.any fun g=> !je g 0 s.bU.length
       ·rw[hany]at Qv
        have BU:ec ((List.range j).map fun i=>(nn s i).dG)++[[.str tl.dG,.bool true]]=ec (List.map (fun i=>(nn s i).dG) (List.range j++[j])):=by simp[ec,htd]
        (repeat(first|((repeat(revert hN;revert N;apply Pn.out));refine wk (tw @b52 (tw @bg0 (tw @bg1 (tw @b1 (tw @b6 (tw @Df (tw @Dg (tw @hj (tw @pL (tw @la (tw @Ms (tw @dS.eq_1 @ao.eq_1)))))))))))) ?_;(repeat(refine Pn.mk ?_;intro N hN)))|((try apply Or.inl);refine⟨_,aP.x (FG) (sd (tw @b52 (tw @bg0 (tw @bg1 (tw @b1 (tw @b6 (tw @Df (tw @Dg (tw @hj (tw @pL (tw @la (tw @Ms (tw @dS.eq_1 @ao.eq_1))))))))))))),?_⟩;refine hN _ _ ?_;clear hN N)|((try apply Or.inl);refine⟨_,aP.x (Qv) (sd (tw @b52 (tw @bg0 (tw @bg1 (tw @b1 (tw @b6 (tw @Df (tw @Dg (tw @hj (tw @pL (tw @la (tw @Ms (tw @dS.eq_1 @ao.eq_1))))))))))))),?_⟩;refine hN _ _ ?_;clear hN N)))
        refine fP ?_ ?_ ?_ (⟨by rw[htd];exact hb,by rw[htd];omega,fun i hi=>(by rw[htd];exact DR i hi),fun g hg=>by rw[htd]at hg;have:=List.any_eq_false.1 hany g hg;simpa using this⟩) bL
        all_goals simp only[go_sem, ↓reduceIte,Nat.reduceEqDiff,Nat.reduceAdd,Nat.reduceSub,Nat.reduceLeDiff,reduceCtorEq,b52,bg0,bg1,b1,b6,Df,Dg,la,BU]
       ·rw[hany]at Qv
        (repeat(first|((repeat(revert hN;revert N;apply Pn.out));refine wk (tw @b52 (tw @bg0 (tw @bg1 (tw @b1 (tw @b6 (tw @Df (tw @Dg (tw @hj (tw @pL (tw @la (tw @Ms (tw @dS.eq_1 @ao.eq_1)))))))))))) ?_;(repeat(refine Pn.mk ?_;intro N hN)))|((try apply Or.inl);refine⟨_,aP.x (FG) (sd (tw @b52 (tw @bg0 (tw @bg1 (tw @b1 (tw @b6 (tw @Df (tw @Dg (tw @hj (tw @pL (tw @la (tw @Ms (tw @dS.eq_1 @ao.eq_1))))))))))))),?_⟩;refine hN _ _ ?_;clear hN N)|((try apply Or.inl);refine⟨_,aP.x (Qv) (sd (tw @b52 (tw @bg0 (tw @bg1 (tw @b1 (tw @b6 (tw @Df (tw @Dg (tw @hj (tw @pL (tw @la (tw @Ms (tw @dS.eq_1 @ao.eq_1))))))))))))),?_⟩;refine hN _ _ ?_;clear hN N)))
        exact dU (b:=false) (.inl rfl) (sd @Nat.zero_add) (kd (qT fun h=>by
         rw[LV,htd]at h
         obtain⟨g,hg,hq⟩:=List.any_eq_true.1 hany
         have:=h.2.2.2 g hg
         rw[this]at hq;cases hq))
      ·have Ms:decide ((tl.dM.length:Int)=4)=false:=decide_eq_false h4
       (repeat(first|((repeat(revert hN;revert N;apply Pn.out));refine wk (tw @b52 (tw @bg0 (tw @bg1 (tw @b1 (tw @b6 (tw @Df (tw @Dg (tw @hj (tw @pL (tw @la (tw @Ms (tw @dS.eq_1 @ao.eq_1)))))))))))) ?_;(repeat(refine Pn.mk ?_;intro N hN)))|((try apply Or.inl);refine⟨_,aP.x (FG) (sd (tw @b52 (tw @bg0 (tw @bg1 (tw @b1 (tw @b6 (tw @Df (tw @Dg (tw @hj (tw @pL (tw @la (tw @Ms (tw @dS.eq_1 @ao.eq_1))))))))))))),?_⟩;refine hN _ _ ?_;clear hN N)))
       exact dU (b:=false) (.inl rfl) (sd @Nat.zero_add) (kd (qT fun h=>by rw[LV,htd]at h;have:=h.2.1;omega))
     ·(repeat(first|((repeat(revert hN;revert N;apply Pn.out));refine wk (tw @b52 (tw @bg0 (tw @bg1 (tw @b1 (tw @b6 (tw @Df (tw @Dg (tw @hj (tw @pL (tw @la (tw @fS (tw @dS.eq_1 @ao.eq_1)))))))))))) ?_;(repeat(refine Pn.mk ?_;intro N hN)))|((try apply Or.inl);refine⟨_,aP.x (FG) (sd (tw @b52 (tw @bg0 (tw @bg1 (tw @b1 (tw @b6 (tw @Df (tw @Dg (tw @hj (tw @pL (tw @la (tw @fS (tw @dS.eq_1 @ao.eq_1))))))))))))),?_⟩;refine hN _ _ ?_;clear hN N)))
      exact dU (b:=false) (.inl rfl) (sd @Nat.zero_add) (kd (qT fun h=>by
       rw[LV,htd]at h
       obtain⟨i,hi,he⟩:=List.mem_map.1 iO
       exact h.2.2.1 i (List.mem_range.1 hi) he))
   ·(try((repeat(revert hN;revert N;apply Pn.out));refine wk (tw @b52 (tw @bg0 (tw @bg1 (tw @b1 (tw @b6 (tw @Df (tw @Dg (tw @hj @ao.eq_1)))))))) ?_;(repeat(refine Pn.mk ?_;intro N hN))))
    exact dU (b:=true) (.inl rfl) (sd @Nat.zero_add) (KY ⟨ab,ab,ab,fun i hi=>ug i ab,fun i hi=>bA0 i ab⟩)
 ·rw[Bool.not_eq_true]at h2
  rw[h2]at hw
  (repeat(first|((repeat(revert hN;revert N;apply Pn.out));refine wk (tw @ao.eq_1 @h1) ?_;(repeat(refine Pn.mk ?_;intro N hN)))|((try apply Or.inl);refine⟨_,aP.x (hw) (sd (tw @ao.eq_1 @h1)),?_⟩;refine hN _ _ ?_;clear hN N)))
  exact dU (b:=false) (.inl rfl) (sd @Nat.zero_add) (kd fun h=>by
   have h3:=h.some
   have h4:=h.rO
   rw[ly ⟨ab,ab⟩]at h2;cases h2)
theorem Fo {α:Type} {p:α->Bool} {xs:List α} {k:Nat} (hk:k<xs.length) (h1:p xs[k]=true) (h2:∀j (h:j<xs.length),j<k->p xs[j]=false):kj p xs=k:=by
 have:xs.findIdx p=k:=by rw[List.findIdx_eq hk];exact⟨h1,fun j hj=>h2 j ab hj⟩
 rw[kj,this,if_pos hk]
theorem yn {α:Type} {p:α->Bool} {xs:List α} (h:∀j (h:j<xs.length),p xs[j]=false):kj p xs= -1:=by
 rw[kj,if_neg]
 rw[List.findIdx_lt_length]
 rintro⟨x,hx,Qp⟩
 obtain⟨j,hj,rfl⟩:=List.getElem_of_mem hx
 rw[h j hj]at Qp;cases Qp
theorem Q3 {s:aH} {i:Nat} (h:i<s.ah.length):nn s i=s.ah[i]:=by simp[nn,List.getD_eq_getElem?_getD,h]
end Go.Proofs.YtakkdjfmiffbfaaGreatDoor.V

namespace Go.Proofs.YtakkdjfmiffbfaaGreatDoor.V
def kR (a b:af):Bool:=decide (a.eZ<b.eZ)||(decide (a.eZ=b.eZ)&&decide (a.fu<b.fu))
theorem o9 {a b:af}:kR a b=true↔a.eZ<b.eZ∨(a.eZ=b.eZ/\a.fu<b.fu):=by simp[kR]
theorem lV {a b:af}:kR a b=false↔¬(a.eZ<b.eZ∨(a.eZ=b.eZ/\a.fu<b.fu)):=by rw[<-o9,Bool.not_eq_true]
theorem Es {a b:af} (h1:a.fu=b.fu) (h2:a.eZ=b.eZ):a=b:=by cases a;cases b;simp_all
theorem iu {a b c:af} (h:kR a b=true) (k:kR b c=true):kR a c=true:=by rw[o9]at *;omega
theorem gq {a:af}:kR a a=false:=by rw[lV];omega
theorem Ce {a b:af} (h:kR a b=true):kR b a=false:=by rw[o9]at h;rw[lV];omega
theorem uu {a b:af} (h:kR a b=false) (ig:a≠b):kR b a=true:=by
 rw[lV]at h;rw[o9]
 by_cases hy:a.eZ=b.eZ
 ·by_cases hx:a.fu=b.fu
  ·exact absurd (Es hx hy) ig
  ·omega
 ·omega
def qG (a b:Int):Int:=if a<b then -1 else if b<a then 1 else 0
def Nh (a b:Int):Int:=if a=0 then b else a
def n9 (a b:af):Int:=Nh (qG a.eZ b.eZ) (qG a.fu b.fu)
theorem kX (a b:af):decide (n9 a b<0)=kR a b:=by
 unfold n9 Nh qG kR
 by_cases h1:a.eZ<b.eZ
 ·simp[h1]
 ·by_cases h2:b.eZ<a.eZ
  ·have:¬a.eZ=b.eZ:=ab
   simp[h1,h2,this]
  ·have:a.eZ=b.eZ:=ab
   by_cases h3:a.fu<b.fu
   ·simp[h1,h2,this,h3]
   ·by_cases h4:b.fu<a.fu<;>simp[h1,h2,this,h3,h4]
theorem Gu (a b:af):(n9 a b=0)↔a=b:=by
 cases a;cases b
 unfold n9 Nh qG
 simp only[af.mk.injEq]
 split<;>(try split)<;>(try split)<;>(try split)<;>omega
def Kq:aa:=⟨⟨0,0⟩,0⟩
def cP (l:List aa) (i:Nat):aa:=l.getD i Kq
theorem fj {l:List aa} {i:Nat} (h:i<l.length):cP l i=l[i]:=by simp[cP,List.getD_eq_getElem?_getD,h]
theorem gP {l:List aa} {i:Nat} (h:i<l.length):cP l i∈l:=by rw[fj h];exact List.getElem_mem h
def nq (l:List aa):Prop:=∀i j:Nat,i<j->j<l.length->kR (cP l i).cG (cP l j).cG=true
def pw (l:List aa) (p:af):Nat:=l.findIdx fun c=>decide (c.cG=p)
def eF (l:List aa) (p:af):Int:=if pw l p<l.length then(pw l p:Int)else -1
def sD (l:List aa) (p:af):Nat:=l.findIdx fun c=> !kR c.cG p
theorem FT {l:List aa} {p:af} {i:Nat} (hi:i<=l.length) (h1:∀x,x<i->kR (cP l x).cG p=true) (h2:i<l.length->kR (cP l i).cG p=false):sD l p=i:=by
 unfold sD
 by_cases h:i<l.length
 ·rw[List.findIdx_eq h]
  refine⟨by have:=h2 h;rw[fj h]at this;simp[this],fun j hj=>?_⟩
  have:=h1 j hj
  rw[fj ab]at this
  simp[this]
 ·have:i=l.length:=ab
  subst this
  refine List.findIdx_eq_length_of_false fun x hx=>?_
  obtain⟨j,hj,rfl⟩:=List.getElem_of_mem hx
  have:=h1 j hj
  rw[fj hj]at this
  simp[this]
theorem M8 {l:List aa} {p:af} (hR:nq l):eF l p=if sD l p<l.length/\(cP l (sD l p)).cG=p then(sD l p:Int)else -1:=by
 by_cases h:∃i,i<l.length/\(cP l i).cG=p
 ·obtain⟨i,hi,hp⟩:=h
  have h1:sD l p=i:=FT ab (fun x hx=>by rw[<-hp];exact hR x i hx hi) fun _=>by rw[hp];exact gq
  have h2:pw l p=i:=by
   rw[pw,List.findIdx_eq hi]
   refine⟨by rw[fj hi]at hp;simpa using hp,fun j hj=>?_⟩
   have:=hR j i hj hi
   rw[hp,fj ab]at this
   simp only[decide_eq_false_iff_not]
   intro hc
   rw[hc,gq]at this
   cases this
  rw[eF,h1,h2,if_pos hi,if_pos ⟨hi,hp⟩]
 ·have h2:¬pw l p<l.length:=by
   rw[pw,List.findIdx_lt_length]
   rintro⟨c,hc,he⟩
   obtain⟨j,hj,rfl⟩:=List.getElem_of_mem hc
   exact h ⟨j,hj,by rw[fj hj];simpa using he⟩
  rw[eF,if_neg h2,if_neg]
  rintro⟨h3,h4⟩
  exact h ⟨_,h3,h4⟩
theorem jL {l:List aa} {p:af} (h:0<=eF l p):(eF l p).toNat<l.length/\(cP l (eF l p).toNat).cG=p:=by
 unfold eF at h ⊢
 split at h
 ·rename_i hc
  rw[if_pos hc]
  refine⟨ab,?_⟩
  have:=of_decide_eq_true (List.findIdx_getElem (p:=fun c:aa=>decide (c.cG=p)) (xs:=l) (w:=hc))
  rw[Int.toNat_natCast,fj hc]
  exact this
 ·omega
def gJ (l:List aa) (p:af):Int:=if 0<=eF l p then(cP l (eF l p).toNat).cL else -1
end Go.Proofs.YtakkdjfmiffbfaaGreatDoor.V

namespace Go.Proofs.YtakkdjfmiffbfaaGreatDoor.V
open Go.RowKit
attribute [local irreducible] dL wpOps ez Call
attribute [local go_sem] ay ew dZ eE eC cY upd bJ K.av bZ AV.cells AV.cell rowOf rowsOf part ld rowAt eO bH bI cX dj eQ bq cF dx eA ed cQ dq cD cC dc de bu aE cm bt cr cq dn dr dp ck bz cE dm br aw cw bQ eP aZ bW bx aD cR aQ cZ AV.undef bd bj dh di c6 da bV dw dz bP du dt cu cz List.getD_cons_zero List.getD_cons_succ List.getD_nil List.all_cons List.all_nil Bool.and_true Bool.true_and Bool.and_self Bool.not_true Bool.not_false Option.map_some Option.map_none Option.bind_some Option.bind_none List.length_cons List.length_nil List.take_succ_cons List.take_zero List.take_nil List.drop_succ_cons List.drop_zero List.drop_nil List.head?_cons List.map_cons List.map_nil List.getElem?_cons_zero List.getElem?_cons_succ List.cons_append List.nil_append List.append_nil List.length_map List.set_cons_zero List.set_cons_succ Nat.reduceMul eq_self Int.toNat_natCast Int.natCast_nonneg and_self true_and and_true decide_true decide_false Bool.false_eq_true Nat.zero_add Nat.add_zero List.contains_cons List.contains_nil Bool.or_false Bool.false_or beq_self_eq_true Nat.reduceBEq ne_eq not_true_eq_false not_false_eq_true Id.mk.injEq false_and and_false Nat.reduceLT Int.reduceLE Int.reduceLT Int.reduceToNat Int.reduceNeg Int.reduceAdd Nat.le_refl List.length_append beq_true beq_false Bool.not_eq_eq_eq_not or_false false_or dW ad ae aL aI bf bR az bc aA aJ cj bh
theorem jn {l:List aa} {i:Nat} (h:i<l.length):(l.map ai)[i]? =some (ai (cP l i)):=getD_map ai h
def LR (l:List aa) (i:Nat):Prop:=za (cP l i).cG=true/\je (cP l i).cL 0 159=true/\(0<i->kR (cP l (i-1)).cG (cP l i).cG=true)
structure lJ (l:List aa):Prop where
 CX:l.length<=500
 ok:∀i,i<l.length->LR l i
noncomputable def pE (l:List aa):Bool:=@decide (lJ l) (Classical.propDecidable _)
theorem sb {l:List aa}:pE l=true↔lJ l:=by simp[pE]
theorem qL {l:List aa} (h:¬lJ l):false=pE l:=by simp[pE,h]
theorem GJ {l:List aa} (h:lJ l):true=pE l:=by simp[pE,h]
theorem lJ.OG {l:List aa} (h:lJ l):nq l:=by
 intro i j Ab hj
 induction j with
 |zero=>omega
 |succ j ih=>
  have h1:=(h.ok (j+1) hj).2.2 ab
  rw[Nat.add_sub_cancel]at h1
  by_cases he:i=j
  ·subst he;exact h1
  ·exact iu (ih ab ab) h1
theorem lJ.pt {l:List aa} (h:lJ l) {i:Nat} (hi:i<l.length):za (cP l i).cG=true:=(h.ok i hi).1
theorem Ax {p:af} (h:za p=true):iB p.fu/\iB p.eZ:=by
 unfold za at h
 simp only[Bool.and_eq_true]at h
 have:=eH h.1;have:=eH h.2
 unfold iB;omega
theorem yj (a b:Int):aP Tryz.prog 139 [.int .i64 a,.int .i64 b] (.int .i64 (qG a b)):=by
 have nan:∀x:Int,aP Tryz.prog 178 [.int .i64 x] (.bool false):=fun x=>by
  refine aP.body fH rfl fun hl n0=>?_
  clear hl
  have e:decide (x=x)=true:=decide_eq_true rfl
  (try((repeat(revert hN;revert N;apply Pn.out));refine wk @e ?_;(repeat(refine Pn.mk ?_;intro N hN))))
  exact dU (b:=false) (.inl rfl) (sd @Nat.zero_add) rfl
 refine aP.body fH rfl fun hl n0=>?_
 clear hl
 have ha:=nan a
 have hb:=nan b
 by_cases h1:a<b
 ·(repeat(first|((repeat(revert hN;revert N;apply Pn.out));refine wk @h1 ?_;(repeat(refine Pn.mk ?_;intro N hN)))|((try apply Or.inl);refine⟨_,aP.x (ha) (sd @h1),?_⟩;refine hN _ _ ?_;clear hN N)|((try apply Or.inl);refine⟨_,aP.x (hb) (sd @h1),?_⟩;refine hN _ _ ?_;clear hN N)))
  exact fx (b:=-1) (.inl rfl) (sd @Nat.zero_add) (by rw[qG,if_pos h1])
 by_cases h2:b<a
 ·(repeat(first|((repeat(revert hN;revert N;apply Pn.out));refine wk (tw @h1 @h2) ?_;(repeat(refine Pn.mk ?_;intro N hN)))|((try apply Or.inl);refine⟨_,aP.x (ha) (sd (tw @h1 @h2)),?_⟩;refine hN _ _ ?_;clear hN N)|((try apply Or.inl);refine⟨_,aP.x (hb) (sd (tw @h1 @h2)),?_⟩;refine hN _ _ ?_;clear hN N)))
  exact fx (b:=1) (.inl rfl) (sd @Nat.zero_add) (by rw[qG,if_neg h1,if_pos h2])
 ·(repeat(first|((repeat(revert hN;revert N;apply Pn.out));refine wk (tw @h1 @h2) ?_;(repeat(refine Pn.mk ?_;intro N hN)))|((try apply Or.inl);refine⟨_,aP.x (ha) (sd (tw @h1 @h2)),?_⟩;refine hN _ _ ?_;clear hN N)|((try apply Or.inl);refine⟨_,aP.x (hb) (sd (tw @h1 @h2)),?_⟩;refine hN _ _ ?_;clear hN N)))
  exact fx (b:=0) (.inl rfl) (sd @Nat.zero_add) (by rw[qG,if_neg h1,if_neg h2])
def Io:List Int->Int
 |[]=>0
 |a::r=>if a=0 then Io r else a
theorem Ky:∀{l:List Int} {k:Nat} (hk:k<l.length),l[k]≠0->(∀j (h:j<l.length),j<k->l[j]=0)->Io l=l[k]
 |a::r,0,_,h,_=>by
  have h':a≠0:=h
  rw[Io,if_neg h'];rfl
 |a::r,k+1,hk,h,h0=>by
  have h':a=0:=h0 0 (by simp) ab
  rw[Io,if_pos h',Ky (k:=k) (by simpa using hk) h fun j hj FF=>h0 (j+1) (by simpa using hj) ab];rfl
theorem Cu:∀{l:List Int},(∀j (h:j<l.length),l[j]=0)->Io l=0
 |[],_=>rfl
 |a::r,h=>by
  have h':a=0:=h 0 (by simp)
  rw[Io,if_pos h',Cu fun j hj=>h (j+1) (by simpa using hj)]
theorem Ni (a b:Int):Io [a,b]=Nh a b:=by
 unfold Nh
 by_cases h:a=0
 ·rw[Io,if_pos h,if_pos h,Io,Io];split<;>simp_all
 ·rw[Io,if_neg h,if_neg h]
theorem Ma (l:List Int):aP Tryz.prog 138 [.sl (l.map bE)] (.int .i64 (Io l)):=by
 refine aP.body fH rfl fun hl n0=>?_
 have hlen:l.length<=9223372036854775807:=by simpa using(hl (.sl (l.map bE)) (by simp)).len
 clear hl
 (try((repeat(revert hN;revert N;apply Pn.out));refine wk @Nat.zero_add ?_;(repeat(refine Pn.mk ?_;intro N hN))))
 refine cU (fun n env st=>∃k:Nat,n=(l.length)-k/\k<=(l.length)/\env 8=.int .i64 (k:Int)/\(∀j:Nat,j<k->∀h:j<l.length,l[j]=0)) (l.length) ⟨0,ab,ab,sl @Nat.zero_add,fun _ h=>absurd h (Nat.not_lt_zero _)⟩ ?_
 rintro n_a env_a st_a ⟨k,rfl,ale,a8,ug⟩ eL
 have a3:=eL 3 (by kernel_rfl);have a6:=eL 6 (by kernel_rfl);have a7:=eL 7 (by kernel_rfl)
 simp only[go_sem, ↓reduceIte,Nat.reduceEqDiff,Nat.reduceAdd,Nat.reduceSub,Nat.reduceLeDiff,reduceCtorEq]at a3 a6 a7
 clear eL
 by_cases hk:(k:Int)<(l.length:Int)
 ·have eB:∀{e:Env},(e 8=.int .i64 (IntKind.i64.wrap ((k:Int)+1)))->(∀h:k<l.length,l[k]=0)->∃m0,m0<(l.length)-k/\∃k:Nat,m0=(l.length)-k/\k<=(l.length)/\e 8=.int .i64 (k:Int)/\(∀j:Nat,j<k->∀h:j<l.length,l[j]=0):=fun x1 x2=>⟨_,ab,k+1,rfl,ab,(by rw[x1,cI ab]),(all_succ ug x2)⟩
  have jB:k<l.length:=ab
  have gV:(l.map bE)[k]? =some (bE l[k]):=by simp[jB]
  generalize hv:l[k]=v at gV
  by_cases h0:v=0
  ·have e:decide (v=0)=true:=decide_eq_true h0
   (try((repeat(revert hN;revert N;apply Pn.out));refine wk (tw @a8 (tw @a3 (tw @a6 (tw @a7 (tw @e (tw @hk (tw @gV @bE.eq_1))))))) ?_;(repeat(refine Pn.mk ?_;intro N hN))))
   exact eB (sd (tw @a8 (tw @a3 (tw @a6 @a7)))) (fun _=>hv.trans h0)
  ·have e:decide (v=0)=false:=decide_eq_false h0
   (try((repeat(revert hN;revert N;apply Pn.out));refine wk (tw @a8 (tw @a3 (tw @a6 (tw @a7 (tw @e (tw @hk (tw @gV @bE.eq_1))))))) ?_;(repeat(refine Pn.mk ?_;intro N hN))))
   exact fx (b:=v) (.inl rfl) (sd @Nat.zero_add) (by rw[Ky jB (by rw[hv];exact h0) fun j h hj=>ug j hj h,hv])
 ·(try((repeat(revert hN;revert N;apply Pn.out));refine wk (tw @a8 (tw @a3 (tw @a6 (tw @a7 @hk)))) ?_;(repeat(refine Pn.mk ?_;intro N hN))))
  exact fx (b:=0) (.inl rfl) (sd @Nat.zero_add) (by rw[Cu fun j h=>ug j ab h])
section
attribute [local go_sem] List.drop_zero List.take_succ_cons List.take_zero List.length_cons List.length_nil mC qM tf
theorem mZ (a b:af):aP Tryz.prog 102 [.agg (aj a),.agg (aj b)] (.int .i64 (n9 a b)):=by
 refine aP.body fH rfl fun hl n0=>?_
 clear hl
 have h1:=yj a.eZ b.eZ
 have h2:=yj a.fu b.fu
 have h3:=Ma [qG a.eZ b.eZ,qG a.fu b.fu]
 rw[Ni,List.map_cons,List.map_cons,List.map_nil,bE,bE]at h3
 (repeat(first|((repeat(revert hN;revert N;apply Pn.out));refine wk @aj.eq_1 ?_;(repeat(refine Pn.mk ?_;intro N hN)))|((try apply Or.inl);refine⟨_,aP.x (h1) (sd @aj.eq_1),?_⟩;refine hN _ _ ?_;clear hN N)|((try apply Or.inl);refine⟨_,aP.x (h2) (sd @aj.eq_1),?_⟩;refine hN _ _ ?_;clear hN N)|((try apply Or.inl);refine⟨_,aP.x (h3) (sd @aj.eq_1),?_⟩;refine hN _ _ ?_;clear hN N)))
 exact fx (b:=n9 a b) (.inl rfl) (by simp only[go_sem, ↓reduceIte,Nat.reduceEqDiff,Nat.reduceAdd,Nat.reduceSub,Nat.reduceLeDiff,reduceCtorEq,n9]) rfl
end
theorem MR (a b:af):aP Tryz.prog 71 [.agg (aj a),.agg (aj b)] (.bool (kR a b)):=by
 refine aP.body fH rfl fun hl n0=>?_
 clear hl
 have h1:=mZ a b
 rw[aj,aj]at h1
 (repeat(first|((repeat(revert hN;revert N;apply Pn.out));refine wk @aj.eq_1 ?_;(repeat(refine Pn.mk ?_;intro N hN)))|((try apply Or.inl);refine⟨_,aP.x (h1) (sd @aj.eq_1),?_⟩;refine hN _ _ ?_;clear hN N)))
 exact dU (b:=decide (n9 a b<0)) (.inl rfl) (sd @Nat.zero_add) (kX a b)
theorem jZ (t:aa) (p:af):aP Tryz.prog 218 [.agg (ai t),.agg (aj p)] (.int .i64 (n9 t.cG p)):=by
 refine aP.body fH rfl fun hl n0=>?_
 clear hl
 have h1:=mZ t.cG p
 rw[aj,aj]at h1
 (repeat(first|((repeat(revert hN;revert N;apply Pn.out));refine wk (tw @ai.eq_1 @aj.eq_1) ?_;(repeat(refine Pn.mk ?_;intro N hN)))|((try apply Or.inl);refine⟨_,aP.x (h1) (sd (tw @ai.eq_1 @aj.eq_1)),?_⟩;refine hN _ _ ?_;clear hN N)))
 exact fx (b:=n9 t.cG p) (.inl rfl) (sd @Nat.zero_add) rfl
theorem yz (l:List aa):aP Tryz.prog 39 [.agg [.sl (l.map ai)]] (.bool (pE l)):=by
 refine aP.body fH rfl fun hl n0=>?_
 have hlen:l.length<=9223372036854775807:=by
  have h1:=(hl (.agg [.sl (l.map ai)]) (by simp)).O9 (a:=.sl (l.map ai)) (by simp)
  simpa using h1.len
 clear hl
 (try((repeat(revert hN;revert N;apply Pn.out));refine wk @Nat.zero_add ?_;(repeat(refine Pn.mk ?_;intro N hN))))
 refine cU (fun n env st=>∃k:Nat,n=(l.length)-k/\k<=(l.length)/\env 8=.int .i64 (k:Int)/\st.get ⟨39000000,n0⟩=some ⟨true,1,[[.sl (l.map ai)]]⟩/\(∀j:Nat,j<k->LR l j)) (l.length) ⟨0,ab,ab,sl @Nat.zero_add,sl @Nat.zero_add,fun _ h=>absurd h (Nat.not_lt_zero _)⟩ ?_
 rintro n_a env_a st_a ⟨k,rfl,ale,a8,ag0,ug⟩ eL
 have a1:=eL 1 (by kernel_rfl);have a6:=eL 6 (by kernel_rfl);have a7:=eL 7 (by kernel_rfl)
 simp only[go_sem, ↓reduceIte,Nat.reduceEqDiff,Nat.reduceAdd,Nat.reduceSub,Nat.reduceLeDiff,reduceCtorEq]at a1 a6 a7
 clear eL
 by_cases hk:(k:Int)<(l.length:Int)
 ·have eB:∀{e:Env} {gg:Rows},(e 8=.int .i64 (IntKind.i64.wrap ((k:Int)+1)))->(gg ⟨39000000,n0⟩=some ⟨true,1,[[.sl (l.map ai)]]⟩)->(LR l k)->∃m0,m0<(l.length)-k/\∃k:Nat,m0=(l.length)-k/\k<=(l.length)/\e 8=.int .i64 (k:Int)/\gg ⟨39000000,n0⟩=some ⟨true,1,[[.sl (l.map ai)]]⟩/\(∀j:Nat,j<k->LR l j):=fun x1 x2 x3=>⟨_,ab,k+1,rfl,ab,(by rw[x1,cI ab]),x2,(all_succ ug x3)⟩
  have jB:k<l.length:=ab
  have gV:=jn jB
  have qT:(¬LR l k)->¬lJ l:=fun h hp=>h (hp.ok k jB)
  have hp:=qy (cP l k).cG
  have ht:=yO (cP l k).cL 160 ab ab
  rw[show(160:Int)-1=159 from rfl]at ht
  cases b1:za (cP l k).cG
  ·rw[b1]at hp
   (repeat(first|((repeat(revert hN;revert N;apply Pn.out));refine wk (tw @a8 (tw @ag0 (tw @a1 (tw @a6 (tw @a7 (tw @hk (tw @gV (tw @ai.eq_1 @aj.eq_1)))))))) ?_;(repeat(refine Pn.mk ?_;intro N hN)))|((try apply Or.inl);refine⟨_,aP.x (hp) (sd (tw @a8 (tw @ag0 (tw @a1 (tw @a6 (tw @a7 (tw @hk (tw @gV (tw @ai.eq_1 @aj.eq_1))))))))),?_⟩;refine hN _ _ ?_;clear hN N)))
   exact dU (b:=false) (.inl rfl) (sd @Nat.zero_add) (qL (qT fun h=>by rw[LR,b1]at h;cases h.1))
  rw[b1]at hp
  cases b2:je (cP l k).cL 0 159
  ·rw[b2]at ht
   (repeat(first|((repeat(revert hN;revert N;apply Pn.out));refine wk (tw @a8 (tw @ag0 (tw @a1 (tw @a6 (tw @a7 (tw @hk (tw @gV (tw @ai.eq_1 @aj.eq_1)))))))) ?_;(repeat(refine Pn.mk ?_;intro N hN)))|((try apply Or.inl);refine⟨_,aP.x (hp) (sd (tw @a8 (tw @ag0 (tw @a1 (tw @a6 (tw @a7 (tw @hk (tw @gV (tw @ai.eq_1 @aj.eq_1))))))))),?_⟩;refine hN _ _ ?_;clear hN N)|((try apply Or.inl);refine⟨_,aP.x (ht) (sd (tw @a8 (tw @ag0 (tw @a1 (tw @a6 (tw @a7 (tw @hk (tw @gV (tw @ai.eq_1 @aj.eq_1))))))))),?_⟩;refine hN _ _ ?_;clear hN N)))
   exact dU (b:=false) (.inl rfl) (sd @Nat.zero_add) (qL (qT fun h=>by rw[LR,b2]at h;cases h.2.1))
  rw[b2]at ht
  by_cases h0:(0:Int)<(k:Int)
  ·have Ih:=jn (l:=l) (i:=k-1) ab
   have hw:IntKind.i64.wrap ((k:Int)-1)=((k-1:Nat):Int):=by rw[dy ab];omega
   have hq:=MR (cP l (k-1)).cG (cP l k).cG
   cases b3:kR (cP l (k-1)).cG (cP l k).cG
   ·rw[b3]at hq
    (repeat(first|((repeat(revert hN;revert N;apply Pn.out));refine wk (tw @a8 (tw @ag0 (tw @a1 (tw @a6 (tw @a7 (tw @hk (tw @gV (tw @Ih (tw @h0 (tw @hw (tw @ai.eq_1 @aj.eq_1))))))))))) ?_;(repeat(refine Pn.mk ?_;intro N hN)))|((try apply Or.inl);refine⟨_,aP.x (hp) (sd (tw @a8 (tw @ag0 (tw @a1 (tw @a6 (tw @a7 (tw @hk (tw @gV (tw @Ih (tw @h0 (tw @hw (tw @ai.eq_1 @aj.eq_1)))))))))))),?_⟩;refine hN _ _ ?_;clear hN N)|((try apply Or.inl);refine⟨_,aP.x (ht) (sd (tw @a8 (tw @ag0 (tw @a1 (tw @a6 (tw @a7 (tw @hk (tw @gV (tw @Ih (tw @h0 (tw @hw (tw @ai.eq_1 @aj.eq_1)))))))))))),?_⟩;refine hN _ _ ?_;clear hN N)|((try apply Or.inl);refine⟨_,aP.x (hq) (sd (tw @a8 (tw @ag0 (tw @a1 (tw @a6 (tw @a7 (tw @hk (tw @gV (tw @Ih (tw @h0 (tw @hw (tw @ai.eq_1 @aj.eq_1)))))))))))),?_⟩;refine hN _ _ ?_;clear hN N)))
    exact dU (b:=false) (.inl rfl) (sd @Nat.zero_add) (qL (qT fun h=>by have:=h.2.2 ab;rw[b3]at this;cases this))
   ·rw[b3]at hq
    (repeat(first|((repeat(revert hN;revert N;apply Pn.out));refine wk (tw @a8 (tw @ag0 (tw @a1 (tw @a6 (tw @a7 (tw @hk (tw @gV (tw @Ih (tw @h0 (tw @hw (tw @ai.eq_1 @aj.eq_1))))))))))) ?_;(repeat(refine Pn.mk ?_;intro N hN)))|((try apply Or.inl);refine⟨_,aP.x (hp) (sd (tw @a8 (tw @ag0 (tw @a1 (tw @a6 (tw @a7 (tw @hk (tw @gV (tw @Ih (tw @h0 (tw @hw (tw @ai.eq_1 @aj.eq_1)))))))))))),?_⟩;refine hN _ _ ?_;clear hN N)|((try apply Or.inl);refine⟨_,aP.x (ht) (sd (tw @a8 (tw @ag0 (tw @a1 (tw @a6 (tw @a7 (tw @hk (tw @gV (tw @Ih (tw @h0 (tw @hw (tw @ai.eq_1 @aj.eq_1)))))))))))),?_⟩;refine hN _ _ ?_;clear hN N)|((try apply Or.inl);refine⟨_,aP.x (hq) (sd (tw @a8 (tw @ag0 (tw @a1 (tw @a6 (tw @a7 (tw @hk (tw @gV (tw @Ih (tw @h0 (tw @hw (tw @ai.eq_1 @aj.eq_1)))))))))))),?_⟩;refine hN _ _ ?_;clear hN N)))
    refine eB ?_ ?_ (⟨b1,b2,fun _=>b3⟩)
    all_goals simp only[go_sem, ↓reduceIte,Nat.reduceEqDiff,Nat.reduceAdd,Nat.reduceSub,Nat.reduceLeDiff,reduceCtorEq,a8,ag0,a1,a6,a7]
  ·have tq:k=0:=ab
   (repeat(first|((repeat(revert hN;revert N;apply Pn.out));refine wk (tw @a8 (tw @ag0 (tw @a1 (tw @a6 (tw @a7 (tw @hk (tw @gV (tw @h0 (tw @ai.eq_1 @aj.eq_1))))))))) ?_;(repeat(refine Pn.mk ?_;intro N hN)))|((try apply Or.inl);refine⟨_,aP.x (hp) (sd (tw @a8 (tw @ag0 (tw @a1 (tw @a6 (tw @a7 (tw @hk (tw @gV (tw @h0 (tw @ai.eq_1 @aj.eq_1)))))))))),?_⟩;refine hN _ _ ?_;clear hN N)|((try apply Or.inl);refine⟨_,aP.x (ht) (sd (tw @a8 (tw @ag0 (tw @a1 (tw @a6 (tw @a7 (tw @hk (tw @gV (tw @h0 (tw @ai.eq_1 @aj.eq_1)))))))))),?_⟩;refine hN _ _ ?_;clear hN N)))
   refine eB ?_ ?_ (⟨b1,b2,fun h=>ab⟩)
   all_goals simp only[go_sem, ↓reduceIte,Nat.reduceEqDiff,Nat.reduceAdd,Nat.reduceSub,Nat.reduceLeDiff,reduceCtorEq,a8,ag0,a1,a6,a7]
 ·(try((repeat(revert hN;revert N;apply Pn.out));refine wk (tw @a8 (tw @ag0 (tw @a1 (tw @a6 (tw @a7 @hk))))) ?_;(repeat(refine Pn.mk ?_;intro N hN))))
  refine dU (b:=decide ((l.length:Int)<=500)) (.inl rfl) (sd @Nat.zero_add) ?_
  by_cases h5:(l.length:Int)<=500
  ·rw[decide_eq_true h5];exact GJ ⟨ab,fun i hi=>ug i ab⟩
  ·rw[decide_eq_false h5];exact qL fun h=>by have:=h.CX;omega
end Go.Proofs.YtakkdjfmiffbfaaGreatDoor.V
