/- One operation, calls among them. -/
import Derived.Test.YtgoelphibofcmaaGreatTiA
import Derived.Orders
import Derived.Conc.LoneCalls
import Derived.WalkKit
import Derived.WalkSpells
import Derived.WalkLawsBesides
import Derived.Lib.Hide
import Derived.Deep.QuietTactic
import Derived.BigQuiet
import Derived.StillTailTactics
import Derived.Deep.RegionWith
import Derived.Deep.RegionHeld3
import Derived.Deep.LoopGhost
import Derived.Deep.CutRange
import Derived.Deep.DeepCutAuto
import Derived.Test.YtgoelphibofcmaaGreatChecked
set_option linter.unusedVariables false
set_option linter.unusedSimpArgs false
set_option maxRecDepth 100000
set_option maxHeartbeats 16000000
namespace Go.Proofs.YtgoelphibofcmaaGreat.V
open Go.RowKit
variable {P:Program} {w w':World} {D D' D2:Nat->Prop} {ι ι' ι2:Names}
def Sound (P:Program):fq:=fun f args σ K=>∀(hs:Nat) (D:Nat->Prop) (ι:Names) (w:World) (vs:Array Value),fV P hs D ι σ.get w->Used ι σ.next (fun _=>False)->fa P w D ι args vs->
 Calls P f vs w fun e w'=>∃r g' n' D' ι' u,e=.returned u/\K r ⟨g',n'⟩/\Step hs D ι w D' ι' w'/\fV P hs D' ι' g' w'/\Used ι' n' (fun _=>False)/\σ.next<=n'/\cq P w' D' ι' r u
section
variable {g:Rows} {hs:Nat} {env:Env} {a:Act} {o:Oper} {id:Id} {v:AV}
theorem fV.ro (S:fV P hs D ι g w):fV P w.heap.size D ι (ro g) w:=by
 refine⟨Nat.le_refl _,S.dead,fun id r h=>?_,fun id jR r r' B B' h h' hw=>?_⟩
 ·unfold V.ro at h
  simp only[Option.map_eq_some_iff]at h
  obtain⟨r0,h0,rfl⟩:=h
  obtain⟨B,hB,R,_,_⟩:=S.row id r0 h0
  exact⟨B,hB,R.flag false,fun h=>by simp at h,fun h=>by simp at h⟩
 ·unfold V.ro at h
  simp only[Option.map_eq_some_iff]at h
  obtain⟨r0,h0,rfl⟩:=h
  simp at hw
theorem zK {g0:Rows} {f:Nat} {args:List AV} {n:Nat} {K:AV->Prop} {vs:Array Value} (h:PC (Sound P) f args ⟨g0,n⟩ K) (nP:∀id r,g0 id=some r->g id=some r) (S:fV P hs D ι g w) (U:Used ι n (fun _=>False)) (A:fa P w D ι args vs):
  Calls P f vs w fun e w'=>∃r D' u,e=.returned u/\K r/\Step hs D ι w D' ι w'/\fV P hs D' ι g w'/\cq P w' D' ι r u:=by
 refine(h w.heap.size D ι w vs (S.sub nP).ro U A).mono ?_
 rintro e w' ⟨r0,g',n',D1,ι1,u,rfl,⟨r,hr,hK⟩,T,S1,_,_,hR⟩
 have hb:∀b,b<w.heap.size->w'.heap[b]? =w.heap[b]? :=T.below.block
 have hz:=T.below.size
 have q:=uq (D2:=fun b=>D b∨(w.heap.size<=b/\b<w'.heap.size)) (ι2:=ι) (fun b hd=>by
  rcases T.new b hd with h|h
  ·exact .inl h
  ·exact .inr ⟨h,S1.dead b hd⟩) (fun id row hg hw=>by
  obtain⟨B,hB,R,h1,_⟩:=S1.row id row hg
  exact⟨B,hB,R,.inr ⟨h1 hw,R.lt⟩⟩) 6 r0 u r hR hr
 refine⟨r,_,u,rfl,hK,?_,?_,q.1⟩
 ·exact Step.stay S hb hz T.below.os T.below.tape T.below.output (fun _ h=>.inl h) (fun b h=>by rcases h with h|h;exact .inl h;exact .inr h.1) (fun _ _ h=>h)
 ·exact S.stay hb hz (fun _ h=>.inl h) (fun b h=>by rcases h with h|h;exact Nat.lt_of_lt_of_le (S.dead b h) hz;exact h.2) (fun b h=>by rcases h with h|h;exact .inl h;exact .inr h.1) (fun _ _ h=>h)
theorem wQ {g0:Rows} {f:Nat} {args:List AV} {n:Nat} {K:AV->Prop} {vs:Array Value} (h:PCv (Sound P) f args ⟨g0,n⟩ K) (nP:∀id r,g0 id=some r->g id=some r) (S:fV P hs D ι g w) (U:Used ι n (fun _=>False)) (A:fa P w D ι args vs):
  Calls P f vs w fun e w'=>∃r D' u,e=.returned u/\K r/\Step hs D ι w D' ι w'/\fV P hs D' ι g w'/\cq P w' D' ι r u:=by
 obtain⟨fb,ha,h⟩:=h
 let D1:Nat->Prop:=fun b=>D b∨∃id r B,g id=some r/\ι id=some B/\b=B.b
 have lt:∀id r B,g id=some r->ι id=some B->B.b<w.heap.size:=fun id r B h1 h2=>by
  obtain⟨B',dx,R,_⟩:=S.row id r h1
  rw[h2]at dx;injection dx with dx;subst dx
  exact R.lt
 have S0:fV P w.heap.size D1 ι (fun _=>none) w:=⟨Nat.le_refl _,fun b hb=>by
  rcases hb with hb|⟨id,r,B,h1,h2,rfl⟩
  ·exact S.dead b hb
  ·exact lt id r B h1 h2,fun id r h=>(by cases h),fun id jR r r' B B' h=>(by cases h)⟩
 obtain⟨l1,l2⟩:=gG ha
 have A':fa P w D1 ι fb vs:=⟨by rw[A.1,l1],fun j a hj=>by
  obtain⟨a0,lf,hf⟩:=l2 j a hj
  obtain⟨u,hu,hr⟩:=A.2 j a0 lf
  refine⟨u,hu,(uq (D2:=D1) (ι2:=ι) (fun b h=>.inl h) (fun id row hg hw=>?_) 6 a0 u a hr hf).1⟩
  unfold eh at hg
  simp only[Option.map_eq_some_iff]at hg
  obtain⟨r,wz,rfl⟩:=hg
  obtain⟨B,hB,R,_,_⟩:=S.row id r (nP id r wz)
  exact⟨B,hB,R.flag true,.inr ⟨id,r,B,nP id r wz,hB,rfl⟩⟩⟩
 refine(h w.heap.size D1 ι w vs S0 U A').mono ?_
 rintro e w' ⟨r0,g',n',D2,ι1,u,rfl,⟨r,hr,hK⟩,T,S1,_,_,hR⟩
 have hb:∀b,b<w.heap.size->w'.heap[b]? =w.heap[b]? :=T.below.block
 have hz:=T.below.size
 have q:=E4 (D2:=fun b=>D b∨(w.heap.size<=b/\b<w'.heap.size)) (ι2:=ι) (fun id row hg hw=>by
  obtain⟨B,hB,R,h1,_⟩:=S1.row id row hg
  exact⟨B,hB,R,.inr ⟨h1 hw,R.lt⟩⟩) 6 r0 u r hR hr
 refine⟨r,_,u,rfl,hK,?_,?_,q.1⟩
 ·exact Step.stay S hb hz T.below.os T.below.tape T.below.output (fun _ h=>.inl h) (fun b h=>by rcases h with h|h;exact .inl h;exact .inr h.1) (fun _ _ h=>h)
 ·exact S.stay hb hz (fun _ h=>.inl h) (fun b h=>by rcases h with h|h;exact Nat.lt_of_lt_of_le (S.dead b h) hz;exact h.2) (fun b h=>by rcases h with h|h;exact .inl h;exact .inr h.1) (fun _ _ h=>h)
theorem EE {g0:Rows} {f:Nat} {args:List AV} {n:Nat} {K:AV->Prop} {vs:Array Value} (h:ib (Sound P) f args ⟨g0,n⟩ K) (nP:∀id r,g0 id=some r->g id=some r) (S:fV P hs D ι g w) (U:Used ι n (fun _=>False)) (A:fa P w D ι args vs):
  Calls P f vs w fun e w'=>∃r D' u,e=.returned u/\K r/\Step hs D ι w D' ι w'/\fV P hs D' ι g w'/\cq P w' D' ι r u:=by
 rcases h with h|h
 ·exact zK h nP S U A
 ·exact wQ h nP S U A
theorem FN {D1 D2:Nat->Prop} {ι1 ι2:Names} {w1:World} {a:AV} {v:Value} (hp:a.plain=true) (h:cq P w D1 ι1 a v):cq P w1 D2 ι2 a v:=by
 cases h with
 |eD a v h=>cases h<;>first|(simp[AV.plain]at hp;done)|exact .eD _ _ (by constructor)
 |_=>simp[AV.plain]at hp
theorem fV.add {r:Row} {B:re} (S:fV P hs D ι g w) (S':fV P hs D ι g w') (hf:ι id=none) (jV:w.heap.size<=B.b) (R:gV P w' D (kb ι id B) B r):fV P hs D (kb ι id B) (bB g id r) w':=by
 have lt:∀jR r' B',g jR=some r'->ι jR=some B'->B'.b<w.heap.size:=fun jR r' B' h1 h2=>by
  obtain⟨B2,rE,R2,_⟩:=S.row jR r' h1
  rw[h2]at rE;injection rE with rE;subst rE
  exact R2.lt
 have ne:∀jR r',g jR=some r'->jR≠id:=fun jR r' h he=>by
  subst he
  obtain⟨B2,rE,_⟩:=S.row _ r' h
  rw[hf]at rE;cases rE
 refine⟨S'.lo,S'.dead,fun jR r' h=>?_,fun id1 id2 r1 r2 B1 B2 h1 h2 hw DR rE hb=>?_⟩
 ·unfold bB at h
  split at h
  ·rename_i he
   subst he
   injection h with h;subst h
   exact⟨B,dF _ _ _,R,fun _=>Nat.le_trans S.lo jV,fun _ hd=>Nat.lt_irrefl _ (Nat.lt_of_lt_of_le (S.dead _ hd) jV)⟩
  ·obtain⟨B',dx,R',k1,k2⟩:=S'.row jR r' h
   exact⟨B',by rw[fR (ne _ _ h)];exact dx,R'.frame rfl (fun a v hr=>hr.frame (fun _ _=>rfl) (fun _ h=>h) (eU hf)),k1,k2⟩
 ·unfold bB at h1 h2
  split at h1
  ·rename_i e1
   split at h2
   ·rename_i e2;rw[e1,e2]
   ·exfalso
    subst e1
    rw[dF]at DR;injection DR with DR;subst DR
    rw[fR (ne _ _ h2)]at rE
    have:=lt _ _ _ h2 rE
    omega
  ·rw[fR (ne _ _ h1)]at DR
   split at h2
   ·rename_i e2
    exfalso
    subst e2
    rw[dF]at rE;injection rE with rE;subst rE
    have:=lt _ _ _ h1 DR
    omega
   ·rw[fR (ne _ _ h2)]at rE
    exact S'.inj id1 id2 r1 r2 B1 B2 h1 h2 hw DR rE hb
theorem Gr {g0:Rows} {f:Nat} {args:List AV} {n sz:Nat} {rows:List (List AV)} {vs:Array Value} (h:CM (Sound P) f args ⟨g0,n⟩ sz rows) (nP:∀id r,g0 id=some r->g id=some r) (S:fV P hs D ι g w) (U:Used ι n (fun _=>False)) (A:fa P w D ι args vs) (hf:ι id=none):
  Calls P f vs w fun e w'=>∃u B,e=.returned u/\Step hs D ι w D (kb ι id B) w'/\fV P hs D (kb ι id B) (bB g id ⟨true,sz,rows⟩) w'/\cq P w' D (kb ι id B) (.own id 0 rows.length) u:=by
 obtain⟨l7,fb,ha,h⟩:=h
 let D1:Nat->Prop:=fun b=>D b∨∃id r B,g id=some r/\ι id=some B/\b=B.b
 have lt:∀id r B,g id=some r->ι id=some B->B.b<w.heap.size:=fun id r B h1 h2=>by
  obtain⟨B',dx,R,_⟩:=S.row id r h1
  rw[h2]at dx;injection dx with dx;subst dx
  exact R.lt
 have S0:fV P w.heap.size D1 ι (fun _=>none) w:=⟨Nat.le_refl _,fun b hb=>by
  rcases hb with hb|⟨id,r,B,h1,h2,rfl⟩
  ·exact S.dead b hb
  ·exact lt id r B h1 h2,fun id r h=>(by cases h),fun id jR r r' B B' h=>(by cases h)⟩
 obtain⟨l1,l2⟩:=gG ha
 have A':fa P w D1 ι fb vs:=⟨by rw[A.1,l1],fun j a hj=>by
  obtain⟨a0,lf,hz⟩:=l2 j a hj
  obtain⟨u,hu,hr⟩:=A.2 j a0 lf
  refine⟨u,hu,(uq (D2:=D1) (ι2:=ι) (fun b h=>.inl h) (fun id row hg hw=>?_) 6 a0 u a hr hz).1⟩
  unfold eh at hg
  simp only[Option.map_eq_some_iff]at hg
  obtain⟨r,wz,rfl⟩:=hg
  obtain⟨B,hB,R,_,_⟩:=S.row id r (nP id r wz)
  exact⟨B,hB,R.flag true,.inr ⟨id,r,B,nP id r wz,hB,rfl⟩⟩⟩
 refine(h w.heap.size D1 ι w vs S0 U A').mono ?_
 rintro e w' ⟨r0,g',n',D2,ι1,u,rfl,⟨i0,hr,hg⟩,T,S1,_,_,hR⟩
 subst hr
 have hb:∀b,b<w.heap.size->w'.heap[b]? =w.heap[b]? :=T.below.block
 have hz:=T.below.size
 obtain⟨B,hB,R,k1,_⟩:=S1.row i0 _ hg
 have jV:w.heap.size<=B.b:=k1 rfl
 obtain⟨o,cap,B',rfl,dx,q2,q3,q4,q5,hk⟩:=iF hR
 rw[hB]at dx;injection dx with dx;subst dx
 replace R:=R.row hk
 have S':fV P hs D ι g w':=S.stay hb hz (fun _ h=>h) (fun b h=>Nat.lt_of_lt_of_le (S.dead b h) hz) (fun b h=>.inl h) (fun _ _ h=>h)
 have R':k6 P w' D (kb ι id B) B ⟨true,sz,rows⟩:=⟨R.sz,R.wY,R.fits,R.len,R.flat,fun i j cs a hi hj=>by
  obtain⟨v,h1,h2⟩:=R.at_ i j cs a hi hj
  exact⟨v,h1,FN (l7 cs (List.mem_of_getElem? hi) a (List.mem_of_getElem? hj)) h2⟩⟩
 exact⟨_,B,rfl,Step.stay S hb hz T.below.os T.below.tape T.below.output (fun _ h=>h) (fun _ h=>.inl h) (eU hf),S.add S' hf jV (R'.obj hk),.own id 0 _ _ _ B (dF _ _ _) hk q2 q3 q4 q5⟩
theorem jh {f:Nat} {args:Array Value} (hc:fE P f=true):(callFunc f args).run P w=.ok (.enter f args) w:=by
 unfold fE at hc
 split at hc
 ·rename_i fn hf
  simp only[Bool.and_eq_true,Bool.not_eq_true']at hc
  have hb:fn.body.isNone=false:=by cases hq:fn.body<;>simp_all
  simp only[callFunc,Sem.run_bind,run_program,Result.andThen_ok,hf,hc.2,Bool.false_eq_true,if_false,hb]
  rfl
 ·simp at hc
theorem AG {f:Nat} {args:List O} (hc:p7 P o.op=some (.call f args)):∃c,o.op=.call c/\c.callee=.value (.func f)/\fE P f=true/\c.args.toList.mapM (cO P)=some args:=by
 unfold p7 at hc
 split at hc
 case h_23=>
  rename_i c ho
  refine⟨c,ho,?_⟩
  unfold mN at hc
  split at hc
  all_goals (try(repeat' (split at hc))<;>(simp only[Option.bind_eq_bind,Option.bind_eq_some_iff,Option.pure_def,Option.some.injEq,Option.map_eq_some_iff,reduceCtorEq,and_false,exists_false]at hc))
  all_goals simp_all
 all_goals (try unfold tW at hc)<;>(try unfold rj at hc)<;>(repeat' (split at hc))<;>(simp only[Option.bind_eq_bind,Option.bind_eq_some_iff,Option.pure_def,Option.some.injEq,Option.map_eq_some_iff,reduceCtorEq,and_false,exists_false]at hc)
theorem rN {x:O} {args:List O} (hc:p7 P o.op=some (.sg x args)):∃c t,o.op=.call c/\c.callee=.value (.tmp t)/\x=.t t/\c.args.toList.mapM (cO P)=some args:=by
 unfold p7 at hc
 split at hc
 case h_23=>
  rename_i c ho
  refine⟨c,?_⟩
  unfold mN at hc
  split at hc
  all_goals (try(repeat' (split at hc))<;>(simp only[Option.bind_eq_bind,Option.bind_eq_some_iff,Option.pure_def,Option.some.injEq,Option.map_eq_some_iff,reduceCtorEq,and_false,exists_false]at hc))
  all_goals simp_all
 all_goals (try unfold tW at hc)<;>(try unfold rj at hc)<;>(repeat' (split at hc))<;>(simp only[Option.bind_eq_bind,Option.bind_eq_some_iff,Option.pure_def,Option.some.injEq,Option.map_eq_some_iff,reduceCtorEq,and_false,exists_false]at hc)
theorem Fo {n:Nat} {x y:O} (hc:p7 P o.op=some (.store n x y)):∃t x' y',o.op=.store t x' y'/\dG P t=some n/\cO P x'=some x/\cO P y'=some y:=by
 unfold p7 at hc
 split at hc
 case h_7=>
  rename_i t x' y' ho
  refine⟨t,x',y',ho,?_⟩
  simp only[Option.bind_eq_bind,Option.bind_eq_some_iff,Option.pure_def,Option.some.injEq]at hc
  obtain⟨n',h1,x2,h2,y2,h3,he⟩:=hc
  injection he with e1 e2 e3
  subst e1;subst e2;subst e3
  exact⟨h1,h2,h3⟩
 all_goals (try unfold tW at hc)<;>(try unfold rj at hc)<;>(try unfold mN at hc)<;>(repeat' (split at hc))<;>(simp only[Option.bind_eq_bind,Option.bind_eq_some_iff,Option.pure_def,Option.some.injEq,Option.map_eq_some_iff,reduceCtorEq,and_false,exists_false]at hc)
theorem CF {n:Nat} {x y:O} (hc:p7 P o.op=some (.append n x y)):∃(t e:TypeId) (m:Nat) (z:List K) (i:TypeInfo) (x' y':Operand),n=m+1/\o.op=.call {callee:=.builtin .append,args:= #[x',y'],argTypes:= #[t,t]}/\
  P.underlying t=some (.slice e)/\dG P e=some (m+1)/\jt P e=some z/\P.info? e=some i/\i.bytes<=32768/\cO P x'=some x/\cO P y'=some y:=by
 unfold p7 at hc
 split at hc
 case h_23=>
  rename_i c ho
  unfold mN at hc
  split at hc
  case h_2=>
   rename_i j7
   split at hc
   ·rename_i x' y' t u h1 h2
    split at hc
    ·rename_i e ht
     split at hc
     ·rename_i m z i e1 e2 e3
      split at hc
      ·rename_i hb
       simp only[Option.bind_eq_bind,Option.bind_eq_some_iff,Option.pure_def,Option.some.injEq]at hc
       obtain⟨x2,h3,y2,h4,he⟩:=hc
       injection he with k1 k2 k3
       subst k1;subst k2;subst k3
       obtain⟨K4,rfl⟩:=hb
       refine⟨t,e,m,z,i,x',y',rfl,?_,ht,e1,e2,e3,K4,h3,h4⟩
       rw[ho]
       obtain⟨ca,cb,cc⟩:=c
       simp only at h1 h2 j7
       subst j7
       congr
       ·exact Array.ext' h1
       ·exact Array.ext' h2
      ·simp at hc
     ·simp at hc
    ·simp at hc
   ·simp at hc
  all_goals (repeat' (split at hc))<;>(simp only[Option.bind_eq_bind,Option.bind_eq_some_iff,Option.pure_def,Option.some.injEq,Option.map_eq_some_iff,reduceCtorEq,and_false,exists_false]at hc)
 all_goals (try unfold tW at hc)<;>(try unfold rj at hc)<;>(repeat' (split at hc))<;>(simp only[Option.bind_eq_bind,Option.bind_eq_some_iff,Option.pure_def,Option.some.injEq,Option.map_eq_some_iff,reduceCtorEq,and_false,exists_false]at hc)
theorem HF {n:Nat} {x y:O} (hc:p7 P o.op=some (.copy n x y)):∃(t t2 e:TypeId) (m:Nat) (x' y':Operand),n=m+1/\o.op=.call {callee:=.builtin .copy,args:= #[x',y'],argTypes:= #[t,t2]}/\
  P.underlying t=some (.slice e)/\dG P e=some (m+1)/\cO P x'=some x/\cO P y'=some y:=by
 unfold p7 at hc
 split at hc
 case h_23=>
  rename_i c ho
  unfold mN at hc
  split at hc
  case h_7=>
   rename_i j7
   split at hc
   ·rename_i x' y' t t2 h1 h2
    split at hc
    ·rename_i e ht
     split at hc
     ·rename_i m e1
      simp only[Option.bind_eq_bind,Option.bind_eq_some_iff,Option.pure_def,Option.some.injEq,fW.copy.injEq]at hc
      obtain⟨x2,h3,y2,h4,k0,k1,k2⟩:=hc
      subst k1;subst k2
      refine⟨t,t2,e,m,x',y',k0.symm,?_,ht,e1,h3,h4⟩
      rw[ho]
      obtain⟨ca,cb,cc⟩:=c
      simp only at h1 h2 j7
      subst j7
      congr
      ·exact Array.ext' h1
      ·exact Array.ext' h2
     ·simp at hc
    ·simp at hc
   ·simp at hc
  all_goals (repeat' (split at hc))<;>(simp only[Option.bind_eq_bind,Option.bind_eq_some_iff,Option.pure_def,Option.some.injEq,Option.map_eq_some_iff,reduceCtorEq,and_false,exists_false]at hc)
 all_goals (try unfold tW at hc)<;>(try unfold rj at hc)<;>(repeat' (split at hc))<;>(simp only[Option.bind_eq_bind,Option.bind_eq_some_iff,Option.pure_def,Option.some.injEq,Option.map_eq_some_iff,reduceCtorEq,and_false,exists_false]at hc)
theorem Fm {z:List K} {x:O} (hc:p7 P o.op=some (.clear z x)):∃(t e:TypeId) (m:Nat) (x':Operand),o.op=.call {callee:=.builtin .clear,args:= #[x'],argTypes:= #[t]}/\
  P.underlying t=some (.slice e)/\dG P e=some (m+1)/\jt P e=some z/\cO P x'=some x:=by
 unfold p7 at hc
 split at hc
 case h_23=>
  rename_i c ho
  unfold mN at hc
  split at hc
  case h_3=>
   rename_i j7
   split at hc
   ·rename_i x' t h1 h2
    split at hc
    ·rename_i e ht
     split at hc
     ·rename_i m z' e1 e2
      simp only[Option.map_eq_some_iff]at hc
      obtain⟨x2,h3,he⟩:=hc
      injection he with k1 k2
      subst k1;subst k2
      refine⟨t,e,m,x',?_,ht,e1,e2,h3⟩
      rw[ho]
      obtain⟨ca,cb,cc⟩:=c
      simp only at h1 h2 j7
      subst j7
      congr
      ·exact Array.ext' h1
      ·exact Array.ext' h2
     ·simp at hc
    ·simp at hc
   ·simp at hc
  all_goals (repeat' (split at hc))<;>(simp only[Option.bind_eq_bind,Option.bind_eq_some_iff,Option.pure_def,Option.some.injEq,Option.map_eq_some_iff,reduceCtorEq,and_false,exists_false]at hc)
 all_goals (try unfold tW at hc)<;>(try unfold rj at hc)<;>(repeat' (split at hc))<;>(simp only[Option.bind_eq_bind,Option.bind_eq_some_iff,Option.pure_def,Option.some.injEq,Option.map_eq_some_iff,reduceCtorEq,and_false,exists_false]at hc)
theorem M0 {q:MW} {xs:List O} (hc:p7 P o.op=some (.mw q xs)):
  (∃t x k y m z x' k' y',(o.op=.mapUpdate t x k y∨o.op=.insert t x k y)/\rl P t=some (m,z)/\cO P x=some x'/\cO P k=some k'/\cO P y=some y'/\q=.set m/\xs=[x',k',y'])∨
  (∃t t' x k m z x' k',o.op=.call {callee:=.builtin .delete,args:= #[x,k],argTypes:= #[t,t']}/\rl P t=some (m,z)/\cO P x=some x'/\cO P k=some k'/\q=.del m/\xs=[x',k']):=by
 unfold p7 at hc
 split at hc
 case h_23=>
  rename_i c ho
  right
  unfold mN at hc
  split at hc
  case h_6=>
   rename_i j7
   split at hc
   ·rename_i x k t t' h1 h2
    split at hc
    ·rename_i m z x' k' e1 e2 e3
     injection hc with hc
     injection hc with q1 q2
     refine⟨t,t',x,k,m,z,x',k',?_,e1,e2,e3,q1.symm,q2.symm⟩
     rw[ho]
     obtain⟨ca,cb,cc⟩:=c
     simp only at h1 h2 j7
     subst j7
     congr
     ·exact Array.ext' h1
     ·exact Array.ext' h2
    ·cases hc
   ·cases hc
  all_goals (repeat' (split at hc))<;>(simp only[Option.bind_eq_bind,Option.bind_eq_some_iff,Option.pure_def,Option.some.injEq,Option.map_eq_some_iff,reduceCtorEq,and_false,exists_false]at hc)
 case h_29=>
  rename_i t x k y ho
  left
  split at hc
  ·rename_i m z x' k' y' e1 e2 e3 e4
   injection hc with hc
   injection hc with q1 q2
   exact⟨t,x,k,y,m,z,x',k',y',.inl ho,e1,e2,e3,e4,q1.symm,q2.symm⟩
  ·cases hc
 case h_30=>
  rename_i t x k y ho
  left
  split at hc
  ·rename_i m z x' k' y' e1 e2 e3 e4
   injection hc with hc
   injection hc with q1 q2
   exact⟨t,x,k,y,m,z,x',k',y',.inr ho,e1,e2,e3,e4,q1.symm,q2.symm⟩
  ·cases hc
 all_goals (try unfold tW at hc)<;>(try unfold rj at hc)<;>(repeat' (split at hc))<;>(simp only[Option.bind_eq_bind,Option.bind_eq_some_iff,Option.pure_def,Option.some.injEq,Option.map_eq_some_iff,reduceCtorEq,and_false,exists_false]at hc)
def iV (g:Rows) (id:Id):Option Row->Rows
 |some r=>bB g id r
 |none=>g
def tY (X:fq) (hid:List Nat) (site n:Nat) (f:Nat) (args:List AV) (g:Rows) (v:AV) (g':Rows):Prop:=
 (ib X f args ⟨gQ hid n g,n+1⟩ (fun r=>r=v)/\g'=g)∨
 (hid.contains site=true/\∃sz rows,CM X f args ⟨gQ hid n g,n+1⟩ sz rows/\v=.own ⟨site,n⟩ 0 rows.length/\g'=bB g ⟨site,n⟩ ⟨true,sz,rows⟩)
def VS (X:fq) (n:Nat) (vo:aL) (env:Env) (g:Rows) (v:AV) (g':Rows):Prop:=
 match vo.op with
 | .call f args=>tY X vo.hid vo.site n f (args.map (cE env)) g v g'
 | .sg x args=>∃f l,tX (cE env x) (args.map (cE env))=some (f,l)/\tY X vo.hid vo.site n f l g v g'
 | .store .. | .append .. | .copy .. | .clear .. | .mw .. =>gR vo.op (cE env) g ⟨vo.site,n⟩=some (v,g')
 |_=>∃mr,eW vo.op (cE env) (gQ vo.hid n g) ⟨vo.site,n⟩=some (v,mr)/\g'=iV g ⟨vo.site,n⟩ mr
def KQ (P:Program) (hs:Nat) (D:Nat->Prop) (ι:Names) (w:World) (U:Nat->Prop) (site n:Nat) (a:Act) (dst:Option Tmp) (v:AV) (g':Rows) (a':Act) (w':World):Prop:=
 ∃u D' ι',a'=a.put dst u/\Step hs D ι w D' ι' w'/\fV P hs D' ι' g' w'/\cq P w' D' ι' v u/\Used ι' n (fun s=>U s∨s=site)
theorem fresh {n:Nat} {U:Nat->Prop} {s:Nat} (h:Used ι n U) (hU:¬U s):ι ⟨s,n⟩=none:=by
 cases hq:ι ⟨s,n⟩with
 |none=>rfl
 |some B=>
  rcases h ⟨s,n⟩ (by rw[hq];simp)with h|⟨_,h⟩
  ·exact absurd h (Nat.lt_irrefl _)
  ·exact absurd h hU
theorem Used.more {n:Nat} {U U':Nat->Prop} (h:Used ι n U) (hU:∀s,U s->U' s):Used ι n U':=fun id hid=>by
 rcases h id hid with h|⟨h1,h2⟩
 ·exact .inl h
 ·exact .inr ⟨h1,hU _ h2⟩
theorem Used.next {n:Nat} {U:Nat->Prop} (h:Used ι n U):Used ι (n+1) (fun _=>False):=fun id hid=>by
 rcases h id hid with h|⟨h1,_⟩
 ·exact .inl (Nat.lt_succ_of_lt h)
 ·exact .inl (by omega)
theorem Used.upd {n:Nat} {U:Nat->Prop} {s:Nat} {B:re} (h:Used ι n U):Used (kb ι ⟨s,n⟩ B) n (fun x=>U x∨x=s):=fun id hid=>by
 by_cases he:id=⟨s,n⟩
 ·subst he;exact .inr ⟨rfl,.inr rfl⟩
 ·rw[fR he]at hid
  exact(h.more (U':=fun x=>U x∨x=s) fun _ h=>Or.inl h) id hid
theorem nD {xs:Array Operand} {ys:List O} (E:bw P w D ι env a) (h:xs.toList.mapM (cO P)=some ys):fa P w D ι (ys.map (cE env)) (xs.map a.eval):=by
 obtain⟨h1,h2⟩:=CZ E h
 refine⟨by simpa using h1,fun j b hj=>?_⟩
 simp only[List.getElem?_map,Option.map_eq_some_iff]at hj
 obtain⟨y,hy,rfl⟩:=hj
 have dy:j<xs.size:=by have:=(List.getElem?_eq_some_iff.1 hy).1;simp at h1;omega
 refine⟨a.eval xs[j],by simp[dy],?_⟩
 have:=h2 j y hy
 simpa[List.getD_eq_getElem?_getD,dy]using this
theorem nZ {xs ys:List AV} {vs us:Array Value} (h:fa P w D ι xs vs) (k:fa P w D ι ys us):fa P w D ι (xs++ys) (vs++us):=
 ⟨by simp[h.1,k.1],fun j b hj=>by
  by_cases dy:j<xs.length
  ·rw[List.getElem?_append_left dy]at hj
   obtain⟨u,hu,wC⟩:=h.2 j b hj
   exact⟨u,by rw[Array.getElem?_append_left (by rw[h.1];exact dy)];exact hu,wC⟩
  ·rw[List.getElem?_append_right (by omega)]at hj
   obtain⟨u,hu,wC⟩:=k.2 _ b hj
   exact⟨u,by rw[Array.getElem?_append_right (by rw[h.1];omega),h.1];exact hu,wC⟩⟩
theorem vk:fa P w D ι [] #[]:=⟨rfl,fun j b hj=>by simp at hj⟩
theorem tZ {x:AV} {l l':List AV} {f:Nat} {vs:Array Value} {v:Value} (h:tX x l=some (f,l')) (hr:cq P w D ι x v) (hA:fa P w D ι l vs):
  ∃first bZ,v=.func (.func f) first bZ/\fE P f=true/\fa P w D ι l' (first++vs++bZ):=by
 unfold tX at h
 split at h
 ·simp only[Option.some.injEq,Prod.mk.injEq]at h
  obtain⟨rfl,rfl⟩:=h
  obtain⟨us,q,he,DU,n1,q1,q2⟩:=y6 hr
  refine⟨#[],us,he,DU,?_⟩
  rw[Array.empty_append]
  exact nZ hA ⟨n1,fun j b hj=>⟨q j,q1 j (List.getElem?_eq_some_iff.1 hj).1,q2 j b hj⟩⟩
 ·simp only[Option.some.injEq,Prod.mk.injEq]at h
  obtain⟨rfl,rfl⟩:=h
  obtain⟨us,q,he,DU,n1,q1,q2⟩:=Ky hr
  refine⟨us, #[],he,DU,?_⟩
  rw[Array.append_empty]
  exact nZ ⟨n1,fun j b hj=>⟨q j,q1 j (List.getElem?_eq_some_iff.1 hj).1,q2 j b hj⟩⟩ hA
 ·cases h
theorem zN {n:Nat} {vo:aL} {g':Rows} {U:Nat->Prop} {Q:Exit->Act->World->Prop} {K:Act->World->Prop} (hc:p7 P o.op=some vo.op) (hv:VS (Sound P) n vo env g v g') (S:fV P hs D ι g w) (Us:Used ι n U) (hU:¬U vo.site) (E:bw P w D ι env a)
  (hK:∀a' w',KQ P hs D ι w U vo.site n a o.dst v g' a' w'->K a' w'):o.wp P a w K Q:=by
 have hf:=fresh Us hU
 have zU:∀(f:Nat) (args:List AV) (vs:Array Value),tY (Sound P) vo.hid vo.site n f args g v g'->fa P w D ι args vs->(execOp a.eval o).run P w=.ok (.enter f vs) w->o.wp P a w K Q:=by
  intro f args vs hP hA fN
  unfold Oper.wp
  rw[fN]
  rcases hP with⟨hP,rfl⟩|⟨_,sz,rows,hM,rfl,rfl⟩
  ·refine(EE hP zp S Us.next hA).mono ?_
   rintro e w' ⟨r,D',u,rfl,rfl,T,S',hR⟩
   exact hK _ _ ⟨u,D',ι,rfl,T,S',hR,Us.more fun _ h=>.inl h⟩
  ·refine(Gr hM zp S Us.next hA hf).mono ?_
   rintro e w' ⟨u,B,rfl,T,S',hR⟩
   exact hK _ _ ⟨u,D,_,rfl,T,S',hR,Us.upd⟩
 have quiet:∀(mr:Option Row),eW vo.op (cE env) (gQ vo.hid n g) ⟨vo.site,n⟩=some (v,mr)->g'=iV g ⟨vo.site,n⟩ mr->o.wp P a w K Q:=by
  intro mr hq hg
  have hqs:=xJ hc hq (S.sub zp) E
  unfold Oper.wp
  cases mr with
  |none=>
   obtain⟨u,fN,hR⟩:=hqs
   rw[fN]
   subst hg
   exact hK _ _ ⟨u,D,ι,rfl,Step.refl _ _ _ _,S,hR,Us.more fun _ h=>.inl h⟩
  |some r=>
   rcases hqs with⟨u,cells,T,fN,h1,h2,h3,h4,h5,h6⟩|⟨m,fN,MY,JX⟩|⟨c,fN,MY,JX⟩
   case inr.inr=>
    rw[fN]
    subst hg MY JX
    have e5:w.heap.size<(w.alloc (.chan c #[] false 0 0 false)).heap.size:=by simp
    have S':=S.stay (w':=w.alloc (.chan c #[] false 0 0 false)) (D':=D) (ι':=ι) (fun k hk=>Below.heap_alloc _ _ _ hk) (by simp) (fun _ h=>h) (fun b hd=>Nat.lt_trans (S.dead b hd) e5) (fun _ h=>.inl h) (fun _ _ h=>h)
    have S1:=S.add S' (id:=⟨vo.site,n⟩) (B:=⟨w.heap.size,pB+c,0,some (.chan c)⟩) (r:=⟨true,pB+c,[]⟩) hf (Nat.le_refl _) ⟨rfl,fun cs h=>by simp at h,fun h=>by simp at h,fun m' h=>(by simp at h),fun c' h=>by
     simp only[Option.some.injEq,BK.chan.injEq]at h;subst h
     exact⟨rfl, #[],0,0,(show(w.heap.push (Obj.chan c #[] false 0 0 false))[w.heap.size]? =some (Obj.chan c #[] false 0 0 false) by simp),rfl,fun i cs h=>by simp at h⟩⟩
    exact hK _ _ ⟨_,D,_,rfl,Step.stay S (fun k hk=>Below.heap_alloc _ _ _ hk) (by simp) rfl rfl rfl (fun _ h=>h) (fun _ h=>.inl h) (eU hf),S1,.si _ _ _ (dF _ _ _) rfl,Us.upd⟩
   case inr.inl=>
    rw[fN]
    subst hg MY JX
    have e5:w.heap.size<(w.alloc (.map #[] 0)).heap.size:=by simp
    have S':=S.stay (w':=w.alloc (.map #[] 0)) (D':=D) (ι':=ι) (fun k hk=>Below.heap_alloc _ _ _ hk) (by simp) (fun _ h=>h) (fun b hd=>Nat.lt_trans (S.dead b hd) e5) (fun _ h=>.inl h) (fun _ _ h=>h)
    have S1:=S.add S' (id:=⟨vo.site,n⟩) (B:=⟨w.heap.size,m.nv,0,some (.map m)⟩) (r:=⟨true,m.nv,[]⟩) hf (Nat.le_refl _) ⟨rfl,fun cs h=>by simp at h,fun h=>by simp at h,fun m' h=>by
     simp only[Option.some.injEq,BK.map.injEq]at h;subst h
     exact⟨rfl, #[],0,(show(w.heap.push (Obj.map #[] 0))[w.heap.size]? =some (Obj.map #[] 0) by simp),rfl,⟨fun cs h=>by simp at h,fun x h=>by simp at h,by simp⟩,fun i cs h=>by simp at h⟩,fun c h=>by simp at h⟩
    exact hK _ _ ⟨_,D,_,rfl,Step.stay S (fun k hk=>Below.heap_alloc _ _ _ hk) (by simp) rfl rfl rfl (fun _ h=>h) (fun _ h=>.inl h) (eU hf),S1,.map _ _ _ (dF _ _ _) rfl,Us.upd⟩
   rw[fN]
   subst hg
   have S1:=S.alloc (id:=⟨vo.site,n⟩) (w':=w.alloc (.cells cells T)) rfl hf h1 h2 h3 h4 h5
   refine hK _ _ ⟨u,D,_,rfl,Step.stay S (fun k hk=>Below.heap_alloc _ _ _ hk) (by simp) rfl rfl rfl (fun _ h=>h) (fun _ h=>.inl h) (eU hf),S1,(h6 (kb ι _ _) (dF _ _ _)).frame (fun b hd=>Below.heap_alloc _ _ _ (S.dead b hd)) (fun _ h=>h) (fun _ _ h=>h),Us.upd⟩
 have N1:gR vo.op (cE env) g ⟨vo.site,n⟩=some (v,g')->(∀Ji,BI P hs a o Ji D ι ⟨vo.site,n⟩ v g'->Ji=w->o.wp P a w K Q):=by
  intro _ Ji hE he
  subst he
  obtain⟨u,w',ι',fN,T,S',hR,hι⟩:=hE
  have Hb:KQ P hs D ι Ji U vo.site n a o.dst v g' (a.put o.dst u) w':=⟨u,D,ι',rfl,T,S',hR,fun id hid=>by
   by_cases he:id=⟨vo.site,n⟩
   ·subst he;exact .inr ⟨rfl,.inr rfl⟩
   ·rw[hι id he]at hid
    exact(Us.more (U':=fun x=>U x∨x=vo.site) fun _ h=>Or.inl h) id hid⟩
  unfold Oper.wp
  rcases fN with fN|⟨fN,rfl⟩
  ·rw[fN];exact hK _ _ Hb
  ·rw[fN];exact hK _ _ Hb
 unfold VS at hv
 split at hv
 ·rename_i f args dK
  rw[dK]at hc
  obtain⟨c,ho,j7,DU,mU⟩:=AG hc
  refine zU f _ (c.args.map a.eval) hv (nD E mU) ?_
  simp only[execOp,ho,resolve,j7,Deferred.ofValue,Act.eval,Sem.run_bind,Sem.run_pure,Result.andThen_ok,invoke,Array.empty_append,Array.append_empty]
  exact jh DU
 ·rename_i x args dK
  obtain⟨f,l,hx,hP⟩:=hv
  rw[dK]at hc
  obtain⟨c,t,ho,j7,rfl,mU⟩:=rN hc
  obtain⟨first,bZ,he,DU,hL⟩:=tZ (v:=a.eval (.tmp t)) hx (E t) (nD E mU)
  refine zU f _ (first++c.args.map a.eval++bZ) hP hL ?_
  simp only[execOp,ho,resolve,j7,he,Deferred.ofValue,Sem.run_bind,Sem.run_pure,Result.andThen_ok,invoke]
  exact jh DU
 ·rename_i m x y dK
  have kq:=hc
  rw[dK]at kq
  obtain⟨t,x',y',ho,h1,h2,h3⟩:=Fo kq
  have ns:=hv
  rw[dK]at ns
  simp only[gR,Option.map_eq_some_iff,Prod.mk.injEq]at ns
  obtain⟨g1,Cr,rfl,rfl⟩:=ns
  exact N1 hv w (JA S E ho h1 h2 h3 Cr) rfl
 ·rename_i m x y dK
  have kq:=hc
  rw[dK]at kq
  obtain⟨t,e,m',z,i,x',y',rfl,ho,h1,h2,h3,h4,h5,h6,h7⟩:=CF kq
  have ns:=hv
  rw[dK]at ns
  simp only[gR,Option.bind_eq_some_iff]at ns
  obtain⟨ys,D9,ns⟩:=ns
  exact N1 hv w (GX S E hf ho h1 h2 h3 h4 h5 h6 h7 D9 ns) rfl
 ·rename_i m x y dK
  have kq:=hc
  rw[dK]at kq
  obtain⟨t,t2,e,m',x',y',rfl,ho,h1,h2,h3,h4⟩:=HF kq
  have ns:=hv
  rw[dK]at ns
  simp only[gR,Option.bind_eq_some_iff]at ns
  obtain⟨ys,D9,ns⟩:=ns
  exact N1 hv w (L0 S E ho h1 h2 h3 h4 D9 ns) rfl
 ·rename_i z x dK
  have kq:=hc
  rw[dK]at kq
  obtain⟨t,e,m',x',ho,h1,h2,h3,h4⟩:=Fm kq
  have ns:=hv
  rw[dK]at ns
  simp only[gR,Option.map_eq_some_iff,Prod.mk.injEq]at ns
  obtain⟨g1,Cr,rfl,rfl⟩:=ns
  exact N1 hv w (Jz S E ho h1 h2 h3 h4 Cr) rfl
 ·rename_i q xs dK
  have kq:=hc
  rw[dK]at kq
  have ns:=hv
  rw[dK]at ns
  simp only[gR,Option.map_eq_some_iff,Prod.mk.injEq]at ns
  obtain⟨g1,Cr,rfl,rfl⟩:=ns
  rcases M0 kq with⟨t,x,k,y,m,z,x',k',y',ho,h1,h2,h3,h4,rfl,rfl⟩|⟨t,t',x,k,m,z,x',k',ho,h1,h2,h3,rfl,rfl⟩
  ·exact N1 hv w (L3 S E ho h1 h2 h3 h4 Cr) rfl
  ·exact N1 hv w (L1 S E ho h1 h2 h3 Cr) rfl
 ·obtain⟨mr,hq,hg⟩:=hv
  exact quiet mr hq hg
end
end Go.Proofs.YtgoelphibofcmaaGreat.V

namespace Go.Proofs.YtgoelphibofcmaaGreat.V
open Go.RowKit
variable {P:Program} {w w':World} {D D' D2:Nat->Prop} {ι ι' ι2:Names}
section
variable {g:Rows} {hs:Nat} {env:Env} {a:Act} {o:Oper} {id:Id} {v:AV}
theorem ou {ops:Array Oper} {nt site0 j:Nat} {draw mk:Bool} {bs:Array Nat} {hidden:List (Nat×Bool)} {vo:aL} (h:km P ops nt site0 draw mk bs hidden j o=some vo):
  p7 P o.op=some vo.op/\vo.dst=o.dst/\vo.site=site0+j/\(∀d,o.dst=some d->d<nt)/\(match o.guard with
   |none=>vo.guard=none
   |some (i,b)=>∃t,(ops[i]?).bind (·.dst)=some t/\vo.guard=some (t,b)):=by
 unfold km at h
 simp only[Option.bind_eq_bind,Option.bind_eq_some_iff]at h
 obtain⟨v,hv,gd,hg,h⟩:=h
 split at h
 ·rename_i hd
  simp only[Option.pure_def,Option.some.injEq]at h
  subst h
  refine⟨hv,rfl,rfl,fun d QA=>?_,?_⟩
  ·rw[QA]at hd;simpa using hd
  ·unfold BY at hg
   cases uz:o.guard with
   |none=>rw[uz]at hg;simp at hg;exact hg.symm
   |some p=>
    obtain⟨i,b⟩:=p
    rw[uz]at hg
    dsimp only at hg ⊢
    split at hg
    ·rename_i t ht
     simp at hg;exact⟨t,ht,hg.symm⟩
    ·simp at hg
 ·simp at h
theorem r8 {ops:Array Oper} {vo:aL} (E:bw P w D ι env a) (hg:match o.guard with
   |none=>vo.guard=none
   |some (i,b)=>∃t,(ops[i]?).bind (·.dst)=some t/\vo.guard=some (t,b)):aJ vo.guard env=Region.wanted o (yielded ops a.tmps):=by
 unfold Region.wanted
 cases uz:o.guard with
 |none=>rw[uz]at hg;simp only at hg;rw[hg];rfl
 |some p=>
  obtain⟨i,b⟩:=p
  rw[uz]at hg
  obtain⟨t,ht,hv⟩:=hg
  rw[hv]
  simp only[aJ,yielded,ht,Option.bind_some]
  have hr:=E t
  by_cases dy:t<a.tmps.size
  ·have gp:a.tmps[t]? =some a.tmps[t]:=Array.getElem?_eq_getElem dy
   have hd:a.tmps.getD t undef=a.tmps[t]:=by simp[dy]
   rw[hd]at hr
   rw[gp]
   generalize a.tmps[t]=u at hr
   cases he:env t with
   |bool c=>rw[he]at hr;rw[eS hr];simp
   |_=>
    rw[he]at hr
    have:∀c,u≠.bool c:=by
     intro c hu
     subst hu
     cases hr with
     |eD _ _ h=>cases h
    cases u<;>simp_all
  ·have gp:a.tmps[t]? =none:=Array.getElem?_eq_none (Nat.le_of_not_lt dy)
   have hd:a.tmps.getD t undef=undef:=by simp[gp]
   rw[hd]at hr
   rw[gp]
   cases he:env t with
   |bool c=>rw[he]at hr;have:=eS hr;simp[undef]at this
   |_=>simp
theorem ij {dst:Option Nat} {nt:Nat} {u:Value} (E:bw P w D ι env a) (hr:cq P w D ι v u) (hd:∀d,dst=some d->d<nt) (hs:a.tmps.size=nt):bw P w D ι (upd env dst v) (a.put dst u):=by
 intro t
 cases dst with
 |none=>exact E t
 |some d=>
  have dy:d<a.tmps.size:=by rw[hs];exact hd d rfl
  simp only[upd,Act.put]
  by_cases ht:t=d
  ·subst ht
   simp[dy];exact hr
  ·rw[if_neg ht]
   have:(a.tmps.setIfInBounds d u).getD t undef=a.tmps.getD t undef:=by
    simp only[Array.getD_eq_getD_getElem?]
    rw[Array.getElem?_setIfInBounds_ne (fun e=>ht e.symm)]
   rw[this];exact E t
theorem nI {hs:Nat} (E:bw P w D ι env a) (T:Step hs D ι w D' ι' w'):bw P w' D' ι' env a:=fun t=>T.rep (E t)
theorem eC (a:Act) (dst:Option Tmp) (u:Value):(a.put dst u).tmps.size=a.tmps.size:=by cases dst<;>simp[Act.put]
theorem put_defers (a:Act) (dst:Option Tmp) (u:Value):(a.put dst u).defers=a.defers:=by cases dst<;>rfl
theorem xQ {draw:Bool} {vo:aL} {σ:ar} {next:AV->ar->Prop} {U:Nat->Prop} {Q:Exit->Act->World->Prop} {K:Act->World->Prop} (hc:p7 P o.op=some vo.op) (hv:gu (Sound P) draw vo env σ next) (S:fV P hs D ι σ.get w) (Us:Used ι σ.next U) (hU:¬U vo.site) (E:bw P w D ι env a)
  (hK:∀v σ' u D' ι' w',next v σ'->Step hs D ι w D' ι' w'->fV P hs D' ι' σ'.get w'->cq P w' D' ι' v u->Used ι' σ'.next (fun s=>U s∨s=vo.site)->σ.next<=σ'.next->K (a.put o.dst u) w'):o.wp P a w K Q:=by
 have close:∀v g',VS (Sound P) σ.next vo env σ.get v g'->next v ⟨g',σ.next⟩->o.wp P a w K Q:=fun v g' h1 h2=>
  zN hc h1 S Us hU E fun a' w' ⟨u,D',ι',ha,T,S',hR,U'⟩=>by subst ha;exact hK v ⟨g',σ.next⟩ u D' ι' w' h2 T S' hR U' (Nat.le_refl _)
 have HX:∀(f:Nat) (args:List AV) (vs:Array Value),Sound P f args ⟨σ.get,σ.next+1⟩ next->fa P w D ι args vs->(execOp a.eval o).run P w=.ok (.enter f vs) w->o.wp P a w K Q:=by
  intro f args vs h hA fN
  unfold Oper.wp
  rw[fN]
  refine(h hs D ι w vs S Us.next hA).mono ?_
  rintro e w' ⟨r,g',n',D',ι',u,rfl,hn,T,S',U',hle,hR⟩
  exact hK r ⟨g',n'⟩ u D' ι' w' hn T S' hR (U'.more fun _ h=>h.elim) (Nat.le_trans (Nat.le_succ _) hle)
 unfold gu at hv
 split at hv
 ·rename_i f args dK
  rcases hv with⟨r,hP,hn⟩|⟨_,hX⟩|⟨D6,sz,rows,hM,hn⟩
  ·exact close r σ.get (by unfold VS;rw[dK];exact .inl ⟨hP,rfl⟩) hn
  rotate_left
  ·exact close _ _ (by unfold VS;rw[dK];exact .inr ⟨D6,sz,rows,hM,rfl,rfl⟩) hn
  ·have kq:=hc
   rw[dK]at kq
   obtain⟨c,ho,j7,DU,mU⟩:=AG kq
   refine HX f _ (c.args.map a.eval) hX (nD E mU) ?_
   simp only[execOp,ho,resolve,j7,Deferred.ofValue,Act.eval,Sem.run_bind,Sem.run_pure,Result.andThen_ok,invoke,Array.empty_append,Array.append_empty]
   exact jh DU
 ·rename_i x args dK
  split at hv
  ·rename_i f bZ hx
   have sG:tX (cE env x) (args.map (cE env))=some (f,args.map (cE env)++bZ):=by rw[hx];rfl
   rcases hv with⟨r,hP,hn⟩|⟨_,hX⟩|⟨D6,sz,rows,hM,hn⟩
   ·exact close r σ.get (by unfold VS;rw[dK];exact⟨f,_,sG,.inl ⟨hP,rfl⟩⟩) hn
   rotate_left
   ·exact close _ _ (by unfold VS;rw[dK];exact⟨f,_,sG,.inr ⟨D6,sz,rows,hM,rfl,rfl⟩⟩) hn
   ·have kq:=hc
    rw[dK]at kq
    obtain⟨c,t,ho,j7,rfl,mU⟩:=rN kq
    obtain⟨first,us,he,DU,hL⟩:=tZ (v:=a.eval (.tmp t)) sG (E t) (nD E mU)
    refine HX f _ (first++c.args.map a.eval++us) hX hL ?_
    simp only[execOp,ho,resolve,j7,he,Deferred.ofValue,Sem.run_bind,Sem.run_pure,Result.andThen_ok,invoke]
    exact jh DU
  ·rename_i f bZ hx
   have sG:tX (cE env x) (args.map (cE env))=some (f,bZ++args.map (cE env)):=by rw[hx];rfl
   rcases hv with⟨r,hP,hn⟩|⟨_,hX⟩|⟨D6,sz,rows,hM,hn⟩
   ·exact close r σ.get (by unfold VS;rw[dK];exact⟨f,_,sG,.inl ⟨hP,rfl⟩⟩) hn
   rotate_left
   ·exact close _ _ (by unfold VS;rw[dK];exact⟨f,_,sG,.inr ⟨D6,sz,rows,hM,rfl,rfl⟩⟩) hn
   ·have kq:=hc
    rw[dK]at kq
    obtain⟨c,t,ho,j7,rfl,mU⟩:=rN kq
    obtain⟨first,us,he,DU,hL⟩:=tZ (v:=a.eval (.tmp t)) sG (E t) (nD E mU)
    refine HX f _ (first++c.args.map a.eval++us) hX hL ?_
    simp only[execOp,ho,resolve,j7,he,Deferred.ofValue,Sem.run_bind,Sem.run_pure,Result.andThen_ok,invoke]
    exact jh DU
  ·exact hv.elim
 ·rename_i m x y dK
  split at hv
  ·rename_i v' g' he
   exact close v' g' (by unfold VS;rw[dK];rw[dK]at he;exact he) hv
  ·exact hv.elim
 ·rename_i m x y dK
  split at hv
  ·rename_i v' g' he
   exact close v' g' (by unfold VS;rw[dK];rw[dK]at he;exact he) hv
  ·exact hv.elim
 ·rename_i m x y dK
  split at hv
  ·rename_i v' g' he
   exact close v' g' (by unfold VS;rw[dK];rw[dK]at he;exact he) hv
  ·exact hv.elim
 ·rename_i m x dK
  split at hv
  ·rename_i v' g' he
   exact close v' g' (by unfold VS;rw[dK];rw[dK]at he;exact he) hv
  ·exact hv.elim
 ·rename_i m x dK
  split at hv
  ·rename_i v' g' he
   exact close v' g' (by unfold VS;rw[dK];rw[dK]at he;exact he) hv
  ·exact hv.elim
 ·rename_i n1 n2 n3 n4 n5 n6 n7
  split at hv
  ·rename_i v' r hq
   refine close v' (bB σ.get ⟨vo.site,σ.next⟩ r) ?_ hv
   unfold VS
   split
   ·rename_i h;exact(n1 _ _ h).elim
   ·rename_i h;exact(n2 _ _ h).elim
   ·rename_i h;exact(n3 _ _ _ h).elim
   ·rename_i h;exact(n4 _ _ _ h).elim
   ·rename_i h;exact(n5 _ _ _ h).elim
   ·rename_i h;exact(n6 _ _ h).elim
   ·rename_i h;exact(n7 _ _ h).elim
   ·exact⟨some r,hq,rfl⟩
  ·rename_i v' hq
   refine close v' σ.get ?_ hv
   unfold VS
   split
   ·rename_i h;exact(n1 _ _ h).elim
   ·rename_i h;exact(n2 _ _ h).elim
   ·rename_i h;exact(n3 _ _ _ h).elim
   ·rename_i h;exact(n4 _ _ _ h).elim
   ·rename_i h;exact(n5 _ _ _ h).elim
   ·rename_i h;exact(n6 _ _ h).elim
   ·rename_i h;exact(n7 _ _ h).elim
   ·exact⟨none,hq,rfl⟩
  ·exact hv.elim
structure St (P:Program) (hs nt:Nat) (D:Nat->Prop) (ι:Names) (env:Env) (σ:ar) (a:Act) (w:World):Prop where
 rW:fV P hs D ι σ.get w
 used:Used ι σ.next (fun _=>False)
 env:bw P w D ι env a
 size:a.tmps.size=nt
theorem uX (rest:List Oper) {ops:Array Oper} {nt site0:Nat} {draw mk:Bool} {bs:Array Nat} {hidden:List (Nat×Bool)} {K:Env->ar->Prop} {Q:Exit->Act->World->Prop}:∀(l:List Oper) (vl:List aL) (j:Nat) (env:Env) (σ:ar) (a:Act) (w:World) (D:Nat->Prop) (ι:Names) (U:Nat->Prop),
  allM (km P ops nt site0 draw mk bs hidden) l j=some vl->wpOps (Sound P) draw vl K env σ->fV P hs D ι σ.get w->Used ι σ.next U->(∀s,U s->s<site0+j)->bw P w D ι env a->a.tmps.size=nt->
  (∀iw σ' a' w' D' ι',K iw σ'->Step hs D ι w D' ι' w'->St P hs nt D' ι' iw σ' a' w'->a'.defers=a.defers->σ.next<=σ'.next->wpList P ops Q rest a' w')->wpList P ops Q (l++rest) a w:=by
 intro l
 induction l with
 |nil=>
  intro vl j env σ a w D ι U h hv S Us _ E e5 hQ
  simp[allM]at h;subst h
  exact hQ env ⟨σ.get,σ.next+1⟩ a w D ι hv (Step.refl _ _ _ _) ⟨S,Us.next,E,e5⟩ rfl (Nat.le_succ _)
 |cons o l ih=>
  intro vl j env σ a w D ι U h hv S Us hU E e5 hQ
  simp only[allM,Option.bind_eq_bind,Option.bind_eq_some_iff,Option.pure_def,Option.some.injEq]at h
  obtain⟨vo,iU,r6,qZ,rfl⟩:=h
  obtain⟨hc,hd,Ay,wq,hg⟩:=ou iU
  have hw:=r8 (ops:=ops) (vo:=vo) E hg
  unfold wpOps at hv
  show wpList P ops Q (o::(l++rest)) a w
  unfold wpList
  rw[<-hw]
  split at hv
  ·rename_i Ff
   rw[if_pos Ff]
   refine .inl (xQ hc hv S Us (fun h=>by have:=hU _ h;omega) E fun v σ' u D' ι' w' hn T S' hR U' hle=>?_)
   refine ih r6 (j+1) (upd env vo.dst v) σ' (a.put o.dst u) w' D' ι' _ qZ hn S' U' (fun s Av=>by
    rcases Av with h|h
    ·have:=hU _ h;omega
    ·omega) (by rw[hd];exact ij (nI E T) hR wq e5) (by rw[eC];exact e5) fun iw σ2 a' w2 D2 ι2 hk T2 LH Cp lx=>hQ iw σ2 a' w2 D2 ι2 hk (T.trans T2) LH (Cp.trans (put_defers _ _ _)) (Nat.le_trans hle lx)
  ·rename_i Ff
   rw[if_neg Ff]
   refine ih r6 (j+1) (upd env vo.dst .undef) σ (a.put o.dst undef) w D ι U qZ hv S Us (fun s Av=>by have:=hU _ Av;omega) (by rw[hd];exact ij E cq.undef wq e5) (by rw[eC];exact e5) fun iw σ2 a' w2 D2 ι2 hk T2 LH Cp lx=>hQ iw σ2 a' w2 D2 ι2 hk T2 LH (Cp.trans (put_defers _ _ _)) lx
theorem xG {ops:Array Oper} {nt site0:Nat} {draw mk:Bool} {bs:Array Nat} {hidden:List (Nat×Bool)} {K:Env->ar->Prop} {Q:Exit->Act->World->Prop}:∀(l:List Oper) (vl:List aL) (j:Nat) (env:Env) (σ:ar) (a:Act) (w:World) (D:Nat->Prop) (ι:Names) (U:Nat->Prop),
  allM (km P ops nt site0 draw mk bs hidden) l j=some vl->wpOps (Sound P) draw vl K env σ->fV P hs D ι σ.get w->Used ι σ.next U->(∀s,U s->s<site0+j)->bw P w D ι env a->a.tmps.size=nt->
  (∀iw σ' a' w' D' ι',K iw σ'->Step hs D ι w D' ι' w'->St P hs nt D' ι' iw σ' a' w'->a'.defers=a.defers->σ.next<=σ'.next->Q .normal a' w')->wpList P ops Q l a w:=fun l vl j env σ a w D ι U h hv S Us hU E e5 hQ=>by
 have:=uX [] l vl j env σ a w D ι U h hv S Us hU E e5 hQ
 rwa [List.append_nil]at this
end
end Go.Proofs.YtgoelphibofcmaaGreat.V

namespace Go.Proofs.YtgoelphibofcmaaGreat.V
open Go.RowKit
variable {P:Program} {w w':World} {D D' D2:Nat->Prop} {ι ι' ι2:Names}
section
variable {hs:Nat} {X:fq}
theorem aM {env iH:Env} {x:O} (h:∀t∈gr x,env t=iH t):cE env x=cE iH x:=by
 cases x with
 |t n=>exact h n (by simp[gr])
 |_=>rfl
theorem map_congr {env iH:Env} {l:List O} (h:∀t∈l.flatMap gr,env t=iH t):l.map (cE env)=l.map (cE iH):=
 List.map_congr_left fun x hx=>aM fun t ht=>h t (List.mem_flatMap.2 ⟨x,hx,ht⟩)
theorem oE {env iH:Env} {x:Option O} (h:∀t∈uY x,env t=iH t):x.map (cE env)=x.map (cE iH):=by
 cases x with
 |none=>rfl
 |some y=>simp only[Option.map_some];rw[aM h]
theorem rU {env iH:Env} {o:fW} {g:Rows} {id:Id} (h:∀t∈o.gh,env t=iH t):eW o (cE env) g id=eW o (cE iH) g id:=by
 cases o<;>simp only[fW.gh,List.mem_append]at h<;>simp only[eW]
 case cD x=>rw[aM h]
 case pick c a b=>rw[aM (x:=c) fun t ht=>h t (.inl (.inl ht)),aM (x:=a) fun t ht=>h t (.inl (.inr ht)),aM (x:=b) fun t ht=>h t (.inr ht)]
 case box x=>rw[aM h]
 case build z ps=>
  have:(ps.map fun(x:Nat×Nat×O)=>(x.1,x.2.1,cE env x.2.2))=ps.map fun(x:Nat×Nat×O)=>(x.1,x.2.1,cE iH x.2.2):=List.map_congr_left fun x hx=>by
   rw[aM (x:=x.2.2) fun t ht=>h t (List.mem_flatMap.2 ⟨x,hx,ht⟩)]
  rw[this]
 case kj a b l=>rw[map_congr h]
 case load a n x=>rw[aM h]
 case zC x=>rw[aM h]
 case bin a b x y=>rw[aM (x:=x) fun t ht=>h t (.inl ht),aM (x:=y) fun t ht=>h t (.inr ht)]
 case sh a x y=>rw[aM (x:=x) fun t ht=>h t (.inl ht),aM (x:=y) fun t ht=>h t (.inr ht)]
 case Jv a x y=>rw[aM (x:=x) fun t ht=>h t (.inl ht),aM (x:=y) fun t ht=>h t (.inr ht)]
 case L4 a b x y=>rw[aM (x:=x) fun t ht=>h t (.inl ht),aM (x:=y) fun t ht=>h t (.inr ht)]
 case Qj a b x y=>rw[aM (x:=x) fun t ht=>h t (.inl ht),aM (x:=y) fun t ht=>h t (.inr ht)]
 case OL a b x=>rw[aM h]
 case Qk a x=>rw[aM h]
 case not x=>rw[aM h]
 case neg x=>rw[aM h]
 case conv k x=>rw[aM h]
 case DH x=>rw[aM h]
 case slice s x lo hi=>rw[aM (x:=x) fun t ht=>h t (.inl (.inl ht)),oE (x:=lo) fun t ht=>h t (.inl (.inr ht)),oE (x:=hi) fun t ht=>h t (.inr ht)]
 case zg x lo hi=>rw[aM (x:=x) fun t ht=>h t (.inl (.inl ht)),oE (x:=lo) fun t ht=>h t (.inl (.inr ht)),oE (x:=hi) fun t ht=>h t (.inr ht)]
 case fI k x=>rw[aM h]
 case field a b c x=>rw[aM h]
 case dw s x y=>rw[aM (x:=x) fun t ht=>h t (.inl ht),aM (x:=y) fun t ht=>h t (.inr ht)]
 case J5 n s x y=>rw[aM (x:=x) fun t ht=>h t (.inl ht),aM (x:=y) fun t ht=>h t (.inr ht)]
 case J7 x y=>rw[aM (x:=x) fun t ht=>h t (.inl ht),aM (x:=y) fun t ht=>h t (.inr ht)]
 case dZ a b c x y=>rw[aM (x:=x) fun t ht=>h t (.inl ht),aM (x:=y) fun t ht=>h t (.inr ht)]
 case extract i x=>rw[aM h]
 case len x=>rw[aM h]
 case Kd x=>rw[aM h]
 case HR x=>rw[aM h]
 case HL x=>rw[aM h]
 case Kh f l=>rw[map_congr h]
 case Ki f l=>rw[map_congr h]
 case mq f l=>rw[map_congr h]
 case jI z x y=>rw[aM (x:=x) fun t ht=>h t (.inl ht),aM (x:=y) fun t ht=>h t (.inr ht)]
theorem gF {env iH:Env} {o:fW} {g:Rows} {id:Id} (h:∀t∈o.gh,env t=iH t):gR o (cE env) g id=gR o (cE iH) g id:=by
 cases o<;>simp only[fW.gh,List.mem_append]at h<;>simp only[gR]
 case clear z x=>rw[aM h]
 case mw f l=>rw[map_congr h]
 all_goals rename_i a x y
 all_goals rw[aM (x:=x) fun t ht=>h t (.inl ht),aM (x:=y) fun t ht=>h t (.inr ht)]
theorem GB {n:Nat} {vo:aL} {env iH:Env} {g g':Rows} {v:AV} (h:∀t∈vo.op.gh,env t=iH t) (hv:VS X n vo env g v g'):VS X n vo iH g v g':=by
 unfold VS at hv ⊢
 split at hv
 ·rename_i f args dK
  rw[dK]at h
  simp only[fW.gh]at h
  rw[<-map_congr h];exact hv
 ·rename_i x args dK
  rw[dK]at h
  simp only[fW.gh,List.mem_append]at h
  rw[<-map_congr (l:=args) fun t ht=>h t (.inr ht),<-aM (x:=x) fun t ht=>h t (.inl ht)];exact hv
 ·rw[<-gF h];exact hv
 ·rw[<-gF h];exact hv
 ·rw[<-gF h];exact hv
 ·rw[<-gF h];exact hv
 ·rw[<-gF h];exact hv
 ·rw[<-rU h];exact hv
theorem CQ {q:MQ} {vs:List AV} {g:Rows} {id:Id} {v:AV} {r:Row} (h:bG q vs g id=some (v,some r)):∃m,q=.new m:=by
 unfold bG at h
 split at h
 ·exact⟨_,rfl⟩
 ·simp[Option.bind_eq_some_iff]at h
 ·simp at h
 ·cases h
theorem vg {o:fW} {ρ:O->AV} {g:Rows} {id:Id} {v:AV} {r:Row} (h:eW o ρ g id=some (v,some r)):pQ o=true:=by
 cases o<;>simp only[eW]at h<;>(try rfl)<;>(try simp at h)
 case mq q xs=>obtain⟨m,rfl⟩:=CQ h;rfl
 all_goals (try(split at h<;>simp at h))
theorem vh {o:fW} {ρ:O->AV} {g g2:Rows} {id id2:Id} (h:o.cls=.pure):eW o ρ g id=eW o ρ g2 id2:=by
 cases o<;>(try simp[fW.cls]at h)<;>(try simp only[eW])
 case mq q xs=>cases q<;>simp[fW.cls]at h
theorem tT {n:Nat} {vo:aL} {env:Env} {g g':Rows} {v:AV} (hw:vo.op.cls≠.write) (hv:VS X n vo env g v g'):∃mr,g'=iV g ⟨vo.site,n⟩ mr/\(mr≠none->vo.makes=true)/\∀g0,gQ vo.hid n g0=gQ vo.hid n g->VS X n vo env g0 v (iV g0 ⟨vo.site,n⟩ mr):=by
 unfold VS at hv
 split at hv
 ·rename_i f args dK
  rcases hv with⟨h1,rfl⟩|⟨hs,sz,rows,hM,rfl,rfl⟩
  ·refine⟨none,rfl,fun h=>(h rfl).elim,fun g0 h0=>?_⟩
   unfold VS;rw[dK];simp only;unfold tY;rw[h0];exact .inl ⟨h1,rfl⟩
  ·refine⟨some _,rfl,fun _=>by unfold aL.makes;rw[dK,hs];simp[fW.ly],fun g0 h0=>?_⟩
   unfold VS;rw[dK];simp only;unfold tY;rw[h0];exact .inr ⟨hs,sz,rows,hM,rfl,rfl⟩
 ·rename_i x args dK
  obtain⟨f,bZ,hx,hv⟩:=hv
  rcases hv with⟨h1,rfl⟩|⟨hs,sz,rows,hM,rfl,rfl⟩
  ·refine⟨none,rfl,fun h=>(h rfl).elim,fun g0 h0=>?_⟩
   unfold VS;rw[dK];simp only;unfold tY;rw[h0];exact⟨f,bZ,hx,.inl ⟨h1,rfl⟩⟩
  ·refine⟨some _,rfl,fun _=>by unfold aL.makes;rw[dK,hs];simp[fW.ly],fun g0 h0=>?_⟩
   unfold VS;rw[dK];simp only;unfold tY;rw[h0];exact⟨f,bZ,hx,.inr ⟨hs,sz,rows,hM,rfl,rfl⟩⟩
 ·rename_i dK;rw[dK]at hw;exact(hw rfl).elim
 ·rename_i dK;rw[dK]at hw;exact(hw rfl).elim
 ·rename_i dK;rw[dK]at hw;exact(hw rfl).elim
 ·rename_i dK;rw[dK]at hw;exact(hw rfl).elim
 ·rename_i dK;rw[dK]at hw;exact(hw rfl).elim
 ·rename_i n1 n2 n3 n4 n5 n6 n7
  obtain⟨mr,hq,rfl⟩:=hv
  refine⟨mr,rfl,fun h=>?_,fun g0 h0=>?_⟩
  ·cases mr with
   |none=>exact(h rfl).elim
   |some r=>unfold aL.makes;rw[vg hq];rfl
  ·unfold VS
   split
   ·rename_i hh;exact(n1 _ _ hh).elim
   ·rename_i hh;exact(n2 _ _ hh).elim
   ·rename_i hh;exact(n3 _ _ _ hh).elim
   ·rename_i hh;exact(n4 _ _ _ hh).elim
   ·rename_i hh;exact(n5 _ _ _ hh).elim
   ·rename_i hh;exact(n6 _ _ hh).elim
   ·rename_i hh;exact(n7 _ _ hh).elim
   ·rw[h0];exact⟨mr,hq,rfl⟩
theorem xV {n:Nat} {vo:aL} {env:Env} {g g':Rows} {v:AV} (hp:vo.op.cls=.pure) (hv:VS X n vo env g v g'):g'=g/\∀g0,VS X n vo env g0 v g0:=by
 unfold VS at hv
 split at hv
 ·rename_i dK;rw[dK]at hp;simp[fW.cls]at hp
 ·rename_i dK;rw[dK]at hp;simp[fW.cls]at hp
 ·rename_i dK;rw[dK]at hp;simp[fW.cls]at hp
 ·rename_i dK;rw[dK]at hp;simp[fW.cls]at hp
 ·rename_i dK;rw[dK]at hp;simp[fW.cls]at hp
 ·rename_i dK;rw[dK]at hp;simp[fW.cls]at hp
 ·rename_i dK;rw[dK]at hp;simp[fW.cls]at hp
 ·rename_i n1 n2 n3 n4 n5 n6 n7
  obtain⟨mr,hq,rfl⟩:=hv
  have Sg:mr=none:=by
   cases mr with
   |none=>rfl
   |some r=>have:=vg hq;simp[pQ,hp]at this
  subst Sg
  refine⟨rfl,fun g0=>?_⟩
  unfold VS
  split
  ·rename_i hh;exact(n1 _ _ hh).elim
  ·rename_i hh;exact(n2 _ _ hh).elim
  ·rename_i hh;exact(n3 _ _ _ hh).elim
  ·rename_i hh;exact(n4 _ _ _ hh).elim
  ·rename_i hh;exact(n5 _ _ _ hh).elim
  ·rename_i hh;exact(n6 _ _ hh).elim
  ·rename_i hh;exact(n7 _ _ hh).elim
  ·exact⟨none,by rw[vh hp];exact hq,rfl⟩
def GS (X:fq) (n:Nat) (vo:aL) (env:Env) (g:Rows) (v:AV) (g':Rows):Prop:=
 if aJ vo.guard env then VS X n vo env g v g' else v=.undef/\g'=g
theorem Bm {hid:List Nat} {g:Rows} {s n:Nat} {mr:Option Row} (h:mr≠none->hid.contains s=true):gQ hid n (iV g ⟨s,n⟩ mr)=gQ hid n g:=by
 cases mr with
 |none=>rfl
 |some r=>
  have hc:=h (by simp)
  cases hid with
  |nil=>simp at hc
  |cons a l=>
   funext i
   show(if (a::l).contains i.site=true/\i.aW=n then none else iV g ⟨s,n⟩ (some r) i)=if (a::l).contains i.site=true/\i.aW=n then none else g i
   by_cases hi:i=⟨s,n⟩
   ·subst hi;rw[if_pos ⟨hc,rfl⟩,if_pos ⟨hc,rfl⟩]
   ·simp only[iV,bB,if_neg hi]
theorem EG {g:Rows} {i j:Id} (h:i≠j) (m1 m2:Option Row):iV (iV g i m1) j m2=iV (iV g j m2) i m1:=by
 cases m1<;>cases m2<;>simp only[iV]
 funext k
 simp only[bB]
 by_cases h1:k=i
 ·subst h1;rw[if_neg h,if_pos rfl];simp
 ·by_cases h2:k=j
  ·subst h2;simp[h1]
  ·simp[h1,h2]
theorem vP {env:Env} {d e:Option Nat} {v u:AV} (h:∀k,d=some k->e≠some k):upd (upd env d v) e u=upd (upd env e u) d v:=by
 cases d with
 |none=>rfl
 |some d=>
  cases e with
  |none=>rfl
  |some e=>
   have fY:d≠e:=fun he=>h d rfl (by rw[he])
   funext t
   simp only[upd]
   by_cases h1:t=d
   ·subst h1;rw[if_neg fY,if_pos rfl,if_pos rfl]
   ·by_cases h2:t=e
    ·subst h2;rw[if_pos rfl,if_neg h1,if_pos rfl]
    ·simp[h1,h2]
theorem lY {env:Env} {d:Option Nat} {v:AV} {l:List Nat} (h:∀k,d=some k->k∉l):∀t∈l,upd env d v t=env t:=by
 intro t ht
 cases d with
 |none=>rfl
 |some d=>
  have:t≠d:=fun he=>h d rfl (he▸ht)
  simp[upd,this]
structure BJ (x y:aL):Prop where
 xy:∀k,x.dst=some k->k∉y.gh
 yx:∀k,y.dst=some k->k∉x.gh
 dst:∀k,x.dst=some k->y.dst≠some k
 cls:clash x.op.cls y.op.cls=false
 hx:x.makes=true->y.hid.contains x.site=true
 hy:y.makes=true->x.hid.contains y.site=true
 site:x.site≠y.site
theorem BJ.symm {x y:aL} (h:BJ x y):BJ y x:=
 ⟨h.yx,h.xy,fun k hk he=>h.dst k he hk,by have:=h.cls;revert this;cases x.op.cls<;>cases y.op.cls<;>simp[clash],h.hy,h.hx,fun e=>h.site e.symm⟩
theorem pD {x y:aL} (h:DQ x y=true):BJ x y:=by
 unfold DQ at h
 simp only[Bool.and_eq_true,Bool.not_eq_true',Bool.or_eq_true,bne_iff_ne]at h
 obtain⟨⟨⟨⟨h1,h2⟩,h3⟩,h4⟩,h5⟩:=h
 unfold r5 at h1
 simp only[Bool.and_eq_true]at h1
 obtain⟨a1,a2⟩:=h1
 refine⟨fun k hk=>?_,fun k hk=>?_,fun k hk=>?_,h2,fun hm=>?_,fun hm=>?_,h5⟩
 ·rw[hk]at a1;simp at a1;exact a1.1
 ·rw[hk]at a2;simpa using a2
 ·rw[hk]at a1;simp at a1;exact a1.2
 ·rcases h3 with h3|h3
  ·rw[hm]at h3;cases h3
  ·exact h3
 ·rcases h4 with h4|h4
  ·rw[hm]at h4;cases h4
  ·exact h4
theorem qM {vo:aL} {t:Nat} (h:t∈vo.op.gh):t∈vo.gh:=List.mem_append_left _ h
theorem mH {vo:aL} {env iH:Env} (h:∀t∈vo.gh,env t=iH t):aJ vo.guard env=aJ vo.guard iH:=by
 unfold aJ
 cases hg:vo.guard with
 |none=>rfl
 |some p=>
  obtain⟨t,b⟩:=p
  have:env t=iH t:=h t (List.mem_append_right _ (by rw[hg];simp))
  simp only[this]
theorem tN {n:Nat} {vo:aL} {env iH:Env} {g g':Rows} {v:AV} (h:∀t∈vo.gh,env t=iH t) (hv:GS X n vo env g v g'):GS X n vo iH g v g':=by
 unfold GS at hv ⊢
 rw[<-mH h]
 split at hv
 ·rename_i hw;rw[if_pos hw];exact GB (fun t ht=>h t (qM ht)) hv
 ·rename_i hw;rw[if_neg hw];exact hv
theorem Du {n:Nat} {x y:aL} {env:Env} {g g1 g2:Rows} {v v':AV} (F:BJ x y) (h1:GS X n x env g v g1) (h2:GS X n y (upd env x.dst v) g1 v' g2):
  ∃JD,GS X n y env g v' JD/\GS X n x (upd env y.dst v') JD v g2/\upd (upd env x.dst v) y.dst v'=upd (upd env y.dst v') x.dst v:=by
 have Li:=vP (env:=env) (v:=v) (u:=v') F.dst
 replace h2:GS X n y env g1 v' g2:=tN (lY F.xy) h2
 have back:∀{JD},GS X n x env JD v g2->GS X n x (upd env y.dst v') JD v g2:=fun h=>tN (fun t ht=>(lY F.yx t ht).symm) h
 unfold GS at h1 h2
 by_cases wx:aJ x.guard env=true
 ·rw[if_pos wx]at h1
  by_cases wy:aJ y.guard env=true
  ·rw[if_pos wy]at h2
   by_cases cx:x.op.cls=.write
   ·have cy:y.op.cls=.pure:=by
     have:=F.cls;rw[cx]at this
     cases hc:y.op.cls<;>simp[clash,hc]at this ⊢
    obtain⟨rfl,dC⟩:=xV cy h2
    exact⟨g,by unfold GS;rw[if_pos wy];exact dC g,back (by unfold GS;rw[if_pos wx];exact h1),Li⟩
   ·by_cases cy:y.op.cls=.write
    ·have cx':x.op.cls=.pure:=by
      have:=F.cls;rw[cy]at this
      cases hc:x.op.cls<;>simp[clash,hc]at this ⊢
     obtain⟨rfl,dC⟩:=xV cx' h1
     exact⟨g2,by unfold GS;rw[if_pos wy];exact h2,back (by unfold GS;rw[if_pos wx];exact dC g2),Li⟩
    ·obtain⟨mx,rfl,kx,Rg⟩:=tT cx h1
     obtain⟨my,rfl,ky,LM⟩:=tT cy h2
     have fY:(⟨x.site,n⟩:Id)≠⟨y.site,n⟩:=fun e=>F.site (by injection e)
     refine⟨iV g ⟨y.site,n⟩ my,?_,back ?_,Li⟩
     ·unfold GS;rw[if_pos wy]
      exact LM g (Bm fun h=>F.hx (kx h)).symm
     ·unfold GS;rw[if_pos wx,EG fY]
      exact Rg _ (Bm fun h=>F.hy (ky h))
  ·rw[if_neg wy]at h2
   obtain⟨rfl,rfl⟩:=h2
   exact⟨g,by unfold GS;rw[if_neg wy];exact⟨rfl,rfl⟩,back (by unfold GS;rw[if_pos wx];exact h1),Li⟩
 ·rw[if_neg wx]at h1
  obtain⟨rfl,rfl⟩:=h1
  exact⟨g2,h2,back (by unfold GS;rw[if_neg wx];exact⟨rfl,rfl⟩),Li⟩
end
end Go.Proofs.YtgoelphibofcmaaGreat.V

namespace Go.Proofs.YtgoelphibofcmaaGreat.V
open Go.RowKit
variable {P:Program} {w w':World} {D D' D2:Nat->Prop} {ι ι' ι2:Names}
section
variable {hs:Nat} {X:fq}
def iW (acc:Array Nat) (o:Oper):Nat:=o.after.foldl (fun s e=>if Region.binds .any e then s|||2 ^ e.on|||acc.getD e.on 0 else s) 0
theorem Jr (ops:Array Oper):jk ops=ops.foldl (fun acc o=>acc.push (iW acc o)) #[]:=rfl
theorem zR {acc:Array Nat} {o:Oper} {i:Nat} (h:(iW acc o).testBit i=true):∃e∈o.after,Region.binds .any e=true/\(e.on=i∨(acc.getD e.on 0).testBit i=true):=by
 unfold iW at h
 rw[<-Array.foldl_toList]at h
 have gen:∀(l:List Edge) (s:Nat),(l.foldl (fun s e=>if Region.binds .any e then s|||2 ^ e.on|||acc.getD e.on 0 else s) s).testBit i=true->s.testBit i=true∨∃e∈l,Region.binds .any e=true/\(e.on=i∨(acc.getD e.on 0).testBit i=true):=by
  intro l
  induction l with
  |nil=>intro s h;exact .inl h
  |cons e r ih=>
   intro s h
   rw[List.foldl_cons]at h
   rcases ih _ h with h|⟨e',JJ,h'⟩
   ·by_cases hb:Region.binds .any e=true
    ·rw[if_pos hb]at h
     simp only[Nat.testBit_or,Bool.or_eq_true]at h
     rcases h with(h|h)|h
     ·exact .inl h
     ·refine .inr ⟨e,by simp,hb,.inl ?_⟩
      rw[Nat.testBit_two_pow]at h
      simpa using h
     ·exact .inr ⟨e,by simp,hb,.inr h⟩
    ·rw[if_neg hb]at h;exact .inl h
   ·exact .inr ⟨e',List.mem_cons_of_mem _ JJ,h'⟩
 rcases gen _ _ h with h|⟨e,he,h⟩
 ·simp at h
 ·exact⟨e,Array.mem_toList_iff.1 he,h⟩
theorem GL {ops:Array Oper} {j i:Nat} (h:((jk ops).getD j 0).testBit i=true):∃o,ops[j]? =some o/\∃e∈o.after,Region.binds .any e=true/\(e.on=i∨((jk ops).getD e.on 0).testBit i=true):=by
 have key:∀(l pre:List Oper) (acc:Array Nat),acc.size=pre.length->(∀j i,(acc.getD j 0).testBit i=true->∃o,pre[j]? =some o/\∃e∈o.after,Region.binds .any e=true/\(e.on=i∨(acc.getD e.on 0).testBit i=true))->
   ∀j i,((l.foldl (fun acc o=>acc.push (iW acc o)) acc).getD j 0).testBit i=true->∃o,(pre++l)[j]? =some o/\∃e∈o.after,Region.binds .any e=true/\(e.on=i∨((l.foldl (fun acc o=>acc.push (iW acc o)) acc).getD e.on 0).testBit i=true):=by
  intro l
  induction l with
  |nil=>intro pre acc _ h j i hb;simpa using h j i hb
  |cons o r ih=>
   intro pre acc e5 h j i hb
   have BG:∀k,k<acc.size->(acc.push (iW acc o)).getD k 0=acc.getD k 0:=fun k hk=>by
    simp only[Array.getD_eq_getD_getElem?,Array.getElem?_push]
    rw[if_neg (by omega)]
   have big:∀k,acc.size<=k->acc.getD k 0=0:=fun k hk=>by simp[Array.getElem?_eq_none hk]
   have lift:∀k i,(acc.getD k 0).testBit i=true->((acc.push (iW acc o)).getD k 0).testBit i=true:=fun k i hk=>by
    by_cases dy:k<acc.size
    ·rw[BG k dy];exact hk
    ·rw[big k (by omega)]at hk;simp at hk
   have:=ih (pre++[o]) (acc.push (iW acc o)) (by simp[e5]) (fun j i hb=>by
    by_cases dy:j<acc.size
    ·rw[BG j dy]at hb
     obtain⟨o',BC,e,he,ft,h2⟩:=h j i hb
     refine⟨o',by rw[List.getElem?_append_left (by omega)];exact BC,e,he,ft,?_⟩
     rcases h2 with h2|h2
     ·exact .inl h2
     ·exact .inr (lift _ _ h2)
    ·by_cases hj:j=acc.size
     ·subst hj
      have e0:(acc.push (iW acc o)).getD acc.size 0=iW acc o:=by simp
      rw[e0]at hb
      obtain⟨e,he,ft,h2⟩:=zR hb
      refine⟨o,by rw[List.getElem?_append_right (by omega),e5];simp,e,he,ft,?_⟩
      rcases h2 with h2|h2
      ·exact .inl h2
      ·exact .inr (lift _ _ h2)
     ·have:(acc.push (iW acc o)).getD j 0=0:=by
       simp only[Array.getD_eq_getD_getElem?]
       rw[Array.getElem?_eq_none (by simp;omega)];rfl
      rw[this]at hb;simp at hb) j i (by simpa using hb)
   simpa using this
 rw[Jr,<-Array.foldl_toList]at h ⊢
 have:=key ops.toList [] #[] rfl (fun j i h=>by simp at h) j i h
 simpa using this
def DC (ops:Array Oper) (listed:Array Bool):Prop:=∀k i,listed.getD k false=true->((jk ops).getD k 0).testBit i=true->listed.getD i false=true
theorem kE {ops:Array Oper} {listed:Array Bool} (h:DC ops listed) {j:Nat} (hj:j∈Region.ready .any ops listed):∀i,((jk ops).getD j 0).testBit i=true->listed.getD i false=true:=by
 intro i hb
 obtain⟨_,o,ho,dC⟩:=mem_ready.1 hj
 obtain⟨o',BC,e,he,ft,h2⟩:=GL hb
 rw[ho]at BC;injection BC with BC;subst BC
 have hl:=dC e he ft
 rcases h2 with h2|h2
 ·rw[<-h2];exact hl
 ·exact h _ _ hl h2
theorem DC.list {ops:Array Oper} {listed:Array Bool} (h:DC ops listed) {j:Nat} (hj:j∈Region.ready .any ops listed):DC ops (listed.setIfInBounds j true):=by
 intro k i hk hb
 by_cases hkj:k=j
 ·subst hkj;exact getD_set_true (kE h hj i hb)
 ·rw[getD_set_ne false (fun e=>hkj e.symm)]at hk
  exact getD_set_true (h k i hk hb)
theorem iO {ops:Array Oper} {listed:Array Bool} {j:Nat} (hj:j∈Region.ready .any ops listed):listed.getD j false=false:=by
 have h0:=(mem_ready.1 hj).1
 rcases Nat.lt_or_ge j listed.size with h|h
 ·simp[h]at h0 ⊢;exact h0
 ·simp[Array.getElem?_eq_none h]at h0
def IH (X:fq) (n:Nat) (ops:Array Oper) (vl:List aL) (K:Env->Rows->Prop):Nat->Array Bool->Env->Rows->Prop
 |0,listed,env,g=>Region.ready .any ops listed=[]/\K env g
 |f+1,listed,env,g=>(Region.ready .any ops listed=[]->K env g)/\∀i∈Region.ready .any ops listed,∃vo,vl[i]? =some vo/\∃v g',GS X n vo env g v g'/\IH X n ops vl K f (listed.setIfInBounds i true) (upd env vo.dst v) g'
theorem z7 {ops:Array Oper} {vl:List aL} (h:nH ops vl (jk ops)=true) {i j:Nat} {x y:aL} (hi:vl[i]? =some x) (hj:vl[j]? =some y) (DY:i≠j) (h1:((jk ops).getD j 0).testBit i=false) (h2:((jk ops).getD i 0).testBit j=false):BJ x y:=by
 unfold nH at h
 simp only[Bool.and_eq_true,List.all_eq_true]at h
 obtain⟨_,h⟩:=h
 have mem:∀(k:Nat) (z:aL),vl[k]? =some z->(z,k)∈vl.zipIdx:=fun k z hk=>by
  rw[List.mem_iff_getElem?]
  exact⟨k,by simp[List.getElem?_zipIdx,hk]⟩
 rcases Nat.lt_or_gt_of_ne DY with dy|JM
 ·have:=h _ (mem j y hj) _ (mem i x hi)
  simp only[dy,decide_true,Bool.not_true,Bool.false_or,h1]at this
  exact pD this
 ·have:=h _ (mem i x hi) _ (mem j y hj)
  simp only[JM,decide_true,Bool.not_true,Bool.false_or,h2]at this
  exact(pD this).symm
theorem Dq {n:Nat} {ops:Array Oper} {vl:List aL} {K:Env->Rows->Prop} (uC:nH ops vl (jk ops)=true) (hlen:vl.length=ops.size) {i:Nat} {vi:aL} (hi:vl[i]? =some vi) {v:AV}:∀(fuel:Nat) (listed:Array Bool) (env:Env) (g g1:Rows),
  DC ops listed->i∈Region.ready .any ops listed->GS X n vi env g v g1->IH X n ops vl K fuel (listed.setIfInBounds i true) (upd env vi.dst v) g1->IH X n ops vl K (fuel+1) listed env g:=by
 intro fuel
 induction fuel with
 |zero=>
  intro listed env g g1 _ hr hG H
  refine⟨fun h=>(by rw[h]at hr;cases hr),fun j hj=>?_⟩
  by_cases l6:j=i
  ·subst l6;exact⟨vi,hi,v,g1,hG,H⟩
  ·have:=ready_mono hj l6
   rw[H.1]at this;cases this
 |succ fuel ih=>
  intro listed env g g1 qW hr hG H
  refine⟨fun h=>(by rw[h]at hr;cases hr),fun j hj=>?_⟩
  by_cases l6:j=i
  ·subst l6;exact⟨vi,hi,v,g1,hG,H⟩
  ·obtain⟨vj,J0,v',g2,hG2,H2⟩:=H.2 j (ready_mono hj l6)
   have b1:((jk ops).getD j 0).testBit i=false:=by
    cases hb:((jk ops).getD j 0).testBit i with
    |false=>rfl
    |true=>have:=kE qW hj i hb;rw[iO hr]at this;cases this
   have b2:((jk ops).getD i 0).testBit j=false:=by
    cases hb:((jk ops).getD i 0).testBit j with
    |false=>rfl
    |true=>have:=kE qW hr j hb;rw[iO hj]at this;cases this
   have F:=z7 uC hi J0 (fun e=>l6 e.symm) b1 b2
   obtain⟨JD,q1,q2,q3⟩:=Du F hG hG2
   refine⟨vj,J0,v',JD,q1,ih _ _ _ g2 (qW.list hj) (ready_mono hr (fun e=>l6 e.symm)) q2 ?_⟩
   rw[<-q3,Array.setIfInBounds_comm _ _ l6]
   exact H2
theorem LJ {n:Nat} {vo:aL} {env:Env} {g:Rows} {v:AV} {mr:Option Row} (h:eW vo.op (cE env) (gQ vo.hid n g) ⟨vo.site,n⟩=some (v,mr)):VS X n vo env g v (iV g ⟨vo.site,n⟩ mr):=by
 unfold VS
 split
 ·rename_i dK;rw[dK]at h;simp[eW]at h
 ·rename_i dK;rw[dK]at h;simp[eW]at h
 ·rename_i dK;rw[dK]at h;simp[eW]at h
 ·rename_i dK;rw[dK]at h;simp[eW]at h
 ·rename_i dK;rw[dK]at h;simp[eW]at h
 ·rename_i dK;rw[dK]at h;simp[eW]at h
 ·rename_i dK;rw[dK]at h;simp[eW]at h
 ·exact⟨mr,h,rfl⟩
theorem GC {n:Nat} {vo:aL} {env:Env} {g g':Rows} {v:AV} (h:gR vo.op (cE env) g ⟨vo.site,n⟩=some (v,g')):VS X n vo env g v g':=by
 unfold VS
 split
 ·rename_i dK;rw[dK]at h;simp[gR]at h
 ·rename_i dK;rw[dK]at h;simp[gR]at h
 ·exact h
 ·exact h
 ·exact h
 ·exact h
 ·exact h
 ·rename_i n1 n2 n3 n4 n5 n6 n7
  exfalso
  unfold gR at h
  split at h
  ·rename_i hh;exact n3 _ _ _ hh
  ·rename_i hh;exact n4 _ _ _ hh
  ·rename_i hh;exact n5 _ _ _ hh
  ·rename_i hh;exact n6 _ _ hh
  ·rename_i hh;exact n7 _ _ hh
  ·simp at h
theorem Nw {vo:aL} {env:Env} {σ:ar} {next:AV->ar->Prop} (hv:gu X true vo env σ next):∃v g',VS X σ.next vo env σ.get v g'/\next v ⟨g',σ.next⟩:=by
 unfold gu at hv
 split at hv
 ·rename_i f args dK
  rcases hv with⟨r,hP,hn⟩|⟨h,_⟩|⟨hs,sz,rows,hM,hn⟩
  ·exact⟨r,σ.get,by unfold VS;rw[dK];exact .inl ⟨hP,rfl⟩,hn⟩
  ·cases h
  ·exact⟨_,_,by unfold VS;rw[dK];exact .inr ⟨hs,sz,rows,hM,rfl,rfl⟩,hn⟩
 ·rename_i x args dK
  split at hv
  ·rename_i f bZ hx
   have sG:tX (cE env x) (args.map (cE env))=some (f,args.map (cE env)++bZ):=by rw[hx];rfl
   rcases hv with⟨r,hP,hn⟩|⟨h,_⟩|⟨hs,sz,rows,hM,hn⟩
   ·exact⟨r,σ.get,by unfold VS;rw[dK];exact⟨f,_,sG,.inl ⟨hP,rfl⟩⟩,hn⟩
   ·cases h
   ·exact⟨_,_,by unfold VS;rw[dK];exact⟨f,_,sG,.inr ⟨hs,sz,rows,hM,rfl,rfl⟩⟩,hn⟩
  ·rename_i f bZ hx
   have sG:tX (cE env x) (args.map (cE env))=some (f,bZ++args.map (cE env)):=by rw[hx];rfl
   rcases hv with⟨r,hP,hn⟩|⟨h,_⟩|⟨hs,sz,rows,hM,hn⟩
   ·exact⟨r,σ.get,by unfold VS;rw[dK];exact⟨f,_,sG,.inl ⟨hP,rfl⟩⟩,hn⟩
   ·cases h
   ·exact⟨_,_,by unfold VS;rw[dK];exact⟨f,_,sG,.inr ⟨hs,sz,rows,hM,rfl,rfl⟩⟩,hn⟩
  ·exact hv.elim
 ·split at hv
  ·rename_i v g h;exact⟨v,g,GC h,hv⟩
  ·exact hv.elim
 ·split at hv
  ·rename_i v g h;exact⟨v,g,GC h,hv⟩
  ·exact hv.elim
 ·split at hv
  ·rename_i v g h;exact⟨v,g,GC h,hv⟩
  ·exact hv.elim
 ·split at hv
  ·rename_i v g h;exact⟨v,g,GC h,hv⟩
  ·exact hv.elim
 ·split at hv
  ·rename_i v g h;exact⟨v,g,GC h,hv⟩
  ·exact hv.elim
 ·split at hv
  ·rename_i v r h;exact⟨v,_,LJ h,hv⟩
  ·rename_i v h;exact⟨v,_,LJ h,hv⟩
  ·exact hv.elim
theorem vQ {ops:Array Oper} {vl:List aL} {K:Env->ar->Prop} {n:Nat} (uC:nH ops vl (jk ops)=true) (hlen:vl.length=ops.size):∀(r:List aL) (k:Nat) (listed:Array Bool) (env:Env) (g:Rows),
  (∀j,r[j]? =vl[k+j]?)->listed.size=ops.size->(∀i,i<ops.size->listed[i]? =some (decide (i<k)))->k+r.length=ops.size->DC ops listed->wpOps X true r K env ⟨g,n⟩->IH X n ops vl (fun env g=>K env ⟨g,n+1⟩) r.length listed env g
 |[],k,listed,env,g,_,e5,hl,hk,_,hv=>by
  refine⟨?_,hv⟩
  rw[List.eq_nil_iff_forall_not_mem]
  intro j hj
  obtain⟨h0,o,ho,_⟩:=mem_ready.1 hj
  have dy:j<ops.size:=(Array.getElem?_eq_some_iff.1 ho).1
  have:=hl j dy
  simp at hk
  simp[this,show j<k by omega]at h0
 |vo::r,k,listed,env,g,hr,e5,hl,hk,qW,hv=>by
  simp only[List.length_cons]at hk
  have iU:vl[k]? =some vo:=by simpa using(hr 0).symm
  have kQ:k<ops.size:=by omega
  have Hx:k∈Region.ready .any ops listed:=by
   rw[mem_ready]
   refine⟨by simp[hl k kQ],ops[k],Array.getElem?_eq_getElem kQ,fun e he hb=>?_⟩
   unfold nH DJ at uC
   simp only[Bool.and_eq_true,List.all_eq_true]at uC
   have hm:(ops[k],k)∈ops.toList.zipIdx:=by
    rw[List.mem_iff_getElem?]
    exact⟨k,by simp[List.getElem?_zipIdx,kQ]⟩
   have:=uC.1 _ hm
   rw[Array.all_eq_true_iff_forall_mem]at this
   have:=this e he
   simp only[hb,Bool.not_true,Bool.false_or,decide_eq_true_eq]at this
   simp[hl e.on (by omega),this]
  have hGS:∃v g',GS X n vo env g v g'/\wpOps X true r K (upd env vo.dst v) ⟨g',n⟩:=by
   unfold wpOps at hv
   unfold GS
   split at hv
   ·rename_i hw
    simp only[hw,if_true]
    exact Nw hv
   ·rename_i hw
    simp only[hw]
    exact⟨.undef,g,⟨rfl,rfl⟩,hv⟩
  obtain⟨v,g',h1,h2⟩:=hGS
  refine Dq uC hlen iU r.length listed env g g' qW Hx h1 ?_
  refine vQ uC hlen r (k+1) _ _ _ (fun j=>by have:=hr (j+1);simpa[Nat.add_assoc,Nat.add_comm 1 j]using this) (by simp[e5]) (fun i hi=>?_) (by omega) (qW.list Hx) h2
  by_cases xh:i=k
  ·subst xh;simp[e5,kQ]
  ·rw[Array.getElem?_setIfInBounds_ne (fun e=>xh e.symm),hl i hi]
   congr 1
   have:(i<k)=(i<k+1):=by apply propext;omega
   simp[this]
theorem nC {f:Nat->Oper->Option aL}:∀{l:List Oper} {vl:List aL} {j:Nat},allM f l j=some vl->vl.length=l.length/\∀(i:Nat) (o:Oper),l[i]? =some o->∃vo,vl[i]? =some vo/\f (j+i) o=some vo
 |[],vl,j,h=>by simp[allM]at h;subst h;simp
 |o::l,vl,j,h=>by
  simp only[allM,Option.bind_eq_bind,Option.bind_eq_some_iff,Option.pure_def,Option.some.injEq]at h
  obtain⟨vo,iU,r6,qZ,rfl⟩:=h
  obtain⟨h1,h2⟩:=nC qZ
  refine⟨by simp[h1],fun i o' hi=>?_⟩
  cases i with
  |zero=>simp at hi;subst hi;exact⟨vo,rfl,iU⟩
  |succ i=>
   simp at hi
   obtain⟨q,hq,hf⟩:=h2 i o' hi
   exact⟨q,by simpa using hq,by rw[<-hf];congr 1;omega⟩
theorem wS {ops:Array Oper} {vl:List aL} {nt site0:Nat} {draw mk:Bool} {bs:Array Nat} {hidden:List (Nat×Bool)} {n:Nat} {K:Env->Rows->Prop} {Q:Exit->Act->World->Prop} (dC:allM (km P ops nt site0 draw mk bs hidden) ops.toList 0=some vl):
  ∀(fuel:Nat) (listed:Array Bool) (env:Env) (g:Rows) (a:Act) (w:World) (D:Nat->Prop) (ι:Names) (U:Nat->Prop),IH (Sound P) n ops vl K fuel listed env g->fV P hs D ι g w->Used ι n U->(∀s,U s->∃i,s=site0+i/\listed.getD i false=true)->bw P w D ι env a->a.tmps.size=nt->
  (∀iw g' a' w' D' ι' U',K iw g'->Step hs D ι w D' ι' w'->fV P hs D' ι' g' w'->Used ι' n U'->bw P w' D' ι' iw a'->a'.tmps.size=nt->a'.defers=a.defers->Q .normal a' w')->wpAny P .any ops Q fuel listed a w:=by
 intro fuel
 induction fuel with
 |zero=>intro listed env g a w D ι U h S Us hU E e5 hQ;exact⟨h.1,hQ env g a w D ι U h.2 (Step.refl _ _ _ _) S Us E e5 rfl⟩
 |succ fuel ih=>
  intro listed env g a w D ι U h S Us hU E e5 hQ
  refine⟨fun hr=>hQ env g a w D ι U (h.1 hr) (Step.refl _ _ _ _) S Us E e5 rfl,fun i hi=>?_⟩
  obtain⟨vo,iU,v,g',hG,Lf⟩:=h.2 i hi
  obtain⟨_,o,ho,_⟩:=mem_ready.1 hi
  obtain⟨vo',lQ,OX⟩:=(nC dC).2 i o (by simpa using ho)
  rw[iU]at lQ;injection lQ with lQ;subst lQ
  rw[Nat.zero_add]at OX
  obtain⟨hc,hd,Ay,wq,hg⟩:=ou OX
  have hw:=r8 (ops:=ops) (vo:=vo) E hg
  have RN:¬U vo.site:=fun hu=>by
   obtain⟨i',he,hl⟩:=hU _ hu
   have:i'=i:=by omega
   subst this
   rw[iO hi]at hl;cases hl
  have jm:i<listed.size:=by
   have h0:=(mem_ready.1 hi).1
   rcases Nat.lt_or_ge i listed.size with h|h
   ·exact h
   ·simp[Array.getElem?_eq_none h]at h0
  unfold wpOp
  simp only[ho]
  rw[<-hw]
  unfold GS at hG
  by_cases Ff:aJ vo.guard env=true
  ·rw[if_pos Ff]
   rw[if_pos Ff]at hG
   refine .inl (zN hc hG S Us RN E fun a' w' ⟨u,D',ι',ha,T,S',hR,U'⟩=>?_)
   subst ha
   refine ih _ _ _ _ w' D' ι' _ Lf S' U' (fun s Av=>?_) (by rw[hd];exact ij (nI E T) hR wq e5) (by rw[eC];exact e5) fun iw g2 a2 w2 D2 ι2 U2 hk T2 S2 Rf E2 kf Cp=>hQ iw g2 a2 w2 D2 ι2 U2 hk (T.trans T2) S2 Rf E2 kf (Cp.trans (put_defers _ _ _))
   rcases Av with h|h
   ·obtain⟨i',he,hl⟩:=hU _ h
    exact⟨i',he,getD_set_true hl⟩
   ·exact⟨i,by rw[h,Ay],by simp[jm]⟩
  ·rw[if_neg Ff]
   rw[if_neg Ff]at hG
   obtain⟨rfl,rfl⟩:=hG
   refine ih _ _ _ _ w D ι U Lf S Us (fun s Av=>?_) (by rw[hd];exact ij E cq.undef wq e5) (by rw[eC];exact e5) fun iw g2 a2 w2 D2 ι2 U2 hk T2 S2 Rf E2 kf Cp=>hQ iw g2 a2 w2 D2 ι2 U2 hk T2 S2 Rf E2 kf (Cp.trans (put_defers _ _ _))
   obtain⟨i',he,hl⟩:=hU _ Av
   exact⟨i',he,getD_set_true hl⟩
end
end Go.Proofs.YtgoelphibofcmaaGreat.V

namespace Go.Proofs.YtgoelphibofcmaaGreat.V
open Go.RowKit
variable {P:Program} {w w':World} {D D' D2:Nat->Prop} {ι ι' ι2:Names}
section
variable {hs:Nat} {X:fq}
def o8 (X:fq):Prop:=∀f args σ K K',(∀r σ',K r σ'->K' r σ')->X f args σ K->X f args σ K'
theorem ki:o8 (Sound P):=fun _ _ _ _ _ hK h hs D ι w vs S U A=>
 (h hs D ι w vs S U A).mono fun _ _ ⟨r,g',n',D',ι',u,he,hk,rest⟩=>⟨r,g',n',D',ι',u,he,hK _ _ hk,rest⟩
def step (X:fq) (vo:aL) (N:Env->ar->Prop) (env:Env) (σ:ar):Prop:=
 if aJ vo.guard env then gu X false vo env σ fun v σ'=>N (upd env vo.dst v) σ' else N (upd env vo.dst .undef) σ
theorem pz (hK:o8 X) {draw:Bool} {hid:List Nat} {site f:Nat} {args:List AV} {σ:ar} {n n':AV->ar->Prop} (hn:∀v σ',n v σ'->n' v σ') (hp:cJ X draw hid site f args σ n):cJ X draw hid site f args σ n':=by
 rcases hp with⟨r,h1,h2⟩|⟨h1,h2⟩|⟨h1,sz,rows,h2,h3⟩
 ·exact .inl ⟨r,h1,hn _ _ h2⟩
 ·exact .inr (.inl ⟨h1,hK _ _ _ _ _ hn h2⟩)
 ·exact .inr (.inr ⟨h1,sz,rows,h2,hn _ _ h3⟩)
theorem Bn (hK:o8 X) {draw:Bool} {o:aL} {env:Env} {σ:ar} {n n':AV->ar->Prop} (hn:∀v σ',n v σ'->n' v σ') (hp:gu X draw o env σ n):gu X draw o env σ n':=by
 unfold gu at hp ⊢
 split at hp
 ·exact pz hK hn hp
 ·split at hp
  ·exact pz hK hn hp
  ·exact pz hK hn hp
  ·exact hp.elim
 ·split at hp
  ·exact hn _ _ hp
  ·exact hp.elim
 ·split at hp
  ·exact hn _ _ hp
  ·exact hp.elim
 ·split at hp
  ·exact hn _ _ hp
  ·exact hp.elim
 ·split at hp
  ·exact hn _ _ hp
  ·exact hp.elim
 ·split at hp
  ·exact hn _ _ hp
  ·exact hp.elim
 ·split at hp
  ·exact hn _ _ hp
  ·exact hn _ _ hp
  ·exact hp.elim
theorem jE (hK:o8 X) {vo:aL} {N N':Env->ar->Prop} (h:∀e s,N e s->N' e s) {env:Env} {σ:ar} (hp:step X vo N env σ):step X vo N' env σ:=by
 unfold step at hp ⊢
 split at hp
 ·rename_i hw;rw[if_pos hw];exact Bn hK (fun v σ'=>h _ _) hp
 ·rename_i hw;rw[if_neg hw];exact h _ _ hp
theorem Gc {env iH:Env} {vo:aL} {σ:ar} {n:AV->ar->Prop} (h:∀t∈vo.op.gh,env t=iH t) (hv:gu X false vo env σ n):gu X false vo iH σ n:=by
 unfold gu at hv ⊢
 split at hv
 ·rename_i f args dK
  rw[dK]at h
  simp only[fW.gh]at h
  rw[<-map_congr h];exact hv
 ·rename_i x args dK
  rw[dK]at h
  simp only[fW.gh,List.mem_append]at h
  rw[<-map_congr (l:=args) fun t ht=>h t (.inr ht),<-aM (x:=x) fun t ht=>h t (.inl ht)];exact hv
 ·rw[<-gF h];exact hv
 ·rw[<-gF h];exact hv
 ·rw[<-gF h];exact hv
 ·rw[<-gF h];exact hv
 ·rw[<-gF h];exact hv
 ·rw[<-rU h];exact hv
theorem lq {x:aL} (hq:kD x=true) {N:Env->ar->Prop} {env:Env} {σ:ar}:step X x N env σ↔∃v g',GS X σ.next x env σ.get v g'/\N (upd env x.dst v) ⟨g',σ.next⟩:=by
 unfold kD at hq
 simp only[Bool.and_eq_true,Bool.not_eq_true',bne_iff_ne]at hq
 obtain⟨Gl,JV⟩:=hq
 unfold step GS
 by_cases hw:aJ x.guard env=true
 ·rw[if_pos hw]
  simp only[hw,if_true]
  unfold gu
  split
  ·rename_i dK;simp[dK,fW.ly]at Gl
  ·rename_i dK;simp[dK,fW.ly]at Gl
  ·rename_i dK;simp[dK,fW.cls]at JV
  ·rename_i dK;simp[dK,fW.cls]at JV
  ·rename_i dK;simp[dK,fW.cls]at JV
  ·rename_i dK;simp[dK,fW.cls]at JV
  ·rename_i dK;simp[dK,fW.cls]at JV
  ·rename_i n1 n2 n3 n4 n5 n6 n7
   have hVS:∀v g',VS X σ.next x env σ.get v g'↔∃mr,eW x.op (cE env) (gQ x.hid σ.next σ.get) ⟨x.site,σ.next⟩=some (v,mr)/\g'=iV σ.get ⟨x.site,σ.next⟩ mr:=fun v g'=>by
    unfold VS
    split
    ·rename_i hh;exact(n1 _ _ hh).elim
    ·rename_i hh;exact(n2 _ _ hh).elim
    ·rename_i hh;exact(n3 _ _ _ hh).elim
    ·rename_i hh;exact(n4 _ _ _ hh).elim
    ·rename_i hh;exact(n5 _ _ _ hh).elim
    ·rename_i hh;exact(n6 _ _ hh).elim
    ·rename_i hh;exact(n7 _ _ hh).elim
    ·exact Iff.rfl
   simp only[hVS]
   cases hz:eW x.op (cE env) (gQ x.hid σ.next σ.get) ⟨x.site,σ.next⟩with
   |none=>
    exact⟨fun h=>h.elim,fun⟨v,g',⟨mr,h,_⟩,_⟩=>by cases h⟩
   |some p=>
    obtain⟨v,mr⟩:=p
    have key:∀(v':AV) (g':Rows),(∃Ou,some (v,mr)=some (v',Ou)/\g'=iV σ.get ⟨x.site,σ.next⟩ Ou)↔v'=v/\g'=iV σ.get ⟨x.site,σ.next⟩ mr:=fun v' g'=>by
     constructor
     ·rintro⟨Ou,h1,h2⟩
      injection h1 with h1;injection h1 with h1 h3
      subst h1;subst h3
      exact⟨rfl,h2⟩
     ·rintro⟨rfl,rfl⟩;exact⟨mr,rfl,rfl⟩
    have fin:(∃v' g',(∃Ou,some (v,mr)=some (v',Ou)/\g'=iV σ.get ⟨x.site,σ.next⟩ Ou)/\N (upd env x.dst v') ⟨g',σ.next⟩)↔N (upd env x.dst v) ⟨iV σ.get ⟨x.site,σ.next⟩ mr,σ.next⟩:=by
     constructor
     ·rintro⟨v',g',h,hN⟩
      obtain⟨rfl,rfl⟩:=(key v' g').1 h
      exact hN
     ·intro hN;exact⟨v,_,(key _ _).2 ⟨rfl,rfl⟩,hN⟩
    cases mr with
    |none=>exact fin.symm
    |some r=>exact fin.symm
 ·rw[if_neg hw]
  simp only[if_neg hw]
  exact⟨fun h=>⟨_,_,⟨rfl,rfl⟩,h⟩,fun⟨v,g',⟨hv,hg⟩,h⟩=>by rw[hv,hg]at h;exact h⟩
def xv (x:aL) (env:Env) (v:AV):Prop:=if aJ x.guard env then eW x.op (cE env) (fun _=>none) ⟨0,0⟩=some (v,none)else v=.undef
theorem u9 {x:aL} (hp:x.op.cls=.pure):kD x=true:=by
 unfold kD
 rw[hp]
 cases hc:x.op<;>simp[hc,fW.cls]at hp<;>rfl
theorem rY {x:aL} (hp:x.op.cls=.pure) {N:Env->ar->Prop} {env:Env} {σ:ar}:step X x N env σ↔∃v,xv x env v/\N (upd env x.dst v) σ:=by
 rw[lq (u9 hp)]
 unfold GS xv
 by_cases hw:aJ x.guard env=true
 ·simp only[hw,if_true]
  constructor
  ·rintro⟨v,g',h,hN⟩
   obtain⟨rfl,dC⟩:=xV hp h
   refine⟨v,?_,hN⟩
   unfold VS at h
   split at h
   ·rename_i dK;rw[dK]at hp;simp[fW.cls]at hp
   ·rename_i dK;rw[dK]at hp;simp[fW.cls]at hp
   ·rename_i dK;rw[dK]at hp;simp[fW.cls]at hp
   ·rename_i dK;rw[dK]at hp;simp[fW.cls]at hp
   ·rename_i dK;rw[dK]at hp;simp[fW.cls]at hp
   ·rename_i dK;rw[dK]at hp;simp[fW.cls]at hp
   ·rename_i dK;rw[dK]at hp;simp[fW.cls]at hp
   ·obtain⟨mr,hq,_⟩:=h
    have Sg:mr=none:=by
     cases mr with
     |none=>rfl
     |some r=>have:=vg hq;simp[pQ,hp]at this
    subst Sg
    rw[<-vh (g:=gQ x.hid σ.next σ.get) (id:=⟨x.site,σ.next⟩) hp];exact hq
  ·rintro⟨v,h,hN⟩
   exact⟨v,σ.get,LJ (mr:=none) (by rw[vh (g2:=fun _=>none) (id2:=⟨0,0⟩) hp];exact h),hN⟩
 ·simp only[if_neg hw]
  exact⟨fun⟨v,g',⟨hv,hg⟩,h⟩=>⟨v,hv,by rw[hg]at h;exact h⟩,fun⟨v,hv,h⟩=>⟨v,σ.get,⟨hv,rfl⟩,h⟩⟩
theorem IU {x:aL} {env iH:Env} {v:AV} (h:∀t∈x.gh,env t=iH t) (hv:xv x env v):xv x iH v:=by
 unfold xv at hv ⊢
 rw[<-mH h,<-rU fun t ht=>h t (qM ht)];exact hv
structure KR (x y:aL):Prop where
 xy:∀k,x.dst=some k->k∉y.gh
 yx:∀k,y.dst=some k->k∉x.gh
 dst:∀k,x.dst=some k->y.dst≠some k
theorem qR {x y:aL} (h:r5 x y=true):KR x y:=by
 unfold r5 at h
 simp only[Bool.and_eq_true]at h
 obtain⟨a1,a2⟩:=h
 refine⟨fun k hk=>?_,fun k hk=>?_,fun k hk=>?_⟩
 ·rw[hk]at a1;simp at a1;exact a1.1
 ·rw[hk]at a2;simpa using a2
 ·rw[hk]at a1;simp at a1;exact a1.2
theorem xf {x y:aL} (h:xe x y=true):(KR x y/\x.op.cls=.pure)∨(BJ x y/\kD x=true/\kD y=true):=by
 unfold xe at h
 simp only[Bool.or_eq_true,Bool.and_eq_true,beq_iff_eq]at h
 rcases h with⟨h1,h2⟩|⟨⟨h1,h2⟩,h3⟩
 ·exact .inl ⟨qR h1,h2⟩
 ·exact .inr ⟨pD h1,h2,h3⟩
theorem Ae {x y:aL} (h:xe x y=true):kD x=true:=by
 rcases xf h with h|h
 ·exact u9 h.2
 ·exact h.2.1
theorem FX (hK:o8 X) {x y:aL} (hf:xe x y=true) {N:Env->ar->Prop} {env:Env} {σ:ar} (h:step X x (fun e s=>step X y N e s) env σ):step X y (fun e s=>step X x N e s) env σ:=by
 rcases xf hf with⟨F,hp⟩|⟨F,hx,hy⟩
 ·rw[rY hp]at h
  obtain⟨v,hx,h⟩:=h
  have Li:=fun(v':AV)=>vP (env:=env) (v:=v) (u:=v') F.dst
  have Az:=lY (env:=env) (v:=v) F.xy
  have back:∀(v':AV),xv x (upd env y.dst v') v:=fun v'=>IU (fun t ht=>(lY F.yx t ht).symm) hx
  unfold step at h ⊢
  rw[mH Az]at h
  split at h
  ·rename_i hw
   rw[if_pos hw]
   refine Bn hK (fun v' σ' hN=>?_) (Gc (fun t ht=>Az t (qM ht)) h)
   rw[Li]at hN
   exact(rY hp).2 ⟨v,back v',hN⟩
  ·rename_i hw
   rw[if_neg hw]
   rw[Li]at h
   exact(rY hp).2 ⟨v,back _,h⟩
 ·rw[lq hx]at h
  obtain⟨v,g1,h1,h⟩:=h
  rw[lq hy]at h
  obtain⟨v',g2,h2,h⟩:=h
  obtain⟨JD,q1,q2,q3⟩:=Du F h1 h2
  rw[q3]at h
  exact(lq hy).2 ⟨v',JD,q1,(lq hx).2 ⟨v,g2,q2,h⟩⟩
def zr (X:fq) (ops:Array Oper) (vl:List aL) (K:Env->ar->Prop):Nat->Array Bool->Env->ar->Prop
 |0,listed,env,σ=>Region.ready .any ops listed=[]/\K env ⟨σ.get,σ.next+1⟩
 |f+1,listed,env,σ=>(Region.ready .any ops listed=[]->K env ⟨σ.get,σ.next+1⟩)/\∀i∈Region.ready .any ops listed,∃vo,vl[i]? =some vo/\step X vo (fun e s=>zr X ops vl K f (listed.setIfInBounds i true) e s) env σ
theorem Cf {ops:Array Oper} {vl:List aL} {bs:Array Nat} {listed:Array Bool} {i:Nat} (h:pC ops vl bs listed i=true) (j:Nat):pC ops vl bs (listed.setIfInBounds j true) i=true:=by
 unfold pC at h ⊢
 split at h
 ·rename_i x hx
  simp only[List.all_eq_true,Bool.or_eq_true]at h ⊢
  intro k hk
  rcases h k hk with((h|h)|h)|h
  ·exact .inl (.inl (.inl (getD_set_true h)))
  ·exact .inl (.inl (.inr h))
  ·exact .inl (.inr h)
  ·exact .inr h
 ·cases h
theorem sq {ops:Array Oper} {vl:List aL} {listed:Array Bool} {i j:Nat} {vi:aL} (qW:DC ops listed) (h:pC ops vl (jk ops) listed i=true) (hi:vl[i]? =some vi) (hr:i∈Region.ready .any ops listed) (hj:j∈Region.ready .any ops listed) (l6:j≠i):∃vj,vl[j]? =some vj/\xe vi vj=true:=by
 unfold pC at h
 rw[hi]at h
 simp only[List.all_eq_true,Bool.or_eq_true,beq_iff_eq]at h
 obtain⟨_,o,ho,_⟩:=mem_ready.1 hj
 rcases h j (List.mem_range.2 (Array.getElem?_eq_some_iff.1 ho).1)with((h|h)|h)|h
 ·rw[iO hj]at h;cases h
 ·exact absurd h l6
 ·have:=kE qW hj i h
  rw[iO hr]at this;cases this
 ·split at h
  ·rename_i y hy;exact⟨y,hy,h⟩
  ·cases h
theorem Ds (hK:o8 X) {ops:Array Oper} {vl:List aL} {K:Env->ar->Prop} {i:Nat} {vi:aL} (hi:vl[i]? =some vi):∀(fuel:Nat) (listed:Array Bool) (env:Env) (σ:ar),
  DC ops listed->i∈Region.ready .any ops listed->pC ops vl (jk ops) listed i=true->step X vi (fun e s=>zr X ops vl K fuel (listed.setIfInBounds i true) e s) env σ->zr X ops vl K (fuel+1) listed env σ:=by
 intro fuel
 induction fuel with
 |zero=>
  intro listed env σ qW hr jl H
  refine⟨fun h=>(by rw[h]at hr;cases hr),fun j hj=>?_⟩
  by_cases l6:j=i
  ·subst l6;exact⟨vi,hi,H⟩
  ·obtain⟨vj,J0,O8⟩:=sq qW jl hi hr hj l6
   rw[lq (Ae O8)]at H
   obtain⟨v,g',_,H⟩:=H
   have:=ready_mono hj l6
   rw[H.1]at this;cases this
 |succ fuel ih=>
  intro listed env σ qW hr jl H
  refine⟨fun h=>(by rw[h]at hr;cases hr),fun j hj=>?_⟩
  by_cases l6:j=i
  ·subst l6;exact⟨vi,hi,H⟩
  ·obtain⟨vj,J0,O8⟩:=sq qW jl hi hr hj l6
   refine⟨vj,J0,?_⟩
   have H2:step X vi (fun e s=>step X vj (fun e s=>zr X ops vl K fuel ((listed.setIfInBounds i true).setIfInBounds j true) e s) e s) env σ:=jE hK (fun e s h=>by
    obtain⟨vj',yw,h'⟩:=h.2 j (ready_mono hj l6)
    rw[J0]at yw;injection yw with yw;subst yw
    exact h') H
   refine jE hK (fun e s h=>?_) (FX hK O8 H2)
   refine ih _ _ _ (qW.list hj) (ready_mono hr (fun e=>l6 e.symm)) (Cf jl j) ?_
   rw[Array.setIfInBounds_comm _ _ l6]
   exact h
theorem rX {x:aL} (hg:x.guard=none) {N:Env->ar->Prop} {env:Env} {σ:ar}:step X x N env σ=gu X false x env σ (fun v σ'=>N (upd env x.dst v) σ'):=by
 unfold step
 rw[hg]
 simp[aJ]
theorem Dc {x y:aL} {t s sz:Nat} {ys:O} (hx:x.op=.append sz (.t t) ys) (hg:x.guard=none) (hf:DP s x y=true) {N:Env->ar->Prop} {env:Env} {σ:ar} (hl:Ke t s ys env σ.next) (h:step X x (fun e s=>step X y N e s) env σ):
  step X y (fun e σ'=>Ke t s ys e σ'.next/\step X x N e σ') env σ:=by
 unfold DP at hf
 simp only[Bool.and_eq_true,bne_iff_ne]at hf
 obtain⟨⟨⟨⟨⟨f1,hq⟩,f3⟩,f4⟩,f5⟩,f6⟩:=hf
 have F:=qR f1
 obtain⟨⟨len,ht⟩,hsrc⟩:=hl
 have HA:∀k∈x.op.gh,∀v',upd env y.dst v' k=env k:=fun k hk v'=>lY (env:=env) (v:=v') F.yx k (qM hk)
 have cK:t∈x.op.gh:=by rw[hx];simp[fW.gh,gr]
 have D9:∀v',cE (upd env y.dst v') ys=cE env ys:=fun v'=>(aM fun k hk=>by rw[HA k (by rw[hx];simp[fW.gh,hk])]).symm
 rw[rX hg]at h
 unfold gu at h
 simp only[hx,gR]at h
 have ex:cE env (.t t)=.own ⟨s,σ.next⟩ 0 len:=ht
 rw[ex]at h
 cases hr:bE σ.get (cE env ys)with
 |none=>rw[hr]at h;exact h.elim
 |some rs=>
  rw[hr]at h
  simp only[Option.bind_some,aY]at h
  cases hgs:σ.get ⟨s,σ.next⟩with
  |none=>rw[hgs]at h;exact h.elim
  |some r=>
   rw[hgs]at h
   simp only[Option.bind_some]at h
   split at h
   ·rename_i v g1 hv
    split at hv
    ·rename_i hcond
     simp only[Option.some.injEq,Prod.mk.injEq]at hv
     obtain⟨rfl,rfl⟩:=hv
     rw[lq hq]at h
     obtain⟨v',g2,hG,hN⟩:=h
     have Fa:(⟨y.site,σ.next⟩:Id)≠⟨s,σ.next⟩:=fun e=>f5 (by injection e)
     have Ho:(⟨y.site,σ.next⟩:Id)≠⟨x.site,σ.next⟩:=fun e=>f6 (by injection e)
     replace hG:GS X σ.next y env (bB (cr σ.get ⟨s,σ.next⟩) ⟨x.site,σ.next⟩ ⟨true,sz,r.rows++rs⟩) v' g2:=tN (lY F.xy) hG
     have SF:gQ y.hid σ.next σ.get=gQ y.hid σ.next (bB (cr σ.get ⟨s,σ.next⟩) ⟨x.site,σ.next⟩ ⟨true,sz,r.rows++rs⟩):=by
      cases hh:y.hid with
      |nil=>rw[hh]at f3;simp at f3
      |cons a l=>
       rw[hh]at f3 f4
       funext i
       show(if (a::l).contains i.site=true/\i.aW=σ.next then none else σ.get i)=if (a::l).contains i.site=true/\i.aW=σ.next then none else _
       by_cases h1:i=⟨x.site,σ.next⟩
       ·subst h1;rw[if_pos ⟨f4,rfl⟩,if_pos ⟨f4,rfl⟩]
       ·by_cases h2:i=⟨s,σ.next⟩
        ·subst h2;rw[if_pos ⟨f3,rfl⟩,if_pos ⟨f3,rfl⟩]
        ·simp only[bB,cr,if_neg h1,if_neg h2]
     obtain⟨my,R5,hG'⟩:∃my,g2=iV (bB (cr σ.get ⟨s,σ.next⟩) ⟨x.site,σ.next⟩ ⟨true,sz,r.rows++rs⟩) ⟨y.site,σ.next⟩ my/\GS X σ.next y env σ.get v' (iV σ.get ⟨y.site,σ.next⟩ my):=by
      unfold GS at hG ⊢
      by_cases wy:aJ y.guard env=true
      ·rw[if_pos wy]at hG
       have hcw:y.op.cls≠.write:=by
        unfold kD at hq
        simp only[Bool.and_eq_true,bne_iff_ne]at hq
        exact hq.2
       obtain⟨my,rfl,_,LM⟩:=tT hcw hG
       exact⟨my,rfl,by rw[if_pos wy];exact LM _ SF⟩
      ·rw[if_neg wy]at hG
       obtain⟨rfl,rfl⟩:=hG
       exact⟨none,rfl,by rw[if_neg wy];exact⟨rfl,rfl⟩⟩
     subst R5
     refine(lq hq).2 ⟨v',_,hG',⟨⟨len,by rw[HA t cK];exact ht⟩,fun id o l he=>hsrc id o l (by rw[<-D9 v'];exact he)⟩,?_⟩
     rw[rX hg]
     unfold gu
     have ex':cE (upd env y.dst v') (.t t)=.own ⟨s,σ.next⟩ 0 len:=by
      show upd env y.dst v' t= _
      rw[HA t cK];exact ht
     simp only[hx,gR,ex',D9 v']
     have wz:bE (iV σ.get ⟨y.site,σ.next⟩ my) (cE env ys)=some rs:=by
      cases my with
      |none=>exact hr
      |some row=>
       revert hr
       cases hev:cE env ys<;>simp only[bE,iV]<;>try exact fun h=>h
       rename_i id o l
       have:id≠⟨y.site,σ.next⟩:=fun e=>hsrc id o l hev (by rw[e])
       simp only[bB,if_neg this];exact fun h=>h
     have R7:iV σ.get ⟨y.site,σ.next⟩ my ⟨s,σ.next⟩=some r:=by
      cases my with
      |none=>exact hgs
      |some row=>simp only[iV,bB,if_neg (fun e=>Fa e.symm:(⟨s,σ.next⟩:Id)≠⟨y.site,σ.next⟩)];exact hgs
     rw[wz]
     simp only[Option.bind_some,aY,R7]
     rw[if_pos hcond]
     have hgg:bB (cr (iV σ.get ⟨y.site,σ.next⟩ my) ⟨s,σ.next⟩) ⟨x.site,σ.next⟩ ⟨true,sz,r.rows++rs⟩=iV (bB (cr σ.get ⟨s,σ.next⟩) ⟨x.site,σ.next⟩ ⟨true,sz,r.rows++rs⟩) ⟨y.site,σ.next⟩ my:=by
      cases my with
      |none=>rfl
      |some row=>
       funext i
       simp only[iV,bB,cr]
       by_cases h1:i=⟨y.site,σ.next⟩
       ·subst h1;rw[if_neg Ho,if_neg Fa,if_pos rfl,if_pos rfl]
       ·simp only[if_neg h1]
     have hu:=vP (env:=env) (v:=AV.own ⟨x.site,σ.next⟩ 0 (len+rs.length)) (u:=v') F.dst
     show N (upd (upd env y.dst v') x.dst (.own ⟨x.site,σ.next⟩ 0 (len+rs.length))) ⟨bB (cr (iV σ.get ⟨y.site,σ.next⟩ my) ⟨s,σ.next⟩) ⟨x.site,σ.next⟩ ⟨true,sz,r.rows++rs⟩,σ.next⟩
     rw[hgg,<-hu]
     exact hN
    ·cases hv
   ·exact h.elim
theorem Ce {ops:Array Oper} {vl:List aL} {bs:Array Nat} {listed:Array Bool} {i s:Nat} (h:nK ops vl bs listed i s=true) (j:Nat):nK ops vl bs (listed.setIfInBounds j true) i s=true:=by
 unfold nK at h ⊢
 split at h
 ·rename_i x hx
  simp only[List.all_eq_true,Bool.or_eq_true]at h ⊢
  intro k hk
  rcases h k hk with((h|h)|h)|h
  ·exact .inl (.inl (.inl (getD_set_true h)))
  ·exact .inl (.inl (.inr h))
  ·exact .inl (.inr h)
  ·exact .inr h
 ·cases h
theorem Ac {ops:Array Oper} {vl:List aL} {listed:Array Bool} {i j s:Nat} {vi:aL} (qW:DC ops listed) (h:nK ops vl (jk ops) listed i s=true) (hi:vl[i]? =some vi) (hr:i∈Region.ready .any ops listed) (hj:j∈Region.ready .any ops listed) (l6:j≠i):∃vj,vl[j]? =some vj/\DP s vi vj=true:=by
 unfold nK at h
 rw[hi]at h
 simp only[List.all_eq_true,Bool.or_eq_true,beq_iff_eq]at h
 obtain⟨_,o,ho,_⟩:=mem_ready.1 hj
 rcases h j (List.mem_range.2 (Array.getElem?_eq_some_iff.1 ho).1)with((h|h)|h)|h
 ·rw[iO hj]at h;cases h
 ·exact absurd h l6
 ·have:=kE qW hj i h
  rw[iO hr]at this;cases this
 ·split at h
  ·rename_i y hy;exact⟨y,hy,h⟩
  ·cases h
theorem Bo (hK:o8 X) {ops:Array Oper} {vl:List aL} {K:Env->ar->Prop} {i t s sz:Nat} {ys:O} {vi:aL} (hi:vl[i]? =some vi) (hx:vi.op=.append sz (.t t) ys) (hg:vi.guard=none):∀(fuel:Nat) (listed:Array Bool) (env:Env) (σ:ar),
  DC ops listed->i∈Region.ready .any ops listed->nK ops vl (jk ops) listed i s=true->Ke t s ys env σ.next->step X vi (fun e s=>zr X ops vl K fuel (listed.setIfInBounds i true) e s) env σ->zr X ops vl K (fuel+1) listed env σ:=by
 intro fuel
 induction fuel with
 |zero=>
  intro listed env σ qW hr jl N6 H
  refine⟨fun h=>(by rw[h]at hr;cases hr),fun j hj=>?_⟩
  by_cases l6:j=i
  ·subst l6;exact⟨vi,hi,H⟩
  ·exfalso
   have h0:=ready_mono hj l6
   rw[rX hg]at H
   unfold gu at H
   simp only[hx]at H
   split at H
   ·rw[H.1]at h0;cases h0
   ·exact H
 |succ fuel ih=>
  intro listed env σ qW hr jl N6 H
  refine⟨fun h=>(by rw[h]at hr;cases hr),fun j hj=>?_⟩
  by_cases l6:j=i
  ·subst l6;exact⟨vi,hi,H⟩
  ·obtain⟨vj,J0,O8⟩:=Ac qW jl hi hr hj l6
   refine⟨vj,J0,?_⟩
   have H2:step X vi (fun e s=>step X vj (fun e s=>zr X ops vl K fuel ((listed.setIfInBounds i true).setIfInBounds j true) e s) e s) env σ:=jE hK (fun e s h=>by
    obtain⟨vj',yw,h'⟩:=h.2 j (ready_mono hj l6)
    rw[J0]at yw;injection yw with yw;subst yw
    exact h') H
   refine jE hK (fun e s h=>?_) (Dc hx hg O8 N6 H2)
   refine ih _ _ _ (qW.list hj) (ready_mono hr (fun e=>l6 e.symm)) (Ce jl j) h.1 ?_
   rw[Array.setIfInBounds_comm _ _ l6]
   exact h.2
theorem HN {ops:Array Oper} {vl:List aL} {bs:Array Nat} {listed:Array Bool} {i i' t s:Nat} {y:O} {vo:aL} (h:M3 ops vl bs listed i=some (i',t,s,y,vo)):i'=i/\vl[i]? =some vo/\(∃sz,vo.op=.append sz (.t t) y)/\vo.guard=none/\nK ops vl bs listed i s=true:=by
 unfold M3 at h
 split at h
 ·rename_i x hx
  split at h
  ·rename_i t' s' y' jV
   split at h
   ·rename_i hf
    simp only[Option.some.injEq,Prod.mk.injEq]at h
    obtain⟨rfl,rfl,rfl,rfl,rfl⟩:=h
    unfold Lq at jV
    split at jV
    ·rename_i sz t2 y2 ho tu
     split at jV
     ·simp only[Option.some.injEq,Prod.mk.injEq]at jV
      obtain⟨rfl,rfl,rfl⟩:=jV
      exact⟨rfl,hx,⟨sz,ho⟩,tu,hf⟩
     ·cases jV
    ·cases jV
   ·cases h
  ·cases h
 ·cases h
theorem w5 {X:fq} {Q:Ex->Env->ar->Prop} {env:Env} {σ:ar}:∀{l:List VC} {t:VC},zT l=some t->dI X t Q env σ->∀c∈l,dI X c Q env σ
 |[],t,h,_,c,hc=>by cases hc
 |[c0],t,h,hw,c,hc=>by
  simp only[zT,Option.some.injEq]at h
  subst h
  rw[List.mem_singleton]at hc
  subst hc;exact hw
 |c0::c1::r,t,h,hw,c,hc=>by
  simp only[zT,Option.map_eq_some_iff]at h
  obtain⟨t',Gm,rfl⟩:=h
  rcases List.mem_cons.1 hc with rfl|hc
  ·exact hw.1
  ·exact w5 Gm hw.2 c hc
theorem mapM_mem {α β:Type} {f:α->Option β}:∀{l:List α} {r:List β},l.mapM f=some r->∀i∈l,∃b∈r,f i=some b
 |[],_,_,i,hi=>by cases hi
 |a::l,r,h,i,hi=>by
  simp only[List.mapM_cons,Option.bind_eq_bind,Option.bind_eq_some_iff,Option.pure_def,Option.some.injEq]at h
  obtain⟨b,hb,r',hr,rfl⟩:=h
  rcases List.mem_cons.1 hi with rfl|hi
  ·exact⟨b,by simp,hb⟩
  ·obtain⟨c,hc,hf⟩:=mapM_mem hr i hi
   exact⟨c,List.mem_cons_of_mem _ hc,hf⟩
theorem F9 (hK:o8 X) {ops:Array Oper} {vl:List aL} {Q:Ex->Env->ar->Prop}:∀(n:Nat) (listed:Array Bool) (t:VC) (env:Env) (σ:ar),vO ops vl (jk ops) n listed=some t->DC ops listed->dI X t Q env σ->zr X ops vl (Q .normal) n listed env σ:=by
 intro n
 induction n with
 |zero=>
  intro listed t env σ h _ hw
  unfold vO at h
  split at h
  ·rename_i hr
   simp only[Option.some.injEq]at h
   subst h
   exact⟨hr,hw⟩
  ·cases h
 |succ n ih=>
  intro listed t env σ h qW hw
  unfold vO at h
  split at h
  ·rename_i hr
   simp only[Option.some.injEq]at h
   subst h
   exact⟨fun _=>hw,fun i hi=>by rw[hr]at hi;cases hi⟩
  ·rename_i r rs hr
   dsimp only at h
   split at h
   ·rename_i i hfind
    have JN:=List.mem_of_find?_eq_some hfind
    have xg:=List.find?_some hfind
    rw[<-hr]at JN
    split at h
    ·rename_i vo iU
     simp only[Option.map_eq_some_iff]at h
     obtain⟨t',Gm,rfl⟩:=h
     exact Ds hK iU n listed env σ qW JN xg (jE hK (fun e s h=>ih _ _ _ _ Gm (qW.list JN) h) hw)
    ·cases h
   ·split at h
    ·rename_i i t s y vo hfind
     obtain⟨i0,Gi,dy⟩:=List.exists_of_findSome?_eq_some hfind
     obtain⟨rfl,iU,⟨sz,dK⟩,tu,JK⟩:=HN dy
     rw[<-hr]at Gi
     simp only[Option.map_eq_some_iff]at h
     obtain⟨t',Gm,rfl⟩:=h
     exact Bo hK iU dK tu n listed env σ qW Gi JK hw.1 (jE hK (fun e s h=>ih _ _ _ _ Gm (qW.list Gi) h) hw.2)
    split at h
    ·rename_i l hl
     have dC:=w5 h hw
     refine⟨fun h=>(by rw[h]at hr;cases hr),fun i hi=>?_⟩
     rw[hr]at hi
     obtain⟨b,K4,Hd⟩:=mapM_mem hl i hi
     simp only[Option.bind_eq_some_iff,Option.map_eq_some_iff]at Hd
     obtain⟨vo,iU,t',Gm,rfl⟩:=Hd
     exact⟨vo,iU,jE hK (fun e s h=>ih _ _ _ _ Gm (qW.list (by rw[hr];exact hi)) h) (dC _ K4)⟩
    ·cases h
theorem Dn {ops:Array Oper} {vl:List aL} {nt site0:Nat} {draw mk:Bool} {bs:Array Nat} {hidden:List (Nat×Bool)} {K:Env->ar->Prop} {Q:Exit->Act->World->Prop} (dC:allM (km P ops nt site0 draw mk bs hidden) ops.toList 0=some vl):
  ∀(fuel:Nat) (listed:Array Bool) (env:Env) (σ:ar) (a:Act) (w:World) (D:Nat->Prop) (ι:Names) (U:Nat->Prop),zr (Sound P) ops vl K fuel listed env σ->fV P hs D ι σ.get w->Used ι σ.next U->(∀s,U s->∃i,s=site0+i/\listed.getD i false=true)->bw P w D ι env a->a.tmps.size=nt->
  (∀iw σ' a' w' D' ι',K iw σ'->Step hs D ι w D' ι' w'->St P hs nt D' ι' iw σ' a' w'->a'.defers=a.defers->σ.next<=σ'.next->Q .normal a' w')->wpAny P .any ops Q fuel listed a w:=by
 intro fuel
 induction fuel with
 |zero=>intro listed env σ a w D ι U h S Us hU E e5 hQ;exact⟨h.1,hQ env _ a w D ι h.2 (Step.refl _ _ _ _) ⟨S,Us.next,E,e5⟩ rfl (Nat.le_succ _)⟩
 |succ fuel ih=>
  intro listed env σ a w D ι U h S Us hU E e5 hQ
  refine⟨fun hr=>hQ env _ a w D ι (h.1 hr) (Step.refl _ _ _ _) ⟨S,Us.next,E,e5⟩ rfl (Nat.le_succ _),fun i hi=>?_⟩
  obtain⟨vo,iU,hG⟩:=h.2 i hi
  obtain⟨_,o,ho,_⟩:=mem_ready.1 hi
  obtain⟨vo',lQ,OX⟩:=(nC dC).2 i o (by simpa using ho)
  rw[iU]at lQ;injection lQ with lQ;subst lQ
  rw[Nat.zero_add]at OX
  obtain⟨hc,hd,Ay,wq,hg⟩:=ou OX
  have hw:=r8 (ops:=ops) (vo:=vo) E hg
  have RN:¬U vo.site:=fun hu=>by
   obtain⟨i',he,hl⟩:=hU _ hu
   have:i'=i:=by omega
   subst this
   rw[iO hi]at hl;cases hl
  have jm:i<listed.size:=by
   have h0:=(mem_ready.1 hi).1
   rcases Nat.lt_or_ge i listed.size with h|h
   ·exact h
   ·simp[Array.getElem?_eq_none h]at h0
  unfold wpOp
  simp only[ho]
  rw[<-hw]
  unfold step at hG
  by_cases Ff:aJ vo.guard env=true
  ·rw[if_pos Ff]
   rw[if_pos Ff]at hG
   refine .inl (xQ hc hG S Us RN E fun v σ' u D' ι' w' hn T S' hR U' hle=>?_)
   refine ih _ _ _ _ w' D' ι' _ hn S' U' (fun s Av=>?_) (by rw[hd];exact ij (nI E T) hR wq e5) (by rw[eC];exact e5) fun iw σ2 a2 w2 D2 ι2 hk T2 MT Cp lx=>hQ iw σ2 a2 w2 D2 ι2 hk (T.trans T2) MT (Cp.trans (put_defers _ _ _)) (Nat.le_trans hle lx)
   rcases Av with h|h
   ·obtain⟨i',he,hl⟩:=hU _ h
    exact⟨i',he,getD_set_true hl⟩
   ·exact⟨i,by rw[h,Ay],by simp[jm]⟩
  ·rw[if_neg Ff]
   rw[if_neg Ff]at hG
   refine ih _ _ _ _ w D ι U hG S Us (fun s Av=>?_) (by rw[hd];exact ij E cq.undef wq e5) (by rw[eC];exact e5) fun iw σ2 a2 w2 D2 ι2 hk T2 MT Cp lx=>hQ iw σ2 a2 w2 D2 ι2 hk T2 MT (Cp.trans (put_defers _ _ _)) lx
   obtain⟨i',he,hl⟩:=hU _ Av
   exact⟨i',he,getD_set_true hl⟩
end
end Go.Proofs.YtgoelphibofcmaaGreat.V

namespace Go.Proofs.YtgoelphibofcmaaGreat.V
open Go.RowKit
variable {P:Program} {w w':World} {D D' D2:Nat->Prop} {ι ι' ι2:Names}
def zA (P:Program) (c:Code) (Q:Exit->Act->World->Prop) (a:Act) (w:World):Prop:=
 ∀(b:Frame) (k:List Item) (cs:List Frame),b.kind≠.early->∃e a' w',Q e a' w'/\Arrives P (lone (b.at a (.code c::k)) cs w) b k cs e a' w'
section
variable {Q:Exit->Act->World->Prop} {a:Act}
theorem j0 {c:Code} (h:c.wp P Q a w):zA P c Q a w:=fun b k cs _=>h b k cs
theorem lp {x y:Code} (h:zA P x (Exit.then (zA P y Q) Q) a w):zA P (.seq x y) Q a w:=by
 intro b k cs hb
 obtain⟨e,a1,w1,hq,jz⟩:=h b (.code y::k) cs hb
 by_cases he:e=.normal
 ·subst he
  obtain⟨e2,a2,w2,JV,Hc⟩:=hq b k cs hb
  exact⟨e2,a2,w2,JV,.of_steps (.head step_seq jz) Hc⟩
 ·refine⟨e,a1,w1,?_,.of_steps (.one step_seq) (.pass (x:=.code y) rfl (fun _ _=>.inl he) jz)⟩
  cases e<;>first|exact absurd rfl he|exact hq
theorem uV {c:Operand} {x y:Code} {t:Bool} (hc:a.eval c=.bool t) (h:zA P (if t then x else y) Q a w):zA P (.cond c x y) Q a w:=
 fun b k cs hb=>let ⟨e,a',w',q,r⟩:=h b k cs hb;⟨e,a',w',q,.of_steps (.one (step_cond hc)) r⟩
theorem rR {id:Nat} {c:Code} (h:zA P c (Exit.inBlock id Q) a w):zA P (.block id c) Q a w:=by
 intro b k cs hb
 obtain⟨e,a1,w1,hq,jz⟩:=h b (.inBlock id::k) cs hb
 cases e with
 |normal=>exact⟨.normal,a1,w1,hq,.head step_block (Steps.trans jz (.one step_inBlock))⟩
 |exit jR=>
  by_cases hid:jR=id
  ·simp only[Exit.inBlock,hid,if_true]at hq
   exact⟨.normal,a1,w1,hq,.head step_block (jz k (by simp[exitTo,hid]))⟩
  ·simp only[Exit.inBlock,hid,if_false]at hq
   exact⟨.exit jR,a1,w1,hq,fun k' hk=>.head step_block (jz k' (by simp[exitTo,Ne.symm hid,hk]))⟩
 |goto l=>exact⟨_,a1,w1,hq,fun k' hk=>.head step_block (jz k' (by simp[gotoIn,hk]))⟩
 |ret=>exact⟨_,a1,w1,hq,.of_steps (.one step_block) jz⟩
 |panic ch=>exact⟨_,a1,w1,hq,.of_steps (.one step_block) jz⟩
 |outgrown=>exact⟨_,a1,w1,hq,.of_steps (b:=b) (k:=k) (cs:=cs) (e:=.outgrown) (.one step_block) jz⟩
def oD (P:Program) (c:Code) (Q:Exit->Act->World->Prop):Nat->Act->World->Prop
 |0=>fun _ _=>False
 |n+1=>zA P c (Exit.then (oD P c Q n) Q)
theorem A4 {c:Code} (n:Nat) (h:oD P c Q n a w):zA P (.loop c) Q a w:=by
 intro b k cs hb
 have key:∀n a w,oD P c Q n a w->∃e a' w',Q e a' w'/\Arrives P (lone (b.at a (.code c::.inLoop c::k)) cs w) b k cs e a' w':=by
  intro n
  induction n with
  |zero=>intro a w h;exact h.elim
  |succ n ih=>
   intro a w h
   obtain⟨e,a1,w1,hq,jz⟩:=h b (.inLoop c::k) cs hb
   by_cases he:e=.normal
   ·subst he
    obtain⟨e2,a2,w2,JV,Hc⟩:=ih a1 w1 hq
    exact⟨e2,a2,w2,JV,.of_steps (Steps.trans jz (.one step_inLoop)) Hc⟩
   ·refine⟨e,a1,w1,?_,.pass (x:=.inLoop c) rfl (fun _ _=>.inl he) jz⟩
    cases e<;>first|exact absurd rfl he|exact hq
 obtain⟨e,a',w',hq,jz⟩:=key n a w h
 exact⟨e,a',w',hq,.of_steps (.one step_loop) jz⟩
theorem x7 {f:FuncId} {fn:Func} {c:Code} {args:Array Value} {R:Ending->World->Prop} (hf:P.funcs[f]? =some fn) (hb:fn.body=some c)
  (h:zA P c (bodyPost P fn R) {tmps:=args++Array.replicate (fn.ntmps-args.size) undef,defers:=[]} w):Calls P f args w R:=by
 intro cs
 have My:Frame.enter P f args .normal=({(default:Frame)with fn:=f,kind:=.normal}:Frame).at {tmps:=args++Array.replicate (fn.ntmps-args.size) undef,defers:=[]} [.code c]:=by simp[Frame.enter,Frame.at,hf,hb]
 obtain⟨e,a',w',hq,jz⟩:=h {(default:Frame)with fn:=f,kind:=.normal} [] cs (by simp)
 rw[<-My]at jz
 cases e with
 |normal=>obtain⟨hd,v,hr,hR⟩:=hq;exact⟨.returned v,w',_,hR,Steps.trans jz (.one step_end),rfl,rfl,hd,rfl,fn,hf,hr⟩
 |ret=>obtain⟨hd,v,hr,hR⟩:=hq;obtain⟨todo,hs⟩:=jz;exact⟨.returned v,w',_,hR,hs,rfl,rfl,hd,rfl,fn,hf,hr⟩
 |panic chain=>obtain⟨hd,hR⟩:=hq;obtain⟨todo,hs⟩:=jz;exact⟨.panicked chain,w',_,hR,hs,rfl,rfl,hd,fn,hf⟩
 |exit id=>exact hq.elim
 |goto l=>exact hq.elim
 |outgrown=>exact⟨.outgrown,w',{(default:Frame)with fn:=f,kind:=.normal},hq,jz.resolve_left (by simp),rfl,trivial⟩
def v8 (P:Program) (ops:Array Oper) (Q:Exit->Act->World->Prop) (l:List Nat) (a:Act) (w:World):Prop:=
 ∀(b:Frame) (k:List Item) (cs:List Frame),b.kind≠.early->∃e a' w',Q e a' w'/\Arrives P (lone (b.at a (.inRegion ops l::k)) cs w) b k cs e a' w'
theorem CT {id:Nat} {ops:Array Oper} (h:v8 P ops Q (List.range ops.size) a w):zA P (.region id ops false) Q a w:=
 fun b k cs hb=>let ⟨e,a',w',q,r⟩:=h b k cs hb;⟨e,a',w',q,.of_steps (.one step_region) r⟩
theorem Na {ops:Array Oper} (h:Q .normal a w):v8 P ops Q [] a w:=fun _ _ _ _=>⟨.normal,a,w,h,.one step_region_end⟩
theorem oj {o:Oper} {ys:Nat->Option Bool} (h:o.guard=none):Region.wanted o ys=true:=by simp[Region.wanted,h]
theorem H4 {ops:Array Oper} {i:Nat} {rest:List Nat} {o:Oper} {v:Value} (ho:ops[i]? =some o) (hg:o.guard=none) (hr:(execOp a.eval o).run P w=.ok (.value v) w') (h:v8 P ops Q rest (a.put o.dst v) w'):v8 P ops Q (i::rest) a w:=by
 intro b k cs hb
 obtain⟨e,a',w2,hq,jz⟩:=h b k cs hb
 refine⟨e,a',w2,hq,.of_steps (.one ?_) jz⟩
 have rH:(b.at a (.inRegion ops (i::rest)::k)).finish v=b.at (a.put o.dst v) (.inRegion ops rest::k):=by rw[Frame.finish_at,ho];rfl
 rw[<-rH]
 refine step_lone_go ?_
 have h2:=stepG_op (P:=P) (b:=b) (k:=k) (cs:=cs) (w:=w) (rest:=rest) ho (oj hg (ys:=yielded ops a.tmps))
 rw[h2];simp[stepG.apply,hr]
theorem Ks {ops:Array Oper} {i:Nat} {rest:List Nat} {o:Oper} {v z:Value} {c cap s r:Nat} {buf:Array Value} (ho:ops[i]? =some o) (hg:o.guard=none) (hr:(execOp a.eval o).run P w=.ok (.comm #[Conc.scase c v z] true .send) w)
  (hc:w.heap[c]? =some (.chan cap buf false s r false)) (fU:buf.size<cap) (h:v8 P ops Q rest (a.put o.dst undef) (w.setChan c cap (buf.push v) false (s+1) r false)):v8 P ops Q (i::rest) a w:=by
 intro b k cs hb
 obtain⟨e,a',w2,hq,jz⟩:=h b k cs hb
 refine⟨e,a',w2,hq,.of_steps (.one ?_) jz⟩
 have rH:(b.at a (.inRegion ops (i::rest)::k)).finish undef=b.at (a.put o.dst undef) (.inRegion ops rest::k):=by rw[Frame.finish_at,ho];rfl
 rw[<-rH,Conc.lone_eq_solo,Conc.lone_eq_solo]
 exact Conc.step_lone_send_room (Conc.stepG_comm ho (oj hg) hb hr) hc fU
theorem Kr {ops:Array Oper} {i:Nat} {rest:List Nat} {o:Oper} {z:Value} {c cap s r:Nat} {buf:Array Value} (ho:ops[i]? =some o) (hg:o.guard=none) (hr:(execOp a.eval o).run P w=.ok (.comm #[Conc.rcase c z] true (.recv false)) w)
  (hc:w.heap[c]? =some (.chan cap buf false s r false)) (HB:0<buf.size) (h:v8 P ops Q rest (a.put o.dst (buf.getD 0 undef)) (w.setChan c cap (buf.extract 1 buf.size) false s (r+1) false)):v8 P ops Q (i::rest) a w:=by
 intro b k cs hb
 obtain⟨e,a',w2,hq,jz⟩:=h b k cs hb
 refine⟨e,a',w2,hq,.of_steps (.one ?_) jz⟩
 have rH:(b.at a (.inRegion ops (i::rest)::k)).finish (buf.getD 0 undef)=b.at (a.put o.dst (buf.getD 0 undef)) (.inRegion ops rest::k):=by rw[Frame.finish_at,ho];rfl
 rw[<-rH,Conc.lone_eq_solo,Conc.lone_eq_solo]
 exact Conc.step_lone_recv_buf false (Conc.stepG_comm ho (oj hg) hb hr) hc HB
end
section
variable {hs:Nat} {g:Rows} {env:Env} {a:Act} {o:Oper}
theorem J9 {x y:O} (hc:p7 P o.op=some (.snd x y)):∃x' y',o.op=.send x' y'/\cO P x'=some x/\cO P y'=some y:=by
 unfold p7 at hc
 split at hc
 case h_25=>
  rename_i x' y' h
  simp only[Option.bind_eq_bind,Option.bind_eq_some_iff,Option.pure_def,Option.some.injEq,fW.snd.injEq]at hc
  obtain⟨p,h1,q,h2,rfl,rfl⟩:=hc
  exact⟨_,_,h,h1,h2⟩
 all_goals (try unfold mN at hc)<;>(try unfold tW at hc)<;>(try unfold rj at hc)<;>(repeat' (split at hc))<;>(simp only[Option.bind_eq_bind,Option.bind_eq_some_iff,Option.pure_def,Option.some.injEq,Option.map_eq_some_iff,reduceCtorEq,and_false,exists_false]at hc)
theorem J8 {x:O} (hc:p7 P o.op=some (.Nf x)):∃t dir e i z x',o.op=.recv t x' false/\P.underlying t=some (.chan dir e)/\P.info? e=some i/\i.zero=some z/\cO P x'=some x:=by
 unfold p7 at hc
 split at hc
 case h_26=>
  rename_i t x' h
  split at hc
  ·rename_i dir e ht
   split at hc
   ·rename_i z hz
    simp only[Option.bind_eq_some_iff]at hz
    obtain⟨i,hi,hz⟩:=hz
    simp only[Option.map_eq_some_iff,fW.Nf.injEq]at hc
    obtain⟨p,h1,rfl⟩:=hc
    exact⟨t,dir,e,i,z,x',h,ht,hi,hz,h1⟩
   ·cases hc
  ·cases hc
 all_goals (try unfold mN at hc)<;>(try unfold tW at hc)<;>(try unfold rj at hc)<;>(repeat' (split at hc))<;>(simp only[Option.bind_eq_bind,Option.bind_eq_some_iff,Option.pure_def,Option.some.injEq,Option.map_eq_some_iff,reduceCtorEq,and_false,exists_false]at hc)
theorem OG {x y:O} {g':Rows} (S:fV P hs D ι g w) (hc:p7 P o.op=some (.snd x y)) (E:bw P w D ι env a) (hv:eO g (cE env x) (cE env y)=some g'):
  ∃c cap s r buf u,(execOp a.eval o).run P w=.ok (.comm #[Conc.scase c u (.tuple #[])] true .send) w/\w.heap[c]? =some (.chan cap buf false s r false)/\buf.size<cap/\fV P hs D ι g' (w.setChan c cap (buf.push u) false (s+1) r false)/\Step hs D ι w D ι (w.setChan c cap (buf.push u) false (s+1) r false):=by
 obtain⟨x',y',ho,hx,hy⟩:=J9 hc
 have rx:=cF E hx
 have ry:=cF E hy
 unfold eO at hv
 split at hv
 ·rename_i i he
  simp only[Option.bind_eq_some_iff]at hv
  obtain⟨r,hg,hv⟩:=hv
  split at hv
  ·rename_i hcond
   simp only[Option.some.injEq]at hv
   subst hv
   obtain⟨B,c,hu,hB,hk,e5,buf,s,q,hb,I4,hR⟩:=x8 S rx he hg
   obtain⟨B',dx,RR,_⟩:=S.row i r hg
   rw[hB]at dx;injection dx with dx;subst dx
   have nr:=S.Ga (ob:=.chan c (buf.push (a.eval y')) false (s+1) q false) (r':={r with rows:=r.rows++[[cE env y]]}) hg hcond.1 hB fun hr jZ=>⟨RR.sz,fun cs cR=>?_,fun h0=>(by rw[hk]at h0;cases h0),fun m hm=>(by rw[hk]at hm;cases hm),fun c' kq=>?_⟩
   ·exact⟨B.b,c,s,q,buf,a.eval y',by simp[execOp,ho,hu,Conc.scase],hb,by rw[I4];omega,nr.1,nr.2⟩
   ·rcases List.mem_append.1 cR with h|h
    ·exact RR.flat cs h
    ·rw[List.mem_singleton.1 h]
     intro b rG
     rw[List.mem_singleton.1 rG];exact hcond.2.2
   ·rw[hk]at kq
    simp only[Option.some.injEq,BK.chan.injEq]at kq
    subst kq
    refine⟨e5,_,_,_,jZ,by simp[I4],fun j cs hj=>?_⟩
    rw[List.getElem?_append]at hj
    split at hj
    ·rename_i dy
     obtain⟨b,u,q1,q2,q3⟩:=hR j cs hj
     refine⟨b,u,q1,?_,hr _ _ q3⟩
     rw[Array.getElem?_push,if_neg (by omega)];exact q2
    ·rename_i ox
     have gm:j=r.rows.length:=by
      have:=(List.getElem?_eq_some_iff.1 hj).1
      simp at this;omega
     subst gm
     simp at hj
     subst hj
     exact⟨_,_,rfl,by rw[Array.getElem?_push,if_pos I4.symm],hr _ _ ry⟩
  ·cases hv
 ·cases hv
theorem OF {x:O} {g':Rows} {v:AV} (S:fV P hs D ι g w) (hc:p7 P o.op=some (.Nf x)) (E:bw P w D ι env a) (hv:eM g (cE env x)=some (v,g')):
  ∃c cap s r buf z,(execOp a.eval o).run P w=.ok (.comm #[Conc.rcase c z] true (.recv false)) w/\w.heap[c]? =some (.chan cap buf false s r false)/\0<buf.size/\fV P hs D ι g' (w.setChan c cap (buf.extract 1 buf.size) false s (r+1) false)/\Step hs D ι w D ι (w.setChan c cap (buf.extract 1 buf.size) false s (r+1) false)/\cq P (w.setChan c cap (buf.extract 1 buf.size) false s (r+1) false) D ι v (buf.getD 0 undef):=by
 obtain⟨t,dir,e,i0,z,x',ho,ht,hi,hz,hx⟩:=J8 hc
 have rx:=cF E hx
 unfold eM at hv
 split at hv
 ·rename_i i he
  simp only[Option.bind_eq_some_iff]at hv
  obtain⟨r,hg,hv⟩:=hv
  split at hv
  ·rename_i v' rest nO
   split at hv
   ·rename_i hcond
    simp only[Option.some.injEq,Prod.mk.injEq]at hv
    obtain⟨rfl,rfl⟩:=hv
    obtain⟨B,c,hu,hB,hk,e5,buf,s,q,hb,I4,hR⟩:=x8 S rx he hg
    obtain⟨B',dx,RR,_⟩:=S.row i r hg
    rw[hB]at dx;injection dx with dx;subst dx
    obtain⟨b0,u0,q1,q2,q3⟩:=hR 0 [v'] (by rw[nO];rfl)
    simp only[List.cons.injEq,and_true]at q1
    subst q1
    have kW:0<buf.size:=by rw[I4,nO];simp
    have QW:buf.getD 0 undef=u0:=by rw[Array.getD_eq_getD_getElem?,q2];rfl
    have nr:=S.Ga (ob:=.chan c (buf.extract 1 buf.size) false s (q+1) false) (r':={r with rows:=rest}) hg hcond hB fun hr jZ=>⟨RR.sz,fun cs cR=>RR.flat cs (by rw[nO];exact List.mem_cons_of_mem _ cR),fun h0=>(by rw[hk]at h0;cases h0),fun m hm=>(by rw[hk]at hm;cases hm),fun c' kq=>?_⟩
    ·refine⟨B.b,c,s,q,buf,z,?_,hb,kW,nr.1,nr.2,?_⟩
     ·have uF:(zeroValue e).run P w=.ok z w:=by simp[zeroValue,typeInfo,hi,hz]
      simp[execOp,ho,hu,Conc.rcase,run_underlying ht,uF]
     ·rw[QW];exact nr.2.rep q3
    ·rw[hk]at kq
     simp only[Option.some.injEq,BK.chan.injEq]at kq
     subst kq
     refine⟨e5,_,_,_,jZ,by simp[I4,nO],fun j cs hj=>?_⟩
     obtain⟨b,u,k1,k2,k3⟩:=hR (j+1) cs (by rw[nO];simpa using hj)
     refine⟨b,u,k1,?_,hr _ _ k3⟩
     have dy:=(Array.getElem?_eq_some_iff.1 k2).1
     rw[Array.getElem?_extract,if_pos (by omega),Nat.add_comm 1 j];exact k2
   ·cases hv
  ·cases hv
 ·cases hv
theorem EL {ops:Array Oper} {nt site0:Nat} {K:Env->ar->Prop} {Q:Exit->Act->World->Prop}:∀(l:List Oper) (vl:List aL) (j:Nat) (env:Env) (σ:ar) (a:Act) (w:World) (D:Nat->Prop) (ι:Names),
  ops.toList.drop j=l->allM (km P ops nt site0 false false #[] []) l j=some vl->cG vl K env σ->fV P hs D ι σ.get w->Used ι σ.next (fun _=>False)->bw P w D ι env a->a.tmps.size=nt->
  (∀iw σ' a' w' D' ι',K iw σ'->Step hs D ι w D' ι' w'->St P hs nt D' ι' iw σ' a' w'->a'.defers=a.defers->σ.next<=σ'.next->Q .normal a' w')->v8 P ops Q (List.range' j l.length) a w:=by
 intro l
 induction l with
 |nil=>
  intro vl j env σ a w D ι _ h hv S Us E e5 hQ
  simp[allM]at h;subst h
  exact Na (hQ env ⟨σ.get,σ.next+1⟩ a w D ι hv (Step.refl _ _ _ _) ⟨S,Us.next,E,e5⟩ rfl (Nat.le_succ _))
 |cons o l ih=>
  intro vl j env σ a w D ι hl h hv S Us E e5 hQ
  simp only[allM,Option.bind_eq_bind,Option.bind_eq_some_iff,Option.pure_def,Option.some.injEq]at h
  obtain⟨vo,iU,r6,qZ,rfl⟩:=h
  obtain⟨hc,hd,Ay,wq,hg⟩:=ou iU
  obtain⟨Pc,hv⟩:=hv
  have Sp:o.guard=none:=by
   split at hg
   ·assumption
   ·obtain⟨t,_,h⟩:=hg
    rw[Pc]at h;cases h
  have Sq:ops[j]? =some o:=by
   have h0:=congrArg (fun x=>x[0]?) hl
   rw[<-Array.getElem?_toList]
   simpa[List.getElem?_drop]using h0
  have Ja:ops.toList.drop (j+1)=l:=by rw[<-List.drop_drop,hl];rfl
  have go:∀(v:AV) (u:Value) (g2:Rows) (w2:World),cG r6 K (upd env vo.dst v) ⟨g2,σ.next⟩->fV P hs D ι g2 w2->Step hs D ι w D ι w2->cq P w2 D ι v u->v8 P ops Q (List.range' (j+1) l.length) (a.put o.dst u) w2:=fun v u g2 w2 hn S2 T hR=>
   ih r6 (j+1) (upd env vo.dst v) ⟨g2,σ.next⟩ (a.put o.dst u) w2 D ι Ja qZ hn S2 Us (by rw[hd];exact ij (nI E T) hR wq e5) (by rw[eC];exact e5) fun iw σ2 a' w3 D3 ι3 hk T2 LH Cp lx=>hQ iw σ2 a' w3 D3 ι3 hk (T.trans T2) LH (Cp.trans (put_defers _ _ _)) lx
  rw[show List.range' j (o::l).length=j::List.range' (j+1) l.length from rfl]
  split at hv
  ·rename_i x y dK
   split at hv
   ·rename_i g2 Of
    rw[dK]at hc
    obtain⟨c,cap,s,r,buf,u,fN,hb,fU,S2,T⟩:=OG S hc E Of
    exact Ks Sq Sp fN hb fU (go _ _ _ _ hv S2 T cq.undef)
   ·exact hv.elim
  ·rename_i x dK
   split at hv
   ·rename_i v g2 Of
    rw[dK]at hc
    obtain⟨c,cap,s,r,buf,z,fN,hb,HB,S2,T,hR⟩:=OF S hc E Of
    exact Kr Sq Sp fN hb HB (go _ _ _ _ hv S2 T hR)
   ·exact hv.elim
  ·split at hv
   ·rename_i v hq
    obtain⟨u,fN,hR⟩:=xJ hc hq S E
    exact H4 Sq Sp fN (go _ _ _ _ hv S (Step.refl _ _ _ _) hR)
   ·exact hv.elim
end
end Go.Proofs.YtgoelphibofcmaaGreat.V

namespace Go.Proofs.YtgoelphibofcmaaGreat.V
open Go.RowKit
variable {P:Program} {w w':World} {D D' D2:Nat->Prop} {ι ι' ι2:Names}
section
variable {hs:Nat} {X:fq}
def Ql:Ex->Exit
 | .normal=>.normal
 | .exit id=>.exit id
 | .ret=>.ret
theorem St.drew {nt:Nat} {env:Env} {σ:ar} {a:Act} {D:Nat->Prop} {ι:Names} (h:St P hs nt D ι env σ a w):St P hs nt D ι env σ a w.drew/\Step hs D ι w D ι w.drew:=by
 have T:Step hs D ι w D ι w.drew:=Step.stay h.rW (fun _ _=>rfl) (Nat.le_refl _) rfl rfl rfl (fun _ h=>h) (fun _ h=>.inl h) (fun _ _ h=>h)
 exact⟨⟨h.rW.stay (fun _ _=>rfl) (Nat.le_refl _) (fun _ h=>h) h.rW.dead (fun _ h=>.inl h) (fun _ _ h=>h),h.used,nI h.env T,h.size⟩,T⟩
def sb (P:Program) (hs nt:Nat) (ds:List Deferred) (Q:Ex->Env->ar->Prop) (n0:Nat) (D:Nat->Prop) (ι:Names) (w:World) (Q':Exit->Act->World->Prop):Prop:=
 ∀ex env σ a w' D' ι',Q ex env σ->Step hs D ι w D' ι' w'->St P hs nt D' ι' env σ a w'->a.defers=ds->n0<=σ.next->Q' (Ql ex) a w'
theorem sb.later {nt:Nat} {ds:List Deferred} {Q:Ex->Env->ar->Prop} {n0 n1:Nat} {Q':Exit->Act->World->Prop} (h:sb P hs nt ds Q n0 D ι w Q') (T:Step hs D ι w D' ι' w') (hn:n0<=n1):sb P hs nt ds Q n1 D' ι' w' Q':=
 fun ex env σ a w2 D2 ι2 hq T2 cK hd hle=>h ex env σ a w2 D2 ι2 hq (T.trans T2) cK hd (Nat.le_trans hn hle)
theorem pA (hm:P.follows .mixedOrders=true) {md:List (Nat×Nat)} {nt fid:Nat}:∀(c:Code) (vc:VC),iY P md nt fid c=some vc->∀(Q:Ex->Env->ar->Prop) (env:Env) (σ:ar) (a:Act) (w:World) (D:Nat->Prop) (ι:Names) (Q':Exit->Act->World->Prop),
  dI (Sound P) vc Q env σ->St P hs nt D ι env σ a w->sb P hs nt a.defers Q σ.next D ι w Q'->zA P c Q' a w:=by
 intro c
 induction c with
 |skip=>
  intro vc h Q env σ a w D ι Q' hv cK hQ
  simp[iY]at h;subst h
  exact j0 <| wp_skip (hQ .normal env σ a w D ι hv (Step.refl _ _ _ _) cK rfl (Nat.le_refl _))
 |exit id=>
  intro vc h Q env σ a w D ι Q' hv cK hQ
  simp[iY]at h;subst h
  exact j0 <| wp_exit (hQ (.exit id) env σ a w D ι hv (Step.refl _ _ _ _) cK rfl (Nat.le_refl _))
 |ret=>
  intro vc h Q env σ a w D ι Q' hv cK hQ
  simp[iY]at h;subst h
  exact j0 <| wp_ret (hQ .ret env σ a w D ι hv (Step.refl _ _ _ _) cK rfl (Nat.le_refl _))
 |seq x y ihx ihy=>
  intro vc h Q env σ a w D ι Q' hv cK hQ
  simp only[iY,Option.bind_eq_bind,Option.bind_eq_some_iff,Option.pure_def,Option.some.injEq]at h
  obtain⟨vx,hx,vy,hy,rfl⟩:=h
  refine lp (ihx vx hx _ env σ a w D ι _ hv cK fun ex iQ σ1 a1 w1 D1 ι1 hq T jQ hd hle=>?_)
  cases ex with
  |normal=>exact ihy vy hy Q iQ σ1 a1 w1 D1 ι1 Q' hq jQ (by rw[hd];exact hQ.later T hle)
  |exit id=>exact hQ (.exit id) iQ σ1 a1 w1 D1 ι1 hq T jQ hd hle
  |ret=>exact hQ .ret iQ σ1 a1 w1 D1 ι1 hq T jQ hd hle
 |cond c x y ihx ihy=>
  intro vc h Q env σ a w D ι Q' hv cK hQ
  simp only[iY,Option.bind_eq_bind,Option.bind_eq_some_iff,Option.pure_def,Option.some.injEq]at h
  obtain⟨c',hc,vx,hx,vy,hy,rfl⟩:=h
  unfold dI at hv
  have hr:=cF cK.env hc
  split at hv
  ·rename_i b hb
   rw[hb]at hr
   refine uV (eS hr) ?_
   cases b with
   |true=>exact ihx vx hx Q env σ a w D ι Q' hv cK hQ
   |false=>exact ihy vy hy Q env σ a w D ι Q' hv cK hQ
  ·exact hv.elim
 |block id c ih=>
  intro vc h Q env σ a w D ι Q' hv cK hQ
  simp only[iY,Option.map_eq_some_iff]at h
  obtain⟨vx,hx,rfl⟩:=h
  refine rR (ih vx hx _ env σ a w D ι _ hv cK fun ex iQ σ1 a1 w1 D1 ι1 hq T jQ hd hle=>?_)
  cases ex with
  |normal=>exact hQ .normal iQ σ1 a1 w1 D1 ι1 hq T jQ hd hle
  |ret=>exact hQ .ret iQ σ1 a1 w1 D1 ι1 hq T jQ hd hle
  |exit jR=>
   simp only[aV]at hq
   simp only[Ql,Exit.inBlock]
   by_cases hid:jR=id
   ·rw[if_pos hid]at hq ⊢;exact hQ .normal iQ σ1 a1 w1 D1 ι1 hq T jQ hd hle
   ·rw[if_neg hid]at hq ⊢;exact hQ (.exit jR) iQ σ1 a1 w1 D1 ι1 hq T jQ hd hle
 |loop c ih=>
  intro vc h Q env σ a w D ι Q' hv cK hQ
  simp only[iY,Option.map_eq_some_iff]at h
  obtain⟨vx,hx,rfl⟩:=h
  obtain⟨n,hv⟩:=hv
  refine A4 n ?_
  have key:∀n env σ a w D ι,Ee (dI (Sound P) vx) Q n env σ->St P hs nt D ι env σ a w->sb P hs nt a.defers Q σ.next D ι w Q'->oD P c Q' n a w:=by
   intro n
   induction n with
   |zero=>intro env σ a w D ι h;exact h.elim
   |succ n ihn=>
    intro env σ a w D ι h cK hQ
    refine ih vx hx _ env σ a w D ι _ h cK fun ex iQ σ1 a1 w1 D1 ι1 hq T jQ hd hle=>?_
    cases ex with
    |normal=>exact ihn iQ σ1 a1 w1 D1 ι1 hq jQ (by rw[hd];exact hQ.later T hle)
    |exit id=>exact hQ (.exit id) iQ σ1 a1 w1 D1 ι1 hq T jQ hd hle
    |ret=>exact hQ .ret iQ σ1 a1 w1 D1 ι1 hq T jQ hd hle
  exact key n env σ a w D ι hv cK hQ
 |region id ops draw=>
  intro vc h Q env σ a w D ι Q' hv cK hQ
  simp only[iY,OE]at h
  split at h
  ·rename_i hmode
   have RX:draw=true:=by
    simp only[Bool.and_eq_true]at hmode;exact hmode.1
   subst RX
   split at h
   ·rename_i vl dC
    obtain⟨qt,T0⟩:=cK.drew
    have Cn:=F9 (X:=Sound P) ki ops.size _ vc env σ h (fun k i h=>by
     exfalso
     rcases Nat.lt_or_ge k ops.size with hk|hk
     ·simp[hk]at h
     ·simp[Nat.not_lt.2 hk]at h) hv
    refine j0 (wp_region_any hm ?_)
    exact Dn dC ops.size _ env σ a w.drew D ι (fun _=>False) Cn qt.rW qt.used (fun _ h=>h.elim) qt.env qt.size fun iQ σ1 a1 w1 D1 ι1 hk T jQ hd hle=>hQ .normal iQ σ1 a1 w1 D1 ι1 hk (T0.trans T) jQ hd hle
   ·cases h
  split at h
  ·rename_i hcom
   have RX:draw=false:=by
    simp only[Bool.and_eq_true,Bool.not_eq_true']at hcom;exact hcom.1
   subst RX
   simp only[Option.map_eq_some_iff]at h
   obtain⟨vl,qZ,rfl⟩:=h
   have dC:allM (km P ops nt ((fid*1000+id)*1000) false false #[] []) ops.toList 0=some vl:=by
    unfold qm at qZ
    simp only[Bool.false_eq_true,if_false,Bool.not_false,Bool.true_or,if_true]at qZ
    split at qZ
    ·rename_i r6 h;simp at qZ;subst qZ;exact h
    ·cases qZ
   refine CT ?_
   have:=EL (Q:=Q') ops.toList vl 0 env σ a w D ι rfl dC hv cK.rW cK.used cK.env cK.size fun iQ σ1 a1 w1 D1 ι1 hk T jQ hd hle=>hQ .normal iQ σ1 a1 w1 D1 ι1 hk T jQ hd hle
   rwa [<-List.range_eq_range',Array.length_toList]at this
  generalize (uP md id==1)=mk at h
  simp only[Option.map_eq_some_iff]at h
  obtain⟨vl,qZ,rfl⟩:=h
  cases draw with
  |false=>
   have dC:∃r6,allM (km P ops nt ((fid*1000+id)*1000) false mk #[] []) ops.toList 0=some r6/\vl=r6:=by
    unfold qm at qZ
    simp only[Bool.false_eq_true,if_false,Bool.not_false,Bool.true_or,if_true]at qZ
    split at qZ
    ·rename_i r6 h;simp at qZ;exact⟨r6,h,qZ.symm⟩
    ·cases qZ
   obtain⟨r6,dC,rfl⟩:=dC
   refine j0 (wp_region_list ?_)
   exact xG ops.toList vl 0 env σ a w D ι (fun _=>False) dC hv cK.rW cK.used (fun _ h=>h.elim) cK.env cK.size fun iQ σ1 a1 w1 D1 ι1 hk T jQ hd hle=>hQ .normal iQ σ1 a1 w1 D1 ι1 hk T jQ hd hle
  |true=>
   have dC:∃hidden r6,allM (km P ops nt ((fid*1000+id)*1000) true mk (jk ops) hidden) ops.toList 0=some r6/\vl=r6/\nH ops r6 (jk ops)=true:=by
    unfold qm at qZ
    simp only[if_true,Bool.not_true,Bool.false_or]at qZ
    split at qZ
    ·rename_i r6 h
     split at qZ
     ·rename_i uC;simp at qZ;exact⟨_,r6,h,qZ.symm,uC⟩
     ·cases qZ
    ·cases qZ
   obtain⟨hidden,r6,dC,rfl,uC⟩:=dC
   obtain⟨qt,T0⟩:=cK.drew
   obtain⟨hlen,_⟩:=nC dC
   have kr:vl.length=ops.size:=by rw[hlen];simp
   have Cn:=vQ (X:=Sound P) (K:=Q .normal) (n:=σ.next) uC kr vl 0 (Array.replicate ops.size false) env σ.get (by simp) (by simp) (fun i hi=>by simp[hi]) (by simp[kr]) (fun k i h=>by
    exfalso
    rcases Nat.lt_or_ge k ops.size with hk|hk
    ·simp[hk]at h
    ·simp[Nat.not_lt.2 hk]at h) hv
   refine j0 (wp_region_any hm ?_)
   rw[kr]at Cn
   exact wS dC ops.size _ env σ.get a w.drew D ι (fun _=>False) Cn qt.rW qt.used (fun _ h=>h.elim) qt.env qt.size fun iQ g1 a1 w1 D1 ι1 U1 hk T S1 Re E1 tz hd=>hQ .normal iQ ⟨g1,σ.next+1⟩ a1 w1 D1 ι1 hk (T0.trans T) ⟨S1,Re.next,E1,tz⟩ hd (Nat.le_succ _)
 |_=>
  intro vc h
  simp[iY]at h
def Ie (tmps:Array Value):ResultVar->Sem Value
 | .tmp t=>pure (tmps.getD t undef)
 | .cell a t=>do loadVar t (<-asAddr (tmps.getD a undef))
theorem C0 (fn:Func) (tmps:Array Value):results fn tmps=(do
  let vs <-fn.results.mapM (Ie tmps)
  pure (if h:vs.size=1 then vs[0]else .tuple vs)):=by
 unfold results
 congr 2
theorem sO {nt:Nat} {env:Env} {σ:ar} {a:Act} {D:Nat->Prop} {ι:Names} (cK:St P hs nt D ι env σ a w):∀(rs:List ResultVar) (vr:List mZ) (vs:List AV),rs.mapM (BZ P)=some vr->eY env σ.get vr=some vs->
  ∃us:List Value,(rs.mapM (Ie a.tmps)).run P w=.ok us w/\us.length=vs.length/\∀(j:Nat) (v:AV),vs[j]? =some v->∃u,us[j]? =some u/\cq P w D ι v u
 |[],vr,vs,h,hv=>by
  simp at h;subst h
  simp[eY]at hv;subst hv
  exact⟨[],by simp,rfl,fun j v h=>by simp at h⟩
 |r::rs,vr,vs,h,hv=>by
  simp only[List.mapM_cons,Option.bind_eq_bind,Option.bind_eq_some_iff]at h
  obtain⟨x,hx,vr',hr,h⟩:=h
  simp at h;subst h
  simp only[eY,Option.bind_eq_some_iff,Option.map_eq_some_iff]at hv
  obtain⟨v,xl,SQ,J1,rfl⟩:=hv
  obtain⟨us,h1,h2,h3⟩:=sO cK rs vr' SQ hr J1
  have one:∃u,(Ie a.tmps r).run P w=.ok u w/\cq P w D ι v u:=by
   cases r with
   |tmp t=>
    simp[BZ]at hx;subst hx
    simp[gO]at xl;subst xl
    exact⟨_,rfl,cK.env t⟩
   |cell b t=>
    simp only[BZ,Option.bind_eq_bind,Option.bind_eq_some_iff,Option.pure_def,Option.some.injEq]at hx
    obtain⟨ag,tr,n,hn,rfl⟩:=hx
    simp only[gO]at xl
    have gj:=cK.env b
    unfold ld at xl
    split at xl
    ·rename_i jR i' oo hb
     rw[hb]at gj
     obtain⟨B,he,hB,hk⟩:=iq gj
     simp only[Option.bind_eq_some_iff]at xl
     obtain⟨cs,cR,hp⟩:=xl
     obtain⟨B',r0,Gh,dx,R,hi,fl,f,hf⟩:=Ik (S:=cK.rW) cR (fun B2 h2=>by rw[hB]at h2;injection h2 with h2;subst h2;exact hk)
     rw[hB]at dx;injection dx with dx;subst dx
     obtain⟨u,k1,k2⟩:=j9 (w:=w) (b:=B.b) (oo:=i'*B.sz+oo) (f:=fun j=>f (oo+j)) tr hn hp (fun a ha=>fl a (List.mem_of_mem_drop ha)) (fun j hj=>by
      rw[Nat.add_assoc];exact(hf _ (by simp at hj;omega)).1) (fun j a ha=>by
      simp at ha;exact(hf _ ((List.getElem?_eq_some_iff.1 ha).1)).2 _ ha)
     exact⟨u,by simp only[Ie,he,asAddr,Sem.run_bind,Sem.run_pure,Result.andThen_ok,k1],k2⟩
    ·rename_i cs hb
     rw[hb]at gj
     obtain⟨b',oo,vs2,he,q1,q2,q3,q4⟩:=kF gj
     obtain⟨u,k1,k2⟩:=j9 (w:=w) (b:=b') (oo:=oo) (f:=vs2) tr hn xl q2 q3 (fun j a ha=>.eD _ _ (q4 j a ha))
     exact⟨u,by simp only[Ie,he,asAddr,Sem.run_bind,Sem.run_pure,Result.andThen_ok,k1],k2⟩
    ·simp at xl
  obtain⟨u,hu,wC⟩:=one
  refine⟨u::us,?_,by simp[h2],fun j v' hj=>?_⟩
  ·rw[List.mapM_cons]
   simp only[Sem.run_bind,hu,h1,Result.andThen_ok,Sem.run_pure]
  ·cases j with
   |zero=>simp at hj;subst hj;exact⟨u,rfl,wC⟩
   |succ j=>simp at hj ⊢;exact h3 j v' hj
theorem tU {f:Nat} {fn:Func} {c:Code} {args:List AV} {σ:ar} {K:AV->ar->Prop} {vr:List mZ} (N4:P.funcs[f]? =some fn) (hc:fn.body=some c) (hr:fn.results.toList.mapM (BZ P)=some vr) (ha:fn.params.size+fn.nfree=args.length) (hle:fn.params.size+fn.nfree<=fn.ntmps)
  (h:∀(hs:Nat) (w:World) (D:Nat->Prop) (ι:Names) (a:Act) (Q':Exit->Act->World->Prop),St P hs fn.ntmps D ι (cw args) σ a w->sb P hs fn.ntmps a.defers (j8 vr K) σ.next D ι w Q'->zA P c Q' a w):Sound P f args σ K:=by
 intro hs D ι w vs S Us A
 have e5:vs.size=args.length:=A.1
 refine x7 N4 hc ?_
 refine h hs w D ι _ _ ⟨S,Us,fun t=>?_,by simp;omega⟩ fun ex iQ σ1 a1 w1 D1 ι1 hq T jQ hd hle=>?_
 ·simp only[cw]
  by_cases dy:t<args.length
  ·obtain⟨u,hu,wC⟩:=A.2 t args[t] (List.getElem?_eq_getElem dy)
   have e1:args.getD t .undef=args[t]:=by simp[List.getD_eq_getElem?_getD,dy]
   have e2:(vs++Array.replicate (fn.ntmps-vs.size) undef).getD t undef=u:=by
    simp only[Array.getD_eq_getD_getElem?]
    rw[Array.getElem?_append_left (by omega),hu];rfl
   rw[e1,e2];exact wC
  ·have e1:args.getD t .undef=.undef:=by simp[List.getD_eq_getElem?_getD,Nat.le_of_not_lt dy]
   have e2:(vs++Array.replicate (fn.ntmps-vs.size) undef).getD t undef=undef:=by
    simp only[Array.getD_eq_getD_getElem?]
    rw[Array.getElem?_append_right (by omega),Array.getElem?_replicate]
    split<;>rfl
   rw[e1,e2];exact cq.undef
 ·have fin:(∃vs,eY iQ σ1.get vr=some vs/\K (fe vs) σ1)->a1.defers=[]/\∃v,(results fn a1.tmps).run P w1=.ok v w1/\∃r g' n' D' ι' u,Ending.returned v=.returned u/\K r ⟨g',n'⟩/\Step hs D ι w D' ι' w1/\fV P hs D' ι' g' w1/\Used ι' n' (fun _=>False)/\σ.next<=n'/\cq P w1 D' ι' r u:=by
   rintro⟨avs,J1,hK⟩
   obtain⟨us,h1,h2,h3⟩:=sO jQ fn.results.toList vr avs hr J1
   have MO:(results fn a1.tmps).run P w1=.ok (if h:us.toArray.size=1 then us.toArray[0]else .tuple us.toArray) w1:=by
    rw[C0,Array.mapM_eq_mapM_toList]
    simp only[Sem.run_bind,Sem.run_map,h1,Result.andThen_ok,Sem.run_pure]
   refine⟨hd,_,MO,fe avs,σ1.get,σ1.next,D1,ι1,_,rfl,hK,T,jQ.rW,jQ.used,hle,?_⟩
   unfold fe
   split
   ·rename_i v
    have hl:us.length=1:=h2
    obtain⟨u,hu,wC⟩:=h3 0 v rfl
    rw[dif_pos (by simpa using hl)]
    have:us.toArray[0]'(by simp[hl])=u:=by
     have:=(List.getElem?_eq_some_iff.1 hu).2
     simpa using this
    rw[this];exact wC
   ·rename_i fY
    rw[dif_neg (by
     simp only[List.size_toArray,h2]
     intro h
     obtain⟨v,hv⟩:=List.length_eq_one_iff.1 h
     exact fY v hv)]
    exact .gN _ _ (fun j=>us.getD j undef) (by simp[h2]) (fun j hj=>by
     have:j<us.length:=by rw[h2];exact hj
     simp[this]) (fun j v hj=>by
     obtain⟨u,hu,wC⟩:=h3 j v hj
     simpa[List.getD_eq_getElem?_getD,hu]using wC)
  cases ex with
  |normal=>exact fin hq
  |ret=>exact fin hq
  |exit id=>exact hq.elim
theorem G9 (hm:P.follows .mixedOrders=true) {f:Nat} {md:List (Nat×Nat)} {vf:zB} {args:List AV} {σ:ar} {K:AV->ar->Prop} (hf:wh P f md=some vf) (ha:vf.xE=args.length) (h:dI (Sound P) vf.body (j8 vf.res K) (cw args) σ):Sound P f args σ K:=by
 unfold wh at hf
 split at hf
 ·rename_i fn N4
  split at hf
  ·rename_i c hc
   simp only[Option.bind_eq_bind,Option.bind_eq_some_iff]at hf
   obtain⟨vb,hb,vr,hr,hf⟩:=hf
   split at hf
   ·rename_i hle
    simp only[Option.pure_def,Option.some.injEq]at hf
    subst hf
    simp only at ha h
    exact tU N4 hc hr ha hle fun hs w D ι a Q' cK hQ=>pA hm c vb hb (j8 vr K) (cw args) σ a w D ι Q' h cK hQ
   ·simp at hf
  ·simp at hf
 ·simp at hf
def Lu (P:Program) (X:fq):fq:=fun f args σ K=>(∃md vf,wh P f md=some vf/\vf.xE=args.length/\((∀a∈args,dV a)->dI X vf.body (j8 vf.res K) (cw args) σ))∨Sound P f args σ K
def Call (P:Program):fq:=fun f args σ K=>∀X:fq,o8 X->(∀f args σ K,Lu P X f args σ K->X f args σ K)->X f args σ K
theorem gY (hm:P.follows .mixedOrders=true) {f:Nat} {args:List AV} {σ:ar} {K:AV->ar->Prop} (h:Call P f args σ K):Sound P f args σ K:=
 h (Sound P) ki fun f args σ K hs=>by
  rcases hs with⟨md,vf,h1,h2,h3⟩|h
  ·intro hs D ι w vs S U A
   exact G9 hm h1 h2 (h3 (nV fun j a hj=>by obtain⟨u,_,hr⟩:=A.2 j a hj;exact hr.HK)) hs D ι w vs S U A
  ·exact h
end
end Go.Proofs.YtgoelphibofcmaaGreat.V

namespace Go.Proofs.YtgoelphibofcmaaGreat.V
open Go.RowKit
variable {P:Program} {X Y:fq}
theorem Gx (h:∀f args σ K,X f args σ K->Y f args σ K) {f:Nat} {args:List AV} {σ:ar} {K:AV->Prop} (hp:ib X f args σ K):ib Y f args σ K:=by
 rcases hp with hp|⟨a,h1,h2⟩
 ·exact .inl (h _ _ _ _ hp)
 ·exact .inr ⟨a,h1,h _ _ _ _ h2⟩
theorem Jk (h:∀f args σ K,X f args σ K->Y f args σ K) {f:Nat} {args:List AV} {σ:ar} {sz:Nat} {rows:List (List AV)} (hp:CM X f args σ sz rows):CM Y f args σ sz rows:=by
 obtain⟨h1,a,h2,h3⟩:=hp
 exact⟨h1,a,h2,h _ _ _ _ h3⟩
theorem pw (h:∀f args σ K,X f args σ K->Y f args σ K) (hK:∀f args σ K K',(∀r σ',K r σ'->K' r σ')->Y f args σ K->Y f args σ K') {draw:Bool} {hid:List Nat} {site:Nat} {f:Nat} {args:List AV} {σ:ar} {n n':AV->ar->Prop} (hn:∀v σ',n v σ'->n' v σ') (hp:cJ X draw hid site f args σ n):cJ Y draw hid site f args σ n':=by
 rcases hp with⟨r,h1,h2⟩|⟨h1,h2⟩|⟨h1,sz,rows,h2,h3⟩
 ·exact .inl ⟨r,Gx h h1,hn _ _ h2⟩
 ·exact .inr (.inl ⟨h1,hK _ _ _ _ _ hn (h _ _ _ _ h2)⟩)
 ·exact .inr (.inr ⟨h1,sz,rows,Jk h h2,hn _ _ h3⟩)
theorem qT (h:∀f args σ K,X f args σ K->Y f args σ K) (hK:∀f args σ K K',(∀r σ',K r σ'->K' r σ')->Y f args σ K->Y f args σ K') {draw:Bool} {o:aL} {env:Env} {σ:ar} {n n':AV->ar->Prop} (hn:∀v σ',n v σ'->n' v σ') (hp:gu X draw o env σ n):gu Y draw o env σ n':=by
 unfold gu at hp ⊢
 split at hp
 ·exact pw h hK hn hp
 ·split at hp
  ·exact pw h hK hn hp
  ·exact pw h hK hn hp
  ·exact hp.elim
 ·split at hp
  ·exact hn _ _ hp
  ·exact hp.elim
 ·split at hp
  ·exact hn _ _ hp
  ·exact hp.elim
 ·split at hp
  ·exact hn _ _ hp
  ·exact hp.elim
 ·split at hp
  ·exact hn _ _ hp
  ·exact hp.elim
 ·split at hp
  ·exact hn _ _ hp
  ·exact hp.elim
 ·split at hp
  ·exact hn _ _ hp
  ·exact hn _ _ hp
  ·exact hp.elim
theorem kN (h:∀f args σ K,X f args σ K->Y f args σ K) (hK:∀f args σ K K',(∀r σ',K r σ'->K' r σ')->Y f args σ K->Y f args σ K') {draw:Bool} {Q Q':Env->ar->Prop} (hQ:∀e s,Q e s->Q' e s):∀(l:List aL) (env:Env) (σ:ar),wpOps X draw l Q env σ->wpOps Y draw l Q' env σ
 |[],env,σ,hp=>hQ _ _ hp
 |o::r,env,σ,hp=>by
  unfold wpOps at hp ⊢
  split at hp
  ·rename_i hw;rw[if_pos hw];exact qT h hK (fun v σ'=>kN h hK hQ r _ _) hp
  ·rename_i hw;rw[if_neg hw];exact kN h hK hQ r _ _ hp
theorem mJ {Q Q':Env->ar->Prop} (hQ:∀e s,Q e s->Q' e s):∀(l:List aL) (env:Env) (σ:ar),cG l Q env σ->cG l Q' env σ
 |[],env,σ,hp=>hQ _ _ hp
 |o::r,env,σ,hp=>by
  unfold cG at hp ⊢
  refine⟨hp.1,?_⟩
  replace hp:=hp.2
  split at hp
  ·split at hp
   ·exact mJ hQ r _ _ hp
   ·exact hp.elim
  ·split at hp
   ·exact mJ hQ r _ _ hp
   ·exact hp.elim
  ·split at hp
   ·exact mJ hQ r _ _ hp
   ·exact hp.elim
theorem ji (h:∀f args σ K,X f args σ K->Y f args σ K) (hK:∀f args σ K K',(∀r σ',K r σ'->K' r σ')->Y f args σ K->Y f args σ K'):∀(c:VC) (Q Q':Ex->Env->ar->Prop) (env:Env) (σ:ar),(∀x e s,Q x e s->Q' x e s)->dI X c Q env σ->dI Y c Q' env σ:=by
 intro c
 induction c with
 |skip=>intro Q Q' env σ hQ hp;exact hQ _ _ _ hp
 |exit id=>intro Q Q' env σ hQ hp;exact hQ _ _ _ hp
 |ret=>intro Q Q' env σ hQ hp;exact hQ _ _ _ hp
 |one o c ih=>
  intro Q Q' env σ hQ hp
  unfold dI at hp ⊢
  split at hp
  ·rename_i hw;rw[if_pos hw];exact qT h hK (fun v σ'=>ih Q Q' _ _ hQ) hp
  ·rename_i hw;rw[if_neg hw];exact ih Q Q' _ _ hQ hp
 |both a b iha ihb=>intro Q Q' env σ hQ hp;exact⟨iha Q Q' env σ hQ hp.1,ihb Q Q' env σ hQ hp.2⟩
 |loc t s y c ih=>intro Q Q' env σ hQ hp;exact⟨hp.1,ih Q Q' env σ hQ hp.2⟩
 |LX ops=>intro Q Q' env σ hQ hp;exact mJ (hQ .normal) ops env σ hp
 |dR draw ops=>intro Q Q' env σ hQ hp;exact kN h hK (hQ .normal) ops env σ hp
 |seq a b iha ihb=>
  intro Q Q' env σ hQ hp
  refine iha _ _ env σ (fun x e s hx=>?_) hp
  cases x with
  |normal=>exact ihb Q Q' e s hQ hx
  |exit id=>exact hQ _ _ _ hx
  |ret=>exact hQ _ _ _ hx
 |cond c a b iha ihb=>
  intro Q Q' env σ hQ hp
  unfold dI at hp ⊢
  split at hp
  ·rename_i t ht
   cases t with
   |true=>exact iha Q Q' env σ hQ hp
   |false=>exact ihb Q Q' env σ hQ hp
  ·exact hp.elim
 |block id a iha=>
  intro Q Q' env σ hQ hp
  refine iha _ _ env σ (fun x e s hx=>?_) hp
  cases x with
  |normal=>exact hQ _ _ _ hx
  |ret=>exact hQ _ _ _ hx
  |exit jR=>
   unfold aV at hx ⊢
   dsimp only at hx ⊢
   split at hx
   ·rename_i hid;rw[if_pos hid];exact hQ _ _ _ hx
   ·rename_i hid;rw[if_neg hid];exact hQ _ _ _ hx
 |loop a iha=>
  intro Q Q' env σ hQ hp
  obtain⟨n,hp⟩:=hp
  refine⟨n,?_⟩
  induction n generalizing env σ with
  |zero=>exact hp
  |succ n ihn=>
   refine iha _ _ env σ (fun x e s hx=>?_) hp
   cases x with
   |normal=>exact ihn e s hx
   |exit id=>exact hQ _ _ _ hx
   |ret=>exact hQ _ _ _ hx
theorem aU:o8 (Call P):=fun _ _ _ _ _ hK h X hX hc=>hX _ _ _ _ _ hK (h X hX hc)
theorem wP {f:Nat} {args:List AV} {σ:ar} {K:AV->ar->Prop} (h:Lu P (Call P) f args σ K):Call P f args σ K:=by
 intro X hX hc
 refine hc _ _ _ _ ?_
 rcases h with⟨md,vf,h1,h2,h3⟩|h
 ·exact .inl ⟨md,vf,h1,h2,fun hl=>ji (fun f args σ K h=>h X hX hc) hX _ _ _ _ _ (fun _ _ _ h=>h) (h3 hl)⟩
 ·exact .inr h
theorem tM {f:Nat} {md:List (Nat×Nat)} {args:List AV} {σ:ar} {K:AV->ar->Prop} {vf:zB} (hf:wh P f md=some vf) (ha:vf.xE=args.length) (h:(∀a∈args,dV a)->dI (Call P) vf.body (j8 vf.res K) (cw args) σ):Call P f args σ K:=
 wP (.inl ⟨md,vf,hf,ha,h⟩)
theorem lG {f:Nat} {args:List AV} {σ:ar} {K:AV->ar->Prop} {vf:zB} (hf:np P f=some vf) (ha:vf.xE=args.length) (h:(∀a∈args,dV a)->dI (Call P) vf.body (j8 vf.res K) (cw args) σ):Call P f args σ K:=
 tM hf ha h
theorem iG {f:Nat} {args:List AV} {σ:ar} {K:AV->ar->Prop} (h:Sound P f args σ K):Call P f args σ K:=wP (.inr h)
def l5 (P:Program) (f:Nat) (args:List AV) (r:AV):Prop:=∀σ,PC (Call P) f args σ (fun r'=>r'=r)
theorem l5.body {f:Nat} {args:List AV} {r:AV} {nt na:Nat} {body:VC} {res:List mZ} (hf:np P f=some ⟨nt,na,body,res⟩) (ha:na=args.length) (h:(∀a∈args,dV a)->∀σ:ar,dI (Call P) body (j8 res fun r0 σ'=>∃r',fz σ'.get 6 r0=some r'/\r'=r) (cw args) ⟨V.ro σ.get,σ.next⟩):l5 P f args r:=fun σ=>lG hf ha fun hl=>h hl σ
variable {Q:Ex->Env->ar->Prop} {K:Env->ar->Prop} {env:Env} {σ:ar}
theorem Bt {a b:VC} (h:∀N:Env->ar->Prop,(∀e s,dI X b Q e s->N e s)->dI X a (du N Q) env σ):dI X (.seq a b) Q env σ:=h _ fun _ _ h=>h
theorem zy (h:Q .normal env σ):dI X .skip Q env σ:=h
theorem zw {id:Nat} (h:Q (.exit id) env σ):dI X (.exit id) Q env σ:=h
theorem Ew (h:Q .ret env σ):dI X .ret Q env σ:=h
theorem tH {id:Nat} {c:VC} (h:dI X c (aV id Q) env σ):dI X (.block id c) Q env σ:=h
theorem Eu {o:aL} {c:VC} (h:∀N:AV->ar->Prop,(∀v s,dI X c Q (upd env o.dst v) s->N v s)->if aJ o.guard env then gu X false o env σ N else N .undef σ):dI X (.one o c) Q env σ:=by
 have:=h (fun v s=>dI X c Q (upd env o.dst v) s) fun _ _ h=>h
 unfold dI
 split
 ·rename_i hw;rw[if_pos hw]at this;exact this
 ·rename_i hw;rw[if_neg hw]at this;exact this
def eR (s n:Nat):AV->Prop
 | .own id 0 _=>id=⟨s,n⟩
 |_=>False
def eV (n:Nat):AV->Prop
 | .own id _ _=>¬id.aW=n
 |_=>True
theorem zx {t s:Nat} {y:O} {c:VC} (h1:eR s σ.next (env t)) (h2:eV σ.next (cE env y)) (h:dI X c Q env σ):dI X (.loc t s y c) Q env σ:=by
 refine⟨⟨?_,fun id o l he=>?_⟩,h⟩
 ·revert h1
  unfold eR
  split
  ·rename_i id l he;rintro rfl;exact⟨l,he⟩
  ·exact fun h=>h.elim
 ·rw[he]at h2;exact h2
theorem eX {a b:VC} (ha:dI X a Q env σ) (hb:dI X b Q env σ):dI X (.both a b) Q env σ:=⟨ha,hb⟩
theorem Ev {draw:Bool} {ops:List aL} (h:∀N:Env->ar->Prop,(∀e s,Q .normal e s->N e s)->wpOps X draw ops N env σ):dI X (.dR draw ops) Q env σ:=h _ fun _ _ h=>h
theorem IL {ops:List aL} (h:cG ops (Q .normal) env σ):dI X (.LX ops) Q env σ:=h
theorem Bs {draw:Bool} (h:K env ⟨σ.get,σ.next+1⟩):wpOps X draw [] K env σ:=h
theorem Nz {draw:Bool} {o:aL} {r:List aL} (h:∀N:AV->ar->Prop,(∀v s,wpOps X draw r K (upd env o.dst v) s->N v s)->if aJ o.guard env then gu X draw o env σ N else N .undef σ):wpOps X draw (o::r) K env σ:=by
 have:=h (fun v s=>wpOps X draw r K (upd env o.dst v) s) fun _ _ h=>h
 unfold wpOps
 split
 ·rename_i hw;rw[if_pos hw]at this;exact this
 ·rename_i hw;rw[if_neg hw]at this;exact this
theorem IM {c:O} {x y:VC} {b:Bool} (hc:cE env c=.bool b) (ht:b=true->dI X x Q env σ) (hf:b=false->dI X y Q env σ):dI X (.cond c x y) Q env σ:=by
 unfold dI
 simp only[hc]
 cases b with
 |true=>exact ht rfl
 |false=>exact hf rfl
inductive nw:AV->Prop->Prop->Prop
 |t {A B:Prop}:A->nw (.bool true) A B
 |f {A B:Prop}:B->nw (.bool false) A B
theorem tJ {c:O} {x y:VC} {v:AV} (hv:cE env c=v) (h:nw v (dI X x Q env σ) (dI X y Q env σ)):dI X (.cond c x y) Q env σ:=by
 cases h with
 |t h=>exact IM hv (fun _=>h) (fun e=>by cases e)
 |f h=>exact IM hv (fun e=>by cases e) (fun _=>h)
theorem Ny {c:VC} (I:Nat->Env->ar->Prop) (n:Nat) (h0:I n env σ) (step:∀n env σ,I n env σ->dI X c (fun x e s=>match x with| .normal=>∃m,m<n/\I m e s|x=>Q x e s) env σ)
  (hX:∀(c:VC) (Q Q':Ex->Env->ar->Prop) env σ,(∀x e s,Q x e s->Q' x e s)->dI X c Q env σ->dI X c Q' env σ):dI X (.loop c) Q env σ:=by
 have key:∀N n env σ,n<N->I n env σ->Ee (dI X c) Q N env σ:=by
  intro N
  induction N with
  |zero=>intro n env σ h;exact absurd h (Nat.not_lt_zero _)
  |succ N ih=>
   intro n env σ hn hI
   refine hX c _ _ env σ (fun x e s hx=>?_) (step n env σ hI)
   cases x with
   |normal=>obtain⟨m,hm,RH⟩:=hx;exact ih m e s (by omega) RH
   |exit id=>exact hx
   |ret=>exact hx
 exact⟨n+1,key _ n env σ (Nat.lt_succ_self _) h0⟩
theorem KH {c:VC} (I:Nat->Env->ar->Prop) (n:Nat) (h0:I n env σ) (step:∀n env σ,I n env σ->dI (Call P) c (fun x e s=>match x with| .normal=>∃m,m<n/\I m e s|x=>Q x e s) env σ):dI (Call P) (.loop c) Q env σ:=
 Ny I n h0 step fun c Q Q' env σ hQ h=>ji (fun _ _ _ _ h=>h) aU c Q Q' env σ hQ h
def wT:VC->List Nat
 | .dR _ ops=>ops.filterMap (·.dst)
 | .seq a b=>wT a++wT b
 | .cond _ a b=>wT a++wT b
 | .block _ a=>wT a
 | .loop a=>wT a
 | .one o c=>o.dst.toList++wT c
 | .both a b=>wT a++wT b
 | .loc _ _ _ c=>wT c
 | .LX ops=>ops.filterMap (·.dst)
 |_=>[]
def fZ (l:List Nat) (env iw:Env):Prop:=∀t,l.contains t=false->iw t=env t
theorem fZ.refl (l:List Nat) (env:Env):fZ l env env:=fun _ _=>rfl
theorem fZ.trans {l:List Nat} {e e' e'':Env} (h:fZ l e e') (k:fZ l e' e''):fZ l e e'':=fun t ht=>(k t ht).trans (h t ht)
theorem fZ.sub {l l':List Nat} {e e':Env} (h:fZ l e e') (hs:∀t,t∈l->t∈l'):fZ l' e e':=fun t ht=>h t (by
 rw[<-Bool.not_eq_true]at ht ⊢
 simp only[List.contains_iff_mem]at ht ⊢
 exact fun hc=>ht (hs t hc))
theorem fZ.upd {l:List Nat} {e e':Env} {d:Option Nat} {v:AV} (h:fZ l e e') (hd:∀t,d=some t->t∈l):fZ l e (upd e' d v):=fun t ht=>by
 cases d with
 |none=>exact h t ht
 |some d=>
  have:t≠d:=fun hc=>by subst hc;rw[<-Bool.not_eq_true,List.contains_iff_mem]at ht;exact ht (hd _ rfl)
  show(if t=d then v else e' t)=e t
  rw[if_neg this];exact h t ht
theorem om {draw:Bool} {Q:Env->ar->Prop} {l:List Nat} {e0:Env}:∀(ops:List aL) (env:Env) (σ:ar),(∀t,t∈ops.filterMap (·.dst)->t∈l)->fZ l e0 env->wpOps (Call P) draw ops Q env σ->wpOps (Call P) draw ops (fun e s=>Q e s/\fZ l e0 e) env σ
 |[],env,σ,_,hk,hp=>⟨hp,hk⟩
 |o::r,env,σ,hl,hk,hp=>by
  have hd:∀t,o.dst=some t->t∈l:=fun t ht=>hl t (List.mem_filterMap.2 ⟨o,by simp,ht⟩)
  have hr:∀t,t∈r.filterMap (·.dst)->t∈l:=fun t ht=>hl t (by
   obtain⟨x,hx,h⟩:=List.mem_filterMap.1 ht
   exact List.mem_filterMap.2 ⟨x,List.mem_cons_of_mem _ hx,h⟩)
  unfold wpOps at hp ⊢
  split at hp
  ·rename_i hw;rw[if_pos hw]
   exact qT (fun _ _ _ _ h=>h) aU (fun v σ' h=>om r _ _ hr (hk.upd hd) h) hp
  ·rename_i hw;rw[if_neg hw];exact om r _ _ hr (hk.upd hd) hp
theorem lu {Q:Env->ar->Prop} {l:List Nat} {e0:Env}:∀(ops:List aL) (env:Env) (σ:ar),(∀t,t∈ops.filterMap (·.dst)->t∈l)->fZ l e0 env->cG ops Q env σ->cG ops (fun e s=>Q e s/\fZ l e0 e) env σ
 |[],env,σ,_,hk,hp=>⟨hp,hk⟩
 |o::r,env,σ,hl,hk,hp=>by
  have hd:∀t,o.dst=some t->t∈l:=fun t ht=>hl t (List.mem_filterMap.2 ⟨o,by simp,ht⟩)
  have hr:∀t,t∈r.filterMap (·.dst)->t∈l:=fun t ht=>hl t (by
   obtain⟨x,hx,h⟩:=List.mem_filterMap.1 ht
   exact List.mem_filterMap.2 ⟨x,List.mem_cons_of_mem _ hx,h⟩)
  unfold cG at hp ⊢
  refine⟨hp.1,?_⟩
  replace hp:=hp.2
  split at hp
  ·split at hp
   ·exact lu r _ _ hr (hk.upd hd) hp
   ·exact hp.elim
  ·split at hp
   ·exact lu r _ _ hr (hk.upd hd) hp
   ·exact hp.elim
  ·split at hp
   ·exact lu r _ _ hr (hk.upd hd) hp
   ·exact hp.elim
theorem xR {l:List Nat} {e0:Env}:∀(c:VC) (Q:Ex->Env->ar->Prop) (env:Env) (σ:ar),(∀t,t∈wT c->t∈l)->fZ l e0 env->dI (Call P) c Q env σ->dI (Call P) c (fun x e s=>Q x e s/\fZ l e0 e) env σ:=by
 intro c
 induction c with
 |skip=>intro Q env σ _ hk hp;exact⟨hp,hk⟩
 |exit id=>intro Q env σ _ hk hp;exact⟨hp,hk⟩
 |ret=>intro Q env σ _ hk hp;exact⟨hp,hk⟩
 |one o c ih=>
  intro Q env σ hl hk hp
  have hd:∀t,o.dst=some t->t∈l:=fun t ht=>hl t (List.mem_append_left _ (by rw[ht];simp))
  have hr:∀t,t∈wT c->t∈l:=fun t ht=>hl t (List.mem_append_right _ ht)
  unfold dI at hp ⊢
  split at hp
  ·rename_i hw;rw[if_pos hw]
   exact qT (fun _ _ _ _ h=>h) aU (fun v σ' h=>ih Q _ _ hr (hk.upd hd) h) hp
  ·rename_i hw;rw[if_neg hw];exact ih Q _ _ hr (hk.upd hd) hp
 |both a b iha ihb=>
  intro Q env σ hl hk hp
  exact⟨iha Q env σ (fun t ht=>hl t (List.mem_append_left _ ht)) hk hp.1,ihb Q env σ (fun t ht=>hl t (List.mem_append_right _ ht)) hk hp.2⟩
 |loc t s y c ih=>intro Q env σ hl hk hp;exact⟨hp.1,ih Q env σ hl hk hp.2⟩
 |LX ops=>intro Q env σ hl hk hp;exact lu ops env σ hl hk hp
 |dR draw ops=>intro Q env σ hl hk hp;exact om ops env σ hl hk hp
 |seq a b iha ihb=>
  intro Q env σ hl hk hp
  refine ji (fun _ _ _ _ h=>h) aU a _ _ env σ (fun x e s hx=>?_) (iha _ env σ (fun t ht=>hl t (List.mem_append_left _ ht)) hk hp)
  cases x with
  |normal=>exact ihb Q e s (fun t ht=>hl t (List.mem_append_right _ ht)) hx.2 hx.1
  |exit id=>exact hx
  |ret=>exact hx
 |cond c a b iha ihb=>
  intro Q env σ hl hk hp
  unfold dI at hp ⊢
  split at hp
  ·rename_i t ht
   cases t with
   |true=>exact iha Q env σ (fun t ht=>hl t (List.mem_append_left _ ht)) hk hp
   |false=>exact ihb Q env σ (fun t ht=>hl t (List.mem_append_right _ ht)) hk hp
  ·exact hp.elim
 |block id a iha=>
  intro Q env σ hl hk hp
  refine ji (fun _ _ _ _ h=>h) aU a _ _ env σ (fun x e s hx=>?_) (iha _ env σ hl hk hp)
  obtain⟨hx,E8⟩:=hx
  cases x with
  |normal=>exact⟨hx,E8⟩
  |ret=>exact⟨hx,E8⟩
  |exit jR=>
   unfold aV at hx ⊢
   dsimp only at hx ⊢
   split at hx
   ·rename_i hid;rw[if_pos hid];exact⟨hx,E8⟩
   ·rename_i hid;rw[if_neg hid];exact⟨hx,E8⟩
 |loop a iha=>
  intro Q env σ hl hk hp
  obtain⟨n,hp⟩:=hp
  refine⟨n,?_⟩
  induction n generalizing env σ with
  |zero=>exact hp
  |succ n ihn=>
   refine ji (fun _ _ _ _ h=>h) aU _ _ _ _ _ (fun x e s hx=>?_) (iha _ env σ hl hk hp)
   obtain⟨hx,E8⟩:=hx
   cases x with
   |normal=>exact ihn e s E8 hx
   |exit id=>exact⟨hx,E8⟩
   |ret=>exact⟨hx,E8⟩
theorem aH {c:VC} (I:Nat->Env->ar->Prop) (n:Nat) (h0:I n env σ) (step:∀n e s,I n e s->fZ (wT c) env e->dI (Call P) c (fun x e s=>match x with| .normal=>∃m,m<n/\I m e s|x=>Q x e s) e s):dI (Call P) (.loop c) Q env σ:=by
 refine KH (fun n e s=>I n e s/\fZ (wT c) env e) n ⟨h0,fZ.refl _ _⟩ fun n e s hI=>?_
 refine ji (fun _ _ _ _ h=>h) aU _ _ _ _ _ (fun x e' s' hx=>?_) (xR c _ e s (fun _ h=>h) hI.2 (step n e s hI.1 hI.2))
 obtain⟨hx,hk⟩:=hx
 cases x with
 |normal=>obtain⟨m,hm,h⟩:=hx;exact⟨m,hm,h,hk⟩
 |exit id=>exact hx
 |ret=>exact hx
theorem IQ {k:Nat} (h:k<=9223372036854775807):IntKind.i64.wrap (k:Int)=k:=by rw[IntKind.wrap_i64];omega
theorem aZ {z:Int} (h: -9223372036854775808<=z/\z<=9223372036854775807):IntKind.i64.wrap z=z:=by rw[IntKind.wrap_i64];omega
theorem ax {k:Nat} (h:(k:Int)+1<=9223372036854775807):IntKind.i64.wrap ((k:Int)+1)=((k+1:Nat):Int):=by rw[IntKind.wrap_i64];omega
theorem all_succ {k:Nat} {p:Nat->Prop} (h:∀j,j<k->p j) (hk:p k):∀j,j<k+1->p j:=fun j hj=>by
 by_cases xi:j=k
 ·subst xi;exact hk
 ·exact h j (by omega)
theorem aK (g:Rows) (n:Nat) (k:IntKind) (m:Int):fz g (n+1) (.int k m)=some (.int k m):=by rw[fz]<;>intros<;>simp_all
theorem br (g:Rows) (n:Nat) (b:Bool):fz g (n+1) (.bool b)=some (.bool b):=by rw[fz]<;>intros<;>simp_all
theorem bI (g:Rows) (n:Nat) (b:ByteArray):fz g (n+1) (.str b)=some (.str b):=by rw[fz]<;>intros<;>simp_all
theorem cC (g:Rows) (n:Nat) (l:List (List AV)):fz g (n+1) (.sl l)=some (.sl l):=by rw[fz]<;>intros<;>simp_all
theorem bc (g:Rows) (n:Nat):fz g (n+1) .cu=some .cu:=by rw[fz]<;>intros<;>simp_all
theorem PS {t:Nat} {r r0:AV} {x:Ex} (hx:x=.ret∨x=.normal) (he:env t=r0) (hz:fz σ.get 6 r0=some r):j8 [.tmp t] (fun r0 σ'=>∃r',fz σ'.get 6 r0=some r'/\r'=r) x env σ:=by
 have:∃vs,eY env σ.get [.tmp t]=some vs/\∃r',fz σ.get 6 (fe vs)=some r'/\r'=r:=⟨[env t],rfl,r,by subst he;exact hz,rfl⟩
 rcases hx with rfl|rfl
 ·exact this
 ·exact this
def aj (P:Program) (f:Nat) (args:List AV) (r:AV):Prop:=∀n:Nat,Call P f args ⟨fun _=>none,n⟩ fun r0 σ'=>∃r',fX σ'.get 6 r0=some r'/\r'=r
theorem aj.body {f:Nat} {args:List AV} {r:AV} {nt na:Nat} {body:VC} {res:List mZ} (hf:np P f=some ⟨nt,na,body,res⟩) (ha:na=args.length) (h:(∀a∈args,dV a)->∀n:Nat,dI (Call P) body (j8 res fun r0 σ'=>∃r',fX σ'.get 6 r0=some r'/\r'=r) (cw args) ⟨fun _=>none,n⟩):aj P f args r:=fun n=>lG hf ha fun hl=>h hl n
theorem aj.x {f:Nat} {args fb:List AV} {r:AV} (h:aj P f fb r) {σ:ar} (hv:cH (eh σ.get) 6 args=some fb):ib (Call P) f args σ (fun r'=>r'=r):=.inr ⟨fb,hv,h _⟩
theorem l5.x {f:Nat} {args:List AV} {r:AV} (h:l5 P f args r) (σ:ar):ib (Call P) f args σ (fun r'=>r'=r):=.inl (h σ)
theorem dL (g:Rows) (n:Nat) (k:IntKind) (m:Int):fX g (n+1) (.int k m)=some (.int k m):=by rw[fX]<;>intros<;>simp_all
theorem dO (g:Rows) (n:Nat) (b:Bool):fX g (n+1) (.bool b)=some (.bool b):=by rw[fX]<;>intros<;>simp_all
theorem lN (g:Rows) (n:Nat):fX g (n+1) .cu=some .cu:=by rw[fX]<;>intros<;>simp_all
theorem dU (g:Rows) (n:Nat) (l:List AV):fX g (n+1) (.gN l)=(dS g n l).map AV.gN:=by rw[fX]
theorem yh (g:Rows) (n:Nat) (l:List AV):fX g (n+1) (.agg l)=(dS g n l).map AV.agg:=by rw[fX]
theorem tn {g:Rows} {n:Nat} {id:Id} {off len sz:Nat} {rows rows':List (List AV)} (h:g id=some ⟨true,sz,rows⟩) (hl:off+len<=rows.length) (hr:gL g n ((rows.drop off).take len)=some rows'):fX g (n+1) (.own id off len)=some (.sl rows'):=by
 rw[fX];simp only[h,if_true,if_pos hl,hr,Option.map_some]
theorem bx (g:Rows) (n:Nat):dS g n []=some []:=by rw[dS]
theorem aP (g:Rows) (n:Nat) (a:AV) (l:List AV):dS g n (a::l)=match fX g n a with
  |some b=>(dS g n l).map (b::·)
  |none=>none:=by rw[dS];cases fX g n a<;>rfl
theorem su {g:Rows} {n:Nat}:∀{l:List (List AV)},(∀c∈l,dS g n c=some c)->gL g n l=some l
 |[],_=>by rw[gL]
 |c::r,h=>by rw[gL,h c (by simp),su fun d hd=>h d (List.mem_cons_of_mem _ hd)];rfl
theorem bz (g:Rows) (n:Nat) (l:List AV):fz g (n+1) (.agg l)=(cH g n l).map AV.agg:=by rw[fz]
theorem aQ (g:Rows) (n:Nat) (l:List AV):fz g (n+1) (.bK l)=some (.bK l):=by rw[fz]<;>intros<;>simp_all
theorem rC {g:Rows} {n:Nat} {id:Id} {i off sz:Nat} {rows:List (List AV)} {cs pb:List AV} (h:g id=some ⟨true,sz,rows⟩) (hi:rows[i]? =some cs) (hr:cH g n (cs.drop off)=some pb):fz g (n+1) (.ptr id i off)=some (.bK pb):=by
 rw[fz];simp only[h,if_true,hi,hr,Option.map_some]
theorem aq (g:Rows) (n:Nat):cH g n []=some []:=by rw[cH]
theorem ao (g:Rows) (n:Nat) (a:AV) (l:List AV):cH g n (a::l)=match fz g n a with
  |some b=>(cH g n l).map (b::·)
  |none=>none:=by rw[cH];cases fz g n a<;>rfl
theorem vu {t:Nat} {r r0:AV} {x:Ex} (hx:x=.ret∨x=.normal) (he:env t=r0) (hz:fX σ.get 6 r0=some r):j8 [.tmp t] (fun r0 σ'=>∃r',fX σ'.get 6 r0=some r'/\r'=r) x env σ:=by
 have:∃vs,eY env σ.get [.tmp t]=some vs/\∃r',fX σ.get 6 (fe vs)=some r'/\r'=r:=⟨[env t],rfl,r,by subst he;exact hz,rfl⟩
 rcases hx with rfl|rfl
 ·exact this
 ·exact this
theorem aI {t:Nat} {b c:Bool} {x:Ex} (hx:x=.ret∨x=.normal) (he:env t=.bool b) (hb:b=c):j8 [.tmp t] (fun r0 σ'=>∃r',fX σ'.get 6 r0=some r'/\r'=.bool c) x env σ:=vu hx he (by rw[dO,hb])
theorem bj {t:Nat} {k:IntKind} {b c:Int} {x:Ex} (hx:x=.ret∨x=.normal) (he:env t=.int k b) (hb:b=c):j8 [.tmp t] (fun r0 σ'=>∃r',fX σ'.get 6 r0=some r'/\r'=.int k c) x env σ:=vu hx he (by rw[dL,hb])
theorem gz {t u:Nat} {r r1 r2:AV} {x:Ex} (hx:x=.ret∨x=.normal) (h1:env t=r1) (h2:env u=r2) (hz:fX σ.get 6 (.gN [r1,r2])=some r):j8 [.tmp t,.tmp u] (fun r0 σ'=>∃r',fX σ'.get 6 r0=some r'/\r'=r) x env σ:=by
 have:∃vs,eY env σ.get [.tmp t,.tmp u]=some vs/\∃r',fX σ.get 6 (fe vs)=some r'/\r'=r:=⟨[env t,env u],rfl,r,by subst h1;subst h2;exact hz,rfl⟩
 rcases hx with rfl|rfl
 ·exact this
 ·exact this
structure Pn (p:Prop):Prop where
 out:p
theorem tw {A B:Prop} (a:A) (b:B):A/\B:=⟨a,b⟩
theorem wk {A R G:Prop} (a:A) (r:R) (h:A->R->G:=by
  intro fL kk
  (repeat(refine Pn.mk ?_;intro N hN))
  (first|((first|apply Bt|apply Ev);intro N hN)|((first|(apply Nz;intro N hN)|(apply Eu;intro N hN));simp only[go_sem, ↓reduceIte,Nat.reduceEqDiff,Nat.reduceAdd,Nat.reduceSub,Nat.reduceMul,Nat.reduceLeDiff,Nat.reduceBEq,reduceCtorEq,Nat.reduceLT,Int.reduceLE,Int.reduceLT,Int.reduceToNat,Int.reduceNeg,Int.reduceAdd,Int.reduceEq,fL];first|(refine hN _ _ ?_;clear hN N)|skip)|(apply tJ;(simp only[go_sem, ↓reduceIte,Nat.reduceEqDiff,Nat.reduceAdd,Nat.reduceSub,Nat.reduceMul,Nat.reduceLeDiff,Nat.reduceBEq,reduceCtorEq,Nat.reduceLT,Int.reduceLE,Int.reduceLT,Int.reduceToNat,Int.reduceNeg,Int.reduceAdd,Int.reduceEq,fL];rfl);first|with_reducible apply nw.t|with_reducible apply nw.f)|(apply Bs;refine hN _ _ ?_;clear hN N;try(simp only[du,aV, ↓reduceIte,Nat.reduceEqDiff]);try(refine hN _ _ ?_;clear hN N))|apply tH|(refine zx ?_ ?_ ?_;(focus(simp only[go_sem, ↓reduceIte,Nat.reduceEqDiff,Nat.reduceAdd,Nat.reduceSub,Nat.reduceMul,Nat.reduceLeDiff,Nat.reduceBEq,reduceCtorEq,Nat.reduceLT,Int.reduceLE,Int.reduceLT,Int.reduceToNat,Int.reduceNeg,Int.reduceAdd,Int.reduceEq,fL];done));(focus(simp only[go_sem, ↓reduceIte,Nat.reduceEqDiff,Nat.reduceAdd,Nat.reduceSub,Nat.reduceMul,Nat.reduceLeDiff,Nat.reduceBEq,reduceCtorEq,Nat.reduceLT,Int.reduceLE,Int.reduceLT,Int.reduceToNat,Int.reduceNeg,Int.reduceAdd,Int.reduceEq,fL];done)))|((first|apply zy|apply zw|apply Ew);try(simp only[du,aV, ↓reduceIte,Nat.reduceEqDiff]);try(refine hN _ _ ?_;clear hN N))|((first|refine hN _ _ ?_|(clear hN N;first|refine hN _ _ ?_|(clear hN N;first|refine hN _ _ ?_|(clear hN N;first|refine hN _ _ ?_|(clear hN N;refine hN _ _ ?_)))));clear hN N))
  (repeat(first|((first|apply Bt|apply Ev);intro N hN)|((first|(apply Nz;intro N hN)|(apply Eu;intro N hN));simp only[go_sem, ↓reduceIte,Nat.reduceEqDiff,Nat.reduceAdd,Nat.reduceSub,Nat.reduceMul,Nat.reduceLeDiff,Nat.reduceBEq,reduceCtorEq,Nat.reduceLT,Int.reduceLE,Int.reduceLT,Int.reduceToNat,Int.reduceNeg,Int.reduceAdd,Int.reduceEq,fL];first|(refine hN _ _ ?_;clear hN N)|skip)|(apply tJ;(simp only[go_sem, ↓reduceIte,Nat.reduceEqDiff,Nat.reduceAdd,Nat.reduceSub,Nat.reduceMul,Nat.reduceLeDiff,Nat.reduceBEq,reduceCtorEq,Nat.reduceLT,Int.reduceLE,Int.reduceLT,Int.reduceToNat,Int.reduceNeg,Int.reduceAdd,Int.reduceEq,fL];rfl);first|with_reducible apply nw.t|with_reducible apply nw.f)|(apply Bs;refine hN _ _ ?_;clear hN N;try(simp only[du,aV, ↓reduceIte,Nat.reduceEqDiff]);try(refine hN _ _ ?_;clear hN N))|apply tH|(refine zx ?_ ?_ ?_;(focus(simp only[go_sem, ↓reduceIte,Nat.reduceEqDiff,Nat.reduceAdd,Nat.reduceSub,Nat.reduceMul,Nat.reduceLeDiff,Nat.reduceBEq,reduceCtorEq,Nat.reduceLT,Int.reduceLE,Int.reduceLT,Int.reduceToNat,Int.reduceNeg,Int.reduceAdd,Int.reduceEq,fL];done));(focus(simp only[go_sem, ↓reduceIte,Nat.reduceEqDiff,Nat.reduceAdd,Nat.reduceSub,Nat.reduceMul,Nat.reduceLeDiff,Nat.reduceBEq,reduceCtorEq,Nat.reduceLT,Int.reduceLE,Int.reduceLT,Int.reduceToNat,Int.reduceNeg,Int.reduceAdd,Int.reduceEq,fL];done)))|((first|apply zy|apply zw|apply Ew);try(simp only[du,aV, ↓reduceIte,Nat.reduceEqDiff]);try(refine hN _ _ ?_;clear hN N))|((first|refine hN _ _ ?_|(clear hN N;first|refine hN _ _ ?_|(clear hN N;first|refine hN _ _ ?_|(clear hN N;first|refine hN _ _ ?_|(clear hN N;refine hN _ _ ?_)))));clear hN N)))
  (repeat(revert hN;revert N;apply Pn.out))
  exact kk):G:=h a r
theorem wa {A R G:Prop} (a:A) (r:R) (h:A->R->G:=by
  intro fL kk
  (repeat(refine Pn.mk ?_;intro N hN))
  (first|((first|apply Bt|apply Ev);intro N hN)|((first|(refine Ly rfl fun N hN=>?_)|(apply Eu;intro N hN));simp only[go_sem, ↓reduceIte,Nat.reduceEqDiff,Nat.reduceAdd,Nat.reduceSub,Nat.reduceMul,Nat.reduceLeDiff,Nat.reduceBEq,reduceCtorEq,Nat.reduceLT,Int.reduceLE,Int.reduceLT,Int.reduceToNat,Int.reduceNeg,Int.reduceAdd,Int.reduceEq,fL];first|(refine hN _ _ ?_;clear hN N)|skip)|(apply tJ;(simp only[go_sem, ↓reduceIte,Nat.reduceEqDiff,Nat.reduceAdd,Nat.reduceSub,Nat.reduceMul,Nat.reduceLeDiff,Nat.reduceBEq,reduceCtorEq,Nat.reduceLT,Int.reduceLE,Int.reduceLT,Int.reduceToNat,Int.reduceNeg,Int.reduceAdd,Int.reduceEq,fL];rfl);first|with_reducible apply nw.t|with_reducible apply nw.f)|(apply Bs;refine hN _ _ ?_;clear hN N;try(simp only[du,aV, ↓reduceIte,Nat.reduceEqDiff]);try(refine hN _ _ ?_;clear hN N))|apply tH|(refine zx ?_ ?_ ?_;(focus(simp only[go_sem, ↓reduceIte,Nat.reduceEqDiff,Nat.reduceAdd,Nat.reduceSub,Nat.reduceMul,Nat.reduceLeDiff,Nat.reduceBEq,reduceCtorEq,Nat.reduceLT,Int.reduceLE,Int.reduceLT,Int.reduceToNat,Int.reduceNeg,Int.reduceAdd,Int.reduceEq,fL];done));(focus(simp only[go_sem, ↓reduceIte,Nat.reduceEqDiff,Nat.reduceAdd,Nat.reduceSub,Nat.reduceMul,Nat.reduceLeDiff,Nat.reduceBEq,reduceCtorEq,Nat.reduceLT,Int.reduceLE,Int.reduceLT,Int.reduceToNat,Int.reduceNeg,Int.reduceAdd,Int.reduceEq,fL];done)))|((first|apply zy|apply zw|apply Ew);try(simp only[du,aV, ↓reduceIte,Nat.reduceEqDiff]);try(refine hN _ _ ?_;clear hN N))|((first|refine hN _ _ ?_|(clear hN N;first|refine hN _ _ ?_|(clear hN N;first|refine hN _ _ ?_|(clear hN N;first|refine hN _ _ ?_|(clear hN N;refine hN _ _ ?_)))));clear hN N))
  (repeat(first|((first|apply Bt|apply Ev);intro N hN)|((first|(refine Ly rfl fun N hN=>?_)|(apply Eu;intro N hN));simp only[go_sem, ↓reduceIte,Nat.reduceEqDiff,Nat.reduceAdd,Nat.reduceSub,Nat.reduceMul,Nat.reduceLeDiff,Nat.reduceBEq,reduceCtorEq,Nat.reduceLT,Int.reduceLE,Int.reduceLT,Int.reduceToNat,Int.reduceNeg,Int.reduceAdd,Int.reduceEq,fL];first|(refine hN _ _ ?_;clear hN N)|skip)|(apply tJ;(simp only[go_sem, ↓reduceIte,Nat.reduceEqDiff,Nat.reduceAdd,Nat.reduceSub,Nat.reduceMul,Nat.reduceLeDiff,Nat.reduceBEq,reduceCtorEq,Nat.reduceLT,Int.reduceLE,Int.reduceLT,Int.reduceToNat,Int.reduceNeg,Int.reduceAdd,Int.reduceEq,fL];rfl);first|with_reducible apply nw.t|with_reducible apply nw.f)|(apply Bs;refine hN _ _ ?_;clear hN N;try(simp only[du,aV, ↓reduceIte,Nat.reduceEqDiff]);try(refine hN _ _ ?_;clear hN N))|apply tH|(refine zx ?_ ?_ ?_;(focus(simp only[go_sem, ↓reduceIte,Nat.reduceEqDiff,Nat.reduceAdd,Nat.reduceSub,Nat.reduceMul,Nat.reduceLeDiff,Nat.reduceBEq,reduceCtorEq,Nat.reduceLT,Int.reduceLE,Int.reduceLT,Int.reduceToNat,Int.reduceNeg,Int.reduceAdd,Int.reduceEq,fL];done));(focus(simp only[go_sem, ↓reduceIte,Nat.reduceEqDiff,Nat.reduceAdd,Nat.reduceSub,Nat.reduceMul,Nat.reduceLeDiff,Nat.reduceBEq,reduceCtorEq,Nat.reduceLT,Int.reduceLE,Int.reduceLT,Int.reduceToNat,Int.reduceNeg,Int.reduceAdd,Int.reduceEq,fL];done)))|((first|apply zy|apply zw|apply Ew);try(simp only[du,aV, ↓reduceIte,Nat.reduceEqDiff]);try(refine hN _ _ ?_;clear hN N))|((first|refine hN _ _ ?_|(clear hN N;first|refine hN _ _ ?_|(clear hN N;first|refine hN _ _ ?_|(clear hN N;first|refine hN _ _ ?_|(clear hN N;refine hN _ _ ?_)))));clear hN N)))
  (repeat(revert hN;revert N;apply Pn.out))
  exact kk):G:=h a r
theorem sd {A G:Prop} (a:A) (h:A->G:=by
  intro fL
  first|(simp only[go_sem, ↓reduceIte,Nat.reduceEqDiff,Nat.reduceAdd,Nat.reduceSub,Nat.reduceMul,Nat.reduceLeDiff,Nat.reduceBEq,reduceCtorEq,Nat.reduceLT,Int.reduceLE,Int.reduceLT,Int.reduceToNat,Int.reduceNeg,Int.reduceAdd,Int.reduceEq,fL,eY,gO];done)|fail):G:=h a
theorem sl {A G:Prop} (a:A) (h:A->G:=by
  intro fL
  (try simp only[go_sem, ↓reduceIte,Nat.reduceEqDiff,Nat.reduceAdd,Nat.reduceSub,Nat.reduceMul,Nat.reduceLeDiff,Nat.reduceBEq,reduceCtorEq,Nat.reduceLT,Int.reduceLE,Int.reduceLT,Int.reduceToNat,Int.reduceNeg,Int.reduceAdd,Int.reduceEq,fL])
  try rfl):G:=h a
end Go.Proofs.YtgoelphibofcmaaGreat.V

namespace Go.Proofs.YtgoelphibofcmaaGreat.V
open Go.RowKit
variable {P:Program} {X:fq} {env:Env} {σ:ar}
theorem cj (g:Rows) (n:Nat) (l:List AV):fz g (n+1) (.gN l)=(cH g n l).map AV.gN:=by rw[fz]
theorem cX (g:Rows) (n:Nat) (f:Nat) (l:List AV):fz g (n+1) (.fn f l)=if l.all AV.cell then(cH g n l).map (AV.fn f)else none:=by rw[fz]
theorem bt (g:Rows) (n:Nat) (id:Id) (i off:Nat):fz g (n+1) (.ptr id i off)=match g id with
  |some r=>if r.w then(match r.rows[i]? with
   |some cs=>(cH g n (cs.drop off)).map AV.bK
   |none=>none)else none
  |none=>none:=by rw[fz];rfl
theorem il (g:Rows) (n:Nat) (id:Id) (off len:Nat):fz g (n+1) (.own id off len)=match g id with
  |some r=>if r.w then(if off+len<=r.rows.length then(dJ g n ((r.rows.drop off).take len)).map AV.sl else none)else none
  |none=>none:=by rw[fz];rfl
theorem nM (g:Rows) (n:Nat):dJ g n []=some []:=by rw[dJ]
theorem yg (g:Rows) (n:Nat) (c:List AV) (l:List (List AV)):dJ g n (c::l)=match cH g n c with
  |some b=>(dJ g n l).map (b::·)
  |none=>none:=by rw[dJ];cases cH g n c<;>rfl
theorem um {g:Rows} {n:Nat}:∀{l:List (List AV)},(∀c∈l,cH g n c=some c)->dJ g n l=some l
 |[],_=>by rw[dJ]
 |c::r,h=>by rw[dJ,h c (by simp),um fun d hd=>h d (List.mem_cons_of_mem _ hd)];rfl
theorem mi {α:Type} {g:Rows} {n:Nat} {e:α->List AV} {l:List α} (h:∀x,cH g n (e x)=some (e x)):dJ g n (l.map e)=some (l.map e):=um fun c hc=>by
 obtain⟨x,_,rfl⟩:=List.mem_map.1 hc
 exact h x
theorem sC {α:Type} {g:Rows} {n:Nat} {e:α->List AV} {l:List α} (h:∀x,dS g n (e x)=some (e x)):gL g n (l.map e)=some (l.map e):=su fun c hc=>by
 obtain⟨x,_,rfl⟩:=List.mem_map.1 hc
 exact h x
theorem jx {α:Type} {g:Rows} {n:Nat} {e:α->List AV} {l:List α} {id:Id} {sz len:Nat} (hg:g id=some ⟨true,sz,l.map e⟩) (hl:len=l.length) (h:∀x,cH g n (e x)=some (e x)):fz g (n+1) (.own id 0 len)=some (.sl (l.map e)):=by
 subst hl
 rw[il];simp only[hg,if_true]
 rw[if_pos (by simp),List.drop_zero,List.take_of_length_le (by simp),mi h];rfl
theorem gZ {α:Type} {g:Rows} {n:Nat} {e:α->List AV} {l:List α} {id:Id} {sz len:Nat} (hg:g id=some ⟨true,sz,l.map e⟩) (hl:len=l.length) (h:∀x,dS g n (e x)=some (e x)):fX g (n+1) (.own id 0 len)=some (.sl (l.map e)):=by
 subst hl
 exact tn hg (by simp) (by rw[List.drop_zero,List.take_of_length_le (by simp),sC h])
theorem all_map {α:Type} {e:α->List AV} {sz:Nat} {l:List α} (h:∀x,(e x).length=sz/\(e x).all AV.cell=true):(l.map e).all (fun c=>c.length==sz&&c.all AV.cell)=true:=by
 rw[List.all_eq_true]
 intro c hc
 obtain⟨x,_,rfl⟩:=List.mem_map.1 hc
 simp[(h x).1,(h x).2]
def Oy (P:Program) (f:Nat) (args:List AV) (sz:Nat) (rows:List (List AV)):Prop:=(∀c∈rows,∀a∈c,a.plain=true)/\∀n:Nat,Call P f args ⟨fun _=>none,n⟩ fun r σ'=>∃id,r=.own id 0 rows.length/\σ'.get id=some ⟨true,sz,rows⟩
theorem Oy.x {f sz:Nat} {args fb:List AV} {rows:List (List AV)} (h:Oy P f fb sz rows) {σ:ar} (hv:cH (eh σ.get) 6 args=some fb):CM (Call P) f args σ sz rows:=⟨h.1,fb,hv,h.2 _⟩
theorem C1 {res:List mZ} {r:AV} {vs:List AV} {x:Ex} (hx:x=.ret∨x=.normal) (hv:eY env σ.get res=some vs) (hz:fz σ.get 6 (fe vs)=some r):j8 res (fun r0 σ'=>∃r',fz σ'.get 6 r0=some r'/\r'=r) x env σ:=by
 rcases hx with rfl|rfl
 ·exact⟨vs,hv,r,hz,rfl⟩
 ·exact⟨vs,hv,r,hz,rfl⟩
theorem n9 {res:List mZ} {r:AV} {vs:List AV} {x:Ex} (hx:x=.ret∨x=.normal) (hv:eY env σ.get res=some vs) (hz:fX σ.get 6 (fe vs)=some r):j8 res (fun r0 σ'=>∃r',fX σ'.get 6 r0=some r'/\r'=r) x env σ:=by
 rcases hx with rfl|rfl
 ·exact⟨vs,hv,r,hz,rfl⟩
 ·exact⟨vs,hv,r,hz,rfl⟩
theorem gD {res:List mZ} {K:AV->ar->Prop} {vs:List AV} {x:Ex} (hx:x=.ret∨x=.normal) (hv:eY env σ.get res=some vs) (hK:K (fe vs) σ):j8 res K x env σ:=by
 rcases hx with rfl|rfl
 ·exact⟨vs,hv,hK⟩
 ·exact⟨vs,hv,hK⟩
theorem gT {f:Nat} {args:List AV} {σ:ar} {K:AV->ar->Prop} {nt na:Nat} {body:VC} {res:List mZ} (hf:np P f=some ⟨nt,na,body,res⟩) (ha:na=args.length) (h:(∀a∈args,dV a)->dI (Call P) body (j8 res K) (cw args) σ):Call P f args σ K:=lG hf ha h
theorem Gs {f:Nat} {md:List (Nat×Nat)} {args:List AV} {σ:ar} {K:AV->ar->Prop} {nt na:Nat} {body:VC} {res:List mZ} (hf:wh P f md=some ⟨nt,na,body,res⟩) (ha:na=args.length) (h:(∀a∈args,dV a)->dI (Call P) body (j8 res K) (cw args) σ):Call P f args σ K:=tM hf ha h
theorem dv {i:Id} {n:Nat} (h:i.aW<n):(∀s,(i=⟨s,n⟩)=False/\(i=⟨s,n+1⟩)=False/\(i=⟨s,n+1+1⟩)=False/\(i=⟨s,n+1+1+1⟩)=False/\(i=⟨s,n+1+1+1+1⟩)=False/\(i=⟨s,n+1+1+1+1+1⟩)=False/\(i=⟨s,n+1+1+1+1+1+1⟩)=False/\(i=⟨s,n+1+1+1+1+1+1+1⟩)=False/\(i=⟨s,n+1+1+1+1+1+1+1+1⟩)=False/\(i=⟨s,n+1+1+1+1+1+1+1+1+1⟩)=False/\(⟨s,n⟩=i)=False/\(⟨s,n+1⟩=i)=False/\(⟨s,n+1+1⟩=i)=False/\(⟨s,n+1+1+1⟩=i)=False/\(⟨s,n+1+1+1+1⟩=i)=False/\(⟨s,n+1+1+1+1+1⟩=i)=False/\(⟨s,n+1+1+1+1+1+1⟩=i)=False/\(⟨s,n+1+1+1+1+1+1+1⟩=i)=False/\(⟨s,n+1+1+1+1+1+1+1+1⟩=i)=False/\(⟨s,n+1+1+1+1+1+1+1+1+1⟩=i)=False)/\(i.aW=n)=False/\(i.aW=n+1)=False/\(i.aW=n+1+1)=False/\(i.aW=n+1+1+1)=False/\(i.aW=n+1+1+1+1)=False/\(i.aW=n+1+1+1+1+1)=False/\(i.aW=n+1+1+1+1+1+1)=False/\(i.aW=n+1+1+1+1+1+1+1)=False/\(i.aW=n+1+1+1+1+1+1+1+1)=False/\(i.aW=n+1+1+1+1+1+1+1+1+1)=False:=by
 refine⟨fun s=>?_,?_⟩
 ·obtain⟨a,b⟩:=i
  simp only[Id.mk.injEq,eq_iff_iff,iff_false,not_and]
  simp only at h
  refine⟨?_,?_,?_,?_,?_,?_,?_,?_,?_,?_,?_,?_,?_,?_,?_,?_,?_,?_,?_,?_⟩<;>(intros;omega)
 ·simp only[eq_iff_iff,iff_false]
  refine⟨?_,?_,?_,?_,?_,?_,?_,?_,?_,?_⟩<;>omega
def pj (a b:Nat) (ids:List Id):Prop:=ids.Nodup/\∀i∈ids,a<=i.aW/\i.aW<b
def Kept (σ σ':ar):Prop:=σ.next<=σ'.next/\∀j:Id,j.aW<σ.next->σ'.get j=σ.get j
theorem Kept.trans {a b c:ar} (h:Kept a b) (k:Kept b c):Kept a c:=⟨Nat.le_trans h.1 k.1,fun j hj=>(k.2 j (Nat.lt_of_lt_of_le hj h.1)).trans (h.2 j hj)⟩
theorem pj.wide {a b a' b':Nat} {ids:List Id} (h:pj a b ids) (h1:a'<=a) (h2:b<=b'):pj a' b' ids:=⟨h.1,fun i hi=>⟨Nat.le_trans h1 (h.2 i hi).1,Nat.lt_of_lt_of_le (h.2 i hi).2 h2⟩⟩
theorem pj.app {a b c d:Nat} {i j:List Id} (h:pj a b i) (k:pj c d j) (Mv:b<=c) (sE:a<=b) (hcd:c<=d):pj a d (i++j):=
 ⟨List.nodup_append.2 ⟨h.1,k.1,fun x hx y hy e=>by subst e;have:=(h.2 x hx).2;have:=(k.2 x hy).1;omega⟩,fun x hx=>by
  rcases List.mem_append.1 hx with hx|hx
  ·have:=h.2 x hx;omega
  ·have:=k.2 x hx;omega⟩
end Go.Proofs.YtgoelphibofcmaaGreat.V

namespace Go.Proofs.YtgoelphibofcmaaGreat.V
open Go.RowKit
attribute [local irreducible] dI wpOps ib Call
attribute [local go_sem] aJ gu eW gR gQ cE upd cw K.av cY AV.cells AV.cell rowOf rowsOf part ld rowAt bB cr dY eG jq bP dq eT gP fx dE eK dn dm eu ew bU bp db bR de dc eI eL eJ da cm dp eH bQ aO di cI jo bE cU bV aY du aV ea AV.undef bG bJ eA eE ei ep cJ eR eV cG eO eM dh dj List.getD_cons_zero List.getD_cons_succ List.getD_nil List.all_cons List.all_nil Bool.and_true Bool.true_and Bool.and_self Bool.not_true Bool.not_false Option.map_some Option.map_none Option.bind_some Option.bind_none List.length_cons List.length_nil List.take_succ_cons List.take_zero List.take_nil List.drop_succ_cons List.drop_zero List.drop_nil List.head?_cons List.map_cons List.map_nil List.getElem?_cons_zero List.getElem?_cons_succ List.cons_append List.nil_append List.append_nil List.length_map List.set_cons_zero List.set_cons_succ Nat.reduceMul eq_self Int.toNat_natCast Int.natCast_nonneg and_self true_and and_true decide_true decide_false Bool.false_eq_true Nat.zero_add Nat.add_zero List.contains_cons List.contains_nil Bool.or_false Bool.false_or beq_self_eq_true Nat.reduceBEq ne_eq not_true_eq_false not_false_eq_true Id.mk.injEq false_and and_false Nat.reduceLT Int.reduceLE Int.reduceLT Int.reduceToNat Int.reduceNeg Int.reduceAdd Nat.le_refl List.length_append beq_true beq_false Bool.not_eq_eq_eq_not or_false false_or eh ao aq aK br bI cC bc bz aQ bt cX cj
variable {P:Program}
def Iv (f g z:Nat):zB:=let s:=f*1000000
 ⟨27,2,(.seq (.dR false [q 4 (.cD (.k (.int .i64 0))) s]) (.seq (.dR false [q 6 (.cD (.t 1)) (s+1000),q 7 (.cD (.t 0)) (s+1001),q 8 (.len (.t 7)) (s+1002),q 9 (.bin .sub .i64 (.t 6) (.t 8)) (s+1003),q 1 (.cD (.t 9)) (s+1004)]) (.seq (.seq (.dR false [q 10 (.cD (.t 1)) (s+2000),q 11 (.bin .lss .i64 (.t 10) (.k (.int .i64 0))) (s+2001)]) (.cond (.t 11) (.seq (.dR false [q 4 (.cD (.k (.int .i64 (-1)))) (s+3000)]) .ret) .skip)) (.seq (.seq (.dR false [q 5 (.cD (.k (.int .i64 0))) (s+4000)]) (.block 0 (.loop (.seq (.seq (.dR false [q 12 (.cD (.t 5)) (s+5000),q 13 (.cD (.t 0)) (s+5001),q 14 (.len (.t 13)) (s+5002),q 15 (.bin .lss .i64 (.t 12) (.t 14)) (s+5003)]) (.cond (.t 15) .skip (.exit 0))) (.seq (.block 1 (.seq (.dR false [q 18 (.cD (.t 0)) (s+7000),q 19 (.cD (.t 5)) (s+7001),q 20 (.dw z (.t 18) (.t 19)) (s+7002),q 21 (.load true z (.t 20)) (s+7003),q 22 (.cD (.t 1)) (s+7004),q 23 (.call g [(.t 21),(.t 22)]) (s+7005),q 1 (.cD (.t 23)) (s+7006)]) (.seq (.dR false [q 24 (.cD (.t 1)) (s+8000),q 25 (.bin .lss .i64 (.t 24) (.k (.int .i64 0))) (s+8001)]) (.cond (.t 25) (.seq (.dR false [q 4 (.cD (.k (.int .i64 (-1)))) (s+9000)]) .ret) .skip)))) (.dR false [q 16 (.cD (.t 5)) (s+6000),q 17 (.bin .add .i64 (.t 16) (.k (.int .i64 1))) (s+6001),q 5 (.cD (.t 17)) (s+6002)])))))) (.seq (.dR false [q 26 (.cD (.t 1)) (s+10000),q 4 (.cD (.t 26)) (s+10001)]) .ret))))),[(.tmp 4)]⟩
def It (f:Nat):zB:=let s:=f*1000000
 ⟨12,2,(.seq (.dR false [q 4 (.cD (.k (.int .i64 0))) s]) (.seq (.dR false [q 5 (.cD (.t 1)) (s+1000),q 6 (.cD (.t 0)) (s+1001),q 7 (.len (.t 6)) (s+1002),q 8 (.bin .sub .i64 (.t 5) (.t 7)) (s+1003),q 1 (.cD (.t 8)) (s+1004)]) (.seq (.seq (.dR false [q 9 (.cD (.t 1)) (s+2000),q 10 (.bin .lss .i64 (.t 9) (.k (.int .i64 0))) (s+2001)]) (.cond (.t 10) (.seq (.dR false [q 4 (.cD (.k (.int .i64 (-1)))) (s+3000)]) .ret) .skip)) (.seq (.dR false [q 11 (.cD (.t 1)) (s+4000),q 4 (.cD (.t 11)) (s+4001)]) .ret)))),[(.tmp 4)]⟩
def DN (f g z:Nat):zB:=let s:=f*1000000
 ⟨27,2,(.seq (.dR false [q 4 (.cD (.k (.bool false))) s]) (.seq (.seq (.dR false [q 6 (.cD (.t 0)) (s+1000),q 7 (.len (.t 6)) (s+1001),q 8 (.cD (.t 1)) (s+1002),q 9 (.len (.t 8)) (s+1003),q 10 (.L4 true .tI (.t 7) (.t 9)) (s+1004)]) (.cond (.t 10) (.seq (.dR false [q 4 (.cD (.k (.bool false))) (s+2000)]) .ret) .skip)) (.seq (.seq (.dR false [q 5 (.cD (.k (.int .i64 0))) (s+3000)]) (.block 0 (.loop (.seq (.seq (.dR false [q 11 (.cD (.t 5)) (s+4000),q 12 (.cD (.t 0)) (s+4001),q 13 (.len (.t 12)) (s+4002),q 14 (.bin .lss .i64 (.t 11) (.t 13)) (s+4003)]) (.cond (.t 14) .skip (.exit 0))) (.seq (.block 1 (.seq (.dR true [q 17 (.cD (.t 0)) (s+6000),q 18 (.cD (.t 5)) (s+6001),q 19 (.dw z (.t 17) (.t 18)) (s+6002),q 20 (.load true z (.t 19)) (s+6003),q 21 (.cD (.t 1)) (s+6004),q 22 (.cD (.t 5)) (s+6005),q 23 (.dw z (.t 21) (.t 22)) (s+6006),q 24 (.load true z (.t 23)) (s+6007),q 25 (.call g [(.t 20),(.t 24)]) (s+6008),q 26 (.not (.t 25)) (s+6009)]) (.cond (.t 26) (.seq (.dR false [q 4 (.cD (.k (.bool false))) (s+7000)]) .ret) .skip))) (.dR false [q 15 (.cD (.t 5)) (s+5000),q 16 (.bin .add .i64 (.t 15) (.k (.int .i64 1))) (s+5001),q 5 (.cD (.t 16)) (s+5002)])))))) (.seq (.dR false [q 4 (.cD (.k (.bool true))) (s+8000)]) .ret)))),[(.tmp 4)]⟩
def K0 (f:Nat) (t:TS):zB:=let s:=f*1000000
 ⟨26,2,(.seq (.dR false [q 4 (.cD (.k (.bool false))) s]) (.seq (.seq (.dR false [q 6 (.cD (.t 0)) (s+1000),q 7 (.len (.t 6)) (s+1001),q 8 (.cD (.t 1)) (s+1002),q 9 (.len (.t 8)) (s+1003),q 10 (.L4 true .tI (.t 7) (.t 9)) (s+1004)]) (.cond (.t 10) (.seq (.dR false [q 4 (.cD (.k (.bool false))) (s+2000)]) .ret) .skip)) (.seq (.seq (.dR false [q 5 (.cD (.k (.int .i64 0))) (s+3000)]) (.block 0 (.loop (.seq (.seq (.dR false [q 11 (.cD (.t 5)) (s+4000),q 12 (.cD (.t 0)) (s+4001),q 13 (.len (.t 12)) (s+4002),q 14 (.bin .lss .i64 (.t 11) (.t 13)) (s+4003)]) (.cond (.t 14) .skip (.exit 0))) (.seq (.block 1 (.seq (.dR true [q 17 (.cD (.t 0)) (s+6000),q 18 (.cD (.t 5)) (s+6001),q 19 (.dw 1 (.t 17) (.t 18)) (s+6002),q 20 (.load false 1 (.t 19)) (s+6003),q 21 (.cD (.t 1)) (s+6004),q 22 (.cD (.t 5)) (s+6005),q 23 (.dw 1 (.t 21) (.t 22)) (s+6006),q 24 (.load false 1 (.t 23)) (s+6007),q 25 (.L4 true t (.t 20) (.t 24)) (s+6008)]) (.cond (.t 25) (.seq (.dR false [q 4 (.cD (.k (.bool false))) (s+7000)]) .ret) .skip))) (.dR false [q 15 (.cD (.t 5)) (s+5000),q 16 (.bin .add .i64 (.t 15) (.k (.int .i64 1))) (s+5001),q 5 (.cD (.t 16)) (s+5002)])))))) (.seq (.dR false [q 4 (.cD (.k (.bool true))) (s+8000)]) .ret)))),[(.tmp 4)]⟩
def Er (f g z:Nat) (zero:List K):zB:=let s:=f*1000000
 ⟨23,1,(.seq (.dR false [q 2 (.cD (.k .cu)) s]) (.seq (.dR false [q 5 (.cD (.t 0)) (s+1000),q 6 (.len (.t 5)) (s+1001),q 7 (.jI zero (.t 6) (.t 6)) (s+1002),q 3 (.cD (.t 7)) (s+1003)]) (.seq (.seq (.dR false [q 4 (.cD (.k (.int .i64 0))) (s+2000)]) (.block 0 (.loop (.seq (.seq (.dR false [q 8 (.cD (.t 4)) (s+3000),q 9 (.cD (.t 0)) (s+3001),q 10 (.len (.t 9)) (s+3002),q 11 (.bin .lss .i64 (.t 8) (.t 10)) (s+3003)]) (.cond (.t 11) .skip (.exit 0))) (.seq (.block 1 (.dR false [q 14 (.cD (.t 3)) (s+5000),q 15 (.cD (.t 4)) (s+5001),q 16 (.cD (.t 0)) (s+5002),q 17 (.cD (.t 4)) (s+5003),q 18 (.dw z (.t 16) (.t 17)) (s+5004),q 19 (.load true z (.t 18)) (s+5005),q 20 (.call g [(.t 19)]) (s+5006),q 21 (.dw z (.t 14) (.t 15)) (s+5007),⟨none,(.store z (.t 21) (.t 20)),none,(s+5008),[]⟩])) (.dR false [q 12 (.cD (.t 4)) (s+4000),q 13 (.bin .add .i64 (.t 12) (.k (.int .i64 1))) (s+4001),q 4 (.cD (.t 13)) (s+4002)])))))) (.seq (.dR false [q 22 (.cD (.t 3)) (s+6000),q 2 (.cD (.t 22)) (s+6001)]) .ret)))),[(.tmp 2)]⟩
def Lw (f:Nat) (zero:K):zB:=let s:=f*1000000
 ⟨22,1,(.seq (.dR false [q 2 (.cD (.k .cu)) s]) (.seq (.dR false [q 5 (.cD (.t 0)) (s+1000),q 6 (.len (.t 5)) (s+1001),q 7 (.jI [zero] (.t 6) (.t 6)) (s+1002),q 3 (.cD (.t 7)) (s+1003)]) (.seq (.seq (.dR false [q 4 (.cD (.k (.int .i64 0))) (s+2000)]) (.block 0 (.loop (.seq (.seq (.dR false [q 8 (.cD (.t 4)) (s+3000),q 9 (.cD (.t 0)) (s+3001),q 10 (.len (.t 9)) (s+3002),q 11 (.bin .lss .i64 (.t 8) (.t 10)) (s+3003)]) (.cond (.t 11) .skip (.exit 0))) (.seq (.block 1 (.dR false [q 14 (.cD (.t 3)) (s+5000),q 15 (.cD (.t 4)) (s+5001),q 16 (.cD (.t 0)) (s+5002),q 17 (.cD (.t 4)) (s+5003),q 18 (.dw 1 (.t 16) (.t 17)) (s+5004),q 19 (.load false 1 (.t 18)) (s+5005),q 20 (.dw 1 (.t 14) (.t 15)) (s+5006),⟨none,(.store 1 (.t 20) (.t 19)),none,(s+5007),[]⟩])) (.dR false [q 12 (.cD (.t 4)) (s+4000),q 13 (.bin .add .i64 (.t 12) (.k (.int .i64 1))) (s+4001),q 4 (.cD (.t 13)) (s+4002)])))))) (.seq (.dR false [q 21 (.cD (.t 3)) (s+6000),q 2 (.cD (.t 21)) (s+6001)]) .ret)))),[(.tmp 2)]⟩
def wM (n:Nat) (l:Int):Int:=if (n:Int)<=l then l-n else -1
theorem Iu {fk:Nat} (hc:np P fk=some (It fk)) (rows:List (List AV)) (left:Int) (h0:0<=left) (h1:left<=1048576):aj P fk [.sl rows,.int .i64 left] (.int .i64 (wM rows.length left)):=by
 refine aj.body hc rfl fun hl n0=>?_
 try simp only[q]
 have hn:rows.length<=9223372036854775807:=(hl (.sl rows) (by simp)).len
 clear hl
 have hw:IntKind.i64.wrap (left-(rows.length:Int))=left-rows.length:=aZ (by omega)
 by_cases hf:(rows.length:Int)<=left
 ·have jO:¬left-(rows.length:Int)<0:=by omega
  (try((repeat(revert hN;revert N;apply Pn.out));refine wk (tw @hw @jO) ?_;(repeat(refine Pn.mk ?_;intro N hN))))
  exact bj (b:=left-(rows.length:Int)) (.inl rfl) (sd @Nat.zero_add) (by rw[wM,if_pos hf])
 ·have jO:left-(rows.length:Int)<0:=by omega
  (try((repeat(revert hN;revert N;apply Pn.out));refine wk (tw @hw @jO) ?_;(repeat(refine Pn.mk ?_;intro N hN))))
  exact bj (b:=-1) (.inl rfl) (sd @Nat.zero_add) (by rw[wM,if_neg hf])
def kI {α:Type} (f:α->Nat) (xs:List α) (k:Nat):Nat:=((xs.take k).map f).sum
theorem oK {α:Type} (f:α->Nat) (xs:List α):kI f xs 0=0:=by simp[kI]
theorem Iq {α:Type} (f:α->Nat) (xs:List α):kI f xs xs.length=(xs.map f).sum:=by simp[kI]
theorem Dg {α:Type} (f:α->Nat) {xs:List α} {k:Nat} (hk:k<xs.length):kI f xs (k+1)=kI f xs k+f xs[k]:=by
 unfold kI
 rw[List.take_succ_eq_append_getElem hk,List.map_append,List.sum_append];simp
theorem wL {α:Type} (f:α->Nat) (xs:List α) (k:Nat):kI f xs k<=(xs.map f).sum:=by
 unfold kI
 conv=>rhs;rw[<-List.take_append_drop k xs]
 rw[List.map_append,List.sum_append];omega
theorem Iw {α:Type} {e:α->List AV} {z fk gk:Nat} (wt:α->Nat) (hc:np P fk=some (Iv fk gk z)) (hz:∀x,(e x).length=z) (BA:∀x g,cH g 6 [.agg (e x)]=some [.agg (e x)]) (xs:List α) (left:Int) (h0:0<=left) (h1:left<=1048576)
  (hg:∀x∈xs,∀l:Int,0<=l->l<=1048576->aj P gk [.agg (e x),.int .i64 l] (.int .i64 (wM (wt x) l))):aj P fk [.sl (xs.map e),.int .i64 left] (.int .i64 (wM (xs.length+(xs.map wt).sum) left)):=by
 refine aj.body hc rfl fun hl n0=>?_
 try simp only[q]
 have hn:xs.length<=9223372036854775807:=by simpa using(hl (.sl (xs.map e)) (by simp)).len
 clear hl
 have hw:IntKind.i64.wrap (left-(xs.length:Int))=left-xs.length:=aZ (by omega)
 by_cases hf:(xs.length:Int)<=left
 ·have jO:¬left-(xs.length:Int)<0:=by omega
  (try((repeat(revert hN;revert N;apply Pn.out));refine wk (tw @hw @jO) ?_;(repeat(refine Pn.mk ?_;intro N hN))))
  refine aH (fun n env st=>∃k:Nat,n=(xs.length)-k/\k<=(xs.length)/\env 5=.int .i64 (k:Int)/\env 1=(.int .i64 (left-xs.length-(kI wt xs k:Nat)))/\(0<=left-xs.length-(kI wt xs k:Nat))) (xs.length) ⟨0,by omega,by omega,sl (tw @oK (tw @Int.natCast_zero @Int.sub_zero)),sl (tw @oK (tw @Int.natCast_zero @Int.sub_zero)),(by rw[oK];omega)⟩ ?_
  rintro n_a env_a st_a ⟨k,rfl,ale,a5,a1,nf⟩ dt
  have a0:=dt 0 (by kernel_rfl)
  simp only[go_sem, ↓reduceIte,Nat.reduceEqDiff,Nat.reduceAdd,Nat.reduceSub,Nat.reduceLeDiff,reduceCtorEq,oK,Int.natCast_zero,Int.sub_zero]at a0
  clear dt
  by_cases hk:(k:Int)<(xs.length:Int)
  ·have bY:∀{e:Env},(e 5=.int .i64 (IntKind.i64.wrap ((k:Int)+1)))->(e 1=(.int .i64 (left-xs.length-(kI wt xs (k+1):Nat))))->(0<=left-xs.length-(kI wt xs (k+1):Nat))->∃m0,m0<(xs.length)-k/\∃k:Nat,m0=(xs.length)-k/\k<=(xs.length)/\e 5=.int .i64 (k:Int)/\e 1=(.int .i64 (left-xs.length-(kI wt xs k:Nat)))/\(0<=left-xs.length-(kI wt xs k:Nat)):=fun x1 x2 x3=>⟨_,by omega,k+1,rfl,by omega,(by rw[x1,ax (by omega)]),x2,x3⟩
   have eZ:k<xs.length:=by omega
   have eo:(xs.map e)[k]? =some (e xs[k]):=by simp[eZ]
   have v7:=hz xs[k]
   have ht:(e xs[k]).take z=e xs[k]:=by rw[<-v7,List.take_length]
   have hs:=Dg wt eZ
   have Az:=wL wt xs (k+1)
   have iL:=hg _ (List.getElem_mem eZ) (left-xs.length-(kI wt xs k:Nat)) nf (by omega)
   have kf:cH (eh st_a.get) 6 [.agg (e xs[k]),.int .i64 (left-xs.length-(kI wt xs k:Nat))]=some [.agg (e xs[k]),.int .i64 (left-xs.length-(kI wt xs k:Nat))]:=by
    have q1:=BA xs[k] (eh st_a.get)
    rw[ao,aq]at q1
    rw[ao,ao,aq,aK]
    revert q1
    cases V.fz (eh st_a.get) 6 (.agg (e xs[k]))<;>simp
   by_cases Ao:(wt xs[k]:Int)<=left-xs.length-(kI wt xs k:Nat)
   ·rw[wM,if_pos Ao]at iL
    have Gk:¬left-xs.length-(kI wt xs k:Nat)-(wt xs[k]:Int)<0:=by omega
    have iR:left-xs.length-(kI wt xs k:Nat)-(wt xs[k]:Int)=left-xs.length-(kI wt xs (k+1):Nat):=by rw[hs];omega
    generalize hex:e xs[k]=c at iL kf eo v7 ht
    (try((repeat(revert hN;revert N;apply Pn.out));refine wk (tw @a5 (tw @a1 (tw @a0 (tw @hk (tw @eo (tw @v7 (tw @ht @Nat.le_refl))))))) ?_;(repeat(refine Pn.mk ?_;intro N hN))))
    refine .inl ⟨_,aj.x iL kf,?_⟩
    refine hN _ _ ?_
    clear hN N
    (try((repeat(revert hN;revert N;apply Pn.out));refine wk (tw @a5 (tw @a1 (tw @a0 @Gk))) ?_;(repeat(refine Pn.mk ?_;intro N hN))))
    refine bY ?_ ?_ ((by rw[hs];omega))
    all_goals simp only[go_sem, ↓reduceIte,Nat.reduceEqDiff,Nat.reduceAdd,Nat.reduceSub,Nat.reduceLeDiff,reduceCtorEq,a5,a1,a0,iR]
   ·rw[wM,if_neg Ao]at iL
    generalize hex:e xs[k]=c at iL kf eo v7 ht
    (try((repeat(revert hN;revert N;apply Pn.out));refine wk (tw @a5 (tw @a1 (tw @a0 (tw @hk (tw @eo (tw @v7 (tw @ht @Nat.le_refl))))))) ?_;(repeat(refine Pn.mk ?_;intro N hN))))
    refine .inl ⟨_,aj.x iL kf,?_⟩
    refine hN _ _ ?_
    clear hN N
    (try((repeat(revert hN;revert N;apply Pn.out));refine wk (tw @a5 (tw @a1 @a0)) ?_;(repeat(refine Pn.mk ?_;intro N hN))))
    exact bj (b:=-1) (.inl rfl) (sd @Nat.zero_add) (by rw[wM,if_neg (by omega)])
  ·(try((repeat(revert hN;revert N;apply Pn.out));refine wk (tw @a5 (tw @a1 (tw @a0 @hk))) ?_;(repeat(refine Pn.mk ?_;intro N hN))))
   have eZ:k=xs.length:=by omega
   subst eZ
   have I3:=Iq wt xs
   exact bj (b:=left-xs.length-(kI wt xs xs.length:Nat)) (.inl rfl) (sd (tw @a5 (tw @a1 @a0))) (by rw[wM,if_pos (by omega)];omega)
 ·have jO:left-(xs.length:Int)<0:=by omega
  (try((repeat(revert hN;revert N;apply Pn.out));refine wk (tw @hw @jO) ?_;(repeat(refine Pn.mk ?_;intro N hN))))
  exact bj (b:=-1) (.inl rfl) (sd @Nat.zero_add) (by rw[wM,if_neg (by omega)])
theorem G4 {α:Type} {xs ys:List α} (hl:xs.length=ys.length) (h:∀j:Nat,j<xs.length->∀(h1:j<xs.length) (h2:j<ys.length),xs[j]=ys[j]):xs=ys:=List.ext_getElem hl fun j h1 h2=>h j h1 h1 h2
theorem B6 {α:Type} [DecidableEq α] {e:α->List AV} {z fk gk:Nat} (hc:np P fk=some (DN fk gk z)) (hz:∀x,(e x).length=z) (BA:∀x g,cH g 6 [.agg (e x)]=some [.agg (e x)]) (xs ys:List α)
  (hg:∀x y,aj P gk [.agg (e x),.agg (e y)] (.bool (decide (x=y)))):aj P fk [.sl (xs.map e),.sl (ys.map e)] (.bool (decide (xs=ys))):=by
 refine aj.body hc rfl fun hl n0=>?_
 try simp only[q]
 have hn:xs.length<=9223372036854775807:=by simpa using(hl (.sl (xs.map e)) (by simp)).len
 clear hl
 by_cases hlen:xs.length=ys.length
 ·have kr:decide ((xs.length:Int)=(ys.length:Int))=true:=by simp[hlen]
  (try((repeat(revert hN;revert N;apply Pn.out));refine wk @kr ?_;(repeat(refine Pn.mk ?_;intro N hN))))
  refine aH (fun n env st=>∃k:Nat,n=(xs.length)-k/\k<=(xs.length)/\env 5=.int .i64 (k:Int)/\(∀j:Nat,j<k->∀(h1:j<xs.length) (h2:j<ys.length),xs[j]=ys[j])) (xs.length) ⟨0,by omega,by omega,sl @Nat.zero_add,fun _ h=>absurd h (Nat.not_lt_zero _)⟩ ?_
  rintro n_a env_a st_a ⟨k,rfl,ale,a5,kO⟩ dt
  have a0:=dt 0 (by kernel_rfl);have a1:=dt 1 (by kernel_rfl)
  simp only[go_sem, ↓reduceIte,Nat.reduceEqDiff,Nat.reduceAdd,Nat.reduceSub,Nat.reduceLeDiff,reduceCtorEq]at a0 a1
  clear dt
  by_cases hk:(k:Int)<(xs.length:Int)
  ·have bY:∀{e:Env},(e 5=.int .i64 (IntKind.i64.wrap ((k:Int)+1)))->(∀(h1:k<xs.length) (h2:k<ys.length),xs[k]=ys[k])->∃m0,m0<(xs.length)-k/\∃k:Nat,m0=(xs.length)-k/\k<=(xs.length)/\e 5=.int .i64 (k:Int)/\(∀j:Nat,j<k->∀(h1:j<xs.length) (h2:j<ys.length),xs[j]=ys[j]):=fun x1 x2=>⟨_,by omega,k+1,rfl,by omega,(by rw[x1,ax (by omega)]),(all_succ kO x2)⟩
   have eZ:k<xs.length:=by omega
   have QI:k<ys.length:=by omega
   have eo:(xs.map e)[k]? =some (e xs[k]):=by simp[eZ]
   have Cu:(ys.map e)[k]? =some (e ys[k]):=by simp[QI]
   have v7:=hz xs[k]
   have CC:=hz ys[k]
   have ht:(e xs[k]).take z=e xs[k]:=by rw[<-v7,List.take_length]
   have Gm:(e ys[k]).take z=e ys[k]:=by rw[<-CC,List.take_length]
   have iL:=hg xs[k] ys[k]
   have kf:∀g,cH g 6 [.agg (e xs[k]),.agg (e ys[k])]=some [.agg (e xs[k]),.agg (e ys[k])]:=fun g=>by
    have q1:=BA xs[k] g
    have q2:=BA ys[k] g
    rw[ao,aq]at q1
    rw[ao,q2]
    revert q1
    cases V.fz g 6 (.agg (e xs[k]))<;>simp
   by_cases heq:xs[k]=ys[k]
   ·rw[decide_eq_true heq]at iL
    generalize hex:e xs[k]=c at iL kf eo v7 ht
    generalize hey:e ys[k]=d at iL kf Cu CC Gm
    (try((repeat(revert hN;revert N;apply Pn.out));refine wk (tw @a5 (tw @a0 (tw @a1 (tw @hk (tw @eo (tw @Cu (tw @v7 (tw @CC (tw @ht (tw @Gm @Nat.le_refl)))))))))) ?_;(repeat(refine Pn.mk ?_;intro N hN))))
    refine⟨_,aj.x iL (kf _),?_⟩
    refine hN _ _ ?_
    clear hN N
    (try((repeat(revert hN;revert N;apply Pn.out));refine wk (tw @a5 (tw @a0 @a1)) ?_;(repeat(refine Pn.mk ?_;intro N hN))))
    exact bY (sd (tw @a5 (tw @a0 @a1))) (fun _ _=>heq)
   ·rw[decide_eq_false heq]at iL
    generalize hex:e xs[k]=c at iL kf eo v7 ht
    generalize hey:e ys[k]=d at iL kf Cu CC Gm
    (try((repeat(revert hN;revert N;apply Pn.out));refine wk (tw @a5 (tw @a0 (tw @a1 (tw @hk (tw @eo (tw @Cu (tw @v7 (tw @CC (tw @ht (tw @Gm @Nat.le_refl)))))))))) ?_;(repeat(refine Pn.mk ?_;intro N hN))))
    refine⟨_,aj.x iL (kf _),?_⟩
    refine hN _ _ ?_
    clear hN N
    (try((repeat(revert hN;revert N;apply Pn.out));refine wk (tw @a5 (tw @a0 @a1)) ?_;(repeat(refine Pn.mk ?_;intro N hN))))
    exact aI (b:=false) (.inl rfl) (sd @Nat.zero_add) (decide_eq_false fun h=>heq (List.getElem_of_eq h _)).symm
  ·(try((repeat(revert hN;revert N;apply Pn.out));refine wk (tw @a5 (tw @a0 (tw @a1 @hk))) ?_;(repeat(refine Pn.mk ?_;intro N hN))))
   exact aI (b:=true) (.inl rfl) (sd @Nat.zero_add) (decide_eq_true (G4 hlen fun j hj h1 h2=>kO j (by omega) h1 h2)).symm
 ·have kr:decide ((xs.length:Int)=(ys.length:Int))=false:=decide_eq_false fun h=>hlen (by omega)
  (try((repeat(revert hN;revert N;apply Pn.out));refine wk @kr ?_;(repeat(refine Pn.mk ?_;intro N hN))))
  exact aI (b:=false) (.inl rfl) (sd @Nat.zero_add) (decide_eq_false fun h=>hlen (by subst h;rfl)).symm
theorem OK {fk:Nat} (hc:np P fk=some (K0 fk .tI)) (xs ys:List Int):
  aj P fk [.sl (xs.map fun x=>[AV.int .i64 x]),.sl (ys.map fun x=>[AV.int .i64 x])] (.bool (decide (xs=ys))):=by
 refine aj.body hc rfl fun hl n0=>?_
 try simp only[q]
 have hn:xs.length<=9223372036854775807:=by simpa using(hl (.sl (xs.map fun x=>[AV.int .i64 x])) (by simp)).len
 clear hl
 by_cases hlen:xs.length=ys.length
 ·have kr:decide ((xs.length:Int)=(ys.length:Int))=true:=by simp[hlen]
  (try((repeat(revert hN;revert N;apply Pn.out));refine wk @kr ?_;(repeat(refine Pn.mk ?_;intro N hN))))
  refine aH (fun n env st=>∃k:Nat,n=(xs.length)-k/\k<=(xs.length)/\env 5=.int .i64 (k:Int)/\(∀j:Nat,j<k->∀(h1:j<xs.length) (h2:j<ys.length),xs[j]=ys[j])) (xs.length) ⟨0,by omega,by omega,sl @Nat.zero_add,fun _ h=>absurd h (Nat.not_lt_zero _)⟩ ?_
  rintro n_a env_a st_a ⟨k,rfl,ale,a5,kO⟩ dt
  have a0:=dt 0 (by kernel_rfl);have a1:=dt 1 (by kernel_rfl)
  simp only[go_sem, ↓reduceIte,Nat.reduceEqDiff,Nat.reduceAdd,Nat.reduceSub,Nat.reduceLeDiff,reduceCtorEq]at a0 a1
  clear dt
  by_cases hk:(k:Int)<(xs.length:Int)
  ·have bY:∀{e:Env},(e 5=.int .i64 (IntKind.i64.wrap ((k:Int)+1)))->(∀(h1:k<xs.length) (h2:k<ys.length),xs[k]=ys[k])->∃m0,m0<(xs.length)-k/\∃k:Nat,m0=(xs.length)-k/\k<=(xs.length)/\e 5=.int .i64 (k:Int)/\(∀j:Nat,j<k->∀(h1:j<xs.length) (h2:j<ys.length),xs[j]=ys[j]):=fun x1 x2=>⟨_,by omega,k+1,rfl,by omega,(by rw[x1,ax (by omega)]),(all_succ kO x2)⟩
   have eZ:k<xs.length:=by omega
   have QI:k<ys.length:=by omega
   have eo:(xs.map fun x=>[AV.int .i64 x])[k]? =some [.int .i64 xs[k]]:=by simp[eZ]
   have Cu:(ys.map fun x=>[AV.int .i64 x])[k]? =some [.int .i64 ys[k]]:=by simp[QI]
   by_cases heq:xs[k]=ys[k]
   ·have hq:=decide_eq_true heq
    (try((repeat(revert hN;revert N;apply Pn.out));refine wk (tw @a5 (tw @a0 (tw @a1 (tw @hk (tw @eo (tw @Cu @hq)))))) ?_;(repeat(refine Pn.mk ?_;intro N hN))))
    exact bY (sd (tw @a5 (tw @a0 @a1))) (fun _ _=>heq)
   ·have hq:=decide_eq_false heq
    (try((repeat(revert hN;revert N;apply Pn.out));refine wk (tw @a5 (tw @a0 (tw @a1 (tw @hk (tw @eo (tw @Cu @hq)))))) ?_;(repeat(refine Pn.mk ?_;intro N hN))))
    exact aI (b:=false) (.inl rfl) (sd @Nat.zero_add) (decide_eq_false fun h=>heq (List.getElem_of_eq h _)).symm
  ·(try((repeat(revert hN;revert N;apply Pn.out));refine wk (tw @a5 (tw @a0 (tw @a1 @hk))) ?_;(repeat(refine Pn.mk ?_;intro N hN))))
   exact aI (b:=true) (.inl rfl) (sd @Nat.zero_add) (decide_eq_true (G4 hlen fun j hj h1 h2=>kO j (by omega) h1 h2)).symm
 ·have kr:decide ((xs.length:Int)=(ys.length:Int))=false:=decide_eq_false fun h=>hlen (by omega)
  (try((repeat(revert hN;revert N;apply Pn.out));refine wk @kr ?_;(repeat(refine Pn.mk ?_;intro N hN))))
  exact aI (b:=false) (.inl rfl) (sd @Nat.zero_add) (decide_eq_false fun h=>hlen (by subst h;rfl)).symm
theorem BT (l:List AV):l++[]=l:=List.append_nil l
def iv {α:Type} (e:α->List AV) (zc:List AV) (xs:List α) (k:Nat):List (List AV):=(xs.take k).map e++List.replicate (xs.length-k) zc
theorem sj {α:Type} (e:α->List AV) (zc:List AV) (xs:List α):List.replicate xs.length zc=iv e zc xs 0:=by simp[iv]
theorem ud {α:Type} (e:α->List AV) (zc:List AV) (xs:List α):iv e zc xs xs.length=xs.map e:=by simp[iv]
theorem ue {α:Type} (e:α->List AV) (zc:List AV) (xs:List α) {k:Nat} (hk:k<xs.length):(iv e zc xs k)[k]? =some zc:=by
 have h1:((xs.take k).map e).length=k:=by simp;omega
 rw[iv,List.getElem?_append_right (by omega),h1,Nat.sub_self,List.getElem?_replicate,if_pos (by omega)]
theorem uf {α:Type} (e:α->List AV) (zc:List AV) (xs:List α) {k:Nat} (hk:k<xs.length):(iv e zc xs k).set k (e xs[k])=iv e zc xs (k+1):=by
 have h1:((xs.take k).map e).length=k:=by simp;omega
 rw[iv,List.set_append_right _ _ (by omega),h1,Nat.sub_self,iv,List.take_succ_eq_append_getElem hk,List.map_append,List.append_assoc]
 congr 1
 obtain⟨m,hm⟩:∃m,xs.length-k=m+1:=⟨xs.length-k-1,by omega⟩
 rw[hm,show xs.length-(k+1)=m by omega,List.replicate_succ]
 rfl
theorem Dl {α:Type} {en:α->List AV} {z fk gk:Nat} {zero:List K} (hc:np P fk=some (Er fk gk z zero)) (Ln:zero.length=z) (hz:∀x,(en x).length=z) (j4:∀x,(en x).all AV.cell=true) (BA:∀x g,cH g 5 (en x)=some (en x)) (xs:List α) (hlen:xs.length<=1048576)
  (hg:∀x∈xs,l5 P gk [.agg (en x)] (.agg (en x))):l5 P fk [.sl (xs.map en)] (.sl (xs.map en)):=by
 refine l5.body hc rfl fun hl σ=>?_
 try simp only[q]
 clear hl
 have hm:(xs.length:Int)<=((16777216:Nat):Int):=by omega
 have h0:(0:Int)<=(xs.length:Int):=by omega
 (try((repeat(revert hN;revert N;apply Pn.out));refine wk (tw @hm (tw @h0 (tw @Int.le_refl (tw (sj en (zero.map K.av) xs) @Ln)))) ?_;(repeat(refine Pn.mk ?_;intro N hN))))
 refine aH (fun n env st=>∃k:Nat,n=(xs.length)-k/\k<=(xs.length)/\env 4=.int .i64 (k:Int)/\st.get ⟨fk*1000000+1002,σ.next+1⟩=some ⟨true,z,iv en (zero.map K.av) xs k⟩) (xs.length) ⟨0,by omega,by omega,sl @Nat.zero_add,sl @Nat.zero_add⟩ ?_
 rintro n_a env_a st_a ⟨k,rfl,ale,a4,ag0⟩ dt
 have a0:=dt 0 (by kernel_rfl);have a3:=dt 3 (by kernel_rfl)
 simp only[go_sem, ↓reduceIte,Nat.reduceEqDiff,Nat.reduceAdd,Nat.reduceSub,Nat.reduceLeDiff,reduceCtorEq]at a0 a3
 clear dt
 by_cases hk:(k:Int)<(xs.length:Int)
 ·have bY:∀{e:Env} {gg:Rows},(e 4=.int .i64 (IntKind.i64.wrap ((k:Int)+1)))->(gg ⟨fk*1000000+1002,σ.next+1⟩=some ⟨true,z,iv en (zero.map K.av) xs (k+1)⟩)->∃m0,m0<(xs.length)-k/\∃k:Nat,m0=(xs.length)-k/\k<=(xs.length)/\e 4=.int .i64 (k:Int)/\gg ⟨fk*1000000+1002,σ.next+1⟩=some ⟨true,z,iv en (zero.map K.av) xs k⟩:=fun x1 x2=>⟨_,by omega,k+1,rfl,by omega,(by rw[x1,ax (by omega)]),x2⟩
  have eZ:k<xs.length:=by omega
  have eo:(xs.map en)[k]? =some (en xs[k]):=by simp[eZ]
  have v7:=hz xs[k]
  have I5:=j4 xs[k]
  have ht:(en xs[k]).take z=en xs[k]:=by rw[<-v7,List.take_length]
  have iL:=hg _ (List.getElem_mem eZ)
  have fy:=ue en (zero.map K.av) xs eZ
  have ev:=uf en (zero.map K.av) xs eZ
  have O3:(zero.map K.av).drop z=[]:=List.drop_of_length_le (by simp[Ln])
  generalize hex:en xs[k]=c at iL eo v7 ht I5 ev
  (repeat(first|((repeat(revert hN;revert N;apply Pn.out));refine wk (tw @a4 (tw @ag0 (tw @a0 (tw @a3 (tw @hk (tw @eo (tw @v7 (tw @ht (tw @Nat.le_refl (tw @fy (tw @ev (tw @O3 (tw @BT (tw @I5 @Ln)))))))))))))) ?_;(repeat(refine Pn.mk ?_;intro N hN)))|((try apply Or.inl);refine⟨_,l5.x (iL) _,?_⟩;refine hN _ _ ?_;clear hN N)))
  refine bY ?_ ?_
  all_goals simp only[go_sem, ↓reduceIte,Nat.reduceEqDiff,Nat.reduceAdd,Nat.reduceSub,Nat.reduceLeDiff,reduceCtorEq,a4,ag0,a0,a3]
 ·(try((repeat(revert hN;revert N;apply Pn.out));refine wk (tw @a4 (tw @ag0 (tw @a0 (tw @a3 @hk)))) ?_;(repeat(refine Pn.mk ?_;intro N hN))))
  have eZ:k=xs.length:=by omega
  subst eZ
  refine PS (.inl rfl) (r0:=.own ⟨fk*1000000+1002,σ.next+1⟩ 0 xs.length) (sd (tw @a4 (tw @ag0 (tw @a0 @a3)))) ?_
  rw[ud]at ag0
  exact jx ag0 (by simp) fun x=>BA x _
theorem PY {fk:Nat} (hc:np P fk=some (Lw fk (.int .i64 0))) (xs:List Int) (hlen:xs.length<=1048576):l5 P fk [.sl (xs.map fun x=>[AV.int .i64 x])] (.sl (xs.map fun x=>[AV.int .i64 x])):=by
 refine l5.body hc rfl fun hl σ=>?_
 try simp only[q]
 clear hl
 obtain⟨en,K6⟩:∃en:Int->List AV,en=fun x=>[AV.int .i64 x]:=⟨_,rfl⟩
 rw[<-K6]
 have hm:(xs.length:Int)<=((16777216:Nat):Int):=by omega
 have h0:(0:Int)<=(xs.length:Int):=by omega
 (try((repeat(revert hN;revert N;apply Pn.out));refine wk (tw @hm (tw @h0 (tw @Int.le_refl (sj en [AV.int .i64 0] xs)))) ?_;(repeat(refine Pn.mk ?_;intro N hN))))
 refine aH (fun n env st=>∃k:Nat,n=(xs.length)-k/\k<=(xs.length)/\env 4=.int .i64 (k:Int)/\st.get ⟨fk*1000000+1002,σ.next+1⟩=some ⟨true,1,iv en [AV.int .i64 0] xs k⟩) (xs.length) ⟨0,by omega,by omega,sl @Nat.zero_add,sl @Nat.zero_add⟩ ?_
 rintro n_a env_a st_a ⟨k,rfl,ale,a4,ag0⟩ dt
 have a0:=dt 0 (by kernel_rfl);have a3:=dt 3 (by kernel_rfl)
 simp only[go_sem, ↓reduceIte,Nat.reduceEqDiff,Nat.reduceAdd,Nat.reduceSub,Nat.reduceLeDiff,reduceCtorEq]at a0 a3
 clear dt
 by_cases hk:(k:Int)<(xs.length:Int)
 ·have bY:∀{e:Env} {gg:Rows},(e 4=.int .i64 (IntKind.i64.wrap ((k:Int)+1)))->(gg ⟨fk*1000000+1002,σ.next+1⟩=some ⟨true,1,iv en [AV.int .i64 0] xs (k+1)⟩)->∃m0,m0<(xs.length)-k/\∃k:Nat,m0=(xs.length)-k/\k<=(xs.length)/\e 4=.int .i64 (k:Int)/\gg ⟨fk*1000000+1002,σ.next+1⟩=some ⟨true,1,iv en [AV.int .i64 0] xs k⟩:=fun x1 x2=>⟨_,by omega,k+1,rfl,by omega,(by rw[x1,ax (by omega)]),x2⟩
  have eZ:k<xs.length:=by omega
  have eo:(xs.map en)[k]? =some [AV.int .i64 xs[k]]:=by simp[eZ,K6]
  have fy:=ue en [AV.int .i64 0] xs eZ
  have ev:=uf en [AV.int .i64 0] xs eZ
  rw[show en xs[k]=[AV.int .i64 xs[k]] by rw[K6]]at ev
  (try((repeat(revert hN;revert N;apply Pn.out));refine wk (tw @a4 (tw @ag0 (tw @a0 (tw @a3 (tw @hk (tw @eo (tw @fy @ev))))))) ?_;(repeat(refine Pn.mk ?_;intro N hN))))
  refine bY ?_ ?_
  all_goals simp only[go_sem, ↓reduceIte,Nat.reduceEqDiff,Nat.reduceAdd,Nat.reduceSub,Nat.reduceLeDiff,reduceCtorEq,a4,ag0,a0,a3]
 ·(try((repeat(revert hN;revert N;apply Pn.out));refine wk (tw @a4 (tw @ag0 (tw @a0 (tw @a3 @hk)))) ?_;(repeat(refine Pn.mk ?_;intro N hN))))
  have eZ:k=xs.length:=by omega
  subst eZ
  refine PS (.inl rfl) (r0:=.own ⟨fk*1000000+1002,σ.next+1⟩ 0 xs.length) (sd (tw @a4 (tw @ag0 (tw @a0 @a3)))) ?_
  rw[ud]at ag0
  exact jx ag0 (by simp) fun x=>by simp[K6,ao,aq,aK]
end Go.Proofs.YtgoelphibofcmaaGreat.V

namespace Go.Proofs.YtgoelphibofcmaaGreat
open Go.RowKit
def Sl (w:World) (fp:List Nat) (v:Value) (n:Nat) (xs:List Value):Prop:=
 ∃A c,v=.slice A n c/\n<=c/\c<=maxLen/\
  ((fp=[]/\n=0)∨∃b o,fp=[b]/\A=some ⟨b,o,none⟩/\∀j u,xs[j]? =some u->w.cell? ⟨b,o+j,none⟩=some u)
def fD (fp:List Nat) (lo hi:Nat):Prop:=∀b∈fp,lo<=b/\b<hi
theorem fD.nil (lo hi:Nat):fD [] lo hi:=fun _ h=>by cases h
theorem Sl.nil (w:World):Sl w [] (.slice none 0 0) 0 []:=⟨none,0,rfl,Nat.le_refl _,by simp[maxLen],.inl ⟨rfl,rfl⟩⟩
def LG {α:Type} (rep:World->List Nat->List Value->α->Prop) (sz:Nat) (w:World) (nG:List (List Value)) (DO:List (List Nat)) (ds:List α):Prop:=
 nG.length=ds.length/\DO.length=ds.length/\∀(i:Nat) (cs:List Value) (f:List Nat) (d:α),nG[i]? =some cs->DO[i]? =some f->ds[i]? =some d->rep w f cs d/\cs.length=sz
def ma {α:Type} (rep:World->List Nat->List Value->α->Prop) (sz:Nat) (w:World) (fp:List Nat) (v:Value) (ds:List α):Prop:=
 ∃nG DO Rp,fp=Rp++DO.flatten/\Sl w Rp v ds.length nG.flatten/\LG rep sz w nG DO ds
theorem pR {α:Type} {DO:List (List α)} {i:Nat} {f:List α} (h:DO[i]? =some f):∀b∈f,b∈DO.flatten:=fun b hb=>
 List.mem_flatten.2 ⟨f,List.mem_of_getElem? h,hb⟩
theorem sr {α:Type} {nG:List (List α)} {sz:Nat} (h:∀cs∈nG,cs.length=sz) {i j:Nat} {cs:List α} (hi:nG[i]? =some cs) (hj:j<sz):nG.flatten[i*sz+j]? =cs[j]? :=by
 induction nG generalizing i with
 |nil=>simp at hi
 |cons c r ih=>
  have hc:c.length=sz:=h c (by simp)
  cases i with
  |zero=>
   simp at hi;subst hi
   rw[List.flatten_cons,List.getElem?_append_left (by omega)];simp
  |succ i=>
   rw[List.flatten_cons,List.getElem?_append_right (by rw[hc,Nat.succ_mul];omega)]
   have:(i+1)*sz+j-c.length=i*sz+j:=by rw[hc,Nat.succ_mul];omega
   rw[this]
   exact ih (fun cs cR=>h cs (List.mem_cons_of_mem _ cR)) (by simpa using hi)
theorem LG.lens {α:Type} {rep:World->List Nat->List Value->α->Prop} {sz:Nat} {w:World} {nG:List (List Value)} {DO:List (List Nat)} {ds:List α}
  (h:LG rep sz w nG DO ds):∀cs∈nG,cs.length=sz:=fun cs cR=>by
 obtain⟨i,hi,rfl⟩:=List.getElem_of_mem cR
 have h1:i<DO.length:=by rw[h.2.1,<-h.1];exact hi
 have h2:i<ds.length:=by rw[<-h.1];exact hi
 exact(h.2.2 i _ _ _ (List.getElem?_eq_getElem hi) (List.getElem?_eq_getElem h1) (List.getElem?_eq_getElem h2)).2
theorem ma.at_ {α:Type} {rep:World->List Nat->List Value->α->Prop} {sz:Nat} {w:World} {fp:List Nat} {A:Option Addr} {n c:Nat} {ds:List α}
  (h:ma rep sz w fp (.slice A n c) ds) (k:Nat) (hk:k<ds.length):
  ∃b o cs f,A=some ⟨b,o,none⟩/\b∈fp/\(∀x∈f,x∈fp)/\rep w f cs ds[k]/\cs.length=sz/\∀j u,cs[j]? =some u->w.cell? ⟨b,o+(k*sz+j),none⟩=some u:=by
 obtain⟨nG,DO,Rp,rfl,⟨A',c',hv,_,_,hc⟩,hr⟩:=h
 simp only[Value.slice.injEq]at hv
 obtain⟨rfl,hn,rfl⟩:=hv
 rcases hc with⟨_,h0⟩|⟨b,o,rfl,rfl,hc⟩
 ·omega
 have h1:k<nG.length:=by rw[hr.1];exact hk
 have h2:k<DO.length:=by rw[hr.2.1];exact hk
 obtain⟨gj,hl⟩:=hr.2.2 k _ _ _ (List.getElem?_eq_getElem h1) (List.getElem?_eq_getElem h2) (List.getElem?_eq_getElem hk)
 refine⟨b,o,nG[k],DO[k],rfl,by simp,fun x hx=>List.mem_append_right _ (pR (List.getElem?_eq_getElem h2) x hx),gj,hl,fun j u hj=>?_⟩
 have gm:j<sz:=by rw[<-hl];exact(List.getElem?_eq_some_iff.1 hj).1
 exact hc _ u (by rw[sr hr.lens (List.getElem?_eq_getElem h1) gm];exact hj)
theorem ma.len {α:Type} {rep:World->List Nat->List Value->α->Prop} {sz:Nat} {w:World} {fp:List Nat} {v:Value} {ds:List α}
  (h:ma rep sz w fp v ds):∃A c,v=.slice A ds.length c/\ds.length<=c/\c<=maxLen:=by
 obtain⟨_,_,_,_,⟨A,c,hv,h1,h2,_⟩,_⟩:=h
 exact⟨A,c,hv,h1,h2⟩
theorem ma.nil {α:Type} (rep:World->List Nat->List Value->α->Prop) (sz:Nat) (w:World):ma rep sz w [] (.slice none 0 0) ([]:List α):=
 ⟨[],[],[],rfl,Sl.nil w,rfl,rfl,fun i cs f d hc=>by simp at hc⟩
def Flat {α:Type} (enc:α->List Value):World->List Nat->List Value->α->Prop:=fun _ f cs d=>f=[]/\cs=enc d
end Go.Proofs.YtgoelphibofcmaaGreat

namespace Go.Proofs.YtgoelphibofcmaaGreat
open Go.RowKit
def Q (w w':World):Prop:=∃q,w'=w.drewN q
theorem Q.refl (w:World):Q w w:=⟨0,rfl⟩
theorem Q.d {w w':World} (h:Q w w') (n:Nat):Q w (w'.drewN n):=by obtain⟨q,rfl⟩:=h;exact⟨q+n,by rw[World.drewN_drewN]⟩
theorem Q.d1 {w w':World} (h:Q w w'):Q w w'.drew:=by obtain⟨q,rfl⟩:=h;exact⟨q+1,rfl⟩
theorem Q.n (w:World) (n:Nat):Q w (w.drewN n):=⟨n,rfl⟩
theorem Q.trans {a b c:World} (h:Q a b) (k:Q b c):Q a c:=by obtain⟨q,rfl⟩:=k;exact h.d q
theorem GM {B:Nat} {a w:World} (h:Below B a w) (n:Nat):Below B a (w.drewN n):=⟨h.os,h.tape,h.output,h.size,h.block⟩
theorem Q.below {w w':World} (h:Q w w'):Below w.heap.size w w':=by obtain⟨q,rfl⟩:=h;exact GM (Below.refl _ _) q
theorem iu {a b:Bool} (h:a=b):Ending.returned (.bool a)=.returned (.bool b):=by rw[h]
theorem El {k:IntKind} {a b:Int} (h:a=b):Ending.returned (.int k a)=.returned (.int k b):=by rw[h]
end Go.Proofs.YtgoelphibofcmaaGreat

namespace Go.Proofs.YtgoelphibofcmaaGreat
open Go.RowKit
end Go.Proofs.YtgoelphibofcmaaGreat

namespace Go.Proofs.YtgoelphibofcmaaGreat
open Go.RowKit
end Go.Proofs.YtgoelphibofcmaaGreat

namespace Go.Proofs.YtgoelphibofcmaaGreat
open Go.RowKit
structure ai where
 eB:Int
 ek:Int
deriving DecidableEq
structure ae where
 aF:ai
 aN:Int
deriving DecidableEq
structure fB where
 ah:List ae
deriving DecidableEq
structure gI where
 aD:ByteArray
 dX:Int
deriving DecidableEq
structure fC where
 aD:ByteArray
 bH:List Int
deriving DecidableEq
structure au where
 aA:List gI
 ah:List fC
deriving DecidableEq
structure aC where
 aB:au
 aX:fB
 az:Int
deriving DecidableEq
def EW (d:Int):List Value:=[.int .i64 d]
def Dx:=Flat EW
def fw (d:ai):List Value:=[.int .i64 d.eB,.int .i64 d.ek]
def B4 (d:ae):List Value:=[.int .i64 d.aF.eB,.int .i64 d.aF.ek,.int .i64 d.aN]
def zL:=Flat B4
def iK:=ma zL 3
def GZ (d:gI):List Value:=[.string d.aD,.int .i64 d.dX]
def Gy:=Flat GZ
def qd:=ma Gy 2
def tQ:=ma Dx 1
def Gz (w:World) (f:List Nat) (cs:List Value) (d:fC):Prop:=
 ∃v1 f1,f=f1/\cs=[.string d.aD,v1]/\tQ w f1 v1 d.bH
def qe:=ma Gz 2
end Go.Proofs.YtgoelphibofcmaaGreat

namespace Go.Proofs.YtgoelphibofcmaaGreat.V
open Go.RowKit
variable {P:Program} {w:World} {D:Nat->Prop}
def Gt (P:Program) (w:World) (D:Nat->Prop) (al:List AV) (cs:List Value):Prop:=∀(j:Nat) (a:AV),al[j]? =some a->∃u:Value,cs[j]? =some u/\jr P w D a u
theorem qL {α:Type} {rep:World->List Nat->List Value->α->Prop} {e:α->List AV} {sz:Nat} {f:List Nat} {v:Value} {xs:List α} (h:ma rep sz w f v xs) (hD:∀b∈f,D b)
  (hl:∀x∈xs,(e x).length=sz) (hc:∀x∈xs,∀a∈e x,a.cell=true) (hr:∀x∈xs,∀f' cs,rep w f' cs x->(∀b∈f',D b)->Gt P w D (e x) cs):jr P w D (.sl (xs.map e)) v:=by
 obtain⟨A,c,rfl,h1,h2⟩:=ma.len h
 by_cases h0:xs=[]
 ·subst h0;exact .C9 _ _ h2
 have kW:0<xs.length:=List.length_pos_iff.2 h0
 obtain⟨b,o,N0,f0,rfl,hb,QD,Oe,JG,ju⟩:=ma.at_ h 0 kW
 have key:∀(i:Nat) (hi:i<xs.length),∃cs f',(∀x∈f',x∈f)/\rep w f' cs xs[i]/\cs.length=sz/\∀j u,cs[j]? =some u->w.cell? ⟨b,o+(i*sz+j),none⟩=some u:=by
  intro i hi
  obtain⟨b',o',cs,f',Qy,_,jO,wz,cR,kq⟩:=ma.at_ h i hi
  simp only[Option.some.injEq,Addr.mk.injEq,and_true]at Qy
  obtain⟨rfl,rfl⟩:=Qy
  exact⟨cs,f',jO,wz,cR,kq⟩
 refine .sl _ b o _ c sz (fun i j=>(w.cell? ⟨b,o+(i*sz+j),none⟩).getD Go.undef) (by simp) h1 h2 (hD b hb) ?_ ?_ ?_ ?_
 ·intro cs cR
  obtain⟨x,hx,rfl⟩:=List.mem_map.1 cR
  exact hl x hx
 ·intro cs cR
  obtain⟨x,hx,rfl⟩:=List.mem_map.1 cR
  exact hc x hx
 ·intro i j hi hj
  obtain⟨cs,f',_,_,cR,kq⟩:=key i hi
  rw[kq j cs[j] (List.getElem?_eq_getElem (by omega))]
  rfl
 ·intro i j cs a cR ha
  have hi:i<xs.length:=by
   have:=(List.getElem?_eq_some_iff.1 cR).1
   simpa using this
  obtain⟨pb,f',jO,wz,hcs',kq⟩:=key i hi
  simp[hi]at cR
  subst cR
  obtain⟨u,hu,him⟩:=hr _ (List.getElem_mem hi) f' pb wz (fun b hb=>hD b (jO b hb)) j a ha
  rw[kq j u hu]
  exact him
end Go.Proofs.YtgoelphibofcmaaGreat.V

namespace Go.Proofs.YtgoelphibofcmaaGreat.V
open Go.RowKit
variable {P:Program} {w:World} {D:Nat->Prop}
def bq (d:Int):List AV:=[.int .i64 d]
def aa (d:ai):List AV:=[.int .i64 d.eB,.int .i64 d.ek]
def ad (d:ae):List AV:=[.int .i64 d.aF.eB,.int .i64 d.aF.ek,.int .i64 d.aN]
def aS (d:fB):List AV:=[.sl (d.ah.map ad)]
def bW (d:gI):List AV:=[.str d.aD,.int .i64 d.dX]
def bd (d:fC):List AV:=[.str d.aD,.sl (d.bH.map bq)]
def ab (d:au):List AV:=[.sl (d.aA.map bW),.sl (d.ah.map bd)]
def aw (d:aC):List AV:=[.sl (d.aB.aA.map bW),.sl (d.aB.ah.map bd),.sl (d.aX.ah.map ad),.int .i64 d.az]
theorem sa {f:List Nat} {v:Value} {xs:List ae} (h:iK w f v xs) (hD:∀b∈f,D b):jr P w D (.sl (xs.map ad)) v:=
 qL h hD (fun _ _=>rfl) (fun x _ a ha=>by simp[ad]at ha;rcases ha with rfl|rfl|rfl<;>rfl) fun x _ f' cs hr hf=>by
  obtain⟨_,rfl⟩:=hr
  intro j a ha
  match j,ha with
  |0,ha=>simp[ad]at ha;subst ha;exact⟨_,rfl,.int _ _⟩
  |1,ha=>simp[ad]at ha;subst ha;exact⟨_,rfl,.int _ _⟩
  |2,ha=>simp[ad]at ha;subst ha;exact⟨_,rfl,.int _ _⟩
  |j+3,ha=>simp[ad]at ha
theorem xS {d:fB} {f0:List Nat} {v0:Value} (h0:iK w f0 v0 d.ah) (d0:∀b∈f0,D b):jr P w D (.agg (aS d)) (.agg #[v0]):=by
 refine .agg _ _ (fun j=>(#[v0]:Array Value).getD j Go.undef) rfl (fun a ha=>by simp[aS]at ha;rcases ha with rfl<;>rfl) (fun j hj=>?_) (fun j a ha=>?_)
 ·match j,hj with
  |0,_=>rfl
  |j+1,hj=>simp[aS]at hj<;>omega
 ·match j,ha with
  |0,ha=>simp[aS]at ha;subst ha;exact sa h0 d0
  |j+1,ha=>simp[aS]at ha
theorem Ez {f:List Nat} {v:Value} {xs:List gI} (h:qd w f v xs) (hD:∀b∈f,D b):jr P w D (.sl (xs.map bW)) v:=
 qL h hD (fun _ _=>rfl) (fun x _ a ha=>by simp[bW]at ha;rcases ha with rfl|rfl<;>rfl) fun x _ f' cs hr hf=>by
  obtain⟨_,rfl⟩:=hr
  intro j a ha
  match j,ha with
  |0,ha=>simp[bW]at ha;subst ha;exact⟨_,rfl,.str _⟩
  |1,ha=>simp[bW]at ha;subst ha;exact⟨_,rfl,.int _ _⟩
  |j+2,ha=>simp[bW]at ha
theorem BM {f:List Nat} {v:Value} {xs:List Int} (h:tQ w f v xs) (hD:∀b∈f,D b):jr P w D (.sl (xs.map bq)) v:=
 qL h hD (fun _ _=>rfl) (fun x _ a ha=>by simp[bq]at ha;rcases ha with rfl<;>rfl) fun x _ f' cs hr hf=>by
  obtain⟨_,rfl⟩:=hr
  intro j a ha
  match j,ha with
  |0,ha=>simp[bq]at ha;subst ha;exact⟨_,rfl,.int _ _⟩
  |j+1,ha=>simp[bq]at ha
theorem EF {f:List Nat} {v:Value} {xs:List fC} (h:qe w f v xs) (hD:∀b∈f,D b):jr P w D (.sl (xs.map bd)) v:=
 qL h hD (fun _ _=>rfl) (fun x _ a ha=>by simp[bd]at ha;rcases ha with rfl|rfl<;>rfl) fun x _ f' cs hr hf=>by
  obtain⟨v1,f1,rfl,rfl,h1⟩:=hr
  intro j a ha
  match j,ha with
  |0,ha=>simp[bd]at ha;subst ha;exact⟨_,rfl,.str _⟩
  |1,ha=>simp[bd]at ha;subst ha;exact⟨_,rfl,BM h1 hf⟩
  |j+2,ha=>simp[bd]at ha
theorem BP {d:aC} {f0:List Nat} {v0:Value} (h0:qd w f0 v0 d.aB.aA) (d0:∀b∈f0,D b) {f1:List Nat} {v1:Value} (h1:qe w f1 v1 d.aB.ah) (d1:∀b∈f1,D b) {f2:List Nat} {v2:Value} (h2:iK w f2 v2 d.aX.ah) (d2:∀b∈f2,D b):jr P w D (.agg (aw d)) (.agg #[v0,v1,v2,.int .i64 d.az]):=by
 refine .agg _ _ (fun j=>(#[v0,v1,v2,.int .i64 d.az]:Array Value).getD j Go.undef) rfl (fun a ha=>by simp[aw]at ha;rcases ha with rfl|rfl|rfl|rfl<;>rfl) (fun j hj=>?_) (fun j a ha=>?_)
 ·match j,hj with
  |0,_=>rfl
  |1,_=>rfl
  |2,_=>rfl
  |3,_=>rfl
  |j+4,hj=>simp[aw]at hj<;>omega
 ·match j,ha with
  |0,ha=>simp[aw]at ha;subst ha;exact Ez h0 d0
  |1,ha=>simp[aw]at ha;subst ha;exact EF h1 d1
  |2,ha=>simp[aw]at ha;subst ha;exact sa h2 d2
  |3,ha=>simp[aw]at ha;subst ha;exact .int _ _
  |j+4,ha=>simp[aw]at ha
end Go.Proofs.YtgoelphibofcmaaGreat.V

namespace Go.Proofs.YtgoelphibofcmaaGreat.V
open Go.RowKit
attribute [local irreducible] dI wpOps ib Call
attribute [local go_sem] aJ gu eW gR gQ cE upd cw K.av cY AV.cells AV.cell rowOf rowsOf part ld rowAt bB cr dY eG jq bP dq eT gP fx dE eK dn dm eu ew bU bp db bR de dc eI eL eJ da cm dp eH bQ aO di cI jo bE cU bV aY du aV ea AV.undef bG bJ eA eE ei ep cJ eR eV cG eO eM dh dj List.getD_cons_zero List.getD_cons_succ List.getD_nil List.all_cons List.all_nil Bool.and_true Bool.true_and Bool.and_self Bool.not_true Bool.not_false Option.map_some Option.map_none Option.bind_some Option.bind_none List.length_cons List.length_nil List.take_succ_cons List.take_zero List.take_nil List.drop_succ_cons List.drop_zero List.drop_nil List.head?_cons List.map_cons List.map_nil List.getElem?_cons_zero List.getElem?_cons_succ List.cons_append List.nil_append List.append_nil List.length_map List.set_cons_zero List.set_cons_succ Nat.reduceMul eq_self Int.toNat_natCast Int.natCast_nonneg and_self true_and and_true decide_true decide_false Bool.false_eq_true Nat.zero_add Nat.add_zero List.contains_cons List.contains_nil Bool.or_false Bool.false_or beq_self_eq_true Nat.reduceBEq ne_eq not_true_eq_false not_false_eq_true Id.mk.injEq false_and and_false Nat.reduceLT Int.reduceLE Int.reduceLT Int.reduceToNat Int.reduceNeg Int.reduceAdd Nat.le_refl List.length_append beq_true beq_false Bool.not_eq_eq_eq_not or_false false_or eh ao aq aK br bI cC bc bz aQ bt cX cj
variable {P:Program}
theorem Dt {X:fq} {Q:Ex->Env->ar->Prop} {N:Env->ar->Prop} {c:VC} {env:Env} {σ:ar} (I:Env->ar->Prop) (h2:∀e s,I e s->N e s) (h1:∀N':Env->ar->Prop,(∀e s,I e s->N' e s)->dI X c (du N' Q) env σ):dI X c (du N Q) env σ:=h1 N h2
def pM (f z:Nat) (a:Bool):zB:=let s:=f*1000000
 ⟨19,2,(.seq (.dR false [q 4 (.cD (.k (.int .i64 0))) s]) (.seq (.seq (.dR false [q 6 (.cD (.t 0)) (s+1000),q 7 (.len (.t 6)) (s+1001),q 8 (.cD (.k (.int .i64 0))) (s+1002)]) (.block 0 (.loop (.seq (.dR false [q 9 (.bin .lss .i64 (.t 8) (.t 7)) (s+2000)]) (.seq (.cond (.t 9) .skip (.exit 0)) (.seq (.block 1 (.seq (.dR false [q 10 (.cD (.t 8)) (s+3000),q 5 (.cD (.t 10)) (s+3001)]) (.seq (.dR false [q 11 (.cD (.t 1)) (s+4000),q 12 (.cD (.t 0)) (s+4001),q 13 (.cD (.t 5)) (s+4002),q 14 (.dw z (.t 12) (.t 13)) (s+4003),q 15 (.load a z (.t 14)) (s+4004),q 16 (.sg (.t 11) [(.t 15)]) (s+4005)]) (.cond (.t 16) (.seq (.dR false [q 17 (.cD (.t 5)) (s+5000),q 4 (.cD (.t 17)) (s+5001)]) .ret) .skip)))) (.dR false [q 18 (.bin .add .i64 (.t 8) (.k (.int .i64 1))) (s+6000),q 8 (.cD (.t 18)) (s+6001)]))))))) (.seq (.dR false [q 4 (.cD (.k (.int .i64 (-1)))) (s+7000)]) .ret))),[(.tmp 4)]⟩
def yn (f g:Nat):zB:=let s:=f*1000000
 ⟨9,2,(.seq (.dR false [q 4 (.cD (.k (.bool false))) s]) (.seq (.dR false [q 5 (.cD (.t 0)) (s+1000),q 6 (.cD (.t 1)) (s+1001),q 7 (.call g [(.t 5),(.t 6)]) (s+1002),q 8 (.bin .geq .i64 (.t 7) (.k (.int .i64 0))) (s+1003),q 4 (.cD (.t 8)) (s+1004)]) .ret)),[(.tmp 4)]⟩
def ik {α:Type} (p:α->Bool) (xs:List α):Int:=if xs.findIdx p<xs.length then(xs.findIdx p:Int)else -1
theorem G5 {α:Type} (p:α->Bool) (xs:List α):decide (0<=ik p xs)=xs.any p:=by
 unfold ik
 by_cases h:xs.findIdx p<xs.length
 ·rw[if_pos h]
  have:xs.any p=true:=List.any_eq_true.2 (List.findIdx_lt_length.1 h)
  rw[this];simp
 ·rw[if_neg h]
  have:xs.any p=false:=by
   rw[Bool.eq_false_iff]
   intro hc
   exact h (List.findIdx_lt_length.2 (List.any_eq_true.1 hc))
  rw[this];rfl
theorem tf (a:AV) (l m:List AV):a::l++m=a::(l++m):=rfl
theorem xW (l:List AV):[]++l=l:=rfl
structure NT {α:Type} (e:α->List AV) (v:α->AV) (z:Nat) (a:Bool):Prop where
 len:∀x,(e x).length=z
 val:∀x,if a=true then v x=.agg (e x)else e x=[v x]
 fz:∀x g,cH g 6 [v x]=some [v x]
theorem nQ {α:Type} {e:α->List AV} {v:α->AV} {z fk:Nat} {a:Bool} (hE:NT e v z a) (hc:np P fk=some (pM fk z a)) (xs:List α) (hlen:xs.length<=1048576) (f:Nat) (bZ:List AV) (p:α->Bool)
  (hf:∀x∈xs,aj P f (v x::bZ) (.bool (p x))) (Hj:∀g,cH g 6 bZ=some bZ):
  aj P fk [.sl (xs.map e),.fn f bZ] (.int .i64 (ik p xs)):=by
 refine aj.body hc rfl fun hl n0=>?_
 try simp only[q]
 clear hl
 (try((repeat(revert hN;revert N;apply Pn.out));refine wk @Nat.zero_add ?_;(repeat(refine Pn.mk ?_;intro N hN))))
 refine aH (fun n env st=>∃k:Nat,n=(xs.length)-k/\k<=(xs.length)/\env 8=.int .i64 (k:Int)/\(∀j:Nat,j<k->∀h:j<xs.length,p xs[j]=false)) (xs.length) ⟨0,by omega,by omega,sl @Nat.zero_add,fun _ h=>absurd h (Nat.not_lt_zero _)⟩ ?_
 rintro n_a env_a st_a ⟨k,rfl,ale,a8,kO⟩ dt
 have a0:=dt 0 (by kernel_rfl);have a1:=dt 1 (by kernel_rfl);have a7:=dt 7 (by kernel_rfl)
 simp only[go_sem, ↓reduceIte,Nat.reduceEqDiff,Nat.reduceAdd,Nat.reduceSub,Nat.reduceLeDiff,reduceCtorEq]at a0 a1 a7
 clear dt
 by_cases hk:(k:Int)<(xs.length:Int)
 ·have bY:∀{e:Env},(e 8=.int .i64 (IntKind.i64.wrap ((k:Int)+1)))->(∀h:k<xs.length,p xs[k]=false)->∃m0,m0<(xs.length)-k/\∃k:Nat,m0=(xs.length)-k/\k<=(xs.length)/\e 8=.int .i64 (k:Int)/\(∀j:Nat,j<k->∀h:j<xs.length,p xs[j]=false):=fun x1 x2=>⟨_,by omega,k+1,rfl,by omega,(by rw[x1,ax (by omega)]),(all_succ kO x2)⟩
  have eZ:k<xs.length:=by omega
  have hg:(xs.map e)[k]? =some (e xs[k]):=by simp[eZ]
  have BD:=hf _ (List.getElem_mem eZ)
  have hz:=hE.len xs[k]
  have hv:=hE.val xs[k]
  have kf:cH (eh st_a.get) 6 (v xs[k]::bZ)=some (v xs[k]::bZ):=by
   have h1:=hE.fz xs[k] (eh st_a.get)
   rw[ao,aq]at h1
   rw[ao,Hj]
   revert h1
   cases V.fz (eh st_a.get) 6 (v xs[k])<;>simp
  have fin:∀hN:True,(p xs[k]=true->xs.findIdx p=k):=fun _ hp=>by
   rw[List.findIdx_eq eZ];exact⟨hp,fun j hj=>kO j hj (by omega)⟩
  cases hp:p xs[k]
  ·have Ob:=hp
   cases a
   ·rw[if_neg (by simp)]at hv
    have tz:z=1:=by rw[<-hz,hv];rfl
    subst tz
    rw[hv]at hg hz
    rw[hp]at BD
    generalize v xs[k]=c at BD kf hg hz
    (try((repeat(revert hN;revert N;apply Pn.out));refine wk (tw @a8 (tw @a0 (tw @a1 (tw @a7 (tw @hk (tw @hg (tw @hz (tw @tf @xW)))))))) ?_;(repeat(refine Pn.mk ?_;intro N hN))))
    refine .inl ⟨_,aj.x BD kf,?_⟩
    refine hN _ _ ?_
    clear hN N
    (try((repeat(revert hN;revert N;apply Pn.out));refine wk (tw @a8 (tw @a0 (tw @a1 @a7))) ?_;(repeat(refine Pn.mk ?_;intro N hN))))
    exact bY (sd (tw @a8 (tw @a0 (tw @a1 @a7)))) (fun _=>Ob)
   ·rw[if_pos rfl]at hv
    have ht:(e xs[k]).take z=e xs[k]:=by rw[<-hz,List.take_length]
    rw[hv]at BD kf
    rw[hp]at BD
    generalize e xs[k]=c at BD kf hg hz ht
    (try((repeat(revert hN;revert N;apply Pn.out));refine wk (tw @a8 (tw @a0 (tw @a1 (tw @a7 (tw @hk (tw @hg (tw @hz (tw @ht (tw @tf (tw @xW @Nat.le_refl)))))))))) ?_;(repeat(refine Pn.mk ?_;intro N hN))))
    refine .inl ⟨_,aj.x BD kf,?_⟩
    refine hN _ _ ?_
    clear hN N
    (try((repeat(revert hN;revert N;apply Pn.out));refine wk (tw @a8 (tw @a0 (tw @a1 @a7))) ?_;(repeat(refine Pn.mk ?_;intro N hN))))
    exact bY (sd (tw @a8 (tw @a0 (tw @a1 @a7)))) (fun _=>Ob)
  ·have hi:=fin trivial hp
   cases a
   ·rw[if_neg (by simp)]at hv
    have tz:z=1:=by rw[<-hz,hv];rfl
    subst tz
    rw[hv]at hg hz
    rw[hp]at BD
    generalize v xs[k]=c at BD kf hg hz
    (try((repeat(revert hN;revert N;apply Pn.out));refine wk (tw @a8 (tw @a0 (tw @a1 (tw @a7 (tw @hk (tw @hg (tw @hz (tw @tf @xW)))))))) ?_;(repeat(refine Pn.mk ?_;intro N hN))))
    refine .inl ⟨_,aj.x BD kf,?_⟩
    refine hN _ _ ?_
    clear hN N
    (try((repeat(revert hN;revert N;apply Pn.out));refine wk (tw @a8 (tw @a0 (tw @a1 @a7))) ?_;(repeat(refine Pn.mk ?_;intro N hN))))
    exact bj (b:=(k:Int)) (.inl rfl) (sd @Nat.zero_add) (by rw[ik,hi,if_pos eZ])
   ·rw[if_pos rfl]at hv
    have ht:(e xs[k]).take z=e xs[k]:=by rw[<-hz,List.take_length]
    rw[hv]at BD kf
    rw[hp]at BD
    generalize e xs[k]=c at BD kf hg hz ht
    (try((repeat(revert hN;revert N;apply Pn.out));refine wk (tw @a8 (tw @a0 (tw @a1 (tw @a7 (tw @hk (tw @hg (tw @hz (tw @ht (tw @tf (tw @xW @Nat.le_refl)))))))))) ?_;(repeat(refine Pn.mk ?_;intro N hN))))
    refine .inl ⟨_,aj.x BD kf,?_⟩
    refine hN _ _ ?_
    clear hN N
    (try((repeat(revert hN;revert N;apply Pn.out));refine wk (tw @a8 (tw @a0 (tw @a1 @a7))) ?_;(repeat(refine Pn.mk ?_;intro N hN))))
    exact bj (b:=(k:Int)) (.inl rfl) (sd @Nat.zero_add) (by rw[ik,hi,if_pos eZ])
 ·(try((repeat(revert hN;revert N;apply Pn.out));refine wk (tw @a8 (tw @a0 (tw @a1 (tw @a7 @hk)))) ?_;(repeat(refine Pn.mk ?_;intro N hN))))
  have hi:¬xs.findIdx p<xs.length:=by
   rw[List.findIdx_lt_length]
   rintro⟨x,hx,Hu⟩
   obtain⟨j,hj,rfl⟩:=List.getElem_of_mem hx
   rw[kO j (by omega) hj]at Hu;cases Hu
  exact bj (b:=-1) (.inl rfl) (sd @Nat.zero_add) (by rw[ik,if_neg hi])
theorem kn {α:Type} {e:α->List AV} {v:α->AV} {z fk gk:Nat} {a:Bool} (hE:NT e v z a) (hc:np P fk=some (yn fk gk)) (yp:np P gk=some (pM gk z a)) (xs:List α) (hlen:xs.length<=1048576) (f:Nat) (bZ:List AV) (p:α->Bool) (He:bZ.all AV.cell=true) (BA:∀g,cH g 5 bZ=some bZ)
  (hf:∀x∈xs,aj P f (v x::bZ) (.bool (p x))) (Hj:∀g,cH g 6 bZ=some bZ):
  aj P fk [.sl (xs.map e),.fn f bZ] (.bool (xs.any p)):=by
 refine aj.body hc rfl fun hl n0=>?_
 try simp only[q]
 clear hl
 have hi:=nQ hE yp xs hlen f bZ p hf Hj
 (repeat(first|((repeat(revert hN;revert N;apply Pn.out));refine wk (tw @He @BA) ?_;(repeat(refine Pn.mk ?_;intro N hN)))|((try apply Or.inl);refine⟨_,aj.x (hi) (sd (tw @He @BA)),?_⟩;refine hN _ _ ?_;clear hN N)))
 exact aI (b:=decide (0<=ik p xs)) (.inl rfl) (sd @Nat.zero_add) (G5 p xs)
end Go.Proofs.YtgoelphibofcmaaGreat.V

namespace Go.Proofs.YtgoelphibofcmaaGreat.V
open Go.RowKit
def qx (P:Program) (mk:Bool):List Oper->Nat->List Nat
 |[],_=>[]
 |o::r,i=>match p7 P o.op with
  |some v=>if pQ v||mk&&v.ly then i::qx P mk r (i+1)else qx P mk r (i+1)
  |none=>qx P mk r (i+1)
def xZ (P:Program) (ops:Array Oper) (site0:Nat) (mk:Bool) (bs:Array Nat) (hidden:List Nat):List Oper->Nat->Option (List aL)
 |[],_=>some []
 |o::r,j=>do
  let v <-p7 P o.op
  let g <-BY ops o
  pure ({dst:=o.dst,op:=v,guard:=g,site:=site0+j,hid:=(hidden.filter fun i=> !(bs.getD j 0).testBit i&&(i !=j||mk&&v.ly)).map fun i=>site0+i}::(<-xZ P ops site0 mk bs hidden r (j+1)))
def pq (P:Program) (md:List (Nat×Nat)) (fid:Nat):Code->Option VC
 | .skip=>some .skip
 | .region id ops draw=>if draw then(xZ P ops ((fid*1000+id)*1000) (uP md id==1) (jk ops) (qx P (uP md id==1) ops.toList 0) ops.toList 0).map (VC.dR true)else(xZ P ops ((fid*1000+id)*1000) false #[] [] ops.toList 0).map (if ops.toList.any fun o=>Lo o.op then VC.LX else VC.dR false)
 | .seq a b=>do pure (.seq (<-pq P md fid a) (<-pq P md fid b))
 | .cond c x y=>do pure (.cond (<-cO P c) (<-pq P md fid x) (<-pq P md fid y))
 | .block id c=>(pq P md fid c).map (VC.block id)
 | .loop c=>(pq P md fid c).map VC.loop
 | .exit id=>some (.exit id)
 | .ret=>some .ret
 |_=>none
def OC (P:Program) (md:List (Nat×Nat)) (f:Nat):Option zB:=
 match P.funcs[f]? with
 |some fn=>match fn.body with
  |some c=>do
   let b <-pq P md f c
   let r <-fn.results.toList.mapM (BZ P)
   pure {ntmps:=fn.ntmps,xE:=fn.params.size+fn.nfree,body:=b,res:=r}
  |none=>none
 |none=>none
theorem cfM {P:Program} (md:List (Nat×Nat)) {f:Nat} {v:zB} (_:OC P md f=some v:=by(conv=>lhs;cbv)<;>exact rfl) (h:wh P f md=some v:=by kernel_rfl):wh P f md=some v:=h
theorem ej {P:Program} {f:Nat} {v:zB} (_:OC P [] f=some v:=by(conv=>lhs;cbv)<;>exact rfl) (h:np P f=some v:=by kernel_rfl):np P f=some v:=h
end Go.Proofs.YtgoelphibofcmaaGreat.V

namespace Go.Proofs.YtgoelphibofcmaaGreat.V
open Go.RowKit
def Nu:zB:=⟨77,2,(.seq (.dR false [q 4 (.cD (.k .gx)) 237000000]) (.seq (.dR false [q 7 (.cD (.t 0)) 237001000,q 8 (.cD (.t 1)) 237001001,q 9 (.build [(.int .i64 0),.cu,.cu,.cu] [(0,(1,(.t 7))),(1,(1,(.t 8)))]) 237001002,q 10 (.box (.t 9)) 237001003,q 5 (.cD (.t 10)) 237001004]) (.seq (.dR false [q 11 (.cD (.t 5)) 237002000,q 12 (.cD (.t 0)) 237002001,q 13 (.jI [.cu] (.t 12) (.t 12)) 237002002,q 14 (.zC (.t 11)) 237002003,q 15 (.fI 2 (.t 14)) 237002004,⟨none,(.store 1 (.t 15) (.t 13)),none,237002005,[]⟩]) (.seq (.dR false [q 16 (.cD (.t 5)) 237003000,q 17 (.cD (.t 1)) 237003001,q 18 (.len (.t 17)) 237003002,q 19 (.jI [(.int .i64 0)] (.t 18) (.t 18)) 237003003,q 20 (.zC (.t 16)) 237003004,q 21 (.fI 3 (.t 20)) 237003005,⟨none,(.store 1 (.t 21) (.t 19)),none,237003006,[]⟩]) (.seq (.seq (.dR false [q 6 (.cD (.k (.int .i64 0))) 237004000]) (.block 0 (.loop (.seq (.seq (.dR false [q 22 (.cD (.t 6)) 237005000,q 23 (.cD (.t 1)) 237005001,q 24 (.len (.t 23)) 237005002,q 25 (.bin .lss .i64 (.t 22) (.t 24)) 237005003]) (.cond (.t 25) .skip (.exit 0))) (.seq (.block 1 (.seq (.one ⟨(some 28),(.cD (.t 5)),none,237007000,[237007021,237007022,237007024]⟩ (.one ⟨(some 29),(.zC (.t 28)),none,237007001,[237007021,237007022,237007024]⟩ (.one ⟨(some 30),(.fI 2 (.t 29)),none,237007002,[237007021,237007022,237007024]⟩ (.one ⟨(some 32),(.cD (.t 1)),none,237007004,[237007021,237007022,237007024]⟩ (.one ⟨(some 33),(.cD (.t 6)),none,237007005,[237007021,237007022,237007024]⟩ (.one ⟨(some 37),(.cD (.t 5)),none,237007009,[237007021,237007022,237007024]⟩ (.one ⟨(some 38),(.zC (.t 37)),none,237007010,[237007021,237007022,237007024]⟩ (.one ⟨(some 39),(.fI 2 (.t 38)),none,237007011,[237007021,237007022,237007024]⟩ (.one ⟨(some 40),(.load false 1 (.t 39)),none,237007012,[237007021,237007022,237007024]⟩ (.one ⟨(some 41),(.cD (.t 1)),none,237007013,[237007021,237007022,237007024]⟩ (.one ⟨(some 42),(.cD (.t 6)),none,237007014,[237007021,237007022,237007024]⟩ (.one ⟨(some 43),(.dw 3 (.t 41) (.t 42)),none,237007015,[237007021,237007022,237007024]⟩ (.one ⟨(some 44),(.fI 0 (.t 43)),none,237007016,[237007021,237007022,237007024]⟩ (.one ⟨(some 45),(.load false 1 (.t 44)),none,237007017,[237007021,237007022,237007024]⟩ (.one ⟨(some 46),(.dw 1 (.t 40) (.t 45)),none,237007018,[237007021,237007022,237007024]⟩ (.one ⟨(some 47),(.load false 1 (.t 46)),none,237007019,[237007021,237007022,237007024]⟩ (.one ⟨(some 48),(.cD (.t 6)),none,237007020,[237007021,237007022,237007024]⟩ (.one ⟨(some 49),(.kj 1 1 [(.t 48)]),none,237007021,[237007022,237007024]⟩ (.both (.one ⟨(some 31),(.load false 1 (.t 30)),none,237007003,[237007021,237007022,237007024]⟩ (.both (.one ⟨(some 34),(.dw 3 (.t 32) (.t 33)),none,237007006,[237007021,237007022,237007024]⟩ (.one ⟨(some 35),(.fI 0 (.t 34)),none,237007007,[237007021,237007022,237007024]⟩ (.both (.one ⟨(some 36),(.load false 1 (.t 35)),none,237007008,[237007021,237007022,237007024]⟩ (.one ⟨(some 50),(.append 1 (.t 47) (.t 49)),none,237007022,[237007024]⟩ (.one ⟨(some 51),(.dw 1 (.t 31) (.t 36)),none,237007023,[237007024]⟩ (.one ⟨none,(.store 1 (.t 51) (.t 50)),none,237007024,[]⟩ (.dR false []))))) (.one ⟨(some 50),(.append 1 (.t 47) (.t 49)),none,237007022,[237007024]⟩ (.one ⟨(some 36),(.load false 1 (.t 35)),none,237007008,[237007021,237007022,237007024]⟩ (.one ⟨(some 51),(.dw 1 (.t 31) (.t 36)),none,237007023,[237007024]⟩ (.one ⟨none,(.store 1 (.t 51) (.t 50)),none,237007024,[]⟩ (.dR false [])))))))) (.one ⟨(some 50),(.append 1 (.t 47) (.t 49)),none,237007022,[237007024]⟩ (.one ⟨(some 34),(.dw 3 (.t 32) (.t 33)),none,237007006,[237007021,237007022,237007024]⟩ (.one ⟨(some 35),(.fI 0 (.t 34)),none,237007007,[237007021,237007022,237007024]⟩ (.one ⟨(some 36),(.load false 1 (.t 35)),none,237007008,[237007021,237007022,237007024]⟩ (.one ⟨(some 51),(.dw 1 (.t 31) (.t 36)),none,237007023,[237007024]⟩ (.one ⟨none,(.store 1 (.t 51) (.t 50)),none,237007024,[]⟩ (.dR false []))))))))) (.both (.one ⟨(some 34),(.dw 3 (.t 32) (.t 33)),none,237007006,[237007021,237007022,237007024]⟩ (.one ⟨(some 35),(.fI 0 (.t 34)),none,237007007,[237007021,237007022,237007024]⟩ (.both (.one ⟨(some 31),(.load false 1 (.t 30)),none,237007003,[237007021,237007022,237007024]⟩ (.both (.one ⟨(some 36),(.load false 1 (.t 35)),none,237007008,[237007021,237007022,237007024]⟩ (.one ⟨(some 50),(.append 1 (.t 47) (.t 49)),none,237007022,[237007024]⟩ (.one ⟨(some 51),(.dw 1 (.t 31) (.t 36)),none,237007023,[237007024]⟩ (.one ⟨none,(.store 1 (.t 51) (.t 50)),none,237007024,[]⟩ (.dR false []))))) (.one ⟨(some 50),(.append 1 (.t 47) (.t 49)),none,237007022,[237007024]⟩ (.one ⟨(some 36),(.load false 1 (.t 35)),none,237007008,[237007021,237007022,237007024]⟩ (.one ⟨(some 51),(.dw 1 (.t 31) (.t 36)),none,237007023,[237007024]⟩ (.one ⟨none,(.store 1 (.t 51) (.t 50)),none,237007024,[]⟩ (.dR false []))))))) (.both (.one ⟨(some 36),(.load false 1 (.t 35)),none,237007008,[237007021,237007022,237007024]⟩ (.both (.one ⟨(some 31),(.load false 1 (.t 30)),none,237007003,[237007021,237007022,237007024]⟩ (.one ⟨(some 50),(.append 1 (.t 47) (.t 49)),none,237007022,[237007024]⟩ (.one ⟨(some 51),(.dw 1 (.t 31) (.t 36)),none,237007023,[237007024]⟩ (.one ⟨none,(.store 1 (.t 51) (.t 50)),none,237007024,[]⟩ (.dR false []))))) (.one ⟨(some 50),(.append 1 (.t 47) (.t 49)),none,237007022,[237007024]⟩ (.one ⟨(some 31),(.load false 1 (.t 30)),none,237007003,[237007021,237007022,237007024]⟩ (.one ⟨(some 51),(.dw 1 (.t 31) (.t 36)),none,237007023,[237007024]⟩ (.one ⟨none,(.store 1 (.t 51) (.t 50)),none,237007024,[]⟩ (.dR false []))))))) (.one ⟨(some 50),(.append 1 (.t 47) (.t 49)),none,237007022,[237007024]⟩ (.one ⟨(some 31),(.load false 1 (.t 30)),none,237007003,[237007021,237007022,237007024]⟩ (.one ⟨(some 36),(.load false 1 (.t 35)),none,237007008,[237007021,237007022,237007024]⟩ (.one ⟨(some 51),(.dw 1 (.t 31) (.t 36)),none,237007023,[237007024]⟩ (.one ⟨none,(.store 1 (.t 51) (.t 50)),none,237007024,[]⟩ (.dR false [])))))))))) (.one ⟨(some 50),(.append 1 (.t 47) (.t 49)),none,237007022,[237007024]⟩ (.one ⟨(some 31),(.load false 1 (.t 30)),none,237007003,[237007021,237007022,237007024]⟩ (.one ⟨(some 34),(.dw 3 (.t 32) (.t 33)),none,237007006,[237007021,237007022,237007024]⟩ (.one ⟨(some 35),(.fI 0 (.t 34)),none,237007007,[237007021,237007022,237007024]⟩ (.one ⟨(some 36),(.load false 1 (.t 35)),none,237007008,[237007021,237007022,237007024]⟩ (.one ⟨(some 51),(.dw 1 (.t 31) (.t 36)),none,237007023,[237007024]⟩ (.one ⟨none,(.store 1 (.t 51) (.t 50)),none,237007024,[]⟩ (.dR false [])))))))))))))))))))))))))))) (.one ⟨(some 52),(.cD (.t 5)),none,237008000,[237008021,237008022,237008024]⟩ (.one ⟨(some 53),(.zC (.t 52)),none,237008001,[237008021,237008022,237008024]⟩ (.one ⟨(some 54),(.fI 2 (.t 53)),none,237008002,[237008021,237008022,237008024]⟩ (.one ⟨(some 56),(.cD (.t 1)),none,237008004,[237008021,237008022,237008024]⟩ (.one ⟨(some 57),(.cD (.t 6)),none,237008005,[237008021,237008022,237008024]⟩ (.one ⟨(some 61),(.cD (.t 5)),none,237008009,[237008021,237008022,237008024]⟩ (.one ⟨(some 62),(.zC (.t 61)),none,237008010,[237008021,237008022,237008024]⟩ (.one ⟨(some 63),(.fI 2 (.t 62)),none,237008011,[237008021,237008022,237008024]⟩ (.one ⟨(some 64),(.load false 1 (.t 63)),none,237008012,[237008021,237008022,237008024]⟩ (.one ⟨(some 65),(.cD (.t 1)),none,237008013,[237008021,237008022,237008024]⟩ (.one ⟨(some 66),(.cD (.t 6)),none,237008014,[237008021,237008022,237008024]⟩ (.one ⟨(some 67),(.dw 3 (.t 65) (.t 66)),none,237008015,[237008021,237008022,237008024]⟩ (.one ⟨(some 68),(.fI 1 (.t 67)),none,237008016,[237008021,237008022,237008024]⟩ (.one ⟨(some 69),(.load false 1 (.t 68)),none,237008017,[237008021,237008022,237008024]⟩ (.one ⟨(some 70),(.dw 1 (.t 64) (.t 69)),none,237008018,[237008021,237008022,237008024]⟩ (.one ⟨(some 71),(.load false 1 (.t 70)),none,237008019,[237008021,237008022,237008024]⟩ (.one ⟨(some 72),(.cD (.t 6)),none,237008020,[237008021,237008022,237008024]⟩ (.one ⟨(some 73),(.kj 1 1 [(.t 72)]),none,237008021,[237008022,237008024]⟩ (.both (.one ⟨(some 55),(.load false 1 (.t 54)),none,237008003,[237008021,237008022,237008024]⟩ (.both (.one ⟨(some 58),(.dw 3 (.t 56) (.t 57)),none,237008006,[237008021,237008022,237008024]⟩ (.one ⟨(some 59),(.fI 1 (.t 58)),none,237008007,[237008021,237008022,237008024]⟩ (.both (.one ⟨(some 60),(.load false 1 (.t 59)),none,237008008,[237008021,237008022,237008024]⟩ (.one ⟨(some 74),(.append 1 (.t 71) (.t 73)),none,237008022,[237008024]⟩ (.one ⟨(some 75),(.dw 1 (.t 55) (.t 60)),none,237008023,[237008024]⟩ (.one ⟨none,(.store 1 (.t 75) (.t 74)),none,237008024,[]⟩ (.dR false []))))) (.one ⟨(some 74),(.append 1 (.t 71) (.t 73)),none,237008022,[237008024]⟩ (.one ⟨(some 60),(.load false 1 (.t 59)),none,237008008,[237008021,237008022,237008024]⟩ (.one ⟨(some 75),(.dw 1 (.t 55) (.t 60)),none,237008023,[237008024]⟩ (.one ⟨none,(.store 1 (.t 75) (.t 74)),none,237008024,[]⟩ (.dR false [])))))))) (.one ⟨(some 74),(.append 1 (.t 71) (.t 73)),none,237008022,[237008024]⟩ (.one ⟨(some 58),(.dw 3 (.t 56) (.t 57)),none,237008006,[237008021,237008022,237008024]⟩ (.one ⟨(some 59),(.fI 1 (.t 58)),none,237008007,[237008021,237008022,237008024]⟩ (.one ⟨(some 60),(.load false 1 (.t 59)),none,237008008,[237008021,237008022,237008024]⟩ (.one ⟨(some 75),(.dw 1 (.t 55) (.t 60)),none,237008023,[237008024]⟩ (.one ⟨none,(.store 1 (.t 75) (.t 74)),none,237008024,[]⟩ (.dR false []))))))))) (.both (.one ⟨(some 58),(.dw 3 (.t 56) (.t 57)),none,237008006,[237008021,237008022,237008024]⟩ (.one ⟨(some 59),(.fI 1 (.t 58)),none,237008007,[237008021,237008022,237008024]⟩ (.both (.one ⟨(some 55),(.load false 1 (.t 54)),none,237008003,[237008021,237008022,237008024]⟩ (.both (.one ⟨(some 60),(.load false 1 (.t 59)),none,237008008,[237008021,237008022,237008024]⟩ (.one ⟨(some 74),(.append 1 (.t 71) (.t 73)),none,237008022,[237008024]⟩ (.one ⟨(some 75),(.dw 1 (.t 55) (.t 60)),none,237008023,[237008024]⟩ (.one ⟨none,(.store 1 (.t 75) (.t 74)),none,237008024,[]⟩ (.dR false []))))) (.one ⟨(some 74),(.append 1 (.t 71) (.t 73)),none,237008022,[237008024]⟩ (.one ⟨(some 60),(.load false 1 (.t 59)),none,237008008,[237008021,237008022,237008024]⟩ (.one ⟨(some 75),(.dw 1 (.t 55) (.t 60)),none,237008023,[237008024]⟩ (.one ⟨none,(.store 1 (.t 75) (.t 74)),none,237008024,[]⟩ (.dR false []))))))) (.both (.one ⟨(some 60),(.load false 1 (.t 59)),none,237008008,[237008021,237008022,237008024]⟩ (.both (.one ⟨(some 55),(.load false 1 (.t 54)),none,237008003,[237008021,237008022,237008024]⟩ (.one ⟨(some 74),(.append 1 (.t 71) (.t 73)),none,237008022,[237008024]⟩ (.one ⟨(some 75),(.dw 1 (.t 55) (.t 60)),none,237008023,[237008024]⟩ (.one ⟨none,(.store 1 (.t 75) (.t 74)),none,237008024,[]⟩ (.dR false []))))) (.one ⟨(some 74),(.append 1 (.t 71) (.t 73)),none,237008022,[237008024]⟩ (.one ⟨(some 55),(.load false 1 (.t 54)),none,237008003,[237008021,237008022,237008024]⟩ (.one ⟨(some 75),(.dw 1 (.t 55) (.t 60)),none,237008023,[237008024]⟩ (.one ⟨none,(.store 1 (.t 75) (.t 74)),none,237008024,[]⟩ (.dR false []))))))) (.one ⟨(some 74),(.append 1 (.t 71) (.t 73)),none,237008022,[237008024]⟩ (.one ⟨(some 55),(.load false 1 (.t 54)),none,237008003,[237008021,237008022,237008024]⟩ (.one ⟨(some 60),(.load false 1 (.t 59)),none,237008008,[237008021,237008022,237008024]⟩ (.one ⟨(some 75),(.dw 1 (.t 55) (.t 60)),none,237008023,[237008024]⟩ (.one ⟨none,(.store 1 (.t 75) (.t 74)),none,237008024,[]⟩ (.dR false [])))))))))) (.one ⟨(some 74),(.append 1 (.t 71) (.t 73)),none,237008022,[237008024]⟩ (.one ⟨(some 55),(.load false 1 (.t 54)),none,237008003,[237008021,237008022,237008024]⟩ (.one ⟨(some 58),(.dw 3 (.t 56) (.t 57)),none,237008006,[237008021,237008022,237008024]⟩ (.one ⟨(some 59),(.fI 1 (.t 58)),none,237008007,[237008021,237008022,237008024]⟩ (.one ⟨(some 60),(.load false 1 (.t 59)),none,237008008,[237008021,237008022,237008024]⟩ (.one ⟨(some 75),(.dw 1 (.t 55) (.t 60)),none,237008023,[237008024]⟩ (.one ⟨none,(.store 1 (.t 75) (.t 74)),none,237008024,[]⟩ (.dR false [])))))))))))))))))))))))))))))) (.dR false [q 26 (.cD (.t 6)) 237006000,q 27 (.bin .add .i64 (.t 26) (.k (.int .i64 1))) 237006001,q 6 (.cD (.t 27)) 237006002])))))) (.seq (.dR false [q 76 (.cD (.t 5)) 237009000,q 4 (.cD (.t 76)) 237009001]) .ret)))))),[(.tmp 4)]⟩
theorem LV:wh Tryz.prog 237 [(7,2),(8,2)]=some Nu:=by kernel_rfl
def Nv:zB:=⟨118,2,(.seq (.dR false [q 4 (.cD (.k .cu)) 240000000]) (.seq (.dR false [q 17 (.cD (.t 0)) 240001000,q 18 (.jI [.gx] (.t 17) (.t 17)) 240001001,q 5 (.cD (.t 18)) 240001002]) (.seq (.seq (.dR false [q 19 (.cD (.t 5)) 240002000,q 20 (.len (.t 19)) 240002001,q 21 (.cD (.k (.int .i64 0))) 240002002]) (.block 0 (.loop (.seq (.dR false [q 22 (.bin .lss .i64 (.t 21) (.t 20)) 240003000]) (.seq (.cond (.t 22) .skip (.exit 0)) (.seq (.block 1 (.seq (.dR false [q 23 (.cD (.t 21)) 240004000,q 6 (.cD (.t 23)) 240004001]) (.dR false [q 24 (.cD (.t 5)) 240005000,q 25 (.cD (.t 6)) 240005001,q 26 (.cD (.t 6)) 240005002,q 27 (.build [.gx,(.int .i64 0)] [(1,(1,(.t 26)))]) 240005003,q 28 (.box (.t 27)) 240005004,q 29 (.dw 1 (.t 24) (.t 25)) 240005005,⟨none,(.store 1 (.t 29) (.t 28)),none,240005006,[]⟩]))) (.dR false [q 30 (.bin .add .i64 (.t 21) (.k (.int .i64 1))) 240006000,q 21 (.cD (.t 30)) 240006001]))))))) (.seq (.seq (.dR false [q 31 (.cD (.t 1)) 240007000,q 32 (.len (.t 31)) 240007001,q 33 (.cD (.k (.int .i64 0))) 240007002]) (.block 2 (.loop (.seq (.dR false [q 34 (.bin .lss .i64 (.t 33) (.t 32)) 240008000]) (.seq (.cond (.t 34) .skip (.exit 2)) (.seq (.block 3 (.seq (.dR false [q 35 (.dw 3 (.t 31) (.t 33)) 240009000,q 36 (.load true 3 (.t 35)) 240009001,q 8 (.new [(.int .i64 0),(.int .i64 0),(.int .i64 0)]) 240009002,⟨none,(.store 3 (.t 8) (.t 36)),none,240009003,[]⟩]) (.seq (.one (q 37 (.cD (.t 5)) 240010000) (.one (q 38 (.fI 0 (.t 8)) 240010001) (.one (q 39 (.load false 1 (.t 38)) 240010002) (.one (q 40 (.dw 1 (.t 37) (.t 39)) 240010003) (.one (q 41 (.load false 1 (.t 40)) 240010004) (.one (q 43 (.cD (.t 5)) 240010006) (.one (q 44 (.fI 1 (.t 8)) 240010007) (.both (.one (q 42 (.call 262 [(.t 41)]) 240010005) (.one (q 45 (.load false 1 (.t 44)) 240010008) (.one (q 46 (.dw 1 (.t 43) (.t 45)) 240010009) (.one (q 47 (.load false 1 (.t 46)) 240010010) (.one (q 48 (.call 262 [(.t 47)]) 240010011) (.one (q 9 (.cD (.t 42)) 240010012) (.one (q 10 (.cD (.t 48)) 240010013) (.dR false [])))))))) (.one (q 45 (.load false 1 (.t 44)) 240010008) (.both (.one (q 42 (.call 262 [(.t 41)]) 240010005) (.one (q 46 (.dw 1 (.t 43) (.t 45)) 240010009) (.one (q 47 (.load false 1 (.t 46)) 240010010) (.one (q 48 (.call 262 [(.t 47)]) 240010011) (.one (q 9 (.cD (.t 42)) 240010012) (.one (q 10 (.cD (.t 48)) 240010013) (.dR false []))))))) (.one (q 46 (.dw 1 (.t 43) (.t 45)) 240010009) (.both (.one (q 42 (.call 262 [(.t 41)]) 240010005) (.one (q 47 (.load false 1 (.t 46)) 240010010) (.one (q 48 (.call 262 [(.t 47)]) 240010011) (.one (q 9 (.cD (.t 42)) 240010012) (.one (q 10 (.cD (.t 48)) 240010013) (.dR false [])))))) (.one (q 47 (.load false 1 (.t 46)) 240010010) (.one (q 42 (.call 262 [(.t 41)]) 240010005) (.one (q 48 (.call 262 [(.t 47)]) 240010011) (.one (q 9 (.cD (.t 42)) 240010012) (.one (q 10 (.cD (.t 48)) 240010013) (.dR false [])))))))))))))))))) (.block 4 (.seq (.dR true [q 50 (.cD (.t 9)) 240011000,q 51 (.zC (.t 50)) 240011001,q 52 (.fI 1 (.t 51)) 240011002,q 53 (.load false 1 (.t 52)) 240011003,q 54 (.cD (.t 10)) 240011004,q 55 (.zC (.t 54)) 240011005,q 56 (.fI 1 (.t 55)) 240011006,q 57 (.load false 1 (.t 56)) 240011007,q 58 (.bin .lss .i64 (.t 53) (.t 57)) 240011008,q 49 (.cD (.t 58)) 240011009]) (.cond (.t 49) (.dR false [q 59 (.cD (.t 10)) 240012000,q 60 (.cD (.t 9)) 240012001,q 61 (.zC (.t 59)) 240012002,q 62 (.fI 0 (.t 61)) 240012003,⟨none,(.store 1 (.t 62) (.t 60)),none,240012004,[]⟩]) (.seq (.dR true [q 64 (.cD (.t 10)) 240013000,q 65 (.zC (.t 64)) 240013001,q 66 (.fI 1 (.t 65)) 240013002,q 67 (.load false 1 (.t 66)) 240013003,q 68 (.cD (.t 9)) 240013004,q 69 (.zC (.t 68)) 240013005,q 70 (.fI 1 (.t 69)) 240013006,q 71 (.load false 1 (.t 70)) 240013007,q 72 (.bin .lss .i64 (.t 67) (.t 71)) 240013008,q 63 (.cD (.t 72)) 240013009]) (.cond (.t 63) (.dR false [q 73 (.cD (.t 9)) 240014000,q 74 (.cD (.t 10)) 240014001,q 75 (.zC (.t 73)) 240014002,q 76 (.fI 0 (.t 75)) 240014003,⟨none,(.store 1 (.t 76) (.t 74)),none,240014004,[]⟩]) .skip)))))))) (.dR false [q 77 (.bin .add .i64 (.t 33) (.k (.int .i64 1))) 240015000,q 33 (.cD (.t 77)) 240015001]))))))) (.seq (.dR false [q 11 (.cD (.k .cu)) 240016000]) (.seq (.dR false [⟨(some 78),(.mq (.new ⟨false,[.tI]⟩) []),none,240017000,[]⟩,q 12 (.cD (.t 78)) 240017001]) (.seq (.seq (.dR false [q 79 (.cD (.t 5)) 240018000,q 80 (.len (.t 79)) 240018001,q 81 (.cD (.k (.int .i64 0))) 240018002]) (.block 5 (.loop (.seq (.dR false [q 82 (.bin .lss .i64 (.t 81) (.t 80)) 240019000]) (.seq (.cond (.t 82) .skip (.exit 5)) (.seq (.block 6 (.seq (.dR false [q 83 (.cD (.t 81)) 240020000,q 84 (.dw 1 (.t 79) (.t 81)) 240020001,q 85 (.load false 1 (.t 84)) 240020002,q 13 (.cD (.t 83)) 240020003,q 14 (.cD (.t 85)) 240020004]) (.seq (.dR false [q 87 (.cD (.t 12)) 240021000,q 88 (.cD (.t 14)) 240021001,q 89 (.call 262 [(.t 88)]) 240021002,q 90 (.zC (.t 89)) 240021003,q 91 (.fI 1 (.t 90)) 240021004,q 92 (.load false 1 (.t 91)) 240021005,⟨(some 93),(.mq (.look ⟨false,[.tI]⟩ true (.int .i64 0)) [(.t 87),(.t 92)]),none,240021006,[]⟩,q 86 (.cD (.t 93)) 240021007,q 94 (.extract 0 (.t 86)) 240021008,q 95 (.extract 1 (.t 86)) 240021009,q 15 (.cD (.t 94)) 240021010,q 16 (.cD (.t 95)) 240021011]) (.seq (.seq (.dR false [q 96 (.cD (.t 16)) 240022000,q 97 (.not (.t 96)) 240022001]) (.cond (.t 97) (.seq (.dR false [q 98 (.cD (.t 11)) 240023000,q 99 (.len (.t 98)) 240023001,q 15 (.cD (.t 99)) 240023002]) (.seq (.dR false [q 100 (.cD (.t 12)) 240024000,q 101 (.cD (.t 13)) 240024001,q 102 (.cD (.t 15)) 240024002,⟨none,(.mw (.set ⟨false,[.tI]⟩) [(.t 100),(.t 101),(.t 102)]),none,240024003,[]⟩]) (.dR false [q 103 (.cD (.t 11)) 240025000,q 104 (.kj 1 1 [(.k .cu)]) 240025001,q 105 (.append 1 (.t 103) (.t 104)) 240025002,q 11 (.cD (.t 105)) 240025003]))) .skip)) (.dR false [q 106 (.cD (.t 11)) 240026000,q 107 (.cD (.t 15)) 240026001,q 108 (.cD (.t 11)) 240026002,q 109 (.cD (.t 15)) 240026003,q 110 (.dw 1 (.t 108) (.t 109)) 240026004,q 111 (.load false 1 (.t 110)) 240026005,q 112 (.cD (.t 13)) 240026006,q 113 (.kj 1 1 [(.t 112)]) 240026007,q 114 (.append 1 (.t 111) (.t 113)) 240026008,q 115 (.dw 1 (.t 106) (.t 107)) 240026009,⟨none,(.store 1 (.t 115) (.t 114)),none,240026010,[]⟩]))))) (.dR false [q 116 (.bin .add .i64 (.t 81) (.k (.int .i64 1))) 240027000,q 81 (.cD (.t 116)) 240027001]))))))) (.seq (.dR false [q 117 (.cD (.t 11)) 240028000,q 4 (.cD (.t 117)) 240028001]) .ret)))))))),[(.tmp 4)]⟩
theorem LW:wh Tryz.prog 240 [(10,2)]=some Nv:=by kernel_rfl
end Go.Proofs.YtgoelphibofcmaaGreat.V

namespace Go.Proofs.YtgoelphibofcmaaGreat.V
open Go.RowKit
attribute [local irreducible] dI wpOps ib Call
attribute [local go_sem] aJ gu eW gR gQ cE upd cw K.av cY AV.cells AV.cell rowOf rowsOf part ld rowAt bB cr dY eG jq bP dq eT gP fx dE eK dn dm eu ew bU bp db bR de dc eI eL eJ da cm dp eH bQ aO di cI jo bE cU bV aY du aV ea AV.undef bG bJ eA eE ei ep cJ eR eV cG eO eM dh dj List.getD_cons_zero List.getD_cons_succ List.getD_nil List.all_cons List.all_nil Bool.and_true Bool.true_and Bool.and_self Bool.not_true Bool.not_false Option.map_some Option.map_none Option.bind_some Option.bind_none List.length_cons List.length_nil List.take_succ_cons List.take_zero List.take_nil List.drop_succ_cons List.drop_zero List.drop_nil List.head?_cons List.map_cons List.map_nil List.getElem?_cons_zero List.getElem?_cons_succ List.cons_append List.nil_append List.append_nil List.length_map List.set_cons_zero List.set_cons_succ Nat.reduceMul eq_self Int.toNat_natCast Int.natCast_nonneg and_self true_and and_true decide_true decide_false Bool.false_eq_true Nat.zero_add Nat.add_zero List.contains_cons List.contains_nil Bool.or_false Bool.false_or beq_self_eq_true Nat.reduceBEq ne_eq not_true_eq_false not_false_eq_true Id.mk.injEq false_and and_false Nat.reduceLT Int.reduceLE Int.reduceLT Int.reduceToNat Int.reduceNeg Int.reduceAdd Nat.le_refl List.length_append beq_true beq_false Bool.not_eq_eq_eq_not or_false false_or eh ao aq aK br bI cC bc bz aQ bt cX cj
theorem Af (x:gI) (g:Rows):cH g 6 [.agg (bW x)]=some [.agg (bW x)]:=by simp[bW,ao,aq,bz,bI,aK]
theorem Ah (x:fC) (g:Rows):cH g 6 [.agg (bd x)]=some [.agg (bd x)]:=by simp[bd,ao,aq,bz,bI,cC]
theorem Ck (x:ae) (g:Rows):cH g 6 [.agg (ad x)]=some [.agg (ad x)]:=by simp[ad,ao,aq,bz,aK]
theorem ir {n:Nat} {l:Int} (h:(n:Int)<=l):wM n l=l-n:=if_pos h
theorem iz {n:Nat} {l:Int} (h:¬(n:Int)<=l):wM n l= -1:=if_neg h
def lr (t:fC):Nat:=t.aD.size+t.bH.length
def vU (s:au):Nat:=(s.aA.length+(s.aA.map fun g=>g.aD.size).sum)+(s.ah.length+(s.ah.map lr).sum)
def zu (s:aC):Nat:=vU s.aB+s.aX.ah.length
def fK (s:au):Prop:=(∀g∈s.aA,g.aD.size<=9223372036854775807)/\∀t∈s.ah,t.aD.size<=9223372036854775807
theorem Ir (g:gI) (l:Int) (h0:0<=l) (h1:l<=1048576) (hs:g.aD.size<=9223372036854775807):aj Tryz.prog 154 [.agg (bW g),.int .i64 l] (.int .i64 (wM g.aD.size l)):=by
 refine aj.body ej rfl fun hl n0=>?_
 clear hl
 have hw:IntKind.i64.wrap (l-(g.aD.size:Int))=l-g.aD.size:=aZ (by omega)
 by_cases hf:(g.aD.size:Int)<=l
 ·have jO:¬l-(g.aD.size:Int)<0:=by omega
  (try((repeat(revert hN;revert N;apply Pn.out));refine wk (tw @bW.eq_1 (tw @hw @jO)) ?_;(repeat(refine Pn.mk ?_;intro N hN))))
  exact bj (b:=l-(g.aD.size:Int)) (.inl rfl) (sd @Nat.zero_add) (ir hf).symm
 ·have jO:l-(g.aD.size:Int)<0:=by omega
  (try((repeat(revert hN;revert N;apply Pn.out));refine wk (tw @bW.eq_1 (tw @hw @jO)) ?_;(repeat(refine Pn.mk ?_;intro N hN))))
  exact bj (b:=-1) (.inl rfl) (sd @Nat.zero_add) (iz hf).symm
theorem Is (xs:List Int) (l:Int) (h0:0<=l) (h1:l<=1048576):aj Tryz.prog 188 [.sl (xs.map bq),.int .i64 l] (.int .i64 (wM xs.length l)):=by
 have h:=Iu (show np Tryz.prog 188=some (It 188) by kernel_rfl) (xs.map bq) l h0 h1
 rwa [List.length_map]at h
theorem Ix (t:fC) (l:Int) (h0:0<=l) (h1:l<=1048576) (hs:t.aD.size<=9223372036854775807):aj Tryz.prog 155 [.agg (bd t),.int .i64 l] (.int .i64 (wM (lr t) l)):=by
 refine aj.body ej rfl fun hl n0=>?_
 clear hl
 have hw:IntKind.i64.wrap (l-(t.aD.size:Int))=l-t.aD.size:=aZ (by omega)
 by_cases hf:(t.aD.size:Int)<=l
 ·have jO:¬l-(t.aD.size:Int)<0:=by omega
  have hc:=Is t.bH (l-t.aD.size) (by omega) (by omega)
  by_cases hg:(t.bH.length:Int)<=l-t.aD.size
  ·rw[ir hg]at hc
   have zE:¬l-(t.aD.size:Int)-(t.bH.length:Int)<0:=by omega
   (repeat(first|((repeat(revert hN;revert N;apply Pn.out));refine wk (tw @bd.eq_1 (tw @hw (tw @jO @zE))) ?_;(repeat(refine Pn.mk ?_;intro N hN)))|((try apply Or.inl);refine⟨_,aj.x (hc) (sd (tw @bd.eq_1 (tw @hw (tw @jO @zE)))),?_⟩;refine hN _ _ ?_;clear hN N)))
   exact bj (b:=l-(t.aD.size:Int)-(t.bH.length:Int)) (.inl rfl) (sd @Nat.zero_add) (by rw[ir (by unfold lr;omega)];unfold lr;omega)
  ·rw[iz hg]at hc
   (repeat(first|((repeat(revert hN;revert N;apply Pn.out));refine wk (tw @bd.eq_1 (tw @hw @jO)) ?_;(repeat(refine Pn.mk ?_;intro N hN)))|((try apply Or.inl);refine⟨_,aj.x (hc) (sd (tw @bd.eq_1 (tw @hw @jO))),?_⟩;refine hN _ _ ?_;clear hN N)))
   exact bj (b:=-1) (.inl rfl) (sd @Nat.zero_add) (iz (by unfold lr;omega)).symm
 ·have jO:l-(t.aD.size:Int)<0:=by omega
  (try((repeat(revert hN;revert N;apply Pn.out));refine wk (tw @bd.eq_1 (tw @hw @jO)) ?_;(repeat(refine Pn.mk ?_;intro N hN))))
  exact bj (b:=-1) (.inl rfl) (sd @Nat.zero_add) (iz (by unfold lr;omega)).symm
theorem F0 (xs:List gI) (l:Int) (h0:0<=l) (h1:l<=1048576) (hs:∀g∈xs,g.aD.size<=9223372036854775807):aj Tryz.prog 94 [.sl (xs.map bW),.int .i64 l] (.int .i64 (wM (xs.length+(xs.map fun g=>g.aD.size).sum) l)):=
 Iw (fun g:gI=>g.aD.size) (show np Tryz.prog 94=some (Iv 94 154 2) by kernel_rfl) (fun _=>rfl) Af xs l h0 h1 fun x hx l a b=>Ir x l a b (hs x hx)
theorem F1 (xs:List fC) (l:Int) (h0:0<=l) (h1:l<=1048576) (hs:∀t∈xs,t.aD.size<=9223372036854775807):aj Tryz.prog 95 [.sl (xs.map bd),.int .i64 l] (.int .i64 (wM (xs.length+(xs.map lr).sum) l)):=
 Iw lr (show np Tryz.prog 95=some (Iv 95 155 2) by kernel_rfl) (fun _=>rfl) Ah xs l h0 h1 fun x hx l a b=>Ix x l a b (hs x hx)
theorem Dh (xs:List ae) (l:Int) (h0:0<=l) (h1:l<=1048576):aj Tryz.prog 57 [.sl (xs.map ad),.int .i64 l] (.int .i64 (wM xs.length l)):=by
 have h:=Iu (show np Tryz.prog 57=some (It 57) by kernel_rfl) (xs.map ad) l h0 h1
 rwa [List.length_map]at h
theorem Bh (s:au) (l:Int) (h0:0<=l) (h1:l<=1048576) (hs:fK s):aj Tryz.prog 56 [.agg (ab s),.int .i64 l] (.int .i64 (wM (vU s) l)):=by
 refine aj.body ej rfl fun hl n0=>?_
 clear hl
 have ha:=F0 s.aA l h0 h1 hs.1
 have he:vU s=(s.aA.length+(s.aA.map fun g=>g.aD.size).sum)+(s.ah.length+(s.ah.map lr).sum):=rfl
 by_cases hf:((s.aA.length+(s.aA.map fun g=>g.aD.size).sum:Nat):Int)<=l
 ·rw[ir hf]at ha
  obtain⟨A,hA⟩:∃A:Int,A=l-((s.aA.length+(s.aA.map fun g=>g.aD.size).sum:Nat):Int):=⟨_,rfl⟩
  rw[<-hA]at ha
  have jO:¬A<0:=by omega
  have hb:=F1 s.ah A (by omega) (by omega) hs.2
  by_cases hg:((s.ah.length+(s.ah.map lr).sum:Nat):Int)<=A
  ·rw[ir hg]at hb
   obtain⟨B,hB⟩:∃B:Int,B=A-((s.ah.length+(s.ah.map lr).sum:Nat):Int):=⟨_,rfl⟩
   rw[<-hB]at hb
   have zE:¬B<0:=by omega
   (repeat(first|((repeat(revert hN;revert N;apply Pn.out));refine wk (tw @ab.eq_1 (tw @jO @zE)) ?_;(repeat(refine Pn.mk ?_;intro N hN)))|((try apply Or.inl);refine⟨_,aj.x (ha) (sd (tw @ab.eq_1 (tw @jO @zE))),?_⟩;refine hN _ _ ?_;clear hN N)|((try apply Or.inl);refine⟨_,aj.x (hb) (sd (tw @ab.eq_1 (tw @jO @zE))),?_⟩;refine hN _ _ ?_;clear hN N)))
   exact bj (b:=B) (.inl rfl) (sd @Nat.zero_add) (by rw[ir (by omega)];omega)
  ·rw[iz hg]at hb
   (repeat(first|((repeat(revert hN;revert N;apply Pn.out));refine wk (tw @ab.eq_1 @jO) ?_;(repeat(refine Pn.mk ?_;intro N hN)))|((try apply Or.inl);refine⟨_,aj.x (ha) (sd (tw @ab.eq_1 @jO)),?_⟩;refine hN _ _ ?_;clear hN N)|((try apply Or.inl);refine⟨_,aj.x (hb) (sd (tw @ab.eq_1 @jO)),?_⟩;refine hN _ _ ?_;clear hN N)))
   exact bj (b:=-1) (.inl rfl) (sd @Nat.zero_add) (iz (by omega)).symm
 ·rw[iz hf]at ha
  (repeat(first|((repeat(revert hN;revert N;apply Pn.out));refine wk @ab.eq_1 ?_;(repeat(refine Pn.mk ?_;intro N hN)))|((try apply Or.inl);refine⟨_,aj.x (ha) (sd @ab.eq_1),?_⟩;refine hN _ _ ?_;clear hN N)))
  exact bj (b:=-1) (.inl rfl) (sd @Nat.zero_add) (iz (by omega)).symm
theorem qO (a:fB) (l:Int) (h0:0<=l) (h1:l<=1048576):aj Tryz.prog 15 [.agg (aS a),.int .i64 l] (.int .i64 (wM a.ah.length l)):=by
 refine aj.body ej rfl fun hl n0=>?_
 clear hl
 have ha:=Dh a.ah l h0 h1
 by_cases hf:(a.ah.length:Int)<=l
 ·rw[ir hf]at ha
  have jO:¬l-(a.ah.length:Int)<0:=by omega
  (repeat(first|((repeat(revert hN;revert N;apply Pn.out));refine wk (tw @aS.eq_1 @jO) ?_;(repeat(refine Pn.mk ?_;intro N hN)))|((try apply Or.inl);refine⟨_,aj.x (ha) (sd (tw @aS.eq_1 @jO)),?_⟩;refine hN _ _ ?_;clear hN N)))
  exact bj (b:=l-(a.ah.length:Int)) (.inl rfl) (sd @Nat.zero_add) (ir hf).symm
 ·rw[iz hf]at ha
  (repeat(first|((repeat(revert hN;revert N;apply Pn.out));refine wk @aS.eq_1 ?_;(repeat(refine Pn.mk ?_;intro N hN)))|((try apply Or.inl);refine⟨_,aj.x (ha) (sd @aS.eq_1),?_⟩;refine hN _ _ ?_;clear hN N)))
  exact bj (b:=-1) (.inl rfl) (sd @Nat.zero_add) (iz hf).symm
theorem Di (s:aC) (l:Int) (h0:0<=l) (h1:l<=1048576) (hs:fK s.aB):aj Tryz.prog 14 [.agg (aw s),.int .i64 l] (.int .i64 (wM (zu s) l)):=by
 refine aj.body ej rfl fun hl n0=>?_
 clear hl
 have ha:=Bh s.aB l h0 h1 hs
 rw[ab]at ha
 have he:zu s=vU s.aB+s.aX.ah.length:=rfl
 by_cases hf:(vU s.aB:Int)<=l
 ·rw[ir hf]at ha
  have jO:¬l-(vU s.aB:Int)<0:=by omega
  have hb:=qO s.aX (l-vU s.aB) (by omega) (by omega)
  rw[aS]at hb
  by_cases hg:(s.aX.ah.length:Int)<=l-vU s.aB
  ·rw[ir hg]at hb
   have zE:¬l-(vU s.aB:Int)-(s.aX.ah.length:Int)<0:=by omega
   (repeat(first|((repeat(revert hN;revert N;apply Pn.out));refine wk (tw @aw.eq_1 (tw @jO @zE)) ?_;(repeat(refine Pn.mk ?_;intro N hN)))|((try apply Or.inl);refine⟨_,aj.x (ha) (sd (tw @aw.eq_1 (tw @jO @zE))),?_⟩;refine hN _ _ ?_;clear hN N)|((try apply Or.inl);refine⟨_,aj.x (hb) (sd (tw @aw.eq_1 (tw @jO @zE))),?_⟩;refine hN _ _ ?_;clear hN N)))
   exact bj (b:=l-(vU s.aB:Int)-(s.aX.ah.length:Int)) (.inl rfl) (sd @Nat.zero_add) (by rw[ir (by omega)];omega)
  ·rw[iz hg]at hb
   (repeat(first|((repeat(revert hN;revert N;apply Pn.out));refine wk (tw @aw.eq_1 @jO) ?_;(repeat(refine Pn.mk ?_;intro N hN)))|((try apply Or.inl);refine⟨_,aj.x (ha) (sd (tw @aw.eq_1 @jO)),?_⟩;refine hN _ _ ?_;clear hN N)|((try apply Or.inl);refine⟨_,aj.x (hb) (sd (tw @aw.eq_1 @jO)),?_⟩;refine hN _ _ ?_;clear hN N)))
   exact bj (b:=-1) (.inl rfl) (sd @Nat.zero_add) (iz (by omega)).symm
 ·rw[iz hf]at ha
  (repeat(first|((repeat(revert hN;revert N;apply Pn.out));refine wk @aw.eq_1 ?_;(repeat(refine Pn.mk ?_;intro N hN)))|((try apply Or.inl);refine⟨_,aj.x (ha) (sd @aw.eq_1),?_⟩;refine hN _ _ ?_;clear hN N)))
  exact bj (b:=-1) (.inl rfl) (sd @Nat.zero_add) (iz (by omega)).symm
end Go.Proofs.YtgoelphibofcmaaGreat.V

namespace Go.Proofs.YtgoelphibofcmaaGreat.V
open Go.RowKit
attribute [local irreducible] dI wpOps ib Call
attribute [local go_sem] aJ gu eW gR gQ cE upd cw K.av cY AV.cells AV.cell rowOf rowsOf part ld rowAt bB cr dY eG jq bP dq eT gP fx dE eK dn dm eu ew bU bp db bR de dc eI eL eJ da cm dp eH bQ aO di cI jo bE cU bV aY du aV ea AV.undef bG bJ eA eE ei ep cJ eR eV cG eO eM dh dj List.getD_cons_zero List.getD_cons_succ List.getD_nil List.all_cons List.all_nil Bool.and_true Bool.true_and Bool.and_self Bool.not_true Bool.not_false Option.map_some Option.map_none Option.bind_some Option.bind_none List.length_cons List.length_nil List.take_succ_cons List.take_zero List.take_nil List.drop_succ_cons List.drop_zero List.drop_nil List.head?_cons List.map_cons List.map_nil List.getElem?_cons_zero List.getElem?_cons_succ List.cons_append List.nil_append List.append_nil List.length_map List.set_cons_zero List.set_cons_succ Nat.reduceMul eq_self Int.toNat_natCast Int.natCast_nonneg and_self true_and and_true decide_true decide_false Bool.false_eq_true Nat.zero_add Nat.add_zero List.contains_cons List.contains_nil Bool.or_false Bool.false_or beq_self_eq_true Nat.reduceBEq ne_eq not_true_eq_false not_false_eq_true Id.mk.injEq false_and and_false Nat.reduceLT Int.reduceLE Int.reduceLT Int.reduceToNat Int.reduceNeg Int.reduceAdd Nat.le_refl List.length_append beq_true beq_false Bool.not_eq_eq_eq_not or_false false_or eh ao aq aK br bI cC bc bz aQ bt cX cj
theorem Ku (x:gI) (g:Rows):cH g 5 (bW x)=some (bW x):=by simp[bW,ao,aq,bI,aK]
theorem Kv (x:fC) (g:Rows):cH g 5 (bd x)=some (bd x):=by simp[bd,ao,aq,bI,cC]
theorem FM (x:ae) (g:Rows):cH g 5 (ad x)=some (ad x):=by simp[ad,ao,aq,aK]
theorem F7 (p:ai):l5 Tryz.prog 82 [.agg (aa p)] (.agg (aa p)):=by
 refine l5.body ej rfl fun hl σ=>?_
 clear hl
 (try((repeat(revert hN;revert N;apply Pn.out));refine wk @aa.eq_1 ?_;(repeat(refine Pn.mk ?_;intro N hN))))
 exact C1 (.inl rfl) (vs:=[.agg (aa p)]) (by simp only[go_sem, ↓reduceIte,Nat.reduceEqDiff,Nat.reduceAdd,Nat.reduceSub,Nat.reduceLeDiff,reduceCtorEq,eY,gO,aa]) (by simp[fe,aa,bz,ao,aq,aK])
theorem Dk (p:ae):l5 Tryz.prog 104 [.agg (ad p)] (.agg (ad p)):=by
 refine l5.body ej rfl fun hl σ=>?_
 clear hl
 have h:=F7 p.aF
 rw[aa]at h
 (repeat(first|((repeat(revert hN;revert N;apply Pn.out));refine wk @ad.eq_1 ?_;(repeat(refine Pn.mk ?_;intro N hN)))|((try apply Or.inl);refine⟨_,l5.x (h) _,?_⟩;refine hN _ _ ?_;clear hN N)))
 exact C1 (.inl rfl) (vs:=[.agg (ad p)]) (by simp only[go_sem, ↓reduceIte,Nat.reduceEqDiff,Nat.reduceAdd,Nat.reduceSub,Nat.reduceLeDiff,reduceCtorEq,eY,gO,ad]) (by simp[fe,ad,bz,ao,aq,aK])
theorem IB (p:gI):l5 Tryz.prog 161 [.agg (bW p)] (.agg (bW p)):=by
 refine l5.body ej rfl fun hl σ=>?_
 clear hl
 (try((repeat(revert hN;revert N;apply Pn.out));refine wk @bW.eq_1 ?_;(repeat(refine Pn.mk ?_;intro N hN))))
 exact C1 (.inl rfl) (vs:=[.agg (bW p)]) (by simp only[go_sem, ↓reduceIte,Nat.reduceEqDiff,Nat.reduceAdd,Nat.reduceSub,Nat.reduceLeDiff,reduceCtorEq,eY,gO,bW]) (by simp[fe,bW,bz,ao,aq,aK,bI])
theorem IC (xs:List Int) (h:xs.length<=1048576):l5 Tryz.prog 195 [.sl (xs.map bq)] (.sl (xs.map bq)):=
 PY (show np Tryz.prog 195=some (Lw 195 (.int .i64 0)) by kernel_rfl) xs h
def xU (t:fC):Prop:=t.bH.length<=1048576
theorem ID (p:fC) (hs:xU p):l5 Tryz.prog 162 [.agg (bd p)] (.agg (bd p)):=by
 refine l5.body ej rfl fun hl σ=>?_
 clear hl
 have h:=IC p.bH hs
 (repeat(first|((repeat(revert hN;revert N;apply Pn.out));refine wk @bd.eq_1 ?_;(repeat(refine Pn.mk ?_;intro N hN)))|((try apply Or.inl);refine⟨_,l5.x (h) _,?_⟩;refine hN _ _ ?_;clear hN N)))
 exact C1 (.inl rfl) (vs:=[.agg (bd p)]) (by simp only[go_sem, ↓reduceIte,Nat.reduceEqDiff,Nat.reduceAdd,Nat.reduceSub,Nat.reduceLeDiff,reduceCtorEq,eY,gO,bd]) (by simp[fe,bd,bz,ao,aq,cC,bI])
theorem G2 (xs ys:List Int):aj Tryz.prog 30 [.sl (xs.map bq),.sl (ys.map bq)] (.bool (decide (xs=ys))):=
 OK (show np Tryz.prog 30=some (K0 30 .tI) by kernel_rfl) xs ys
theorem G3 (a b:fC):aj Tryz.prog 170 [.agg (bd a),.agg (bd b)] (.bool (decide (a=b))):=by
 refine aj.body ej rfl fun hl n0=>?_
 clear hl
 have h:=G2 a.bH b.bH
 by_cases h1:a.aD=b.aD
 ·have e1:decide (a.aD=b.aD)=true:=decide_eq_true h1
  by_cases h2:a.bH=b.bH
  ·rw[decide_eq_true h2]at h
   (repeat(first|((repeat(revert hN;revert N;apply Pn.out));refine wk (tw @bd.eq_1 @e1) ?_;(repeat(refine Pn.mk ?_;intro N hN)))|((try apply Or.inl);refine⟨_,aj.x (h) (sd (tw @bd.eq_1 @e1)),?_⟩;refine hN _ _ ?_;clear hN N)))
   exact aI (b:=true) (.inl rfl) (sd @Nat.zero_add) (decide_eq_true (by cases a;cases b;simp_all)).symm
  ·rw[decide_eq_false h2]at h
   (repeat(first|((repeat(revert hN;revert N;apply Pn.out));refine wk (tw @bd.eq_1 @e1) ?_;(repeat(refine Pn.mk ?_;intro N hN)))|((try apply Or.inl);refine⟨_,aj.x (h) (sd (tw @bd.eq_1 @e1)),?_⟩;refine hN _ _ ?_;clear hN N)))
   exact aI (b:=false) (.inl rfl) (sd @Nat.zero_add) (decide_eq_false (by rintro rfl;exact h2 rfl)).symm
 ·have e1:decide (a.aD=b.aD)=false:=decide_eq_false h1
  (try((repeat(revert hN;revert N;apply Pn.out));refine wk (tw @bd.eq_1 @e1) ?_;(repeat(refine Pn.mk ?_;intro N hN))))
  exact aI (b:=false) (.inl rfl) (sd @Nat.zero_add) (decide_eq_false (by rintro rfl;exact h1 rfl)).symm
theorem F6 (xs:List gI) (h:xs.length<=1048576):l5 Tryz.prog 102 [.sl (xs.map bW)] (.sl (xs.map bW)):=
 Dl (show np Tryz.prog 102=some (Er 102 161 2 [.str [],.int .i64 0]) by kernel_rfl) rfl (fun _=>rfl) (fun _=>rfl) Ku xs h fun x _=>IB x
theorem F8 (xs:List fC) (h:xs.length<=1048576) (hs:∀t∈xs,xU t):l5 Tryz.prog 103 [.sl (xs.map bd)] (.sl (xs.map bd)):=
 Dl (show np Tryz.prog 103=some (Er 103 162 2 [.str [],.cu]) by kernel_rfl) rfl (fun _=>rfl) (fun _=>rfl) Kv xs h fun x hx=>ID x (hs x hx)
theorem Bk (xs:List ae) (h:xs.length<=1048576):l5 Tryz.prog 62 [.sl (xs.map ad)] (.sl (xs.map ad)):=
 Dl (show np Tryz.prog 62=some (Er 62 104 3 [.int .i64 0,.int .i64 0,.int .i64 0]) by kernel_rfl) rfl (fun _=>rfl) (fun _=>rfl) FM xs h fun x _=>Dk x
structure KV (s:au):Prop where
 g:s.aA.length<=1048576
 t:s.ah.length<=1048576
 s:∀t∈s.ah,xU t
structure tR (y:aC):Prop where
 s:KV y.aB
 a:y.aX.ah.length<=1048576
theorem Bl (p:au) (hs:KV p):l5 Tryz.prog 61 [.agg (ab p)] (.agg (ab p)):=by
 refine l5.body ej rfl fun hl σ=>?_
 clear hl
 have h1:=F6 p.aA hs.g
 have h2:=F8 p.ah hs.t hs.s
 (repeat(first|((repeat(revert hN;revert N;apply Pn.out));refine wk @ab.eq_1 ?_;(repeat(refine Pn.mk ?_;intro N hN)))|((try apply Or.inl);refine⟨_,l5.x (h1) _,?_⟩;refine hN _ _ ?_;clear hN N)|((try apply Or.inl);refine⟨_,l5.x (h2) _,?_⟩;refine hN _ _ ?_;clear hN N)))
 exact C1 (.inl rfl) (vs:=[.agg (ab p)]) (by simp only[go_sem, ↓reduceIte,Nat.reduceEqDiff,Nat.reduceAdd,Nat.reduceSub,Nat.reduceLeDiff,reduceCtorEq,eY,gO,ab]) (by simp[fe,ab,bz,ao,aq,cC])
theorem qQ (p:fB) (hs:p.ah.length<=1048576):l5 Tryz.prog 18 [.agg (aS p)] (.agg (aS p)):=by
 refine l5.body ej rfl fun hl σ=>?_
 clear hl
 have h1:=Bk p.ah hs
 (repeat(first|((repeat(revert hN;revert N;apply Pn.out));refine wk @aS.eq_1 ?_;(repeat(refine Pn.mk ?_;intro N hN)))|((try apply Or.inl);refine⟨_,l5.x (h1) _,?_⟩;refine hN _ _ ?_;clear hN N)))
 exact C1 (.inl rfl) (vs:=[.agg (aS p)]) (by simp only[go_sem, ↓reduceIte,Nat.reduceEqDiff,Nat.reduceAdd,Nat.reduceSub,Nat.reduceLeDiff,reduceCtorEq,eY,gO,aS]) (by simp[fe,aS,bz,ao,aq,cC])
theorem Dm (p:aC) (hs:tR p):l5 Tryz.prog 17 [.agg (aw p)] (.agg (aw p)):=by
 refine l5.body ej rfl fun hl σ=>?_
 clear hl
 have h1:=Bl p.aB hs.s
 have h2:=qQ p.aX hs.a
 rw[ab]at h1
 rw[aS]at h2
 (repeat(first|((repeat(revert hN;revert N;apply Pn.out));refine wk @aw.eq_1 ?_;(repeat(refine Pn.mk ?_;intro N hN)))|((try apply Or.inl);refine⟨_,l5.x (h1) _,?_⟩;refine hN _ _ ?_;clear hN N)|((try apply Or.inl);refine⟨_,l5.x (h2) _,?_⟩;refine hN _ _ ?_;clear hN N)))
 exact C1 (.inl rfl) (vs:=[.agg (aw p)]) (by simp only[go_sem, ↓reduceIte,Nat.reduceEqDiff,Nat.reduceAdd,Nat.reduceSub,Nat.reduceLeDiff,reduceCtorEq,eY,gO,aw]) (by simp[fe,aw,bz,ao,aq,cC,aK])
theorem G1 (a b:gI):aj Tryz.prog 169 [.agg (bW a),.agg (bW b)] (.bool (decide (a=b))):=by
 refine aj.body ej rfl fun hl n0=>?_
 clear hl
 by_cases h1:a.aD=b.aD
 ·have e1:decide (a.aD=b.aD)=true:=decide_eq_true h1
  by_cases h2:a.dX=b.dX
  ·have e2:decide (a.dX=b.dX)=true:=decide_eq_true h2
   (try((repeat(revert hN;revert N;apply Pn.out));refine wk (tw @bW.eq_1 (tw @e1 @e2)) ?_;(repeat(refine Pn.mk ?_;intro N hN))))
   exact aI (b:=true) (.inl rfl) (sd @Nat.zero_add) (decide_eq_true (by cases a;cases b;simp_all)).symm
  ·have e2:decide (a.dX=b.dX)=false:=decide_eq_false h2
   (try((repeat(revert hN;revert N;apply Pn.out));refine wk (tw @bW.eq_1 (tw @e1 @e2)) ?_;(repeat(refine Pn.mk ?_;intro N hN))))
   exact aI (b:=false) (.inl rfl) (sd @Nat.zero_add) (decide_eq_false (by rintro rfl;exact h2 rfl)).symm
 ·have e1:decide (a.aD=b.aD)=false:=decide_eq_false h1
  (try((repeat(revert hN;revert N;apply Pn.out));refine wk (tw @bW.eq_1 @e1) ?_;(repeat(refine Pn.mk ?_;intro N hN))))
  exact aI (b:=false) (.inl rfl) (sd @Nat.zero_add) (decide_eq_false (by rintro rfl;exact h1 rfl)).symm
theorem EY (a b:ai):aj Tryz.prog 29 [.agg (aa a),.agg (aa b)] (.bool (decide (a=b))):=by
 refine aj.body ej rfl fun hl n0=>?_
 clear hl
 by_cases h1:a.eB=b.eB
 ·have e1:decide (a.eB=b.eB)=true:=decide_eq_true h1
  by_cases h2:a.ek=b.ek
  ·have e2:decide (a.ek=b.ek)=true:=decide_eq_true h2
   (try((repeat(revert hN;revert N;apply Pn.out));refine wk (tw @aa.eq_1 (tw @e1 @e2)) ?_;(repeat(refine Pn.mk ?_;intro N hN))))
   exact aI (b:=true) (.inl rfl) (sd @Nat.zero_add) (decide_eq_true (by cases a;cases b;simp_all)).symm
  ·have e2:decide (a.ek=b.ek)=false:=decide_eq_false h2
   (try((repeat(revert hN;revert N;apply Pn.out));refine wk (tw @aa.eq_1 (tw @e1 @e2)) ?_;(repeat(refine Pn.mk ?_;intro N hN))))
   exact aI (b:=false) (.inl rfl) (sd @Nat.zero_add) (decide_eq_false (by rintro rfl;exact h2 rfl)).symm
 ·have e1:decide (a.eB=b.eB)=false:=decide_eq_false h1
  (try((repeat(revert hN;revert N;apply Pn.out));refine wk (tw @aa.eq_1 @e1) ?_;(repeat(refine Pn.mk ?_;intro N hN))))
  exact aI (b:=false) (.inl rfl) (sd @Nat.zero_add) (decide_eq_false (by rintro rfl;exact h1 rfl)).symm
theorem B5 (a b:ae):aj Tryz.prog 110 [.agg (ad a),.agg (ad b)] (.bool (decide (a=b))):=by
 refine aj.body ej rfl fun hl n0=>?_
 clear hl
 have h:=EY a.aF b.aF
 rw[aa,aa]at h
 by_cases h1:a.aF=b.aF
 ·rw[decide_eq_true h1]at h
  by_cases h2:a.aN=b.aN
  ·have e2:decide (a.aN=b.aN)=true:=decide_eq_true h2
   (repeat(first|((repeat(revert hN;revert N;apply Pn.out));refine wk (tw @ad.eq_1 @e2) ?_;(repeat(refine Pn.mk ?_;intro N hN)))|((try apply Or.inl);refine⟨_,aj.x (h) (sd (tw @ad.eq_1 @e2)),?_⟩;refine hN _ _ ?_;clear hN N)))
   exact aI (b:=true) (.inl rfl) (sd @Nat.zero_add) (decide_eq_true (by cases a;cases b;simp_all)).symm
  ·have e2:decide (a.aN=b.aN)=false:=decide_eq_false h2
   (repeat(first|((repeat(revert hN;revert N;apply Pn.out));refine wk (tw @ad.eq_1 @e2) ?_;(repeat(refine Pn.mk ?_;intro N hN)))|((try apply Or.inl);refine⟨_,aj.x (h) (sd (tw @ad.eq_1 @e2)),?_⟩;refine hN _ _ ?_;clear hN N)))
   exact aI (b:=false) (.inl rfl) (sd @Nat.zero_add) (decide_eq_false (by rintro rfl;exact h2 rfl)).symm
 ·rw[decide_eq_false h1]at h
  (repeat(first|((repeat(revert hN;revert N;apply Pn.out));refine wk @ad.eq_1 ?_;(repeat(refine Pn.mk ?_;intro N hN)))|((try apply Or.inl);refine⟨_,aj.x (h) (sd @ad.eq_1),?_⟩;refine hN _ _ ?_;clear hN N)))
  exact aI (b:=false) (.inl rfl) (sd @Nat.zero_add) (decide_eq_false (by rintro rfl;exact h1 rfl)).symm
theorem EX (xs ys:List gI):aj Tryz.prog 108 [.sl (xs.map bW),.sl (ys.map bW)] (.bool (decide (xs=ys))):=
 B6 (show np Tryz.prog 108=some (DN 108 169 2) by kernel_rfl) (fun _=>rfl) Af xs ys G1
theorem EZ (xs ys:List fC):aj Tryz.prog 109 [.sl (xs.map bd),.sl (ys.map bd)] (.bool (decide (xs=ys))):=
 B6 (show np Tryz.prog 109=some (DN 109 170 2) by kernel_rfl) (fun _=>rfl) Ah xs ys G3
theorem sn (xs ys:List ae):aj Tryz.prog 66 [.sl (xs.map ad),.sl (ys.map ad)] (.bool (decide (xs=ys))):=
 B6 (show np Tryz.prog 66=some (DN 66 110 3) by kernel_rfl) (fun _=>rfl) Ck xs ys B5
theorem B7 (a:aC):aj Tryz.prog 20 [.agg (aw a),.agg (aw a)] (.bool true):=by
 have q1:aj Tryz.prog 65 [.agg (ab a.aB),.agg (ab a.aB)] (.bool true):=by
  refine aj.body ej rfl fun hl n0=>?_
  clear hl
  have h1:=EX a.aB.aA a.aB.aA
  have h2:=EZ a.aB.ah a.aB.ah
  rw[decide_eq_true rfl]at h1 h2
  (repeat(first|((repeat(revert hN;revert N;apply Pn.out));refine wk @ab.eq_1 ?_;(repeat(refine Pn.mk ?_;intro N hN)))|((try apply Or.inl);refine⟨_,aj.x (h1) (sd @ab.eq_1),?_⟩;refine hN _ _ ?_;clear hN N)|((try apply Or.inl);refine⟨_,aj.x (h2) (sd @ab.eq_1),?_⟩;refine hN _ _ ?_;clear hN N)))
  exact aI (b:=true) (.inl rfl) (sd @Nat.zero_add) rfl
 have q2:aj Tryz.prog 21 [.agg (aS a.aX),.agg (aS a.aX)] (.bool true):=by
  refine aj.body ej rfl fun hl n0=>?_
  clear hl
  have h1:=sn a.aX.ah a.aX.ah
  rw[decide_eq_true rfl]at h1
  (repeat(first|((repeat(revert hN;revert N;apply Pn.out));refine wk @aS.eq_1 ?_;(repeat(refine Pn.mk ?_;intro N hN)))|((try apply Or.inl);refine⟨_,aj.x (h1) (sd @aS.eq_1),?_⟩;refine hN _ _ ?_;clear hN N)))
  exact aI (b:=true) (.inl rfl) (sd @Nat.zero_add) rfl
 rw[ab]at q1
 rw[aS]at q2
 refine aj.body ej rfl fun hl n0=>?_
 clear hl
 have e:decide (a.az=a.az)=true:=decide_eq_true rfl
 (repeat(first|((repeat(revert hN;revert N;apply Pn.out));refine wk (tw @aw.eq_1 @e) ?_;(repeat(refine Pn.mk ?_;intro N hN)))|((try apply Or.inl);refine⟨_,aj.x (q1) (sd (tw @aw.eq_1 @e)),?_⟩;refine hN _ _ ?_;clear hN N)|((try apply Or.inl);refine⟨_,aj.x (q2) (sd (tw @aw.eq_1 @e)),?_⟩;refine hN _ _ ?_;clear hN N)))
 exact aI (b:=true) (.inl rfl) (sd @Nat.zero_add) rfl
end Go.Proofs.YtgoelphibofcmaaGreat.V

namespace Go.Proofs.YtgoelphibofcmaaGreat.V
open Go.RowKit
variable {P:Program}
theorem M1 (hm:P.follows .mixedOrders=true) {f:Nat} {args:List AV} {vs:Array Value} {w:World} (h:aj P f args (.bool true)) (hA:fa P w (fun b=>b<w.heap.size) (fun _=>none) args vs):
  Calls P f vs w fun e w'=>e=.returned (.bool true)/\Below w.heap.size w w':=by
 have hs:=gY hm (h 0) w.heap.size (fun b=>b<w.heap.size) (fun _=>none) w vs ⟨Nat.le_refl _,fun _ h=>h,fun id r h=>(by cases h),fun id jR r r' B B' h=>(by cases h)⟩ (fun id h=>absurd rfl h) hA
 refine hs.mono ?_
 rintro e w' ⟨r,g',n',D',ι',u,rfl,⟨r',hz,rfl⟩,cK,hsim,_,_,gj⟩
 have hr:r=.bool true:=by
  cases r<;>rw[fX]at hz<;>simp_all
  all_goals (repeat' (split at hz))<;>simp_all
 subst hr
 exact⟨by rw[eS gj],cK.below⟩
theorem lT {xs:List AV} {w:World} {D:Nat->Prop} {ι:Names} {a:AV} {v:Value} {vs:Array Value} (h:jr P w D a v) (k:fa P w D ι xs vs):fa P w D ι (a::xs) (#[v]++vs):=
 nZ (xs:=[a]) ⟨rfl,fun j b hj=>by
  cases j with
  |zero=>simp at hj;subst hj;exact⟨v,rfl,.eD _ _ h⟩
  |succ j=>simp at hj⟩ k
end Go.Proofs.YtgoelphibofcmaaGreat.V
