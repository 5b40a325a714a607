/- One operation, calls among them. -/
import Derived.Test.YtoodopepphhpoaaGreatDoorTgA
import Derived.Orders
import Derived.Conc.LoneCalls
import Derived.WalkKit
import Derived.WalkSpells
import Derived.WalkLawsBesides
import Derived.Lib.Hide
import Derived.Deep.QuietTactic
import Derived.BigQuiet
import Derived.StillTailTactics
import Derived.Deep.RegionWith
import Derived.Deep.RegionHeld3
import Derived.Deep.LoopGhost
import Derived.Deep.CutRange
import Derived.Deep.DeepCutAuto
import Derived.Test.YtoodopepphhpoaaGreatDoorChecked
set_option linter.unusedVariables false
set_option linter.unusedSimpArgs false
set_option maxRecDepth 100000
set_option maxHeartbeats 16000000
namespace Go.Proofs.YtoodopepphhpoaaGreatDoor.V
open Go.RowKit
variable {P:Program} {w w':World} {D D' D2:Nat->Prop} {ι ι' ι2:Names}
def Sound (P:Program):im:=fun f args σ K=>∀(hs:Nat) (D:Nat->Prop) (ι:Names) (w:World) (vs:Array Value),iD P hs D ι σ.get w->Used ι σ.next (fun _=>False)->gI P w D ι args vs->
 Calls P f vs w fun e w'=>∃r g' n' D' ι' u,e=.returned u/\K r ⟨g',n'⟩/\Step hs D ι w D' ι' w'/\iD P hs D' ι' g' w'/\Used ι' n' (fun _=>False)/\σ.next<=n'/\dZ P w' D' ι' r u
section
variable {g:Rows} {hs:Nat} {env:Env} {a:Act} {o:Oper} {id:Id} {v:AV}
theorem iD.ro (S:iD P hs D ι g w):iD P w.heap.size D ι (ro g) w:=by
 refine⟨Nat.le_refl _,S.dead,fun id r h=>?_,fun id lz r r' B B' h h' hw=>?_⟩
 ·unfold V.ro at h
  simp only[Option.map_eq_some_iff]at h
  obtain⟨r0,h0,rfl⟩:=h
  obtain⟨B,hB,R,_,_⟩:=S.row id r0 h0
  exact⟨B,hB,R.flag false,fun h=>by simp at h,fun h=>by simp at h⟩
 ·unfold V.ro at h
  simp only[Option.map_eq_some_iff]at h
  obtain⟨r0,h0,rfl⟩:=h
  simp at hw
theorem EY {g0:Rows} {f:Nat} {args:List AV} {n:Nat} {K:AV->Prop} {vs:Array Value} (h:PC (Sound P) f args ⟨g0,n⟩ K) (nq:∀id r,g0 id=some r->g id=some r) (S:iD P hs D ι g w) (U:Used ι n (fun _=>False)) (A:gI P w D ι args vs):
  Calls P f vs w fun e w'=>∃r D' u,e=.returned u/\K r/\Step hs D ι w D' ι w'/\iD P hs D' ι g w'/\dZ P w' D' ι r u:=by
 refine(h w.heap.size D ι w vs (S.sub nq).ro U A).mono ?_
 rintro e w' ⟨r0,g',n',D1,ι1,u,rfl,⟨r,hr,hK⟩,T,S1,_,_,hR⟩
 have hb:∀b,b<w.heap.size->w'.heap[b]? =w.heap[b]? :=T.below.block
 have hz:=T.below.size
 have q:=rl (D2:=fun b=>D b∨(w.heap.size<=b/\b<w'.heap.size)) (ι2:=ι) (fun b hd=>by
  rcases T.new b hd with h|h
  ·exact .inl h
  ·exact .inr ⟨h,S1.dead b hd⟩) (fun id row hg hw=>by
  obtain⟨B,hB,R,h1,_⟩:=S1.row id row hg
  exact⟨B,hB,R,.inr ⟨h1 hw,R.lt⟩⟩) 6 r0 u r hR hr
 refine⟨r,_,u,rfl,hK,?_,?_,q.1⟩
 ·exact Step.stay S hb hz T.below.os T.below.tape T.below.output (fun _ h=>.inl h) (fun b h=>by rcases h with h|h;exact .inl h;exact .inr h.1) (fun _ _ h=>h)
 ·exact S.stay hb hz (fun _ h=>.inl h) (fun b h=>by rcases h with h|h;exact Nat.lt_of_lt_of_le (S.dead b h) hz;exact h.2) (fun b h=>by rcases h with h|h;exact .inl h;exact .inr h.1) (fun _ _ h=>h)
theorem B4 {g0:Rows} {f:Nat} {args:List AV} {n:Nat} {K:AV->Prop} {vs:Array Value} (h:PCv (Sound P) f args ⟨g0,n⟩ K) (nq:∀id r,g0 id=some r->g id=some r) (S:iD P hs D ι g w) (U:Used ι n (fun _=>False)) (A:gI P w D ι args vs):
  Calls P f vs w fun e w'=>∃r D' u,e=.returned u/\K r/\Step hs D ι w D' ι w'/\iD P hs D' ι g w'/\dZ P w' D' ι r u:=by
 obtain⟨args',ha,h⟩:=h
 let D1:Nat->Prop:=fun b=>D b∨∃id r B,g id=some r/\ι id=some B/\b=B.b
 have lt:∀id r B,g id=some r->ι id=some B->B.b<w.heap.size:=fun id r B h1 h2=>by
  obtain⟨B',eE,R,_⟩:=S.row id r h1
  rw[h2]at eE;injection eE with eE;subst eE
  exact R.lt
 have S0:iD P w.heap.size D1 ι (fun _=>none) w:=⟨Nat.le_refl _,fun b hb=>by
  rcases hb with hb|⟨id,r,B,h1,h2,rfl⟩
  ·exact S.dead b hb
  ·exact lt id r B h1 h2,fun id r h=>(by cases h),fun id lz r r' B B' h=>(by cases h)⟩
 obtain⟨l1,l2⟩:=iG ha
 have A':gI P w D1 ι args' vs:=⟨by rw[A.1,l1],fun j a hj=>by
  obtain⟨a0,mM,hf⟩:=l2 j a hj
  obtain⟨u,hu,hr⟩:=A.2 j a0 mM
  refine⟨u,hu,(rl (D2:=D1) (ι2:=ι) (fun b h=>.inl h) (fun id row hg hw=>?_) 6 a0 u a hr hf).1⟩
  unfold ez at hg
  simp only[Option.map_eq_some_iff]at hg
  obtain⟨r,mj,rfl⟩:=hg
  obtain⟨B,hB,R,_,_⟩:=S.row id r (nq id r mj)
  exact⟨B,hB,R.flag true,.inr ⟨id,r,B,nq id r mj,hB,rfl⟩⟩⟩
 refine(h w.heap.size D1 ι w vs S0 U A').mono ?_
 rintro e w' ⟨r0,g',n',D2,ι1,u,rfl,⟨r,hr,hK⟩,T,S1,_,_,hR⟩
 have hb:∀b,b<w.heap.size->w'.heap[b]? =w.heap[b]? :=T.below.block
 have hz:=T.below.size
 have q:=KX (D2:=fun b=>D b∨(w.heap.size<=b/\b<w'.heap.size)) (ι2:=ι) (fun id row hg hw=>by
  obtain⟨B,hB,R,h1,_⟩:=S1.row id row hg
  exact⟨B,hB,R,.inr ⟨h1 hw,R.lt⟩⟩) 6 r0 u r hR hr
 refine⟨r,_,u,rfl,hK,?_,?_,q.1⟩
 ·exact Step.stay S hb hz T.below.os T.below.tape T.below.output (fun _ h=>.inl h) (fun b h=>by rcases h with h|h;exact .inl h;exact .inr h.1) (fun _ _ h=>h)
 ·exact S.stay hb hz (fun _ h=>.inl h) (fun b h=>by rcases h with h|h;exact Nat.lt_of_lt_of_le (S.dead b h) hz;exact h.2) (fun b h=>by rcases h with h|h;exact .inl h;exact .inr h.1) (fun _ _ h=>h)
theorem Kw {g0:Rows} {f:Nat} {args:List AV} {n:Nat} {K:AV->Prop} {vs:Array Value} (h:fB (Sound P) f args ⟨g0,n⟩ K) (nq:∀id r,g0 id=some r->g id=some r) (S:iD P hs D ι g w) (U:Used ι n (fun _=>False)) (A:gI P w D ι args vs):
  Calls P f vs w fun e w'=>∃r D' u,e=.returned u/\K r/\Step hs D ι w D' ι w'/\iD P hs D' ι g w'/\dZ P w' D' ι r u:=by
 rcases h with h|h
 ·exact EY h nq S U A
 ·exact B4 h nq S U A
theorem LL {D1 D2:Nat->Prop} {ι1 ι2:Names} {w1:World} {a:AV} {v:Value} (hp:a.plain=true) (h:dZ P w D1 ι1 a v):dZ P w1 D2 ι2 a v:=by
 cases h with
 |fq a v h=>cases h<;>first|(simp[AV.plain]at hp;done)|exact .fq _ _ (by constructor)
 |_=>simp[AV.plain]at hp
theorem iD.add {r:Row} {B:wL} (S:iD P hs D ι g w) (S':iD P hs D ι g w') (hf:ι id=none) (kN:w.heap.size<=B.b) (R:jg P w' D (l8 ι id B) B r):iD P hs D (l8 ι id B) (ck g id r) w':=by
 have lt:∀lz r' B',g lz=some r'->ι lz=some B'->B'.b<w.heap.size:=fun lz r' B' h1 h2=>by
  obtain⟨B2,mv,R2,_⟩:=S.row lz r' h1
  rw[h2]at mv;injection mv with mv;subst mv
  exact R2.lt
 have ne:∀lz r',g lz=some r'->lz≠id:=fun lz r' h he=>by
  subst he
  obtain⟨B2,mv,_⟩:=S.row _ r' h
  rw[hf]at mv;cases mv
 refine⟨S'.lo,S'.dead,fun lz r' h=>?_,fun Rk id2 r1 r2 B1 B2 h1 h2 hw Bn mv hb=>?_⟩
 ·unfold ck at h
  split at h
  ·rename_i he
   subst he
   injection h with h;subst h
   exact⟨B,eW _ _ _,R,fun _=>Nat.le_trans S.lo kN,fun _ hd=>Nat.lt_irrefl _ (Nat.lt_of_lt_of_le (S.dead _ hd) kN)⟩
  ·obtain⟨B',eE,R',k1,k2⟩:=S'.row lz r' h
   exact⟨B',by rw[iN (ne _ _ h)];exact eE,R'.frame rfl (fun a v hr=>hr.frame (fun _ _=>rfl) (fun _ h=>h) (gq hf)),k1,k2⟩
 ·unfold ck at h1 h2
  split at h1
  ·rename_i e1
   split at h2
   ·rename_i e2;rw[e1,e2]
   ·exfalso
    subst e1
    rw[eW]at Bn;injection Bn with Bn;subst Bn
    rw[iN (ne _ _ h2)]at mv
    have:=lt _ _ _ h2 mv
    omega
  ·rw[iN (ne _ _ h1)]at Bn
   split at h2
   ·rename_i e2
    exfalso
    subst e2
    rw[eW]at mv;injection mv with mv;subst mv
    have:=lt _ _ _ h1 Bn
    omega
   ·rw[iN (ne _ _ h2)]at mv
    exact S'.inj Rk id2 r1 r2 B1 B2 h1 h2 hw Bn mv hb
theorem MD {g0:Rows} {f:Nat} {args:List AV} {n sz:Nat} {rows:List (List AV)} {vs:Array Value} (h:CM (Sound P) f args ⟨g0,n⟩ sz rows) (nq:∀id r,g0 id=some r->g id=some r) (S:iD P hs D ι g w) (U:Used ι n (fun _=>False)) (A:gI P w D ι args vs) (hf:ι id=none):
  Calls P f vs w fun e w'=>∃u B,e=.returned u/\Step hs D ι w D (l8 ι id B) w'/\iD P hs D (l8 ι id B) (ck g id ⟨true,sz,rows⟩) w'/\dZ P w' D (l8 ι id B) (.own id 0 rows.length) u:=by
 obtain⟨mN,args',ha,h⟩:=h
 let D1:Nat->Prop:=fun b=>D b∨∃id r B,g id=some r/\ι id=some B/\b=B.b
 have lt:∀id r B,g id=some r->ι id=some B->B.b<w.heap.size:=fun id r B h1 h2=>by
  obtain⟨B',eE,R,_⟩:=S.row id r h1
  rw[h2]at eE;injection eE with eE;subst eE
  exact R.lt
 have S0:iD P w.heap.size D1 ι (fun _=>none) w:=⟨Nat.le_refl _,fun b hb=>by
  rcases hb with hb|⟨id,r,B,h1,h2,rfl⟩
  ·exact S.dead b hb
  ·exact lt id r B h1 h2,fun id r h=>(by cases h),fun id lz r r' B B' h=>(by cases h)⟩
 obtain⟨l1,l2⟩:=iG ha
 have A':gI P w D1 ι args' vs:=⟨by rw[A.1,l1],fun j a hj=>by
  obtain⟨a0,mM,hz⟩:=l2 j a hj
  obtain⟨u,hu,hr⟩:=A.2 j a0 mM
  refine⟨u,hu,(rl (D2:=D1) (ι2:=ι) (fun b h=>.inl h) (fun id row hg hw=>?_) 6 a0 u a hr hz).1⟩
  unfold ez at hg
  simp only[Option.map_eq_some_iff]at hg
  obtain⟨r,mj,rfl⟩:=hg
  obtain⟨B,hB,R,_,_⟩:=S.row id r (nq id r mj)
  exact⟨B,hB,R.flag true,.inr ⟨id,r,B,nq id r mj,hB,rfl⟩⟩⟩
 refine(h w.heap.size D1 ι w vs S0 U A').mono ?_
 rintro e w' ⟨r0,g',n',D2,ι1,u,rfl,⟨i0,hr,hg⟩,T,S1,_,_,hR⟩
 subst hr
 have hb:∀b,b<w.heap.size->w'.heap[b]? =w.heap[b]? :=T.below.block
 have hz:=T.below.size
 obtain⟨B,hB,R,k1,_⟩:=S1.row i0 _ hg
 have kN:w.heap.size<=B.b:=k1 rfl
 obtain⟨o,cap,B',rfl,eE,q2,q3,q4,q5,hk⟩:=jH hR
 rw[hB]at eE;injection eE with eE;subst eE
 replace R:=R.row hk
 have S':iD P hs D ι g w':=S.stay hb hz (fun _ h=>h) (fun b h=>Nat.lt_of_lt_of_le (S.dead b h) hz) (fun b h=>.inl h) (fun _ _ h=>h)
 have R':mo P w' D (l8 ι id B) B ⟨true,sz,rows⟩:=⟨R.sz,R.wE,R.fits,R.len,R.flat,fun i j cs a hi hj=>by
  obtain⟨v,h1,h2⟩:=R.at_ i j cs a hi hj
  exact⟨v,h1,LL (mN cs (List.mem_of_getElem? hi) a (List.mem_of_getElem? hj)) h2⟩⟩
 exact⟨_,B,rfl,Step.stay S hb hz T.below.os T.below.tape T.below.output (fun _ h=>h) (fun _ h=>.inl h) (gq hf),S.add S' hf kN (R'.obj hk),.own id 0 _ _ _ B (eW _ _ _) hk q2 q3 q4 q5⟩
theorem kU {f:Nat} {args:Array Value} (hc:iw P f=true):(callFunc f args).run P w=.ok (.enter f args) w:=by
 unfold iw at hc
 split at hc
 ·rename_i fn hf
  simp only[Bool.and_eq_true,Bool.not_eq_true']at hc
  have hb:fn.body.isNone=false:=by cases hq:fn.body<;>simp_all
  simp only[callFunc,Sem.run_bind,run_program,Result.andThen_ok,hf,hc.2,Bool.false_eq_true,if_false,hb]
  rfl
 ·simp at hc
theorem Gc {f:Nat} {args:List O} (hc:uv P o.op=some (.call f args)):∃c,o.op=.call c/\c.callee=.value (.func f)/\iw P f=true/\c.args.toList.mapM (cO P)=some args:=by
 unfold uv at hc
 split at hc
 case h_24=>
  rename_i c ho
  refine⟨c,ho,?_⟩
  unfold qd at hc
  split at hc
  all_goals (try(repeat' (split at hc))<;>(simp only[Option.bind_eq_bind,Option.bind_eq_some_iff,Option.pure_def,Option.some.injEq,Option.map_eq_some_iff,reduceCtorEq,and_false,exists_false]at hc))
  all_goals simp_all
 all_goals (try unfold zF at hc)<;>(try unfold wQ at hc)<;>(repeat' (split at hc))<;>(simp only[Option.bind_eq_bind,Option.bind_eq_some_iff,Option.pure_def,Option.some.injEq,Option.map_eq_some_iff,reduceCtorEq,and_false,exists_false]at hc)
theorem xj {x:O} {args:List O} (hc:uv P o.op=some (.xQ x args)):∃c t,o.op=.call c/\c.callee=.value (.tmp t)/\x=.t t/\c.args.toList.mapM (cO P)=some args:=by
 unfold uv at hc
 split at hc
 case h_24=>
  rename_i c ho
  refine⟨c,?_⟩
  unfold qd at hc
  split at hc
  all_goals (try(repeat' (split at hc))<;>(simp only[Option.bind_eq_bind,Option.bind_eq_some_iff,Option.pure_def,Option.some.injEq,Option.map_eq_some_iff,reduceCtorEq,and_false,exists_false]at hc))
  all_goals simp_all
 all_goals (try unfold zF at hc)<;>(try unfold wQ at hc)<;>(repeat' (split at hc))<;>(simp only[Option.bind_eq_bind,Option.bind_eq_some_iff,Option.pure_def,Option.some.injEq,Option.map_eq_some_iff,reduceCtorEq,and_false,exists_false]at hc)
theorem Lg {n:Nat} {x y:O} (hc:uv P o.op=some (.store n x y)):∃t x' y',o.op=.store t x' y'/\eX P t=some n/\cO P x'=some x/\cO P y'=some y:=by
 unfold uv at hc
 split at hc
 case h_8=>
  rename_i t x' y' ho
  refine⟨t,x',y',ho,?_⟩
  simp only[Option.bind_eq_bind,Option.bind_eq_some_iff,Option.pure_def,Option.some.injEq]at hc
  obtain⟨n',h1,x2,h2,y2,h3,he⟩:=hc
  injection he with e1 e2 e3
  subst e1;subst e2;subst e3
  exact⟨h1,h2,h3⟩
 all_goals (try unfold zF at hc)<;>(try unfold wQ at hc)<;>(try unfold qd at hc)<;>(repeat' (split at hc))<;>(simp only[Option.bind_eq_bind,Option.bind_eq_some_iff,Option.pure_def,Option.some.injEq,Option.map_eq_some_iff,reduceCtorEq,and_false,exists_false]at hc)
theorem Ij {n:Nat} {x y:O} (hc:uv P o.op=some (.append n x y)):∃(t e:TypeId) (m:Nat) (z:List K) (i:TypeInfo) (x' y':Operand),n=m+1/\o.op=.call {callee:=.builtin .append,args:= #[x',y'],argTypes:= #[t,t]}/\
  P.underlying t=some (.slice e)/\eX P e=some (m+1)/\lu P e=some z/\P.info? e=some i/\i.bytes<=32768/\cO P x'=some x/\cO P y'=some y:=by
 unfold uv at hc
 split at hc
 case h_24=>
  rename_i c ho
  unfold qd at hc
  split at hc
  case h_2=>
   rename_i mE
   split at hc
   ·rename_i x' y' t u h1 h2
    split at hc
    ·rename_i e ht
     split at hc
     ·rename_i m z i e1 e2 e3
      split at hc
      ·rename_i hb
       simp only[Option.bind_eq_bind,Option.bind_eq_some_iff,Option.pure_def,Option.some.injEq]at hc
       obtain⟨x2,h3,y2,h4,he⟩:=hc
       injection he with k1 k2 k3
       subst k1;subst k2;subst k3
       obtain⟨Mp,rfl⟩:=hb
       refine⟨t,e,m,z,i,x',y',rfl,?_,ht,e1,e2,e3,Mp,h3,h4⟩
       rw[ho]
       obtain⟨ca,cb,cc⟩:=c
       simp only at h1 h2 mE
       subst mE
       congr
       ·exact Array.ext' h1
       ·exact Array.ext' h2
      ·simp at hc
     ·simp at hc
    ·simp at hc
   ·simp at hc
  all_goals (repeat' (split at hc))<;>(simp only[Option.bind_eq_bind,Option.bind_eq_some_iff,Option.pure_def,Option.some.injEq,Option.map_eq_some_iff,reduceCtorEq,and_false,exists_false]at hc)
 all_goals (try unfold zF at hc)<;>(try unfold wQ at hc)<;>(repeat' (split at hc))<;>(simp only[Option.bind_eq_bind,Option.bind_eq_some_iff,Option.pure_def,Option.some.injEq,Option.map_eq_some_iff,reduceCtorEq,and_false,exists_false]at hc)
theorem Og {n:Nat} {x y:O} (hc:uv P o.op=some (.copy n x y)):∃(t t2 e:TypeId) (m:Nat) (x' y':Operand),n=m+1/\o.op=.call {callee:=.builtin .copy,args:= #[x',y'],argTypes:= #[t,t2]}/\
  P.underlying t=some (.slice e)/\eX P e=some (m+1)/\cO P x'=some x/\cO P y'=some y:=by
 unfold uv at hc
 split at hc
 case h_24=>
  rename_i c ho
  unfold qd at hc
  split at hc
  case h_7=>
   rename_i mE
   split at hc
   ·rename_i x' y' t t2 h1 h2
    split at hc
    ·rename_i e ht
     split at hc
     ·rename_i m e1
      simp only[Option.bind_eq_bind,Option.bind_eq_some_iff,Option.pure_def,Option.some.injEq,iT.copy.injEq]at hc
      obtain⟨x2,h3,y2,h4,k0,k1,k2⟩:=hc
      subst k1;subst k2
      refine⟨t,t2,e,m,x',y',k0.symm,?_,ht,e1,h3,h4⟩
      rw[ho]
      obtain⟨ca,cb,cc⟩:=c
      simp only at h1 h2 mE
      subst mE
      congr
      ·exact Array.ext' h1
      ·exact Array.ext' h2
     ·simp at hc
    ·simp at hc
   ·simp at hc
  all_goals (repeat' (split at hc))<;>(simp only[Option.bind_eq_bind,Option.bind_eq_some_iff,Option.pure_def,Option.some.injEq,Option.map_eq_some_iff,reduceCtorEq,and_false,exists_false]at hc)
 all_goals (try unfold zF at hc)<;>(try unfold wQ at hc)<;>(repeat' (split at hc))<;>(simp only[Option.bind_eq_bind,Option.bind_eq_some_iff,Option.pure_def,Option.some.injEq,Option.map_eq_some_iff,reduceCtorEq,and_false,exists_false]at hc)
theorem Lf {z:List K} {x:O} (hc:uv P o.op=some (.clear z x)):∃(t e:TypeId) (m:Nat) (x':Operand),o.op=.call {callee:=.builtin .clear,args:= #[x'],argTypes:= #[t]}/\
  P.underlying t=some (.slice e)/\eX P e=some (m+1)/\lu P e=some z/\cO P x'=some x:=by
 unfold uv at hc
 split at hc
 case h_24=>
  rename_i c ho
  unfold qd at hc
  split at hc
  case h_3=>
   rename_i mE
   split at hc
   ·rename_i x' t h1 h2
    split at hc
    ·rename_i e ht
     split at hc
     ·rename_i m z' e1 e2
      simp only[Option.map_eq_some_iff]at hc
      obtain⟨x2,h3,he⟩:=hc
      injection he with k1 k2
      subst k1;subst k2
      refine⟨t,e,m,x',?_,ht,e1,e2,h3⟩
      rw[ho]
      obtain⟨ca,cb,cc⟩:=c
      simp only at h1 h2 mE
      subst mE
      congr
      ·exact Array.ext' h1
      ·exact Array.ext' h2
     ·simp at hc
    ·simp at hc
   ·simp at hc
  all_goals (repeat' (split at hc))<;>(simp only[Option.bind_eq_bind,Option.bind_eq_some_iff,Option.pure_def,Option.some.injEq,Option.map_eq_some_iff,reduceCtorEq,and_false,exists_false]at hc)
 all_goals (try unfold zF at hc)<;>(try unfold wQ at hc)<;>(repeat' (split at hc))<;>(simp only[Option.bind_eq_bind,Option.bind_eq_some_iff,Option.pure_def,Option.some.injEq,Option.map_eq_some_iff,reduceCtorEq,and_false,exists_false]at hc)
theorem VD {q:MW} {xs:List O} (hc:uv P o.op=some (.mw q xs)):
  (∃t x k y m z x' k' y',(o.op=.mapUpdate t x k y∨o.op=.insert t x k y)/\wR P t=some (m,z)/\cO P x=some x'/\cO P k=some k'/\cO P y=some y'/\q=.set m/\xs=[x',k',y'])∨
  (∃t t' x k m z x' k',o.op=.call {callee:=.builtin .delete,args:= #[x,k],argTypes:= #[t,t']}/\wR P t=some (m,z)/\cO P x=some x'/\cO P k=some k'/\q=.del m/\xs=[x',k']):=by
 unfold uv at hc
 split at hc
 case h_24=>
  rename_i c ho
  right
  unfold qd at hc
  split at hc
  case h_6=>
   rename_i mE
   split at hc
   ·rename_i x k t t' h1 h2
    split at hc
    ·rename_i m z x' k' e1 e2 e3
     injection hc with hc
     injection hc with q1 q2
     refine⟨t,t',x,k,m,z,x',k',?_,e1,e2,e3,q1.symm,q2.symm⟩
     rw[ho]
     obtain⟨ca,cb,cc⟩:=c
     simp only at h1 h2 mE
     subst mE
     congr
     ·exact Array.ext' h1
     ·exact Array.ext' h2
    ·cases hc
   ·cases hc
  all_goals (repeat' (split at hc))<;>(simp only[Option.bind_eq_bind,Option.bind_eq_some_iff,Option.pure_def,Option.some.injEq,Option.map_eq_some_iff,reduceCtorEq,and_false,exists_false]at hc)
 case h_30=>
  rename_i t x k y ho
  left
  split at hc
  ·rename_i m z x' k' y' e1 e2 e3 e4
   injection hc with hc
   injection hc with q1 q2
   exact⟨t,x,k,y,m,z,x',k',y',.inl ho,e1,e2,e3,e4,q1.symm,q2.symm⟩
  ·cases hc
 case h_31=>
  rename_i t x k y ho
  left
  split at hc
  ·rename_i m z x' k' y' e1 e2 e3 e4
   injection hc with hc
   injection hc with q1 q2
   exact⟨t,x,k,y,m,z,x',k',y',.inr ho,e1,e2,e3,e4,q1.symm,q2.symm⟩
  ·cases hc
 all_goals (try unfold zF at hc)<;>(try unfold wQ at hc)<;>(repeat' (split at hc))<;>(simp only[Option.bind_eq_bind,Option.bind_eq_some_iff,Option.pure_def,Option.some.injEq,Option.map_eq_some_iff,reduceCtorEq,and_false,exists_false]at hc)
def kF (g:Rows) (id:Id):Option Row->Rows
 |some r=>ck g id r
 |none=>g
def zJ (X:im) (hid:List Nat) (site n:Nat) (f:Nat) (args:List AV) (g:Rows) (v:AV) (g':Rows):Prop:=
 (fB X f args ⟨fF hid n g,n+1⟩ (fun r=>r=v)/\g'=g)∨
 (hid.contains site=true/\∃sz rows,CM X f args ⟨fF hid n g,n+1⟩ sz rows/\v=.own ⟨site,n⟩ 0 rows.length/\g'=ck g ⟨site,n⟩ ⟨true,sz,rows⟩)
def VS (X:im) (n:Nat) (vo:bY) (env:Env) (g:Rows) (v:AV) (g':Rows):Prop:=
 match vo.op with
 | .call f args=>zJ X vo.hid vo.site n f (args.map (dz env)) g v g'
 | .xQ x args=>∃f l,zI (dz env x) (args.map (dz env))=some (f,l)/\zJ X vo.hid vo.site n f l g v g'
 | .store .. | .append .. | .copy .. | .clear .. | .mw .. =>fG vo.op (dz env) g ⟨vo.site,n⟩=some (v,g')
 |_=>∃mr,eK vo.op (dz env) (fF vo.hid n g) ⟨vo.site,n⟩=some (v,mr)/\g'=kF g ⟨vo.site,n⟩ mr
def SF (P:Program) (hs:Nat) (D:Nat->Prop) (ι:Names) (w:World) (U:Nat->Prop) (site n:Nat) (a:Act) (dst:Option Tmp) (v:AV) (g':Rows) (a':Act) (w':World):Prop:=
 ∃u D' ι',a'=a.put dst u/\Step hs D ι w D' ι' w'/\iD P hs D' ι' g' w'/\dZ P w' D' ι' v u/\Used ι' n (fun s=>U s∨s=site)
theorem fresh {n:Nat} {U:Nat->Prop} {s:Nat} (h:Used ι n U) (hU:¬U s):ι ⟨s,n⟩=none:=by
 cases hq:ι ⟨s,n⟩with
 |none=>rfl
 |some B=>
  rcases h ⟨s,n⟩ (by rw[hq];simp)with h|⟨_,h⟩
  ·exact absurd h (Nat.lt_irrefl _)
  ·exact absurd h hU
theorem Used.more {n:Nat} {U U':Nat->Prop} (h:Used ι n U) (hU:∀s,U s->U' s):Used ι n U':=fun id hid=>by
 rcases h id hid with h|⟨h1,h2⟩
 ·exact .inl h
 ·exact .inr ⟨h1,hU _ h2⟩
theorem Used.next {n:Nat} {U:Nat->Prop} (h:Used ι n U):Used ι (n+1) (fun _=>False):=fun id hid=>by
 rcases h id hid with h|⟨h1,_⟩
 ·exact .inl (Nat.lt_succ_of_lt h)
 ·exact .inl ad
theorem Used.upd {n:Nat} {U:Nat->Prop} {s:Nat} {B:wL} (h:Used ι n U):Used (l8 ι ⟨s,n⟩ B) n (fun x=>U x∨x=s):=fun id hid=>by
 by_cases he:id=⟨s,n⟩
 ·subst he;exact .inr ⟨rfl,.inr rfl⟩
 ·rw[iN he]at hid
  exact(h.more (U':=fun x=>U x∨x=s) fun _ h=>Or.inl h) id hid
theorem qR {xs:Array Operand} {ys:List O} (E:dy P w D ι env a) (h:xs.toList.mapM (cO P)=some ys):gI P w D ι (ys.map (dz env)) (xs.map a.eval):=by
 obtain⟨h1,h2⟩:=ID E h
 refine⟨by simpa using h1,fun j b hj=>?_⟩
 simp only[List.getElem?_map,Option.map_eq_some_iff]at hj
 obtain⟨y,hy,rfl⟩:=hj
 have eP:j<xs.size:=by have:=(List.getElem?_eq_some_iff.1 hy).1;simp at h1;omega
 refine⟨a.eval xs[j],by simp[eP],?_⟩
 have:=h2 j y hy
 simpa[List.getD_eq_getElem?_getD,eP]using this
theorem rL {xs ys:List AV} {vs us:Array Value} (h:gI P w D ι xs vs) (k:gI P w D ι ys us):gI P w D ι (xs++ys) (vs++us):=
 ⟨by simp[h.1,k.1],fun j b hj=>by
  by_cases eP:j<xs.length
  ·rw[List.getElem?_append_left eP]at hj
   obtain⟨u,hu,BJ⟩:=h.2 j b hj
   exact⟨u,by rw[Array.getElem?_append_left (by rw[h.1];exact eP)];exact hu,BJ⟩
  ·rw[List.getElem?_append_right ad]at hj
   obtain⟨u,hu,BJ⟩:=k.2 _ b hj
   exact⟨u,by rw[Array.getElem?_append_right (by rw[h.1];omega),h.1];exact hu,BJ⟩⟩
theorem AR:gI P w D ι [] #[]:=⟨rfl,fun j b hj=>by simp at hj⟩
theorem zK {x:AV} {l l':List AV} {f:Nat} {vs:Array Value} {v:Value} (h:zI x l=some (f,l')) (hr:dZ P w D ι x v) (hA:gI P w D ι l vs):
  ∃first ek,v=.func (.func f) first ek/\iw P f=true/\gI P w D ι l' (first++vs++ek):=by
 unfold zI at h
 split at h
 ·simp only[Option.some.injEq,Prod.mk.injEq]at h
  obtain⟨rfl,rfl⟩:=h
  obtain⟨us,q,he,JP,n1,q1,q2⟩:=xC hr
  refine⟨#[],us,he,JP,?_⟩
  rw[Array.empty_append]
  exact rL hA ⟨n1,fun j b hj=>⟨q j,q1 j (List.getElem?_eq_some_iff.1 hj).1,q2 j b hj⟩⟩
 ·simp only[Option.some.injEq,Prod.mk.injEq]at h
  obtain⟨rfl,rfl⟩:=h
  obtain⟨us,q,he,JP,n1,q1,q2⟩:=R3 hr
  refine⟨us, #[],he,JP,?_⟩
  rw[Array.append_empty]
  exact rL ⟨n1,fun j b hj=>⟨q j,q1 j (List.getElem?_eq_some_iff.1 hj).1,q2 j b hj⟩⟩ hA
 ·cases h
theorem E0 {n:Nat} {vo:bY} {g':Rows} {U:Nat->Prop} {Q:Exit->Act->World->Prop} {K:Act->World->Prop} (hc:uv P o.op=some vo.op) (hv:VS (Sound P) n vo env g v g') (S:iD P hs D ι g w) (Us:Used ι n U) (hU:¬U vo.site) (E:dy P w D ι env a)
  (hK:∀a' w',SF P hs D ι w U vo.site n a o.dst v g' a' w'->K a' w'):o.wp P a w K Q:=by
 have hf:=fresh Us hU
 have Fh:∀(f:Nat) (args:List AV) (vs:Array Value),zJ (Sound P) vo.hid vo.site n f args g v g'->gI P w D ι args vs->(execOp a.eval o).run P w=.ok (.enter f vs) w->o.wp P a w K Q:=by
  intro f args vs hP hA gU
  unfold Oper.wp
  rw[gU]
  rcases hP with⟨hP,rfl⟩|⟨_,sz,rows,hM,rfl,rfl⟩
  ·refine(Kw hP EA S Us.next hA).mono ?_
   rintro e w' ⟨r,D',u,rfl,rfl,T,S',hR⟩
   exact hK _ _ ⟨u,D',ι,rfl,T,S',hR,Us.more fun _ h=>.inl h⟩
  ·refine(MD hM EA S Us.next hA hf).mono ?_
   rintro e w' ⟨u,B,rfl,T,S',hR⟩
   exact hK _ _ ⟨u,D,_,rfl,T,S',hR,Us.upd⟩
 have quiet:∀(mr:Option Row),eK vo.op (dz env) (fF vo.hid n g) ⟨vo.site,n⟩=some (v,mr)->g'=kF g ⟨vo.site,n⟩ mr->o.wp P a w K Q:=by
  intro mr hq hg
  have hqs:=CV hc hq (S.sub EA) E
  unfold Oper.wp
  cases mr with
  |none=>
   obtain⟨u,gU,hR⟩:=hqs
   rw[gU]
   subst hg
   exact hK _ _ ⟨u,D,ι,rfl,Step.refl _ _ _ _,S,hR,Us.more fun _ h=>.inl h⟩
  |some r=>
   rcases hqs with⟨u,cells,T,gU,h1,h2,h3,h4,h5,h6⟩|⟨m,gU,Rc,Hg⟩|⟨c,gU,Rc,Hg⟩
   case inr.inr=>
    rw[gU]
    subst hg Rc Hg
    have eY:w.heap.size<(w.alloc (.chan c #[] false 0 0 false)).heap.size:=by simp
    have S':=S.stay (w':=w.alloc (.chan c #[] false 0 0 false)) (D':=D) (ι':=ι) (fun k hk=>Below.heap_alloc _ _ _ hk) (by simp) (fun _ h=>h) (fun b hd=>Nat.lt_trans (S.dead b hd) eY) (fun _ h=>.inl h) (fun _ _ h=>h)
    have S1:=S.add S' (id:=⟨vo.site,n⟩) (B:=⟨w.heap.size,uT+c,0,some (.chan c)⟩) (r:=⟨true,uT+c,[]⟩) hf (Nat.le_refl _) ⟨rfl,fun cs h=>by simp at h,fun h=>by simp at h,fun m' h=>(by simp at h),fun c' h=>by
     simp only[Option.some.injEq,BK.chan.injEq]at h;subst h
     exact⟨rfl, #[],0,0,(show(w.heap.push (Obj.chan c #[] false 0 0 false))[w.heap.size]? =some (Obj.chan c #[] false 0 0 false) by simp),rfl,fun i cs h=>by simp at h⟩⟩
    exact hK _ _ ⟨_,D,_,rfl,Step.stay S (fun k hk=>Below.heap_alloc _ _ _ hk) (by simp) rfl rfl rfl (fun _ h=>h) (fun _ h=>.inl h) (gq hf),S1,.uQ _ _ _ (eW _ _ _) rfl,Us.upd⟩
   case inr.inl=>
    rw[gU]
    subst hg Rc Hg
    have eY:w.heap.size<(w.alloc (.map #[] 0)).heap.size:=by simp
    have S':=S.stay (w':=w.alloc (.map #[] 0)) (D':=D) (ι':=ι) (fun k hk=>Below.heap_alloc _ _ _ hk) (by simp) (fun _ h=>h) (fun b hd=>Nat.lt_trans (S.dead b hd) eY) (fun _ h=>.inl h) (fun _ _ h=>h)
    have S1:=S.add S' (id:=⟨vo.site,n⟩) (B:=⟨w.heap.size,m.mC,0,some (.map m)⟩) (r:=⟨true,m.mC,[]⟩) hf (Nat.le_refl _) ⟨rfl,fun cs h=>by simp at h,fun h=>by simp at h,fun m' h=>by
     simp only[Option.some.injEq,BK.map.injEq]at h;subst h
     exact⟨rfl, #[],0,(show(w.heap.push (Obj.map #[] 0))[w.heap.size]? =some (Obj.map #[] 0) by simp),rfl,⟨fun cs h=>by simp at h,fun x h=>by simp at h,by simp⟩,fun i cs h=>by simp at h⟩,fun c h=>by simp at h⟩
    exact hK _ _ ⟨_,D,_,rfl,Step.stay S (fun k hk=>Below.heap_alloc _ _ _ hk) (by simp) rfl rfl rfl (fun _ h=>h) (fun _ h=>.inl h) (gq hf),S1,.map _ _ _ (eW _ _ _) rfl,Us.upd⟩
   rw[gU]
   subst hg
   have S1:=S.alloc (id:=⟨vo.site,n⟩) (w':=w.alloc (.cells cells T)) rfl hf h1 h2 h3 h4 h5
   refine hK _ _ ⟨u,D,_,rfl,Step.stay S (fun k hk=>Below.heap_alloc _ _ _ hk) (by simp) rfl rfl rfl (fun _ h=>h) (fun _ h=>.inl h) (gq hf),S1,(h6 (l8 ι _ _) (eW _ _ _)).frame (fun b hd=>Below.heap_alloc _ _ _ (S.dead b hd)) (fun _ h=>h) (fun _ _ h=>h),Us.upd⟩
 have Xu:fG vo.op (dz env) g ⟨vo.site,n⟩=some (v,g')->(∀Qj,Hm P hs a o Qj D ι ⟨vo.site,n⟩ v g'->Qj=w->o.wp P a w K Q):=by
  intro _ Qj hE he
  subst he
  obtain⟨u,w',ι',gU,T,S',hR,hι⟩:=hE
  have NI:SF P hs D ι Qj U vo.site n a o.dst v g' (a.put o.dst u) w':=⟨u,D,ι',rfl,T,S',hR,fun id hid=>by
   by_cases he:id=⟨vo.site,n⟩
   ·subst he;exact .inr ⟨rfl,.inr rfl⟩
   ·rw[hι id he]at hid
    exact(Us.more (U':=fun x=>U x∨x=vo.site) fun _ h=>Or.inl h) id hid⟩
  unfold Oper.wp
  rcases gU with gU|⟨gU,rfl⟩
  ·rw[gU];exact hK _ _ NI
  ·rw[gU];exact hK _ _ NI
 unfold VS at hv
 split at hv
 ·rename_i f args eS
  rw[eS]at hc
  obtain⟨c,ho,mE,JP,ql⟩:=Gc hc
  refine Fh f _ (c.args.map a.eval) hv (qR E ql) ?_
  simp only[execOp,ho,resolve,mE,Deferred.ofValue,Act.eval,Sem.run_bind,Sem.run_pure,Result.andThen_ok,invoke,Array.empty_append,Array.append_empty]
  exact kU JP
 ·rename_i x args eS
  obtain⟨f,l,hx,hP⟩:=hv
  rw[eS]at hc
  obtain⟨c,t,ho,mE,rfl,ql⟩:=xj hc
  obtain⟨first,ek,he,JP,hL⟩:=zK (v:=a.eval (.tmp t)) hx (E t) (qR E ql)
  refine Fh f _ (first++c.args.map a.eval++ek) hP hL ?_
  simp only[execOp,ho,resolve,mE,he,Deferred.ofValue,Sem.run_bind,Sem.run_pure,Result.andThen_ok,invoke]
  exact kU JP
 ·rename_i m x y eS
  have mh:=hc
  rw[eS]at mh
  obtain⟨t,x',y',ho,h1,h2,h3⟩:=Lg mh
  have qF:=hv
  rw[eS]at qF
  simp only[fG,Option.map_eq_some_iff,Prod.mk.injEq]at qF
  obtain⟨g1,EL,rfl,rfl⟩:=qF
  exact Xu hv w (QG S E ho h1 h2 h3 EL) rfl
 ·rename_i m x y eS
  have mh:=hc
  rw[eS]at mh
  obtain⟨t,e,m',z,i,x',y',rfl,ho,h1,h2,h3,h4,h5,h6,h7⟩:=Ij mh
  have qF:=hv
  rw[eS]at qF
  simp only[fG,Option.bind_eq_some_iff]at qF
  obtain⟨ys,Hk,qF⟩:=qF
  exact Xu hv w (Np S E hf ho h1 h2 h3 h4 h5 h6 h7 Hk qF) rfl
 ·rename_i m x y eS
  have mh:=hc
  rw[eS]at mh
  obtain⟨t,t2,e,m',x',y',rfl,ho,h1,h2,h3,h4⟩:=Og mh
  have qF:=hv
  rw[eS]at qF
  simp only[fG,Option.bind_eq_some_iff]at qF
  obtain⟨ys,Hk,qF⟩:=qF
  exact Xu hv w (Ul S E ho h1 h2 h3 h4 Hk qF) rfl
 ·rename_i z x eS
  have mh:=hc
  rw[eS]at mh
  obtain⟨t,e,m',x',ho,h1,h2,h3,h4⟩:=Lf mh
  have qF:=hv
  rw[eS]at qF
  simp only[fG,Option.map_eq_some_iff,Prod.mk.injEq]at qF
  obtain⟨g1,EL,rfl,rfl⟩:=qF
  exact Xu hv w (QF S E ho h1 h2 h3 h4 EL) rfl
 ·rename_i q xs eS
  have mh:=hc
  rw[eS]at mh
  have qF:=hv
  rw[eS]at qF
  simp only[fG,Option.map_eq_some_iff,Prod.mk.injEq]at qF
  obtain⟨g1,EL,rfl,rfl⟩:=qF
  rcases VD mh with⟨t,x,k,y,m,z,x',k',y',ho,h1,h2,h3,h4,rfl,rfl⟩|⟨t,t',x,k,m,z,x',k',ho,h1,h2,h3,rfl,rfl⟩
  ·exact Xu hv w (Un S E ho h1 h2 h3 h4 EL) rfl
  ·exact Xu hv w (Um S E ho h1 h2 h3 EL) rfl
 ·obtain⟨mr,hq,hg⟩:=hv
  exact quiet mr hq hg
end
end Go.Proofs.YtoodopepphhpoaaGreatDoor.V

namespace Go.Proofs.YtoodopepphhpoaaGreatDoor.V
open Go.RowKit
variable {P:Program} {w w':World} {D D' D2:Nat->Prop} {ι ι' ι2:Names}
section
variable {g:Rows} {hs:Nat} {env:Env} {a:Act} {o:Oper} {id:Id} {v:AV}
theorem sa {ops:Array Oper} {nt site0 j:Nat} {draw mk:Bool} {bs:Array Nat} {hidden:List (Nat×Bool)} {vo:bY} (h:mY P ops nt site0 draw mk bs hidden j o=some vo):
  uv P o.op=some vo.op/\vo.dst=o.dst/\vo.site=site0+j/\(∀d,o.dst=some d->d<nt)/\(match o.guard with
   |none=>vo.guard=none
   |some (i,b)=>∃t,(ops[i]?).bind (·.dst)=some t/\vo.guard=some (t,b)):=by
 unfold mY at h
 simp only[Option.bind_eq_bind,Option.bind_eq_some_iff]at h
 obtain⟨v,hv,gd,hg,h⟩:=h
 split at h
 ·rename_i hd
  simp only[Option.pure_def,Option.some.injEq]at h
  subst h
  refine⟨hv,rfl,rfl,fun d hd'=>?_,?_⟩
  ·rw[hd']at hd;simpa using hd
  ·unfold HE at hg
   cases yK:o.guard with
   |none=>rw[yK]at hg;simp at hg;exact hg.symm
   |some p=>
    obtain⟨i,b⟩:=p
    rw[yK]at hg
    dsimp only at hg ⊢
    split at hg
    ·rename_i t ht
     simp at hg;exact⟨t,ht,hg.symm⟩
    ·simp at hg
 ·simp at h
theorem xM {ops:Array Oper} {vo:bY} (E:dy P w D ι env a) (hg:match o.guard with
   |none=>vo.guard=none
   |some (i,b)=>∃t,(ops[i]?).bind (·.dst)=some t/\vo.guard=some (t,b)):aD vo.guard env=Region.wanted o (yielded ops a.tmps):=by
 unfold Region.wanted
 cases yK:o.guard with
 |none=>rw[yK]at hg;simp only at hg;rw[hg];rfl
 |some p=>
  obtain⟨i,b⟩:=p
  rw[yK]at hg
  obtain⟨t,ht,hv⟩:=hg
  rw[hv]
  simp only[aD,yielded,ht,Option.bind_some]
  have hr:=E t
  by_cases eP:t<a.tmps.size
  ·have jc:a.tmps[t]? =some a.tmps[t]:=Array.getElem?_eq_getElem eP
   have hd:a.tmps.getD t undef=a.tmps[t]:=by simp[eP]
   rw[hd]at hr
   rw[jc]
   generalize a.tmps[t]=u at hr
   cases he:env t with
   |bool c=>rw[he]at hr;rw[gH hr];simp
   |_=>
    rw[he]at hr
    have:∀c,u≠.bool c:=by
     intro c hu
     subst hu
     cases hr with
     |fq _ _ h=>cases h
    cases u<;>simp_all
  ·have jc:a.tmps[t]? =none:=Array.getElem?_eq_none (Nat.le_of_not_lt eP)
   have hd:a.tmps.getD t undef=undef:=by simp[jc]
   rw[hd]at hr
   rw[jc]
   cases he:env t with
   |bool c=>rw[he]at hr;have:=gH hr;simp[undef]at this
   |_=>simp
theorem jF {dst:Option Nat} {nt:Nat} {u:Value} (E:dy P w D ι env a) (hr:dZ P w D ι v u) (hd:∀d,dst=some d->d<nt) (hs:a.tmps.size=nt):dy P w D ι (upd env dst v) (a.put dst u):=by
 intro t
 cases dst with
 |none=>exact E t
 |some d=>
  have eP:d<a.tmps.size:=by rw[hs];exact hd d rfl
  simp only[upd,Act.put]
  by_cases ht:t=d
  ·subst ht
   simp[eP];exact hr
  ·rw[if_neg ht]
   have:(a.tmps.setIfInBounds d u).getD t undef=a.tmps.getD t undef:=by
    simp only[Array.getD_eq_getD_getElem?]
    rw[Array.getElem?_setIfInBounds_ne (fun e=>ht e.symm)]
   rw[this];exact E t
theorem qZ {hs:Nat} (E:dy P w D ι env a) (T:Step hs D ι w D' ι' w'):dy P w' D' ι' env a:=fun t=>T.rep (E t)
theorem gp (a:Act) (dst:Option Tmp) (u:Value):(a.put dst u).tmps.size=a.tmps.size:=by cases dst<;>simp[Act.put]
theorem put_defers (a:Act) (dst:Option Tmp) (u:Value):(a.put dst u).defers=a.defers:=by cases dst<;>rfl
theorem C5 {draw:Bool} {vo:bY} {σ:aw} {next:AV->aw->Prop} {U:Nat->Prop} {Q:Exit->Act->World->Prop} {K:Act->World->Prop} (hc:uv P o.op=some vo.op) (hv:fx (Sound P) draw vo env σ next) (S:iD P hs D ι σ.get w) (Us:Used ι σ.next U) (hU:¬U vo.site) (E:dy P w D ι env a)
  (hK:∀v σ' u D' ι' w',next v σ'->Step hs D ι w D' ι' w'->iD P hs D' ι' σ'.get w'->dZ P w' D' ι' v u->Used ι' σ'.next (fun s=>U s∨s=vo.site)->σ.next<=σ'.next->K (a.put o.dst u) w'):o.wp P a w K Q:=by
 have close:∀v g',VS (Sound P) σ.next vo env σ.get v g'->next v ⟨g',σ.next⟩->o.wp P a w K Q:=fun v g' h1 h2=>
  E0 hc h1 S Us hU E fun a' w' ⟨u,D',ι',ha,T,S',hR,U'⟩=>by subst ha;exact hK v ⟨g',σ.next⟩ u D' ι' w' h2 T S' hR U' (Nat.le_refl _)
 have OL:∀(f:Nat) (args:List AV) (vs:Array Value),Sound P f args ⟨σ.get,σ.next+1⟩ next->gI P w D ι args vs->(execOp a.eval o).run P w=.ok (.enter f vs) w->o.wp P a w K Q:=by
  intro f args vs h hA gU
  unfold Oper.wp
  rw[gU]
  refine(h hs D ι w vs S Us.next hA).mono ?_
  rintro e w' ⟨r,g',n',D',ι',u,rfl,hn,T,S',U',hle,hR⟩
  exact hK r ⟨g',n'⟩ u D' ι' w' hn T S' hR (U'.more fun _ h=>h.elim) (Nat.le_trans (Nat.le_succ _) hle)
 unfold fx at hv
 split at hv
 ·rename_i f args eS
  rcases hv with⟨r,hP,hn⟩|⟨_,hX⟩|⟨Ai,sz,rows,hM,hn⟩
  ·exact close r σ.get (by unfold VS;rw[eS];exact .inl ⟨hP,rfl⟩) hn
  rotate_left
  ·exact close _ _ (by unfold VS;rw[eS];exact .inr ⟨Ai,sz,rows,hM,rfl,rfl⟩) hn
  ·have mh:=hc
   rw[eS]at mh
   obtain⟨c,ho,mE,JP,ql⟩:=Gc mh
   refine OL f _ (c.args.map a.eval) hX (qR E ql) ?_
   simp only[execOp,ho,resolve,mE,Deferred.ofValue,Act.eval,Sem.run_bind,Sem.run_pure,Result.andThen_ok,invoke,Array.empty_append,Array.append_empty]
   exact kU JP
 ·rename_i x args eS
  split at hv
  ·rename_i f ek hx
   have wK:zI (dz env x) (args.map (dz env))=some (f,args.map (dz env)++ek):=by rw[hx];rfl
   rcases hv with⟨r,hP,hn⟩|⟨_,hX⟩|⟨Ai,sz,rows,hM,hn⟩
   ·exact close r σ.get (by unfold VS;rw[eS];exact⟨f,_,wK,.inl ⟨hP,rfl⟩⟩) hn
   rotate_left
   ·exact close _ _ (by unfold VS;rw[eS];exact⟨f,_,wK,.inr ⟨Ai,sz,rows,hM,rfl,rfl⟩⟩) hn
   ·have mh:=hc
    rw[eS]at mh
    obtain⟨c,t,ho,mE,rfl,ql⟩:=xj mh
    obtain⟨first,us,he,JP,hL⟩:=zK (v:=a.eval (.tmp t)) wK (E t) (qR E ql)
    refine OL f _ (first++c.args.map a.eval++us) hX hL ?_
    simp only[execOp,ho,resolve,mE,he,Deferred.ofValue,Sem.run_bind,Sem.run_pure,Result.andThen_ok,invoke]
    exact kU JP
  ·rename_i f ek hx
   have wK:zI (dz env x) (args.map (dz env))=some (f,ek++args.map (dz env)):=by rw[hx];rfl
   rcases hv with⟨r,hP,hn⟩|⟨_,hX⟩|⟨Ai,sz,rows,hM,hn⟩
   ·exact close r σ.get (by unfold VS;rw[eS];exact⟨f,_,wK,.inl ⟨hP,rfl⟩⟩) hn
   rotate_left
   ·exact close _ _ (by unfold VS;rw[eS];exact⟨f,_,wK,.inr ⟨Ai,sz,rows,hM,rfl,rfl⟩⟩) hn
   ·have mh:=hc
    rw[eS]at mh
    obtain⟨c,t,ho,mE,rfl,ql⟩:=xj mh
    obtain⟨first,us,he,JP,hL⟩:=zK (v:=a.eval (.tmp t)) wK (E t) (qR E ql)
    refine OL f _ (first++c.args.map a.eval++us) hX hL ?_
    simp only[execOp,ho,resolve,mE,he,Deferred.ofValue,Sem.run_bind,Sem.run_pure,Result.andThen_ok,invoke]
    exact kU JP
  ·exact hv.elim
 ·rename_i m x y eS
  split at hv
  ·rename_i v' g' he
   exact close v' g' (by unfold VS;rw[eS];rw[eS]at he;exact he) hv
  ·exact hv.elim
 ·rename_i m x y eS
  split at hv
  ·rename_i v' g' he
   exact close v' g' (by unfold VS;rw[eS];rw[eS]at he;exact he) hv
  ·exact hv.elim
 ·rename_i m x y eS
  split at hv
  ·rename_i v' g' he
   exact close v' g' (by unfold VS;rw[eS];rw[eS]at he;exact he) hv
  ·exact hv.elim
 ·rename_i m x eS
  split at hv
  ·rename_i v' g' he
   exact close v' g' (by unfold VS;rw[eS];rw[eS]at he;exact he) hv
  ·exact hv.elim
 ·rename_i m x eS
  split at hv
  ·rename_i v' g' he
   exact close v' g' (by unfold VS;rw[eS];rw[eS]at he;exact he) hv
  ·exact hv.elim
 ·rename_i n1 n2 n3 n4 n5 n6 n7
  split at hv
  ·rename_i v' r hq
   refine close v' (ck σ.get ⟨vo.site,σ.next⟩ r) ?_ hv
   unfold VS
   split
   ·rename_i h;exact(n1 _ _ h).elim
   ·rename_i h;exact(n2 _ _ h).elim
   ·rename_i h;exact(n3 _ _ _ h).elim
   ·rename_i h;exact(n4 _ _ _ h).elim
   ·rename_i h;exact(n5 _ _ _ h).elim
   ·rename_i h;exact(n6 _ _ h).elim
   ·rename_i h;exact(n7 _ _ h).elim
   ·exact⟨some r,hq,rfl⟩
  ·rename_i v' hq
   refine close v' σ.get ?_ hv
   unfold VS
   split
   ·rename_i h;exact(n1 _ _ h).elim
   ·rename_i h;exact(n2 _ _ h).elim
   ·rename_i h;exact(n3 _ _ _ h).elim
   ·rename_i h;exact(n4 _ _ _ h).elim
   ·rename_i h;exact(n5 _ _ _ h).elim
   ·rename_i h;exact(n6 _ _ h).elim
   ·rename_i h;exact(n7 _ _ h).elim
   ·exact⟨none,hq,rfl⟩
  ·exact hv.elim
structure St (P:Program) (hs nt:Nat) (D:Nat->Prop) (ι:Names) (env:Env) (σ:aw) (a:Act) (w:World):Prop where
 xE:iD P hs D ι σ.get w
 used:Used ι σ.next (fun _=>False)
 env:dy P w D ι env a
 size:a.tmps.size=nt
theorem AH (rest:List Oper) {ops:Array Oper} {nt site0:Nat} {draw mk:Bool} {bs:Array Nat} {hidden:List (Nat×Bool)} {K:Env->aw->Prop} {Q:Exit->Act->World->Prop}:∀(l:List Oper) (vl:List bY) (j:Nat) (env:Env) (σ:aw) (a:Act) (w:World) (D:Nat->Prop) (ι:Names) (U:Nat->Prop),
  allM (mY P ops nt site0 draw mk bs hidden) l j=some vl->wpOps (Sound P) draw vl K env σ->iD P hs D ι σ.get w->Used ι σ.next U->(∀s,U s->s<site0+j)->dy P w D ι env a->a.tmps.size=nt->
  (∀jQ σ' a' w' D' ι',K jQ σ'->Step hs D ι w D' ι' w'->St P hs nt D' ι' jQ σ' a' w'->a'.defers=a.defers->σ.next<=σ'.next->wpList P ops Q rest a' w')->wpList P ops Q (l++rest) a w:=by
 intro l
 induction l with
 |nil=>
  intro vl j env σ a w D ι U h hv S Us _ E eY hQ
  simp[allM]at h;subst h
  exact hQ env ⟨σ.get,σ.next+1⟩ a w D ι hv (Step.refl _ _ _ _) ⟨S,Us.next,E,eY⟩ rfl (Nat.le_succ _)
 |cons o l ih=>
  intro vl j env σ a w D ι U h hv S Us hU E eY hQ
  simp only[allM,Option.bind_eq_bind,Option.bind_eq_some_iff,Option.pure_def,Option.some.injEq]at h
  obtain⟨vo,mO,xL,wJ,rfl⟩:=h
  obtain⟨hc,hd,F4,BE,hg⟩:=sa mO
  have hw:=xM (ops:=ops) (vo:=vo) E hg
  unfold wpOps at hv
  show wpList P ops Q (o::(l++rest)) a w
  unfold wpList
  rw[<-hw]
  split at hv
  ·rename_i K9
   rw[if_pos K9]
   refine .inl (C5 hc hv S Us (fun h=>by have:=hU _ h;omega) E fun v σ' u D' ι' w' hn T S' hR U' hle=>?_)
   refine ih xL (j+1) (upd env vo.dst v) σ' (a.put o.dst u) w' D' ι' _ wJ hn S' U' (fun s F1=>by
    rcases F1 with h|h
    ·have:=hU _ h;omega
    ·omega) (by rw[hd];exact jF (qZ E T) hR BE eY) (by rw[gp];exact eY) fun jQ σ2 a' w2 D2 ι2 hk T2 Qn HZ pM=>hQ jQ σ2 a' w2 D2 ι2 hk (T.trans T2) Qn (HZ.trans (put_defers _ _ _)) (Nat.le_trans hle pM)
  ·rename_i K9
   rw[if_neg K9]
   refine ih xL (j+1) (upd env vo.dst .undef) σ (a.put o.dst undef) w D ι U wJ hv S Us (fun s F1=>by have:=hU _ F1;omega) (by rw[hd];exact jF E dZ.undef BE eY) (by rw[gp];exact eY) fun jQ σ2 a' w2 D2 ι2 hk T2 Qn HZ pM=>hQ jQ σ2 a' w2 D2 ι2 hk T2 Qn (HZ.trans (put_defers _ _ _)) pM
theorem CK {ops:Array Oper} {nt site0:Nat} {draw mk:Bool} {bs:Array Nat} {hidden:List (Nat×Bool)} {K:Env->aw->Prop} {Q:Exit->Act->World->Prop}:∀(l:List Oper) (vl:List bY) (j:Nat) (env:Env) (σ:aw) (a:Act) (w:World) (D:Nat->Prop) (ι:Names) (U:Nat->Prop),
  allM (mY P ops nt site0 draw mk bs hidden) l j=some vl->wpOps (Sound P) draw vl K env σ->iD P hs D ι σ.get w->Used ι σ.next U->(∀s,U s->s<site0+j)->dy P w D ι env a->a.tmps.size=nt->
  (∀jQ σ' a' w' D' ι',K jQ σ'->Step hs D ι w D' ι' w'->St P hs nt D' ι' jQ σ' a' w'->a'.defers=a.defers->σ.next<=σ'.next->Q .normal a' w')->wpList P ops Q l a w:=fun l vl j env σ a w D ι U h hv S Us hU E eY hQ=>by
 have:=AH [] l vl j env σ a w D ι U h hv S Us hU E eY hQ
 rwa [List.append_nil]at this
end
end Go.Proofs.YtoodopepphhpoaaGreatDoor.V

namespace Go.Proofs.YtoodopepphhpoaaGreatDoor.V
open Go.RowKit
variable {P:Program} {w w':World} {D D' D2:Nat->Prop} {ι ι' ι2:Names}
section
variable {hs:Nat} {X:im}
theorem db {env j5:Env} {x:O} (h:∀t∈jo x,env t=j5 t):dz env x=dz j5 x:=by
 cases x with
 |t n=>exact h n (by simp[jo])
 |_=>rfl
theorem map_congr {env j5:Env} {l:List O} (h:∀t∈l.flatMap jo,env t=j5 t):l.map (dz env)=l.map (dz j5):=
 List.map_congr_left fun x hx=>db fun t ht=>h t (List.mem_flatMap.2 ⟨x,hx,ht⟩)
theorem sE {env j5:Env} {x:Option O} (h:∀t∈AI x,env t=j5 t):x.map (dz env)=x.map (dz j5):=by
 cases x with
 |none=>rfl
 |some y=>simp only[Option.map_some];rw[db h]
theorem xz {env j5:Env} {o:iT} {g:Rows} {id:Id} (h:∀t∈o.ja,env t=j5 t):eK o (dz env) g id=eK o (dz j5) g id:=by
 cases o<;>simp only[iT.ja,List.mem_append]at h<;>simp only[eK]
 case fe x=>rw[db h]
 case pick c a b=>rw[db (x:=c) fun t ht=>h t (.inl (.inl ht)),db (x:=a) fun t ht=>h t (.inl (.inr ht)),db (x:=b) fun t ht=>h t (.inr ht)]
 case box x=>rw[db h]
 case build z ps=>
  have:(ps.map fun(x:Nat×Nat×O)=>(x.1,x.2.1,dz env x.2.2))=ps.map fun(x:Nat×Nat×O)=>(x.1,x.2.1,dz j5 x.2.2):=List.map_congr_left fun x hx=>by
   rw[db (x:=x.2.2) fun t ht=>h t (List.mem_flatMap.2 ⟨x,hx,ht⟩)]
  rw[this]
 case ij a b l=>rw[map_congr h]
 case load a n x=>rw[db h]
 case EH x=>rw[db h]
 case bin a b x y=>rw[db (x:=x) fun t ht=>h t (.inl ht),db (x:=y) fun t ht=>h t (.inr ht)]
 case sh a x y=>rw[db (x:=x) fun t ht=>h t (.inl ht),db (x:=y) fun t ht=>h t (.inr ht)]
 case Dl a x y=>rw[db (x:=x) fun t ht=>h t (.inl ht),db (x:=y) fun t ht=>h t (.inr ht)]
 case eqS a b x y=>rw[db (x:=x) fun t ht=>h t (.inl ht),db (x:=y) fun t ht=>h t (.inr ht)]
 case eqA a b x y=>rw[db (x:=x) fun t ht=>h t (.inl ht),db (x:=y) fun t ht=>h t (.inr ht)]
 case Yr a b x=>rw[db h]
 case eqP a x=>rw[db h]
 case not x=>rw[db h]
 case neg x=>rw[db h]
 case conv k x=>rw[db h]
 case JA x=>rw[db h]
 case slice s x lo hi=>rw[db (x:=x) fun t ht=>h t (.inl (.inl ht)),sE (x:=lo) fun t ht=>h t (.inl (.inr ht)),sE (x:=hi) fun t ht=>h t (.inr ht)]
 case Ep x lo hi=>rw[db (x:=x) fun t ht=>h t (.inl (.inl ht)),sE (x:=lo) fun t ht=>h t (.inl (.inr ht)),sE (x:=hi) fun t ht=>h t (.inr ht)]
 case ft k x=>rw[db h]
 case field a b c x=>rw[db h]
 case jj s x y=>rw[db (x:=x) fun t ht=>h t (.inl ht),db (x:=y) fun t ht=>h t (.inr ht)]
 case Rj n s x y=>rw[db (x:=x) fun t ht=>h t (.inl ht),db (x:=y) fun t ht=>h t (.inr ht)]
 case Rm x y=>rw[db (x:=x) fun t ht=>h t (.inl ht),db (x:=y) fun t ht=>h t (.inr ht)]
 case eO a b c x y=>rw[db (x:=x) fun t ht=>h t (.inl ht),db (x:=y) fun t ht=>h t (.inr ht)]
 case extract i x=>rw[db h]
 case len x=>rw[db h]
 case Rz x=>rw[db h]
 case OE x=>rw[db h]
 case Ox x=>rw[db h]
 case RD f l=>rw[map_congr h]
 case RE f l=>rw[map_congr h]
 case mq f l=>rw[map_congr h]
 case oD z x y=>rw[db (x:=x) fun t ht=>h t (.inl ht),db (x:=y) fun t ht=>h t (.inr ht)]
theorem jr {env j5:Env} {o:iT} {g:Rows} {id:Id} (h:∀t∈o.ja,env t=j5 t):fG o (dz env) g id=fG o (dz j5) g id:=by
 cases o<;>simp only[iT.ja,List.mem_append]at h<;>simp only[fG]
 case clear z x=>rw[db h]
 case mw f l=>rw[map_congr h]
 all_goals rename_i a x y
 all_goals rw[db (x:=x) fun t ht=>h t (.inl ht),db (x:=y) fun t ht=>h t (.inr ht)]
theorem M0 {n:Nat} {vo:bY} {env j5:Env} {g g':Rows} {v:AV} (h:∀t∈vo.op.ja,env t=j5 t) (hv:VS X n vo env g v g'):VS X n vo j5 g v g':=by
 unfold VS at hv ⊢
 split at hv
 ·rename_i f args eS
  rw[eS]at h
  simp only[iT.ja]at h
  rw[<-map_congr h];exact hv
 ·rename_i x args eS
  rw[eS]at h
  simp only[iT.ja,List.mem_append]at h
  rw[<-map_congr (l:=args) fun t ht=>h t (.inr ht),<-db (x:=x) fun t ht=>h t (.inl ht)];exact hv
 ·rw[<-jr h];exact hv
 ·rw[<-jr h];exact hv
 ·rw[<-jr h];exact hv
 ·rw[<-jr h];exact hv
 ·rw[<-jr h];exact hv
 ·rw[<-xz h];exact hv
theorem Iu {q:MQ} {vs:List AV} {g:Rows} {id:Id} {v:AV} {r:Row} (h:bx q vs g id=some (v,some r)):∃m,q=.new m:=by
 unfold bx at h
 split at h
 ·exact⟨_,rfl⟩
 ·simp[Option.bind_eq_some_iff]at h
 ·simp at h
 ·cases h
theorem AP {o:iT} {ρ:O->AV} {g:Rows} {id:Id} {v:AV} {r:Row} (h:eK o ρ g id=some (v,some r)):tY o=true:=by
 cases o<;>simp only[eK]at h<;>(try rfl)<;>(try simp at h)
 case mq q xs=>obtain⟨m,rfl⟩:=Iu h;rfl
 all_goals (try(split at h<;>simp at h))
theorem AQ {o:iT} {ρ:O->AV} {g g2:Rows} {id id2:Id} (h:o.cls=.pure):eK o ρ g id=eK o ρ g2 id2:=by
 cases o<;>(try simp[iT.cls]at h)<;>(try simp only[eK])
 case mq q xs=>cases q<;>simp[iT.cls]at h
theorem zA {n:Nat} {vo:bY} {env:Env} {g g':Rows} {v:AV} (hw:vo.op.cls≠.write) (hv:VS X n vo env g v g'):∃mr,g'=kF g ⟨vo.site,n⟩ mr/\(mr≠none->vo.makes=true)/\∀g0,fF vo.hid n g0=fF vo.hid n g->VS X n vo env g0 v (kF g0 ⟨vo.site,n⟩ mr):=by
 unfold VS at hv
 split at hv
 ·rename_i f args eS
  rcases hv with⟨h1,rfl⟩|⟨hs,sz,rows,hM,rfl,rfl⟩
  ·refine⟨none,rfl,fun h=>(h rfl).elim,fun g0 h0=>?_⟩
   unfold VS;rw[eS];simp only;unfold zJ;rw[h0];exact .inl ⟨h1,rfl⟩
  ·refine⟨some _,rfl,fun _=>by unfold bY.makes;rw[eS,hs];simp[iT.oK],fun g0 h0=>?_⟩
   unfold VS;rw[eS];simp only;unfold zJ;rw[h0];exact .inr ⟨hs,sz,rows,hM,rfl,rfl⟩
 ·rename_i x args eS
  obtain⟨f,ek,hx,hv⟩:=hv
  rcases hv with⟨h1,rfl⟩|⟨hs,sz,rows,hM,rfl,rfl⟩
  ·refine⟨none,rfl,fun h=>(h rfl).elim,fun g0 h0=>?_⟩
   unfold VS;rw[eS];simp only;unfold zJ;rw[h0];exact⟨f,ek,hx,.inl ⟨h1,rfl⟩⟩
  ·refine⟨some _,rfl,fun _=>by unfold bY.makes;rw[eS,hs];simp[iT.oK],fun g0 h0=>?_⟩
   unfold VS;rw[eS];simp only;unfold zJ;rw[h0];exact⟨f,ek,hx,.inr ⟨hs,sz,rows,hM,rfl,rfl⟩⟩
 ·rename_i eS;rw[eS]at hw;exact(hw rfl).elim
 ·rename_i eS;rw[eS]at hw;exact(hw rfl).elim
 ·rename_i eS;rw[eS]at hw;exact(hw rfl).elim
 ·rename_i eS;rw[eS]at hw;exact(hw rfl).elim
 ·rename_i eS;rw[eS]at hw;exact(hw rfl).elim
 ·rename_i n1 n2 n3 n4 n5 n6 n7
  obtain⟨mr,hq,rfl⟩:=hv
  refine⟨mr,rfl,fun h=>?_,fun g0 h0=>?_⟩
  ·cases mr with
   |none=>exact(h rfl).elim
   |some r=>unfold bY.makes;rw[AP hq];rfl
  ·unfold VS
   split
   ·rename_i hh;exact(n1 _ _ hh).elim
   ·rename_i hh;exact(n2 _ _ hh).elim
   ·rename_i hh;exact(n3 _ _ _ hh).elim
   ·rename_i hh;exact(n4 _ _ _ hh).elim
   ·rename_i hh;exact(n5 _ _ _ hh).elim
   ·rename_i hh;exact(n6 _ _ hh).elim
   ·rename_i hh;exact(n7 _ _ hh).elim
   ·rw[h0];exact⟨mr,hq,rfl⟩
theorem Db {n:Nat} {vo:bY} {env:Env} {g g':Rows} {v:AV} (hp:vo.op.cls=.pure) (hv:VS X n vo env g v g'):g'=g/\∀g0,VS X n vo env g0 v g0:=by
 unfold VS at hv
 split at hv
 ·rename_i eS;rw[eS]at hp;simp[iT.cls]at hp
 ·rename_i eS;rw[eS]at hp;simp[iT.cls]at hp
 ·rename_i eS;rw[eS]at hp;simp[iT.cls]at hp
 ·rename_i eS;rw[eS]at hp;simp[iT.cls]at hp
 ·rename_i eS;rw[eS]at hp;simp[iT.cls]at hp
 ·rename_i eS;rw[eS]at hp;simp[iT.cls]at hp
 ·rename_i eS;rw[eS]at hp;simp[iT.cls]at hp
 ·rename_i n1 n2 n3 n4 n5 n6 n7
  obtain⟨mr,hq,rfl⟩:=hv
  have hmr:mr=none:=by
   cases mr with
   |none=>rfl
   |some r=>have:=AP hq;simp[tY,hp]at this
  subst hmr
  refine⟨rfl,fun g0=>?_⟩
  unfold VS
  split
  ·rename_i hh;exact(n1 _ _ hh).elim
  ·rename_i hh;exact(n2 _ _ hh).elim
  ·rename_i hh;exact(n3 _ _ _ hh).elim
  ·rename_i hh;exact(n4 _ _ _ hh).elim
  ·rename_i hh;exact(n5 _ _ _ hh).elim
  ·rename_i hh;exact(n6 _ _ hh).elim
  ·rename_i hh;exact(n7 _ _ hh).elim
  ·exact⟨none,by rw[AQ hp];exact hq,rfl⟩
def GS (X:im) (n:Nat) (vo:bY) (env:Env) (g:Rows) (v:AV) (g':Rows):Prop:=
 if aD vo.guard env then VS X n vo env g v g' else v=.undef/\g'=g
theorem G0 {hid:List Nat} {g:Rows} {s n:Nat} {mr:Option Row} (h:mr≠none->hid.contains s=true):fF hid n (kF g ⟨s,n⟩ mr)=fF hid n g:=by
 cases mr with
 |none=>rfl
 |some r=>
  have hc:=h (by simp)
  cases hid with
  |nil=>simp at hc
  |cons a l=>
   funext i
   show(if (a::l).contains i.site=true/\i.bt=n then none else kF g ⟨s,n⟩ (some r) i)=if (a::l).contains i.site=true/\i.bt=n then none else g i
   by_cases hi:i=⟨s,n⟩
   ·subst hi;rw[if_pos ⟨hc,rfl⟩,if_pos ⟨hc,rfl⟩]
   ·simp only[kF,ck,if_neg hi]
theorem Ky {g:Rows} {i j:Id} (h:i≠j) (m1 m2:Option Row):kF (kF g i m1) j m2=kF (kF g j m2) i m1:=by
 cases m1<;>cases m2<;>simp only[kF]
 funext k
 simp only[ck]
 by_cases h1:k=i
 ·subst h1;rw[if_neg h,if_pos rfl];simp
 ·by_cases h2:k=j
  ·subst h2;simp[h1]
  ·simp[h1,h2]
theorem Bi {env:Env} {d e:Option Nat} {v u:AV} (h:∀k,d=some k->e≠some k):upd (upd env d v) e u=upd (upd env e u) d v:=by
 cases d with
 |none=>rfl
 |some d=>
  cases e with
  |none=>rfl
  |some e=>
   have hZ:d≠e:=fun he=>h d rfl (by rw[he])
   funext t
   simp only[upd]
   by_cases h1:t=d
   ·subst h1;rw[if_neg hZ,if_pos rfl,if_pos rfl]
   ·by_cases h2:t=e
    ·subst h2;rw[if_pos rfl,if_neg h1,if_pos rfl]
    ·simp[h1,h2]
theorem pz {env:Env} {d:Option Nat} {v:AV} {l:List Nat} (h:∀k,d=some k->k∉l):∀t∈l,upd env d v t=env t:=by
 intro t ht
 cases d with
 |none=>rfl
 |some d=>
  have:t≠d:=fun he=>h d rfl (he▸ht)
  simp[upd,this]
structure Hn (x y:bY):Prop where
 xy:∀k,x.dst=some k->k∉y.ja
 yx:∀k,y.dst=some k->k∉x.ja
 dst:∀k,x.dst=some k->y.dst≠some k
 cls:clash x.op.cls y.op.cls=false
 hx:x.makes=true->y.hid.contains x.site=true
 hy:y.makes=true->x.hid.contains y.site=true
 site:x.site≠y.site
theorem Hn.symm {x y:bY} (h:Hn x y):Hn y x:=
 ⟨h.yx,h.xy,fun k hk he=>h.dst k he hk,by have:=h.cls;revert this;cases x.op.cls<;>cases y.op.cls<;>simp[clash],h.hy,h.hx,fun e=>h.site e.symm⟩
theorem tK {x y:bY} (h:JI x y=true):Hn x y:=by
 unfold JI at h
 simp only[Bool.and_eq_true,Bool.not_eq_true',Bool.or_eq_true,bne_iff_ne]at h
 obtain⟨⟨⟨⟨h1,h2⟩,h3⟩,h4⟩,h5⟩:=h
 unfold xK at h1
 simp only[Bool.and_eq_true]at h1
 obtain⟨a1,a2⟩:=h1
 refine⟨fun k hk=>?_,fun k hk=>?_,fun k hk=>?_,h2,fun hm=>?_,fun hm=>?_,h5⟩
 ·rw[hk]at a1;simp at a1;exact a1.1
 ·rw[hk]at a2;simpa using a2
 ·rw[hk]at a1;simp at a1;exact a1.2
 ·rcases h3 with h3|h3
  ·rw[hm]at h3;cases h3
  ·exact h3
 ·rcases h4 with h4|h4
  ·rw[hm]at h4;cases h4
  ·exact h4
theorem we {vo:bY} {t:Nat} (h:t∈vo.op.ja):t∈vo.ja:=List.mem_append_left _ h
theorem pZ {vo:bY} {env j5:Env} (h:∀t∈vo.ja,env t=j5 t):aD vo.guard env=aD vo.guard j5:=by
 unfold aD
 cases hg:vo.guard with
 |none=>rfl
 |some p=>
  obtain⟨t,b⟩:=p
  have:env t=j5 t:=h t (List.mem_append_right _ (by rw[hg];simp))
  simp only[this]
theorem zq {n:Nat} {vo:bY} {env j5:Env} {g g':Rows} {v:AV} (h:∀t∈vo.ja,env t=j5 t) (hv:GS X n vo env g v g'):GS X n vo j5 g v g':=by
 unfold GS at hv ⊢
 rw[<-pZ h]
 split at hv
 ·rename_i hw;rw[if_pos hw];exact M0 (fun t ht=>h t (we ht)) hv
 ·rename_i hw;rw[if_neg hw];exact hv
theorem Jj {n:Nat} {x y:bY} {env:Env} {g g1 g2:Rows} {v v':AV} (F:Hn x y) (h1:GS X n x env g v g1) (h2:GS X n y (upd env x.dst v) g1 v' g2):
  ∃HR,GS X n y env g v' HR/\GS X n x (upd env y.dst v') HR v g2/\upd (upd env x.dst v) y.dst v'=upd (upd env y.dst v') x.dst v:=by
 have Tl:=Bi (env:=env) (v:=v) (u:=v') F.dst
 replace h2:GS X n y env g1 v' g2:=zq (pz F.xy) h2
 have back:∀{HR},GS X n x env HR v g2->GS X n x (upd env y.dst v') HR v g2:=fun h=>zq (fun t ht=>(pz F.yx t ht).symm) h
 unfold GS at h1 h2
 by_cases wx:aD x.guard env=true
 ·rw[if_pos wx]at h1
  by_cases wy:aD y.guard env=true
  ·rw[if_pos wy]at h2
   by_cases cx:x.op.cls=.write
   ·have cy:y.op.cls=.pure:=by
     have:=F.cls;rw[cx]at this
     cases hc:y.op.cls<;>simp[clash,hc]at this ⊢
    obtain⟨rfl,eR⟩:=Db cy h2
    exact⟨g,by unfold GS;rw[if_pos wy];exact eR g,back (by unfold GS;rw[if_pos wx];exact h1),Tl⟩
   ·by_cases cy:y.op.cls=.write
    ·have cx':x.op.cls=.pure:=by
      have:=F.cls;rw[cy]at this
      cases hc:x.op.cls<;>simp[clash,hc]at this ⊢
     obtain⟨rfl,eR⟩:=Db cx' h1
     exact⟨g2,by unfold GS;rw[if_pos wy];exact h2,back (by unfold GS;rw[if_pos wx];exact eR g2),Tl⟩
    ·obtain⟨mx,rfl,kx,allx⟩:=zA cx h1
     obtain⟨my,rfl,ky,T6⟩:=zA cy h2
     have hZ:(⟨x.site,n⟩:Id)≠⟨y.site,n⟩:=fun e=>F.site (by injection e)
     refine⟨kF g ⟨y.site,n⟩ my,?_,back ?_,Tl⟩
     ·unfold GS;rw[if_pos wy]
      exact T6 g (G0 fun h=>F.hx (kx h)).symm
     ·unfold GS;rw[if_pos wx,Ky hZ]
      exact allx _ (G0 fun h=>F.hy (ky h))
  ·rw[if_neg wy]at h2
   obtain⟨rfl,rfl⟩:=h2
   exact⟨g,by unfold GS;rw[if_neg wy];exact⟨rfl,rfl⟩,back (by unfold GS;rw[if_pos wx];exact h1),Tl⟩
 ·rw[if_neg wx]at h1
  obtain⟨rfl,rfl⟩:=h1
  exact⟨g2,h2,back (by unfold GS;rw[if_neg wx];exact⟨rfl,rfl⟩),Tl⟩
end
end Go.Proofs.YtoodopepphhpoaaGreatDoor.V

namespace Go.Proofs.YtoodopepphhpoaaGreatDoor.V
open Go.RowKit
variable {P:Program} {w w':World} {D D' D2:Nat->Prop} {ι ι' ι2:Names}
section
variable {hs:Nat} {X:im}
def kG (acc:Array Nat) (o:Oper):Nat:=o.after.foldl (fun s e=>if Region.binds .any e then s|||2 ^ e.on|||acc.getD e.on 0 else s) 0
theorem Qw (ops:Array Oper):kn ops=ops.foldl (fun acc o=>acc.push (kG acc o)) #[]:=rfl
theorem Fc {acc:Array Nat} {o:Oper} {i:Nat} (h:(kG acc o).testBit i=true):∃e∈o.after,Region.binds .any e=true/\(e.on=i∨(acc.getD e.on 0).testBit i=true):=by
 unfold kG at h
 rw[<-Array.foldl_toList]at h
 have gen:∀(l:List Edge) (s:Nat),(l.foldl (fun s e=>if Region.binds .any e then s|||2 ^ e.on|||acc.getD e.on 0 else s) s).testBit i=true->s.testBit i=true∨∃e∈l,Region.binds .any e=true/\(e.on=i∨(acc.getD e.on 0).testBit i=true):=by
  intro l
  induction l with
  |nil=>intro s h;exact .inl h
  |cons e r ih=>
   intro s h
   rw[List.foldl_cons]at h
   rcases ih _ h with h|⟨e',DJ,h'⟩
   ·by_cases hb:Region.binds .any e=true
    ·rw[if_pos hb]at h
     simp only[Nat.testBit_or,Bool.or_eq_true]at h
     rcases h with(h|h)|h
     ·exact .inl h
     ·refine .inr ⟨e,by simp,hb,.inl ?_⟩
      rw[Nat.testBit_two_pow]at h
      simpa using h
     ·exact .inr ⟨e,by simp,hb,.inr h⟩
    ·rw[if_neg hb]at h;exact .inl h
   ·exact .inr ⟨e',List.mem_cons_of_mem _ DJ,h'⟩
 rcases gen _ _ h with h|⟨e,he,h⟩
 ·simp at h
 ·exact⟨e,Array.mem_toList_iff.1 he,h⟩
theorem Nc {ops:Array Oper} {j i:Nat} (h:((kn ops).getD j 0).testBit i=true):∃o,ops[j]? =some o/\∃e∈o.after,Region.binds .any e=true/\(e.on=i∨((kn ops).getD e.on 0).testBit i=true):=by
 have key:∀(l pre:List Oper) (acc:Array Nat),acc.size=pre.length->(∀j i,(acc.getD j 0).testBit i=true->∃o,pre[j]? =some o/\∃e∈o.after,Region.binds .any e=true/\(e.on=i∨(acc.getD e.on 0).testBit i=true))->
   ∀j i,((l.foldl (fun acc o=>acc.push (kG acc o)) acc).getD j 0).testBit i=true->∃o,(pre++l)[j]? =some o/\∃e∈o.after,Region.binds .any e=true/\(e.on=i∨((l.foldl (fun acc o=>acc.push (kG acc o)) acc).getD e.on 0).testBit i=true):=by
  intro l
  induction l with
  |nil=>intro pre acc _ h j i hb;simpa using h j i hb
  |cons o r ih=>
   intro pre acc eY h j i hb
   have zh:∀k,k<acc.size->(acc.push (kG acc o)).getD k 0=acc.getD k 0:=fun k hk=>by
    simp only[Array.getD_eq_getD_getElem?,Array.getElem?_push]
    rw[if_neg ad]
   have big:∀k,acc.size<=k->acc.getD k 0=0:=fun k hk=>by simp[Array.getElem?_eq_none hk]
   have lift:∀k i,(acc.getD k 0).testBit i=true->((acc.push (kG acc o)).getD k 0).testBit i=true:=fun k i hk=>by
    by_cases eP:k<acc.size
    ·rw[zh k eP];exact hk
    ·rw[big k ad]at hk;simp at hk
   have:=ih (pre++[o]) (acc.push (kG acc o)) (by simp[eY]) (fun j i hb=>by
    by_cases eP:j<acc.size
    ·rw[zh j eP]at hb
     obtain⟨o',EN,e,he,gV,h2⟩:=h j i hb
     refine⟨o',by rw[List.getElem?_append_left ad];exact EN,e,he,gV,?_⟩
     rcases h2 with h2|h2
     ·exact .inl h2
     ·exact .inr (lift _ _ h2)
    ·by_cases hj:j=acc.size
     ·subst hj
      have e0:(acc.push (kG acc o)).getD acc.size 0=kG acc o:=by simp
      rw[e0]at hb
      obtain⟨e,he,gV,h2⟩:=Fc hb
      refine⟨o,by rw[List.getElem?_append_right ad,eY];simp,e,he,gV,?_⟩
      rcases h2 with h2|h2
      ·exact .inl h2
      ·exact .inr (lift _ _ h2)
     ·have:(acc.push (kG acc o)).getD j 0=0:=by
       simp only[Array.getD_eq_getD_getElem?]
       rw[Array.getElem?_eq_none (by simp;omega)];rfl
      rw[this]at hb;simp at hb) j i (by simpa using hb)
   simpa using this
 rw[Qw,<-Array.foldl_toList]at h ⊢
 have:=key ops.toList [] #[] rfl (fun j i h=>by simp at h) j i h
 simpa using this
def DC (ops:Array Oper) (listed:Array Bool):Prop:=∀k i,listed.getD k false=true->((kn ops).getD k 0).testBit i=true->listed.getD i false=true
theorem nC {ops:Array Oper} {listed:Array Bool} (h:DC ops listed) {j:Nat} (hj:j∈Region.ready .any ops listed):∀i,((kn ops).getD j 0).testBit i=true->listed.getD i false=true:=by
 intro i hb
 obtain⟨_,o,ho,eR⟩:=mem_ready.1 hj
 obtain⟨o',EN,e,he,gV,h2⟩:=Nc hb
 rw[ho]at EN;injection EN with EN;subst EN
 have hl:=eR e he gV
 rcases h2 with h2|h2
 ·rw[<-h2];exact hl
 ·exact h _ _ hl h2
theorem DC.list {ops:Array Oper} {listed:Array Bool} (h:DC ops listed) {j:Nat} (hj:j∈Region.ready .any ops listed):DC ops (listed.setIfInBounds j true):=by
 intro k i hk hb
 by_cases hkj:k=j
 ·subst hkj;exact getD_set_true (nC h hj i hb)
 ·rw[getD_set_ne false (fun e=>hkj e.symm)]at hk
  exact getD_set_true (h k i hk hb)
theorem ki {ops:Array Oper} {listed:Array Bool} {j:Nat} (hj:j∈Region.ready .any ops listed):listed.getD j false=false:=by
 have h0:=(mem_ready.1 hj).1
 rcases Nat.lt_or_ge j listed.size with h|h
 ·simp[h]at h0 ⊢;exact h0
 ·simp[Array.getElem?_eq_none h]at h0
def PG (X:im) (n:Nat) (ops:Array Oper) (vl:List bY) (K:Env->Rows->Prop):Nat->Array Bool->Env->Rows->Prop
 |0,listed,env,g=>Region.ready .any ops listed=[]/\K env g
 |f+1,listed,env,g=>(Region.ready .any ops listed=[]->K env g)/\∀i∈Region.ready .any ops listed,∃vo,vl[i]? =some vo/\∃v g',GS X n vo env g v g'/\PG X n ops vl K f (listed.setIfInBounds i true) (upd env vo.dst v) g'
theorem Ft {ops:Array Oper} {vl:List bY} (h:qY ops vl (kn ops)=true) {i j:Nat} {x y:bY} (hi:vl[i]? =some x) (hj:vl[j]? =some y) (Ct:i≠j) (h1:((kn ops).getD j 0).testBit i=false) (h2:((kn ops).getD i 0).testBit j=false):Hn x y:=by
 unfold qY at h
 simp only[Bool.and_eq_true,List.all_eq_true]at h
 obtain⟨_,h⟩:=h
 have mem:∀(k:Nat) (z:bY),vl[k]? =some z->(z,k)∈vl.zipIdx:=fun k z hk=>by
  rw[List.mem_iff_getElem?]
  exact⟨k,by simp[List.getElem?_zipIdx,hk]⟩
 rcases Nat.lt_or_gt_of_ne Ct with eP|QW
 ·have:=h _ (mem j y hj) _ (mem i x hi)
  simp only[eP,decide_true,Bool.not_true,Bool.false_or,h1]at this
  exact tK this
 ·have:=h _ (mem i x hi) _ (mem j y hj)
  simp only[QW,decide_true,Bool.not_true,Bool.false_or,h2]at this
  exact(tK this).symm
theorem I7 {n:Nat} {ops:Array Oper} {vl:List bY} {K:Env->Rows->Prop} (Ah:qY ops vl (kn ops)=true) (hlen:vl.length=ops.size) {i:Nat} {vi:bY} (hi:vl[i]? =some vi) {v:AV}:∀(fuel:Nat) (listed:Array Bool) (env:Env) (g g1:Rows),
  DC ops listed->i∈Region.ready .any ops listed->GS X n vi env g v g1->PG X n ops vl K fuel (listed.setIfInBounds i true) (upd env vi.dst v) g1->PG X n ops vl K (fuel+1) listed env g:=by
 intro fuel
 induction fuel with
 |zero=>
  intro listed env g g1 _ hr hG H
  refine⟨fun h=>(by rw[h]at hr;cases hr),fun j hj=>?_⟩
  by_cases nN:j=i
  ·subst nN;exact⟨vi,hi,v,g1,hG,H⟩
  ·have:=ready_mono hj nN
   rw[H.1]at this;cases this
 |succ fuel ih=>
  intro listed env g g1 wG hr hG H
  refine⟨fun h=>(by rw[h]at hr;cases hr),fun j hj=>?_⟩
  by_cases nN:j=i
  ·subst nN;exact⟨vi,hi,v,g1,hG,H⟩
  ·obtain⟨vj,Re,v',g2,hG2,H2⟩:=H.2 j (ready_mono hj nN)
   have b1:((kn ops).getD j 0).testBit i=false:=by
    cases hb:((kn ops).getD j 0).testBit i with
    |false=>rfl
    |true=>have:=nC wG hj i hb;rw[ki hr]at this;cases this
   have b2:((kn ops).getD i 0).testBit j=false:=by
    cases hb:((kn ops).getD i 0).testBit j with
    |false=>rfl
    |true=>have:=nC wG hr j hb;rw[ki hj]at this;cases this
   have F:=Ft Ah hi Re (fun e=>nN e.symm) b1 b2
   obtain⟨HR,q1,q2,q3⟩:=Jj F hG hG2
   refine⟨vj,Re,v',HR,q1,ih _ _ _ g2 (wG.list hj) (ready_mono hr (fun e=>nN e.symm)) q2 ?_⟩
   rw[<-q3,Array.setIfInBounds_comm _ _ nN]
   exact H2
theorem TY {n:Nat} {vo:bY} {env:Env} {g:Rows} {v:AV} {mr:Option Row} (h:eK vo.op (dz env) (fF vo.hid n g) ⟨vo.site,n⟩=some (v,mr)):VS X n vo env g v (kF g ⟨vo.site,n⟩ mr):=by
 unfold VS
 split
 ·rename_i eS;rw[eS]at h;simp[eK]at h
 ·rename_i eS;rw[eS]at h;simp[eK]at h
 ·rename_i eS;rw[eS]at h;simp[eK]at h
 ·rename_i eS;rw[eS]at h;simp[eK]at h
 ·rename_i eS;rw[eS]at h;simp[eK]at h
 ·rename_i eS;rw[eS]at h;simp[eK]at h
 ·rename_i eS;rw[eS]at h;simp[eK]at h
 ·exact⟨mr,h,rfl⟩
theorem M1 {n:Nat} {vo:bY} {env:Env} {g g':Rows} {v:AV} (h:fG vo.op (dz env) g ⟨vo.site,n⟩=some (v,g')):VS X n vo env g v g':=by
 unfold VS
 split
 ·rename_i eS;rw[eS]at h;simp[fG]at h
 ·rename_i eS;rw[eS]at h;simp[fG]at h
 ·exact h
 ·exact h
 ·exact h
 ·exact h
 ·exact h
 ·rename_i n1 n2 n3 n4 n5 n6 n7
  exfalso
  unfold fG at h
  split at h
  ·rename_i hh;exact n3 _ _ _ hh
  ·rename_i hh;exact n4 _ _ _ hh
  ·rename_i hh;exact n5 _ _ _ hh
  ·rename_i hh;exact n6 _ _ hh
  ·rename_i hh;exact n7 _ _ hh
  ·simp at h
theorem Wo {vo:bY} {env:Env} {σ:aw} {next:AV->aw->Prop} (hv:fx X true vo env σ next):∃v g',VS X σ.next vo env σ.get v g'/\next v ⟨g',σ.next⟩:=by
 unfold fx at hv
 split at hv
 ·rename_i f args eS
  rcases hv with⟨r,hP,hn⟩|⟨h,_⟩|⟨hs,sz,rows,hM,hn⟩
  ·exact⟨r,σ.get,by unfold VS;rw[eS];exact .inl ⟨hP,rfl⟩,hn⟩
  ·cases h
  ·exact⟨_,_,by unfold VS;rw[eS];exact .inr ⟨hs,sz,rows,hM,rfl,rfl⟩,hn⟩
 ·rename_i x args eS
  split at hv
  ·rename_i f ek hx
   have wK:zI (dz env x) (args.map (dz env))=some (f,args.map (dz env)++ek):=by rw[hx];rfl
   rcases hv with⟨r,hP,hn⟩|⟨h,_⟩|⟨hs,sz,rows,hM,hn⟩
   ·exact⟨r,σ.get,by unfold VS;rw[eS];exact⟨f,_,wK,.inl ⟨hP,rfl⟩⟩,hn⟩
   ·cases h
   ·exact⟨_,_,by unfold VS;rw[eS];exact⟨f,_,wK,.inr ⟨hs,sz,rows,hM,rfl,rfl⟩⟩,hn⟩
  ·rename_i f ek hx
   have wK:zI (dz env x) (args.map (dz env))=some (f,ek++args.map (dz env)):=by rw[hx];rfl
   rcases hv with⟨r,hP,hn⟩|⟨h,_⟩|⟨hs,sz,rows,hM,hn⟩
   ·exact⟨r,σ.get,by unfold VS;rw[eS];exact⟨f,_,wK,.inl ⟨hP,rfl⟩⟩,hn⟩
   ·cases h
   ·exact⟨_,_,by unfold VS;rw[eS];exact⟨f,_,wK,.inr ⟨hs,sz,rows,hM,rfl,rfl⟩⟩,hn⟩
  ·exact hv.elim
 ·split at hv
  ·rename_i v g h;exact⟨v,g,M1 h,hv⟩
  ·exact hv.elim
 ·split at hv
  ·rename_i v g h;exact⟨v,g,M1 h,hv⟩
  ·exact hv.elim
 ·split at hv
  ·rename_i v g h;exact⟨v,g,M1 h,hv⟩
  ·exact hv.elim
 ·split at hv
  ·rename_i v g h;exact⟨v,g,M1 h,hv⟩
  ·exact hv.elim
 ·split at hv
  ·rename_i v g h;exact⟨v,g,M1 h,hv⟩
  ·exact hv.elim
 ·split at hv
  ·rename_i v r h;exact⟨v,_,TY h,hv⟩
  ·rename_i v h;exact⟨v,_,TY h,hv⟩
  ·exact hv.elim
theorem Bj {ops:Array Oper} {vl:List bY} {K:Env->aw->Prop} {n:Nat} (Ah:qY ops vl (kn ops)=true) (hlen:vl.length=ops.size):∀(r:List bY) (k:Nat) (listed:Array Bool) (env:Env) (g:Rows),
  (∀j,r[j]? =vl[k+j]?)->listed.size=ops.size->(∀i,i<ops.size->listed[i]? =some (decide (i<k)))->k+r.length=ops.size->DC ops listed->wpOps X true r K env ⟨g,n⟩->PG X n ops vl (fun env g=>K env ⟨g,n+1⟩) r.length listed env g
 |[],k,listed,env,g,_,eY,hl,hk,_,hv=>by
  refine⟨?_,hv⟩
  rw[List.eq_nil_iff_forall_not_mem]
  intro j hj
  obtain⟨h0,o,ho,_⟩:=mem_ready.1 hj
  have eP:j<ops.size:=(Array.getElem?_eq_some_iff.1 ho).1
  have:=hl j eP
  simp at hk
  simp[this,show j<k by omega]at h0
 |vo::r,k,listed,env,g,hr,eY,hl,hk,wG,hv=>by
  simp only[List.length_cons]at hk
  have mO:vl[k]? =some vo:=by simpa using(hr 0).symm
  have lk:k<ops.size:=ad
  have N6:k∈Region.ready .any ops listed:=by
   rw[mem_ready]
   refine⟨by simp[hl k lk],ops[k],Array.getElem?_eq_getElem lk,fun e he hb=>?_⟩
   unfold qY JB at Ah
   simp only[Bool.and_eq_true,List.all_eq_true]at Ah
   have hm:(ops[k],k)∈ops.toList.zipIdx:=by
    rw[List.mem_iff_getElem?]
    exact⟨k,by simp[List.getElem?_zipIdx,lk]⟩
   have:=Ah.1 _ hm
   rw[Array.all_eq_true_iff_forall_mem]at this
   have:=this e he
   simp only[hb,Bool.not_true,Bool.false_or,decide_eq_true_eq]at this
   simp[hl e.on ad,this]
  have hGS:∃v g',GS X n vo env g v g'/\wpOps X true r K (upd env vo.dst v) ⟨g',n⟩:=by
   unfold wpOps at hv
   unfold GS
   split at hv
   ·rename_i hw
    simp only[hw,if_true]
    exact Wo hv
   ·rename_i hw
    simp only[hw]
    exact⟨.undef,g,⟨rfl,rfl⟩,hv⟩
  obtain⟨v,g',h1,h2⟩:=hGS
  refine I7 Ah hlen mO r.length listed env g g' wG N6 h1 ?_
  refine Bj Ah hlen r (k+1) _ _ _ (fun j=>by have:=hr (j+1);simpa[Nat.add_assoc,Nat.add_comm 1 j]using this) (by simp[eY]) (fun i hi=>?_) ad (wG.list N6) h2
  by_cases Cu:i=k
  ·subst Cu;simp[eY,lk]
  ·rw[Array.getElem?_setIfInBounds_ne (fun e=>Cu e.symm),hl i hi]
   congr 1
   have:(i<k)=(i<k+1):=by apply propext;omega
   simp[this]
theorem qQ {f:Nat->Oper->Option bY}:∀{l:List Oper} {vl:List bY} {j:Nat},allM f l j=some vl->vl.length=l.length/\∀(i:Nat) (o:Oper),l[i]? =some o->∃vo,vl[i]? =some vo/\f (j+i) o=some vo
 |[],vl,j,h=>by simp[allM]at h;subst h;simp
 |o::l,vl,j,h=>by
  simp only[allM,Option.bind_eq_bind,Option.bind_eq_some_iff,Option.pure_def,Option.some.injEq]at h
  obtain⟨vo,mO,xL,wJ,rfl⟩:=h
  obtain⟨h1,h2⟩:=qQ wJ
  refine⟨by simp[h1],fun i o' hi=>?_⟩
  cases i with
  |zero=>simp at hi;subst hi;exact⟨vo,rfl,mO⟩
  |succ i=>
   simp at hi
   obtain⟨q,hq,hf⟩:=h2 i o' hi
   exact⟨q,by simpa using hq,by rw[<-hf];congr 1;omega⟩
theorem B5 {ops:Array Oper} {vl:List bY} {nt site0:Nat} {draw mk:Bool} {bs:Array Nat} {hidden:List (Nat×Bool)} {n:Nat} {K:Env->Rows->Prop} {Q:Exit->Act->World->Prop} (eR:allM (mY P ops nt site0 draw mk bs hidden) ops.toList 0=some vl):
  ∀(fuel:Nat) (listed:Array Bool) (env:Env) (g:Rows) (a:Act) (w:World) (D:Nat->Prop) (ι:Names) (U:Nat->Prop),PG (Sound P) n ops vl K fuel listed env g->iD P hs D ι g w->Used ι n U->(∀s,U s->∃i,s=site0+i/\listed.getD i false=true)->dy P w D ι env a->a.tmps.size=nt->
  (∀jQ g' a' w' D' ι' U',K jQ g'->Step hs D ι w D' ι' w'->iD P hs D' ι' g' w'->Used ι' n U'->dy P w' D' ι' jQ a'->a'.tmps.size=nt->a'.defers=a.defers->Q .normal a' w')->wpAny P .any ops Q fuel listed a w:=by
 intro fuel
 induction fuel with
 |zero=>intro listed env g a w D ι U h S Us hU E eY hQ;exact⟨h.1,hQ env g a w D ι U h.2 (Step.refl _ _ _ _) S Us E eY rfl⟩
 |succ fuel ih=>
  intro listed env g a w D ι U h S Us hU E eY hQ
  refine⟨fun hr=>hQ env g a w D ι U (h.1 hr) (Step.refl _ _ _ _) S Us E eY rfl,fun i hi=>?_⟩
  obtain⟨vo,mO,v,g',hG,Ti⟩:=h.2 i hi
  obtain⟨_,o,ho,_⟩:=mem_ready.1 hi
  obtain⟨vo',pc,YU⟩:=(qQ eR).2 i o (by simpa using ho)
  rw[mO]at pc;injection pc with pc;subst pc
  rw[Nat.zero_add]at YU
  obtain⟨hc,hd,F4,BE,hg⟩:=sa YU
  have hw:=xM (ops:=ops) (vo:=vo) E hg
  have hUi:¬U vo.site:=fun hu=>by
   obtain⟨i',he,hl⟩:=hU _ hu
   have:i'=i:=ad
   subst this
   rw[ki hi]at hl;cases hl
  have ll:i<listed.size:=by
   have h0:=(mem_ready.1 hi).1
   rcases Nat.lt_or_ge i listed.size with h|h
   ·exact h
   ·simp[Array.getElem?_eq_none h]at h0
  unfold wpOp
  simp only[ho]
  rw[<-hw]
  unfold GS at hG
  by_cases K9:aD vo.guard env=true
  ·rw[if_pos K9]
   rw[if_pos K9]at hG
   refine .inl (E0 hc hG S Us hUi E fun a' w' ⟨u,D',ι',ha,T,S',hR,U'⟩=>?_)
   subst ha
   refine ih _ _ _ _ w' D' ι' _ Ti S' U' (fun s F1=>?_) (by rw[hd];exact jF (qZ E T) hR BE eY) (by rw[gp];exact eY) fun jQ g2 a2 w2 D2 ι2 U2 hk T2 S2 U2' E2 qH HZ=>hQ jQ g2 a2 w2 D2 ι2 U2 hk (T.trans T2) S2 U2' E2 qH (HZ.trans (put_defers _ _ _))
   rcases F1 with h|h
   ·obtain⟨i',he,hl⟩:=hU _ h
    exact⟨i',he,getD_set_true hl⟩
   ·exact⟨i,by rw[h,F4],by simp[ll]⟩
  ·rw[if_neg K9]
   rw[if_neg K9]at hG
   obtain⟨rfl,rfl⟩:=hG
   refine ih _ _ _ _ w D ι U Ti S Us (fun s F1=>?_) (by rw[hd];exact jF E dZ.undef BE eY) (by rw[gp];exact eY) fun jQ g2 a2 w2 D2 ι2 U2 hk T2 S2 U2' E2 qH HZ=>hQ jQ g2 a2 w2 D2 ι2 U2 hk T2 S2 U2' E2 qH (HZ.trans (put_defers _ _ _))
   obtain⟨i',he,hl⟩:=hU _ F1
   exact⟨i',he,getD_set_true hl⟩
end
end Go.Proofs.YtoodopepphhpoaaGreatDoor.V

namespace Go.Proofs.YtoodopepphhpoaaGreatDoor.V
open Go.RowKit
variable {P:Program} {w w':World} {D D' D2:Nat->Prop} {ι ι' ι2:Names}
section
variable {hs:Nat} {X:im}
def tf (X:im):Prop:=∀f args σ K K',(∀r σ',K r σ'->K' r σ')->X f args σ K->X f args σ K'
theorem mU:tf (Sound P):=fun _ _ _ _ _ hK h hs D ι w vs S U A=>
 (h hs D ι w vs S U A).mono fun _ _ ⟨r,g',n',D',ι',u,he,hk,rest⟩=>⟨r,g',n',D',ι',u,he,hK _ _ hk,rest⟩
def step (X:im) (vo:bY) (N:Env->aw->Prop) (env:Env) (σ:aw):Prop:=
 if aD vo.guard env then fx X false vo env σ fun v σ'=>N (upd env vo.dst v) σ' else N (upd env vo.dst .undef) σ
theorem tF (hK:tf X) {draw:Bool} {hid:List Nat} {site f:Nat} {args:List AV} {σ:aw} {n n':AV->aw->Prop} (hn:∀v σ',n v σ'->n' v σ') (hp:cH X draw hid site f args σ n):cH X draw hid site f args σ n':=by
 rcases hp with⟨r,h1,h2⟩|⟨h1,h2⟩|⟨h1,sz,rows,h2,h3⟩
 ·exact .inl ⟨r,h1,hn _ _ h2⟩
 ·exact .inr (.inl ⟨h1,hK _ _ _ _ _ hn h2⟩)
 ·exact .inr (.inr ⟨h1,sz,rows,h2,hn _ _ h3⟩)
theorem G1 (hK:tf X) {draw:Bool} {o:bY} {env:Env} {σ:aw} {n n':AV->aw->Prop} (hn:∀v σ',n v σ'->n' v σ') (hp:fx X draw o env σ n):fx X draw o env σ n':=by
 unfold fx at hp ⊢
 split at hp
 ·exact tF hK hn hp
 ·split at hp
  ·exact tF hK hn hp
  ·exact tF hK hn hp
  ·exact hp.elim
 ·split at hp
  ·exact hn _ _ hp
  ·exact hp.elim
 ·split at hp
  ·exact hn _ _ hp
  ·exact hp.elim
 ·split at hp
  ·exact hn _ _ hp
  ·exact hp.elim
 ·split at hp
  ·exact hn _ _ hp
  ·exact hp.elim
 ·split at hp
  ·exact hn _ _ hp
  ·exact hp.elim
 ·split at hp
  ·exact hn _ _ hp
  ·exact hn _ _ hp
  ·exact hp.elim
theorem lJ (hK:tf X) {vo:bY} {N N':Env->aw->Prop} (h:∀e s,N e s->N' e s) {env:Env} {σ:aw} (hp:step X vo N env σ):step X vo N' env σ:=by
 unfold step at hp ⊢
 split at hp
 ·rename_i hw;rw[if_pos hw];exact G1 hK (fun v σ'=>h _ _) hp
 ·rename_i hw;rw[if_neg hw];exact h _ _ hp
theorem Mc {env j5:Env} {vo:bY} {σ:aw} {n:AV->aw->Prop} (h:∀t∈vo.op.ja,env t=j5 t) (hv:fx X false vo env σ n):fx X false vo j5 σ n:=by
 unfold fx at hv ⊢
 split at hv
 ·rename_i f args eS
  rw[eS]at h
  simp only[iT.ja]at h
  rw[<-map_congr h];exact hv
 ·rename_i x args eS
  rw[eS]at h
  simp only[iT.ja,List.mem_append]at h
  rw[<-map_congr (l:=args) fun t ht=>h t (.inr ht),<-db (x:=x) fun t ht=>h t (.inl ht)];exact hv
 ·rw[<-jr h];exact hv
 ·rw[<-jr h];exact hv
 ·rw[<-jr h];exact hv
 ·rw[<-jr h];exact hv
 ·rw[<-jr h];exact hv
 ·rw[<-xz h];exact hv
theorem oG {x:bY} (hq:nA x=true) {N:Env->aw->Prop} {env:Env} {σ:aw}:step X x N env σ↔∃v g',GS X σ.next x env σ.get v g'/\N (upd env x.dst v) ⟨g',σ.next⟩:=by
 unfold nA at hq
 simp only[Bool.and_eq_true,Bool.not_eq_true',bne_iff_ne]at hq
 obtain⟨JQ,N3⟩:=hq
 unfold step GS
 by_cases hw:aD x.guard env=true
 ·rw[if_pos hw]
  simp only[hw,if_true]
  unfold fx
  split
  ·rename_i eS;simp[eS,iT.oK]at JQ
  ·rename_i eS;simp[eS,iT.oK]at JQ
  ·rename_i eS;simp[eS,iT.cls]at N3
  ·rename_i eS;simp[eS,iT.cls]at N3
  ·rename_i eS;simp[eS,iT.cls]at N3
  ·rename_i eS;simp[eS,iT.cls]at N3
  ·rename_i eS;simp[eS,iT.cls]at N3
  ·rename_i n1 n2 n3 n4 n5 n6 n7
   have hVS:∀v g',VS X σ.next x env σ.get v g'↔∃mr,eK x.op (dz env) (fF x.hid σ.next σ.get) ⟨x.site,σ.next⟩=some (v,mr)/\g'=kF σ.get ⟨x.site,σ.next⟩ mr:=fun v g'=>by
    unfold VS
    split
    ·rename_i hh;exact(n1 _ _ hh).elim
    ·rename_i hh;exact(n2 _ _ hh).elim
    ·rename_i hh;exact(n3 _ _ _ hh).elim
    ·rename_i hh;exact(n4 _ _ _ hh).elim
    ·rename_i hh;exact(n5 _ _ _ hh).elim
    ·rename_i hh;exact(n6 _ _ hh).elim
    ·rename_i hh;exact(n7 _ _ hh).elim
    ·exact Iff.rfl
   simp only[hVS]
   cases hz:eK x.op (dz env) (fF x.hid σ.next σ.get) ⟨x.site,σ.next⟩with
   |none=>
    exact⟨fun h=>h.elim,fun⟨v,g',⟨mr,h,_⟩,_⟩=>by cases h⟩
   |some p=>
    obtain⟨v,mr⟩:=p
    have key:∀(v':AV) (g':Rows),(∃XY,some (v,mr)=some (v',XY)/\g'=kF σ.get ⟨x.site,σ.next⟩ XY)↔v'=v/\g'=kF σ.get ⟨x.site,σ.next⟩ mr:=fun v' g'=>by
     constructor
     ·rintro⟨XY,h1,h2⟩
      injection h1 with h1;injection h1 with h1 h3
      subst h1;subst h3
      exact⟨rfl,h2⟩
     ·rintro⟨rfl,rfl⟩;exact⟨mr,rfl,rfl⟩
    have fin:(∃v' g',(∃XY,some (v,mr)=some (v',XY)/\g'=kF σ.get ⟨x.site,σ.next⟩ XY)/\N (upd env x.dst v') ⟨g',σ.next⟩)↔N (upd env x.dst v) ⟨kF σ.get ⟨x.site,σ.next⟩ mr,σ.next⟩:=by
     constructor
     ·rintro⟨v',g',h,hN⟩
      obtain⟨rfl,rfl⟩:=(key v' g').1 h
      exact hN
     ·intro hN;exact⟨v,_,(key _ _).2 ⟨rfl,rfl⟩,hN⟩
    cases mr with
    |none=>exact fin.symm
    |some r=>exact fin.symm
 ·rw[if_neg hw]
  simp only[if_neg hw]
  exact⟨fun h=>⟨_,_,⟨rfl,rfl⟩,h⟩,fun⟨v,g',⟨hv,hg⟩,h⟩=>by rw[hv,hg]at h;exact h⟩
def xv (x:bY) (env:Env) (v:AV):Prop:=if aD x.guard env then eK x.op (dz env) (fun _=>none) ⟨0,0⟩=some (v,none)else v=.undef
theorem AN {x:bY} (hp:x.op.cls=.pure):nA x=true:=by
 unfold nA
 rw[hp]
 cases hc:x.op<;>simp[hc,iT.cls]at hp<;>rfl
theorem xI {x:bY} (hp:x.op.cls=.pure) {N:Env->aw->Prop} {env:Env} {σ:aw}:step X x N env σ↔∃v,xv x env v/\N (upd env x.dst v) σ:=by
 rw[oG (AN hp)]
 unfold GS xv
 by_cases hw:aD x.guard env=true
 ·simp only[hw,if_true]
  constructor
  ·rintro⟨v,g',h,hN⟩
   obtain⟨rfl,eR⟩:=Db hp h
   refine⟨v,?_,hN⟩
   unfold VS at h
   split at h
   ·rename_i eS;rw[eS]at hp;simp[iT.cls]at hp
   ·rename_i eS;rw[eS]at hp;simp[iT.cls]at hp
   ·rename_i eS;rw[eS]at hp;simp[iT.cls]at hp
   ·rename_i eS;rw[eS]at hp;simp[iT.cls]at hp
   ·rename_i eS;rw[eS]at hp;simp[iT.cls]at hp
   ·rename_i eS;rw[eS]at hp;simp[iT.cls]at hp
   ·rename_i eS;rw[eS]at hp;simp[iT.cls]at hp
   ·obtain⟨mr,hq,_⟩:=h
    have hmr:mr=none:=by
     cases mr with
     |none=>rfl
     |some r=>have:=AP hq;simp[tY,hp]at this
    subst hmr
    rw[<-AQ (g:=fF x.hid σ.next σ.get) (id:=⟨x.site,σ.next⟩) hp];exact hq
  ·rintro⟨v,h,hN⟩
   exact⟨v,σ.get,TY (mr:=none) (by rw[AQ (g2:=fun _=>none) (id2:=⟨0,0⟩) hp];exact h),hN⟩
 ·simp only[if_neg hw]
  exact⟨fun⟨v,g',⟨hv,hg⟩,h⟩=>⟨v,hv,by rw[hg]at h;exact h⟩,fun⟨v,hv,h⟩=>⟨v,σ.get,⟨hv,rfl⟩,h⟩⟩
theorem PM {x:bY} {env j5:Env} {v:AV} (h:∀t∈x.ja,env t=j5 t) (hv:xv x env v):xv x j5 v:=by
 unfold xv at hv ⊢
 rw[<-pZ h,<-xz fun t ht=>h t (we ht)];exact hv
structure SG (x y:bY):Prop where
 xy:∀k,x.dst=some k->k∉y.ja
 yx:∀k,y.dst=some k->k∉x.ja
 dst:∀k,x.dst=some k->y.dst≠some k
theorem wm {x y:bY} (h:xK x y=true):SG x y:=by
 unfold xK at h
 simp only[Bool.and_eq_true]at h
 obtain⟨a1,a2⟩:=h
 refine⟨fun k hk=>?_,fun k hk=>?_,fun k hk=>?_⟩
 ·rw[hk]at a1;simp at a1;exact a1.1
 ·rw[hk]at a2;simpa using a2
 ·rw[hk]at a1;simp at a1;exact a1.2
theorem Cl {x y:bY} (h:Ck x y=true):(SG x y/\x.op.cls=.pure)∨(Hn x y/\nA x=true/\nA y=true):=by
 unfold Ck at h
 simp only[Bool.or_eq_true,Bool.and_eq_true,beq_iff_eq]at h
 rcases h with⟨h1,h2⟩|⟨⟨h1,h2⟩,h3⟩
 ·exact .inl ⟨wm h1,h2⟩
 ·exact .inr ⟨tK h1,h2,h3⟩
theorem FC {x y:bY} (h:Ck x y=true):nA x=true:=by
 rcases Cl h with h|h
 ·exact AN h.2
 ·exact h.2.1
theorem LZ (hK:tf X) {x y:bY} (hf:Ck x y=true) {N:Env->aw->Prop} {env:Env} {σ:aw} (h:step X x (fun e s=>step X y N e s) env σ):step X y (fun e s=>step X x N e s) env σ:=by
 rcases Cl hf with⟨F,hp⟩|⟨F,hx,hy⟩
 ·rw[xI hp]at h
  obtain⟨v,hx,h⟩:=h
  have Tl:=fun(v':AV)=>Bi (env:=env) (v:=v) (u:=v') F.dst
  have sk:=pz (env:=env) (v:=v) F.xy
  have back:∀(v':AV),xv x (upd env y.dst v') v:=fun v'=>PM (fun t ht=>(pz F.yx t ht).symm) hx
  unfold step at h ⊢
  rw[pZ sk]at h
  split at h
  ·rename_i hw
   rw[if_pos hw]
   refine G1 hK (fun v' σ' hN=>?_) (Mc (fun t ht=>sk t (we ht)) h)
   rw[Tl]at hN
   exact(xI hp).2 ⟨v,back v',hN⟩
  ·rename_i hw
   rw[if_neg hw]
   rw[Tl]at h
   exact(xI hp).2 ⟨v,back _,h⟩
 ·rw[oG hx]at h
  obtain⟨v,g1,h1,h⟩:=h
  rw[oG hy]at h
  obtain⟨v',g2,h2,h⟩:=h
  obtain⟨HR,q1,q2,q3⟩:=Jj F h1 h2
  rw[q3]at h
  exact(oG hy).2 ⟨v',HR,q1,(oG hx).2 ⟨v,g2,q2,h⟩⟩
def EB (X:im) (ops:Array Oper) (vl:List bY) (K:Env->aw->Prop):Nat->Array Bool->Env->aw->Prop
 |0,listed,env,σ=>Region.ready .any ops listed=[]/\K env ⟨σ.get,σ.next+1⟩
 |f+1,listed,env,σ=>(Region.ready .any ops listed=[]->K env ⟨σ.get,σ.next+1⟩)/\∀i∈Region.ready .any ops listed,∃vo,vl[i]? =some vo/\step X vo (fun e s=>EB X ops vl K f (listed.setIfInBounds i true) e s) env σ
theorem HL {ops:Array Oper} {vl:List bY} {bs:Array Nat} {listed:Array Bool} {i:Nat} (h:tJ ops vl bs listed i=true) (j:Nat):tJ ops vl bs (listed.setIfInBounds j true) i=true:=by
 unfold tJ at h ⊢
 split at h
 ·rename_i x hx
  simp only[List.all_eq_true,Bool.or_eq_true]at h ⊢
  intro k hk
  rcases h k hk with((h|h)|h)|h
  ·exact .inl (.inl (.inl (getD_set_true h)))
  ·exact .inl (.inl (.inr h))
  ·exact .inl (.inr h)
  ·exact .inr h
 ·cases h
theorem xS {ops:Array Oper} {vl:List bY} {listed:Array Bool} {i j:Nat} {vi:bY} (wG:DC ops listed) (h:tJ ops vl (kn ops) listed i=true) (hi:vl[i]? =some vi) (hr:i∈Region.ready .any ops listed) (hj:j∈Region.ready .any ops listed) (nN:j≠i):∃vj,vl[j]? =some vj/\Ck vi vj=true:=by
 unfold tJ at h
 rw[hi]at h
 simp only[List.all_eq_true,Bool.or_eq_true,beq_iff_eq]at h
 obtain⟨_,o,ho,_⟩:=mem_ready.1 hj
 rcases h j (List.mem_range.2 (Array.getElem?_eq_some_iff.1 ho).1)with((h|h)|h)|h
 ·rw[ki hj]at h;cases h
 ·exact absurd h nN
 ·have:=nC wG hj i h
  rw[ki hr]at this;cases this
 ·split at h
  ·rename_i y hy;exact⟨y,hy,h⟩
  ·cases h
theorem Ja (hK:tf X) {ops:Array Oper} {vl:List bY} {K:Env->aw->Prop} {i:Nat} {vi:bY} (hi:vl[i]? =some vi):∀(fuel:Nat) (listed:Array Bool) (env:Env) (σ:aw),
  DC ops listed->i∈Region.ready .any ops listed->tJ ops vl (kn ops) listed i=true->step X vi (fun e s=>EB X ops vl K fuel (listed.setIfInBounds i true) e s) env σ->EB X ops vl K (fuel+1) listed env σ:=by
 intro fuel
 induction fuel with
 |zero=>
  intro listed env σ wG hr jx H
  refine⟨fun h=>(by rw[h]at hr;cases hr),fun j hj=>?_⟩
  by_cases nN:j=i
  ·subst nN;exact⟨vi,hi,H⟩
  ·obtain⟨vj,Re,Y1⟩:=xS wG jx hi hr hj nN
   rw[oG (FC Y1)]at H
   obtain⟨v,g',_,H⟩:=H
   have:=ready_mono hj nN
   rw[H.1]at this;cases this
 |succ fuel ih=>
  intro listed env σ wG hr jx H
  refine⟨fun h=>(by rw[h]at hr;cases hr),fun j hj=>?_⟩
  by_cases nN:j=i
  ·subst nN;exact⟨vi,hi,H⟩
  ·obtain⟨vj,Re,Y1⟩:=xS wG jx hi hr hj nN
   refine⟨vj,Re,?_⟩
   have H2:step X vi (fun e s=>step X vj (fun e s=>EB X ops vl K fuel ((listed.setIfInBounds i true).setIfInBounds j true) e s) e s) env σ:=lJ hK (fun e s h=>by
    obtain⟨vj',DO,h'⟩:=h.2 j (ready_mono hj nN)
    rw[Re]at DO;injection DO with DO;subst DO
    exact h') H
   refine lJ hK (fun e s h=>?_) (LZ hK Y1 H2)
   refine ih _ _ _ (wG.list hj) (ready_mono hr (fun e=>nN e.symm)) (HL jx j) ?_
   rw[Array.setIfInBounds_comm _ _ nN]
   exact h
theorem xG {x:bY} (hg:x.guard=none) {N:Env->aw->Prop} {env:Env} {σ:aw}:step X x N env σ=fx X false x env σ (fun v σ'=>N (upd env x.dst v) σ'):=by
 unfold step
 rw[hg]
 simp[aD]
theorem IU {x y:bY} {t s sz:Nat} {ys:O} (hx:x.op=.append sz (.t t) ys) (hg:x.guard=none) (hf:JH s x y=true) {N:Env->aw->Prop} {env:Env} {σ:aw} (hl:RA t s ys env σ.next) (h:step X x (fun e s=>step X y N e s) env σ):
  step X y (fun e σ'=>RA t s ys e σ'.next/\step X x N e σ') env σ:=by
 unfold JH at hf
 simp only[Bool.and_eq_true,bne_iff_ne]at hf
 obtain⟨⟨⟨⟨⟨f1,hq⟩,f3⟩,f4⟩,f5⟩,f6⟩:=hf
 have F:=wm f1
 obtain⟨⟨len,ht⟩,hsrc⟩:=hl
 have Oa:∀k∈x.op.ja,∀v',upd env y.dst v' k=env k:=fun k hk v'=>pz (env:=env) (v:=v') F.yx k (we hk)
 have eA:t∈x.op.ja:=by rw[hx];simp[iT.ja,jo]
 have Hk:∀v',dz (upd env y.dst v') ys=dz env ys:=fun v'=>(db fun k hk=>by rw[Oa k (by rw[hx];simp[iT.ja,hk])]).symm
 rw[xG hg]at h
 unfold fx at h
 simp only[hx,fG]at h
 have ex:dz env (.t t)=.own ⟨s,σ.next⟩ 0 len:=ht
 rw[ex]at h
 cases hr:bq σ.get (dz env ys)with
 |none=>rw[hr]at h;exact h.elim
 |some rs=>
  rw[hr]at h
  simp only[Option.bind_some,aP]at h
  cases XB:σ.get ⟨s,σ.next⟩with
  |none=>rw[XB]at h;exact h.elim
  |some r=>
   rw[XB]at h
   simp only[Option.bind_some]at h
   split at h
   ·rename_i v g1 hv
    split at hv
    ·rename_i hcond
     simp only[Option.some.injEq,Prod.mk.injEq]at hv
     obtain⟨rfl,rfl⟩:=hv
     rw[oG hq]at h
     obtain⟨v',g2,hG,hN⟩:=h
     have Q5:(⟨y.site,σ.next⟩:Id)≠⟨s,σ.next⟩:=fun e=>f5 (by injection e)
     have NY:(⟨y.site,σ.next⟩:Id)≠⟨x.site,σ.next⟩:=fun e=>f6 (by injection e)
     replace hG:GS X σ.next y env (ck (cq σ.get ⟨s,σ.next⟩) ⟨x.site,σ.next⟩ ⟨true,sz,r.rows++rs⟩) v' g2:=zq (pz F.xy) hG
     have hvis:fF y.hid σ.next σ.get=fF y.hid σ.next (ck (cq σ.get ⟨s,σ.next⟩) ⟨x.site,σ.next⟩ ⟨true,sz,r.rows++rs⟩):=by
      cases hh:y.hid with
      |nil=>rw[hh]at f3;simp at f3
      |cons a l=>
       rw[hh]at f3 f4
       funext i
       show(if (a::l).contains i.site=true/\i.bt=σ.next then none else σ.get i)=if (a::l).contains i.site=true/\i.bt=σ.next then none else _
       by_cases h1:i=⟨x.site,σ.next⟩
       ·subst h1;rw[if_pos ⟨f4,rfl⟩,if_pos ⟨f4,rfl⟩]
       ·by_cases h2:i=⟨s,σ.next⟩
        ·subst h2;rw[if_pos ⟨f3,rfl⟩,if_pos ⟨f3,rfl⟩]
        ·simp only[ck,cq,if_neg h1,if_neg h2]
     obtain⟨my,Y8,hG'⟩:∃my,g2=kF (ck (cq σ.get ⟨s,σ.next⟩) ⟨x.site,σ.next⟩ ⟨true,sz,r.rows++rs⟩) ⟨y.site,σ.next⟩ my/\GS X σ.next y env σ.get v' (kF σ.get ⟨y.site,σ.next⟩ my):=by
      unfold GS at hG ⊢
      by_cases wy:aD y.guard env=true
      ·rw[if_pos wy]at hG
       have hcw:y.op.cls≠.write:=by
        unfold nA at hq
        simp only[Bool.and_eq_true,bne_iff_ne]at hq
        exact hq.2
       obtain⟨my,rfl,_,T6⟩:=zA hcw hG
       exact⟨my,rfl,by rw[if_pos wy];exact T6 _ hvis⟩
      ·rw[if_neg wy]at hG
       obtain⟨rfl,rfl⟩:=hG
       exact⟨none,rfl,by rw[if_neg wy];exact⟨rfl,rfl⟩⟩
     subst Y8
     refine(oG hq).2 ⟨v',_,hG',⟨⟨len,by rw[Oa t eA];exact ht⟩,fun id o l he=>hsrc id o l (by rw[<-Hk v'];exact he)⟩,?_⟩
     rw[xG hg]
     unfold fx
     have ex':dz (upd env y.dst v') (.t t)=.own ⟨s,σ.next⟩ 0 len:=by
      show upd env y.dst v' t= _
      rw[Oa t eA];exact ht
     simp only[hx,fG,ex',Hk v']
     have mj:bq (kF σ.get ⟨y.site,σ.next⟩ my) (dz env ys)=some rs:=by
      cases my with
      |none=>exact hr
      |some row=>
       revert hr
       cases hev:dz env ys<;>simp only[bq,kF]<;>try exact fun h=>h
       rename_i id o l
       have:id≠⟨y.site,σ.next⟩:=fun e=>hsrc id o l hev (by rw[e])
       simp only[ck,if_neg this];exact fun h=>h
     have hgs':kF σ.get ⟨y.site,σ.next⟩ my ⟨s,σ.next⟩=some r:=by
      cases my with
      |none=>exact XB
      |some row=>simp only[kF,ck,if_neg (fun e=>Q5 e.symm:(⟨s,σ.next⟩:Id)≠⟨y.site,σ.next⟩)];exact XB
     rw[mj]
     simp only[Option.bind_some,aP,hgs']
     rw[if_pos hcond]
     have Y9:ck (cq (kF σ.get ⟨y.site,σ.next⟩ my) ⟨s,σ.next⟩) ⟨x.site,σ.next⟩ ⟨true,sz,r.rows++rs⟩=kF (ck (cq σ.get ⟨s,σ.next⟩) ⟨x.site,σ.next⟩ ⟨true,sz,r.rows++rs⟩) ⟨y.site,σ.next⟩ my:=by
      cases my with
      |none=>rfl
      |some row=>
       funext i
       simp only[kF,ck,cq]
       by_cases h1:i=⟨y.site,σ.next⟩
       ·subst h1;rw[if_neg NY,if_neg Q5,if_pos rfl,if_pos rfl]
       ·simp only[if_neg h1]
     have hu:=Bi (env:=env) (v:=AV.own ⟨x.site,σ.next⟩ 0 (len+rs.length)) (u:=v') F.dst
     show N (upd (upd env y.dst v') x.dst (.own ⟨x.site,σ.next⟩ 0 (len+rs.length))) ⟨ck (cq (kF σ.get ⟨y.site,σ.next⟩ my) ⟨s,σ.next⟩) ⟨x.site,σ.next⟩ ⟨true,sz,r.rows++rs⟩,σ.next⟩
     rw[Y9,<-hu]
     exact hN
    ·cases hv
   ·exact h.elim
theorem HK {ops:Array Oper} {vl:List bY} {bs:Array Nat} {listed:Array Bool} {i s:Nat} (h:re ops vl bs listed i s=true) (j:Nat):re ops vl bs (listed.setIfInBounds j true) i s=true:=by
 unfold re at h ⊢
 split at h
 ·rename_i x hx
  simp only[List.all_eq_true,Bool.or_eq_true]at h ⊢
  intro k hk
  rcases h k hk with((h|h)|h)|h
  ·exact .inl (.inl (.inl (getD_set_true h)))
  ·exact .inl (.inl (.inr h))
  ·exact .inl (.inr h)
  ·exact .inr h
 ·cases h
theorem Fy {ops:Array Oper} {vl:List bY} {listed:Array Bool} {i j s:Nat} {vi:bY} (wG:DC ops listed) (h:re ops vl (kn ops) listed i s=true) (hi:vl[i]? =some vi) (hr:i∈Region.ready .any ops listed) (hj:j∈Region.ready .any ops listed) (nN:j≠i):∃vj,vl[j]? =some vj/\JH s vi vj=true:=by
 unfold re at h
 rw[hi]at h
 simp only[List.all_eq_true,Bool.or_eq_true,beq_iff_eq]at h
 obtain⟨_,o,ho,_⟩:=mem_ready.1 hj
 rcases h j (List.mem_range.2 (Array.getElem?_eq_some_iff.1 ho).1)with((h|h)|h)|h
 ·rw[ki hj]at h;cases h
 ·exact absurd h nN
 ·have:=nC wG hj i h
  rw[ki hr]at this;cases this
 ·split at h
  ·rename_i y hy;exact⟨y,hy,h⟩
  ·cases h
theorem G2 (hK:tf X) {ops:Array Oper} {vl:List bY} {K:Env->aw->Prop} {i t s sz:Nat} {ys:O} {vi:bY} (hi:vl[i]? =some vi) (hx:vi.op=.append sz (.t t) ys) (hg:vi.guard=none):∀(fuel:Nat) (listed:Array Bool) (env:Env) (σ:aw),
  DC ops listed->i∈Region.ready .any ops listed->re ops vl (kn ops) listed i s=true->RA t s ys env σ.next->step X vi (fun e s=>EB X ops vl K fuel (listed.setIfInBounds i true) e s) env σ->EB X ops vl K (fuel+1) listed env σ:=by
 intro fuel
 induction fuel with
 |zero=>
  intro listed env σ wG hr jx XF H
  refine⟨fun h=>(by rw[h]at hr;cases hr),fun j hj=>?_⟩
  by_cases nN:j=i
  ·subst nN;exact⟨vi,hi,H⟩
  ·exfalso
   have h0:=ready_mono hj nN
   rw[xG hg]at H
   unfold fx at H
   simp only[hx]at H
   split at H
   ·rw[H.1]at h0;cases h0
   ·exact H
 |succ fuel ih=>
  intro listed env σ wG hr jx XF H
  refine⟨fun h=>(by rw[h]at hr;cases hr),fun j hj=>?_⟩
  by_cases nN:j=i
  ·subst nN;exact⟨vi,hi,H⟩
  ·obtain⟨vj,Re,Y1⟩:=Fy wG jx hi hr hj nN
   refine⟨vj,Re,?_⟩
   have H2:step X vi (fun e s=>step X vj (fun e s=>EB X ops vl K fuel ((listed.setIfInBounds i true).setIfInBounds j true) e s) e s) env σ:=lJ hK (fun e s h=>by
    obtain⟨vj',DO,h'⟩:=h.2 j (ready_mono hj nN)
    rw[Re]at DO;injection DO with DO;subst DO
    exact h') H
   refine lJ hK (fun e s h=>?_) (IU hx hg Y1 XF H2)
   refine ih _ _ _ (wG.list hj) (ready_mono hr (fun e=>nN e.symm)) (HK jx j) h.1 ?_
   rw[Array.setIfInBounds_comm _ _ nN]
   exact h.2
theorem Oz {ops:Array Oper} {vl:List bY} {bs:Array Nat} {listed:Array Bool} {i i' t s:Nat} {y:O} {vo:bY} (h:VL ops vl bs listed i=some (i',t,s,y,vo)):i'=i/\vl[i]? =some vo/\(∃sz,vo.op=.append sz (.t t) y)/\vo.guard=none/\re ops vl bs listed i s=true:=by
 unfold VL at h
 split at h
 ·rename_i x hx
  split at h
  ·rename_i t' s' y' kN
   split at h
   ·rename_i hf
    simp only[Option.some.injEq,Prod.mk.injEq]at h
    obtain⟨rfl,rfl,rfl,rfl,rfl⟩:=h
    unfold Tp at kN
    split at kN
    ·rename_i sz t2 y2 ho qL
     split at kN
     ·simp only[Option.some.injEq,Prod.mk.injEq]at kN
      obtain⟨rfl,rfl,rfl⟩:=kN
      exact⟨rfl,hx,⟨sz,ho⟩,qL,hf⟩
     ·cases kN
    ·cases kN
   ·cases h
  ·cases h
 ·cases h
theorem Ca {X:im} {Q:Ex->Env->aw->Prop} {env:Env} {σ:aw}:∀{l:List VC} {t:VC},Ff l=some t->eu X t Q env σ->∀c∈l,eu X c Q env σ
 |[],t,h,_,c,hc=>by cases hc
 |[c0],t,h,hw,c,hc=>by
  simp only[Ff,Option.some.injEq]at h
  subst h
  rw[List.mem_singleton]at hc
  subst hc;exact hw
 |c0::c1::r,t,h,hw,c,hc=>by
  simp only[Ff,Option.map_eq_some_iff]at h
  obtain⟨t',Vu,rfl⟩:=h
  rcases List.mem_cons.1 hc with rfl|hc
  ·exact hw.1
  ·exact Ca Vu hw.2 c hc
theorem mapM_mem {α β:Type} {f:α->Option β}:∀{l:List α} {r:List β},l.mapM f=some r->∀i∈l,∃b∈r,f i=some b
 |[],_,_,i,hi=>by cases hi
 |a::l,r,h,i,hi=>by
  simp only[List.mapM_cons,Option.bind_eq_bind,Option.bind_eq_some_iff,Option.pure_def,Option.some.injEq]at h
  obtain⟨b,hb,r',hr,rfl⟩:=h
  rcases List.mem_cons.1 hi with rfl|hi
  ·exact⟨b,by simp,hb⟩
  ·obtain⟨c,hc,hf⟩:=mapM_mem hr i hi
   exact⟨c,List.mem_cons_of_mem _ hc,hf⟩
theorem L7 (hK:tf X) {ops:Array Oper} {vl:List bY} {Q:Ex->Env->aw->Prop}:∀(n:Nat) (listed:Array Bool) (t:VC) (env:Env) (σ:aw),yw ops vl (kn ops) n listed=some t->DC ops listed->eu X t Q env σ->EB X ops vl (Q .normal) n listed env σ:=by
 intro n
 induction n with
 |zero=>
  intro listed t env σ h _ hw
  unfold yw at h
  split at h
  ·rename_i hr
   simp only[Option.some.injEq]at h
   subst h
   exact⟨hr,hw⟩
  ·cases h
 |succ n ih=>
  intro listed t env σ h wG hw
  unfold yw at h
  split at h
  ·rename_i hr
   simp only[Option.some.injEq]at h
   subst h
   exact⟨fun _=>hw,fun i hi=>by rw[hr]at hi;cases hi⟩
  ·rename_i r rs hr
   dsimp only at h
   split at h
   ·rename_i i hfind
    have QX:=List.mem_of_find?_eq_some hfind
    have th:=List.find?_some hfind
    rw[<-hr]at QX
    split at h
    ·rename_i vo mO
     simp only[Option.map_eq_some_iff]at h
     obtain⟨t',Vu,rfl⟩:=h
     exact Ja hK mO n listed env σ wG QX th (lJ hK (fun e s h=>ih _ _ _ _ Vu (wG.list QX) h) hw)
    ·cases h
   ·split at h
    ·rename_i i t s y vo hfind
     obtain⟨i0,Mu,eP⟩:=List.exists_of_findSome?_eq_some hfind
     obtain⟨rfl,mO,⟨sz,eS⟩,qL,K5⟩:=Oz eP
     rw[<-hr]at Mu
     simp only[Option.map_eq_some_iff]at h
     obtain⟨t',Vu,rfl⟩:=h
     exact G2 hK mO eS qL n listed env σ wG Mu K5 hw.1 (lJ hK (fun e s h=>ih _ _ _ _ Vu (wG.list Mu) h) hw.2)
    split at h
    ·rename_i l hl
     have eR:=Ca h hw
     refine⟨fun h=>(by rw[h]at hr;cases hr),fun i hi=>?_⟩
     rw[hr]at hi
     obtain⟨b,Mp,EK⟩:=mapM_mem hl i hi
     simp only[Option.bind_eq_some_iff,Option.map_eq_some_iff]at EK
     obtain⟨vo,mO,t',Vu,rfl⟩:=EK
     exact⟨vo,mO,lJ hK (fun e s h=>ih _ _ _ _ Vu (wG.list (by rw[hr];exact hi)) h) (eR _ Mp)⟩
    ·cases h
theorem I0 {ops:Array Oper} {vl:List bY} {nt site0:Nat} {draw mk:Bool} {bs:Array Nat} {hidden:List (Nat×Bool)} {K:Env->aw->Prop} {Q:Exit->Act->World->Prop} (eR:allM (mY P ops nt site0 draw mk bs hidden) ops.toList 0=some vl):
  ∀(fuel:Nat) (listed:Array Bool) (env:Env) (σ:aw) (a:Act) (w:World) (D:Nat->Prop) (ι:Names) (U:Nat->Prop),EB (Sound P) ops vl K fuel listed env σ->iD P hs D ι σ.get w->Used ι σ.next U->(∀s,U s->∃i,s=site0+i/\listed.getD i false=true)->dy P w D ι env a->a.tmps.size=nt->
  (∀jQ σ' a' w' D' ι',K jQ σ'->Step hs D ι w D' ι' w'->St P hs nt D' ι' jQ σ' a' w'->a'.defers=a.defers->σ.next<=σ'.next->Q .normal a' w')->wpAny P .any ops Q fuel listed a w:=by
 intro fuel
 induction fuel with
 |zero=>intro listed env σ a w D ι U h S Us hU E eY hQ;exact⟨h.1,hQ env _ a w D ι h.2 (Step.refl _ _ _ _) ⟨S,Us.next,E,eY⟩ rfl (Nat.le_succ _)⟩
 |succ fuel ih=>
  intro listed env σ a w D ι U h S Us hU E eY hQ
  refine⟨fun hr=>hQ env _ a w D ι (h.1 hr) (Step.refl _ _ _ _) ⟨S,Us.next,E,eY⟩ rfl (Nat.le_succ _),fun i hi=>?_⟩
  obtain⟨vo,mO,hG⟩:=h.2 i hi
  obtain⟨_,o,ho,_⟩:=mem_ready.1 hi
  obtain⟨vo',pc,YU⟩:=(qQ eR).2 i o (by simpa using ho)
  rw[mO]at pc;injection pc with pc;subst pc
  rw[Nat.zero_add]at YU
  obtain⟨hc,hd,F4,BE,hg⟩:=sa YU
  have hw:=xM (ops:=ops) (vo:=vo) E hg
  have hUi:¬U vo.site:=fun hu=>by
   obtain⟨i',he,hl⟩:=hU _ hu
   have:i'=i:=ad
   subst this
   rw[ki hi]at hl;cases hl
  have ll:i<listed.size:=by
   have h0:=(mem_ready.1 hi).1
   rcases Nat.lt_or_ge i listed.size with h|h
   ·exact h
   ·simp[Array.getElem?_eq_none h]at h0
  unfold wpOp
  simp only[ho]
  rw[<-hw]
  unfold step at hG
  by_cases K9:aD vo.guard env=true
  ·rw[if_pos K9]
   rw[if_pos K9]at hG
   refine .inl (C5 hc hG S Us hUi E fun v σ' u D' ι' w' hn T S' hR U' hle=>?_)
   refine ih _ _ _ _ w' D' ι' _ hn S' U' (fun s F1=>?_) (by rw[hd];exact jF (qZ E T) hR BE eY) (by rw[gp];exact eY) fun jQ σ2 a2 w2 D2 ι2 hk T2 Vs HZ pM=>hQ jQ σ2 a2 w2 D2 ι2 hk (T.trans T2) Vs (HZ.trans (put_defers _ _ _)) (Nat.le_trans hle pM)
   rcases F1 with h|h
   ·obtain⟨i',he,hl⟩:=hU _ h
    exact⟨i',he,getD_set_true hl⟩
   ·exact⟨i,by rw[h,F4],by simp[ll]⟩
  ·rw[if_neg K9]
   rw[if_neg K9]at hG
   refine ih _ _ _ _ w D ι U hG S Us (fun s F1=>?_) (by rw[hd];exact jF E dZ.undef BE eY) (by rw[gp];exact eY) fun jQ σ2 a2 w2 D2 ι2 hk T2 Vs HZ pM=>hQ jQ σ2 a2 w2 D2 ι2 hk T2 Vs (HZ.trans (put_defers _ _ _)) pM
   obtain⟨i',he,hl⟩:=hU _ F1
   exact⟨i',he,getD_set_true hl⟩
end
end Go.Proofs.YtoodopepphhpoaaGreatDoor.V

namespace Go.Proofs.YtoodopepphhpoaaGreatDoor.V
open Go.RowKit
variable {P:Program} {w w':World} {D D' D2:Nat->Prop} {ι ι' ι2:Names}
def B3 (P:Program) (c:Code) (Q:Exit->Act->World->Prop) (a:Act) (w:World):Prop:=
 ∀(b:Frame) (k:List Item) (cs:List Frame),b.kind≠.early->∃e a' w',Q e a' w'/\Arrives P (lone (b.at a (.code c::k)) cs w) b k cs e a' w'
section
variable {Q:Exit->Act->World->Prop} {a:Act}
theorem lG {c:Code} (h:c.wp P Q a w):B3 P c Q a w:=fun b k cs _=>h b k cs
theorem oE {x y:Code} (h:B3 P x (Exit.then (B3 P y Q) Q) a w):B3 P (.seq x y) Q a w:=by
 intro b k cs hb
 obtain⟨e,a1,w1,hq,jR⟩:=h b (.code y::k) cs hb
 by_cases he:e=.normal
 ·subst he
  obtain⟨e2,a2,w2,N3,NJ⟩:=hq b k cs hb
  exact⟨e2,a2,w2,N3,.of_steps (.head step_seq jR) NJ⟩
 ·refine⟨e,a1,w1,?_,.of_steps (.one step_seq) (.pass (x:=.code y) rfl (fun _ _=>.inl he) jR)⟩
  cases e<;>first|exact absurd rfl he|exact hq
theorem AG {c:Operand} {x y:Code} {t:Bool} (hc:a.eval c=.bool t) (h:B3 P (if t then x else y) Q a w):B3 P (.cond c x y) Q a w:=
 fun b k cs hb=>let ⟨e,a',w',q,r⟩:=h b k cs hb;⟨e,a',w',q,.of_steps (.one (step_cond hc)) r⟩
theorem xu {id:Nat} {c:Code} (h:B3 P c (Exit.inBlock id Q) a w):B3 P (.block id c) Q a w:=by
 intro b k cs hb
 obtain⟨e,a1,w1,hq,jR⟩:=h b (.inBlock id::k) cs hb
 cases e with
 |normal=>exact⟨.normal,a1,w1,hq,.head step_block (Steps.trans jR (.one step_inBlock))⟩
 |exit lz=>
  by_cases hid:lz=id
  ·simp only[Exit.inBlock,hid,if_true]at hq
   exact⟨.normal,a1,w1,hq,.head step_block (jR k (by simp[exitTo,hid]))⟩
  ·simp only[Exit.inBlock,hid,if_false]at hq
   exact⟨.exit lz,a1,w1,hq,fun k' hk=>.head step_block (jR k' (by simp[exitTo,Ne.symm hid,hk]))⟩
 |goto l=>exact⟨_,a1,w1,hq,fun k' hk=>.head step_block (jR k' (by simp[gotoIn,hk]))⟩
 |ret=>exact⟨_,a1,w1,hq,.of_steps (.one step_block) jR⟩
 |panic ch=>exact⟨_,a1,w1,hq,.of_steps (.one step_block) jR⟩
 |outgrown=>exact⟨_,a1,w1,hq,.of_steps (b:=b) (k:=k) (cs:=cs) (e:=.outgrown) (.one step_block) jR⟩
theorem LG {c:Code} (h:B3 P c (Exit.noGoto Q) a w):B3 P (.scope c) Q a w:=by
 intro b k cs hb
 obtain⟨e,a1,w1,hq,jR⟩:=h b (.inScope c::k) cs hb
 cases e with
 |normal=>exact⟨.normal,a1,w1,hq,.head step_scope (Steps.trans jR (.one step_inScope))⟩
 |exit id=>exact⟨.exit id,a1,w1,hq,fun k' hk=>.head step_scope (jR k' (by simp[exitTo,hk]))⟩
 |goto l=>exact hq.elim
 |ret=>exact⟨_,a1,w1,hq,.of_steps (.one step_scope) jR⟩
 |panic ch=>exact⟨_,a1,w1,hq,.of_steps (.one step_scope) jR⟩
 |outgrown=>exact⟨_,a1,w1,hq,.of_steps (b:=b) (k:=k) (cs:=cs) (e:=.outgrown) (.one step_scope) jR⟩
def sC (P:Program) (c:Code) (Q:Exit->Act->World->Prop):Nat->Act->World->Prop
 |0=>fun _ _=>False
 |n+1=>B3 P c (Exit.then (sC P c Q n) Q)
theorem GC {c:Code} (n:Nat) (h:sC P c Q n a w):B3 P (.loop c) Q a w:=by
 intro b k cs hb
 have key:∀n a w,sC P c Q n a w->∃e a' w',Q e a' w'/\Arrives P (lone (b.at a (.code c::.inLoop c::k)) cs w) b k cs e a' w':=by
  intro n
  induction n with
  |zero=>intro a w h;exact h.elim
  |succ n ih=>
   intro a w h
   obtain⟨e,a1,w1,hq,jR⟩:=h b (.inLoop c::k) cs hb
   by_cases he:e=.normal
   ·subst he
    obtain⟨e2,a2,w2,N3,NJ⟩:=ih a1 w1 hq
    exact⟨e2,a2,w2,N3,.of_steps (Steps.trans jR (.one step_inLoop)) NJ⟩
   ·refine⟨e,a1,w1,?_,.pass (x:=.inLoop c) rfl (fun _ _=>.inl he) jR⟩
    cases e<;>first|exact absurd rfl he|exact hq
 obtain⟨e,a',w',hq,jR⟩:=key n a w h
 exact⟨e,a',w',hq,.of_steps (.one step_loop) jR⟩
theorem Dj {f:FuncId} {fn:Func} {c:Code} {args:Array Value} {R:Ending->World->Prop} (hf:P.funcs[f]? =some fn) (hb:fn.body=some c)
  (h:B3 P c (bodyPost P fn R) {tmps:=args++Array.replicate (fn.ntmps-args.size) undef,defers:=[]} w):Calls P f args w R:=by
 intro cs
 have UZ:Frame.enter P f args .normal=({(default:Frame)with fn:=f,kind:=.normal}:Frame).at {tmps:=args++Array.replicate (fn.ntmps-args.size) undef,defers:=[]} [.code c]:=by simp[Frame.enter,Frame.at,hf,hb]
 obtain⟨e,a',w',hq,jR⟩:=h {(default:Frame)with fn:=f,kind:=.normal} [] cs (by simp)
 rw[<-UZ]at jR
 cases e with
 |normal=>obtain⟨hd,v,hr,hR⟩:=hq;exact⟨.returned v,w',_,hR,Steps.trans jR (.one step_end),rfl,rfl,hd,rfl,fn,hf,hr⟩
 |ret=>obtain⟨hd,v,hr,hR⟩:=hq;obtain⟨todo,hs⟩:=jR;exact⟨.returned v,w',_,hR,hs,rfl,rfl,hd,rfl,fn,hf,hr⟩
 |panic chain=>obtain⟨hd,hR⟩:=hq;obtain⟨todo,hs⟩:=jR;exact⟨.panicked chain,w',_,hR,hs,rfl,rfl,hd,fn,hf⟩
 |exit id=>exact hq.elim
 |goto l=>exact hq.elim
 |outgrown=>exact⟨.outgrown,w',{(default:Frame)with fn:=f,kind:=.normal},hq,jR.resolve_left (by simp),rfl,trivial⟩
def Bu (P:Program) (ops:Array Oper) (Q:Exit->Act->World->Prop) (l:List Nat) (a:Act) (w:World):Prop:=
 ∀(b:Frame) (k:List Item) (cs:List Frame),b.kind≠.early->∃e a' w',Q e a' w'/\Arrives P (lone (b.at a (.inRegion ops l::k)) cs w) b k cs e a' w'
theorem Iw {id:Nat} {ops:Array Oper} (h:Bu P ops Q (List.range ops.size) a w):B3 P (.region id ops false) Q a w:=
 fun b k cs hb=>let ⟨e,a',w',q,r⟩:=h b k cs hb;⟨e,a',w',q,.of_steps (.one step_region) r⟩
theorem VY {ops:Array Oper} (h:Q .normal a w):Bu P ops Q [] a w:=fun _ _ _ _=>⟨.normal,a,w,h,.one step_region_end⟩
theorem rX {o:Oper} {ys:Nat->Option Bool} (h:o.guard=none):Region.wanted o ys=true:=by simp[Region.wanted,h]
theorem OR {ops:Array Oper} {i:Nat} {rest:List Nat} {o:Oper} {v:Value} (ho:ops[i]? =some o) (hg:o.guard=none) (hr:(execOp a.eval o).run P w=.ok (.value v) w') (h:Bu P ops Q rest (a.put o.dst v) w'):Bu P ops Q (i::rest) a w:=by
 intro b k cs hb
 obtain⟨e,a',w2,hq,jR⟩:=h b k cs hb
 refine⟨e,a',w2,hq,.of_steps (.one ?_) jR⟩
 have xf:(b.at a (.inRegion ops (i::rest)::k)).finish v=b.at (a.put o.dst v) (.inRegion ops rest::k):=by rw[Frame.finish_at,ho];rfl
 rw[<-xf]
 refine step_lone_go ?_
 have h2:=stepG_op (P:=P) (b:=b) (k:=k) (cs:=cs) (w:=w) (rest:=rest) ho (rX hg (ys:=yielded ops a.tmps))
 rw[h2];simp[stepG.apply,hr]
theorem RU {ops:Array Oper} {i:Nat} {rest:List Nat} {o:Oper} {v z:Value} {c cap s r:Nat} {buf:Array Value} (ho:ops[i]? =some o) (hg:o.guard=none) (hr:(execOp a.eval o).run P w=.ok (.comm #[Conc.scase c v z] true .send) w)
  (hc:w.heap[c]? =some (.chan cap buf false s r false)) (gM:buf.size<cap) (h:Bu P ops Q rest (a.put o.dst undef) (w.setChan c cap (buf.push v) false (s+1) r false)):Bu P ops Q (i::rest) a w:=by
 intro b k cs hb
 obtain⟨e,a',w2,hq,jR⟩:=h b k cs hb
 refine⟨e,a',w2,hq,.of_steps (.one ?_) jR⟩
 have xf:(b.at a (.inRegion ops (i::rest)::k)).finish undef=b.at (a.put o.dst undef) (.inRegion ops rest::k):=by rw[Frame.finish_at,ho];rfl
 rw[<-xf,Conc.lone_eq_solo,Conc.lone_eq_solo]
 exact Conc.step_lone_send_room (Conc.stepG_comm ho (rX hg) hb hr) hc gM
theorem RT {ops:Array Oper} {i:Nat} {rest:List Nat} {o:Oper} {z:Value} {c cap s r:Nat} {buf:Array Value} (ho:ops[i]? =some o) (hg:o.guard=none) (hr:(execOp a.eval o).run P w=.ok (.comm #[Conc.rcase c z] true (.recv false)) w)
  (hc:w.heap[c]? =some (.chan cap buf false s r false)) (F5:0<buf.size) (h:Bu P ops Q rest (a.put o.dst (buf.getD 0 undef)) (w.setChan c cap (buf.extract 1 buf.size) false s (r+1) false)):Bu P ops Q (i::rest) a w:=by
 intro b k cs hb
 obtain⟨e,a',w2,hq,jR⟩:=h b k cs hb
 refine⟨e,a',w2,hq,.of_steps (.one ?_) jR⟩
 have xf:(b.at a (.inRegion ops (i::rest)::k)).finish (buf.getD 0 undef)=b.at (a.put o.dst (buf.getD 0 undef)) (.inRegion ops rest::k):=by rw[Frame.finish_at,ho];rfl
 rw[<-xf,Conc.lone_eq_solo,Conc.lone_eq_solo]
 exact Conc.step_lone_recv_buf false (Conc.stepG_comm ho (rX hg) hb hr) hc F5
end
section
variable {hs:Nat} {g:Rows} {env:Env} {a:Act} {o:Oper}
theorem Rp {x y:O} (hc:uv P o.op=some (.snd x y)):∃x' y',o.op=.send x' y'/\cO P x'=some x/\cO P y'=some y:=by
 unfold uv at hc
 split at hc
 case h_26=>
  rename_i x' y' h
  simp only[Option.bind_eq_bind,Option.bind_eq_some_iff,Option.pure_def,Option.some.injEq,iT.snd.injEq]at hc
  obtain⟨p,h1,q,h2,rfl,rfl⟩:=hc
  exact⟨_,_,h,h1,h2⟩
 all_goals (try unfold qd at hc)<;>(try unfold zF at hc)<;>(try unfold wQ at hc)<;>(repeat' (split at hc))<;>(simp only[Option.bind_eq_bind,Option.bind_eq_some_iff,Option.pure_def,Option.some.injEq,Option.map_eq_some_iff,reduceCtorEq,and_false,exists_false]at hc)
theorem Ro {x:O} (hc:uv P o.op=some (.V1 x)):∃t dir e i z x',o.op=.recv t x' false/\P.underlying t=some (.chan dir e)/\P.info? e=some i/\i.zero=some z/\cO P x'=some x:=by
 unfold uv at hc
 split at hc
 case h_27=>
  rename_i t x' h
  split at hc
  ·rename_i dir e ht
   split at hc
   ·rename_i z hz
    simp only[Option.bind_eq_some_iff]at hz
    obtain⟨i,hi,hz⟩:=hz
    simp only[Option.map_eq_some_iff,iT.V1.injEq]at hc
    obtain⟨p,h1,rfl⟩:=hc
    exact⟨t,dir,e,i,z,x',h,ht,hi,hz,h1⟩
   ·cases hc
  ·cases hc
 all_goals (try unfold qd at hc)<;>(try unfold zF at hc)<;>(try unfold wQ at hc)<;>(repeat' (split at hc))<;>(simp only[Option.bind_eq_bind,Option.bind_eq_some_iff,Option.pure_def,Option.some.injEq,Option.map_eq_some_iff,reduceCtorEq,and_false,exists_false]at hc)
theorem Yk {x y:O} {g':Rows} (S:iD P hs D ι g w) (hc:uv P o.op=some (.snd x y)) (E:dy P w D ι env a) (hv:dY g (dz env x) (dz env y)=some g'):
  ∃c cap s r buf u,(execOp a.eval o).run P w=.ok (.comm #[Conc.scase c u (.tuple #[])] true .send) w/\w.heap[c]? =some (.chan cap buf false s r false)/\buf.size<cap/\iD P hs D ι g' (w.setChan c cap (buf.push u) false (s+1) r false)/\Step hs D ι w D ι (w.setChan c cap (buf.push u) false (s+1) r false):=by
 obtain⟨x',y',ho,hx,hy⟩:=Rp hc
 have rx:=ew E hx
 have ry:=ew E hy
 unfold dY at hv
 split at hv
 ·rename_i i he
  simp only[Option.bind_eq_some_iff]at hv
  obtain⟨r,hg,hv⟩:=hv
  split at hv
  ·rename_i hcond
   simp only[Option.some.injEq]at hv
   subst hv
   obtain⟨B,c,hu,hB,hk,eY,buf,s,q,hb,P0,hR⟩:=Dk S rx he hg
   obtain⟨B',eE,RR,_⟩:=S.row i r hg
   rw[hB]at eE;injection eE with eE;subst eE
   have qE:=S.BV (ob:=.chan c (buf.push (a.eval y')) false (s+1) q false) (r':={r with rows:=r.rows++[[dz env y]]}) hg hcond.1 hB fun hr mi=>⟨RR.sz,fun cs eD=>?_,fun h0=>(by rw[hk]at h0;cases h0),fun m hm=>(by rw[hk]at hm;cases hm),fun c' mh=>?_⟩
   ·exact⟨B.b,c,s,q,buf,a.eval y',by simp[execOp,ho,hu,Conc.scase],hb,by rw[P0];omega,qE.1,qE.2⟩
   ·rcases List.mem_append.1 eD with h|h
    ·exact RR.flat cs h
    ·rw[List.mem_singleton.1 h]
     intro b xd
     rw[List.mem_singleton.1 xd];exact hcond.2.2
   ·rw[hk]at mh
    simp only[Option.some.injEq,BK.chan.injEq]at mh
    subst mh
    refine⟨eY,_,_,_,mi,by simp[P0],fun j cs hj=>?_⟩
    rw[List.getElem?_append]at hj
    split at hj
    ·rename_i eP
     obtain⟨b,u,q1,q2,q3⟩:=hR j cs hj
     refine⟨b,u,q1,?_,hr _ _ q3⟩
     rw[Array.getElem?_push,if_neg ad];exact q2
    ·rename_i nk
     have iP:j=r.rows.length:=by
      have:=(List.getElem?_eq_some_iff.1 hj).1
      simp at this;omega
     subst iP
     simp at hj
     subst hj
     exact⟨_,_,rfl,by rw[Array.getElem?_push,if_pos P0.symm],hr _ _ ry⟩
  ·cases hv
 ·cases hv
theorem Yj {x:O} {g':Rows} {v:AV} (S:iD P hs D ι g w) (hc:uv P o.op=some (.V1 x)) (E:dy P w D ι env a) (hv:dX g (dz env x)=some (v,g')):
  ∃c cap s r buf z,(execOp a.eval o).run P w=.ok (.comm #[Conc.rcase c z] true (.recv false)) w/\w.heap[c]? =some (.chan cap buf false s r false)/\0<buf.size/\iD P hs D ι g' (w.setChan c cap (buf.extract 1 buf.size) false s (r+1) false)/\Step hs D ι w D ι (w.setChan c cap (buf.extract 1 buf.size) false s (r+1) false)/\dZ P (w.setChan c cap (buf.extract 1 buf.size) false s (r+1) false) D ι v (buf.getD 0 undef):=by
 obtain⟨t,dir,e,i0,z,x',ho,ht,hi,hz,hx⟩:=Ro hc
 have rx:=ew E hx
 unfold dX at hv
 split at hv
 ·rename_i i he
  simp only[Option.bind_eq_some_iff]at hv
  obtain⟨r,hg,hv⟩:=hv
  split at hv
  ·rename_i v' rest lv
   split at hv
   ·rename_i hcond
    simp only[Option.some.injEq,Prod.mk.injEq]at hv
    obtain⟨rfl,rfl⟩:=hv
    obtain⟨B,c,hu,hB,hk,eY,buf,s,q,hb,P0,hR⟩:=Dk S rx he hg
    obtain⟨B',eE,RR,_⟩:=S.row i r hg
    rw[hB]at eE;injection eE with eE;subst eE
    obtain⟨b0,u0,q1,q2,q3⟩:=hR 0 [v'] (by rw[lv];rfl)
    simp only[List.cons.injEq,and_true]at q1
    subst q1
    have lX:0<buf.size:=by rw[P0,lv];simp
    have hu0:buf.getD 0 undef=u0:=by rw[Array.getD_eq_getD_getElem?,q2];rfl
    have qE:=S.BV (ob:=.chan c (buf.extract 1 buf.size) false s (q+1) false) (r':={r with rows:=rest}) hg hcond hB fun hr mi=>⟨RR.sz,fun cs eD=>RR.flat cs (by rw[lv];exact List.mem_cons_of_mem _ eD),fun h0=>(by rw[hk]at h0;cases h0),fun m hm=>(by rw[hk]at hm;cases hm),fun c' mh=>?_⟩
    ·refine⟨B.b,c,s,q,buf,z,?_,hb,lX,qE.1,qE.2,?_⟩
     ·have Al:(zeroValue e).run P w=.ok z w:=by simp[zeroValue,typeInfo,hi,hz]
      simp[execOp,ho,hu,Conc.rcase,run_underlying ht,Al]
     ·rw[hu0];exact qE.2.rep q3
    ·rw[hk]at mh
     simp only[Option.some.injEq,BK.chan.injEq]at mh
     subst mh
     refine⟨eY,_,_,_,mi,by simp[P0,lv],fun j cs hj=>?_⟩
     obtain⟨b,u,k1,k2,k3⟩:=hR (j+1) cs (by rw[lv];simpa using hj)
     refine⟨b,u,k1,?_,hr _ _ k3⟩
     have eP:=(Array.getElem?_eq_some_iff.1 k2).1
     rw[Array.getElem?_extract,if_pos ad,Nat.add_comm 1 j];exact k2
   ·cases hv
  ·cases hv
 ·cases hv
theorem KI {ops:Array Oper} {nt site0:Nat} {K:Env->aw->Prop} {Q:Exit->Act->World->Prop}:∀(l:List Oper) (vl:List bY) (j:Nat) (env:Env) (σ:aw) (a:Act) (w:World) (D:Nat->Prop) (ι:Names),
  ops.toList.drop j=l->allM (mY P ops nt site0 false false #[] []) l j=some vl->cD vl K env σ->iD P hs D ι σ.get w->Used ι σ.next (fun _=>False)->dy P w D ι env a->a.tmps.size=nt->
  (∀jQ σ' a' w' D' ι',K jQ σ'->Step hs D ι w D' ι' w'->St P hs nt D' ι' jQ σ' a' w'->a'.defers=a.defers->σ.next<=σ'.next->Q .normal a' w')->Bu P ops Q (List.range' j l.length) a w:=by
 intro l
 induction l with
 |nil=>
  intro vl j env σ a w D ι _ h hv S Us E eY hQ
  simp[allM]at h;subst h
  exact VY (hQ env ⟨σ.get,σ.next+1⟩ a w D ι hv (Step.refl _ _ _ _) ⟨S,Us.next,E,eY⟩ rfl (Nat.le_succ _))
 |cons o l ih=>
  intro vl j env σ a w D ι hl h hv S Us E eY hQ
  simp only[allM,Option.bind_eq_bind,Option.bind_eq_some_iff,Option.pure_def,Option.some.injEq]at h
  obtain⟨vo,mO,xL,wJ,rfl⟩:=h
  obtain⟨hc,hd,F4,BE,hg⟩:=sa mO
  obtain⟨Za,hv⟩:=hv
  have hog:o.guard=none:=by
   split at hg
   ·assumption
   ·obtain⟨t,_,h⟩:=hg
    rw[Za]at h;cases h
  have hoj:ops[j]? =some o:=by
   have h0:=congrArg (fun x=>x[0]?) hl
   rw[<-Array.getElem?_toList]
   simpa[List.getElem?_drop]using h0
  have P9:ops.toList.drop (j+1)=l:=by rw[<-List.drop_drop,hl];rfl
  have go:∀(v:AV) (u:Value) (g2:Rows) (w2:World),cD xL K (upd env vo.dst v) ⟨g2,σ.next⟩->iD P hs D ι g2 w2->Step hs D ι w D ι w2->dZ P w2 D ι v u->Bu P ops Q (List.range' (j+1) l.length) (a.put o.dst u) w2:=fun v u g2 w2 hn S2 T hR=>
   ih xL (j+1) (upd env vo.dst v) ⟨g2,σ.next⟩ (a.put o.dst u) w2 D ι P9 wJ hn S2 Us (by rw[hd];exact jF (qZ E T) hR BE eY) (by rw[gp];exact eY) fun jQ σ2 a' w3 D3 ι3 hk T2 Qn HZ pM=>hQ jQ σ2 a' w3 D3 ι3 hk (T.trans T2) Qn (HZ.trans (put_defers _ _ _)) pM
  rw[show List.range' j (o::l).length=j::List.range' (j+1) l.length from rfl]
  split at hv
  ·rename_i x y eS
   split at hv
   ·rename_i g2 XO
    rw[eS]at hc
    obtain⟨c,cap,s,r,buf,u,gU,hb,gM,S2,T⟩:=Yk S hc E XO
    exact RU hoj hog gU hb gM (go _ _ _ _ hv S2 T dZ.undef)
   ·exact hv.elim
  ·rename_i x eS
   split at hv
   ·rename_i v g2 XO
    rw[eS]at hc
    obtain⟨c,cap,s,r,buf,z,gU,hb,F5,S2,T,hR⟩:=Yj S hc E XO
    exact RT hoj hog gU hb F5 (go _ _ _ _ hv S2 T hR)
   ·exact hv.elim
  ·split at hv
   ·rename_i v hq
    obtain⟨u,gU,hR⟩:=CV hc hq S E
    exact OR hoj hog gU (go _ _ _ _ hv S (Step.refl _ _ _ _) hR)
   ·exact hv.elim
end
end Go.Proofs.YtoodopepphhpoaaGreatDoor.V

namespace Go.Proofs.YtoodopepphhpoaaGreatDoor.V
open Go.RowKit
variable {P:Program} {w w':World} {D D' D2:Nat->Prop} {ι ι' ι2:Names}
section
variable {hs:Nat} {X:im}
def exO:Ex->Exit
 | .normal=>.normal
 | .exit id=>.exit id
 | .ret=>.ret
theorem St.drew {nt:Nat} {env:Env} {σ:aw} {a:Act} {D:Nat->Prop} {ι:Names} (h:St P hs nt D ι env σ a w):St P hs nt D ι env σ a w.drew/\Step hs D ι w D ι w.drew:=by
 have T:Step hs D ι w D ι w.drew:=Step.stay h.xE (fun _ _=>rfl) (Nat.le_refl _) rfl rfl rfl (fun _ h=>h) (fun _ h=>.inl h) (fun _ _ h=>h)
 exact⟨⟨h.xE.stay (fun _ _=>rfl) (Nat.le_refl _) (fun _ h=>h) h.xE.dead (fun _ h=>.inl h) (fun _ _ h=>h),h.used,qZ h.env T,h.size⟩,T⟩
def xN (P:Program) (hs nt:Nat) (ds:List Deferred) (Q:Ex->Env->aw->Prop) (n0:Nat) (D:Nat->Prop) (ι:Names) (w:World) (Q':Exit->Act->World->Prop):Prop:=
 ∀ex env σ a w' D' ι',Q ex env σ->Step hs D ι w D' ι' w'->St P hs nt D' ι' env σ a w'->a.defers=ds->n0<=σ.next->Q' (exO ex) a w'
theorem xN.later {nt:Nat} {ds:List Deferred} {Q:Ex->Env->aw->Prop} {n0 n1:Nat} {Q':Exit->Act->World->Prop} (h:xN P hs nt ds Q n0 D ι w Q') (T:Step hs D ι w D' ι' w') (hn:n0<=n1):xN P hs nt ds Q n1 D' ι' w' Q':=
 fun ex env σ a w2 D2 ι2 hq T2 eA hd hle=>h ex env σ a w2 D2 ι2 hq (T.trans T2) eA hd (Nat.le_trans hn hle)
theorem tG (hm:P.follows .mixedOrders=true) {md:List (Nat×Nat)} {nt fid:Nat}:∀(c:Code) (vc:VC),jL P md nt fid c=some vc->∀(Q:Ex->Env->aw->Prop) (env:Env) (σ:aw) (a:Act) (w:World) (D:Nat->Prop) (ι:Names) (Q':Exit->Act->World->Prop),
  eu (Sound P) vc Q env σ->St P hs nt D ι env σ a w->xN P hs nt a.defers Q σ.next D ι w Q'->B3 P c Q' a w:=by
 intro c
 induction c with
 |skip=>
  intro vc h Q env σ a w D ι Q' hv eA hQ
  simp[jL]at h;subst h
  exact lG <| wp_skip (hQ .normal env σ a w D ι hv (Step.refl _ _ _ _) eA rfl (Nat.le_refl _))
 |exit id=>
  intro vc h Q env σ a w D ι Q' hv eA hQ
  simp[jL]at h;subst h
  exact lG <| wp_exit (hQ (.exit id) env σ a w D ι hv (Step.refl _ _ _ _) eA rfl (Nat.le_refl _))
 |ret=>
  intro vc h Q env σ a w D ι Q' hv eA hQ
  simp[jL]at h;subst h
  exact lG <| wp_ret (hQ .ret env σ a w D ι hv (Step.refl _ _ _ _) eA rfl (Nat.le_refl _))
 |seq x y ihx ihy=>
  intro vc h Q env σ a w D ι Q' hv eA hQ
  simp only[jL,Option.bind_eq_bind,Option.bind_eq_some_iff,Option.pure_def,Option.some.injEq]at h
  obtain⟨vx,hx,vy,hy,rfl⟩:=h
  refine oE (ihx vx hx _ env σ a w D ι _ hv eA fun ex jT σ1 a1 w1 D1 ι1 hq T lp hd hle=>?_)
  cases ex with
  |normal=>exact ihy vy hy Q jT σ1 a1 w1 D1 ι1 Q' hq lp (by rw[hd];exact hQ.later T hle)
  |exit id=>exact hQ (.exit id) jT σ1 a1 w1 D1 ι1 hq T lp hd hle
  |ret=>exact hQ .ret jT σ1 a1 w1 D1 ι1 hq T lp hd hle
 |cond c x y ihx ihy=>
  intro vc h Q env σ a w D ι Q' hv eA hQ
  simp only[jL,Option.bind_eq_bind,Option.bind_eq_some_iff,Option.pure_def,Option.some.injEq]at h
  obtain⟨c',hc,vx,hx,vy,hy,rfl⟩:=h
  unfold eu at hv
  have hr:=ew eA.env hc
  split at hv
  ·rename_i b hb
   rw[hb]at hr
   refine AG (gH hr) ?_
   cases b with
   |true=>exact ihx vx hx Q env σ a w D ι Q' hv eA hQ
   |false=>exact ihy vy hy Q env σ a w D ι Q' hv eA hQ
  ·exact hv.elim
 |block id c ih=>
  intro vc h Q env σ a w D ι Q' hv eA hQ
  simp only[jL,Option.map_eq_some_iff]at h
  obtain⟨vx,hx,rfl⟩:=h
  refine xu (ih vx hx _ env σ a w D ι _ hv eA fun ex jT σ1 a1 w1 D1 ι1 hq T lp hd hle=>?_)
  cases ex with
  |normal=>exact hQ .normal jT σ1 a1 w1 D1 ι1 hq T lp hd hle
  |ret=>exact hQ .ret jT σ1 a1 w1 D1 ι1 hq T lp hd hle
  |exit lz=>
   simp only[bd]at hq
   simp only[exO,Exit.inBlock]
   by_cases hid:lz=id
   ·rw[if_pos hid]at hq ⊢;exact hQ .normal jT σ1 a1 w1 D1 ι1 hq T lp hd hle
   ·rw[if_neg hid]at hq ⊢;exact hQ (.exit lz) jT σ1 a1 w1 D1 ι1 hq T lp hd hle
 |loop c ih=>
  intro vc h Q env σ a w D ι Q' hv eA hQ
  simp only[jL,Option.map_eq_some_iff]at h
  obtain⟨vx,hx,rfl⟩:=h
  obtain⟨n,hv⟩:=hv
  refine GC n ?_
  have key:∀n env σ a w D ι,J0 (eu (Sound P) vx) Q n env σ->St P hs nt D ι env σ a w->xN P hs nt a.defers Q σ.next D ι w Q'->sC P c Q' n a w:=by
   intro n
   induction n with
   |zero=>intro env σ a w D ι h;exact h.elim
   |succ n ihn=>
    intro env σ a w D ι h eA hQ
    refine ih vx hx _ env σ a w D ι _ h eA fun ex jT σ1 a1 w1 D1 ι1 hq T lp hd hle=>?_
    cases ex with
    |normal=>exact ihn jT σ1 a1 w1 D1 ι1 hq lp (by rw[hd];exact hQ.later T hle)
    |exit id=>exact hQ (.exit id) jT σ1 a1 w1 D1 ι1 hq T lp hd hle
    |ret=>exact hQ .ret jT σ1 a1 w1 D1 ι1 hq T lp hd hle
  exact key n env σ a w D ι hv eA hQ
 |region id ops draw=>
  intro vc h Q env σ a w D ι Q' hv eA hQ
  simp only[jL,Yi]at h
  split at h
  ·rename_i hmode
   have hdr:draw=true:=by
    simp only[Bool.and_eq_true]at hmode;exact hmode.1
   subst hdr
   split at h
   ·rename_i vl eR
    obtain⟨vh,T0⟩:=eA.drew
    have HU:=L7 (X:=Sound P) mU ops.size _ vc env σ h (fun k i h=>by
     exfalso
     rcases Nat.lt_or_ge k ops.size with hk|hk
     ·simp[hk]at h
     ·simp[Nat.not_lt.2 hk]at h) hv
    refine lG (wp_region_any hm ?_)
    exact I0 eR ops.size _ env σ a w.drew D ι (fun _=>False) HU vh.xE vh.used (fun _ h=>h.elim) vh.env vh.size fun jT σ1 a1 w1 D1 ι1 hk T lp hd hle=>hQ .normal jT σ1 a1 w1 D1 ι1 hk (T0.trans T) lp hd hle
   ·cases h
  split at h
  ·rename_i hcom
   have hdr:draw=false:=by
    simp only[Bool.and_eq_true,Bool.not_eq_true']at hcom;exact hcom.1
   subst hdr
   simp only[Option.map_eq_some_iff]at h
   obtain⟨vl,wJ,rfl⟩:=h
   have eR:allM (mY P ops nt ((fid*1000+id)*1000) false false #[] []) ops.toList 0=some vl:=by
    unfold uP at wJ
    simp only[Bool.false_eq_true,if_false,Bool.not_false,Bool.true_or,if_true]at wJ
    split at wJ
    ·rename_i xL h;simp at wJ;subst wJ;exact h
    ·cases wJ
   refine Iw ?_
   have:=KI (Q:=Q') ops.toList vl 0 env σ a w D ι rfl eR hv eA.xE eA.used eA.env eA.size fun jT σ1 a1 w1 D1 ι1 hk T lp hd hle=>hQ .normal jT σ1 a1 w1 D1 ι1 hk T lp hd hle
   rwa [<-List.range_eq_range',Array.length_toList]at this
  generalize (xo md id==1)=mk at h
  simp only[Option.map_eq_some_iff]at h
  obtain⟨vl,wJ,rfl⟩:=h
  cases draw with
  |false=>
   have eR:∃xL,allM (mY P ops nt ((fid*1000+id)*1000) false mk #[] []) ops.toList 0=some xL/\vl=xL:=by
    unfold uP at wJ
    simp only[Bool.false_eq_true,if_false,Bool.not_false,Bool.true_or,if_true]at wJ
    split at wJ
    ·rename_i xL h;simp at wJ;exact⟨xL,h,wJ.symm⟩
    ·cases wJ
   obtain⟨xL,eR,rfl⟩:=eR
   refine lG (wp_region_list ?_)
   exact CK ops.toList vl 0 env σ a w D ι (fun _=>False) eR hv eA.xE eA.used (fun _ h=>h.elim) eA.env eA.size fun jT σ1 a1 w1 D1 ι1 hk T lp hd hle=>hQ .normal jT σ1 a1 w1 D1 ι1 hk T lp hd hle
  |true=>
   have eR:∃hidden xL,allM (mY P ops nt ((fid*1000+id)*1000) true mk (kn ops) hidden) ops.toList 0=some xL/\vl=xL/\qY ops xL (kn ops)=true:=by
    unfold uP at wJ
    simp only[if_true,Bool.not_true,Bool.false_or]at wJ
    split at wJ
    ·rename_i xL h
     split at wJ
     ·rename_i Ah;simp at wJ;exact⟨_,xL,h,wJ.symm,Ah⟩
     ·cases wJ
    ·cases wJ
   obtain⟨hidden,xL,eR,rfl,Ah⟩:=eR
   obtain⟨vh,T0⟩:=eA.drew
   obtain⟨hlen,_⟩:=qQ eR
   have Ae:vl.length=ops.size:=by rw[hlen];simp
   have HU:=Bj (X:=Sound P) (K:=Q .normal) (n:=σ.next) Ah Ae vl 0 (Array.replicate ops.size false) env σ.get (by simp) (by simp) (fun i hi=>by simp[hi]) (by simp[Ae]) (fun k i h=>by
    exfalso
    rcases Nat.lt_or_ge k ops.size with hk|hk
    ·simp[hk]at h
    ·simp[Nat.not_lt.2 hk]at h) hv
   refine lG (wp_region_any hm ?_)
   rw[Ae]at HU
   exact B5 eR ops.size _ env σ.get a w.drew D ι (fun _=>False) HU vh.xE vh.used (fun _ h=>h.elim) vh.env vh.size fun jT g1 a1 w1 D1 ι1 U1 hk T S1 U1' E1 Ak hd=>hQ .normal jT ⟨g1,σ.next+1⟩ a1 w1 D1 ι1 hk (T0.trans T) ⟨S1,U1'.next,E1,Ak⟩ hd (Nat.le_succ _)
 |label l=>
  intro vc h Q env σ a w D ι Q' hv eA hQ
  simp[jL]at h;subst h
  exact lG <| wp_label (hQ .normal env σ a w D ι hv (Step.refl _ _ _ _) eA rfl (Nat.le_refl _))
 |scope c ih=>
  intro vc h Q env σ a w D ι Q' hv eA hQ
  simp only[jL]at h
  refine LG (ih vc h Q env σ a w D ι _ hv eA fun ex jT σ1 a1 w1 D1 ι1 hq T lp hd hle=>?_)
  have h1:=hQ ex jT σ1 a1 w1 D1 ι1 hq T lp hd hle
  cases ex with
  |normal=>exact h1
  |exit id=>exact h1
  |ret=>exact h1
 |_=>
  intro vc h
  simp[jL]at h
def O8 (tmps:Array Value):ResultVar->Sem Value
 | .tmp t=>pure (tmps.getD t undef)
 | .cell a t=>do loadVar t (<-asAddr (tmps.getD a undef))
theorem IE (fn:Func) (tmps:Array Value):results fn tmps=(do
  let vs <-fn.results.mapM (O8 tmps)
  pure (if h:vs.size=1 then vs[0]else .tuple vs)):=by
 unfold results
 congr 2
theorem yn {nt:Nat} {env:Env} {σ:aw} {a:Act} {D:Nat->Prop} {ι:Names} (eA:St P hs nt D ι env σ a w):∀(rs:List ResultVar) (vr:List sV) (vs:List AV),rs.mapM (HF P)=some vr->iA env σ.get vr=some vs->
  ∃us:List Value,(rs.mapM (O8 a.tmps)).run P w=.ok us w/\us.length=vs.length/\∀(j:Nat) (v:AV),vs[j]? =some v->∃u,us[j]? =some u/\dZ P w D ι v u
 |[],vr,vs,h,hv=>by
  simp at h;subst h
  simp[iA]at hv;subst hv
  exact⟨[],by simp,rfl,fun j v h=>by simp at h⟩
 |r::rs,vr,vs,h,hv=>by
  simp only[List.mapM_cons,Option.bind_eq_bind,Option.bind_eq_some_iff]at h
  obtain⟨x,hx,vr',hr,h⟩:=h
  simp at h;subst h
  simp only[iA,Option.bind_eq_some_iff,Option.map_eq_some_iff]at hv
  obtain⟨v,tW,vs',Rf,rfl⟩:=hv
  obtain⟨us,h1,h2,h3⟩:=yn eA rs vr' vs' hr Rf
  have one:∃u,(O8 a.tmps r).run P w=.ok u w/\dZ P w D ι v u:=by
   cases r with
   |tmp t=>
    simp[HF]at hx;subst hx
    simp[jP]at tW;subst tW
    exact⟨_,rfl,eA.env t⟩
   |cell b t=>
    simp only[HF,Option.bind_eq_bind,Option.bind_eq_some_iff,Option.pure_def,Option.some.injEq]at hx
    obtain⟨ag,x7,n,hn,rfl⟩:=hx
    simp only[jP]at tW
    have je:=eA.env b
    unfold ld at tW
    split at tW
    ·rename_i lz i' oo hb
     rw[hb]at je
     obtain⟨B,he,hB,hk⟩:=jw je
     simp only[Option.bind_eq_some_iff]at tW
     obtain⟨cs,eD,hp⟩:=tW
     obtain⟨B',r0,Mt,eE,R,hi,fl,f,hf⟩:=Pe (S:=eA.xE) eD (fun B2 h2=>by rw[hB]at h2;injection h2 with h2;subst h2;exact hk)
     rw[hB]at eE;injection eE with eE;subst eE
     obtain⟨u,k1,k2⟩:=kV (w:=w) (b:=B.b) (oo:=i'*B.sz+oo) (f:=fun j=>f (oo+j)) x7 hn hp (fun a ha=>fl a (List.mem_of_mem_drop ha)) (fun j hj=>by
      rw[Nat.add_assoc];exact(hf _ (by simp at hj;omega)).1) (fun j a ha=>by
      simp at ha;exact(hf _ ((List.getElem?_eq_some_iff.1 ha).1)).2 _ ha)
     exact⟨u,by simp only[O8,he,asAddr,Sem.run_bind,Sem.run_pure,Result.andThen_ok,k1],k2⟩
    ·rename_i cs hb
     rw[hb]at je
     obtain⟨b',oo,vs2,he,q1,q2,q3,q4⟩:=nD je
     obtain⟨u,k1,k2⟩:=kV (w:=w) (b:=b') (oo:=oo) (f:=vs2) x7 hn tW q2 q3 (fun j a ha=>.fq _ _ (q4 j a ha))
     exact⟨u,by simp only[O8,he,asAddr,Sem.run_bind,Sem.run_pure,Result.andThen_ok,k1],k2⟩
    ·simp at tW
  obtain⟨u,hu,BJ⟩:=one
  refine⟨u::us,?_,by simp[h2],fun j v' hj=>?_⟩
  ·rw[List.mapM_cons]
   simp only[Sem.run_bind,hu,h1,Result.andThen_ok,Sem.run_pure]
  ·cases j with
   |zero=>simp at hj;subst hj;exact⟨u,rfl,BJ⟩
   |succ j=>simp at hj ⊢;exact h3 j v' hj
theorem zD {f:Nat} {fn:Func} {c:Code} {args:List AV} {σ:aw} {K:AV->aw->Prop} {vr:List sV} (S8:P.funcs[f]? =some fn) (hc:fn.body=some c) (hr:fn.results.toList.mapM (HF P)=some vr) (ha:fn.params.size+fn.nfree=args.length) (hle:fn.params.size+fn.nfree<=fn.ntmps)
  (h:∀(hs:Nat) (w:World) (D:Nat->Prop) (ι:Names) (a:Act) (Q':Exit->Act->World->Prop),St P hs fn.ntmps D ι (cw args) σ a w->xN P hs fn.ntmps a.defers (oM vr K) σ.next D ι w Q'->B3 P c Q' a w):Sound P f args σ K:=by
 intro hs D ι w vs S Us A
 have eY:vs.size=args.length:=A.1
 refine Dj S8 hc ?_
 refine h hs w D ι _ _ ⟨S,Us,fun t=>?_,by simp;omega⟩ fun ex jT σ1 a1 w1 D1 ι1 hq T lp hd hle=>?_
 ·simp only[cw]
  by_cases eP:t<args.length
  ·obtain⟨u,hu,BJ⟩:=A.2 t args[t] (List.getElem?_eq_getElem eP)
   have e1:args.getD t .undef=args[t]:=by simp[List.getD_eq_getElem?_getD,eP]
   have e2:(vs++Array.replicate (fn.ntmps-vs.size) undef).getD t undef=u:=by
    simp only[Array.getD_eq_getD_getElem?]
    rw[Array.getElem?_append_left ad,hu];rfl
   rw[e1,e2];exact BJ
  ·have e1:args.getD t .undef=.undef:=by simp[List.getD_eq_getElem?_getD,Nat.le_of_not_lt eP]
   have e2:(vs++Array.replicate (fn.ntmps-vs.size) undef).getD t undef=undef:=by
    simp only[Array.getD_eq_getD_getElem?]
    rw[Array.getElem?_append_right ad,Array.getElem?_replicate]
    split<;>rfl
   rw[e1,e2];exact dZ.undef
 ·have fin:(∃vs,iA jT σ1.get vr=some vs/\K (iF vs) σ1)->a1.defers=[]/\∃v,(results fn a1.tmps).run P w1=.ok v w1/\∃r g' n' D' ι' u,Ending.returned v=.returned u/\K r ⟨g',n'⟩/\Step hs D ι w D' ι' w1/\iD P hs D' ι' g' w1/\Used ι' n' (fun _=>False)/\σ.next<=n'/\dZ P w1 D' ι' r u:=by
   rintro⟨avs,Rf,hK⟩
   obtain⟨us,h1,h2,h3⟩:=yn lp fn.results.toList vr avs hr Rf
   have Vn:(results fn a1.tmps).run P w1=.ok (if h:us.toArray.size=1 then us.toArray[0]else .tuple us.toArray) w1:=by
    rw[IE,Array.mapM_eq_mapM_toList]
    simp only[Sem.run_bind,Sem.run_map,h1,Result.andThen_ok,Sem.run_pure]
   refine⟨hd,_,Vn,iF avs,σ1.get,σ1.next,D1,ι1,_,rfl,hK,T,lp.xE,lp.used,hle,?_⟩
   unfold iF
   split
   ·rename_i v
    have hl:us.length=1:=h2
    obtain⟨u,hu,BJ⟩:=h3 0 v rfl
    rw[dif_pos (by simpa using hl)]
    have:us.toArray[0]'(by simp[hl])=u:=by
     have:=(List.getElem?_eq_some_iff.1 hu).2
     simpa using this
    rw[this];exact BJ
   ·rename_i hZ
    rw[dif_neg (by
     simp only[List.size_toArray,h2]
     intro h
     obtain⟨v,hv⟩:=List.length_eq_one_iff.1 h
     exact hZ v hv)]
    exact .fX _ _ (fun j=>us.getD j undef) (by simp[h2]) (fun j hj=>by
     have:j<us.length:=by rw[h2];exact hj
     simp[this]) (fun j v hj=>by
     obtain⟨u,hu,BJ⟩:=h3 j v hj
     simpa[List.getD_eq_getElem?_getD,hu]using BJ)
  cases ex with
  |normal=>exact fin hq
  |ret=>exact fin hq
  |exit id=>exact hq.elim
theorem NA (hm:P.follows .mixedOrders=true) {f:Nat} {md:List (Nat×Nat)} {vf:Kx} {args:List AV} {σ:aw} {K:AV->aw->Prop} (hf:zG P f md=some vf) (ha:vf.CH=args.length) (h:eu (Sound P) vf.body (oM vf.res K) (cw args) σ):Sound P f args σ K:=by
 unfold zG at hf
 split at hf
 ·rename_i fn S8
  split at hf
  ·rename_i c hc
   simp only[Option.bind_eq_bind,Option.bind_eq_some_iff]at hf
   obtain⟨vb,hb,vr,hr,hf⟩:=hf
   split at hf
   ·rename_i hle
    simp only[Option.pure_def,Option.some.injEq]at hf
    subst hf
    simp only at ha h
    exact zD S8 hc hr ha hle fun hs w D ι a Q' eA hQ=>tG hm c vb hb (oM vr K) (cw args) σ a w D ι Q' h eA hQ
   ·simp at hf
  ·simp at hf
 ·simp at hf
def TB (P:Program) (X:im):im:=fun f args σ K=>(∃md vf,zG P f md=some vf/\vf.CH=args.length/\((∀a∈args,fP a)->eu X vf.body (oM vf.res K) (cw args) σ))∨Sound P f args σ K
def Call (P:Program):im:=fun f args σ K=>∀X:im,tf X->(∀f args σ K,TB P X f args σ K->X f args σ K)->X f args σ K
theorem iv (hm:P.follows .mixedOrders=true) {f:Nat} {args:List AV} {σ:aw} {K:AV->aw->Prop} (h:Call P f args σ K):Sound P f args σ K:=
 h (Sound P) mU fun f args σ K hs=>by
  rcases hs with⟨md,vf,h1,h2,h3⟩|h
  ·intro hs D ι w vs S U A
   exact NA hm h1 h2 (h3 (rH fun j a hj=>by obtain⟨u,_,hr⟩:=A.2 j a hj;exact hr.Ow)) hs D ι w vs S U A
  ·exact h
end
end Go.Proofs.YtoodopepphhpoaaGreatDoor.V

namespace Go.Proofs.YtoodopepphhpoaaGreatDoor.V
open Go.RowKit
variable {P:Program} {X Y:im}
theorem MM (h:∀f args σ K,X f args σ K->Y f args σ K) {f:Nat} {args:List AV} {σ:aw} {K:AV->Prop} (hp:fB X f args σ K):fB Y f args σ K:=by
 rcases hp with hp|⟨a,h1,h2⟩
 ·exact .inl (h _ _ _ _ hp)
 ·exact .inr ⟨a,h1,h _ _ _ _ h2⟩
theorem Qk (h:∀f args σ K,X f args σ K->Y f args σ K) {f:Nat} {args:List AV} {σ:aw} {sz:Nat} {rows:List (List AV)} (hp:CM X f args σ sz rows):CM Y f args σ sz rows:=by
 obtain⟨h1,a,h2,h3⟩:=hp
 exact⟨h1,a,h2,h _ _ _ _ h3⟩
theorem tD (h:∀f args σ K,X f args σ K->Y f args σ K) (hK:∀f args σ K K',(∀r σ',K r σ'->K' r σ')->Y f args σ K->Y f args σ K') {draw:Bool} {hid:List Nat} {site:Nat} {f:Nat} {args:List AV} {σ:aw} {n n':AV->aw->Prop} (hn:∀v σ',n v σ'->n' v σ') (hp:cH X draw hid site f args σ n):cH Y draw hid site f args σ n':=by
 rcases hp with⟨r,h1,h2⟩|⟨h1,h2⟩|⟨h1,sz,rows,h2,h3⟩
 ·exact .inl ⟨r,MM h h1,hn _ _ h2⟩
 ·exact .inr (.inl ⟨h1,hK _ _ _ _ _ hn (h _ _ _ _ h2)⟩)
 ·exact .inr (.inr ⟨h1,sz,rows,Qk h h2,hn _ _ h3⟩)
theorem wz (h:∀f args σ K,X f args σ K->Y f args σ K) (hK:∀f args σ K K',(∀r σ',K r σ'->K' r σ')->Y f args σ K->Y f args σ K') {draw:Bool} {o:bY} {env:Env} {σ:aw} {n n':AV->aw->Prop} (hn:∀v σ',n v σ'->n' v σ') (hp:fx X draw o env σ n):fx Y draw o env σ n':=by
 unfold fx at hp ⊢
 split at hp
 ·exact tD h hK hn hp
 ·split at hp
  ·exact tD h hK hn hp
  ·exact tD h hK hn hp
  ·exact hp.elim
 ·split at hp
  ·exact hn _ _ hp
  ·exact hp.elim
 ·split at hp
  ·exact hn _ _ hp
  ·exact hp.elim
 ·split at hp
  ·exact hn _ _ hp
  ·exact hp.elim
 ·split at hp
  ·exact hn _ _ hp
  ·exact hp.elim
 ·split at hp
  ·exact hn _ _ hp
  ·exact hp.elim
 ·split at hp
  ·exact hn _ _ hp
  ·exact hn _ _ hp
  ·exact hp.elim
theorem nM (h:∀f args σ K,X f args σ K->Y f args σ K) (hK:∀f args σ K K',(∀r σ',K r σ'->K' r σ')->Y f args σ K->Y f args σ K') {draw:Bool} {Q Q':Env->aw->Prop} (hQ:∀e s,Q e s->Q' e s):∀(l:List bY) (env:Env) (σ:aw),wpOps X draw l Q env σ->wpOps Y draw l Q' env σ
 |[],env,σ,hp=>hQ _ _ hp
 |o::r,env,σ,hp=>by
  unfold wpOps at hp ⊢
  split at hp
  ·rename_i hw;rw[if_pos hw];exact wz h hK (fun v σ'=>nM h hK hQ r _ _) hp
  ·rename_i hw;rw[if_neg hw];exact nM h hK hQ r _ _ hp
theorem p4 {Q Q':Env->aw->Prop} (hQ:∀e s,Q e s->Q' e s):∀(l:List bY) (env:Env) (σ:aw),cD l Q env σ->cD l Q' env σ
 |[],env,σ,hp=>hQ _ _ hp
 |o::r,env,σ,hp=>by
  unfold cD at hp ⊢
  refine⟨hp.1,?_⟩
  replace hp:=hp.2
  split at hp
  ·split at hp
   ·exact p4 hQ r _ _ hp
   ·exact hp.elim
  ·split at hp
   ·exact p4 hQ r _ _ hp
   ·exact hp.elim
  ·split at hp
   ·exact p4 hQ r _ _ hp
   ·exact hp.elim
theorem lj (h:∀f args σ K,X f args σ K->Y f args σ K) (hK:∀f args σ K K',(∀r σ',K r σ'->K' r σ')->Y f args σ K->Y f args σ K'):∀(c:VC) (Q Q':Ex->Env->aw->Prop) (env:Env) (σ:aw),(∀x e s,Q x e s->Q' x e s)->eu X c Q env σ->eu Y c Q' env σ:=by
 intro c
 induction c with
 |skip=>intro Q Q' env σ hQ hp;exact hQ _ _ _ hp
 |exit id=>intro Q Q' env σ hQ hp;exact hQ _ _ _ hp
 |ret=>intro Q Q' env σ hQ hp;exact hQ _ _ _ hp
 |one o c ih=>
  intro Q Q' env σ hQ hp
  unfold eu at hp ⊢
  split at hp
  ·rename_i hw;rw[if_pos hw];exact wz h hK (fun v σ'=>ih Q Q' _ _ hQ) hp
  ·rename_i hw;rw[if_neg hw];exact ih Q Q' _ _ hQ hp
 |both a b iha ihb=>intro Q Q' env σ hQ hp;exact⟨iha Q Q' env σ hQ hp.1,ihb Q Q' env σ hQ hp.2⟩
 |loc t s y c ih=>intro Q Q' env σ hQ hp;exact⟨hp.1,ih Q Q' env σ hQ hp.2⟩
 |Ui ops=>intro Q Q' env σ hQ hp;exact p4 (hQ .normal) ops env σ hp
 |ib draw ops=>intro Q Q' env σ hQ hp;exact nM h hK (hQ .normal) ops env σ hp
 |seq a b iha ihb=>
  intro Q Q' env σ hQ hp
  refine iha _ _ env σ (fun x e s hx=>?_) hp
  cases x with
  |normal=>exact ihb Q Q' e s hQ hx
  |exit id=>exact hQ _ _ _ hx
  |ret=>exact hQ _ _ _ hx
 |cond c a b iha ihb=>
  intro Q Q' env σ hQ hp
  unfold eu at hp ⊢
  split at hp
  ·rename_i t ht
   cases t with
   |true=>exact iha Q Q' env σ hQ hp
   |false=>exact ihb Q Q' env σ hQ hp
  ·exact hp.elim
 |block id a iha=>
  intro Q Q' env σ hQ hp
  refine iha _ _ env σ (fun x e s hx=>?_) hp
  cases x with
  |normal=>exact hQ _ _ _ hx
  |ret=>exact hQ _ _ _ hx
  |exit lz=>
   unfold bd at hx ⊢
   dsimp only at hx ⊢
   split at hx
   ·rename_i hid;rw[if_pos hid];exact hQ _ _ _ hx
   ·rename_i hid;rw[if_neg hid];exact hQ _ _ _ hx
 |loop a iha=>
  intro Q Q' env σ hQ hp
  obtain⟨n,hp⟩:=hp
  refine⟨n,?_⟩
  induction n generalizing env σ with
  |zero=>exact hp
  |succ n ihn=>
   refine iha _ _ env σ (fun x e s hx=>?_) hp
   cases x with
   |normal=>exact ihn e s hx
   |exit id=>exact hQ _ _ _ hx
   |ret=>exact hQ _ _ _ hx
theorem aH:tf (Call P):=fun _ _ _ _ _ hK h X hX hc=>hX _ _ _ _ _ hK (h X hX hc)
theorem BY {f:Nat} {args:List AV} {σ:aw} {K:AV->aw->Prop} (h:TB P (Call P) f args σ K):Call P f args σ K:=by
 intro X hX hc
 refine hc _ _ _ _ ?_
 rcases h with⟨md,vf,h1,h2,h3⟩|h
 ·exact .inl ⟨md,vf,h1,h2,fun hl=>lj (fun f args σ K h=>h X hX hc) hX _ _ _ _ _ (fun _ _ _ h=>h) (h3 hl)⟩
 ·exact .inr h
theorem zp {f:Nat} {md:List (Nat×Nat)} {args:List AV} {σ:aw} {K:AV->aw->Prop} {vf:Kx} (hf:zG P f md=some vf) (ha:vf.CH=args.length) (h:(∀a∈args,fP a)->eu (Call P) vf.body (oM vf.res K) (cw args) σ):Call P f args σ K:=
 BY (.inl ⟨md,vf,hf,ha,h⟩)
theorem r7 {f:Nat} {args:List AV} {σ:aw} {K:AV->aw->Prop} {vf:Kx} (hf:Fg P f=some vf) (ha:vf.CH=args.length) (h:(∀a∈args,fP a)->eu (Call P) vf.body (oM vf.res K) (cw args) σ):Call P f args σ K:=
 zp hf ha h
theorem fH {f:Nat} {args:List AV} {σ:aw} {K:AV->aw->Prop} (h:Sound P f args σ K):Call P f args σ K:=BY (.inr h)
def Ret (P:Program) (f:Nat) (args:List AV) (r:AV):Prop:=∀σ,PC (Call P) f args σ (fun r'=>r'=r)
variable {Q:Ex->Env->aw->Prop} {K:Env->aw->Prop} {env:Env} {σ:aw}
theorem G4 {a b:VC} (h:∀N:Env->aw->Prop,(∀e s,eu X b Q e s->N e s)->eu X a (dr N Q) env σ):eu X (.seq a b) Q env σ:=h _ fun _ _ h=>h
theorem EE (h:Q .normal env σ):eu X .skip Q env σ:=h
theorem EC {id:Nat} (h:Q (.exit id) env σ):eu X (.exit id) Q env σ:=h
theorem Ks (h:Q .ret env σ):eu X .ret Q env σ:=h
theorem zj {id:Nat} {c:VC} (h:eu X c (bd id Q) env σ):eu X (.block id c) Q env σ:=h
theorem Kq {o:bY} {c:VC} (h:∀N:AV->aw->Prop,(∀v s,eu X c Q (upd env o.dst v) s->N v s)->if aD o.guard env then fx X false o env σ N else N .undef σ):eu X (.one o c) Q env σ:=by
 have:=h (fun v s=>eu X c Q (upd env o.dst v) s) fun _ _ h=>h
 unfold eu
 split
 ·rename_i hw;rw[if_pos hw]at this;exact this
 ·rename_i hw;rw[if_neg hw]at this;exact this
def eb (s n:Nat):AV->Prop
 | .own id 0 _=>id=⟨s,n⟩
 |_=>False
def ee (n:Nat):AV->Prop
 | .own id _ _=>¬id.bt=n
 |_=>True
theorem ED {t s:Nat} {y:O} {c:VC} (h1:eb s σ.next (env t)) (h2:ee σ.next (dz env y)) (h:eu X c Q env σ):eu X (.loc t s y c) Q env σ:=by
 refine⟨⟨?_,fun id o l he=>?_⟩,h⟩
 ·revert h1
  unfold eb
  split
  ·rename_i id l he;rintro rfl;exact⟨l,he⟩
  ·exact fun h=>h.elim
 ·rw[he]at h2;exact h2
theorem eH {a b:VC} (ha:eu X a Q env σ) (hb:eu X b Q env σ):eu X (.both a b) Q env σ:=⟨ha,hb⟩
theorem Kr {draw:Bool} {ops:List bY} (h:∀N:Env->aw->Prop,(∀e s,Q .normal e s->N e s)->wpOps X draw ops N env σ):eu X (.ib draw ops) Q env σ:=h _ fun _ _ h=>h
theorem PI {ops:List bY} (h:cD ops (Q .normal) env σ):eu X (.Ui ops) Q env σ:=h
theorem G3 {draw:Bool} (h:K env ⟨σ.get,σ.next+1⟩):wpOps X draw [] K env σ:=h
theorem Wr {draw:Bool} {o:bY} {r:List bY} (h:∀N:AV->aw->Prop,(∀v s,wpOps X draw r K (upd env o.dst v) s->N v s)->if aD o.guard env then fx X draw o env σ N else N .undef σ):wpOps X draw (o::r) K env σ:=by
 have:=h (fun v s=>wpOps X draw r K (upd env o.dst v) s) fun _ _ h=>h
 unfold wpOps
 split
 ·rename_i hw;rw[if_pos hw]at this;exact this
 ·rename_i hw;rw[if_neg hw]at this;exact this
theorem PJ {c:O} {x y:VC} {b:Bool} (hc:dz env c=.bool b) (ht:b=true->eu X x Q env σ) (hf:b=false->eu X y Q env σ):eu X (.cond c x y) Q env σ:=by
 unfold eu
 simp only[hc]
 cases b with
 |true=>exact ht rfl
 |false=>exact hf rfl
inductive qM:AV->Prop->Prop->Prop
 |t {A B:Prop}:A->qM (.bool true) A B
 |f {A B:Prop}:B->qM (.bool false) A B
theorem zk {c:O} {x y:VC} {v:AV} (hv:dz env c=v) (h:qM v (eu X x Q env σ) (eu X y Q env σ)):eu X (.cond c x y) Q env σ:=by
 cases h with
 |t h=>exact PJ hv (fun _=>h) (fun e=>by cases e)
 |f h=>exact PJ hv (fun e=>by cases e) (fun _=>h)
theorem Wq {c:VC} (I:Nat->Env->aw->Prop) (n:Nat) (h0:I n env σ) (step:∀n env σ,I n env σ->eu X c (fun x e s=>match x with| .normal=>∃m,m<n/\I m e s|x=>Q x e s) env σ)
  (hX:∀(c:VC) (Q Q':Ex->Env->aw->Prop) env σ,(∀x e s,Q x e s->Q' x e s)->eu X c Q env σ->eu X c Q' env σ):eu X (.loop c) Q env σ:=by
 have key:∀N n env σ,n<N->I n env σ->J0 (eu X c) Q N env σ:=by
  intro N
  induction N with
  |zero=>intro n env σ h;exact absurd h (Nat.not_lt_zero _)
  |succ N ih=>
   intro n env σ hn hI
   refine hX c _ _ env σ (fun x e s hx=>?_) (step n env σ hI)
   cases x with
   |normal=>obtain⟨m,hm,hI'⟩:=hx;exact ih m e s ad hI'
   |exit id=>exact hx
   |ret=>exact hx
 exact⟨n+1,key _ n env σ (Nat.lt_succ_self _) h0⟩
theorem Sk {c:VC} (I:Nat->Env->aw->Prop) (n:Nat) (h0:I n env σ) (step:∀n env σ,I n env σ->eu (Call P) c (fun x e s=>match x with| .normal=>∃m,m<n/\I m e s|x=>Q x e s) env σ):eu (Call P) (.loop c) Q env σ:=
 Wq I n h0 step fun c Q Q' env σ hQ h=>lj (fun _ _ _ _ h=>h) aH c Q Q' env σ hQ h
def B6:VC->List Nat
 | .ib _ ops=>ops.filterMap (·.dst)
 | .seq a b=>B6 a++B6 b
 | .cond _ a b=>B6 a++B6 b
 | .block _ a=>B6 a
 | .loop a=>B6 a
 | .one o c=>o.dst.toList++B6 c
 | .both a b=>B6 a++B6 b
 | .loc _ _ _ c=>B6 c
 | .Ui ops=>ops.filterMap (·.dst)
 |_=>[]
def kc (l:List Nat) (env jQ:Env):Prop:=∀t,l.contains t=false->jQ t=env t
theorem kc.refl (l:List Nat) (env:Env):kc l env env:=fun _ _=>rfl
theorem kc.upd {l:List Nat} {e e':Env} {d:Option Nat} {v:AV} (h:kc l e e') (hd:∀t,d=some t->t∈l):kc l e (upd e' d v):=fun t ht=>by
 cases d with
 |none=>exact h t ht
 |some d=>
  have:t≠d:=fun hc=>by subst hc;rw[<-Bool.not_eq_true,List.contains_iff_mem]at ht;exact ht (hd _ rfl)
  show(if t=d then v else e' t)=e t
  rw[if_neg this];exact h t ht
theorem rY {draw:Bool} {Q:Env->aw->Prop} {l:List Nat} {e0:Env}:∀(ops:List bY) (env:Env) (σ:aw),(∀t,t∈ops.filterMap (·.dst)->t∈l)->kc l e0 env->wpOps (Call P) draw ops Q env σ->wpOps (Call P) draw ops (fun e s=>Q e s/\kc l e0 e) env σ
 |[],env,σ,_,hk,hp=>⟨hp,hk⟩
 |o::r,env,σ,hl,hk,hp=>by
  have hd:∀t,o.dst=some t->t∈l:=fun t ht=>hl t (List.mem_filterMap.2 ⟨o,by simp,ht⟩)
  have hr:∀t,t∈r.filterMap (·.dst)->t∈l:=fun t ht=>hl t (by
   obtain⟨x,hx,h⟩:=List.mem_filterMap.1 ht
   exact List.mem_filterMap.2 ⟨x,List.mem_cons_of_mem _ hx,h⟩)
  unfold wpOps at hp ⊢
  split at hp
  ·rename_i hw;rw[if_pos hw]
   exact wz (fun _ _ _ _ h=>h) aH (fun v σ' h=>rY r _ _ hr (hk.upd hd) h) hp
  ·rename_i hw;rw[if_neg hw];exact rY r _ _ hr (hk.upd hd) hp
theorem oH {Q:Env->aw->Prop} {l:List Nat} {e0:Env}:∀(ops:List bY) (env:Env) (σ:aw),(∀t,t∈ops.filterMap (·.dst)->t∈l)->kc l e0 env->cD ops Q env σ->cD ops (fun e s=>Q e s/\kc l e0 e) env σ
 |[],env,σ,_,hk,hp=>⟨hp,hk⟩
 |o::r,env,σ,hl,hk,hp=>by
  have hd:∀t,o.dst=some t->t∈l:=fun t ht=>hl t (List.mem_filterMap.2 ⟨o,by simp,ht⟩)
  have hr:∀t,t∈r.filterMap (·.dst)->t∈l:=fun t ht=>hl t (by
   obtain⟨x,hx,h⟩:=List.mem_filterMap.1 ht
   exact List.mem_filterMap.2 ⟨x,List.mem_cons_of_mem _ hx,h⟩)
  unfold cD at hp ⊢
  refine⟨hp.1,?_⟩
  replace hp:=hp.2
  split at hp
  ·split at hp
   ·exact oH r _ _ hr (hk.upd hd) hp
   ·exact hp.elim
  ·split at hp
   ·exact oH r _ _ hr (hk.upd hd) hp
   ·exact hp.elim
  ·split at hp
   ·exact oH r _ _ hr (hk.upd hd) hp
   ·exact hp.elim
theorem C6 {l:List Nat} {e0:Env}:∀(c:VC) (Q:Ex->Env->aw->Prop) (env:Env) (σ:aw),(∀t,t∈B6 c->t∈l)->kc l e0 env->eu (Call P) c Q env σ->eu (Call P) c (fun x e s=>Q x e s/\kc l e0 e) env σ:=by
 intro c
 induction c with
 |skip=>intro Q env σ _ hk hp;exact⟨hp,hk⟩
 |exit id=>intro Q env σ _ hk hp;exact⟨hp,hk⟩
 |ret=>intro Q env σ _ hk hp;exact⟨hp,hk⟩
 |one o c ih=>
  intro Q env σ hl hk hp
  have hd:∀t,o.dst=some t->t∈l:=fun t ht=>hl t (List.mem_append_left _ (by rw[ht];simp))
  have hr:∀t,t∈B6 c->t∈l:=fun t ht=>hl t (List.mem_append_right _ ht)
  unfold eu at hp ⊢
  split at hp
  ·rename_i hw;rw[if_pos hw]
   exact wz (fun _ _ _ _ h=>h) aH (fun v σ' h=>ih Q _ _ hr (hk.upd hd) h) hp
  ·rename_i hw;rw[if_neg hw];exact ih Q _ _ hr (hk.upd hd) hp
 |both a b iha ihb=>
  intro Q env σ hl hk hp
  exact⟨iha Q env σ (fun t ht=>hl t (List.mem_append_left _ ht)) hk hp.1,ihb Q env σ (fun t ht=>hl t (List.mem_append_right _ ht)) hk hp.2⟩
 |loc t s y c ih=>intro Q env σ hl hk hp;exact⟨hp.1,ih Q env σ hl hk hp.2⟩
 |Ui ops=>intro Q env σ hl hk hp;exact oH ops env σ hl hk hp
 |ib draw ops=>intro Q env σ hl hk hp;exact rY ops env σ hl hk hp
 |seq a b iha ihb=>
  intro Q env σ hl hk hp
  refine lj (fun _ _ _ _ h=>h) aH a _ _ env σ (fun x e s hx=>?_) (iha _ env σ (fun t ht=>hl t (List.mem_append_left _ ht)) hk hp)
  cases x with
  |normal=>exact ihb Q e s (fun t ht=>hl t (List.mem_append_right _ ht)) hx.2 hx.1
  |exit id=>exact hx
  |ret=>exact hx
 |cond c a b iha ihb=>
  intro Q env σ hl hk hp
  unfold eu at hp ⊢
  split at hp
  ·rename_i t ht
   cases t with
   |true=>exact iha Q env σ (fun t ht=>hl t (List.mem_append_left _ ht)) hk hp
   |false=>exact ihb Q env σ (fun t ht=>hl t (List.mem_append_right _ ht)) hk hp
  ·exact hp.elim
 |block id a iha=>
  intro Q env σ hl hk hp
  refine lj (fun _ _ _ _ h=>h) aH a _ _ env σ (fun x e s hx=>?_) (iha _ env σ hl hk hp)
  obtain⟨hx,Hf⟩:=hx
  cases x with
  |normal=>exact⟨hx,Hf⟩
  |ret=>exact⟨hx,Hf⟩
  |exit lz=>
   unfold bd at hx ⊢
   dsimp only at hx ⊢
   split at hx
   ·rename_i hid;rw[if_pos hid];exact⟨hx,Hf⟩
   ·rename_i hid;rw[if_neg hid];exact⟨hx,Hf⟩
 |loop a iha=>
  intro Q env σ hl hk hp
  obtain⟨n,hp⟩:=hp
  refine⟨n,?_⟩
  induction n generalizing env σ with
  |zero=>exact hp
  |succ n ihn=>
   refine lj (fun _ _ _ _ h=>h) aH _ _ _ _ _ (fun x e s hx=>?_) (iha _ env σ hl hk hp)
   obtain⟨hx,Hf⟩:=hx
   cases x with
   |normal=>exact ihn e s Hf hx
   |exit id=>exact⟨hx,Hf⟩
   |ret=>exact⟨hx,Hf⟩
theorem cm {c:VC} (I:Nat->Env->aw->Prop) (n:Nat) (h0:I n env σ) (step:∀n e s,I n e s->kc (B6 c) env e->eu (Call P) c (fun x e s=>match x with| .normal=>∃m,m<n/\I m e s|x=>Q x e s) e s):eu (Call P) (.loop c) Q env σ:=by
 refine Sk (fun n e s=>I n e s/\kc (B6 c) env e) n ⟨h0,kc.refl _ _⟩ fun n e s hI=>?_
 refine lj (fun _ _ _ _ h=>h) aH _ _ _ _ _ (fun x e' s' hx=>?_) (C6 c _ e s (fun _ h=>h) hI.2 (step n e s hI.1 hI.2))
 obtain⟨hx,hk⟩:=hx
 cases x with
 |normal=>obtain⟨m,hm,h⟩:=hx;exact⟨m,hm,h,hk⟩
 |exit id=>exact hx
 |ret=>exact hx
theorem PL {k:Nat} (h:k<=9223372036854775807):IntKind.i64.wrap (k:Int)=k:=by rw[IntKind.wrap_i64];omega
theorem dj {z:Int} (h: -9223372036854775808<=z/\z<=9223372036854775807):IntKind.i64.wrap z=z:=by rw[IntKind.wrap_i64];omega
theorem aX {k:Nat} (h:(k:Int)+1<=9223372036854775807):IntKind.i64.wrap ((k:Int)+1)=((k+1:Nat):Int):=by rw[IntKind.wrap_i64];omega
theorem all_succ {k:Nat} {p:Nat->Prop} (h:∀j,j<k->p j) (hk:p k):∀j,j<k+1->p j:=fun j hj=>by
 by_cases Cv:j=k
 ·subst Cv;exact hk
 ·exact h j ad
theorem aJ (g:Rows) (n:Nat) (k:IntKind) (m:Int):fz g (n+1) (.int k m)=some (.int k m):=by rw[fz]<;>intros<;>simp_all
theorem aZ (g:Rows) (n:Nat) (b:Bool):fz g (n+1) (.bool b)=some (.bool b):=by rw[fz]<;>intros<;>simp_all
theorem bF (g:Rows) (n:Nat) (b:ByteArray):fz g (n+1) (.str b)=some (.str b):=by rw[fz]<;>intros<;>simp_all
theorem cz (g:Rows) (n:Nat) (l:List (List AV)):fz g (n+1) (.sl l)=some (.sl l):=by rw[fz]<;>intros<;>simp_all
theorem aM (g:Rows) (n:Nat):fz g (n+1) .cr=some .cr:=by rw[fz]<;>intros<;>simp_all
def ax (P:Program) (f:Nat) (args:List AV) (r:AV):Prop:=∀n:Nat,Call P f args ⟨fun _=>none,n⟩ fun r0 σ'=>∃r',iy σ'.get 6 r0=some r'/\r'=r
theorem ax.body {f:Nat} {args:List AV} {r:AV} {nt na:Nat} {body:VC} {res:List sV} (hf:Fg P f=some ⟨nt,na,body,res⟩) (ha:na=args.length) (h:(∀a∈args,fP a)->∀n:Nat,eu (Call P) body (oM res fun r0 σ'=>∃r',iy σ'.get 6 r0=some r'/\r'=r) (cw args) ⟨fun _=>none,n⟩):ax P f args r:=fun n=>r7 hf ha fun hl=>h hl n
theorem ax.x {f:Nat} {args args':List AV} {r:AV} (h:ax P f args' r) {σ:aw} (hv:eC (ez σ.get) 6 args=some args'):fB (Call P) f args σ (fun r'=>r'=r):=.inr ⟨args',hv,h _⟩
theorem eT (g:Rows) (n:Nat) (k:IntKind) (m:Int):iy g (n+1) (.int k m)=some (.int k m):=by rw[iy]<;>intros<;>simp_all
theorem gi (g:Rows) (n:Nat) (b:Bool):iy g (n+1) (.bool b)=some (.bool b):=by rw[iy]<;>intros<;>simp_all
theorem Dy (g:Rows) (n:Nat) (b:ByteArray):iy g (n+1) (.str b)=some (.str b):=by rw[iy]<;>intros<;>simp_all
theorem nf (g:Rows) (n:Nat):iy g (n+1) .cr=some .cr:=by rw[iy]<;>intros<;>simp_all
theorem gj (g:Rows) (n:Nat) (l:List AV):iy g (n+1) (.fX l)=(fA g n l).map AV.fX:=by rw[iy]
theorem uY (g:Rows) (n:Nat) (l:List AV):iy g (n+1) (.agg l)=(fA g n l).map AV.agg:=by rw[iy]
theorem uZ {g:Rows} {n:Nat} {id:Id} {off len sz:Nat} {rows rows':List (List AV)} (h:g id=some ⟨true,sz,rows⟩) (hl:off+len<=rows.length) (hr:iK g n ((rows.drop off).take len)=some rows'):iy g (n+1) (.own id off len)=some (.sl rows'):=by
 rw[iy];simp only[h,if_true,if_pos hl,hr,Option.map_some]
theorem dq (g:Rows) (n:Nat):fA g n []=some []:=by rw[fA]
theorem cF (g:Rows) (n:Nat) (a:AV) (l:List AV):fA g n (a::l)=match iy g n a with
  |some b=>(fA g n l).map (b::·)
  |none=>none:=by rw[fA];cases iy g n a<;>rfl
theorem xV {g:Rows} {n:Nat}:∀{l:List (List AV)},(∀c∈l,fA g n c=some c)->iK g n l=some l
 |[],_=>by rw[iK]
 |c::r,h=>by rw[iK,h c (by simp),xV fun d hd=>h d (List.mem_cons_of_mem _ hd)];rfl
theorem bj (g:Rows) (n:Nat) (l:List AV):fz g (n+1) (.agg l)=(eC g n l).map AV.agg:=by rw[fz]
theorem aK (g:Rows) (n:Nat) (l:List AV):fz g (n+1) (.er l)=some (.er l):=by rw[fz]<;>intros<;>simp_all
theorem tM {g:Rows} {n:Nat} {id:Id} {i off sz:Nat} {rows:List (List AV)} {cs uS:List AV} (h:g id=some ⟨true,sz,rows⟩) (hi:rows[i]? =some cs) (hr:eC g n (cs.drop off)=some uS):fz g (n+1) (.ptr id i off)=some (.er uS):=by
 rw[fz];simp only[h,if_true,hi,hr,Option.map_some]
theorem ar (g:Rows) (n:Nat):eC g n []=some []:=by rw[eC]
theorem aj (g:Rows) (n:Nat) (a:AV) (l:List AV):eC g n (a::l)=match fz g n a with
  |some b=>(eC g n l).map (b::·)
  |none=>none:=by rw[eC];cases fz g n a<;>rfl
theorem AZ {t:Nat} {r r0:AV} {x:Ex} (hx:x=.ret∨x=.normal) (he:env t=r0) (hz:iy σ.get 6 r0=some r):oM [.tmp t] (fun r0 σ'=>∃r',iy σ'.get 6 r0=some r'/\r'=r) x env σ:=by
 have:∃vs,iA env σ.get [.tmp t]=some vs/\∃r',iy σ.get 6 (iF vs)=some r'/\r'=r:=⟨[env t],rfl,r,by subst he;exact hz,rfl⟩
 rcases hx with rfl|rfl
 ·exact this
 ·exact this
theorem di {t:Nat} {b c:Bool} {x:Ex} (hx:x=.ret∨x=.normal) (he:env t=.bool b) (hb:b=c):oM [.tmp t] (fun r0 σ'=>∃r',iy σ'.get 6 r0=some r'/\r'=.bool c) x env σ:=AZ hx he (by rw[gi,hb])
theorem eQ {t:Nat} {k:IntKind} {b c:Int} {x:Ex} (hx:x=.ret∨x=.normal) (he:env t=.int k b) (hb:b=c):oM [.tmp t] (fun r0 σ'=>∃r',iy σ'.get 6 r0=some r'/\r'=.int k c) x env σ:=AZ hx he (by rw[eT,hb])
theorem km {t u:Nat} {r r1 r2:AV} {x:Ex} (hx:x=.ret∨x=.normal) (h1:env t=r1) (h2:env u=r2) (hz:iy σ.get 6 (.fX [r1,r2])=some r):oM [.tmp t,.tmp u] (fun r0 σ'=>∃r',iy σ'.get 6 r0=some r'/\r'=r) x env σ:=by
 have:∃vs,iA env σ.get [.tmp t,.tmp u]=some vs/\∃r',iy σ.get 6 (iF vs)=some r'/\r'=r:=⟨[env t,env u],rfl,r,by subst h1;subst h2;exact hz,rfl⟩
 rcases hx with rfl|rfl
 ·exact this
 ·exact this
structure Pn (p:Prop):Prop where
 out:p
theorem tw {A B:Prop} (a:A) (b:B):A/\B:=⟨a,b⟩
theorem wk {A R G:Prop} (a:A) (r:R) (h:A->R->G:=by
  intro fL kk
  (repeat(apply Pn.mk;intro N hN))
  (first|((first|apply G4|apply Kr);intro N hN)|((first|(apply Wr;intro N hN)|(apply Kq;intro N hN));simp only[go_sem, ↓reduceIte,Nat.reduceEqDiff,Nat.reduceAdd,Nat.reduceSub,Nat.reduceMul,Nat.reduceLeDiff,Nat.reduceBEq,reduceCtorEq,Nat.reduceLT,Int.reduceLE,Int.reduceLT,Int.reduceToNat,Int.reduceNeg,Int.reduceAdd,Int.reduceEq,fL];first|(apply hN;clear hN N)|skip)|(apply zk;(simp only[go_sem, ↓reduceIte,Nat.reduceEqDiff,Nat.reduceAdd,Nat.reduceSub,Nat.reduceMul,Nat.reduceLeDiff,Nat.reduceBEq,reduceCtorEq,Nat.reduceLT,Int.reduceLE,Int.reduceLT,Int.reduceToNat,Int.reduceNeg,Int.reduceAdd,Int.reduceEq,fL];rfl);first|with_reducible apply qM.t|with_reducible apply qM.f)|(apply G3;apply hN;clear hN N;try(simp only[dr,bd, ↓reduceIte,Nat.reduceEqDiff]);try(apply hN;clear hN N))|apply zj|(refine ED ?_ ?_ ?_;(focus(simp only[go_sem, ↓reduceIte,Nat.reduceEqDiff,Nat.reduceAdd,Nat.reduceSub,Nat.reduceMul,Nat.reduceLeDiff,Nat.reduceBEq,reduceCtorEq,Nat.reduceLT,Int.reduceLE,Int.reduceLT,Int.reduceToNat,Int.reduceNeg,Int.reduceAdd,Int.reduceEq,fL];done));(focus(simp only[go_sem, ↓reduceIte,Nat.reduceEqDiff,Nat.reduceAdd,Nat.reduceSub,Nat.reduceMul,Nat.reduceLeDiff,Nat.reduceBEq,reduceCtorEq,Nat.reduceLT,Int.reduceLE,Int.reduceLT,Int.reduceToNat,Int.reduceNeg,Int.reduceAdd,Int.reduceEq,fL];done)))|((first|apply EE|apply EC|apply Ks);try(simp only[dr,bd, ↓reduceIte,Nat.reduceEqDiff]);try(apply hN;clear hN N))|((first|apply hN|(clear hN N;first|apply hN|(clear hN N;first|apply hN|(clear hN N;first|apply hN|(clear hN N;apply hN)))));clear hN N))
  (repeat(first|((first|apply G4|apply Kr);intro N hN)|((first|(apply Wr;intro N hN)|(apply Kq;intro N hN));simp only[go_sem, ↓reduceIte,Nat.reduceEqDiff,Nat.reduceAdd,Nat.reduceSub,Nat.reduceMul,Nat.reduceLeDiff,Nat.reduceBEq,reduceCtorEq,Nat.reduceLT,Int.reduceLE,Int.reduceLT,Int.reduceToNat,Int.reduceNeg,Int.reduceAdd,Int.reduceEq,fL];first|(apply hN;clear hN N)|skip)|(apply zk;(simp only[go_sem, ↓reduceIte,Nat.reduceEqDiff,Nat.reduceAdd,Nat.reduceSub,Nat.reduceMul,Nat.reduceLeDiff,Nat.reduceBEq,reduceCtorEq,Nat.reduceLT,Int.reduceLE,Int.reduceLT,Int.reduceToNat,Int.reduceNeg,Int.reduceAdd,Int.reduceEq,fL];rfl);first|with_reducible apply qM.t|with_reducible apply qM.f)|(apply G3;apply hN;clear hN N;try(simp only[dr,bd, ↓reduceIte,Nat.reduceEqDiff]);try(apply hN;clear hN N))|apply zj|(refine ED ?_ ?_ ?_;(focus(simp only[go_sem, ↓reduceIte,Nat.reduceEqDiff,Nat.reduceAdd,Nat.reduceSub,Nat.reduceMul,Nat.reduceLeDiff,Nat.reduceBEq,reduceCtorEq,Nat.reduceLT,Int.reduceLE,Int.reduceLT,Int.reduceToNat,Int.reduceNeg,Int.reduceAdd,Int.reduceEq,fL];done));(focus(simp only[go_sem, ↓reduceIte,Nat.reduceEqDiff,Nat.reduceAdd,Nat.reduceSub,Nat.reduceMul,Nat.reduceLeDiff,Nat.reduceBEq,reduceCtorEq,Nat.reduceLT,Int.reduceLE,Int.reduceLT,Int.reduceToNat,Int.reduceNeg,Int.reduceAdd,Int.reduceEq,fL];done)))|((first|apply EE|apply EC|apply Ks);try(simp only[dr,bd, ↓reduceIte,Nat.reduceEqDiff]);try(apply hN;clear hN N))|((first|apply hN|(clear hN N;first|apply hN|(clear hN N;first|apply hN|(clear hN N;first|apply hN|(clear hN N;apply hN)))));clear hN N)))
  (repeat(revert N;apply Pn.out))
  exact kk):G:=h a r
theorem wa {A R G:Prop} (a:A) (r:R) (h:A->R->G:=by
  intro fL kk
  (repeat(apply Pn.mk;intro N hN))
  (first|((first|apply G4|apply Kr);intro N hN)|((first|(refine TH rfl fun N hN=>?_)|(apply Kq;intro N hN));simp only[go_sem, ↓reduceIte,Nat.reduceEqDiff,Nat.reduceAdd,Nat.reduceSub,Nat.reduceMul,Nat.reduceLeDiff,Nat.reduceBEq,reduceCtorEq,Nat.reduceLT,Int.reduceLE,Int.reduceLT,Int.reduceToNat,Int.reduceNeg,Int.reduceAdd,Int.reduceEq,fL];first|(apply hN;clear hN N)|skip)|(apply zk;(simp only[go_sem, ↓reduceIte,Nat.reduceEqDiff,Nat.reduceAdd,Nat.reduceSub,Nat.reduceMul,Nat.reduceLeDiff,Nat.reduceBEq,reduceCtorEq,Nat.reduceLT,Int.reduceLE,Int.reduceLT,Int.reduceToNat,Int.reduceNeg,Int.reduceAdd,Int.reduceEq,fL];rfl);first|with_reducible apply qM.t|with_reducible apply qM.f)|(apply G3;apply hN;clear hN N;try(simp only[dr,bd, ↓reduceIte,Nat.reduceEqDiff]);try(apply hN;clear hN N))|apply zj|(refine ED ?_ ?_ ?_;(focus(simp only[go_sem, ↓reduceIte,Nat.reduceEqDiff,Nat.reduceAdd,Nat.reduceSub,Nat.reduceMul,Nat.reduceLeDiff,Nat.reduceBEq,reduceCtorEq,Nat.reduceLT,Int.reduceLE,Int.reduceLT,Int.reduceToNat,Int.reduceNeg,Int.reduceAdd,Int.reduceEq,fL];done));(focus(simp only[go_sem, ↓reduceIte,Nat.reduceEqDiff,Nat.reduceAdd,Nat.reduceSub,Nat.reduceMul,Nat.reduceLeDiff,Nat.reduceBEq,reduceCtorEq,Nat.reduceLT,Int.reduceLE,Int.reduceLT,Int.reduceToNat,Int.reduceNeg,Int.reduceAdd,Int.reduceEq,fL];done)))|((first|apply EE|apply EC|apply Ks);try(simp only[dr,bd, ↓reduceIte,Nat.reduceEqDiff]);try(apply hN;clear hN N))|((first|apply hN|(clear hN N;first|apply hN|(clear hN N;first|apply hN|(clear hN N;first|apply hN|(clear hN N;apply hN)))));clear hN N))
  (repeat(first|((first|apply G4|apply Kr);intro N hN)|((first|(refine TH rfl fun N hN=>?_)|(apply Kq;intro N hN));simp only[go_sem, ↓reduceIte,Nat.reduceEqDiff,Nat.reduceAdd,Nat.reduceSub,Nat.reduceMul,Nat.reduceLeDiff,Nat.reduceBEq,reduceCtorEq,Nat.reduceLT,Int.reduceLE,Int.reduceLT,Int.reduceToNat,Int.reduceNeg,Int.reduceAdd,Int.reduceEq,fL];first|(apply hN;clear hN N)|skip)|(apply zk;(simp only[go_sem, ↓reduceIte,Nat.reduceEqDiff,Nat.reduceAdd,Nat.reduceSub,Nat.reduceMul,Nat.reduceLeDiff,Nat.reduceBEq,reduceCtorEq,Nat.reduceLT,Int.reduceLE,Int.reduceLT,Int.reduceToNat,Int.reduceNeg,Int.reduceAdd,Int.reduceEq,fL];rfl);first|with_reducible apply qM.t|with_reducible apply qM.f)|(apply G3;apply hN;clear hN N;try(simp only[dr,bd, ↓reduceIte,Nat.reduceEqDiff]);try(apply hN;clear hN N))|apply zj|(refine ED ?_ ?_ ?_;(focus(simp only[go_sem, ↓reduceIte,Nat.reduceEqDiff,Nat.reduceAdd,Nat.reduceSub,Nat.reduceMul,Nat.reduceLeDiff,Nat.reduceBEq,reduceCtorEq,Nat.reduceLT,Int.reduceLE,Int.reduceLT,Int.reduceToNat,Int.reduceNeg,Int.reduceAdd,Int.reduceEq,fL];done));(focus(simp only[go_sem, ↓reduceIte,Nat.reduceEqDiff,Nat.reduceAdd,Nat.reduceSub,Nat.reduceMul,Nat.reduceLeDiff,Nat.reduceBEq,reduceCtorEq,Nat.reduceLT,Int.reduceLE,Int.reduceLT,Int.reduceToNat,Int.reduceNeg,Int.reduceAdd,Int.reduceEq,fL];done)))|((first|apply EE|apply EC|apply Ks);try(simp only[dr,bd, ↓reduceIte,Nat.reduceEqDiff]);try(apply hN;clear hN N))|((first|apply hN|(clear hN N;first|apply hN|(clear hN N;first|apply hN|(clear hN N;first|apply hN|(clear hN N;apply hN)))));clear hN N)))
  (repeat(revert N;apply Pn.out))
  exact kk):G:=h a r
theorem sd {A G:Prop} (a:A) (h:A->G:=by
  intro fL
  first|(simp only[go_sem, ↓reduceIte,Nat.reduceEqDiff,Nat.reduceAdd,Nat.reduceSub,Nat.reduceMul,Nat.reduceLeDiff,Nat.reduceBEq,reduceCtorEq,Nat.reduceLT,Int.reduceLE,Int.reduceLT,Int.reduceToNat,Int.reduceNeg,Int.reduceAdd,Int.reduceEq,fL,iA,jP];done)|fail):G:=h a
theorem sl {A G:Prop} (a:A) (h:A->G:=by
  intro fL
  (try simp only[go_sem, ↓reduceIte,Nat.reduceEqDiff,Nat.reduceAdd,Nat.reduceSub,Nat.reduceMul,Nat.reduceLeDiff,Nat.reduceBEq,reduceCtorEq,Nat.reduceLT,Int.reduceLE,Int.reduceLT,Int.reduceToNat,Int.reduceNeg,Int.reduceAdd,Int.reduceEq,fL])
  try rfl):G:=h a
end Go.Proofs.YtoodopepphhpoaaGreatDoor.V

namespace Go.Proofs.YtoodopepphhpoaaGreatDoor.V
open Go.RowKit
variable {P:Program} {X:im} {env:Env} {σ:aw}
theorem br (g:Rows) (n:Nat) (l:List AV):fz g (n+1) (.fX l)=(eC g n l).map AV.fX:=by rw[fz]
theorem cK (g:Rows) (n:Nat) (f:Nat) (l:List AV):fz g (n+1) (.fn f l)=if l.all AV.cell then(eC g n l).map (AV.fn f)else none:=by rw[fz]
theorem aW (g:Rows) (n:Nat) (id:Id) (i off:Nat):fz g (n+1) (.ptr id i off)=match g id with
  |some r=>if r.w then(match r.rows[i]? with
   |some cs=>(eC g n (cs.drop off)).map AV.er
   |none=>none)else none
  |none=>none:=by rw[fz];rfl
theorem jY (g:Rows) (n:Nat) (id:Id) (off len:Nat):fz g (n+1) (.own id off len)=match g id with
  |some r=>if r.w then(if off+len<=r.rows.length then(fm g n ((r.rows.drop off).take len)).map AV.sl else none)else none
  |none=>none:=by rw[fz];rfl
theorem rf (g:Rows) (n:Nat):fm g n []=some []:=by rw[fm]
theorem Dx (g:Rows) (n:Nat) (c:List AV) (l:List (List AV)):fm g n (c::l)=match eC g n c with
  |some b=>(fm g n l).map (b::·)
  |none=>none:=by rw[fm];cases eC g n c<;>rfl
theorem zY {g:Rows} {n:Nat}:∀{l:List (List AV)},(∀c∈l,eC g n c=some c)->fm g n l=some l
 |[],_=>by rw[fm]
 |c::r,h=>by rw[fm,h c (by simp),zY fun d hd=>h d (List.mem_cons_of_mem _ hd)];rfl
theorem tL {α:Type} {g:Rows} {n:Nat} {e:α->List AV} {l:List α} (h:∀x,eC g n (e x)=some (e x)):fm g n (l.map e)=some (l.map e):=zY fun c hc=>by
 obtain⟨x,_,rfl⟩:=List.mem_map.1 hc
 exact h x
theorem xX {α:Type} {g:Rows} {n:Nat} {e:α->List AV} {l:List α} (h:∀x,fA g n (e x)=some (e x)):iK g n (l.map e)=some (l.map e):=xV fun c hc=>by
 obtain⟨x,_,rfl⟩:=List.mem_map.1 hc
 exact h x
theorem gm {α:Type} {g:Rows} {n:Nat} {e:α->List AV} {l:List α} {id:Id} {sz len:Nat} (hg:g id=some ⟨true,sz,l.map e⟩) (hl:len=l.length) (h:∀x,eC g n (e x)=some (e x)):fz g (n+1) (.own id 0 len)=some (.sl (l.map e)):=by
 subst hl
 rw[jY];simp only[hg,if_true]
 rw[if_pos (by simp),List.drop_zero,List.take_of_length_le (by simp),tL h];rfl
theorem fN {α:Type} {g:Rows} {n:Nat} {e:α->List AV} {l:List α} {id:Id} {sz len:Nat} (hg:g id=some ⟨true,sz,l.map e⟩) (hl:len=l.length) (h:∀x,fA g n (e x)=some (e x)):iy g (n+1) (.own id 0 len)=some (.sl (l.map e)):=by
 subst hl
 exact uZ hg (by simp) (by rw[List.drop_zero,List.take_of_length_le (by simp),xX h])
theorem all_map {α:Type} {e:α->List AV} {sz:Nat} {l:List α} (h:∀x,(e x).length=sz/\(e x).all AV.cell=true):(l.map e).all (fun c=>c.length==sz&&c.all AV.cell)=true:=by
 rw[List.all_eq_true]
 intro c hc
 obtain⟨x,_,rfl⟩:=List.mem_map.1 hc
 simp[(h x).1,(h x).2]
def RowM (P:Program) (f:Nat) (args:List AV) (sz:Nat) (rows:List (List AV)):Prop:=(∀c∈rows,∀a∈c,a.plain=true)/\∀n:Nat,Call P f args ⟨fun _=>none,n⟩ fun r σ'=>∃id,r=.own id 0 rows.length/\σ'.get id=some ⟨true,sz,rows⟩
theorem rP {res:List sV} {r:AV} {vs:List AV} {x:Ex} (hx:x=.ret∨x=.normal) (hv:iA env σ.get res=some vs) (hz:iy σ.get 6 (iF vs)=some r):oM res (fun r0 σ'=>∃r',iy σ'.get 6 r0=some r'/\r'=r) x env σ:=by
 rcases hx with rfl|rfl
 ·exact⟨vs,hv,r,hz,rfl⟩
 ·exact⟨vs,hv,r,hz,rfl⟩
theorem fc {res:List sV} {K:AV->aw->Prop} {vs:List AV} {x:Ex} (hx:x=.ret∨x=.normal) (hv:iA env σ.get res=some vs) (hK:K (iF vs) σ):oM res K x env σ:=by
 rcases hx with rfl|rfl
 ·exact⟨vs,hv,hK⟩
 ·exact⟨vs,hv,hK⟩
theorem fV {f:Nat} {args:List AV} {σ:aw} {K:AV->aw->Prop} {nt na:Nat} {body:VC} {res:List sV} (hf:Fg P f=some ⟨nt,na,body,res⟩) (ha:na=args.length) (h:(∀a∈args,fP a)->eu (Call P) body (oM res K) (cw args) σ):Call P f args σ K:=r7 hf ha h
theorem C7 {f:Nat} {md:List (Nat×Nat)} {args:List AV} {σ:aw} {K:AV->aw->Prop} {nt na:Nat} {body:VC} {res:List sV} (hf:zG P f md=some ⟨nt,na,body,res⟩) (ha:na=args.length) (h:(∀a∈args,fP a)->eu (Call P) body (oM res K) (cw args) σ):Call P f args σ K:=zp hf ha h
theorem dp {i:Id} {n:Nat} (h:i.bt<n):(∀s,(i=⟨s,n⟩)=False/\(i=⟨s,n+1⟩)=False/\(i=⟨s,n+1+1⟩)=False/\(i=⟨s,n+1+1+1⟩)=False/\(i=⟨s,n+1+1+1+1⟩)=False/\(i=⟨s,n+1+1+1+1+1⟩)=False/\(i=⟨s,n+1+1+1+1+1+1⟩)=False/\(i=⟨s,n+1+1+1+1+1+1+1⟩)=False/\(i=⟨s,n+1+1+1+1+1+1+1+1⟩)=False/\(i=⟨s,n+1+1+1+1+1+1+1+1+1⟩)=False/\(⟨s,n⟩=i)=False/\(⟨s,n+1⟩=i)=False/\(⟨s,n+1+1⟩=i)=False/\(⟨s,n+1+1+1⟩=i)=False/\(⟨s,n+1+1+1+1⟩=i)=False/\(⟨s,n+1+1+1+1+1⟩=i)=False/\(⟨s,n+1+1+1+1+1+1⟩=i)=False/\(⟨s,n+1+1+1+1+1+1+1⟩=i)=False/\(⟨s,n+1+1+1+1+1+1+1+1⟩=i)=False/\(⟨s,n+1+1+1+1+1+1+1+1+1⟩=i)=False)/\(i.bt=n)=False/\(i.bt=n+1)=False/\(i.bt=n+1+1)=False/\(i.bt=n+1+1+1)=False/\(i.bt=n+1+1+1+1)=False/\(i.bt=n+1+1+1+1+1)=False/\(i.bt=n+1+1+1+1+1+1)=False/\(i.bt=n+1+1+1+1+1+1+1)=False/\(i.bt=n+1+1+1+1+1+1+1+1)=False/\(i.bt=n+1+1+1+1+1+1+1+1+1)=False:=by
 refine⟨fun s=>?_,?_⟩
 ·obtain⟨a,b⟩:=i
  simp only[Id.mk.injEq,eq_iff_iff,iff_false,not_and]
  simp only at h
  refine⟨?_,?_,?_,?_,?_,?_,?_,?_,?_,?_,?_,?_,?_,?_,?_,?_,?_,?_,?_,?_⟩<;>(intros;omega)
 ·simp only[eq_iff_iff,iff_false]
  refine⟨?_,?_,?_,?_,?_,?_,?_,?_,?_,?_⟩<;>omega
def ML (a b:Nat) (ids:List Id):Prop:=ids.Nodup/\∀i∈ids,a<=i.bt/\i.bt<b
def Kept (σ σ':aw):Prop:=σ.next<=σ'.next/\∀j:Id,j.bt<σ.next->σ'.get j=σ.get j
end Go.Proofs.YtoodopepphhpoaaGreatDoor.V

namespace Go.Proofs.YtoodopepphhpoaaGreatDoor.V
open Go.RowKit
attribute [local irreducible] eu wpOps fB Call
attribute [go_sem] aD fx eK fG fF dz upd cw K.av cJ AV.cells AV.cell rowOf rowsOf part ld rowAt fY ck cq dF dP gh bH da ec fD eU dx dV cY cX dJ dK bK aU cP bJ cR cQ dS dW dU cL bU cZ dQ bI aA cV cE fZ bq cI bQ aP dr bd dG AV.undef bx bD dL dM dH dI cH eb ee cD dY dX cU cW List.getD_cons_zero List.getD_cons_succ List.getD_nil List.all_cons List.all_nil Bool.and_true Bool.true_and Bool.and_self Bool.not_true Bool.not_false Option.map_some Option.map_none Option.bind_some Option.bind_none List.length_cons List.length_nil List.take_succ_cons List.take_zero List.take_nil List.drop_succ_cons List.drop_zero List.drop_nil List.head?_cons List.map_cons List.map_nil List.getElem?_cons_zero List.getElem?_cons_succ List.cons_append List.nil_append List.append_nil List.length_map List.set_cons_zero List.set_cons_succ Nat.reduceMul eq_self Int.toNat_natCast Int.natCast_nonneg and_self true_and and_true decide_true decide_false Bool.false_eq_true Nat.zero_add Nat.add_zero List.contains_cons List.contains_nil Bool.or_false Bool.false_or beq_self_eq_true Nat.reduceBEq ne_eq not_true_eq_false not_false_eq_true Id.mk.injEq false_and and_false Nat.reduceLT Int.reduceLE Int.reduceLT Int.reduceToNat Int.reduceNeg Int.reduceAdd Nat.le_refl List.length_append beq_true beq_false Bool.not_eq_eq_eq_not or_false false_or ez aj ar aJ aZ bF cz aM bj aK aW cK br
variable {P:Program}
end Go.Proofs.YtoodopepphhpoaaGreatDoor.V

namespace Go.Proofs.YtoodopepphhpoaaGreatDoor
open Go.RowKit
def Sl (w:World) (fp:List Nat) (v:Value) (n:Nat) (xs:List Value):Prop:=
 ∃A c,v=.slice A n c/\n<=c/\c<=maxLen/\
  ((fp=[]/\n=0)∨∃b o,fp=[b]/\A=some ⟨b,o,none⟩/\∀j u,xs[j]? =some u->w.cell? ⟨b,o+j,none⟩=some u)
def mV (fp:List Nat) (lo hi:Nat):Prop:=∀b∈fp,lo<=b/\b<hi
theorem mV.nil (lo hi:Nat):mV [] lo hi:=fun _ h=>by cases h
theorem Sl.nil (w:World):Sl w [] (.slice none 0 0) 0 []:=⟨none,0,rfl,Nat.le_refl _,by simp[maxLen],.inl ⟨rfl,rfl⟩⟩
def TV {α:Type} (rep:World->List Nat->List Value->α->Prop) (sz:Nat) (w:World) (qW:List (List Value)) (JG:List (List Nat)) (ds:List α):Prop:=
 qW.length=ds.length/\JG.length=ds.length/\∀(i:Nat) (cs:List Value) (f:List Nat) (d:α),qW[i]? =some cs->JG[i]? =some f->ds[i]? =some d->rep w f cs d/\cs.length=sz
def qu {α:Type} (rep:World->List Nat->List Value->α->Prop) (sz:Nat) (w:World) (fp:List Nat) (v:Value) (ds:List α):Prop:=
 ∃qW JG fp0,fp=fp0++JG.flatten/\Sl w fp0 v ds.length qW.flatten/\TV rep sz w qW JG ds
theorem tZ {α:Type} {JG:List (List α)} {i:Nat} {f:List α} (h:JG[i]? =some f):∀b∈f,b∈JG.flatten:=fun b hb=>
 List.mem_flatten.2 ⟨f,List.mem_of_getElem? h,hb⟩
theorem xU {α:Type} {qW:List (List α)} {sz:Nat} (h:∀cs∈qW,cs.length=sz) {i j:Nat} {cs:List α} (hi:qW[i]? =some cs) (hj:j<sz):qW.flatten[i*sz+j]? =cs[j]? :=by
 induction qW generalizing i with
 |nil=>simp at hi
 |cons c r ih=>
  have hc:c.length=sz:=h c (by simp)
  cases i with
  |zero=>
   simp at hi;subst hi
   rw[List.flatten_cons,List.getElem?_append_left (by omega)];simp
  |succ i=>
   rw[List.flatten_cons,List.getElem?_append_right (by rw[hc,Nat.succ_mul];omega)]
   have:(i+1)*sz+j-c.length=i*sz+j:=by rw[hc,Nat.succ_mul];omega
   rw[this]
   exact ih (fun cs eD=>h cs (List.mem_cons_of_mem _ eD)) (by simpa using hi)
theorem TV.lens {α:Type} {rep:World->List Nat->List Value->α->Prop} {sz:Nat} {w:World} {qW:List (List Value)} {JG:List (List Nat)} {ds:List α}
  (h:TV rep sz w qW JG ds):∀cs∈qW,cs.length=sz:=fun cs eD=>by
 obtain⟨i,hi,rfl⟩:=List.getElem_of_mem eD
 have h1:i<JG.length:=by rw[h.2.1,<-h.1];exact hi
 have h2:i<ds.length:=by rw[<-h.1];exact hi
 exact(h.2.2 i _ _ _ (List.getElem?_eq_getElem hi) (List.getElem?_eq_getElem h1) (List.getElem?_eq_getElem h2)).2
theorem qu.at_ {α:Type} {rep:World->List Nat->List Value->α->Prop} {sz:Nat} {w:World} {fp:List Nat} {A:Option Addr} {n c:Nat} {ds:List α}
  (h:qu rep sz w fp (.slice A n c) ds) (k:Nat) (hk:k<ds.length):
  ∃b o cs f,A=some ⟨b,o,none⟩/\b∈fp/\(∀x∈f,x∈fp)/\rep w f cs ds[k]/\cs.length=sz/\∀j u,cs[j]? =some u->w.cell? ⟨b,o+(k*sz+j),none⟩=some u:=by
 obtain⟨qW,JG,fp0,rfl,⟨A',c',hv,_,_,hc⟩,hr⟩:=h
 simp only[Value.slice.injEq]at hv
 obtain⟨rfl,hn,rfl⟩:=hv
 rcases hc with⟨_,h0⟩|⟨b,o,rfl,rfl,hc⟩
 ·omega
 have h1:k<qW.length:=by rw[hr.1];exact hk
 have h2:k<JG.length:=by rw[hr.2.1];exact hk
 obtain⟨je,hl⟩:=hr.2.2 k _ _ _ (List.getElem?_eq_getElem h1) (List.getElem?_eq_getElem h2) (List.getElem?_eq_getElem hk)
 refine⟨b,o,qW[k],JG[k],rfl,by simp,fun x hx=>List.mem_append_right _ (tZ (List.getElem?_eq_getElem h2) x hx),je,hl,fun j u hj=>?_⟩
 have iP:j<sz:=by rw[<-hl];exact(List.getElem?_eq_some_iff.1 hj).1
 exact hc _ u (by rw[xU hr.lens (List.getElem?_eq_getElem h1) iP];exact hj)
theorem qu.len {α:Type} {rep:World->List Nat->List Value->α->Prop} {sz:Nat} {w:World} {fp:List Nat} {v:Value} {ds:List α}
  (h:qu rep sz w fp v ds):∃A c,v=.slice A ds.length c/\ds.length<=c/\c<=maxLen:=by
 obtain⟨_,_,_,_,⟨A,c,hv,h1,h2,_⟩,_⟩:=h
 exact⟨A,c,hv,h1,h2⟩
theorem qu.nil {α:Type} (rep:World->List Nat->List Value->α->Prop) (sz:Nat) (w:World):qu rep sz w [] (.slice none 0 0) ([]:List α):=
 ⟨[],[],[],rfl,Sl.nil w,rfl,rfl,fun i cs f d hc=>by simp at hc⟩
def Flat {α:Type} (enc:α->List Value):World->List Nat->List Value->α->Prop:=fun _ f cs d=>f=[]/\cs=enc d
def Q (w w':World):Prop:=∃q,w'=w.drewN q
theorem Yf {B:Nat} {a w:World} (h:Below B a w) (n:Nat):Below B a (w.drewN n):=⟨h.os,h.tape,h.output,h.size,h.block⟩
theorem jO {a b:Bool} (h:a=b):Ending.returned (.bool a)=.returned (.bool b):=by rw[h]
theorem J7 {k:IntKind} {a b:Int} (h:a=b):Ending.returned (.int k a)=.returned (.int k b):=by rw[h]
def Unf (w:World) (b:Nat):Prop:=∃cs e,w.heap[b]? =some (.cells cs e (0,0))
def putCells (w:World) (g:Nat):Nat->List Value->World
 |_,[]=>w
 |i,v::r=>putCells (w.setCell ⟨g,i,none⟩ v) g (i+1) r
structure lx (fp:List Nat) (w w':World):Prop where
 os:w'.os=w.os
 tape:w'.tape=w.tape
 output:w'.output=w.output
 size:w.heap.size<=w'.heap.size
 block:∀x,x<w.heap.size->x∉fp->w'.heap[x]? =w.heap[x]?
 unf:∀x,Unf w x->Unf w' x
theorem lx.trans {fp:List Nat} {a b c:World} (h:lx fp a b) (k:lx fp b c):lx fp a c:=
 ⟨k.os.trans h.os,k.tape.trans h.tape,k.output.trans h.output,Nat.le_trans h.size k.size,fun x h1 h2=>(k.block x (Nat.lt_of_lt_of_le h1 h.size) h2).trans (h.block x h1 h2),fun x hx=>k.unf x (h.unf x hx)⟩
structure aq where
 fE:Int
 fw:Int
deriving DecidableEq
structure aa where
 bf:aq
 bc:Int
deriving DecidableEq
structure tt where
 ai:List aa
deriving DecidableEq
structure ig where
 bW:ByteArray
 gR:Int
deriving DecidableEq
structure dD where
 bW:ByteArray
 de:List Int
deriving DecidableEq
structure ay where
 aQ:List ig
 ai:List dD
deriving DecidableEq
structure au where
 az:ay
 dc:tt
 aI:Int
deriving DecidableEq
def iu (d:aq):List Value:=[.int .i64 d.fE,.int .i64 d.fw]
def gJ (d:aa):List Value:=[.int .i64 d.bf.fE,.int .i64 d.bf.fw,.int .i64 d.bc]
end Go.Proofs.YtoodopepphhpoaaGreatDoor

namespace Go.Proofs.YtoodopepphhpoaaGreatDoor.V
open Go.RowKit
variable {P:Program} {w:World} {D:Nat->Prop}
def ME (P:Program) (w:World) (D:Nat->Prop) (al:List AV) (cs:List Value):Prop:=∀(j:Nat) (a:AV),al[j]? =some a->∃u:Value,cs[j]? =some u/\lO P w D a u
theorem Ph {α:Type} {rep:World->List Nat->List Value->α->Prop} {e:α->List AV} {sz:Nat} {f:List Nat} {v:Value} {xs:List α} (h:qu rep sz w f v xs) (hD:∀b∈f,D b)
  (hl:∀x∈xs,(e x).length=sz) (hc:∀x∈xs,∀a∈e x,a.cell=true) (hr:∀x∈xs,∀f' cs,rep w f' cs x->(∀b∈f',D b)->ME P w D (e x) cs):lO P w D (.sl (xs.map e)) v:=by
 obtain⟨A,c,rfl,h1,h2⟩:=qu.len h
 by_cases h0:xs=[]
 ·subst h0;exact .ES _ _ h2
 have lX:0<xs.length:=List.length_pos_iff.2 h0
 obtain⟨b,o,cs0,f0,rfl,hb,hf0,hr0,QV,kJ⟩:=qu.at_ h 0 lX
 have key:∀(i:Nat) (hi:i<xs.length),∃cs f',(∀x∈f',x∈f)/\rep w f' cs xs[i]/\cs.length=sz/\∀j u,cs[j]? =some u->w.cell? ⟨b,o+(i*sz+j),none⟩=some u:=by
  intro i hi
  obtain⟨b',o',cs,f',hbo,_,XA,mj,eD,mh⟩:=qu.at_ h i hi
  simp only[Option.some.injEq,Addr.mk.injEq,and_true]at hbo
  obtain⟨rfl,rfl⟩:=hbo
  exact⟨cs,f',XA,mj,eD,mh⟩
 refine .sl _ b o _ c sz (fun i j=>(w.cell? ⟨b,o+(i*sz+j),none⟩).getD Go.undef) (by simp) h1 h2 (hD b hb) ?_ ?_ ?_ ?_
 ·intro cs eD
  obtain⟨x,hx,rfl⟩:=List.mem_map.1 eD
  exact hl x hx
 ·intro cs eD
  obtain⟨x,hx,rfl⟩:=List.mem_map.1 eD
  exact hc x hx
 ·intro i j hi hj
  obtain⟨cs,f',_,_,eD,mh⟩:=key i hi
  rw[mh j cs[j] (List.getElem?_eq_getElem ad)]
  rfl
 ·intro i j cs a eD ha
  have hi:i<xs.length:=by
   have:=(List.getElem?_eq_some_iff.1 eD).1
   simpa using this
  obtain⟨uS,f',XA,mj,hcs',mh⟩:=key i hi
  simp[hi]at eD
  subst eD
  obtain⟨u,hu,him⟩:=hr _ (List.getElem_mem hi) f' uS mj (fun b hb=>hD b (XA b hb)) j a ha
  rw[mh j u hu]
  exact him
end Go.Proofs.YtoodopepphhpoaaGreatDoor.V

namespace Go.Proofs.YtoodopepphhpoaaGreatDoor.V
open Go.RowKit
variable {P:Program} {w:World} {D:Nat->Prop}
def aL (d:Int):List AV:=[.int .i64 d]
def ah (d:aq):List AV:=[.int .i64 d.fE,.int .i64 d.fw]
def ab (d:aa):List AV:=[.int .i64 d.bf.fE,.int .i64 d.bf.fw,.int .i64 d.bc]
def Xt (d:tt):List AV:=[.sl (d.ai.map ab)]
def ej (d:ig):List AV:=[.str d.bW,.int .i64 d.gR]
def du (d:dD):List AV:=[.str d.bW,.sl (d.de.map aL)]
def ae (d:ay):List AV:=[.sl (d.aQ.map ej),.sl (d.ai.map du)]
def dh (d:au):List AV:=[.sl (d.az.aQ.map ej),.sl (d.az.ai.map du),.sl (d.dc.ai.map ab),.int .i64 d.aI]
end Go.Proofs.YtoodopepphhpoaaGreatDoor.V

namespace Go.Proofs.YtoodopepphhpoaaGreatDoor.V
open Go.RowKit
attribute [local irreducible] eu wpOps fB Call
section
variable {P:Program}
theorem uu {X:im} {Q:Ex->Env->aw->Prop} {N:Env->aw->Prop} {c:VC} {env:Env} {σ:aw} (I:Env->aw->Prop) (h2:∀e s,I e s->N e s) (h1:∀N':Env->aw->Prop,(∀e s,I e s->N' e s)->eu X c (dr N' Q) env σ):eu X c (dr N Q) env σ:=h1 N h2
def xh (f z:Nat) (a:Bool):Kx:=let s:=f*1000000
 ⟨19,2,(.seq (.ib false [q 4 (.fe (.k (.int .i64 0))) s]) (.seq (.seq (.ib false [q 6 (.fe (.t 0)) (s+1000),q 7 (.len (.t 6)) (s+1001),q 8 (.fe (.k (.int .i64 0))) (s+1002)]) (.block 0 (.loop (.seq (.ib false [q 9 (.bin .lss .i64 (.t 8) (.t 7)) (s+2000)]) (.seq (.cond (.t 9) .skip (.exit 0)) (.seq (.block 1 (.seq (.ib false [q 10 (.fe (.t 8)) (s+3000),q 5 (.fe (.t 10)) (s+3001)]) (.seq (.ib false [q 11 (.fe (.t 1)) (s+4000),q 12 (.fe (.t 0)) (s+4001),q 13 (.fe (.t 5)) (s+4002),q 14 (.jj z (.t 12) (.t 13)) (s+4003),q 15 (.load a z (.t 14)) (s+4004),q 16 (.xQ (.t 11) [(.t 15)]) (s+4005)]) (.cond (.t 16) (.seq (.ib false [q 17 (.fe (.t 5)) (s+5000),q 4 (.fe (.t 17)) (s+5001)]) .ret) .skip)))) (.ib false [q 18 (.bin .add .i64 (.t 8) (.k (.int .i64 1))) (s+6000),q 8 (.fe (.t 18)) (s+6001)]))))))) (.seq (.ib false [q 4 (.fe (.k (.int .i64 (-1)))) (s+7000)]) .ret))),[(.tmp 4)]⟩
def DH (f g:Nat):Kx:=let s:=f*1000000
 ⟨9,2,(.seq (.ib false [q 4 (.fe (.k (.bool false))) s]) (.seq (.ib false [q 5 (.fe (.t 0)) (s+1000),q 6 (.fe (.t 1)) (s+1001),q 7 (.call g [(.t 5),(.t 6)]) (s+1002),q 8 (.bin .geq .i64 (.t 7) (.k (.int .i64 0))) (s+1003),q 4 (.fe (.t 8)) (s+1004)]) .ret)),[(.tmp 4)]⟩
def mc {α:Type} (p:α->Bool) (xs:List α):Int:=if xs.findIdx p<xs.length then(xs.findIdx p:Int)else -1
theorem Nu {α:Type} (p:α->Bool) (xs:List α):decide (0<=mc p xs)=xs.any p:=by
 unfold mc
 by_cases h:xs.findIdx p<xs.length
 ·rw[if_pos h]
  have:xs.any p=true:=List.any_eq_true.2 (List.findIdx_lt_length.1 h)
  rw[this];simp
 ·rw[if_neg h]
  have:xs.any p=false:=by
   rw[Bool.eq_false_iff]
   intro hc
   exact h (List.findIdx_lt_length.2 (List.any_eq_true.1 hc))
  rw[this];rfl
theorem yV (a:AV) (l m:List AV):a::l++m=a::(l++m):=rfl
theorem Df (l:List AV):[]++l=l:=rfl
structure X1 {α:Type} (e:α->List AV) (v:α->AV) (z:Nat) (a:Bool):Prop where
 len:∀x,(e x).length=z
 val:∀x,if a=true then v x=.agg (e x)else e x=[v x]
 fz:∀x g,eC g 6 [v x]=some [v x]
theorem yc {α:Type} {e:α->List AV} {v:α->AV} {z fk:Nat} {a:Bool} (hE:X1 e v z a) (hc:Fg P fk=some (xh fk z a)) (xs:List α) (hlen:xs.length<=1048576) (f:Nat) (ek:List AV) (p:α->Bool)
  (hf:∀x∈xs,ax P f (v x::ek) (.bool (p x))) (NQ:∀g,eC g 6 ek=some ek):
  ax P fk [.sl (xs.map e),.fn f ek] (.int .i64 (mc p xs)):=by
 refine ax.body hc rfl fun hl n0=>?_
 try simp only[q]
 clear hl
 (try((repeat(revert N;apply Pn.out));refine wk @Nat.zero_add ?_;(repeat(apply Pn.mk;intro N hN))))
 refine cm (fun n env st=>∃k:Nat,n=(xs.length)-k/\k<=(xs.length)/\env 8=.int .i64 (k:Int)/\(∀j:Nat,j<k->∀h:j<xs.length,p xs[j]=false)) (xs.length) ⟨0,ad,ad,sl @Nat.zero_add,fun _ h=>absurd h (Nat.not_lt_zero _)⟩ ?_
 rintro n_a env_a st_a ⟨k,rfl,ale,a8,qJ⟩ eJ
 have a0:=eJ 0 (by kernel_rfl);have a1:=eJ 1 (by kernel_rfl);have a7:=eJ 7 (by kernel_rfl)
 simp only[go_sem, ↓reduceIte,Nat.reduceEqDiff,Nat.reduceAdd,Nat.reduceSub,Nat.reduceLeDiff,reduceCtorEq]at a0 a1 a7
 clear eJ
 by_cases hk:(k:Int)<(xs.length:Int)
 ·have eh:∀{e:Env},(e 8=.int .i64 (IntKind.i64.wrap ((k:Int)+1)))->(∀h:k<xs.length,p xs[k]=false)->∃m0,m0<(xs.length)-k/\∃k:Nat,m0=(xs.length)-k/\k<=(xs.length)/\e 8=.int .i64 (k:Int)/\(∀j:Nat,j<k->∀h:j<xs.length,p xs[j]=false):=fun x1 x2=>⟨_,ad,k+1,rfl,ad,(by rw[x1,aX ad]),(all_succ qJ x2)⟩
  have ji:k<xs.length:=ad
  have hg:(xs.map e)[k]? =some (e xs[k]):=by simp[ji]
  have F0:=hf _ (List.getElem_mem ji)
  have hz:=hE.len xs[k]
  have hv:=hE.val xs[k]
  have qH:eC (ez st_a.get) 6 (v xs[k]::ek)=some (v xs[k]::ek):=by
   have h1:=hE.fz xs[k] (ez st_a.get)
   rw[aj,ar]at h1
   rw[aj,NQ]
   revert h1
   cases V.fz (ez st_a.get) 6 (v xs[k])<;>simp
  have fin:∀hN:True,(p xs[k]=true->xs.findIdx p=k):=fun _ hp=>by
   rw[List.findIdx_eq ji];exact⟨hp,fun j hj=>qJ j hj ad⟩
  cases hp:p xs[k]
  ·have Zq:=hp
   cases a
   ·rw[if_neg (by simp)]at hv
    have Ak:z=1:=by rw[<-hz,hv];rfl
    subst Ak
    rw[hv]at hg hz
    rw[hp]at F0
    generalize v xs[k]=c at F0 qH hg hz
    (try((repeat(revert N;apply Pn.out));refine wk (tw @a8 (tw @a0 (tw @a1 (tw @a7 (tw @hk (tw @hg (tw @hz (tw @yV @Df)))))))) ?_;(repeat(apply Pn.mk;intro N hN))))
    refine .inl ⟨_,ax.x F0 qH,?_⟩
    apply hN
    clear hN N
    (try((repeat(revert N;apply Pn.out));refine wk (tw @a8 (tw @a0 (tw @a1 @a7))) ?_;(repeat(apply Pn.mk;intro N hN))))
    exact eh (sd (tw @a8 (tw @a0 (tw @a1 @a7)))) (fun _=>Zq)
   ·rw[if_pos rfl]at hv
    have ht:(e xs[k]).take z=e xs[k]:=by rw[<-hz,List.take_length]
    rw[hv]at F0 qH
    rw[hp]at F0
    generalize e xs[k]=c at F0 qH hg hz ht
    (try((repeat(revert N;apply Pn.out));refine wk (tw @a8 (tw @a0 (tw @a1 (tw @a7 (tw @hk (tw @hg (tw @hz (tw @ht (tw @yV (tw @Df @Nat.le_refl)))))))))) ?_;(repeat(apply Pn.mk;intro N hN))))
    refine .inl ⟨_,ax.x F0 qH,?_⟩
    apply hN
    clear hN N
    (try((repeat(revert N;apply Pn.out));refine wk (tw @a8 (tw @a0 (tw @a1 @a7))) ?_;(repeat(apply Pn.mk;intro N hN))))
    exact eh (sd (tw @a8 (tw @a0 (tw @a1 @a7)))) (fun _=>Zq)
  ·have hi:=fin trivial hp
   cases a
   ·rw[if_neg (by simp)]at hv
    have Ak:z=1:=by rw[<-hz,hv];rfl
    subst Ak
    rw[hv]at hg hz
    rw[hp]at F0
    generalize v xs[k]=c at F0 qH hg hz
    (try((repeat(revert N;apply Pn.out));refine wk (tw @a8 (tw @a0 (tw @a1 (tw @a7 (tw @hk (tw @hg (tw @hz (tw @yV @Df)))))))) ?_;(repeat(apply Pn.mk;intro N hN))))
    refine .inl ⟨_,ax.x F0 qH,?_⟩
    apply hN
    clear hN N
    (try((repeat(revert N;apply Pn.out));refine wk (tw @a8 (tw @a0 (tw @a1 @a7))) ?_;(repeat(apply Pn.mk;intro N hN))))
    exact eQ (b:=(k:Int)) (.inl rfl) (sd @Nat.zero_add) (by rw[mc,hi,if_pos ji])
   ·rw[if_pos rfl]at hv
    have ht:(e xs[k]).take z=e xs[k]:=by rw[<-hz,List.take_length]
    rw[hv]at F0 qH
    rw[hp]at F0
    generalize e xs[k]=c at F0 qH hg hz ht
    (try((repeat(revert N;apply Pn.out));refine wk (tw @a8 (tw @a0 (tw @a1 (tw @a7 (tw @hk (tw @hg (tw @hz (tw @ht (tw @yV (tw @Df @Nat.le_refl)))))))))) ?_;(repeat(apply Pn.mk;intro N hN))))
    refine .inl ⟨_,ax.x F0 qH,?_⟩
    apply hN
    clear hN N
    (try((repeat(revert N;apply Pn.out));refine wk (tw @a8 (tw @a0 (tw @a1 @a7))) ?_;(repeat(apply Pn.mk;intro N hN))))
    exact eQ (b:=(k:Int)) (.inl rfl) (sd @Nat.zero_add) (by rw[mc,hi,if_pos ji])
 ·(try((repeat(revert N;apply Pn.out));refine wk (tw @a8 (tw @a0 (tw @a1 (tw @a7 @hk)))) ?_;(repeat(apply Pn.mk;intro N hN))))
  have hi:¬xs.findIdx p<xs.length:=by
   rw[List.findIdx_lt_length]
   rintro⟨x,hx,Vk⟩
   obtain⟨j,hj,rfl⟩:=List.getElem_of_mem hx
   rw[qJ j ad hj]at Vk;cases Vk
  exact eQ (b:=-1) (.inl rfl) (sd @Nat.zero_add) (by rw[mc,if_neg hi])
theorem mZ {α:Type} {e:α->List AV} {v:α->AV} {z fk gk:Nat} {a:Bool} (hE:X1 e v z a) (hc:Fg P fk=some (DH fk gk)) (HY:Fg P gk=some (xh gk z a)) (xs:List α) (hlen:xs.length<=1048576) (f:Nat) (ek:List AV) (p:α->Bool) (FO:ek.all AV.cell=true) (NT:∀g,eC g 5 ek=some ek)
  (hf:∀x∈xs,ax P f (v x::ek) (.bool (p x))) (NQ:∀g,eC g 6 ek=some ek):
  ax P fk [.sl (xs.map e),.fn f ek] (.bool (xs.any p)):=by
 refine ax.body hc rfl fun hl n0=>?_
 try simp only[q]
 clear hl
 have hi:=yc hE HY xs hlen f ek p hf NQ
 (repeat(first|((repeat(revert N;apply Pn.out));refine wk (tw @FO @NT) ?_;(repeat(apply Pn.mk;intro N hN)))|((try apply Or.inl);refine⟨_,ax.x (hi) (sd (tw @FO @NT)),?_⟩;apply hN;clear hN N)))
 exact di (b:=decide (0<=mc p xs)) (.inl rfl) (sd @Nat.zero_add) (Nu p xs)
end
def sr (P:Program) (mk:Bool):List Oper->Nat->List Nat
 |[],_=>[]
 |o::r,i=>match uv P o.op with
  |some v=>if tY v||mk&&v.oK then i::sr P mk r (i+1)else sr P mk r (i+1)
  |none=>sr P mk r (i+1)
def zH (P:Program) (ops:Array Oper) (site0:Nat) (mk:Bool) (bs:Array Nat) (hidden:List Nat):List Oper->Nat->Option (List bY)
 |[],_=>some []
 |o::r,j=>do
  let v <-uv P o.op
  let g <-HE ops o
  pure ({dst:=o.dst,op:=v,guard:=g,site:=site0+j,hid:=(hidden.filter fun i=> !(bs.getD j 0).testBit i&&(i !=j||mk&&v.oK)).map fun i=>site0+i}::(<-zH P ops site0 mk bs hidden r (j+1)))
def qU (P:Program) (md:List (Nat×Nat)) (fid:Nat):Code->Option VC
 | .skip=>some .skip
 | .region id ops draw=>if draw&&xo md id==2 then(zH P ops ((fid*1000+id)*1000) false (kn ops) (sr P false ops.toList 0) ops.toList 0).bind fun vl=>yw ops vl (kn ops) ops.size (Array.replicate ops.size false)else if draw then(zH P ops ((fid*1000+id)*1000) (xo md id==1) (kn ops) (sr P (xo md id==1) ops.toList 0) ops.toList 0).map (VC.ib true)else(zH P ops ((fid*1000+id)*1000) false #[] [] ops.toList 0).map (if ops.toList.any fun o=>Tn o.op then VC.Ui else VC.ib false)
 | .seq a b=>do pure (.seq (<-qU P md fid a) (<-qU P md fid b))
 | .cond c x y=>do pure (.cond (<-cO P c) (<-qU P md fid x) (<-qU P md fid y))
 | .block id c=>(qU P md fid c).map (VC.block id)
 | .loop c=>(qU P md fid c).map VC.loop
 | .exit id=>some (.exit id)
 | .ret=>some .ret
 | .label _=>some .skip
 | .scope c=>qU P md fid c
 |_=>none
def Yg (P:Program) (md:List (Nat×Nat)) (f:Nat):Option Kx:=
 match P.funcs[f]? with
 |some fn=>match fn.body with
  |some c=>do
   let b <-qU P md f c
   let r <-fn.results.toList.mapM (HF P)
   pure {ntmps:=fn.ntmps,CH:=fn.params.size+fn.nfree,body:=b,res:=r}
  |none=>none
 |none=>none
theorem cfM {P:Program} (md:List (Nat×Nat)) {f:Nat} {v:Kx} (_:Yg P md f=some v:=by(conv=>lhs;cbv)<;>exact rfl) (h:zG P f md=some v:=by kernel_rfl):zG P f md=some v:=h
theorem fW {P:Program} {f:Nat} {v:Kx} (_:Yg P [] f=some v:=by(conv=>lhs;cbv)<;>exact rfl) (h:Fg P f=some v:=by kernel_rfl):Fg P f=some v:=h
def Bs:List Nat:=[172007021,172007022,172007024]
def WJ:bY:=⟨(some 31),(.load false 1 (.t 30)),none,172007003,Bs⟩
def zz2:bY:=⟨(some 34),(.jj 3 (.t 32) (.t 33)),none,172007006,Bs⟩
def zz3:bY:=⟨(some 35),(.ft 0 (.t 34)),none,172007007,Bs⟩
def zz4:bY:=⟨(some 36),(.load false 1 (.t 35)),none,172007008,Bs⟩
def W5:bY:=⟨(some 50),(.append 1 (.t 47) (.t 49)),none,172007022,[172007024]⟩
def zz6:VC:=(.one ⟨(some 51),(.jj 1 (.t 31) (.t 36)),none,172007023,[172007024]⟩ (.one ⟨none,(.store 1 (.t 51) (.t 50)),none,172007024,[]⟩ (.ib false [])))
def zz7:VC:=(.one W5 zz6)
def zz8:VC:=(.one zz4 zz6)
def zz9:VC:=(.both (.one zz4 zz7) (.one W5 zz8))
def WK:VC:=(.one zz2 (.one zz3 zz8))
def nX:List Nat:=[172008021,172008022,172008024]
def Jd:bY:=⟨(some 55),(.load false 1 (.t 54)),none,172008003,nX⟩
def Sw:bY:=⟨(some 58),(.jj 3 (.t 56) (.t 57)),none,172008006,nX⟩
def Sx:bY:=⟨(some 59),(.ft 1 (.t 58)),none,172008007,nX⟩
def Sy:bY:=⟨(some 60),(.load false 1 (.t 59)),none,172008008,nX⟩
def Je:bY:=⟨(some 74),(.append 1 (.t 71) (.t 73)),none,172008022,[172008024]⟩
def Sz:VC:=(.one ⟨(some 75),(.jj 1 (.t 55) (.t 60)),none,172008023,[172008024]⟩ (.one ⟨none,(.store 1 (.t 75) (.t 74)),none,172008024,[]⟩ (.ib false [])))
def WL:VC:=(.one Je Sz)
def SA:VC:=(.one Sy Sz)
def WM:VC:=(.both (.one Sy WL) (.one Je SA))
def WN:VC:=(.one Sw (.one Sx SA))
def Wm:Kx:=⟨77,2,(.seq (.ib false [q 4 (.fe (.k .jn)) 172000000]) (.seq (.ib false [q 7 (.fe (.t 0)) 172001000,q 8 (.fe (.t 1)) 172001001,q 9 (.build [(.int .i64 0),.cr,.cr,.cr] [(0,(1,(.t 7))),(1,(1,(.t 8)))]) 172001002,q 10 (.box (.t 9)) 172001003,q 5 (.fe (.t 10)) 172001004]) (.seq (.ib false [q 11 (.fe (.t 5)) 172002000,q 12 (.fe (.t 0)) 172002001,q 13 (.oD [.cr] (.t 12) (.t 12)) 172002002,q 14 (.EH (.t 11)) 172002003,q 15 (.ft 2 (.t 14)) 172002004,⟨none,(.store 1 (.t 15) (.t 13)),none,172002005,[]⟩]) (.seq (.ib false [q 16 (.fe (.t 5)) 172003000,q 17 (.fe (.t 1)) 172003001,q 18 (.len (.t 17)) 172003002,q 19 (.oD [(.int .i64 0)] (.t 18) (.t 18)) 172003003,q 20 (.EH (.t 16)) 172003004,q 21 (.ft 3 (.t 20)) 172003005,⟨none,(.store 1 (.t 21) (.t 19)),none,172003006,[]⟩]) (.seq (.seq (.ib false [q 6 (.fe (.k (.int .i64 0))) 172004000]) (.block 0 (.loop (.seq (.seq (.ib false [q 22 (.fe (.t 6)) 172005000,q 23 (.fe (.t 1)) 172005001,q 24 (.len (.t 23)) 172005002,q 25 (.bin .lss .i64 (.t 22) (.t 24)) 172005003]) (.cond (.t 25) .skip (.exit 0))) (.seq (.block 1 (.seq (.one ⟨(some 28),(.fe (.t 5)),none,172007000,Bs⟩ (.one ⟨(some 29),(.EH (.t 28)),none,172007001,Bs⟩ (.one ⟨(some 30),(.ft 2 (.t 29)),none,172007002,Bs⟩ (.one ⟨(some 32),(.fe (.t 1)),none,172007004,Bs⟩ (.one ⟨(some 33),(.fe (.t 6)),none,172007005,Bs⟩ (.one ⟨(some 37),(.fe (.t 5)),none,172007009,Bs⟩ (.one ⟨(some 38),(.EH (.t 37)),none,172007010,Bs⟩ (.one ⟨(some 39),(.ft 2 (.t 38)),none,172007011,Bs⟩ (.one ⟨(some 40),(.load false 1 (.t 39)),none,172007012,Bs⟩ (.one ⟨(some 41),(.fe (.t 1)),none,172007013,Bs⟩ (.one ⟨(some 42),(.fe (.t 6)),none,172007014,Bs⟩ (.one ⟨(some 43),(.jj 3 (.t 41) (.t 42)),none,172007015,Bs⟩ (.one ⟨(some 44),(.ft 0 (.t 43)),none,172007016,Bs⟩ (.one ⟨(some 45),(.load false 1 (.t 44)),none,172007017,Bs⟩ (.one ⟨(some 46),(.jj 1 (.t 40) (.t 45)),none,172007018,Bs⟩ (.one ⟨(some 47),(.load false 1 (.t 46)),none,172007019,Bs⟩ (.one ⟨(some 48),(.fe (.t 6)),none,172007020,Bs⟩ (.one ⟨(some 49),(.ij 1 1 [(.t 48)]),none,172007021,[172007022,172007024]⟩ (.both (.one WJ (.both (.one zz2 (.one zz3 zz9)) (.one W5 WK))) (.both (.one zz2 (.one zz3 (.both (.one WJ zz9) (.both (.one zz4 (.both (.one WJ zz7) (.one W5 (.one WJ zz6)))) (.one W5 (.one WJ zz8)))))) (.one W5 (.one WJ WK)))))))))))))))))))))) (.one ⟨(some 52),(.fe (.t 5)),none,172008000,nX⟩ (.one ⟨(some 53),(.EH (.t 52)),none,172008001,nX⟩ (.one ⟨(some 54),(.ft 2 (.t 53)),none,172008002,nX⟩ (.one ⟨(some 56),(.fe (.t 1)),none,172008004,nX⟩ (.one ⟨(some 57),(.fe (.t 6)),none,172008005,nX⟩ (.one ⟨(some 61),(.fe (.t 5)),none,172008009,nX⟩ (.one ⟨(some 62),(.EH (.t 61)),none,172008010,nX⟩ (.one ⟨(some 63),(.ft 2 (.t 62)),none,172008011,nX⟩ (.one ⟨(some 64),(.load false 1 (.t 63)),none,172008012,nX⟩ (.one ⟨(some 65),(.fe (.t 1)),none,172008013,nX⟩ (.one ⟨(some 66),(.fe (.t 6)),none,172008014,nX⟩ (.one ⟨(some 67),(.jj 3 (.t 65) (.t 66)),none,172008015,nX⟩ (.one ⟨(some 68),(.ft 1 (.t 67)),none,172008016,nX⟩ (.one ⟨(some 69),(.load false 1 (.t 68)),none,172008017,nX⟩ (.one ⟨(some 70),(.jj 1 (.t 64) (.t 69)),none,172008018,nX⟩ (.one ⟨(some 71),(.load false 1 (.t 70)),none,172008019,nX⟩ (.one ⟨(some 72),(.fe (.t 6)),none,172008020,nX⟩ (.one ⟨(some 73),(.ij 1 1 [(.t 72)]),none,172008021,[172008022,172008024]⟩ (.both (.one Jd (.both (.one Sw (.one Sx WM)) (.one Je WN))) (.both (.one Sw (.one Sx (.both (.one Jd WM) (.both (.one Sy (.both (.one Jd WL) (.one Je (.one Jd Sz)))) (.one Je (.one Jd SA)))))) (.one Je (.one Jd WN)))))))))))))))))))))))) (.ib false [q 26 (.fe (.t 6)) 172006000,q 27 (.bin .add .i64 (.t 26) (.k (.int .i64 1))) 172006001,q 6 (.fe (.t 27)) 172006002])))))) (.seq (.ib false [q 76 (.fe (.t 5)) 172009000,q 4 (.fe (.t 76)) 172009001]) .ret)))))),[(.tmp 4)]⟩
theorem Ug:zG Tryz.prog 172 [(7,2),(8,2)]=some Wm:=by kernel_rfl
def WO:VC:=(.one (q 48 (.call 212 [(.t 47)]) 189010011) (.one (q 9 (.fe (.t 42)) 189010012) (.one (q 10 (.fe (.t 48)) 189010013) (.ib false []))))
def WQ:VC:=(.one (q 47 (.load false 1 (.t 46)) 189010010) WO)
def WR:VC:=(.one (q 46 (.jj 1 (.t 43) (.t 45)) 189010009) WQ)
def Wn:Kx:=⟨118,2,(.seq (.ib false [q 4 (.fe (.k .cr)) 189000000]) (.seq (.ib false [q 17 (.fe (.t 0)) 189001000,q 18 (.oD [.jn] (.t 17) (.t 17)) 189001001,q 5 (.fe (.t 18)) 189001002]) (.seq (.seq (.ib false [q 19 (.fe (.t 5)) 189002000,q 20 (.len (.t 19)) 189002001,q 21 (.fe (.k (.int .i64 0))) 189002002]) (.block 0 (.loop (.seq (.ib false [q 22 (.bin .lss .i64 (.t 21) (.t 20)) 189003000]) (.seq (.cond (.t 22) .skip (.exit 0)) (.seq (.block 1 (.seq (.ib false [q 23 (.fe (.t 21)) 189004000,q 6 (.fe (.t 23)) 189004001]) (.ib false [q 24 (.fe (.t 5)) 189005000,q 25 (.fe (.t 6)) 189005001,q 26 (.fe (.t 6)) 189005002,q 27 (.build [.jn,(.int .i64 0)] [(1,(1,(.t 26)))]) 189005003,q 28 (.box (.t 27)) 189005004,q 29 (.jj 1 (.t 24) (.t 25)) 189005005,⟨none,(.store 1 (.t 29) (.t 28)),none,189005006,[]⟩]))) (.ib false [q 30 (.bin .add .i64 (.t 21) (.k (.int .i64 1))) 189006000,q 21 (.fe (.t 30)) 189006001]))))))) (.seq (.seq (.ib false [q 31 (.fe (.t 1)) 189007000,q 32 (.len (.t 31)) 189007001,q 33 (.fe (.k (.int .i64 0))) 189007002]) (.block 2 (.loop (.seq (.ib false [q 34 (.bin .lss .i64 (.t 33) (.t 32)) 189008000]) (.seq (.cond (.t 34) .skip (.exit 2)) (.seq (.block 3 (.seq (.ib false [q 35 (.jj 3 (.t 31) (.t 33)) 189009000,q 36 (.load true 3 (.t 35)) 189009001,q 8 (.new [(.int .i64 0),(.int .i64 0),(.int .i64 0)]) 189009002,⟨none,(.store 3 (.t 8) (.t 36)),none,189009003,[]⟩]) (.seq (.one (q 37 (.fe (.t 5)) 189010000) (.one (q 38 (.ft 0 (.t 8)) 189010001) (.one (q 39 (.load false 1 (.t 38)) 189010002) (.one (q 40 (.jj 1 (.t 37) (.t 39)) 189010003) (.one (q 41 (.load false 1 (.t 40)) 189010004) (.one (q 43 (.fe (.t 5)) 189010006) (.one (q 44 (.ft 1 (.t 8)) 189010007) (.both (.one (q 42 (.call 212 [(.t 41)]) 189010005) (.one (q 45 (.load false 1 (.t 44)) 189010008) WR)) (.one (q 45 (.load false 1 (.t 44)) 189010008) (.both (.one (q 42 (.call 212 [(.t 41)]) 189010005) WR) (.one (q 46 (.jj 1 (.t 43) (.t 45)) 189010009) (.both (.one (q 42 (.call 212 [(.t 41)]) 189010005) WQ) (.one (q 47 (.load false 1 (.t 46)) 189010010) (.one (q 42 (.call 212 [(.t 41)]) 189010005) WO)))))))))))))) (.block 4 (.seq (.ib true [q 50 (.fe (.t 9)) 189011000,q 51 (.EH (.t 50)) 189011001,q 52 (.ft 1 (.t 51)) 189011002,q 53 (.load false 1 (.t 52)) 189011003,q 54 (.fe (.t 10)) 189011004,q 55 (.EH (.t 54)) 189011005,q 56 (.ft 1 (.t 55)) 189011006,q 57 (.load false 1 (.t 56)) 189011007,q 58 (.bin .lss .i64 (.t 53) (.t 57)) 189011008,q 49 (.fe (.t 58)) 189011009]) (.cond (.t 49) (.ib false [q 59 (.fe (.t 10)) 189012000,q 60 (.fe (.t 9)) 189012001,q 61 (.EH (.t 59)) 189012002,q 62 (.ft 0 (.t 61)) 189012003,⟨none,(.store 1 (.t 62) (.t 60)),none,189012004,[]⟩]) (.seq (.ib true [q 64 (.fe (.t 10)) 189013000,q 65 (.EH (.t 64)) 189013001,q 66 (.ft 1 (.t 65)) 189013002,q 67 (.load false 1 (.t 66)) 189013003,q 68 (.fe (.t 9)) 189013004,q 69 (.EH (.t 68)) 189013005,q 70 (.ft 1 (.t 69)) 189013006,q 71 (.load false 1 (.t 70)) 189013007,q 72 (.bin .lss .i64 (.t 67) (.t 71)) 189013008,q 63 (.fe (.t 72)) 189013009]) (.cond (.t 63) (.ib false [q 73 (.fe (.t 9)) 189014000,q 74 (.fe (.t 10)) 189014001,q 75 (.EH (.t 73)) 189014002,q 76 (.ft 0 (.t 75)) 189014003,⟨none,(.store 1 (.t 76) (.t 74)),none,189014004,[]⟩]) .skip)))))))) (.ib false [q 77 (.bin .add .i64 (.t 33) (.k (.int .i64 1))) 189015000,q 33 (.fe (.t 77)) 189015001]))))))) (.seq (.ib false [q 11 (.fe (.k .cr)) 189016000]) (.seq (.ib false [⟨(some 78),(.mq (.new ⟨false,[.tI]⟩) []),none,189017000,[]⟩,q 12 (.fe (.t 78)) 189017001]) (.seq (.seq (.ib false [q 79 (.fe (.t 5)) 189018000,q 80 (.len (.t 79)) 189018001,q 81 (.fe (.k (.int .i64 0))) 189018002]) (.block 5 (.loop (.seq (.ib false [q 82 (.bin .lss .i64 (.t 81) (.t 80)) 189019000]) (.seq (.cond (.t 82) .skip (.exit 5)) (.seq (.block 6 (.seq (.ib false [q 83 (.fe (.t 81)) 189020000,q 84 (.jj 1 (.t 79) (.t 81)) 189020001,q 85 (.load false 1 (.t 84)) 189020002,q 13 (.fe (.t 83)) 189020003,q 14 (.fe (.t 85)) 189020004]) (.seq (.ib false [q 87 (.fe (.t 12)) 189021000,q 88 (.fe (.t 14)) 189021001,q 89 (.call 212 [(.t 88)]) 189021002,q 90 (.EH (.t 89)) 189021003,q 91 (.ft 1 (.t 90)) 189021004,q 92 (.load false 1 (.t 91)) 189021005,⟨(some 93),(.mq (.look ⟨false,[.tI]⟩ true (.int .i64 0)) [(.t 87),(.t 92)]),none,189021006,[]⟩,q 86 (.fe (.t 93)) 189021007,q 94 (.extract 0 (.t 86)) 189021008,q 95 (.extract 1 (.t 86)) 189021009,q 15 (.fe (.t 94)) 189021010,q 16 (.fe (.t 95)) 189021011]) (.seq (.seq (.ib false [q 96 (.fe (.t 16)) 189022000,q 97 (.not (.t 96)) 189022001]) (.cond (.t 97) (.seq (.ib false [q 98 (.fe (.t 11)) 189023000,q 99 (.len (.t 98)) 189023001,q 15 (.fe (.t 99)) 189023002]) (.seq (.ib false [q 100 (.fe (.t 12)) 189024000,q 101 (.fe (.t 13)) 189024001,q 102 (.fe (.t 15)) 189024002,⟨none,(.mw (.set ⟨false,[.tI]⟩) [(.t 100),(.t 101),(.t 102)]),none,189024003,[]⟩]) (.ib false [q 103 (.fe (.t 11)) 189025000,q 104 (.ij 1 1 [(.k .cr)]) 189025001,q 105 (.append 1 (.t 103) (.t 104)) 189025002,q 11 (.fe (.t 105)) 189025003]))) .skip)) (.ib false [q 106 (.fe (.t 11)) 189026000,q 107 (.fe (.t 15)) 189026001,q 108 (.fe (.t 11)) 189026002,q 109 (.fe (.t 15)) 189026003,q 110 (.jj 1 (.t 108) (.t 109)) 189026004,q 111 (.load false 1 (.t 110)) 189026005,q 112 (.fe (.t 13)) 189026006,q 113 (.ij 1 1 [(.t 112)]) 189026007,q 114 (.append 1 (.t 111) (.t 113)) 189026008,q 115 (.jj 1 (.t 106) (.t 107)) 189026009,⟨none,(.store 1 (.t 115) (.t 114)),none,189026010,[]⟩]))))) (.ib false [q 116 (.bin .add .i64 (.t 81) (.k (.int .i64 1))) 189027000,q 81 (.fe (.t 116)) 189027001]))))))) (.seq (.ib false [q 117 (.fe (.t 11)) 189028000,q 4 (.fe (.t 117)) 189028001]) .ret)))))))),[(.tmp 4)]⟩
theorem Uh:zG Tryz.prog 189 [(10,2)]=some Wn:=by kernel_rfl
def Jf:List Nat:=[59011006,59011007,59011009]
def yR:List Nat:=[59013011,59013013,59013014,59013016]
def Jg:bY:=⟨(some 53),(.load false 1 (.t 52)),none,59013001,yR⟩
def PQ:bY:=⟨(some 55),(.call 98 [(.t 54)]),none,59013003,yR⟩
def PR:bY:=⟨(some 56),(.Dl .add (.k (.str [101])) (.t 55)),none,59013004,yR⟩
def PS:bY:=⟨(some 58),(.call 33 [(.t 57),(.k (.int .i64 2))]),none,59013006,yR⟩
def WS:bY:=⟨(some 59),(.bin .add .i64 (.k (.int .i64 1)) (.t 58)),none,59013007,yR⟩
def Mg:bY:=⟨(some 61),(.load false 1 (.t 60)),none,59013009,yR⟩
def Mh:bY:=⟨(some 62),(.len (.t 61)),none,59013010,yR⟩
def WT:List Nat:=[59013013,59013014,59013016]
def WU:VC:=(.one ⟨(some 63),(.ij 1 4 [(.t 59),(.k (.int .i64 0)),(.k (.int .i64 0)),(.t 62)]),none,59013011,WT⟩ (.one ⟨(some 64),(.build [(.str []),.cr] [(0,(1,(.t 56))),(1,(1,(.t 63)))]),none,59013012,WT⟩ (.one ⟨(some 65),(.ij 2 1 [(.t 64)]),none,59013013,[59013014,59013016]⟩ (.one ⟨(some 66),(.append 2 (.t 53) (.t 65)),none,59013014,[59013016]⟩ (.one ⟨(some 67),(.ft 1 (.t 5)),none,59013015,[59013016]⟩ (.one ⟨none,(.store 1 (.t 67) (.t 66)),none,59013016,[]⟩ (.ib false [])))))))
def WV:VC:=(.one WS (.one Mg (.one Mh WU)))
def WW:VC:=(.one WS WU)
def SB:VC:=(.one PS WW)
def WX:VC:=(.both (.one PS WV) (.one Mg (.one Mh SB)))
def WY:VC:=(.one PQ (.one PR SB))
def WZ:VC:=(.both (.one Jg SB) (.one PS (.one Jg WW)))
def Jh:List Nat:=[59019006,59019007,59019009]
def yT:List Nat:=[59021011,59021013,59021014,59021016]
def Ji:bY:=⟨(some 97),(.load false 1 (.t 96)),none,59021001,yT⟩
def PT:bY:=⟨(some 99),(.call 98 [(.t 98)]),none,59021003,yT⟩
def PU:bY:=⟨(some 100),(.Dl .add (.k (.str [110])) (.t 99)),none,59021004,yT⟩
def PV:bY:=⟨(some 102),(.call 33 [(.t 101),(.k (.int .i64 2))]),none,59021006,yT⟩
def W4:bY:=⟨(some 103),(.bin .add .i64 (.k (.int .i64 1)) (.t 102)),none,59021007,yT⟩
def Mi:bY:=⟨(some 105),(.load false 1 (.t 104)),none,59021009,yT⟩
def Mj:bY:=⟨(some 106),(.len (.t 105)),none,59021010,yT⟩
def W6:List Nat:=[59021013,59021014,59021016]
def W7:VC:=(.one ⟨(some 107),(.ij 1 4 [(.k (.int .i64 0)),(.t 103),(.t 106),(.k (.int .i64 0))]),none,59021011,W6⟩ (.one ⟨(some 108),(.build [(.str []),.cr] [(0,(1,(.t 100))),(1,(1,(.t 107)))]),none,59021012,W6⟩ (.one ⟨(some 109),(.ij 2 1 [(.t 108)]),none,59021013,[59021014,59021016]⟩ (.one ⟨(some 110),(.append 2 (.t 97) (.t 109)),none,59021014,[59021016]⟩ (.one ⟨(some 111),(.ft 1 (.t 5)),none,59021015,[59021016]⟩ (.one ⟨none,(.store 1 (.t 111) (.t 110)),none,59021016,[]⟩ (.ib false [])))))))
def W8:VC:=(.one W4 (.one Mi (.one Mj W7)))
def W9:VC:=(.one W4 W7)
def SC:VC:=(.one PV W9)
def Xa:VC:=(.both (.one PV W8) (.one Mi (.one Mj SC)))
def Xb:VC:=(.one PT (.one PU SC))
def Xc:VC:=(.both (.one Ji SC) (.one PV (.one Ji W9)))
def td:List Nat:=[59027015,59027017,59027018,59027020]
def SD:bY:=⟨(some 124),(.load false 1 (.t 123)),none,59027001,td⟩
def Xd:bY:=⟨(some 126),(.call 98 [(.t 125)]),none,59027003,td⟩
def Xe:bY:=⟨(some 127),(.Dl .add (.k (.str [114])) (.t 126)),none,59027004,td⟩
def Xf:bY:=⟨(some 130),(.call 33 [(.t 129),(.k (.int .i64 2))]),none,59027007,td⟩
def Xg:List Nat:=[59027017,59027018,59027020]
def Xh:VC:=(.one ⟨(some 131),(.bin .add .i64 (.k (.int .i64 1)) (.t 130)),none,59027008,td⟩ (.one ⟨(some 138),(.ij 1 4 [(.t 128),(.t 131),(.t 134),(.t 137)]),none,59027015,Xg⟩ (.one ⟨(some 139),(.build [(.str []),.cr] [(0,(1,(.t 127))),(1,(1,(.t 138)))]),none,59027016,Xg⟩ (.one ⟨(some 140),(.ij 2 1 [(.t 139)]),none,59027017,[59027018,59027020]⟩ (.one ⟨(some 141),(.append 2 (.t 124) (.t 140)),none,59027018,[59027020]⟩ (.one ⟨(some 142),(.ft 1 (.t 5)),none,59027019,[59027020]⟩ (.one ⟨none,(.store 1 (.t 142) (.t 141)),none,59027020,[]⟩ (.ib false []))))))))
def Xi:VC:=(.one Xf Xh)
def EF:List Nat:=[59029008,59029010,59029011,59029013]
def SE:bY:=⟨(some 146),(.load false 1 (.t 145)),none,59029001,EF⟩
def Xj:bY:=⟨(some 148),(.call 33 [(.t 147),(.k (.int .i64 2))]),none,59029003,EF⟩
def Xk:bY:=⟨(some 149),(.bin .add .i64 (.k (.int .i64 1)) (.t 148)),none,59029004,EF⟩
def Xl:bY:=⟨(some 151),(.call 33 [(.t 150),(.k (.int .i64 2))]),none,59029006,EF⟩
def Xm:List Nat:=[59029010,59029011,59029013]
def Xn:VC:=(.one ⟨(some 152),(.bin .add .i64 (.k (.int .i64 1)) (.t 151)),none,59029007,EF⟩ (.one ⟨(some 153),(.ij 1 4 [(.k (.int .i64 1)),(.k (.int .i64 2)),(.t 149),(.t 152)]),none,59029008,Xm⟩ (.one ⟨(some 154),(.build [(.str []),.cr] [(0,(1,(.k (.str [114,52])))),(1,(1,(.t 153)))]),none,59029009,Xm⟩ (.one ⟨(some 155),(.ij 2 1 [(.t 154)]),none,59029010,[59029011,59029013]⟩ (.one ⟨(some 156),(.append 2 (.t 146) (.t 155)),none,59029011,[59029013]⟩ (.one ⟨(some 157),(.ft 1 (.t 5)),none,59029012,[59029013]⟩ (.one ⟨none,(.store 1 (.t 157) (.t 156)),none,59029013,[]⟩ (.ib false []))))))))
def Xo:VC:=(.one Xl Xn)
def aak:Kx:=⟨163,1,(.seq (.ib false [q 2 (.new [.cr,.cr,.cr,(.int .i64 0)]) 59000000]) (.seq (.ib false [q 12 (.fe (.t 0)) 59001000,q 13 (.call 33 [(.t 12),(.k (.int .i64 4))]) 59001001,q 14 (.bin .add .i64 (.k (.int .i64 1)) (.t 13)) 59001002,q 3 (.fe (.t 14)) 59001003]) (.seq (.ib false [q 15 (.fe (.t 0)) 59002000,q 16 (.call 33 [(.t 15),(.k (.int .i64 4))]) 59002001,q 17 (.bin .add .i64 (.k (.int .i64 1)) (.t 16)) 59002002,q 4 (.fe (.t 17)) 59002003]) (.seq (.ib false [q 18 (.build [.cr,.cr] []) 59003000,q 5 (.new [.cr,.cr]) 59003001,⟨none,(.store 2 (.t 5) (.t 18)),none,59003002,[]⟩]) (.seq (.ib false [⟨(some 19),(.build [(.str []),(.int .i64 0)] [(0,(1,(.k (.str [122,101,114,111])))),(1,(1,(.k (.int .i64 1))))]),none,59004000,[]⟩,⟨(some 20),(.build [(.str []),(.int .i64 0)] [(0,(1,(.k (.str [111,110,101])))),(1,(1,(.k (.int .i64 1))))]),none,59004001,[]⟩,q 21 (.ij 2 2 [(.t 19),(.t 20)]) 59004002,q 22 (.ft 0 (.t 5)) 59004003,⟨none,(.store 1 (.t 22) (.t 21)),none,59004004,[]⟩]) (.seq (.ib false [q 23 (.ij 1 4 [(.k (.int .i64 0)),(.k (.int .i64 0)),(.k (.int .i64 0)),(.k (.int .i64 0))]) 59005000,⟨(some 24),(.build [(.str []),.cr] [(0,(1,(.k (.str [115,101,101,100])))),(1,(1,(.t 23)))]),none,59005001,[]⟩,q 6 (.new [(.str []),.cr]) 59005002,⟨none,(.store 2 (.t 6) (.t 24)),none,59005003,[]⟩]) (.seq (.ib false [q 25 (.load true 2 (.t 6)) 59006000,q 26 (.ij 2 1 [(.t 25)]) 59006001,q 27 (.ft 1 (.t 5)) 59006002,⟨none,(.store 1 (.t 27) (.t 26)),none,59006003,[]⟩]) (.seq (.ib false [q 7 (.fe (.k (.int .i64 0))) 59007000]) (.seq (.seq (.ib false [q 8 (.fe (.k (.int .i64 0))) 59008000]) (.block 0 (.loop (.seq (.seq (.ib false [q 28 (.fe (.t 8)) 59009000,q 29 (.fe (.t 3)) 59009001,q 30 (.bin .lss .i64 (.t 28) (.t 29)) 59009002]) (.cond (.t 30) .skip (.exit 0))) (.seq (.block 1 (.seq (.ib true [⟨(some 33),(.ft 0 (.t 5)),none,59011000,Jf⟩,⟨(some 34),(.load false 1 (.t 33)),none,59011001,Jf⟩,⟨(some 35),(.fe (.t 8)),none,59011002,Jf⟩,⟨(some 36),(.call 98 [(.t 35)]),none,59011003,Jf⟩,⟨(some 37),(.Dl .add (.k (.str [120])) (.t 36)),none,59011004,Jf⟩,⟨(some 38),(.build [(.str []),(.int .i64 0)] [(0,(1,(.t 37))),(1,(1,(.k (.int .i64 2))))]),none,59011005,Jf⟩,⟨(some 39),(.ij 2 1 [(.t 38)]),none,59011006,[59011007,59011009]⟩,⟨(some 40),(.append 2 (.t 34) (.t 39)),none,59011007,[59011009]⟩,⟨(some 41),(.ft 0 (.t 5)),none,59011008,[59011009]⟩,⟨none,(.store 1 (.t 41) (.t 40)),none,59011009,[]⟩]) (.seq (.ib true [⟨(some 42),(.ft 1 (.t 5)),none,59012000,[59012010]⟩,⟨(some 43),(.load false 1 (.t 42)),none,59012001,[59012010]⟩,⟨(some 44),(.fe (.t 7)),none,59012002,[59012010]⟩,⟨(some 45),(.jj 2 (.t 43) (.t 44)),none,59012003,[59012010]⟩,⟨(some 46),(.ft 1 (.t 45)),none,59012004,[59012010]⟩,⟨(some 47),(.load false 1 (.t 46)),none,59012005,[59012010]⟩,⟨(some 48),(.ft 0 (.t 5)),none,59012006,[59012010]⟩,⟨(some 49),(.load false 1 (.t 48)),none,59012007,[59012010]⟩,⟨(some 50),(.len (.t 49)),none,59012008,[59012010]⟩,⟨(some 51),(.jj 1 (.t 47) (.k (.int .i64 1))),none,59012009,[59012010]⟩,⟨none,(.store 1 (.t 51) (.t 50)),none,59012010,[]⟩]) (.seq (.one ⟨(some 52),(.ft 1 (.t 5)),none,59013000,yR⟩ (.one ⟨(some 54),(.fe (.t 8)),none,59013002,yR⟩ (.one ⟨(some 57),(.fe (.t 0)),none,59013005,yR⟩ (.one ⟨(some 60),(.ft 0 (.t 5)),none,59013008,yR⟩ (.both (.one Jg (.both (.one PQ (.one PR WX)) (.one Mg (.one Mh WY)))) (.both (.one PQ (.one PR (.both (.one Jg WX) (.both (.one PS (.one Jg WV)) (.one Mg (.one Mh WZ)))))) (.one Mg (.one Mh (.both (.one Jg WY) (.one PQ (.one PR WZ))))))))))) (.ib false [q 68 (.ft 1 (.t 5)) 59014000,q 69 (.load false 1 (.t 68)) 59014001,q 70 (.len (.t 69)) 59014002,q 71 (.bin .sub .i64 (.t 70) (.k (.int .i64 1))) 59014003,q 7 (.fe (.t 71)) 59014004]))))) (.ib false [q 31 (.fe (.t 8)) 59010000,q 32 (.bin .add .i64 (.t 31) (.k (.int .i64 1))) 59010001,q 8 (.fe (.t 32)) 59010002])))))) (.seq (.ib false [q 7 (.fe (.k (.int .i64 0))) 59015000]) (.seq (.seq (.ib false [q 9 (.fe (.k (.int .i64 0))) 59016000]) (.block 2 (.loop (.seq (.seq (.ib false [q 72 (.fe (.t 9)) 59017000,q 73 (.fe (.t 4)) 59017001,q 74 (.bin .lss .i64 (.t 72) (.t 73)) 59017002]) (.cond (.t 74) .skip (.exit 2))) (.seq (.block 3 (.seq (.ib true [⟨(some 77),(.ft 0 (.t 5)),none,59019000,Jh⟩,⟨(some 78),(.load false 1 (.t 77)),none,59019001,Jh⟩,⟨(some 79),(.fe (.t 9)),none,59019002,Jh⟩,⟨(some 80),(.call 98 [(.t 79)]),none,59019003,Jh⟩,⟨(some 81),(.Dl .add (.k (.str [121])) (.t 80)),none,59019004,Jh⟩,⟨(some 82),(.build [(.str []),(.int .i64 0)] [(0,(1,(.t 81))),(1,(1,(.k (.int .i64 2))))]),none,59019005,Jh⟩,⟨(some 83),(.ij 2 1 [(.t 82)]),none,59019006,[59019007,59019009]⟩,⟨(some 84),(.append 2 (.t 78) (.t 83)),none,59019007,[59019009]⟩,⟨(some 85),(.ft 0 (.t 5)),none,59019008,[59019009]⟩,⟨none,(.store 1 (.t 85) (.t 84)),none,59019009,[]⟩]) (.seq (.ib true [⟨(some 86),(.ft 1 (.t 5)),none,59020000,[59020010]⟩,⟨(some 87),(.load false 1 (.t 86)),none,59020001,[59020010]⟩,⟨(some 88),(.fe (.t 7)),none,59020002,[59020010]⟩,⟨(some 89),(.jj 2 (.t 87) (.t 88)),none,59020003,[59020010]⟩,⟨(some 90),(.ft 1 (.t 89)),none,59020004,[59020010]⟩,⟨(some 91),(.load false 1 (.t 90)),none,59020005,[59020010]⟩,⟨(some 92),(.ft 0 (.t 5)),none,59020006,[59020010]⟩,⟨(some 93),(.load false 1 (.t 92)),none,59020007,[59020010]⟩,⟨(some 94),(.len (.t 93)),none,59020008,[59020010]⟩,⟨(some 95),(.jj 1 (.t 91) (.k (.int .i64 0))),none,59020009,[59020010]⟩,⟨none,(.store 1 (.t 95) (.t 94)),none,59020010,[]⟩]) (.seq (.one ⟨(some 96),(.ft 1 (.t 5)),none,59021000,yT⟩ (.one ⟨(some 98),(.fe (.t 9)),none,59021002,yT⟩ (.one ⟨(some 101),(.fe (.t 0)),none,59021005,yT⟩ (.one ⟨(some 104),(.ft 0 (.t 5)),none,59021008,yT⟩ (.both (.one Ji (.both (.one PT (.one PU Xa)) (.one Mi (.one Mj Xb)))) (.both (.one PT (.one PU (.both (.one Ji Xa) (.both (.one PV (.one Ji W8)) (.one Mi (.one Mj Xc)))))) (.one Mi (.one Mj (.both (.one Ji Xb) (.one PT (.one PU Xc))))))))))) (.ib false [q 112 (.ft 1 (.t 5)) 59022000,q 113 (.load false 1 (.t 112)) 59022001,q 114 (.len (.t 113)) 59022002,q 115 (.bin .sub .i64 (.t 114) (.k (.int .i64 1))) 59022003,q 7 (.fe (.t 115)) 59022004]))))) (.ib false [q 75 (.fe (.t 9)) 59018000,q 76 (.bin .add .i64 (.t 75) (.k (.int .i64 1))) 59018001,q 9 (.fe (.t 76)) 59018002])))))) (.seq (.seq (.ib false [q 10 (.fe (.k (.int .i64 0))) 59023000]) (.block 4 (.loop (.seq (.seq (.ib false [q 116 (.fe (.t 10)) 59024000,q 117 (.bin .lss .i64 (.t 116) (.k (.int .i64 4))) 59024001]) (.cond (.t 117) .skip (.exit 4))) (.seq (.block 5 (.seq (.ib false [q 120 (.fe (.t 0)) 59026000,q 121 (.call 33 [(.t 120),(.k (.int .i64 2))]) 59026001,q 122 (.bin .add .i64 (.k (.int .i64 1)) (.t 121)) 59026002,q 11 (.fe (.t 122)) 59026003]) (.one ⟨(some 123),(.ft 1 (.t 5)),none,59027000,td⟩ (.one ⟨(some 125),(.fe (.t 10)),none,59027002,td⟩ (.one ⟨(some 128),(.fe (.t 11)),none,59027005,td⟩ (.one ⟨(some 129),(.fe (.t 0)),none,59027006,td⟩ (.one ⟨(some 132),(.fe (.t 10)),none,59027009,td⟩ (.one ⟨(some 133),(.bin .rem .i64 (.t 132) (.k (.int .i64 2))),none,59027010,td⟩ (.one ⟨(some 134),(.bin .add .i64 (.k (.int .i64 1)) (.t 133)),none,59027011,td⟩ (.one ⟨(some 135),(.fe (.t 10)),none,59027012,td⟩ (.one ⟨(some 136),(.bin .quo .i64 (.t 135) (.k (.int .i64 2))),none,59027013,td⟩ (.one ⟨(some 137),(.bin .add .i64 (.k (.int .i64 1)) (.t 136)),none,59027014,td⟩ (.both (.one SD (.one Xd (.one Xe Xi))) (.one Xd (.one Xe (.both (.one SD Xi) (.one Xf (.one SD Xh)))))))))))))))))) (.ib false [q 118 (.fe (.t 10)) 59025000,q 119 (.bin .add .i64 (.t 118) (.k (.int .i64 1))) 59025001,q 10 (.fe (.t 119)) 59025002])))))) (.seq (.seq (.ib false [q 143 (.fe (.t 0)) 59028000,q 144 (.call 60 [(.t 143),(.k (.int .i64 3))]) 59028001]) (.cond (.t 144) (.one ⟨(some 145),(.ft 1 (.t 5)),none,59029000,EF⟩ (.one ⟨(some 147),(.fe (.t 0)),none,59029002,EF⟩ (.one ⟨(some 150),(.fe (.t 0)),none,59029005,EF⟩ (.both (.one SE (.one Xj (.one Xk Xo))) (.one Xj (.one Xk (.both (.one SE Xo) (.one Xl (.one SE Xn))))))))) .skip)) (.seq (.ib false [q 158 (.load true 2 (.t 5)) 59030000,q 159 (.build [(.int .i64 0),(.int .i64 0),(.int .i64 0)] []) 59030001,q 160 (.ij 3 1 [(.t 159)]) 59030002,q 161 (.build [.cr] [(0,(1,(.t 160)))]) 59030003,⟨(some 162),(.build [.cr,.cr,.cr,(.int .i64 0)] [(0,(2,(.t 158))),(2,(1,(.t 161))),(3,(1,(.k (.int .i64 2))))]),none,59030004,[]⟩,⟨none,(.store 4 (.t 2) (.t 162)),none,59030005,[]⟩]) .ret)))))))))))))),[(.cell true 4 2)]⟩
theorem Yl:zG Tryz.prog 59 [(13,2),(21,2),(27,2),(29,2)]=some aak:=by kernel_rfl
def kE (s:ay):Prop:=(∀g∈s.aQ,g.bW.size<=9223372036854775807)/\∀t∈s.ai,t.bW.size<=9223372036854775807
def MZ (t:dD):Prop:=t.de.length<=1048576
structure X8 (s:ay):Prop where
 g:s.aQ.length<=1048576
 t:s.ai.length<=1048576
 s:∀t∈s.ai,MZ t
structure MU (y:au):Prop where
 s:X8 y.az
 a:y.dc.ai.length<=1048576
end Go.Proofs.YtoodopepphhpoaaGreatDoor.V

namespace Go.Proofs.YtoodopepphhpoaaGreatDoor.V
open Go.RowKit
def isApp:iT->Bool
 | .append .. =>true
 |_=>false
variable {P:Program} {X:im} {K:Env->aw->Prop} {env:Env} {σ:aw}
theorem TH {draw:Bool} {o:bY} {r:List bY} (_:isApp o.op=false) (h:∀N:AV->aw->Prop,(∀v s,wpOps X draw r K (upd env o.dst v) s->N v s)->if aD o.guard env then fx X draw o env σ N else N .undef σ):wpOps X draw (o::r) K env σ:=Wr h
end Go.Proofs.YtoodopepphhpoaaGreatDoor.V

namespace Go.Proofs.YtoodopepphhpoaaGreatDoor.V
open Go.RowKit
section
variable {α:Type} {enc:α->List AV} {sz:Nat} {g g':Rows} {a:AV} {xs:List α} {ids:List Id}
end
abbrev PW (α:Type):=Rows->List AV->α->List Id->Prop
structure EV {α:Type} (R:PW α) (sz:Nat):Prop where
 frame:∀{g g':Rows} {cs x ids},R g cs x ids->(∀i∈ids,g' i=g i)->R g' cs x ids
 len:∀{g cs x ids},R g cs x ids->cs.length=sz
 cell:∀{g cs x ids},R g cs x ids->cs.all AV.cell=true
 live:∀{g cs x ids},R g cs x ids->∀i∈ids,∃r,g i=some r/\r.w=true/\r.sz<yO
 small:sz<yO
inductive gr {α:Type} (R:PW α) (g:Rows):List (List AV)->List α->List Id->Prop
 |nil:gr R g [] [] []
 |cons {cs x i1 rs xs i2}:R g cs x i1->gr R g rs xs i2->gr R g (cs::rs) (x::xs) (i1++i2)
section
variable {α:Type} {R:PW α} {sz:Nat} {g g':Rows} {rows r1 r2:List (List AV)} {xs x1 x2:List α} {ids i1 i2:List Id}
theorem gr.len (h:gr R g rows xs ids):rows.length=xs.length:=by
 induction h with
 |nil=>rfl
 |cons _ _ ih=>simp[ih]
theorem gr.frame (ok:EV R sz) (h:gr R g rows xs ids) (hf:∀i∈ids,g' i=g i):gr R g' rows xs ids:=by
 induction h with
 |nil=>exact .nil
 |cons h1 _ ih=>exact .cons (ok.frame h1 fun i hi=>hf i (List.mem_append_left _ hi)) (ih fun i hi=>hf i (List.mem_append_right _ hi))
theorem gr.app (h1:gr R g r1 x1 i1) (h2:gr R g r2 x2 i2):gr R g (r1++r2) (x1++x2) (i1++i2):=by
 induction h1 with
 |nil=>exact h2
 |cons h _ ih=>rw[List.append_assoc];exact .cons h ih
theorem gr.one {cs:List AV} {x:α} (h:R g cs x ids):gr R g [cs] [x] ids:=by
 have:=gr.cons h gr.nil
 rwa [List.append_nil]at this
theorem gr.split (h:gr R g rows xs ids):∀k (hk:k<xs.length),∃r1 cs r2 i1 ic i2,rows=r1++cs::r2/\r1.length=k/\ids=i1++(ic++i2)/\gr R g r1 (xs.take k) i1/\R g cs xs[k] ic/\gr R g r2 (xs.drop (k+1)) i2:=by
 induction h with
 |nil=>intro k hk;simp at hk
 |cons h1 h2 ih=>
  rename_i cs x j1 rs xs j2
  intro k hk
  cases k with
  |zero=>exact⟨[],cs,rs,[],j1,j2,rfl,rfl,rfl,.nil,h1,h2⟩
  |succ k=>
   obtain⟨r1,uS,r2,i1,ic,i2,rfl,hl,rfl,h3,h4,h5⟩:=ih k (by simpa using hk)
   exact⟨cs::r1,uS,r2,j1++i1,ic,i2,rfl,by simp[hl],by rw[List.append_assoc],.cons h1 h3,h4,h5⟩
theorem gr.at_ (h:gr R g rows xs ids) (k:Nat) (hk:k<xs.length):∃cs ic,rows[k]? =some cs/\R g cs xs[k] ic/\∀i∈ic,i∈ids:=by
 obtain⟨r1,cs,r2,i1,ic,i2,rfl,hl,rfl,h3,h4,h5⟩:=h.split k hk
 refine⟨cs,ic,by rw[List.getElem?_append_right ad];simp[hl],h4,fun i hi=>by simp[hi]⟩
theorem gr.fz {n:Nat} {e:α->List AV} (h:gr R g rows xs ids) (hz:∀{cs x ids},R g cs x ids->eC (ez g) n cs=some (e x)):fm (ez g) n rows=some (xs.map e):=by
 induction h with
 |nil=>rw[fm];rfl
 |cons h1 _ ih=>rw[fm,hz h1,ih];rfl
end
section
variable {α:Type} {R:PW α} {sz:Nat} {g g':Rows} {a:AV} {xs:List α} {ids:List Id}
end
variable {P:Program} {X:im} {K:Env->aw->Prop} {env:Env} {σ:aw}
def pG {α:Type} (enc:α->List AV) (sz:Nat) (x:AV) (g:Rows) (S:Id->Prop) (L:List α):Prop:=∃o:Id,S o/\x=.own o 0 L.length/\g o=some ⟨true,sz,L.map enc⟩
section
variable {α:Type} {enc:α->List AV} {sz:Nat} {x:AV} {g g':Rows} {S:Id->Prop} {L L':List α}
theorem pG.cast (h:pG enc sz x g S L) (hL:L'=L):pG enc sz x g S L':=by subst hL;exact h
theorem pG.frame (h:pG enc sz x g S L) (hg:∀o:Id,S o->g' o=g o):pG enc sz x g' S L:=by
 obtain⟨o,h1,h2,h3⟩:=h
 exact⟨o,h1,h2,(hg o h1).trans h3⟩
theorem pG.app (hz:∀a,(enc a).length=sz/\(enc a).all AV.cell=true) (h:pG enc sz x g S L) (id:Id) (hid:S id) (M:List α) (hlen:L.length+M.length<=dG):
  ∃v g',aP g id sz x (M.map enc)=some (v,g')/\pG enc sz v g' S (L++M)/\∀j:Id,¬S j->g' j=g j:=by
 obtain⟨o,h1,rfl,h4⟩:=h
 refine⟨.own id 0 (L.length+(M.map enc).length),ck (cq g o) id ⟨true,sz,L.map enc++M.map enc⟩,?_,⟨id,hid,by simp,by simp[ck]⟩,fun j hj=>?_⟩
 ·have ha:=all_map (l:=M) hz
  simp only[aP,h4,Option.bind_some]
  rw[if_pos ⟨trivial,trivial,by simp,by simpa using hlen,ha⟩]
 ·have e1:¬j=id:=fun h=>hj (h▸hid)
  have e2:¬j=o:=fun h=>hj (h▸h1)
  simp[ck,cq,e1,e2]
theorem Wp {draw:Bool} {o:bY} {r:List bY} {x' y:O} {xv:AV} (M:List α) (ho:o.op=.append sz x' y) (hw:aD o.guard env=true) (hx:dz env x'=xv) (hO:pG enc sz xv σ.get S L)
  (hy:bq σ.get (dz env y)=some (M.map enc)) (hz:∀a,(enc a).length=sz/\(enc a).all AV.cell=true) (hid:S ⟨o.site,σ.next⟩) (hlen:L.length+M.length<=dG)
  (next:∀v g',pG enc sz v g' S (L++M)->(∀j:Id,¬S j->g' j=σ.get j)->wpOps X draw r K (upd env o.dst v) ⟨g',σ.next⟩):wpOps X draw (o::r) K env σ:=by
 obtain⟨v,g',h1,h2,h3⟩:=hO.app hz ⟨o.site,σ.next⟩ hid M hlen
 unfold wpOps
 rw[if_pos hw]
 unfold fx
 simp only[ho,fG,hy,hx,Option.bind_some,h1]
 exact next v g' h2 h3
theorem pG.iy {n:Nat} (h:pG enc sz x g S L) (he:∀a,fA g n (enc a)=some (enc a)):iy g (n+1) x=some (.sl (L.map enc)):=by
 obtain⟨o,_,rfl,h3⟩:=h
 exact fN h3 rfl he
end
theorem ei {a b:Id} (h:a.bt<b.bt):(a=b)=False/\(b=a)=False:=by
 constructor<;>(simp only[eq_iff_iff,iff_false];rintro rfl;omega)
theorem El {o:Id} {a:Nat} (h:o.site=a) {b v:Nat} (pB:(a==b)=false):(o=⟨b,v⟩)=False:=by
 simp only[eq_iff_iff,iff_false]
 rintro rfl
 simp only at h
 subst h
 simp at pB
def eN (n:Nat):List AV:=[.int .i64 n]
theorem fzN (g:Rows) (n:Nat) (a:Nat):eC g (n+1) (eN a)=some (eN a):=by simp[eN,aj,ar,aJ]
theorem Uv (g:Rows) (n:Nat) (a:Nat):fA g (n+1) (eN a)=some (eN a):=by simp[eN,cF,dq,eT]
def Xq:PW (List Nat):=fun g cs x ids=>∃id,cs=[.own id 0 x.length]/\g id=some ⟨true,1,x.map eN⟩/\ids=[id]
theorem VM:EV Xq 1 where
 frame:=fun⟨id,h1,h2,h3⟩ hf=>by subst h3;exact⟨id,h1,(hf id (by simp)).trans h2,rfl⟩
 len:=fun⟨id,h1,_⟩=>by subst h1;rfl
 cell:=fun⟨id,h1,_⟩=>by subst h1;rfl
 live:=fun⟨id,h1,h2,h3⟩ i hi=>by
  subst h3
  have:i=id:=by simpa using hi
  subst this
  exact⟨_,h2,rfl,by simp[yO]⟩
 small:=by simp[yO]
def EI (l:List Nat):List AV:=[.sl (l.map eN)]
theorem OA {g:Rows} {rows:List (List AV)} {xs:List (List Nat)} {ids:List Id} (n:Nat) (h:gr Xq g rows xs ids):iK g (n+2) rows=some (xs.map EI):=by
 induction h with
 |nil=>rw[iK];rfl
 |cons h1 _ ih=>
  obtain⟨id,rfl,h2,_⟩:=h1
  rw[iK,ih,cF,dq,fN (e:=eN) (sz:=1) h2 rfl fun a=>Uv g n a];rfl
end Go.Proofs.YtoodopepphhpoaaGreatDoor.V

namespace Go.Proofs.YtoodopepphhpoaaGreatDoor.V
open Go.RowKit
attribute [local irreducible] eu wpOps fB Call
section
variable {P:Program}
def Jn {α:Type} (R:PW α) (z:Nat) (g:Rows) (a:AV) (xs:List α) (ids:List Id):Prop:=∃o rows is,a=.own o 0 xs.length/\g o=some ⟨true,z,rows⟩/\gr R g rows xs is/\ids=o::is
def BZ {α:Type} (e:α->List AV):PW α:=fun _ cs x ids=>cs=e x/\ids=[]
theorem Nx {α:Type} {e:α->List AV} {z:Nat} (hz:∀x,(e x).length=z) (hc:∀x,(e x).all AV.cell=true) (hs:z<yO):EV (BZ e) z where
 frame:=fun h _=>h
 len:=fun h=>by rw[h.1];exact hz _
 cell:=fun h=>by rw[h.1];exact hc _
 live:=fun h i hi=>by rw[h.2]at hi;cases hi
 small:=hs
def MY:PW dD:=fun g cs t ids=>∃i,cs=[.str t.bW,.own i 0 t.de.length]/\g i=some ⟨true,1,t.de.map aL⟩/\ids=[i]
theorem tileOk:EV MY 2 where
 frame:=fun⟨i,h1,h2,h3⟩ hf=>⟨i,h1,(hf i (by rw[h3];simp)).trans h2,h3⟩
 len:=fun⟨i,h1,_⟩=>by rw[h1];rfl
 cell:=fun⟨i,h1,_⟩=>by rw[h1];rfl
 live:=fun⟨i,h1,h2,h3⟩ j hj=>by
  rw[h3]at hj
  have:j=i:=by simpa using hj
  subst this
  exact⟨_,h2,rfl,by simp[yO]⟩
 small:=by simp[yO]
theorem abH {g:Rows} {cs:List AV} {t:dD} {ids:List Id} (n:Nat) (h:MY g cs t ids):eC (ez g) (n+2) cs=some (du t):=by
 obtain⟨i,rfl,h2,_⟩:=h
 have h3:V.fz (ez g) (n+2) (.own i 0 t.de.length)=some (.sl (t.de.map aL)):=gm (e:=aL) (sz:=1) (by simp[ez,h2]) rfl fun x=>by simp[aL,aj,ar,aJ]
 simp only[aj,ar,bF,h3,Option.map_some,du]
end
theorem flatG:EV (BZ ej) 2:=Nx (fun _=>rfl) (fun _=>rfl) (by simp[yO])
theorem flatP:EV (BZ ab) 3:=Nx (fun _=>rfl) (fun _=>rfl) (by simp[yO])
def AsmO (g:Rows) (v:AV) (a:tt) (ids:List Id):Prop:=∃x,v=.agg [x]/\Jn (BZ ab) 3 g x a.ai ids
structure SysO (g:Rows) (v:AV) (s:au) (ids:List Id):Prop where
 ex:∃a b c i1 i2 i3,v=.agg [a,b,c,.int .i64 s.aI]/\Jn (BZ ej) 2 g a s.az.aQ i1/\Jn MY 2 g b s.az.ai i2/\Jn (BZ ab) 3 g c s.dc.ai i3/\ids=i1++(i2++i3)
end Go.Proofs.YtoodopepphhpoaaGreatDoor.V

namespace Go.Proofs.YtoodopepphhpoaaGreatDoor
open Go.RowKit
def ml (n:Int):Bool:=(decide (97<=n)&&decide (n<=122))||(decide (65<=n)&&decide (n<=90))
def nR (n:Int):Bool:=decide (48<=n)&&decide (n<=57)
def yF (i:Nat) (n:Int):Prop:=ml n=true∨(0<i/\(nR n=true∨n=95))
def wM (s:ByteArray):Prop:=(1<=s.size/\s.size<=12)/\∀i (h:i<s.size),yF i s[i].toNat
open Classical in
noncomputable def iY (s:ByteArray):Bool:=decide (wM s)
theorem AD {s:ByteArray} (h:wM s):true=iY s:=by simp[iY,h]
theorem fh {s:ByteArray} (h:¬wM s):false=iY s:=by simp[iY,h]
theorem Gy {s:ByteArray} {b:Bool} (hb:b=true) (h:wM s):b=iY s:=by simp[iY,h,hb]
theorem vJ {s:ByteArray} {b:Bool} (hb:b=false) (h:¬wM s):b=iY s:=by simp[iY,h,hb]
theorem xq {s:ByteArray}:iY s=true↔wM s:=by simp[iY]
theorem Au (w:World) (n:Int):Calls Tryz.prog 144 #[.int .u8 n] w fun e w'=>e=.returned (.bool (ml n))/\w=w':=by
 go_enter Tryz.func144,Tryz.ntmps144
 go_wp2_with fail
 all_goals
  go_ret
  exact⟨jO (by unfold ml;simp[*];try omega),rfl⟩
theorem KQ (w:World) (n:Int):Calls Tryz.prog 145 #[.int .u8 n] w fun e w'=>e=.returned (.bool (nR n))/\w=w':=by
 go_enter Tryz.func145,Tryz.ntmps145
 go_wp2_with fail
 all_goals
  go_ret
  exact⟨jO (by unfold nR;simp[*];try omega),rfl⟩
theorem GO (w:World) (s:ByteArray) (hs:s.size<=9223372036854775807):Calls Tryz.prog 110 #[.string s] w fun e w'=>e=.returned (.bool (iY s))/\Below w.heap.size w w':=by
 by_cases h1:1<=s.size
 case neg=>
  go_enter Tryz.func110,Tryz.ntmps110
  go_wp2_with fail
  go_ret
  exact⟨jO (fh fun h=>h1 h.1.1),Below.refl _ _⟩
 by_cases h2:s.size<=12
 case neg=>
  go_enter Tryz.func110,Tryz.ntmps110
  go_wp2_with fail
  go_ret
  exact⟨jO (fh fun h=>h2 h.1.2),Below.refl _ _⟩
 go_enter Tryz.func110,Tryz.ntmps110
 go_wp2_with fail
 refine(Au _ _).mono ?_
 rintro e w' ⟨rfl,rfl⟩
 cases h3:ml s[0].toNat
 ·go_wp2_with fail
  go_ret
  exact⟨jO (fh fun h=>by have:=h.2 0 (by omega);simp only[yF]at this;rw[h3]at this;simp at this),Below.refl _ _⟩
 ·replace h3:=Lib.hid h3
  go_wp2_with fail
  go_loop [3] (fun i=>∃k:Nat,1<=k/\k<=s.size/\i=.int .i64 k/\Hid (∀j (h:j<s.size),j<k->yF j s[j].toNat)) (fun i=>s.size-(intOf i).toNat)
  case atStart=>exact⟨1,by omega,by omega,rfl,Lib.hid fun j h hj=>by
   obtain rfl:j=0:=by omega
   exact .inl h3.out⟩
  case round=>
   obtain⟨k,uz,hk,rfl,eR⟩:=hrel
   by_cases eP:k<s.size
   ·go_wp2_with fail
    refine(Au _ _).mono ?_
    rintro e w' ⟨rfl,rfl⟩
    have mH:yF k s[k].toNat∨¬yF k s[k].toNat:=Classical.em _
    cases hl:ml s[k].toNat
    ·go_wp2_with fail
     refine(KQ _ _).mono ?_
     rintro e w' ⟨rfl,rfl⟩
     cases hd:nR s[k].toNat
     ·by_cases y9:(s[k].toNat:Int)=95
      ·have h95':((s[k].toNat:Int) !=95)=false:=by simp;omega
       replace y9:=Lib.hid y9
       replace hl:=Lib.hid hl
       replace hd:=Lib.hid hd
       go_wp2_with fail
       go_round
       case rel=>exact⟨k+1,by omega,by omega,by go_num,Lib.hid fun j h hj=>by
        by_cases Cv:j=k
        ·subst Cv;exact .inr ⟨by omega,.inr y9.out⟩
        ·exact eR.out j h (by omega)⟩
       case measure=>simp[intOf];omega
      ·have h95':((s[k].toNat:Int) !=95)=true:=by simp;omega
       replace y9:=Lib.hid y9
       replace hl:=Lib.hid hl
       replace hd:=Lib.hid hd
       go_wp2_with fail
       go_ret
       exact⟨jO (fh fun h=>by
        have:=h.2 k eP;simp only[yF,hl.out,hd.out]at this;exact y9.out (by simp at this;exact this.2)),Below.refl _ _⟩
     ·replace hl:=Lib.hid hl
      replace hd:=Lib.hid hd
      go_wp2_with fail
      go_round
      case rel=>exact⟨k+1,by omega,by omega,by go_num,Lib.hid fun j h hj=>by
       by_cases Cv:j=k
       ·subst Cv;exact .inr ⟨by omega,.inl hd.out⟩
       ·exact eR.out j h (by omega)⟩
      case measure=>simp[intOf];omega
    ·replace hl:=Lib.hid hl
     go_wp2_with fail
     go_round
     case rel=>exact⟨k+1,by omega,by omega,by go_num,Lib.hid fun j h hj=>by
      by_cases Cv:j=k
      ·subst Cv;exact .inl hl.out
      ·exact eR.out j h (by omega)⟩
     case measure=>simp[intOf];omega
   ·go_wp2_with fail
    go_ret
    exact⟨jO (AD ⟨⟨h1,h2⟩,fun i h=>eR.out i h (by omega)⟩),Below.refl _ _⟩
theorem F9 (w:World) (s:ByteArray) (hs:s.size<=9223372036854775807):Calls Tryz.prog 100 #[.string s] w fun e w'=>e=.returned (.bool (iY s))/\w=w':=by
 go_enter Tryz.func100,Tryz.ntmps100
 go_wp2_with fail
 go_loop [8] (fun i=>∃k:Nat,k<=s.size/\i=.int .i64 k/\Hid (∀j (h:j<s.size),j<k->yF j s[j].toNat)) (fun i=>s.size-(intOf i).toNat)
 case atStart=>exact⟨0,by omega,rfl,Lib.hid fun j h hj=>by omega⟩
 case round=>
  obtain⟨k,hk,rfl,eR⟩:=hrel
  by_cases eP:k<s.size
  ·have hc:(s[k].toNat:Int)<48∨(48<=(s[k].toNat:Int)/\(s[k].toNat:Int)<=57)∨(58<=(s[k].toNat:Int)/\(s[k].toNat:Int)<=64)∨(65<=(s[k].toNat:Int)/\(s[k].toNat:Int)<=90)∨(91<=(s[k].toNat:Int)/\(s[k].toNat:Int)<=94)∨(95<=(s[k].toNat:Int)/\(s[k].toNat:Int)<=95)∨(96<=(s[k].toNat:Int)/\(s[k].toNat:Int)<=96)∨(97<=(s[k].toNat:Int)/\(s[k].toNat:Int)<=122)∨123<=(s[k].toNat:Int):=by omega
   by_cases x8:k=0
   ·subst x8
    rcases hc with h|⟨h,h'⟩|⟨h,h'⟩|⟨h,h'⟩|⟨h,h'⟩|⟨h,h'⟩|⟨h,h'⟩|⟨h,h'⟩|h
    ·have y9:((s[0].toNat:Int) !=95)=true:=by simp;try omega
     go_wp2_with fail
     all_goals first
      |(go_ret;exact⟨jO (fh fun hh=>by have:=hh.2 0 eP;simp[yF,ml,nR]at this;omega),rfl⟩)
      |(exfalso;simp_all;done)
      |(exfalso;simp_all;omega)
    ·have y9:((s[0].toNat:Int) !=95)=true:=by simp;try omega
     go_wp2_with fail
     all_goals first
      |(go_ret;exact⟨jO (fh fun hh=>by have:=hh.2 0 eP;simp[yF,ml,nR]at this;omega),rfl⟩)
      |(exfalso;simp_all;done)
      |(exfalso;simp_all;omega)
    ·have y9:((s[0].toNat:Int) !=95)=true:=by simp;try omega
     go_wp2_with fail
     all_goals first
      |(go_ret;exact⟨jO (fh fun hh=>by have:=hh.2 0 eP;simp[yF,ml,nR]at this;omega),rfl⟩)
      |(exfalso;simp_all;done)
      |(exfalso;simp_all;omega)
    ·have y9:((s[0].toNat:Int) !=95)=true:=by simp;try omega
     go_wp2_with fail
     go_round
     case rel=>exact⟨0+1,by omega,by go_num,Lib.hid fun j hj Cv=>by
      by_cases NW:j=0
      ·subst NW;simp[yF,ml,nR];omega
      ·exact eR.out j hj (by omega)⟩
     case measure=>simp[intOf];try omega
    ·have y9:((s[0].toNat:Int) !=95)=true:=by simp;try omega
     go_wp2_with fail
     all_goals first
      |(go_ret;exact⟨jO (fh fun hh=>by have:=hh.2 0 eP;simp[yF,ml,nR]at this;omega),rfl⟩)
      |(exfalso;simp_all;done)
      |(exfalso;simp_all;omega)
    ·have y9:((s[0].toNat:Int) !=95)=false:=by simp;try omega
     go_wp2_with fail
     all_goals first
      |(go_ret;exact⟨jO (fh fun hh=>by have:=hh.2 0 eP;simp[yF,ml,nR]at this;omega),rfl⟩)
      |(exfalso;simp_all;done)
      |(exfalso;simp_all;omega)
    ·have y9:((s[0].toNat:Int) !=95)=true:=by simp;try omega
     go_wp2_with fail
     all_goals first
      |(go_ret;exact⟨jO (fh fun hh=>by have:=hh.2 0 eP;simp[yF,ml,nR]at this;omega),rfl⟩)
      |(exfalso;simp_all;done)
      |(exfalso;simp_all;omega)
    ·have y9:((s[0].toNat:Int) !=95)=true:=by simp;try omega
     go_wp2_with fail
     go_round
     case rel=>exact⟨0+1,by omega,by go_num,Lib.hid fun j hj Cv=>by
      by_cases NW:j=0
      ·subst NW;simp[yF,ml,nR];omega
      ·exact eR.out j hj (by omega)⟩
     case measure=>simp[intOf];try omega
    ·have y9:((s[0].toNat:Int) !=95)=true:=by simp;try omega
     go_wp2_with fail
     all_goals first
      |(go_ret;exact⟨jO (fh fun hh=>by have:=hh.2 0 eP;simp[yF,ml,nR]at this;omega),rfl⟩)
      |(exfalso;simp_all;done)
      |(exfalso;simp_all;omega)
   ·have hz:((k:Int)==0)=false:=by simpa using x8
    have uz:1<=k:=by omega
    clear x8
    rcases hc with h|⟨h,h'⟩|⟨h,h'⟩|⟨h,h'⟩|⟨h,h'⟩|⟨h,h'⟩|⟨h,h'⟩|⟨h,h'⟩|h
    ·have y9:((s[k].toNat:Int) !=95)=true:=by simp;try omega
     go_wp2_with fail
     all_goals first
      |(go_ret;exact⟨jO (fh fun hh=>by have:=hh.2 k eP;simp[yF,ml,nR]at this;omega),rfl⟩)
      |(exfalso;simp_all;done)
      |(exfalso;simp_all;omega)
    ·have y9:((s[k].toNat:Int) !=95)=true:=by simp;try omega
     go_wp2_with fail
     go_round
     case rel=>exact⟨k+1,by omega,by go_num,Lib.hid fun j hj Cv=>by
      by_cases NW:j=k
      ·subst NW;simp[yF,ml,nR];omega
      ·exact eR.out j hj (by omega)⟩
     case measure=>simp[intOf];try omega
    ·have y9:((s[k].toNat:Int) !=95)=true:=by simp;try omega
     go_wp2_with fail
     all_goals first
      |(go_ret;exact⟨jO (fh fun hh=>by have:=hh.2 k eP;simp[yF,ml,nR]at this;omega),rfl⟩)
      |(exfalso;simp_all;done)
      |(exfalso;simp_all;omega)
    ·have y9:((s[k].toNat:Int) !=95)=true:=by simp;try omega
     go_wp2_with fail
     go_round
     case rel=>exact⟨k+1,by omega,by go_num,Lib.hid fun j hj Cv=>by
      by_cases NW:j=k
      ·subst NW;simp[yF,ml,nR];omega
      ·exact eR.out j hj (by omega)⟩
     case measure=>simp[intOf];try omega
    ·have y9:((s[k].toNat:Int) !=95)=true:=by simp;try omega
     go_wp2_with fail
     all_goals first
      |(go_ret;exact⟨jO (fh fun hh=>by have:=hh.2 k eP;simp[yF,ml,nR]at this;omega),rfl⟩)
      |(exfalso;simp_all;done)
      |(exfalso;simp_all;omega)
    ·have y9:((s[k].toNat:Int) !=95)=false:=by simp;try omega
     go_wp2_with fail
     go_round
     case rel=>exact⟨k+1,by omega,by go_num,Lib.hid fun j hj Cv=>by
      by_cases NW:j=k
      ·subst NW;simp[yF,ml,nR];omega
      ·exact eR.out j hj (by omega)⟩
     case measure=>simp[intOf];try omega
    ·have y9:((s[k].toNat:Int) !=95)=true:=by simp;try omega
     go_wp2_with fail
     all_goals first
      |(go_ret;exact⟨jO (fh fun hh=>by have:=hh.2 k eP;simp[yF,ml,nR]at this;omega),rfl⟩)
      |(exfalso;simp_all;done)
      |(exfalso;simp_all;omega)
    ·have y9:((s[k].toNat:Int) !=95)=true:=by simp;try omega
     go_wp2_with fail
     go_round
     case rel=>exact⟨k+1,by omega,by go_num,Lib.hid fun j hj Cv=>by
      by_cases NW:j=k
      ·subst NW;simp[yF,ml,nR];omega
      ·exact eR.out j hj (by omega)⟩
     case measure=>simp[intOf];try omega
    ·have y9:((s[k].toNat:Int) !=95)=true:=by simp;try omega
     go_wp2_with fail
     all_goals first
      |(go_ret;exact⟨jO (fh fun hh=>by have:=hh.2 k eP;simp[yF,ml,nR]at this;omega),rfl⟩)
      |(exfalso;simp_all;done)
      |(exfalso;simp_all;omega)
  ·by_cases h1:1<=s.size
   ·by_cases h2:s.size<=12
    ·go_wp2_with fail
     go_ret
     exact⟨jO (Gy (by simp<;>omega) ⟨⟨h1,h2⟩,fun i h=>eR.out i h (by omega)⟩),rfl⟩
    ·go_wp2_with fail
     go_ret
     exact⟨jO (vJ (by simp<;>omega) fun h=>h2 h.1.2),rfl⟩
   ·go_wp2_with fail
    go_ret
    exact⟨jO (vJ (by simp<;>omega) fun h=>h1 h.1.1),rfl⟩
end Go.Proofs.YtoodopepphhpoaaGreatDoor

namespace Go.Proofs.YtoodopepphhpoaaGreatDoor.V
open Go.RowKit
theorem mixed:Tryz.prog.follows .mixedOrders=true:=by kernel_rfl
variable {P:Program} {w:World} {D:Nat->Prop} {ι:Names}
theorem oN {f:Nat} {args:List AV} {r:AV} {vs0:Array Value} {u0:Value} (ql:∀(w:World) (D:Nat->Prop) (ι:Names) vs,gI P w D ι args vs->vs=vs0) (hr:∀(w:World) (D:Nat->Prop) (ι:Names),dZ P w D ι r u0) (NT:∀g,iy g 6 r=some r)
  (h:∀w,Calls P f vs0 w fun e w'=>e=.returned u0/\Below w.heap.size w w'):ax P f args r:=by
 intro n
 refine fH fun hs D ι w vs S U A=>?_
 have:=ql w D ι vs A
 subst this
 refine(h w).mono ?_
 rintro e w' ⟨rfl,hb⟩
 exact⟨r,_,n,D,ι,u0,rfl,⟨r,NT _,rfl⟩,Step.stay S hb.block hb.size hb.os hb.tape hb.output (fun _ h=>h) (fun _ h=>.inl h) (fun _ _ h=>h),
  S.stay hb.block hb.size (fun _ h=>h) (fun b hd=>Nat.lt_of_lt_of_le (S.dead b hd) hb.size) (fun _ h=>.inl h) (fun _ _ h=>h),U,Nat.le_refl _,hr _ _ _⟩
theorem GL {s:ByteArray} {vs:Array Value} (h:gI P w D ι [.str s] vs):vs= #[.string s]:=by
 obtain⟨h1,h2⟩:=h
 obtain⟨u,hu,hr⟩:=h2 0 _ rfl
 rw[ik hr]at hu
 obtain⟨l⟩:=vs
 cases l with
 |nil=>simp at h1
 |cons a l=>cases l with
  |nil=>simp at hu;subst hu;rfl
  |cons b l=>simp at h1
theorem J9 (s:ByteArray) (hs:s.size<=9223372036854775807):ax Tryz.prog 110 [.str s] (.bool (iY s)):=
 oN (fun _ _ _ _=>GL) (fun _ _ _=>.fq _ _ (.bool _)) (fun g=>gi g 5 _) fun w=>GO w s hs
theorem JW (s:ByteArray) (hs:s.size<=9223372036854775807):ax Tryz.prog 100 [.str s] (.bool (iY s)):=
 oN (fun _ _ _ _=>GL) (fun _ _ _=>.fq _ _ (.bool _)) (fun g=>gi g 5 _) fun w=>(F9 w s hs).mono (by rintro e w' ⟨rfl,rfl⟩;exact⟨rfl,Below.refl _ _⟩)
end Go.Proofs.YtoodopepphhpoaaGreatDoor.V

namespace Go.Proofs.YtoodopepphhpoaaGreatDoor
open Go.RowKit
def wV (n:Nat):List UInt8:=if h:n=0 then[]else wV (n / 10)++[UInt8.ofNat (48+n % 10)]
termination_by n
decreasing_by omega
theorem Cg:wV 0=[]:=by unfold wV;simp
theorem Fs {n:Nat} (h:n≠0):wV n=wV (n / 10)++[UInt8.ofNat (48+n % 10)]:=by
 conv=>lhs;unfold wV
 rw[dif_neg h]
theorem KJ (c:UInt8) (l:ByteArray):((⟨#[c]⟩++l:ByteArray)).data.toList=c::l.data.toList:=by
 simp[ByteArray.data_append]
theorem zQ:∀(m n:Nat),n<10 ^ m->(wV n).length<=m
 |0,n,h=>by
  have:n=0:=by simpa using h
  subst this;simp[wV]
 |m+1,n,h=>by
  unfold wV
  split
  ·simp
  ·have:=zQ m (n / 10) (by rw[Nat.pow_succ]at h;omega)
   simp;omega
end Go.Proofs.YtoodopepphhpoaaGreatDoor

namespace Go.Proofs.YtoodopepphhpoaaGreatDoor.V
open Go.RowKit
attribute [local irreducible] eu wpOps fB Call
def But (σ:aw) (ids:List Id) (g:Rows) (n:Nat):Prop:=σ.next<=n/\∀x:Id,x.bt<σ.next->x∉ids->g x=σ.get x
theorem RY {P:Program} {w:World} {D:Nat->Prop} {ι:Names} {k:Int} {vs:Array Value} (h:gI P w D ι [.int .i64 k] vs):vs= #[.int .i64 k]:=by
 obtain⟨h1,h2⟩:=h
 obtain⟨u,hu,hr⟩:=h2 0 _ rfl
 rw[ev hr]at hu
 obtain⟨l⟩:=vs
 cases l with
 |nil=>simp at h1
 |cons a l=>cases l with
  |nil=>simp at hu;subst hu;rfl
  |cons b l=>simp at h1
end Go.Proofs.YtoodopepphhpoaaGreatDoor.V

namespace Go.Proofs.YtoodopepphhpoaaGreatDoor.V
open Go.RowKit
def AV.clean:AV->Bool
 | .int .. | .bool _| .str _| .cr| .jn| .j9| .kC| .jS| .own .. | .ptr .. | .map .. | .uQ _=>true
 | .sl l=>l.isEmpty
 |_=>false
def AV.wU:AV->Bool
 | .agg cs=>cs.all AV.clean
 | .fX cs=>cs.all fun a=>match a with
  | .agg cs=>cs.all AV.clean
  |a=>a.clean
 |a=>a.clean
def pw (ids:List Id) (g g':Rows):Rows:=fun id=>if id∈ids then g' id else g id
theorem lg {ids:List Id} {g g':Rows} {id:Id} (h:id∈ids):pw ids g g' id=g' id:=if_pos h
theorem lL {ids:List Id} {g g':Rows} {id:Id} (h:id∉ids):pw ids g g' id=g id:=if_neg h
section
variable {P:Program} {w w':World} {D D' D1 D2:Nat->Prop} {ι ι1 ι2:Names}
theorem lI {a:AV} {v:Value} (hp:a.clean=true) (h:dZ P w D1 ι1 a v):dZ P w D2 ι1 a v:=by
 cases h with
 |fq a v h=>
  cases h with
  |int=>exact .fq _ _ (.int _ _)
  |bool=>exact .fq _ _ (.bool _)
  |str=>exact .fq _ _ (.str _)
  |cr=>exact .fq _ _ .cr
  |jn=>exact .fq _ _ .jn
  |j9=>exact .fq _ _ .j9
  |kC=>exact .fq _ _ .kC
  |jS=>exact .fq _ _ .jS
  |err=>simp[AV.clean]at hp
  |ES a c h=>exact .fq _ _ (.ES a c h)
  |sl rows b o n c sz vs h1 h2 h3=>
   have:rows=[]:=by simpa[AV.clean]using hp
   subst this
   simp only[List.length_nil]at h1
   subst h1
   exact .fq _ _ (.ES _ _ h3)
  |er=>simp[AV.clean]at hp
  |agg=>simp[AV.clean]at hp
  |fn=>simp[AV.clean]at hp
 |own id off len o cap B h1 h2 h3 h4 h5 h6=>exact .own id off len o cap B h1 h2 h3 h4 h5 h6
 |map id m B h1 h2=>exact .map id m B h1 h2
 |uQ id c B h1 h2=>exact .uQ id c B h1 h2
 |ptr id i off B h1 h2=>exact .ptr id i off B h1 h2
 |agg=>simp[AV.clean]at hp
 |fX=>simp[AV.clean]at hp
 |fn=>simp[AV.clean]at hp
 |yh=>simp[AV.clean]at hp
theorem oL {cs:List AV} {v:Value} (hc:cs.all AV.clean=true) (h:dZ P w D1 ι1 (.agg cs) v):dZ P w D2 ι1 (.agg cs) v:=by
 obtain⟨vs,f,rfl,h1,h2,h3,h4⟩:=jG h
 rw[List.all_eq_true]at hc
 exact .agg cs vs f h1 h2 h3 fun j a ha=>lI (hc a (List.mem_of_getElem? ha)) (h4 j a ha)
theorem AS {a:AV} {v:Value} (hp:a.wU=true) (h:dZ P w D1 ι1 a v):dZ P w D2 ι1 a v:=by
 cases a with
 |agg cs=>exact oL hp h
 |fX cs=>
  obtain⟨vs,f,rfl,h1,h3,h4⟩:=zi h
  simp only[AV.wU,List.all_eq_true]at hp
  refine .fX cs vs f h1 h3 fun j a ha=>?_
  have:=hp a (List.mem_of_getElem? ha)
  split at this
  ·exact oL this (h4 j _ ha)
  ·exact lI this (h4 j _ ha)
 |_=>exact lI hp h
theorem IC {ag:Bool} {n:Nat} {cs:List AV} {x:AV} {v:Value} (hc:∀a∈cs,a.clean=true) (hp:part ag n cs=some x) (hr:dZ P w D1 ι1 x v):dZ P w D2 ι1 x v:=by
 unfold part at hp
 split at hp
 ·split at hp
  ·simp only[Option.some.injEq]at hp;subst hp
   exact oL (List.all_eq_true.2 fun a ha=>hc a (List.mem_of_mem_take ha)) hr
  ·cases hp
 ·exact lI (hc x (List.mem_of_mem_head? hp)) hr
theorem jg.clean {B:wL} {r:Row} (R:jg P w D1 ι1 B r) (h:∀cs∈r.rows,∀a∈cs,a.clean=true):jg P w D2 ι1 B r:=
 ⟨R.sz,R.flat,fun hk=>⟨R.sz,(R.row hk).wE,(R.row hk).fits,(R.row hk).len,R.flat,fun i j cs a hi hj=>by
  obtain⟨v,q1,q2⟩:=(R.row hk).at_ i j cs a hi hj
  exact⟨v,q1,lI (h cs (List.mem_of_getElem? hi) a (List.mem_of_getElem? hj)) q2⟩⟩,fun m hm=>by
  obtain⟨h1,es,c,h2,h3,h5,h4⟩:=R.map m hm
  refine⟨h1,es,c,h2,h3,h5,fun i cs hi=>?_⟩
  obtain⟨e,kv,vv,q1,q2,q3,q4,q5⟩:=h4 i cs hi
  have hc:=h cs (List.mem_of_getElem? hi)
  exact⟨e,kv,vv,q1,q2,q3,IC hc q2 q4,lI (hc vv (List.mem_of_getElem? q3)) q5⟩,fun c hc=>by
  obtain⟨h1,buf,s,q,h2,h3,h4⟩:=R.chan c hc
  refine⟨h1,buf,s,q,h2,h3,fun i cs hi=>?_⟩
  obtain⟨a,u,rfl,q2,q3⟩:=h4 i cs hi
  exact⟨a,u,rfl,q2,lI (h [a] (List.mem_of_getElem? hi) a (by simp)) q3⟩⟩
def Handed (ids:List Id) (g:Rows):Prop:=∀id∈ids,∃r,g id=some r/\r.w=true/\∀cs∈r.rows,∀a∈cs,a.clean=true
theorem Mb {f:Nat} {args args':List AV} {g:Rows} {n:Nat} {K:AV->aw->Prop} (hv:eC (ez g) 6 args=some args')
  (h:Sound P f args' ⟨fun _=>none,n⟩ fun r σ'=>∃ids,r.wU=true/\Handed ids σ'.get/\K r ⟨pw ids g σ'.get,σ'.next⟩):Sound P f args ⟨g,n⟩ K:=by
 intro hs D ι w vs S U A
 let E:Nat->Prop:=fun b=>D b∨∃id r B,g id=some r/\ι id=some B/\b=B.b
 have lt:∀id r B,g id=some r->ι id=some B->B.b<w.heap.size:=fun id r B h1 h2=>by
  obtain⟨B',eE,R,_⟩:=S.row id r h1
  rw[h2]at eE;injection eE with eE;subst eE
  exact R.lt
 have S0:iD P w.heap.size E ι (fun _=>none) w:=⟨Nat.le_refl _,fun b hb=>by
  rcases hb with hb|⟨id,r,B,h1,h2,rfl⟩
  ·exact S.dead b hb
  ·exact lt id r B h1 h2,fun id r h=>(by cases h),fun id lz r r' B B' h=>(by cases h)⟩
 obtain⟨l1,l2⟩:=iG hv
 have A':gI P w E ι args' vs:=⟨by rw[A.1,l1],fun j a hj=>by
  obtain⟨a0,mM,hz⟩:=l2 j a hj
  obtain⟨u,hu,hr⟩:=A.2 j a0 mM
  refine⟨u,hu,(rl (D2:=E) (ι2:=ι) (fun b h=>.inl h) (fun id row hg hw=>?_) 6 a0 u a hr hz).1⟩
  unfold ez at hg
  simp only[Option.map_eq_some_iff]at hg
  obtain⟨r,mj,rfl⟩:=hg
  obtain⟨B,hB,R,_,_⟩:=S.row id r mj
  exact⟨B,hB,R.flag true,.inr ⟨id,r,B,mj,hB,rfl⟩⟩⟩
 refine(h w.heap.size E ι w vs S0 U A').mono ?_
 rintro e w' ⟨r0,g',n',D2,ι1,u,rfl,⟨ids,oR,hid,hK⟩,T,S1,U1,hn,hR⟩
 have hb:∀b,b<w.heap.size->w'.heap[b]? =w.heap[b]? :=T.below.block
 have hz:=T.below.size
 have frame:∀{a v},dZ P w D ι a v->dZ P w' D ι1 a v:=fun h=>h.frame (fun b hd=>hb b (S.dead b hd)) (fun _ h=>h) T.names
 refine⟨r0,_,n',D,ι1,u,rfl,hK,⟨T.below.mono S.lo,fun b hd=>hb b (S.dead b hd),fun _ h=>h,T.names,fun _ h=>.inl h⟩,⟨Nat.le_trans S.lo hz,fun b hd=>Nat.lt_of_lt_of_le (S.dead b hd) hz,fun id r hr=>?_,fun Rk id2 r1 r2 B1 B2 h1 h2 hw Bn mv HX=>?_⟩,U1,hn,AS oR hR⟩
 ·by_cases hi:id∈ids
  ·rw[lg hi]at hr
   obtain⟨r',mj,hw,hcr⟩:=hid id hi
   rw[hr]at mj;injection mj with mj;subst mj
   obtain⟨B,hB,R,k1,k2⟩:=S1.row id r hr
   have kN:=k1 hw
   exact⟨B,hB,R.clean hcr,fun _=>Nat.le_trans S.lo kN,fun _ hd=>Nat.lt_irrefl _ (Nat.lt_of_lt_of_le (S.dead _ hd) kN)⟩
  ·rw[lL hi]at hr
   obtain⟨B,hB,R,k1,k2⟩:=S.row id r hr
   have JK:=lt id r B hr hB
   exact⟨B,T.names _ _ hB,R.frame (hb _ JK) fun a v h=>frame h,k1,k2⟩
 ·have new:∀{id r B},id∈ids->pw ids g g' id=some r->ι1 id=some B->w.heap.size<=B.b/\g' id=some r/\r.w=true:=fun {id r B} hi hr hB=>by
   rw[lg hi]at hr
   obtain⟨r',mj,hw,_⟩:=hid id hi
   replace mj:g' id=some r':=mj
   rw[hr]at mj;injection mj with mj;subst mj
   obtain⟨B',eE,_,k1,_⟩:=S1.row id r hr
   rw[hB]at eE;injection eE with eE;subst eE
   exact⟨k1 hw,hr,hw⟩
  have zh:∀{id r B},id∉ids->pw ids g g' id=some r->ι1 id=some B->B.b<w.heap.size/\g id=some r/\ι id=some B:=fun {id r B} hi hr hB=>by
   rw[lL hi]at hr
   obtain⟨B',eE,_⟩:=S.row id r hr
   have:=T.names _ _ eE
   rw[hB]at this;injection this with this;subst this
   exact⟨lt id r _ hr eE,hr,eE⟩
  by_cases i1:Rk∈ids
  ·obtain⟨a1,a2,a3⟩:=new i1 h1 Bn
   by_cases i2:id2∈ids
   ·obtain⟨b1,b2,b3⟩:=new i2 h2 mv
    exact S1.inj Rk id2 r1 r2 B1 B2 a2 b2 hw Bn mv HX
   ·obtain⟨b1,_⟩:=zh i2 h2 mv
    omega
  ·obtain⟨a1,a2,a3⟩:=zh i1 h1 Bn
   by_cases i2:id2∈ids
   ·obtain⟨b1,_⟩:=new i2 h2 mv
    omega
   ·obtain⟨b1,b2,b3⟩:=zh i2 h2 mv
    exact S.inj Rk id2 r1 r2 B1 B2 a2 b2 hw a3 b3 HX
theorem ET (hm:P.follows .mixedOrders=true) {f:Nat} {args args':List AV} {σ:aw} {K:AV->aw->Prop} (hv:eC (ez σ.get) 6 args=some args')
  (h:Call P f args' ⟨fun _=>none,σ.next⟩ fun r σ'=>∃ids,r.wU=true/\Handed ids σ'.get/\K r ⟨pw ids σ.get σ'.get,σ'.next⟩):Call P f args σ K:=
 fH (Mb hv (iv hm h))
end
inductive uB:List AV->List AV->Prop
 |nil:uB [] []
 |same (a) {l l'}:uB l l'->uB (a::l) (a::l')
 |ptr (cs rest) {l l'}:uB l l'->uB (.er (cs++rest)::l) (.er cs::l')
 |cr {l l'}:uB l l'->uB (.cr::l) (.sl []::l')
theorem R0 {P:Program} {w:World} {D:Nat->Prop} {ι:Names} {cs rest:List AV} {v:Value} (h:dZ P w D ι (.er (cs++rest)) v):dZ P w D ι (.er cs) v:=by
 obtain⟨b,o,vs,rfl,h1,h2,h3,h4⟩:=nD h
 exact .fq _ _ (.er cs b o vs h1 (fun a ha=>h2 a (List.mem_append_left _ ha)) (fun j hj=>h3 j (by rw[List.length_append];omega)) fun j a ha=>h4 j a (by
  have:=(List.getElem?_eq_some_iff.1 ha).1
  rw[List.getElem?_append_left this];exact ha))
theorem R4 {P:Program} {w:World} {D:Nat->Prop} {ι:Names} {v:Value} (h:dZ P w D ι .cr v):dZ P w D ι (.sl []) v:=by
 cases h with
 |fq _ _ h=>
  cases h with
  |cr=>exact .fq _ _ (.ES none 0 (Nat.zero_le _))
theorem uB.len {l l':List AV} (h:uB l l'):l'.length=l.length:=by induction h<;>simp_all
theorem uB.get {P:Program} {w:World} {D:Nat->Prop} {ι:Names} {l l':List AV} (h:uB l l'):∀{j:Nat} {a':AV},l'[j]? =some a'->∃a,l[j]? =some a/\∀v,dZ P w D ι a v->dZ P w D ι a' v:=by
 induction h with
 |nil=>intro j a' hj;simp at hj
 |same a _ ih=>
  intro j a' hj
  cases j with
  |zero=>simp at hj;subst hj;exact⟨a,rfl,fun _ h=>h⟩
  |succ j=>exact ih (by simpa using hj)
 |ptr cs rest _ ih=>
  intro j a' hj
  cases j with
  |zero=>simp at hj;subst hj;exact⟨_,rfl,fun _ h=>R0 h⟩
  |succ j=>exact ih (by simpa using hj)
 |cr _ ih=>
  intro j a' hj
  cases j with
  |zero=>simp at hj;subst hj;exact⟨_,rfl,fun _ h=>R4 h⟩
  |succ j=>exact ih (by simpa using hj)
theorem Call.cut {P:Program} (hm:P.follows .mixedOrders=true) {f:Nat} {args args':List AV} {σ:aw} {K:AV->aw->Prop} (hc:uB args args') (h:Call P f args' σ K):Call P f args σ K:=
 fH fun hs D ι w vs S U A=>iv hm h hs D ι w vs S U ⟨by rw[A.1,hc.len],fun j a' hj=>by
  obtain⟨a,ha,hr⟩:=hc.get (P:=P) (w:=w) (D:=D) (ι:=ι) hj
  obtain⟨u,hu,hv⟩:=A.2 j a ha
  exact⟨u,hu,hr u hv⟩⟩
theorem ax.cut {P:Program} (hm:P.follows .mixedOrders=true) {f:Nat} {args args':List AV} {r:AV} (hc:uB args args') (h:ax P f args' r):ax P f args r:=fun n=>(h n).cut hm hc
end Go.Proofs.YtoodopepphhpoaaGreatDoor.V

namespace Go.Proofs.YtoodopepphhpoaaGreatDoor.V
open Go.RowKit
attribute [local irreducible] eu wpOps fB Call
attribute [local go_sem] aD fx eK fG fF dz upd cw K.av cJ AV.cells AV.cell rowOf rowsOf part ld rowAt fY ck cq dF dP gh bH da ec fD eU dx dV cY cX dJ dK bK aU cP bJ cR cQ dS dW dU cL bU cZ dQ bI aA cV cE fZ bq cI bQ aP dr bd dG AV.undef bx bD dL dM dH dI cH eb ee cD dY dX cU cW List.getD_cons_zero List.getD_cons_succ List.getD_nil List.all_cons List.all_nil Bool.and_true Bool.true_and Bool.and_self Bool.not_true Bool.not_false Option.map_some Option.map_none Option.bind_some Option.bind_none List.length_cons List.length_nil List.take_succ_cons List.take_zero List.take_nil List.drop_succ_cons List.drop_zero List.drop_nil List.head?_cons List.map_cons List.map_nil List.getElem?_cons_zero List.getElem?_cons_succ List.cons_append List.nil_append List.append_nil List.length_map List.set_cons_zero List.set_cons_succ eq_self Int.toNat_natCast Int.natCast_nonneg and_self true_and and_true decide_true decide_false Bool.false_eq_true Nat.zero_add Nat.add_zero List.contains_cons List.contains_nil Bool.or_false Bool.false_or beq_self_eq_true ne_eq not_true_eq_false not_false_eq_true Id.mk.injEq false_and and_false Nat.le_refl List.length_append beq_true beq_false Bool.not_eq_eq_eq_not or_false false_or ez aj ar aJ aZ bF cz aM bj aK aW cK br
section
variable {P:Program} {α:Type} {e:α->List AV} {z:Nat} {g g':Rows} {v:AV} {L:List α} {ids:List Id}
def X6 (e:α->List AV) (z:Nat) (g:Rows) (v:AV) (L:List α) (ids:List Id):Prop:=(L=[]/\v=.cr/\ids=[])∨∃o,v=.own o 0 L.length/\g o=some ⟨true,z,L.map e⟩/\ids=[o]/\0<L.length
def Tt (e:α->List AV) (L:List α):AV:=if L.length=0 then .cr else .sl (L.map e)
def LikeN (e:α->List AV) (L:List α) (w:AV):Prop:=(w=.cr/\L=[])∨w=.sl (L.map e)
def MakesN (P:Program) (f:Nat) (args:List AV) (e:α->List AV) (z:Nat) (L:List α) (c:Int):Prop:=
 ∀n:Nat,Call P f args ⟨fun _=>none,n⟩ (fun r σ'=>∃v ids,r=.fX [v,.int .i64 c]/\X6 e z σ'.get v L ids/\ML n σ'.next ids)
theorem BW (hm:P.follows .mixedOrders=true) {f:Nat} {args:List AV} {σ:aw} {K:AV->aw->Prop} (h:Call P f args σ K):Call P f args σ (fun r σ'=>K r σ'/\σ.next<=σ'.next):=
 fH fun hs D ι w vs S U A=>(iv hm h hs D ι w vs S U A).mono (by
  rintro e w' ⟨r,g',n',D2,ι1,u,rfl,hK,T,S1,U1,hn,hR⟩
  exact⟨r,g',n',D2,ι1,u,rfl,⟨hK,hn⟩,T,S1,U1,hn,hR⟩)
end
end Go.Proofs.YtoodopepphhpoaaGreatDoor.V

namespace Go.Proofs.YtoodopepphhpoaaGreatDoor.V
open Go.RowKit
attribute [local irreducible] eu wpOps fB Call
section
variable {P:Program}
theorem rM {xs:List AV} {w:World} {D:Nat->Prop} {ι:Names} {a:AV} {v:Value} {vs:Array Value} (h:lO P w D a v) (k:gI P w D ι xs vs):gI P w D ι (a::xs) (#[v]++vs):=
 rL (xs:=[a]) ⟨rfl,fun j b hj=>by
  cases j with
  |zero=>simp at hj;subst hj;exact⟨v,rfl,.fq _ _ h⟩
  |succ j=>simp at hj⟩ k
end
end Go.Proofs.YtoodopepphhpoaaGreatDoor.V

namespace Go.Proofs.YtoodopepphhpoaaGreatDoor.V
open Go.RowKit
attribute [local irreducible] eu wpOps fB Call
attribute [local go_sem] aD fx eK fG fF dz upd cw K.av cJ AV.cells AV.cell rowOf rowsOf part ld rowAt fY ck cq dF dP gh bH da ec fD eU dx dV cY cX dJ dK bK aU cP bJ cR cQ dS dW dU cL bU cZ dQ bI aA cV cE fZ bq cI bQ aP dr bd dG AV.undef bx bD dL dM dH dI cH eb ee cD dY dX cU cW List.getD_cons_zero List.getD_cons_succ List.getD_nil List.all_cons List.all_nil Bool.and_true Bool.true_and Bool.and_self Bool.not_true Bool.not_false Option.map_some Option.map_none Option.bind_some Option.bind_none List.length_cons List.length_nil List.take_succ_cons List.take_zero List.take_nil List.drop_succ_cons List.drop_zero List.drop_nil List.head?_cons List.map_cons List.map_nil List.getElem?_cons_zero List.getElem?_cons_succ List.cons_append List.nil_append List.append_nil List.length_map List.set_cons_zero List.set_cons_succ eq_self Int.toNat_natCast Int.natCast_nonneg and_self true_and and_true decide_true decide_false Bool.false_eq_true Nat.zero_add Nat.add_zero List.contains_cons List.contains_nil Bool.or_false Bool.false_or beq_self_eq_true ne_eq not_true_eq_false not_false_eq_true Id.mk.injEq false_and and_false Nat.le_refl List.length_append beq_true beq_false Bool.not_eq_eq_eq_not or_false false_or ez aj ar aJ aZ bF cz aM bj aK aW cK br
theorem Ds (g:Rows) (s:au):fz g 6 (.agg (dh s))=some (.agg (dh s)):=by simp[dh,bj,aj,ar,cz,aJ]
theorem I6 {g:Rows} {v w v' w':AV} (h1:fz g 6 v=some v') (h2:fz g 6 w=some w'):eC g 6 [v,w]=some [v',w']:=by
 simp only[aj,ar,h1,h2,Option.map_some]
end Go.Proofs.YtoodopepphhpoaaGreatDoor.V
