/- One operation, calls among them. -/
import Derived.Test.YtihgaadadaekmaaGreatDoorDcA
import Derived.Orders
import Derived.Conc.LoneCalls
import Derived.WalkKit
import Derived.WalkSpells
import Derived.WalkLawsBesides
import Derived.Lib.Hide
import Derived.Deep.QuietTactic
import Derived.BigQuiet
import Derived.StillTailTactics
import Derived.Deep.RegionWith
import Derived.Deep.RegionHeld3
import Derived.Deep.LoopGhost
import Derived.Deep.CutRange
import Derived.Deep.DeepCutAuto
import Derived.Test.YtihgaadadaekmaaGreatDoorChecked
set_option linter.unusedVariables false
set_option linter.unusedSimpArgs false
set_option maxRecDepth 100000
set_option maxHeartbeats 16000000
namespace Go.Proofs.YtihgaadadaekmaaGreatDoor.V
open Go.RowKit
variable {P:Program} {w w':World} {D D' D2:Nat->Prop} {ι ι' ι2:Names}
def Sound (P:Program):eW:=fun f args σ K=>∀(hs:Nat) (D:Nat->Prop) (ι:Names) (w:World) (vs:Array Value),fG P hs D ι σ.get w->Used ι σ.next (fun _=>False)->eP P w D ι args vs->
 Calls P f vs w fun e w'=>∃r g' n' D' ι' u,e=.returned u/\K r ⟨g',n'⟩/\Step hs D ι w D' ι' w'/\fG P hs D' ι' g' w'/\Used ι' n' (fun _=>False)/\σ.next<=n'/\cv P w' D' ι' r u
section
variable {g:Rows} {hs:Nat} {env:Env} {a:Act} {o:Oper} {id:Id} {v:AV}
theorem fG.ro (S:fG P hs D ι g w):fG P w.heap.size D ι (ro g) w:=by
 refine⟨Nat.le_refl _,S.dead,fun id r h=>?_,fun id jP r r' B B' h h' hw=>?_⟩
 ·unfold V.ro at h
  simp only[Option.map_eq_some_iff]at h
  obtain⟨r0,h0,rfl⟩:=h
  obtain⟨B,hB,R,_,_⟩:=S.row id r0 h0
  exact⟨B,hB,R.flag false,fun h=>by simp at h,fun h=>by simp at h⟩
 ·unfold V.ro at h
  simp only[Option.map_eq_some_iff]at h
  obtain⟨r0,h0,rfl⟩:=h
  simp at hw
theorem xz {g0:Rows} {f:Nat} {args:List AV} {n:Nat} {K:AV->Prop} {vs:Array Value} (h:PC (Sound P) f args ⟨g0,n⟩ K) (oG:∀id r,g0 id=some r->g id=some r) (S:fG P hs D ι g w) (U:Used ι n (fun _=>False)) (A:eP P w D ι args vs):
  Calls P f vs w fun e w'=>∃r D' u,e=.returned u/\K r/\Step hs D ι w D' ι w'/\fG P hs D' ι g w'/\cv P w' D' ι r u:=by
 refine(h w.heap.size D ι w vs (S.sub oG).ro U A).mono ?_
 rintro e w' ⟨r0,g',n',D1,ι1,u,rfl,⟨r,hr,hK⟩,T,S1,_,_,hR⟩
 have hb:∀b,b<w.heap.size->w'.heap[b]? =w.heap[b]? :=T.below.block
 have hz:=T.below.size
 have q:=pf (D2:=fun b=>D b∨(w.heap.size<=b/\b<w'.heap.size)) (ι2:=ι) (fun b hd=>by
  rcases T.new b hd with h|h
  ·exact .inl h
  ·exact .inr ⟨h,S1.dead b hd⟩) (fun id row hg hw=>by
  obtain⟨B,hB,R,h1,_⟩:=S1.row id row hg
  exact⟨B,hB,R,.inr ⟨h1 hw,R.lt⟩⟩) 6 r0 u r hR hr
 refine⟨r,_,u,rfl,hK,?_,?_,q.1⟩
 ·exact Step.stay S hb hz T.below.os T.below.tape T.below.output (fun _ h=>.inl h) (fun b h=>by rcases h with h|h;exact .inl h;exact .inr h.1) (fun _ _ h=>h)
 ·exact S.stay hb hz (fun _ h=>.inl h) (fun b h=>by rcases h with h|h;exact Nat.lt_of_lt_of_le (S.dead b h) hz;exact h.2) (fun b h=>by rcases h with h|h;exact .inl h;exact .inr h.1) (fun _ _ h=>h)
theorem uD {g0:Rows} {f:Nat} {args:List AV} {n:Nat} {K:AV->Prop} {vs:Array Value} (h:PCv (Sound P) f args ⟨g0,n⟩ K) (oG:∀id r,g0 id=some r->g id=some r) (S:fG P hs D ι g w) (U:Used ι n (fun _=>False)) (A:eP P w D ι args vs):
  Calls P f vs w fun e w'=>∃r D' u,e=.returned u/\K r/\Step hs D ι w D' ι w'/\fG P hs D' ι g w'/\cv P w' D' ι r u:=by
 obtain⟨eJ,ha,h⟩:=h
 let D1:Nat->Prop:=fun b=>D b∨∃id r B,g id=some r/\ι id=some B/\b=B.b
 have lt:∀id r B,g id=some r->ι id=some B->B.b<w.heap.size:=fun id r B h1 h2=>by
  obtain⟨B',dk,R,_⟩:=S.row id r h1
  rw[h2]at dk;injection dk with dk;subst dk
  exact R.lt
 have S0:fG P w.heap.size D1 ι (fun _=>none) w:=⟨Nat.le_refl _,fun b hb=>by
  rcases hb with hb|⟨id,r,B,h1,h2,rfl⟩
  ·exact S.dead b hb
  ·exact lt id r B h1 h2,fun id r h=>(by cases h),fun id jP r r' B B' h=>(by cases h)⟩
 obtain⟨l1,l2⟩:=fC ha
 have A':eP P w D1 ι eJ vs:=⟨by rw[A.1,l1],fun j a hj=>by
  obtain⟨a0,j8,hf⟩:=l2 j a hj
  obtain⟨u,hu,hr⟩:=A.2 j a0 j8
  refine⟨u,hu,(pf (D2:=D1) (ι2:=ι) (fun b h=>.inl h) (fun id row hg hw=>?_) 6 a0 u a hr hf).1⟩
  unfold dC at hg
  simp only[Option.map_eq_some_iff]at hg
  obtain⟨r,mo,rfl⟩:=hg
  obtain⟨B,hB,R,_,_⟩:=S.row id r (oG id r mo)
  exact⟨B,hB,R.flag true,.inr ⟨id,r,B,oG id r mo,hB,rfl⟩⟩⟩
 refine(h w.heap.size D1 ι w vs S0 U A').mono ?_
 rintro e w' ⟨r0,g',n',D2,ι1,u,rfl,⟨r,hr,hK⟩,T,S1,_,_,hR⟩
 have hb:∀b,b<w.heap.size->w'.heap[b]? =w.heap[b]? :=T.below.block
 have hz:=T.below.size
 have q:=Dm (D2:=fun b=>D b∨(w.heap.size<=b/\b<w'.heap.size)) (ι2:=ι) (fun id row hg hw=>by
  obtain⟨B,hB,R,h1,_⟩:=S1.row id row hg
  exact⟨B,hB,R,.inr ⟨h1 hw,R.lt⟩⟩) 6 r0 u r hR hr
 refine⟨r,_,u,rfl,hK,?_,?_,q.1⟩
 ·exact Step.stay S hb hz T.below.os T.below.tape T.below.output (fun _ h=>.inl h) (fun b h=>by rcases h with h|h;exact .inl h;exact .inr h.1) (fun _ _ h=>h)
 ·exact S.stay hb hz (fun _ h=>.inl h) (fun b h=>by rcases h with h|h;exact Nat.lt_of_lt_of_le (S.dead b h) hz;exact h.2) (fun b h=>by rcases h with h|h;exact .inl h;exact .inr h.1) (fun _ _ h=>h)
theorem CS {g0:Rows} {f:Nat} {args:List AV} {n:Nat} {K:AV->Prop} {vs:Array Value} (h:gO (Sound P) f args ⟨g0,n⟩ K) (oG:∀id r,g0 id=some r->g id=some r) (S:fG P hs D ι g w) (U:Used ι n (fun _=>False)) (A:eP P w D ι args vs):
  Calls P f vs w fun e w'=>∃r D' u,e=.returned u/\K r/\Step hs D ι w D' ι w'/\fG P hs D' ι g w'/\cv P w' D' ι r u:=by
 rcases h with h|h
 ·exact xz h oG S U A
 ·exact uD h oG S U A
theorem Ee {D1 D2:Nat->Prop} {ι1 ι2:Names} {w1:World} {a:AV} {v:Value} (hp:a.plain=true) (h:cv P w D1 ι1 a v):cv P w1 D2 ι2 a v:=by
 cases h with
 |ew a v h=>cases h<;>first|(simp[AV.plain]at hp;done)|exact .ew _ _ (by constructor)
 |_=>simp[AV.plain]at hp
theorem fG.add {r:Row} {B:qG} (S:fG P hs D ι g w) (S':fG P hs D ι g w') (hf:ι id=none) (jH:w.heap.size<=B.b) (R:gN P w' D (j6 ι id B) B r):fG P hs D (j6 ι id B) (bI g id r) w':=by
 have lt:∀jP r' B',g jP=some r'->ι jP=some B'->B'.b<w.heap.size:=fun jP r' B' h1 h2=>by
  obtain⟨B2,nS,R2,_⟩:=S.row jP r' h1
  rw[h2]at nS;injection nS with nS;subst nS
  exact R2.lt
 have ne:∀jP r',g jP=some r'->jP≠id:=fun jP r' h he=>by
  subst he
  obtain⟨B2,nS,_⟩:=S.row _ r' h
  rw[hf]at nS;cases nS
 refine⟨S'.lo,S'.dead,fun jP r' h=>?_,fun Og id2 r1 r2 B1 B2 h1 h2 hw xp nS hb=>?_⟩
 ·unfold bI at h
  split at h
  ·rename_i he
   subst he
   injection h with h;subst h
   exact⟨B,dL _ _ _,R,fun _=>Nat.le_trans S.lo jH,fun _ hd=>Nat.lt_irrefl _ (Nat.lt_of_lt_of_le (S.dead _ hd) jH)⟩
  ·obtain⟨B',dk,R',k1,k2⟩:=S'.row jP r' h
   exact⟨B',by rw[fu (ne _ _ h)];exact dk,R'.frame rfl (fun a v hr=>hr.frame (fun _ _=>rfl) (fun _ h=>h) (fv hf)),k1,k2⟩
 ·unfold bI at h1 h2
  split at h1
  ·rename_i e1
   split at h2
   ·rename_i e2;rw[e1,e2]
   ·exfalso
    subst e1
    rw[dL]at xp;injection xp with xp;subst xp
    rw[fu (ne _ _ h2)]at nS
    have:=lt _ _ _ h2 nS
    omega
  ·rw[fu (ne _ _ h1)]at xp
   split at h2
   ·rename_i e2
    exfalso
    subst e2
    rw[dL]at nS;injection nS with nS;subst nS
    have:=lt _ _ _ h1 xp
    omega
   ·rw[fu (ne _ _ h2)]at nS
    exact S'.inj Og id2 r1 r2 B1 B2 h1 h2 hw xp nS hb
theorem ES {g0:Rows} {f:Nat} {args:List AV} {n sz:Nat} {rows:List (List AV)} {vs:Array Value} (h:CM (Sound P) f args ⟨g0,n⟩ sz rows) (oG:∀id r,g0 id=some r->g id=some r) (S:fG P hs D ι g w) (U:Used ι n (fun _=>False)) (A:eP P w D ι args vs) (hf:ι id=none):
  Calls P f vs w fun e w'=>∃u B,e=.returned u/\Step hs D ι w D (j6 ι id B) w'/\fG P hs D (j6 ι id B) (bI g id ⟨true,sz,rows⟩) w'/\cv P w' D (j6 ι id B) (.own id 0 rows.length) u:=by
 obtain⟨mi,eJ,ha,h⟩:=h
 let D1:Nat->Prop:=fun b=>D b∨∃id r B,g id=some r/\ι id=some B/\b=B.b
 have lt:∀id r B,g id=some r->ι id=some B->B.b<w.heap.size:=fun id r B h1 h2=>by
  obtain⟨B',dk,R,_⟩:=S.row id r h1
  rw[h2]at dk;injection dk with dk;subst dk
  exact R.lt
 have S0:fG P w.heap.size D1 ι (fun _=>none) w:=⟨Nat.le_refl _,fun b hb=>by
  rcases hb with hb|⟨id,r,B,h1,h2,rfl⟩
  ·exact S.dead b hb
  ·exact lt id r B h1 h2,fun id r h=>(by cases h),fun id jP r r' B B' h=>(by cases h)⟩
 obtain⟨l1,l2⟩:=fC ha
 have A':eP P w D1 ι eJ vs:=⟨by rw[A.1,l1],fun j a hj=>by
  obtain⟨a0,j8,hz⟩:=l2 j a hj
  obtain⟨u,hu,hr⟩:=A.2 j a0 j8
  refine⟨u,hu,(pf (D2:=D1) (ι2:=ι) (fun b h=>.inl h) (fun id row hg hw=>?_) 6 a0 u a hr hz).1⟩
  unfold dC at hg
  simp only[Option.map_eq_some_iff]at hg
  obtain⟨r,mo,rfl⟩:=hg
  obtain⟨B,hB,R,_,_⟩:=S.row id r (oG id r mo)
  exact⟨B,hB,R.flag true,.inr ⟨id,r,B,oG id r mo,hB,rfl⟩⟩⟩
 refine(h w.heap.size D1 ι w vs S0 U A').mono ?_
 rintro e w' ⟨r0,g',n',D2,ι1,u,rfl,⟨i0,hr,hg⟩,T,S1,_,_,hR⟩
 subst hr
 have hb:∀b,b<w.heap.size->w'.heap[b]? =w.heap[b]? :=T.below.block
 have hz:=T.below.size
 obtain⟨B,hB,R,k1,_⟩:=S1.row i0 _ hg
 have jH:w.heap.size<=B.b:=k1 rfl
 obtain⟨o,cap,B',rfl,dk,q2,q3,q4,q5,hk⟩:=iI hR
 rw[hB]at dk;injection dk with dk;subst dk
 replace R:=R.row hk
 have S':fG P hs D ι g w':=S.stay hb hz (fun _ h=>h) (fun b h=>Nat.lt_of_lt_of_le (S.dead b h) hz) (fun b h=>.inl h) (fun _ _ h=>h)
 have R':kj P w' D (j6 ι id B) B ⟨true,sz,rows⟩:=⟨R.sz,R.CX,R.fits,R.len,R.flat,fun i j cs a hi hj=>by
  obtain⟨v,h1,h2⟩:=R.at_ i j cs a hi hj
  exact⟨v,h1,Ee (mi cs (List.mem_of_getElem? hi) a (List.mem_of_getElem? hj)) h2⟩⟩
 exact⟨_,B,rfl,Step.stay S hb hz T.below.os T.below.tape T.below.output (fun _ h=>h) (fun _ h=>.inl h) (fv hf),S.add S' hf jH (R'.obj hk),.own id 0 _ _ _ B (dL _ _ _) hk q2 q3 q4 q5⟩
theorem iM {f:Nat} {args:Array Value} (hc:e8 P f=true):(callFunc f args).run P w=.ok (.enter f args) w:=by
 unfold e8 at hc
 split at hc
 ·rename_i fn hf
  simp only[Bool.and_eq_true,Bool.not_eq_true']at hc
  have hb:fn.body.isNone=false:=by cases hq:fn.body<;>simp_all
  simp only[callFunc,Sem.run_bind,run_program,Result.andThen_ok,hf,hc.2,Bool.false_eq_true,if_false,hb]
  rfl
 ·simp at hc
theorem yQ {f:Nat} {args:List O} (hc:oR P o.op=some (.call f args)):∃c,o.op=.call c/\c.callee=.value (.func f)/\e8 P f=true/\c.args.toList.mapM (cO P)=some args:=by
 unfold oR at hc
 split at hc
 case h_23=>
  rename_i c ho
  refine⟨c,ho,?_⟩
  unfold lW at hc
  split at hc
  all_goals (try(repeat' (split at hc))<;>(simp only[Option.bind_eq_bind,Option.bind_eq_some_iff,Option.pure_def,Option.some.injEq,Option.map_eq_some_iff,reduceCtorEq,and_false,exists_false]at hc))
  all_goals simp_all
 all_goals (try unfold ss at hc)<;>(try unfold qb at hc)<;>(repeat' (split at hc))<;>(simp only[Option.bind_eq_bind,Option.bind_eq_some_iff,Option.pure_def,Option.some.injEq,Option.map_eq_some_iff,reduceCtorEq,and_false,exists_false]at hc)
theorem qp {x:O} {args:List O} (hc:oR P o.op=some (.qN x args)):∃c t,o.op=.call c/\c.callee=.value (.tmp t)/\x=.t t/\c.args.toList.mapM (cO P)=some args:=by
 unfold oR at hc
 split at hc
 case h_23=>
  rename_i c ho
  refine⟨c,?_⟩
  unfold lW at hc
  split at hc
  all_goals (try(repeat' (split at hc))<;>(simp only[Option.bind_eq_bind,Option.bind_eq_some_iff,Option.pure_def,Option.some.injEq,Option.map_eq_some_iff,reduceCtorEq,and_false,exists_false]at hc))
  all_goals simp_all
 all_goals (try unfold ss at hc)<;>(try unfold qb at hc)<;>(repeat' (split at hc))<;>(simp only[Option.bind_eq_bind,Option.bind_eq_some_iff,Option.pure_def,Option.some.injEq,Option.map_eq_some_iff,reduceCtorEq,and_false,exists_false]at hc)
theorem DJ {n:Nat} {x y:O} (hc:oR P o.op=some (.store n x y)):∃t x' y',o.op=.store t x' y'/\dw P t=some n/\cO P x'=some x/\cO P y'=some y:=by
 unfold oR at hc
 split at hc
 case h_7=>
  rename_i t x' y' ho
  refine⟨t,x',y',ho,?_⟩
  simp only[Option.bind_eq_bind,Option.bind_eq_some_iff,Option.pure_def,Option.some.injEq]at hc
  obtain⟨n',h1,x2,h2,y2,h3,he⟩:=hc
  injection he with e1 e2 e3
  subst e1;subst e2;subst e3
  exact⟨h1,h2,h3⟩
 all_goals (try unfold ss at hc)<;>(try unfold qb at hc)<;>(try unfold lW at hc)<;>(repeat' (split at hc))<;>(simp only[Option.bind_eq_bind,Option.bind_eq_some_iff,Option.pure_def,Option.some.injEq,Option.map_eq_some_iff,reduceCtorEq,and_false,exists_false]at hc)
theorem AQ {n:Nat} {x y:O} (hc:oR P o.op=some (.append n x y)):∃(t e:TypeId) (m:Nat) (z:List K) (i:TypeInfo) (x' y':Operand),n=m+1/\o.op=.call {callee:=.builtin .append,args:= #[x',y'],argTypes:= #[t,t]}/\
  P.underlying t=some (.slice e)/\dw P e=some (m+1)/\iT P e=some z/\P.info? e=some i/\i.bytes<=32768/\cO P x'=some x/\cO P y'=some y:=by
 unfold oR at hc
 split at hc
 case h_23=>
  rename_i c ho
  unfold lW at hc
  split at hc
  case h_2=>
   rename_i jC
   split at hc
   ·rename_i x' y' t u h1 h2
    split at hc
    ·rename_i e ht
     split at hc
     ·rename_i m z i e1 e2 e3
      split at hc
      ·rename_i hb
       simp only[Option.bind_eq_bind,Option.bind_eq_some_iff,Option.pure_def,Option.some.injEq]at hc
       obtain⟨x2,h3,y2,h4,he⟩:=hc
       injection he with k1 k2 k3
       subst k1;subst k2;subst k3
       obtain⟨Hl,rfl⟩:=hb
       refine⟨t,e,m,z,i,x',y',rfl,?_,ht,e1,e2,e3,Hl,h3,h4⟩
       rw[ho]
       obtain⟨ca,cb,cc⟩:=c
       simp only at h1 h2 jC
       subst jC
       congr
       ·exact Array.ext' h1
       ·exact Array.ext' h2
      ·simp at hc
     ·simp at hc
    ·simp at hc
   ·simp at hc
  all_goals (repeat' (split at hc))<;>(simp only[Option.bind_eq_bind,Option.bind_eq_some_iff,Option.pure_def,Option.some.injEq,Option.map_eq_some_iff,reduceCtorEq,and_false,exists_false]at hc)
 all_goals (try unfold ss at hc)<;>(try unfold qb at hc)<;>(repeat' (split at hc))<;>(simp only[Option.bind_eq_bind,Option.bind_eq_some_iff,Option.pure_def,Option.some.injEq,Option.map_eq_some_iff,reduceCtorEq,and_false,exists_false]at hc)
theorem F7 {n:Nat} {x y:O} (hc:oR P o.op=some (.copy n x y)):∃(t t2 e:TypeId) (m:Nat) (x' y':Operand),n=m+1/\o.op=.call {callee:=.builtin .copy,args:= #[x',y'],argTypes:= #[t,t2]}/\
  P.underlying t=some (.slice e)/\dw P e=some (m+1)/\cO P x'=some x/\cO P y'=some y:=by
 unfold oR at hc
 split at hc
 case h_23=>
  rename_i c ho
  unfold lW at hc
  split at hc
  case h_7=>
   rename_i jC
   split at hc
   ·rename_i x' y' t t2 h1 h2
    split at hc
    ·rename_i e ht
     split at hc
     ·rename_i m e1
      simp only[Option.bind_eq_bind,Option.bind_eq_some_iff,Option.pure_def,Option.some.injEq,fB.copy.injEq]at hc
      obtain⟨x2,h3,y2,h4,k0,k1,k2⟩:=hc
      subst k1;subst k2
      refine⟨t,t2,e,m,x',y',k0.symm,?_,ht,e1,h3,h4⟩
      rw[ho]
      obtain⟨ca,cb,cc⟩:=c
      simp only at h1 h2 jC
      subst jC
      congr
      ·exact Array.ext' h1
      ·exact Array.ext' h2
     ·simp at hc
    ·simp at hc
   ·simp at hc
  all_goals (repeat' (split at hc))<;>(simp only[Option.bind_eq_bind,Option.bind_eq_some_iff,Option.pure_def,Option.some.injEq,Option.map_eq_some_iff,reduceCtorEq,and_false,exists_false]at hc)
 all_goals (try unfold ss at hc)<;>(try unfold qb at hc)<;>(repeat' (split at hc))<;>(simp only[Option.bind_eq_bind,Option.bind_eq_some_iff,Option.pure_def,Option.some.injEq,Option.map_eq_some_iff,reduceCtorEq,and_false,exists_false]at hc)
theorem DI {z:List K} {x:O} (hc:oR P o.op=some (.clear z x)):∃(t e:TypeId) (m:Nat) (x':Operand),o.op=.call {callee:=.builtin .clear,args:= #[x'],argTypes:= #[t]}/\
  P.underlying t=some (.slice e)/\dw P e=some (m+1)/\iT P e=some z/\cO P x'=some x:=by
 unfold oR at hc
 split at hc
 case h_23=>
  rename_i c ho
  unfold lW at hc
  split at hc
  case h_3=>
   rename_i jC
   split at hc
   ·rename_i x' t h1 h2
    split at hc
    ·rename_i e ht
     split at hc
     ·rename_i m z' e1 e2
      simp only[Option.map_eq_some_iff]at hc
      obtain⟨x2,h3,he⟩:=hc
      injection he with k1 k2
      subst k1;subst k2
      refine⟨t,e,m,x',?_,ht,e1,e2,h3⟩
      rw[ho]
      obtain⟨ca,cb,cc⟩:=c
      simp only at h1 h2 jC
      subst jC
      congr
      ·exact Array.ext' h1
      ·exact Array.ext' h2
     ·simp at hc
    ·simp at hc
   ·simp at hc
  all_goals (repeat' (split at hc))<;>(simp only[Option.bind_eq_bind,Option.bind_eq_some_iff,Option.pure_def,Option.some.injEq,Option.map_eq_some_iff,reduceCtorEq,and_false,exists_false]at hc)
 all_goals (try unfold ss at hc)<;>(try unfold qb at hc)<;>(repeat' (split at hc))<;>(simp only[Option.bind_eq_bind,Option.bind_eq_some_iff,Option.pure_def,Option.some.injEq,Option.map_eq_some_iff,reduceCtorEq,and_false,exists_false]at hc)
theorem Lp {q:MW} {xs:List O} (hc:oR P o.op=some (.mw q xs)):
  (∃t x k y m z x' k' y',(o.op=.mapUpdate t x k y∨o.op=.insert t x k y)/\qc P t=some (m,z)/\cO P x=some x'/\cO P k=some k'/\cO P y=some y'/\q=.set m/\xs=[x',k',y'])∨
  (∃t t' x k m z x' k',o.op=.call {callee:=.builtin .delete,args:= #[x,k],argTypes:= #[t,t']}/\qc P t=some (m,z)/\cO P x=some x'/\cO P k=some k'/\q=.del m/\xs=[x',k']):=by
 unfold oR at hc
 split at hc
 case h_23=>
  rename_i c ho
  right
  unfold lW at hc
  split at hc
  case h_6=>
   rename_i jC
   split at hc
   ·rename_i x k t t' h1 h2
    split at hc
    ·rename_i m z x' k' e1 e2 e3
     injection hc with hc
     injection hc with q1 q2
     refine⟨t,t',x,k,m,z,x',k',?_,e1,e2,e3,q1.symm,q2.symm⟩
     rw[ho]
     obtain⟨ca,cb,cc⟩:=c
     simp only at h1 h2 jC
     subst jC
     congr
     ·exact Array.ext' h1
     ·exact Array.ext' h2
    ·cases hc
   ·cases hc
  all_goals (repeat' (split at hc))<;>(simp only[Option.bind_eq_bind,Option.bind_eq_some_iff,Option.pure_def,Option.some.injEq,Option.map_eq_some_iff,reduceCtorEq,and_false,exists_false]at hc)
 case h_29=>
  rename_i t x k y ho
  left
  split at hc
  ·rename_i m z x' k' y' e1 e2 e3 e4
   injection hc with hc
   injection hc with q1 q2
   exact⟨t,x,k,y,m,z,x',k',y',.inl ho,e1,e2,e3,e4,q1.symm,q2.symm⟩
  ·cases hc
 case h_30=>
  rename_i t x k y ho
  left
  split at hc
  ·rename_i m z x' k' y' e1 e2 e3 e4
   injection hc with hc
   injection hc with q1 q2
   exact⟨t,x,k,y,m,z,x',k',y',.inr ho,e1,e2,e3,e4,q1.symm,q2.symm⟩
  ·cases hc
 all_goals (try unfold ss at hc)<;>(try unfold qb at hc)<;>(repeat' (split at hc))<;>(simp only[Option.bind_eq_bind,Option.bind_eq_some_iff,Option.pure_def,Option.some.injEq,Option.map_eq_some_iff,reduceCtorEq,and_false,exists_false]at hc)
def iq (g:Rows) (id:Id):Option Row->Rows
 |some r=>bI g id r
 |none=>g
def sv (X:eW) (hid:List Nat) (site n:Nat) (f:Nat) (args:List AV) (g:Rows) (v:AV) (g':Rows):Prop:=
 (gO X f args ⟨fQ hid n g,n+1⟩ (fun r=>r=v)/\g'=g)∨
 (hid.contains site=true/\∃sz rows,CM X f args ⟨fQ hid n g,n+1⟩ sz rows/\v=.own ⟨site,n⟩ 0 rows.length/\g'=bI g ⟨site,n⟩ ⟨true,sz,rows⟩)
def VS (X:eW) (n:Nat) (vo:aW) (env:Env) (g:Rows) (v:AV) (g':Rows):Prop:=
 match vo.op with
 | .call f args=>sv X vo.hid vo.site n f (args.map (cu env)) g v g'
 | .qN x args=>∃f l,su (cu env x) (args.map (cu env))=some (f,l)/\sv X vo.hid vo.site n f l g v g'
 | .store .. | .append .. | .copy .. | .clear .. | .mw .. =>fR vo.op (cu env) g ⟨vo.site,n⟩=some (v,g')
 |_=>∃mr,eF vo.op (cu env) (fQ vo.hid n g) ⟨vo.site,n⟩=some (v,mr)/\g'=iq g ⟨vo.site,n⟩ mr
def Jm (P:Program) (hs:Nat) (D:Nat->Prop) (ι:Names) (w:World) (U:Nat->Prop) (site n:Nat) (a:Act) (dst:Option Tmp) (v:AV) (g':Rows) (a':Act) (w':World):Prop:=
 ∃u D' ι',a'=a.put dst u/\Step hs D ι w D' ι' w'/\fG P hs D' ι' g' w'/\cv P w' D' ι' v u/\Used ι' n (fun s=>U s∨s=site)
theorem fresh {n:Nat} {U:Nat->Prop} {s:Nat} (h:Used ι n U) (hU:¬U s):ι ⟨s,n⟩=none:=by
 cases hq:ι ⟨s,n⟩with
 |none=>rfl
 |some B=>
  rcases h ⟨s,n⟩ (by rw[hq];simp)with h|⟨_,h⟩
  ·exact absurd h (Nat.lt_irrefl _)
  ·exact absurd h hU
theorem Used.more {n:Nat} {U U':Nat->Prop} (h:Used ι n U) (hU:∀s,U s->U' s):Used ι n U':=fun id hid=>by
 rcases h id hid with h|⟨h1,h2⟩
 ·exact .inl h
 ·exact .inr ⟨h1,hU _ h2⟩
theorem Used.next {n:Nat} {U:Nat->Prop} (h:Used ι n U):Used ι (n+1) (fun _=>False):=fun id hid=>by
 rcases h id hid with h|⟨h1,_⟩
 ·exact .inl (Nat.lt_succ_of_lt h)
 ·exact .inl ab
theorem Used.upd {n:Nat} {U:Nat->Prop} {s:Nat} {B:qG} (h:Used ι n U):Used (j6 ι ⟨s,n⟩ B) n (fun x=>U x∨x=s):=fun id hid=>by
 by_cases he:id=⟨s,n⟩
 ·subst he;exact .inr ⟨rfl,.inr rfl⟩
 ·rw[fu he]at hid
  exact(h.more (U':=fun x=>U x∨x=s) fun _ h=>Or.inl h) id hid
theorem mH {xs:Array Operand} {ys:List O} (E:bt P w D ι env a) (h:xs.toList.mapM (cO P)=some ys):eP P w D ι (ys.map (cu env)) (xs.map a.eval):=by
 obtain⟨h1,h2⟩:=Bh E h
 refine⟨by simpa using h1,fun j b hj=>?_⟩
 simp only[List.getElem?_map,Option.map_eq_some_iff]at hj
 obtain⟨y,hy,rfl⟩:=hj
 have dD:j<xs.size:=by have:=(List.getElem?_eq_some_iff.1 hy).1;simp at h1;omega
 refine⟨a.eval xs[j],by simp[dD],?_⟩
 have:=h2 j y hy
 simpa[List.getD_eq_getElem?_getD,dD]using this
theorem ni {xs ys:List AV} {vs us:Array Value} (h:eP P w D ι xs vs) (k:eP P w D ι ys us):eP P w D ι (xs++ys) (vs++us):=
 ⟨by simp[h.1,k.1],fun j b hj=>by
  by_cases dD:j<xs.length
  ·rw[List.getElem?_append_left dD]at hj
   obtain⟨u,hu,uo⟩:=h.2 j b hj
   exact⟨u,by rw[Array.getElem?_append_left (by rw[h.1];exact dD)];exact hu,uo⟩
  ·rw[List.getElem?_append_right ab]at hj
   obtain⟨u,hu,uo⟩:=k.2 _ b hj
   exact⟨u,by rw[Array.getElem?_append_right (by rw[h.1];omega),h.1];exact hu,uo⟩⟩
theorem tj:eP P w D ι [] #[]:=⟨rfl,fun j b hj=>by simp at hj⟩
theorem sw {x:AV} {l l':List AV} {f:Nat} {vs:Array Value} {v:Value} (h:su x l=some (f,l')) (hr:cv P w D ι x v) (hA:eP P w D ι l vs):
  ∃first cq,v=.func (.func f) first cq/\e8 P f=true/\eP P w D ι l' (first++vs++cq):=by
 unfold su at h
 split at h
 ·simp only[Option.some.injEq,Prod.mk.injEq]at h
  obtain⟨rfl,rfl⟩:=h
  obtain⟨us,q,he,Ce,n1,q1,q2⟩:=Bj hr
  refine⟨#[],us,he,Ce,?_⟩
  rw[Array.empty_append]
  exact ni hA ⟨n1,fun j b hj=>⟨q j,q1 j (List.getElem?_eq_some_iff.1 hj).1,q2 j b hj⟩⟩
 ·simp only[Option.some.injEq,Prod.mk.injEq]at h
  obtain⟨rfl,rfl⟩:=h
  obtain⟨us,q,he,Ce,n1,q1,q2⟩:=I6 hr
  refine⟨us, #[],he,Ce,?_⟩
  rw[Array.append_empty]
  exact ni ⟨n1,fun j b hj=>⟨q j,q1 j (List.getElem?_eq_some_iff.1 hj).1,q2 j b hj⟩⟩ hA
 ·cases h
theorem xG {n:Nat} {vo:aW} {g':Rows} {U:Nat->Prop} {Q:Exit->Act->World->Prop} {K:Act->World->Prop} (hc:oR P o.op=some vo.op) (hv:VS (Sound P) n vo env g v g') (S:fG P hs D ι g w) (Us:Used ι n U) (hU:¬U vo.site) (E:bt P w D ι env a)
  (hK:∀a' w',Jm P hs D ι w U vo.site n a o.dst v g' a' w'->K a' w'):o.wp P a w K Q:=by
 have hf:=fresh Us hU
 have xT:∀(f:Nat) (args:List AV) (vs:Array Value),sv (Sound P) vo.hid vo.site n f args g v g'->eP P w D ι args vs->(execOp a.eval o).run P w=.ok (.enter f vs) w->o.wp P a w K Q:=by
  intro f args vs hP hA gD
  unfold Oper.wp
  rw[gD]
  rcases hP with⟨hP,rfl⟩|⟨_,sz,rows,hM,rfl,rfl⟩
  ·refine(CS hP xd S Us.next hA).mono ?_
   rintro e w' ⟨r,D',u,rfl,rfl,T,S',hR⟩
   exact hK _ _ ⟨u,D',ι,rfl,T,S',hR,Us.more fun _ h=>.inl h⟩
  ·refine(ES hM xd S Us.next hA hf).mono ?_
   rintro e w' ⟨u,B,rfl,T,S',hR⟩
   exact hK _ _ ⟨u,D,_,rfl,T,S',hR,Us.upd⟩
 have quiet:∀(mr:Option Row),eF vo.op (cu env) (fQ vo.hid n g) ⟨vo.site,n⟩=some (v,mr)->g'=iq g ⟨vo.site,n⟩ mr->o.wp P a w K Q:=by
  intro mr hq hg
  have hqs:=vD hc hq (S.sub xd) E
  unfold Oper.wp
  cases mr with
  |none=>
   obtain⟨u,gD,hR⟩:=hqs
   rw[gD]
   subst hg
   exact hK _ _ ⟨u,D,ι,rfl,Step.refl _ _ _ _,S,hR,Us.more fun _ h=>.inl h⟩
  |some r=>
   rcases hqs with⟨u,cells,T,gD,h1,h2,h3,h4,h5,h6⟩|⟨m,gD,Ll,Dx⟩|⟨c,gD,Ll,Dx⟩
   case inr.inr=>
    rw[gD]
    subst hg Ll Dx
    have eT:w.heap.size<(w.alloc (.chan c #[] false 0 0 false)).heap.size:=by simp
    have S':=S.stay (w':=w.alloc (.chan c #[] false 0 0 false)) (D':=D) (ι':=ι) (fun k hk=>Below.heap_alloc _ _ _ hk) (by simp) (fun _ h=>h) (fun b hd=>Nat.lt_trans (S.dead b hd) eT) (fun _ h=>.inl h) (fun _ _ h=>h)
    have S1:=S.add S' (id:=⟨vo.site,n⟩) (B:=⟨w.heap.size,pc+c,0,some (.chan c)⟩) (r:=⟨true,pc+c,[]⟩) hf (Nat.le_refl _) ⟨rfl,fun cs h=>by simp at h,fun h=>by simp at h,fun m' h=>(by simp at h),fun c' h=>by
     simp only[Option.some.injEq,BK.chan.injEq]at h;subst h
     exact⟨rfl, #[],0,0,(show(w.heap.push (Obj.chan c #[] false 0 0 false))[w.heap.size]? =some (Obj.chan c #[] false 0 0 false) by simp),rfl,fun i cs h=>by simp at h⟩⟩
    exact hK _ _ ⟨_,D,_,rfl,Step.stay S (fun k hk=>Below.heap_alloc _ _ _ hk) (by simp) rfl rfl rfl (fun _ h=>h) (fun _ h=>.inl h) (fv hf),S1,.qf _ _ _ (dL _ _ _) rfl,Us.upd⟩
   case inr.inl=>
    rw[gD]
    subst hg Ll Dx
    have eT:w.heap.size<(w.alloc (.map #[] 0)).heap.size:=by simp
    have S':=S.stay (w':=w.alloc (.map #[] 0)) (D':=D) (ι':=ι) (fun k hk=>Below.heap_alloc _ _ _ hk) (by simp) (fun _ h=>h) (fun b hd=>Nat.lt_trans (S.dead b hd) eT) (fun _ h=>.inl h) (fun _ _ h=>h)
    have S1:=S.add S' (id:=⟨vo.site,n⟩) (B:=⟨w.heap.size,m.Bn,0,some (.map m)⟩) (r:=⟨true,m.Bn,[]⟩) hf (Nat.le_refl _) ⟨rfl,fun cs h=>by simp at h,fun h=>by simp at h,fun m' h=>by
     simp only[Option.some.injEq,BK.map.injEq]at h;subst h
     exact⟨rfl, #[],0,(show(w.heap.push (Obj.map #[] 0))[w.heap.size]? =some (Obj.map #[] 0) by simp),rfl,⟨fun cs h=>by simp at h,fun x h=>by simp at h,by simp⟩,fun i cs h=>by simp at h⟩,fun c h=>by simp at h⟩
    exact hK _ _ ⟨_,D,_,rfl,Step.stay S (fun k hk=>Below.heap_alloc _ _ _ hk) (by simp) rfl rfl rfl (fun _ h=>h) (fun _ h=>.inl h) (fv hf),S1,.map _ _ _ (dL _ _ _) rfl,Us.upd⟩
   rw[gD]
   subst hg
   have S1:=S.alloc (id:=⟨vo.site,n⟩) (w':=w.alloc (.cells cells T)) rfl hf h1 h2 h3 h4 h5
   refine hK _ _ ⟨u,D,_,rfl,Step.stay S (fun k hk=>Below.heap_alloc _ _ _ hk) (by simp) rfl rfl rfl (fun _ h=>h) (fun _ h=>.inl h) (fv hf),S1,(h6 (j6 ι _ _) (dL _ _ _)).frame (fun b hd=>Below.heap_alloc _ _ _ (S.dead b hd)) (fun _ h=>h) (fun _ _ h=>h),Us.upd⟩
 have Ml:fR vo.op (cu env) g ⟨vo.site,n⟩=some (v,g')->(∀HB,zG P hs a o HB D ι ⟨vo.site,n⟩ v g'->HB=w->o.wp P a w K Q):=by
  intro _ HB hE he
  subst he
  obtain⟨u,w',ι',gD,T,S',hR,hι⟩:=hE
  have FF:Jm P hs D ι HB U vo.site n a o.dst v g' (a.put o.dst u) w':=⟨u,D,ι',rfl,T,S',hR,fun id hid=>by
   by_cases he:id=⟨vo.site,n⟩
   ·subst he;exact .inr ⟨rfl,.inr rfl⟩
   ·rw[hι id he]at hid
    exact(Us.more (U':=fun x=>U x∨x=vo.site) fun _ h=>Or.inl h) id hid⟩
  unfold Oper.wp
  rcases gD with gD|⟨gD,rfl⟩
  ·rw[gD];exact hK _ _ FF
  ·rw[gD];exact hK _ _ FF
 unfold VS at hv
 split at hv
 ·rename_i f args dB
  rw[dB]at hc
  obtain⟨c,ho,jC,Ce,lY⟩:=yQ hc
  refine xT f _ (c.args.map a.eval) hv (mH E lY) ?_
  simp only[execOp,ho,resolve,jC,Deferred.ofValue,Act.eval,Sem.run_bind,Sem.run_pure,Result.andThen_ok,invoke,Array.empty_append,Array.append_empty]
  exact iM Ce
 ·rename_i x args dB
  obtain⟨f,l,hx,hP⟩:=hv
  rw[dB]at hc
  obtain⟨c,t,ho,jC,rfl,lY⟩:=qp hc
  obtain⟨first,cq,he,Ce,hL⟩:=sw (v:=a.eval (.tmp t)) hx (E t) (mH E lY)
  refine xT f _ (first++c.args.map a.eval++cq) hP hL ?_
  simp only[execOp,ho,resolve,jC,he,Deferred.ofValue,Sem.run_bind,Sem.run_pure,Result.andThen_ok,invoke]
  exact iM Ce
 ·rename_i m x y dB
  have jM:=hc
  rw[dB]at jM
  obtain⟨t,x',y',ho,h1,h2,h3⟩:=DJ jM
  have mj:=hv
  rw[dB]at mj
  simp only[fR,Option.map_eq_some_iff,Prod.mk.injEq]at mj
  obtain⟨g1,xr,rfl,rfl⟩:=mj
  exact Ml hv w (HV S E ho h1 h2 h3 xr) rfl
 ·rename_i m x y dB
  have jM:=hc
  rw[dB]at jM
  obtain⟨t,e,m',z,i,x',y',rfl,ho,h1,h2,h3,h4,h5,h6,h7⟩:=AQ jM
  have mj:=hv
  rw[dB]at mj
  simp only[fR,Option.bind_eq_some_iff]at mj
  obtain⟨ys,Cn,mj⟩:=mj
  exact Ml hv w (Fq S E hf ho h1 h2 h3 h4 h5 h6 h7 Cn mj) rfl
 ·rename_i m x y dB
  have jM:=hc
  rw[dB]at jM
  obtain⟨t,t2,e,m',x',y',rfl,ho,h1,h2,h3,h4⟩:=F7 jM
  have mj:=hv
  rw[dB]at mj
  simp only[fR,Option.bind_eq_some_iff]at mj
  obtain⟨ys,Cn,mj⟩:=mj
  exact Ml hv w (Kr S E ho h1 h2 h3 h4 Cn mj) rfl
 ·rename_i z x dB
  have jM:=hc
  rw[dB]at jM
  obtain⟨t,e,m',x',ho,h1,h2,h3,h4⟩:=DI jM
  have mj:=hv
  rw[dB]at mj
  simp only[fR,Option.map_eq_some_iff,Prod.mk.injEq]at mj
  obtain⟨g1,xr,rfl,rfl⟩:=mj
  exact Ml hv w (HU S E ho h1 h2 h3 h4 xr) rfl
 ·rename_i q xs dB
  have jM:=hc
  rw[dB]at jM
  have mj:=hv
  rw[dB]at mj
  simp only[fR,Option.map_eq_some_iff,Prod.mk.injEq]at mj
  obtain⟨g1,xr,rfl,rfl⟩:=mj
  rcases Lp jM with⟨t,x,k,y,m,z,x',k',y',ho,h1,h2,h3,h4,rfl,rfl⟩|⟨t,t',x,k,m,z,x',k',ho,h1,h2,h3,rfl,rfl⟩
  ·exact Ml hv w (Ku S E ho h1 h2 h3 h4 xr) rfl
  ·exact Ml hv w (Kt S E ho h1 h2 h3 xr) rfl
 ·obtain⟨mr,hq,hg⟩:=hv
  exact quiet mr hq hg
end
end Go.Proofs.YtihgaadadaekmaaGreatDoor.V

namespace Go.Proofs.YtihgaadadaekmaaGreatDoor.V
open Go.RowKit
variable {P:Program} {w w':World} {D D' D2:Nat->Prop} {ι ι' ι2:Names}
section
variable {g:Rows} {hs:Nat} {env:Env} {a:Act} {o:Oper} {id:Id} {v:AV}
theorem ny {ops:Array Oper} {nt site0 j:Nat} {draw mk:Bool} {bs:Array Nat} {hidden:List (Nat×Bool)} {vo:aW} (h:kS P ops nt site0 draw mk bs hidden j o=some vo):
  oR P o.op=some vo.op/\vo.dst=o.dst/\vo.site=site0+j/\(∀d,o.dst=some d->d<nt)/\(match o.guard with
   |none=>vo.guard=none
   |some (i,b)=>∃t,(ops[i]?).bind (·.dst)=some t/\vo.guard=some (t,b)):=by
 unfold kS at h
 simp only[Option.bind_eq_bind,Option.bind_eq_some_iff]at h
 obtain⟨v,hv,gd,hg,h⟩:=h
 split at h
 ·rename_i hd
  simp only[Option.pure_def,Option.some.injEq]at h
  subst h
  refine⟨hv,rfl,rfl,fun d O6=>?_,?_⟩
  ·rw[O6]at hd;simpa using hd
  ·unfold zV at hg
   cases ug:o.guard with
   |none=>rw[ug]at hg;simp at hg;exact hg.symm
   |some p=>
    obtain⟨i,b⟩:=p
    rw[ug]at hg
    dsimp only at hg ⊢
    split at hg
    ·rename_i t ht
     simp at hg;exact⟨t,ht,hg.symm⟩
    ·simp at hg
 ·simp at h
theorem qF {ops:Array Oper} {vo:aW} (E:bt P w D ι env a) (hg:match o.guard with
   |none=>vo.guard=none
   |some (i,b)=>∃t,(ops[i]?).bind (·.dst)=some t/\vo.guard=some (t,b)):aH vo.guard env=Region.wanted o (yielded ops a.tmps):=by
 unfold Region.wanted
 cases ug:o.guard with
 |none=>rw[ug]at hg;simp only at hg;rw[hg];rfl
 |some p=>
  obtain⟨i,b⟩:=p
  rw[ug]at hg
  obtain⟨t,ht,hv⟩:=hg
  rw[hv]
  simp only[aH,yielded,ht,Option.bind_some]
  have hr:=E t
  by_cases dD:t<a.tmps.size
  ·have dW:a.tmps[t]? =some a.tmps[t]:=Array.getElem?_eq_getElem dD
   have hd:a.tmps.getD t undef=a.tmps[t]:=by simp[dD]
   rw[hd]at hr
   rw[dW]
   generalize a.tmps[t]=u at hr
   cases he:env t with
   |bool c=>rw[he]at hr;rw[eH hr];simp
   |_=>
    rw[he]at hr
    have:∀c,u≠.bool c:=by
     intro c hu
     subst hu
     cases hr with
     |ew _ _ h=>cases h
    cases u<;>simp_all
  ·have dW:a.tmps[t]? =none:=Array.getElem?_eq_none (Nat.le_of_not_lt dD)
   have hd:a.tmps.getD t undef=undef:=by simp[dW]
   rw[hd]at hr
   rw[dW]
   cases he:env t with
   |bool c=>rw[he]at hr;have:=eH hr;simp[undef]at this
   |_=>simp
theorem lv {dst:Option Nat} {nt:Nat} {u:Value} (E:bt P w D ι env a) (hr:cv P w D ι v u) (hd:∀d,dst=some d->d<nt) (hs:a.tmps.size=nt):bt P w D ι (upd env dst v) (a.put dst u):=by
 intro t
 cases dst with
 |none=>exact E t
 |some d=>
  have dD:d<a.tmps.size:=by rw[hs];exact hd d rfl
  simp only[upd,Act.put]
  by_cases ht:t=d
  ·subst ht
   simp[dD];exact hr
  ·rw[if_neg ht]
   have:(a.tmps.setIfInBounds d u).getD t undef=a.tmps.getD t undef:=by
    simp only[Array.getD_eq_getD_getElem?]
    rw[Array.getElem?_setIfInBounds_ne (fun e=>ht e.symm)]
   rw[this];exact E t
theorem mQ {hs:Nat} (E:bt P w D ι env a) (T:Step hs D ι w D' ι' w'):bt P w' D' ι' env a:=fun t=>T.rep (E t)
theorem jU (a:Act) (dst:Option Tmp) (u:Value):(a.put dst u).tmps.size=a.tmps.size:=by cases dst<;>simp[Act.put]
theorem put_defers (a:Act) (dst:Option Tmp) (u:Value):(a.put dst u).defers=a.defers:=by cases dst<;>rfl
theorem vK {draw:Bool} {vo:aW} {σ:ax} {next:AV->ax->Prop} {U:Nat->Prop} {Q:Exit->Act->World->Prop} {K:Act->World->Prop} (hc:oR P o.op=some vo.op) (hv:fF (Sound P) draw vo env σ next) (S:fG P hs D ι σ.get w) (Us:Used ι σ.next U) (hU:¬U vo.site) (E:bt P w D ι env a)
  (hK:∀v σ' u D' ι' w',next v σ'->Step hs D ι w D' ι' w'->fG P hs D' ι' σ'.get w'->cv P w' D' ι' v u->Used ι' σ'.next (fun s=>U s∨s=vo.site)->σ.next<=σ'.next->K (a.put o.dst u) w'):o.wp P a w K Q:=by
 have close:∀v g',VS (Sound P) σ.next vo env σ.get v g'->next v ⟨g',σ.next⟩->o.wp P a w K Q:=fun v g' h1 h2=>
  xG hc h1 S Us hU E fun a' w' ⟨u,D',ι',ha,T,S',hR,U'⟩=>by subst ha;exact hK v ⟨g',σ.next⟩ u D' ι' w' h2 T S' hR U' (Nat.le_refl _)
 have Gz:∀(f:Nat) (args:List AV) (vs:Array Value),Sound P f args ⟨σ.get,σ.next+1⟩ next->eP P w D ι args vs->(execOp a.eval o).run P w=.ok (.enter f vs) w->o.wp P a w K Q:=by
  intro f args vs h hA gD
  unfold Oper.wp
  rw[gD]
  refine(h hs D ι w vs S Us.next hA).mono ?_
  rintro e w' ⟨r,g',n',D',ι',u,rfl,hn,T,S',U',hle,hR⟩
  exact hK r ⟨g',n'⟩ u D' ι' w' hn T S' hR (U'.more fun _ h=>h.elim) (Nat.le_trans (Nat.le_succ _) hle)
 unfold fF at hv
 split at hv
 ·rename_i f args dB
  rcases hv with⟨r,hP,hn⟩|⟨_,hX⟩|⟨JN,sz,rows,hM,hn⟩
  ·exact close r σ.get (by unfold VS;rw[dB];exact .inl ⟨hP,rfl⟩) hn
  rotate_left
  ·exact close _ _ (by unfold VS;rw[dB];exact .inr ⟨JN,sz,rows,hM,rfl,rfl⟩) hn
  ·have jM:=hc
   rw[dB]at jM
   obtain⟨c,ho,jC,Ce,lY⟩:=yQ jM
   refine Gz f _ (c.args.map a.eval) hX (mH E lY) ?_
   simp only[execOp,ho,resolve,jC,Deferred.ofValue,Act.eval,Sem.run_bind,Sem.run_pure,Result.andThen_ok,invoke,Array.empty_append,Array.append_empty]
   exact iM Ce
 ·rename_i x args dB
  split at hv
  ·rename_i f cq hx
   have tT:su (cu env x) (args.map (cu env))=some (f,args.map (cu env)++cq):=by rw[hx];rfl
   rcases hv with⟨r,hP,hn⟩|⟨_,hX⟩|⟨JN,sz,rows,hM,hn⟩
   ·exact close r σ.get (by unfold VS;rw[dB];exact⟨f,_,tT,.inl ⟨hP,rfl⟩⟩) hn
   rotate_left
   ·exact close _ _ (by unfold VS;rw[dB];exact⟨f,_,tT,.inr ⟨JN,sz,rows,hM,rfl,rfl⟩⟩) hn
   ·have jM:=hc
    rw[dB]at jM
    obtain⟨c,t,ho,jC,rfl,lY⟩:=qp jM
    obtain⟨first,us,he,Ce,hL⟩:=sw (v:=a.eval (.tmp t)) tT (E t) (mH E lY)
    refine Gz f _ (first++c.args.map a.eval++us) hX hL ?_
    simp only[execOp,ho,resolve,jC,he,Deferred.ofValue,Sem.run_bind,Sem.run_pure,Result.andThen_ok,invoke]
    exact iM Ce
  ·rename_i f cq hx
   have tT:su (cu env x) (args.map (cu env))=some (f,cq++args.map (cu env)):=by rw[hx];rfl
   rcases hv with⟨r,hP,hn⟩|⟨_,hX⟩|⟨JN,sz,rows,hM,hn⟩
   ·exact close r σ.get (by unfold VS;rw[dB];exact⟨f,_,tT,.inl ⟨hP,rfl⟩⟩) hn
   rotate_left
   ·exact close _ _ (by unfold VS;rw[dB];exact⟨f,_,tT,.inr ⟨JN,sz,rows,hM,rfl,rfl⟩⟩) hn
   ·have jM:=hc
    rw[dB]at jM
    obtain⟨c,t,ho,jC,rfl,lY⟩:=qp jM
    obtain⟨first,us,he,Ce,hL⟩:=sw (v:=a.eval (.tmp t)) tT (E t) (mH E lY)
    refine Gz f _ (first++c.args.map a.eval++us) hX hL ?_
    simp only[execOp,ho,resolve,jC,he,Deferred.ofValue,Sem.run_bind,Sem.run_pure,Result.andThen_ok,invoke]
    exact iM Ce
  ·exact hv.elim
 ·rename_i m x y dB
  split at hv
  ·rename_i v' g' he
   exact close v' g' (by unfold VS;rw[dB];rw[dB]at he;exact he) hv
  ·exact hv.elim
 ·rename_i m x y dB
  split at hv
  ·rename_i v' g' he
   exact close v' g' (by unfold VS;rw[dB];rw[dB]at he;exact he) hv
  ·exact hv.elim
 ·rename_i m x y dB
  split at hv
  ·rename_i v' g' he
   exact close v' g' (by unfold VS;rw[dB];rw[dB]at he;exact he) hv
  ·exact hv.elim
 ·rename_i m x dB
  split at hv
  ·rename_i v' g' he
   exact close v' g' (by unfold VS;rw[dB];rw[dB]at he;exact he) hv
  ·exact hv.elim
 ·rename_i m x dB
  split at hv
  ·rename_i v' g' he
   exact close v' g' (by unfold VS;rw[dB];rw[dB]at he;exact he) hv
  ·exact hv.elim
 ·rename_i n1 n2 n3 n4 n5 n6 n7
  split at hv
  ·rename_i v' r hq
   refine close v' (bI σ.get ⟨vo.site,σ.next⟩ r) ?_ hv
   unfold VS
   split
   ·rename_i h;exact(n1 _ _ h).elim
   ·rename_i h;exact(n2 _ _ h).elim
   ·rename_i h;exact(n3 _ _ _ h).elim
   ·rename_i h;exact(n4 _ _ _ h).elim
   ·rename_i h;exact(n5 _ _ _ h).elim
   ·rename_i h;exact(n6 _ _ h).elim
   ·rename_i h;exact(n7 _ _ h).elim
   ·exact⟨some r,hq,rfl⟩
  ·rename_i v' hq
   refine close v' σ.get ?_ hv
   unfold VS
   split
   ·rename_i h;exact(n1 _ _ h).elim
   ·rename_i h;exact(n2 _ _ h).elim
   ·rename_i h;exact(n3 _ _ _ h).elim
   ·rename_i h;exact(n4 _ _ _ h).elim
   ·rename_i h;exact(n5 _ _ _ h).elim
   ·rename_i h;exact(n6 _ _ h).elim
   ·rename_i h;exact(n7 _ _ h).elim
   ·exact⟨none,hq,rfl⟩
  ·exact hv.elim
structure St (P:Program) (hs nt:Nat) (D:Nat->Prop) (ι:Names) (env:Env) (σ:ax) (a:Act) (w:World):Prop where
 HA:fG P hs D ι σ.get w
 used:Used ι σ.next (fun _=>False)
 env:bt P w D ι env a
 size:a.tmps.size=nt
theorem Be (rest:List Oper) {ops:Array Oper} {nt site0:Nat} {draw mk:Bool} {bs:Array Nat} {hidden:List (Nat×Bool)} {K:Env->ax->Prop} {Q:Exit->Act->World->Prop}:∀(l:List Oper) (vl:List aW) (j:Nat) (env:Env) (σ:ax) (a:Act) (w:World) (D:Nat->Prop) (ι:Names) (U:Nat->Prop),
  allM (kS P ops nt site0 draw mk bs hidden) l j=some vl->wpOps (Sound P) draw vl K env σ->fG P hs D ι σ.get w->Used ι σ.next U->(∀s,U s->s<site0+j)->bt P w D ι env a->a.tmps.size=nt->
  (∀gJ σ' a' w' D' ι',K gJ σ'->Step hs D ι w D' ι' w'->St P hs nt D' ι' gJ σ' a' w'->a'.defers=a.defers->σ.next<=σ'.next->wpList P ops Q rest a' w')->wpList P ops Q (l++rest) a w:=by
 intro l
 induction l with
 |nil=>
  intro vl j env σ a w D ι U h hv S Us _ E eT hQ
  simp[allM]at h;subst h
  exact hQ env ⟨σ.get,σ.next+1⟩ a w D ι hv (Step.refl _ _ _ _) ⟨S,Us.next,E,eT⟩ rfl (Nat.le_succ _)
 |cons o l ih=>
  intro vl j env σ a w D ι U h hv S Us hU E eT hQ
  simp only[allM,Option.bind_eq_bind,Option.bind_eq_some_iff,Option.pure_def,Option.some.injEq]at h
  obtain⟨vo,nV,qE,p4,rfl⟩:=h
  obtain⟨hc,hd,yL,uf,hg⟩:=ny nV
  have hw:=qF (ops:=ops) (vo:=vo) E hg
  unfold wpOps at hv
  show wpList P ops Q (o::(l++rest)) a w
  unfold wpList
  rw[<-hw]
  split at hv
  ·rename_i Dz
   rw[if_pos Dz]
   refine .inl (vK hc hv S Us (fun h=>by have:=hU _ h;omega) E fun v σ' u D' ι' w' hn T S' hR U' hle=>?_)
   refine ih qE (j+1) (upd env vo.dst v) σ' (a.put o.dst u) w' D' ι' _ p4 hn S' U' (fun s yI=>by
    rcases yI with h|h
    ·have:=hU _ h;omega
    ·omega) (by rw[hd];exact lv (mQ E T) hR uf eT) (by rw[jU];exact eT) fun gJ σ2 a' w2 D2 ι2 hk T2 MU Av lz=>hQ gJ σ2 a' w2 D2 ι2 hk (T.trans T2) MU (Av.trans (put_defers _ _ _)) (Nat.le_trans hle lz)
  ·rename_i Dz
   rw[if_neg Dz]
   refine ih qE (j+1) (upd env vo.dst .undef) σ (a.put o.dst undef) w D ι U p4 hv S Us (fun s yI=>by have:=hU _ yI;omega) (by rw[hd];exact lv E cv.undef uf eT) (by rw[jU];exact eT) fun gJ σ2 a' w2 D2 ι2 hk T2 MU Av lz=>hQ gJ σ2 a' w2 D2 ι2 hk T2 MU (Av.trans (put_defers _ _ _)) lz
theorem Ea {ops:Array Oper} {nt site0:Nat} {draw mk:Bool} {bs:Array Nat} {hidden:List (Nat×Bool)} {K:Env->ax->Prop} {Q:Exit->Act->World->Prop}:∀(l:List Oper) (vl:List aW) (j:Nat) (env:Env) (σ:ax) (a:Act) (w:World) (D:Nat->Prop) (ι:Names) (U:Nat->Prop),
  allM (kS P ops nt site0 draw mk bs hidden) l j=some vl->wpOps (Sound P) draw vl K env σ->fG P hs D ι σ.get w->Used ι σ.next U->(∀s,U s->s<site0+j)->bt P w D ι env a->a.tmps.size=nt->
  (∀gJ σ' a' w' D' ι',K gJ σ'->Step hs D ι w D' ι' w'->St P hs nt D' ι' gJ σ' a' w'->a'.defers=a.defers->σ.next<=σ'.next->Q .normal a' w')->wpList P ops Q l a w:=fun l vl j env σ a w D ι U h hv S Us hU E eT hQ=>by
 have:=Be [] l vl j env σ a w D ι U h hv S Us hU E eT hQ
 rwa [List.append_nil]at this
end
end Go.Proofs.YtihgaadadaekmaaGreatDoor.V

namespace Go.Proofs.YtihgaadadaekmaaGreatDoor.V
open Go.RowKit
variable {P:Program} {w w':World} {D D' D2:Nat->Prop} {ι ι' ι2:Names}
section
variable {hs:Nat} {X:eW}
theorem aP {env gW:Env} {x:O} (h:∀t∈fM x,env t=gW t):cu env x=cu gW x:=by
 cases x with
 |t n=>exact h n (by simp[fM])
 |_=>rfl
theorem map_congr {env gW:Env} {l:List O} (h:∀t∈l.flatMap fM,env t=gW t):l.map (cu env)=l.map (cu gW):=
 List.map_congr_left fun x hx=>aP fun t ht=>h t (List.mem_flatMap.2 ⟨x,hx,ht⟩)
theorem nE {env gW:Env} {x:Option O} (h:∀t∈te x,env t=gW t):x.map (cu env)=x.map (cu gW):=by
 cases x with
 |none=>rfl
 |some y=>simp only[Option.map_some];rw[aP h]
theorem qv {env gW:Env} {o:fB} {g:Rows} {id:Id} (h:∀t∈o.fE,env t=gW t):eF o (cu env) g id=eF o (cu gW) g id:=by
 cases o<;>simp only[fB.fE,List.mem_append]at h<;>simp only[eF]
 case cF x=>rw[aP h]
 case pick c a b=>rw[aP (x:=c) fun t ht=>h t (.inl (.inl ht)),aP (x:=a) fun t ht=>h t (.inl (.inr ht)),aP (x:=b) fun t ht=>h t (.inr ht)]
 case box x=>rw[aP h]
 case build z ps=>
  have:(ps.map fun(x:Nat×Nat×O)=>(x.1,x.2.1,cu env x.2.2))=ps.map fun(x:Nat×Nat×O)=>(x.1,x.2.1,cu gW x.2.2):=List.map_congr_left fun x hx=>by
   rw[aP (x:=x.2.2) fun t ht=>h t (List.mem_flatMap.2 ⟨x,hx,ht⟩)]
  rw[this]
 case lq a b l=>rw[map_congr h]
 case load a n x=>rw[aP h]
 case xX x=>rw[aP h]
 case bin a b x y=>rw[aP (x:=x) fun t ht=>h t (.inl ht),aP (x:=y) fun t ht=>h t (.inr ht)]
 case sh a x y=>rw[aP (x:=x) fun t ht=>h t (.inl ht),aP (x:=y) fun t ht=>h t (.inr ht)]
 case HP a x y=>rw[aP (x:=x) fun t ht=>h t (.inl ht),aP (x:=y) fun t ht=>h t (.inr ht)]
 case Kv a b x y=>rw[aP (x:=x) fun t ht=>h t (.inl ht),aP (x:=y) fun t ht=>h t (.inr ht)]
 case OT a b x y=>rw[aP (x:=x) fun t ht=>h t (.inl ht),aP (x:=y) fun t ht=>h t (.inr ht)]
 case Nb a b x=>rw[aP h]
 case OU a x=>rw[aP h]
 case not x=>rw[aP h]
 case neg x=>rw[aP h]
 case conv k x=>rw[aP h]
 case BV x=>rw[aP h]
 case slice s x lo hi=>rw[aP (x:=x) fun t ht=>h t (.inl (.inl ht)),nE (x:=lo) fun t ht=>h t (.inl (.inr ht)),nE (x:=hi) fun t ht=>h t (.inr ht)]
 case w6 x lo hi=>rw[aP (x:=x) fun t ht=>h t (.inl (.inl ht)),nE (x:=lo) fun t ht=>h t (.inl (.inr ht)),nE (x:=hi) fun t ht=>h t (.inr ht)]
 case fq k x=>rw[aP h]
 case field a b c x=>rw[aP h]
 case dm s x y=>rw[aP (x:=x) fun t ht=>h t (.inl ht),aP (x:=y) fun t ht=>h t (.inr ht)]
 case Iv n s x y=>rw[aP (x:=x) fun t ht=>h t (.inl ht),aP (x:=y) fun t ht=>h t (.inr ht)]
 case Ix x y=>rw[aP (x:=x) fun t ht=>h t (.inl ht),aP (x:=y) fun t ht=>h t (.inr ht)]
 case fx a b c x y=>rw[aP (x:=x) fun t ht=>h t (.inl ht),aP (x:=y) fun t ht=>h t (.inr ht)]
 case extract i x=>rw[aP h]
 case len x=>rw[aP h]
 case IF x=>rw[aP h]
 case Gq x=>rw[aP h]
 case Gd x=>rw[aP h]
 case IM f l=>rw[map_congr h]
 case IN f l=>rw[map_congr h]
 case mq f l=>rw[map_congr h]
 case jg z x y=>rw[aP (x:=x) fun t ht=>h t (.inl ht),aP (x:=y) fun t ht=>h t (.inr ht)]
theorem fS {env gW:Env} {o:fB} {g:Rows} {id:Id} (h:∀t∈o.fE,env t=gW t):fR o (cu env) g id=fR o (cu gW) g id:=by
 cases o<;>simp only[fB.fE,List.mem_append]at h<;>simp only[fR]
 case clear z x=>rw[aP h]
 case mw f l=>rw[map_congr h]
 all_goals rename_i a x y
 all_goals rw[aP (x:=x) fun t ht=>h t (.inl ht),aP (x:=y) fun t ht=>h t (.inr ht)]
theorem E5 {n:Nat} {vo:aW} {env gW:Env} {g g':Rows} {v:AV} (h:∀t∈vo.op.fE,env t=gW t) (hv:VS X n vo env g v g'):VS X n vo gW g v g':=by
 unfold VS at hv ⊢
 split at hv
 ·rename_i f args dB
  rw[dB]at h
  simp only[fB.fE]at h
  rw[<-map_congr h];exact hv
 ·rename_i x args dB
  rw[dB]at h
  simp only[fB.fE,List.mem_append]at h
  rw[<-map_congr (l:=args) fun t ht=>h t (.inr ht),<-aP (x:=x) fun t ht=>h t (.inl ht)];exact hv
 ·rw[<-fS h];exact hv
 ·rw[<-fS h];exact hv
 ·rw[<-fS h];exact hv
 ·rw[<-fS h];exact hv
 ·rw[<-fS h];exact hv
 ·rw[<-qv h];exact hv
theorem A5 {q:MQ} {vs:List AV} {g:Rows} {id:Id} {v:AV} {r:Row} (h:bB q vs g id=some (v,some r)):∃m,q=.new m:=by
 unfold bB at h
 split at h
 ·exact⟨_,rfl⟩
 ·simp[Option.bind_eq_some_iff]at h
 ·simp at h
 ·cases h
theorem tg {o:fB} {ρ:O->AV} {g:Rows} {id:Id} {v:AV} {r:Row} (h:eF o ρ g id=some (v,some r)):oK o=true:=by
 cases o<;>simp only[eF]at h<;>(try rfl)<;>(try simp at h)
 case mq q xs=>obtain⟨m,rfl⟩:=A5 h;rfl
 all_goals (try(split at h<;>simp at h))
theorem th {o:fB} {ρ:O->AV} {g g2:Rows} {id id2:Id} (h:o.cls=.pure):eF o ρ g id=eF o ρ g2 id2:=by
 cases o<;>(try simp[fB.cls]at h)<;>(try simp only[eF])
 case mq q xs=>cases q<;>simp[fB.cls]at h
theorem sq {n:Nat} {vo:aW} {env:Env} {g g':Rows} {v:AV} (hw:vo.op.cls≠.write) (hv:VS X n vo env g v g'):∃mr,g'=iq g ⟨vo.site,n⟩ mr/\(mr≠none->vo.makes=true)/\∀g0,fQ vo.hid n g0=fQ vo.hid n g->VS X n vo env g0 v (iq g0 ⟨vo.site,n⟩ mr):=by
 unfold VS at hv
 split at hv
 ·rename_i f args dB
  rcases hv with⟨h1,rfl⟩|⟨hs,sz,rows,hM,rfl,rfl⟩
  ·refine⟨none,rfl,fun h=>(h rfl).elim,fun g0 h0=>?_⟩
   unfold VS;rw[dB];simp only;unfold sv;rw[h0];exact .inl ⟨h1,rfl⟩
  ·refine⟨some _,rfl,fun _=>by unfold aW.makes;rw[dB,hs];simp[fB.kD],fun g0 h0=>?_⟩
   unfold VS;rw[dB];simp only;unfold sv;rw[h0];exact .inr ⟨hs,sz,rows,hM,rfl,rfl⟩
 ·rename_i x args dB
  obtain⟨f,cq,hx,hv⟩:=hv
  rcases hv with⟨h1,rfl⟩|⟨hs,sz,rows,hM,rfl,rfl⟩
  ·refine⟨none,rfl,fun h=>(h rfl).elim,fun g0 h0=>?_⟩
   unfold VS;rw[dB];simp only;unfold sv;rw[h0];exact⟨f,cq,hx,.inl ⟨h1,rfl⟩⟩
  ·refine⟨some _,rfl,fun _=>by unfold aW.makes;rw[dB,hs];simp[fB.kD],fun g0 h0=>?_⟩
   unfold VS;rw[dB];simp only;unfold sv;rw[h0];exact⟨f,cq,hx,.inr ⟨hs,sz,rows,hM,rfl,rfl⟩⟩
 ·rename_i dB;rw[dB]at hw;exact(hw rfl).elim
 ·rename_i dB;rw[dB]at hw;exact(hw rfl).elim
 ·rename_i dB;rw[dB]at hw;exact(hw rfl).elim
 ·rename_i dB;rw[dB]at hw;exact(hw rfl).elim
 ·rename_i dB;rw[dB]at hw;exact(hw rfl).elim
 ·rename_i n1 n2 n3 n4 n5 n6 n7
  obtain⟨mr,hq,rfl⟩:=hv
  refine⟨mr,rfl,fun h=>?_,fun g0 h0=>?_⟩
  ·cases mr with
   |none=>exact(h rfl).elim
   |some r=>unfold aW.makes;rw[tg hq];rfl
  ·unfold VS
   split
   ·rename_i hh;exact(n1 _ _ hh).elim
   ·rename_i hh;exact(n2 _ _ hh).elim
   ·rename_i hh;exact(n3 _ _ _ hh).elim
   ·rename_i hh;exact(n4 _ _ _ hh).elim
   ·rename_i hh;exact(n5 _ _ _ hh).elim
   ·rename_i hh;exact(n6 _ _ hh).elim
   ·rename_i hh;exact(n7 _ _ hh).elim
   ·rw[h0];exact⟨mr,hq,rfl⟩
theorem vO {n:Nat} {vo:aW} {env:Env} {g g':Rows} {v:AV} (hp:vo.op.cls=.pure) (hv:VS X n vo env g v g'):g'=g/\∀g0,VS X n vo env g0 v g0:=by
 unfold VS at hv
 split at hv
 ·rename_i dB;rw[dB]at hp;simp[fB.cls]at hp
 ·rename_i dB;rw[dB]at hp;simp[fB.cls]at hp
 ·rename_i dB;rw[dB]at hp;simp[fB.cls]at hp
 ·rename_i dB;rw[dB]at hp;simp[fB.cls]at hp
 ·rename_i dB;rw[dB]at hp;simp[fB.cls]at hp
 ·rename_i dB;rw[dB]at hp;simp[fB.cls]at hp
 ·rename_i dB;rw[dB]at hp;simp[fB.cls]at hp
 ·rename_i n1 n2 n3 n4 n5 n6 n7
  obtain⟨mr,hq,rfl⟩:=hv
  have QF:mr=none:=by
   cases mr with
   |none=>rfl
   |some r=>have:=tg hq;simp[oK,hp]at this
  subst QF
  refine⟨rfl,fun g0=>?_⟩
  unfold VS
  split
  ·rename_i hh;exact(n1 _ _ hh).elim
  ·rename_i hh;exact(n2 _ _ hh).elim
  ·rename_i hh;exact(n3 _ _ _ hh).elim
  ·rename_i hh;exact(n4 _ _ _ hh).elim
  ·rename_i hh;exact(n5 _ _ _ hh).elim
  ·rename_i hh;exact(n6 _ _ hh).elim
  ·rename_i hh;exact(n7 _ _ hh).elim
  ·exact⟨none,by rw[th hp];exact hq,rfl⟩
def GS (X:eW) (n:Nat) (vo:aW) (env:Env) (g:Rows) (v:AV) (g':Rows):Prop:=
 if aH vo.guard env then VS X n vo env g v g' else v=.undef/\g'=g
theorem zu {hid:List Nat} {g:Rows} {s n:Nat} {mr:Option Row} (h:mr≠none->hid.contains s=true):fQ hid n (iq g ⟨s,n⟩ mr)=fQ hid n g:=by
 cases mr with
 |none=>rfl
 |some r=>
  have hc:=h (by simp)
  cases hid with
  |nil=>simp at hc
  |cons a l=>
   funext i
   show(if (a::l).contains i.site=true/\i.bZ=n then none else iq g ⟨s,n⟩ (some r) i)=if (a::l).contains i.site=true/\i.bZ=n then none else g i
   by_cases hi:i=⟨s,n⟩
   ·subst hi;rw[if_pos ⟨hc,rfl⟩,if_pos ⟨hc,rfl⟩]
   ·simp only[iq,bI,if_neg hi]
theorem CU {g:Rows} {i j:Id} (h:i≠j) (m1 m2:Option Row):iq (iq g i m1) j m2=iq (iq g j m2) i m1:=by
 cases m1<;>cases m2<;>simp only[iq]
 funext k
 simp only[bI]
 by_cases h1:k=i
 ·subst h1;rw[if_neg h,if_pos rfl];simp
 ·by_cases h2:k=j
  ·subst h2;simp[h1]
  ·simp[h1,h2]
theorem tL {env:Env} {d e:Option Nat} {v u:AV} (h:∀k,d=some k->e≠some k):upd (upd env d v) e u=upd (upd env e u) d v:=by
 cases d with
 |none=>rfl
 |some d=>
  cases e with
  |none=>rfl
  |some e=>
   have gF:d≠e:=fun he=>h d rfl (by rw[he])
   funext t
   simp only[upd]
   by_cases h1:t=d
   ·subst h1;rw[if_neg gF,if_pos rfl,if_pos rfl]
   ·by_cases h2:t=e
    ·subst h2;rw[if_pos rfl,if_neg h1,if_pos rfl]
    ·simp[h1,h2]
theorem lf {env:Env} {d:Option Nat} {v:AV} {l:List Nat} (h:∀k,d=some k->k∉l):∀t∈l,upd env d v t=env t:=by
 intro t ht
 cases d with
 |none=>rfl
 |some d=>
  have:t≠d:=fun he=>h d rfl (he▸ht)
  simp[upd,this]
structure zH (x y:aW):Prop where
 xy:∀k,x.dst=some k->k∉y.fE
 yx:∀k,y.dst=some k->k∉x.fE
 dst:∀k,x.dst=some k->y.dst≠some k
 cls:clash x.op.cls y.op.cls=false
 hx:x.makes=true->y.hid.contains x.site=true
 hy:y.makes=true->x.hid.contains y.site=true
 site:x.site≠y.site
theorem zH.symm {x y:aW} (h:zH x y):zH y x:=
 ⟨h.yx,h.xy,fun k hk he=>h.dst k he hk,by have:=h.cls;revert this;cases x.op.cls<;>cases y.op.cls<;>simp[clash],h.hy,h.hx,fun e=>h.site e.symm⟩
theorem oC {x y:aW} (h:B9 x y=true):zH x y:=by
 unfold B9 at h
 simp only[Bool.and_eq_true,Bool.not_eq_true',Bool.or_eq_true,bne_iff_ne]at h
 obtain⟨⟨⟨⟨h1,h2⟩,h3⟩,h4⟩,h5⟩:=h
 unfold qD at h1
 simp only[Bool.and_eq_true]at h1
 obtain⟨a1,a2⟩:=h1
 refine⟨fun k hk=>?_,fun k hk=>?_,fun k hk=>?_,h2,fun hm=>?_,fun hm=>?_,h5⟩
 ·rw[hk]at a1;simp at a1;exact a1.1
 ·rw[hk]at a2;simpa using a2
 ·rw[hk]at a1;simp at a1;exact a1.2
 ·rcases h3 with h3|h3
  ·rw[hm]at h3;cases h3
  ·exact h3
 ·rcases h4 with h4|h4
  ·rw[hm]at h4;cases h4
  ·exact h4
theorem pN {vo:aW} {t:Nat} (h:t∈vo.op.fE):t∈vo.fE:=List.mem_append_left _ h
theorem lN {vo:aW} {env gW:Env} (h:∀t∈vo.fE,env t=gW t):aH vo.guard env=aH vo.guard gW:=by
 unfold aH
 cases hg:vo.guard with
 |none=>rfl
 |some p=>
  obtain⟨t,b⟩:=p
  have:env t=gW t:=h t (List.mem_append_right _ (by rw[hg];simp))
  simp only[this]
theorem si {n:Nat} {vo:aW} {env gW:Env} {g g':Rows} {v:AV} (h:∀t∈vo.fE,env t=gW t) (hv:GS X n vo env g v g'):GS X n vo gW g v g':=by
 unfold GS at hv ⊢
 rw[<-lN h]
 split at hv
 ·rename_i hw;rw[if_pos hw];exact E5 (fun t ht=>h t (pN ht)) hv
 ·rename_i hw;rw[if_neg hw];exact hv
theorem BM {n:Nat} {x y:aW} {env:Env} {g g1 g2:Rows} {v v':AV} (F:zH x y) (h1:GS X n x env g v g1) (h2:GS X n y (upd env x.dst v) g1 v' g2):
  ∃HX,GS X n y env g v' HX/\GS X n x (upd env y.dst v') HX v g2/\upd (upd env x.dst v) y.dst v'=upd (upd env y.dst v') x.dst v:=by
 have F3:=tL (env:=env) (v:=v) (u:=v') F.dst
 replace h2:GS X n y env g1 v' g2:=si (lf F.xy) h2
 have back:∀{HX},GS X n x env HX v g2->GS X n x (upd env y.dst v') HX v g2:=fun h=>si (fun t ht=>(lf F.yx t ht).symm) h
 unfold GS at h1 h2
 by_cases wx:aH x.guard env=true
 ·rw[if_pos wx]at h1
  by_cases wy:aH y.guard env=true
  ·rw[if_pos wy]at h2
   by_cases cx:x.op.cls=.write
   ·have cy:y.op.cls=.pure:=by
     have:=F.cls;rw[cx]at this
     cases hc:y.op.cls<;>simp[clash,hc]at this ⊢
    obtain⟨rfl,cN⟩:=vO cy h2
    exact⟨g,by unfold GS;rw[if_pos wy];exact cN g,back (by unfold GS;rw[if_pos wx];exact h1),F3⟩
   ·by_cases cy:y.op.cls=.write
    ·have cx':x.op.cls=.pure:=by
      have:=F.cls;rw[cy]at this
      cases hc:x.op.cls<;>simp[clash,hc]at this ⊢
     obtain⟨rfl,cN⟩:=vO cx' h1
     exact⟨g2,by unfold GS;rw[if_pos wy];exact h2,back (by unfold GS;rw[if_pos wx];exact cN g2),F3⟩
    ·obtain⟨mx,rfl,kx,PH⟩:=sq cx h1
     obtain⟨my,rfl,ky,Ke⟩:=sq cy h2
     have gF:(⟨x.site,n⟩:Id)≠⟨y.site,n⟩:=fun e=>F.site (by injection e)
     refine⟨iq g ⟨y.site,n⟩ my,?_,back ?_,F3⟩
     ·unfold GS;rw[if_pos wy]
      exact Ke g (zu fun h=>F.hx (kx h)).symm
     ·unfold GS;rw[if_pos wx,CU gF]
      exact PH _ (zu fun h=>F.hy (ky h))
  ·rw[if_neg wy]at h2
   obtain⟨rfl,rfl⟩:=h2
   exact⟨g,by unfold GS;rw[if_neg wy];exact⟨rfl,rfl⟩,back (by unfold GS;rw[if_pos wx];exact h1),F3⟩
 ·rw[if_neg wx]at h1
  obtain⟨rfl,rfl⟩:=h1
  exact⟨g2,h2,back (by unfold GS;rw[if_neg wx];exact⟨rfl,rfl⟩),F3⟩
end
end Go.Proofs.YtihgaadadaekmaaGreatDoor.V

namespace Go.Proofs.YtihgaadadaekmaaGreatDoor.V
open Go.RowKit
variable {P:Program} {w w':World} {D D' D2:Nat->Prop} {ι ι' ι2:Names}
section
variable {hs:Nat} {X:eW}
def iu (acc:Array Nat) (o:Oper):Nat:=o.after.foldl (fun s e=>if Region.binds .any e then s|||2 ^ e.on|||acc.getD e.on 0 else s) 0
theorem HL (ops:Array Oper):iP ops=ops.foldl (fun acc o=>acc.push (iu acc o)) #[]:=rfl
theorem xO {acc:Array Nat} {o:Oper} {i:Nat} (h:(iu acc o).testBit i=true):∃e∈o.after,Region.binds .any e=true/\(e.on=i∨(acc.getD e.on 0).testBit i=true):=by
 unfold iu at h
 rw[<-Array.foldl_toList]at h
 have gen:∀(l:List Edge) (s:Nat),(l.foldl (fun s e=>if Region.binds .any e then s|||2 ^ e.on|||acc.getD e.on 0 else s) s).testBit i=true->s.testBit i=true∨∃e∈l,Region.binds .any e=true/\(e.on=i∨(acc.getD e.on 0).testBit i=true):=by
  intro l
  induction l with
  |nil=>intro s h;exact .inl h
  |cons e r ih=>
   intro s h
   rw[List.foldl_cons]at h
   rcases ih _ h with h|⟨e',H7,h'⟩
   ·by_cases hb:Region.binds .any e=true
    ·rw[if_pos hb]at h
     simp only[Nat.testBit_or,Bool.or_eq_true]at h
     rcases h with(h|h)|h
     ·exact .inl h
     ·refine .inr ⟨e,by simp,hb,.inl ?_⟩
      rw[Nat.testBit_two_pow]at h
      simpa using h
     ·exact .inr ⟨e,by simp,hb,.inr h⟩
    ·rw[if_neg hb]at h;exact .inl h
   ·exact .inr ⟨e',List.mem_cons_of_mem _ H7,h'⟩
 rcases gen _ _ h with h|⟨e,he,h⟩
 ·simp at h
 ·exact⟨e,Array.mem_toList_iff.1 he,h⟩
theorem Fc {ops:Array Oper} {j i:Nat} (h:((iP ops).getD j 0).testBit i=true):∃o,ops[j]? =some o/\∃e∈o.after,Region.binds .any e=true/\(e.on=i∨((iP ops).getD e.on 0).testBit i=true):=by
 have key:∀(l pre:List Oper) (acc:Array Nat),acc.size=pre.length->(∀j i,(acc.getD j 0).testBit i=true->∃o,pre[j]? =some o/\∃e∈o.after,Region.binds .any e=true/\(e.on=i∨(acc.getD e.on 0).testBit i=true))->
   ∀j i,((l.foldl (fun acc o=>acc.push (iu acc o)) acc).getD j 0).testBit i=true->∃o,(pre++l)[j]? =some o/\∃e∈o.after,Region.binds .any e=true/\(e.on=i∨((l.foldl (fun acc o=>acc.push (iu acc o)) acc).getD e.on 0).testBit i=true):=by
  intro l
  induction l with
  |nil=>intro pre acc _ h j i hb;simpa using h j i hb
  |cons o r ih=>
   intro pre acc eT h j i hb
   have za:∀k,k<acc.size->(acc.push (iu acc o)).getD k 0=acc.getD k 0:=fun k hk=>by
    simp only[Array.getD_eq_getD_getElem?,Array.getElem?_push]
    rw[if_neg ab]
   have big:∀k,acc.size<=k->acc.getD k 0=0:=fun k hk=>by simp[Array.getElem?_eq_none hk]
   have lift:∀k i,(acc.getD k 0).testBit i=true->((acc.push (iu acc o)).getD k 0).testBit i=true:=fun k i hk=>by
    by_cases dD:k<acc.size
    ·rw[za k dD];exact hk
    ·rw[big k ab]at hk;simp at hk
   have:=ih (pre++[o]) (acc.push (iu acc o)) (by simp[eT]) (fun j i hb=>by
    by_cases dD:j<acc.size
    ·rw[za j dD]at hb
     obtain⟨o',Ch,e,he,fe,h2⟩:=h j i hb
     refine⟨o',by rw[List.getElem?_append_left ab];exact Ch,e,he,fe,?_⟩
     rcases h2 with h2|h2
     ·exact .inl h2
     ·exact .inr (lift _ _ h2)
    ·by_cases hj:j=acc.size
     ·subst hj
      have e0:(acc.push (iu acc o)).getD acc.size 0=iu acc o:=by simp
      rw[e0]at hb
      obtain⟨e,he,fe,h2⟩:=xO hb
      refine⟨o,by rw[List.getElem?_append_right ab,eT];simp,e,he,fe,?_⟩
      rcases h2 with h2|h2
      ·exact .inl h2
      ·exact .inr (lift _ _ h2)
     ·have:(acc.push (iu acc o)).getD j 0=0:=by
       simp only[Array.getD_eq_getD_getElem?]
       rw[Array.getElem?_eq_none (by simp;omega)];rfl
      rw[this]at hb;simp at hb) j i (by simpa using hb)
   simpa using this
 rw[HL,<-Array.foldl_toList]at h ⊢
 have:=key ops.toList [] #[] rfl (fun j i h=>by simp at h) j i h
 simpa using this
def DC (ops:Array Oper) (listed:Array Bool):Prop:=∀k i,listed.getD k false=true->((iP ops).getD k 0).testBit i=true->listed.getD i false=true
theorem jW {ops:Array Oper} {listed:Array Bool} (h:DC ops listed) {j:Nat} (hj:j∈Region.ready .any ops listed):∀i,((iP ops).getD j 0).testBit i=true->listed.getD i false=true:=by
 intro i hb
 obtain⟨_,o,ho,cN⟩:=mem_ready.1 hj
 obtain⟨o',Ch,e,he,fe,h2⟩:=Fc hb
 rw[ho]at Ch;injection Ch with Ch;subst Ch
 have hl:=cN e he fe
 rcases h2 with h2|h2
 ·rw[<-h2];exact hl
 ·exact h _ _ hl h2
theorem DC.list {ops:Array Oper} {listed:Array Bool} (h:DC ops listed) {j:Nat} (hj:j∈Region.ready .any ops listed):DC ops (listed.setIfInBounds j true):=by
 intro k i hk hb
 by_cases hkj:k=j
 ·subst hkj;exact getD_set_true (jW h hj i hb)
 ·rw[getD_set_ne false (fun e=>hkj e.symm)]at hk
  exact getD_set_true (h k i hk hb)
theorem hZ {ops:Array Oper} {listed:Array Bool} {j:Nat} (hj:j∈Region.ready .any ops listed):listed.getD j false=false:=by
 have h0:=(mem_ready.1 hj).1
 rcases Nat.lt_or_ge j listed.size with h|h
 ·simp[h]at h0 ⊢;exact h0
 ·simp[Array.getElem?_eq_none h]at h0
def G7 (X:eW) (n:Nat) (ops:Array Oper) (vl:List aW) (K:Env->Rows->Prop):Nat->Array Bool->Env->Rows->Prop
 |0,listed,env,g=>Region.ready .any ops listed=[]/\K env g
 |f+1,listed,env,g=>(Region.ready .any ops listed=[]->K env g)/\∀i∈Region.ready .any ops listed,∃vo,vl[i]? =some vo/\∃v g',GS X n vo env g v g'/\G7 X n ops vl K f (listed.setIfInBounds i true) (upd env vo.dst v) g'
theorem x9 {ops:Array Oper} {vl:List aW} (h:mP ops vl (iP ops)=true) {i j:Nat} {x y:aW} (hi:vl[i]? =some x) (hj:vl[j]? =some y) (Pc:i≠j) (h1:((iP ops).getD j 0).testBit i=false) (h2:((iP ops).getD i 0).testBit j=false):zH x y:=by
 unfold mP at h
 simp only[Bool.and_eq_true,List.all_eq_true]at h
 obtain⟨_,h⟩:=h
 have mem:∀(k:Nat) (z:aW),vl[k]? =some z->(z,k)∈vl.zipIdx:=fun k z hk=>by
  rw[List.mem_iff_getElem?]
  exact⟨k,by simp[List.getElem?_zipIdx,hk]⟩
 rcases Nat.lt_or_gt_of_ne Pc with dD|Ic
 ·have:=h _ (mem j y hj) _ (mem i x hi)
  simp only[dD,decide_true,Bool.not_true,Bool.false_or,h1]at this
  exact oC this
 ·have:=h _ (mem i x hi) _ (mem j y hj)
  simp only[Ic,decide_true,Bool.not_true,Bool.false_or,h2]at this
  exact(oC this).symm
theorem BI {n:Nat} {ops:Array Oper} {vl:List aW} {K:Env->Rows->Prop} (sU:mP ops vl (iP ops)=true) (hlen:vl.length=ops.size) {i:Nat} {vi:aW} (hi:vl[i]? =some vi) {v:AV}:∀(fuel:Nat) (listed:Array Bool) (env:Env) (g g1:Rows),
  DC ops listed->i∈Region.ready .any ops listed->GS X n vi env g v g1->G7 X n ops vl K fuel (listed.setIfInBounds i true) (upd env vi.dst v) g1->G7 X n ops vl K (fuel+1) listed env g:=by
 intro fuel
 induction fuel with
 |zero=>
  intro listed env g g1 _ hr hG H
  refine⟨fun h=>(by rw[h]at hr;cases hr),fun j hj=>?_⟩
  by_cases lg:j=i
  ·subst lg;exact⟨vi,hi,v,g1,hG,H⟩
  ·have:=ready_mono hj lg
   rw[H.1]at this;cases this
 |succ fuel ih=>
  intro listed env g g1 pW hr hG H
  refine⟨fun h=>(by rw[h]at hr;cases hr),fun j hj=>?_⟩
  by_cases lg:j=i
  ·subst lg;exact⟨vi,hi,v,g1,hG,H⟩
  ·obtain⟨vj,It,v',g2,hG2,H2⟩:=H.2 j (ready_mono hj lg)
   have b1:((iP ops).getD j 0).testBit i=false:=by
    cases hb:((iP ops).getD j 0).testBit i with
    |false=>rfl
    |true=>have:=jW pW hj i hb;rw[hZ hr]at this;cases this
   have b2:((iP ops).getD i 0).testBit j=false:=by
    cases hb:((iP ops).getD i 0).testBit j with
    |false=>rfl
    |true=>have:=jW pW hr j hb;rw[hZ hj]at this;cases this
   have F:=x9 sU hi It (fun e=>lg e.symm) b1 b2
   obtain⟨HX,q1,q2,q3⟩:=BM F hG hG2
   refine⟨vj,It,v',HX,q1,ih _ _ _ g2 (pW.list hj) (ready_mono hr (fun e=>lg e.symm)) q2 ?_⟩
   rw[<-q3,Array.setIfInBounds_comm _ _ lg]
   exact H2
theorem Kb {n:Nat} {vo:aW} {env:Env} {g:Rows} {v:AV} {mr:Option Row} (h:eF vo.op (cu env) (fQ vo.hid n g) ⟨vo.site,n⟩=some (v,mr)):VS X n vo env g v (iq g ⟨vo.site,n⟩ mr):=by
 unfold VS
 split
 ·rename_i dB;rw[dB]at h;simp[eF]at h
 ·rename_i dB;rw[dB]at h;simp[eF]at h
 ·rename_i dB;rw[dB]at h;simp[eF]at h
 ·rename_i dB;rw[dB]at h;simp[eF]at h
 ·rename_i dB;rw[dB]at h;simp[eF]at h
 ·rename_i dB;rw[dB]at h;simp[eF]at h
 ·rename_i dB;rw[dB]at h;simp[eF]at h
 ·exact⟨mr,h,rfl⟩
theorem E6 {n:Nat} {vo:aW} {env:Env} {g g':Rows} {v:AV} (h:fR vo.op (cu env) g ⟨vo.site,n⟩=some (v,g')):VS X n vo env g v g':=by
 unfold VS
 split
 ·rename_i dB;rw[dB]at h;simp[fR]at h
 ·rename_i dB;rw[dB]at h;simp[fR]at h
 ·exact h
 ·exact h
 ·exact h
 ·exact h
 ·exact h
 ·rename_i n1 n2 n3 n4 n5 n6 n7
  exfalso
  unfold fR at h
  split at h
  ·rename_i hh;exact n3 _ _ _ hh
  ·rename_i hh;exact n4 _ _ _ hh
  ·rename_i hh;exact n5 _ _ _ hh
  ·rename_i hh;exact n6 _ _ hh
  ·rename_i hh;exact n7 _ _ hh
  ·simp at h
theorem LU {vo:aW} {env:Env} {σ:ax} {next:AV->ax->Prop} (hv:fF X true vo env σ next):∃v g',VS X σ.next vo env σ.get v g'/\next v ⟨g',σ.next⟩:=by
 unfold fF at hv
 split at hv
 ·rename_i f args dB
  rcases hv with⟨r,hP,hn⟩|⟨h,_⟩|⟨hs,sz,rows,hM,hn⟩
  ·exact⟨r,σ.get,by unfold VS;rw[dB];exact .inl ⟨hP,rfl⟩,hn⟩
  ·cases h
  ·exact⟨_,_,by unfold VS;rw[dB];exact .inr ⟨hs,sz,rows,hM,rfl,rfl⟩,hn⟩
 ·rename_i x args dB
  split at hv
  ·rename_i f cq hx
   have tT:su (cu env x) (args.map (cu env))=some (f,args.map (cu env)++cq):=by rw[hx];rfl
   rcases hv with⟨r,hP,hn⟩|⟨h,_⟩|⟨hs,sz,rows,hM,hn⟩
   ·exact⟨r,σ.get,by unfold VS;rw[dB];exact⟨f,_,tT,.inl ⟨hP,rfl⟩⟩,hn⟩
   ·cases h
   ·exact⟨_,_,by unfold VS;rw[dB];exact⟨f,_,tT,.inr ⟨hs,sz,rows,hM,rfl,rfl⟩⟩,hn⟩
  ·rename_i f cq hx
   have tT:su (cu env x) (args.map (cu env))=some (f,cq++args.map (cu env)):=by rw[hx];rfl
   rcases hv with⟨r,hP,hn⟩|⟨h,_⟩|⟨hs,sz,rows,hM,hn⟩
   ·exact⟨r,σ.get,by unfold VS;rw[dB];exact⟨f,_,tT,.inl ⟨hP,rfl⟩⟩,hn⟩
   ·cases h
   ·exact⟨_,_,by unfold VS;rw[dB];exact⟨f,_,tT,.inr ⟨hs,sz,rows,hM,rfl,rfl⟩⟩,hn⟩
  ·exact hv.elim
 ·split at hv
  ·rename_i v g h;exact⟨v,g,E6 h,hv⟩
  ·exact hv.elim
 ·split at hv
  ·rename_i v g h;exact⟨v,g,E6 h,hv⟩
  ·exact hv.elim
 ·split at hv
  ·rename_i v g h;exact⟨v,g,E6 h,hv⟩
  ·exact hv.elim
 ·split at hv
  ·rename_i v g h;exact⟨v,g,E6 h,hv⟩
  ·exact hv.elim
 ·split at hv
  ·rename_i v g h;exact⟨v,g,E6 h,hv⟩
  ·exact hv.elim
 ·split at hv
  ·rename_i v r h;exact⟨v,_,Kb h,hv⟩
  ·rename_i v h;exact⟨v,_,Kb h,hv⟩
  ·exact hv.elim
theorem tM {ops:Array Oper} {vl:List aW} {K:Env->ax->Prop} {n:Nat} (sU:mP ops vl (iP ops)=true) (hlen:vl.length=ops.size):∀(r:List aW) (k:Nat) (listed:Array Bool) (env:Env) (g:Rows),
  (∀j,r[j]? =vl[k+j]?)->listed.size=ops.size->(∀i,i<ops.size->listed[i]? =some (decide (i<k)))->k+r.length=ops.size->DC ops listed->wpOps X true r K env ⟨g,n⟩->G7 X n ops vl (fun env g=>K env ⟨g,n+1⟩) r.length listed env g
 |[],k,listed,env,g,_,eT,hl,hk,_,hv=>by
  refine⟨?_,hv⟩
  rw[List.eq_nil_iff_forall_not_mem]
  intro j hj
  obtain⟨h0,o,ho,_⟩:=mem_ready.1 hj
  have dD:j<ops.size:=(Array.getElem?_eq_some_iff.1 ho).1
  have:=hl j dD
  simp at hk
  simp[this,show j<k by omega]at h0
 |vo::r,k,listed,env,g,hr,eT,hl,hk,pW,hv=>by
  simp only[List.length_cons]at hk
  have nV:vl[k]? =some vo:=by simpa using(hr 0).symm
  have kK:k<ops.size:=ab
  have FY:k∈Region.ready .any ops listed:=by
   rw[mem_ready]
   refine⟨by simp[hl k kK],ops[k],Array.getElem?_eq_getElem kK,fun e he hb=>?_⟩
   unfold mP BY at sU
   simp only[Bool.and_eq_true,List.all_eq_true]at sU
   have hm:(ops[k],k)∈ops.toList.zipIdx:=by
    rw[List.mem_iff_getElem?]
    exact⟨k,by simp[List.getElem?_zipIdx,kK]⟩
   have:=sU.1 _ hm
   rw[Array.all_eq_true_iff_forall_mem]at this
   have:=this e he
   simp only[hb,Bool.not_true,Bool.false_or,decide_eq_true_eq]at this
   simp[hl e.on ab,this]
  have hGS:∃v g',GS X n vo env g v g'/\wpOps X true r K (upd env vo.dst v) ⟨g',n⟩:=by
   unfold wpOps at hv
   unfold GS
   split at hv
   ·rename_i hw
    simp only[hw,if_true]
    exact LU hv
   ·rename_i hw
    simp only[hw]
    exact⟨.undef,g,⟨rfl,rfl⟩,hv⟩
  obtain⟨v,g',h1,h2⟩:=hGS
  refine BI sU hlen nV r.length listed env g g' pW FY h1 ?_
  refine tM sU hlen r (k+1) _ _ _ (fun j=>by have:=hr (j+1);simpa[Nat.add_assoc,Nat.add_comm 1 j]using this) (by simp[eT]) (fun i hi=>?_) ab (pW.list FY) h2
  by_cases uW:i=k
  ·subst uW;simp[eT,kK]
  ·rw[Array.getElem?_setIfInBounds_ne (fun e=>uW e.symm),hl i hi]
   congr 1
   have:(i<k)=(i<k+1):=by apply propext;omega
   simp[this]
theorem mE {f:Nat->Oper->Option aW}:∀{l:List Oper} {vl:List aW} {j:Nat},allM f l j=some vl->vl.length=l.length/\∀(i:Nat) (o:Oper),l[i]? =some o->∃vo,vl[i]? =some vo/\f (j+i) o=some vo
 |[],vl,j,h=>by simp[allM]at h;subst h;simp
 |o::l,vl,j,h=>by
  simp only[allM,Option.bind_eq_bind,Option.bind_eq_some_iff,Option.pure_def,Option.some.injEq]at h
  obtain⟨vo,nV,qE,p4,rfl⟩:=h
  obtain⟨h1,h2⟩:=mE p4
  refine⟨by simp[h1],fun i o' hi=>?_⟩
  cases i with
  |zero=>simp at hi;subst hi;exact⟨vo,rfl,nV⟩
  |succ i=>
   simp at hi
   obtain⟨q,hq,hf⟩:=h2 i o' hi
   exact⟨q,by simpa using hq,by rw[<-hf];congr 1;omega⟩
theorem uF {ops:Array Oper} {vl:List aW} {nt site0:Nat} {draw mk:Bool} {bs:Array Nat} {hidden:List (Nat×Bool)} {n:Nat} {K:Env->Rows->Prop} {Q:Exit->Act->World->Prop} (cN:allM (kS P ops nt site0 draw mk bs hidden) ops.toList 0=some vl):
  ∀(fuel:Nat) (listed:Array Bool) (env:Env) (g:Rows) (a:Act) (w:World) (D:Nat->Prop) (ι:Names) (U:Nat->Prop),G7 (Sound P) n ops vl K fuel listed env g->fG P hs D ι g w->Used ι n U->(∀s,U s->∃i,s=site0+i/\listed.getD i false=true)->bt P w D ι env a->a.tmps.size=nt->
  (∀gJ g' a' w' D' ι' U',K gJ g'->Step hs D ι w D' ι' w'->fG P hs D' ι' g' w'->Used ι' n U'->bt P w' D' ι' gJ a'->a'.tmps.size=nt->a'.defers=a.defers->Q .normal a' w')->wpAny P .any ops Q fuel listed a w:=by
 intro fuel
 induction fuel with
 |zero=>intro listed env g a w D ι U h S Us hU E eT hQ;exact⟨h.1,hQ env g a w D ι U h.2 (Step.refl _ _ _ _) S Us E eT rfl⟩
 |succ fuel ih=>
  intro listed env g a w D ι U h S Us hU E eT hQ
  refine⟨fun hr=>hQ env g a w D ι U (h.1 hr) (Step.refl _ _ _ _) S Us E eT rfl,fun i hi=>?_⟩
  obtain⟨vo,nV,v,g',hG,JL⟩:=h.2 i hi
  obtain⟨_,o,ho,_⟩:=mem_ready.1 hi
  obtain⟨vo',kX,Nz⟩:=(mE cN).2 i o (by simpa using ho)
  rw[nV]at kX;injection kX with kX;subst kX
  rw[Nat.zero_add]at Nz
  obtain⟨hc,hd,yL,uf,hg⟩:=ny Nz
  have hw:=qF (ops:=ops) (vo:=vo) E hg
  have Qg:¬U vo.site:=fun hu=>by
   obtain⟨i',he,hl⟩:=hU _ hu
   have:i'=i:=ab
   subst this
   rw[hZ hi]at hl;cases hl
  have iQ:i<listed.size:=by
   have h0:=(mem_ready.1 hi).1
   rcases Nat.lt_or_ge i listed.size with h|h
   ·exact h
   ·simp[Array.getElem?_eq_none h]at h0
  unfold wpOp
  simp only[ho]
  rw[<-hw]
  unfold GS at hG
  by_cases Dz:aH vo.guard env=true
  ·rw[if_pos Dz]
   rw[if_pos Dz]at hG
   refine .inl (xG hc hG S Us Qg E fun a' w' ⟨u,D',ι',ha,T,S',hR,U'⟩=>?_)
   subst ha
   refine ih _ _ _ _ w' D' ι' _ JL S' U' (fun s yI=>?_) (by rw[hd];exact lv (mQ E T) hR uf eT) (by rw[jU];exact eT) fun gJ g2 a2 w2 D2 ι2 U2 hk T2 S2 PG E2 kN Av=>hQ gJ g2 a2 w2 D2 ι2 U2 hk (T.trans T2) S2 PG E2 kN (Av.trans (put_defers _ _ _))
   rcases yI with h|h
   ·obtain⟨i',he,hl⟩:=hU _ h
    exact⟨i',he,getD_set_true hl⟩
   ·exact⟨i,by rw[h,yL],by simp[iQ]⟩
  ·rw[if_neg Dz]
   rw[if_neg Dz]at hG
   obtain⟨rfl,rfl⟩:=hG
   refine ih _ _ _ _ w D ι U JL S Us (fun s yI=>?_) (by rw[hd];exact lv E cv.undef uf eT) (by rw[jU];exact eT) fun gJ g2 a2 w2 D2 ι2 U2 hk T2 S2 PG E2 kN Av=>hQ gJ g2 a2 w2 D2 ι2 U2 hk T2 S2 PG E2 kN (Av.trans (put_defers _ _ _))
   obtain⟨i',he,hl⟩:=hU _ yI
   exact⟨i',he,getD_set_true hl⟩
end
end Go.Proofs.YtihgaadadaekmaaGreatDoor.V

namespace Go.Proofs.YtihgaadadaekmaaGreatDoor.V
open Go.RowKit
variable {P:Program} {w w':World} {D D' D2:Nat->Prop} {ι ι' ι2:Names}
section
variable {hs:Nat} {X:eW}
def nX (X:eW):Prop:=∀f args σ K K',(∀r σ',K r σ'->K' r σ')->X f args σ K->X f args σ K'
theorem oq:nX (Sound P):=fun _ _ _ _ _ hK h hs D ι w vs S U A=>
 (h hs D ι w vs S U A).mono fun _ _ ⟨r,g',n',D',ι',u,he,hk,rest⟩=>⟨r,g',n',D',ι',u,he,hK _ _ hk,rest⟩
def step (X:eW) (vo:aW) (N:Env->ax->Prop) (env:Env) (σ:ax):Prop:=
 if aH vo.guard env then fF X false vo env σ fun v σ'=>N (upd env vo.dst v) σ' else N (upd env vo.dst .undef) σ
theorem ox (hK:nX X) {draw:Bool} {hid:List Nat} {site f:Nat} {args:List AV} {σ:ax} {n n':AV->ax->Prop} (hn:∀v σ',n v σ'->n' v σ') (hp:cE X draw hid site f args σ n):cE X draw hid site f args σ n':=by
 rcases hp with⟨r,h1,h2⟩|⟨h1,h2⟩|⟨h1,sz,rows,h2,h3⟩
 ·exact .inl ⟨r,h1,hn _ _ h2⟩
 ·exact .inr (.inl ⟨h1,hK _ _ _ _ _ hn h2⟩)
 ·exact .inr (.inr ⟨h1,sz,rows,h2,hn _ _ h3⟩)
theorem zw (hK:nX X) {draw:Bool} {o:aW} {env:Env} {σ:ax} {n n':AV->ax->Prop} (hn:∀v σ',n v σ'->n' v σ') (hp:fF X draw o env σ n):fF X draw o env σ n':=by
 unfold fF at hp ⊢
 split at hp
 ·exact ox hK hn hp
 ·split at hp
  ·exact ox hK hn hp
  ·exact ox hK hn hp
  ·exact hp.elim
 ·split at hp
  ·exact hn _ _ hp
  ·exact hp.elim
 ·split at hp
  ·exact hn _ _ hp
  ·exact hp.elim
 ·split at hp
  ·exact hn _ _ hp
  ·exact hp.elim
 ·split at hp
  ·exact hn _ _ hp
  ·exact hp.elim
 ·split at hp
  ·exact hn _ _ hp
  ·exact hp.elim
 ·split at hp
  ·exact hn _ _ hp
  ·exact hn _ _ hp
  ·exact hp.elim
theorem jd (hK:nX X) {vo:aW} {N N':Env->ax->Prop} (h:∀e s,N e s->N' e s) {env:Env} {σ:ax} (hp:step X vo N env σ):step X vo N' env σ:=by
 unfold step at hp ⊢
 split at hp
 ·rename_i hw;rw[if_pos hw];exact zw hK (fun v σ'=>h _ _) hp
 ·rename_i hw;rw[if_neg hw];exact h _ _ hp
theorem EB {env gW:Env} {vo:aW} {σ:ax} {n:AV->ax->Prop} (h:∀t∈vo.op.fE,env t=gW t) (hv:fF X false vo env σ n):fF X false vo gW σ n:=by
 unfold fF at hv ⊢
 split at hv
 ·rename_i f args dB
  rw[dB]at h
  simp only[fB.fE]at h
  rw[<-map_congr h];exact hv
 ·rename_i x args dB
  rw[dB]at h
  simp only[fB.fE,List.mem_append]at h
  rw[<-map_congr (l:=args) fun t ht=>h t (.inr ht),<-aP (x:=x) fun t ht=>h t (.inl ht)];exact hv
 ·rw[<-fS h];exact hv
 ·rw[<-fS h];exact hv
 ·rw[<-fS h];exact hv
 ·rw[<-fS h];exact hv
 ·rw[<-fS h];exact hv
 ·rw[<-qv h];exact hv
theorem ku {x:aW} (hq:jV x=true) {N:Env->ax->Prop} {env:Env} {σ:ax}:step X x N env σ↔∃v g',GS X σ.next x env σ.get v g'/\N (upd env x.dst v) ⟨g',σ.next⟩:=by
 unfold jV at hq
 simp only[Bool.and_eq_true,Bool.not_eq_true',bne_iff_ne]at hq
 obtain⟨Hx,rK⟩:=hq
 unfold step GS
 by_cases hw:aH x.guard env=true
 ·rw[if_pos hw]
  simp only[hw,if_true]
  unfold fF
  split
  ·rename_i dB;simp[dB,fB.kD]at Hx
  ·rename_i dB;simp[dB,fB.kD]at Hx
  ·rename_i dB;simp[dB,fB.cls]at rK
  ·rename_i dB;simp[dB,fB.cls]at rK
  ·rename_i dB;simp[dB,fB.cls]at rK
  ·rename_i dB;simp[dB,fB.cls]at rK
  ·rename_i dB;simp[dB,fB.cls]at rK
  ·rename_i n1 n2 n3 n4 n5 n6 n7
   have hVS:∀v g',VS X σ.next x env σ.get v g'↔∃mr,eF x.op (cu env) (fQ x.hid σ.next σ.get) ⟨x.site,σ.next⟩=some (v,mr)/\g'=iq σ.get ⟨x.site,σ.next⟩ mr:=fun v g'=>by
    unfold VS
    split
    ·rename_i hh;exact(n1 _ _ hh).elim
    ·rename_i hh;exact(n2 _ _ hh).elim
    ·rename_i hh;exact(n3 _ _ _ hh).elim
    ·rename_i hh;exact(n4 _ _ _ hh).elim
    ·rename_i hh;exact(n5 _ _ _ hh).elim
    ·rename_i hh;exact(n6 _ _ hh).elim
    ·rename_i hh;exact(n7 _ _ hh).elim
    ·exact Iff.rfl
   simp only[hVS]
   cases hz:eF x.op (cu env) (fQ x.hid σ.next σ.get) ⟨x.site,σ.next⟩with
   |none=>
    exact⟨fun h=>h.elim,fun⟨v,g',⟨mr,h,_⟩,_⟩=>by cases h⟩
   |some p=>
    obtain⟨v,mr⟩:=p
    have key:∀(v':AV) (g':Rows),(∃MN,some (v,mr)=some (v',MN)/\g'=iq σ.get ⟨x.site,σ.next⟩ MN)↔v'=v/\g'=iq σ.get ⟨x.site,σ.next⟩ mr:=fun v' g'=>by
     constructor
     ·rintro⟨MN,h1,h2⟩
      injection h1 with h1;injection h1 with h1 h3
      subst h1;subst h3
      exact⟨rfl,h2⟩
     ·rintro⟨rfl,rfl⟩;exact⟨mr,rfl,rfl⟩
    have fin:(∃v' g',(∃MN,some (v,mr)=some (v',MN)/\g'=iq σ.get ⟨x.site,σ.next⟩ MN)/\N (upd env x.dst v') ⟨g',σ.next⟩)↔N (upd env x.dst v) ⟨iq σ.get ⟨x.site,σ.next⟩ mr,σ.next⟩:=by
     constructor
     ·rintro⟨v',g',h,hN⟩
      obtain⟨rfl,rfl⟩:=(key v' g').1 h
      exact hN
     ·intro hN;exact⟨v,_,(key _ _).2 ⟨rfl,rfl⟩,hN⟩
    cases mr with
    |none=>exact fin.symm
    |some r=>exact fin.symm
 ·rw[if_neg hw]
  simp only[if_neg hw]
  exact⟨fun h=>⟨_,_,⟨rfl,rfl⟩,h⟩,fun⟨v,g',⟨hv,hg⟩,h⟩=>by rw[hv,hg]at h;exact h⟩
def xv (x:aW) (env:Env) (v:AV):Prop:=if aH x.guard env then eF x.op (cu env) (fun _=>none) ⟨0,0⟩=some (v,none)else v=.undef
theorem tf {x:aW} (hp:x.op.cls=.pure):jV x=true:=by
 unfold jV
 rw[hp]
 cases hc:x.op<;>simp[hc,fB.cls]at hp<;>rfl
theorem qy {x:aW} (hp:x.op.cls=.pure) {N:Env->ax->Prop} {env:Env} {σ:ax}:step X x N env σ↔∃v,xv x env v/\N (upd env x.dst v) σ:=by
 rw[ku (tf hp)]
 unfold GS xv
 by_cases hw:aH x.guard env=true
 ·simp only[hw,if_true]
  constructor
  ·rintro⟨v,g',h,hN⟩
   obtain⟨rfl,cN⟩:=vO hp h
   refine⟨v,?_,hN⟩
   unfold VS at h
   split at h
   ·rename_i dB;rw[dB]at hp;simp[fB.cls]at hp
   ·rename_i dB;rw[dB]at hp;simp[fB.cls]at hp
   ·rename_i dB;rw[dB]at hp;simp[fB.cls]at hp
   ·rename_i dB;rw[dB]at hp;simp[fB.cls]at hp
   ·rename_i dB;rw[dB]at hp;simp[fB.cls]at hp
   ·rename_i dB;rw[dB]at hp;simp[fB.cls]at hp
   ·rename_i dB;rw[dB]at hp;simp[fB.cls]at hp
   ·obtain⟨mr,hq,_⟩:=h
    have QF:mr=none:=by
     cases mr with
     |none=>rfl
     |some r=>have:=tg hq;simp[oK,hp]at this
    subst QF
    rw[<-th (g:=fQ x.hid σ.next σ.get) (id:=⟨x.site,σ.next⟩) hp];exact hq
  ·rintro⟨v,h,hN⟩
   exact⟨v,σ.get,Kb (mr:=none) (by rw[th (g2:=fun _=>none) (id2:=⟨0,0⟩) hp];exact h),hN⟩
 ·simp only[if_neg hw]
  exact⟨fun⟨v,g',⟨hv,hg⟩,h⟩=>⟨v,hv,by rw[hg]at h;exact h⟩,fun⟨v,hv,h⟩=>⟨v,σ.get,⟨hv,rfl⟩,h⟩⟩
theorem Hf {x:aW} {env gW:Env} {v:AV} (h:∀t∈x.fE,env t=gW t) (hv:xv x env v):xv x gW v:=by
 unfold xv at hv ⊢
 rw[<-lN h,<-qv fun t ht=>h t (pN ht)];exact hv
structure Jn (x y:aW):Prop where
 xy:∀k,x.dst=some k->k∉y.fE
 yx:∀k,y.dst=some k->k∉x.fE
 dst:∀k,x.dst=some k->y.dst≠some k
theorem pT {x y:aW} (h:qD x y=true):Jn x y:=by
 unfold qD at h
 simp only[Bool.and_eq_true]at h
 obtain⟨a1,a2⟩:=h
 refine⟨fun k hk=>?_,fun k hk=>?_,fun k hk=>?_⟩
 ·rw[hk]at a1;simp at a1;exact a1.1
 ·rw[hk]at a2;simpa using a2
 ·rw[hk]at a1;simp at a1;exact a1.2
theorem uV {x y:aW} (h:uU x y=true):(Jn x y/\x.op.cls=.pure)∨(zH x y/\jV x=true/\jV y=true):=by
 unfold uU at h
 simp only[Bool.or_eq_true,Bool.and_eq_true,beq_iff_eq]at h
 rcases h with⟨h1,h2⟩|⟨⟨h1,h2⟩,h3⟩
 ·exact .inl ⟨pT h1,h2⟩
 ·exact .inr ⟨oC h1,h2,h3⟩
theorem ym {x y:aW} (h:uU x y=true):jV x=true:=by
 rcases uV h with h|h
 ·exact tf h.2
 ·exact h.2.1
theorem Ek (hK:nX X) {x y:aW} (hf:uU x y=true) {N:Env->ax->Prop} {env:Env} {σ:ax} (h:step X x (fun e s=>step X y N e s) env σ):step X y (fun e s=>step X x N e s) env σ:=by
 rcases uV hf with⟨F,hp⟩|⟨F,hx,hy⟩
 ·rw[qy hp]at h
  obtain⟨v,hx,h⟩:=h
  have F3:=fun(v':AV)=>tL (env:=env) (v:=v) (u:=v') F.dst
  have tR:=lf (env:=env) (v:=v) F.xy
  have back:∀(v':AV),xv x (upd env y.dst v') v:=fun v'=>Hf (fun t ht=>(lf F.yx t ht).symm) hx
  unfold step at h ⊢
  rw[lN tR]at h
  split at h
  ·rename_i hw
   rw[if_pos hw]
   refine zw hK (fun v' σ' hN=>?_) (EB (fun t ht=>tR t (pN ht)) h)
   rw[F3]at hN
   exact(qy hp).2 ⟨v,back v',hN⟩
  ·rename_i hw
   rw[if_neg hw]
   rw[F3]at h
   exact(qy hp).2 ⟨v,back _,h⟩
 ·rw[ku hx]at h
  obtain⟨v,g1,h1,h⟩:=h
  rw[ku hy]at h
  obtain⟨v',g2,h2,h⟩:=h
  obtain⟨HX,q1,q2,q3⟩:=BM F h1 h2
  rw[q3]at h
  exact(ku hy).2 ⟨v',HX,q1,(ku hx).2 ⟨v,g2,q2,h⟩⟩
def xe (X:eW) (ops:Array Oper) (vl:List aW) (K:Env->ax->Prop):Nat->Array Bool->Env->ax->Prop
 |0,listed,env,σ=>Region.ready .any ops listed=[]/\K env ⟨σ.get,σ.next+1⟩
 |f+1,listed,env,σ=>(Region.ready .any ops listed=[]->K env ⟨σ.get,σ.next+1⟩)/\∀i∈Region.ready .any ops listed,∃vo,vl[i]? =some vo/\step X vo (fun e s=>xe X ops vl K f (listed.setIfInBounds i true) e s) env σ
theorem Af {ops:Array Oper} {vl:List aW} {bs:Array Nat} {listed:Array Bool} {i:Nat} (h:oB ops vl bs listed i=true) (j:Nat):oB ops vl bs (listed.setIfInBounds j true) i=true:=by
 unfold oB at h ⊢
 split at h
 ·rename_i x hx
  simp only[List.all_eq_true,Bool.or_eq_true]at h ⊢
  intro k hk
  rcases h k hk with((h|h)|h)|h
  ·exact .inl (.inl (.inl (getD_set_true h)))
  ·exact .inl (.inl (.inr h))
  ·exact .inl (.inr h)
  ·exact .inr h
 ·cases h
theorem qP {ops:Array Oper} {vl:List aW} {listed:Array Bool} {i j:Nat} {vi:aW} (pW:DC ops listed) (h:oB ops vl (iP ops) listed i=true) (hi:vl[i]? =some vi) (hr:i∈Region.ready .any ops listed) (hj:j∈Region.ready .any ops listed) (lg:j≠i):∃vj,vl[j]? =some vj/\uU vi vj=true:=by
 unfold oB at h
 rw[hi]at h
 simp only[List.all_eq_true,Bool.or_eq_true,beq_iff_eq]at h
 obtain⟨_,o,ho,_⟩:=mem_ready.1 hj
 rcases h j (List.mem_range.2 (Array.getElem?_eq_some_iff.1 ho).1)with((h|h)|h)|h
 ·rw[hZ hj]at h;cases h
 ·exact absurd h lg
 ·have:=jW pW hj i h
  rw[hZ hr]at this;cases this
 ·split at h
  ·rename_i y hy;exact⟨y,hy,h⟩
  ·cases h
theorem BL (hK:nX X) {ops:Array Oper} {vl:List aW} {K:Env->ax->Prop} {i:Nat} {vi:aW} (hi:vl[i]? =some vi):∀(fuel:Nat) (listed:Array Bool) (env:Env) (σ:ax),
  DC ops listed->i∈Region.ready .any ops listed->oB ops vl (iP ops) listed i=true->step X vi (fun e s=>xe X ops vl K fuel (listed.setIfInBounds i true) e s) env σ->xe X ops vl K (fuel+1) listed env σ:=by
 intro fuel
 induction fuel with
 |zero=>
  intro listed env σ pW hr lZ H
  refine⟨fun h=>(by rw[h]at hr;cases hr),fun j hj=>?_⟩
  by_cases lg:j=i
  ·subst lg;exact⟨vi,hi,H⟩
  ·obtain⟨vj,It,NG⟩:=qP pW lZ hi hr hj lg
   rw[ku (ym NG)]at H
   obtain⟨v,g',_,H⟩:=H
   have:=ready_mono hj lg
   rw[H.1]at this;cases this
 |succ fuel ih=>
  intro listed env σ pW hr lZ H
  refine⟨fun h=>(by rw[h]at hr;cases hr),fun j hj=>?_⟩
  by_cases lg:j=i
  ·subst lg;exact⟨vi,hi,H⟩
  ·obtain⟨vj,It,NG⟩:=qP pW lZ hi hr hj lg
   refine⟨vj,It,?_⟩
   have H2:step X vi (fun e s=>step X vj (fun e s=>xe X ops vl K fuel ((listed.setIfInBounds i true).setIfInBounds j true) e s) e s) env σ:=jd hK (fun e s h=>by
    obtain⟨vj',wD,h'⟩:=h.2 j (ready_mono hj lg)
    rw[It]at wD;injection wD with wD;subst wD
    exact h') H
   refine jd hK (fun e s h=>?_) (Ek hK NG H2)
   refine ih _ _ _ (pW.list hj) (ready_mono hr (fun e=>lg e.symm)) (Af lZ j) ?_
   rw[Array.setIfInBounds_comm _ _ lg]
   exact h
theorem qx {x:aW} (hg:x.guard=none) {N:Env->ax->Prop} {env:Env} {σ:ax}:step X x N env σ=fF X false x env σ (fun v σ'=>N (upd env x.dst v) σ'):=by
 unfold step
 rw[hg]
 simp[aH]
theorem Bv {x y:aW} {t s sz:Nat} {ys:O} (hx:x.op=.append sz (.t t) ys) (hg:x.guard=none) (hf:B8 s x y=true) {N:Env->ax->Prop} {env:Env} {σ:ax} (hl:IG t s ys env σ.next) (h:step X x (fun e s=>step X y N e s) env σ):
  step X y (fun e σ'=>IG t s ys e σ'.next/\step X x N e σ') env σ:=by
 unfold B8 at hf
 simp only[Bool.and_eq_true,bne_iff_ne]at hf
 obtain⟨⟨⟨⟨⟨f1,hq⟩,f3⟩,f4⟩,f5⟩,f6⟩:=hf
 have F:=pT f1
 obtain⟨⟨len,ht⟩,hsrc⟩:=hl
 have F1:∀k∈x.op.fE,∀v',upd env y.dst v' k=env k:=fun k hk v'=>lf (env:=env) (v:=v') F.yx k (pN hk)
 have dS:t∈x.op.fE:=by rw[hx];simp[fB.fE,fM]
 have Cn:∀v',cu (upd env y.dst v') ys=cu env ys:=fun v'=>(aP fun k hk=>by rw[F1 k (by rw[hx];simp[fB.fE,hk])]).symm
 rw[qx hg]at h
 unfold fF at h
 simp only[hx,fR]at h
 have ex:cu env (.t t)=.own ⟨s,σ.next⟩ 0 len:=ht
 rw[ex]at h
 cases hr:br σ.get (cu env ys)with
 |none=>rw[hr]at h;exact h.elim
 |some rs=>
  rw[hr]at h
  simp only[Option.bind_some,aZ]at h
  cases Ib:σ.get ⟨s,σ.next⟩with
  |none=>rw[Ib]at h;exact h.elim
  |some r=>
   rw[Ib]at h
   simp only[Option.bind_some]at h
   split at h
   ·rename_i v g1 hv
    split at hv
    ·rename_i hcond
     simp only[Option.some.injEq,Prod.mk.injEq]at hv
     obtain⟨rfl,rfl⟩:=hv
     rw[ku hq]at h
     obtain⟨v',g2,hG,hN⟩:=h
     have Il:(⟨y.site,σ.next⟩:Id)≠⟨s,σ.next⟩:=fun e=>f5 (by injection e)
     have FR:(⟨y.site,σ.next⟩:Id)≠⟨x.site,σ.next⟩:=fun e=>f6 (by injection e)
     replace hG:GS X σ.next y env (bI (bU σ.get ⟨s,σ.next⟩) ⟨x.site,σ.next⟩ ⟨true,sz,r.rows++rs⟩) v' g2:=si (lf F.xy) hG
     have QY:fQ y.hid σ.next σ.get=fQ y.hid σ.next (bI (bU σ.get ⟨s,σ.next⟩) ⟨x.site,σ.next⟩ ⟨true,sz,r.rows++rs⟩):=by
      cases hh:y.hid with
      |nil=>rw[hh]at f3;simp at f3
      |cons a l=>
       rw[hh]at f3 f4
       funext i
       show(if (a::l).contains i.site=true/\i.bZ=σ.next then none else σ.get i)=if (a::l).contains i.site=true/\i.bZ=σ.next then none else _
       by_cases h1:i=⟨x.site,σ.next⟩
       ·subst h1;rw[if_pos ⟨f4,rfl⟩,if_pos ⟨f4,rfl⟩]
       ·by_cases h2:i=⟨s,σ.next⟩
        ·subst h2;rw[if_pos ⟨f3,rfl⟩,if_pos ⟨f3,rfl⟩]
        ·simp only[bI,bU,if_neg h1,if_neg h2]
     obtain⟨my,NI,hG'⟩:∃my,g2=iq (bI (bU σ.get ⟨s,σ.next⟩) ⟨x.site,σ.next⟩ ⟨true,sz,r.rows++rs⟩) ⟨y.site,σ.next⟩ my/\GS X σ.next y env σ.get v' (iq σ.get ⟨y.site,σ.next⟩ my):=by
      unfold GS at hG ⊢
      by_cases wy:aH y.guard env=true
      ·rw[if_pos wy]at hG
       have hcw:y.op.cls≠.write:=by
        unfold jV at hq
        simp only[Bool.and_eq_true,bne_iff_ne]at hq
        exact hq.2
       obtain⟨my,rfl,_,Ke⟩:=sq hcw hG
       exact⟨my,rfl,by rw[if_pos wy];exact Ke _ QY⟩
      ·rw[if_neg wy]at hG
       obtain⟨rfl,rfl⟩:=hG
       exact⟨none,rfl,by rw[if_neg wy];exact⟨rfl,rfl⟩⟩
     subst NI
     refine(ku hq).2 ⟨v',_,hG',⟨⟨len,by rw[F1 t dS];exact ht⟩,fun id o l he=>hsrc id o l (by rw[<-Cn v'];exact he)⟩,?_⟩
     rw[qx hg]
     unfold fF
     have ex':cu (upd env y.dst v') (.t t)=.own ⟨s,σ.next⟩ 0 len:=by
      show upd env y.dst v' t= _
      rw[F1 t dS];exact ht
     simp only[hx,fR,ex',Cn v']
     have mo:br (iq σ.get ⟨y.site,σ.next⟩ my) (cu env ys)=some rs:=by
      cases my with
      |none=>exact hr
      |some row=>
       revert hr
       cases hev:cu env ys<;>simp only[br,iq]<;>try exact fun h=>h
       rename_i id o l
       have:id≠⟨y.site,σ.next⟩:=fun e=>hsrc id o l hev (by rw[e])
       simp only[bI,if_neg this];exact fun h=>h
     have Qx:iq σ.get ⟨y.site,σ.next⟩ my ⟨s,σ.next⟩=some r:=by
      cases my with
      |none=>exact Ib
      |some row=>simp only[iq,bI,if_neg (fun e=>Il e.symm:(⟨s,σ.next⟩:Id)≠⟨y.site,σ.next⟩)];exact Ib
     rw[mo]
     simp only[Option.bind_some,aZ,Qx]
     rw[if_pos hcond]
     have hgg:bI (bU (iq σ.get ⟨y.site,σ.next⟩ my) ⟨s,σ.next⟩) ⟨x.site,σ.next⟩ ⟨true,sz,r.rows++rs⟩=iq (bI (bU σ.get ⟨s,σ.next⟩) ⟨x.site,σ.next⟩ ⟨true,sz,r.rows++rs⟩) ⟨y.site,σ.next⟩ my:=by
      cases my with
      |none=>rfl
      |some row=>
       funext i
       simp only[iq,bI,bU]
       by_cases h1:i=⟨y.site,σ.next⟩
       ·subst h1;rw[if_neg FR,if_neg Il,if_pos rfl,if_pos rfl]
       ·simp only[if_neg h1]
     have hu:=tL (env:=env) (v:=AV.own ⟨x.site,σ.next⟩ 0 (len+rs.length)) (u:=v') F.dst
     show N (upd (upd env y.dst v') x.dst (.own ⟨x.site,σ.next⟩ 0 (len+rs.length))) ⟨bI (bU (iq σ.get ⟨y.site,σ.next⟩ my) ⟨s,σ.next⟩) ⟨x.site,σ.next⟩ ⟨true,sz,r.rows++rs⟩,σ.next⟩
     rw[hgg,<-hu]
     exact hN
    ·cases hv
   ·exact h.elim
theorem Ae {ops:Array Oper} {vl:List aW} {bs:Array Nat} {listed:Array Bool} {i s:Nat} (h:mT ops vl bs listed i s=true) (j:Nat):mT ops vl bs (listed.setIfInBounds j true) i s=true:=by
 unfold mT at h ⊢
 split at h
 ·rename_i x hx
  simp only[List.all_eq_true,Bool.or_eq_true]at h ⊢
  intro k hk
  rcases h k hk with((h|h)|h)|h
  ·exact .inl (.inl (.inl (getD_set_true h)))
  ·exact .inl (.inl (.inr h))
  ·exact .inl (.inr h)
  ·exact .inr h
 ·cases h
theorem yi {ops:Array Oper} {vl:List aW} {listed:Array Bool} {i j s:Nat} {vi:aW} (pW:DC ops listed) (h:mT ops vl (iP ops) listed i s=true) (hi:vl[i]? =some vi) (hr:i∈Region.ready .any ops listed) (hj:j∈Region.ready .any ops listed) (lg:j≠i):∃vj,vl[j]? =some vj/\B8 s vi vj=true:=by
 unfold mT at h
 rw[hi]at h
 simp only[List.all_eq_true,Bool.or_eq_true,beq_iff_eq]at h
 obtain⟨_,o,ho,_⟩:=mem_ready.1 hj
 rcases h j (List.mem_range.2 (Array.getElem?_eq_some_iff.1 ho).1)with((h|h)|h)|h
 ·rw[hZ hj]at h;cases h
 ·exact absurd h lg
 ·have:=jW pW hj i h
  rw[hZ hr]at this;cases this
 ·split at h
  ·rename_i y hy;exact⟨y,hy,h⟩
  ·cases h
theorem zx (hK:nX X) {ops:Array Oper} {vl:List aW} {K:Env->ax->Prop} {i t s sz:Nat} {ys:O} {vi:aW} (hi:vl[i]? =some vi) (hx:vi.op=.append sz (.t t) ys) (hg:vi.guard=none):∀(fuel:Nat) (listed:Array Bool) (env:Env) (σ:ax),
  DC ops listed->i∈Region.ready .any ops listed->mT ops vl (iP ops) listed i s=true->IG t s ys env σ.next->step X vi (fun e s=>xe X ops vl K fuel (listed.setIfInBounds i true) e s) env σ->xe X ops vl K (fuel+1) listed env σ:=by
 intro fuel
 induction fuel with
 |zero=>
  intro listed env σ pW hr lZ Mu H
  refine⟨fun h=>(by rw[h]at hr;cases hr),fun j hj=>?_⟩
  by_cases lg:j=i
  ·subst lg;exact⟨vi,hi,H⟩
  ·exfalso
   have h0:=ready_mono hj lg
   rw[qx hg]at H
   unfold fF at H
   simp only[hx]at H
   split at H
   ·rw[H.1]at h0;cases h0
   ·exact H
 |succ fuel ih=>
  intro listed env σ pW hr lZ Mu H
  refine⟨fun h=>(by rw[h]at hr;cases hr),fun j hj=>?_⟩
  by_cases lg:j=i
  ·subst lg;exact⟨vi,hi,H⟩
  ·obtain⟨vj,It,NG⟩:=yi pW lZ hi hr hj lg
   refine⟨vj,It,?_⟩
   have H2:step X vi (fun e s=>step X vj (fun e s=>xe X ops vl K fuel ((listed.setIfInBounds i true).setIfInBounds j true) e s) e s) env σ:=jd hK (fun e s h=>by
    obtain⟨vj',wD,h'⟩:=h.2 j (ready_mono hj lg)
    rw[It]at wD;injection wD with wD;subst wD
    exact h') H
   refine jd hK (fun e s h=>?_) (Bv hx hg NG Mu H2)
   refine ih _ _ _ (pW.list hj) (ready_mono hr (fun e=>lg e.symm)) (Ae lZ j) h.1 ?_
   rw[Array.setIfInBounds_comm _ _ lg]
   exact h.2
theorem Gf {ops:Array Oper} {vl:List aW} {bs:Array Nat} {listed:Array Bool} {i i' t s:Nat} {y:O} {vo:aW} (h:Lr ops vl bs listed i=some (i',t,s,y,vo)):i'=i/\vl[i]? =some vo/\(∃sz,vo.op=.append sz (.t t) y)/\vo.guard=none/\mT ops vl bs listed i s=true:=by
 unfold Lr at h
 split at h
 ·rename_i x hx
  split at h
  ·rename_i t' s' y' jH
   split at h
   ·rename_i hf
    simp only[Option.some.injEq,Prod.mk.injEq]at h
    obtain⟨rfl,rfl,rfl,rfl,rfl⟩:=h
    unfold JU at jH
    split at jH
    ·rename_i sz t2 y2 ho r5
     split at jH
     ·simp only[Option.some.injEq,Prod.mk.injEq]at jH
      obtain⟨rfl,rfl,rfl⟩:=jH
      exact⟨rfl,hx,⟨sz,ho⟩,r5,hf⟩
     ·cases jH
    ·cases jH
   ·cases h
  ·cases h
 ·cases h
theorem uK {X:eW} {Q:Ex->Env->ax->Prop} {env:Env} {σ:ax}:∀{l:List VC} {t:VC},xP l=some t->dO X t Q env σ->∀c∈l,dO X c Q env σ
 |[],t,h,_,c,hc=>by cases hc
 |[c0],t,h,hw,c,hc=>by
  simp only[xP,Option.some.injEq]at h
  subst h
  rw[List.mem_singleton]at hc
  subst hc;exact hw
 |c0::c1::r,t,h,hw,c,hc=>by
  simp only[xP,Option.map_eq_some_iff]at h
  obtain⟨t',EK,rfl⟩:=h
  rcases List.mem_cons.1 hc with rfl|hc
  ·exact hw.1
  ·exact uK EK hw.2 c hc
theorem mapM_mem {α β:Type} {f:α->Option β}:∀{l:List α} {r:List β},l.mapM f=some r->∀i∈l,∃b∈r,f i=some b
 |[],_,_,i,hi=>by cases hi
 |a::l,r,h,i,hi=>by
  simp only[List.mapM_cons,Option.bind_eq_bind,Option.bind_eq_some_iff,Option.pure_def,Option.some.injEq]at h
  obtain⟨b,hb,r',hr,rfl⟩:=h
  rcases List.mem_cons.1 hi with rfl|hi
  ·exact⟨b,by simp,hb⟩
  ·obtain⟨c,hc,hf⟩:=mapM_mem hr i hi
   exact⟨c,List.mem_cons_of_mem _ hc,hf⟩
theorem Ey (hK:nX X) {ops:Array Oper} {vl:List aW} {Q:Ex->Env->ax->Prop}:∀(n:Nat) (listed:Array Bool) (t:VC) (env:Env) (σ:ax),tJ ops vl (iP ops) n listed=some t->DC ops listed->dO X t Q env σ->xe X ops vl (Q .normal) n listed env σ:=by
 intro n
 induction n with
 |zero=>
  intro listed t env σ h _ hw
  unfold tJ at h
  split at h
  ·rename_i hr
   simp only[Option.some.injEq]at h
   subst h
   exact⟨hr,hw⟩
  ·cases h
 |succ n ih=>
  intro listed t env σ h pW hw
  unfold tJ at h
  split at h
  ·rename_i hr
   simp only[Option.some.injEq]at h
   subst h
   exact⟨fun _=>hw,fun i hi=>by rw[hr]at hi;cases hi⟩
  ·rename_i r rs hr
   dsimp only at h
   split at h
   ·rename_i i hfind
    have Ie:=List.mem_of_find?_eq_some hfind
    have yE:=List.find?_some hfind
    rw[<-hr]at Ie
    split at h
    ·rename_i vo nV
     simp only[Option.map_eq_some_iff]at h
     obtain⟨t',EK,rfl⟩:=h
     exact BL hK nV n listed env σ pW Ie yE (jd hK (fun e s h=>ih _ _ _ _ EK (pW.list Ie) h) hw)
    ·cases h
   ·split at h
    ·rename_i i t s y vo hfind
     obtain⟨i0,EI,dD⟩:=List.exists_of_findSome?_eq_some hfind
     obtain⟨rfl,nV,⟨sz,dB⟩,r5,H9⟩:=Gf dD
     rw[<-hr]at EI
     simp only[Option.map_eq_some_iff]at h
     obtain⟨t',EK,rfl⟩:=h
     exact zx hK nV dB r5 n listed env σ pW EI H9 hw.1 (jd hK (fun e s h=>ih _ _ _ _ EK (pW.list EI) h) hw.2)
    split at h
    ·rename_i l hl
     have cN:=uK h hw
     refine⟨fun h=>(by rw[h]at hr;cases hr),fun i hi=>?_⟩
     rw[hr]at hi
     obtain⟨b,Hl,yz⟩:=mapM_mem hl i hi
     simp only[Option.bind_eq_some_iff,Option.map_eq_some_iff]at yz
     obtain⟨vo,nV,t',EK,rfl⟩:=yz
     exact⟨vo,nV,jd hK (fun e s h=>ih _ _ _ _ EK (pW.list (by rw[hr];exact hi)) h) (cN _ Hl)⟩
    ·cases h
theorem BH {ops:Array Oper} {vl:List aW} {nt site0:Nat} {draw mk:Bool} {bs:Array Nat} {hidden:List (Nat×Bool)} {K:Env->ax->Prop} {Q:Exit->Act->World->Prop} (cN:allM (kS P ops nt site0 draw mk bs hidden) ops.toList 0=some vl):
  ∀(fuel:Nat) (listed:Array Bool) (env:Env) (σ:ax) (a:Act) (w:World) (D:Nat->Prop) (ι:Names) (U:Nat->Prop),xe (Sound P) ops vl K fuel listed env σ->fG P hs D ι σ.get w->Used ι σ.next U->(∀s,U s->∃i,s=site0+i/\listed.getD i false=true)->bt P w D ι env a->a.tmps.size=nt->
  (∀gJ σ' a' w' D' ι',K gJ σ'->Step hs D ι w D' ι' w'->St P hs nt D' ι' gJ σ' a' w'->a'.defers=a.defers->σ.next<=σ'.next->Q .normal a' w')->wpAny P .any ops Q fuel listed a w:=by
 intro fuel
 induction fuel with
 |zero=>intro listed env σ a w D ι U h S Us hU E eT hQ;exact⟨h.1,hQ env _ a w D ι h.2 (Step.refl _ _ _ _) ⟨S,Us.next,E,eT⟩ rfl (Nat.le_succ _)⟩
 |succ fuel ih=>
  intro listed env σ a w D ι U h S Us hU E eT hQ
  refine⟨fun hr=>hQ env _ a w D ι (h.1 hr) (Step.refl _ _ _ _) ⟨S,Us.next,E,eT⟩ rfl (Nat.le_succ _),fun i hi=>?_⟩
  obtain⟨vo,nV,hG⟩:=h.2 i hi
  obtain⟨_,o,ho,_⟩:=mem_ready.1 hi
  obtain⟨vo',kX,Nz⟩:=(mE cN).2 i o (by simpa using ho)
  rw[nV]at kX;injection kX with kX;subst kX
  rw[Nat.zero_add]at Nz
  obtain⟨hc,hd,yL,uf,hg⟩:=ny Nz
  have hw:=qF (ops:=ops) (vo:=vo) E hg
  have Qg:¬U vo.site:=fun hu=>by
   obtain⟨i',he,hl⟩:=hU _ hu
   have:i'=i:=ab
   subst this
   rw[hZ hi]at hl;cases hl
  have iQ:i<listed.size:=by
   have h0:=(mem_ready.1 hi).1
   rcases Nat.lt_or_ge i listed.size with h|h
   ·exact h
   ·simp[Array.getElem?_eq_none h]at h0
  unfold wpOp
  simp only[ho]
  rw[<-hw]
  unfold step at hG
  by_cases Dz:aH vo.guard env=true
  ·rw[if_pos Dz]
   rw[if_pos Dz]at hG
   refine .inl (vK hc hG S Us Qg E fun v σ' u D' ι' w' hn T S' hR U' hle=>?_)
   refine ih _ _ _ _ w' D' ι' _ hn S' U' (fun s yI=>?_) (by rw[hd];exact lv (mQ E T) hR uf eT) (by rw[jU];exact eT) fun gJ σ2 a2 w2 D2 ι2 hk T2 Lh Av lz=>hQ gJ σ2 a2 w2 D2 ι2 hk (T.trans T2) Lh (Av.trans (put_defers _ _ _)) (Nat.le_trans hle lz)
   rcases yI with h|h
   ·obtain⟨i',he,hl⟩:=hU _ h
    exact⟨i',he,getD_set_true hl⟩
   ·exact⟨i,by rw[h,yL],by simp[iQ]⟩
  ·rw[if_neg Dz]
   rw[if_neg Dz]at hG
   refine ih _ _ _ _ w D ι U hG S Us (fun s yI=>?_) (by rw[hd];exact lv E cv.undef uf eT) (by rw[jU];exact eT) fun gJ σ2 a2 w2 D2 ι2 hk T2 Lh Av lz=>hQ gJ σ2 a2 w2 D2 ι2 hk T2 Lh (Av.trans (put_defers _ _ _)) lz
   obtain⟨i',he,hl⟩:=hU _ yI
   exact⟨i',he,getD_set_true hl⟩
end
end Go.Proofs.YtihgaadadaekmaaGreatDoor.V

namespace Go.Proofs.YtihgaadadaekmaaGreatDoor.V
open Go.RowKit
variable {P:Program} {w w':World} {D D' D2:Nat->Prop} {ι ι' ι2:Names}
def zy (P:Program) (c:Code) (Q:Exit->Act->World->Prop) (a:Act) (w:World):Prop:=
 ∀(b:Frame) (k:List Item) (cs:List Frame),b.kind≠.early->∃e a' w',Q e a' w'/\Arrives P (lone (b.at a (.code c::k)) cs w) b k cs e a' w'
section
variable {Q:Exit->Act->World->Prop} {a:Act}
theorem oM {c:Code} (h:c.wp P Q a w):zy P c Q a w:=fun b k cs _=>h b k cs
theorem IS {x y:Code} (h:zy P x (Exit.then (zy P y Q) Q) a w):zy P (.seq x y) Q a w:=by
 intro b k cs hb
 obtain⟨e,a1,w1,hq,gK⟩:=h b (.code y::k) cs hb
 by_cases he:e=.normal
 ·subst he
  obtain⟨e2,a2,w2,rK,FG⟩:=hq b k cs hb
  exact⟨e2,a2,w2,rK,.of_steps (.head step_seq gK) FG⟩
 ·refine⟨e,a1,w1,?_,.of_steps (.one step_seq) (.pass (x:=.code y) rfl (fun _ _=>.inl he) gK)⟩
  cases e<;>first|exact absurd rfl he|exact hq
theorem Gw {c:Operand} {x y:Code} {t:Bool} (hc:a.eval c=.bool t) (h:zy P (if t then x else y) Q a w):zy P (.cond c x y) Q a w:=
 fun b k cs hb=>let ⟨e,a',w',q,r⟩:=h b k cs hb;⟨e,a',w',q,.of_steps (.one (step_cond hc)) r⟩
theorem D7 {id:Nat} {c:Code} (h:zy P c (Exit.inBlock id Q) a w):zy P (.block id c) Q a w:=by
 intro b k cs hb
 obtain⟨e,a1,w1,hq,gK⟩:=h b (.inBlock id::k) cs hb
 cases e with
 |normal=>exact⟨.normal,a1,w1,hq,.head step_block (Steps.trans gK (.one step_inBlock))⟩
 |exit jP=>
  by_cases hid:jP=id
  ·simp only[Exit.inBlock,hid,if_true]at hq
   exact⟨.normal,a1,w1,hq,.head step_block (gK k (by simp[exitTo,hid]))⟩
  ·simp only[Exit.inBlock,hid,if_false]at hq
   exact⟨.exit jP,a1,w1,hq,fun k' hk=>.head step_block (gK k' (by simp[exitTo,Ne.symm hid,hk]))⟩
 |goto l=>exact⟨_,a1,w1,hq,fun k' hk=>.head step_block (gK k' (by simp[gotoIn,hk]))⟩
 |ret=>exact⟨_,a1,w1,hq,.of_steps (.one step_block) gK⟩
 |panic ch=>exact⟨_,a1,w1,hq,.of_steps (.one step_block) gK⟩
 |outgrown=>exact⟨_,a1,w1,hq,.of_steps (b:=b) (k:=k) (cs:=cs) (e:=.outgrown) (.one step_block) gK⟩
theorem D8 {c:Code} (h:zy P c (Exit.noGoto Q) a w):zy P (.scope c) Q a w:=by
 intro b k cs hb
 obtain⟨e,a1,w1,hq,gK⟩:=h b (.inScope c::k) cs hb
 cases e with
 |normal=>exact⟨.normal,a1,w1,hq,.head step_scope (Steps.trans gK (.one step_inScope))⟩
 |exit id=>exact⟨.exit id,a1,w1,hq,fun k' hk=>.head step_scope (gK k' (by simp[exitTo,hk]))⟩
 |goto l=>exact hq.elim
 |ret=>exact⟨_,a1,w1,hq,.of_steps (.one step_scope) gK⟩
 |panic ch=>exact⟨_,a1,w1,hq,.of_steps (.one step_scope) gK⟩
 |outgrown=>exact⟨_,a1,w1,hq,.of_steps (b:=b) (k:=k) (cs:=cs) (e:=.outgrown) (.one step_scope) gK⟩
def r8 (P:Program) (c:Code) (Q:Exit->Act->World->Prop):Nat->Act->World->Prop
 |0=>fun _ _=>False
 |n+1=>zy P c (Exit.then (r8 P c Q n) Q)
theorem Gx {c:Code} (n:Nat) (h:r8 P c Q n a w):zy P (.loop c) Q a w:=by
 intro b k cs hb
 have key:∀n a w,r8 P c Q n a w->∃e a' w',Q e a' w'/\Arrives P (lone (b.at a (.code c::.inLoop c::k)) cs w) b k cs e a' w':=by
  intro n
  induction n with
  |zero=>intro a w h;exact h.elim
  |succ n ih=>
   intro a w h
   obtain⟨e,a1,w1,hq,gK⟩:=h b (.inLoop c::k) cs hb
   by_cases he:e=.normal
   ·subst he
    obtain⟨e2,a2,w2,rK,FG⟩:=ih a1 w1 hq
    exact⟨e2,a2,w2,rK,.of_steps (Steps.trans gK (.one step_inLoop)) FG⟩
   ·refine⟨e,a1,w1,?_,.pass (x:=.inLoop c) rfl (fun _ _=>.inl he) gK⟩
    cases e<;>first|exact absurd rfl he|exact hq
 obtain⟨e,a',w',hq,gK⟩:=key n a w h
 exact⟨e,a',w',hq,.of_steps (.one step_loop) gK⟩
theorem vW {f:FuncId} {fn:Func} {c:Code} {args:Array Value} {R:Ending->World->Prop} (hf:P.funcs[f]? =some fn) (hb:fn.body=some c)
  (h:zy P c (bodyPost P fn R) {tmps:=args++Array.replicate (fn.ntmps-args.size) undef,defers:=[]} w):Calls P f args w R:=by
 intro cs
 have KS:Frame.enter P f args .normal=({(default:Frame)with fn:=f,kind:=.normal}:Frame).at {tmps:=args++Array.replicate (fn.ntmps-args.size) undef,defers:=[]} [.code c]:=by simp[Frame.enter,Frame.at,hf,hb]
 obtain⟨e,a',w',hq,gK⟩:=h {(default:Frame)with fn:=f,kind:=.normal} [] cs (by simp)
 rw[<-KS]at gK
 cases e with
 |normal=>obtain⟨hd,v,hr,hR⟩:=hq;exact⟨.returned v,w',_,hR,Steps.trans gK (.one step_end),rfl,rfl,hd,rfl,fn,hf,hr⟩
 |ret=>obtain⟨hd,v,hr,hR⟩:=hq;obtain⟨todo,hs⟩:=gK;exact⟨.returned v,w',_,hR,hs,rfl,rfl,hd,rfl,fn,hf,hr⟩
 |panic chain=>obtain⟨hd,hR⟩:=hq;obtain⟨todo,hs⟩:=gK;exact⟨.panicked chain,w',_,hR,hs,rfl,rfl,hd,fn,hf⟩
 |exit id=>exact hq.elim
 |goto l=>exact hq.elim
 |outgrown=>exact⟨.outgrown,w',{(default:Frame)with fn:=f,kind:=.normal},hq,gK.resolve_left (by simp),rfl,trivial⟩
def tV (P:Program) (ops:Array Oper) (Q:Exit->Act->World->Prop) (l:List Nat) (a:Act) (w:World):Prop:=
 ∀(b:Frame) (k:List Item) (cs:List Frame),b.kind≠.early->∃e a' w',Q e a' w'/\Arrives P (lone (b.at a (.inRegion ops l::k)) cs w) b k cs e a' w'
theorem Bb {id:Nat} {ops:Array Oper} (h:tV P ops Q (List.range ops.size) a w):zy P (.region id ops false) Q a w:=
 fun b k cs hb=>let ⟨e,a',w',q,r⟩:=h b k cs hb;⟨e,a',w',q,.of_steps (.one step_region) r⟩
theorem Lz {ops:Array Oper} (h:Q .normal a w):tV P ops Q [] a w:=fun _ _ _ _=>⟨.normal,a,w,h,.one step_region_end⟩
theorem nr {o:Oper} {ys:Nat->Option Bool} (h:o.guard=none):Region.wanted o ys=true:=by simp[Region.wanted,h]
theorem GC {ops:Array Oper} {i:Nat} {rest:List Nat} {o:Oper} {v:Value} (ho:ops[i]? =some o) (hg:o.guard=none) (hr:(execOp a.eval o).run P w=.ok (.value v) w') (h:tV P ops Q rest (a.put o.dst v) w'):tV P ops Q (i::rest) a w:=by
 intro b k cs hb
 obtain⟨e,a',w2,hq,gK⟩:=h b k cs hb
 refine⟨e,a',w2,hq,.of_steps (.one ?_) gK⟩
 have ql:(b.at a (.inRegion ops (i::rest)::k)).finish v=b.at (a.put o.dst v) (.inRegion ops rest::k):=by rw[Frame.finish_at,ho];rfl
 rw[<-ql]
 refine step_lone_go ?_
 have h2:=stepG_op (P:=P) (b:=b) (k:=k) (cs:=cs) (w:=w) (rest:=rest) ho (nr hg (ys:=yielded ops a.tmps))
 rw[h2];simp[stepG.apply,hr]
theorem IX {ops:Array Oper} {i:Nat} {rest:List Nat} {o:Oper} {v z:Value} {c cap s r:Nat} {buf:Array Value} (ho:ops[i]? =some o) (hg:o.guard=none) (hr:(execOp a.eval o).run P w=.ok (.comm #[Conc.scase c v z] true .send) w)
  (hc:w.heap[c]? =some (.chan cap buf false s r false)) (fc:buf.size<cap) (h:tV P ops Q rest (a.put o.dst undef) (w.setChan c cap (buf.push v) false (s+1) r false)):tV P ops Q (i::rest) a w:=by
 intro b k cs hb
 obtain⟨e,a',w2,hq,gK⟩:=h b k cs hb
 refine⟨e,a',w2,hq,.of_steps (.one ?_) gK⟩
 have ql:(b.at a (.inRegion ops (i::rest)::k)).finish undef=b.at (a.put o.dst undef) (.inRegion ops rest::k):=by rw[Frame.finish_at,ho];rfl
 rw[<-ql,Conc.lone_eq_solo,Conc.lone_eq_solo]
 exact Conc.step_lone_send_room (Conc.stepG_comm ho (nr hg) hb hr) hc fc
theorem IW {ops:Array Oper} {i:Nat} {rest:List Nat} {o:Oper} {z:Value} {c cap s r:Nat} {buf:Array Value} (ho:ops[i]? =some o) (hg:o.guard=none) (hr:(execOp a.eval o).run P w=.ok (.comm #[Conc.rcase c z] true (.recv false)) w)
  (hc:w.heap[c]? =some (.chan cap buf false s r false)) (F2:0<buf.size) (h:tV P ops Q rest (a.put o.dst (buf.getD 0 undef)) (w.setChan c cap (buf.extract 1 buf.size) false s (r+1) false)):tV P ops Q (i::rest) a w:=by
 intro b k cs hb
 obtain⟨e,a',w2,hq,gK⟩:=h b k cs hb
 refine⟨e,a',w2,hq,.of_steps (.one ?_) gK⟩
 have ql:(b.at a (.inRegion ops (i::rest)::k)).finish (buf.getD 0 undef)=b.at (a.put o.dst (buf.getD 0 undef)) (.inRegion ops rest::k):=by rw[Frame.finish_at,ho];rfl
 rw[<-ql,Conc.lone_eq_solo,Conc.lone_eq_solo]
 exact Conc.step_lone_recv_buf false (Conc.stepG_comm ho (nr hg) hb hr) hc F2
end
section
variable {hs:Nat} {g:Rows} {env:Env} {a:Act} {o:Oper}
theorem Iz {x y:O} (hc:oR P o.op=some (.snd x y)):∃x' y',o.op=.send x' y'/\cO P x'=some x/\cO P y'=some y:=by
 unfold oR at hc
 split at hc
 case h_25=>
  rename_i x' y' h
  simp only[Option.bind_eq_bind,Option.bind_eq_some_iff,Option.pure_def,Option.some.injEq,fB.snd.injEq]at hc
  obtain⟨p,h1,q,h2,rfl,rfl⟩:=hc
  exact⟨_,_,h,h1,h2⟩
 all_goals (try unfold lW at hc)<;>(try unfold ss at hc)<;>(try unfold qb at hc)<;>(repeat' (split at hc))<;>(simp only[Option.bind_eq_bind,Option.bind_eq_some_iff,Option.pure_def,Option.some.injEq,Option.map_eq_some_iff,reduceCtorEq,and_false,exists_false]at hc)
theorem Iy {x:O} (hc:oR P o.op=some (.LF x)):∃t dir e i z x',o.op=.recv t x' false/\P.underlying t=some (.chan dir e)/\P.info? e=some i/\i.zero=some z/\cO P x'=some x:=by
 unfold oR at hc
 split at hc
 case h_26=>
  rename_i t x' h
  split at hc
  ·rename_i dir e ht
   split at hc
   ·rename_i z hz
    simp only[Option.bind_eq_some_iff]at hz
    obtain⟨i,hi,hz⟩:=hz
    simp only[Option.map_eq_some_iff,fB.LF.injEq]at hc
    obtain⟨p,h1,rfl⟩:=hc
    exact⟨t,dir,e,i,z,x',h,ht,hi,hz,h1⟩
   ·cases hc
  ·cases hc
 all_goals (try unfold lW at hc)<;>(try unfold ss at hc)<;>(try unfold qb at hc)<;>(repeat' (split at hc))<;>(simp only[Option.bind_eq_bind,Option.bind_eq_some_iff,Option.pure_def,Option.some.injEq,Option.map_eq_some_iff,reduceCtorEq,and_false,exists_false]at hc)
theorem M6 {x y:O} {g':Rows} (S:fG P hs D ι g w) (hc:oR P o.op=some (.snd x y)) (E:bt P w D ι env a) (hv:ev g (cu env x) (cu env y)=some g'):
  ∃c cap s r buf u,(execOp a.eval o).run P w=.ok (.comm #[Conc.scase c u (.tuple #[])] true .send) w/\w.heap[c]? =some (.chan cap buf false s r false)/\buf.size<cap/\fG P hs D ι g' (w.setChan c cap (buf.push u) false (s+1) r false)/\Step hs D ι w D ι (w.setChan c cap (buf.push u) false (s+1) r false):=by
 obtain⟨x',y',ho,hx,hy⟩:=Iz hc
 have rx:=cC E hx
 have ry:=cC E hy
 unfold ev at hv
 split at hv
 ·rename_i i he
  simp only[Option.bind_eq_some_iff]at hv
  obtain⟨r,hg,hv⟩:=hv
  split at hv
  ·rename_i hcond
   simp only[Option.some.injEq]at hv
   subst hv
   obtain⟨B,c,hu,hB,hk,eT,buf,s,q,hb,Hm,hR⟩:=vY S rx he hg
   obtain⟨B',dk,RR,_⟩:=S.row i r hg
   rw[hB]at dk;injection dk with dk;subst dk
   have mh:=S.Ez (ob:=.chan c (buf.push (a.eval y')) false (s+1) q false) (r':={r with rows:=r.rows++[[cu env y]]}) hg hcond.1 hB fun hr jO=>⟨RR.sz,fun cs dh=>?_,fun h0=>(by rw[hk]at h0;cases h0),fun m hm=>(by rw[hk]at hm;cases hm),fun c' jM=>?_⟩
   ·exact⟨B.b,c,s,q,buf,a.eval y',by simp[execOp,ho,hu,Conc.scase],hb,by rw[Hm];omega,mh.1,mh.2⟩
   ·rcases List.mem_append.1 dh with h|h
    ·exact RR.flat cs h
    ·rw[List.mem_singleton.1 h]
     intro b qk
     rw[List.mem_singleton.1 qk];exact hcond.2.2
   ·rw[hk]at jM
    simp only[Option.some.injEq,BK.chan.injEq]at jM
    subst jM
    refine⟨eT,_,_,_,jO,by simp[Hm],fun j cs hj=>?_⟩
    rw[List.getElem?_append]at hj
    split at hj
    ·rename_i dD
     obtain⟨b,u,q1,q2,q3⟩:=hR j cs hj
     refine⟨b,u,q1,?_,hr _ _ q3⟩
     rw[Array.getElem?_push,if_neg ab];exact q2
    ·rename_i kV
     have gn:j=r.rows.length:=by
      have:=(List.getElem?_eq_some_iff.1 hj).1
      simp at this;omega
     subst gn
     simp at hj
     subst hj
     exact⟨_,_,rfl,by rw[Array.getElem?_push,if_pos Hm.symm],hr _ _ ry⟩
  ·cases hv
 ·cases hv
theorem M5 {x:O} {g':Rows} {v:AV} (S:fG P hs D ι g w) (hc:oR P o.op=some (.LF x)) (E:bt P w D ι env a) (hv:eu g (cu env x)=some (v,g')):
  ∃c cap s r buf z,(execOp a.eval o).run P w=.ok (.comm #[Conc.rcase c z] true (.recv false)) w/\w.heap[c]? =some (.chan cap buf false s r false)/\0<buf.size/\fG P hs D ι g' (w.setChan c cap (buf.extract 1 buf.size) false s (r+1) false)/\Step hs D ι w D ι (w.setChan c cap (buf.extract 1 buf.size) false s (r+1) false)/\cv P (w.setChan c cap (buf.extract 1 buf.size) false s (r+1) false) D ι v (buf.getD 0 undef):=by
 obtain⟨t,dir,e,i0,z,x',ho,ht,hi,hz,hx⟩:=Iy hc
 have rx:=cC E hx
 unfold eu at hv
 split at hv
 ·rename_i i he
  simp only[Option.bind_eq_some_iff]at hv
  obtain⟨r,hg,hv⟩:=hv
  split at hv
  ·rename_i v' rest pk
   split at hv
   ·rename_i hcond
    simp only[Option.some.injEq,Prod.mk.injEq]at hv
    obtain⟨rfl,rfl⟩:=hv
    obtain⟨B,c,hu,hB,hk,eT,buf,s,q,hb,Hm,hR⟩:=vY S rx he hg
    obtain⟨B',dk,RR,_⟩:=S.row i r hg
    rw[hB]at dk;injection dk with dk;subst dk
    obtain⟨b0,u0,q1,q2,q3⟩:=hR 0 [v'] (by rw[pk];rfl)
    simp only[List.cons.injEq,and_true]at q1
    subst q1
    have kC:0<buf.size:=by rw[Hm,pk];simp
    have Pp:buf.getD 0 undef=u0:=by rw[Array.getD_eq_getD_getElem?,q2];rfl
    have mh:=S.Ez (ob:=.chan c (buf.extract 1 buf.size) false s (q+1) false) (r':={r with rows:=rest}) hg hcond hB fun hr jO=>⟨RR.sz,fun cs dh=>RR.flat cs (by rw[pk];exact List.mem_cons_of_mem _ dh),fun h0=>(by rw[hk]at h0;cases h0),fun m hm=>(by rw[hk]at hm;cases hm),fun c' jM=>?_⟩
    ·refine⟨B.b,c,s,q,buf,z,?_,hb,kC,mh.1,mh.2,?_⟩
     ·have sW:(zeroValue e).run P w=.ok z w:=by simp[zeroValue,typeInfo,hi,hz]
      simp[execOp,ho,hu,Conc.rcase,run_underlying ht,sW]
     ·rw[Pp];exact mh.2.rep q3
    ·rw[hk]at jM
     simp only[Option.some.injEq,BK.chan.injEq]at jM
     subst jM
     refine⟨eT,_,_,_,jO,by simp[Hm,pk],fun j cs hj=>?_⟩
     obtain⟨b,u,k1,k2,k3⟩:=hR (j+1) cs (by rw[pk];simpa using hj)
     refine⟨b,u,k1,?_,hr _ _ k3⟩
     have dD:=(Array.getElem?_eq_some_iff.1 k2).1
     rw[Array.getElem?_extract,if_pos ab,Nat.add_comm 1 j];exact k2
   ·cases hv
  ·cases hv
 ·cases hv
theorem C2 {ops:Array Oper} {nt site0:Nat} {K:Env->ax->Prop} {Q:Exit->Act->World->Prop}:∀(l:List Oper) (vl:List aW) (j:Nat) (env:Env) (σ:ax) (a:Act) (w:World) (D:Nat->Prop) (ι:Names),
  ops.toList.drop j=l->allM (kS P ops nt site0 false false #[] []) l j=some vl->cr vl K env σ->fG P hs D ι σ.get w->Used ι σ.next (fun _=>False)->bt P w D ι env a->a.tmps.size=nt->
  (∀gJ σ' a' w' D' ι',K gJ σ'->Step hs D ι w D' ι' w'->St P hs nt D' ι' gJ σ' a' w'->a'.defers=a.defers->σ.next<=σ'.next->Q .normal a' w')->tV P ops Q (List.range' j l.length) a w:=by
 intro l
 induction l with
 |nil=>
  intro vl j env σ a w D ι _ h hv S Us E eT hQ
  simp[allM]at h;subst h
  exact Lz (hQ env ⟨σ.get,σ.next+1⟩ a w D ι hv (Step.refl _ _ _ _) ⟨S,Us.next,E,eT⟩ rfl (Nat.le_succ _))
 |cons o l ih=>
  intro vl j env σ a w D ι hl h hv S Us E eT hQ
  simp only[allM,Option.bind_eq_bind,Option.bind_eq_some_iff,Option.pure_def,Option.some.injEq]at h
  obtain⟨vo,nV,qE,p4,rfl⟩:=h
  obtain⟨hc,hd,yL,uf,hg⟩:=ny nV
  obtain⟨NL,hv⟩:=hv
  have QN:o.guard=none:=by
   split at hg
   ·assumption
   ·obtain⟨t,_,h⟩:=hg
    rw[NL]at h;cases h
  have QO:ops[j]? =some o:=by
   have h0:=congrArg (fun x=>x[0]?) hl
   rw[<-Array.getElem?_toList]
   simpa[List.getElem?_drop]using h0
  have Hv:ops.toList.drop (j+1)=l:=by rw[<-List.drop_drop,hl];rfl
  have go:∀(v:AV) (u:Value) (g2:Rows) (w2:World),cr qE K (upd env vo.dst v) ⟨g2,σ.next⟩->fG P hs D ι g2 w2->Step hs D ι w D ι w2->cv P w2 D ι v u->tV P ops Q (List.range' (j+1) l.length) (a.put o.dst u) w2:=fun v u g2 w2 hn S2 T hR=>
   ih qE (j+1) (upd env vo.dst v) ⟨g2,σ.next⟩ (a.put o.dst u) w2 D ι Hv p4 hn S2 Us (by rw[hd];exact lv (mQ E T) hR uf eT) (by rw[jU];exact eT) fun gJ σ2 a' w3 D3 ι3 hk T2 MU Av lz=>hQ gJ σ2 a' w3 D3 ι3 hk (T.trans T2) MU (Av.trans (put_defers _ _ _)) lz
  rw[show List.range' j (o::l).length=j::List.range' (j+1) l.length from rfl]
  split at hv
  ·rename_i x y dB
   split at hv
   ·rename_i g2 MB
    rw[dB]at hc
    obtain⟨c,cap,s,r,buf,u,gD,hb,fc,S2,T⟩:=M6 S hc E MB
    exact IX QO QN gD hb fc (go _ _ _ _ hv S2 T cv.undef)
   ·exact hv.elim
  ·rename_i x dB
   split at hv
   ·rename_i v g2 MB
    rw[dB]at hc
    obtain⟨c,cap,s,r,buf,z,gD,hb,F2,S2,T,hR⟩:=M5 S hc E MB
    exact IW QO QN gD hb F2 (go _ _ _ _ hv S2 T hR)
   ·exact hv.elim
  ·split at hv
   ·rename_i v hq
    obtain⟨u,gD,hR⟩:=vD hc hq S E
    exact GC QO QN gD (go _ _ _ _ hv S (Step.refl _ _ _ _) hR)
   ·exact hv.elim
end
end Go.Proofs.YtihgaadadaekmaaGreatDoor.V

namespace Go.Proofs.YtihgaadadaekmaaGreatDoor.V
open Go.RowKit
variable {P:Program} {w w':World} {D D' D2:Nat->Prop} {ι ι' ι2:Names}
section
variable {hs:Nat} {X:eW}
def exO:Ex->Exit
 | .normal=>.normal
 | .exit id=>.exit id
 | .ret=>.ret
theorem St.drew {nt:Nat} {env:Env} {σ:ax} {a:Act} {D:Nat->Prop} {ι:Names} (h:St P hs nt D ι env σ a w):St P hs nt D ι env σ a w.drew/\Step hs D ι w D ι w.drew:=by
 have T:Step hs D ι w D ι w.drew:=Step.stay h.HA (fun _ _=>rfl) (Nat.le_refl _) rfl rfl rfl (fun _ h=>h) (fun _ h=>.inl h) (fun _ _ h=>h)
 exact⟨⟨h.HA.stay (fun _ _=>rfl) (Nat.le_refl _) (fun _ h=>h) h.HA.dead (fun _ h=>.inl h) (fun _ _ h=>h),h.used,mQ h.env T,h.size⟩,T⟩
def uE (P:Program) (hs nt:Nat) (ds:List Deferred) (Q:Ex->Env->ax->Prop) (n0:Nat) (D:Nat->Prop) (ι:Names) (w:World) (Q':Exit->Act->World->Prop):Prop:=
 ∀ex env σ a w' D' ι',Q ex env σ->Step hs D ι w D' ι' w'->St P hs nt D' ι' env σ a w'->a.defers=ds->n0<=σ.next->Q' (exO ex) a w'
theorem uE.later {nt:Nat} {ds:List Deferred} {Q:Ex->Env->ax->Prop} {n0 n1:Nat} {Q':Exit->Act->World->Prop} (h:uE P hs nt ds Q n0 D ι w Q') (T:Step hs D ι w D' ι' w') (hn:n0<=n1):uE P hs nt ds Q n1 D' ι' w' Q':=
 fun ex env σ a w2 D2 ι2 hq T2 dS hd hle=>h ex env σ a w2 D2 ι2 hq (T.trans T2) dS hd (Nat.le_trans hn hle)
theorem zY (hm:P.follows .mixedOrders=true) {md:List (Nat×Nat)} {nt sF:Nat}:∀(c:Code) (vc:VC),g9 P md nt sF c=some vc->∀(Q:Ex->Env->ax->Prop) (env:Env) (σ:ax) (a:Act) (w:World) (D:Nat->Prop) (ι:Names) (Q':Exit->Act->World->Prop),
  dO (Sound P) vc Q env σ->St P hs nt D ι env σ a w->uE P hs nt a.defers Q σ.next D ι w Q'->zy P c Q' a w:=by
 intro c
 induction c with
 |skip=>
  intro vc h Q env σ a w D ι Q' hv dS hQ
  simp[g9]at h;subst h
  exact oM <| wp_skip (hQ .normal env σ a w D ι hv (Step.refl _ _ _ _) dS rfl (Nat.le_refl _))
 |exit id=>
  intro vc h Q env σ a w D ι Q' hv dS hQ
  simp[g9]at h;subst h
  exact oM <| wp_exit (hQ (.exit id) env σ a w D ι hv (Step.refl _ _ _ _) dS rfl (Nat.le_refl _))
 |ret=>
  intro vc h Q env σ a w D ι Q' hv dS hQ
  simp[g9]at h;subst h
  exact oM <| wp_ret (hQ .ret env σ a w D ι hv (Step.refl _ _ _ _) dS rfl (Nat.le_refl _))
 |seq x y ihx ihy=>
  intro vc h Q env σ a w D ι Q' hv dS hQ
  simp only[g9,Option.bind_eq_bind,Option.bind_eq_some_iff,Option.pure_def,Option.some.injEq]at h
  obtain⟨vx,hx,vy,hy,rfl⟩:=h
  refine IS (ihx vx hx _ env σ a w D ι _ hv dS fun ex jm σ1 a1 w1 D1 ι1 hq T jE hd hle=>?_)
  cases ex with
  |normal=>exact ihy vy hy Q jm σ1 a1 w1 D1 ι1 Q' hq jE (by rw[hd];exact hQ.later T hle)
  |exit id=>exact hQ (.exit id) jm σ1 a1 w1 D1 ι1 hq T jE hd hle
  |ret=>exact hQ .ret jm σ1 a1 w1 D1 ι1 hq T jE hd hle
 |cond c x y ihx ihy=>
  intro vc h Q env σ a w D ι Q' hv dS hQ
  simp only[g9,Option.bind_eq_bind,Option.bind_eq_some_iff,Option.pure_def,Option.some.injEq]at h
  obtain⟨c',hc,vx,hx,vy,hy,rfl⟩:=h
  unfold dO at hv
  have hr:=cC dS.env hc
  split at hv
  ·rename_i b hb
   rw[hb]at hr
   refine Gw (eH hr) ?_
   cases b with
   |true=>exact ihx vx hx Q env σ a w D ι Q' hv dS hQ
   |false=>exact ihy vy hy Q env σ a w D ι Q' hv dS hQ
  ·exact hv.elim
 |block id c ih=>
  intro vc h Q env σ a w D ι Q' hv dS hQ
  simp only[g9,Option.map_eq_some_iff]at h
  obtain⟨vx,hx,rfl⟩:=h
  refine D7 (ih vx hx _ env σ a w D ι _ hv dS fun ex jm σ1 a1 w1 D1 ι1 hq T jE hd hle=>?_)
  cases ex with
  |normal=>exact hQ .normal jm σ1 a1 w1 D1 ι1 hq T jE hd hle
  |ret=>exact hQ .ret jm σ1 a1 w1 D1 ι1 hq T jE hd hle
  |exit jP=>
   simp only[bl]at hq
   simp only[exO,Exit.inBlock]
   by_cases hid:jP=id
   ·rw[if_pos hid]at hq ⊢;exact hQ .normal jm σ1 a1 w1 D1 ι1 hq T jE hd hle
   ·rw[if_neg hid]at hq ⊢;exact hQ (.exit jP) jm σ1 a1 w1 D1 ι1 hq T jE hd hle
 |loop c ih=>
  intro vc h Q env σ a w D ι Q' hv dS hQ
  simp only[g9,Option.map_eq_some_iff]at h
  obtain⟨vx,hx,rfl⟩:=h
  obtain⟨n,hv⟩:=hv
  refine Gx n ?_
  have key:∀n env σ a w D ι,Ct (dO (Sound P) vx) Q n env σ->St P hs nt D ι env σ a w->uE P hs nt a.defers Q σ.next D ι w Q'->r8 P c Q' n a w:=by
   intro n
   induction n with
   |zero=>intro env σ a w D ι h;exact h.elim
   |succ n ihn=>
    intro env σ a w D ι h dS hQ
    refine ih vx hx _ env σ a w D ι _ h dS fun ex jm σ1 a1 w1 D1 ι1 hq T jE hd hle=>?_
    cases ex with
    |normal=>exact ihn jm σ1 a1 w1 D1 ι1 hq jE (by rw[hd];exact hQ.later T hle)
    |exit id=>exact hQ (.exit id) jm σ1 a1 w1 D1 ι1 hq T jE hd hle
    |ret=>exact hQ .ret jm σ1 a1 w1 D1 ι1 hq T jE hd hle
  exact key n env σ a w D ι hv dS hQ
 |region id ops draw=>
  intro vc h Q env σ a w D ι Q' hv dS hQ
  simp only[g9,M4]at h
  split at h
  ·rename_i hmode
   have Qp:draw=true:=by
    simp only[Bool.and_eq_true]at hmode;exact hmode.1
   subst Qp
   split at h
   ·rename_i vl cN
    obtain⟨po,T0⟩:=dS.drew
    have Ao:=Ey (X:=Sound P) oq ops.size _ vc env σ h (fun k i h=>by
     exfalso
     rcases Nat.lt_or_ge k ops.size with hk|hk
     ·simp[hk]at h
     ·simp[Nat.not_lt.2 hk]at h) hv
    refine oM (wp_region_any hm ?_)
    exact BH cN ops.size _ env σ a w.drew D ι (fun _=>False) Ao po.HA po.used (fun _ h=>h.elim) po.env po.size fun jm σ1 a1 w1 D1 ι1 hk T jE hd hle=>hQ .normal jm σ1 a1 w1 D1 ι1 hk (T0.trans T) jE hd hle
   ·cases h
  split at h
  ·rename_i hcom
   have Qp:draw=false:=by
    simp only[Bool.and_eq_true,Bool.not_eq_true']at hcom;exact hcom.1
   subst Qp
   simp only[Option.map_eq_some_iff]at h
   obtain⟨vl,p4,rfl⟩:=h
   have cN:allM (kS P ops nt ((sF*1000+id)*1000) false false #[] []) ops.toList 0=some vl:=by
    unfold pb at p4
    simp only[Bool.false_eq_true,if_false,Bool.not_false,Bool.true_or,if_true]at p4
    split at p4
    ·rename_i qE h;simp at p4;subst p4;exact h
    ·cases p4
   refine Bb ?_
   have:=C2 (Q:=Q') ops.toList vl 0 env σ a w D ι rfl cN hv dS.HA dS.used dS.env dS.size fun jm σ1 a1 w1 D1 ι1 hk T jE hd hle=>hQ .normal jm σ1 a1 w1 D1 ι1 hk T jE hd hle
   rwa [<-List.range_eq_range',Array.length_toList]at this
  generalize (s9 md id==1)=mk at h
  simp only[Option.map_eq_some_iff]at h
  obtain⟨vl,p4,rfl⟩:=h
  cases draw with
  |false=>
   have cN:∃qE,allM (kS P ops nt ((sF*1000+id)*1000) false mk #[] []) ops.toList 0=some qE/\vl=qE:=by
    unfold pb at p4
    simp only[Bool.false_eq_true,if_false,Bool.not_false,Bool.true_or,if_true]at p4
    split at p4
    ·rename_i qE h;simp at p4;exact⟨qE,h,p4.symm⟩
    ·cases p4
   obtain⟨qE,cN,rfl⟩:=cN
   refine oM (wp_region_list ?_)
   exact Ea ops.toList vl 0 env σ a w D ι (fun _=>False) cN hv dS.HA dS.used (fun _ h=>h.elim) dS.env dS.size fun jm σ1 a1 w1 D1 ι1 hk T jE hd hle=>hQ .normal jm σ1 a1 w1 D1 ι1 hk T jE hd hle
  |true=>
   have cN:∃hidden qE,allM (kS P ops nt ((sF*1000+id)*1000) true mk (iP ops) hidden) ops.toList 0=some qE/\vl=qE/\mP ops qE (iP ops)=true:=by
    unfold pb at p4
    simp only[if_true,Bool.not_true,Bool.false_or]at p4
    split at p4
    ·rename_i qE h
     split at p4
     ·rename_i sU;simp at p4;exact⟨_,qE,h,p4.symm,sU⟩
     ·cases p4
    ·cases p4
   obtain⟨hidden,qE,cN,rfl,sU⟩:=cN
   obtain⟨po,T0⟩:=dS.drew
   obtain⟨hlen,_⟩:=mE cN
   have jN:vl.length=ops.size:=by rw[hlen];simp
   have Ao:=tM (X:=Sound P) (K:=Q .normal) (n:=σ.next) sU jN vl 0 (Array.replicate ops.size false) env σ.get (by simp) (by simp) (fun i hi=>by simp[hi]) (by simp[jN]) (fun k i h=>by
    exfalso
    rcases Nat.lt_or_ge k ops.size with hk|hk
    ·simp[hk]at h
    ·simp[Nat.not_lt.2 hk]at h) hv
   refine oM (wp_region_any hm ?_)
   rw[jN]at Ao
   exact uF cN ops.size _ env σ.get a w.drew D ι (fun _=>False) Ao po.HA po.used (fun _ h=>h.elim) po.env po.size fun jm g1 a1 w1 D1 ι1 U1 hk T S1 PF E1 xw hd=>hQ .normal jm ⟨g1,σ.next+1⟩ a1 w1 D1 ι1 hk (T0.trans T) ⟨S1,PF.next,E1,xw⟩ hd (Nat.le_succ _)
 |label l=>
  intro vc h Q env σ a w D ι Q' hv dS hQ
  simp[g9]at h;subst h
  exact oM <| wp_label (hQ .normal env σ a w D ι hv (Step.refl _ _ _ _) dS rfl (Nat.le_refl _))
 |scope c ih=>
  intro vc h Q env σ a w D ι Q' hv dS hQ
  simp only[g9]at h
  refine D8 (ih vc h Q env σ a w D ι _ hv dS fun ex jm σ1 a1 w1 D1 ι1 hq T jE hd hle=>?_)
  have h1:=hQ ex jm σ1 a1 w1 D1 ι1 hq T jE hd hle
  cases ex with
  |normal=>exact h1
  |exit id=>exact h1
  |ret=>exact h1
 |_=>
  intro vc h
  simp[g9]at h
def GI (tmps:Array Value):ResultVar->Sem Value
 | .tmp t=>pure (tmps.getD t undef)
 | .cell a t=>do loadVar t (<-asAddr (tmps.getD a undef))
theorem Bk (fn:Func) (tmps:Array Value):results fn tmps=(do
  let vs <-fn.results.mapM (GI tmps)
  pure (if h:vs.size=1 then vs[0]else .tuple vs)):=by
 unfold results
 congr 2
theorem rl {nt:Nat} {env:Env} {σ:ax} {a:Act} {D:Nat->Prop} {ι:Names} (dS:St P hs nt D ι env σ a w):∀(rs:List ResultVar) (vr:List nP) (vs:List AV),rs.mapM (CZ P)=some vr->eR env σ.get vr=some vs->
  ∃us:List Value,(rs.mapM (GI a.tmps)).run P w=.ok us w/\us.length=vs.length/\∀(j:Nat) (v:AV),vs[j]? =some v->∃u,us[j]? =some u/\cv P w D ι v u
 |[],vr,vs,h,hv=>by
  simp at h;subst h
  simp[eR]at hv;subst hv
  exact⟨[],by simp,rfl,fun j v h=>by simp at h⟩
 |r::rs,vr,vs,h,hv=>by
  simp only[List.mapM_cons,Option.bind_eq_bind,Option.bind_eq_some_iff]at h
  obtain⟨x,hx,vr',hr,h⟩:=h
  simp at h;subst h
  simp only[eR,Option.bind_eq_some_iff,Option.map_eq_some_iff]at hv
  obtain⟨v,u6,vs',N8,rfl⟩:=hv
  obtain⟨us,h1,h2,h3⟩:=rl dS rs vr' vs' hr N8
  have one:∃u,(GI a.tmps r).run P w=.ok u w/\cv P w D ι v u:=by
   cases r with
   |tmp t=>
    simp[CZ]at hx;subst hx
    simp[gI]at u6;subst u6
    exact⟨_,rfl,dS.env t⟩
   |cell b t=>
    simp only[CZ,Option.bind_eq_bind,Option.bind_eq_some_iff,Option.pure_def,Option.some.injEq]at hx
    obtain⟨ag,rZ,n,hn,rfl⟩:=hx
    simp only[gI]at u6
    have fY:=dS.env b
    unfold ld at u6
    split at u6
    ·rename_i jP i' oo hb
     rw[hb]at fY
     obtain⟨B,he,hB,hk⟩:=iJ fY
     simp only[Option.bind_eq_some_iff]at u6
     obtain⟨cs,dh,hp⟩:=u6
     obtain⟨B',r0,EH,dk,R,hi,fl,f,hf⟩:=GL (S:=dS.HA) dh (fun B2 h2=>by rw[hB]at h2;injection h2 with h2;subst h2;exact hk)
     rw[hB]at dk;injection dk with dk;subst dk
     obtain⟨u,k1,k2⟩:=jG (w:=w) (b:=B.b) (oo:=i'*B.sz+oo) (f:=fun j=>f (oo+j)) rZ hn hp (fun a ha=>fl a (List.mem_of_mem_drop ha)) (fun j hj=>by
      rw[Nat.add_assoc];exact(hf _ (by simp at hj;omega)).1) (fun j a ha=>by
      simp at ha;exact(hf _ ((List.getElem?_eq_some_iff.1 ha).1)).2 _ ha)
     exact⟨u,by simp only[GI,he,asAddr,Sem.run_bind,Sem.run_pure,Result.andThen_ok,k1],k2⟩
    ·rename_i cs hb
     rw[hb]at fY
     obtain⟨b',oo,vs2,he,q1,q2,q3,q4⟩:=jX fY
     obtain⟨u,k1,k2⟩:=jG (w:=w) (b:=b') (oo:=oo) (f:=vs2) rZ hn u6 q2 q3 (fun j a ha=>.ew _ _ (q4 j a ha))
     exact⟨u,by simp only[GI,he,asAddr,Sem.run_bind,Sem.run_pure,Result.andThen_ok,k1],k2⟩
    ·simp at u6
  obtain⟨u,hu,uo⟩:=one
  refine⟨u::us,?_,by simp[h2],fun j v' hj=>?_⟩
  ·rw[List.mapM_cons]
   simp only[Sem.run_bind,hu,h1,Result.andThen_ok,Sem.run_pure]
  ·cases j with
   |zero=>simp at hj;subst hj;exact⟨u,rfl,uo⟩
   |succ j=>simp at hj ⊢;exact h3 j v' hj
theorem zS {f:Nat} {fn:Func} {c:Code} {args:List AV} {σ:ax} {K:AV->ax->Prop} {vr:List nP} (Mr:P.funcs[f]? =some fn) (hc:fn.body=some c) (hr:fn.results.toList.mapM (CZ P)=some vr) (ha:fn.params.size+fn.nfree=args.length) (hle:fn.params.size+fn.nfree<=fn.ntmps)
  (h:∀(hs:Nat) (w:World) (D:Nat->Prop) (ι:Names) (a:Act) (Q':Exit->Act->World->Prop),St P hs fn.ntmps D ι (cm args) σ a w->uE P hs fn.ntmps a.defers (kF vr K) σ.next D ι w Q'->zy P c Q' a w):Sound P f args σ K:=by
 intro hs D ι w vs S Us A
 have eT:vs.size=args.length:=A.1
 refine vW Mr hc ?_
 refine h hs w D ι _ _ ⟨S,Us,fun t=>?_,by simp;omega⟩ fun ex jm σ1 a1 w1 D1 ι1 hq T jE hd hle=>?_
 ·simp only[cm]
  by_cases dD:t<args.length
  ·obtain⟨u,hu,uo⟩:=A.2 t args[t] (List.getElem?_eq_getElem dD)
   have e1:args.getD t .undef=args[t]:=by simp[List.getD_eq_getElem?_getD,dD]
   have e2:(vs++Array.replicate (fn.ntmps-vs.size) undef).getD t undef=u:=by
    simp only[Array.getD_eq_getD_getElem?]
    rw[Array.getElem?_append_left ab,hu];rfl
   rw[e1,e2];exact uo
  ·have e1:args.getD t .undef=.undef:=by simp[List.getD_eq_getElem?_getD,Nat.le_of_not_lt dD]
   have e2:(vs++Array.replicate (fn.ntmps-vs.size) undef).getD t undef=undef:=by
    simp only[Array.getD_eq_getD_getElem?]
    rw[Array.getElem?_append_right ab,Array.getElem?_replicate]
    split<;>rfl
   rw[e1,e2];exact cv.undef
 ·have fin:(∃vs,eR jm σ1.get vr=some vs/\K (dJ vs) σ1)->a1.defers=[]/\∃v,(results fn a1.tmps).run P w1=.ok v w1/\∃r g' n' D' ι' u,Ending.returned v=.returned u/\K r ⟨g',n'⟩/\Step hs D ι w D' ι' w1/\fG P hs D' ι' g' w1/\Used ι' n' (fun _=>False)/\σ.next<=n'/\cv P w1 D' ι' r u:=by
   rintro⟨avs,N8,hK⟩
   obtain⟨us,h1,h2,h3⟩:=rl jE fn.results.toList vr avs hr N8
   have Lc:(results fn a1.tmps).run P w1=.ok (if h:us.toArray.size=1 then us.toArray[0]else .tuple us.toArray) w1:=by
    rw[Bk,Array.mapM_eq_mapM_toList]
    simp only[Sem.run_bind,Sem.run_map,h1,Result.andThen_ok,Sem.run_pure]
   refine⟨hd,_,Lc,dJ avs,σ1.get,σ1.next,D1,ι1,_,rfl,hK,T,jE.HA,jE.used,hle,?_⟩
   unfold dJ
   split
   ·rename_i v
    have hl:us.length=1:=h2
    obtain⟨u,hu,uo⟩:=h3 0 v rfl
    rw[dif_pos (by simpa using hl)]
    have:us.toArray[0]'(by simp[hl])=u:=by
     have:=(List.getElem?_eq_some_iff.1 hu).2
     simpa using this
    rw[this];exact uo
   ·rename_i gF
    rw[dif_neg (by
     simp only[List.size_toArray,h2]
     intro h
     obtain⟨v,hv⟩:=List.length_eq_one_iff.1 h
     exact gF v hv)]
    exact .gU _ _ (fun j=>us.getD j undef) (by simp[h2]) (fun j hj=>by
     have:j<us.length:=by rw[h2];exact hj
     simp[this]) (fun j v hj=>by
     obtain⟨u,hu,uo⟩:=h3 j v hj
     simpa[List.getD_eq_getElem?_getD,hu]using uo)
  cases ex with
  |normal=>exact fin hq
  |ret=>exact fin hq
  |exit id=>exact hq.elim
theorem FC (hm:P.follows .mixedOrders=true) {f:Nat} {md:List (Nat×Nat)} {vf:xj} {args:List AV} {σ:ax} {K:AV->ax->Prop} (hf:ua P f md=some vf) (ha:vf.vq=args.length) (h:dO (Sound P) vf.body (kF vf.res K) (cm args) σ):Sound P f args σ K:=by
 unfold ua at hf
 split at hf
 ·rename_i fn Mr
  split at hf
  ·rename_i c hc
   simp only[Option.bind_eq_bind,Option.bind_eq_some_iff]at hf
   obtain⟨vb,hb,vr,hr,hf⟩:=hf
   split at hf
   ·rename_i hle
    simp only[Option.pure_def,Option.some.injEq]at hf
    subst hf
    simp only at ha h
    exact zS Mr hc hr ha hle fun hs w D ι a Q' dS hQ=>zY hm c vb hb (kF vr K) (cm args) σ a w D ι Q' h dS hQ
   ·simp at hf
  ·simp at hf
 ·simp at hf
def JX (P:Program) (X:eW):eW:=fun f args σ K=>(∃md vf,ua P f md=some vf/\vf.vq=args.length/\((∀a∈args,dZ a)->dO X vf.body (kF vf.res K) (cm args) σ))∨Sound P f args σ K
def Call (P:Program):eW:=fun f args σ K=>∀X:eW,nX X->(∀f args σ K,JX P X f args σ K->X f args σ K)->X f args σ K
theorem gr (hm:P.follows .mixedOrders=true) {f:Nat} {args:List AV} {σ:ax} {K:AV->ax->Prop} (h:Call P f args σ K):Sound P f args σ K:=
 h (Sound P) oq fun f args σ K hs=>by
  rcases hs with⟨md,vf,h1,h2,h3⟩|h
  ·intro hs D ι w vs S U A
   exact FC hm h1 h2 (h3 (m7 fun j a hj=>by obtain⟨u,_,hr⟩:=A.2 j a hj;exact hr.Gc)) hs D ι w vs S U A
  ·exact h
end
end Go.Proofs.YtihgaadadaekmaaGreatDoor.V

namespace Go.Proofs.YtihgaadadaekmaaGreatDoor.V
open Go.RowKit
variable {P:Program} {X Y:eW}
theorem EY (h:∀f args σ K,X f args σ K->Y f args σ K) {f:Nat} {args:List AV} {σ:ax} {K:AV->Prop} (hp:gO X f args σ K):gO Y f args σ K:=by
 rcases hp with hp|⟨a,h1,h2⟩
 ·exact .inl (h _ _ _ _ hp)
 ·exact .inr ⟨a,h1,h _ _ _ _ h2⟩
theorem HC (h:∀f args σ K,X f args σ K->Y f args σ K) {f:Nat} {args:List AV} {σ:ax} {sz:Nat} {rows:List (List AV)} (hp:CM X f args σ sz rows):CM Y f args σ sz rows:=by
 obtain⟨h1,a,h2,h3⟩:=hp
 exact⟨h1,a,h2,h _ _ _ _ h3⟩
theorem ow (h:∀f args σ K,X f args σ K->Y f args σ K) (hK:∀f args σ K K',(∀r σ',K r σ'->K' r σ')->Y f args σ K->Y f args σ K') {draw:Bool} {hid:List Nat} {site:Nat} {f:Nat} {args:List AV} {σ:ax} {n n':AV->ax->Prop} (hn:∀v σ',n v σ'->n' v σ') (hp:cE X draw hid site f args σ n):cE Y draw hid site f args σ n':=by
 rcases hp with⟨r,h1,h2⟩|⟨h1,h2⟩|⟨h1,sz,rows,h2,h3⟩
 ·exact .inl ⟨r,EY h h1,hn _ _ h2⟩
 ·exact .inr (.inl ⟨h1,hK _ _ _ _ _ hn (h _ _ _ _ h2)⟩)
 ·exact .inr (.inr ⟨h1,sz,rows,HC h h2,hn _ _ h3⟩)
theorem pV (h:∀f args σ K,X f args σ K->Y f args σ K) (hK:∀f args σ K K',(∀r σ',K r σ'->K' r σ')->Y f args σ K->Y f args σ K') {draw:Bool} {o:aW} {env:Env} {σ:ax} {n n':AV->ax->Prop} (hn:∀v σ',n v σ'->n' v σ') (hp:fF X draw o env σ n):fF Y draw o env σ n':=by
 unfold fF at hp ⊢
 split at hp
 ·exact ow h hK hn hp
 ·split at hp
  ·exact ow h hK hn hp
  ·exact ow h hK hn hp
  ·exact hp.elim
 ·split at hp
  ·exact hn _ _ hp
  ·exact hp.elim
 ·split at hp
  ·exact hn _ _ hp
  ·exact hp.elim
 ·split at hp
  ·exact hn _ _ hp
  ·exact hp.elim
 ·split at hp
  ·exact hn _ _ hp
  ·exact hp.elim
 ·split at hp
  ·exact hn _ _ hp
  ·exact hp.elim
 ·split at hp
  ·exact hn _ _ hp
  ·exact hn _ _ hp
  ·exact hp.elim
theorem lP (h:∀f args σ K,X f args σ K->Y f args σ K) (hK:∀f args σ K K',(∀r σ',K r σ'->K' r σ')->Y f args σ K->Y f args σ K') {draw:Bool} {Q Q':Env->ax->Prop} (hQ:∀e s,Q e s->Q' e s):∀(l:List aW) (env:Env) (σ:ax),wpOps X draw l Q env σ->wpOps Y draw l Q' env σ
 |[],env,σ,hp=>hQ _ _ hp
 |o::r,env,σ,hp=>by
  unfold wpOps at hp ⊢
  split at hp
  ·rename_i hw;rw[if_pos hw];exact pV h hK (fun v σ'=>lP h hK hQ r _ _) hp
  ·rename_i hw;rw[if_neg hw];exact lP h hK hQ r _ _ hp
theorem lO {Q Q':Env->ax->Prop} (hQ:∀e s,Q e s->Q' e s):∀(l:List aW) (env:Env) (σ:ax),cr l Q env σ->cr l Q' env σ
 |[],env,σ,hp=>hQ _ _ hp
 |o::r,env,σ,hp=>by
  unfold cr at hp ⊢
  refine⟨hp.1,?_⟩
  replace hp:=hp.2
  split at hp
  ·split at hp
   ·exact lO hQ r _ _ hp
   ·exact hp.elim
  ·split at hp
   ·exact lO hQ r _ _ hp
   ·exact hp.elim
  ·split at hp
   ·exact lO hQ r _ _ hp
   ·exact hp.elim
theorem j7 (h:∀f args σ K,X f args σ K->Y f args σ K) (hK:∀f args σ K K',(∀r σ',K r σ'->K' r σ')->Y f args σ K->Y f args σ K'):∀(c:VC) (Q Q':Ex->Env->ax->Prop) (env:Env) (σ:ax),(∀x e s,Q x e s->Q' x e s)->dO X c Q env σ->dO Y c Q' env σ:=by
 intro c
 induction c with
 |skip=>intro Q Q' env σ hQ hp;exact hQ _ _ _ hp
 |exit id=>intro Q Q' env σ hQ hp;exact hQ _ _ _ hp
 |ret=>intro Q Q' env σ hQ hp;exact hQ _ _ _ hp
 |one o c ih=>
  intro Q Q' env σ hQ hp
  unfold dO at hp ⊢
  split at hp
  ·rename_i hw;rw[if_pos hw];exact pV h hK (fun v σ'=>ih Q Q' _ _ hQ) hp
  ·rename_i hw;rw[if_neg hw];exact ih Q Q' _ _ hQ hp
 |both a b iha ihb=>intro Q Q' env σ hQ hp;exact⟨iha Q Q' env σ hQ hp.1,ihb Q Q' env σ hQ hp.2⟩
 |loc t s y c ih=>intro Q Q' env σ hQ hp;exact⟨hp.1,ih Q Q' env σ hQ hp.2⟩
 |Kp ops=>intro Q Q' env σ hQ hp;exact lO (hQ .normal) ops env σ hp
 |eb draw ops=>intro Q Q' env σ hQ hp;exact lP h hK (hQ .normal) ops env σ hp
 |seq a b iha ihb=>
  intro Q Q' env σ hQ hp
  refine iha _ _ env σ (fun x e s hx=>?_) hp
  cases x with
  |normal=>exact ihb Q Q' e s hQ hx
  |exit id=>exact hQ _ _ _ hx
  |ret=>exact hQ _ _ _ hx
 |cond c a b iha ihb=>
  intro Q Q' env σ hQ hp
  unfold dO at hp ⊢
  split at hp
  ·rename_i t ht
   cases t with
   |true=>exact iha Q Q' env σ hQ hp
   |false=>exact ihb Q Q' env σ hQ hp
  ·exact hp.elim
 |block id a iha=>
  intro Q Q' env σ hQ hp
  refine iha _ _ env σ (fun x e s hx=>?_) hp
  cases x with
  |normal=>exact hQ _ _ _ hx
  |ret=>exact hQ _ _ _ hx
  |exit jP=>
   unfold bl at hx ⊢
   dsimp only at hx ⊢
   split at hx
   ·rename_i hid;rw[if_pos hid];exact hQ _ _ _ hx
   ·rename_i hid;rw[if_neg hid];exact hQ _ _ _ hx
 |loop a iha=>
  intro Q Q' env σ hQ hp
  obtain⟨n,hp⟩:=hp
  refine⟨n,?_⟩
  induction n generalizing env σ with
  |zero=>exact hp
  |succ n ihn=>
   refine iha _ _ env σ (fun x e s hx=>?_) hp
   cases x with
   |normal=>exact ihn e s hx
   |exit id=>exact hQ _ _ _ hx
   |ret=>exact hQ _ _ _ hx
theorem aO:nX (Call P):=fun _ _ _ _ _ hK h X hX hc=>hX _ _ _ _ _ hK (h X hX hc)
theorem uB {f:Nat} {args:List AV} {σ:ax} {K:AV->ax->Prop} (h:JX P (Call P) f args σ K):Call P f args σ K:=by
 intro X hX hc
 refine hc _ _ _ _ ?_
 rcases h with⟨md,vf,h1,h2,h3⟩|h
 ·exact .inl ⟨md,vf,h1,h2,fun hl=>j7 (fun f args σ K h=>h X hX hc) hX _ _ _ _ _ (fun _ _ _ h=>h) (h3 hl)⟩
 ·exact .inr h
theorem sg {f:Nat} {md:List (Nat×Nat)} {args:List AV} {σ:ax} {K:AV->ax->Prop} {vf:xj} (hf:ua P f md=some vf) (ha:vf.vq=args.length) (h:(∀a∈args,dZ a)->dO (Call P) vf.body (kF vf.res K) (cm args) σ):Call P f args σ K:=
 uB (.inl ⟨md,vf,hf,ha,h⟩)
theorem kO {f:Nat} {args:List AV} {σ:ax} {K:AV->ax->Prop} {vf:xj} (hf:lr P f=some vf) (ha:vf.vq=args.length) (h:(∀a∈args,dZ a)->dO (Call P) vf.body (kF vf.res K) (cm args) σ):Call P f args σ K:=
 sg hf ha h
theorem gV {f:Nat} {args:List AV} {σ:ax} {K:AV->ax->Prop} (h:Sound P f args σ K):Call P f args σ K:=uB (.inr h)
def jy (P:Program) (f:Nat) (args:List AV) (r:AV):Prop:=∀σ,PC (Call P) f args σ (fun r'=>r'=r)
theorem jy.body {f:Nat} {args:List AV} {r:AV} {nt na:Nat} {body:VC} {res:List nP} (hf:lr P f=some ⟨nt,na,body,res⟩) (ha:na=args.length) (h:(∀a∈args,dZ a)->∀σ:ax,dO (Call P) body (kF res fun r0 σ'=>∃r',fz σ'.get 6 r0=some r'/\r'=r) (cm args) ⟨V.ro σ.get,σ.next⟩):jy P f args r:=fun σ=>kO hf ha fun hl=>h hl σ
variable {Q:Ex->Env->ax->Prop} {K:Env->ax->Prop} {env:Env} {σ:ax}
theorem CK {a b:VC} (h:∀N:Env->ax->Prop,(∀e s,dO X b Q e s->N e s)->dO X a (dz N Q) env σ):dO X (.seq a b) Q env σ:=h _ fun _ _ h=>h
theorem xh (h:Q .normal env σ):dO X .skip Q env σ:=h
theorem xf {id:Nat} (h:Q (.exit id) env σ):dO X (.exit id) Q env σ:=h
theorem CJ (h:Q .ret env σ):dO X .ret Q env σ:=h
theorem sa {id:Nat} {c:VC} (h:dO X c (bl id Q) env σ):dO X (.block id c) Q env σ:=h
theorem CH {o:aW} {c:VC} (h:∀N:AV->ax->Prop,(∀v s,dO X c Q (upd env o.dst v) s->N v s)->if aH o.guard env then fF X false o env σ N else N .undef σ):dO X (.one o c) Q env σ:=by
 have:=h (fun v s=>dO X c Q (upd env o.dst v) s) fun _ _ h=>h
 unfold dO
 split
 ·rename_i hw;rw[if_pos hw]at this;exact this
 ·rename_i hw;rw[if_neg hw]at this;exact this
def eA (s n:Nat):AV->Prop
 | .own id 0 _=>id=⟨s,n⟩
 |_=>False
def eE (n:Nat):AV->Prop
 | .own id _ _=>¬id.bZ=n
 |_=>True
theorem xg {t s:Nat} {y:O} {c:VC} (h1:eA s σ.next (env t)) (h2:eE σ.next (cu env y)) (h:dO X c Q env σ):dO X (.loc t s y c) Q env σ:=by
 refine⟨⟨?_,fun id o l he=>?_⟩,h⟩
 ·revert h1
  unfold eA
  split
  ·rename_i id l he;rintro rfl;exact⟨l,he⟩
  ·exact fun h=>h.elim
 ·rw[he]at h2;exact h2
theorem eI {a b:VC} (ha:dO X a Q env σ) (hb:dO X b Q env σ):dO X (.both a b) Q env σ:=⟨ha,hb⟩
theorem CI {draw:Bool} {ops:List aW} (h:∀N:Env->ax->Prop,(∀e s,Q .normal e s->N e s)->wpOps X draw ops N env σ):dO X (.eb draw ops) Q env σ:=h _ fun _ _ h=>h
theorem G9 {ops:List aW} (h:cr ops (Q .normal) env σ):dO X (.Kp ops) Q env σ:=h
theorem CG {draw:Bool} (h:K env ⟨σ.get,σ.next+1⟩):wpOps X draw [] K env σ:=h
theorem LX {draw:Bool} {o:aW} {r:List aW} (h:∀N:AV->ax->Prop,(∀v s,wpOps X draw r K (upd env o.dst v) s->N v s)->if aH o.guard env then fF X draw o env σ N else N .undef σ):wpOps X draw (o::r) K env σ:=by
 have:=h (fun v s=>wpOps X draw r K (upd env o.dst v) s) fun _ _ h=>h
 unfold wpOps
 split
 ·rename_i hw;rw[if_pos hw]at this;exact this
 ·rename_i hw;rw[if_neg hw]at this;exact this
theorem Hb {c:O} {x y:VC} {b:Bool} (hc:cu env c=.bool b) (ht:b=true->dO X x Q env σ) (hf:b=false->dO X y Q env σ):dO X (.cond c x y) Q env σ:=by
 unfold dO
 simp only[hc]
 cases b with
 |true=>exact ht rfl
 |false=>exact hf rfl
inductive mv:AV->Prop->Prop->Prop
 |t {A B:Prop}:A->mv (.bool true) A B
 |f {A B:Prop}:B->mv (.bool false) A B
theorem sb {c:O} {x y:VC} {v:AV} (hv:cu env c=v) (h:mv v (dO X x Q env σ) (dO X y Q env σ)):dO X (.cond c x y) Q env σ:=by
 cases h with
 |t h=>exact Hb hv (fun _=>h) (fun e=>by cases e)
 |f h=>exact Hb hv (fun e=>by cases e) (fun _=>h)
theorem LW {c:VC} (I:Nat->Env->ax->Prop) (n:Nat) (h0:I n env σ) (step:∀n env σ,I n env σ->dO X c (fun x e s=>match x with| .normal=>∃m,m<n/\I m e s|x=>Q x e s) env σ)
  (hX:∀(c:VC) (Q Q':Ex->Env->ax->Prop) env σ,(∀x e s,Q x e s->Q' x e s)->dO X c Q env σ->dO X c Q' env σ):dO X (.loop c) Q env σ:=by
 have key:∀N n env σ,n<N->I n env σ->Ct (dO X c) Q N env σ:=by
  intro N
  induction N with
  |zero=>intro n env σ h;exact absurd h (Nat.not_lt_zero _)
  |succ N ih=>
   intro n env σ hn hI
   refine hX c _ _ env σ (fun x e s hx=>?_) (step n env σ hI)
   cases x with
   |normal=>obtain⟨m,hm,hI'⟩:=hx;exact ih m e s ab hI'
   |exit id=>exact hx
   |ret=>exact hx
 exact⟨n+1,key _ n env σ (Nat.lt_succ_self _) h0⟩
theorem Jf {c:VC} (I:Nat->Env->ax->Prop) (n:Nat) (h0:I n env σ) (step:∀n env σ,I n env σ->dO (Call P) c (fun x e s=>match x with| .normal=>∃m,m<n/\I m e s|x=>Q x e s) env σ):dO (Call P) (.loop c) Q env σ:=
 LW I n h0 step fun c Q Q' env σ hQ h=>j7 (fun _ _ _ _ h=>h) aO c Q Q' env σ hQ h
def BQ:VC->List Nat
 | .eb _ ops=>ops.filterMap (·.dst)
 | .seq a b=>BQ a++BQ b
 | .cond _ a b=>BQ a++BQ b
 | .block _ a=>BQ a
 | .loop a=>BQ a
 | .one o c=>o.dst.toList++BQ c
 | .both a b=>BQ a++BQ b
 | .loc _ _ _ c=>BQ c
 | .Kp ops=>ops.filterMap (·.dst)
 |_=>[]
def ki (l:List Nat) (env gJ:Env):Prop:=∀t,l.contains t=false->gJ t=env t
theorem ki.refl (l:List Nat) (env:Env):ki l env env:=fun _ _=>rfl
theorem ki.upd {l:List Nat} {e e':Env} {d:Option Nat} {v:AV} (h:ki l e e') (hd:∀t,d=some t->t∈l):ki l e (upd e' d v):=fun t ht=>by
 cases d with
 |none=>exact h t ht
 |some d=>
  have:t≠d:=fun hc=>by subst hc;rw[<-Bool.not_eq_true,List.contains_iff_mem]at ht;exact ht (hd _ rfl)
  show(if t=d then v else e' t)=e t
  rw[if_neg this];exact h t ht
theorem nu {draw:Bool} {Q:Env->ax->Prop} {l:List Nat} {e0:Env}:∀(ops:List aW) (env:Env) (σ:ax),(∀t,t∈ops.filterMap (·.dst)->t∈l)->ki l e0 env->wpOps (Call P) draw ops Q env σ->wpOps (Call P) draw ops (fun e s=>Q e s/\ki l e0 e) env σ
 |[],env,σ,_,hk,hp=>⟨hp,hk⟩
 |o::r,env,σ,hl,hk,hp=>by
  have hd:∀t,o.dst=some t->t∈l:=fun t ht=>hl t (List.mem_filterMap.2 ⟨o,by simp,ht⟩)
  have hr:∀t,t∈r.filterMap (·.dst)->t∈l:=fun t ht=>hl t (by
   obtain⟨x,hx,h⟩:=List.mem_filterMap.1 ht
   exact List.mem_filterMap.2 ⟨x,List.mem_cons_of_mem _ hx,h⟩)
  unfold wpOps at hp ⊢
  split at hp
  ·rename_i hw;rw[if_pos hw]
   exact pV (fun _ _ _ _ h=>h) aO (fun v σ' h=>nu r _ _ hr (hk.upd hd) h) hp
  ·rename_i hw;rw[if_neg hw];exact nu r _ _ hr (hk.upd hd) hp
theorem kz {Q:Env->ax->Prop} {l:List Nat} {e0:Env}:∀(ops:List aW) (env:Env) (σ:ax),(∀t,t∈ops.filterMap (·.dst)->t∈l)->ki l e0 env->cr ops Q env σ->cr ops (fun e s=>Q e s/\ki l e0 e) env σ
 |[],env,σ,_,hk,hp=>⟨hp,hk⟩
 |o::r,env,σ,hl,hk,hp=>by
  have hd:∀t,o.dst=some t->t∈l:=fun t ht=>hl t (List.mem_filterMap.2 ⟨o,by simp,ht⟩)
  have hr:∀t,t∈r.filterMap (·.dst)->t∈l:=fun t ht=>hl t (by
   obtain⟨x,hx,h⟩:=List.mem_filterMap.1 ht
   exact List.mem_filterMap.2 ⟨x,List.mem_cons_of_mem _ hx,h⟩)
  unfold cr at hp ⊢
  refine⟨hp.1,?_⟩
  replace hp:=hp.2
  split at hp
  ·split at hp
   ·exact kz r _ _ hr (hk.upd hd) hp
   ·exact hp.elim
  ·split at hp
   ·exact kz r _ _ hr (hk.upd hd) hp
   ·exact hp.elim
  ·split at hp
   ·exact kz r _ _ hr (hk.upd hd) hp
   ·exact hp.elim
theorem ED {l:List Nat} {e0:Env}:∀(c:VC) (Q:Ex->Env->ax->Prop) (env:Env) (σ:ax),(∀t,t∈BQ c->t∈l)->ki l e0 env->dO (Call P) c Q env σ->dO (Call P) c (fun x e s=>Q x e s/\ki l e0 e) env σ:=by
 intro c
 induction c with
 |skip=>intro Q env σ _ hk hp;exact⟨hp,hk⟩
 |exit id=>intro Q env σ _ hk hp;exact⟨hp,hk⟩
 |ret=>intro Q env σ _ hk hp;exact⟨hp,hk⟩
 |one o c ih=>
  intro Q env σ hl hk hp
  have hd:∀t,o.dst=some t->t∈l:=fun t ht=>hl t (List.mem_append_left _ (by rw[ht];simp))
  have hr:∀t,t∈BQ c->t∈l:=fun t ht=>hl t (List.mem_append_right _ ht)
  unfold dO at hp ⊢
  split at hp
  ·rename_i hw;rw[if_pos hw]
   exact pV (fun _ _ _ _ h=>h) aO (fun v σ' h=>ih Q _ _ hr (hk.upd hd) h) hp
  ·rename_i hw;rw[if_neg hw];exact ih Q _ _ hr (hk.upd hd) hp
 |both a b iha ihb=>
  intro Q env σ hl hk hp
  exact⟨iha Q env σ (fun t ht=>hl t (List.mem_append_left _ ht)) hk hp.1,ihb Q env σ (fun t ht=>hl t (List.mem_append_right _ ht)) hk hp.2⟩
 |loc t s y c ih=>intro Q env σ hl hk hp;exact⟨hp.1,ih Q env σ hl hk hp.2⟩
 |Kp ops=>intro Q env σ hl hk hp;exact kz ops env σ hl hk hp
 |eb draw ops=>intro Q env σ hl hk hp;exact nu ops env σ hl hk hp
 |seq a b iha ihb=>
  intro Q env σ hl hk hp
  refine j7 (fun _ _ _ _ h=>h) aO a _ _ env σ (fun x e s hx=>?_) (iha _ env σ (fun t ht=>hl t (List.mem_append_left _ ht)) hk hp)
  cases x with
  |normal=>exact ihb Q e s (fun t ht=>hl t (List.mem_append_right _ ht)) hx.2 hx.1
  |exit id=>exact hx
  |ret=>exact hx
 |cond c a b iha ihb=>
  intro Q env σ hl hk hp
  unfold dO at hp ⊢
  split at hp
  ·rename_i t ht
   cases t with
   |true=>exact iha Q env σ (fun t ht=>hl t (List.mem_append_left _ ht)) hk hp
   |false=>exact ihb Q env σ (fun t ht=>hl t (List.mem_append_right _ ht)) hk hp
  ·exact hp.elim
 |block id a iha=>
  intro Q env σ hl hk hp
  refine j7 (fun _ _ _ _ h=>h) aO a _ _ env σ (fun x e s hx=>?_) (iha _ env σ hl hk hp)
  obtain⟨hx,Ih⟩:=hx
  cases x with
  |normal=>exact⟨hx,Ih⟩
  |ret=>exact⟨hx,Ih⟩
  |exit jP=>
   unfold bl at hx ⊢
   dsimp only at hx ⊢
   split at hx
   ·rename_i hid;rw[if_pos hid];exact⟨hx,Ih⟩
   ·rename_i hid;rw[if_neg hid];exact⟨hx,Ih⟩
 |loop a iha=>
  intro Q env σ hl hk hp
  obtain⟨n,hp⟩:=hp
  refine⟨n,?_⟩
  induction n generalizing env σ with
  |zero=>exact hp
  |succ n ihn=>
   refine j7 (fun _ _ _ _ h=>h) aO _ _ _ _ _ (fun x e s hx=>?_) (iha _ env σ hl hk hp)
   obtain⟨hx,Ih⟩:=hx
   cases x with
   |normal=>exact ihn e s Ih hx
   |exit id=>exact⟨hx,Ih⟩
   |ret=>exact⟨hx,Ih⟩
theorem aJ {c:VC} (I:Nat->Env->ax->Prop) (n:Nat) (h0:I n env σ) (step:∀n e s,I n e s->ki (BQ c) env e->dO (Call P) c (fun x e s=>match x with| .normal=>∃m,m<n/\I m e s|x=>Q x e s) e s):dO (Call P) (.loop c) Q env σ:=by
 refine Jf (fun n e s=>I n e s/\ki (BQ c) env e) n ⟨h0,ki.refl _ _⟩ fun n e s hI=>?_
 refine j7 (fun _ _ _ _ h=>h) aO _ _ _ _ _ (fun x e' s' hx=>?_) (ED c _ e s (fun _ h=>h) hI.2 (step n e s hI.1 hI.2))
 obtain⟨hx,hk⟩:=hx
 cases x with
 |normal=>obtain⟨m,hm,h⟩:=hx;exact⟨m,hm,h,hk⟩
 |exit id=>exact hx
 |ret=>exact hx
theorem He {k:Nat} (h:k<=9223372036854775807):IntKind.i64.wrap (k:Int)=k:=by rw[IntKind.wrap_i64];omega
theorem aQ {z:Int} (h: -9223372036854775808<=z/\z<=9223372036854775807):IntKind.i64.wrap z=z:=by rw[IntKind.wrap_i64];omega
theorem aA {k:Nat} (h:(k:Int)+1<=9223372036854775807):IntKind.i64.wrap ((k:Int)+1)=((k+1:Nat):Int):=by rw[IntKind.wrap_i64];omega
theorem all_succ {k:Nat} {p:Nat->Prop} (h:∀j,j<k->p j) (hk:p k):∀j,j<k+1->p j:=fun j hj=>by
 by_cases uX:j=k
 ·subst uX;exact hk
 ·exact h j ab
theorem aE (g:Rows) (n:Nat) (k:IntKind) (m:Int):fz g (n+1) (.int k m)=some (.int k m):=by rw[fz]<;>intros<;>simp_all
theorem bz (g:Rows) (n:Nat) (b:ByteArray):fz g (n+1) (.str b)=some (.str b):=by rw[fz]<;>intros<;>simp_all
theorem cj (g:Rows) (n:Nat) (l:List (List AV)):fz g (n+1) (.sl l)=some (.sl l):=by rw[fz]<;>intros<;>simp_all
theorem aT (g:Rows) (n:Nat):fz g (n+1) .bE=some .bE:=by rw[fz]<;>intros<;>simp_all
theorem Oy {t:Nat} {r r0:AV} {x:Ex} (hx:x=.ret∨x=.normal) (he:env t=r0) (hz:fz σ.get 6 r0=some r):kF [.tmp t] (fun r0 σ'=>∃r',fz σ'.get 6 r0=some r'/\r'=r) x env σ:=by
 have:∃vs,eR env σ.get [.tmp t]=some vs/\∃r',fz σ.get 6 (dJ vs)=some r'/\r'=r:=⟨[env t],rfl,r,by subst he;exact hz,rfl⟩
 rcases hx with rfl|rfl
 ·exact this
 ·exact this
def ai (P:Program) (f:Nat) (args:List AV) (r:AV):Prop:=∀n:Nat,Call P f args ⟨fun _=>none,n⟩ fun r0 σ'=>∃r',fh σ'.get 6 r0=some r'/\r'=r
theorem ai.body {f:Nat} {args:List AV} {r:AV} {nt na:Nat} {body:VC} {res:List nP} (hf:lr P f=some ⟨nt,na,body,res⟩) (ha:na=args.length) (h:(∀a∈args,dZ a)->∀n:Nat,dO (Call P) body (kF res fun r0 σ'=>∃r',fh σ'.get 6 r0=some r'/\r'=r) (cm args) ⟨fun _=>none,n⟩):ai P f args r:=fun n=>kO hf ha fun hl=>h hl n
theorem ai.x {f:Nat} {args eJ:List AV} {r:AV} (h:ai P f eJ r) {σ:ax} (hv:bY (dC σ.get) 6 args=some eJ):gO (Call P) f args σ (fun r'=>r'=r):=.inr ⟨eJ,hv,h _⟩
theorem jy.x {f:Nat} {args:List AV} {r:AV} (h:jy P f args r) (σ:ax):gO (Call P) f args σ (fun r'=>r'=r):=.inl (h σ)
theorem dK (g:Rows) (n:Nat) (k:IntKind) (m:Int):fh g (n+1) (.int k m)=some (.int k m):=by rw[fh]<;>intros<;>simp_all
theorem eD (g:Rows) (n:Nat) (b:Bool):fh g (n+1) (.bool b)=some (.bool b):=by rw[fh]<;>intros<;>simp_all
theorem ko (g:Rows) (n:Nat) (b:ByteArray):fh g (n+1) (.str b)=some (.str b):=by rw[fh]<;>intros<;>simp_all
theorem iA (g:Rows) (n:Nat):fh g (n+1) .bE=some .bE:=by rw[fh]<;>intros<;>simp_all
theorem ee (g:Rows) (n:Nat) (l:List AV):fh g (n+1) (.gU l)=(du g n l).map AV.gU:=by rw[fh]
theorem Ca (g:Rows) (n:Nat) (l:List AV):fh g (n+1) (.agg l)=(du g n l).map AV.agg:=by rw[fh]
theorem pe {g:Rows} {n:Nat} {id:Id} {off len sz:Nat} {rows rows':List (List AV)} (h:g id=some ⟨true,sz,rows⟩) (hl:off+len<=rows.length) (hr:gh g n ((rows.drop off).take len)=some rows'):fh g (n+1) (.own id off len)=some (.sl rows'):=by
 rw[fh];simp only[h,if_true,if_pos hl,hr,Option.map_some]
theorem bh (g:Rows) (n:Nat):du g n []=some []:=by rw[du]
theorem aM (g:Rows) (n:Nat) (a:AV) (l:List AV):du g n (a::l)=match fh g n a with
  |some b=>(du g n l).map (b::·)
  |none=>none:=by rw[du];cases fh g n a<;>rfl
theorem qR {g:Rows} {n:Nat}:∀{l:List (List AV)},(∀c∈l,du g n c=some c)->gh g n l=some l
 |[],_=>by rw[gh]
 |c::r,h=>by rw[gh,h c (by simp),qR fun d hd=>h d (List.mem_cons_of_mem _ hd)];rfl
theorem bj (g:Rows) (n:Nat) (l:List AV):fz g (n+1) (.agg l)=(bY g n l).map AV.agg:=by rw[fz]
theorem aX (g:Rows) (n:Nat) (l:List AV):fz g (n+1) (.cH l)=some (.cH l):=by rw[fz]<;>intros<;>simp_all
theorem wh {g:Rows} {n:Nat} {id:Id} {i off sz:Nat} {rows:List (List AV)} {cs n8:List AV} (h:g id=some ⟨true,sz,rows⟩) (hi:rows[i]? =some cs) (hr:bY g n (cs.drop off)=some n8):fz g (n+1) (.ptr id i off)=some (.cH n8):=by
 rw[fz];simp only[h,if_true,hi,hr,Option.map_some]
theorem aj (g:Rows) (n:Nat):bY g n []=some []:=by rw[bY]
theorem ad (g:Rows) (n:Nat) (a:AV) (l:List AV):bY g n (a::l)=match fz g n a with
  |some b=>(bY g n l).map (b::·)
  |none=>none:=by rw[bY];cases fz g n a<;>rfl
theorem tq {t:Nat} {r r0:AV} {x:Ex} (hx:x=.ret∨x=.normal) (he:env t=r0) (hz:fh σ.get 6 r0=some r):kF [.tmp t] (fun r0 σ'=>∃r',fh σ'.get 6 r0=some r'/\r'=r) x env σ:=by
 have:∃vs,eR env σ.get [.tmp t]=some vs/\∃r',fh σ.get 6 (dJ vs)=some r'/\r'=r:=⟨[env t],rfl,r,by subst he;exact hz,rfl⟩
 rcases hx with rfl|rfl
 ·exact this
 ·exact this
theorem aI {t:Nat} {b c:Bool} {x:Ex} (hx:x=.ret∨x=.normal) (he:env t=.bool b) (hb:b=c):kF [.tmp t] (fun r0 σ'=>∃r',fh σ'.get 6 r0=some r'/\r'=.bool c) x env σ:=tq hx he (by rw[eD,hb])
theorem bq {t:Nat} {k:IntKind} {b c:Int} {x:Ex} (hx:x=.ret∨x=.normal) (he:env t=.int k b) (hb:b=c):kF [.tmp t] (fun r0 σ'=>∃r',fh σ'.get 6 r0=some r'/\r'=.int k c) x env σ:=tq hx he (by rw[dK,hb])
theorem iK {t u:Nat} {r r1 r2:AV} {x:Ex} (hx:x=.ret∨x=.normal) (h1:env t=r1) (h2:env u=r2) (hz:fh σ.get 6 (.gU [r1,r2])=some r):kF [.tmp t,.tmp u] (fun r0 σ'=>∃r',fh σ'.get 6 r0=some r'/\r'=r) x env σ:=by
 have:∃vs,eR env σ.get [.tmp t,.tmp u]=some vs/\∃r',fh σ.get 6 (dJ vs)=some r'/\r'=r:=⟨[env t,env u],rfl,r,by subst h1;subst h2;exact hz,rfl⟩
 rcases hx with rfl|rfl
 ·exact this
 ·exact this
structure Pn (p:Prop):Prop where
 out:p
theorem tw {A B:Prop} (a:A) (b:B):A/\B:=⟨a,b⟩
theorem wk {A R G:Prop} (a:A) (r:R) (h:A->R->G:=by
  intro fL kk
  (repeat(refine Pn.mk ?_;intro N hN))
  (first|((first|apply CK|apply CI);intro N hN)|((first|(apply LX;intro N hN)|(apply CH;intro N hN));simp only[go_sem, ↓reduceIte,Nat.reduceEqDiff,Nat.reduceAdd,Nat.reduceSub,Nat.reduceMul,Nat.reduceLeDiff,Nat.reduceBEq,reduceCtorEq,Nat.reduceLT,Int.reduceLE,Int.reduceLT,Int.reduceToNat,Int.reduceNeg,Int.reduceAdd,Int.reduceEq,fL];first|(refine hN _ _ ?_;clear hN N)|skip)|(apply sb;(simp only[go_sem, ↓reduceIte,Nat.reduceEqDiff,Nat.reduceAdd,Nat.reduceSub,Nat.reduceMul,Nat.reduceLeDiff,Nat.reduceBEq,reduceCtorEq,Nat.reduceLT,Int.reduceLE,Int.reduceLT,Int.reduceToNat,Int.reduceNeg,Int.reduceAdd,Int.reduceEq,fL];rfl);first|with_reducible apply mv.t|with_reducible apply mv.f)|(apply CG;refine hN _ _ ?_;clear hN N;try(simp only[dz,bl, ↓reduceIte,Nat.reduceEqDiff]);try(refine hN _ _ ?_;clear hN N))|apply sa|(refine xg ?_ ?_ ?_;(focus(simp only[go_sem, ↓reduceIte,Nat.reduceEqDiff,Nat.reduceAdd,Nat.reduceSub,Nat.reduceMul,Nat.reduceLeDiff,Nat.reduceBEq,reduceCtorEq,Nat.reduceLT,Int.reduceLE,Int.reduceLT,Int.reduceToNat,Int.reduceNeg,Int.reduceAdd,Int.reduceEq,fL];done));(focus(simp only[go_sem, ↓reduceIte,Nat.reduceEqDiff,Nat.reduceAdd,Nat.reduceSub,Nat.reduceMul,Nat.reduceLeDiff,Nat.reduceBEq,reduceCtorEq,Nat.reduceLT,Int.reduceLE,Int.reduceLT,Int.reduceToNat,Int.reduceNeg,Int.reduceAdd,Int.reduceEq,fL];done)))|((first|apply xh|apply xf|apply CJ);try(simp only[dz,bl, ↓reduceIte,Nat.reduceEqDiff]);try(refine hN _ _ ?_;clear hN N))|((first|refine hN _ _ ?_|(clear hN N;first|refine hN _ _ ?_|(clear hN N;first|refine hN _ _ ?_|(clear hN N;first|refine hN _ _ ?_|(clear hN N;refine hN _ _ ?_)))));clear hN N))
  (repeat(first|((first|apply CK|apply CI);intro N hN)|((first|(apply LX;intro N hN)|(apply CH;intro N hN));simp only[go_sem, ↓reduceIte,Nat.reduceEqDiff,Nat.reduceAdd,Nat.reduceSub,Nat.reduceMul,Nat.reduceLeDiff,Nat.reduceBEq,reduceCtorEq,Nat.reduceLT,Int.reduceLE,Int.reduceLT,Int.reduceToNat,Int.reduceNeg,Int.reduceAdd,Int.reduceEq,fL];first|(refine hN _ _ ?_;clear hN N)|skip)|(apply sb;(simp only[go_sem, ↓reduceIte,Nat.reduceEqDiff,Nat.reduceAdd,Nat.reduceSub,Nat.reduceMul,Nat.reduceLeDiff,Nat.reduceBEq,reduceCtorEq,Nat.reduceLT,Int.reduceLE,Int.reduceLT,Int.reduceToNat,Int.reduceNeg,Int.reduceAdd,Int.reduceEq,fL];rfl);first|with_reducible apply mv.t|with_reducible apply mv.f)|(apply CG;refine hN _ _ ?_;clear hN N;try(simp only[dz,bl, ↓reduceIte,Nat.reduceEqDiff]);try(refine hN _ _ ?_;clear hN N))|apply sa|(refine xg ?_ ?_ ?_;(focus(simp only[go_sem, ↓reduceIte,Nat.reduceEqDiff,Nat.reduceAdd,Nat.reduceSub,Nat.reduceMul,Nat.reduceLeDiff,Nat.reduceBEq,reduceCtorEq,Nat.reduceLT,Int.reduceLE,Int.reduceLT,Int.reduceToNat,Int.reduceNeg,Int.reduceAdd,Int.reduceEq,fL];done));(focus(simp only[go_sem, ↓reduceIte,Nat.reduceEqDiff,Nat.reduceAdd,Nat.reduceSub,Nat.reduceMul,Nat.reduceLeDiff,Nat.reduceBEq,reduceCtorEq,Nat.reduceLT,Int.reduceLE,Int.reduceLT,Int.reduceToNat,Int.reduceNeg,Int.reduceAdd,Int.reduceEq,fL];done)))|((first|apply xh|apply xf|apply CJ);try(simp only[dz,bl, ↓reduceIte,Nat.reduceEqDiff]);try(refine hN _ _ ?_;clear hN N))|((first|refine hN _ _ ?_|(clear hN N;first|refine hN _ _ ?_|(clear hN N;first|refine hN _ _ ?_|(clear hN N;first|refine hN _ _ ?_|(clear hN N;refine hN _ _ ?_)))));clear hN N)))
  (repeat(revert hN;revert N;apply Pn.out))
  exact kk):G:=h a r
theorem wa {A R G:Prop} (a:A) (r:R) (h:A->R->G:=by
  intro fL kk
  (repeat(refine Pn.mk ?_;intro N hN))
  (first|((first|apply CK|apply CI);intro N hN)|((first|(refine J3 rfl fun N hN=>?_)|(apply CH;intro N hN));simp only[go_sem, ↓reduceIte,Nat.reduceEqDiff,Nat.reduceAdd,Nat.reduceSub,Nat.reduceMul,Nat.reduceLeDiff,Nat.reduceBEq,reduceCtorEq,Nat.reduceLT,Int.reduceLE,Int.reduceLT,Int.reduceToNat,Int.reduceNeg,Int.reduceAdd,Int.reduceEq,fL];first|(refine hN _ _ ?_;clear hN N)|skip)|(apply sb;(simp only[go_sem, ↓reduceIte,Nat.reduceEqDiff,Nat.reduceAdd,Nat.reduceSub,Nat.reduceMul,Nat.reduceLeDiff,Nat.reduceBEq,reduceCtorEq,Nat.reduceLT,Int.reduceLE,Int.reduceLT,Int.reduceToNat,Int.reduceNeg,Int.reduceAdd,Int.reduceEq,fL];rfl);first|with_reducible apply mv.t|with_reducible apply mv.f)|(apply CG;refine hN _ _ ?_;clear hN N;try(simp only[dz,bl, ↓reduceIte,Nat.reduceEqDiff]);try(refine hN _ _ ?_;clear hN N))|apply sa|(refine xg ?_ ?_ ?_;(focus(simp only[go_sem, ↓reduceIte,Nat.reduceEqDiff,Nat.reduceAdd,Nat.reduceSub,Nat.reduceMul,Nat.reduceLeDiff,Nat.reduceBEq,reduceCtorEq,Nat.reduceLT,Int.reduceLE,Int.reduceLT,Int.reduceToNat,Int.reduceNeg,Int.reduceAdd,Int.reduceEq,fL];done));(focus(simp only[go_sem, ↓reduceIte,Nat.reduceEqDiff,Nat.reduceAdd,Nat.reduceSub,Nat.reduceMul,Nat.reduceLeDiff,Nat.reduceBEq,reduceCtorEq,Nat.reduceLT,Int.reduceLE,Int.reduceLT,Int.reduceToNat,Int.reduceNeg,Int.reduceAdd,Int.reduceEq,fL];done)))|((first|apply xh|apply xf|apply CJ);try(simp only[dz,bl, ↓reduceIte,Nat.reduceEqDiff]);try(refine hN _ _ ?_;clear hN N))|((first|refine hN _ _ ?_|(clear hN N;first|refine hN _ _ ?_|(clear hN N;first|refine hN _ _ ?_|(clear hN N;first|refine hN _ _ ?_|(clear hN N;refine hN _ _ ?_)))));clear hN N))
  (repeat(first|((first|apply CK|apply CI);intro N hN)|((first|(refine J3 rfl fun N hN=>?_)|(apply CH;intro N hN));simp only[go_sem, ↓reduceIte,Nat.reduceEqDiff,Nat.reduceAdd,Nat.reduceSub,Nat.reduceMul,Nat.reduceLeDiff,Nat.reduceBEq,reduceCtorEq,Nat.reduceLT,Int.reduceLE,Int.reduceLT,Int.reduceToNat,Int.reduceNeg,Int.reduceAdd,Int.reduceEq,fL];first|(refine hN _ _ ?_;clear hN N)|skip)|(apply sb;(simp only[go_sem, ↓reduceIte,Nat.reduceEqDiff,Nat.reduceAdd,Nat.reduceSub,Nat.reduceMul,Nat.reduceLeDiff,Nat.reduceBEq,reduceCtorEq,Nat.reduceLT,Int.reduceLE,Int.reduceLT,Int.reduceToNat,Int.reduceNeg,Int.reduceAdd,Int.reduceEq,fL];rfl);first|with_reducible apply mv.t|with_reducible apply mv.f)|(apply CG;refine hN _ _ ?_;clear hN N;try(simp only[dz,bl, ↓reduceIte,Nat.reduceEqDiff]);try(refine hN _ _ ?_;clear hN N))|apply sa|(refine xg ?_ ?_ ?_;(focus(simp only[go_sem, ↓reduceIte,Nat.reduceEqDiff,Nat.reduceAdd,Nat.reduceSub,Nat.reduceMul,Nat.reduceLeDiff,Nat.reduceBEq,reduceCtorEq,Nat.reduceLT,Int.reduceLE,Int.reduceLT,Int.reduceToNat,Int.reduceNeg,Int.reduceAdd,Int.reduceEq,fL];done));(focus(simp only[go_sem, ↓reduceIte,Nat.reduceEqDiff,Nat.reduceAdd,Nat.reduceSub,Nat.reduceMul,Nat.reduceLeDiff,Nat.reduceBEq,reduceCtorEq,Nat.reduceLT,Int.reduceLE,Int.reduceLT,Int.reduceToNat,Int.reduceNeg,Int.reduceAdd,Int.reduceEq,fL];done)))|((first|apply xh|apply xf|apply CJ);try(simp only[dz,bl, ↓reduceIte,Nat.reduceEqDiff]);try(refine hN _ _ ?_;clear hN N))|((first|refine hN _ _ ?_|(clear hN N;first|refine hN _ _ ?_|(clear hN N;first|refine hN _ _ ?_|(clear hN N;first|refine hN _ _ ?_|(clear hN N;refine hN _ _ ?_)))));clear hN N)))
  (repeat(revert hN;revert N;apply Pn.out))
  exact kk):G:=h a r
theorem sd {A G:Prop} (a:A) (h:A->G:=by
  intro fL
  first|(simp only[go_sem, ↓reduceIte,Nat.reduceEqDiff,Nat.reduceAdd,Nat.reduceSub,Nat.reduceMul,Nat.reduceLeDiff,Nat.reduceBEq,reduceCtorEq,Nat.reduceLT,Int.reduceLE,Int.reduceLT,Int.reduceToNat,Int.reduceNeg,Int.reduceAdd,Int.reduceEq,fL,eR,gI];done)|fail):G:=h a
theorem sl {A G:Prop} (a:A) (h:A->G:=by
  intro fL
  (try simp only[go_sem, ↓reduceIte,Nat.reduceEqDiff,Nat.reduceAdd,Nat.reduceSub,Nat.reduceMul,Nat.reduceLeDiff,Nat.reduceBEq,reduceCtorEq,Nat.reduceLT,Int.reduceLE,Int.reduceLT,Int.reduceToNat,Int.reduceNeg,Int.reduceAdd,Int.reduceEq,fL])
  try rfl):G:=h a
end Go.Proofs.YtihgaadadaekmaaGreatDoor.V

namespace Go.Proofs.YtihgaadadaekmaaGreatDoor.V
open Go.RowKit
variable {P:Program} {X:eW} {env:Env} {σ:ax}
theorem bG (g:Rows) (n:Nat) (l:List AV):fz g (n+1) (.gU l)=(bY g n l).map AV.gU:=by rw[fz]
theorem cK (g:Rows) (n:Nat) (f:Nat) (l:List AV):fz g (n+1) (.fn f l)=if l.all AV.cell then(bY g n l).map (AV.fn f)else none:=by rw[fz]
theorem bf (g:Rows) (n:Nat) (id:Id) (i off:Nat):fz g (n+1) (.ptr id i off)=match g id with
  |some r=>if r.w then(match r.rows[i]? with
   |some cs=>(bY g n (cs.drop off)).map AV.cH
   |none=>none)else none
  |none=>none:=by rw[fz];rfl
theorem gi (g:Rows) (n:Nat) (id:Id) (off len:Nat):fz g (n+1) (.own id off len)=match g id with
  |some r=>if r.w then(if off+len<=r.rows.length then(dy g n ((r.rows.drop off).take len)).map AV.sl else none)else none
  |none=>none:=by rw[fz];rfl
theorem mV (g:Rows) (n:Nat):dy g n []=some []:=by rw[dy]
theorem wg (g:Rows) (n:Nat) (c:List AV) (l:List (List AV)):dy g n (c::l)=match bY g n c with
  |some b=>(dy g n l).map (b::·)
  |none=>none:=by rw[dy];cases bY g n c<;>rfl
theorem sK {g:Rows} {n:Nat}:∀{l:List (List AV)},(∀c∈l,bY g n c=some c)->dy g n l=some l
 |[],_=>by rw[dy]
 |c::r,h=>by rw[dy,h c (by simp),sK fun d hd=>h d (List.mem_cons_of_mem _ hd)];rfl
theorem lx {α:Type} {g:Rows} {n:Nat} {e:α->List AV} {l:List α} (h:∀x,bY g n (e x)=some (e x)):dy g n (l.map e)=some (l.map e):=sK fun c hc=>by
 obtain⟨x,_,rfl⟩:=List.mem_map.1 hc
 exact h x
theorem mW {α:Type} {g:Rows} {n:Nat} {e:α->List AV} {l:List α} (h:∀x,du g n (e x)=some (e x)):gh g n (l.map e)=some (l.map e):=qR fun c hc=>by
 obtain⟨x,_,rfl⟩:=List.mem_map.1 hc
 exact h x
theorem fw {α:Type} {g:Rows} {n:Nat} {e:α->List AV} {l:List α} {id:Id} {sz len:Nat} (hg:g id=some ⟨true,sz,l.map e⟩) (hl:len=l.length) (h:∀x,bY g n (e x)=some (e x)):fz g (n+1) (.own id 0 len)=some (.sl (l.map e)):=by
 subst hl
 rw[gi];simp only[hg,if_true]
 rw[if_pos (by simp),List.drop_zero,List.take_of_length_le (by simp),lx h];rfl
theorem eX {α:Type} {g:Rows} {n:Nat} {e:α->List AV} {l:List α} {id:Id} {sz len:Nat} (hg:g id=some ⟨true,sz,l.map e⟩) (hl:len=l.length) (h:∀x,du g n (e x)=some (e x)):fh g (n+1) (.own id 0 len)=some (.sl (l.map e)):=by
 subst hl
 exact pe hg (by simp) (by rw[List.drop_zero,List.take_of_length_le (by simp),mW h])
theorem all_map {α:Type} {e:α->List AV} {sz:Nat} {l:List α} (h:∀x,(e x).length=sz/\(e x).all AV.cell=true):(l.map e).all (fun c=>c.length==sz&&c.all AV.cell)=true:=by
 rw[List.all_eq_true]
 intro c hc
 obtain⟨x,_,rfl⟩:=List.mem_map.1 hc
 simp[(h x).1,(h x).2]
def RowM (P:Program) (f:Nat) (args:List AV) (sz:Nat) (rows:List (List AV)):Prop:=(∀c∈rows,∀a∈c,a.plain=true)/\∀n:Nat,Call P f args ⟨fun _=>none,n⟩ fun r σ'=>∃id,r=.own id 0 rows.length/\σ'.get id=some ⟨true,sz,rows⟩
theorem rN {res:List nP} {r:AV} {vs:List AV} {x:Ex} (hx:x=.ret∨x=.normal) (hv:eR env σ.get res=some vs) (hz:fz σ.get 6 (dJ vs)=some r):kF res (fun r0 σ'=>∃r',fz σ'.get 6 r0=some r'/\r'=r) x env σ:=by
 rcases hx with rfl|rfl
 ·exact⟨vs,hv,r,hz,rfl⟩
 ·exact⟨vs,hv,r,hz,rfl⟩
theorem iL {res:List nP} {r:AV} {vs:List AV} {x:Ex} (hx:x=.ret∨x=.normal) (hv:eR env σ.get res=some vs) (hz:fh σ.get 6 (dJ vs)=some r):kF res (fun r0 σ'=>∃r',fh σ'.get 6 r0=some r'/\r'=r) x env σ:=by
 rcases hx with rfl|rfl
 ·exact⟨vs,hv,r,hz,rfl⟩
 ·exact⟨vs,hv,r,hz,rfl⟩
theorem gy {res:List nP} {K:AV->ax->Prop} {vs:List AV} {x:Ex} (hx:x=.ret∨x=.normal) (hv:eR env σ.get res=some vs) (hK:K (dJ vs) σ):kF res K x env σ:=by
 rcases hx with rfl|rfl
 ·exact⟨vs,hv,hK⟩
 ·exact⟨vs,hv,hK⟩
theorem fm {f:Nat} {args:List AV} {σ:ax} {K:AV->ax->Prop} {nt na:Nat} {body:VC} {res:List nP} (hf:lr P f=some ⟨nt,na,body,res⟩) (ha:na=args.length) (h:(∀a∈args,dZ a)->dO (Call P) body (kF res K) (cm args) σ):Call P f args σ K:=kO hf ha h
theorem ET {f:Nat} {md:List (Nat×Nat)} {args:List AV} {σ:ax} {K:AV->ax->Prop} {nt na:Nat} {body:VC} {res:List nP} (hf:ua P f md=some ⟨nt,na,body,res⟩) (ha:na=args.length) (h:(∀a∈args,dZ a)->dO (Call P) body (kF res K) (cm args) σ):Call P f args σ K:=sg hf ha h
theorem eK {i:Id} {n:Nat} (h:i.bZ<n):(∀s,(i=⟨s,n⟩)=False/\(i=⟨s,n+1⟩)=False/\(i=⟨s,n+1+1⟩)=False/\(i=⟨s,n+1+1+1⟩)=False/\(i=⟨s,n+1+1+1+1⟩)=False/\(i=⟨s,n+1+1+1+1+1⟩)=False/\(i=⟨s,n+1+1+1+1+1+1⟩)=False/\(i=⟨s,n+1+1+1+1+1+1+1⟩)=False/\(i=⟨s,n+1+1+1+1+1+1+1+1⟩)=False/\(i=⟨s,n+1+1+1+1+1+1+1+1+1⟩)=False/\(⟨s,n⟩=i)=False/\(⟨s,n+1⟩=i)=False/\(⟨s,n+1+1⟩=i)=False/\(⟨s,n+1+1+1⟩=i)=False/\(⟨s,n+1+1+1+1⟩=i)=False/\(⟨s,n+1+1+1+1+1⟩=i)=False/\(⟨s,n+1+1+1+1+1+1⟩=i)=False/\(⟨s,n+1+1+1+1+1+1+1⟩=i)=False/\(⟨s,n+1+1+1+1+1+1+1+1⟩=i)=False/\(⟨s,n+1+1+1+1+1+1+1+1+1⟩=i)=False)/\(i.bZ=n)=False/\(i.bZ=n+1)=False/\(i.bZ=n+1+1)=False/\(i.bZ=n+1+1+1)=False/\(i.bZ=n+1+1+1+1)=False/\(i.bZ=n+1+1+1+1+1)=False/\(i.bZ=n+1+1+1+1+1+1)=False/\(i.bZ=n+1+1+1+1+1+1+1)=False/\(i.bZ=n+1+1+1+1+1+1+1+1)=False/\(i.bZ=n+1+1+1+1+1+1+1+1+1)=False:=by
 refine⟨fun s=>?_,?_⟩
 ·obtain⟨a,b⟩:=i
  simp only[Id.mk.injEq,eq_iff_iff,iff_false,not_and]
  simp only at h
  refine⟨?_,?_,?_,?_,?_,?_,?_,?_,?_,?_,?_,?_,?_,?_,?_,?_,?_,?_,?_,?_⟩<;>(intros;omega)
 ·simp only[eq_iff_iff,iff_false]
  refine⟨?_,?_,?_,?_,?_,?_,?_,?_,?_,?_⟩<;>omega
def e6 (a b:Nat) (ids:List Id):Prop:=ids.Nodup/\∀i∈ids,a<=i.bZ/\i.bZ<b
def Kept (σ σ':ax):Prop:=σ.next<=σ'.next/\∀j:Id,j.bZ<σ.next->σ'.get j=σ.get j
theorem e6.wide {a b a' b':Nat} {ids:List Id} (h:e6 a b ids) (h1:a'<=a) (h2:b<=b'):e6 a' b' ids:=⟨h.1,fun i hi=>⟨Nat.le_trans h1 (h.2 i hi).1,Nat.lt_of_lt_of_le (h.2 i hi).2 h2⟩⟩
theorem e6.app {a b c d:Nat} {i j:List Id} (h:e6 a b i) (k:e6 c d j) (hbc:b<=c) (qV:a<=b) (KQ:c<=d):e6 a d (i++j):=
 ⟨List.nodup_append.2 ⟨h.1,k.1,fun x hx y hy e=>by subst e;have:=(h.2 x hx).2;have:=(k.2 x hy).1;omega⟩,fun x hx=>by
  rcases List.mem_append.1 hx with hx|hx
  ·have:=h.2 x hx;omega
  ·have:=k.2 x hx;omega⟩
end Go.Proofs.YtihgaadadaekmaaGreatDoor.V

namespace Go.Proofs.YtihgaadadaekmaaGreatDoor.V
open Go.RowKit
attribute [local irreducible] dO wpOps gO Call
attribute [local go_sem] aH fF eF fR fQ cu upd cm K.av cJ AV.cells AV.cell rowOf rowsOf part ld rowAt bI bU dG ei il bJ da eB fW eZ dq ep cY cX dU dV bP bd cQ bL cT cR ek er eo cP bS cZ ej bK aL cV cw ik br cI bQ aZ dz bl dI AV.undef bB bH dY eh dR ea cE eA eE cr ev eu cU cW List.getD_cons_zero List.getD_cons_succ List.getD_nil List.all_cons List.all_nil Bool.and_true Bool.true_and Bool.and_self Bool.not_true Bool.not_false Option.map_some Option.map_none Option.bind_some Option.bind_none List.length_cons List.length_nil List.take_succ_cons List.take_zero List.take_nil List.drop_succ_cons List.drop_zero List.drop_nil List.head?_cons List.map_cons List.map_nil List.getElem?_cons_zero List.getElem?_cons_succ List.cons_append List.nil_append List.append_nil List.length_map List.set_cons_zero List.set_cons_succ Nat.reduceMul eq_self Int.toNat_natCast Int.natCast_nonneg and_self true_and and_true decide_true decide_false Bool.false_eq_true Nat.zero_add Nat.add_zero List.contains_cons List.contains_nil Bool.or_false Bool.false_or beq_self_eq_true Nat.reduceBEq ne_eq not_true_eq_false not_false_eq_true Id.mk.injEq false_and and_false Nat.reduceLT Int.reduceLE Int.reduceLT Int.reduceToNat Int.reduceNeg Int.reduceAdd Nat.le_refl List.length_append beq_true beq_false Bool.not_eq_eq_eq_not or_false false_or dC ad aj aE bz cj aT bj aX bf cK bG
variable {P:Program}
def GV (f g z:Nat):xj:=let s:=f*1000000
 ⟨27,2,(.seq (.eb false [q 4 (.cF (.k (.int .i64 0))) s]) (.seq (.eb false [q 6 (.cF (.t 1)) (s+1000),q 7 (.cF (.t 0)) (s+1001),q 8 (.len (.t 7)) (s+1002),q 9 (.bin .sub .i64 (.t 6) (.t 8)) (s+1003),q 1 (.cF (.t 9)) (s+1004)]) (.seq (.seq (.eb false [q 10 (.cF (.t 1)) (s+2000),q 11 (.bin .lss .i64 (.t 10) (.k (.int .i64 0))) (s+2001)]) (.cond (.t 11) (.seq (.eb false [q 4 (.cF (.k (.int .i64 (-1)))) (s+3000)]) .ret) .skip)) (.seq (.seq (.eb false [q 5 (.cF (.k (.int .i64 0))) (s+4000)]) (.block 0 (.loop (.seq (.seq (.eb false [q 12 (.cF (.t 5)) (s+5000),q 13 (.cF (.t 0)) (s+5001),q 14 (.len (.t 13)) (s+5002),q 15 (.bin .lss .i64 (.t 12) (.t 14)) (s+5003)]) (.cond (.t 15) .skip (.exit 0))) (.seq (.block 1 (.seq (.eb false [q 18 (.cF (.t 0)) (s+7000),q 19 (.cF (.t 5)) (s+7001),q 20 (.dm z (.t 18) (.t 19)) (s+7002),q 21 (.load true z (.t 20)) (s+7003),q 22 (.cF (.t 1)) (s+7004),q 23 (.call g [(.t 21),(.t 22)]) (s+7005),q 1 (.cF (.t 23)) (s+7006)]) (.seq (.eb false [q 24 (.cF (.t 1)) (s+8000),q 25 (.bin .lss .i64 (.t 24) (.k (.int .i64 0))) (s+8001)]) (.cond (.t 25) (.seq (.eb false [q 4 (.cF (.k (.int .i64 (-1)))) (s+9000)]) .ret) .skip)))) (.eb false [q 16 (.cF (.t 5)) (s+6000),q 17 (.bin .add .i64 (.t 16) (.k (.int .i64 1))) (s+6001),q 5 (.cF (.t 17)) (s+6002)])))))) (.seq (.eb false [q 26 (.cF (.t 1)) (s+10000),q 4 (.cF (.t 26)) (s+10001)]) .ret))))),[(.tmp 4)]⟩
def GR (f:Nat):xj:=let s:=f*1000000
 ⟨12,2,(.seq (.eb false [q 4 (.cF (.k (.int .i64 0))) s]) (.seq (.eb false [q 5 (.cF (.t 1)) (s+1000),q 6 (.cF (.t 0)) (s+1001),q 7 (.len (.t 6)) (s+1002),q 8 (.bin .sub .i64 (.t 5) (.t 7)) (s+1003),q 1 (.cF (.t 8)) (s+1004)]) (.seq (.seq (.eb false [q 9 (.cF (.t 1)) (s+2000),q 10 (.bin .lss .i64 (.t 9) (.k (.int .i64 0))) (s+2001)]) (.cond (.t 10) (.seq (.eb false [q 4 (.cF (.k (.int .i64 (-1)))) (s+3000)]) .ret) .skip)) (.seq (.eb false [q 11 (.cF (.t 1)) (s+4000),q 4 (.cF (.t 11)) (s+4001)]) .ret)))),[(.tmp 4)]⟩
def B5 (f g z:Nat):xj:=let s:=f*1000000
 ⟨27,2,(.seq (.eb false [q 4 (.cF (.k (.bool false))) s]) (.seq (.seq (.eb false [q 6 (.cF (.t 0)) (s+1000),q 7 (.len (.t 6)) (s+1001),q 8 (.cF (.t 1)) (s+1002),q 9 (.len (.t 8)) (s+1003),q 10 (.Kv true .tI (.t 7) (.t 9)) (s+1004)]) (.cond (.t 10) (.seq (.eb false [q 4 (.cF (.k (.bool false))) (s+2000)]) .ret) .skip)) (.seq (.seq (.eb false [q 5 (.cF (.k (.int .i64 0))) (s+3000)]) (.block 0 (.loop (.seq (.seq (.eb false [q 11 (.cF (.t 5)) (s+4000),q 12 (.cF (.t 0)) (s+4001),q 13 (.len (.t 12)) (s+4002),q 14 (.bin .lss .i64 (.t 11) (.t 13)) (s+4003)]) (.cond (.t 14) .skip (.exit 0))) (.seq (.block 1 (.seq (.eb true [q 17 (.cF (.t 0)) (s+6000),q 18 (.cF (.t 5)) (s+6001),q 19 (.dm z (.t 17) (.t 18)) (s+6002),q 20 (.load true z (.t 19)) (s+6003),q 21 (.cF (.t 1)) (s+6004),q 22 (.cF (.t 5)) (s+6005),q 23 (.dm z (.t 21) (.t 22)) (s+6006),q 24 (.load true z (.t 23)) (s+6007),q 25 (.call g [(.t 20),(.t 24)]) (s+6008),q 26 (.not (.t 25)) (s+6009)]) (.cond (.t 26) (.seq (.eb false [q 4 (.cF (.k (.bool false))) (s+7000)]) .ret) .skip))) (.eb false [q 15 (.cF (.t 5)) (s+5000),q 16 (.bin .add .i64 (.t 15) (.k (.int .i64 1))) (s+5001),q 5 (.cF (.t 16)) (s+5002)])))))) (.seq (.eb false [q 4 (.cF (.k (.bool true))) (s+8000)]) .ret)))),[(.tmp 4)]⟩
def Jt (f:Nat) (t:TS):xj:=let s:=f*1000000
 ⟨26,2,(.seq (.eb false [q 4 (.cF (.k (.bool false))) s]) (.seq (.seq (.eb false [q 6 (.cF (.t 0)) (s+1000),q 7 (.len (.t 6)) (s+1001),q 8 (.cF (.t 1)) (s+1002),q 9 (.len (.t 8)) (s+1003),q 10 (.Kv true .tI (.t 7) (.t 9)) (s+1004)]) (.cond (.t 10) (.seq (.eb false [q 4 (.cF (.k (.bool false))) (s+2000)]) .ret) .skip)) (.seq (.seq (.eb false [q 5 (.cF (.k (.int .i64 0))) (s+3000)]) (.block 0 (.loop (.seq (.seq (.eb false [q 11 (.cF (.t 5)) (s+4000),q 12 (.cF (.t 0)) (s+4001),q 13 (.len (.t 12)) (s+4002),q 14 (.bin .lss .i64 (.t 11) (.t 13)) (s+4003)]) (.cond (.t 14) .skip (.exit 0))) (.seq (.block 1 (.seq (.eb true [q 17 (.cF (.t 0)) (s+6000),q 18 (.cF (.t 5)) (s+6001),q 19 (.dm 1 (.t 17) (.t 18)) (s+6002),q 20 (.load false 1 (.t 19)) (s+6003),q 21 (.cF (.t 1)) (s+6004),q 22 (.cF (.t 5)) (s+6005),q 23 (.dm 1 (.t 21) (.t 22)) (s+6006),q 24 (.load false 1 (.t 23)) (s+6007),q 25 (.Kv true t (.t 20) (.t 24)) (s+6008)]) (.cond (.t 25) (.seq (.eb false [q 4 (.cF (.k (.bool false))) (s+7000)]) .ret) .skip))) (.eb false [q 15 (.cF (.t 5)) (s+5000),q 16 (.bin .add .i64 (.t 15) (.k (.int .i64 1))) (s+5001),q 5 (.cF (.t 16)) (s+5002)])))))) (.seq (.eb false [q 4 (.cF (.k (.bool true))) (s+8000)]) .ret)))),[(.tmp 4)]⟩
def rq (f g z:Nat) (zero:List K):xj:=let s:=f*1000000
 ⟨23,1,(.seq (.eb false [q 2 (.cF (.k .bE)) s]) (.seq (.eb false [q 5 (.cF (.t 0)) (s+1000),q 6 (.len (.t 5)) (s+1001),q 7 (.jg zero (.t 6) (.t 6)) (s+1002),q 3 (.cF (.t 7)) (s+1003)]) (.seq (.seq (.eb false [q 4 (.cF (.k (.int .i64 0))) (s+2000)]) (.block 0 (.loop (.seq (.seq (.eb false [q 8 (.cF (.t 4)) (s+3000),q 9 (.cF (.t 0)) (s+3001),q 10 (.len (.t 9)) (s+3002),q 11 (.bin .lss .i64 (.t 8) (.t 10)) (s+3003)]) (.cond (.t 11) .skip (.exit 0))) (.seq (.block 1 (.eb false [q 14 (.cF (.t 3)) (s+5000),q 15 (.cF (.t 4)) (s+5001),q 16 (.cF (.t 0)) (s+5002),q 17 (.cF (.t 4)) (s+5003),q 18 (.dm z (.t 16) (.t 17)) (s+5004),q 19 (.load true z (.t 18)) (s+5005),q 20 (.call g [(.t 19)]) (s+5006),q 21 (.dm z (.t 14) (.t 15)) (s+5007),⟨none,(.store z (.t 21) (.t 20)),none,(s+5008),[]⟩])) (.eb false [q 12 (.cF (.t 4)) (s+4000),q 13 (.bin .add .i64 (.t 12) (.k (.int .i64 1))) (s+4001),q 4 (.cF (.t 13)) (s+4002)])))))) (.seq (.eb false [q 22 (.cF (.t 3)) (s+6000),q 2 (.cF (.t 22)) (s+6001)]) .ret)))),[(.tmp 2)]⟩
def G4 (f:Nat) (zero:K):xj:=let s:=f*1000000
 ⟨22,1,(.seq (.eb false [q 2 (.cF (.k .bE)) s]) (.seq (.eb false [q 5 (.cF (.t 0)) (s+1000),q 6 (.len (.t 5)) (s+1001),q 7 (.jg [zero] (.t 6) (.t 6)) (s+1002),q 3 (.cF (.t 7)) (s+1003)]) (.seq (.seq (.eb false [q 4 (.cF (.k (.int .i64 0))) (s+2000)]) (.block 0 (.loop (.seq (.seq (.eb false [q 8 (.cF (.t 4)) (s+3000),q 9 (.cF (.t 0)) (s+3001),q 10 (.len (.t 9)) (s+3002),q 11 (.bin .lss .i64 (.t 8) (.t 10)) (s+3003)]) (.cond (.t 11) .skip (.exit 0))) (.seq (.block 1 (.eb false [q 14 (.cF (.t 3)) (s+5000),q 15 (.cF (.t 4)) (s+5001),q 16 (.cF (.t 0)) (s+5002),q 17 (.cF (.t 4)) (s+5003),q 18 (.dm 1 (.t 16) (.t 17)) (s+5004),q 19 (.load false 1 (.t 18)) (s+5005),q 20 (.dm 1 (.t 14) (.t 15)) (s+5006),⟨none,(.store 1 (.t 20) (.t 19)),none,(s+5007),[]⟩])) (.eb false [q 12 (.cF (.t 4)) (s+4000),q 13 (.bin .add .i64 (.t 12) (.k (.int .i64 1))) (s+4001),q 4 (.cF (.t 13)) (s+4002)])))))) (.seq (.eb false [q 21 (.cF (.t 3)) (s+6000),q 2 (.cF (.t 21)) (s+6001)]) .ret)))),[(.tmp 2)]⟩
def uz (n:Nat) (l:Int):Int:=if (n:Int)<=l then l-n else -1
theorem GU {fk:Nat} (hc:lr P fk=some (GR fk)) (rows:List (List AV)) (left:Int) (h0:0<=left) (h1:left<=1048576):ai P fk [.sl rows,.int .i64 left] (.int .i64 (uz rows.length left)):=by
 refine ai.body hc rfl fun hl n0=>?_
 try simp only[q]
 have hn:rows.length<=9223372036854775807:=(hl (.sl rows) (by simp)).len
 clear hl
 have hw:IntKind.i64.wrap (left-(rows.length:Int))=left-rows.length:=aQ ab
 by_cases hf:(rows.length:Int)<=left
 ·have kJ:¬left-(rows.length:Int)<0:=ab
  (try((repeat(revert hN;revert N;apply Pn.out));refine wk (tw @hw @kJ) ?_;(repeat(refine Pn.mk ?_;intro N hN))))
  exact bq (b:=left-(rows.length:Int)) (.inl rfl) (sd @Nat.zero_add) (by rw[uz,if_pos hf])
 ·have kJ:left-(rows.length:Int)<0:=ab
  (try((repeat(revert hN;revert N;apply Pn.out));refine wk (tw @hw @kJ) ?_;(repeat(refine Pn.mk ?_;intro N hN))))
  exact bq (b:=-1) (.inl rfl) (sd @Nat.zero_add) (by rw[uz,if_neg hf])
def gL {α:Type} (f:α->Nat) (xs:List α) (k:Nat):Nat:=((xs.take k).map f).sum
theorem k9 {α:Type} (f:α->Nat) (xs:List α):gL f xs 0=0:=by simp[gL]
theorem zk {α:Type} (f:α->Nat) (xs:List α):gL f xs xs.length=(xs.map f).sum:=by simp[gL]
theorem tC {α:Type} (f:α->Nat) {xs:List α} {k:Nat} (hk:k<xs.length):gL f xs (k+1)=gL f xs k+f xs[k]:=by
 unfold gL
 rw[List.take_succ_eq_append_getElem hk,List.map_append,List.sum_append];simp
theorem oi {α:Type} (f:α->Nat) (xs:List α) (k:Nat):gL f xs k<=(xs.map f).sum:=by
 unfold gL
 conv=>rhs;rw[<-List.take_append_drop k xs]
 rw[List.map_append,List.sum_append];omega
theorem GW {α:Type} {e:α->List AV} {z fk gk:Nat} (wt:α->Nat) (hc:lr P fk=some (GV fk gk z)) (hz:∀x,(e x).length=z) (Cf:∀x g,bY g 6 [.agg (e x)]=some [.agg (e x)]) (xs:List α) (left:Int) (h0:0<=left) (h1:left<=1048576)
  (hg:∀x∈xs,∀l:Int,0<=l->l<=1048576->ai P gk [.agg (e x),.int .i64 l] (.int .i64 (uz (wt x) l))):ai P fk [.sl (xs.map e),.int .i64 left] (.int .i64 (uz (xs.length+(xs.map wt).sum) left)):=by
 refine ai.body hc rfl fun hl n0=>?_
 try simp only[q]
 have hn:xs.length<=9223372036854775807:=by simpa using(hl (.sl (xs.map e)) (by simp)).len
 clear hl
 have hw:IntKind.i64.wrap (left-(xs.length:Int))=left-xs.length:=aQ ab
 by_cases hf:(xs.length:Int)<=left
 ·have kJ:¬left-(xs.length:Int)<0:=ab
  (try((repeat(revert hN;revert N;apply Pn.out));refine wk (tw @hw @kJ) ?_;(repeat(refine Pn.mk ?_;intro N hN))))
  refine aJ (fun n env st=>∃k:Nat,n=(xs.length)-k/\k<=(xs.length)/\env 5=.int .i64 (k:Int)/\env 1=(.int .i64 (left-xs.length-(gL wt xs k:Nat)))/\(0<=left-xs.length-(gL wt xs k:Nat))) (xs.length) ⟨0,ab,ab,sl (tw @k9 (tw @Int.natCast_zero @Int.sub_zero)),sl (tw @k9 (tw @Int.natCast_zero @Int.sub_zero)),(by rw[k9];omega)⟩ ?_
  rintro n_a env_a st_a ⟨k,rfl,ale,a5,a1,l7⟩ dE
  have a0:=dE 0 (by kernel_rfl)
  simp only[go_sem, ↓reduceIte,Nat.reduceEqDiff,Nat.reduceAdd,Nat.reduceSub,Nat.reduceLeDiff,reduceCtorEq,k9,Int.natCast_zero,Int.sub_zero]at a0
  clear dE
  by_cases hk:(k:Int)<(xs.length:Int)
  ·have cl:∀{e:Env},(e 5=.int .i64 (IntKind.i64.wrap ((k:Int)+1)))->(e 1=(.int .i64 (left-xs.length-(gL wt xs (k+1):Nat))))->(0<=left-xs.length-(gL wt xs (k+1):Nat))->∃m0,m0<(xs.length)-k/\∃k:Nat,m0=(xs.length)-k/\k<=(xs.length)/\e 5=.int .i64 (k:Int)/\e 1=(.int .i64 (left-xs.length-(gL wt xs k:Nat)))/\(0<=left-xs.length-(gL wt xs k:Nat)):=fun x1 x2 x3=>⟨_,ab,k+1,rfl,ab,(by rw[x1,aA ab]),x2,x3⟩
   have eO:k<xs.length:=ab
   have eC:(xs.map e)[k]? =some (e xs[k]):=by simp[eO]
   have qZ:=hz xs[k]
   have ht:(e xs[k]).take z=e xs[k]:=by rw[<-qZ,List.take_length]
   have hs:=tC wt eO
   have tR:=oi wt xs (k+1)
   have gu:=hg _ (List.getElem_mem eO) (left-xs.length-(gL wt xs k:Nat)) l7 ab
   have kN:bY (dC st_a.get) 6 [.agg (e xs[k]),.int .i64 (left-xs.length-(gL wt xs k:Nat))]=some [.agg (e xs[k]),.int .i64 (left-xs.length-(gL wt xs k:Nat))]:=by
    have q1:=Cf xs[k] (dC st_a.get)
    rw[ad,aj]at q1
    rw[ad,ad,aj,aE]
    revert q1
    cases V.fz (dC st_a.get) 6 (.agg (e xs[k]))<;>simp
   by_cases Aw:(wt xs[k]:Int)<=left-xs.length-(gL wt xs k:Nat)
   ·rw[uz,if_pos Aw]at gu
    have QJ:¬left-xs.length-(gL wt xs k:Nat)-(wt xs[k]:Int)<0:=ab
    have uk:left-xs.length-(gL wt xs k:Nat)-(wt xs[k]:Int)=left-xs.length-(gL wt xs (k+1):Nat):=by rw[hs];omega
    generalize hex:e xs[k]=c at gu kN eC qZ ht
    (try((repeat(revert hN;revert N;apply Pn.out));refine wk (tw @a5 (tw @a1 (tw @a0 (tw @hk (tw @eC (tw @qZ (tw @ht @Nat.le_refl))))))) ?_;(repeat(refine Pn.mk ?_;intro N hN))))
    refine .inl ⟨_,ai.x gu kN,?_⟩
    refine hN _ _ ?_
    clear hN N
    (try((repeat(revert hN;revert N;apply Pn.out));refine wk (tw @a5 (tw @a1 (tw @a0 @QJ))) ?_;(repeat(refine Pn.mk ?_;intro N hN))))
    refine cl ?_ ?_ ((by rw[hs];omega))
    all_goals simp only[go_sem, ↓reduceIte,Nat.reduceEqDiff,Nat.reduceAdd,Nat.reduceSub,Nat.reduceLeDiff,reduceCtorEq,a5,a1,a0,uk]
   ·rw[uz,if_neg Aw]at gu
    generalize hex:e xs[k]=c at gu kN eC qZ ht
    (try((repeat(revert hN;revert N;apply Pn.out));refine wk (tw @a5 (tw @a1 (tw @a0 (tw @hk (tw @eC (tw @qZ (tw @ht @Nat.le_refl))))))) ?_;(repeat(refine Pn.mk ?_;intro N hN))))
    refine .inl ⟨_,ai.x gu kN,?_⟩
    refine hN _ _ ?_
    clear hN N
    (try((repeat(revert hN;revert N;apply Pn.out));refine wk (tw @a5 (tw @a1 @a0)) ?_;(repeat(refine Pn.mk ?_;intro N hN))))
    exact bq (b:=-1) (.inl rfl) (sd @Nat.zero_add) (by rw[uz,if_neg ab])
  ·(try((repeat(revert hN;revert N;apply Pn.out));refine wk (tw @a5 (tw @a1 (tw @a0 @hk))) ?_;(repeat(refine Pn.mk ?_;intro N hN))))
   have eO:k=xs.length:=ab
   subst eO
   have O1:=zk wt xs
   exact bq (b:=left-xs.length-(gL wt xs xs.length:Nat)) (.inl rfl) (sd (tw @a5 (tw @a1 @a0))) (by rw[uz,if_pos ab];omega)
 ·have kJ:left-(xs.length:Int)<0:=ab
  (try((repeat(revert hN;revert N;apply Pn.out));refine wk (tw @hw @kJ) ?_;(repeat(refine Pn.mk ?_;intro N hN))))
  exact bq (b:=-1) (.inl rfl) (sd @Nat.zero_add) (by rw[uz,if_neg ab])
theorem Fx {α:Type} {xs ys:List α} (hl:xs.length=ys.length) (h:∀j:Nat,j<xs.length->∀(h1:j<xs.length) (h2:j<ys.length),xs[j]=ys[j]):xs=ys:=List.ext_getElem hl fun j h1 h2=>h j h1 h1 h2
theorem z6 {α:Type} [DecidableEq α] {e:α->List AV} {z fk gk:Nat} (hc:lr P fk=some (B5 fk gk z)) (hz:∀x,(e x).length=z) (Cf:∀x g,bY g 6 [.agg (e x)]=some [.agg (e x)]) (xs ys:List α)
  (hg:∀x y,ai P gk [.agg (e x),.agg (e y)] (.bool (decide (x=y)))):ai P fk [.sl (xs.map e),.sl (ys.map e)] (.bool (decide (xs=ys))):=by
 refine ai.body hc rfl fun hl n0=>?_
 try simp only[q]
 have hn:xs.length<=9223372036854775807:=by simpa using(hl (.sl (xs.map e)) (by simp)).len
 clear hl
 by_cases hlen:xs.length=ys.length
 ·have jN:decide ((xs.length:Int)=(ys.length:Int))=true:=by simp[hlen]
  (try((repeat(revert hN;revert N;apply Pn.out));refine wk @jN ?_;(repeat(refine Pn.mk ?_;intro N hN))))
  refine aJ (fun n env st=>∃k:Nat,n=(xs.length)-k/\k<=(xs.length)/\env 5=.int .i64 (k:Int)/\(∀j:Nat,j<k->∀(h1:j<xs.length) (h2:j<ys.length),xs[j]=ys[j])) (xs.length) ⟨0,ab,ab,sl @Nat.zero_add,fun _ h=>absurd h (Nat.not_lt_zero _)⟩ ?_
  rintro n_a env_a st_a ⟨k,rfl,ale,a5,j9⟩ dE
  have a0:=dE 0 (by kernel_rfl);have a1:=dE 1 (by kernel_rfl)
  simp only[go_sem, ↓reduceIte,Nat.reduceEqDiff,Nat.reduceAdd,Nat.reduceSub,Nat.reduceLeDiff,reduceCtorEq]at a0 a1
  clear dE
  by_cases hk:(k:Int)<(xs.length:Int)
  ·have cl:∀{e:Env},(e 5=.int .i64 (IntKind.i64.wrap ((k:Int)+1)))->(∀(h1:k<xs.length) (h2:k<ys.length),xs[k]=ys[k])->∃m0,m0<(xs.length)-k/\∃k:Nat,m0=(xs.length)-k/\k<=(xs.length)/\e 5=.int .i64 (k:Int)/\(∀j:Nat,j<k->∀(h1:j<xs.length) (h2:j<ys.length),xs[j]=ys[j]):=fun x1 x2=>⟨_,ab,k+1,rfl,ab,(by rw[x1,aA ab]),(all_succ j9 x2)⟩
   have eO:k<xs.length:=ab
   have Pd:k<ys.length:=ab
   have eC:(xs.map e)[k]? =some (e xs[k]):=by simp[eO]
   have AA:(ys.map e)[k]? =some (e ys[k]):=by simp[Pd]
   have qZ:=hz xs[k]
   have AN:=hz ys[k]
   have ht:(e xs[k]).take z=e xs[k]:=by rw[<-qZ,List.take_length]
   have EK:(e ys[k]).take z=e ys[k]:=by rw[<-AN,List.take_length]
   have gu:=hg xs[k] ys[k]
   have kN:∀g,bY g 6 [.agg (e xs[k]),.agg (e ys[k])]=some [.agg (e xs[k]),.agg (e ys[k])]:=fun g=>by
    have q1:=Cf xs[k] g
    have q2:=Cf ys[k] g
    rw[ad,aj]at q1
    rw[ad,q2]
    revert q1
    cases V.fz g 6 (.agg (e xs[k]))<;>simp
   by_cases heq:xs[k]=ys[k]
   ·rw[decide_eq_true heq]at gu
    generalize hex:e xs[k]=c at gu kN eC qZ ht
    generalize hey:e ys[k]=d at gu kN AA AN EK
    (try((repeat(revert hN;revert N;apply Pn.out));refine wk (tw @a5 (tw @a0 (tw @a1 (tw @hk (tw @eC (tw @AA (tw @qZ (tw @AN (tw @ht (tw @EK @Nat.le_refl)))))))))) ?_;(repeat(refine Pn.mk ?_;intro N hN))))
    refine⟨_,ai.x gu (kN _),?_⟩
    refine hN _ _ ?_
    clear hN N
    (try((repeat(revert hN;revert N;apply Pn.out));refine wk (tw @a5 (tw @a0 @a1)) ?_;(repeat(refine Pn.mk ?_;intro N hN))))
    exact cl (sd (tw @a5 (tw @a0 @a1))) (fun _ _=>heq)
   ·rw[decide_eq_false heq]at gu
    generalize hex:e xs[k]=c at gu kN eC qZ ht
    generalize hey:e ys[k]=d at gu kN AA AN EK
    (try((repeat(revert hN;revert N;apply Pn.out));refine wk (tw @a5 (tw @a0 (tw @a1 (tw @hk (tw @eC (tw @AA (tw @qZ (tw @AN (tw @ht (tw @EK @Nat.le_refl)))))))))) ?_;(repeat(refine Pn.mk ?_;intro N hN))))
    refine⟨_,ai.x gu (kN _),?_⟩
    refine hN _ _ ?_
    clear hN N
    (try((repeat(revert hN;revert N;apply Pn.out));refine wk (tw @a5 (tw @a0 @a1)) ?_;(repeat(refine Pn.mk ?_;intro N hN))))
    exact aI (b:=false) (.inl rfl) (sd @Nat.zero_add) (decide_eq_false fun h=>heq (List.getElem_of_eq h _)).symm
  ·(try((repeat(revert hN;revert N;apply Pn.out));refine wk (tw @a5 (tw @a0 (tw @a1 @hk))) ?_;(repeat(refine Pn.mk ?_;intro N hN))))
   exact aI (b:=true) (.inl rfl) (sd @Nat.zero_add) (decide_eq_true (Fx hlen fun j hj h1 h2=>j9 j ab h1 h2)).symm
 ·have jN:decide ((xs.length:Int)=(ys.length:Int))=false:=decide_eq_false fun h=>hlen ab
  (try((repeat(revert hN;revert N;apply Pn.out));refine wk @jN ?_;(repeat(refine Pn.mk ?_;intro N hN))))
  exact aI (b:=false) (.inl rfl) (sd @Nat.zero_add) (decide_eq_false fun h=>hlen (by subst h;rfl)).symm
theorem M9 {fk:Nat} (hc:lr P fk=some (Jt fk .tI)) (xs ys:List Int):
  ai P fk [.sl (xs.map fun x=>[AV.int .i64 x]),.sl (ys.map fun x=>[AV.int .i64 x])] (.bool (decide (xs=ys))):=by
 refine ai.body hc rfl fun hl n0=>?_
 try simp only[q]
 have hn:xs.length<=9223372036854775807:=by simpa using(hl (.sl (xs.map fun x=>[AV.int .i64 x])) (by simp)).len
 clear hl
 by_cases hlen:xs.length=ys.length
 ·have jN:decide ((xs.length:Int)=(ys.length:Int))=true:=by simp[hlen]
  (try((repeat(revert hN;revert N;apply Pn.out));refine wk @jN ?_;(repeat(refine Pn.mk ?_;intro N hN))))
  refine aJ (fun n env st=>∃k:Nat,n=(xs.length)-k/\k<=(xs.length)/\env 5=.int .i64 (k:Int)/\(∀j:Nat,j<k->∀(h1:j<xs.length) (h2:j<ys.length),xs[j]=ys[j])) (xs.length) ⟨0,ab,ab,sl @Nat.zero_add,fun _ h=>absurd h (Nat.not_lt_zero _)⟩ ?_
  rintro n_a env_a st_a ⟨k,rfl,ale,a5,j9⟩ dE
  have a0:=dE 0 (by kernel_rfl);have a1:=dE 1 (by kernel_rfl)
  simp only[go_sem, ↓reduceIte,Nat.reduceEqDiff,Nat.reduceAdd,Nat.reduceSub,Nat.reduceLeDiff,reduceCtorEq]at a0 a1
  clear dE
  by_cases hk:(k:Int)<(xs.length:Int)
  ·have cl:∀{e:Env},(e 5=.int .i64 (IntKind.i64.wrap ((k:Int)+1)))->(∀(h1:k<xs.length) (h2:k<ys.length),xs[k]=ys[k])->∃m0,m0<(xs.length)-k/\∃k:Nat,m0=(xs.length)-k/\k<=(xs.length)/\e 5=.int .i64 (k:Int)/\(∀j:Nat,j<k->∀(h1:j<xs.length) (h2:j<ys.length),xs[j]=ys[j]):=fun x1 x2=>⟨_,ab,k+1,rfl,ab,(by rw[x1,aA ab]),(all_succ j9 x2)⟩
   have eO:k<xs.length:=ab
   have Pd:k<ys.length:=ab
   have eC:(xs.map fun x=>[AV.int .i64 x])[k]? =some [.int .i64 xs[k]]:=by simp[eO]
   have AA:(ys.map fun x=>[AV.int .i64 x])[k]? =some [.int .i64 ys[k]]:=by simp[Pd]
   by_cases heq:xs[k]=ys[k]
   ·have hq:=decide_eq_true heq
    (try((repeat(revert hN;revert N;apply Pn.out));refine wk (tw @a5 (tw @a0 (tw @a1 (tw @hk (tw @eC (tw @AA @hq)))))) ?_;(repeat(refine Pn.mk ?_;intro N hN))))
    exact cl (sd (tw @a5 (tw @a0 @a1))) (fun _ _=>heq)
   ·have hq:=decide_eq_false heq
    (try((repeat(revert hN;revert N;apply Pn.out));refine wk (tw @a5 (tw @a0 (tw @a1 (tw @hk (tw @eC (tw @AA @hq)))))) ?_;(repeat(refine Pn.mk ?_;intro N hN))))
    exact aI (b:=false) (.inl rfl) (sd @Nat.zero_add) (decide_eq_false fun h=>heq (List.getElem_of_eq h _)).symm
  ·(try((repeat(revert hN;revert N;apply Pn.out));refine wk (tw @a5 (tw @a0 (tw @a1 @hk))) ?_;(repeat(refine Pn.mk ?_;intro N hN))))
   exact aI (b:=true) (.inl rfl) (sd @Nat.zero_add) (decide_eq_true (Fx hlen fun j hj h1 h2=>j9 j ab h1 h2)).symm
 ·have jN:decide ((xs.length:Int)=(ys.length:Int))=false:=decide_eq_false fun h=>hlen ab
  (try((repeat(revert hN;revert N;apply Pn.out));refine wk @jN ?_;(repeat(refine Pn.mk ?_;intro N hN))))
  exact aI (b:=false) (.inl rfl) (sd @Nat.zero_add) (decide_eq_false fun h=>hlen (by subst h;rfl)).symm
theorem sr (l:List AV):l++[]=l:=List.append_nil l
def fJ {α:Type} (e:α->List AV) (zc:List AV) (xs:List α) (k:Nat):List (List AV):=(xs.take k).map e++List.replicate (xs.length-k) zc
theorem mN {α:Type} (e:α->List AV) (zc:List AV) (xs:List α):List.replicate xs.length zc=fJ e zc xs 0:=by simp[fJ]
theorem oy {α:Type} (e:α->List AV) (zc:List AV) (xs:List α):fJ e zc xs xs.length=xs.map e:=by simp[fJ]
theorem oz {α:Type} (e:α->List AV) (zc:List AV) (xs:List α) {k:Nat} (hk:k<xs.length):(fJ e zc xs k)[k]? =some zc:=by
 have h1:((xs.take k).map e).length=k:=by simp;omega
 rw[fJ,List.getElem?_append_right ab,h1,Nat.sub_self,List.getElem?_replicate,if_pos ab]
theorem oA {α:Type} (e:α->List AV) (zc:List AV) (xs:List α) {k:Nat} (hk:k<xs.length):(fJ e zc xs k).set k (e xs[k])=fJ e zc xs (k+1):=by
 have h1:((xs.take k).map e).length=k:=by simp;omega
 rw[fJ,List.set_append_right _ _ ab,h1,Nat.sub_self,fJ,List.take_succ_eq_append_getElem hk,List.map_append,List.append_assoc]
 congr 1
 obtain⟨m,hm⟩:∃m,xs.length-k=m+1:=⟨xs.length-k-1,ab⟩
 rw[hm,show xs.length-(k+1)=m by omega,List.replicate_succ]
 rfl
theorem BE {α:Type} {en:α->List AV} {z fk gk:Nat} {zero:List K} (hc:lr P fk=some (rq fk gk z zero)) (EP:zero.length=z) (hz:∀x,(en x).length=z) (jz:∀x,(en x).all AV.cell=true) (Cf:∀x g,bY g 5 (en x)=some (en x)) (xs:List α) (hlen:xs.length<=1048576)
  (hg:∀x∈xs,jy P gk [.agg (en x)] (.agg (en x))):jy P fk [.sl (xs.map en)] (.sl (xs.map en)):=by
 refine jy.body hc rfl fun hl σ=>?_
 try simp only[q]
 clear hl
 have hm:(xs.length:Int)<=((16777216:Nat):Int):=ab
 have h0:(0:Int)<=(xs.length:Int):=ab
 (try((repeat(revert hN;revert N;apply Pn.out));refine wk (tw @hm (tw @h0 (tw @Int.le_refl (tw (mN en (zero.map K.av) xs) @EP)))) ?_;(repeat(refine Pn.mk ?_;intro N hN))))
 refine aJ (fun n env st=>∃k:Nat,n=(xs.length)-k/\k<=(xs.length)/\env 4=.int .i64 (k:Int)/\st.get ⟨fk*1000000+1002,σ.next+1⟩=some ⟨true,z,fJ en (zero.map K.av) xs k⟩) (xs.length) ⟨0,ab,ab,sl @Nat.zero_add,sl @Nat.zero_add⟩ ?_
 rintro n_a env_a st_a ⟨k,rfl,ale,a4,ag0⟩ dE
 have a0:=dE 0 (by kernel_rfl);have a3:=dE 3 (by kernel_rfl)
 simp only[go_sem, ↓reduceIte,Nat.reduceEqDiff,Nat.reduceAdd,Nat.reduceSub,Nat.reduceLeDiff,reduceCtorEq]at a0 a3
 clear dE
 by_cases hk:(k:Int)<(xs.length:Int)
 ·have cl:∀{e:Env} {gg:Rows},(e 4=.int .i64 (IntKind.i64.wrap ((k:Int)+1)))->(gg ⟨fk*1000000+1002,σ.next+1⟩=some ⟨true,z,fJ en (zero.map K.av) xs (k+1)⟩)->∃m0,m0<(xs.length)-k/\∃k:Nat,m0=(xs.length)-k/\k<=(xs.length)/\e 4=.int .i64 (k:Int)/\gg ⟨fk*1000000+1002,σ.next+1⟩=some ⟨true,z,fJ en (zero.map K.av) xs k⟩:=fun x1 x2=>⟨_,ab,k+1,rfl,ab,(by rw[x1,aA ab]),x2⟩
  have eO:k<xs.length:=ab
  have eC:(xs.map en)[k]? =some (en xs[k]):=by simp[eO]
  have qZ:=hz xs[k]
  have Hn:=jz xs[k]
  have ht:(en xs[k]).take z=en xs[k]:=by rw[<-qZ,List.take_length]
  have gu:=hg _ (List.getElem_mem eO)
  have e9:=oz en (zero.map K.av) xs eO
  have dQ:=oA en (zero.map K.av) xs eO
  have FK:(zero.map K.av).drop z=[]:=List.drop_of_length_le (by simp[EP])
  generalize hex:en xs[k]=c at gu eC qZ ht Hn dQ
  (repeat(first|((repeat(revert hN;revert N;apply Pn.out));refine wk (tw @a4 (tw @ag0 (tw @a0 (tw @a3 (tw @hk (tw @eC (tw @qZ (tw @ht (tw @Nat.le_refl (tw @e9 (tw @dQ (tw @FK (tw @sr (tw @Hn @EP)))))))))))))) ?_;(repeat(refine Pn.mk ?_;intro N hN)))|((try apply Or.inl);refine⟨_,jy.x (gu) _,?_⟩;refine hN _ _ ?_;clear hN N)))
  refine cl ?_ ?_
  all_goals simp only[go_sem, ↓reduceIte,Nat.reduceEqDiff,Nat.reduceAdd,Nat.reduceSub,Nat.reduceLeDiff,reduceCtorEq,a4,ag0,a0,a3]
 ·(try((repeat(revert hN;revert N;apply Pn.out));refine wk (tw @a4 (tw @ag0 (tw @a0 (tw @a3 @hk)))) ?_;(repeat(refine Pn.mk ?_;intro N hN))))
  have eO:k=xs.length:=ab
  subst eO
  refine Oy (.inl rfl) (r0:=.own ⟨fk*1000000+1002,σ.next+1⟩ 0 xs.length) (sd (tw @a4 (tw @ag0 (tw @a0 @a3)))) ?_
  rw[oy]at ag0
  exact fw ag0 (by simp) fun x=>Cf x _
theorem OB {fk:Nat} (hc:lr P fk=some (G4 fk (.int .i64 0))) (xs:List Int) (hlen:xs.length<=1048576):jy P fk [.sl (xs.map fun x=>[AV.int .i64 x])] (.sl (xs.map fun x=>[AV.int .i64 x])):=by
 refine jy.body hc rfl fun hl σ=>?_
 try simp only[q]
 clear hl
 obtain⟨en,Ho⟩:∃en:Int->List AV,en=fun x=>[AV.int .i64 x]:=⟨_,rfl⟩
 rw[<-Ho]
 have hm:(xs.length:Int)<=((16777216:Nat):Int):=ab
 have h0:(0:Int)<=(xs.length:Int):=ab
 (try((repeat(revert hN;revert N;apply Pn.out));refine wk (tw @hm (tw @h0 (tw @Int.le_refl (mN en [AV.int .i64 0] xs)))) ?_;(repeat(refine Pn.mk ?_;intro N hN))))
 refine aJ (fun n env st=>∃k:Nat,n=(xs.length)-k/\k<=(xs.length)/\env 4=.int .i64 (k:Int)/\st.get ⟨fk*1000000+1002,σ.next+1⟩=some ⟨true,1,fJ en [AV.int .i64 0] xs k⟩) (xs.length) ⟨0,ab,ab,sl @Nat.zero_add,sl @Nat.zero_add⟩ ?_
 rintro n_a env_a st_a ⟨k,rfl,ale,a4,ag0⟩ dE
 have a0:=dE 0 (by kernel_rfl);have a3:=dE 3 (by kernel_rfl)
 simp only[go_sem, ↓reduceIte,Nat.reduceEqDiff,Nat.reduceAdd,Nat.reduceSub,Nat.reduceLeDiff,reduceCtorEq]at a0 a3
 clear dE
 by_cases hk:(k:Int)<(xs.length:Int)
 ·have cl:∀{e:Env} {gg:Rows},(e 4=.int .i64 (IntKind.i64.wrap ((k:Int)+1)))->(gg ⟨fk*1000000+1002,σ.next+1⟩=some ⟨true,1,fJ en [AV.int .i64 0] xs (k+1)⟩)->∃m0,m0<(xs.length)-k/\∃k:Nat,m0=(xs.length)-k/\k<=(xs.length)/\e 4=.int .i64 (k:Int)/\gg ⟨fk*1000000+1002,σ.next+1⟩=some ⟨true,1,fJ en [AV.int .i64 0] xs k⟩:=fun x1 x2=>⟨_,ab,k+1,rfl,ab,(by rw[x1,aA ab]),x2⟩
  have eO:k<xs.length:=ab
  have eC:(xs.map en)[k]? =some [AV.int .i64 xs[k]]:=by simp[eO,Ho]
  have e9:=oz en [AV.int .i64 0] xs eO
  have dQ:=oA en [AV.int .i64 0] xs eO
  rw[show en xs[k]=[AV.int .i64 xs[k]] by rw[Ho]]at dQ
  (try((repeat(revert hN;revert N;apply Pn.out));refine wk (tw @a4 (tw @ag0 (tw @a0 (tw @a3 (tw @hk (tw @eC (tw @e9 @dQ))))))) ?_;(repeat(refine Pn.mk ?_;intro N hN))))
  refine cl ?_ ?_
  all_goals simp only[go_sem, ↓reduceIte,Nat.reduceEqDiff,Nat.reduceAdd,Nat.reduceSub,Nat.reduceLeDiff,reduceCtorEq,a4,ag0,a0,a3]
 ·(try((repeat(revert hN;revert N;apply Pn.out));refine wk (tw @a4 (tw @ag0 (tw @a0 (tw @a3 @hk)))) ?_;(repeat(refine Pn.mk ?_;intro N hN))))
  have eO:k=xs.length:=ab
  subst eO
  refine Oy (.inl rfl) (r0:=.own ⟨fk*1000000+1002,σ.next+1⟩ 0 xs.length) (sd (tw @a4 (tw @ag0 (tw @a0 @a3)))) ?_
  rw[oy]at ag0
  exact fw ag0 (by simp) fun x=>by simp[Ho,ad,aj,aE]
end Go.Proofs.YtihgaadadaekmaaGreatDoor.V

namespace Go.Proofs.YtihgaadadaekmaaGreatDoor
open Go.RowKit
def Sl (w:World) (fp:List Nat) (v:Value) (n:Nat) (xs:List Value):Prop:=
 ∃A c,v=.slice A n c/\n<=c/\c<=maxLen/\
  ((fp=[]/\n=0)∨∃b o,fp=[b]/\A=some ⟨b,o,none⟩/\∀j u,xs[j]? =some u->w.cell? ⟨b,o+j,none⟩=some u)
def e7 (fp:List Nat) (lo hi:Nat):Prop:=∀b∈fp,lo<=b/\b<hi
theorem e7.nil (lo hi:Nat):e7 [] lo hi:=fun _ h=>by cases h
theorem Sl.nil (w:World):Sl w [] (.slice none 0 0) 0 []:=⟨none,0,rfl,Nat.le_refl _,by simp[maxLen],.inl ⟨rfl,rfl⟩⟩
def J8 {α:Type} (rep:World->List Nat->List Value->α->Prop) (sz:Nat) (w:World) (mO:List (List Value)) (B7:List (List Nat)) (ds:List α):Prop:=
 mO.length=ds.length/\B7.length=ds.length/\∀(i:Nat) (cs:List Value) (f:List Nat) (d:α),mO[i]? =some cs->B7[i]? =some f->ds[i]? =some d->rep w f cs d/\cs.length=sz
def lk {α:Type} (rep:World->List Nat->List Value->α->Prop) (sz:Nat) (w:World) (fp:List Nat) (v:Value) (ds:List α):Prop:=
 ∃mO B7 PR,fp=PR++B7.flatten/\Sl w PR v ds.length mO.flatten/\J8 rep sz w mO B7 ds
theorem oL {α:Type} {B7:List (List α)} {i:Nat} {f:List α} (h:B7[i]? =some f):∀b∈f,b∈B7.flatten:=fun b hb=>
 List.mem_flatten.2 ⟨f,List.mem_of_getElem? h,hb⟩
theorem qQ {α:Type} {mO:List (List α)} {sz:Nat} (h:∀cs∈mO,cs.length=sz) {i j:Nat} {cs:List α} (hi:mO[i]? =some cs) (hj:j<sz):mO.flatten[i*sz+j]? =cs[j]? :=by
 induction mO generalizing i with
 |nil=>simp at hi
 |cons c r ih=>
  have hc:c.length=sz:=h c (by simp)
  cases i with
  |zero=>
   simp at hi;subst hi
   rw[List.flatten_cons,List.getElem?_append_left (by omega)];simp
  |succ i=>
   rw[List.flatten_cons,List.getElem?_append_right (by rw[hc,Nat.succ_mul];omega)]
   have:(i+1)*sz+j-c.length=i*sz+j:=by rw[hc,Nat.succ_mul];omega
   rw[this]
   exact ih (fun cs dh=>h cs (List.mem_cons_of_mem _ dh)) (by simpa using hi)
theorem J8.lens {α:Type} {rep:World->List Nat->List Value->α->Prop} {sz:Nat} {w:World} {mO:List (List Value)} {B7:List (List Nat)} {ds:List α}
  (h:J8 rep sz w mO B7 ds):∀cs∈mO,cs.length=sz:=fun cs dh=>by
 obtain⟨i,hi,rfl⟩:=List.getElem_of_mem dh
 have h1:i<B7.length:=by rw[h.2.1,<-h.1];exact hi
 have h2:i<ds.length:=by rw[<-h.1];exact hi
 exact(h.2.2 i _ _ _ (List.getElem?_eq_getElem hi) (List.getElem?_eq_getElem h1) (List.getElem?_eq_getElem h2)).2
theorem lk.at_ {α:Type} {rep:World->List Nat->List Value->α->Prop} {sz:Nat} {w:World} {fp:List Nat} {A:Option Addr} {n c:Nat} {ds:List α}
  (h:lk rep sz w fp (.slice A n c) ds) (k:Nat) (hk:k<ds.length):
  ∃b o cs f,A=some ⟨b,o,none⟩/\b∈fp/\(∀x∈f,x∈fp)/\rep w f cs ds[k]/\cs.length=sz/\∀j u,cs[j]? =some u->w.cell? ⟨b,o+(k*sz+j),none⟩=some u:=by
 obtain⟨mO,B7,PR,rfl,⟨A',c',hv,_,_,hc⟩,hr⟩:=h
 simp only[Value.slice.injEq]at hv
 obtain⟨rfl,hn,rfl⟩:=hv
 rcases hc with⟨_,h0⟩|⟨b,o,rfl,rfl,hc⟩
 ·omega
 have h1:k<mO.length:=by rw[hr.1];exact hk
 have h2:k<B7.length:=by rw[hr.2.1];exact hk
 obtain⟨fY,hl⟩:=hr.2.2 k _ _ _ (List.getElem?_eq_getElem h1) (List.getElem?_eq_getElem h2) (List.getElem?_eq_getElem hk)
 refine⟨b,o,mO[k],B7[k],rfl,by simp,fun x hx=>List.mem_append_right _ (oL (List.getElem?_eq_getElem h2) x hx),fY,hl,fun j u hj=>?_⟩
 have gn:j<sz:=by rw[<-hl];exact(List.getElem?_eq_some_iff.1 hj).1
 exact hc _ u (by rw[qQ hr.lens (List.getElem?_eq_getElem h1) gn];exact hj)
theorem lk.len {α:Type} {rep:World->List Nat->List Value->α->Prop} {sz:Nat} {w:World} {fp:List Nat} {v:Value} {ds:List α}
  (h:lk rep sz w fp v ds):∃A c,v=.slice A ds.length c/\ds.length<=c/\c<=maxLen:=by
 obtain⟨_,_,_,_,⟨A,c,hv,h1,h2,_⟩,_⟩:=h
 exact⟨A,c,hv,h1,h2⟩
theorem lk.nil {α:Type} (rep:World->List Nat->List Value->α->Prop) (sz:Nat) (w:World):lk rep sz w [] (.slice none 0 0) ([]:List α):=
 ⟨[],[],[],rfl,Sl.nil w,rfl,rfl,fun i cs f d hc=>by simp at hc⟩
def Flat {α:Type} (enc:α->List Value):World->List Nat->List Value->α->Prop:=fun _ f cs d=>f=[]/\cs=enc d
def Q (w w':World):Prop:=∃q,w'=w.drewN q
theorem M0 {B:Nat} {a w:World} (h:Below B a w) (n:Nat):Below B a (w.drewN n):=⟨h.os,h.tape,h.output,h.size,h.block⟩
theorem gH {a b:Bool} (h:a=b):Ending.returned (.bool a)=.returned (.bool b):=by rw[h]
def Unf (w:World) (b:Nat):Prop:=∃cs e,w.heap[b]? =some (.cells cs e (0,0))
structure Only (fp:List Nat) (w w':World):Prop where
 os:w'.os=w.os
 tape:w'.tape=w.tape
 output:w'.output=w.output
 size:w.heap.size<=w'.heap.size
 block:∀x,x<w.heap.size->x∉fp->w'.heap[x]? =w.heap[x]?
 unf:∀x,Unf w x->Unf w' x
structure bx where
 fX:Int
 fy:Int
deriving DecidableEq
structure ak where
 cz:bx
 bw:Int
deriving DecidableEq
structure dd where
 ae:List ak
deriving DecidableEq
structure eS where
 aB:ByteArray
 dF:Int
deriving DecidableEq
structure ef where
 aB:ByteArray
 aY:List Int
deriving DecidableEq
structure aq where
 aw:List eS
 ae:List ef
deriving DecidableEq
structure bV where
 ar:aq
 bR:dd
 aG:Int
deriving DecidableEq
def Dd (d:Int):List Value:=[.int .i64 d]
def BP:=Flat Dd
def z3 (d:ak):List Value:=[.int .i64 d.cz.fX,.int .i64 d.cz.fy,.int .i64 d.bw]
def xC:=Flat z3
def g7:=lk xC 3
def Ft (d:eS):List Value:=[.string d.aB,.int .i64 d.dF]
def EZ:=Flat Ft
def oZ:=lk EZ 2
def so:=lk BP 1
def E0 (w:World) (f:List Nat) (cs:List Value) (d:ef):Prop:=
 ∃v1 f1,f=f1/\cs=[.string d.aB,v1]/\so w f1 v1 d.aY
def o3:=lk E0 2
end Go.Proofs.YtihgaadadaekmaaGreatDoor

namespace Go.Proofs.YtihgaadadaekmaaGreatDoor.V
open Go.RowKit
variable {P:Program} {w:World} {D:Nat->Prop}
def EV (P:Program) (w:World) (D:Nat->Prop) (al:List AV) (cs:List Value):Prop:=∀(j:Nat) (a:AV),al[j]? =some a->∃u:Value,cs[j]? =some u/\jk P w D a u
theorem pM {α:Type} {rep:World->List Nat->List Value->α->Prop} {e:α->List AV} {sz:Nat} {f:List Nat} {v:Value} {xs:List α} (h:lk rep sz w f v xs) (hD:∀b∈f,D b)
  (hl:∀x∈xs,(e x).length=sz) (hc:∀x∈xs,∀a∈e x,a.cell=true) (hr:∀x∈xs,∀f' cs,rep w f' cs x->(∀b∈f',D b)->EV P w D (e x) cs):jk P w D (.sl (xs.map e)) v:=by
 obtain⟨A,c,rfl,h1,h2⟩:=lk.len h
 by_cases h0:xs=[]
 ·subst h0;exact .zE _ _ h2
 have kC:0<xs.length:=List.length_pos_iff.2 h0
 obtain⟨b,o,Mj,f0,rfl,hb,O9,QS,Au,iU⟩:=lk.at_ h 0 kC
 have key:∀(i:Nat) (hi:i<xs.length),∃cs f',(∀x∈f',x∈f)/\rep w f' cs xs[i]/\cs.length=sz/\∀j u,cs[j]? =some u->w.cell? ⟨b,o+(i*sz+j),none⟩=some u:=by
  intro i hi
  obtain⟨b',o',cs,f',O3,_,kJ,mo,dh,jM⟩:=lk.at_ h i hi
  simp only[Option.some.injEq,Addr.mk.injEq,and_true]at O3
  obtain⟨rfl,rfl⟩:=O3
  exact⟨cs,f',kJ,mo,dh,jM⟩
 refine .sl _ b o _ c sz (fun i j=>(w.cell? ⟨b,o+(i*sz+j),none⟩).getD Go.undef) (by simp) h1 h2 (hD b hb) ?_ ?_ ?_ ?_
 ·intro cs dh
  obtain⟨x,hx,rfl⟩:=List.mem_map.1 dh
  exact hl x hx
 ·intro cs dh
  obtain⟨x,hx,rfl⟩:=List.mem_map.1 dh
  exact hc x hx
 ·intro i j hi hj
  obtain⟨cs,f',_,_,dh,jM⟩:=key i hi
  rw[jM j cs[j] (List.getElem?_eq_getElem ab)]
  rfl
 ·intro i j cs a dh ha
  have hi:i<xs.length:=by
   have:=(List.getElem?_eq_some_iff.1 dh).1
   simpa using this
  obtain⟨n8,f',kJ,mo,hcs',jM⟩:=key i hi
  simp[hi]at dh
  subst dh
  obtain⟨u,hu,him⟩:=hr _ (List.getElem_mem hi) f' n8 mo (fun b hb=>hD b (kJ b hb)) j a ha
  rw[jM j u hu]
  exact him
end Go.Proofs.YtihgaadadaekmaaGreatDoor.V

namespace Go.Proofs.YtihgaadadaekmaaGreatDoor.V
open Go.RowKit
variable {P:Program} {w:World} {D:Nat->Prop}
def au (d:Int):List AV:=[.int .i64 d]
def ao (d:bx):List AV:=[.int .i64 d.fX,.int .i64 d.fy]
def ah (d:ak):List AV:=[.int .i64 d.cz.fX,.int .i64 d.cz.fy,.int .i64 d.bw]
def aC (d:dd):List AV:=[.sl (d.ae.map ah)]
def aV (d:eS):List AV:=[.str d.aB,.int .i64 d.dF]
def aU (d:ef):List AV:=[.str d.aB,.sl (d.aY.map au)]
def aa (d:aq):List AV:=[.sl (d.aw.map aV),.sl (d.ae.map aU)]
def az (d:bV):List AV:=[.sl (d.ar.aw.map aV),.sl (d.ar.ae.map aU),.sl (d.bR.ae.map ah),.int .i64 d.aG]
theorem qK {f:List Nat} {v:Value} {xs:List ak} (h:g7 w f v xs) (hD:∀b∈f,D b):jk P w D (.sl (xs.map ah)) v:=
 pM h hD (fun _ _=>rfl) (fun x _ a ha=>by simp[ah]at ha;rcases ha with rfl|rfl|rfl<;>rfl) fun x _ f' cs hr hf=>by
  obtain⟨_,rfl⟩:=hr
  intro j a ha
  match j,ha with
  |0,ha=>simp[ah]at ha;subst ha;exact⟨_,rfl,.int _ _⟩
  |1,ha=>simp[ah]at ha;subst ha;exact⟨_,rfl,.int _ _⟩
  |2,ha=>simp[ah]at ha;subst ha;exact⟨_,rfl,.int _ _⟩
  |j+3,ha=>simp[ah]at ha
theorem vM {d:dd} {f0:List Nat} {v0:Value} (h0:g7 w f0 v0 d.ae) (d0:∀b∈f0,D b):jk P w D (.agg (aC d)) (.agg #[v0]):=by
 refine .agg _ _ (fun j=>(#[v0]:Array Value).getD j Go.undef) rfl (fun a ha=>by simp[aC]at ha;rcases ha with rfl<;>rfl) (fun j hj=>?_) (fun j a ha=>?_)
 ·match j,hj with
  |0,_=>rfl
  |j+1,hj=>simp[aC]at hj<;>omega
 ·match j,ha with
  |0,ha=>simp[aC]at ha;subst ha;exact qK h0 d0
  |j+1,ha=>simp[aC]at ha
theorem CP {f:List Nat} {v:Value} {xs:List eS} (h:oZ w f v xs) (hD:∀b∈f,D b):jk P w D (.sl (xs.map aV)) v:=
 pM h hD (fun _ _=>rfl) (fun x _ a ha=>by simp[aV]at ha;rcases ha with rfl|rfl<;>rfl) fun x _ f' cs hr hf=>by
  obtain⟨_,rfl⟩:=hr
  intro j a ha
  match j,ha with
  |0,ha=>simp[aV]at ha;subst ha;exact⟨_,rfl,.str _⟩
  |1,ha=>simp[aV]at ha;subst ha;exact⟨_,rfl,.int _ _⟩
  |j+2,ha=>simp[aV]at ha
theorem zJ {f:List Nat} {v:Value} {xs:List Int} (h:so w f v xs) (hD:∀b∈f,D b):jk P w D (.sl (xs.map au)) v:=
 pM h hD (fun _ _=>rfl) (fun x _ a ha=>by simp[au]at ha;rcases ha with rfl<;>rfl) fun x _ f' cs hr hf=>by
  obtain⟨_,rfl⟩:=hr
  intro j a ha
  match j,ha with
  |0,ha=>simp[au]at ha;subst ha;exact⟨_,rfl,.int _ _⟩
  |j+1,ha=>simp[au]at ha
theorem CT {f:List Nat} {v:Value} {xs:List ef} (h:o3 w f v xs) (hD:∀b∈f,D b):jk P w D (.sl (xs.map aU)) v:=
 pM h hD (fun _ _=>rfl) (fun x _ a ha=>by simp[aU]at ha;rcases ha with rfl|rfl<;>rfl) fun x _ f' cs hr hf=>by
  obtain⟨v1,f1,rfl,rfl,h1⟩:=hr
  intro j a ha
  match j,ha with
  |0,ha=>simp[aU]at ha;subst ha;exact⟨_,rfl,.str _⟩
  |1,ha=>simp[aU]at ha;subst ha;exact⟨_,rfl,zJ h1 hf⟩
  |j+2,ha=>simp[aU]at ha
theorem zM {d:bV} {f0:List Nat} {v0:Value} (h0:oZ w f0 v0 d.ar.aw) (d0:∀b∈f0,D b) {f1:List Nat} {v1:Value} (h1:o3 w f1 v1 d.ar.ae) (d1:∀b∈f1,D b) {f2:List Nat} {v2:Value} (h2:g7 w f2 v2 d.bR.ae) (d2:∀b∈f2,D b):jk P w D (.agg (az d)) (.agg #[v0,v1,v2,.int .i64 d.aG]):=by
 refine .agg _ _ (fun j=>(#[v0,v1,v2,.int .i64 d.aG]:Array Value).getD j Go.undef) rfl (fun a ha=>by simp[az]at ha;rcases ha with rfl|rfl|rfl|rfl<;>rfl) (fun j hj=>?_) (fun j a ha=>?_)
 ·match j,hj with
  |0,_=>rfl
  |1,_=>rfl
  |2,_=>rfl
  |3,_=>rfl
  |j+4,hj=>simp[az]at hj<;>omega
 ·match j,ha with
  |0,ha=>simp[az]at ha;subst ha;exact CP h0 d0
  |1,ha=>simp[az]at ha;subst ha;exact CT h1 d1
  |2,ha=>simp[az]at ha;subst ha;exact qK h2 d2
  |3,ha=>simp[az]at ha;subst ha;exact .int _ _
  |j+4,ha=>simp[az]at ha
end Go.Proofs.YtihgaadadaekmaaGreatDoor.V

namespace Go.Proofs.YtihgaadadaekmaaGreatDoor.V
open Go.RowKit
attribute [local irreducible] dO wpOps gO Call
attribute [local go_sem] aH fF eF fR fQ cu upd cm K.av cJ AV.cells AV.cell rowOf rowsOf part ld rowAt bI bU dG ei il bJ da eB fW eZ dq ep cY cX dU dV bP bd cQ bL cT cR ek er eo cP bS cZ ej bK aL cV cw ik br cI bQ aZ dz bl dI AV.undef bB bH dY eh dR ea cE eA eE cr ev eu cU cW List.getD_cons_zero List.getD_cons_succ List.getD_nil List.all_cons List.all_nil Bool.and_true Bool.true_and Bool.and_self Bool.not_true Bool.not_false Option.map_some Option.map_none Option.bind_some Option.bind_none List.length_cons List.length_nil List.take_succ_cons List.take_zero List.take_nil List.drop_succ_cons List.drop_zero List.drop_nil List.head?_cons List.map_cons List.map_nil List.getElem?_cons_zero List.getElem?_cons_succ List.cons_append List.nil_append List.append_nil List.length_map List.set_cons_zero List.set_cons_succ Nat.reduceMul eq_self Int.toNat_natCast Int.natCast_nonneg and_self true_and and_true decide_true decide_false Bool.false_eq_true Nat.zero_add Nat.add_zero List.contains_cons List.contains_nil Bool.or_false Bool.false_or beq_self_eq_true Nat.reduceBEq ne_eq not_true_eq_false not_false_eq_true Id.mk.injEq false_and and_false Nat.reduceLT Int.reduceLE Int.reduceLT Int.reduceToNat Int.reduceNeg Int.reduceAdd Nat.le_refl List.length_append beq_true beq_false Bool.not_eq_eq_eq_not or_false false_or dC ad aj aE bz cj aT bj aX bf cK bG
variable {P:Program}
theorem Hc {X:eW} {Q:Ex->Env->ax->Prop} {N:Env->ax->Prop} {c:VC} {env:Env} {σ:ax} (I:Env->ax->Prop) (h2:∀e s,I e s->N e s) (h1:∀N':Env->ax->Prop,(∀e s,I e s->N' e s)->dO X c (dz N' Q) env σ):dO X c (dz N Q) env σ:=h1 N h2
def sY (f z:Nat) (a:Bool):xj:=let s:=f*1000000
 ⟨19,2,(.seq (.eb false [q 4 (.cF (.k (.int .i64 0))) s]) (.seq (.seq (.eb false [q 6 (.cF (.t 0)) (s+1000),q 7 (.len (.t 6)) (s+1001),q 8 (.cF (.k (.int .i64 0))) (s+1002)]) (.block 0 (.loop (.seq (.eb false [q 9 (.bin .lss .i64 (.t 8) (.t 7)) (s+2000)]) (.seq (.cond (.t 9) .skip (.exit 0)) (.seq (.block 1 (.seq (.eb false [q 10 (.cF (.t 8)) (s+3000),q 5 (.cF (.t 10)) (s+3001)]) (.seq (.eb false [q 11 (.cF (.t 1)) (s+4000),q 12 (.cF (.t 0)) (s+4001),q 13 (.cF (.t 5)) (s+4002),q 14 (.dm z (.t 12) (.t 13)) (s+4003),q 15 (.load a z (.t 14)) (s+4004),q 16 (.qN (.t 11) [(.t 15)]) (s+4005)]) (.cond (.t 16) (.seq (.eb false [q 17 (.cF (.t 5)) (s+5000),q 4 (.cF (.t 17)) (s+5001)]) .ret) .skip)))) (.eb false [q 18 (.bin .add .i64 (.t 8) (.k (.int .i64 1))) (s+6000),q 8 (.cF (.t 18)) (s+6001)]))))))) (.seq (.eb false [q 4 (.cF (.k (.int .i64 (-1)))) (s+7000)]) .ret))),[(.tmp 4)]⟩
def Ar (f g:Nat):xj:=let s:=f*1000000
 ⟨9,2,(.seq (.eb false [q 4 (.cF (.k (.bool false))) s]) (.seq (.eb false [q 5 (.cF (.t 0)) (s+1000),q 6 (.cF (.t 1)) (s+1001),q 7 (.call g [(.t 5),(.t 6)]) (s+1002),q 8 (.bin .geq .i64 (.t 7) (.k (.int .i64 0))) (s+1003),q 4 (.cF (.t 8)) (s+1004)]) .ret)),[(.tmp 4)]⟩
def jw {α:Type} (p:α->Bool) (xs:List α):Int:=if xs.findIdx p<xs.length then(xs.findIdx p:Int)else -1
theorem Fy {α:Type} (p:α->Bool) (xs:List α):decide (0<=jw p xs)=xs.any p:=by
 unfold jw
 by_cases h:xs.findIdx p<xs.length
 ·rw[if_pos h]
  have:xs.any p=true:=List.any_eq_true.2 (List.findIdx_lt_length.1 h)
  rw[this];simp
 ·rw[if_neg h]
  have:xs.any p=false:=by
   rw[Bool.eq_false_iff]
   intro hc
   exact h (List.findIdx_lt_length.2 (List.any_eq_true.1 hc))
  rw[this];rfl
theorem rQ (a:AV) (l m:List AV):a::l++m=a::(l++m):=rfl
theorem vQ (l:List AV):[]++l=l:=rfl
structure MP {α:Type} (e:α->List AV) (v:α->AV) (z:Nat) (a:Bool):Prop where
 len:∀x,(e x).length=z
 val:∀x,if a=true then v x=.agg (e x)else e x=[v x]
 fz:∀x g,bY g 6 [v x]=some [v x]
theorem q9 {α:Type} {e:α->List AV} {v:α->AV} {z fk:Nat} {a:Bool} (hE:MP e v z a) (hc:lr P fk=some (sY fk z a)) (xs:List α) (hlen:xs.length<=1048576) (f:Nat) (cq:List AV) (p:α->Bool)
  (hf:∀x∈xs,ai P f (v x::cq) (.bool (p x))) (FL:∀g,bY g 6 cq=some cq):
  ai P fk [.sl (xs.map e),.fn f cq] (.int .i64 (jw p xs)):=by
 refine ai.body hc rfl fun hl n0=>?_
 try simp only[q]
 clear hl
 (try((repeat(revert hN;revert N;apply Pn.out));refine wk @Nat.zero_add ?_;(repeat(refine Pn.mk ?_;intro N hN))))
 refine aJ (fun n env st=>∃k:Nat,n=(xs.length)-k/\k<=(xs.length)/\env 8=.int .i64 (k:Int)/\(∀j:Nat,j<k->∀h:j<xs.length,p xs[j]=false)) (xs.length) ⟨0,ab,ab,sl @Nat.zero_add,fun _ h=>absurd h (Nat.not_lt_zero _)⟩ ?_
 rintro n_a env_a st_a ⟨k,rfl,ale,a8,j9⟩ dE
 have a0:=dE 0 (by kernel_rfl);have a1:=dE 1 (by kernel_rfl);have a7:=dE 7 (by kernel_rfl)
 simp only[go_sem, ↓reduceIte,Nat.reduceEqDiff,Nat.reduceAdd,Nat.reduceSub,Nat.reduceLeDiff,reduceCtorEq]at a0 a1 a7
 clear dE
 by_cases hk:(k:Int)<(xs.length:Int)
 ·have cl:∀{e:Env},(e 8=.int .i64 (IntKind.i64.wrap ((k:Int)+1)))->(∀h:k<xs.length,p xs[k]=false)->∃m0,m0<(xs.length)-k/\∃k:Nat,m0=(xs.length)-k/\k<=(xs.length)/\e 8=.int .i64 (k:Int)/\(∀j:Nat,j<k->∀h:j<xs.length,p xs[j]=false):=fun x1 x2=>⟨_,ab,k+1,rfl,ab,(by rw[x1,aA ab]),(all_succ j9 x2)⟩
  have eO:k<xs.length:=ab
  have hg:(xs.map e)[k]? =some (e xs[k]):=by simp[eO]
  have Ci:=hf _ (List.getElem_mem eO)
  have hz:=hE.len xs[k]
  have hv:=hE.val xs[k]
  have kN:bY (dC st_a.get) 6 (v xs[k]::cq)=some (v xs[k]::cq):=by
   have h1:=hE.fz xs[k] (dC st_a.get)
   rw[ad,aj]at h1
   rw[ad,FL]
   revert h1
   cases V.fz (dC st_a.get) 6 (v xs[k])<;>simp
  have fin:∀hN:True,(p xs[k]=true->xs.findIdx p=k):=fun _ hp=>by
   rw[List.findIdx_eq eO];exact⟨hp,fun j hj=>j9 j hj ab⟩
  cases hp:p xs[k]
  ·have Pm:=hp
   cases a
   ·rw[if_neg (by simp)]at hv
    have xw:z=1:=by rw[<-hz,hv];rfl
    subst xw
    rw[hv]at hg hz
    rw[hp]at Ci
    generalize v xs[k]=c at Ci kN hg hz
    (try((repeat(revert hN;revert N;apply Pn.out));refine wk (tw @a8 (tw @a0 (tw @a1 (tw @a7 (tw @hk (tw @hg (tw @hz (tw @rQ @vQ)))))))) ?_;(repeat(refine Pn.mk ?_;intro N hN))))
    refine .inl ⟨_,ai.x Ci kN,?_⟩
    refine hN _ _ ?_
    clear hN N
    (try((repeat(revert hN;revert N;apply Pn.out));refine wk (tw @a8 (tw @a0 (tw @a1 @a7))) ?_;(repeat(refine Pn.mk ?_;intro N hN))))
    exact cl (sd (tw @a8 (tw @a0 (tw @a1 @a7)))) (fun _=>Pm)
   ·rw[if_pos rfl]at hv
    have ht:(e xs[k]).take z=e xs[k]:=by rw[<-hz,List.take_length]
    rw[hv]at Ci kN
    rw[hp]at Ci
    generalize e xs[k]=c at Ci kN hg hz ht
    (try((repeat(revert hN;revert N;apply Pn.out));refine wk (tw @a8 (tw @a0 (tw @a1 (tw @a7 (tw @hk (tw @hg (tw @hz (tw @ht (tw @rQ (tw @vQ @Nat.le_refl)))))))))) ?_;(repeat(refine Pn.mk ?_;intro N hN))))
    refine .inl ⟨_,ai.x Ci kN,?_⟩
    refine hN _ _ ?_
    clear hN N
    (try((repeat(revert hN;revert N;apply Pn.out));refine wk (tw @a8 (tw @a0 (tw @a1 @a7))) ?_;(repeat(refine Pn.mk ?_;intro N hN))))
    exact cl (sd (tw @a8 (tw @a0 (tw @a1 @a7)))) (fun _=>Pm)
  ·have hi:=fin trivial hp
   cases a
   ·rw[if_neg (by simp)]at hv
    have xw:z=1:=by rw[<-hz,hv];rfl
    subst xw
    rw[hv]at hg hz
    rw[hp]at Ci
    generalize v xs[k]=c at Ci kN hg hz
    (try((repeat(revert hN;revert N;apply Pn.out));refine wk (tw @a8 (tw @a0 (tw @a1 (tw @a7 (tw @hk (tw @hg (tw @hz (tw @rQ @vQ)))))))) ?_;(repeat(refine Pn.mk ?_;intro N hN))))
    refine .inl ⟨_,ai.x Ci kN,?_⟩
    refine hN _ _ ?_
    clear hN N
    (try((repeat(revert hN;revert N;apply Pn.out));refine wk (tw @a8 (tw @a0 (tw @a1 @a7))) ?_;(repeat(refine Pn.mk ?_;intro N hN))))
    exact bq (b:=(k:Int)) (.inl rfl) (sd @Nat.zero_add) (by rw[jw,hi,if_pos eO])
   ·rw[if_pos rfl]at hv
    have ht:(e xs[k]).take z=e xs[k]:=by rw[<-hz,List.take_length]
    rw[hv]at Ci kN
    rw[hp]at Ci
    generalize e xs[k]=c at Ci kN hg hz ht
    (try((repeat(revert hN;revert N;apply Pn.out));refine wk (tw @a8 (tw @a0 (tw @a1 (tw @a7 (tw @hk (tw @hg (tw @hz (tw @ht (tw @rQ (tw @vQ @Nat.le_refl)))))))))) ?_;(repeat(refine Pn.mk ?_;intro N hN))))
    refine .inl ⟨_,ai.x Ci kN,?_⟩
    refine hN _ _ ?_
    clear hN N
    (try((repeat(revert hN;revert N;apply Pn.out));refine wk (tw @a8 (tw @a0 (tw @a1 @a7))) ?_;(repeat(refine Pn.mk ?_;intro N hN))))
    exact bq (b:=(k:Int)) (.inl rfl) (sd @Nat.zero_add) (by rw[jw,hi,if_pos eO])
 ·(try((repeat(revert hN;revert N;apply Pn.out));refine wk (tw @a8 (tw @a0 (tw @a1 (tw @a7 @hk)))) ?_;(repeat(refine Pn.mk ?_;intro N hN))))
  have hi:¬xs.findIdx p<xs.length:=by
   rw[List.findIdx_lt_length]
   rintro⟨x,hx,K8⟩
   obtain⟨j,hj,rfl⟩:=List.getElem_of_mem hx
   rw[j9 j ab hj]at K8;cases K8
  exact bq (b:=-1) (.inl rfl) (sd @Nat.zero_add) (by rw[jw,if_neg hi])
theorem mM {α:Type} {e:α->List AV} {v:α->AV} {z fk gk:Nat} {a:Bool} (hE:MP e v z a) (hc:lr P fk=some (Ar fk gk)) (Dr:lr P gk=some (sY gk z a)) (xs:List α) (hlen:xs.length<=1048576) (f:Nat) (cq:List AV) (p:α->Bool) (H6:cq.all AV.cell=true) (Cf:∀g,bY g 5 cq=some cq)
  (hf:∀x∈xs,ai P f (v x::cq) (.bool (p x))) (FL:∀g,bY g 6 cq=some cq):
  ai P fk [.sl (xs.map e),.fn f cq] (.bool (xs.any p)):=by
 refine ai.body hc rfl fun hl n0=>?_
 try simp only[q]
 clear hl
 have hi:=q9 hE Dr xs hlen f cq p hf FL
 (repeat(first|((repeat(revert hN;revert N;apply Pn.out));refine wk (tw @H6 @Cf) ?_;(repeat(refine Pn.mk ?_;intro N hN)))|((try apply Or.inl);refine⟨_,ai.x (hi) (sd (tw @H6 @Cf)),?_⟩;refine hN _ _ ?_;clear hN N)))
 exact aI (b:=decide (0<=jw p xs)) (.inl rfl) (sd @Nat.zero_add) (Fy p xs)
end Go.Proofs.YtihgaadadaekmaaGreatDoor.V

namespace Go.Proofs.YtihgaadadaekmaaGreatDoor.V
open Go.RowKit
def pz (P:Program) (mk:Bool):List Oper->Nat->List Nat
 |[],_=>[]
 |o::r,i=>match oR P o.op with
  |some v=>if oK v||mk&&v.kD then i::pz P mk r (i+1)else pz P mk r (i+1)
  |none=>pz P mk r (i+1)
def vV (P:Program) (ops:Array Oper) (site0:Nat) (mk:Bool) (bs:Array Nat) (hidden:List Nat):List Oper->Nat->Option (List aW)
 |[],_=>some []
 |o::r,j=>do
  let v <-oR P o.op
  let g <-zV ops o
  pure ({dst:=o.dst,op:=v,guard:=g,site:=site0+j,hid:=(hidden.filter fun i=> !(bs.getD j 0).testBit i&&(i !=j||mk&&v.kD)).map fun i=>site0+i}::(<-vV P ops site0 mk bs hidden r (j+1)))
def mK (P:Program) (md:List (Nat×Nat)) (sF:Nat):Code->Option VC
 | .skip=>some .skip
 | .region id ops draw=>if draw then(vV P ops ((sF*1000+id)*1000) (s9 md id==1) (iP ops) (pz P (s9 md id==1) ops.toList 0) ops.toList 0).map (VC.eb true)else(vV P ops ((sF*1000+id)*1000) false #[] [] ops.toList 0).map (if ops.toList.any fun o=>JS o.op then VC.Kp else VC.eb false)
 | .seq a b=>do pure (.seq (<-mK P md sF a) (<-mK P md sF b))
 | .cond c x y=>do pure (.cond (<-cO P c) (<-mK P md sF x) (<-mK P md sF y))
 | .block id c=>(mK P md sF c).map (VC.block id)
 | .loop c=>(mK P md sF c).map VC.loop
 | .exit id=>some (.exit id)
 | .ret=>some .ret
 | .label _=>some .skip
 | .scope c=>mK P md sF c
 |_=>none
def M1 (P:Program) (md:List (Nat×Nat)) (f:Nat):Option xj:=
 match P.funcs[f]? with
 |some fn=>match fn.body with
  |some c=>do
   let b <-mK P md f c
   let r <-fn.results.toList.mapM (CZ P)
   pure {ntmps:=fn.ntmps,vq:=fn.params.size+fn.nfree,body:=b,res:=r}
  |none=>none
 |none=>none
theorem cfM {P:Program} (md:List (Nat×Nat)) {f:Nat} {v:xj} (_:M1 P md f=some v:=by(conv=>lhs;cbv)<;>exact rfl) (h:ua P f md=some v:=by kernel_rfl):ua P f md=some v:=h
theorem dP {P:Program} {f:Nat} {v:xj} (_:M1 P [] f=some v:=by(conv=>lhs;cbv)<;>exact rfl) (h:lr P f=some v:=by kernel_rfl):lr P f=some v:=h
def LR:xj:=⟨77,2,(.seq (.eb false [q 4 (.cF (.k .fZ)) 165000000]) (.seq (.eb false [q 7 (.cF (.t 0)) 165001000,q 8 (.cF (.t 1)) 165001001,q 9 (.build [(.int .i64 0),.bE,.bE,.bE] [(0,(1,(.t 7))),(1,(1,(.t 8)))]) 165001002,q 10 (.box (.t 9)) 165001003,q 5 (.cF (.t 10)) 165001004]) (.seq (.eb false [q 11 (.cF (.t 5)) 165002000,q 12 (.cF (.t 0)) 165002001,q 13 (.jg [.bE] (.t 12) (.t 12)) 165002002,q 14 (.xX (.t 11)) 165002003,q 15 (.fq 2 (.t 14)) 165002004,⟨none,(.store 1 (.t 15) (.t 13)),none,165002005,[]⟩]) (.seq (.eb false [q 16 (.cF (.t 5)) 165003000,q 17 (.cF (.t 1)) 165003001,q 18 (.len (.t 17)) 165003002,q 19 (.jg [(.int .i64 0)] (.t 18) (.t 18)) 165003003,q 20 (.xX (.t 16)) 165003004,q 21 (.fq 3 (.t 20)) 165003005,⟨none,(.store 1 (.t 21) (.t 19)),none,165003006,[]⟩]) (.seq (.seq (.eb false [q 6 (.cF (.k (.int .i64 0))) 165004000]) (.block 0 (.loop (.seq (.seq (.eb false [q 22 (.cF (.t 6)) 165005000,q 23 (.cF (.t 1)) 165005001,q 24 (.len (.t 23)) 165005002,q 25 (.bin .lss .i64 (.t 22) (.t 24)) 165005003]) (.cond (.t 25) .skip (.exit 0))) (.seq (.block 1 (.seq (.one ⟨(some 28),(.cF (.t 5)),none,165007000,[165007021,165007022,165007024]⟩ (.one ⟨(some 29),(.xX (.t 28)),none,165007001,[165007021,165007022,165007024]⟩ (.one ⟨(some 30),(.fq 2 (.t 29)),none,165007002,[165007021,165007022,165007024]⟩ (.one ⟨(some 32),(.cF (.t 1)),none,165007004,[165007021,165007022,165007024]⟩ (.one ⟨(some 33),(.cF (.t 6)),none,165007005,[165007021,165007022,165007024]⟩ (.one ⟨(some 37),(.cF (.t 5)),none,165007009,[165007021,165007022,165007024]⟩ (.one ⟨(some 38),(.xX (.t 37)),none,165007010,[165007021,165007022,165007024]⟩ (.one ⟨(some 39),(.fq 2 (.t 38)),none,165007011,[165007021,165007022,165007024]⟩ (.one ⟨(some 40),(.load false 1 (.t 39)),none,165007012,[165007021,165007022,165007024]⟩ (.one ⟨(some 41),(.cF (.t 1)),none,165007013,[165007021,165007022,165007024]⟩ (.one ⟨(some 42),(.cF (.t 6)),none,165007014,[165007021,165007022,165007024]⟩ (.one ⟨(some 43),(.dm 3 (.t 41) (.t 42)),none,165007015,[165007021,165007022,165007024]⟩ (.one ⟨(some 44),(.fq 0 (.t 43)),none,165007016,[165007021,165007022,165007024]⟩ (.one ⟨(some 45),(.load false 1 (.t 44)),none,165007017,[165007021,165007022,165007024]⟩ (.one ⟨(some 46),(.dm 1 (.t 40) (.t 45)),none,165007018,[165007021,165007022,165007024]⟩ (.one ⟨(some 47),(.load false 1 (.t 46)),none,165007019,[165007021,165007022,165007024]⟩ (.one ⟨(some 48),(.cF (.t 6)),none,165007020,[165007021,165007022,165007024]⟩ (.one ⟨(some 49),(.lq 1 1 [(.t 48)]),none,165007021,[165007022,165007024]⟩ (.both (.one ⟨(some 31),(.load false 1 (.t 30)),none,165007003,[165007021,165007022,165007024]⟩ (.both (.one ⟨(some 34),(.dm 3 (.t 32) (.t 33)),none,165007006,[165007021,165007022,165007024]⟩ (.one ⟨(some 35),(.fq 0 (.t 34)),none,165007007,[165007021,165007022,165007024]⟩ (.both (.one ⟨(some 36),(.load false 1 (.t 35)),none,165007008,[165007021,165007022,165007024]⟩ (.one ⟨(some 50),(.append 1 (.t 47) (.t 49)),none,165007022,[165007024]⟩ (.one ⟨(some 51),(.dm 1 (.t 31) (.t 36)),none,165007023,[165007024]⟩ (.one ⟨none,(.store 1 (.t 51) (.t 50)),none,165007024,[]⟩ (.eb false []))))) (.one ⟨(some 50),(.append 1 (.t 47) (.t 49)),none,165007022,[165007024]⟩ (.one ⟨(some 36),(.load false 1 (.t 35)),none,165007008,[165007021,165007022,165007024]⟩ (.one ⟨(some 51),(.dm 1 (.t 31) (.t 36)),none,165007023,[165007024]⟩ (.one ⟨none,(.store 1 (.t 51) (.t 50)),none,165007024,[]⟩ (.eb false [])))))))) (.one ⟨(some 50),(.append 1 (.t 47) (.t 49)),none,165007022,[165007024]⟩ (.one ⟨(some 34),(.dm 3 (.t 32) (.t 33)),none,165007006,[165007021,165007022,165007024]⟩ (.one ⟨(some 35),(.fq 0 (.t 34)),none,165007007,[165007021,165007022,165007024]⟩ (.one ⟨(some 36),(.load false 1 (.t 35)),none,165007008,[165007021,165007022,165007024]⟩ (.one ⟨(some 51),(.dm 1 (.t 31) (.t 36)),none,165007023,[165007024]⟩ (.one ⟨none,(.store 1 (.t 51) (.t 50)),none,165007024,[]⟩ (.eb false []))))))))) (.both (.one ⟨(some 34),(.dm 3 (.t 32) (.t 33)),none,165007006,[165007021,165007022,165007024]⟩ (.one ⟨(some 35),(.fq 0 (.t 34)),none,165007007,[165007021,165007022,165007024]⟩ (.both (.one ⟨(some 31),(.load false 1 (.t 30)),none,165007003,[165007021,165007022,165007024]⟩ (.both (.one ⟨(some 36),(.load false 1 (.t 35)),none,165007008,[165007021,165007022,165007024]⟩ (.one ⟨(some 50),(.append 1 (.t 47) (.t 49)),none,165007022,[165007024]⟩ (.one ⟨(some 51),(.dm 1 (.t 31) (.t 36)),none,165007023,[165007024]⟩ (.one ⟨none,(.store 1 (.t 51) (.t 50)),none,165007024,[]⟩ (.eb false []))))) (.one ⟨(some 50),(.append 1 (.t 47) (.t 49)),none,165007022,[165007024]⟩ (.one ⟨(some 36),(.load false 1 (.t 35)),none,165007008,[165007021,165007022,165007024]⟩ (.one ⟨(some 51),(.dm 1 (.t 31) (.t 36)),none,165007023,[165007024]⟩ (.one ⟨none,(.store 1 (.t 51) (.t 50)),none,165007024,[]⟩ (.eb false []))))))) (.both (.one ⟨(some 36),(.load false 1 (.t 35)),none,165007008,[165007021,165007022,165007024]⟩ (.both (.one ⟨(some 31),(.load false 1 (.t 30)),none,165007003,[165007021,165007022,165007024]⟩ (.one ⟨(some 50),(.append 1 (.t 47) (.t 49)),none,165007022,[165007024]⟩ (.one ⟨(some 51),(.dm 1 (.t 31) (.t 36)),none,165007023,[165007024]⟩ (.one ⟨none,(.store 1 (.t 51) (.t 50)),none,165007024,[]⟩ (.eb false []))))) (.one ⟨(some 50),(.append 1 (.t 47) (.t 49)),none,165007022,[165007024]⟩ (.one ⟨(some 31),(.load false 1 (.t 30)),none,165007003,[165007021,165007022,165007024]⟩ (.one ⟨(some 51),(.dm 1 (.t 31) (.t 36)),none,165007023,[165007024]⟩ (.one ⟨none,(.store 1 (.t 51) (.t 50)),none,165007024,[]⟩ (.eb false []))))))) (.one ⟨(some 50),(.append 1 (.t 47) (.t 49)),none,165007022,[165007024]⟩ (.one ⟨(some 31),(.load false 1 (.t 30)),none,165007003,[165007021,165007022,165007024]⟩ (.one ⟨(some 36),(.load false 1 (.t 35)),none,165007008,[165007021,165007022,165007024]⟩ (.one ⟨(some 51),(.dm 1 (.t 31) (.t 36)),none,165007023,[165007024]⟩ (.one ⟨none,(.store 1 (.t 51) (.t 50)),none,165007024,[]⟩ (.eb false [])))))))))) (.one ⟨(some 50),(.append 1 (.t 47) (.t 49)),none,165007022,[165007024]⟩ (.one ⟨(some 31),(.load false 1 (.t 30)),none,165007003,[165007021,165007022,165007024]⟩ (.one ⟨(some 34),(.dm 3 (.t 32) (.t 33)),none,165007006,[165007021,165007022,165007024]⟩ (.one ⟨(some 35),(.fq 0 (.t 34)),none,165007007,[165007021,165007022,165007024]⟩ (.one ⟨(some 36),(.load false 1 (.t 35)),none,165007008,[165007021,165007022,165007024]⟩ (.one ⟨(some 51),(.dm 1 (.t 31) (.t 36)),none,165007023,[165007024]⟩ (.one ⟨none,(.store 1 (.t 51) (.t 50)),none,165007024,[]⟩ (.eb false [])))))))))))))))))))))))))))) (.one ⟨(some 52),(.cF (.t 5)),none,165008000,[165008021,165008022,165008024]⟩ (.one ⟨(some 53),(.xX (.t 52)),none,165008001,[165008021,165008022,165008024]⟩ (.one ⟨(some 54),(.fq 2 (.t 53)),none,165008002,[165008021,165008022,165008024]⟩ (.one ⟨(some 56),(.cF (.t 1)),none,165008004,[165008021,165008022,165008024]⟩ (.one ⟨(some 57),(.cF (.t 6)),none,165008005,[165008021,165008022,165008024]⟩ (.one ⟨(some 61),(.cF (.t 5)),none,165008009,[165008021,165008022,165008024]⟩ (.one ⟨(some 62),(.xX (.t 61)),none,165008010,[165008021,165008022,165008024]⟩ (.one ⟨(some 63),(.fq 2 (.t 62)),none,165008011,[165008021,165008022,165008024]⟩ (.one ⟨(some 64),(.load false 1 (.t 63)),none,165008012,[165008021,165008022,165008024]⟩ (.one ⟨(some 65),(.cF (.t 1)),none,165008013,[165008021,165008022,165008024]⟩ (.one ⟨(some 66),(.cF (.t 6)),none,165008014,[165008021,165008022,165008024]⟩ (.one ⟨(some 67),(.dm 3 (.t 65) (.t 66)),none,165008015,[165008021,165008022,165008024]⟩ (.one ⟨(some 68),(.fq 1 (.t 67)),none,165008016,[165008021,165008022,165008024]⟩ (.one ⟨(some 69),(.load false 1 (.t 68)),none,165008017,[165008021,165008022,165008024]⟩ (.one ⟨(some 70),(.dm 1 (.t 64) (.t 69)),none,165008018,[165008021,165008022,165008024]⟩ (.one ⟨(some 71),(.load false 1 (.t 70)),none,165008019,[165008021,165008022,165008024]⟩ (.one ⟨(some 72),(.cF (.t 6)),none,165008020,[165008021,165008022,165008024]⟩ (.one ⟨(some 73),(.lq 1 1 [(.t 72)]),none,165008021,[165008022,165008024]⟩ (.both (.one ⟨(some 55),(.load false 1 (.t 54)),none,165008003,[165008021,165008022,165008024]⟩ (.both (.one ⟨(some 58),(.dm 3 (.t 56) (.t 57)),none,165008006,[165008021,165008022,165008024]⟩ (.one ⟨(some 59),(.fq 1 (.t 58)),none,165008007,[165008021,165008022,165008024]⟩ (.both (.one ⟨(some 60),(.load false 1 (.t 59)),none,165008008,[165008021,165008022,165008024]⟩ (.one ⟨(some 74),(.append 1 (.t 71) (.t 73)),none,165008022,[165008024]⟩ (.one ⟨(some 75),(.dm 1 (.t 55) (.t 60)),none,165008023,[165008024]⟩ (.one ⟨none,(.store 1 (.t 75) (.t 74)),none,165008024,[]⟩ (.eb false []))))) (.one ⟨(some 74),(.append 1 (.t 71) (.t 73)),none,165008022,[165008024]⟩ (.one ⟨(some 60),(.load false 1 (.t 59)),none,165008008,[165008021,165008022,165008024]⟩ (.one ⟨(some 75),(.dm 1 (.t 55) (.t 60)),none,165008023,[165008024]⟩ (.one ⟨none,(.store 1 (.t 75) (.t 74)),none,165008024,[]⟩ (.eb false [])))))))) (.one ⟨(some 74),(.append 1 (.t 71) (.t 73)),none,165008022,[165008024]⟩ (.one ⟨(some 58),(.dm 3 (.t 56) (.t 57)),none,165008006,[165008021,165008022,165008024]⟩ (.one ⟨(some 59),(.fq 1 (.t 58)),none,165008007,[165008021,165008022,165008024]⟩ (.one ⟨(some 60),(.load false 1 (.t 59)),none,165008008,[165008021,165008022,165008024]⟩ (.one ⟨(some 75),(.dm 1 (.t 55) (.t 60)),none,165008023,[165008024]⟩ (.one ⟨none,(.store 1 (.t 75) (.t 74)),none,165008024,[]⟩ (.eb false []))))))))) (.both (.one ⟨(some 58),(.dm 3 (.t 56) (.t 57)),none,165008006,[165008021,165008022,165008024]⟩ (.one ⟨(some 59),(.fq 1 (.t 58)),none,165008007,[165008021,165008022,165008024]⟩ (.both (.one ⟨(some 55),(.load false 1 (.t 54)),none,165008003,[165008021,165008022,165008024]⟩ (.both (.one ⟨(some 60),(.load false 1 (.t 59)),none,165008008,[165008021,165008022,165008024]⟩ (.one ⟨(some 74),(.append 1 (.t 71) (.t 73)),none,165008022,[165008024]⟩ (.one ⟨(some 75),(.dm 1 (.t 55) (.t 60)),none,165008023,[165008024]⟩ (.one ⟨none,(.store 1 (.t 75) (.t 74)),none,165008024,[]⟩ (.eb false []))))) (.one ⟨(some 74),(.append 1 (.t 71) (.t 73)),none,165008022,[165008024]⟩ (.one ⟨(some 60),(.load false 1 (.t 59)),none,165008008,[165008021,165008022,165008024]⟩ (.one ⟨(some 75),(.dm 1 (.t 55) (.t 60)),none,165008023,[165008024]⟩ (.one ⟨none,(.store 1 (.t 75) (.t 74)),none,165008024,[]⟩ (.eb false []))))))) (.both (.one ⟨(some 60),(.load false 1 (.t 59)),none,165008008,[165008021,165008022,165008024]⟩ (.both (.one ⟨(some 55),(.load false 1 (.t 54)),none,165008003,[165008021,165008022,165008024]⟩ (.one ⟨(some 74),(.append 1 (.t 71) (.t 73)),none,165008022,[165008024]⟩ (.one ⟨(some 75),(.dm 1 (.t 55) (.t 60)),none,165008023,[165008024]⟩ (.one ⟨none,(.store 1 (.t 75) (.t 74)),none,165008024,[]⟩ (.eb false []))))) (.one ⟨(some 74),(.append 1 (.t 71) (.t 73)),none,165008022,[165008024]⟩ (.one ⟨(some 55),(.load false 1 (.t 54)),none,165008003,[165008021,165008022,165008024]⟩ (.one ⟨(some 75),(.dm 1 (.t 55) (.t 60)),none,165008023,[165008024]⟩ (.one ⟨none,(.store 1 (.t 75) (.t 74)),none,165008024,[]⟩ (.eb false []))))))) (.one ⟨(some 74),(.append 1 (.t 71) (.t 73)),none,165008022,[165008024]⟩ (.one ⟨(some 55),(.load false 1 (.t 54)),none,165008003,[165008021,165008022,165008024]⟩ (.one ⟨(some 60),(.load false 1 (.t 59)),none,165008008,[165008021,165008022,165008024]⟩ (.one ⟨(some 75),(.dm 1 (.t 55) (.t 60)),none,165008023,[165008024]⟩ (.one ⟨none,(.store 1 (.t 75) (.t 74)),none,165008024,[]⟩ (.eb false [])))))))))) (.one ⟨(some 74),(.append 1 (.t 71) (.t 73)),none,165008022,[165008024]⟩ (.one ⟨(some 55),(.load false 1 (.t 54)),none,165008003,[165008021,165008022,165008024]⟩ (.one ⟨(some 58),(.dm 3 (.t 56) (.t 57)),none,165008006,[165008021,165008022,165008024]⟩ (.one ⟨(some 59),(.fq 1 (.t 58)),none,165008007,[165008021,165008022,165008024]⟩ (.one ⟨(some 60),(.load false 1 (.t 59)),none,165008008,[165008021,165008022,165008024]⟩ (.one ⟨(some 75),(.dm 1 (.t 55) (.t 60)),none,165008023,[165008024]⟩ (.one ⟨none,(.store 1 (.t 75) (.t 74)),none,165008024,[]⟩ (.eb false [])))))))))))))))))))))))))))))) (.eb false [q 26 (.cF (.t 6)) 165006000,q 27 (.bin .add .i64 (.t 26) (.k (.int .i64 1))) 165006001,q 6 (.cF (.t 27)) 165006002])))))) (.seq (.eb false [q 76 (.cF (.t 5)) 165009000,q 4 (.cF (.t 76)) 165009001]) .ret)))))),[(.tmp 4)]⟩
theorem Kn:ua Tryz.prog 165 [(7,2),(8,2)]=some LR:=by kernel_rfl
def LS:xj:=⟨118,2,(.seq (.eb false [q 4 (.cF (.k .bE)) 168000000]) (.seq (.eb false [q 17 (.cF (.t 0)) 168001000,q 18 (.jg [.fZ] (.t 17) (.t 17)) 168001001,q 5 (.cF (.t 18)) 168001002]) (.seq (.seq (.eb false [q 19 (.cF (.t 5)) 168002000,q 20 (.len (.t 19)) 168002001,q 21 (.cF (.k (.int .i64 0))) 168002002]) (.block 0 (.loop (.seq (.eb false [q 22 (.bin .lss .i64 (.t 21) (.t 20)) 168003000]) (.seq (.cond (.t 22) .skip (.exit 0)) (.seq (.block 1 (.seq (.eb false [q 23 (.cF (.t 21)) 168004000,q 6 (.cF (.t 23)) 168004001]) (.eb false [q 24 (.cF (.t 5)) 168005000,q 25 (.cF (.t 6)) 168005001,q 26 (.cF (.t 6)) 168005002,q 27 (.build [.fZ,(.int .i64 0)] [(1,(1,(.t 26)))]) 168005003,q 28 (.box (.t 27)) 168005004,q 29 (.dm 1 (.t 24) (.t 25)) 168005005,⟨none,(.store 1 (.t 29) (.t 28)),none,168005006,[]⟩]))) (.eb false [q 30 (.bin .add .i64 (.t 21) (.k (.int .i64 1))) 168006000,q 21 (.cF (.t 30)) 168006001]))))))) (.seq (.seq (.eb false [q 31 (.cF (.t 1)) 168007000,q 32 (.len (.t 31)) 168007001,q 33 (.cF (.k (.int .i64 0))) 168007002]) (.block 2 (.loop (.seq (.eb false [q 34 (.bin .lss .i64 (.t 33) (.t 32)) 168008000]) (.seq (.cond (.t 34) .skip (.exit 2)) (.seq (.block 3 (.seq (.eb false [q 35 (.dm 3 (.t 31) (.t 33)) 168009000,q 36 (.load true 3 (.t 35)) 168009001,q 8 (.new [(.int .i64 0),(.int .i64 0),(.int .i64 0)]) 168009002,⟨none,(.store 3 (.t 8) (.t 36)),none,168009003,[]⟩]) (.seq (.one (q 37 (.cF (.t 5)) 168010000) (.one (q 38 (.fq 0 (.t 8)) 168010001) (.one (q 39 (.load false 1 (.t 38)) 168010002) (.one (q 40 (.dm 1 (.t 37) (.t 39)) 168010003) (.one (q 41 (.load false 1 (.t 40)) 168010004) (.one (q 43 (.cF (.t 5)) 168010006) (.one (q 44 (.fq 1 (.t 8)) 168010007) (.both (.one (q 42 (.call 184 [(.t 41)]) 168010005) (.one (q 45 (.load false 1 (.t 44)) 168010008) (.one (q 46 (.dm 1 (.t 43) (.t 45)) 168010009) (.one (q 47 (.load false 1 (.t 46)) 168010010) (.one (q 48 (.call 184 [(.t 47)]) 168010011) (.one (q 9 (.cF (.t 42)) 168010012) (.one (q 10 (.cF (.t 48)) 168010013) (.eb false [])))))))) (.one (q 45 (.load false 1 (.t 44)) 168010008) (.both (.one (q 42 (.call 184 [(.t 41)]) 168010005) (.one (q 46 (.dm 1 (.t 43) (.t 45)) 168010009) (.one (q 47 (.load false 1 (.t 46)) 168010010) (.one (q 48 (.call 184 [(.t 47)]) 168010011) (.one (q 9 (.cF (.t 42)) 168010012) (.one (q 10 (.cF (.t 48)) 168010013) (.eb false []))))))) (.one (q 46 (.dm 1 (.t 43) (.t 45)) 168010009) (.both (.one (q 42 (.call 184 [(.t 41)]) 168010005) (.one (q 47 (.load false 1 (.t 46)) 168010010) (.one (q 48 (.call 184 [(.t 47)]) 168010011) (.one (q 9 (.cF (.t 42)) 168010012) (.one (q 10 (.cF (.t 48)) 168010013) (.eb false [])))))) (.one (q 47 (.load false 1 (.t 46)) 168010010) (.one (q 42 (.call 184 [(.t 41)]) 168010005) (.one (q 48 (.call 184 [(.t 47)]) 168010011) (.one (q 9 (.cF (.t 42)) 168010012) (.one (q 10 (.cF (.t 48)) 168010013) (.eb false [])))))))))))))))))) (.block 4 (.seq (.eb true [q 50 (.cF (.t 9)) 168011000,q 51 (.xX (.t 50)) 168011001,q 52 (.fq 1 (.t 51)) 168011002,q 53 (.load false 1 (.t 52)) 168011003,q 54 (.cF (.t 10)) 168011004,q 55 (.xX (.t 54)) 168011005,q 56 (.fq 1 (.t 55)) 168011006,q 57 (.load false 1 (.t 56)) 168011007,q 58 (.bin .lss .i64 (.t 53) (.t 57)) 168011008,q 49 (.cF (.t 58)) 168011009]) (.cond (.t 49) (.eb false [q 59 (.cF (.t 10)) 168012000,q 60 (.cF (.t 9)) 168012001,q 61 (.xX (.t 59)) 168012002,q 62 (.fq 0 (.t 61)) 168012003,⟨none,(.store 1 (.t 62) (.t 60)),none,168012004,[]⟩]) (.seq (.eb true [q 64 (.cF (.t 10)) 168013000,q 65 (.xX (.t 64)) 168013001,q 66 (.fq 1 (.t 65)) 168013002,q 67 (.load false 1 (.t 66)) 168013003,q 68 (.cF (.t 9)) 168013004,q 69 (.xX (.t 68)) 168013005,q 70 (.fq 1 (.t 69)) 168013006,q 71 (.load false 1 (.t 70)) 168013007,q 72 (.bin .lss .i64 (.t 67) (.t 71)) 168013008,q 63 (.cF (.t 72)) 168013009]) (.cond (.t 63) (.eb false [q 73 (.cF (.t 9)) 168014000,q 74 (.cF (.t 10)) 168014001,q 75 (.xX (.t 73)) 168014002,q 76 (.fq 0 (.t 75)) 168014003,⟨none,(.store 1 (.t 76) (.t 74)),none,168014004,[]⟩]) .skip)))))))) (.eb false [q 77 (.bin .add .i64 (.t 33) (.k (.int .i64 1))) 168015000,q 33 (.cF (.t 77)) 168015001]))))))) (.seq (.eb false [q 11 (.cF (.k .bE)) 168016000]) (.seq (.eb false [⟨(some 78),(.mq (.new ⟨false,[.tI]⟩) []),none,168017000,[]⟩,q 12 (.cF (.t 78)) 168017001]) (.seq (.seq (.eb false [q 79 (.cF (.t 5)) 168018000,q 80 (.len (.t 79)) 168018001,q 81 (.cF (.k (.int .i64 0))) 168018002]) (.block 5 (.loop (.seq (.eb false [q 82 (.bin .lss .i64 (.t 81) (.t 80)) 168019000]) (.seq (.cond (.t 82) .skip (.exit 5)) (.seq (.block 6 (.seq (.eb false [q 83 (.cF (.t 81)) 168020000,q 84 (.dm 1 (.t 79) (.t 81)) 168020001,q 85 (.load false 1 (.t 84)) 168020002,q 13 (.cF (.t 83)) 168020003,q 14 (.cF (.t 85)) 168020004]) (.seq (.eb false [q 87 (.cF (.t 12)) 168021000,q 88 (.cF (.t 14)) 168021001,q 89 (.call 184 [(.t 88)]) 168021002,q 90 (.xX (.t 89)) 168021003,q 91 (.fq 1 (.t 90)) 168021004,q 92 (.load false 1 (.t 91)) 168021005,⟨(some 93),(.mq (.look ⟨false,[.tI]⟩ true (.int .i64 0)) [(.t 87),(.t 92)]),none,168021006,[]⟩,q 86 (.cF (.t 93)) 168021007,q 94 (.extract 0 (.t 86)) 168021008,q 95 (.extract 1 (.t 86)) 168021009,q 15 (.cF (.t 94)) 168021010,q 16 (.cF (.t 95)) 168021011]) (.seq (.seq (.eb false [q 96 (.cF (.t 16)) 168022000,q 97 (.not (.t 96)) 168022001]) (.cond (.t 97) (.seq (.eb false [q 98 (.cF (.t 11)) 168023000,q 99 (.len (.t 98)) 168023001,q 15 (.cF (.t 99)) 168023002]) (.seq (.eb false [q 100 (.cF (.t 12)) 168024000,q 101 (.cF (.t 13)) 168024001,q 102 (.cF (.t 15)) 168024002,⟨none,(.mw (.set ⟨false,[.tI]⟩) [(.t 100),(.t 101),(.t 102)]),none,168024003,[]⟩]) (.eb false [q 103 (.cF (.t 11)) 168025000,q 104 (.lq 1 1 [(.k .bE)]) 168025001,q 105 (.append 1 (.t 103) (.t 104)) 168025002,q 11 (.cF (.t 105)) 168025003]))) .skip)) (.eb false [q 106 (.cF (.t 11)) 168026000,q 107 (.cF (.t 15)) 168026001,q 108 (.cF (.t 11)) 168026002,q 109 (.cF (.t 15)) 168026003,q 110 (.dm 1 (.t 108) (.t 109)) 168026004,q 111 (.load false 1 (.t 110)) 168026005,q 112 (.cF (.t 13)) 168026006,q 113 (.lq 1 1 [(.t 112)]) 168026007,q 114 (.append 1 (.t 111) (.t 113)) 168026008,q 115 (.dm 1 (.t 106) (.t 107)) 168026009,⟨none,(.store 1 (.t 115) (.t 114)),none,168026010,[]⟩]))))) (.eb false [q 116 (.bin .add .i64 (.t 81) (.k (.int .i64 1))) 168027000,q 81 (.cF (.t 116)) 168027001]))))))) (.seq (.eb false [q 117 (.cF (.t 11)) 168028000,q 4 (.cF (.t 117)) 168028001]) .ret)))))))),[(.tmp 4)]⟩
theorem Ko:ua Tryz.prog 168 [(10,2)]=some LS:=by kernel_rfl
end Go.Proofs.YtihgaadadaekmaaGreatDoor.V

namespace Go.Proofs.YtihgaadadaekmaaGreatDoor.V
open Go.RowKit
attribute [local irreducible] dO wpOps gO Call
attribute [local go_sem] aH fF eF fR fQ cu upd cm K.av cJ AV.cells AV.cell rowOf rowsOf part ld rowAt bI bU dG ei il bJ da eB fW eZ dq ep cY cX dU dV bP bd cQ bL cT cR ek er eo cP bS cZ ej bK aL cV cw ik br cI bQ aZ dz bl dI AV.undef bB bH dY eh dR ea cE eA eE cr ev eu cU cW List.getD_cons_zero List.getD_cons_succ List.getD_nil List.all_cons List.all_nil Bool.and_true Bool.true_and Bool.and_self Bool.not_true Bool.not_false Option.map_some Option.map_none Option.bind_some Option.bind_none List.length_cons List.length_nil List.take_succ_cons List.take_zero List.take_nil List.drop_succ_cons List.drop_zero List.drop_nil List.head?_cons List.map_cons List.map_nil List.getElem?_cons_zero List.getElem?_cons_succ List.cons_append List.nil_append List.append_nil List.length_map List.set_cons_zero List.set_cons_succ Nat.reduceMul eq_self Int.toNat_natCast Int.natCast_nonneg and_self true_and and_true decide_true decide_false Bool.false_eq_true Nat.zero_add Nat.add_zero List.contains_cons List.contains_nil Bool.or_false Bool.false_or beq_self_eq_true Nat.reduceBEq ne_eq not_true_eq_false not_false_eq_true Id.mk.injEq false_and and_false Nat.reduceLT Int.reduceLE Int.reduceLT Int.reduceToNat Int.reduceNeg Int.reduceAdd Nat.le_refl List.length_append beq_true beq_false Bool.not_eq_eq_eq_not or_false false_or dC ad aj aE bz cj aT bj aX bf cK bG
theorem yp (x:eS) (g:Rows):bY g 6 [.agg (aV x)]=some [.agg (aV x)]:=by simp[aV,ad,aj,bj,bz,aE]
theorem yq (x:ef) (g:Rows):bY g 6 [.agg (aU x)]=some [.agg (aU x)]:=by simp[aU,ad,aj,bj,bz,cj]
theorem Al (x:ak) (g:Rows):bY g 6 [.agg (ah x)]=some [.agg (ah x)]:=by simp[ah,ad,aj,bj,aE]
theorem gE {n:Nat} {l:Int} (h:(n:Int)<=l):uz n l=l-n:=if_pos h
theorem gM {n:Nat} {l:Int} (h:¬(n:Int)<=l):uz n l= -1:=if_neg h
def jB (t:ef):Nat:=t.aB.size+t.aY.length
def rP (s:aq):Nat:=(s.aw.length+(s.aw.map fun g=>g.aB.size).sum)+(s.ae.length+(s.ae.map jB).sum)
def tN (s:bV):Nat:=rP s.ar+s.bR.ae.length
def fA (s:aq):Prop:=(∀g∈s.aw,g.aB.size<=9223372036854775807)/\∀t∈s.ae,t.aB.size<=9223372036854775807
theorem GP (g:eS) (l:Int) (h0:0<=l) (h1:l<=1048576) (hs:g.aB.size<=9223372036854775807):ai Tryz.prog 90 [.agg (aV g),.int .i64 l] (.int .i64 (uz g.aB.size l)):=by
 refine ai.body dP rfl fun hl n0=>?_
 clear hl
 have hw:IntKind.i64.wrap (l-(g.aB.size:Int))=l-g.aB.size:=aQ ab
 by_cases hf:(g.aB.size:Int)<=l
 ·have kJ:¬l-(g.aB.size:Int)<0:=ab
  (try((repeat(revert hN;revert N;apply Pn.out));refine wk (tw @aV.eq_1 (tw @hw @kJ)) ?_;(repeat(refine Pn.mk ?_;intro N hN))))
  exact bq (b:=l-(g.aB.size:Int)) (.inl rfl) (sd @Nat.zero_add) (gE hf).symm
 ·have kJ:l-(g.aB.size:Int)<0:=ab
  (try((repeat(revert hN;revert N;apply Pn.out));refine wk (tw @aV.eq_1 (tw @hw @kJ)) ?_;(repeat(refine Pn.mk ?_;intro N hN))))
  exact bq (b:=-1) (.inl rfl) (sd @Nat.zero_add) (gM hf).symm
theorem GQ (xs:List Int) (l:Int) (h0:0<=l) (h1:l<=1048576):ai Tryz.prog 82 [.sl (xs.map au),.int .i64 l] (.int .i64 (uz xs.length l)):=by
 have h:=GU (show lr Tryz.prog 82=some (GR 82) by kernel_rfl) (xs.map au) l h0 h1
 rwa [List.length_map]at h
theorem GX (t:ef) (l:Int) (h0:0<=l) (h1:l<=1048576) (hs:t.aB.size<=9223372036854775807):ai Tryz.prog 91 [.agg (aU t),.int .i64 l] (.int .i64 (uz (jB t) l)):=by
 refine ai.body dP rfl fun hl n0=>?_
 clear hl
 have hw:IntKind.i64.wrap (l-(t.aB.size:Int))=l-t.aB.size:=aQ ab
 by_cases hf:(t.aB.size:Int)<=l
 ·have kJ:¬l-(t.aB.size:Int)<0:=ab
  have hc:=GQ t.aY (l-t.aB.size) ab ab
  by_cases hg:(t.aY.length:Int)<=l-t.aB.size
  ·rw[gE hg]at hc
   have Hp:¬l-(t.aB.size:Int)-(t.aY.length:Int)<0:=ab
   (repeat(first|((repeat(revert hN;revert N;apply Pn.out));refine wk (tw @aU.eq_1 (tw @hw (tw @kJ @Hp))) ?_;(repeat(refine Pn.mk ?_;intro N hN)))|((try apply Or.inl);refine⟨_,ai.x (hc) (sd (tw @aU.eq_1 (tw @hw (tw @kJ @Hp)))),?_⟩;refine hN _ _ ?_;clear hN N)))
   exact bq (b:=l-(t.aB.size:Int)-(t.aY.length:Int)) (.inl rfl) (sd @Nat.zero_add) (by rw[gE (by unfold jB;omega)];unfold jB;omega)
  ·rw[gM hg]at hc
   (repeat(first|((repeat(revert hN;revert N;apply Pn.out));refine wk (tw @aU.eq_1 (tw @hw @kJ)) ?_;(repeat(refine Pn.mk ?_;intro N hN)))|((try apply Or.inl);refine⟨_,ai.x (hc) (sd (tw @aU.eq_1 (tw @hw @kJ))),?_⟩;refine hN _ _ ?_;clear hN N)))
   exact bq (b:=-1) (.inl rfl) (sd @Nat.zero_add) (gM (by unfold jB;omega)).symm
 ·have kJ:l-(t.aB.size:Int)<0:=ab
  (try((repeat(revert hN;revert N;apply Pn.out));refine wk (tw @aU.eq_1 (tw @hw @kJ)) ?_;(repeat(refine Pn.mk ?_;intro N hN))))
  exact bq (b:=-1) (.inl rfl) (sd @Nat.zero_add) (gM (by unfold jB;omega)).symm
theorem En (xs:List eS) (l:Int) (h0:0<=l) (h1:l<=1048576) (hs:∀g∈xs,g.aB.size<=9223372036854775807):ai Tryz.prog 63 [.sl (xs.map aV),.int .i64 l] (.int .i64 (uz (xs.length+(xs.map fun g=>g.aB.size).sum) l)):=
 GW (fun g:eS=>g.aB.size) (show lr Tryz.prog 63=some (GV 63 90 2) by kernel_rfl) (fun _=>rfl) yp xs l h0 h1 fun x hx l a b=>GP x l a b (hs x hx)
theorem Eo (xs:List ef) (l:Int) (h0:0<=l) (h1:l<=1048576) (hs:∀t∈xs,t.aB.size<=9223372036854775807):ai Tryz.prog 64 [.sl (xs.map aU),.int .i64 l] (.int .i64 (uz (xs.length+(xs.map jB).sum) l)):=
 GW jB (show lr Tryz.prog 64=some (GV 64 91 2) by kernel_rfl) (fun _=>rfl) yq xs l h0 h1 fun x hx l a b=>GX x l a b (hs x hx)
theorem BA (xs:List ak) (l:Int) (h0:0<=l) (h1:l<=1048576):ai Tryz.prog 34 [.sl (xs.map ah),.int .i64 l] (.int .i64 (uz xs.length l)):=by
 have h:=GU (show lr Tryz.prog 34=some (GR 34) by kernel_rfl) (xs.map ah) l h0 h1
 rwa [List.length_map]at h
theorem zm (s:aq) (l:Int) (h0:0<=l) (h1:l<=1048576) (hs:fA s):ai Tryz.prog 33 [.agg (aa s),.int .i64 l] (.int .i64 (uz (rP s) l)):=by
 refine ai.body dP rfl fun hl n0=>?_
 clear hl
 have ha:=En s.aw l h0 h1 hs.1
 have he:rP s=(s.aw.length+(s.aw.map fun g=>g.aB.size).sum)+(s.ae.length+(s.ae.map jB).sum):=rfl
 by_cases hf:((s.aw.length+(s.aw.map fun g=>g.aB.size).sum:Nat):Int)<=l
 ·rw[gE hf]at ha
  obtain⟨A,hA⟩:∃A:Int,A=l-((s.aw.length+(s.aw.map fun g=>g.aB.size).sum:Nat):Int):=⟨_,rfl⟩
  rw[<-hA]at ha
  have kJ:¬A<0:=ab
  have hb:=Eo s.ae A ab ab hs.2
  by_cases hg:((s.ae.length+(s.ae.map jB).sum:Nat):Int)<=A
  ·rw[gE hg]at hb
   obtain⟨B,hB⟩:∃B:Int,B=A-((s.ae.length+(s.ae.map jB).sum:Nat):Int):=⟨_,rfl⟩
   rw[<-hB]at hb
   have Hp:¬B<0:=ab
   (repeat(first|((repeat(revert hN;revert N;apply Pn.out));refine wk (tw @aa.eq_1 (tw @kJ @Hp)) ?_;(repeat(refine Pn.mk ?_;intro N hN)))|((try apply Or.inl);refine⟨_,ai.x (ha) (sd (tw @aa.eq_1 (tw @kJ @Hp))),?_⟩;refine hN _ _ ?_;clear hN N)|((try apply Or.inl);refine⟨_,ai.x (hb) (sd (tw @aa.eq_1 (tw @kJ @Hp))),?_⟩;refine hN _ _ ?_;clear hN N)))
   exact bq (b:=B) (.inl rfl) (sd @Nat.zero_add) (by rw[gE ab];omega)
  ·rw[gM hg]at hb
   (repeat(first|((repeat(revert hN;revert N;apply Pn.out));refine wk (tw @aa.eq_1 @kJ) ?_;(repeat(refine Pn.mk ?_;intro N hN)))|((try apply Or.inl);refine⟨_,ai.x (ha) (sd (tw @aa.eq_1 @kJ)),?_⟩;refine hN _ _ ?_;clear hN N)|((try apply Or.inl);refine⟨_,ai.x (hb) (sd (tw @aa.eq_1 @kJ)),?_⟩;refine hN _ _ ?_;clear hN N)))
   exact bq (b:=-1) (.inl rfl) (sd @Nat.zero_add) (gM ab).symm
 ·rw[gM hf]at ha
  (repeat(first|((repeat(revert hN;revert N;apply Pn.out));refine wk @aa.eq_1 ?_;(repeat(refine Pn.mk ?_;intro N hN)))|((try apply Or.inl);refine⟨_,ai.x (ha) (sd @aa.eq_1),?_⟩;refine hN _ _ ?_;clear hN N)))
  exact bq (b:=-1) (.inl rfl) (sd @Nat.zero_add) (gM ab).symm
theorem pP (a:dd) (l:Int) (h0:0<=l) (h1:l<=1048576):ai Tryz.prog 8 [.agg (aC a),.int .i64 l] (.int .i64 (uz a.ae.length l)):=by
 refine ai.body dP rfl fun hl n0=>?_
 clear hl
 have ha:=BA a.ae l h0 h1
 by_cases hf:(a.ae.length:Int)<=l
 ·rw[gE hf]at ha
  have kJ:¬l-(a.ae.length:Int)<0:=ab
  (repeat(first|((repeat(revert hN;revert N;apply Pn.out));refine wk (tw @aC.eq_1 @kJ) ?_;(repeat(refine Pn.mk ?_;intro N hN)))|((try apply Or.inl);refine⟨_,ai.x (ha) (sd (tw @aC.eq_1 @kJ)),?_⟩;refine hN _ _ ?_;clear hN N)))
  exact bq (b:=l-(a.ae.length:Int)) (.inl rfl) (sd @Nat.zero_add) (gE hf).symm
 ·rw[gM hf]at ha
  (repeat(first|((repeat(revert hN;revert N;apply Pn.out));refine wk @aC.eq_1 ?_;(repeat(refine Pn.mk ?_;intro N hN)))|((try apply Or.inl);refine⟨_,ai.x (ha) (sd @aC.eq_1),?_⟩;refine hN _ _ ?_;clear hN N)))
  exact bq (b:=-1) (.inl rfl) (sd @Nat.zero_add) (gM hf).symm
theorem BB (s:bV) (l:Int) (h0:0<=l) (h1:l<=1048576) (hs:fA s.ar):ai Tryz.prog 7 [.agg (az s),.int .i64 l] (.int .i64 (uz (tN s) l)):=by
 refine ai.body dP rfl fun hl n0=>?_
 clear hl
 have ha:=zm s.ar l h0 h1 hs
 rw[aa]at ha
 have he:tN s=rP s.ar+s.bR.ae.length:=rfl
 by_cases hf:(rP s.ar:Int)<=l
 ·rw[gE hf]at ha
  have kJ:¬l-(rP s.ar:Int)<0:=ab
  have hb:=pP s.bR (l-rP s.ar) ab ab
  rw[aC]at hb
  by_cases hg:(s.bR.ae.length:Int)<=l-rP s.ar
  ·rw[gE hg]at hb
   have Hp:¬l-(rP s.ar:Int)-(s.bR.ae.length:Int)<0:=ab
   (repeat(first|((repeat(revert hN;revert N;apply Pn.out));refine wk (tw @az.eq_1 (tw @kJ @Hp)) ?_;(repeat(refine Pn.mk ?_;intro N hN)))|((try apply Or.inl);refine⟨_,ai.x (ha) (sd (tw @az.eq_1 (tw @kJ @Hp))),?_⟩;refine hN _ _ ?_;clear hN N)|((try apply Or.inl);refine⟨_,ai.x (hb) (sd (tw @az.eq_1 (tw @kJ @Hp))),?_⟩;refine hN _ _ ?_;clear hN N)))
   exact bq (b:=l-(rP s.ar:Int)-(s.bR.ae.length:Int)) (.inl rfl) (sd @Nat.zero_add) (by rw[gE ab];omega)
  ·rw[gM hg]at hb
   (repeat(first|((repeat(revert hN;revert N;apply Pn.out));refine wk (tw @az.eq_1 @kJ) ?_;(repeat(refine Pn.mk ?_;intro N hN)))|((try apply Or.inl);refine⟨_,ai.x (ha) (sd (tw @az.eq_1 @kJ)),?_⟩;refine hN _ _ ?_;clear hN N)|((try apply Or.inl);refine⟨_,ai.x (hb) (sd (tw @az.eq_1 @kJ)),?_⟩;refine hN _ _ ?_;clear hN N)))
   exact bq (b:=-1) (.inl rfl) (sd @Nat.zero_add) (gM ab).symm
 ·rw[gM hf]at ha
  (repeat(first|((repeat(revert hN;revert N;apply Pn.out));refine wk @az.eq_1 ?_;(repeat(refine Pn.mk ?_;intro N hN)))|((try apply Or.inl);refine⟨_,ai.x (ha) (sd @az.eq_1),?_⟩;refine hN _ _ ?_;clear hN N)))
  exact bq (b:=-1) (.inl rfl) (sd @Nat.zero_add) (gM ab).symm
theorem IZ (x:eS) (g:Rows):bY g 5 (aV x)=some (aV x):=by simp[aV,ad,aj,bz,aE]
theorem I0 (x:ef) (g:Rows):bY g 5 (aU x)=some (aU x):=by simp[aU,ad,aj,bz,cj]
theorem Ed (x:ak) (g:Rows):bY g 5 (ah x)=some (ah x):=by simp[ah,ad,aj,aE]
theorem vJ (p:bx):jy Tryz.prog 100 [.agg (ao p)] (.agg (ao p)):=by
 refine jy.body dP rfl fun hl σ=>?_
 clear hl
 (try((repeat(revert hN;revert N;apply Pn.out));refine wk @ao.eq_1 ?_;(repeat(refine Pn.mk ?_;intro N hN))))
 exact rN (.inl rfl) (vs:=[.agg (ao p)]) (by simp only[go_sem, ↓reduceIte,Nat.reduceEqDiff,Nat.reduceAdd,Nat.reduceSub,Nat.reduceLeDiff,reduceCtorEq,eR,gI,ao]) (by simp[dJ,ao,bj,ad,aj,aE])
theorem BD (p:ak):jy Tryz.prog 71 [.agg (ah p)] (.agg (ah p)):=by
 refine jy.body dP rfl fun hl σ=>?_
 clear hl
 have h:=vJ p.cz
 rw[ao]at h
 (repeat(first|((repeat(revert hN;revert N;apply Pn.out));refine wk @ah.eq_1 ?_;(repeat(refine Pn.mk ?_;intro N hN)))|((try apply Or.inl);refine⟨_,jy.x (h) _,?_⟩;refine hN _ _ ?_;clear hN N)))
 exact rN (.inl rfl) (vs:=[.agg (ah p)]) (by simp only[go_sem, ↓reduceIte,Nat.reduceEqDiff,Nat.reduceAdd,Nat.reduceSub,Nat.reduceLeDiff,reduceCtorEq,eR,gI,ah]) (by simp[dJ,ah,bj,ad,aj,aE])
theorem G1 (p:eS):jy Tryz.prog 98 [.agg (aV p)] (.agg (aV p)):=by
 refine jy.body dP rfl fun hl σ=>?_
 clear hl
 (try((repeat(revert hN;revert N;apply Pn.out));refine wk @aV.eq_1 ?_;(repeat(refine Pn.mk ?_;intro N hN))))
 exact rN (.inl rfl) (vs:=[.agg (aV p)]) (by simp only[go_sem, ↓reduceIte,Nat.reduceEqDiff,Nat.reduceAdd,Nat.reduceSub,Nat.reduceLeDiff,reduceCtorEq,eR,gI,aV]) (by simp[dJ,aV,bj,ad,aj,aE,bz])
theorem G3 (xs:List Int) (h:xs.length<=1048576):jy Tryz.prog 86 [.sl (xs.map au)] (.sl (xs.map au)):=
 OB (show lr Tryz.prog 86=some (G4 86 (.int .i64 0)) by kernel_rfl) xs h
def p7 (t:ef):Prop:=t.aY.length<=1048576
theorem G6 (p:ef) (hs:p7 p):jy Tryz.prog 99 [.agg (aU p)] (.agg (aU p)):=by
 refine jy.body dP rfl fun hl σ=>?_
 clear hl
 have h:=G3 p.aY hs
 (repeat(first|((repeat(revert hN;revert N;apply Pn.out));refine wk @aU.eq_1 ?_;(repeat(refine Pn.mk ?_;intro N hN)))|((try apply Or.inl);refine⟨_,jy.x (h) _,?_⟩;refine hN _ _ ?_;clear hN N)))
 exact rN (.inl rfl) (vs:=[.agg (aU p)]) (by simp only[go_sem, ↓reduceIte,Nat.reduceEqDiff,Nat.reduceAdd,Nat.reduceSub,Nat.reduceLeDiff,reduceCtorEq,eR,gI,aU]) (by simp[dJ,aU,bj,ad,aj,cj,bz])
theorem yd (xs ys:List Int):ai Tryz.prog 22 [.sl (xs.map au),.sl (ys.map au)] (.bool (decide (xs=ys))):=
 M9 (show lr Tryz.prog 22=some (Jt 22 .tI) by kernel_rfl) xs ys
theorem Fw (a b:ef):ai Tryz.prog 110 [.agg (aU a),.agg (aU b)] (.bool (decide (a=b))):=by
 refine ai.body dP rfl fun hl n0=>?_
 clear hl
 have h:=yd a.aY b.aY
 by_cases h1:a.aB=b.aB
 ·have e1:decide (a.aB=b.aB)=true:=decide_eq_true h1
  by_cases h2:a.aY=b.aY
  ·rw[decide_eq_true h2]at h
   (repeat(first|((repeat(revert hN;revert N;apply Pn.out));refine wk (tw @aU.eq_1 @e1) ?_;(repeat(refine Pn.mk ?_;intro N hN)))|((try apply Or.inl);refine⟨_,ai.x (h) (sd (tw @aU.eq_1 @e1)),?_⟩;refine hN _ _ ?_;clear hN N)))
   exact aI (b:=true) (.inl rfl) (sd @Nat.zero_add) (decide_eq_true (by cases a;cases b;simp_all)).symm
  ·rw[decide_eq_false h2]at h
   (repeat(first|((repeat(revert hN;revert N;apply Pn.out));refine wk (tw @aU.eq_1 @e1) ?_;(repeat(refine Pn.mk ?_;intro N hN)))|((try apply Or.inl);refine⟨_,ai.x (h) (sd (tw @aU.eq_1 @e1)),?_⟩;refine hN _ _ ?_;clear hN N)))
   exact aI (b:=false) (.inl rfl) (sd @Nat.zero_add) (decide_eq_false (by rintro rfl;exact h2 rfl)).symm
 ·have e1:decide (a.aB=b.aB)=false:=decide_eq_false h1
  (try((repeat(revert hN;revert N;apply Pn.out));refine wk (tw @aU.eq_1 @e1) ?_;(repeat(refine Pn.mk ?_;intro N hN))))
  exact aI (b:=false) (.inl rfl) (sd @Nat.zero_add) (decide_eq_false (by rintro rfl;exact h1 rfl)).symm
theorem Eu (xs:List eS) (h:xs.length<=1048576):jy Tryz.prog 69 [.sl (xs.map aV)] (.sl (xs.map aV)):=
 BE (show lr Tryz.prog 69=some (rq 69 98 2 [.str [],.int .i64 0]) by kernel_rfl) rfl (fun _=>rfl) (fun _=>rfl) IZ xs h fun x _=>G1 x
theorem Ew (xs:List ef) (h:xs.length<=1048576) (hs:∀t∈xs,p7 t):jy Tryz.prog 70 [.sl (xs.map aU)] (.sl (xs.map aU)):=
 BE (show lr Tryz.prog 70=some (rq 70 99 2 [.str [],.bE]) by kernel_rfl) rfl (fun _=>rfl) (fun _=>rfl) I0 xs h fun x hx=>G6 x (hs x hx)
theorem zq (xs:List ak) (h:xs.length<=1048576):jy Tryz.prog 40 [.sl (xs.map ah)] (.sl (xs.map ah)):=
 BE (show lr Tryz.prog 40=some (rq 40 71 3 [.int .i64 0,.int .i64 0,.int .i64 0]) by kernel_rfl) rfl (fun _=>rfl) (fun _=>rfl) Ed xs h fun x _=>BD x
structure E3 (s:aq):Prop where
 g:s.aw.length<=1048576
 t:s.ae.length<=1048576
 s:∀t∈s.ae,p7 t
structure qL (y:bV):Prop where
 s:E3 y.ar
 a:y.bR.ae.length<=1048576
theorem zt (p:aq) (hs:E3 p):jy Tryz.prog 39 [.agg (aa p)] (.agg (aa p)):=by
 refine jy.body dP rfl fun hl σ=>?_
 clear hl
 have h1:=Eu p.aw hs.g
 have h2:=Ew p.ae hs.t hs.s
 (repeat(first|((repeat(revert hN;revert N;apply Pn.out));refine wk @aa.eq_1 ?_;(repeat(refine Pn.mk ?_;intro N hN)))|((try apply Or.inl);refine⟨_,jy.x (h1) _,?_⟩;refine hN _ _ ?_;clear hN N)|((try apply Or.inl);refine⟨_,jy.x (h2) _,?_⟩;refine hN _ _ ?_;clear hN N)))
 exact rN (.inl rfl) (vs:=[.agg (aa p)]) (by simp only[go_sem, ↓reduceIte,Nat.reduceEqDiff,Nat.reduceAdd,Nat.reduceSub,Nat.reduceLeDiff,reduceCtorEq,eR,gI,aa]) (by simp[dJ,aa,bj,ad,aj,cj])
theorem pS (p:dd) (hs:p.ae.length<=1048576):jy Tryz.prog 11 [.agg (aC p)] (.agg (aC p)):=by
 refine jy.body dP rfl fun hl σ=>?_
 clear hl
 have h1:=zq p.ae hs
 (repeat(first|((repeat(revert hN;revert N;apply Pn.out));refine wk @aC.eq_1 ?_;(repeat(refine Pn.mk ?_;intro N hN)))|((try apply Or.inl);refine⟨_,jy.x (h1) _,?_⟩;refine hN _ _ ?_;clear hN N)))
 exact rN (.inl rfl) (vs:=[.agg (aC p)]) (by simp only[go_sem, ↓reduceIte,Nat.reduceEqDiff,Nat.reduceAdd,Nat.reduceSub,Nat.reduceLeDiff,reduceCtorEq,eR,gI,aC]) (by simp[dJ,aC,bj,ad,aj,cj])
theorem BG (p:bV) (hs:qL p):jy Tryz.prog 10 [.agg (az p)] (.agg (az p)):=by
 refine jy.body dP rfl fun hl σ=>?_
 clear hl
 have h1:=zt p.ar hs.s
 have h2:=pS p.bR hs.a
 rw[aa]at h1
 rw[aC]at h2
 (repeat(first|((repeat(revert hN;revert N;apply Pn.out));refine wk @az.eq_1 ?_;(repeat(refine Pn.mk ?_;intro N hN)))|((try apply Or.inl);refine⟨_,jy.x (h1) _,?_⟩;refine hN _ _ ?_;clear hN N)|((try apply Or.inl);refine⟨_,jy.x (h2) _,?_⟩;refine hN _ _ ?_;clear hN N)))
 exact rN (.inl rfl) (vs:=[.agg (az p)]) (by simp only[go_sem, ↓reduceIte,Nat.reduceEqDiff,Nat.reduceAdd,Nat.reduceSub,Nat.reduceLeDiff,reduceCtorEq,eR,gI,az]) (by simp[dJ,az,bj,ad,aj,cj,aE])
theorem Fv (a b:eS):ai Tryz.prog 109 [.agg (aV a),.agg (aV b)] (.bool (decide (a=b))):=by
 refine ai.body dP rfl fun hl n0=>?_
 clear hl
 by_cases h1:a.aB=b.aB
 ·have e1:decide (a.aB=b.aB)=true:=decide_eq_true h1
  by_cases h2:a.dF=b.dF
  ·have e2:decide (a.dF=b.dF)=true:=decide_eq_true h2
   (try((repeat(revert hN;revert N;apply Pn.out));refine wk (tw @aV.eq_1 (tw @e1 @e2)) ?_;(repeat(refine Pn.mk ?_;intro N hN))))
   exact aI (b:=true) (.inl rfl) (sd @Nat.zero_add) (decide_eq_true (by cases a;cases b;simp_all)).symm
  ·have e2:decide (a.dF=b.dF)=false:=decide_eq_false h2
   (try((repeat(revert hN;revert N;apply Pn.out));refine wk (tw @aV.eq_1 (tw @e1 @e2)) ?_;(repeat(refine Pn.mk ?_;intro N hN))))
   exact aI (b:=false) (.inl rfl) (sd @Nat.zero_add) (decide_eq_false (by rintro rfl;exact h2 rfl)).symm
 ·have e1:decide (a.aB=b.aB)=false:=decide_eq_false h1
  (try((repeat(revert hN;revert N;apply Pn.out));refine wk (tw @aV.eq_1 @e1) ?_;(repeat(refine Pn.mk ?_;intro N hN))))
  exact aI (b:=false) (.inl rfl) (sd @Nat.zero_add) (decide_eq_false (by rintro rfl;exact h1 rfl)).symm
theorem Dh (a b:bx):ai Tryz.prog 111 [.agg (ao a),.agg (ao b)] (.bool (decide (a=b))):=by
 refine ai.body dP rfl fun hl n0=>?_
 clear hl
 by_cases h1:a.fX=b.fX
 ·have e1:decide (a.fX=b.fX)=true:=decide_eq_true h1
  by_cases h2:a.fy=b.fy
  ·have e2:decide (a.fy=b.fy)=true:=decide_eq_true h2
   (try((repeat(revert hN;revert N;apply Pn.out));refine wk (tw @ao.eq_1 (tw @e1 @e2)) ?_;(repeat(refine Pn.mk ?_;intro N hN))))
   exact aI (b:=true) (.inl rfl) (sd @Nat.zero_add) (decide_eq_true (by cases a;cases b;simp_all)).symm
  ·have e2:decide (a.fy=b.fy)=false:=decide_eq_false h2
   (try((repeat(revert hN;revert N;apply Pn.out));refine wk (tw @ao.eq_1 (tw @e1 @e2)) ?_;(repeat(refine Pn.mk ?_;intro N hN))))
   exact aI (b:=false) (.inl rfl) (sd @Nat.zero_add) (decide_eq_false (by rintro rfl;exact h2 rfl)).symm
 ·have e1:decide (a.fX=b.fX)=false:=decide_eq_false h1
  (try((repeat(revert hN;revert N;apply Pn.out));refine wk (tw @ao.eq_1 @e1) ?_;(repeat(refine Pn.mk ?_;intro N hN))))
  exact aI (b:=false) (.inl rfl) (sd @Nat.zero_add) (decide_eq_false (by rintro rfl;exact h1 rfl)).symm
theorem z5 (a b:ak):ai Tryz.prog 78 [.agg (ah a),.agg (ah b)] (.bool (decide (a=b))):=by
 refine ai.body dP rfl fun hl n0=>?_
 clear hl
 have h:=Dh a.cz b.cz
 rw[ao,ao]at h
 by_cases h1:a.cz=b.cz
 ·rw[decide_eq_true h1]at h
  by_cases h2:a.bw=b.bw
  ·have e2:decide (a.bw=b.bw)=true:=decide_eq_true h2
   (repeat(first|((repeat(revert hN;revert N;apply Pn.out));refine wk (tw @ah.eq_1 @e2) ?_;(repeat(refine Pn.mk ?_;intro N hN)))|((try apply Or.inl);refine⟨_,ai.x (h) (sd (tw @ah.eq_1 @e2)),?_⟩;refine hN _ _ ?_;clear hN N)))
   exact aI (b:=true) (.inl rfl) (sd @Nat.zero_add) (decide_eq_true (by cases a;cases b;simp_all)).symm
  ·have e2:decide (a.bw=b.bw)=false:=decide_eq_false h2
   (repeat(first|((repeat(revert hN;revert N;apply Pn.out));refine wk (tw @ah.eq_1 @e2) ?_;(repeat(refine Pn.mk ?_;intro N hN)))|((try apply Or.inl);refine⟨_,ai.x (h) (sd (tw @ah.eq_1 @e2)),?_⟩;refine hN _ _ ?_;clear hN N)))
   exact aI (b:=false) (.inl rfl) (sd @Nat.zero_add) (decide_eq_false (by rintro rfl;exact h2 rfl)).symm
 ·rw[decide_eq_false h1]at h
  (repeat(first|((repeat(revert hN;revert N;apply Pn.out));refine wk @ah.eq_1 ?_;(repeat(refine Pn.mk ?_;intro N hN)))|((try apply Or.inl);refine⟨_,ai.x (h) (sd @ah.eq_1),?_⟩;refine hN _ _ ?_;clear hN N)))
  exact aI (b:=false) (.inl rfl) (sd @Nat.zero_add) (decide_eq_false (by rintro rfl;exact h1 rfl)).symm
theorem Dg (xs ys:List eS):ai Tryz.prog 76 [.sl (xs.map aV),.sl (ys.map aV)] (.bool (decide (xs=ys))):=
 z6 (show lr Tryz.prog 76=some (B5 76 109 2) by kernel_rfl) (fun _=>rfl) yp xs ys Fv
theorem Di (xs ys:List ef):ai Tryz.prog 77 [.sl (xs.map aU),.sl (ys.map aU)] (.bool (decide (xs=ys))):=
 z6 (show lr Tryz.prog 77=some (B5 77 110 2) by kernel_rfl) (fun _=>rfl) yq xs ys Fw
theorem qO (xs ys:List ak):ai Tryz.prog 46 [.sl (xs.map ah),.sl (ys.map ah)] (.bool (decide (xs=ys))):=
 z6 (show lr Tryz.prog 46=some (B5 46 78 3) by kernel_rfl) (fun _=>rfl) Al xs ys z5
theorem z7 (a:bV):ai Tryz.prog 14 [.agg (az a),.agg (az a)] (.bool true):=by
 have q1:ai Tryz.prog 45 [.agg (aa a.ar),.agg (aa a.ar)] (.bool true):=by
  refine ai.body dP rfl fun hl n0=>?_
  clear hl
  have h1:=Dg a.ar.aw a.ar.aw
  have h2:=Di a.ar.ae a.ar.ae
  rw[decide_eq_true rfl]at h1 h2
  (repeat(first|((repeat(revert hN;revert N;apply Pn.out));refine wk @aa.eq_1 ?_;(repeat(refine Pn.mk ?_;intro N hN)))|((try apply Or.inl);refine⟨_,ai.x (h1) (sd @aa.eq_1),?_⟩;refine hN _ _ ?_;clear hN N)|((try apply Or.inl);refine⟨_,ai.x (h2) (sd @aa.eq_1),?_⟩;refine hN _ _ ?_;clear hN N)))
  exact aI (b:=true) (.inl rfl) (sd @Nat.zero_add) rfl
 have q2:ai Tryz.prog 15 [.agg (aC a.bR),.agg (aC a.bR)] (.bool true):=by
  refine ai.body dP rfl fun hl n0=>?_
  clear hl
  have h1:=qO a.bR.ae a.bR.ae
  rw[decide_eq_true rfl]at h1
  (repeat(first|((repeat(revert hN;revert N;apply Pn.out));refine wk @aC.eq_1 ?_;(repeat(refine Pn.mk ?_;intro N hN)))|((try apply Or.inl);refine⟨_,ai.x (h1) (sd @aC.eq_1),?_⟩;refine hN _ _ ?_;clear hN N)))
  exact aI (b:=true) (.inl rfl) (sd @Nat.zero_add) rfl
 rw[aa]at q1
 rw[aC]at q2
 refine ai.body dP rfl fun hl n0=>?_
 clear hl
 have e:decide (a.aG=a.aG)=true:=decide_eq_true rfl
 (repeat(first|((repeat(revert hN;revert N;apply Pn.out));refine wk (tw @az.eq_1 @e) ?_;(repeat(refine Pn.mk ?_;intro N hN)))|((try apply Or.inl);refine⟨_,ai.x (q1) (sd (tw @az.eq_1 @e)),?_⟩;refine hN _ _ ?_;clear hN N)|((try apply Or.inl);refine⟨_,ai.x (q2) (sd (tw @az.eq_1 @e)),?_⟩;refine hN _ _ ?_;clear hN N)))
 exact aI (b:=true) (.inl rfl) (sd @Nat.zero_add) rfl
end Go.Proofs.YtihgaadadaekmaaGreatDoor.V

namespace Go.Proofs.YtihgaadadaekmaaGreatDoor.V
open Go.RowKit
def isApp:fB->Bool
 | .append .. =>true
 |_=>false
variable {P:Program} {X:eW} {K:Env->ax->Prop} {env:Env} {σ:ax}
theorem J3 {draw:Bool} {o:aW} {r:List aW} (_:isApp o.op=false) (h:∀N:AV->ax->Prop,(∀v s,wpOps X draw r K (upd env o.dst v) s->N v s)->if aH o.guard env then fF X draw o env σ N else N .undef σ):wpOps X draw (o::r) K env σ:=LX h
end Go.Proofs.YtihgaadadaekmaaGreatDoor.V

namespace Go.Proofs.YtihgaadadaekmaaGreatDoor.V
open Go.RowKit
section
variable {α:Type} {enc:α->List AV} {sz:Nat} {g g':Rows} {a:AV} {xs:List α} {ids:List Id}
end
abbrev uC (α:Type):=Rows->List AV->α->List Id->Prop
structure rD {α:Type} (R:uC α) (sz:Nat):Prop where
 frame:∀{g g':Rows} {cs x ids},R g cs x ids->(∀i∈ids,g' i=g i)->R g' cs x ids
 len:∀{g cs x ids},R g cs x ids->cs.length=sz
 cell:∀{g cs x ids},R g cs x ids->cs.all AV.cell=true
 live:∀{g cs x ids},R g cs x ids->∀i∈ids,∃r,g i=some r/\r.w=true/\r.sz<nW
 small:sz<nW
inductive dM {α:Type} (R:uC α) (g:Rows):List (List AV)->List α->List Id->Prop
 |nil:dM R g [] [] []
 |cons {cs x i1 rs xs i2}:R g cs x i1->dM R g rs xs i2->dM R g (cs::rs) (x::xs) (i1++i2)
section
variable {α:Type} {R:uC α} {sz:Nat} {g g':Rows} {rows r1 r2:List (List AV)} {xs x1 x2:List α} {ids i1 i2:List Id}
theorem dM.len (h:dM R g rows xs ids):rows.length=xs.length:=by
 induction h with
 |nil=>rfl
 |cons _ _ ih=>simp[ih]
theorem dM.frame (ok:rD R sz) (h:dM R g rows xs ids) (hf:∀i∈ids,g' i=g i):dM R g' rows xs ids:=by
 induction h with
 |nil=>exact .nil
 |cons h1 _ ih=>exact .cons (ok.frame h1 fun i hi=>hf i (List.mem_append_left _ hi)) (ih fun i hi=>hf i (List.mem_append_right _ hi))
theorem dM.app (h1:dM R g r1 x1 i1) (h2:dM R g r2 x2 i2):dM R g (r1++r2) (x1++x2) (i1++i2):=by
 induction h1 with
 |nil=>exact h2
 |cons h _ ih=>rw[List.append_assoc];exact .cons h ih
theorem dM.one {cs:List AV} {x:α} (h:R g cs x ids):dM R g [cs] [x] ids:=by
 have:=dM.cons h dM.nil
 rwa [List.append_nil]at this
theorem dM.split (h:dM R g rows xs ids):∀k (hk:k<xs.length),∃r1 cs r2 i1 ic i2,rows=r1++cs::r2/\r1.length=k/\ids=i1++(ic++i2)/\dM R g r1 (xs.take k) i1/\R g cs xs[k] ic/\dM R g r2 (xs.drop (k+1)) i2:=by
 induction h with
 |nil=>intro k hk;simp at hk
 |cons h1 h2 ih=>
  rename_i cs x j1 rs xs j2
  intro k hk
  cases k with
  |zero=>exact⟨[],cs,rs,[],j1,j2,rfl,rfl,rfl,.nil,h1,h2⟩
  |succ k=>
   obtain⟨r1,n8,r2,i1,ic,i2,rfl,hl,rfl,h3,h4,h5⟩:=ih k (by simpa using hk)
   exact⟨cs::r1,n8,r2,j1++i1,ic,i2,rfl,by simp[hl],by rw[List.append_assoc],.cons h1 h3,h4,h5⟩
theorem dM.at_ (h:dM R g rows xs ids) (k:Nat) (hk:k<xs.length):∃cs ic,rows[k]? =some cs/\R g cs xs[k] ic/\∀i∈ic,i∈ids:=by
 obtain⟨r1,cs,r2,i1,ic,i2,rfl,hl,rfl,h3,h4,h5⟩:=h.split k hk
 refine⟨cs,ic,by rw[List.getElem?_append_right ab];simp[hl],h4,fun i hi=>by simp[hi]⟩
theorem dM.fz {n:Nat} {e:α->List AV} (h:dM R g rows xs ids) (hz:∀{cs x ids},R g cs x ids->bY (dC g) n cs=some (e x)):dy (dC g) n rows=some (xs.map e):=by
 induction h with
 |nil=>rw[dy];rfl
 |cons h1 _ ih=>rw[dy,hz h1,ih];rfl
end
section
variable {α:Type} {R:uC α} {sz:Nat} {g g':Rows} {a:AV} {xs:List α} {ids:List Id}
end
end Go.Proofs.YtihgaadadaekmaaGreatDoor.V
