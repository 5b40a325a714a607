/- One operation, calls among them. -/
import Derived.Test.YtphenfakmdknlaaGreatBrA
import Derived.Orders
import Derived.Conc.LoneCalls
import Derived.WalkKit
import Derived.WalkSpells
import Derived.WalkLawsBesides
import Derived.Lib.Hide
import Derived.Deep.QuietTactic
import Derived.BigQuiet
import Derived.StillTailTactics
import Derived.Deep.RegionWith
import Derived.Deep.RegionHeld3
import Derived.Deep.LoopGhost
import Derived.Deep.CutRange
import Derived.Deep.DeepCutAuto
import Derived.Test.YtphenfakmdknlaaGreatChecked
set_option linter.unusedVariables false
set_option linter.unusedSimpArgs false
set_option maxRecDepth 100000
set_option maxHeartbeats 16000000
namespace Go.Proofs.YtphenfakmdknlaaGreat.V
open Go.RowKit
variable {P:Program} {w w':World} {D D' D2:Nat->Prop} {ι ι' ι2:Names}
def Sound (P:Program):fb:=fun f args σ K=>∀(hs:Nat) (D:Nat->Prop) (ι:Names) (w:World) (vs:Array Value),fN P hs D ι σ.get w->Used ι σ.next (fun _=>False)->eP P w D ι args vs->
 Calls P f vs w fun e w'=>∃r g' n' D' ι' u,e=.returned u/\K r ⟨g',n'⟩/\Step hs D ι w D' ι' w'/\fN P hs D' ι' g' w'/\Used ι' n' (fun _=>False)/\σ.next<=n'/\cQ P w' D' ι' r u
section
variable {g:Rows} {hs:Nat} {env:Env} {a:Act} {o:Oper} {id:Id} {v:AV}
theorem fN.ro (S:fN P hs D ι g w):fN P w.heap.size D ι (ro g) w:=by
 refine⟨Nat.le_refl _,S.dead,fun id r h=>?_,fun id jW r r' B B' h h' hw=>?_⟩
 ·unfold V.ro at h
  simp only[Option.map_eq_some_iff]at h
  obtain⟨r0,h0,rfl⟩:=h
  obtain⟨B,hB,R,_,_⟩:=S.row id r0 h0
  exact⟨B,hB,R.flag false,fun h=>by simp at h,fun h=>by simp at h⟩
 ·unfold V.ro at h
  simp only[Option.map_eq_some_iff]at h
  obtain⟨r0,h0,rfl⟩:=h
  simp at hw
theorem xq {g0:Rows} {f:Nat} {args:List AV} {n:Nat} {K:AV->Prop} {vs:Array Value} (h:PC (Sound P) f args ⟨g0,n⟩ K) (oL:∀id r,g0 id=some r->g id=some r) (S:fN P hs D ι g w) (U:Used ι n (fun _=>False)) (A:eP P w D ι args vs):
  Calls P f vs w fun e w'=>∃r D' u,e=.returned u/\K r/\Step hs D ι w D' ι w'/\fN P hs D' ι g w'/\cQ P w' D' ι r u:=by
 refine(h w.heap.size D ι w vs (S.sub oL).ro U A).mono ?_
 rintro e w' ⟨r0,g',n',D1,ι1,u,rfl,⟨r,hr,hK⟩,T,S1,_,_,hR⟩
 have hb:∀b,b<w.heap.size->w'.heap[b]? =w.heap[b]? :=T.below.block
 have hz:=T.below.size
 have q:=pb (D2:=fun b=>D b∨(w.heap.size<=b/\b<w'.heap.size)) (ι2:=ι) (fun b hd=>by
  rcases T.new b hd with h|h
  ·exact .inl h
  ·exact .inr ⟨h,S1.dead b hd⟩) (fun id row hg hw=>by
  obtain⟨B,hB,R,h1,_⟩:=S1.row id row hg
  exact⟨B,hB,R,.inr ⟨h1 hw,R.lt⟩⟩) 6 r0 u r hR hr
 refine⟨r,_,u,rfl,hK,?_,?_,q.1⟩
 ·exact Step.stay S hb hz T.below.os T.below.tape T.below.output (fun _ h=>.inl h) (fun b h=>by rcases h with h|h;exact .inl h;exact .inr h.1) (fun _ _ h=>h)
 ·exact S.stay hb hz (fun _ h=>.inl h) (fun b h=>by rcases h with h|h;exact Nat.lt_of_lt_of_le (S.dead b h) hz;exact h.2) (fun b h=>by rcases h with h|h;exact .inl h;exact .inr h.1) (fun _ _ h=>h)
theorem uk {g0:Rows} {f:Nat} {args:List AV} {n:Nat} {K:AV->Prop} {vs:Array Value} (h:PCv (Sound P) f args ⟨g0,n⟩ K) (oL:∀id r,g0 id=some r->g id=some r) (S:fN P hs D ι g w) (U:Used ι n (fun _=>False)) (A:eP P w D ι args vs):
  Calls P f vs w fun e w'=>∃r D' u,e=.returned u/\K r/\Step hs D ι w D' ι w'/\fN P hs D' ι g w'/\cQ P w' D' ι r u:=by
 obtain⟨eA,ha,h⟩:=h
 let D1:Nat->Prop:=fun b=>D b∨∃id r B,g id=some r/\ι id=some B/\b=B.b
 have lt:∀id r B,g id=some r->ι id=some B->B.b<w.heap.size:=fun id r B h1 h2=>by
  obtain⟨B',dH,R,_⟩:=S.row id r h1
  rw[h2]at dH;injection dH with dH;subst dH
  exact R.lt
 have S0:fN P w.heap.size D1 ι (fun _=>none) w:=⟨Nat.le_refl _,fun b hb=>by
  rcases hb with hb|⟨id,r,B,h1,h2,rfl⟩
  ·exact S.dead b hb
  ·exact lt id r B h1 h2,fun id r h=>(by cases h),fun id jW r r' B B' h=>(by cases h)⟩
 obtain⟨l1,l2⟩:=fJ ha
 have A':eP P w D1 ι eA vs:=⟨by rw[A.1,l1],fun j a hj=>by
  obtain⟨a0,kg,hf⟩:=l2 j a hj
  obtain⟨u,hu,hr⟩:=A.2 j a0 kg
  refine⟨u,hu,(pb (D2:=D1) (ι2:=ι) (fun b h=>.inl h) (fun id row hg hw=>?_) 6 a0 u a hr hf).1⟩
  unfold dG at hg
  simp only[Option.map_eq_some_iff]at hg
  obtain⟨r,lS,rfl⟩:=hg
  obtain⟨B,hB,R,_,_⟩:=S.row id r (oL id r lS)
  exact⟨B,hB,R.flag true,.inr ⟨id,r,B,oL id r lS,hB,rfl⟩⟩⟩
 refine(h w.heap.size D1 ι w vs S0 U A').mono ?_
 rintro e w' ⟨r0,g',n',D2,ι1,u,rfl,⟨r,hr,hK⟩,T,S1,_,_,hR⟩
 have hb:∀b,b<w.heap.size->w'.heap[b]? =w.heap[b]? :=T.below.block
 have hz:=T.below.size
 have q:=DJ (D2:=fun b=>D b∨(w.heap.size<=b/\b<w'.heap.size)) (ι2:=ι) (fun id row hg hw=>by
  obtain⟨B,hB,R,h1,_⟩:=S1.row id row hg
  exact⟨B,hB,R,.inr ⟨h1 hw,R.lt⟩⟩) 6 r0 u r hR hr
 refine⟨r,_,u,rfl,hK,?_,?_,q.1⟩
 ·exact Step.stay S hb hz T.below.os T.below.tape T.below.output (fun _ h=>.inl h) (fun b h=>by rcases h with h|h;exact .inl h;exact .inr h.1) (fun _ _ h=>h)
 ·exact S.stay hb hz (fun _ h=>.inl h) (fun b h=>by rcases h with h|h;exact Nat.lt_of_lt_of_le (S.dead b h) hz;exact h.2) (fun b h=>by rcases h with h|h;exact .inl h;exact .inr h.1) (fun _ _ h=>h)
theorem Dd {g0:Rows} {f:Nat} {args:List AV} {n:Nat} {K:AV->Prop} {vs:Array Value} (h:e8 (Sound P) f args ⟨g0,n⟩ K) (oL:∀id r,g0 id=some r->g id=some r) (S:fN P hs D ι g w) (U:Used ι n (fun _=>False)) (A:eP P w D ι args vs):
  Calls P f vs w fun e w'=>∃r D' u,e=.returned u/\K r/\Step hs D ι w D' ι w'/\fN P hs D' ι g w'/\cQ P w' D' ι r u:=by
 rcases h with h|h
 ·exact xq h oL S U A
 ·exact uk h oL S U A
theorem EI {D1 D2:Nat->Prop} {ι1 ι2:Names} {w1:World} {a:AV} {v:Value} (hp:a.plain=true) (h:cQ P w D1 ι1 a v):cQ P w1 D2 ι2 a v:=by
 cases h with
 |ez a v h=>cases h<;>first|(simp[AV.plain]at hp;done)|exact .ez _ _ (by constructor)
 |_=>simp[AV.plain]at hp
theorem fN.add {r:Row} {B:qM} (S:fN P hs D ι g w) (S':fN P hs D ι g w') (hf:ι id=none) (jH:w.heap.size<=B.b) (R:gL P w' D (kd ι id B) B r):fN P hs D (kd ι id B) (bC g id r) w':=by
 have lt:∀jW r' B',g jW=some r'->ι jW=some B'->B'.b<w.heap.size:=fun jW r' B' h1 h2=>by
  obtain⟨B2,nQ,R2,_⟩:=S.row jW r' h1
  rw[h2]at nQ;injection nQ with nQ;subst nQ
  exact R2.lt
 have ne:∀jW r',g jW=some r'->jW≠id:=fun jW r' h he=>by
  subst he
  obtain⟨B2,nQ,_⟩:=S.row _ r' h
  rw[hf]at nQ;cases nQ
 refine⟨S'.lo,S'.dead,fun jW r' h=>?_,fun Po id2 r1 r2 B1 B2 h1 h2 hw xk nQ hb=>?_⟩
 ·unfold bC at h
  split at h
  ·rename_i he
   subst he
   injection h with h;subst h
   exact⟨B,eh _ _ _,R,fun _=>Nat.le_trans S.lo jH,fun _ hd=>Nat.lt_irrefl _ (Nat.lt_of_lt_of_le (S.dead _ hd) jH)⟩
  ·obtain⟨B',dH,R',k1,k2⟩:=S'.row jW r' h
   exact⟨B',by rw[fA (ne _ _ h)];exact dH,R'.frame rfl (fun a v hr=>hr.frame (fun _ _=>rfl) (fun _ h=>h) (fB hf)),k1,k2⟩
 ·unfold bC at h1 h2
  split at h1
  ·rename_i e1
   split at h2
   ·rename_i e2;rw[e1,e2]
   ·exfalso
    subst e1
    rw[eh]at xk;injection xk with xk;subst xk
    rw[fA (ne _ _ h2)]at nQ
    have:=lt _ _ _ h2 nQ
    omega
  ·rw[fA (ne _ _ h1)]at xk
   split at h2
   ·rename_i e2
    exfalso
    subst e2
    rw[eh]at nQ;injection nQ with nQ;subst nQ
    have:=lt _ _ _ h1 xk
    omega
   ·rw[fA (ne _ _ h2)]at nQ
    exact S'.inj Po id2 r1 r2 B1 B2 h1 h2 hw xk nQ hb
theorem Fo {g0:Rows} {f:Nat} {args:List AV} {n sz:Nat} {rows:List (List AV)} {vs:Array Value} (h:CM (Sound P) f args ⟨g0,n⟩ sz rows) (oL:∀id r,g0 id=some r->g id=some r) (S:fN P hs D ι g w) (U:Used ι n (fun _=>False)) (A:eP P w D ι args vs) (hf:ι id=none):
  Calls P f vs w fun e w'=>∃u B,e=.returned u/\Step hs D ι w D (kd ι id B) w'/\fN P hs D (kd ι id B) (bC g id ⟨true,sz,rows⟩) w'/\cQ P w' D (kd ι id B) (.own id 0 rows.length) u:=by
 obtain⟨lx,eA,ha,h⟩:=h
 let D1:Nat->Prop:=fun b=>D b∨∃id r B,g id=some r/\ι id=some B/\b=B.b
 have lt:∀id r B,g id=some r->ι id=some B->B.b<w.heap.size:=fun id r B h1 h2=>by
  obtain⟨B',dH,R,_⟩:=S.row id r h1
  rw[h2]at dH;injection dH with dH;subst dH
  exact R.lt
 have S0:fN P w.heap.size D1 ι (fun _=>none) w:=⟨Nat.le_refl _,fun b hb=>by
  rcases hb with hb|⟨id,r,B,h1,h2,rfl⟩
  ·exact S.dead b hb
  ·exact lt id r B h1 h2,fun id r h=>(by cases h),fun id jW r r' B B' h=>(by cases h)⟩
 obtain⟨l1,l2⟩:=fJ ha
 have A':eP P w D1 ι eA vs:=⟨by rw[A.1,l1],fun j a hj=>by
  obtain⟨a0,kg,hz⟩:=l2 j a hj
  obtain⟨u,hu,hr⟩:=A.2 j a0 kg
  refine⟨u,hu,(pb (D2:=D1) (ι2:=ι) (fun b h=>.inl h) (fun id row hg hw=>?_) 6 a0 u a hr hz).1⟩
  unfold dG at hg
  simp only[Option.map_eq_some_iff]at hg
  obtain⟨r,lS,rfl⟩:=hg
  obtain⟨B,hB,R,_,_⟩:=S.row id r (oL id r lS)
  exact⟨B,hB,R.flag true,.inr ⟨id,r,B,oL id r lS,hB,rfl⟩⟩⟩
 refine(h w.heap.size D1 ι w vs S0 U A').mono ?_
 rintro e w' ⟨r0,g',n',D2,ι1,u,rfl,⟨i0,hr,hg⟩,T,S1,_,_,hR⟩
 subst hr
 have hb:∀b,b<w.heap.size->w'.heap[b]? =w.heap[b]? :=T.below.block
 have hz:=T.below.size
 obtain⟨B,hB,R,k1,_⟩:=S1.row i0 _ hg
 have jH:w.heap.size<=B.b:=k1 rfl
 obtain⟨o,cap,B',rfl,dH,q2,q3,q4,q5,hk⟩:=gD hR
 rw[hB]at dH;injection dH with dH;subst dH
 replace R:=R.row hk
 have S':fN P hs D ι g w':=S.stay hb hz (fun _ h=>h) (fun b h=>Nat.lt_of_lt_of_le (S.dead b h) hz) (fun b h=>.inl h) (fun _ _ h=>h)
 have R':kC P w' D (kd ι id B) B ⟨true,sz,rows⟩:=⟨R.sz,R.vH,R.fits,R.len,R.flat,fun i j cs a hi hj=>by
  obtain⟨v,h1,h2⟩:=R.at_ i j cs a hi hj
  exact⟨v,h1,EI (lx cs (List.mem_of_getElem? hi) a (List.mem_of_getElem? hj)) h2⟩⟩
 exact⟨_,B,rfl,Step.stay S hb hz T.below.os T.below.tape T.below.output (fun _ h=>h) (fun _ h=>.inl h) (fB hf),S.add S' hf jH (R'.obj hk),.own id 0 _ _ _ B (eh _ _ _) hk q2 q3 q4 q5⟩
theorem iK {f:Nat} {args:Array Value} (hc:fc P f=true):(callFunc f args).run P w=.ok (.enter f args) w:=by
 unfold fc at hc
 split at hc
 ·rename_i fn hf
  simp only[Bool.and_eq_true,Bool.not_eq_true']at hc
  have hb:fn.body.isNone=false:=by cases hq:fn.body<;>simp_all
  simp only[callFunc,Sem.run_bind,run_program,Result.andThen_ok,hf,hc.2,Bool.false_eq_true,if_false,hb]
  rfl
 ·simp at hc
theorem yT {f:Nat} {args:List O} (hc:oS P o.op=some (.call f args)):∃c,o.op=.call c/\c.callee=.value (.func f)/\fc P f=true/\c.args.toList.mapM (cO P)=some args:=by
 unfold oS at hc
 split at hc
 case h_23=>
  rename_i c ho
  refine⟨c,ho,?_⟩
  unfold lL at hc
  split at hc
  all_goals (try(repeat' (split at hc))<;>(simp only[Option.bind_eq_bind,Option.bind_eq_some_iff,Option.pure_def,Option.some.injEq,Option.map_eq_some_iff,reduceCtorEq,and_false,exists_false]at hc))
  all_goals simp_all
 all_goals (try unfold sf at hc)<;>(try unfold qg at hc)<;>(repeat' (split at hc))<;>(simp only[Option.bind_eq_bind,Option.bind_eq_some_iff,Option.pure_def,Option.some.injEq,Option.map_eq_some_iff,reduceCtorEq,and_false,exists_false]at hc)
theorem qu {x:O} {args:List O} (hc:oS P o.op=some (.qS x args)):∃c t,o.op=.call c/\c.callee=.value (.tmp t)/\x=.t t/\c.args.toList.mapM (cO P)=some args:=by
 unfold oS at hc
 split at hc
 case h_23=>
  rename_i c ho
  refine⟨c,?_⟩
  unfold lL at hc
  split at hc
  all_goals (try(repeat' (split at hc))<;>(simp only[Option.bind_eq_bind,Option.bind_eq_some_iff,Option.pure_def,Option.some.injEq,Option.map_eq_some_iff,reduceCtorEq,and_false,exists_false]at hc))
  all_goals simp_all
 all_goals (try unfold sf at hc)<;>(try unfold qg at hc)<;>(repeat' (split at hc))<;>(simp only[Option.bind_eq_bind,Option.bind_eq_some_iff,Option.pure_def,Option.some.injEq,Option.map_eq_some_iff,reduceCtorEq,and_false,exists_false]at hc)
theorem D8 {n:Nat} {x y:O} (hc:oS P o.op=some (.store n x y)):∃t x' y',o.op=.store t x' y'/\dS P t=some n/\cO P x'=some x/\cO P y'=some y:=by
 unfold oS at hc
 split at hc
 case h_7=>
  rename_i t x' y' ho
  refine⟨t,x',y',ho,?_⟩
  simp only[Option.bind_eq_bind,Option.bind_eq_some_iff,Option.pure_def,Option.some.injEq]at hc
  obtain⟨n',h1,x2,h2,y2,h3,he⟩:=hc
  injection he with e1 e2 e3
  subst e1;subst e2;subst e3
  exact⟨h1,h2,h3⟩
 all_goals (try unfold sf at hc)<;>(try unfold qg at hc)<;>(try unfold lL at hc)<;>(repeat' (split at hc))<;>(simp only[Option.bind_eq_bind,Option.bind_eq_some_iff,Option.pure_def,Option.some.injEq,Option.map_eq_some_iff,reduceCtorEq,and_false,exists_false]at hc)
theorem Bc {n:Nat} {x y:O} (hc:oS P o.op=some (.append n x y)):∃(t e:TypeId) (m:Nat) (z:List K) (i:TypeInfo) (x' y':Operand),n=m+1/\o.op=.call {callee:=.builtin .append,args:= #[x',y'],argTypes:= #[t,t]}/\
  P.underlying t=some (.slice e)/\dS P e=some (m+1)/\iT P e=some z/\P.info? e=some i/\i.bytes<=32768/\cO P x'=some x/\cO P y'=some y:=by
 unfold oS at hc
 split at hc
 case h_23=>
  rename_i c ho
  unfold lL at hc
  split at hc
  case h_2=>
   rename_i jG
   split at hc
   ·rename_i x' y' t u h1 h2
    split at hc
    ·rename_i e ht
     split at hc
     ·rename_i m z i e1 e2 e3
      split at hc
      ·rename_i hb
       simp only[Option.bind_eq_bind,Option.bind_eq_some_iff,Option.pure_def,Option.some.injEq]at hc
       obtain⟨x2,h3,y2,h4,he⟩:=hc
       injection he with k1 k2 k3
       subst k1;subst k2;subst k3
       obtain⟨Ct,rfl⟩:=hb
       refine⟨t,e,m,z,i,x',y',rfl,?_,ht,e1,e2,e3,Ct,h3,h4⟩
       rw[ho]
       obtain⟨ca,cb,cc⟩:=c
       simp only at h1 h2 jG
       subst jG
       congr
       ·exact Array.ext' h1
       ·exact Array.ext' h2
      ·simp at hc
     ·simp at hc
    ·simp at hc
   ·simp at hc
  all_goals (repeat' (split at hc))<;>(simp only[Option.bind_eq_bind,Option.bind_eq_some_iff,Option.pure_def,Option.some.injEq,Option.map_eq_some_iff,reduceCtorEq,and_false,exists_false]at hc)
 all_goals (try unfold sf at hc)<;>(try unfold qg at hc)<;>(repeat' (split at hc))<;>(simp only[Option.bind_eq_bind,Option.bind_eq_some_iff,Option.pure_def,Option.some.injEq,Option.map_eq_some_iff,reduceCtorEq,and_false,exists_false]at hc)
theorem GI {n:Nat} {x y:O} (hc:oS P o.op=some (.copy n x y)):∃(t t2 e:TypeId) (m:Nat) (x' y':Operand),n=m+1/\o.op=.call {callee:=.builtin .copy,args:= #[x',y'],argTypes:= #[t,t2]}/\
  P.underlying t=some (.slice e)/\dS P e=some (m+1)/\cO P x'=some x/\cO P y'=some y:=by
 unfold oS at hc
 split at hc
 case h_23=>
  rename_i c ho
  unfold lL at hc
  split at hc
  case h_7=>
   rename_i jG
   split at hc
   ·rename_i x' y' t t2 h1 h2
    split at hc
    ·rename_i e ht
     split at hc
     ·rename_i m e1
      simp only[Option.bind_eq_bind,Option.bind_eq_some_iff,Option.pure_def,Option.some.injEq,fH.copy.injEq]at hc
      obtain⟨x2,h3,y2,h4,k0,k1,k2⟩:=hc
      subst k1;subst k2
      refine⟨t,t2,e,m,x',y',k0.symm,?_,ht,e1,h3,h4⟩
      rw[ho]
      obtain⟨ca,cb,cc⟩:=c
      simp only at h1 h2 jG
      subst jG
      congr
      ·exact Array.ext' h1
      ·exact Array.ext' h2
     ·simp at hc
    ·simp at hc
   ·simp at hc
  all_goals (repeat' (split at hc))<;>(simp only[Option.bind_eq_bind,Option.bind_eq_some_iff,Option.pure_def,Option.some.injEq,Option.map_eq_some_iff,reduceCtorEq,and_false,exists_false]at hc)
 all_goals (try unfold sf at hc)<;>(try unfold qg at hc)<;>(repeat' (split at hc))<;>(simp only[Option.bind_eq_bind,Option.bind_eq_some_iff,Option.pure_def,Option.some.injEq,Option.map_eq_some_iff,reduceCtorEq,and_false,exists_false]at hc)
theorem D7 {z:List K} {x:O} (hc:oS P o.op=some (.clear z x)):∃(t e:TypeId) (m:Nat) (x':Operand),o.op=.call {callee:=.builtin .clear,args:= #[x'],argTypes:= #[t]}/\
  P.underlying t=some (.slice e)/\dS P e=some (m+1)/\iT P e=some z/\cO P x'=some x:=by
 unfold oS at hc
 split at hc
 case h_23=>
  rename_i c ho
  unfold lL at hc
  split at hc
  case h_3=>
   rename_i jG
   split at hc
   ·rename_i x' t h1 h2
    split at hc
    ·rename_i e ht
     split at hc
     ·rename_i m z' e1 e2
      simp only[Option.map_eq_some_iff]at hc
      obtain⟨x2,h3,he⟩:=hc
      injection he with k1 k2
      subst k1;subst k2
      refine⟨t,e,m,x',?_,ht,e1,e2,h3⟩
      rw[ho]
      obtain⟨ca,cb,cc⟩:=c
      simp only at h1 h2 jG
      subst jG
      congr
      ·exact Array.ext' h1
      ·exact Array.ext' h2
     ·simp at hc
    ·simp at hc
   ·simp at hc
  all_goals (repeat' (split at hc))<;>(simp only[Option.bind_eq_bind,Option.bind_eq_some_iff,Option.pure_def,Option.some.injEq,Option.map_eq_some_iff,reduceCtorEq,and_false,exists_false]at hc)
 all_goals (try unfold sf at hc)<;>(try unfold qg at hc)<;>(repeat' (split at hc))<;>(simp only[Option.bind_eq_bind,Option.bind_eq_some_iff,Option.pure_def,Option.some.injEq,Option.map_eq_some_iff,reduceCtorEq,and_false,exists_false]at hc)
theorem Mf {q:MW} {xs:List O} (hc:oS P o.op=some (.mw q xs)):
  (∃t x k y m z x' k' y',(o.op=.mapUpdate t x k y∨o.op=.insert t x k y)/\qh P t=some (m,z)/\cO P x=some x'/\cO P k=some k'/\cO P y=some y'/\q=.set m/\xs=[x',k',y'])∨
  (∃t t' x k m z x' k',o.op=.call {callee:=.builtin .delete,args:= #[x,k],argTypes:= #[t,t']}/\qh P t=some (m,z)/\cO P x=some x'/\cO P k=some k'/\q=.del m/\xs=[x',k']):=by
 unfold oS at hc
 split at hc
 case h_23=>
  rename_i c ho
  right
  unfold lL at hc
  split at hc
  case h_6=>
   rename_i jG
   split at hc
   ·rename_i x k t t' h1 h2
    split at hc
    ·rename_i m z x' k' e1 e2 e3
     injection hc with hc
     injection hc with q1 q2
     refine⟨t,t',x,k,m,z,x',k',?_,e1,e2,e3,q1.symm,q2.symm⟩
     rw[ho]
     obtain⟨ca,cb,cc⟩:=c
     simp only at h1 h2 jG
     subst jG
     congr
     ·exact Array.ext' h1
     ·exact Array.ext' h2
    ·cases hc
   ·cases hc
  all_goals (repeat' (split at hc))<;>(simp only[Option.bind_eq_bind,Option.bind_eq_some_iff,Option.pure_def,Option.some.injEq,Option.map_eq_some_iff,reduceCtorEq,and_false,exists_false]at hc)
 case h_29=>
  rename_i t x k y ho
  left
  split at hc
  ·rename_i m z x' k' y' e1 e2 e3 e4
   injection hc with hc
   injection hc with q1 q2
   exact⟨t,x,k,y,m,z,x',k',y',.inl ho,e1,e2,e3,e4,q1.symm,q2.symm⟩
  ·cases hc
 case h_30=>
  rename_i t x k y ho
  left
  split at hc
  ·rename_i m z x' k' y' e1 e2 e3 e4
   injection hc with hc
   injection hc with q1 q2
   exact⟨t,x,k,y,m,z,x',k',y',.inr ho,e1,e2,e3,e4,q1.symm,q2.symm⟩
  ·cases hc
 all_goals (try unfold sf at hc)<;>(try unfold qg at hc)<;>(repeat' (split at hc))<;>(simp only[Option.bind_eq_bind,Option.bind_eq_some_iff,Option.pure_def,Option.some.injEq,Option.map_eq_some_iff,reduceCtorEq,and_false,exists_false]at hc)
def iy (g:Rows) (id:Id):Option Row->Rows
 |some r=>bC g id r
 |none=>g
def si (X:fb) (hid:List Nat) (site n:Nat) (f:Nat) (args:List AV) (g:Rows) (v:AV) (g':Rows):Prop:=
 (e8 X f args ⟨eI hid n g,n+1⟩ (fun r=>r=v)/\g'=g)∨
 (hid.contains site=true/\∃sz rows,CM X f args ⟨eI hid n g,n+1⟩ sz rows/\v=.own ⟨site,n⟩ 0 rows.length/\g'=bC g ⟨site,n⟩ ⟨true,sz,rows⟩)
def VS (X:fb) (n:Nat) (vo:bw) (env:Env) (g:Rows) (v:AV) (g':Rows):Prop:=
 match vo.op with
 | .call f args=>si X vo.hid vo.site n f (args.map (cJ env)) g v g'
 | .qS x args=>∃f l,sg (cJ env x) (args.map (cJ env))=some (f,l)/\si X vo.hid vo.site n f l g v g'
 | .store .. | .append .. | .copy .. | .clear .. | .mw .. =>eJ vo.op (cJ env) g ⟨vo.site,n⟩=some (v,g')
 |_=>∃mr,dY vo.op (cJ env) (eI vo.hid n g) ⟨vo.site,n⟩=some (v,mr)/\g'=iy g ⟨vo.site,n⟩ mr
def J7 (P:Program) (hs:Nat) (D:Nat->Prop) (ι:Names) (w:World) (U:Nat->Prop) (site n:Nat) (a:Act) (dst:Option Tmp) (v:AV) (g':Rows) (a':Act) (w':World):Prop:=
 ∃u D' ι',a'=a.put dst u/\Step hs D ι w D' ι' w'/\fN P hs D' ι' g' w'/\cQ P w' D' ι' v u/\Used ι' n (fun s=>U s∨s=site)
theorem fresh {n:Nat} {U:Nat->Prop} {s:Nat} (h:Used ι n U) (hU:¬U s):ι ⟨s,n⟩=none:=by
 cases hq:ι ⟨s,n⟩with
 |none=>rfl
 |some B=>
  rcases h ⟨s,n⟩ (by rw[hq];simp)with h|⟨_,h⟩
  ·exact absurd h (Nat.lt_irrefl _)
  ·exact absurd h hU
theorem Used.more {n:Nat} {U U':Nat->Prop} (h:Used ι n U) (hU:∀s,U s->U' s):Used ι n U':=fun id hid=>by
 rcases h id hid with h|⟨h1,h2⟩
 ·exact .inl h
 ·exact .inr ⟨h1,hU _ h2⟩
theorem Used.next {n:Nat} {U:Nat->Prop} (h:Used ι n U):Used ι (n+1) (fun _=>False):=fun id hid=>by
 rcases h id hid with h|⟨h1,_⟩
 ·exact .inl (Nat.lt_succ_of_lt h)
 ·exact .inl ad
theorem Used.upd {n:Nat} {U:Nat->Prop} {s:Nat} {B:qM} (h:Used ι n U):Used (kd ι ⟨s,n⟩ B) n (fun x=>U x∨x=s):=fun id hid=>by
 by_cases he:id=⟨s,n⟩
 ·subst he;exact .inr ⟨rfl,.inr rfl⟩
 ·rw[fA he]at hid
  exact(h.more (U':=fun x=>U x∨x=s) fun _ h=>Or.inl h) id hid
theorem mm {xs:Array Operand} {ys:List O} (E:cF P w D ι env a) (h:xs.toList.mapM (cO P)=some ys):eP P w D ι (ys.map (cJ env)) (xs.map a.eval):=by
 obtain⟨h1,h2⟩:=Bz E h
 refine⟨by simpa using h1,fun j b hj=>?_⟩
 simp only[List.getElem?_map,Option.map_eq_some_iff]at hj
 obtain⟨y,hy,rfl⟩:=hj
 have ea:j<xs.size:=by have:=(List.getElem?_eq_some_iff.1 hy).1;simp at h1;omega
 refine⟨a.eval xs[j],by simp[ea],?_⟩
 have:=h2 j y hy
 simpa[List.getD_eq_getElem?_getD,ea]using this
theorem mT {xs ys:List AV} {vs us:Array Value} (h:eP P w D ι xs vs) (k:eP P w D ι ys us):eP P w D ι (xs++ys) (vs++us):=
 ⟨by simp[h.1,k.1],fun j b hj=>by
  by_cases ea:j<xs.length
  ·rw[List.getElem?_append_left ea]at hj
   obtain⟨u,hu,tY⟩:=h.2 j b hj
   exact⟨u,by rw[Array.getElem?_append_left (by rw[h.1];exact ea)];exact hu,tY⟩
  ·rw[List.getElem?_append_right ad]at hj
   obtain⟨u,hu,tY⟩:=k.2 _ b hj
   exact⟨u,by rw[Array.getElem?_append_right (by rw[h.1];omega),h.1];exact hu,tY⟩⟩
theorem s9:eP P w D ι [] #[]:=⟨rfl,fun j b hj=>by simp at hj⟩
theorem sj {x:AV} {l l':List AV} {f:Nat} {vs:Array Value} {v:Value} (h:sg x l=some (f,l')) (hr:cQ P w D ι x v) (hA:eP P w D ι l vs):
  ∃first cP,v=.func (.func f) first cP/\fc P f=true/\eP P w D ι l' (first++vs++cP):=by
 unfold sg at h
 split at h
 ·simp only[Option.some.injEq,Prod.mk.injEq]at h
  obtain⟨rfl,rfl⟩:=h
  obtain⟨us,q,he,Cv,n1,q1,q2⟩:=wS hr
  refine⟨#[],us,he,Cv,?_⟩
  rw[Array.empty_append]
  exact mT hA ⟨n1,fun j b hj=>⟨q j,q1 j (List.getElem?_eq_some_iff.1 hj).1,q2 j b hj⟩⟩
 ·simp only[Option.some.injEq,Prod.mk.injEq]at h
  obtain⟨rfl,rfl⟩:=h
  obtain⟨us,q,he,Cv,n1,q1,q2⟩:=JL hr
  refine⟨us, #[],he,Cv,?_⟩
  rw[Array.append_empty]
  exact mT ⟨n1,fun j b hj=>⟨q j,q1 j (List.getElem?_eq_some_iff.1 hj).1,q2 j b hj⟩⟩ hA
 ·cases h
theorem xz {n:Nat} {vo:bw} {g':Rows} {U:Nat->Prop} {Q:Exit->Act->World->Prop} {K:Act->World->Prop} (hc:oS P o.op=some vo.op) (hv:VS (Sound P) n vo env g v g') (S:fN P hs D ι g w) (Us:Used ι n U) (hU:¬U vo.site) (E:cF P w D ι env a)
  (hK:∀a' w',J7 P hs D ι w U vo.site n a o.dst v g' a' w'->K a' w'):o.wp P a w K Q:=by
 have hf:=fresh Us hU
 have xL:∀(f:Nat) (args:List AV) (vs:Array Value),si (Sound P) vo.hid vo.site n f args g v g'->eP P w D ι args vs->(execOp a.eval o).run P w=.ok (.enter f vs) w->o.wp P a w K Q:=by
  intro f args vs hP hA gC
  unfold Oper.wp
  rw[gC]
  rcases hP with⟨hP,rfl⟩|⟨_,sz,rows,hM,rfl,rfl⟩
  ·refine(Dd hP xc S Us.next hA).mono ?_
   rintro e w' ⟨r,D',u,rfl,rfl,T,S',hR⟩
   exact hK _ _ ⟨u,D',ι,rfl,T,S',hR,Us.more fun _ h=>.inl h⟩
  ·refine(Fo hM xc S Us.next hA hf).mono ?_
   rintro e w' ⟨u,B,rfl,T,S',hR⟩
   exact hK _ _ ⟨u,D,_,rfl,T,S',hR,Us.upd⟩
 have quiet:∀(mr:Option Row),dY vo.op (cJ env) (eI vo.hid n g) ⟨vo.site,n⟩=some (v,mr)->g'=iy g ⟨vo.site,n⟩ mr->o.wp P a w K Q:=by
  intro mr hq hg
  have hqs:=uX hc hq (S.sub xc) E
  unfold Oper.wp
  cases mr with
  |none=>
   obtain⟨u,gC,hR⟩:=hqs
   rw[gC]
   subst hg
   exact hK _ _ ⟨u,D,ι,rfl,Step.refl _ _ _ _,S,hR,Us.more fun _ h=>.inl h⟩
  |some r=>
   rcases hqs with⟨u,cells,T,gC,h1,h2,h3,h4,h5,h6⟩|⟨m,gC,NC,tK⟩|⟨c,gC,NC,tK⟩
   case inr.inr=>
    rw[gC]
    subst hg NC tK
    have eU:w.heap.size<(w.alloc (.chan c #[] false 0 0 false)).heap.size:=by simp
    have S':=S.stay (w':=w.alloc (.chan c #[] false 0 0 false)) (D':=D) (ι':=ι) (fun k hk=>Below.heap_alloc _ _ _ hk) (by simp) (fun _ h=>h) (fun b hd=>Nat.lt_trans (S.dead b hd) eU) (fun _ h=>.inl h) (fun _ _ h=>h)
    have S1:=S.add S' (id:=⟨vo.site,n⟩) (B:=⟨w.heap.size,o9+c,0,some (.chan c)⟩) (r:=⟨true,o9+c,[]⟩) hf (Nat.le_refl _) ⟨rfl,fun cs h=>by simp at h,fun h=>by simp at h,fun m' h=>(by simp at h),fun c' h=>by
     simp only[Option.some.injEq,BK.chan.injEq]at h;subst h
     exact⟨rfl, #[],0,0,(show(w.heap.push (Obj.chan c #[] false 0 0 false))[w.heap.size]? =some (Obj.chan c #[] false 0 0 false) by simp),rfl,fun i cs h=>by simp at h⟩⟩
    exact hK _ _ ⟨_,D,_,rfl,Step.stay S (fun k hk=>Below.heap_alloc _ _ _ hk) (by simp) rfl rfl rfl (fun _ h=>h) (fun _ h=>.inl h) (fB hf),S1,.qj _ _ _ (eh _ _ _) rfl,Us.upd⟩
   case inr.inl=>
    rw[gC]
    subst hg NC tK
    have eU:w.heap.size<(w.alloc (.map #[] 0)).heap.size:=by simp
    have S':=S.stay (w':=w.alloc (.map #[] 0)) (D':=D) (ι':=ι) (fun k hk=>Below.heap_alloc _ _ _ hk) (by simp) (fun _ h=>h) (fun b hd=>Nat.lt_trans (S.dead b hd) eU) (fun _ h=>.inl h) (fun _ _ h=>h)
    have S1:=S.add S' (id:=⟨vo.site,n⟩) (B:=⟨w.heap.size,m.zO,0,some (.map m)⟩) (r:=⟨true,m.zO,[]⟩) hf (Nat.le_refl _) ⟨rfl,fun cs h=>by simp at h,fun h=>by simp at h,fun m' h=>by
     simp only[Option.some.injEq,BK.map.injEq]at h;subst h
     exact⟨rfl, #[],0,(show(w.heap.push (Obj.map #[] 0))[w.heap.size]? =some (Obj.map #[] 0) by simp),rfl,⟨fun cs h=>by simp at h,fun x h=>by simp at h,by simp⟩,fun i cs h=>by simp at h⟩,fun c h=>by simp at h⟩
    exact hK _ _ ⟨_,D,_,rfl,Step.stay S (fun k hk=>Below.heap_alloc _ _ _ hk) (by simp) rfl rfl rfl (fun _ h=>h) (fun _ h=>.inl h) (fB hf),S1,.map _ _ _ (eh _ _ _) rfl,Us.upd⟩
   rw[gC]
   subst hg
   have S1:=S.alloc (id:=⟨vo.site,n⟩) (w':=w.alloc (.cells cells T)) rfl hf h1 h2 h3 h4 h5
   refine hK _ _ ⟨u,D,_,rfl,Step.stay S (fun k hk=>Below.heap_alloc _ _ _ hk) (by simp) rfl rfl rfl (fun _ h=>h) (fun _ h=>.inl h) (fB hf),S1,(h6 (kd ι _ _) (eh _ _ _)).frame (fun b hd=>Below.heap_alloc _ _ _ (S.dead b hd)) (fun _ h=>h) (fun _ _ h=>h),Us.upd⟩
 have Nl:eJ vo.op (cJ env) g ⟨vo.site,n⟩=some (v,g')->(∀Ib,zS P hs a o Ib D ι ⟨vo.site,n⟩ v g'->Ib=w->o.wp P a w K Q):=by
  intro _ Ib hE he
  subst he
  obtain⟨u,w',ι',gC,T,S',hR,hι⟩:=hE
  have Ga:J7 P hs D ι Ib U vo.site n a o.dst v g' (a.put o.dst u) w':=⟨u,D,ι',rfl,T,S',hR,fun id hid=>by
   by_cases he:id=⟨vo.site,n⟩
   ·subst he;exact .inr ⟨rfl,.inr rfl⟩
   ·rw[hι id he]at hid
    exact(Us.more (U':=fun x=>U x∨x=vo.site) fun _ h=>Or.inl h) id hid⟩
  unfold Oper.wp
  rcases gC with gC|⟨gC,rfl⟩
  ·rw[gC];exact hK _ _ Ga
  ·rw[gC];exact hK _ _ Ga
 unfold VS at hv
 split at hv
 ·rename_i f args dX
  rw[dX]at hc
  obtain⟨c,ho,jG,Cv,lP⟩:=yT hc
  refine xL f _ (c.args.map a.eval) hv (mm E lP) ?_
  simp only[execOp,ho,resolve,jG,Deferred.ofValue,Act.eval,Sem.run_bind,Sem.run_pure,Result.andThen_ok,invoke,Array.empty_append,Array.append_empty]
  exact iK Cv
 ·rename_i x args dX
  obtain⟨f,l,hx,hP⟩:=hv
  rw[dX]at hc
  obtain⟨c,t,ho,jG,rfl,lP⟩:=qu hc
  obtain⟨first,cP,he,Cv,hL⟩:=sj (v:=a.eval (.tmp t)) hx (E t) (mm E lP)
  refine xL f _ (first++c.args.map a.eval++cP) hP hL ?_
  simp only[execOp,ho,resolve,jG,he,Deferred.ofValue,Sem.run_bind,Sem.run_pure,Result.andThen_ok,invoke]
  exact iK Cv
 ·rename_i m x y dX
  have jT:=hc
  rw[dX]at jT
  obtain⟨t,x',y',ho,h1,h2,h3⟩:=D8 jT
  have lU:=hv
  rw[dX]at lU
  simp only[eJ,Option.map_eq_some_iff,Prod.mk.injEq]at lU
  obtain⟨g1,xm,rfl,rfl⟩:=lU
  exact Nl hv w (Iz S E ho h1 h2 h3 xm) rfl
 ·rename_i m x y dX
  have jT:=hc
  rw[dX]at jT
  obtain⟨t,e,m',z,i,x',y',rfl,ho,h1,h2,h3,h4,h5,h6,h7⟩:=Bc jT
  have lU:=hv
  rw[dX]at lU
  simp only[eJ,Option.bind_eq_some_iff]at lU
  obtain⟨ys,CH,lU⟩:=lU
  exact Nl hv w (FW S E hf ho h1 h2 h3 h4 h5 h6 h7 CH lU) rfl
 ·rename_i m x y dX
  have jT:=hc
  rw[dX]at jT
  obtain⟨t,t2,e,m',x',y',rfl,ho,h1,h2,h3,h4⟩:=GI jT
  have lU:=hv
  rw[dX]at lU
  simp only[eJ,Option.bind_eq_some_iff]at lU
  obtain⟨ys,CH,lU⟩:=lU
  exact Nl hv w (Ll S E ho h1 h2 h3 h4 CH lU) rfl
 ·rename_i z x dX
  have jT:=hc
  rw[dX]at jT
  obtain⟨t,e,m',x',ho,h1,h2,h3,h4⟩:=D7 jT
  have lU:=hv
  rw[dX]at lU
  simp only[eJ,Option.map_eq_some_iff,Prod.mk.injEq]at lU
  obtain⟨g1,xm,rfl,rfl⟩:=lU
  exact Nl hv w (Iy S E ho h1 h2 h3 h4 xm) rfl
 ·rename_i q xs dX
  have jT:=hc
  rw[dX]at jT
  have lU:=hv
  rw[dX]at lU
  simp only[eJ,Option.map_eq_some_iff,Prod.mk.injEq]at lU
  obtain⟨g1,xm,rfl,rfl⟩:=lU
  rcases Mf jT with⟨t,x,k,y,m,z,x',k',y',ho,h1,h2,h3,h4,rfl,rfl⟩|⟨t,t',x,k,m,z,x',k',ho,h1,h2,h3,rfl,rfl⟩
  ·exact Nl hv w (Ln S E ho h1 h2 h3 h4 xm) rfl
  ·exact Nl hv w (Lm S E ho h1 h2 h3 xm) rfl
 ·obtain⟨mr,hq,hg⟩:=hv
  exact quiet mr hq hg
end
end Go.Proofs.YtphenfakmdknlaaGreat.V

namespace Go.Proofs.YtphenfakmdknlaaGreat.V
open Go.RowKit
variable {P:Program} {w w':World} {D D' D2:Nat->Prop} {ι ι' ι2:Names}
section
variable {g:Rows} {hs:Nat} {env:Env} {a:Act} {o:Oper} {id:Id} {v:AV}
theorem np {ops:Array Oper} {nt site0 j:Nat} {draw mk:Bool} {bs:Array Nat} {hidden:List (Nat×Bool)} {vo:bw} (h:kX P ops nt site0 draw mk bs hidden j o=some vo):
  oS P o.op=some vo.op/\vo.dst=o.dst/\vo.site=site0+j/\(∀d,o.dst=some d->d<nt)/\(match o.guard with
   |none=>vo.guard=none
   |some (i,b)=>∃t,(ops[i]?).bind (·.dst)=some t/\vo.guard=some (t,b)):=by
 unfold kX at h
 simp only[Option.bind_eq_bind,Option.bind_eq_some_iff]at h
 obtain⟨v,hv,gd,hg,h⟩:=h
 split at h
 ·rename_i hd
  simp only[Option.pure_def,Option.some.injEq]at h
  subst h
  refine⟨hv,rfl,rfl,fun d Qh=>?_,?_⟩
  ·rw[Qh]at hd;simpa using hd
  ·unfold Am at hg
   cases Cy:o.guard with
   |none=>rw[Cy]at hg;simp at hg;exact hg.symm
   |some p=>
    obtain⟨i,b⟩:=p
    rw[Cy]at hg
    dsimp only at hg ⊢
    split at hg
    ·rename_i t ht
     simp at hg;exact⟨t,ht,hg.symm⟩
    ·simp at hg
 ·simp at h
theorem qJ {ops:Array Oper} {vo:bw} (E:cF P w D ι env a) (hg:match o.guard with
   |none=>vo.guard=none
   |some (i,b)=>∃t,(ops[i]?).bind (·.dst)=some t/\vo.guard=some (t,b)):ax vo.guard env=Region.wanted o (yielded ops a.tmps):=by
 unfold Region.wanted
 cases Cy:o.guard with
 |none=>rw[Cy]at hg;simp only at hg;rw[hg];rfl
 |some p=>
  obtain⟨i,b⟩:=p
  rw[Cy]at hg
  obtain⟨t,ht,hv⟩:=hg
  rw[hv]
  simp only[ax,yielded,ht,Option.bind_some]
  have hr:=E t
  by_cases ea:t<a.tmps.size
  ·have ev:a.tmps[t]? =some a.tmps[t]:=Array.getElem?_eq_getElem ea
   have hd:a.tmps.getD t undef=a.tmps[t]:=by simp[ea]
   rw[hd]at hr
   rw[ev]
   generalize a.tmps[t]=u at hr
   cases he:env t with
   |bool c=>rw[he]at hr;rw[eG hr];simp
   |_=>
    rw[he]at hr
    have:∀c,u≠.bool c:=by
     intro c hu
     subst hu
     cases hr with
     |ez _ _ h=>cases h
    cases u<;>simp_all
  ·have ev:a.tmps[t]? =none:=Array.getElem?_eq_none (Nat.le_of_not_lt ea)
   have hd:a.tmps.getD t undef=undef:=by simp[ev]
   rw[hd]at hr
   rw[ev]
   cases he:env t with
   |bool c=>rw[he]at hr;have:=eG hr;simp[undef]at this
   |_=>simp
theorem lp {dst:Option Nat} {nt:Nat} {u:Value} (E:cF P w D ι env a) (hr:cQ P w D ι v u) (hd:∀d,dst=some d->d<nt) (hs:a.tmps.size=nt):cF P w D ι (upd env dst v) (a.put dst u):=by
 intro t
 cases dst with
 |none=>exact E t
 |some d=>
  have ea:d<a.tmps.size:=by rw[hs];exact hd d rfl
  simp only[upd,Act.put]
  by_cases ht:t=d
  ·subst ht
   simp[ea];exact hr
  ·rw[if_neg ht]
   have:(a.tmps.setIfInBounds d u).getD t undef=a.tmps.getD t undef:=by
    simp only[Array.getD_eq_getD_getElem?]
    rw[Array.getElem?_setIfInBounds_ne (fun e=>ht e.symm)]
   rw[this];exact E t
theorem mB {hs:Nat} (E:cF P w D ι env a) (T:Step hs D ι w D' ι' w'):cF P w' D' ι' env a:=fun t=>T.rep (E t)
theorem j4 (a:Act) (dst:Option Tmp) (u:Value):(a.put dst u).tmps.size=a.tmps.size:=by cases dst<;>simp[Act.put]
theorem put_defers (a:Act) (dst:Option Tmp) (u:Value):(a.put dst u).defers=a.defers:=by cases dst<;>rfl
theorem vh {draw:Bool} {vo:bw} {σ:ar} {next:AV->ar->Prop} {U:Nat->Prop} {Q:Exit->Act->World->Prop} {K:Act->World->Prop} (hc:oS P o.op=some vo.op) (hv:eB (Sound P) draw vo env σ next) (S:fN P hs D ι σ.get w) (Us:Used ι σ.next U) (hU:¬U vo.site) (E:cF P w D ι env a)
  (hK:∀v σ' u D' ι' w',next v σ'->Step hs D ι w D' ι' w'->fN P hs D' ι' σ'.get w'->cQ P w' D' ι' v u->Used ι' σ'.next (fun s=>U s∨s=vo.site)->σ.next<=σ'.next->K (a.put o.dst u) w'):o.wp P a w K Q:=by
 have close:∀v g',VS (Sound P) σ.next vo env σ.get v g'->next v ⟨g',σ.next⟩->o.wp P a w K Q:=fun v g' h1 h2=>
  xz hc h1 S Us hU E fun a' w' ⟨u,D',ι',ha,T,S',hR,U'⟩=>by subst ha;exact hK v ⟨g',σ.next⟩ u D' ι' w' h2 T S' hR U' (Nat.le_refl _)
 have Hb:∀(f:Nat) (args:List AV) (vs:Array Value),Sound P f args ⟨σ.get,σ.next+1⟩ next->eP P w D ι args vs->(execOp a.eval o).run P w=.ok (.enter f vs) w->o.wp P a w K Q:=by
  intro f args vs h hA gC
  unfold Oper.wp
  rw[gC]
  refine(h hs D ι w vs S Us.next hA).mono ?_
  rintro e w' ⟨r,g',n',D',ι',u,rfl,hn,T,S',U',hle,hR⟩
  exact hK r ⟨g',n'⟩ u D' ι' w' hn T S' hR (U'.more fun _ h=>h.elim) (Nat.le_trans (Nat.le_succ _) hle)
 unfold eB at hv
 split at hv
 ·rename_i f args dX
  rcases hv with⟨r,hP,hn⟩|⟨_,hX⟩|⟨DS,sz,rows,hM,hn⟩
  ·exact close r σ.get (by unfold VS;rw[dX];exact .inl ⟨hP,rfl⟩) hn
  rotate_left
  ·exact close _ _ (by unfold VS;rw[dX];exact .inr ⟨DS,sz,rows,hM,rfl,rfl⟩) hn
  ·have jT:=hc
   rw[dX]at jT
   obtain⟨c,ho,jG,Cv,lP⟩:=yT jT
   refine Hb f _ (c.args.map a.eval) hX (mm E lP) ?_
   simp only[execOp,ho,resolve,jG,Deferred.ofValue,Act.eval,Sem.run_bind,Sem.run_pure,Result.andThen_ok,invoke,Array.empty_append,Array.append_empty]
   exact iK Cv
 ·rename_i x args dX
  split at hv
  ·rename_i f cP hx
   have tM:sg (cJ env x) (args.map (cJ env))=some (f,args.map (cJ env)++cP):=by rw[hx];rfl
   rcases hv with⟨r,hP,hn⟩|⟨_,hX⟩|⟨DS,sz,rows,hM,hn⟩
   ·exact close r σ.get (by unfold VS;rw[dX];exact⟨f,_,tM,.inl ⟨hP,rfl⟩⟩) hn
   rotate_left
   ·exact close _ _ (by unfold VS;rw[dX];exact⟨f,_,tM,.inr ⟨DS,sz,rows,hM,rfl,rfl⟩⟩) hn
   ·have jT:=hc
    rw[dX]at jT
    obtain⟨c,t,ho,jG,rfl,lP⟩:=qu jT
    obtain⟨first,us,he,Cv,hL⟩:=sj (v:=a.eval (.tmp t)) tM (E t) (mm E lP)
    refine Hb f _ (first++c.args.map a.eval++us) hX hL ?_
    simp only[execOp,ho,resolve,jG,he,Deferred.ofValue,Sem.run_bind,Sem.run_pure,Result.andThen_ok,invoke]
    exact iK Cv
  ·rename_i f cP hx
   have tM:sg (cJ env x) (args.map (cJ env))=some (f,cP++args.map (cJ env)):=by rw[hx];rfl
   rcases hv with⟨r,hP,hn⟩|⟨_,hX⟩|⟨DS,sz,rows,hM,hn⟩
   ·exact close r σ.get (by unfold VS;rw[dX];exact⟨f,_,tM,.inl ⟨hP,rfl⟩⟩) hn
   rotate_left
   ·exact close _ _ (by unfold VS;rw[dX];exact⟨f,_,tM,.inr ⟨DS,sz,rows,hM,rfl,rfl⟩⟩) hn
   ·have jT:=hc
    rw[dX]at jT
    obtain⟨c,t,ho,jG,rfl,lP⟩:=qu jT
    obtain⟨first,us,he,Cv,hL⟩:=sj (v:=a.eval (.tmp t)) tM (E t) (mm E lP)
    refine Hb f _ (first++c.args.map a.eval++us) hX hL ?_
    simp only[execOp,ho,resolve,jG,he,Deferred.ofValue,Sem.run_bind,Sem.run_pure,Result.andThen_ok,invoke]
    exact iK Cv
  ·exact hv.elim
 ·rename_i m x y dX
  split at hv
  ·rename_i v' g' he
   exact close v' g' (by unfold VS;rw[dX];rw[dX]at he;exact he) hv
  ·exact hv.elim
 ·rename_i m x y dX
  split at hv
  ·rename_i v' g' he
   exact close v' g' (by unfold VS;rw[dX];rw[dX]at he;exact he) hv
  ·exact hv.elim
 ·rename_i m x y dX
  split at hv
  ·rename_i v' g' he
   exact close v' g' (by unfold VS;rw[dX];rw[dX]at he;exact he) hv
  ·exact hv.elim
 ·rename_i m x dX
  split at hv
  ·rename_i v' g' he
   exact close v' g' (by unfold VS;rw[dX];rw[dX]at he;exact he) hv
  ·exact hv.elim
 ·rename_i m x dX
  split at hv
  ·rename_i v' g' he
   exact close v' g' (by unfold VS;rw[dX];rw[dX]at he;exact he) hv
  ·exact hv.elim
 ·rename_i n1 n2 n3 n4 n5 n6 n7
  split at hv
  ·rename_i v' r hq
   refine close v' (bC σ.get ⟨vo.site,σ.next⟩ r) ?_ hv
   unfold VS
   split
   ·rename_i h;exact(n1 _ _ h).elim
   ·rename_i h;exact(n2 _ _ h).elim
   ·rename_i h;exact(n3 _ _ _ h).elim
   ·rename_i h;exact(n4 _ _ _ h).elim
   ·rename_i h;exact(n5 _ _ _ h).elim
   ·rename_i h;exact(n6 _ _ h).elim
   ·rename_i h;exact(n7 _ _ h).elim
   ·exact⟨some r,hq,rfl⟩
  ·rename_i v' hq
   refine close v' σ.get ?_ hv
   unfold VS
   split
   ·rename_i h;exact(n1 _ _ h).elim
   ·rename_i h;exact(n2 _ _ h).elim
   ·rename_i h;exact(n3 _ _ _ h).elim
   ·rename_i h;exact(n4 _ _ _ h).elim
   ·rename_i h;exact(n5 _ _ _ h).elim
   ·rename_i h;exact(n6 _ _ h).elim
   ·rename_i h;exact(n7 _ _ h).elim
   ·exact⟨none,hq,rfl⟩
  ·exact hv.elim
structure St (P:Program) (hs nt:Nat) (D:Nat->Prop) (ι:Names) (env:Env) (σ:ar) (a:Act) (w:World):Prop where
 Ia:fN P hs D ι σ.get w
 used:Used ι σ.next (fun _=>False)
 env:cF P w D ι env a
 size:a.tmps.size=nt
theorem Bw (rest:List Oper) {ops:Array Oper} {nt site0:Nat} {draw mk:Bool} {bs:Array Nat} {hidden:List (Nat×Bool)} {K:Env->ar->Prop} {Q:Exit->Act->World->Prop}:∀(l:List Oper) (vl:List bw) (j:Nat) (env:Env) (σ:ar) (a:Act) (w:World) (D:Nat->Prop) (ι:Names) (U:Nat->Prop),
  allM (kX P ops nt site0 draw mk bs hidden) l j=some vl->wpOps (Sound P) draw vl K env σ->fN P hs D ι σ.get w->Used ι σ.next U->(∀s,U s->s<site0+j)->cF P w D ι env a->a.tmps.size=nt->
  (∀gG σ' a' w' D' ι',K gG σ'->Step hs D ι w D' ι' w'->St P hs nt D' ι' gG σ' a' w'->a'.defers=a.defers->σ.next<=σ'.next->wpList P ops Q rest a' w')->wpList P ops Q (l++rest) a w:=by
 intro l
 induction l with
 |nil=>
  intro vl j env σ a w D ι U h hv S Us _ E eU hQ
  simp[allM]at h;subst h
  exact hQ env ⟨σ.get,σ.next+1⟩ a w D ι hv (Step.refl _ _ _ _) ⟨S,Us.next,E,eU⟩ rfl (Nat.le_succ _)
 |cons o l ih=>
  intro vl j env σ a w D ι U h hv S Us hU E eU hQ
  simp only[allM,Option.bind_eq_bind,Option.bind_eq_some_iff,Option.pure_def,Option.some.injEq]at h
  obtain⟨vo,qb,qI,qa,rfl⟩:=h
  obtain⟨hc,hd,yI,tW,hg⟩:=np qb
  have hw:=qJ (ops:=ops) (vo:=vo) E hg
  unfold wpOps at hv
  show wpList P ops Q (o::(l++rest)) a w
  unfold wpList
  rw[<-hw]
  split at hv
  ·rename_i DX
   rw[if_pos DX]
   refine .inl (vh hc hv S Us (fun h=>by have:=hU _ h;omega) E fun v σ' u D' ι' w' hn T S' hR U' hle=>?_)
   refine ih qI (j+1) (upd env vo.dst v) σ' (a.put o.dst u) w' D' ι' _ qa hn S' U' (fun s tL=>by
    rcases tL with h|h
    ·have:=hU _ h;omega
    ·omega) (by rw[hd];exact lp (mB E T) hR tW eU) (by rw[j4];exact eU) fun gG σ2 a' w2 D2 ι2 hk T2 K5 AO oJ=>hQ gG σ2 a' w2 D2 ι2 hk (T.trans T2) K5 (AO.trans (put_defers _ _ _)) (Nat.le_trans hle oJ)
  ·rename_i DX
   rw[if_neg DX]
   refine ih qI (j+1) (upd env vo.dst .undef) σ (a.put o.dst undef) w D ι U qa hv S Us (fun s tL=>by have:=hU _ tL;omega) (by rw[hd];exact lp E cQ.undef tW eU) (by rw[j4];exact eU) fun gG σ2 a' w2 D2 ι2 hk T2 K5 AO oJ=>hQ gG σ2 a' w2 D2 ι2 hk T2 K5 (AO.trans (put_defers _ _ _)) oJ
theorem EC {ops:Array Oper} {nt site0:Nat} {draw mk:Bool} {bs:Array Nat} {hidden:List (Nat×Bool)} {K:Env->ar->Prop} {Q:Exit->Act->World->Prop}:∀(l:List Oper) (vl:List bw) (j:Nat) (env:Env) (σ:ar) (a:Act) (w:World) (D:Nat->Prop) (ι:Names) (U:Nat->Prop),
  allM (kX P ops nt site0 draw mk bs hidden) l j=some vl->wpOps (Sound P) draw vl K env σ->fN P hs D ι σ.get w->Used ι σ.next U->(∀s,U s->s<site0+j)->cF P w D ι env a->a.tmps.size=nt->
  (∀gG σ' a' w' D' ι',K gG σ'->Step hs D ι w D' ι' w'->St P hs nt D' ι' gG σ' a' w'->a'.defers=a.defers->σ.next<=σ'.next->Q .normal a' w')->wpList P ops Q l a w:=fun l vl j env σ a w D ι U h hv S Us hU E eU hQ=>by
 have:=Bw [] l vl j env σ a w D ι U h hv S Us hU E eU hQ
 rwa [List.append_nil]at this
end
end Go.Proofs.YtphenfakmdknlaaGreat.V

namespace Go.Proofs.YtphenfakmdknlaaGreat.V
open Go.RowKit
variable {P:Program} {w w':World} {D D' D2:Nat->Prop} {ι ι' ι2:Names}
section
variable {hs:Nat} {X:fb}
theorem bq {env gZ:Env} {x:O} (h:∀t∈fX x,env t=gZ t):cJ env x=cJ gZ x:=by
 cases x with
 |t n=>exact h n (by simp[fX])
 |_=>rfl
theorem map_congr {env gZ:Env} {l:List O} (h:∀t∈l.flatMap fX,env t=gZ t):l.map (cJ env)=l.map (cJ gZ):=
 List.map_congr_left fun x hx=>bq fun t ht=>h t (List.mem_flatMap.2 ⟨x,hx,ht⟩)
theorem nz {env gZ:Env} {x:Option O} (h:∀t∈s4 x,env t=gZ t):x.map (cJ env)=x.map (cJ gZ):=by
 cases x with
 |none=>rfl
 |some y=>simp only[Option.map_some];rw[bq h]
theorem qz {env gZ:Env} {o:fH} {g:Rows} {id:Id} (h:∀t∈o.fM,env t=gZ t):dY o (cJ env) g id=dY o (cJ gZ) g id:=by
 cases o<;>simp only[fH.fM,List.mem_append]at h<;>simp only[dY]
 case dD x=>rw[bq h]
 case pick c a b=>rw[bq (x:=c) fun t ht=>h t (.inl (.inl ht)),bq (x:=a) fun t ht=>h t (.inl (.inr ht)),bq (x:=b) fun t ht=>h t (.inr ht)]
 case box x=>rw[bq h]
 case build z ps=>
  have:(ps.map fun(x:Nat×Nat×O)=>(x.1,x.2.1,cJ env x.2.2))=ps.map fun(x:Nat×Nat×O)=>(x.1,x.2.1,cJ gZ x.2.2):=List.map_congr_left fun x hx=>by
   rw[bq (x:=x.2.2) fun t ht=>h t (List.mem_flatMap.2 ⟨x,hx,ht⟩)]
  rw[this]
 case jQ a b l=>rw[map_congr h]
 case load a n x=>rw[bq h]
 case HW x=>rw[bq h]
 case bin a b x y=>rw[bq (x:=x) fun t ht=>h t (.inl ht),bq (x:=y) fun t ht=>h t (.inr ht)]
 case sh a x y=>rw[bq (x:=x) fun t ht=>h t (.inl ht),bq (x:=y) fun t ht=>h t (.inr ht)]
 case Iu a x y=>rw[bq (x:=x) fun t ht=>h t (.inl ht),bq (x:=y) fun t ht=>h t (.inr ht)]
 case Lp a b x y=>rw[bq (x:=x) fun t ht=>h t (.inl ht),bq (x:=y) fun t ht=>h t (.inr ht)]
 case P6 a b x y=>rw[bq (x:=x) fun t ht=>h t (.inl ht),bq (x:=y) fun t ht=>h t (.inr ht)]
 case N3 a b x=>rw[bq h]
 case P7 a x=>rw[bq h]
 case not x=>rw[bq h]
 case neg x=>rw[bq h]
 case conv k x=>rw[bq h]
 case Ce x=>rw[bq h]
 case slice s x lo hi=>rw[bq (x:=x) fun t ht=>h t (.inl (.inl ht)),nz (x:=lo) fun t ht=>h t (.inl (.inr ht)),nz (x:=hi) fun t ht=>h t (.inr ht)]
 case wU x lo hi=>rw[bq (x:=x) fun t ht=>h t (.inl (.inl ht)),nz (x:=lo) fun t ht=>h t (.inl (.inr ht)),nz (x:=hi) fun t ht=>h t (.inr ht)]
 case ik k x=>rw[bq h]
 case field a b c x=>rw[bq h]
 case ef s x y=>rw[bq (x:=x) fun t ht=>h t (.inl ht),bq (x:=y) fun t ht=>h t (.inr ht)]
 case I7 n s x y=>rw[bq (x:=x) fun t ht=>h t (.inl ht),bq (x:=y) fun t ht=>h t (.inr ht)]
 case I9 x y=>rw[bq (x:=x) fun t ht=>h t (.inl ht),bq (x:=y) fun t ht=>h t (.inr ht)]
 case ew a b c x y=>rw[bq (x:=x) fun t ht=>h t (.inl ht),bq (x:=y) fun t ht=>h t (.inr ht)]
 case extract i x=>rw[bq h]
 case len x=>rw[bq h]
 case Ji x=>rw[bq h]
 case G2 x=>rw[bq h]
 case GR x=>rw[bq h]
 case Jr f l=>rw[map_congr h]
 case Js f l=>rw[map_congr h]
 case mq f l=>rw[map_congr h]
 case jJ z x y=>rw[bq (x:=x) fun t ht=>h t (.inl ht),bq (x:=y) fun t ht=>h t (.inr ht)]
theorem gi {env gZ:Env} {o:fH} {g:Rows} {id:Id} (h:∀t∈o.fM,env t=gZ t):eJ o (cJ env) g id=eJ o (cJ gZ) g id:=by
 cases o<;>simp only[fH.fM,List.mem_append]at h<;>simp only[eJ]
 case clear z x=>rw[bq h]
 case mw f l=>rw[map_congr h]
 all_goals rename_i a x y
 all_goals rw[bq (x:=x) fun t ht=>h t (.inl ht),bq (x:=y) fun t ht=>h t (.inr ht)]
theorem Fz {n:Nat} {vo:bw} {env gZ:Env} {g g':Rows} {v:AV} (h:∀t∈vo.op.fM,env t=gZ t) (hv:VS X n vo env g v g'):VS X n vo gZ g v g':=by
 unfold VS at hv ⊢
 split at hv
 ·rename_i f args dX
  rw[dX]at h
  simp only[fH.fM]at h
  rw[<-map_congr h];exact hv
 ·rename_i x args dX
  rw[dX]at h
  simp only[fH.fM,List.mem_append]at h
  rw[<-map_congr (l:=args) fun t ht=>h t (.inr ht),<-bq (x:=x) fun t ht=>h t (.inl ht)];exact hv
 ·rw[<-gi h];exact hv
 ·rw[<-gi h];exact hv
 ·rw[<-gi h];exact hv
 ·rw[<-gi h];exact hv
 ·rw[<-gi h];exact hv
 ·rw[<-qz h];exact hv
theorem Bn {q:MQ} {vs:List AV} {g:Rows} {id:Id} {v:AV} {r:Row} (h:aV q vs g id=some (v,some r)):∃m,q=.new m:=by
 unfold aV at h
 split at h
 ·exact⟨_,rfl⟩
 ·simp[Option.bind_eq_some_iff]at h
 ·simp at h
 ·cases h
theorem s7 {o:fH} {ρ:O->AV} {g:Rows} {id:Id} {v:AV} {r:Row} (h:dY o ρ g id=some (v,some r)):oN o=true:=by
 cases o<;>simp only[dY]at h<;>(try rfl)<;>(try simp at h)
 case mq q xs=>obtain⟨m,rfl⟩:=Bn h;rfl
 all_goals (try(split at h<;>simp at h))
theorem s8 {o:fH} {ρ:O->AV} {g g2:Rows} {id id2:Id} (h:o.cls=.pure):dY o ρ g id=dY o ρ g2 id2:=by
 cases o<;>(try simp[fH.cls]at h)<;>(try simp only[dY])
 case mq q xs=>cases q<;>simp[fH.cls]at h
theorem sa {n:Nat} {vo:bw} {env:Env} {g g':Rows} {v:AV} (hw:vo.op.cls≠.write) (hv:VS X n vo env g v g'):∃mr,g'=iy g ⟨vo.site,n⟩ mr/\(mr≠none->vo.makes=true)/\∀g0,eI vo.hid n g0=eI vo.hid n g->VS X n vo env g0 v (iy g0 ⟨vo.site,n⟩ mr):=by
 unfold VS at hv
 split at hv
 ·rename_i f args dX
  rcases hv with⟨h1,rfl⟩|⟨hs,sz,rows,hM,rfl,rfl⟩
  ·refine⟨none,rfl,fun h=>(h rfl).elim,fun g0 h0=>?_⟩
   unfold VS;rw[dX];simp only;unfold si;rw[h0];exact .inl ⟨h1,rfl⟩
  ·refine⟨some _,rfl,fun _=>by unfold bw.makes;rw[dX,hs];simp[fH.kN],fun g0 h0=>?_⟩
   unfold VS;rw[dX];simp only;unfold si;rw[h0];exact .inr ⟨hs,sz,rows,hM,rfl,rfl⟩
 ·rename_i x args dX
  obtain⟨f,cP,hx,hv⟩:=hv
  rcases hv with⟨h1,rfl⟩|⟨hs,sz,rows,hM,rfl,rfl⟩
  ·refine⟨none,rfl,fun h=>(h rfl).elim,fun g0 h0=>?_⟩
   unfold VS;rw[dX];simp only;unfold si;rw[h0];exact⟨f,cP,hx,.inl ⟨h1,rfl⟩⟩
  ·refine⟨some _,rfl,fun _=>by unfold bw.makes;rw[dX,hs];simp[fH.kN],fun g0 h0=>?_⟩
   unfold VS;rw[dX];simp only;unfold si;rw[h0];exact⟨f,cP,hx,.inr ⟨hs,sz,rows,hM,rfl,rfl⟩⟩
 ·rename_i dX;rw[dX]at hw;exact(hw rfl).elim
 ·rename_i dX;rw[dX]at hw;exact(hw rfl).elim
 ·rename_i dX;rw[dX]at hw;exact(hw rfl).elim
 ·rename_i dX;rw[dX]at hw;exact(hw rfl).elim
 ·rename_i dX;rw[dX]at hw;exact(hw rfl).elim
 ·rename_i n1 n2 n3 n4 n5 n6 n7
  obtain⟨mr,hq,rfl⟩:=hv
  refine⟨mr,rfl,fun h=>?_,fun g0 h0=>?_⟩
  ·cases mr with
   |none=>exact(h rfl).elim
   |some r=>unfold bw.makes;rw[s7 hq];rfl
  ·unfold VS
   split
   ·rename_i hh;exact(n1 _ _ hh).elim
   ·rename_i hh;exact(n2 _ _ hh).elim
   ·rename_i hh;exact(n3 _ _ _ hh).elim
   ·rename_i hh;exact(n4 _ _ _ hh).elim
   ·rename_i hh;exact(n5 _ _ _ hh).elim
   ·rename_i hh;exact(n6 _ _ hh).elim
   ·rename_i hh;exact(n7 _ _ hh).elim
   ·rw[h0];exact⟨mr,hq,rfl⟩
theorem vB {n:Nat} {vo:bw} {env:Env} {g g':Rows} {v:AV} (hp:vo.op.cls=.pure) (hv:VS X n vo env g v g'):g'=g/\∀g0,VS X n vo env g0 v g0:=by
 unfold VS at hv
 split at hv
 ·rename_i dX;rw[dX]at hp;simp[fH.cls]at hp
 ·rename_i dX;rw[dX]at hp;simp[fH.cls]at hp
 ·rename_i dX;rw[dX]at hp;simp[fH.cls]at hp
 ·rename_i dX;rw[dX]at hp;simp[fH.cls]at hp
 ·rename_i dX;rw[dX]at hp;simp[fH.cls]at hp
 ·rename_i dX;rw[dX]at hp;simp[fH.cls]at hp
 ·rename_i dX;rw[dX]at hp;simp[fH.cls]at hp
 ·rename_i n1 n2 n3 n4 n5 n6 n7
  obtain⟨mr,hq,rfl⟩:=hv
  have RK:mr=none:=by
   cases mr with
   |none=>rfl
   |some r=>have:=s7 hq;simp[oN,hp]at this
  subst RK
  refine⟨rfl,fun g0=>?_⟩
  unfold VS
  split
  ·rename_i hh;exact(n1 _ _ hh).elim
  ·rename_i hh;exact(n2 _ _ hh).elim
  ·rename_i hh;exact(n3 _ _ _ hh).elim
  ·rename_i hh;exact(n4 _ _ _ hh).elim
  ·rename_i hh;exact(n5 _ _ _ hh).elim
  ·rename_i hh;exact(n6 _ _ hh).elim
  ·rename_i hh;exact(n7 _ _ hh).elim
  ·exact⟨none,by rw[s8 hp];exact hq,rfl⟩
def GS (X:fb) (n:Nat) (vo:bw) (env:Env) (g:Rows) (v:AV) (g':Rows):Prop:=
 if ax vo.guard env then VS X n vo env g v g' else v=.undef/\g'=g
theorem zF {hid:List Nat} {g:Rows} {s n:Nat} {mr:Option Row} (h:mr≠none->hid.contains s=true):eI hid n (iy g ⟨s,n⟩ mr)=eI hid n g:=by
 cases mr with
 |none=>rfl
 |some r=>
  have hc:=h (by simp)
  cases hid with
  |nil=>simp at hc
  |cons a l=>
   funext i
   show(if (a::l).contains i.site=true/\i.bR=n then none else iy g ⟨s,n⟩ (some r) i)=if (a::l).contains i.site=true/\i.bR=n then none else g i
   by_cases hi:i=⟨s,n⟩
   ·subst hi;rw[if_pos ⟨hc,rfl⟩,if_pos ⟨hc,rfl⟩]
   ·simp only[iy,bC,if_neg hi]
theorem Df {g:Rows} {i j:Id} (h:i≠j) (m1 m2:Option Row):iy (iy g i m1) j m2=iy (iy g j m2) i m1:=by
 cases m1<;>cases m2<;>simp only[iy]
 funext k
 simp only[bC]
 by_cases h1:k=i
 ·subst h1;rw[if_neg h,if_pos rfl];simp
 ·by_cases h2:k=j
  ·subst h2;simp[h1]
  ·simp[h1,h2]
theorem tA {env:Env} {d e:Option Nat} {v u:AV} (h:∀k,d=some k->e≠some k):upd (upd env d v) e u=upd (upd env e u) d v:=by
 cases d with
 |none=>rfl
 |some d=>
  cases e with
  |none=>rfl
  |some e=>
   have gQ:d≠e:=fun he=>h d rfl (by rw[he])
   funext t
   simp only[upd]
   by_cases h1:t=d
   ·subst h1;rw[if_neg gQ,if_pos rfl,if_pos rfl]
   ·by_cases h2:t=e
    ·subst h2;rw[if_pos rfl,if_neg h1,if_pos rfl]
    ·simp[h1,h2]
theorem lf {env:Env} {d:Option Nat} {v:AV} {l:List Nat} (h:∀k,d=some k->k∉l):∀t∈l,upd env d v t=env t:=by
 intro t ht
 cases d with
 |none=>rfl
 |some d=>
  have:t≠d:=fun he=>h d rfl (he▸ht)
  simp[upd,this]
structure zT (x y:bw):Prop where
 xy:∀k,x.dst=some k->k∉y.fM
 yx:∀k,y.dst=some k->k∉x.fM
 dst:∀k,x.dst=some k->y.dst≠some k
 cls:clash x.op.cls y.op.cls=false
 hx:x.makes=true->y.hid.contains x.site=true
 hy:y.makes=true->x.hid.contains y.site=true
 site:x.site≠y.site
theorem zT.symm {x y:bw} (h:zT x y):zT y x:=
 ⟨h.yx,h.xy,fun k hk he=>h.dst k he hk,by have:=h.cls;revert this;cases x.op.cls<;>cases y.op.cls<;>simp[clash],h.hy,h.hx,fun e=>h.site e.symm⟩
theorem oG {x y:bw} (h:Co x y=true):zT x y:=by
 unfold Co at h
 simp only[Bool.and_eq_true,Bool.not_eq_true',Bool.or_eq_true,bne_iff_ne]at h
 obtain⟨⟨⟨⟨h1,h2⟩,h3⟩,h4⟩,h5⟩:=h
 unfold qH at h1
 simp only[Bool.and_eq_true]at h1
 obtain⟨a1,a2⟩:=h1
 refine⟨fun k hk=>?_,fun k hk=>?_,fun k hk=>?_,h2,fun hm=>?_,fun hm=>?_,h5⟩
 ·rw[hk]at a1;simp at a1;exact a1.1
 ·rw[hk]at a2;simpa using a2
 ·rw[hk]at a1;simp at a1;exact a1.2
 ·rcases h3 with h3|h3
  ·rw[hm]at h3;cases h3
  ·exact h3
 ·rcases h4 with h4|h4
  ·rw[hm]at h4;cases h4
  ·exact h4
theorem pR {vo:bw} {t:Nat} (h:t∈vo.op.fM):t∈vo.fM:=List.mem_append_left _ h
theorem lG {vo:bw} {env gZ:Env} (h:∀t∈vo.fM,env t=gZ t):ax vo.guard env=ax vo.guard gZ:=by
 unfold ax
 cases hg:vo.guard with
 |none=>rfl
 |some p=>
  obtain⟨t,b⟩:=p
  have:env t=gZ t:=h t (List.mem_append_right _ (by rw[hg];simp))
  simp only[this]
theorem r4 {n:Nat} {vo:bw} {env gZ:Env} {g g':Rows} {v:AV} (h:∀t∈vo.fM,env t=gZ t) (hv:GS X n vo env g v g'):GS X n vo gZ g v g':=by
 unfold GS at hv ⊢
 rw[<-lG h]
 split at hv
 ·rename_i hw;rw[if_pos hw];exact Fz (fun t ht=>h t (pR ht)) hv
 ·rename_i hw;rw[if_neg hw];exact hv
theorem BZ {n:Nat} {x y:bw} {env:Env} {g g1 g2:Rows} {v v':AV} (F:zT x y) (h1:GS X n x env g v g1) (h2:GS X n y (upd env x.dst v) g1 v' g2):
  ∃IE,GS X n y env g v' IE/\GS X n x (upd env y.dst v') IE v g2/\upd (upd env x.dst v) y.dst v'=upd (upd env y.dst v') x.dst v:=by
 have CG:=tA (env:=env) (v:=v) (u:=v') F.dst
 replace h2:GS X n y env g1 v' g2:=r4 (lf F.xy) h2
 have back:∀{IE},GS X n x env IE v g2->GS X n x (upd env y.dst v') IE v g2:=fun h=>r4 (fun t ht=>(lf F.yx t ht).symm) h
 unfold GS at h1 h2
 by_cases wx:ax x.guard env=true
 ·rw[if_pos wx]at h1
  by_cases wy:ax y.guard env=true
  ·rw[if_pos wy]at h2
   by_cases cx:x.op.cls=.write
   ·have cy:y.op.cls=.pure:=by
     have:=F.cls;rw[cx]at this
     cases hc:y.op.cls<;>simp[clash,hc]at this ⊢
    obtain⟨rfl,dy⟩:=vB cy h2
    exact⟨g,by unfold GS;rw[if_pos wy];exact dy g,back (by unfold GS;rw[if_pos wx];exact h1),CG⟩
   ·by_cases cy:y.op.cls=.write
    ·have cx':x.op.cls=.pure:=by
      have:=F.cls;rw[cy]at this
      cases hc:x.op.cls<;>simp[clash,hc]at this ⊢
     obtain⟨rfl,dy⟩:=vB cx' h1
     exact⟨g2,by unfold GS;rw[if_pos wy];exact h2,back (by unfold GS;rw[if_pos wx];exact dy g2),CG⟩
    ·obtain⟨mx,rfl,kx,QM⟩:=sa cx h1
     obtain⟨my,rfl,ky,K9⟩:=sa cy h2
     have gQ:(⟨x.site,n⟩:Id)≠⟨y.site,n⟩:=fun e=>F.site (by injection e)
     refine⟨iy g ⟨y.site,n⟩ my,?_,back ?_,CG⟩
     ·unfold GS;rw[if_pos wy]
      exact K9 g (zF fun h=>F.hx (kx h)).symm
     ·unfold GS;rw[if_pos wx,Df gQ]
      exact QM _ (zF fun h=>F.hy (ky h))
  ·rw[if_neg wy]at h2
   obtain⟨rfl,rfl⟩:=h2
   exact⟨g,by unfold GS;rw[if_neg wy];exact⟨rfl,rfl⟩,back (by unfold GS;rw[if_pos wx];exact h1),CG⟩
 ·rw[if_neg wx]at h1
  obtain⟨rfl,rfl⟩:=h1
  exact⟨g2,h2,back (by unfold GS;rw[if_neg wx];exact⟨rfl,rfl⟩),CG⟩
end
end Go.Proofs.YtphenfakmdknlaaGreat.V

namespace Go.Proofs.YtphenfakmdknlaaGreat.V
open Go.RowKit
variable {P:Program} {w w':World} {D D' D2:Nat->Prop} {ι ι' ι2:Names}
section
variable {hs:Nat} {X:fb}
def iz (acc:Array Nat) (o:Oper):Nat:=o.after.foldl (fun s e=>if Region.binds .any e then s|||2 ^ e.on|||acc.getD e.on 0 else s) 0
theorem Iq (ops:Array Oper):iN ops=ops.foldl (fun acc o=>acc.push (iz acc o)) #[]:=rfl
theorem xG {acc:Array Nat} {o:Oper} {i:Nat} (h:(iz acc o).testBit i=true):∃e∈o.after,Region.binds .any e=true/\(e.on=i∨(acc.getD e.on 0).testBit i=true):=by
 unfold iz at h
 rw[<-Array.foldl_toList]at h
 have gen:∀(l:List Edge) (s:Nat),(l.foldl (fun s e=>if Region.binds .any e then s|||2 ^ e.on|||acc.getD e.on 0 else s) s).testBit i=true->s.testBit i=true∨∃e∈l,Region.binds .any e=true/\(e.on=i∨(acc.getD e.on 0).testBit i=true):=by
  intro l
  induction l with
  |nil=>intro s h;exact .inl h
  |cons e r ih=>
   intro s h
   rw[List.foldl_cons]at h
   rcases ih _ h with h|⟨e',IK,h'⟩
   ·by_cases hb:Region.binds .any e=true
    ·rw[if_pos hb]at h
     simp only[Nat.testBit_or,Bool.or_eq_true]at h
     rcases h with(h|h)|h
     ·exact .inl h
     ·refine .inr ⟨e,by simp,hb,.inl ?_⟩
      rw[Nat.testBit_two_pow]at h
      simpa using h
     ·exact .inr ⟨e,by simp,hb,.inr h⟩
    ·rw[if_neg hb]at h;exact .inl h
   ·exact .inr ⟨e',List.mem_cons_of_mem _ IK,h'⟩
 rcases gen _ _ h with h|⟨e,he,h⟩
 ·simp at h
 ·exact⟨e,Array.mem_toList_iff.1 he,h⟩
theorem FI {ops:Array Oper} {j i:Nat} (h:((iN ops).getD j 0).testBit i=true):∃o,ops[j]? =some o/\∃e∈o.after,Region.binds .any e=true/\(e.on=i∨((iN ops).getD e.on 0).testBit i=true):=by
 have key:∀(l pre:List Oper) (acc:Array Nat),acc.size=pre.length->(∀j i,(acc.getD j 0).testBit i=true->∃o,pre[j]? =some o/\∃e∈o.after,Region.binds .any e=true/\(e.on=i∨(acc.getD e.on 0).testBit i=true))->
   ∀j i,((l.foldl (fun acc o=>acc.push (iz acc o)) acc).getD j 0).testBit i=true->∃o,(pre++l)[j]? =some o/\∃e∈o.after,Region.binds .any e=true/\(e.on=i∨((l.foldl (fun acc o=>acc.push (iz acc o)) acc).getD e.on 0).testBit i=true):=by
  intro l
  induction l with
  |nil=>intro pre acc _ h j i hb;simpa using h j i hb
  |cons o r ih=>
   intro pre acc eU h j i hb
   have zg:∀k,k<acc.size->(acc.push (iz acc o)).getD k 0=acc.getD k 0:=fun k hk=>by
    simp only[Array.getD_eq_getD_getElem?,Array.getElem?_push]
    rw[if_neg ad]
   have big:∀k,acc.size<=k->acc.getD k 0=0:=fun k hk=>by simp[Array.getElem?_eq_none hk]
   have lift:∀k i,(acc.getD k 0).testBit i=true->((acc.push (iz acc o)).getD k 0).testBit i=true:=fun k i hk=>by
    by_cases ea:k<acc.size
    ·rw[zg k ea];exact hk
    ·rw[big k ad]at hk;simp at hk
   have:=ih (pre++[o]) (acc.push (iz acc o)) (by simp[eU]) (fun j i hb=>by
    by_cases ea:j<acc.size
    ·rw[zg j ea]at hb
     obtain⟨o',zK,e,he,fG,h2⟩:=h j i hb
     refine⟨o',by rw[List.getElem?_append_left ad];exact zK,e,he,fG,?_⟩
     rcases h2 with h2|h2
     ·exact .inl h2
     ·exact .inr (lift _ _ h2)
    ·by_cases hj:j=acc.size
     ·subst hj
      have e0:(acc.push (iz acc o)).getD acc.size 0=iz acc o:=by simp
      rw[e0]at hb
      obtain⟨e,he,fG,h2⟩:=xG hb
      refine⟨o,by rw[List.getElem?_append_right ad,eU];simp,e,he,fG,?_⟩
      rcases h2 with h2|h2
      ·exact .inl h2
      ·exact .inr (lift _ _ h2)
     ·have:(acc.push (iz acc o)).getD j 0=0:=by
       simp only[Array.getD_eq_getD_getElem?]
       rw[Array.getElem?_eq_none (by simp;omega)];rfl
      rw[this]at hb;simp at hb) j i (by simpa using hb)
   simpa using this
 rw[Iq,<-Array.foldl_toList]at h ⊢
 have:=key ops.toList [] #[] rfl (fun j i h=>by simp at h) j i h
 simpa using this
def DC (ops:Array Oper) (listed:Array Bool):Prop:=∀k i,listed.getD k false=true->((iN ops).getD k 0).testBit i=true->listed.getD i false=true
theorem j6 {ops:Array Oper} {listed:Array Bool} (h:DC ops listed) {j:Nat} (hj:j∈Region.ready .any ops listed):∀i,((iN ops).getD j 0).testBit i=true->listed.getD i false=true:=by
 intro i hb
 obtain⟨_,o,ho,dy⟩:=mem_ready.1 hj
 obtain⟨o',zK,e,he,fG,h2⟩:=FI hb
 rw[ho]at zK;injection zK with zK;subst zK
 have hl:=dy e he fG
 rcases h2 with h2|h2
 ·rw[<-h2];exact hl
 ·exact h _ _ hl h2
theorem DC.list {ops:Array Oper} {listed:Array Bool} (h:DC ops listed) {j:Nat} (hj:j∈Region.ready .any ops listed):DC ops (listed.setIfInBounds j true):=by
 intro k i hk hb
 by_cases hkj:k=j
 ·subst hkj;exact getD_set_true (j6 h hj i hb)
 ·rw[getD_set_ne false (fun e=>hkj e.symm)]at hk
  exact getD_set_true (h k i hk hb)
theorem il {ops:Array Oper} {listed:Array Bool} {j:Nat} (hj:j∈Region.ready .any ops listed):listed.getD j false=false:=by
 have h0:=(mem_ready.1 hj).1
 rcases Nat.lt_or_ge j listed.size with h|h
 ·simp[h]at h0 ⊢;exact h0
 ·simp[Array.getElem?_eq_none h]at h0
def HN (X:fb) (n:Nat) (ops:Array Oper) (vl:List bw) (K:Env->Rows->Prop):Nat->Array Bool->Env->Rows->Prop
 |0,listed,env,g=>Region.ready .any ops listed=[]/\K env g
 |f+1,listed,env,g=>(Region.ready .any ops listed=[]->K env g)/\∀i∈Region.ready .any ops listed,∃vo,vl[i]? =some vo/\∃v g',GS X n vo env g v g'/\HN X n ops vl K f (listed.setIfInBounds i true) (upd env vo.dst v) g'
theorem xY {ops:Array Oper} {vl:List bw} (h:mA ops vl (iN ops)=true) {i j:Nat} {x y:bw} (hi:vl[i]? =some x) (hj:vl[j]? =some y) (DO:i≠j) (h1:((iN ops).getD j 0).testBit i=false) (h2:((iN ops).getD i 0).testBit j=false):zT x y:=by
 unfold mA at h
 simp only[Bool.and_eq_true,List.all_eq_true]at h
 obtain⟨_,h⟩:=h
 have mem:∀(k:Nat) (z:bw),vl[k]? =some z->(z,k)∈vl.zipIdx:=fun k z hk=>by
  rw[List.mem_iff_getElem?]
  exact⟨k,by simp[List.getElem?_zipIdx,hk]⟩
 rcases Nat.lt_or_gt_of_ne DO with ea|wc
 ·have:=h _ (mem j y hj) _ (mem i x hi)
  simp only[ea,decide_true,Bool.not_true,Bool.false_or,h1]at this
  exact oG this
 ·have:=h _ (mem i x hi) _ (mem j y hj)
  simp only[wc,decide_true,Bool.not_true,Bool.false_or,h2]at this
  exact(oG this).symm
theorem BU {n:Nat} {ops:Array Oper} {vl:List bw} {K:Env->Rows->Prop} (rE:mA ops vl (iN ops)=true) (hlen:vl.length=ops.size) {i:Nat} {vi:bw} (hi:vl[i]? =some vi) {v:AV}:∀(fuel:Nat) (listed:Array Bool) (env:Env) (g g1:Rows),
  DC ops listed->i∈Region.ready .any ops listed->GS X n vi env g v g1->HN X n ops vl K fuel (listed.setIfInBounds i true) (upd env vi.dst v) g1->HN X n ops vl K (fuel+1) listed env g:=by
 intro fuel
 induction fuel with
 |zero=>
  intro listed env g g1 _ hr hG H
  refine⟨fun h=>(by rw[h]at hr;cases hr),fun j hj=>?_⟩
  by_cases lR:j=i
  ·subst lR;exact⟨vi,hi,v,g1,hG,H⟩
  ·have:=ready_mono hj lR
   rw[H.1]at this;cases this
 |succ fuel ih=>
  intro listed env g g1 p4 hr hG H
  refine⟨fun h=>(by rw[h]at hr;cases hr),fun j hj=>?_⟩
  by_cases lR:j=i
  ·subst lR;exact⟨vi,hi,v,g1,hG,H⟩
  ·obtain⟨vj,I1,v',g2,hG2,H2⟩:=H.2 j (ready_mono hj lR)
   have b1:((iN ops).getD j 0).testBit i=false:=by
    cases hb:((iN ops).getD j 0).testBit i with
    |false=>rfl
    |true=>have:=j6 p4 hj i hb;rw[il hr]at this;cases this
   have b2:((iN ops).getD i 0).testBit j=false:=by
    cases hb:((iN ops).getD i 0).testBit j with
    |false=>rfl
    |true=>have:=j6 p4 hr j hb;rw[il hj]at this;cases this
   have F:=xY rE hi I1 (fun e=>lR e.symm) b1 b2
   obtain⟨IE,q1,q2,q3⟩:=BZ F hG hG2
   refine⟨vj,I1,v',IE,q1,ih _ _ _ g2 (p4.list hj) (ready_mono hr (fun e=>lR e.symm)) q2 ?_⟩
   rw[<-q3,Array.setIfInBounds_comm _ _ lR]
   exact H2
theorem K7 {n:Nat} {vo:bw} {env:Env} {g:Rows} {v:AV} {mr:Option Row} (h:dY vo.op (cJ env) (eI vo.hid n g) ⟨vo.site,n⟩=some (v,mr)):VS X n vo env g v (iy g ⟨vo.site,n⟩ mr):=by
 unfold VS
 split
 ·rename_i dX;rw[dX]at h;simp[dY]at h
 ·rename_i dX;rw[dX]at h;simp[dY]at h
 ·rename_i dX;rw[dX]at h;simp[dY]at h
 ·rename_i dX;rw[dX]at h;simp[dY]at h
 ·rename_i dX;rw[dX]at h;simp[dY]at h
 ·rename_i dX;rw[dX]at h;simp[dY]at h
 ·rename_i dX;rw[dX]at h;simp[dY]at h
 ·exact⟨mr,h,rfl⟩
theorem FA {n:Nat} {vo:bw} {env:Env} {g g':Rows} {v:AV} (h:eJ vo.op (cJ env) g ⟨vo.site,n⟩=some (v,g')):VS X n vo env g v g':=by
 unfold VS
 split
 ·rename_i dX;rw[dX]at h;simp[eJ]at h
 ·rename_i dX;rw[dX]at h;simp[eJ]at h
 ·exact h
 ·exact h
 ·exact h
 ·exact h
 ·exact h
 ·rename_i n1 n2 n3 n4 n5 n6 n7
  exfalso
  unfold eJ at h
  split at h
  ·rename_i hh;exact n3 _ _ _ hh
  ·rename_i hh;exact n4 _ _ _ hh
  ·rename_i hh;exact n5 _ _ _ hh
  ·rename_i hh;exact n6 _ _ hh
  ·rename_i hh;exact n7 _ _ hh
  ·simp at h
theorem MR {vo:bw} {env:Env} {σ:ar} {next:AV->ar->Prop} (hv:eB X true vo env σ next):∃v g',VS X σ.next vo env σ.get v g'/\next v ⟨g',σ.next⟩:=by
 unfold eB at hv
 split at hv
 ·rename_i f args dX
  rcases hv with⟨r,hP,hn⟩|⟨h,_⟩|⟨hs,sz,rows,hM,hn⟩
  ·exact⟨r,σ.get,by unfold VS;rw[dX];exact .inl ⟨hP,rfl⟩,hn⟩
  ·cases h
  ·exact⟨_,_,by unfold VS;rw[dX];exact .inr ⟨hs,sz,rows,hM,rfl,rfl⟩,hn⟩
 ·rename_i x args dX
  split at hv
  ·rename_i f cP hx
   have tM:sg (cJ env x) (args.map (cJ env))=some (f,args.map (cJ env)++cP):=by rw[hx];rfl
   rcases hv with⟨r,hP,hn⟩|⟨h,_⟩|⟨hs,sz,rows,hM,hn⟩
   ·exact⟨r,σ.get,by unfold VS;rw[dX];exact⟨f,_,tM,.inl ⟨hP,rfl⟩⟩,hn⟩
   ·cases h
   ·exact⟨_,_,by unfold VS;rw[dX];exact⟨f,_,tM,.inr ⟨hs,sz,rows,hM,rfl,rfl⟩⟩,hn⟩
  ·rename_i f cP hx
   have tM:sg (cJ env x) (args.map (cJ env))=some (f,cP++args.map (cJ env)):=by rw[hx];rfl
   rcases hv with⟨r,hP,hn⟩|⟨h,_⟩|⟨hs,sz,rows,hM,hn⟩
   ·exact⟨r,σ.get,by unfold VS;rw[dX];exact⟨f,_,tM,.inl ⟨hP,rfl⟩⟩,hn⟩
   ·cases h
   ·exact⟨_,_,by unfold VS;rw[dX];exact⟨f,_,tM,.inr ⟨hs,sz,rows,hM,rfl,rfl⟩⟩,hn⟩
  ·exact hv.elim
 ·split at hv
  ·rename_i v g h;exact⟨v,g,FA h,hv⟩
  ·exact hv.elim
 ·split at hv
  ·rename_i v g h;exact⟨v,g,FA h,hv⟩
  ·exact hv.elim
 ·split at hv
  ·rename_i v g h;exact⟨v,g,FA h,hv⟩
  ·exact hv.elim
 ·split at hv
  ·rename_i v g h;exact⟨v,g,FA h,hv⟩
  ·exact hv.elim
 ·split at hv
  ·rename_i v g h;exact⟨v,g,FA h,hv⟩
  ·exact hv.elim
 ·split at hv
  ·rename_i v r h;exact⟨v,_,K7 h,hv⟩
  ·rename_i v h;exact⟨v,_,K7 h,hv⟩
  ·exact hv.elim
theorem tC {ops:Array Oper} {vl:List bw} {K:Env->ar->Prop} {n:Nat} (rE:mA ops vl (iN ops)=true) (hlen:vl.length=ops.size):∀(r:List bw) (k:Nat) (listed:Array Bool) (env:Env) (g:Rows),
  (∀j,r[j]? =vl[k+j]?)->listed.size=ops.size->(∀i,i<ops.size->listed[i]? =some (decide (i<k)))->k+r.length=ops.size->DC ops listed->wpOps X true r K env ⟨g,n⟩->HN X n ops vl (fun env g=>K env ⟨g,n+1⟩) r.length listed env g
 |[],k,listed,env,g,_,eU,hl,hk,_,hv=>by
  refine⟨?_,hv⟩
  rw[List.eq_nil_iff_forall_not_mem]
  intro j hj
  obtain⟨h0,o,ho,_⟩:=mem_ready.1 hj
  have ea:j<ops.size:=(Array.getElem?_eq_some_iff.1 ho).1
  have:=hl j ea
  simp at hk
  simp[this,show j<k by omega]at h0
 |vo::r,k,listed,env,g,hr,eU,hl,hk,p4,hv=>by
  simp only[List.length_cons]at hk
  have qb:vl[k]? =some vo:=by simpa using(hr 0).symm
  have jz:k<ops.size:=ad
  have Gw:k∈Region.ready .any ops listed:=by
   rw[mem_ready]
   refine⟨by simp[hl k jz],ops[k],Array.getElem?_eq_getElem jz,fun e he hb=>?_⟩
   unfold mA Ch at rE
   simp only[Bool.and_eq_true,List.all_eq_true]at rE
   have hm:(ops[k],k)∈ops.toList.zipIdx:=by
    rw[List.mem_iff_getElem?]
    exact⟨k,by simp[List.getElem?_zipIdx,jz]⟩
   have:=rE.1 _ hm
   rw[Array.all_eq_true_iff_forall_mem]at this
   have:=this e he
   simp only[hb,Bool.not_true,Bool.false_or,decide_eq_true_eq]at this
   simp[hl e.on ad,this]
  have hGS:∃v g',GS X n vo env g v g'/\wpOps X true r K (upd env vo.dst v) ⟨g',n⟩:=by
   unfold wpOps at hv
   unfold GS
   split at hv
   ·rename_i hw
    simp only[hw,if_true]
    exact MR hv
   ·rename_i hw
    simp only[hw]
    exact⟨.undef,g,⟨rfl,rfl⟩,hv⟩
  obtain⟨v,g',h1,h2⟩:=hGS
  refine BU rE hlen qb r.length listed env g g' p4 Gw h1 ?_
  refine tC rE hlen r (k+1) _ _ _ (fun j=>by have:=hr (j+1);simpa[Nat.add_assoc,Nat.add_comm 1 j]using this) (by simp[eU]) (fun i hi=>?_) ad (p4.list Gw) h2
  by_cases yy:i=k
  ·subst yy;simp[eU,jz]
  ·rw[Array.getElem?_setIfInBounds_ne (fun e=>yy e.symm),hl i hi]
   congr 1
   have:(i<k)=(i<k+1):=by apply propext;omega
   simp[this]
theorem ml {f:Nat->Oper->Option bw}:∀{l:List Oper} {vl:List bw} {j:Nat},allM f l j=some vl->vl.length=l.length/\∀(i:Nat) (o:Oper),l[i]? =some o->∃vo,vl[i]? =some vo/\f (j+i) o=some vo
 |[],vl,j,h=>by simp[allM]at h;subst h;simp
 |o::l,vl,j,h=>by
  simp only[allM,Option.bind_eq_bind,Option.bind_eq_some_iff,Option.pure_def,Option.some.injEq]at h
  obtain⟨vo,qb,qI,qa,rfl⟩:=h
  obtain⟨h1,h2⟩:=ml qa
  refine⟨by simp[h1],fun i o' hi=>?_⟩
  cases i with
  |zero=>simp at hi;subst hi;exact⟨vo,rfl,qb⟩
  |succ i=>
   simp at hi
   obtain⟨q,hq,hf⟩:=h2 i o' hi
   exact⟨q,by simpa using hq,by rw[<-hf];congr 1;omega⟩
theorem um {ops:Array Oper} {vl:List bw} {nt site0:Nat} {draw mk:Bool} {bs:Array Nat} {hidden:List (Nat×Bool)} {n:Nat} {K:Env->Rows->Prop} {Q:Exit->Act->World->Prop} (dy:allM (kX P ops nt site0 draw mk bs hidden) ops.toList 0=some vl):
  ∀(fuel:Nat) (listed:Array Bool) (env:Env) (g:Rows) (a:Act) (w:World) (D:Nat->Prop) (ι:Names) (U:Nat->Prop),HN (Sound P) n ops vl K fuel listed env g->fN P hs D ι g w->Used ι n U->(∀s,U s->∃i,s=site0+i/\listed.getD i false=true)->cF P w D ι env a->a.tmps.size=nt->
  (∀gG g' a' w' D' ι' U',K gG g'->Step hs D ι w D' ι' w'->fN P hs D' ι' g' w'->Used ι' n U'->cF P w' D' ι' gG a'->a'.tmps.size=nt->a'.defers=a.defers->Q .normal a' w')->wpAny P .any ops Q fuel listed a w:=by
 intro fuel
 induction fuel with
 |zero=>intro listed env g a w D ι U h S Us hU E eU hQ;exact⟨h.1,hQ env g a w D ι U h.2 (Step.refl _ _ _ _) S Us E eU rfl⟩
 |succ fuel ih=>
  intro listed env g a w D ι U h S Us hU E eU hQ
  refine⟨fun hr=>hQ env g a w D ι U (h.1 hr) (Step.refl _ _ _ _) S Us E eU rfl,fun i hi=>?_⟩
  obtain⟨vo,qb,v,g',hG,KC⟩:=h.2 i hi
  obtain⟨_,o,ho,_⟩:=mem_ready.1 hi
  obtain⟨vo',k5,Oy⟩:=(ml dy).2 i o (by simpa using ho)
  rw[qb]at k5;injection k5 with k5;subst k5
  rw[Nat.zero_add]at Oy
  obtain⟨hc,hd,yI,tW,hg⟩:=np Oy
  have hw:=qJ (ops:=ops) (vo:=vo) E hg
  have Re:¬U vo.site:=fun hu=>by
   obtain⟨i',he,hl⟩:=hU _ hu
   have:i'=i:=ad
   subst this
   rw[il hi]at hl;cases hl
  have iO:i<listed.size:=by
   have h0:=(mem_ready.1 hi).1
   rcases Nat.lt_or_ge i listed.size with h|h
   ·exact h
   ·simp[Array.getElem?_eq_none h]at h0
  unfold wpOp
  simp only[ho]
  rw[<-hw]
  unfold GS at hG
  by_cases DX:ax vo.guard env=true
  ·rw[if_pos DX]
   rw[if_pos DX]at hG
   refine .inl (xz hc hG S Us Re E fun a' w' ⟨u,D',ι',ha,T,S',hR,U'⟩=>?_)
   subst ha
   refine ih _ _ _ _ w' D' ι' _ KC S' U' (fun s tL=>?_) (by rw[hd];exact lp (mB E T) hR tW eU) (by rw[j4];exact eU) fun gG g2 a2 w2 D2 ι2 U2 hk T2 S2 QL E2 jw AO=>hQ gG g2 a2 w2 D2 ι2 U2 hk (T.trans T2) S2 QL E2 jw (AO.trans (put_defers _ _ _))
   rcases tL with h|h
   ·obtain⟨i',he,hl⟩:=hU _ h
    exact⟨i',he,getD_set_true hl⟩
   ·exact⟨i,by rw[h,yI],by simp[iO]⟩
  ·rw[if_neg DX]
   rw[if_neg DX]at hG
   obtain⟨rfl,rfl⟩:=hG
   refine ih _ _ _ _ w D ι U KC S Us (fun s tL=>?_) (by rw[hd];exact lp E cQ.undef tW eU) (by rw[j4];exact eU) fun gG g2 a2 w2 D2 ι2 U2 hk T2 S2 QL E2 jw AO=>hQ gG g2 a2 w2 D2 ι2 U2 hk T2 S2 QL E2 jw (AO.trans (put_defers _ _ _))
   obtain⟨i',he,hl⟩:=hU _ tL
   exact⟨i',he,getD_set_true hl⟩
end
end Go.Proofs.YtphenfakmdknlaaGreat.V

namespace Go.Proofs.YtphenfakmdknlaaGreat.V
open Go.RowKit
variable {P:Program} {w w':World} {D D' D2:Nat->Prop} {ι ι' ι2:Names}
section
variable {hs:Nat} {X:fb}
def nX (X:fb):Prop:=∀f args σ K K',(∀r σ',K r σ'->K' r σ')->X f args σ K->X f args σ K'
theorem oj:nX (Sound P):=fun _ _ _ _ _ hK h hs D ι w vs S U A=>
 (h hs D ι w vs S U A).mono fun _ _ ⟨r,g',n',D',ι',u,he,hk,rest⟩=>⟨r,g',n',D',ι',u,he,hK _ _ hk,rest⟩
def step (X:fb) (vo:bw) (N:Env->ar->Prop) (env:Env) (σ:ar):Prop:=
 if ax vo.guard env then eB X false vo env σ fun v σ'=>N (upd env vo.dst v) σ' else N (upd env vo.dst .undef) σ
theorem oz (hK:nX X) {draw:Bool} {hid:List Nat} {site f:Nat} {args:List AV} {σ:ar} {n n':AV->ar->Prop} (hn:∀v σ',n v σ'->n' v σ') (hp:bQ X draw hid site f args σ n):bQ X draw hid site f args σ n':=by
 rcases hp with⟨r,h1,h2⟩|⟨h1,h2⟩|⟨h1,sz,rows,h2,h3⟩
 ·exact .inl ⟨r,h1,hn _ _ h2⟩
 ·exact .inr (.inl ⟨h1,hK _ _ _ _ _ hn h2⟩)
 ·exact .inr (.inr ⟨h1,sz,rows,h2,hn _ _ h3⟩)
theorem zG (hK:nX X) {draw:Bool} {o:bw} {env:Env} {σ:ar} {n n':AV->ar->Prop} (hn:∀v σ',n v σ'->n' v σ') (hp:eB X draw o env σ n):eB X draw o env σ n':=by
 unfold eB at hp ⊢
 split at hp
 ·exact oz hK hn hp
 ·split at hp
  ·exact oz hK hn hp
  ·exact oz hK hn hp
  ·exact hp.elim
 ·split at hp
  ·exact hn _ _ hp
  ·exact hp.elim
 ·split at hp
  ·exact hn _ _ hp
  ·exact hp.elim
 ·split at hp
  ·exact hn _ _ hp
  ·exact hp.elim
 ·split at hp
  ·exact hn _ _ hp
  ·exact hp.elim
 ·split at hp
  ·exact hn _ _ hp
  ·exact hp.elim
 ·split at hp
  ·exact hn _ _ hp
  ·exact hn _ _ hp
  ·exact hp.elim
theorem jc (hK:nX X) {vo:bw} {N N':Env->ar->Prop} (h:∀e s,N e s->N' e s) {env:Env} {σ:ar} (hp:step X vo N env σ):step X vo N' env σ:=by
 unfold step at hp ⊢
 split at hp
 ·rename_i hw;rw[if_pos hw];exact zG hK (fun v σ'=>h _ _) hp
 ·rename_i hw;rw[if_neg hw];exact h _ _ hp
theorem E8 {env gZ:Env} {vo:bw} {σ:ar} {n:AV->ar->Prop} (h:∀t∈vo.op.fM,env t=gZ t) (hv:eB X false vo env σ n):eB X false vo gZ σ n:=by
 unfold eB at hv ⊢
 split at hv
 ·rename_i f args dX
  rw[dX]at h
  simp only[fH.fM]at h
  rw[<-map_congr h];exact hv
 ·rename_i x args dX
  rw[dX]at h
  simp only[fH.fM,List.mem_append]at h
  rw[<-map_congr (l:=args) fun t ht=>h t (.inr ht),<-bq (x:=x) fun t ht=>h t (.inl ht)];exact hv
 ·rw[<-gi h];exact hv
 ·rw[<-gi h];exact hv
 ·rw[<-gi h];exact hv
 ·rw[<-gi h];exact hv
 ·rw[<-gi h];exact hv
 ·rw[<-qz h];exact hv
theorem kG {x:bw} (hq:j5 x=true) {N:Env->ar->Prop} {env:Env} {σ:ar}:step X x N env σ↔∃v g',GS X σ.next x env σ.get v g'/\N (upd env x.dst v) ⟨g',σ.next⟩:=by
 unfold j5 at hq
 simp only[Bool.and_eq_true,Bool.not_eq_true',bne_iff_ne]at hq
 obtain⟨H7,oK⟩:=hq
 unfold step GS
 by_cases hw:ax x.guard env=true
 ·rw[if_pos hw]
  simp only[hw,if_true]
  unfold eB
  split
  ·rename_i dX;simp[dX,fH.kN]at H7
  ·rename_i dX;simp[dX,fH.kN]at H7
  ·rename_i dX;simp[dX,fH.cls]at oK
  ·rename_i dX;simp[dX,fH.cls]at oK
  ·rename_i dX;simp[dX,fH.cls]at oK
  ·rename_i dX;simp[dX,fH.cls]at oK
  ·rename_i dX;simp[dX,fH.cls]at oK
  ·rename_i n1 n2 n3 n4 n5 n6 n7
   have hVS:∀v g',VS X σ.next x env σ.get v g'↔∃mr,dY x.op (cJ env) (eI x.hid σ.next σ.get) ⟨x.site,σ.next⟩=some (v,mr)/\g'=iy σ.get ⟨x.site,σ.next⟩ mr:=fun v g'=>by
    unfold VS
    split
    ·rename_i hh;exact(n1 _ _ hh).elim
    ·rename_i hh;exact(n2 _ _ hh).elim
    ·rename_i hh;exact(n3 _ _ _ hh).elim
    ·rename_i hh;exact(n4 _ _ _ hh).elim
    ·rename_i hh;exact(n5 _ _ _ hh).elim
    ·rename_i hh;exact(n6 _ _ hh).elim
    ·rename_i hh;exact(n7 _ _ hh).elim
    ·exact Iff.rfl
   simp only[hVS]
   cases hz:dY x.op (cJ env) (eI x.hid σ.next σ.get) ⟨x.site,σ.next⟩with
   |none=>
    exact⟨fun h=>h.elim,fun⟨v,g',⟨mr,h,_⟩,_⟩=>by cases h⟩
   |some p=>
    obtain⟨v,mr⟩:=p
    have key:∀(v':AV) (g':Rows),(∃NI,some (v,mr)=some (v',NI)/\g'=iy σ.get ⟨x.site,σ.next⟩ NI)↔v'=v/\g'=iy σ.get ⟨x.site,σ.next⟩ mr:=fun v' g'=>by
     constructor
     ·rintro⟨NI,h1,h2⟩
      injection h1 with h1;injection h1 with h1 h3
      subst h1;subst h3
      exact⟨rfl,h2⟩
     ·rintro⟨rfl,rfl⟩;exact⟨mr,rfl,rfl⟩
    have fin:(∃v' g',(∃NI,some (v,mr)=some (v',NI)/\g'=iy σ.get ⟨x.site,σ.next⟩ NI)/\N (upd env x.dst v') ⟨g',σ.next⟩)↔N (upd env x.dst v) ⟨iy σ.get ⟨x.site,σ.next⟩ mr,σ.next⟩:=by
     constructor
     ·rintro⟨v',g',h,hN⟩
      obtain⟨rfl,rfl⟩:=(key v' g').1 h
      exact hN
     ·intro hN;exact⟨v,_,(key _ _).2 ⟨rfl,rfl⟩,hN⟩
    cases mr with
    |none=>exact fin.symm
    |some r=>exact fin.symm
 ·rw[if_neg hw]
  simp only[if_neg hw]
  exact⟨fun h=>⟨_,_,⟨rfl,rfl⟩,h⟩,fun⟨v,g',⟨hv,hg⟩,h⟩=>by rw[hv,hg]at h;exact h⟩
def xv (x:bw) (env:Env) (v:AV):Prop:=if ax x.guard env then dY x.op (cJ env) (fun _=>none) ⟨0,0⟩=some (v,none)else v=.undef
theorem s6 {x:bw} (hp:x.op.cls=.pure):j5 x=true:=by
 unfold j5
 rw[hp]
 cases hc:x.op<;>simp[hc,fH.cls]at hp<;>rfl
theorem qE {x:bw} (hp:x.op.cls=.pure) {N:Env->ar->Prop} {env:Env} {σ:ar}:step X x N env σ↔∃v,xv x env v/\N (upd env x.dst v) σ:=by
 rw[kG (s6 hp)]
 unfold GS xv
 by_cases hw:ax x.guard env=true
 ·simp only[hw,if_true]
  constructor
  ·rintro⟨v,g',h,hN⟩
   obtain⟨rfl,dy⟩:=vB hp h
   refine⟨v,?_,hN⟩
   unfold VS at h
   split at h
   ·rename_i dX;rw[dX]at hp;simp[fH.cls]at hp
   ·rename_i dX;rw[dX]at hp;simp[fH.cls]at hp
   ·rename_i dX;rw[dX]at hp;simp[fH.cls]at hp
   ·rename_i dX;rw[dX]at hp;simp[fH.cls]at hp
   ·rename_i dX;rw[dX]at hp;simp[fH.cls]at hp
   ·rename_i dX;rw[dX]at hp;simp[fH.cls]at hp
   ·rename_i dX;rw[dX]at hp;simp[fH.cls]at hp
   ·obtain⟨mr,hq,_⟩:=h
    have RK:mr=none:=by
     cases mr with
     |none=>rfl
     |some r=>have:=s7 hq;simp[oN,hp]at this
    subst RK
    rw[<-s8 (g:=eI x.hid σ.next σ.get) (id:=⟨x.site,σ.next⟩) hp];exact hq
  ·rintro⟨v,h,hN⟩
   exact⟨v,σ.get,K7 (mr:=none) (by rw[s8 (g2:=fun _=>none) (id2:=⟨0,0⟩) hp];exact h),hN⟩
 ·simp only[if_neg hw]
  exact⟨fun⟨v,g',⟨hv,hg⟩,h⟩=>⟨v,hv,by rw[hg]at h;exact h⟩,fun⟨v,hv,h⟩=>⟨v,σ.get,⟨hv,rfl⟩,h⟩⟩
theorem HS {x:bw} {env gZ:Env} {v:AV} (h:∀t∈x.fM,env t=gZ t) (hv:xv x env v):xv x gZ v:=by
 unfold xv at hv ⊢
 rw[<-lG h,<-qz fun t ht=>h t (pR ht)];exact hv
structure J8 (x y:bw):Prop where
 xy:∀k,x.dst=some k->k∉y.fM
 yx:∀k,y.dst=some k->k∉x.fM
 dst:∀k,x.dst=some k->y.dst≠some k
theorem pW {x y:bw} (h:qH x y=true):J8 x y:=by
 unfold qH at h
 simp only[Bool.and_eq_true]at h
 obtain⟨a1,a2⟩:=h
 refine⟨fun k hk=>?_,fun k hk=>?_,fun k hk=>?_⟩
 ·rw[hk]at a1;simp at a1;exact a1.1
 ·rw[hk]at a2;simpa using a2
 ·rw[hk]at a1;simp at a1;exact a1.2
theorem uG {x y:bw} (h:uF x y=true):(J8 x y/\x.op.cls=.pure)∨(zT x y/\j5 x=true/\j5 y=true):=by
 unfold uF at h
 simp only[Bool.or_eq_true,Bool.and_eq_true,beq_iff_eq]at h
 rcases h with⟨h1,h2⟩|⟨⟨h1,h2⟩,h3⟩
 ·exact .inl ⟨pW h1,h2⟩
 ·exact .inr ⟨oG h1,h2,h3⟩
theorem yj {x y:bw} (h:uF x y=true):j5 x=true:=by
 rcases uG h with h|h
 ·exact s6 h.2
 ·exact h.2.1
theorem EP (hK:nX X) {x y:bw} (hf:uF x y=true) {N:Env->ar->Prop} {env:Env} {σ:ar} (h:step X x (fun e s=>step X y N e s) env σ):step X y (fun e s=>step X x N e s) env σ:=by
 rcases uG hf with⟨F,hp⟩|⟨F,hx,hy⟩
 ·rw[qE hp]at h
  obtain⟨v,hx,h⟩:=h
  have CG:=fun(v':AV)=>tA (env:=env) (v:=v) (u:=v') F.dst
  have A6:=lf (env:=env) (v:=v) F.xy
  have back:∀(v':AV),xv x (upd env y.dst v') v:=fun v'=>HS (fun t ht=>(lf F.yx t ht).symm) hx
  unfold step at h ⊢
  rw[lG A6]at h
  split at h
  ·rename_i hw
   rw[if_pos hw]
   refine zG hK (fun v' σ' hN=>?_) (E8 (fun t ht=>A6 t (pR ht)) h)
   rw[CG]at hN
   exact(qE hp).2 ⟨v,back v',hN⟩
  ·rename_i hw
   rw[if_neg hw]
   rw[CG]at h
   exact(qE hp).2 ⟨v,back _,h⟩
 ·rw[kG hx]at h
  obtain⟨v,g1,h1,h⟩:=h
  rw[kG hy]at h
  obtain⟨v',g2,h2,h⟩:=h
  obtain⟨IE,q1,q2,q3⟩:=BZ F h1 h2
  rw[q3]at h
  exact(kG hy).2 ⟨v',IE,q1,(kG hx).2 ⟨v,g2,q2,h⟩⟩
def xd (X:fb) (ops:Array Oper) (vl:List bw) (K:Env->ar->Prop):Nat->Array Bool->Env->ar->Prop
 |0,listed,env,σ=>Region.ready .any ops listed=[]/\K env ⟨σ.get,σ.next+1⟩
 |f+1,listed,env,σ=>(Region.ready .any ops listed=[]->K env ⟨σ.get,σ.next+1⟩)/\∀i∈Region.ready .any ops listed,∃vo,vl[i]? =some vo/\step X vo (fun e s=>xd X ops vl K f (listed.setIfInBounds i true) e s) env σ
theorem AE {ops:Array Oper} {vl:List bw} {bs:Array Nat} {listed:Array Bool} {i:Nat} (h:oE ops vl bs listed i=true) (j:Nat):oE ops vl bs (listed.setIfInBounds j true) i=true:=by
 unfold oE at h ⊢
 split at h
 ·rename_i x hx
  simp only[List.all_eq_true,Bool.or_eq_true]at h ⊢
  intro k hk
  rcases h k hk with((h|h)|h)|h
  ·exact .inl (.inl (.inl (getD_set_true h)))
  ·exact .inl (.inl (.inr h))
  ·exact .inl (.inr h)
  ·exact .inr h
 ·cases h
theorem qW {ops:Array Oper} {vl:List bw} {listed:Array Bool} {i j:Nat} {vi:bw} (p4:DC ops listed) (h:oE ops vl (iN ops) listed i=true) (hi:vl[i]? =some vi) (hr:i∈Region.ready .any ops listed) (hj:j∈Region.ready .any ops listed) (lR:j≠i):∃vj,vl[j]? =some vj/\uF vi vj=true:=by
 unfold oE at h
 rw[hi]at h
 simp only[List.all_eq_true,Bool.or_eq_true,beq_iff_eq]at h
 obtain⟨_,o,ho,_⟩:=mem_ready.1 hj
 rcases h j (List.mem_range.2 (Array.getElem?_eq_some_iff.1 ho).1)with((h|h)|h)|h
 ·rw[il hj]at h;cases h
 ·exact absurd h lR
 ·have:=j6 p4 hj i h
  rw[il hr]at this;cases this
 ·split at h
  ·rename_i y hy;exact⟨y,hy,h⟩
  ·cases h
theorem BW (hK:nX X) {ops:Array Oper} {vl:List bw} {K:Env->ar->Prop} {i:Nat} {vi:bw} (hi:vl[i]? =some vi):∀(fuel:Nat) (listed:Array Bool) (env:Env) (σ:ar),
  DC ops listed->i∈Region.ready .any ops listed->oE ops vl (iN ops) listed i=true->step X vi (fun e s=>xd X ops vl K fuel (listed.setIfInBounds i true) e s) env σ->xd X ops vl K (fuel+1) listed env σ:=by
 intro fuel
 induction fuel with
 |zero=>
  intro listed env σ p4 hr lQ H
  refine⟨fun h=>(by rw[h]at hr;cases hr),fun j hj=>?_⟩
  by_cases lR:j=i
  ·subst lR;exact⟨vi,hi,H⟩
  ·obtain⟨vj,I1,OF⟩:=qW p4 lQ hi hr hj lR
   rw[kG (yj OF)]at H
   obtain⟨v,g',_,H⟩:=H
   have:=ready_mono hj lR
   rw[H.1]at this;cases this
 |succ fuel ih=>
  intro listed env σ p4 hr lQ H
  refine⟨fun h=>(by rw[h]at hr;cases hr),fun j hj=>?_⟩
  by_cases lR:j=i
  ·subst lR;exact⟨vi,hi,H⟩
  ·obtain⟨vj,I1,OF⟩:=qW p4 lQ hi hr hj lR
   refine⟨vj,I1,?_⟩
   have H2:step X vi (fun e s=>step X vj (fun e s=>xd X ops vl K fuel ((listed.setIfInBounds i true).setIfInBounds j true) e s) e s) env σ:=jc hK (fun e s h=>by
    obtain⟨vj',wj,h'⟩:=h.2 j (ready_mono hj lR)
    rw[I1]at wj;injection wj with wj;subst wj
    exact h') H
   refine jc hK (fun e s h=>?_) (EP hK OF H2)
   refine ih _ _ _ (p4.list hj) (ready_mono hr (fun e=>lR e.symm)) (AE lQ j) ?_
   rw[Array.setIfInBounds_comm _ _ lR]
   exact h
theorem qD {x:bw} (hg:x.guard=none) {N:Env->ar->Prop} {env:Env} {σ:ar}:step X x N env σ=eB X false x env σ (fun v σ'=>N (upd env x.dst v) σ'):=by
 unfold step
 rw[hg]
 simp[ax]
theorem BL {x y:bw} {t s sz:Nat} {ys:O} (hx:x.op=.append sz (.t t) ys) (hg:x.guard=none) (hf:Cn s x y=true) {N:Env->ar->Prop} {env:Env} {σ:ar} (hl:Jj t s ys env σ.next) (h:step X x (fun e s=>step X y N e s) env σ):
  step X y (fun e σ'=>Jj t s ys e σ'.next/\step X x N e σ') env σ:=by
 unfold Cn at hf
 simp only[Bool.and_eq_true,bne_iff_ne]at hf
 obtain⟨⟨⟨⟨⟨f1,hq⟩,f3⟩,f4⟩,f5⟩,f6⟩:=hf
 have F:=pW f1
 obtain⟨⟨len,ht⟩,hsrc⟩:=hl
 have Gz:∀k∈x.op.fM,∀v',upd env y.dst v' k=env k:=fun k hk v'=>lf (env:=env) (v:=v') F.yx k (pR hk)
 have ee:t∈x.op.fM:=by rw[hx];simp[fH.fM,fX]
 have CH:∀v',cJ (upd env y.dst v') ys=cJ env ys:=fun v'=>(bq fun k hk=>by rw[Gz k (by rw[hx];simp[fH.fM,hk])]).symm
 rw[qD hg]at h
 unfold eB at h
 simp only[hx,eJ]at h
 have ex:cJ env (.t t)=.own ⟨s,σ.next⟩ 0 len:=ht
 rw[ex]at h
 cases hr:aT σ.get (cJ env ys)with
 |none=>rw[hr]at h;exact h.elim
 |some rs=>
  rw[hr]at h
  simp only[Option.bind_some,aH]at h
  cases IM:σ.get ⟨s,σ.next⟩with
  |none=>rw[IM]at h;exact h.elim
  |some r=>
   rw[IM]at h
   simp only[Option.bind_some]at h
   split at h
   ·rename_i v g1 hv
    split at hv
    ·rename_i hcond
     simp only[Option.some.injEq,Prod.mk.injEq]at hv
     obtain⟨rfl,rfl⟩:=hv
     rw[kG hq]at h
     obtain⟨v',g2,hG,hN⟩:=h
     have OT:(⟨y.site,σ.next⟩:Id)≠⟨s,σ.next⟩:=fun e=>f5 (by injection e)
     have Gs:(⟨y.site,σ.next⟩:Id)≠⟨x.site,σ.next⟩:=fun e=>f6 (by injection e)
     replace hG:GS X σ.next y env (bC (bx σ.get ⟨s,σ.next⟩) ⟨x.site,σ.next⟩ ⟨true,sz,r.rows++rs⟩) v' g2:=r4 (lf F.xy) hG
     have Sh:eI y.hid σ.next σ.get=eI y.hid σ.next (bC (bx σ.get ⟨s,σ.next⟩) ⟨x.site,σ.next⟩ ⟨true,sz,r.rows++rs⟩):=by
      cases hh:y.hid with
      |nil=>rw[hh]at f3;simp at f3
      |cons a l=>
       rw[hh]at f3 f4
       funext i
       show(if (a::l).contains i.site=true/\i.bR=σ.next then none else σ.get i)=if (a::l).contains i.site=true/\i.bR=σ.next then none else _
       by_cases h1:i=⟨x.site,σ.next⟩
       ·subst h1;rw[if_pos ⟨f4,rfl⟩,if_pos ⟨f4,rfl⟩]
       ·by_cases h2:i=⟨s,σ.next⟩
        ·subst h2;rw[if_pos ⟨f3,rfl⟩,if_pos ⟨f3,rfl⟩]
        ·simp only[bC,bx,if_neg h1,if_neg h2]
     obtain⟨my,DN,hG'⟩:∃my,g2=iy (bC (bx σ.get ⟨s,σ.next⟩) ⟨x.site,σ.next⟩ ⟨true,sz,r.rows++rs⟩) ⟨y.site,σ.next⟩ my/\GS X σ.next y env σ.get v' (iy σ.get ⟨y.site,σ.next⟩ my):=by
      unfold GS at hG ⊢
      by_cases wy:ax y.guard env=true
      ·rw[if_pos wy]at hG
       have hcw:y.op.cls≠.write:=by
        unfold j5 at hq
        simp only[Bool.and_eq_true,bne_iff_ne]at hq
        exact hq.2
       obtain⟨my,rfl,_,K9⟩:=sa hcw hG
       exact⟨my,rfl,by rw[if_pos wy];exact K9 _ Sh⟩
      ·rw[if_neg wy]at hG
       obtain⟨rfl,rfl⟩:=hG
       exact⟨none,rfl,by rw[if_neg wy];exact⟨rfl,rfl⟩⟩
     subst DN
     refine(kG hq).2 ⟨v',_,hG',⟨⟨len,by rw[Gz t ee];exact ht⟩,fun id o l he=>hsrc id o l (by rw[<-CH v'];exact he)⟩,?_⟩
     rw[qD hg]
     unfold eB
     have ex':cJ (upd env y.dst v') (.t t)=.own ⟨s,σ.next⟩ 0 len:=by
      show upd env y.dst v' t= _
      rw[Gz t ee];exact ht
     simp only[hx,eJ,ex',CH v']
     have lS:aT (iy σ.get ⟨y.site,σ.next⟩ my) (cJ env ys)=some rs:=by
      cases my with
      |none=>exact hr
      |some row=>
       revert hr
       cases hev:cJ env ys<;>simp only[aT,iy]<;>try exact fun h=>h
       rename_i id o l
       have:id≠⟨y.site,σ.next⟩:=fun e=>hsrc id o l hev (by rw[e])
       simp only[bC,if_neg this];exact fun h=>h
     have Rz:iy σ.get ⟨y.site,σ.next⟩ my ⟨s,σ.next⟩=some r:=by
      cases my with
      |none=>exact IM
      |some row=>simp only[iy,bC,if_neg (fun e=>OT e.symm:(⟨s,σ.next⟩:Id)≠⟨y.site,σ.next⟩)];exact IM
     rw[lS]
     simp only[Option.bind_some,aH,Rz]
     rw[if_pos hcond]
     have hgg:bC (bx (iy σ.get ⟨y.site,σ.next⟩ my) ⟨s,σ.next⟩) ⟨x.site,σ.next⟩ ⟨true,sz,r.rows++rs⟩=iy (bC (bx σ.get ⟨s,σ.next⟩) ⟨x.site,σ.next⟩ ⟨true,sz,r.rows++rs⟩) ⟨y.site,σ.next⟩ my:=by
      cases my with
      |none=>rfl
      |some row=>
       funext i
       simp only[iy,bC,bx]
       by_cases h1:i=⟨y.site,σ.next⟩
       ·subst h1;rw[if_neg Gs,if_neg OT,if_pos rfl,if_pos rfl]
       ·simp only[if_neg h1]
     have hu:=tA (env:=env) (v:=AV.own ⟨x.site,σ.next⟩ 0 (len+rs.length)) (u:=v') F.dst
     show N (upd (upd env y.dst v') x.dst (.own ⟨x.site,σ.next⟩ 0 (len+rs.length))) ⟨bC (bx (iy σ.get ⟨y.site,σ.next⟩ my) ⟨s,σ.next⟩) ⟨x.site,σ.next⟩ ⟨true,sz,r.rows++rs⟩,σ.next⟩
     rw[hgg,<-hu]
     exact hN
    ·cases hv
   ·exact h.elim
theorem AD {ops:Array Oper} {vl:List bw} {bs:Array Nat} {listed:Array Bool} {i s:Nat} (h:mC ops vl bs listed i s=true) (j:Nat):mC ops vl bs (listed.setIfInBounds j true) i s=true:=by
 unfold mC at h ⊢
 split at h
 ·rename_i x hx
  simp only[List.all_eq_true,Bool.or_eq_true]at h ⊢
  intro k hk
  rcases h k hk with((h|h)|h)|h
  ·exact .inl (.inl (.inl (getD_set_true h)))
  ·exact .inl (.inl (.inr h))
  ·exact .inl (.inr h)
  ·exact .inr h
 ·cases h
theorem yg {ops:Array Oper} {vl:List bw} {listed:Array Bool} {i j s:Nat} {vi:bw} (p4:DC ops listed) (h:mC ops vl (iN ops) listed i s=true) (hi:vl[i]? =some vi) (hr:i∈Region.ready .any ops listed) (hj:j∈Region.ready .any ops listed) (lR:j≠i):∃vj,vl[j]? =some vj/\Cn s vi vj=true:=by
 unfold mC at h
 rw[hi]at h
 simp only[List.all_eq_true,Bool.or_eq_true,beq_iff_eq]at h
 obtain⟨_,o,ho,_⟩:=mem_ready.1 hj
 rcases h j (List.mem_range.2 (Array.getElem?_eq_some_iff.1 ho).1)with((h|h)|h)|h
 ·rw[il hj]at h;cases h
 ·exact absurd h lR
 ·have:=j6 p4 hj i h
  rw[il hr]at this;cases this
 ·split at h
  ·rename_i y hy;exact⟨y,hy,h⟩
  ·cases h
theorem zH (hK:nX X) {ops:Array Oper} {vl:List bw} {K:Env->ar->Prop} {i t s sz:Nat} {ys:O} {vi:bw} (hi:vl[i]? =some vi) (hx:vi.op=.append sz (.t t) ys) (hg:vi.guard=none):∀(fuel:Nat) (listed:Array Bool) (env:Env) (σ:ar),
  DC ops listed->i∈Region.ready .any ops listed->mC ops vl (iN ops) listed i s=true->Jj t s ys env σ.next->step X vi (fun e s=>xd X ops vl K fuel (listed.setIfInBounds i true) e s) env σ->xd X ops vl K (fuel+1) listed env σ:=by
 intro fuel
 induction fuel with
 |zero=>
  intro listed env σ p4 hr lQ hlc H
  refine⟨fun h=>(by rw[h]at hr;cases hr),fun j hj=>?_⟩
  by_cases lR:j=i
  ·subst lR;exact⟨vi,hi,H⟩
  ·exfalso
   have h0:=ready_mono hj lR
   rw[qD hg]at H
   unfold eB at H
   simp only[hx]at H
   split at H
   ·rw[H.1]at h0;cases h0
   ·exact H
 |succ fuel ih=>
  intro listed env σ p4 hr lQ hlc H
  refine⟨fun h=>(by rw[h]at hr;cases hr),fun j hj=>?_⟩
  by_cases lR:j=i
  ·subst lR;exact⟨vi,hi,H⟩
  ·obtain⟨vj,I1,OF⟩:=yg p4 lQ hi hr hj lR
   refine⟨vj,I1,?_⟩
   have H2:step X vi (fun e s=>step X vj (fun e s=>xd X ops vl K fuel ((listed.setIfInBounds i true).setIfInBounds j true) e s) e s) env σ:=jc hK (fun e s h=>by
    obtain⟨vj',wj,h'⟩:=h.2 j (ready_mono hj lR)
    rw[I1]at wj;injection wj with wj;subst wj
    exact h') H
   refine jc hK (fun e s h=>?_) (BL hx hg OF hlc H2)
   refine ih _ _ _ (p4.list hj) (ready_mono hr (fun e=>lR e.symm)) (AD lQ j) h.1 ?_
   rw[Array.setIfInBounds_comm _ _ lR]
   exact h.2
theorem GV {ops:Array Oper} {vl:List bw} {bs:Array Nat} {listed:Array Bool} {i i' t s:Nat} {y:O} {vo:bw} (h:Mo ops vl bs listed i=some (i',t,s,y,vo)):i'=i/\vl[i]? =some vo/\(∃sz,vo.op=.append sz (.t t) y)/\vo.guard=none/\mC ops vl bs listed i s=true:=by
 unfold Mo at h
 split at h
 ·rename_i x hx
  split at h
  ·rename_i t' s' y' jH
   split at h
   ·rename_i hf
    simp only[Option.some.injEq,Prod.mk.injEq]at h
    obtain⟨rfl,rfl,rfl,rfl,rfl⟩:=h
    unfold KK at jH
    split at jH
    ·rename_i sz t2 y2 ho hgd
     split at jH
     ·simp only[Option.some.injEq,Prod.mk.injEq]at jH
      obtain⟨rfl,rfl,rfl⟩:=jH
      exact⟨rfl,hx,⟨sz,ho⟩,hgd,hf⟩
     ·cases jH
    ·cases jH
   ·cases h
  ·cases h
 ·cases h
theorem uq {X:fb} {Q:Ex->Env->ar->Prop} {env:Env} {σ:ar}:∀{l:List VC} {t:VC},xK l=some t->dJ X t Q env σ->∀c∈l,dJ X c Q env σ
 |[],t,h,_,c,hc=>by cases hc
 |[c0],t,h,hw,c,hc=>by
  simp only[xK,Option.some.injEq]at h
  subst h
  rw[List.mem_singleton]at hc
  subst hc;exact hw
 |c0::c1::r,t,h,hw,c,hc=>by
  simp only[xK,Option.map_eq_some_iff]at h
  obtain⟨t',Fj,rfl⟩:=h
  rcases List.mem_cons.1 hc with rfl|hc
  ·exact hw.1
  ·exact uq Fj hw.2 c hc
theorem mapM_mem {α β:Type} {f:α->Option β}:∀{l:List α} {r:List β},l.mapM f=some r->∀i∈l,∃b∈r,f i=some b
 |[],_,_,i,hi=>by cases hi
 |a::l,r,h,i,hi=>by
  simp only[List.mapM_cons,Option.bind_eq_bind,Option.bind_eq_some_iff,Option.pure_def,Option.some.injEq]at h
  obtain⟨b,hb,r',hr,rfl⟩:=h
  rcases List.mem_cons.1 hi with rfl|hi
  ·exact⟨b,by simp,hb⟩
  ·obtain⟨c,hc,hf⟩:=mapM_mem hr i hi
   exact⟨c,List.mem_cons_of_mem _ hc,hf⟩
theorem E5 (hK:nX X) {ops:Array Oper} {vl:List bw} {Q:Ex->Env->ar->Prop}:∀(n:Nat) (listed:Array Bool) (t:VC) (env:Env) (σ:ar),tx ops vl (iN ops) n listed=some t->DC ops listed->dJ X t Q env σ->xd X ops vl (Q .normal) n listed env σ:=by
 intro n
 induction n with
 |zero=>
  intro listed t env σ h _ hw
  unfold tx at h
  split at h
  ·rename_i hr
   simp only[Option.some.injEq]at h
   subst h
   exact⟨hr,hw⟩
  ·cases h
 |succ n ih=>
  intro listed t env σ h p4 hw
  unfold tx at h
  split at h
  ·rename_i hr
   simp only[Option.some.injEq]at h
   subst h
   exact⟨fun _=>hw,fun i hi=>by rw[hr]at hi;cases hi⟩
  ·rename_i r rs hr
   dsimp only at h
   split at h
   ·rename_i i hfind
    have CA:=List.mem_of_find?_eq_some hfind
    have pg:=List.find?_some hfind
    rw[<-hr]at CA
    split at h
    ·rename_i vo qb
     simp only[Option.map_eq_some_iff]at h
     obtain⟨t',Fj,rfl⟩:=h
     exact BW hK qb n listed env σ p4 CA pg (jc hK (fun e s h=>ih _ _ _ _ Fj (p4.list CA) h) hw)
    ·cases h
   ·split at h
    ·rename_i i t s y vo hfind
     obtain⟨i0,Fg,ea⟩:=List.exists_of_findSome?_eq_some hfind
     obtain⟨rfl,qb,⟨sz,dX⟩,hgd,xl⟩:=GV ea
     rw[<-hr]at Fg
     simp only[Option.map_eq_some_iff]at h
     obtain⟨t',Fj,rfl⟩:=h
     exact zH hK qb dX hgd n listed env σ p4 Fg xl hw.1 (jc hK (fun e s h=>ih _ _ _ _ Fj (p4.list Fg) h) hw.2)
    split at h
    ·rename_i l hl
     have dy:=uq h hw
     refine⟨fun h=>(by rw[h]at hr;cases hr),fun i hi=>?_⟩
     rw[hr]at hi
     obtain⟨b,Ct,tH⟩:=mapM_mem hl i hi
     simp only[Option.bind_eq_some_iff,Option.map_eq_some_iff]at tH
     obtain⟨vo,qb,t',Fj,rfl⟩:=tH
     exact⟨vo,qb,jc hK (fun e s h=>ih _ _ _ _ Fj (p4.list (by rw[hr];exact hi)) h) (dy _ Ct)⟩
    ·cases h
theorem BT {ops:Array Oper} {vl:List bw} {nt site0:Nat} {draw mk:Bool} {bs:Array Nat} {hidden:List (Nat×Bool)} {K:Env->ar->Prop} {Q:Exit->Act->World->Prop} (dy:allM (kX P ops nt site0 draw mk bs hidden) ops.toList 0=some vl):
  ∀(fuel:Nat) (listed:Array Bool) (env:Env) (σ:ar) (a:Act) (w:World) (D:Nat->Prop) (ι:Names) (U:Nat->Prop),xd (Sound P) ops vl K fuel listed env σ->fN P hs D ι σ.get w->Used ι σ.next U->(∀s,U s->∃i,s=site0+i/\listed.getD i false=true)->cF P w D ι env a->a.tmps.size=nt->
  (∀gG σ' a' w' D' ι',K gG σ'->Step hs D ι w D' ι' w'->St P hs nt D' ι' gG σ' a' w'->a'.defers=a.defers->σ.next<=σ'.next->Q .normal a' w')->wpAny P .any ops Q fuel listed a w:=by
 intro fuel
 induction fuel with
 |zero=>intro listed env σ a w D ι U h S Us hU E eU hQ;exact⟨h.1,hQ env _ a w D ι h.2 (Step.refl _ _ _ _) ⟨S,Us.next,E,eU⟩ rfl (Nat.le_succ _)⟩
 |succ fuel ih=>
  intro listed env σ a w D ι U h S Us hU E eU hQ
  refine⟨fun hr=>hQ env _ a w D ι (h.1 hr) (Step.refl _ _ _ _) ⟨S,Us.next,E,eU⟩ rfl (Nat.le_succ _),fun i hi=>?_⟩
  obtain⟨vo,qb,hG⟩:=h.2 i hi
  obtain⟨_,o,ho,_⟩:=mem_ready.1 hi
  obtain⟨vo',k5,Oy⟩:=(ml dy).2 i o (by simpa using ho)
  rw[qb]at k5;injection k5 with k5;subst k5
  rw[Nat.zero_add]at Oy
  obtain⟨hc,hd,yI,tW,hg⟩:=np Oy
  have hw:=qJ (ops:=ops) (vo:=vo) E hg
  have Re:¬U vo.site:=fun hu=>by
   obtain⟨i',he,hl⟩:=hU _ hu
   have:i'=i:=ad
   subst this
   rw[il hi]at hl;cases hl
  have iO:i<listed.size:=by
   have h0:=(mem_ready.1 hi).1
   rcases Nat.lt_or_ge i listed.size with h|h
   ·exact h
   ·simp[Array.getElem?_eq_none h]at h0
  unfold wpOp
  simp only[ho]
  rw[<-hw]
  unfold step at hG
  by_cases DX:ax vo.guard env=true
  ·rw[if_pos DX]
   rw[if_pos DX]at hG
   refine .inl (vh hc hG S Us Re E fun v σ' u D' ι' w' hn T S' hR U' hle=>?_)
   refine ih _ _ _ _ w' D' ι' _ hn S' U' (fun s tL=>?_) (by rw[hd];exact lp (mB E T) hR tW eU) (by rw[j4];exact eU) fun gG σ2 a2 w2 D2 ι2 hk T2 L8 AO oJ=>hQ gG σ2 a2 w2 D2 ι2 hk (T.trans T2) L8 (AO.trans (put_defers _ _ _)) (Nat.le_trans hle oJ)
   rcases tL with h|h
   ·obtain⟨i',he,hl⟩:=hU _ h
    exact⟨i',he,getD_set_true hl⟩
   ·exact⟨i,by rw[h,yI],by simp[iO]⟩
  ·rw[if_neg DX]
   rw[if_neg DX]at hG
   refine ih _ _ _ _ w D ι U hG S Us (fun s tL=>?_) (by rw[hd];exact lp E cQ.undef tW eU) (by rw[j4];exact eU) fun gG σ2 a2 w2 D2 ι2 hk T2 L8 AO oJ=>hQ gG σ2 a2 w2 D2 ι2 hk T2 L8 (AO.trans (put_defers _ _ _)) oJ
   obtain⟨i',he,hl⟩:=hU _ tL
   exact⟨i',he,getD_set_true hl⟩
end
end Go.Proofs.YtphenfakmdknlaaGreat.V

namespace Go.Proofs.YtphenfakmdknlaaGreat.V
open Go.RowKit
variable {P:Program} {w w':World} {D D' D2:Nat->Prop} {ι ι' ι2:Names}
def zY (P:Program) (c:Code) (Q:Exit->Act->World->Prop) (a:Act) (w:World):Prop:=
 ∀(b:Frame) (k:List Item) (cs:List Frame),b.kind≠.early->∃e a' w',Q e a' w'/\Arrives P (lone (b.at a (.code c::k)) cs w) b k cs e a' w'
section
variable {Q:Exit->Act->World->Prop} {a:Act}
theorem qx {c:Code} (h:c.wp P Q a w):zY P c Q a w:=fun b k cs _=>h b k cs
theorem Jw {x y:Code} (h:zY P x (Exit.then (zY P y Q) Q) a w):zY P (.seq x y) Q a w:=by
 intro b k cs hb
 obtain⟨e,a1,w1,hq,iX⟩:=h b (.code y::k) cs hb
 by_cases he:e=.normal
 ·subst he
  obtain⟨e2,a2,w2,oK,Gb⟩:=hq b k cs hb
  exact⟨e2,a2,w2,oK,.of_steps (.head step_seq iX) Gb⟩
 ·refine⟨e,a1,w1,?_,.of_steps (.one step_seq) (.pass (x:=.code y) rfl (fun _ _=>.inl he) iX)⟩
  cases e<;>first|exact absurd rfl he|exact hq
theorem G8 {c:Operand} {x y:Code} {t:Bool} (hc:a.eval c=.bool t) (h:zY P (if t then x else y) Q a w):zY P (.cond c x y) Q a w:=
 fun b k cs hb=>let ⟨e,a',w',q,r⟩:=h b k cs hb;⟨e,a',w',q,.of_steps (.one (step_cond hc)) r⟩
theorem Ey {id:Nat} {c:Code} (h:zY P c (Exit.inBlock id Q) a w):zY P (.block id c) Q a w:=by
 intro b k cs hb
 obtain⟨e,a1,w1,hq,iX⟩:=h b (.inBlock id::k) cs hb
 cases e with
 |normal=>exact⟨.normal,a1,w1,hq,.head step_block (Steps.trans iX (.one step_inBlock))⟩
 |exit jW=>
  by_cases hid:jW=id
  ·simp only[Exit.inBlock,hid,if_true]at hq
   exact⟨.normal,a1,w1,hq,.head step_block (iX k (by simp[exitTo,hid]))⟩
  ·simp only[Exit.inBlock,hid,if_false]at hq
   exact⟨.exit jW,a1,w1,hq,fun k' hk=>.head step_block (iX k' (by simp[exitTo,Ne.symm hid,hk]))⟩
 |goto l=>exact⟨_,a1,w1,hq,fun k' hk=>.head step_block (iX k' (by simp[gotoIn,hk]))⟩
 |ret=>exact⟨_,a1,w1,hq,.of_steps (.one step_block) iX⟩
 |panic ch=>exact⟨_,a1,w1,hq,.of_steps (.one step_block) iX⟩
 |outgrown=>exact⟨_,a1,w1,hq,.of_steps (b:=b) (k:=k) (cs:=cs) (e:=.outgrown) (.one step_block) iX⟩
def rU (P:Program) (c:Code) (Q:Exit->Act->World->Prop):Nat->Act->World->Prop
 |0=>fun _ _=>False
 |n+1=>zY P c (Exit.then (rU P c Q n) Q)
theorem G9 {c:Code} (n:Nat) (h:rU P c Q n a w):zY P (.loop c) Q a w:=by
 intro b k cs hb
 have key:∀n a w,rU P c Q n a w->∃e a' w',Q e a' w'/\Arrives P (lone (b.at a (.code c::.inLoop c::k)) cs w) b k cs e a' w':=by
  intro n
  induction n with
  |zero=>intro a w h;exact h.elim
  |succ n ih=>
   intro a w h
   obtain⟨e,a1,w1,hq,iX⟩:=h b (.inLoop c::k) cs hb
   by_cases he:e=.normal
   ·subst he
    obtain⟨e2,a2,w2,oK,Gb⟩:=ih a1 w1 hq
    exact⟨e2,a2,w2,oK,.of_steps (Steps.trans iX (.one step_inLoop)) Gb⟩
   ·refine⟨e,a1,w1,?_,.pass (x:=.inLoop c) rfl (fun _ _=>.inl he) iX⟩
    cases e<;>first|exact absurd rfl he|exact hq
 obtain⟨e,a',w',hq,iX⟩:=key n a w h
 exact⟨e,a',w',hq,.of_steps (.one step_loop) iX⟩
theorem vK {f:FuncId} {fn:Func} {c:Code} {args:Array Value} {R:Ending->World->Prop} (hf:P.funcs[f]? =some fn) (hb:fn.body=some c)
  (h:zY P c (bodyPost P fn R) {tmps:=args++Array.replicate (fn.ntmps-args.size) undef,defers:=[]} w):Calls P f args w R:=by
 intro cs
 have LM:Frame.enter P f args .normal=({(default:Frame)with fn:=f,kind:=.normal}:Frame).at {tmps:=args++Array.replicate (fn.ntmps-args.size) undef,defers:=[]} [.code c]:=by simp[Frame.enter,Frame.at,hf,hb]
 obtain⟨e,a',w',hq,iX⟩:=h {(default:Frame)with fn:=f,kind:=.normal} [] cs (by simp)
 rw[<-LM]at iX
 cases e with
 |normal=>obtain⟨hd,v,hr,hR⟩:=hq;exact⟨.returned v,w',_,hR,Steps.trans iX (.one step_end),rfl,rfl,hd,rfl,fn,hf,hr⟩
 |ret=>obtain⟨hd,v,hr,hR⟩:=hq;obtain⟨todo,hs⟩:=iX;exact⟨.returned v,w',_,hR,hs,rfl,rfl,hd,rfl,fn,hf,hr⟩
 |panic chain=>obtain⟨hd,hR⟩:=hq;obtain⟨todo,hs⟩:=iX;exact⟨.panicked chain,w',_,hR,hs,rfl,rfl,hd,fn,hf⟩
 |exit id=>exact hq.elim
 |goto l=>exact hq.elim
 |outgrown=>exact⟨.outgrown,w',{(default:Frame)with fn:=f,kind:=.normal},hq,iX.resolve_left (by simp),rfl,trivial⟩
def tP (P:Program) (ops:Array Oper) (Q:Exit->Act->World->Prop) (l:List Nat) (a:Act) (w:World):Prop:=
 ∀(b:Frame) (k:List Item) (cs:List Frame),b.kind≠.early->∃e a' w',Q e a' w'/\Arrives P (lone (b.at a (.inRegion ops l::k)) cs w) b k cs e a' w'
theorem Br {id:Nat} {ops:Array Oper} (h:tP P ops Q (List.range ops.size) a w):zY P (.region id ops false) Q a w:=
 fun b k cs hb=>let ⟨e,a',w',q,r⟩:=h b k cs hb;⟨e,a',w',q,.of_steps (.one step_region) r⟩
theorem Mx {ops:Array Oper} (h:Q .normal a w):tP P ops Q [] a w:=fun _ _ _ _=>⟨.normal,a,w,h,.one step_region_end⟩
theorem ni {o:Oper} {ys:Nat->Option Bool} (h:o.guard=none):Region.wanted o ys=true:=by simp[Region.wanted,h]
theorem He {ops:Array Oper} {i:Nat} {rest:List Nat} {o:Oper} {v:Value} (ho:ops[i]? =some o) (hg:o.guard=none) (hr:(execOp a.eval o).run P w=.ok (.value v) w') (h:tP P ops Q rest (a.put o.dst v) w'):tP P ops Q (i::rest) a w:=by
 intro b k cs hb
 obtain⟨e,a',w2,hq,iX⟩:=h b k cs hb
 refine⟨e,a',w2,hq,.of_steps (.one ?_) iX⟩
 have lu:(b.at a (.inRegion ops (i::rest)::k)).finish v=b.at (a.put o.dst v) (.inRegion ops rest::k):=by rw[Frame.finish_at,ho];rfl
 rw[<-lu]
 refine step_lone_go ?_
 have h2:=stepG_op (P:=P) (b:=b) (k:=k) (cs:=cs) (w:=w) (rest:=rest) ho (ni hg (ys:=yielded ops a.tmps))
 rw[h2];simp[stepG.apply,hr]
theorem JC {ops:Array Oper} {i:Nat} {rest:List Nat} {o:Oper} {v z:Value} {c cap s r:Nat} {buf:Array Value} (ho:ops[i]? =some o) (hg:o.guard=none) (hr:(execOp a.eval o).run P w=.ok (.comm #[Conc.scase c v z] true .send) w)
  (hc:w.heap[c]? =some (.chan cap buf false s r false)) (fq:buf.size<cap) (h:tP P ops Q rest (a.put o.dst undef) (w.setChan c cap (buf.push v) false (s+1) r false)):tP P ops Q (i::rest) a w:=by
 intro b k cs hb
 obtain⟨e,a',w2,hq,iX⟩:=h b k cs hb
 refine⟨e,a',w2,hq,.of_steps (.one ?_) iX⟩
 have lu:(b.at a (.inRegion ops (i::rest)::k)).finish undef=b.at (a.put o.dst undef) (.inRegion ops rest::k):=by rw[Frame.finish_at,ho];rfl
 rw[<-lu,Conc.lone_eq_solo,Conc.lone_eq_solo]
 exact Conc.step_lone_send_room (Conc.stepG_comm ho (ni hg) hb hr) hc fq
theorem JB {ops:Array Oper} {i:Nat} {rest:List Nat} {o:Oper} {z:Value} {c cap s r:Nat} {buf:Array Value} (ho:ops[i]? =some o) (hg:o.guard=none) (hr:(execOp a.eval o).run P w=.ok (.comm #[Conc.rcase c z] true (.recv false)) w)
  (hc:w.heap[c]? =some (.chan cap buf false s r false)) (GA:0<buf.size) (h:tP P ops Q rest (a.put o.dst (buf.getD 0 undef)) (w.setChan c cap (buf.extract 1 buf.size) false s (r+1) false)):tP P ops Q (i::rest) a w:=by
 intro b k cs hb
 obtain⟨e,a',w2,hq,iX⟩:=h b k cs hb
 refine⟨e,a',w2,hq,.of_steps (.one ?_) iX⟩
 have lu:(b.at a (.inRegion ops (i::rest)::k)).finish (buf.getD 0 undef)=b.at (a.put o.dst (buf.getD 0 undef)) (.inRegion ops rest::k):=by rw[Frame.finish_at,ho];rfl
 rw[<-lu,Conc.lone_eq_solo,Conc.lone_eq_solo]
 exact Conc.step_lone_recv_buf false (Conc.stepG_comm ho (ni hg) hb hr) hc GA
end
section
variable {hs:Nat} {g:Rows} {env:Env} {a:Act} {o:Oper}
theorem Jd {x y:O} (hc:oS P o.op=some (.snd x y)):∃x' y',o.op=.send x' y'/\cO P x'=some x/\cO P y'=some y:=by
 unfold oS at hc
 split at hc
 case h_25=>
  rename_i x' y' h
  simp only[Option.bind_eq_bind,Option.bind_eq_some_iff,Option.pure_def,Option.some.injEq,fH.snd.injEq]at hc
  obtain⟨p,h1,q,h2,rfl,rfl⟩:=hc
  exact⟨_,_,h,h1,h2⟩
 all_goals (try unfold lL at hc)<;>(try unfold sf at hc)<;>(try unfold qg at hc)<;>(repeat' (split at hc))<;>(simp only[Option.bind_eq_bind,Option.bind_eq_some_iff,Option.pure_def,Option.some.injEq,Option.map_eq_some_iff,reduceCtorEq,and_false,exists_false]at hc)
theorem Jc {x:O} (hc:oS P o.op=some (.MC x)):∃t dir e i z x',o.op=.recv t x' false/\P.underlying t=some (.chan dir e)/\P.info? e=some i/\i.zero=some z/\cO P x'=some x:=by
 unfold oS at hc
 split at hc
 case h_26=>
  rename_i t x' h
  split at hc
  ·rename_i dir e ht
   split at hc
   ·rename_i z hz
    simp only[Option.bind_eq_some_iff]at hz
    obtain⟨i,hi,hz⟩:=hz
    simp only[Option.map_eq_some_iff,fH.MC.injEq]at hc
    obtain⟨p,h1,rfl⟩:=hc
    exact⟨t,dir,e,i,z,x',h,ht,hi,hz,h1⟩
   ·cases hc
  ·cases hc
 all_goals (try unfold lL at hc)<;>(try unfold sf at hc)<;>(try unfold qg at hc)<;>(repeat' (split at hc))<;>(simp only[Option.bind_eq_bind,Option.bind_eq_some_iff,Option.pure_def,Option.some.injEq,Option.map_eq_some_iff,reduceCtorEq,and_false,exists_false]at hc)
theorem NV {x y:O} {g':Rows} (S:fN P hs D ι g w) (hc:oS P o.op=some (.snd x y)) (E:cF P w D ι env a) (hv:dq g (cJ env x) (cJ env y)=some g'):
  ∃c cap s r buf u,(execOp a.eval o).run P w=.ok (.comm #[Conc.scase c u (.tuple #[])] true .send) w/\w.heap[c]? =some (.chan cap buf false s r false)/\buf.size<cap/\fN P hs D ι g' (w.setChan c cap (buf.push u) false (s+1) r false)/\Step hs D ι w D ι (w.setChan c cap (buf.push u) false (s+1) r false):=by
 obtain⟨x',y',ho,hx,hy⟩:=Jd hc
 have rx:=cX E hx
 have ry:=cX E hy
 unfold dq at hv
 split at hv
 ·rename_i i he
  simp only[Option.bind_eq_some_iff]at hv
  obtain⟨r,hg,hv⟩:=hv
  split at hv
  ·rename_i hcond
   simp only[Option.some.injEq]at hv
   subst hv
   obtain⟨B,c,hu,hB,hk,eU,buf,s,q,hb,Ff,hR⟩:=vL S rx he hg
   obtain⟨B',dH,RR,_⟩:=S.row i r hg
   rw[hB]at dH;injection dH with dH;subst dH
   have lZ:=S.E6 (ob:=.chan c (buf.push (a.eval y')) false (s+1) q false) (r':={r with rows:=r.rows++[[cJ env y]]}) hg hcond.1 hB fun hr jI=>⟨RR.sz,fun cs dx=>?_,fun h0=>(by rw[hk]at h0;cases h0),fun m hm=>(by rw[hk]at hm;cases hm),fun c' jT=>?_⟩
   ·exact⟨B.b,c,s,q,buf,a.eval y',by simp[execOp,ho,hu,Conc.scase],hb,by rw[Ff];omega,lZ.1,lZ.2⟩
   ·rcases List.mem_append.1 dx with h|h
    ·exact RR.flat cs h
    ·rw[List.mem_singleton.1 h]
     intro b qn
     rw[List.mem_singleton.1 qn];exact hcond.2.2
   ·rw[hk]at jT
    simp only[Option.some.injEq,BK.chan.injEq]at jT
    subst jT
    refine⟨eU,_,_,_,jI,by simp[Ff],fun j cs hj=>?_⟩
    rw[List.getElem?_append]at hj
    split at hj
    ·rename_i ea
     obtain⟨b,u,q1,q2,q3⟩:=hR j cs hj
     refine⟨b,u,q1,?_,hr _ _ q3⟩
     rw[Array.getElem?_push,if_neg ad];exact q2
    ·rename_i nR
     have gJ:j=r.rows.length:=by
      have:=(List.getElem?_eq_some_iff.1 hj).1
      simp at this;omega
     subst gJ
     simp at hj
     subst hj
     exact⟨_,_,rfl,by rw[Array.getElem?_push,if_pos Ff.symm],hr _ _ ry⟩
  ·cases hv
 ·cases hv
theorem NU {x:O} {g':Rows} {v:AV} (S:fN P hs D ι g w) (hc:oS P o.op=some (.MC x)) (E:cF P w D ι env a) (hv:dp g (cJ env x)=some (v,g')):
  ∃c cap s r buf z,(execOp a.eval o).run P w=.ok (.comm #[Conc.rcase c z] true (.recv false)) w/\w.heap[c]? =some (.chan cap buf false s r false)/\0<buf.size/\fN P hs D ι g' (w.setChan c cap (buf.extract 1 buf.size) false s (r+1) false)/\Step hs D ι w D ι (w.setChan c cap (buf.extract 1 buf.size) false s (r+1) false)/\cQ P (w.setChan c cap (buf.extract 1 buf.size) false s (r+1) false) D ι v (buf.getD 0 undef):=by
 obtain⟨t,dir,e,i0,z,x',ho,ht,hi,hz,hx⟩:=Jc hc
 have rx:=cX E hx
 unfold dp at hv
 split at hv
 ·rename_i i he
  simp only[Option.bind_eq_some_iff]at hv
  obtain⟨r,hg,hv⟩:=hv
  split at hv
  ·rename_i v' rest ph
   split at hv
   ·rename_i hcond
    simp only[Option.some.injEq,Prod.mk.injEq]at hv
    obtain⟨rfl,rfl⟩:=hv
    obtain⟨B,c,hu,hB,hk,eU,buf,s,q,hb,Ff,hR⟩:=vL S rx he hg
    obtain⟨B',dH,RR,_⟩:=S.row i r hg
    rw[hB]at dH;injection dH with dH;subst dH
    obtain⟨b0,u0,q1,q2,q3⟩:=hR 0 [v'] (by rw[ph];rfl)
    simp only[List.cons.injEq,and_true]at q1
    subst q1
    have jo:0<buf.size:=by rw[Ff,ph];simp
    have Qr:buf.getD 0 undef=u0:=by rw[Array.getD_eq_getD_getElem?,q2];rfl
    have lZ:=S.E6 (ob:=.chan c (buf.extract 1 buf.size) false s (q+1) false) (r':={r with rows:=rest}) hg hcond hB fun hr jI=>⟨RR.sz,fun cs dx=>RR.flat cs (by rw[ph];exact List.mem_cons_of_mem _ dx),fun h0=>(by rw[hk]at h0;cases h0),fun m hm=>(by rw[hk]at hm;cases hm),fun c' jT=>?_⟩
    ·refine⟨B.b,c,s,q,buf,z,?_,hb,jo,lZ.1,lZ.2,?_⟩
     ·have sL:(zeroValue e).run P w=.ok z w:=by simp[zeroValue,typeInfo,hi,hz]
      simp[execOp,ho,hu,Conc.rcase,run_underlying ht,sL]
     ·rw[Qr];exact lZ.2.rep q3
    ·rw[hk]at jT
     simp only[Option.some.injEq,BK.chan.injEq]at jT
     subst jT
     refine⟨eU,_,_,_,jI,by simp[Ff,ph],fun j cs hj=>?_⟩
     obtain⟨b,u,k1,k2,k3⟩:=hR (j+1) cs (by rw[ph];simpa using hj)
     refine⟨b,u,k1,?_,hr _ _ k3⟩
     have ea:=(Array.getElem?_eq_some_iff.1 k2).1
     rw[Array.getElem?_extract,if_pos ad,Nat.add_comm 1 j];exact k2
   ·cases hv
  ·cases hv
 ·cases hv
theorem Dr {ops:Array Oper} {nt site0:Nat} {K:Env->ar->Prop} {Q:Exit->Act->World->Prop}:∀(l:List Oper) (vl:List bw) (j:Nat) (env:Env) (σ:ar) (a:Act) (w:World) (D:Nat->Prop) (ι:Names),
  ops.toList.drop j=l->allM (kX P ops nt site0 false false #[] []) l j=some vl->bG vl K env σ->fN P hs D ι σ.get w->Used ι σ.next (fun _=>False)->cF P w D ι env a->a.tmps.size=nt->
  (∀gG σ' a' w' D' ι',K gG σ'->Step hs D ι w D' ι' w'->St P hs nt D' ι' gG σ' a' w'->a'.defers=a.defers->σ.next<=σ'.next->Q .normal a' w')->tP P ops Q (List.range' j l.length) a w:=by
 intro l
 induction l with
 |nil=>
  intro vl j env σ a w D ι _ h hv S Us E eU hQ
  simp[allM]at h;subst h
  exact Mx (hQ env ⟨σ.get,σ.next+1⟩ a w D ι hv (Step.refl _ _ _ _) ⟨S,Us.next,E,eU⟩ rfl (Nat.le_succ _))
 |cons o l ih=>
  intro vl j env σ a w D ι hl h hv S Us E eU hQ
  simp only[allM,Option.bind_eq_bind,Option.bind_eq_some_iff,Option.pure_def,Option.some.injEq]at h
  obtain⟨vo,qb,qI,qa,rfl⟩:=h
  obtain⟨hc,hd,yI,tW,hg⟩:=np qb
  obtain⟨OH,hv⟩:=hv
  have RV:o.guard=none:=by
   split at hg
   ·assumption
   ·obtain⟨t,_,h⟩:=hg
    rw[OH]at h;cases h
  have RW:ops[j]? =some o:=by
   have h0:=congrArg (fun x=>x[0]?) hl
   rw[<-Array.getElem?_toList]
   simpa[List.getElem?_drop]using h0
  have xo:ops.toList.drop (j+1)=l:=by rw[<-List.drop_drop,hl];rfl
  have go:∀(v:AV) (u:Value) (g2:Rows) (w2:World),bG qI K (upd env vo.dst v) ⟨g2,σ.next⟩->fN P hs D ι g2 w2->Step hs D ι w D ι w2->cQ P w2 D ι v u->tP P ops Q (List.range' (j+1) l.length) (a.put o.dst u) w2:=fun v u g2 w2 hn S2 T hR=>
   ih qI (j+1) (upd env vo.dst v) ⟨g2,σ.next⟩ (a.put o.dst u) w2 D ι xo qa hn S2 Us (by rw[hd];exact lp (mB E T) hR tW eU) (by rw[j4];exact eU) fun gG σ2 a' w3 D3 ι3 hk T2 K5 AO oJ=>hQ gG σ2 a' w3 D3 ι3 hk (T.trans T2) K5 (AO.trans (put_defers _ _ _)) oJ
  rw[show List.range' j (o::l).length=j::List.range' (j+1) l.length from rfl]
  split at hv
  ·rename_i x y dX
   split at hv
   ·rename_i g2 IX
    rw[dX]at hc
    obtain⟨c,cap,s,r,buf,u,gC,hb,fq,S2,T⟩:=NV S hc E IX
    exact JC RW RV gC hb fq (go _ _ _ _ hv S2 T cQ.undef)
   ·exact hv.elim
  ·rename_i x dX
   split at hv
   ·rename_i v g2 IX
    rw[dX]at hc
    obtain⟨c,cap,s,r,buf,z,gC,hb,GA,S2,T,hR⟩:=NU S hc E IX
    exact JB RW RV gC hb GA (go _ _ _ _ hv S2 T hR)
   ·exact hv.elim
  ·split at hv
   ·rename_i v hq
    obtain⟨u,gC,hR⟩:=uX hc hq S E
    exact He RW RV gC (go _ _ _ _ hv S (Step.refl _ _ _ _) hR)
   ·exact hv.elim
end
end Go.Proofs.YtphenfakmdknlaaGreat.V

namespace Go.Proofs.YtphenfakmdknlaaGreat.V
open Go.RowKit
variable {P:Program} {w w':World} {D D' D2:Nat->Prop} {ι ι' ι2:Names}
section
variable {hs:Nat} {X:fb}
def exO:Ex->Exit
 | .normal=>.normal
 | .exit id=>.exit id
 | .ret=>.ret
theorem St.drew {nt:Nat} {env:Env} {σ:ar} {a:Act} {D:Nat->Prop} {ι:Names} (h:St P hs nt D ι env σ a w):St P hs nt D ι env σ a w.drew/\Step hs D ι w D ι w.drew:=by
 have T:Step hs D ι w D ι w.drew:=Step.stay h.Ia (fun _ _=>rfl) (Nat.le_refl _) rfl rfl rfl (fun _ h=>h) (fun _ h=>.inl h) (fun _ _ h=>h)
 exact⟨⟨h.Ia.stay (fun _ _=>rfl) (Nat.le_refl _) (fun _ h=>h) h.Ia.dead (fun _ h=>.inl h) (fun _ _ h=>h),h.used,mB h.env T,h.size⟩,T⟩
def r6 (P:Program) (hs nt:Nat) (ds:List Deferred) (Q:Ex->Env->ar->Prop) (n0:Nat) (D:Nat->Prop) (ι:Names) (w:World) (Q':Exit->Act->World->Prop):Prop:=
 ∀ex env σ a w' D' ι',Q ex env σ->Step hs D ι w D' ι' w'->St P hs nt D' ι' env σ a w'->a.defers=ds->n0<=σ.next->Q' (exO ex) a w'
theorem r6.later {nt:Nat} {ds:List Deferred} {Q:Ex->Env->ar->Prop} {n0 n1:Nat} {Q':Exit->Act->World->Prop} (h:r6 P hs nt ds Q n0 D ι w Q') (T:Step hs D ι w D' ι' w') (hn:n0<=n1):r6 P hs nt ds Q n1 D' ι' w' Q':=
 fun ex env σ a w2 D2 ι2 hq T2 ee hd hle=>h ex env σ a w2 D2 ι2 hq (T.trans T2) ee hd (Nat.le_trans hn hle)
theorem Aq (hm:P.follows .mixedOrders=true) {md:List (Nat×Nat)} {nt tT:Nat}:∀(c:Code) (vc:VC),jm P md nt tT c=some vc->∀(Q:Ex->Env->ar->Prop) (env:Env) (σ:ar) (a:Act) (w:World) (D:Nat->Prop) (ι:Names) (Q':Exit->Act->World->Prop),
  dJ (Sound P) vc Q env σ->St P hs nt D ι env σ a w->r6 P hs nt a.defers Q σ.next D ι w Q'->zY P c Q' a w:=by
 intro c
 induction c with
 |skip=>
  intro vc h Q env σ a w D ι Q' hv ee hQ
  simp[jm]at h;subst h
  exact qx <| wp_skip (hQ .normal env σ a w D ι hv (Step.refl _ _ _ _) ee rfl (Nat.le_refl _))
 |exit id=>
  intro vc h Q env σ a w D ι Q' hv ee hQ
  simp[jm]at h;subst h
  exact qx <| wp_exit (hQ (.exit id) env σ a w D ι hv (Step.refl _ _ _ _) ee rfl (Nat.le_refl _))
 |ret=>
  intro vc h Q env σ a w D ι Q' hv ee hQ
  simp[jm]at h;subst h
  exact qx <| wp_ret (hQ .ret env σ a w D ι hv (Step.refl _ _ _ _) ee rfl (Nat.le_refl _))
 |seq x y ihx ihy=>
  intro vc h Q env σ a w D ι Q' hv ee hQ
  simp only[jm,Option.bind_eq_bind,Option.bind_eq_some_iff,Option.pure_def,Option.some.injEq]at h
  obtain⟨vx,hx,vy,hy,rfl⟩:=h
  refine Jw (ihx vx hx _ env σ a w D ι _ hv ee fun ex jE σ1 a1 w1 D1 ι1 hq T kn hd hle=>?_)
  cases ex with
  |normal=>exact ihy vy hy Q jE σ1 a1 w1 D1 ι1 Q' hq kn (by rw[hd];exact hQ.later T hle)
  |exit id=>exact hQ (.exit id) jE σ1 a1 w1 D1 ι1 hq T kn hd hle
  |ret=>exact hQ .ret jE σ1 a1 w1 D1 ι1 hq T kn hd hle
 |cond c x y ihx ihy=>
  intro vc h Q env σ a w D ι Q' hv ee hQ
  simp only[jm,Option.bind_eq_bind,Option.bind_eq_some_iff,Option.pure_def,Option.some.injEq]at h
  obtain⟨c',hc,vx,hx,vy,hy,rfl⟩:=h
  unfold dJ at hv
  have hr:=cX ee.env hc
  split at hv
  ·rename_i b hb
   rw[hb]at hr
   refine G8 (eG hr) ?_
   cases b with
   |true=>exact ihx vx hx Q env σ a w D ι Q' hv ee hQ
   |false=>exact ihy vy hy Q env σ a w D ι Q' hv ee hQ
  ·exact hv.elim
 |block id c ih=>
  intro vc h Q env σ a w D ι Q' hv ee hQ
  simp only[jm,Option.map_eq_some_iff]at h
  obtain⟨vx,hx,rfl⟩:=h
  refine Ey (ih vx hx _ env σ a w D ι _ hv ee fun ex jE σ1 a1 w1 D1 ι1 hq T kn hd hle=>?_)
  cases ex with
  |normal=>exact hQ .normal jE σ1 a1 w1 D1 ι1 hq T kn hd hle
  |ret=>exact hQ .ret jE σ1 a1 w1 D1 ι1 hq T kn hd hle
  |exit jW=>
   simp only[aQ]at hq
   simp only[exO,Exit.inBlock]
   by_cases hid:jW=id
   ·rw[if_pos hid]at hq ⊢;exact hQ .normal jE σ1 a1 w1 D1 ι1 hq T kn hd hle
   ·rw[if_neg hid]at hq ⊢;exact hQ (.exit jW) jE σ1 a1 w1 D1 ι1 hq T kn hd hle
 |loop c ih=>
  intro vc h Q env σ a w D ι Q' hv ee hQ
  simp only[jm,Option.map_eq_some_iff]at h
  obtain⟨vx,hx,rfl⟩:=h
  obtain⟨n,hv⟩:=hv
  refine G9 n ?_
  have key:∀n env σ a w D ι,CK (dJ (Sound P) vx) Q n env σ->St P hs nt D ι env σ a w->r6 P hs nt a.defers Q σ.next D ι w Q'->rU P c Q' n a w:=by
   intro n
   induction n with
   |zero=>intro env σ a w D ι h;exact h.elim
   |succ n ihn=>
    intro env σ a w D ι h ee hQ
    refine ih vx hx _ env σ a w D ι _ h ee fun ex jE σ1 a1 w1 D1 ι1 hq T kn hd hle=>?_
    cases ex with
    |normal=>exact ihn jE σ1 a1 w1 D1 ι1 hq kn (by rw[hd];exact hQ.later T hle)
    |exit id=>exact hQ (.exit id) jE σ1 a1 w1 D1 ι1 hq T kn hd hle
    |ret=>exact hQ .ret jE σ1 a1 w1 D1 ι1 hq T kn hd hle
  exact key n env σ a w D ι hv ee hQ
 |region id ops draw=>
  intro vc h Q env σ a w D ι Q' hv ee hQ
  simp only[jm,NT]at h
  split at h
  ·rename_i hmode
   have Ro:draw=true:=by
    simp only[Bool.and_eq_true]at hmode;exact hmode.1
   subst Ro
   split at h
   ·rename_i vl dy
    obtain⟨pk,T0⟩:=ee.drew
    have AK:=E5 (X:=Sound P) oj ops.size _ vc env σ h (fun k i h=>by
     exfalso
     rcases Nat.lt_or_ge k ops.size with hk|hk
     ·simp[hk]at h
     ·simp[Nat.not_lt.2 hk]at h) hv
    refine qx (wp_region_any hm ?_)
    exact BT dy ops.size _ env σ a w.drew D ι (fun _=>False) AK pk.Ia pk.used (fun _ h=>h.elim) pk.env pk.size fun jE σ1 a1 w1 D1 ι1 hk T kn hd hle=>hQ .normal jE σ1 a1 w1 D1 ι1 hk (T0.trans T) kn hd hle
   ·cases h
  split at h
  ·rename_i hcom
   have Ro:draw=false:=by
    simp only[Bool.and_eq_true,Bool.not_eq_true']at hcom;exact hcom.1
   subst Ro
   simp only[Option.map_eq_some_iff]at h
   obtain⟨vl,qa,rfl⟩:=h
   have dy:allM (kX P ops nt ((tT*1000+id)*1000) false false #[] []) ops.toList 0=some vl:=by
    unfold o7 at qa
    simp only[Bool.false_eq_true,if_false,Bool.not_false,Bool.true_or,if_true]at qa
    split at qa
    ·rename_i qI h;simp at qa;subst qa;exact h
    ·cases qa
   refine Br ?_
   have:=Dr (Q:=Q') ops.toList vl 0 env σ a w D ι rfl dy hv ee.Ia ee.used ee.env ee.size fun jE σ1 a1 w1 D1 ι1 hk T kn hd hle=>hQ .normal jE σ1 a1 w1 D1 ι1 hk T kn hd hle
   rwa [<-List.range_eq_range',Array.length_toList]at this
  generalize (sV md id==1)=mk at h
  simp only[Option.map_eq_some_iff]at h
  obtain⟨vl,qa,rfl⟩:=h
  cases draw with
  |false=>
   have dy:∃qI,allM (kX P ops nt ((tT*1000+id)*1000) false mk #[] []) ops.toList 0=some qI/\vl=qI:=by
    unfold o7 at qa
    simp only[Bool.false_eq_true,if_false,Bool.not_false,Bool.true_or,if_true]at qa
    split at qa
    ·rename_i qI h;simp at qa;exact⟨qI,h,qa.symm⟩
    ·cases qa
   obtain⟨qI,dy,rfl⟩:=dy
   refine qx (wp_region_list ?_)
   exact EC ops.toList vl 0 env σ a w D ι (fun _=>False) dy hv ee.Ia ee.used (fun _ h=>h.elim) ee.env ee.size fun jE σ1 a1 w1 D1 ι1 hk T kn hd hle=>hQ .normal jE σ1 a1 w1 D1 ι1 hk T kn hd hle
  |true=>
   have dy:∃hidden qI,allM (kX P ops nt ((tT*1000+id)*1000) true mk (iN ops) hidden) ops.toList 0=some qI/\vl=qI/\mA ops qI (iN ops)=true:=by
    unfold o7 at qa
    simp only[if_true,Bool.not_true,Bool.false_or]at qa
    split at qa
    ·rename_i qI h
     split at qa
     ·rename_i rE;simp at qa;exact⟨_,qI,h,qa.symm,rE⟩
     ·cases qa
    ·cases qa
   obtain⟨hidden,qI,dy,rfl,rE⟩:=dy
   obtain⟨pk,T0⟩:=ee.drew
   obtain⟨hlen,_⟩:=ml dy
   have jU:vl.length=ops.size:=by rw[hlen];simp
   have AK:=tC (X:=Sound P) (K:=Q .normal) (n:=σ.next) rE jU vl 0 (Array.replicate ops.size false) env σ.get (by simp) (by simp) (fun i hi=>by simp[hi]) (by simp[jU]) (fun k i h=>by
    exfalso
    rcases Nat.lt_or_ge k ops.size with hk|hk
    ·simp[hk]at h
    ·simp[Nat.not_lt.2 hk]at h) hv
   refine qx (wp_region_any hm ?_)
   rw[jU]at AK
   exact um dy ops.size _ env σ.get a w.drew D ι (fun _=>False) AK pk.Ia pk.used (fun _ h=>h.elim) pk.env pk.size fun jE g1 a1 w1 D1 ι1 U1 hk T S1 QK E1 uO hd=>hQ .normal jE ⟨g1,σ.next+1⟩ a1 w1 D1 ι1 hk (T0.trans T) ⟨S1,QK.next,E1,uO⟩ hd (Nat.le_succ _)
 |_=>
  intro vc h
  simp[jm]at h
def Hm (tmps:Array Value):ResultVar->Sem Value
 | .tmp t=>pure (tmps.getD t undef)
 | .cell a t=>do loadVar t (<-asAddr (tmps.getD a undef))
theorem BB (fn:Func) (tmps:Array Value):results fn tmps=(do
  let vs <-fn.results.mapM (Hm tmps)
  pure (if h:vs.size=1 then vs[0]else .tuple vs)):=by
 unfold results
 congr 2
theorem rl {nt:Nat} {env:Env} {σ:ar} {a:Act} {D:Nat->Prop} {ι:Names} (ee:St P hs nt D ι env σ a w):∀(rs:List ResultVar) (vr:List nO) (vs:List AV),rs.mapM (Dl P)=some vr->fe env σ.get vr=some vs->
  ∃us:List Value,(rs.mapM (Hm a.tmps)).run P w=.ok us w/\us.length=vs.length/\∀(j:Nat) (v:AV),vs[j]? =some v->∃u,us[j]? =some u/\cQ P w D ι v u
 |[],vr,vs,h,hv=>by
  simp at h;subst h
  simp[fe]at hv;subst hv
  exact⟨[],by simp,rfl,fun j v h=>by simp at h⟩
 |r::rs,vr,vs,h,hv=>by
  simp only[List.mapM_cons,Option.bind_eq_bind,Option.bind_eq_some_iff]at h
  obtain⟨x,hx,vr',hr,h⟩:=h
  simp at h;subst h
  simp only[fe,Option.bind_eq_some_iff,Option.map_eq_some_iff]at hv
  obtain⟨v,DV,SC,Pc,rfl⟩:=hv
  obtain⟨us,h1,h2,h3⟩:=rl ee rs vr' SC hr Pc
  have one:∃u,(Hm a.tmps r).run P w=.ok u w/\cQ P w D ι v u:=by
   cases r with
   |tmp t=>
    simp[Dl]at hx;subst hx
    simp[iq]at DV;subst DV
    exact⟨_,rfl,ee.env t⟩
   |cell b t=>
    simp only[Dl,Option.bind_eq_bind,Option.bind_eq_some_iff,Option.pure_def,Option.some.injEq]at hx
    obtain⟨ag,rP,n,hn,rfl⟩:=hx
    simp only[iq]at DV
    have km:=ee.env b
    unfold ld at DV
    split at DV
    ·rename_i jW i' oo hb
     rw[hb]at km
     obtain⟨B,he,hB,hk⟩:=iJ km
     simp only[Option.bind_eq_some_iff]at DV
     obtain⟨cs,dx,hp⟩:=DV
     obtain⟨B',r0,OI,dH,R,hi,fl,f,hf⟩:=Hp (S:=ee.Ia) dx (fun B2 h2=>by rw[hB]at h2;injection h2 with h2;subst h2;exact hk)
     rw[hB]at dH;injection dH with dH;subst dH
     obtain⟨u,k1,k2⟩:=jK (w:=w) (b:=B.b) (oo:=i'*B.sz+oo) (f:=fun j=>f (oo+j)) rP hn hp (fun a ha=>fl a (List.mem_of_mem_drop ha)) (fun j hj=>by
      rw[Nat.add_assoc];exact(hf _ (by simp at hj;omega)).1) (fun j a ha=>by
      simp at ha;exact(hf _ ((List.getElem?_eq_some_iff.1 ha).1)).2 _ ha)
     exact⟨u,by simp only[Hm,he,asAddr,Sem.run_bind,Sem.run_pure,Result.andThen_ok,k1],k2⟩
    ·rename_i cs hb
     rw[hb]at km
     obtain⟨b',oo,vs2,he,q1,q2,q3,q4⟩:=j8 km
     obtain⟨u,k1,k2⟩:=jK (w:=w) (b:=b') (oo:=oo) (f:=vs2) rP hn DV q2 q3 (fun j a ha=>.ez _ _ (q4 j a ha))
     exact⟨u,by simp only[Hm,he,asAddr,Sem.run_bind,Sem.run_pure,Result.andThen_ok,k1],k2⟩
    ·simp at DV
  obtain⟨u,hu,tY⟩:=one
  refine⟨u::us,?_,by simp[h2],fun j v' hj=>?_⟩
  ·rw[List.mapM_cons]
   simp only[Sem.run_bind,hu,h1,Result.andThen_ok,Sem.run_pure]
  ·cases j with
   |zero=>simp at hj;subst hj;exact⟨u,rfl,tY⟩
   |succ j=>simp at hj ⊢;exact h3 j v' hj
theorem Af {f:Nat} {fn:Func} {c:Code} {args:List AV} {σ:ar} {K:AV->ar->Prop} {vr:List nO} (Rt:P.funcs[f]? =some fn) (hc:fn.body=some c) (hr:fn.results.toList.mapM (Dl P)=some vr) (ha:fn.params.size+fn.nfree=args.length) (hle:fn.params.size+fn.nfree<=fn.ntmps)
  (h:∀(hs:Nat) (w:World) (D:Nat->Prop) (ι:Names) (a:Act) (Q':Exit->Act->World->Prop),St P hs fn.ntmps D ι (bD args) σ a w->r6 P hs fn.ntmps a.defers (kr vr K) σ.next D ι w Q'->zY P c Q' a w):Sound P f args σ K:=by
 intro hs D ι w vs S Us A
 have eU:vs.size=args.length:=A.1
 refine vK Rt hc ?_
 refine h hs w D ι _ _ ⟨S,Us,fun t=>?_,by simp;omega⟩ fun ex jE σ1 a1 w1 D1 ι1 hq T kn hd hle=>?_
 ·simp only[bD]
  by_cases ea:t<args.length
  ·obtain⟨u,hu,tY⟩:=A.2 t args[t] (List.getElem?_eq_getElem ea)
   have e1:args.getD t .undef=args[t]:=by simp[List.getD_eq_getElem?_getD,ea]
   have e2:(vs++Array.replicate (fn.ntmps-vs.size) undef).getD t undef=u:=by
    simp only[Array.getD_eq_getD_getElem?]
    rw[Array.getElem?_append_left ad,hu];rfl
   rw[e1,e2];exact tY
  ·have e1:args.getD t .undef=.undef:=by simp[List.getD_eq_getElem?_getD,Nat.le_of_not_lt ea]
   have e2:(vs++Array.replicate (fn.ntmps-vs.size) undef).getD t undef=undef:=by
    simp only[Array.getD_eq_getD_getElem?]
    rw[Array.getElem?_append_right ad,Array.getElem?_replicate]
    split<;>rfl
   rw[e1,e2];exact cQ.undef
 ·have fin:(∃vs,fe jE σ1.get vr=some vs/\K (eH vs) σ1)->a1.defers=[]/\∃v,(results fn a1.tmps).run P w1=.ok v w1/\∃r g' n' D' ι' u,Ending.returned v=.returned u/\K r ⟨g',n'⟩/\Step hs D ι w D' ι' w1/\fN P hs D' ι' g' w1/\Used ι' n' (fun _=>False)/\σ.next<=n'/\cQ P w1 D' ι' r u:=by
   rintro⟨avs,Pc,hK⟩
   obtain⟨us,h1,h2,h3⟩:=rl kn fn.results.toList vr avs hr Pc
   have Gx:(results fn a1.tmps).run P w1=.ok (if h:us.toArray.size=1 then us.toArray[0]else .tuple us.toArray) w1:=by
    rw[BB,Array.mapM_eq_mapM_toList]
    simp only[Sem.run_bind,Sem.run_map,h1,Result.andThen_ok,Sem.run_pure]
   refine⟨hd,_,Gx,eH avs,σ1.get,σ1.next,D1,ι1,_,rfl,hK,T,kn.Ia,kn.used,hle,?_⟩
   unfold eH
   split
   ·rename_i v
    have hl:us.length=1:=h2
    obtain⟨u,hu,tY⟩:=h3 0 v rfl
    rw[dif_pos (by simpa using hl)]
    have:us.toArray[0]'(by simp[hl])=u:=by
     have:=(List.getElem?_eq_some_iff.1 hu).2
     simpa using this
    rw[this];exact tY
   ·rename_i gQ
    rw[dif_neg (by
     simp only[List.size_toArray,h2]
     intro h
     obtain⟨v,hv⟩:=List.length_eq_one_iff.1 h
     exact gQ v hv)]
    exact .im _ _ (fun j=>us.getD j undef) (by simp[h2]) (fun j hj=>by
     have:j<us.length:=by rw[h2];exact hj
     simp[this]) (fun j v hj=>by
     obtain⟨u,hu,tY⟩:=h3 j v hj
     simpa[List.getD_eq_getElem?_getD,hu]using tY)
  cases ex with
  |normal=>exact fin hq
  |ret=>exact fin hq
  |exit id=>exact hq.elim
theorem F9 (hm:P.follows .mixedOrders=true) {f:Nat} {md:List (Nat×Nat)} {vf:xi} {args:List AV} {σ:ar} {K:AV->ar->Prop} (hf:tR P f md=some vf) (ha:vf.uS=args.length) (h:dJ (Sound P) vf.body (kr vf.res K) (bD args) σ):Sound P f args σ K:=by
 unfold tR at hf
 split at hf
 ·rename_i fn Rt
  split at hf
  ·rename_i c hc
   simp only[Option.bind_eq_bind,Option.bind_eq_some_iff]at hf
   obtain⟨vb,hb,vr,hr,hf⟩:=hf
   split at hf
   ·rename_i hle
    simp only[Option.pure_def,Option.some.injEq]at hf
    subst hf
    simp only at ha h
    exact Af Rt hc hr ha hle fun hs w D ι a Q' ee hQ=>Aq hm c vb hb (kr vr K) (bD args) σ a w D ι Q' h ee hQ
   ·simp at hf
  ·simp at hf
 ·simp at hf
def KQ (P:Program) (X:fb):fb:=fun f args σ K=>(∃md vf,tR P f md=some vf/\vf.uS=args.length/\((∀a∈args,ep a)->dJ X vf.body (kr vf.res K) (bD args) σ))∨Sound P f args σ K
def Call (P:Program):fb:=fun f args σ K=>∀X:fb,nX X->(∀f args σ K,KQ P X f args σ K->X f args σ K)->X f args σ K
theorem gw (hm:P.follows .mixedOrders=true) {f:Nat} {args:List AV} {σ:ar} {K:AV->ar->Prop} (h:Call P f args σ K):Sound P f args σ K:=
 h (Sound P) oj fun f args σ K hs=>by
  rcases hs with⟨md,vf,h1,h2,h3⟩|h
  ·intro hs D ι w vs S U A
   exact F9 hm h1 h2 (h3 (mM fun j a hj=>by obtain⟨u,_,hr⟩:=A.2 j a hj;exact hr.GQ)) hs D ι w vs S U A
  ·exact h
end
end Go.Proofs.YtphenfakmdknlaaGreat.V

namespace Go.Proofs.YtphenfakmdknlaaGreat.V
open Go.RowKit
variable {P:Program} {X Y:fb}
theorem Fw (h:∀f args σ K,X f args σ K->Y f args σ K) {f:Nat} {args:List AV} {σ:ar} {K:AV->Prop} (hp:e8 X f args σ K):e8 Y f args σ K:=by
 rcases hp with hp|⟨a,h1,h2⟩
 ·exact .inl (h _ _ _ _ hp)
 ·exact .inr ⟨a,h1,h _ _ _ _ h2⟩
theorem Ic (h:∀f args σ K,X f args σ K->Y f args σ K) {f:Nat} {args:List AV} {σ:ar} {sz:Nat} {rows:List (List AV)} (hp:CM X f args σ sz rows):CM Y f args σ sz rows:=by
 obtain⟨h1,a,h2,h3⟩:=hp
 exact⟨h1,a,h2,h _ _ _ _ h3⟩
theorem oy (h:∀f args σ K,X f args σ K->Y f args σ K) (hK:∀f args σ K K',(∀r σ',K r σ'->K' r σ')->Y f args σ K->Y f args σ K') {draw:Bool} {hid:List Nat} {site:Nat} {f:Nat} {args:List AV} {σ:ar} {n n':AV->ar->Prop} (hn:∀v σ',n v σ'->n' v σ') (hp:bQ X draw hid site f args σ n):bQ Y draw hid site f args σ n':=by
 rcases hp with⟨r,h1,h2⟩|⟨h1,h2⟩|⟨h1,sz,rows,h2,h3⟩
 ·exact .inl ⟨r,Fw h h1,hn _ _ h2⟩
 ·exact .inr (.inl ⟨h1,hK _ _ _ _ _ hn (h _ _ _ _ h2)⟩)
 ·exact .inr (.inr ⟨h1,sz,rows,Ic h h2,hn _ _ h3⟩)
theorem pZ (h:∀f args σ K,X f args σ K->Y f args σ K) (hK:∀f args σ K K',(∀r σ',K r σ'->K' r σ')->Y f args σ K->Y f args σ K') {draw:Bool} {o:bw} {env:Env} {σ:ar} {n n':AV->ar->Prop} (hn:∀v σ',n v σ'->n' v σ') (hp:eB X draw o env σ n):eB Y draw o env σ n':=by
 unfold eB at hp ⊢
 split at hp
 ·exact oy h hK hn hp
 ·split at hp
  ·exact oy h hK hn hp
  ·exact oy h hK hn hp
  ·exact hp.elim
 ·split at hp
  ·exact hn _ _ hp
  ·exact hp.elim
 ·split at hp
  ·exact hn _ _ hp
  ·exact hp.elim
 ·split at hp
  ·exact hn _ _ hp
  ·exact hp.elim
 ·split at hp
  ·exact hn _ _ hp
  ·exact hp.elim
 ·split at hp
  ·exact hn _ _ hp
  ·exact hp.elim
 ·split at hp
  ·exact hn _ _ hp
  ·exact hn _ _ hp
  ·exact hp.elim
theorem lJ (h:∀f args σ K,X f args σ K->Y f args σ K) (hK:∀f args σ K K',(∀r σ',K r σ'->K' r σ')->Y f args σ K->Y f args σ K') {draw:Bool} {Q Q':Env->ar->Prop} (hQ:∀e s,Q e s->Q' e s):∀(l:List bw) (env:Env) (σ:ar),wpOps X draw l Q env σ->wpOps Y draw l Q' env σ
 |[],env,σ,hp=>hQ _ _ hp
 |o::r,env,σ,hp=>by
  unfold wpOps at hp ⊢
  split at hp
  ·rename_i hw;rw[if_pos hw];exact pZ h hK (fun v σ'=>lJ h hK hQ r _ _) hp
  ·rename_i hw;rw[if_neg hw];exact lJ h hK hQ r _ _ hp
theorem lI {Q Q':Env->ar->Prop} (hQ:∀e s,Q e s->Q' e s):∀(l:List bw) (env:Env) (σ:ar),bG l Q env σ->bG l Q' env σ
 |[],env,σ,hp=>hQ _ _ hp
 |o::r,env,σ,hp=>by
  unfold bG at hp ⊢
  refine⟨hp.1,?_⟩
  replace hp:=hp.2
  split at hp
  ·split at hp
   ·exact lI hQ r _ _ hp
   ·exact hp.elim
  ·split at hp
   ·exact lI hQ r _ _ hp
   ·exact hp.elim
  ·split at hp
   ·exact lI hQ r _ _ hp
   ·exact hp.elim
theorem kf (h:∀f args σ K,X f args σ K->Y f args σ K) (hK:∀f args σ K K',(∀r σ',K r σ'->K' r σ')->Y f args σ K->Y f args σ K'):∀(c:VC) (Q Q':Ex->Env->ar->Prop) (env:Env) (σ:ar),(∀x e s,Q x e s->Q' x e s)->dJ X c Q env σ->dJ Y c Q' env σ:=by
 intro c
 induction c with
 |skip=>intro Q Q' env σ hQ hp;exact hQ _ _ _ hp
 |exit id=>intro Q Q' env σ hQ hp;exact hQ _ _ _ hp
 |ret=>intro Q Q' env σ hQ hp;exact hQ _ _ _ hp
 |one o c ih=>
  intro Q Q' env σ hQ hp
  unfold dJ at hp ⊢
  split at hp
  ·rename_i hw;rw[if_pos hw];exact pZ h hK (fun v σ'=>ih Q Q' _ _ hQ) hp
  ·rename_i hw;rw[if_neg hw];exact ih Q Q' _ _ hQ hp
 |both a b iha ihb=>intro Q Q' env σ hQ hp;exact⟨iha Q Q' env σ hQ hp.1,ihb Q Q' env σ hQ hp.2⟩
 |loc t s y c ih=>intro Q Q' env σ hQ hp;exact⟨hp.1,ih Q Q' env σ hQ hp.2⟩
 |Lj ops=>intro Q Q' env σ hQ hp;exact lI (hQ .normal) ops env σ hp
 |eD draw ops=>intro Q Q' env σ hQ hp;exact lJ h hK (hQ .normal) ops env σ hp
 |seq a b iha ihb=>
  intro Q Q' env σ hQ hp
  refine iha _ _ env σ (fun x e s hx=>?_) hp
  cases x with
  |normal=>exact ihb Q Q' e s hQ hx
  |exit id=>exact hQ _ _ _ hx
  |ret=>exact hQ _ _ _ hx
 |cond c a b iha ihb=>
  intro Q Q' env σ hQ hp
  unfold dJ at hp ⊢
  split at hp
  ·rename_i t ht
   cases t with
   |true=>exact iha Q Q' env σ hQ hp
   |false=>exact ihb Q Q' env σ hQ hp
  ·exact hp.elim
 |block id a iha=>
  intro Q Q' env σ hQ hp
  refine iha _ _ env σ (fun x e s hx=>?_) hp
  cases x with
  |normal=>exact hQ _ _ _ hx
  |ret=>exact hQ _ _ _ hx
  |exit jW=>
   unfold aQ at hx ⊢
   dsimp only at hx ⊢
   split at hx
   ·rename_i hid;rw[if_pos hid];exact hQ _ _ _ hx
   ·rename_i hid;rw[if_neg hid];exact hQ _ _ _ hx
 |loop a iha=>
  intro Q Q' env σ hQ hp
  obtain⟨n,hp⟩:=hp
  refine⟨n,?_⟩
  induction n generalizing env σ with
  |zero=>exact hp
  |succ n ihn=>
   refine iha _ _ env σ (fun x e s hx=>?_) hp
   cases x with
   |normal=>exact ihn e s hx
   |exit id=>exact hQ _ _ _ hx
   |ret=>exact hQ _ _ _ hx
theorem bd:nX (Call P):=fun _ _ _ _ _ hK h X hX hc=>hX _ _ _ _ _ hK (h X hX hc)
theorem uj {f:Nat} {args:List AV} {σ:ar} {K:AV->ar->Prop} (h:KQ P (Call P) f args σ K):Call P f args σ K:=by
 intro X hX hc
 refine hc _ _ _ _ ?_
 rcases h with⟨md,vf,h1,h2,h3⟩|h
 ·exact .inl ⟨md,vf,h1,h2,fun hl=>kf (fun f args σ K h=>h X hX hc) hX _ _ _ _ _ (fun _ _ _ h=>h) (h3 hl)⟩
 ·exact .inr h
theorem r3 {f:Nat} {md:List (Nat×Nat)} {args:List AV} {σ:ar} {K:AV->ar->Prop} {vf:xi} (hf:tR P f md=some vf) (ha:vf.uS=args.length) (h:(∀a∈args,ep a)->dJ (Call P) vf.body (kr vf.res K) (bD args) σ):Call P f args σ K:=
 uj (.inl ⟨md,vf,hf,ha,h⟩)
theorem kR {f:Nat} {args:List AV} {σ:ar} {K:AV->ar->Prop} {vf:xi} (hf:lN P f=some vf) (ha:vf.uS=args.length) (h:(∀a∈args,ep a)->dJ (Call P) vf.body (kr vf.res K) (bD args) σ):Call P f args σ K:=
 r3 hf ha h
theorem gr {f:Nat} {args:List AV} {σ:ar} {K:AV->ar->Prop} (h:Sound P f args σ K):Call P f args σ K:=uj (.inr h)
def ki (P:Program) (f:Nat) (args:List AV) (r:AV):Prop:=∀σ,PC (Call P) f args σ (fun r'=>r'=r)
theorem ki.body {f:Nat} {args:List AV} {r:AV} {nt na:Nat} {body:VC} {res:List nO} (hf:lN P f=some ⟨nt,na,body,res⟩) (ha:na=args.length) (h:(∀a∈args,ep a)->∀σ:ar,dJ (Call P) body (kr res fun r0 σ'=>∃r',fz σ'.get 6 r0=some r'/\r'=r) (bD args) ⟨V.ro σ.get,σ.next⟩):ki P f args r:=fun σ=>kR hf ha fun hl=>h hl σ
variable {Q:Ex->Env->ar->Prop} {K:Env->ar->Prop} {env:Env} {σ:ar}
theorem C5 {a b:VC} (h:∀N:Env->ar->Prop,(∀e s,dJ X b Q e s->N e s)->dJ X a (cS N Q) env σ):dJ X (.seq a b) Q env σ:=h _ fun _ _ h=>h
theorem xg (h:Q .normal env σ):dJ X .skip Q env σ:=h
theorem xe {id:Nat} (h:Q (.exit id) env σ):dJ X (.exit id) Q env σ:=h
theorem C4 (h:Q .ret env σ):dJ X .ret Q env σ:=h
theorem rW {id:Nat} {c:VC} (h:dJ X c (aQ id Q) env σ):dJ X (.block id c) Q env σ:=h
theorem C2 {o:bw} {c:VC} (h:∀N:AV->ar->Prop,(∀v s,dJ X c Q (upd env o.dst v) s->N v s)->if ax o.guard env then eB X false o env σ N else N .undef σ):dJ X (.one o c) Q env σ:=by
 have:=h (fun v s=>dJ X c Q (upd env o.dst v) s) fun _ _ h=>h
 unfold dJ
 split
 ·rename_i hw;rw[if_pos hw]at this;exact this
 ·rename_i hw;rw[if_neg hw]at this;exact this
def du (s n:Nat):AV->Prop
 | .own id 0 _=>id=⟨s,n⟩
 |_=>False
def dw (n:Nat):AV->Prop
 | .own id _ _=>¬id.bR=n
 |_=>True
theorem xf {t s:Nat} {y:O} {c:VC} (h1:du s σ.next (env t)) (h2:dw σ.next (cJ env y)) (h:dJ X c Q env σ):dJ X (.loc t s y c) Q env σ:=by
 refine⟨⟨?_,fun id o l he=>?_⟩,h⟩
 ·revert h1
  unfold du
  split
  ·rename_i id l he;rintro rfl;exact⟨l,he⟩
  ·exact fun h=>h.elim
 ·rw[he]at h2;exact h2
theorem eE {a b:VC} (ha:dJ X a Q env σ) (hb:dJ X b Q env σ):dJ X (.both a b) Q env σ:=⟨ha,hb⟩
theorem C3 {draw:Bool} {ops:List bw} (h:∀N:Env->ar->Prop,(∀e s,Q .normal e s->N e s)->wpOps X draw ops N env σ):dJ X (.eD draw ops) Q env σ:=h _ fun _ _ h=>h
theorem HP {ops:List bw} (h:bG ops (Q .normal) env σ):dJ X (.Lj ops) Q env σ:=h
theorem C1 {draw:Bool} (h:K env ⟨σ.get,σ.next+1⟩):wpOps X draw [] K env σ:=h
theorem MU {draw:Bool} {o:bw} {r:List bw} (h:∀N:AV->ar->Prop,(∀v s,wpOps X draw r K (upd env o.dst v) s->N v s)->if ax o.guard env then eB X draw o env σ N else N .undef σ):wpOps X draw (o::r) K env σ:=by
 have:=h (fun v s=>wpOps X draw r K (upd env o.dst v) s) fun _ _ h=>h
 unfold wpOps
 split
 ·rename_i hw;rw[if_pos hw]at this;exact this
 ·rename_i hw;rw[if_neg hw]at this;exact this
theorem HQ {c:O} {x y:VC} {b:Bool} (hc:cJ env c=.bool b) (ht:b=true->dJ X x Q env σ) (hf:b=false->dJ X y Q env σ):dJ X (.cond c x y) Q env σ:=by
 unfold dJ
 simp only[hc]
 cases b with
 |true=>exact ht rfl
 |false=>exact hf rfl
inductive l9:AV->Prop->Prop->Prop
 |t {A B:Prop}:A->l9 (.bool true) A B
 |f {A B:Prop}:B->l9 (.bool false) A B
theorem rX {c:O} {x y:VC} {v:AV} (hv:cJ env c=v) (h:l9 v (dJ X x Q env σ) (dJ X y Q env σ)):dJ X (.cond c x y) Q env σ:=by
 cases h with
 |t h=>exact HQ hv (fun _=>h) (fun e=>by cases e)
 |f h=>exact HQ hv (fun e=>by cases e) (fun _=>h)
theorem MT {c:VC} (I:Nat->Env->ar->Prop) (n:Nat) (h0:I n env σ) (step:∀n env σ,I n env σ->dJ X c (fun x e s=>match x with| .normal=>∃m,m<n/\I m e s|x=>Q x e s) env σ)
  (hX:∀(c:VC) (Q Q':Ex->Env->ar->Prop) env σ,(∀x e s,Q x e s->Q' x e s)->dJ X c Q env σ->dJ X c Q' env σ):dJ X (.loop c) Q env σ:=by
 have key:∀N n env σ,n<N->I n env σ->CK (dJ X c) Q N env σ:=by
  intro N
  induction N with
  |zero=>intro n env σ h;exact absurd h (Nat.not_lt_zero _)
  |succ N ih=>
   intro n env σ hn hI
   refine hX c _ _ env σ (fun x e s hx=>?_) (step n env σ hI)
   cases x with
   |normal=>obtain⟨m,hm,hI'⟩:=hx;exact ih m e s ad hI'
   |exit id=>exact hx
   |ret=>exact hx
 exact⟨n+1,key _ n env σ (Nat.lt_succ_self _) h0⟩
theorem JX {c:VC} (I:Nat->Env->ar->Prop) (n:Nat) (h0:I n env σ) (step:∀n env σ,I n env σ->dJ (Call P) c (fun x e s=>match x with| .normal=>∃m,m<n/\I m e s|x=>Q x e s) env σ):dJ (Call P) (.loop c) Q env σ:=
 MT I n h0 step fun c Q Q' env σ hQ h=>kf (fun _ _ _ _ h=>h) bd c Q Q' env σ hQ h
def B6:VC->List Nat
 | .eD _ ops=>ops.filterMap (·.dst)
 | .seq a b=>B6 a++B6 b
 | .cond _ a b=>B6 a++B6 b
 | .block _ a=>B6 a
 | .loop a=>B6 a
 | .one o c=>o.dst.toList++B6 c
 | .both a b=>B6 a++B6 b
 | .loc _ _ _ c=>B6 c
 | .Lj ops=>ops.filterMap (·.dst)
 |_=>[]
def kB (l:List Nat) (env gG:Env):Prop:=∀t,l.contains t=false->gG t=env t
theorem kB.refl (l:List Nat) (env:Env):kB l env env:=fun _ _=>rfl
theorem kB.upd {l:List Nat} {e e':Env} {d:Option Nat} {v:AV} (h:kB l e e') (hd:∀t,d=some t->t∈l):kB l e (upd e' d v):=fun t ht=>by
 cases d with
 |none=>exact h t ht
 |some d=>
  have:t≠d:=fun hc=>by subst hc;rw[<-Bool.not_eq_true,List.contains_iff_mem]at ht;exact ht (hd _ rfl)
  show(if t=d then v else e' t)=e t
  rw[if_neg this];exact h t ht
theorem nj {draw:Bool} {Q:Env->ar->Prop} {l:List Nat} {e0:Env}:∀(ops:List bw) (env:Env) (σ:ar),(∀t,t∈ops.filterMap (·.dst)->t∈l)->kB l e0 env->wpOps (Call P) draw ops Q env σ->wpOps (Call P) draw ops (fun e s=>Q e s/\kB l e0 e) env σ
 |[],env,σ,_,hk,hp=>⟨hp,hk⟩
 |o::r,env,σ,hl,hk,hp=>by
  have hd:∀t,o.dst=some t->t∈l:=fun t ht=>hl t (List.mem_filterMap.2 ⟨o,by simp,ht⟩)
  have hr:∀t,t∈r.filterMap (·.dst)->t∈l:=fun t ht=>hl t (by
   obtain⟨x,hx,h⟩:=List.mem_filterMap.1 ht
   exact List.mem_filterMap.2 ⟨x,List.mem_cons_of_mem _ hx,h⟩)
  unfold wpOps at hp ⊢
  split at hp
  ·rename_i hw;rw[if_pos hw]
   exact pZ (fun _ _ _ _ h=>h) bd (fun v σ' h=>nj r _ _ hr (hk.upd hd) h) hp
  ·rename_i hw;rw[if_neg hw];exact nj r _ _ hr (hk.upd hd) hp
theorem kI {Q:Env->ar->Prop} {l:List Nat} {e0:Env}:∀(ops:List bw) (env:Env) (σ:ar),(∀t,t∈ops.filterMap (·.dst)->t∈l)->kB l e0 env->bG ops Q env σ->bG ops (fun e s=>Q e s/\kB l e0 e) env σ
 |[],env,σ,_,hk,hp=>⟨hp,hk⟩
 |o::r,env,σ,hl,hk,hp=>by
  have hd:∀t,o.dst=some t->t∈l:=fun t ht=>hl t (List.mem_filterMap.2 ⟨o,by simp,ht⟩)
  have hr:∀t,t∈r.filterMap (·.dst)->t∈l:=fun t ht=>hl t (by
   obtain⟨x,hx,h⟩:=List.mem_filterMap.1 ht
   exact List.mem_filterMap.2 ⟨x,List.mem_cons_of_mem _ hx,h⟩)
  unfold bG at hp ⊢
  refine⟨hp.1,?_⟩
  replace hp:=hp.2
  split at hp
  ·split at hp
   ·exact kI r _ _ hr (hk.upd hd) hp
   ·exact hp.elim
  ·split at hp
   ·exact kI r _ _ hr (hk.upd hd) hp
   ·exact hp.elim
  ·split at hp
   ·exact kI r _ _ hr (hk.upd hd) hp
   ·exact hp.elim
theorem Fc {l:List Nat} {e0:Env}:∀(c:VC) (Q:Ex->Env->ar->Prop) (env:Env) (σ:ar),(∀t,t∈B6 c->t∈l)->kB l e0 env->dJ (Call P) c Q env σ->dJ (Call P) c (fun x e s=>Q x e s/\kB l e0 e) env σ:=by
 intro c
 induction c with
 |skip=>intro Q env σ _ hk hp;exact⟨hp,hk⟩
 |exit id=>intro Q env σ _ hk hp;exact⟨hp,hk⟩
 |ret=>intro Q env σ _ hk hp;exact⟨hp,hk⟩
 |one o c ih=>
  intro Q env σ hl hk hp
  have hd:∀t,o.dst=some t->t∈l:=fun t ht=>hl t (List.mem_append_left _ (by rw[ht];simp))
  have hr:∀t,t∈B6 c->t∈l:=fun t ht=>hl t (List.mem_append_right _ ht)
  unfold dJ at hp ⊢
  split at hp
  ·rename_i hw;rw[if_pos hw]
   exact pZ (fun _ _ _ _ h=>h) bd (fun v σ' h=>ih Q _ _ hr (hk.upd hd) h) hp
  ·rename_i hw;rw[if_neg hw];exact ih Q _ _ hr (hk.upd hd) hp
 |both a b iha ihb=>
  intro Q env σ hl hk hp
  exact⟨iha Q env σ (fun t ht=>hl t (List.mem_append_left _ ht)) hk hp.1,ihb Q env σ (fun t ht=>hl t (List.mem_append_right _ ht)) hk hp.2⟩
 |loc t s y c ih=>intro Q env σ hl hk hp;exact⟨hp.1,ih Q env σ hl hk hp.2⟩
 |Lj ops=>intro Q env σ hl hk hp;exact kI ops env σ hl hk hp
 |eD draw ops=>intro Q env σ hl hk hp;exact nj ops env σ hl hk hp
 |seq a b iha ihb=>
  intro Q env σ hl hk hp
  refine kf (fun _ _ _ _ h=>h) bd a _ _ env σ (fun x e s hx=>?_) (iha _ env σ (fun t ht=>hl t (List.mem_append_left _ ht)) hk hp)
  cases x with
  |normal=>exact ihb Q e s (fun t ht=>hl t (List.mem_append_right _ ht)) hx.2 hx.1
  |exit id=>exact hx
  |ret=>exact hx
 |cond c a b iha ihb=>
  intro Q env σ hl hk hp
  unfold dJ at hp ⊢
  split at hp
  ·rename_i t ht
   cases t with
   |true=>exact iha Q env σ (fun t ht=>hl t (List.mem_append_left _ ht)) hk hp
   |false=>exact ihb Q env σ (fun t ht=>hl t (List.mem_append_right _ ht)) hk hp
  ·exact hp.elim
 |block id a iha=>
  intro Q env σ hl hk hp
  refine kf (fun _ _ _ _ h=>h) bd a _ _ env σ (fun x e s hx=>?_) (iha _ env σ hl hk hp)
  obtain⟨hx,Gp⟩:=hx
  cases x with
  |normal=>exact⟨hx,Gp⟩
  |ret=>exact⟨hx,Gp⟩
  |exit jW=>
   unfold aQ at hx ⊢
   dsimp only at hx ⊢
   split at hx
   ·rename_i hid;rw[if_pos hid];exact⟨hx,Gp⟩
   ·rename_i hid;rw[if_neg hid];exact⟨hx,Gp⟩
 |loop a iha=>
  intro Q env σ hl hk hp
  obtain⟨n,hp⟩:=hp
  refine⟨n,?_⟩
  induction n generalizing env σ with
  |zero=>exact hp
  |succ n ihn=>
   refine kf (fun _ _ _ _ h=>h) bd _ _ _ _ _ (fun x e s hx=>?_) (iha _ env σ hl hk hp)
   obtain⟨hx,Gp⟩:=hx
   cases x with
   |normal=>exact ihn e s Gp hx
   |exit id=>exact⟨hx,Gp⟩
   |ret=>exact⟨hx,Gp⟩
theorem bp {c:VC} (I:Nat->Env->ar->Prop) (n:Nat) (h0:I n env σ) (step:∀n e s,I n e s->kB (B6 c) env e->dJ (Call P) c (fun x e s=>match x with| .normal=>∃m,m<n/\I m e s|x=>Q x e s) e s):dJ (Call P) (.loop c) Q env σ:=by
 refine JX (fun n e s=>I n e s/\kB (B6 c) env e) n ⟨h0,kB.refl _ _⟩ fun n e s hI=>?_
 refine kf (fun _ _ _ _ h=>h) bd _ _ _ _ _ (fun x e' s' hx=>?_) (Fc c _ e s (fun _ h=>h) hI.2 (step n e s hI.1 hI.2))
 obtain⟨hx,hk⟩:=hx
 cases x with
 |normal=>obtain⟨m,hm,h⟩:=hx;exact⟨m,hm,h,hk⟩
 |exit id=>exact hx
 |ret=>exact hx
theorem HR {k:Nat} (h:k<=9223372036854775807):IntKind.i64.wrap (k:Int)=k:=by rw[IntKind.wrap_i64];omega
theorem bP {z:Int} (h: -9223372036854775808<=z/\z<=9223372036854775807):IntKind.i64.wrap z=z:=by rw[IntKind.wrap_i64];omega
theorem aA {k:Nat} (h:(k:Int)+1<=9223372036854775807):IntKind.i64.wrap ((k:Int)+1)=((k+1:Nat):Int):=by rw[IntKind.wrap_i64];omega
theorem all_succ {k:Nat} {p:Nat->Prop} (h:∀j,j<k->p j) (hk:p k):∀j,j<k+1->p j:=fun j hj=>by
 by_cases uK:j=k
 ·subst uK;exact hk
 ·exact h j ad
theorem az (g:Rows) (n:Nat) (k:IntKind) (m:Int):fz g (n+1) (.int k m)=some (.int k m):=by rw[fz]<;>intros<;>simp_all
theorem aU (g:Rows) (n:Nat) (b:ByteArray):fz g (n+1) (.str b)=some (.str b):=by rw[fz]<;>intros<;>simp_all
theorem bu (g:Rows) (n:Nat) (l:List (List AV)):fz g (n+1) (.sl l)=some (.sl l):=by rw[fz]<;>intros<;>simp_all
theorem aC (g:Rows) (n:Nat):fz g (n+1) .cK=some .cK:=by rw[fz]<;>intros<;>simp_all
theorem PF {t:Nat} {r r0:AV} {x:Ex} (hx:x=.ret∨x=.normal) (he:env t=r0) (hz:fz σ.get 6 r0=some r):kr [.tmp t] (fun r0 σ'=>∃r',fz σ'.get 6 r0=some r'/\r'=r) x env σ:=by
 have:∃vs,fe env σ.get [.tmp t]=some vs/\∃r',fz σ.get 6 (eH vs)=some r'/\r'=r:=⟨[env t],rfl,r,by subst he;exact hz,rfl⟩
 rcases hx with rfl|rfl
 ·exact this
 ·exact this
def ak (P:Program) (f:Nat) (args:List AV) (r:AV):Prop:=∀n:Nat,Call P f args ⟨fun _=>none,n⟩ fun r0 σ'=>∃r',fu σ'.get 6 r0=some r'/\r'=r
theorem ak.body {f:Nat} {args:List AV} {r:AV} {nt na:Nat} {body:VC} {res:List nO} (hf:lN P f=some ⟨nt,na,body,res⟩) (ha:na=args.length) (h:(∀a∈args,ep a)->∀n:Nat,dJ (Call P) body (kr res fun r0 σ'=>∃r',fu σ'.get 6 r0=some r'/\r'=r) (bD args) ⟨fun _=>none,n⟩):ak P f args r:=fun n=>kR hf ha fun hl=>h hl n
theorem ak.x {f:Nat} {args eA:List AV} {r:AV} (h:ak P f eA r) {σ:ar} (hv:cR (dG σ.get) 6 args=some eA):e8 (Call P) f args σ (fun r'=>r'=r):=.inr ⟨eA,hv,h _⟩
theorem ki.x {f:Nat} {args:List AV} {r:AV} (h:ki P f args r) (σ:ar):e8 (Call P) f args σ (fun r'=>r'=r):=.inl (h σ)
theorem fV (g:Rows) (n:Nat) (k:IntKind) (m:Int):fu g (n+1) (.int k m)=some (.int k m):=by rw[fu]<;>intros<;>simp_all
theorem jS (g:Rows) (n:Nat) (b:Bool):fu g (n+1) (.bool b)=some (.bool b):=by rw[fu]<;>intros<;>simp_all
theorem ID (g:Rows) (n:Nat) (b:ByteArray):fu g (n+1) (.str b)=some (.str b):=by rw[fu]<;>intros<;>simp_all
theorem sF (g:Rows) (n:Nat):fu g (n+1) .cK=some .cK:=by rw[fu]<;>intros<;>simp_all
theorem lr (g:Rows) (n:Nat) (l:List AV):fu g (n+1) (.im l)=(dM g n l).map AV.im:=by rw[fu]
theorem vT (g:Rows) (n:Nat) (l:List AV):fu g (n+1) (.agg l)=(dM g n l).map AV.agg:=by rw[fu]
theorem rM {g:Rows} {n:Nat} {id:Id} {off len sz:Nat} {rows rows':List (List AV)} (h:g id=some ⟨true,sz,rows⟩) (hl:off+len<=rows.length) (hr:fx g n ((rows.drop off).take len)=some rows'):fu g (n+1) (.own id off len)=some (.sl rows'):=by
 rw[fu];simp only[h,if_true,if_pos hl,hr,Option.map_some]
theorem dC (g:Rows) (n:Nat):dM g n []=some []:=by rw[dM]
theorem cN (g:Rows) (n:Nat) (a:AV) (l:List AV):dM g n (a::l)=match fu g n a with
  |some b=>(dM g n l).map (b::·)
  |none=>none:=by rw[dM];cases fu g n a<;>rfl
theorem qZ {g:Rows} {n:Nat}:∀{l:List (List AV)},(∀c∈l,dM g n c=some c)->fx g n l=some l
 |[],_=>by rw[fx]
 |c::r,h=>by rw[fx,h c (by simp),qZ fun d hd=>h d (List.mem_cons_of_mem _ hd)];rfl
theorem aP (g:Rows) (n:Nat) (l:List AV):fz g (n+1) (.agg l)=(cR g n l).map AV.agg:=by rw[fz]
theorem aE (g:Rows) (n:Nat) (l:List AV):fz g (n+1) (.dI l)=some (.dI l):=by rw[fz]<;>intros<;>simp_all
theorem Lx {g:Rows} {n:Nat} {id:Id} {i off sz:Nat} {rows:List (List AV)} {cs oa:List AV} (h:g id=some ⟨true,sz,rows⟩) (hi:rows[i]? =some cs) (hr:cR g n (cs.drop off)=some oa):fz g (n+1) (.ptr id i off)=some (.dI oa):=by
 rw[fz];simp only[h,if_true,hi,hr,Option.map_some]
theorem ae (g:Rows) (n:Nat):cR g n []=some []:=by rw[cR]
theorem ab (g:Rows) (n:Nat) (a:AV) (l:List AV):cR g n (a::l)=match fz g n a with
  |some b=>(cR g n l).map (b::·)
  |none=>none:=by rw[cR];cases fz g n a<;>rfl
theorem CR {t:Nat} {r r0:AV} {x:Ex} (hx:x=.ret∨x=.normal) (he:env t=r0) (hz:fu σ.get 6 r0=some r):kr [.tmp t] (fun r0 σ'=>∃r',fu σ'.get 6 r0=some r'/\r'=r) x env σ:=by
 have:∃vs,fe env σ.get [.tmp t]=some vs/\∃r',fu σ.get 6 (eH vs)=some r'/\r'=r:=⟨[env t],rfl,r,by subst he;exact hz,rfl⟩
 rcases hx with rfl|rfl
 ·exact this
 ·exact this
theorem bt {t:Nat} {b c:Bool} {x:Ex} (hx:x=.ret∨x=.normal) (he:env t=.bool b) (hb:b=c):kr [.tmp t] (fun r0 σ'=>∃r',fu σ'.get 6 r0=some r'/\r'=.bool c) x env σ:=CR hx he (by rw[jS,hb])
theorem cH {t:Nat} {k:IntKind} {b c:Int} {x:Ex} (hx:x=.ret∨x=.normal) (he:env t=.int k b) (hb:b=c):kr [.tmp t] (fun r0 σ'=>∃r',fu σ'.get 6 r0=some r'/\r'=.int k c) x env σ:=CR hx he (by rw[fV,hb])
theorem uZ {t u:Nat} {r r1 r2:AV} {x:Ex} (hx:x=.ret∨x=.normal) (h1:env t=r1) (h2:env u=r2) (hz:fu σ.get 6 (.im [r1,r2])=some r):kr [.tmp t,.tmp u] (fun r0 σ'=>∃r',fu σ'.get 6 r0=some r'/\r'=r) x env σ:=by
 have:∃vs,fe env σ.get [.tmp t,.tmp u]=some vs/\∃r',fu σ.get 6 (eH vs)=some r'/\r'=r:=⟨[env t,env u],rfl,r,by subst h1;subst h2;exact hz,rfl⟩
 rcases hx with rfl|rfl
 ·exact this
 ·exact this
structure Pn (p:Prop):Prop where
 out:p
theorem tw {A B:Prop} (a:A) (b:B):A/\B:=⟨a,b⟩
theorem wk {A R G:Prop} (a:A) (r:R) (h:A->R->G:=by
  intro fL kk
  (repeat(refine Pn.mk ?_;intro N hN))
  (first|((first|apply C5|apply C3);intro N hN)|((first|(apply MU;intro N hN)|(apply C2;intro N hN));simp only[go_sem, ↓reduceIte,Nat.reduceEqDiff,Nat.reduceAdd,Nat.reduceSub,Nat.reduceMul,Nat.reduceLeDiff,Nat.reduceBEq,reduceCtorEq,Nat.reduceLT,Int.reduceLE,Int.reduceLT,Int.reduceToNat,Int.reduceNeg,Int.reduceAdd,Int.reduceEq,fL];first|(refine hN _ _ ?_;clear hN N)|skip)|(apply rX;(simp only[go_sem, ↓reduceIte,Nat.reduceEqDiff,Nat.reduceAdd,Nat.reduceSub,Nat.reduceMul,Nat.reduceLeDiff,Nat.reduceBEq,reduceCtorEq,Nat.reduceLT,Int.reduceLE,Int.reduceLT,Int.reduceToNat,Int.reduceNeg,Int.reduceAdd,Int.reduceEq,fL];rfl);first|with_reducible apply l9.t|with_reducible apply l9.f)|(apply C1;refine hN _ _ ?_;clear hN N;try(simp only[cS,aQ, ↓reduceIte,Nat.reduceEqDiff]);try(refine hN _ _ ?_;clear hN N))|apply rW|(refine xf ?_ ?_ ?_;(focus(simp only[go_sem, ↓reduceIte,Nat.reduceEqDiff,Nat.reduceAdd,Nat.reduceSub,Nat.reduceMul,Nat.reduceLeDiff,Nat.reduceBEq,reduceCtorEq,Nat.reduceLT,Int.reduceLE,Int.reduceLT,Int.reduceToNat,Int.reduceNeg,Int.reduceAdd,Int.reduceEq,fL];done));(focus(simp only[go_sem, ↓reduceIte,Nat.reduceEqDiff,Nat.reduceAdd,Nat.reduceSub,Nat.reduceMul,Nat.reduceLeDiff,Nat.reduceBEq,reduceCtorEq,Nat.reduceLT,Int.reduceLE,Int.reduceLT,Int.reduceToNat,Int.reduceNeg,Int.reduceAdd,Int.reduceEq,fL];done)))|((first|apply xg|apply xe|apply C4);try(simp only[cS,aQ, ↓reduceIte,Nat.reduceEqDiff]);try(refine hN _ _ ?_;clear hN N))|((first|refine hN _ _ ?_|(clear hN N;first|refine hN _ _ ?_|(clear hN N;first|refine hN _ _ ?_|(clear hN N;first|refine hN _ _ ?_|(clear hN N;refine hN _ _ ?_)))));clear hN N))
  (repeat(first|((first|apply C5|apply C3);intro N hN)|((first|(apply MU;intro N hN)|(apply C2;intro N hN));simp only[go_sem, ↓reduceIte,Nat.reduceEqDiff,Nat.reduceAdd,Nat.reduceSub,Nat.reduceMul,Nat.reduceLeDiff,Nat.reduceBEq,reduceCtorEq,Nat.reduceLT,Int.reduceLE,Int.reduceLT,Int.reduceToNat,Int.reduceNeg,Int.reduceAdd,Int.reduceEq,fL];first|(refine hN _ _ ?_;clear hN N)|skip)|(apply rX;(simp only[go_sem, ↓reduceIte,Nat.reduceEqDiff,Nat.reduceAdd,Nat.reduceSub,Nat.reduceMul,Nat.reduceLeDiff,Nat.reduceBEq,reduceCtorEq,Nat.reduceLT,Int.reduceLE,Int.reduceLT,Int.reduceToNat,Int.reduceNeg,Int.reduceAdd,Int.reduceEq,fL];rfl);first|with_reducible apply l9.t|with_reducible apply l9.f)|(apply C1;refine hN _ _ ?_;clear hN N;try(simp only[cS,aQ, ↓reduceIte,Nat.reduceEqDiff]);try(refine hN _ _ ?_;clear hN N))|apply rW|(refine xf ?_ ?_ ?_;(focus(simp only[go_sem, ↓reduceIte,Nat.reduceEqDiff,Nat.reduceAdd,Nat.reduceSub,Nat.reduceMul,Nat.reduceLeDiff,Nat.reduceBEq,reduceCtorEq,Nat.reduceLT,Int.reduceLE,Int.reduceLT,Int.reduceToNat,Int.reduceNeg,Int.reduceAdd,Int.reduceEq,fL];done));(focus(simp only[go_sem, ↓reduceIte,Nat.reduceEqDiff,Nat.reduceAdd,Nat.reduceSub,Nat.reduceMul,Nat.reduceLeDiff,Nat.reduceBEq,reduceCtorEq,Nat.reduceLT,Int.reduceLE,Int.reduceLT,Int.reduceToNat,Int.reduceNeg,Int.reduceAdd,Int.reduceEq,fL];done)))|((first|apply xg|apply xe|apply C4);try(simp only[cS,aQ, ↓reduceIte,Nat.reduceEqDiff]);try(refine hN _ _ ?_;clear hN N))|((first|refine hN _ _ ?_|(clear hN N;first|refine hN _ _ ?_|(clear hN N;first|refine hN _ _ ?_|(clear hN N;first|refine hN _ _ ?_|(clear hN N;refine hN _ _ ?_)))));clear hN N)))
  (repeat(revert hN;revert N;apply Pn.out))
  exact kk):G:=h a r
theorem wa {A R G:Prop} (a:A) (r:R) (h:A->R->G:=by
  intro fL kk
  (repeat(refine Pn.mk ?_;intro N hN))
  (first|((first|apply C5|apply C3);intro N hN)|((first|(refine KW rfl fun N hN=>?_)|(apply C2;intro N hN));simp only[go_sem, ↓reduceIte,Nat.reduceEqDiff,Nat.reduceAdd,Nat.reduceSub,Nat.reduceMul,Nat.reduceLeDiff,Nat.reduceBEq,reduceCtorEq,Nat.reduceLT,Int.reduceLE,Int.reduceLT,Int.reduceToNat,Int.reduceNeg,Int.reduceAdd,Int.reduceEq,fL];first|(refine hN _ _ ?_;clear hN N)|skip)|(apply rX;(simp only[go_sem, ↓reduceIte,Nat.reduceEqDiff,Nat.reduceAdd,Nat.reduceSub,Nat.reduceMul,Nat.reduceLeDiff,Nat.reduceBEq,reduceCtorEq,Nat.reduceLT,Int.reduceLE,Int.reduceLT,Int.reduceToNat,Int.reduceNeg,Int.reduceAdd,Int.reduceEq,fL];rfl);first|with_reducible apply l9.t|with_reducible apply l9.f)|(apply C1;refine hN _ _ ?_;clear hN N;try(simp only[cS,aQ, ↓reduceIte,Nat.reduceEqDiff]);try(refine hN _ _ ?_;clear hN N))|apply rW|(refine xf ?_ ?_ ?_;(focus(simp only[go_sem, ↓reduceIte,Nat.reduceEqDiff,Nat.reduceAdd,Nat.reduceSub,Nat.reduceMul,Nat.reduceLeDiff,Nat.reduceBEq,reduceCtorEq,Nat.reduceLT,Int.reduceLE,Int.reduceLT,Int.reduceToNat,Int.reduceNeg,Int.reduceAdd,Int.reduceEq,fL];done));(focus(simp only[go_sem, ↓reduceIte,Nat.reduceEqDiff,Nat.reduceAdd,Nat.reduceSub,Nat.reduceMul,Nat.reduceLeDiff,Nat.reduceBEq,reduceCtorEq,Nat.reduceLT,Int.reduceLE,Int.reduceLT,Int.reduceToNat,Int.reduceNeg,Int.reduceAdd,Int.reduceEq,fL];done)))|((first|apply xg|apply xe|apply C4);try(simp only[cS,aQ, ↓reduceIte,Nat.reduceEqDiff]);try(refine hN _ _ ?_;clear hN N))|((first|refine hN _ _ ?_|(clear hN N;first|refine hN _ _ ?_|(clear hN N;first|refine hN _ _ ?_|(clear hN N;first|refine hN _ _ ?_|(clear hN N;refine hN _ _ ?_)))));clear hN N))
  (repeat(first|((first|apply C5|apply C3);intro N hN)|((first|(refine KW rfl fun N hN=>?_)|(apply C2;intro N hN));simp only[go_sem, ↓reduceIte,Nat.reduceEqDiff,Nat.reduceAdd,Nat.reduceSub,Nat.reduceMul,Nat.reduceLeDiff,Nat.reduceBEq,reduceCtorEq,Nat.reduceLT,Int.reduceLE,Int.reduceLT,Int.reduceToNat,Int.reduceNeg,Int.reduceAdd,Int.reduceEq,fL];first|(refine hN _ _ ?_;clear hN N)|skip)|(apply rX;(simp only[go_sem, ↓reduceIte,Nat.reduceEqDiff,Nat.reduceAdd,Nat.reduceSub,Nat.reduceMul,Nat.reduceLeDiff,Nat.reduceBEq,reduceCtorEq,Nat.reduceLT,Int.reduceLE,Int.reduceLT,Int.reduceToNat,Int.reduceNeg,Int.reduceAdd,Int.reduceEq,fL];rfl);first|with_reducible apply l9.t|with_reducible apply l9.f)|(apply C1;refine hN _ _ ?_;clear hN N;try(simp only[cS,aQ, ↓reduceIte,Nat.reduceEqDiff]);try(refine hN _ _ ?_;clear hN N))|apply rW|(refine xf ?_ ?_ ?_;(focus(simp only[go_sem, ↓reduceIte,Nat.reduceEqDiff,Nat.reduceAdd,Nat.reduceSub,Nat.reduceMul,Nat.reduceLeDiff,Nat.reduceBEq,reduceCtorEq,Nat.reduceLT,Int.reduceLE,Int.reduceLT,Int.reduceToNat,Int.reduceNeg,Int.reduceAdd,Int.reduceEq,fL];done));(focus(simp only[go_sem, ↓reduceIte,Nat.reduceEqDiff,Nat.reduceAdd,Nat.reduceSub,Nat.reduceMul,Nat.reduceLeDiff,Nat.reduceBEq,reduceCtorEq,Nat.reduceLT,Int.reduceLE,Int.reduceLT,Int.reduceToNat,Int.reduceNeg,Int.reduceAdd,Int.reduceEq,fL];done)))|((first|apply xg|apply xe|apply C4);try(simp only[cS,aQ, ↓reduceIte,Nat.reduceEqDiff]);try(refine hN _ _ ?_;clear hN N))|((first|refine hN _ _ ?_|(clear hN N;first|refine hN _ _ ?_|(clear hN N;first|refine hN _ _ ?_|(clear hN N;first|refine hN _ _ ?_|(clear hN N;refine hN _ _ ?_)))));clear hN N)))
  (repeat(revert hN;revert N;apply Pn.out))
  exact kk):G:=h a r
theorem sd {A G:Prop} (a:A) (h:A->G:=by
  intro fL
  first|(simp only[go_sem, ↓reduceIte,Nat.reduceEqDiff,Nat.reduceAdd,Nat.reduceSub,Nat.reduceMul,Nat.reduceLeDiff,Nat.reduceBEq,reduceCtorEq,Nat.reduceLT,Int.reduceLE,Int.reduceLT,Int.reduceToNat,Int.reduceNeg,Int.reduceAdd,Int.reduceEq,fL,fe,iq];done)|fail):G:=h a
theorem sl {A G:Prop} (a:A) (h:A->G:=by
  intro fL
  (try simp only[go_sem, ↓reduceIte,Nat.reduceEqDiff,Nat.reduceAdd,Nat.reduceSub,Nat.reduceMul,Nat.reduceLeDiff,Nat.reduceBEq,reduceCtorEq,Nat.reduceLT,Int.reduceLE,Int.reduceLT,Int.reduceToNat,Int.reduceNeg,Int.reduceAdd,Int.reduceEq,fL])
  try rfl):G:=h a
end Go.Proofs.YtphenfakmdknlaaGreat.V

namespace Go.Proofs.YtphenfakmdknlaaGreat.V
open Go.RowKit
variable {P:Program} {X:fb} {env:Env} {σ:ar}
theorem aX (g:Rows) (n:Nat) (l:List AV):fz g (n+1) (.im l)=(cR g n l).map AV.im:=by rw[fz]
theorem cD (g:Rows) (n:Nat) (f:Nat) (l:List AV):fz g (n+1) (.fn f l)=if l.all AV.cell then(cR g n l).map (AV.fn f)else none:=by rw[fz]
theorem aJ (g:Rows) (n:Nat) (id:Id) (i off:Nat):fz g (n+1) (.ptr id i off)=match g id with
  |some r=>if r.w then(match r.rows[i]? with
   |some cs=>(cR g n (cs.drop off)).map AV.dI
   |none=>none)else none
  |none=>none:=by rw[fz];rfl
theorem gm (g:Rows) (n:Nat) (id:Id) (off len:Nat):fz g (n+1) (.own id off len)=match g id with
  |some r=>if r.w then(if off+len<=r.rows.length then(dK g n ((r.rows.drop off).take len)).map AV.sl else none)else none
  |none=>none:=by rw[fz];rfl
theorem mE (g:Rows) (n:Nat):dK g n []=some []:=by rw[dK]
theorem vR (g:Rows) (n:Nat) (c:List AV) (l:List (List AV)):dK g n (c::l)=match cR g n c with
  |some b=>(dK g n l).map (b::·)
  |none=>none:=by rw[dK];cases cR g n c<;>rfl
theorem sD {g:Rows} {n:Nat}:∀{l:List (List AV)},(∀c∈l,cR g n c=some c)->dK g n l=some l
 |[],_=>by rw[dK]
 |c::r,h=>by rw[dK,h c (by simp),sD fun d hd=>h d (List.mem_cons_of_mem _ hd)];rfl
theorem oH {α:Type} {g:Rows} {n:Nat} {e:α->List AV} {l:List α} (h:∀x,cR g n (e x)=some (e x)):dK g n (l.map e)=some (l.map e):=sD fun c hc=>by
 obtain⟨x,_,rfl⟩:=List.mem_map.1 hc
 exact h x
theorem rb {α:Type} {g:Rows} {n:Nat} {e:α->List AV} {l:List α} (h:∀x,dM g n (e x)=some (e x)):fx g n (l.map e)=some (l.map e):=qZ fun c hc=>by
 obtain⟨x,_,rfl⟩:=List.mem_map.1 hc
 exact h x
theorem fF {α:Type} {g:Rows} {n:Nat} {e:α->List AV} {l:List α} {id:Id} {sz len:Nat} (hg:g id=some ⟨true,sz,l.map e⟩) (hl:len=l.length) (h:∀x,cR g n (e x)=some (e x)):fz g (n+1) (.own id 0 len)=some (.sl (l.map e)):=by
 subst hl
 rw[gm];simp only[hg,if_true]
 rw[if_pos (by simp),List.drop_zero,List.take_of_length_le (by simp),oH h];rfl
theorem fa {α:Type} {g:Rows} {n:Nat} {e:α->List AV} {l:List α} {id:Id} {sz len:Nat} (hg:g id=some ⟨true,sz,l.map e⟩) (hl:len=l.length) (h:∀x,dM g n (e x)=some (e x)):fu g (n+1) (.own id 0 len)=some (.sl (l.map e)):=by
 subst hl
 exact rM hg (by simp) (by rw[List.drop_zero,List.take_of_length_le (by simp),rb h])
theorem all_map {α:Type} {e:α->List AV} {sz:Nat} {l:List α} (h:∀x,(e x).length=sz/\(e x).all AV.cell=true):(l.map e).all (fun c=>c.length==sz&&c.all AV.cell)=true:=by
 rw[List.all_eq_true]
 intro c hc
 obtain⟨x,_,rfl⟩:=List.mem_map.1 hc
 simp[(h x).1,(h x).2]
def RowM (P:Program) (f:Nat) (args:List AV) (sz:Nat) (rows:List (List AV)):Prop:=(∀c∈rows,∀a∈c,a.plain=true)/\∀n:Nat,Call P f args ⟨fun _=>none,n⟩ fun r σ'=>∃id,r=.own id 0 rows.length/\σ'.get id=some ⟨true,sz,rows⟩
theorem uf {res:List nO} {r:AV} {vs:List AV} {x:Ex} (hx:x=.ret∨x=.normal) (hv:fe env σ.get res=some vs) (hz:fz σ.get 6 (eH vs)=some r):kr res (fun r0 σ'=>∃r',fz σ'.get 6 r0=some r'/\r'=r) x env σ:=by
 rcases hx with rfl|rfl
 ·exact⟨vs,hv,r,hz,rfl⟩
 ·exact⟨vs,hv,r,hz,rfl⟩
theorem mU {res:List nO} {r:AV} {vs:List AV} {x:Ex} (hx:x=.ret∨x=.normal) (hv:fe env σ.get res=some vs) (hz:fu σ.get 6 (eH vs)=some r):kr res (fun r0 σ'=>∃r',fu σ'.get 6 r0=some r'/\r'=r) x env σ:=by
 rcases hx with rfl|rfl
 ·exact⟨vs,hv,r,hz,rfl⟩
 ·exact⟨vs,hv,r,hz,rfl⟩
theorem gI {res:List nO} {K:AV->ar->Prop} {vs:List AV} {x:Ex} (hx:x=.ret∨x=.normal) (hv:fe env σ.get res=some vs) (hK:K (eH vs) σ):kr res K x env σ:=by
 rcases hx with rfl|rfl
 ·exact⟨vs,hv,hK⟩
 ·exact⟨vs,hv,hK⟩
theorem gj {f:Nat} {args:List AV} {σ:ar} {K:AV->ar->Prop} {nt na:Nat} {body:VC} {res:List nO} (hf:lN P f=some ⟨nt,na,body,res⟩) (ha:na=args.length) (h:(∀a∈args,ep a)->dJ (Call P) body (kr res K) (bD args) σ):Call P f args σ K:=kR hf ha h
theorem Fp {f:Nat} {md:List (Nat×Nat)} {args:List AV} {σ:ar} {K:AV->ar->Prop} {nt na:Nat} {body:VC} {res:List nO} (hf:tR P f md=some ⟨nt,na,body,res⟩) (ha:na=args.length) (h:(∀a∈args,ep a)->dJ (Call P) body (kr res K) (bD args) σ):Call P f args σ K:=r3 hf ha h
theorem dW {i:Id} {n:Nat} (h:i.bR<n):(∀s,(i=⟨s,n⟩)=False/\(i=⟨s,n+1⟩)=False/\(i=⟨s,n+1+1⟩)=False/\(i=⟨s,n+1+1+1⟩)=False/\(i=⟨s,n+1+1+1+1⟩)=False/\(i=⟨s,n+1+1+1+1+1⟩)=False/\(i=⟨s,n+1+1+1+1+1+1⟩)=False/\(i=⟨s,n+1+1+1+1+1+1+1⟩)=False/\(i=⟨s,n+1+1+1+1+1+1+1+1⟩)=False/\(i=⟨s,n+1+1+1+1+1+1+1+1+1⟩)=False/\(⟨s,n⟩=i)=False/\(⟨s,n+1⟩=i)=False/\(⟨s,n+1+1⟩=i)=False/\(⟨s,n+1+1+1⟩=i)=False/\(⟨s,n+1+1+1+1⟩=i)=False/\(⟨s,n+1+1+1+1+1⟩=i)=False/\(⟨s,n+1+1+1+1+1+1⟩=i)=False/\(⟨s,n+1+1+1+1+1+1+1⟩=i)=False/\(⟨s,n+1+1+1+1+1+1+1+1⟩=i)=False/\(⟨s,n+1+1+1+1+1+1+1+1+1⟩=i)=False)/\(i.bR=n)=False/\(i.bR=n+1)=False/\(i.bR=n+1+1)=False/\(i.bR=n+1+1+1)=False/\(i.bR=n+1+1+1+1)=False/\(i.bR=n+1+1+1+1+1)=False/\(i.bR=n+1+1+1+1+1+1)=False/\(i.bR=n+1+1+1+1+1+1+1)=False/\(i.bR=n+1+1+1+1+1+1+1+1)=False/\(i.bR=n+1+1+1+1+1+1+1+1+1)=False:=by
 refine⟨fun s=>?_,?_⟩
 ·obtain⟨a,b⟩:=i
  simp only[Id.mk.injEq,eq_iff_iff,iff_false,not_and]
  simp only at h
  refine⟨?_,?_,?_,?_,?_,?_,?_,?_,?_,?_,?_,?_,?_,?_,?_,?_,?_,?_,?_,?_⟩<;>(intros;omega)
 ·simp only[eq_iff_iff,iff_false]
  refine⟨?_,?_,?_,?_,?_,?_,?_,?_,?_,?_⟩<;>omega
def eW (a b:Nat) (ids:List Id):Prop:=ids.Nodup/\∀i∈ids,a<=i.bR/\i.bR<b
def Kept (σ σ':ar):Prop:=σ.next<=σ'.next/\∀j:Id,j.bR<σ.next->σ'.get j=σ.get j
theorem eW.wide {a b a' b':Nat} {ids:List Id} (h:eW a b ids) (h1:a'<=a) (h2:b<=b'):eW a' b' ids:=⟨h.1,fun i hi=>⟨Nat.le_trans h1 (h.2 i hi).1,Nat.lt_of_lt_of_le (h.2 i hi).2 h2⟩⟩
theorem eW.app {a b c d:Nat} {i j:List Id} (h:eW a b i) (k:eW c d j) (hbc:b<=c) (l7:a<=b) (hcd:c<=d):eW a d (i++j):=
 ⟨List.nodup_append.2 ⟨h.1,k.1,fun x hx y hy e=>by subst e;have:=(h.2 x hx).2;have:=(k.2 x hy).1;omega⟩,fun x hx=>by
  rcases List.mem_append.1 hx with hx|hx
  ·have:=h.2 x hx;omega
  ·have:=k.2 x hx;omega⟩
end Go.Proofs.YtphenfakmdknlaaGreat.V

namespace Go.Proofs.YtphenfakmdknlaaGreat.V
open Go.RowKit
attribute [local irreducible] dJ wpOps e8 Call
attribute [local go_sem] ax eB dY eJ eI cJ upd bD K.av bW AV.cells AV.cell rowOf rowsOf part ld rowAt bC bx cU de fj bf cC dv eO er cL dm cw cu cZ da bl aI bZ bj ck cj di dn dj bY bo cz dh bh au cq bJ fh aT bV bm aH cS aQ cV AV.undef aV bc db dd cY dc bQ du dw bG dq dp cm cr List.getD_cons_zero List.getD_cons_succ List.getD_nil List.all_cons List.all_nil Bool.and_true Bool.true_and Bool.and_self Bool.not_true Bool.not_false Option.map_some Option.map_none Option.bind_some Option.bind_none List.length_cons List.length_nil List.take_succ_cons List.take_zero List.take_nil List.drop_succ_cons List.drop_zero List.drop_nil List.head?_cons List.map_cons List.map_nil List.getElem?_cons_zero List.getElem?_cons_succ List.cons_append List.nil_append List.append_nil List.length_map List.set_cons_zero List.set_cons_succ Nat.reduceMul eq_self Int.toNat_natCast Int.natCast_nonneg and_self true_and and_true decide_true decide_false Bool.false_eq_true Nat.zero_add Nat.add_zero List.contains_cons List.contains_nil Bool.or_false Bool.false_or beq_self_eq_true Nat.reduceBEq ne_eq not_true_eq_false not_false_eq_true Id.mk.injEq false_and and_false Nat.reduceLT Int.reduceLE Int.reduceLT Int.reduceToNat Int.reduceNeg Int.reduceAdd Nat.le_refl List.length_append beq_true beq_false Bool.not_eq_eq_eq_not or_false false_or dG ab ae az aU bu aC aP aE aJ cD aX
variable {P:Program}
def HB (f g z:Nat):xi:=let s:=f*1000000
 ⟨27,2,(.seq (.eD false [q 4 (.dD (.k (.int .i64 0))) s]) (.seq (.eD false [q 6 (.dD (.t 1)) (s+1000),q 7 (.dD (.t 0)) (s+1001),q 8 (.len (.t 7)) (s+1002),q 9 (.bin .sub .i64 (.t 6) (.t 8)) (s+1003),q 1 (.dD (.t 9)) (s+1004)]) (.seq (.seq (.eD false [q 10 (.dD (.t 1)) (s+2000),q 11 (.bin .lss .i64 (.t 10) (.k (.int .i64 0))) (s+2001)]) (.cond (.t 11) (.seq (.eD false [q 4 (.dD (.k (.int .i64 (-1)))) (s+3000)]) .ret) .skip)) (.seq (.seq (.eD false [q 5 (.dD (.k (.int .i64 0))) (s+4000)]) (.block 0 (.loop (.seq (.seq (.eD false [q 12 (.dD (.t 5)) (s+5000),q 13 (.dD (.t 0)) (s+5001),q 14 (.len (.t 13)) (s+5002),q 15 (.bin .lss .i64 (.t 12) (.t 14)) (s+5003)]) (.cond (.t 15) .skip (.exit 0))) (.seq (.block 1 (.seq (.eD false [q 18 (.dD (.t 0)) (s+7000),q 19 (.dD (.t 5)) (s+7001),q 20 (.ef z (.t 18) (.t 19)) (s+7002),q 21 (.load true z (.t 20)) (s+7003),q 22 (.dD (.t 1)) (s+7004),q 23 (.call g [(.t 21),(.t 22)]) (s+7005),q 1 (.dD (.t 23)) (s+7006)]) (.seq (.eD false [q 24 (.dD (.t 1)) (s+8000),q 25 (.bin .lss .i64 (.t 24) (.k (.int .i64 0))) (s+8001)]) (.cond (.t 25) (.seq (.eD false [q 4 (.dD (.k (.int .i64 (-1)))) (s+9000)]) .ret) .skip)))) (.eD false [q 16 (.dD (.t 5)) (s+6000),q 17 (.bin .add .i64 (.t 16) (.k (.int .i64 1))) (s+6001),q 5 (.dD (.t 17)) (s+6002)])))))) (.seq (.eD false [q 26 (.dD (.t 1)) (s+10000),q 4 (.dD (.t 26)) (s+10001)]) .ret))))),[(.tmp 4)]⟩
def Hz (f:Nat):xi:=let s:=f*1000000
 ⟨12,2,(.seq (.eD false [q 4 (.dD (.k (.int .i64 0))) s]) (.seq (.eD false [q 5 (.dD (.t 1)) (s+1000),q 6 (.dD (.t 0)) (s+1001),q 7 (.len (.t 6)) (s+1002),q 8 (.bin .sub .i64 (.t 5) (.t 7)) (s+1003),q 1 (.dD (.t 8)) (s+1004)]) (.seq (.seq (.eD false [q 9 (.dD (.t 1)) (s+2000),q 10 (.bin .lss .i64 (.t 9) (.k (.int .i64 0))) (s+2001)]) (.cond (.t 10) (.seq (.eD false [q 4 (.dD (.k (.int .i64 (-1)))) (s+3000)]) .ret) .skip)) (.seq (.eD false [q 11 (.dD (.t 1)) (s+4000),q 4 (.dD (.t 11)) (s+4001)]) .ret)))),[(.tmp 4)]⟩
def Cl (f g z:Nat):xi:=let s:=f*1000000
 ⟨27,2,(.seq (.eD false [q 4 (.dD (.k (.bool false))) s]) (.seq (.seq (.eD false [q 6 (.dD (.t 0)) (s+1000),q 7 (.len (.t 6)) (s+1001),q 8 (.dD (.t 1)) (s+1002),q 9 (.len (.t 8)) (s+1003),q 10 (.Lp true .tI (.t 7) (.t 9)) (s+1004)]) (.cond (.t 10) (.seq (.eD false [q 4 (.dD (.k (.bool false))) (s+2000)]) .ret) .skip)) (.seq (.seq (.eD false [q 5 (.dD (.k (.int .i64 0))) (s+3000)]) (.block 0 (.loop (.seq (.seq (.eD false [q 11 (.dD (.t 5)) (s+4000),q 12 (.dD (.t 0)) (s+4001),q 13 (.len (.t 12)) (s+4002),q 14 (.bin .lss .i64 (.t 11) (.t 13)) (s+4003)]) (.cond (.t 14) .skip (.exit 0))) (.seq (.block 1 (.seq (.eD true [q 17 (.dD (.t 0)) (s+6000),q 18 (.dD (.t 5)) (s+6001),q 19 (.ef z (.t 17) (.t 18)) (s+6002),q 20 (.load true z (.t 19)) (s+6003),q 21 (.dD (.t 1)) (s+6004),q 22 (.dD (.t 5)) (s+6005),q 23 (.ef z (.t 21) (.t 22)) (s+6006),q 24 (.load true z (.t 23)) (s+6007),q 25 (.call g [(.t 20),(.t 24)]) (s+6008),q 26 (.not (.t 25)) (s+6009)]) (.cond (.t 26) (.seq (.eD false [q 4 (.dD (.k (.bool false))) (s+7000)]) .ret) .skip))) (.eD false [q 15 (.dD (.t 5)) (s+5000),q 16 (.bin .add .i64 (.t 15) (.k (.int .i64 1))) (s+5001),q 5 (.dD (.t 16)) (s+5002)])))))) (.seq (.eD false [q 4 (.dD (.k (.bool true))) (s+8000)]) .ret)))),[(.tmp 4)]⟩
def Ke (f:Nat) (t:TS):xi:=let s:=f*1000000
 ⟨26,2,(.seq (.eD false [q 4 (.dD (.k (.bool false))) s]) (.seq (.seq (.eD false [q 6 (.dD (.t 0)) (s+1000),q 7 (.len (.t 6)) (s+1001),q 8 (.dD (.t 1)) (s+1002),q 9 (.len (.t 8)) (s+1003),q 10 (.Lp true .tI (.t 7) (.t 9)) (s+1004)]) (.cond (.t 10) (.seq (.eD false [q 4 (.dD (.k (.bool false))) (s+2000)]) .ret) .skip)) (.seq (.seq (.eD false [q 5 (.dD (.k (.int .i64 0))) (s+3000)]) (.block 0 (.loop (.seq (.seq (.eD false [q 11 (.dD (.t 5)) (s+4000),q 12 (.dD (.t 0)) (s+4001),q 13 (.len (.t 12)) (s+4002),q 14 (.bin .lss .i64 (.t 11) (.t 13)) (s+4003)]) (.cond (.t 14) .skip (.exit 0))) (.seq (.block 1 (.seq (.eD true [q 17 (.dD (.t 0)) (s+6000),q 18 (.dD (.t 5)) (s+6001),q 19 (.ef 1 (.t 17) (.t 18)) (s+6002),q 20 (.load false 1 (.t 19)) (s+6003),q 21 (.dD (.t 1)) (s+6004),q 22 (.dD (.t 5)) (s+6005),q 23 (.ef 1 (.t 21) (.t 22)) (s+6006),q 24 (.load false 1 (.t 23)) (s+6007),q 25 (.Lp true t (.t 20) (.t 24)) (s+6008)]) (.cond (.t 25) (.seq (.eD false [q 4 (.dD (.k (.bool false))) (s+7000)]) .ret) .skip))) (.eD false [q 15 (.dD (.t 5)) (s+5000),q 16 (.bin .add .i64 (.t 15) (.k (.int .i64 1))) (s+5001),q 5 (.dD (.t 16)) (s+5002)])))))) (.seq (.eD false [q 4 (.dD (.k (.bool true))) (s+8000)]) .ret)))),[(.tmp 4)]⟩
def rm (f g z:Nat) (zero:List K):xi:=let s:=f*1000000
 ⟨23,1,(.seq (.eD false [q 2 (.dD (.k .cK)) s]) (.seq (.eD false [q 5 (.dD (.t 0)) (s+1000),q 6 (.len (.t 5)) (s+1001),q 7 (.jJ zero (.t 6) (.t 6)) (s+1002),q 3 (.dD (.t 7)) (s+1003)]) (.seq (.seq (.eD false [q 4 (.dD (.k (.int .i64 0))) (s+2000)]) (.block 0 (.loop (.seq (.seq (.eD false [q 8 (.dD (.t 4)) (s+3000),q 9 (.dD (.t 0)) (s+3001),q 10 (.len (.t 9)) (s+3002),q 11 (.bin .lss .i64 (.t 8) (.t 10)) (s+3003)]) (.cond (.t 11) .skip (.exit 0))) (.seq (.block 1 (.eD false [q 14 (.dD (.t 3)) (s+5000),q 15 (.dD (.t 4)) (s+5001),q 16 (.dD (.t 0)) (s+5002),q 17 (.dD (.t 4)) (s+5003),q 18 (.ef z (.t 16) (.t 17)) (s+5004),q 19 (.load true z (.t 18)) (s+5005),q 20 (.call g [(.t 19)]) (s+5006),q 21 (.ef z (.t 14) (.t 15)) (s+5007),⟨none,(.store z (.t 21) (.t 20)),none,(s+5008),[]⟩])) (.eD false [q 12 (.dD (.t 4)) (s+4000),q 13 (.bin .add .i64 (.t 12) (.k (.int .i64 1))) (s+4001),q 4 (.dD (.t 13)) (s+4002)])))))) (.seq (.eD false [q 22 (.dD (.t 3)) (s+6000),q 2 (.dD (.t 22)) (s+6001)]) .ret)))),[(.tmp 2)]⟩
def HJ (f:Nat) (zero:K):xi:=let s:=f*1000000
 ⟨22,1,(.seq (.eD false [q 2 (.dD (.k .cK)) s]) (.seq (.eD false [q 5 (.dD (.t 0)) (s+1000),q 6 (.len (.t 5)) (s+1001),q 7 (.jJ [zero] (.t 6) (.t 6)) (s+1002),q 3 (.dD (.t 7)) (s+1003)]) (.seq (.seq (.eD false [q 4 (.dD (.k (.int .i64 0))) (s+2000)]) (.block 0 (.loop (.seq (.seq (.eD false [q 8 (.dD (.t 4)) (s+3000),q 9 (.dD (.t 0)) (s+3001),q 10 (.len (.t 9)) (s+3002),q 11 (.bin .lss .i64 (.t 8) (.t 10)) (s+3003)]) (.cond (.t 11) .skip (.exit 0))) (.seq (.block 1 (.eD false [q 14 (.dD (.t 3)) (s+5000),q 15 (.dD (.t 4)) (s+5001),q 16 (.dD (.t 0)) (s+5002),q 17 (.dD (.t 4)) (s+5003),q 18 (.ef 1 (.t 16) (.t 17)) (s+5004),q 19 (.load false 1 (.t 18)) (s+5005),q 20 (.ef 1 (.t 14) (.t 15)) (s+5006),⟨none,(.store 1 (.t 20) (.t 19)),none,(s+5007),[]⟩])) (.eD false [q 12 (.dD (.t 4)) (s+4000),q 13 (.bin .add .i64 (.t 12) (.k (.int .i64 1))) (s+4001),q 4 (.dD (.t 13)) (s+4002)])))))) (.seq (.eD false [q 21 (.dD (.t 3)) (s+6000),q 2 (.dD (.t 21)) (s+6001)]) .ret)))),[(.tmp 2)]⟩
def u9 (n:Nat) (l:Int):Int:=if (n:Int)<=l then l-n else -1
theorem HA {fk:Nat} (hc:lN P fk=some (Hz fk)) (rows:List (List AV)) (left:Int) (h0:0<=left) (h1:left<=1048576):ak P fk [.sl rows,.int .i64 left] (.int .i64 (u9 rows.length left)):=by
 refine ak.body hc rfl fun hl n0=>?_
 try simp only[q]
 have hn:rows.length<=9223372036854775807:=(hl (.sl rows) (by simp)).len
 clear hl
 have hw:IntKind.i64.wrap (left-(rows.length:Int))=left-rows.length:=bP ad
 by_cases hf:(rows.length:Int)<=left
 ·have mJ:¬left-(rows.length:Int)<0:=ad
  (try((repeat(revert hN;revert N;apply Pn.out));refine wk (tw @hw @mJ) ?_;(repeat(refine Pn.mk ?_;intro N hN))))
  exact cH (b:=left-(rows.length:Int)) (.inl rfl) (sd @Nat.zero_add) (by rw[u9,if_pos hf])
 ·have mJ:left-(rows.length:Int)<0:=ad
  (try((repeat(revert hN;revert N;apply Pn.out));refine wk (tw @hw @mJ) ?_;(repeat(refine Pn.mk ?_;intro N hN))))
  exact cH (b:=-1) (.inl rfl) (sd @Nat.zero_add) (by rw[u9,if_neg hf])
def e6 {α:Type} (f:α->Nat) (xs:List α) (k:Nat):Nat:=((xs.take k).map f).sum
theorem jd {α:Type} (f:α->Nat) (xs:List α):e6 f xs 0=0:=by simp[e6]
theorem pT {α:Type} (f:α->Nat) (xs:List α):e6 f xs xs.length=(xs.map f).sum:=by simp[e6]
theorem lF {α:Type} (f:α->Nat) {xs:List α} {k:Nat} (hk:k<xs.length):e6 f xs (k+1)=e6 f xs k+f xs[k]:=by
 unfold e6
 rw[List.take_succ_eq_append_getElem hk,List.map_append,List.sum_append];simp
theorem jh {α:Type} (f:α->Nat) (xs:List α) (k:Nat):e6 f xs k<=(xs.map f).sum:=by
 unfold e6
 conv=>rhs;rw[<-List.take_append_drop k xs]
 rw[List.map_append,List.sum_append];omega
theorem HC {α:Type} {e:α->List AV} {z fk gk:Nat} (wt:α->Nat) (hc:lN P fk=some (HB fk gk z)) (hz:∀x,(e x).length=z) (Cx:∀x g,cR g 6 [.agg (e x)]=some [.agg (e x)]) (xs:List α) (left:Int) (h0:0<=left) (h1:left<=1048576)
  (hg:∀x∈xs,∀l:Int,0<=l->l<=1048576->ak P gk [.agg (e x),.int .i64 l] (.int .i64 (u9 (wt x) l))):ak P fk [.sl (xs.map e),.int .i64 left] (.int .i64 (u9 (xs.length+(xs.map wt).sum) left)):=by
 refine ak.body hc rfl fun hl n0=>?_
 try simp only[q]
 have hn:xs.length<=9223372036854775807:=by simpa using(hl (.sl (xs.map e)) (by simp)).len
 clear hl
 have hw:IntKind.i64.wrap (left-(xs.length:Int))=left-xs.length:=bP ad
 by_cases hf:(xs.length:Int)<=left
 ·have mJ:¬left-(xs.length:Int)<0:=ad
  (try((repeat(revert hN;revert N;apply Pn.out));refine wk (tw @hw @mJ) ?_;(repeat(refine Pn.mk ?_;intro N hN))))
  refine bp (fun n env st=>∃k:Nat,n=(xs.length)-k/\k<=(xs.length)/\env 5=.int .i64 (k:Int)/\env 1=(.int .i64 (left-xs.length-(e6 wt xs k:Nat)))/\(0<=left-xs.length-(e6 wt xs k:Nat))) (xs.length) ⟨0,ad,ad,sl (tw @jd (tw @Int.natCast_zero @Int.sub_zero)),sl (tw @jd (tw @Int.natCast_zero @Int.sub_zero)),(by rw[jd];omega)⟩ ?_
  rintro n_a env_a st_a ⟨k,rfl,ale,a5,a1,aI0⟩ dt
  have a0:=dt 0 (by kernel_rfl)
  simp only[go_sem, ↓reduceIte,Nat.reduceEqDiff,Nat.reduceAdd,Nat.reduceSub,Nat.reduceLeDiff,reduceCtorEq,jd,Int.natCast_zero,Int.sub_zero]at a0
  clear dt
  by_cases hk:(k:Int)<(xs.length:Int)
  ·have bK:∀{e:Env},(e 5=.int .i64 (IntKind.i64.wrap ((k:Int)+1)))->(e 1=(.int .i64 (left-xs.length-(e6 wt xs (k+1):Nat))))->(0<=left-xs.length-(e6 wt xs (k+1):Nat))->∃m0,m0<(xs.length)-k/\∃k:Nat,m0=(xs.length)-k/\k<=(xs.length)/\e 5=.int .i64 (k:Int)/\e 1=(.int .i64 (left-xs.length-(e6 wt xs k:Nat)))/\(0<=left-xs.length-(e6 wt xs k:Nat)):=fun x1 x2 x3=>⟨_,ad,k+1,rfl,ad,(by rw[x1,aA ad]),x2,x3⟩
   have eo:k<xs.length:=ad
   have eC:(xs.map e)[k]? =some (e xs[k]):=by simp[eo]
   have oU:=hz xs[k]
   have ht:(e xs[k]).take z=e xs[k]:=by rw[<-oU,List.take_length]
   have hs:=lF wt eo
   have A6:=jh wt xs (k+1)
   have gx:=hg _ (List.getElem_mem eo) (left-xs.length-(e6 wt xs k:Nat)) aI0 ad
   have jw:cR (dG st_a.get) 6 [.agg (e xs[k]),.int .i64 (left-xs.length-(e6 wt xs k:Nat))]=some [.agg (e xs[k]),.int .i64 (left-xs.length-(e6 wt xs k:Nat))]:=by
    have q1:=Cx xs[k] (dG st_a.get)
    rw[ab,ae]at q1
    rw[ab,ab,ae,az]
    revert q1
    cases V.fz (dG st_a.get) 6 (.agg (e xs[k]))<;>simp
   by_cases yu:(wt xs[k]:Int)<=left-xs.length-(e6 wt xs k:Nat)
   ·rw[u9,if_pos yu]at gx
    have RQ:¬left-xs.length-(e6 wt xs k:Nat)-(wt xs[k]:Int)<0:=ad
    have yD:left-xs.length-(e6 wt xs k:Nat)-(wt xs[k]:Int)=left-xs.length-(e6 wt xs (k+1):Nat):=by rw[hs];omega
    generalize hex:e xs[k]=c at gx jw eC oU ht
    (try((repeat(revert hN;revert N;apply Pn.out));refine wk (tw @a5 (tw @a1 (tw @a0 (tw @hk (tw @eC (tw @oU (tw @ht @Nat.le_refl))))))) ?_;(repeat(refine Pn.mk ?_;intro N hN))))
    refine .inl ⟨_,ak.x gx jw,?_⟩
    refine hN _ _ ?_
    clear hN N
    (try((repeat(revert hN;revert N;apply Pn.out));refine wk (tw @a5 (tw @a1 (tw @a0 @RQ))) ?_;(repeat(refine Pn.mk ?_;intro N hN))))
    refine bK ?_ ?_ ((by rw[hs];omega))
    all_goals simp only[go_sem, ↓reduceIte,Nat.reduceEqDiff,Nat.reduceAdd,Nat.reduceSub,Nat.reduceLeDiff,reduceCtorEq,a5,a1,a0,yD]
   ·rw[u9,if_neg yu]at gx
    generalize hex:e xs[k]=c at gx jw eC oU ht
    (try((repeat(revert hN;revert N;apply Pn.out));refine wk (tw @a5 (tw @a1 (tw @a0 (tw @hk (tw @eC (tw @oU (tw @ht @Nat.le_refl))))))) ?_;(repeat(refine Pn.mk ?_;intro N hN))))
    refine .inl ⟨_,ak.x gx jw,?_⟩
    refine hN _ _ ?_
    clear hN N
    (try((repeat(revert hN;revert N;apply Pn.out));refine wk (tw @a5 (tw @a1 @a0)) ?_;(repeat(refine Pn.mk ?_;intro N hN))))
    exact cH (b:=-1) (.inl rfl) (sd @Nat.zero_add) (by rw[u9,if_neg ad])
  ·(try((repeat(revert hN;revert N;apply Pn.out));refine wk (tw @a5 (tw @a1 (tw @a0 @hk))) ?_;(repeat(refine Pn.mk ?_;intro N hN))))
   have eo:k=xs.length:=ad
   subst eo
   have Qe:=pT wt xs
   exact cH (b:=left-xs.length-(e6 wt xs xs.length:Nat)) (.inl rfl) (sd (tw @a5 (tw @a1 @a0))) (by rw[u9,if_pos ad];omega)
 ·have mJ:left-(xs.length:Int)<0:=ad
  (try((repeat(revert hN;revert N;apply Pn.out));refine wk (tw @hw @mJ) ?_;(repeat(refine Pn.mk ?_;intro N hN))))
  exact cH (b:=-1) (.inl rfl) (sd @Nat.zero_add) (by rw[u9,if_neg ad])
theorem F0 {α:Type} {xs ys:List α} (hl:xs.length=ys.length) (h:∀j:Nat,j<xs.length->∀(h1:j<xs.length) (h2:j<ys.length),xs[j]=ys[j]):xs=ys:=List.ext_getElem hl fun j h1 h2=>h j h1 h1 h2
theorem Ax {α:Type} [DecidableEq α] {e:α->List AV} {z fk gk:Nat} (hc:lN P fk=some (Cl fk gk z)) (hz:∀x,(e x).length=z) (Cx:∀x g,cR g 6 [.agg (e x)]=some [.agg (e x)]) (xs ys:List α)
  (hg:∀x y,ak P gk [.agg (e x),.agg (e y)] (.bool (decide (x=y)))):ak P fk [.sl (xs.map e),.sl (ys.map e)] (.bool (decide (xs=ys))):=by
 refine ak.body hc rfl fun hl n0=>?_
 try simp only[q]
 have hn:xs.length<=9223372036854775807:=by simpa using(hl (.sl (xs.map e)) (by simp)).len
 clear hl
 by_cases hlen:xs.length=ys.length
 ·have jU:decide ((xs.length:Int)=(ys.length:Int))=true:=by simp[hlen]
  (try((repeat(revert hN;revert N;apply Pn.out));refine wk @jU ?_;(repeat(refine Pn.mk ?_;intro N hN))))
  refine bp (fun n env st=>∃k:Nat,n=(xs.length)-k/\k<=(xs.length)/\env 5=.int .i64 (k:Int)/\(∀j:Nat,j<k->∀(h1:j<xs.length) (h2:j<ys.length),xs[j]=ys[j])) (xs.length) ⟨0,ad,ad,sl @Nat.zero_add,fun _ h=>absurd h (Nat.not_lt_zero _)⟩ ?_
  rintro n_a env_a st_a ⟨k,rfl,ale,a5,aA0⟩ dt
  have a0:=dt 0 (by kernel_rfl);have a1:=dt 1 (by kernel_rfl)
  simp only[go_sem, ↓reduceIte,Nat.reduceEqDiff,Nat.reduceAdd,Nat.reduceSub,Nat.reduceLeDiff,reduceCtorEq]at a0 a1
  clear dt
  by_cases hk:(k:Int)<(xs.length:Int)
  ·have bK:∀{e:Env},(e 5=.int .i64 (IntKind.i64.wrap ((k:Int)+1)))->(∀(h1:k<xs.length) (h2:k<ys.length),xs[k]=ys[k])->∃m0,m0<(xs.length)-k/\∃k:Nat,m0=(xs.length)-k/\k<=(xs.length)/\e 5=.int .i64 (k:Int)/\(∀j:Nat,j<k->∀(h1:j<xs.length) (h2:j<ys.length),xs[j]=ys[j]):=fun x1 x2=>⟨_,ad,k+1,rfl,ad,(by rw[x1,aA ad]),(all_succ aA0 x2)⟩
   have eo:k<xs.length:=ad
   have LV:k<ys.length:=ad
   have eC:(xs.map e)[k]? =some (e xs[k]):=by simp[eo]
   have AU:(ys.map e)[k]? =some (e ys[k]):=by simp[LV]
   have oU:=hz xs[k]
   have A9:=hz ys[k]
   have ht:(e xs[k]).take z=e xs[k]:=by rw[<-oU,List.take_length]
   have Fj:(e ys[k]).take z=e ys[k]:=by rw[<-A9,List.take_length]
   have gx:=hg xs[k] ys[k]
   have jw:∀g,cR g 6 [.agg (e xs[k]),.agg (e ys[k])]=some [.agg (e xs[k]),.agg (e ys[k])]:=fun g=>by
    have q1:=Cx xs[k] g
    have q2:=Cx ys[k] g
    rw[ab,ae]at q1
    rw[ab,q2]
    revert q1
    cases V.fz g 6 (.agg (e xs[k]))<;>simp
   by_cases heq:xs[k]=ys[k]
   ·rw[decide_eq_true heq]at gx
    generalize hex:e xs[k]=c at gx jw eC oU ht
    generalize hey:e ys[k]=d at gx jw AU A9 Fj
    (try((repeat(revert hN;revert N;apply Pn.out));refine wk (tw @a5 (tw @a0 (tw @a1 (tw @hk (tw @eC (tw @AU (tw @oU (tw @A9 (tw @ht (tw @Fj @Nat.le_refl)))))))))) ?_;(repeat(refine Pn.mk ?_;intro N hN))))
    refine⟨_,ak.x gx (jw _),?_⟩
    refine hN _ _ ?_
    clear hN N
    (try((repeat(revert hN;revert N;apply Pn.out));refine wk (tw @a5 (tw @a0 @a1)) ?_;(repeat(refine Pn.mk ?_;intro N hN))))
    exact bK (sd (tw @a5 (tw @a0 @a1))) (fun _ _=>heq)
   ·rw[decide_eq_false heq]at gx
    generalize hex:e xs[k]=c at gx jw eC oU ht
    generalize hey:e ys[k]=d at gx jw AU A9 Fj
    (try((repeat(revert hN;revert N;apply Pn.out));refine wk (tw @a5 (tw @a0 (tw @a1 (tw @hk (tw @eC (tw @AU (tw @oU (tw @A9 (tw @ht (tw @Fj @Nat.le_refl)))))))))) ?_;(repeat(refine Pn.mk ?_;intro N hN))))
    refine⟨_,ak.x gx (jw _),?_⟩
    refine hN _ _ ?_
    clear hN N
    (try((repeat(revert hN;revert N;apply Pn.out));refine wk (tw @a5 (tw @a0 @a1)) ?_;(repeat(refine Pn.mk ?_;intro N hN))))
    exact bt (b:=false) (.inl rfl) (sd @Nat.zero_add) (decide_eq_false fun h=>heq (List.getElem_of_eq h _)).symm
  ·(try((repeat(revert hN;revert N;apply Pn.out));refine wk (tw @a5 (tw @a0 (tw @a1 @hk))) ?_;(repeat(refine Pn.mk ?_;intro N hN))))
   exact bt (b:=true) (.inl rfl) (sd @Nat.zero_add) (decide_eq_true (F0 hlen fun j hj h1 h2=>aA0 j ad h1 h2)).symm
 ·have jU:decide ((xs.length:Int)=(ys.length:Int))=false:=decide_eq_false fun h=>hlen ad
  (try((repeat(revert hN;revert N;apply Pn.out));refine wk @jU ?_;(repeat(refine Pn.mk ?_;intro N hN))))
  exact bt (b:=false) (.inl rfl) (sd @Nat.zero_add) (decide_eq_false fun h=>hlen (by subst h;rfl)).symm
theorem N2 {fk:Nat} (hc:lN P fk=some (Ke fk .tI)) (xs ys:List Int):
  ak P fk [.sl (xs.map fun x=>[AV.int .i64 x]),.sl (ys.map fun x=>[AV.int .i64 x])] (.bool (decide (xs=ys))):=by
 refine ak.body hc rfl fun hl n0=>?_
 try simp only[q]
 have hn:xs.length<=9223372036854775807:=by simpa using(hl (.sl (xs.map fun x=>[AV.int .i64 x])) (by simp)).len
 clear hl
 by_cases hlen:xs.length=ys.length
 ·have jU:decide ((xs.length:Int)=(ys.length:Int))=true:=by simp[hlen]
  (try((repeat(revert hN;revert N;apply Pn.out));refine wk @jU ?_;(repeat(refine Pn.mk ?_;intro N hN))))
  refine bp (fun n env st=>∃k:Nat,n=(xs.length)-k/\k<=(xs.length)/\env 5=.int .i64 (k:Int)/\(∀j:Nat,j<k->∀(h1:j<xs.length) (h2:j<ys.length),xs[j]=ys[j])) (xs.length) ⟨0,ad,ad,sl @Nat.zero_add,fun _ h=>absurd h (Nat.not_lt_zero _)⟩ ?_
  rintro n_a env_a st_a ⟨k,rfl,ale,a5,aA0⟩ dt
  have a0:=dt 0 (by kernel_rfl);have a1:=dt 1 (by kernel_rfl)
  simp only[go_sem, ↓reduceIte,Nat.reduceEqDiff,Nat.reduceAdd,Nat.reduceSub,Nat.reduceLeDiff,reduceCtorEq]at a0 a1
  clear dt
  by_cases hk:(k:Int)<(xs.length:Int)
  ·have bK:∀{e:Env},(e 5=.int .i64 (IntKind.i64.wrap ((k:Int)+1)))->(∀(h1:k<xs.length) (h2:k<ys.length),xs[k]=ys[k])->∃m0,m0<(xs.length)-k/\∃k:Nat,m0=(xs.length)-k/\k<=(xs.length)/\e 5=.int .i64 (k:Int)/\(∀j:Nat,j<k->∀(h1:j<xs.length) (h2:j<ys.length),xs[j]=ys[j]):=fun x1 x2=>⟨_,ad,k+1,rfl,ad,(by rw[x1,aA ad]),(all_succ aA0 x2)⟩
   have eo:k<xs.length:=ad
   have LV:k<ys.length:=ad
   have eC:(xs.map fun x=>[AV.int .i64 x])[k]? =some [.int .i64 xs[k]]:=by simp[eo]
   have AU:(ys.map fun x=>[AV.int .i64 x])[k]? =some [.int .i64 ys[k]]:=by simp[LV]
   by_cases heq:xs[k]=ys[k]
   ·have hq:=decide_eq_true heq
    (try((repeat(revert hN;revert N;apply Pn.out));refine wk (tw @a5 (tw @a0 (tw @a1 (tw @hk (tw @eC (tw @AU @hq)))))) ?_;(repeat(refine Pn.mk ?_;intro N hN))))
    exact bK (sd (tw @a5 (tw @a0 @a1))) (fun _ _=>heq)
   ·have hq:=decide_eq_false heq
    (try((repeat(revert hN;revert N;apply Pn.out));refine wk (tw @a5 (tw @a0 (tw @a1 (tw @hk (tw @eC (tw @AU @hq)))))) ?_;(repeat(refine Pn.mk ?_;intro N hN))))
    exact bt (b:=false) (.inl rfl) (sd @Nat.zero_add) (decide_eq_false fun h=>heq (List.getElem_of_eq h _)).symm
  ·(try((repeat(revert hN;revert N;apply Pn.out));refine wk (tw @a5 (tw @a0 (tw @a1 @hk))) ?_;(repeat(refine Pn.mk ?_;intro N hN))))
   exact bt (b:=true) (.inl rfl) (sd @Nat.zero_add) (decide_eq_true (F0 hlen fun j hj h1 h2=>aA0 j ad h1 h2)).symm
 ·have jU:decide ((xs.length:Int)=(ys.length:Int))=false:=decide_eq_false fun h=>hlen ad
  (try((repeat(revert hN;revert N;apply Pn.out));refine wk @jU ?_;(repeat(refine Pn.mk ?_;intro N hN))))
  exact bt (b:=false) (.inl rfl) (sd @Nat.zero_add) (decide_eq_false fun h=>hlen (by subst h;rfl)).symm
theorem se (l:List AV):l++[]=l:=List.append_nil l
def fU {α:Type} (e:α->List AV) (zc:List AV) (xs:List α) (k:Nat):List (List AV):=(xs.take k).map e++List.replicate (xs.length-k) zc
theorem mv {α:Type} (e:α->List AV) (zc:List AV) (xs:List α):List.replicate xs.length zc=fU e zc xs 0:=by simp[fU]
theorem oA {α:Type} (e:α->List AV) (zc:List AV) (xs:List α):fU e zc xs xs.length=xs.map e:=by simp[fU]
theorem oB {α:Type} (e:α->List AV) (zc:List AV) (xs:List α) {k:Nat} (hk:k<xs.length):(fU e zc xs k)[k]? =some zc:=by
 have h1:((xs.take k).map e).length=k:=by simp;omega
 rw[fU,List.getElem?_append_right ad,h1,Nat.sub_self,List.getElem?_replicate,if_pos ad]
theorem oC {α:Type} (e:α->List AV) (zc:List AV) (xs:List α) {k:Nat} (hk:k<xs.length):(fU e zc xs k).set k (e xs[k])=fU e zc xs (k+1):=by
 have h1:((xs.take k).map e).length=k:=by simp;omega
 rw[fU,List.set_append_right _ _ ad,h1,Nat.sub_self,fU,List.take_succ_eq_append_getElem hk,List.map_append,List.append_assoc]
 congr 1
 obtain⟨m,hm⟩:∃m,xs.length-k=m+1:=⟨xs.length-k-1,ad⟩
 rw[hm,show xs.length-(k+1)=m by omega,List.replicate_succ]
 rfl
theorem BS {α:Type} {en:α->List AV} {z fk gk:Nat} {zero:List K} (hc:lN P fk=some (rm fk gk z zero)) (Fl:zero.length=z) (hz:∀x,(en x).length=z) (iV:∀x,(en x).all AV.cell=true) (Cx:∀x g,cR g 5 (en x)=some (en x)) (xs:List α) (hlen:xs.length<=1048576)
  (hg:∀x∈xs,ki P gk [.agg (en x)] (.agg (en x))):ki P fk [.sl (xs.map en)] (.sl (xs.map en)):=by
 refine ki.body hc rfl fun hl σ=>?_
 try simp only[q]
 clear hl
 have hm:(xs.length:Int)<=((16777216:Nat):Int):=ad
 have h0:(0:Int)<=(xs.length:Int):=ad
 (try((repeat(revert hN;revert N;apply Pn.out));refine wk (tw @hm (tw @h0 (tw @Int.le_refl (tw (mv en (zero.map K.av) xs) @Fl)))) ?_;(repeat(refine Pn.mk ?_;intro N hN))))
 refine bp (fun n env st=>∃k:Nat,n=(xs.length)-k/\k<=(xs.length)/\env 4=.int .i64 (k:Int)/\st.get ⟨fk*1000000+1002,σ.next+1⟩=some ⟨true,z,fU en (zero.map K.av) xs k⟩) (xs.length) ⟨0,ad,ad,sl @Nat.zero_add,sl @Nat.zero_add⟩ ?_
 rintro n_a env_a st_a ⟨k,rfl,ale,a4,ag0⟩ dt
 have a0:=dt 0 (by kernel_rfl);have a3:=dt 3 (by kernel_rfl)
 simp only[go_sem, ↓reduceIte,Nat.reduceEqDiff,Nat.reduceAdd,Nat.reduceSub,Nat.reduceLeDiff,reduceCtorEq]at a0 a3
 clear dt
 by_cases hk:(k:Int)<(xs.length:Int)
 ·have bK:∀{e:Env} {gg:Rows},(e 4=.int .i64 (IntKind.i64.wrap ((k:Int)+1)))->(gg ⟨fk*1000000+1002,σ.next+1⟩=some ⟨true,z,fU en (zero.map K.av) xs (k+1)⟩)->∃m0,m0<(xs.length)-k/\∃k:Nat,m0=(xs.length)-k/\k<=(xs.length)/\e 4=.int .i64 (k:Int)/\gg ⟨fk*1000000+1002,σ.next+1⟩=some ⟨true,z,fU en (zero.map K.av) xs k⟩:=fun x1 x2=>⟨_,ad,k+1,rfl,ad,(by rw[x1,aA ad]),x2⟩
  have eo:k<xs.length:=ad
  have eC:(xs.map en)[k]? =some (en xs[k]):=by simp[eo]
  have oU:=hz xs[k]
  have HZ:=iV xs[k]
  have ht:(en xs[k]).take z=en xs[k]:=by rw[<-oU,List.take_length]
  have gx:=hg _ (List.getElem_mem eo)
  have kM:=oB en (zero.map K.av) xs eo
  have eX:=oC en (zero.map K.av) xs eo
  have Gi:(zero.map K.av).drop z=[]:=List.drop_of_length_le (by simp[Fl])
  generalize hex:en xs[k]=c at gx eC oU ht HZ eX
  (repeat(first|((repeat(revert hN;revert N;apply Pn.out));refine wk (tw @a4 (tw @ag0 (tw @a0 (tw @a3 (tw @hk (tw @eC (tw @oU (tw @ht (tw @Nat.le_refl (tw @kM (tw @eX (tw @Gi (tw @se (tw @HZ @Fl)))))))))))))) ?_;(repeat(refine Pn.mk ?_;intro N hN)))|((try apply Or.inl);refine⟨_,ki.x (gx) _,?_⟩;refine hN _ _ ?_;clear hN N)))
  refine bK ?_ ?_
  all_goals simp only[go_sem, ↓reduceIte,Nat.reduceEqDiff,Nat.reduceAdd,Nat.reduceSub,Nat.reduceLeDiff,reduceCtorEq,a4,ag0,a0,a3]
 ·(try((repeat(revert hN;revert N;apply Pn.out));refine wk (tw @a4 (tw @ag0 (tw @a0 (tw @a3 @hk)))) ?_;(repeat(refine Pn.mk ?_;intro N hN))))
  have eo:k=xs.length:=ad
  subst eo
  refine PF (.inl rfl) (r0:=.own ⟨fk*1000000+1002,σ.next+1⟩ 0 xs.length) (sd (tw @a4 (tw @ag0 (tw @a0 @a3)))) ?_
  rw[oA]at ag0
  exact fF ag0 (by simp) fun x=>Cx x _
theorem PK {fk:Nat} (hc:lN P fk=some (HJ fk (.int .i64 0))) (xs:List Int) (hlen:xs.length<=1048576):ki P fk [.sl (xs.map fun x=>[AV.int .i64 x])] (.sl (xs.map fun x=>[AV.int .i64 x])):=by
 refine ki.body hc rfl fun hl σ=>?_
 try simp only[q]
 clear hl
 obtain⟨en,H0⟩:∃en:Int->List AV,en=fun x=>[AV.int .i64 x]:=⟨_,rfl⟩
 rw[<-H0]
 have hm:(xs.length:Int)<=((16777216:Nat):Int):=ad
 have h0:(0:Int)<=(xs.length:Int):=ad
 (try((repeat(revert hN;revert N;apply Pn.out));refine wk (tw @hm (tw @h0 (tw @Int.le_refl (mv en [AV.int .i64 0] xs)))) ?_;(repeat(refine Pn.mk ?_;intro N hN))))
 refine bp (fun n env st=>∃k:Nat,n=(xs.length)-k/\k<=(xs.length)/\env 4=.int .i64 (k:Int)/\st.get ⟨fk*1000000+1002,σ.next+1⟩=some ⟨true,1,fU en [AV.int .i64 0] xs k⟩) (xs.length) ⟨0,ad,ad,sl @Nat.zero_add,sl @Nat.zero_add⟩ ?_
 rintro n_a env_a st_a ⟨k,rfl,ale,a4,ag0⟩ dt
 have a0:=dt 0 (by kernel_rfl);have a3:=dt 3 (by kernel_rfl)
 simp only[go_sem, ↓reduceIte,Nat.reduceEqDiff,Nat.reduceAdd,Nat.reduceSub,Nat.reduceLeDiff,reduceCtorEq]at a0 a3
 clear dt
 by_cases hk:(k:Int)<(xs.length:Int)
 ·have bK:∀{e:Env} {gg:Rows},(e 4=.int .i64 (IntKind.i64.wrap ((k:Int)+1)))->(gg ⟨fk*1000000+1002,σ.next+1⟩=some ⟨true,1,fU en [AV.int .i64 0] xs (k+1)⟩)->∃m0,m0<(xs.length)-k/\∃k:Nat,m0=(xs.length)-k/\k<=(xs.length)/\e 4=.int .i64 (k:Int)/\gg ⟨fk*1000000+1002,σ.next+1⟩=some ⟨true,1,fU en [AV.int .i64 0] xs k⟩:=fun x1 x2=>⟨_,ad,k+1,rfl,ad,(by rw[x1,aA ad]),x2⟩
  have eo:k<xs.length:=ad
  have eC:(xs.map en)[k]? =some [AV.int .i64 xs[k]]:=by simp[eo,H0]
  have kM:=oB en [AV.int .i64 0] xs eo
  have eX:=oC en [AV.int .i64 0] xs eo
  rw[show en xs[k]=[AV.int .i64 xs[k]] by rw[H0]]at eX
  (try((repeat(revert hN;revert N;apply Pn.out));refine wk (tw @a4 (tw @ag0 (tw @a0 (tw @a3 (tw @hk (tw @eC (tw @kM @eX))))))) ?_;(repeat(refine Pn.mk ?_;intro N hN))))
  refine bK ?_ ?_
  all_goals simp only[go_sem, ↓reduceIte,Nat.reduceEqDiff,Nat.reduceAdd,Nat.reduceSub,Nat.reduceLeDiff,reduceCtorEq,a4,ag0,a0,a3]
 ·(try((repeat(revert hN;revert N;apply Pn.out));refine wk (tw @a4 (tw @ag0 (tw @a0 (tw @a3 @hk)))) ?_;(repeat(refine Pn.mk ?_;intro N hN))))
  have eo:k=xs.length:=ad
  subst eo
  refine PF (.inl rfl) (r0:=.own ⟨fk*1000000+1002,σ.next+1⟩ 0 xs.length) (sd (tw @a4 (tw @ag0 (tw @a0 @a3)))) ?_
  rw[oA]at ag0
  exact fF ag0 (by simp) fun x=>by simp[H0,ab,ae,az]
end Go.Proofs.YtphenfakmdknlaaGreat.V

namespace Go.Proofs.YtphenfakmdknlaaGreat
open Go.RowKit
def Sl (w:World) (fp:List Nat) (v:Value) (n:Nat) (xs:List Value):Prop:=
 ∃A c,v=.slice A n c/\n<=c/\c<=maxLen/\
  ((fp=[]/\n=0)∨∃b o,fp=[b]/\A=some ⟨b,o,none⟩/\∀j u,xs[j]? =some u->w.cell? ⟨b,o+j,none⟩=some u)
def fD (fp:List Nat) (lo hi:Nat):Prop:=∀b∈fp,lo<=b/\b<hi
theorem fD.nil (lo hi:Nat):fD [] lo hi:=fun _ h=>by cases h
theorem Sl.nil (w:World):Sl w [] (.slice none 0 0) 0 []:=⟨none,0,rfl,Nat.le_refl _,by simp[maxLen],.inl ⟨rfl,rfl⟩⟩
def K3 {α:Type} (rep:World->List Nat->List Value->α->Prop) (sz:Nat) (w:World) (mz:List (List Value)) (Cm:List (List Nat)) (ds:List α):Prop:=
 mz.length=ds.length/\Cm.length=ds.length/\∀(i:Nat) (cs:List Value) (f:List Nat) (d:α),mz[i]? =some cs->Cm[i]? =some f->ds[i]? =some d->rep w f cs d/\cs.length=sz
def lj {α:Type} (rep:World->List Nat->List Value->α->Prop) (sz:Nat) (w:World) (fp:List Nat) (v:Value) (ds:List α):Prop:=
 ∃mz Cm QU,fp=QU++Cm.flatten/\Sl w QU v ds.length mz.flatten/\K3 rep sz w mz Cm ds
theorem oO {α:Type} {Cm:List (List α)} {i:Nat} {f:List α} (h:Cm[i]? =some f):∀b∈f,b∈Cm.flatten:=fun b hb=>
 List.mem_flatten.2 ⟨f,List.mem_of_getElem? h,hb⟩
theorem qY {α:Type} {mz:List (List α)} {sz:Nat} (h:∀cs∈mz,cs.length=sz) {i j:Nat} {cs:List α} (hi:mz[i]? =some cs) (hj:j<sz):mz.flatten[i*sz+j]? =cs[j]? :=by
 induction mz generalizing i with
 |nil=>simp at hi
 |cons c r ih=>
  have hc:c.length=sz:=h c (by simp)
  cases i with
  |zero=>
   simp at hi;subst hi
   rw[List.flatten_cons,List.getElem?_append_left (by omega)];simp
  |succ i=>
   rw[List.flatten_cons,List.getElem?_append_right (by rw[hc,Nat.succ_mul];omega)]
   have:(i+1)*sz+j-c.length=i*sz+j:=by rw[hc,Nat.succ_mul];omega
   rw[this]
   exact ih (fun cs dx=>h cs (List.mem_cons_of_mem _ dx)) (by simpa using hi)
theorem K3.lens {α:Type} {rep:World->List Nat->List Value->α->Prop} {sz:Nat} {w:World} {mz:List (List Value)} {Cm:List (List Nat)} {ds:List α}
  (h:K3 rep sz w mz Cm ds):∀cs∈mz,cs.length=sz:=fun cs dx=>by
 obtain⟨i,hi,rfl⟩:=List.getElem_of_mem dx
 have h1:i<Cm.length:=by rw[h.2.1,<-h.1];exact hi
 have h2:i<ds.length:=by rw[<-h.1];exact hi
 exact(h.2.2 i _ _ _ (List.getElem?_eq_getElem hi) (List.getElem?_eq_getElem h1) (List.getElem?_eq_getElem h2)).2
theorem lj.at_ {α:Type} {rep:World->List Nat->List Value->α->Prop} {sz:Nat} {w:World} {fp:List Nat} {A:Option Addr} {n c:Nat} {ds:List α}
  (h:lj rep sz w fp (.slice A n c) ds) (k:Nat) (hk:k<ds.length):
  ∃b o cs f,A=some ⟨b,o,none⟩/\b∈fp/\(∀x∈f,x∈fp)/\rep w f cs ds[k]/\cs.length=sz/\∀j u,cs[j]? =some u->w.cell? ⟨b,o+(k*sz+j),none⟩=some u:=by
 obtain⟨mz,Cm,QU,rfl,⟨A',c',hv,_,_,hc⟩,hr⟩:=h
 simp only[Value.slice.injEq]at hv
 obtain⟨rfl,hn,rfl⟩:=hv
 rcases hc with⟨_,h0⟩|⟨b,o,rfl,rfl,hc⟩
 ·omega
 have h1:k<mz.length:=by rw[hr.1];exact hk
 have h2:k<Cm.length:=by rw[hr.2.1];exact hk
 obtain⟨km,hl⟩:=hr.2.2 k _ _ _ (List.getElem?_eq_getElem h1) (List.getElem?_eq_getElem h2) (List.getElem?_eq_getElem hk)
 refine⟨b,o,mz[k],Cm[k],rfl,by simp,fun x hx=>List.mem_append_right _ (oO (List.getElem?_eq_getElem h2) x hx),km,hl,fun j u hj=>?_⟩
 have gJ:j<sz:=by rw[<-hl];exact(List.getElem?_eq_some_iff.1 hj).1
 exact hc _ u (by rw[qY hr.lens (List.getElem?_eq_getElem h1) gJ];exact hj)
theorem lj.len {α:Type} {rep:World->List Nat->List Value->α->Prop} {sz:Nat} {w:World} {fp:List Nat} {v:Value} {ds:List α}
  (h:lj rep sz w fp v ds):∃A c,v=.slice A ds.length c/\ds.length<=c/\c<=maxLen:=by
 obtain⟨_,_,_,_,⟨A,c,hv,h1,h2,_⟩,_⟩:=h
 exact⟨A,c,hv,h1,h2⟩
theorem lj.nil {α:Type} (rep:World->List Nat->List Value->α->Prop) (sz:Nat) (w:World):lj rep sz w [] (.slice none 0 0) ([]:List α):=
 ⟨[],[],[],rfl,Sl.nil w,rfl,rfl,fun i cs f d hc=>by simp at hc⟩
def Flat {α:Type} (enc:α->List Value):World->List Nat->List Value->α->Prop:=fun _ f cs d=>f=[]/\cs=enc d
def Q (w w':World):Prop:=∃q,w'=w.drewN q
theorem NQ {B:Nat} {a w:World} (h:Below B a w) (n:Nat):Below B a (w.drewN n):=⟨h.os,h.tape,h.output,h.size,h.block⟩
theorem gF {a b:Bool} (h:a=b):Ending.returned (.bool a)=.returned (.bool b):=by rw[h]
theorem zo {k:IntKind} {a b:Int} (h:a=b):Ending.returned (.int k a)=.returned (.int k b):=by rw[h]
def Unf (w:World) (b:Nat):Prop:=∃cs e,w.heap[b]? =some (.cells cs e (0,0))
def putCells (w:World) (g:Nat):Nat->List Value->World
 |_,[]=>w
 |i,v::r=>putCells (w.setCell ⟨g,i,none⟩ v) g (i+1) r
structure Only (fp:List Nat) (w w':World):Prop where
 os:w'.os=w.os
 tape:w'.tape=w.tape
 output:w'.output=w.output
 size:w.heap.size<=w'.heap.size
 block:∀x,x<w.heap.size->x∉fp->w'.heap[x]? =w.heap[x]?
 unf:∀x,Unf w x->Unf w' x
structure br where
 fZ:Int
 fC:Int
deriving DecidableEq
structure ai where
 cG:br
 bU:Int
deriving DecidableEq
structure dV where
 aj:List ai
deriving DecidableEq
structure eV where
 aD:ByteArray
 ec:Int
deriving DecidableEq
structure eu where
 aD:ByteArray
 bB:List Int
deriving DecidableEq
structure ao where
 ay:List eV
 aj:List eu
deriving DecidableEq
structure eT where
 iU:ao
 gH:dV
 eK:Int
deriving DecidableEq
def Dy (d:Int):List Value:=[.int .i64 d]
def B5:=Flat Dy
def Av (d:ai):List Value:=[.int .i64 d.cG.fZ,.int .i64 d.cG.fC,.int .i64 d.bU]
def xt:=Flat Av
def kT:=lj xt 3
def FX (d:eV):List Value:=[.string d.aD,.int .i64 d.ec]
def Fx:=Flat FX
def oX:=lj Fx 2
def r8:=lj B5 1
def Fy (w:World) (f:List Nat) (cs:List Value) (d:eu):Prop:=
 ∃v1 f1,f=f1/\cs=[.string d.aD,v1]/\r8 w f1 v1 d.bB
def oY:=lj Fy 2
end Go.Proofs.YtphenfakmdknlaaGreat

namespace Go.Proofs.YtphenfakmdknlaaGreat.V
open Go.RowKit
variable {P:Program} {w:World} {D:Nat->Prop}
def Fs (P:Program) (w:World) (D:Nat->Prop) (al:List AV) (cs:List Value):Prop:=∀(j:Nat) (a:AV),al[j]? =some a->∃u:Value,cs[j]? =some u/\jk P w D a u
theorem pQ {α:Type} {rep:World->List Nat->List Value->α->Prop} {e:α->List AV} {sz:Nat} {f:List Nat} {v:Value} {xs:List α} (h:lj rep sz w f v xs) (hD:∀b∈f,D b)
  (hl:∀x∈xs,(e x).length=sz) (hc:∀x∈xs,∀a∈e x,a.cell=true) (hr:∀x∈xs,∀f' cs,rep w f' cs x->(∀b∈f',D b)->Fs P w D (e x) cs):jk P w D (.sl (xs.map e)) v:=by
 obtain⟨A,c,rfl,h1,h2⟩:=lj.len h
 by_cases h0:xs=[]
 ·subst h0;exact .zP _ _ h2
 have jo:0<xs.length:=List.length_pos_iff.2 h0
 obtain⟨b,o,Nk,f0,rfl,hb,Qj,R5,IJ,jF⟩:=lj.at_ h 0 jo
 have key:∀(i:Nat) (hi:i<xs.length),∃cs f',(∀x∈f',x∈f)/\rep w f' cs xs[i]/\cs.length=sz/\∀j u,cs[j]? =some u->w.cell? ⟨b,o+(i*sz+j),none⟩=some u:=by
  intro i hi
  obtain⟨b',o',cs,f',Qf,_,mJ,lS,dx,jT⟩:=lj.at_ h i hi
  simp only[Option.some.injEq,Addr.mk.injEq,and_true]at Qf
  obtain⟨rfl,rfl⟩:=Qf
  exact⟨cs,f',mJ,lS,dx,jT⟩
 refine .sl _ b o _ c sz (fun i j=>(w.cell? ⟨b,o+(i*sz+j),none⟩).getD Go.undef) (by simp) h1 h2 (hD b hb) ?_ ?_ ?_ ?_
 ·intro cs dx
  obtain⟨x,hx,rfl⟩:=List.mem_map.1 dx
  exact hl x hx
 ·intro cs dx
  obtain⟨x,hx,rfl⟩:=List.mem_map.1 dx
  exact hc x hx
 ·intro i j hi hj
  obtain⟨cs,f',_,_,dx,jT⟩:=key i hi
  rw[jT j cs[j] (List.getElem?_eq_getElem ad)]
  rfl
 ·intro i j cs a dx ha
  have hi:i<xs.length:=by
   have:=(List.getElem?_eq_some_iff.1 dx).1
   simpa using this
  obtain⟨oa,f',mJ,lS,hcs',jT⟩:=key i hi
  simp[hi]at dx
  subst dx
  obtain⟨u,hu,him⟩:=hr _ (List.getElem_mem hi) f' oa lS (fun b hb=>hD b (mJ b hb)) j a ha
  rw[jT j u hu]
  exact him
end Go.Proofs.YtphenfakmdknlaaGreat.V

namespace Go.Proofs.YtphenfakmdknlaaGreat.V
open Go.RowKit
variable {P:Program} {w:World} {D:Nat->Prop}
def aM (d:Int):List AV:=[.int .i64 d]
def aq (d:br):List AV:=[.int .i64 d.fZ,.int .i64 d.fC]
def ah (d:ai):List AV:=[.int .i64 d.cG.fZ,.int .i64 d.cG.fC,.int .i64 d.bU]
def aY (d:dV):List AV:=[.sl (d.aj.map ah)]
def bS (d:eV):List AV:=[.str d.aD,.int .i64 d.ec]
def bI (d:eu):List AV:=[.str d.aD,.sl (d.bB.map aM)]
def aa (d:ao):List AV:=[.sl (d.ay.map bS),.sl (d.aj.map bI)]
def Ix (d:eT):List AV:=[.sl (d.iU.ay.map bS),.sl (d.iU.aj.map bI),.sl (d.gH.aj.map ah),.int .i64 d.eK]
theorem xr {f:List Nat} {v:Value} {xs:List ai} (h:kT w f v xs) (hD:∀b∈f,D b):jk P w D (.sl (xs.map ah)) v:=
 pQ h hD (fun _ _=>rfl) (fun x _ a ha=>by simp[ah]at ha;rcases ha with rfl|rfl|rfl<;>rfl) fun x _ f' cs hr hf=>by
  obtain⟨_,rfl⟩:=hr
  intro j a ha
  match j,ha with
  |0,ha=>simp[ah]at ha;subst ha;exact⟨_,rfl,.int _ _⟩
  |1,ha=>simp[ah]at ha;subst ha;exact⟨_,rfl,.int _ _⟩
  |2,ha=>simp[ah]at ha;subst ha;exact⟨_,rfl,.int _ _⟩
  |j+3,ha=>simp[ah]at ha
theorem vn {d:dV} {f0:List Nat} {v0:Value} (h0:kT w f0 v0 d.aj) (d0:∀b∈f0,D b):jk P w D (.agg (aY d)) (.agg #[v0]):=by
 refine .agg _ _ (fun j=>(#[v0]:Array Value).getD j Go.undef) rfl (fun a ha=>by simp[aY]at ha;rcases ha with rfl<;>rfl) (fun j hj=>?_) (fun j a ha=>?_)
 ·match j,hj with
  |0,_=>rfl
  |j+1,hj=>simp[aY]at hj<;>omega
 ·match j,ha with
  |0,ha=>simp[aY]at ha;subst ha;exact xr h0 d0
  |j+1,ha=>simp[aY]at ha
theorem Db {f:List Nat} {v:Value} {xs:List eV} (h:oX w f v xs) (hD:∀b∈f,D b):jk P w D (.sl (xs.map bS)) v:=
 pQ h hD (fun _ _=>rfl) (fun x _ a ha=>by simp[bS]at ha;rcases ha with rfl|rfl<;>rfl) fun x _ f' cs hr hf=>by
  obtain⟨_,rfl⟩:=hr
  intro j a ha
  match j,ha with
  |0,ha=>simp[bS]at ha;subst ha;exact⟨_,rfl,.str _⟩
  |1,ha=>simp[bS]at ha;subst ha;exact⟨_,rfl,.int _ _⟩
  |j+2,ha=>simp[bS]at ha
theorem zX {f:List Nat} {v:Value} {xs:List Int} (h:r8 w f v xs) (hD:∀b∈f,D b):jk P w D (.sl (xs.map aM)) v:=
 pQ h hD (fun _ _=>rfl) (fun x _ a ha=>by simp[aM]at ha;rcases ha with rfl<;>rfl) fun x _ f' cs hr hf=>by
  obtain⟨_,rfl⟩:=hr
  intro j a ha
  match j,ha with
  |0,ha=>simp[aM]at ha;subst ha;exact⟨_,rfl,.int _ _⟩
  |j+1,ha=>simp[aM]at ha
theorem De {f:List Nat} {v:Value} {xs:List eu} (h:oY w f v xs) (hD:∀b∈f,D b):jk P w D (.sl (xs.map bI)) v:=
 pQ h hD (fun _ _=>rfl) (fun x _ a ha=>by simp[bI]at ha;rcases ha with rfl|rfl<;>rfl) fun x _ f' cs hr hf=>by
  obtain⟨v1,f1,rfl,rfl,h1⟩:=hr
  intro j a ha
  match j,ha with
  |0,ha=>simp[bI]at ha;subst ha;exact⟨_,rfl,.str _⟩
  |1,ha=>simp[bI]at ha;subst ha;exact⟨_,rfl,zX h1 hf⟩
  |j+2,ha=>simp[bI]at ha
theorem xx {d:ao} {f0:List Nat} {v0:Value} (h0:oX w f0 v0 d.ay) (d0:∀b∈f0,D b) {f1:List Nat} {v1:Value} (h1:oY w f1 v1 d.aj) (d1:∀b∈f1,D b):jk P w D (.agg (aa d)) (.agg #[v0,v1]):=by
 refine .agg _ _ (fun j=>(#[v0,v1]:Array Value).getD j Go.undef) rfl (fun a ha=>by simp[aa]at ha;rcases ha with rfl|rfl<;>rfl) (fun j hj=>?_) (fun j a ha=>?_)
 ·match j,hj with
  |0,_=>rfl
  |1,_=>rfl
  |j+2,hj=>simp[aa]at hj<;>omega
 ·match j,ha with
  |0,ha=>simp[aa]at ha;subst ha;exact Db h0 d0
  |1,ha=>simp[aa]at ha;subst ha;exact De h1 d1
  |j+2,ha=>simp[aa]at ha
end Go.Proofs.YtphenfakmdknlaaGreat.V

namespace Go.Proofs.YtphenfakmdknlaaGreat.V
open Go.RowKit
attribute [local irreducible] dJ wpOps e8 Call
attribute [local go_sem] ax eB dY eJ eI cJ upd bD K.av bW AV.cells AV.cell rowOf rowsOf part ld rowAt bC bx cU de fj bf cC dv eO er cL dm cw cu cZ da bl aI bZ bj ck cj di dn dj bY bo cz dh bh au cq bJ fh aT bV bm aH cS aQ cV AV.undef aV bc db dd cY dc bQ du dw bG dq dp cm cr List.getD_cons_zero List.getD_cons_succ List.getD_nil List.all_cons List.all_nil Bool.and_true Bool.true_and Bool.and_self Bool.not_true Bool.not_false Option.map_some Option.map_none Option.bind_some Option.bind_none List.length_cons List.length_nil List.take_succ_cons List.take_zero List.take_nil List.drop_succ_cons List.drop_zero List.drop_nil List.head?_cons List.map_cons List.map_nil List.getElem?_cons_zero List.getElem?_cons_succ List.cons_append List.nil_append List.append_nil List.length_map List.set_cons_zero List.set_cons_succ Nat.reduceMul eq_self Int.toNat_natCast Int.natCast_nonneg and_self true_and and_true decide_true decide_false Bool.false_eq_true Nat.zero_add Nat.add_zero List.contains_cons List.contains_nil Bool.or_false Bool.false_or beq_self_eq_true Nat.reduceBEq ne_eq not_true_eq_false not_false_eq_true Id.mk.injEq false_and and_false Nat.reduceLT Int.reduceLE Int.reduceLT Int.reduceToNat Int.reduceNeg Int.reduceAdd Nat.le_refl List.length_append beq_true beq_false Bool.not_eq_eq_eq_not or_false false_or dG ab ae az aU bu aC aP aE aJ cD aX
variable {P:Program}
theorem BX {X:fb} {Q:Ex->Env->ar->Prop} {N:Env->ar->Prop} {c:VC} {env:Env} {σ:ar} (I:Env->ar->Prop) (h2:∀e s,I e s->N e s) (h1:∀N':Env->ar->Prop,(∀e s,I e s->N' e s)->dJ X c (cS N' Q) env σ):dJ X c (cS N Q) env σ:=h1 N h2
def wv (f z:Nat) (a:Bool):xi:=let s:=f*1000000
 ⟨19,2,(.seq (.eD false [q 4 (.dD (.k (.int .i64 0))) s]) (.seq (.seq (.eD false [q 6 (.dD (.t 0)) (s+1000),q 7 (.len (.t 6)) (s+1001),q 8 (.dD (.k (.int .i64 0))) (s+1002)]) (.block 0 (.loop (.seq (.eD false [q 9 (.bin .lss .i64 (.t 8) (.t 7)) (s+2000)]) (.seq (.cond (.t 9) .skip (.exit 0)) (.seq (.block 1 (.seq (.eD false [q 10 (.dD (.t 8)) (s+3000),q 5 (.dD (.t 10)) (s+3001)]) (.seq (.eD false [q 11 (.dD (.t 1)) (s+4000),q 12 (.dD (.t 0)) (s+4001),q 13 (.dD (.t 5)) (s+4002),q 14 (.ef z (.t 12) (.t 13)) (s+4003),q 15 (.load a z (.t 14)) (s+4004),q 16 (.qS (.t 11) [(.t 15)]) (s+4005)]) (.cond (.t 16) (.seq (.eD false [q 17 (.dD (.t 5)) (s+5000),q 4 (.dD (.t 17)) (s+5001)]) .ret) .skip)))) (.eD false [q 18 (.bin .add .i64 (.t 8) (.k (.int .i64 1))) (s+6000),q 8 (.dD (.t 18)) (s+6001)]))))))) (.seq (.eD false [q 4 (.dD (.k (.int .i64 (-1)))) (s+7000)]) .ret))),[(.tmp 4)]⟩
def AN (f g:Nat):xi:=let s:=f*1000000
 ⟨9,2,(.seq (.eD false [q 4 (.dD (.k (.bool false))) s]) (.seq (.eD false [q 5 (.dD (.t 0)) (s+1000),q 6 (.dD (.t 1)) (s+1001),q 7 (.call g [(.t 5),(.t 6)]) (s+1002),q 8 (.bin .geq .i64 (.t 7) (.k (.int .i64 0))) (s+1003),q 4 (.dD (.t 8)) (s+1004)]) .ret)),[(.tmp 4)]⟩
def oD {α:Type} (p:α->Bool) (xs:List α):Int:=if xs.findIdx p<xs.length then(xs.findIdx p:Int)else -1
theorem F1 {α:Type} (p:α->Bool) (xs:List α):decide (0<=oD p xs)=xs.any p:=by
 unfold oD
 by_cases h:xs.findIdx p<xs.length
 ·rw[if_pos h]
  have:xs.any p=true:=List.any_eq_true.2 (List.findIdx_lt_length.1 h)
  rw[this];simp
 ·rw[if_neg h]
  have:xs.any p=false:=by
   rw[Bool.eq_false_iff]
   intro hc
   exact h (List.findIdx_lt_length.2 (List.any_eq_true.1 hc))
  rw[this];rfl
theorem rH (a:AV) (l m:List AV):a::l++m=a::(l++m):=rfl
theorem vD (l:List AV):[]++l=l:=rfl
structure P4 {α:Type} (e:α->List AV) (v:α->AV) (z:Nat) (a:Bool):Prop where
 len:∀x,(e x).length=z
 val:∀x,if a=true then v x=.agg (e x)else e x=[v x]
 fz:∀x g,cR g 6 [v x]=some [v x]
theorem yR {α:Type} {e:α->List AV} {v:α->AV} {z fk:Nat} {a:Bool} (hE:P4 e v z a) (hc:lN P fk=some (wv fk z a)) (xs:List α) (hlen:xs.length<=1048576) (f:Nat) (cP:List AV) (p:α->Bool)
  (hf:∀x∈xs,ak P f (v x::cP) (.bool (p x))) (Gl:∀g,cR g 6 cP=some cP):
  ak P fk [.sl (xs.map e),.fn f cP] (.int .i64 (oD p xs)):=by
 refine ak.body hc rfl fun hl n0=>?_
 try simp only[q]
 clear hl
 (try((repeat(revert hN;revert N;apply Pn.out));refine wk @Nat.zero_add ?_;(repeat(refine Pn.mk ?_;intro N hN))))
 refine bp (fun n env st=>∃k:Nat,n=(xs.length)-k/\k<=(xs.length)/\env 8=.int .i64 (k:Int)/\(∀j:Nat,j<k->∀h:j<xs.length,p xs[j]=false)) (xs.length) ⟨0,ad,ad,sl @Nat.zero_add,fun _ h=>absurd h (Nat.not_lt_zero _)⟩ ?_
 rintro n_a env_a st_a ⟨k,rfl,ale,a8,aA0⟩ dt
 have a0:=dt 0 (by kernel_rfl);have a1:=dt 1 (by kernel_rfl);have a7:=dt 7 (by kernel_rfl)
 simp only[go_sem, ↓reduceIte,Nat.reduceEqDiff,Nat.reduceAdd,Nat.reduceSub,Nat.reduceLeDiff,reduceCtorEq]at a0 a1 a7
 clear dt
 by_cases hk:(k:Int)<(xs.length:Int)
 ·have bK:∀{e:Env},(e 8=.int .i64 (IntKind.i64.wrap ((k:Int)+1)))->(∀h:k<xs.length,p xs[k]=false)->∃m0,m0<(xs.length)-k/\∃k:Nat,m0=(xs.length)-k/\k<=(xs.length)/\e 8=.int .i64 (k:Int)/\(∀j:Nat,j<k->∀h:j<xs.length,p xs[j]=false):=fun x1 x2=>⟨_,ad,k+1,rfl,ad,(by rw[x1,aA ad]),(all_succ aA0 x2)⟩
  have eo:k<xs.length:=ad
  have hg:(xs.map e)[k]? =some (e xs[k]):=by simp[eo]
  have CC:=hf _ (List.getElem_mem eo)
  have hz:=hE.len xs[k]
  have hv:=hE.val xs[k]
  have jw:cR (dG st_a.get) 6 (v xs[k]::cP)=some (v xs[k]::cP):=by
   have h1:=hE.fz xs[k] (dG st_a.get)
   rw[ab,ae]at h1
   rw[ab,Gl]
   revert h1
   cases V.fz (dG st_a.get) 6 (v xs[k])<;>simp
  have fin:∀hN:True,(p xs[k]=true->xs.findIdx p=k):=fun _ hp=>by
   rw[List.findIdx_eq eo];exact⟨hp,fun j hj=>aA0 j hj ad⟩
  cases hp:p xs[k]
  ·have AZ:=hp
   cases a
   ·rw[if_neg (by simp)]at hv
    have uO:z=1:=by rw[<-hz,hv];rfl
    subst uO
    rw[hv]at hg hz
    rw[hp]at CC
    generalize v xs[k]=c at CC jw hg hz
    (try((repeat(revert hN;revert N;apply Pn.out));refine wk (tw @a8 (tw @a0 (tw @a1 (tw @a7 (tw @hk (tw @hg (tw @hz (tw @rH @vD)))))))) ?_;(repeat(refine Pn.mk ?_;intro N hN))))
    refine .inl ⟨_,ak.x CC jw,?_⟩
    refine hN _ _ ?_
    clear hN N
    (try((repeat(revert hN;revert N;apply Pn.out));refine wk (tw @a8 (tw @a0 (tw @a1 @a7))) ?_;(repeat(refine Pn.mk ?_;intro N hN))))
    exact bK (sd (tw @a8 (tw @a0 (tw @a1 @a7)))) (fun _=>AZ)
   ·rw[if_pos rfl]at hv
    have ht:(e xs[k]).take z=e xs[k]:=by rw[<-hz,List.take_length]
    rw[hv]at CC jw
    rw[hp]at CC
    generalize e xs[k]=c at CC jw hg hz ht
    (try((repeat(revert hN;revert N;apply Pn.out));refine wk (tw @a8 (tw @a0 (tw @a1 (tw @a7 (tw @hk (tw @hg (tw @hz (tw @ht (tw @rH (tw @vD @Nat.le_refl)))))))))) ?_;(repeat(refine Pn.mk ?_;intro N hN))))
    refine .inl ⟨_,ak.x CC jw,?_⟩
    refine hN _ _ ?_
    clear hN N
    (try((repeat(revert hN;revert N;apply Pn.out));refine wk (tw @a8 (tw @a0 (tw @a1 @a7))) ?_;(repeat(refine Pn.mk ?_;intro N hN))))
    exact bK (sd (tw @a8 (tw @a0 (tw @a1 @a7)))) (fun _=>AZ)
  ·have hi:=fin trivial hp
   cases a
   ·rw[if_neg (by simp)]at hv
    have uO:z=1:=by rw[<-hz,hv];rfl
    subst uO
    rw[hv]at hg hz
    rw[hp]at CC
    generalize v xs[k]=c at CC jw hg hz
    (try((repeat(revert hN;revert N;apply Pn.out));refine wk (tw @a8 (tw @a0 (tw @a1 (tw @a7 (tw @hk (tw @hg (tw @hz (tw @rH @vD)))))))) ?_;(repeat(refine Pn.mk ?_;intro N hN))))
    refine .inl ⟨_,ak.x CC jw,?_⟩
    refine hN _ _ ?_
    clear hN N
    (try((repeat(revert hN;revert N;apply Pn.out));refine wk (tw @a8 (tw @a0 (tw @a1 @a7))) ?_;(repeat(refine Pn.mk ?_;intro N hN))))
    exact cH (b:=(k:Int)) (.inl rfl) (sd @Nat.zero_add) (by rw[oD,hi,if_pos eo])
   ·rw[if_pos rfl]at hv
    have ht:(e xs[k]).take z=e xs[k]:=by rw[<-hz,List.take_length]
    rw[hv]at CC jw
    rw[hp]at CC
    generalize e xs[k]=c at CC jw hg hz ht
    (try((repeat(revert hN;revert N;apply Pn.out));refine wk (tw @a8 (tw @a0 (tw @a1 (tw @a7 (tw @hk (tw @hg (tw @hz (tw @ht (tw @rH (tw @vD @Nat.le_refl)))))))))) ?_;(repeat(refine Pn.mk ?_;intro N hN))))
    refine .inl ⟨_,ak.x CC jw,?_⟩
    refine hN _ _ ?_
    clear hN N
    (try((repeat(revert hN;revert N;apply Pn.out));refine wk (tw @a8 (tw @a0 (tw @a1 @a7))) ?_;(repeat(refine Pn.mk ?_;intro N hN))))
    exact cH (b:=(k:Int)) (.inl rfl) (sd @Nat.zero_add) (by rw[oD,hi,if_pos eo])
 ·(try((repeat(revert hN;revert N;apply Pn.out));refine wk (tw @a8 (tw @a0 (tw @a1 (tw @a7 @hk)))) ?_;(repeat(refine Pn.mk ?_;intro N hN))))
  have hi:¬xs.findIdx p<xs.length:=by
   rw[List.findIdx_lt_length]
   rintro⟨x,hx,O3⟩
   obtain⟨j,hj,rfl⟩:=List.getElem_of_mem hx
   rw[aA0 j ad hj]at O3;cases O3
  exact cH (b:=-1) (.inl rfl) (sd @Nat.zero_add) (by rw[oD,if_neg hi])
theorem mu {α:Type} {e:α->List AV} {v:α->AV} {z fk gk:Nat} {a:Bool} (hE:P4 e v z a) (hc:lN P fk=some (AN fk gk)) (yp:lN P gk=some (wv gk z a)) (xs:List α) (hlen:xs.length<=1048576) (f:Nat) (cP:List AV) (p:α->Bool) (Gd:cP.all AV.cell=true) (Cx:∀g,cR g 5 cP=some cP)
  (hf:∀x∈xs,ak P f (v x::cP) (.bool (p x))) (Gl:∀g,cR g 6 cP=some cP):
  ak P fk [.sl (xs.map e),.fn f cP] (.bool (xs.any p)):=by
 refine ak.body hc rfl fun hl n0=>?_
 try simp only[q]
 clear hl
 have hi:=yR hE yp xs hlen f cP p hf Gl
 (repeat(first|((repeat(revert hN;revert N;apply Pn.out));refine wk (tw @Gd @Cx) ?_;(repeat(refine Pn.mk ?_;intro N hN)))|((try apply Or.inl);refine⟨_,ak.x (hi) (sd (tw @Gd @Cx)),?_⟩;refine hN _ _ ?_;clear hN N)))
 exact bt (b:=decide (0<=oD p xs)) (.inl rfl) (sd @Nat.zero_add) (F1 p xs)
end Go.Proofs.YtphenfakmdknlaaGreat.V

namespace Go.Proofs.YtphenfakmdknlaaGreat.V
open Go.RowKit
def pC (P:Program) (mk:Bool):List Oper->Nat->List Nat
 |[],_=>[]
 |o::r,i=>match oS P o.op with
  |some v=>if oN v||mk&&v.kN then i::pC P mk r (i+1)else pC P mk r (i+1)
  |none=>pC P mk r (i+1)
def vJ (P:Program) (ops:Array Oper) (site0:Nat) (mk:Bool) (bs:Array Nat) (hidden:List Nat):List Oper->Nat->Option (List bw)
 |[],_=>some []
 |o::r,j=>do
  let v <-oS P o.op
  let g <-Am ops o
  pure ({dst:=o.dst,op:=v,guard:=g,site:=site0+j,hid:=(hidden.filter fun i=> !(bs.getD j 0).testBit i&&(i !=j||mk&&v.kN)).map fun i=>site0+i}::(<-vJ P ops site0 mk bs hidden r (j+1)))
def ow (P:Program) (md:List (Nat×Nat)) (tT:Nat):Code->Option VC
 | .skip=>some .skip
 | .region id ops draw=>if draw then(vJ P ops ((tT*1000+id)*1000) (sV md id==1) (iN ops) (pC P (sV md id==1) ops.toList 0) ops.toList 0).map (VC.eD true)else(vJ P ops ((tT*1000+id)*1000) false #[] [] ops.toList 0).map (if ops.toList.any fun o=>KI o.op then VC.Lj else VC.eD false)
 | .seq a b=>do pure (.seq (<-ow P md tT a) (<-ow P md tT b))
 | .cond c x y=>do pure (.cond (<-cO P c) (<-ow P md tT x) (<-ow P md tT y))
 | .block id c=>(ow P md tT c).map (VC.block id)
 | .loop c=>(ow P md tT c).map VC.loop
 | .exit id=>some (.exit id)
 | .ret=>some .ret
 |_=>none
def NS (P:Program) (md:List (Nat×Nat)) (f:Nat):Option xi:=
 match P.funcs[f]? with
 |some fn=>match fn.body with
  |some c=>do
   let b <-ow P md f c
   let r <-fn.results.toList.mapM (Dl P)
   pure {ntmps:=fn.ntmps,uS:=fn.params.size+fn.nfree,body:=b,res:=r}
  |none=>none
 |none=>none
theorem cfM {P:Program} (md:List (Nat×Nat)) {f:Nat} {v:xi} (_:NS P md f=some v:=by(conv=>lhs;cbv)<;>exact rfl) (h:tR P f md=some v:=by kernel_rfl):tR P f md=some v:=h
theorem eL {P:Program} {f:Nat} {v:xi} (_:NS P [] f=some v:=by(conv=>lhs;cbv)<;>exact rfl) (h:lN P f=some v:=by kernel_rfl):lN P f=some v:=h
def MP:xi:=⟨77,2,(.seq (.eD false [q 4 (.dD (.k .iR)) 278000000]) (.seq (.eD false [q 7 (.dD (.t 0)) 278001000,q 8 (.dD (.t 1)) 278001001,q 9 (.build [(.int .i64 0),.cK,.cK,.cK] [(0,(1,(.t 7))),(1,(1,(.t 8)))]) 278001002,q 10 (.box (.t 9)) 278001003,q 5 (.dD (.t 10)) 278001004]) (.seq (.eD false [q 11 (.dD (.t 5)) 278002000,q 12 (.dD (.t 0)) 278002001,q 13 (.jJ [.cK] (.t 12) (.t 12)) 278002002,q 14 (.HW (.t 11)) 278002003,q 15 (.ik 2 (.t 14)) 278002004,⟨none,(.store 1 (.t 15) (.t 13)),none,278002005,[]⟩]) (.seq (.eD false [q 16 (.dD (.t 5)) 278003000,q 17 (.dD (.t 1)) 278003001,q 18 (.len (.t 17)) 278003002,q 19 (.jJ [(.int .i64 0)] (.t 18) (.t 18)) 278003003,q 20 (.HW (.t 16)) 278003004,q 21 (.ik 3 (.t 20)) 278003005,⟨none,(.store 1 (.t 21) (.t 19)),none,278003006,[]⟩]) (.seq (.seq (.eD false [q 6 (.dD (.k (.int .i64 0))) 278004000]) (.block 0 (.loop (.seq (.seq (.eD false [q 22 (.dD (.t 6)) 278005000,q 23 (.dD (.t 1)) 278005001,q 24 (.len (.t 23)) 278005002,q 25 (.bin .lss .i64 (.t 22) (.t 24)) 278005003]) (.cond (.t 25) .skip (.exit 0))) (.seq (.block 1 (.seq (.one ⟨(some 28),(.dD (.t 5)),none,278007000,[278007021,278007022,278007024]⟩ (.one ⟨(some 29),(.HW (.t 28)),none,278007001,[278007021,278007022,278007024]⟩ (.one ⟨(some 30),(.ik 2 (.t 29)),none,278007002,[278007021,278007022,278007024]⟩ (.one ⟨(some 32),(.dD (.t 1)),none,278007004,[278007021,278007022,278007024]⟩ (.one ⟨(some 33),(.dD (.t 6)),none,278007005,[278007021,278007022,278007024]⟩ (.one ⟨(some 37),(.dD (.t 5)),none,278007009,[278007021,278007022,278007024]⟩ (.one ⟨(some 38),(.HW (.t 37)),none,278007010,[278007021,278007022,278007024]⟩ (.one ⟨(some 39),(.ik 2 (.t 38)),none,278007011,[278007021,278007022,278007024]⟩ (.one ⟨(some 40),(.load false 1 (.t 39)),none,278007012,[278007021,278007022,278007024]⟩ (.one ⟨(some 41),(.dD (.t 1)),none,278007013,[278007021,278007022,278007024]⟩ (.one ⟨(some 42),(.dD (.t 6)),none,278007014,[278007021,278007022,278007024]⟩ (.one ⟨(some 43),(.ef 3 (.t 41) (.t 42)),none,278007015,[278007021,278007022,278007024]⟩ (.one ⟨(some 44),(.ik 0 (.t 43)),none,278007016,[278007021,278007022,278007024]⟩ (.one ⟨(some 45),(.load false 1 (.t 44)),none,278007017,[278007021,278007022,278007024]⟩ (.one ⟨(some 46),(.ef 1 (.t 40) (.t 45)),none,278007018,[278007021,278007022,278007024]⟩ (.one ⟨(some 47),(.load false 1 (.t 46)),none,278007019,[278007021,278007022,278007024]⟩ (.one ⟨(some 48),(.dD (.t 6)),none,278007020,[278007021,278007022,278007024]⟩ (.one ⟨(some 49),(.jQ 1 1 [(.t 48)]),none,278007021,[278007022,278007024]⟩ (.both (.one ⟨(some 31),(.load false 1 (.t 30)),none,278007003,[278007021,278007022,278007024]⟩ (.both (.one ⟨(some 34),(.ef 3 (.t 32) (.t 33)),none,278007006,[278007021,278007022,278007024]⟩ (.one ⟨(some 35),(.ik 0 (.t 34)),none,278007007,[278007021,278007022,278007024]⟩ (.both (.one ⟨(some 36),(.load false 1 (.t 35)),none,278007008,[278007021,278007022,278007024]⟩ (.one ⟨(some 50),(.append 1 (.t 47) (.t 49)),none,278007022,[278007024]⟩ (.one ⟨(some 51),(.ef 1 (.t 31) (.t 36)),none,278007023,[278007024]⟩ (.one ⟨none,(.store 1 (.t 51) (.t 50)),none,278007024,[]⟩ (.eD false []))))) (.one ⟨(some 50),(.append 1 (.t 47) (.t 49)),none,278007022,[278007024]⟩ (.one ⟨(some 36),(.load false 1 (.t 35)),none,278007008,[278007021,278007022,278007024]⟩ (.one ⟨(some 51),(.ef 1 (.t 31) (.t 36)),none,278007023,[278007024]⟩ (.one ⟨none,(.store 1 (.t 51) (.t 50)),none,278007024,[]⟩ (.eD false [])))))))) (.one ⟨(some 50),(.append 1 (.t 47) (.t 49)),none,278007022,[278007024]⟩ (.one ⟨(some 34),(.ef 3 (.t 32) (.t 33)),none,278007006,[278007021,278007022,278007024]⟩ (.one ⟨(some 35),(.ik 0 (.t 34)),none,278007007,[278007021,278007022,278007024]⟩ (.one ⟨(some 36),(.load false 1 (.t 35)),none,278007008,[278007021,278007022,278007024]⟩ (.one ⟨(some 51),(.ef 1 (.t 31) (.t 36)),none,278007023,[278007024]⟩ (.one ⟨none,(.store 1 (.t 51) (.t 50)),none,278007024,[]⟩ (.eD false []))))))))) (.both (.one ⟨(some 34),(.ef 3 (.t 32) (.t 33)),none,278007006,[278007021,278007022,278007024]⟩ (.one ⟨(some 35),(.ik 0 (.t 34)),none,278007007,[278007021,278007022,278007024]⟩ (.both (.one ⟨(some 31),(.load false 1 (.t 30)),none,278007003,[278007021,278007022,278007024]⟩ (.both (.one ⟨(some 36),(.load false 1 (.t 35)),none,278007008,[278007021,278007022,278007024]⟩ (.one ⟨(some 50),(.append 1 (.t 47) (.t 49)),none,278007022,[278007024]⟩ (.one ⟨(some 51),(.ef 1 (.t 31) (.t 36)),none,278007023,[278007024]⟩ (.one ⟨none,(.store 1 (.t 51) (.t 50)),none,278007024,[]⟩ (.eD false []))))) (.one ⟨(some 50),(.append 1 (.t 47) (.t 49)),none,278007022,[278007024]⟩ (.one ⟨(some 36),(.load false 1 (.t 35)),none,278007008,[278007021,278007022,278007024]⟩ (.one ⟨(some 51),(.ef 1 (.t 31) (.t 36)),none,278007023,[278007024]⟩ (.one ⟨none,(.store 1 (.t 51) (.t 50)),none,278007024,[]⟩ (.eD false []))))))) (.both (.one ⟨(some 36),(.load false 1 (.t 35)),none,278007008,[278007021,278007022,278007024]⟩ (.both (.one ⟨(some 31),(.load false 1 (.t 30)),none,278007003,[278007021,278007022,278007024]⟩ (.one ⟨(some 50),(.append 1 (.t 47) (.t 49)),none,278007022,[278007024]⟩ (.one ⟨(some 51),(.ef 1 (.t 31) (.t 36)),none,278007023,[278007024]⟩ (.one ⟨none,(.store 1 (.t 51) (.t 50)),none,278007024,[]⟩ (.eD false []))))) (.one ⟨(some 50),(.append 1 (.t 47) (.t 49)),none,278007022,[278007024]⟩ (.one ⟨(some 31),(.load false 1 (.t 30)),none,278007003,[278007021,278007022,278007024]⟩ (.one ⟨(some 51),(.ef 1 (.t 31) (.t 36)),none,278007023,[278007024]⟩ (.one ⟨none,(.store 1 (.t 51) (.t 50)),none,278007024,[]⟩ (.eD false []))))))) (.one ⟨(some 50),(.append 1 (.t 47) (.t 49)),none,278007022,[278007024]⟩ (.one ⟨(some 31),(.load false 1 (.t 30)),none,278007003,[278007021,278007022,278007024]⟩ (.one ⟨(some 36),(.load false 1 (.t 35)),none,278007008,[278007021,278007022,278007024]⟩ (.one ⟨(some 51),(.ef 1 (.t 31) (.t 36)),none,278007023,[278007024]⟩ (.one ⟨none,(.store 1 (.t 51) (.t 50)),none,278007024,[]⟩ (.eD false [])))))))))) (.one ⟨(some 50),(.append 1 (.t 47) (.t 49)),none,278007022,[278007024]⟩ (.one ⟨(some 31),(.load false 1 (.t 30)),none,278007003,[278007021,278007022,278007024]⟩ (.one ⟨(some 34),(.ef 3 (.t 32) (.t 33)),none,278007006,[278007021,278007022,278007024]⟩ (.one ⟨(some 35),(.ik 0 (.t 34)),none,278007007,[278007021,278007022,278007024]⟩ (.one ⟨(some 36),(.load false 1 (.t 35)),none,278007008,[278007021,278007022,278007024]⟩ (.one ⟨(some 51),(.ef 1 (.t 31) (.t 36)),none,278007023,[278007024]⟩ (.one ⟨none,(.store 1 (.t 51) (.t 50)),none,278007024,[]⟩ (.eD false [])))))))))))))))))))))))))))) (.one ⟨(some 52),(.dD (.t 5)),none,278008000,[278008021,278008022,278008024]⟩ (.one ⟨(some 53),(.HW (.t 52)),none,278008001,[278008021,278008022,278008024]⟩ (.one ⟨(some 54),(.ik 2 (.t 53)),none,278008002,[278008021,278008022,278008024]⟩ (.one ⟨(some 56),(.dD (.t 1)),none,278008004,[278008021,278008022,278008024]⟩ (.one ⟨(some 57),(.dD (.t 6)),none,278008005,[278008021,278008022,278008024]⟩ (.one ⟨(some 61),(.dD (.t 5)),none,278008009,[278008021,278008022,278008024]⟩ (.one ⟨(some 62),(.HW (.t 61)),none,278008010,[278008021,278008022,278008024]⟩ (.one ⟨(some 63),(.ik 2 (.t 62)),none,278008011,[278008021,278008022,278008024]⟩ (.one ⟨(some 64),(.load false 1 (.t 63)),none,278008012,[278008021,278008022,278008024]⟩ (.one ⟨(some 65),(.dD (.t 1)),none,278008013,[278008021,278008022,278008024]⟩ (.one ⟨(some 66),(.dD (.t 6)),none,278008014,[278008021,278008022,278008024]⟩ (.one ⟨(some 67),(.ef 3 (.t 65) (.t 66)),none,278008015,[278008021,278008022,278008024]⟩ (.one ⟨(some 68),(.ik 1 (.t 67)),none,278008016,[278008021,278008022,278008024]⟩ (.one ⟨(some 69),(.load false 1 (.t 68)),none,278008017,[278008021,278008022,278008024]⟩ (.one ⟨(some 70),(.ef 1 (.t 64) (.t 69)),none,278008018,[278008021,278008022,278008024]⟩ (.one ⟨(some 71),(.load false 1 (.t 70)),none,278008019,[278008021,278008022,278008024]⟩ (.one ⟨(some 72),(.dD (.t 6)),none,278008020,[278008021,278008022,278008024]⟩ (.one ⟨(some 73),(.jQ 1 1 [(.t 72)]),none,278008021,[278008022,278008024]⟩ (.both (.one ⟨(some 55),(.load false 1 (.t 54)),none,278008003,[278008021,278008022,278008024]⟩ (.both (.one ⟨(some 58),(.ef 3 (.t 56) (.t 57)),none,278008006,[278008021,278008022,278008024]⟩ (.one ⟨(some 59),(.ik 1 (.t 58)),none,278008007,[278008021,278008022,278008024]⟩ (.both (.one ⟨(some 60),(.load false 1 (.t 59)),none,278008008,[278008021,278008022,278008024]⟩ (.one ⟨(some 74),(.append 1 (.t 71) (.t 73)),none,278008022,[278008024]⟩ (.one ⟨(some 75),(.ef 1 (.t 55) (.t 60)),none,278008023,[278008024]⟩ (.one ⟨none,(.store 1 (.t 75) (.t 74)),none,278008024,[]⟩ (.eD false []))))) (.one ⟨(some 74),(.append 1 (.t 71) (.t 73)),none,278008022,[278008024]⟩ (.one ⟨(some 60),(.load false 1 (.t 59)),none,278008008,[278008021,278008022,278008024]⟩ (.one ⟨(some 75),(.ef 1 (.t 55) (.t 60)),none,278008023,[278008024]⟩ (.one ⟨none,(.store 1 (.t 75) (.t 74)),none,278008024,[]⟩ (.eD false [])))))))) (.one ⟨(some 74),(.append 1 (.t 71) (.t 73)),none,278008022,[278008024]⟩ (.one ⟨(some 58),(.ef 3 (.t 56) (.t 57)),none,278008006,[278008021,278008022,278008024]⟩ (.one ⟨(some 59),(.ik 1 (.t 58)),none,278008007,[278008021,278008022,278008024]⟩ (.one ⟨(some 60),(.load false 1 (.t 59)),none,278008008,[278008021,278008022,278008024]⟩ (.one ⟨(some 75),(.ef 1 (.t 55) (.t 60)),none,278008023,[278008024]⟩ (.one ⟨none,(.store 1 (.t 75) (.t 74)),none,278008024,[]⟩ (.eD false []))))))))) (.both (.one ⟨(some 58),(.ef 3 (.t 56) (.t 57)),none,278008006,[278008021,278008022,278008024]⟩ (.one ⟨(some 59),(.ik 1 (.t 58)),none,278008007,[278008021,278008022,278008024]⟩ (.both (.one ⟨(some 55),(.load false 1 (.t 54)),none,278008003,[278008021,278008022,278008024]⟩ (.both (.one ⟨(some 60),(.load false 1 (.t 59)),none,278008008,[278008021,278008022,278008024]⟩ (.one ⟨(some 74),(.append 1 (.t 71) (.t 73)),none,278008022,[278008024]⟩ (.one ⟨(some 75),(.ef 1 (.t 55) (.t 60)),none,278008023,[278008024]⟩ (.one ⟨none,(.store 1 (.t 75) (.t 74)),none,278008024,[]⟩ (.eD false []))))) (.one ⟨(some 74),(.append 1 (.t 71) (.t 73)),none,278008022,[278008024]⟩ (.one ⟨(some 60),(.load false 1 (.t 59)),none,278008008,[278008021,278008022,278008024]⟩ (.one ⟨(some 75),(.ef 1 (.t 55) (.t 60)),none,278008023,[278008024]⟩ (.one ⟨none,(.store 1 (.t 75) (.t 74)),none,278008024,[]⟩ (.eD false []))))))) (.both (.one ⟨(some 60),(.load false 1 (.t 59)),none,278008008,[278008021,278008022,278008024]⟩ (.both (.one ⟨(some 55),(.load false 1 (.t 54)),none,278008003,[278008021,278008022,278008024]⟩ (.one ⟨(some 74),(.append 1 (.t 71) (.t 73)),none,278008022,[278008024]⟩ (.one ⟨(some 75),(.ef 1 (.t 55) (.t 60)),none,278008023,[278008024]⟩ (.one ⟨none,(.store 1 (.t 75) (.t 74)),none,278008024,[]⟩ (.eD false []))))) (.one ⟨(some 74),(.append 1 (.t 71) (.t 73)),none,278008022,[278008024]⟩ (.one ⟨(some 55),(.load false 1 (.t 54)),none,278008003,[278008021,278008022,278008024]⟩ (.one ⟨(some 75),(.ef 1 (.t 55) (.t 60)),none,278008023,[278008024]⟩ (.one ⟨none,(.store 1 (.t 75) (.t 74)),none,278008024,[]⟩ (.eD false []))))))) (.one ⟨(some 74),(.append 1 (.t 71) (.t 73)),none,278008022,[278008024]⟩ (.one ⟨(some 55),(.load false 1 (.t 54)),none,278008003,[278008021,278008022,278008024]⟩ (.one ⟨(some 60),(.load false 1 (.t 59)),none,278008008,[278008021,278008022,278008024]⟩ (.one ⟨(some 75),(.ef 1 (.t 55) (.t 60)),none,278008023,[278008024]⟩ (.one ⟨none,(.store 1 (.t 75) (.t 74)),none,278008024,[]⟩ (.eD false [])))))))))) (.one ⟨(some 74),(.append 1 (.t 71) (.t 73)),none,278008022,[278008024]⟩ (.one ⟨(some 55),(.load false 1 (.t 54)),none,278008003,[278008021,278008022,278008024]⟩ (.one ⟨(some 58),(.ef 3 (.t 56) (.t 57)),none,278008006,[278008021,278008022,278008024]⟩ (.one ⟨(some 59),(.ik 1 (.t 58)),none,278008007,[278008021,278008022,278008024]⟩ (.one ⟨(some 60),(.load false 1 (.t 59)),none,278008008,[278008021,278008022,278008024]⟩ (.one ⟨(some 75),(.ef 1 (.t 55) (.t 60)),none,278008023,[278008024]⟩ (.one ⟨none,(.store 1 (.t 75) (.t 74)),none,278008024,[]⟩ (.eD false [])))))))))))))))))))))))))))))) (.eD false [q 26 (.dD (.t 6)) 278006000,q 27 (.bin .add .i64 (.t 26) (.k (.int .i64 1))) 278006001,q 6 (.dD (.t 27)) 278006002])))))) (.seq (.eD false [q 76 (.dD (.t 5)) 278009000,q 4 (.dD (.t 76)) 278009001]) .ret)))))),[(.tmp 4)]⟩
theorem Li:tR Tryz.prog 278 [(7,2),(8,2)]=some MP:=by kernel_rfl
def PL:xi:=⟨66,4,(.seq (.eD false [q 4 (.box (.t 0)) 96000000,q 5 (.box (.t 1)) 96000001,q 8 (.dD (.k .cK)) 96000002]) (.seq (.seq (.eD false [q 15 (.dD (.t 2)) 96001000,q 16 (.len (.t 15)) 96001001,q 17 (.bin .lss .i64 (.t 16) (.k (.int .i64 2))) 96001002]) (.cond (.t 17) (.seq (.eD false [q 18 (.dD (.t 2)) 96002000,q 19 (.jQ 1 1 [(.t 18)]) 96002001,q 8 (.dD (.t 19)) 96002002]) .ret) .skip)) (.seq (.one (q 21 (.dD (.t 2)) 96003000) (.one (q 22 (.len (.t 21)) 96003001) (.one (q 24 (.load true 1 (.t 5)) 96003003) (.one (q 25 (.dD (.t 2)) 96003004) (.both (.one (q 23 (.load true 2 (.t 4)) 96003002) (.one (q 26 (.call 201 [(.t 24),(.t 25)]) 96003005) (.one (q 27 (.call 200 [(.t 23),(.t 26)]) 96003006) (.one (q 28 (.call 199 [(.t 22),(.t 27)]) 96003007) (.one (q 20 (.dD (.t 28)) 96003008) (.one (q 29 (.extract 0 (.t 20)) 96003009) (.one (q 30 (.extract 1 (.t 20)) 96003010) (.one (q 9 (.dD (.t 29)) 96003011) (.one (q 10 (.dD (.t 30)) 96003012) (.eD false [])))))))))) (.one (q 26 (.call 201 [(.t 24),(.t 25)]) 96003005) (.one (q 23 (.load true 2 (.t 4)) 96003002) (.one (q 27 (.call 200 [(.t 23),(.t 26)]) 96003006) (.one (q 28 (.call 199 [(.t 22),(.t 27)]) 96003007) (.one (q 20 (.dD (.t 28)) 96003008) (.one (q 29 (.extract 0 (.t 20)) 96003009) (.one (q 30 (.extract 1 (.t 20)) 96003010) (.one (q 9 (.dD (.t 29)) 96003011) (.one (q 10 (.dD (.t 30)) 96003012) (.eD false []))))))))))))))) (.seq (.seq (.eD false [q 31 (.dD (.t 9)) 96004000,q 32 (.dD (.t 3)) 96004001,q 33 (.bin .geq .i64 (.t 31) (.t 32)) 96004002]) (.cond (.t 33) (.seq (.eD false [q 34 (.dD (.t 2)) 96005000,q 35 (.jQ 1 1 [(.t 34)]) 96005001,q 8 (.dD (.t 35)) 96005002]) .ret) .skip)) (.seq (.eD false [q 11 (.dD (.k .cK)) 96006000,q 12 (.dD (.k .cK)) 96006001]) (.seq (.seq (.eD false [q 36 (.dD (.t 2)) 96007000,q 37 (.len (.t 36)) 96007001,q 38 (.dD (.k (.int .i64 0))) 96007002]) (.block 0 (.loop (.seq (.eD false [q 39 (.bin .lss .i64 (.t 38) (.t 37)) 96008000]) (.seq (.cond (.t 39) .skip (.exit 0)) (.seq (.block 1 (.seq (.eD false [q 40 (.dD (.t 38)) 96009000,q 41 (.ef 1 (.t 36) (.t 38)) 96009001,q 42 (.load false 1 (.t 41)) 96009002,q 13 (.dD (.t 40)) 96009003,q 14 (.dD (.t 42)) 96009004]) (.seq (.eD false [q 43 (.dD (.t 10)) 96010000,q 44 (.dD (.t 13)) 96010001,q 45 (.call 202 [(.t 43),(.t 44)]) 96010002]) (.cond (.t 45) (.eD false [q 46 (.dD (.t 12)) 96011000,q 47 (.dD (.t 14)) 96011001,q 48 (.jQ 1 1 [(.t 47)]) 96011002,q 49 (.append 1 (.t 46) (.t 48)) 96011003,q 12 (.dD (.t 49)) 96011004]) (.eD false [q 50 (.dD (.t 11)) 96012000,q 51 (.dD (.t 14)) 96012001,q 52 (.jQ 1 1 [(.t 51)]) 96012002,q 53 (.append 1 (.t 50) (.t 52)) 96012003,q 11 (.dD (.t 53)) 96012004]))))) (.eD false [q 54 (.bin .add .i64 (.t 38) (.k (.int .i64 1))) 96013000,q 38 (.dD (.t 54)) 96013001]))))))) (.seq (.one ⟨(some 55),(.load true 2 (.t 4)),none,96014000,[96014010]⟩ (.one ⟨(some 56),(.load true 1 (.t 5)),none,96014001,[96014010]⟩ (.one ⟨(some 57),(.dD (.t 11)),none,96014002,[96014010]⟩ (.one ⟨(some 58),(.dD (.t 3)),none,96014003,[96014010]⟩ (.one ⟨(some 62),(.dD (.t 12)),none,96014007,[96014010]⟩ (.one ⟨(some 63),(.dD (.t 3)),none,96014008,[96014010]⟩ (.both (.one ⟨(some 59),(.call 96 [(.t 55),(.t 56),(.t 57),(.t 58)]),none,96014004,[96014010]⟩ (.one ⟨(some 60),(.load true 2 (.t 4)),none,96014005,[96014010]⟩ (.one ⟨(some 61),(.load true 1 (.t 5)),none,96014006,[96014010]⟩ (.one ⟨(some 64),(.call 96 [(.t 60),(.t 61),(.t 62),(.t 63)]),none,96014009,[96014010]⟩ (.one (q 65 (.append 1 (.t 59) (.t 64)) 96014010) (.one (q 8 (.dD (.t 65)) 96014011) (.eD false []))))))) (.both (.one ⟨(some 60),(.load true 2 (.t 4)),none,96014005,[96014010]⟩ (.both (.one ⟨(some 59),(.call 96 [(.t 55),(.t 56),(.t 57),(.t 58)]),none,96014004,[96014010]⟩ (.one ⟨(some 61),(.load true 1 (.t 5)),none,96014006,[96014010]⟩ (.one ⟨(some 64),(.call 96 [(.t 60),(.t 61),(.t 62),(.t 63)]),none,96014009,[96014010]⟩ (.one (q 65 (.append 1 (.t 59) (.t 64)) 96014010) (.one (q 8 (.dD (.t 65)) 96014011) (.eD false [])))))) (.one ⟨(some 61),(.load true 1 (.t 5)),none,96014006,[96014010]⟩ (.one ⟨(some 59),(.call 96 [(.t 55),(.t 56),(.t 57),(.t 58)]),none,96014004,[96014010]⟩ (.one ⟨(some 64),(.call 96 [(.t 60),(.t 61),(.t 62),(.t 63)]),none,96014009,[96014010]⟩ (.one (q 65 (.append 1 (.t 59) (.t 64)) 96014010) (.one (q 8 (.dD (.t 65)) 96014011) (.eD false [])))))))) (.one ⟨(some 61),(.load true 1 (.t 5)),none,96014006,[96014010]⟩ (.both (.one ⟨(some 59),(.call 96 [(.t 55),(.t 56),(.t 57),(.t 58)]),none,96014004,[96014010]⟩ (.one ⟨(some 60),(.load true 2 (.t 4)),none,96014005,[96014010]⟩ (.one ⟨(some 64),(.call 96 [(.t 60),(.t 61),(.t 62),(.t 63)]),none,96014009,[96014010]⟩ (.one (q 65 (.append 1 (.t 59) (.t 64)) 96014010) (.one (q 8 (.dD (.t 65)) 96014011) (.eD false [])))))) (.one ⟨(some 60),(.load true 2 (.t 4)),none,96014005,[96014010]⟩ (.one ⟨(some 59),(.call 96 [(.t 55),(.t 56),(.t 57),(.t 58)]),none,96014004,[96014010]⟩ (.one ⟨(some 64),(.call 96 [(.t 60),(.t 61),(.t 62),(.t 63)]),none,96014009,[96014010]⟩ (.one (q 65 (.append 1 (.t 59) (.t 64)) 96014010) (.one (q 8 (.dD (.t 65)) 96014011) (.eD false [])))))))))))))))) .ret))))))),[(.tmp 8)]⟩
theorem NW:tR Tryz.prog 96 [(3,2),(14,2)]=some PL:=by kernel_rfl
end Go.Proofs.YtphenfakmdknlaaGreat.V

namespace Go.Proofs.YtphenfakmdknlaaGreat.V
open Go.RowKit
attribute [local irreducible] dJ wpOps e8 Call
attribute [local go_sem] ax eB dY eJ eI cJ upd bD K.av bW AV.cells AV.cell rowOf rowsOf part ld rowAt bC bx cU de fj bf cC dv eO er cL dm cw cu cZ da bl aI bZ bj ck cj di dn dj bY bo cz dh bh au cq bJ fh aT bV bm aH cS aQ cV AV.undef aV bc db dd cY dc bQ du dw bG dq dp cm cr List.getD_cons_zero List.getD_cons_succ List.getD_nil List.all_cons List.all_nil Bool.and_true Bool.true_and Bool.and_self Bool.not_true Bool.not_false Option.map_some Option.map_none Option.bind_some Option.bind_none List.length_cons List.length_nil List.take_succ_cons List.take_zero List.take_nil List.drop_succ_cons List.drop_zero List.drop_nil List.head?_cons List.map_cons List.map_nil List.getElem?_cons_zero List.getElem?_cons_succ List.cons_append List.nil_append List.append_nil List.length_map List.set_cons_zero List.set_cons_succ Nat.reduceMul eq_self Int.toNat_natCast Int.natCast_nonneg and_self true_and and_true decide_true decide_false Bool.false_eq_true Nat.zero_add Nat.add_zero List.contains_cons List.contains_nil Bool.or_false Bool.false_or beq_self_eq_true Nat.reduceBEq ne_eq not_true_eq_false not_false_eq_true Id.mk.injEq false_and and_false Nat.reduceLT Int.reduceLE Int.reduceLT Int.reduceToNat Int.reduceNeg Int.reduceAdd Nat.le_refl List.length_append beq_true beq_false Bool.not_eq_eq_eq_not or_false false_or dG ab ae az aU bu aC aP aE aJ cD aX
theorem yk (x:eV) (g:Rows):cR g 6 [.agg (bS x)]=some [.agg (bS x)]:=by simp[bS,ab,ae,aP,aU,az]
theorem yl (x:eu) (g:Rows):cR g 6 [.agg (bI x)]=some [.agg (bI x)]:=by simp[bI,ab,ae,aP,aU,bu]
theorem AJ (x:ai) (g:Rows):cR g 6 [.agg (ah x)]=some [.agg (ah x)]:=by simp[ah,ab,ae,aP,az]
theorem ji {n:Nat} {l:Int} (h:(n:Int)<=l):u9 n l=l-n:=if_pos h
theorem jy {n:Nat} {l:Int} (h:¬(n:Int)<=l):u9 n l= -1:=if_neg h
def jC (t:eu):Nat:=t.aD.size+t.bB.length
def tD (s:ao):Nat:=(s.ay.length+(s.ay.map fun g=>g.aD.size).sum)+(s.aj.length+(s.aj.map jC).sum)
def fR (s:ao):Prop:=(∀g∈s.ay,g.aD.size<=9223372036854775807)/\∀t∈s.aj,t.aD.size<=9223372036854775807
theorem Hx (g:eV) (l:Int) (h0:0<=l) (h1:l<=1048576) (hs:g.aD.size<=9223372036854775807):ak Tryz.prog 164 [.agg (bS g),.int .i64 l] (.int .i64 (u9 g.aD.size l)):=by
 refine ak.body eL rfl fun hl n0=>?_
 clear hl
 have hw:IntKind.i64.wrap (l-(g.aD.size:Int))=l-g.aD.size:=bP ad
 by_cases hf:(g.aD.size:Int)<=l
 ·have mJ:¬l-(g.aD.size:Int)<0:=ad
  (try((repeat(revert hN;revert N;apply Pn.out));refine wk (tw @bS.eq_1 (tw @hw @mJ)) ?_;(repeat(refine Pn.mk ?_;intro N hN))))
  exact cH (b:=l-(g.aD.size:Int)) (.inl rfl) (sd @Nat.zero_add) (ji hf).symm
 ·have mJ:l-(g.aD.size:Int)<0:=ad
  (try((repeat(revert hN;revert N;apply Pn.out));refine wk (tw @bS.eq_1 (tw @hw @mJ)) ?_;(repeat(refine Pn.mk ?_;intro N hN))))
  exact cH (b:=-1) (.inl rfl) (sd @Nat.zero_add) (jy hf).symm
theorem Hy (xs:List Int) (l:Int) (h0:0<=l) (h1:l<=1048576):ak Tryz.prog 255 [.sl (xs.map aM),.int .i64 l] (.int .i64 (u9 xs.length l)):=by
 have h:=HA (show lN Tryz.prog 255=some (Hz 255) by kernel_rfl) (xs.map aM) l h0 h1
 rwa [List.length_map]at h
theorem HD (t:eu) (l:Int) (h0:0<=l) (h1:l<=1048576) (hs:t.aD.size<=9223372036854775807):ak Tryz.prog 165 [.agg (bI t),.int .i64 l] (.int .i64 (u9 (jC t) l)):=by
 refine ak.body eL rfl fun hl n0=>?_
 clear hl
 have hw:IntKind.i64.wrap (l-(t.aD.size:Int))=l-t.aD.size:=bP ad
 by_cases hf:(t.aD.size:Int)<=l
 ·have mJ:¬l-(t.aD.size:Int)<0:=ad
  have hc:=Hy t.bB (l-t.aD.size) ad ad
  by_cases hg:(t.bB.length:Int)<=l-t.aD.size
  ·rw[ji hg]at hc
   have Nv:¬l-(t.aD.size:Int)-(t.bB.length:Int)<0:=ad
   (repeat(first|((repeat(revert hN;revert N;apply Pn.out));refine wk (tw @bI.eq_1 (tw @hw (tw @mJ @Nv))) ?_;(repeat(refine Pn.mk ?_;intro N hN)))|((try apply Or.inl);refine⟨_,ak.x (hc) (sd (tw @bI.eq_1 (tw @hw (tw @mJ @Nv)))),?_⟩;refine hN _ _ ?_;clear hN N)))
   exact cH (b:=l-(t.aD.size:Int)-(t.bB.length:Int)) (.inl rfl) (sd @Nat.zero_add) (by rw[ji (by unfold jC;omega)];unfold jC;omega)
  ·rw[jy hg]at hc
   (repeat(first|((repeat(revert hN;revert N;apply Pn.out));refine wk (tw @bI.eq_1 (tw @hw @mJ)) ?_;(repeat(refine Pn.mk ?_;intro N hN)))|((try apply Or.inl);refine⟨_,ak.x (hc) (sd (tw @bI.eq_1 (tw @hw @mJ))),?_⟩;refine hN _ _ ?_;clear hN N)))
   exact cH (b:=-1) (.inl rfl) (sd @Nat.zero_add) (jy (by unfold jC;omega)).symm
 ·have mJ:l-(t.aD.size:Int)<0:=ad
  (try((repeat(revert hN;revert N;apply Pn.out));refine wk (tw @bI.eq_1 (tw @hw @mJ)) ?_;(repeat(refine Pn.mk ?_;intro N hN))))
  exact cH (b:=-1) (.inl rfl) (sd @Nat.zero_add) (jy (by unfold jC;omega)).symm
theorem EV (xs:List eV) (l:Int) (h0:0<=l) (h1:l<=1048576) (hs:∀g∈xs,g.aD.size<=9223372036854775807):ak Tryz.prog 68 [.sl (xs.map bS),.int .i64 l] (.int .i64 (u9 (xs.length+(xs.map fun g=>g.aD.size).sum) l)):=
 HC (fun g:eV=>g.aD.size) (show lN Tryz.prog 68=some (HB 68 164 2) by kernel_rfl) (fun _=>rfl) yk xs l h0 h1 fun x hx l a b=>Hx x l a b (hs x hx)
theorem EW (xs:List eu) (l:Int) (h0:0<=l) (h1:l<=1048576) (hs:∀t∈xs,t.aD.size<=9223372036854775807):ak Tryz.prog 69 [.sl (xs.map bI),.int .i64 l] (.int .i64 (u9 (xs.length+(xs.map jC).sum) l)):=
 HC jC (show lN Tryz.prog 69=some (HB 69 165 2) by kernel_rfl) (fun _=>rfl) yl xs l h0 h1 fun x hx l a b=>HD x l a b (hs x hx)
theorem BP (xs:List ai) (l:Int) (h0:0<=l) (h1:l<=1048576):ak Tryz.prog 70 [.sl (xs.map ah),.int .i64 l] (.int .i64 (u9 xs.length l)):=by
 have h:=HA (show lN Tryz.prog 70=some (Hz 70) by kernel_rfl) (xs.map ah) l h0 h1
 rwa [List.length_map]at h
theorem zy (s:ao) (l:Int) (h0:0<=l) (h1:l<=1048576) (hs:fR s):ak Tryz.prog 10 [.agg (aa s),.int .i64 l] (.int .i64 (u9 (tD s) l)):=by
 refine ak.body eL rfl fun hl n0=>?_
 clear hl
 have ha:=EV s.ay l h0 h1 hs.1
 have he:tD s=(s.ay.length+(s.ay.map fun g=>g.aD.size).sum)+(s.aj.length+(s.aj.map jC).sum):=rfl
 by_cases hf:((s.ay.length+(s.ay.map fun g=>g.aD.size).sum:Nat):Int)<=l
 ·rw[ji hf]at ha
  obtain⟨A,hA⟩:∃A:Int,A=l-((s.ay.length+(s.ay.map fun g=>g.aD.size).sum:Nat):Int):=⟨_,rfl⟩
  rw[<-hA]at ha
  have mJ:¬A<0:=ad
  have hb:=EW s.aj A ad ad hs.2
  by_cases hg:((s.aj.length+(s.aj.map jC).sum:Nat):Int)<=A
  ·rw[ji hg]at hb
   obtain⟨B,hB⟩:∃B:Int,B=A-((s.aj.length+(s.aj.map jC).sum:Nat):Int):=⟨_,rfl⟩
   rw[<-hB]at hb
   have Nv:¬B<0:=ad
   (repeat(first|((repeat(revert hN;revert N;apply Pn.out));refine wk (tw @aa.eq_1 (tw @mJ @Nv)) ?_;(repeat(refine Pn.mk ?_;intro N hN)))|((try apply Or.inl);refine⟨_,ak.x (ha) (sd (tw @aa.eq_1 (tw @mJ @Nv))),?_⟩;refine hN _ _ ?_;clear hN N)|((try apply Or.inl);refine⟨_,ak.x (hb) (sd (tw @aa.eq_1 (tw @mJ @Nv))),?_⟩;refine hN _ _ ?_;clear hN N)))
   exact cH (b:=B) (.inl rfl) (sd @Nat.zero_add) (by rw[ji ad];omega)
  ·rw[jy hg]at hb
   (repeat(first|((repeat(revert hN;revert N;apply Pn.out));refine wk (tw @aa.eq_1 @mJ) ?_;(repeat(refine Pn.mk ?_;intro N hN)))|((try apply Or.inl);refine⟨_,ak.x (ha) (sd (tw @aa.eq_1 @mJ)),?_⟩;refine hN _ _ ?_;clear hN N)|((try apply Or.inl);refine⟨_,ak.x (hb) (sd (tw @aa.eq_1 @mJ)),?_⟩;refine hN _ _ ?_;clear hN N)))
   exact cH (b:=-1) (.inl rfl) (sd @Nat.zero_add) (jy ad).symm
 ·rw[jy hf]at ha
  (repeat(first|((repeat(revert hN;revert N;apply Pn.out));refine wk @aa.eq_1 ?_;(repeat(refine Pn.mk ?_;intro N hN)))|((try apply Or.inl);refine⟨_,ak.x (ha) (sd @aa.eq_1),?_⟩;refine hN _ _ ?_;clear hN N)))
  exact cH (b:=-1) (.inl rfl) (sd @Nat.zero_add) (jy ad).symm
theorem wW (a:dV) (l:Int) (h0:0<=l) (h1:l<=1048576):ak Tryz.prog 11 [.agg (aY a),.int .i64 l] (.int .i64 (u9 a.aj.length l)):=by
 refine ak.body eL rfl fun hl n0=>?_
 clear hl
 have ha:=BP a.aj l h0 h1
 by_cases hf:(a.aj.length:Int)<=l
 ·rw[ji hf]at ha
  have mJ:¬l-(a.aj.length:Int)<0:=ad
  (repeat(first|((repeat(revert hN;revert N;apply Pn.out));refine wk (tw @aY.eq_1 @mJ) ?_;(repeat(refine Pn.mk ?_;intro N hN)))|((try apply Or.inl);refine⟨_,ak.x (ha) (sd (tw @aY.eq_1 @mJ)),?_⟩;refine hN _ _ ?_;clear hN N)))
  exact cH (b:=l-(a.aj.length:Int)) (.inl rfl) (sd @Nat.zero_add) (ji hf).symm
 ·rw[jy hf]at ha
  (repeat(first|((repeat(revert hN;revert N;apply Pn.out));refine wk @aY.eq_1 ?_;(repeat(refine Pn.mk ?_;intro N hN)))|((try apply Or.inl);refine⟨_,ak.x (ha) (sd @aY.eq_1),?_⟩;refine hN _ _ ?_;clear hN N)))
  exact cH (b:=-1) (.inl rfl) (sd @Nat.zero_add) (jy hf).symm
theorem JE (x:eV) (g:Rows):cR g 5 (bS x)=some (bS x):=by simp[bS,ab,ae,aU,az]
theorem JF (x:eu) (g:Rows):cR g 5 (bI x)=some (bI x):=by simp[bI,ab,ae,aU,bu]
theorem EH (x:ai) (g:Rows):cR g 5 (ah x)=some (ah x):=by simp[ah,ab,ae,az]
theorem vg (p:br):ki Tryz.prog 224 [.agg (aq p)] (.agg (aq p)):=by
 refine ki.body eL rfl fun hl σ=>?_
 clear hl
 (try((repeat(revert hN;revert N;apply Pn.out));refine wk @aq.eq_1 ?_;(repeat(refine Pn.mk ?_;intro N hN))))
 exact uf (.inl rfl) (vs:=[.agg (aq p)]) (by simp only[go_sem, ↓reduceIte,Nat.reduceEqDiff,Nat.reduceAdd,Nat.reduceSub,Nat.reduceLeDiff,reduceCtorEq,fe,iq,aq]) (by simp[eH,aq,aP,ab,ae,az])
theorem BR (p:ai):ki Tryz.prog 174 [.agg (ah p)] (.agg (ah p)):=by
 refine ki.body eL rfl fun hl σ=>?_
 clear hl
 have h:=vg p.cG
 rw[aq]at h
 (repeat(first|((repeat(revert hN;revert N;apply Pn.out));refine wk @ah.eq_1 ?_;(repeat(refine Pn.mk ?_;intro N hN)))|((try apply Or.inl);refine⟨_,ki.x (h) _,?_⟩;refine hN _ _ ?_;clear hN N)))
 exact uf (.inl rfl) (vs:=[.agg (ah p)]) (by simp only[go_sem, ↓reduceIte,Nat.reduceEqDiff,Nat.reduceAdd,Nat.reduceSub,Nat.reduceLeDiff,reduceCtorEq,fe,iq,ah]) (by simp[eH,ah,aP,ab,ae,az])
theorem HG (p:eV):ki Tryz.prog 172 [.agg (bS p)] (.agg (bS p)):=by
 refine ki.body eL rfl fun hl σ=>?_
 clear hl
 (try((repeat(revert hN;revert N;apply Pn.out));refine wk @bS.eq_1 ?_;(repeat(refine Pn.mk ?_;intro N hN))))
 exact uf (.inl rfl) (vs:=[.agg (bS p)]) (by simp only[go_sem, ↓reduceIte,Nat.reduceEqDiff,Nat.reduceAdd,Nat.reduceSub,Nat.reduceLeDiff,reduceCtorEq,fe,iq,bS]) (by simp[eH,bS,aP,ab,ae,az,aU])
theorem HI (xs:List Int) (h:xs.length<=1048576):ki Tryz.prog 263 [.sl (xs.map aM)] (.sl (xs.map aM)):=
 PK (show lN Tryz.prog 263=some (HJ 263 (.int .i64 0)) by kernel_rfl) xs h
def qd (t:eu):Prop:=t.bB.length<=1048576
theorem HL (p:eu) (hs:qd p):ki Tryz.prog 173 [.agg (bI p)] (.agg (bI p)):=by
 refine ki.body eL rfl fun hl σ=>?_
 clear hl
 have h:=HI p.bB hs
 (repeat(first|((repeat(revert hN;revert N;apply Pn.out));refine wk @bI.eq_1 ?_;(repeat(refine Pn.mk ?_;intro N hN)))|((try apply Or.inl);refine⟨_,ki.x (h) _,?_⟩;refine hN _ _ ?_;clear hN N)))
 exact uf (.inl rfl) (vs:=[.agg (bI p)]) (by simp only[go_sem, ↓reduceIte,Nat.reduceEqDiff,Nat.reduceAdd,Nat.reduceSub,Nat.reduceLeDiff,reduceCtorEq,fe,iq,bI]) (by simp[eH,bI,aP,ab,ae,bu,aU])
theorem x7 (xs ys:List Int):ak Tryz.prog 99 [.sl (xs.map aM),.sl (ys.map aM)] (.bool (decide (xs=ys))):=
 N2 (show lN Tryz.prog 99=some (Ke 99 .tI) by kernel_rfl) xs ys
theorem FZ (a b:eu):ak Tryz.prog 188 [.agg (bI a),.agg (bI b)] (.bool (decide (a=b))):=by
 refine ak.body eL rfl fun hl n0=>?_
 clear hl
 have h:=x7 a.bB b.bB
 by_cases h1:a.aD=b.aD
 ·have e1:decide (a.aD=b.aD)=true:=decide_eq_true h1
  by_cases h2:a.bB=b.bB
  ·rw[decide_eq_true h2]at h
   (repeat(first|((repeat(revert hN;revert N;apply Pn.out));refine wk (tw @bI.eq_1 @e1) ?_;(repeat(refine Pn.mk ?_;intro N hN)))|((try apply Or.inl);refine⟨_,ak.x (h) (sd (tw @bI.eq_1 @e1)),?_⟩;refine hN _ _ ?_;clear hN N)))
   exact bt (b:=true) (.inl rfl) (sd @Nat.zero_add) (decide_eq_true (by cases a;cases b;simp_all)).symm
  ·rw[decide_eq_false h2]at h
   (repeat(first|((repeat(revert hN;revert N;apply Pn.out));refine wk (tw @bI.eq_1 @e1) ?_;(repeat(refine Pn.mk ?_;intro N hN)))|((try apply Or.inl);refine⟨_,ak.x (h) (sd (tw @bI.eq_1 @e1)),?_⟩;refine hN _ _ ?_;clear hN N)))
   exact bt (b:=false) (.inl rfl) (sd @Nat.zero_add) (decide_eq_false (by rintro rfl;exact h2 rfl)).symm
 ·have e1:decide (a.aD=b.aD)=false:=decide_eq_false h1
  (try((repeat(revert hN;revert N;apply Pn.out));refine wk (tw @bI.eq_1 @e1) ?_;(repeat(refine Pn.mk ?_;intro N hN))))
  exact bt (b:=false) (.inl rfl) (sd @Nat.zero_add) (decide_eq_false (by rintro rfl;exact h1 rfl)).symm
theorem E0 (xs:List eV) (h:xs.length<=1048576):ki Tryz.prog 74 [.sl (xs.map bS)] (.sl (xs.map bS)):=
 BS (show lN Tryz.prog 74=some (rm 74 172 2 [.str [],.int .i64 0]) by kernel_rfl) rfl (fun _=>rfl) (fun _=>rfl) JE xs h fun x _=>HG x
theorem E4 (xs:List eu) (h:xs.length<=1048576) (hs:∀t∈xs,qd t):ki Tryz.prog 75 [.sl (xs.map bI)] (.sl (xs.map bI)):=
 BS (show lN Tryz.prog 75=some (rm 75 173 2 [.str [],.cK]) by kernel_rfl) rfl (fun _=>rfl) (fun _=>rfl) JF xs h fun x hx=>HL x (hs x hx)
theorem zB (xs:List ai) (h:xs.length<=1048576):ki Tryz.prog 76 [.sl (xs.map ah)] (.sl (xs.map ah)):=
 BS (show lN Tryz.prog 76=some (rm 76 174 3 [.int .i64 0,.int .i64 0,.int .i64 0]) by kernel_rfl) rfl (fun _=>rfl) (fun _=>rfl) EH xs h fun x _=>BR x
structure qQ (s:ao):Prop where
 g:s.ay.length<=1048576
 t:s.aj.length<=1048576
 s:∀t∈s.aj,qd t
theorem zD (p:ao) (hs:qQ p):ki Tryz.prog 13 [.agg (aa p)] (.agg (aa p)):=by
 refine ki.body eL rfl fun hl σ=>?_
 clear hl
 have h1:=E0 p.ay hs.g
 have h2:=E4 p.aj hs.t hs.s
 (repeat(first|((repeat(revert hN;revert N;apply Pn.out));refine wk @aa.eq_1 ?_;(repeat(refine Pn.mk ?_;intro N hN)))|((try apply Or.inl);refine⟨_,ki.x (h1) _,?_⟩;refine hN _ _ ?_;clear hN N)|((try apply Or.inl);refine⟨_,ki.x (h2) _,?_⟩;refine hN _ _ ?_;clear hN N)))
 exact uf (.inl rfl) (vs:=[.agg (aa p)]) (by simp only[go_sem, ↓reduceIte,Nat.reduceEqDiff,Nat.reduceAdd,Nat.reduceSub,Nat.reduceLeDiff,reduceCtorEq,fe,iq,aa]) (by simp[eH,aa,aP,ab,ae,bu])
theorem w9 (p:dV) (hs:p.aj.length<=1048576):ki Tryz.prog 14 [.agg (aY p)] (.agg (aY p)):=by
 refine ki.body eL rfl fun hl σ=>?_
 clear hl
 have h1:=zB p.aj hs
 (repeat(first|((repeat(revert hN;revert N;apply Pn.out));refine wk @aY.eq_1 ?_;(repeat(refine Pn.mk ?_;intro N hN)))|((try apply Or.inl);refine⟨_,ki.x (h1) _,?_⟩;refine hN _ _ ?_;clear hN N)))
 exact uf (.inl rfl) (vs:=[.agg (aY p)]) (by simp only[go_sem, ↓reduceIte,Nat.reduceEqDiff,Nat.reduceAdd,Nat.reduceSub,Nat.reduceLeDiff,reduceCtorEq,fe,iq,aY]) (by simp[eH,aY,aP,ab,ae,bu])
theorem FY (a b:eV):ak Tryz.prog 187 [.agg (bS a),.agg (bS b)] (.bool (decide (a=b))):=by
 refine ak.body eL rfl fun hl n0=>?_
 clear hl
 by_cases h1:a.aD=b.aD
 ·have e1:decide (a.aD=b.aD)=true:=decide_eq_true h1
  by_cases h2:a.ec=b.ec
  ·have e2:decide (a.ec=b.ec)=true:=decide_eq_true h2
   (try((repeat(revert hN;revert N;apply Pn.out));refine wk (tw @bS.eq_1 (tw @e1 @e2)) ?_;(repeat(refine Pn.mk ?_;intro N hN))))
   exact bt (b:=true) (.inl rfl) (sd @Nat.zero_add) (decide_eq_true (by cases a;cases b;simp_all)).symm
  ·have e2:decide (a.ec=b.ec)=false:=decide_eq_false h2
   (try((repeat(revert hN;revert N;apply Pn.out));refine wk (tw @bS.eq_1 (tw @e1 @e2)) ?_;(repeat(refine Pn.mk ?_;intro N hN))))
   exact bt (b:=false) (.inl rfl) (sd @Nat.zero_add) (decide_eq_false (by rintro rfl;exact h2 rfl)).symm
 ·have e1:decide (a.aD=b.aD)=false:=decide_eq_false h1
  (try((repeat(revert hN;revert N;apply Pn.out));refine wk (tw @bS.eq_1 @e1) ?_;(repeat(refine Pn.mk ?_;intro N hN))))
  exact bt (b:=false) (.inl rfl) (sd @Nat.zero_add) (decide_eq_false (by rintro rfl;exact h1 rfl)).symm
theorem DD (a b:br):ak Tryz.prog 186 [.agg (aq a),.agg (aq b)] (.bool (decide (a=b))):=by
 refine ak.body eL rfl fun hl n0=>?_
 clear hl
 by_cases h1:a.fZ=b.fZ
 ·have e1:decide (a.fZ=b.fZ)=true:=decide_eq_true h1
  by_cases h2:a.fC=b.fC
  ·have e2:decide (a.fC=b.fC)=true:=decide_eq_true h2
   (try((repeat(revert hN;revert N;apply Pn.out));refine wk (tw @aq.eq_1 (tw @e1 @e2)) ?_;(repeat(refine Pn.mk ?_;intro N hN))))
   exact bt (b:=true) (.inl rfl) (sd @Nat.zero_add) (decide_eq_true (by cases a;cases b;simp_all)).symm
  ·have e2:decide (a.fC=b.fC)=false:=decide_eq_false h2
   (try((repeat(revert hN;revert N;apply Pn.out));refine wk (tw @aq.eq_1 (tw @e1 @e2)) ?_;(repeat(refine Pn.mk ?_;intro N hN))))
   exact bt (b:=false) (.inl rfl) (sd @Nat.zero_add) (decide_eq_false (by rintro rfl;exact h2 rfl)).symm
 ·have e1:decide (a.fZ=b.fZ)=false:=decide_eq_false h1
  (try((repeat(revert hN;revert N;apply Pn.out));refine wk (tw @aq.eq_1 @e1) ?_;(repeat(refine Pn.mk ?_;intro N hN))))
  exact bt (b:=false) (.inl rfl) (sd @Nat.zero_add) (decide_eq_false (by rintro rfl;exact h1 rfl)).symm
theorem Aw (a b:ai):ak Tryz.prog 189 [.agg (ah a),.agg (ah b)] (.bool (decide (a=b))):=by
 refine ak.body eL rfl fun hl n0=>?_
 clear hl
 have h:=DD a.cG b.cG
 rw[aq,aq]at h
 by_cases h1:a.cG=b.cG
 ·rw[decide_eq_true h1]at h
  by_cases h2:a.bU=b.bU
  ·have e2:decide (a.bU=b.bU)=true:=decide_eq_true h2
   (repeat(first|((repeat(revert hN;revert N;apply Pn.out));refine wk (tw @ah.eq_1 @e2) ?_;(repeat(refine Pn.mk ?_;intro N hN)))|((try apply Or.inl);refine⟨_,ak.x (h) (sd (tw @ah.eq_1 @e2)),?_⟩;refine hN _ _ ?_;clear hN N)))
   exact bt (b:=true) (.inl rfl) (sd @Nat.zero_add) (decide_eq_true (by cases a;cases b;simp_all)).symm
  ·have e2:decide (a.bU=b.bU)=false:=decide_eq_false h2
   (repeat(first|((repeat(revert hN;revert N;apply Pn.out));refine wk (tw @ah.eq_1 @e2) ?_;(repeat(refine Pn.mk ?_;intro N hN)))|((try apply Or.inl);refine⟨_,ak.x (h) (sd (tw @ah.eq_1 @e2)),?_⟩;refine hN _ _ ?_;clear hN N)))
   exact bt (b:=false) (.inl rfl) (sd @Nat.zero_add) (decide_eq_false (by rintro rfl;exact h2 rfl)).symm
 ·rw[decide_eq_false h1]at h
  (repeat(first|((repeat(revert hN;revert N;apply Pn.out));refine wk @ah.eq_1 ?_;(repeat(refine Pn.mk ?_;intro N hN)))|((try apply Or.inl);refine⟨_,ak.x (h) (sd @ah.eq_1),?_⟩;refine hN _ _ ?_;clear hN N)))
  exact bt (b:=false) (.inl rfl) (sd @Nat.zero_add) (decide_eq_false (by rintro rfl;exact h1 rfl)).symm
theorem Dz (xs ys:List eV):ak Tryz.prog 81 [.sl (xs.map bS),.sl (ys.map bS)] (.bool (decide (xs=ys))):=
 Ax (show lN Tryz.prog 81=some (Cl 81 187 2) by kernel_rfl) (fun _=>rfl) yk xs ys FY
theorem DE (xs ys:List eu):ak Tryz.prog 82 [.sl (xs.map bI),.sl (ys.map bI)] (.bool (decide (xs=ys))):=
 Ax (show lN Tryz.prog 82=some (Cl 82 188 2) by kernel_rfl) (fun _=>rfl) yl xs ys FZ
theorem x9 (xs ys:List ai):ak Tryz.prog 83 [.sl (xs.map ah),.sl (ys.map ah)] (.bool (decide (xs=ys))):=
 Ax (show lN Tryz.prog 83=some (Cl 83 189 3) by kernel_rfl) (fun _=>rfl) AJ xs ys Aw
end Go.Proofs.YtphenfakmdknlaaGreat.V

namespace Go.Proofs.YtphenfakmdknlaaGreat.V
open Go.RowKit
def isApp:fH->Bool
 | .append .. =>true
 |_=>false
variable {P:Program} {X:fb} {K:Env->ar->Prop} {env:Env} {σ:ar}
theorem KW {draw:Bool} {o:bw} {r:List bw} (_:isApp o.op=false) (h:∀N:AV->ar->Prop,(∀v s,wpOps X draw r K (upd env o.dst v) s->N v s)->if ax o.guard env then eB X draw o env σ N else N .undef σ):wpOps X draw (o::r) K env σ:=MU h
end Go.Proofs.YtphenfakmdknlaaGreat.V

namespace Go.Proofs.YtphenfakmdknlaaGreat.V
open Go.RowKit
section
variable {α:Type} {enc:α->List AV} {sz:Nat} {g g':Rows} {a:AV} {xs:List α} {ids:List Id}
end
abbrev tO (α:Type):=Rows->List AV->α->List Id->Prop
structure nM {α:Type} (R:tO α) (sz:Nat):Prop where
 frame:∀{g g':Rows} {cs x ids},R g cs x ids->(∀i∈ids,g' i=g i)->R g' cs x ids
 len:∀{g cs x ids},R g cs x ids->cs.length=sz
 cell:∀{g cs x ids},R g cs x ids->cs.all AV.cell=true
 live:∀{g cs x ids},R g cs x ids->∀i∈ids,∃r,g i=some r/\r.w=true/\r.sz<l6
 small:sz<l6
inductive cW {α:Type} (R:tO α) (g:Rows):List (List AV)->List α->List Id->Prop
 |nil:cW R g [] [] []
 |cons {cs x i1 rs xs i2}:R g cs x i1->cW R g rs xs i2->cW R g (cs::rs) (x::xs) (i1++i2)
section
variable {α:Type} {R:tO α} {sz:Nat} {g g':Rows} {rows r1 r2:List (List AV)} {xs x1 x2:List α} {ids i1 i2:List Id}
theorem cW.len (h:cW R g rows xs ids):rows.length=xs.length:=by
 induction h with
 |nil=>rfl
 |cons _ _ ih=>simp[ih]
theorem cW.frame (ok:nM R sz) (h:cW R g rows xs ids) (hf:∀i∈ids,g' i=g i):cW R g' rows xs ids:=by
 induction h with
 |nil=>exact .nil
 |cons h1 _ ih=>exact .cons (ok.frame h1 fun i hi=>hf i (List.mem_append_left _ hi)) (ih fun i hi=>hf i (List.mem_append_right _ hi))
theorem cW.all (ok:nM R sz) (h:cW R g rows xs ids):rows.all (fun c=>c.length==sz&&c.all AV.cell)=true:=by
 induction h with
 |nil=>rfl
 |cons h1 _ ih=>rw[List.all_cons,ih,ok.len h1,ok.cell h1];simp
theorem cW.app (h1:cW R g r1 x1 i1) (h2:cW R g r2 x2 i2):cW R g (r1++r2) (x1++x2) (i1++i2):=by
 induction h1 with
 |nil=>exact h2
 |cons h _ ih=>rw[List.append_assoc];exact .cons h ih
theorem cW.one {cs:List AV} {x:α} (h:R g cs x ids):cW R g [cs] [x] ids:=by
 have:=cW.cons h cW.nil
 rwa [List.append_nil]at this
theorem cW.split (h:cW R g rows xs ids):∀k (hk:k<xs.length),∃r1 cs r2 i1 ic i2,rows=r1++cs::r2/\r1.length=k/\ids=i1++(ic++i2)/\cW R g r1 (xs.take k) i1/\R g cs xs[k] ic/\cW R g r2 (xs.drop (k+1)) i2:=by
 induction h with
 |nil=>intro k hk;simp at hk
 |cons h1 h2 ih=>
  rename_i cs x j1 rs xs j2
  intro k hk
  cases k with
  |zero=>exact⟨[],cs,rs,[],j1,j2,rfl,rfl,rfl,.nil,h1,h2⟩
  |succ k=>
   obtain⟨r1,oa,r2,i1,ic,i2,rfl,hl,rfl,h3,h4,h5⟩:=ih k (by simpa using hk)
   exact⟨cs::r1,oa,r2,j1++i1,ic,i2,rfl,by simp[hl],by rw[List.append_assoc],.cons h1 h3,h4,h5⟩
theorem cW.at_ (h:cW R g rows xs ids) (k:Nat) (hk:k<xs.length):∃cs ic,rows[k]? =some cs/\R g cs xs[k] ic/\∀i∈ic,i∈ids:=by
 obtain⟨r1,cs,r2,i1,ic,i2,rfl,hl,rfl,h3,h4,h5⟩:=h.split k hk
 refine⟨cs,ic,by rw[List.getElem?_append_right ad];simp[hl],h4,fun i hi=>by simp[hi]⟩
theorem cW.put (ok:nM R sz) (h:cW R g rows xs ids) (kD:ids.Nodup) (k:Nat) (hk:k<xs.length):∃cs ic,rows[k]? =some cs/\R g cs xs[k] ic/\ic.Nodup/\(∀i∈ic,i∈ids)/\∀(g':Rows) x',R g' cs x' ic->(∀i∈ids,i∉ic->g' i=g i)->cW R g' rows (xs.set k x') ids:=by
 obtain⟨r1,cs,r2,i1,ic,i2,rfl,rfl,rfl,h3,h4,h5⟩:=h.split k hk
 obtain⟨_,n2,n3⟩:=List.nodup_append.1 kD
 obtain⟨nc,_,n4⟩:=List.nodup_append.1 n2
 refine⟨cs,ic,by simp,h4,nc,fun i hi=>by simp[hi],fun g' x' hR hf=>?_⟩
 have e:xs.set r1.length x'=xs.take r1.length++x'::xs.drop (r1.length+1):=by
  rw[List.set_eq_take_append_cons_drop,if_pos hk]
 rw[e]
 refine(h3.frame ok fun i hi=>hf i (by simp[hi]) fun hc=>n3 i hi i (by simp[hc]) rfl).app (.cons hR (h5.frame ok fun i hi=>hf i (by simp[hi]) fun hc=>n4 i hc i hi rfl))
theorem cW.fz {n:Nat} {e:α->List AV} (h:cW R g rows xs ids) (hz:∀{cs x ids},R g cs x ids->cR (dG g) n cs=some (e x)):dK (dG g) n rows=some (xs.map e):=by
 induction h with
 |nil=>rw[dK];rfl
 |cons h1 _ ih=>rw[dK,hz h1,ih];rfl
end
section
variable {α:Type} {R:tO α} {sz:Nat} {g g':Rows} {a:AV} {xs:List α} {ids:List Id}
end
variable {P:Program} {X:fb} {K:Env->ar->Prop} {env:Env} {σ:ar}
def lh {α:Type} (enc:α->List AV) (sz:Nat) (x:AV) (g:Rows) (S:Id->Prop) (L:List α):Prop:=∃o:Id,S o/\x=.own o 0 L.length/\g o=some ⟨true,sz,L.map enc⟩
section
variable {α:Type} {enc:α->List AV} {sz:Nat} {x:AV} {g g':Rows} {S:Id->Prop} {L L':List α}
theorem lh.cast (h:lh enc sz x g S L) (hL:L'=L):lh enc sz x g S L':=by subst hL;exact h
theorem lh.frame (h:lh enc sz x g S L) (hg:∀o:Id,S o->g' o=g o):lh enc sz x g' S L:=by
 obtain⟨o,h1,h2,h3⟩:=h
 exact⟨o,h1,h2,(hg o h1).trans h3⟩
theorem lh.app (hz:∀a,(enc a).length=sz/\(enc a).all AV.cell=true) (h:lh enc sz x g S L) (id:Id) (hid:S id) (M:List α) (hlen:L.length+M.length<=cV):
  ∃v g',aH g id sz x (M.map enc)=some (v,g')/\lh enc sz v g' S (L++M)/\∀j:Id,¬S j->g' j=g j:=by
 obtain⟨o,h1,rfl,h4⟩:=h
 refine⟨.own id 0 (L.length+(M.map enc).length),bC (bx g o) id ⟨true,sz,L.map enc++M.map enc⟩,?_,⟨id,hid,by simp,by simp[bC]⟩,fun j hj=>?_⟩
 ·have ha:=all_map (l:=M) hz
  simp only[aH,h4,Option.bind_some]
  rw[if_pos ⟨trivial,trivial,by simp,by simpa using hlen,ha⟩]
 ·have e1:¬j=id:=fun h=>hj (h▸hid)
  have e2:¬j=o:=fun h=>hj (h▸h1)
  simp[bC,bx,e1,e2]
theorem MS {draw:Bool} {o:bw} {r:List bw} {x' y:O} {xv:AV} (M:List α) (ho:o.op=.append sz x' y) (hw:ax o.guard env=true) (hx:cJ env x'=xv) (hO:lh enc sz xv σ.get S L)
  (hy:aT σ.get (cJ env y)=some (M.map enc)) (hz:∀a,(enc a).length=sz/\(enc a).all AV.cell=true) (hid:S ⟨o.site,σ.next⟩) (hlen:L.length+M.length<=cV)
  (next:∀v g',lh enc sz v g' S (L++M)->(∀j:Id,¬S j->g' j=σ.get j)->wpOps X draw r K (upd env o.dst v) ⟨g',σ.next⟩):wpOps X draw (o::r) K env σ:=by
 obtain⟨v,g',h1,h2,h3⟩:=hO.app hz ⟨o.site,σ.next⟩ hid M hlen
 unfold wpOps
 rw[if_pos hw]
 unfold eB
 simp only[ho,eJ,hy,hx,Option.bind_some,h1]
 exact next v g' h2 h3
theorem lh.fu {n:Nat} (h:lh enc sz x g S L) (he:∀a,dM g n (enc a)=some (enc a)):fu g (n+1) x=some (.sl (L.map enc)):=by
 obtain⟨o,_,rfl,h3⟩:=h
 exact fa h3 rfl he
end
theorem dE {a b:Id} (h:a.bR<b.bR):(a=b)=False/\(b=a)=False:=by
 constructor<;>(simp only[eq_iff_iff,iff_false];rintro rfl;omega)
theorem CV {o:Id} {a:Nat} (h:o.site=a) {b v:Nat} (l7:(a==b)=false):(o=⟨b,v⟩)=False:=by
 simp only[eq_iff_iff,iff_false]
 rintro rfl
 simp only at h
 subst h
 simp at l7
def eN (n:Nat):List AV:=[.int .i64 n]
theorem fzN (g:Rows) (n:Nat) (a:Nat):cR g (n+1) (eN a)=some (eN a):=by simp[eN,ab,ae,az]
theorem IC (g:Rows) (n:Nat) (a:Nat):dM g (n+1) (eN a)=some (eN a):=by simp[eN,cN,dC,fV]
def Ng:tO (List Nat):=fun g cs x ids=>∃id,cs=[.own id 0 x.length]/\g id=some ⟨true,1,x.map eN⟩/\ids=[id]
theorem Su:nM Ng 1 where
 frame:=fun⟨id,h1,h2,h3⟩ hf=>by subst h3;exact⟨id,h1,(hf id (by simp)).trans h2,rfl⟩
 len:=fun⟨id,h1,_⟩=>by subst h1;rfl
 cell:=fun⟨id,h1,_⟩=>by subst h1;rfl
 live:=fun⟨id,h1,h2,h3⟩ i hi=>by
  subst h3
  have:i=id:=by simpa using hi
  subst this
  exact⟨_,h2,rfl,by simp[l6]⟩
 small:=by simp[l6]
def FV (l:List Nat):List AV:=[.sl (l.map eN)]
theorem Mp {g:Rows} {rows:List (List AV)} {xs:List (List Nat)} {ids:List Id} (n:Nat) (h:cW Ng g rows xs ids):fx g (n+2) rows=some (xs.map FV):=by
 induction h with
 |nil=>rw[fx];rfl
 |cons h1 _ ih=>
  obtain⟨id,rfl,h2,_⟩:=h1
  rw[fx,ih,cN,dC,fa (e:=eN) (sz:=1) h2 rfl fun a=>IC g n a];rfl
end Go.Proofs.YtphenfakmdknlaaGreat.V
