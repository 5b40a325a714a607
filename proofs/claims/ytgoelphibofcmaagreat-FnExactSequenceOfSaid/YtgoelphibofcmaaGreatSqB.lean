/- One operation, calls among them. -/
import Derived.Test.YtgoelphibofcmaaGreatSqA
import Derived.Orders
import Derived.Conc.LoneCalls
import Derived.WalkKit
import Derived.WalkSpells
import Derived.WalkLawsBesides
import Derived.Lib.Hide
import Derived.Deep.QuietTactic
import Derived.BigQuiet
import Derived.StillTailTactics
import Derived.Deep.RegionWith
import Derived.Deep.RegionHeld3
import Derived.Deep.LoopGhost
import Derived.Deep.CutRange
import Derived.Deep.DeepCutAuto
import Derived.Test.YtgoelphibofcmaaGreatChecked
set_option linter.unusedVariables false
set_option linter.unusedSimpArgs false
set_option maxRecDepth 100000
set_option maxHeartbeats 16000000
namespace Go.Proofs.YtgoelphibofcmaaGreat.V
open Go.RowKit
variable {P:Program} {w w':World} {D D' D2:Nat->Prop} {ι ι' ι2:Names}
def Sound (P:Program):fF:=fun f args σ K=>∀(hs:Nat) (D:Nat->Prop) (ι:Names) (w:World) (vs:Array Value),gr P hs D ι σ.get w->Used ι σ.next (fun _=>False)->fh P w D ι args vs->
 Calls P f vs w fun e w'=>∃r g' n' D' ι' u,e=.returned u/\K r ⟨g',n'⟩/\Step hs D ι w D' ι' w'/\gr P hs D' ι' g' w'/\Used ι' n' (fun _=>False)/\σ.next<=n'/\cH P w' D' ι' r u
section
variable {g:Rows} {hs:Nat} {env:Env} {a:Act} {o:Oper} {id:Id} {v:AV}
theorem gr.ro (S:gr P hs D ι g w):gr P w.heap.size D ι (ro g) w:=by
 refine⟨Nat.le_refl _,S.dead,fun id r h=>?_,fun id jW r r' B B' h h' hw=>?_⟩
 ·unfold V.ro at h
  simp only[Option.map_eq_some_iff]at h
  obtain⟨r0,h0,rfl⟩:=h
  obtain⟨B,hB,R,_,_⟩:=S.row id r0 h0
  exact⟨B,hB,R.flag false,fun h=>by simp at h,fun h=>by simp at h⟩
 ·unfold V.ro at h
  simp only[Option.map_eq_some_iff]at h
  obtain⟨r0,h0,rfl⟩:=h
  simp at hw
theorem AJ {g0:Rows} {f:Nat} {args:List AV} {n:Nat} {K:AV->Prop} {vs:Array Value} (h:PC (Sound P) f args ⟨g0,n⟩ K) (qy:∀id r,g0 id=some r->g id=some r) (S:gr P hs D ι g w) (U:Used ι n (fun _=>False)) (A:fh P w D ι args vs):
  Calls P f vs w fun e w'=>∃r D' u,e=.returned u/\K r/\Step hs D ι w D' ι w'/\gr P hs D' ι g w'/\cH P w' D' ι r u:=by
 refine(h w.heap.size D ι w vs (S.sub qy).ro U A).mono ?_
 rintro e w' ⟨r0,g',n',D1,ι1,u,rfl,⟨r,hr,hK⟩,T,S1,_,_,hR⟩
 have hb:∀b,b<w.heap.size->w'.heap[b]? =w.heap[b]? :=T.below.block
 have hz:=T.below.size
 have q:=rq (D2:=fun b=>D b∨(w.heap.size<=b/\b<w'.heap.size)) (ι2:=ι) (fun b hd=>by
  rcases T.new b hd with h|h
  ·exact .inl h
  ·exact .inr ⟨h,S1.dead b hd⟩) (fun id row hg hw=>by
  obtain⟨B,hB,R,h1,_⟩:=S1.row id row hg
  exact⟨B,hB,R,.inr ⟨h1 hw,R.lt⟩⟩) 6 r0 u r hR hr
 refine⟨r,_,u,rfl,hK,?_,?_,q.1⟩
 ·exact Step.stay S hb hz T.below.os T.below.tape T.below.output (fun _ h=>.inl h) (fun b h=>by rcases h with h|h;exact .inl h;exact .inr h.1) (fun _ _ h=>h)
 ·exact S.stay hb hz (fun _ h=>.inl h) (fun b h=>by rcases h with h|h;exact Nat.lt_of_lt_of_le (S.dead b h) hz;exact h.2) (fun b h=>by rcases h with h|h;exact .inl h;exact .inr h.1) (fun _ _ h=>h)
theorem xO {g0:Rows} {f:Nat} {args:List AV} {n:Nat} {K:AV->Prop} {vs:Array Value} (h:PCv (Sound P) f args ⟨g0,n⟩ K) (qy:∀id r,g0 id=some r->g id=some r) (S:gr P hs D ι g w) (U:Used ι n (fun _=>False)) (A:fh P w D ι args vs):
  Calls P f vs w fun e w'=>∃r D' u,e=.returned u/\K r/\Step hs D ι w D' ι w'/\gr P hs D' ι g w'/\cH P w' D' ι r u:=by
 obtain⟨eF,ha,h⟩:=h
 let D1:Nat->Prop:=fun b=>D b∨∃id r B,g id=some r/\ι id=some B/\b=B.b
 have lt:∀id r B,g id=some r->ι id=some B->B.b<w.heap.size:=fun id r B h1 h2=>by
  obtain⟨B',dz,R,_⟩:=S.row id r h1
  rw[h2]at dz;injection dz with dz;subst dz
  exact R.lt
 have S0:gr P w.heap.size D1 ι (fun _=>none) w:=⟨Nat.le_refl _,fun b hb=>by
  rcases hb with hb|⟨id,r,B,h1,h2,rfl⟩
  ·exact S.dead b hb
  ·exact lt id r B h1 h2,fun id r h=>(by cases h),fun id jW r r' B B' h=>(by cases h)⟩
 obtain⟨l1,l2⟩:=gE ha
 have A':fh P w D1 ι eF vs:=⟨by rw[A.1,l1],fun j a hj=>by
  obtain⟨a0,k9,hf⟩:=l2 j a hj
  obtain⟨u,hu,hr⟩:=A.2 j a0 k9
  refine⟨u,hu,(rq (D2:=D1) (ι2:=ι) (fun b h=>.inl h) (fun id row hg hw=>?_) 6 a0 u a hr hf).1⟩
  unfold dO at hg
  simp only[Option.map_eq_some_iff]at hg
  obtain⟨r,nT,rfl⟩:=hg
  obtain⟨B,hB,R,_,_⟩:=S.row id r (qy id r nT)
  exact⟨B,hB,R.flag true,.inr ⟨id,r,B,qy id r nT,hB,rfl⟩⟩⟩
 refine(h w.heap.size D1 ι w vs S0 U A').mono ?_
 rintro e w' ⟨r0,g',n',D2,ι1,u,rfl,⟨r,hr,hK⟩,T,S1,_,_,hR⟩
 have hb:∀b,b<w.heap.size->w'.heap[b]? =w.heap[b]? :=T.below.block
 have hz:=T.below.size
 have q:=F3 (D2:=fun b=>D b∨(w.heap.size<=b/\b<w'.heap.size)) (ι2:=ι) (fun id row hg hw=>by
  obtain⟨B,hB,R,h1,_⟩:=S1.row id row hg
  exact⟨B,hB,R,.inr ⟨h1 hw,R.lt⟩⟩) 6 r0 u r hR hr
 refine⟨r,_,u,rfl,hK,?_,?_,q.1⟩
 ·exact Step.stay S hb hz T.below.os T.below.tape T.below.output (fun _ h=>.inl h) (fun b h=>by rcases h with h|h;exact .inl h;exact .inr h.1) (fun _ _ h=>h)
 ·exact S.stay hb hz (fun _ h=>.inl h) (fun b h=>by rcases h with h|h;exact Nat.lt_of_lt_of_le (S.dead b h) hz;exact h.2) (fun b h=>by rcases h with h|h;exact .inl h;exact .inr h.1) (fun _ _ h=>h)
theorem FG {g0:Rows} {f:Nat} {args:List AV} {n:Nat} {K:AV->Prop} {vs:Array Value} (h:gD (Sound P) f args ⟨g0,n⟩ K) (qy:∀id r,g0 id=some r->g id=some r) (S:gr P hs D ι g w) (U:Used ι n (fun _=>False)) (A:fh P w D ι args vs):
  Calls P f vs w fun e w'=>∃r D' u,e=.returned u/\K r/\Step hs D ι w D' ι w'/\gr P hs D' ι g w'/\cH P w' D' ι r u:=by
 rcases h with h|h
 ·exact AJ h qy S U A
 ·exact xO h qy S U A
theorem GM {D1 D2:Nat->Prop} {ι1 ι2:Names} {w1:World} {a:AV} {v:Value} (hp:a.plain=true) (h:cH P w D1 ι1 a v):cH P w1 D2 ι2 a v:=by
 cases h with
 |eL a v h=>cases h<;>first|(simp[AV.plain]at hp;done)|exact .eL _ _ (by constructor)
 |_=>simp[AV.plain]at hp
theorem gr.add {r:Row} {B:si} (S:gr P hs D ι g w) (S':gr P hs D ι g w') (hf:ι id=none) (kh:w.heap.size<=B.b) (R:gL P w' D (kD ι id B) B r):gr P hs D (kD ι id B) (bz g id r) w':=by
 have lt:∀jW r' B',g jW=some r'->ι jW=some B'->B'.b<w.heap.size:=fun jW r' B' h1 h2=>by
  obtain⟨B2,pN,R2,_⟩:=S.row jW r' h1
  rw[h2]at pN;injection pN with pN;subst pN
  exact R2.lt
 have ne:∀jW r',g jW=some r'->jW≠id:=fun jW r' h he=>by
  subst he
  obtain⟨B2,pN,_⟩:=S.row _ r' h
  rw[hf]at pN;cases pN
 refine⟨S'.lo,S'.dead,fun jW r' h=>?_,fun Rf id2 r1 r2 B1 B2 h1 h2 hw AB pN hb=>?_⟩
 ·unfold bz at h
  split at h
  ·rename_i he
   subst he
   injection h with h;subst h
   exact⟨B,dW _ _ _,R,fun _=>Nat.le_trans S.lo kh,fun _ hd=>Nat.lt_irrefl _ (Nat.lt_of_lt_of_le (S.dead _ hd) kh)⟩
  ·obtain⟨B',dz,R',k1,k2⟩:=S'.row jW r' h
   exact⟨B',by rw[gi (ne _ _ h)];exact dz,R'.frame rfl (fun a v hr=>hr.frame (fun _ _=>rfl) (fun _ h=>h) (e6 hf)),k1,k2⟩
 ·unfold bz at h1 h2
  split at h1
  ·rename_i e1
   split at h2
   ·rename_i e2;rw[e1,e2]
   ·exfalso
    subst e1
    rw[dW]at AB;injection AB with AB;subst AB
    rw[gi (ne _ _ h2)]at pN
    have:=lt _ _ _ h2 pN
    omega
  ·rw[gi (ne _ _ h1)]at AB
   split at h2
   ·rename_i e2
    exfalso
    subst e2
    rw[dW]at pN;injection pN with pN;subst pN
    have:=lt _ _ _ h1 AB
    omega
   ·rw[gi (ne _ _ h2)]at pN
    exact S'.inj Rf id2 r1 r2 B1 B2 h1 h2 hw AB pN hb
theorem Hu {g0:Rows} {f:Nat} {args:List AV} {n sz:Nat} {rows:List (List AV)} {vs:Array Value} (h:CM (Sound P) f args ⟨g0,n⟩ sz rows) (qy:∀id r,g0 id=some r->g id=some r) (S:gr P hs D ι g w) (U:Used ι n (fun _=>False)) (A:fh P w D ι args vs) (hf:ι id=none):
  Calls P f vs w fun e w'=>∃u B,e=.returned u/\Step hs D ι w D (kD ι id B) w'/\gr P hs D (kD ι id B) (bz g id ⟨true,sz,rows⟩) w'/\cH P w' D (kD ι id B) (.own id 0 rows.length) u:=by
 obtain⟨l7,eF,ha,h⟩:=h
 let D1:Nat->Prop:=fun b=>D b∨∃id r B,g id=some r/\ι id=some B/\b=B.b
 have lt:∀id r B,g id=some r->ι id=some B->B.b<w.heap.size:=fun id r B h1 h2=>by
  obtain⟨B',dz,R,_⟩:=S.row id r h1
  rw[h2]at dz;injection dz with dz;subst dz
  exact R.lt
 have S0:gr P w.heap.size D1 ι (fun _=>none) w:=⟨Nat.le_refl _,fun b hb=>by
  rcases hb with hb|⟨id,r,B,h1,h2,rfl⟩
  ·exact S.dead b hb
  ·exact lt id r B h1 h2,fun id r h=>(by cases h),fun id jW r r' B B' h=>(by cases h)⟩
 obtain⟨l1,l2⟩:=gE ha
 have A':fh P w D1 ι eF vs:=⟨by rw[A.1,l1],fun j a hj=>by
  obtain⟨a0,k9,hz⟩:=l2 j a hj
  obtain⟨u,hu,hr⟩:=A.2 j a0 k9
  refine⟨u,hu,(rq (D2:=D1) (ι2:=ι) (fun b h=>.inl h) (fun id row hg hw=>?_) 6 a0 u a hr hz).1⟩
  unfold dO at hg
  simp only[Option.map_eq_some_iff]at hg
  obtain⟨r,nT,rfl⟩:=hg
  obtain⟨B,hB,R,_,_⟩:=S.row id r (qy id r nT)
  exact⟨B,hB,R.flag true,.inr ⟨id,r,B,qy id r nT,hB,rfl⟩⟩⟩
 refine(h w.heap.size D1 ι w vs S0 U A').mono ?_
 rintro e w' ⟨r0,g',n',D2,ι1,u,rfl,⟨i0,hr,hg⟩,T,S1,_,_,hR⟩
 subst hr
 have hb:∀b,b<w.heap.size->w'.heap[b]? =w.heap[b]? :=T.below.block
 have hz:=T.below.size
 obtain⟨B,hB,R,k1,_⟩:=S1.row i0 _ hg
 have kh:w.heap.size<=B.b:=k1 rfl
 obtain⟨o,cap,B',rfl,dz,q2,q3,q4,q5,hk⟩:=iQ hR
 rw[hB]at dz;injection dz with dz;subst dz
 replace R:=R.row hk
 have S':gr P hs D ι g w':=S.stay hb hz (fun _ h=>h) (fun b h=>Nat.lt_of_lt_of_le (S.dead b h) hz) (fun b h=>.inl h) (fun _ _ h=>h)
 have R':lv P w' D (kD ι id B) B ⟨true,sz,rows⟩:=⟨R.sz,R.xk,R.fits,R.len,R.flat,fun i j cs a hi hj=>by
  obtain⟨v,h1,h2⟩:=R.at_ i j cs a hi hj
  exact⟨v,h1,GM (l7 cs (List.mem_of_getElem? hi) a (List.mem_of_getElem? hj)) h2⟩⟩
 exact⟨_,B,rfl,Step.stay S hb hz T.below.os T.below.tape T.below.output (fun _ h=>h) (fun _ h=>.inl h) (e6 hf),S.add S' hf kh (R'.obj hk),.own id 0 _ _ _ B (dW _ _ _) hk q2 q3 q4 q5⟩
theorem jy {f:Nat} {args:Array Value} (hc:fH P f=true):(callFunc f args).run P w=.ok (.enter f args) w:=by
 unfold fH at hc
 split at hc
 ·rename_i fn hf
  simp only[Bool.and_eq_true,Bool.not_eq_true']at hc
  have hb:fn.body.isNone=false:=by cases hq:fn.body<;>simp_all
  simp only[callFunc,Sem.run_bind,run_program,Result.andThen_ok,hf,hc.2,Bool.false_eq_true,if_false,hb]
  rfl
 ·simp at hc
theorem BG {f:Nat} {args:List O} (hc:qN P o.op=some (.call f args)):∃c,o.op=.call c/\c.callee=.value (.func f)/\fH P f=true/\c.args.toList.mapM (cO P)=some args:=by
 unfold qN at hc
 split at hc
 case h_23=>
  rename_i c ho
  refine⟨c,ho,?_⟩
  unfold nz at hc
  split at hc
  all_goals (try(repeat' (split at hc))<;>(simp only[Option.bind_eq_bind,Option.bind_eq_some_iff,Option.pure_def,Option.some.injEq,Option.map_eq_some_iff,reduceCtorEq,and_false,exists_false]at hc))
  all_goals simp_all
 all_goals (try unfold vd at hc)<;>(try unfold sC at hc)<;>(repeat' (split at hc))<;>(simp only[Option.bind_eq_bind,Option.bind_eq_some_iff,Option.pure_def,Option.some.injEq,Option.map_eq_some_iff,reduceCtorEq,and_false,exists_false]at hc)
theorem sW {x:O} {args:List O} (hc:qN P o.op=some (.tx x args)):∃c t,o.op=.call c/\c.callee=.value (.tmp t)/\x=.t t/\c.args.toList.mapM (cO P)=some args:=by
 unfold qN at hc
 split at hc
 case h_23=>
  rename_i c ho
  refine⟨c,?_⟩
  unfold nz at hc
  split at hc
  all_goals (try(repeat' (split at hc))<;>(simp only[Option.bind_eq_bind,Option.bind_eq_some_iff,Option.pure_def,Option.some.injEq,Option.map_eq_some_iff,reduceCtorEq,and_false,exists_false]at hc))
  all_goals simp_all
 all_goals (try unfold vd at hc)<;>(try unfold sC at hc)<;>(repeat' (split at hc))<;>(simp only[Option.bind_eq_bind,Option.bind_eq_some_iff,Option.pure_def,Option.some.injEq,Option.map_eq_some_iff,reduceCtorEq,and_false,exists_false]at hc)
theorem Gl {n:Nat} {x y:O} (hc:qN P o.op=some (.store n x y)):∃t x' y',o.op=.store t x' y'/\dX P t=some n/\cO P x'=some x/\cO P y'=some y:=by
 unfold qN at hc
 split at hc
 case h_7=>
  rename_i t x' y' ho
  refine⟨t,x',y',ho,?_⟩
  simp only[Option.bind_eq_bind,Option.bind_eq_some_iff,Option.pure_def,Option.some.injEq]at hc
  obtain⟨n',h1,x2,h2,y2,h3,he⟩:=hc
  injection he with e1 e2 e3
  subst e1;subst e2;subst e3
  exact⟨h1,h2,h3⟩
 all_goals (try unfold vd at hc)<;>(try unfold sC at hc)<;>(try unfold nz at hc)<;>(repeat' (split at hc))<;>(simp only[Option.bind_eq_bind,Option.bind_eq_some_iff,Option.pure_def,Option.some.injEq,Option.map_eq_some_iff,reduceCtorEq,and_false,exists_false]at hc)
theorem Dx {n:Nat} {x y:O} (hc:qN P o.op=some (.append n x y)):∃(t e:TypeId) (m:Nat) (z:List K) (i:TypeInfo) (x' y':Operand),n=m+1/\o.op=.call {callee:=.builtin .append,args:= #[x',y'],argTypes:= #[t,t]}/\
  P.underlying t=some (.slice e)/\dX P e=some (m+1)/\jI P e=some z/\P.info? e=some i/\i.bytes<=32768/\cO P x'=some x/\cO P y'=some y:=by
 unfold qN at hc
 split at hc
 case h_23=>
  rename_i c ho
  unfold nz at hc
  split at hc
  case h_2=>
   rename_i kq
   split at hc
   ·rename_i x' y' t u h1 h2
    split at hc
    ·rename_i e ht
     split at hc
     ·rename_i m z i e1 e2 e3
      split at hc
      ·rename_i hb
       simp only[Option.bind_eq_bind,Option.bind_eq_some_iff,Option.pure_def,Option.some.injEq]at hc
       obtain⟨x2,h3,y2,h4,he⟩:=hc
       injection he with k1 k2 k3
       subst k1;subst k2;subst k3
       obtain⟨Ko,rfl⟩:=hb
       refine⟨t,e,m,z,i,x',y',rfl,?_,ht,e1,e2,e3,Ko,h3,h4⟩
       rw[ho]
       obtain⟨ca,cb,cc⟩:=c
       simp only at h1 h2 kq
       subst kq
       congr
       ·exact Array.ext' h1
       ·exact Array.ext' h2
      ·simp at hc
     ·simp at hc
    ·simp at hc
   ·simp at hc
  all_goals (repeat' (split at hc))<;>(simp only[Option.bind_eq_bind,Option.bind_eq_some_iff,Option.pure_def,Option.some.injEq,Option.map_eq_some_iff,reduceCtorEq,and_false,exists_false]at hc)
 all_goals (try unfold vd at hc)<;>(try unfold sC at hc)<;>(repeat' (split at hc))<;>(simp only[Option.bind_eq_bind,Option.bind_eq_some_iff,Option.pure_def,Option.some.injEq,Option.map_eq_some_iff,reduceCtorEq,and_false,exists_false]at hc)
theorem IW {n:Nat} {x y:O} (hc:qN P o.op=some (.copy n x y)):∃(t t2 e:TypeId) (m:Nat) (x' y':Operand),n=m+1/\o.op=.call {callee:=.builtin .copy,args:= #[x',y'],argTypes:= #[t,t2]}/\
  P.underlying t=some (.slice e)/\dX P e=some (m+1)/\cO P x'=some x/\cO P y'=some y:=by
 unfold qN at hc
 split at hc
 case h_23=>
  rename_i c ho
  unfold nz at hc
  split at hc
  case h_7=>
   rename_i kq
   split at hc
   ·rename_i x' y' t t2 h1 h2
    split at hc
    ·rename_i e ht
     split at hc
     ·rename_i m e1
      simp only[Option.bind_eq_bind,Option.bind_eq_some_iff,Option.pure_def,Option.some.injEq,gw.copy.injEq]at hc
      obtain⟨x2,h3,y2,h4,k0,k1,k2⟩:=hc
      subst k1;subst k2
      refine⟨t,t2,e,m,x',y',k0.symm,?_,ht,e1,h3,h4⟩
      rw[ho]
      obtain⟨ca,cb,cc⟩:=c
      simp only at h1 h2 kq
      subst kq
      congr
      ·exact Array.ext' h1
      ·exact Array.ext' h2
     ·simp at hc
    ·simp at hc
   ·simp at hc
  all_goals (repeat' (split at hc))<;>(simp only[Option.bind_eq_bind,Option.bind_eq_some_iff,Option.pure_def,Option.some.injEq,Option.map_eq_some_iff,reduceCtorEq,and_false,exists_false]at hc)
 all_goals (try unfold vd at hc)<;>(try unfold sC at hc)<;>(repeat' (split at hc))<;>(simp only[Option.bind_eq_bind,Option.bind_eq_some_iff,Option.pure_def,Option.some.injEq,Option.map_eq_some_iff,reduceCtorEq,and_false,exists_false]at hc)
theorem Gk {z:List K} {x:O} (hc:qN P o.op=some (.clear z x)):∃(t e:TypeId) (m:Nat) (x':Operand),o.op=.call {callee:=.builtin .clear,args:= #[x'],argTypes:= #[t]}/\
  P.underlying t=some (.slice e)/\dX P e=some (m+1)/\jI P e=some z/\cO P x'=some x:=by
 unfold qN at hc
 split at hc
 case h_23=>
  rename_i c ho
  unfold nz at hc
  split at hc
  case h_3=>
   rename_i kq
   split at hc
   ·rename_i x' t h1 h2
    split at hc
    ·rename_i e ht
     split at hc
     ·rename_i m z' e1 e2
      simp only[Option.map_eq_some_iff]at hc
      obtain⟨x2,h3,he⟩:=hc
      injection he with k1 k2
      subst k1;subst k2
      refine⟨t,e,m,x',?_,ht,e1,e2,h3⟩
      rw[ho]
      obtain⟨ca,cb,cc⟩:=c
      simp only at h1 h2 kq
      subst kq
      congr
      ·exact Array.ext' h1
      ·exact Array.ext' h2
     ·simp at hc
    ·simp at hc
   ·simp at hc
  all_goals (repeat' (split at hc))<;>(simp only[Option.bind_eq_bind,Option.bind_eq_some_iff,Option.pure_def,Option.some.injEq,Option.map_eq_some_iff,reduceCtorEq,and_false,exists_false]at hc)
 all_goals (try unfold vd at hc)<;>(try unfold sC at hc)<;>(repeat' (split at hc))<;>(simp only[Option.bind_eq_bind,Option.bind_eq_some_iff,Option.pure_def,Option.some.injEq,Option.map_eq_some_iff,reduceCtorEq,and_false,exists_false]at hc)
theorem Ov {q:MW} {xs:List O} (hc:qN P o.op=some (.mw q xs)):
  (∃t x k y m z x' k' y',(o.op=.mapUpdate t x k y∨o.op=.insert t x k y)/\sD P t=some (m,z)/\cO P x=some x'/\cO P k=some k'/\cO P y=some y'/\q=.set m/\xs=[x',k',y'])∨
  (∃t t' x k m z x' k',o.op=.call {callee:=.builtin .delete,args:= #[x,k],argTypes:= #[t,t']}/\sD P t=some (m,z)/\cO P x=some x'/\cO P k=some k'/\q=.del m/\xs=[x',k']):=by
 unfold qN at hc
 split at hc
 case h_23=>
  rename_i c ho
  right
  unfold nz at hc
  split at hc
  case h_6=>
   rename_i kq
   split at hc
   ·rename_i x k t t' h1 h2
    split at hc
    ·rename_i m z x' k' e1 e2 e3
     injection hc with hc
     injection hc with q1 q2
     refine⟨t,t',x,k,m,z,x',k',?_,e1,e2,e3,q1.symm,q2.symm⟩
     rw[ho]
     obtain⟨ca,cb,cc⟩:=c
     simp only at h1 h2 kq
     subst kq
     congr
     ·exact Array.ext' h1
     ·exact Array.ext' h2
    ·cases hc
   ·cases hc
  all_goals (repeat' (split at hc))<;>(simp only[Option.bind_eq_bind,Option.bind_eq_some_iff,Option.pure_def,Option.some.injEq,Option.map_eq_some_iff,reduceCtorEq,and_false,exists_false]at hc)
 case h_29=>
  rename_i t x k y ho
  left
  split at hc
  ·rename_i m z x' k' y' e1 e2 e3 e4
   injection hc with hc
   injection hc with q1 q2
   exact⟨t,x,k,y,m,z,x',k',y',.inl ho,e1,e2,e3,e4,q1.symm,q2.symm⟩
  ·cases hc
 case h_30=>
  rename_i t x k y ho
  left
  split at hc
  ·rename_i m z x' k' y' e1 e2 e3 e4
   injection hc with hc
   injection hc with q1 q2
   exact⟨t,x,k,y,m,z,x',k',y',.inr ho,e1,e2,e3,e4,q1.symm,q2.symm⟩
  ·cases hc
 all_goals (try unfold vd at hc)<;>(try unfold sC at hc)<;>(repeat' (split at hc))<;>(simp only[Option.bind_eq_bind,Option.bind_eq_some_iff,Option.pure_def,Option.some.injEq,Option.map_eq_some_iff,reduceCtorEq,and_false,exists_false]at hc)
def jm (g:Rows) (id:Id):Option Row->Rows
 |some r=>bz g id r
 |none=>g
def vg (X:fF) (hid:List Nat) (site n:Nat) (f:Nat) (args:List AV) (g:Rows) (v:AV) (g':Rows):Prop:=
 (gD X f args ⟨gm hid n g,n+1⟩ (fun r=>r=v)/\g'=g)∨
 (hid.contains site=true/\∃sz rows,CM X f args ⟨gm hid n g,n+1⟩ sz rows/\v=.own ⟨site,n⟩ 0 rows.length/\g'=bz g ⟨site,n⟩ ⟨true,sz,rows⟩)
def VS (X:fF) (n:Nat) (vo:bd) (env:Env) (g:Rows) (v:AV) (g':Rows):Prop:=
 match vo.op with
 | .call f args=>vg X vo.hid vo.site n f (args.map (cN env)) g v g'
 | .tx x args=>∃f l,ve (cN env x) (args.map (cN env))=some (f,l)/\vg X vo.hid vo.site n f l g v g'
 | .store .. | .append .. | .copy .. | .clear .. | .mw .. =>gp vo.op (cN env) g ⟨vo.site,n⟩=some (v,g')
 |_=>∃mr,eP vo.op (cN env) (gm vo.hid n g) ⟨vo.site,n⟩=some (v,mr)/\g'=jm g ⟨vo.site,n⟩ mr
def Ml (P:Program) (hs:Nat) (D:Nat->Prop) (ι:Names) (w:World) (U:Nat->Prop) (site n:Nat) (a:Act) (dst:Option Tmp) (v:AV) (g':Rows) (a':Act) (w':World):Prop:=
 ∃u D' ι',a'=a.put dst u/\Step hs D ι w D' ι' w'/\gr P hs D' ι' g' w'/\cH P w' D' ι' v u/\Used ι' n (fun s=>U s∨s=site)
theorem fresh {n:Nat} {U:Nat->Prop} {s:Nat} (h:Used ι n U) (hU:¬U s):ι ⟨s,n⟩=none:=by
 cases hq:ι ⟨s,n⟩with
 |none=>rfl
 |some B=>
  rcases h ⟨s,n⟩ (by rw[hq];simp)with h|⟨_,h⟩
  ·exact absurd h (Nat.lt_irrefl _)
  ·exact absurd h hU
theorem Used.more {n:Nat} {U U':Nat->Prop} (h:Used ι n U) (hU:∀s,U s->U' s):Used ι n U':=fun id hid=>by
 rcases h id hid with h|⟨h1,h2⟩
 ·exact .inl h
 ·exact .inr ⟨h1,hU _ h2⟩
theorem Used.next {n:Nat} {U:Nat->Prop} (h:Used ι n U):Used ι (n+1) (fun _=>False):=fun id hid=>by
 rcases h id hid with h|⟨h1,_⟩
 ·exact .inl (Nat.lt_succ_of_lt h)
 ·exact .inl (by omega)
theorem Used.upd {n:Nat} {U:Nat->Prop} {s:Nat} {B:si} (h:Used ι n U):Used (kD ι ⟨s,n⟩ B) n (fun x=>U x∨x=s):=fun id hid=>by
 by_cases he:id=⟨s,n⟩
 ·subst he;exact .inr ⟨rfl,.inr rfl⟩
 ·rw[gi he]at hid
  exact(h.more (U':=fun x=>U x∨x=s) fun _ h=>Or.inl h) id hid
theorem ot {xs:Array Operand} {ys:List O} (E:cm P w D ι env a) (h:xs.toList.mapM (cO P)=some ys):fh P w D ι (ys.map (cN env)) (xs.map a.eval):=by
 obtain⟨h1,h2⟩:=DU E h
 refine⟨by simpa using h1,fun j b hj=>?_⟩
 simp only[List.getElem?_map,Option.map_eq_some_iff]at hj
 obtain⟨y,hy,rfl⟩:=hj
 have dQ:j<xs.size:=by have:=(List.getElem?_eq_some_iff.1 hy).1;simp at h1;omega
 refine⟨a.eval xs[j],by simp[dQ],?_⟩
 have:=h2 j y hy
 simpa[List.getD_eq_getElem?_getD,dQ]using this
theorem oW {xs ys:List AV} {vs us:Array Value} (h:fh P w D ι xs vs) (k:fh P w D ι ys us):fh P w D ι (xs++ys) (vs++us):=
 ⟨by simp[h.1,k.1],fun j b hj=>by
  by_cases dQ:j<xs.length
  ·rw[List.getElem?_append_left dQ]at hj
   obtain⟨u,hu,xC⟩:=h.2 j b hj
   exact⟨u,by rw[Array.getElem?_append_left (by rw[h.1];exact dQ)];exact hu,xC⟩
  ·rw[List.getElem?_append_right (by omega)]at hj
   obtain⟨u,hu,xC⟩:=k.2 _ b hj
   exact⟨u,by rw[Array.getElem?_append_right (by rw[h.1];omega),h.1];exact hu,xC⟩⟩
theorem wI:fh P w D ι [] #[]:=⟨rfl,fun j b hj=>by simp at hj⟩
theorem vh {x:AV} {l l':List AV} {f:Nat} {vs:Array Value} {v:Value} (h:ve x l=some (f,l')) (hr:cH P w D ι x v) (hA:fh P w D ι l vs):
  ∃first cK,v=.func (.func f) first cK/\fH P f=true/\fh P w D ι l' (first++vs++cK):=by
 unfold ve at h
 split at h
 ·simp only[Option.some.injEq,Prod.mk.injEq]at h
  obtain⟨rfl,rfl⟩:=h
  obtain⟨us,q,he,EX,n1,q1,q2⟩:=z6 hr
  refine⟨#[],us,he,EX,?_⟩
  rw[Array.empty_append]
  exact oW hA ⟨n1,fun j b hj=>⟨q j,q1 j (List.getElem?_eq_some_iff.1 hj).1,q2 j b hj⟩⟩
 ·simp only[Option.some.injEq,Prod.mk.injEq]at h
  obtain⟨rfl,rfl⟩:=h
  obtain⟨us,q,he,EX,n1,q1,q2⟩:=L0 hr
  refine⟨us, #[],he,EX,?_⟩
  rw[Array.append_empty]
  exact oW ⟨n1,fun j b hj=>⟨q j,q1 j (List.getElem?_eq_some_iff.1 hj).1,q2 j b hj⟩⟩ hA
 ·cases h
theorem AM {n:Nat} {vo:bd} {g':Rows} {U:Nat->Prop} {Q:Exit->Act->World->Prop} {K:Act->World->Prop} (hc:qN P o.op=some vo.op) (hv:VS (Sound P) n vo env g v g') (S:gr P hs D ι g w) (Us:Used ι n U) (hU:¬U vo.site) (E:cm P w D ι env a)
  (hK:∀a' w',Ml P hs D ι w U vo.site n a o.dst v g' a' w'->K a' w'):o.wp P a w K Q:=by
 have hf:=fresh Us hU
 have AW:∀(f:Nat) (args:List AV) (vs:Array Value),vg (Sound P) vo.hid vo.site n f args g v g'->fh P w D ι args vs->(execOp a.eval o).run P w=.ok (.enter f vs) w->o.wp P a w K Q:=by
  intro f args vs hP hA fY
  unfold Oper.wp
  rw[fY]
  rcases hP with⟨hP,rfl⟩|⟨_,sz,rows,hM,rfl,rfl⟩
  ·refine(FG hP Ap S Us.next hA).mono ?_
   rintro e w' ⟨r,D',u,rfl,rfl,T,S',hR⟩
   exact hK _ _ ⟨u,D',ι,rfl,T,S',hR,Us.more fun _ h=>.inl h⟩
  ·refine(Hu hM Ap S Us.next hA hf).mono ?_
   rintro e w' ⟨u,B,rfl,T,S',hR⟩
   exact hK _ _ ⟨u,D,_,rfl,T,S',hR,Us.upd⟩
 have quiet:∀(mr:Option Row),eP vo.op (cN env) (gm vo.hid n g) ⟨vo.site,n⟩=some (v,mr)->g'=jm g ⟨vo.site,n⟩ mr->o.wp P a w K Q:=by
  intro mr hq hg
  have hqs:=yR hc hq (S.sub Ap) E
  unfold Oper.wp
  cases mr with
  |none=>
   obtain⟨u,fY,hR⟩:=hqs
   rw[fY]
   subst hg
   exact hK _ _ ⟨u,D,ι,rfl,Step.refl _ _ _ _,S,hR,Us.more fun _ h=>.inl h⟩
  |some r=>
   rcases hqs with⟨u,cells,T,fY,h1,h2,h3,h4,h5,h6⟩|⟨m,fY,Oo,Dp⟩|⟨c,fY,Oo,Dp⟩
   case inr.inr=>
    rw[fY]
    subst hg Oo Dp
    have fj:w.heap.size<(w.alloc (.chan c #[] false 0 0 false)).heap.size:=by simp
    have S':=S.stay (w':=w.alloc (.chan c #[] false 0 0 false)) (D':=D) (ι':=ι) (fun k hk=>Below.heap_alloc _ _ _ hk) (by simp) (fun _ h=>h) (fun b hd=>Nat.lt_trans (S.dead b hd) fj) (fun _ h=>.inl h) (fun _ _ h=>h)
    have S1:=S.add S' (id:=⟨vo.site,n⟩) (B:=⟨w.heap.size,qm+c,0,some (.chan c)⟩) (r:=⟨true,qm+c,[]⟩) hf (Nat.le_refl _) ⟨rfl,fun cs h=>by simp at h,fun h=>by simp at h,fun m' h=>(by simp at h),fun c' h=>by
     simp only[Option.some.injEq,BK.chan.injEq]at h;subst h
     exact⟨rfl, #[],0,0,(show(w.heap.push (Obj.chan c #[] false 0 0 false))[w.heap.size]? =some (Obj.chan c #[] false 0 0 false) by simp),rfl,fun i cs h=>by simp at h⟩⟩
    exact hK _ _ ⟨_,D,_,rfl,Step.stay S (fun k hk=>Below.heap_alloc _ _ _ hk) (by simp) rfl rfl rfl (fun _ h=>h) (fun _ h=>.inl h) (e6 hf),S1,.rh _ _ _ (dW _ _ _) rfl,Us.upd⟩
   case inr.inl=>
    rw[fY]
    subst hg Oo Dp
    have fj:w.heap.size<(w.alloc (.map #[] 0)).heap.size:=by simp
    have S':=S.stay (w':=w.alloc (.map #[] 0)) (D':=D) (ι':=ι) (fun k hk=>Below.heap_alloc _ _ _ hk) (by simp) (fun _ h=>h) (fun b hd=>Nat.lt_trans (S.dead b hd) fj) (fun _ h=>.inl h) (fun _ _ h=>h)
    have S1:=S.add S' (id:=⟨vo.site,n⟩) (B:=⟨w.heap.size,m.pq,0,some (.map m)⟩) (r:=⟨true,m.pq,[]⟩) hf (Nat.le_refl _) ⟨rfl,fun cs h=>by simp at h,fun h=>by simp at h,fun m' h=>by
     simp only[Option.some.injEq,BK.map.injEq]at h;subst h
     exact⟨rfl, #[],0,(show(w.heap.push (Obj.map #[] 0))[w.heap.size]? =some (Obj.map #[] 0) by simp),rfl,⟨fun cs h=>by simp at h,fun x h=>by simp at h,by simp⟩,fun i cs h=>by simp at h⟩,fun c h=>by simp at h⟩
    exact hK _ _ ⟨_,D,_,rfl,Step.stay S (fun k hk=>Below.heap_alloc _ _ _ hk) (by simp) rfl rfl rfl (fun _ h=>h) (fun _ h=>.inl h) (e6 hf),S1,.map _ _ _ (dW _ _ _) rfl,Us.upd⟩
   rw[fY]
   subst hg
   have S1:=S.alloc (id:=⟨vo.site,n⟩) (w':=w.alloc (.cells cells T)) rfl hf h1 h2 h3 h4 h5
   refine hK _ _ ⟨u,D,_,rfl,Step.stay S (fun k hk=>Below.heap_alloc _ _ _ hk) (by simp) rfl rfl rfl (fun _ h=>h) (fun _ h=>.inl h) (e6 hf),S1,(h6 (kD ι _ _) (dW _ _ _)).frame (fun b hd=>Below.heap_alloc _ _ _ (S.dead b hd)) (fun _ h=>h) (fun _ _ h=>h),Us.upd⟩
 have Pw:gp vo.op (cN env) g ⟨vo.site,n⟩=some (v,g')->(∀KB,CJ P hs a o KB D ι ⟨vo.site,n⟩ v g'->KB=w->o.wp P a w K Q):=by
  intro _ KB hE he
  subst he
  obtain⟨u,w',ι',fY,T,S',hR,hι⟩:=hE
  have Il:Ml P hs D ι KB U vo.site n a o.dst v g' (a.put o.dst u) w':=⟨u,D,ι',rfl,T,S',hR,fun id hid=>by
   by_cases he:id=⟨vo.site,n⟩
   ·subst he;exact .inr ⟨rfl,.inr rfl⟩
   ·rw[hι id he]at hid
    exact(Us.more (U':=fun x=>U x∨x=vo.site) fun _ h=>Or.inl h) id hid⟩
  unfold Oper.wp
  rcases fY with fY|⟨fY,rfl⟩
  ·rw[fY];exact hK _ _ Il
  ·rw[fY];exact hK _ _ Il
 unfold VS at hv
 split at hv
 ·rename_i f args ec
  rw[ec]at hc
  obtain⟨c,ho,kq,EX,nD⟩:=BG hc
  refine AW f _ (c.args.map a.eval) hv (ot E nD) ?_
  simp only[execOp,ho,resolve,kq,Deferred.ofValue,Act.eval,Sem.run_bind,Sem.run_pure,Result.andThen_ok,invoke,Array.empty_append,Array.append_empty]
  exact jy EX
 ·rename_i x args ec
  obtain⟨f,l,hx,hP⟩:=hv
  rw[ec]at hc
  obtain⟨c,t,ho,kq,rfl,nD⟩:=sW hc
  obtain⟨first,cK,he,EX,hL⟩:=vh (v:=a.eval (.tmp t)) hx (E t) (ot E nD)
  refine AW f _ (first++c.args.map a.eval++cK) hP hL ?_
  simp only[execOp,ho,resolve,kq,he,Deferred.ofValue,Sem.run_bind,Sem.run_pure,Result.andThen_ok,invoke]
  exact jy EX
 ·rename_i m x y ec
  have kM:=hc
  rw[ec]at kM
  obtain⟨t,x',y',ho,h1,h2,h3⟩:=Gl kM
  have nR:=hv
  rw[ec]at nR
  simp only[gp,Option.map_eq_some_iff,Prod.mk.injEq]at nR
  obtain⟨g1,AE,rfl,rfl⟩:=nR
  exact Pw hv w (KU S E ho h1 h2 h3 AE) rfl
 ·rename_i m x y ec
  have kM:=hc
  rw[ec]at kM
  obtain⟨t,e,m',z,i,x',y',rfl,ho,h1,h2,h3,h4,h5,h6,h7⟩:=Dx kM
  have nR:=hv
  rw[ec]at nR
  simp only[gp,Option.bind_eq_some_iff]at nR
  obtain⟨ys,Fb,nR⟩:=nR
  exact Pw hv w (HZ S E hf ho h1 h2 h3 h4 h5 h6 h7 Fb nR) rfl
 ·rename_i m x y ec
  have kM:=hc
  rw[ec]at kM
  obtain⟨t,t2,e,m',x',y',rfl,ho,h1,h2,h3,h4⟩:=IW kM
  have nR:=hv
  rw[ec]at nR
  simp only[gp,Option.bind_eq_some_iff]at nR
  obtain⟨ys,Fb,nR⟩:=nR
  exact Pw hv w (Nu S E ho h1 h2 h3 h4 Fb nR) rfl
 ·rename_i z x ec
  have kM:=hc
  rw[ec]at kM
  obtain⟨t,e,m',x',ho,h1,h2,h3,h4⟩:=Gk kM
  have nR:=hv
  rw[ec]at nR
  simp only[gp,Option.map_eq_some_iff,Prod.mk.injEq]at nR
  obtain⟨g1,AE,rfl,rfl⟩:=nR
  exact Pw hv w (KT S E ho h1 h2 h3 h4 AE) rfl
 ·rename_i q xs ec
  have kM:=hc
  rw[ec]at kM
  have nR:=hv
  rw[ec]at nR
  simp only[gp,Option.map_eq_some_iff,Prod.mk.injEq]at nR
  obtain⟨g1,AE,rfl,rfl⟩:=nR
  rcases Ov kM with⟨t,x,k,y,m,z,x',k',y',ho,h1,h2,h3,h4,rfl,rfl⟩|⟨t,t',x,k,m,z,x',k',ho,h1,h2,h3,rfl,rfl⟩
  ·exact Pw hv w (Nw S E ho h1 h2 h3 h4 AE) rfl
  ·exact Pw hv w (Nv S E ho h1 h2 h3 AE) rfl
 ·obtain⟨mr,hq,hg⟩:=hv
  exact quiet mr hq hg
end
end Go.Proofs.YtgoelphibofcmaaGreat.V

namespace Go.Proofs.YtgoelphibofcmaaGreat.V
open Go.RowKit
variable {P:Program} {w w':World} {D D' D2:Nat->Prop} {ι ι' ι2:Names}
section
variable {g:Rows} {hs:Nat} {env:Env} {a:Act} {o:Oper} {id:Id} {v:AV}
theorem pe {ops:Array Oper} {nt site0 j:Nat} {draw mk:Bool} {bs:Array Nat} {hidden:List (Nat×Bool)} {vo:bd} (h:kH P ops nt site0 draw mk bs hidden j o=some vo):
  qN P o.op=some vo.op/\vo.dst=o.dst/\vo.site=site0+j/\(∀d,o.dst=some d->d<nt)/\(match o.guard with
   |none=>vo.guard=none
   |some (i,b)=>∃t,(ops[i]?).bind (·.dst)=some t/\vo.guard=some (t,b)):=by
 unfold kH at h
 simp only[Option.bind_eq_bind,Option.bind_eq_some_iff]at h
 obtain⟨v,hv,gd,hg,h⟩:=h
 split at h
 ·rename_i hd
  simp only[Option.pure_def,Option.some.injEq]at h
  subst h
  refine⟨hv,rfl,rfl,fun d Sj=>?_,?_⟩
  ·rw[Sj]at hd;simpa using hd
  ·unfold CZ at hg
   cases rC:o.guard with
   |none=>rw[rC]at hg;simp at hg;exact hg.symm
   |some p=>
    obtain⟨i,b⟩:=p
    rw[rC]at hg
    dsimp only at hg ⊢
    split at hg
    ·rename_i t ht
     simp at hg;exact⟨t,ht,hg.symm⟩
    ·simp at hg
 ·simp at h
theorem tk {ops:Array Oper} {vo:bd} (E:cm P w D ι env a) (hg:match o.guard with
   |none=>vo.guard=none
   |some (i,b)=>∃t,(ops[i]?).bind (·.dst)=some t/\vo.guard=some (t,b)):aM vo.guard env=Region.wanted o (yielded ops a.tmps):=by
 unfold Region.wanted
 cases rC:o.guard with
 |none=>rw[rC]at hg;simp only at hg;rw[hg];rfl
 |some p=>
  obtain⟨i,b⟩:=p
  rw[rC]at hg
  obtain⟨t,ht,hv⟩:=hg
  rw[hv]
  simp only[aM,yielded,ht,Option.bind_some]
  have hr:=E t
  by_cases dQ:t<a.tmps.size
  ·have fc:a.tmps[t]? =some a.tmps[t]:=Array.getElem?_eq_getElem dQ
   have hd:a.tmps.getD t undef=a.tmps[t]:=by simp[dQ]
   rw[hd]at hr
   rw[fc]
   generalize a.tmps[t]=u at hr
   cases he:env t with
   |bool c=>rw[he]at hr;rw[eZ hr];simp
   |_=>
    rw[he]at hr
    have:∀c,u≠.bool c:=by
     intro c hu
     subst hu
     cases hr with
     |eL _ _ h=>cases h
    cases u<;>simp_all
  ·have fc:a.tmps[t]? =none:=Array.getElem?_eq_none (Nat.le_of_not_lt dQ)
   have hd:a.tmps.getD t undef=undef:=by simp[fc]
   rw[hd]at hr
   rw[fc]
   cases he:env t with
   |bool c=>rw[he]at hr;have:=eZ hr;simp[undef]at this
   |_=>simp
theorem iv {dst:Option Nat} {nt:Nat} {u:Value} (E:cm P w D ι env a) (hr:cH P w D ι v u) (hd:∀d,dst=some d->d<nt) (hs:a.tmps.size=nt):cm P w D ι (upd env dst v) (a.put dst u):=by
 intro t
 cases dst with
 |none=>exact E t
 |some d=>
  have dQ:d<a.tmps.size:=by rw[hs];exact hd d rfl
  simp only[upd,Act.put]
  by_cases ht:t=d
  ·subst ht
   simp[dQ];exact hr
  ·rw[if_neg ht]
   have:(a.tmps.setIfInBounds d u).getD t undef=a.tmps.getD t undef:=by
    simp only[Array.getD_eq_getD_getElem?]
    rw[Array.getElem?_setIfInBounds_ne (fun e=>ht e.symm)]
   rw[this];exact E t
theorem oz {hs:Nat} (E:cm P w D ι env a) (T:Step hs D ι w D' ι' w'):cm P w' D' ι' env a:=fun t=>T.rep (E t)
theorem eV (a:Act) (dst:Option Tmp) (u:Value):(a.put dst u).tmps.size=a.tmps.size:=by cases dst<;>simp[Act.put]
theorem put_defers (a:Act) (dst:Option Tmp) (u:Value):(a.put dst u).defers=a.defers:=by cases dst<;>rfl
theorem y4 {draw:Bool} {vo:bd} {σ:ar} {next:AV->ar->Prop} {U:Nat->Prop} {Q:Exit->Act->World->Prop} {K:Act->World->Prop} (hc:qN P o.op=some vo.op) (hv:fM (Sound P) draw vo env σ next) (S:gr P hs D ι σ.get w) (Us:Used ι σ.next U) (hU:¬U vo.site) (E:cm P w D ι env a)
  (hK:∀v σ' u D' ι' w',next v σ'->Step hs D ι w D' ι' w'->gr P hs D' ι' σ'.get w'->cH P w' D' ι' v u->Used ι' σ'.next (fun s=>U s∨s=vo.site)->σ.next<=σ'.next->K (a.put o.dst u) w'):o.wp P a w K Q:=by
 have close:∀v g',VS (Sound P) σ.next vo env σ.get v g'->next v ⟨g',σ.next⟩->o.wp P a w K Q:=fun v g' h1 h2=>
  AM hc h1 S Us hU E fun a' w' ⟨u,D',ι',ha,T,S',hR,U'⟩=>by subst ha;exact hK v ⟨g',σ.next⟩ u D' ι' w' h2 T S' hR U' (Nat.le_refl _)
 have Jk:∀(f:Nat) (args:List AV) (vs:Array Value),Sound P f args ⟨σ.get,σ.next+1⟩ next->fh P w D ι args vs->(execOp a.eval o).run P w=.ok (.enter f vs) w->o.wp P a w K Q:=by
  intro f args vs h hA fY
  unfold Oper.wp
  rw[fY]
  refine(h hs D ι w vs S Us.next hA).mono ?_
  rintro e w' ⟨r,g',n',D',ι',u,rfl,hn,T,S',U',hle,hR⟩
  exact hK r ⟨g',n'⟩ u D' ι' w' hn T S' hR (U'.more fun _ h=>h.elim) (Nat.le_trans (Nat.le_succ _) hle)
 unfold fM at hv
 split at hv
 ·rename_i f args ec
  rcases hv with⟨r,hP,hn⟩|⟨_,hX⟩|⟨E8,sz,rows,hM,hn⟩
  ·exact close r σ.get (by unfold VS;rw[ec];exact .inl ⟨hP,rfl⟩) hn
  rotate_left
  ·exact close _ _ (by unfold VS;rw[ec];exact .inr ⟨E8,sz,rows,hM,rfl,rfl⟩) hn
  ·have kM:=hc
   rw[ec]at kM
   obtain⟨c,ho,kq,EX,nD⟩:=BG kM
   refine Jk f _ (c.args.map a.eval) hX (ot E nD) ?_
   simp only[execOp,ho,resolve,kq,Deferred.ofValue,Act.eval,Sem.run_bind,Sem.run_pure,Result.andThen_ok,invoke,Array.empty_append,Array.append_empty]
   exact jy EX
 ·rename_i x args ec
  split at hv
  ·rename_i f cK hx
   have uG:ve (cN env x) (args.map (cN env))=some (f,args.map (cN env)++cK):=by rw[hx];rfl
   rcases hv with⟨r,hP,hn⟩|⟨_,hX⟩|⟨E8,sz,rows,hM,hn⟩
   ·exact close r σ.get (by unfold VS;rw[ec];exact⟨f,_,uG,.inl ⟨hP,rfl⟩⟩) hn
   rotate_left
   ·exact close _ _ (by unfold VS;rw[ec];exact⟨f,_,uG,.inr ⟨E8,sz,rows,hM,rfl,rfl⟩⟩) hn
   ·have kM:=hc
    rw[ec]at kM
    obtain⟨c,t,ho,kq,rfl,nD⟩:=sW kM
    obtain⟨first,us,he,EX,hL⟩:=vh (v:=a.eval (.tmp t)) uG (E t) (ot E nD)
    refine Jk f _ (first++c.args.map a.eval++us) hX hL ?_
    simp only[execOp,ho,resolve,kq,he,Deferred.ofValue,Sem.run_bind,Sem.run_pure,Result.andThen_ok,invoke]
    exact jy EX
  ·rename_i f cK hx
   have uG:ve (cN env x) (args.map (cN env))=some (f,cK++args.map (cN env)):=by rw[hx];rfl
   rcases hv with⟨r,hP,hn⟩|⟨_,hX⟩|⟨E8,sz,rows,hM,hn⟩
   ·exact close r σ.get (by unfold VS;rw[ec];exact⟨f,_,uG,.inl ⟨hP,rfl⟩⟩) hn
   rotate_left
   ·exact close _ _ (by unfold VS;rw[ec];exact⟨f,_,uG,.inr ⟨E8,sz,rows,hM,rfl,rfl⟩⟩) hn
   ·have kM:=hc
    rw[ec]at kM
    obtain⟨c,t,ho,kq,rfl,nD⟩:=sW kM
    obtain⟨first,us,he,EX,hL⟩:=vh (v:=a.eval (.tmp t)) uG (E t) (ot E nD)
    refine Jk f _ (first++c.args.map a.eval++us) hX hL ?_
    simp only[execOp,ho,resolve,kq,he,Deferred.ofValue,Sem.run_bind,Sem.run_pure,Result.andThen_ok,invoke]
    exact jy EX
  ·exact hv.elim
 ·rename_i m x y ec
  split at hv
  ·rename_i v' g' he
   exact close v' g' (by unfold VS;rw[ec];rw[ec]at he;exact he) hv
  ·exact hv.elim
 ·rename_i m x y ec
  split at hv
  ·rename_i v' g' he
   exact close v' g' (by unfold VS;rw[ec];rw[ec]at he;exact he) hv
  ·exact hv.elim
 ·rename_i m x y ec
  split at hv
  ·rename_i v' g' he
   exact close v' g' (by unfold VS;rw[ec];rw[ec]at he;exact he) hv
  ·exact hv.elim
 ·rename_i m x ec
  split at hv
  ·rename_i v' g' he
   exact close v' g' (by unfold VS;rw[ec];rw[ec]at he;exact he) hv
  ·exact hv.elim
 ·rename_i m x ec
  split at hv
  ·rename_i v' g' he
   exact close v' g' (by unfold VS;rw[ec];rw[ec]at he;exact he) hv
  ·exact hv.elim
 ·rename_i n1 n2 n3 n4 n5 n6 n7
  split at hv
  ·rename_i v' r hq
   refine close v' (bz σ.get ⟨vo.site,σ.next⟩ r) ?_ hv
   unfold VS
   split
   ·rename_i h;exact(n1 _ _ h).elim
   ·rename_i h;exact(n2 _ _ h).elim
   ·rename_i h;exact(n3 _ _ _ h).elim
   ·rename_i h;exact(n4 _ _ _ h).elim
   ·rename_i h;exact(n5 _ _ _ h).elim
   ·rename_i h;exact(n6 _ _ h).elim
   ·rename_i h;exact(n7 _ _ h).elim
   ·exact⟨some r,hq,rfl⟩
  ·rename_i v' hq
   refine close v' σ.get ?_ hv
   unfold VS
   split
   ·rename_i h;exact(n1 _ _ h).elim
   ·rename_i h;exact(n2 _ _ h).elim
   ·rename_i h;exact(n3 _ _ _ h).elim
   ·rename_i h;exact(n4 _ _ _ h).elim
   ·rename_i h;exact(n5 _ _ _ h).elim
   ·rename_i h;exact(n6 _ _ h).elim
   ·rename_i h;exact(n7 _ _ h).elim
   ·exact⟨none,hq,rfl⟩
  ·exact hv.elim
structure St (P:Program) (hs nt:Nat) (D:Nat->Prop) (ι:Names) (env:Env) (σ:ar) (a:Act) (w:World):Prop where
 ta:gr P hs D ι σ.get w
 used:Used ι σ.next (fun _=>False)
 env:cm P w D ι env a
 size:a.tmps.size=nt
theorem wz (rest:List Oper) {ops:Array Oper} {nt site0:Nat} {draw mk:Bool} {bs:Array Nat} {hidden:List (Nat×Bool)} {K:Env->ar->Prop} {Q:Exit->Act->World->Prop}:∀(l:List Oper) (vl:List bd) (j:Nat) (env:Env) (σ:ar) (a:Act) (w:World) (D:Nat->Prop) (ι:Names) (U:Nat->Prop),
  allM (kH P ops nt site0 draw mk bs hidden) l j=some vl->wpOps (Sound P) draw vl K env σ->gr P hs D ι σ.get w->Used ι σ.next U->(∀s,U s->s<site0+j)->cm P w D ι env a->a.tmps.size=nt->
  (∀iG σ' a' w' D' ι',K iG σ'->Step hs D ι w D' ι' w'->St P hs nt D' ι' iG σ' a' w'->a'.defers=a.defers->σ.next<=σ'.next->wpList P ops Q rest a' w')->wpList P ops Q (l++rest) a w:=by
 intro l
 induction l with
 |nil=>
  intro vl j env σ a w D ι U h hv S Us _ E fj hQ
  simp[allM]at h;subst h
  exact hQ env ⟨σ.get,σ.next+1⟩ a w D ι hv (Step.refl _ _ _ _) ⟨S,Us.next,E,fj⟩ rfl (Nat.le_succ _)
 |cons o l ih=>
  intro vl j env σ a w D ι U h hv S Us hU E fj hQ
  simp only[allM,Option.bind_eq_bind,Option.bind_eq_some_iff,Option.pure_def,Option.some.injEq]at h
  obtain⟨vo,pP,tj,sq,rfl⟩:=h
  obtain⟨hc,hd,By,xt,hg⟩:=pe pP
  have hw:=tk (ops:=ops) (vo:=vo) E hg
  unfold wpOps at hv
  show wpList P ops Q (o::(l++rest)) a w
  unfold wpList
  rw[<-hw]
  split at hv
  ·rename_i Gg
   rw[if_pos Gg]
   refine .inl (y4 hc hv S Us (fun h=>by have:=hU _ h;omega) E fun v σ' u D' ι' w' hn T S' hR U' hle=>?_)
   refine ih tj (j+1) (upd env vo.dst v) σ' (a.put o.dst u) w' D' ι' _ sq hn S' U' (fun s Bu=>by
    rcases Bu with h|h
    ·have:=hU _ h;omega
    ·omega) (by rw[hd];exact iv (oz E T) hR xt fj) (by rw[eV];exact fj) fun iG σ2 a' w2 D2 ι2 hk T2 Na Dg mV=>hQ iG σ2 a' w2 D2 ι2 hk (T.trans T2) Na (Dg.trans (put_defers _ _ _)) (Nat.le_trans hle mV)
  ·rename_i Gg
   rw[if_neg Gg]
   refine ih tj (j+1) (upd env vo.dst .undef) σ (a.put o.dst undef) w D ι U sq hv S Us (fun s Bu=>by have:=hU _ Bu;omega) (by rw[hd];exact iv E cH.undef xt fj) (by rw[eV];exact fj) fun iG σ2 a' w2 D2 ι2 hk T2 Na Dg mV=>hQ iG σ2 a' w2 D2 ι2 hk T2 Na (Dg.trans (put_defers _ _ _)) mV
theorem yM {ops:Array Oper} {nt site0:Nat} {draw mk:Bool} {bs:Array Nat} {hidden:List (Nat×Bool)} {K:Env->ar->Prop} {Q:Exit->Act->World->Prop}:∀(l:List Oper) (vl:List bd) (j:Nat) (env:Env) (σ:ar) (a:Act) (w:World) (D:Nat->Prop) (ι:Names) (U:Nat->Prop),
  allM (kH P ops nt site0 draw mk bs hidden) l j=some vl->wpOps (Sound P) draw vl K env σ->gr P hs D ι σ.get w->Used ι σ.next U->(∀s,U s->s<site0+j)->cm P w D ι env a->a.tmps.size=nt->
  (∀iG σ' a' w' D' ι',K iG σ'->Step hs D ι w D' ι' w'->St P hs nt D' ι' iG σ' a' w'->a'.defers=a.defers->σ.next<=σ'.next->Q .normal a' w')->wpList P ops Q l a w:=fun l vl j env σ a w D ι U h hv S Us hU E fj hQ=>by
 have:=wz [] l vl j env σ a w D ι U h hv S Us hU E fj hQ
 rwa [List.append_nil]at this
end
end Go.Proofs.YtgoelphibofcmaaGreat.V

namespace Go.Proofs.YtgoelphibofcmaaGreat.V
open Go.RowKit
variable {P:Program} {w w':World} {D D' D2:Nat->Prop} {ι ι' ι2:Names}
section
variable {hs:Nat} {X:fF}
theorem bh {env iT:Env} {x:O} (h:∀t∈gS x,env t=iT t):cN env x=cN iT x:=by
 cases x with
 |t n=>exact h n (by simp[gS])
 |_=>rfl
theorem map_congr {env iT:Env} {l:List O} (h:∀t∈l.flatMap gS,env t=iT t):l.map (cN env)=l.map (cN iT):=
 List.map_congr_left fun x hx=>bh fun t ht=>h t (List.mem_flatMap.2 ⟨x,hx,ht⟩)
theorem po {env iT:Env} {x:Option O} (h:∀t∈wC x,env t=iT t):x.map (cN env)=x.map (cN iT):=by
 cases x with
 |none=>rfl
 |some y=>simp only[Option.map_some];rw[bh h]
theorem s8 {env iT:Env} {o:gw} {g:Rows} {id:Id} (h:∀t∈o.gH,env t=iT t):eP o (cN env) g id=eP o (cN iT) g id:=by
 cases o<;>simp only[gw.gH,List.mem_append]at h<;>simp only[eP]
 case dm x=>rw[bh h]
 case pick c a b=>rw[bh (x:=c) fun t ht=>h t (.inl (.inl ht)),bh (x:=a) fun t ht=>h t (.inl (.inr ht)),bh (x:=b) fun t ht=>h t (.inr ht)]
 case box x=>rw[bh h]
 case build z ps=>
  have:(ps.map fun(x:Nat×Nat×O)=>(x.1,x.2.1,cN env x.2.2))=ps.map fun(x:Nat×Nat×O)=>(x.1,x.2.1,cN iT x.2.2):=List.map_congr_left fun x hx=>by
   rw[bh (x:=x.2.2) fun t ht=>h t (List.mem_flatMap.2 ⟨x,hx,ht⟩)]
  rw[this]
 case lR a b l=>rw[map_congr h]
 case load a n x=>rw[bh h]
 case Az x=>rw[bh h]
 case bin a b x y=>rw[bh (x:=x) fun t ht=>h t (.inl ht),bh (x:=y) fun t ht=>h t (.inr ht)]
 case sh a x y=>rw[bh (x:=x) fun t ht=>h t (.inl ht),bh (x:=y) fun t ht=>h t (.inr ht)]
 case KQ a x y=>rw[bh (x:=x) fun t ht=>h t (.inl ht),bh (x:=y) fun t ht=>h t (.inr ht)]
 case Nx a b x y=>rw[bh (x:=x) fun t ht=>h t (.inl ht),bh (x:=y) fun t ht=>h t (.inr ht)]
 case RV a b x y=>rw[bh (x:=x) fun t ht=>h t (.inl ht),bh (x:=y) fun t ht=>h t (.inr ht)]
 case Qf a b x=>rw[bh h]
 case RW a x=>rw[bh h]
 case not x=>rw[bh h]
 case neg x=>rw[bh h]
 case conv k x=>rw[bh h]
 case EH x=>rw[bh h]
 case slice s x lo hi=>rw[bh (x:=x) fun t ht=>h t (.inl (.inl ht)),po (x:=lo) fun t ht=>h t (.inl (.inr ht)),po (x:=hi) fun t ht=>h t (.inr ht)]
 case Af x lo hi=>rw[bh (x:=x) fun t ht=>h t (.inl (.inl ht)),po (x:=lo) fun t ht=>h t (.inl (.inr ht)),po (x:=hi) fun t ht=>h t (.inr ht)]
 case fR k x=>rw[bh h]
 case field a b c x=>rw[bh h]
 case dJ s x y=>rw[bh (x:=x) fun t ht=>h t (.inl ht),bh (x:=y) fun t ht=>h t (.inr ht)]
 case Lr n s x y=>rw[bh (x:=x) fun t ht=>h t (.inl ht),bh (x:=y) fun t ht=>h t (.inr ht)]
 case Lt x y=>rw[bh (x:=x) fun t ht=>h t (.inl ht),bh (x:=y) fun t ht=>h t (.inr ht)]
 case eD a b c x y=>rw[bh (x:=x) fun t ht=>h t (.inl ht),bh (x:=y) fun t ht=>h t (.inr ht)]
 case extract i x=>rw[bh h]
 case len x=>rw[bh h]
 case LB x=>rw[bh h]
 case Je x=>rw[bh h]
 case I7 x=>rw[bh h]
 case LH f l=>rw[map_congr h]
 case LI f l=>rw[map_congr h]
 case mq f l=>rw[map_congr h]
 case jX z x y=>rw[bh (x:=x) fun t ht=>h t (.inl ht),bh (x:=y) fun t ht=>h t (.inr ht)]
theorem gV {env iT:Env} {o:gw} {g:Rows} {id:Id} (h:∀t∈o.gH,env t=iT t):gp o (cN env) g id=gp o (cN iT) g id:=by
 cases o<;>simp only[gw.gH,List.mem_append]at h<;>simp only[gp]
 case clear z x=>rw[bh h]
 case mw f l=>rw[map_congr h]
 all_goals rename_i a x y
 all_goals rw[bh (x:=x) fun t ht=>h t (.inl ht),bh (x:=y) fun t ht=>h t (.inr ht)]
theorem HH {n:Nat} {vo:bd} {env iT:Env} {g g':Rows} {v:AV} (h:∀t∈vo.op.gH,env t=iT t) (hv:VS X n vo env g v g'):VS X n vo iT g v g':=by
 unfold VS at hv ⊢
 split at hv
 ·rename_i f args ec
  rw[ec]at h
  simp only[gw.gH]at h
  rw[<-map_congr h];exact hv
 ·rename_i x args ec
  rw[ec]at h
  simp only[gw.gH,List.mem_append]at h
  rw[<-map_congr (l:=args) fun t ht=>h t (.inr ht),<-bh (x:=x) fun t ht=>h t (.inl ht)];exact hv
 ·rw[<-gV h];exact hv
 ·rw[<-gV h];exact hv
 ·rw[<-gV h];exact hv
 ·rw[<-gV h];exact hv
 ·rw[<-gV h];exact hv
 ·rw[<-s8 h];exact hv
theorem DK {q:MQ} {vs:List AV} {g:Rows} {id:Id} {v:AV} {r:Row} (h:bF q vs g id=some (v,some r)):∃m,q=.new m:=by
 unfold bF at h
 split at h
 ·exact⟨_,rfl⟩
 ·simp[Option.bind_eq_some_iff]at h
 ·simp at h
 ·cases h
theorem wG {o:gw} {ρ:O->AV} {g:Rows} {id:Id} {v:AV} {r:Row} (h:eP o ρ g id=some (v,some r)):qG o=true:=by
 cases o<;>simp only[eP]at h<;>(try rfl)<;>(try simp at h)
 case mq q xs=>obtain⟨m,rfl⟩:=DK h;rfl
 all_goals (try(split at h<;>simp at h))
theorem wH {o:gw} {ρ:O->AV} {g g2:Rows} {id id2:Id} (h:o.cls=.pure):eP o ρ g id=eP o ρ g2 id2:=by
 cases o<;>(try simp[gw.cls]at h)<;>(try simp only[eP])
 case mq q xs=>cases q<;>simp[gw.cls]at h
theorem uY {n:Nat} {vo:bd} {env:Env} {g g':Rows} {v:AV} (hw:vo.op.cls≠.write) (hv:VS X n vo env g v g'):∃mr,g'=jm g ⟨vo.site,n⟩ mr/\(mr≠none->vo.makes=true)/\∀g0,gm vo.hid n g0=gm vo.hid n g->VS X n vo env g0 v (jm g0 ⟨vo.site,n⟩ mr):=by
 unfold VS at hv
 split at hv
 ·rename_i f args ec
  rcases hv with⟨h1,rfl⟩|⟨hs,sz,rows,hM,rfl,rfl⟩
  ·refine⟨none,rfl,fun h=>(h rfl).elim,fun g0 h0=>?_⟩
   unfold VS;rw[ec];simp only;unfold vg;rw[h0];exact .inl ⟨h1,rfl⟩
  ·refine⟨some _,rfl,fun _=>by unfold bd.makes;rw[ec,hs];simp[gw.lS],fun g0 h0=>?_⟩
   unfold VS;rw[ec];simp only;unfold vg;rw[h0];exact .inr ⟨hs,sz,rows,hM,rfl,rfl⟩
 ·rename_i x args ec
  obtain⟨f,cK,hx,hv⟩:=hv
  rcases hv with⟨h1,rfl⟩|⟨hs,sz,rows,hM,rfl,rfl⟩
  ·refine⟨none,rfl,fun h=>(h rfl).elim,fun g0 h0=>?_⟩
   unfold VS;rw[ec];simp only;unfold vg;rw[h0];exact⟨f,cK,hx,.inl ⟨h1,rfl⟩⟩
  ·refine⟨some _,rfl,fun _=>by unfold bd.makes;rw[ec,hs];simp[gw.lS],fun g0 h0=>?_⟩
   unfold VS;rw[ec];simp only;unfold vg;rw[h0];exact⟨f,cK,hx,.inr ⟨hs,sz,rows,hM,rfl,rfl⟩⟩
 ·rename_i ec;rw[ec]at hw;exact(hw rfl).elim
 ·rename_i ec;rw[ec]at hw;exact(hw rfl).elim
 ·rename_i ec;rw[ec]at hw;exact(hw rfl).elim
 ·rename_i ec;rw[ec]at hw;exact(hw rfl).elim
 ·rename_i ec;rw[ec]at hw;exact(hw rfl).elim
 ·rename_i n1 n2 n3 n4 n5 n6 n7
  obtain⟨mr,hq,rfl⟩:=hv
  refine⟨mr,rfl,fun h=>?_,fun g0 h0=>?_⟩
  ·cases mr with
   |none=>exact(h rfl).elim
   |some r=>unfold bd.makes;rw[wG hq];rfl
  ·unfold VS
   split
   ·rename_i hh;exact(n1 _ _ hh).elim
   ·rename_i hh;exact(n2 _ _ hh).elim
   ·rename_i hh;exact(n3 _ _ _ hh).elim
   ·rename_i hh;exact(n4 _ _ _ hh).elim
   ·rename_i hh;exact(n5 _ _ _ hh).elim
   ·rename_i hh;exact(n6 _ _ hh).elim
   ·rename_i hh;exact(n7 _ _ hh).elim
   ·rw[h0];exact⟨mr,hq,rfl⟩
theorem zd {n:Nat} {vo:bd} {env:Env} {g g':Rows} {v:AV} (hp:vo.op.cls=.pure) (hv:VS X n vo env g v g'):g'=g/\∀g0,VS X n vo env g0 v g0:=by
 unfold VS at hv
 split at hv
 ·rename_i ec;rw[ec]at hp;simp[gw.cls]at hp
 ·rename_i ec;rw[ec]at hp;simp[gw.cls]at hp
 ·rename_i ec;rw[ec]at hp;simp[gw.cls]at hp
 ·rename_i ec;rw[ec]at hp;simp[gw.cls]at hp
 ·rename_i ec;rw[ec]at hp;simp[gw.cls]at hp
 ·rename_i ec;rw[ec]at hp;simp[gw.cls]at hp
 ·rename_i ec;rw[ec]at hp;simp[gw.cls]at hp
 ·rename_i n1 n2 n3 n4 n5 n6 n7
  obtain⟨mr,hq,rfl⟩:=hv
  have Ui:mr=none:=by
   cases mr with
   |none=>rfl
   |some r=>have:=wG hq;simp[qG,hp]at this
  subst Ui
  refine⟨rfl,fun g0=>?_⟩
  unfold VS
  split
  ·rename_i hh;exact(n1 _ _ hh).elim
  ·rename_i hh;exact(n2 _ _ hh).elim
  ·rename_i hh;exact(n3 _ _ _ hh).elim
  ·rename_i hh;exact(n4 _ _ _ hh).elim
  ·rename_i hh;exact(n5 _ _ _ hh).elim
  ·rename_i hh;exact(n6 _ _ hh).elim
  ·rename_i hh;exact(n7 _ _ hh).elim
  ·exact⟨none,by rw[wH hp];exact hq,rfl⟩
def GS (X:fF) (n:Nat) (vo:bd) (env:Env) (g:Rows) (v:AV) (g':Rows):Prop:=
 if aM vo.guard env then VS X n vo env g v g' else v=.undef/\g'=g
theorem Ct {hid:List Nat} {g:Rows} {s n:Nat} {mr:Option Row} (h:mr≠none->hid.contains s=true):gm hid n (jm g ⟨s,n⟩ mr)=gm hid n g:=by
 cases mr with
 |none=>rfl
 |some r=>
  have hc:=h (by simp)
  cases hid with
  |nil=>simp at hc
  |cons a l=>
   funext i
   show(if (a::l).contains i.site=true/\i.bP=n then none else jm g ⟨s,n⟩ (some r) i)=if (a::l).contains i.site=true/\i.bP=n then none else g i
   by_cases hi:i=⟨s,n⟩
   ·subst hi;rw[if_pos ⟨hc,rfl⟩,if_pos ⟨hc,rfl⟩]
   ·simp only[jm,bz,if_neg hi]
theorem FI {g:Rows} {i j:Id} (h:i≠j) (m1 m2:Option Row):jm (jm g i m1) j m2=jm (jm g j m2) i m1:=by
 cases m1<;>cases m2<;>simp only[jm]
 funext k
 simp only[bz]
 by_cases h1:k=i
 ·subst h1;rw[if_neg h,if_pos rfl];simp
 ·by_cases h2:k=j
  ·subst h2;simp[h1]
  ·simp[h1,h2]
theorem w7 {env:Env} {d e:Option Nat} {v u:AV} (h:∀k,d=some k->e≠some k):upd (upd env d v) e u=upd (upd env e u) d v:=by
 cases d with
 |none=>rfl
 |some d=>
  cases e with
  |none=>rfl
  |some e=>
   have gW:d≠e:=fun he=>h d rfl (by rw[he])
   funext t
   simp only[upd]
   by_cases h1:t=d
   ·subst h1;rw[if_neg gW,if_pos rfl,if_pos rfl]
   ·by_cases h2:t=e
    ·subst h2;rw[if_pos rfl,if_neg h1,if_pos rfl]
    ·simp[h1,h2]
theorem mH {env:Env} {d:Option Nat} {v:AV} {l:List Nat} (h:∀k,d=some k->k∉l):∀t∈l,upd env d v t=env t:=by
 intro t ht
 cases d with
 |none=>rfl
 |some d=>
  have:t≠d:=fun he=>h d rfl (he▸ht)
  simp[upd,this]
structure CK (x y:bd):Prop where
 xy:∀k,x.dst=some k->k∉y.gH
 yx:∀k,y.dst=some k->k∉x.gH
 dst:∀k,x.dst=some k->y.dst≠some k
 cls:clash x.op.cls y.op.cls=false
 hx:x.makes=true->y.hid.contains x.site=true
 hy:y.makes=true->x.hid.contains y.site=true
 site:x.site≠y.site
theorem CK.symm {x y:bd} (h:CK x y):CK y x:=
 ⟨h.yx,h.xy,fun k hk he=>h.dst k he hk,by have:=h.cls;revert this;cases x.op.cls<;>cases y.op.cls<;>simp[clash],h.hy,h.hx,fun e=>h.site e.symm⟩
theorem qo {x y:bd} (h:ER x y=true):CK x y:=by
 unfold ER at h
 simp only[Bool.and_eq_true,Bool.not_eq_true',Bool.or_eq_true,bne_iff_ne]at h
 obtain⟨⟨⟨⟨h1,h2⟩,h3⟩,h4⟩,h5⟩:=h
 unfold th at h1
 simp only[Bool.and_eq_true]at h1
 obtain⟨a1,a2⟩:=h1
 refine⟨fun k hk=>?_,fun k hk=>?_,fun k hk=>?_,h2,fun hm=>?_,fun hm=>?_,h5⟩
 ·rw[hk]at a1;simp at a1;exact a1.1
 ·rw[hk]at a2;simpa using a2
 ·rw[hk]at a1;simp at a1;exact a1.2
 ·rcases h3 with h3|h3
  ·rw[hm]at h3;cases h3
  ·exact h3
 ·rcases h4 with h4|h4
  ·rw[hm]at h4;cases h4
  ·exact h4
theorem rZ {vo:bd} {t:Nat} (h:t∈vo.op.gH):t∈vo.gH:=List.mem_append_left _ h
theorem nr {vo:bd} {env iT:Env} (h:∀t∈vo.gH,env t=iT t):aM vo.guard env=aM vo.guard iT:=by
 unfold aM
 cases hg:vo.guard with
 |none=>rfl
 |some p=>
  obtain⟨t,b⟩:=p
  have:env t=iT t:=h t (List.mem_append_right _ (by rw[hg];simp))
  simp only[this]
theorem uR {n:Nat} {vo:bd} {env iT:Env} {g g':Rows} {v:AV} (h:∀t∈vo.gH,env t=iT t) (hv:GS X n vo env g v g'):GS X n vo iT g v g':=by
 unfold GS at hv ⊢
 rw[<-nr h]
 split at hv
 ·rename_i hw;rw[if_pos hw];exact HH (fun t ht=>h t (rZ ht)) hv
 ·rename_i hw;rw[if_neg hw];exact hv
theorem Ew {n:Nat} {x y:bd} {env:Env} {g g1 g2:Rows} {v v':AV} (F:CK x y) (h1:GS X n x env g v g1) (h2:GS X n y (upd env x.dst v) g1 v' g2):
  ∃KY,GS X n y env g v' KY/\GS X n x (upd env y.dst v') KY v g2/\upd (upd env x.dst v) y.dst v'=upd (upd env y.dst v') x.dst v:=by
 have MM:=w7 (env:=env) (v:=v) (u:=v') F.dst
 replace h2:GS X n y env g1 v' g2:=uR (mH F.xy) h2
 have back:∀{KY},GS X n x env KY v g2->GS X n x (upd env y.dst v') KY v g2:=fun h=>uR (fun t ht=>(mH F.yx t ht).symm) h
 unfold GS at h1 h2
 by_cases wx:aM x.guard env=true
 ·rw[if_pos wx]at h1
  by_cases wy:aM y.guard env=true
  ·rw[if_pos wy]at h2
   by_cases cx:x.op.cls=.write
   ·have cy:y.op.cls=.pure:=by
     have:=F.cls;rw[cx]at this
     cases hc:y.op.cls<;>simp[clash,hc]at this ⊢
    obtain⟨rfl,dF⟩:=zd cy h2
    exact⟨g,by unfold GS;rw[if_pos wy];exact dF g,back (by unfold GS;rw[if_pos wx];exact h1),MM⟩
   ·by_cases cy:y.op.cls=.write
    ·have cx':x.op.cls=.pure:=by
      have:=F.cls;rw[cy]at this
      cases hc:x.op.cls<;>simp[clash,hc]at this ⊢
     obtain⟨rfl,dF⟩:=zd cx' h1
     exact⟨g2,by unfold GS;rw[if_pos wy];exact h2,back (by unfold GS;rw[if_pos wx];exact dF g2),MM⟩
    ·obtain⟨mx,rfl,kx,S8⟩:=uY cx h1
     obtain⟨my,rfl,ky,Ng⟩:=uY cy h2
     have gW:(⟨x.site,n⟩:Id)≠⟨y.site,n⟩:=fun e=>F.site (by injection e)
     refine⟨jm g ⟨y.site,n⟩ my,?_,back ?_,MM⟩
     ·unfold GS;rw[if_pos wy]
      exact Ng g (Ct fun h=>F.hx (kx h)).symm
     ·unfold GS;rw[if_pos wx,FI gW]
      exact S8 _ (Ct fun h=>F.hy (ky h))
  ·rw[if_neg wy]at h2
   obtain⟨rfl,rfl⟩:=h2
   exact⟨g,by unfold GS;rw[if_neg wy];exact⟨rfl,rfl⟩,back (by unfold GS;rw[if_pos wx];exact h1),MM⟩
 ·rw[if_neg wx]at h1
  obtain⟨rfl,rfl⟩:=h1
  exact⟨g2,h2,back (by unfold GS;rw[if_neg wx];exact⟨rfl,rfl⟩),MM⟩
end
end Go.Proofs.YtgoelphibofcmaaGreat.V

namespace Go.Proofs.YtgoelphibofcmaaGreat.V
open Go.RowKit
variable {P:Program} {w w':World} {D D' D2:Nat->Prop} {ι ι' ι2:Names}
section
variable {hs:Nat} {X:fF}
def jn (acc:Array Nat) (o:Oper):Nat:=o.after.foldl (fun s e=>if Region.binds .any e then s|||2 ^ e.on|||acc.getD e.on 0 else s) 0
theorem KL (ops:Array Oper):jC ops=ops.foldl (fun acc o=>acc.push (jn acc o)) #[]:=rfl
theorem AR {acc:Array Nat} {o:Oper} {i:Nat} (h:(jn acc o).testBit i=true):∃e∈o.after,Region.binds .any e=true/\(e.on=i∨(acc.getD e.on 0).testBit i=true):=by
 unfold jn at h
 rw[<-Array.foldl_toList]at h
 have gen:∀(l:List Edge) (s:Nat),(l.foldl (fun s e=>if Region.binds .any e then s|||2 ^ e.on|||acc.getD e.on 0 else s) s).testBit i=true->s.testBit i=true∨∃e∈l,Region.binds .any e=true/\(e.on=i∨(acc.getD e.on 0).testBit i=true):=by
  intro l
  induction l with
  |nil=>intro s h;exact .inl h
  |cons e r ih=>
   intro s h
   rw[List.foldl_cons]at h
   rcases ih _ h with h|⟨e',K4,h'⟩
   ·by_cases hb:Region.binds .any e=true
    ·rw[if_pos hb]at h
     simp only[Nat.testBit_or,Bool.or_eq_true]at h
     rcases h with(h|h)|h
     ·exact .inl h
     ·refine .inr ⟨e,by simp,hb,.inl ?_⟩
      rw[Nat.testBit_two_pow]at h
      simpa using h
     ·exact .inr ⟨e,by simp,hb,.inr h⟩
    ·rw[if_neg hb]at h;exact .inl h
   ·exact .inr ⟨e',List.mem_cons_of_mem _ K4,h'⟩
 rcases gen _ _ h with h|⟨e,he,h⟩
 ·simp at h
 ·exact⟨e,Array.mem_toList_iff.1 he,h⟩
theorem HP {ops:Array Oper} {j i:Nat} (h:((jC ops).getD j 0).testBit i=true):∃o,ops[j]? =some o/\∃e∈o.after,Region.binds .any e=true/\(e.on=i∨((jC ops).getD e.on 0).testBit i=true):=by
 have key:∀(l pre:List Oper) (acc:Array Nat),acc.size=pre.length->(∀j i,(acc.getD j 0).testBit i=true->∃o,pre[j]? =some o/\∃e∈o.after,Region.binds .any e=true/\(e.on=i∨(acc.getD e.on 0).testBit i=true))->
   ∀j i,((l.foldl (fun acc o=>acc.push (jn acc o)) acc).getD j 0).testBit i=true->∃o,(pre++l)[j]? =some o/\∃e∈o.after,Region.binds .any e=true/\(e.on=i∨((l.foldl (fun acc o=>acc.push (jn acc o)) acc).getD e.on 0).testBit i=true):=by
  intro l
  induction l with
  |nil=>intro pre acc _ h j i hb;simpa using h j i hb
  |cons o r ih=>
   intro pre acc fj h j i hb
   have yL:∀k,k<acc.size->(acc.push (jn acc o)).getD k 0=acc.getD k 0:=fun k hk=>by
    simp only[Array.getD_eq_getD_getElem?,Array.getElem?_push]
    rw[if_neg (by omega)]
   have big:∀k,acc.size<=k->acc.getD k 0=0:=fun k hk=>by simp[Array.getElem?_eq_none hk]
   have lift:∀k i,(acc.getD k 0).testBit i=true->((acc.push (jn acc o)).getD k 0).testBit i=true:=fun k i hk=>by
    by_cases dQ:k<acc.size
    ·rw[yL k dQ];exact hk
    ·rw[big k (by omega)]at hk;simp at hk
   have:=ih (pre++[o]) (acc.push (jn acc o)) (by simp[fj]) (fun j i hb=>by
    by_cases dQ:j<acc.size
    ·rw[yL j dQ]at hb
     obtain⟨o',CE,e,he,fP,h2⟩:=h j i hb
     refine⟨o',by rw[List.getElem?_append_left (by omega)];exact CE,e,he,fP,?_⟩
     rcases h2 with h2|h2
     ·exact .inl h2
     ·exact .inr (lift _ _ h2)
    ·by_cases hj:j=acc.size
     ·subst hj
      have e0:(acc.push (jn acc o)).getD acc.size 0=jn acc o:=by simp
      rw[e0]at hb
      obtain⟨e,he,fP,h2⟩:=AR hb
      refine⟨o,by rw[List.getElem?_append_right (by omega),fj];simp,e,he,fP,?_⟩
      rcases h2 with h2|h2
      ·exact .inl h2
      ·exact .inr (lift _ _ h2)
     ·have:(acc.push (jn acc o)).getD j 0=0:=by
       simp only[Array.getD_eq_getD_getElem?]
       rw[Array.getElem?_eq_none (by simp;omega)];rfl
      rw[this]at hb;simp at hb) j i (by simpa using hb)
   simpa using this
 rw[KL,<-Array.foldl_toList]at h ⊢
 have:=key ops.toList [] #[] rfl (fun j i h=>by simp at h) j i h
 simpa using this
def DC (ops:Array Oper) (listed:Array Bool):Prop:=∀k i,listed.getD k false=true->((jC ops).getD k 0).testBit i=true->listed.getD i false=true
theorem kU {ops:Array Oper} {listed:Array Bool} (h:DC ops listed) {j:Nat} (hj:j∈Region.ready .any ops listed):∀i,((jC ops).getD j 0).testBit i=true->listed.getD i false=true:=by
 intro i hb
 obtain⟨_,o,ho,dF⟩:=mem_ready.1 hj
 obtain⟨o',CE,e,he,fP,h2⟩:=HP hb
 rw[ho]at CE;injection CE with CE;subst CE
 have hl:=dF e he fP
 rcases h2 with h2|h2
 ·rw[<-h2];exact hl
 ·exact h _ _ hl h2
theorem DC.list {ops:Array Oper} {listed:Array Bool} (h:DC ops listed) {j:Nat} (hj:j∈Region.ready .any ops listed):DC ops (listed.setIfInBounds j true):=by
 intro k i hk hb
 by_cases hkj:k=j
 ·subst hkj;exact getD_set_true (kU h hj i hb)
 ·rw[getD_set_ne false (fun e=>hkj e.symm)]at hk
  exact getD_set_true (h k i hk hb)
theorem jf {ops:Array Oper} {listed:Array Bool} {j:Nat} (hj:j∈Region.ready .any ops listed):listed.getD j false=false:=by
 have h0:=(mem_ready.1 hj).1
 rcases Nat.lt_or_ge j listed.size with h|h
 ·simp[h]at h0 ⊢;exact h0
 ·simp[Array.getElem?_eq_none h]at h0
def Ka (X:fF) (n:Nat) (ops:Array Oper) (vl:List bd) (K:Env->Rows->Prop):Nat->Array Bool->Env->Rows->Prop
 |0,listed,env,g=>Region.ready .any ops listed=[]/\K env g
 |f+1,listed,env,g=>(Region.ready .any ops listed=[]->K env g)/\∀i∈Region.ready .any ops listed,∃vo,vl[i]? =some vo/\∃v g',GS X n vo env g v g'/\Ka X n ops vl K f (listed.setIfInBounds i true) (upd env vo.dst v) g'
theorem A8 {ops:Array Oper} {vl:List bd} (h:oy ops vl (jC ops)=true) {i j:Nat} {x y:bd} (hi:vl[i]? =some x) (hj:vl[j]? =some y) (Dl:i≠j) (h1:((jC ops).getD j 0).testBit i=false) (h2:((jC ops).getD i 0).testBit j=false):CK x y:=by
 unfold oy at h
 simp only[Bool.and_eq_true,List.all_eq_true]at h
 obtain⟨_,h⟩:=h
 have mem:∀(k:Nat) (z:bd),vl[k]? =some z->(z,k)∈vl.zipIdx:=fun k z hk=>by
  rw[List.mem_iff_getElem?]
  exact⟨k,by simp[List.getElem?_zipIdx,hk]⟩
 rcases Nat.lt_or_gt_of_ne Dl with dQ|K6
 ·have:=h _ (mem j y hj) _ (mem i x hi)
  simp only[dQ,decide_true,Bool.not_true,Bool.false_or,h1]at this
  exact qo this
 ·have:=h _ (mem i x hi) _ (mem j y hj)
  simp only[K6,decide_true,Bool.not_true,Bool.false_or,h2]at this
  exact(qo this).symm
theorem Et {n:Nat} {ops:Array Oper} {vl:List bd} {K:Env->Rows->Prop} (vW:oy ops vl (jC ops)=true) (hlen:vl.length=ops.size) {i:Nat} {vi:bd} (hi:vl[i]? =some vi) {v:AV}:∀(fuel:Nat) (listed:Array Bool) (env:Env) (g g1:Rows),
  DC ops listed->i∈Region.ready .any ops listed->GS X n vi env g v g1->Ka X n ops vl K fuel (listed.setIfInBounds i true) (upd env vi.dst v) g1->Ka X n ops vl K (fuel+1) listed env g:=by
 intro fuel
 induction fuel with
 |zero=>
  intro listed env g g1 _ hr hG H
  refine⟨fun h=>(by rw[h]at hr;cases hr),fun j hj=>?_⟩
  by_cases mK:j=i
  ·subst mK;exact⟨vi,hi,v,g1,hG,H⟩
  ·have:=ready_mono hj mK
   rw[H.1]at this;cases this
 |succ fuel ih=>
  intro listed env g g1 sj hr hG H
  refine⟨fun h=>(by rw[h]at hr;cases hr),fun j hj=>?_⟩
  by_cases mK:j=i
  ·subst mK;exact⟨vi,hi,v,g1,hG,H⟩
  ·obtain⟨vj,Lp,v',g2,hG2,H2⟩:=H.2 j (ready_mono hj mK)
   have b1:((jC ops).getD j 0).testBit i=false:=by
    cases hb:((jC ops).getD j 0).testBit i with
    |false=>rfl
    |true=>have:=kU sj hj i hb;rw[jf hr]at this;cases this
   have b2:((jC ops).getD i 0).testBit j=false:=by
    cases hb:((jC ops).getD i 0).testBit j with
    |false=>rfl
    |true=>have:=kU sj hr j hb;rw[jf hj]at this;cases this
   have F:=A8 vW hi Lp (fun e=>mK e.symm) b1 b2
   obtain⟨KY,q1,q2,q3⟩:=Ew F hG hG2
   refine⟨vj,Lp,v',KY,q1,ih _ _ _ g2 (sj.list hj) (ready_mono hr (fun e=>mK e.symm)) q2 ?_⟩
   rw[<-q3,Array.setIfInBounds_comm _ _ mK]
   exact H2
theorem Nc {n:Nat} {vo:bd} {env:Env} {g:Rows} {v:AV} {mr:Option Row} (h:eP vo.op (cN env) (gm vo.hid n g) ⟨vo.site,n⟩=some (v,mr)):VS X n vo env g v (jm g ⟨vo.site,n⟩ mr):=by
 unfold VS
 split
 ·rename_i ec;rw[ec]at h;simp[eP]at h
 ·rename_i ec;rw[ec]at h;simp[eP]at h
 ·rename_i ec;rw[ec]at h;simp[eP]at h
 ·rename_i ec;rw[ec]at h;simp[eP]at h
 ·rename_i ec;rw[ec]at h;simp[eP]at h
 ·rename_i ec;rw[ec]at h;simp[eP]at h
 ·rename_i ec;rw[ec]at h;simp[eP]at h
 ·exact⟨mr,h,rfl⟩
theorem HI {n:Nat} {vo:bd} {env:Env} {g g':Rows} {v:AV} (h:gp vo.op (cN env) g ⟨vo.site,n⟩=some (v,g')):VS X n vo env g v g':=by
 unfold VS
 split
 ·rename_i ec;rw[ec]at h;simp[gp]at h
 ·rename_i ec;rw[ec]at h;simp[gp]at h
 ·exact h
 ·exact h
 ·exact h
 ·exact h
 ·exact h
 ·rename_i n1 n2 n3 n4 n5 n6 n7
  exfalso
  unfold gp at h
  split at h
  ·rename_i hh;exact n3 _ _ _ hh
  ·rename_i hh;exact n4 _ _ _ hh
  ·rename_i hh;exact n5 _ _ _ hh
  ·rename_i hh;exact n6 _ _ hh
  ·rename_i hh;exact n7 _ _ hh
  ·simp at h
theorem O1 {vo:bd} {env:Env} {σ:ar} {next:AV->ar->Prop} (hv:fM X true vo env σ next):∃v g',VS X σ.next vo env σ.get v g'/\next v ⟨g',σ.next⟩:=by
 unfold fM at hv
 split at hv
 ·rename_i f args ec
  rcases hv with⟨r,hP,hn⟩|⟨h,_⟩|⟨hs,sz,rows,hM,hn⟩
  ·exact⟨r,σ.get,by unfold VS;rw[ec];exact .inl ⟨hP,rfl⟩,hn⟩
  ·cases h
  ·exact⟨_,_,by unfold VS;rw[ec];exact .inr ⟨hs,sz,rows,hM,rfl,rfl⟩,hn⟩
 ·rename_i x args ec
  split at hv
  ·rename_i f cK hx
   have uG:ve (cN env x) (args.map (cN env))=some (f,args.map (cN env)++cK):=by rw[hx];rfl
   rcases hv with⟨r,hP,hn⟩|⟨h,_⟩|⟨hs,sz,rows,hM,hn⟩
   ·exact⟨r,σ.get,by unfold VS;rw[ec];exact⟨f,_,uG,.inl ⟨hP,rfl⟩⟩,hn⟩
   ·cases h
   ·exact⟨_,_,by unfold VS;rw[ec];exact⟨f,_,uG,.inr ⟨hs,sz,rows,hM,rfl,rfl⟩⟩,hn⟩
  ·rename_i f cK hx
   have uG:ve (cN env x) (args.map (cN env))=some (f,cK++args.map (cN env)):=by rw[hx];rfl
   rcases hv with⟨r,hP,hn⟩|⟨h,_⟩|⟨hs,sz,rows,hM,hn⟩
   ·exact⟨r,σ.get,by unfold VS;rw[ec];exact⟨f,_,uG,.inl ⟨hP,rfl⟩⟩,hn⟩
   ·cases h
   ·exact⟨_,_,by unfold VS;rw[ec];exact⟨f,_,uG,.inr ⟨hs,sz,rows,hM,rfl,rfl⟩⟩,hn⟩
  ·exact hv.elim
 ·split at hv
  ·rename_i v g h;exact⟨v,g,HI h,hv⟩
  ·exact hv.elim
 ·split at hv
  ·rename_i v g h;exact⟨v,g,HI h,hv⟩
  ·exact hv.elim
 ·split at hv
  ·rename_i v g h;exact⟨v,g,HI h,hv⟩
  ·exact hv.elim
 ·split at hv
  ·rename_i v g h;exact⟨v,g,HI h,hv⟩
  ·exact hv.elim
 ·split at hv
  ·rename_i v g h;exact⟨v,g,HI h,hv⟩
  ·exact hv.elim
 ·split at hv
  ·rename_i v r h;exact⟨v,_,Nc h,hv⟩
  ·rename_i v h;exact⟨v,_,Nc h,hv⟩
  ·exact hv.elim
theorem w8 {ops:Array Oper} {vl:List bd} {K:Env->ar->Prop} {n:Nat} (vW:oy ops vl (jC ops)=true) (hlen:vl.length=ops.size):∀(r:List bd) (k:Nat) (listed:Array Bool) (env:Env) (g:Rows),
  (∀j,r[j]? =vl[k+j]?)->listed.size=ops.size->(∀i,i<ops.size->listed[i]? =some (decide (i<k)))->k+r.length=ops.size->DC ops listed->wpOps X true r K env ⟨g,n⟩->Ka X n ops vl (fun env g=>K env ⟨g,n+1⟩) r.length listed env g
 |[],k,listed,env,g,_,fj,hl,hk,_,hv=>by
  refine⟨?_,hv⟩
  rw[List.eq_nil_iff_forall_not_mem]
  intro j hj
  obtain⟨h0,o,ho,_⟩:=mem_ready.1 hj
  have dQ:j<ops.size:=(Array.getElem?_eq_some_iff.1 ho).1
  have:=hl j dQ
  simp at hk
  simp[this,show j<k by omega]at h0
 |vo::r,k,listed,env,g,hr,fj,hl,hk,sj,hv=>by
  simp only[List.length_cons]at hk
  have pP:vl[k]? =some vo:=by simpa using(hr 0).symm
  have l6:k<ops.size:=by omega
  have IJ:k∈Region.ready .any ops listed:=by
   rw[mem_ready]
   refine⟨by simp[hl k l6],ops[k],Array.getElem?_eq_getElem l6,fun e he hb=>?_⟩
   unfold oy EK at vW
   simp only[Bool.and_eq_true,List.all_eq_true]at vW
   have hm:(ops[k],k)∈ops.toList.zipIdx:=by
    rw[List.mem_iff_getElem?]
    exact⟨k,by simp[List.getElem?_zipIdx,l6]⟩
   have:=vW.1 _ hm
   rw[Array.all_eq_true_iff_forall_mem]at this
   have:=this e he
   simp only[hb,Bool.not_true,Bool.false_or,decide_eq_true_eq]at this
   simp[hl e.on (by omega),this]
  have hGS:∃v g',GS X n vo env g v g'/\wpOps X true r K (upd env vo.dst v) ⟨g',n⟩:=by
   unfold wpOps at hv
   unfold GS
   split at hv
   ·rename_i hw
    simp only[hw,if_true]
    exact O1 hv
   ·rename_i hw
    simp only[hw]
    exact⟨.undef,g,⟨rfl,rfl⟩,hv⟩
  obtain⟨v,g',h1,h2⟩:=hGS
  refine Et vW hlen pP r.length listed env g g' sj IJ h1 ?_
  refine w8 vW hlen r (k+1) _ _ _ (fun j=>by have:=hr (j+1);simpa[Nat.add_assoc,Nat.add_comm 1 j]using this) (by simp[fj]) (fun i hi=>?_) (by omega) (sj.list IJ) h2
  by_cases yh:i=k
  ·subst yh;simp[fj,l6]
  ·rw[Array.getElem?_setIfInBounds_ne (fun e=>yh e.symm),hl i hi]
   congr 1
   have:(i<k)=(i<k+1):=by apply propext;omega
   simp[this]
theorem oq {f:Nat->Oper->Option bd}:∀{l:List Oper} {vl:List bd} {j:Nat},allM f l j=some vl->vl.length=l.length/\∀(i:Nat) (o:Oper),l[i]? =some o->∃vo,vl[i]? =some vo/\f (j+i) o=some vo
 |[],vl,j,h=>by simp[allM]at h;subst h;simp
 |o::l,vl,j,h=>by
  simp only[allM,Option.bind_eq_bind,Option.bind_eq_some_iff,Option.pure_def,Option.some.injEq]at h
  obtain⟨vo,pP,tj,sq,rfl⟩:=h
  obtain⟨h1,h2⟩:=oq sq
  refine⟨by simp[h1],fun i o' hi=>?_⟩
  cases i with
  |zero=>simp at hi;subst hi;exact⟨vo,rfl,pP⟩
  |succ i=>
   simp at hi
   obtain⟨q,hq,hf⟩:=h2 i o' hi
   exact⟨q,by simpa using hq,by rw[<-hf];congr 1;omega⟩
theorem xQ {ops:Array Oper} {vl:List bd} {nt site0:Nat} {draw mk:Bool} {bs:Array Nat} {hidden:List (Nat×Bool)} {n:Nat} {K:Env->Rows->Prop} {Q:Exit->Act->World->Prop} (dF:allM (kH P ops nt site0 draw mk bs hidden) ops.toList 0=some vl):
  ∀(fuel:Nat) (listed:Array Bool) (env:Env) (g:Rows) (a:Act) (w:World) (D:Nat->Prop) (ι:Names) (U:Nat->Prop),Ka (Sound P) n ops vl K fuel listed env g->gr P hs D ι g w->Used ι n U->(∀s,U s->∃i,s=site0+i/\listed.getD i false=true)->cm P w D ι env a->a.tmps.size=nt->
  (∀iG g' a' w' D' ι' U',K iG g'->Step hs D ι w D' ι' w'->gr P hs D' ι' g' w'->Used ι' n U'->cm P w' D' ι' iG a'->a'.tmps.size=nt->a'.defers=a.defers->Q .normal a' w')->wpAny P .any ops Q fuel listed a w:=by
 intro fuel
 induction fuel with
 |zero=>intro listed env g a w D ι U h S Us hU E fj hQ;exact⟨h.1,hQ env g a w D ι U h.2 (Step.refl _ _ _ _) S Us E fj rfl⟩
 |succ fuel ih=>
  intro listed env g a w D ι U h S Us hU E fj hQ
  refine⟨fun hr=>hQ env g a w D ι U (h.1 hr) (Step.refl _ _ _ _) S Us E fj rfl,fun i hi=>?_⟩
  obtain⟨vo,pP,v,g',hG,MI⟩:=h.2 i hi
  obtain⟨_,o,ho,_⟩:=mem_ready.1 hi
  obtain⟨vo',ml,Qu⟩:=(oq dF).2 i o (by simpa using ho)
  rw[pP]at ml;injection ml with ml;subst ml
  rw[Nat.zero_add]at Qu
  obtain⟨hc,hd,By,xt,hg⟩:=pe Qu
  have hw:=tk (ops:=ops) (vo:=vo) E hg
  have TG:¬U vo.site:=fun hu=>by
   obtain⟨i',he,hl⟩:=hU _ hu
   have:i'=i:=by omega
   subst this
   rw[jf hi]at hl;cases hl
  have jD:i<listed.size:=by
   have h0:=(mem_ready.1 hi).1
   rcases Nat.lt_or_ge i listed.size with h|h
   ·exact h
   ·simp[Array.getElem?_eq_none h]at h0
  unfold wpOp
  simp only[ho]
  rw[<-hw]
  unfold GS at hG
  by_cases Gg:aM vo.guard env=true
  ·rw[if_pos Gg]
   rw[if_pos Gg]at hG
   refine .inl (AM hc hG S Us TG E fun a' w' ⟨u,D',ι',ha,T,S',hR,U'⟩=>?_)
   subst ha
   refine ih _ _ _ _ w' D' ι' _ MI S' U' (fun s Bu=>?_) (by rw[hd];exact iv (oz E T) hR xt fj) (by rw[eV];exact fj) fun iG g2 a2 w2 D2 ι2 U2 hk T2 S2 S7 E2 lg Dg=>hQ iG g2 a2 w2 D2 ι2 U2 hk (T.trans T2) S2 S7 E2 lg (Dg.trans (put_defers _ _ _))
   rcases Bu with h|h
   ·obtain⟨i',he,hl⟩:=hU _ h
    exact⟨i',he,getD_set_true hl⟩
   ·exact⟨i,by rw[h,By],by simp[jD]⟩
  ·rw[if_neg Gg]
   rw[if_neg Gg]at hG
   obtain⟨rfl,rfl⟩:=hG
   refine ih _ _ _ _ w D ι U MI S Us (fun s Bu=>?_) (by rw[hd];exact iv E cH.undef xt fj) (by rw[eV];exact fj) fun iG g2 a2 w2 D2 ι2 U2 hk T2 S2 S7 E2 lg Dg=>hQ iG g2 a2 w2 D2 ι2 U2 hk T2 S2 S7 E2 lg (Dg.trans (put_defers _ _ _))
   obtain⟨i',he,hl⟩:=hU _ Bu
   exact⟨i',he,getD_set_true hl⟩
end
end Go.Proofs.YtgoelphibofcmaaGreat.V

namespace Go.Proofs.YtgoelphibofcmaaGreat.V
open Go.RowKit
variable {P:Program} {w w':World} {D D' D2:Nat->Prop} {ι ι' ι2:Names}
section
variable {hs:Nat} {X:fF}
def pT (X:fF):Prop:=∀f args σ K K',(∀r σ',K r σ'->K' r σ')->X f args σ K->X f args σ K'
theorem kG:pT (Sound P):=fun _ _ _ _ _ hK h hs D ι w vs S U A=>
 (h hs D ι w vs S U A).mono fun _ _ ⟨r,g',n',D',ι',u,he,hk,rest⟩=>⟨r,g',n',D',ι',u,he,hK _ _ hk,rest⟩
def step (X:fF) (vo:bd) (N:Env->ar->Prop) (env:Env) (σ:ar):Prop:=
 if aM vo.guard env then fM X false vo env σ fun v σ'=>N (upd env vo.dst v) σ' else N (upd env vo.dst .undef) σ
theorem qh (hK:pT X) {draw:Bool} {hid:List Nat} {site f:Nat} {args:List AV} {σ:ar} {n n':AV->ar->Prop} (hn:∀v σ',n v σ'->n' v σ') (hp:cJ X draw hid site f args σ n):cJ X draw hid site f args σ n':=by
 rcases hp with⟨r,h1,h2⟩|⟨h1,h2⟩|⟨h1,sz,rows,h2,h3⟩
 ·exact .inl ⟨r,h1,hn _ _ h2⟩
 ·exact .inr (.inl ⟨h1,hK _ _ _ _ _ hn h2⟩)
 ·exact .inr (.inr ⟨h1,sz,rows,h2,hn _ _ h3⟩)
theorem Cu (hK:pT X) {draw:Bool} {o:bd} {env:Env} {σ:ar} {n n':AV->ar->Prop} (hn:∀v σ',n v σ'->n' v σ') (hp:fM X draw o env σ n):fM X draw o env σ n':=by
 unfold fM at hp ⊢
 split at hp
 ·exact qh hK hn hp
 ·split at hp
  ·exact qh hK hn hp
  ·exact qh hK hn hp
  ·exact hp.elim
 ·split at hp
  ·exact hn _ _ hp
  ·exact hp.elim
 ·split at hp
  ·exact hn _ _ hp
  ·exact hp.elim
 ·split at hp
  ·exact hn _ _ hp
  ·exact hp.elim
 ·split at hp
  ·exact hn _ _ hp
  ·exact hp.elim
 ·split at hp
  ·exact hn _ _ hp
  ·exact hp.elim
 ·split at hp
  ·exact hn _ _ hp
  ·exact hn _ _ hp
  ·exact hp.elim
theorem jT (hK:pT X) {vo:bd} {N N':Env->ar->Prop} (h:∀e s,N e s->N' e s) {env:Env} {σ:ar} (hp:step X vo N env σ):step X vo N' env σ:=by
 unfold step at hp ⊢
 split at hp
 ·rename_i hw;rw[if_pos hw];exact Cu hK (fun v σ'=>h _ _) hp
 ·rename_i hw;rw[if_neg hw];exact h _ _ hp
theorem He {env iT:Env} {vo:bd} {σ:ar} {n:AV->ar->Prop} (h:∀t∈vo.op.gH,env t=iT t) (hv:fM X false vo env σ n):fM X false vo iT σ n:=by
 unfold fM at hv ⊢
 split at hv
 ·rename_i f args ec
  rw[ec]at h
  simp only[gw.gH]at h
  rw[<-map_congr h];exact hv
 ·rename_i x args ec
  rw[ec]at h
  simp only[gw.gH,List.mem_append]at h
  rw[<-map_congr (l:=args) fun t ht=>h t (.inr ht),<-bh (x:=x) fun t ht=>h t (.inl ht)];exact hv
 ·rw[<-gV h];exact hv
 ·rw[<-gV h];exact hv
 ·rw[<-gV h];exact hv
 ·rw[<-gV h];exact hv
 ·rw[<-gV h];exact hv
 ·rw[<-s8 h];exact hv
theorem lN {x:bd} (hq:kT x=true) {N:Env->ar->Prop} {env:Env} {σ:ar}:step X x N env σ↔∃v g',GS X σ.next x env σ.get v g'/\N (upd env x.dst v) ⟨g',σ.next⟩:=by
 unfold kT at hq
 simp only[Bool.and_eq_true,Bool.not_eq_true',bne_iff_ne]at hq
 obtain⟨Ky,uj⟩:=hq
 unfold step GS
 by_cases hw:aM x.guard env=true
 ·rw[if_pos hw]
  simp only[hw,if_true]
  unfold fM
  split
  ·rename_i ec;simp[ec,gw.lS]at Ky
  ·rename_i ec;simp[ec,gw.lS]at Ky
  ·rename_i ec;simp[ec,gw.cls]at uj
  ·rename_i ec;simp[ec,gw.cls]at uj
  ·rename_i ec;simp[ec,gw.cls]at uj
  ·rename_i ec;simp[ec,gw.cls]at uj
  ·rename_i ec;simp[ec,gw.cls]at uj
  ·rename_i n1 n2 n3 n4 n5 n6 n7
   have hVS:∀v g',VS X σ.next x env σ.get v g'↔∃mr,eP x.op (cN env) (gm x.hid σ.next σ.get) ⟨x.site,σ.next⟩=some (v,mr)/\g'=jm σ.get ⟨x.site,σ.next⟩ mr:=fun v g'=>by
    unfold VS
    split
    ·rename_i hh;exact(n1 _ _ hh).elim
    ·rename_i hh;exact(n2 _ _ hh).elim
    ·rename_i hh;exact(n3 _ _ _ hh).elim
    ·rename_i hh;exact(n4 _ _ _ hh).elim
    ·rename_i hh;exact(n5 _ _ _ hh).elim
    ·rename_i hh;exact(n6 _ _ hh).elim
    ·rename_i hh;exact(n7 _ _ hh).elim
    ·exact Iff.rfl
   simp only[hVS]
   cases hz:eP x.op (cN env) (gm x.hid σ.next σ.get) ⟨x.site,σ.next⟩with
   |none=>
    exact⟨fun h=>h.elim,fun⟨v,g',⟨mr,h,_⟩,_⟩=>by cases h⟩
   |some p=>
    obtain⟨v,mr⟩:=p
    have key:∀(v':AV) (g':Rows),(∃PU,some (v,mr)=some (v',PU)/\g'=jm σ.get ⟨x.site,σ.next⟩ PU)↔v'=v/\g'=jm σ.get ⟨x.site,σ.next⟩ mr:=fun v' g'=>by
     constructor
     ·rintro⟨PU,h1,h2⟩
      injection h1 with h1;injection h1 with h1 h3
      subst h1;subst h3
      exact⟨rfl,h2⟩
     ·rintro⟨rfl,rfl⟩;exact⟨mr,rfl,rfl⟩
    have fin:(∃v' g',(∃PU,some (v,mr)=some (v',PU)/\g'=jm σ.get ⟨x.site,σ.next⟩ PU)/\N (upd env x.dst v') ⟨g',σ.next⟩)↔N (upd env x.dst v) ⟨jm σ.get ⟨x.site,σ.next⟩ mr,σ.next⟩:=by
     constructor
     ·rintro⟨v',g',h,hN⟩
      obtain⟨rfl,rfl⟩:=(key v' g').1 h
      exact hN
     ·intro hN;exact⟨v,_,(key _ _).2 ⟨rfl,rfl⟩,hN⟩
    cases mr with
    |none=>exact fin.symm
    |some r=>exact fin.symm
 ·rw[if_neg hw]
  simp only[if_neg hw]
  exact⟨fun h=>⟨_,_,⟨rfl,rfl⟩,h⟩,fun⟨v,g',⟨hv,hg⟩,h⟩=>by rw[hv,hg]at h;exact h⟩
def xv (x:bd) (env:Env) (v:AV):Prop:=if aM x.guard env then eP x.op (cN env) (fun _=>none) ⟨0,0⟩=some (v,none)else v=.undef
theorem wE {x:bd} (hp:x.op.cls=.pure):kT x=true:=by
 unfold kT
 rw[hp]
 cases hc:x.op<;>simp[hc,gw.cls]at hp<;>rfl
theorem td {x:bd} (hp:x.op.cls=.pure) {N:Env->ar->Prop} {env:Env} {σ:ar}:step X x N env σ↔∃v,xv x env v/\N (upd env x.dst v) σ:=by
 rw[lN (wE hp)]
 unfold GS xv
 by_cases hw:aM x.guard env=true
 ·simp only[hw,if_true]
  constructor
  ·rintro⟨v,g',h,hN⟩
   obtain⟨rfl,dF⟩:=zd hp h
   refine⟨v,?_,hN⟩
   unfold VS at h
   split at h
   ·rename_i ec;rw[ec]at hp;simp[gw.cls]at hp
   ·rename_i ec;rw[ec]at hp;simp[gw.cls]at hp
   ·rename_i ec;rw[ec]at hp;simp[gw.cls]at hp
   ·rename_i ec;rw[ec]at hp;simp[gw.cls]at hp
   ·rename_i ec;rw[ec]at hp;simp[gw.cls]at hp
   ·rename_i ec;rw[ec]at hp;simp[gw.cls]at hp
   ·rename_i ec;rw[ec]at hp;simp[gw.cls]at hp
   ·obtain⟨mr,hq,_⟩:=h
    have Ui:mr=none:=by
     cases mr with
     |none=>rfl
     |some r=>have:=wG hq;simp[qG,hp]at this
    subst Ui
    rw[<-wH (g:=gm x.hid σ.next σ.get) (id:=⟨x.site,σ.next⟩) hp];exact hq
  ·rintro⟨v,h,hN⟩
   exact⟨v,σ.get,Nc (mr:=none) (by rw[wH (g2:=fun _=>none) (id2:=⟨0,0⟩) hp];exact h),hN⟩
 ·simp only[if_neg hw]
  exact⟨fun⟨v,g',⟨hv,hg⟩,h⟩=>⟨v,hv,by rw[hg]at h;exact h⟩,fun⟨v,hv,h⟩=>⟨v,σ.get,⟨hv,rfl⟩,h⟩⟩
theorem Kh {x:bd} {env iT:Env} {v:AV} (h:∀t∈x.gH,env t=iT t) (hv:xv x env v):xv x iT v:=by
 unfold xv at hv ⊢
 rw[<-nr h,<-s8 fun t ht=>h t (rZ ht)];exact hv
structure Mm (x y:bd):Prop where
 xy:∀k,x.dst=some k->k∉y.gH
 yx:∀k,y.dst=some k->k∉x.gH
 dst:∀k,x.dst=some k->y.dst≠some k
theorem sa {x y:bd} (h:th x y=true):Mm x y:=by
 unfold th at h
 simp only[Bool.and_eq_true]at h
 obtain⟨a1,a2⟩:=h
 refine⟨fun k hk=>?_,fun k hk=>?_,fun k hk=>?_⟩
 ·rw[hk]at a1;simp at a1;exact a1.1
 ·rw[hk]at a2;simpa using a2
 ·rw[hk]at a1;simp at a1;exact a1.2
theorem yf {x y:bd} (h:ye x y=true):(Mm x y/\x.op.cls=.pure)∨(CK x y/\kT x=true/\kT y=true):=by
 unfold ye at h
 simp only[Bool.or_eq_true,Bool.and_eq_true,beq_iff_eq]at h
 rcases h with⟨h1,h2⟩|⟨⟨h1,h2⟩,h3⟩
 ·exact .inl ⟨sa h1,h2⟩
 ·exact .inr ⟨qo h1,h2,h3⟩
theorem Bh {x y:bd} (h:ye x y=true):kT x=true:=by
 rcases yf h with h|h
 ·exact wE h.2
 ·exact h.2.1
theorem GY (hK:pT X) {x y:bd} (hf:ye x y=true) {N:Env->ar->Prop} {env:Env} {σ:ar} (h:step X x (fun e s=>step X y N e s) env σ):step X y (fun e s=>step X x N e s) env σ:=by
 rcases yf hf with⟨F,hp⟩|⟨F,hx,hy⟩
 ·rw[td hp]at h
  obtain⟨v,hx,h⟩:=h
  have MM:=fun(v':AV)=>w7 (env:=env) (v:=v) (u:=v') F.dst
  have CF:=mH (env:=env) (v:=v) F.xy
  have back:∀(v':AV),xv x (upd env y.dst v') v:=fun v'=>Kh (fun t ht=>(mH F.yx t ht).symm) hx
  unfold step at h ⊢
  rw[nr CF]at h
  split at h
  ·rename_i hw
   rw[if_pos hw]
   refine Cu hK (fun v' σ' hN=>?_) (He (fun t ht=>CF t (rZ ht)) h)
   rw[MM]at hN
   exact(td hp).2 ⟨v,back v',hN⟩
  ·rename_i hw
   rw[if_neg hw]
   rw[MM]at h
   exact(td hp).2 ⟨v,back _,h⟩
 ·rw[lN hx]at h
  obtain⟨v,g1,h1,h⟩:=h
  rw[lN hy]at h
  obtain⟨v',g2,h2,h⟩:=h
  obtain⟨KY,q1,q2,q3⟩:=Ew F h1 h2
  rw[q3]at h
  exact(lN hy).2 ⟨v',KY,q1,(lN hx).2 ⟨v,g2,q2,h⟩⟩
def Ar (X:fF) (ops:Array Oper) (vl:List bd) (K:Env->ar->Prop):Nat->Array Bool->Env->ar->Prop
 |0,listed,env,σ=>Region.ready .any ops listed=[]/\K env ⟨σ.get,σ.next+1⟩
 |f+1,listed,env,σ=>(Region.ready .any ops listed=[]->K env ⟨σ.get,σ.next+1⟩)/\∀i∈Region.ready .any ops listed,∃vo,vl[i]? =some vo/\step X vo (fun e s=>Ar X ops vl K f (listed.setIfInBounds i true) e s) env σ
theorem C7 {ops:Array Oper} {vl:List bd} {bs:Array Nat} {listed:Array Bool} {i:Nat} (h:qn ops vl bs listed i=true) (j:Nat):qn ops vl bs (listed.setIfInBounds j true) i=true:=by
 unfold qn at h ⊢
 split at h
 ·rename_i x hx
  simp only[List.all_eq_true,Bool.or_eq_true]at h ⊢
  intro k hk
  rcases h k hk with((h|h)|h)|h
  ·exact .inl (.inl (.inl (getD_set_true h)))
  ·exact .inl (.inl (.inr h))
  ·exact .inl (.inr h)
  ·exact .inr h
 ·cases h
theorem tA {ops:Array Oper} {vl:List bd} {listed:Array Bool} {i j:Nat} {vi:bd} (sj:DC ops listed) (h:qn ops vl (jC ops) listed i=true) (hi:vl[i]? =some vi) (hr:i∈Region.ready .any ops listed) (hj:j∈Region.ready .any ops listed) (mK:j≠i):∃vj,vl[j]? =some vj/\ye vi vj=true:=by
 unfold qn at h
 rw[hi]at h
 simp only[List.all_eq_true,Bool.or_eq_true,beq_iff_eq]at h
 obtain⟨_,o,ho,_⟩:=mem_ready.1 hj
 rcases h j (List.mem_range.2 (Array.getElem?_eq_some_iff.1 ho).1)with((h|h)|h)|h
 ·rw[jf hj]at h;cases h
 ·exact absurd h mK
 ·have:=kU sj hj i h
  rw[jf hr]at this;cases this
 ·split at h
  ·rename_i y hy;exact⟨y,hy,h⟩
  ·cases h
theorem Ev (hK:pT X) {ops:Array Oper} {vl:List bd} {K:Env->ar->Prop} {i:Nat} {vi:bd} (hi:vl[i]? =some vi):∀(fuel:Nat) (listed:Array Bool) (env:Env) (σ:ar),
  DC ops listed->i∈Region.ready .any ops listed->qn ops vl (jC ops) listed i=true->step X vi (fun e s=>Ar X ops vl K fuel (listed.setIfInBounds i true) e s) env σ->Ar X ops vl K (fuel+1) listed env σ:=by
 intro fuel
 induction fuel with
 |zero=>
  intro listed env σ sj hr jB H
  refine⟨fun h=>(by rw[h]at hr;cases hr),fun j hj=>?_⟩
  by_cases mK:j=i
  ·subst mK;exact⟨vi,hi,H⟩
  ·obtain⟨vj,Lp,QD⟩:=tA sj jB hi hr hj mK
   rw[lN (Bh QD)]at H
   obtain⟨v,g',_,H⟩:=H
   have:=ready_mono hj mK
   rw[H.1]at this;cases this
 |succ fuel ih=>
  intro listed env σ sj hr jB H
  refine⟨fun h=>(by rw[h]at hr;cases hr),fun j hj=>?_⟩
  by_cases mK:j=i
  ·subst mK;exact⟨vi,hi,H⟩
  ·obtain⟨vj,Lp,QD⟩:=tA sj jB hi hr hj mK
   refine⟨vj,Lp,?_⟩
   have H2:step X vi (fun e s=>step X vj (fun e s=>Ar X ops vl K fuel ((listed.setIfInBounds i true).setIfInBounds j true) e s) e s) env σ:=jT hK (fun e s h=>by
    obtain⟨vj',zG,h'⟩:=h.2 j (ready_mono hj mK)
    rw[Lp]at zG;injection zG with zG;subst zG
    exact h') H
   refine jT hK (fun e s h=>?_) (GY hK QD H2)
   refine ih _ _ _ (sj.list hj) (ready_mono hr (fun e=>mK e.symm)) (C7 jB j) ?_
   rw[Array.setIfInBounds_comm _ _ mK]
   exact h
theorem tb {x:bd} (hg:x.guard=none) {N:Env->ar->Prop} {env:Env} {σ:ar}:step X x N env σ=fM X false x env σ (fun v σ'=>N (upd env x.dst v) σ'):=by
 unfold step
 rw[hg]
 simp[aM]
theorem Ed {x y:bd} {t s sz:Nat} {ys:O} (hx:x.op=.append sz (.t t) ys) (hg:x.guard=none) (hf:EP s x y=true) {N:Env->ar->Prop} {env:Env} {σ:ar} (hl:LC t s ys env σ.next) (h:step X x (fun e s=>step X y N e s) env σ):
  step X y (fun e σ'=>LC t s ys e σ'.next/\step X x N e σ') env σ:=by
 unfold EP at hf
 simp only[Bool.and_eq_true,bne_iff_ne]at hf
 obtain⟨⟨⟨⟨⟨f1,hq⟩,f3⟩,f4⟩,f5⟩,f6⟩:=hf
 have F:=sa f1
 obtain⟨⟨len,ht⟩,hsrc⟩:=hl
 have IM:∀k∈x.op.gH,∀v',upd env y.dst v' k=env k:=fun k hk v'=>mH (env:=env) (v:=v') F.yx k (rZ hk)
 have dE:t∈x.op.gH:=by rw[hx];simp[gw.gH,gS]
 have Fb:∀v',cN (upd env y.dst v') ys=cN env ys:=fun v'=>(bh fun k hk=>by rw[IM k (by rw[hx];simp[gw.gH,hk])]).symm
 rw[tb hg]at h
 unfold fM at h
 simp only[hx,gp]at h
 have ex:cN env (.t t)=.own ⟨s,σ.next⟩ 0 len:=ht
 rw[ex]at h
 cases hr:bx σ.get (cN env ys)with
 |none=>rw[hr]at h;exact h.elim
 |some rs=>
  rw[hr]at h
  simp only[Option.bind_some,aY]at h
  cases Iy:σ.get ⟨s,σ.next⟩with
  |none=>rw[Iy]at h;exact h.elim
  |some r=>
   rw[Iy]at h
   simp only[Option.bind_some]at h
   split at h
   ·rename_i v g1 hv
    split at hv
    ·rename_i hcond
     simp only[Option.some.injEq,Prod.mk.injEq]at hv
     obtain⟨rfl,rfl⟩:=hv
     rw[lN hq]at h
     obtain⟨v',g2,hG,hN⟩:=h
     have Lf:(⟨y.site,σ.next⟩:Id)≠⟨s,σ.next⟩:=fun e=>f5 (by injection e)
     have IC:(⟨y.site,σ.next⟩:Id)≠⟨x.site,σ.next⟩:=fun e=>f6 (by injection e)
     replace hG:GS X σ.next y env (bz (cu σ.get ⟨s,σ.next⟩) ⟨x.site,σ.next⟩ ⟨true,sz,r.rows++rs⟩) v' g2:=uR (mH F.xy) hG
     have UJ:gm y.hid σ.next σ.get=gm y.hid σ.next (bz (cu σ.get ⟨s,σ.next⟩) ⟨x.site,σ.next⟩ ⟨true,sz,r.rows++rs⟩):=by
      cases hh:y.hid with
      |nil=>rw[hh]at f3;simp at f3
      |cons a l=>
       rw[hh]at f3 f4
       funext i
       show(if (a::l).contains i.site=true/\i.bP=σ.next then none else σ.get i)=if (a::l).contains i.site=true/\i.bP=σ.next then none else _
       by_cases h1:i=⟨x.site,σ.next⟩
       ·subst h1;rw[if_pos ⟨f4,rfl⟩,if_pos ⟨f4,rfl⟩]
       ·by_cases h2:i=⟨s,σ.next⟩
        ·subst h2;rw[if_pos ⟨f3,rfl⟩,if_pos ⟨f3,rfl⟩]
        ·simp only[bz,cu,if_neg h1,if_neg h2]
     obtain⟨my,QF,hG'⟩:∃my,g2=jm (bz (cu σ.get ⟨s,σ.next⟩) ⟨x.site,σ.next⟩ ⟨true,sz,r.rows++rs⟩) ⟨y.site,σ.next⟩ my/\GS X σ.next y env σ.get v' (jm σ.get ⟨y.site,σ.next⟩ my):=by
      unfold GS at hG ⊢
      by_cases wy:aM y.guard env=true
      ·rw[if_pos wy]at hG
       have hcw:y.op.cls≠.write:=by
        unfold kT at hq
        simp only[Bool.and_eq_true,bne_iff_ne]at hq
        exact hq.2
       obtain⟨my,rfl,_,Ng⟩:=uY hcw hG
       exact⟨my,rfl,by rw[if_pos wy];exact Ng _ UJ⟩
      ·rw[if_neg wy]at hG
       obtain⟨rfl,rfl⟩:=hG
       exact⟨none,rfl,by rw[if_neg wy];exact⟨rfl,rfl⟩⟩
     subst QF
     refine(lN hq).2 ⟨v',_,hG',⟨⟨len,by rw[IM t dE];exact ht⟩,fun id o l he=>hsrc id o l (by rw[<-Fb v'];exact he)⟩,?_⟩
     rw[tb hg]
     unfold fM
     have ex':cN (upd env y.dst v') (.t t)=.own ⟨s,σ.next⟩ 0 len:=by
      show upd env y.dst v' t= _
      rw[IM t dE];exact ht
     simp only[hx,gp,ex',Fb v']
     have nT:bx (jm σ.get ⟨y.site,σ.next⟩ my) (cN env ys)=some rs:=by
      cases my with
      |none=>exact hr
      |some row=>
       revert hr
       cases hev:cN env ys<;>simp only[bx,jm]<;>try exact fun h=>h
       rename_i id o l
       have:id≠⟨y.site,σ.next⟩:=fun e=>hsrc id o l hev (by rw[e])
       simp only[bz,if_neg this];exact fun h=>h
     have T7:jm σ.get ⟨y.site,σ.next⟩ my ⟨s,σ.next⟩=some r:=by
      cases my with
      |none=>exact Iy
      |some row=>simp only[jm,bz,if_neg (fun e=>Lf e.symm:(⟨s,σ.next⟩:Id)≠⟨y.site,σ.next⟩)];exact Iy
     rw[nT]
     simp only[Option.bind_some,aY,T7]
     rw[if_pos hcond]
     have hgg:bz (cu (jm σ.get ⟨y.site,σ.next⟩ my) ⟨s,σ.next⟩) ⟨x.site,σ.next⟩ ⟨true,sz,r.rows++rs⟩=jm (bz (cu σ.get ⟨s,σ.next⟩) ⟨x.site,σ.next⟩ ⟨true,sz,r.rows++rs⟩) ⟨y.site,σ.next⟩ my:=by
      cases my with
      |none=>rfl
      |some row=>
       funext i
       simp only[jm,bz,cu]
       by_cases h1:i=⟨y.site,σ.next⟩
       ·subst h1;rw[if_neg IC,if_neg Lf,if_pos rfl,if_pos rfl]
       ·simp only[if_neg h1]
     have hu:=w7 (env:=env) (v:=AV.own ⟨x.site,σ.next⟩ 0 (len+rs.length)) (u:=v') F.dst
     show N (upd (upd env y.dst v') x.dst (.own ⟨x.site,σ.next⟩ 0 (len+rs.length))) ⟨bz (cu (jm σ.get ⟨y.site,σ.next⟩ my) ⟨s,σ.next⟩) ⟨x.site,σ.next⟩ ⟨true,sz,r.rows++rs⟩,σ.next⟩
     rw[hgg,<-hu]
     exact hN
    ·cases hv
   ·exact h.elim
theorem C6 {ops:Array Oper} {vl:List bd} {bs:Array Nat} {listed:Array Bool} {i s:Nat} (h:oE ops vl bs listed i s=true) (j:Nat):oE ops vl bs (listed.setIfInBounds j true) i s=true:=by
 unfold oE at h ⊢
 split at h
 ·rename_i x hx
  simp only[List.all_eq_true,Bool.or_eq_true]at h ⊢
  intro k hk
  rcases h k hk with((h|h)|h)|h
  ·exact .inl (.inl (.inl (getD_set_true h)))
  ·exact .inl (.inl (.inr h))
  ·exact .inl (.inr h)
  ·exact .inr h
 ·cases h
theorem Be {ops:Array Oper} {vl:List bd} {listed:Array Bool} {i j s:Nat} {vi:bd} (sj:DC ops listed) (h:oE ops vl (jC ops) listed i s=true) (hi:vl[i]? =some vi) (hr:i∈Region.ready .any ops listed) (hj:j∈Region.ready .any ops listed) (mK:j≠i):∃vj,vl[j]? =some vj/\EP s vi vj=true:=by
 unfold oE at h
 rw[hi]at h
 simp only[List.all_eq_true,Bool.or_eq_true,beq_iff_eq]at h
 obtain⟨_,o,ho,_⟩:=mem_ready.1 hj
 rcases h j (List.mem_range.2 (Array.getElem?_eq_some_iff.1 ho).1)with((h|h)|h)|h
 ·rw[jf hj]at h;cases h
 ·exact absurd h mK
 ·have:=kU sj hj i h
  rw[jf hr]at this;cases this
 ·split at h
  ·rename_i y hy;exact⟨y,hy,h⟩
  ·cases h
theorem Cv (hK:pT X) {ops:Array Oper} {vl:List bd} {K:Env->ar->Prop} {i t s sz:Nat} {ys:O} {vi:bd} (hi:vl[i]? =some vi) (hx:vi.op=.append sz (.t t) ys) (hg:vi.guard=none):∀(fuel:Nat) (listed:Array Bool) (env:Env) (σ:ar),
  DC ops listed->i∈Region.ready .any ops listed->oE ops vl (jC ops) listed i s=true->LC t s ys env σ.next->step X vi (fun e s=>Ar X ops vl K fuel (listed.setIfInBounds i true) e s) env σ->Ar X ops vl K (fuel+1) listed env σ:=by
 intro fuel
 induction fuel with
 |zero=>
  intro listed env σ sj hr jB PD H
  refine⟨fun h=>(by rw[h]at hr;cases hr),fun j hj=>?_⟩
  by_cases mK:j=i
  ·subst mK;exact⟨vi,hi,H⟩
  ·exfalso
   have h0:=ready_mono hj mK
   rw[tb hg]at H
   unfold fM at H
   simp only[hx]at H
   split at H
   ·rw[H.1]at h0;cases h0
   ·exact H
 |succ fuel ih=>
  intro listed env σ sj hr jB PD H
  refine⟨fun h=>(by rw[h]at hr;cases hr),fun j hj=>?_⟩
  by_cases mK:j=i
  ·subst mK;exact⟨vi,hi,H⟩
  ·obtain⟨vj,Lp,QD⟩:=Be sj jB hi hr hj mK
   refine⟨vj,Lp,?_⟩
   have H2:step X vi (fun e s=>step X vj (fun e s=>Ar X ops vl K fuel ((listed.setIfInBounds i true).setIfInBounds j true) e s) e s) env σ:=jT hK (fun e s h=>by
    obtain⟨vj',zG,h'⟩:=h.2 j (ready_mono hj mK)
    rw[Lp]at zG;injection zG with zG;subst zG
    exact h') H
   refine jT hK (fun e s h=>?_) (Ed hx hg QD PD H2)
   refine ih _ _ _ (sj.list hj) (ready_mono hr (fun e=>mK e.symm)) (C6 jB j) h.1 ?_
   rw[Array.setIfInBounds_comm _ _ mK]
   exact h.2
theorem I9 {ops:Array Oper} {vl:List bd} {bs:Array Nat} {listed:Array Bool} {i i' t s:Nat} {y:O} {vo:bd} (h:Oy ops vl bs listed i=some (i',t,s,y,vo)):i'=i/\vl[i]? =some vo/\(∃sz,vo.op=.append sz (.t t) y)/\vo.guard=none/\oE ops vl bs listed i s=true:=by
 unfold Oy at h
 split at h
 ·rename_i x hx
  split at h
  ·rename_i t' s' y' kh
   split at h
   ·rename_i hf
    simp only[Option.some.injEq,Prod.mk.injEq]at h
    obtain⟨rfl,rfl,rfl,rfl,rfl⟩:=h
    unfold MS at kh
    split at kh
    ·rename_i sz t2 y2 ho uE
     split at kh
     ·simp only[Option.some.injEq,Prod.mk.injEq]at kh
      obtain⟨rfl,rfl,rfl⟩:=kh
      exact⟨rfl,hx,⟨sz,ho⟩,uE,hf⟩
     ·cases kh
    ·cases kh
   ·cases h
  ·cases h
 ·cases h
theorem xV {X:fF} {Q:Ex->Env->ar->Prop} {env:Env} {σ:ar}:∀{l:List VC} {t:VC},AU l=some t->dI X t Q env σ->∀c∈l,dI X c Q env σ
 |[],t,h,_,c,hc=>by cases hc
 |[c0],t,h,hw,c,hc=>by
  simp only[AU,Option.some.injEq]at h
  subst h
  rw[List.mem_singleton]at hc
  subst hc;exact hw
 |c0::c1::r,t,h,hw,c,hc=>by
  simp only[AU,Option.map_eq_some_iff]at h
  obtain⟨t',Ho,rfl⟩:=h
  rcases List.mem_cons.1 hc with rfl|hc
  ·exact hw.1
  ·exact xV Ho hw.2 c hc
theorem mapM_mem {α β:Type} {f:α->Option β}:∀{l:List α} {r:List β},l.mapM f=some r->∀i∈l,∃b∈r,f i=some b
 |[],_,_,i,hi=>by cases hi
 |a::l,r,h,i,hi=>by
  simp only[List.mapM_cons,Option.bind_eq_bind,Option.bind_eq_some_iff,Option.pure_def,Option.some.injEq]at h
  obtain⟨b,hb,r',hr,rfl⟩:=h
  rcases List.mem_cons.1 hi with rfl|hi
  ·exact⟨b,by simp,hb⟩
  ·obtain⟨c,hc,hf⟩:=mapM_mem hr i hi
   exact⟨c,List.mem_cons_of_mem _ hc,hf⟩
theorem Hb (hK:pT X) {ops:Array Oper} {vl:List bd} {Q:Ex->Env->ar->Prop}:∀(n:Nat) (listed:Array Bool) (t:VC) (env:Env) (σ:ar),w5 ops vl (jC ops) n listed=some t->DC ops listed->dI X t Q env σ->Ar X ops vl (Q .normal) n listed env σ:=by
 intro n
 induction n with
 |zero=>
  intro listed t env σ h _ hw
  unfold w5 at h
  split at h
  ·rename_i hr
   simp only[Option.some.injEq]at h
   subst h
   exact⟨hr,hw⟩
  ·cases h
 |succ n ih=>
  intro listed t env σ h sj hw
  unfold w5 at h
  split at h
  ·rename_i hr
   simp only[Option.some.injEq]at h
   subst h
   exact⟨fun _=>hw,fun i hi=>by rw[hr]at hi;cases hi⟩
  ·rename_i r rs hr
   dsimp only at h
   split at h
   ·rename_i i hfind
    have K7:=List.mem_of_find?_eq_some hfind
    have yg:=List.find?_some hfind
    rw[<-hr]at K7
    split at h
    ·rename_i vo pP
     simp only[Option.map_eq_some_iff]at h
     obtain⟨t',Ho,rfl⟩:=h
     exact Ev hK pP n listed env σ sj K7 yg (jT hK (fun e s h=>ih _ _ _ _ Ho (sj.list K7) h) hw)
    ·cases h
   ·split at h
    ·rename_i i t s y vo hfind
     obtain⟨i0,Hk,dQ⟩:=List.exists_of_findSome?_eq_some hfind
     obtain⟨rfl,pP,⟨sz,ec⟩,uE,K5⟩:=I9 dQ
     rw[<-hr]at Hk
     simp only[Option.map_eq_some_iff]at h
     obtain⟨t',Ho,rfl⟩:=h
     exact Cv hK pP ec uE n listed env σ sj Hk K5 hw.1 (jT hK (fun e s h=>ih _ _ _ _ Ho (sj.list Hk) h) hw.2)
    split at h
    ·rename_i l hl
     have dF:=xV h hw
     refine⟨fun h=>(by rw[h]at hr;cases hr),fun i hi=>?_⟩
     rw[hr]at hi
     obtain⟨b,Ko,F5⟩:=mapM_mem hl i hi
     simp only[Option.bind_eq_some_iff,Option.map_eq_some_iff]at F5
     obtain⟨vo,pP,t',Ho,rfl⟩:=F5
     exact⟨vo,pP,jT hK (fun e s h=>ih _ _ _ _ Ho (sj.list (by rw[hr];exact hi)) h) (dF _ Ko)⟩
    ·cases h
theorem Er {ops:Array Oper} {vl:List bd} {nt site0:Nat} {draw mk:Bool} {bs:Array Nat} {hidden:List (Nat×Bool)} {K:Env->ar->Prop} {Q:Exit->Act->World->Prop} (dF:allM (kH P ops nt site0 draw mk bs hidden) ops.toList 0=some vl):
  ∀(fuel:Nat) (listed:Array Bool) (env:Env) (σ:ar) (a:Act) (w:World) (D:Nat->Prop) (ι:Names) (U:Nat->Prop),Ar (Sound P) ops vl K fuel listed env σ->gr P hs D ι σ.get w->Used ι σ.next U->(∀s,U s->∃i,s=site0+i/\listed.getD i false=true)->cm P w D ι env a->a.tmps.size=nt->
  (∀iG σ' a' w' D' ι',K iG σ'->Step hs D ι w D' ι' w'->St P hs nt D' ι' iG σ' a' w'->a'.defers=a.defers->σ.next<=σ'.next->Q .normal a' w')->wpAny P .any ops Q fuel listed a w:=by
 intro fuel
 induction fuel with
 |zero=>intro listed env σ a w D ι U h S Us hU E fj hQ;exact⟨h.1,hQ env _ a w D ι h.2 (Step.refl _ _ _ _) ⟨S,Us.next,E,fj⟩ rfl (Nat.le_succ _)⟩
 |succ fuel ih=>
  intro listed env σ a w D ι U h S Us hU E fj hQ
  refine⟨fun hr=>hQ env _ a w D ι (h.1 hr) (Step.refl _ _ _ _) ⟨S,Us.next,E,fj⟩ rfl (Nat.le_succ _),fun i hi=>?_⟩
  obtain⟨vo,pP,hG⟩:=h.2 i hi
  obtain⟨_,o,ho,_⟩:=mem_ready.1 hi
  obtain⟨vo',ml,Qu⟩:=(oq dF).2 i o (by simpa using ho)
  rw[pP]at ml;injection ml with ml;subst ml
  rw[Nat.zero_add]at Qu
  obtain⟨hc,hd,By,xt,hg⟩:=pe Qu
  have hw:=tk (ops:=ops) (vo:=vo) E hg
  have TG:¬U vo.site:=fun hu=>by
   obtain⟨i',he,hl⟩:=hU _ hu
   have:i'=i:=by omega
   subst this
   rw[jf hi]at hl;cases hl
  have jD:i<listed.size:=by
   have h0:=(mem_ready.1 hi).1
   rcases Nat.lt_or_ge i listed.size with h|h
   ·exact h
   ·simp[Array.getElem?_eq_none h]at h0
  unfold wpOp
  simp only[ho]
  rw[<-hw]
  unfold step at hG
  by_cases Gg:aM vo.guard env=true
  ·rw[if_pos Gg]
   rw[if_pos Gg]at hG
   refine .inl (y4 hc hG S Us TG E fun v σ' u D' ι' w' hn T S' hR U' hle=>?_)
   refine ih _ _ _ _ w' D' ι' _ hn S' U' (fun s Bu=>?_) (by rw[hd];exact iv (oz E T) hR xt fj) (by rw[eV];exact fj) fun iG σ2 a2 w2 D2 ι2 hk T2 Oi Dg mV=>hQ iG σ2 a2 w2 D2 ι2 hk (T.trans T2) Oi (Dg.trans (put_defers _ _ _)) (Nat.le_trans hle mV)
   rcases Bu with h|h
   ·obtain⟨i',he,hl⟩:=hU _ h
    exact⟨i',he,getD_set_true hl⟩
   ·exact⟨i,by rw[h,By],by simp[jD]⟩
  ·rw[if_neg Gg]
   rw[if_neg Gg]at hG
   refine ih _ _ _ _ w D ι U hG S Us (fun s Bu=>?_) (by rw[hd];exact iv E cH.undef xt fj) (by rw[eV];exact fj) fun iG σ2 a2 w2 D2 ι2 hk T2 Oi Dg mV=>hQ iG σ2 a2 w2 D2 ι2 hk T2 Oi (Dg.trans (put_defers _ _ _)) mV
   obtain⟨i',he,hl⟩:=hU _ Bu
   exact⟨i',he,getD_set_true hl⟩
end
end Go.Proofs.YtgoelphibofcmaaGreat.V

namespace Go.Proofs.YtgoelphibofcmaaGreat.V
open Go.RowKit
variable {P:Program} {w w':World} {D D' D2:Nat->Prop} {ι ι' ι2:Names}
def Ax (P:Program) (c:Code) (Q:Exit->Act->World->Prop) (a:Act) (w:World):Prop:=
 ∀(b:Frame) (k:List Item) (cs:List Frame),b.kind≠.early->∃e a' w',Q e a' w'/\Arrives P (lone (b.at a (.code c::k)) cs w) b k cs e a' w'
section
variable {Q:Exit->Act->World->Prop} {a:Act}
theorem km {c:Code} (h:c.wp P Q a w):Ax P c Q a w:=fun b k cs _=>h b k cs
theorem lL {x y:Code} (h:Ax P x (Exit.then (Ax P y Q) Q) a w):Ax P (.seq x y) Q a w:=by
 intro b k cs hb
 obtain⟨e,a1,w1,hq,jN⟩:=h b (.code y::k) cs hb
 by_cases he:e=.normal
 ·subst he
  obtain⟨e2,a2,w2,uj,Im⟩:=hq b k cs hb
  exact⟨e2,a2,w2,uj,.of_steps (.head step_seq jN) Im⟩
 ·refine⟨e,a1,w1,?_,.of_steps (.one step_seq) (.pass (x:=.code y) rfl (fun _ _=>.inl he) jN)⟩
  cases e<;>first|exact absurd rfl he|exact hq
theorem wq {c:Operand} {x y:Code} {t:Bool} (hc:a.eval c=.bool t) (h:Ax P (if t then x else y) Q a w):Ax P (.cond c x y) Q a w:=
 fun b k cs hb=>let ⟨e,a',w',q,r⟩:=h b k cs hb;⟨e,a',w',q,.of_steps (.one (step_cond hc)) r⟩
theorem s4 {id:Nat} {c:Code} (h:Ax P c (Exit.inBlock id Q) a w):Ax P (.block id c) Q a w:=by
 intro b k cs hb
 obtain⟨e,a1,w1,hq,jN⟩:=h b (.inBlock id::k) cs hb
 cases e with
 |normal=>exact⟨.normal,a1,w1,hq,.head step_block (Steps.trans jN (.one step_inBlock))⟩
 |exit jW=>
  by_cases hid:jW=id
  ·simp only[Exit.inBlock,hid,if_true]at hq
   exact⟨.normal,a1,w1,hq,.head step_block (jN k (by simp[exitTo,hid]))⟩
  ·simp only[Exit.inBlock,hid,if_false]at hq
   exact⟨.exit jW,a1,w1,hq,fun k' hk=>.head step_block (jN k' (by simp[exitTo,Ne.symm hid,hk]))⟩
 |goto l=>exact⟨_,a1,w1,hq,fun k' hk=>.head step_block (jN k' (by simp[gotoIn,hk]))⟩
 |ret=>exact⟨_,a1,w1,hq,.of_steps (.one step_block) jN⟩
 |panic ch=>exact⟨_,a1,w1,hq,.of_steps (.one step_block) jN⟩
 |outgrown=>exact⟨_,a1,w1,hq,.of_steps (b:=b) (k:=k) (cs:=cs) (e:=.outgrown) (.one step_block) jN⟩
def pk (P:Program) (c:Code) (Q:Exit->Act->World->Prop):Nat->Act->World->Prop
 |0=>fun _ _=>False
 |n+1=>Ax P c (Exit.then (pk P c Q n) Q)
theorem B8 {c:Code} (n:Nat) (h:pk P c Q n a w):Ax P (.loop c) Q a w:=by
 intro b k cs hb
 have key:∀n a w,pk P c Q n a w->∃e a' w',Q e a' w'/\Arrives P (lone (b.at a (.code c::.inLoop c::k)) cs w) b k cs e a' w':=by
  intro n
  induction n with
  |zero=>intro a w h;exact h.elim
  |succ n ih=>
   intro a w h
   obtain⟨e,a1,w1,hq,jN⟩:=h b (.inLoop c::k) cs hb
   by_cases he:e=.normal
   ·subst he
    obtain⟨e2,a2,w2,uj,Im⟩:=ih a1 w1 hq
    exact⟨e2,a2,w2,uj,.of_steps (Steps.trans jN (.one step_inLoop)) Im⟩
   ·refine⟨e,a1,w1,?_,.pass (x:=.inLoop c) rfl (fun _ _=>.inl he) jN⟩
    cases e<;>first|exact absurd rfl he|exact hq
 obtain⟨e,a',w',hq,jN⟩:=key n a w h
 exact⟨e,a',w',hq,.of_steps (.one step_loop) jN⟩
theorem zk {f:FuncId} {fn:Func} {c:Code} {args:Array Value} {R:Ending->World->Prop} (hf:P.funcs[f]? =some fn) (hb:fn.body=some c)
  (h:Ax P c (bodyPost P fn R) {tmps:=args++Array.replicate (fn.ntmps-args.size) undef,defers:=[]} w):Calls P f args w R:=by
 intro cs
 have NW:Frame.enter P f args .normal=({(default:Frame)with fn:=f,kind:=.normal}:Frame).at {tmps:=args++Array.replicate (fn.ntmps-args.size) undef,defers:=[]} [.code c]:=by simp[Frame.enter,Frame.at,hf,hb]
 obtain⟨e,a',w',hq,jN⟩:=h {(default:Frame)with fn:=f,kind:=.normal} [] cs (by simp)
 rw[<-NW]at jN
 cases e with
 |normal=>obtain⟨hd,v,hr,hR⟩:=hq;exact⟨.returned v,w',_,hR,Steps.trans jN (.one step_end),rfl,rfl,hd,rfl,fn,hf,hr⟩
 |ret=>obtain⟨hd,v,hr,hR⟩:=hq;obtain⟨todo,hs⟩:=jN;exact⟨.returned v,w',_,hR,hs,rfl,rfl,hd,rfl,fn,hf,hr⟩
 |panic chain=>obtain⟨hd,hR⟩:=hq;obtain⟨todo,hs⟩:=jN;exact⟨.panicked chain,w',_,hR,hs,rfl,rfl,hd,fn,hf⟩
 |exit id=>exact hq.elim
 |goto l=>exact hq.elim
 |outgrown=>exact⟨.outgrown,w',{(default:Frame)with fn:=f,kind:=.normal},hq,jN.resolve_left (by simp),rfl,trivial⟩
def xi (P:Program) (ops:Array Oper) (Q:Exit->Act->World->Prop) (l:List Nat) (a:Act) (w:World):Prop:=
 ∀(b:Frame) (k:List Item) (cs:List Frame),b.kind≠.early->∃e a' w',Q e a' w'/\Arrives P (lone (b.at a (.inRegion ops l::k)) cs w) b k cs e a' w'
theorem DM {id:Nat} {ops:Array Oper} (h:xi P ops Q (List.range ops.size) a w):Ax P (.region id ops false) Q a w:=
 fun b k cs hb=>let ⟨e,a',w',q,r⟩:=h b k cs hb;⟨e,a',w',q,.of_steps (.one step_region) r⟩
theorem OF {ops:Array Oper} (h:Q .normal a w):xi P ops Q [] a w:=fun _ _ _ _=>⟨.normal,a,w,h,.one step_region_end⟩
theorem pa {o:Oper} {ys:Nat->Option Bool} (h:o.guard=none):Region.wanted o ys=true:=by simp[Region.wanted,h]
theorem Jq {ops:Array Oper} {i:Nat} {rest:List Nat} {o:Oper} {v:Value} (ho:ops[i]? =some o) (hg:o.guard=none) (hr:(execOp a.eval o).run P w=.ok (.value v) w') (h:xi P ops Q rest (a.put o.dst v) w'):xi P ops Q (i::rest) a w:=by
 intro b k cs hb
 obtain⟨e,a',w2,hq,jN⟩:=h b k cs hb
 refine⟨e,a',w2,hq,.of_steps (.one ?_) jN⟩
 have sM:(b.at a (.inRegion ops (i::rest)::k)).finish v=b.at (a.put o.dst v) (.inRegion ops rest::k):=by rw[Frame.finish_at,ho];rfl
 rw[<-sM]
 refine step_lone_go ?_
 have h2:=stepG_op (P:=P) (b:=b) (k:=k) (cs:=cs) (w:=w) (rest:=rest) ho (pa hg (ys:=yielded ops a.tmps))
 rw[h2];simp[stepG.apply,hr]
theorem LS {ops:Array Oper} {i:Nat} {rest:List Nat} {o:Oper} {v z:Value} {c cap s r:Nat} {buf:Array Value} (ho:ops[i]? =some o) (hg:o.guard=none) (hr:(execOp a.eval o).run P w=.ok (.comm #[Conc.scase c v z] true .send) w)
  (hc:w.heap[c]? =some (.chan cap buf false s r false)) (fS:buf.size<cap) (h:xi P ops Q rest (a.put o.dst undef) (w.setChan c cap (buf.push v) false (s+1) r false)):xi P ops Q (i::rest) a w:=by
 intro b k cs hb
 obtain⟨e,a',w2,hq,jN⟩:=h b k cs hb
 refine⟨e,a',w2,hq,.of_steps (.one ?_) jN⟩
 have sM:(b.at a (.inRegion ops (i::rest)::k)).finish undef=b.at (a.put o.dst undef) (.inRegion ops rest::k):=by rw[Frame.finish_at,ho];rfl
 rw[<-sM,Conc.lone_eq_solo,Conc.lone_eq_solo]
 exact Conc.step_lone_send_room (Conc.stepG_comm ho (pa hg) hb hr) hc fS
theorem LR {ops:Array Oper} {i:Nat} {rest:List Nat} {o:Oper} {z:Value} {c cap s r:Nat} {buf:Array Value} (ho:ops[i]? =some o) (hg:o.guard=none) (hr:(execOp a.eval o).run P w=.ok (.comm #[Conc.rcase c z] true (.recv false)) w)
  (hc:w.heap[c]? =some (.chan cap buf false s r false)) (IP:0<buf.size) (h:xi P ops Q rest (a.put o.dst (buf.getD 0 undef)) (w.setChan c cap (buf.extract 1 buf.size) false s (r+1) false)):xi P ops Q (i::rest) a w:=by
 intro b k cs hb
 obtain⟨e,a',w2,hq,jN⟩:=h b k cs hb
 refine⟨e,a',w2,hq,.of_steps (.one ?_) jN⟩
 have sM:(b.at a (.inRegion ops (i::rest)::k)).finish (buf.getD 0 undef)=b.at (a.put o.dst (buf.getD 0 undef)) (.inRegion ops rest::k):=by rw[Frame.finish_at,ho];rfl
 rw[<-sM,Conc.lone_eq_solo,Conc.lone_eq_solo]
 exact Conc.step_lone_recv_buf false (Conc.stepG_comm ho (pa hg) hb hr) hc IP
end
section
variable {hs:Nat} {g:Rows} {env:Env} {a:Act} {o:Oper}
theorem Lv {x y:O} (hc:qN P o.op=some (.snd x y)):∃x' y',o.op=.send x' y'/\cO P x'=some x/\cO P y'=some y:=by
 unfold qN at hc
 split at hc
 case h_25=>
  rename_i x' y' h
  simp only[Option.bind_eq_bind,Option.bind_eq_some_iff,Option.pure_def,Option.some.injEq,gw.snd.injEq]at hc
  obtain⟨p,h1,q,h2,rfl,rfl⟩:=hc
  exact⟨_,_,h,h1,h2⟩
 all_goals (try unfold nz at hc)<;>(try unfold vd at hc)<;>(try unfold sC at hc)<;>(repeat' (split at hc))<;>(simp only[Option.bind_eq_bind,Option.bind_eq_some_iff,Option.pure_def,Option.some.injEq,Option.map_eq_some_iff,reduceCtorEq,and_false,exists_false]at hc)
theorem Lu {x:O} (hc:qN P o.op=some (.OJ x)):∃t dir e i z x',o.op=.recv t x' false/\P.underlying t=some (.chan dir e)/\P.info? e=some i/\i.zero=some z/\cO P x'=some x:=by
 unfold qN at hc
 split at hc
 case h_26=>
  rename_i t x' h
  split at hc
  ·rename_i dir e ht
   split at hc
   ·rename_i z hz
    simp only[Option.bind_eq_some_iff]at hz
    obtain⟨i,hi,hz⟩:=hz
    simp only[Option.map_eq_some_iff,gw.OJ.injEq]at hc
    obtain⟨p,h1,rfl⟩:=hc
    exact⟨t,dir,e,i,z,x',h,ht,hi,hz,h1⟩
   ·cases hc
  ·cases hc
 all_goals (try unfold nz at hc)<;>(try unfold vd at hc)<;>(try unfold sC at hc)<;>(repeat' (split at hc))<;>(simp only[Option.bind_eq_bind,Option.bind_eq_some_iff,Option.pure_def,Option.some.injEq,Option.map_eq_some_iff,reduceCtorEq,and_false,exists_false]at hc)
theorem P9 {x y:O} {g':Rows} (S:gr P hs D ι g w) (hc:qN P o.op=some (.snd x y)) (E:cm P w D ι env a) (hv:er g (cN env x) (cN env y)=some g'):
  ∃c cap s r buf u,(execOp a.eval o).run P w=.ok (.comm #[Conc.scase c u (.tuple #[])] true .send) w/\w.heap[c]? =some (.chan cap buf false s r false)/\buf.size<cap/\gr P hs D ι g' (w.setChan c cap (buf.push u) false (s+1) r false)/\Step hs D ι w D ι (w.setChan c cap (buf.push u) false (s+1) r false):=by
 obtain⟨x',y',ho,hx,hy⟩:=Lv hc
 have rx:=dj E hx
 have ry:=dj E hy
 unfold er at hv
 split at hv
 ·rename_i i he
  simp only[Option.bind_eq_some_iff]at hv
  obtain⟨r,hg,hv⟩:=hv
  split at hv
  ·rename_i hcond
   simp only[Option.some.injEq]at hv
   subst hv
   obtain⟨B,c,hu,hB,hk,fj,buf,s,q,hb,Kp,hR⟩:=zl S rx he hg
   obtain⟨B',dz,RR,_⟩:=S.row i r hg
   rw[hB]at dz;injection dz with dz;subst dz
   have nP:=S.Hc (ob:=.chan c (buf.push (a.eval y')) false (s+1) q false) (r':={r with rows:=r.rows++[[cN env y]]}) hg hcond.1 hB fun hr ki=>⟨RR.sz,fun cs dt=>?_,fun h0=>(by rw[hk]at h0;cases h0),fun m hm=>(by rw[hk]at hm;cases hm),fun c' kM=>?_⟩
   ·exact⟨B.b,c,s,q,buf,a.eval y',by simp[execOp,ho,hu,Conc.scase],hb,by rw[Kp];omega,nP.1,nP.2⟩
   ·rcases List.mem_append.1 dt with h|h
    ·exact RR.flat cs h
    ·rw[List.mem_singleton.1 h]
     intro b sL
     rw[List.mem_singleton.1 sL];exact hcond.2.2
   ·rw[hk]at kM
    simp only[Option.some.injEq,BK.chan.injEq]at kM
    subst kM
    refine⟨fj,_,_,_,ki,by simp[Kp],fun j cs hj=>?_⟩
    rw[List.getElem?_append]at hj
    split at hj
    ·rename_i dQ
     obtain⟨b,u,q1,q2,q3⟩:=hR j cs hj
     refine⟨b,u,q1,?_,hr _ _ q3⟩
     rw[Array.getElem?_push,if_neg (by omega)];exact q2
    ·rename_i qw
     have gZ:j=r.rows.length:=by
      have:=(List.getElem?_eq_some_iff.1 hj).1
      simp at this;omega
     subst gZ
     simp at hj
     subst hj
     exact⟨_,_,rfl,by rw[Array.getElem?_push,if_pos Kp.symm],hr _ _ ry⟩
  ·cases hv
 ·cases hv
theorem P8 {x:O} {g':Rows} {v:AV} (S:gr P hs D ι g w) (hc:qN P o.op=some (.OJ x)) (E:cm P w D ι env a) (hv:ep g (cN env x)=some (v,g')):
  ∃c cap s r buf z,(execOp a.eval o).run P w=.ok (.comm #[Conc.rcase c z] true (.recv false)) w/\w.heap[c]? =some (.chan cap buf false s r false)/\0<buf.size/\gr P hs D ι g' (w.setChan c cap (buf.extract 1 buf.size) false s (r+1) false)/\Step hs D ι w D ι (w.setChan c cap (buf.extract 1 buf.size) false s (r+1) false)/\cH P (w.setChan c cap (buf.extract 1 buf.size) false s (r+1) false) D ι v (buf.getD 0 undef):=by
 obtain⟨t,dir,e,i0,z,x',ho,ht,hi,hz,hx⟩:=Lu hc
 have rx:=dj E hx
 unfold ep at hv
 split at hv
 ·rename_i i he
  simp only[Option.bind_eq_some_iff]at hv
  obtain⟨r,hg,hv⟩:=hv
  split at hv
  ·rename_i v' rest oK
   split at hv
   ·rename_i hcond
    simp only[Option.some.injEq,Prod.mk.injEq]at hv
    obtain⟨rfl,rfl⟩:=hv
    obtain⟨B,c,hu,hB,hk,fj,buf,s,q,hb,Kp,hR⟩:=zl S rx he hg
    obtain⟨B',dz,RR,_⟩:=S.row i r hg
    rw[hB]at dz;injection dz with dz;subst dz
    obtain⟨b0,u0,q1,q2,q3⟩:=hR 0 [v'] (by rw[oK];rfl)
    simp only[List.cons.injEq,and_true]at q1
    subst q1
    have kj:0<buf.size:=by rw[Kp,oK];simp
    have SF:buf.getD 0 undef=u0:=by rw[Array.getD_eq_getD_getElem?,q2];rfl
    have nP:=S.Hc (ob:=.chan c (buf.extract 1 buf.size) false s (q+1) false) (r':={r with rows:=rest}) hg hcond hB fun hr ki=>⟨RR.sz,fun cs dt=>RR.flat cs (by rw[oK];exact List.mem_cons_of_mem _ dt),fun h0=>(by rw[hk]at h0;cases h0),fun m hm=>(by rw[hk]at hm;cases hm),fun c' kM=>?_⟩
    ·refine⟨B.b,c,s,q,buf,z,?_,hb,kj,nP.1,nP.2,?_⟩
     ·have p4:(zeroValue e).run P w=.ok z w:=by simp[zeroValue,typeInfo,hi,hz]
      simp[execOp,ho,hu,Conc.rcase,run_underlying ht,p4]
     ·rw[SF];exact nP.2.rep q3
    ·rw[hk]at kM
     simp only[Option.some.injEq,BK.chan.injEq]at kM
     subst kM
     refine⟨fj,_,_,_,ki,by simp[Kp,oK],fun j cs hj=>?_⟩
     obtain⟨b,u,k1,k2,k3⟩:=hR (j+1) cs (by rw[oK];simpa using hj)
     refine⟨b,u,k1,?_,hr _ _ k3⟩
     have dQ:=(Array.getElem?_eq_some_iff.1 k2).1
     rw[Array.getElem?_extract,if_pos (by omega),Nat.add_comm 1 j];exact k2
   ·cases hv
  ·cases hv
 ·cases hv
theorem FP {ops:Array Oper} {nt site0:Nat} {K:Env->ar->Prop} {Q:Exit->Act->World->Prop}:∀(l:List Oper) (vl:List bd) (j:Nat) (env:Env) (σ:ar) (a:Act) (w:World) (D:Nat->Prop) (ι:Names),
  ops.toList.drop j=l->allM (kH P ops nt site0 false false #[] []) l j=some vl->cF vl K env σ->gr P hs D ι σ.get w->Used ι σ.next (fun _=>False)->cm P w D ι env a->a.tmps.size=nt->
  (∀iG σ' a' w' D' ι',K iG σ'->Step hs D ι w D' ι' w'->St P hs nt D' ι' iG σ' a' w'->a'.defers=a.defers->σ.next<=σ'.next->Q .normal a' w')->xi P ops Q (List.range' j l.length) a w:=by
 intro l
 induction l with
 |nil=>
  intro vl j env σ a w D ι _ h hv S Us E fj hQ
  simp[allM]at h;subst h
  exact OF (hQ env ⟨σ.get,σ.next+1⟩ a w D ι hv (Step.refl _ _ _ _) ⟨S,Us.next,E,fj⟩ rfl (Nat.le_succ _))
 |cons o l ih=>
  intro vl j env σ a w D ι hl h hv S Us E fj hQ
  simp only[allM,Option.bind_eq_bind,Option.bind_eq_some_iff,Option.pure_def,Option.some.injEq]at h
  obtain⟨vo,pP,tj,sq,rfl⟩:=h
  obtain⟨hc,hd,By,xt,hg⟩:=pe pP
  obtain⟨QI,hv⟩:=hv
  have Uu:o.guard=none:=by
   split at hg
   ·assumption
   ·obtain⟨t,_,h⟩:=hg
    rw[QI]at h;cases h
  have Uv:ops[j]? =some o:=by
   have h0:=congrArg (fun x=>x[0]?) hl
   rw[<-Array.getElem?_toList]
   simpa[List.getElem?_drop]using h0
  have Kw:ops.toList.drop (j+1)=l:=by rw[<-List.drop_drop,hl];rfl
  have go:∀(v:AV) (u:Value) (g2:Rows) (w2:World),cF tj K (upd env vo.dst v) ⟨g2,σ.next⟩->gr P hs D ι g2 w2->Step hs D ι w D ι w2->cH P w2 D ι v u->xi P ops Q (List.range' (j+1) l.length) (a.put o.dst u) w2:=fun v u g2 w2 hn S2 T hR=>
   ih tj (j+1) (upd env vo.dst v) ⟨g2,σ.next⟩ (a.put o.dst u) w2 D ι Kw sq hn S2 Us (by rw[hd];exact iv (oz E T) hR xt fj) (by rw[eV];exact fj) fun iG σ2 a' w3 D3 ι3 hk T2 Na Dg mV=>hQ iG σ2 a' w3 D3 ι3 hk (T.trans T2) Na (Dg.trans (put_defers _ _ _)) mV
  rw[show List.range' j (o::l).length=j::List.range' (j+1) l.length from rfl]
  split at hv
  ·rename_i x y ec
   split at hv
   ·rename_i g2 PJ
    rw[ec]at hc
    obtain⟨c,cap,s,r,buf,u,fY,hb,fS,S2,T⟩:=P9 S hc E PJ
    exact LS Uv Uu fY hb fS (go _ _ _ _ hv S2 T cH.undef)
   ·exact hv.elim
  ·rename_i x ec
   split at hv
   ·rename_i v g2 PJ
    rw[ec]at hc
    obtain⟨c,cap,s,r,buf,z,fY,hb,IP,S2,T,hR⟩:=P8 S hc E PJ
    exact LR Uv Uu fY hb IP (go _ _ _ _ hv S2 T hR)
   ·exact hv.elim
  ·split at hv
   ·rename_i v hq
    obtain⟨u,fY,hR⟩:=yR hc hq S E
    exact Jq Uv Uu fY (go _ _ _ _ hv S (Step.refl _ _ _ _) hR)
   ·exact hv.elim
end
end Go.Proofs.YtgoelphibofcmaaGreat.V

namespace Go.Proofs.YtgoelphibofcmaaGreat.V
open Go.RowKit
variable {P:Program} {w w':World} {D D' D2:Nat->Prop} {ι ι' ι2:Names}
section
variable {hs:Nat} {X:fF}
def RX:Ex->Exit
 | .normal=>.normal
 | .exit id=>.exit id
 | .ret=>.ret
theorem St.drew {nt:Nat} {env:Env} {σ:ar} {a:Act} {D:Nat->Prop} {ι:Names} (h:St P hs nt D ι env σ a w):St P hs nt D ι env σ a w.drew/\Step hs D ι w D ι w.drew:=by
 have T:Step hs D ι w D ι w.drew:=Step.stay h.ta (fun _ _=>rfl) (Nat.le_refl _) rfl rfl rfl (fun _ h=>h) (fun _ h=>.inl h) (fun _ _ h=>h)
 exact⟨⟨h.ta.stay (fun _ _=>rfl) (Nat.le_refl _) (fun _ h=>h) h.ta.dead (fun _ h=>.inl h) (fun _ _ h=>h),h.used,oz h.env T,h.size⟩,T⟩
def tq (P:Program) (hs nt:Nat) (ds:List Deferred) (Q:Ex->Env->ar->Prop) (n0:Nat) (D:Nat->Prop) (ι:Names) (w:World) (Q':Exit->Act->World->Prop):Prop:=
 ∀ex env σ a w' D' ι',Q ex env σ->Step hs D ι w D' ι' w'->St P hs nt D' ι' env σ a w'->a.defers=ds->n0<=σ.next->Q' (RX ex) a w'
theorem tq.later {nt:Nat} {ds:List Deferred} {Q:Ex->Env->ar->Prop} {n0 n1:Nat} {Q':Exit->Act->World->Prop} (h:tq P hs nt ds Q n0 D ι w Q') (T:Step hs D ι w D' ι' w') (hn:n0<=n1):tq P hs nt ds Q n1 D' ι' w' Q':=
 fun ex env σ a w2 D2 ι2 hq T2 dE hd hle=>h ex env σ a w2 D2 ι2 hq (T.trans T2) dE hd (Nat.le_trans hn hle)
theorem qi (hm:P.follows .mixedOrders=true) {md:List (Nat×Nat)} {nt fid:Nat}:∀(c:Code) (vc:VC),jq P md nt fid c=some vc->∀(Q:Ex->Env->ar->Prop) (env:Env) (σ:ar) (a:Act) (w:World) (D:Nat->Prop) (ι:Names) (Q':Exit->Act->World->Prop),
  dI (Sound P) vc Q env σ->St P hs nt D ι env σ a w->tq P hs nt a.defers Q σ.next D ι w Q'->Ax P c Q' a w:=by
 intro c
 induction c with
 |skip=>
  intro vc h Q env σ a w D ι Q' hv dE hQ
  simp[jq]at h;subst h
  exact km <| wp_skip (hQ .normal env σ a w D ι hv (Step.refl _ _ _ _) dE rfl (Nat.le_refl _))
 |exit id=>
  intro vc h Q env σ a w D ι Q' hv dE hQ
  simp[jq]at h;subst h
  exact km <| wp_exit (hQ (.exit id) env σ a w D ι hv (Step.refl _ _ _ _) dE rfl (Nat.le_refl _))
 |ret=>
  intro vc h Q env σ a w D ι Q' hv dE hQ
  simp[jq]at h;subst h
  exact km <| wp_ret (hQ .ret env σ a w D ι hv (Step.refl _ _ _ _) dE rfl (Nat.le_refl _))
 |seq x y ihx ihy=>
  intro vc h Q env σ a w D ι Q' hv dE hQ
  simp only[jq,Option.bind_eq_bind,Option.bind_eq_some_iff,Option.pure_def,Option.some.injEq]at h
  obtain⟨vx,hx,vy,hy,rfl⟩:=h
  refine lL (ihx vx hx _ env σ a w D ι _ hv dE fun ex jh σ1 a1 w1 D1 ι1 hq T j8 hd hle=>?_)
  cases ex with
  |normal=>exact ihy vy hy Q jh σ1 a1 w1 D1 ι1 Q' hq j8 (by rw[hd];exact hQ.later T hle)
  |exit id=>exact hQ (.exit id) jh σ1 a1 w1 D1 ι1 hq T j8 hd hle
  |ret=>exact hQ .ret jh σ1 a1 w1 D1 ι1 hq T j8 hd hle
 |cond c x y ihx ihy=>
  intro vc h Q env σ a w D ι Q' hv dE hQ
  simp only[jq,Option.bind_eq_bind,Option.bind_eq_some_iff,Option.pure_def,Option.some.injEq]at h
  obtain⟨c',hc,vx,hx,vy,hy,rfl⟩:=h
  unfold dI at hv
  have hr:=dj dE.env hc
  split at hv
  ·rename_i b hb
   rw[hb]at hr
   refine wq (eZ hr) ?_
   cases b with
   |true=>exact ihx vx hx Q env σ a w D ι Q' hv dE hQ
   |false=>exact ihy vy hy Q env σ a w D ι Q' hv dE hQ
  ·exact hv.elim
 |block id c ih=>
  intro vc h Q env σ a w D ι Q' hv dE hQ
  simp only[jq,Option.map_eq_some_iff]at h
  obtain⟨vx,hx,rfl⟩:=h
  refine s4 (ih vx hx _ env σ a w D ι _ hv dE fun ex jh σ1 a1 w1 D1 ι1 hq T j8 hd hle=>?_)
  cases ex with
  |normal=>exact hQ .normal jh σ1 a1 w1 D1 ι1 hq T j8 hd hle
  |ret=>exact hQ .ret jh σ1 a1 w1 D1 ι1 hq T j8 hd hle
  |exit jW=>
   simp only[bc]at hq
   simp only[RX,Exit.inBlock]
   by_cases hid:jW=id
   ·rw[if_pos hid]at hq ⊢;exact hQ .normal jh σ1 a1 w1 D1 ι1 hq T j8 hd hle
   ·rw[if_neg hid]at hq ⊢;exact hQ (.exit jW) jh σ1 a1 w1 D1 ι1 hq T j8 hd hle
 |loop c ih=>
  intro vc h Q env σ a w D ι Q' hv dE hQ
  simp only[jq,Option.map_eq_some_iff]at h
  obtain⟨vx,hx,rfl⟩:=h
  obtain⟨n,hv⟩:=hv
  refine B8 n ?_
  have key:∀n env σ a w D ι,Fi (dI (Sound P) vx) Q n env σ->St P hs nt D ι env σ a w->tq P hs nt a.defers Q σ.next D ι w Q'->pk P c Q' n a w:=by
   intro n
   induction n with
   |zero=>intro env σ a w D ι h;exact h.elim
   |succ n ihn=>
    intro env σ a w D ι h dE hQ
    refine ih vx hx _ env σ a w D ι _ h dE fun ex jh σ1 a1 w1 D1 ι1 hq T j8 hd hle=>?_
    cases ex with
    |normal=>exact ihn jh σ1 a1 w1 D1 ι1 hq j8 (by rw[hd];exact hQ.later T hle)
    |exit id=>exact hQ (.exit id) jh σ1 a1 w1 D1 ι1 hq T j8 hd hle
    |ret=>exact hQ .ret jh σ1 a1 w1 D1 ι1 hq T j8 hd hle
  exact key n env σ a w D ι hv dE hQ
 |region id ops draw=>
  intro vc h Q env σ a w D ι Q' hv dE hQ
  simp only[jq,P7]at h
  split at h
  ·rename_i hmode
   have TW:draw=true:=by
    simp only[Bool.and_eq_true]at hmode;exact hmode.1
   subst TW
   split at h
   ·rename_i vl dF
    obtain⟨rF,T0⟩:=dE.drew
    have De:=Hb (X:=Sound P) kG ops.size _ vc env σ h (fun k i h=>by
     exfalso
     rcases Nat.lt_or_ge k ops.size with hk|hk
     ·simp[hk]at h
     ·simp[Nat.not_lt.2 hk]at h) hv
    refine km (wp_region_any hm ?_)
    exact Er dF ops.size _ env σ a w.drew D ι (fun _=>False) De rF.ta rF.used (fun _ h=>h.elim) rF.env rF.size fun jh σ1 a1 w1 D1 ι1 hk T j8 hd hle=>hQ .normal jh σ1 a1 w1 D1 ι1 hk (T0.trans T) j8 hd hle
   ·cases h
  split at h
  ·rename_i hcom
   have TW:draw=false:=by
    simp only[Bool.and_eq_true,Bool.not_eq_true']at hcom;exact hcom.1
   subst TW
   simp only[Option.map_eq_some_iff]at h
   obtain⟨vl,sq,rfl⟩:=h
   have dF:allM (kH P ops nt ((fid*1000+id)*1000) false false #[] []) ops.toList 0=some vl:=by
    unfold rf at sq
    simp only[Bool.false_eq_true,if_false,Bool.not_false,Bool.true_or,if_true]at sq
    split at sq
    ·rename_i tj h;simp at sq;subst sq;exact h
    ·cases sq
   refine DM ?_
   have:=FP (Q:=Q') ops.toList vl 0 env σ a w D ι rfl dF hv dE.ta dE.used dE.env dE.size fun jh σ1 a1 w1 D1 ι1 hk T j8 hd hle=>hQ .normal jh σ1 a1 w1 D1 ι1 hk T j8 hd hle
   rwa [<-List.range_eq_range',Array.length_toList]at this
  generalize (wj md id==1)=mk at h
  simp only[Option.map_eq_some_iff]at h
  obtain⟨vl,sq,rfl⟩:=h
  cases draw with
  |false=>
   have dF:∃tj,allM (kH P ops nt ((fid*1000+id)*1000) false mk #[] []) ops.toList 0=some tj/\vl=tj:=by
    unfold rf at sq
    simp only[Bool.false_eq_true,if_false,Bool.not_false,Bool.true_or,if_true]at sq
    split at sq
    ·rename_i tj h;simp at sq;exact⟨tj,h,sq.symm⟩
    ·cases sq
   obtain⟨tj,dF,rfl⟩:=dF
   refine km (wp_region_list ?_)
   exact yM ops.toList vl 0 env σ a w D ι (fun _=>False) dF hv dE.ta dE.used (fun _ h=>h.elim) dE.env dE.size fun jh σ1 a1 w1 D1 ι1 hk T j8 hd hle=>hQ .normal jh σ1 a1 w1 D1 ι1 hk T j8 hd hle
  |true=>
   have dF:∃hidden tj,allM (kH P ops nt ((fid*1000+id)*1000) true mk (jC ops) hidden) ops.toList 0=some tj/\vl=tj/\oy ops tj (jC ops)=true:=by
    unfold rf at sq
    simp only[if_true,Bool.not_true,Bool.false_or]at sq
    split at sq
    ·rename_i tj h
     split at sq
     ·rename_i vW;simp at sq;exact⟨_,tj,h,sq.symm,vW⟩
     ·cases sq
    ·cases sq
   obtain⟨hidden,tj,dF,rfl,vW⟩:=dF
   obtain⟨rF,T0⟩:=dE.drew
   obtain⟨hlen,_⟩:=oq dF
   have kN:vl.length=ops.size:=by rw[hlen];simp
   have De:=w8 (X:=Sound P) (K:=Q .normal) (n:=σ.next) vW kN vl 0 (Array.replicate ops.size false) env σ.get (by simp) (by simp) (fun i hi=>by simp[hi]) (by simp[kN]) (fun k i h=>by
    exfalso
    rcases Nat.lt_or_ge k ops.size with hk|hk
    ·simp[hk]at h
    ·simp[Nat.not_lt.2 hk]at h) hv
   refine km (wp_region_any hm ?_)
   rw[kN]at De
   exact xQ dF ops.size _ env σ.get a w.drew D ι (fun _=>False) De rF.ta rF.used (fun _ h=>h.elim) rF.env rF.size fun jh g1 a1 w1 D1 ι1 U1 hk T S1 S6 E1 AG hd=>hQ .normal jh ⟨g1,σ.next+1⟩ a1 w1 D1 ι1 hk (T0.trans T) ⟨S1,S6.next,E1,AG⟩ hd (Nat.le_succ _)
 |_=>
  intro vc h
  simp[jq]at h
def JC (tmps:Array Value):ResultVar->Sem Value
 | .tmp t=>pure (tmps.getD t undef)
 | .cell a t=>do loadVar t (<-asAddr (tmps.getD a undef))
theorem DW (fn:Func) (tmps:Array Value):results fn tmps=(do
  let vs <-fn.results.mapM (JC tmps)
  pure (if h:vs.size=1 then vs[0]else .tuple vs)):=by
 unfold results
 congr 2
theorem tT {nt:Nat} {env:Env} {σ:ar} {a:Act} {D:Nat->Prop} {ι:Names} (dE:St P hs nt D ι env σ a w):∀(rs:List ResultVar) (vr:List nH) (vs:List AV),rs.mapM (C0 P)=some vr->fq env σ.get vr=some vs->
  ∃us:List Value,(rs.mapM (JC a.tmps)).run P w=.ok us w/\us.length=vs.length/\∀(j:Nat) (v:AV),vs[j]? =some v->∃u,us[j]? =some u/\cH P w D ι v u
 |[],vr,vs,h,hv=>by
  simp at h;subst h
  simp[fq]at hv;subst hv
  exact⟨[],by simp,rfl,fun j v h=>by simp at h⟩
 |r::rs,vr,vs,h,hv=>by
  simp only[List.mapM_cons,Option.bind_eq_bind,Option.bind_eq_some_iff]at h
  obtain⟨x,hx,vr',hr,h⟩:=h
  simp at h;subst h
  simp only[fq,Option.bind_eq_some_iff,Option.map_eq_some_iff]at hv
  obtain⟨v,ym,UT,Q5,rfl⟩:=hv
  obtain⟨us,h1,h2,h3⟩:=tT dE rs vr' UT hr Q5
  have one:∃u,(JC a.tmps r).run P w=.ok u w/\cH P w D ι v u:=by
   cases r with
   |tmp t=>
    simp[C0]at hx;subst hx
    simp[iq]at ym;subst ym
    exact⟨_,rfl,dE.env t⟩
   |cell b t=>
    simp only[C0,Option.bind_eq_bind,Option.bind_eq_some_iff,Option.pure_def,Option.some.injEq]at hx
    obtain⟨ag,uC,n,hn,rfl⟩:=hx
    simp only[iq]at ym
    have gJ:=dE.env b
    unfold ld at ym
    split at ym
    ·rename_i jW i' oo hb
     rw[hb]at gJ
     obtain⟨B,he,hB,hk⟩:=iA gJ
     simp only[Option.bind_eq_some_iff]at ym
     obtain⟨cs,dt,hp⟩:=ym
     obtain⟨B',r0,CC,dz,R,hi,fl,f,hf⟩:=JH (S:=dE.ta) dt (fun B2 h2=>by rw[hB]at h2;injection h2 with h2;subst h2;exact hk)
     rw[hB]at dz;injection dz with dz;subst dz
     obtain⟨u,k1,k2⟩:=kC (w:=w) (b:=B.b) (oo:=i'*B.sz+oo) (f:=fun j=>f (oo+j)) uC hn hp (fun a ha=>fl a (List.mem_of_mem_drop ha)) (fun j hj=>by
      rw[Nat.add_assoc];exact(hf _ (by simp at hj;omega)).1) (fun j a ha=>by
      simp at ha;exact(hf _ ((List.getElem?_eq_some_iff.1 ha).1)).2 _ ha)
     exact⟨u,by simp only[JC,he,asAddr,Sem.run_bind,Sem.run_pure,Result.andThen_ok,k1],k2⟩
    ·rename_i cs hb
     rw[hb]at gJ
     obtain⟨b',oo,vs2,he,q1,q2,q3,q4⟩:=kV gJ
     obtain⟨u,k1,k2⟩:=kC (w:=w) (b:=b') (oo:=oo) (f:=vs2) uC hn ym q2 q3 (fun j a ha=>.eL _ _ (q4 j a ha))
     exact⟨u,by simp only[JC,he,asAddr,Sem.run_bind,Sem.run_pure,Result.andThen_ok,k1],k2⟩
    ·simp at ym
  obtain⟨u,hu,xC⟩:=one
  refine⟨u::us,?_,by simp[h2],fun j v' hj=>?_⟩
  ·rw[List.mapM_cons]
   simp only[Sem.run_bind,hu,h1,Result.andThen_ok,Sem.run_pure]
  ·cases j with
   |zero=>simp at hj;subst hj;exact⟨u,rfl,xC⟩
   |succ j=>simp at hj ⊢;exact h3 j v' hj
theorem u7 {f:Nat} {fn:Func} {c:Code} {args:List AV} {σ:ar} {K:AV->ar->Prop} {vr:List nH} (Py:P.funcs[f]? =some fn) (hc:fn.body=some c) (hr:fn.results.toList.mapM (C0 P)=some vr) (ha:fn.params.size+fn.nfree=args.length) (hle:fn.params.size+fn.nfree<=fn.ntmps)
  (h:∀(hs:Nat) (w:World) (D:Nat->Prop) (ι:Names) (a:Act) (Q':Exit->Act->World->Prop),St P hs fn.ntmps D ι (cD args) σ a w->tq P hs fn.ntmps a.defers (kz vr K) σ.next D ι w Q'->Ax P c Q' a w):Sound P f args σ K:=by
 intro hs D ι w vs S Us A
 have fj:vs.size=args.length:=A.1
 refine zk Py hc ?_
 refine h hs w D ι _ _ ⟨S,Us,fun t=>?_,by simp;omega⟩ fun ex jh σ1 a1 w1 D1 ι1 hq T j8 hd hle=>?_
 ·simp only[cD]
  by_cases dQ:t<args.length
  ·obtain⟨u,hu,xC⟩:=A.2 t args[t] (List.getElem?_eq_getElem dQ)
   have e1:args.getD t .undef=args[t]:=by simp[List.getD_eq_getElem?_getD,dQ]
   have e2:(vs++Array.replicate (fn.ntmps-vs.size) undef).getD t undef=u:=by
    simp only[Array.getD_eq_getD_getElem?]
    rw[Array.getElem?_append_left (by omega),hu];rfl
   rw[e1,e2];exact xC
  ·have e1:args.getD t .undef=.undef:=by simp[List.getD_eq_getElem?_getD,Nat.le_of_not_lt dQ]
   have e2:(vs++Array.replicate (fn.ntmps-vs.size) undef).getD t undef=undef:=by
    simp only[Array.getD_eq_getD_getElem?]
    rw[Array.getElem?_append_right (by omega),Array.getElem?_replicate]
    split<;>rfl
   rw[e1,e2];exact cH.undef
 ·have fin:(∃vs,fq jh σ1.get vr=some vs/\K (fe vs) σ1)->a1.defers=[]/\∃v,(results fn a1.tmps).run P w1=.ok v w1/\∃r g' n' D' ι' u,Ending.returned v=.returned u/\K r ⟨g',n'⟩/\Step hs D ι w D' ι' w1/\gr P hs D' ι' g' w1/\Used ι' n' (fun _=>False)/\σ.next<=n'/\cH P w1 D' ι' r u:=by
   rintro⟨avs,Q5,hK⟩
   obtain⟨us,h1,h2,h3⟩:=tT j8 fn.results.toList vr avs hr Q5
   have Oe:(results fn a1.tmps).run P w1=.ok (if h:us.toArray.size=1 then us.toArray[0]else .tuple us.toArray) w1:=by
    rw[DW,Array.mapM_eq_mapM_toList]
    simp only[Sem.run_bind,Sem.run_map,h1,Result.andThen_ok,Sem.run_pure]
   refine⟨hd,_,Oe,fe avs,σ1.get,σ1.next,D1,ι1,_,rfl,hK,T,j8.ta,j8.used,hle,?_⟩
   unfold fe
   split
   ·rename_i v
    have hl:us.length=1:=h2
    obtain⟨u,hu,xC⟩:=h3 0 v rfl
    rw[dif_pos (by simpa using hl)]
    have:us.toArray[0]'(by simp[hl])=u:=by
     have:=(List.getElem?_eq_some_iff.1 hu).2
     simpa using this
    rw[this];exact xC
   ·rename_i gW
    rw[dif_neg (by
     simp only[List.size_toArray,h2]
     intro h
     obtain⟨v,hv⟩:=List.length_eq_one_iff.1 h
     exact gW v hv)]
    exact .gK _ _ (fun j=>us.getD j undef) (by simp[h2]) (fun j hj=>by
     have:j<us.length:=by rw[h2];exact hj
     simp[this]) (fun j v hj=>by
     obtain⟨u,hu,xC⟩:=h3 j v hj
     simpa[List.getD_eq_getElem?_getD,hu]using xC)
  cases ex with
  |normal=>exact fin hq
  |ret=>exact fin hq
  |exit id=>exact hq.elim
theorem Ii (hm:P.follows .mixedOrders=true) {f:Nat} {md:List (Nat×Nat)} {vf:Ay} {args:List AV} {σ:ar} {K:AV->ar->Prop} (hf:xo P f md=some vf) (ha:vf.yI=args.length) (h:dI (Sound P) vf.body (kz vf.res K) (cD args) σ):Sound P f args σ K:=by
 unfold xo at hf
 split at hf
 ·rename_i fn Py
  split at hf
  ·rename_i c hc
   simp only[Option.bind_eq_bind,Option.bind_eq_some_iff]at hf
   obtain⟨vb,hb,vr,hr,hf⟩:=hf
   split at hf
   ·rename_i hle
    simp only[Option.pure_def,Option.some.injEq]at hf
    subst hf
    simp only at ha h
    exact u7 Py hc hr ha hle fun hs w D ι a Q' dE hQ=>qi hm c vb hb (kz vr K) (cD args) σ a w D ι Q' h dE hQ
   ·simp at hf
  ·simp at hf
 ·simp at hf
def MX (P:Program) (X:fF):fF:=fun f args σ K=>(∃md vf,xo P f md=some vf/\vf.yI=args.length/\((∀a∈args,eG a)->dI X vf.body (kz vf.res K) (cD args) σ))∨Sound P f args σ K
def Call (P:Program):fF:=fun f args σ K=>∀X:fF,pT X->(∀f args σ K,MX P X f args σ K->X f args σ K)->X f args σ K
theorem gn (hm:P.follows .mixedOrders=true) {f:Nat} {args:List AV} {σ:ar} {K:AV->ar->Prop} (h:Call P f args σ K):Sound P f args σ K:=
 h (Sound P) kG fun f args σ K hs=>by
  rcases hs with⟨md,vf,h1,h2,h3⟩|h
  ·intro hs D ι w vs S U A
   exact Ii hm h1 h2 (h3 (oQ fun j a hj=>by obtain⟨u,_,hr⟩:=A.2 j a hj;exact hr.I6)) hs D ι w vs S U A
  ·exact h
end
end Go.Proofs.YtgoelphibofcmaaGreat.V

namespace Go.Proofs.YtgoelphibofcmaaGreat.V
open Go.RowKit
variable {P:Program} {X Y:fF}
theorem HA (h:∀f args σ K,X f args σ K->Y f args σ K) {f:Nat} {args:List AV} {σ:ar} {K:AV->Prop} (hp:gD X f args σ K):gD Y f args σ K:=by
 rcases hp with hp|⟨a,h1,h2⟩
 ·exact .inl (h _ _ _ _ hp)
 ·exact .inr ⟨a,h1,h _ _ _ _ h2⟩
theorem KC (h:∀f args σ K,X f args σ K->Y f args σ K) {f:Nat} {args:List AV} {σ:ar} {sz:Nat} {rows:List (List AV)} (hp:CM X f args σ sz rows):CM Y f args σ sz rows:=by
 obtain⟨h1,a,h2,h3⟩:=hp
 exact⟨h1,a,h2,h _ _ _ _ h3⟩
theorem qg (h:∀f args σ K,X f args σ K->Y f args σ K) (hK:∀f args σ K K',(∀r σ',K r σ'->K' r σ')->Y f args σ K->Y f args σ K') {draw:Bool} {hid:List Nat} {site:Nat} {f:Nat} {args:List AV} {σ:ar} {n n':AV->ar->Prop} (hn:∀v σ',n v σ'->n' v σ') (hp:cJ X draw hid site f args σ n):cJ Y draw hid site f args σ n':=by
 rcases hp with⟨r,h1,h2⟩|⟨h1,h2⟩|⟨h1,sz,rows,h2,h3⟩
 ·exact .inl ⟨r,HA h h1,hn _ _ h2⟩
 ·exact .inr (.inl ⟨h1,hK _ _ _ _ _ hn (h _ _ _ _ h2)⟩)
 ·exact .inr (.inr ⟨h1,sz,rows,KC h h2,hn _ _ h3⟩)
theorem se (h:∀f args σ K,X f args σ K->Y f args σ K) (hK:∀f args σ K K',(∀r σ',K r σ'->K' r σ')->Y f args σ K->Y f args σ K') {draw:Bool} {o:bd} {env:Env} {σ:ar} {n n':AV->ar->Prop} (hn:∀v σ',n v σ'->n' v σ') (hp:fM X draw o env σ n):fM Y draw o env σ n':=by
 unfold fM at hp ⊢
 split at hp
 ·exact qg h hK hn hp
 ·split at hp
  ·exact qg h hK hn hp
  ·exact qg h hK hn hp
  ·exact hp.elim
 ·split at hp
  ·exact hn _ _ hp
  ·exact hp.elim
 ·split at hp
  ·exact hn _ _ hp
  ·exact hp.elim
 ·split at hp
  ·exact hn _ _ hp
  ·exact hp.elim
 ·split at hp
  ·exact hn _ _ hp
  ·exact hp.elim
 ·split at hp
  ·exact hn _ _ hp
  ·exact hp.elim
 ·split at hp
  ·exact hn _ _ hp
  ·exact hn _ _ hp
  ·exact hp.elim
theorem k8 (h:∀f args σ K,X f args σ K->Y f args σ K) (hK:∀f args σ K K',(∀r σ',K r σ'->K' r σ')->Y f args σ K->Y f args σ K') {draw:Bool} {Q Q':Env->ar->Prop} (hQ:∀e s,Q e s->Q' e s):∀(l:List bd) (env:Env) (σ:ar),wpOps X draw l Q env σ->wpOps Y draw l Q' env σ
 |[],env,σ,hp=>hQ _ _ hp
 |o::r,env,σ,hp=>by
  unfold wpOps at hp ⊢
  split at hp
  ·rename_i hw;rw[if_pos hw];exact se h hK (fun v σ'=>k8 h hK hQ r _ _) hp
  ·rename_i hw;rw[if_neg hw];exact k8 h hK hQ r _ _ hp
theorem ns {Q Q':Env->ar->Prop} (hQ:∀e s,Q e s->Q' e s):∀(l:List bd) (env:Env) (σ:ar),cF l Q env σ->cF l Q' env σ
 |[],env,σ,hp=>hQ _ _ hp
 |o::r,env,σ,hp=>by
  unfold cF at hp ⊢
  refine⟨hp.1,?_⟩
  replace hp:=hp.2
  split at hp
  ·split at hp
   ·exact ns hQ r _ _ hp
   ·exact hp.elim
  ·split at hp
   ·exact ns hQ r _ _ hp
   ·exact hp.elim
  ·split at hp
   ·exact ns hQ r _ _ hp
   ·exact hp.elim
theorem jz (h:∀f args σ K,X f args σ K->Y f args σ K) (hK:∀f args σ K K',(∀r σ',K r σ'->K' r σ')->Y f args σ K->Y f args σ K'):∀(c:VC) (Q Q':Ex->Env->ar->Prop) (env:Env) (σ:ar),(∀x e s,Q x e s->Q' x e s)->dI X c Q env σ->dI Y c Q' env σ:=by
 intro c
 induction c with
 |skip=>intro Q Q' env σ hQ hp;exact hQ _ _ _ hp
 |exit id=>intro Q Q' env σ hQ hp;exact hQ _ _ _ hp
 |ret=>intro Q Q' env σ hQ hp;exact hQ _ _ _ hp
 |one o c ih=>
  intro Q Q' env σ hQ hp
  unfold dI at hp ⊢
  split at hp
  ·rename_i hw;rw[if_pos hw];exact se h hK (fun v σ'=>ih Q Q' _ _ hQ) hp
  ·rename_i hw;rw[if_neg hw];exact ih Q Q' _ _ hQ hp
 |both a b iha ihb=>intro Q Q' env σ hQ hp;exact⟨iha Q Q' env σ hQ hp.1,ihb Q Q' env σ hQ hp.2⟩
 |loc t s y c ih=>intro Q Q' env σ hQ hp;exact⟨hp.1,ih Q Q' env σ hQ hp.2⟩
 |Nr ops=>intro Q Q' env σ hQ hp;exact ns (hQ .normal) ops env σ hp
 |eI draw ops=>intro Q Q' env σ hQ hp;exact k8 h hK (hQ .normal) ops env σ hp
 |seq a b iha ihb=>
  intro Q Q' env σ hQ hp
  refine iha _ _ env σ (fun x e s hx=>?_) hp
  cases x with
  |normal=>exact ihb Q Q' e s hQ hx
  |exit id=>exact hQ _ _ _ hx
  |ret=>exact hQ _ _ _ hx
 |cond c a b iha ihb=>
  intro Q Q' env σ hQ hp
  unfold dI at hp ⊢
  split at hp
  ·rename_i t ht
   cases t with
   |true=>exact iha Q Q' env σ hQ hp
   |false=>exact ihb Q Q' env σ hQ hp
  ·exact hp.elim
 |block id a iha=>
  intro Q Q' env σ hQ hp
  refine iha _ _ env σ (fun x e s hx=>?_) hp
  cases x with
  |normal=>exact hQ _ _ _ hx
  |ret=>exact hQ _ _ _ hx
  |exit jW=>
   unfold bc at hx ⊢
   dsimp only at hx ⊢
   split at hx
   ·rename_i hid;rw[if_pos hid];exact hQ _ _ _ hx
   ·rename_i hid;rw[if_neg hid];exact hQ _ _ _ hx
 |loop a iha=>
  intro Q Q' env σ hQ hp
  obtain⟨n,hp⟩:=hp
  refine⟨n,?_⟩
  induction n generalizing env σ with
  |zero=>exact hp
  |succ n ihn=>
   refine iha _ _ env σ (fun x e s hx=>?_) hp
   cases x with
   |normal=>exact ihn e s hx
   |exit id=>exact hQ _ _ _ hx
   |ret=>exact hQ _ _ _ hx
theorem aJ:pT (Call P):=fun _ _ _ _ _ hK h X hX hc=>hX _ _ _ _ _ hK (h X hX hc)
theorem xN {f:Nat} {args:List AV} {σ:ar} {K:AV->ar->Prop} (h:MX P (Call P) f args σ K):Call P f args σ K:=by
 intro X hX hc
 refine hc _ _ _ _ ?_
 rcases h with⟨md,vf,h1,h2,h3⟩|h
 ·exact .inl ⟨md,vf,h1,h2,fun hl=>jz (fun f args σ K h=>h X hX hc) hX _ _ _ _ _ (fun _ _ _ h=>h) (h3 hl)⟩
 ·exact .inr h
theorem uQ {f:Nat} {md:List (Nat×Nat)} {args:List AV} {σ:ar} {K:AV->ar->Prop} {vf:Ay} (hf:xo P f md=some vf) (ha:vf.yI=args.length) (h:(∀a∈args,eG a)->dI (Call P) vf.body (kz vf.res K) (cD args) σ):Call P f args σ K:=
 xN (.inl ⟨md,vf,hf,ha,h⟩)
theorem l9 {f:Nat} {args:List AV} {σ:ar} {K:AV->ar->Prop} {vf:Ay} (hf:l5 P f=some vf) (ha:vf.yI=args.length) (h:(∀a∈args,eG a)->dI (Call P) vf.body (kz vf.res K) (cD args) σ):Call P f args σ K:=
 uQ hf ha h
theorem gM {f:Nat} {args:List AV} {σ:ar} {K:AV->ar->Prop} (h:Sound P f args σ K):Call P f args σ K:=xN (.inr h)
def kd (P:Program) (f:Nat) (args:List AV) (r:AV):Prop:=∀σ,PC (Call P) f args σ (fun r'=>r'=r)
theorem kd.body {f:Nat} {args:List AV} {r:AV} {nt na:Nat} {body:VC} {res:List nH} (hf:l5 P f=some ⟨nt,na,body,res⟩) (ha:na=args.length) (h:(∀a∈args,eG a)->∀σ:ar,dI (Call P) body (kz res fun r0 σ'=>∃r',fz σ'.get 6 r0=some r'/\r'=r) (cD args) ⟨V.ro σ.get,σ.next⟩):kd P f args r:=fun σ=>l9 hf ha fun hl=>h hl σ
variable {Q:Ex->Env->ar->Prop} {K:Env->ar->Prop} {env:Env} {σ:ar}
theorem FC {a b:VC} (h:∀N:Env->ar->Prop,(∀e s,dI X b Q e s->N e s)->dI X a (dn N Q) env σ):dI X (.seq a b) Q env σ:=h _ fun _ _ h=>h
theorem Av (h:Q .normal env σ):dI X .skip Q env σ:=h
theorem As {id:Nat} (h:Q (.exit id) env σ):dI X (.exit id) Q env σ:=h
theorem FB (h:Q .ret env σ):dI X .ret Q env σ:=h
theorem uL {id:Nat} {c:VC} (h:dI X c (bc id Q) env σ):dI X (.block id c) Q env σ:=h
theorem Fz {o:bd} {c:VC} (h:∀N:AV->ar->Prop,(∀v s,dI X c Q (upd env o.dst v) s->N v s)->if aM o.guard env then fM X false o env σ N else N .undef σ):dI X (.one o c) Q env σ:=by
 have:=h (fun v s=>dI X c Q (upd env o.dst v) s) fun _ _ h=>h
 unfold dI
 split
 ·rename_i hw;rw[if_pos hw]at this;exact this
 ·rename_i hw;rw[if_neg hw]at this;exact this
def ez (s n:Nat):AV->Prop
 | .own id 0 _=>id=⟨s,n⟩
 |_=>False
def eE (n:Nat):AV->Prop
 | .own id _ _=>¬id.bP=n
 |_=>True
theorem Au {t s:Nat} {y:O} {c:VC} (h1:ez s σ.next (env t)) (h2:eE σ.next (cN env y)) (h:dI X c Q env σ):dI X (.loc t s y c) Q env σ:=by
 refine⟨⟨?_,fun id o l he=>?_⟩,h⟩
 ·revert h1
  unfold ez
  split
  ·rename_i id l he;rintro rfl;exact⟨l,he⟩
  ·exact fun h=>h.elim
 ·rw[he]at h2;exact h2
theorem fa {a b:VC} (ha:dI X a Q env σ) (hb:dI X b Q env σ):dI X (.both a b) Q env σ:=⟨ha,hb⟩
theorem FA {draw:Bool} {ops:List bd} (h:∀N:Env->ar->Prop,(∀e s,Q .normal e s->N e s)->wpOps X draw ops N env σ):dI X (.eI draw ops) Q env σ:=h _ fun _ _ h=>h
theorem Kc {ops:List bd} (h:cF ops (Q .normal) env σ):dI X (.Nr ops) Q env σ:=h
theorem Cw {draw:Bool} (h:K env ⟨σ.get,σ.next+1⟩):wpOps X draw [] K env σ:=h
theorem O5 {draw:Bool} {o:bd} {r:List bd} (h:∀N:AV->ar->Prop,(∀v s,wpOps X draw r K (upd env o.dst v) s->N v s)->if aM o.guard env then fM X draw o env σ N else N .undef σ):wpOps X draw (o::r) K env σ:=by
 have:=h (fun v s=>wpOps X draw r K (upd env o.dst v) s) fun _ _ h=>h
 unfold wpOps
 split
 ·rename_i hw;rw[if_pos hw]at this;exact this
 ·rename_i hw;rw[if_neg hw]at this;exact this
theorem Kd {c:O} {x y:VC} {b:Bool} (hc:cN env c=.bool b) (ht:b=true->dI X x Q env σ) (hf:b=false->dI X y Q env σ):dI X (.cond c x y) Q env σ:=by
 unfold dI
 simp only[hc]
 cases b with
 |true=>exact ht rfl
 |false=>exact hf rfl
inductive nV:AV->Prop->Prop->Prop
 |t {A B:Prop}:A->nV (.bool true) A B
 |f {A B:Prop}:B->nV (.bool false) A B
theorem uM {c:O} {x y:VC} {v:AV} (hv:cN env c=v) (h:nV v (dI X x Q env σ) (dI X y Q env σ)):dI X (.cond c x y) Q env σ:=by
 cases h with
 |t h=>exact Kd hv (fun _=>h) (fun e=>by cases e)
 |f h=>exact Kd hv (fun e=>by cases e) (fun _=>h)
theorem O4 {c:VC} (I:Nat->Env->ar->Prop) (n:Nat) (h0:I n env σ) (step:∀n env σ,I n env σ->dI X c (fun x e s=>match x with| .normal=>∃m,m<n/\I m e s|x=>Q x e s) env σ)
  (hX:∀(c:VC) (Q Q':Ex->Env->ar->Prop) env σ,(∀x e s,Q x e s->Q' x e s)->dI X c Q env σ->dI X c Q' env σ):dI X (.loop c) Q env σ:=by
 have key:∀N n env σ,n<N->I n env σ->Fi (dI X c) Q N env σ:=by
  intro N
  induction N with
  |zero=>intro n env σ h;exact absurd h (Nat.not_lt_zero _)
  |succ N ih=>
   intro n env σ hn hI
   refine hX c _ _ env σ (fun x e s hx=>?_) (step n env σ hI)
   cases x with
   |normal=>obtain⟨m,hm,Ty⟩:=hx;exact ih m e s (by omega) Ty
   |exit id=>exact hx
   |ret=>exact hx
 exact⟨n+1,key _ n env σ (Nat.lt_succ_self _) h0⟩
theorem Md {c:VC} (I:Nat->Env->ar->Prop) (n:Nat) (h0:I n env σ) (step:∀n env σ,I n env σ->dI (Call P) c (fun x e s=>match x with| .normal=>∃m,m<n/\I m e s|x=>Q x e s) env σ):dI (Call P) (.loop c) Q env σ:=
 O4 I n h0 step fun c Q Q' env σ hQ h=>jz (fun _ _ _ _ h=>h) aJ c Q Q' env σ hQ h
def xR:VC->List Nat
 | .eI _ ops=>ops.filterMap (·.dst)
 | .seq a b=>xR a++xR b
 | .cond _ a b=>xR a++xR b
 | .block _ a=>xR a
 | .loop a=>xR a
 | .one o c=>o.dst.toList++xR c
 | .both a b=>xR a++xR b
 | .loc _ _ _ c=>xR c
 | .Nr ops=>ops.filterMap (·.dst)
 |_=>[]
def gz (l:List Nat) (env iG:Env):Prop:=∀t,l.contains t=false->iG t=env t
theorem gz.refl (l:List Nat) (env:Env):gz l env env:=fun _ _=>rfl
theorem gz.trans {l:List Nat} {e e' e'':Env} (h:gz l e e') (k:gz l e' e''):gz l e e'':=fun t ht=>(k t ht).trans (h t ht)
theorem gz.sub {l l':List Nat} {e e':Env} (h:gz l e e') (hs:∀t,t∈l->t∈l'):gz l' e e':=fun t ht=>h t (by
 rw[<-Bool.not_eq_true]at ht ⊢
 simp only[List.contains_iff_mem]at ht ⊢
 exact fun hc=>ht (hs t hc))
theorem gz.upd {l:List Nat} {e e':Env} {d:Option Nat} {v:AV} (h:gz l e e') (hd:∀t,d=some t->t∈l):gz l e (upd e' d v):=fun t ht=>by
 cases d with
 |none=>exact h t ht
 |some d=>
  have:t≠d:=fun hc=>by subst hc;rw[<-Bool.not_eq_true,List.contains_iff_mem]at ht;exact ht (hd _ rfl)
  show(if t=d then v else e' t)=e t
  rw[if_neg this];exact h t ht
theorem pb {draw:Bool} {Q:Env->ar->Prop} {l:List Nat} {e0:Env}:∀(ops:List bd) (env:Env) (σ:ar),(∀t,t∈ops.filterMap (·.dst)->t∈l)->gz l e0 env->wpOps (Call P) draw ops Q env σ->wpOps (Call P) draw ops (fun e s=>Q e s/\gz l e0 e) env σ
 |[],env,σ,_,hk,hp=>⟨hp,hk⟩
 |o::r,env,σ,hl,hk,hp=>by
  have hd:∀t,o.dst=some t->t∈l:=fun t ht=>hl t (List.mem_filterMap.2 ⟨o,by simp,ht⟩)
  have hr:∀t,t∈r.filterMap (·.dst)->t∈l:=fun t ht=>hl t (by
   obtain⟨x,hx,h⟩:=List.mem_filterMap.1 ht
   exact List.mem_filterMap.2 ⟨x,List.mem_cons_of_mem _ hx,h⟩)
  unfold wpOps at hp ⊢
  split at hp
  ·rename_i hw;rw[if_pos hw]
   exact se (fun _ _ _ _ h=>h) aJ (fun v σ' h=>pb r _ _ hr (hk.upd hd) h) hp
  ·rename_i hw;rw[if_neg hw];exact pb r _ _ hr (hk.upd hd) hp
theorem lO {Q:Env->ar->Prop} {l:List Nat} {e0:Env}:∀(ops:List bd) (env:Env) (σ:ar),(∀t,t∈ops.filterMap (·.dst)->t∈l)->gz l e0 env->cF ops Q env σ->cF ops (fun e s=>Q e s/\gz l e0 e) env σ
 |[],env,σ,_,hk,hp=>⟨hp,hk⟩
 |o::r,env,σ,hl,hk,hp=>by
  have hd:∀t,o.dst=some t->t∈l:=fun t ht=>hl t (List.mem_filterMap.2 ⟨o,by simp,ht⟩)
  have hr:∀t,t∈r.filterMap (·.dst)->t∈l:=fun t ht=>hl t (by
   obtain⟨x,hx,h⟩:=List.mem_filterMap.1 ht
   exact List.mem_filterMap.2 ⟨x,List.mem_cons_of_mem _ hx,h⟩)
  unfold cF at hp ⊢
  refine⟨hp.1,?_⟩
  replace hp:=hp.2
  split at hp
  ·split at hp
   ·exact lO r _ _ hr (hk.upd hd) hp
   ·exact hp.elim
  ·split at hp
   ·exact lO r _ _ hr (hk.upd hd) hp
   ·exact hp.elim
  ·split at hp
   ·exact lO r _ _ hr (hk.upd hd) hp
   ·exact hp.elim
theorem y5 {l:List Nat} {e0:Env}:∀(c:VC) (Q:Ex->Env->ar->Prop) (env:Env) (σ:ar),(∀t,t∈xR c->t∈l)->gz l e0 env->dI (Call P) c Q env σ->dI (Call P) c (fun x e s=>Q x e s/\gz l e0 e) env σ:=by
 intro c
 induction c with
 |skip=>intro Q env σ _ hk hp;exact⟨hp,hk⟩
 |exit id=>intro Q env σ _ hk hp;exact⟨hp,hk⟩
 |ret=>intro Q env σ _ hk hp;exact⟨hp,hk⟩
 |one o c ih=>
  intro Q env σ hl hk hp
  have hd:∀t,o.dst=some t->t∈l:=fun t ht=>hl t (List.mem_append_left _ (by rw[ht];simp))
  have hr:∀t,t∈xR c->t∈l:=fun t ht=>hl t (List.mem_append_right _ ht)
  unfold dI at hp ⊢
  split at hp
  ·rename_i hw;rw[if_pos hw]
   exact se (fun _ _ _ _ h=>h) aJ (fun v σ' h=>ih Q _ _ hr (hk.upd hd) h) hp
  ·rename_i hw;rw[if_neg hw];exact ih Q _ _ hr (hk.upd hd) hp
 |both a b iha ihb=>
  intro Q env σ hl hk hp
  exact⟨iha Q env σ (fun t ht=>hl t (List.mem_append_left _ ht)) hk hp.1,ihb Q env σ (fun t ht=>hl t (List.mem_append_right _ ht)) hk hp.2⟩
 |loc t s y c ih=>intro Q env σ hl hk hp;exact⟨hp.1,ih Q env σ hl hk hp.2⟩
 |Nr ops=>intro Q env σ hl hk hp;exact lO ops env σ hl hk hp
 |eI draw ops=>intro Q env σ hl hk hp;exact pb ops env σ hl hk hp
 |seq a b iha ihb=>
  intro Q env σ hl hk hp
  refine jz (fun _ _ _ _ h=>h) aJ a _ _ env σ (fun x e s hx=>?_) (iha _ env σ (fun t ht=>hl t (List.mem_append_left _ ht)) hk hp)
  cases x with
  |normal=>exact ihb Q e s (fun t ht=>hl t (List.mem_append_right _ ht)) hx.2 hx.1
  |exit id=>exact hx
  |ret=>exact hx
 |cond c a b iha ihb=>
  intro Q env σ hl hk hp
  unfold dI at hp ⊢
  split at hp
  ·rename_i t ht
   cases t with
   |true=>exact iha Q env σ (fun t ht=>hl t (List.mem_append_left _ ht)) hk hp
   |false=>exact ihb Q env σ (fun t ht=>hl t (List.mem_append_right _ ht)) hk hp
  ·exact hp.elim
 |block id a iha=>
  intro Q env σ hl hk hp
  refine jz (fun _ _ _ _ h=>h) aJ a _ _ env σ (fun x e s hx=>?_) (iha _ env σ hl hk hp)
  obtain⟨hx,Gb⟩:=hx
  cases x with
  |normal=>exact⟨hx,Gb⟩
  |ret=>exact⟨hx,Gb⟩
  |exit jW=>
   unfold bc at hx ⊢
   dsimp only at hx ⊢
   split at hx
   ·rename_i hid;rw[if_pos hid];exact⟨hx,Gb⟩
   ·rename_i hid;rw[if_neg hid];exact⟨hx,Gb⟩
 |loop a iha=>
  intro Q env σ hl hk hp
  obtain⟨n,hp⟩:=hp
  refine⟨n,?_⟩
  induction n generalizing env σ with
  |zero=>exact hp
  |succ n ihn=>
   refine jz (fun _ _ _ _ h=>h) aJ _ _ _ _ _ (fun x e s hx=>?_) (iha _ env σ hl hk hp)
   obtain⟨hx,Gb⟩:=hx
   cases x with
   |normal=>exact ihn e s Gb hx
   |exit id=>exact⟨hx,Gb⟩
   |ret=>exact⟨hx,Gb⟩
theorem aV {c:VC} (I:Nat->Env->ar->Prop) (n:Nat) (h0:I n env σ) (step:∀n e s,I n e s->gz (xR c) env e->dI (Call P) c (fun x e s=>match x with| .normal=>∃m,m<n/\I m e s|x=>Q x e s) e s):dI (Call P) (.loop c) Q env σ:=by
 refine Md (fun n e s=>I n e s/\gz (xR c) env e) n ⟨h0,gz.refl _ _⟩ fun n e s hI=>?_
 refine jz (fun _ _ _ _ h=>h) aJ _ _ _ _ _ (fun x e' s' hx=>?_) (y5 c _ e s (fun _ h=>h) hI.2 (step n e s hI.1 hI.2))
 obtain⟨hx,hk⟩:=hx
 cases x with
 |normal=>obtain⟨m,hm,h⟩:=hx;exact⟨m,hm,h,hk⟩
 |exit id=>exact hx
 |ret=>exact hx
theorem Kg {k:Nat} (h:k<=9223372036854775807):IntKind.i64.wrap (k:Int)=k:=by rw[IntKind.wrap_i64];omega
theorem bt {z:Int} (h: -9223372036854775808<=z/\z<=9223372036854775807):IntKind.i64.wrap z=z:=by rw[IntKind.wrap_i64];omega
theorem az {k:Nat} (h:(k:Int)+1<=9223372036854775807):IntKind.i64.wrap ((k:Int)+1)=((k+1:Nat):Int):=by rw[IntKind.wrap_i64];omega
theorem all_succ {k:Nat} {p:Nat->Prop} (h:∀j,j<k->p j) (hk:p k):∀j,j<k+1->p j:=fun j hj=>by
 by_cases yi:j=k
 ·subst yi;exact hk
 ·exact h j (by omega)
theorem aH (g:Rows) (n:Nat) (k:IntKind) (m:Int):fz g (n+1) (.int k m)=some (.int k m):=by rw[fz]<;>intros<;>simp_all
theorem bp (g:Rows) (n:Nat) (b:Bool):fz g (n+1) (.bool b)=some (.bool b):=by rw[fz]<;>intros<;>simp_all
theorem bE (g:Rows) (n:Nat) (b:ByteArray):fz g (n+1) (.str b)=some (.str b):=by rw[fz]<;>intros<;>simp_all
theorem cz (g:Rows) (n:Nat) (l:List (List AV)):fz g (n+1) (.sl l)=some (.sl l):=by rw[fz]<;>intros<;>simp_all
theorem aX (g:Rows) (n:Nat):fz g (n+1) .cq=some .cq:=by rw[fz]<;>intros<;>simp_all
theorem Rt {t:Nat} {r r0:AV} {x:Ex} (hx:x=.ret∨x=.normal) (he:env t=r0) (hz:fz σ.get 6 r0=some r):kz [.tmp t] (fun r0 σ'=>∃r',fz σ'.get 6 r0=some r'/\r'=r) x env σ:=by
 have:∃vs,fq env σ.get [.tmp t]=some vs/\∃r',fz σ.get 6 (fe vs)=some r'/\r'=r:=⟨[env t],rfl,r,by subst he;exact hz,rfl⟩
 rcases hx with rfl|rfl
 ·exact this
 ·exact this
def aq (P:Program) (f:Nat) (args:List AV) (r:AV):Prop:=∀n:Nat,Call P f args ⟨fun _=>none,n⟩ fun r0 σ'=>∃r',gu σ'.get 6 r0=some r'/\r'=r
theorem aq.body {f:Nat} {args:List AV} {r:AV} {nt na:Nat} {body:VC} {res:List nH} (hf:l5 P f=some ⟨nt,na,body,res⟩) (ha:na=args.length) (h:(∀a∈args,eG a)->∀n:Nat,dI (Call P) body (kz res fun r0 σ'=>∃r',gu σ'.get 6 r0=some r'/\r'=r) (cD args) ⟨fun _=>none,n⟩):aq P f args r:=fun n=>l9 hf ha fun hl=>h hl n
theorem aq.x {f:Nat} {args eF:List AV} {r:AV} (h:aq P f eF r) {σ:ar} (hv:cP (dO σ.get) 6 args=some eF):gD (Call P) f args σ (fun r'=>r'=r):=.inr ⟨eF,hv,h _⟩
theorem kd.x {f:Nat} {args:List AV} {r:AV} (h:kd P f args r) (σ:ar):gD (Call P) f args σ (fun r'=>r'=r):=.inl (h σ)
theorem eM (g:Rows) (n:Nat) (k:IntKind) (m:Int):gu g (n+1) (.int k m)=some (.int k m):=by rw[gu]<;>intros<;>simp_all
theorem fI (g:Rows) (n:Nat) (b:Bool):gu g (n+1) (.bool b)=some (.bool b):=by rw[gu]<;>intros<;>simp_all
theorem KX (g:Rows) (n:Nat) (b:ByteArray):gu g (n+1) (.str b)=some (.str b):=by rw[gu]<;>intros<;>simp_all
theorem kJ (g:Rows) (n:Nat):gu g (n+1) .cq=some .cq:=by rw[gu]<;>intros<;>simp_all
theorem eW (g:Rows) (n:Nat) (l:List AV):gu g (n+1) (.gK l)=(ea g n l).map AV.gK:=by rw[gu]
theorem ET (g:Rows) (n:Nat) (l:List AV):gu g (n+1) (.agg l)=(ea g n l).map AV.agg:=by rw[gu]
theorem uz {g:Rows} {n:Nat} {id:Id} {off len sz:Nat} {rows rows':List (List AV)} (h:g id=some ⟨true,sz,rows⟩) (hl:off+len<=rows.length) (hr:ib g n ((rows.drop off).take len)=some rows'):gu g (n+1) (.own id off len)=some (.sl rows'):=by
 rw[gu];simp only[h,if_true,if_pos hl,hr,Option.map_some]
theorem cE (g:Rows) (n:Nat):ea g n []=some []:=by rw[ea]
theorem bD (g:Rows) (n:Nat) (a:AV) (l:List AV):ea g n (a::l)=match gu g n a with
  |some b=>(ea g n l).map (b::·)
  |none=>none:=by rw[ea];cases gu g n a<;>rfl
theorem tD {g:Rows} {n:Nat}:∀{l:List (List AV)},(∀c∈l,ea g n c=some c)->ib g n l=some l
 |[],_=>by rw[ib]
 |c::r,h=>by rw[ib,h c (by simp),tD fun d hd=>h d (List.mem_cons_of_mem _ hd)];rfl
theorem bl (g:Rows) (n:Nat) (l:List AV):fz g (n+1) (.agg l)=(cP g n l).map AV.agg:=by rw[fz]
theorem aW (g:Rows) (n:Nat) (l:List AV):fz g (n+1) (.di l)=some (.di l):=by rw[fz]<;>intros<;>simp_all
theorem vK {g:Rows} {n:Nat} {id:Id} {i off sz:Nat} {rows:List (List AV)} {cs pV:List AV} (h:g id=some ⟨true,sz,rows⟩) (hi:rows[i]? =some cs) (hr:cP g n (cs.drop off)=some pV):fz g (n+1) (.ptr id i off)=some (.di pV):=by
 rw[fz];simp only[h,if_true,hi,hr,Option.map_some]
theorem aj (g:Rows) (n:Nat):cP g n []=some []:=by rw[cP]
theorem ai (g:Rows) (n:Nat) (a:AV) (l:List AV):cP g n (a::l)=match fz g n a with
  |some b=>(cP g n l).map (b::·)
  |none=>none:=by rw[cP];cases fz g n a<;>rfl
theorem wM {t:Nat} {r r0:AV} {x:Ex} (hx:x=.ret∨x=.normal) (he:env t=r0) (hz:gu σ.get 6 r0=some r):kz [.tmp t] (fun r0 σ'=>∃r',gu σ'.get 6 r0=some r'/\r'=r) x env σ:=by
 have:∃vs,fq env σ.get [.tmp t]=some vs/\∃r',gu σ.get 6 (fe vs)=some r'/\r'=r:=⟨[env t],rfl,r,by subst he;exact hz,rfl⟩
 rcases hx with rfl|rfl
 ·exact this
 ·exact this
theorem aU {t:Nat} {b c:Bool} {x:Ex} (hx:x=.ret∨x=.normal) (he:env t=.bool b) (hb:b=c):kz [.tmp t] (fun r0 σ'=>∃r',gu σ'.get 6 r0=some r'/\r'=.bool c) x env σ:=wM hx he (by rw[fI,hb])
theorem cj {t:Nat} {k:IntKind} {b c:Int} {x:Ex} (hx:x=.ret∨x=.normal) (he:env t=.int k b) (hb:b=c):kz [.tmp t] (fun r0 σ'=>∃r',gu σ'.get 6 r0=some r'/\r'=.int k c) x env σ:=wM hx he (by rw[eM,hb])
theorem jx {t u:Nat} {r r1 r2:AV} {x:Ex} (hx:x=.ret∨x=.normal) (h1:env t=r1) (h2:env u=r2) (hz:gu σ.get 6 (.gK [r1,r2])=some r):kz [.tmp t,.tmp u] (fun r0 σ'=>∃r',gu σ'.get 6 r0=some r'/\r'=r) x env σ:=by
 have:∃vs,fq env σ.get [.tmp t,.tmp u]=some vs/\∃r',gu σ.get 6 (fe vs)=some r'/\r'=r:=⟨[env t,env u],rfl,r,by subst h1;subst h2;exact hz,rfl⟩
 rcases hx with rfl|rfl
 ·exact this
 ·exact this
structure Pn (p:Prop):Prop where
 out:p
theorem tw {A B:Prop} (a:A) (b:B):A/\B:=⟨a,b⟩
theorem wk {A R G:Prop} (a:A) (r:R) (h:A->R->G:=by
  intro fL kk
  (repeat(refine Pn.mk ?_;intro N hN))
  (first|((first|apply FC|apply FA);intro N hN)|((first|(apply O5;intro N hN)|(apply Fz;intro N hN));simp only[go_sem, ↓reduceIte,Nat.reduceEqDiff,Nat.reduceAdd,Nat.reduceSub,Nat.reduceMul,Nat.reduceLeDiff,Nat.reduceBEq,reduceCtorEq,Nat.reduceLT,Int.reduceLE,Int.reduceLT,Int.reduceToNat,Int.reduceNeg,Int.reduceAdd,Int.reduceEq,fL];first|(refine hN _ _ ?_;clear hN N)|skip)|(apply uM;(simp only[go_sem, ↓reduceIte,Nat.reduceEqDiff,Nat.reduceAdd,Nat.reduceSub,Nat.reduceMul,Nat.reduceLeDiff,Nat.reduceBEq,reduceCtorEq,Nat.reduceLT,Int.reduceLE,Int.reduceLT,Int.reduceToNat,Int.reduceNeg,Int.reduceAdd,Int.reduceEq,fL];rfl);first|with_reducible apply nV.t|with_reducible apply nV.f)|(apply Cw;refine hN _ _ ?_;clear hN N;try(simp only[dn,bc, ↓reduceIte,Nat.reduceEqDiff]);try(refine hN _ _ ?_;clear hN N))|apply uL|(refine Au ?_ ?_ ?_;(focus(simp only[go_sem, ↓reduceIte,Nat.reduceEqDiff,Nat.reduceAdd,Nat.reduceSub,Nat.reduceMul,Nat.reduceLeDiff,Nat.reduceBEq,reduceCtorEq,Nat.reduceLT,Int.reduceLE,Int.reduceLT,Int.reduceToNat,Int.reduceNeg,Int.reduceAdd,Int.reduceEq,fL];done));(focus(simp only[go_sem, ↓reduceIte,Nat.reduceEqDiff,Nat.reduceAdd,Nat.reduceSub,Nat.reduceMul,Nat.reduceLeDiff,Nat.reduceBEq,reduceCtorEq,Nat.reduceLT,Int.reduceLE,Int.reduceLT,Int.reduceToNat,Int.reduceNeg,Int.reduceAdd,Int.reduceEq,fL];done)))|((first|apply Av|apply As|apply FB);try(simp only[dn,bc, ↓reduceIte,Nat.reduceEqDiff]);try(refine hN _ _ ?_;clear hN N))|((first|refine hN _ _ ?_|(clear hN N;first|refine hN _ _ ?_|(clear hN N;first|refine hN _ _ ?_|(clear hN N;first|refine hN _ _ ?_|(clear hN N;refine hN _ _ ?_)))));clear hN N))
  (repeat(first|((first|apply FC|apply FA);intro N hN)|((first|(apply O5;intro N hN)|(apply Fz;intro N hN));simp only[go_sem, ↓reduceIte,Nat.reduceEqDiff,Nat.reduceAdd,Nat.reduceSub,Nat.reduceMul,Nat.reduceLeDiff,Nat.reduceBEq,reduceCtorEq,Nat.reduceLT,Int.reduceLE,Int.reduceLT,Int.reduceToNat,Int.reduceNeg,Int.reduceAdd,Int.reduceEq,fL];first|(refine hN _ _ ?_;clear hN N)|skip)|(apply uM;(simp only[go_sem, ↓reduceIte,Nat.reduceEqDiff,Nat.reduceAdd,Nat.reduceSub,Nat.reduceMul,Nat.reduceLeDiff,Nat.reduceBEq,reduceCtorEq,Nat.reduceLT,Int.reduceLE,Int.reduceLT,Int.reduceToNat,Int.reduceNeg,Int.reduceAdd,Int.reduceEq,fL];rfl);first|with_reducible apply nV.t|with_reducible apply nV.f)|(apply Cw;refine hN _ _ ?_;clear hN N;try(simp only[dn,bc, ↓reduceIte,Nat.reduceEqDiff]);try(refine hN _ _ ?_;clear hN N))|apply uL|(refine Au ?_ ?_ ?_;(focus(simp only[go_sem, ↓reduceIte,Nat.reduceEqDiff,Nat.reduceAdd,Nat.reduceSub,Nat.reduceMul,Nat.reduceLeDiff,Nat.reduceBEq,reduceCtorEq,Nat.reduceLT,Int.reduceLE,Int.reduceLT,Int.reduceToNat,Int.reduceNeg,Int.reduceAdd,Int.reduceEq,fL];done));(focus(simp only[go_sem, ↓reduceIte,Nat.reduceEqDiff,Nat.reduceAdd,Nat.reduceSub,Nat.reduceMul,Nat.reduceLeDiff,Nat.reduceBEq,reduceCtorEq,Nat.reduceLT,Int.reduceLE,Int.reduceLT,Int.reduceToNat,Int.reduceNeg,Int.reduceAdd,Int.reduceEq,fL];done)))|((first|apply Av|apply As|apply FB);try(simp only[dn,bc, ↓reduceIte,Nat.reduceEqDiff]);try(refine hN _ _ ?_;clear hN N))|((first|refine hN _ _ ?_|(clear hN N;first|refine hN _ _ ?_|(clear hN N;first|refine hN _ _ ?_|(clear hN N;first|refine hN _ _ ?_|(clear hN N;refine hN _ _ ?_)))));clear hN N)))
  (repeat(revert hN;revert N;apply Pn.out))
  exact kk):G:=h a r
theorem wa {A R G:Prop} (a:A) (r:R) (h:A->R->G:=by
  intro fL kk
  (repeat(refine Pn.mk ?_;intro N hN))
  (first|((first|apply FC|apply FA);intro N hN)|((first|(refine M0 rfl fun N hN=>?_)|(apply Fz;intro N hN));simp only[go_sem, ↓reduceIte,Nat.reduceEqDiff,Nat.reduceAdd,Nat.reduceSub,Nat.reduceMul,Nat.reduceLeDiff,Nat.reduceBEq,reduceCtorEq,Nat.reduceLT,Int.reduceLE,Int.reduceLT,Int.reduceToNat,Int.reduceNeg,Int.reduceAdd,Int.reduceEq,fL];first|(refine hN _ _ ?_;clear hN N)|skip)|(apply uM;(simp only[go_sem, ↓reduceIte,Nat.reduceEqDiff,Nat.reduceAdd,Nat.reduceSub,Nat.reduceMul,Nat.reduceLeDiff,Nat.reduceBEq,reduceCtorEq,Nat.reduceLT,Int.reduceLE,Int.reduceLT,Int.reduceToNat,Int.reduceNeg,Int.reduceAdd,Int.reduceEq,fL];rfl);first|with_reducible apply nV.t|with_reducible apply nV.f)|(apply Cw;refine hN _ _ ?_;clear hN N;try(simp only[dn,bc, ↓reduceIte,Nat.reduceEqDiff]);try(refine hN _ _ ?_;clear hN N))|apply uL|(refine Au ?_ ?_ ?_;(focus(simp only[go_sem, ↓reduceIte,Nat.reduceEqDiff,Nat.reduceAdd,Nat.reduceSub,Nat.reduceMul,Nat.reduceLeDiff,Nat.reduceBEq,reduceCtorEq,Nat.reduceLT,Int.reduceLE,Int.reduceLT,Int.reduceToNat,Int.reduceNeg,Int.reduceAdd,Int.reduceEq,fL];done));(focus(simp only[go_sem, ↓reduceIte,Nat.reduceEqDiff,Nat.reduceAdd,Nat.reduceSub,Nat.reduceMul,Nat.reduceLeDiff,Nat.reduceBEq,reduceCtorEq,Nat.reduceLT,Int.reduceLE,Int.reduceLT,Int.reduceToNat,Int.reduceNeg,Int.reduceAdd,Int.reduceEq,fL];done)))|((first|apply Av|apply As|apply FB);try(simp only[dn,bc, ↓reduceIte,Nat.reduceEqDiff]);try(refine hN _ _ ?_;clear hN N))|((first|refine hN _ _ ?_|(clear hN N;first|refine hN _ _ ?_|(clear hN N;first|refine hN _ _ ?_|(clear hN N;first|refine hN _ _ ?_|(clear hN N;refine hN _ _ ?_)))));clear hN N))
  (repeat(first|((first|apply FC|apply FA);intro N hN)|((first|(refine M0 rfl fun N hN=>?_)|(apply Fz;intro N hN));simp only[go_sem, ↓reduceIte,Nat.reduceEqDiff,Nat.reduceAdd,Nat.reduceSub,Nat.reduceMul,Nat.reduceLeDiff,Nat.reduceBEq,reduceCtorEq,Nat.reduceLT,Int.reduceLE,Int.reduceLT,Int.reduceToNat,Int.reduceNeg,Int.reduceAdd,Int.reduceEq,fL];first|(refine hN _ _ ?_;clear hN N)|skip)|(apply uM;(simp only[go_sem, ↓reduceIte,Nat.reduceEqDiff,Nat.reduceAdd,Nat.reduceSub,Nat.reduceMul,Nat.reduceLeDiff,Nat.reduceBEq,reduceCtorEq,Nat.reduceLT,Int.reduceLE,Int.reduceLT,Int.reduceToNat,Int.reduceNeg,Int.reduceAdd,Int.reduceEq,fL];rfl);first|with_reducible apply nV.t|with_reducible apply nV.f)|(apply Cw;refine hN _ _ ?_;clear hN N;try(simp only[dn,bc, ↓reduceIte,Nat.reduceEqDiff]);try(refine hN _ _ ?_;clear hN N))|apply uL|(refine Au ?_ ?_ ?_;(focus(simp only[go_sem, ↓reduceIte,Nat.reduceEqDiff,Nat.reduceAdd,Nat.reduceSub,Nat.reduceMul,Nat.reduceLeDiff,Nat.reduceBEq,reduceCtorEq,Nat.reduceLT,Int.reduceLE,Int.reduceLT,Int.reduceToNat,Int.reduceNeg,Int.reduceAdd,Int.reduceEq,fL];done));(focus(simp only[go_sem, ↓reduceIte,Nat.reduceEqDiff,Nat.reduceAdd,Nat.reduceSub,Nat.reduceMul,Nat.reduceLeDiff,Nat.reduceBEq,reduceCtorEq,Nat.reduceLT,Int.reduceLE,Int.reduceLT,Int.reduceToNat,Int.reduceNeg,Int.reduceAdd,Int.reduceEq,fL];done)))|((first|apply Av|apply As|apply FB);try(simp only[dn,bc, ↓reduceIte,Nat.reduceEqDiff]);try(refine hN _ _ ?_;clear hN N))|((first|refine hN _ _ ?_|(clear hN N;first|refine hN _ _ ?_|(clear hN N;first|refine hN _ _ ?_|(clear hN N;first|refine hN _ _ ?_|(clear hN N;refine hN _ _ ?_)))));clear hN N)))
  (repeat(revert hN;revert N;apply Pn.out))
  exact kk):G:=h a r
theorem sd {A G:Prop} (a:A) (h:A->G:=by
  intro fL
  first|(simp only[go_sem, ↓reduceIte,Nat.reduceEqDiff,Nat.reduceAdd,Nat.reduceSub,Nat.reduceMul,Nat.reduceLeDiff,Nat.reduceBEq,reduceCtorEq,Nat.reduceLT,Int.reduceLE,Int.reduceLT,Int.reduceToNat,Int.reduceNeg,Int.reduceAdd,Int.reduceEq,fL,fq,iq];done)|fail):G:=h a
theorem sl {A G:Prop} (a:A) (h:A->G:=by
  intro fL
  (try simp only[go_sem, ↓reduceIte,Nat.reduceEqDiff,Nat.reduceAdd,Nat.reduceSub,Nat.reduceMul,Nat.reduceLeDiff,Nat.reduceBEq,reduceCtorEq,Nat.reduceLT,Int.reduceLE,Int.reduceLT,Int.reduceToNat,Int.reduceNeg,Int.reduceAdd,Int.reduceEq,fL])
  try rfl):G:=h a
end Go.Proofs.YtgoelphibofcmaaGreat.V

namespace Go.Proofs.YtgoelphibofcmaaGreat.V
open Go.RowKit
variable {P:Program} {X:fF} {env:Env} {σ:ar}
theorem bH (g:Rows) (n:Nat) (l:List AV):fz g (n+1) (.gK l)=(cP g n l).map AV.gK:=by rw[fz]
theorem cU (g:Rows) (n:Nat) (f:Nat) (l:List AV):fz g (n+1) (.fn f l)=if l.all AV.cell then(cP g n l).map (AV.fn f)else none:=by rw[fz]
theorem bj (g:Rows) (n:Nat) (id:Id) (i off:Nat):fz g (n+1) (.ptr id i off)=match g id with
  |some r=>if r.w then(match r.rows[i]? with
   |some cs=>(cP g n (cs.drop off)).map AV.di
   |none=>none)else none
  |none=>none:=by rw[fz];rfl
theorem iw (g:Rows) (n:Nat) (id:Id) (off len:Nat):fz g (n+1) (.own id off len)=match g id with
  |some r=>if r.w then(if off+len<=r.rows.length then(dZ g n ((r.rows.drop off).take len)).map AV.sl else none)else none
  |none=>none:=by rw[fz];rfl
theorem oI (g:Rows) (n:Nat):dZ g n []=some []:=by rw[dZ]
theorem zu (g:Rows) (n:Nat) (c:List AV) (l:List (List AV)):dZ g n (c::l)=match cP g n c with
  |some b=>(dZ g n l).map (b::·)
  |none=>none:=by rw[dZ];cases cP g n c<;>rfl
theorem vI {g:Rows} {n:Nat}:∀{l:List (List AV)},(∀c∈l,cP g n c=some c)->dZ g n l=some l
 |[],_=>by rw[dZ]
 |c::r,h=>by rw[dZ,h c (by simp),vI fun d hd=>h d (List.mem_cons_of_mem _ hd)];rfl
theorem qp {α:Type} {g:Rows} {n:Nat} {e:α->List AV} {l:List α} (h:∀x,cP g n (e x)=some (e x)):dZ g n (l.map e)=some (l.map e):=vI fun c hc=>by
 obtain⟨x,_,rfl⟩:=List.mem_map.1 hc
 exact h x
theorem tF {α:Type} {g:Rows} {n:Nat} {e:α->List AV} {l:List α} (h:∀x,ea g n (e x)=some (e x)):ib g n (l.map e)=some (l.map e):=tD fun c hc=>by
 obtain⟨x,_,rfl⟩:=List.mem_map.1 hc
 exact h x
theorem gP {α:Type} {g:Rows} {n:Nat} {e:α->List AV} {l:List α} {id:Id} {sz len:Nat} (hg:g id=some ⟨true,sz,l.map e⟩) (hl:len=l.length) (h:∀x,cP g n (e x)=some (e x)):fz g (n+1) (.own id 0 len)=some (.sl (l.map e)):=by
 subst hl
 rw[iw];simp only[hg,if_true]
 rw[if_pos (by simp),List.drop_zero,List.take_of_length_le (by simp),qp h];rfl
theorem fD {α:Type} {g:Rows} {n:Nat} {e:α->List AV} {l:List α} {id:Id} {sz len:Nat} (hg:g id=some ⟨true,sz,l.map e⟩) (hl:len=l.length) (h:∀x,ea g n (e x)=some (e x)):gu g (n+1) (.own id 0 len)=some (.sl (l.map e)):=by
 subst hl
 exact uz hg (by simp) (by rw[List.drop_zero,List.take_of_length_le (by simp),tF h])
theorem all_map {α:Type} {e:α->List AV} {sz:Nat} {l:List α} (h:∀x,(e x).length=sz/\(e x).all AV.cell=true):(l.map e).all (fun c=>c.length==sz&&c.all AV.cell)=true:=by
 rw[List.all_eq_true]
 intro c hc
 obtain⟨x,_,rfl⟩:=List.mem_map.1 hc
 simp[(h x).1,(h x).2]
def PZ (P:Program) (f:Nat) (args:List AV) (sz:Nat) (rows:List (List AV)):Prop:=(∀c∈rows,∀a∈c,a.plain=true)/\∀n:Nat,Call P f args ⟨fun _=>none,n⟩ fun r σ'=>∃id,r=.own id 0 rows.length/\σ'.get id=some ⟨true,sz,rows⟩
theorem PZ.x {f sz:Nat} {args eF:List AV} {rows:List (List AV)} (h:PZ P f eF sz rows) {σ:ar} (hv:cP (dO σ.get) 6 args=some eF):CM (Call P) f args σ sz rows:=⟨h.1,eF,hv,h.2 _⟩
theorem xI {res:List nH} {r:AV} {vs:List AV} {x:Ex} (hx:x=.ret∨x=.normal) (hv:fq env σ.get res=some vs) (hz:fz σ.get 6 (fe vs)=some r):kz res (fun r0 σ'=>∃r',fz σ'.get 6 r0=some r'/\r'=r) x env σ:=by
 rcases hx with rfl|rfl
 ·exact⟨vs,hv,r,hz,rfl⟩
 ·exact⟨vs,hv,r,hz,rfl⟩
theorem p7 {res:List nH} {r:AV} {vs:List AV} {x:Ex} (hx:x=.ret∨x=.normal) (hv:fq env σ.get res=some vs) (hz:gu σ.get 6 (fe vs)=some r):kz res (fun r0 σ'=>∃r',gu σ'.get 6 r0=some r'/\r'=r) x env σ:=by
 rcases hx with rfl|rfl
 ·exact⟨vs,hv,r,hz,rfl⟩
 ·exact⟨vs,hv,r,hz,rfl⟩
theorem fw {res:List nH} {K:AV->ar->Prop} {vs:List AV} {x:Ex} (hx:x=.ret∨x=.normal) (hv:fq env σ.get res=some vs) (hK:K (fe vs) σ):kz res K x env σ:=by
 rcases hx with rfl|rfl
 ·exact⟨vs,hv,hK⟩
 ·exact⟨vs,hv,hK⟩
theorem eT {f:Nat} {args:List AV} {σ:ar} {K:AV->ar->Prop} {nt na:Nat} {body:VC} {res:List nH} (hf:l5 P f=some ⟨nt,na,body,res⟩) (ha:na=args.length) (h:(∀a∈args,eG a)->dI (Call P) body (kz res K) (cD args) σ):Call P f args σ K:=l9 hf ha h
theorem Hv {f:Nat} {md:List (Nat×Nat)} {args:List AV} {σ:ar} {K:AV->ar->Prop} {nt na:Nat} {body:VC} {res:List nH} (hf:xo P f md=some ⟨nt,na,body,res⟩) (ha:na=args.length) (h:(∀a∈args,eG a)->dI (Call P) body (kz res K) (cD args) σ):Call P f args σ K:=uQ hf ha h
theorem dw {i:Id} {n:Nat} (h:i.bP<n):(∀s,(i=⟨s,n⟩)=False/\(i=⟨s,n+1⟩)=False/\(i=⟨s,n+1+1⟩)=False/\(i=⟨s,n+1+1+1⟩)=False/\(i=⟨s,n+1+1+1+1⟩)=False/\(i=⟨s,n+1+1+1+1+1⟩)=False/\(i=⟨s,n+1+1+1+1+1+1⟩)=False/\(i=⟨s,n+1+1+1+1+1+1+1⟩)=False/\(i=⟨s,n+1+1+1+1+1+1+1+1⟩)=False/\(i=⟨s,n+1+1+1+1+1+1+1+1+1⟩)=False/\(⟨s,n⟩=i)=False/\(⟨s,n+1⟩=i)=False/\(⟨s,n+1+1⟩=i)=False/\(⟨s,n+1+1+1⟩=i)=False/\(⟨s,n+1+1+1+1⟩=i)=False/\(⟨s,n+1+1+1+1+1⟩=i)=False/\(⟨s,n+1+1+1+1+1+1⟩=i)=False/\(⟨s,n+1+1+1+1+1+1+1⟩=i)=False/\(⟨s,n+1+1+1+1+1+1+1+1⟩=i)=False/\(⟨s,n+1+1+1+1+1+1+1+1+1⟩=i)=False)/\(i.bP=n)=False/\(i.bP=n+1)=False/\(i.bP=n+1+1)=False/\(i.bP=n+1+1+1)=False/\(i.bP=n+1+1+1+1)=False/\(i.bP=n+1+1+1+1+1)=False/\(i.bP=n+1+1+1+1+1+1)=False/\(i.bP=n+1+1+1+1+1+1+1)=False/\(i.bP=n+1+1+1+1+1+1+1+1)=False/\(i.bP=n+1+1+1+1+1+1+1+1+1)=False:=by
 refine⟨fun s=>?_,?_⟩
 ·obtain⟨a,b⟩:=i
  simp only[Id.mk.injEq,eq_iff_iff,iff_false,not_and]
  simp only at h
  refine⟨?_,?_,?_,?_,?_,?_,?_,?_,?_,?_,?_,?_,?_,?_,?_,?_,?_,?_,?_,?_⟩<;>(intros;omega)
 ·simp only[eq_iff_iff,iff_false]
  refine⟨?_,?_,?_,?_,?_,?_,?_,?_,?_,?_⟩<;>omega
def gC (a b:Nat) (ids:List Id):Prop:=ids.Nodup/\∀i∈ids,a<=i.bP/\i.bP<b
def Kept (σ σ':ar):Prop:=σ.next<=σ'.next/\∀j:Id,j.bP<σ.next->σ'.get j=σ.get j
theorem Kept.trans {a b c:ar} (h:Kept a b) (k:Kept b c):Kept a c:=⟨Nat.le_trans h.1 k.1,fun j hj=>(k.2 j (Nat.lt_of_lt_of_le hj h.1)).trans (h.2 j hj)⟩
theorem gC.wide {a b a' b':Nat} {ids:List Id} (h:gC a b ids) (h1:a'<=a) (h2:b<=b'):gC a' b' ids:=⟨h.1,fun i hi=>⟨Nat.le_trans h1 (h.2 i hi).1,Nat.lt_of_lt_of_le (h.2 i hi).2 h2⟩⟩
theorem gC.app {a b c d:Nat} {i j:List Id} (h:gC a b i) (k:gC c d j) (NV:b<=c) (qv:a<=b) (hcd:c<=d):gC a d (i++j):=
 ⟨List.nodup_append.2 ⟨h.1,k.1,fun x hx y hy e=>by subst e;have:=(h.2 x hx).2;have:=(k.2 x hy).1;omega⟩,fun x hx=>by
  rcases List.mem_append.1 hx with hx|hx
  ·have:=h.2 x hx;omega
  ·have:=k.2 x hx;omega⟩
end Go.Proofs.YtgoelphibofcmaaGreat.V

namespace Go.Proofs.YtgoelphibofcmaaGreat.V
open Go.RowKit
attribute [local irreducible] dI wpOps gD Call
attribute [local go_sem] aM fM eP gp gm cN upd cD K.av cR AV.cells AV.cell rowOf rowsOf part ld rowAt bz cu dG ef ik bQ dh eA gj e9 dq ek dd dc dU dV bW bf cW bV cY cX ei eo ej cV ck de eh bU aT da cG ij bx cQ b4 aY dn bc dH AV.undef bF bI eb ee dP dM cJ ez eE cF er ep cZ db List.getD_cons_zero List.getD_cons_succ List.getD_nil List.all_cons List.all_nil Bool.and_true Bool.true_and Bool.and_self Bool.not_true Bool.not_false Option.map_some Option.map_none Option.bind_some Option.bind_none List.length_cons List.length_nil List.take_succ_cons List.take_zero List.take_nil List.drop_succ_cons List.drop_zero List.drop_nil List.head?_cons List.map_cons List.map_nil List.getElem?_cons_zero List.getElem?_cons_succ List.cons_append List.nil_append List.append_nil List.length_map List.set_cons_zero List.set_cons_succ Nat.reduceMul eq_self Int.toNat_natCast Int.natCast_nonneg and_self true_and and_true decide_true decide_false Bool.false_eq_true Nat.zero_add Nat.add_zero List.contains_cons List.contains_nil Bool.or_false Bool.false_or beq_self_eq_true Nat.reduceBEq ne_eq not_true_eq_false not_false_eq_true Id.mk.injEq false_and and_false Nat.reduceLT Int.reduceLE Int.reduceLT Int.reduceToNat Int.reduceNeg Int.reduceAdd Nat.le_refl List.length_append beq_true beq_false Bool.not_eq_eq_eq_not or_false false_or dO ai aj aH bp bE cz aX bl aW bj cU bH
variable {P:Program}
def JS (f g z:Nat):Ay:=let s:=f*1000000
 ⟨27,2,(.seq (.eI false [q 4 (.dm (.k (.int .i64 0))) s]) (.seq (.eI false [q 6 (.dm (.t 1)) (s+1000),q 7 (.dm (.t 0)) (s+1001),q 8 (.len (.t 7)) (s+1002),q 9 (.bin .sub .i64 (.t 6) (.t 8)) (s+1003),q 1 (.dm (.t 9)) (s+1004)]) (.seq (.seq (.eI false [q 10 (.dm (.t 1)) (s+2000),q 11 (.bin .lss .i64 (.t 10) (.k (.int .i64 0))) (s+2001)]) (.cond (.t 11) (.seq (.eI false [q 4 (.dm (.k (.int .i64 (-1)))) (s+3000)]) .ret) .skip)) (.seq (.seq (.eI false [q 5 (.dm (.k (.int .i64 0))) (s+4000)]) (.block 0 (.loop (.seq (.seq (.eI false [q 12 (.dm (.t 5)) (s+5000),q 13 (.dm (.t 0)) (s+5001),q 14 (.len (.t 13)) (s+5002),q 15 (.bin .lss .i64 (.t 12) (.t 14)) (s+5003)]) (.cond (.t 15) .skip (.exit 0))) (.seq (.block 1 (.seq (.eI false [q 18 (.dm (.t 0)) (s+7000),q 19 (.dm (.t 5)) (s+7001),q 20 (.dJ z (.t 18) (.t 19)) (s+7002),q 21 (.load true z (.t 20)) (s+7003),q 22 (.dm (.t 1)) (s+7004),q 23 (.call g [(.t 21),(.t 22)]) (s+7005),q 1 (.dm (.t 23)) (s+7006)]) (.seq (.eI false [q 24 (.dm (.t 1)) (s+8000),q 25 (.bin .lss .i64 (.t 24) (.k (.int .i64 0))) (s+8001)]) (.cond (.t 25) (.seq (.eI false [q 4 (.dm (.k (.int .i64 (-1)))) (s+9000)]) .ret) .skip)))) (.eI false [q 16 (.dm (.t 5)) (s+6000),q 17 (.bin .add .i64 (.t 16) (.k (.int .i64 1))) (s+6001),q 5 (.dm (.t 17)) (s+6002)])))))) (.seq (.eI false [q 26 (.dm (.t 1)) (s+10000),q 4 (.dm (.t 26)) (s+10001)]) .ret))))),[(.tmp 4)]⟩
def JQ (f:Nat):Ay:=let s:=f*1000000
 ⟨12,2,(.seq (.eI false [q 4 (.dm (.k (.int .i64 0))) s]) (.seq (.eI false [q 5 (.dm (.t 1)) (s+1000),q 6 (.dm (.t 0)) (s+1001),q 7 (.len (.t 6)) (s+1002),q 8 (.bin .sub .i64 (.t 5) (.t 7)) (s+1003),q 1 (.dm (.t 8)) (s+1004)]) (.seq (.seq (.eI false [q 9 (.dm (.t 1)) (s+2000),q 10 (.bin .lss .i64 (.t 9) (.k (.int .i64 0))) (s+2001)]) (.cond (.t 10) (.seq (.eI false [q 4 (.dm (.k (.int .i64 (-1)))) (s+3000)]) .ret) .skip)) (.seq (.eI false [q 11 (.dm (.t 1)) (s+4000),q 4 (.dm (.t 11)) (s+4001)]) .ret)))),[(.tmp 4)]⟩
def Bb (f g z:Nat):Ay:=let s:=f*1000000
 ⟨27,2,(.seq (.eI false [q 4 (.dm (.k (.bool false))) s]) (.seq (.seq (.eI false [q 6 (.dm (.t 0)) (s+1000),q 7 (.len (.t 6)) (s+1001),q 8 (.dm (.t 1)) (s+1002),q 9 (.len (.t 8)) (s+1003),q 10 (.Nx true .tI (.t 7) (.t 9)) (s+1004)]) (.cond (.t 10) (.seq (.eI false [q 4 (.dm (.k (.bool false))) (s+2000)]) .ret) .skip)) (.seq (.seq (.eI false [q 5 (.dm (.k (.int .i64 0))) (s+3000)]) (.block 0 (.loop (.seq (.seq (.eI false [q 11 (.dm (.t 5)) (s+4000),q 12 (.dm (.t 0)) (s+4001),q 13 (.len (.t 12)) (s+4002),q 14 (.bin .lss .i64 (.t 11) (.t 13)) (s+4003)]) (.cond (.t 14) .skip (.exit 0))) (.seq (.block 1 (.seq (.eI true [q 17 (.dm (.t 0)) (s+6000),q 18 (.dm (.t 5)) (s+6001),q 19 (.dJ z (.t 17) (.t 18)) (s+6002),q 20 (.load true z (.t 19)) (s+6003),q 21 (.dm (.t 1)) (s+6004),q 22 (.dm (.t 5)) (s+6005),q 23 (.dJ z (.t 21) (.t 22)) (s+6006),q 24 (.load true z (.t 23)) (s+6007),q 25 (.call g [(.t 20),(.t 24)]) (s+6008),q 26 (.not (.t 25)) (s+6009)]) (.cond (.t 26) (.seq (.eI false [q 4 (.dm (.k (.bool false))) (s+7000)]) .ret) .skip))) (.eI false [q 15 (.dm (.t 5)) (s+5000),q 16 (.bin .add .i64 (.t 15) (.k (.int .i64 1))) (s+5001),q 5 (.dm (.t 16)) (s+5002)])))))) (.seq (.eI false [q 4 (.dm (.k (.bool true))) (s+8000)]) .ret)))),[(.tmp 4)]⟩
def Mr (f:Nat) (t:TS):Ay:=let s:=f*1000000
 ⟨26,2,(.seq (.eI false [q 4 (.dm (.k (.bool false))) s]) (.seq (.seq (.eI false [q 6 (.dm (.t 0)) (s+1000),q 7 (.len (.t 6)) (s+1001),q 8 (.dm (.t 1)) (s+1002),q 9 (.len (.t 8)) (s+1003),q 10 (.Nx true .tI (.t 7) (.t 9)) (s+1004)]) (.cond (.t 10) (.seq (.eI false [q 4 (.dm (.k (.bool false))) (s+2000)]) .ret) .skip)) (.seq (.seq (.eI false [q 5 (.dm (.k (.int .i64 0))) (s+3000)]) (.block 0 (.loop (.seq (.seq (.eI false [q 11 (.dm (.t 5)) (s+4000),q 12 (.dm (.t 0)) (s+4001),q 13 (.len (.t 12)) (s+4002),q 14 (.bin .lss .i64 (.t 11) (.t 13)) (s+4003)]) (.cond (.t 14) .skip (.exit 0))) (.seq (.block 1 (.seq (.eI true [q 17 (.dm (.t 0)) (s+6000),q 18 (.dm (.t 5)) (s+6001),q 19 (.dJ 1 (.t 17) (.t 18)) (s+6002),q 20 (.load false 1 (.t 19)) (s+6003),q 21 (.dm (.t 1)) (s+6004),q 22 (.dm (.t 5)) (s+6005),q 23 (.dJ 1 (.t 21) (.t 22)) (s+6006),q 24 (.load false 1 (.t 23)) (s+6007),q 25 (.Nx true t (.t 20) (.t 24)) (s+6008)]) (.cond (.t 25) (.seq (.eI false [q 4 (.dm (.k (.bool false))) (s+7000)]) .ret) .skip))) (.eI false [q 15 (.dm (.t 5)) (s+5000),q 16 (.bin .add .i64 (.t 15) (.k (.int .i64 1))) (s+5001),q 5 (.dm (.t 16)) (s+5002)])))))) (.seq (.eI false [q 4 (.dm (.k (.bool true))) (s+8000)]) .ret)))),[(.tmp 4)]⟩
def tW (f g z:Nat) (zero:List K):Ay:=let s:=f*1000000
 ⟨23,1,(.seq (.eI false [q 2 (.dm (.k .cq)) s]) (.seq (.eI false [q 5 (.dm (.t 0)) (s+1000),q 6 (.len (.t 5)) (s+1001),q 7 (.jX zero (.t 6) (.t 6)) (s+1002),q 3 (.dm (.t 7)) (s+1003)]) (.seq (.seq (.eI false [q 4 (.dm (.k (.int .i64 0))) (s+2000)]) (.block 0 (.loop (.seq (.seq (.eI false [q 8 (.dm (.t 4)) (s+3000),q 9 (.dm (.t 0)) (s+3001),q 10 (.len (.t 9)) (s+3002),q 11 (.bin .lss .i64 (.t 8) (.t 10)) (s+3003)]) (.cond (.t 11) .skip (.exit 0))) (.seq (.block 1 (.eI false [q 14 (.dm (.t 3)) (s+5000),q 15 (.dm (.t 4)) (s+5001),q 16 (.dm (.t 0)) (s+5002),q 17 (.dm (.t 4)) (s+5003),q 18 (.dJ z (.t 16) (.t 17)) (s+5004),q 19 (.load true z (.t 18)) (s+5005),q 20 (.call g [(.t 19)]) (s+5006),q 21 (.dJ z (.t 14) (.t 15)) (s+5007),⟨none,(.store z (.t 21) (.t 20)),none,(s+5008),[]⟩])) (.eI false [q 12 (.dm (.t 4)) (s+4000),q 13 (.bin .add .i64 (.t 12) (.k (.int .i64 1))) (s+4001),q 4 (.dm (.t 13)) (s+4002)])))))) (.seq (.eI false [q 22 (.dm (.t 3)) (s+6000),q 2 (.dm (.t 22)) (s+6001)]) .ret)))),[(.tmp 2)]⟩
def J5 (f:Nat) (zero:K):Ay:=let s:=f*1000000
 ⟨22,1,(.seq (.eI false [q 2 (.dm (.k .cq)) s]) (.seq (.eI false [q 5 (.dm (.t 0)) (s+1000),q 6 (.len (.t 5)) (s+1001),q 7 (.jX [zero] (.t 6) (.t 6)) (s+1002),q 3 (.dm (.t 7)) (s+1003)]) (.seq (.seq (.eI false [q 4 (.dm (.k (.int .i64 0))) (s+2000)]) (.block 0 (.loop (.seq (.seq (.eI false [q 8 (.dm (.t 4)) (s+3000),q 9 (.dm (.t 0)) (s+3001),q 10 (.len (.t 9)) (s+3002),q 11 (.bin .lss .i64 (.t 8) (.t 10)) (s+3003)]) (.cond (.t 11) .skip (.exit 0))) (.seq (.block 1 (.eI false [q 14 (.dm (.t 3)) (s+5000),q 15 (.dm (.t 4)) (s+5001),q 16 (.dm (.t 0)) (s+5002),q 17 (.dm (.t 4)) (s+5003),q 18 (.dJ 1 (.t 16) (.t 17)) (s+5004),q 19 (.load false 1 (.t 18)) (s+5005),q 20 (.dJ 1 (.t 14) (.t 15)) (s+5006),⟨none,(.store 1 (.t 20) (.t 19)),none,(s+5007),[]⟩])) (.eI false [q 12 (.dm (.t 4)) (s+4000),q 13 (.bin .add .i64 (.t 12) (.k (.int .i64 1))) (s+4001),q 4 (.dm (.t 13)) (s+4002)])))))) (.seq (.eI false [q 21 (.dm (.t 3)) (s+6000),q 2 (.dm (.t 21)) (s+6001)]) .ret)))),[(.tmp 2)]⟩
def xK (n:Nat) (l:Int):Int:=if (n:Int)<=l then l-n else -1
theorem JR {fk:Nat} (hc:l5 P fk=some (JQ fk)) (rows:List (List AV)) (left:Int) (h0:0<=left) (h1:left<=1048576):aq P fk [.sl rows,.int .i64 left] (.int .i64 (xK rows.length left)):=by
 refine aq.body hc rfl fun hl n0=>?_
 try simp only[q]
 have hn:rows.length<=9223372036854775807:=(hl (.sl rows) (by simp)).len
 clear hl
 have hw:IntKind.i64.wrap (left-(rows.length:Int))=left-rows.length:=bt (by omega)
 by_cases hf:(rows.length:Int)<=left
 ·have kr:¬left-(rows.length:Int)<0:=by omega
  (try((repeat(revert hN;revert N;apply Pn.out));refine wk (tw @hw @kr) ?_;(repeat(refine Pn.mk ?_;intro N hN))))
  exact cj (b:=left-(rows.length:Int)) (.inl rfl) (sd @Nat.zero_add) (by rw[xK,if_pos hf])
 ·have kr:left-(rows.length:Int)<0:=by omega
  (try((repeat(revert hN;revert N;apply Pn.out));refine wk (tw @hw @kr) ?_;(repeat(refine Pn.mk ?_;intro N hN))))
  exact cj (b:=-1) (.inl rfl) (sd @Nat.zero_add) (by rw[xK,if_neg hf])
def iH {α:Type} (f:α->Nat) (xs:List α) (k:Nat):Nat:=((xs.take k).map f).sum
theorem mD {α:Type} (f:α->Nat) (xs:List α):iH f xs 0=0:=by simp[iH]
theorem Cl {α:Type} (f:α->Nat) (xs:List α):iH f xs xs.length=(xs.map f).sum:=by simp[iH]
theorem wU {α:Type} (f:α->Nat) {xs:List α} {k:Nat} (hk:k<xs.length):iH f xs (k+1)=iH f xs k+f xs[k]:=by
 unfold iH
 rw[List.take_succ_eq_append_getElem hk,List.map_append,List.sum_append];simp
theorem qb {α:Type} (f:α->Nat) (xs:List α) (k:Nat):iH f xs k<=(xs.map f).sum:=by
 unfold iH
 conv=>rhs;rw[<-List.take_append_drop k xs]
 rw[List.map_append,List.sum_append];omega
theorem JT {α:Type} {e:α->List AV} {z fk gk:Nat} (wt:α->Nat) (hc:l5 P fk=some (JS fk gk z)) (hz:∀x,(e x).length=z) (CB:∀x g,cP g 6 [.agg (e x)]=some [.agg (e x)]) (xs:List α) (left:Int) (h0:0<=left) (h1:left<=1048576)
  (hg:∀x∈xs,∀l:Int,0<=l->l<=1048576->aq P gk [.agg (e x),.int .i64 l] (.int .i64 (xK (wt x) l))):aq P fk [.sl (xs.map e),.int .i64 left] (.int .i64 (xK (xs.length+(xs.map wt).sum) left)):=by
 refine aq.body hc rfl fun hl n0=>?_
 try simp only[q]
 have hn:xs.length<=9223372036854775807:=by simpa using(hl (.sl (xs.map e)) (by simp)).len
 clear hl
 have hw:IntKind.i64.wrap (left-(xs.length:Int))=left-xs.length:=bt (by omega)
 by_cases hf:(xs.length:Int)<=left
 ·have kr:¬left-(xs.length:Int)<0:=by omega
  (try((repeat(revert hN;revert N;apply Pn.out));refine wk (tw @hw @kr) ?_;(repeat(refine Pn.mk ?_;intro N hN))))
  refine aV (fun n env st=>∃k:Nat,n=(xs.length)-k/\k<=(xs.length)/\env 5=.int .i64 (k:Int)/\env 1=(.int .i64 (left-xs.length-(iH wt xs k:Nat)))/\(0<=left-xs.length-(iH wt xs k:Nat))) (xs.length) ⟨0,by omega,by omega,sl (tw @mD (tw @Int.natCast_zero @Int.sub_zero)),sl (tw @mD (tw @Int.natCast_zero @Int.sub_zero)),(by rw[mD];omega)⟩ ?_
  rintro n_a env_a st_a ⟨k,rfl,ale,a5,a1,lQ⟩ dD
  have a0:=dD 0 (by kernel_rfl)
  simp only[go_sem, ↓reduceIte,Nat.reduceEqDiff,Nat.reduceAdd,Nat.reduceSub,Nat.reduceLeDiff,reduceCtorEq,mD,Int.natCast_zero,Int.sub_zero]at a0
  clear dD
  by_cases hk:(k:Int)<(xs.length:Int)
  ·have cC:∀{e:Env},(e 5=.int .i64 (IntKind.i64.wrap ((k:Int)+1)))->(e 1=(.int .i64 (left-xs.length-(iH wt xs (k+1):Nat))))->(0<=left-xs.length-(iH wt xs (k+1):Nat))->∃m0,m0<(xs.length)-k/\∃k:Nat,m0=(xs.length)-k/\k<=(xs.length)/\e 5=.int .i64 (k:Int)/\e 1=(.int .i64 (left-xs.length-(iH wt xs k:Nat)))/\(0<=left-xs.length-(iH wt xs k:Nat)):=fun x1 x2 x3=>⟨_,by omega,k+1,rfl,by omega,(by rw[x1,az (by omega)]),x2,x3⟩
   have fy:k<xs.length:=by omega
   have eQ:(xs.map e)[k]? =some (e xs[k]):=by simp[fy]
   have tJ:=hz xs[k]
   have ht:(e xs[k]).take z=e xs[k]:=by rw[<-tJ,List.take_length]
   have hs:=wU wt fy
   have CF:=qb wt xs (k+1)
   have im:=hg _ (List.getElem_mem fy) (left-xs.length-(iH wt xs k:Nat)) lQ (by omega)
   have lg:cP (dO st_a.get) 6 [.agg (e xs[k]),.int .i64 (left-xs.length-(iH wt xs k:Nat))]=some [.agg (e xs[k]),.int .i64 (left-xs.length-(iH wt xs k:Nat))]:=by
    have q1:=CB xs[k] (dO st_a.get)
    rw[ai,aj]at q1
    rw[ai,ai,aj,aH]
    revert q1
    cases V.fz (dO st_a.get) 6 (.agg (e xs[k]))<;>simp
   by_cases sN:(wt xs[k]:Int)<=left-xs.length-(iH wt xs k:Nat)
   ·rw[xK,if_pos sN]at im
    have xx:¬left-xs.length-(iH wt xs k:Nat)-(wt xs[k]:Int)<0:=by omega
    have qx:left-xs.length-(iH wt xs k:Nat)-(wt xs[k]:Int)=left-xs.length-(iH wt xs (k+1):Nat):=by rw[hs];omega
    generalize hex:e xs[k]=c at im lg eQ tJ ht
    (try((repeat(revert hN;revert N;apply Pn.out));refine wk (tw @a5 (tw @a1 (tw @a0 (tw @hk (tw @eQ (tw @tJ (tw @ht @Nat.le_refl))))))) ?_;(repeat(refine Pn.mk ?_;intro N hN))))
    refine .inl ⟨_,aq.x im lg,?_⟩
    refine hN _ _ ?_
    clear hN N
    (try((repeat(revert hN;revert N;apply Pn.out));refine wk (tw @a5 (tw @a1 (tw @a0 @xx))) ?_;(repeat(refine Pn.mk ?_;intro N hN))))
    refine cC ?_ ?_ ((by rw[hs];omega))
    all_goals simp only[go_sem, ↓reduceIte,Nat.reduceEqDiff,Nat.reduceAdd,Nat.reduceSub,Nat.reduceLeDiff,reduceCtorEq,a5,a1,a0,qx]
   ·rw[xK,if_neg sN]at im
    generalize hex:e xs[k]=c at im lg eQ tJ ht
    (try((repeat(revert hN;revert N;apply Pn.out));refine wk (tw @a5 (tw @a1 (tw @a0 (tw @hk (tw @eQ (tw @tJ (tw @ht @Nat.le_refl))))))) ?_;(repeat(refine Pn.mk ?_;intro N hN))))
    refine .inl ⟨_,aq.x im lg,?_⟩
    refine hN _ _ ?_
    clear hN N
    (try((repeat(revert hN;revert N;apply Pn.out));refine wk (tw @a5 (tw @a1 @a0)) ?_;(repeat(refine Pn.mk ?_;intro N hN))))
    exact cj (b:=-1) (.inl rfl) (sd @Nat.zero_add) (by rw[xK,if_neg (by omega)])
  ·(try((repeat(revert hN;revert N;apply Pn.out));refine wk (tw @a5 (tw @a1 (tw @a0 @hk))) ?_;(repeat(refine Pn.mk ?_;intro N hN))))
   have fy:k=xs.length:=by omega
   subst fy
   have Sd:=Cl wt xs
   exact cj (b:=left-xs.length-(iH wt xs xs.length:Nat)) (.inl rfl) (sd (tw @a5 (tw @a1 @a0))) (by rw[xK,if_pos (by omega)];omega)
 ·have kr:left-(xs.length:Int)<0:=by omega
  (try((repeat(revert hN;revert N;apply Pn.out));refine wk (tw @hw @kr) ?_;(repeat(refine Pn.mk ?_;intro N hN))))
  exact cj (b:=-1) (.inl rfl) (sd @Nat.zero_add) (by rw[xK,if_neg (by omega)])
theorem Ia {α:Type} {xs ys:List α} (hl:xs.length=ys.length) (h:∀j:Nat,j<xs.length->∀(h1:j<xs.length) (h2:j<ys.length),xs[j]=ys[j]):xs=ys:=List.ext_getElem hl fun j h1 h2=>h j h1 h1 h2
theorem zq {α:Type} [DecidableEq α] {e:α->List AV} {z fk gk:Nat} (hc:l5 P fk=some (Bb fk gk z)) (hz:∀x,(e x).length=z) (CB:∀x g,cP g 6 [.agg (e x)]=some [.agg (e x)]) (xs ys:List α)
  (hg:∀x y,aq P gk [.agg (e x),.agg (e y)] (.bool (decide (x=y)))):aq P fk [.sl (xs.map e),.sl (ys.map e)] (.bool (decide (xs=ys))):=by
 refine aq.body hc rfl fun hl n0=>?_
 try simp only[q]
 have hn:xs.length<=9223372036854775807:=by simpa using(hl (.sl (xs.map e)) (by simp)).len
 clear hl
 by_cases hlen:xs.length=ys.length
 ·have kN:decide ((xs.length:Int)=(ys.length:Int))=true:=by simp[hlen]
  (try((repeat(revert hN;revert N;apply Pn.out));refine wk @kN ?_;(repeat(refine Pn.mk ?_;intro N hN))))
  refine aV (fun n env st=>∃k:Nat,n=(xs.length)-k/\k<=(xs.length)/\env 5=.int .i64 (k:Int)/\(∀j:Nat,j<k->∀(h1:j<xs.length) (h2:j<ys.length),xs[j]=ys[j])) (xs.length) ⟨0,by omega,by omega,sl @Nat.zero_add,fun _ h=>absurd h (Nat.not_lt_zero _)⟩ ?_
  rintro n_a env_a st_a ⟨k,rfl,ale,a5,lZ⟩ dD
  have a0:=dD 0 (by kernel_rfl);have a1:=dD 1 (by kernel_rfl)
  simp only[go_sem, ↓reduceIte,Nat.reduceEqDiff,Nat.reduceAdd,Nat.reduceSub,Nat.reduceLeDiff,reduceCtorEq]at a0 a1
  clear dD
  by_cases hk:(k:Int)<(xs.length:Int)
  ·have cC:∀{e:Env},(e 5=.int .i64 (IntKind.i64.wrap ((k:Int)+1)))->(∀(h1:k<xs.length) (h2:k<ys.length),xs[k]=ys[k])->∃m0,m0<(xs.length)-k/\∃k:Nat,m0=(xs.length)-k/\k<=(xs.length)/\e 5=.int .i64 (k:Int)/\(∀j:Nat,j<k->∀(h1:j<xs.length) (h2:j<ys.length),xs[j]=ys[j]):=fun x1 x2=>⟨_,by omega,k+1,rfl,by omega,(by rw[x1,az (by omega)]),(all_succ lZ x2)⟩
   have fy:k<xs.length:=by omega
   have Ss:k<ys.length:=by omega
   have eQ:(xs.map e)[k]? =some (e xs[k]):=by simp[fy]
   have Dk:(ys.map e)[k]? =some (e ys[k]):=by simp[Ss]
   have tJ:=hz xs[k]
   have Du:=hz ys[k]
   have ht:(e xs[k]).take z=e xs[k]:=by rw[<-tJ,List.take_length]
   have Ho:(e ys[k]).take z=e ys[k]:=by rw[<-Du,List.take_length]
   have im:=hg xs[k] ys[k]
   have lg:∀g,cP g 6 [.agg (e xs[k]),.agg (e ys[k])]=some [.agg (e xs[k]),.agg (e ys[k])]:=fun g=>by
    have q1:=CB xs[k] g
    have q2:=CB ys[k] g
    rw[ai,aj]at q1
    rw[ai,q2]
    revert q1
    cases V.fz g 6 (.agg (e xs[k]))<;>simp
   by_cases heq:xs[k]=ys[k]
   ·rw[decide_eq_true heq]at im
    generalize hex:e xs[k]=c at im lg eQ tJ ht
    generalize hey:e ys[k]=d at im lg Dk Du Ho
    (try((repeat(revert hN;revert N;apply Pn.out));refine wk (tw @a5 (tw @a0 (tw @a1 (tw @hk (tw @eQ (tw @Dk (tw @tJ (tw @Du (tw @ht (tw @Ho @Nat.le_refl)))))))))) ?_;(repeat(refine Pn.mk ?_;intro N hN))))
    refine⟨_,aq.x im (lg _),?_⟩
    refine hN _ _ ?_
    clear hN N
    (try((repeat(revert hN;revert N;apply Pn.out));refine wk (tw @a5 (tw @a0 @a1)) ?_;(repeat(refine Pn.mk ?_;intro N hN))))
    exact cC (sd (tw @a5 (tw @a0 @a1))) (fun _ _=>heq)
   ·rw[decide_eq_false heq]at im
    generalize hex:e xs[k]=c at im lg eQ tJ ht
    generalize hey:e ys[k]=d at im lg Dk Du Ho
    (try((repeat(revert hN;revert N;apply Pn.out));refine wk (tw @a5 (tw @a0 (tw @a1 (tw @hk (tw @eQ (tw @Dk (tw @tJ (tw @Du (tw @ht (tw @Ho @Nat.le_refl)))))))))) ?_;(repeat(refine Pn.mk ?_;intro N hN))))
    refine⟨_,aq.x im (lg _),?_⟩
    refine hN _ _ ?_
    clear hN N
    (try((repeat(revert hN;revert N;apply Pn.out));refine wk (tw @a5 (tw @a0 @a1)) ?_;(repeat(refine Pn.mk ?_;intro N hN))))
    exact aU (b:=false) (.inl rfl) (sd @Nat.zero_add) (decide_eq_false fun h=>heq (List.getElem_of_eq h _)).symm
  ·(try((repeat(revert hN;revert N;apply Pn.out));refine wk (tw @a5 (tw @a0 (tw @a1 @hk))) ?_;(repeat(refine Pn.mk ?_;intro N hN))))
   exact aU (b:=true) (.inl rfl) (sd @Nat.zero_add) (decide_eq_true (Ia hlen fun j hj h1 h2=>lZ j (by omega) h1 h2)).symm
 ·have kN:decide ((xs.length:Int)=(ys.length:Int))=false:=decide_eq_false fun h=>hlen (by omega)
  (try((repeat(revert hN;revert N;apply Pn.out));refine wk @kN ?_;(repeat(refine Pn.mk ?_;intro N hN))))
  exact aU (b:=false) (.inl rfl) (sd @Nat.zero_add) (decide_eq_false fun h=>hlen (by subst h;rfl)).symm
theorem Qe {fk:Nat} (hc:l5 P fk=some (Mr fk .tI)) (xs ys:List Int):
  aq P fk [.sl (xs.map fun x=>[AV.int .i64 x]),.sl (ys.map fun x=>[AV.int .i64 x])] (.bool (decide (xs=ys))):=by
 refine aq.body hc rfl fun hl n0=>?_
 try simp only[q]
 have hn:xs.length<=9223372036854775807:=by simpa using(hl (.sl (xs.map fun x=>[AV.int .i64 x])) (by simp)).len
 clear hl
 by_cases hlen:xs.length=ys.length
 ·have kN:decide ((xs.length:Int)=(ys.length:Int))=true:=by simp[hlen]
  (try((repeat(revert hN;revert N;apply Pn.out));refine wk @kN ?_;(repeat(refine Pn.mk ?_;intro N hN))))
  refine aV (fun n env st=>∃k:Nat,n=(xs.length)-k/\k<=(xs.length)/\env 5=.int .i64 (k:Int)/\(∀j:Nat,j<k->∀(h1:j<xs.length) (h2:j<ys.length),xs[j]=ys[j])) (xs.length) ⟨0,by omega,by omega,sl @Nat.zero_add,fun _ h=>absurd h (Nat.not_lt_zero _)⟩ ?_
  rintro n_a env_a st_a ⟨k,rfl,ale,a5,lZ⟩ dD
  have a0:=dD 0 (by kernel_rfl);have a1:=dD 1 (by kernel_rfl)
  simp only[go_sem, ↓reduceIte,Nat.reduceEqDiff,Nat.reduceAdd,Nat.reduceSub,Nat.reduceLeDiff,reduceCtorEq]at a0 a1
  clear dD
  by_cases hk:(k:Int)<(xs.length:Int)
  ·have cC:∀{e:Env},(e 5=.int .i64 (IntKind.i64.wrap ((k:Int)+1)))->(∀(h1:k<xs.length) (h2:k<ys.length),xs[k]=ys[k])->∃m0,m0<(xs.length)-k/\∃k:Nat,m0=(xs.length)-k/\k<=(xs.length)/\e 5=.int .i64 (k:Int)/\(∀j:Nat,j<k->∀(h1:j<xs.length) (h2:j<ys.length),xs[j]=ys[j]):=fun x1 x2=>⟨_,by omega,k+1,rfl,by omega,(by rw[x1,az (by omega)]),(all_succ lZ x2)⟩
   have fy:k<xs.length:=by omega
   have Ss:k<ys.length:=by omega
   have eQ:(xs.map fun x=>[AV.int .i64 x])[k]? =some [.int .i64 xs[k]]:=by simp[fy]
   have Dk:(ys.map fun x=>[AV.int .i64 x])[k]? =some [.int .i64 ys[k]]:=by simp[Ss]
   by_cases heq:xs[k]=ys[k]
   ·have hq:=decide_eq_true heq
    (try((repeat(revert hN;revert N;apply Pn.out));refine wk (tw @a5 (tw @a0 (tw @a1 (tw @hk (tw @eQ (tw @Dk @hq)))))) ?_;(repeat(refine Pn.mk ?_;intro N hN))))
    exact cC (sd (tw @a5 (tw @a0 @a1))) (fun _ _=>heq)
   ·have hq:=decide_eq_false heq
    (try((repeat(revert hN;revert N;apply Pn.out));refine wk (tw @a5 (tw @a0 (tw @a1 (tw @hk (tw @eQ (tw @Dk @hq)))))) ?_;(repeat(refine Pn.mk ?_;intro N hN))))
    exact aU (b:=false) (.inl rfl) (sd @Nat.zero_add) (decide_eq_false fun h=>heq (List.getElem_of_eq h _)).symm
  ·(try((repeat(revert hN;revert N;apply Pn.out));refine wk (tw @a5 (tw @a0 (tw @a1 @hk))) ?_;(repeat(refine Pn.mk ?_;intro N hN))))
   exact aU (b:=true) (.inl rfl) (sd @Nat.zero_add) (decide_eq_true (Ia hlen fun j hj h1 h2=>lZ j (by omega) h1 h2)).symm
 ·have kN:decide ((xs.length:Int)=(ys.length:Int))=false:=decide_eq_false fun h=>hlen (by omega)
  (try((repeat(revert hN;revert N;apply Pn.out));refine wk @kN ?_;(repeat(refine Pn.mk ?_;intro N hN))))
  exact aU (b:=false) (.inl rfl) (sd @Nat.zero_add) (decide_eq_false fun h=>hlen (by subst h;rfl)).symm
theorem uZ (l:List AV):l++[]=l:=List.append_nil l
def gO {α:Type} (e:α->List AV) (zc:List AV) (xs:List α) (k:Nat):List (List AV):=(xs.take k).map e++List.replicate (xs.length-k) zc
theorem ow {α:Type} (e:α->List AV) (zc:List AV) (xs:List α):List.replicate xs.length zc=gO e zc xs 0:=by simp[gO]
theorem qj {α:Type} (e:α->List AV) (zc:List AV) (xs:List α):gO e zc xs xs.length=xs.map e:=by simp[gO]
theorem qk {α:Type} (e:α->List AV) (zc:List AV) (xs:List α) {k:Nat} (hk:k<xs.length):(gO e zc xs k)[k]? =some zc:=by
 have h1:((xs.take k).map e).length=k:=by simp;omega
 rw[gO,List.getElem?_append_right (by omega),h1,Nat.sub_self,List.getElem?_replicate,if_pos (by omega)]
theorem ql {α:Type} (e:α->List AV) (zc:List AV) (xs:List α) {k:Nat} (hk:k<xs.length):(gO e zc xs k).set k (e xs[k])=gO e zc xs (k+1):=by
 have h1:((xs.take k).map e).length=k:=by simp;omega
 rw[gO,List.set_append_right _ _ (by omega),h1,Nat.sub_self,gO,List.take_succ_eq_append_getElem hk,List.map_append,List.append_assoc]
 congr 1
 obtain⟨m,hm⟩:∃m,xs.length-k=m+1:=⟨xs.length-k-1,by omega⟩
 rw[hm,show xs.length-(k+1)=m by omega,List.replicate_succ]
 rfl
theorem En {α:Type} {en:α->List AV} {z fk gk:Nat} {zero:List K} (hc:l5 P fk=some (tW fk gk z zero)) (Hr:zero.length=z) (hz:∀x,(en x).length=z) (kn:∀x,(en x).all AV.cell=true) (CB:∀x g,cP g 5 (en x)=some (en x)) (xs:List α) (hlen:xs.length<=1048576)
  (hg:∀x∈xs,kd P gk [.agg (en x)] (.agg (en x))):kd P fk [.sl (xs.map en)] (.sl (xs.map en)):=by
 refine kd.body hc rfl fun hl σ=>?_
 try simp only[q]
 clear hl
 have hm:(xs.length:Int)<=((16777216:Nat):Int):=by omega
 have h0:(0:Int)<=(xs.length:Int):=by omega
 (try((repeat(revert hN;revert N;apply Pn.out));refine wk (tw @hm (tw @h0 (tw @Int.le_refl (tw (ow en (zero.map K.av) xs) @Hr)))) ?_;(repeat(refine Pn.mk ?_;intro N hN))))
 refine aV (fun n env st=>∃k:Nat,n=(xs.length)-k/\k<=(xs.length)/\env 4=.int .i64 (k:Int)/\st.get ⟨fk*1000000+1002,σ.next+1⟩=some ⟨true,z,gO en (zero.map K.av) xs k⟩) (xs.length) ⟨0,by omega,by omega,sl @Nat.zero_add,sl @Nat.zero_add⟩ ?_
 rintro n_a env_a st_a ⟨k,rfl,ale,a4,ag0⟩ dD
 have a0:=dD 0 (by kernel_rfl);have a3:=dD 3 (by kernel_rfl)
 simp only[go_sem, ↓reduceIte,Nat.reduceEqDiff,Nat.reduceAdd,Nat.reduceSub,Nat.reduceLeDiff,reduceCtorEq]at a0 a3
 clear dD
 by_cases hk:(k:Int)<(xs.length:Int)
 ·have cC:∀{e:Env} {gg:Rows},(e 4=.int .i64 (IntKind.i64.wrap ((k:Int)+1)))->(gg ⟨fk*1000000+1002,σ.next+1⟩=some ⟨true,z,gO en (zero.map K.av) xs (k+1)⟩)->∃m0,m0<(xs.length)-k/\∃k:Nat,m0=(xs.length)-k/\k<=(xs.length)/\e 4=.int .i64 (k:Int)/\gg ⟨fk*1000000+1002,σ.next+1⟩=some ⟨true,z,gO en (zero.map K.av) xs k⟩:=fun x1 x2=>⟨_,by omega,k+1,rfl,by omega,(by rw[x1,az (by omega)]),x2⟩
  have fy:k<xs.length:=by omega
  have eQ:(xs.map en)[k]? =some (en xs[k]):=by simp[fy]
  have tJ:=hz xs[k]
  have Kq:=kn xs[k]
  have ht:(en xs[k]).take z=en xs[k]:=by rw[<-tJ,List.take_length]
  have im:=hg _ (List.getElem_mem fy)
  have fQ:=qk en (zero.map K.av) xs fy
  have eC:=ql en (zero.map K.av) xs fy
  have Is:(zero.map K.av).drop z=[]:=List.drop_of_length_le (by simp[Hr])
  generalize hex:en xs[k]=c at im eQ tJ ht Kq eC
  (repeat(first|((repeat(revert hN;revert N;apply Pn.out));refine wk (tw @a4 (tw @ag0 (tw @a0 (tw @a3 (tw @hk (tw @eQ (tw @tJ (tw @ht (tw @Nat.le_refl (tw @fQ (tw @eC (tw @Is (tw @uZ (tw @Kq @Hr)))))))))))))) ?_;(repeat(refine Pn.mk ?_;intro N hN)))|((try apply Or.inl);refine⟨_,kd.x (im) _,?_⟩;refine hN _ _ ?_;clear hN N)))
  refine cC ?_ ?_
  all_goals simp only[go_sem, ↓reduceIte,Nat.reduceEqDiff,Nat.reduceAdd,Nat.reduceSub,Nat.reduceLeDiff,reduceCtorEq,a4,ag0,a0,a3]
 ·(try((repeat(revert hN;revert N;apply Pn.out));refine wk (tw @a4 (tw @ag0 (tw @a0 (tw @a3 @hk)))) ?_;(repeat(refine Pn.mk ?_;intro N hN))))
  have fy:k=xs.length:=by omega
  subst fy
  refine Rt (.inl rfl) (r0:=.own ⟨fk*1000000+1002,σ.next+1⟩ 0 xs.length) (sd (tw @a4 (tw @ag0 (tw @a0 @a3)))) ?_
  rw[qj]at ag0
  exact gP ag0 (by simp) fun x=>CB x _
theorem Rx {fk:Nat} (hc:l5 P fk=some (J5 fk (.int .i64 0))) (xs:List Int) (hlen:xs.length<=1048576):kd P fk [.sl (xs.map fun x=>[AV.int .i64 x])] (.sl (xs.map fun x=>[AV.int .i64 x])):=by
 refine kd.body hc rfl fun hl σ=>?_
 try simp only[q]
 clear hl
 obtain⟨en,Hi⟩:∃en:Int->List AV,en=fun x=>[AV.int .i64 x]:=⟨_,rfl⟩
 rw[<-Hi]
 have hm:(xs.length:Int)<=((16777216:Nat):Int):=by omega
 have h0:(0:Int)<=(xs.length:Int):=by omega
 (try((repeat(revert hN;revert N;apply Pn.out));refine wk (tw @hm (tw @h0 (tw @Int.le_refl (ow en [AV.int .i64 0] xs)))) ?_;(repeat(refine Pn.mk ?_;intro N hN))))
 refine aV (fun n env st=>∃k:Nat,n=(xs.length)-k/\k<=(xs.length)/\env 4=.int .i64 (k:Int)/\st.get ⟨fk*1000000+1002,σ.next+1⟩=some ⟨true,1,gO en [AV.int .i64 0] xs k⟩) (xs.length) ⟨0,by omega,by omega,sl @Nat.zero_add,sl @Nat.zero_add⟩ ?_
 rintro n_a env_a st_a ⟨k,rfl,ale,a4,ag0⟩ dD
 have a0:=dD 0 (by kernel_rfl);have a3:=dD 3 (by kernel_rfl)
 simp only[go_sem, ↓reduceIte,Nat.reduceEqDiff,Nat.reduceAdd,Nat.reduceSub,Nat.reduceLeDiff,reduceCtorEq]at a0 a3
 clear dD
 by_cases hk:(k:Int)<(xs.length:Int)
 ·have cC:∀{e:Env} {gg:Rows},(e 4=.int .i64 (IntKind.i64.wrap ((k:Int)+1)))->(gg ⟨fk*1000000+1002,σ.next+1⟩=some ⟨true,1,gO en [AV.int .i64 0] xs (k+1)⟩)->∃m0,m0<(xs.length)-k/\∃k:Nat,m0=(xs.length)-k/\k<=(xs.length)/\e 4=.int .i64 (k:Int)/\gg ⟨fk*1000000+1002,σ.next+1⟩=some ⟨true,1,gO en [AV.int .i64 0] xs k⟩:=fun x1 x2=>⟨_,by omega,k+1,rfl,by omega,(by rw[x1,az (by omega)]),x2⟩
  have fy:k<xs.length:=by omega
  have eQ:(xs.map en)[k]? =some [AV.int .i64 xs[k]]:=by simp[fy,Hi]
  have fQ:=qk en [AV.int .i64 0] xs fy
  have eC:=ql en [AV.int .i64 0] xs fy
  rw[show en xs[k]=[AV.int .i64 xs[k]] by rw[Hi]]at eC
  (try((repeat(revert hN;revert N;apply Pn.out));refine wk (tw @a4 (tw @ag0 (tw @a0 (tw @a3 (tw @hk (tw @eQ (tw @fQ @eC))))))) ?_;(repeat(refine Pn.mk ?_;intro N hN))))
  refine cC ?_ ?_
  all_goals simp only[go_sem, ↓reduceIte,Nat.reduceEqDiff,Nat.reduceAdd,Nat.reduceSub,Nat.reduceLeDiff,reduceCtorEq,a4,ag0,a0,a3]
 ·(try((repeat(revert hN;revert N;apply Pn.out));refine wk (tw @a4 (tw @ag0 (tw @a0 (tw @a3 @hk)))) ?_;(repeat(refine Pn.mk ?_;intro N hN))))
  have fy:k=xs.length:=by omega
  subst fy
  refine Rt (.inl rfl) (r0:=.own ⟨fk*1000000+1002,σ.next+1⟩ 0 xs.length) (sd (tw @a4 (tw @ag0 (tw @a0 @a3)))) ?_
  rw[qj]at ag0
  exact gP ag0 (by simp) fun x=>by simp[Hi,ai,aj,aH]
end Go.Proofs.YtgoelphibofcmaaGreat.V

namespace Go.Proofs.YtgoelphibofcmaaGreat
open Go.RowKit
def Sl (w:World) (fp:List Nat) (v:Value) (n:Nat) (xs:List Value):Prop:=
 ∃A c,v=.slice A n c/\n<=c/\c<=maxLen/\
  ((fp=[]/\n=0)∨∃b o,fp=[b]/\A=some ⟨b,o,none⟩/\∀j u,xs[j]? =some u->w.cell? ⟨b,o+j,none⟩=some u)
def fG (fp:List Nat) (lo hi:Nat):Prop:=∀b∈fp,lo<=b/\b<hi
theorem fG.nil (lo hi:Nat):fG [] lo hi:=fun _ h=>by cases h
theorem Sl.nil (w:World):Sl w [] (.slice none 0 0) 0 []:=⟨none,0,rfl,Nat.le_refl _,by simp[maxLen],.inl ⟨rfl,rfl⟩⟩
def M9 {α:Type} (rep:World->List Nat->List Value->α->Prop) (sz:Nat) (w:World) (ox:List (List Value)) (EO:List (List Nat)) (ds:List α):Prop:=
 ox.length=ds.length/\EO.length=ds.length/\∀(i:Nat) (cs:List Value) (f:List Nat) (d:α),ox[i]? =some cs->EO[i]? =some f->ds[i]? =some d->rep w f cs d/\cs.length=sz
def mN {α:Type} (rep:World->List Nat->List Value->α->Prop) (sz:Nat) (w:World) (fp:List Nat) (v:Value) (ds:List α):Prop:=
 ∃ox EO Th,fp=Th++EO.flatten/\Sl w Th v ds.length ox.flatten/\M9 rep sz w ox EO ds
theorem qH {α:Type} {EO:List (List α)} {i:Nat} {f:List α} (h:EO[i]? =some f):∀b∈f,b∈EO.flatten:=fun b hb=>
 List.mem_flatten.2 ⟨f,List.mem_of_getElem? h,hb⟩
theorem tC {α:Type} {ox:List (List α)} {sz:Nat} (h:∀cs∈ox,cs.length=sz) {i j:Nat} {cs:List α} (hi:ox[i]? =some cs) (hj:j<sz):ox.flatten[i*sz+j]? =cs[j]? :=by
 induction ox generalizing i with
 |nil=>simp at hi
 |cons c r ih=>
  have hc:c.length=sz:=h c (by simp)
  cases i with
  |zero=>
   simp at hi;subst hi
   rw[List.flatten_cons,List.getElem?_append_left (by omega)];simp
  |succ i=>
   rw[List.flatten_cons,List.getElem?_append_right (by rw[hc,Nat.succ_mul];omega)]
   have:(i+1)*sz+j-c.length=i*sz+j:=by rw[hc,Nat.succ_mul];omega
   rw[this]
   exact ih (fun cs dt=>h cs (List.mem_cons_of_mem _ dt)) (by simpa using hi)
theorem M9.lens {α:Type} {rep:World->List Nat->List Value->α->Prop} {sz:Nat} {w:World} {ox:List (List Value)} {EO:List (List Nat)} {ds:List α}
  (h:M9 rep sz w ox EO ds):∀cs∈ox,cs.length=sz:=fun cs dt=>by
 obtain⟨i,hi,rfl⟩:=List.getElem_of_mem dt
 have h1:i<EO.length:=by rw[h.2.1,<-h.1];exact hi
 have h2:i<ds.length:=by rw[<-h.1];exact hi
 exact(h.2.2 i _ _ _ (List.getElem?_eq_getElem hi) (List.getElem?_eq_getElem h1) (List.getElem?_eq_getElem h2)).2
theorem mN.at_ {α:Type} {rep:World->List Nat->List Value->α->Prop} {sz:Nat} {w:World} {fp:List Nat} {A:Option Addr} {n c:Nat} {ds:List α}
  (h:mN rep sz w fp (.slice A n c) ds) (k:Nat) (hk:k<ds.length):
  ∃b o cs f,A=some ⟨b,o,none⟩/\b∈fp/\(∀x∈f,x∈fp)/\rep w f cs ds[k]/\cs.length=sz/\∀j u,cs[j]? =some u->w.cell? ⟨b,o+(k*sz+j),none⟩=some u:=by
 obtain⟨ox,EO,Th,rfl,⟨A',c',hv,_,_,hc⟩,hr⟩:=h
 simp only[Value.slice.injEq]at hv
 obtain⟨rfl,hn,rfl⟩:=hv
 rcases hc with⟨_,h0⟩|⟨b,o,rfl,rfl,hc⟩
 ·omega
 have h1:k<ox.length:=by rw[hr.1];exact hk
 have h2:k<EO.length:=by rw[hr.2.1];exact hk
 obtain⟨gJ,hl⟩:=hr.2.2 k _ _ _ (List.getElem?_eq_getElem h1) (List.getElem?_eq_getElem h2) (List.getElem?_eq_getElem hk)
 refine⟨b,o,ox[k],EO[k],rfl,by simp,fun x hx=>List.mem_append_right _ (qH (List.getElem?_eq_getElem h2) x hx),gJ,hl,fun j u hj=>?_⟩
 have gZ:j<sz:=by rw[<-hl];exact(List.getElem?_eq_some_iff.1 hj).1
 exact hc _ u (by rw[tC hr.lens (List.getElem?_eq_getElem h1) gZ];exact hj)
theorem mN.len {α:Type} {rep:World->List Nat->List Value->α->Prop} {sz:Nat} {w:World} {fp:List Nat} {v:Value} {ds:List α}
  (h:mN rep sz w fp v ds):∃A c,v=.slice A ds.length c/\ds.length<=c/\c<=maxLen:=by
 obtain⟨_,_,_,_,⟨A,c,hv,h1,h2,_⟩,_⟩:=h
 exact⟨A,c,hv,h1,h2⟩
theorem mN.nil {α:Type} (rep:World->List Nat->List Value->α->Prop) (sz:Nat) (w:World):mN rep sz w [] (.slice none 0 0) ([]:List α):=
 ⟨[],[],[],rfl,Sl.nil w,rfl,rfl,fun i cs f d hc=>by simp at hc⟩
def Flat {α:Type} (enc:α->List Value):World->List Nat->List Value->α->Prop:=fun _ f cs d=>f=[]/\cs=enc d
end Go.Proofs.YtgoelphibofcmaaGreat

namespace Go.Proofs.YtgoelphibofcmaaGreat
open Go.RowKit
def Q (w w':World):Prop:=∃q,w'=w.drewN q
theorem Q.refl (w:World):Q w w:=⟨0,rfl⟩
theorem Q.d {w w':World} (h:Q w w') (n:Nat):Q w (w'.drewN n):=by obtain⟨q,rfl⟩:=h;exact⟨q+n,by rw[World.drewN_drewN]⟩
theorem Q.d1 {w w':World} (h:Q w w'):Q w w'.drew:=by obtain⟨q,rfl⟩:=h;exact⟨q+1,rfl⟩
theorem Q.n (w:World) (n:Nat):Q w (w.drewN n):=⟨n,rfl⟩
theorem Q.trans {a b c:World} (h:Q a b) (k:Q b c):Q a c:=by obtain⟨q,rfl⟩:=k;exact h.d q
theorem HQ {B:Nat} {a w:World} (h:Below B a w) (n:Nat):Below B a (w.drewN n):=⟨h.os,h.tape,h.output,h.size,h.block⟩
theorem Q.below {w w':World} (h:Q w w'):Below w.heap.size w w':=by obtain⟨q,rfl⟩:=h;exact HQ (Below.refl _ _) q
theorem iE {a b:Bool} (h:a=b):Ending.returned (.bool a)=.returned (.bool b):=by rw[h]
theorem Ft {k:IntKind} {a b:Int} (h:a=b):Ending.returned (.int k a)=.returned (.int k b):=by rw[h]
end Go.Proofs.YtgoelphibofcmaaGreat

namespace Go.Proofs.YtgoelphibofcmaaGreat
open Go.RowKit
end Go.Proofs.YtgoelphibofcmaaGreat

namespace Go.Proofs.YtgoelphibofcmaaGreat
open Go.RowKit
end Go.Proofs.YtgoelphibofcmaaGreat

namespace Go.Proofs.YtgoelphibofcmaaGreat
open Go.RowKit
structure aD where
 eY:Int
 eS:Int
deriving DecidableEq
structure ad where
 aO:aD
 aQ:Int
deriving DecidableEq
structure dL where
 ah:List ad
deriving DecidableEq
structure fA where
 aC:ByteArray
 eu:Int
deriving DecidableEq
structure eR where
 aC:ByteArray
 br:List Int
deriving DecidableEq
structure au where
 ax:List fA
 ah:List eR
deriving DecidableEq
structure aA where
 aE:au
 aZ:dL
 aB:Int
deriving DecidableEq
def FY (d:Int):List Value:=[.int .i64 d]
def EB:=Flat FY
def eU (d:ad):List Value:=[.int .i64 d.aO.eY,.int .i64 d.aO.eS,.int .i64 d.aQ]
def AK:=Flat eU
def jb:=mN AK 3
def H4 (d:fA):List Value:=[.string d.aC,.int .i64 d.eu]
def HB:=Flat H4
def qR:=mN HB 2
def uV:=mN EB 1
def HC (w:World) (f:List Nat) (cs:List Value) (d:eR):Prop:=
 ∃v1 f1,f=f1/\cs=[.string d.aC,v1]/\uV w f1 v1 d.br
def qS:=mN HC 2
end Go.Proofs.YtgoelphibofcmaaGreat

namespace Go.Proofs.YtgoelphibofcmaaGreat.V
open Go.RowKit
variable {P:Program} {w:World} {D:Nat->Prop}
def Hx (P:Program) (w:World) (D:Nat->Prop) (al:List AV) (cs:List Value):Prop:=∀(j:Nat) (a:AV),al[j]? =some a->∃u:Value,cs[j]? =some u/\jG P w D a u
theorem rY {α:Type} {rep:World->List Nat->List Value->α->Prop} {e:α->List AV} {sz:Nat} {f:List Nat} {v:Value} {xs:List α} (h:mN rep sz w f v xs) (hD:∀b∈f,D b)
  (hl:∀x∈xs,(e x).length=sz) (hc:∀x∈xs,∀a∈e x,a.cell=true) (hr:∀x∈xs,∀f' cs,rep w f' cs x->(∀b∈f',D b)->Hx P w D (e x) cs):jG P w D (.sl (xs.map e)) v:=by
 obtain⟨A,c,rfl,h1,h2⟩:=mN.len h
 by_cases h0:xs=[]
 ·subst h0;exact .AH _ _ h2
 have kj:0<xs.length:=List.length_pos_iff.2 h0
 obtain⟨b,o,Pv,f0,rfl,hb,Sn,UC,K3,jJ⟩:=mN.at_ h 0 kj
 have key:∀(i:Nat) (hi:i<xs.length),∃cs f',(∀x∈f',x∈f)/\rep w f' cs xs[i]/\cs.length=sz/\∀j u,cs[j]? =some u->w.cell? ⟨b,o+(i*sz+j),none⟩=some u:=by
  intro i hi
  obtain⟨b',o',cs,f',Sf,_,kr,nT,dt,kM⟩:=mN.at_ h i hi
  simp only[Option.some.injEq,Addr.mk.injEq,and_true]at Sf
  obtain⟨rfl,rfl⟩:=Sf
  exact⟨cs,f',kr,nT,dt,kM⟩
 refine .sl _ b o _ c sz (fun i j=>(w.cell? ⟨b,o+(i*sz+j),none⟩).getD Go.undef) (by simp) h1 h2 (hD b hb) ?_ ?_ ?_ ?_
 ·intro cs dt
  obtain⟨x,hx,rfl⟩:=List.mem_map.1 dt
  exact hl x hx
 ·intro cs dt
  obtain⟨x,hx,rfl⟩:=List.mem_map.1 dt
  exact hc x hx
 ·intro i j hi hj
  obtain⟨cs,f',_,_,dt,kM⟩:=key i hi
  rw[kM j cs[j] (List.getElem?_eq_getElem (by omega))]
  rfl
 ·intro i j cs a dt ha
  have hi:i<xs.length:=by
   have:=(List.getElem?_eq_some_iff.1 dt).1
   simpa using this
  obtain⟨pV,f',kr,nT,hcs',kM⟩:=key i hi
  simp[hi]at dt
  subst dt
  obtain⟨u,hu,him⟩:=hr _ (List.getElem_mem hi) f' pV nT (fun b hb=>hD b (kr b hb)) j a ha
  rw[kM j u hu]
  exact him
end Go.Proofs.YtgoelphibofcmaaGreat.V

namespace Go.Proofs.YtgoelphibofcmaaGreat.V
open Go.RowKit
variable {P:Program} {w:World} {D:Nat->Prop}
def bq (d:Int):List AV:=[.int .i64 d]
def ae (d:aD):List AV:=[.int .i64 d.eY,.int .i64 d.eS]
def aa (d:ad):List AV:=[.int .i64 d.aO.eY,.int .i64 d.aO.eS,.int .i64 d.aQ]
def aP (d:dL):List AV:=[.sl (d.ah.map aa)]
def bG (d:fA):List AV:=[.str d.aC,.int .i64 d.eu]
def bB (d:eR):List AV:=[.str d.aC,.sl (d.br.map bq)]
def ab (d:au):List AV:=[.sl (d.ax.map bG),.sl (d.ah.map bB)]
def aw (d:aA):List AV:=[.sl (d.aE.ax.map bG),.sl (d.aE.ah.map bB),.sl (d.aZ.ah.map aa),.int .i64 d.aB]
theorem tp {f:List Nat} {v:Value} {xs:List ad} (h:jb w f v xs) (hD:∀b∈f,D b):jG P w D (.sl (xs.map aa)) v:=
 rY h hD (fun _ _=>rfl) (fun x _ a ha=>by simp[aa]at ha;rcases ha with rfl|rfl|rfl<;>rfl) fun x _ f' cs hr hf=>by
  obtain⟨_,rfl⟩:=hr
  intro j a ha
  match j,ha with
  |0,ha=>simp[aa]at ha;subst ha;exact⟨_,rfl,.int _ _⟩
  |1,ha=>simp[aa]at ha;subst ha;exact⟨_,rfl,.int _ _⟩
  |2,ha=>simp[aa]at ha;subst ha;exact⟨_,rfl,.int _ _⟩
  |j+3,ha=>simp[aa]at ha
theorem y6 {d:dL} {f0:List Nat} {v0:Value} (h0:jb w f0 v0 d.ah) (d0:∀b∈f0,D b):jG P w D (.agg (aP d)) (.agg #[v0]):=by
 refine .agg _ _ (fun j=>(#[v0]:Array Value).getD j Go.undef) rfl (fun a ha=>by simp[aP]at ha;rcases ha with rfl<;>rfl) (fun j hj=>?_) (fun j a ha=>?_)
 ·match j,hj with
  |0,_=>rfl
  |j+1,hj=>simp[aP]at hj<;>omega
 ·match j,ha with
  |0,ha=>simp[aP]at ha;subst ha;exact tp h0 d0
  |j+1,ha=>simp[aP]at ha
theorem FE {f:List Nat} {v:Value} {xs:List fA} (h:qR w f v xs) (hD:∀b∈f,D b):jG P w D (.sl (xs.map bG)) v:=
 rY h hD (fun _ _=>rfl) (fun x _ a ha=>by simp[bG]at ha;rcases ha with rfl|rfl<;>rfl) fun x _ f' cs hr hf=>by
  obtain⟨_,rfl⟩:=hr
  intro j a ha
  match j,ha with
  |0,ha=>simp[bG]at ha;subst ha;exact⟨_,rfl,.str _⟩
  |1,ha=>simp[bG]at ha;subst ha;exact⟨_,rfl,.int _ _⟩
  |j+2,ha=>simp[bG]at ha
theorem CN {f:List Nat} {v:Value} {xs:List Int} (h:uV w f v xs) (hD:∀b∈f,D b):jG P w D (.sl (xs.map bq)) v:=
 rY h hD (fun _ _=>rfl) (fun x _ a ha=>by simp[bq]at ha;rcases ha with rfl<;>rfl) fun x _ f' cs hr hf=>by
  obtain⟨_,rfl⟩:=hr
  intro j a ha
  match j,ha with
  |0,ha=>simp[bq]at ha;subst ha;exact⟨_,rfl,.int _ _⟩
  |j+1,ha=>simp[bq]at ha
theorem FH {f:List Nat} {v:Value} {xs:List eR} (h:qS w f v xs) (hD:∀b∈f,D b):jG P w D (.sl (xs.map bB)) v:=
 rY h hD (fun _ _=>rfl) (fun x _ a ha=>by simp[bB]at ha;rcases ha with rfl|rfl<;>rfl) fun x _ f' cs hr hf=>by
  obtain⟨v1,f1,rfl,rfl,h1⟩:=hr
  intro j a ha
  match j,ha with
  |0,ha=>simp[bB]at ha;subst ha;exact⟨_,rfl,.str _⟩
  |1,ha=>simp[bB]at ha;subst ha;exact⟨_,rfl,CN h1 hf⟩
  |j+2,ha=>simp[bB]at ha
theorem CQ {d:aA} {f0:List Nat} {v0:Value} (h0:qR w f0 v0 d.aE.ax) (d0:∀b∈f0,D b) {f1:List Nat} {v1:Value} (h1:qS w f1 v1 d.aE.ah) (d1:∀b∈f1,D b) {f2:List Nat} {v2:Value} (h2:jb w f2 v2 d.aZ.ah) (d2:∀b∈f2,D b):jG P w D (.agg (aw d)) (.agg #[v0,v1,v2,.int .i64 d.aB]):=by
 refine .agg _ _ (fun j=>(#[v0,v1,v2,.int .i64 d.aB]:Array Value).getD j Go.undef) rfl (fun a ha=>by simp[aw]at ha;rcases ha with rfl|rfl|rfl|rfl<;>rfl) (fun j hj=>?_) (fun j a ha=>?_)
 ·match j,hj with
  |0,_=>rfl
  |1,_=>rfl
  |2,_=>rfl
  |3,_=>rfl
  |j+4,hj=>simp[aw]at hj<;>omega
 ·match j,ha with
  |0,ha=>simp[aw]at ha;subst ha;exact FE h0 d0
  |1,ha=>simp[aw]at ha;subst ha;exact FH h1 d1
  |2,ha=>simp[aw]at ha;subst ha;exact tp h2 d2
  |3,ha=>simp[aw]at ha;subst ha;exact .int _ _
  |j+4,ha=>simp[aw]at ha
end Go.Proofs.YtgoelphibofcmaaGreat.V

namespace Go.Proofs.YtgoelphibofcmaaGreat.V
open Go.RowKit
attribute [local irreducible] dI wpOps gD Call
attribute [local go_sem] aM fM eP gp gm cN upd cD K.av cR AV.cells AV.cell rowOf rowsOf part ld rowAt bz cu dG ef ik bQ dh eA gj e9 dq ek dd dc dU dV bW bf cW bV cY cX ei eo ej cV ck de eh bU aT da cG ij bx cQ b4 aY dn bc dH AV.undef bF bI eb ee dP dM cJ ez eE cF er ep cZ db List.getD_cons_zero List.getD_cons_succ List.getD_nil List.all_cons List.all_nil Bool.and_true Bool.true_and Bool.and_self Bool.not_true Bool.not_false Option.map_some Option.map_none Option.bind_some Option.bind_none List.length_cons List.length_nil List.take_succ_cons List.take_zero List.take_nil List.drop_succ_cons List.drop_zero List.drop_nil List.head?_cons List.map_cons List.map_nil List.getElem?_cons_zero List.getElem?_cons_succ List.cons_append List.nil_append List.append_nil List.length_map List.set_cons_zero List.set_cons_succ Nat.reduceMul eq_self Int.toNat_natCast Int.natCast_nonneg and_self true_and and_true decide_true decide_false Bool.false_eq_true Nat.zero_add Nat.add_zero List.contains_cons List.contains_nil Bool.or_false Bool.false_or beq_self_eq_true Nat.reduceBEq ne_eq not_true_eq_false not_false_eq_true Id.mk.injEq false_and and_false Nat.reduceLT Int.reduceLE Int.reduceLT Int.reduceToNat Int.reduceNeg Int.reduceAdd Nat.le_refl List.length_append beq_true beq_false Bool.not_eq_eq_eq_not or_false false_or dO ai aj aH bp bE cz aX bl aW bj cU bH
variable {P:Program}
theorem Ke {X:fF} {Q:Ex->Env->ar->Prop} {N:Env->ar->Prop} {c:VC} {env:Env} {σ:ar} (I:Env->ar->Prop) (h2:∀e s,I e s->N e s) (h1:∀N':Env->ar->Prop,(∀e s,I e s->N' e s)->dI X c (dn N' Q) env σ):dI X c (dn N Q) env σ:=h1 N h2
def sS (f z:Nat) (a:Bool):Ay:=let s:=f*1000000
 ⟨19,2,(.seq (.eI false [q 4 (.dm (.k (.int .i64 0))) s]) (.seq (.seq (.eI false [q 6 (.dm (.t 0)) (s+1000),q 7 (.len (.t 6)) (s+1001),q 8 (.dm (.k (.int .i64 0))) (s+1002)]) (.block 0 (.loop (.seq (.eI false [q 9 (.bin .lss .i64 (.t 8) (.t 7)) (s+2000)]) (.seq (.cond (.t 9) .skip (.exit 0)) (.seq (.block 1 (.seq (.eI false [q 10 (.dm (.t 8)) (s+3000),q 5 (.dm (.t 10)) (s+3001)]) (.seq (.eI false [q 11 (.dm (.t 1)) (s+4000),q 12 (.dm (.t 0)) (s+4001),q 13 (.dm (.t 5)) (s+4002),q 14 (.dJ z (.t 12) (.t 13)) (s+4003),q 15 (.load a z (.t 14)) (s+4004),q 16 (.tx (.t 11) [(.t 15)]) (s+4005)]) (.cond (.t 16) (.seq (.eI false [q 17 (.dm (.t 5)) (s+5000),q 4 (.dm (.t 17)) (s+5001)]) .ret) .skip)))) (.eI false [q 18 (.bin .add .i64 (.t 8) (.k (.int .i64 1))) (s+6000),q 8 (.dm (.t 18)) (s+6001)]))))))) (.seq (.eI false [q 4 (.dm (.k (.int .i64 (-1)))) (s+7000)]) .ret))),[(.tmp 4)]⟩
def zB (f g:Nat):Ay:=let s:=f*1000000
 ⟨9,2,(.seq (.eI false [q 4 (.dm (.k (.bool false))) s]) (.seq (.eI false [q 5 (.dm (.t 0)) (s+1000),q 6 (.dm (.t 1)) (s+1001),q 7 (.call g [(.t 5),(.t 6)]) (s+1002),q 8 (.bin .geq .i64 (.t 7) (.k (.int .i64 0))) (s+1003),q 4 (.dm (.t 8)) (s+1004)]) .ret)),[(.tmp 4)]⟩
def kg {α:Type} (p:α->Bool) (xs:List α):Int:=if xs.findIdx p<xs.length then(xs.findIdx p:Int)else -1
theorem Ib {α:Type} (p:α->Bool) (xs:List α):decide (0<=kg p xs)=xs.any p:=by
 unfold kg
 by_cases h:xs.findIdx p<xs.length
 ·rw[if_pos h]
  have:xs.any p=true:=List.any_eq_true.2 (List.findIdx_lt_length.1 h)
  rw[this];simp
 ·rw[if_neg h]
  have:xs.any p=false:=by
   rw[Bool.eq_false_iff]
   intro hc
   exact h (List.findIdx_lt_length.2 (List.any_eq_true.1 hc))
  rw[this];rfl
theorem uq (a:AV) (l m:List AV):a::l++m=a::(l++m):=rfl
theorem zg (l:List AV):[]++l=l:=rfl
structure PW {α:Type} (e:α->List AV) (v:α->AV) (z:Nat) (a:Bool):Prop where
 len:∀x,(e x).length=z
 val:∀x,if a=true then v x=.agg (e x)else e x=[v x]
 fz:∀x g,cP g 6 [v x]=some [v x]
theorem tK {α:Type} {e:α->List AV} {v:α->AV} {z fk:Nat} {a:Bool} (hE:PW e v z a) (hc:l5 P fk=some (sS fk z a)) (xs:List α) (hlen:xs.length<=1048576) (f:Nat) (cK:List AV) (p:α->Bool)
  (hf:∀x∈xs,aq P f (v x::cK) (.bool (p x))) (It:∀g,cP g 6 cK=some cK):
  aq P fk [.sl (xs.map e),.fn f cK] (.int .i64 (kg p xs)):=by
 refine aq.body hc rfl fun hl n0=>?_
 try simp only[q]
 clear hl
 (try((repeat(revert hN;revert N;apply Pn.out));refine wk @Nat.zero_add ?_;(repeat(refine Pn.mk ?_;intro N hN))))
 refine aV (fun n env st=>∃k:Nat,n=(xs.length)-k/\k<=(xs.length)/\env 8=.int .i64 (k:Int)/\(∀j:Nat,j<k->∀h:j<xs.length,p xs[j]=false)) (xs.length) ⟨0,by omega,by omega,sl @Nat.zero_add,fun _ h=>absurd h (Nat.not_lt_zero _)⟩ ?_
 rintro n_a env_a st_a ⟨k,rfl,ale,a8,lZ⟩ dD
 have a0:=dD 0 (by kernel_rfl);have a1:=dD 1 (by kernel_rfl);have a7:=dD 7 (by kernel_rfl)
 simp only[go_sem, ↓reduceIte,Nat.reduceEqDiff,Nat.reduceAdd,Nat.reduceSub,Nat.reduceLeDiff,reduceCtorEq]at a0 a1 a7
 clear dD
 by_cases hk:(k:Int)<(xs.length:Int)
 ·have cC:∀{e:Env},(e 8=.int .i64 (IntKind.i64.wrap ((k:Int)+1)))->(∀h:k<xs.length,p xs[k]=false)->∃m0,m0<(xs.length)-k/\∃k:Nat,m0=(xs.length)-k/\k<=(xs.length)/\e 8=.int .i64 (k:Int)/\(∀j:Nat,j<k->∀h:j<xs.length,p xs[j]=false):=fun x1 x2=>⟨_,by omega,k+1,rfl,by omega,(by rw[x1,az (by omega)]),(all_succ lZ x2)⟩
  have fy:k<xs.length:=by omega
  have hg:(xs.map e)[k]? =some (e xs[k]):=by simp[fy]
  have E6:=hf _ (List.getElem_mem fy)
  have hz:=hE.len xs[k]
  have hv:=hE.val xs[k]
  have lg:cP (dO st_a.get) 6 (v xs[k]::cK)=some (v xs[k]::cK):=by
   have h1:=hE.fz xs[k] (dO st_a.get)
   rw[ai,aj]at h1
   rw[ai,It]
   revert h1
   cases V.fz (dO st_a.get) 6 (v xs[k])<;>simp
  have fin:∀hN:True,(p xs[k]=true->xs.findIdx p=k):=fun _ hp=>by
   rw[List.findIdx_eq fy];exact⟨hp,fun j hj=>lZ j hj (by omega)⟩
  cases hp:p xs[k]
  ·have SB:=hp
   cases a
   ·rw[if_neg (by simp)]at hv
    have AG:z=1:=by rw[<-hz,hv];rfl
    subst AG
    rw[hv]at hg hz
    rw[hp]at E6
    generalize v xs[k]=c at E6 lg hg hz
    (try((repeat(revert hN;revert N;apply Pn.out));refine wk (tw @a8 (tw @a0 (tw @a1 (tw @a7 (tw @hk (tw @hg (tw @hz (tw @uq @zg)))))))) ?_;(repeat(refine Pn.mk ?_;intro N hN))))
    refine .inl ⟨_,aq.x E6 lg,?_⟩
    refine hN _ _ ?_
    clear hN N
    (try((repeat(revert hN;revert N;apply Pn.out));refine wk (tw @a8 (tw @a0 (tw @a1 @a7))) ?_;(repeat(refine Pn.mk ?_;intro N hN))))
    exact cC (sd (tw @a8 (tw @a0 (tw @a1 @a7)))) (fun _=>SB)
   ·rw[if_pos rfl]at hv
    have ht:(e xs[k]).take z=e xs[k]:=by rw[<-hz,List.take_length]
    rw[hv]at E6 lg
    rw[hp]at E6
    generalize e xs[k]=c at E6 lg hg hz ht
    (try((repeat(revert hN;revert N;apply Pn.out));refine wk (tw @a8 (tw @a0 (tw @a1 (tw @a7 (tw @hk (tw @hg (tw @hz (tw @ht (tw @uq (tw @zg @Nat.le_refl)))))))))) ?_;(repeat(refine Pn.mk ?_;intro N hN))))
    refine .inl ⟨_,aq.x E6 lg,?_⟩
    refine hN _ _ ?_
    clear hN N
    (try((repeat(revert hN;revert N;apply Pn.out));refine wk (tw @a8 (tw @a0 (tw @a1 @a7))) ?_;(repeat(refine Pn.mk ?_;intro N hN))))
    exact cC (sd (tw @a8 (tw @a0 (tw @a1 @a7)))) (fun _=>SB)
  ·have hi:=fin trivial hp
   cases a
   ·rw[if_neg (by simp)]at hv
    have AG:z=1:=by rw[<-hz,hv];rfl
    subst AG
    rw[hv]at hg hz
    rw[hp]at E6
    generalize v xs[k]=c at E6 lg hg hz
    (try((repeat(revert hN;revert N;apply Pn.out));refine wk (tw @a8 (tw @a0 (tw @a1 (tw @a7 (tw @hk (tw @hg (tw @hz (tw @uq @zg)))))))) ?_;(repeat(refine Pn.mk ?_;intro N hN))))
    refine .inl ⟨_,aq.x E6 lg,?_⟩
    refine hN _ _ ?_
    clear hN N
    (try((repeat(revert hN;revert N;apply Pn.out));refine wk (tw @a8 (tw @a0 (tw @a1 @a7))) ?_;(repeat(refine Pn.mk ?_;intro N hN))))
    exact cj (b:=(k:Int)) (.inl rfl) (sd @Nat.zero_add) (by rw[kg,hi,if_pos fy])
   ·rw[if_pos rfl]at hv
    have ht:(e xs[k]).take z=e xs[k]:=by rw[<-hz,List.take_length]
    rw[hv]at E6 lg
    rw[hp]at E6
    generalize e xs[k]=c at E6 lg hg hz ht
    (try((repeat(revert hN;revert N;apply Pn.out));refine wk (tw @a8 (tw @a0 (tw @a1 (tw @a7 (tw @hk (tw @hg (tw @hz (tw @ht (tw @uq (tw @zg @Nat.le_refl)))))))))) ?_;(repeat(refine Pn.mk ?_;intro N hN))))
    refine .inl ⟨_,aq.x E6 lg,?_⟩
    refine hN _ _ ?_
    clear hN N
    (try((repeat(revert hN;revert N;apply Pn.out));refine wk (tw @a8 (tw @a0 (tw @a1 @a7))) ?_;(repeat(refine Pn.mk ?_;intro N hN))))
    exact cj (b:=(k:Int)) (.inl rfl) (sd @Nat.zero_add) (by rw[kg,hi,if_pos fy])
 ·(try((repeat(revert hN;revert N;apply Pn.out));refine wk (tw @a8 (tw @a0 (tw @a1 (tw @a7 @hk)))) ?_;(repeat(refine Pn.mk ?_;intro N hN))))
  have hi:¬xs.findIdx p<xs.length:=by
   rw[List.findIdx_lt_length]
   rintro⟨x,hx,Ll⟩
   obtain⟨j,hj,rfl⟩:=List.getElem_of_mem hx
   rw[lZ j (by omega) hj]at Ll;cases Ll
  exact cj (b:=-1) (.inl rfl) (sd @Nat.zero_add) (by rw[kg,if_neg hi])
theorem kI {α:Type} {e:α->List AV} {v:α->AV} {z fk gk:Nat} {a:Bool} (hE:PW e v z a) (hc:l5 P fk=some (zB fk gk)) (F7:l5 P gk=some (sS gk z a)) (xs:List α) (hlen:xs.length<=1048576) (f:Nat) (cK:List AV) (p:α->Bool) (Io:cK.all AV.cell=true) (CB:∀g,cP g 5 cK=some cK)
  (hf:∀x∈xs,aq P f (v x::cK) (.bool (p x))) (It:∀g,cP g 6 cK=some cK):
  aq P fk [.sl (xs.map e),.fn f cK] (.bool (xs.any p)):=by
 refine aq.body hc rfl fun hl n0=>?_
 try simp only[q]
 clear hl
 have hi:=tK hE F7 xs hlen f cK p hf It
 (repeat(first|((repeat(revert hN;revert N;apply Pn.out));refine wk (tw @Io @CB) ?_;(repeat(refine Pn.mk ?_;intro N hN)))|((try apply Or.inl);refine⟨_,aq.x (hi) (sd (tw @Io @CB)),?_⟩;refine hN _ _ ?_;clear hN N)))
 exact aU (b:=decide (0<=kg p xs)) (.inl rfl) (sd @Nat.zero_add) (Ib p xs)
end Go.Proofs.YtgoelphibofcmaaGreat.V

namespace Go.Proofs.YtgoelphibofcmaaGreat.V
open Go.RowKit
def rK (P:Program) (mk:Bool):List Oper->Nat->List Nat
 |[],_=>[]
 |o::r,i=>match qN P o.op with
  |some v=>if qG v||mk&&v.lS then i::rK P mk r (i+1)else rK P mk r (i+1)
  |none=>rK P mk r (i+1)
def zj (P:Program) (ops:Array Oper) (site0:Nat) (mk:Bool) (bs:Array Nat) (hidden:List Nat):List Oper->Nat->Option (List bd)
 |[],_=>some []
 |o::r,j=>do
  let v <-qN P o.op
  let g <-CZ ops o
  pure ({dst:=o.dst,op:=v,guard:=g,site:=site0+j,hid:=(hidden.filter fun i=> !(bs.getD j 0).testBit i&&(i !=j||mk&&v.lS)).map fun i=>site0+i}::(<-zj P ops site0 mk bs hidden r (j+1)))
def qe (P:Program) (md:List (Nat×Nat)) (fid:Nat):Code->Option VC
 | .skip=>some .skip
 | .region id ops draw=>if draw then(zj P ops ((fid*1000+id)*1000) (wj md id==1) (jC ops) (rK P (wj md id==1) ops.toList 0) ops.toList 0).map (VC.eI true)else(zj P ops ((fid*1000+id)*1000) false #[] [] ops.toList 0).map (if ops.toList.any fun o=>MP o.op then VC.Nr else VC.eI false)
 | .seq a b=>do pure (.seq (<-qe P md fid a) (<-qe P md fid b))
 | .cond c x y=>do pure (.cond (<-cO P c) (<-qe P md fid x) (<-qe P md fid y))
 | .block id c=>(qe P md fid c).map (VC.block id)
 | .loop c=>(qe P md fid c).map VC.loop
 | .exit id=>some (.exit id)
 | .ret=>some .ret
 |_=>none
def P5 (P:Program) (md:List (Nat×Nat)) (f:Nat):Option Ay:=
 match P.funcs[f]? with
 |some fn=>match fn.body with
  |some c=>do
   let b <-qe P md f c
   let r <-fn.results.toList.mapM (C0 P)
   pure {ntmps:=fn.ntmps,yI:=fn.params.size+fn.nfree,body:=b,res:=r}
  |none=>none
 |none=>none
theorem cfM {P:Program} (md:List (Nat×Nat)) {f:Nat} {v:Ay} (_:P5 P md f=some v:=by(conv=>lhs;cbv)<;>exact rfl) (h:xo P f md=some v:=by kernel_rfl):xo P f md=some v:=h
theorem eB {P:Program} {f:Nat} {v:Ay} (_:P5 P [] f=some v:=by(conv=>lhs;cbv)<;>exact rfl) (h:l5 P f=some v:=by kernel_rfl):l5 P f=some v:=h
end Go.Proofs.YtgoelphibofcmaaGreat.V

namespace Go.Proofs.YtgoelphibofcmaaGreat.V
open Go.RowKit
def OZ:Ay:=⟨77,2,(.seq (.eI false [q 4 (.dm (.k .gR)) 237000000]) (.seq (.eI false [q 7 (.dm (.t 0)) 237001000,q 8 (.dm (.t 1)) 237001001,q 9 (.build [(.int .i64 0),.cq,.cq,.cq] [(0,(1,(.t 7))),(1,(1,(.t 8)))]) 237001002,q 10 (.box (.t 9)) 237001003,q 5 (.dm (.t 10)) 237001004]) (.seq (.eI false [q 11 (.dm (.t 5)) 237002000,q 12 (.dm (.t 0)) 237002001,q 13 (.jX [.cq] (.t 12) (.t 12)) 237002002,q 14 (.Az (.t 11)) 237002003,q 15 (.fR 2 (.t 14)) 237002004,⟨none,(.store 1 (.t 15) (.t 13)),none,237002005,[]⟩]) (.seq (.eI false [q 16 (.dm (.t 5)) 237003000,q 17 (.dm (.t 1)) 237003001,q 18 (.len (.t 17)) 237003002,q 19 (.jX [(.int .i64 0)] (.t 18) (.t 18)) 237003003,q 20 (.Az (.t 16)) 237003004,q 21 (.fR 3 (.t 20)) 237003005,⟨none,(.store 1 (.t 21) (.t 19)),none,237003006,[]⟩]) (.seq (.seq (.eI false [q 6 (.dm (.k (.int .i64 0))) 237004000]) (.block 0 (.loop (.seq (.seq (.eI false [q 22 (.dm (.t 6)) 237005000,q 23 (.dm (.t 1)) 237005001,q 24 (.len (.t 23)) 237005002,q 25 (.bin .lss .i64 (.t 22) (.t 24)) 237005003]) (.cond (.t 25) .skip (.exit 0))) (.seq (.block 1 (.seq (.one ⟨(some 28),(.dm (.t 5)),none,237007000,[237007021,237007022,237007024]⟩ (.one ⟨(some 29),(.Az (.t 28)),none,237007001,[237007021,237007022,237007024]⟩ (.one ⟨(some 30),(.fR 2 (.t 29)),none,237007002,[237007021,237007022,237007024]⟩ (.one ⟨(some 32),(.dm (.t 1)),none,237007004,[237007021,237007022,237007024]⟩ (.one ⟨(some 33),(.dm (.t 6)),none,237007005,[237007021,237007022,237007024]⟩ (.one ⟨(some 37),(.dm (.t 5)),none,237007009,[237007021,237007022,237007024]⟩ (.one ⟨(some 38),(.Az (.t 37)),none,237007010,[237007021,237007022,237007024]⟩ (.one ⟨(some 39),(.fR 2 (.t 38)),none,237007011,[237007021,237007022,237007024]⟩ (.one ⟨(some 40),(.load false 1 (.t 39)),none,237007012,[237007021,237007022,237007024]⟩ (.one ⟨(some 41),(.dm (.t 1)),none,237007013,[237007021,237007022,237007024]⟩ (.one ⟨(some 42),(.dm (.t 6)),none,237007014,[237007021,237007022,237007024]⟩ (.one ⟨(some 43),(.dJ 3 (.t 41) (.t 42)),none,237007015,[237007021,237007022,237007024]⟩ (.one ⟨(some 44),(.fR 0 (.t 43)),none,237007016,[237007021,237007022,237007024]⟩ (.one ⟨(some 45),(.load false 1 (.t 44)),none,237007017,[237007021,237007022,237007024]⟩ (.one ⟨(some 46),(.dJ 1 (.t 40) (.t 45)),none,237007018,[237007021,237007022,237007024]⟩ (.one ⟨(some 47),(.load false 1 (.t 46)),none,237007019,[237007021,237007022,237007024]⟩ (.one ⟨(some 48),(.dm (.t 6)),none,237007020,[237007021,237007022,237007024]⟩ (.one ⟨(some 49),(.lR 1 1 [(.t 48)]),none,237007021,[237007022,237007024]⟩ (.both (.one ⟨(some 31),(.load false 1 (.t 30)),none,237007003,[237007021,237007022,237007024]⟩ (.both (.one ⟨(some 34),(.dJ 3 (.t 32) (.t 33)),none,237007006,[237007021,237007022,237007024]⟩ (.one ⟨(some 35),(.fR 0 (.t 34)),none,237007007,[237007021,237007022,237007024]⟩ (.both (.one ⟨(some 36),(.load false 1 (.t 35)),none,237007008,[237007021,237007022,237007024]⟩ (.one ⟨(some 50),(.append 1 (.t 47) (.t 49)),none,237007022,[237007024]⟩ (.one ⟨(some 51),(.dJ 1 (.t 31) (.t 36)),none,237007023,[237007024]⟩ (.one ⟨none,(.store 1 (.t 51) (.t 50)),none,237007024,[]⟩ (.eI false []))))) (.one ⟨(some 50),(.append 1 (.t 47) (.t 49)),none,237007022,[237007024]⟩ (.one ⟨(some 36),(.load false 1 (.t 35)),none,237007008,[237007021,237007022,237007024]⟩ (.one ⟨(some 51),(.dJ 1 (.t 31) (.t 36)),none,237007023,[237007024]⟩ (.one ⟨none,(.store 1 (.t 51) (.t 50)),none,237007024,[]⟩ (.eI false [])))))))) (.one ⟨(some 50),(.append 1 (.t 47) (.t 49)),none,237007022,[237007024]⟩ (.one ⟨(some 34),(.dJ 3 (.t 32) (.t 33)),none,237007006,[237007021,237007022,237007024]⟩ (.one ⟨(some 35),(.fR 0 (.t 34)),none,237007007,[237007021,237007022,237007024]⟩ (.one ⟨(some 36),(.load false 1 (.t 35)),none,237007008,[237007021,237007022,237007024]⟩ (.one ⟨(some 51),(.dJ 1 (.t 31) (.t 36)),none,237007023,[237007024]⟩ (.one ⟨none,(.store 1 (.t 51) (.t 50)),none,237007024,[]⟩ (.eI false []))))))))) (.both (.one ⟨(some 34),(.dJ 3 (.t 32) (.t 33)),none,237007006,[237007021,237007022,237007024]⟩ (.one ⟨(some 35),(.fR 0 (.t 34)),none,237007007,[237007021,237007022,237007024]⟩ (.both (.one ⟨(some 31),(.load false 1 (.t 30)),none,237007003,[237007021,237007022,237007024]⟩ (.both (.one ⟨(some 36),(.load false 1 (.t 35)),none,237007008,[237007021,237007022,237007024]⟩ (.one ⟨(some 50),(.append 1 (.t 47) (.t 49)),none,237007022,[237007024]⟩ (.one ⟨(some 51),(.dJ 1 (.t 31) (.t 36)),none,237007023,[237007024]⟩ (.one ⟨none,(.store 1 (.t 51) (.t 50)),none,237007024,[]⟩ (.eI false []))))) (.one ⟨(some 50),(.append 1 (.t 47) (.t 49)),none,237007022,[237007024]⟩ (.one ⟨(some 36),(.load false 1 (.t 35)),none,237007008,[237007021,237007022,237007024]⟩ (.one ⟨(some 51),(.dJ 1 (.t 31) (.t 36)),none,237007023,[237007024]⟩ (.one ⟨none,(.store 1 (.t 51) (.t 50)),none,237007024,[]⟩ (.eI false []))))))) (.both (.one ⟨(some 36),(.load false 1 (.t 35)),none,237007008,[237007021,237007022,237007024]⟩ (.both (.one ⟨(some 31),(.load false 1 (.t 30)),none,237007003,[237007021,237007022,237007024]⟩ (.one ⟨(some 50),(.append 1 (.t 47) (.t 49)),none,237007022,[237007024]⟩ (.one ⟨(some 51),(.dJ 1 (.t 31) (.t 36)),none,237007023,[237007024]⟩ (.one ⟨none,(.store 1 (.t 51) (.t 50)),none,237007024,[]⟩ (.eI false []))))) (.one ⟨(some 50),(.append 1 (.t 47) (.t 49)),none,237007022,[237007024]⟩ (.one ⟨(some 31),(.load false 1 (.t 30)),none,237007003,[237007021,237007022,237007024]⟩ (.one ⟨(some 51),(.dJ 1 (.t 31) (.t 36)),none,237007023,[237007024]⟩ (.one ⟨none,(.store 1 (.t 51) (.t 50)),none,237007024,[]⟩ (.eI false []))))))) (.one ⟨(some 50),(.append 1 (.t 47) (.t 49)),none,237007022,[237007024]⟩ (.one ⟨(some 31),(.load false 1 (.t 30)),none,237007003,[237007021,237007022,237007024]⟩ (.one ⟨(some 36),(.load false 1 (.t 35)),none,237007008,[237007021,237007022,237007024]⟩ (.one ⟨(some 51),(.dJ 1 (.t 31) (.t 36)),none,237007023,[237007024]⟩ (.one ⟨none,(.store 1 (.t 51) (.t 50)),none,237007024,[]⟩ (.eI false [])))))))))) (.one ⟨(some 50),(.append 1 (.t 47) (.t 49)),none,237007022,[237007024]⟩ (.one ⟨(some 31),(.load false 1 (.t 30)),none,237007003,[237007021,237007022,237007024]⟩ (.one ⟨(some 34),(.dJ 3 (.t 32) (.t 33)),none,237007006,[237007021,237007022,237007024]⟩ (.one ⟨(some 35),(.fR 0 (.t 34)),none,237007007,[237007021,237007022,237007024]⟩ (.one ⟨(some 36),(.load false 1 (.t 35)),none,237007008,[237007021,237007022,237007024]⟩ (.one ⟨(some 51),(.dJ 1 (.t 31) (.t 36)),none,237007023,[237007024]⟩ (.one ⟨none,(.store 1 (.t 51) (.t 50)),none,237007024,[]⟩ (.eI false [])))))))))))))))))))))))))))) (.one ⟨(some 52),(.dm (.t 5)),none,237008000,[237008021,237008022,237008024]⟩ (.one ⟨(some 53),(.Az (.t 52)),none,237008001,[237008021,237008022,237008024]⟩ (.one ⟨(some 54),(.fR 2 (.t 53)),none,237008002,[237008021,237008022,237008024]⟩ (.one ⟨(some 56),(.dm (.t 1)),none,237008004,[237008021,237008022,237008024]⟩ (.one ⟨(some 57),(.dm (.t 6)),none,237008005,[237008021,237008022,237008024]⟩ (.one ⟨(some 61),(.dm (.t 5)),none,237008009,[237008021,237008022,237008024]⟩ (.one ⟨(some 62),(.Az (.t 61)),none,237008010,[237008021,237008022,237008024]⟩ (.one ⟨(some 63),(.fR 2 (.t 62)),none,237008011,[237008021,237008022,237008024]⟩ (.one ⟨(some 64),(.load false 1 (.t 63)),none,237008012,[237008021,237008022,237008024]⟩ (.one ⟨(some 65),(.dm (.t 1)),none,237008013,[237008021,237008022,237008024]⟩ (.one ⟨(some 66),(.dm (.t 6)),none,237008014,[237008021,237008022,237008024]⟩ (.one ⟨(some 67),(.dJ 3 (.t 65) (.t 66)),none,237008015,[237008021,237008022,237008024]⟩ (.one ⟨(some 68),(.fR 1 (.t 67)),none,237008016,[237008021,237008022,237008024]⟩ (.one ⟨(some 69),(.load false 1 (.t 68)),none,237008017,[237008021,237008022,237008024]⟩ (.one ⟨(some 70),(.dJ 1 (.t 64) (.t 69)),none,237008018,[237008021,237008022,237008024]⟩ (.one ⟨(some 71),(.load false 1 (.t 70)),none,237008019,[237008021,237008022,237008024]⟩ (.one ⟨(some 72),(.dm (.t 6)),none,237008020,[237008021,237008022,237008024]⟩ (.one ⟨(some 73),(.lR 1 1 [(.t 72)]),none,237008021,[237008022,237008024]⟩ (.both (.one ⟨(some 55),(.load false 1 (.t 54)),none,237008003,[237008021,237008022,237008024]⟩ (.both (.one ⟨(some 58),(.dJ 3 (.t 56) (.t 57)),none,237008006,[237008021,237008022,237008024]⟩ (.one ⟨(some 59),(.fR 1 (.t 58)),none,237008007,[237008021,237008022,237008024]⟩ (.both (.one ⟨(some 60),(.load false 1 (.t 59)),none,237008008,[237008021,237008022,237008024]⟩ (.one ⟨(some 74),(.append 1 (.t 71) (.t 73)),none,237008022,[237008024]⟩ (.one ⟨(some 75),(.dJ 1 (.t 55) (.t 60)),none,237008023,[237008024]⟩ (.one ⟨none,(.store 1 (.t 75) (.t 74)),none,237008024,[]⟩ (.eI false []))))) (.one ⟨(some 74),(.append 1 (.t 71) (.t 73)),none,237008022,[237008024]⟩ (.one ⟨(some 60),(.load false 1 (.t 59)),none,237008008,[237008021,237008022,237008024]⟩ (.one ⟨(some 75),(.dJ 1 (.t 55) (.t 60)),none,237008023,[237008024]⟩ (.one ⟨none,(.store 1 (.t 75) (.t 74)),none,237008024,[]⟩ (.eI false [])))))))) (.one ⟨(some 74),(.append 1 (.t 71) (.t 73)),none,237008022,[237008024]⟩ (.one ⟨(some 58),(.dJ 3 (.t 56) (.t 57)),none,237008006,[237008021,237008022,237008024]⟩ (.one ⟨(some 59),(.fR 1 (.t 58)),none,237008007,[237008021,237008022,237008024]⟩ (.one ⟨(some 60),(.load false 1 (.t 59)),none,237008008,[237008021,237008022,237008024]⟩ (.one ⟨(some 75),(.dJ 1 (.t 55) (.t 60)),none,237008023,[237008024]⟩ (.one ⟨none,(.store 1 (.t 75) (.t 74)),none,237008024,[]⟩ (.eI false []))))))))) (.both (.one ⟨(some 58),(.dJ 3 (.t 56) (.t 57)),none,237008006,[237008021,237008022,237008024]⟩ (.one ⟨(some 59),(.fR 1 (.t 58)),none,237008007,[237008021,237008022,237008024]⟩ (.both (.one ⟨(some 55),(.load false 1 (.t 54)),none,237008003,[237008021,237008022,237008024]⟩ (.both (.one ⟨(some 60),(.load false 1 (.t 59)),none,237008008,[237008021,237008022,237008024]⟩ (.one ⟨(some 74),(.append 1 (.t 71) (.t 73)),none,237008022,[237008024]⟩ (.one ⟨(some 75),(.dJ 1 (.t 55) (.t 60)),none,237008023,[237008024]⟩ (.one ⟨none,(.store 1 (.t 75) (.t 74)),none,237008024,[]⟩ (.eI false []))))) (.one ⟨(some 74),(.append 1 (.t 71) (.t 73)),none,237008022,[237008024]⟩ (.one ⟨(some 60),(.load false 1 (.t 59)),none,237008008,[237008021,237008022,237008024]⟩ (.one ⟨(some 75),(.dJ 1 (.t 55) (.t 60)),none,237008023,[237008024]⟩ (.one ⟨none,(.store 1 (.t 75) (.t 74)),none,237008024,[]⟩ (.eI false []))))))) (.both (.one ⟨(some 60),(.load false 1 (.t 59)),none,237008008,[237008021,237008022,237008024]⟩ (.both (.one ⟨(some 55),(.load false 1 (.t 54)),none,237008003,[237008021,237008022,237008024]⟩ (.one ⟨(some 74),(.append 1 (.t 71) (.t 73)),none,237008022,[237008024]⟩ (.one ⟨(some 75),(.dJ 1 (.t 55) (.t 60)),none,237008023,[237008024]⟩ (.one ⟨none,(.store 1 (.t 75) (.t 74)),none,237008024,[]⟩ (.eI false []))))) (.one ⟨(some 74),(.append 1 (.t 71) (.t 73)),none,237008022,[237008024]⟩ (.one ⟨(some 55),(.load false 1 (.t 54)),none,237008003,[237008021,237008022,237008024]⟩ (.one ⟨(some 75),(.dJ 1 (.t 55) (.t 60)),none,237008023,[237008024]⟩ (.one ⟨none,(.store 1 (.t 75) (.t 74)),none,237008024,[]⟩ (.eI false []))))))) (.one ⟨(some 74),(.append 1 (.t 71) (.t 73)),none,237008022,[237008024]⟩ (.one ⟨(some 55),(.load false 1 (.t 54)),none,237008003,[237008021,237008022,237008024]⟩ (.one ⟨(some 60),(.load false 1 (.t 59)),none,237008008,[237008021,237008022,237008024]⟩ (.one ⟨(some 75),(.dJ 1 (.t 55) (.t 60)),none,237008023,[237008024]⟩ (.one ⟨none,(.store 1 (.t 75) (.t 74)),none,237008024,[]⟩ (.eI false [])))))))))) (.one ⟨(some 74),(.append 1 (.t 71) (.t 73)),none,237008022,[237008024]⟩ (.one ⟨(some 55),(.load false 1 (.t 54)),none,237008003,[237008021,237008022,237008024]⟩ (.one ⟨(some 58),(.dJ 3 (.t 56) (.t 57)),none,237008006,[237008021,237008022,237008024]⟩ (.one ⟨(some 59),(.fR 1 (.t 58)),none,237008007,[237008021,237008022,237008024]⟩ (.one ⟨(some 60),(.load false 1 (.t 59)),none,237008008,[237008021,237008022,237008024]⟩ (.one ⟨(some 75),(.dJ 1 (.t 55) (.t 60)),none,237008023,[237008024]⟩ (.one ⟨none,(.store 1 (.t 75) (.t 74)),none,237008024,[]⟩ (.eI false [])))))))))))))))))))))))))))))) (.eI false [q 26 (.dm (.t 6)) 237006000,q 27 (.bin .add .i64 (.t 26) (.k (.int .i64 1))) 237006001,q 6 (.dm (.t 27)) 237006002])))))) (.seq (.eI false [q 76 (.dm (.t 5)) 237009000,q 4 (.dm (.t 76)) 237009001]) .ret)))))),[(.tmp 4)]⟩
theorem Np:xo Tryz.prog 237 [(7,2),(8,2)]=some OZ:=by kernel_rfl
def O0:Ay:=⟨118,2,(.seq (.eI false [q 4 (.dm (.k .cq)) 240000000]) (.seq (.eI false [q 17 (.dm (.t 0)) 240001000,q 18 (.jX [.gR] (.t 17) (.t 17)) 240001001,q 5 (.dm (.t 18)) 240001002]) (.seq (.seq (.eI false [q 19 (.dm (.t 5)) 240002000,q 20 (.len (.t 19)) 240002001,q 21 (.dm (.k (.int .i64 0))) 240002002]) (.block 0 (.loop (.seq (.eI false [q 22 (.bin .lss .i64 (.t 21) (.t 20)) 240003000]) (.seq (.cond (.t 22) .skip (.exit 0)) (.seq (.block 1 (.seq (.eI false [q 23 (.dm (.t 21)) 240004000,q 6 (.dm (.t 23)) 240004001]) (.eI false [q 24 (.dm (.t 5)) 240005000,q 25 (.dm (.t 6)) 240005001,q 26 (.dm (.t 6)) 240005002,q 27 (.build [.gR,(.int .i64 0)] [(1,(1,(.t 26)))]) 240005003,q 28 (.box (.t 27)) 240005004,q 29 (.dJ 1 (.t 24) (.t 25)) 240005005,⟨none,(.store 1 (.t 29) (.t 28)),none,240005006,[]⟩]))) (.eI false [q 30 (.bin .add .i64 (.t 21) (.k (.int .i64 1))) 240006000,q 21 (.dm (.t 30)) 240006001]))))))) (.seq (.seq (.eI false [q 31 (.dm (.t 1)) 240007000,q 32 (.len (.t 31)) 240007001,q 33 (.dm (.k (.int .i64 0))) 240007002]) (.block 2 (.loop (.seq (.eI false [q 34 (.bin .lss .i64 (.t 33) (.t 32)) 240008000]) (.seq (.cond (.t 34) .skip (.exit 2)) (.seq (.block 3 (.seq (.eI false [q 35 (.dJ 3 (.t 31) (.t 33)) 240009000,q 36 (.load true 3 (.t 35)) 240009001,q 8 (.new [(.int .i64 0),(.int .i64 0),(.int .i64 0)]) 240009002,⟨none,(.store 3 (.t 8) (.t 36)),none,240009003,[]⟩]) (.seq (.one (q 37 (.dm (.t 5)) 240010000) (.one (q 38 (.fR 0 (.t 8)) 240010001) (.one (q 39 (.load false 1 (.t 38)) 240010002) (.one (q 40 (.dJ 1 (.t 37) (.t 39)) 240010003) (.one (q 41 (.load false 1 (.t 40)) 240010004) (.one (q 43 (.dm (.t 5)) 240010006) (.one (q 44 (.fR 1 (.t 8)) 240010007) (.both (.one (q 42 (.call 262 [(.t 41)]) 240010005) (.one (q 45 (.load false 1 (.t 44)) 240010008) (.one (q 46 (.dJ 1 (.t 43) (.t 45)) 240010009) (.one (q 47 (.load false 1 (.t 46)) 240010010) (.one (q 48 (.call 262 [(.t 47)]) 240010011) (.one (q 9 (.dm (.t 42)) 240010012) (.one (q 10 (.dm (.t 48)) 240010013) (.eI false [])))))))) (.one (q 45 (.load false 1 (.t 44)) 240010008) (.both (.one (q 42 (.call 262 [(.t 41)]) 240010005) (.one (q 46 (.dJ 1 (.t 43) (.t 45)) 240010009) (.one (q 47 (.load false 1 (.t 46)) 240010010) (.one (q 48 (.call 262 [(.t 47)]) 240010011) (.one (q 9 (.dm (.t 42)) 240010012) (.one (q 10 (.dm (.t 48)) 240010013) (.eI false []))))))) (.one (q 46 (.dJ 1 (.t 43) (.t 45)) 240010009) (.both (.one (q 42 (.call 262 [(.t 41)]) 240010005) (.one (q 47 (.load false 1 (.t 46)) 240010010) (.one (q 48 (.call 262 [(.t 47)]) 240010011) (.one (q 9 (.dm (.t 42)) 240010012) (.one (q 10 (.dm (.t 48)) 240010013) (.eI false [])))))) (.one (q 47 (.load false 1 (.t 46)) 240010010) (.one (q 42 (.call 262 [(.t 41)]) 240010005) (.one (q 48 (.call 262 [(.t 47)]) 240010011) (.one (q 9 (.dm (.t 42)) 240010012) (.one (q 10 (.dm (.t 48)) 240010013) (.eI false [])))))))))))))))))) (.block 4 (.seq (.eI true [q 50 (.dm (.t 9)) 240011000,q 51 (.Az (.t 50)) 240011001,q 52 (.fR 1 (.t 51)) 240011002,q 53 (.load false 1 (.t 52)) 240011003,q 54 (.dm (.t 10)) 240011004,q 55 (.Az (.t 54)) 240011005,q 56 (.fR 1 (.t 55)) 240011006,q 57 (.load false 1 (.t 56)) 240011007,q 58 (.bin .lss .i64 (.t 53) (.t 57)) 240011008,q 49 (.dm (.t 58)) 240011009]) (.cond (.t 49) (.eI false [q 59 (.dm (.t 10)) 240012000,q 60 (.dm (.t 9)) 240012001,q 61 (.Az (.t 59)) 240012002,q 62 (.fR 0 (.t 61)) 240012003,⟨none,(.store 1 (.t 62) (.t 60)),none,240012004,[]⟩]) (.seq (.eI true [q 64 (.dm (.t 10)) 240013000,q 65 (.Az (.t 64)) 240013001,q 66 (.fR 1 (.t 65)) 240013002,q 67 (.load false 1 (.t 66)) 240013003,q 68 (.dm (.t 9)) 240013004,q 69 (.Az (.t 68)) 240013005,q 70 (.fR 1 (.t 69)) 240013006,q 71 (.load false 1 (.t 70)) 240013007,q 72 (.bin .lss .i64 (.t 67) (.t 71)) 240013008,q 63 (.dm (.t 72)) 240013009]) (.cond (.t 63) (.eI false [q 73 (.dm (.t 9)) 240014000,q 74 (.dm (.t 10)) 240014001,q 75 (.Az (.t 73)) 240014002,q 76 (.fR 0 (.t 75)) 240014003,⟨none,(.store 1 (.t 76) (.t 74)),none,240014004,[]⟩]) .skip)))))))) (.eI false [q 77 (.bin .add .i64 (.t 33) (.k (.int .i64 1))) 240015000,q 33 (.dm (.t 77)) 240015001]))))))) (.seq (.eI false [q 11 (.dm (.k .cq)) 240016000]) (.seq (.eI false [⟨(some 78),(.mq (.new ⟨false,[.tI]⟩) []),none,240017000,[]⟩,q 12 (.dm (.t 78)) 240017001]) (.seq (.seq (.eI false [q 79 (.dm (.t 5)) 240018000,q 80 (.len (.t 79)) 240018001,q 81 (.dm (.k (.int .i64 0))) 240018002]) (.block 5 (.loop (.seq (.eI false [q 82 (.bin .lss .i64 (.t 81) (.t 80)) 240019000]) (.seq (.cond (.t 82) .skip (.exit 5)) (.seq (.block 6 (.seq (.eI false [q 83 (.dm (.t 81)) 240020000,q 84 (.dJ 1 (.t 79) (.t 81)) 240020001,q 85 (.load false 1 (.t 84)) 240020002,q 13 (.dm (.t 83)) 240020003,q 14 (.dm (.t 85)) 240020004]) (.seq (.eI false [q 87 (.dm (.t 12)) 240021000,q 88 (.dm (.t 14)) 240021001,q 89 (.call 262 [(.t 88)]) 240021002,q 90 (.Az (.t 89)) 240021003,q 91 (.fR 1 (.t 90)) 240021004,q 92 (.load false 1 (.t 91)) 240021005,⟨(some 93),(.mq (.look ⟨false,[.tI]⟩ true (.int .i64 0)) [(.t 87),(.t 92)]),none,240021006,[]⟩,q 86 (.dm (.t 93)) 240021007,q 94 (.extract 0 (.t 86)) 240021008,q 95 (.extract 1 (.t 86)) 240021009,q 15 (.dm (.t 94)) 240021010,q 16 (.dm (.t 95)) 240021011]) (.seq (.seq (.eI false [q 96 (.dm (.t 16)) 240022000,q 97 (.not (.t 96)) 240022001]) (.cond (.t 97) (.seq (.eI false [q 98 (.dm (.t 11)) 240023000,q 99 (.len (.t 98)) 240023001,q 15 (.dm (.t 99)) 240023002]) (.seq (.eI false [q 100 (.dm (.t 12)) 240024000,q 101 (.dm (.t 13)) 240024001,q 102 (.dm (.t 15)) 240024002,⟨none,(.mw (.set ⟨false,[.tI]⟩) [(.t 100),(.t 101),(.t 102)]),none,240024003,[]⟩]) (.eI false [q 103 (.dm (.t 11)) 240025000,q 104 (.lR 1 1 [(.k .cq)]) 240025001,q 105 (.append 1 (.t 103) (.t 104)) 240025002,q 11 (.dm (.t 105)) 240025003]))) .skip)) (.eI false [q 106 (.dm (.t 11)) 240026000,q 107 (.dm (.t 15)) 240026001,q 108 (.dm (.t 11)) 240026002,q 109 (.dm (.t 15)) 240026003,q 110 (.dJ 1 (.t 108) (.t 109)) 240026004,q 111 (.load false 1 (.t 110)) 240026005,q 112 (.dm (.t 13)) 240026006,q 113 (.lR 1 1 [(.t 112)]) 240026007,q 114 (.append 1 (.t 111) (.t 113)) 240026008,q 115 (.dJ 1 (.t 106) (.t 107)) 240026009,⟨none,(.store 1 (.t 115) (.t 114)),none,240026010,[]⟩]))))) (.eI false [q 116 (.bin .add .i64 (.t 81) (.k (.int .i64 1))) 240027000,q 81 (.dm (.t 116)) 240027001]))))))) (.seq (.eI false [q 117 (.dm (.t 11)) 240028000,q 4 (.dm (.t 117)) 240028001]) .ret)))))))),[(.tmp 4)]⟩
theorem Nq:xo Tryz.prog 240 [(10,2)]=some O0:=by kernel_rfl
end Go.Proofs.YtgoelphibofcmaaGreat.V

namespace Go.Proofs.YtgoelphibofcmaaGreat.V
open Go.RowKit
attribute [local irreducible] dI wpOps gD Call
attribute [local go_sem] aM fM eP gp gm cN upd cD K.av cR AV.cells AV.cell rowOf rowsOf part ld rowAt bz cu dG ef ik bQ dh eA gj e9 dq ek dd dc dU dV bW bf cW bV cY cX ei eo ej cV ck de eh bU aT da cG ij bx cQ b4 aY dn bc dH AV.undef bF bI eb ee dP dM cJ ez eE cF er ep cZ db List.getD_cons_zero List.getD_cons_succ List.getD_nil List.all_cons List.all_nil Bool.and_true Bool.true_and Bool.and_self Bool.not_true Bool.not_false Option.map_some Option.map_none Option.bind_some Option.bind_none List.length_cons List.length_nil List.take_succ_cons List.take_zero List.take_nil List.drop_succ_cons List.drop_zero List.drop_nil List.head?_cons List.map_cons List.map_nil List.getElem?_cons_zero List.getElem?_cons_succ List.cons_append List.nil_append List.append_nil List.length_map List.set_cons_zero List.set_cons_succ Nat.reduceMul eq_self Int.toNat_natCast Int.natCast_nonneg and_self true_and and_true decide_true decide_false Bool.false_eq_true Nat.zero_add Nat.add_zero List.contains_cons List.contains_nil Bool.or_false Bool.false_or beq_self_eq_true Nat.reduceBEq ne_eq not_true_eq_false not_false_eq_true Id.mk.injEq false_and and_false Nat.reduceLT Int.reduceLE Int.reduceLT Int.reduceToNat Int.reduceNeg Int.reduceAdd Nat.le_refl List.length_append beq_true beq_false Bool.not_eq_eq_eq_not or_false false_or dO ai aj aH bp bE cz aX bl aW bj cU bH
theorem Bi (x:fA) (g:Rows):cP g 6 [.agg (bG x)]=some [.agg (bG x)]:=by simp[bG,ai,aj,bl,bE,aH]
theorem Bj (x:eR) (g:Rows):cP g 6 [.agg (bB x)]=some [.agg (bB x)]:=by simp[bB,ai,aj,bl,bE,cz]
theorem vL (x:ad) (g:Rows):cP g 6 [.agg (aa x)]=some [.agg (aa x)]:=by simp[aa,ai,aj,bl,aH]
theorem iC {n:Nat} {l:Int} (h:(n:Int)<=l):xK n l=l-n:=if_pos h
theorem iI {n:Nat} {l:Int} (h:¬(n:Int)<=l):xK n l= -1:=if_neg h
def kp (t:eR):Nat:=t.aC.size+t.br.length
def uo (s:au):Nat:=(s.ax.length+(s.ax.map fun g=>g.aC.size).sum)+(s.ah.length+(s.ah.map kp).sum)
def w9 (s:aA):Nat:=uo s.aE+s.aZ.ah.length
def fV (s:au):Prop:=(∀g∈s.ax,g.aC.size<=9223372036854775807)/\∀t∈s.ah,t.aC.size<=9223372036854775807
theorem JO (g:fA) (l:Int) (h0:0<=l) (h1:l<=1048576) (hs:g.aC.size<=9223372036854775807):aq Tryz.prog 154 [.agg (bG g),.int .i64 l] (.int .i64 (xK g.aC.size l)):=by
 refine aq.body eB rfl fun hl n0=>?_
 clear hl
 have hw:IntKind.i64.wrap (l-(g.aC.size:Int))=l-g.aC.size:=bt (by omega)
 by_cases hf:(g.aC.size:Int)<=l
 ·have kr:¬l-(g.aC.size:Int)<0:=by omega
  (try((repeat(revert hN;revert N;apply Pn.out));refine wk (tw @bG.eq_1 (tw @hw @kr)) ?_;(repeat(refine Pn.mk ?_;intro N hN))))
  exact cj (b:=l-(g.aC.size:Int)) (.inl rfl) (sd @Nat.zero_add) (iC hf).symm
 ·have kr:l-(g.aC.size:Int)<0:=by omega
  (try((repeat(revert hN;revert N;apply Pn.out));refine wk (tw @bG.eq_1 (tw @hw @kr)) ?_;(repeat(refine Pn.mk ?_;intro N hN))))
  exact cj (b:=-1) (.inl rfl) (sd @Nat.zero_add) (iI hf).symm
theorem JP (xs:List Int) (l:Int) (h0:0<=l) (h1:l<=1048576):aq Tryz.prog 188 [.sl (xs.map bq),.int .i64 l] (.int .i64 (xK xs.length l)):=by
 have h:=JR (show l5 Tryz.prog 188=some (JQ 188) by kernel_rfl) (xs.map bq) l h0 h1
 rwa [List.length_map]at h
theorem JU (t:eR) (l:Int) (h0:0<=l) (h1:l<=1048576) (hs:t.aC.size<=9223372036854775807):aq Tryz.prog 155 [.agg (bB t),.int .i64 l] (.int .i64 (xK (kp t) l)):=by
 refine aq.body eB rfl fun hl n0=>?_
 clear hl
 have hw:IntKind.i64.wrap (l-(t.aC.size:Int))=l-t.aC.size:=bt (by omega)
 by_cases hf:(t.aC.size:Int)<=l
 ·have kr:¬l-(t.aC.size:Int)<0:=by omega
  have hc:=JP t.br (l-t.aC.size) (by omega) (by omega)
  by_cases hg:(t.br.length:Int)<=l-t.aC.size
  ·rw[iC hg]at hc
   have EZ:¬l-(t.aC.size:Int)-(t.br.length:Int)<0:=by omega
   (repeat(first|((repeat(revert hN;revert N;apply Pn.out));refine wk (tw @bB.eq_1 (tw @hw (tw @kr @EZ))) ?_;(repeat(refine Pn.mk ?_;intro N hN)))|((try apply Or.inl);refine⟨_,aq.x (hc) (sd (tw @bB.eq_1 (tw @hw (tw @kr @EZ)))),?_⟩;refine hN _ _ ?_;clear hN N)))
   exact cj (b:=l-(t.aC.size:Int)-(t.br.length:Int)) (.inl rfl) (sd @Nat.zero_add) (by rw[iC (by unfold kp;omega)];unfold kp;omega)
  ·rw[iI hg]at hc
   (repeat(first|((repeat(revert hN;revert N;apply Pn.out));refine wk (tw @bB.eq_1 (tw @hw @kr)) ?_;(repeat(refine Pn.mk ?_;intro N hN)))|((try apply Or.inl);refine⟨_,aq.x (hc) (sd (tw @bB.eq_1 (tw @hw @kr))),?_⟩;refine hN _ _ ?_;clear hN N)))
   exact cj (b:=-1) (.inl rfl) (sd @Nat.zero_add) (iI (by unfold kp;omega)).symm
 ·have kr:l-(t.aC.size:Int)<0:=by omega
  (try((repeat(revert hN;revert N;apply Pn.out));refine wk (tw @bB.eq_1 (tw @hw @kr)) ?_;(repeat(refine Pn.mk ?_;intro N hN))))
  exact cj (b:=-1) (.inl rfl) (sd @Nat.zero_add) (iI (by unfold kp;omega)).symm
theorem G2 (xs:List fA) (l:Int) (h0:0<=l) (h1:l<=1048576) (hs:∀g∈xs,g.aC.size<=9223372036854775807):aq Tryz.prog 94 [.sl (xs.map bG),.int .i64 l] (.int .i64 (xK (xs.length+(xs.map fun g=>g.aC.size).sum) l)):=
 JT (fun g:fA=>g.aC.size) (show l5 Tryz.prog 94=some (JS 94 154 2) by kernel_rfl) (fun _=>rfl) Bi xs l h0 h1 fun x hx l a b=>JO x l a b (hs x hx)
theorem G3 (xs:List eR) (l:Int) (h0:0<=l) (h1:l<=1048576) (hs:∀t∈xs,t.aC.size<=9223372036854775807):aq Tryz.prog 95 [.sl (xs.map bB),.int .i64 l] (.int .i64 (xK (xs.length+(xs.map kp).sum) l)):=
 JT kp (show l5 Tryz.prog 95=some (JS 95 155 2) by kernel_rfl) (fun _=>rfl) Bj xs l h0 h1 fun x hx l a b=>JU x l a b (hs x hx)
theorem Ei (xs:List ad) (l:Int) (h0:0<=l) (h1:l<=1048576):aq Tryz.prog 57 [.sl (xs.map aa),.int .i64 l] (.int .i64 (xK xs.length l)):=by
 have h:=JR (show l5 Tryz.prog 57=some (JQ 57) by kernel_rfl) (xs.map aa) l h0 h1
 rwa [List.length_map]at h
theorem Cn (s:au) (l:Int) (h0:0<=l) (h1:l<=1048576) (hs:fV s):aq Tryz.prog 56 [.agg (ab s),.int .i64 l] (.int .i64 (xK (uo s) l)):=by
 refine aq.body eB rfl fun hl n0=>?_
 clear hl
 have ha:=G2 s.ax l h0 h1 hs.1
 have he:uo s=(s.ax.length+(s.ax.map fun g=>g.aC.size).sum)+(s.ah.length+(s.ah.map kp).sum):=rfl
 by_cases hf:((s.ax.length+(s.ax.map fun g=>g.aC.size).sum:Nat):Int)<=l
 ·rw[iC hf]at ha
  obtain⟨A,hA⟩:∃A:Int,A=l-((s.ax.length+(s.ax.map fun g=>g.aC.size).sum:Nat):Int):=⟨_,rfl⟩
  rw[<-hA]at ha
  have kr:¬A<0:=by omega
  have hb:=G3 s.ah A (by omega) (by omega) hs.2
  by_cases hg:((s.ah.length+(s.ah.map kp).sum:Nat):Int)<=A
  ·rw[iC hg]at hb
   obtain⟨B,hB⟩:∃B:Int,B=A-((s.ah.length+(s.ah.map kp).sum:Nat):Int):=⟨_,rfl⟩
   rw[<-hB]at hb
   have EZ:¬B<0:=by omega
   (repeat(first|((repeat(revert hN;revert N;apply Pn.out));refine wk (tw @ab.eq_1 (tw @kr @EZ)) ?_;(repeat(refine Pn.mk ?_;intro N hN)))|((try apply Or.inl);refine⟨_,aq.x (ha) (sd (tw @ab.eq_1 (tw @kr @EZ))),?_⟩;refine hN _ _ ?_;clear hN N)|((try apply Or.inl);refine⟨_,aq.x (hb) (sd (tw @ab.eq_1 (tw @kr @EZ))),?_⟩;refine hN _ _ ?_;clear hN N)))
   exact cj (b:=B) (.inl rfl) (sd @Nat.zero_add) (by rw[iC (by omega)];omega)
  ·rw[iI hg]at hb
   (repeat(first|((repeat(revert hN;revert N;apply Pn.out));refine wk (tw @ab.eq_1 @kr) ?_;(repeat(refine Pn.mk ?_;intro N hN)))|((try apply Or.inl);refine⟨_,aq.x (ha) (sd (tw @ab.eq_1 @kr)),?_⟩;refine hN _ _ ?_;clear hN N)|((try apply Or.inl);refine⟨_,aq.x (hb) (sd (tw @ab.eq_1 @kr)),?_⟩;refine hN _ _ ?_;clear hN N)))
   exact cj (b:=-1) (.inl rfl) (sd @Nat.zero_add) (iI (by omega)).symm
 ·rw[iI hf]at ha
  (repeat(first|((repeat(revert hN;revert N;apply Pn.out));refine wk @ab.eq_1 ?_;(repeat(refine Pn.mk ?_;intro N hN)))|((try apply Or.inl);refine⟨_,aq.x (ha) (sd @ab.eq_1),?_⟩;refine hN _ _ ?_;clear hN N)))
  exact cj (b:=-1) (.inl rfl) (sd @Nat.zero_add) (iI (by omega)).symm
theorem r5 (a:dL) (l:Int) (h0:0<=l) (h1:l<=1048576):aq Tryz.prog 15 [.agg (aP a),.int .i64 l] (.int .i64 (xK a.ah.length l)):=by
 refine aq.body eB rfl fun hl n0=>?_
 clear hl
 have ha:=Ei a.ah l h0 h1
 by_cases hf:(a.ah.length:Int)<=l
 ·rw[iC hf]at ha
  have kr:¬l-(a.ah.length:Int)<0:=by omega
  (repeat(first|((repeat(revert hN;revert N;apply Pn.out));refine wk (tw @aP.eq_1 @kr) ?_;(repeat(refine Pn.mk ?_;intro N hN)))|((try apply Or.inl);refine⟨_,aq.x (ha) (sd (tw @aP.eq_1 @kr)),?_⟩;refine hN _ _ ?_;clear hN N)))
  exact cj (b:=l-(a.ah.length:Int)) (.inl rfl) (sd @Nat.zero_add) (iC hf).symm
 ·rw[iI hf]at ha
  (repeat(first|((repeat(revert hN;revert N;apply Pn.out));refine wk @aP.eq_1 ?_;(repeat(refine Pn.mk ?_;intro N hN)))|((try apply Or.inl);refine⟨_,aq.x (ha) (sd @aP.eq_1),?_⟩;refine hN _ _ ?_;clear hN N)))
  exact cj (b:=-1) (.inl rfl) (sd @Nat.zero_add) (iI hf).symm
theorem Ej (s:aA) (l:Int) (h0:0<=l) (h1:l<=1048576) (hs:fV s.aE):aq Tryz.prog 14 [.agg (aw s),.int .i64 l] (.int .i64 (xK (w9 s) l)):=by
 refine aq.body eB rfl fun hl n0=>?_
 clear hl
 have ha:=Cn s.aE l h0 h1 hs
 rw[ab]at ha
 have he:w9 s=uo s.aE+s.aZ.ah.length:=rfl
 by_cases hf:(uo s.aE:Int)<=l
 ·rw[iC hf]at ha
  have kr:¬l-(uo s.aE:Int)<0:=by omega
  have hb:=r5 s.aZ (l-uo s.aE) (by omega) (by omega)
  rw[aP]at hb
  by_cases hg:(s.aZ.ah.length:Int)<=l-uo s.aE
  ·rw[iC hg]at hb
   have EZ:¬l-(uo s.aE:Int)-(s.aZ.ah.length:Int)<0:=by omega
   (repeat(first|((repeat(revert hN;revert N;apply Pn.out));refine wk (tw @aw.eq_1 (tw @kr @EZ)) ?_;(repeat(refine Pn.mk ?_;intro N hN)))|((try apply Or.inl);refine⟨_,aq.x (ha) (sd (tw @aw.eq_1 (tw @kr @EZ))),?_⟩;refine hN _ _ ?_;clear hN N)|((try apply Or.inl);refine⟨_,aq.x (hb) (sd (tw @aw.eq_1 (tw @kr @EZ))),?_⟩;refine hN _ _ ?_;clear hN N)))
   exact cj (b:=l-(uo s.aE:Int)-(s.aZ.ah.length:Int)) (.inl rfl) (sd @Nat.zero_add) (by rw[iC (by omega)];omega)
  ·rw[iI hg]at hb
   (repeat(first|((repeat(revert hN;revert N;apply Pn.out));refine wk (tw @aw.eq_1 @kr) ?_;(repeat(refine Pn.mk ?_;intro N hN)))|((try apply Or.inl);refine⟨_,aq.x (ha) (sd (tw @aw.eq_1 @kr)),?_⟩;refine hN _ _ ?_;clear hN N)|((try apply Or.inl);refine⟨_,aq.x (hb) (sd (tw @aw.eq_1 @kr)),?_⟩;refine hN _ _ ?_;clear hN N)))
   exact cj (b:=-1) (.inl rfl) (sd @Nat.zero_add) (iI (by omega)).symm
 ·rw[iI hf]at ha
  (repeat(first|((repeat(revert hN;revert N;apply Pn.out));refine wk @aw.eq_1 ?_;(repeat(refine Pn.mk ?_;intro N hN)))|((try apply Or.inl);refine⟨_,aq.x (ha) (sd @aw.eq_1),?_⟩;refine hN _ _ ?_;clear hN N)))
  exact cj (b:=-1) (.inl rfl) (sd @Nat.zero_add) (iI (by omega)).symm
end Go.Proofs.YtgoelphibofcmaaGreat.V

namespace Go.Proofs.YtgoelphibofcmaaGreat.V
open Go.RowKit
attribute [local irreducible] dI wpOps gD Call
attribute [local go_sem] aM fM eP gp gm cN upd cD K.av cR AV.cells AV.cell rowOf rowsOf part ld rowAt bz cu dG ef ik bQ dh eA gj e9 dq ek dd dc dU dV bW bf cW bV cY cX ei eo ej cV ck de eh bU aT da cG ij bx cQ b4 aY dn bc dH AV.undef bF bI eb ee dP dM cJ ez eE cF er ep cZ db List.getD_cons_zero List.getD_cons_succ List.getD_nil List.all_cons List.all_nil Bool.and_true Bool.true_and Bool.and_self Bool.not_true Bool.not_false Option.map_some Option.map_none Option.bind_some Option.bind_none List.length_cons List.length_nil List.take_succ_cons List.take_zero List.take_nil List.drop_succ_cons List.drop_zero List.drop_nil List.head?_cons List.map_cons List.map_nil List.getElem?_cons_zero List.getElem?_cons_succ List.cons_append List.nil_append List.append_nil List.length_map List.set_cons_zero List.set_cons_succ Nat.reduceMul eq_self Int.toNat_natCast Int.natCast_nonneg and_self true_and and_true decide_true decide_false Bool.false_eq_true Nat.zero_add Nat.add_zero List.contains_cons List.contains_nil Bool.or_false Bool.false_or beq_self_eq_true Nat.reduceBEq ne_eq not_true_eq_false not_false_eq_true Id.mk.injEq false_and and_false Nat.reduceLT Int.reduceLE Int.reduceLT Int.reduceToNat Int.reduceNeg Int.reduceAdd Nat.le_refl List.length_append beq_true beq_false Bool.not_eq_eq_eq_not or_false false_or dO ai aj aH bp bE cz aX bl aW bj cU bH
theorem LV (x:fA) (g:Rows):cP g 5 (bG x)=some (bG x):=by simp[bG,ai,aj,bE,aH]
theorem LW (x:eR) (g:Rows):cP g 5 (bB x)=some (bB x):=by simp[bB,ai,aj,bE,cz]
theorem GL (x:ad) (g:Rows):cP g 5 (aa x)=some (aa x):=by simp[aa,ai,aj,aH]
theorem yZ (p:aD):kd Tryz.prog 82 [.agg (ae p)] (.agg (ae p)):=by
 refine kd.body eB rfl fun hl σ=>?_
 clear hl
 (try((repeat(revert hN;revert N;apply Pn.out));refine wk @ae.eq_1 ?_;(repeat(refine Pn.mk ?_;intro N hN))))
 exact xI (.inl rfl) (vs:=[.agg (ae p)]) (by simp only[go_sem, ↓reduceIte,Nat.reduceEqDiff,Nat.reduceAdd,Nat.reduceSub,Nat.reduceLeDiff,reduceCtorEq,fq,iq,ae]) (by simp[fe,ae,bl,ai,aj,aH])
theorem Em (p:ad):kd Tryz.prog 104 [.agg (aa p)] (.agg (aa p)):=by
 refine kd.body eB rfl fun hl σ=>?_
 clear hl
 have h:=yZ p.aO
 rw[ae]at h
 (repeat(first|((repeat(revert hN;revert N;apply Pn.out));refine wk @aa.eq_1 ?_;(repeat(refine Pn.mk ?_;intro N hN)))|((try apply Or.inl);refine⟨_,kd.x (h) _,?_⟩;refine hN _ _ ?_;clear hN N)))
 exact xI (.inl rfl) (vs:=[.agg (aa p)]) (by simp only[go_sem, ↓reduceIte,Nat.reduceEqDiff,Nat.reduceAdd,Nat.reduceSub,Nat.reduceLeDiff,reduceCtorEq,fq,iq,aa]) (by simp[fe,aa,bl,ai,aj,aH])
theorem J2 (p:fA):kd Tryz.prog 161 [.agg (bG p)] (.agg (bG p)):=by
 refine kd.body eB rfl fun hl σ=>?_
 clear hl
 (try((repeat(revert hN;revert N;apply Pn.out));refine wk @bG.eq_1 ?_;(repeat(refine Pn.mk ?_;intro N hN))))
 exact xI (.inl rfl) (vs:=[.agg (bG p)]) (by simp only[go_sem, ↓reduceIte,Nat.reduceEqDiff,Nat.reduceAdd,Nat.reduceSub,Nat.reduceLeDiff,reduceCtorEq,fq,iq,bG]) (by simp[fe,bG,bl,ai,aj,aH,bE])
theorem J4 (xs:List Int) (h:xs.length<=1048576):kd Tryz.prog 195 [.sl (xs.map bq)] (.sl (xs.map bq)):=
 Rx (show l5 Tryz.prog 195=some (J5 195 (.int .i64 0)) by kernel_rfl) xs h
def su (t:eR):Prop:=t.br.length<=1048576
theorem J7 (p:eR) (hs:su p):kd Tryz.prog 162 [.agg (bB p)] (.agg (bB p)):=by
 refine kd.body eB rfl fun hl σ=>?_
 clear hl
 have h:=J4 p.br hs
 (repeat(first|((repeat(revert hN;revert N;apply Pn.out));refine wk @bB.eq_1 ?_;(repeat(refine Pn.mk ?_;intro N hN)))|((try apply Or.inl);refine⟨_,kd.x (h) _,?_⟩;refine hN _ _ ?_;clear hN N)))
 exact xI (.inl rfl) (vs:=[.agg (bB p)]) (by simp only[go_sem, ↓reduceIte,Nat.reduceEqDiff,Nat.reduceAdd,Nat.reduceSub,Nat.reduceLeDiff,reduceCtorEq,fq,iq,bB]) (by simp[fe,bB,bl,ai,aj,cz,bE])
theorem H7 (xs ys:List Int):aq Tryz.prog 30 [.sl (xs.map bq),.sl (ys.map bq)] (.bool (decide (xs=ys))):=
 Qe (show l5 Tryz.prog 30=some (Mr 30 .tI) by kernel_rfl) xs ys
theorem H9 (a b:eR):aq Tryz.prog 170 [.agg (bB a),.agg (bB b)] (.bool (decide (a=b))):=by
 refine aq.body eB rfl fun hl n0=>?_
 clear hl
 have h:=H7 a.br b.br
 by_cases h1:a.aC=b.aC
 ·have e1:decide (a.aC=b.aC)=true:=decide_eq_true h1
  by_cases h2:a.br=b.br
  ·rw[decide_eq_true h2]at h
   (repeat(first|((repeat(revert hN;revert N;apply Pn.out));refine wk (tw @bB.eq_1 @e1) ?_;(repeat(refine Pn.mk ?_;intro N hN)))|((try apply Or.inl);refine⟨_,aq.x (h) (sd (tw @bB.eq_1 @e1)),?_⟩;refine hN _ _ ?_;clear hN N)))
   exact aU (b:=true) (.inl rfl) (sd @Nat.zero_add) (decide_eq_true (by cases a;cases b;simp_all)).symm
  ·rw[decide_eq_false h2]at h
   (repeat(first|((repeat(revert hN;revert N;apply Pn.out));refine wk (tw @bB.eq_1 @e1) ?_;(repeat(refine Pn.mk ?_;intro N hN)))|((try apply Or.inl);refine⟨_,aq.x (h) (sd (tw @bB.eq_1 @e1)),?_⟩;refine hN _ _ ?_;clear hN N)))
   exact aU (b:=false) (.inl rfl) (sd @Nat.zero_add) (decide_eq_false (by rintro rfl;exact h2 rfl)).symm
 ·have e1:decide (a.aC=b.aC)=false:=decide_eq_false h1
  (try((repeat(revert hN;revert N;apply Pn.out));refine wk (tw @bB.eq_1 @e1) ?_;(repeat(refine Pn.mk ?_;intro N hN))))
  exact aU (b:=false) (.inl rfl) (sd @Nat.zero_add) (decide_eq_false (by rintro rfl;exact h1 rfl)).symm
theorem G8 (xs:List fA) (h:xs.length<=1048576):kd Tryz.prog 102 [.sl (xs.map bG)] (.sl (xs.map bG)):=
 En (show l5 Tryz.prog 102=some (tW 102 161 2 [.str [],.int .i64 0]) by kernel_rfl) rfl (fun _=>rfl) (fun _=>rfl) LV xs h fun x _=>J2 x
theorem Ha (xs:List eR) (h:xs.length<=1048576) (hs:∀t∈xs,su t):kd Tryz.prog 103 [.sl (xs.map bB)] (.sl (xs.map bB)):=
 En (show l5 Tryz.prog 103=some (tW 103 162 2 [.str [],.cq]) by kernel_rfl) rfl (fun _=>rfl) (fun _=>rfl) LW xs h fun x hx=>J7 x (hs x hx)
theorem Cq (xs:List ad) (h:xs.length<=1048576):kd Tryz.prog 62 [.sl (xs.map aa)] (.sl (xs.map aa)):=
 En (show l5 Tryz.prog 62=some (tW 62 104 3 [.int .i64 0,.int .i64 0,.int .i64 0]) by kernel_rfl) rfl (fun _=>rfl) (fun _=>rfl) GL xs h fun x _=>Em x
structure HE (s:au):Prop where
 g:s.ax.length<=1048576
 t:s.ah.length<=1048576
 s:∀t∈s.ah,su t
structure qT (y:aA):Prop where
 s:HE y.aE
 a:y.aZ.ah.length<=1048576
theorem Cs (p:au) (hs:HE p):kd Tryz.prog 61 [.agg (ab p)] (.agg (ab p)):=by
 refine kd.body eB rfl fun hl σ=>?_
 clear hl
 have h1:=G8 p.ax hs.g
 have h2:=Ha p.ah hs.t hs.s
 (repeat(first|((repeat(revert hN;revert N;apply Pn.out));refine wk @ab.eq_1 ?_;(repeat(refine Pn.mk ?_;intro N hN)))|((try apply Or.inl);refine⟨_,kd.x (h1) _,?_⟩;refine hN _ _ ?_;clear hN N)|((try apply Or.inl);refine⟨_,kd.x (h2) _,?_⟩;refine hN _ _ ?_;clear hN N)))
 exact xI (.inl rfl) (vs:=[.agg (ab p)]) (by simp only[go_sem, ↓reduceIte,Nat.reduceEqDiff,Nat.reduceAdd,Nat.reduceSub,Nat.reduceLeDiff,reduceCtorEq,fq,iq,ab]) (by simp[fe,ab,bl,ai,aj,cz])
theorem r9 (p:dL) (hs:p.ah.length<=1048576):kd Tryz.prog 18 [.agg (aP p)] (.agg (aP p)):=by
 refine kd.body eB rfl fun hl σ=>?_
 clear hl
 have h1:=Cq p.ah hs
 (repeat(first|((repeat(revert hN;revert N;apply Pn.out));refine wk @aP.eq_1 ?_;(repeat(refine Pn.mk ?_;intro N hN)))|((try apply Or.inl);refine⟨_,kd.x (h1) _,?_⟩;refine hN _ _ ?_;clear hN N)))
 exact xI (.inl rfl) (vs:=[.agg (aP p)]) (by simp only[go_sem, ↓reduceIte,Nat.reduceEqDiff,Nat.reduceAdd,Nat.reduceSub,Nat.reduceLeDiff,reduceCtorEq,fq,iq,aP]) (by simp[fe,aP,bl,ai,aj,cz])
theorem Ep (p:aA) (hs:qT p):kd Tryz.prog 17 [.agg (aw p)] (.agg (aw p)):=by
 refine kd.body eB rfl fun hl σ=>?_
 clear hl
 have h1:=Cs p.aE hs.s
 have h2:=r9 p.aZ hs.a
 rw[ab]at h1
 rw[aP]at h2
 (repeat(first|((repeat(revert hN;revert N;apply Pn.out));refine wk @aw.eq_1 ?_;(repeat(refine Pn.mk ?_;intro N hN)))|((try apply Or.inl);refine⟨_,kd.x (h1) _,?_⟩;refine hN _ _ ?_;clear hN N)|((try apply Or.inl);refine⟨_,kd.x (h2) _,?_⟩;refine hN _ _ ?_;clear hN N)))
 exact xI (.inl rfl) (vs:=[.agg (aw p)]) (by simp only[go_sem, ↓reduceIte,Nat.reduceEqDiff,Nat.reduceAdd,Nat.reduceSub,Nat.reduceLeDiff,reduceCtorEq,fq,iq,aw]) (by simp[fe,aw,bl,ai,aj,cz,aH])
theorem H6 (a b:fA):aq Tryz.prog 169 [.agg (bG a),.agg (bG b)] (.bool (decide (a=b))):=by
 refine aq.body eB rfl fun hl n0=>?_
 clear hl
 by_cases h1:a.aC=b.aC
 ·have e1:decide (a.aC=b.aC)=true:=decide_eq_true h1
  by_cases h2:a.eu=b.eu
  ·have e2:decide (a.eu=b.eu)=true:=decide_eq_true h2
   (try((repeat(revert hN;revert N;apply Pn.out));refine wk (tw @bG.eq_1 (tw @e1 @e2)) ?_;(repeat(refine Pn.mk ?_;intro N hN))))
   exact aU (b:=true) (.inl rfl) (sd @Nat.zero_add) (decide_eq_true (by cases a;cases b;simp_all)).symm
  ·have e2:decide (a.eu=b.eu)=false:=decide_eq_false h2
   (try((repeat(revert hN;revert N;apply Pn.out));refine wk (tw @bG.eq_1 (tw @e1 @e2)) ?_;(repeat(refine Pn.mk ?_;intro N hN))))
   exact aU (b:=false) (.inl rfl) (sd @Nat.zero_add) (decide_eq_false (by rintro rfl;exact h2 rfl)).symm
 ·have e1:decide (a.aC=b.aC)=false:=decide_eq_false h1
  (try((repeat(revert hN;revert N;apply Pn.out));refine wk (tw @bG.eq_1 @e1) ?_;(repeat(refine Pn.mk ?_;intro N hN))))
  exact aU (b:=false) (.inl rfl) (sd @Nat.zero_add) (decide_eq_false (by rintro rfl;exact h1 rfl)).symm
theorem x8 (a b:aD):aq Tryz.prog 29 [.agg (ae a),.agg (ae b)] (.bool (decide (a=b))):=by
 refine aq.body eB rfl fun hl n0=>?_
 clear hl
 by_cases h1:a.eY=b.eY
 ·have e1:decide (a.eY=b.eY)=true:=decide_eq_true h1
  by_cases h2:a.eS=b.eS
  ·have e2:decide (a.eS=b.eS)=true:=decide_eq_true h2
   (try((repeat(revert hN;revert N;apply Pn.out));refine wk (tw @ae.eq_1 (tw @e1 @e2)) ?_;(repeat(refine Pn.mk ?_;intro N hN))))
   exact aU (b:=true) (.inl rfl) (sd @Nat.zero_add) (decide_eq_true (by cases a;cases b;simp_all)).symm
  ·have e2:decide (a.eS=b.eS)=false:=decide_eq_false h2
   (try((repeat(revert hN;revert N;apply Pn.out));refine wk (tw @ae.eq_1 (tw @e1 @e2)) ?_;(repeat(refine Pn.mk ?_;intro N hN))))
   exact aU (b:=false) (.inl rfl) (sd @Nat.zero_add) (decide_eq_false (by rintro rfl;exact h2 rfl)).symm
 ·have e1:decide (a.eY=b.eY)=false:=decide_eq_false h1
  (try((repeat(revert hN;revert N;apply Pn.out));refine wk (tw @ae.eq_1 @e1) ?_;(repeat(refine Pn.mk ?_;intro N hN))))
  exact aU (b:=false) (.inl rfl) (sd @Nat.zero_add) (decide_eq_false (by rintro rfl;exact h1 rfl)).symm
theorem C2 (a b:ad):aq Tryz.prog 110 [.agg (aa a),.agg (aa b)] (.bool (decide (a=b))):=by
 refine aq.body eB rfl fun hl n0=>?_
 clear hl
 have h:=x8 a.aO b.aO
 rw[ae,ae]at h
 by_cases h1:a.aO=b.aO
 ·rw[decide_eq_true h1]at h
  by_cases h2:a.aQ=b.aQ
  ·have e2:decide (a.aQ=b.aQ)=true:=decide_eq_true h2
   (repeat(first|((repeat(revert hN;revert N;apply Pn.out));refine wk (tw @aa.eq_1 @e2) ?_;(repeat(refine Pn.mk ?_;intro N hN)))|((try apply Or.inl);refine⟨_,aq.x (h) (sd (tw @aa.eq_1 @e2)),?_⟩;refine hN _ _ ?_;clear hN N)))
   exact aU (b:=true) (.inl rfl) (sd @Nat.zero_add) (decide_eq_true (by cases a;cases b;simp_all)).symm
  ·have e2:decide (a.aQ=b.aQ)=false:=decide_eq_false h2
   (repeat(first|((repeat(revert hN;revert N;apply Pn.out));refine wk (tw @aa.eq_1 @e2) ?_;(repeat(refine Pn.mk ?_;intro N hN)))|((try apply Or.inl);refine⟨_,aq.x (h) (sd (tw @aa.eq_1 @e2)),?_⟩;refine hN _ _ ?_;clear hN N)))
   exact aU (b:=false) (.inl rfl) (sd @Nat.zero_add) (decide_eq_false (by rintro rfl;exact h2 rfl)).symm
 ·rw[decide_eq_false h1]at h
  (repeat(first|((repeat(revert hN;revert N;apply Pn.out));refine wk @aa.eq_1 ?_;(repeat(refine Pn.mk ?_;intro N hN)))|((try apply Or.inl);refine⟨_,aq.x (h) (sd @aa.eq_1),?_⟩;refine hN _ _ ?_;clear hN N)))
  exact aU (b:=false) (.inl rfl) (sd @Nat.zero_add) (decide_eq_false (by rintro rfl;exact h1 rfl)).symm
theorem FZ (xs ys:List fA):aq Tryz.prog 108 [.sl (xs.map bG),.sl (ys.map bG)] (.bool (decide (xs=ys))):=
 zq (show l5 Tryz.prog 108=some (Bb 108 169 2) by kernel_rfl) (fun _=>rfl) Bi xs ys H6
theorem F0 (xs ys:List eR):aq Tryz.prog 109 [.sl (xs.map bB),.sl (ys.map bB)] (.bool (decide (xs=ys))):=
 zq (show l5 Tryz.prog 109=some (Bb 109 170 2) by kernel_rfl) (fun _=>rfl) Bj xs ys H9
theorem tz (xs ys:List ad):aq Tryz.prog 66 [.sl (xs.map aa),.sl (ys.map aa)] (.bool (decide (xs=ys))):=
 zq (show l5 Tryz.prog 66=some (Bb 66 110 3) by kernel_rfl) (fun _=>rfl) vL xs ys C2
theorem C3 (a:aA):aq Tryz.prog 20 [.agg (aw a),.agg (aw a)] (.bool true):=by
 have q1:aq Tryz.prog 65 [.agg (ab a.aE),.agg (ab a.aE)] (.bool true):=by
  refine aq.body eB rfl fun hl n0=>?_
  clear hl
  have h1:=FZ a.aE.ax a.aE.ax
  have h2:=F0 a.aE.ah a.aE.ah
  rw[decide_eq_true rfl]at h1 h2
  (repeat(first|((repeat(revert hN;revert N;apply Pn.out));refine wk @ab.eq_1 ?_;(repeat(refine Pn.mk ?_;intro N hN)))|((try apply Or.inl);refine⟨_,aq.x (h1) (sd @ab.eq_1),?_⟩;refine hN _ _ ?_;clear hN N)|((try apply Or.inl);refine⟨_,aq.x (h2) (sd @ab.eq_1),?_⟩;refine hN _ _ ?_;clear hN N)))
  exact aU (b:=true) (.inl rfl) (sd @Nat.zero_add) rfl
 have q2:aq Tryz.prog 21 [.agg (aP a.aZ),.agg (aP a.aZ)] (.bool true):=by
  refine aq.body eB rfl fun hl n0=>?_
  clear hl
  have h1:=tz a.aZ.ah a.aZ.ah
  rw[decide_eq_true rfl]at h1
  (repeat(first|((repeat(revert hN;revert N;apply Pn.out));refine wk @aP.eq_1 ?_;(repeat(refine Pn.mk ?_;intro N hN)))|((try apply Or.inl);refine⟨_,aq.x (h1) (sd @aP.eq_1),?_⟩;refine hN _ _ ?_;clear hN N)))
  exact aU (b:=true) (.inl rfl) (sd @Nat.zero_add) rfl
 rw[ab]at q1
 rw[aP]at q2
 refine aq.body eB rfl fun hl n0=>?_
 clear hl
 have e:decide (a.aB=a.aB)=true:=decide_eq_true rfl
 (repeat(first|((repeat(revert hN;revert N;apply Pn.out));refine wk (tw @aw.eq_1 @e) ?_;(repeat(refine Pn.mk ?_;intro N hN)))|((try apply Or.inl);refine⟨_,aq.x (q1) (sd (tw @aw.eq_1 @e)),?_⟩;refine hN _ _ ?_;clear hN N)|((try apply Or.inl);refine⟨_,aq.x (q2) (sd (tw @aw.eq_1 @e)),?_⟩;refine hN _ _ ?_;clear hN N)))
 exact aU (b:=true) (.inl rfl) (sd @Nat.zero_add) rfl
end Go.Proofs.YtgoelphibofcmaaGreat.V

namespace Go.Proofs.YtgoelphibofcmaaGreat.V
open Go.RowKit
def isApp:gw->Bool
 | .append .. =>true
 |_=>false
variable {P:Program} {X:fF} {K:Env->ar->Prop} {env:Env} {σ:ar}
theorem M0 {draw:Bool} {o:bd} {r:List bd} (_:isApp o.op=false) (h:∀N:AV->ar->Prop,(∀v s,wpOps X draw r K (upd env o.dst v) s->N v s)->if aM o.guard env then fM X draw o env σ N else N .undef σ):wpOps X draw (o::r) K env σ:=O5 h
end Go.Proofs.YtgoelphibofcmaaGreat.V

namespace Go.Proofs.YtgoelphibofcmaaGreat.V
open Go.RowKit
section
variable {α:Type} {enc:α->List AV} {sz:Nat} {g g':Rows} {a:AV} {xs:List α} {ids:List Id}
end
abbrev Cy (α:Type):=Rows->List AV->α->List Id->Prop
structure xh {α:Type} (R:Cy α) (sz:Nat):Prop where
 frame:∀{g g':Rows} {cs x ids},R g cs x ids->(∀i∈ids,g' i=g i)->R g' cs x ids
 len:∀{g cs x ids},R g cs x ids->cs.length=sz
 cell:∀{g cs x ids},R g cs x ids->cs.all AV.cell=true
 live:∀{g cs x ids},R g cs x ids->∀i∈ids,∃r,g i=some r/\r.w=true/\r.sz<rN
 small:sz<rN
inductive eH {α:Type} (R:Cy α) (g:Rows):List (List AV)->List α->List Id->Prop
 |nil:eH R g [] [] []
 |cons {cs x i1 rs xs i2}:R g cs x i1->eH R g rs xs i2->eH R g (cs::rs) (x::xs) (i1++i2)
section
variable {α:Type} {R:Cy α} {sz:Nat} {g g':Rows} {rows r1 r2:List (List AV)} {xs x1 x2:List α} {ids i1 i2:List Id}
theorem eH.len (h:eH R g rows xs ids):rows.length=xs.length:=by
 induction h with
 |nil=>rfl
 |cons _ _ ih=>simp[ih]
theorem eH.frame (ok:xh R sz) (h:eH R g rows xs ids) (hf:∀i∈ids,g' i=g i):eH R g' rows xs ids:=by
 induction h with
 |nil=>exact .nil
 |cons h1 _ ih=>exact .cons (ok.frame h1 fun i hi=>hf i (List.mem_append_left _ hi)) (ih fun i hi=>hf i (List.mem_append_right _ hi))
theorem eH.app (h1:eH R g r1 x1 i1) (h2:eH R g r2 x2 i2):eH R g (r1++r2) (x1++x2) (i1++i2):=by
 induction h1 with
 |nil=>exact h2
 |cons h _ ih=>rw[List.append_assoc];exact .cons h ih
theorem eH.one {cs:List AV} {x:α} (h:R g cs x ids):eH R g [cs] [x] ids:=by
 have:=eH.cons h eH.nil
 rwa [List.append_nil]at this
theorem eH.split (h:eH R g rows xs ids):∀k (hk:k<xs.length),∃r1 cs r2 i1 ic i2,rows=r1++cs::r2/\r1.length=k/\ids=i1++(ic++i2)/\eH R g r1 (xs.take k) i1/\R g cs xs[k] ic/\eH R g r2 (xs.drop (k+1)) i2:=by
 induction h with
 |nil=>intro k hk;simp at hk
 |cons h1 h2 ih=>
  rename_i cs x j1 rs xs j2
  intro k hk
  cases k with
  |zero=>exact⟨[],cs,rs,[],j1,j2,rfl,rfl,rfl,.nil,h1,h2⟩
  |succ k=>
   obtain⟨r1,pV,r2,i1,ic,i2,rfl,hl,rfl,h3,h4,h5⟩:=ih k (by simpa using hk)
   exact⟨cs::r1,pV,r2,j1++i1,ic,i2,rfl,by simp[hl],by rw[List.append_assoc],.cons h1 h3,h4,h5⟩
theorem eH.at_ (h:eH R g rows xs ids) (k:Nat) (hk:k<xs.length):∃cs ic,rows[k]? =some cs/\R g cs xs[k] ic/\∀i∈ic,i∈ids:=by
 obtain⟨r1,cs,r2,i1,ic,i2,rfl,hl,rfl,h3,h4,h5⟩:=h.split k hk
 refine⟨cs,ic,by rw[List.getElem?_append_right (by omega)];simp[hl],h4,fun i hi=>by simp[hi]⟩
theorem eH.fz {n:Nat} {e:α->List AV} (h:eH R g rows xs ids) (hz:∀{cs x ids},R g cs x ids->cP (dO g) n cs=some (e x)):dZ (dO g) n rows=some (xs.map e):=by
 induction h with
 |nil=>rw[dZ];rfl
 |cons h1 _ ih=>rw[dZ,hz h1,ih];rfl
end
section
variable {α:Type} {R:Cy α} {sz:Nat} {g g':Rows} {a:AV} {xs:List α} {ids:List Id}
end
end Go.Proofs.YtgoelphibofcmaaGreat.V
