/- One operation, calls among them. -/
import Derived.Test.YtgoelphibofcmaaGreatWkA
import Derived.Orders
import Derived.Conc.LoneCalls
import Derived.WalkKit
import Derived.WalkSpells
import Derived.WalkLawsBesides
import Derived.Lib.Hide
import Derived.Deep.QuietTactic
import Derived.BigQuiet
import Derived.StillTailTactics
import Derived.Deep.RegionWith
import Derived.Deep.RegionHeld3
import Derived.Deep.LoopGhost
import Derived.Deep.CutRange
import Derived.Deep.DeepCutAuto
import Derived.Test.YtgoelphibofcmaaGreatChecked
set_option linter.unusedVariables false
set_option linter.unusedSimpArgs false
set_option maxRecDepth 100000
set_option maxHeartbeats 16000000
namespace Go.Proofs.YtgoelphibofcmaaGreat.V
open Go.RowKit
variable {P:Program} {w w':World} {D D' D2:Nat->Prop} {ι ι' ι2:Names}
def Sound (P:Program):fE:=fun f args σ K=>∀(hs:Nat) (D:Nat->Prop) (ι:Names) (w:World) (vs:Array Value),gn P hs D ι σ.get w->Used ι σ.next (fun _=>False)->fo P w D ι args vs->
 Calls P f vs w fun e w'=>∃r g' n' D' ι' u,e=.returned u/\K r ⟨g',n'⟩/\Step hs D ι w D' ι' w'/\gn P hs D' ι' g' w'/\Used ι' n' (fun _=>False)/\σ.next<=n'/\cE P w' D' ι' r u
section
variable {g:Rows} {hs:Nat} {env:Env} {a:Act} {o:Oper} {id:Id} {v:AV}
theorem gn.ro (S:gn P hs D ι g w):gn P w.heap.size D ι (ro g) w:=by
 refine⟨Nat.le_refl _,S.dead,fun id r h=>?_,fun id jU r r' B B' h h' hw=>?_⟩
 ·unfold V.ro at h
  simp only[Option.map_eq_some_iff]at h
  obtain⟨r0,h0,rfl⟩:=h
  obtain⟨B,hB,R,_,_⟩:=S.row id r0 h0
  exact⟨B,hB,R.flag false,fun h=>by simp at h,fun h=>by simp at h⟩
 ·unfold V.ro at h
  simp only[Option.map_eq_some_iff]at h
  obtain⟨r0,h0,rfl⟩:=h
  simp at hw
theorem AQ {g0:Rows} {f:Nat} {args:List AV} {n:Nat} {K:AV->Prop} {vs:Array Value} (h:PC (Sound P) f args ⟨g0,n⟩ K) (qt:∀id r,g0 id=some r->g id=some r) (S:gn P hs D ι g w) (U:Used ι n (fun _=>False)) (A:fo P w D ι args vs):
  Calls P f vs w fun e w'=>∃r D' u,e=.returned u/\K r/\Step hs D ι w D' ι w'/\gn P hs D' ι g w'/\cE P w' D' ι r u:=by
 refine(h w.heap.size D ι w vs (S.sub qt).ro U A).mono ?_
 rintro e w' ⟨r0,g',n',D1,ι1,u,rfl,⟨r,hr,hK⟩,T,S1,_,_,hR⟩
 have hb:∀b,b<w.heap.size->w'.heap[b]? =w.heap[b]? :=T.below.block
 have hz:=T.below.size
 have q:=rj (D2:=fun b=>D b∨(w.heap.size<=b/\b<w'.heap.size)) (ι2:=ι) (fun b hd=>by
  rcases T.new b hd with h|h
  ·exact .inl h
  ·exact .inr ⟨h,S1.dead b hd⟩) (fun id row hg hw=>by
  obtain⟨B,hB,R,h1,_⟩:=S1.row id row hg
  exact⟨B,hB,R,.inr ⟨h1 hw,R.lt⟩⟩) 6 r0 u r hR hr
 refine⟨r,_,u,rfl,hK,?_,?_,q.1⟩
 ·exact Step.stay S hb hz T.below.os T.below.tape T.below.output (fun _ h=>.inl h) (fun b h=>by rcases h with h|h;exact .inl h;exact .inr h.1) (fun _ _ h=>h)
 ·exact S.stay hb hz (fun _ h=>.inl h) (fun b h=>by rcases h with h|h;exact Nat.lt_of_lt_of_le (S.dead b h) hz;exact h.2) (fun b h=>by rcases h with h|h;exact .inl h;exact .inr h.1) (fun _ _ h=>h)
theorem xP {g0:Rows} {f:Nat} {args:List AV} {n:Nat} {K:AV->Prop} {vs:Array Value} (h:PCv (Sound P) f args ⟨g0,n⟩ K) (qt:∀id r,g0 id=some r->g id=some r) (S:gn P hs D ι g w) (U:Used ι n (fun _=>False)) (A:fo P w D ι args vs):
  Calls P f vs w fun e w'=>∃r D' u,e=.returned u/\K r/\Step hs D ι w D' ι w'/\gn P hs D' ι g w'/\cE P w' D' ι r u:=by
 obtain⟨eK,ha,h⟩:=h
 let D1:Nat->Prop:=fun b=>D b∨∃id r B,g id=some r/\ι id=some B/\b=B.b
 have lt:∀id r B,g id=some r->ι id=some B->B.b<w.heap.size:=fun id r B h1 h2=>by
  obtain⟨B',dC,R,_⟩:=S.row id r h1
  rw[h2]at dC;injection dC with dC;subst dC
  exact R.lt
 have S0:gn P w.heap.size D1 ι (fun _=>none) w:=⟨Nat.le_refl _,fun b hb=>by
  rcases hb with hb|⟨id,r,B,h1,h2,rfl⟩
  ·exact S.dead b hb
  ·exact lt id r B h1 h2,fun id r h=>(by cases h),fun id jU r r' B B' h=>(by cases h)⟩
 obtain⟨l1,l2⟩:=gD ha
 have A':fo P w D1 ι eK vs:=⟨by rw[A.1,l1],fun j a hj=>by
  obtain⟨a0,lg,hf⟩:=l2 j a hj
  obtain⟨u,hu,hr⟩:=A.2 j a0 lg
  refine⟨u,hu,(rj (D2:=D1) (ι2:=ι) (fun b h=>.inl h) (fun id row hg hw=>?_) 6 a0 u a hr hf).1⟩
  unfold dX at hg
  simp only[Option.map_eq_some_iff]at hg
  obtain⟨r,nT,rfl⟩:=hg
  obtain⟨B,hB,R,_,_⟩:=S.row id r (qt id r nT)
  exact⟨B,hB,R.flag true,.inr ⟨id,r,B,qt id r nT,hB,rfl⟩⟩⟩
 refine(h w.heap.size D1 ι w vs S0 U A').mono ?_
 rintro e w' ⟨r0,g',n',D2,ι1,u,rfl,⟨r,hr,hK⟩,T,S1,_,_,hR⟩
 have hb:∀b,b<w.heap.size->w'.heap[b]? =w.heap[b]? :=T.below.block
 have hz:=T.below.size
 have q:=Ge (D2:=fun b=>D b∨(w.heap.size<=b/\b<w'.heap.size)) (ι2:=ι) (fun id row hg hw=>by
  obtain⟨B,hB,R,h1,_⟩:=S1.row id row hg
  exact⟨B,hB,R,.inr ⟨h1 hw,R.lt⟩⟩) 6 r0 u r hR hr
 refine⟨r,_,u,rfl,hK,?_,?_,q.1⟩
 ·exact Step.stay S hb hz T.below.os T.below.tape T.below.output (fun _ h=>.inl h) (fun b h=>by rcases h with h|h;exact .inl h;exact .inr h.1) (fun _ _ h=>h)
 ·exact S.stay hb hz (fun _ h=>.inl h) (fun b h=>by rcases h with h|h;exact Nat.lt_of_lt_of_le (S.dead b h) hz;exact h.2) (fun b h=>by rcases h with h|h;exact .inl h;exact .inr h.1) (fun _ _ h=>h)
theorem FU {g0:Rows} {f:Nat} {args:List AV} {n:Nat} {K:AV->Prop} {vs:Array Value} (h:gz (Sound P) f args ⟨g0,n⟩ K) (qt:∀id r,g0 id=some r->g id=some r) (S:gn P hs D ι g w) (U:Used ι n (fun _=>False)) (A:fo P w D ι args vs):
  Calls P f vs w fun e w'=>∃r D' u,e=.returned u/\K r/\Step hs D ι w D' ι w'/\gn P hs D' ι g w'/\cE P w' D' ι r u:=by
 rcases h with h|h
 ·exact AQ h qt S U A
 ·exact xP h qt S U A
theorem GY {D1 D2:Nat->Prop} {ι1 ι2:Names} {w1:World} {a:AV} {v:Value} (hp:a.plain=true) (h:cE P w D1 ι1 a v):cE P w1 D2 ι2 a v:=by
 cases h with
 |eP a v h=>cases h<;>first|(simp[AV.plain]at hp;done)|exact .eP _ _ (by constructor)
 |_=>simp[AV.plain]at hp
theorem gn.add {r:Row} {B:sa} (S:gn P hs D ι g w) (S':gn P hs D ι g w') (hf:ι id=none) (jM:w.heap.size<=B.b) (R:gI P w' D (kC ι id B) B r):gn P hs D (kC ι id B) (bJ g id r) w':=by
 have lt:∀jU r' B',g jU=some r'->ι jU=some B'->B'.b<w.heap.size:=fun jU r' B' h1 h2=>by
  obtain⟨B2,pI,R2,_⟩:=S.row jU r' h1
  rw[h2]at pI;injection pI with pI;subst pI
  exact R2.lt
 have ne:∀jU r',g jU=some r'->jU≠id:=fun jU r' h he=>by
  subst he
  obtain⟨B2,pI,_⟩:=S.row _ r' h
  rw[hf]at pI;cases pI
 refine⟨S'.lo,S'.dead,fun jU r' h=>?_,fun Rk id2 r1 r2 B1 B2 h1 h2 hw AK pI hb=>?_⟩
 ·unfold bJ at h
  split at h
  ·rename_i he
   subst he
   injection h with h;subst h
   exact⟨B,dR _ _ _,R,fun _=>Nat.le_trans S.lo jM,fun _ hd=>Nat.lt_irrefl _ (Nat.lt_of_lt_of_le (S.dead _ hd) jM)⟩
  ·obtain⟨B',dC,R',k1,k2⟩:=S'.row jU r' h
   exact⟨B',by rw[gi (ne _ _ h)];exact dC,R'.frame rfl (fun a v hr=>hr.frame (fun _ _=>rfl) (fun _ h=>h) (fa hf)),k1,k2⟩
 ·unfold bJ at h1 h2
  split at h1
  ·rename_i e1
   split at h2
   ·rename_i e2;rw[e1,e2]
   ·exfalso
    subst e1
    rw[dR]at AK;injection AK with AK;subst AK
    rw[gi (ne _ _ h2)]at pI
    have:=lt _ _ _ h2 pI
    omega
  ·rw[gi (ne _ _ h1)]at AK
   split at h2
   ·rename_i e2
    exfalso
    subst e2
    rw[dR]at pI;injection pI with pI;subst pI
    have:=lt _ _ _ h1 AK
    omega
   ·rw[gi (ne _ _ h2)]at pI
    exact S'.inj Rk id2 r1 r2 B1 B2 h1 h2 hw AK pI hb
theorem HH {g0:Rows} {f:Nat} {args:List AV} {n sz:Nat} {rows:List (List AV)} {vs:Array Value} (h:CM (Sound P) f args ⟨g0,n⟩ sz rows) (qt:∀id r,g0 id=some r->g id=some r) (S:gn P hs D ι g w) (U:Used ι n (fun _=>False)) (A:fo P w D ι args vs) (hf:ι id=none):
  Calls P f vs w fun e w'=>∃u B,e=.returned u/\Step hs D ι w D (kC ι id B) w'/\gn P hs D (kC ι id B) (bJ g id ⟨true,sz,rows⟩) w'/\cE P w' D (kC ι id B) (.own id 0 rows.length) u:=by
 obtain⟨mH,eK,ha,h⟩:=h
 let D1:Nat->Prop:=fun b=>D b∨∃id r B,g id=some r/\ι id=some B/\b=B.b
 have lt:∀id r B,g id=some r->ι id=some B->B.b<w.heap.size:=fun id r B h1 h2=>by
  obtain⟨B',dC,R,_⟩:=S.row id r h1
  rw[h2]at dC;injection dC with dC;subst dC
  exact R.lt
 have S0:gn P w.heap.size D1 ι (fun _=>none) w:=⟨Nat.le_refl _,fun b hb=>by
  rcases hb with hb|⟨id,r,B,h1,h2,rfl⟩
  ·exact S.dead b hb
  ·exact lt id r B h1 h2,fun id r h=>(by cases h),fun id jU r r' B B' h=>(by cases h)⟩
 obtain⟨l1,l2⟩:=gD ha
 have A':fo P w D1 ι eK vs:=⟨by rw[A.1,l1],fun j a hj=>by
  obtain⟨a0,lg,hz⟩:=l2 j a hj
  obtain⟨u,hu,hr⟩:=A.2 j a0 lg
  refine⟨u,hu,(rj (D2:=D1) (ι2:=ι) (fun b h=>.inl h) (fun id row hg hw=>?_) 6 a0 u a hr hz).1⟩
  unfold dX at hg
  simp only[Option.map_eq_some_iff]at hg
  obtain⟨r,nT,rfl⟩:=hg
  obtain⟨B,hB,R,_,_⟩:=S.row id r (qt id r nT)
  exact⟨B,hB,R.flag true,.inr ⟨id,r,B,qt id r nT,hB,rfl⟩⟩⟩
 refine(h w.heap.size D1 ι w vs S0 U A').mono ?_
 rintro e w' ⟨r0,g',n',D2,ι1,u,rfl,⟨i0,hr,hg⟩,T,S1,_,_,hR⟩
 subst hr
 have hb:∀b,b<w.heap.size->w'.heap[b]? =w.heap[b]? :=T.below.block
 have hz:=T.below.size
 obtain⟨B,hB,R,k1,_⟩:=S1.row i0 _ hg
 have jM:w.heap.size<=B.b:=k1 rfl
 obtain⟨o,cap,B',rfl,dC,q2,q3,q4,q5,hk⟩:=iQ hR
 rw[hB]at dC;injection dC with dC;subst dC
 replace R:=R.row hk
 have S':gn P hs D ι g w':=S.stay hb hz (fun _ h=>h) (fun b h=>Nat.lt_of_lt_of_le (S.dead b h) hz) (fun b h=>.inl h) (fun _ _ h=>h)
 have R':ly P w' D (kC ι id B) B ⟨true,sz,rows⟩:=⟨R.sz,R.xn,R.fits,R.len,R.flat,fun i j cs a hi hj=>by
  obtain⟨v,h1,h2⟩:=R.at_ i j cs a hi hj
  exact⟨v,h1,GY (mH cs (List.mem_of_getElem? hi) a (List.mem_of_getElem? hj)) h2⟩⟩
 exact⟨_,B,rfl,Step.stay S hb hz T.below.os T.below.tape T.below.output (fun _ h=>h) (fun _ h=>.inl h) (fa hf),S.add S' hf jM (R'.obj hk),.own id 0 _ _ _ B (dR _ _ _) hk q2 q3 q4 q5⟩
theorem jz {f:Nat} {args:Array Value} (hc:fJ P f=true):(callFunc f args).run P w=.ok (.enter f args) w:=by
 unfold fJ at hc
 split at hc
 ·rename_i fn hf
  simp only[Bool.and_eq_true,Bool.not_eq_true']at hc
  have hb:fn.body.isNone=false:=by cases hq:fn.body<;>simp_all
  simp only[callFunc,Sem.run_bind,run_program,Result.andThen_ok,hf,hc.2,Bool.false_eq_true,if_false,hb]
  rfl
 ·simp at hc
theorem BQ {f:Nat} {args:List O} (hc:qM P o.op=some (.call f args)):∃c,o.op=.call c/\c.callee=.value (.func f)/\fJ P f=true/\c.args.toList.mapM (cO P)=some args:=by
 unfold qM at hc
 split at hc
 case h_23=>
  rename_i c ho
  refine⟨c,ho,?_⟩
  unfold nB at hc
  split at hc
  all_goals (try(repeat' (split at hc))<;>(simp only[Option.bind_eq_bind,Option.bind_eq_some_iff,Option.pure_def,Option.some.injEq,Option.map_eq_some_iff,reduceCtorEq,and_false,exists_false]at hc))
  all_goals simp_all
 all_goals (try unfold uY at hc)<;>(try unfold so at hc)<;>(repeat' (split at hc))<;>(simp only[Option.bind_eq_bind,Option.bind_eq_some_iff,Option.pure_def,Option.some.injEq,Option.map_eq_some_iff,reduceCtorEq,and_false,exists_false]at hc)
theorem sN {x:O} {args:List O} (hc:qM P o.op=some (.tj x args)):∃c t,o.op=.call c/\c.callee=.value (.tmp t)/\x=.t t/\c.args.toList.mapM (cO P)=some args:=by
 unfold qM at hc
 split at hc
 case h_23=>
  rename_i c ho
  refine⟨c,?_⟩
  unfold nB at hc
  split at hc
  all_goals (try(repeat' (split at hc))<;>(simp only[Option.bind_eq_bind,Option.bind_eq_some_iff,Option.pure_def,Option.some.injEq,Option.map_eq_some_iff,reduceCtorEq,and_false,exists_false]at hc))
  all_goals simp_all
 all_goals (try unfold uY at hc)<;>(try unfold so at hc)<;>(repeat' (split at hc))<;>(simp only[Option.bind_eq_bind,Option.bind_eq_some_iff,Option.pure_def,Option.some.injEq,Option.map_eq_some_iff,reduceCtorEq,and_false,exists_false]at hc)
theorem Gw {n:Nat} {x y:O} (hc:qM P o.op=some (.store n x y)):∃t x' y',o.op=.store t x' y'/\dS P t=some n/\cO P x'=some x/\cO P y'=some y:=by
 unfold qM at hc
 split at hc
 case h_7=>
  rename_i t x' y' ho
  refine⟨t,x',y',ho,?_⟩
  simp only[Option.bind_eq_bind,Option.bind_eq_some_iff,Option.pure_def,Option.some.injEq]at hc
  obtain⟨n',h1,x2,h2,y2,h3,he⟩:=hc
  injection he with e1 e2 e3
  subst e1;subst e2;subst e3
  exact⟨h1,h2,h3⟩
 all_goals (try unfold uY at hc)<;>(try unfold so at hc)<;>(try unfold nB at hc)<;>(repeat' (split at hc))<;>(simp only[Option.bind_eq_bind,Option.bind_eq_some_iff,Option.pure_def,Option.some.injEq,Option.map_eq_some_iff,reduceCtorEq,and_false,exists_false]at hc)
theorem DR {n:Nat} {x y:O} (hc:qM P o.op=some (.append n x y)):∃(t e:TypeId) (m:Nat) (z:List K) (i:TypeInfo) (x' y':Operand),n=m+1/\o.op=.call {callee:=.builtin .append,args:= #[x',y'],argTypes:= #[t,t]}/\
  P.underlying t=some (.slice e)/\dS P e=some (m+1)/\jH P e=some z/\P.info? e=some i/\i.bytes<=32768/\cO P x'=some x/\cO P y'=some y:=by
 unfold qM at hc
 split at hc
 case h_23=>
  rename_i c ho
  unfold nB at hc
  split at hc
  case h_2=>
   rename_i kn
   split at hc
   ·rename_i x' y' t u h1 h2
    split at hc
    ·rename_i e ht
     split at hc
     ·rename_i m z i e1 e2 e3
      split at hc
      ·rename_i hb
       simp only[Option.bind_eq_bind,Option.bind_eq_some_iff,Option.pure_def,Option.some.injEq]at hc
       obtain⟨x2,h3,y2,h4,he⟩:=hc
       injection he with k1 k2 k3
       subst k1;subst k2;subst k3
       obtain⟨Kv,rfl⟩:=hb
       refine⟨t,e,m,z,i,x',y',rfl,?_,ht,e1,e2,e3,Kv,h3,h4⟩
       rw[ho]
       obtain⟨ca,cb,cc⟩:=c
       simp only at h1 h2 kn
       subst kn
       congr
       ·exact Array.ext' h1
       ·exact Array.ext' h2
      ·simp at hc
     ·simp at hc
    ·simp at hc
   ·simp at hc
  all_goals (repeat' (split at hc))<;>(simp only[Option.bind_eq_bind,Option.bind_eq_some_iff,Option.pure_def,Option.some.injEq,Option.map_eq_some_iff,reduceCtorEq,and_false,exists_false]at hc)
 all_goals (try unfold uY at hc)<;>(try unfold so at hc)<;>(repeat' (split at hc))<;>(simp only[Option.bind_eq_bind,Option.bind_eq_some_iff,Option.pure_def,Option.some.injEq,Option.map_eq_some_iff,reduceCtorEq,and_false,exists_false]at hc)
theorem I9 {n:Nat} {x y:O} (hc:qM P o.op=some (.copy n x y)):∃(t t2 e:TypeId) (m:Nat) (x' y':Operand),n=m+1/\o.op=.call {callee:=.builtin .copy,args:= #[x',y'],argTypes:= #[t,t2]}/\
  P.underlying t=some (.slice e)/\dS P e=some (m+1)/\cO P x'=some x/\cO P y'=some y:=by
 unfold qM at hc
 split at hc
 case h_23=>
  rename_i c ho
  unfold nB at hc
  split at hc
  case h_7=>
   rename_i kn
   split at hc
   ·rename_i x' y' t t2 h1 h2
    split at hc
    ·rename_i e ht
     split at hc
     ·rename_i m e1
      simp only[Option.bind_eq_bind,Option.bind_eq_some_iff,Option.pure_def,Option.some.injEq,gu.copy.injEq]at hc
      obtain⟨x2,h3,y2,h4,k0,k1,k2⟩:=hc
      subst k1;subst k2
      refine⟨t,t2,e,m,x',y',k0.symm,?_,ht,e1,h3,h4⟩
      rw[ho]
      obtain⟨ca,cb,cc⟩:=c
      simp only at h1 h2 kn
      subst kn
      congr
      ·exact Array.ext' h1
      ·exact Array.ext' h2
     ·simp at hc
    ·simp at hc
   ·simp at hc
  all_goals (repeat' (split at hc))<;>(simp only[Option.bind_eq_bind,Option.bind_eq_some_iff,Option.pure_def,Option.some.injEq,Option.map_eq_some_iff,reduceCtorEq,and_false,exists_false]at hc)
 all_goals (try unfold uY at hc)<;>(try unfold so at hc)<;>(repeat' (split at hc))<;>(simp only[Option.bind_eq_bind,Option.bind_eq_some_iff,Option.pure_def,Option.some.injEq,Option.map_eq_some_iff,reduceCtorEq,and_false,exists_false]at hc)
theorem Gv {z:List K} {x:O} (hc:qM P o.op=some (.clear z x)):∃(t e:TypeId) (m:Nat) (x':Operand),o.op=.call {callee:=.builtin .clear,args:= #[x'],argTypes:= #[t]}/\
  P.underlying t=some (.slice e)/\dS P e=some (m+1)/\jH P e=some z/\cO P x'=some x:=by
 unfold qM at hc
 split at hc
 case h_23=>
  rename_i c ho
  unfold nB at hc
  split at hc
  case h_3=>
   rename_i kn
   split at hc
   ·rename_i x' t h1 h2
    split at hc
    ·rename_i e ht
     split at hc
     ·rename_i m z' e1 e2
      simp only[Option.map_eq_some_iff]at hc
      obtain⟨x2,h3,he⟩:=hc
      injection he with k1 k2
      subst k1;subst k2
      refine⟨t,e,m,x',?_,ht,e1,e2,h3⟩
      rw[ho]
      obtain⟨ca,cb,cc⟩:=c
      simp only at h1 h2 kn
      subst kn
      congr
      ·exact Array.ext' h1
      ·exact Array.ext' h2
     ·simp at hc
    ·simp at hc
   ·simp at hc
  all_goals (repeat' (split at hc))<;>(simp only[Option.bind_eq_bind,Option.bind_eq_some_iff,Option.pure_def,Option.some.injEq,Option.map_eq_some_iff,reduceCtorEq,and_false,exists_false]at hc)
 all_goals (try unfold uY at hc)<;>(try unfold so at hc)<;>(repeat' (split at hc))<;>(simp only[Option.bind_eq_bind,Option.bind_eq_some_iff,Option.pure_def,Option.some.injEq,Option.map_eq_some_iff,reduceCtorEq,and_false,exists_false]at hc)
theorem OE {q:MW} {xs:List O} (hc:qM P o.op=some (.mw q xs)):
  (∃t x k y m z x' k' y',(o.op=.mapUpdate t x k y∨o.op=.insert t x k y)/\sq P t=some (m,z)/\cO P x=some x'/\cO P k=some k'/\cO P y=some y'/\q=.set m/\xs=[x',k',y'])∨
  (∃t t' x k m z x' k',o.op=.call {callee:=.builtin .delete,args:= #[x,k],argTypes:= #[t,t']}/\sq P t=some (m,z)/\cO P x=some x'/\cO P k=some k'/\q=.del m/\xs=[x',k']):=by
 unfold qM at hc
 split at hc
 case h_23=>
  rename_i c ho
  right
  unfold nB at hc
  split at hc
  case h_6=>
   rename_i kn
   split at hc
   ·rename_i x k t t' h1 h2
    split at hc
    ·rename_i m z x' k' e1 e2 e3
     injection hc with hc
     injection hc with q1 q2
     refine⟨t,t',x,k,m,z,x',k',?_,e1,e2,e3,q1.symm,q2.symm⟩
     rw[ho]
     obtain⟨ca,cb,cc⟩:=c
     simp only at h1 h2 kn
     subst kn
     congr
     ·exact Array.ext' h1
     ·exact Array.ext' h2
    ·cases hc
   ·cases hc
  all_goals (repeat' (split at hc))<;>(simp only[Option.bind_eq_bind,Option.bind_eq_some_iff,Option.pure_def,Option.some.injEq,Option.map_eq_some_iff,reduceCtorEq,and_false,exists_false]at hc)
 case h_29=>
  rename_i t x k y ho
  left
  split at hc
  ·rename_i m z x' k' y' e1 e2 e3 e4
   injection hc with hc
   injection hc with q1 q2
   exact⟨t,x,k,y,m,z,x',k',y',.inl ho,e1,e2,e3,e4,q1.symm,q2.symm⟩
  ·cases hc
 case h_30=>
  rename_i t x k y ho
  left
  split at hc
  ·rename_i m z x' k' y' e1 e2 e3 e4
   injection hc with hc
   injection hc with q1 q2
   exact⟨t,x,k,y,m,z,x',k',y',.inr ho,e1,e2,e3,e4,q1.symm,q2.symm⟩
  ·cases hc
 all_goals (try unfold uY at hc)<;>(try unfold so at hc)<;>(repeat' (split at hc))<;>(simp only[Option.bind_eq_bind,Option.bind_eq_some_iff,Option.pure_def,Option.some.injEq,Option.map_eq_some_iff,reduceCtorEq,and_false,exists_false]at hc)
def jk (g:Rows) (id:Id):Option Row->Rows
 |some r=>bJ g id r
 |none=>g
def u9 (X:fE) (hid:List Nat) (site n:Nat) (f:Nat) (args:List AV) (g:Rows) (v:AV) (g':Rows):Prop:=
 (gz X f args ⟨gr hid n g,n+1⟩ (fun r=>r=v)/\g'=g)∨
 (hid.contains site=true/\∃sz rows,CM X f args ⟨gr hid n g,n+1⟩ sz rows/\v=.own ⟨site,n⟩ 0 rows.length/\g'=bJ g ⟨site,n⟩ ⟨true,sz,rows⟩)
def VS (X:fE) (n:Nat) (vo:aY) (env:Env) (g:Rows) (v:AV) (g':Rows):Prop:=
 match vo.op with
 | .call f args=>u9 X vo.hid vo.site n f (args.map (cK env)) g v g'
 | .tj x args=>∃f l,uZ (cK env x) (args.map (cK env))=some (f,l)/\u9 X vo.hid vo.site n f l g v g'
 | .store .. | .append .. | .copy .. | .clear .. | .mw .. =>gw vo.op (cK env) g ⟨vo.site,n⟩=some (v,g')
 |_=>∃mr,eV vo.op (cK env) (gr vo.hid n g) ⟨vo.site,n⟩=some (v,mr)/\g'=jk g ⟨vo.site,n⟩ mr
def Mu (P:Program) (hs:Nat) (D:Nat->Prop) (ι:Names) (w:World) (U:Nat->Prop) (site n:Nat) (a:Act) (dst:Option Tmp) (v:AV) (g':Rows) (a':Act) (w':World):Prop:=
 ∃u D' ι',a'=a.put dst u/\Step hs D ι w D' ι' w'/\gn P hs D' ι' g' w'/\cE P w' D' ι' v u/\Used ι' n (fun s=>U s∨s=site)
theorem fresh {n:Nat} {U:Nat->Prop} {s:Nat} (h:Used ι n U) (hU:¬U s):ι ⟨s,n⟩=none:=by
 cases hq:ι ⟨s,n⟩with
 |none=>rfl
 |some B=>
  rcases h ⟨s,n⟩ (by rw[hq];simp)with h|⟨_,h⟩
  ·exact absurd h (Nat.lt_irrefl _)
  ·exact absurd h hU
theorem Used.more {n:Nat} {U U':Nat->Prop} (h:Used ι n U) (hU:∀s,U s->U' s):Used ι n U':=fun id hid=>by
 rcases h id hid with h|⟨h1,h2⟩
 ·exact .inl h
 ·exact .inr ⟨h1,hU _ h2⟩
theorem Used.next {n:Nat} {U:Nat->Prop} (h:Used ι n U):Used ι (n+1) (fun _=>False):=fun id hid=>by
 rcases h id hid with h|⟨h1,_⟩
 ·exact .inl (Nat.lt_succ_of_lt h)
 ·exact .inl (by omega)
theorem Used.upd {n:Nat} {U:Nat->Prop} {s:Nat} {B:sa} (h:Used ι n U):Used (kC ι ⟨s,n⟩ B) n (fun x=>U x∨x=s):=fun id hid=>by
 by_cases he:id=⟨s,n⟩
 ·subst he;exact .inr ⟨rfl,.inr rfl⟩
 ·rw[gi he]at hid
  exact(h.more (U':=fun x=>U x∨x=s) fun _ h=>Or.inl h) id hid
theorem oj {xs:Array Operand} {ys:List O} (E:bQ P w D ι env a) (h:xs.toList.mapM (cO P)=some ys):fo P w D ι (ys.map (cK env)) (xs.map a.eval):=by
 obtain⟨h1,h2⟩:=Eg E h
 refine⟨by simpa using h1,fun j b hj=>?_⟩
 simp only[List.getElem?_map,Option.map_eq_some_iff]at hj
 obtain⟨y,hy,rfl⟩:=hj
 have dM:j<xs.size:=by have:=(List.getElem?_eq_some_iff.1 hy).1;simp at h1;omega
 refine⟨a.eval xs[j],by simp[dM],?_⟩
 have:=h2 j y hy
 simpa[List.getD_eq_getElem?_getD,dM]using this
theorem oO {xs ys:List AV} {vs us:Array Value} (h:fo P w D ι xs vs) (k:fo P w D ι ys us):fo P w D ι (xs++ys) (vs++us):=
 ⟨by simp[h.1,k.1],fun j b hj=>by
  by_cases dM:j<xs.length
  ·rw[List.getElem?_append_left dM]at hj
   obtain⟨u,hu,xD⟩:=h.2 j b hj
   exact⟨u,by rw[Array.getElem?_append_left (by rw[h.1];exact dM)];exact hu,xD⟩
  ·rw[List.getElem?_append_right (by omega)]at hj
   obtain⟨u,hu,xD⟩:=k.2 _ b hj
   exact⟨u,by rw[Array.getElem?_append_right (by rw[h.1];omega),h.1];exact hu,xD⟩⟩
theorem wC:fo P w D ι [] #[]:=⟨rfl,fun j b hj=>by simp at hj⟩
theorem vd {x:AV} {l l':List AV} {f:Nat} {vs:Array Value} {v:Value} (h:uZ x l=some (f,l')) (hr:cE P w D ι x v) (hA:fo P w D ι l vs):
  ∃first cH,v=.func (.func f) first cH/\fJ P f=true/\fo P w D ι l' (first++vs++cH):=by
 unfold uZ at h
 split at h
 ·simp only[Option.some.injEq,Prod.mk.injEq]at h
  obtain⟨rfl,rfl⟩:=h
  obtain⟨us,q,he,Ff,n1,q1,q2⟩:=Ae hr
  refine⟨#[],us,he,Ff,?_⟩
  rw[Array.empty_append]
  exact oO hA ⟨n1,fun j b hj=>⟨q j,q1 j (List.getElem?_eq_some_iff.1 hj).1,q2 j b hj⟩⟩
 ·simp only[Option.some.injEq,Prod.mk.injEq]at h
  obtain⟨rfl,rfl⟩:=h
  obtain⟨us,q,he,Ff,n1,q1,q2⟩:=L9 hr
  refine⟨us, #[],he,Ff,?_⟩
  rw[Array.append_empty]
  exact oO ⟨n1,fun j b hj=>⟨q j,q1 j (List.getElem?_eq_some_iff.1 hj).1,q2 j b hj⟩⟩ hA
 ·cases h
theorem AU {n:Nat} {vo:aY} {g':Rows} {U:Nat->Prop} {Q:Exit->Act->World->Prop} {K:Act->World->Prop} (hc:qM P o.op=some vo.op) (hv:VS (Sound P) n vo env g v g') (S:gn P hs D ι g w) (Us:Used ι n U) (hU:¬U vo.site) (E:bQ P w D ι env a)
  (hK:∀a' w',Mu P hs D ι w U vo.site n a o.dst v g' a' w'->K a' w'):o.wp P a w K Q:=by
 have hf:=fresh Us hU
 have A6:∀(f:Nat) (args:List AV) (vs:Array Value),u9 (Sound P) vo.hid vo.site n f args g v g'->fo P w D ι args vs->(execOp a.eval o).run P w=.ok (.enter f vs) w->o.wp P a w K Q:=by
  intro f args vs hP hA fZ
  unfold Oper.wp
  rw[fZ]
  rcases hP with⟨hP,rfl⟩|⟨_,sz,rows,hM,rfl,rfl⟩
  ·refine(FU hP Ay S Us.next hA).mono ?_
   rintro e w' ⟨r,D',u,rfl,rfl,T,S',hR⟩
   exact hK _ _ ⟨u,D',ι,rfl,T,S',hR,Us.more fun _ h=>.inl h⟩
  ·refine(HH hM Ay S Us.next hA hf).mono ?_
   rintro e w' ⟨u,B,rfl,T,S',hR⟩
   exact hK _ _ ⟨u,D,_,rfl,T,S',hR,Us.upd⟩
 have quiet:∀(mr:Option Row),eV vo.op (cK env) (gr vo.hid n g) ⟨vo.site,n⟩=some (v,mr)->g'=jk g ⟨vo.site,n⟩ mr->o.wp P a w K Q:=by
  intro mr hq hg
  have hqs:=yP hc hq (S.sub Ay) E
  unfold Oper.wp
  cases mr with
  |none=>
   obtain⟨u,fZ,hR⟩:=hqs
   rw[fZ]
   subst hg
   exact hK _ _ ⟨u,D,ι,rfl,Step.refl _ _ _ _,S,hR,Us.more fun _ h=>.inl h⟩
  |some r=>
   rcases hqs with⟨u,cells,T,fZ,h1,h2,h3,h4,h5,h6⟩|⟨m,fZ,OB,DJ⟩|⟨c,fZ,OB,DJ⟩
   case inr.inr=>
    rw[fZ]
    subst hg OB DJ
    have ft:w.heap.size<(w.alloc (.chan c #[] false 0 0 false)).heap.size:=by simp
    have S':=S.stay (w':=w.alloc (.chan c #[] false 0 0 false)) (D':=D) (ι':=ι) (fun k hk=>Below.heap_alloc _ _ _ hk) (by simp) (fun _ h=>h) (fun b hd=>Nat.lt_trans (S.dead b hd) ft) (fun _ h=>.inl h) (fun _ _ h=>h)
    have S1:=S.add S' (id:=⟨vo.site,n⟩) (B:=⟨w.heap.size,qj+c,0,some (.chan c)⟩) (r:=⟨true,qj+c,[]⟩) hf (Nat.le_refl _) ⟨rfl,fun cs h=>by simp at h,fun h=>by simp at h,fun m' h=>(by simp at h),fun c' h=>by
     simp only[Option.some.injEq,BK.chan.injEq]at h;subst h
     exact⟨rfl, #[],0,0,(show(w.heap.push (Obj.chan c #[] false 0 0 false))[w.heap.size]? =some (Obj.chan c #[] false 0 0 false) by simp),rfl,fun i cs h=>by simp at h⟩⟩
    exact hK _ _ ⟨_,D,_,rfl,Step.stay S (fun k hk=>Below.heap_alloc _ _ _ hk) (by simp) rfl rfl rfl (fun _ h=>h) (fun _ h=>.inl h) (fa hf),S1,.re _ _ _ (dR _ _ _) rfl,Us.upd⟩
   case inr.inl=>
    rw[fZ]
    subst hg OB DJ
    have ft:w.heap.size<(w.alloc (.map #[] 0)).heap.size:=by simp
    have S':=S.stay (w':=w.alloc (.map #[] 0)) (D':=D) (ι':=ι) (fun k hk=>Below.heap_alloc _ _ _ hk) (by simp) (fun _ h=>h) (fun b hd=>Nat.lt_trans (S.dead b hd) ft) (fun _ h=>.inl h) (fun _ _ h=>h)
    have S1:=S.add S' (id:=⟨vo.site,n⟩) (B:=⟨w.heap.size,m.nS,0,some (.map m)⟩) (r:=⟨true,m.nS,[]⟩) hf (Nat.le_refl _) ⟨rfl,fun cs h=>by simp at h,fun h=>by simp at h,fun m' h=>by
     simp only[Option.some.injEq,BK.map.injEq]at h;subst h
     exact⟨rfl, #[],0,(show(w.heap.push (Obj.map #[] 0))[w.heap.size]? =some (Obj.map #[] 0) by simp),rfl,⟨fun cs h=>by simp at h,fun x h=>by simp at h,by simp⟩,fun i cs h=>by simp at h⟩,fun c h=>by simp at h⟩
    exact hK _ _ ⟨_,D,_,rfl,Step.stay S (fun k hk=>Below.heap_alloc _ _ _ hk) (by simp) rfl rfl rfl (fun _ h=>h) (fun _ h=>.inl h) (fa hf),S1,.map _ _ _ (dR _ _ _) rfl,Us.upd⟩
   rw[fZ]
   subst hg
   have S1:=S.alloc (id:=⟨vo.site,n⟩) (w':=w.alloc (.cells cells T)) rfl hf h1 h2 h3 h4 h5
   refine hK _ _ ⟨u,D,_,rfl,Step.stay S (fun k hk=>Below.heap_alloc _ _ _ hk) (by simp) rfl rfl rfl (fun _ h=>h) (fun _ h=>.inl h) (fa hf),S1,(h6 (kC ι _ _) (dR _ _ _)).frame (fun b hd=>Below.heap_alloc _ _ _ (S.dead b hd)) (fun _ h=>h) (fun _ _ h=>h),Us.upd⟩
 have PE:gw vo.op (cK env) g ⟨vo.site,n⟩=some (v,g')->(∀KH,CZ P hs a o KH D ι ⟨vo.site,n⟩ v g'->KH=w->o.wp P a w K Q):=by
  intro _ KH hE he
  subst he
  obtain⟨u,w',ι',fZ,T,S',hR,hι⟩:=hE
  have Iz:Mu P hs D ι KH U vo.site n a o.dst v g' (a.put o.dst u) w':=⟨u,D,ι',rfl,T,S',hR,fun id hid=>by
   by_cases he:id=⟨vo.site,n⟩
   ·subst he;exact .inr ⟨rfl,.inr rfl⟩
   ·rw[hι id he]at hid
    exact(Us.more (U':=fun x=>U x∨x=vo.site) fun _ h=>Or.inl h) id hid⟩
  unfold Oper.wp
  rcases fZ with fZ|⟨fZ,rfl⟩
  ·rw[fZ];exact hK _ _ Iz
  ·rw[fZ];exact hK _ _ Iz
 unfold VS at hv
 split at hv
 ·rename_i f args dY
  rw[dY]at hc
  obtain⟨c,ho,kn,Ff,nF⟩:=BQ hc
  refine A6 f _ (c.args.map a.eval) hv (oj E nF) ?_
  simp only[execOp,ho,resolve,kn,Deferred.ofValue,Act.eval,Sem.run_bind,Sem.run_pure,Result.andThen_ok,invoke,Array.empty_append,Array.append_empty]
  exact jz Ff
 ·rename_i x args dY
  obtain⟨f,l,hx,hP⟩:=hv
  rw[dY]at hc
  obtain⟨c,t,ho,kn,rfl,nF⟩:=sN hc
  obtain⟨first,cH,he,Ff,hL⟩:=vd (v:=a.eval (.tmp t)) hx (E t) (oj E nF)
  refine A6 f _ (first++c.args.map a.eval++cH) hP hL ?_
  simp only[execOp,ho,resolve,kn,he,Deferred.ofValue,Sem.run_bind,Sem.run_pure,Result.andThen_ok,invoke]
  exact jz Ff
 ·rename_i m x y dY
  have kR:=hc
  rw[dY]at kR
  obtain⟨t,x',y',ho,h1,h2,h3⟩:=Gw kR
  have nQ:=hv
  rw[dY]at nQ
  simp only[gw,Option.map_eq_some_iff,Prod.mk.injEq]at nQ
  obtain⟨g1,AL,rfl,rfl⟩:=nQ
  exact PE hv w (KZ S E ho h1 h2 h3 AL) rfl
 ·rename_i m x y dY
  have kR:=hc
  rw[dY]at kR
  obtain⟨t,e,m',z,i,x',y',rfl,ho,h1,h2,h3,h4,h5,h6,h7⟩:=DR kR
  have nQ:=hv
  rw[dY]at nQ
  simp only[gw,Option.bind_eq_some_iff]at nQ
  obtain⟨ys,Fq,nQ⟩:=nQ
  exact PE hv w (Ij S E hf ho h1 h2 h3 h4 h5 h6 h7 Fq nQ) rfl
 ·rename_i m x y dY
  have kR:=hc
  rw[dY]at kR
  obtain⟨t,t2,e,m',x',y',rfl,ho,h1,h2,h3,h4⟩:=I9 kR
  have nQ:=hv
  rw[dY]at nQ
  simp only[gw,Option.bind_eq_some_iff]at nQ
  obtain⟨ys,Fq,nQ⟩:=nQ
  exact PE hv w (NF S E ho h1 h2 h3 h4 Fq nQ) rfl
 ·rename_i z x dY
  have kR:=hc
  rw[dY]at kR
  obtain⟨t,e,m',x',ho,h1,h2,h3,h4⟩:=Gv kR
  have nQ:=hv
  rw[dY]at nQ
  simp only[gw,Option.map_eq_some_iff,Prod.mk.injEq]at nQ
  obtain⟨g1,AL,rfl,rfl⟩:=nQ
  exact PE hv w (KY S E ho h1 h2 h3 h4 AL) rfl
 ·rename_i q xs dY
  have kR:=hc
  rw[dY]at kR
  have nQ:=hv
  rw[dY]at nQ
  simp only[gw,Option.map_eq_some_iff,Prod.mk.injEq]at nQ
  obtain⟨g1,AL,rfl,rfl⟩:=nQ
  rcases OE kR with⟨t,x,k,y,m,z,x',k',y',ho,h1,h2,h3,h4,rfl,rfl⟩|⟨t,t',x,k,m,z,x',k',ho,h1,h2,h3,rfl,rfl⟩
  ·exact PE hv w (NH S E ho h1 h2 h3 h4 AL) rfl
  ·exact PE hv w (NG S E ho h1 h2 h3 AL) rfl
 ·obtain⟨mr,hq,hg⟩:=hv
  exact quiet mr hq hg
end
end Go.Proofs.YtgoelphibofcmaaGreat.V

namespace Go.Proofs.YtgoelphibofcmaaGreat.V
open Go.RowKit
variable {P:Program} {w w':World} {D D' D2:Nat->Prop} {ι ι' ι2:Names}
section
variable {g:Rows} {hs:Nat} {env:Env} {a:Act} {o:Oper} {id:Id} {v:AV}
theorem o8 {ops:Array Oper} {nt site0 j:Nat} {draw mk:Bool} {bs:Array Nat} {hidden:List (Nat×Bool)} {vo:aY} (h:kN P ops nt site0 draw mk bs hidden j o=some vo):
  qM P o.op=some vo.op/\vo.dst=o.dst/\vo.site=site0+j/\(∀d,o.dst=some d->d<nt)/\(match o.guard with
   |none=>vo.guard=none
   |some (i,b)=>∃t,(ops[i]?).bind (·.dst)=some t/\vo.guard=some (t,b)):=by
 unfold kN at h
 simp only[Option.bind_eq_bind,Option.bind_eq_some_iff]at h
 obtain⟨v,hv,gd,hg,h⟩:=h
 split at h
 ·rename_i hd
  simp only[Option.pure_def,Option.some.injEq]at h
  subst h
  refine⟨hv,rfl,rfl,fun d Sp=>?_,?_⟩
  ·rw[Sp]at hd;simpa using hd
  ·unfold De at hg
   cases vL:o.guard with
   |none=>rw[vL]at hg;simp at hg;exact hg.symm
   |some p=>
    obtain⟨i,b⟩:=p
    rw[vL]at hg
    dsimp only at hg ⊢
    split at hg
    ·rename_i t ht
     simp at hg;exact⟨t,ht,hg.symm⟩
    ·simp at hg
 ·simp at h
theorem tb {ops:Array Oper} {vo:aY} (E:bQ P w D ι env a) (hg:match o.guard with
   |none=>vo.guard=none
   |some (i,b)=>∃t,(ops[i]?).bind (·.dst)=some t/\vo.guard=some (t,b)):aL vo.guard env=Region.wanted o (yielded ops a.tmps):=by
 unfold Region.wanted
 cases vL:o.guard with
 |none=>rw[vL]at hg;simp only at hg;rw[hg];rfl
 |some p=>
  obtain⟨i,b⟩:=p
  rw[vL]at hg
  obtain⟨t,ht,hv⟩:=hg
  rw[hv]
  simp only[aL,yielded,ht,Option.bind_some]
  have hr:=E t
  by_cases dM:t<a.tmps.size
  ·have fb:a.tmps[t]? =some a.tmps[t]:=Array.getElem?_eq_getElem dM
   have hd:a.tmps.getD t undef=a.tmps[t]:=by simp[dM]
   rw[hd]at hr
   rw[fb]
   generalize a.tmps[t]=u at hr
   cases he:env t with
   |bool c=>rw[he]at hr;rw[e9 hr];simp
   |_=>
    rw[he]at hr
    have:∀c,u≠.bool c:=by
     intro c hu
     subst hu
     cases hr with
     |eP _ _ h=>cases h
    cases u<;>simp_all
  ·have fb:a.tmps[t]? =none:=Array.getElem?_eq_none (Nat.le_of_not_lt dM)
   have hd:a.tmps.getD t undef=undef:=by simp[fb]
   rw[hd]at hr
   rw[fb]
   cases he:env t with
   |bool c=>rw[he]at hr;have:=e9 hr;simp[undef]at this
   |_=>simp
theorem iq {dst:Option Nat} {nt:Nat} {u:Value} (E:bQ P w D ι env a) (hr:cE P w D ι v u) (hd:∀d,dst=some d->d<nt) (hs:a.tmps.size=nt):bQ P w D ι (upd env dst v) (a.put dst u):=by
 intro t
 cases dst with
 |none=>exact E t
 |some d=>
  have dM:d<a.tmps.size:=by rw[hs];exact hd d rfl
  simp only[upd,Act.put]
  by_cases ht:t=d
  ·subst ht
   simp[dM];exact hr
  ·rw[if_neg ht]
   have:(a.tmps.setIfInBounds d u).getD t undef=a.tmps.getD t undef:=by
    simp only[Array.getD_eq_getD_getElem?]
    rw[Array.getElem?_setIfInBounds_ne (fun e=>ht e.symm)]
   rw[this];exact E t
theorem ow {hs:Nat} (E:bQ P w D ι env a) (T:Step hs D ι w D' ι' w'):bQ P w' D' ι' env a:=fun t=>T.rep (E t)
theorem eX (a:Act) (dst:Option Tmp) (u:Value):(a.put dst u).tmps.size=a.tmps.size:=by cases dst<;>simp[Act.put]
theorem put_defers (a:Act) (dst:Option Tmp) (u:Value):(a.put dst u).defers=a.defers:=by cases dst<;>rfl
theorem yY {draw:Bool} {vo:aY} {σ:au} {next:AV->au->Prop} {U:Nat->Prop} {Q:Exit->Act->World->Prop} {K:Act->World->Prop} (hc:qM P o.op=some vo.op) (hv:fU (Sound P) draw vo env σ next) (S:gn P hs D ι σ.get w) (Us:Used ι σ.next U) (hU:¬U vo.site) (E:bQ P w D ι env a)
  (hK:∀v σ' u D' ι' w',next v σ'->Step hs D ι w D' ι' w'->gn P hs D' ι' σ'.get w'->cE P w' D' ι' v u->Used ι' σ'.next (fun s=>U s∨s=vo.site)->σ.next<=σ'.next->K (a.put o.dst u) w'):o.wp P a w K Q:=by
 have close:∀v g',VS (Sound P) σ.next vo env σ.get v g'->next v ⟨g',σ.next⟩->o.wp P a w K Q:=fun v g' h1 h2=>
  AU hc h1 S Us hU E fun a' w' ⟨u,D',ι',ha,T,S',hR,U'⟩=>by subst ha;exact hK v ⟨g',σ.next⟩ u D' ι' w' h2 T S' hR U' (Nat.le_refl _)
 have Jv:∀(f:Nat) (args:List AV) (vs:Array Value),Sound P f args ⟨σ.get,σ.next+1⟩ next->fo P w D ι args vs->(execOp a.eval o).run P w=.ok (.enter f vs) w->o.wp P a w K Q:=by
  intro f args vs h hA fZ
  unfold Oper.wp
  rw[fZ]
  refine(h hs D ι w vs S Us.next hA).mono ?_
  rintro e w' ⟨r,g',n',D',ι',u,rfl,hn,T,S',U',hle,hR⟩
  exact hK r ⟨g',n'⟩ u D' ι' w' hn T S' hR (U'.more fun _ h=>h.elim) (Nat.le_trans (Nat.le_succ _) hle)
 unfold fU at hv
 split at hv
 ·rename_i f args dY
  rcases hv with⟨r,hP,hn⟩|⟨_,hX⟩|⟨Fm,sz,rows,hM,hn⟩
  ·exact close r σ.get (by unfold VS;rw[dY];exact .inl ⟨hP,rfl⟩) hn
  rotate_left
  ·exact close _ _ (by unfold VS;rw[dY];exact .inr ⟨Fm,sz,rows,hM,rfl,rfl⟩) hn
  ·have kR:=hc
   rw[dY]at kR
   obtain⟨c,ho,kn,Ff,nF⟩:=BQ kR
   refine Jv f _ (c.args.map a.eval) hX (oj E nF) ?_
   simp only[execOp,ho,resolve,kn,Deferred.ofValue,Act.eval,Sem.run_bind,Sem.run_pure,Result.andThen_ok,invoke,Array.empty_append,Array.append_empty]
   exact jz Ff
 ·rename_i x args dY
  split at hv
  ·rename_i f cH hx
   have tC:uZ (cK env x) (args.map (cK env))=some (f,args.map (cK env)++cH):=by rw[hx];rfl
   rcases hv with⟨r,hP,hn⟩|⟨_,hX⟩|⟨Fm,sz,rows,hM,hn⟩
   ·exact close r σ.get (by unfold VS;rw[dY];exact⟨f,_,tC,.inl ⟨hP,rfl⟩⟩) hn
   rotate_left
   ·exact close _ _ (by unfold VS;rw[dY];exact⟨f,_,tC,.inr ⟨Fm,sz,rows,hM,rfl,rfl⟩⟩) hn
   ·have kR:=hc
    rw[dY]at kR
    obtain⟨c,t,ho,kn,rfl,nF⟩:=sN kR
    obtain⟨first,us,he,Ff,hL⟩:=vd (v:=a.eval (.tmp t)) tC (E t) (oj E nF)
    refine Jv f _ (first++c.args.map a.eval++us) hX hL ?_
    simp only[execOp,ho,resolve,kn,he,Deferred.ofValue,Sem.run_bind,Sem.run_pure,Result.andThen_ok,invoke]
    exact jz Ff
  ·rename_i f cH hx
   have tC:uZ (cK env x) (args.map (cK env))=some (f,cH++args.map (cK env)):=by rw[hx];rfl
   rcases hv with⟨r,hP,hn⟩|⟨_,hX⟩|⟨Fm,sz,rows,hM,hn⟩
   ·exact close r σ.get (by unfold VS;rw[dY];exact⟨f,_,tC,.inl ⟨hP,rfl⟩⟩) hn
   rotate_left
   ·exact close _ _ (by unfold VS;rw[dY];exact⟨f,_,tC,.inr ⟨Fm,sz,rows,hM,rfl,rfl⟩⟩) hn
   ·have kR:=hc
    rw[dY]at kR
    obtain⟨c,t,ho,kn,rfl,nF⟩:=sN kR
    obtain⟨first,us,he,Ff,hL⟩:=vd (v:=a.eval (.tmp t)) tC (E t) (oj E nF)
    refine Jv f _ (first++c.args.map a.eval++us) hX hL ?_
    simp only[execOp,ho,resolve,kn,he,Deferred.ofValue,Sem.run_bind,Sem.run_pure,Result.andThen_ok,invoke]
    exact jz Ff
  ·exact hv.elim
 ·rename_i m x y dY
  split at hv
  ·rename_i v' g' he
   exact close v' g' (by unfold VS;rw[dY];rw[dY]at he;exact he) hv
  ·exact hv.elim
 ·rename_i m x y dY
  split at hv
  ·rename_i v' g' he
   exact close v' g' (by unfold VS;rw[dY];rw[dY]at he;exact he) hv
  ·exact hv.elim
 ·rename_i m x y dY
  split at hv
  ·rename_i v' g' he
   exact close v' g' (by unfold VS;rw[dY];rw[dY]at he;exact he) hv
  ·exact hv.elim
 ·rename_i m x dY
  split at hv
  ·rename_i v' g' he
   exact close v' g' (by unfold VS;rw[dY];rw[dY]at he;exact he) hv
  ·exact hv.elim
 ·rename_i m x dY
  split at hv
  ·rename_i v' g' he
   exact close v' g' (by unfold VS;rw[dY];rw[dY]at he;exact he) hv
  ·exact hv.elim
 ·rename_i n1 n2 n3 n4 n5 n6 n7
  split at hv
  ·rename_i v' r hq
   refine close v' (bJ σ.get ⟨vo.site,σ.next⟩ r) ?_ hv
   unfold VS
   split
   ·rename_i h;exact(n1 _ _ h).elim
   ·rename_i h;exact(n2 _ _ h).elim
   ·rename_i h;exact(n3 _ _ _ h).elim
   ·rename_i h;exact(n4 _ _ _ h).elim
   ·rename_i h;exact(n5 _ _ _ h).elim
   ·rename_i h;exact(n6 _ _ h).elim
   ·rename_i h;exact(n7 _ _ h).elim
   ·exact⟨some r,hq,rfl⟩
  ·rename_i v' hq
   refine close v' σ.get ?_ hv
   unfold VS
   split
   ·rename_i h;exact(n1 _ _ h).elim
   ·rename_i h;exact(n2 _ _ h).elim
   ·rename_i h;exact(n3 _ _ _ h).elim
   ·rename_i h;exact(n4 _ _ _ h).elim
   ·rename_i h;exact(n5 _ _ _ h).elim
   ·rename_i h;exact(n6 _ _ h).elim
   ·rename_i h;exact(n7 _ _ h).elim
   ·exact⟨none,hq,rfl⟩
  ·exact hv.elim
structure St (P:Program) (hs nt:Nat) (D:Nat->Prop) (ι:Names) (env:Env) (σ:au) (a:Act) (w:World):Prop where
 sY:gn P hs D ι σ.get w
 used:Used ι σ.next (fun _=>False)
 env:bQ P w D ι env a
 size:a.tmps.size=nt
theorem wj (rest:List Oper) {ops:Array Oper} {nt site0:Nat} {draw mk:Bool} {bs:Array Nat} {hidden:List (Nat×Bool)} {K:Env->au->Prop} {Q:Exit->Act->World->Prop}:∀(l:List Oper) (vl:List aY) (j:Nat) (env:Env) (σ:au) (a:Act) (w:World) (D:Nat->Prop) (ι:Names) (U:Nat->Prop),
  allM (kN P ops nt site0 draw mk bs hidden) l j=some vl->wpOps (Sound P) draw vl K env σ->gn P hs D ι σ.get w->Used ι σ.next U->(∀s,U s->s<site0+j)->bQ P w D ι env a->a.tmps.size=nt->
  (∀iG σ' a' w' D' ι',K iG σ'->Step hs D ι w D' ι' w'->St P hs nt D' ι' iG σ' a' w'->a'.defers=a.defers->σ.next<=σ'.next->wpList P ops Q rest a' w')->wpList P ops Q (l++rest) a w:=by
 intro l
 induction l with
 |nil=>
  intro vl j env σ a w D ι U h hv S Us _ E ft hQ
  simp[allM]at h;subst h
  exact hQ env ⟨σ.get,σ.next+1⟩ a w D ι hv (Step.refl _ _ _ _) ⟨S,Us.next,E,ft⟩ rfl (Nat.le_succ _)
 |cons o l ih=>
  intro vl j env σ a w D ι U h hv S Us hU E ft hQ
  simp only[allM,Option.bind_eq_bind,Option.bind_eq_some_iff,Option.pure_def,Option.some.injEq]at h
  obtain⟨vo,kG,ta,sg,rfl⟩:=h
  obtain⟨hc,hd,BI,xx,hg⟩:=o8 kG
  have hw:=tb (ops:=ops) (vo:=vo) E hg
  unfold wpOps at hv
  show wpList P ops Q (o::(l++rest)) a w
  unfold wpList
  rw[<-hw]
  split at hv
  ·rename_i Gq
   rw[if_pos Gq]
   refine .inl (yY hc hv S Us (fun h=>by have:=hU _ h;omega) E fun v σ' u D' ι' w' hn T S' hR U' hle=>?_)
   refine ih ta (j+1) (upd env vo.dst v) σ' (a.put o.dst u) w' D' ι' _ sg hn S' U' (fun s BF=>by
    rcases BF with h|h
    ·have:=hU _ h;omega
    ·omega) (by rw[hd];exact iq (ow E T) hR xx ft) (by rw[eX];exact ft) fun iG σ2 a' w2 D2 ι2 hk T2 Nn Dx mU=>hQ iG σ2 a' w2 D2 ι2 hk (T.trans T2) Nn (Dx.trans (put_defers _ _ _)) (Nat.le_trans hle mU)
  ·rename_i Gq
   rw[if_neg Gq]
   refine ih ta (j+1) (upd env vo.dst .undef) σ (a.put o.dst undef) w D ι U sg hv S Us (fun s BF=>by have:=hU _ BF;omega) (by rw[hd];exact iq E cE.undef xx ft) (by rw[eX];exact ft) fun iG σ2 a' w2 D2 ι2 hk T2 Nn Dx mU=>hQ iG σ2 a' w2 D2 ι2 hk T2 Nn (Dx.trans (put_defers _ _ _)) mU
theorem yM {ops:Array Oper} {nt site0:Nat} {draw mk:Bool} {bs:Array Nat} {hidden:List (Nat×Bool)} {K:Env->au->Prop} {Q:Exit->Act->World->Prop}:∀(l:List Oper) (vl:List aY) (j:Nat) (env:Env) (σ:au) (a:Act) (w:World) (D:Nat->Prop) (ι:Names) (U:Nat->Prop),
  allM (kN P ops nt site0 draw mk bs hidden) l j=some vl->wpOps (Sound P) draw vl K env σ->gn P hs D ι σ.get w->Used ι σ.next U->(∀s,U s->s<site0+j)->bQ P w D ι env a->a.tmps.size=nt->
  (∀iG σ' a' w' D' ι',K iG σ'->Step hs D ι w D' ι' w'->St P hs nt D' ι' iG σ' a' w'->a'.defers=a.defers->σ.next<=σ'.next->Q .normal a' w')->wpList P ops Q l a w:=fun l vl j env σ a w D ι U h hv S Us hU E ft hQ=>by
 have:=wj [] l vl j env σ a w D ι U h hv S Us hU E ft hQ
 rwa [List.append_nil]at this
end
end Go.Proofs.YtgoelphibofcmaaGreat.V

namespace Go.Proofs.YtgoelphibofcmaaGreat.V
open Go.RowKit
variable {P:Program} {w w':World} {D D' D2:Nat->Prop} {ι ι' ι2:Names}
section
variable {hs:Nat} {X:fE}
theorem bc {env iR:Env} {x:O} (h:∀t∈gO x,env t=iR t):cK env x=cK iR x:=by
 cases x with
 |t n=>exact h n (by simp[gO])
 |_=>rfl
theorem map_congr {env iR:Env} {l:List O} (h:∀t∈l.flatMap gO,env t=iR t):l.map (cK env)=l.map (cK iR):=
 List.map_congr_left fun x hx=>bc fun t ht=>h t (List.mem_flatMap.2 ⟨x,hx,ht⟩)
theorem pf {env iR:Env} {x:Option O} (h:∀t∈wm x,env t=iR t):x.map (cK env)=x.map (cK iR):=by
 cases x with
 |none=>rfl
 |some y=>simp only[Option.map_some];rw[bc h]
theorem sV {env iR:Env} {o:gu} {g:Rows} {id:Id} (h:∀t∈o.gF,env t=iR t):eV o (cK env) g id=eV o (cK iR) g id:=by
 cases o<;>simp only[gu.gF,List.mem_append]at h<;>simp only[eV]
 case cR x=>rw[bc h]
 case pick c a b=>rw[bc (x:=c) fun t ht=>h t (.inl (.inl ht)),bc (x:=a) fun t ht=>h t (.inl (.inr ht)),bc (x:=b) fun t ht=>h t (.inr ht)]
 case box x=>rw[bc h]
 case build z ps=>
  have:(ps.map fun(x:Nat×Nat×O)=>(x.1,x.2.1,cK env x.2.2))=ps.map fun(x:Nat×Nat×O)=>(x.1,x.2.1,cK iR x.2.2):=List.map_congr_left fun x hx=>by
   rw[bc (x:=x.2.2) fun t ht=>h t (List.mem_flatMap.2 ⟨x,hx,ht⟩)]
  rw[this]
 case kM a b l=>rw[map_congr h]
 case load a n x=>rw[bc h]
 case AI x=>rw[bc h]
 case bin a b x y=>rw[bc (x:=x) fun t ht=>h t (.inl ht),bc (x:=y) fun t ht=>h t (.inr ht)]
 case sh a x y=>rw[bc (x:=x) fun t ht=>h t (.inl ht),bc (x:=y) fun t ht=>h t (.inr ht)]
 case KU a x y=>rw[bc (x:=x) fun t ht=>h t (.inl ht),bc (x:=y) fun t ht=>h t (.inr ht)]
 case NI a b x y=>rw[bc (x:=x) fun t ht=>h t (.inl ht),bc (x:=y) fun t ht=>h t (.inr ht)]
 case R4 a b x y=>rw[bc (x:=x) fun t ht=>h t (.inl ht),bc (x:=y) fun t ht=>h t (.inr ht)]
 case Qq a b x=>rw[bc h]
 case R5 a x=>rw[bc h]
 case not x=>rw[bc h]
 case neg x=>rw[bc h]
 case conv k x=>rw[bc h]
 case EY x=>rw[bc h]
 case slice s x lo hi=>rw[bc (x:=x) fun t ht=>h t (.inl (.inl ht)),pf (x:=lo) fun t ht=>h t (.inl (.inr ht)),pf (x:=hi) fun t ht=>h t (.inr ht)]
 case Ao x lo hi=>rw[bc (x:=x) fun t ht=>h t (.inl (.inl ht)),pf (x:=lo) fun t ht=>h t (.inl (.inr ht)),pf (x:=hi) fun t ht=>h t (.inr ht)]
 case fR k x=>rw[bc h]
 case field a b c x=>rw[bc h]
 case dF s x y=>rw[bc (x:=x) fun t ht=>h t (.inl ht),bc (x:=y) fun t ht=>h t (.inr ht)]
 case LB n s x y=>rw[bc (x:=x) fun t ht=>h t (.inl ht),bc (x:=y) fun t ht=>h t (.inr ht)]
 case LD x y=>rw[bc (x:=x) fun t ht=>h t (.inl ht),bc (x:=y) fun t ht=>h t (.inr ht)]
 case eL a b c x y=>rw[bc (x:=x) fun t ht=>h t (.inl ht),bc (x:=y) fun t ht=>h t (.inr ht)]
 case extract i x=>rw[bc h]
 case len x=>rw[bc h]
 case LK x=>rw[bc h]
 case Jp x=>rw[bc h]
 case Ji x=>rw[bc h]
 case LP f l=>rw[map_congr h]
 case LQ f l=>rw[map_congr h]
 case mq f l=>rw[map_congr h]
 case jV z x y=>rw[bc (x:=x) fun t ht=>h t (.inl ht),bc (x:=y) fun t ht=>h t (.inr ht)]
theorem gT {env iR:Env} {o:gu} {g:Rows} {id:Id} (h:∀t∈o.gF,env t=iR t):gw o (cK env) g id=gw o (cK iR) g id:=by
 cases o<;>simp only[gu.gF,List.mem_append]at h<;>simp only[gw]
 case clear z x=>rw[bc h]
 case mw f l=>rw[map_congr h]
 all_goals rename_i a x y
 all_goals rw[bc (x:=x) fun t ht=>h t (.inl ht),bc (x:=y) fun t ht=>h t (.inr ht)]
theorem HU {n:Nat} {vo:aY} {env iR:Env} {g g':Rows} {v:AV} (h:∀t∈vo.op.gF,env t=iR t) (hv:VS X n vo env g v g'):VS X n vo iR g v g':=by
 unfold VS at hv ⊢
 split at hv
 ·rename_i f args dY
  rw[dY]at h
  simp only[gu.gF]at h
  rw[<-map_congr h];exact hv
 ·rename_i x args dY
  rw[dY]at h
  simp only[gu.gF,List.mem_append]at h
  rw[<-map_congr (l:=args) fun t ht=>h t (.inr ht),<-bc (x:=x) fun t ht=>h t (.inl ht)];exact hv
 ·rw[<-gT h];exact hv
 ·rw[<-gT h];exact hv
 ·rw[<-gT h];exact hv
 ·rw[<-gT h];exact hv
 ·rw[<-gT h];exact hv
 ·rw[<-sV h];exact hv
theorem D7 {q:MQ} {vs:List AV} {g:Rows} {id:Id} {v:AV} {r:Row} (h:bG q vs g id=some (v,some r)):∃m,q=.new m:=by
 unfold bG at h
 split at h
 ·exact⟨_,rfl⟩
 ·simp[Option.bind_eq_some_iff]at h
 ·simp at h
 ·cases h
theorem wu {o:gu} {ρ:O->AV} {g:Rows} {id:Id} {v:AV} {r:Row} (h:eV o ρ g id=some (v,some r)):qC o=true:=by
 cases o<;>simp only[eV]at h<;>(try rfl)<;>(try simp at h)
 case mq q xs=>obtain⟨m,rfl⟩:=D7 h;rfl
 all_goals (try(split at h<;>simp at h))
theorem wz {o:gu} {ρ:O->AV} {g g2:Rows} {id id2:Id} (h:o.cls=.pure):eV o ρ g id=eV o ρ g2 id2:=by
 cases o<;>(try simp[gu.cls]at h)<;>(try simp only[eV])
 case mq q xs=>cases q<;>simp[gu.cls]at h
theorem uQ {n:Nat} {vo:aY} {env:Env} {g g':Rows} {v:AV} (hw:vo.op.cls≠.write) (hv:VS X n vo env g v g'):∃mr,g'=jk g ⟨vo.site,n⟩ mr/\(mr≠none->vo.makes=true)/\∀g0,gr vo.hid n g0=gr vo.hid n g->VS X n vo env g0 v (jk g0 ⟨vo.site,n⟩ mr):=by
 unfold VS at hv
 split at hv
 ·rename_i f args dY
  rcases hv with⟨h1,rfl⟩|⟨hs,sz,rows,hM,rfl,rfl⟩
  ·refine⟨none,rfl,fun h=>(h rfl).elim,fun g0 h0=>?_⟩
   unfold VS;rw[dY];simp only;unfold u9;rw[h0];exact .inl ⟨h1,rfl⟩
  ·refine⟨some _,rfl,fun _=>by unfold aY.makes;rw[dY,hs];simp[gu.lO],fun g0 h0=>?_⟩
   unfold VS;rw[dY];simp only;unfold u9;rw[h0];exact .inr ⟨hs,sz,rows,hM,rfl,rfl⟩
 ·rename_i x args dY
  obtain⟨f,cH,hx,hv⟩:=hv
  rcases hv with⟨h1,rfl⟩|⟨hs,sz,rows,hM,rfl,rfl⟩
  ·refine⟨none,rfl,fun h=>(h rfl).elim,fun g0 h0=>?_⟩
   unfold VS;rw[dY];simp only;unfold u9;rw[h0];exact⟨f,cH,hx,.inl ⟨h1,rfl⟩⟩
  ·refine⟨some _,rfl,fun _=>by unfold aY.makes;rw[dY,hs];simp[gu.lO],fun g0 h0=>?_⟩
   unfold VS;rw[dY];simp only;unfold u9;rw[h0];exact⟨f,cH,hx,.inr ⟨hs,sz,rows,hM,rfl,rfl⟩⟩
 ·rename_i dY;rw[dY]at hw;exact(hw rfl).elim
 ·rename_i dY;rw[dY]at hw;exact(hw rfl).elim
 ·rename_i dY;rw[dY]at hw;exact(hw rfl).elim
 ·rename_i dY;rw[dY]at hw;exact(hw rfl).elim
 ·rename_i dY;rw[dY]at hw;exact(hw rfl).elim
 ·rename_i n1 n2 n3 n4 n5 n6 n7
  obtain⟨mr,hq,rfl⟩:=hv
  refine⟨mr,rfl,fun h=>?_,fun g0 h0=>?_⟩
  ·cases mr with
   |none=>exact(h rfl).elim
   |some r=>unfold aY.makes;rw[wu hq];rfl
  ·unfold VS
   split
   ·rename_i hh;exact(n1 _ _ hh).elim
   ·rename_i hh;exact(n2 _ _ hh).elim
   ·rename_i hh;exact(n3 _ _ _ hh).elim
   ·rename_i hh;exact(n4 _ _ _ hh).elim
   ·rename_i hh;exact(n5 _ _ _ hh).elim
   ·rename_i hh;exact(n6 _ _ hh).elim
   ·rename_i hh;exact(n7 _ _ hh).elim
   ·rw[h0];exact⟨mr,hq,rfl⟩
theorem y8 {n:Nat} {vo:aY} {env:Env} {g g':Rows} {v:AV} (hp:vo.op.cls=.pure) (hv:VS X n vo env g v g'):g'=g/\∀g0,VS X n vo env g0 v g0:=by
 unfold VS at hv
 split at hv
 ·rename_i dY;rw[dY]at hp;simp[gu.cls]at hp
 ·rename_i dY;rw[dY]at hp;simp[gu.cls]at hp
 ·rename_i dY;rw[dY]at hp;simp[gu.cls]at hp
 ·rename_i dY;rw[dY]at hp;simp[gu.cls]at hp
 ·rename_i dY;rw[dY]at hp;simp[gu.cls]at hp
 ·rename_i dY;rw[dY]at hp;simp[gu.cls]at hp
 ·rename_i dY;rw[dY]at hp;simp[gu.cls]at hp
 ·rename_i n1 n2 n3 n4 n5 n6 n7
  obtain⟨mr,hq,rfl⟩:=hv
  have Ug:mr=none:=by
   cases mr with
   |none=>rfl
   |some r=>have:=wu hq;simp[qC,hp]at this
  subst Ug
  refine⟨rfl,fun g0=>?_⟩
  unfold VS
  split
  ·rename_i hh;exact(n1 _ _ hh).elim
  ·rename_i hh;exact(n2 _ _ hh).elim
  ·rename_i hh;exact(n3 _ _ _ hh).elim
  ·rename_i hh;exact(n4 _ _ _ hh).elim
  ·rename_i hh;exact(n5 _ _ _ hh).elim
  ·rename_i hh;exact(n6 _ _ hh).elim
  ·rename_i hh;exact(n7 _ _ hh).elim
  ·exact⟨none,by rw[wz hp];exact hq,rfl⟩
def GS (X:fE) (n:Nat) (vo:aY) (env:Env) (g:Rows) (v:AV) (g':Rows):Prop:=
 if aL vo.guard env then VS X n vo env g v g' else v=.undef/\g'=g
theorem CE {hid:List Nat} {g:Rows} {s n:Nat} {mr:Option Row} (h:mr≠none->hid.contains s=true):gr hid n (jk g ⟨s,n⟩ mr)=gr hid n g:=by
 cases mr with
 |none=>rfl
 |some r=>
  have hc:=h (by simp)
  cases hid with
  |nil=>simp at hc
  |cons a l=>
   funext i
   show(if (a::l).contains i.site=true/\i.bq=n then none else jk g ⟨s,n⟩ (some r) i)=if (a::l).contains i.site=true/\i.bq=n then none else g i
   by_cases hi:i=⟨s,n⟩
   ·subst hi;rw[if_pos ⟨hc,rfl⟩,if_pos ⟨hc,rfl⟩]
   ·simp only[jk,bJ,if_neg hi]
theorem FW {g:Rows} {i j:Id} (h:i≠j) (m1 m2:Option Row):jk (jk g i m1) j m2=jk (jk g j m2) i m1:=by
 cases m1<;>cases m2<;>simp only[jk]
 funext k
 simp only[bJ]
 by_cases h1:k=i
 ·subst h1;rw[if_neg h,if_pos rfl];simp
 ·by_cases h2:k=j
  ·subst h2;simp[h1]
  ·simp[h1,h2]
theorem wY {env:Env} {d e:Option Nat} {v u:AV} (h:∀k,d=some k->e≠some k):upd (upd env d v) e u=upd (upd env e u) d v:=by
 cases d with
 |none=>rfl
 |some d=>
  cases e with
  |none=>rfl
  |some e=>
   have gU:d≠e:=fun he=>h d rfl (by rw[he])
   funext t
   simp only[upd]
   by_cases h1:t=d
   ·subst h1;rw[if_neg gU,if_pos rfl,if_pos rfl]
   ·by_cases h2:t=e
    ·subst h2;rw[if_pos rfl,if_neg h1,if_pos rfl]
    ·simp[h1,h2]
theorem mC {env:Env} {d:Option Nat} {v:AV} {l:List Nat} (h:∀k,d=some k->k∉l):∀t∈l,upd env d v t=env t:=by
 intro t ht
 cases d with
 |none=>rfl
 |some d=>
  have:t≠d:=fun he=>h d rfl (he▸ht)
  simp[upd,this]
structure C0 (x y:aY):Prop where
 xy:∀k,x.dst=some k->k∉y.gF
 yx:∀k,y.dst=some k->k∉x.gF
 dst:∀k,x.dst=some k->y.dst≠some k
 cls:clash x.op.cls y.op.cls=false
 hx:x.makes=true->y.hid.contains x.site=true
 hy:y.makes=true->x.hid.contains y.site=true
 site:x.site≠y.site
theorem C0.symm {x y:aY} (h:C0 x y):C0 y x:=
 ⟨h.yx,h.xy,fun k hk he=>h.dst k he hk,by have:=h.cls;revert this;cases x.op.cls<;>cases y.op.cls<;>simp[clash],h.hy,h.hx,fun e=>h.site e.symm⟩
theorem ql {x y:aY} (h:Fa x y=true):C0 x y:=by
 unfold Fa at h
 simp only[Bool.and_eq_true,Bool.not_eq_true',Bool.or_eq_true,bne_iff_ne]at h
 obtain⟨⟨⟨⟨h1,h2⟩,h3⟩,h4⟩,h5⟩:=h
 unfold s9 at h1
 simp only[Bool.and_eq_true]at h1
 obtain⟨a1,a2⟩:=h1
 refine⟨fun k hk=>?_,fun k hk=>?_,fun k hk=>?_,h2,fun hm=>?_,fun hm=>?_,h5⟩
 ·rw[hk]at a1;simp at a1;exact a1.1
 ·rw[hk]at a2;simpa using a2
 ·rw[hk]at a1;simp at a1;exact a1.2
 ·rcases h3 with h3|h3
  ·rw[hm]at h3;cases h3
  ·exact h3
 ·rcases h4 with h4|h4
  ·rw[hm]at h4;cases h4
  ·exact h4
theorem rV {vo:aY} {t:Nat} (h:t∈vo.op.gF):t∈vo.gF:=List.mem_append_left _ h
theorem nu {vo:aY} {env iR:Env} (h:∀t∈vo.gF,env t=iR t):aL vo.guard env=aL vo.guard iR:=by
 unfold aL
 cases hg:vo.guard with
 |none=>rfl
 |some p=>
  obtain⟨t,b⟩:=p
  have:env t=iR t:=h t (List.mem_append_right _ (by rw[hg];simp))
  simp only[this]
theorem uM {n:Nat} {vo:aY} {env iR:Env} {g g':Rows} {v:AV} (h:∀t∈vo.gF,env t=iR t) (hv:GS X n vo env g v g'):GS X n vo iR g v g':=by
 unfold GS at hv ⊢
 rw[<-nu h]
 split at hv
 ·rename_i hw;rw[if_pos hw];exact HU (fun t ht=>h t (rV ht)) hv
 ·rename_i hw;rw[if_neg hw];exact hv
theorem EM {n:Nat} {x y:aY} {env:Env} {g g1 g2:Rows} {v v':AV} (F:C0 x y) (h1:GS X n x env g v g1) (h2:GS X n y (upd env x.dst v) g1 v' g2):
  ∃K5,GS X n y env g v' K5/\GS X n x (upd env y.dst v') K5 v g2/\upd (upd env x.dst v) y.dst v'=upd (upd env y.dst v') x.dst v:=by
 have M0:=wY (env:=env) (v:=v) (u:=v') F.dst
 replace h2:GS X n y env g1 v' g2:=uM (mC F.xy) h2
 have back:∀{K5},GS X n x env K5 v g2->GS X n x (upd env y.dst v') K5 v g2:=fun h=>uM (fun t ht=>(mC F.yx t ht).symm) h
 unfold GS at h1 h2
 by_cases wx:aL x.guard env=true
 ·rw[if_pos wx]at h1
  by_cases wy:aL y.guard env=true
  ·rw[if_pos wy]at h2
   by_cases cx:x.op.cls=.write
   ·have cy:y.op.cls=.pure:=by
     have:=F.cls;rw[cx]at this
     cases hc:y.op.cls<;>simp[clash,hc]at this ⊢
    obtain⟨rfl,dJ⟩:=y8 cy h2
    exact⟨g,by unfold GS;rw[if_pos wy];exact dJ g,back (by unfold GS;rw[if_pos wx];exact h1),M0⟩
   ·by_cases cy:y.op.cls=.write
    ·have cx':x.op.cls=.pure:=by
      have:=F.cls;rw[cy]at this
      cases hc:x.op.cls<;>simp[clash,hc]at this ⊢
     obtain⟨rfl,dJ⟩:=y8 cx' h1
     exact⟨g2,by unfold GS;rw[if_pos wy];exact h2,back (by unfold GS;rw[if_pos wx];exact dJ g2),M0⟩
    ·obtain⟨mx,rfl,kx,S8⟩:=uQ cx h1
     obtain⟨my,rfl,ky,Nt⟩:=uQ cy h2
     have gU:(⟨x.site,n⟩:Id)≠⟨y.site,n⟩:=fun e=>F.site (by injection e)
     refine⟨jk g ⟨y.site,n⟩ my,?_,back ?_,M0⟩
     ·unfold GS;rw[if_pos wy]
      exact Nt g (CE fun h=>F.hx (kx h)).symm
     ·unfold GS;rw[if_pos wx,FW gU]
      exact S8 _ (CE fun h=>F.hy (ky h))
  ·rw[if_neg wy]at h2
   obtain⟨rfl,rfl⟩:=h2
   exact⟨g,by unfold GS;rw[if_neg wy];exact⟨rfl,rfl⟩,back (by unfold GS;rw[if_pos wx];exact h1),M0⟩
 ·rw[if_neg wx]at h1
  obtain⟨rfl,rfl⟩:=h1
  exact⟨g2,h2,back (by unfold GS;rw[if_neg wx];exact⟨rfl,rfl⟩),M0⟩
end
end Go.Proofs.YtgoelphibofcmaaGreat.V

namespace Go.Proofs.YtgoelphibofcmaaGreat.V
open Go.RowKit
variable {P:Program} {w w':World} {D D' D2:Nat->Prop} {ι ι' ι2:Names}
section
variable {hs:Nat} {X:fE}
def jl (acc:Array Nat) (o:Oper):Nat:=o.after.foldl (fun s e=>if Region.binds .any e then s|||2 ^ e.on|||acc.getD e.on 0 else s) 0
theorem KQ (ops:Array Oper):jC ops=ops.foldl (fun acc o=>acc.push (jl acc o)) #[]:=rfl
theorem AZ {acc:Array Nat} {o:Oper} {i:Nat} (h:(jl acc o).testBit i=true):∃e∈o.after,Region.binds .any e=true/\(e.on=i∨(acc.getD e.on 0).testBit i=true):=by
 unfold jl at h
 rw[<-Array.foldl_toList]at h
 have gen:∀(l:List Edge) (s:Nat),(l.foldl (fun s e=>if Region.binds .any e then s|||2 ^ e.on|||acc.getD e.on 0 else s) s).testBit i=true->s.testBit i=true∨∃e∈l,Region.binds .any e=true/\(e.on=i∨(acc.getD e.on 0).testBit i=true):=by
  intro l
  induction l with
  |nil=>intro s h;exact .inl h
  |cons e r ih=>
   intro s h
   rw[List.foldl_cons]at h
   rcases ih _ h with h|⟨e',Ld,h'⟩
   ·by_cases hb:Region.binds .any e=true
    ·rw[if_pos hb]at h
     simp only[Nat.testBit_or,Bool.or_eq_true]at h
     rcases h with(h|h)|h
     ·exact .inl h
     ·refine .inr ⟨e,by simp,hb,.inl ?_⟩
      rw[Nat.testBit_two_pow]at h
      simpa using h
     ·exact .inr ⟨e,by simp,hb,.inr h⟩
    ·rw[if_neg hb]at h;exact .inl h
   ·exact .inr ⟨e',List.mem_cons_of_mem _ Ld,h'⟩
 rcases gen _ _ h with h|⟨e,he,h⟩
 ·simp at h
 ·exact⟨e,Array.mem_toList_iff.1 he,h⟩
theorem H5 {ops:Array Oper} {j i:Nat} (h:((jC ops).getD j 0).testBit i=true):∃o,ops[j]? =some o/\∃e∈o.after,Region.binds .any e=true/\(e.on=i∨((jC ops).getD e.on 0).testBit i=true):=by
 have key:∀(l pre:List Oper) (acc:Array Nat),acc.size=pre.length->(∀j i,(acc.getD j 0).testBit i=true->∃o,pre[j]? =some o/\∃e∈o.after,Region.binds .any e=true/\(e.on=i∨(acc.getD e.on 0).testBit i=true))->
   ∀j i,((l.foldl (fun acc o=>acc.push (jl acc o)) acc).getD j 0).testBit i=true->∃o,(pre++l)[j]? =some o/\∃e∈o.after,Region.binds .any e=true/\(e.on=i∨((l.foldl (fun acc o=>acc.push (jl acc o)) acc).getD e.on 0).testBit i=true):=by
  intro l
  induction l with
  |nil=>intro pre acc _ h j i hb;simpa using h j i hb
  |cons o r ih=>
   intro pre acc ft h j i hb
   have yL:∀k,k<acc.size->(acc.push (jl acc o)).getD k 0=acc.getD k 0:=fun k hk=>by
    simp only[Array.getD_eq_getD_getElem?,Array.getElem?_push]
    rw[if_neg (by omega)]
   have big:∀k,acc.size<=k->acc.getD k 0=0:=fun k hk=>by simp[Array.getElem?_eq_none hk]
   have lift:∀k i,(acc.getD k 0).testBit i=true->((acc.push (jl acc o)).getD k 0).testBit i=true:=fun k i hk=>by
    by_cases dM:k<acc.size
    ·rw[yL k dM];exact hk
    ·rw[big k (by omega)]at hk;simp at hk
   have:=ih (pre++[o]) (acc.push (jl acc o)) (by simp[ft]) (fun j i hb=>by
    by_cases dM:j<acc.size
    ·rw[yL j dM]at hb
     obtain⟨o',CU,e,he,fF,h2⟩:=h j i hb
     refine⟨o',by rw[List.getElem?_append_left (by omega)];exact CU,e,he,fF,?_⟩
     rcases h2 with h2|h2
     ·exact .inl h2
     ·exact .inr (lift _ _ h2)
    ·by_cases hj:j=acc.size
     ·subst hj
      have e0:(acc.push (jl acc o)).getD acc.size 0=jl acc o:=by simp
      rw[e0]at hb
      obtain⟨e,he,fF,h2⟩:=AZ hb
      refine⟨o,by rw[List.getElem?_append_right (by omega),ft];simp,e,he,fF,?_⟩
      rcases h2 with h2|h2
      ·exact .inl h2
      ·exact .inr (lift _ _ h2)
     ·have:(acc.push (jl acc o)).getD j 0=0:=by
       simp only[Array.getD_eq_getD_getElem?]
       rw[Array.getElem?_eq_none (by simp;omega)];rfl
      rw[this]at hb;simp at hb) j i (by simpa using hb)
   simpa using this
 rw[KQ,<-Array.foldl_toList]at h ⊢
 have:=key ops.toList [] #[] rfl (fun j i h=>by simp at h) j i h
 simpa using this
def DC (ops:Array Oper) (listed:Array Bool):Prop:=∀k i,listed.getD k false=true->((jC ops).getD k 0).testBit i=true->listed.getD i false=true
theorem kY {ops:Array Oper} {listed:Array Bool} (h:DC ops listed) {j:Nat} (hj:j∈Region.ready .any ops listed):∀i,((jC ops).getD j 0).testBit i=true->listed.getD i false=true:=by
 intro i hb
 obtain⟨_,o,ho,dJ⟩:=mem_ready.1 hj
 obtain⟨o',CU,e,he,fF,h2⟩:=H5 hb
 rw[ho]at CU;injection CU with CU;subst CU
 have hl:=dJ e he fF
 rcases h2 with h2|h2
 ·rw[<-h2];exact hl
 ·exact h _ _ hl h2
theorem DC.list {ops:Array Oper} {listed:Array Bool} (h:DC ops listed) {j:Nat} (hj:j∈Region.ready .any ops listed):DC ops (listed.setIfInBounds j true):=by
 intro k i hk hb
 by_cases hkj:k=j
 ·subst hkj;exact getD_set_true (kY h hj i hb)
 ·rw[getD_set_ne false (fun e=>hkj e.symm)]at hk
  exact getD_set_true (h k i hk hb)
theorem jc {ops:Array Oper} {listed:Array Bool} {j:Nat} (hj:j∈Region.ready .any ops listed):listed.getD j false=false:=by
 have h0:=(mem_ready.1 hj).1
 rcases Nat.lt_or_ge j listed.size with h|h
 ·simp[h]at h0 ⊢;exact h0
 ·simp[Array.getElem?_eq_none h]at h0
def Ke (X:fE) (n:Nat) (ops:Array Oper) (vl:List aY) (K:Env->Rows->Prop):Nat->Array Bool->Env->Rows->Prop
 |0,listed,env,g=>Region.ready .any ops listed=[]/\K env g
 |f+1,listed,env,g=>(Region.ready .any ops listed=[]->K env g)/\∀i∈Region.ready .any ops listed,∃vo,vl[i]? =some vo/\∃v g',GS X n vo env g v g'/\Ke X n ops vl K f (listed.setIfInBounds i true) (upd env vo.dst v) g'
theorem Bf {ops:Array Oper} {vl:List aY} (h:ou ops vl (jC ops)=true) {i j:Nat} {x y:aY} (hi:vl[i]? =some x) (hj:vl[j]? =some y) (Fi:i≠j) (h1:((jC ops).getD j 0).testBit i=false) (h2:((jC ops).getD i 0).testBit j=false):C0 x y:=by
 unfold ou at h
 simp only[Bool.and_eq_true,List.all_eq_true]at h
 obtain⟨_,h⟩:=h
 have mem:∀(k:Nat) (z:aY),vl[k]? =some z->(z,k)∈vl.zipIdx:=fun k z hk=>by
  rw[List.mem_iff_getElem?]
  exact⟨k,by simp[List.getElem?_zipIdx,hk]⟩
 rcases Nat.lt_or_gt_of_ne Fi with dM|Lf
 ·have:=h _ (mem j y hj) _ (mem i x hi)
  simp only[dM,decide_true,Bool.not_true,Bool.false_or,h1]at this
  exact ql this
 ·have:=h _ (mem i x hi) _ (mem j y hj)
  simp only[Lf,decide_true,Bool.not_true,Bool.false_or,h2]at this
  exact(ql this).symm
theorem EI {n:Nat} {ops:Array Oper} {vl:List aY} {K:Env->Rows->Prop} (vO:ou ops vl (jC ops)=true) (hlen:vl.length=ops.size) {i:Nat} {vi:aY} (hi:vl[i]? =some vi) {v:AV}:∀(fuel:Nat) (listed:Array Bool) (env:Env) (g g1:Rows),
  DC ops listed->i∈Region.ready .any ops listed->GS X n vi env g v g1->Ke X n ops vl K fuel (listed.setIfInBounds i true) (upd env vi.dst v) g1->Ke X n ops vl K (fuel+1) listed env g:=by
 intro fuel
 induction fuel with
 |zero=>
  intro listed env g g1 _ hr hG H
  refine⟨fun h=>(by rw[h]at hr;cases hr),fun j hj=>?_⟩
  by_cases mE:j=i
  ·subst mE;exact⟨vi,hi,v,g1,hG,H⟩
  ·have:=ready_mono hj mE
   rw[H.1]at this;cases this
 |succ fuel ih=>
  intro listed env g g1 sb hr hG H
  refine⟨fun h=>(by rw[h]at hr;cases hr),fun j hj=>?_⟩
  by_cases mE:j=i
  ·subst mE;exact⟨vi,hi,v,g1,hG,H⟩
  ·obtain⟨vj,Lx,v',g2,hG2,H2⟩:=H.2 j (ready_mono hj mE)
   have b1:((jC ops).getD j 0).testBit i=false:=by
    cases hb:((jC ops).getD j 0).testBit i with
    |false=>rfl
    |true=>have:=kY sb hj i hb;rw[jc hr]at this;cases this
   have b2:((jC ops).getD i 0).testBit j=false:=by
    cases hb:((jC ops).getD i 0).testBit j with
    |false=>rfl
    |true=>have:=kY sb hr j hb;rw[jc hj]at this;cases this
   have F:=Bf vO hi Lx (fun e=>mE e.symm) b1 b2
   obtain⟨K5,q1,q2,q3⟩:=EM F hG hG2
   refine⟨vj,Lx,v',K5,q1,ih _ _ _ g2 (sb.list hj) (ready_mono hr (fun e=>mE e.symm)) q2 ?_⟩
   rw[<-q3,Array.setIfInBounds_comm _ _ mE]
   exact H2
theorem Nq {n:Nat} {vo:aY} {env:Env} {g:Rows} {v:AV} {mr:Option Row} (h:eV vo.op (cK env) (gr vo.hid n g) ⟨vo.site,n⟩=some (v,mr)):VS X n vo env g v (jk g ⟨vo.site,n⟩ mr):=by
 unfold VS
 split
 ·rename_i dY;rw[dY]at h;simp[eV]at h
 ·rename_i dY;rw[dY]at h;simp[eV]at h
 ·rename_i dY;rw[dY]at h;simp[eV]at h
 ·rename_i dY;rw[dY]at h;simp[eV]at h
 ·rename_i dY;rw[dY]at h;simp[eV]at h
 ·rename_i dY;rw[dY]at h;simp[eV]at h
 ·rename_i dY;rw[dY]at h;simp[eV]at h
 ·exact⟨mr,h,rfl⟩
theorem HV {n:Nat} {vo:aY} {env:Env} {g g':Rows} {v:AV} (h:gw vo.op (cK env) g ⟨vo.site,n⟩=some (v,g')):VS X n vo env g v g':=by
 unfold VS
 split
 ·rename_i dY;rw[dY]at h;simp[gw]at h
 ·rename_i dY;rw[dY]at h;simp[gw]at h
 ·exact h
 ·exact h
 ·exact h
 ·exact h
 ·exact h
 ·rename_i n1 n2 n3 n4 n5 n6 n7
  exfalso
  unfold gw at h
  split at h
  ·rename_i hh;exact n3 _ _ _ hh
  ·rename_i hh;exact n4 _ _ _ hh
  ·rename_i hh;exact n5 _ _ _ hh
  ·rename_i hh;exact n6 _ _ hh
  ·rename_i hh;exact n7 _ _ hh
  ·simp at h
theorem O7 {vo:aY} {env:Env} {σ:au} {next:AV->au->Prop} (hv:fU X true vo env σ next):∃v g',VS X σ.next vo env σ.get v g'/\next v ⟨g',σ.next⟩:=by
 unfold fU at hv
 split at hv
 ·rename_i f args dY
  rcases hv with⟨r,hP,hn⟩|⟨h,_⟩|⟨hs,sz,rows,hM,hn⟩
  ·exact⟨r,σ.get,by unfold VS;rw[dY];exact .inl ⟨hP,rfl⟩,hn⟩
  ·cases h
  ·exact⟨_,_,by unfold VS;rw[dY];exact .inr ⟨hs,sz,rows,hM,rfl,rfl⟩,hn⟩
 ·rename_i x args dY
  split at hv
  ·rename_i f cH hx
   have tC:uZ (cK env x) (args.map (cK env))=some (f,args.map (cK env)++cH):=by rw[hx];rfl
   rcases hv with⟨r,hP,hn⟩|⟨h,_⟩|⟨hs,sz,rows,hM,hn⟩
   ·exact⟨r,σ.get,by unfold VS;rw[dY];exact⟨f,_,tC,.inl ⟨hP,rfl⟩⟩,hn⟩
   ·cases h
   ·exact⟨_,_,by unfold VS;rw[dY];exact⟨f,_,tC,.inr ⟨hs,sz,rows,hM,rfl,rfl⟩⟩,hn⟩
  ·rename_i f cH hx
   have tC:uZ (cK env x) (args.map (cK env))=some (f,cH++args.map (cK env)):=by rw[hx];rfl
   rcases hv with⟨r,hP,hn⟩|⟨h,_⟩|⟨hs,sz,rows,hM,hn⟩
   ·exact⟨r,σ.get,by unfold VS;rw[dY];exact⟨f,_,tC,.inl ⟨hP,rfl⟩⟩,hn⟩
   ·cases h
   ·exact⟨_,_,by unfold VS;rw[dY];exact⟨f,_,tC,.inr ⟨hs,sz,rows,hM,rfl,rfl⟩⟩,hn⟩
  ·exact hv.elim
 ·split at hv
  ·rename_i v g h;exact⟨v,g,HV h,hv⟩
  ·exact hv.elim
 ·split at hv
  ·rename_i v g h;exact⟨v,g,HV h,hv⟩
  ·exact hv.elim
 ·split at hv
  ·rename_i v g h;exact⟨v,g,HV h,hv⟩
  ·exact hv.elim
 ·split at hv
  ·rename_i v g h;exact⟨v,g,HV h,hv⟩
  ·exact hv.elim
 ·split at hv
  ·rename_i v g h;exact⟨v,g,HV h,hv⟩
  ·exact hv.elim
 ·split at hv
  ·rename_i v r h;exact⟨v,_,Nq h,hv⟩
  ·rename_i v h;exact⟨v,_,Nq h,hv⟩
  ·exact hv.elim
theorem wZ {ops:Array Oper} {vl:List aY} {K:Env->au->Prop} {n:Nat} (vO:ou ops vl (jC ops)=true) (hlen:vl.length=ops.size):∀(r:List aY) (k:Nat) (listed:Array Bool) (env:Env) (g:Rows),
  (∀j,r[j]? =vl[k+j]?)->listed.size=ops.size->(∀i,i<ops.size->listed[i]? =some (decide (i<k)))->k+r.length=ops.size->DC ops listed->wpOps X true r K env ⟨g,n⟩->Ke X n ops vl (fun env g=>K env ⟨g,n+1⟩) r.length listed env g
 |[],k,listed,env,g,_,ft,hl,hk,_,hv=>by
  refine⟨?_,hv⟩
  rw[List.eq_nil_iff_forall_not_mem]
  intro j hj
  obtain⟨h0,o,ho,_⟩:=mem_ready.1 hj
  have dM:j<ops.size:=(Array.getElem?_eq_some_iff.1 ho).1
  have:=hl j dM
  simp at hk
  simp[this,show j<k by omega]at h0
 |vo::r,k,listed,env,g,hr,ft,hl,hk,sb,hv=>by
  simp only[List.length_cons]at hk
  have kG:vl[k]? =some vo:=by simpa using(hr 0).symm
  have lj:k<ops.size:=by omega
  have IX:k∈Region.ready .any ops listed:=by
   rw[mem_ready]
   refine⟨by simp[hl k lj],ops[k],Array.getElem?_eq_getElem lj,fun e he hb=>?_⟩
   unfold ou E4 at vO
   simp only[Bool.and_eq_true,List.all_eq_true]at vO
   have hm:(ops[k],k)∈ops.toList.zipIdx:=by
    rw[List.mem_iff_getElem?]
    exact⟨k,by simp[List.getElem?_zipIdx,lj]⟩
   have:=vO.1 _ hm
   rw[Array.all_eq_true_iff_forall_mem]at this
   have:=this e he
   simp only[hb,Bool.not_true,Bool.false_or,decide_eq_true_eq]at this
   simp[hl e.on (by omega),this]
  have hGS:∃v g',GS X n vo env g v g'/\wpOps X true r K (upd env vo.dst v) ⟨g',n⟩:=by
   unfold wpOps at hv
   unfold GS
   split at hv
   ·rename_i hw
    simp only[hw,if_true]
    exact O7 hv
   ·rename_i hw
    simp only[hw]
    exact⟨.undef,g,⟨rfl,rfl⟩,hv⟩
  obtain⟨v,g',h1,h2⟩:=hGS
  refine EI vO hlen kG r.length listed env g g' sb IX h1 ?_
  refine wZ vO hlen r (k+1) _ _ _ (fun j=>by have:=hr (j+1);simpa[Nat.add_assoc,Nat.add_comm 1 j]using this) (by simp[ft]) (fun i hi=>?_) (by omega) (sb.list IX) h2
  by_cases yj:i=k
  ·subst yj;simp[ft,lj]
  ·rw[Array.getElem?_setIfInBounds_ne (fun e=>yj e.symm),hl i hi]
   congr 1
   have:(i<k)=(i<k+1):=by apply propext;omega
   simp[this]
theorem oi {f:Nat->Oper->Option aY}:∀{l:List Oper} {vl:List aY} {j:Nat},allM f l j=some vl->vl.length=l.length/\∀(i:Nat) (o:Oper),l[i]? =some o->∃vo,vl[i]? =some vo/\f (j+i) o=some vo
 |[],vl,j,h=>by simp[allM]at h;subst h;simp
 |o::l,vl,j,h=>by
  simp only[allM,Option.bind_eq_bind,Option.bind_eq_some_iff,Option.pure_def,Option.some.injEq]at h
  obtain⟨vo,kG,ta,sg,rfl⟩:=h
  obtain⟨h1,h2⟩:=oi sg
  refine⟨by simp[h1],fun i o' hi=>?_⟩
  cases i with
  |zero=>simp at hi;subst hi;exact⟨vo,rfl,kG⟩
  |succ i=>
   simp at hi
   obtain⟨q,hq,hf⟩:=h2 i o' hi
   exact⟨q,by simpa using hq,by rw[<-hf];congr 1;omega⟩
theorem xR {ops:Array Oper} {vl:List aY} {nt site0:Nat} {draw mk:Bool} {bs:Array Nat} {hidden:List (Nat×Bool)} {n:Nat} {K:Env->Rows->Prop} {Q:Exit->Act->World->Prop} (dJ:allM (kN P ops nt site0 draw mk bs hidden) ops.toList 0=some vl):
  ∀(fuel:Nat) (listed:Array Bool) (env:Env) (g:Rows) (a:Act) (w:World) (D:Nat->Prop) (ι:Names) (U:Nat->Prop),Ke (Sound P) n ops vl K fuel listed env g->gn P hs D ι g w->Used ι n U->(∀s,U s->∃i,s=site0+i/\listed.getD i false=true)->bQ P w D ι env a->a.tmps.size=nt->
  (∀iG g' a' w' D' ι' U',K iG g'->Step hs D ι w D' ι' w'->gn P hs D' ι' g' w'->Used ι' n U'->bQ P w' D' ι' iG a'->a'.tmps.size=nt->a'.defers=a.defers->Q .normal a' w')->wpAny P .any ops Q fuel listed a w:=by
 intro fuel
 induction fuel with
 |zero=>intro listed env g a w D ι U h S Us hU E ft hQ;exact⟨h.1,hQ env g a w D ι U h.2 (Step.refl _ _ _ _) S Us E ft rfl⟩
 |succ fuel ih=>
  intro listed env g a w D ι U h S Us hU E ft hQ
  refine⟨fun hr=>hQ env g a w D ι U (h.1 hr) (Step.refl _ _ _ _) S Us E ft rfl,fun i hi=>?_⟩
  obtain⟨vo,kG,v,g',hG,MV⟩:=h.2 i hi
  obtain⟨_,o,ho,_⟩:=mem_ready.1 hi
  obtain⟨vo',mh,QD⟩:=(oi dJ).2 i o (by simpa using ho)
  rw[kG]at mh;injection mh with mh;subst mh
  rw[Nat.zero_add]at QD
  obtain⟨hc,hd,BI,xx,hg⟩:=o8 QD
  have hw:=tb (ops:=ops) (vo:=vo) E hg
  have TF:¬U vo.site:=fun hu=>by
   obtain⟨i',he,hl⟩:=hU _ hu
   have:i'=i:=by omega
   subst this
   rw[jc hi]at hl;cases hl
  have jD:i<listed.size:=by
   have h0:=(mem_ready.1 hi).1
   rcases Nat.lt_or_ge i listed.size with h|h
   ·exact h
   ·simp[Array.getElem?_eq_none h]at h0
  unfold wpOp
  simp only[ho]
  rw[<-hw]
  unfold GS at hG
  by_cases Gq:aL vo.guard env=true
  ·rw[if_pos Gq]
   rw[if_pos Gq]at hG
   refine .inl (AU hc hG S Us TF E fun a' w' ⟨u,D',ι',ha,T,S',hR,U'⟩=>?_)
   subst ha
   refine ih _ _ _ _ w' D' ι' _ MV S' U' (fun s BF=>?_) (by rw[hd];exact iq (ow E T) hR xx ft) (by rw[eX];exact ft) fun iG g2 a2 w2 D2 ι2 U2 hk T2 S2 S7 E2 kh Dx=>hQ iG g2 a2 w2 D2 ι2 U2 hk (T.trans T2) S2 S7 E2 kh (Dx.trans (put_defers _ _ _))
   rcases BF with h|h
   ·obtain⟨i',he,hl⟩:=hU _ h
    exact⟨i',he,getD_set_true hl⟩
   ·exact⟨i,by rw[h,BI],by simp[jD]⟩
  ·rw[if_neg Gq]
   rw[if_neg Gq]at hG
   obtain⟨rfl,rfl⟩:=hG
   refine ih _ _ _ _ w D ι U MV S Us (fun s BF=>?_) (by rw[hd];exact iq E cE.undef xx ft) (by rw[eX];exact ft) fun iG g2 a2 w2 D2 ι2 U2 hk T2 S2 S7 E2 kh Dx=>hQ iG g2 a2 w2 D2 ι2 U2 hk T2 S2 S7 E2 kh (Dx.trans (put_defers _ _ _))
   obtain⟨i',he,hl⟩:=hU _ BF
   exact⟨i',he,getD_set_true hl⟩
end
end Go.Proofs.YtgoelphibofcmaaGreat.V

namespace Go.Proofs.YtgoelphibofcmaaGreat.V
open Go.RowKit
variable {P:Program} {w w':World} {D D' D2:Nat->Prop} {ι ι' ι2:Names}
section
variable {hs:Nat} {X:fE}
def pP (X:fE):Prop:=∀f args σ K K',(∀r σ',K r σ'->K' r σ')->X f args σ K->X f args σ K'
theorem kJ:pP (Sound P):=fun _ _ _ _ _ hK h hs D ι w vs S U A=>
 (h hs D ι w vs S U A).mono fun _ _ ⟨r,g',n',D',ι',u,he,hk,rest⟩=>⟨r,g',n',D',ι',u,he,hK _ _ hk,rest⟩
def step (X:fE) (vo:aY) (N:Env->au->Prop) (env:Env) (σ:au):Prop:=
 if aL vo.guard env then fU X false vo env σ fun v σ'=>N (upd env vo.dst v) σ' else N (upd env vo.dst .undef) σ
theorem qe (hK:pP X) {draw:Bool} {hid:List Nat} {site f:Nat} {args:List AV} {σ:au} {n n':AV->au->Prop} (hn:∀v σ',n v σ'->n' v σ') (hp:cJ X draw hid site f args σ n):cJ X draw hid site f args σ n':=by
 rcases hp with⟨r,h1,h2⟩|⟨h1,h2⟩|⟨h1,sz,rows,h2,h3⟩
 ·exact .inl ⟨r,h1,hn _ _ h2⟩
 ·exact .inr (.inl ⟨h1,hK _ _ _ _ _ hn h2⟩)
 ·exact .inr (.inr ⟨h1,sz,rows,h2,hn _ _ h3⟩)
theorem CF (hK:pP X) {draw:Bool} {o:aY} {env:Env} {σ:au} {n n':AV->au->Prop} (hn:∀v σ',n v σ'->n' v σ') (hp:fU X draw o env σ n):fU X draw o env σ n':=by
 unfold fU at hp ⊢
 split at hp
 ·exact qe hK hn hp
 ·split at hp
  ·exact qe hK hn hp
  ·exact qe hK hn hp
  ·exact hp.elim
 ·split at hp
  ·exact hn _ _ hp
  ·exact hp.elim
 ·split at hp
  ·exact hn _ _ hp
  ·exact hp.elim
 ·split at hp
  ·exact hn _ _ hp
  ·exact hp.elim
 ·split at hp
  ·exact hn _ _ hp
  ·exact hp.elim
 ·split at hp
  ·exact hn _ _ hp
  ·exact hp.elim
 ·split at hp
  ·exact hn _ _ hp
  ·exact hn _ _ hp
  ·exact hp.elim
theorem jR (hK:pP X) {vo:aY} {N N':Env->au->Prop} (h:∀e s,N e s->N' e s) {env:Env} {σ:au} (hp:step X vo N env σ):step X vo N' env σ:=by
 unfold step at hp ⊢
 split at hp
 ·rename_i hw;rw[if_pos hw];exact CF hK (fun v σ'=>h _ _) hp
 ·rename_i hw;rw[if_neg hw];exact h _ _ hp
theorem Hp {env iR:Env} {vo:aY} {σ:au} {n:AV->au->Prop} (h:∀t∈vo.op.gF,env t=iR t) (hv:fU X false vo env σ n):fU X false vo iR σ n:=by
 unfold fU at hv ⊢
 split at hv
 ·rename_i f args dY
  rw[dY]at h
  simp only[gu.gF]at h
  rw[<-map_congr h];exact hv
 ·rename_i x args dY
  rw[dY]at h
  simp only[gu.gF,List.mem_append]at h
  rw[<-map_congr (l:=args) fun t ht=>h t (.inr ht),<-bc (x:=x) fun t ht=>h t (.inl ht)];exact hv
 ·rw[<-gT h];exact hv
 ·rw[<-gT h];exact hv
 ·rw[<-gT h];exact hv
 ·rw[<-gT h];exact hv
 ·rw[<-gT h];exact hv
 ·rw[<-sV h];exact hv
theorem lK {x:aY} (hq:kX x=true) {N:Env->au->Prop} {env:Env} {σ:au}:step X x N env σ↔∃v g',GS X σ.next x env σ.get v g'/\N (upd env x.dst v) ⟨g',σ.next⟩:=by
 unfold kX at hq
 simp only[Bool.and_eq_true,Bool.not_eq_true',bne_iff_ne]at hq
 obtain⟨yn,ue⟩:=hq
 unfold step GS
 by_cases hw:aL x.guard env=true
 ·rw[if_pos hw]
  simp only[hw,if_true]
  unfold fU
  split
  ·rename_i dY;simp[dY,gu.lO]at yn
  ·rename_i dY;simp[dY,gu.lO]at yn
  ·rename_i dY;simp[dY,gu.cls]at ue
  ·rename_i dY;simp[dY,gu.cls]at ue
  ·rename_i dY;simp[dY,gu.cls]at ue
  ·rename_i dY;simp[dY,gu.cls]at ue
  ·rename_i dY;simp[dY,gu.cls]at ue
  ·rename_i n1 n2 n3 n4 n5 n6 n7
   have hVS:∀v g',VS X σ.next x env σ.get v g'↔∃mr,eV x.op (cK env) (gr x.hid σ.next σ.get) ⟨x.site,σ.next⟩=some (v,mr)/\g'=jk σ.get ⟨x.site,σ.next⟩ mr:=fun v g'=>by
    unfold VS
    split
    ·rename_i hh;exact(n1 _ _ hh).elim
    ·rename_i hh;exact(n2 _ _ hh).elim
    ·rename_i hh;exact(n3 _ _ _ hh).elim
    ·rename_i hh;exact(n4 _ _ _ hh).elim
    ·rename_i hh;exact(n5 _ _ _ hh).elim
    ·rename_i hh;exact(n6 _ _ hh).elim
    ·rename_i hh;exact(n7 _ _ hh).elim
    ·exact Iff.rfl
   simp only[hVS]
   cases hz:eV x.op (cK env) (gr x.hid σ.next σ.get) ⟨x.site,σ.next⟩with
   |none=>
    exact⟨fun h=>h.elim,fun⟨v,g',⟨mr,h,_⟩,_⟩=>by cases h⟩
   |some p=>
    obtain⟨v,mr⟩:=p
    have key:∀(v':AV) (g':Rows),(∃P6,some (v,mr)=some (v',P6)/\g'=jk σ.get ⟨x.site,σ.next⟩ P6)↔v'=v/\g'=jk σ.get ⟨x.site,σ.next⟩ mr:=fun v' g'=>by
     constructor
     ·rintro⟨P6,h1,h2⟩
      injection h1 with h1;injection h1 with h1 h3
      subst h1;subst h3
      exact⟨rfl,h2⟩
     ·rintro⟨rfl,rfl⟩;exact⟨mr,rfl,rfl⟩
    have fin:(∃v' g',(∃P6,some (v,mr)=some (v',P6)/\g'=jk σ.get ⟨x.site,σ.next⟩ P6)/\N (upd env x.dst v') ⟨g',σ.next⟩)↔N (upd env x.dst v) ⟨jk σ.get ⟨x.site,σ.next⟩ mr,σ.next⟩:=by
     constructor
     ·rintro⟨v',g',h,hN⟩
      obtain⟨rfl,rfl⟩:=(key v' g').1 h
      exact hN
     ·intro hN;exact⟨v,_,(key _ _).2 ⟨rfl,rfl⟩,hN⟩
    cases mr with
    |none=>exact fin.symm
    |some r=>exact fin.symm
 ·rw[if_neg hw]
  simp only[if_neg hw]
  exact⟨fun h=>⟨_,_,⟨rfl,rfl⟩,h⟩,fun⟨v,g',⟨hv,hg⟩,h⟩=>by rw[hv,hg]at h;exact h⟩
def xv (x:aY) (env:Env) (v:AV):Prop:=if aL x.guard env then eV x.op (cK env) (fun _=>none) ⟨0,0⟩=some (v,none)else v=.undef
theorem wq {x:aY} (hp:x.op.cls=.pure):kX x=true:=by
 unfold kX
 rw[hp]
 cases hc:x.op<;>simp[hc,gu.cls]at hp<;>rfl
theorem s4 {x:aY} (hp:x.op.cls=.pure) {N:Env->au->Prop} {env:Env} {σ:au}:step X x N env σ↔∃v,xv x env v/\N (upd env x.dst v) σ:=by
 rw[lK (wq hp)]
 unfold GS xv
 by_cases hw:aL x.guard env=true
 ·simp only[hw,if_true]
  constructor
  ·rintro⟨v,g',h,hN⟩
   obtain⟨rfl,dJ⟩:=y8 hp h
   refine⟨v,?_,hN⟩
   unfold VS at h
   split at h
   ·rename_i dY;rw[dY]at hp;simp[gu.cls]at hp
   ·rename_i dY;rw[dY]at hp;simp[gu.cls]at hp
   ·rename_i dY;rw[dY]at hp;simp[gu.cls]at hp
   ·rename_i dY;rw[dY]at hp;simp[gu.cls]at hp
   ·rename_i dY;rw[dY]at hp;simp[gu.cls]at hp
   ·rename_i dY;rw[dY]at hp;simp[gu.cls]at hp
   ·rename_i dY;rw[dY]at hp;simp[gu.cls]at hp
   ·obtain⟨mr,hq,_⟩:=h
    have Ug:mr=none:=by
     cases mr with
     |none=>rfl
     |some r=>have:=wu hq;simp[qC,hp]at this
    subst Ug
    rw[<-wz (g:=gr x.hid σ.next σ.get) (id:=⟨x.site,σ.next⟩) hp];exact hq
  ·rintro⟨v,h,hN⟩
   exact⟨v,σ.get,Nq (mr:=none) (by rw[wz (g2:=fun _=>none) (id2:=⟨0,0⟩) hp];exact h),hN⟩
 ·simp only[if_neg hw]
  exact⟨fun⟨v,g',⟨hv,hg⟩,h⟩=>⟨v,hv,by rw[hg]at h;exact h⟩,fun⟨v,hv,h⟩=>⟨v,σ.get,⟨hv,rfl⟩,h⟩⟩
theorem Km {x:aY} {env iR:Env} {v:AV} (h:∀t∈x.gF,env t=iR t) (hv:xv x env v):xv x iR v:=by
 unfold xv at hv ⊢
 rw[<-nu h,<-sV fun t ht=>h t (rV ht)];exact hv
structure Mv (x y:aY):Prop where
 xy:∀k,x.dst=some k->k∉y.gF
 yx:∀k,y.dst=some k->k∉x.gF
 dst:∀k,x.dst=some k->y.dst≠some k
theorem r5 {x y:aY} (h:s9 x y=true):Mv x y:=by
 unfold s9 at h
 simp only[Bool.and_eq_true]at h
 obtain⟨a1,a2⟩:=h
 refine⟨fun k hk=>?_,fun k hk=>?_,fun k hk=>?_⟩
 ·rw[hk]at a1;simp at a1;exact a1.1
 ·rw[hk]at a2;simpa using a2
 ·rw[hk]at a1;simp at a1;exact a1.2
theorem yh {x y:aY} (h:yg x y=true):(Mv x y/\x.op.cls=.pure)∨(C0 x y/\kX x=true/\kX y=true):=by
 unfold yg at h
 simp only[Bool.or_eq_true,Bool.and_eq_true,beq_iff_eq]at h
 rcases h with⟨h1,h2⟩|⟨⟨h1,h2⟩,h3⟩
 ·exact .inl ⟨r5 h1,h2⟩
 ·exact .inr ⟨ql h1,h2,h3⟩
theorem Bn {x y:aY} (h:yg x y=true):kX x=true:=by
 rcases yh h with h|h
 ·exact wq h.2
 ·exact h.2.1
theorem G7 (hK:pP X) {x y:aY} (hf:yg x y=true) {N:Env->au->Prop} {env:Env} {σ:au} (h:step X x (fun e s=>step X y N e s) env σ):step X y (fun e s=>step X x N e s) env σ:=by
 rcases yh hf with⟨F,hp⟩|⟨F,hx,hy⟩
 ·rw[s4 hp]at h
  obtain⟨v,hx,h⟩:=h
  have M0:=fun(v':AV)=>wY (env:=env) (v:=v) (u:=v') F.dst
  have DL:=mC (env:=env) (v:=v) F.xy
  have back:∀(v':AV),xv x (upd env y.dst v') v:=fun v'=>Km (fun t ht=>(mC F.yx t ht).symm) hx
  unfold step at h ⊢
  rw[nu DL]at h
  split at h
  ·rename_i hw
   rw[if_pos hw]
   refine CF hK (fun v' σ' hN=>?_) (Hp (fun t ht=>DL t (rV ht)) h)
   rw[M0]at hN
   exact(s4 hp).2 ⟨v,back v',hN⟩
  ·rename_i hw
   rw[if_neg hw]
   rw[M0]at h
   exact(s4 hp).2 ⟨v,back _,h⟩
 ·rw[lK hx]at h
  obtain⟨v,g1,h1,h⟩:=h
  rw[lK hy]at h
  obtain⟨v',g2,h2,h⟩:=h
  obtain⟨K5,q1,q2,q3⟩:=EM F h1 h2
  rw[q3]at h
  exact(lK hy).2 ⟨v',K5,q1,(lK hx).2 ⟨v,g2,q2,h⟩⟩
def AA (X:fE) (ops:Array Oper) (vl:List aY) (K:Env->au->Prop):Nat->Array Bool->Env->au->Prop
 |0,listed,env,σ=>Region.ready .any ops listed=[]/\K env ⟨σ.get,σ.next+1⟩
 |f+1,listed,env,σ=>(Region.ready .any ops listed=[]->K env ⟨σ.get,σ.next+1⟩)/\∀i∈Region.ready .any ops listed,∃vo,vl[i]? =some vo/\step X vo (fun e s=>AA X ops vl K f (listed.setIfInBounds i true) e s) env σ
theorem Dn {ops:Array Oper} {vl:List aY} {bs:Array Nat} {listed:Array Bool} {i:Nat} (h:qk ops vl bs listed i=true) (j:Nat):qk ops vl bs (listed.setIfInBounds j true) i=true:=by
 unfold qk at h ⊢
 split at h
 ·rename_i x hx
  simp only[List.all_eq_true,Bool.or_eq_true]at h ⊢
  intro k hk
  rcases h k hk with((h|h)|h)|h
  ·exact .inl (.inl (.inl (getD_set_true h)))
  ·exact .inl (.inl (.inr h))
  ·exact .inl (.inr h)
  ·exact .inr h
 ·cases h
theorem tp {ops:Array Oper} {vl:List aY} {listed:Array Bool} {i j:Nat} {vi:aY} (sb:DC ops listed) (h:qk ops vl (jC ops) listed i=true) (hi:vl[i]? =some vi) (hr:i∈Region.ready .any ops listed) (hj:j∈Region.ready .any ops listed) (mE:j≠i):∃vj,vl[j]? =some vj/\yg vi vj=true:=by
 unfold qk at h
 rw[hi]at h
 simp only[List.all_eq_true,Bool.or_eq_true,beq_iff_eq]at h
 obtain⟨_,o,ho,_⟩:=mem_ready.1 hj
 rcases h j (List.mem_range.2 (Array.getElem?_eq_some_iff.1 ho).1)with((h|h)|h)|h
 ·rw[jc hj]at h;cases h
 ·exact absurd h mE
 ·have:=kY sb hj i h
  rw[jc hr]at this;cases this
 ·split at h
  ·rename_i y hy;exact⟨y,hy,h⟩
  ·cases h
theorem EK (hK:pP X) {ops:Array Oper} {vl:List aY} {K:Env->au->Prop} {i:Nat} {vi:aY} (hi:vl[i]? =some vi):∀(fuel:Nat) (listed:Array Bool) (env:Env) (σ:au),
  DC ops listed->i∈Region.ready .any ops listed->qk ops vl (jC ops) listed i=true->step X vi (fun e s=>AA X ops vl K fuel (listed.setIfInBounds i true) e s) env σ->AA X ops vl K (fuel+1) listed env σ:=by
 intro fuel
 induction fuel with
 |zero=>
  intro listed env σ sb hr kq H
  refine⟨fun h=>(by rw[h]at hr;cases hr),fun j hj=>?_⟩
  by_cases mE:j=i
  ·subst mE;exact⟨vi,hi,H⟩
  ·obtain⟨vj,Lx,QN⟩:=tp sb kq hi hr hj mE
   rw[lK (Bn QN)]at H
   obtain⟨v,g',_,H⟩:=H
   have:=ready_mono hj mE
   rw[H.1]at this;cases this
 |succ fuel ih=>
  intro listed env σ sb hr kq H
  refine⟨fun h=>(by rw[h]at hr;cases hr),fun j hj=>?_⟩
  by_cases mE:j=i
  ·subst mE;exact⟨vi,hi,H⟩
  ·obtain⟨vj,Lx,QN⟩:=tp sb kq hi hr hj mE
   refine⟨vj,Lx,?_⟩
   have H2:step X vi (fun e s=>step X vj (fun e s=>AA X ops vl K fuel ((listed.setIfInBounds i true).setIfInBounds j true) e s) e s) env σ:=jR hK (fun e s h=>by
    obtain⟨vj',zE,h'⟩:=h.2 j (ready_mono hj mE)
    rw[Lx]at zE;injection zE with zE;subst zE
    exact h') H
   refine jR hK (fun e s h=>?_) (G7 hK QN H2)
   refine ih _ _ _ (sb.list hj) (ready_mono hr (fun e=>mE e.symm)) (Dn kq j) ?_
   rw[Array.setIfInBounds_comm _ _ mE]
   exact h
theorem sZ {x:aY} (hg:x.guard=none) {N:Env->au->Prop} {env:Env} {σ:au}:step X x N env σ=fU X false x env σ (fun v σ'=>N (upd env x.dst v) σ'):=by
 unfold step
 rw[hg]
 simp[aL]
theorem Et {x y:aY} {t s sz:Nat} {ys:O} (hx:x.op=.append sz (.t t) ys) (hg:x.guard=none) (hf:E9 s x y=true) {N:Env->au->Prop} {env:Env} {σ:au} (hl:LL t s ys env σ.next) (h:step X x (fun e s=>step X y N e s) env σ):
  step X y (fun e σ'=>LL t s ys e σ'.next/\step X x N e σ') env σ:=by
 unfold E9 at hf
 simp only[Bool.and_eq_true,bne_iff_ne]at hf
 obtain⟨⟨⟨⟨⟨f1,hq⟩,f3⟩,f4⟩,f5⟩,f6⟩:=hf
 have F:=r5 f1
 obtain⟨⟨len,ht⟩,hsrc⟩:=hl
 have I0:∀k∈x.op.gF,∀v',upd env y.dst v' k=env k:=fun k hk v'=>mC (env:=env) (v:=v') F.yx k (rV hk)
 have dB:t∈x.op.gF:=by rw[hx];simp[gu.gF,gO]
 have Fq:∀v',cK (upd env y.dst v') ys=cK env ys:=fun v'=>(bc fun k hk=>by rw[I0 k (by rw[hx];simp[gu.gF,hk])]).symm
 rw[sZ hg]at h
 unfold fU at h
 simp only[hx,gw]at h
 have ex:cK env (.t t)=.own ⟨s,σ.next⟩ 0 len:=ht
 rw[ex]at h
 cases hr:bz σ.get (cK env ys)with
 |none=>rw[hr]at h;exact h.elim
 |some rs=>
  rw[hr]at h
  simp only[Option.bind_some,aX]at h
  cases IJ:σ.get ⟨s,σ.next⟩with
  |none=>rw[IJ]at h;exact h.elim
  |some r=>
   rw[IJ]at h
   simp only[Option.bind_some]at h
   split at h
   ·rename_i v g1 hv
    split at hv
    ·rename_i hcond
     simp only[Option.some.injEq,Prod.mk.injEq]at hv
     obtain⟨rfl,rfl⟩:=hv
     rw[lK hq]at h
     obtain⟨v',g2,hG,hN⟩:=h
     have Lm:(⟨y.site,σ.next⟩:Id)≠⟨s,σ.next⟩:=fun e=>f5 (by injection e)
     have IP:(⟨y.site,σ.next⟩:Id)≠⟨x.site,σ.next⟩:=fun e=>f6 (by injection e)
     replace hG:GS X σ.next y env (bJ (cr σ.get ⟨s,σ.next⟩) ⟨x.site,σ.next⟩ ⟨true,sz,r.rows++rs⟩) v' g2:=uM (mC F.xy) hG
     have UB:gr y.hid σ.next σ.get=gr y.hid σ.next (bJ (cr σ.get ⟨s,σ.next⟩) ⟨x.site,σ.next⟩ ⟨true,sz,r.rows++rs⟩):=by
      cases hh:y.hid with
      |nil=>rw[hh]at f3;simp at f3
      |cons a l=>
       rw[hh]at f3 f4
       funext i
       show(if (a::l).contains i.site=true/\i.bq=σ.next then none else σ.get i)=if (a::l).contains i.site=true/\i.bq=σ.next then none else _
       by_cases h1:i=⟨x.site,σ.next⟩
       ·subst h1;rw[if_pos ⟨f4,rfl⟩,if_pos ⟨f4,rfl⟩]
       ·by_cases h2:i=⟨s,σ.next⟩
        ·subst h2;rw[if_pos ⟨f3,rfl⟩,if_pos ⟨f3,rfl⟩]
        ·simp only[bJ,cr,if_neg h1,if_neg h2]
     obtain⟨my,QP,hG'⟩:∃my,g2=jk (bJ (cr σ.get ⟨s,σ.next⟩) ⟨x.site,σ.next⟩ ⟨true,sz,r.rows++rs⟩) ⟨y.site,σ.next⟩ my/\GS X σ.next y env σ.get v' (jk σ.get ⟨y.site,σ.next⟩ my):=by
      unfold GS at hG ⊢
      by_cases wy:aL y.guard env=true
      ·rw[if_pos wy]at hG
       have hcw:y.op.cls≠.write:=by
        unfold kX at hq
        simp only[Bool.and_eq_true,bne_iff_ne]at hq
        exact hq.2
       obtain⟨my,rfl,_,Nt⟩:=uQ hcw hG
       exact⟨my,rfl,by rw[if_pos wy];exact Nt _ UB⟩
      ·rw[if_neg wy]at hG
       obtain⟨rfl,rfl⟩:=hG
       exact⟨none,rfl,by rw[if_neg wy];exact⟨rfl,rfl⟩⟩
     subst QP
     refine(lK hq).2 ⟨v',_,hG',⟨⟨len,by rw[I0 t dB];exact ht⟩,fun id o l he=>hsrc id o l (by rw[<-Fq v'];exact he)⟩,?_⟩
     rw[sZ hg]
     unfold fU
     have ex':cK (upd env y.dst v') (.t t)=.own ⟨s,σ.next⟩ 0 len:=by
      show upd env y.dst v' t= _
      rw[I0 t dB];exact ht
     simp only[hx,gw,ex',Fq v']
     have nT:bz (jk σ.get ⟨y.site,σ.next⟩ my) (cK env ys)=some rs:=by
      cases my with
      |none=>exact hr
      |some row=>
       revert hr
       cases hev:cK env ys<;>simp only[bz,jk]<;>try exact fun h=>h
       rename_i id o l
       have:id≠⟨y.site,σ.next⟩:=fun e=>hsrc id o l hev (by rw[e])
       simp only[bJ,if_neg this];exact fun h=>h
     have T6:jk σ.get ⟨y.site,σ.next⟩ my ⟨s,σ.next⟩=some r:=by
      cases my with
      |none=>exact IJ
      |some row=>simp only[jk,bJ,if_neg (fun e=>Lm e.symm:(⟨s,σ.next⟩:Id)≠⟨y.site,σ.next⟩)];exact IJ
     rw[nT]
     simp only[Option.bind_some,aX,T6]
     rw[if_pos hcond]
     have hgg:bJ (cr (jk σ.get ⟨y.site,σ.next⟩ my) ⟨s,σ.next⟩) ⟨x.site,σ.next⟩ ⟨true,sz,r.rows++rs⟩=jk (bJ (cr σ.get ⟨s,σ.next⟩) ⟨x.site,σ.next⟩ ⟨true,sz,r.rows++rs⟩) ⟨y.site,σ.next⟩ my:=by
      cases my with
      |none=>rfl
      |some row=>
       funext i
       simp only[jk,bJ,cr]
       by_cases h1:i=⟨y.site,σ.next⟩
       ·subst h1;rw[if_neg IP,if_neg Lm,if_pos rfl,if_pos rfl]
       ·simp only[if_neg h1]
     have hu:=wY (env:=env) (v:=AV.own ⟨x.site,σ.next⟩ 0 (len+rs.length)) (u:=v') F.dst
     show N (upd (upd env y.dst v') x.dst (.own ⟨x.site,σ.next⟩ 0 (len+rs.length))) ⟨bJ (cr (jk σ.get ⟨y.site,σ.next⟩ my) ⟨s,σ.next⟩) ⟨x.site,σ.next⟩ ⟨true,sz,r.rows++rs⟩,σ.next⟩
     rw[hgg,<-hu]
     exact hN
    ·cases hv
   ·exact h.elim
theorem Dm {ops:Array Oper} {vl:List aY} {bs:Array Nat} {listed:Array Bool} {i s:Nat} (h:ox ops vl bs listed i s=true) (j:Nat):ox ops vl bs (listed.setIfInBounds j true) i s=true:=by
 unfold ox at h ⊢
 split at h
 ·rename_i x hx
  simp only[List.all_eq_true,Bool.or_eq_true]at h ⊢
  intro k hk
  rcases h k hk with((h|h)|h)|h
  ·exact .inl (.inl (.inl (getD_set_true h)))
  ·exact .inl (.inl (.inr h))
  ·exact .inl (.inr h)
  ·exact .inr h
 ·cases h
theorem Bk {ops:Array Oper} {vl:List aY} {listed:Array Bool} {i j s:Nat} {vi:aY} (sb:DC ops listed) (h:ox ops vl (jC ops) listed i s=true) (hi:vl[i]? =some vi) (hr:i∈Region.ready .any ops listed) (hj:j∈Region.ready .any ops listed) (mE:j≠i):∃vj,vl[j]? =some vj/\E9 s vi vj=true:=by
 unfold ox at h
 rw[hi]at h
 simp only[List.all_eq_true,Bool.or_eq_true,beq_iff_eq]at h
 obtain⟨_,o,ho,_⟩:=mem_ready.1 hj
 rcases h j (List.mem_range.2 (Array.getElem?_eq_some_iff.1 ho).1)with((h|h)|h)|h
 ·rw[jc hj]at h;cases h
 ·exact absurd h mE
 ·have:=kY sb hj i h
  rw[jc hr]at this;cases this
 ·split at h
  ·rename_i y hy;exact⟨y,hy,h⟩
  ·cases h
theorem CG (hK:pP X) {ops:Array Oper} {vl:List aY} {K:Env->au->Prop} {i t s sz:Nat} {ys:O} {vi:aY} (hi:vl[i]? =some vi) (hx:vi.op=.append sz (.t t) ys) (hg:vi.guard=none):∀(fuel:Nat) (listed:Array Bool) (env:Env) (σ:au),
  DC ops listed->i∈Region.ready .any ops listed->ox ops vl (jC ops) listed i s=true->LL t s ys env σ.next->step X vi (fun e s=>AA X ops vl K fuel (listed.setIfInBounds i true) e s) env σ->AA X ops vl K (fuel+1) listed env σ:=by
 intro fuel
 induction fuel with
 |zero=>
  intro listed env σ sb hr kq PK H
  refine⟨fun h=>(by rw[h]at hr;cases hr),fun j hj=>?_⟩
  by_cases mE:j=i
  ·subst mE;exact⟨vi,hi,H⟩
  ·exfalso
   have h0:=ready_mono hj mE
   rw[sZ hg]at H
   unfold fU at H
   simp only[hx]at H
   split at H
   ·rw[H.1]at h0;cases h0
   ·exact H
 |succ fuel ih=>
  intro listed env σ sb hr kq PK H
  refine⟨fun h=>(by rw[h]at hr;cases hr),fun j hj=>?_⟩
  by_cases mE:j=i
  ·subst mE;exact⟨vi,hi,H⟩
  ·obtain⟨vj,Lx,QN⟩:=Bk sb kq hi hr hj mE
   refine⟨vj,Lx,?_⟩
   have H2:step X vi (fun e s=>step X vj (fun e s=>AA X ops vl K fuel ((listed.setIfInBounds i true).setIfInBounds j true) e s) e s) env σ:=jR hK (fun e s h=>by
    obtain⟨vj',zE,h'⟩:=h.2 j (ready_mono hj mE)
    rw[Lx]at zE;injection zE with zE;subst zE
    exact h') H
   refine jR hK (fun e s h=>?_) (Et hx hg QN PK H2)
   refine ih _ _ _ (sb.list hj) (ready_mono hr (fun e=>mE e.symm)) (Dm kq j) h.1 ?_
   rw[Array.setIfInBounds_comm _ _ mE]
   exact h.2
theorem Jk {ops:Array Oper} {vl:List aY} {bs:Array Nat} {listed:Array Bool} {i i' t s:Nat} {y:O} {vo:aY} (h:OG ops vl bs listed i=some (i',t,s,y,vo)):i'=i/\vl[i]? =some vo/\(∃sz,vo.op=.append sz (.t t) y)/\vo.guard=none/\ox ops vl bs listed i s=true:=by
 unfold OG at h
 split at h
 ·rename_i x hx
  split at h
  ·rename_i t' s' y' jM
   split at h
   ·rename_i hf
    simp only[Option.some.injEq,Prod.mk.injEq]at h
    obtain⟨rfl,rfl,rfl,rfl,rfl⟩:=h
    unfold M6 at jM
    split at jM
    ·rename_i sz t2 y2 ho uB
     split at jM
     ·simp only[Option.some.injEq,Prod.mk.injEq]at jM
      obtain⟨rfl,rfl,rfl⟩:=jM
      exact⟨rfl,hx,⟨sz,ho⟩,uB,hf⟩
     ·cases jM
    ·cases jM
   ·cases h
  ·cases h
 ·cases h
theorem xX {X:fE} {Q:Ex->Env->au->Prop} {env:Env} {σ:au}:∀{l:List VC} {t:VC},A5 l=some t->dG X t Q env σ->∀c∈l,dG X c Q env σ
 |[],t,h,_,c,hc=>by cases hc
 |[c0],t,h,hw,c,hc=>by
  simp only[A5,Option.some.injEq]at h
  subst h
  rw[List.mem_singleton]at hc
  subst hc;exact hw
 |c0::c1::r,t,h,hw,c,hc=>by
  simp only[A5,Option.map_eq_some_iff]at h
  obtain⟨t',HC,rfl⟩:=h
  rcases List.mem_cons.1 hc with rfl|hc
  ·exact hw.1
  ·exact xX HC hw.2 c hc
theorem mapM_mem {α β:Type} {f:α->Option β}:∀{l:List α} {r:List β},l.mapM f=some r->∀i∈l,∃b∈r,f i=some b
 |[],_,_,i,hi=>by cases hi
 |a::l,r,h,i,hi=>by
  simp only[List.mapM_cons,Option.bind_eq_bind,Option.bind_eq_some_iff,Option.pure_def,Option.some.injEq]at h
  obtain⟨b,hb,r',hr,rfl⟩:=h
  rcases List.mem_cons.1 hi with rfl|hi
  ·exact⟨b,by simp,hb⟩
  ·obtain⟨c,hc,hf⟩:=mapM_mem hr i hi
   exact⟨c,List.mem_cons_of_mem _ hc,hf⟩
theorem Hl (hK:pP X) {ops:Array Oper} {vl:List aY} {Q:Ex->Env->au->Prop}:∀(n:Nat) (listed:Array Bool) (t:VC) (env:Env) (σ:au),wW ops vl (jC ops) n listed=some t->DC ops listed->dG X t Q env σ->AA X ops vl (Q .normal) n listed env σ:=by
 intro n
 induction n with
 |zero=>
  intro listed t env σ h _ hw
  unfold wW at h
  split at h
  ·rename_i hr
   simp only[Option.some.injEq]at h
   subst h
   exact⟨hr,hw⟩
  ·cases h
 |succ n ih=>
  intro listed t env σ h sb hw
  unfold wW at h
  split at h
  ·rename_i hr
   simp only[Option.some.injEq]at h
   subst h
   exact⟨fun _=>hw,fun i hi=>by rw[hr]at hi;cases hi⟩
  ·rename_i r rs hr
   dsimp only at h
   split at h
   ·rename_i i hfind
    have Lg:=List.mem_of_find?_eq_some hfind
    have yi:=List.find?_some hfind
    rw[<-hr]at Lg
    split at h
    ·rename_i vo kG
     simp only[Option.map_eq_some_iff]at h
     obtain⟨t',HC,rfl⟩:=h
     exact EK hK kG n listed env σ sb Lg yi (jR hK (fun e s h=>ih _ _ _ _ HC (sb.list Lg) h) hw)
    ·cases h
   ·split at h
    ·rename_i i t s y vo hfind
     obtain⟨i0,Hy,dM⟩:=List.exists_of_findSome?_eq_some hfind
     obtain⟨rfl,kG,⟨sz,dY⟩,uB,Le⟩:=Jk dM
     rw[<-hr]at Hy
     simp only[Option.map_eq_some_iff]at h
     obtain⟨t',HC,rfl⟩:=h
     exact CG hK kG dY uB n listed env σ sb Hy Le hw.1 (jR hK (fun e s h=>ih _ _ _ _ HC (sb.list Hy) h) hw.2)
    split at h
    ·rename_i l hl
     have dJ:=xX h hw
     refine⟨fun h=>(by rw[h]at hr;cases hr),fun i hi=>?_⟩
     rw[hr]at hi
     obtain⟨b,Kv,Gg⟩:=mapM_mem hl i hi
     simp only[Option.bind_eq_some_iff,Option.map_eq_some_iff]at Gg
     obtain⟨vo,kG,t',HC,rfl⟩:=Gg
     exact⟨vo,kG,jR hK (fun e s h=>ih _ _ _ _ HC (sb.list (by rw[hr];exact hi)) h) (dJ _ Kv)⟩
    ·cases h
theorem EG {ops:Array Oper} {vl:List aY} {nt site0:Nat} {draw mk:Bool} {bs:Array Nat} {hidden:List (Nat×Bool)} {K:Env->au->Prop} {Q:Exit->Act->World->Prop} (dJ:allM (kN P ops nt site0 draw mk bs hidden) ops.toList 0=some vl):
  ∀(fuel:Nat) (listed:Array Bool) (env:Env) (σ:au) (a:Act) (w:World) (D:Nat->Prop) (ι:Names) (U:Nat->Prop),AA (Sound P) ops vl K fuel listed env σ->gn P hs D ι σ.get w->Used ι σ.next U->(∀s,U s->∃i,s=site0+i/\listed.getD i false=true)->bQ P w D ι env a->a.tmps.size=nt->
  (∀iG σ' a' w' D' ι',K iG σ'->Step hs D ι w D' ι' w'->St P hs nt D' ι' iG σ' a' w'->a'.defers=a.defers->σ.next<=σ'.next->Q .normal a' w')->wpAny P .any ops Q fuel listed a w:=by
 intro fuel
 induction fuel with
 |zero=>intro listed env σ a w D ι U h S Us hU E ft hQ;exact⟨h.1,hQ env _ a w D ι h.2 (Step.refl _ _ _ _) ⟨S,Us.next,E,ft⟩ rfl (Nat.le_succ _)⟩
 |succ fuel ih=>
  intro listed env σ a w D ι U h S Us hU E ft hQ
  refine⟨fun hr=>hQ env _ a w D ι (h.1 hr) (Step.refl _ _ _ _) ⟨S,Us.next,E,ft⟩ rfl (Nat.le_succ _),fun i hi=>?_⟩
  obtain⟨vo,kG,hG⟩:=h.2 i hi
  obtain⟨_,o,ho,_⟩:=mem_ready.1 hi
  obtain⟨vo',mh,QD⟩:=(oi dJ).2 i o (by simpa using ho)
  rw[kG]at mh;injection mh with mh;subst mh
  rw[Nat.zero_add]at QD
  obtain⟨hc,hd,BI,xx,hg⟩:=o8 QD
  have hw:=tb (ops:=ops) (vo:=vo) E hg
  have TF:¬U vo.site:=fun hu=>by
   obtain⟨i',he,hl⟩:=hU _ hu
   have:i'=i:=by omega
   subst this
   rw[jc hi]at hl;cases hl
  have jD:i<listed.size:=by
   have h0:=(mem_ready.1 hi).1
   rcases Nat.lt_or_ge i listed.size with h|h
   ·exact h
   ·simp[Array.getElem?_eq_none h]at h0
  unfold wpOp
  simp only[ho]
  rw[<-hw]
  unfold step at hG
  by_cases Gq:aL vo.guard env=true
  ·rw[if_pos Gq]
   rw[if_pos Gq]at hG
   refine .inl (yY hc hG S Us TF E fun v σ' u D' ι' w' hn T S' hR U' hle=>?_)
   refine ih _ _ _ _ w' D' ι' _ hn S' U' (fun s BF=>?_) (by rw[hd];exact iq (ow E T) hR xx ft) (by rw[eX];exact ft) fun iG σ2 a2 w2 D2 ι2 hk T2 Ox Dx mU=>hQ iG σ2 a2 w2 D2 ι2 hk (T.trans T2) Ox (Dx.trans (put_defers _ _ _)) (Nat.le_trans hle mU)
   rcases BF with h|h
   ·obtain⟨i',he,hl⟩:=hU _ h
    exact⟨i',he,getD_set_true hl⟩
   ·exact⟨i,by rw[h,BI],by simp[jD]⟩
  ·rw[if_neg Gq]
   rw[if_neg Gq]at hG
   refine ih _ _ _ _ w D ι U hG S Us (fun s BF=>?_) (by rw[hd];exact iq E cE.undef xx ft) (by rw[eX];exact ft) fun iG σ2 a2 w2 D2 ι2 hk T2 Ox Dx mU=>hQ iG σ2 a2 w2 D2 ι2 hk T2 Ox (Dx.trans (put_defers _ _ _)) mU
   obtain⟨i',he,hl⟩:=hU _ BF
   exact⟨i',he,getD_set_true hl⟩
end
end Go.Proofs.YtgoelphibofcmaaGreat.V

namespace Go.Proofs.YtgoelphibofcmaaGreat.V
open Go.RowKit
variable {P:Program} {w w':World} {D D' D2:Nat->Prop} {ι ι' ι2:Names}
def AG (P:Program) (c:Code) (Q:Exit->Act->World->Prop) (a:Act) (w:World):Prop:=
 ∀(b:Frame) (k:List Item) (cs:List Frame),b.kind≠.early->∃e a' w',Q e a' w'/\Arrives P (lone (b.at a (.code c::k)) cs w) b k cs e a' w'
section
variable {Q:Exit->Act->World->Prop} {a:Act}
theorem kf {c:Code} (h:c.wp P Q a w):AG P c Q a w:=fun b k cs _=>h b k cs
theorem lJ {x y:Code} (h:AG P x (Exit.then (AG P y Q) Q) a w):AG P (.seq x y) Q a w:=by
 intro b k cs hb
 obtain⟨e,a1,w1,hq,jL⟩:=h b (.code y::k) cs hb
 by_cases he:e=.normal
 ·subst he
  obtain⟨e2,a2,w2,ue,IA⟩:=hq b k cs hb
  exact⟨e2,a2,w2,ue,.of_steps (.head step_seq jL) IA⟩
 ·refine⟨e,a1,w1,?_,.of_steps (.one step_seq) (.pass (x:=.code y) rfl (fun _ _=>.inl he) jL)⟩
  cases e<;>first|exact absurd rfl he|exact hq
theorem wh {c:Operand} {x y:Code} {t:Bool} (hc:a.eval c=.bool t) (h:AG P (if t then x else y) Q a w):AG P (.cond c x y) Q a w:=
 fun b k cs hb=>let ⟨e,a',w',q,r⟩:=h b k cs hb;⟨e,a',w',q,.of_steps (.one (step_cond hc)) r⟩
theorem sS {id:Nat} {c:Code} (h:AG P c (Exit.inBlock id Q) a w):AG P (.block id c) Q a w:=by
 intro b k cs hb
 obtain⟨e,a1,w1,hq,jL⟩:=h b (.inBlock id::k) cs hb
 cases e with
 |normal=>exact⟨.normal,a1,w1,hq,.head step_block (Steps.trans jL (.one step_inBlock))⟩
 |exit jU=>
  by_cases hid:jU=id
  ·simp only[Exit.inBlock,hid,if_true]at hq
   exact⟨.normal,a1,w1,hq,.head step_block (jL k (by simp[exitTo,hid]))⟩
  ·simp only[Exit.inBlock,hid,if_false]at hq
   exact⟨.exit jU,a1,w1,hq,fun k' hk=>.head step_block (jL k' (by simp[exitTo,Ne.symm hid,hk]))⟩
 |goto l=>exact⟨_,a1,w1,hq,fun k' hk=>.head step_block (jL k' (by simp[gotoIn,hk]))⟩
 |ret=>exact⟨_,a1,w1,hq,.of_steps (.one step_block) jL⟩
 |panic ch=>exact⟨_,a1,w1,hq,.of_steps (.one step_block) jL⟩
 |outgrown=>exact⟨_,a1,w1,hq,.of_steps (b:=b) (k:=k) (cs:=cs) (e:=.outgrown) (.one step_block) jL⟩
def pe (P:Program) (c:Code) (Q:Exit->Act->World->Prop):Nat->Act->World->Prop
 |0=>fun _ _=>False
 |n+1=>AG P c (Exit.then (pe P c Q n) Q)
theorem Cj {c:Code} (n:Nat) (h:pe P c Q n a w):AG P (.loop c) Q a w:=by
 intro b k cs hb
 have key:∀n a w,pe P c Q n a w->∃e a' w',Q e a' w'/\Arrives P (lone (b.at a (.code c::.inLoop c::k)) cs w) b k cs e a' w':=by
  intro n
  induction n with
  |zero=>intro a w h;exact h.elim
  |succ n ih=>
   intro a w h
   obtain⟨e,a1,w1,hq,jL⟩:=h b (.inLoop c::k) cs hb
   by_cases he:e=.normal
   ·subst he
    obtain⟨e2,a2,w2,ue,IA⟩:=ih a1 w1 hq
    exact⟨e2,a2,w2,ue,.of_steps (Steps.trans jL (.one step_inLoop)) IA⟩
   ·refine⟨e,a1,w1,?_,.pass (x:=.inLoop c) rfl (fun _ _=>.inl he) jL⟩
    cases e<;>first|exact absurd rfl he|exact hq
 obtain⟨e,a',w',hq,jL⟩:=key n a w h
 exact⟨e,a',w',hq,.of_steps (.one step_loop) jL⟩
theorem ze {f:FuncId} {fn:Func} {c:Code} {args:Array Value} {R:Ending->World->Prop} (hf:P.funcs[f]? =some fn) (hb:fn.body=some c)
  (h:AG P c (bodyPost P fn R) {tmps:=args++Array.replicate (fn.ntmps-args.size) undef,defers:=[]} w):Calls P f args w R:=by
 intro cs
 have N7:Frame.enter P f args .normal=({(default:Frame)with fn:=f,kind:=.normal}:Frame).at {tmps:=args++Array.replicate (fn.ntmps-args.size) undef,defers:=[]} [.code c]:=by simp[Frame.enter,Frame.at,hf,hb]
 obtain⟨e,a',w',hq,jL⟩:=h {(default:Frame)with fn:=f,kind:=.normal} [] cs (by simp)
 rw[<-N7]at jL
 cases e with
 |normal=>obtain⟨hd,v,hr,hR⟩:=hq;exact⟨.returned v,w',_,hR,Steps.trans jL (.one step_end),rfl,rfl,hd,rfl,fn,hf,hr⟩
 |ret=>obtain⟨hd,v,hr,hR⟩:=hq;obtain⟨todo,hs⟩:=jL;exact⟨.returned v,w',_,hR,hs,rfl,rfl,hd,rfl,fn,hf,hr⟩
 |panic chain=>obtain⟨hd,hR⟩:=hq;obtain⟨todo,hs⟩:=jL;exact⟨.panicked chain,w',_,hR,hs,rfl,rfl,hd,fn,hf⟩
 |exit id=>exact hq.elim
 |goto l=>exact hq.elim
 |outgrown=>exact⟨.outgrown,w',{(default:Frame)with fn:=f,kind:=.normal},hq,jL.resolve_left (by simp),rfl,trivial⟩
def xh (P:Program) (ops:Array Oper) (Q:Exit->Act->World->Prop) (l:List Nat) (a:Act) (w:World):Prop:=
 ∀(b:Frame) (k:List Item) (cs:List Frame),b.kind≠.early->∃e a' w',Q e a' w'/\Arrives P (lone (b.at a (.inRegion ops l::k)) cs w) b k cs e a' w'
theorem D9 {id:Nat} {ops:Array Oper} (h:xh P ops Q (List.range ops.size) a w):AG P (.region id ops false) Q a w:=
 fun b k cs hb=>let ⟨e,a',w',q,r⟩:=h b k cs hb;⟨e,a',w',q,.of_steps (.one step_region) r⟩
theorem OO {ops:Array Oper} (h:Q .normal a w):xh P ops Q [] a w:=fun _ _ _ _=>⟨.normal,a,w,h,.one step_region_end⟩
theorem oW {o:Oper} {ys:Nat->Option Bool} (h:o.guard=none):Region.wanted o ys=true:=by simp[Region.wanted,h]
theorem JA {ops:Array Oper} {i:Nat} {rest:List Nat} {o:Oper} {v:Value} (ho:ops[i]? =some o) (hg:o.guard=none) (hr:(execOp a.eval o).run P w=.ok (.value v) w') (h:xh P ops Q rest (a.put o.dst v) w'):xh P ops Q (i::rest) a w:=by
 intro b k cs hb
 obtain⟨e,a',w2,hq,jL⟩:=h b k cs hb
 refine⟨e,a',w2,hq,.of_steps (.one ?_) jL⟩
 have sH:(b.at a (.inRegion ops (i::rest)::k)).finish v=b.at (a.put o.dst v) (.inRegion ops rest::k):=by rw[Frame.finish_at,ho];rfl
 rw[<-sH]
 refine step_lone_go ?_
 have h2:=stepG_op (P:=P) (b:=b) (k:=k) (cs:=cs) (w:=w) (rest:=rest) ho (oW hg (ys:=yielded ops a.tmps))
 rw[h2];simp[stepG.apply,hr]
theorem L1 {ops:Array Oper} {i:Nat} {rest:List Nat} {o:Oper} {v z:Value} {c cap s r:Nat} {buf:Array Value} (ho:ops[i]? =some o) (hg:o.guard=none) (hr:(execOp a.eval o).run P w=.ok (.comm #[Conc.scase c v z] true .send) w)
  (hc:w.heap[c]? =some (.chan cap buf false s r false)) (fS:buf.size<cap) (h:xh P ops Q rest (a.put o.dst undef) (w.setChan c cap (buf.push v) false (s+1) r false)):xh P ops Q (i::rest) a w:=by
 intro b k cs hb
 obtain⟨e,a',w2,hq,jL⟩:=h b k cs hb
 refine⟨e,a',w2,hq,.of_steps (.one ?_) jL⟩
 have sH:(b.at a (.inRegion ops (i::rest)::k)).finish undef=b.at (a.put o.dst undef) (.inRegion ops rest::k):=by rw[Frame.finish_at,ho];rfl
 rw[<-sH,Conc.lone_eq_solo,Conc.lone_eq_solo]
 exact Conc.step_lone_send_room (Conc.stepG_comm ho (oW hg) hb hr) hc fS
theorem L0 {ops:Array Oper} {i:Nat} {rest:List Nat} {o:Oper} {z:Value} {c cap s r:Nat} {buf:Array Value} (ho:ops[i]? =some o) (hg:o.guard=none) (hr:(execOp a.eval o).run P w=.ok (.comm #[Conc.rcase c z] true (.recv false)) w)
  (hc:w.heap[c]? =some (.chan cap buf false s r false)) (I3:0<buf.size) (h:xh P ops Q rest (a.put o.dst (buf.getD 0 undef)) (w.setChan c cap (buf.extract 1 buf.size) false s (r+1) false)):xh P ops Q (i::rest) a w:=by
 intro b k cs hb
 obtain⟨e,a',w2,hq,jL⟩:=h b k cs hb
 refine⟨e,a',w2,hq,.of_steps (.one ?_) jL⟩
 have sH:(b.at a (.inRegion ops (i::rest)::k)).finish (buf.getD 0 undef)=b.at (a.put o.dst (buf.getD 0 undef)) (.inRegion ops rest::k):=by rw[Frame.finish_at,ho];rfl
 rw[<-sH,Conc.lone_eq_solo,Conc.lone_eq_solo]
 exact Conc.step_lone_recv_buf false (Conc.stepG_comm ho (oW hg) hb hr) hc I3
end
section
variable {hs:Nat} {g:Rows} {env:Env} {a:Act} {o:Oper}
theorem LG {x y:O} (hc:qM P o.op=some (.snd x y)):∃x' y',o.op=.send x' y'/\cO P x'=some x/\cO P y'=some y:=by
 unfold qM at hc
 split at hc
 case h_25=>
  rename_i x' y' h
  simp only[Option.bind_eq_bind,Option.bind_eq_some_iff,Option.pure_def,Option.some.injEq,gu.snd.injEq]at hc
  obtain⟨p,h1,q,h2,rfl,rfl⟩:=hc
  exact⟨_,_,h,h1,h2⟩
 all_goals (try unfold nB at hc)<;>(try unfold uY at hc)<;>(try unfold so at hc)<;>(repeat' (split at hc))<;>(simp only[Option.bind_eq_bind,Option.bind_eq_some_iff,Option.pure_def,Option.some.injEq,Option.map_eq_some_iff,reduceCtorEq,and_false,exists_false]at hc)
theorem LF {x:O} (hc:qM P o.op=some (.OS x)):∃t dir e i z x',o.op=.recv t x' false/\P.underlying t=some (.chan dir e)/\P.info? e=some i/\i.zero=some z/\cO P x'=some x:=by
 unfold qM at hc
 split at hc
 case h_26=>
  rename_i t x' h
  split at hc
  ·rename_i dir e ht
   split at hc
   ·rename_i z hz
    simp only[Option.bind_eq_some_iff]at hz
    obtain⟨i,hi,hz⟩:=hz
    simp only[Option.map_eq_some_iff,gu.OS.injEq]at hc
    obtain⟨p,h1,rfl⟩:=hc
    exact⟨t,dir,e,i,z,x',h,ht,hi,hz,h1⟩
   ·cases hc
  ·cases hc
 all_goals (try unfold nB at hc)<;>(try unfold uY at hc)<;>(try unfold so at hc)<;>(repeat' (split at hc))<;>(simp only[Option.bind_eq_bind,Option.bind_eq_some_iff,Option.pure_def,Option.some.injEq,Option.map_eq_some_iff,reduceCtorEq,and_false,exists_false]at hc)
theorem Ql {x y:O} {g':Rows} (S:gn P hs D ι g w) (hc:qM P o.op=some (.snd x y)) (E:bQ P w D ι env a) (hv:eB g (cK env x) (cK env y)=some g'):
  ∃c cap s r buf u,(execOp a.eval o).run P w=.ok (.comm #[Conc.scase c u (.tuple #[])] true .send) w/\w.heap[c]? =some (.chan cap buf false s r false)/\buf.size<cap/\gn P hs D ι g' (w.setChan c cap (buf.push u) false (s+1) r false)/\Step hs D ι w D ι (w.setChan c cap (buf.push u) false (s+1) r false):=by
 obtain⟨x',y',ho,hx,hy⟩:=LG hc
 have rx:=dm E hx
 have ry:=dm E hy
 unfold eB at hv
 split at hv
 ·rename_i i he
  simp only[Option.bind_eq_some_iff]at hv
  obtain⟨r,hg,hv⟩:=hv
  split at hv
  ·rename_i hcond
   simp only[Option.some.injEq]at hv
   subst hv
   obtain⟨B,c,hu,hB,hk,ft,buf,s,q,hb,Kw,hR⟩:=zf S rx he hg
   obtain⟨B',dC,RR,_⟩:=S.row i r hg
   rw[hB]at dC;injection dC with dC;subst dC
   have nP:=S.Hm (ob:=.chan c (buf.push (a.eval y')) false (s+1) q false) (r':={r with rows:=r.rows++[[cK env y]]}) hg hcond.1 hB fun hr ke=>⟨RR.sz,fun cs dw=>?_,fun h0=>(by rw[hk]at h0;cases h0),fun m hm=>(by rw[hk]at hm;cases hm),fun c' kR=>?_⟩
   ·exact⟨B.b,c,s,q,buf,a.eval y',by simp[execOp,ho,hu,Conc.scase],hb,by rw[Kw];omega,nP.1,nP.2⟩
   ·rcases List.mem_append.1 dw with h|h
    ·exact RR.flat cs h
    ·rw[List.mem_singleton.1 h]
     intro b sG
     rw[List.mem_singleton.1 sG];exact hcond.2.2
   ·rw[hk]at kR
    simp only[Option.some.injEq,BK.chan.injEq]at kR
    subst kR
    refine⟨ft,_,_,_,ke,by simp[Kw],fun j cs hj=>?_⟩
    rw[List.getElem?_append]at hj
    split at hj
    ·rename_i dM
     obtain⟨b,u,q1,q2,q3⟩:=hR j cs hj
     refine⟨b,u,q1,?_,hr _ _ q3⟩
     rw[Array.getElem?_push,if_neg (by omega)];exact q2
    ·rename_i qq
     have gR:j=r.rows.length:=by
      have:=(List.getElem?_eq_some_iff.1 hj).1
      simp at this;omega
     subst gR
     simp at hj
     subst hj
     exact⟨_,_,rfl,by rw[Array.getElem?_push,if_pos Kw.symm],hr _ _ ry⟩
  ·cases hv
 ·cases hv
theorem Qk {x:O} {g':Rows} {v:AV} (S:gn P hs D ι g w) (hc:qM P o.op=some (.OS x)) (E:bQ P w D ι env a) (hv:eA g (cK env x)=some (v,g')):
  ∃c cap s r buf z,(execOp a.eval o).run P w=.ok (.comm #[Conc.rcase c z] true (.recv false)) w/\w.heap[c]? =some (.chan cap buf false s r false)/\0<buf.size/\gn P hs D ι g' (w.setChan c cap (buf.extract 1 buf.size) false s (r+1) false)/\Step hs D ι w D ι (w.setChan c cap (buf.extract 1 buf.size) false s (r+1) false)/\cE P (w.setChan c cap (buf.extract 1 buf.size) false s (r+1) false) D ι v (buf.getD 0 undef):=by
 obtain⟨t,dir,e,i0,z,x',ho,ht,hi,hz,hx⟩:=LF hc
 have rx:=dm E hx
 unfold eA at hv
 split at hv
 ·rename_i i he
  simp only[Option.bind_eq_some_iff]at hv
  obtain⟨r,hg,hv⟩:=hv
  split at hv
  ·rename_i v' rest rn
   split at hv
   ·rename_i hcond
    simp only[Option.some.injEq,Prod.mk.injEq]at hv
    obtain⟨rfl,rfl⟩:=hv
    obtain⟨B,c,hu,hB,hk,ft,buf,s,q,hb,Kw,hR⟩:=zf S rx he hg
    obtain⟨B',dC,RR,_⟩:=S.row i r hg
    rw[hB]at dC;injection dC with dC;subst dC
    obtain⟨b0,u0,q1,q2,q3⟩:=hR 0 [v'] (by rw[rn];rfl)
    simp only[List.cons.injEq,and_true]at q1
    subst q1
    have lp:0<buf.size:=by rw[Kw,rn];simp
    have SI:buf.getD 0 undef=u0:=by rw[Array.getD_eq_getD_getElem?,q2];rfl
    have nP:=S.Hm (ob:=.chan c (buf.extract 1 buf.size) false s (q+1) false) (r':={r with rows:=rest}) hg hcond hB fun hr ke=>⟨RR.sz,fun cs dw=>RR.flat cs (by rw[rn];exact List.mem_cons_of_mem _ dw),fun h0=>(by rw[hk]at h0;cases h0),fun m hm=>(by rw[hk]at hm;cases hm),fun c' kR=>?_⟩
    ·refine⟨B.b,c,s,q,buf,z,?_,hb,lp,nP.1,nP.2,?_⟩
     ·have pV:(zeroValue e).run P w=.ok z w:=by simp[zeroValue,typeInfo,hi,hz]
      simp[execOp,ho,hu,Conc.rcase,run_underlying ht,pV]
     ·rw[SI];exact nP.2.rep q3
    ·rw[hk]at kR
     simp only[Option.some.injEq,BK.chan.injEq]at kR
     subst kR
     refine⟨ft,_,_,_,ke,by simp[Kw,rn],fun j cs hj=>?_⟩
     obtain⟨b,u,k1,k2,k3⟩:=hR (j+1) cs (by rw[rn];simpa using hj)
     refine⟨b,u,k1,?_,hr _ _ k3⟩
     have dM:=(Array.getElem?_eq_some_iff.1 k2).1
     rw[Array.getElem?_extract,if_pos (by omega),Nat.add_comm 1 j];exact k2
   ·cases hv
  ·cases hv
 ·cases hv
theorem F1 {ops:Array Oper} {nt site0:Nat} {K:Env->au->Prop} {Q:Exit->Act->World->Prop}:∀(l:List Oper) (vl:List aY) (j:Nat) (env:Env) (σ:au) (a:Act) (w:World) (D:Nat->Prop) (ι:Names),
  ops.toList.drop j=l->allM (kN P ops nt site0 false false #[] []) l j=some vl->cD vl K env σ->gn P hs D ι σ.get w->Used ι σ.next (fun _=>False)->bQ P w D ι env a->a.tmps.size=nt->
  (∀iG σ' a' w' D' ι',K iG σ'->Step hs D ι w D' ι' w'->St P hs nt D' ι' iG σ' a' w'->a'.defers=a.defers->σ.next<=σ'.next->Q .normal a' w')->xh P ops Q (List.range' j l.length) a w:=by
 intro l
 induction l with
 |nil=>
  intro vl j env σ a w D ι _ h hv S Us E ft hQ
  simp[allM]at h;subst h
  exact OO (hQ env ⟨σ.get,σ.next+1⟩ a w D ι hv (Step.refl _ _ _ _) ⟨S,Us.next,E,ft⟩ rfl (Nat.le_succ _))
 |cons o l ih=>
  intro vl j env σ a w D ι hl h hv S Us E ft hQ
  simp only[allM,Option.bind_eq_bind,Option.bind_eq_some_iff,Option.pure_def,Option.some.injEq]at h
  obtain⟨vo,kG,ta,sg,rfl⟩:=h
  obtain⟨hc,hd,BI,xx,hg⟩:=o8 kG
  obtain⟨QS,hv⟩:=hv
  have Um:o.guard=none:=by
   split at hg
   ·assumption
   ·obtain⟨t,_,h⟩:=hg
    rw[QS]at h;cases h
  have Un:ops[j]? =some o:=by
   have h0:=congrArg (fun x=>x[0]?) hl
   rw[<-Array.getElem?_toList]
   simpa[List.getElem?_drop]using h0
  have KC:ops.toList.drop (j+1)=l:=by rw[<-List.drop_drop,hl];rfl
  have go:∀(v:AV) (u:Value) (g2:Rows) (w2:World),cD ta K (upd env vo.dst v) ⟨g2,σ.next⟩->gn P hs D ι g2 w2->Step hs D ι w D ι w2->cE P w2 D ι v u->xh P ops Q (List.range' (j+1) l.length) (a.put o.dst u) w2:=fun v u g2 w2 hn S2 T hR=>
   ih ta (j+1) (upd env vo.dst v) ⟨g2,σ.next⟩ (a.put o.dst u) w2 D ι KC sg hn S2 Us (by rw[hd];exact iq (ow E T) hR xx ft) (by rw[eX];exact ft) fun iG σ2 a' w3 D3 ι3 hk T2 Nn Dx mU=>hQ iG σ2 a' w3 D3 ι3 hk (T.trans T2) Nn (Dx.trans (put_defers _ _ _)) mU
  rw[show List.range' j (o::l).length=j::List.range' (j+1) l.length from rfl]
  split at hv
  ·rename_i x y dY
   split at hv
   ·rename_i g2 PT
    rw[dY]at hc
    obtain⟨c,cap,s,r,buf,u,fZ,hb,fS,S2,T⟩:=Ql S hc E PT
    exact L1 Un Um fZ hb fS (go _ _ _ _ hv S2 T cE.undef)
   ·exact hv.elim
  ·rename_i x dY
   split at hv
   ·rename_i v g2 PT
    rw[dY]at hc
    obtain⟨c,cap,s,r,buf,z,fZ,hb,I3,S2,T,hR⟩:=Qk S hc E PT
    exact L0 Un Um fZ hb I3 (go _ _ _ _ hv S2 T hR)
   ·exact hv.elim
  ·split at hv
   ·rename_i v hq
    obtain⟨u,fZ,hR⟩:=yP hc hq S E
    exact JA Un Um fZ (go _ _ _ _ hv S (Step.refl _ _ _ _) hR)
   ·exact hv.elim
end
end Go.Proofs.YtgoelphibofcmaaGreat.V

namespace Go.Proofs.YtgoelphibofcmaaGreat.V
open Go.RowKit
variable {P:Program} {w w':World} {D D' D2:Nat->Prop} {ι ι' ι2:Names}
section
variable {hs:Nat} {X:fE}
def R6:Ex->Exit
 | .normal=>.normal
 | .exit id=>.exit id
 | .ret=>.ret
theorem St.drew {nt:Nat} {env:Env} {σ:au} {a:Act} {D:Nat->Prop} {ι:Names} (h:St P hs nt D ι env σ a w):St P hs nt D ι env σ a w.drew/\Step hs D ι w D ι w.drew:=by
 have T:Step hs D ι w D ι w.drew:=Step.stay h.sY (fun _ _=>rfl) (Nat.le_refl _) rfl rfl rfl (fun _ h=>h) (fun _ h=>.inl h) (fun _ _ h=>h)
 exact⟨⟨h.sY.stay (fun _ _=>rfl) (Nat.le_refl _) (fun _ h=>h) h.sY.dead (fun _ h=>.inl h) (fun _ _ h=>h),h.used,ow h.env T,h.size⟩,T⟩
def tf (P:Program) (hs nt:Nat) (ds:List Deferred) (Q:Ex->Env->au->Prop) (n0:Nat) (D:Nat->Prop) (ι:Names) (w:World) (Q':Exit->Act->World->Prop):Prop:=
 ∀ex env σ a w' D' ι',Q ex env σ->Step hs D ι w D' ι' w'->St P hs nt D' ι' env σ a w'->a.defers=ds->n0<=σ.next->Q' (R6 ex) a w'
theorem tf.later {nt:Nat} {ds:List Deferred} {Q:Ex->Env->au->Prop} {n0 n1:Nat} {Q':Exit->Act->World->Prop} (h:tf P hs nt ds Q n0 D ι w Q') (T:Step hs D ι w D' ι' w') (hn:n0<=n1):tf P hs nt ds Q n1 D' ι' w' Q':=
 fun ex env σ a w2 D2 ι2 hq T2 dB hd hle=>h ex env σ a w2 D2 ι2 hq (T.trans T2) dB hd (Nat.le_trans hn hle)
theorem qf (hm:P.follows .mixedOrders=true) {md:List (Nat×Nat)} {nt fid:Nat}:∀(c:Code) (vc:VC),jn P md nt fid c=some vc->∀(Q:Ex->Env->au->Prop) (env:Env) (σ:au) (a:Act) (w:World) (D:Nat->Prop) (ι:Names) (Q':Exit->Act->World->Prop),
  dG (Sound P) vc Q env σ->St P hs nt D ι env σ a w->tf P hs nt a.defers Q σ.next D ι w Q'->AG P c Q' a w:=by
 intro c
 induction c with
 |skip=>
  intro vc h Q env σ a w D ι Q' hv dB hQ
  simp[jn]at h;subst h
  exact kf <| wp_skip (hQ .normal env σ a w D ι hv (Step.refl _ _ _ _) dB rfl (Nat.le_refl _))
 |exit id=>
  intro vc h Q env σ a w D ι Q' hv dB hQ
  simp[jn]at h;subst h
  exact kf <| wp_exit (hQ (.exit id) env σ a w D ι hv (Step.refl _ _ _ _) dB rfl (Nat.le_refl _))
 |ret=>
  intro vc h Q env σ a w D ι Q' hv dB hQ
  simp[jn]at h;subst h
  exact kf <| wp_ret (hQ .ret env σ a w D ι hv (Step.refl _ _ _ _) dB rfl (Nat.le_refl _))
 |seq x y ihx ihy=>
  intro vc h Q env σ a w D ι Q' hv dB hQ
  simp only[jn,Option.bind_eq_bind,Option.bind_eq_some_iff,Option.pure_def,Option.some.injEq]at h
  obtain⟨vx,hx,vy,hy,rfl⟩:=h
  refine lJ (ihx vx hx _ env σ a w D ι _ hv dB fun ex je σ1 a1 w1 D1 ι1 hq T j4 hd hle=>?_)
  cases ex with
  |normal=>exact ihy vy hy Q je σ1 a1 w1 D1 ι1 Q' hq j4 (by rw[hd];exact hQ.later T hle)
  |exit id=>exact hQ (.exit id) je σ1 a1 w1 D1 ι1 hq T j4 hd hle
  |ret=>exact hQ .ret je σ1 a1 w1 D1 ι1 hq T j4 hd hle
 |cond c x y ihx ihy=>
  intro vc h Q env σ a w D ι Q' hv dB hQ
  simp only[jn,Option.bind_eq_bind,Option.bind_eq_some_iff,Option.pure_def,Option.some.injEq]at h
  obtain⟨c',hc,vx,hx,vy,hy,rfl⟩:=h
  unfold dG at hv
  have hr:=dm dB.env hc
  split at hv
  ·rename_i b hb
   rw[hb]at hr
   refine wh (e9 hr) ?_
   cases b with
   |true=>exact ihx vx hx Q env σ a w D ι Q' hv dB hQ
   |false=>exact ihy vy hy Q env σ a w D ι Q' hv dB hQ
  ·exact hv.elim
 |block id c ih=>
  intro vc h Q env σ a w D ι Q' hv dB hQ
  simp only[jn,Option.map_eq_some_iff]at h
  obtain⟨vx,hx,rfl⟩:=h
  refine sS (ih vx hx _ env σ a w D ι _ hv dB fun ex je σ1 a1 w1 D1 ι1 hq T j4 hd hle=>?_)
  cases ex with
  |normal=>exact hQ .normal je σ1 a1 w1 D1 ι1 hq T j4 hd hle
  |ret=>exact hQ .ret je σ1 a1 w1 D1 ι1 hq T j4 hd hle
  |exit jU=>
   simp only[aZ]at hq
   simp only[R6,Exit.inBlock]
   by_cases hid:jU=id
   ·rw[if_pos hid]at hq ⊢;exact hQ .normal je σ1 a1 w1 D1 ι1 hq T j4 hd hle
   ·rw[if_neg hid]at hq ⊢;exact hQ (.exit jU) je σ1 a1 w1 D1 ι1 hq T j4 hd hle
 |loop c ih=>
  intro vc h Q env σ a w D ι Q' hv dB hQ
  simp only[jn,Option.map_eq_some_iff]at h
  obtain⟨vx,hx,rfl⟩:=h
  obtain⟨n,hv⟩:=hv
  refine Cj n ?_
  have key:∀n env σ a w D ι,Fx (dG (Sound P) vx) Q n env σ->St P hs nt D ι env σ a w->tf P hs nt a.defers Q σ.next D ι w Q'->pe P c Q' n a w:=by
   intro n
   induction n with
   |zero=>intro env σ a w D ι h;exact h.elim
   |succ n ihn=>
    intro env σ a w D ι h dB hQ
    refine ih vx hx _ env σ a w D ι _ h dB fun ex je σ1 a1 w1 D1 ι1 hq T j4 hd hle=>?_
    cases ex with
    |normal=>exact ihn je σ1 a1 w1 D1 ι1 hq j4 (by rw[hd];exact hQ.later T hle)
    |exit id=>exact hQ (.exit id) je σ1 a1 w1 D1 ι1 hq T j4 hd hle
    |ret=>exact hQ .ret je σ1 a1 w1 D1 ι1 hq T j4 hd hle
  exact key n env σ a w D ι hv dB hQ
 |region id ops draw=>
  intro vc h Q env σ a w D ι Q' hv dB hQ
  simp only[jn,Qj]at h
  split at h
  ·rename_i hmode
   have TU:draw=true:=by
    simp only[Bool.and_eq_true]at hmode;exact hmode.1
   subst TU
   split at h
   ·rename_i vl dJ
    obtain⟨rq,T0⟩:=dB.drew
    have Dv:=Hl (X:=Sound P) kJ ops.size _ vc env σ h (fun k i h=>by
     exfalso
     rcases Nat.lt_or_ge k ops.size with hk|hk
     ·simp[hk]at h
     ·simp[Nat.not_lt.2 hk]at h) hv
    refine kf (wp_region_any hm ?_)
    exact EG dJ ops.size _ env σ a w.drew D ι (fun _=>False) Dv rq.sY rq.used (fun _ h=>h.elim) rq.env rq.size fun je σ1 a1 w1 D1 ι1 hk T j4 hd hle=>hQ .normal je σ1 a1 w1 D1 ι1 hk (T0.trans T) j4 hd hle
   ·cases h
  split at h
  ·rename_i hcom
   have TU:draw=false:=by
    simp only[Bool.and_eq_true,Bool.not_eq_true']at hcom;exact hcom.1
   subst TU
   simp only[Option.map_eq_some_iff]at h
   obtain⟨vl,sg,rfl⟩:=h
   have dJ:allM (kN P ops nt ((fid*1000+id)*1000) false false #[] []) ops.toList 0=some vl:=by
    unfold q9 at sg
    simp only[Bool.false_eq_true,if_false,Bool.not_false,Bool.true_or,if_true]at sg
    split at sg
    ·rename_i ta h;simp at sg;subst sg;exact h
    ·cases sg
   refine D9 ?_
   have:=F1 (Q:=Q') ops.toList vl 0 env σ a w D ι rfl dJ hv dB.sY dB.used dB.env dB.size fun je σ1 a1 w1 D1 ι1 hk T j4 hd hle=>hQ .normal je σ1 a1 w1 D1 ι1 hk T j4 hd hle
   rwa [<-List.range_eq_range',Array.length_toList]at this
  generalize (wb md id==1)=mk at h
  simp only[Option.map_eq_some_iff]at h
  obtain⟨vl,sg,rfl⟩:=h
  cases draw with
  |false=>
   have dJ:∃ta,allM (kN P ops nt ((fid*1000+id)*1000) false mk #[] []) ops.toList 0=some ta/\vl=ta:=by
    unfold q9 at sg
    simp only[Bool.false_eq_true,if_false,Bool.not_false,Bool.true_or,if_true]at sg
    split at sg
    ·rename_i ta h;simp at sg;exact⟨ta,h,sg.symm⟩
    ·cases sg
   obtain⟨ta,dJ,rfl⟩:=dJ
   refine kf (wp_region_list ?_)
   exact yM ops.toList vl 0 env σ a w D ι (fun _=>False) dJ hv dB.sY dB.used (fun _ h=>h.elim) dB.env dB.size fun je σ1 a1 w1 D1 ι1 hk T j4 hd hle=>hQ .normal je σ1 a1 w1 D1 ι1 hk T j4 hd hle
  |true=>
   have dJ:∃hidden ta,allM (kN P ops nt ((fid*1000+id)*1000) true mk (jC ops) hidden) ops.toList 0=some ta/\vl=ta/\ou ops ta (jC ops)=true:=by
    unfold q9 at sg
    simp only[if_true,Bool.not_true,Bool.false_or]at sg
    split at sg
    ·rename_i ta h
     split at sg
     ·rename_i vO;simp at sg;exact⟨_,ta,h,sg.symm,vO⟩
     ·cases sg
    ·cases sg
   obtain⟨hidden,ta,dJ,rfl,vO⟩:=dJ
   obtain⟨rq,T0⟩:=dB.drew
   obtain⟨hlen,_⟩:=oi dJ
   have kS:vl.length=ops.size:=by rw[hlen];simp
   have Dv:=wZ (X:=Sound P) (K:=Q .normal) (n:=σ.next) vO kS vl 0 (Array.replicate ops.size false) env σ.get (by simp) (by simp) (fun i hi=>by simp[hi]) (by simp[kS]) (fun k i h=>by
    exfalso
    rcases Nat.lt_or_ge k ops.size with hk|hk
    ·simp[hk]at h
    ·simp[Nat.not_lt.2 hk]at h) hv
   refine kf (wp_region_any hm ?_)
   rw[kS]at Dv
   exact xR dJ ops.size _ env σ.get a w.drew D ι (fun _=>False) Dv rq.sY rq.used (fun _ h=>h.elim) rq.env rq.size fun je g1 a1 w1 D1 ι1 U1 hk T S1 S6 E1 xe hd=>hQ .normal je ⟨g1,σ.next+1⟩ a1 w1 D1 ι1 hk (T0.trans T) ⟨S1,S6.next,E1,xe⟩ hd (Nat.le_succ _)
 |_=>
  intro vc h
  simp[jn]at h
def JJ (tmps:Array Value):ResultVar->Sem Value
 | .tmp t=>pure (tmps.getD t undef)
 | .cell a t=>do loadVar t (<-asAddr (tmps.getD a undef))
theorem Ei (fn:Func) (tmps:Array Value):results fn tmps=(do
  let vs <-fn.results.mapM (JJ tmps)
  pure (if h:vs.size=1 then vs[0]else .tuple vs)):=by
 unfold results
 congr 2
theorem tN {nt:Nat} {env:Env} {σ:au} {a:Act} {D:Nat->Prop} {ι:Names} (dB:St P hs nt D ι env σ a w):∀(rs:List ResultVar) (vr:List nI) (vs:List AV),rs.mapM (Df P)=some vr->fm env σ.get vr=some vs->
  ∃us:List Value,(rs.mapM (JJ a.tmps)).run P w=.ok us w/\us.length=vs.length/\∀(j:Nat) (v:AV),vs[j]? =some v->∃u,us[j]? =some u/\cE P w D ι v u
 |[],vr,vs,h,hv=>by
  simp at h;subst h
  simp[fm]at hv;subst hv
  exact⟨[],by simp,rfl,fun j v h=>by simp at h⟩
 |r::rs,vr,vs,h,hv=>by
  simp only[List.mapM_cons,Option.bind_eq_bind,Option.bind_eq_some_iff]at h
  obtain⟨x,hx,vr',hr,h⟩:=h
  simp at h;subst h
  simp only[fm,Option.bind_eq_some_iff,Option.map_eq_some_iff]at hv
  obtain⟨v,yq,UM,Ly,rfl⟩:=hv
  obtain⟨us,h1,h2,h3⟩:=tN dB rs vr' UM hr Ly
  have one:∃u,(JJ a.tmps r).run P w=.ok u w/\cE P w D ι v u:=by
   cases r with
   |tmp t=>
    simp[Df]at hx;subst hx
    simp[ig]at yq;subst yq
    exact⟨_,rfl,dB.env t⟩
   |cell b t=>
    simp only[Df,Option.bind_eq_bind,Option.bind_eq_some_iff,Option.pure_def,Option.some.injEq]at hx
    obtain⟨ag,uz,n,hn,rfl⟩:=hx
    simp only[ig]at yq
    have gH:=dB.env b
    unfold ld at yq
    split at yq
    ·rename_i jU i' oo hb
     rw[hb]at gH
     obtain⟨B,he,hB,hk⟩:=iy gH
     simp only[Option.bind_eq_some_iff]at yq
     obtain⟨cs,dw,hp⟩:=yq
     obtain⟨B',r0,Hx,dC,R,hi,fl,f,hf⟩:=JO (S:=dB.sY) dw (fun B2 h2=>by rw[hB]at h2;injection h2 with h2;subst h2;exact hk)
     rw[hB]at dC;injection dC with dC;subst dC
     obtain⟨u,k1,k2⟩:=kz (w:=w) (b:=B.b) (oo:=i'*B.sz+oo) (f:=fun j=>f (oo+j)) uz hn hp (fun a ha=>fl a (List.mem_of_mem_drop ha)) (fun j hj=>by
      rw[Nat.add_assoc];exact(hf _ (by simp at hj;omega)).1) (fun j a ha=>by
      simp at ha;exact(hf _ ((List.getElem?_eq_some_iff.1 ha).1)).2 _ ha)
     exact⟨u,by simp only[JJ,he,asAddr,Sem.run_bind,Sem.run_pure,Result.andThen_ok,k1],k2⟩
    ·rename_i cs hb
     rw[hb]at gH
     obtain⟨b',oo,vs2,he,q1,q2,q3,q4⟩:=kZ gH
     obtain⟨u,k1,k2⟩:=kz (w:=w) (b:=b') (oo:=oo) (f:=vs2) uz hn yq q2 q3 (fun j a ha=>.eP _ _ (q4 j a ha))
     exact⟨u,by simp only[JJ,he,asAddr,Sem.run_bind,Sem.run_pure,Result.andThen_ok,k1],k2⟩
    ·simp at yq
  obtain⟨u,hu,xD⟩:=one
  refine⟨u::us,?_,by simp[h2],fun j v' hj=>?_⟩
  ·rw[List.mapM_cons]
   simp only[Sem.run_bind,hu,h1,Result.andThen_ok,Sem.run_pure]
  ·cases j with
   |zero=>simp at hj;subst hj;exact⟨u,rfl,xD⟩
   |succ j=>simp at hj ⊢;exact h3 j v' hj
theorem uV {f:Nat} {fn:Func} {c:Code} {args:List AV} {σ:au} {K:AV->au->Prop} {vr:List nI} (PH:P.funcs[f]? =some fn) (hc:fn.body=some c) (hr:fn.results.toList.mapM (Df P)=some vr) (ha:fn.params.size+fn.nfree=args.length) (hle:fn.params.size+fn.nfree<=fn.ntmps)
  (h:∀(hs:Nat) (w:World) (D:Nat->Prop) (ι:Names) (a:Act) (Q':Exit->Act->World->Prop),St P hs fn.ntmps D ι (cw args) σ a w->tf P hs fn.ntmps a.defers (ku vr K) σ.next D ι w Q'->AG P c Q' a w):Sound P f args σ K:=by
 intro hs D ι w vs S Us A
 have ft:vs.size=args.length:=A.1
 refine ze PH hc ?_
 refine h hs w D ι _ _ ⟨S,Us,fun t=>?_,by simp;omega⟩ fun ex je σ1 a1 w1 D1 ι1 hq T j4 hd hle=>?_
 ·simp only[cw]
  by_cases dM:t<args.length
  ·obtain⟨u,hu,xD⟩:=A.2 t args[t] (List.getElem?_eq_getElem dM)
   have e1:args.getD t .undef=args[t]:=by simp[List.getD_eq_getElem?_getD,dM]
   have e2:(vs++Array.replicate (fn.ntmps-vs.size) undef).getD t undef=u:=by
    simp only[Array.getD_eq_getD_getElem?]
    rw[Array.getElem?_append_left (by omega),hu];rfl
   rw[e1,e2];exact xD
  ·have e1:args.getD t .undef=.undef:=by simp[List.getD_eq_getElem?_getD,Nat.le_of_not_lt dM]
   have e2:(vs++Array.replicate (fn.ntmps-vs.size) undef).getD t undef=undef:=by
    simp only[Array.getD_eq_getD_getElem?]
    rw[Array.getElem?_append_right (by omega),Array.getElem?_replicate]
    split<;>rfl
   rw[e1,e2];exact cE.undef
 ·have fin:(∃vs,fm je σ1.get vr=some vs/\K (fA vs) σ1)->a1.defers=[]/\∃v,(results fn a1.tmps).run P w1=.ok v w1/\∃r g' n' D' ι' u,Ending.returned v=.returned u/\K r ⟨g',n'⟩/\Step hs D ι w D' ι' w1/\gn P hs D' ι' g' w1/\Used ι' n' (fun _=>False)/\σ.next<=n'/\cE P w1 D' ι' r u:=by
   rintro⟨avs,Ly,hK⟩
   obtain⟨us,h1,h2,h3⟩:=tN j4 fn.results.toList vr avs hr Ly
   have Ot:(results fn a1.tmps).run P w1=.ok (if h:us.toArray.size=1 then us.toArray[0]else .tuple us.toArray) w1:=by
    rw[Ei,Array.mapM_eq_mapM_toList]
    simp only[Sem.run_bind,Sem.run_map,h1,Result.andThen_ok,Sem.run_pure]
   refine⟨hd,_,Ot,fA avs,σ1.get,σ1.next,D1,ι1,_,rfl,hK,T,j4.sY,j4.used,hle,?_⟩
   unfold fA
   split
   ·rename_i v
    have hl:us.length=1:=h2
    obtain⟨u,hu,xD⟩:=h3 0 v rfl
    rw[dif_pos (by simpa using hl)]
    have:us.toArray[0]'(by simp[hl])=u:=by
     have:=(List.getElem?_eq_some_iff.1 hu).2
     simpa using this
    rw[this];exact xD
   ·rename_i gU
    rw[dif_neg (by
     simp only[List.size_toArray,h2]
     intro h
     obtain⟨v,hv⟩:=List.length_eq_one_iff.1 h
     exact gU v hv)]
    exact .gP _ _ (fun j=>us.getD j undef) (by simp[h2]) (fun j hj=>by
     have:j<us.length:=by rw[h2];exact hj
     simp[this]) (fun j v hj=>by
     obtain⟨u,hu,xD⟩:=h3 j v hj
     simpa[List.getD_eq_getElem?_getD,hu]using xD)
  cases ex with
  |normal=>exact fin hq
  |ret=>exact fin hq
  |exit id=>exact hq.elim
theorem Ix (hm:P.follows .mixedOrders=true) {f:Nat} {md:List (Nat×Nat)} {vf:AH} {args:List AV} {σ:au} {K:AV->au->Prop} (hf:xr P f md=some vf) (ha:vf.yJ=args.length) (h:dG (Sound P) vf.body (ku vf.res K) (cw args) σ):Sound P f args σ K:=by
 unfold xr at hf
 split at hf
 ·rename_i fn PH
  split at hf
  ·rename_i c hc
   simp only[Option.bind_eq_bind,Option.bind_eq_some_iff]at hf
   obtain⟨vb,hb,vr,hr,hf⟩:=hf
   split at hf
   ·rename_i hle
    simp only[Option.pure_def,Option.some.injEq]at hf
    subst hf
    simp only at ha h
    exact uV PH hc hr ha hle fun hs w D ι a Q' dB hQ=>qf hm c vb hb (ku vr K) (cw args) σ a w D ι Q' h dB hQ
   ·simp at hf
  ·simp at hf
 ·simp at hf
def Nc (P:Program) (X:fE):fE:=fun f args σ K=>(∃md vf,xr P f md=some vf/\vf.yJ=args.length/\((∀a∈args,eC a)->dG X vf.body (ku vf.res K) (cw args) σ))∨Sound P f args σ K
def Call (P:Program):fE:=fun f args σ K=>∀X:fE,pP X->(∀f args σ K,Nc P X f args σ K->X f args σ K)->X f args σ K
theorem gj (hm:P.follows .mixedOrders=true) {f:Nat} {args:List AV} {σ:au} {K:AV->au->Prop} (h:Call P f args σ K):Sound P f args σ K:=
 h (Sound P) kJ fun f args σ K hs=>by
  rcases hs with⟨md,vf,h1,h2,h3⟩|h
  ·intro hs D ι w vs S U A
   exact Ix hm h1 h2 (h3 (oK fun j a hj=>by obtain⟨u,_,hr⟩:=A.2 j a hj;exact hr.Jh)) hs D ι w vs S U A
  ·exact h
end
end Go.Proofs.YtgoelphibofcmaaGreat.V

namespace Go.Proofs.YtgoelphibofcmaaGreat.V
open Go.RowKit
variable {P:Program} {X Y:fE}
theorem HP (h:∀f args σ K,X f args σ K->Y f args σ K) {f:Nat} {args:List AV} {σ:au} {K:AV->Prop} (hp:gz X f args σ K):gz Y f args σ K:=by
 rcases hp with hp|⟨a,h1,h2⟩
 ·exact .inl (h _ _ _ _ hp)
 ·exact .inr ⟨a,h1,h _ _ _ _ h2⟩
theorem KI (h:∀f args σ K,X f args σ K->Y f args σ K) {f:Nat} {args:List AV} {σ:au} {sz:Nat} {rows:List (List AV)} (hp:CM X f args σ sz rows):CM Y f args σ sz rows:=by
 obtain⟨h1,a,h2,h3⟩:=hp
 exact⟨h1,a,h2,h _ _ _ _ h3⟩
theorem qd (h:∀f args σ K,X f args σ K->Y f args σ K) (hK:∀f args σ K K',(∀r σ',K r σ'->K' r σ')->Y f args σ K->Y f args σ K') {draw:Bool} {hid:List Nat} {site:Nat} {f:Nat} {args:List AV} {σ:au} {n n':AV->au->Prop} (hn:∀v σ',n v σ'->n' v σ') (hp:cJ X draw hid site f args σ n):cJ Y draw hid site f args σ n':=by
 rcases hp with⟨r,h1,h2⟩|⟨h1,h2⟩|⟨h1,sz,rows,h2,h3⟩
 ·exact .inl ⟨r,HP h h1,hn _ _ h2⟩
 ·exact .inr (.inl ⟨h1,hK _ _ _ _ _ hn (h _ _ _ _ h2)⟩)
 ·exact .inr (.inr ⟨h1,sz,rows,KI h h2,hn _ _ h3⟩)
theorem r7 (h:∀f args σ K,X f args σ K->Y f args σ K) (hK:∀f args σ K K',(∀r σ',K r σ'->K' r σ')->Y f args σ K->Y f args σ K') {draw:Bool} {o:aY} {env:Env} {σ:au} {n n':AV->au->Prop} (hn:∀v σ',n v σ'->n' v σ') (hp:fU X draw o env σ n):fU Y draw o env σ n':=by
 unfold fU at hp ⊢
 split at hp
 ·exact qd h hK hn hp
 ·split at hp
  ·exact qd h hK hn hp
  ·exact qd h hK hn hp
  ·exact hp.elim
 ·split at hp
  ·exact hn _ _ hp
  ·exact hp.elim
 ·split at hp
  ·exact hn _ _ hp
  ·exact hp.elim
 ·split at hp
  ·exact hn _ _ hp
  ·exact hp.elim
 ·split at hp
  ·exact hn _ _ hp
  ·exact hp.elim
 ·split at hp
  ·exact hn _ _ hp
  ·exact hp.elim
 ·split at hp
  ·exact hn _ _ hp
  ·exact hn _ _ hp
  ·exact hp.elim
theorem lf (h:∀f args σ K,X f args σ K->Y f args σ K) (hK:∀f args σ K K',(∀r σ',K r σ'->K' r σ')->Y f args σ K->Y f args σ K') {draw:Bool} {Q Q':Env->au->Prop} (hQ:∀e s,Q e s->Q' e s):∀(l:List aY) (env:Env) (σ:au),wpOps X draw l Q env σ->wpOps Y draw l Q' env σ
 |[],env,σ,hp=>hQ _ _ hp
 |o::r,env,σ,hp=>by
  unfold wpOps at hp ⊢
  split at hp
  ·rename_i hw;rw[if_pos hw];exact r7 h hK (fun v σ'=>lf h hK hQ r _ _) hp
  ·rename_i hw;rw[if_neg hw];exact lf h hK hQ r _ _ hp
theorem nv {Q Q':Env->au->Prop} (hQ:∀e s,Q e s->Q' e s):∀(l:List aY) (env:Env) (σ:au),cD l Q env σ->cD l Q' env σ
 |[],env,σ,hp=>hQ _ _ hp
 |o::r,env,σ,hp=>by
  unfold cD at hp ⊢
  refine⟨hp.1,?_⟩
  replace hp:=hp.2
  split at hp
  ·split at hp
   ·exact nv hQ r _ _ hp
   ·exact hp.elim
  ·split at hp
   ·exact nv hQ r _ _ hp
   ·exact hp.elim
  ·split at hp
   ·exact nv hQ r _ _ hp
   ·exact hp.elim
theorem jA (h:∀f args σ K,X f args σ K->Y f args σ K) (hK:∀f args σ K K',(∀r σ',K r σ'->K' r σ')->Y f args σ K->Y f args σ K'):∀(c:VC) (Q Q':Ex->Env->au->Prop) (env:Env) (σ:au),(∀x e s,Q x e s->Q' x e s)->dG X c Q env σ->dG Y c Q' env σ:=by
 intro c
 induction c with
 |skip=>intro Q Q' env σ hQ hp;exact hQ _ _ _ hp
 |exit id=>intro Q Q' env σ hQ hp;exact hQ _ _ _ hp
 |ret=>intro Q Q' env σ hQ hp;exact hQ _ _ _ hp
 |one o c ih=>
  intro Q Q' env σ hQ hp
  unfold dG at hp ⊢
  split at hp
  ·rename_i hw;rw[if_pos hw];exact r7 h hK (fun v σ'=>ih Q Q' _ _ hQ) hp
  ·rename_i hw;rw[if_neg hw];exact ih Q Q' _ _ hQ hp
 |both a b iha ihb=>intro Q Q' env σ hQ hp;exact⟨iha Q Q' env σ hQ hp.1,ihb Q Q' env σ hQ hp.2⟩
 |loc t s y c ih=>intro Q Q' env σ hQ hp;exact⟨hp.1,ih Q Q' env σ hQ hp.2⟩
 |NB ops=>intro Q Q' env σ hQ hp;exact nv (hQ .normal) ops env σ hp
 |ej draw ops=>intro Q Q' env σ hQ hp;exact lf h hK (hQ .normal) ops env σ hp
 |seq a b iha ihb=>
  intro Q Q' env σ hQ hp
  refine iha _ _ env σ (fun x e s hx=>?_) hp
  cases x with
  |normal=>exact ihb Q Q' e s hQ hx
  |exit id=>exact hQ _ _ _ hx
  |ret=>exact hQ _ _ _ hx
 |cond c a b iha ihb=>
  intro Q Q' env σ hQ hp
  unfold dG at hp ⊢
  split at hp
  ·rename_i t ht
   cases t with
   |true=>exact iha Q Q' env σ hQ hp
   |false=>exact ihb Q Q' env σ hQ hp
  ·exact hp.elim
 |block id a iha=>
  intro Q Q' env σ hQ hp
  refine iha _ _ env σ (fun x e s hx=>?_) hp
  cases x with
  |normal=>exact hQ _ _ _ hx
  |ret=>exact hQ _ _ _ hx
  |exit jU=>
   unfold aZ at hx ⊢
   dsimp only at hx ⊢
   split at hx
   ·rename_i hid;rw[if_pos hid];exact hQ _ _ _ hx
   ·rename_i hid;rw[if_neg hid];exact hQ _ _ _ hx
 |loop a iha=>
  intro Q Q' env σ hQ hp
  obtain⟨n,hp⟩:=hp
  refine⟨n,?_⟩
  induction n generalizing env σ with
  |zero=>exact hp
  |succ n ihn=>
   refine iha _ _ env σ (fun x e s hx=>?_) hp
   cases x with
   |normal=>exact ihn e s hx
   |exit id=>exact hQ _ _ _ hx
   |ret=>exact hQ _ _ _ hx
theorem aG:pP (Call P):=fun _ _ _ _ _ hK h X hX hc=>hX _ _ _ _ _ hK (h X hX hc)
theorem xO {f:Nat} {args:List AV} {σ:au} {K:AV->au->Prop} (h:Nc P (Call P) f args σ K):Call P f args σ K:=by
 intro X hX hc
 refine hc _ _ _ _ ?_
 rcases h with⟨md,vf,h1,h2,h3⟩|h
 ·exact .inl ⟨md,vf,h1,h2,fun hl=>jA (fun f args σ K h=>h X hX hc) hX _ _ _ _ _ (fun _ _ _ h=>h) (h3 hl)⟩
 ·exact .inr h
theorem uL {f:Nat} {md:List (Nat×Nat)} {args:List AV} {σ:au} {K:AV->au->Prop} {vf:AH} (hf:xr P f md=some vf) (ha:vf.yJ=args.length) (h:(∀a∈args,eC a)->dG (Call P) vf.body (ku vf.res K) (cw args) σ):Call P f args σ K:=
 xO (.inl ⟨md,vf,hf,ha,h⟩)
theorem lY {f:Nat} {args:List AV} {σ:au} {K:AV->au->Prop} {vf:AH} (hf:lV P f=some vf) (ha:vf.yJ=args.length) (h:(∀a∈args,eC a)->dG (Call P) vf.body (ku vf.res K) (cw args) σ):Call P f args σ K:=
 uL hf ha h
theorem gJ {f:Nat} {args:List AV} {σ:au} {K:AV->au->Prop} (h:Sound P f args σ K):Call P f args σ K:=xO (.inr h)
def km (P:Program) (f:Nat) (args:List AV) (r:AV):Prop:=∀σ,PC (Call P) f args σ (fun r'=>r'=r)
theorem km.body {f:Nat} {args:List AV} {r:AV} {nt na:Nat} {body:VC} {res:List nI} (hf:lV P f=some ⟨nt,na,body,res⟩) (ha:na=args.length) (h:(∀a∈args,eC a)->∀σ:au,dG (Call P) body (ku res fun r0 σ'=>∃r',fz σ'.get 6 r0=some r'/\r'=r) (cw args) ⟨V.ro σ.get,σ.next⟩):km P f args r:=fun σ=>lY hf ha fun hl=>h hl σ
variable {Q:Ex->Env->au->Prop} {K:Env->au->Prop} {env:Env} {σ:au}
theorem CI {a b:VC} (h:∀N:Env->au->Prop,(∀e s,dG X b Q e s->N e s)->dG X a (dn N Q) env σ):dG X (.seq a b) Q env σ:=h _ fun _ _ h=>h
theorem AE (h:Q .normal env σ):dG X .skip Q env σ:=h
theorem AB {id:Nat} (h:Q (.exit id) env σ):dG X (.exit id) Q env σ:=h
theorem FN (h:Q .ret env σ):dG X .ret Q env σ:=h
theorem uH {id:Nat} {c:VC} (h:dG X c (aZ id Q) env σ):dG X (.block id c) Q env σ:=h
theorem FL {o:aY} {c:VC} (h:∀N:AV->au->Prop,(∀v s,dG X c Q (upd env o.dst v) s->N v s)->if aL o.guard env then fU X false o env σ N else N .undef σ):dG X (.one o c) Q env σ:=by
 have:=h (fun v s=>dG X c Q (upd env o.dst v) s) fun _ _ h=>h
 unfold dG
 split
 ·rename_i hw;rw[if_pos hw]at this;exact this
 ·rename_i hw;rw[if_neg hw]at this;exact this
def eE (s n:Nat):AV->Prop
 | .own id 0 _=>id=⟨s,n⟩
 |_=>False
def eH (n:Nat):AV->Prop
 | .own id _ _=>¬id.bq=n
 |_=>True
theorem AD {t s:Nat} {y:O} {c:VC} (h1:eE s σ.next (env t)) (h2:eH σ.next (cK env y)) (h:dG X c Q env σ):dG X (.loc t s y c) Q env σ:=by
 refine⟨⟨?_,fun id o l he=>?_⟩,h⟩
 ·revert h1
  unfold eE
  split
  ·rename_i id l he;rintro rfl;exact⟨l,he⟩
  ·exact fun h=>h.elim
 ·rw[he]at h2;exact h2
theorem fe {a b:VC} (ha:dG X a Q env σ) (hb:dG X b Q env σ):dG X (.both a b) Q env σ:=⟨ha,hb⟩
theorem FM {draw:Bool} {ops:List aY} (h:∀N:Env->au->Prop,(∀e s,Q .normal e s->N e s)->wpOps X draw ops N env σ):dG X (.ej draw ops) Q env σ:=h _ fun _ _ h=>h
theorem Kh {ops:List aY} (h:cD ops (Q .normal) env σ):dG X (.NB ops) Q env σ:=h
theorem CH {draw:Bool} (h:K env ⟨σ.get,σ.next+1⟩):wpOps X draw [] K env σ:=h
theorem Pa {draw:Bool} {o:aY} {r:List aY} (h:∀N:AV->au->Prop,(∀v s,wpOps X draw r K (upd env o.dst v) s->N v s)->if aL o.guard env then fU X draw o env σ N else N .undef σ):wpOps X draw (o::r) K env σ:=by
 have:=h (fun v s=>wpOps X draw r K (upd env o.dst v) s) fun _ _ h=>h
 unfold wpOps
 split
 ·rename_i hw;rw[if_pos hw]at this;exact this
 ·rename_i hw;rw[if_neg hw]at this;exact this
theorem Ki {c:O} {x y:VC} {b:Bool} (hc:cK env c=.bool b) (ht:b=true->dG X x Q env σ) (hf:b=false->dG X y Q env σ):dG X (.cond c x y) Q env σ:=by
 unfold dG
 simp only[hc]
 cases b with
 |true=>exact ht rfl
 |false=>exact hf rfl
inductive nU:AV->Prop->Prop->Prop
 |t {A B:Prop}:A->nU (.bool true) A B
 |f {A B:Prop}:B->nU (.bool false) A B
theorem uI {c:O} {x y:VC} {v:AV} (hv:cK env c=v) (h:nU v (dG X x Q env σ) (dG X y Q env σ)):dG X (.cond c x y) Q env σ:=by
 cases h with
 |t h=>exact Ki hv (fun _=>h) (fun e=>by cases e)
 |f h=>exact Ki hv (fun e=>by cases e) (fun _=>h)
theorem O9 {c:VC} (I:Nat->Env->au->Prop) (n:Nat) (h0:I n env σ) (step:∀n env σ,I n env σ->dG X c (fun x e s=>match x with| .normal=>∃m,m<n/\I m e s|x=>Q x e s) env σ)
  (hX:∀(c:VC) (Q Q':Ex->Env->au->Prop) env σ,(∀x e s,Q x e s->Q' x e s)->dG X c Q env σ->dG X c Q' env σ):dG X (.loop c) Q env σ:=by
 have key:∀N n env σ,n<N->I n env σ->Fx (dG X c) Q N env σ:=by
  intro N
  induction N with
  |zero=>intro n env σ h;exact absurd h (Nat.not_lt_zero _)
  |succ N ih=>
   intro n env σ hn hI
   refine hX c _ _ env σ (fun x e s hx=>?_) (step n env σ hI)
   cases x with
   |normal=>obtain⟨m,hm,Ty⟩:=hx;exact ih m e s (by omega) Ty
   |exit id=>exact hx
   |ret=>exact hx
 exact⟨n+1,key _ n env σ (Nat.lt_succ_self _) h0⟩
theorem Mm {c:VC} (I:Nat->Env->au->Prop) (n:Nat) (h0:I n env σ) (step:∀n env σ,I n env σ->dG (Call P) c (fun x e s=>match x with| .normal=>∃m,m<n/\I m e s|x=>Q x e s) env σ):dG (Call P) (.loop c) Q env σ:=
 O9 I n h0 step fun c Q Q' env σ hQ h=>jA (fun _ _ _ _ h=>h) aG c Q Q' env σ hQ h
def xS:VC->List Nat
 | .ej _ ops=>ops.filterMap (·.dst)
 | .seq a b=>xS a++xS b
 | .cond _ a b=>xS a++xS b
 | .block _ a=>xS a
 | .loop a=>xS a
 | .one o c=>o.dst.toList++xS c
 | .both a b=>xS a++xS b
 | .loc _ _ _ c=>xS c
 | .NB ops=>ops.filterMap (·.dst)
 |_=>[]
def gx (l:List Nat) (env iG:Env):Prop:=∀t,l.contains t=false->iG t=env t
theorem gx.refl (l:List Nat) (env:Env):gx l env env:=fun _ _=>rfl
theorem gx.trans {l:List Nat} {e e' e'':Env} (h:gx l e e') (k:gx l e' e''):gx l e e'':=fun t ht=>(k t ht).trans (h t ht)
theorem gx.sub {l l':List Nat} {e e':Env} (h:gx l e e') (hs:∀t,t∈l->t∈l'):gx l' e e':=fun t ht=>h t (by
 rw[<-Bool.not_eq_true]at ht ⊢
 simp only[List.contains_iff_mem]at ht ⊢
 exact fun hc=>ht (hs t hc))
theorem gx.upd {l:List Nat} {e e':Env} {d:Option Nat} {v:AV} (h:gx l e e') (hd:∀t,d=some t->t∈l):gx l e (upd e' d v):=fun t ht=>by
 cases d with
 |none=>exact h t ht
 |some d=>
  have:t≠d:=fun hc=>by subst hc;rw[<-Bool.not_eq_true,List.contains_iff_mem]at ht;exact ht (hd _ rfl)
  show(if t=d then v else e' t)=e t
  rw[if_neg this];exact h t ht
theorem oX {draw:Bool} {Q:Env->au->Prop} {l:List Nat} {e0:Env}:∀(ops:List aY) (env:Env) (σ:au),(∀t,t∈ops.filterMap (·.dst)->t∈l)->gx l e0 env->wpOps (Call P) draw ops Q env σ->wpOps (Call P) draw ops (fun e s=>Q e s/\gx l e0 e) env σ
 |[],env,σ,_,hk,hp=>⟨hp,hk⟩
 |o::r,env,σ,hl,hk,hp=>by
  have hd:∀t,o.dst=some t->t∈l:=fun t ht=>hl t (List.mem_filterMap.2 ⟨o,by simp,ht⟩)
  have hr:∀t,t∈r.filterMap (·.dst)->t∈l:=fun t ht=>hl t (by
   obtain⟨x,hx,h⟩:=List.mem_filterMap.1 ht
   exact List.mem_filterMap.2 ⟨x,List.mem_cons_of_mem _ hx,h⟩)
  unfold wpOps at hp ⊢
  split at hp
  ·rename_i hw;rw[if_pos hw]
   exact r7 (fun _ _ _ _ h=>h) aG (fun v σ' h=>oX r _ _ hr (hk.upd hd) h) hp
  ·rename_i hw;rw[if_neg hw];exact oX r _ _ hr (hk.upd hd) hp
theorem lL {Q:Env->au->Prop} {l:List Nat} {e0:Env}:∀(ops:List aY) (env:Env) (σ:au),(∀t,t∈ops.filterMap (·.dst)->t∈l)->gx l e0 env->cD ops Q env σ->cD ops (fun e s=>Q e s/\gx l e0 e) env σ
 |[],env,σ,_,hk,hp=>⟨hp,hk⟩
 |o::r,env,σ,hl,hk,hp=>by
  have hd:∀t,o.dst=some t->t∈l:=fun t ht=>hl t (List.mem_filterMap.2 ⟨o,by simp,ht⟩)
  have hr:∀t,t∈r.filterMap (·.dst)->t∈l:=fun t ht=>hl t (by
   obtain⟨x,hx,h⟩:=List.mem_filterMap.1 ht
   exact List.mem_filterMap.2 ⟨x,List.mem_cons_of_mem _ hx,h⟩)
  unfold cD at hp ⊢
  refine⟨hp.1,?_⟩
  replace hp:=hp.2
  split at hp
  ·split at hp
   ·exact lL r _ _ hr (hk.upd hd) hp
   ·exact hp.elim
  ·split at hp
   ·exact lL r _ _ hr (hk.upd hd) hp
   ·exact hp.elim
  ·split at hp
   ·exact lL r _ _ hr (hk.upd hd) hp
   ·exact hp.elim
theorem yZ {l:List Nat} {e0:Env}:∀(c:VC) (Q:Ex->Env->au->Prop) (env:Env) (σ:au),(∀t,t∈xS c->t∈l)->gx l e0 env->dG (Call P) c Q env σ->dG (Call P) c (fun x e s=>Q x e s/\gx l e0 e) env σ:=by
 intro c
 induction c with
 |skip=>intro Q env σ _ hk hp;exact⟨hp,hk⟩
 |exit id=>intro Q env σ _ hk hp;exact⟨hp,hk⟩
 |ret=>intro Q env σ _ hk hp;exact⟨hp,hk⟩
 |one o c ih=>
  intro Q env σ hl hk hp
  have hd:∀t,o.dst=some t->t∈l:=fun t ht=>hl t (List.mem_append_left _ (by rw[ht];simp))
  have hr:∀t,t∈xS c->t∈l:=fun t ht=>hl t (List.mem_append_right _ ht)
  unfold dG at hp ⊢
  split at hp
  ·rename_i hw;rw[if_pos hw]
   exact r7 (fun _ _ _ _ h=>h) aG (fun v σ' h=>ih Q _ _ hr (hk.upd hd) h) hp
  ·rename_i hw;rw[if_neg hw];exact ih Q _ _ hr (hk.upd hd) hp
 |both a b iha ihb=>
  intro Q env σ hl hk hp
  exact⟨iha Q env σ (fun t ht=>hl t (List.mem_append_left _ ht)) hk hp.1,ihb Q env σ (fun t ht=>hl t (List.mem_append_right _ ht)) hk hp.2⟩
 |loc t s y c ih=>intro Q env σ hl hk hp;exact⟨hp.1,ih Q env σ hl hk hp.2⟩
 |NB ops=>intro Q env σ hl hk hp;exact lL ops env σ hl hk hp
 |ej draw ops=>intro Q env σ hl hk hp;exact oX ops env σ hl hk hp
 |seq a b iha ihb=>
  intro Q env σ hl hk hp
  refine jA (fun _ _ _ _ h=>h) aG a _ _ env σ (fun x e s hx=>?_) (iha _ env σ (fun t ht=>hl t (List.mem_append_left _ ht)) hk hp)
  cases x with
  |normal=>exact ihb Q e s (fun t ht=>hl t (List.mem_append_right _ ht)) hx.2 hx.1
  |exit id=>exact hx
  |ret=>exact hx
 |cond c a b iha ihb=>
  intro Q env σ hl hk hp
  unfold dG at hp ⊢
  split at hp
  ·rename_i t ht
   cases t with
   |true=>exact iha Q env σ (fun t ht=>hl t (List.mem_append_left _ ht)) hk hp
   |false=>exact ihb Q env σ (fun t ht=>hl t (List.mem_append_right _ ht)) hk hp
  ·exact hp.elim
 |block id a iha=>
  intro Q env σ hl hk hp
  refine jA (fun _ _ _ _ h=>h) aG a _ _ env σ (fun x e s hx=>?_) (iha _ env σ hl hk hp)
  obtain⟨hx,Gj⟩:=hx
  cases x with
  |normal=>exact⟨hx,Gj⟩
  |ret=>exact⟨hx,Gj⟩
  |exit jU=>
   unfold aZ at hx ⊢
   dsimp only at hx ⊢
   split at hx
   ·rename_i hid;rw[if_pos hid];exact⟨hx,Gj⟩
   ·rename_i hid;rw[if_neg hid];exact⟨hx,Gj⟩
 |loop a iha=>
  intro Q env σ hl hk hp
  obtain⟨n,hp⟩:=hp
  refine⟨n,?_⟩
  induction n generalizing env σ with
  |zero=>exact hp
  |succ n ihn=>
   refine jA (fun _ _ _ _ h=>h) aG _ _ _ _ _ (fun x e s hx=>?_) (iha _ env σ hl hk hp)
   obtain⟨hx,Gj⟩:=hx
   cases x with
   |normal=>exact ihn e s Gj hx
   |exit id=>exact⟨hx,Gj⟩
   |ret=>exact⟨hx,Gj⟩
theorem aI {c:VC} (I:Nat->Env->au->Prop) (n:Nat) (h0:I n env σ) (step:∀n e s,I n e s->gx (xS c) env e->dG (Call P) c (fun x e s=>match x with| .normal=>∃m,m<n/\I m e s|x=>Q x e s) e s):dG (Call P) (.loop c) Q env σ:=by
 refine Mm (fun n e s=>I n e s/\gx (xS c) env e) n ⟨h0,gx.refl _ _⟩ fun n e s hI=>?_
 refine jA (fun _ _ _ _ h=>h) aG _ _ _ _ _ (fun x e' s' hx=>?_) (yZ c _ e s (fun _ h=>h) hI.2 (step n e s hI.1 hI.2))
 obtain⟨hx,hk⟩:=hx
 cases x with
 |normal=>obtain⟨m,hm,h⟩:=hx;exact⟨m,hm,h,hk⟩
 |exit id=>exact hx
 |ret=>exact hx
theorem Kl {k:Nat} (h:k<=9223372036854775807):IntKind.i64.wrap (k:Int)=k:=by rw[IntKind.wrap_i64];omega
theorem aV {z:Int} (h: -9223372036854775808<=z/\z<=9223372036854775807):IntKind.i64.wrap z=z:=by rw[IntKind.wrap_i64];omega
theorem aA {k:Nat} (h:(k:Int)+1<=9223372036854775807):IntKind.i64.wrap ((k:Int)+1)=((k+1:Nat):Int):=by rw[IntKind.wrap_i64];omega
theorem all_succ {k:Nat} {p:Nat->Prop} (h:∀j,j<k->p j) (hk:p k):∀j,j<k+1->p j:=fun j hj=>by
 by_cases yk:j=k
 ·subst yk;exact hk
 ·exact h j (by omega)
theorem aH (g:Rows) (n:Nat) (k:IntKind) (m:Int):fz g (n+1) (.int k m)=some (.int k m):=by rw[fz]<;>intros<;>simp_all
theorem bj (g:Rows) (n:Nat) (b:Bool):fz g (n+1) (.bool b)=some (.bool b):=by rw[fz]<;>intros<;>simp_all
theorem bE (g:Rows) (n:Nat) (b:ByteArray):fz g (n+1) (.str b)=some (.str b):=by rw[fz]<;>intros<;>simp_all
theorem cu (g:Rows) (n:Nat) (l:List (List AV)):fz g (n+1) (.sl l)=some (.sl l):=by rw[fz]<;>intros<;>simp_all
theorem aW (g:Rows) (n:Nat):fz g (n+1) .cC=some .cC:=by rw[fz]<;>intros<;>simp_all
theorem Rx {t:Nat} {r r0:AV} {x:Ex} (hx:x=.ret∨x=.normal) (he:env t=r0) (hz:fz σ.get 6 r0=some r):ku [.tmp t] (fun r0 σ'=>∃r',fz σ'.get 6 r0=some r'/\r'=r) x env σ:=by
 have:∃vs,fm env σ.get [.tmp t]=some vs/\∃r',fz σ.get 6 (fA vs)=some r'/\r'=r:=⟨[env t],rfl,r,by subst he;exact hz,rfl⟩
 rcases hx with rfl|rfl
 ·exact this
 ·exact this
def aj (P:Program) (f:Nat) (args:List AV) (r:AV):Prop:=∀n:Nat,Call P f args ⟨fun _=>none,n⟩ fun r0 σ'=>∃r',gp σ'.get 6 r0=some r'/\r'=r
theorem aj.body {f:Nat} {args:List AV} {r:AV} {nt na:Nat} {body:VC} {res:List nI} (hf:lV P f=some ⟨nt,na,body,res⟩) (ha:na=args.length) (h:(∀a∈args,eC a)->∀n:Nat,dG (Call P) body (ku res fun r0 σ'=>∃r',gp σ'.get 6 r0=some r'/\r'=r) (cw args) ⟨fun _=>none,n⟩):aj P f args r:=fun n=>lY hf ha fun hl=>h hl n
theorem aj.x {f:Nat} {args eK:List AV} {r:AV} (h:aj P f eK r) {σ:au} (hv:cL (dX σ.get) 6 args=some eK):gz (Call P) f args σ (fun r'=>r'=r):=.inr ⟨eK,hv,h _⟩
theorem km.x {f:Nat} {args:List AV} {r:AV} (h:km P f args r) (σ:au):gz (Call P) f args σ (fun r'=>r'=r):=.inl (h σ)
theorem eO (g:Rows) (n:Nat) (k:IntKind) (m:Int):gp g (n+1) (.int k m)=some (.int k m):=by rw[gp]<;>intros<;>simp_all
theorem fK (g:Rows) (n:Nat) (b:Bool):gp g (n+1) (.bool b)=some (.bool b):=by rw[gp]<;>intros<;>simp_all
theorem K4 (g:Rows) (n:Nat) (b:ByteArray):gp g (n+1) (.str b)=some (.str b):=by rw[gp]<;>intros<;>simp_all
theorem kP (g:Rows) (n:Nat):gp g (n+1) .cC=some .cC:=by rw[gp]<;>intros<;>simp_all
theorem fj (g:Rows) (n:Nat) (l:List AV):gp g (n+1) (.gP l)=(eb g n l).map AV.gP:=by rw[gp]
theorem K3 (g:Rows) (n:Nat) (l:List AV):gp g (n+1) (.agg l)=(eb g n l).map AV.agg:=by rw[gp]
theorem uv {g:Rows} {n:Nat} {id:Id} {off len sz:Nat} {rows rows':List (List AV)} (h:g id=some ⟨true,sz,rows⟩) (hl:off+len<=rows.length) (hr:gY g n ((rows.drop off).take len)=some rows'):gp g (n+1) (.own id off len)=some (.sl rows'):=by
 rw[gp];simp only[h,if_true,if_pos hl,hr,Option.map_some]
theorem cz (g:Rows) (n:Nat):eb g n []=some []:=by rw[eb]
theorem bB (g:Rows) (n:Nat) (a:AV) (l:List AV):eb g n (a::l)=match gp g n a with
  |some b=>(eb g n l).map (b::·)
  |none=>none:=by rw[eb];cases gp g n a<;>rfl
theorem tr {g:Rows} {n:Nat}:∀{l:List (List AV)},(∀c∈l,eb g n c=some c)->gY g n l=some l
 |[],_=>by rw[gY]
 |c::r,h=>by rw[gY,h c (by simp),tr fun d hd=>h d (List.mem_cons_of_mem _ hd)];rfl
theorem br (g:Rows) (n:Nat) (l:List AV):fz g (n+1) (.agg l)=(cL g n l).map AV.agg:=by rw[fz]
theorem aU (g:Rows) (n:Nat) (l:List AV):fz g (n+1) (.cQ l)=some (.cQ l):=by rw[fz]<;>intros<;>simp_all
theorem zq {g:Rows} {n:Nat} {id:Id} {i off sz:Nat} {rows:List (List AV)} {cs pT:List AV} (h:g id=some ⟨true,sz,rows⟩) (hi:rows[i]? =some cs) (hr:cL g n (cs.drop off)=some pT):fz g (n+1) (.ptr id i off)=some (.cQ pT):=by
 rw[fz];simp only[h,if_true,hi,hr,Option.map_some]
theorem aq (g:Rows) (n:Nat):cL g n []=some []:=by rw[cL]
theorem ai (g:Rows) (n:Nat) (a:AV) (l:List AV):cL g n (a::l)=match fz g n a with
  |some b=>(cL g n l).map (b::·)
  |none=>none:=by rw[cL];cases fz g n a<;>rfl
theorem tL {t:Nat} {r r0:AV} {x:Ex} (hx:x=.ret∨x=.normal) (he:env t=r0) (hz:gp σ.get 6 r0=some r):ku [.tmp t] (fun r0 σ'=>∃r',gp σ'.get 6 r0=some r'/\r'=r) x env σ:=by
 have:∃vs,fm env σ.get [.tmp t]=some vs/\∃r',gp σ.get 6 (fA vs)=some r'/\r'=r:=⟨[env t],rfl,r,by subst he;exact hz,rfl⟩
 rcases hx with rfl|rfl
 ·exact this
 ·exact this
theorem aP {t:Nat} {b c:Bool} {x:Ex} (hx:x=.ret∨x=.normal) (he:env t=.bool b) (hb:b=c):ku [.tmp t] (fun r0 σ'=>∃r',gp σ'.get 6 r0=some r'/\r'=.bool c) x env σ:=tL hx he (by rw[fK,hb])
theorem bL {t:Nat} {k:IntKind} {b c:Int} {x:Ex} (hx:x=.ret∨x=.normal) (he:env t=.int k b) (hb:b=c):ku [.tmp t] (fun r0 σ'=>∃r',gp σ'.get 6 r0=some r'/\r'=.int k c) x env σ:=tL hx he (by rw[eO,hb])
theorem jy {t u:Nat} {r r1 r2:AV} {x:Ex} (hx:x=.ret∨x=.normal) (h1:env t=r1) (h2:env u=r2) (hz:gp σ.get 6 (.gP [r1,r2])=some r):ku [.tmp t,.tmp u] (fun r0 σ'=>∃r',gp σ'.get 6 r0=some r'/\r'=r) x env σ:=by
 have:∃vs,fm env σ.get [.tmp t,.tmp u]=some vs/\∃r',gp σ.get 6 (fA vs)=some r'/\r'=r:=⟨[env t,env u],rfl,r,by subst h1;subst h2;exact hz,rfl⟩
 rcases hx with rfl|rfl
 ·exact this
 ·exact this
structure Pn (p:Prop):Prop where
 out:p
theorem tw {A B:Prop} (a:A) (b:B):A/\B:=⟨a,b⟩
theorem wk {A R G:Prop} (a:A) (r:R) (h:A->R->G:=by
  intro fL kk
  (repeat(refine Pn.mk ?_;intro N hN))
  (first|((first|apply CI|apply FM);intro N hN)|((first|(apply Pa;intro N hN)|(apply FL;intro N hN));simp only[go_sem, ↓reduceIte,Nat.reduceEqDiff,Nat.reduceAdd,Nat.reduceSub,Nat.reduceMul,Nat.reduceLeDiff,Nat.reduceBEq,reduceCtorEq,Nat.reduceLT,Int.reduceLE,Int.reduceLT,Int.reduceToNat,Int.reduceNeg,Int.reduceAdd,Int.reduceEq,fL];first|(refine hN _ _ ?_;clear hN N)|skip)|(apply uI;(simp only[go_sem, ↓reduceIte,Nat.reduceEqDiff,Nat.reduceAdd,Nat.reduceSub,Nat.reduceMul,Nat.reduceLeDiff,Nat.reduceBEq,reduceCtorEq,Nat.reduceLT,Int.reduceLE,Int.reduceLT,Int.reduceToNat,Int.reduceNeg,Int.reduceAdd,Int.reduceEq,fL];rfl);first|with_reducible apply nU.t|with_reducible apply nU.f)|(apply CH;refine hN _ _ ?_;clear hN N;try(simp only[dn,aZ, ↓reduceIte,Nat.reduceEqDiff]);try(refine hN _ _ ?_;clear hN N))|apply uH|(refine AD ?_ ?_ ?_;(focus(simp only[go_sem, ↓reduceIte,Nat.reduceEqDiff,Nat.reduceAdd,Nat.reduceSub,Nat.reduceMul,Nat.reduceLeDiff,Nat.reduceBEq,reduceCtorEq,Nat.reduceLT,Int.reduceLE,Int.reduceLT,Int.reduceToNat,Int.reduceNeg,Int.reduceAdd,Int.reduceEq,fL];done));(focus(simp only[go_sem, ↓reduceIte,Nat.reduceEqDiff,Nat.reduceAdd,Nat.reduceSub,Nat.reduceMul,Nat.reduceLeDiff,Nat.reduceBEq,reduceCtorEq,Nat.reduceLT,Int.reduceLE,Int.reduceLT,Int.reduceToNat,Int.reduceNeg,Int.reduceAdd,Int.reduceEq,fL];done)))|((first|apply AE|apply AB|apply FN);try(simp only[dn,aZ, ↓reduceIte,Nat.reduceEqDiff]);try(refine hN _ _ ?_;clear hN N))|((first|refine hN _ _ ?_|(clear hN N;first|refine hN _ _ ?_|(clear hN N;first|refine hN _ _ ?_|(clear hN N;first|refine hN _ _ ?_|(clear hN N;refine hN _ _ ?_)))));clear hN N))
  (repeat(first|((first|apply CI|apply FM);intro N hN)|((first|(apply Pa;intro N hN)|(apply FL;intro N hN));simp only[go_sem, ↓reduceIte,Nat.reduceEqDiff,Nat.reduceAdd,Nat.reduceSub,Nat.reduceMul,Nat.reduceLeDiff,Nat.reduceBEq,reduceCtorEq,Nat.reduceLT,Int.reduceLE,Int.reduceLT,Int.reduceToNat,Int.reduceNeg,Int.reduceAdd,Int.reduceEq,fL];first|(refine hN _ _ ?_;clear hN N)|skip)|(apply uI;(simp only[go_sem, ↓reduceIte,Nat.reduceEqDiff,Nat.reduceAdd,Nat.reduceSub,Nat.reduceMul,Nat.reduceLeDiff,Nat.reduceBEq,reduceCtorEq,Nat.reduceLT,Int.reduceLE,Int.reduceLT,Int.reduceToNat,Int.reduceNeg,Int.reduceAdd,Int.reduceEq,fL];rfl);first|with_reducible apply nU.t|with_reducible apply nU.f)|(apply CH;refine hN _ _ ?_;clear hN N;try(simp only[dn,aZ, ↓reduceIte,Nat.reduceEqDiff]);try(refine hN _ _ ?_;clear hN N))|apply uH|(refine AD ?_ ?_ ?_;(focus(simp only[go_sem, ↓reduceIte,Nat.reduceEqDiff,Nat.reduceAdd,Nat.reduceSub,Nat.reduceMul,Nat.reduceLeDiff,Nat.reduceBEq,reduceCtorEq,Nat.reduceLT,Int.reduceLE,Int.reduceLT,Int.reduceToNat,Int.reduceNeg,Int.reduceAdd,Int.reduceEq,fL];done));(focus(simp only[go_sem, ↓reduceIte,Nat.reduceEqDiff,Nat.reduceAdd,Nat.reduceSub,Nat.reduceMul,Nat.reduceLeDiff,Nat.reduceBEq,reduceCtorEq,Nat.reduceLT,Int.reduceLE,Int.reduceLT,Int.reduceToNat,Int.reduceNeg,Int.reduceAdd,Int.reduceEq,fL];done)))|((first|apply AE|apply AB|apply FN);try(simp only[dn,aZ, ↓reduceIte,Nat.reduceEqDiff]);try(refine hN _ _ ?_;clear hN N))|((first|refine hN _ _ ?_|(clear hN N;first|refine hN _ _ ?_|(clear hN N;first|refine hN _ _ ?_|(clear hN N;first|refine hN _ _ ?_|(clear hN N;refine hN _ _ ?_)))));clear hN N)))
  (repeat(revert hN;revert N;apply Pn.out))
  exact kk):G:=h a r
theorem wa {A R G:Prop} (a:A) (r:R) (h:A->R->G:=by
  intro fL kk
  (repeat(refine Pn.mk ?_;intro N hN))
  (first|((first|apply CI|apply FM);intro N hN)|((first|(refine Ng rfl fun N hN=>?_)|(apply FL;intro N hN));simp only[go_sem, ↓reduceIte,Nat.reduceEqDiff,Nat.reduceAdd,Nat.reduceSub,Nat.reduceMul,Nat.reduceLeDiff,Nat.reduceBEq,reduceCtorEq,Nat.reduceLT,Int.reduceLE,Int.reduceLT,Int.reduceToNat,Int.reduceNeg,Int.reduceAdd,Int.reduceEq,fL];first|(refine hN _ _ ?_;clear hN N)|skip)|(apply uI;(simp only[go_sem, ↓reduceIte,Nat.reduceEqDiff,Nat.reduceAdd,Nat.reduceSub,Nat.reduceMul,Nat.reduceLeDiff,Nat.reduceBEq,reduceCtorEq,Nat.reduceLT,Int.reduceLE,Int.reduceLT,Int.reduceToNat,Int.reduceNeg,Int.reduceAdd,Int.reduceEq,fL];rfl);first|with_reducible apply nU.t|with_reducible apply nU.f)|(apply CH;refine hN _ _ ?_;clear hN N;try(simp only[dn,aZ, ↓reduceIte,Nat.reduceEqDiff]);try(refine hN _ _ ?_;clear hN N))|apply uH|(refine AD ?_ ?_ ?_;(focus(simp only[go_sem, ↓reduceIte,Nat.reduceEqDiff,Nat.reduceAdd,Nat.reduceSub,Nat.reduceMul,Nat.reduceLeDiff,Nat.reduceBEq,reduceCtorEq,Nat.reduceLT,Int.reduceLE,Int.reduceLT,Int.reduceToNat,Int.reduceNeg,Int.reduceAdd,Int.reduceEq,fL];done));(focus(simp only[go_sem, ↓reduceIte,Nat.reduceEqDiff,Nat.reduceAdd,Nat.reduceSub,Nat.reduceMul,Nat.reduceLeDiff,Nat.reduceBEq,reduceCtorEq,Nat.reduceLT,Int.reduceLE,Int.reduceLT,Int.reduceToNat,Int.reduceNeg,Int.reduceAdd,Int.reduceEq,fL];done)))|((first|apply AE|apply AB|apply FN);try(simp only[dn,aZ, ↓reduceIte,Nat.reduceEqDiff]);try(refine hN _ _ ?_;clear hN N))|((first|refine hN _ _ ?_|(clear hN N;first|refine hN _ _ ?_|(clear hN N;first|refine hN _ _ ?_|(clear hN N;first|refine hN _ _ ?_|(clear hN N;refine hN _ _ ?_)))));clear hN N))
  (repeat(first|((first|apply CI|apply FM);intro N hN)|((first|(refine Ng rfl fun N hN=>?_)|(apply FL;intro N hN));simp only[go_sem, ↓reduceIte,Nat.reduceEqDiff,Nat.reduceAdd,Nat.reduceSub,Nat.reduceMul,Nat.reduceLeDiff,Nat.reduceBEq,reduceCtorEq,Nat.reduceLT,Int.reduceLE,Int.reduceLT,Int.reduceToNat,Int.reduceNeg,Int.reduceAdd,Int.reduceEq,fL];first|(refine hN _ _ ?_;clear hN N)|skip)|(apply uI;(simp only[go_sem, ↓reduceIte,Nat.reduceEqDiff,Nat.reduceAdd,Nat.reduceSub,Nat.reduceMul,Nat.reduceLeDiff,Nat.reduceBEq,reduceCtorEq,Nat.reduceLT,Int.reduceLE,Int.reduceLT,Int.reduceToNat,Int.reduceNeg,Int.reduceAdd,Int.reduceEq,fL];rfl);first|with_reducible apply nU.t|with_reducible apply nU.f)|(apply CH;refine hN _ _ ?_;clear hN N;try(simp only[dn,aZ, ↓reduceIte,Nat.reduceEqDiff]);try(refine hN _ _ ?_;clear hN N))|apply uH|(refine AD ?_ ?_ ?_;(focus(simp only[go_sem, ↓reduceIte,Nat.reduceEqDiff,Nat.reduceAdd,Nat.reduceSub,Nat.reduceMul,Nat.reduceLeDiff,Nat.reduceBEq,reduceCtorEq,Nat.reduceLT,Int.reduceLE,Int.reduceLT,Int.reduceToNat,Int.reduceNeg,Int.reduceAdd,Int.reduceEq,fL];done));(focus(simp only[go_sem, ↓reduceIte,Nat.reduceEqDiff,Nat.reduceAdd,Nat.reduceSub,Nat.reduceMul,Nat.reduceLeDiff,Nat.reduceBEq,reduceCtorEq,Nat.reduceLT,Int.reduceLE,Int.reduceLT,Int.reduceToNat,Int.reduceNeg,Int.reduceAdd,Int.reduceEq,fL];done)))|((first|apply AE|apply AB|apply FN);try(simp only[dn,aZ, ↓reduceIte,Nat.reduceEqDiff]);try(refine hN _ _ ?_;clear hN N))|((first|refine hN _ _ ?_|(clear hN N;first|refine hN _ _ ?_|(clear hN N;first|refine hN _ _ ?_|(clear hN N;first|refine hN _ _ ?_|(clear hN N;refine hN _ _ ?_)))));clear hN N)))
  (repeat(revert hN;revert N;apply Pn.out))
  exact kk):G:=h a r
theorem sd {A G:Prop} (a:A) (h:A->G:=by
  intro fL
  first|(simp only[go_sem, ↓reduceIte,Nat.reduceEqDiff,Nat.reduceAdd,Nat.reduceSub,Nat.reduceMul,Nat.reduceLeDiff,Nat.reduceBEq,reduceCtorEq,Nat.reduceLT,Int.reduceLE,Int.reduceLT,Int.reduceToNat,Int.reduceNeg,Int.reduceAdd,Int.reduceEq,fL,fm,ig];done)|fail):G:=h a
theorem sl {A G:Prop} (a:A) (h:A->G:=by
  intro fL
  (try simp only[go_sem, ↓reduceIte,Nat.reduceEqDiff,Nat.reduceAdd,Nat.reduceSub,Nat.reduceMul,Nat.reduceLeDiff,Nat.reduceBEq,reduceCtorEq,Nat.reduceLT,Int.reduceLE,Int.reduceLT,Int.reduceToNat,Int.reduceNeg,Int.reduceAdd,Int.reduceEq,fL])
  try rfl):G:=h a
end Go.Proofs.YtgoelphibofcmaaGreat.V

namespace Go.Proofs.YtgoelphibofcmaaGreat.V
open Go.RowKit
variable {P:Program} {X:fE} {env:Env} {σ:au}
theorem bP (g:Rows) (n:Nat) (l:List AV):fz g (n+1) (.gP l)=(cL g n l).map AV.gP:=by rw[fz]
theorem cV (g:Rows) (n:Nat) (f:Nat) (l:List AV):fz g (n+1) (.fn f l)=if l.all AV.cell then(cL g n l).map (AV.fn f)else none:=by rw[fz]
theorem bp (g:Rows) (n:Nat) (id:Id) (i off:Nat):fz g (n+1) (.ptr id i off)=match g id with
  |some r=>if r.w then(match r.rows[i]? with
   |some cs=>(cL g n (cs.drop off)).map AV.cQ
   |none=>none)else none
  |none=>none:=by rw[fz];rfl
theorem gZ (g:Rows) (n:Nat) (id:Id) (off len:Nat):fz g (n+1) (.own id off len)=match g id with
  |some r=>if r.w then(if off+len<=r.rows.length then(dV g n ((r.rows.drop off).take len)).map AV.sl else none)else none
  |none=>none:=by rw[fz];rfl
theorem lE (g:Rows) (n:Nat):dV g n []=some []:=by rw[dV]
theorem zp (g:Rows) (n:Nat) (c:List AV) (l:List (List AV)):dV g n (c::l)=match cL g n c with
  |some b=>(dV g n l).map (b::·)
  |none=>none:=by rw[dV];cases cL g n c<;>rfl
theorem vz {g:Rows} {n:Nat}:∀{l:List (List AV)},(∀c∈l,cL g n c=some c)->dV g n l=some l
 |[],_=>by rw[dV]
 |c::r,h=>by rw[dV,h c (by simp),vz fun d hd=>h d (List.mem_cons_of_mem _ hd)];rfl
theorem qm {α:Type} {g:Rows} {n:Nat} {e:α->List AV} {l:List α} (h:∀x,cL g n (e x)=some (e x)):dV g n (l.map e)=some (l.map e):=vz fun c hc=>by
 obtain⟨x,_,rfl⟩:=List.mem_map.1 hc
 exact h x
theorem tu {α:Type} {g:Rows} {n:Nat} {e:α->List AV} {l:List α} (h:∀x,eb g n (e x)=some (e x)):gY g n (l.map e)=some (l.map e):=tr fun c hc=>by
 obtain⟨x,_,rfl⟩:=List.mem_map.1 hc
 exact h x
theorem ik {α:Type} {g:Rows} {n:Nat} {e:α->List AV} {l:List α} {id:Id} {sz len:Nat} (hg:g id=some ⟨true,sz,l.map e⟩) (hl:len=l.length) (h:∀x,cL g n (e x)=some (e x)):fz g (n+1) (.own id 0 len)=some (.sl (l.map e)):=by
 subst hl
 rw[gZ];simp only[hg,if_true]
 rw[if_pos (by simp),List.drop_zero,List.take_of_length_le (by simp),qm h];rfl
theorem fY {α:Type} {g:Rows} {n:Nat} {e:α->List AV} {l:List α} {id:Id} {sz len:Nat} (hg:g id=some ⟨true,sz,l.map e⟩) (hl:len=l.length) (h:∀x,eb g n (e x)=some (e x)):gp g (n+1) (.own id 0 len)=some (.sl (l.map e)):=by
 subst hl
 exact uv hg (by simp) (by rw[List.drop_zero,List.take_of_length_le (by simp),tu h])
theorem all_map {α:Type} {e:α->List AV} {sz:Nat} {l:List α} (h:∀x,(e x).length=sz/\(e x).all AV.cell=true):(l.map e).all (fun c=>c.length==sz&&c.all AV.cell)=true:=by
 rw[List.all_eq_true]
 intro c hc
 obtain⟨x,_,rfl⟩:=List.mem_map.1 hc
 simp[(h x).1,(h x).2]
def Qc (P:Program) (f:Nat) (args:List AV) (sz:Nat) (rows:List (List AV)):Prop:=(∀c∈rows,∀a∈c,a.plain=true)/\∀n:Nat,Call P f args ⟨fun _=>none,n⟩ fun r σ'=>∃id,r=.own id 0 rows.length/\σ'.get id=some ⟨true,sz,rows⟩
theorem Qc.x {f sz:Nat} {args eK:List AV} {rows:List (List AV)} (h:Qc P f eK sz rows) {σ:au} (hv:cL (dX σ.get) 6 args=some eK):CM (Call P) f args σ sz rows:=⟨h.1,eK,hv,h.2 _⟩
theorem Af {res:List nI} {r:AV} {vs:List AV} {x:Ex} (hx:x=.ret∨x=.normal) (hv:fm env σ.get res=some vs) (hz:fz σ.get 6 (fA vs)=some r):ku res (fun r0 σ'=>∃r',fz σ'.get 6 r0=some r'/\r'=r) x env σ:=by
 rcases hx with rfl|rfl
 ·exact⟨vs,hv,r,hz,rfl⟩
 ·exact⟨vs,hv,r,hz,rfl⟩
theorem rO {res:List nI} {r:AV} {vs:List AV} {x:Ex} (hx:x=.ret∨x=.normal) (hv:fm env σ.get res=some vs) (hz:gp σ.get 6 (fA vs)=some r):ku res (fun r0 σ'=>∃r',gp σ'.get 6 r0=some r'/\r'=r) x env σ:=by
 rcases hx with rfl|rfl
 ·exact⟨vs,hv,r,hz,rfl⟩
 ·exact⟨vs,hv,r,hz,rfl⟩
theorem fc {res:List nI} {K:AV->au->Prop} {vs:List AV} {x:Ex} (hx:x=.ret∨x=.normal) (hv:fm env σ.get res=some vs) (hK:K (fA vs) σ):ku res K x env σ:=by
 rcases hx with rfl|rfl
 ·exact⟨vs,hv,hK⟩
 ·exact⟨vs,hv,hK⟩
theorem eW {f:Nat} {args:List AV} {σ:au} {K:AV->au->Prop} {nt na:Nat} {body:VC} {res:List nI} (hf:lV P f=some ⟨nt,na,body,res⟩) (ha:na=args.length) (h:(∀a∈args,eC a)->dG (Call P) body (ku res K) (cw args) σ):Call P f args σ K:=lY hf ha h
theorem HI {f:Nat} {md:List (Nat×Nat)} {args:List AV} {σ:au} {K:AV->au->Prop} {nt na:Nat} {body:VC} {res:List nI} (hf:xr P f md=some ⟨nt,na,body,res⟩) (ha:na=args.length) (h:(∀a∈args,eC a)->dG (Call P) body (ku res K) (cw args) σ):Call P f args σ K:=uL hf ha h
theorem dq {i:Id} {n:Nat} (h:i.bq<n):(∀s,(i=⟨s,n⟩)=False/\(i=⟨s,n+1⟩)=False/\(i=⟨s,n+1+1⟩)=False/\(i=⟨s,n+1+1+1⟩)=False/\(i=⟨s,n+1+1+1+1⟩)=False/\(i=⟨s,n+1+1+1+1+1⟩)=False/\(i=⟨s,n+1+1+1+1+1+1⟩)=False/\(i=⟨s,n+1+1+1+1+1+1+1⟩)=False/\(i=⟨s,n+1+1+1+1+1+1+1+1⟩)=False/\(i=⟨s,n+1+1+1+1+1+1+1+1+1⟩)=False/\(⟨s,n⟩=i)=False/\(⟨s,n+1⟩=i)=False/\(⟨s,n+1+1⟩=i)=False/\(⟨s,n+1+1+1⟩=i)=False/\(⟨s,n+1+1+1+1⟩=i)=False/\(⟨s,n+1+1+1+1+1⟩=i)=False/\(⟨s,n+1+1+1+1+1+1⟩=i)=False/\(⟨s,n+1+1+1+1+1+1+1⟩=i)=False/\(⟨s,n+1+1+1+1+1+1+1+1⟩=i)=False/\(⟨s,n+1+1+1+1+1+1+1+1+1⟩=i)=False)/\(i.bq=n)=False/\(i.bq=n+1)=False/\(i.bq=n+1+1)=False/\(i.bq=n+1+1+1)=False/\(i.bq=n+1+1+1+1)=False/\(i.bq=n+1+1+1+1+1)=False/\(i.bq=n+1+1+1+1+1+1)=False/\(i.bq=n+1+1+1+1+1+1+1)=False/\(i.bq=n+1+1+1+1+1+1+1+1)=False/\(i.bq=n+1+1+1+1+1+1+1+1+1)=False:=by
 refine⟨fun s=>?_,?_⟩
 ·obtain⟨a,b⟩:=i
  simp only[Id.mk.injEq,eq_iff_iff,iff_false,not_and]
  simp only at h
  refine⟨?_,?_,?_,?_,?_,?_,?_,?_,?_,?_,?_,?_,?_,?_,?_,?_,?_,?_,?_,?_⟩<;>(intros;omega)
 ·simp only[eq_iff_iff,iff_false]
  refine⟨?_,?_,?_,?_,?_,?_,?_,?_,?_,?_⟩<;>omega
def gy (a b:Nat) (ids:List Id):Prop:=ids.Nodup/\∀i∈ids,a<=i.bq/\i.bq<b
def Kept (σ σ':au):Prop:=σ.next<=σ'.next/\∀j:Id,j.bq<σ.next->σ'.get j=σ.get j
theorem Kept.trans {a b c:au} (h:Kept a b) (k:Kept b c):Kept a c:=⟨Nat.le_trans h.1 k.1,fun j hj=>(k.2 j (Nat.lt_of_lt_of_le hj h.1)).trans (h.2 j hj)⟩
theorem gy.wide {a b a' b':Nat} {ids:List Id} (h:gy a b ids) (h1:a'<=a) (h2:b<=b'):gy a' b' ids:=⟨h.1,fun i hi=>⟨Nat.le_trans h1 (h.2 i hi).1,Nat.lt_of_lt_of_le (h.2 i hi).2 h2⟩⟩
theorem gy.app {a b c d:Nat} {i j:List Id} (h:gy a b i) (k:gy c d j) (N6:b<=c) (tz:a<=b) (hcd:c<=d):gy a d (i++j):=
 ⟨List.nodup_append.2 ⟨h.1,k.1,fun x hx y hy e=>by subst e;have:=(h.2 x hx).2;have:=(k.2 x hy).1;omega⟩,fun x hx=>by
  rcases List.mem_append.1 hx with hx|hx
  ·have:=h.2 x hx;omega
  ·have:=k.2 x hx;omega⟩
end Go.Proofs.YtgoelphibofcmaaGreat.V

namespace Go.Proofs.YtgoelphibofcmaaGreat.V
open Go.RowKit
attribute [local irreducible] dG wpOps gz Call
attribute [local go_sem] aL fU eV gw gr cK upd cw K.av cU AV.cells AV.cell rowOf rowsOf part ld rowAt bJ cr dK ep iC bR dj eF gq fh dz ew dh de ec ee bV bh cX bU cZ cY eu ez ev cW cj di er bS aQ db cG iA bz cN bW aX dn aZ dL AV.undef bG bK ef eo dW ea cJ eE eH cD eB eA da dc List.getD_cons_zero List.getD_cons_succ List.getD_nil List.all_cons List.all_nil Bool.and_true Bool.true_and Bool.and_self Bool.not_true Bool.not_false Option.map_some Option.map_none Option.bind_some Option.bind_none List.length_cons List.length_nil List.take_succ_cons List.take_zero List.take_nil List.drop_succ_cons List.drop_zero List.drop_nil List.head?_cons List.map_cons List.map_nil List.getElem?_cons_zero List.getElem?_cons_succ List.cons_append List.nil_append List.append_nil List.length_map List.set_cons_zero List.set_cons_succ Nat.reduceMul eq_self Int.toNat_natCast Int.natCast_nonneg and_self true_and and_true decide_true decide_false Bool.false_eq_true Nat.zero_add Nat.add_zero List.contains_cons List.contains_nil Bool.or_false Bool.false_or beq_self_eq_true Nat.reduceBEq ne_eq not_true_eq_false not_false_eq_true Id.mk.injEq false_and and_false Nat.reduceLT Int.reduceLE Int.reduceLT Int.reduceToNat Int.reduceNeg Int.reduceAdd Nat.le_refl List.length_append beq_true beq_false Bool.not_eq_eq_eq_not or_false false_or dX ai aq aH bj bE cu aW br aU bp cV bP
variable {P:Program}
def JX (f g z:Nat):AH:=let s:=f*1000000
 ⟨27,2,(.seq (.ej false [q 4 (.cR (.k (.int .i64 0))) s]) (.seq (.ej false [q 6 (.cR (.t 1)) (s+1000),q 7 (.cR (.t 0)) (s+1001),q 8 (.len (.t 7)) (s+1002),q 9 (.bin .sub .i64 (.t 6) (.t 8)) (s+1003),q 1 (.cR (.t 9)) (s+1004)]) (.seq (.seq (.ej false [q 10 (.cR (.t 1)) (s+2000),q 11 (.bin .lss .i64 (.t 10) (.k (.int .i64 0))) (s+2001)]) (.cond (.t 11) (.seq (.ej false [q 4 (.cR (.k (.int .i64 (-1)))) (s+3000)]) .ret) .skip)) (.seq (.seq (.ej false [q 5 (.cR (.k (.int .i64 0))) (s+4000)]) (.block 0 (.loop (.seq (.seq (.ej false [q 12 (.cR (.t 5)) (s+5000),q 13 (.cR (.t 0)) (s+5001),q 14 (.len (.t 13)) (s+5002),q 15 (.bin .lss .i64 (.t 12) (.t 14)) (s+5003)]) (.cond (.t 15) .skip (.exit 0))) (.seq (.block 1 (.seq (.ej false [q 18 (.cR (.t 0)) (s+7000),q 19 (.cR (.t 5)) (s+7001),q 20 (.dF z (.t 18) (.t 19)) (s+7002),q 21 (.load true z (.t 20)) (s+7003),q 22 (.cR (.t 1)) (s+7004),q 23 (.call g [(.t 21),(.t 22)]) (s+7005),q 1 (.cR (.t 23)) (s+7006)]) (.seq (.ej false [q 24 (.cR (.t 1)) (s+8000),q 25 (.bin .lss .i64 (.t 24) (.k (.int .i64 0))) (s+8001)]) (.cond (.t 25) (.seq (.ej false [q 4 (.cR (.k (.int .i64 (-1)))) (s+9000)]) .ret) .skip)))) (.ej false [q 16 (.cR (.t 5)) (s+6000),q 17 (.bin .add .i64 (.t 16) (.k (.int .i64 1))) (s+6001),q 5 (.cR (.t 17)) (s+6002)])))))) (.seq (.ej false [q 26 (.cR (.t 1)) (s+10000),q 4 (.cR (.t 26)) (s+10001)]) .ret))))),[(.tmp 4)]⟩
def JV (f:Nat):AH:=let s:=f*1000000
 ⟨12,2,(.seq (.ej false [q 4 (.cR (.k (.int .i64 0))) s]) (.seq (.ej false [q 5 (.cR (.t 1)) (s+1000),q 6 (.cR (.t 0)) (s+1001),q 7 (.len (.t 6)) (s+1002),q 8 (.bin .sub .i64 (.t 5) (.t 7)) (s+1003),q 1 (.cR (.t 8)) (s+1004)]) (.seq (.seq (.ej false [q 9 (.cR (.t 1)) (s+2000),q 10 (.bin .lss .i64 (.t 9) (.k (.int .i64 0))) (s+2001)]) (.cond (.t 10) (.seq (.ej false [q 4 (.cR (.k (.int .i64 (-1)))) (s+3000)]) .ret) .skip)) (.seq (.ej false [q 11 (.cR (.t 1)) (s+4000),q 4 (.cR (.t 11)) (s+4001)]) .ret)))),[(.tmp 4)]⟩
def Bh (f g z:Nat):AH:=let s:=f*1000000
 ⟨27,2,(.seq (.ej false [q 4 (.cR (.k (.bool false))) s]) (.seq (.seq (.ej false [q 6 (.cR (.t 0)) (s+1000),q 7 (.len (.t 6)) (s+1001),q 8 (.cR (.t 1)) (s+1002),q 9 (.len (.t 8)) (s+1003),q 10 (.NI true .tI (.t 7) (.t 9)) (s+1004)]) (.cond (.t 10) (.seq (.ej false [q 4 (.cR (.k (.bool false))) (s+2000)]) .ret) .skip)) (.seq (.seq (.ej false [q 5 (.cR (.k (.int .i64 0))) (s+3000)]) (.block 0 (.loop (.seq (.seq (.ej false [q 11 (.cR (.t 5)) (s+4000),q 12 (.cR (.t 0)) (s+4001),q 13 (.len (.t 12)) (s+4002),q 14 (.bin .lss .i64 (.t 11) (.t 13)) (s+4003)]) (.cond (.t 14) .skip (.exit 0))) (.seq (.block 1 (.seq (.ej true [q 17 (.cR (.t 0)) (s+6000),q 18 (.cR (.t 5)) (s+6001),q 19 (.dF z (.t 17) (.t 18)) (s+6002),q 20 (.load true z (.t 19)) (s+6003),q 21 (.cR (.t 1)) (s+6004),q 22 (.cR (.t 5)) (s+6005),q 23 (.dF z (.t 21) (.t 22)) (s+6006),q 24 (.load true z (.t 23)) (s+6007),q 25 (.call g [(.t 20),(.t 24)]) (s+6008),q 26 (.not (.t 25)) (s+6009)]) (.cond (.t 26) (.seq (.ej false [q 4 (.cR (.k (.bool false))) (s+7000)]) .ret) .skip))) (.ej false [q 15 (.cR (.t 5)) (s+5000),q 16 (.bin .add .i64 (.t 15) (.k (.int .i64 1))) (s+5001),q 5 (.cR (.t 16)) (s+5002)])))))) (.seq (.ej false [q 4 (.cR (.k (.bool true))) (s+8000)]) .ret)))),[(.tmp 4)]⟩
def ME (f:Nat) (t:TS):AH:=let s:=f*1000000
 ⟨26,2,(.seq (.ej false [q 4 (.cR (.k (.bool false))) s]) (.seq (.seq (.ej false [q 6 (.cR (.t 0)) (s+1000),q 7 (.len (.t 6)) (s+1001),q 8 (.cR (.t 1)) (s+1002),q 9 (.len (.t 8)) (s+1003),q 10 (.NI true .tI (.t 7) (.t 9)) (s+1004)]) (.cond (.t 10) (.seq (.ej false [q 4 (.cR (.k (.bool false))) (s+2000)]) .ret) .skip)) (.seq (.seq (.ej false [q 5 (.cR (.k (.int .i64 0))) (s+3000)]) (.block 0 (.loop (.seq (.seq (.ej false [q 11 (.cR (.t 5)) (s+4000),q 12 (.cR (.t 0)) (s+4001),q 13 (.len (.t 12)) (s+4002),q 14 (.bin .lss .i64 (.t 11) (.t 13)) (s+4003)]) (.cond (.t 14) .skip (.exit 0))) (.seq (.block 1 (.seq (.ej true [q 17 (.cR (.t 0)) (s+6000),q 18 (.cR (.t 5)) (s+6001),q 19 (.dF 1 (.t 17) (.t 18)) (s+6002),q 20 (.load false 1 (.t 19)) (s+6003),q 21 (.cR (.t 1)) (s+6004),q 22 (.cR (.t 5)) (s+6005),q 23 (.dF 1 (.t 21) (.t 22)) (s+6006),q 24 (.load false 1 (.t 23)) (s+6007),q 25 (.NI true t (.t 20) (.t 24)) (s+6008)]) (.cond (.t 25) (.seq (.ej false [q 4 (.cR (.k (.bool false))) (s+7000)]) .ret) .skip))) (.ej false [q 15 (.cR (.t 5)) (s+5000),q 16 (.bin .add .i64 (.t 15) (.k (.int .i64 1))) (s+5001),q 5 (.cR (.t 16)) (s+5002)])))))) (.seq (.ej false [q 4 (.cR (.k (.bool true))) (s+8000)]) .ret)))),[(.tmp 4)]⟩
def tQ (f g z:Nat) (zero:List K):AH:=let s:=f*1000000
 ⟨23,1,(.seq (.ej false [q 2 (.cR (.k .cC)) s]) (.seq (.ej false [q 5 (.cR (.t 0)) (s+1000),q 6 (.len (.t 5)) (s+1001),q 7 (.jV zero (.t 6) (.t 6)) (s+1002),q 3 (.cR (.t 7)) (s+1003)]) (.seq (.seq (.ej false [q 4 (.cR (.k (.int .i64 0))) (s+2000)]) (.block 0 (.loop (.seq (.seq (.ej false [q 8 (.cR (.t 4)) (s+3000),q 9 (.cR (.t 0)) (s+3001),q 10 (.len (.t 9)) (s+3002),q 11 (.bin .lss .i64 (.t 8) (.t 10)) (s+3003)]) (.cond (.t 11) .skip (.exit 0))) (.seq (.block 1 (.ej false [q 14 (.cR (.t 3)) (s+5000),q 15 (.cR (.t 4)) (s+5001),q 16 (.cR (.t 0)) (s+5002),q 17 (.cR (.t 4)) (s+5003),q 18 (.dF z (.t 16) (.t 17)) (s+5004),q 19 (.load true z (.t 18)) (s+5005),q 20 (.call g [(.t 19)]) (s+5006),q 21 (.dF z (.t 14) (.t 15)) (s+5007),⟨none,(.store z (.t 21) (.t 20)),none,(s+5008),[]⟩])) (.ej false [q 12 (.cR (.t 4)) (s+4000),q 13 (.bin .add .i64 (.t 12) (.k (.int .i64 1))) (s+4001),q 4 (.cR (.t 13)) (s+4002)])))))) (.seq (.ej false [q 22 (.cR (.t 3)) (s+6000),q 2 (.cR (.t 22)) (s+6001)]) .ret)))),[(.tmp 2)]⟩
def J8 (f:Nat) (zero:K):AH:=let s:=f*1000000
 ⟨22,1,(.seq (.ej false [q 2 (.cR (.k .cC)) s]) (.seq (.ej false [q 5 (.cR (.t 0)) (s+1000),q 6 (.len (.t 5)) (s+1001),q 7 (.jV [zero] (.t 6) (.t 6)) (s+1002),q 3 (.cR (.t 7)) (s+1003)]) (.seq (.seq (.ej false [q 4 (.cR (.k (.int .i64 0))) (s+2000)]) (.block 0 (.loop (.seq (.seq (.ej false [q 8 (.cR (.t 4)) (s+3000),q 9 (.cR (.t 0)) (s+3001),q 10 (.len (.t 9)) (s+3002),q 11 (.bin .lss .i64 (.t 8) (.t 10)) (s+3003)]) (.cond (.t 11) .skip (.exit 0))) (.seq (.block 1 (.ej false [q 14 (.cR (.t 3)) (s+5000),q 15 (.cR (.t 4)) (s+5001),q 16 (.cR (.t 0)) (s+5002),q 17 (.cR (.t 4)) (s+5003),q 18 (.dF 1 (.t 16) (.t 17)) (s+5004),q 19 (.load false 1 (.t 18)) (s+5005),q 20 (.dF 1 (.t 14) (.t 15)) (s+5006),⟨none,(.store 1 (.t 20) (.t 19)),none,(s+5007),[]⟩])) (.ej false [q 12 (.cR (.t 4)) (s+4000),q 13 (.bin .add .i64 (.t 12) (.k (.int .i64 1))) (s+4001),q 4 (.cR (.t 13)) (s+4002)])))))) (.seq (.ej false [q 21 (.cR (.t 3)) (s+6000),q 2 (.cR (.t 21)) (s+6001)]) .ret)))),[(.tmp 2)]⟩
def xM (n:Nat) (l:Int):Int:=if (n:Int)<=l then l-n else -1
theorem JW {fk:Nat} (hc:lV P fk=some (JV fk)) (rows:List (List AV)) (left:Int) (h0:0<=left) (h1:left<=1048576):aj P fk [.sl rows,.int .i64 left] (.int .i64 (xM rows.length left)):=by
 refine aj.body hc rfl fun hl n0=>?_
 try simp only[q]
 have hn:rows.length<=9223372036854775807:=(hl (.sl rows) (by simp)).len
 clear hl
 have hw:IntKind.i64.wrap (left-(rows.length:Int))=left-rows.length:=aV (by omega)
 by_cases hf:(rows.length:Int)<=left
 ·have ko:¬left-(rows.length:Int)<0:=by omega
  (try((repeat(revert hN;revert N;apply Pn.out));refine wk (tw @hw @ko) ?_;(repeat(refine Pn.mk ?_;intro N hN))))
  exact bL (b:=left-(rows.length:Int)) (.inl rfl) (sd @Nat.zero_add) (by rw[xM,if_pos hf])
 ·have ko:left-(rows.length:Int)<0:=by omega
  (try((repeat(revert hN;revert N;apply Pn.out));refine wk (tw @hw @ko) ?_;(repeat(refine Pn.mk ?_;intro N hN))))
  exact bL (b:=-1) (.inl rfl) (sd @Nat.zero_add) (by rw[xM,if_neg hf])
def iI {α:Type} (f:α->Nat) (xs:List α) (k:Nat):Nat:=((xs.take k).map f).sum
theorem mv {α:Type} (f:α->Nat) (xs:List α):iI f xs 0=0:=by simp[iI]
theorem Cv {α:Type} (f:α->Nat) (xs:List α):iI f xs xs.length=(xs.map f).sum:=by simp[iI]
theorem wP {α:Type} (f:α->Nat) {xs:List α} {k:Nat} (hk:k<xs.length):iI f xs (k+1)=iI f xs k+f xs[k]:=by
 unfold iI
 rw[List.take_succ_eq_append_getElem hk,List.map_append,List.sum_append];simp
theorem p4 {α:Type} (f:α->Nat) (xs:List α) (k:Nat):iI f xs k<=(xs.map f).sum:=by
 unfold iI
 conv=>rhs;rw[<-List.take_append_drop k xs]
 rw[List.map_append,List.sum_append];omega
theorem JY {α:Type} {e:α->List AV} {z fk gk:Nat} (wt:α->Nat) (hc:lV P fk=some (JX fk gk z)) (hz:∀x,(e x).length=z) (CQ:∀x g,cL g 6 [.agg (e x)]=some [.agg (e x)]) (xs:List α) (left:Int) (h0:0<=left) (h1:left<=1048576)
  (hg:∀x∈xs,∀l:Int,0<=l->l<=1048576->aj P gk [.agg (e x),.int .i64 l] (.int .i64 (xM (wt x) l))):aj P fk [.sl (xs.map e),.int .i64 left] (.int .i64 (xM (xs.length+(xs.map wt).sum) left)):=by
 refine aj.body hc rfl fun hl n0=>?_
 try simp only[q]
 have hn:xs.length<=9223372036854775807:=by simpa using(hl (.sl (xs.map e)) (by simp)).len
 clear hl
 have hw:IntKind.i64.wrap (left-(xs.length:Int))=left-xs.length:=aV (by omega)
 by_cases hf:(xs.length:Int)<=left
 ·have ko:¬left-(xs.length:Int)<0:=by omega
  (try((repeat(revert hN;revert N;apply Pn.out));refine wk (tw @hw @ko) ?_;(repeat(refine Pn.mk ?_;intro N hN))))
  refine aI (fun n env st=>∃k:Nat,n=(xs.length)-k/\k<=(xs.length)/\env 5=.int .i64 (k:Int)/\env 1=(.int .i64 (left-xs.length-(iI wt xs k:Nat)))/\(0<=left-xs.length-(iI wt xs k:Nat))) (xs.length) ⟨0,by omega,by omega,sl (tw @mv (tw @Int.natCast_zero @Int.sub_zero)),sl (tw @mv (tw @Int.natCast_zero @Int.sub_zero)),(by rw[mv];omega)⟩ ?_
  rintro n_a env_a st_a ⟨k,rfl,ale,a5,a1,j9⟩ dp
  have a0:=dp 0 (by kernel_rfl)
  simp only[go_sem, ↓reduceIte,Nat.reduceEqDiff,Nat.reduceAdd,Nat.reduceSub,Nat.reduceLeDiff,reduceCtorEq,mv,Int.natCast_zero,Int.sub_zero]at a0
  clear dp
  by_cases hk:(k:Int)<(xs.length:Int)
  ·have ck:∀{e:Env},(e 5=.int .i64 (IntKind.i64.wrap ((k:Int)+1)))->(e 1=(.int .i64 (left-xs.length-(iI wt xs (k+1):Nat))))->(0<=left-xs.length-(iI wt xs (k+1):Nat))->∃m0,m0<(xs.length)-k/\∃k:Nat,m0=(xs.length)-k/\k<=(xs.length)/\e 5=.int .i64 (k:Int)/\e 1=(.int .i64 (left-xs.length-(iI wt xs k:Nat)))/\(0<=left-xs.length-(iI wt xs k:Nat)):=fun x1 x2 x3=>⟨_,by omega,k+1,rfl,by omega,(by rw[x1,aA (by omega)]),x2,x3⟩
   have eZ:k<xs.length:=by omega
   have eM:(xs.map e)[k]? =some (e xs[k]):=by simp[eZ]
   have tD:=hz xs[k]
   have ht:(e xs[k]).take z=e xs[k]:=by rw[<-tD,List.take_length]
   have hs:=wP wt eZ
   have DL:=p4 wt xs (k+1)
   have il:=hg _ (List.getElem_mem eZ) (left-xs.length-(iI wt xs k:Nat)) j9 (by omega)
   have kh:cL (dX st_a.get) 6 [.agg (e xs[k]),.int .i64 (left-xs.length-(iI wt xs k:Nat))]=some [.agg (e xs[k]),.int .i64 (left-xs.length-(iI wt xs k:Nat))]:=by
    have q1:=CQ xs[k] (dX st_a.get)
    rw[ai,aq]at q1
    rw[ai,ai,aq,aH]
    revert q1
    cases V.fz (dX st_a.get) 6 (.agg (e xs[k]))<;>simp
   by_cases Bw:(wt xs[k]:Int)<=left-xs.length-(iI wt xs k:Nat)
   ·rw[xM,if_pos Bw]at il
    have BD:¬left-xs.length-(iI wt xs k:Nat)-(wt xs[k]:Int)<0:=by omega
    have jf:left-xs.length-(iI wt xs k:Nat)-(wt xs[k]:Int)=left-xs.length-(iI wt xs (k+1):Nat):=by rw[hs];omega
    generalize hex:e xs[k]=c at il kh eM tD ht
    (try((repeat(revert hN;revert N;apply Pn.out));refine wk (tw @a5 (tw @a1 (tw @a0 (tw @hk (tw @eM (tw @tD (tw @ht @Nat.le_refl))))))) ?_;(repeat(refine Pn.mk ?_;intro N hN))))
    refine .inl ⟨_,aj.x il kh,?_⟩
    refine hN _ _ ?_
    clear hN N
    (try((repeat(revert hN;revert N;apply Pn.out));refine wk (tw @a5 (tw @a1 (tw @a0 @BD))) ?_;(repeat(refine Pn.mk ?_;intro N hN))))
    refine ck ?_ ?_ ((by rw[hs];omega))
    all_goals simp only[go_sem, ↓reduceIte,Nat.reduceEqDiff,Nat.reduceAdd,Nat.reduceSub,Nat.reduceLeDiff,reduceCtorEq,a5,a1,a0,jf]
   ·rw[xM,if_neg Bw]at il
    generalize hex:e xs[k]=c at il kh eM tD ht
    (try((repeat(revert hN;revert N;apply Pn.out));refine wk (tw @a5 (tw @a1 (tw @a0 (tw @hk (tw @eM (tw @tD (tw @ht @Nat.le_refl))))))) ?_;(repeat(refine Pn.mk ?_;intro N hN))))
    refine .inl ⟨_,aj.x il kh,?_⟩
    refine hN _ _ ?_
    clear hN N
    (try((repeat(revert hN;revert N;apply Pn.out));refine wk (tw @a5 (tw @a1 @a0)) ?_;(repeat(refine Pn.mk ?_;intro N hN))))
    exact bL (b:=-1) (.inl rfl) (sd @Nat.zero_add) (by rw[xM,if_neg (by omega)])
  ·(try((repeat(revert hN;revert N;apply Pn.out));refine wk (tw @a5 (tw @a1 (tw @a0 @hk))) ?_;(repeat(refine Pn.mk ?_;intro N hN))))
   have eZ:k=xs.length:=by omega
   subst eZ
   have Ku:=Cv wt xs
   exact bL (b:=left-xs.length-(iI wt xs xs.length:Nat)) (.inl rfl) (sd (tw @a5 (tw @a1 @a0))) (by rw[xM,if_pos (by omega)];omega)
 ·have ko:left-(xs.length:Int)<0:=by omega
  (try((repeat(revert hN;revert N;apply Pn.out));refine wk (tw @hw @ko) ?_;(repeat(refine Pn.mk ?_;intro N hN))))
  exact bL (b:=-1) (.inl rfl) (sd @Nat.zero_add) (by rw[xM,if_neg (by omega)])
theorem Is {α:Type} {xs ys:List α} (hl:xs.length=ys.length) (h:∀j:Nat,j<xs.length->∀(h1:j<xs.length) (h2:j<ys.length),xs[j]=ys[j]):xs=ys:=List.ext_getElem hl fun j h1 h2=>h j h1 h1 h2
theorem zk {α:Type} [DecidableEq α] {e:α->List AV} {z fk gk:Nat} (hc:lV P fk=some (Bh fk gk z)) (hz:∀x,(e x).length=z) (CQ:∀x g,cL g 6 [.agg (e x)]=some [.agg (e x)]) (xs ys:List α)
  (hg:∀x y,aj P gk [.agg (e x),.agg (e y)] (.bool (decide (x=y)))):aj P fk [.sl (xs.map e),.sl (ys.map e)] (.bool (decide (xs=ys))):=by
 refine aj.body hc rfl fun hl n0=>?_
 try simp only[q]
 have hn:xs.length<=9223372036854775807:=by simpa using(hl (.sl (xs.map e)) (by simp)).len
 clear hl
 by_cases hlen:xs.length=ys.length
 ·have kS:decide ((xs.length:Int)=(ys.length:Int))=true:=by simp[hlen]
  (try((repeat(revert hN;revert N;apply Pn.out));refine wk @kS ?_;(repeat(refine Pn.mk ?_;intro N hN))))
  refine aI (fun n env st=>∃k:Nat,n=(xs.length)-k/\k<=(xs.length)/\env 5=.int .i64 (k:Int)/\(∀j:Nat,j<k->∀(h1:j<xs.length) (h2:j<ys.length),xs[j]=ys[j])) (xs.length) ⟨0,by omega,by omega,sl @Nat.zero_add,fun _ h=>absurd h (Nat.not_lt_zero _)⟩ ?_
  rintro n_a env_a st_a ⟨k,rfl,ale,a5,lU⟩ dp
  have a0:=dp 0 (by kernel_rfl);have a1:=dp 1 (by kernel_rfl)
  simp only[go_sem, ↓reduceIte,Nat.reduceEqDiff,Nat.reduceAdd,Nat.reduceSub,Nat.reduceLeDiff,reduceCtorEq]at a0 a1
  clear dp
  by_cases hk:(k:Int)<(xs.length:Int)
  ·have ck:∀{e:Env},(e 5=.int .i64 (IntKind.i64.wrap ((k:Int)+1)))->(∀(h1:k<xs.length) (h2:k<ys.length),xs[k]=ys[k])->∃m0,m0<(xs.length)-k/\∃k:Nat,m0=(xs.length)-k/\k<=(xs.length)/\e 5=.int .i64 (k:Int)/\(∀j:Nat,j<k->∀(h1:j<xs.length) (h2:j<ys.length),xs[j]=ys[j]):=fun x1 x2=>⟨_,by omega,k+1,rfl,by omega,(by rw[x1,aA (by omega)]),(all_succ lU x2)⟩
   have eZ:k<xs.length:=by omega
   have Sw:k<ys.length:=by omega
   have eM:(xs.map e)[k]? =some (e xs[k]):=by simp[eZ]
   have DE:(ys.map e)[k]? =some (e ys[k]):=by simp[Sw]
   have tD:=hz xs[k]
   have DO:=hz ys[k]
   have ht:(e xs[k]).take z=e xs[k]:=by rw[<-tD,List.take_length]
   have HC:(e ys[k]).take z=e ys[k]:=by rw[<-DO,List.take_length]
   have il:=hg xs[k] ys[k]
   have kh:∀g,cL g 6 [.agg (e xs[k]),.agg (e ys[k])]=some [.agg (e xs[k]),.agg (e ys[k])]:=fun g=>by
    have q1:=CQ xs[k] g
    have q2:=CQ ys[k] g
    rw[ai,aq]at q1
    rw[ai,q2]
    revert q1
    cases V.fz g 6 (.agg (e xs[k]))<;>simp
   by_cases heq:xs[k]=ys[k]
   ·rw[decide_eq_true heq]at il
    generalize hex:e xs[k]=c at il kh eM tD ht
    generalize hey:e ys[k]=d at il kh DE DO HC
    (try((repeat(revert hN;revert N;apply Pn.out));refine wk (tw @a5 (tw @a0 (tw @a1 (tw @hk (tw @eM (tw @DE (tw @tD (tw @DO (tw @ht (tw @HC @Nat.le_refl)))))))))) ?_;(repeat(refine Pn.mk ?_;intro N hN))))
    refine⟨_,aj.x il (kh _),?_⟩
    refine hN _ _ ?_
    clear hN N
    (try((repeat(revert hN;revert N;apply Pn.out));refine wk (tw @a5 (tw @a0 @a1)) ?_;(repeat(refine Pn.mk ?_;intro N hN))))
    exact ck (sd (tw @a5 (tw @a0 @a1))) (fun _ _=>heq)
   ·rw[decide_eq_false heq]at il
    generalize hex:e xs[k]=c at il kh eM tD ht
    generalize hey:e ys[k]=d at il kh DE DO HC
    (try((repeat(revert hN;revert N;apply Pn.out));refine wk (tw @a5 (tw @a0 (tw @a1 (tw @hk (tw @eM (tw @DE (tw @tD (tw @DO (tw @ht (tw @HC @Nat.le_refl)))))))))) ?_;(repeat(refine Pn.mk ?_;intro N hN))))
    refine⟨_,aj.x il (kh _),?_⟩
    refine hN _ _ ?_
    clear hN N
    (try((repeat(revert hN;revert N;apply Pn.out));refine wk (tw @a5 (tw @a0 @a1)) ?_;(repeat(refine Pn.mk ?_;intro N hN))))
    exact aP (b:=false) (.inl rfl) (sd @Nat.zero_add) (decide_eq_false fun h=>heq (List.getElem_of_eq h _)).symm
  ·(try((repeat(revert hN;revert N;apply Pn.out));refine wk (tw @a5 (tw @a0 (tw @a1 @hk))) ?_;(repeat(refine Pn.mk ?_;intro N hN))))
   exact aP (b:=true) (.inl rfl) (sd @Nat.zero_add) (decide_eq_true (Is hlen fun j hj h1 h2=>lU j (by omega) h1 h2)).symm
 ·have kS:decide ((xs.length:Int)=(ys.length:Int))=false:=decide_eq_false fun h=>hlen (by omega)
  (try((repeat(revert hN;revert N;apply Pn.out));refine wk @kS ?_;(repeat(refine Pn.mk ?_;intro N hN))))
  exact aP (b:=false) (.inl rfl) (sd @Nat.zero_add) (decide_eq_false fun h=>hlen (by subst h;rfl)).symm
theorem Qp {fk:Nat} (hc:lV P fk=some (ME fk .tI)) (xs ys:List Int):
  aj P fk [.sl (xs.map fun x=>[AV.int .i64 x]),.sl (ys.map fun x=>[AV.int .i64 x])] (.bool (decide (xs=ys))):=by
 refine aj.body hc rfl fun hl n0=>?_
 try simp only[q]
 have hn:xs.length<=9223372036854775807:=by simpa using(hl (.sl (xs.map fun x=>[AV.int .i64 x])) (by simp)).len
 clear hl
 by_cases hlen:xs.length=ys.length
 ·have kS:decide ((xs.length:Int)=(ys.length:Int))=true:=by simp[hlen]
  (try((repeat(revert hN;revert N;apply Pn.out));refine wk @kS ?_;(repeat(refine Pn.mk ?_;intro N hN))))
  refine aI (fun n env st=>∃k:Nat,n=(xs.length)-k/\k<=(xs.length)/\env 5=.int .i64 (k:Int)/\(∀j:Nat,j<k->∀(h1:j<xs.length) (h2:j<ys.length),xs[j]=ys[j])) (xs.length) ⟨0,by omega,by omega,sl @Nat.zero_add,fun _ h=>absurd h (Nat.not_lt_zero _)⟩ ?_
  rintro n_a env_a st_a ⟨k,rfl,ale,a5,lU⟩ dp
  have a0:=dp 0 (by kernel_rfl);have a1:=dp 1 (by kernel_rfl)
  simp only[go_sem, ↓reduceIte,Nat.reduceEqDiff,Nat.reduceAdd,Nat.reduceSub,Nat.reduceLeDiff,reduceCtorEq]at a0 a1
  clear dp
  by_cases hk:(k:Int)<(xs.length:Int)
  ·have ck:∀{e:Env},(e 5=.int .i64 (IntKind.i64.wrap ((k:Int)+1)))->(∀(h1:k<xs.length) (h2:k<ys.length),xs[k]=ys[k])->∃m0,m0<(xs.length)-k/\∃k:Nat,m0=(xs.length)-k/\k<=(xs.length)/\e 5=.int .i64 (k:Int)/\(∀j:Nat,j<k->∀(h1:j<xs.length) (h2:j<ys.length),xs[j]=ys[j]):=fun x1 x2=>⟨_,by omega,k+1,rfl,by omega,(by rw[x1,aA (by omega)]),(all_succ lU x2)⟩
   have eZ:k<xs.length:=by omega
   have Sw:k<ys.length:=by omega
   have eM:(xs.map fun x=>[AV.int .i64 x])[k]? =some [.int .i64 xs[k]]:=by simp[eZ]
   have DE:(ys.map fun x=>[AV.int .i64 x])[k]? =some [.int .i64 ys[k]]:=by simp[Sw]
   by_cases heq:xs[k]=ys[k]
   ·have hq:=decide_eq_true heq
    (try((repeat(revert hN;revert N;apply Pn.out));refine wk (tw @a5 (tw @a0 (tw @a1 (tw @hk (tw @eM (tw @DE @hq)))))) ?_;(repeat(refine Pn.mk ?_;intro N hN))))
    exact ck (sd (tw @a5 (tw @a0 @a1))) (fun _ _=>heq)
   ·have hq:=decide_eq_false heq
    (try((repeat(revert hN;revert N;apply Pn.out));refine wk (tw @a5 (tw @a0 (tw @a1 (tw @hk (tw @eM (tw @DE @hq)))))) ?_;(repeat(refine Pn.mk ?_;intro N hN))))
    exact aP (b:=false) (.inl rfl) (sd @Nat.zero_add) (decide_eq_false fun h=>heq (List.getElem_of_eq h _)).symm
  ·(try((repeat(revert hN;revert N;apply Pn.out));refine wk (tw @a5 (tw @a0 (tw @a1 @hk))) ?_;(repeat(refine Pn.mk ?_;intro N hN))))
   exact aP (b:=true) (.inl rfl) (sd @Nat.zero_add) (decide_eq_true (Is hlen fun j hj h1 h2=>lU j (by omega) h1 h2)).symm
 ·have kS:decide ((xs.length:Int)=(ys.length:Int))=false:=decide_eq_false fun h=>hlen (by omega)
  (try((repeat(revert hN;revert N;apply Pn.out));refine wk @kS ?_;(repeat(refine Pn.mk ?_;intro N hN))))
  exact aP (b:=false) (.inl rfl) (sd @Nat.zero_add) (decide_eq_false fun h=>hlen (by subst h;rfl)).symm
theorem uR (l:List AV):l++[]=l:=List.append_nil l
def gL {α:Type} (e:α->List AV) (zc:List AV) (xs:List α) (k:Nat):List (List AV):=(xs.take k).map e++List.replicate (xs.length-k) zc
theorem oq {α:Type} (e:α->List AV) (zc:List AV) (xs:List α):List.replicate xs.length zc=gL e zc xs 0:=by simp[gL]
theorem qg {α:Type} (e:α->List AV) (zc:List AV) (xs:List α):gL e zc xs xs.length=xs.map e:=by simp[gL]
theorem qh {α:Type} (e:α->List AV) (zc:List AV) (xs:List α) {k:Nat} (hk:k<xs.length):(gL e zc xs k)[k]? =some zc:=by
 have h1:((xs.take k).map e).length=k:=by simp;omega
 rw[gL,List.getElem?_append_right (by omega),h1,Nat.sub_self,List.getElem?_replicate,if_pos (by omega)]
theorem qi {α:Type} (e:α->List AV) (zc:List AV) (xs:List α) {k:Nat} (hk:k<xs.length):(gL e zc xs k).set k (e xs[k])=gL e zc xs (k+1):=by
 have h1:((xs.take k).map e).length=k:=by simp;omega
 rw[gL,List.set_append_right _ _ (by omega),h1,Nat.sub_self,gL,List.take_succ_eq_append_getElem hk,List.map_append,List.append_assoc]
 congr 1
 obtain⟨m,hm⟩:∃m,xs.length-k=m+1:=⟨xs.length-k-1,by omega⟩
 rw[hm,show xs.length-(k+1)=m by omega,List.replicate_succ]
 rfl
theorem ED {α:Type} {en:α->List AV} {z fk gk:Nat} {zero:List K} (hc:lV P fk=some (tQ fk gk z zero)) (HE:zero.length=z) (hz:∀x,(en x).length=z) (kg:∀x,(en x).all AV.cell=true) (CQ:∀x g,cL g 5 (en x)=some (en x)) (xs:List α) (hlen:xs.length<=1048576)
  (hg:∀x∈xs,km P gk [.agg (en x)] (.agg (en x))):km P fk [.sl (xs.map en)] (.sl (xs.map en)):=by
 refine km.body hc rfl fun hl σ=>?_
 try simp only[q]
 clear hl
 have hm:(xs.length:Int)<=((16777216:Nat):Int):=by omega
 have h0:(0:Int)<=(xs.length:Int):=by omega
 (try((repeat(revert hN;revert N;apply Pn.out));refine wk (tw @hm (tw @h0 (tw @Int.le_refl (tw (oq en (zero.map K.av) xs) @HE)))) ?_;(repeat(refine Pn.mk ?_;intro N hN))))
 refine aI (fun n env st=>∃k:Nat,n=(xs.length)-k/\k<=(xs.length)/\env 4=.int .i64 (k:Int)/\st.get ⟨fk*1000000+1002,σ.next+1⟩=some ⟨true,z,gL en (zero.map K.av) xs k⟩) (xs.length) ⟨0,by omega,by omega,sl @Nat.zero_add,sl @Nat.zero_add⟩ ?_
 rintro n_a env_a st_a ⟨k,rfl,ale,a4,ag0⟩ dp
 have a0:=dp 0 (by kernel_rfl);have a3:=dp 3 (by kernel_rfl)
 simp only[go_sem, ↓reduceIte,Nat.reduceEqDiff,Nat.reduceAdd,Nat.reduceSub,Nat.reduceLeDiff,reduceCtorEq]at a0 a3
 clear dp
 by_cases hk:(k:Int)<(xs.length:Int)
 ·have ck:∀{e:Env} {gg:Rows},(e 4=.int .i64 (IntKind.i64.wrap ((k:Int)+1)))->(gg ⟨fk*1000000+1002,σ.next+1⟩=some ⟨true,z,gL en (zero.map K.av) xs (k+1)⟩)->∃m0,m0<(xs.length)-k/\∃k:Nat,m0=(xs.length)-k/\k<=(xs.length)/\e 4=.int .i64 (k:Int)/\gg ⟨fk*1000000+1002,σ.next+1⟩=some ⟨true,z,gL en (zero.map K.av) xs k⟩:=fun x1 x2=>⟨_,by omega,k+1,rfl,by omega,(by rw[x1,aA (by omega)]),x2⟩
  have eZ:k<xs.length:=by omega
  have eM:(xs.map en)[k]? =some (en xs[k]):=by simp[eZ]
  have tD:=hz xs[k]
  have Kx:=kg xs[k]
  have ht:(en xs[k]).take z=en xs[k]:=by rw[<-tD,List.take_length]
  have il:=hg _ (List.getElem_mem eZ)
  have fy:=qh en (zero.map K.av) xs eZ
  have dO:=qi en (zero.map K.av) xs eZ
  have IG:(zero.map K.av).drop z=[]:=List.drop_of_length_le (by simp[HE])
  generalize hex:en xs[k]=c at il eM tD ht Kx dO
  (repeat(first|((repeat(revert hN;revert N;apply Pn.out));refine wk (tw @a4 (tw @ag0 (tw @a0 (tw @a3 (tw @hk (tw @eM (tw @tD (tw @ht (tw @Nat.le_refl (tw @fy (tw @dO (tw @IG (tw @uR (tw @Kx @HE)))))))))))))) ?_;(repeat(refine Pn.mk ?_;intro N hN)))|((try apply Or.inl);refine⟨_,km.x (il) _,?_⟩;refine hN _ _ ?_;clear hN N)))
  refine ck ?_ ?_
  all_goals simp only[go_sem, ↓reduceIte,Nat.reduceEqDiff,Nat.reduceAdd,Nat.reduceSub,Nat.reduceLeDiff,reduceCtorEq,a4,ag0,a0,a3]
 ·(try((repeat(revert hN;revert N;apply Pn.out));refine wk (tw @a4 (tw @ag0 (tw @a0 (tw @a3 @hk)))) ?_;(repeat(refine Pn.mk ?_;intro N hN))))
  have eZ:k=xs.length:=by omega
  subst eZ
  refine Rx (.inl rfl) (r0:=.own ⟨fk*1000000+1002,σ.next+1⟩ 0 xs.length) (sd (tw @a4 (tw @ag0 (tw @a0 @a3)))) ?_
  rw[qg]at ag0
  exact ik ag0 (by simp) fun x=>CQ x _
theorem RE {fk:Nat} (hc:lV P fk=some (J8 fk (.int .i64 0))) (xs:List Int) (hlen:xs.length<=1048576):km P fk [.sl (xs.map fun x=>[AV.int .i64 x])] (.sl (xs.map fun x=>[AV.int .i64 x])):=by
 refine km.body hc rfl fun hl σ=>?_
 try simp only[q]
 clear hl
 obtain⟨en,Hv⟩:∃en:Int->List AV,en=fun x=>[AV.int .i64 x]:=⟨_,rfl⟩
 rw[<-Hv]
 have hm:(xs.length:Int)<=((16777216:Nat):Int):=by omega
 have h0:(0:Int)<=(xs.length:Int):=by omega
 (try((repeat(revert hN;revert N;apply Pn.out));refine wk (tw @hm (tw @h0 (tw @Int.le_refl (oq en [AV.int .i64 0] xs)))) ?_;(repeat(refine Pn.mk ?_;intro N hN))))
 refine aI (fun n env st=>∃k:Nat,n=(xs.length)-k/\k<=(xs.length)/\env 4=.int .i64 (k:Int)/\st.get ⟨fk*1000000+1002,σ.next+1⟩=some ⟨true,1,gL en [AV.int .i64 0] xs k⟩) (xs.length) ⟨0,by omega,by omega,sl @Nat.zero_add,sl @Nat.zero_add⟩ ?_
 rintro n_a env_a st_a ⟨k,rfl,ale,a4,ag0⟩ dp
 have a0:=dp 0 (by kernel_rfl);have a3:=dp 3 (by kernel_rfl)
 simp only[go_sem, ↓reduceIte,Nat.reduceEqDiff,Nat.reduceAdd,Nat.reduceSub,Nat.reduceLeDiff,reduceCtorEq]at a0 a3
 clear dp
 by_cases hk:(k:Int)<(xs.length:Int)
 ·have ck:∀{e:Env} {gg:Rows},(e 4=.int .i64 (IntKind.i64.wrap ((k:Int)+1)))->(gg ⟨fk*1000000+1002,σ.next+1⟩=some ⟨true,1,gL en [AV.int .i64 0] xs (k+1)⟩)->∃m0,m0<(xs.length)-k/\∃k:Nat,m0=(xs.length)-k/\k<=(xs.length)/\e 4=.int .i64 (k:Int)/\gg ⟨fk*1000000+1002,σ.next+1⟩=some ⟨true,1,gL en [AV.int .i64 0] xs k⟩:=fun x1 x2=>⟨_,by omega,k+1,rfl,by omega,(by rw[x1,aA (by omega)]),x2⟩
  have eZ:k<xs.length:=by omega
  have eM:(xs.map en)[k]? =some [AV.int .i64 xs[k]]:=by simp[eZ,Hv]
  have fy:=qh en [AV.int .i64 0] xs eZ
  have dO:=qi en [AV.int .i64 0] xs eZ
  rw[show en xs[k]=[AV.int .i64 xs[k]] by rw[Hv]]at dO
  (try((repeat(revert hN;revert N;apply Pn.out));refine wk (tw @a4 (tw @ag0 (tw @a0 (tw @a3 (tw @hk (tw @eM (tw @fy @dO))))))) ?_;(repeat(refine Pn.mk ?_;intro N hN))))
  refine ck ?_ ?_
  all_goals simp only[go_sem, ↓reduceIte,Nat.reduceEqDiff,Nat.reduceAdd,Nat.reduceSub,Nat.reduceLeDiff,reduceCtorEq,a4,ag0,a0,a3]
 ·(try((repeat(revert hN;revert N;apply Pn.out));refine wk (tw @a4 (tw @ag0 (tw @a0 (tw @a3 @hk)))) ?_;(repeat(refine Pn.mk ?_;intro N hN))))
  have eZ:k=xs.length:=by omega
  subst eZ
  refine Rx (.inl rfl) (r0:=.own ⟨fk*1000000+1002,σ.next+1⟩ 0 xs.length) (sd (tw @a4 (tw @ag0 (tw @a0 @a3)))) ?_
  rw[qg]at ag0
  exact ik ag0 (by simp) fun x=>by simp[Hv,ai,aq,aH]
end Go.Proofs.YtgoelphibofcmaaGreat.V

namespace Go.Proofs.YtgoelphibofcmaaGreat
open Go.RowKit
def Sl (w:World) (fp:List Nat) (v:Value) (n:Nat) (xs:List Value):Prop:=
 ∃A c,v=.slice A n c/\n<=c/\c<=maxLen/\
  ((fp=[]/\n=0)∨∃b o,fp=[b]/\A=some ⟨b,o,none⟩/\∀j u,xs[j]? =some u->w.cell? ⟨b,o+j,none⟩=some u)
def fI (fp:List Nat) (lo hi:Nat):Prop:=∀b∈fp,lo<=b/\b<hi
theorem fI.nil (lo hi:Nat):fI [] lo hi:=fun _ h=>by cases h
theorem Sl.nil (w:World):Sl w [] (.slice none 0 0) 0 []:=⟨none,0,rfl,Nat.le_refl _,by simp[maxLen],.inl ⟨rfl,rfl⟩⟩
def Nl {α:Type} (rep:World->List Nat->List Value->α->Prop) (sz:Nat) (w:World) (ot:List (List Value)) (E8:List (List Nat)) (ds:List α):Prop:=
 ot.length=ds.length/\E8.length=ds.length/\∀(i:Nat) (cs:List Value) (f:List Nat) (d:α),ot[i]? =some cs->E8[i]? =some f->ds[i]? =some d->rep w f cs d/\cs.length=sz
def mL {α:Type} (rep:World->List Nat->List Value->α->Prop) (sz:Nat) (w:World) (fp:List Nat) (v:Value) (ds:List α):Prop:=
 ∃ot E8 Th,fp=Th++E8.flatten/\Sl w Th v ds.length ot.flatten/\Nl rep sz w ot E8 ds
theorem qD {α:Type} {E8:List (List α)} {i:Nat} {f:List α} (h:E8[i]? =some f):∀b∈f,b∈E8.flatten:=fun b hb=>
 List.mem_flatten.2 ⟨f,List.mem_of_getElem? h,hb⟩
theorem tq {α:Type} {ot:List (List α)} {sz:Nat} (h:∀cs∈ot,cs.length=sz) {i j:Nat} {cs:List α} (hi:ot[i]? =some cs) (hj:j<sz):ot.flatten[i*sz+j]? =cs[j]? :=by
 induction ot generalizing i with
 |nil=>simp at hi
 |cons c r ih=>
  have hc:c.length=sz:=h c (by simp)
  cases i with
  |zero=>
   simp at hi;subst hi
   rw[List.flatten_cons,List.getElem?_append_left (by omega)];simp
  |succ i=>
   rw[List.flatten_cons,List.getElem?_append_right (by rw[hc,Nat.succ_mul];omega)]
   have:(i+1)*sz+j-c.length=i*sz+j:=by rw[hc,Nat.succ_mul];omega
   rw[this]
   exact ih (fun cs dw=>h cs (List.mem_cons_of_mem _ dw)) (by simpa using hi)
theorem Nl.lens {α:Type} {rep:World->List Nat->List Value->α->Prop} {sz:Nat} {w:World} {ot:List (List Value)} {E8:List (List Nat)} {ds:List α}
  (h:Nl rep sz w ot E8 ds):∀cs∈ot,cs.length=sz:=fun cs dw=>by
 obtain⟨i,hi,rfl⟩:=List.getElem_of_mem dw
 have h1:i<E8.length:=by rw[h.2.1,<-h.1];exact hi
 have h2:i<ds.length:=by rw[<-h.1];exact hi
 exact(h.2.2 i _ _ _ (List.getElem?_eq_getElem hi) (List.getElem?_eq_getElem h1) (List.getElem?_eq_getElem h2)).2
theorem mL.at_ {α:Type} {rep:World->List Nat->List Value->α->Prop} {sz:Nat} {w:World} {fp:List Nat} {A:Option Addr} {n c:Nat} {ds:List α}
  (h:mL rep sz w fp (.slice A n c) ds) (k:Nat) (hk:k<ds.length):
  ∃b o cs f,A=some ⟨b,o,none⟩/\b∈fp/\(∀x∈f,x∈fp)/\rep w f cs ds[k]/\cs.length=sz/\∀j u,cs[j]? =some u->w.cell? ⟨b,o+(k*sz+j),none⟩=some u:=by
 obtain⟨ot,E8,Th,rfl,⟨A',c',hv,_,_,hc⟩,hr⟩:=h
 simp only[Value.slice.injEq]at hv
 obtain⟨rfl,hn,rfl⟩:=hv
 rcases hc with⟨_,h0⟩|⟨b,o,rfl,rfl,hc⟩
 ·omega
 have h1:k<ot.length:=by rw[hr.1];exact hk
 have h2:k<E8.length:=by rw[hr.2.1];exact hk
 obtain⟨gH,hl⟩:=hr.2.2 k _ _ _ (List.getElem?_eq_getElem h1) (List.getElem?_eq_getElem h2) (List.getElem?_eq_getElem hk)
 refine⟨b,o,ot[k],E8[k],rfl,by simp,fun x hx=>List.mem_append_right _ (qD (List.getElem?_eq_getElem h2) x hx),gH,hl,fun j u hj=>?_⟩
 have gR:j<sz:=by rw[<-hl];exact(List.getElem?_eq_some_iff.1 hj).1
 exact hc _ u (by rw[tq hr.lens (List.getElem?_eq_getElem h1) gR];exact hj)
theorem mL.len {α:Type} {rep:World->List Nat->List Value->α->Prop} {sz:Nat} {w:World} {fp:List Nat} {v:Value} {ds:List α}
  (h:mL rep sz w fp v ds):∃A c,v=.slice A ds.length c/\ds.length<=c/\c<=maxLen:=by
 obtain⟨_,_,_,_,⟨A,c,hv,h1,h2,_⟩,_⟩:=h
 exact⟨A,c,hv,h1,h2⟩
theorem mL.nil {α:Type} (rep:World->List Nat->List Value->α->Prop) (sz:Nat) (w:World):mL rep sz w [] (.slice none 0 0) ([]:List α):=
 ⟨[],[],[],rfl,Sl.nil w,rfl,rfl,fun i cs f d hc=>by simp at hc⟩
def Flat {α:Type} (enc:α->List Value):World->List Nat->List Value->α->Prop:=fun _ f cs d=>f=[]/\cs=enc d
end Go.Proofs.YtgoelphibofcmaaGreat

namespace Go.Proofs.YtgoelphibofcmaaGreat
open Go.RowKit
def Q (w w':World):Prop:=∃q,w'=w.drewN q
theorem Q.refl (w:World):Q w w:=⟨0,rfl⟩
theorem Q.d {w w':World} (h:Q w w') (n:Nat):Q w (w'.drewN n):=by obtain⟨q,rfl⟩:=h;exact⟨q+n,by rw[World.drewN_drewN]⟩
theorem Q.d1 {w w':World} (h:Q w w'):Q w w'.drew:=by obtain⟨q,rfl⟩:=h;exact⟨q+1,rfl⟩
theorem Q.n (w:World) (n:Nat):Q w (w.drewN n):=⟨n,rfl⟩
theorem Q.trans {a b c:World} (h:Q a b) (k:Q b c):Q a c:=by obtain⟨q,rfl⟩:=k;exact h.d q
theorem H6 {B:Nat} {a w:World} (h:Below B a w) (n:Nat):Below B a (w.drewN n):=⟨h.os,h.tape,h.output,h.size,h.block⟩
theorem Q.below {w w':World} (h:Q w w'):Below w.heap.size w w':=by obtain⟨q,rfl⟩:=h;exact H6 (Below.refl _ _) q
theorem iE {a b:Bool} (h:a=b):Ending.returned (.bool a)=.returned (.bool b):=by rw[h]
theorem FF {k:IntKind} {a b:Int} (h:a=b):Ending.returned (.int k a)=.returned (.int k b):=by rw[h]
end Go.Proofs.YtgoelphibofcmaaGreat

namespace Go.Proofs.YtgoelphibofcmaaGreat
open Go.RowKit
end Go.Proofs.YtgoelphibofcmaaGreat

namespace Go.Proofs.YtgoelphibofcmaaGreat
open Go.RowKit
end Go.Proofs.YtgoelphibofcmaaGreat

namespace Go.Proofs.YtgoelphibofcmaaGreat
open Go.RowKit
structure ar where
 eY:Int
 eU:Int
deriving DecidableEq
structure ah where
 aO:ar
 bd:Int
deriving DecidableEq
structure dI where
 ae:List ah
deriving DecidableEq
structure fB where
 aD:ByteArray
 eh:Int
deriving DecidableEq
structure eT where
 aD:ByteArray
 bt:List Int
deriving DecidableEq
structure aw where
 aB:List fB
 ae:List eT
deriving DecidableEq
structure aM where
 ax:aw
 bF:dI
 az:Int
deriving DecidableEq
def Ga (d:Int):List Value:=[.int .i64 d]
def EP:=Flat Ga
def fH (d:ar):List Value:=[.int .i64 d.eY,.int .i64 d.eU]
def Dh (d:ah):List Value:=[.int .i64 d.aO.eY,.int .i64 d.aO.eU,.int .i64 d.bd]
def AR:=Flat Dh
def ja:=mL AR 3
def Il (d:fB):List Value:=[.string d.aD,.int .i64 d.eh]
def HQ:=Flat Il
def qQ:=mL HQ 2
def uP:=mL EP 1
def HR (w:World) (f:List Nat) (cs:List Value) (d:eT):Prop:=
 ∃v1 f1,f=f1/\cs=[.string d.aD,v1]/\uP w f1 v1 d.bt
def qR:=mL HR 2
end Go.Proofs.YtgoelphibofcmaaGreat

namespace Go.Proofs.YtgoelphibofcmaaGreat.V
open Go.RowKit
variable {P:Program} {w:World} {D:Nat->Prop}
def HL (P:Program) (w:World) (D:Nat->Prop) (al:List AV) (cs:List Value):Prop:=∀(j:Nat) (a:AV),al[j]? =some a->∃u:Value,cs[j]? =some u/\jF P w D a u
theorem rU {α:Type} {rep:World->List Nat->List Value->α->Prop} {e:α->List AV} {sz:Nat} {f:List Nat} {v:Value} {xs:List α} (h:mL rep sz w f v xs) (hD:∀b∈f,D b)
  (hl:∀x∈xs,(e x).length=sz) (hc:∀x∈xs,∀a∈e x,a.cell=true) (hr:∀x∈xs,∀f' cs,rep w f' cs x->(∀b∈f',D b)->HL P w D (e x) cs):jF P w D (.sl (xs.map e)) v:=by
 obtain⟨A,c,rfl,h1,h2⟩:=mL.len h
 by_cases h0:xs=[]
 ·subst h0;exact .AP _ _ h2
 have lp:0<xs.length:=List.length_pos_iff.2 h0
 obtain⟨b,o,PD,f0,rfl,hb,Ss,PS,K8,jI⟩:=mL.at_ h 0 lp
 have key:∀(i:Nat) (hi:i<xs.length),∃cs f',(∀x∈f',x∈f)/\rep w f' cs xs[i]/\cs.length=sz/\∀j u,cs[j]? =some u->w.cell? ⟨b,o+(i*sz+j),none⟩=some u:=by
  intro i hi
  obtain⟨b',o',cs,f',Sk,_,ko,nT,dw,kR⟩:=mL.at_ h i hi
  simp only[Option.some.injEq,Addr.mk.injEq,and_true]at Sk
  obtain⟨rfl,rfl⟩:=Sk
  exact⟨cs,f',ko,nT,dw,kR⟩
 refine .sl _ b o _ c sz (fun i j=>(w.cell? ⟨b,o+(i*sz+j),none⟩).getD Go.undef) (by simp) h1 h2 (hD b hb) ?_ ?_ ?_ ?_
 ·intro cs dw
  obtain⟨x,hx,rfl⟩:=List.mem_map.1 dw
  exact hl x hx
 ·intro cs dw
  obtain⟨x,hx,rfl⟩:=List.mem_map.1 dw
  exact hc x hx
 ·intro i j hi hj
  obtain⟨cs,f',_,_,dw,kR⟩:=key i hi
  rw[kR j cs[j] (List.getElem?_eq_getElem (by omega))]
  rfl
 ·intro i j cs a dw ha
  have hi:i<xs.length:=by
   have:=(List.getElem?_eq_some_iff.1 dw).1
   simpa using this
  obtain⟨pT,f',ko,nT,hcs',kR⟩:=key i hi
  simp[hi]at dw
  subst dw
  obtain⟨u,hu,him⟩:=hr _ (List.getElem_mem hi) f' pT nT (fun b hb=>hD b (ko b hb)) j a ha
  rw[kR j u hu]
  exact him
end Go.Proofs.YtgoelphibofcmaaGreat.V

namespace Go.Proofs.YtgoelphibofcmaaGreat.V
open Go.RowKit
variable {P:Program} {w:World} {D:Nat->Prop}
def bf (d:Int):List AV:=[.int .i64 d]
def aa (d:ar):List AV:=[.int .i64 d.eY,.int .i64 d.eU]
def ad (d:ah):List AV:=[.int .i64 d.aO.eY,.int .i64 d.aO.eU,.int .i64 d.bd]
def aJ (d:dI):List AV:=[.sl (d.ae.map ad)]
def bD (d:fB):List AV:=[.str d.aD,.int .i64 d.eh]
def bx (d:eT):List AV:=[.str d.aD,.sl (d.bt.map bf)]
def ab (d:aw):List AV:=[.sl (d.aB.map bD),.sl (d.ae.map bx)]
def ay (d:aM):List AV:=[.sl (d.ax.aB.map bD),.sl (d.ax.ae.map bx),.sl (d.bF.ae.map ad),.int .i64 d.az]
theorem te {f:List Nat} {v:Value} {xs:List ah} (h:ja w f v xs) (hD:∀b∈f,D b):jF P w D (.sl (xs.map ad)) v:=
 rU h hD (fun _ _=>rfl) (fun x _ a ha=>by simp[ad]at ha;rcases ha with rfl|rfl|rfl<;>rfl) fun x _ f' cs hr hf=>by
  obtain⟨_,rfl⟩:=hr
  intro j a ha
  match j,ha with
  |0,ha=>simp[ad]at ha;subst ha;exact⟨_,rfl,.int _ _⟩
  |1,ha=>simp[ad]at ha;subst ha;exact⟨_,rfl,.int _ _⟩
  |2,ha=>simp[ad]at ha;subst ha;exact⟨_,rfl,.int _ _⟩
  |j+3,ha=>simp[ad]at ha
theorem y4 {d:dI} {f0:List Nat} {v0:Value} (h0:ja w f0 v0 d.ae) (d0:∀b∈f0,D b):jF P w D (.agg (aJ d)) (.agg #[v0]):=by
 refine .agg _ _ (fun j=>(#[v0]:Array Value).getD j Go.undef) rfl (fun a ha=>by simp[aJ]at ha;rcases ha with rfl<;>rfl) (fun j hj=>?_) (fun j a ha=>?_)
 ·match j,hj with
  |0,_=>rfl
  |j+1,hj=>simp[aJ]at hj<;>omega
 ·match j,ha with
  |0,ha=>simp[aJ]at ha;subst ha;exact te h0 d0
  |j+1,ha=>simp[aJ]at ha
theorem FQ {f:List Nat} {v:Value} {xs:List fB} (h:qQ w f v xs) (hD:∀b∈f,D b):jF P w D (.sl (xs.map bD)) v:=
 rU h hD (fun _ _=>rfl) (fun x _ a ha=>by simp[bD]at ha;rcases ha with rfl|rfl<;>rfl) fun x _ f' cs hr hf=>by
  obtain⟨_,rfl⟩:=hr
  intro j a ha
  match j,ha with
  |0,ha=>simp[bD]at ha;subst ha;exact⟨_,rfl,.str _⟩
  |1,ha=>simp[bD]at ha;subst ha;exact⟨_,rfl,.int _ _⟩
  |j+2,ha=>simp[bD]at ha
theorem C2 {f:List Nat} {v:Value} {xs:List Int} (h:uP w f v xs) (hD:∀b∈f,D b):jF P w D (.sl (xs.map bf)) v:=
 rU h hD (fun _ _=>rfl) (fun x _ a ha=>by simp[bf]at ha;rcases ha with rfl<;>rfl) fun x _ f' cs hr hf=>by
  obtain⟨_,rfl⟩:=hr
  intro j a ha
  match j,ha with
  |0,ha=>simp[bf]at ha;subst ha;exact⟨_,rfl,.int _ _⟩
  |j+1,ha=>simp[bf]at ha
theorem FV {f:List Nat} {v:Value} {xs:List eT} (h:qR w f v xs) (hD:∀b∈f,D b):jF P w D (.sl (xs.map bx)) v:=
 rU h hD (fun _ _=>rfl) (fun x _ a ha=>by simp[bx]at ha;rcases ha with rfl|rfl<;>rfl) fun x _ f' cs hr hf=>by
  obtain⟨v1,f1,rfl,rfl,h1⟩:=hr
  intro j a ha
  match j,ha with
  |0,ha=>simp[bx]at ha;subst ha;exact⟨_,rfl,.str _⟩
  |1,ha=>simp[bx]at ha;subst ha;exact⟨_,rfl,C2 h1 hf⟩
  |j+2,ha=>simp[bx]at ha
theorem C5 {d:aM} {f0:List Nat} {v0:Value} (h0:qQ w f0 v0 d.ax.aB) (d0:∀b∈f0,D b) {f1:List Nat} {v1:Value} (h1:qR w f1 v1 d.ax.ae) (d1:∀b∈f1,D b) {f2:List Nat} {v2:Value} (h2:ja w f2 v2 d.bF.ae) (d2:∀b∈f2,D b):jF P w D (.agg (ay d)) (.agg #[v0,v1,v2,.int .i64 d.az]):=by
 refine .agg _ _ (fun j=>(#[v0,v1,v2,.int .i64 d.az]:Array Value).getD j Go.undef) rfl (fun a ha=>by simp[ay]at ha;rcases ha with rfl|rfl|rfl|rfl<;>rfl) (fun j hj=>?_) (fun j a ha=>?_)
 ·match j,hj with
  |0,_=>rfl
  |1,_=>rfl
  |2,_=>rfl
  |3,_=>rfl
  |j+4,hj=>simp[ay]at hj<;>omega
 ·match j,ha with
  |0,ha=>simp[ay]at ha;subst ha;exact FQ h0 d0
  |1,ha=>simp[ay]at ha;subst ha;exact FV h1 d1
  |2,ha=>simp[ay]at ha;subst ha;exact te h2 d2
  |3,ha=>simp[ay]at ha;subst ha;exact .int _ _
  |j+4,ha=>simp[ay]at ha
end Go.Proofs.YtgoelphibofcmaaGreat.V

namespace Go.Proofs.YtgoelphibofcmaaGreat.V
open Go.RowKit
attribute [local irreducible] dG wpOps gz Call
attribute [local go_sem] aL fU eV gw gr cK upd cw K.av cU AV.cells AV.cell rowOf rowsOf part ld rowAt bJ cr dK ep iC bR dj eF gq fh dz ew dh de ec ee bV bh cX bU cZ cY eu ez ev cW cj di er bS aQ db cG iA bz cN bW aX dn aZ dL AV.undef bG bK ef eo dW ea cJ eE eH cD eB eA da dc List.getD_cons_zero List.getD_cons_succ List.getD_nil List.all_cons List.all_nil Bool.and_true Bool.true_and Bool.and_self Bool.not_true Bool.not_false Option.map_some Option.map_none Option.bind_some Option.bind_none List.length_cons List.length_nil List.take_succ_cons List.take_zero List.take_nil List.drop_succ_cons List.drop_zero List.drop_nil List.head?_cons List.map_cons List.map_nil List.getElem?_cons_zero List.getElem?_cons_succ List.cons_append List.nil_append List.append_nil List.length_map List.set_cons_zero List.set_cons_succ Nat.reduceMul eq_self Int.toNat_natCast Int.natCast_nonneg and_self true_and and_true decide_true decide_false Bool.false_eq_true Nat.zero_add Nat.add_zero List.contains_cons List.contains_nil Bool.or_false Bool.false_or beq_self_eq_true Nat.reduceBEq ne_eq not_true_eq_false not_false_eq_true Id.mk.injEq false_and and_false Nat.reduceLT Int.reduceLE Int.reduceLT Int.reduceToNat Int.reduceNeg Int.reduceAdd Nat.le_refl List.length_append beq_true beq_false Bool.not_eq_eq_eq_not or_false false_or dX ai aq aH bj bE cu aW br aU bp cV bP
variable {P:Program}
theorem EL {X:fE} {Q:Ex->Env->au->Prop} {N:Env->au->Prop} {c:VC} {env:Env} {σ:au} (I:Env->au->Prop) (h2:∀e s,I e s->N e s) (h1:∀N':Env->au->Prop,(∀e s,I e s->N' e s)->dG X c (dn N' Q) env σ):dG X c (dn N Q) env σ:=h1 N h2
def sL (f z:Nat) (a:Bool):AH:=let s:=f*1000000
 ⟨19,2,(.seq (.ej false [q 4 (.cR (.k (.int .i64 0))) s]) (.seq (.seq (.ej false [q 6 (.cR (.t 0)) (s+1000),q 7 (.len (.t 6)) (s+1001),q 8 (.cR (.k (.int .i64 0))) (s+1002)]) (.block 0 (.loop (.seq (.ej false [q 9 (.bin .lss .i64 (.t 8) (.t 7)) (s+2000)]) (.seq (.cond (.t 9) .skip (.exit 0)) (.seq (.block 1 (.seq (.ej false [q 10 (.cR (.t 8)) (s+3000),q 5 (.cR (.t 10)) (s+3001)]) (.seq (.ej false [q 11 (.cR (.t 1)) (s+4000),q 12 (.cR (.t 0)) (s+4001),q 13 (.cR (.t 5)) (s+4002),q 14 (.dF z (.t 12) (.t 13)) (s+4003),q 15 (.load a z (.t 14)) (s+4004),q 16 (.tj (.t 11) [(.t 15)]) (s+4005)]) (.cond (.t 16) (.seq (.ej false [q 17 (.cR (.t 5)) (s+5000),q 4 (.cR (.t 17)) (s+5001)]) .ret) .skip)))) (.ej false [q 18 (.bin .add .i64 (.t 8) (.k (.int .i64 1))) (s+6000),q 8 (.cR (.t 18)) (s+6001)]))))))) (.seq (.ej false [q 4 (.cR (.k (.int .i64 (-1)))) (s+7000)]) .ret))),[(.tmp 4)]⟩
def zy (f g:Nat):AH:=let s:=f*1000000
 ⟨9,2,(.seq (.ej false [q 4 (.cR (.k (.bool false))) s]) (.seq (.ej false [q 5 (.cR (.t 0)) (s+1000),q 6 (.cR (.t 1)) (s+1001),q 7 (.call g [(.t 5),(.t 6)]) (s+1002),q 8 (.bin .geq .i64 (.t 7) (.k (.int .i64 0))) (s+1003),q 4 (.cR (.t 8)) (s+1004)]) .ret)),[(.tmp 4)]⟩
def kd {α:Type} (p:α->Bool) (xs:List α):Int:=if xs.findIdx p<xs.length then(xs.findIdx p:Int)else -1
theorem It {α:Type} (p:α->Bool) (xs:List α):decide (0<=kd p xs)=xs.any p:=by
 unfold kd
 by_cases h:xs.findIdx p<xs.length
 ·rw[if_pos h]
  have:xs.any p=true:=List.any_eq_true.2 (List.findIdx_lt_length.1 h)
  rw[this];simp
 ·rw[if_neg h]
  have:xs.any p=false:=by
   rw[Bool.eq_false_iff]
   intro hc
   exact h (List.findIdx_lt_length.2 (List.any_eq_true.1 hc))
  rw[this];rfl
theorem uj (a:AV) (l m:List AV):a::l++m=a::(l++m):=rfl
theorem y9 (l:List AV):[]++l=l:=rfl
structure P9 {α:Type} (e:α->List AV) (v:α->AV) (z:Nat) (a:Bool):Prop where
 len:∀x,(e x).length=z
 val:∀x,if a=true then v x=.agg (e x)else e x=[v x]
 fz:∀x g,cL g 6 [v x]=some [v x]
theorem tE {α:Type} {e:α->List AV} {v:α->AV} {z fk:Nat} {a:Bool} (hE:P9 e v z a) (hc:lV P fk=some (sL fk z a)) (xs:List α) (hlen:xs.length<=1048576) (f:Nat) (cH:List AV) (p:α->Bool)
  (hf:∀x∈xs,aj P f (v x::cH) (.bool (p x))) (IH:∀g,cL g 6 cH=some cH):
  aj P fk [.sl (xs.map e),.fn f cH] (.int .i64 (kd p xs)):=by
 refine aj.body hc rfl fun hl n0=>?_
 try simp only[q]
 clear hl
 (try((repeat(revert hN;revert N;apply Pn.out));refine wk @Nat.zero_add ?_;(repeat(refine Pn.mk ?_;intro N hN))))
 refine aI (fun n env st=>∃k:Nat,n=(xs.length)-k/\k<=(xs.length)/\env 8=.int .i64 (k:Int)/\(∀j:Nat,j<k->∀h:j<xs.length,p xs[j]=false)) (xs.length) ⟨0,by omega,by omega,sl @Nat.zero_add,fun _ h=>absurd h (Nat.not_lt_zero _)⟩ ?_
 rintro n_a env_a st_a ⟨k,rfl,ale,a8,lU⟩ dp
 have a0:=dp 0 (by kernel_rfl);have a1:=dp 1 (by kernel_rfl);have a7:=dp 7 (by kernel_rfl)
 simp only[go_sem, ↓reduceIte,Nat.reduceEqDiff,Nat.reduceAdd,Nat.reduceSub,Nat.reduceLeDiff,reduceCtorEq]at a0 a1 a7
 clear dp
 by_cases hk:(k:Int)<(xs.length:Int)
 ·have ck:∀{e:Env},(e 8=.int .i64 (IntKind.i64.wrap ((k:Int)+1)))->(∀h:k<xs.length,p xs[k]=false)->∃m0,m0<(xs.length)-k/\∃k:Nat,m0=(xs.length)-k/\k<=(xs.length)/\e 8=.int .i64 (k:Int)/\(∀j:Nat,j<k->∀h:j<xs.length,p xs[j]=false):=fun x1 x2=>⟨_,by omega,k+1,rfl,by omega,(by rw[x1,aA (by omega)]),(all_succ lU x2)⟩
  have eZ:k<xs.length:=by omega
  have hg:(xs.map e)[k]? =some (e xs[k]):=by simp[eZ]
  have CV:=hf _ (List.getElem_mem eZ)
  have hz:=hE.len xs[k]
  have hv:=hE.val xs[k]
  have kh:cL (dX st_a.get) 6 (v xs[k]::cH)=some (v xs[k]::cH):=by
   have h1:=hE.fz xs[k] (dX st_a.get)
   rw[ai,aq]at h1
   rw[ai,IH]
   revert h1
   cases V.fz (dX st_a.get) 6 (v xs[k])<;>simp
  have fin:∀hN:True,(p xs[k]=true->xs.findIdx p=k):=fun _ hp=>by
   rw[List.findIdx_eq eZ];exact⟨hp,fun j hj=>lU j hj (by omega)⟩
  cases hp:p xs[k]
  ·have PO:=hp
   cases a
   ·rw[if_neg (by simp)]at hv
    have xe:z=1:=by rw[<-hz,hv];rfl
    subst xe
    rw[hv]at hg hz
    rw[hp]at CV
    generalize v xs[k]=c at CV kh hg hz
    (try((repeat(revert hN;revert N;apply Pn.out));refine wk (tw @a8 (tw @a0 (tw @a1 (tw @a7 (tw @hk (tw @hg (tw @hz (tw @uj @y9)))))))) ?_;(repeat(refine Pn.mk ?_;intro N hN))))
    refine .inl ⟨_,aj.x CV kh,?_⟩
    refine hN _ _ ?_
    clear hN N
    (try((repeat(revert hN;revert N;apply Pn.out));refine wk (tw @a8 (tw @a0 (tw @a1 @a7))) ?_;(repeat(refine Pn.mk ?_;intro N hN))))
    exact ck (sd (tw @a8 (tw @a0 (tw @a1 @a7)))) (fun _=>PO)
   ·rw[if_pos rfl]at hv
    have ht:(e xs[k]).take z=e xs[k]:=by rw[<-hz,List.take_length]
    rw[hv]at CV kh
    rw[hp]at CV
    generalize e xs[k]=c at CV kh hg hz ht
    (try((repeat(revert hN;revert N;apply Pn.out));refine wk (tw @a8 (tw @a0 (tw @a1 (tw @a7 (tw @hk (tw @hg (tw @hz (tw @ht (tw @uj (tw @y9 @Nat.le_refl)))))))))) ?_;(repeat(refine Pn.mk ?_;intro N hN))))
    refine .inl ⟨_,aj.x CV kh,?_⟩
    refine hN _ _ ?_
    clear hN N
    (try((repeat(revert hN;revert N;apply Pn.out));refine wk (tw @a8 (tw @a0 (tw @a1 @a7))) ?_;(repeat(refine Pn.mk ?_;intro N hN))))
    exact ck (sd (tw @a8 (tw @a0 (tw @a1 @a7)))) (fun _=>PO)
  ·have hi:=fin trivial hp
   cases a
   ·rw[if_neg (by simp)]at hv
    have xe:z=1:=by rw[<-hz,hv];rfl
    subst xe
    rw[hv]at hg hz
    rw[hp]at CV
    generalize v xs[k]=c at CV kh hg hz
    (try((repeat(revert hN;revert N;apply Pn.out));refine wk (tw @a8 (tw @a0 (tw @a1 (tw @a7 (tw @hk (tw @hg (tw @hz (tw @uj @y9)))))))) ?_;(repeat(refine Pn.mk ?_;intro N hN))))
    refine .inl ⟨_,aj.x CV kh,?_⟩
    refine hN _ _ ?_
    clear hN N
    (try((repeat(revert hN;revert N;apply Pn.out));refine wk (tw @a8 (tw @a0 (tw @a1 @a7))) ?_;(repeat(refine Pn.mk ?_;intro N hN))))
    exact bL (b:=(k:Int)) (.inl rfl) (sd @Nat.zero_add) (by rw[kd,hi,if_pos eZ])
   ·rw[if_pos rfl]at hv
    have ht:(e xs[k]).take z=e xs[k]:=by rw[<-hz,List.take_length]
    rw[hv]at CV kh
    rw[hp]at CV
    generalize e xs[k]=c at CV kh hg hz ht
    (try((repeat(revert hN;revert N;apply Pn.out));refine wk (tw @a8 (tw @a0 (tw @a1 (tw @a7 (tw @hk (tw @hg (tw @hz (tw @ht (tw @uj (tw @y9 @Nat.le_refl)))))))))) ?_;(repeat(refine Pn.mk ?_;intro N hN))))
    refine .inl ⟨_,aj.x CV kh,?_⟩
    refine hN _ _ ?_
    clear hN N
    (try((repeat(revert hN;revert N;apply Pn.out));refine wk (tw @a8 (tw @a0 (tw @a1 @a7))) ?_;(repeat(refine Pn.mk ?_;intro N hN))))
    exact bL (b:=(k:Int)) (.inl rfl) (sd @Nat.zero_add) (by rw[kd,hi,if_pos eZ])
 ·(try((repeat(revert hN;revert N;apply Pn.out));refine wk (tw @a8 (tw @a0 (tw @a1 (tw @a7 @hk)))) ?_;(repeat(refine Pn.mk ?_;intro N hN))))
  have hi:¬xs.findIdx p<xs.length:=by
   rw[List.findIdx_lt_length]
   rintro⟨x,hx,Ls⟩
   obtain⟨j,hj,rfl⟩:=List.getElem_of_mem hx
   rw[lU j (by omega) hj]at Ls;cases Ls
  exact bL (b:=-1) (.inl rfl) (sd @Nat.zero_add) (by rw[kd,if_neg hi])
theorem kO {α:Type} {e:α->List AV} {v:α->AV} {z fk gk:Nat} {a:Bool} (hE:P9 e v z a) (hc:lV P fk=some (zy fk gk)) (xb:lV P gk=some (sL gk z a)) (xs:List α) (hlen:xs.length<=1048576) (f:Nat) (cH:List AV) (p:α->Bool) (IB:cH.all AV.cell=true) (CQ:∀g,cL g 5 cH=some cH)
  (hf:∀x∈xs,aj P f (v x::cH) (.bool (p x))) (IH:∀g,cL g 6 cH=some cH):
  aj P fk [.sl (xs.map e),.fn f cH] (.bool (xs.any p)):=by
 refine aj.body hc rfl fun hl n0=>?_
 try simp only[q]
 clear hl
 have hi:=tE hE xb xs hlen f cH p hf IH
 (repeat(first|((repeat(revert hN;revert N;apply Pn.out));refine wk (tw @IB @CQ) ?_;(repeat(refine Pn.mk ?_;intro N hN)))|((try apply Or.inl);refine⟨_,aj.x (hi) (sd (tw @IB @CQ)),?_⟩;refine hN _ _ ?_;clear hN N)))
 exact aP (b:=decide (0<=kd p xs)) (.inl rfl) (sd @Nat.zero_add) (It p xs)
end Go.Proofs.YtgoelphibofcmaaGreat.V

namespace Go.Proofs.YtgoelphibofcmaaGreat.V
open Go.RowKit
def rF (P:Program) (mk:Bool):List Oper->Nat->List Nat
 |[],_=>[]
 |o::r,i=>match qM P o.op with
  |some v=>if qC v||mk&&v.lO then i::rF P mk r (i+1)else rF P mk r (i+1)
  |none=>rF P mk r (i+1)
def zd (P:Program) (ops:Array Oper) (site0:Nat) (mk:Bool) (bs:Array Nat) (hidden:List Nat):List Oper->Nat->Option (List aY)
 |[],_=>some []
 |o::r,j=>do
  let v <-qM P o.op
  let g <-De ops o
  pure ({dst:=o.dst,op:=v,guard:=g,site:=site0+j,hid:=(hidden.filter fun i=> !(bs.getD j 0).testBit i&&(i !=j||mk&&v.lO)).map fun i=>site0+i}::(<-zd P ops site0 mk bs hidden r (j+1)))
def qb (P:Program) (md:List (Nat×Nat)) (fid:Nat):Code->Option VC
 | .skip=>some .skip
 | .region id ops draw=>if draw then(zd P ops ((fid*1000+id)*1000) (wb md id==1) (jC ops) (rF P (wb md id==1) ops.toList 0) ops.toList 0).map (VC.ej true)else(zd P ops ((fid*1000+id)*1000) false #[] [] ops.toList 0).map (if ops.toList.any fun o=>M4 o.op then VC.NB else VC.ej false)
 | .seq a b=>do pure (.seq (<-qb P md fid a) (<-qb P md fid b))
 | .cond c x y=>do pure (.cond (<-cO P c) (<-qb P md fid x) (<-qb P md fid y))
 | .block id c=>(qb P md fid c).map (VC.block id)
 | .loop c=>(qb P md fid c).map VC.loop
 | .exit id=>some (.exit id)
 | .ret=>some .ret
 |_=>none
def Qh (P:Program) (md:List (Nat×Nat)) (f:Nat):Option AH:=
 match P.funcs[f]? with
 |some fn=>match fn.body with
  |some c=>do
   let b <-qb P md f c
   let r <-fn.results.toList.mapM (Df P)
   pure {ntmps:=fn.ntmps,yJ:=fn.params.size+fn.nfree,body:=b,res:=r}
  |none=>none
 |none=>none
theorem cfM {P:Program} (md:List (Nat×Nat)) {f:Nat} {v:AH} (_:Qh P md f=some v:=by(conv=>lhs;cbv)<;>exact rfl) (h:xr P f md=some v:=by kernel_rfl):xr P f md=some v:=h
theorem ek {P:Program} {f:Nat} {v:AH} (_:Qh P [] f=some v:=by(conv=>lhs;cbv)<;>exact rfl) (h:lV P f=some v:=by kernel_rfl):lV P f=some v:=h
end Go.Proofs.YtgoelphibofcmaaGreat.V

namespace Go.Proofs.YtgoelphibofcmaaGreat.V
open Go.RowKit
def O5:AH:=⟨77,2,(.seq (.ej false [q 4 (.cR (.k .gN)) 237000000]) (.seq (.ej false [q 7 (.cR (.t 0)) 237001000,q 8 (.cR (.t 1)) 237001001,q 9 (.build [(.int .i64 0),.cC,.cC,.cC] [(0,(1,(.t 7))),(1,(1,(.t 8)))]) 237001002,q 10 (.box (.t 9)) 237001003,q 5 (.cR (.t 10)) 237001004]) (.seq (.ej false [q 11 (.cR (.t 5)) 237002000,q 12 (.cR (.t 0)) 237002001,q 13 (.jV [.cC] (.t 12) (.t 12)) 237002002,q 14 (.AI (.t 11)) 237002003,q 15 (.fR 2 (.t 14)) 237002004,⟨none,(.store 1 (.t 15) (.t 13)),none,237002005,[]⟩]) (.seq (.ej false [q 16 (.cR (.t 5)) 237003000,q 17 (.cR (.t 1)) 237003001,q 18 (.len (.t 17)) 237003002,q 19 (.jV [(.int .i64 0)] (.t 18) (.t 18)) 237003003,q 20 (.AI (.t 16)) 237003004,q 21 (.fR 3 (.t 20)) 237003005,⟨none,(.store 1 (.t 21) (.t 19)),none,237003006,[]⟩]) (.seq (.seq (.ej false [q 6 (.cR (.k (.int .i64 0))) 237004000]) (.block 0 (.loop (.seq (.seq (.ej false [q 22 (.cR (.t 6)) 237005000,q 23 (.cR (.t 1)) 237005001,q 24 (.len (.t 23)) 237005002,q 25 (.bin .lss .i64 (.t 22) (.t 24)) 237005003]) (.cond (.t 25) .skip (.exit 0))) (.seq (.block 1 (.seq (.one ⟨(some 28),(.cR (.t 5)),none,237007000,[237007021,237007022,237007024]⟩ (.one ⟨(some 29),(.AI (.t 28)),none,237007001,[237007021,237007022,237007024]⟩ (.one ⟨(some 30),(.fR 2 (.t 29)),none,237007002,[237007021,237007022,237007024]⟩ (.one ⟨(some 32),(.cR (.t 1)),none,237007004,[237007021,237007022,237007024]⟩ (.one ⟨(some 33),(.cR (.t 6)),none,237007005,[237007021,237007022,237007024]⟩ (.one ⟨(some 37),(.cR (.t 5)),none,237007009,[237007021,237007022,237007024]⟩ (.one ⟨(some 38),(.AI (.t 37)),none,237007010,[237007021,237007022,237007024]⟩ (.one ⟨(some 39),(.fR 2 (.t 38)),none,237007011,[237007021,237007022,237007024]⟩ (.one ⟨(some 40),(.load false 1 (.t 39)),none,237007012,[237007021,237007022,237007024]⟩ (.one ⟨(some 41),(.cR (.t 1)),none,237007013,[237007021,237007022,237007024]⟩ (.one ⟨(some 42),(.cR (.t 6)),none,237007014,[237007021,237007022,237007024]⟩ (.one ⟨(some 43),(.dF 3 (.t 41) (.t 42)),none,237007015,[237007021,237007022,237007024]⟩ (.one ⟨(some 44),(.fR 0 (.t 43)),none,237007016,[237007021,237007022,237007024]⟩ (.one ⟨(some 45),(.load false 1 (.t 44)),none,237007017,[237007021,237007022,237007024]⟩ (.one ⟨(some 46),(.dF 1 (.t 40) (.t 45)),none,237007018,[237007021,237007022,237007024]⟩ (.one ⟨(some 47),(.load false 1 (.t 46)),none,237007019,[237007021,237007022,237007024]⟩ (.one ⟨(some 48),(.cR (.t 6)),none,237007020,[237007021,237007022,237007024]⟩ (.one ⟨(some 49),(.kM 1 1 [(.t 48)]),none,237007021,[237007022,237007024]⟩ (.both (.one ⟨(some 31),(.load false 1 (.t 30)),none,237007003,[237007021,237007022,237007024]⟩ (.both (.one ⟨(some 34),(.dF 3 (.t 32) (.t 33)),none,237007006,[237007021,237007022,237007024]⟩ (.one ⟨(some 35),(.fR 0 (.t 34)),none,237007007,[237007021,237007022,237007024]⟩ (.both (.one ⟨(some 36),(.load false 1 (.t 35)),none,237007008,[237007021,237007022,237007024]⟩ (.one ⟨(some 50),(.append 1 (.t 47) (.t 49)),none,237007022,[237007024]⟩ (.one ⟨(some 51),(.dF 1 (.t 31) (.t 36)),none,237007023,[237007024]⟩ (.one ⟨none,(.store 1 (.t 51) (.t 50)),none,237007024,[]⟩ (.ej false []))))) (.one ⟨(some 50),(.append 1 (.t 47) (.t 49)),none,237007022,[237007024]⟩ (.one ⟨(some 36),(.load false 1 (.t 35)),none,237007008,[237007021,237007022,237007024]⟩ (.one ⟨(some 51),(.dF 1 (.t 31) (.t 36)),none,237007023,[237007024]⟩ (.one ⟨none,(.store 1 (.t 51) (.t 50)),none,237007024,[]⟩ (.ej false [])))))))) (.one ⟨(some 50),(.append 1 (.t 47) (.t 49)),none,237007022,[237007024]⟩ (.one ⟨(some 34),(.dF 3 (.t 32) (.t 33)),none,237007006,[237007021,237007022,237007024]⟩ (.one ⟨(some 35),(.fR 0 (.t 34)),none,237007007,[237007021,237007022,237007024]⟩ (.one ⟨(some 36),(.load false 1 (.t 35)),none,237007008,[237007021,237007022,237007024]⟩ (.one ⟨(some 51),(.dF 1 (.t 31) (.t 36)),none,237007023,[237007024]⟩ (.one ⟨none,(.store 1 (.t 51) (.t 50)),none,237007024,[]⟩ (.ej false []))))))))) (.both (.one ⟨(some 34),(.dF 3 (.t 32) (.t 33)),none,237007006,[237007021,237007022,237007024]⟩ (.one ⟨(some 35),(.fR 0 (.t 34)),none,237007007,[237007021,237007022,237007024]⟩ (.both (.one ⟨(some 31),(.load false 1 (.t 30)),none,237007003,[237007021,237007022,237007024]⟩ (.both (.one ⟨(some 36),(.load false 1 (.t 35)),none,237007008,[237007021,237007022,237007024]⟩ (.one ⟨(some 50),(.append 1 (.t 47) (.t 49)),none,237007022,[237007024]⟩ (.one ⟨(some 51),(.dF 1 (.t 31) (.t 36)),none,237007023,[237007024]⟩ (.one ⟨none,(.store 1 (.t 51) (.t 50)),none,237007024,[]⟩ (.ej false []))))) (.one ⟨(some 50),(.append 1 (.t 47) (.t 49)),none,237007022,[237007024]⟩ (.one ⟨(some 36),(.load false 1 (.t 35)),none,237007008,[237007021,237007022,237007024]⟩ (.one ⟨(some 51),(.dF 1 (.t 31) (.t 36)),none,237007023,[237007024]⟩ (.one ⟨none,(.store 1 (.t 51) (.t 50)),none,237007024,[]⟩ (.ej false []))))))) (.both (.one ⟨(some 36),(.load false 1 (.t 35)),none,237007008,[237007021,237007022,237007024]⟩ (.both (.one ⟨(some 31),(.load false 1 (.t 30)),none,237007003,[237007021,237007022,237007024]⟩ (.one ⟨(some 50),(.append 1 (.t 47) (.t 49)),none,237007022,[237007024]⟩ (.one ⟨(some 51),(.dF 1 (.t 31) (.t 36)),none,237007023,[237007024]⟩ (.one ⟨none,(.store 1 (.t 51) (.t 50)),none,237007024,[]⟩ (.ej false []))))) (.one ⟨(some 50),(.append 1 (.t 47) (.t 49)),none,237007022,[237007024]⟩ (.one ⟨(some 31),(.load false 1 (.t 30)),none,237007003,[237007021,237007022,237007024]⟩ (.one ⟨(some 51),(.dF 1 (.t 31) (.t 36)),none,237007023,[237007024]⟩ (.one ⟨none,(.store 1 (.t 51) (.t 50)),none,237007024,[]⟩ (.ej false []))))))) (.one ⟨(some 50),(.append 1 (.t 47) (.t 49)),none,237007022,[237007024]⟩ (.one ⟨(some 31),(.load false 1 (.t 30)),none,237007003,[237007021,237007022,237007024]⟩ (.one ⟨(some 36),(.load false 1 (.t 35)),none,237007008,[237007021,237007022,237007024]⟩ (.one ⟨(some 51),(.dF 1 (.t 31) (.t 36)),none,237007023,[237007024]⟩ (.one ⟨none,(.store 1 (.t 51) (.t 50)),none,237007024,[]⟩ (.ej false [])))))))))) (.one ⟨(some 50),(.append 1 (.t 47) (.t 49)),none,237007022,[237007024]⟩ (.one ⟨(some 31),(.load false 1 (.t 30)),none,237007003,[237007021,237007022,237007024]⟩ (.one ⟨(some 34),(.dF 3 (.t 32) (.t 33)),none,237007006,[237007021,237007022,237007024]⟩ (.one ⟨(some 35),(.fR 0 (.t 34)),none,237007007,[237007021,237007022,237007024]⟩ (.one ⟨(some 36),(.load false 1 (.t 35)),none,237007008,[237007021,237007022,237007024]⟩ (.one ⟨(some 51),(.dF 1 (.t 31) (.t 36)),none,237007023,[237007024]⟩ (.one ⟨none,(.store 1 (.t 51) (.t 50)),none,237007024,[]⟩ (.ej false [])))))))))))))))))))))))))))) (.one ⟨(some 52),(.cR (.t 5)),none,237008000,[237008021,237008022,237008024]⟩ (.one ⟨(some 53),(.AI (.t 52)),none,237008001,[237008021,237008022,237008024]⟩ (.one ⟨(some 54),(.fR 2 (.t 53)),none,237008002,[237008021,237008022,237008024]⟩ (.one ⟨(some 56),(.cR (.t 1)),none,237008004,[237008021,237008022,237008024]⟩ (.one ⟨(some 57),(.cR (.t 6)),none,237008005,[237008021,237008022,237008024]⟩ (.one ⟨(some 61),(.cR (.t 5)),none,237008009,[237008021,237008022,237008024]⟩ (.one ⟨(some 62),(.AI (.t 61)),none,237008010,[237008021,237008022,237008024]⟩ (.one ⟨(some 63),(.fR 2 (.t 62)),none,237008011,[237008021,237008022,237008024]⟩ (.one ⟨(some 64),(.load false 1 (.t 63)),none,237008012,[237008021,237008022,237008024]⟩ (.one ⟨(some 65),(.cR (.t 1)),none,237008013,[237008021,237008022,237008024]⟩ (.one ⟨(some 66),(.cR (.t 6)),none,237008014,[237008021,237008022,237008024]⟩ (.one ⟨(some 67),(.dF 3 (.t 65) (.t 66)),none,237008015,[237008021,237008022,237008024]⟩ (.one ⟨(some 68),(.fR 1 (.t 67)),none,237008016,[237008021,237008022,237008024]⟩ (.one ⟨(some 69),(.load false 1 (.t 68)),none,237008017,[237008021,237008022,237008024]⟩ (.one ⟨(some 70),(.dF 1 (.t 64) (.t 69)),none,237008018,[237008021,237008022,237008024]⟩ (.one ⟨(some 71),(.load false 1 (.t 70)),none,237008019,[237008021,237008022,237008024]⟩ (.one ⟨(some 72),(.cR (.t 6)),none,237008020,[237008021,237008022,237008024]⟩ (.one ⟨(some 73),(.kM 1 1 [(.t 72)]),none,237008021,[237008022,237008024]⟩ (.both (.one ⟨(some 55),(.load false 1 (.t 54)),none,237008003,[237008021,237008022,237008024]⟩ (.both (.one ⟨(some 58),(.dF 3 (.t 56) (.t 57)),none,237008006,[237008021,237008022,237008024]⟩ (.one ⟨(some 59),(.fR 1 (.t 58)),none,237008007,[237008021,237008022,237008024]⟩ (.both (.one ⟨(some 60),(.load false 1 (.t 59)),none,237008008,[237008021,237008022,237008024]⟩ (.one ⟨(some 74),(.append 1 (.t 71) (.t 73)),none,237008022,[237008024]⟩ (.one ⟨(some 75),(.dF 1 (.t 55) (.t 60)),none,237008023,[237008024]⟩ (.one ⟨none,(.store 1 (.t 75) (.t 74)),none,237008024,[]⟩ (.ej false []))))) (.one ⟨(some 74),(.append 1 (.t 71) (.t 73)),none,237008022,[237008024]⟩ (.one ⟨(some 60),(.load false 1 (.t 59)),none,237008008,[237008021,237008022,237008024]⟩ (.one ⟨(some 75),(.dF 1 (.t 55) (.t 60)),none,237008023,[237008024]⟩ (.one ⟨none,(.store 1 (.t 75) (.t 74)),none,237008024,[]⟩ (.ej false [])))))))) (.one ⟨(some 74),(.append 1 (.t 71) (.t 73)),none,237008022,[237008024]⟩ (.one ⟨(some 58),(.dF 3 (.t 56) (.t 57)),none,237008006,[237008021,237008022,237008024]⟩ (.one ⟨(some 59),(.fR 1 (.t 58)),none,237008007,[237008021,237008022,237008024]⟩ (.one ⟨(some 60),(.load false 1 (.t 59)),none,237008008,[237008021,237008022,237008024]⟩ (.one ⟨(some 75),(.dF 1 (.t 55) (.t 60)),none,237008023,[237008024]⟩ (.one ⟨none,(.store 1 (.t 75) (.t 74)),none,237008024,[]⟩ (.ej false []))))))))) (.both (.one ⟨(some 58),(.dF 3 (.t 56) (.t 57)),none,237008006,[237008021,237008022,237008024]⟩ (.one ⟨(some 59),(.fR 1 (.t 58)),none,237008007,[237008021,237008022,237008024]⟩ (.both (.one ⟨(some 55),(.load false 1 (.t 54)),none,237008003,[237008021,237008022,237008024]⟩ (.both (.one ⟨(some 60),(.load false 1 (.t 59)),none,237008008,[237008021,237008022,237008024]⟩ (.one ⟨(some 74),(.append 1 (.t 71) (.t 73)),none,237008022,[237008024]⟩ (.one ⟨(some 75),(.dF 1 (.t 55) (.t 60)),none,237008023,[237008024]⟩ (.one ⟨none,(.store 1 (.t 75) (.t 74)),none,237008024,[]⟩ (.ej false []))))) (.one ⟨(some 74),(.append 1 (.t 71) (.t 73)),none,237008022,[237008024]⟩ (.one ⟨(some 60),(.load false 1 (.t 59)),none,237008008,[237008021,237008022,237008024]⟩ (.one ⟨(some 75),(.dF 1 (.t 55) (.t 60)),none,237008023,[237008024]⟩ (.one ⟨none,(.store 1 (.t 75) (.t 74)),none,237008024,[]⟩ (.ej false []))))))) (.both (.one ⟨(some 60),(.load false 1 (.t 59)),none,237008008,[237008021,237008022,237008024]⟩ (.both (.one ⟨(some 55),(.load false 1 (.t 54)),none,237008003,[237008021,237008022,237008024]⟩ (.one ⟨(some 74),(.append 1 (.t 71) (.t 73)),none,237008022,[237008024]⟩ (.one ⟨(some 75),(.dF 1 (.t 55) (.t 60)),none,237008023,[237008024]⟩ (.one ⟨none,(.store 1 (.t 75) (.t 74)),none,237008024,[]⟩ (.ej false []))))) (.one ⟨(some 74),(.append 1 (.t 71) (.t 73)),none,237008022,[237008024]⟩ (.one ⟨(some 55),(.load false 1 (.t 54)),none,237008003,[237008021,237008022,237008024]⟩ (.one ⟨(some 75),(.dF 1 (.t 55) (.t 60)),none,237008023,[237008024]⟩ (.one ⟨none,(.store 1 (.t 75) (.t 74)),none,237008024,[]⟩ (.ej false []))))))) (.one ⟨(some 74),(.append 1 (.t 71) (.t 73)),none,237008022,[237008024]⟩ (.one ⟨(some 55),(.load false 1 (.t 54)),none,237008003,[237008021,237008022,237008024]⟩ (.one ⟨(some 60),(.load false 1 (.t 59)),none,237008008,[237008021,237008022,237008024]⟩ (.one ⟨(some 75),(.dF 1 (.t 55) (.t 60)),none,237008023,[237008024]⟩ (.one ⟨none,(.store 1 (.t 75) (.t 74)),none,237008024,[]⟩ (.ej false [])))))))))) (.one ⟨(some 74),(.append 1 (.t 71) (.t 73)),none,237008022,[237008024]⟩ (.one ⟨(some 55),(.load false 1 (.t 54)),none,237008003,[237008021,237008022,237008024]⟩ (.one ⟨(some 58),(.dF 3 (.t 56) (.t 57)),none,237008006,[237008021,237008022,237008024]⟩ (.one ⟨(some 59),(.fR 1 (.t 58)),none,237008007,[237008021,237008022,237008024]⟩ (.one ⟨(some 60),(.load false 1 (.t 59)),none,237008008,[237008021,237008022,237008024]⟩ (.one ⟨(some 75),(.dF 1 (.t 55) (.t 60)),none,237008023,[237008024]⟩ (.one ⟨none,(.store 1 (.t 75) (.t 74)),none,237008024,[]⟩ (.ej false [])))))))))))))))))))))))))))))) (.ej false [q 26 (.cR (.t 6)) 237006000,q 27 (.bin .add .i64 (.t 26) (.k (.int .i64 1))) 237006001,q 6 (.cR (.t 27)) 237006002])))))) (.seq (.ej false [q 76 (.cR (.t 5)) 237009000,q 4 (.cR (.t 76)) 237009001]) .ret)))))),[(.tmp 4)]⟩
theorem Nz:xr Tryz.prog 237 [(7,2),(8,2)]=some O5:=by kernel_rfl
def O6:AH:=⟨118,2,(.seq (.ej false [q 4 (.cR (.k .cC)) 240000000]) (.seq (.ej false [q 17 (.cR (.t 0)) 240001000,q 18 (.jV [.gN] (.t 17) (.t 17)) 240001001,q 5 (.cR (.t 18)) 240001002]) (.seq (.seq (.ej false [q 19 (.cR (.t 5)) 240002000,q 20 (.len (.t 19)) 240002001,q 21 (.cR (.k (.int .i64 0))) 240002002]) (.block 0 (.loop (.seq (.ej false [q 22 (.bin .lss .i64 (.t 21) (.t 20)) 240003000]) (.seq (.cond (.t 22) .skip (.exit 0)) (.seq (.block 1 (.seq (.ej false [q 23 (.cR (.t 21)) 240004000,q 6 (.cR (.t 23)) 240004001]) (.ej false [q 24 (.cR (.t 5)) 240005000,q 25 (.cR (.t 6)) 240005001,q 26 (.cR (.t 6)) 240005002,q 27 (.build [.gN,(.int .i64 0)] [(1,(1,(.t 26)))]) 240005003,q 28 (.box (.t 27)) 240005004,q 29 (.dF 1 (.t 24) (.t 25)) 240005005,⟨none,(.store 1 (.t 29) (.t 28)),none,240005006,[]⟩]))) (.ej false [q 30 (.bin .add .i64 (.t 21) (.k (.int .i64 1))) 240006000,q 21 (.cR (.t 30)) 240006001]))))))) (.seq (.seq (.ej false [q 31 (.cR (.t 1)) 240007000,q 32 (.len (.t 31)) 240007001,q 33 (.cR (.k (.int .i64 0))) 240007002]) (.block 2 (.loop (.seq (.ej false [q 34 (.bin .lss .i64 (.t 33) (.t 32)) 240008000]) (.seq (.cond (.t 34) .skip (.exit 2)) (.seq (.block 3 (.seq (.ej false [q 35 (.dF 3 (.t 31) (.t 33)) 240009000,q 36 (.load true 3 (.t 35)) 240009001,q 8 (.new [(.int .i64 0),(.int .i64 0),(.int .i64 0)]) 240009002,⟨none,(.store 3 (.t 8) (.t 36)),none,240009003,[]⟩]) (.seq (.one (q 37 (.cR (.t 5)) 240010000) (.one (q 38 (.fR 0 (.t 8)) 240010001) (.one (q 39 (.load false 1 (.t 38)) 240010002) (.one (q 40 (.dF 1 (.t 37) (.t 39)) 240010003) (.one (q 41 (.load false 1 (.t 40)) 240010004) (.one (q 43 (.cR (.t 5)) 240010006) (.one (q 44 (.fR 1 (.t 8)) 240010007) (.both (.one (q 42 (.call 262 [(.t 41)]) 240010005) (.one (q 45 (.load false 1 (.t 44)) 240010008) (.one (q 46 (.dF 1 (.t 43) (.t 45)) 240010009) (.one (q 47 (.load false 1 (.t 46)) 240010010) (.one (q 48 (.call 262 [(.t 47)]) 240010011) (.one (q 9 (.cR (.t 42)) 240010012) (.one (q 10 (.cR (.t 48)) 240010013) (.ej false [])))))))) (.one (q 45 (.load false 1 (.t 44)) 240010008) (.both (.one (q 42 (.call 262 [(.t 41)]) 240010005) (.one (q 46 (.dF 1 (.t 43) (.t 45)) 240010009) (.one (q 47 (.load false 1 (.t 46)) 240010010) (.one (q 48 (.call 262 [(.t 47)]) 240010011) (.one (q 9 (.cR (.t 42)) 240010012) (.one (q 10 (.cR (.t 48)) 240010013) (.ej false []))))))) (.one (q 46 (.dF 1 (.t 43) (.t 45)) 240010009) (.both (.one (q 42 (.call 262 [(.t 41)]) 240010005) (.one (q 47 (.load false 1 (.t 46)) 240010010) (.one (q 48 (.call 262 [(.t 47)]) 240010011) (.one (q 9 (.cR (.t 42)) 240010012) (.one (q 10 (.cR (.t 48)) 240010013) (.ej false [])))))) (.one (q 47 (.load false 1 (.t 46)) 240010010) (.one (q 42 (.call 262 [(.t 41)]) 240010005) (.one (q 48 (.call 262 [(.t 47)]) 240010011) (.one (q 9 (.cR (.t 42)) 240010012) (.one (q 10 (.cR (.t 48)) 240010013) (.ej false [])))))))))))))))))) (.block 4 (.seq (.ej true [q 50 (.cR (.t 9)) 240011000,q 51 (.AI (.t 50)) 240011001,q 52 (.fR 1 (.t 51)) 240011002,q 53 (.load false 1 (.t 52)) 240011003,q 54 (.cR (.t 10)) 240011004,q 55 (.AI (.t 54)) 240011005,q 56 (.fR 1 (.t 55)) 240011006,q 57 (.load false 1 (.t 56)) 240011007,q 58 (.bin .lss .i64 (.t 53) (.t 57)) 240011008,q 49 (.cR (.t 58)) 240011009]) (.cond (.t 49) (.ej false [q 59 (.cR (.t 10)) 240012000,q 60 (.cR (.t 9)) 240012001,q 61 (.AI (.t 59)) 240012002,q 62 (.fR 0 (.t 61)) 240012003,⟨none,(.store 1 (.t 62) (.t 60)),none,240012004,[]⟩]) (.seq (.ej true [q 64 (.cR (.t 10)) 240013000,q 65 (.AI (.t 64)) 240013001,q 66 (.fR 1 (.t 65)) 240013002,q 67 (.load false 1 (.t 66)) 240013003,q 68 (.cR (.t 9)) 240013004,q 69 (.AI (.t 68)) 240013005,q 70 (.fR 1 (.t 69)) 240013006,q 71 (.load false 1 (.t 70)) 240013007,q 72 (.bin .lss .i64 (.t 67) (.t 71)) 240013008,q 63 (.cR (.t 72)) 240013009]) (.cond (.t 63) (.ej false [q 73 (.cR (.t 9)) 240014000,q 74 (.cR (.t 10)) 240014001,q 75 (.AI (.t 73)) 240014002,q 76 (.fR 0 (.t 75)) 240014003,⟨none,(.store 1 (.t 76) (.t 74)),none,240014004,[]⟩]) .skip)))))))) (.ej false [q 77 (.bin .add .i64 (.t 33) (.k (.int .i64 1))) 240015000,q 33 (.cR (.t 77)) 240015001]))))))) (.seq (.ej false [q 11 (.cR (.k .cC)) 240016000]) (.seq (.ej false [⟨(some 78),(.mq (.new ⟨false,[.tI]⟩) []),none,240017000,[]⟩,q 12 (.cR (.t 78)) 240017001]) (.seq (.seq (.ej false [q 79 (.cR (.t 5)) 240018000,q 80 (.len (.t 79)) 240018001,q 81 (.cR (.k (.int .i64 0))) 240018002]) (.block 5 (.loop (.seq (.ej false [q 82 (.bin .lss .i64 (.t 81) (.t 80)) 240019000]) (.seq (.cond (.t 82) .skip (.exit 5)) (.seq (.block 6 (.seq (.ej false [q 83 (.cR (.t 81)) 240020000,q 84 (.dF 1 (.t 79) (.t 81)) 240020001,q 85 (.load false 1 (.t 84)) 240020002,q 13 (.cR (.t 83)) 240020003,q 14 (.cR (.t 85)) 240020004]) (.seq (.ej false [q 87 (.cR (.t 12)) 240021000,q 88 (.cR (.t 14)) 240021001,q 89 (.call 262 [(.t 88)]) 240021002,q 90 (.AI (.t 89)) 240021003,q 91 (.fR 1 (.t 90)) 240021004,q 92 (.load false 1 (.t 91)) 240021005,⟨(some 93),(.mq (.look ⟨false,[.tI]⟩ true (.int .i64 0)) [(.t 87),(.t 92)]),none,240021006,[]⟩,q 86 (.cR (.t 93)) 240021007,q 94 (.extract 0 (.t 86)) 240021008,q 95 (.extract 1 (.t 86)) 240021009,q 15 (.cR (.t 94)) 240021010,q 16 (.cR (.t 95)) 240021011]) (.seq (.seq (.ej false [q 96 (.cR (.t 16)) 240022000,q 97 (.not (.t 96)) 240022001]) (.cond (.t 97) (.seq (.ej false [q 98 (.cR (.t 11)) 240023000,q 99 (.len (.t 98)) 240023001,q 15 (.cR (.t 99)) 240023002]) (.seq (.ej false [q 100 (.cR (.t 12)) 240024000,q 101 (.cR (.t 13)) 240024001,q 102 (.cR (.t 15)) 240024002,⟨none,(.mw (.set ⟨false,[.tI]⟩) [(.t 100),(.t 101),(.t 102)]),none,240024003,[]⟩]) (.ej false [q 103 (.cR (.t 11)) 240025000,q 104 (.kM 1 1 [(.k .cC)]) 240025001,q 105 (.append 1 (.t 103) (.t 104)) 240025002,q 11 (.cR (.t 105)) 240025003]))) .skip)) (.ej false [q 106 (.cR (.t 11)) 240026000,q 107 (.cR (.t 15)) 240026001,q 108 (.cR (.t 11)) 240026002,q 109 (.cR (.t 15)) 240026003,q 110 (.dF 1 (.t 108) (.t 109)) 240026004,q 111 (.load false 1 (.t 110)) 240026005,q 112 (.cR (.t 13)) 240026006,q 113 (.kM 1 1 [(.t 112)]) 240026007,q 114 (.append 1 (.t 111) (.t 113)) 240026008,q 115 (.dF 1 (.t 106) (.t 107)) 240026009,⟨none,(.store 1 (.t 115) (.t 114)),none,240026010,[]⟩]))))) (.ej false [q 116 (.bin .add .i64 (.t 81) (.k (.int .i64 1))) 240027000,q 81 (.cR (.t 116)) 240027001]))))))) (.seq (.ej false [q 117 (.cR (.t 11)) 240028000,q 4 (.cR (.t 117)) 240028001]) .ret)))))))),[(.tmp 4)]⟩
theorem NA:xr Tryz.prog 240 [(10,2)]=some O6:=by kernel_rfl
end Go.Proofs.YtgoelphibofcmaaGreat.V

namespace Go.Proofs.YtgoelphibofcmaaGreat.V
open Go.RowKit
attribute [local irreducible] dG wpOps gz Call
attribute [local go_sem] aL fU eV gw gr cK upd cw K.av cU AV.cells AV.cell rowOf rowsOf part ld rowAt bJ cr dK ep iC bR dj eF gq fh dz ew dh de ec ee bV bh cX bU cZ cY eu ez ev cW cj di er bS aQ db cG iA bz cN bW aX dn aZ dL AV.undef bG bK ef eo dW ea cJ eE eH cD eB eA da dc List.getD_cons_zero List.getD_cons_succ List.getD_nil List.all_cons List.all_nil Bool.and_true Bool.true_and Bool.and_self Bool.not_true Bool.not_false Option.map_some Option.map_none Option.bind_some Option.bind_none List.length_cons List.length_nil List.take_succ_cons List.take_zero List.take_nil List.drop_succ_cons List.drop_zero List.drop_nil List.head?_cons List.map_cons List.map_nil List.getElem?_cons_zero List.getElem?_cons_succ List.cons_append List.nil_append List.append_nil List.length_map List.set_cons_zero List.set_cons_succ Nat.reduceMul eq_self Int.toNat_natCast Int.natCast_nonneg and_self true_and and_true decide_true decide_false Bool.false_eq_true Nat.zero_add Nat.add_zero List.contains_cons List.contains_nil Bool.or_false Bool.false_or beq_self_eq_true Nat.reduceBEq ne_eq not_true_eq_false not_false_eq_true Id.mk.injEq false_and and_false Nat.reduceLT Int.reduceLE Int.reduceLT Int.reduceToNat Int.reduceNeg Int.reduceAdd Nat.le_refl List.length_append beq_true beq_false Bool.not_eq_eq_eq_not or_false false_or dX ai aq aH bj bE cu aW br aU bp cV bP
theorem Bo (x:fB) (g:Rows):cL g 6 [.agg (bD x)]=some [.agg (bD x)]:=by simp[bD,ai,aq,br,bE,aH]
theorem Bp (x:eT) (g:Rows):cL g 6 [.agg (bx x)]=some [.agg (bx x)]:=by simp[bx,ai,aq,br,bE,cu]
theorem vD (x:ah) (g:Rows):cL g 6 [.agg (ad x)]=some [.agg (ad x)]:=by simp[ad,ai,aq,br,aH]
theorem iz {n:Nat} {l:Int} (h:(n:Int)<=l):xM n l=l-n:=if_pos h
theorem iJ {n:Nat} {l:Int} (h:¬(n:Int)<=l):xM n l= -1:=if_neg h
def kj (t:eT):Nat:=t.aD.size+t.bt.length
def uh (s:aw):Nat:=(s.aB.length+(s.aB.map fun g=>g.aD.size).sum)+(s.ae.length+(s.ae.map kj).sum)
def w5 (s:aM):Nat:=uh s.ax+s.bF.ae.length
def fW (s:aw):Prop:=(∀g∈s.aB,g.aD.size<=9223372036854775807)/\∀t∈s.ae,t.aD.size<=9223372036854775807
theorem JT (g:fB) (l:Int) (h0:0<=l) (h1:l<=1048576) (hs:g.aD.size<=9223372036854775807):aj Tryz.prog 154 [.agg (bD g),.int .i64 l] (.int .i64 (xM g.aD.size l)):=by
 refine aj.body ek rfl fun hl n0=>?_
 clear hl
 have hw:IntKind.i64.wrap (l-(g.aD.size:Int))=l-g.aD.size:=aV (by omega)
 by_cases hf:(g.aD.size:Int)<=l
 ·have ko:¬l-(g.aD.size:Int)<0:=by omega
  (try((repeat(revert hN;revert N;apply Pn.out));refine wk (tw @bD.eq_1 (tw @hw @ko)) ?_;(repeat(refine Pn.mk ?_;intro N hN))))
  exact bL (b:=l-(g.aD.size:Int)) (.inl rfl) (sd @Nat.zero_add) (iz hf).symm
 ·have ko:l-(g.aD.size:Int)<0:=by omega
  (try((repeat(revert hN;revert N;apply Pn.out));refine wk (tw @bD.eq_1 (tw @hw @ko)) ?_;(repeat(refine Pn.mk ?_;intro N hN))))
  exact bL (b:=-1) (.inl rfl) (sd @Nat.zero_add) (iJ hf).symm
theorem JU (xs:List Int) (l:Int) (h0:0<=l) (h1:l<=1048576):aj Tryz.prog 188 [.sl (xs.map bf),.int .i64 l] (.int .i64 (xM xs.length l)):=by
 have h:=JW (show lV Tryz.prog 188=some (JV 188) by kernel_rfl) (xs.map bf) l h0 h1
 rwa [List.length_map]at h
theorem JZ (t:eT) (l:Int) (h0:0<=l) (h1:l<=1048576) (hs:t.aD.size<=9223372036854775807):aj Tryz.prog 155 [.agg (bx t),.int .i64 l] (.int .i64 (xM (kj t) l)):=by
 refine aj.body ek rfl fun hl n0=>?_
 clear hl
 have hw:IntKind.i64.wrap (l-(t.aD.size:Int))=l-t.aD.size:=aV (by omega)
 by_cases hf:(t.aD.size:Int)<=l
 ·have ko:¬l-(t.aD.size:Int)<0:=by omega
  have hc:=JU t.bt (l-t.aD.size) (by omega) (by omega)
  by_cases hg:(t.bt.length:Int)<=l-t.aD.size
  ·rw[iz hg]at hc
   have Fg:¬l-(t.aD.size:Int)-(t.bt.length:Int)<0:=by omega
   (repeat(first|((repeat(revert hN;revert N;apply Pn.out));refine wk (tw @bx.eq_1 (tw @hw (tw @ko @Fg))) ?_;(repeat(refine Pn.mk ?_;intro N hN)))|((try apply Or.inl);refine⟨_,aj.x (hc) (sd (tw @bx.eq_1 (tw @hw (tw @ko @Fg)))),?_⟩;refine hN _ _ ?_;clear hN N)))
   exact bL (b:=l-(t.aD.size:Int)-(t.bt.length:Int)) (.inl rfl) (sd @Nat.zero_add) (by rw[iz (by unfold kj;omega)];unfold kj;omega)
  ·rw[iJ hg]at hc
   (repeat(first|((repeat(revert hN;revert N;apply Pn.out));refine wk (tw @bx.eq_1 (tw @hw @ko)) ?_;(repeat(refine Pn.mk ?_;intro N hN)))|((try apply Or.inl);refine⟨_,aj.x (hc) (sd (tw @bx.eq_1 (tw @hw @ko))),?_⟩;refine hN _ _ ?_;clear hN N)))
   exact bL (b:=-1) (.inl rfl) (sd @Nat.zero_add) (iJ (by unfold kj;omega)).symm
 ·have ko:l-(t.aD.size:Int)<0:=by omega
  (try((repeat(revert hN;revert N;apply Pn.out));refine wk (tw @bx.eq_1 (tw @hw @ko)) ?_;(repeat(refine Pn.mk ?_;intro N hN))))
  exact bL (b:=-1) (.inl rfl) (sd @Nat.zero_add) (iJ (by unfold kj;omega)).symm
theorem Hb (xs:List fB) (l:Int) (h0:0<=l) (h1:l<=1048576) (hs:∀g∈xs,g.aD.size<=9223372036854775807):aj Tryz.prog 94 [.sl (xs.map bD),.int .i64 l] (.int .i64 (xM (xs.length+(xs.map fun g=>g.aD.size).sum) l)):=
 JY (fun g:fB=>g.aD.size) (show lV Tryz.prog 94=some (JX 94 154 2) by kernel_rfl) (fun _=>rfl) Bo xs l h0 h1 fun x hx l a b=>JT x l a b (hs x hx)
theorem Hc (xs:List eT) (l:Int) (h0:0<=l) (h1:l<=1048576) (hs:∀t∈xs,t.aD.size<=9223372036854775807):aj Tryz.prog 95 [.sl (xs.map bx),.int .i64 l] (.int .i64 (xM (xs.length+(xs.map kj).sum) l)):=
 JY kj (show lV Tryz.prog 95=some (JX 95 155 2) by kernel_rfl) (fun _=>rfl) Bp xs l h0 h1 fun x hx l a b=>JZ x l a b (hs x hx)
theorem Ey (xs:List ah) (l:Int) (h0:0<=l) (h1:l<=1048576):aj Tryz.prog 57 [.sl (xs.map ad),.int .i64 l] (.int .i64 (xM xs.length l)):=by
 have h:=JW (show lV Tryz.prog 57=some (JV 57) by kernel_rfl) (xs.map ad) l h0 h1
 rwa [List.length_map]at h
theorem Cx (s:aw) (l:Int) (h0:0<=l) (h1:l<=1048576) (hs:fW s):aj Tryz.prog 56 [.agg (ab s),.int .i64 l] (.int .i64 (xM (uh s) l)):=by
 refine aj.body ek rfl fun hl n0=>?_
 clear hl
 have ha:=Hb s.aB l h0 h1 hs.1
 have he:uh s=(s.aB.length+(s.aB.map fun g=>g.aD.size).sum)+(s.ae.length+(s.ae.map kj).sum):=rfl
 by_cases hf:((s.aB.length+(s.aB.map fun g=>g.aD.size).sum:Nat):Int)<=l
 ·rw[iz hf]at ha
  obtain⟨A,hA⟩:∃A:Int,A=l-((s.aB.length+(s.aB.map fun g=>g.aD.size).sum:Nat):Int):=⟨_,rfl⟩
  rw[<-hA]at ha
  have ko:¬A<0:=by omega
  have hb:=Hc s.ae A (by omega) (by omega) hs.2
  by_cases hg:((s.ae.length+(s.ae.map kj).sum:Nat):Int)<=A
  ·rw[iz hg]at hb
   obtain⟨B,hB⟩:∃B:Int,B=A-((s.ae.length+(s.ae.map kj).sum:Nat):Int):=⟨_,rfl⟩
   rw[<-hB]at hb
   have Fg:¬B<0:=by omega
   (repeat(first|((repeat(revert hN;revert N;apply Pn.out));refine wk (tw @ab.eq_1 (tw @ko @Fg)) ?_;(repeat(refine Pn.mk ?_;intro N hN)))|((try apply Or.inl);refine⟨_,aj.x (ha) (sd (tw @ab.eq_1 (tw @ko @Fg))),?_⟩;refine hN _ _ ?_;clear hN N)|((try apply Or.inl);refine⟨_,aj.x (hb) (sd (tw @ab.eq_1 (tw @ko @Fg))),?_⟩;refine hN _ _ ?_;clear hN N)))
   exact bL (b:=B) (.inl rfl) (sd @Nat.zero_add) (by rw[iz (by omega)];omega)
  ·rw[iJ hg]at hb
   (repeat(first|((repeat(revert hN;revert N;apply Pn.out));refine wk (tw @ab.eq_1 @ko) ?_;(repeat(refine Pn.mk ?_;intro N hN)))|((try apply Or.inl);refine⟨_,aj.x (ha) (sd (tw @ab.eq_1 @ko)),?_⟩;refine hN _ _ ?_;clear hN N)|((try apply Or.inl);refine⟨_,aj.x (hb) (sd (tw @ab.eq_1 @ko)),?_⟩;refine hN _ _ ?_;clear hN N)))
   exact bL (b:=-1) (.inl rfl) (sd @Nat.zero_add) (iJ (by omega)).symm
 ·rw[iJ hf]at ha
  (repeat(first|((repeat(revert hN;revert N;apply Pn.out));refine wk @ab.eq_1 ?_;(repeat(refine Pn.mk ?_;intro N hN)))|((try apply Or.inl);refine⟨_,aj.x (ha) (sd @ab.eq_1),?_⟩;refine hN _ _ ?_;clear hN N)))
  exact bL (b:=-1) (.inl rfl) (sd @Nat.zero_add) (iJ (by omega)).symm
theorem rX (a:dI) (l:Int) (h0:0<=l) (h1:l<=1048576):aj Tryz.prog 15 [.agg (aJ a),.int .i64 l] (.int .i64 (xM a.ae.length l)):=by
 refine aj.body ek rfl fun hl n0=>?_
 clear hl
 have ha:=Ey a.ae l h0 h1
 by_cases hf:(a.ae.length:Int)<=l
 ·rw[iz hf]at ha
  have ko:¬l-(a.ae.length:Int)<0:=by omega
  (repeat(first|((repeat(revert hN;revert N;apply Pn.out));refine wk (tw @aJ.eq_1 @ko) ?_;(repeat(refine Pn.mk ?_;intro N hN)))|((try apply Or.inl);refine⟨_,aj.x (ha) (sd (tw @aJ.eq_1 @ko)),?_⟩;refine hN _ _ ?_;clear hN N)))
  exact bL (b:=l-(a.ae.length:Int)) (.inl rfl) (sd @Nat.zero_add) (iz hf).symm
 ·rw[iJ hf]at ha
  (repeat(first|((repeat(revert hN;revert N;apply Pn.out));refine wk @aJ.eq_1 ?_;(repeat(refine Pn.mk ?_;intro N hN)))|((try apply Or.inl);refine⟨_,aj.x (ha) (sd @aJ.eq_1),?_⟩;refine hN _ _ ?_;clear hN N)))
  exact bL (b:=-1) (.inl rfl) (sd @Nat.zero_add) (iJ hf).symm
theorem Ez (s:aM) (l:Int) (h0:0<=l) (h1:l<=1048576) (hs:fW s.ax):aj Tryz.prog 14 [.agg (ay s),.int .i64 l] (.int .i64 (xM (w5 s) l)):=by
 refine aj.body ek rfl fun hl n0=>?_
 clear hl
 have ha:=Cx s.ax l h0 h1 hs
 rw[ab]at ha
 have he:w5 s=uh s.ax+s.bF.ae.length:=rfl
 by_cases hf:(uh s.ax:Int)<=l
 ·rw[iz hf]at ha
  have ko:¬l-(uh s.ax:Int)<0:=by omega
  have hb:=rX s.bF (l-uh s.ax) (by omega) (by omega)
  rw[aJ]at hb
  by_cases hg:(s.bF.ae.length:Int)<=l-uh s.ax
  ·rw[iz hg]at hb
   have Fg:¬l-(uh s.ax:Int)-(s.bF.ae.length:Int)<0:=by omega
   (repeat(first|((repeat(revert hN;revert N;apply Pn.out));refine wk (tw @ay.eq_1 (tw @ko @Fg)) ?_;(repeat(refine Pn.mk ?_;intro N hN)))|((try apply Or.inl);refine⟨_,aj.x (ha) (sd (tw @ay.eq_1 (tw @ko @Fg))),?_⟩;refine hN _ _ ?_;clear hN N)|((try apply Or.inl);refine⟨_,aj.x (hb) (sd (tw @ay.eq_1 (tw @ko @Fg))),?_⟩;refine hN _ _ ?_;clear hN N)))
   exact bL (b:=l-(uh s.ax:Int)-(s.bF.ae.length:Int)) (.inl rfl) (sd @Nat.zero_add) (by rw[iz (by omega)];omega)
  ·rw[iJ hg]at hb
   (repeat(first|((repeat(revert hN;revert N;apply Pn.out));refine wk (tw @ay.eq_1 @ko) ?_;(repeat(refine Pn.mk ?_;intro N hN)))|((try apply Or.inl);refine⟨_,aj.x (ha) (sd (tw @ay.eq_1 @ko)),?_⟩;refine hN _ _ ?_;clear hN N)|((try apply Or.inl);refine⟨_,aj.x (hb) (sd (tw @ay.eq_1 @ko)),?_⟩;refine hN _ _ ?_;clear hN N)))
   exact bL (b:=-1) (.inl rfl) (sd @Nat.zero_add) (iJ (by omega)).symm
 ·rw[iJ hf]at ha
  (repeat(first|((repeat(revert hN;revert N;apply Pn.out));refine wk @ay.eq_1 ?_;(repeat(refine Pn.mk ?_;intro N hN)))|((try apply Or.inl);refine⟨_,aj.x (ha) (sd @ay.eq_1),?_⟩;refine hN _ _ ?_;clear hN N)))
  exact bL (b:=-1) (.inl rfl) (sd @Nat.zero_add) (iJ (by omega)).symm
end Go.Proofs.YtgoelphibofcmaaGreat.V

namespace Go.Proofs.YtgoelphibofcmaaGreat.V
open Go.RowKit
attribute [local irreducible] dG wpOps gz Call
attribute [local go_sem] aL fU eV gw gr cK upd cw K.av cU AV.cells AV.cell rowOf rowsOf part ld rowAt bJ cr dK ep iC bR dj eF gq fh dz ew dh de ec ee bV bh cX bU cZ cY eu ez ev cW cj di er bS aQ db cG iA bz cN bW aX dn aZ dL AV.undef bG bK ef eo dW ea cJ eE eH cD eB eA da dc List.getD_cons_zero List.getD_cons_succ List.getD_nil List.all_cons List.all_nil Bool.and_true Bool.true_and Bool.and_self Bool.not_true Bool.not_false Option.map_some Option.map_none Option.bind_some Option.bind_none List.length_cons List.length_nil List.take_succ_cons List.take_zero List.take_nil List.drop_succ_cons List.drop_zero List.drop_nil List.head?_cons List.map_cons List.map_nil List.getElem?_cons_zero List.getElem?_cons_succ List.cons_append List.nil_append List.append_nil List.length_map List.set_cons_zero List.set_cons_succ Nat.reduceMul eq_self Int.toNat_natCast Int.natCast_nonneg and_self true_and and_true decide_true decide_false Bool.false_eq_true Nat.zero_add Nat.add_zero List.contains_cons List.contains_nil Bool.or_false Bool.false_or beq_self_eq_true Nat.reduceBEq ne_eq not_true_eq_false not_false_eq_true Id.mk.injEq false_and and_false Nat.reduceLT Int.reduceLE Int.reduceLT Int.reduceToNat Int.reduceNeg Int.reduceAdd Nat.le_refl List.length_append beq_true beq_false Bool.not_eq_eq_eq_not or_false false_or dX ai aq aH bj bE cu aW br aU bp cV bP
theorem L4 (x:fB) (g:Rows):cL g 5 (bD x)=some (bD x):=by simp[bD,ai,aq,bE,aH]
theorem L5 (x:eT) (g:Rows):cL g 5 (bx x)=some (bx x):=by simp[bx,ai,aq,bE,cu]
theorem GX (x:ah) (g:Rows):cL g 5 (ad x)=some (ad x):=by simp[ad,ai,aq,aH]
theorem yW (p:ar):km Tryz.prog 82 [.agg (aa p)] (.agg (aa p)):=by
 refine km.body ek rfl fun hl σ=>?_
 clear hl
 (try((repeat(revert hN;revert N;apply Pn.out));refine wk @aa.eq_1 ?_;(repeat(refine Pn.mk ?_;intro N hN))))
 exact Af (.inl rfl) (vs:=[.agg (aa p)]) (by simp only[go_sem, ↓reduceIte,Nat.reduceEqDiff,Nat.reduceAdd,Nat.reduceSub,Nat.reduceLeDiff,reduceCtorEq,fm,ig,aa]) (by simp[fA,aa,br,ai,aq,aH])
theorem EC (p:ah):km Tryz.prog 104 [.agg (ad p)] (.agg (ad p)):=by
 refine km.body ek rfl fun hl σ=>?_
 clear hl
 have h:=yW p.aO
 rw[aa]at h
 (repeat(first|((repeat(revert hN;revert N;apply Pn.out));refine wk @ad.eq_1 ?_;(repeat(refine Pn.mk ?_;intro N hN)))|((try apply Or.inl);refine⟨_,km.x (h) _,?_⟩;refine hN _ _ ?_;clear hN N)))
 exact Af (.inl rfl) (vs:=[.agg (ad p)]) (by simp only[go_sem, ↓reduceIte,Nat.reduceEqDiff,Nat.reduceAdd,Nat.reduceSub,Nat.reduceLeDiff,reduceCtorEq,fm,ig,ad]) (by simp[fA,ad,br,ai,aq,aH])
theorem J5 (p:fB):km Tryz.prog 161 [.agg (bD p)] (.agg (bD p)):=by
 refine km.body ek rfl fun hl σ=>?_
 clear hl
 (try((repeat(revert hN;revert N;apply Pn.out));refine wk @bD.eq_1 ?_;(repeat(refine Pn.mk ?_;intro N hN))))
 exact Af (.inl rfl) (vs:=[.agg (bD p)]) (by simp only[go_sem, ↓reduceIte,Nat.reduceEqDiff,Nat.reduceAdd,Nat.reduceSub,Nat.reduceLeDiff,reduceCtorEq,fm,ig,bD]) (by simp[fA,bD,br,ai,aq,aH,bE])
theorem J7 (xs:List Int) (h:xs.length<=1048576):km Tryz.prog 195 [.sl (xs.map bf)] (.sl (xs.map bf)):=
 RE (show lV Tryz.prog 195=some (J8 195 (.int .i64 0)) by kernel_rfl) xs h
def sk (t:eT):Prop:=t.bt.length<=1048576
theorem Ka (p:eT) (hs:sk p):km Tryz.prog 162 [.agg (bx p)] (.agg (bx p)):=by
 refine km.body ek rfl fun hl σ=>?_
 clear hl
 have h:=J7 p.bt hs
 (repeat(first|((repeat(revert hN;revert N;apply Pn.out));refine wk @bx.eq_1 ?_;(repeat(refine Pn.mk ?_;intro N hN)))|((try apply Or.inl);refine⟨_,km.x (h) _,?_⟩;refine hN _ _ ?_;clear hN N)))
 exact Af (.inl rfl) (vs:=[.agg (bx p)]) (by simp only[go_sem, ↓reduceIte,Nat.reduceEqDiff,Nat.reduceAdd,Nat.reduceSub,Nat.reduceLeDiff,reduceCtorEq,fm,ig,bx]) (by simp[fA,bx,br,ai,aq,cu,bE])
theorem Ip (xs ys:List Int):aj Tryz.prog 30 [.sl (xs.map bf),.sl (ys.map bf)] (.bool (decide (xs=ys))):=
 Qp (show lV Tryz.prog 30=some (ME 30 .tI) by kernel_rfl) xs ys
theorem Ir (a b:eT):aj Tryz.prog 170 [.agg (bx a),.agg (bx b)] (.bool (decide (a=b))):=by
 refine aj.body ek rfl fun hl n0=>?_
 clear hl
 have h:=Ip a.bt b.bt
 by_cases h1:a.aD=b.aD
 ·have e1:decide (a.aD=b.aD)=true:=decide_eq_true h1
  by_cases h2:a.bt=b.bt
  ·rw[decide_eq_true h2]at h
   (repeat(first|((repeat(revert hN;revert N;apply Pn.out));refine wk (tw @bx.eq_1 @e1) ?_;(repeat(refine Pn.mk ?_;intro N hN)))|((try apply Or.inl);refine⟨_,aj.x (h) (sd (tw @bx.eq_1 @e1)),?_⟩;refine hN _ _ ?_;clear hN N)))
   exact aP (b:=true) (.inl rfl) (sd @Nat.zero_add) (decide_eq_true (by cases a;cases b;simp_all)).symm
  ·rw[decide_eq_false h2]at h
   (repeat(first|((repeat(revert hN;revert N;apply Pn.out));refine wk (tw @bx.eq_1 @e1) ?_;(repeat(refine Pn.mk ?_;intro N hN)))|((try apply Or.inl);refine⟨_,aj.x (h) (sd (tw @bx.eq_1 @e1)),?_⟩;refine hN _ _ ?_;clear hN N)))
   exact aP (b:=false) (.inl rfl) (sd @Nat.zero_add) (decide_eq_false (by rintro rfl;exact h2 rfl)).symm
 ·have e1:decide (a.aD=b.aD)=false:=decide_eq_false h1
  (try((repeat(revert hN;revert N;apply Pn.out));refine wk (tw @bx.eq_1 @e1) ?_;(repeat(refine Pn.mk ?_;intro N hN))))
  exact aP (b:=false) (.inl rfl) (sd @Nat.zero_add) (decide_eq_false (by rintro rfl;exact h1 rfl)).symm
theorem Hi (xs:List fB) (h:xs.length<=1048576):km Tryz.prog 102 [.sl (xs.map bD)] (.sl (xs.map bD)):=
 ED (show lV Tryz.prog 102=some (tQ 102 161 2 [.str [],.int .i64 0]) by kernel_rfl) rfl (fun _=>rfl) (fun _=>rfl) L4 xs h fun x _=>J5 x
theorem Hk (xs:List eT) (h:xs.length<=1048576) (hs:∀t∈xs,sk t):km Tryz.prog 103 [.sl (xs.map bx)] (.sl (xs.map bx)):=
 ED (show lV Tryz.prog 103=some (tQ 103 162 2 [.str [],.cC]) by kernel_rfl) rfl (fun _=>rfl) (fun _=>rfl) L5 xs h fun x hx=>Ka x (hs x hx)
theorem CB (xs:List ah) (h:xs.length<=1048576):km Tryz.prog 62 [.sl (xs.map ad)] (.sl (xs.map ad)):=
 ED (show lV Tryz.prog 62=some (tQ 62 104 3 [.int .i64 0,.int .i64 0,.int .i64 0]) by kernel_rfl) rfl (fun _=>rfl) (fun _=>rfl) GX xs h fun x _=>EC x
structure HT (s:aw):Prop where
 g:s.aB.length<=1048576
 t:s.ae.length<=1048576
 s:∀t∈s.ae,sk t
structure pQ (y:aM):Prop where
 s:HT y.ax
 a:y.bF.ae.length<=1048576
theorem CD (p:aw) (hs:HT p):km Tryz.prog 61 [.agg (ab p)] (.agg (ab p)):=by
 refine km.body ek rfl fun hl σ=>?_
 clear hl
 have h1:=Hi p.aB hs.g
 have h2:=Hk p.ae hs.t hs.s
 (repeat(first|((repeat(revert hN;revert N;apply Pn.out));refine wk @ab.eq_1 ?_;(repeat(refine Pn.mk ?_;intro N hN)))|((try apply Or.inl);refine⟨_,km.x (h1) _,?_⟩;refine hN _ _ ?_;clear hN N)|((try apply Or.inl);refine⟨_,km.x (h2) _,?_⟩;refine hN _ _ ?_;clear hN N)))
 exact Af (.inl rfl) (vs:=[.agg (ab p)]) (by simp only[go_sem, ↓reduceIte,Nat.reduceEqDiff,Nat.reduceAdd,Nat.reduceSub,Nat.reduceLeDiff,reduceCtorEq,fm,ig,ab]) (by simp[fA,ab,br,ai,aq,cu])
theorem r4 (p:dI) (hs:p.ae.length<=1048576):km Tryz.prog 18 [.agg (aJ p)] (.agg (aJ p)):=by
 refine km.body ek rfl fun hl σ=>?_
 clear hl
 have h1:=CB p.ae hs
 (repeat(first|((repeat(revert hN;revert N;apply Pn.out));refine wk @aJ.eq_1 ?_;(repeat(refine Pn.mk ?_;intro N hN)))|((try apply Or.inl);refine⟨_,km.x (h1) _,?_⟩;refine hN _ _ ?_;clear hN N)))
 exact Af (.inl rfl) (vs:=[.agg (aJ p)]) (by simp only[go_sem, ↓reduceIte,Nat.reduceEqDiff,Nat.reduceAdd,Nat.reduceSub,Nat.reduceLeDiff,reduceCtorEq,fm,ig,aJ]) (by simp[fA,aJ,br,ai,aq,cu])
theorem EF (p:aM) (hs:pQ p):km Tryz.prog 17 [.agg (ay p)] (.agg (ay p)):=by
 refine km.body ek rfl fun hl σ=>?_
 clear hl
 have h1:=CD p.ax hs.s
 have h2:=r4 p.bF hs.a
 rw[ab]at h1
 rw[aJ]at h2
 (repeat(first|((repeat(revert hN;revert N;apply Pn.out));refine wk @ay.eq_1 ?_;(repeat(refine Pn.mk ?_;intro N hN)))|((try apply Or.inl);refine⟨_,km.x (h1) _,?_⟩;refine hN _ _ ?_;clear hN N)|((try apply Or.inl);refine⟨_,km.x (h2) _,?_⟩;refine hN _ _ ?_;clear hN N)))
 exact Af (.inl rfl) (vs:=[.agg (ay p)]) (by simp only[go_sem, ↓reduceIte,Nat.reduceEqDiff,Nat.reduceAdd,Nat.reduceSub,Nat.reduceLeDiff,reduceCtorEq,fm,ig,ay]) (by simp[fA,ay,br,ai,aq,cu,aH])
theorem Io (a b:fB):aj Tryz.prog 169 [.agg (bD a),.agg (bD b)] (.bool (decide (a=b))):=by
 refine aj.body ek rfl fun hl n0=>?_
 clear hl
 by_cases h1:a.aD=b.aD
 ·have e1:decide (a.aD=b.aD)=true:=decide_eq_true h1
  by_cases h2:a.eh=b.eh
  ·have e2:decide (a.eh=b.eh)=true:=decide_eq_true h2
   (try((repeat(revert hN;revert N;apply Pn.out));refine wk (tw @bD.eq_1 (tw @e1 @e2)) ?_;(repeat(refine Pn.mk ?_;intro N hN))))
   exact aP (b:=true) (.inl rfl) (sd @Nat.zero_add) (decide_eq_true (by cases a;cases b;simp_all)).symm
  ·have e2:decide (a.eh=b.eh)=false:=decide_eq_false h2
   (try((repeat(revert hN;revert N;apply Pn.out));refine wk (tw @bD.eq_1 (tw @e1 @e2)) ?_;(repeat(refine Pn.mk ?_;intro N hN))))
   exact aP (b:=false) (.inl rfl) (sd @Nat.zero_add) (decide_eq_false (by rintro rfl;exact h2 rfl)).symm
 ·have e1:decide (a.aD=b.aD)=false:=decide_eq_false h1
  (try((repeat(revert hN;revert N;apply Pn.out));refine wk (tw @bD.eq_1 @e1) ?_;(repeat(refine Pn.mk ?_;intro N hN))))
  exact aP (b:=false) (.inl rfl) (sd @Nat.zero_add) (decide_eq_false (by rintro rfl;exact h1 rfl)).symm
theorem ya (a b:ar):aj Tryz.prog 29 [.agg (aa a),.agg (aa b)] (.bool (decide (a=b))):=by
 refine aj.body ek rfl fun hl n0=>?_
 clear hl
 by_cases h1:a.eY=b.eY
 ·have e1:decide (a.eY=b.eY)=true:=decide_eq_true h1
  by_cases h2:a.eU=b.eU
  ·have e2:decide (a.eU=b.eU)=true:=decide_eq_true h2
   (try((repeat(revert hN;revert N;apply Pn.out));refine wk (tw @aa.eq_1 (tw @e1 @e2)) ?_;(repeat(refine Pn.mk ?_;intro N hN))))
   exact aP (b:=true) (.inl rfl) (sd @Nat.zero_add) (decide_eq_true (by cases a;cases b;simp_all)).symm
  ·have e2:decide (a.eU=b.eU)=false:=decide_eq_false h2
   (try((repeat(revert hN;revert N;apply Pn.out));refine wk (tw @aa.eq_1 (tw @e1 @e2)) ?_;(repeat(refine Pn.mk ?_;intro N hN))))
   exact aP (b:=false) (.inl rfl) (sd @Nat.zero_add) (decide_eq_false (by rintro rfl;exact h2 rfl)).symm
 ·have e1:decide (a.eY=b.eY)=false:=decide_eq_false h1
  (try((repeat(revert hN;revert N;apply Pn.out));refine wk (tw @aa.eq_1 @e1) ?_;(repeat(refine Pn.mk ?_;intro N hN))))
  exact aP (b:=false) (.inl rfl) (sd @Nat.zero_add) (decide_eq_false (by rintro rfl;exact h1 rfl)).symm
theorem Di (a b:ah):aj Tryz.prog 110 [.agg (ad a),.agg (ad b)] (.bool (decide (a=b))):=by
 refine aj.body ek rfl fun hl n0=>?_
 clear hl
 have h:=ya a.aO b.aO
 rw[aa,aa]at h
 by_cases h1:a.aO=b.aO
 ·rw[decide_eq_true h1]at h
  by_cases h2:a.bd=b.bd
  ·have e2:decide (a.bd=b.bd)=true:=decide_eq_true h2
   (repeat(first|((repeat(revert hN;revert N;apply Pn.out));refine wk (tw @ad.eq_1 @e2) ?_;(repeat(refine Pn.mk ?_;intro N hN)))|((try apply Or.inl);refine⟨_,aj.x (h) (sd (tw @ad.eq_1 @e2)),?_⟩;refine hN _ _ ?_;clear hN N)))
   exact aP (b:=true) (.inl rfl) (sd @Nat.zero_add) (decide_eq_true (by cases a;cases b;simp_all)).symm
  ·have e2:decide (a.bd=b.bd)=false:=decide_eq_false h2
   (repeat(first|((repeat(revert hN;revert N;apply Pn.out));refine wk (tw @ad.eq_1 @e2) ?_;(repeat(refine Pn.mk ?_;intro N hN)))|((try apply Or.inl);refine⟨_,aj.x (h) (sd (tw @ad.eq_1 @e2)),?_⟩;refine hN _ _ ?_;clear hN N)))
   exact aP (b:=false) (.inl rfl) (sd @Nat.zero_add) (decide_eq_false (by rintro rfl;exact h2 rfl)).symm
 ·rw[decide_eq_false h1]at h
  (repeat(first|((repeat(revert hN;revert N;apply Pn.out));refine wk @ad.eq_1 ?_;(repeat(refine Pn.mk ?_;intro N hN)))|((try apply Or.inl);refine⟨_,aj.x (h) (sd @ad.eq_1),?_⟩;refine hN _ _ ?_;clear hN N)))
  exact aP (b:=false) (.inl rfl) (sd @Nat.zero_add) (decide_eq_false (by rintro rfl;exact h1 rfl)).symm
theorem Gb (xs ys:List fB):aj Tryz.prog 108 [.sl (xs.map bD),.sl (ys.map bD)] (.bool (decide (xs=ys))):=
 zk (show lV Tryz.prog 108=some (Bh 108 169 2) by kernel_rfl) (fun _=>rfl) Bo xs ys Io
theorem Gc (xs ys:List eT):aj Tryz.prog 109 [.sl (xs.map bx),.sl (ys.map bx)] (.bool (decide (xs=ys))):=
 zk (show lV Tryz.prog 109=some (Bh 109 170 2) by kernel_rfl) (fun _=>rfl) Bp xs ys Ir
theorem tn (xs ys:List ah):aj Tryz.prog 66 [.sl (xs.map ad),.sl (ys.map ad)] (.bool (decide (xs=ys))):=
 zk (show lV Tryz.prog 66=some (Bh 66 110 3) by kernel_rfl) (fun _=>rfl) vD xs ys Di
theorem Dj (a:aM):aj Tryz.prog 20 [.agg (ay a),.agg (ay a)] (.bool true):=by
 have q1:aj Tryz.prog 65 [.agg (ab a.ax),.agg (ab a.ax)] (.bool true):=by
  refine aj.body ek rfl fun hl n0=>?_
  clear hl
  have h1:=Gb a.ax.aB a.ax.aB
  have h2:=Gc a.ax.ae a.ax.ae
  rw[decide_eq_true rfl]at h1 h2
  (repeat(first|((repeat(revert hN;revert N;apply Pn.out));refine wk @ab.eq_1 ?_;(repeat(refine Pn.mk ?_;intro N hN)))|((try apply Or.inl);refine⟨_,aj.x (h1) (sd @ab.eq_1),?_⟩;refine hN _ _ ?_;clear hN N)|((try apply Or.inl);refine⟨_,aj.x (h2) (sd @ab.eq_1),?_⟩;refine hN _ _ ?_;clear hN N)))
  exact aP (b:=true) (.inl rfl) (sd @Nat.zero_add) rfl
 have q2:aj Tryz.prog 21 [.agg (aJ a.bF),.agg (aJ a.bF)] (.bool true):=by
  refine aj.body ek rfl fun hl n0=>?_
  clear hl
  have h1:=tn a.bF.ae a.bF.ae
  rw[decide_eq_true rfl]at h1
  (repeat(first|((repeat(revert hN;revert N;apply Pn.out));refine wk @aJ.eq_1 ?_;(repeat(refine Pn.mk ?_;intro N hN)))|((try apply Or.inl);refine⟨_,aj.x (h1) (sd @aJ.eq_1),?_⟩;refine hN _ _ ?_;clear hN N)))
  exact aP (b:=true) (.inl rfl) (sd @Nat.zero_add) rfl
 rw[ab]at q1
 rw[aJ]at q2
 refine aj.body ek rfl fun hl n0=>?_
 clear hl
 have e:decide (a.az=a.az)=true:=decide_eq_true rfl
 (repeat(first|((repeat(revert hN;revert N;apply Pn.out));refine wk (tw @ay.eq_1 @e) ?_;(repeat(refine Pn.mk ?_;intro N hN)))|((try apply Or.inl);refine⟨_,aj.x (q1) (sd (tw @ay.eq_1 @e)),?_⟩;refine hN _ _ ?_;clear hN N)|((try apply Or.inl);refine⟨_,aj.x (q2) (sd (tw @ay.eq_1 @e)),?_⟩;refine hN _ _ ?_;clear hN N)))
 exact aP (b:=true) (.inl rfl) (sd @Nat.zero_add) rfl
end Go.Proofs.YtgoelphibofcmaaGreat.V

namespace Go.Proofs.YtgoelphibofcmaaGreat.V
open Go.RowKit
def isApp:gu->Bool
 | .append .. =>true
 |_=>false
variable {P:Program} {X:fE} {K:Env->au->Prop} {env:Env} {σ:au}
theorem Ng {draw:Bool} {o:aY} {r:List aY} (_:isApp o.op=false) (h:∀N:AV->au->Prop,(∀v s,wpOps X draw r K (upd env o.dst v) s->N v s)->if aL o.guard env then fU X draw o env σ N else N .undef σ):wpOps X draw (o::r) K env σ:=Pa h
end Go.Proofs.YtgoelphibofcmaaGreat.V

namespace Go.Proofs.YtgoelphibofcmaaGreat.V
open Go.RowKit
section
variable {α:Type} {enc:α->List AV} {sz:Nat} {g g':Rows} {a:AV} {xs:List α} {ids:List Id}
end
abbrev CL (α:Type):=Rows->List AV->α->List Id->Prop
structure xg {α:Type} (R:CL α) (sz:Nat):Prop where
 frame:∀{g g':Rows} {cs x ids},R g cs x ids->(∀i∈ids,g' i=g i)->R g' cs x ids
 len:∀{g cs x ids},R g cs x ids->cs.length=sz
 cell:∀{g cs x ids},R g cs x ids->cs.all AV.cell=true
 live:∀{g cs x ids},R g cs x ids->∀i∈ids,∃r,g i=some r/\r.w=true/\r.sz<rI
 small:sz<rI
inductive eD {α:Type} (R:CL α) (g:Rows):List (List AV)->List α->List Id->Prop
 |nil:eD R g [] [] []
 |cons {cs x i1 rs xs i2}:R g cs x i1->eD R g rs xs i2->eD R g (cs::rs) (x::xs) (i1++i2)
section
variable {α:Type} {R:CL α} {sz:Nat} {g g':Rows} {rows r1 r2:List (List AV)} {xs x1 x2:List α} {ids i1 i2:List Id}
theorem eD.len (h:eD R g rows xs ids):rows.length=xs.length:=by
 induction h with
 |nil=>rfl
 |cons _ _ ih=>simp[ih]
theorem eD.frame (ok:xg R sz) (h:eD R g rows xs ids) (hf:∀i∈ids,g' i=g i):eD R g' rows xs ids:=by
 induction h with
 |nil=>exact .nil
 |cons h1 _ ih=>exact .cons (ok.frame h1 fun i hi=>hf i (List.mem_append_left _ hi)) (ih fun i hi=>hf i (List.mem_append_right _ hi))
theorem eD.app (h1:eD R g r1 x1 i1) (h2:eD R g r2 x2 i2):eD R g (r1++r2) (x1++x2) (i1++i2):=by
 induction h1 with
 |nil=>exact h2
 |cons h _ ih=>rw[List.append_assoc];exact .cons h ih
theorem eD.one {cs:List AV} {x:α} (h:R g cs x ids):eD R g [cs] [x] ids:=by
 have:=eD.cons h eD.nil
 rwa [List.append_nil]at this
theorem eD.split (h:eD R g rows xs ids):∀k (hk:k<xs.length),∃r1 cs r2 i1 ic i2,rows=r1++cs::r2/\r1.length=k/\ids=i1++(ic++i2)/\eD R g r1 (xs.take k) i1/\R g cs xs[k] ic/\eD R g r2 (xs.drop (k+1)) i2:=by
 induction h with
 |nil=>intro k hk;simp at hk
 |cons h1 h2 ih=>
  rename_i cs x j1 rs xs j2
  intro k hk
  cases k with
  |zero=>exact⟨[],cs,rs,[],j1,j2,rfl,rfl,rfl,.nil,h1,h2⟩
  |succ k=>
   obtain⟨r1,pT,r2,i1,ic,i2,rfl,hl,rfl,h3,h4,h5⟩:=ih k (by simpa using hk)
   exact⟨cs::r1,pT,r2,j1++i1,ic,i2,rfl,by simp[hl],by rw[List.append_assoc],.cons h1 h3,h4,h5⟩
theorem eD.at_ (h:eD R g rows xs ids) (k:Nat) (hk:k<xs.length):∃cs ic,rows[k]? =some cs/\R g cs xs[k] ic/\∀i∈ic,i∈ids:=by
 obtain⟨r1,cs,r2,i1,ic,i2,rfl,hl,rfl,h3,h4,h5⟩:=h.split k hk
 refine⟨cs,ic,by rw[List.getElem?_append_right (by omega)];simp[hl],h4,fun i hi=>by simp[hi]⟩
theorem eD.fz {n:Nat} {e:α->List AV} (h:eD R g rows xs ids) (hz:∀{cs x ids},R g cs x ids->cL (dX g) n cs=some (e x)):dV (dX g) n rows=some (xs.map e):=by
 induction h with
 |nil=>rw[dV];rfl
 |cons h1 _ ih=>rw[dV,hz h1,ih];rfl
end
section
variable {α:Type} {R:CL α} {sz:Nat} {g g':Rows} {a:AV} {xs:List α} {ids:List Id}
end
end Go.Proofs.YtgoelphibofcmaaGreat.V
