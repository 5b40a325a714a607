/- One operation, calls among them. -/
import Derived.Test.YtgoljkjaameagaaGreatGsA
import Derived.Orders
import Derived.Conc.LoneCalls
import Derived.WalkKit
import Derived.WalkSpells
import Derived.WalkLawsBesides
import Derived.Lib.Hide
import Derived.Deep.QuietTactic
import Derived.BigQuiet
import Derived.StillTailTactics
import Derived.Deep.RegionWith
import Derived.Deep.RegionHeld3
import Derived.Deep.LoopGhost
import Derived.Deep.CutRange
import Derived.Deep.DeepCutAuto
import Derived.Test.YtgoljkjaameagaaGreatChecked
set_option linter.unusedVariables false
set_option linter.unusedSimpArgs false
set_option maxRecDepth 100000
set_option maxHeartbeats 16000000
namespace Go.Proofs.YtgoljkjaameagaaGreat.V
open Go.RowKit
variable {P:Program} {w w':World} {D D' D2:Nat->Prop} {ι ι' ι2:Names}
def Sound (P:Program):gn:=fun f args σ K=>∀(hs:Nat) (D:Nat->Prop) (ι:Names) (w:World) (vs:Array Value),gR P hs D ι σ.get w->Used ι σ.next (fun _=>False)->fG P w D ι args vs->
 Calls P f vs w fun e w'=>∃r g' n' D' ι' u,e=.returned u/\K r ⟨g',n'⟩/\Step hs D ι w D' ι' w'/\gR P hs D' ι' g' w'/\Used ι' n' (fun _=>False)/\σ.next<=n'/\dd P w' D' ι' r u
section
variable {g:Rows} {hs:Nat} {env:Env} {a:Act} {o:Oper} {id:Id} {v:AV}
theorem gR.ro (S:gR P hs D ι g w):gR P w.heap.size D ι (ro g) w:=by
 refine⟨Nat.le_refl _,S.dead,fun id r h=>?_,fun id kE r r' B B' h h' hw=>?_⟩
 ·unfold V.ro at h
  simp only[Option.map_eq_some_iff]at h
  obtain⟨r0,h0,rfl⟩:=h
  obtain⟨B,hB,R,_,_⟩:=S.row id r0 h0
  exact⟨B,hB,R.flag false,fun h=>by simp at h,fun h=>by simp at h⟩
 ·unfold V.ro at h
  simp only[Option.map_eq_some_iff]at h
  obtain⟨r0,h0,rfl⟩:=h
  simp at hw
theorem CO {g0:Rows} {f:Nat} {args:List AV} {n:Nat} {K:AV->Prop} {vs:Array Value} (h:PC (Sound P) f args ⟨g0,n⟩ K) (rY:∀id r,g0 id=some r->g id=some r) (S:gR P hs D ι g w) (U:Used ι n (fun _=>False)) (A:fG P w D ι args vs):
  Calls P f vs w fun e w'=>∃r D' u,e=.returned u/\K r/\Step hs D ι w D' ι w'/\gR P hs D' ι g w'/\dd P w' D' ι r u:=by
 refine(h w.heap.size D ι w vs (S.sub rY).ro U A).mono ?_
 rintro e w' ⟨r0,g',n',D1,ι1,u,rfl,⟨r,hr,hK⟩,T,S1,_,_,hR⟩
 have hb:∀b,b<w.heap.size->w'.heap[b]? =w.heap[b]? :=T.below.block
 have hz:=T.below.size
 have q:=sZ (D2:=fun b=>D b∨(w.heap.size<=b/\b<w'.heap.size)) (ι2:=ι) (fun b hd=>by
  rcases T.new b hd with h|h
  ·exact .inl h
  ·exact .inr ⟨h,S1.dead b hd⟩) (fun id row hg hw=>by
  obtain⟨B,hB,R,h1,_⟩:=S1.row id row hg
  exact⟨B,hB,R,.inr ⟨h1 hw,R.lt⟩⟩) 6 r0 u r hR hr
 refine⟨r,_,u,rfl,hK,?_,?_,q.1⟩
 ·exact Step.stay S hb hz T.below.os T.below.tape T.below.output (fun _ h=>.inl h) (fun b h=>by rcases h with h|h;exact .inl h;exact .inr h.1) (fun _ _ h=>h)
 ·exact S.stay hb hz (fun _ h=>.inl h) (fun b h=>by rcases h with h|h;exact Nat.lt_of_lt_of_le (S.dead b h) hz;exact h.2) (fun b h=>by rcases h with h|h;exact .inl h;exact .inr h.1) (fun _ _ h=>h)
theorem zL {g0:Rows} {f:Nat} {args:List AV} {n:Nat} {K:AV->Prop} {vs:Array Value} (h:PCv (Sound P) f args ⟨g0,n⟩ K) (rY:∀id r,g0 id=some r->g id=some r) (S:gR P hs D ι g w) (U:Used ι n (fun _=>False)) (A:fG P w D ι args vs):
  Calls P f vs w fun e w'=>∃r D' u,e=.returned u/\K r/\Step hs D ι w D' ι w'/\gR P hs D' ι g w'/\dd P w' D' ι r u:=by
 obtain⟨args',ha,h⟩:=h
 let D1:Nat->Prop:=fun b=>D b∨∃id r B,g id=some r/\ι id=some B/\b=B.b
 have lt:∀id r B,g id=some r->ι id=some B->B.b<w.heap.size:=fun id r B h1 h2=>by
  obtain⟨B',dL,R,_⟩:=S.row id r h1
  rw[h2]at dL;injection dL with dL;subst dL
  exact R.lt
 have S0:gR P w.heap.size D1 ι (fun _=>none) w:=⟨Nat.le_refl _,fun b hb=>by
  rcases hb with hb|⟨id,r,B,h1,h2,rfl⟩
  ·exact S.dead b hb
  ·exact lt id r B h1 h2,fun id r h=>(by cases h),fun id kE r r' B B' h=>(by cases h)⟩
 obtain⟨l1,l2⟩:=gW ha
 have A':fG P w D1 ι args' vs:=⟨by rw[A.1,l1],fun j a hj=>by
  obtain⟨a0,ma,hf⟩:=l2 j a hj
  obtain⟨u,hu,hr⟩:=A.2 j a0 ma
  refine⟨u,hu,(sZ (D2:=D1) (ι2:=ι) (fun b h=>.inl h) (fun id row hg hw=>?_) 6 a0 u a hr hf).1⟩
  unfold dH at hg
  simp only[Option.map_eq_some_iff]at hg
  obtain⟨r,pf,rfl⟩:=hg
  obtain⟨B,hB,R,_,_⟩:=S.row id r (rY id r pf)
  exact⟨B,hB,R.flag true,.inr ⟨id,r,B,rY id r pf,hB,rfl⟩⟩⟩
 refine(h w.heap.size D1 ι w vs S0 U A').mono ?_
 rintro e w' ⟨r0,g',n',D2,ι1,u,rfl,⟨r,hr,hK⟩,T,S1,_,_,hR⟩
 have hb:∀b,b<w.heap.size->w'.heap[b]? =w.heap[b]? :=T.below.block
 have hz:=T.below.size
 have q:=IZ (D2:=fun b=>D b∨(w.heap.size<=b/\b<w'.heap.size)) (ι2:=ι) (fun id row hg hw=>by
  obtain⟨B,hB,R,h1,_⟩:=S1.row id row hg
  exact⟨B,hB,R,.inr ⟨h1 hw,R.lt⟩⟩) 6 r0 u r hR hr
 refine⟨r,_,u,rfl,hK,?_,?_,q.1⟩
 ·exact Step.stay S hb hz T.below.os T.below.tape T.below.output (fun _ h=>.inl h) (fun b h=>by rcases h with h|h;exact .inl h;exact .inr h.1) (fun _ _ h=>h)
 ·exact S.stay hb hz (fun _ h=>.inl h) (fun b h=>by rcases h with h|h;exact Nat.lt_of_lt_of_le (S.dead b h) hz;exact h.2) (fun b h=>by rcases h with h|h;exact .inl h;exact .inr h.1) (fun _ _ h=>h)
theorem Ip {g0:Rows} {f:Nat} {args:List AV} {n:Nat} {K:AV->Prop} {vs:Array Value} (h:gw (Sound P) f args ⟨g0,n⟩ K) (rY:∀id r,g0 id=some r->g id=some r) (S:gR P hs D ι g w) (U:Used ι n (fun _=>False)) (A:fG P w D ι args vs):
  Calls P f vs w fun e w'=>∃r D' u,e=.returned u/\K r/\Step hs D ι w D' ι w'/\gR P hs D' ι g w'/\dd P w' D' ι r u:=by
 rcases h with h|h
 ·exact CO h rY S U A
 ·exact zL h rY S U A
theorem JX {D1 D2:Nat->Prop} {ι1 ι2:Names} {w1:World} {a:AV} {v:Value} (hp:a.plain=true) (h:dd P w D1 ι1 a v):dd P w1 D2 ι2 a v:=by
 cases h with
 |eV a v h=>cases h<;>first|(simp[AV.plain]at hp;done)|exact .eV _ _ (by constructor)
 |_=>simp[AV.plain]at hp
theorem gR.add {r:Row} {B:uf} (S:gR P hs D ι g w) (S':gR P hs D ι g w') (hf:ι id=none) (j6:w.heap.size<=B.b) (R:iF P w' D (kW ι id B) B r):gR P hs D (kW ι id B) (bE g id r) w':=by
 have lt:∀kE r' B',g kE=some r'->ι kE=some B'->B'.b<w.heap.size:=fun kE r' B' h1 h2=>by
  obtain⟨B2,qU,R2,_⟩:=S.row kE r' h1
  rw[h2]at qU;injection qU with qU;subst qU
  exact R2.lt
 have ne:∀kE r',g kE=some r'->kE≠id:=fun kE r' h he=>by
  subst he
  obtain⟨B2,qU,_⟩:=S.row _ r' h
  rw[hf]at qU;cases qU
 refine⟨S'.lo,S'.dead,fun kE r' h=>?_,fun Wh id2 r1 r2 B1 B2 h1 h2 hw CD qU hb=>?_⟩
 ·unfold bE at h
  split at h
  ·rename_i he
   subst he
   injection h with h;subst h
   exact⟨B,ev _ _ _,R,fun _=>Nat.le_trans S.lo j6,fun _ hd=>Nat.lt_irrefl _ (Nat.lt_of_lt_of_le (S.dead _ hd) j6)⟩
  ·obtain⟨B',dL,R',k1,k2⟩:=S'.row kE r' h
   exact⟨B',by rw[gQ (ne _ _ h)];exact dL,R'.frame rfl (fun a v hr=>hr.frame (fun _ _=>rfl) (fun _ h=>h) (fj hf)),k1,k2⟩
 ·unfold bE at h1 h2
  split at h1
  ·rename_i e1
   split at h2
   ·rename_i e2;rw[e1,e2]
   ·exfalso
    subst e1
    rw[ev]at CD;injection CD with CD;subst CD
    rw[gQ (ne _ _ h2)]at qU
    have:=lt _ _ _ h2 qU
    omega
  ·rw[gQ (ne _ _ h1)]at CD
   split at h2
   ·rename_i e2
    exfalso
    subst e2
    rw[ev]at qU;injection qU with qU;subst qU
    have:=lt _ _ _ h1 CD
    omega
   ·rw[gQ (ne _ _ h2)]at qU
    exact S'.inj Wh id2 r1 r2 B1 B2 h1 h2 hw CD qU hb
theorem KF {g0:Rows} {f:Nat} {args:List AV} {n sz:Nat} {rows:List (List AV)} {vs:Array Value} (h:CM (Sound P) f args ⟨g0,n⟩ sz rows) (rY:∀id r,g0 id=some r->g id=some r) (S:gR P hs D ι g w) (U:Used ι n (fun _=>False)) (A:fG P w D ι args vs) (hf:ι id=none):
  Calls P f vs w fun e w'=>∃u B,e=.returned u/\Step hs D ι w D (kW ι id B) w'/\gR P hs D (kW ι id B) (bE g id ⟨true,sz,rows⟩) w'/\dd P w' D (kW ι id B) (.own id 0 rows.length) u:=by
 obtain⟨mj,args',ha,h⟩:=h
 let D1:Nat->Prop:=fun b=>D b∨∃id r B,g id=some r/\ι id=some B/\b=B.b
 have lt:∀id r B,g id=some r->ι id=some B->B.b<w.heap.size:=fun id r B h1 h2=>by
  obtain⟨B',dL,R,_⟩:=S.row id r h1
  rw[h2]at dL;injection dL with dL;subst dL
  exact R.lt
 have S0:gR P w.heap.size D1 ι (fun _=>none) w:=⟨Nat.le_refl _,fun b hb=>by
  rcases hb with hb|⟨id,r,B,h1,h2,rfl⟩
  ·exact S.dead b hb
  ·exact lt id r B h1 h2,fun id r h=>(by cases h),fun id kE r r' B B' h=>(by cases h)⟩
 obtain⟨l1,l2⟩:=gW ha
 have A':fG P w D1 ι args' vs:=⟨by rw[A.1,l1],fun j a hj=>by
  obtain⟨a0,ma,hz⟩:=l2 j a hj
  obtain⟨u,hu,hr⟩:=A.2 j a0 ma
  refine⟨u,hu,(sZ (D2:=D1) (ι2:=ι) (fun b h=>.inl h) (fun id row hg hw=>?_) 6 a0 u a hr hz).1⟩
  unfold dH at hg
  simp only[Option.map_eq_some_iff]at hg
  obtain⟨r,pf,rfl⟩:=hg
  obtain⟨B,hB,R,_,_⟩:=S.row id r (rY id r pf)
  exact⟨B,hB,R.flag true,.inr ⟨id,r,B,rY id r pf,hB,rfl⟩⟩⟩
 refine(h w.heap.size D1 ι w vs S0 U A').mono ?_
 rintro e w' ⟨r0,g',n',D2,ι1,u,rfl,⟨i0,hr,hg⟩,T,S1,_,_,hR⟩
 subst hr
 have hb:∀b,b<w.heap.size->w'.heap[b]? =w.heap[b]? :=T.below.block
 have hz:=T.below.size
 obtain⟨B,hB,R,k1,_⟩:=S1.row i0 _ hg
 have j6:w.heap.size<=B.b:=k1 rfl
 obtain⟨o,cap,B',rfl,dL,q2,q3,q4,q5,hk⟩:=ja hR
 rw[hB]at dL;injection dL with dL;subst dL
 replace R:=R.row hk
 have S':gR P hs D ι g w':=S.stay hb hz (fun _ h=>h) (fun b h=>Nat.lt_of_lt_of_le (S.dead b h) hz) (fun b h=>.inl h) (fun _ _ h=>h)
 have R':lL P w' D (kW ι id B) B ⟨true,sz,rows⟩:=⟨R.sz,R.tV,R.fits,R.len,R.flat,fun i j cs a hi hj=>by
  obtain⟨v,h1,h2⟩:=R.at_ i j cs a hi hj
  exact⟨v,h1,JX (mj cs (List.mem_of_getElem? hi) a (List.mem_of_getElem? hj)) h2⟩⟩
 exact⟨_,B,rfl,Step.stay S hb hz T.below.os T.below.tape T.below.output (fun _ h=>h) (fun _ h=>.inl h) (fj hf),S.add S' hf j6 (R'.obj hk),.own id 0 _ _ _ B (ev _ _ _) hk q2 q3 q4 q5⟩
theorem jV {f:Nat} {args:Array Value} (hc:gz P f=true):(callFunc f args).run P w=.ok (.enter f args) w:=by
 unfold gz at hc
 split at hc
 ·rename_i fn hf
  simp only[Bool.and_eq_true,Bool.not_eq_true']at hc
  have hb:fn.body.isNone=false:=by cases hq:fn.body<;>simp_all
  simp only[callFunc,Sem.run_bind,run_program,Result.andThen_ok,hf,hc.2,Bool.false_eq_true,if_false,hb]
  rfl
 ·simp at hc
theorem D7 {f:Nat} {args:List O} (hc:sq P o.op=some (.call f args)):∃c,o.op=.call c/\c.callee=.value (.func f)/\gz P f=true/\c.args.toList.mapM (cO P)=some args:=by
 unfold sq at hc
 split at hc
 case h_23=>
  rename_i c ho
  refine⟨c,ho,?_⟩
  unfold oI at hc
  split at hc
  all_goals (try(repeat' (split at hc))<;>(simp only[Option.bind_eq_bind,Option.bind_eq_some_iff,Option.pure_def,Option.some.injEq,Option.map_eq_some_iff,reduceCtorEq,and_false,exists_false]at hc))
  all_goals simp_all
 all_goals (try unfold xr at hc)<;>(try unfold uo at hc)<;>(repeat' (split at hc))<;>(simp only[Option.bind_eq_bind,Option.bind_eq_some_iff,Option.pure_def,Option.some.injEq,Option.map_eq_some_iff,reduceCtorEq,and_false,exists_false]at hc)
theorem uJ {x:O} {args:List O} (hc:sq P o.op=some (.vk x args)):∃c t,o.op=.call c/\c.callee=.value (.tmp t)/\x=.t t/\c.args.toList.mapM (cO P)=some args:=by
 unfold sq at hc
 split at hc
 case h_23=>
  rename_i c ho
  refine⟨c,?_⟩
  unfold oI at hc
  split at hc
  all_goals (try(repeat' (split at hc))<;>(simp only[Option.bind_eq_bind,Option.bind_eq_some_iff,Option.pure_def,Option.some.injEq,Option.map_eq_some_iff,reduceCtorEq,and_false,exists_false]at hc))
  all_goals simp_all
 all_goals (try unfold xr at hc)<;>(try unfold uo at hc)<;>(repeat' (split at hc))<;>(simp only[Option.bind_eq_bind,Option.bind_eq_some_iff,Option.pure_def,Option.some.injEq,Option.map_eq_some_iff,reduceCtorEq,and_false,exists_false]at hc)
theorem Jn {n:Nat} {x y:O} (hc:sq P o.op=some (.store n x y)):∃t x' y',o.op=.store t x' y'/\eC P t=some n/\cO P x'=some x/\cO P y'=some y:=by
 unfold sq at hc
 split at hc
 case h_7=>
  rename_i t x' y' ho
  refine⟨t,x',y',ho,?_⟩
  simp only[Option.bind_eq_bind,Option.bind_eq_some_iff,Option.pure_def,Option.some.injEq]at hc
  obtain⟨n',h1,x2,h2,y2,h3,he⟩:=hc
  injection he with e1 e2 e3
  subst e1;subst e2;subst e3
  exact⟨h1,h2,h3⟩
 all_goals (try unfold xr at hc)<;>(try unfold uo at hc)<;>(try unfold oI at hc)<;>(repeat' (split at hc))<;>(simp only[Option.bind_eq_bind,Option.bind_eq_some_iff,Option.pure_def,Option.some.injEq,Option.map_eq_some_iff,reduceCtorEq,and_false,exists_false]at hc)
theorem Gk {n:Nat} {x y:O} (hc:sq P o.op=some (.append n x y)):∃(t e:TypeId) (m:Nat) (z:List K) (i:TypeInfo) (x' y':Operand),n=m+1/\o.op=.call {callee:=.builtin .append,args:= #[x',y'],argTypes:= #[t,t]}/\
  P.underlying t=some (.slice e)/\eC P e=some (m+1)/\j9 P e=some z/\P.info? e=some i/\i.bytes<=32768/\cO P x'=some x/\cO P y'=some y:=by
 unfold sq at hc
 split at hc
 case h_23=>
  rename_i c ho
  unfold oI at hc
  split at hc
  case h_2=>
   rename_i lx
   split at hc
   ·rename_i x' y' t u h1 h2
    split at hc
    ·rename_i e ht
     split at hc
     ·rename_i m z i e1 e2 e3
      split at hc
      ·rename_i hb
       simp only[Option.bind_eq_bind,Option.bind_eq_some_iff,Option.pure_def,Option.some.injEq]at hc
       obtain⟨x2,h3,y2,h4,he⟩:=hc
       injection he with k1 k2 k3
       subst k1;subst k2;subst k3
       obtain⟨Kv,rfl⟩:=hb
       refine⟨t,e,m,z,i,x',y',rfl,?_,ht,e1,e2,e3,Kv,h3,h4⟩
       rw[ho]
       obtain⟨ca,cb,cc⟩:=c
       simp only at h1 h2 lx
       subst lx
       congr
       ·exact Array.ext' h1
       ·exact Array.ext' h2
      ·simp at hc
     ·simp at hc
    ·simp at hc
   ·simp at hc
  all_goals (repeat' (split at hc))<;>(simp only[Option.bind_eq_bind,Option.bind_eq_some_iff,Option.pure_def,Option.some.injEq,Option.map_eq_some_iff,reduceCtorEq,and_false,exists_false]at hc)
 all_goals (try unfold xr at hc)<;>(try unfold uo at hc)<;>(repeat' (split at hc))<;>(simp only[Option.bind_eq_bind,Option.bind_eq_some_iff,Option.pure_def,Option.some.injEq,Option.map_eq_some_iff,reduceCtorEq,and_false,exists_false]at hc)
theorem Mf {n:Nat} {x y:O} (hc:sq P o.op=some (.copy n x y)):∃(t t2 e:TypeId) (m:Nat) (x' y':Operand),n=m+1/\o.op=.call {callee:=.builtin .copy,args:= #[x',y'],argTypes:= #[t,t2]}/\
  P.underlying t=some (.slice e)/\eC P e=some (m+1)/\cO P x'=some x/\cO P y'=some y:=by
 unfold sq at hc
 split at hc
 case h_23=>
  rename_i c ho
  unfold oI at hc
  split at hc
  case h_7=>
   rename_i lx
   split at hc
   ·rename_i x' y' t t2 h1 h2
    split at hc
    ·rename_i e ht
     split at hc
     ·rename_i m e1
      simp only[Option.bind_eq_bind,Option.bind_eq_some_iff,Option.pure_def,Option.some.injEq,gV.copy.injEq]at hc
      obtain⟨x2,h3,y2,h4,k0,k1,k2⟩:=hc
      subst k1;subst k2
      refine⟨t,t2,e,m,x',y',k0.symm,?_,ht,e1,h3,h4⟩
      rw[ho]
      obtain⟨ca,cb,cc⟩:=c
      simp only at h1 h2 lx
      subst lx
      congr
      ·exact Array.ext' h1
      ·exact Array.ext' h2
     ·simp at hc
    ·simp at hc
   ·simp at hc
  all_goals (repeat' (split at hc))<;>(simp only[Option.bind_eq_bind,Option.bind_eq_some_iff,Option.pure_def,Option.some.injEq,Option.map_eq_some_iff,reduceCtorEq,and_false,exists_false]at hc)
 all_goals (try unfold xr at hc)<;>(try unfold uo at hc)<;>(repeat' (split at hc))<;>(simp only[Option.bind_eq_bind,Option.bind_eq_some_iff,Option.pure_def,Option.some.injEq,Option.map_eq_some_iff,reduceCtorEq,and_false,exists_false]at hc)
theorem Jm {z:List K} {x:O} (hc:sq P o.op=some (.clear z x)):∃(t e:TypeId) (m:Nat) (x':Operand),o.op=.call {callee:=.builtin .clear,args:= #[x'],argTypes:= #[t]}/\
  P.underlying t=some (.slice e)/\eC P e=some (m+1)/\j9 P e=some z/\cO P x'=some x:=by
 unfold sq at hc
 split at hc
 case h_23=>
  rename_i c ho
  unfold oI at hc
  split at hc
  case h_3=>
   rename_i lx
   split at hc
   ·rename_i x' t h1 h2
    split at hc
    ·rename_i e ht
     split at hc
     ·rename_i m z' e1 e2
      simp only[Option.map_eq_some_iff]at hc
      obtain⟨x2,h3,he⟩:=hc
      injection he with k1 k2
      subst k1;subst k2
      refine⟨t,e,m,x',?_,ht,e1,e2,h3⟩
      rw[ho]
      obtain⟨ca,cb,cc⟩:=c
      simp only at h1 h2 lx
      subst lx
      congr
      ·exact Array.ext' h1
      ·exact Array.ext' h2
     ·simp at hc
    ·simp at hc
   ·simp at hc
  all_goals (repeat' (split at hc))<;>(simp only[Option.bind_eq_bind,Option.bind_eq_some_iff,Option.pure_def,Option.some.injEq,Option.map_eq_some_iff,reduceCtorEq,and_false,exists_false]at hc)
 all_goals (try unfold xr at hc)<;>(try unfold uo at hc)<;>(repeat' (split at hc))<;>(simp only[Option.bind_eq_bind,Option.bind_eq_some_iff,Option.pure_def,Option.some.injEq,Option.map_eq_some_iff,reduceCtorEq,and_false,exists_false]at hc)
theorem S4 {q:MW} {xs:List O} (hc:sq P o.op=some (.mw q xs)):
  (∃t x k y m z x' k' y',(o.op=.mapUpdate t x k y∨o.op=.insert t x k y)/\uq P t=some (m,z)/\cO P x=some x'/\cO P k=some k'/\cO P y=some y'/\q=.set m/\xs=[x',k',y'])∨
  (∃t t' x k m z x' k',o.op=.call {callee:=.builtin .delete,args:= #[x,k],argTypes:= #[t,t']}/\uq P t=some (m,z)/\cO P x=some x'/\cO P k=some k'/\q=.del m/\xs=[x',k']):=by
 unfold sq at hc
 split at hc
 case h_23=>
  rename_i c ho
  right
  unfold oI at hc
  split at hc
  case h_6=>
   rename_i lx
   split at hc
   ·rename_i x k t t' h1 h2
    split at hc
    ·rename_i m z x' k' e1 e2 e3
     injection hc with hc
     injection hc with q1 q2
     refine⟨t,t',x,k,m,z,x',k',?_,e1,e2,e3,q1.symm,q2.symm⟩
     rw[ho]
     obtain⟨ca,cb,cc⟩:=c
     simp only at h1 h2 lx
     subst lx
     congr
     ·exact Array.ext' h1
     ·exact Array.ext' h2
    ·cases hc
   ·cases hc
  all_goals (repeat' (split at hc))<;>(simp only[Option.bind_eq_bind,Option.bind_eq_some_iff,Option.pure_def,Option.some.injEq,Option.map_eq_some_iff,reduceCtorEq,and_false,exists_false]at hc)
 case h_29=>
  rename_i t x k y ho
  left
  split at hc
  ·rename_i m z x' k' y' e1 e2 e3 e4
   injection hc with hc
   injection hc with q1 q2
   exact⟨t,x,k,y,m,z,x',k',y',.inl ho,e1,e2,e3,e4,q1.symm,q2.symm⟩
  ·cases hc
 case h_30=>
  rename_i t x k y ho
  left
  split at hc
  ·rename_i m z x' k' y' e1 e2 e3 e4
   injection hc with hc
   injection hc with q1 q2
   exact⟨t,x,k,y,m,z,x',k',y',.inr ho,e1,e2,e3,e4,q1.symm,q2.symm⟩
  ·cases hc
 all_goals (try unfold xr at hc)<;>(try unfold uo at hc)<;>(repeat' (split at hc))<;>(simp only[Option.bind_eq_bind,Option.bind_eq_some_iff,Option.pure_def,Option.some.injEq,Option.map_eq_some_iff,reduceCtorEq,and_false,exists_false]at hc)
def jH (g:Rows) (id:Id):Option Row->Rows
 |some r=>bE g id r
 |none=>g
def xw (X:gn) (hid:List Nat) (site n:Nat) (f:Nat) (args:List AV) (g:Rows) (v:AV) (g':Rows):Prop:=
 (gw X f args ⟨fS hid n g,n+1⟩ (fun r=>r=v)/\g'=g)∨
 (hid.contains site=true/\∃sz rows,CM X f args ⟨fS hid n g,n+1⟩ sz rows/\v=.own ⟨site,n⟩ 0 rows.length/\g'=bE g ⟨site,n⟩ ⟨true,sz,rows⟩)
def VS (X:gn) (n:Nat) (vo:bx) (env:Env) (g:Rows) (v:AV) (g':Rows):Prop:=
 match vo.op with
 | .call f args=>xw X vo.hid vo.site n f (args.map (dc env)) g v g'
 | .vk x args=>∃f l,xu (dc env x) (args.map (dc env))=some (f,l)/\xw X vo.hid vo.site n f l g v g'
 | .store .. | .append .. | .copy .. | .clear .. | .mw .. =>fV vo.op (dc env) g ⟨vo.site,n⟩=some (v,g')
 |_=>∃mr,eM vo.op (dc env) (fS vo.hid n g) ⟨vo.site,n⟩=some (v,mr)/\g'=jH g ⟨vo.site,n⟩ mr
def Qr (P:Program) (hs:Nat) (D:Nat->Prop) (ι:Names) (w:World) (U:Nat->Prop) (site n:Nat) (a:Act) (dst:Option Tmp) (v:AV) (g':Rows) (a':Act) (w':World):Prop:=
 ∃u D' ι',a'=a.put dst u/\Step hs D ι w D' ι' w'/\gR P hs D' ι' g' w'/\dd P w' D' ι' v u/\Used ι' n (fun s=>U s∨s=site)
theorem fresh {n:Nat} {U:Nat->Prop} {s:Nat} (h:Used ι n U) (hU:¬U s):ι ⟨s,n⟩=none:=by
 cases hq:ι ⟨s,n⟩with
 |none=>rfl
 |some B=>
  rcases h ⟨s,n⟩ (by rw[hq];simp)with h|⟨_,h⟩
  ·exact absurd h (Nat.lt_irrefl _)
  ·exact absurd h hU
theorem Used.more {n:Nat} {U U':Nat->Prop} (h:Used ι n U) (hU:∀s,U s->U' s):Used ι n U':=fun id hid=>by
 rcases h id hid with h|⟨h1,h2⟩
 ·exact .inl h
 ·exact .inr ⟨h1,hU _ h2⟩
theorem Used.next {n:Nat} {U:Nat->Prop} (h:Used ι n U):Used ι (n+1) (fun _=>False):=fun id hid=>by
 rcases h id hid with h|⟨h1,_⟩
 ·exact .inl (Nat.lt_succ_of_lt h)
 ·exact .inl ah
theorem Used.upd {n:Nat} {U:Nat->Prop} {s:Nat} {B:uf} (h:Used ι n U):Used (kW ι ⟨s,n⟩ B) n (fun x=>U x∨x=s):=fun id hid=>by
 by_cases he:id=⟨s,n⟩
 ·subst he;exact .inr ⟨rfl,.inr rfl⟩
 ·rw[gQ he]at hid
  exact(h.more (U':=fun x=>U x∨x=s) fun _ h=>Or.inl h) id hid
theorem pz {xs:Array Operand} {ys:List O} (E:cD P w D ι env a) (h:xs.toList.mapM (cO P)=some ys):fG P w D ι (ys.map (dc env)) (xs.map a.eval):=by
 obtain⟨h1,h2⟩:=GI E h
 refine⟨by simpa using h1,fun j b hj=>?_⟩
 simp only[List.getElem?_map,Option.map_eq_some_iff]at hj
 obtain⟨y,hy,rfl⟩:=hj
 have ei:j<xs.size:=by have:=(List.getElem?_eq_some_iff.1 hy).1;simp at h1;omega
 refine⟨a.eval xs[j],by simp[ei],?_⟩
 have:=h2 j y hy
 simpa[List.getD_eq_getElem?_getD,ei]using this
theorem qf {xs ys:List AV} {vs us:Array Value} (h:fG P w D ι xs vs) (k:fG P w D ι ys us):fG P w D ι (xs++ys) (vs++us):=
 ⟨by simp[h.1,k.1],fun j b hj=>by
  by_cases ei:j<xs.length
  ·rw[List.getElem?_append_left ei]at hj
   obtain⟨u,hu,zw⟩:=h.2 j b hj
   exact⟨u,by rw[Array.getElem?_append_left (by rw[h.1];exact ei)];exact hu,zw⟩
  ·rw[List.getElem?_append_right ah]at hj
   obtain⟨u,hu,zw⟩:=k.2 _ b hj
   exact⟨u,by rw[Array.getElem?_append_right (by rw[h.1];omega),h.1];exact hu,zw⟩⟩
theorem yH:fG P w D ι [] #[]:=⟨rfl,fun j b hj=>by simp at hj⟩
theorem xx {x:AV} {l l':List AV} {f:Nat} {vs:Array Value} {v:Value} (h:xu x l=some (f,l')) (hr:dd P w D ι x v) (hA:fG P w D ι l vs):
  ∃first dh,v=.func (.func f) first dh/\gz P f=true/\fG P w D ι l' (first++vs++dh):=by
 unfold xu at h
 split at h
 ·simp only[Option.some.injEq,Prod.mk.injEq]at h
  obtain⟨rfl,rfl⟩:=h
  obtain⟨us,q,he,HK,n1,q1,q2⟩:=uR hr
  refine⟨#[],us,he,HK,?_⟩
  rw[Array.empty_append]
  exact qf hA ⟨n1,fun j b hj=>⟨q j,q1 j (List.getElem?_eq_some_iff.1 hj).1,q2 j b hj⟩⟩
 ·simp only[Option.some.injEq,Prod.mk.injEq]at h
  obtain⟨rfl,rfl⟩:=h
  obtain⟨us,q,he,HK,n1,q1,q2⟩:=P6 hr
  refine⟨us, #[],he,HK,?_⟩
  rw[Array.append_empty]
  exact qf ⟨n1,fun j b hj=>⟨q j,q1 j (List.getElem?_eq_some_iff.1 hj).1,q2 j b hj⟩⟩ hA
 ·cases h
theorem CU {n:Nat} {vo:bx} {g':Rows} {U:Nat->Prop} {Q:Exit->Act->World->Prop} {K:Act->World->Prop} (hc:sq P o.op=some vo.op) (hv:VS (Sound P) n vo env g v g') (S:gR P hs D ι g w) (Us:Used ι n U) (hU:¬U vo.site) (E:cD P w D ι env a)
  (hK:∀a' w',Qr P hs D ι w U vo.site n a o.dst v g' a' w'->K a' w'):o.wp P a w K Q:=by
 have hf:=fresh Us hU
 have C7:∀(f:Nat) (args:List AV) (vs:Array Value),xw (Sound P) vo.hid vo.site n f args g v g'->fG P w D ι args vs->(execOp a.eval o).run P w=.ok (.enter f vs) w->o.wp P a w K Q:=by
  intro f args vs hP hA fP
  unfold Oper.wp
  rw[fP]
  rcases hP with⟨hP,rfl⟩|⟨_,sz,rows,hM,rfl,rfl⟩
  ·refine(Ip hP Ct S Us.next hA).mono ?_
   rintro e w' ⟨r,D',u,rfl,rfl,T,S',hR⟩
   exact hK _ _ ⟨u,D',ι,rfl,T,S',hR,Us.more fun _ h=>.inl h⟩
  ·refine(KF hM Ct S Us.next hA hf).mono ?_
   rintro e w' ⟨u,B,rfl,T,S',hR⟩
   exact hK _ _ ⟨u,D,_,rfl,T,S',hR,Us.upd⟩
 have quiet:∀(mr:Option Row),eM vo.op (dc env) (fS vo.hid n g) ⟨vo.site,n⟩=some (v,mr)->g'=jH g ⟨vo.site,n⟩ mr->o.wp P a w K Q:=by
  intro mr hq hg
  have XQ:=AJ hc hq (S.sub Ct) E
  unfold Oper.wp
  cases mr with
  |none=>
   obtain⟨u,fP,hR⟩:=XQ
   rw[fP]
   subst hg
   exact hK _ _ ⟨u,D,ι,rfl,Step.refl _ _ _ _,S,hR,Us.more fun _ h=>.inl h⟩
  |some r=>
   rcases XQ with⟨u,cells,T,fP,h1,h2,h3,h4,h5,h6⟩|⟨m,fP,Fc,za⟩|⟨c,fP,Fc,za⟩
   case inr.inr=>
    rw[fP]
    subst hg Fc za
    have fm:w.heap.size<(w.alloc (.chan c #[] false 0 0 false)).heap.size:=by simp
    have S':=S.stay (w':=w.alloc (.chan c #[] false 0 0 false)) (D':=D) (ι':=ι) (fun k hk=>Below.heap_alloc _ _ _ hk) (by simp) (fun _ h=>h) (fun b hd=>Nat.lt_trans (S.dead b hd) fm) (fun _ h=>.inl h) (fun _ _ h=>h)
    have S1:=S.add S' (id:=⟨vo.site,n⟩) (B:=⟨w.heap.size,sS+c,0,some (.chan c)⟩) (r:=⟨true,sS+c,[]⟩) hf (Nat.le_refl _) ⟨rfl,fun cs h=>by simp at h,fun h=>by simp at h,fun m' h=>(by simp at h),fun c' h=>by
     simp only[Option.some.injEq,BK.chan.injEq]at h;subst h
     exact⟨rfl, #[],0,0,(show(w.heap.push (Obj.chan c #[] false 0 0 false))[w.heap.size]? =some (Obj.chan c #[] false 0 0 false) by simp),rfl,fun i cs h=>by simp at h⟩⟩
    exact hK _ _ ⟨_,D,_,rfl,Step.stay S (fun k hk=>Below.heap_alloc _ _ _ hk) (by simp) rfl rfl rfl (fun _ h=>h) (fun _ h=>.inl h) (fj hf),S1,.sQ _ _ _ (ev _ _ _) rfl,Us.upd⟩
   case inr.inl=>
    rw[fP]
    subst hg Fc za
    have fm:w.heap.size<(w.alloc (.map #[] 0)).heap.size:=by simp
    have S':=S.stay (w':=w.alloc (.map #[] 0)) (D':=D) (ι':=ι) (fun k hk=>Below.heap_alloc _ _ _ hk) (by simp) (fun _ h=>h) (fun b hd=>Nat.lt_trans (S.dead b hd) fm) (fun _ h=>.inl h) (fun _ _ h=>h)
    have S1:=S.add S' (id:=⟨vo.site,n⟩) (B:=⟨w.heap.size,m.lq,0,some (.map m)⟩) (r:=⟨true,m.lq,[]⟩) hf (Nat.le_refl _) ⟨rfl,fun cs h=>by simp at h,fun h=>by simp at h,fun m' h=>by
     simp only[Option.some.injEq,BK.map.injEq]at h;subst h
     exact⟨rfl, #[],0,(show(w.heap.push (Obj.map #[] 0))[w.heap.size]? =some (Obj.map #[] 0) by simp),rfl,⟨fun cs h=>by simp at h,fun x h=>by simp at h,by simp⟩,fun i cs h=>by simp at h⟩,fun c h=>by simp at h⟩
    exact hK _ _ ⟨_,D,_,rfl,Step.stay S (fun k hk=>Below.heap_alloc _ _ _ hk) (by simp) rfl rfl rfl (fun _ h=>h) (fun _ h=>.inl h) (fj hf),S1,.map _ _ _ (ev _ _ _) rfl,Us.upd⟩
   rw[fP]
   subst hg
   have S1:=S.alloc (id:=⟨vo.site,n⟩) (w':=w.alloc (.cells cells T)) rfl hf h1 h2 h3 h4 h5
   refine hK _ _ ⟨u,D,_,rfl,Step.stay S (fun k hk=>Below.heap_alloc _ _ _ hk) (by simp) rfl rfl rfl (fun _ h=>h) (fun _ h=>.inl h) (fj hf),S1,(h6 (kW ι _ _) (ev _ _ _)).frame (fun b hd=>Below.heap_alloc _ _ _ (S.dead b hd)) (fun _ h=>h) (fun _ _ h=>h),Us.upd⟩
 have Ub:fV vo.op (dc env) g ⟨vo.site,n⟩=some (v,g')->(∀Ob,Fi P hs a o Ob D ι ⟨vo.site,n⟩ v g'->Ob=w->o.wp P a w K Q):=by
  intro _ Ob hE he
  subst he
  obtain⟨u,w',ι',fP,T,S',hR,hι⟩:=hE
  have LG:Qr P hs D ι Ob U vo.site n a o.dst v g' (a.put o.dst u) w':=⟨u,D,ι',rfl,T,S',hR,fun id hid=>by
   by_cases he:id=⟨vo.site,n⟩
   ·subst he;exact .inr ⟨rfl,.inr rfl⟩
   ·rw[hι id he]at hid
    exact(Us.more (U':=fun x=>U x∨x=vo.site) fun _ h=>Or.inl h) id hid⟩
  unfold Oper.wp
  rcases fP with fP|⟨fP,rfl⟩
  ·rw[fP];exact hK _ _ LG
  ·rw[fP];exact hK _ _ LG
 unfold VS at hv
 split at hv
 ·rename_i f args ej
  rw[ej]at hc
  obtain⟨c,ho,lx,HK,oN⟩:=D7 hc
  refine C7 f _ (c.args.map a.eval) hv (pz E oN) ?_
  simp only[execOp,ho,resolve,lx,Deferred.ofValue,Act.eval,Sem.run_bind,Sem.run_pure,Result.andThen_ok,invoke,Array.empty_append,Array.append_empty]
  exact jV HK
 ·rename_i x args ej
  obtain⟨f,l,hx,hP⟩:=hv
  rw[ej]at hc
  obtain⟨c,t,ho,lx,rfl,oN⟩:=uJ hc
  obtain⟨first,dh,he,HK,hL⟩:=xx (v:=a.eval (.tmp t)) hx (E t) (pz E oN)
  refine C7 f _ (first++c.args.map a.eval++dh) hP hL ?_
  simp only[execOp,ho,resolve,lx,he,Deferred.ofValue,Sem.run_bind,Sem.run_pure,Result.andThen_ok,invoke]
  exact jV HK
 ·rename_i m x y ej
  have k7:=hc
  rw[ej]at k7
  obtain⟨t,x',y',ho,h1,h2,h3⟩:=Jn k7
  have pc:=hv
  rw[ej]at pc
  simp only[fV,Option.map_eq_some_iff,Prod.mk.injEq]at pc
  obtain⟨g1,CG,rfl,rfl⟩:=pc
  exact Ub hv w (OB S E ho h1 h2 h3 CG) rfl
 ·rename_i m x y ej
  have k7:=hc
  rw[ej]at k7
  obtain⟨t,e,m',z,i,x',y',rfl,ho,h1,h2,h3,h4,h5,h6,h7⟩:=Gk k7
  have pc:=hv
  rw[ej]at pc
  simp only[fV,Option.bind_eq_some_iff]at pc
  obtain⟨ys,Ff,pc⟩:=pc
  exact Ub hv w (Lj S E hf ho h1 h2 h3 h4 h5 h6 h7 Ff pc) rfl
 ·rename_i m x y ej
  have k7:=hc
  rw[ej]at k7
  obtain⟨t,t2,e,m',x',y',rfl,ho,h1,h2,h3,h4⟩:=Mf k7
  have pc:=hv
  rw[ej]at pc
  simp only[fV,Option.bind_eq_some_iff]at pc
  obtain⟨ys,Ff,pc⟩:=pc
  exact Ub hv w (RM S E ho h1 h2 h3 h4 Ff pc) rfl
 ·rename_i z x ej
  have k7:=hc
  rw[ej]at k7
  obtain⟨t,e,m',x',ho,h1,h2,h3,h4⟩:=Jm k7
  have pc:=hv
  rw[ej]at pc
  simp only[fV,Option.map_eq_some_iff,Prod.mk.injEq]at pc
  obtain⟨g1,CG,rfl,rfl⟩:=pc
  exact Ub hv w (OA S E ho h1 h2 h3 h4 CG) rfl
 ·rename_i q xs ej
  have k7:=hc
  rw[ej]at k7
  have pc:=hv
  rw[ej]at pc
  simp only[fV,Option.map_eq_some_iff,Prod.mk.injEq]at pc
  obtain⟨g1,CG,rfl,rfl⟩:=pc
  rcases S4 k7 with⟨t,x,k,y,m,z,x',k',y',ho,h1,h2,h3,h4,rfl,rfl⟩|⟨t,t',x,k,m,z,x',k',ho,h1,h2,h3,rfl,rfl⟩
  ·exact Ub hv w (RP S E ho h1 h2 h3 h4 CG) rfl
  ·exact Ub hv w (RN S E ho h1 h2 h3 CG) rfl
 ·obtain⟨mr,hq,hg⟩:=hv
  exact quiet mr hq hg
end
end Go.Proofs.YtgoljkjaameagaaGreat.V

namespace Go.Proofs.YtgoljkjaameagaaGreat.V
open Go.RowKit
variable {P:Program} {w w':World} {D D' D2:Nat->Prop} {ι ι' ι2:Names}
section
variable {g:Rows} {hs:Nat} {env:Env} {a:Act} {o:Oper} {id:Id} {v:AV}
theorem qt {ops:Array Oper} {nt site0 j:Nat} {draw mk:Bool} {bs:Array Nat} {hidden:List (Nat×Bool)} {vo:bx} (h:lP P ops nt site0 draw mk bs hidden j o=some vo):
  sq P o.op=some vo.op/\vo.dst=o.dst/\vo.site=site0+j/\(∀d,o.dst=some d->d<nt)/\(match o.guard with
   |none=>vo.guard=none
   |some (i,b)=>∃t,(ops[i]?).bind (·.dst)=some t/\vo.guard=some (t,b)):=by
 unfold lP at h
 simp only[Option.bind_eq_bind,Option.bind_eq_some_iff]at h
 obtain⟨v,hv,gd,hg,h⟩:=h
 split at h
 ·rename_i hd
  simp only[Option.pure_def,Option.some.injEq]at h
  subst h
  refine⟨hv,rfl,rfl,fun d Xz=>?_,?_⟩
  ·rw[Xz]at hd;simpa using hd
  ·unfold FB at hg
   cases wI:o.guard with
   |none=>rw[wI]at hg;simp at hg;exact hg.symm
   |some p=>
    obtain⟨i,b⟩:=p
    rw[wI]at hg
    dsimp only at hg ⊢
    split at hg
    ·rename_i t ht
     simp at hg;exact⟨t,ht,hg.symm⟩
    ·simp at hg
 ·simp at h
theorem u9 {ops:Array Oper} {vo:bx} (E:cD P w D ι env a) (hg:match o.guard with
   |none=>vo.guard=none
   |some (i,b)=>∃t,(ops[i]?).bind (·.dst)=some t/\vo.guard=some (t,b)):aM vo.guard env=Region.wanted o (yielded ops a.tmps):=by
 unfold Region.wanted
 cases wI:o.guard with
 |none=>rw[wI]at hg;simp only at hg;rw[hg];rfl
 |some p=>
  obtain⟨i,b⟩:=p
  rw[wI]at hg
  obtain⟨t,ht,hv⟩:=hg
  rw[hv]
  simp only[aM,yielded,ht,Option.bind_some]
  have hr:=E t
  by_cases ei:t<a.tmps.size
  ·have eR:a.tmps[t]? =some a.tmps[t]:=Array.getElem?_eq_getElem ei
   have hd:a.tmps.getD t undef=a.tmps[t]:=by simp[ei]
   rw[hd]at hr
   rw[eR]
   generalize a.tmps[t]=u at hr
   cases he:env t with
   |bool c=>rw[he]at hr;rw[fw hr];simp
   |_=>
    rw[he]at hr
    have:∀c,u≠.bool c:=by
     intro c hu
     subst hu
     cases hr with
     |eV _ _ h=>cases h
    cases u<;>simp_all
  ·have eR:a.tmps[t]? =none:=Array.getElem?_eq_none (Nat.le_of_not_lt ei)
   have hd:a.tmps.getD t undef=undef:=by simp[eR]
   rw[hd]at hr
   rw[eR]
   cases he:env t with
   |bool c=>rw[he]at hr;have:=fw hr;simp[undef]at this
   |_=>simp
theorem iX {dst:Option Nat} {nt:Nat} {u:Value} (E:cD P w D ι env a) (hr:dd P w D ι v u) (hd:∀d,dst=some d->d<nt) (hs:a.tmps.size=nt):cD P w D ι (upd env dst v) (a.put dst u):=by
 intro t
 cases dst with
 |none=>exact E t
 |some d=>
  have ei:d<a.tmps.size:=by rw[hs];exact hd d rfl
  simp only[upd,Act.put]
  by_cases ht:t=d
  ·subst ht
   simp[ei];exact hr
  ·rw[if_neg ht]
   have:(a.tmps.setIfInBounds d u).getD t undef=a.tmps.getD t undef:=by
    simp only[Array.getD_eq_getD_getElem?]
    rw[Array.getElem?_setIfInBounds_ne (fun e=>ht e.symm)]
   rw[this];exact E t
theorem pJ {hs:Nat} (E:cD P w D ι env a) (T:Step hs D ι w D' ι' w'):cD P w' D' ι' env a:=fun t=>T.rep (E t)
theorem fh (a:Act) (dst:Option Tmp) (u:Value):(a.put dst u).tmps.size=a.tmps.size:=by cases dst<;>simp[Act.put]
theorem put_defers (a:Act) (dst:Option Tmp) (u:Value):(a.put dst u).defers=a.defers:=by cases dst<;>rfl
theorem AW {draw:Bool} {vo:bx} {σ:aw} {next:AV->aw->Prop} {U:Nat->Prop} {Q:Exit->Act->World->Prop} {K:Act->World->Prop} (hc:sq P o.op=some vo.op) (hv:fE (Sound P) draw vo env σ next) (S:gR P hs D ι σ.get w) (Us:Used ι σ.next U) (hU:¬U vo.site) (E:cD P w D ι env a)
  (hK:∀v σ' u D' ι' w',next v σ'->Step hs D ι w D' ι' w'->gR P hs D' ι' σ'.get w'->dd P w' D' ι' v u->Used ι' σ'.next (fun s=>U s∨s=vo.site)->σ.next<=σ'.next->K (a.put o.dst u) w'):o.wp P a w K Q:=by
 have close:∀v g',VS (Sound P) σ.next vo env σ.get v g'->next v ⟨g',σ.next⟩->o.wp P a w K Q:=fun v g' h1 h2=>
  CU hc h1 S Us hU E fun a' w' ⟨u,D',ι',ha,T,S',hR,U'⟩=>by subst ha;exact hK v ⟨g',σ.next⟩ u D' ι' w' h2 T S' hR U' (Nat.le_refl _)
 have MF:∀(f:Nat) (args:List AV) (vs:Array Value),Sound P f args ⟨σ.get,σ.next+1⟩ next->fG P w D ι args vs->(execOp a.eval o).run P w=.ok (.enter f vs) w->o.wp P a w K Q:=by
  intro f args vs h hA fP
  unfold Oper.wp
  rw[fP]
  refine(h hs D ι w vs S Us.next hA).mono ?_
  rintro e w' ⟨r,g',n',D',ι',u,rfl,hn,T,S',U',hle,hR⟩
  exact hK r ⟨g',n'⟩ u D' ι' w' hn T S' hR (U'.more fun _ h=>h.elim) (Nat.le_trans (Nat.le_succ _) hle)
 unfold fE at hv
 split at hv
 ·rename_i f args ej
  rcases hv with⟨r,hP,hn⟩|⟨_,hX⟩|⟨Fa,sz,rows,hM,hn⟩
  ·exact close r σ.get (by unfold VS;rw[ej];exact .inl ⟨hP,rfl⟩) hn
  rotate_left
  ·exact close _ _ (by unfold VS;rw[ej];exact .inr ⟨Fa,sz,rows,hM,rfl,rfl⟩) hn
  ·have k7:=hc
   rw[ej]at k7
   obtain⟨c,ho,lx,HK,oN⟩:=D7 k7
   refine MF f _ (c.args.map a.eval) hX (pz E oN) ?_
   simp only[execOp,ho,resolve,lx,Deferred.ofValue,Act.eval,Sem.run_bind,Sem.run_pure,Result.andThen_ok,invoke,Array.empty_append,Array.append_empty]
   exact jV HK
 ·rename_i x args ej
  split at hv
  ·rename_i f dh hx
   have vK:xu (dc env x) (args.map (dc env))=some (f,args.map (dc env)++dh):=by rw[hx];rfl
   rcases hv with⟨r,hP,hn⟩|⟨_,hX⟩|⟨Fa,sz,rows,hM,hn⟩
   ·exact close r σ.get (by unfold VS;rw[ej];exact⟨f,_,vK,.inl ⟨hP,rfl⟩⟩) hn
   rotate_left
   ·exact close _ _ (by unfold VS;rw[ej];exact⟨f,_,vK,.inr ⟨Fa,sz,rows,hM,rfl,rfl⟩⟩) hn
   ·have k7:=hc
    rw[ej]at k7
    obtain⟨c,t,ho,lx,rfl,oN⟩:=uJ k7
    obtain⟨first,us,he,HK,hL⟩:=xx (v:=a.eval (.tmp t)) vK (E t) (pz E oN)
    refine MF f _ (first++c.args.map a.eval++us) hX hL ?_
    simp only[execOp,ho,resolve,lx,he,Deferred.ofValue,Sem.run_bind,Sem.run_pure,Result.andThen_ok,invoke]
    exact jV HK
  ·rename_i f dh hx
   have vK:xu (dc env x) (args.map (dc env))=some (f,dh++args.map (dc env)):=by rw[hx];rfl
   rcases hv with⟨r,hP,hn⟩|⟨_,hX⟩|⟨Fa,sz,rows,hM,hn⟩
   ·exact close r σ.get (by unfold VS;rw[ej];exact⟨f,_,vK,.inl ⟨hP,rfl⟩⟩) hn
   rotate_left
   ·exact close _ _ (by unfold VS;rw[ej];exact⟨f,_,vK,.inr ⟨Fa,sz,rows,hM,rfl,rfl⟩⟩) hn
   ·have k7:=hc
    rw[ej]at k7
    obtain⟨c,t,ho,lx,rfl,oN⟩:=uJ k7
    obtain⟨first,us,he,HK,hL⟩:=xx (v:=a.eval (.tmp t)) vK (E t) (pz E oN)
    refine MF f _ (first++c.args.map a.eval++us) hX hL ?_
    simp only[execOp,ho,resolve,lx,he,Deferred.ofValue,Sem.run_bind,Sem.run_pure,Result.andThen_ok,invoke]
    exact jV HK
  ·exact hv.elim
 ·rename_i m x y ej
  split at hv
  ·rename_i v' g' he
   exact close v' g' (by unfold VS;rw[ej];rw[ej]at he;exact he) hv
  ·exact hv.elim
 ·rename_i m x y ej
  split at hv
  ·rename_i v' g' he
   exact close v' g' (by unfold VS;rw[ej];rw[ej]at he;exact he) hv
  ·exact hv.elim
 ·rename_i m x y ej
  split at hv
  ·rename_i v' g' he
   exact close v' g' (by unfold VS;rw[ej];rw[ej]at he;exact he) hv
  ·exact hv.elim
 ·rename_i m x ej
  split at hv
  ·rename_i v' g' he
   exact close v' g' (by unfold VS;rw[ej];rw[ej]at he;exact he) hv
  ·exact hv.elim
 ·rename_i m x ej
  split at hv
  ·rename_i v' g' he
   exact close v' g' (by unfold VS;rw[ej];rw[ej]at he;exact he) hv
  ·exact hv.elim
 ·rename_i n1 n2 n3 n4 n5 n6 n7
  split at hv
  ·rename_i v' r hq
   refine close v' (bE σ.get ⟨vo.site,σ.next⟩ r) ?_ hv
   unfold VS
   split
   ·rename_i h;exact(n1 _ _ h).elim
   ·rename_i h;exact(n2 _ _ h).elim
   ·rename_i h;exact(n3 _ _ _ h).elim
   ·rename_i h;exact(n4 _ _ _ h).elim
   ·rename_i h;exact(n5 _ _ _ h).elim
   ·rename_i h;exact(n6 _ _ h).elim
   ·rename_i h;exact(n7 _ _ h).elim
   ·exact⟨some r,hq,rfl⟩
  ·rename_i v' hq
   refine close v' σ.get ?_ hv
   unfold VS
   split
   ·rename_i h;exact(n1 _ _ h).elim
   ·rename_i h;exact(n2 _ _ h).elim
   ·rename_i h;exact(n3 _ _ _ h).elim
   ·rename_i h;exact(n4 _ _ _ h).elim
   ·rename_i h;exact(n5 _ _ _ h).elim
   ·rename_i h;exact(n6 _ _ h).elim
   ·rename_i h;exact(n7 _ _ h).elim
   ·exact⟨none,hq,rfl⟩
  ·exact hv.elim
structure St (P:Program) (hs nt:Nat) (D:Nat->Prop) (ι:Names) (env:Env) (σ:aw) (a:Act) (w:World):Prop where
 uU:gR P hs D ι σ.get w
 used:Used ι σ.next (fun _=>False)
 env:cD P w D ι env a
 size:a.tmps.size=nt
theorem yq (rest:List Oper) {ops:Array Oper} {nt site0:Nat} {draw mk:Bool} {bs:Array Nat} {hidden:List (Nat×Bool)} {K:Env->aw->Prop} {Q:Exit->Act->World->Prop}:∀(l:List Oper) (vl:List bx) (j:Nat) (env:Env) (σ:aw) (a:Act) (w:World) (D:Nat->Prop) (ι:Names) (U:Nat->Prop),
  allM (lP P ops nt site0 draw mk bs hidden) l j=some vl->wpOps (Sound P) draw vl K env σ->gR P hs D ι σ.get w->Used ι σ.next U->(∀s,U s->s<site0+j)->cD P w D ι env a->a.tmps.size=nt->
  (∀je σ' a' w' D' ι',K je σ'->Step hs D ι w D' ι' w'->St P hs nt D' ι' je σ' a' w'->a'.defers=a.defers->σ.next<=σ'.next->wpList P ops Q rest a' w')->wpList P ops Q (l++rest) a w:=by
 intro l
 induction l with
 |nil=>
  intro vl j env σ a w D ι U h hv S Us _ E fm hQ
  simp[allM]at h;subst h
  exact hQ env ⟨σ.get,σ.next+1⟩ a w D ι hv (Step.refl _ _ _ _) ⟨S,Us.next,E,fm⟩ rfl (Nat.le_succ _)
 |cons o l ih=>
  intro vl j env σ a w D ι U h hv S Us hU E fm hQ
  simp only[allM,Option.bind_eq_bind,Option.bind_eq_some_iff,Option.pure_def,Option.some.injEq]at h
  obtain⟨vo,lI,u7,ud,rfl⟩:=h
  obtain⟨hc,hd,DT,zp,hg⟩:=qt lI
  have hw:=u9 (ops:=ops) (vo:=vo) E hg
  unfold wpOps at hv
  show wpList P ops Q (o::(l++rest)) a w
  unfold wpList
  rw[<-hw]
  split at hv
  ·rename_i Ji
   rw[if_pos Ji]
   refine .inl (AW hc hv S Us (fun h=>by have:=hU _ h;omega) E fun v σ' u D' ι' w' hn T S' hR U' hle=>?_)
   refine ih u7 (j+1) (upd env vo.dst v) σ' (a.put o.dst u) w' D' ι' _ ud hn S' U' (fun s DP=>by
    rcases DP with h|h
    ·have:=hU _ h;omega
    ·omega) (by rw[hd];exact iX (pJ E T) hR zp fm) (by rw[fh];exact fm) fun je σ2 a' w2 D2 ι2 hk T2 Oh F2 nX=>hQ je σ2 a' w2 D2 ι2 hk (T.trans T2) Oh (F2.trans (put_defers _ _ _)) (Nat.le_trans hle nX)
  ·rename_i Ji
   rw[if_neg Ji]
   refine ih u7 (j+1) (upd env vo.dst .undef) σ (a.put o.dst undef) w D ι U ud hv S Us (fun s DP=>by have:=hU _ DP;omega) (by rw[hd];exact iX E dd.undef zp fm) (by rw[fh];exact fm) fun je σ2 a' w2 D2 ι2 hk T2 Oh F2 nX=>hQ je σ2 a' w2 D2 ι2 hk T2 Oh (F2.trans (put_defers _ _ _)) nX
theorem AD {ops:Array Oper} {nt site0:Nat} {draw mk:Bool} {bs:Array Nat} {hidden:List (Nat×Bool)} {K:Env->aw->Prop} {Q:Exit->Act->World->Prop}:∀(l:List Oper) (vl:List bx) (j:Nat) (env:Env) (σ:aw) (a:Act) (w:World) (D:Nat->Prop) (ι:Names) (U:Nat->Prop),
  allM (lP P ops nt site0 draw mk bs hidden) l j=some vl->wpOps (Sound P) draw vl K env σ->gR P hs D ι σ.get w->Used ι σ.next U->(∀s,U s->s<site0+j)->cD P w D ι env a->a.tmps.size=nt->
  (∀je σ' a' w' D' ι',K je σ'->Step hs D ι w D' ι' w'->St P hs nt D' ι' je σ' a' w'->a'.defers=a.defers->σ.next<=σ'.next->Q .normal a' w')->wpList P ops Q l a w:=fun l vl j env σ a w D ι U h hv S Us hU E fm hQ=>by
 have:=yq [] l vl j env σ a w D ι U h hv S Us hU E fm hQ
 rwa [List.append_nil]at this
end
end Go.Proofs.YtgoljkjaameagaaGreat.V

namespace Go.Proofs.YtgoljkjaameagaaGreat.V
open Go.RowKit
variable {P:Program} {w w':World} {D D' D2:Nat->Prop} {ι ι' ι2:Names}
section
variable {hs:Nat} {X:gn}
theorem bF {env jk:Env} {x:O} (h:∀t∈iC x,env t=jk t):dc env x=dc jk x:=by
 cases x with
 |t n=>exact h n (by simp[iC])
 |_=>rfl
theorem map_congr {env jk:Env} {l:List O} (h:∀t∈l.flatMap iC,env t=jk t):l.map (dc env)=l.map (dc jk):=
 List.map_congr_left fun x hx=>bF fun t ht=>h t (List.mem_flatMap.2 ⟨x,hx,ht⟩)
theorem qE {env jk:Env} {x:Option O} (h:∀t∈yw x,env t=jk t):x.map (dc env)=x.map (dc jk):=by
 cases x with
 |none=>rfl
 |some y=>simp only[Option.map_some];rw[bF h]
theorem uQ {env jk:Env} {o:gV} {g:Rows} {id:Id} (h:∀t∈o.ig,env t=jk t):eM o (dc env) g id=eM o (dc jk) g id:=by
 cases o<;>simp only[gV.ig,List.mem_append]at h<;>simp only[eM]
 case dr x=>rw[bF h]
 case pick c a b=>rw[bF (x:=c) fun t ht=>h t (.inl (.inl ht)),bF (x:=a) fun t ht=>h t (.inl (.inr ht)),bF (x:=b) fun t ht=>h t (.inr ht)]
 case box x=>rw[bF h]
 case build z ps=>
  have:(ps.map fun(x:Nat×Nat×O)=>(x.1,x.2.1,dc env x.2.2))=ps.map fun(x:Nat×Nat×O)=>(x.1,x.2.1,dc jk x.2.2):=List.map_congr_left fun x hx=>by
   rw[bF (x:=x.2.2) fun t ht=>h t (List.mem_flatMap.2 ⟨x,hx,ht⟩)]
  rw[this]
 case lO a b l=>rw[map_congr h]
 case load a n x=>rw[bF h]
 case zU x=>rw[bF h]
 case bin a b x y=>rw[bF (x:=x) fun t ht=>h t (.inl ht),bF (x:=y) fun t ht=>h t (.inr ht)]
 case sh a x y=>rw[bF (x:=x) fun t ht=>h t (.inl ht),bF (x:=y) fun t ht=>h t (.inr ht)]
 case Ox a x y=>rw[bF (x:=x) fun t ht=>h t (.inl ht),bF (x:=y) fun t ht=>h t (.inr ht)]
 case RQ a b x y=>rw[bF (x:=x) fun t ht=>h t (.inl ht),bF (x:=y) fun t ht=>h t (.inr ht)]
 case WZ a b x y=>rw[bF (x:=x) fun t ht=>h t (.inl ht),bF (x:=y) fun t ht=>h t (.inr ht)]
 case U5 a b x=>rw[bF h]
 case W4 a x=>rw[bF h]
 case not x=>rw[bF h]
 case neg x=>rw[bF h]
 case conv k x=>rw[bF h]
 case Hw x=>rw[bF h]
 case slice s x lo hi=>rw[bF (x:=x) fun t ht=>h t (.inl (.inl ht)),qE (x:=lo) fun t ht=>h t (.inl (.inr ht)),qE (x:=hi) fun t ht=>h t (.inr ht)]
 case Cg x lo hi=>rw[bF (x:=x) fun t ht=>h t (.inl (.inl ht)),qE (x:=lo) fun t ht=>h t (.inl (.inr ht)),qE (x:=hi) fun t ht=>h t (.inr ht)]
 case gp k x=>rw[bF h]
 case field a b c x=>rw[bF h]
 case ek s x y=>rw[bF (x:=x) fun t ht=>h t (.inl ht),bF (x:=y) fun t ht=>h t (.inr ht)]
 case Pm n s x y=>rw[bF (x:=x) fun t ht=>h t (.inl ht),bF (x:=y) fun t ht=>h t (.inr ht)]
 case Pp x y=>rw[bF (x:=x) fun t ht=>h t (.inl ht),bF (x:=y) fun t ht=>h t (.inr ht)]
 case eG a b c x y=>rw[bF (x:=x) fun t ht=>h t (.inl ht),bF (x:=y) fun t ht=>h t (.inr ht)]
 case extract i x=>rw[bF h]
 case len x=>rw[bF h]
 case PD x=>rw[bF h]
 case My x=>rw[bF h]
 case Mq x=>rw[bF h]
 case PJ f l=>rw[map_congr h]
 case PK f l=>rw[map_congr h]
 case mq f l=>rw[map_congr h]
 case kG z x y=>rw[bF (x:=x) fun t ht=>h t (.inl ht),bF (x:=y) fun t ht=>h t (.inr ht)]
theorem iJ {env jk:Env} {o:gV} {g:Rows} {id:Id} (h:∀t∈o.ig,env t=jk t):fV o (dc env) g id=fV o (dc jk) g id:=by
 cases o<;>simp only[gV.ig,List.mem_append]at h<;>simp only[fV]
 case clear z x=>rw[bF h]
 case mw f l=>rw[map_congr h]
 all_goals rename_i a x y
 all_goals rw[bF (x:=x) fun t ht=>h t (.inl ht),bF (x:=y) fun t ht=>h t (.inr ht)]
theorem KU {n:Nat} {vo:bx} {env jk:Env} {g g':Rows} {v:AV} (h:∀t∈vo.op.ig,env t=jk t) (hv:VS X n vo env g v g'):VS X n vo jk g v g':=by
 unfold VS at hv ⊢
 split at hv
 ·rename_i f args ej
  rw[ej]at h
  simp only[gV.ig]at h
  rw[<-map_congr h];exact hv
 ·rename_i x args ej
  rw[ej]at h
  simp only[gV.ig,List.mem_append]at h
  rw[<-map_congr (l:=args) fun t ht=>h t (.inr ht),<-bF (x:=x) fun t ht=>h t (.inl ht)];exact hv
 ·rw[<-iJ h];exact hv
 ·rw[<-iJ h];exact hv
 ·rw[<-iJ h];exact hv
 ·rw[<-iJ h];exact hv
 ·rw[<-iJ h];exact hv
 ·rw[<-uQ h];exact hv
theorem Gw {q:MQ} {vs:List AV} {g:Rows} {id:Id} {v:AV} {r:Row} (h:bD q vs g id=some (v,some r)):∃m,q=.new m:=by
 unfold bD at h
 split at h
 ·exact⟨_,rfl⟩
 ·simp[Option.bind_eq_some_iff]at h
 ·simp at h
 ·cases h
theorem yE {o:gV} {ρ:O->AV} {g:Rows} {id:Id} {v:AV} {r:Row} (h:eM o ρ g id=some (v,some r)):r6 o=true:=by
 cases o<;>simp only[eM]at h<;>(try rfl)<;>(try simp at h)
 case mq q xs=>obtain⟨m,rfl⟩:=Gw h;rfl
 all_goals (try(split at h<;>simp at h))
theorem yF {o:gV} {ρ:O->AV} {g g2:Rows} {id id2:Id} (h:o.cls=.pure):eM o ρ g id=eM o ρ g2 id2:=by
 cases o<;>(try simp[gV.cls]at h)<;>(try simp only[eM])
 case mq q xs=>cases q<;>simp[gV.cls]at h
theorem xn {n:Nat} {vo:bx} {env:Env} {g g':Rows} {v:AV} (hw:vo.op.cls≠.write) (hv:VS X n vo env g v g'):∃mr,g'=jH g ⟨vo.site,n⟩ mr/\(mr≠none->vo.makes=true)/\∀g0,fS vo.hid n g0=fS vo.hid n g->VS X n vo env g0 v (jH g0 ⟨vo.site,n⟩ mr):=by
 unfold VS at hv
 split at hv
 ·rename_i f args ej
  rcases hv with⟨h1,rfl⟩|⟨hs,sz,rows,hM,rfl,rfl⟩
  ·refine⟨none,rfl,fun h=>(h rfl).elim,fun g0 h0=>?_⟩
   unfold VS;rw[ej];simp only;unfold xw;rw[h0];exact .inl ⟨h1,rfl⟩
  ·refine⟨some _,rfl,fun _=>by unfold bx.makes;rw[ej,hs];simp[gV.mQ],fun g0 h0=>?_⟩
   unfold VS;rw[ej];simp only;unfold xw;rw[h0];exact .inr ⟨hs,sz,rows,hM,rfl,rfl⟩
 ·rename_i x args ej
  obtain⟨f,dh,hx,hv⟩:=hv
  rcases hv with⟨h1,rfl⟩|⟨hs,sz,rows,hM,rfl,rfl⟩
  ·refine⟨none,rfl,fun h=>(h rfl).elim,fun g0 h0=>?_⟩
   unfold VS;rw[ej];simp only;unfold xw;rw[h0];exact⟨f,dh,hx,.inl ⟨h1,rfl⟩⟩
  ·refine⟨some _,rfl,fun _=>by unfold bx.makes;rw[ej,hs];simp[gV.mQ],fun g0 h0=>?_⟩
   unfold VS;rw[ej];simp only;unfold xw;rw[h0];exact⟨f,dh,hx,.inr ⟨hs,sz,rows,hM,rfl,rfl⟩⟩
 ·rename_i ej;rw[ej]at hw;exact(hw rfl).elim
 ·rename_i ej;rw[ej]at hw;exact(hw rfl).elim
 ·rename_i ej;rw[ej]at hw;exact(hw rfl).elim
 ·rename_i ej;rw[ej]at hw;exact(hw rfl).elim
 ·rename_i ej;rw[ej]at hw;exact(hw rfl).elim
 ·rename_i n1 n2 n3 n4 n5 n6 n7
  obtain⟨mr,hq,rfl⟩:=hv
  refine⟨mr,rfl,fun h=>?_,fun g0 h0=>?_⟩
  ·cases mr with
   |none=>exact(h rfl).elim
   |some r=>unfold bx.makes;rw[yE hq];rfl
  ·unfold VS
   split
   ·rename_i hh;exact(n1 _ _ hh).elim
   ·rename_i hh;exact(n2 _ _ hh).elim
   ·rename_i hh;exact(n3 _ _ _ hh).elim
   ·rename_i hh;exact(n4 _ _ _ hh).elim
   ·rename_i hh;exact(n5 _ _ _ hh).elim
   ·rename_i hh;exact(n6 _ _ hh).elim
   ·rename_i hh;exact(n7 _ _ hh).elim
   ·rw[h0];exact⟨mr,hq,rfl⟩
theorem A5 {n:Nat} {vo:bx} {env:Env} {g g':Rows} {v:AV} (hp:vo.op.cls=.pure) (hv:VS X n vo env g v g'):g'=g/\∀g0,VS X n vo env g0 v g0:=by
 unfold VS at hv
 split at hv
 ·rename_i ej;rw[ej]at hp;simp[gV.cls]at hp
 ·rename_i ej;rw[ej]at hp;simp[gV.cls]at hp
 ·rename_i ej;rw[ej]at hp;simp[gV.cls]at hp
 ·rename_i ej;rw[ej]at hp;simp[gV.cls]at hp
 ·rename_i ej;rw[ej]at hp;simp[gV.cls]at hp
 ·rename_i ej;rw[ej]at hp;simp[gV.cls]at hp
 ·rename_i ej;rw[ej]at hp;simp[gV.cls]at hp
 ·rename_i n1 n2 n3 n4 n5 n6 n7
  obtain⟨mr,hq,rfl⟩:=hv
  have ZC:mr=none:=by
   cases mr with
   |none=>rfl
   |some r=>have:=yE hq;simp[r6,hp]at this
  subst ZC
  refine⟨rfl,fun g0=>?_⟩
  unfold VS
  split
  ·rename_i hh;exact(n1 _ _ hh).elim
  ·rename_i hh;exact(n2 _ _ hh).elim
  ·rename_i hh;exact(n3 _ _ _ hh).elim
  ·rename_i hh;exact(n4 _ _ _ hh).elim
  ·rename_i hh;exact(n5 _ _ _ hh).elim
  ·rename_i hh;exact(n6 _ _ hh).elim
  ·rename_i hh;exact(n7 _ _ hh).elim
  ·exact⟨none,by rw[yF hp];exact hq,rfl⟩
def GS (X:gn) (n:Nat) (vo:bx) (env:Env) (g:Rows) (v:AV) (g':Rows):Prop:=
 if aM vo.guard env then VS X n vo env g v g' else v=.undef/\g'=g
theorem ET {hid:List Nat} {g:Rows} {s n:Nat} {mr:Option Row} (h:mr≠none->hid.contains s=true):fS hid n (jH g ⟨s,n⟩ mr)=fS hid n g:=by
 cases mr with
 |none=>rfl
 |some r=>
  have hc:=h (by simp)
  cases hid with
  |nil=>simp at hc
  |cons a l=>
   funext i
   show(if (a::l).contains i.site=true/\i.bj=n then none else jH g ⟨s,n⟩ (some r) i)=if (a::l).contains i.site=true/\i.bj=n then none else g i
   by_cases hi:i=⟨s,n⟩
   ·subst hi;rw[if_pos ⟨hc,rfl⟩,if_pos ⟨hc,rfl⟩]
   ·simp only[jH,bE,if_neg hi]
theorem Ir {g:Rows} {i j:Id} (h:i≠j) (m1 m2:Option Row):jH (jH g i m1) j m2=jH (jH g j m2) i m1:=by
 cases m1<;>cases m2<;>simp only[jH]
 funext k
 simp only[bE]
 by_cases h1:k=i
 ·subst h1;rw[if_neg h,if_pos rfl];simp
 ·by_cases h2:k=j
  ·subst h2;simp[h1]
  ·simp[h1,h2]
theorem y4 {env:Env} {d e:Option Nat} {v u:AV} (h:∀k,d=some k->e≠some k):upd (upd env d v) e u=upd (upd env e u) d v:=by
 cases d with
 |none=>rfl
 |some d=>
  cases e with
  |none=>rfl
  |some e=>
   have iD:d≠e:=fun he=>h d rfl (by rw[he])
   funext t
   simp only[upd]
   by_cases h1:t=d
   ·subst h1;rw[if_neg iD,if_pos rfl,if_pos rfl]
   ·by_cases h2:t=e
    ·subst h2;rw[if_pos rfl,if_neg h1,if_pos rfl]
    ·simp[h1,h2]
theorem nH {env:Env} {d:Option Nat} {v:AV} {l:List Nat} (h:∀k,d=some k->k∉l):∀t∈l,upd env d v t=env t:=by
 intro t ht
 cases d with
 |none=>rfl
 |some d=>
  have:t≠d:=fun he=>h d rfl (he▸ht)
  simp[upd,this]
structure Fj (x y:bx):Prop where
 xy:∀k,x.dst=some k->k∉y.ig
 yx:∀k,y.dst=some k->k∉x.ig
 dst:∀k,x.dst=some k->y.dst≠some k
 cls:clash x.op.cls y.op.cls=false
 hx:x.makes=true->y.hid.contains x.site=true
 hy:y.makes=true->x.hid.contains y.site=true
 site:x.site≠y.site
theorem Fj.symm {x y:bx} (h:Fj x y):Fj y x:=
 ⟨h.yx,h.xy,fun k hk he=>h.dst k he hk,by have:=h.cls;revert this;cases x.op.cls<;>cases y.op.cls<;>simp[clash],h.hy,h.hx,fun e=>h.site e.symm⟩
theorem rS {x y:bx} (h:HD x y=true):Fj x y:=by
 unfold HD at h
 simp only[Bool.and_eq_true,Bool.not_eq_true',Bool.or_eq_true,bne_iff_ne]at h
 obtain⟨⟨⟨⟨h1,h2⟩,h3⟩,h4⟩,h5⟩:=h
 unfold uZ at h1
 simp only[Bool.and_eq_true]at h1
 obtain⟨a1,a2⟩:=h1
 refine⟨fun k hk=>?_,fun k hk=>?_,fun k hk=>?_,h2,fun hm=>?_,fun hm=>?_,h5⟩
 ·rw[hk]at a1;simp at a1;exact a1.1
 ·rw[hk]at a2;simpa using a2
 ·rw[hk]at a1;simp at a1;exact a1.2
 ·rcases h3 with h3|h3
  ·rw[hm]at h3;cases h3
  ·exact h3
 ·rcases h4 with h4|h4
  ·rw[hm]at h4;cases h4
  ·exact h4
theorem tK {vo:bx} {t:Nat} (h:t∈vo.op.ig):t∈vo.ig:=List.mem_append_left _ h
theorem oz {vo:bx} {env jk:Env} (h:∀t∈vo.ig,env t=jk t):aM vo.guard env=aM vo.guard jk:=by
 unfold aM
 cases hg:vo.guard with
 |none=>rfl
 |some p=>
  obtain⟨t,b⟩:=p
  have:env t=jk t:=h t (List.mem_append_right _ (by rw[hg];simp))
  simp only[this]
theorem xh {n:Nat} {vo:bx} {env jk:Env} {g g':Rows} {v:AV} (h:∀t∈vo.ig,env t=jk t) (hv:GS X n vo env g v g'):GS X n vo jk g v g':=by
 unfold GS at hv ⊢
 rw[<-oz h]
 split at hv
 ·rename_i hw;rw[if_pos hw];exact KU (fun t ht=>h t (tK ht)) hv
 ·rename_i hw;rw[if_neg hw];exact hv
theorem Hj {n:Nat} {x y:bx} {env:Env} {g g1 g2:Rows} {v v':AV} (F:Fj x y) (h1:GS X n x env g v g1) (h2:GS X n y (upd env x.dst v) g1 v' g2):
  ∃OM,GS X n y env g v' OM/\GS X n x (upd env y.dst v') OM v g2/\upd (upd env x.dst v) y.dst v'=upd (upd env y.dst v') x.dst v:=by
 have Q1:=y4 (env:=env) (v:=v) (u:=v') F.dst
 replace h2:GS X n y env g1 v' g2:=xh (nH F.xy) h2
 have back:∀{OM},GS X n x env OM v g2->GS X n x (upd env y.dst v') OM v g2:=fun h=>xh (fun t ht=>(nH F.yx t ht).symm) h
 unfold GS at h1 h2
 by_cases wx:aM x.guard env=true
 ·rw[if_pos wx]at h1
  by_cases wy:aM y.guard env=true
  ·rw[if_pos wy]at h2
   by_cases cx:x.op.cls=.write
   ·have cy:y.op.cls=.pure:=by
     have:=F.cls;rw[cx]at this
     cases hc:y.op.cls<;>simp[clash,hc]at this ⊢
    obtain⟨rfl,dP⟩:=A5 cy h2
    exact⟨g,by unfold GS;rw[if_pos wy];exact dP g,back (by unfold GS;rw[if_pos wx];exact h1),Q1⟩
   ·by_cases cy:y.op.cls=.write
    ·have cx':x.op.cls=.pure:=by
      have:=F.cls;rw[cy]at this
      cases hc:x.op.cls<;>simp[clash,hc]at this ⊢
     obtain⟨rfl,dP⟩:=A5 cx' h1
     exact⟨g2,by unfold GS;rw[if_pos wy];exact h2,back (by unfold GS;rw[if_pos wx];exact dP g2),Q1⟩
    ·obtain⟨mx,rfl,kx,Yj⟩:=xn cx h1
     obtain⟨my,rfl,ky,Rt⟩:=xn cy h2
     have iD:(⟨x.site,n⟩:Id)≠⟨y.site,n⟩:=fun e=>F.site (by injection e)
     refine⟨jH g ⟨y.site,n⟩ my,?_,back ?_,Q1⟩
     ·unfold GS;rw[if_pos wy]
      exact Rt g (ET fun h=>F.hx (kx h)).symm
     ·unfold GS;rw[if_pos wx,Ir iD]
      exact Yj _ (ET fun h=>F.hy (ky h))
  ·rw[if_neg wy]at h2
   obtain⟨rfl,rfl⟩:=h2
   exact⟨g,by unfold GS;rw[if_neg wy];exact⟨rfl,rfl⟩,back (by unfold GS;rw[if_pos wx];exact h1),Q1⟩
 ·rw[if_neg wx]at h1
  obtain⟨rfl,rfl⟩:=h1
  exact⟨g2,h2,back (by unfold GS;rw[if_neg wx];exact⟨rfl,rfl⟩),Q1⟩
end
end Go.Proofs.YtgoljkjaameagaaGreat.V

namespace Go.Proofs.YtgoljkjaameagaaGreat.V
open Go.RowKit
variable {P:Program} {w w':World} {D D' D2:Nat->Prop} {ι ι' ι2:Names}
section
variable {hs:Nat} {X:gn}
def jI (acc:Array Nat) (o:Oper):Nat:=o.after.foldl (fun s e=>if Region.binds .any e then s|||2 ^ e.on|||acc.getD e.on 0 else s) 0
theorem Oq (ops:Array Oper):j3 ops=ops.foldl (fun acc o=>acc.push (jI acc o)) #[]:=rfl
theorem C3 {acc:Array Nat} {o:Oper} {i:Nat} (h:(jI acc o).testBit i=true):∃e∈o.after,Region.binds .any e=true/\(e.on=i∨(acc.getD e.on 0).testBit i=true):=by
 unfold jI at h
 rw[<-Array.foldl_toList]at h
 have gen:∀(l:List Edge) (s:Nat),(l.foldl (fun s e=>if Region.binds .any e then s|||2 ^ e.on|||acc.getD e.on 0 else s) s).testBit i=true->s.testBit i=true∨∃e∈l,Region.binds .any e=true/\(e.on=i∨(acc.getD e.on 0).testBit i=true):=by
  intro l
  induction l with
  |nil=>intro s h;exact .inl h
  |cons e r ih=>
   intro s h
   rw[List.foldl_cons]at h
   rcases ih _ h with h|⟨e',Bz,h'⟩
   ·by_cases hb:Region.binds .any e=true
    ·rw[if_pos hb]at h
     simp only[Nat.testBit_or,Bool.or_eq_true]at h
     rcases h with(h|h)|h
     ·exact .inl h
     ·refine .inr ⟨e,by simp,hb,.inl ?_⟩
      rw[Nat.testBit_two_pow]at h
      simpa using h
     ·exact .inr ⟨e,by simp,hb,.inr h⟩
    ·rw[if_neg hb]at h;exact .inl h
   ·exact .inr ⟨e',List.mem_cons_of_mem _ Bz,h'⟩
 rcases gen _ _ h with h|⟨e,he,h⟩
 ·simp at h
 ·exact⟨e,Array.mem_toList_iff.1 he,h⟩
theorem K6 {ops:Array Oper} {j i:Nat} (h:((j3 ops).getD j 0).testBit i=true):∃o,ops[j]? =some o/\∃e∈o.after,Region.binds .any e=true/\(e.on=i∨((j3 ops).getD e.on 0).testBit i=true):=by
 have key:∀(l pre:List Oper) (acc:Array Nat),acc.size=pre.length->(∀j i,(acc.getD j 0).testBit i=true->∃o,pre[j]? =some o/\∃e∈o.after,Region.binds .any e=true/\(e.on=i∨(acc.getD e.on 0).testBit i=true))->
   ∀j i,((l.foldl (fun acc o=>acc.push (jI acc o)) acc).getD j 0).testBit i=true->∃o,(pre++l)[j]? =some o/\∃e∈o.after,Region.binds .any e=true/\(e.on=i∨((l.foldl (fun acc o=>acc.push (jI acc o)) acc).getD e.on 0).testBit i=true):=by
  intro l
  induction l with
  |nil=>intro pre acc _ h j i hb;simpa using h j i hb
  |cons o r ih=>
   intro pre acc fm h j i hb
   have AA:∀k,k<acc.size->(acc.push (jI acc o)).getD k 0=acc.getD k 0:=fun k hk=>by
    simp only[Array.getD_eq_getD_getElem?,Array.getElem?_push]
    rw[if_neg ah]
   have big:∀k,acc.size<=k->acc.getD k 0=0:=fun k hk=>by simp[Array.getElem?_eq_none hk]
   have lift:∀k i,(acc.getD k 0).testBit i=true->((acc.push (jI acc o)).getD k 0).testBit i=true:=fun k i hk=>by
    by_cases ei:k<acc.size
    ·rw[AA k ei];exact hk
    ·rw[big k ah]at hk;simp at hk
   have:=ih (pre++[o]) (acc.push (jI acc o)) (by simp[fm]) (fun j i hb=>by
    by_cases ei:j<acc.size
    ·rw[AA j ei]at hb
     obtain⟨o',BD,e,he,fR,h2⟩:=h j i hb
     refine⟨o',by rw[List.getElem?_append_left ah];exact BD,e,he,fR,?_⟩
     rcases h2 with h2|h2
     ·exact .inl h2
     ·exact .inr (lift _ _ h2)
    ·by_cases hj:j=acc.size
     ·subst hj
      have e0:(acc.push (jI acc o)).getD acc.size 0=jI acc o:=by simp
      rw[e0]at hb
      obtain⟨e,he,fR,h2⟩:=C3 hb
      refine⟨o,by rw[List.getElem?_append_right ah,fm];simp,e,he,fR,?_⟩
      rcases h2 with h2|h2
      ·exact .inl h2
      ·exact .inr (lift _ _ h2)
     ·have:(acc.push (jI acc o)).getD j 0=0:=by
       simp only[Array.getD_eq_getD_getElem?]
       rw[Array.getElem?_eq_none (by simp;omega)];rfl
      rw[this]at hb;simp at hb) j i (by simpa using hb)
   simpa using this
 rw[Oq,<-Array.foldl_toList]at h ⊢
 have:=key ops.toList [] #[] rfl (fun j i h=>by simp at h) j i h
 simpa using this
def DC (ops:Array Oper) (listed:Array Bool):Prop:=∀k i,listed.getD k false=true->((j3 ops).getD k 0).testBit i=true->listed.getD i false=true
theorem lX {ops:Array Oper} {listed:Array Bool} (h:DC ops listed) {j:Nat} (hj:j∈Region.ready .any ops listed):∀i,((j3 ops).getD j 0).testBit i=true->listed.getD i false=true:=by
 intro i hb
 obtain⟨_,o,ho,dP⟩:=mem_ready.1 hj
 obtain⟨o',BD,e,he,fR,h2⟩:=K6 hb
 rw[ho]at BD;injection BD with BD;subst BD
 have hl:=dP e he fR
 rcases h2 with h2|h2
 ·rw[<-h2];exact hl
 ·exact h _ _ hl h2
theorem DC.list {ops:Array Oper} {listed:Array Bool} (h:DC ops listed) {j:Nat} (hj:j∈Region.ready .any ops listed):DC ops (listed.setIfInBounds j true):=by
 intro k i hk hb
 by_cases hkj:k=j
 ·subst hkj;exact getD_set_true (lX h hj i hb)
 ·rw[getD_set_ne false (fun e=>hkj e.symm)]at hk
  exact getD_set_true (h k i hk hb)
theorem jx {ops:Array Oper} {listed:Array Bool} {j:Nat} (hj:j∈Region.ready .any ops listed):listed.getD j false=false:=by
 have h0:=(mem_ready.1 hj).1
 rcases Nat.lt_or_ge j listed.size with h|h
 ·simp[h]at h0 ⊢;exact h0
 ·simp[Array.getElem?_eq_none h]at h0
def NF (X:gn) (n:Nat) (ops:Array Oper) (vl:List bx) (K:Env->Rows->Prop):Nat->Array Bool->Env->Rows->Prop
 |0,listed,env,g=>Region.ready .any ops listed=[]/\K env g
 |f+1,listed,env,g=>(Region.ready .any ops listed=[]->K env g)/\∀i∈Region.ready .any ops listed,∃vo,vl[i]? =some vo/\∃v g',GS X n vo env g v g'/\NF X n ops vl K f (listed.setIfInBounds i true) (upd env vo.dst v) g'
theorem Dg {ops:Array Oper} {vl:List bx} (h:pI ops vl (j3 ops)=true) {i j:Nat} {x y:bx} (hi:vl[i]? =some x) (hj:vl[j]? =some y) (y9:i≠j) (h1:((j3 ops).getD j 0).testBit i=false) (h2:((j3 ops).getD i 0).testBit j=false):Fj x y:=by
 unfold pI at h
 simp only[Bool.and_eq_true,List.all_eq_true]at h
 obtain⟨_,h⟩:=h
 have mem:∀(k:Nat) (z:bx),vl[k]? =some z->(z,k)∈vl.zipIdx:=fun k z hk=>by
  rw[List.mem_iff_getElem?]
  exact⟨k,by simp[List.getElem?_zipIdx,hk]⟩
 rcases Nat.lt_or_gt_of_ne y9 with ei|O0
 ·have:=h _ (mem j y hj) _ (mem i x hi)
  simp only[ei,decide_true,Bool.not_true,Bool.false_or,h1]at this
  exact rS this
 ·have:=h _ (mem i x hi) _ (mem j y hj)
  simp only[O0,decide_true,Bool.not_true,Bool.false_or,h2]at this
  exact(rS this).symm
theorem He {n:Nat} {ops:Array Oper} {vl:List bx} {K:Env->Rows->Prop} (uG:pI ops vl (j3 ops)=true) (hlen:vl.length=ops.size) {i:Nat} {vi:bx} (hi:vl[i]? =some vi) {v:AV}:∀(fuel:Nat) (listed:Array Bool) (env:Env) (g g1:Rows),
  DC ops listed->i∈Region.ready .any ops listed->GS X n vi env g v g1->NF X n ops vl K fuel (listed.setIfInBounds i true) (upd env vi.dst v) g1->NF X n ops vl K (fuel+1) listed env g:=by
 intro fuel
 induction fuel with
 |zero=>
  intro listed env g g1 _ hr hG H
  refine⟨fun h=>(by rw[h]at hr;cases hr),fun j hj=>?_⟩
  by_cases nL:j=i
  ·subst nL;exact⟨vi,hi,v,g1,hG,H⟩
  ·have:=ready_mono hj nL
   rw[H.1]at this;cases this
 |succ fuel ih=>
  intro listed env g g1 tX hr hG H
  refine⟨fun h=>(by rw[h]at hr;cases hr),fun j hj=>?_⟩
  by_cases nL:j=i
  ·subst nL;exact⟨vi,hi,v,g1,hG,H⟩
  ·obtain⟨vj,Ph,v',g2,hG2,H2⟩:=H.2 j (ready_mono hj nL)
   have b1:((j3 ops).getD j 0).testBit i=false:=by
    cases hb:((j3 ops).getD j 0).testBit i with
    |false=>rfl
    |true=>have:=lX tX hj i hb;rw[jx hr]at this;cases this
   have b2:((j3 ops).getD i 0).testBit j=false:=by
    cases hb:((j3 ops).getD i 0).testBit j with
    |false=>rfl
    |true=>have:=lX tX hr j hb;rw[jx hj]at this;cases this
   have F:=Dg uG hi Ph (fun e=>nL e.symm) b1 b2
   obtain⟨OM,q1,q2,q3⟩:=Hj F hG hG2
   refine⟨vj,Ph,v',OM,q1,ih _ _ _ g2 (tX.list hj) (ready_mono hr (fun e=>nL e.symm)) q2 ?_⟩
   rw[<-q3,Array.setIfInBounds_comm _ _ nL]
   exact H2
theorem Rp {n:Nat} {vo:bx} {env:Env} {g:Rows} {v:AV} {mr:Option Row} (h:eM vo.op (dc env) (fS vo.hid n g) ⟨vo.site,n⟩=some (v,mr)):VS X n vo env g v (jH g ⟨vo.site,n⟩ mr):=by
 unfold VS
 split
 ·rename_i ej;rw[ej]at h;simp[eM]at h
 ·rename_i ej;rw[ej]at h;simp[eM]at h
 ·rename_i ej;rw[ej]at h;simp[eM]at h
 ·rename_i ej;rw[ej]at h;simp[eM]at h
 ·rename_i ej;rw[ej]at h;simp[eM]at h
 ·rename_i ej;rw[ej]at h;simp[eM]at h
 ·rename_i ej;rw[ej]at h;simp[eM]at h
 ·exact⟨mr,h,rfl⟩
theorem KV {n:Nat} {vo:bx} {env:Env} {g g':Rows} {v:AV} (h:fV vo.op (dc env) g ⟨vo.site,n⟩=some (v,g')):VS X n vo env g v g':=by
 unfold VS
 split
 ·rename_i ej;rw[ej]at h;simp[fV]at h
 ·rename_i ej;rw[ej]at h;simp[fV]at h
 ·exact h
 ·exact h
 ·exact h
 ·exact h
 ·exact h
 ·rename_i n1 n2 n3 n4 n5 n6 n7
  exfalso
  unfold fV at h
  split at h
  ·rename_i hh;exact n3 _ _ _ hh
  ·rename_i hh;exact n4 _ _ _ hh
  ·rename_i hh;exact n5 _ _ _ hh
  ·rename_i hh;exact n6 _ _ hh
  ·rename_i hh;exact n7 _ _ hh
  ·simp at h
theorem TD {vo:bx} {env:Env} {σ:aw} {next:AV->aw->Prop} (hv:fE X true vo env σ next):∃v g',VS X σ.next vo env σ.get v g'/\next v ⟨g',σ.next⟩:=by
 unfold fE at hv
 split at hv
 ·rename_i f args ej
  rcases hv with⟨r,hP,hn⟩|⟨h,_⟩|⟨hs,sz,rows,hM,hn⟩
  ·exact⟨r,σ.get,by unfold VS;rw[ej];exact .inl ⟨hP,rfl⟩,hn⟩
  ·cases h
  ·exact⟨_,_,by unfold VS;rw[ej];exact .inr ⟨hs,sz,rows,hM,rfl,rfl⟩,hn⟩
 ·rename_i x args ej
  split at hv
  ·rename_i f dh hx
   have vK:xu (dc env x) (args.map (dc env))=some (f,args.map (dc env)++dh):=by rw[hx];rfl
   rcases hv with⟨r,hP,hn⟩|⟨h,_⟩|⟨hs,sz,rows,hM,hn⟩
   ·exact⟨r,σ.get,by unfold VS;rw[ej];exact⟨f,_,vK,.inl ⟨hP,rfl⟩⟩,hn⟩
   ·cases h
   ·exact⟨_,_,by unfold VS;rw[ej];exact⟨f,_,vK,.inr ⟨hs,sz,rows,hM,rfl,rfl⟩⟩,hn⟩
  ·rename_i f dh hx
   have vK:xu (dc env x) (args.map (dc env))=some (f,dh++args.map (dc env)):=by rw[hx];rfl
   rcases hv with⟨r,hP,hn⟩|⟨h,_⟩|⟨hs,sz,rows,hM,hn⟩
   ·exact⟨r,σ.get,by unfold VS;rw[ej];exact⟨f,_,vK,.inl ⟨hP,rfl⟩⟩,hn⟩
   ·cases h
   ·exact⟨_,_,by unfold VS;rw[ej];exact⟨f,_,vK,.inr ⟨hs,sz,rows,hM,rfl,rfl⟩⟩,hn⟩
  ·exact hv.elim
 ·split at hv
  ·rename_i v g h;exact⟨v,g,KV h,hv⟩
  ·exact hv.elim
 ·split at hv
  ·rename_i v g h;exact⟨v,g,KV h,hv⟩
  ·exact hv.elim
 ·split at hv
  ·rename_i v g h;exact⟨v,g,KV h,hv⟩
  ·exact hv.elim
 ·split at hv
  ·rename_i v g h;exact⟨v,g,KV h,hv⟩
  ·exact hv.elim
 ·split at hv
  ·rename_i v g h;exact⟨v,g,KV h,hv⟩
  ·exact hv.elim
 ·split at hv
  ·rename_i v r h;exact⟨v,_,Rp h,hv⟩
  ·rename_i v h;exact⟨v,_,Rp h,hv⟩
  ·exact hv.elim
theorem y5 {ops:Array Oper} {vl:List bx} {K:Env->aw->Prop} {n:Nat} (uG:pI ops vl (j3 ops)=true) (hlen:vl.length=ops.size):∀(r:List bx) (k:Nat) (listed:Array Bool) (env:Env) (g:Rows),
  (∀j,r[j]? =vl[k+j]?)->listed.size=ops.size->(∀i,i<ops.size->listed[i]? =some (decide (i<k)))->k+r.length=ops.size->DC ops listed->wpOps X true r K env ⟨g,n⟩->NF X n ops vl (fun env g=>K env ⟨g,n+1⟩) r.length listed env g
 |[],k,listed,env,g,_,fm,hl,hk,_,hv=>by
  refine⟨?_,hv⟩
  rw[List.eq_nil_iff_forall_not_mem]
  intro j hj
  obtain⟨h0,o,ho,_⟩:=mem_ready.1 hj
  have ei:j<ops.size:=(Array.getElem?_eq_some_iff.1 ho).1
  have:=hl j ei
  simp at hk
  simp[this,show j<k by omega]at h0
 |vo::r,k,listed,env,g,hr,fm,hl,hk,tX,hv=>by
  simp only[List.length_cons]at hk
  have lI:vl[k]? =some vo:=by simpa using(hr 0).symm
  have lj:k<ops.size:=ah
  have L7:k∈Region.ready .any ops listed:=by
   rw[mem_ready]
   refine⟨by simp[hl k lj],ops[k],Array.getElem?_eq_getElem lj,fun e he hb=>?_⟩
   unfold pI Hx at uG
   simp only[Bool.and_eq_true,List.all_eq_true]at uG
   have hm:(ops[k],k)∈ops.toList.zipIdx:=by
    rw[List.mem_iff_getElem?]
    exact⟨k,by simp[List.getElem?_zipIdx,lj]⟩
   have:=uG.1 _ hm
   rw[Array.all_eq_true_iff_forall_mem]at this
   have:=this e he
   simp only[hb,Bool.not_true,Bool.false_or,decide_eq_true_eq]at this
   simp[hl e.on ah,this]
  have hGS:∃v g',GS X n vo env g v g'/\wpOps X true r K (upd env vo.dst v) ⟨g',n⟩:=by
   unfold wpOps at hv
   unfold GS
   split at hv
   ·rename_i hw
    simp only[hw,if_true]
    exact TD hv
   ·rename_i hw
    simp only[hw]
    exact⟨.undef,g,⟨rfl,rfl⟩,hv⟩
  obtain⟨v,g',h1,h2⟩:=hGS
  refine He uG hlen lI r.length listed env g g' tX L7 h1 ?_
  refine y5 uG hlen r (k+1) _ _ _ (fun j=>by have:=hr (j+1);simpa[Nat.add_assoc,Nat.add_comm 1 j]using this) (by simp[fm]) (fun i hi=>?_) ah (tX.list L7) h2
  by_cases Af:i=k
  ·subst Af;simp[fm,lj]
  ·rw[Array.getElem?_setIfInBounds_ne (fun e=>Af e.symm),hl i hi]
   congr 1
   have:(i<k)=(i<k+1):=by apply propext;omega
   simp[this]
theorem pw {f:Nat->Oper->Option bx}:∀{l:List Oper} {vl:List bx} {j:Nat},allM f l j=some vl->vl.length=l.length/\∀(i:Nat) (o:Oper),l[i]? =some o->∃vo,vl[i]? =some vo/\f (j+i) o=some vo
 |[],vl,j,h=>by simp[allM]at h;subst h;simp
 |o::l,vl,j,h=>by
  simp only[allM,Option.bind_eq_bind,Option.bind_eq_some_iff,Option.pure_def,Option.some.injEq]at h
  obtain⟨vo,lI,u7,ud,rfl⟩:=h
  obtain⟨h1,h2⟩:=pw ud
  refine⟨by simp[h1],fun i o' hi=>?_⟩
  cases i with
  |zero=>simp at hi;subst hi;exact⟨vo,rfl,lI⟩
  |succ i=>
   simp at hi
   obtain⟨q,hq,hf⟩:=h2 i o' hi
   exact⟨q,by simpa using hq,by rw[<-hf];congr 1;omega⟩
theorem zM {ops:Array Oper} {vl:List bx} {nt site0:Nat} {draw mk:Bool} {bs:Array Nat} {hidden:List (Nat×Bool)} {n:Nat} {K:Env->Rows->Prop} {Q:Exit->Act->World->Prop} (dP:allM (lP P ops nt site0 draw mk bs hidden) ops.toList 0=some vl):
  ∀(fuel:Nat) (listed:Array Bool) (env:Env) (g:Rows) (a:Act) (w:World) (D:Nat->Prop) (ι:Names) (U:Nat->Prop),NF (Sound P) n ops vl K fuel listed env g->gR P hs D ι g w->Used ι n U->(∀s,U s->∃i,s=site0+i/\listed.getD i false=true)->cD P w D ι env a->a.tmps.size=nt->
  (∀je g' a' w' D' ι' U',K je g'->Step hs D ι w D' ι' w'->gR P hs D' ι' g' w'->Used ι' n U'->cD P w' D' ι' je a'->a'.tmps.size=nt->a'.defers=a.defers->Q .normal a' w')->wpAny P .any ops Q fuel listed a w:=by
 intro fuel
 induction fuel with
 |zero=>intro listed env g a w D ι U h S Us hU E fm hQ;exact⟨h.1,hQ env g a w D ι U h.2 (Step.refl _ _ _ _) S Us E fm rfl⟩
 |succ fuel ih=>
  intro listed env g a w D ι U h S Us hU E fm hQ
  refine⟨fun hr=>hQ env g a w D ι U (h.1 hr) (Step.refl _ _ _ _) S Us E fm rfl,fun i hi=>?_⟩
  obtain⟨vo,lI,v,g',hG,QY⟩:=h.2 i hi
  obtain⟨_,o,ho,_⟩:=mem_ready.1 hi
  obtain⟨vo',nz,Vt⟩:=(pw dP).2 i o (by simpa using ho)
  rw[lI]at nz;injection nz with nz;subst nz
  rw[Nat.zero_add]at Vt
  obtain⟨hc,hd,DT,zp,hg⟩:=qt Vt
  have hw:=u9 (ops:=ops) (vo:=vo) E hg
  have Za:¬U vo.site:=fun hu=>by
   obtain⟨i',he,hl⟩:=hU _ hu
   have:i'=i:=ah
   subst this
   rw[jx hi]at hl;cases hl
  have j5:i<listed.size:=by
   have h0:=(mem_ready.1 hi).1
   rcases Nat.lt_or_ge i listed.size with h|h
   ·exact h
   ·simp[Array.getElem?_eq_none h]at h0
  unfold wpOp
  simp only[ho]
  rw[<-hw]
  unfold GS at hG
  by_cases Ji:aM vo.guard env=true
  ·rw[if_pos Ji]
   rw[if_pos Ji]at hG
   refine .inl (CU hc hG S Us Za E fun a' w' ⟨u,D',ι',ha,T,S',hR,U'⟩=>?_)
   subst ha
   refine ih _ _ _ _ w' D' ι' _ QY S' U' (fun s DP=>?_) (by rw[hd];exact iX (pJ E T) hR zp fm) (by rw[fh];exact fm) fun je g2 a2 w2 D2 ι2 U2 hk T2 S2 Yi E2 jP F2=>hQ je g2 a2 w2 D2 ι2 U2 hk (T.trans T2) S2 Yi E2 jP (F2.trans (put_defers _ _ _))
   rcases DP with h|h
   ·obtain⟨i',he,hl⟩:=hU _ h
    exact⟨i',he,getD_set_true hl⟩
   ·exact⟨i,by rw[h,DT],by simp[j5]⟩
  ·rw[if_neg Ji]
   rw[if_neg Ji]at hG
   obtain⟨rfl,rfl⟩:=hG
   refine ih _ _ _ _ w D ι U QY S Us (fun s DP=>?_) (by rw[hd];exact iX E dd.undef zp fm) (by rw[fh];exact fm) fun je g2 a2 w2 D2 ι2 U2 hk T2 S2 Yi E2 jP F2=>hQ je g2 a2 w2 D2 ι2 U2 hk T2 S2 Yi E2 jP (F2.trans (put_defers _ _ _))
   obtain⟨i',he,hl⟩:=hU _ DP
   exact⟨i',he,getD_set_true hl⟩
end
end Go.Proofs.YtgoljkjaameagaaGreat.V

namespace Go.Proofs.YtgoljkjaameagaaGreat.V
open Go.RowKit
variable {P:Program} {w w':World} {D D' D2:Nat->Prop} {ι ι' ι2:Names}
section
variable {hs:Nat} {X:gn}
def rh (X:gn):Prop:=∀f args σ K K',(∀r σ',K r σ'->K' r σ')->X f args σ K->X f args σ K'
theorem lN:rh (Sound P):=fun _ _ _ _ _ hK h hs D ι w vs S U A=>
 (h hs D ι w vs S U A).mono fun _ _ ⟨r,g',n',D',ι',u,he,hk,rest⟩=>⟨r,g',n',D',ι',u,he,hK _ _ hk,rest⟩
def step (X:gn) (vo:bx) (N:Env->aw->Prop) (env:Env) (σ:aw):Prop:=
 if aM vo.guard env then fE X false vo env σ fun v σ'=>N (upd env vo.dst v) σ' else N (upd env vo.dst .undef) σ
theorem rM (hK:rh X) {draw:Bool} {hid:List Nat} {site f:Nat} {args:List AV} {σ:aw} {n n':AV->aw->Prop} (hn:∀v σ',n v σ'->n' v σ') (hp:cE X draw hid site f args σ n):cE X draw hid site f args σ n':=by
 rcases hp with⟨r,h1,h2⟩|⟨h1,h2⟩|⟨h1,sz,rows,h2,h3⟩
 ·exact .inl ⟨r,h1,hn _ _ h2⟩
 ·exact .inr (.inl ⟨h1,hK _ _ _ _ _ hn h2⟩)
 ·exact .inr (.inr ⟨h1,sz,rows,h2,hn _ _ h3⟩)
theorem EU (hK:rh X) {draw:Bool} {o:bx} {env:Env} {σ:aw} {n n':AV->aw->Prop} (hn:∀v σ',n v σ'->n' v σ') (hp:fE X draw o env σ n):fE X draw o env σ n':=by
 unfold fE at hp ⊢
 split at hp
 ·exact rM hK hn hp
 ·split at hp
  ·exact rM hK hn hp
  ·exact rM hK hn hp
  ·exact hp.elim
 ·split at hp
  ·exact hn _ _ hp
  ·exact hp.elim
 ·split at hp
  ·exact hn _ _ hp
  ·exact hp.elim
 ·split at hp
  ·exact hn _ _ hp
  ·exact hp.elim
 ·split at hp
  ·exact hn _ _ hp
  ·exact hp.elim
 ·split at hp
  ·exact hn _ _ hp
  ·exact hp.elim
 ·split at hp
  ·exact hn _ _ hp
  ·exact hn _ _ hp
  ·exact hp.elim
theorem ku (hK:rh X) {vo:bx} {N N':Env->aw->Prop} (h:∀e s,N e s->N' e s) {env:Env} {σ:aw} (hp:step X vo N env σ):step X vo N' env σ:=by
 unfold step at hp ⊢
 split at hp
 ·rename_i hw;rw[if_pos hw];exact EU hK (fun v σ'=>h _ _) hp
 ·rename_i hw;rw[if_neg hw];exact h _ _ hp
theorem Ko {env jk:Env} {vo:bx} {σ:aw} {n:AV->aw->Prop} (h:∀t∈vo.op.ig,env t=jk t) (hv:fE X false vo env σ n):fE X false vo jk σ n:=by
 unfold fE at hv ⊢
 split at hv
 ·rename_i f args ej
  rw[ej]at h
  simp only[gV.ig]at h
  rw[<-map_congr h];exact hv
 ·rename_i x args ej
  rw[ej]at h
  simp only[gV.ig,List.mem_append]at h
  rw[<-map_congr (l:=args) fun t ht=>h t (.inr ht),<-bF (x:=x) fun t ht=>h t (.inl ht)];exact hv
 ·rw[<-iJ h];exact hv
 ·rw[<-iJ h];exact hv
 ·rw[<-iJ h];exact hv
 ·rw[<-iJ h];exact hv
 ·rw[<-iJ h];exact hv
 ·rw[<-uQ h];exact hv
theorem mL {x:bx} (hq:lW x=true) {N:Env->aw->Prop} {env:Env} {σ:aw}:step X x N env σ↔∃v g',GS X σ.next x env σ.get v g'/\N (upd env x.dst v) ⟨g',σ.next⟩:=by
 unfold lW at hq
 simp only[Bool.and_eq_true,Bool.not_eq_true',bne_iff_ne]at hq
 obtain⟨ub,ni⟩:=hq
 unfold step GS
 by_cases hw:aM x.guard env=true
 ·rw[if_pos hw]
  simp only[hw,if_true]
  unfold fE
  split
  ·rename_i ej;simp[ej,gV.mQ]at ub
  ·rename_i ej;simp[ej,gV.mQ]at ub
  ·rename_i ej;simp[ej,gV.cls]at ni
  ·rename_i ej;simp[ej,gV.cls]at ni
  ·rename_i ej;simp[ej,gV.cls]at ni
  ·rename_i ej;simp[ej,gV.cls]at ni
  ·rename_i ej;simp[ej,gV.cls]at ni
  ·rename_i n1 n2 n3 n4 n5 n6 n7
   have hVS:∀v g',VS X σ.next x env σ.get v g'↔∃mr,eM x.op (dc env) (fS x.hid σ.next σ.get) ⟨x.site,σ.next⟩=some (v,mr)/\g'=jH σ.get ⟨x.site,σ.next⟩ mr:=fun v g'=>by
    unfold VS
    split
    ·rename_i hh;exact(n1 _ _ hh).elim
    ·rename_i hh;exact(n2 _ _ hh).elim
    ·rename_i hh;exact(n3 _ _ _ hh).elim
    ·rename_i hh;exact(n4 _ _ _ hh).elim
    ·rename_i hh;exact(n5 _ _ _ hh).elim
    ·rename_i hh;exact(n6 _ _ hh).elim
    ·rename_i hh;exact(n7 _ _ hh).elim
    ·exact Iff.rfl
   simp only[hVS]
   cases hz:eM x.op (dc env) (fS x.hid σ.next σ.get) ⟨x.site,σ.next⟩with
   |none=>
    exact⟨fun h=>h.elim,fun⟨v,g',⟨mr,h,_⟩,_⟩=>by cases h⟩
   |some p=>
    obtain⟨v,mr⟩:=p
    have key:∀(v':AV) (g':Rows),(∃UD,some (v,mr)=some (v',UD)/\g'=jH σ.get ⟨x.site,σ.next⟩ UD)↔v'=v/\g'=jH σ.get ⟨x.site,σ.next⟩ mr:=fun v' g'=>by
     constructor
     ·rintro⟨UD,h1,h2⟩
      injection h1 with h1;injection h1 with h1 h3
      subst h1;subst h3
      exact⟨rfl,h2⟩
     ·rintro⟨rfl,rfl⟩;exact⟨mr,rfl,rfl⟩
    have fin:(∃v' g',(∃UD,some (v,mr)=some (v',UD)/\g'=jH σ.get ⟨x.site,σ.next⟩ UD)/\N (upd env x.dst v') ⟨g',σ.next⟩)↔N (upd env x.dst v) ⟨jH σ.get ⟨x.site,σ.next⟩ mr,σ.next⟩:=by
     constructor
     ·rintro⟨v',g',h,hN⟩
      obtain⟨rfl,rfl⟩:=(key v' g').1 h
      exact hN
     ·intro hN;exact⟨v,_,(key _ _).2 ⟨rfl,rfl⟩,hN⟩
    cases mr with
    |none=>exact fin.symm
    |some r=>exact fin.symm
 ·rw[if_neg hw]
  simp only[if_neg hw]
  exact⟨fun h=>⟨_,_,⟨rfl,rfl⟩,h⟩,fun⟨v,g',⟨hv,hg⟩,h⟩=>by rw[hv,hg]at h;exact h⟩
def xv (x:bx) (env:Env) (v:AV):Prop:=if aM x.guard env then eM x.op (dc env) (fun _=>none) ⟨0,0⟩=some (v,none)else v=.undef
theorem yz {x:bx} (hp:x.op.cls=.pure):lW x=true:=by
 unfold lW
 rw[hp]
 cases hc:x.op<;>simp[hc,gV.cls]at hp<;>rfl
theorem uX {x:bx} (hp:x.op.cls=.pure) {N:Env->aw->Prop} {env:Env} {σ:aw}:step X x N env σ↔∃v,xv x env v/\N (upd env x.dst v) σ:=by
 rw[mL (yz hp)]
 unfold GS xv
 by_cases hw:aM x.guard env=true
 ·simp only[hw,if_true]
  constructor
  ·rintro⟨v,g',h,hN⟩
   obtain⟨rfl,dP⟩:=A5 hp h
   refine⟨v,?_,hN⟩
   unfold VS at h
   split at h
   ·rename_i ej;rw[ej]at hp;simp[gV.cls]at hp
   ·rename_i ej;rw[ej]at hp;simp[gV.cls]at hp
   ·rename_i ej;rw[ej]at hp;simp[gV.cls]at hp
   ·rename_i ej;rw[ej]at hp;simp[gV.cls]at hp
   ·rename_i ej;rw[ej]at hp;simp[gV.cls]at hp
   ·rename_i ej;rw[ej]at hp;simp[gV.cls]at hp
   ·rename_i ej;rw[ej]at hp;simp[gV.cls]at hp
   ·obtain⟨mr,hq,_⟩:=h
    have ZC:mr=none:=by
     cases mr with
     |none=>rfl
     |some r=>have:=yE hq;simp[r6,hp]at this
    subst ZC
    rw[<-yF (g:=fS x.hid σ.next σ.get) (id:=⟨x.site,σ.next⟩) hp];exact hq
  ·rintro⟨v,h,hN⟩
   exact⟨v,σ.get,Rp (mr:=none) (by rw[yF (g2:=fun _=>none) (id2:=⟨0,0⟩) hp];exact h),hN⟩
 ·simp only[if_neg hw]
  exact⟨fun⟨v,g',⟨hv,hg⟩,h⟩=>⟨v,hv,by rw[hg]at h;exact h⟩,fun⟨v,hv,h⟩=>⟨v,σ.get,⟨hv,rfl⟩,h⟩⟩
theorem NL {x:bx} {env jk:Env} {v:AV} (h:∀t∈x.ig,env t=jk t) (hv:xv x env v):xv x jk v:=by
 unfold xv at hv ⊢
 rw[<-oz h,<-uQ fun t ht=>h t (tK ht)];exact hv
structure Qs (x y:bx):Prop where
 xy:∀k,x.dst=some k->k∉y.ig
 yx:∀k,y.dst=some k->k∉x.ig
 dst:∀k,x.dst=some k->y.dst≠some k
theorem tP {x y:bx} (h:uZ x y=true):Qs x y:=by
 unfold uZ at h
 simp only[Bool.and_eq_true]at h
 obtain⟨a1,a2⟩:=h
 refine⟨fun k hk=>?_,fun k hk=>?_,fun k hk=>?_⟩
 ·rw[hk]at a1;simp at a1;exact a1.1
 ·rw[hk]at a2;simpa using a2
 ·rw[hk]at a1;simp at a1;exact a1.2
theorem z8 {x y:bx} (h:z7 x y=true):(Qs x y/\x.op.cls=.pure)∨(Fj x y/\lW x=true/\lW y=true):=by
 unfold z7 at h
 simp only[Bool.or_eq_true,Bool.and_eq_true,beq_iff_eq]at h
 rcases h with⟨h1,h2⟩|⟨⟨h1,h2⟩,h3⟩
 ·exact .inl ⟨tP h1,h2⟩
 ·exact .inr ⟨rS h1,h2,h3⟩
theorem Dq {x y:bx} (h:z7 x y=true):lW x=true:=by
 rcases z8 h with h|h
 ·exact yz h.2
 ·exact h.2.1
theorem J8 (hK:rh X) {x y:bx} (hf:z7 x y=true) {N:Env->aw->Prop} {env:Env} {σ:aw} (h:step X x (fun e s=>step X y N e s) env σ):step X y (fun e s=>step X x N e s) env σ:=by
 rcases z8 hf with⟨F,hp⟩|⟨F,hx,hy⟩
 ·rw[uX hp]at h
  obtain⟨v,hx,h⟩:=h
  have Q1:=fun(v':AV)=>y4 (env:=env) (v:=v) (u:=v') F.dst
  have vJ:=nH (env:=env) (v:=v) F.xy
  have back:∀(v':AV),xv x (upd env y.dst v') v:=fun v'=>NL (fun t ht=>(nH F.yx t ht).symm) hx
  unfold step at h ⊢
  rw[oz vJ]at h
  split at h
  ·rename_i hw
   rw[if_pos hw]
   refine EU hK (fun v' σ' hN=>?_) (Ko (fun t ht=>vJ t (tK ht)) h)
   rw[Q1]at hN
   exact(uX hp).2 ⟨v,back v',hN⟩
  ·rename_i hw
   rw[if_neg hw]
   rw[Q1]at h
   exact(uX hp).2 ⟨v,back _,h⟩
 ·rw[mL hx]at h
  obtain⟨v,g1,h1,h⟩:=h
  rw[mL hy]at h
  obtain⟨v',g2,h2,h⟩:=h
  obtain⟨OM,q1,q2,q3⟩:=Hj F h1 h2
  rw[q3]at h
  exact(mL hy).2 ⟨v',OM,q1,(mL hx).2 ⟨v,g2,q2,h⟩⟩
def Cv (X:gn) (ops:Array Oper) (vl:List bx) (K:Env->aw->Prop):Nat->Array Bool->Env->aw->Prop
 |0,listed,env,σ=>Region.ready .any ops listed=[]/\K env ⟨σ.get,σ.next+1⟩
 |f+1,listed,env,σ=>(Region.ready .any ops listed=[]->K env ⟨σ.get,σ.next+1⟩)/\∀i∈Region.ready .any ops listed,∃vo,vl[i]? =some vo/\step X vo (fun e s=>Cv X ops vl K f (listed.setIfInBounds i true) e s) env σ
theorem FN {ops:Array Oper} {vl:List bx} {bs:Array Nat} {listed:Array Bool} {i:Nat} (h:rR ops vl bs listed i=true) (j:Nat):rR ops vl bs (listed.setIfInBounds j true) i=true:=by
 unfold rR at h ⊢
 split at h
 ·rename_i x hx
  simp only[List.all_eq_true,Bool.or_eq_true]at h ⊢
  intro k hk
  rcases h k hk with((h|h)|h)|h
  ·exact .inl (.inl (.inl (getD_set_true h)))
  ·exact .inl (.inl (.inr h))
  ·exact .inl (.inr h)
  ·exact .inr h
 ·cases h
theorem vp {ops:Array Oper} {vl:List bx} {listed:Array Bool} {i j:Nat} {vi:bx} (tX:DC ops listed) (h:rR ops vl (j3 ops) listed i=true) (hi:vl[i]? =some vi) (hr:i∈Region.ready .any ops listed) (hj:j∈Region.ready .any ops listed) (nL:j≠i):∃vj,vl[j]? =some vj/\z7 vi vj=true:=by
 unfold rR at h
 rw[hi]at h
 simp only[List.all_eq_true,Bool.or_eq_true,beq_iff_eq]at h
 obtain⟨_,o,ho,_⟩:=mem_ready.1 hj
 rcases h j (List.mem_range.2 (Array.getElem?_eq_some_iff.1 ho).1)with((h|h)|h)|h
 ·rw[jx hj]at h;cases h
 ·exact absurd h nL
 ·have:=lX tX hj i h
  rw[jx hr]at this;cases this
 ·split at h
  ·rename_i y hy;exact⟨y,hy,h⟩
  ·cases h
theorem Hg (hK:rh X) {ops:Array Oper} {vl:List bx} {K:Env->aw->Prop} {i:Nat} {vi:bx} (hi:vl[i]? =some vi):∀(fuel:Nat) (listed:Array Bool) (env:Env) (σ:aw),
  DC ops listed->i∈Region.ready .any ops listed->rR ops vl (j3 ops) listed i=true->step X vi (fun e s=>Cv X ops vl K fuel (listed.setIfInBounds i true) e s) env σ->Cv X ops vl K (fuel+1) listed env σ:=by
 intro fuel
 induction fuel with
 |zero=>
  intro listed env σ tX hr j4 H
  refine⟨fun h=>(by rw[h]at hr;cases hr),fun j hj=>?_⟩
  by_cases nL:j=i
  ·subst nL;exact⟨vi,hi,H⟩
  ·obtain⟨vj,Ph,VA⟩:=vp tX j4 hi hr hj nL
   rw[mL (Dq VA)]at H
   obtain⟨v,g',_,H⟩:=H
   have:=ready_mono hj nL
   rw[H.1]at this;cases this
 |succ fuel ih=>
  intro listed env σ tX hr j4 H
  refine⟨fun h=>(by rw[h]at hr;cases hr),fun j hj=>?_⟩
  by_cases nL:j=i
  ·subst nL;exact⟨vi,hi,H⟩
  ·obtain⟨vj,Ph,VA⟩:=vp tX j4 hi hr hj nL
   refine⟨vj,Ph,?_⟩
   have H2:step X vi (fun e s=>step X vj (fun e s=>Cv X ops vl K fuel ((listed.setIfInBounds i true).setIfInBounds j true) e s) e s) env σ:=ku hK (fun e s h=>by
    obtain⟨vj',BE,h'⟩:=h.2 j (ready_mono hj nL)
    rw[Ph]at BE;injection BE with BE;subst BE
    exact h') H
   refine ku hK (fun e s h=>?_) (J8 hK VA H2)
   refine ih _ _ _ (tX.list hj) (ready_mono hr (fun e=>nL e.symm)) (FN j4 j) ?_
   rw[Array.setIfInBounds_comm _ _ nL]
   exact h
theorem uV {x:bx} (hg:x.guard=none) {N:Env->aw->Prop} {env:Env} {σ:aw}:step X x N env σ=fE X false x env σ (fun v σ'=>N (upd env x.dst v) σ'):=by
 unfold step
 rw[hg]
 simp[aM]
theorem GZ {x y:bx} {t s sz:Nat} {ys:O} (hx:x.op=.append sz (.t t) ys) (hg:x.guard=none) (hf:HC s x y=true) {N:Env->aw->Prop} {env:Env} {σ:aw} (hl:PE t s ys env σ.next) (h:step X x (fun e s=>step X y N e s) env σ):
  step X y (fun e σ'=>PE t s ys e σ'.next/\step X x N e σ') env σ:=by
 unfold HC at hf
 simp only[Bool.and_eq_true,bne_iff_ne]at hf
 obtain⟨⟨⟨⟨⟨f1,hq⟩,f3⟩,f4⟩,f5⟩,f6⟩:=hf
 have F:=tP f1
 obtain⟨⟨len,ht⟩,hsrc⟩:=hl
 have Mb:∀k∈x.op.ig,∀v',upd env y.dst v' k=env k:=fun k hk v'=>nH (env:=env) (v:=v') F.yx k (tK hk)
 have dC:t∈x.op.ig:=by rw[hx];simp[gV.ig,iC]
 have Ff:∀v',dc (upd env y.dst v') ys=dc env ys:=fun v'=>(bF fun k hk=>by rw[Mb k (by rw[hx];simp[gV.ig,hk])]).symm
 rw[uV hg]at h
 unfold fE at h
 simp only[hx,fV]at h
 have ex:dc env (.t t)=.own ⟨s,σ.next⟩ 0 len:=ht
 rw[ex]at h
 cases hr:bw σ.get (dc env ys)with
 |none=>rw[hr]at h;exact h.elim
 |some rs=>
  rw[hr]at h
  simp only[Option.bind_some,aY]at h
  cases F7:σ.get ⟨s,σ.next⟩with
  |none=>rw[F7]at h;exact h.elim
  |some r=>
   rw[F7]at h
   simp only[Option.bind_some]at h
   split at h
   ·rename_i v g1 hv
    split at hv
    ·rename_i hcond
     simp only[Option.some.injEq,Prod.mk.injEq]at hv
     obtain⟨rfl,rfl⟩:=hv
     rw[mL hq]at h
     obtain⟨v',g2,hG,hN⟩:=h
     have O6:(⟨y.site,σ.next⟩:Id)≠⟨s,σ.next⟩:=fun e=>f5 (by injection e)
     have LX:(⟨y.site,σ.next⟩:Id)≠⟨x.site,σ.next⟩:=fun e=>f6 (by injection e)
     replace hG:GS X σ.next y env (bE (cj σ.get ⟨s,σ.next⟩) ⟨x.site,σ.next⟩ ⟨true,sz,r.rows++rs⟩) v' g2:=xh (nH F.xy) hG
     have hvis:fS y.hid σ.next σ.get=fS y.hid σ.next (bE (cj σ.get ⟨s,σ.next⟩) ⟨x.site,σ.next⟩ ⟨true,sz,r.rows++rs⟩):=by
      cases hh:y.hid with
      |nil=>rw[hh]at f3;simp at f3
      |cons a l=>
       rw[hh]at f3 f4
       funext i
       show(if (a::l).contains i.site=true/\i.bj=σ.next then none else σ.get i)=if (a::l).contains i.site=true/\i.bj=σ.next then none else _
       by_cases h1:i=⟨x.site,σ.next⟩
       ·subst h1;rw[if_pos ⟨f4,rfl⟩,if_pos ⟨f4,rfl⟩]
       ·by_cases h2:i=⟨s,σ.next⟩
        ·subst h2;rw[if_pos ⟨f3,rfl⟩,if_pos ⟨f3,rfl⟩]
        ·simp only[bE,cj,if_neg h1,if_neg h2]
     obtain⟨my,Sq,hG'⟩:∃my,g2=jH (bE (cj σ.get ⟨s,σ.next⟩) ⟨x.site,σ.next⟩ ⟨true,sz,r.rows++rs⟩) ⟨y.site,σ.next⟩ my/\GS X σ.next y env σ.get v' (jH σ.get ⟨y.site,σ.next⟩ my):=by
      unfold GS at hG ⊢
      by_cases wy:aM y.guard env=true
      ·rw[if_pos wy]at hG
       have hcw:y.op.cls≠.write:=by
        unfold lW at hq
        simp only[Bool.and_eq_true,bne_iff_ne]at hq
        exact hq.2
       obtain⟨my,rfl,_,Rt⟩:=xn hcw hG
       exact⟨my,rfl,by rw[if_pos wy];exact Rt _ hvis⟩
      ·rw[if_neg wy]at hG
       obtain⟨rfl,rfl⟩:=hG
       exact⟨none,rfl,by rw[if_neg wy];exact⟨rfl,rfl⟩⟩
     subst Sq
     refine(mL hq).2 ⟨v',_,hG',⟨⟨len,by rw[Mb t dC];exact ht⟩,fun id o l he=>hsrc id o l (by rw[<-Ff v'];exact he)⟩,?_⟩
     rw[uV hg]
     unfold fE
     have ex':dc (upd env y.dst v') (.t t)=.own ⟨s,σ.next⟩ 0 len:=by
      show upd env y.dst v' t= _
      rw[Mb t dC];exact ht
     simp only[hx,fV,ex',Ff v']
     have pf:bw (jH σ.get ⟨y.site,σ.next⟩ my) (dc env ys)=some rs:=by
      cases my with
      |none=>exact hr
      |some row=>
       revert hr
       cases hev:dc env ys<;>simp only[bw,jH]<;>try exact fun h=>h
       rename_i id o l
       have:id≠⟨y.site,σ.next⟩:=fun e=>hsrc id o l hev (by rw[e])
       simp only[bE,if_neg this];exact fun h=>h
     have Zp:jH σ.get ⟨y.site,σ.next⟩ my ⟨s,σ.next⟩=some r:=by
      cases my with
      |none=>exact F7
      |some row=>simp only[jH,bE,if_neg (fun e=>O6 e.symm:(⟨s,σ.next⟩:Id)≠⟨y.site,σ.next⟩)];exact F7
     rw[pf]
     simp only[Option.bind_some,aY,Zp]
     rw[if_pos hcond]
     have VF:bE (cj (jH σ.get ⟨y.site,σ.next⟩ my) ⟨s,σ.next⟩) ⟨x.site,σ.next⟩ ⟨true,sz,r.rows++rs⟩=jH (bE (cj σ.get ⟨s,σ.next⟩) ⟨x.site,σ.next⟩ ⟨true,sz,r.rows++rs⟩) ⟨y.site,σ.next⟩ my:=by
      cases my with
      |none=>rfl
      |some row=>
       funext i
       simp only[jH,bE,cj]
       by_cases h1:i=⟨y.site,σ.next⟩
       ·subst h1;rw[if_neg LX,if_neg O6,if_pos rfl,if_pos rfl]
       ·simp only[if_neg h1]
     have hu:=y4 (env:=env) (v:=AV.own ⟨x.site,σ.next⟩ 0 (len+rs.length)) (u:=v') F.dst
     show N (upd (upd env y.dst v') x.dst (.own ⟨x.site,σ.next⟩ 0 (len+rs.length))) ⟨bE (cj (jH σ.get ⟨y.site,σ.next⟩ my) ⟨s,σ.next⟩) ⟨x.site,σ.next⟩ ⟨true,sz,r.rows++rs⟩,σ.next⟩
     rw[VF,<-hu]
     exact hN
    ·cases hv
   ·exact h.elim
theorem FM {ops:Array Oper} {vl:List bx} {bs:Array Nat} {listed:Array Bool} {i s:Nat} (h:pK ops vl bs listed i s=true) (j:Nat):pK ops vl bs (listed.setIfInBounds j true) i s=true:=by
 unfold pK at h ⊢
 split at h
 ·rename_i x hx
  simp only[List.all_eq_true,Bool.or_eq_true]at h ⊢
  intro k hk
  rcases h k hk with((h|h)|h)|h
  ·exact .inl (.inl (.inl (getD_set_true h)))
  ·exact .inl (.inl (.inr h))
  ·exact .inl (.inr h)
  ·exact .inr h
 ·cases h
theorem Dl {ops:Array Oper} {vl:List bx} {listed:Array Bool} {i j s:Nat} {vi:bx} (tX:DC ops listed) (h:pK ops vl (j3 ops) listed i s=true) (hi:vl[i]? =some vi) (hr:i∈Region.ready .any ops listed) (hj:j∈Region.ready .any ops listed) (nL:j≠i):∃vj,vl[j]? =some vj/\HC s vi vj=true:=by
 unfold pK at h
 rw[hi]at h
 simp only[List.all_eq_true,Bool.or_eq_true,beq_iff_eq]at h
 obtain⟨_,o,ho,_⟩:=mem_ready.1 hj
 rcases h j (List.mem_range.2 (Array.getElem?_eq_some_iff.1 ho).1)with((h|h)|h)|h
 ·rw[jx hj]at h;cases h
 ·exact absurd h nL
 ·have:=lX tX hj i h
  rw[jx hr]at this;cases this
 ·split at h
  ·rename_i y hy;exact⟨y,hy,h⟩
  ·cases h
theorem EV (hK:rh X) {ops:Array Oper} {vl:List bx} {K:Env->aw->Prop} {i t s sz:Nat} {ys:O} {vi:bx} (hi:vl[i]? =some vi) (hx:vi.op=.append sz (.t t) ys) (hg:vi.guard=none):∀(fuel:Nat) (listed:Array Bool) (env:Env) (σ:aw),
  DC ops listed->i∈Region.ready .any ops listed->pK ops vl (j3 ops) listed i s=true->PE t s ys env σ.next->step X vi (fun e s=>Cv X ops vl K fuel (listed.setIfInBounds i true) e s) env σ->Cv X ops vl K (fuel+1) listed env σ:=by
 intro fuel
 induction fuel with
 |zero=>
  intro listed env σ tX hr j4 Ul H
  refine⟨fun h=>(by rw[h]at hr;cases hr),fun j hj=>?_⟩
  by_cases nL:j=i
  ·subst nL;exact⟨vi,hi,H⟩
  ·exfalso
   have h0:=ready_mono hj nL
   rw[uV hg]at H
   unfold fE at H
   simp only[hx]at H
   split at H
   ·rw[H.1]at h0;cases h0
   ·exact H
 |succ fuel ih=>
  intro listed env σ tX hr j4 Ul H
  refine⟨fun h=>(by rw[h]at hr;cases hr),fun j hj=>?_⟩
  by_cases nL:j=i
  ·subst nL;exact⟨vi,hi,H⟩
  ·obtain⟨vj,Ph,VA⟩:=Dl tX j4 hi hr hj nL
   refine⟨vj,Ph,?_⟩
   have H2:step X vi (fun e s=>step X vj (fun e s=>Cv X ops vl K fuel ((listed.setIfInBounds i true).setIfInBounds j true) e s) e s) env σ:=ku hK (fun e s h=>by
    obtain⟨vj',BE,h'⟩:=h.2 j (ready_mono hj nL)
    rw[Ph]at BE;injection BE with BE;subst BE
    exact h') H
   refine ku hK (fun e s h=>?_) (GZ hx hg VA Ul H2)
   refine ih _ _ _ (tX.list hj) (ready_mono hr (fun e=>nL e.symm)) (FM j4 j) h.1 ?_
   rw[Array.setIfInBounds_comm _ _ nL]
   exact h.2
theorem Ms {ops:Array Oper} {vl:List bx} {bs:Array Nat} {listed:Array Bool} {i i' t s:Nat} {y:O} {vo:bx} (h:S9 ops vl bs listed i=some (i',t,s,y,vo)):i'=i/\vl[i]? =some vo/\(∃sz,vo.op=.append sz (.t t) y)/\vo.guard=none/\pK ops vl bs listed i s=true:=by
 unfold S9 at h
 split at h
 ·rename_i x hx
  split at h
  ·rename_i t' s' y' j6
   split at h
   ·rename_i hf
    simp only[Option.some.injEq,Prod.mk.injEq]at h
    obtain⟨rfl,rfl,rfl,rfl,rfl⟩:=h
    unfold Q5 at j6
    split at j6
    ·rename_i sz t2 y2 ho tY
     split at j6
     ·simp only[Option.some.injEq,Prod.mk.injEq]at j6
      obtain⟨rfl,rfl,rfl⟩:=j6
      exact⟨rfl,hx,⟨sz,ho⟩,tY,hf⟩
     ·cases j6
    ·cases j6
   ·cases h
  ·cases h
 ·cases h
theorem zR {X:gn} {Q:Ex->Env->aw->Prop} {env:Env} {σ:aw}:∀{l:List VC} {t:VC},C6 l=some t->dK X t Q env σ->∀c∈l,dK X c Q env σ
 |[],t,h,_,c,hc=>by cases hc
 |[c0],t,h,hw,c,hc=>by
  simp only[C6,Option.some.injEq]at h
  subst h
  rw[List.mem_singleton]at hc
  subst hc;exact hw
 |c0::c1::r,t,h,hw,c,hc=>by
  simp only[C6,Option.map_eq_some_iff]at h
  obtain⟨t',Kz,rfl⟩:=h
  rcases List.mem_cons.1 hc with rfl|hc
  ·exact hw.1
  ·exact zR Kz hw.2 c hc
theorem mapM_mem {α β:Type} {f:α->Option β}:∀{l:List α} {r:List β},l.mapM f=some r->∀i∈l,∃b∈r,f i=some b
 |[],_,_,i,hi=>by cases hi
 |a::l,r,h,i,hi=>by
  simp only[List.mapM_cons,Option.bind_eq_bind,Option.bind_eq_some_iff,Option.pure_def,Option.some.injEq]at h
  obtain⟨b,hb,r',hr,rfl⟩:=h
  rcases List.mem_cons.1 hi with rfl|hi
  ·exact⟨b,by simp,hb⟩
  ·obtain⟨c,hc,hf⟩:=mapM_mem hr i hi
   exact⟨c,List.mem_cons_of_mem _ hc,hf⟩
theorem Kk (hK:rh X) {ops:Array Oper} {vl:List bx} {Q:Ex->Env->aw->Prop}:∀(n:Nat) (listed:Array Bool) (t:VC) (env:Env) (σ:aw),yZ ops vl (j3 ops) n listed=some t->DC ops listed->dK X t Q env σ->Cv X ops vl (Q .normal) n listed env σ:=by
 intro n
 induction n with
 |zero=>
  intro listed t env σ h _ hw
  unfold yZ at h
  split at h
  ·rename_i hr
   simp only[Option.some.injEq]at h
   subst h
   exact⟨hr,hw⟩
  ·cases h
 |succ n ih=>
  intro listed t env σ h tX hw
  unfold yZ at h
  split at h
  ·rename_i hr
   simp only[Option.some.injEq]at h
   subst h
   exact⟨fun _=>hw,fun i hi=>by rw[hr]at hi;cases hi⟩
  ·rename_i r rs hr
   dsimp only at h
   split at h
   ·rename_i i hfind
    have O1:=List.mem_of_find?_eq_some hfind
    have su:=List.find?_some hfind
    rw[<-hr]at O1
    split at h
    ·rename_i vo lI
     simp only[Option.map_eq_some_iff]at h
     obtain⟨t',Kz,rfl⟩:=h
     exact Hg hK lI n listed env σ tX O1 su (ku hK (fun e s h=>ih _ _ _ _ Kz (tX.list O1) h) hw)
    ·cases h
   ·split at h
    ·rename_i i t s y vo hfind
     obtain⟨i0,HL,ei⟩:=List.exists_of_findSome?_eq_some hfind
     obtain⟨rfl,lI,⟨sz,ej⟩,tY,E5⟩:=Ms ei
     rw[<-hr]at HL
     simp only[Option.map_eq_some_iff]at h
     obtain⟨t',Kz,rfl⟩:=h
     exact EV hK lI ej tY n listed env σ tX HL E5 hw.1 (ku hK (fun e s h=>ih _ _ _ _ Kz (tX.list HL) h) hw.2)
    split at h
    ·rename_i l hl
     have dP:=zR h hw
     refine⟨fun h=>(by rw[h]at hr;cases hr),fun i hi=>?_⟩
     rw[hr]at hi
     obtain⟨b,Kv,Ab⟩:=mapM_mem hl i hi
     simp only[Option.bind_eq_some_iff,Option.map_eq_some_iff]at Ab
     obtain⟨vo,lI,t',Kz,rfl⟩:=Ab
     exact⟨vo,lI,ku hK (fun e s h=>ih _ _ _ _ Kz (tX.list (by rw[hr];exact hi)) h) (dP _ Kv)⟩
    ·cases h
theorem Hc {ops:Array Oper} {vl:List bx} {nt site0:Nat} {draw mk:Bool} {bs:Array Nat} {hidden:List (Nat×Bool)} {K:Env->aw->Prop} {Q:Exit->Act->World->Prop} (dP:allM (lP P ops nt site0 draw mk bs hidden) ops.toList 0=some vl):
  ∀(fuel:Nat) (listed:Array Bool) (env:Env) (σ:aw) (a:Act) (w:World) (D:Nat->Prop) (ι:Names) (U:Nat->Prop),Cv (Sound P) ops vl K fuel listed env σ->gR P hs D ι σ.get w->Used ι σ.next U->(∀s,U s->∃i,s=site0+i/\listed.getD i false=true)->cD P w D ι env a->a.tmps.size=nt->
  (∀je σ' a' w' D' ι',K je σ'->Step hs D ι w D' ι' w'->St P hs nt D' ι' je σ' a' w'->a'.defers=a.defers->σ.next<=σ'.next->Q .normal a' w')->wpAny P .any ops Q fuel listed a w:=by
 intro fuel
 induction fuel with
 |zero=>intro listed env σ a w D ι U h S Us hU E fm hQ;exact⟨h.1,hQ env _ a w D ι h.2 (Step.refl _ _ _ _) ⟨S,Us.next,E,fm⟩ rfl (Nat.le_succ _)⟩
 |succ fuel ih=>
  intro listed env σ a w D ι U h S Us hU E fm hQ
  refine⟨fun hr=>hQ env _ a w D ι (h.1 hr) (Step.refl _ _ _ _) ⟨S,Us.next,E,fm⟩ rfl (Nat.le_succ _),fun i hi=>?_⟩
  obtain⟨vo,lI,hG⟩:=h.2 i hi
  obtain⟨_,o,ho,_⟩:=mem_ready.1 hi
  obtain⟨vo',nz,Vt⟩:=(pw dP).2 i o (by simpa using ho)
  rw[lI]at nz;injection nz with nz;subst nz
  rw[Nat.zero_add]at Vt
  obtain⟨hc,hd,DT,zp,hg⟩:=qt Vt
  have hw:=u9 (ops:=ops) (vo:=vo) E hg
  have Za:¬U vo.site:=fun hu=>by
   obtain⟨i',he,hl⟩:=hU _ hu
   have:i'=i:=ah
   subst this
   rw[jx hi]at hl;cases hl
  have j5:i<listed.size:=by
   have h0:=(mem_ready.1 hi).1
   rcases Nat.lt_or_ge i listed.size with h|h
   ·exact h
   ·simp[Array.getElem?_eq_none h]at h0
  unfold wpOp
  simp only[ho]
  rw[<-hw]
  unfold step at hG
  by_cases Ji:aM vo.guard env=true
  ·rw[if_pos Ji]
   rw[if_pos Ji]at hG
   refine .inl (AW hc hG S Us Za E fun v σ' u D' ι' w' hn T S' hR U' hle=>?_)
   refine ih _ _ _ _ w' D' ι' _ hn S' U' (fun s DP=>?_) (by rw[hd];exact iX (pJ E T) hR zp fm) (by rw[fh];exact fm) fun je σ2 a2 w2 D2 ι2 hk T2 SQ F2 nX=>hQ je σ2 a2 w2 D2 ι2 hk (T.trans T2) SQ (F2.trans (put_defers _ _ _)) (Nat.le_trans hle nX)
   rcases DP with h|h
   ·obtain⟨i',he,hl⟩:=hU _ h
    exact⟨i',he,getD_set_true hl⟩
   ·exact⟨i,by rw[h,DT],by simp[j5]⟩
  ·rw[if_neg Ji]
   rw[if_neg Ji]at hG
   refine ih _ _ _ _ w D ι U hG S Us (fun s DP=>?_) (by rw[hd];exact iX E dd.undef zp fm) (by rw[fh];exact fm) fun je σ2 a2 w2 D2 ι2 hk T2 SQ F2 nX=>hQ je σ2 a2 w2 D2 ι2 hk T2 SQ (F2.trans (put_defers _ _ _)) nX
   obtain⟨i',he,hl⟩:=hU _ DP
   exact⟨i',he,getD_set_true hl⟩
end
end Go.Proofs.YtgoljkjaameagaaGreat.V

namespace Go.Proofs.YtgoljkjaameagaaGreat.V
open Go.RowKit
variable {P:Program} {w w':World} {D D' D2:Nat->Prop} {ι ι' ι2:Names}
def CB (P:Program) (c:Code) (Q:Exit->Act->World->Prop) (a:Act) (w:World):Prop:=
 ∀(b:Frame) (k:List Item) (cs:List Frame),b.kind≠.early->∃e a' w',Q e a' w'/\Arrives P (lone (b.at a (.code c::k)) cs w) b k cs e a' w'
section
variable {Q:Exit->Act->World->Prop} {a:Act}
theorem lf {c:Code} (h:c.wp P Q a w):CB P c Q a w:=fun b k cs _=>h b k cs
theorem mK {x y:Code} (h:CB P x (Exit.then (CB P y Q) Q) a w):CB P (.seq x y) Q a w:=by
 intro b k cs hb
 obtain⟨e,a1,w1,hq,kh⟩:=h b (.code y::k) cs hb
 by_cases he:e=.normal
 ·subst he
  obtain⟨e2,a2,w2,ni,LI⟩:=hq b k cs hb
  exact⟨e2,a2,w2,ni,.of_steps (.head step_seq kh) LI⟩
 ·refine⟨e,a1,w1,?_,.of_steps (.one step_seq) (.pass (x:=.code y) rfl (fun _ _=>.inl he) kh)⟩
  cases e<;>first|exact absurd rfl he|exact hq
theorem yp {c:Operand} {x y:Code} {t:Bool} (hc:a.eval c=.bool t) (h:CB P (if t then x else y) Q a w):CB P (.cond c x y) Q a w:=
 fun b k cs hb=>let ⟨e,a',w',q,r⟩:=h b k cs hb;⟨e,a',w',q,.of_steps (.one (step_cond hc)) r⟩
theorem uO {id:Nat} {c:Code} (h:CB P c (Exit.inBlock id Q) a w):CB P (.block id c) Q a w:=by
 intro b k cs hb
 obtain⟨e,a1,w1,hq,kh⟩:=h b (.inBlock id::k) cs hb
 cases e with
 |normal=>exact⟨.normal,a1,w1,hq,.head step_block (Steps.trans kh (.one step_inBlock))⟩
 |exit kE=>
  by_cases hid:kE=id
  ·simp only[Exit.inBlock,hid,if_true]at hq
   exact⟨.normal,a1,w1,hq,.head step_block (kh k (by simp[exitTo,hid]))⟩
  ·simp only[Exit.inBlock,hid,if_false]at hq
   exact⟨.exit kE,a1,w1,hq,fun k' hk=>.head step_block (kh k' (by simp[exitTo,Ne.symm hid,hk]))⟩
 |goto l=>exact⟨_,a1,w1,hq,fun k' hk=>.head step_block (kh k' (by simp[gotoIn,hk]))⟩
 |ret=>exact⟨_,a1,w1,hq,.of_steps (.one step_block) kh⟩
 |panic ch=>exact⟨_,a1,w1,hq,.of_steps (.one step_block) kh⟩
 |outgrown=>exact⟨_,a1,w1,hq,.of_steps (b:=b) (k:=k) (cs:=cs) (e:=.outgrown) (.one step_block) kh⟩
def qC (P:Program) (c:Code) (Q:Exit->Act->World->Prop):Nat->Act->World->Prop
 |0=>fun _ _=>False
 |n+1=>CB P c (Exit.then (qC P c Q n) Q)
theorem Ev {c:Code} (n:Nat) (h:qC P c Q n a w):CB P (.loop c) Q a w:=by
 intro b k cs hb
 have key:∀n a w,qC P c Q n a w->∃e a' w',Q e a' w'/\Arrives P (lone (b.at a (.code c::.inLoop c::k)) cs w) b k cs e a' w':=by
  intro n
  induction n with
  |zero=>intro a w h;exact h.elim
  |succ n ih=>
   intro a w h
   obtain⟨e,a1,w1,hq,kh⟩:=h b (.inLoop c::k) cs hb
   by_cases he:e=.normal
   ·subst he
    obtain⟨e2,a2,w2,ni,LI⟩:=ih a1 w1 hq
    exact⟨e2,a2,w2,ni,.of_steps (Steps.trans kh (.one step_inLoop)) LI⟩
   ·refine⟨e,a1,w1,?_,.pass (x:=.inLoop c) rfl (fun _ _=>.inl he) kh⟩
    cases e<;>first|exact absurd rfl he|exact hq
 obtain⟨e,a',w',hq,kh⟩:=key n a w h
 exact⟨e,a',w',hq,.of_steps (.one step_loop) kh⟩
theorem Be {f:FuncId} {fn:Func} {c:Code} {args:Array Value} {R:Ending->World->Prop} (hf:P.funcs[f]? =some fn) (hb:fn.body=some c)
  (h:CB P c (bodyPost P fn R) {tmps:=args++Array.replicate (fn.ntmps-args.size) undef,defers:=[]} w):Calls P f args w R:=by
 intro cs
 have Sn:Frame.enter P f args .normal=({(default:Frame)with fn:=f,kind:=.normal}:Frame).at {tmps:=args++Array.replicate (fn.ntmps-args.size) undef,defers:=[]} [.code c]:=by simp[Frame.enter,Frame.at,hf,hb]
 obtain⟨e,a',w',hq,kh⟩:=h {(default:Frame)with fn:=f,kind:=.normal} [] cs (by simp)
 rw[<-Sn]at kh
 cases e with
 |normal=>obtain⟨hd,v,hr,hR⟩:=hq;exact⟨.returned v,w',_,hR,Steps.trans kh (.one step_end),rfl,rfl,hd,rfl,fn,hf,hr⟩
 |ret=>obtain⟨hd,v,hr,hR⟩:=hq;obtain⟨todo,hs⟩:=kh;exact⟨.returned v,w',_,hR,hs,rfl,rfl,hd,rfl,fn,hf,hr⟩
 |panic chain=>obtain⟨hd,hR⟩:=hq;obtain⟨todo,hs⟩:=kh;exact⟨.panicked chain,w',_,hR,hs,rfl,rfl,hd,fn,hf⟩
 |exit id=>exact hq.elim
 |goto l=>exact hq.elim
 |outgrown=>exact⟨.outgrown,w',{(default:Frame)with fn:=f,kind:=.normal},hq,kh.resolve_left (by simp),rfl,trivial⟩
def zf (P:Program) (ops:Array Oper) (Q:Exit->Act->World->Prop) (l:List Nat) (a:Act) (w:World):Prop:=
 ∀(b:Frame) (k:List Item) (cs:List Frame),b.kind≠.early->∃e a' w',Q e a' w'/\Arrives P (lone (b.at a (.inRegion ops l::k)) cs w) b k cs e a' w'
theorem Gy {id:Nat} {ops:Array Oper} (h:zf P ops Q (List.range ops.size) a w):CB P (.region id ops false) Q a w:=
 fun b k cs hb=>let ⟨e,a',w',q,r⟩:=h b k cs hb;⟨e,a',w',q,.of_steps (.one step_region) r⟩
theorem Ti {ops:Array Oper} (h:Q .normal a w):zf P ops Q [] a w:=fun _ _ _ _=>⟨.normal,a,w,h,.one step_region_end⟩
theorem qm {o:Oper} {ys:Nat->Option Bool} (h:o.guard=none):Region.wanted o ys=true:=by simp[Region.wanted,h]
theorem ML {ops:Array Oper} {i:Nat} {rest:List Nat} {o:Oper} {v:Value} (ho:ops[i]? =some o) (hg:o.guard=none) (hr:(execOp a.eval o).run P w=.ok (.value v) w') (h:zf P ops Q rest (a.put o.dst v) w'):zf P ops Q (i::rest) a w:=by
 intro b k cs hb
 obtain⟨e,a',w2,hq,kh⟩:=h b k cs hb
 refine⟨e,a',w2,hq,.of_steps (.one ?_) kh⟩
 have uD:(b.at a (.inRegion ops (i::rest)::k)).finish v=b.at (a.put o.dst v) (.inRegion ops rest::k):=by rw[Frame.finish_at,ho];rfl
 rw[<-uD]
 refine step_lone_go ?_
 have h2:=stepG_op (P:=P) (b:=b) (k:=k) (cs:=cs) (w:=w) (rest:=rest) ho (qm hg (ys:=yielded ops a.tmps))
 rw[h2];simp[stepG.apply,hr]
theorem PU {ops:Array Oper} {i:Nat} {rest:List Nat} {o:Oper} {v z:Value} {c cap s r:Nat} {buf:Array Value} (ho:ops[i]? =some o) (hg:o.guard=none) (hr:(execOp a.eval o).run P w=.ok (.comm #[Conc.scase c v z] true .send) w)
  (hc:w.heap[c]? =some (.chan cap buf false s r false)) (gG:buf.size<cap) (h:zf P ops Q rest (a.put o.dst undef) (w.setChan c cap (buf.push v) false (s+1) r false)):zf P ops Q (i::rest) a w:=by
 intro b k cs hb
 obtain⟨e,a',w2,hq,kh⟩:=h b k cs hb
 refine⟨e,a',w2,hq,.of_steps (.one ?_) kh⟩
 have uD:(b.at a (.inRegion ops (i::rest)::k)).finish undef=b.at (a.put o.dst undef) (.inRegion ops rest::k):=by rw[Frame.finish_at,ho];rfl
 rw[<-uD,Conc.lone_eq_solo,Conc.lone_eq_solo]
 exact Conc.step_lone_send_room (Conc.stepG_comm ho (qm hg) hb hr) hc gG
theorem PT {ops:Array Oper} {i:Nat} {rest:List Nat} {o:Oper} {z:Value} {c cap s r:Nat} {buf:Array Value} (ho:ops[i]? =some o) (hg:o.guard=none) (hr:(execOp a.eval o).run P w=.ok (.comm #[Conc.rcase c z] true (.recv false)) w)
  (hc:w.heap[c]? =some (.chan cap buf false s r false)) (DU:0<buf.size) (h:zf P ops Q rest (a.put o.dst (buf.getD 0 undef)) (w.setChan c cap (buf.extract 1 buf.size) false s (r+1) false)):zf P ops Q (i::rest) a w:=by
 intro b k cs hb
 obtain⟨e,a',w2,hq,kh⟩:=h b k cs hb
 refine⟨e,a',w2,hq,.of_steps (.one ?_) kh⟩
 have uD:(b.at a (.inRegion ops (i::rest)::k)).finish (buf.getD 0 undef)=b.at (a.put o.dst (buf.getD 0 undef)) (.inRegion ops rest::k):=by rw[Frame.finish_at,ho];rfl
 rw[<-uD,Conc.lone_eq_solo,Conc.lone_eq_solo]
 exact Conc.step_lone_recv_buf false (Conc.stepG_comm ho (qm hg) hb hr) hc DU
end
section
variable {hs:Nat} {g:Rows} {env:Env} {a:Act} {o:Oper}
theorem Pr {x y:O} (hc:sq P o.op=some (.snd x y)):∃x' y',o.op=.send x' y'/\cO P x'=some x/\cO P y'=some y:=by
 unfold sq at hc
 split at hc
 case h_25=>
  rename_i x' y' h
  simp only[Option.bind_eq_bind,Option.bind_eq_some_iff,Option.pure_def,Option.some.injEq,gV.snd.injEq]at hc
  obtain⟨p,h1,q,h2,rfl,rfl⟩:=hc
  exact⟨_,_,h,h1,h2⟩
 all_goals (try unfold oI at hc)<;>(try unfold xr at hc)<;>(try unfold uo at hc)<;>(repeat' (split at hc))<;>(simp only[Option.bind_eq_bind,Option.bind_eq_some_iff,Option.pure_def,Option.some.injEq,Option.map_eq_some_iff,reduceCtorEq,and_false,exists_false]at hc)
theorem Pq {x:O} (hc:sq P o.op=some (.Tl x)):∃t dir e i z x',o.op=.recv t x' false/\P.underlying t=some (.chan dir e)/\P.info? e=some i/\i.zero=some z/\cO P x'=some x:=by
 unfold sq at hc
 split at hc
 case h_26=>
  rename_i t x' h
  split at hc
  ·rename_i dir e ht
   split at hc
   ·rename_i z hz
    simp only[Option.bind_eq_some_iff]at hz
    obtain⟨i,hi,hz⟩:=hz
    simp only[Option.map_eq_some_iff,gV.Tl.injEq]at hc
    obtain⟨p,h1,rfl⟩:=hc
    exact⟨t,dir,e,i,z,x',h,ht,hi,hz,h1⟩
   ·cases hc
  ·cases hc
 all_goals (try unfold oI at hc)<;>(try unfold xr at hc)<;>(try unfold uo at hc)<;>(repeat' (split at hc))<;>(simp only[Option.bind_eq_bind,Option.bind_eq_some_iff,Option.pure_def,Option.some.injEq,Option.map_eq_some_iff,reduceCtorEq,and_false,exists_false]at hc)
theorem UX {x y:O} {g':Rows} (S:gR P hs D ι g w) (hc:sq P o.op=some (.snd x y)) (E:cD P w D ι env a) (hv:ea g (dc env x) (dc env y)=some g'):
  ∃c cap s r buf u,(execOp a.eval o).run P w=.ok (.comm #[Conc.scase c u (.tuple #[])] true .send) w/\w.heap[c]? =some (.chan cap buf false s r false)/\buf.size<cap/\gR P hs D ι g' (w.setChan c cap (buf.push u) false (s+1) r false)/\Step hs D ι w D ι (w.setChan c cap (buf.push u) false (s+1) r false):=by
 obtain⟨x',y',ho,hx,hy⟩:=Pr hc
 have rx:=dw E hx
 have ry:=dw E hy
 unfold ea at hv
 split at hv
 ·rename_i i he
  simp only[Option.bind_eq_some_iff]at hv
  obtain⟨r,hg,hv⟩:=hv
  split at hv
  ·rename_i hcond
   simp only[Option.some.injEq]at hv
   subst hv
   obtain⟨B,c,hu,hB,hk,fm,buf,s,q,hb,NS,hR⟩:=Bf S rx he hg
   obtain⟨B',dL,RR,_⟩:=S.row i r hg
   rw[hB]at dL;injection dL with dL;subst dL
   have pa:=S.Kl (ob:=.chan c (buf.push (a.eval y')) false (s+1) q false) (r':={r with rows:=r.rows++[[dc env y]]}) hg hcond.1 hB fun hr k8=>⟨RR.sz,fun cs dx=>?_,fun h0=>(by rw[hk]at h0;cases h0),fun m hm=>(by rw[hk]at hm;cases hm),fun c' k7=>?_⟩
   ·exact⟨B.b,c,s,q,buf,a.eval y',by simp[execOp,ho,hu,Conc.scase],hb,by rw[NS];omega,pa.1,pa.2⟩
   ·rcases List.mem_append.1 dx with h|h
    ·exact RR.flat cs h
    ·rw[List.mem_singleton.1 h]
     intro b uC
     rw[List.mem_singleton.1 uC];exact hcond.2.2
   ·rw[hk]at k7
    simp only[Option.some.injEq,BK.chan.injEq]at k7
    subst k7
    refine⟨fm,_,_,_,k8,by simp[NS],fun j cs hj=>?_⟩
    rw[List.getElem?_append]at hj
    split at hj
    ·rename_i ei
     obtain⟨b,u,q1,q2,q3⟩:=hR j cs hj
     refine⟨b,u,q1,?_,hr _ _ q3⟩
     rw[Array.getElem?_push,if_neg ah];exact q2
    ·rename_i o9
     have gY:j=r.rows.length:=by
      have:=(List.getElem?_eq_some_iff.1 hj).1
      simp at this;omega
     subst gY
     simp at hj
     subst hj
     exact⟨_,_,rfl,by rw[Array.getElem?_push,if_pos NS.symm],hr _ _ ry⟩
  ·cases hv
 ·cases hv
theorem UW {x:O} {g':Rows} {v:AV} (S:gR P hs D ι g w) (hc:sq P o.op=some (.Tl x)) (E:cD P w D ι env a) (hv:dZ g (dc env x)=some (v,g')):
  ∃c cap s r buf z,(execOp a.eval o).run P w=.ok (.comm #[Conc.rcase c z] true (.recv false)) w/\w.heap[c]? =some (.chan cap buf false s r false)/\0<buf.size/\gR P hs D ι g' (w.setChan c cap (buf.extract 1 buf.size) false s (r+1) false)/\Step hs D ι w D ι (w.setChan c cap (buf.extract 1 buf.size) false s (r+1) false)/\dd P (w.setChan c cap (buf.extract 1 buf.size) false s (r+1) false) D ι v (buf.getD 0 undef):=by
 obtain⟨t,dir,e,i0,z,x',ho,ht,hi,hz,hx⟩:=Pq hc
 have rx:=dw E hx
 unfold dZ at hv
 split at hv
 ·rename_i i he
  simp only[Option.bind_eq_some_iff]at hv
  obtain⟨r,hg,hv⟩:=hv
  split at hv
  ·rename_i v' rest pT
   split at hv
   ·rename_i hcond
    simp only[Option.some.injEq,Prod.mk.injEq]at hv
    obtain⟨rfl,rfl⟩:=hv
    obtain⟨B,c,hu,hB,hk,fm,buf,s,q,hb,NS,hR⟩:=Bf S rx he hg
    obtain⟨B',dL,RR,_⟩:=S.row i r hg
    rw[hB]at dL;injection dL with dL;subst dL
    obtain⟨b0,u0,q1,q2,q3⟩:=hR 0 [v'] (by rw[pT];rfl)
    simp only[List.cons.injEq,and_true]at q1
    subst q1
    have jO:0<buf.size:=by rw[NS,pT];simp
    have XV:buf.getD 0 undef=u0:=by rw[Array.getD_eq_getD_getElem?,q2];rfl
    have pa:=S.Kl (ob:=.chan c (buf.extract 1 buf.size) false s (q+1) false) (r':={r with rows:=rest}) hg hcond hB fun hr k8=>⟨RR.sz,fun cs dx=>RR.flat cs (by rw[pT];exact List.mem_cons_of_mem _ dx),fun h0=>(by rw[hk]at h0;cases h0),fun m hm=>(by rw[hk]at hm;cases hm),fun c' k7=>?_⟩
    ·refine⟨B.b,c,s,q,buf,z,?_,hb,jO,pa.1,pa.2,?_⟩
     ·have xV:(zeroValue e).run P w=.ok z w:=by simp[zeroValue,typeInfo,hi,hz]
      simp[execOp,ho,hu,Conc.rcase,run_underlying ht,xV]
     ·rw[XV];exact pa.2.rep q3
    ·rw[hk]at k7
     simp only[Option.some.injEq,BK.chan.injEq]at k7
     subst k7
     refine⟨fm,_,_,_,k8,by simp[NS,pT],fun j cs hj=>?_⟩
     obtain⟨b,u,k1,k2,k3⟩:=hR (j+1) cs (by rw[pT];simpa using hj)
     refine⟨b,u,k1,?_,hr _ _ k3⟩
     have ei:=(Array.getElem?_eq_some_iff.1 k2).1
     rw[Array.getElem?_extract,if_pos ah,Nat.add_comm 1 j];exact k2
   ·cases hv
  ·cases hv
 ·cases hv
theorem ID {ops:Array Oper} {nt site0:Nat} {K:Env->aw->Prop} {Q:Exit->Act->World->Prop}:∀(l:List Oper) (vl:List bx) (j:Nat) (env:Env) (σ:aw) (a:Act) (w:World) (D:Nat->Prop) (ι:Names),
  ops.toList.drop j=l->allM (lP P ops nt site0 false false #[] []) l j=some vl->cz vl K env σ->gR P hs D ι σ.get w->Used ι σ.next (fun _=>False)->cD P w D ι env a->a.tmps.size=nt->
  (∀je σ' a' w' D' ι',K je σ'->Step hs D ι w D' ι' w'->St P hs nt D' ι' je σ' a' w'->a'.defers=a.defers->σ.next<=σ'.next->Q .normal a' w')->zf P ops Q (List.range' j l.length) a w:=by
 intro l
 induction l with
 |nil=>
  intro vl j env σ a w D ι _ h hv S Us E fm hQ
  simp[allM]at h;subst h
  exact Ti (hQ env ⟨σ.get,σ.next+1⟩ a w D ι hv (Step.refl _ _ _ _) ⟨S,Us.next,E,fm⟩ rfl (Nat.le_succ _))
 |cons o l ih=>
  intro vl j env σ a w D ι hl h hv S Us E fm hQ
  simp only[allM,Option.bind_eq_bind,Option.bind_eq_some_iff,Option.pure_def,Option.some.injEq]at h
  obtain⟨vo,lI,u7,ud,rfl⟩:=h
  obtain⟨hc,hd,DT,zp,hg⟩:=qt lI
  obtain⟨VG,hv⟩:=hv
  have ZO:o.guard=none:=by
   split at hg
   ·assumption
   ·obtain⟨t,_,h⟩:=hg
    rw[VG]at h;cases h
  have ZP:ops[j]? =some o:=by
   have h0:=congrArg (fun x=>x[0]?) hl
   rw[<-Array.getElem?_toList]
   simpa[List.getElem?_drop]using h0
  have N5:ops.toList.drop (j+1)=l:=by rw[<-List.drop_drop,hl];rfl
  have go:∀(v:AV) (u:Value) (g2:Rows) (w2:World),cz u7 K (upd env vo.dst v) ⟨g2,σ.next⟩->gR P hs D ι g2 w2->Step hs D ι w D ι w2->dd P w2 D ι v u->zf P ops Q (List.range' (j+1) l.length) (a.put o.dst u) w2:=fun v u g2 w2 hn S2 T hR=>
   ih u7 (j+1) (upd env vo.dst v) ⟨g2,σ.next⟩ (a.put o.dst u) w2 D ι N5 ud hn S2 Us (by rw[hd];exact iX (pJ E T) hR zp fm) (by rw[fh];exact fm) fun je σ2 a' w3 D3 ι3 hk T2 Oh F2 nX=>hQ je σ2 a' w3 D3 ι3 hk (T.trans T2) Oh (F2.trans (put_defers _ _ _)) nX
  rw[show List.range' j (o::l).length=j::List.range' (j+1) l.length from rfl]
  split at hv
  ·rename_i x y ej
   split at hv
   ·rename_i g2 Ur
    rw[ej]at hc
    obtain⟨c,cap,s,r,buf,u,fP,hb,gG,S2,T⟩:=UX S hc E Ur
    exact PU ZP ZO fP hb gG (go _ _ _ _ hv S2 T dd.undef)
   ·exact hv.elim
  ·rename_i x ej
   split at hv
   ·rename_i v g2 Ur
    rw[ej]at hc
    obtain⟨c,cap,s,r,buf,z,fP,hb,DU,S2,T,hR⟩:=UW S hc E Ur
    exact PT ZP ZO fP hb DU (go _ _ _ _ hv S2 T hR)
   ·exact hv.elim
  ·split at hv
   ·rename_i v hq
    obtain⟨u,fP,hR⟩:=AJ hc hq S E
    exact ML ZP ZO fP (go _ _ _ _ hv S (Step.refl _ _ _ _) hR)
   ·exact hv.elim
end
end Go.Proofs.YtgoljkjaameagaaGreat.V

namespace Go.Proofs.YtgoljkjaameagaaGreat.V
open Go.RowKit
variable {P:Program} {w w':World} {D D' D2:Nat->Prop} {ι ι' ι2:Names}
section
variable {hs:Nat} {X:gn}
def W6:Ex->Exit
 | .normal=>.normal
 | .exit id=>.exit id
 | .ret=>.ret
theorem St.drew {nt:Nat} {env:Env} {σ:aw} {a:Act} {D:Nat->Prop} {ι:Names} (h:St P hs nt D ι env σ a w):St P hs nt D ι env σ a w.drew/\Step hs D ι w D ι w.drew:=by
 have T:Step hs D ι w D ι w.drew:=Step.stay h.uU (fun _ _=>rfl) (Nat.le_refl _) rfl rfl rfl (fun _ h=>h) (fun _ h=>.inl h) (fun _ _ h=>h)
 exact⟨⟨h.uU.stay (fun _ _=>rfl) (Nat.le_refl _) (fun _ h=>h) h.uU.dead (fun _ h=>.inl h) (fun _ _ h=>h),h.used,pJ h.env T,h.size⟩,T⟩
def ve (P:Program) (hs nt:Nat) (ds:List Deferred) (Q:Ex->Env->aw->Prop) (n0:Nat) (D:Nat->Prop) (ι:Names) (w:World) (Q':Exit->Act->World->Prop):Prop:=
 ∀ex env σ a w' D' ι',Q ex env σ->Step hs D ι w D' ι' w'->St P hs nt D' ι' env σ a w'->a.defers=ds->n0<=σ.next->Q' (W6 ex) a w'
theorem ve.later {nt:Nat} {ds:List Deferred} {Q:Ex->Env->aw->Prop} {n0 n1:Nat} {Q':Exit->Act->World->Prop} (h:ve P hs nt ds Q n0 D ι w Q') (T:Step hs D ι w D' ι' w') (hn:n0<=n1):ve P hs nt ds Q n1 D' ι' w' Q':=
 fun ex env σ a w2 D2 ι2 hq T2 dC hd hle=>h ex env σ a w2 D2 ι2 hq (T.trans T2) dC hd (Nat.le_trans hn hle)
theorem rN (hm:P.follows .mixedOrders=true) {md:List (Nat×Nat)} {nt fid:Nat}:∀(c:Code) (vc:VC),jK P md nt fid c=some vc->∀(Q:Ex->Env->aw->Prop) (env:Env) (σ:aw) (a:Act) (w:World) (D:Nat->Prop) (ι:Names) (Q':Exit->Act->World->Prop),
  dK (Sound P) vc Q env σ->St P hs nt D ι env σ a w->ve P hs nt a.defers Q σ.next D ι w Q'->CB P c Q' a w:=by
 intro c
 induction c with
 |skip=>
  intro vc h Q env σ a w D ι Q' hv dC hQ
  simp[jK]at h;subst h
  exact lf <| wp_skip (hQ .normal env σ a w D ι hv (Step.refl _ _ _ _) dC rfl (Nat.le_refl _))
 |exit id=>
  intro vc h Q env σ a w D ι Q' hv dC hQ
  simp[jK]at h;subst h
  exact lf <| wp_exit (hQ (.exit id) env σ a w D ι hv (Step.refl _ _ _ _) dC rfl (Nat.le_refl _))
 |ret=>
  intro vc h Q env σ a w D ι Q' hv dC hQ
  simp[jK]at h;subst h
  exact lf <| wp_ret (hQ .ret env σ a w D ι hv (Step.refl _ _ _ _) dC rfl (Nat.le_refl _))
 |seq x y ihx ihy=>
  intro vc h Q env σ a w D ι Q' hv dC hQ
  simp only[jK,Option.bind_eq_bind,Option.bind_eq_some_iff,Option.pure_def,Option.some.injEq]at h
  obtain⟨vx,hx,vy,hy,rfl⟩:=h
  refine mK (ihx vx hx _ env σ a w D ι _ hv dC fun ex jA σ1 a1 w1 D1 ι1 hq T kR hd hle=>?_)
  cases ex with
  |normal=>exact ihy vy hy Q jA σ1 a1 w1 D1 ι1 Q' hq kR (by rw[hd];exact hQ.later T hle)
  |exit id=>exact hQ (.exit id) jA σ1 a1 w1 D1 ι1 hq T kR hd hle
  |ret=>exact hQ .ret jA σ1 a1 w1 D1 ι1 hq T kR hd hle
 |cond c x y ihx ihy=>
  intro vc h Q env σ a w D ι Q' hv dC hQ
  simp only[jK,Option.bind_eq_bind,Option.bind_eq_some_iff,Option.pure_def,Option.some.injEq]at h
  obtain⟨c',hc,vx,hx,vy,hy,rfl⟩:=h
  unfold dK at hv
  have hr:=dw dC.env hc
  split at hv
  ·rename_i b hb
   rw[hb]at hr
   refine yp (fw hr) ?_
   cases b with
   |true=>exact ihx vx hx Q env σ a w D ι Q' hv dC hQ
   |false=>exact ihy vy hy Q env σ a w D ι Q' hv dC hQ
  ·exact hv.elim
 |block id c ih=>
  intro vc h Q env σ a w D ι Q' hv dC hQ
  simp only[jK,Option.map_eq_some_iff]at h
  obtain⟨vx,hx,rfl⟩:=h
  refine uO (ih vx hx _ env σ a w D ι _ hv dC fun ex jA σ1 a1 w1 D1 ι1 hq T kR hd hle=>?_)
  cases ex with
  |normal=>exact hQ .normal jA σ1 a1 w1 D1 ι1 hq T kR hd hle
  |ret=>exact hQ .ret jA σ1 a1 w1 D1 ι1 hq T kR hd hle
  |exit kE=>
   simp only[aZ]at hq
   simp only[W6,Exit.inBlock]
   by_cases hid:kE=id
   ·rw[if_pos hid]at hq ⊢;exact hQ .normal jA σ1 a1 w1 D1 ι1 hq T kR hd hle
   ·rw[if_neg hid]at hq ⊢;exact hQ (.exit kE) jA σ1 a1 w1 D1 ι1 hq T kR hd hle
 |loop c ih=>
  intro vc h Q env σ a w D ι Q' hv dC hQ
  simp only[jK,Option.map_eq_some_iff]at h
  obtain⟨vx,hx,rfl⟩:=h
  obtain⟨n,hv⟩:=hv
  refine Ev n ?_
  have key:∀n env σ a w D ι,HW (dK (Sound P) vx) Q n env σ->St P hs nt D ι env σ a w->ve P hs nt a.defers Q σ.next D ι w Q'->qC P c Q' n a w:=by
   intro n
   induction n with
   |zero=>intro env σ a w D ι h;exact h.elim
   |succ n ihn=>
    intro env σ a w D ι h dC hQ
    refine ih vx hx _ env σ a w D ι _ h dC fun ex jA σ1 a1 w1 D1 ι1 hq T kR hd hle=>?_
    cases ex with
    |normal=>exact ihn jA σ1 a1 w1 D1 ι1 hq kR (by rw[hd];exact hQ.later T hle)
    |exit id=>exact hQ (.exit id) jA σ1 a1 w1 D1 ι1 hq T kR hd hle
    |ret=>exact hQ .ret jA σ1 a1 w1 D1 ι1 hq T kR hd hle
  exact key n env σ a w D ι hv dC hQ
 |region id ops draw=>
  intro vc h Q env σ a w D ι Q' hv dC hQ
  simp only[jK,UU]at h
  split at h
  ·rename_i hmode
   have Zi:draw=true:=by
    simp only[Bool.and_eq_true]at hmode;exact hmode.1
   subst Zi
   split at h
   ·rename_i vl dP
    obtain⟨ta,T0⟩:=dC.drew
    have FX:=Kk (X:=Sound P) lN ops.size _ vc env σ h (fun k i h=>by
     exfalso
     rcases Nat.lt_or_ge k ops.size with hk|hk
     ·simp[hk]at h
     ·simp[Nat.not_lt.2 hk]at h) hv
    refine lf (wp_region_any hm ?_)
    exact Hc dP ops.size _ env σ a w.drew D ι (fun _=>False) FX ta.uU ta.used (fun _ h=>h.elim) ta.env ta.size fun jA σ1 a1 w1 D1 ι1 hk T kR hd hle=>hQ .normal jA σ1 a1 w1 D1 ι1 hk (T0.trans T) kR hd hle
   ·cases h
  split at h
  ·rename_i hcom
   have Zi:draw=false:=by
    simp only[Bool.and_eq_true,Bool.not_eq_true']at hcom;exact hcom.1
   subst Zi
   simp only[Option.map_eq_some_iff]at h
   obtain⟨vl,ud,rfl⟩:=h
   have dP:allM (lP P ops nt ((fid*1000+id)*1000) false false #[] []) ops.toList 0=some vl:=by
    unfold sP at ud
    simp only[Bool.false_eq_true,if_false,Bool.not_false,Bool.true_or,if_true]at ud
    split at ud
    ·rename_i u7 h;simp at ud;subst ud;exact h
    ·cases ud
   refine Gy ?_
   have:=ID (Q:=Q') ops.toList vl 0 env σ a w D ι rfl dP hv dC.uU dC.used dC.env dC.size fun jA σ1 a1 w1 D1 ι1 hk T kR hd hle=>hQ .normal jA σ1 a1 w1 D1 ι1 hk T kR hd hle
   rwa [<-List.range_eq_range',Array.length_toList]at this
  generalize (yl md id==1)=mk at h
  simp only[Option.map_eq_some_iff]at h
  obtain⟨vl,ud,rfl⟩:=h
  cases draw with
  |false=>
   have dP:∃u7,allM (lP P ops nt ((fid*1000+id)*1000) false mk #[] []) ops.toList 0=some u7/\vl=u7:=by
    unfold sP at ud
    simp only[Bool.false_eq_true,if_false,Bool.not_false,Bool.true_or,if_true]at ud
    split at ud
    ·rename_i u7 h;simp at ud;exact⟨u7,h,ud.symm⟩
    ·cases ud
   obtain⟨u7,dP,rfl⟩:=dP
   refine lf (wp_region_list ?_)
   exact AD ops.toList vl 0 env σ a w D ι (fun _=>False) dP hv dC.uU dC.used (fun _ h=>h.elim) dC.env dC.size fun jA σ1 a1 w1 D1 ι1 hk T kR hd hle=>hQ .normal jA σ1 a1 w1 D1 ι1 hk T kR hd hle
  |true=>
   have dP:∃hidden u7,allM (lP P ops nt ((fid*1000+id)*1000) true mk (j3 ops) hidden) ops.toList 0=some u7/\vl=u7/\pI ops u7 (j3 ops)=true:=by
    unfold sP at ud
    simp only[if_true,Bool.not_true,Bool.false_or]at ud
    split at ud
    ·rename_i u7 h
     split at ud
     ·rename_i uG;simp at ud;exact⟨_,u7,h,ud.symm,uG⟩
     ·cases ud
    ·cases ud
   obtain⟨hidden,u7,dP,rfl,uG⟩:=dP
   obtain⟨ta,T0⟩:=dC.drew
   obtain⟨hlen,_⟩:=pw dP
   have lR:vl.length=ops.size:=by rw[hlen];simp
   have FX:=y5 (X:=Sound P) (K:=Q .normal) (n:=σ.next) uG lR vl 0 (Array.replicate ops.size false) env σ.get (by simp) (by simp) (fun i hi=>by simp[hi]) (by simp[lR]) (fun k i h=>by
    exfalso
    rcases Nat.lt_or_ge k ops.size with hk|hk
    ·simp[hk]at h
    ·simp[Nat.not_lt.2 hk]at h) hv
   refine lf (wp_region_any hm ?_)
   rw[lR]at FX
   exact zM dP ops.size _ env σ.get a w.drew D ι (fun _=>False) FX ta.uU ta.used (fun _ h=>h.elim) ta.env ta.size fun jA g1 a1 w1 D1 ι1 U1 hk T S1 Yh E1 w6 hd=>hQ .normal jA ⟨g1,σ.next+1⟩ a1 w1 D1 ι1 hk (T0.trans T) ⟨S1,Yh.next,E1,w6⟩ hd (Nat.le_succ _)
 |_=>
  intro vc h
  simp[jK]at h
def M0 (tmps:Array Value):ResultVar->Sem Value
 | .tmp t=>pure (tmps.getD t undef)
 | .cell a t=>do loadVar t (<-asAddr (tmps.getD a undef))
theorem GK (fn:Func) (tmps:Array Value):results fn tmps=(do
  let vs <-fn.results.mapM (M0 tmps)
  pure (if h:vs.size=1 then vs[0]else .tuple vs)):=by
 unfold results
 congr 2
theorem v7 {nt:Nat} {env:Env} {σ:aw} {a:Act} {D:Nat->Prop} {ι:Names} (dC:St P hs nt D ι env σ a w):∀(rs:List ResultVar) (vr:List oR) (vs:List AV),rs.mapM (FC P)=some vr->fM env σ.get vr=some vs->
  ∃us:List Value,(rs.mapM (M0 a.tmps)).run P w=.ok us w/\us.length=vs.length/\∀(j:Nat) (v:AV),vs[j]? =some v->∃u,us[j]? =some u/\dd P w D ι v u
 |[],vr,vs,h,hv=>by
  simp at h;subst h
  simp[fM]at hv;subst hv
  exact⟨[],by simp,rfl,fun j v h=>by simp at h⟩
 |r::rs,vr,vs,h,hv=>by
  simp only[List.mapM_cons,Option.bind_eq_bind,Option.bind_eq_some_iff]at h
  obtain⟨x,hx,vr',hr,h⟩:=h
  simp at h;subst h
  simp only[fM,Option.bind_eq_some_iff,Option.map_eq_some_iff]at hv
  obtain⟨v,uc,WI,Pj,rfl⟩:=hv
  obtain⟨us,h1,h2,h3⟩:=v7 dC rs vr' WI hr Pj
  have one:∃u,(M0 a.tmps r).run P w=.ok u w/\dd P w D ι v u:=by
   cases r with
   |tmp t=>
    simp[FC]at hx;subst hx
    simp[iU]at uc;subst uc
    exact⟨_,rfl,dC.env t⟩
   |cell b t=>
    simp only[FC,Option.bind_eq_bind,Option.bind_eq_some_iff,Option.pure_def,Option.some.injEq]at hx
    obtain⟨ag,wZ,n,hn,rfl⟩:=hx
    simp only[iU]at uc
    have il:=dC.env b
    unfold ld at uc
    split at uc
    ·rename_i kE i' oo hb
     rw[hb]at il
     obtain⟨B,he,hB,hk⟩:=iN il
     simp only[Option.bind_eq_some_iff]at uc
     obtain⟨cs,dx,hp⟩:=uc
     obtain⟨B',r0,rm,dL,R,hi,fl,f,hf⟩:=M7 (S:=dC.uU) dx (fun B2 h2=>by rw[hB]at h2;injection h2 with h2;subst h2;exact hk)
     rw[hB]at dL;injection dL with dL;subst dL
     obtain⟨u,k1,k2⟩:=lF (w:=w) (b:=B.b) (oo:=i'*B.sz+oo) (f:=fun j=>f (oo+j)) wZ hn hp (fun a ha=>fl a (List.mem_of_mem_drop ha)) (fun j hj=>by
      rw[Nat.add_assoc];exact(hf _ (by simp at hj;omega)).1) (fun j a ha=>by
      simp at ha;exact(hf _ ((List.getElem?_eq_some_iff.1 ha).1)).2 _ ha)
     exact⟨u,by simp only[M0,he,asAddr,Sem.run_bind,Sem.run_pure,Result.andThen_ok,k1],k2⟩
    ·rename_i cs hb
     rw[hb]at il
     obtain⟨b',oo,vs2,he,q1,q2,q3,q4⟩:=lY il
     obtain⟨u,k1,k2⟩:=lF (w:=w) (b:=b') (oo:=oo) (f:=vs2) wZ hn uc q2 q3 (fun j a ha=>.eV _ _ (q4 j a ha))
     exact⟨u,by simp only[M0,he,asAddr,Sem.run_bind,Sem.run_pure,Result.andThen_ok,k1],k2⟩
    ·simp at uc
  obtain⟨u,hu,zw⟩:=one
  refine⟨u::us,?_,by simp[h2],fun j v' hj=>?_⟩
  ·rw[List.mapM_cons]
   simp only[Sem.run_bind,hu,h1,Result.andThen_ok,Sem.run_pure]
  ·cases j with
   |zero=>simp at hj;subst hj;exact⟨u,rfl,zw⟩
   |succ j=>simp at hj ⊢;exact h3 j v' hj
theorem xq {f:Nat} {fn:Func} {c:Code} {args:List AV} {σ:aw} {K:AV->aw->Prop} {vr:List oR} (Ui:P.funcs[f]? =some fn) (hc:fn.body=some c) (hr:fn.results.toList.mapM (FC P)=some vr) (ha:fn.params.size+fn.nfree=args.length) (hle:fn.params.size+fn.nfree<=fn.ntmps)
  (h:∀(hs:Nat) (w:World) (D:Nat->Prop) (ι:Names) (a:Act) (Q':Exit->Act->World->Prop),St P hs fn.ntmps D ι (cr args) σ a w->ve P hs fn.ntmps a.defers (lE vr K) σ.next D ι w Q'->CB P c Q' a w):Sound P f args σ K:=by
 intro hs D ι w vs S Us A
 have fm:vs.size=args.length:=A.1
 refine Be Ui hc ?_
 refine h hs w D ι _ _ ⟨S,Us,fun t=>?_,by simp;omega⟩ fun ex jA σ1 a1 w1 D1 ι1 hq T kR hd hle=>?_
 ·simp only[cr]
  by_cases ei:t<args.length
  ·obtain⟨u,hu,zw⟩:=A.2 t args[t] (List.getElem?_eq_getElem ei)
   have e1:args.getD t .undef=args[t]:=by simp[List.getD_eq_getElem?_getD,ei]
   have e2:(vs++Array.replicate (fn.ntmps-vs.size) undef).getD t undef=u:=by
    simp only[Array.getD_eq_getD_getElem?]
    rw[Array.getElem?_append_left ah,hu];rfl
   rw[e1,e2];exact zw
  ·have e1:args.getD t .undef=.undef:=by simp[List.getD_eq_getElem?_getD,Nat.le_of_not_lt ei]
   have e2:(vs++Array.replicate (fn.ntmps-vs.size) undef).getD t undef=undef:=by
    simp only[Array.getD_eq_getD_getElem?]
    rw[Array.getElem?_append_right ah,Array.getElem?_replicate]
    split<;>rfl
   rw[e1,e2];exact dd.undef
 ·have fin:(∃vs,fM jA σ1.get vr=some vs/\K (fc vs) σ1)->a1.defers=[]/\∃v,(results fn a1.tmps).run P w1=.ok v w1/\∃r g' n' D' ι' u,Ending.returned v=.returned u/\K r ⟨g',n'⟩/\Step hs D ι w D' ι' w1/\gR P hs D' ι' g' w1/\Used ι' n' (fun _=>False)/\σ.next<=n'/\dd P w1 D' ι' r u:=by
   rintro⟨avs,Pj,hK⟩
   obtain⟨us,h1,h2,h3⟩:=v7 kR fn.results.toList vr avs hr Pj
   have SN:(results fn a1.tmps).run P w1=.ok (if h:us.toArray.size=1 then us.toArray[0]else .tuple us.toArray) w1:=by
    rw[GK,Array.mapM_eq_mapM_toList]
    simp only[Sem.run_bind,Sem.run_map,h1,Result.andThen_ok,Sem.run_pure]
   refine⟨hd,_,SN,fc avs,σ1.get,σ1.next,D1,ι1,_,rfl,hK,T,kR.uU,kR.used,hle,?_⟩
   unfold fc
   split
   ·rename_i v
    have hl:us.length=1:=h2
    obtain⟨u,hu,zw⟩:=h3 0 v rfl
    rw[dif_pos (by simpa using hl)]
    have:us.toArray[0]'(by simp[hl])=u:=by
     have:=(List.getElem?_eq_some_iff.1 hu).2
     simpa using this
    rw[this];exact zw
   ·rename_i iD
    rw[dif_neg (by
     simp only[List.size_toArray,h2]
     intro h
     obtain⟨v,hv⟩:=List.length_eq_one_iff.1 h
     exact iD v hv)]
    exact .gJ _ _ (fun j=>us.getD j undef) (by simp[h2]) (fun j hj=>by
     have:j<us.length:=by rw[h2];exact hj
     simp[this]) (fun j v hj=>by
     obtain⟨u,hu,zw⟩:=h3 j v hj
     simpa[List.getD_eq_getElem?_getD,hu]using zw)
  cases ex with
  |normal=>exact fin hq
  |ret=>exact fin hq
  |exit id=>exact hq.elim
theorem Lz (hm:P.follows .mixedOrders=true) {f:Nat} {md:List (Nat×Nat)} {vf:A4} {args:List AV} {σ:aw} {K:AV->aw->Prop} (hf:xt P f md=some vf) (ha:vf.Ay=args.length) (h:dK (Sound P) vf.body (lE vf.res K) (cr args) σ):Sound P f args σ K:=by
 unfold xt at hf
 split at hf
 ·rename_i fn Ui
  split at hf
  ·rename_i c hc
   simp only[Option.bind_eq_bind,Option.bind_eq_some_iff]at hf
   obtain⟨vb,hb,vr,hr,hf⟩:=hf
   split at hf
   ·rename_i hle
    simp only[Option.pure_def,Option.some.injEq]at hf
    subst hf
    simp only at ha h
    exact xq Ui hc hr ha hle fun hs w D ι a Q' dC hQ=>rN hm c vb hb (lE vr K) (cr args) σ a w D ι Q' h dC hQ
   ·simp at hf
  ·simp at hf
 ·simp at hf
def Rc (P:Program) (X:gn):gn:=fun f args σ K=>(∃md vf,xt P f md=some vf/\vf.Ay=args.length/\((∀a∈args,eY a)->dK X vf.body (lE vf.res K) (cr args) σ))∨Sound P f args σ K
def Call (P:Program):gn:=fun f args σ K=>∀X:gn,rh X->(∀f args σ K,Rc P X f args σ K->X f args σ K)->X f args σ K
theorem gS (hm:P.follows .mixedOrders=true) {f:Nat} {args:List AV} {σ:aw} {K:AV->aw->Prop} (h:Call P f args σ K):Sound P f args σ K:=
 h (Sound P) lN fun f args σ K hs=>by
  rcases hs with⟨md,vf,h1,h2,h3⟩|h
  ·intro hs D ι w vs S U A
   exact Lz hm h1 h2 (h3 (p4 fun j a hj=>by obtain⟨u,_,hr⟩:=A.2 j a hj;exact hr.Mp)) hs D ι w vs S U A
  ·exact h
end
end Go.Proofs.YtgoljkjaameagaaGreat.V

namespace Go.Proofs.YtgoljkjaameagaaGreat.V
open Go.RowKit
variable {P:Program} {X Y:gn}
theorem KM (h:∀f args σ K,X f args σ K->Y f args σ K) {f:Nat} {args:List AV} {σ:aw} {K:AV->Prop} (hp:gw X f args σ K):gw Y f args σ K:=by
 rcases hp with hp|⟨a,h1,h2⟩
 ·exact .inl (h _ _ _ _ hp)
 ·exact .inr ⟨a,h1,h _ _ _ _ h2⟩
theorem Od (h:∀f args σ K,X f args σ K->Y f args σ K) {f:Nat} {args:List AV} {σ:aw} {sz:Nat} {rows:List (List AV)} (hp:CM X f args σ sz rows):CM Y f args σ sz rows:=by
 obtain⟨h1,a,h2,h3⟩:=hp
 exact⟨h1,a,h2,h _ _ _ _ h3⟩
theorem rL (h:∀f args σ K,X f args σ K->Y f args σ K) (hK:∀f args σ K K',(∀r σ',K r σ'->K' r σ')->Y f args σ K->Y f args σ K') {draw:Bool} {hid:List Nat} {site:Nat} {f:Nat} {args:List AV} {σ:aw} {n n':AV->aw->Prop} (hn:∀v σ',n v σ'->n' v σ') (hp:cE X draw hid site f args σ n):cE Y draw hid site f args σ n':=by
 rcases hp with⟨r,h1,h2⟩|⟨h1,h2⟩|⟨h1,sz,rows,h2,h3⟩
 ·exact .inl ⟨r,KM h h1,hn _ _ h2⟩
 ·exact .inr (.inl ⟨h1,hK _ _ _ _ _ hn (h _ _ _ _ h2)⟩)
 ·exact .inr (.inr ⟨h1,sz,rows,Od h h2,hn _ _ h3⟩)
theorem tR (h:∀f args σ K,X f args σ K->Y f args σ K) (hK:∀f args σ K K',(∀r σ',K r σ'->K' r σ')->Y f args σ K->Y f args σ K') {draw:Bool} {o:bx} {env:Env} {σ:aw} {n n':AV->aw->Prop} (hn:∀v σ',n v σ'->n' v σ') (hp:fE X draw o env σ n):fE Y draw o env σ n':=by
 unfold fE at hp ⊢
 split at hp
 ·exact rL h hK hn hp
 ·split at hp
  ·exact rL h hK hn hp
  ·exact rL h hK hn hp
  ·exact hp.elim
 ·split at hp
  ·exact hn _ _ hp
  ·exact hp.elim
 ·split at hp
  ·exact hn _ _ hp
  ·exact hp.elim
 ·split at hp
  ·exact hn _ _ hp
  ·exact hp.elim
 ·split at hp
  ·exact hn _ _ hp
  ·exact hp.elim
 ·split at hp
  ·exact hn _ _ hp
  ·exact hp.elim
 ·split at hp
  ·exact hn _ _ hp
  ·exact hn _ _ hp
  ·exact hp.elim
theorem l9 (h:∀f args σ K,X f args σ K->Y f args σ K) (hK:∀f args σ K K',(∀r σ',K r σ'->K' r σ')->Y f args σ K->Y f args σ K') {draw:Bool} {Q Q':Env->aw->Prop} (hQ:∀e s,Q e s->Q' e s):∀(l:List bx) (env:Env) (σ:aw),wpOps X draw l Q env σ->wpOps Y draw l Q' env σ
 |[],env,σ,hp=>hQ _ _ hp
 |o::r,env,σ,hp=>by
  unfold wpOps at hp ⊢
  split at hp
  ·rename_i hw;rw[if_pos hw];exact tR h hK (fun v σ'=>l9 h hK hQ r _ _) hp
  ·rename_i hw;rw[if_neg hw];exact l9 h hK hQ r _ _ hp
theorem oD {Q Q':Env->aw->Prop} (hQ:∀e s,Q e s->Q' e s):∀(l:List bx) (env:Env) (σ:aw),cz l Q env σ->cz l Q' env σ
 |[],env,σ,hp=>hQ _ _ hp
 |o::r,env,σ,hp=>by
  unfold cz at hp ⊢
  refine⟨hp.1,?_⟩
  replace hp:=hp.2
  split at hp
  ·split at hp
   ·exact oD hQ r _ _ hp
   ·exact hp.elim
  ·split at hp
   ·exact oD hQ r _ _ hp
   ·exact hp.elim
  ·split at hp
   ·exact oD hQ r _ _ hp
   ·exact hp.elim
theorem jW (h:∀f args σ K,X f args σ K->Y f args σ K) (hK:∀f args σ K K',(∀r σ',K r σ'->K' r σ')->Y f args σ K->Y f args σ K'):∀(c:VC) (Q Q':Ex->Env->aw->Prop) (env:Env) (σ:aw),(∀x e s,Q x e s->Q' x e s)->dK X c Q env σ->dK Y c Q' env σ:=by
 intro c
 induction c with
 |skip=>intro Q Q' env σ hQ hp;exact hQ _ _ _ hp
 |exit id=>intro Q Q' env σ hQ hp;exact hQ _ _ _ hp
 |ret=>intro Q Q' env σ hQ hp;exact hQ _ _ _ hp
 |one o c ih=>
  intro Q Q' env σ hQ hp
  unfold dK at hp ⊢
  split at hp
  ·rename_i hw;rw[if_pos hw];exact tR h hK (fun v σ'=>ih Q Q' _ _ hQ) hp
  ·rename_i hw;rw[if_neg hw];exact ih Q Q' _ _ hQ hp
 |both a b iha ihb=>intro Q Q' env σ hQ hp;exact⟨iha Q Q' env σ hQ hp.1,ihb Q Q' env σ hQ hp.2⟩
 |loc t s y c ih=>intro Q Q' env σ hQ hp;exact⟨hp.1,ih Q Q' env σ hQ hp.2⟩
 |RI ops=>intro Q Q' env σ hQ hp;exact oD (hQ .normal) ops env σ hp
 |eQ draw ops=>intro Q Q' env σ hQ hp;exact l9 h hK (hQ .normal) ops env σ hp
 |seq a b iha ihb=>
  intro Q Q' env σ hQ hp
  refine iha _ _ env σ (fun x e s hx=>?_) hp
  cases x with
  |normal=>exact ihb Q Q' e s hQ hx
  |exit id=>exact hQ _ _ _ hx
  |ret=>exact hQ _ _ _ hx
 |cond c a b iha ihb=>
  intro Q Q' env σ hQ hp
  unfold dK at hp ⊢
  split at hp
  ·rename_i t ht
   cases t with
   |true=>exact iha Q Q' env σ hQ hp
   |false=>exact ihb Q Q' env σ hQ hp
  ·exact hp.elim
 |block id a iha=>
  intro Q Q' env σ hQ hp
  refine iha _ _ env σ (fun x e s hx=>?_) hp
  cases x with
  |normal=>exact hQ _ _ _ hx
  |ret=>exact hQ _ _ _ hx
  |exit kE=>
   unfold aZ at hx ⊢
   dsimp only at hx ⊢
   split at hx
   ·rename_i hid;rw[if_pos hid];exact hQ _ _ _ hx
   ·rename_i hid;rw[if_neg hid];exact hQ _ _ _ hx
 |loop a iha=>
  intro Q Q' env σ hQ hp
  obtain⟨n,hp⟩:=hp
  refine⟨n,?_⟩
  induction n generalizing env σ with
  |zero=>exact hp
  |succ n ihn=>
   refine iha _ _ env σ (fun x e s hx=>?_) hp
   cases x with
   |normal=>exact ihn e s hx
   |exit id=>exact hQ _ _ _ hx
   |ret=>exact hQ _ _ _ hx
theorem aI:rh (Call P):=fun _ _ _ _ _ hK h X hX hc=>hX _ _ _ _ _ hK (h X hX hc)
theorem zK {f:Nat} {args:List AV} {σ:aw} {K:AV->aw->Prop} (h:Rc P (Call P) f args σ K):Call P f args σ K:=by
 intro X hX hc
 refine hc _ _ _ _ ?_
 rcases h with⟨md,vf,h1,h2,h3⟩|h
 ·exact .inl ⟨md,vf,h1,h2,fun hl=>jW (fun f args σ K h=>h X hX hc) hX _ _ _ _ _ (fun _ _ _ h=>h) (h3 hl)⟩
 ·exact .inr h
theorem xf {f:Nat} {md:List (Nat×Nat)} {args:List AV} {σ:aw} {K:AV->aw->Prop} {vf:A4} (hf:xt P f md=some vf) (ha:vf.Ay=args.length) (h:(∀a∈args,eY a)->dK (Call P) vf.body (lE vf.res K) (cr args) σ):Call P f args σ K:=
 zK (.inl ⟨md,vf,hf,ha,h⟩)
theorem nk {f:Nat} {args:List AV} {σ:aw} {K:AV->aw->Prop} {vf:A4} (hf:nK P f=some vf) (ha:vf.Ay=args.length) (h:(∀a∈args,eY a)->dK (Call P) vf.body (lE vf.res K) (cr args) σ):Call P f args σ K:=
 xf hf ha h
theorem fN {f:Nat} {args:List AV} {σ:aw} {K:AV->aw->Prop} (h:Sound P f args σ K):Call P f args σ K:=zK (.inr h)
def lv (P:Program) (f:Nat) (args:List AV) (r:AV):Prop:=∀σ,PC (Call P) f args σ (fun r'=>r'=r)
theorem lv.body {f:Nat} {args:List AV} {r:AV} {nt na:Nat} {body:VC} {res:List oR} (hf:nK P f=some ⟨nt,na,body,res⟩) (ha:na=args.length) (h:(∀a∈args,eY a)->∀σ:aw,dK (Call P) body (lE res fun r0 σ'=>∃r',fz σ'.get 6 r0=some r'/\r'=r) (cr args) ⟨V.ro σ.get,σ.next⟩):lv P f args r:=fun σ=>nk hf ha fun hl=>h hl σ
variable {Q:Ex->Env->aw->Prop} {K:Env->aw->Prop} {env:Env} {σ:aw}
theorem EY {a b:VC} (h:∀N:Env->aw->Prop,(∀e s,dK X b Q e s->N e s)->dK X a (dj N Q) env σ):dK X (.seq a b) Q env σ:=h _ fun _ _ h=>h
theorem Cy (h:Q .normal env σ):dK X .skip Q env σ:=h
theorem Cw {id:Nat} (h:Q (.exit id) env σ):dK X (.exit id) Q env σ:=h
theorem Ik (h:Q .ret env σ):dK X .ret Q env σ:=h
theorem xb {id:Nat} {c:VC} (h:dK X c (aZ id Q) env σ):dK X (.block id c) Q env σ:=h
theorem Ii {o:bx} {c:VC} (h:∀N:AV->aw->Prop,(∀v s,dK X c Q (upd env o.dst v) s->N v s)->if aM o.guard env then fE X false o env σ N else N .undef σ):dK X (.one o c) Q env σ:=by
 have:=h (fun v s=>dK X c Q (upd env o.dst v) s) fun _ _ h=>h
 unfold dK
 split
 ·rename_i hw;rw[if_pos hw]at this;exact this
 ·rename_i hw;rw[if_neg hw]at this;exact this
def ec (s n:Nat):AV->Prop
 | .own id 0 _=>id=⟨s,n⟩
 |_=>False
def eh (n:Nat):AV->Prop
 | .own id _ _=>¬id.bj=n
 |_=>True
theorem Cx {t s:Nat} {y:O} {c:VC} (h1:ec s σ.next (env t)) (h2:eh σ.next (dc env y)) (h:dK X c Q env σ):dK X (.loc t s y c) Q env σ:=by
 refine⟨⟨?_,fun id o l he=>?_⟩,h⟩
 ·revert h1
  unfold ec
  split
  ·rename_i id l he;rintro rfl;exact⟨l,he⟩
  ·exact fun h=>h.elim
 ·rw[he]at h2;exact h2
theorem fD {a b:VC} (ha:dK X a Q env σ) (hb:dK X b Q env σ):dK X (.both a b) Q env σ:=⟨ha,hb⟩
theorem Ij {draw:Bool} {ops:List bx} (h:∀N:Env->aw->Prop,(∀e s,Q .normal e s->N e s)->wpOps X draw ops N env σ):dK X (.eQ draw ops) Q env σ:=h _ fun _ _ h=>h
theorem NH {ops:List bx} (h:cz ops (Q .normal) env σ):dK X (.RI ops) Q env σ:=h
theorem EX {draw:Bool} (h:K env ⟨σ.get,σ.next+1⟩):wpOps X draw [] K env σ:=h
theorem TG {draw:Bool} {o:bx} {r:List bx} (h:∀N:AV->aw->Prop,(∀v s,wpOps X draw r K (upd env o.dst v) s->N v s)->if aM o.guard env then fE X draw o env σ N else N .undef σ):wpOps X draw (o::r) K env σ:=by
 have:=h (fun v s=>wpOps X draw r K (upd env o.dst v) s) fun _ _ h=>h
 unfold wpOps
 split
 ·rename_i hw;rw[if_pos hw]at this;exact this
 ·rename_i hw;rw[if_neg hw]at this;exact this
theorem NI {c:O} {x y:VC} {b:Bool} (hc:dc env c=.bool b) (ht:b=true->dK X x Q env σ) (hf:b=false->dK X y Q env σ):dK X (.cond c x y) Q env σ:=by
 unfold dK
 simp only[hc]
 cases b with
 |true=>exact ht rfl
 |false=>exact hf rfl
inductive ph:AV->Prop->Prop->Prop
 |t {A B:Prop}:A->ph (.bool true) A B
 |f {A B:Prop}:B->ph (.bool false) A B
theorem xc {c:O} {x y:VC} {v:AV} (hv:dc env c=v) (h:ph v (dK X x Q env σ) (dK X y Q env σ)):dK X (.cond c x y) Q env σ:=by
 cases h with
 |t h=>exact NI hv (fun _=>h) (fun e=>by cases e)
 |f h=>exact NI hv (fun e=>by cases e) (fun _=>h)
theorem TF {c:VC} (I:Nat->Env->aw->Prop) (n:Nat) (h0:I n env σ) (step:∀n env σ,I n env σ->dK X c (fun x e s=>match x with| .normal=>∃m,m<n/\I m e s|x=>Q x e s) env σ)
  (hX:∀(c:VC) (Q Q':Ex->Env->aw->Prop) env σ,(∀x e s,Q x e s->Q' x e s)->dK X c Q env σ->dK X c Q' env σ):dK X (.loop c) Q env σ:=by
 have key:∀N n env σ,n<N->I n env σ->HW (dK X c) Q N env σ:=by
  intro N
  induction N with
  |zero=>intro n env σ h;exact absurd h (Nat.not_lt_zero _)
  |succ N ih=>
   intro n env σ hn hI
   refine hX c _ _ env σ (fun x e s hx=>?_) (step n env σ hI)
   cases x with
   |normal=>obtain⟨m,hm,YY⟩:=hx;exact ih m e s ah YY
   |exit id=>exact hx
   |ret=>exact hx
 exact⟨n+1,key _ n env σ (Nat.lt_succ_self _) h0⟩
theorem Qj {c:VC} (I:Nat->Env->aw->Prop) (n:Nat) (h0:I n env σ) (step:∀n env σ,I n env σ->dK (Call P) c (fun x e s=>match x with| .normal=>∃m,m<n/\I m e s|x=>Q x e s) env σ):dK (Call P) (.loop c) Q env σ:=
 TF I n h0 step fun c Q Q' env σ hQ h=>jW (fun _ _ _ _ h=>h) aI c Q Q' env σ hQ h
def zN:VC->List Nat
 | .eQ _ ops=>ops.filterMap (·.dst)
 | .seq a b=>zN a++zN b
 | .cond _ a b=>zN a++zN b
 | .block _ a=>zN a
 | .loop a=>zN a
 | .one o c=>o.dst.toList++zN c
 | .both a b=>zN a++zN b
 | .loc _ _ _ c=>zN c
 | .RI ops=>ops.filterMap (·.dst)
 |_=>[]
def jr (l:List Nat) (env je:Env):Prop:=∀t,l.contains t=false->je t=env t
theorem jr.refl (l:List Nat) (env:Env):jr l env env:=fun _ _=>rfl
theorem jr.upd {l:List Nat} {e e':Env} {d:Option Nat} {v:AV} (h:jr l e e') (hd:∀t,d=some t->t∈l):jr l e (upd e' d v):=fun t ht=>by
 cases d with
 |none=>exact h t ht
 |some d=>
  have:t≠d:=fun hc=>by subst hc;rw[<-Bool.not_eq_true,List.contains_iff_mem]at ht;exact ht (hd _ rfl)
  show(if t=d then v else e' t)=e t
  rw[if_neg this];exact h t ht
theorem qn {draw:Bool} {Q:Env->aw->Prop} {l:List Nat} {e0:Env}:∀(ops:List bx) (env:Env) (σ:aw),(∀t,t∈ops.filterMap (·.dst)->t∈l)->jr l e0 env->wpOps (Call P) draw ops Q env σ->wpOps (Call P) draw ops (fun e s=>Q e s/\jr l e0 e) env σ
 |[],env,σ,_,hk,hp=>⟨hp,hk⟩
 |o::r,env,σ,hl,hk,hp=>by
  have hd:∀t,o.dst=some t->t∈l:=fun t ht=>hl t (List.mem_filterMap.2 ⟨o,by simp,ht⟩)
  have hr:∀t,t∈r.filterMap (·.dst)->t∈l:=fun t ht=>hl t (by
   obtain⟨x,hx,h⟩:=List.mem_filterMap.1 ht
   exact List.mem_filterMap.2 ⟨x,List.mem_cons_of_mem _ hx,h⟩)
  unfold wpOps at hp ⊢
  split at hp
  ·rename_i hw;rw[if_pos hw]
   exact tR (fun _ _ _ _ h=>h) aI (fun v σ' h=>qn r _ _ hr (hk.upd hd) h) hp
  ·rename_i hw;rw[if_neg hw];exact qn r _ _ hr (hk.upd hd) hp
theorem mM {Q:Env->aw->Prop} {l:List Nat} {e0:Env}:∀(ops:List bx) (env:Env) (σ:aw),(∀t,t∈ops.filterMap (·.dst)->t∈l)->jr l e0 env->cz ops Q env σ->cz ops (fun e s=>Q e s/\jr l e0 e) env σ
 |[],env,σ,_,hk,hp=>⟨hp,hk⟩
 |o::r,env,σ,hl,hk,hp=>by
  have hd:∀t,o.dst=some t->t∈l:=fun t ht=>hl t (List.mem_filterMap.2 ⟨o,by simp,ht⟩)
  have hr:∀t,t∈r.filterMap (·.dst)->t∈l:=fun t ht=>hl t (by
   obtain⟨x,hx,h⟩:=List.mem_filterMap.1 ht
   exact List.mem_filterMap.2 ⟨x,List.mem_cons_of_mem _ hx,h⟩)
  unfold cz at hp ⊢
  refine⟨hp.1,?_⟩
  replace hp:=hp.2
  split at hp
  ·split at hp
   ·exact mM r _ _ hr (hk.upd hd) hp
   ·exact hp.elim
  ·split at hp
   ·exact mM r _ _ hr (hk.upd hd) hp
   ·exact hp.elim
  ·split at hp
   ·exact mM r _ _ hr (hk.upd hd) hp
   ·exact hp.elim
theorem AX {l:List Nat} {e0:Env}:∀(c:VC) (Q:Ex->Env->aw->Prop) (env:Env) (σ:aw),(∀t,t∈zN c->t∈l)->jr l e0 env->dK (Call P) c Q env σ->dK (Call P) c (fun x e s=>Q x e s/\jr l e0 e) env σ:=by
 intro c
 induction c with
 |skip=>intro Q env σ _ hk hp;exact⟨hp,hk⟩
 |exit id=>intro Q env σ _ hk hp;exact⟨hp,hk⟩
 |ret=>intro Q env σ _ hk hp;exact⟨hp,hk⟩
 |one o c ih=>
  intro Q env σ hl hk hp
  have hd:∀t,o.dst=some t->t∈l:=fun t ht=>hl t (List.mem_append_left _ (by rw[ht];simp))
  have hr:∀t,t∈zN c->t∈l:=fun t ht=>hl t (List.mem_append_right _ ht)
  unfold dK at hp ⊢
  split at hp
  ·rename_i hw;rw[if_pos hw]
   exact tR (fun _ _ _ _ h=>h) aI (fun v σ' h=>ih Q _ _ hr (hk.upd hd) h) hp
  ·rename_i hw;rw[if_neg hw];exact ih Q _ _ hr (hk.upd hd) hp
 |both a b iha ihb=>
  intro Q env σ hl hk hp
  exact⟨iha Q env σ (fun t ht=>hl t (List.mem_append_left _ ht)) hk hp.1,ihb Q env σ (fun t ht=>hl t (List.mem_append_right _ ht)) hk hp.2⟩
 |loc t s y c ih=>intro Q env σ hl hk hp;exact⟨hp.1,ih Q env σ hl hk hp.2⟩
 |RI ops=>intro Q env σ hl hk hp;exact mM ops env σ hl hk hp
 |eQ draw ops=>intro Q env σ hl hk hp;exact qn ops env σ hl hk hp
 |seq a b iha ihb=>
  intro Q env σ hl hk hp
  refine jW (fun _ _ _ _ h=>h) aI a _ _ env σ (fun x e s hx=>?_) (iha _ env σ (fun t ht=>hl t (List.mem_append_left _ ht)) hk hp)
  cases x with
  |normal=>exact ihb Q e s (fun t ht=>hl t (List.mem_append_right _ ht)) hx.2 hx.1
  |exit id=>exact hx
  |ret=>exact hx
 |cond c a b iha ihb=>
  intro Q env σ hl hk hp
  unfold dK at hp ⊢
  split at hp
  ·rename_i t ht
   cases t with
   |true=>exact iha Q env σ (fun t ht=>hl t (List.mem_append_left _ ht)) hk hp
   |false=>exact ihb Q env σ (fun t ht=>hl t (List.mem_append_right _ ht)) hk hp
  ·exact hp.elim
 |block id a iha=>
  intro Q env σ hl hk hp
  refine jW (fun _ _ _ _ h=>h) aI a _ _ env σ (fun x e s hx=>?_) (iha _ env σ hl hk hp)
  obtain⟨hx,DJ⟩:=hx
  cases x with
  |normal=>exact⟨hx,DJ⟩
  |ret=>exact⟨hx,DJ⟩
  |exit kE=>
   unfold aZ at hx ⊢
   dsimp only at hx ⊢
   split at hx
   ·rename_i hid;rw[if_pos hid];exact⟨hx,DJ⟩
   ·rename_i hid;rw[if_neg hid];exact⟨hx,DJ⟩
 |loop a iha=>
  intro Q env σ hl hk hp
  obtain⟨n,hp⟩:=hp
  refine⟨n,?_⟩
  induction n generalizing env σ with
  |zero=>exact hp
  |succ n ihn=>
   refine jW (fun _ _ _ _ h=>h) aI _ _ _ _ _ (fun x e s hx=>?_) (iha _ env σ hl hk hp)
   obtain⟨hx,DJ⟩:=hx
   cases x with
   |normal=>exact ihn e s DJ hx
   |exit id=>exact⟨hx,DJ⟩
   |ret=>exact⟨hx,DJ⟩
theorem aQ {c:VC} (I:Nat->Env->aw->Prop) (n:Nat) (h0:I n env σ) (step:∀n e s,I n e s->jr (zN c) env e->dK (Call P) c (fun x e s=>match x with| .normal=>∃m,m<n/\I m e s|x=>Q x e s) e s):dK (Call P) (.loop c) Q env σ:=by
 refine Qj (fun n e s=>I n e s/\jr (zN c) env e) n ⟨h0,jr.refl _ _⟩ fun n e s hI=>?_
 refine jW (fun _ _ _ _ h=>h) aI _ _ _ _ _ (fun x e' s' hx=>?_) (AX c _ e s (fun _ h=>h) hI.2 (step n e s hI.1 hI.2))
 obtain⟨hx,hk⟩:=hx
 cases x with
 |normal=>obtain⟨m,hm,h⟩:=hx;exact⟨m,hm,h,hk⟩
 |exit id=>exact hx
 |ret=>exact hx
theorem NK {k:Nat} (h:k<=9223372036854775807):IntKind.i64.wrap (k:Int)=k:=by rw[IntKind.wrap_i64];omega
theorem bq {z:Int} (h: -9223372036854775808<=z/\z<=9223372036854775807):IntKind.i64.wrap z=z:=by rw[IntKind.wrap_i64];omega
theorem ay {k:Nat} (h:(k:Int)+1<=9223372036854775807):IntKind.i64.wrap ((k:Int)+1)=((k+1:Nat):Int):=by rw[IntKind.wrap_i64];omega
theorem all_succ {k:Nat} {p:Nat->Prop} (h:∀j,j<k->p j) (hk:p k):∀j,j<k+1->p j:=fun j hj=>by
 by_cases Ah:j=k
 ·subst Ah;exact hk
 ·exact h j ah
theorem aH (g:Rows) (n:Nat) (k:IntKind) (m:Int):fz g (n+1) (.int k m)=some (.int k m):=by rw[fz]<;>intros<;>simp_all
theorem bh (g:Rows) (n:Nat) (b:Bool):fz g (n+1) (.bool b)=some (.bool b):=by rw[fz]<;>intros<;>simp_all
theorem bz (g:Rows) (n:Nat) (b:ByteArray):fz g (n+1) (.str b)=some (.str b):=by rw[fz]<;>intros<;>simp_all
theorem ck (g:Rows) (n:Nat) (l:List (List AV)):fz g (n+1) (.sl l)=some (.sl l):=by rw[fz]<;>intros<;>simp_all
theorem aV (g:Rows) (n:Nat):fz g (n+1) .bI=some .bI:=by rw[fz]<;>intros<;>simp_all
theorem Ww {t:Nat} {r r0:AV} {x:Ex} (hx:x=.ret∨x=.normal) (he:env t=r0) (hz:fz σ.get 6 r0=some r):lE [.tmp t] (fun r0 σ'=>∃r',fz σ'.get 6 r0=some r'/\r'=r) x env σ:=by
 have:∃vs,fM env σ.get [.tmp t]=some vs/\∃r',fz σ.get 6 (fc vs)=some r'/\r'=r:=⟨[env t],rfl,r,by subst he;exact hz,rfl⟩
 rcases hx with rfl|rfl
 ·exact this
 ·exact this
def au (P:Program) (f:Nat) (args:List AV) (r:AV):Prop:=∀n:Nat,Call P f args ⟨fun _=>none,n⟩ fun r0 σ'=>∃r',gF σ'.get 6 r0=some r'/\r'=r
theorem au.body {f:Nat} {args:List AV} {r:AV} {nt na:Nat} {body:VC} {res:List oR} (hf:nK P f=some ⟨nt,na,body,res⟩) (ha:na=args.length) (h:(∀a∈args,eY a)->∀n:Nat,dK (Call P) body (lE res fun r0 σ'=>∃r',gF σ'.get 6 r0=some r'/\r'=r) (cr args) ⟨fun _=>none,n⟩):au P f args r:=fun n=>nk hf ha fun hl=>h hl n
theorem au.x {f:Nat} {args args':List AV} {r:AV} (h:au P f args' r) {σ:aw} (hv:cZ (dH σ.get) 6 args=some args'):gw (Call P) f args σ (fun r'=>r'=r):=.inr ⟨args',hv,h _⟩
theorem lv.x {f:Nat} {args:List AV} {r:AV} (h:lv P f args r) (σ:aw):gw (Call P) f args σ (fun r'=>r'=r):=.inl (h σ)
theorem eO (g:Rows) (n:Nat) (k:IntKind) (m:Int):gF g (n+1) (.int k m)=some (.int k m):=by rw[gF]<;>intros<;>simp_all
theorem fW (g:Rows) (n:Nat) (b:Bool):gF g (n+1) (.bool b)=some (.bool b):=by rw[gF]<;>intros<;>simp_all
theorem OK (g:Rows) (n:Nat) (b:ByteArray):gF g (n+1) (.str b)=some (.str b):=by rw[gF]<;>intros<;>simp_all
theorem kO (g:Rows) (n:Nat):gF g (n+1) .bI=some .bI:=by rw[gF]<;>intros<;>simp_all
theorem fH (g:Rows) (n:Nat) (l:List AV):gF g (n+1) (.gJ l)=(ep g n l).map AV.gJ:=by rw[gF]
theorem Br (g:Rows) (n:Nat) (l:List AV):gF g (n+1) (.agg l)=(ep g n l).map AV.agg:=by rw[gF]
theorem qv {g:Rows} {n:Nat} {id:Id} {off len sz:Nat} {rows rows':List (List AV)} (h:g id=some ⟨true,sz,rows⟩) (hl:off+len<=rows.length) (hr:gN g n ((rows.drop off).take len)=some rows'):gF g (n+1) (.own id off len)=some (.sl rows'):=by
 rw[gF];simp only[h,if_true,if_pos hl,hr,Option.map_some]
theorem cF (g:Rows) (n:Nat):ep g n []=some []:=by rw[ep]
theorem bW (g:Rows) (n:Nat) (a:AV) (l:List AV):ep g n (a::l)=match gF g n a with
  |some b=>(ep g n l).map (b::·)
  |none=>none:=by rw[ep];cases gF g n a<;>rfl
theorem vz {g:Rows} {n:Nat}:∀{l:List (List AV)},(∀c∈l,ep g n c=some c)->gN g n l=some l
 |[],_=>by rw[gN]
 |c::r,h=>by rw[gN,h c (by simp),vz fun d hd=>h d (List.mem_cons_of_mem _ hd)];rfl
theorem bd (g:Rows) (n:Nat) (l:List AV):fz g (n+1) (.agg l)=(cZ g n l).map AV.agg:=by rw[fz]
theorem aX (g:Rows) (n:Nat) (l:List AV):fz g (n+1) (.dn l)=some (.dn l):=by rw[fz]<;>intros<;>simp_all
theorem rT {g:Rows} {n:Nat} {id:Id} {i off sz:Nat} {rows:List (List AV)} {cs rl:List AV} (h:g id=some ⟨true,sz,rows⟩) (hi:rows[i]? =some cs) (hr:cZ g n (cs.drop off)=some rl):fz g (n+1) (.ptr id i off)=some (.dn rl):=by
 rw[fz];simp only[h,if_true,hi,hr,Option.map_some]
theorem ar (g:Rows) (n:Nat):cZ g n []=some []:=by rw[cZ]
theorem aj (g:Rows) (n:Nat) (a:AV) (l:List AV):cZ g n (a::l)=match fz g n a with
  |some b=>(cZ g n l).map (b::·)
  |none=>none:=by rw[cZ];cases fz g n a<;>rfl
theorem yL {t:Nat} {r r0:AV} {x:Ex} (hx:x=.ret∨x=.normal) (he:env t=r0) (hz:gF σ.get 6 r0=some r):lE [.tmp t] (fun r0 σ'=>∃r',gF σ'.get 6 r0=some r'/\r'=r) x env σ:=by
 have:∃vs,fM env σ.get [.tmp t]=some vs/\∃r',gF σ.get 6 (fc vs)=some r'/\r'=r:=⟨[env t],rfl,r,by subst he;exact hz,rfl⟩
 rcases hx with rfl|rfl
 ·exact this
 ·exact this
theorem bp {t:Nat} {b c:Bool} {x:Ex} (hx:x=.ret∨x=.normal) (he:env t=.bool b) (hb:b=c):lE [.tmp t] (fun r0 σ'=>∃r',gF σ'.get 6 r0=some r'/\r'=.bool c) x env σ:=yL hx he (by rw[fW,hb])
theorem da {t:Nat} {k:IntKind} {b c:Int} {x:Ex} (hx:x=.ret∨x=.normal) (he:env t=.int k b) (hb:b=c):lE [.tmp t] (fun r0 σ'=>∃r',gF σ'.get 6 r0=some r'/\r'=.int k c) x env σ:=yL hx he (by rw[eO,hb])
theorem jU {t u:Nat} {r r1 r2:AV} {x:Ex} (hx:x=.ret∨x=.normal) (h1:env t=r1) (h2:env u=r2) (hz:gF σ.get 6 (.gJ [r1,r2])=some r):lE [.tmp t,.tmp u] (fun r0 σ'=>∃r',gF σ'.get 6 r0=some r'/\r'=r) x env σ:=by
 have:∃vs,fM env σ.get [.tmp t,.tmp u]=some vs/\∃r',gF σ.get 6 (fc vs)=some r'/\r'=r:=⟨[env t,env u],rfl,r,by subst h1;subst h2;exact hz,rfl⟩
 rcases hx with rfl|rfl
 ·exact this
 ·exact this
structure Pn (p:Prop):Prop where
 out:p
theorem tw {A B:Prop} (a:A) (b:B):A/\B:=⟨a,b⟩
theorem wk {A R G:Prop} (a:A) (r:R) (h:A->R->G:=by
  intro fL kk
  (repeat(refine Pn.mk ?_;intro N hN))
  (first|((first|apply EY|apply Ij);intro N hN)|((first|(apply TG;intro N hN)|(apply Ii;intro N hN));simp only[go_sem, ↓reduceIte,Nat.reduceEqDiff,Nat.reduceAdd,Nat.reduceSub,Nat.reduceMul,Nat.reduceLeDiff,Nat.reduceBEq,reduceCtorEq,Nat.reduceLT,Int.reduceLE,Int.reduceLT,Int.reduceToNat,Int.reduceNeg,Int.reduceAdd,Int.reduceEq,fL];first|(refine hN _ _ ?_;clear hN N)|skip)|(apply xc;(simp only[go_sem, ↓reduceIte,Nat.reduceEqDiff,Nat.reduceAdd,Nat.reduceSub,Nat.reduceMul,Nat.reduceLeDiff,Nat.reduceBEq,reduceCtorEq,Nat.reduceLT,Int.reduceLE,Int.reduceLT,Int.reduceToNat,Int.reduceNeg,Int.reduceAdd,Int.reduceEq,fL];rfl);first|with_reducible apply ph.t|with_reducible apply ph.f)|(apply EX;refine hN _ _ ?_;clear hN N;try(simp only[dj,aZ, ↓reduceIte,Nat.reduceEqDiff]);try(refine hN _ _ ?_;clear hN N))|apply xb|(refine Cx ?_ ?_ ?_;(focus(simp only[go_sem, ↓reduceIte,Nat.reduceEqDiff,Nat.reduceAdd,Nat.reduceSub,Nat.reduceMul,Nat.reduceLeDiff,Nat.reduceBEq,reduceCtorEq,Nat.reduceLT,Int.reduceLE,Int.reduceLT,Int.reduceToNat,Int.reduceNeg,Int.reduceAdd,Int.reduceEq,fL];done));(focus(simp only[go_sem, ↓reduceIte,Nat.reduceEqDiff,Nat.reduceAdd,Nat.reduceSub,Nat.reduceMul,Nat.reduceLeDiff,Nat.reduceBEq,reduceCtorEq,Nat.reduceLT,Int.reduceLE,Int.reduceLT,Int.reduceToNat,Int.reduceNeg,Int.reduceAdd,Int.reduceEq,fL];done)))|((first|apply Cy|apply Cw|apply Ik);try(simp only[dj,aZ, ↓reduceIte,Nat.reduceEqDiff]);try(refine hN _ _ ?_;clear hN N))|((first|refine hN _ _ ?_|(clear hN N;first|refine hN _ _ ?_|(clear hN N;first|refine hN _ _ ?_|(clear hN N;first|refine hN _ _ ?_|(clear hN N;refine hN _ _ ?_)))));clear hN N))
  (repeat(first|((first|apply EY|apply Ij);intro N hN)|((first|(apply TG;intro N hN)|(apply Ii;intro N hN));simp only[go_sem, ↓reduceIte,Nat.reduceEqDiff,Nat.reduceAdd,Nat.reduceSub,Nat.reduceMul,Nat.reduceLeDiff,Nat.reduceBEq,reduceCtorEq,Nat.reduceLT,Int.reduceLE,Int.reduceLT,Int.reduceToNat,Int.reduceNeg,Int.reduceAdd,Int.reduceEq,fL];first|(refine hN _ _ ?_;clear hN N)|skip)|(apply xc;(simp only[go_sem, ↓reduceIte,Nat.reduceEqDiff,Nat.reduceAdd,Nat.reduceSub,Nat.reduceMul,Nat.reduceLeDiff,Nat.reduceBEq,reduceCtorEq,Nat.reduceLT,Int.reduceLE,Int.reduceLT,Int.reduceToNat,Int.reduceNeg,Int.reduceAdd,Int.reduceEq,fL];rfl);first|with_reducible apply ph.t|with_reducible apply ph.f)|(apply EX;refine hN _ _ ?_;clear hN N;try(simp only[dj,aZ, ↓reduceIte,Nat.reduceEqDiff]);try(refine hN _ _ ?_;clear hN N))|apply xb|(refine Cx ?_ ?_ ?_;(focus(simp only[go_sem, ↓reduceIte,Nat.reduceEqDiff,Nat.reduceAdd,Nat.reduceSub,Nat.reduceMul,Nat.reduceLeDiff,Nat.reduceBEq,reduceCtorEq,Nat.reduceLT,Int.reduceLE,Int.reduceLT,Int.reduceToNat,Int.reduceNeg,Int.reduceAdd,Int.reduceEq,fL];done));(focus(simp only[go_sem, ↓reduceIte,Nat.reduceEqDiff,Nat.reduceAdd,Nat.reduceSub,Nat.reduceMul,Nat.reduceLeDiff,Nat.reduceBEq,reduceCtorEq,Nat.reduceLT,Int.reduceLE,Int.reduceLT,Int.reduceToNat,Int.reduceNeg,Int.reduceAdd,Int.reduceEq,fL];done)))|((first|apply Cy|apply Cw|apply Ik);try(simp only[dj,aZ, ↓reduceIte,Nat.reduceEqDiff]);try(refine hN _ _ ?_;clear hN N))|((first|refine hN _ _ ?_|(clear hN N;first|refine hN _ _ ?_|(clear hN N;first|refine hN _ _ ?_|(clear hN N;first|refine hN _ _ ?_|(clear hN N;refine hN _ _ ?_)))));clear hN N)))
  (repeat(revert hN;revert N;apply Pn.out))
  exact kk):G:=h a r
theorem wa {A R G:Prop} (a:A) (r:R) (h:A->R->G:=by
  intro fL kk
  (repeat(refine Pn.mk ?_;intro N hN))
  (first|((first|apply EY|apply Ij);intro N hN)|((first|(refine Rf rfl fun N hN=>?_)|(apply Ii;intro N hN));simp only[go_sem, ↓reduceIte,Nat.reduceEqDiff,Nat.reduceAdd,Nat.reduceSub,Nat.reduceMul,Nat.reduceLeDiff,Nat.reduceBEq,reduceCtorEq,Nat.reduceLT,Int.reduceLE,Int.reduceLT,Int.reduceToNat,Int.reduceNeg,Int.reduceAdd,Int.reduceEq,fL];first|(refine hN _ _ ?_;clear hN N)|skip)|(apply xc;(simp only[go_sem, ↓reduceIte,Nat.reduceEqDiff,Nat.reduceAdd,Nat.reduceSub,Nat.reduceMul,Nat.reduceLeDiff,Nat.reduceBEq,reduceCtorEq,Nat.reduceLT,Int.reduceLE,Int.reduceLT,Int.reduceToNat,Int.reduceNeg,Int.reduceAdd,Int.reduceEq,fL];rfl);first|with_reducible apply ph.t|with_reducible apply ph.f)|(apply EX;refine hN _ _ ?_;clear hN N;try(simp only[dj,aZ, ↓reduceIte,Nat.reduceEqDiff]);try(refine hN _ _ ?_;clear hN N))|apply xb|(refine Cx ?_ ?_ ?_;(focus(simp only[go_sem, ↓reduceIte,Nat.reduceEqDiff,Nat.reduceAdd,Nat.reduceSub,Nat.reduceMul,Nat.reduceLeDiff,Nat.reduceBEq,reduceCtorEq,Nat.reduceLT,Int.reduceLE,Int.reduceLT,Int.reduceToNat,Int.reduceNeg,Int.reduceAdd,Int.reduceEq,fL];done));(focus(simp only[go_sem, ↓reduceIte,Nat.reduceEqDiff,Nat.reduceAdd,Nat.reduceSub,Nat.reduceMul,Nat.reduceLeDiff,Nat.reduceBEq,reduceCtorEq,Nat.reduceLT,Int.reduceLE,Int.reduceLT,Int.reduceToNat,Int.reduceNeg,Int.reduceAdd,Int.reduceEq,fL];done)))|((first|apply Cy|apply Cw|apply Ik);try(simp only[dj,aZ, ↓reduceIte,Nat.reduceEqDiff]);try(refine hN _ _ ?_;clear hN N))|((first|refine hN _ _ ?_|(clear hN N;first|refine hN _ _ ?_|(clear hN N;first|refine hN _ _ ?_|(clear hN N;first|refine hN _ _ ?_|(clear hN N;refine hN _ _ ?_)))));clear hN N))
  (repeat(first|((first|apply EY|apply Ij);intro N hN)|((first|(refine Rf rfl fun N hN=>?_)|(apply Ii;intro N hN));simp only[go_sem, ↓reduceIte,Nat.reduceEqDiff,Nat.reduceAdd,Nat.reduceSub,Nat.reduceMul,Nat.reduceLeDiff,Nat.reduceBEq,reduceCtorEq,Nat.reduceLT,Int.reduceLE,Int.reduceLT,Int.reduceToNat,Int.reduceNeg,Int.reduceAdd,Int.reduceEq,fL];first|(refine hN _ _ ?_;clear hN N)|skip)|(apply xc;(simp only[go_sem, ↓reduceIte,Nat.reduceEqDiff,Nat.reduceAdd,Nat.reduceSub,Nat.reduceMul,Nat.reduceLeDiff,Nat.reduceBEq,reduceCtorEq,Nat.reduceLT,Int.reduceLE,Int.reduceLT,Int.reduceToNat,Int.reduceNeg,Int.reduceAdd,Int.reduceEq,fL];rfl);first|with_reducible apply ph.t|with_reducible apply ph.f)|(apply EX;refine hN _ _ ?_;clear hN N;try(simp only[dj,aZ, ↓reduceIte,Nat.reduceEqDiff]);try(refine hN _ _ ?_;clear hN N))|apply xb|(refine Cx ?_ ?_ ?_;(focus(simp only[go_sem, ↓reduceIte,Nat.reduceEqDiff,Nat.reduceAdd,Nat.reduceSub,Nat.reduceMul,Nat.reduceLeDiff,Nat.reduceBEq,reduceCtorEq,Nat.reduceLT,Int.reduceLE,Int.reduceLT,Int.reduceToNat,Int.reduceNeg,Int.reduceAdd,Int.reduceEq,fL];done));(focus(simp only[go_sem, ↓reduceIte,Nat.reduceEqDiff,Nat.reduceAdd,Nat.reduceSub,Nat.reduceMul,Nat.reduceLeDiff,Nat.reduceBEq,reduceCtorEq,Nat.reduceLT,Int.reduceLE,Int.reduceLT,Int.reduceToNat,Int.reduceNeg,Int.reduceAdd,Int.reduceEq,fL];done)))|((first|apply Cy|apply Cw|apply Ik);try(simp only[dj,aZ, ↓reduceIte,Nat.reduceEqDiff]);try(refine hN _ _ ?_;clear hN N))|((first|refine hN _ _ ?_|(clear hN N;first|refine hN _ _ ?_|(clear hN N;first|refine hN _ _ ?_|(clear hN N;first|refine hN _ _ ?_|(clear hN N;refine hN _ _ ?_)))));clear hN N)))
  (repeat(revert hN;revert N;apply Pn.out))
  exact kk):G:=h a r
theorem sd {A G:Prop} (a:A) (h:A->G:=by
  intro fL
  first|(simp only[go_sem, ↓reduceIte,Nat.reduceEqDiff,Nat.reduceAdd,Nat.reduceSub,Nat.reduceMul,Nat.reduceLeDiff,Nat.reduceBEq,reduceCtorEq,Nat.reduceLT,Int.reduceLE,Int.reduceLT,Int.reduceToNat,Int.reduceNeg,Int.reduceAdd,Int.reduceEq,fL,fM,iU];done)|fail):G:=h a
theorem sl {A G:Prop} (a:A) (h:A->G:=by
  intro fL
  (try simp only[go_sem, ↓reduceIte,Nat.reduceEqDiff,Nat.reduceAdd,Nat.reduceSub,Nat.reduceMul,Nat.reduceLeDiff,Nat.reduceBEq,reduceCtorEq,Nat.reduceLT,Int.reduceLE,Int.reduceLT,Int.reduceToNat,Int.reduceNeg,Int.reduceAdd,Int.reduceEq,fL])
  try rfl):G:=h a
end Go.Proofs.YtgoljkjaameagaaGreat.V

namespace Go.Proofs.YtgoljkjaameagaaGreat.V
open Go.RowKit
variable {P:Program} {X:gn} {env:Env} {σ:aw}
theorem bB (g:Rows) (n:Nat) (l:List AV):fz g (n+1) (.gJ l)=(cZ g n l).map AV.gJ:=by rw[fz]
theorem cJ (g:Rows) (n:Nat) (f:Nat) (l:List AV):fz g (n+1) (.fn f l)=if l.all AV.cell then(cZ g n l).map (AV.fn f)else none:=by rw[fz]
theorem bf (g:Rows) (n:Nat) (id:Id) (i off:Nat):fz g (n+1) (.ptr id i off)=match g id with
  |some r=>if r.w then(match r.rows[i]? with
   |some cs=>(cZ g n (cs.drop off)).map AV.dn
   |none=>none)else none
  |none=>none:=by rw[fz];rfl
theorem iy (g:Rows) (n:Nat) (id:Id) (off len:Nat):fz g (n+1) (.own id off len)=match g id with
  |some r=>if r.w then(if off+len<=r.rows.length then(eo g n ((r.rows.drop off).take len)).map AV.sl else none)else none
  |none=>none:=by rw[fz];rfl
theorem pN (g:Rows) (n:Nat):eo g n []=some []:=by rw[eo]
theorem Bp (g:Rows) (n:Nat) (c:List AV) (l:List (List AV)):eo g n (c::l)=match cZ g n c with
  |some b=>(eo g n l).map (b::·)
  |none=>none:=by rw[eo];cases cZ g n c<;>rfl
theorem xL {g:Rows} {n:Nat}:∀{l:List (List AV)},(∀c∈l,cZ g n c=some c)->eo g n l=some l
 |[],_=>by rw[eo]
 |c::r,h=>by rw[eo,h c (by simp),xL fun d hd=>h d (List.mem_cons_of_mem _ hd)];rfl
theorem nT {α:Type} {g:Rows} {n:Nat} {e:α->List AV} {l:List α} (h:∀x,cZ g n (e x)=some (e x)):eo g n (l.map e)=some (l.map e):=xL fun c hc=>by
 obtain⟨x,_,rfl⟩:=List.mem_map.1 hc
 exact h x
theorem pO {α:Type} {g:Rows} {n:Nat} {e:α->List AV} {l:List α} (h:∀x,ep g n (e x)=some (e x)):gN g n (l.map e)=some (l.map e):=vz fun c hc=>by
 obtain⟨x,_,rfl⟩:=List.mem_map.1 hc
 exact h x
theorem fB {α:Type} {g:Rows} {n:Nat} {e:α->List AV} {l:List α} {id:Id} {sz len:Nat} (hg:g id=some ⟨true,sz,l.map e⟩) (hl:len=l.length) (h:∀x,cZ g n (e x)=some (e x)):fz g (n+1) (.own id 0 len)=some (.sl (l.map e)):=by
 subst hl
 rw[iy];simp only[hg,if_true]
 rw[if_pos (by simp),List.drop_zero,List.take_of_length_le (by simp),nT h];rfl
theorem gq {α:Type} {g:Rows} {n:Nat} {e:α->List AV} {l:List α} {id:Id} {sz len:Nat} (hg:g id=some ⟨true,sz,l.map e⟩) (hl:len=l.length) (h:∀x,ep g n (e x)=some (e x)):gF g (n+1) (.own id 0 len)=some (.sl (l.map e)):=by
 subst hl
 exact qv hg (by simp) (by rw[List.drop_zero,List.take_of_length_le (by simp),pO h])
theorem all_map {α:Type} {e:α->List AV} {sz:Nat} {l:List α} (h:∀x,(e x).length=sz/\(e x).all AV.cell=true):(l.map e).all (fun c=>c.length==sz&&c.all AV.cell)=true:=by
 rw[List.all_eq_true]
 intro c hc
 obtain⟨x,_,rfl⟩:=List.mem_map.1 hc
 simp[(h x).1,(h x).2]
def RowM (P:Program) (f:Nat) (args:List AV) (sz:Nat) (rows:List (List AV)):Prop:=(∀c∈rows,∀a∈c,a.plain=true)/\∀n:Nat,Call P f args ⟨fun _=>none,n⟩ fun r σ'=>∃id,r=.own id 0 rows.length/\σ'.get id=some ⟨true,sz,rows⟩
theorem uS {res:List oR} {r:AV} {vs:List AV} {x:Ex} (hx:x=.ret∨x=.normal) (hv:fM env σ.get res=some vs) (hz:fz σ.get 6 (fc vs)=some r):lE res (fun r0 σ'=>∃r',fz σ'.get 6 r0=some r'/\r'=r) x env σ:=by
 rcases hx with rfl|rfl
 ·exact⟨vs,hv,r,hz,rfl⟩
 ·exact⟨vs,hv,r,hz,rfl⟩
theorem oP {res:List oR} {r:AV} {vs:List AV} {x:Ex} (hx:x=.ret∨x=.normal) (hv:fM env σ.get res=some vs) (hz:gF σ.get 6 (fc vs)=some r):lE res (fun r0 σ'=>∃r',gF σ'.get 6 r0=some r'/\r'=r) x env σ:=by
 rcases hx with rfl|rfl
 ·exact⟨vs,hv,r,hz,rfl⟩
 ·exact⟨vs,hv,r,hz,rfl⟩
theorem eS {res:List oR} {K:AV->aw->Prop} {vs:List AV} {x:Ex} (hx:x=.ret∨x=.normal) (hv:fM env σ.get res=some vs) (hK:K (fc vs) σ):lE res K x env σ:=by
 rcases hx with rfl|rfl
 ·exact⟨vs,hv,hK⟩
 ·exact⟨vs,hv,hK⟩
theorem eA {f:Nat} {args:List AV} {σ:aw} {K:AV->aw->Prop} {nt na:Nat} {body:VC} {res:List oR} (hf:nK P f=some ⟨nt,na,body,res⟩) (ha:na=args.length) (h:(∀a∈args,eY a)->dK (Call P) body (lE res K) (cr args) σ):Call P f args σ K:=nk hf ha h
theorem KG {f:Nat} {md:List (Nat×Nat)} {args:List AV} {σ:aw} {K:AV->aw->Prop} {nt na:Nat} {body:VC} {res:List oR} (hf:xt P f md=some ⟨nt,na,body,res⟩) (ha:na=args.length) (h:(∀a∈args,eY a)->dK (Call P) body (lE res K) (cr args) σ):Call P f args σ K:=xf hf ha h
theorem db {i:Id} {n:Nat} (h:i.bj<n):(∀s,(i=⟨s,n⟩)=False/\(i=⟨s,n+1⟩)=False/\(i=⟨s,n+1+1⟩)=False/\(i=⟨s,n+1+1+1⟩)=False/\(i=⟨s,n+1+1+1+1⟩)=False/\(i=⟨s,n+1+1+1+1+1⟩)=False/\(i=⟨s,n+1+1+1+1+1+1⟩)=False/\(i=⟨s,n+1+1+1+1+1+1+1⟩)=False/\(i=⟨s,n+1+1+1+1+1+1+1+1⟩)=False/\(i=⟨s,n+1+1+1+1+1+1+1+1+1⟩)=False/\(⟨s,n⟩=i)=False/\(⟨s,n+1⟩=i)=False/\(⟨s,n+1+1⟩=i)=False/\(⟨s,n+1+1+1⟩=i)=False/\(⟨s,n+1+1+1+1⟩=i)=False/\(⟨s,n+1+1+1+1+1⟩=i)=False/\(⟨s,n+1+1+1+1+1+1⟩=i)=False/\(⟨s,n+1+1+1+1+1+1+1⟩=i)=False/\(⟨s,n+1+1+1+1+1+1+1+1⟩=i)=False/\(⟨s,n+1+1+1+1+1+1+1+1+1⟩=i)=False)/\(i.bj=n)=False/\(i.bj=n+1)=False/\(i.bj=n+1+1)=False/\(i.bj=n+1+1+1)=False/\(i.bj=n+1+1+1+1)=False/\(i.bj=n+1+1+1+1+1)=False/\(i.bj=n+1+1+1+1+1+1)=False/\(i.bj=n+1+1+1+1+1+1+1)=False/\(i.bj=n+1+1+1+1+1+1+1+1)=False/\(i.bj=n+1+1+1+1+1+1+1+1+1)=False:=by
 refine⟨fun s=>?_,?_⟩
 ·obtain⟨a,b⟩:=i
  simp only[Id.mk.injEq,eq_iff_iff,iff_false,not_and]
  simp only at h
  refine⟨?_,?_,?_,?_,?_,?_,?_,?_,?_,?_,?_,?_,?_,?_,?_,?_,?_,?_,?_,?_⟩<;>(intros;omega)
 ·simp only[eq_iff_iff,iff_false]
  refine⟨?_,?_,?_,?_,?_,?_,?_,?_,?_,?_⟩<;>omega
def eJ (a b:Nat) (ids:List Id):Prop:=ids.Nodup/\∀i∈ids,a<=i.bj/\i.bj<b
def Kept (σ σ':aw):Prop:=σ.next<=σ'.next/\∀j:Id,j.bj<σ.next->σ'.get j=σ.get j
theorem eJ.wide {a b a' b':Nat} {ids:List Id} (h:eJ a b ids) (h1:a'<=a) (h2:b<=b'):eJ a' b' ids:=⟨h.1,fun i hi=>⟨Nat.le_trans h1 (h.2 i hi).1,Nat.lt_of_lt_of_le (h.2 i hi).2 h2⟩⟩
theorem eJ.app {a b c d:Nat} {i j:List Id} (h:eJ a b i) (k:eJ c d j) (Ug:b<=c) (nV:a<=b) (hcd:c<=d):eJ a d (i++j):=
 ⟨List.nodup_append.2 ⟨h.1,k.1,fun x hx y hy e=>by subst e;have:=(h.2 x hx).2;have:=(k.2 x hy).1;omega⟩,fun x hx=>by
  rcases List.mem_append.1 hx with hx|hx
  ·have:=h.2 x hx;omega
  ·have:=k.2 x hx;omega⟩
end Go.Proofs.YtgoljkjaameagaaGreat.V

namespace Go.Proofs.YtgoljkjaameagaaGreat.V
open Go.RowKit
attribute [local irreducible] dK wpOps gw Call
attribute [local go_sem] aM fE eM fV fS dc upd cr K.av cI AV.cells AV.cell rowOf rowsOf part ld rowAt bE cj dy dS gU bJ cY ee fQ e6 dp dX cW cV dI dJ bP bc cL bL cP cN dV dY dW cK bU cX dU bK aO cR cC gT bw cG bQ aY dj aZ dz AV.undef bD bG dM dQ dE dG cE ec eh cz ea dZ cQ cU List.getD_cons_zero List.getD_cons_succ List.getD_nil List.all_cons List.all_nil Bool.and_true Bool.true_and Bool.and_self Bool.not_true Bool.not_false Option.map_some Option.map_none Option.bind_some Option.bind_none List.length_cons List.length_nil List.take_succ_cons List.take_zero List.take_nil List.drop_succ_cons List.drop_zero List.drop_nil List.head?_cons List.map_cons List.map_nil List.getElem?_cons_zero List.getElem?_cons_succ List.cons_append List.nil_append List.append_nil List.length_map List.set_cons_zero List.set_cons_succ Nat.reduceMul eq_self Int.toNat_natCast Int.natCast_nonneg and_self true_and and_true decide_true decide_false Bool.false_eq_true Nat.zero_add Nat.add_zero List.contains_cons List.contains_nil Bool.or_false Bool.false_or beq_self_eq_true Nat.reduceBEq ne_eq not_true_eq_false not_false_eq_true Id.mk.injEq false_and and_false Nat.reduceLT Int.reduceLE Int.reduceLT Int.reduceToNat Int.reduceNeg Int.reduceAdd Nat.le_refl List.length_append beq_true beq_false Bool.not_eq_eq_eq_not or_false false_or dH aj ar aH bh bz ck aV bd aX bf cJ bB
variable {P:Program}
def Nj (f g z:Nat):A4:=let s:=f*1000000
 ⟨27,2,(.seq (.eQ false [q 4 (.dr (.k (.int .i64 0))) s]) (.seq (.eQ false [q 6 (.dr (.t 1)) (s+1000),q 7 (.dr (.t 0)) (s+1001),q 8 (.len (.t 7)) (s+1002),q 9 (.bin .sub .i64 (.t 6) (.t 8)) (s+1003),q 1 (.dr (.t 9)) (s+1004)]) (.seq (.seq (.eQ false [q 10 (.dr (.t 1)) (s+2000),q 11 (.bin .lss .i64 (.t 10) (.k (.int .i64 0))) (s+2001)]) (.cond (.t 11) (.seq (.eQ false [q 4 (.dr (.k (.int .i64 (-1)))) (s+3000)]) .ret) .skip)) (.seq (.seq (.eQ false [q 5 (.dr (.k (.int .i64 0))) (s+4000)]) (.block 0 (.loop (.seq (.seq (.eQ false [q 12 (.dr (.t 5)) (s+5000),q 13 (.dr (.t 0)) (s+5001),q 14 (.len (.t 13)) (s+5002),q 15 (.bin .lss .i64 (.t 12) (.t 14)) (s+5003)]) (.cond (.t 15) .skip (.exit 0))) (.seq (.block 1 (.seq (.eQ false [q 18 (.dr (.t 0)) (s+7000),q 19 (.dr (.t 5)) (s+7001),q 20 (.ek z (.t 18) (.t 19)) (s+7002),q 21 (.load true z (.t 20)) (s+7003),q 22 (.dr (.t 1)) (s+7004),q 23 (.call g [(.t 21),(.t 22)]) (s+7005),q 1 (.dr (.t 23)) (s+7006)]) (.seq (.eQ false [q 24 (.dr (.t 1)) (s+8000),q 25 (.bin .lss .i64 (.t 24) (.k (.int .i64 0))) (s+8001)]) (.cond (.t 25) (.seq (.eQ false [q 4 (.dr (.k (.int .i64 (-1)))) (s+9000)]) .ret) .skip)))) (.eQ false [q 16 (.dr (.t 5)) (s+6000),q 17 (.bin .add .i64 (.t 16) (.k (.int .i64 1))) (s+6001),q 5 (.dr (.t 17)) (s+6002)])))))) (.seq (.eQ false [q 26 (.dr (.t 1)) (s+10000),q 4 (.dr (.t 26)) (s+10001)]) .ret))))),[(.tmp 4)]⟩
def Nh (f:Nat):A4:=let s:=f*1000000
 ⟨12,2,(.seq (.eQ false [q 4 (.dr (.k (.int .i64 0))) s]) (.seq (.eQ false [q 5 (.dr (.t 1)) (s+1000),q 6 (.dr (.t 0)) (s+1001),q 7 (.len (.t 6)) (s+1002),q 8 (.bin .sub .i64 (.t 5) (.t 7)) (s+1003),q 1 (.dr (.t 8)) (s+1004)]) (.seq (.seq (.eQ false [q 9 (.dr (.t 1)) (s+2000),q 10 (.bin .lss .i64 (.t 9) (.k (.int .i64 0))) (s+2001)]) (.cond (.t 10) (.seq (.eQ false [q 4 (.dr (.k (.int .i64 (-1)))) (s+3000)]) .ret) .skip)) (.seq (.eQ false [q 11 (.dr (.t 1)) (s+4000),q 4 (.dr (.t 11)) (s+4001)]) .ret)))),[(.tmp 4)]⟩
def Di (f g z:Nat):A4:=let s:=f*1000000
 ⟨27,2,(.seq (.eQ false [q 4 (.dr (.k (.bool false))) s]) (.seq (.seq (.eQ false [q 6 (.dr (.t 0)) (s+1000),q 7 (.len (.t 6)) (s+1001),q 8 (.dr (.t 1)) (s+1002),q 9 (.len (.t 8)) (s+1003),q 10 (.RQ true .tI (.t 7) (.t 9)) (s+1004)]) (.cond (.t 10) (.seq (.eQ false [q 4 (.dr (.k (.bool false))) (s+2000)]) .ret) .skip)) (.seq (.seq (.eQ false [q 5 (.dr (.k (.int .i64 0))) (s+3000)]) (.block 0 (.loop (.seq (.seq (.eQ false [q 11 (.dr (.t 5)) (s+4000),q 12 (.dr (.t 0)) (s+4001),q 13 (.len (.t 12)) (s+4002),q 14 (.bin .lss .i64 (.t 11) (.t 13)) (s+4003)]) (.cond (.t 14) .skip (.exit 0))) (.seq (.block 1 (.seq (.eQ true [q 17 (.dr (.t 0)) (s+6000),q 18 (.dr (.t 5)) (s+6001),q 19 (.ek z (.t 17) (.t 18)) (s+6002),q 20 (.load true z (.t 19)) (s+6003),q 21 (.dr (.t 1)) (s+6004),q 22 (.dr (.t 5)) (s+6005),q 23 (.ek z (.t 21) (.t 22)) (s+6006),q 24 (.load true z (.t 23)) (s+6007),q 25 (.call g [(.t 20),(.t 24)]) (s+6008),q 26 (.not (.t 25)) (s+6009)]) (.cond (.t 26) (.seq (.eQ false [q 4 (.dr (.k (.bool false))) (s+7000)]) .ret) .skip))) (.eQ false [q 15 (.dr (.t 5)) (s+5000),q 16 (.bin .add .i64 (.t 15) (.k (.int .i64 1))) (s+5001),q 5 (.dr (.t 16)) (s+5002)])))))) (.seq (.eQ false [q 4 (.dr (.k (.bool true))) (s+8000)]) .ret)))),[(.tmp 4)]⟩
def QB (f:Nat) (t:TS):A4:=let s:=f*1000000
 ⟨26,2,(.seq (.eQ false [q 4 (.dr (.k (.bool false))) s]) (.seq (.seq (.eQ false [q 6 (.dr (.t 0)) (s+1000),q 7 (.len (.t 6)) (s+1001),q 8 (.dr (.t 1)) (s+1002),q 9 (.len (.t 8)) (s+1003),q 10 (.RQ true .tI (.t 7) (.t 9)) (s+1004)]) (.cond (.t 10) (.seq (.eQ false [q 4 (.dr (.k (.bool false))) (s+2000)]) .ret) .skip)) (.seq (.seq (.eQ false [q 5 (.dr (.k (.int .i64 0))) (s+3000)]) (.block 0 (.loop (.seq (.seq (.eQ false [q 11 (.dr (.t 5)) (s+4000),q 12 (.dr (.t 0)) (s+4001),q 13 (.len (.t 12)) (s+4002),q 14 (.bin .lss .i64 (.t 11) (.t 13)) (s+4003)]) (.cond (.t 14) .skip (.exit 0))) (.seq (.block 1 (.seq (.eQ true [q 17 (.dr (.t 0)) (s+6000),q 18 (.dr (.t 5)) (s+6001),q 19 (.ek 1 (.t 17) (.t 18)) (s+6002),q 20 (.load false 1 (.t 19)) (s+6003),q 21 (.dr (.t 1)) (s+6004),q 22 (.dr (.t 5)) (s+6005),q 23 (.ek 1 (.t 21) (.t 22)) (s+6006),q 24 (.load false 1 (.t 23)) (s+6007),q 25 (.RQ true t (.t 20) (.t 24)) (s+6008)]) (.cond (.t 25) (.seq (.eQ false [q 4 (.dr (.k (.bool false))) (s+7000)]) .ret) .skip))) (.eQ false [q 15 (.dr (.t 5)) (s+5000),q 16 (.bin .add .i64 (.t 15) (.k (.int .i64 1))) (s+5001),q 5 (.dr (.t 16)) (s+5002)])))))) (.seq (.eQ false [q 4 (.dr (.k (.bool true))) (s+8000)]) .ret)))),[(.tmp 4)]⟩
def wh (f g z:Nat) (zero:List K):A4:=let s:=f*1000000
 ⟨23,1,(.seq (.eQ false [q 2 (.dr (.k .bI)) s]) (.seq (.eQ false [q 5 (.dr (.t 0)) (s+1000),q 6 (.len (.t 5)) (s+1001),q 7 (.kG zero (.t 6) (.t 6)) (s+1002),q 3 (.dr (.t 7)) (s+1003)]) (.seq (.seq (.eQ false [q 4 (.dr (.k (.int .i64 0))) (s+2000)]) (.block 0 (.loop (.seq (.seq (.eQ false [q 8 (.dr (.t 4)) (s+3000),q 9 (.dr (.t 0)) (s+3001),q 10 (.len (.t 9)) (s+3002),q 11 (.bin .lss .i64 (.t 8) (.t 10)) (s+3003)]) (.cond (.t 11) .skip (.exit 0))) (.seq (.block 1 (.eQ false [q 14 (.dr (.t 3)) (s+5000),q 15 (.dr (.t 4)) (s+5001),q 16 (.dr (.t 0)) (s+5002),q 17 (.dr (.t 4)) (s+5003),q 18 (.ek z (.t 16) (.t 17)) (s+5004),q 19 (.load true z (.t 18)) (s+5005),q 20 (.call g [(.t 19)]) (s+5006),q 21 (.ek z (.t 14) (.t 15)) (s+5007),⟨none,(.store z (.t 21) (.t 20)),none,(s+5008),[]⟩])) (.eQ false [q 12 (.dr (.t 4)) (s+4000),q 13 (.bin .add .i64 (.t 12) (.k (.int .i64 1))) (s+4001),q 4 (.dr (.t 13)) (s+4002)])))))) (.seq (.eQ false [q 22 (.dr (.t 3)) (s+6000),q 2 (.dr (.t 22)) (s+6001)]) .ret)))),[(.tmp 2)]⟩
def Nx (f:Nat) (zero:K):A4:=let s:=f*1000000
 ⟨22,1,(.seq (.eQ false [q 2 (.dr (.k .bI)) s]) (.seq (.eQ false [q 5 (.dr (.t 0)) (s+1000),q 6 (.len (.t 5)) (s+1001),q 7 (.kG [zero] (.t 6) (.t 6)) (s+1002),q 3 (.dr (.t 7)) (s+1003)]) (.seq (.seq (.eQ false [q 4 (.dr (.k (.int .i64 0))) (s+2000)]) (.block 0 (.loop (.seq (.seq (.eQ false [q 8 (.dr (.t 4)) (s+3000),q 9 (.dr (.t 0)) (s+3001),q 10 (.len (.t 9)) (s+3002),q 11 (.bin .lss .i64 (.t 8) (.t 10)) (s+3003)]) (.cond (.t 11) .skip (.exit 0))) (.seq (.block 1 (.eQ false [q 14 (.dr (.t 3)) (s+5000),q 15 (.dr (.t 4)) (s+5001),q 16 (.dr (.t 0)) (s+5002),q 17 (.dr (.t 4)) (s+5003),q 18 (.ek 1 (.t 16) (.t 17)) (s+5004),q 19 (.load false 1 (.t 18)) (s+5005),q 20 (.ek 1 (.t 14) (.t 15)) (s+5006),⟨none,(.store 1 (.t 20) (.t 19)),none,(s+5007),[]⟩])) (.eQ false [q 12 (.dr (.t 4)) (s+4000),q 13 (.bin .add .i64 (.t 12) (.k (.int .i64 1))) (s+4001),q 4 (.dr (.t 13)) (s+4002)])))))) (.seq (.eQ false [q 21 (.dr (.t 3)) (s+6000),q 2 (.dr (.t 21)) (s+6001)]) .ret)))),[(.tmp 2)]⟩
def zI (n:Nat) (l:Int):Int:=if (n:Int)<=l then l-n else -1
theorem Ni {fk:Nat} (hc:nK P fk=some (Nh fk)) (rows:List (List AV)) (left:Int) (h0:0<=left) (h1:left<=1048576):au P fk [.sl rows,.int .i64 left] (.int .i64 (zI rows.length left)):=by
 refine au.body hc rfl fun hl n0=>?_
 try simp only[q]
 have hn:rows.length<=9223372036854775807:=(hl (.sl rows) (by simp)).len
 clear hl
 have hw:IntKind.i64.wrap (left-(rows.length:Int))=left-rows.length:=bq ah
 by_cases hf:(rows.length:Int)<=left
 ·have nh:¬left-(rows.length:Int)<0:=ah
  (try((repeat(revert hN;revert N;apply Pn.out));refine wk (tw @hw @nh) ?_;(repeat(refine Pn.mk ?_;intro N hN))))
  exact da (b:=left-(rows.length:Int)) (.inl rfl) (sd @Nat.zero_add) (by rw[zI,if_pos hf])
 ·have nh:left-(rows.length:Int)<0:=ah
  (try((repeat(revert hN;revert N;apply Pn.out));refine wk (tw @hw @nh) ?_;(repeat(refine Pn.mk ?_;intro N hN))))
  exact da (b:=-1) (.inl rfl) (sd @Nat.zero_add) (by rw[zI,if_neg hf])
def gm {α:Type} (f:α->Nat) (xs:List α) (k:Nat):Nat:=((xs.take k).map f).sum
theorem kz {α:Type} (f:α->Nat) (xs:List α):gm f xs 0=0:=by simp[gm]
theorem tL {α:Type} (f:α->Nat) (xs:List α):gm f xs xs.length=(xs.map f).sum:=by simp[gm]
theorem ox {α:Type} (f:α->Nat) {xs:List α} {k:Nat} (hk:k<xs.length):gm f xs (k+1)=gm f xs k+f xs[k]:=by
 unfold gm
 rw[List.take_succ_eq_append_getElem hk,List.map_append,List.sum_append];simp
theorem kH {α:Type} (f:α->Nat) (xs:List α) (k:Nat):gm f xs k<=(xs.map f).sum:=by
 unfold gm
 conv=>rhs;rw[<-List.take_append_drop k xs]
 rw[List.map_append,List.sum_append];omega
theorem Nk {α:Type} {e:α->List AV} {z fk gk:Nat} (wt:α->Nat) (hc:nK P fk=some (Nj fk gk z)) (hz:∀x,(e x).length=z) (CF:∀x g,cZ g 6 [.agg (e x)]=some [.agg (e x)]) (xs:List α) (left:Int) (h0:0<=left) (h1:left<=1048576)
  (hg:∀x∈xs,∀l:Int,0<=l->l<=1048576->au P gk [.agg (e x),.int .i64 l] (.int .i64 (zI (wt x) l))):au P fk [.sl (xs.map e),.int .i64 left] (.int .i64 (zI (xs.length+(xs.map wt).sum) left)):=by
 refine au.body hc rfl fun hl n0=>?_
 try simp only[q]
 have hn:xs.length<=9223372036854775807:=by simpa using(hl (.sl (xs.map e)) (by simp)).len
 clear hl
 have hw:IntKind.i64.wrap (left-(xs.length:Int))=left-xs.length:=bq ah
 by_cases hf:(xs.length:Int)<=left
 ·have nh:¬left-(xs.length:Int)<0:=ah
  (try((repeat(revert hN;revert N;apply Pn.out));refine wk (tw @hw @nh) ?_;(repeat(refine Pn.mk ?_;intro N hN))))
  refine aQ (fun n env st=>∃k:Nat,n=(xs.length)-k/\k<=(xs.length)/\env 5=.int .i64 (k:Int)/\env 1=(.int .i64 (left-xs.length-(gm wt xs k:Nat)))/\(0<=left-xs.length-(gm wt xs k:Nat))) (xs.length) ⟨0,ah,ah,sl (tw @kz (tw @Int.natCast_zero @Int.sub_zero)),sl (tw @kz (tw @Int.natCast_zero @Int.sub_zero)),(by rw[kz];omega)⟩ ?_
  rintro n_a env_a st_a ⟨k,rfl,ale,a5,a1,ke⟩ dv
  have a0:=dv 0 (by kernel_rfl)
  simp only[go_sem, ↓reduceIte,Nat.reduceEqDiff,Nat.reduceAdd,Nat.reduceSub,Nat.reduceLeDiff,reduceCtorEq,kz,Int.natCast_zero,Int.sub_zero]at a0
  clear dv
  by_cases hk:(k:Int)<(xs.length:Int)
  ·have cq:∀{e:Env},(e 5=.int .i64 (IntKind.i64.wrap ((k:Int)+1)))->(e 1=(.int .i64 (left-xs.length-(gm wt xs (k+1):Nat))))->(0<=left-xs.length-(gm wt xs (k+1):Nat))->∃m0,m0<(xs.length)-k/\∃k:Nat,m0=(xs.length)-k/\k<=(xs.length)/\e 5=.int .i64 (k:Int)/\e 1=(.int .i64 (left-xs.length-(gm wt xs k:Nat)))/\(0<=left-xs.length-(gm wt xs k:Nat)):=fun x1 x2 x3=>⟨_,ah,k+1,rfl,ah,(by rw[x1,ay ah]),x2,x3⟩
   have fy:k<xs.length:=ah
   have eP:(xs.map e)[k]? =some (e xs[k]):=by simp[fy]
   have vL:=hz xs[k]
   have ht:(e xs[k]).take z=e xs[k]:=by rw[<-vL,List.take_length]
   have hs:=ox wt fy
   have vJ:=kH wt xs (k+1)
   have iR:=hg _ (List.getElem_mem fy) (left-xs.length-(gm wt xs k:Nat)) ke ah
   have jP:cZ (dH st_a.get) 6 [.agg (e xs[k]),.int .i64 (left-xs.length-(gm wt xs k:Nat))]=some [.agg (e xs[k]),.int .i64 (left-xs.length-(gm wt xs k:Nat))]:=by
    have q1:=CF xs[k] (dH st_a.get)
    rw[aj,ar]at q1
    rw[aj,aj,ar,aH]
    revert q1
    cases V.fz (dH st_a.get) 6 (.agg (e xs[k]))<;>simp
   by_cases s5:(wt xs[k]:Int)<=left-xs.length-(gm wt xs k:Nat)
   ·rw[zI,if_pos s5]at iR
    have qY:¬left-xs.length-(gm wt xs k:Nat)-(wt xs[k]:Int)<0:=ah
    have qx:left-xs.length-(gm wt xs k:Nat)-(wt xs[k]:Int)=left-xs.length-(gm wt xs (k+1):Nat):=by rw[hs];omega
    generalize hex:e xs[k]=c at iR jP eP vL ht
    (try((repeat(revert hN;revert N;apply Pn.out));refine wk (tw @a5 (tw @a1 (tw @a0 (tw @hk (tw @eP (tw @vL (tw @ht @Nat.le_refl))))))) ?_;(repeat(refine Pn.mk ?_;intro N hN))))
    refine .inl ⟨_,au.x iR jP,?_⟩
    refine hN _ _ ?_
    clear hN N
    (try((repeat(revert hN;revert N;apply Pn.out));refine wk (tw @a5 (tw @a1 (tw @a0 @qY))) ?_;(repeat(refine Pn.mk ?_;intro N hN))))
    refine cq ?_ ?_ ((by rw[hs];omega))
    all_goals simp only[go_sem, ↓reduceIte,Nat.reduceEqDiff,Nat.reduceAdd,Nat.reduceSub,Nat.reduceLeDiff,reduceCtorEq,a5,a1,a0,qx]
   ·rw[zI,if_neg s5]at iR
    generalize hex:e xs[k]=c at iR jP eP vL ht
    (try((repeat(revert hN;revert N;apply Pn.out));refine wk (tw @a5 (tw @a1 (tw @a0 (tw @hk (tw @eP (tw @vL (tw @ht @Nat.le_refl))))))) ?_;(repeat(refine Pn.mk ?_;intro N hN))))
    refine .inl ⟨_,au.x iR jP,?_⟩
    refine hN _ _ ?_
    clear hN N
    (try((repeat(revert hN;revert N;apply Pn.out));refine wk (tw @a5 (tw @a1 @a0)) ?_;(repeat(refine Pn.mk ?_;intro N hN))))
    exact da (b:=-1) (.inl rfl) (sd @Nat.zero_add) (by rw[zI,if_neg ah])
  ·(try((repeat(revert hN;revert N;apply Pn.out));refine wk (tw @a5 (tw @a1 (tw @a0 @hk))) ?_;(repeat(refine Pn.mk ?_;intro N hN))))
   have fy:k=xs.length:=ah
   subst fy
   have LH:=tL wt xs
   exact da (b:=left-xs.length-(gm wt xs xs.length:Nat)) (.inl rfl) (sd (tw @a5 (tw @a1 @a0))) (by rw[zI,if_pos ah];omega)
 ·have nh:left-(xs.length:Int)<0:=ah
  (try((repeat(revert hN;revert N;apply Pn.out));refine wk (tw @hw @nh) ?_;(repeat(refine Pn.mk ?_;intro N hN))))
  exact da (b:=-1) (.inl rfl) (sd @Nat.zero_add) (by rw[zI,if_neg ah])
theorem Ls {α:Type} {xs ys:List α} (hl:xs.length=ys.length) (h:∀j:Nat,j<xs.length->∀(h1:j<xs.length) (h2:j<ys.length),xs[j]=ys[j]):xs=ys:=List.ext_getElem hl fun j h1 h2=>h j h1 h1 h2
theorem Bj {α:Type} [DecidableEq α] {e:α->List AV} {z fk gk:Nat} (hc:nK P fk=some (Di fk gk z)) (hz:∀x,(e x).length=z) (CF:∀x g,cZ g 6 [.agg (e x)]=some [.agg (e x)]) (xs ys:List α)
  (hg:∀x y,au P gk [.agg (e x),.agg (e y)] (.bool (decide (x=y)))):au P fk [.sl (xs.map e),.sl (ys.map e)] (.bool (decide (xs=ys))):=by
 refine au.body hc rfl fun hl n0=>?_
 try simp only[q]
 have hn:xs.length<=9223372036854775807:=by simpa using(hl (.sl (xs.map e)) (by simp)).len
 clear hl
 by_cases hlen:xs.length=ys.length
 ·have lR:decide ((xs.length:Int)=(ys.length:Int))=true:=by simp[hlen]
  (try((repeat(revert hN;revert N;apply Pn.out));refine wk @lR ?_;(repeat(refine Pn.mk ?_;intro N hN))))
  refine aQ (fun n env st=>∃k:Nat,n=(xs.length)-k/\k<=(xs.length)/\env 5=.int .i64 (k:Int)/\(∀j:Nat,j<k->∀(h1:j<xs.length) (h2:j<ys.length),xs[j]=ys[j])) (xs.length) ⟨0,ah,ah,sl @Nat.zero_add,fun _ h=>absurd h (Nat.not_lt_zero _)⟩ ?_
  rintro n_a env_a st_a ⟨k,rfl,ale,a5,nP⟩ dv
  have a0:=dv 0 (by kernel_rfl);have a1:=dv 1 (by kernel_rfl)
  simp only[go_sem, ↓reduceIte,Nat.reduceEqDiff,Nat.reduceAdd,Nat.reduceSub,Nat.reduceLeDiff,reduceCtorEq]at a0 a1
  clear dv
  by_cases hk:(k:Int)<(xs.length:Int)
  ·have cq:∀{e:Env},(e 5=.int .i64 (IntKind.i64.wrap ((k:Int)+1)))->(∀(h1:k<xs.length) (h2:k<ys.length),xs[k]=ys[k])->∃m0,m0<(xs.length)-k/\∃k:Nat,m0=(xs.length)-k/\k<=(xs.length)/\e 5=.int .i64 (k:Int)/\(∀j:Nat,j<k->∀(h1:j<xs.length) (h2:j<ys.length),xs[j]=ys[j]):=fun x1 x2=>⟨_,ah,k+1,rfl,ah,(by rw[x1,ay ah]),(all_succ nP x2)⟩
   have fy:k<xs.length:=ah
   have SC:k<ys.length:=ah
   have eP:(xs.map e)[k]? =some (e xs[k]):=by simp[fy]
   have F6:(ys.map e)[k]? =some (e ys[k]):=by simp[SC]
   have vL:=hz xs[k]
   have Gh:=hz ys[k]
   have ht:(e xs[k]).take z=e xs[k]:=by rw[<-vL,List.take_length]
   have Kz:(e ys[k]).take z=e ys[k]:=by rw[<-Gh,List.take_length]
   have iR:=hg xs[k] ys[k]
   have jP:∀g,cZ g 6 [.agg (e xs[k]),.agg (e ys[k])]=some [.agg (e xs[k]),.agg (e ys[k])]:=fun g=>by
    have q1:=CF xs[k] g
    have q2:=CF ys[k] g
    rw[aj,ar]at q1
    rw[aj,q2]
    revert q1
    cases V.fz g 6 (.agg (e xs[k]))<;>simp
   by_cases heq:xs[k]=ys[k]
   ·rw[decide_eq_true heq]at iR
    generalize hex:e xs[k]=c at iR jP eP vL ht
    generalize hey:e ys[k]=d at iR jP F6 Gh Kz
    (try((repeat(revert hN;revert N;apply Pn.out));refine wk (tw @a5 (tw @a0 (tw @a1 (tw @hk (tw @eP (tw @F6 (tw @vL (tw @Gh (tw @ht (tw @Kz @Nat.le_refl)))))))))) ?_;(repeat(refine Pn.mk ?_;intro N hN))))
    refine⟨_,au.x iR (jP _),?_⟩
    refine hN _ _ ?_
    clear hN N
    (try((repeat(revert hN;revert N;apply Pn.out));refine wk (tw @a5 (tw @a0 @a1)) ?_;(repeat(refine Pn.mk ?_;intro N hN))))
    exact cq (sd (tw @a5 (tw @a0 @a1))) (fun _ _=>heq)
   ·rw[decide_eq_false heq]at iR
    generalize hex:e xs[k]=c at iR jP eP vL ht
    generalize hey:e ys[k]=d at iR jP F6 Gh Kz
    (try((repeat(revert hN;revert N;apply Pn.out));refine wk (tw @a5 (tw @a0 (tw @a1 (tw @hk (tw @eP (tw @F6 (tw @vL (tw @Gh (tw @ht (tw @Kz @Nat.le_refl)))))))))) ?_;(repeat(refine Pn.mk ?_;intro N hN))))
    refine⟨_,au.x iR (jP _),?_⟩
    refine hN _ _ ?_
    clear hN N
    (try((repeat(revert hN;revert N;apply Pn.out));refine wk (tw @a5 (tw @a0 @a1)) ?_;(repeat(refine Pn.mk ?_;intro N hN))))
    exact bp (b:=false) (.inl rfl) (sd @Nat.zero_add) (decide_eq_false fun h=>heq (List.getElem_of_eq h _)).symm
  ·(try((repeat(revert hN;revert N;apply Pn.out));refine wk (tw @a5 (tw @a0 (tw @a1 @hk))) ?_;(repeat(refine Pn.mk ?_;intro N hN))))
   exact bp (b:=true) (.inl rfl) (sd @Nat.zero_add) (decide_eq_true (Ls hlen fun j hj h1 h2=>nP j ah h1 h2)).symm
 ·have lR:decide ((xs.length:Int)=(ys.length:Int))=false:=decide_eq_false fun h=>hlen ah
  (try((repeat(revert hN;revert N;apply Pn.out));refine wk @lR ?_;(repeat(refine Pn.mk ?_;intro N hN))))
  exact bp (b:=false) (.inl rfl) (sd @Nat.zero_add) (decide_eq_false fun h=>hlen (by subst h;rfl)).symm
theorem U4 {fk:Nat} (hc:nK P fk=some (QB fk .tI)) (xs ys:List Int):
  au P fk [.sl (xs.map fun x=>[AV.int .i64 x]),.sl (ys.map fun x=>[AV.int .i64 x])] (.bool (decide (xs=ys))):=by
 refine au.body hc rfl fun hl n0=>?_
 try simp only[q]
 have hn:xs.length<=9223372036854775807:=by simpa using(hl (.sl (xs.map fun x=>[AV.int .i64 x])) (by simp)).len
 clear hl
 by_cases hlen:xs.length=ys.length
 ·have lR:decide ((xs.length:Int)=(ys.length:Int))=true:=by simp[hlen]
  (try((repeat(revert hN;revert N;apply Pn.out));refine wk @lR ?_;(repeat(refine Pn.mk ?_;intro N hN))))
  refine aQ (fun n env st=>∃k:Nat,n=(xs.length)-k/\k<=(xs.length)/\env 5=.int .i64 (k:Int)/\(∀j:Nat,j<k->∀(h1:j<xs.length) (h2:j<ys.length),xs[j]=ys[j])) (xs.length) ⟨0,ah,ah,sl @Nat.zero_add,fun _ h=>absurd h (Nat.not_lt_zero _)⟩ ?_
  rintro n_a env_a st_a ⟨k,rfl,ale,a5,nP⟩ dv
  have a0:=dv 0 (by kernel_rfl);have a1:=dv 1 (by kernel_rfl)
  simp only[go_sem, ↓reduceIte,Nat.reduceEqDiff,Nat.reduceAdd,Nat.reduceSub,Nat.reduceLeDiff,reduceCtorEq]at a0 a1
  clear dv
  by_cases hk:(k:Int)<(xs.length:Int)
  ·have cq:∀{e:Env},(e 5=.int .i64 (IntKind.i64.wrap ((k:Int)+1)))->(∀(h1:k<xs.length) (h2:k<ys.length),xs[k]=ys[k])->∃m0,m0<(xs.length)-k/\∃k:Nat,m0=(xs.length)-k/\k<=(xs.length)/\e 5=.int .i64 (k:Int)/\(∀j:Nat,j<k->∀(h1:j<xs.length) (h2:j<ys.length),xs[j]=ys[j]):=fun x1 x2=>⟨_,ah,k+1,rfl,ah,(by rw[x1,ay ah]),(all_succ nP x2)⟩
   have fy:k<xs.length:=ah
   have SC:k<ys.length:=ah
   have eP:(xs.map fun x=>[AV.int .i64 x])[k]? =some [.int .i64 xs[k]]:=by simp[fy]
   have F6:(ys.map fun x=>[AV.int .i64 x])[k]? =some [.int .i64 ys[k]]:=by simp[SC]
   by_cases heq:xs[k]=ys[k]
   ·have hq:=decide_eq_true heq
    (try((repeat(revert hN;revert N;apply Pn.out));refine wk (tw @a5 (tw @a0 (tw @a1 (tw @hk (tw @eP (tw @F6 @hq)))))) ?_;(repeat(refine Pn.mk ?_;intro N hN))))
    exact cq (sd (tw @a5 (tw @a0 @a1))) (fun _ _=>heq)
   ·have hq:=decide_eq_false heq
    (try((repeat(revert hN;revert N;apply Pn.out));refine wk (tw @a5 (tw @a0 (tw @a1 (tw @hk (tw @eP (tw @F6 @hq)))))) ?_;(repeat(refine Pn.mk ?_;intro N hN))))
    exact bp (b:=false) (.inl rfl) (sd @Nat.zero_add) (decide_eq_false fun h=>heq (List.getElem_of_eq h _)).symm
  ·(try((repeat(revert hN;revert N;apply Pn.out));refine wk (tw @a5 (tw @a0 (tw @a1 @hk))) ?_;(repeat(refine Pn.mk ?_;intro N hN))))
   exact bp (b:=true) (.inl rfl) (sd @Nat.zero_add) (decide_eq_true (Ls hlen fun j hj h1 h2=>nP j ah h1 h2)).symm
 ·have lR:decide ((xs.length:Int)=(ys.length:Int))=false:=decide_eq_false fun h=>hlen ah
  (try((repeat(revert hN;revert N;apply Pn.out));refine wk @lR ?_;(repeat(refine Pn.mk ?_;intro N hN))))
  exact bp (b:=false) (.inl rfl) (sd @Nat.zero_add) (decide_eq_false fun h=>hlen (by subst h;rfl)).symm
theorem xp (l:List AV):l++[]=l:=List.append_nil l
def iw {α:Type} (e:α->List AV) (zc:List AV) (xs:List α) (k:Nat):List (List AV):=(xs.take k).map e++List.replicate (xs.length-k) zc
theorem pG {α:Type} (e:α->List AV) (zc:List AV) (xs:List α):List.replicate xs.length zc=iw e zc xs 0:=by simp[iw]
theorem rO {α:Type} (e:α->List AV) (zc:List AV) (xs:List α):iw e zc xs xs.length=xs.map e:=by simp[iw]
theorem rP {α:Type} (e:α->List AV) (zc:List AV) (xs:List α) {k:Nat} (hk:k<xs.length):(iw e zc xs k)[k]? =some zc:=by
 have h1:((xs.take k).map e).length=k:=by simp;omega
 rw[iw,List.getElem?_append_right ah,h1,Nat.sub_self,List.getElem?_replicate,if_pos ah]
theorem rQ {α:Type} (e:α->List AV) (zc:List AV) (xs:List α) {k:Nat} (hk:k<xs.length):(iw e zc xs k).set k (e xs[k])=iw e zc xs (k+1):=by
 have h1:((xs.take k).map e).length=k:=by simp;omega
 rw[iw,List.set_append_right _ _ ah,h1,Nat.sub_self,iw,List.take_succ_eq_append_getElem hk,List.map_append,List.append_assoc]
 congr 1
 obtain⟨m,hm⟩:∃m,xs.length-k=m+1:=⟨xs.length-k-1,ah⟩
 rw[hm,show xs.length-(k+1)=m by omega,List.replicate_succ]
 rfl
theorem G9 {α:Type} {en:α->List AV} {z fk gk:Nat} {zero:List K} (hc:nK P fk=some (wh fk gk z zero)) (HR:zero.length=z) (hz:∀x,(en x).length=z) (lh:∀x,(en x).all AV.cell=true) (CF:∀x g,cZ g 5 (en x)=some (en x)) (xs:List α) (hlen:xs.length<=1048576)
  (hg:∀x∈xs,lv P gk [.agg (en x)] (.agg (en x))):lv P fk [.sl (xs.map en)] (.sl (xs.map en)):=by
 refine lv.body hc rfl fun hl σ=>?_
 try simp only[q]
 clear hl
 have hm:(xs.length:Int)<=((16777216:Nat):Int):=ah
 have h0:(0:Int)<=(xs.length:Int):=ah
 (try((repeat(revert hN;revert N;apply Pn.out));refine wk (tw @hm (tw @h0 (tw @Int.le_refl (tw (pG en (zero.map K.av) xs) @HR)))) ?_;(repeat(refine Pn.mk ?_;intro N hN))))
 refine aQ (fun n env st=>∃k:Nat,n=(xs.length)-k/\k<=(xs.length)/\env 4=.int .i64 (k:Int)/\st.get ⟨fk*1000000+1002,σ.next+1⟩=some ⟨true,z,iw en (zero.map K.av) xs k⟩) (xs.length) ⟨0,ah,ah,sl @Nat.zero_add,sl @Nat.zero_add⟩ ?_
 rintro n_a env_a st_a ⟨k,rfl,ale,a4,ag0⟩ dv
 have a0:=dv 0 (by kernel_rfl);have a3:=dv 3 (by kernel_rfl)
 simp only[go_sem, ↓reduceIte,Nat.reduceEqDiff,Nat.reduceAdd,Nat.reduceSub,Nat.reduceLeDiff,reduceCtorEq]at a0 a3
 clear dv
 by_cases hk:(k:Int)<(xs.length:Int)
 ·have cq:∀{e:Env} {gg:Rows},(e 4=.int .i64 (IntKind.i64.wrap ((k:Int)+1)))->(gg ⟨fk*1000000+1002,σ.next+1⟩=some ⟨true,z,iw en (zero.map K.av) xs (k+1)⟩)->∃m0,m0<(xs.length)-k/\∃k:Nat,m0=(xs.length)-k/\k<=(xs.length)/\e 4=.int .i64 (k:Int)/\gg ⟨fk*1000000+1002,σ.next+1⟩=some ⟨true,z,iw en (zero.map K.av) xs k⟩:=fun x1 x2=>⟨_,ah,k+1,rfl,ah,(by rw[x1,ay ah]),x2⟩
  have fy:k<xs.length:=ah
  have eP:(xs.map en)[k]? =some (en xs[k]):=by simp[fy]
  have vL:=hz xs[k]
  have NT:=lh xs[k]
  have ht:(en xs[k]).take z=en xs[k]:=by rw[<-vL,List.take_length]
  have iR:=hg _ (List.getElem_mem fy)
  have fu:=rP en (zero.map K.av) xs fy
  have eb:=rQ en (zero.map K.av) xs fy
  have LN:(zero.map K.av).drop z=[]:=List.drop_of_length_le (by simp[HR])
  generalize hex:en xs[k]=c at iR eP vL ht NT eb
  (repeat(first|((repeat(revert hN;revert N;apply Pn.out));refine wk (tw @a4 (tw @ag0 (tw @a0 (tw @a3 (tw @hk (tw @eP (tw @vL (tw @ht (tw @Nat.le_refl (tw @fu (tw @eb (tw @LN (tw @xp (tw @NT @HR)))))))))))))) ?_;(repeat(refine Pn.mk ?_;intro N hN)))|((try apply Or.inl);refine⟨_,lv.x (iR) _,?_⟩;refine hN _ _ ?_;clear hN N)))
  refine cq ?_ ?_
  all_goals simp only[go_sem, ↓reduceIte,Nat.reduceEqDiff,Nat.reduceAdd,Nat.reduceSub,Nat.reduceLeDiff,reduceCtorEq,a4,ag0,a0,a3]
 ·(try((repeat(revert hN;revert N;apply Pn.out));refine wk (tw @a4 (tw @ag0 (tw @a0 (tw @a3 @hk)))) ?_;(repeat(refine Pn.mk ?_;intro N hN))))
  have fy:k=xs.length:=ah
  subst fy
  refine Ww (.inl rfl) (r0:=.own ⟨fk*1000000+1002,σ.next+1⟩ 0 xs.length) (sd (tw @a4 (tw @ag0 (tw @a0 @a3)))) ?_
  rw[rO]at ag0
  exact fB ag0 (by simp) fun x=>CF x _
theorem WC {fk:Nat} (hc:nK P fk=some (Nx fk (.int .i64 0))) (xs:List Int) (hlen:xs.length<=1048576):lv P fk [.sl (xs.map fun x=>[AV.int .i64 x])] (.sl (xs.map fun x=>[AV.int .i64 x])):=by
 refine lv.body hc rfl fun hl σ=>?_
 try simp only[q]
 clear hl
 obtain⟨en,DG⟩:∃en:Int->List AV,en=fun x=>[AV.int .i64 x]:=⟨_,rfl⟩
 rw[<-DG]
 have hm:(xs.length:Int)<=((16777216:Nat):Int):=ah
 have h0:(0:Int)<=(xs.length:Int):=ah
 (try((repeat(revert hN;revert N;apply Pn.out));refine wk (tw @hm (tw @h0 (tw @Int.le_refl (pG en [AV.int .i64 0] xs)))) ?_;(repeat(refine Pn.mk ?_;intro N hN))))
 refine aQ (fun n env st=>∃k:Nat,n=(xs.length)-k/\k<=(xs.length)/\env 4=.int .i64 (k:Int)/\st.get ⟨fk*1000000+1002,σ.next+1⟩=some ⟨true,1,iw en [AV.int .i64 0] xs k⟩) (xs.length) ⟨0,ah,ah,sl @Nat.zero_add,sl @Nat.zero_add⟩ ?_
 rintro n_a env_a st_a ⟨k,rfl,ale,a4,ag0⟩ dv
 have a0:=dv 0 (by kernel_rfl);have a3:=dv 3 (by kernel_rfl)
 simp only[go_sem, ↓reduceIte,Nat.reduceEqDiff,Nat.reduceAdd,Nat.reduceSub,Nat.reduceLeDiff,reduceCtorEq]at a0 a3
 clear dv
 by_cases hk:(k:Int)<(xs.length:Int)
 ·have cq:∀{e:Env} {gg:Rows},(e 4=.int .i64 (IntKind.i64.wrap ((k:Int)+1)))->(gg ⟨fk*1000000+1002,σ.next+1⟩=some ⟨true,1,iw en [AV.int .i64 0] xs (k+1)⟩)->∃m0,m0<(xs.length)-k/\∃k:Nat,m0=(xs.length)-k/\k<=(xs.length)/\e 4=.int .i64 (k:Int)/\gg ⟨fk*1000000+1002,σ.next+1⟩=some ⟨true,1,iw en [AV.int .i64 0] xs k⟩:=fun x1 x2=>⟨_,ah,k+1,rfl,ah,(by rw[x1,ay ah]),x2⟩
  have fy:k<xs.length:=ah
  have eP:(xs.map en)[k]? =some [AV.int .i64 xs[k]]:=by simp[fy,DG]
  have fu:=rP en [AV.int .i64 0] xs fy
  have eb:=rQ en [AV.int .i64 0] xs fy
  rw[show en xs[k]=[AV.int .i64 xs[k]] by rw[DG]]at eb
  (try((repeat(revert hN;revert N;apply Pn.out));refine wk (tw @a4 (tw @ag0 (tw @a0 (tw @a3 (tw @hk (tw @eP (tw @fu @eb))))))) ?_;(repeat(refine Pn.mk ?_;intro N hN))))
  refine cq ?_ ?_
  all_goals simp only[go_sem, ↓reduceIte,Nat.reduceEqDiff,Nat.reduceAdd,Nat.reduceSub,Nat.reduceLeDiff,reduceCtorEq,a4,ag0,a0,a3]
 ·(try((repeat(revert hN;revert N;apply Pn.out));refine wk (tw @a4 (tw @ag0 (tw @a0 (tw @a3 @hk)))) ?_;(repeat(refine Pn.mk ?_;intro N hN))))
  have fy:k=xs.length:=ah
  subst fy
  refine Ww (.inl rfl) (r0:=.own ⟨fk*1000000+1002,σ.next+1⟩ 0 xs.length) (sd (tw @a4 (tw @ag0 (tw @a0 @a3)))) ?_
  rw[rO]at ag0
  exact fB ag0 (by simp) fun x=>by simp[DG,aj,ar,aH]
end Go.Proofs.YtgoljkjaameagaaGreat.V

namespace Go.Proofs.YtgoljkjaameagaaGreat
open Go.RowKit
def Sl (w:World) (fp:List Nat) (v:Value) (n:Nat) (xs:List Value):Prop:=
 ∃A c,v=.slice A n c/\n<=c/\c<=maxLen/\
  ((fp=[]/\n=0)∨∃b o,fp=[b]/\A=some ⟨b,o,none⟩/\∀j u,xs[j]? =some u->w.cell? ⟨b,o+j,none⟩=some u)
def gI (fp:List Nat) (lo hi:Nat):Prop:=∀b∈fp,lo<=b/\b<hi
theorem gI.nil (lo hi:Nat):gI [] lo hi:=fun _ h=>by cases h
theorem Sl.nil (w:World):Sl w [] (.slice none 0 0) 0 []:=⟨none,0,rfl,Nat.le_refl _,by simp[maxLen],.inl ⟨rfl,rfl⟩⟩
def Rn {α:Type} (rep:World->List Nat->List Value->α->Prop) (sz:Nat) (w:World) (pH:List (List Value)) (HB:List (List Nat)) (ds:List α):Prop:=
 pH.length=ds.length/\HB.length=ds.length/\∀(i:Nat) (cs:List Value) (f:List Nat) (d:α),pH[i]? =some cs->HB[i]? =some f->ds[i]? =some d->rep w f cs d/\cs.length=sz
def nO {α:Type} (rep:World->List Nat->List Value->α->Prop) (sz:Nat) (w:World) (fp:List Nat) (v:Value) (ds:List α):Prop:=
 ∃pH HB YF,fp=YF++HB.flatten/\Sl w YF v ds.length pH.flatten/\Rn rep sz w pH HB ds
theorem r7 {α:Type} {HB:List (List α)} {i:Nat} {f:List α} (h:HB[i]? =some f):∀b∈f,b∈HB.flatten:=fun b hb=>
 List.mem_flatten.2 ⟨f,List.mem_of_getElem? h,hb⟩
theorem vw {α:Type} {pH:List (List α)} {sz:Nat} (h:∀cs∈pH,cs.length=sz) {i j:Nat} {cs:List α} (hi:pH[i]? =some cs) (hj:j<sz):pH.flatten[i*sz+j]? =cs[j]? :=by
 induction pH generalizing i with
 |nil=>simp at hi
 |cons c r ih=>
  have hc:c.length=sz:=h c (by simp)
  cases i with
  |zero=>
   simp at hi;subst hi
   rw[List.flatten_cons,List.getElem?_append_left (by omega)];simp
  |succ i=>
   rw[List.flatten_cons,List.getElem?_append_right (by rw[hc,Nat.succ_mul];omega)]
   have:(i+1)*sz+j-c.length=i*sz+j:=by rw[hc,Nat.succ_mul];omega
   rw[this]
   exact ih (fun cs dx=>h cs (List.mem_cons_of_mem _ dx)) (by simpa using hi)
theorem Rn.lens {α:Type} {rep:World->List Nat->List Value->α->Prop} {sz:Nat} {w:World} {pH:List (List Value)} {HB:List (List Nat)} {ds:List α}
  (h:Rn rep sz w pH HB ds):∀cs∈pH,cs.length=sz:=fun cs dx=>by
 obtain⟨i,hi,rfl⟩:=List.getElem_of_mem dx
 have h1:i<HB.length:=by rw[h.2.1,<-h.1];exact hi
 have h2:i<ds.length:=by rw[<-h.1];exact hi
 exact(h.2.2 i _ _ _ (List.getElem?_eq_getElem hi) (List.getElem?_eq_getElem h1) (List.getElem?_eq_getElem h2)).2
theorem nO.at_ {α:Type} {rep:World->List Nat->List Value->α->Prop} {sz:Nat} {w:World} {fp:List Nat} {A:Option Addr} {n c:Nat} {ds:List α}
  (h:nO rep sz w fp (.slice A n c) ds) (k:Nat) (hk:k<ds.length):
  ∃b o cs f,A=some ⟨b,o,none⟩/\b∈fp/\(∀x∈f,x∈fp)/\rep w f cs ds[k]/\cs.length=sz/\∀j u,cs[j]? =some u->w.cell? ⟨b,o+(k*sz+j),none⟩=some u:=by
 obtain⟨pH,HB,YF,rfl,⟨A',c',hv,_,_,hc⟩,hr⟩:=h
 simp only[Value.slice.injEq]at hv
 obtain⟨rfl,hn,rfl⟩:=hv
 rcases hc with⟨_,h0⟩|⟨b,o,rfl,rfl,hc⟩
 ·omega
 have h1:k<pH.length:=by rw[hr.1];exact hk
 have h2:k<HB.length:=by rw[hr.2.1];exact hk
 obtain⟨il,hl⟩:=hr.2.2 k _ _ _ (List.getElem?_eq_getElem h1) (List.getElem?_eq_getElem h2) (List.getElem?_eq_getElem hk)
 refine⟨b,o,pH[k],HB[k],rfl,by simp,fun x hx=>List.mem_append_right _ (r7 (List.getElem?_eq_getElem h2) x hx),il,hl,fun j u hj=>?_⟩
 have gY:j<sz:=by rw[<-hl];exact(List.getElem?_eq_some_iff.1 hj).1
 exact hc _ u (by rw[vw hr.lens (List.getElem?_eq_getElem h1) gY];exact hj)
theorem nO.len {α:Type} {rep:World->List Nat->List Value->α->Prop} {sz:Nat} {w:World} {fp:List Nat} {v:Value} {ds:List α}
  (h:nO rep sz w fp v ds):∃A c,v=.slice A ds.length c/\ds.length<=c/\c<=maxLen:=by
 obtain⟨_,_,_,_,⟨A,c,hv,h1,h2,_⟩,_⟩:=h
 exact⟨A,c,hv,h1,h2⟩
theorem nO.nil {α:Type} (rep:World->List Nat->List Value->α->Prop) (sz:Nat) (w:World):nO rep sz w [] (.slice none 0 0) ([]:List α):=
 ⟨[],[],[],rfl,Sl.nil w,rfl,rfl,fun i cs f d hc=>by simp at hc⟩
def Flat {α:Type} (enc:α->List Value):World->List Nat->List Value->α->Prop:=fun _ f cs d=>f=[]/\cs=enc d
def Q (w w':World):Prop:=∃q,w'=w.drewN q
theorem UR {B:Nat} {a w:World} (h:Below B a w) (n:Nat):Below B a (w.drewN n):=⟨h.os,h.tape,h.output,h.size,h.block⟩
theorem jd {a b:Bool} (h:a=b):Ending.returned (.bool a)=.returned (.bool b):=by rw[h]
theorem H7 {k:IntKind} {a b:Int} (h:a=b):Ending.returned (.int k a)=.returned (.int k b):=by rw[h]
def Unf (w:World) (b:Nat):Prop:=∃cs e,w.heap[b]? =some (.cells cs e (0,0))
def putCells (w:World) (g:Nat):Nat->List Value->World
 |_,[]=>w
 |i,v::r=>putCells (w.setCell ⟨g,i,none⟩ v) g (i+1) r
structure Only (fp:List Nat) (w w':World):Prop where
 os:w'.os=w.os
 tape:w'.tape=w.tape
 output:w'.output=w.output
 size:w.heap.size<=w'.heap.size
 block:∀x,x<w.heap.size->x∉fp->w'.heap[x]? =w.heap[x]?
 unf:∀x,Unf w x->Unf w' x
structure aq where
 eE:Int
 ez:Int
deriving DecidableEq
structure aa where
 aJ:aq
 br:Int
deriving DecidableEq
structure iP where
 ai:List aa
deriving DecidableEq
structure gh where
 aP:ByteArray
 eK:Int
deriving DecidableEq
structure fb where
 aP:ByteArray
 bV:List Int
deriving DecidableEq
structure ax where
 aB:List gh
 ai:List fb
deriving DecidableEq
structure aE where
 aC:ax
 bY:iP
 az:Int
deriving DecidableEq
def IP (d:Int):List Value:=[.int .i64 d]
def Hm:=Flat IP
def gx (d:aq):List Value:=[.int .i64 d.eE,.int .i64 d.ez]
def fe (d:aa):List Value:=[.int .i64 d.aJ.eE,.int .i64 d.aJ.ez,.int .i64 d.br]
def CQ:=Flat fe
def lG:=nO CQ 3
def Lm (d:gh):List Value:=[.string d.aP,.int .i64 d.eK]
def KN:=Flat Lm
def sF:=nO KN 2
def xl:=nO Hm 1
def KO (w:World) (f:List Nat) (cs:List Value) (d:fb):Prop:=
 ∃v1 f1,f=f1/\cs=[.string d.aP,v1]/\xl w f1 v1 d.bV
def sG:=nO KO 2
end Go.Proofs.YtgoljkjaameagaaGreat

namespace Go.Proofs.YtgoljkjaameagaaGreat.V
open Go.RowKit
variable {P:Program} {w:World} {D:Nat->Prop}
def KH (P:Program) (w:World) (D:Nat->Prop) (al:List AV) (cs:List Value):Prop:=∀(j:Nat) (a:AV),al[j]? =some a->∃u:Value,cs[j]? =some u/\kd P w D a u
theorem tJ {α:Type} {rep:World->List Nat->List Value->α->Prop} {e:α->List AV} {sz:Nat} {f:List Nat} {v:Value} {xs:List α} (h:nO rep sz w f v xs) (hD:∀b∈f,D b)
  (hl:∀x∈xs,(e x).length=sz) (hc:∀x∈xs,∀a∈e x,a.cell=true) (hr:∀x∈xs,∀f' cs,rep w f' cs x->(∀b∈f',D b)->KH P w D (e x) cs):kd P w D (.sl (xs.map e)) v:=by
 obtain⟨A,c,rfl,h1,h2⟩:=nO.len h
 by_cases h0:xs=[]
 ·subst h0;exact .CJ _ _ h2
 have jO:0<xs.length:=List.length_pos_iff.2 h0
 obtain⟨b,o,Ua,f0,rfl,hb,XB,ZX,OZ,kb⟩:=nO.at_ h 0 jO
 have key:∀(i:Nat) (hi:i<xs.length),∃cs f',(∀x∈f',x∈f)/\rep w f' cs xs[i]/\cs.length=sz/\∀j u,cs[j]? =some u->w.cell? ⟨b,o+(i*sz+j),none⟩=some u:=by
  intro i hi
  obtain⟨b',o',cs,f',Xw,_,nh,pf,dx,k7⟩:=nO.at_ h i hi
  simp only[Option.some.injEq,Addr.mk.injEq,and_true]at Xw
  obtain⟨rfl,rfl⟩:=Xw
  exact⟨cs,f',nh,pf,dx,k7⟩
 refine .sl _ b o _ c sz (fun i j=>(w.cell? ⟨b,o+(i*sz+j),none⟩).getD Go.undef) (by simp) h1 h2 (hD b hb) ?_ ?_ ?_ ?_
 ·intro cs dx
  obtain⟨x,hx,rfl⟩:=List.mem_map.1 dx
  exact hl x hx
 ·intro cs dx
  obtain⟨x,hx,rfl⟩:=List.mem_map.1 dx
  exact hc x hx
 ·intro i j hi hj
  obtain⟨cs,f',_,_,dx,k7⟩:=key i hi
  rw[k7 j cs[j] (List.getElem?_eq_getElem ah)]
  rfl
 ·intro i j cs a dx ha
  have hi:i<xs.length:=by
   have:=(List.getElem?_eq_some_iff.1 dx).1
   simpa using this
  obtain⟨rl,f',nh,pf,hcs',k7⟩:=key i hi
  simp[hi]at dx
  subst dx
  obtain⟨u,hu,him⟩:=hr _ (List.getElem_mem hi) f' rl pf (fun b hb=>hD b (nh b hb)) j a ha
  rw[k7 j u hu]
  exact him
end Go.Proofs.YtgoljkjaameagaaGreat.V

namespace Go.Proofs.YtgoljkjaameagaaGreat.V
open Go.RowKit
variable {P:Program} {w:World} {D:Nat->Prop}
def aU (d:Int):List AV:=[.int .i64 d]
def ae (d:aq):List AV:=[.int .i64 d.eE,.int .i64 d.ez]
def ab (d:aa):List AV:=[.int .i64 d.aJ.eE,.int .i64 d.aJ.ez,.int .i64 d.br]
def eu (d:iP):List AV:=[.sl (d.ai.map ab)]
def cm (d:gh):List AV:=[.str d.aP,.int .i64 d.eK]
def bR (d:fb):List AV:=[.str d.aP,.sl (d.bV.map aU)]
def ad (d:ax):List AV:=[.sl (d.aB.map cm),.sl (d.ai.map bR)]
def aA (d:aE):List AV:=[.sl (d.aC.aB.map cm),.sl (d.aC.ai.map bR),.sl (d.bY.ai.map ab),.int .i64 d.az]
theorem CP {f:List Nat} {v:Value} {xs:List aa} (h:lG w f v xs) (hD:∀b∈f,D b):kd P w D (.sl (xs.map ab)) v:=
 tJ h hD (fun _ _=>rfl) (fun x _ a ha=>by simp[ab]at ha;rcases ha with rfl|rfl|rfl<;>rfl) fun x _ f' cs hr hf=>by
  obtain⟨_,rfl⟩:=hr
  intro j a ha
  match j,ha with
  |0,ha=>simp[ab]at ha;subst ha;exact⟨_,rfl,.int _ _⟩
  |1,ha=>simp[ab]at ha;subst ha;exact⟨_,rfl,.int _ _⟩
  |2,ha=>simp[ab]at ha;subst ha;exact⟨_,rfl,.int _ _⟩
  |j+3,ha=>simp[ab]at ha
theorem Im {f:List Nat} {v:Value} {xs:List gh} (h:sF w f v xs) (hD:∀b∈f,D b):kd P w D (.sl (xs.map cm)) v:=
 tJ h hD (fun _ _=>rfl) (fun x _ a ha=>by simp[cm]at ha;rcases ha with rfl|rfl<;>rfl) fun x _ f' cs hr hf=>by
  obtain⟨_,rfl⟩:=hr
  intro j a ha
  match j,ha with
  |0,ha=>simp[cm]at ha;subst ha;exact⟨_,rfl,.str _⟩
  |1,ha=>simp[cm]at ha;subst ha;exact⟨_,rfl,.int _ _⟩
  |j+2,ha=>simp[cm]at ha
theorem Fm {f:List Nat} {v:Value} {xs:List Int} (h:xl w f v xs) (hD:∀b∈f,D b):kd P w D (.sl (xs.map aU)) v:=
 tJ h hD (fun _ _=>rfl) (fun x _ a ha=>by simp[aU]at ha;rcases ha with rfl<;>rfl) fun x _ f' cs hr hf=>by
  obtain⟨_,rfl⟩:=hr
  intro j a ha
  match j,ha with
  |0,ha=>simp[aU]at ha;subst ha;exact⟨_,rfl,.int _ _⟩
  |j+1,ha=>simp[aU]at ha
theorem Iq {f:List Nat} {v:Value} {xs:List fb} (h:sG w f v xs) (hD:∀b∈f,D b):kd P w D (.sl (xs.map bR)) v:=
 tJ h hD (fun _ _=>rfl) (fun x _ a ha=>by simp[bR]at ha;rcases ha with rfl|rfl<;>rfl) fun x _ f' cs hr hf=>by
  obtain⟨v1,f1,rfl,rfl,h1⟩:=hr
  intro j a ha
  match j,ha with
  |0,ha=>simp[bR]at ha;subst ha;exact⟨_,rfl,.str _⟩
  |1,ha=>simp[bR]at ha;subst ha;exact⟨_,rfl,Fm h1 hf⟩
  |j+2,ha=>simp[bR]at ha
theorem Fp {d:aE} {f0:List Nat} {v0:Value} (h0:sF w f0 v0 d.aC.aB) (d0:∀b∈f0,D b) {f1:List Nat} {v1:Value} (h1:sG w f1 v1 d.aC.ai) (d1:∀b∈f1,D b) {f2:List Nat} {v2:Value} (h2:lG w f2 v2 d.bY.ai) (d2:∀b∈f2,D b):kd P w D (.agg (aA d)) (.agg #[v0,v1,v2,.int .i64 d.az]):=by
 refine .agg _ _ (fun j=>(#[v0,v1,v2,.int .i64 d.az]:Array Value).getD j Go.undef) rfl (fun a ha=>by simp[aA]at ha;rcases ha with rfl|rfl|rfl|rfl<;>rfl) (fun j hj=>?_) (fun j a ha=>?_)
 ·match j,hj with
  |0,_=>rfl
  |1,_=>rfl
  |2,_=>rfl
  |3,_=>rfl
  |j+4,hj=>simp[aA]at hj<;>omega
 ·match j,ha with
  |0,ha=>simp[aA]at ha;subst ha;exact Im h0 d0
  |1,ha=>simp[aA]at ha;subst ha;exact Iq h1 d1
  |2,ha=>simp[aA]at ha;subst ha;exact CP h2 d2
  |3,ha=>simp[aA]at ha;subst ha;exact .int _ _
  |j+4,ha=>simp[aA]at ha
end Go.Proofs.YtgoljkjaameagaaGreat.V

namespace Go.Proofs.YtgoljkjaameagaaGreat.V
open Go.RowKit
attribute [local irreducible] dK wpOps gw Call
attribute [local go_sem] aM fE eM fV fS dc upd cr K.av cI AV.cells AV.cell rowOf rowsOf part ld rowAt bE cj dy dS gU bJ cY ee fQ e6 dp dX cW cV dI dJ bP bc cL bL cP cN dV dY dW cK bU cX dU bK aO cR cC gT bw cG bQ aY dj aZ dz AV.undef bD bG dM dQ dE dG cE ec eh cz ea dZ cQ cU List.getD_cons_zero List.getD_cons_succ List.getD_nil List.all_cons List.all_nil Bool.and_true Bool.true_and Bool.and_self Bool.not_true Bool.not_false Option.map_some Option.map_none Option.bind_some Option.bind_none List.length_cons List.length_nil List.take_succ_cons List.take_zero List.take_nil List.drop_succ_cons List.drop_zero List.drop_nil List.head?_cons List.map_cons List.map_nil List.getElem?_cons_zero List.getElem?_cons_succ List.cons_append List.nil_append List.append_nil List.length_map List.set_cons_zero List.set_cons_succ Nat.reduceMul eq_self Int.toNat_natCast Int.natCast_nonneg and_self true_and and_true decide_true decide_false Bool.false_eq_true Nat.zero_add Nat.add_zero List.contains_cons List.contains_nil Bool.or_false Bool.false_or beq_self_eq_true Nat.reduceBEq ne_eq not_true_eq_false not_false_eq_true Id.mk.injEq false_and and_false Nat.reduceLT Int.reduceLE Int.reduceLT Int.reduceToNat Int.reduceNeg Int.reduceAdd Nat.le_refl List.length_append beq_true beq_false Bool.not_eq_eq_eq_not or_false false_or dH aj ar aH bh bz ck aV bd aX bf cJ bB
variable {P:Program}
theorem Hh {X:gn} {Q:Ex->Env->aw->Prop} {N:Env->aw->Prop} {c:VC} {env:Env} {σ:aw} (I:Env->aw->Prop) (h2:∀e s,I e s->N e s) (h1:∀N':Env->aw->Prop,(∀e s,I e s->N' e s)->dK X c (dj N' Q) env σ):dK X c (dj N Q) env σ:=h1 N h2
def xW (f z:Nat) (a:Bool):A4:=let s:=f*1000000
 ⟨19,2,(.seq (.eQ false [q 4 (.dr (.k (.int .i64 0))) s]) (.seq (.seq (.eQ false [q 6 (.dr (.t 0)) (s+1000),q 7 (.len (.t 6)) (s+1001),q 8 (.dr (.k (.int .i64 0))) (s+1002)]) (.block 0 (.loop (.seq (.eQ false [q 9 (.bin .lss .i64 (.t 8) (.t 7)) (s+2000)]) (.seq (.cond (.t 9) .skip (.exit 0)) (.seq (.block 1 (.seq (.eQ false [q 10 (.dr (.t 8)) (s+3000),q 5 (.dr (.t 10)) (s+3001)]) (.seq (.eQ false [q 11 (.dr (.t 1)) (s+4000),q 12 (.dr (.t 0)) (s+4001),q 13 (.dr (.t 5)) (s+4002),q 14 (.ek z (.t 12) (.t 13)) (s+4003),q 15 (.load a z (.t 14)) (s+4004),q 16 (.vk (.t 11) [(.t 15)]) (s+4005)]) (.cond (.t 16) (.seq (.eQ false [q 17 (.dr (.t 5)) (s+5000),q 4 (.dr (.t 17)) (s+5001)]) .ret) .skip)))) (.eQ false [q 18 (.bin .add .i64 (.t 8) (.k (.int .i64 1))) (s+6000),q 8 (.dr (.t 18)) (s+6001)]))))))) (.seq (.eQ false [q 4 (.dr (.k (.int .i64 (-1)))) (s+7000)]) .ret))),[(.tmp 4)]⟩
def FZ (f g:Nat):A4:=let s:=f*1000000
 ⟨9,2,(.seq (.eQ false [q 4 (.dr (.k (.bool false))) s]) (.seq (.eQ false [q 5 (.dr (.t 0)) (s+1000),q 6 (.dr (.t 1)) (s+1001),q 7 (.call g [(.t 5),(.t 6)]) (s+1002),q 8 (.bin .geq .i64 (.t 7) (.k (.int .i64 0))) (s+1003),q 4 (.dr (.t 8)) (s+1004)]) .ret)),[(.tmp 4)]⟩
def k6 {α:Type} (p:α->Bool) (xs:List α):Int:=if xs.findIdx p<xs.length then(xs.findIdx p:Int)else -1
theorem Lt {α:Type} (p:α->Bool) (xs:List α):decide (0<=k6 p xs)=xs.any p:=by
 unfold k6
 by_cases h:xs.findIdx p<xs.length
 ·rw[if_pos h]
  have:xs.any p=true:=List.any_eq_true.2 (List.findIdx_lt_length.1 h)
  rw[this];simp
 ·rw[if_neg h]
  have:xs.any p=false:=by
   rw[Bool.eq_false_iff]
   intro hc
   exact h (List.findIdx_lt_length.2 (List.any_eq_true.1 hc))
  rw[this];rfl
theorem wN (a:AV) (l m:List AV):a::l++m=a::(l++m):=rfl
theorem A9 (l:List AV):[]++l=l:=rfl
structure UK {α:Type} (e:α->List AV) (v:α->AV) (z:Nat) (a:Bool):Prop where
 len:∀x,(e x).length=z
 val:∀x,if a=true then v x=.agg (e x)else e x=[v x]
 fz:∀x g,cZ g 6 [v x]=some [v x]
theorem vM {α:Type} {e:α->List AV} {v:α->AV} {z fk:Nat} {a:Bool} (hE:UK e v z a) (hc:nK P fk=some (xW fk z a)) (xs:List α) (hlen:xs.length<=1048576) (f:Nat) (dh:List AV) (p:α->Bool)
  (hf:∀x∈xs,au P f (v x::dh) (.bool (p x))) (LQ:∀g,cZ g 6 dh=some dh):
  au P fk [.sl (xs.map e),.fn f dh] (.int .i64 (k6 p xs)):=by
 refine au.body hc rfl fun hl n0=>?_
 try simp only[q]
 clear hl
 (try((repeat(revert hN;revert N;apply Pn.out));refine wk @Nat.zero_add ?_;(repeat(refine Pn.mk ?_;intro N hN))))
 refine aQ (fun n env st=>∃k:Nat,n=(xs.length)-k/\k<=(xs.length)/\env 8=.int .i64 (k:Int)/\(∀j:Nat,j<k->∀h:j<xs.length,p xs[j]=false)) (xs.length) ⟨0,ah,ah,sl @Nat.zero_add,fun _ h=>absurd h (Nat.not_lt_zero _)⟩ ?_
 rintro n_a env_a st_a ⟨k,rfl,ale,a8,nP⟩ dv
 have a0:=dv 0 (by kernel_rfl);have a1:=dv 1 (by kernel_rfl);have a7:=dv 7 (by kernel_rfl)
 simp only[go_sem, ↓reduceIte,Nat.reduceEqDiff,Nat.reduceAdd,Nat.reduceSub,Nat.reduceLeDiff,reduceCtorEq]at a0 a1 a7
 clear dv
 by_cases hk:(k:Int)<(xs.length:Int)
 ·have cq:∀{e:Env},(e 8=.int .i64 (IntKind.i64.wrap ((k:Int)+1)))->(∀h:k<xs.length,p xs[k]=false)->∃m0,m0<(xs.length)-k/\∃k:Nat,m0=(xs.length)-k/\k<=(xs.length)/\e 8=.int .i64 (k:Int)/\(∀j:Nat,j<k->∀h:j<xs.length,p xs[j]=false):=fun x1 x2=>⟨_,ah,k+1,rfl,ah,(by rw[x1,ay ah]),(all_succ nP x2)⟩
  have fy:k<xs.length:=ah
  have hg:(xs.map e)[k]? =some (e xs[k]):=by simp[fy]
  have zt:=hf _ (List.getElem_mem fy)
  have hz:=hE.len xs[k]
  have hv:=hE.val xs[k]
  have jP:cZ (dH st_a.get) 6 (v xs[k]::dh)=some (v xs[k]::dh):=by
   have h1:=hE.fz xs[k] (dH st_a.get)
   rw[aj,ar]at h1
   rw[aj,LQ]
   revert h1
   cases V.fz (dH st_a.get) 6 (v xs[k])<;>simp
  have fin:∀hN:True,(p xs[k]=true->xs.findIdx p=k):=fun _ hp=>by
   rw[List.findIdx_eq fy];exact⟨hp,fun j hj=>nP j hj ah⟩
  cases hp:p xs[k]
  ·have XO:=hp
   cases a
   ·rw[if_neg (by simp)]at hv
    have w6:z=1:=by rw[<-hz,hv];rfl
    subst w6
    rw[hv]at hg hz
    rw[hp]at zt
    generalize v xs[k]=c at zt jP hg hz
    (try((repeat(revert hN;revert N;apply Pn.out));refine wk (tw @a8 (tw @a0 (tw @a1 (tw @a7 (tw @hk (tw @hg (tw @hz (tw @wN @A9)))))))) ?_;(repeat(refine Pn.mk ?_;intro N hN))))
    refine .inl ⟨_,au.x zt jP,?_⟩
    refine hN _ _ ?_
    clear hN N
    (try((repeat(revert hN;revert N;apply Pn.out));refine wk (tw @a8 (tw @a0 (tw @a1 @a7))) ?_;(repeat(refine Pn.mk ?_;intro N hN))))
    exact cq (sd (tw @a8 (tw @a0 (tw @a1 @a7)))) (fun _=>XO)
   ·rw[if_pos rfl]at hv
    have ht:(e xs[k]).take z=e xs[k]:=by rw[<-hz,List.take_length]
    rw[hv]at zt jP
    rw[hp]at zt
    generalize e xs[k]=c at zt jP hg hz ht
    (try((repeat(revert hN;revert N;apply Pn.out));refine wk (tw @a8 (tw @a0 (tw @a1 (tw @a7 (tw @hk (tw @hg (tw @hz (tw @ht (tw @wN (tw @A9 @Nat.le_refl)))))))))) ?_;(repeat(refine Pn.mk ?_;intro N hN))))
    refine .inl ⟨_,au.x zt jP,?_⟩
    refine hN _ _ ?_
    clear hN N
    (try((repeat(revert hN;revert N;apply Pn.out));refine wk (tw @a8 (tw @a0 (tw @a1 @a7))) ?_;(repeat(refine Pn.mk ?_;intro N hN))))
    exact cq (sd (tw @a8 (tw @a0 (tw @a1 @a7)))) (fun _=>XO)
  ·have hi:=fin trivial hp
   cases a
   ·rw[if_neg (by simp)]at hv
    have w6:z=1:=by rw[<-hz,hv];rfl
    subst w6
    rw[hv]at hg hz
    rw[hp]at zt
    generalize v xs[k]=c at zt jP hg hz
    (try((repeat(revert hN;revert N;apply Pn.out));refine wk (tw @a8 (tw @a0 (tw @a1 (tw @a7 (tw @hk (tw @hg (tw @hz (tw @wN @A9)))))))) ?_;(repeat(refine Pn.mk ?_;intro N hN))))
    refine .inl ⟨_,au.x zt jP,?_⟩
    refine hN _ _ ?_
    clear hN N
    (try((repeat(revert hN;revert N;apply Pn.out));refine wk (tw @a8 (tw @a0 (tw @a1 @a7))) ?_;(repeat(refine Pn.mk ?_;intro N hN))))
    exact da (b:=(k:Int)) (.inl rfl) (sd @Nat.zero_add) (by rw[k6,hi,if_pos fy])
   ·rw[if_pos rfl]at hv
    have ht:(e xs[k]).take z=e xs[k]:=by rw[<-hz,List.take_length]
    rw[hv]at zt jP
    rw[hp]at zt
    generalize e xs[k]=c at zt jP hg hz ht
    (try((repeat(revert hN;revert N;apply Pn.out));refine wk (tw @a8 (tw @a0 (tw @a1 (tw @a7 (tw @hk (tw @hg (tw @hz (tw @ht (tw @wN (tw @A9 @Nat.le_refl)))))))))) ?_;(repeat(refine Pn.mk ?_;intro N hN))))
    refine .inl ⟨_,au.x zt jP,?_⟩
    refine hN _ _ ?_
    clear hN N
    (try((repeat(revert hN;revert N;apply Pn.out));refine wk (tw @a8 (tw @a0 (tw @a1 @a7))) ?_;(repeat(refine Pn.mk ?_;intro N hN))))
    exact da (b:=(k:Int)) (.inl rfl) (sd @Nat.zero_add) (by rw[k6,hi,if_pos fy])
 ·(try((repeat(revert hN;revert N;apply Pn.out));refine wk (tw @a8 (tw @a0 (tw @a1 (tw @a7 @hk)))) ?_;(repeat(refine Pn.mk ?_;intro N hN))))
  have hi:¬xs.findIdx p<xs.length:=by
   rw[List.findIdx_lt_length]
   rintro⟨x,hx,SL⟩
   obtain⟨j,hj,rfl⟩:=List.getElem_of_mem hx
   rw[nP j ah hj]at SL;cases SL
  exact da (b:=-1) (.inl rfl) (sd @Nat.zero_add) (by rw[k6,if_neg hi])
theorem pE {α:Type} {e:α->List AV} {v:α->AV} {z fk gk:Nat} {a:Bool} (hE:UK e v z a) (hc:nK P fk=some (FZ fk gk)) (F1:nK P gk=some (xW gk z a)) (xs:List α) (hlen:xs.length<=1048576) (f:Nat) (dh:List AV) (p:α->Bool) (DE:dh.all AV.cell=true) (CF:∀g,cZ g 5 dh=some dh)
  (hf:∀x∈xs,au P f (v x::dh) (.bool (p x))) (LQ:∀g,cZ g 6 dh=some dh):
  au P fk [.sl (xs.map e),.fn f dh] (.bool (xs.any p)):=by
 refine au.body hc rfl fun hl n0=>?_
 try simp only[q]
 clear hl
 have hi:=vM hE F1 xs hlen f dh p hf LQ
 (repeat(first|((repeat(revert hN;revert N;apply Pn.out));refine wk (tw @DE @CF) ?_;(repeat(refine Pn.mk ?_;intro N hN)))|((try apply Or.inl);refine⟨_,au.x (hi) (sd (tw @DE @CF)),?_⟩;refine hN _ _ ?_;clear hN N)))
 exact bp (b:=decide (0<=k6 p xs)) (.inl rfl) (sd @Nat.zero_add) (Lt p xs)
end Go.Proofs.YtgoljkjaameagaaGreat.V

namespace Go.Proofs.YtgoljkjaameagaaGreat.V
open Go.RowKit
def tk (P:Program) (mk:Bool):List Oper->Nat->List Nat
 |[],_=>[]
 |o::r,i=>match sq P o.op with
  |some v=>if r6 v||mk&&v.mQ then i::tk P mk r (i+1)else tk P mk r (i+1)
  |none=>tk P mk r (i+1)
def Bd (P:Program) (ops:Array Oper) (site0:Nat) (mk:Bool) (bs:Array Nat) (hidden:List Nat):List Oper->Nat->Option (List bx)
 |[],_=>some []
 |o::r,j=>do
  let v <-sq P o.op
  let g <-FB ops o
  pure ({dst:=o.dst,op:=v,guard:=g,site:=site0+j,hid:=(hidden.filter fun i=> !(bs.getD j 0).testBit i&&(i !=j||mk&&v.mQ)).map fun i=>site0+i}::(<-Bd P ops site0 mk bs hidden r (j+1)))
def rJ (P:Program) (md:List (Nat×Nat)) (fid:Nat):Code->Option VC
 | .skip=>some .skip
 | .region id ops draw=>if draw then(Bd P ops ((fid*1000+id)*1000) (yl md id==1) (j3 ops) (tk P (yl md id==1) ops.toList 0) ops.toList 0).map (VC.eQ true)else(Bd P ops ((fid*1000+id)*1000) false #[] [] ops.toList 0).map (if ops.toList.any fun o=>Q3 o.op then VC.RI else VC.eQ false)
 | .seq a b=>do pure (.seq (<-rJ P md fid a) (<-rJ P md fid b))
 | .cond c x y=>do pure (.cond (<-cO P c) (<-rJ P md fid x) (<-rJ P md fid y))
 | .block id c=>(rJ P md fid c).map (VC.block id)
 | .loop c=>(rJ P md fid c).map VC.loop
 | .exit id=>some (.exit id)
 | .ret=>some .ret
 |_=>none
def US (P:Program) (md:List (Nat×Nat)) (f:Nat):Option A4:=
 match P.funcs[f]? with
 |some fn=>match fn.body with
  |some c=>do
   let b <-rJ P md f c
   let r <-fn.results.toList.mapM (FC P)
   pure {ntmps:=fn.ntmps,Ay:=fn.params.size+fn.nfree,body:=b,res:=r}
  |none=>none
 |none=>none
theorem cfM {P:Program} (md:List (Nat×Nat)) {f:Nat} {v:A4} (_:US P md f=some v:=by(conv=>lhs;cbv)<;>exact rfl) (h:xt P f md=some v:=by kernel_rfl):xt P f md=some v:=h
theorem eF {P:Program} {f:Nat} {v:A4} (_:US P [] f=some v:=by(conv=>lhs;cbv)<;>exact rfl) (h:nK P f=some v:=by kernel_rfl):nK P f=some v:=h
def TB:A4:=⟨77,2,(.seq (.eQ false [q 4 (.dr (.k .iA)) 251000000]) (.seq (.eQ false [q 7 (.dr (.t 0)) 251001000,q 8 (.dr (.t 1)) 251001001,q 9 (.build [(.int .i64 0),.bI,.bI,.bI] [(0,(1,(.t 7))),(1,(1,(.t 8)))]) 251001002,q 10 (.box (.t 9)) 251001003,q 5 (.dr (.t 10)) 251001004]) (.seq (.eQ false [q 11 (.dr (.t 5)) 251002000,q 12 (.dr (.t 0)) 251002001,q 13 (.kG [.bI] (.t 12) (.t 12)) 251002002,q 14 (.zU (.t 11)) 251002003,q 15 (.gp 2 (.t 14)) 251002004,⟨none,(.store 1 (.t 15) (.t 13)),none,251002005,[]⟩]) (.seq (.eQ false [q 16 (.dr (.t 5)) 251003000,q 17 (.dr (.t 1)) 251003001,q 18 (.len (.t 17)) 251003002,q 19 (.kG [(.int .i64 0)] (.t 18) (.t 18)) 251003003,q 20 (.zU (.t 16)) 251003004,q 21 (.gp 3 (.t 20)) 251003005,⟨none,(.store 1 (.t 21) (.t 19)),none,251003006,[]⟩]) (.seq (.seq (.eQ false [q 6 (.dr (.k (.int .i64 0))) 251004000]) (.block 0 (.loop (.seq (.seq (.eQ false [q 22 (.dr (.t 6)) 251005000,q 23 (.dr (.t 1)) 251005001,q 24 (.len (.t 23)) 251005002,q 25 (.bin .lss .i64 (.t 22) (.t 24)) 251005003]) (.cond (.t 25) .skip (.exit 0))) (.seq (.block 1 (.seq (.one ⟨(some 28),(.dr (.t 5)),none,251007000,[251007021,251007022,251007024]⟩ (.one ⟨(some 29),(.zU (.t 28)),none,251007001,[251007021,251007022,251007024]⟩ (.one ⟨(some 30),(.gp 2 (.t 29)),none,251007002,[251007021,251007022,251007024]⟩ (.one ⟨(some 32),(.dr (.t 1)),none,251007004,[251007021,251007022,251007024]⟩ (.one ⟨(some 33),(.dr (.t 6)),none,251007005,[251007021,251007022,251007024]⟩ (.one ⟨(some 37),(.dr (.t 5)),none,251007009,[251007021,251007022,251007024]⟩ (.one ⟨(some 38),(.zU (.t 37)),none,251007010,[251007021,251007022,251007024]⟩ (.one ⟨(some 39),(.gp 2 (.t 38)),none,251007011,[251007021,251007022,251007024]⟩ (.one ⟨(some 40),(.load false 1 (.t 39)),none,251007012,[251007021,251007022,251007024]⟩ (.one ⟨(some 41),(.dr (.t 1)),none,251007013,[251007021,251007022,251007024]⟩ (.one ⟨(some 42),(.dr (.t 6)),none,251007014,[251007021,251007022,251007024]⟩ (.one ⟨(some 43),(.ek 3 (.t 41) (.t 42)),none,251007015,[251007021,251007022,251007024]⟩ (.one ⟨(some 44),(.gp 0 (.t 43)),none,251007016,[251007021,251007022,251007024]⟩ (.one ⟨(some 45),(.load false 1 (.t 44)),none,251007017,[251007021,251007022,251007024]⟩ (.one ⟨(some 46),(.ek 1 (.t 40) (.t 45)),none,251007018,[251007021,251007022,251007024]⟩ (.one ⟨(some 47),(.load false 1 (.t 46)),none,251007019,[251007021,251007022,251007024]⟩ (.one ⟨(some 48),(.dr (.t 6)),none,251007020,[251007021,251007022,251007024]⟩ (.one ⟨(some 49),(.lO 1 1 [(.t 48)]),none,251007021,[251007022,251007024]⟩ (.both (.one ⟨(some 31),(.load false 1 (.t 30)),none,251007003,[251007021,251007022,251007024]⟩ (.both (.one ⟨(some 34),(.ek 3 (.t 32) (.t 33)),none,251007006,[251007021,251007022,251007024]⟩ (.one ⟨(some 35),(.gp 0 (.t 34)),none,251007007,[251007021,251007022,251007024]⟩ (.both (.one ⟨(some 36),(.load false 1 (.t 35)),none,251007008,[251007021,251007022,251007024]⟩ (.one ⟨(some 50),(.append 1 (.t 47) (.t 49)),none,251007022,[251007024]⟩ (.one ⟨(some 51),(.ek 1 (.t 31) (.t 36)),none,251007023,[251007024]⟩ (.one ⟨none,(.store 1 (.t 51) (.t 50)),none,251007024,[]⟩ (.eQ false []))))) (.one ⟨(some 50),(.append 1 (.t 47) (.t 49)),none,251007022,[251007024]⟩ (.one ⟨(some 36),(.load false 1 (.t 35)),none,251007008,[251007021,251007022,251007024]⟩ (.one ⟨(some 51),(.ek 1 (.t 31) (.t 36)),none,251007023,[251007024]⟩ (.one ⟨none,(.store 1 (.t 51) (.t 50)),none,251007024,[]⟩ (.eQ false [])))))))) (.one ⟨(some 50),(.append 1 (.t 47) (.t 49)),none,251007022,[251007024]⟩ (.one ⟨(some 34),(.ek 3 (.t 32) (.t 33)),none,251007006,[251007021,251007022,251007024]⟩ (.one ⟨(some 35),(.gp 0 (.t 34)),none,251007007,[251007021,251007022,251007024]⟩ (.one ⟨(some 36),(.load false 1 (.t 35)),none,251007008,[251007021,251007022,251007024]⟩ (.one ⟨(some 51),(.ek 1 (.t 31) (.t 36)),none,251007023,[251007024]⟩ (.one ⟨none,(.store 1 (.t 51) (.t 50)),none,251007024,[]⟩ (.eQ false []))))))))) (.both (.one ⟨(some 34),(.ek 3 (.t 32) (.t 33)),none,251007006,[251007021,251007022,251007024]⟩ (.one ⟨(some 35),(.gp 0 (.t 34)),none,251007007,[251007021,251007022,251007024]⟩ (.both (.one ⟨(some 31),(.load false 1 (.t 30)),none,251007003,[251007021,251007022,251007024]⟩ (.both (.one ⟨(some 36),(.load false 1 (.t 35)),none,251007008,[251007021,251007022,251007024]⟩ (.one ⟨(some 50),(.append 1 (.t 47) (.t 49)),none,251007022,[251007024]⟩ (.one ⟨(some 51),(.ek 1 (.t 31) (.t 36)),none,251007023,[251007024]⟩ (.one ⟨none,(.store 1 (.t 51) (.t 50)),none,251007024,[]⟩ (.eQ false []))))) (.one ⟨(some 50),(.append 1 (.t 47) (.t 49)),none,251007022,[251007024]⟩ (.one ⟨(some 36),(.load false 1 (.t 35)),none,251007008,[251007021,251007022,251007024]⟩ (.one ⟨(some 51),(.ek 1 (.t 31) (.t 36)),none,251007023,[251007024]⟩ (.one ⟨none,(.store 1 (.t 51) (.t 50)),none,251007024,[]⟩ (.eQ false []))))))) (.both (.one ⟨(some 36),(.load false 1 (.t 35)),none,251007008,[251007021,251007022,251007024]⟩ (.both (.one ⟨(some 31),(.load false 1 (.t 30)),none,251007003,[251007021,251007022,251007024]⟩ (.one ⟨(some 50),(.append 1 (.t 47) (.t 49)),none,251007022,[251007024]⟩ (.one ⟨(some 51),(.ek 1 (.t 31) (.t 36)),none,251007023,[251007024]⟩ (.one ⟨none,(.store 1 (.t 51) (.t 50)),none,251007024,[]⟩ (.eQ false []))))) (.one ⟨(some 50),(.append 1 (.t 47) (.t 49)),none,251007022,[251007024]⟩ (.one ⟨(some 31),(.load false 1 (.t 30)),none,251007003,[251007021,251007022,251007024]⟩ (.one ⟨(some 51),(.ek 1 (.t 31) (.t 36)),none,251007023,[251007024]⟩ (.one ⟨none,(.store 1 (.t 51) (.t 50)),none,251007024,[]⟩ (.eQ false []))))))) (.one ⟨(some 50),(.append 1 (.t 47) (.t 49)),none,251007022,[251007024]⟩ (.one ⟨(some 31),(.load false 1 (.t 30)),none,251007003,[251007021,251007022,251007024]⟩ (.one ⟨(some 36),(.load false 1 (.t 35)),none,251007008,[251007021,251007022,251007024]⟩ (.one ⟨(some 51),(.ek 1 (.t 31) (.t 36)),none,251007023,[251007024]⟩ (.one ⟨none,(.store 1 (.t 51) (.t 50)),none,251007024,[]⟩ (.eQ false [])))))))))) (.one ⟨(some 50),(.append 1 (.t 47) (.t 49)),none,251007022,[251007024]⟩ (.one ⟨(some 31),(.load false 1 (.t 30)),none,251007003,[251007021,251007022,251007024]⟩ (.one ⟨(some 34),(.ek 3 (.t 32) (.t 33)),none,251007006,[251007021,251007022,251007024]⟩ (.one ⟨(some 35),(.gp 0 (.t 34)),none,251007007,[251007021,251007022,251007024]⟩ (.one ⟨(some 36),(.load false 1 (.t 35)),none,251007008,[251007021,251007022,251007024]⟩ (.one ⟨(some 51),(.ek 1 (.t 31) (.t 36)),none,251007023,[251007024]⟩ (.one ⟨none,(.store 1 (.t 51) (.t 50)),none,251007024,[]⟩ (.eQ false [])))))))))))))))))))))))))))) (.one ⟨(some 52),(.dr (.t 5)),none,251008000,[251008021,251008022,251008024]⟩ (.one ⟨(some 53),(.zU (.t 52)),none,251008001,[251008021,251008022,251008024]⟩ (.one ⟨(some 54),(.gp 2 (.t 53)),none,251008002,[251008021,251008022,251008024]⟩ (.one ⟨(some 56),(.dr (.t 1)),none,251008004,[251008021,251008022,251008024]⟩ (.one ⟨(some 57),(.dr (.t 6)),none,251008005,[251008021,251008022,251008024]⟩ (.one ⟨(some 61),(.dr (.t 5)),none,251008009,[251008021,251008022,251008024]⟩ (.one ⟨(some 62),(.zU (.t 61)),none,251008010,[251008021,251008022,251008024]⟩ (.one ⟨(some 63),(.gp 2 (.t 62)),none,251008011,[251008021,251008022,251008024]⟩ (.one ⟨(some 64),(.load false 1 (.t 63)),none,251008012,[251008021,251008022,251008024]⟩ (.one ⟨(some 65),(.dr (.t 1)),none,251008013,[251008021,251008022,251008024]⟩ (.one ⟨(some 66),(.dr (.t 6)),none,251008014,[251008021,251008022,251008024]⟩ (.one ⟨(some 67),(.ek 3 (.t 65) (.t 66)),none,251008015,[251008021,251008022,251008024]⟩ (.one ⟨(some 68),(.gp 1 (.t 67)),none,251008016,[251008021,251008022,251008024]⟩ (.one ⟨(some 69),(.load false 1 (.t 68)),none,251008017,[251008021,251008022,251008024]⟩ (.one ⟨(some 70),(.ek 1 (.t 64) (.t 69)),none,251008018,[251008021,251008022,251008024]⟩ (.one ⟨(some 71),(.load false 1 (.t 70)),none,251008019,[251008021,251008022,251008024]⟩ (.one ⟨(some 72),(.dr (.t 6)),none,251008020,[251008021,251008022,251008024]⟩ (.one ⟨(some 73),(.lO 1 1 [(.t 72)]),none,251008021,[251008022,251008024]⟩ (.both (.one ⟨(some 55),(.load false 1 (.t 54)),none,251008003,[251008021,251008022,251008024]⟩ (.both (.one ⟨(some 58),(.ek 3 (.t 56) (.t 57)),none,251008006,[251008021,251008022,251008024]⟩ (.one ⟨(some 59),(.gp 1 (.t 58)),none,251008007,[251008021,251008022,251008024]⟩ (.both (.one ⟨(some 60),(.load false 1 (.t 59)),none,251008008,[251008021,251008022,251008024]⟩ (.one ⟨(some 74),(.append 1 (.t 71) (.t 73)),none,251008022,[251008024]⟩ (.one ⟨(some 75),(.ek 1 (.t 55) (.t 60)),none,251008023,[251008024]⟩ (.one ⟨none,(.store 1 (.t 75) (.t 74)),none,251008024,[]⟩ (.eQ false []))))) (.one ⟨(some 74),(.append 1 (.t 71) (.t 73)),none,251008022,[251008024]⟩ (.one ⟨(some 60),(.load false 1 (.t 59)),none,251008008,[251008021,251008022,251008024]⟩ (.one ⟨(some 75),(.ek 1 (.t 55) (.t 60)),none,251008023,[251008024]⟩ (.one ⟨none,(.store 1 (.t 75) (.t 74)),none,251008024,[]⟩ (.eQ false [])))))))) (.one ⟨(some 74),(.append 1 (.t 71) (.t 73)),none,251008022,[251008024]⟩ (.one ⟨(some 58),(.ek 3 (.t 56) (.t 57)),none,251008006,[251008021,251008022,251008024]⟩ (.one ⟨(some 59),(.gp 1 (.t 58)),none,251008007,[251008021,251008022,251008024]⟩ (.one ⟨(some 60),(.load false 1 (.t 59)),none,251008008,[251008021,251008022,251008024]⟩ (.one ⟨(some 75),(.ek 1 (.t 55) (.t 60)),none,251008023,[251008024]⟩ (.one ⟨none,(.store 1 (.t 75) (.t 74)),none,251008024,[]⟩ (.eQ false []))))))))) (.both (.one ⟨(some 58),(.ek 3 (.t 56) (.t 57)),none,251008006,[251008021,251008022,251008024]⟩ (.one ⟨(some 59),(.gp 1 (.t 58)),none,251008007,[251008021,251008022,251008024]⟩ (.both (.one ⟨(some 55),(.load false 1 (.t 54)),none,251008003,[251008021,251008022,251008024]⟩ (.both (.one ⟨(some 60),(.load false 1 (.t 59)),none,251008008,[251008021,251008022,251008024]⟩ (.one ⟨(some 74),(.append 1 (.t 71) (.t 73)),none,251008022,[251008024]⟩ (.one ⟨(some 75),(.ek 1 (.t 55) (.t 60)),none,251008023,[251008024]⟩ (.one ⟨none,(.store 1 (.t 75) (.t 74)),none,251008024,[]⟩ (.eQ false []))))) (.one ⟨(some 74),(.append 1 (.t 71) (.t 73)),none,251008022,[251008024]⟩ (.one ⟨(some 60),(.load false 1 (.t 59)),none,251008008,[251008021,251008022,251008024]⟩ (.one ⟨(some 75),(.ek 1 (.t 55) (.t 60)),none,251008023,[251008024]⟩ (.one ⟨none,(.store 1 (.t 75) (.t 74)),none,251008024,[]⟩ (.eQ false []))))))) (.both (.one ⟨(some 60),(.load false 1 (.t 59)),none,251008008,[251008021,251008022,251008024]⟩ (.both (.one ⟨(some 55),(.load false 1 (.t 54)),none,251008003,[251008021,251008022,251008024]⟩ (.one ⟨(some 74),(.append 1 (.t 71) (.t 73)),none,251008022,[251008024]⟩ (.one ⟨(some 75),(.ek 1 (.t 55) (.t 60)),none,251008023,[251008024]⟩ (.one ⟨none,(.store 1 (.t 75) (.t 74)),none,251008024,[]⟩ (.eQ false []))))) (.one ⟨(some 74),(.append 1 (.t 71) (.t 73)),none,251008022,[251008024]⟩ (.one ⟨(some 55),(.load false 1 (.t 54)),none,251008003,[251008021,251008022,251008024]⟩ (.one ⟨(some 75),(.ek 1 (.t 55) (.t 60)),none,251008023,[251008024]⟩ (.one ⟨none,(.store 1 (.t 75) (.t 74)),none,251008024,[]⟩ (.eQ false []))))))) (.one ⟨(some 74),(.append 1 (.t 71) (.t 73)),none,251008022,[251008024]⟩ (.one ⟨(some 55),(.load false 1 (.t 54)),none,251008003,[251008021,251008022,251008024]⟩ (.one ⟨(some 60),(.load false 1 (.t 59)),none,251008008,[251008021,251008022,251008024]⟩ (.one ⟨(some 75),(.ek 1 (.t 55) (.t 60)),none,251008023,[251008024]⟩ (.one ⟨none,(.store 1 (.t 75) (.t 74)),none,251008024,[]⟩ (.eQ false [])))))))))) (.one ⟨(some 74),(.append 1 (.t 71) (.t 73)),none,251008022,[251008024]⟩ (.one ⟨(some 55),(.load false 1 (.t 54)),none,251008003,[251008021,251008022,251008024]⟩ (.one ⟨(some 58),(.ek 3 (.t 56) (.t 57)),none,251008006,[251008021,251008022,251008024]⟩ (.one ⟨(some 59),(.gp 1 (.t 58)),none,251008007,[251008021,251008022,251008024]⟩ (.one ⟨(some 60),(.load false 1 (.t 59)),none,251008008,[251008021,251008022,251008024]⟩ (.one ⟨(some 75),(.ek 1 (.t 55) (.t 60)),none,251008023,[251008024]⟩ (.one ⟨none,(.store 1 (.t 75) (.t 74)),none,251008024,[]⟩ (.eQ false [])))))))))))))))))))))))))))))) (.eQ false [q 26 (.dr (.t 6)) 251006000,q 27 (.bin .add .i64 (.t 26) (.k (.int .i64 1))) 251006001,q 6 (.dr (.t 27)) 251006002])))))) (.seq (.eQ false [q 76 (.dr (.t 5)) 251009000,q 4 (.dr (.t 76)) 251009001]) .ret)))))),[(.tmp 4)]⟩
theorem RG:xt Tryz.prog 251 [(7,2),(8,2)]=some TB:=by kernel_rfl
def TC:A4:=⟨118,2,(.seq (.eQ false [q 4 (.dr (.k .bI)) 320000000]) (.seq (.eQ false [q 17 (.dr (.t 0)) 320001000,q 18 (.kG [.iA] (.t 17) (.t 17)) 320001001,q 5 (.dr (.t 18)) 320001002]) (.seq (.seq (.eQ false [q 19 (.dr (.t 5)) 320002000,q 20 (.len (.t 19)) 320002001,q 21 (.dr (.k (.int .i64 0))) 320002002]) (.block 0 (.loop (.seq (.eQ false [q 22 (.bin .lss .i64 (.t 21) (.t 20)) 320003000]) (.seq (.cond (.t 22) .skip (.exit 0)) (.seq (.block 1 (.seq (.eQ false [q 23 (.dr (.t 21)) 320004000,q 6 (.dr (.t 23)) 320004001]) (.eQ false [q 24 (.dr (.t 5)) 320005000,q 25 (.dr (.t 6)) 320005001,q 26 (.dr (.t 6)) 320005002,q 27 (.build [.iA,(.int .i64 0)] [(1,(1,(.t 26)))]) 320005003,q 28 (.box (.t 27)) 320005004,q 29 (.ek 1 (.t 24) (.t 25)) 320005005,⟨none,(.store 1 (.t 29) (.t 28)),none,320005006,[]⟩]))) (.eQ false [q 30 (.bin .add .i64 (.t 21) (.k (.int .i64 1))) 320006000,q 21 (.dr (.t 30)) 320006001]))))))) (.seq (.seq (.eQ false [q 31 (.dr (.t 1)) 320007000,q 32 (.len (.t 31)) 320007001,q 33 (.dr (.k (.int .i64 0))) 320007002]) (.block 2 (.loop (.seq (.eQ false [q 34 (.bin .lss .i64 (.t 33) (.t 32)) 320008000]) (.seq (.cond (.t 34) .skip (.exit 2)) (.seq (.block 3 (.seq (.eQ false [q 35 (.ek 3 (.t 31) (.t 33)) 320009000,q 36 (.load true 3 (.t 35)) 320009001,q 8 (.new [(.int .i64 0),(.int .i64 0),(.int .i64 0)]) 320009002,⟨none,(.store 3 (.t 8) (.t 36)),none,320009003,[]⟩]) (.seq (.one (q 37 (.dr (.t 5)) 320010000) (.one (q 38 (.gp 0 (.t 8)) 320010001) (.one (q 39 (.load false 1 (.t 38)) 320010002) (.one (q 40 (.ek 1 (.t 37) (.t 39)) 320010003) (.one (q 41 (.load false 1 (.t 40)) 320010004) (.one (q 43 (.dr (.t 5)) 320010006) (.one (q 44 (.gp 1 (.t 8)) 320010007) (.both (.one (q 42 (.call 334 [(.t 41)]) 320010005) (.one (q 45 (.load false 1 (.t 44)) 320010008) (.one (q 46 (.ek 1 (.t 43) (.t 45)) 320010009) (.one (q 47 (.load false 1 (.t 46)) 320010010) (.one (q 48 (.call 334 [(.t 47)]) 320010011) (.one (q 9 (.dr (.t 42)) 320010012) (.one (q 10 (.dr (.t 48)) 320010013) (.eQ false [])))))))) (.one (q 45 (.load false 1 (.t 44)) 320010008) (.both (.one (q 42 (.call 334 [(.t 41)]) 320010005) (.one (q 46 (.ek 1 (.t 43) (.t 45)) 320010009) (.one (q 47 (.load false 1 (.t 46)) 320010010) (.one (q 48 (.call 334 [(.t 47)]) 320010011) (.one (q 9 (.dr (.t 42)) 320010012) (.one (q 10 (.dr (.t 48)) 320010013) (.eQ false []))))))) (.one (q 46 (.ek 1 (.t 43) (.t 45)) 320010009) (.both (.one (q 42 (.call 334 [(.t 41)]) 320010005) (.one (q 47 (.load false 1 (.t 46)) 320010010) (.one (q 48 (.call 334 [(.t 47)]) 320010011) (.one (q 9 (.dr (.t 42)) 320010012) (.one (q 10 (.dr (.t 48)) 320010013) (.eQ false [])))))) (.one (q 47 (.load false 1 (.t 46)) 320010010) (.one (q 42 (.call 334 [(.t 41)]) 320010005) (.one (q 48 (.call 334 [(.t 47)]) 320010011) (.one (q 9 (.dr (.t 42)) 320010012) (.one (q 10 (.dr (.t 48)) 320010013) (.eQ false [])))))))))))))))))) (.block 4 (.seq (.eQ true [q 50 (.dr (.t 9)) 320011000,q 51 (.zU (.t 50)) 320011001,q 52 (.gp 1 (.t 51)) 320011002,q 53 (.load false 1 (.t 52)) 320011003,q 54 (.dr (.t 10)) 320011004,q 55 (.zU (.t 54)) 320011005,q 56 (.gp 1 (.t 55)) 320011006,q 57 (.load false 1 (.t 56)) 320011007,q 58 (.bin .lss .i64 (.t 53) (.t 57)) 320011008,q 49 (.dr (.t 58)) 320011009]) (.cond (.t 49) (.eQ false [q 59 (.dr (.t 10)) 320012000,q 60 (.dr (.t 9)) 320012001,q 61 (.zU (.t 59)) 320012002,q 62 (.gp 0 (.t 61)) 320012003,⟨none,(.store 1 (.t 62) (.t 60)),none,320012004,[]⟩]) (.seq (.eQ true [q 64 (.dr (.t 10)) 320013000,q 65 (.zU (.t 64)) 320013001,q 66 (.gp 1 (.t 65)) 320013002,q 67 (.load false 1 (.t 66)) 320013003,q 68 (.dr (.t 9)) 320013004,q 69 (.zU (.t 68)) 320013005,q 70 (.gp 1 (.t 69)) 320013006,q 71 (.load false 1 (.t 70)) 320013007,q 72 (.bin .lss .i64 (.t 67) (.t 71)) 320013008,q 63 (.dr (.t 72)) 320013009]) (.cond (.t 63) (.eQ false [q 73 (.dr (.t 9)) 320014000,q 74 (.dr (.t 10)) 320014001,q 75 (.zU (.t 73)) 320014002,q 76 (.gp 0 (.t 75)) 320014003,⟨none,(.store 1 (.t 76) (.t 74)),none,320014004,[]⟩]) .skip)))))))) (.eQ false [q 77 (.bin .add .i64 (.t 33) (.k (.int .i64 1))) 320015000,q 33 (.dr (.t 77)) 320015001]))))))) (.seq (.eQ false [q 11 (.dr (.k .bI)) 320016000]) (.seq (.eQ false [⟨(some 78),(.mq (.new ⟨false,[.tI]⟩) []),none,320017000,[]⟩,q 12 (.dr (.t 78)) 320017001]) (.seq (.seq (.eQ false [q 79 (.dr (.t 5)) 320018000,q 80 (.len (.t 79)) 320018001,q 81 (.dr (.k (.int .i64 0))) 320018002]) (.block 5 (.loop (.seq (.eQ false [q 82 (.bin .lss .i64 (.t 81) (.t 80)) 320019000]) (.seq (.cond (.t 82) .skip (.exit 5)) (.seq (.block 6 (.seq (.eQ false [q 83 (.dr (.t 81)) 320020000,q 84 (.ek 1 (.t 79) (.t 81)) 320020001,q 85 (.load false 1 (.t 84)) 320020002,q 13 (.dr (.t 83)) 320020003,q 14 (.dr (.t 85)) 320020004]) (.seq (.eQ false [q 87 (.dr (.t 12)) 320021000,q 88 (.dr (.t 14)) 320021001,q 89 (.call 334 [(.t 88)]) 320021002,q 90 (.zU (.t 89)) 320021003,q 91 (.gp 1 (.t 90)) 320021004,q 92 (.load false 1 (.t 91)) 320021005,⟨(some 93),(.mq (.look ⟨false,[.tI]⟩ true (.int .i64 0)) [(.t 87),(.t 92)]),none,320021006,[]⟩,q 86 (.dr (.t 93)) 320021007,q 94 (.extract 0 (.t 86)) 320021008,q 95 (.extract 1 (.t 86)) 320021009,q 15 (.dr (.t 94)) 320021010,q 16 (.dr (.t 95)) 320021011]) (.seq (.seq (.eQ false [q 96 (.dr (.t 16)) 320022000,q 97 (.not (.t 96)) 320022001]) (.cond (.t 97) (.seq (.eQ false [q 98 (.dr (.t 11)) 320023000,q 99 (.len (.t 98)) 320023001,q 15 (.dr (.t 99)) 320023002]) (.seq (.eQ false [q 100 (.dr (.t 12)) 320024000,q 101 (.dr (.t 13)) 320024001,q 102 (.dr (.t 15)) 320024002,⟨none,(.mw (.set ⟨false,[.tI]⟩) [(.t 100),(.t 101),(.t 102)]),none,320024003,[]⟩]) (.eQ false [q 103 (.dr (.t 11)) 320025000,q 104 (.lO 1 1 [(.k .bI)]) 320025001,q 105 (.append 1 (.t 103) (.t 104)) 320025002,q 11 (.dr (.t 105)) 320025003]))) .skip)) (.eQ false [q 106 (.dr (.t 11)) 320026000,q 107 (.dr (.t 15)) 320026001,q 108 (.dr (.t 11)) 320026002,q 109 (.dr (.t 15)) 320026003,q 110 (.ek 1 (.t 108) (.t 109)) 320026004,q 111 (.load false 1 (.t 110)) 320026005,q 112 (.dr (.t 13)) 320026006,q 113 (.lO 1 1 [(.t 112)]) 320026007,q 114 (.append 1 (.t 111) (.t 113)) 320026008,q 115 (.ek 1 (.t 106) (.t 107)) 320026009,⟨none,(.store 1 (.t 115) (.t 114)),none,320026010,[]⟩]))))) (.eQ false [q 116 (.bin .add .i64 (.t 81) (.k (.int .i64 1))) 320027000,q 81 (.dr (.t 116)) 320027001]))))))) (.seq (.eQ false [q 117 (.dr (.t 11)) 320028000,q 4 (.dr (.t 117)) 320028001]) .ret)))))))),[(.tmp 4)]⟩
theorem RH:xt Tryz.prog 320 [(10,2)]=some TC:=by kernel_rfl
def TA:A4:=⟨22,2,(.seq (.eQ false [q 4 (.new [.bI]) 176000000]) (.seq (.one ⟨(some 5),(.lO 3 0 []),none,176001000,[176001007,176001015,176001017]⟩ (.one ⟨(some 6),(.dr (.t 0)),none,176001001,[176001000,176001007,176001015,176001017]⟩ (.one ⟨(some 7),(.zU (.t 6)),none,176001002,[176001000,176001007,176001015,176001017]⟩ (.one ⟨(some 8),(.gp 0 (.t 7)),none,176001003,[176001000,176001007,176001015,176001017]⟩ (.one ⟨(some 9),(.load false 1 (.t 8)),none,176001004,[176001000,176001007,176001015,176001017]⟩ (.one ⟨(some 10),(.dr (.t 1)),none,176001005,[176001000,176001007,176001015,176001017]⟩ (.one ⟨(some 11),(.slice 3 (.t 9) none (some (.t 10))),none,176001006,[176001000,176001007,176001015,176001017]⟩ (.one ⟨(some 13),(.dr (.t 0)),none,176001008,[176001000,176001007,176001015,176001017]⟩ (.one ⟨(some 14),(.zU (.t 13)),none,176001009,[176001000,176001007,176001015,176001017]⟩ (.one ⟨(some 15),(.gp 0 (.t 14)),none,176001010,[176001000,176001007,176001015,176001017]⟩ (.one ⟨(some 17),(.dr (.t 1)),none,176001012,[176001000,176001007,176001015,176001017]⟩ (.one ⟨(some 18),(.bin .add .i64 (.t 17) (.k (.int .i64 1))),none,176001013,[176001000,176001007,176001015,176001017]⟩ (.loc 5 176001000 (.t 11) (.one ⟨(some 12),(.append 3 (.t 5) (.t 11)),none,176001007,[176001015,176001017]⟩ (.one ⟨(some 16),(.load false 1 (.t 15)),none,176001011,[176001000,176001007,176001015,176001017]⟩ (.one ⟨(some 19),(.slice 3 (.t 16) (some (.t 18)) none),none,176001014,[176001000,176001007,176001015,176001017]⟩ (.one ⟨(some 20),(.append 3 (.t 12) (.t 19)),none,176001015,[176001017]⟩ (.one ⟨(some 21),(.build [.bI] [(0,(1,(.t 20)))]),none,176001016,[176001017]⟩ (.one ⟨none,(.store 1 (.t 4) (.t 21)),none,176001017,[]⟩ (.eQ false [])))))))))))))))))))) .ret)),[(.cell true 1 4)]⟩
theorem Yu:xt Tryz.prog 176 [(1,2)]=some TA:=by kernel_rfl
end Go.Proofs.YtgoljkjaameagaaGreat.V

namespace Go.Proofs.YtgoljkjaameagaaGreat.V
open Go.RowKit
attribute [local irreducible] dK wpOps gw Call
attribute [local go_sem] aM fE eM fV fS dc upd cr K.av cI AV.cells AV.cell rowOf rowsOf part ld rowAt bE cj dy dS gU bJ cY ee fQ e6 dp dX cW cV dI dJ bP bc cL bL cP cN dV dY dW cK bU cX dU bK aO cR cC gT bw cG bQ aY dj aZ dz AV.undef bD bG dM dQ dE dG cE ec eh cz ea dZ cQ cU List.getD_cons_zero List.getD_cons_succ List.getD_nil List.all_cons List.all_nil Bool.and_true Bool.true_and Bool.and_self Bool.not_true Bool.not_false Option.map_some Option.map_none Option.bind_some Option.bind_none List.length_cons List.length_nil List.take_succ_cons List.take_zero List.take_nil List.drop_succ_cons List.drop_zero List.drop_nil List.head?_cons List.map_cons List.map_nil List.getElem?_cons_zero List.getElem?_cons_succ List.cons_append List.nil_append List.append_nil List.length_map List.set_cons_zero List.set_cons_succ Nat.reduceMul eq_self Int.toNat_natCast Int.natCast_nonneg and_self true_and and_true decide_true decide_false Bool.false_eq_true Nat.zero_add Nat.add_zero List.contains_cons List.contains_nil Bool.or_false Bool.false_or beq_self_eq_true Nat.reduceBEq ne_eq not_true_eq_false not_false_eq_true Id.mk.injEq false_and and_false Nat.reduceLT Int.reduceLE Int.reduceLT Int.reduceToNat Int.reduceNeg Int.reduceAdd Nat.le_refl List.length_append beq_true beq_false Bool.not_eq_eq_eq_not or_false false_or dH aj ar aH bh bz ck aV bd aX bf cJ bB
theorem Dt (x:gh) (g:Rows):cZ g 6 [.agg (cm x)]=some [.agg (cm x)]:=by simp[cm,aj,ar,bd,bz,aH]
theorem Du (x:fb) (g:Rows):cZ g 6 [.agg (bR x)]=some [.agg (bR x)]:=by simp[bR,aj,ar,bd,bz,ck]
theorem xN (x:aa) (g:Rows):cZ g 6 [.agg (ab x)]=some [.agg (ab x)]:=by simp[ab,aj,ar,bd,aH]
theorem jj {n:Nat} {l:Int} (h:(n:Int)<=l):zI n l=l-n:=if_pos h
theorem jq {n:Nat} {l:Int} (h:¬(n:Int)<=l):zI n l= -1:=if_neg h
def lu (t:fb):Nat:=t.aP.size+t.bV.length
def wM (s:ax):Nat:=(s.aB.length+(s.aB.map fun g=>g.aP.size).sum)+(s.ai.length+(s.ai.map lu).sum)
def EW (s:aE):Nat:=wM s.aC+s.bY.ai.length
def iq (s:ax):Prop:=(∀g∈s.aB,g.aP.size<=9223372036854775807)/\∀t∈s.ai,t.aP.size<=9223372036854775807
theorem Nf (g:gh) (l:Int) (h0:0<=l) (h1:l<=1048576) (hs:g.aP.size<=9223372036854775807):au Tryz.prog 187 [.agg (cm g),.int .i64 l] (.int .i64 (zI g.aP.size l)):=by
 refine au.body eF rfl fun hl n0=>?_
 clear hl
 have hw:IntKind.i64.wrap (l-(g.aP.size:Int))=l-g.aP.size:=bq ah
 by_cases hf:(g.aP.size:Int)<=l
 ·have nh:¬l-(g.aP.size:Int)<0:=ah
  (try((repeat(revert hN;revert N;apply Pn.out));refine wk (tw @cm.eq_1 (tw @hw @nh)) ?_;(repeat(refine Pn.mk ?_;intro N hN))))
  exact da (b:=l-(g.aP.size:Int)) (.inl rfl) (sd @Nat.zero_add) (jj hf).symm
 ·have nh:l-(g.aP.size:Int)<0:=ah
  (try((repeat(revert hN;revert N;apply Pn.out));refine wk (tw @cm.eq_1 (tw @hw @nh)) ?_;(repeat(refine Pn.mk ?_;intro N hN))))
  exact da (b:=-1) (.inl rfl) (sd @Nat.zero_add) (jq hf).symm
theorem Ng (xs:List Int) (l:Int) (h0:0<=l) (h1:l<=1048576):au Tryz.prog 140 [.sl (xs.map aU),.int .i64 l] (.int .i64 (zI xs.length l)):=by
 have h:=Ni (show nK Tryz.prog 140=some (Nh 140) by kernel_rfl) (xs.map aU) l h0 h1
 rwa [List.length_map]at h
theorem Nl (t:fb) (l:Int) (h0:0<=l) (h1:l<=1048576) (hs:t.aP.size<=9223372036854775807):au Tryz.prog 188 [.agg (bR t),.int .i64 l] (.int .i64 (zI (lu t) l)):=by
 refine au.body eF rfl fun hl n0=>?_
 clear hl
 have hw:IntKind.i64.wrap (l-(t.aP.size:Int))=l-t.aP.size:=bq ah
 by_cases hf:(t.aP.size:Int)<=l
 ·have nh:¬l-(t.aP.size:Int)<0:=ah
  have hc:=Ng t.bV (l-t.aP.size) ah ah
  by_cases hg:(t.bV.length:Int)<=l-t.aP.size
  ·rw[jj hg]at hc
   have NV:¬l-(t.aP.size:Int)-(t.bV.length:Int)<0:=ah
   (repeat(first|((repeat(revert hN;revert N;apply Pn.out));refine wk (tw @bR.eq_1 (tw @hw (tw @nh @NV))) ?_;(repeat(refine Pn.mk ?_;intro N hN)))|((try apply Or.inl);refine⟨_,au.x (hc) (sd (tw @bR.eq_1 (tw @hw (tw @nh @NV)))),?_⟩;refine hN _ _ ?_;clear hN N)))
   exact da (b:=l-(t.aP.size:Int)-(t.bV.length:Int)) (.inl rfl) (sd @Nat.zero_add) (by rw[jj (by unfold lu;omega)];unfold lu;omega)
  ·rw[jq hg]at hc
   (repeat(first|((repeat(revert hN;revert N;apply Pn.out));refine wk (tw @bR.eq_1 (tw @hw @nh)) ?_;(repeat(refine Pn.mk ?_;intro N hN)))|((try apply Or.inl);refine⟨_,au.x (hc) (sd (tw @bR.eq_1 (tw @hw @nh))),?_⟩;refine hN _ _ ?_;clear hN N)))
   exact da (b:=-1) (.inl rfl) (sd @Nat.zero_add) (jq (by unfold lu;omega)).symm
 ·have nh:l-(t.aP.size:Int)<0:=ah
  (try((repeat(revert hN;revert N;apply Pn.out));refine wk (tw @bR.eq_1 (tw @hw @nh)) ?_;(repeat(refine Pn.mk ?_;intro N hN))))
  exact da (b:=-1) (.inl rfl) (sd @Nat.zero_add) (jq (by unfold lu;omega)).symm
theorem Kb (xs:List gh) (l:Int) (h0:0<=l) (h1:l<=1048576) (hs:∀g∈xs,g.aP.size<=9223372036854775807):au Tryz.prog 120 [.sl (xs.map cm),.int .i64 l] (.int .i64 (zI (xs.length+(xs.map fun g=>g.aP.size).sum) l)):=
 Nk (fun g:gh=>g.aP.size) (show nK Tryz.prog 120=some (Nj 120 187 2) by kernel_rfl) (fun _=>rfl) Dt xs l h0 h1 fun x hx l a b=>Nf x l a b (hs x hx)
theorem Kc (xs:List fb) (l:Int) (h0:0<=l) (h1:l<=1048576) (hs:∀t∈xs,t.aP.size<=9223372036854775807):au Tryz.prog 121 [.sl (xs.map bR),.int .i64 l] (.int .i64 (zI (xs.length+(xs.map lu).sum) l)):=
 Nk lu (show nK Tryz.prog 121=some (Nj 121 188 2) by kernel_rfl) (fun _=>rfl) Du xs l h0 h1 fun x hx l a b=>Nl x l a b (hs x hx)
theorem G4 (xs:List aa) (l:Int) (h0:0<=l) (h1:l<=1048576):au Tryz.prog 76 [.sl (xs.map ab),.int .i64 l] (.int .i64 (zI xs.length l)):=by
 have h:=Ni (show nK Tryz.prog 76=some (Nh 76) by kernel_rfl) (xs.map ab) l h0 h1
 rwa [List.length_map]at h
theorem EL (s:ax) (l:Int) (h0:0<=l) (h1:l<=1048576) (hs:iq s):au Tryz.prog 61 [.agg (ad s),.int .i64 l] (.int .i64 (zI (wM s) l)):=by
 refine au.body eF rfl fun hl n0=>?_
 clear hl
 have ha:=Kb s.aB l h0 h1 hs.1
 have he:wM s=(s.aB.length+(s.aB.map fun g=>g.aP.size).sum)+(s.ai.length+(s.ai.map lu).sum):=rfl
 by_cases hf:((s.aB.length+(s.aB.map fun g=>g.aP.size).sum:Nat):Int)<=l
 ·rw[jj hf]at ha
  obtain⟨A,hA⟩:∃A:Int,A=l-((s.aB.length+(s.aB.map fun g=>g.aP.size).sum:Nat):Int):=⟨_,rfl⟩
  rw[<-hA]at ha
  have nh:¬A<0:=ah
  have hb:=Kc s.ai A ah ah hs.2
  by_cases hg:((s.ai.length+(s.ai.map lu).sum:Nat):Int)<=A
  ·rw[jj hg]at hb
   obtain⟨B,hB⟩:∃B:Int,B=A-((s.ai.length+(s.ai.map lu).sum:Nat):Int):=⟨_,rfl⟩
   rw[<-hB]at hb
   have NV:¬B<0:=ah
   (repeat(first|((repeat(revert hN;revert N;apply Pn.out));refine wk (tw @ad.eq_1 (tw @nh @NV)) ?_;(repeat(refine Pn.mk ?_;intro N hN)))|((try apply Or.inl);refine⟨_,au.x (ha) (sd (tw @ad.eq_1 (tw @nh @NV))),?_⟩;refine hN _ _ ?_;clear hN N)|((try apply Or.inl);refine⟨_,au.x (hb) (sd (tw @ad.eq_1 (tw @nh @NV))),?_⟩;refine hN _ _ ?_;clear hN N)))
   exact da (b:=B) (.inl rfl) (sd @Nat.zero_add) (by rw[jj ah];omega)
  ·rw[jq hg]at hb
   (repeat(first|((repeat(revert hN;revert N;apply Pn.out));refine wk (tw @ad.eq_1 @nh) ?_;(repeat(refine Pn.mk ?_;intro N hN)))|((try apply Or.inl);refine⟨_,au.x (ha) (sd (tw @ad.eq_1 @nh)),?_⟩;refine hN _ _ ?_;clear hN N)|((try apply Or.inl);refine⟨_,au.x (hb) (sd (tw @ad.eq_1 @nh)),?_⟩;refine hN _ _ ?_;clear hN N)))
   exact da (b:=-1) (.inl rfl) (sd @Nat.zero_add) (jq ah).symm
 ·rw[jq hf]at ha
  (repeat(first|((repeat(revert hN;revert N;apply Pn.out));refine wk @ad.eq_1 ?_;(repeat(refine Pn.mk ?_;intro N hN)))|((try apply Or.inl);refine⟨_,au.x (ha) (sd @ad.eq_1),?_⟩;refine hN _ _ ?_;clear hN N)))
  exact da (b:=-1) (.inl rfl) (sd @Nat.zero_add) (jq ah).symm
theorem Ci (a:iP) (l:Int) (h0:0<=l) (h1:l<=1048576):au Tryz.prog 14 [.agg (eu a),.int .i64 l] (.int .i64 (zI a.ai.length l)):=by
 refine au.body eF rfl fun hl n0=>?_
 clear hl
 have ha:=G4 a.ai l h0 h1
 by_cases hf:(a.ai.length:Int)<=l
 ·rw[jj hf]at ha
  have nh:¬l-(a.ai.length:Int)<0:=ah
  (repeat(first|((repeat(revert hN;revert N;apply Pn.out));refine wk (tw @eu.eq_1 @nh) ?_;(repeat(refine Pn.mk ?_;intro N hN)))|((try apply Or.inl);refine⟨_,au.x (ha) (sd (tw @eu.eq_1 @nh)),?_⟩;refine hN _ _ ?_;clear hN N)))
  exact da (b:=l-(a.ai.length:Int)) (.inl rfl) (sd @Nat.zero_add) (jj hf).symm
 ·rw[jq hf]at ha
  (repeat(first|((repeat(revert hN;revert N;apply Pn.out));refine wk @eu.eq_1 ?_;(repeat(refine Pn.mk ?_;intro N hN)))|((try apply Or.inl);refine⟨_,au.x (ha) (sd @eu.eq_1),?_⟩;refine hN _ _ ?_;clear hN N)))
  exact da (b:=-1) (.inl rfl) (sd @Nat.zero_add) (jq hf).symm
theorem G5 (s:aE) (l:Int) (h0:0<=l) (h1:l<=1048576) (hs:iq s.aC):au Tryz.prog 13 [.agg (aA s),.int .i64 l] (.int .i64 (zI (EW s) l)):=by
 refine au.body eF rfl fun hl n0=>?_
 clear hl
 have ha:=EL s.aC l h0 h1 hs
 rw[ad]at ha
 have he:EW s=wM s.aC+s.bY.ai.length:=rfl
 by_cases hf:(wM s.aC:Int)<=l
 ·rw[jj hf]at ha
  have nh:¬l-(wM s.aC:Int)<0:=ah
  have hb:=Ci s.bY (l-wM s.aC) ah ah
  rw[eu]at hb
  by_cases hg:(s.bY.ai.length:Int)<=l-wM s.aC
  ·rw[jj hg]at hb
   have NV:¬l-(wM s.aC:Int)-(s.bY.ai.length:Int)<0:=ah
   (repeat(first|((repeat(revert hN;revert N;apply Pn.out));refine wk (tw @aA.eq_1 (tw @nh @NV)) ?_;(repeat(refine Pn.mk ?_;intro N hN)))|((try apply Or.inl);refine⟨_,au.x (ha) (sd (tw @aA.eq_1 (tw @nh @NV))),?_⟩;refine hN _ _ ?_;clear hN N)|((try apply Or.inl);refine⟨_,au.x (hb) (sd (tw @aA.eq_1 (tw @nh @NV))),?_⟩;refine hN _ _ ?_;clear hN N)))
   exact da (b:=l-(wM s.aC:Int)-(s.bY.ai.length:Int)) (.inl rfl) (sd @Nat.zero_add) (by rw[jj ah];omega)
  ·rw[jq hg]at hb
   (repeat(first|((repeat(revert hN;revert N;apply Pn.out));refine wk (tw @aA.eq_1 @nh) ?_;(repeat(refine Pn.mk ?_;intro N hN)))|((try apply Or.inl);refine⟨_,au.x (ha) (sd (tw @aA.eq_1 @nh)),?_⟩;refine hN _ _ ?_;clear hN N)|((try apply Or.inl);refine⟨_,au.x (hb) (sd (tw @aA.eq_1 @nh)),?_⟩;refine hN _ _ ?_;clear hN N)))
   exact da (b:=-1) (.inl rfl) (sd @Nat.zero_add) (jq ah).symm
 ·rw[jq hf]at ha
  (repeat(first|((repeat(revert hN;revert N;apply Pn.out));refine wk @aA.eq_1 ?_;(repeat(refine Pn.mk ?_;intro N hN)))|((try apply Or.inl);refine⟨_,au.x (ha) (sd @aA.eq_1),?_⟩;refine hN _ _ ?_;clear hN N)))
  exact da (b:=-1) (.inl rfl) (sd @Nat.zero_add) (jq ah).symm
theorem PZ (x:gh) (g:Rows):cZ g 5 (cm x)=some (cm x):=by simp[cm,aj,ar,bz,aH]
theorem P0 (x:fb) (g:Rows):cZ g 5 (bR x)=some (bR x):=by simp[bR,aj,ar,bz,ck]
theorem JW (x:aa) (g:Rows):cZ g 5 (ab x)=some (ab x):=by simp[ab,aj,ar,aH]
theorem AS (p:aq):lv Tryz.prog 109 [.agg (ae p)] (.agg (ae p)):=by
 refine lv.body eF rfl fun hl σ=>?_
 clear hl
 (try((repeat(revert hN;revert N;apply Pn.out));refine wk @ae.eq_1 ?_;(repeat(refine Pn.mk ?_;intro N hN))))
 exact uS (.inl rfl) (vs:=[.agg (ae p)]) (by simp only[go_sem, ↓reduceIte,Nat.reduceEqDiff,Nat.reduceAdd,Nat.reduceSub,Nat.reduceLeDiff,reduceCtorEq,fM,iU,ae]) (by simp[fc,ae,bd,aj,ar,aH])
theorem G8 (p:aa):lv Tryz.prog 149 [.agg (ab p)] (.agg (ab p)):=by
 refine lv.body eF rfl fun hl σ=>?_
 clear hl
 have h:=AS p.aJ
 rw[ae]at h
 (repeat(first|((repeat(revert hN;revert N;apply Pn.out));refine wk @ab.eq_1 ?_;(repeat(refine Pn.mk ?_;intro N hN)))|((try apply Or.inl);refine⟨_,lv.x (h) _,?_⟩;refine hN _ _ ?_;clear hN N)))
 exact uS (.inl rfl) (vs:=[.agg (ab p)]) (by simp only[go_sem, ↓reduceIte,Nat.reduceEqDiff,Nat.reduceAdd,Nat.reduceSub,Nat.reduceLeDiff,reduceCtorEq,fM,iU,ab]) (by simp[fc,ab,bd,aj,ar,aH])
theorem Nu (p:gh):lv Tryz.prog 197 [.agg (cm p)] (.agg (cm p)):=by
 refine lv.body eF rfl fun hl σ=>?_
 clear hl
 (try((repeat(revert hN;revert N;apply Pn.out));refine wk @cm.eq_1 ?_;(repeat(refine Pn.mk ?_;intro N hN))))
 exact uS (.inl rfl) (vs:=[.agg (cm p)]) (by simp only[go_sem, ↓reduceIte,Nat.reduceEqDiff,Nat.reduceAdd,Nat.reduceSub,Nat.reduceLeDiff,reduceCtorEq,fM,iU,cm]) (by simp[fc,cm,bd,aj,ar,aH,bz])
theorem Nw (xs:List Int) (h:xs.length<=1048576):lv Tryz.prog 17 [.sl (xs.map aU)] (.sl (xs.map aU)):=
 WC (show nK Tryz.prog 17=some (Nx 17 (.int .i64 0)) by kernel_rfl) xs h
def uj (t:fb):Prop:=t.bV.length<=1048576
theorem Nz (p:fb) (hs:uj p):lv Tryz.prog 198 [.agg (bR p)] (.agg (bR p)):=by
 refine lv.body eF rfl fun hl σ=>?_
 clear hl
 have h:=Nw p.bV hs
 (repeat(first|((repeat(revert hN;revert N;apply Pn.out));refine wk @bR.eq_1 ?_;(repeat(refine Pn.mk ?_;intro N hN)))|((try apply Or.inl);refine⟨_,lv.x (h) _,?_⟩;refine hN _ _ ?_;clear hN N)))
 exact uS (.inl rfl) (vs:=[.agg (bR p)]) (by simp only[go_sem, ↓reduceIte,Nat.reduceEqDiff,Nat.reduceAdd,Nat.reduceSub,Nat.reduceLeDiff,reduceCtorEq,fM,iU,bR]) (by simp[fc,bR,bd,aj,ar,ck,bz])
theorem Lp (xs ys:List Int):au Tryz.prog 20 [.sl (xs.map aU),.sl (ys.map aU)] (.bool (decide (xs=ys))):=
 U4 (show nK Tryz.prog 20=some (QB 20 .tI) by kernel_rfl) xs ys
theorem Lr (a b:fb):au Tryz.prog 212 [.agg (bR a),.agg (bR b)] (.bool (decide (a=b))):=by
 refine au.body eF rfl fun hl n0=>?_
 clear hl
 have h:=Lp a.bV b.bV
 by_cases h1:a.aP=b.aP
 ·have e1:decide (a.aP=b.aP)=true:=decide_eq_true h1
  by_cases h2:a.bV=b.bV
  ·rw[decide_eq_true h2]at h
   (repeat(first|((repeat(revert hN;revert N;apply Pn.out));refine wk (tw @bR.eq_1 @e1) ?_;(repeat(refine Pn.mk ?_;intro N hN)))|((try apply Or.inl);refine⟨_,au.x (h) (sd (tw @bR.eq_1 @e1)),?_⟩;refine hN _ _ ?_;clear hN N)))
   exact bp (b:=true) (.inl rfl) (sd @Nat.zero_add) (decide_eq_true (by cases a;cases b;simp_all)).symm
  ·rw[decide_eq_false h2]at h
   (repeat(first|((repeat(revert hN;revert N;apply Pn.out));refine wk (tw @bR.eq_1 @e1) ?_;(repeat(refine Pn.mk ?_;intro N hN)))|((try apply Or.inl);refine⟨_,au.x (h) (sd (tw @bR.eq_1 @e1)),?_⟩;refine hN _ _ ?_;clear hN N)))
   exact bp (b:=false) (.inl rfl) (sd @Nat.zero_add) (decide_eq_false (by rintro rfl;exact h2 rfl)).symm
 ·have e1:decide (a.aP=b.aP)=false:=decide_eq_false h1
  (try((repeat(revert hN;revert N;apply Pn.out));refine wk (tw @bR.eq_1 @e1) ?_;(repeat(refine Pn.mk ?_;intro N hN))))
  exact bp (b:=false) (.inl rfl) (sd @Nat.zero_add) (decide_eq_false (by rintro rfl;exact h1 rfl)).symm
theorem Kh (xs:List gh) (h:xs.length<=1048576):lv Tryz.prog 129 [.sl (xs.map cm)] (.sl (xs.map cm)):=
 G9 (show nK Tryz.prog 129=some (wh 129 197 2 [.str [],.int .i64 0]) by kernel_rfl) rfl (fun _=>rfl) (fun _=>rfl) PZ xs h fun x _=>Nu x
theorem Kj (xs:List fb) (h:xs.length<=1048576) (hs:∀t∈xs,uj t):lv Tryz.prog 130 [.sl (xs.map bR)] (.sl (xs.map bR)):=
 G9 (show nK Tryz.prog 130=some (wh 130 198 2 [.str [],.bI]) by kernel_rfl) rfl (fun _=>rfl) (fun _=>rfl) P0 xs h fun x hx=>Nz x (hs x hx)
theorem EP (xs:List aa) (h:xs.length<=1048576):lv Tryz.prog 80 [.sl (xs.map ab)] (.sl (xs.map ab)):=
 G9 (show nK Tryz.prog 80=some (wh 80 149 3 [.int .i64 0,.int .i64 0,.int .i64 0]) by kernel_rfl) rfl (fun _=>rfl) (fun _=>rfl) JW xs h fun x _=>G8 x
structure KQ (s:ax):Prop where
 g:s.aB.length<=1048576
 t:s.ai.length<=1048576
 s:∀t∈s.ai,uj t
structure vg (y:aE):Prop where
 s:KQ y.aC
 a:y.bY.ai.length<=1048576
theorem ES (p:ax) (hs:KQ p):lv Tryz.prog 63 [.agg (ad p)] (.agg (ad p)):=by
 refine lv.body eF rfl fun hl σ=>?_
 clear hl
 have h1:=Kh p.aB hs.g
 have h2:=Kj p.ai hs.t hs.s
 (repeat(first|((repeat(revert hN;revert N;apply Pn.out));refine wk @ad.eq_1 ?_;(repeat(refine Pn.mk ?_;intro N hN)))|((try apply Or.inl);refine⟨_,lv.x (h1) _,?_⟩;refine hN _ _ ?_;clear hN N)|((try apply Or.inl);refine⟨_,lv.x (h2) _,?_⟩;refine hN _ _ ?_;clear hN N)))
 exact uS (.inl rfl) (vs:=[.agg (ad p)]) (by simp only[go_sem, ↓reduceIte,Nat.reduceEqDiff,Nat.reduceAdd,Nat.reduceSub,Nat.reduceLeDiff,reduceCtorEq,fM,iU,ad]) (by simp[fc,ad,bd,aj,ar,ck])
theorem Cn (p:iP) (hs:p.ai.length<=1048576):lv Tryz.prog 18 [.agg (eu p)] (.agg (eu p)):=by
 refine lv.body eF rfl fun hl σ=>?_
 clear hl
 have h1:=EP p.ai hs
 (repeat(first|((repeat(revert hN;revert N;apply Pn.out));refine wk @eu.eq_1 ?_;(repeat(refine Pn.mk ?_;intro N hN)))|((try apply Or.inl);refine⟨_,lv.x (h1) _,?_⟩;refine hN _ _ ?_;clear hN N)))
 exact uS (.inl rfl) (vs:=[.agg (eu p)]) (by simp only[go_sem, ↓reduceIte,Nat.reduceEqDiff,Nat.reduceAdd,Nat.reduceSub,Nat.reduceLeDiff,reduceCtorEq,fM,iU,eu]) (by simp[fc,eu,bd,aj,ar,ck])
theorem Hb (p:aE) (hs:vg p):lv Tryz.prog 16 [.agg (aA p)] (.agg (aA p)):=by
 refine lv.body eF rfl fun hl σ=>?_
 clear hl
 have h1:=ES p.aC hs.s
 have h2:=Cn p.bY hs.a
 rw[ad]at h1
 rw[eu]at h2
 (repeat(first|((repeat(revert hN;revert N;apply Pn.out));refine wk @aA.eq_1 ?_;(repeat(refine Pn.mk ?_;intro N hN)))|((try apply Or.inl);refine⟨_,lv.x (h1) _,?_⟩;refine hN _ _ ?_;clear hN N)|((try apply Or.inl);refine⟨_,lv.x (h2) _,?_⟩;refine hN _ _ ?_;clear hN N)))
 exact uS (.inl rfl) (vs:=[.agg (aA p)]) (by simp only[go_sem, ↓reduceIte,Nat.reduceEqDiff,Nat.reduceAdd,Nat.reduceSub,Nat.reduceLeDiff,reduceCtorEq,fM,iU,aA]) (by simp[fc,aA,bd,aj,ar,ck,aH])
theorem Lo (a b:gh):au Tryz.prog 211 [.agg (cm a),.agg (cm b)] (.bool (decide (a=b))):=by
 refine au.body eF rfl fun hl n0=>?_
 clear hl
 by_cases h1:a.aP=b.aP
 ·have e1:decide (a.aP=b.aP)=true:=decide_eq_true h1
  by_cases h2:a.eK=b.eK
  ·have e2:decide (a.eK=b.eK)=true:=decide_eq_true h2
   (try((repeat(revert hN;revert N;apply Pn.out));refine wk (tw @cm.eq_1 (tw @e1 @e2)) ?_;(repeat(refine Pn.mk ?_;intro N hN))))
   exact bp (b:=true) (.inl rfl) (sd @Nat.zero_add) (decide_eq_true (by cases a;cases b;simp_all)).symm
  ·have e2:decide (a.eK=b.eK)=false:=decide_eq_false h2
   (try((repeat(revert hN;revert N;apply Pn.out));refine wk (tw @cm.eq_1 (tw @e1 @e2)) ?_;(repeat(refine Pn.mk ?_;intro N hN))))
   exact bp (b:=false) (.inl rfl) (sd @Nat.zero_add) (decide_eq_false (by rintro rfl;exact h2 rfl)).symm
 ·have e1:decide (a.aP=b.aP)=false:=decide_eq_false h1
  (try((repeat(revert hN;revert N;apply Pn.out));refine wk (tw @cm.eq_1 @e1) ?_;(repeat(refine Pn.mk ?_;intro N hN))))
  exact bp (b:=false) (.inl rfl) (sd @Nat.zero_add) (decide_eq_false (by rintro rfl;exact h1 rfl)).symm
theorem zX (a b:aq):au Tryz.prog 112 [.agg (ae a),.agg (ae b)] (.bool (decide (a=b))):=by
 refine au.body eF rfl fun hl n0=>?_
 clear hl
 by_cases h1:a.eE=b.eE
 ·have e1:decide (a.eE=b.eE)=true:=decide_eq_true h1
  by_cases h2:a.ez=b.ez
  ·have e2:decide (a.ez=b.ez)=true:=decide_eq_true h2
   (try((repeat(revert hN;revert N;apply Pn.out));refine wk (tw @ae.eq_1 (tw @e1 @e2)) ?_;(repeat(refine Pn.mk ?_;intro N hN))))
   exact bp (b:=true) (.inl rfl) (sd @Nat.zero_add) (decide_eq_true (by cases a;cases b;simp_all)).symm
  ·have e2:decide (a.ez=b.ez)=false:=decide_eq_false h2
   (try((repeat(revert hN;revert N;apply Pn.out));refine wk (tw @ae.eq_1 (tw @e1 @e2)) ?_;(repeat(refine Pn.mk ?_;intro N hN))))
   exact bp (b:=false) (.inl rfl) (sd @Nat.zero_add) (decide_eq_false (by rintro rfl;exact h2 rfl)).symm
 ·have e1:decide (a.eE=b.eE)=false:=decide_eq_false h1
  (try((repeat(revert hN;revert N;apply Pn.out));refine wk (tw @ae.eq_1 @e1) ?_;(repeat(refine Pn.mk ?_;intro N hN))))
  exact bp (b:=false) (.inl rfl) (sd @Nat.zero_add) (decide_eq_false (by rintro rfl;exact h1 rfl)).symm
theorem FI (a b:aa):au Tryz.prog 119 [.agg (ab a),.agg (ab b)] (.bool (decide (a=b))):=by
 refine au.body eF rfl fun hl n0=>?_
 clear hl
 have h:=zX a.aJ b.aJ
 rw[ae,ae]at h
 by_cases h1:a.aJ=b.aJ
 ·rw[decide_eq_true h1]at h
  by_cases h2:a.br=b.br
  ·have e2:decide (a.br=b.br)=true:=decide_eq_true h2
   (repeat(first|((repeat(revert hN;revert N;apply Pn.out));refine wk (tw @ab.eq_1 @e2) ?_;(repeat(refine Pn.mk ?_;intro N hN)))|((try apply Or.inl);refine⟨_,au.x (h) (sd (tw @ab.eq_1 @e2)),?_⟩;refine hN _ _ ?_;clear hN N)))
   exact bp (b:=true) (.inl rfl) (sd @Nat.zero_add) (decide_eq_true (by cases a;cases b;simp_all)).symm
  ·have e2:decide (a.br=b.br)=false:=decide_eq_false h2
   (repeat(first|((repeat(revert hN;revert N;apply Pn.out));refine wk (tw @ab.eq_1 @e2) ?_;(repeat(refine Pn.mk ?_;intro N hN)))|((try apply Or.inl);refine⟨_,au.x (h) (sd (tw @ab.eq_1 @e2)),?_⟩;refine hN _ _ ?_;clear hN N)))
   exact bp (b:=false) (.inl rfl) (sd @Nat.zero_add) (decide_eq_false (by rintro rfl;exact h2 rfl)).symm
 ·rw[decide_eq_false h1]at h
  (repeat(first|((repeat(revert hN;revert N;apply Pn.out));refine wk @ab.eq_1 ?_;(repeat(refine Pn.mk ?_;intro N hN)))|((try apply Or.inl);refine⟨_,au.x (h) (sd @ab.eq_1),?_⟩;refine hN _ _ ?_;clear hN N)))
  exact bp (b:=false) (.inl rfl) (sd @Nat.zero_add) (decide_eq_false (by rintro rfl;exact h1 rfl)).symm
theorem IQ (xs ys:List gh):au Tryz.prog 136 [.sl (xs.map cm),.sl (ys.map cm)] (.bool (decide (xs=ys))):=
 Bj (show nK Tryz.prog 136=some (Di 136 211 2) by kernel_rfl) (fun _=>rfl) Dt xs ys Lo
theorem IS (xs ys:List fb):au Tryz.prog 137 [.sl (xs.map bR),.sl (ys.map bR)] (.bool (decide (xs=ys))):=
 Bj (show nK Tryz.prog 137=some (Di 137 212 2) by kernel_rfl) (fun _=>rfl) Du xs ys Lr
theorem vn (xs ys:List aa):au Tryz.prog 58 [.sl (xs.map ab),.sl (ys.map ab)] (.bool (decide (xs=ys))):=
 Bj (show nK Tryz.prog 58=some (Di 58 119 3) by kernel_rfl) (fun _=>rfl) xN xs ys FI
theorem FJ (a:aE):au Tryz.prog 21 [.agg (aA a),.agg (aA a)] (.bool true):=by
 have q1:au Tryz.prog 66 [.agg (ad a.aC),.agg (ad a.aC)] (.bool true):=by
  refine au.body eF rfl fun hl n0=>?_
  clear hl
  have h1:=IQ a.aC.aB a.aC.aB
  have h2:=IS a.aC.ai a.aC.ai
  rw[decide_eq_true rfl]at h1 h2
  (repeat(first|((repeat(revert hN;revert N;apply Pn.out));refine wk @ad.eq_1 ?_;(repeat(refine Pn.mk ?_;intro N hN)))|((try apply Or.inl);refine⟨_,au.x (h1) (sd @ad.eq_1),?_⟩;refine hN _ _ ?_;clear hN N)|((try apply Or.inl);refine⟨_,au.x (h2) (sd @ad.eq_1),?_⟩;refine hN _ _ ?_;clear hN N)))
  exact bp (b:=true) (.inl rfl) (sd @Nat.zero_add) rfl
 have q2:au Tryz.prog 22 [.agg (eu a.bY),.agg (eu a.bY)] (.bool true):=by
  refine au.body eF rfl fun hl n0=>?_
  clear hl
  have h1:=vn a.bY.ai a.bY.ai
  rw[decide_eq_true rfl]at h1
  (repeat(first|((repeat(revert hN;revert N;apply Pn.out));refine wk @eu.eq_1 ?_;(repeat(refine Pn.mk ?_;intro N hN)))|((try apply Or.inl);refine⟨_,au.x (h1) (sd @eu.eq_1),?_⟩;refine hN _ _ ?_;clear hN N)))
  exact bp (b:=true) (.inl rfl) (sd @Nat.zero_add) rfl
 rw[ad]at q1
 rw[eu]at q2
 refine au.body eF rfl fun hl n0=>?_
 clear hl
 have e:decide (a.az=a.az)=true:=decide_eq_true rfl
 (repeat(first|((repeat(revert hN;revert N;apply Pn.out));refine wk (tw @aA.eq_1 @e) ?_;(repeat(refine Pn.mk ?_;intro N hN)))|((try apply Or.inl);refine⟨_,au.x (q1) (sd (tw @aA.eq_1 @e)),?_⟩;refine hN _ _ ?_;clear hN N)|((try apply Or.inl);refine⟨_,au.x (q2) (sd (tw @aA.eq_1 @e)),?_⟩;refine hN _ _ ?_;clear hN N)))
 exact bp (b:=true) (.inl rfl) (sd @Nat.zero_add) rfl
end Go.Proofs.YtgoljkjaameagaaGreat.V

namespace Go.Proofs.YtgoljkjaameagaaGreat.V
open Go.RowKit
def isApp:gV->Bool
 | .append .. =>true
 |_=>false
variable {P:Program} {X:gn} {K:Env->aw->Prop} {env:Env} {σ:aw}
theorem Rf {draw:Bool} {o:bx} {r:List bx} (_:isApp o.op=false) (h:∀N:AV->aw->Prop,(∀v s,wpOps X draw r K (upd env o.dst v) s->N v s)->if aM o.guard env then fE X draw o env σ N else N .undef σ):wpOps X draw (o::r) K env σ:=TG h
end Go.Proofs.YtgoljkjaameagaaGreat.V

namespace Go.Proofs.YtgoljkjaameagaaGreat.V
open Go.RowKit
section
variable {α:Type} {enc:α->List AV} {sz:Nat} {g g':Rows} {a:AV} {xs:List α} {ids:List Id}
end
abbrev ze (α:Type):=Rows->List AV->α->List Id->Prop
structure ui {α:Type} (R:ze α) (sz:Nat):Prop where
 frame:∀{g g':Rows} {cs x ids},R g cs x ids->(∀i∈ids,g' i=g i)->R g' cs x ids
 len:∀{g cs x ids},R g cs x ids->cs.length=sz
 cell:∀{g cs x ids},R g cs x ids->cs.all AV.cell=true
 live:∀{g cs x ids},R g cs x ids->∀i∈ids,∃r,g i=some r/\r.w=true/\r.sz<tp
 small:sz<tp
inductive dD {α:Type} (R:ze α) (g:Rows):List (List AV)->List α->List Id->Prop
 |nil:dD R g [] [] []
 |cons {cs x i1 rs xs i2}:R g cs x i1->dD R g rs xs i2->dD R g (cs::rs) (x::xs) (i1++i2)
section
variable {α:Type} {R:ze α} {sz:Nat} {g g':Rows} {rows r1 r2:List (List AV)} {xs x1 x2:List α} {ids i1 i2:List Id}
theorem dD.len (h:dD R g rows xs ids):rows.length=xs.length:=by
 induction h with
 |nil=>rfl
 |cons _ _ ih=>simp[ih]
theorem dD.frame (ok:ui R sz) (h:dD R g rows xs ids) (hf:∀i∈ids,g' i=g i):dD R g' rows xs ids:=by
 induction h with
 |nil=>exact .nil
 |cons h1 _ ih=>exact .cons (ok.frame h1 fun i hi=>hf i (List.mem_append_left _ hi)) (ih fun i hi=>hf i (List.mem_append_right _ hi))
theorem dD.app (h1:dD R g r1 x1 i1) (h2:dD R g r2 x2 i2):dD R g (r1++r2) (x1++x2) (i1++i2):=by
 induction h1 with
 |nil=>exact h2
 |cons h _ ih=>rw[List.append_assoc];exact .cons h ih
theorem dD.one {cs:List AV} {x:α} (h:R g cs x ids):dD R g [cs] [x] ids:=by
 have:=dD.cons h dD.nil
 rwa [List.append_nil]at this
theorem dD.split (h:dD R g rows xs ids):∀k (hk:k<xs.length),∃r1 cs r2 i1 ic i2,rows=r1++cs::r2/\r1.length=k/\ids=i1++(ic++i2)/\dD R g r1 (xs.take k) i1/\R g cs xs[k] ic/\dD R g r2 (xs.drop (k+1)) i2:=by
 induction h with
 |nil=>intro k hk;simp at hk
 |cons h1 h2 ih=>
  rename_i cs x j1 rs xs j2
  intro k hk
  cases k with
  |zero=>exact⟨[],cs,rs,[],j1,j2,rfl,rfl,rfl,.nil,h1,h2⟩
  |succ k=>
   obtain⟨r1,rl,r2,i1,ic,i2,rfl,hl,rfl,h3,h4,h5⟩:=ih k (by simpa using hk)
   exact⟨cs::r1,rl,r2,j1++i1,ic,i2,rfl,by simp[hl],by rw[List.append_assoc],.cons h1 h3,h4,h5⟩
theorem dD.at_ (h:dD R g rows xs ids) (k:Nat) (hk:k<xs.length):∃cs ic,rows[k]? =some cs/\R g cs xs[k] ic/\∀i∈ic,i∈ids:=by
 obtain⟨r1,cs,r2,i1,ic,i2,rfl,hl,rfl,h3,h4,h5⟩:=h.split k hk
 refine⟨cs,ic,by rw[List.getElem?_append_right ah];simp[hl],h4,fun i hi=>by simp[hi]⟩
theorem dD.put (ok:ui R sz) (h:dD R g rows xs ids) (lk:ids.Nodup) (k:Nat) (hk:k<xs.length):∃cs ic,rows[k]? =some cs/\R g cs xs[k] ic/\ic.Nodup/\(∀i∈ic,i∈ids)/\∀(g':Rows) x',R g' cs x' ic->(∀i∈ids,i∉ic->g' i=g i)->dD R g' rows (xs.set k x') ids:=by
 obtain⟨r1,cs,r2,i1,ic,i2,rfl,rfl,rfl,h3,h4,h5⟩:=h.split k hk
 obtain⟨_,n2,n3⟩:=List.nodup_append.1 lk
 obtain⟨nc,_,n4⟩:=List.nodup_append.1 n2
 refine⟨cs,ic,by simp,h4,nc,fun i hi=>by simp[hi],fun g' x' hR hf=>?_⟩
 have e:xs.set r1.length x'=xs.take r1.length++x'::xs.drop (r1.length+1):=by
  rw[List.set_eq_take_append_cons_drop,if_pos hk]
 rw[e]
 refine(h3.frame ok fun i hi=>hf i (by simp[hi]) fun hc=>n3 i hi i (by simp[hc]) rfl).app (.cons hR (h5.frame ok fun i hi=>hf i (by simp[hi]) fun hc=>n4 i hc i hi rfl))
theorem dD.fz {n:Nat} {e:α->List AV} (h:dD R g rows xs ids) (hz:∀{cs x ids},R g cs x ids->cZ (dH g) n cs=some (e x)):eo (dH g) n rows=some (xs.map e):=by
 induction h with
 |nil=>rw[eo];rfl
 |cons h1 _ ih=>rw[eo,hz h1,ih];rfl
end
section
variable {α:Type} {R:ze α} {sz:Nat} {g g':Rows} {a:AV} {xs:List α} {ids:List Id}
end
end Go.Proofs.YtgoljkjaameagaaGreat.V
