/- One operation, calls among them. -/
import Derived.Test.YtgoljkjaameagaaGreatRkA
import Derived.Orders
import Derived.Conc.LoneCalls
import Derived.WalkKit
import Derived.WalkSpells
import Derived.WalkLawsBesides
import Derived.Lib.Hide
import Derived.Deep.QuietTactic
import Derived.BigQuiet
import Derived.StillTailTactics
import Derived.Deep.RegionWith
import Derived.Deep.RegionHeld3
import Derived.Deep.LoopGhost
import Derived.Deep.CutRange
import Derived.Deep.DeepCutAuto
import Derived.Test.YtgoljkjaameagaaGreatChecked
set_option linter.unusedVariables false
set_option linter.unusedSimpArgs false
set_option maxRecDepth 100000
set_option maxHeartbeats 16000000
namespace Go.Proofs.YtgoljkjaameagaaGreat.V
open Go.RowKit
variable {P:Program} {w w':World} {D D' D2:Nat->Prop} {ι ι' ι2:Names}
def Sound (P:Program):fN:=fun f args σ K=>∀(hs:Nat) (D:Nat->Prop) (ι:Names) (w:World) (vs:Array Value),gw P hs D ι σ.get w->Used ι σ.next (fun _=>False)->fA P w D ι args vs->
 Calls P f vs w fun e w'=>∃r g' n' D' ι' u,e=.returned u/\K r ⟨g',n'⟩/\Step hs D ι w D' ι' w'/\gw P hs D' ι' g' w'/\Used ι' n' (fun _=>False)/\σ.next<=n'/\cW P w' D' ι' r u
section
variable {g:Rows} {hs:Nat} {env:Env} {a:Act} {o:Oper} {id:Id} {v:AV}
theorem gw.ro (S:gw P hs D ι g w):gw P w.heap.size D ι (ro g) w:=by
 refine⟨Nat.le_refl _,S.dead,fun id r h=>?_,fun id j0 r r' B B' h h' hw=>?_⟩
 ·unfold V.ro at h
  simp only[Option.map_eq_some_iff]at h
  obtain⟨r0,h0,rfl⟩:=h
  obtain⟨B,hB,R,_,_⟩:=S.row id r0 h0
  exact⟨B,hB,R.flag false,fun h=>by simp at h,fun h=>by simp at h⟩
 ·unfold V.ro at h
  simp only[Option.map_eq_some_iff]at h
  obtain⟨r0,h0,rfl⟩:=h
  simp at hw
theorem AN {g0:Rows} {f:Nat} {args:List AV} {n:Nat} {K:AV->Prop} {vs:Array Value} (h:PC (Sound P) f args ⟨g0,n⟩ K) (oK:∀id r,g0 id=some r->g id=some r) (S:gw P hs D ι g w) (U:Used ι n (fun _=>False)) (A:fA P w D ι args vs):
  Calls P f vs w fun e w'=>∃r D' u,e=.returned u/\K r/\Step hs D ι w D' ι w'/\gw P hs D' ι g w'/\cW P w' D' ι r u:=by
 refine(h w.heap.size D ι w vs (S.sub oK).ro U A).mono ?_
 rintro e w' ⟨r0,g',n',D1,ι1,u,rfl,⟨r,hr,hK⟩,T,S1,_,_,hR⟩
 have hb:∀b,b<w.heap.size->w'.heap[b]? =w.heap[b]? :=T.below.block
 have hz:=T.below.size
 have q:=rD (D2:=fun b=>D b∨(w.heap.size<=b/\b<w'.heap.size)) (ι2:=ι) (fun b hd=>by
  rcases T.new b hd with h|h
  ·exact .inl h
  ·exact .inr ⟨h,S1.dead b hd⟩) (fun id row hg hw=>by
  obtain⟨B,hB,R,h1,_⟩:=S1.row id row hg
  exact⟨B,hB,R,.inr ⟨h1 hw,R.lt⟩⟩) 6 r0 u r hR hr
 refine⟨r,_,u,rfl,hK,?_,?_,q.1⟩
 ·exact Step.stay S hb hz T.below.os T.below.tape T.below.output (fun _ h=>.inl h) (fun b h=>by rcases h with h|h;exact .inl h;exact .inr h.1) (fun _ _ h=>h)
 ·exact S.stay hb hz (fun _ h=>.inl h) (fun b h=>by rcases h with h|h;exact Nat.lt_of_lt_of_le (S.dead b h) hz;exact h.2) (fun b h=>by rcases h with h|h;exact .inl h;exact .inr h.1) (fun _ _ h=>h)
theorem xO {g0:Rows} {f:Nat} {args:List AV} {n:Nat} {K:AV->Prop} {vs:Array Value} (h:PCv (Sound P) f args ⟨g0,n⟩ K) (oK:∀id r,g0 id=some r->g id=some r) (S:gw P hs D ι g w) (U:Used ι n (fun _=>False)) (A:fA P w D ι args vs):
  Calls P f vs w fun e w'=>∃r D' u,e=.returned u/\K r/\Step hs D ι w D' ι w'/\gw P hs D' ι g w'/\cW P w' D' ι r u:=by
 obtain⟨eC,ha,h⟩:=h
 let D1:Nat->Prop:=fun b=>D b∨∃id r B,g id=some r/\ι id=some B/\b=B.b
 have lt:∀id r B,g id=some r->ι id=some B->B.b<w.heap.size:=fun id r B h1 h2=>by
  obtain⟨B',dF,R,_⟩:=S.row id r h1
  rw[h2]at dF;injection dF with dF;subst dF
  exact R.lt
 have S0:gw P w.heap.size D1 ι (fun _=>none) w:=⟨Nat.le_refl _,fun b hb=>by
  rcases hb with hb|⟨id,r,B,h1,h2,rfl⟩
  ·exact S.dead b hb
  ·exact lt id r B h1 h2,fun id r h=>(by cases h),fun id j0 r r' B B' h=>(by cases h)⟩
 obtain⟨l1,l2⟩:=gG ha
 have A':fA P w D1 ι eC vs:=⟨by rw[A.1,l1],fun j a hj=>by
  obtain⟨a0,lu,hf⟩:=l2 j a hj
  obtain⟨u,hu,hr⟩:=A.2 j a0 lu
  refine⟨u,hu,(rD (D2:=D1) (ι2:=ι) (fun b h=>.inl h) (fun id row hg hw=>?_) 6 a0 u a hr hf).1⟩
  unfold dD at hg
  simp only[Option.map_eq_some_iff]at hg
  obtain⟨r,nY,rfl⟩:=hg
  obtain⟨B,hB,R,_,_⟩:=S.row id r (oK id r nY)
  exact⟨B,hB,R.flag true,.inr ⟨id,r,B,oK id r nY,hB,rfl⟩⟩⟩
 refine(h w.heap.size D1 ι w vs S0 U A').mono ?_
 rintro e w' ⟨r0,g',n',D2,ι1,u,rfl,⟨r,hr,hK⟩,T,S1,_,_,hR⟩
 have hb:∀b,b<w.heap.size->w'.heap[b]? =w.heap[b]? :=T.below.block
 have hz:=T.below.size
 have q:=Gc (D2:=fun b=>D b∨(w.heap.size<=b/\b<w'.heap.size)) (ι2:=ι) (fun id row hg hw=>by
  obtain⟨B,hB,R,h1,_⟩:=S1.row id row hg
  exact⟨B,hB,R,.inr ⟨h1 hw,R.lt⟩⟩) 6 r0 u r hR hr
 refine⟨r,_,u,rfl,hK,?_,?_,q.1⟩
 ·exact Step.stay S hb hz T.below.os T.below.tape T.below.output (fun _ h=>.inl h) (fun b h=>by rcases h with h|h;exact .inl h;exact .inr h.1) (fun _ _ h=>h)
 ·exact S.stay hb hz (fun _ h=>.inl h) (fun b h=>by rcases h with h|h;exact Nat.lt_of_lt_of_le (S.dead b h) hz;exact h.2) (fun b h=>by rcases h with h|h;exact .inl h;exact .inr h.1) (fun _ _ h=>h)
theorem FO {g0:Rows} {f:Nat} {args:List AV} {n:Nat} {K:AV->Prop} {vs:Array Value} (h:fS (Sound P) f args ⟨g0,n⟩ K) (oK:∀id r,g0 id=some r->g id=some r) (S:gw P hs D ι g w) (U:Used ι n (fun _=>False)) (A:fA P w D ι args vs):
  Calls P f vs w fun e w'=>∃r D' u,e=.returned u/\K r/\Step hs D ι w D' ι w'/\gw P hs D' ι g w'/\cW P w' D' ι r u:=by
 rcases h with h|h
 ·exact AN h oK S U A
 ·exact xO h oK S U A
theorem GY {D1 D2:Nat->Prop} {ι1 ι2:Names} {w1:World} {a:AV} {v:Value} (hp:a.plain=true) (h:cW P w D1 ι1 a v):cW P w1 D2 ι2 a v:=by
 cases h with
 |eQ a v h=>cases h<;>first|(simp[AV.plain]at hp;done)|exact .eQ _ _ (by constructor)
 |_=>simp[AV.plain]at hp
theorem gw.add {r:Row} {B:si} (S:gw P hs D ι g w) (S':gw P hs D ι g w') (hf:ι id=none) (jZ:w.heap.size<=B.b) (R:gO P w' D (kJ ι id B) B r):gw P hs D (kJ ι id B) (br g id r) w':=by
 have lt:∀j0 r' B',g j0=some r'->ι j0=some B'->B'.b<w.heap.size:=fun j0 r' B' h1 h2=>by
  obtain⟨B2,pU,R2,_⟩:=S.row j0 r' h1
  rw[h2]at pU;injection pU with pU;subst pU
  exact R2.lt
 have ne:∀j0 r',g j0=some r'->j0≠id:=fun j0 r' h he=>by
  subst he
  obtain⟨B2,pU,_⟩:=S.row _ r' h
  rw[hf]at pU;cases pU
 refine⟨S'.lo,S'.dead,fun j0 r' h=>?_,fun RD id2 r1 r2 B1 B2 h1 h2 hw AH pU hb=>?_⟩
 ·unfold br at h
  split at h
  ·rename_i he
   subst he
   injection h with h;subst h
   exact⟨B,ep _ _ _,R,fun _=>Nat.le_trans S.lo jZ,fun _ hd=>Nat.lt_irrefl _ (Nat.lt_of_lt_of_le (S.dead _ hd) jZ)⟩
  ·obtain⟨B',dF,R',k1,k2⟩:=S'.row j0 r' h
   exact⟨B',by rw[gp (ne _ _ h)];exact dF,R'.frame rfl (fun a v hr=>hr.frame (fun _ _=>rfl) (fun _ h=>h) (e6 hf)),k1,k2⟩
 ·unfold br at h1 h2
  split at h1
  ·rename_i e1
   split at h2
   ·rename_i e2;rw[e1,e2]
   ·exfalso
    subst e1
    rw[ep]at AH;injection AH with AH;subst AH
    rw[gp (ne _ _ h2)]at pU
    have:=lt _ _ _ h2 pU
    omega
  ·rw[gp (ne _ _ h1)]at AH
   split at h2
   ·rename_i e2
    exfalso
    subst e2
    rw[ep]at pU;injection pU with pU;subst pU
    have:=lt _ _ _ h1 AH
    omega
   ·rw[gp (ne _ _ h2)]at pU
    exact S'.inj RD id2 r1 r2 B1 B2 h1 h2 hw AH pU hb
theorem HI {g0:Rows} {f:Nat} {args:List AV} {n sz:Nat} {rows:List (List AV)} {vs:Array Value} (h:CM (Sound P) f args ⟨g0,n⟩ sz rows) (oK:∀id r,g0 id=some r->g id=some r) (S:gw P hs D ι g w) (U:Used ι n (fun _=>False)) (A:fA P w D ι args vs) (hf:ι id=none):
  Calls P f vs w fun e w'=>∃u B,e=.returned u/\Step hs D ι w D (kJ ι id B) w'/\gw P hs D (kJ ι id B) (br g id ⟨true,sz,rows⟩) w'/\cW P w' D (kJ ι id B) (.own id 0 rows.length) u:=by
 obtain⟨ml,eC,ha,h⟩:=h
 let D1:Nat->Prop:=fun b=>D b∨∃id r B,g id=some r/\ι id=some B/\b=B.b
 have lt:∀id r B,g id=some r->ι id=some B->B.b<w.heap.size:=fun id r B h1 h2=>by
  obtain⟨B',dF,R,_⟩:=S.row id r h1
  rw[h2]at dF;injection dF with dF;subst dF
  exact R.lt
 have S0:gw P w.heap.size D1 ι (fun _=>none) w:=⟨Nat.le_refl _,fun b hb=>by
  rcases hb with hb|⟨id,r,B,h1,h2,rfl⟩
  ·exact S.dead b hb
  ·exact lt id r B h1 h2,fun id r h=>(by cases h),fun id j0 r r' B B' h=>(by cases h)⟩
 obtain⟨l1,l2⟩:=gG ha
 have A':fA P w D1 ι eC vs:=⟨by rw[A.1,l1],fun j a hj=>by
  obtain⟨a0,lu,hz⟩:=l2 j a hj
  obtain⟨u,hu,hr⟩:=A.2 j a0 lu
  refine⟨u,hu,(rD (D2:=D1) (ι2:=ι) (fun b h=>.inl h) (fun id row hg hw=>?_) 6 a0 u a hr hz).1⟩
  unfold dD at hg
  simp only[Option.map_eq_some_iff]at hg
  obtain⟨r,nY,rfl⟩:=hg
  obtain⟨B,hB,R,_,_⟩:=S.row id r (oK id r nY)
  exact⟨B,hB,R.flag true,.inr ⟨id,r,B,oK id r nY,hB,rfl⟩⟩⟩
 refine(h w.heap.size D1 ι w vs S0 U A').mono ?_
 rintro e w' ⟨r0,g',n',D2,ι1,u,rfl,⟨i0,hr,hg⟩,T,S1,_,_,hR⟩
 subst hr
 have hb:∀b,b<w.heap.size->w'.heap[b]? =w.heap[b]? :=T.below.block
 have hz:=T.below.size
 obtain⟨B,hB,R,k1,_⟩:=S1.row i0 _ hg
 have jZ:w.heap.size<=B.b:=k1 rfl
 obtain⟨o,cap,B',rfl,dF,q2,q3,q4,q5,hk⟩:=iY hR
 rw[hB]at dF;injection dF with dF;subst dF
 replace R:=R.row hk
 have S':gw P hs D ι g w':=S.stay hb hz (fun _ h=>h) (fun b h=>Nat.lt_of_lt_of_le (S.dead b h) hz) (fun b h=>.inl h) (fun _ _ h=>h)
 have R':lI P w' D (kJ ι id B) B ⟨true,sz,rows⟩:=⟨R.sz,R.xo,R.fits,R.len,R.flat,fun i j cs a hi hj=>by
  obtain⟨v,h1,h2⟩:=R.at_ i j cs a hi hj
  exact⟨v,h1,GY (ml cs (List.mem_of_getElem? hi) a (List.mem_of_getElem? hj)) h2⟩⟩
 exact⟨_,B,rfl,Step.stay S hb hz T.below.os T.below.tape T.below.output (fun _ h=>h) (fun _ h=>.inl h) (e6 hf),S.add S' hf jZ (R'.obj hk),.own id 0 _ _ _ B (ep _ _ _) hk q2 q3 q4 q5⟩
theorem jA {f:Nat} {args:Array Value} (hc:fP P f=true):(callFunc f args).run P w=.ok (.enter f args) w:=by
 unfold fP at hc
 split at hc
 ·rename_i fn hf
  simp only[Bool.and_eq_true,Bool.not_eq_true']at hc
  have hb:fn.body.isNone=false:=by cases hq:fn.body<;>simp_all
  simp only[callFunc,Sem.run_bind,run_program,Result.andThen_ok,hf,hc.2,Bool.false_eq_true,if_false,hb]
  rfl
 ·simp at hc
theorem BN {f:Nat} {args:List O} (hc:qR P o.op=some (.call f args)):∃c,o.op=.call c/\c.callee=.value (.func f)/\fP P f=true/\c.args.toList.mapM (cO P)=some args:=by
 unfold qR at hc
 split at hc
 case h_23=>
  rename_i c ho
  refine⟨c,ho,?_⟩
  unfold nE at hc
  split at hc
  all_goals (try(repeat' (split at hc))<;>(simp only[Option.bind_eq_bind,Option.bind_eq_some_iff,Option.pure_def,Option.some.injEq,Option.map_eq_some_iff,reduceCtorEq,and_false,exists_false]at hc))
  all_goals simp_all
 all_goals (try unfold u7 at hc)<;>(try unfold sw at hc)<;>(repeat' (split at hc))<;>(simp only[Option.bind_eq_bind,Option.bind_eq_some_iff,Option.pure_def,Option.some.injEq,Option.map_eq_some_iff,reduceCtorEq,and_false,exists_false]at hc)
theorem sS {x:O} {args:List O} (hc:qR P o.op=some (.tu x args)):∃c t,o.op=.call c/\c.callee=.value (.tmp t)/\x=.t t/\c.args.toList.mapM (cO P)=some args:=by
 unfold qR at hc
 split at hc
 case h_23=>
  rename_i c ho
  refine⟨c,?_⟩
  unfold nE at hc
  split at hc
  all_goals (try(repeat' (split at hc))<;>(simp only[Option.bind_eq_bind,Option.bind_eq_some_iff,Option.pure_def,Option.some.injEq,Option.map_eq_some_iff,reduceCtorEq,and_false,exists_false]at hc))
  all_goals simp_all
 all_goals (try unfold u7 at hc)<;>(try unfold sw at hc)<;>(repeat' (split at hc))<;>(simp only[Option.bind_eq_bind,Option.bind_eq_some_iff,Option.pure_def,Option.some.injEq,Option.map_eq_some_iff,reduceCtorEq,and_false,exists_false]at hc)
theorem Gv {n:Nat} {x y:O} (hc:qR P o.op=some (.store n x y)):∃t x' y',o.op=.store t x' y'/\er P t=some n/\cO P x'=some x/\cO P y'=some y:=by
 unfold qR at hc
 split at hc
 case h_7=>
  rename_i t x' y' ho
  refine⟨t,x',y',ho,?_⟩
  simp only[Option.bind_eq_bind,Option.bind_eq_some_iff,Option.pure_def,Option.some.injEq]at hc
  obtain⟨n',h1,x2,h2,y2,h3,he⟩:=hc
  injection he with e1 e2 e3
  subst e1;subst e2;subst e3
  exact⟨h1,h2,h3⟩
 all_goals (try unfold u7 at hc)<;>(try unfold sw at hc)<;>(try unfold nE at hc)<;>(repeat' (split at hc))<;>(simp only[Option.bind_eq_bind,Option.bind_eq_some_iff,Option.pure_def,Option.some.injEq,Option.map_eq_some_iff,reduceCtorEq,and_false,exists_false]at hc)
theorem DL {n:Nat} {x y:O} (hc:qR P o.op=some (.append n x y)):∃(t e:TypeId) (m:Nat) (z:List K) (i:TypeInfo) (x' y':Operand),n=m+1/\o.op=.call {callee:=.builtin .append,args:= #[x',y'],argTypes:= #[t,t]}/\
  P.underlying t=some (.slice e)/\er P e=some (m+1)/\jK P e=some z/\P.info? e=some i/\i.bytes<=32768/\cO P x'=some x/\cO P y'=some y:=by
 unfold qR at hc
 split at hc
 case h_23=>
  rename_i c ho
  unfold nE at hc
  split at hc
  case h_2=>
   rename_i kE
   split at hc
   ·rename_i x' y' t u h1 h2
    split at hc
    ·rename_i e ht
     split at hc
     ·rename_i m z i e1 e2 e3
      split at hc
      ·rename_i hb
       simp only[Option.bind_eq_bind,Option.bind_eq_some_iff,Option.pure_def,Option.some.injEq]at hc
       obtain⟨x2,h3,y2,h4,he⟩:=hc
       injection he with k1 k2 k3
       subst k1;subst k2;subst k3
       obtain⟨KE,rfl⟩:=hb
       refine⟨t,e,m,z,i,x',y',rfl,?_,ht,e1,e2,e3,KE,h3,h4⟩
       rw[ho]
       obtain⟨ca,cb,cc⟩:=c
       simp only at h1 h2 kE
       subst kE
       congr
       ·exact Array.ext' h1
       ·exact Array.ext' h2
      ·simp at hc
     ·simp at hc
    ·simp at hc
   ·simp at hc
  all_goals (repeat' (split at hc))<;>(simp only[Option.bind_eq_bind,Option.bind_eq_some_iff,Option.pure_def,Option.some.injEq,Option.map_eq_some_iff,reduceCtorEq,and_false,exists_false]at hc)
 all_goals (try unfold u7 at hc)<;>(try unfold sw at hc)<;>(repeat' (split at hc))<;>(simp only[Option.bind_eq_bind,Option.bind_eq_some_iff,Option.pure_def,Option.some.injEq,Option.map_eq_some_iff,reduceCtorEq,and_false,exists_false]at hc)
theorem Jf {n:Nat} {x y:O} (hc:qR P o.op=some (.copy n x y)):∃(t t2 e:TypeId) (m:Nat) (x' y':Operand),n=m+1/\o.op=.call {callee:=.builtin .copy,args:= #[x',y'],argTypes:= #[t,t2]}/\
  P.underlying t=some (.slice e)/\er P e=some (m+1)/\cO P x'=some x/\cO P y'=some y:=by
 unfold qR at hc
 split at hc
 case h_23=>
  rename_i c ho
  unfold nE at hc
  split at hc
  case h_7=>
   rename_i kE
   split at hc
   ·rename_i x' y' t t2 h1 h2
    split at hc
    ·rename_i e ht
     split at hc
     ·rename_i m e1
      simp only[Option.bind_eq_bind,Option.bind_eq_some_iff,Option.pure_def,Option.some.injEq,gC.copy.injEq]at hc
      obtain⟨x2,h3,y2,h4,k0,k1,k2⟩:=hc
      subst k1;subst k2
      refine⟨t,t2,e,m,x',y',k0.symm,?_,ht,e1,h3,h4⟩
      rw[ho]
      obtain⟨ca,cb,cc⟩:=c
      simp only at h1 h2 kE
      subst kE
      congr
      ·exact Array.ext' h1
      ·exact Array.ext' h2
     ·simp at hc
    ·simp at hc
   ·simp at hc
  all_goals (repeat' (split at hc))<;>(simp only[Option.bind_eq_bind,Option.bind_eq_some_iff,Option.pure_def,Option.some.injEq,Option.map_eq_some_iff,reduceCtorEq,and_false,exists_false]at hc)
 all_goals (try unfold u7 at hc)<;>(try unfold sw at hc)<;>(repeat' (split at hc))<;>(simp only[Option.bind_eq_bind,Option.bind_eq_some_iff,Option.pure_def,Option.some.injEq,Option.map_eq_some_iff,reduceCtorEq,and_false,exists_false]at hc)
theorem Gu {z:List K} {x:O} (hc:qR P o.op=some (.clear z x)):∃(t e:TypeId) (m:Nat) (x':Operand),o.op=.call {callee:=.builtin .clear,args:= #[x'],argTypes:= #[t]}/\
  P.underlying t=some (.slice e)/\er P e=some (m+1)/\jK P e=some z/\cO P x'=some x:=by
 unfold qR at hc
 split at hc
 case h_23=>
  rename_i c ho
  unfold nE at hc
  split at hc
  case h_3=>
   rename_i kE
   split at hc
   ·rename_i x' t h1 h2
    split at hc
    ·rename_i e ht
     split at hc
     ·rename_i m z' e1 e2
      simp only[Option.map_eq_some_iff]at hc
      obtain⟨x2,h3,he⟩:=hc
      injection he with k1 k2
      subst k1;subst k2
      refine⟨t,e,m,x',?_,ht,e1,e2,h3⟩
      rw[ho]
      obtain⟨ca,cb,cc⟩:=c
      simp only at h1 h2 kE
      subst kE
      congr
      ·exact Array.ext' h1
      ·exact Array.ext' h2
     ·simp at hc
    ·simp at hc
   ·simp at hc
  all_goals (repeat' (split at hc))<;>(simp only[Option.bind_eq_bind,Option.bind_eq_some_iff,Option.pure_def,Option.some.injEq,Option.map_eq_some_iff,reduceCtorEq,and_false,exists_false]at hc)
 all_goals (try unfold u7 at hc)<;>(try unfold sw at hc)<;>(repeat' (split at hc))<;>(simp only[Option.bind_eq_bind,Option.bind_eq_some_iff,Option.pure_def,Option.some.injEq,Option.map_eq_some_iff,reduceCtorEq,and_false,exists_false]at hc)
theorem ON {q:MW} {xs:List O} (hc:qR P o.op=some (.mw q xs)):
  (∃t x k y m z x' k' y',(o.op=.mapUpdate t x k y∨o.op=.insert t x k y)/\sC P t=some (m,z)/\cO P x=some x'/\cO P k=some k'/\cO P y=some y'/\q=.set m/\xs=[x',k',y'])∨
  (∃t t' x k m z x' k',o.op=.call {callee:=.builtin .delete,args:= #[x,k],argTypes:= #[t,t']}/\sC P t=some (m,z)/\cO P x=some x'/\cO P k=some k'/\q=.del m/\xs=[x',k']):=by
 unfold qR at hc
 split at hc
 case h_23=>
  rename_i c ho
  right
  unfold nE at hc
  split at hc
  case h_6=>
   rename_i kE
   split at hc
   ·rename_i x k t t' h1 h2
    split at hc
    ·rename_i m z x' k' e1 e2 e3
     injection hc with hc
     injection hc with q1 q2
     refine⟨t,t',x,k,m,z,x',k',?_,e1,e2,e3,q1.symm,q2.symm⟩
     rw[ho]
     obtain⟨ca,cb,cc⟩:=c
     simp only at h1 h2 kE
     subst kE
     congr
     ·exact Array.ext' h1
     ·exact Array.ext' h2
    ·cases hc
   ·cases hc
  all_goals (repeat' (split at hc))<;>(simp only[Option.bind_eq_bind,Option.bind_eq_some_iff,Option.pure_def,Option.some.injEq,Option.map_eq_some_iff,reduceCtorEq,and_false,exists_false]at hc)
 case h_29=>
  rename_i t x k y ho
  left
  split at hc
  ·rename_i m z x' k' y' e1 e2 e3 e4
   injection hc with hc
   injection hc with q1 q2
   exact⟨t,x,k,y,m,z,x',k',y',.inl ho,e1,e2,e3,e4,q1.symm,q2.symm⟩
  ·cases hc
 case h_30=>
  rename_i t x k y ho
  left
  split at hc
  ·rename_i m z x' k' y' e1 e2 e3 e4
   injection hc with hc
   injection hc with q1 q2
   exact⟨t,x,k,y,m,z,x',k',y',.inr ho,e1,e2,e3,e4,q1.symm,q2.symm⟩
  ·cases hc
 all_goals (try unfold u7 at hc)<;>(try unfold sw at hc)<;>(repeat' (split at hc))<;>(simp only[Option.bind_eq_bind,Option.bind_eq_some_iff,Option.pure_def,Option.some.injEq,Option.map_eq_some_iff,reduceCtorEq,and_false,exists_false]at hc)
def jn (g:Rows) (id:Id):Option Row->Rows
 |some r=>br g id r
 |none=>g
def ve (X:fN) (hid:List Nat) (site n:Nat) (f:Nat) (args:List AV) (g:Rows) (v:AV) (g':Rows):Prop:=
 (fS X f args ⟨fG hid n g,n+1⟩ (fun r=>r=v)/\g'=g)∨
 (hid.contains site=true/\∃sz rows,CM X f args ⟨fG hid n g,n+1⟩ sz rows/\v=.own ⟨site,n⟩ 0 rows.length/\g'=br g ⟨site,n⟩ ⟨true,sz,rows⟩)
def VS (X:fN) (n:Nat) (vo:bh) (env:Env) (g:Rows) (v:AV) (g':Rows):Prop:=
 match vo.op with
 | .call f args=>ve X vo.hid vo.site n f (args.map (cX env)) g v g'
 | .tu x args=>∃f l,vd (cX env x) (args.map (cX env))=some (f,l)/\ve X vo.hid vo.site n f l g v g'
 | .store .. | .append .. | .copy .. | .clear .. | .mw .. =>fH vo.op (cX env) g ⟨vo.site,n⟩=some (v,g')
 |_=>∃mr,eG vo.op (cX env) (fG vo.hid n g) ⟨vo.site,n⟩=some (v,mr)/\g'=jn g ⟨vo.site,n⟩ mr
def MC (P:Program) (hs:Nat) (D:Nat->Prop) (ι:Names) (w:World) (U:Nat->Prop) (site n:Nat) (a:Act) (dst:Option Tmp) (v:AV) (g':Rows) (a':Act) (w':World):Prop:=
 ∃u D' ι',a'=a.put dst u/\Step hs D ι w D' ι' w'/\gw P hs D' ι' g' w'/\cW P w' D' ι' v u/\Used ι' n (fun s=>U s∨s=site)
theorem fresh {n:Nat} {U:Nat->Prop} {s:Nat} (h:Used ι n U) (hU:¬U s):ι ⟨s,n⟩=none:=by
 cases hq:ι ⟨s,n⟩with
 |none=>rfl
 |some B=>
  rcases h ⟨s,n⟩ (by rw[hq];simp)with h|⟨_,h⟩
  ·exact absurd h (Nat.lt_irrefl _)
  ·exact absurd h hU
theorem Used.more {n:Nat} {U U':Nat->Prop} (h:Used ι n U) (hU:∀s,U s->U' s):Used ι n U':=fun id hid=>by
 rcases h id hid with h|⟨h1,h2⟩
 ·exact .inl h
 ·exact .inr ⟨h1,hU _ h2⟩
theorem Used.next {n:Nat} {U:Nat->Prop} (h:Used ι n U):Used ι (n+1) (fun _=>False):=fun id hid=>by
 rcases h id hid with h|⟨h1,_⟩
 ·exact .inl (Nat.lt_succ_of_lt h)
 ·exact .inl (by omega)
theorem Used.upd {n:Nat} {U:Nat->Prop} {s:Nat} {B:si} (h:Used ι n U):Used (kJ ι ⟨s,n⟩ B) n (fun x=>U x∨x=s):=fun id hid=>by
 by_cases he:id=⟨s,n⟩
 ·subst he;exact .inr ⟨rfl,.inr rfl⟩
 ·rw[gp he]at hid
  exact(h.more (U':=fun x=>U x∨x=s) fun _ h=>Or.inl h) id hid
theorem oq {xs:Array Operand} {ys:List O} (E:ck P w D ι env a) (h:xs.toList.mapM (cO P)=some ys):fA P w D ι (ys.map (cX env)) (xs.map a.eval):=by
 obtain⟨h1,h2⟩:=Eb E h
 refine⟨by simpa using h1,fun j b hj=>?_⟩
 simp only[List.getElem?_map,Option.map_eq_some_iff]at hj
 obtain⟨y,hy,rfl⟩:=hj
 have dJ:j<xs.size:=by have:=(List.getElem?_eq_some_iff.1 hy).1;simp at h1;omega
 refine⟨a.eval xs[j],by simp[dJ],?_⟩
 have:=h2 j y hy
 simpa[List.getD_eq_getElem?_getD,dJ]using this
theorem oY {xs ys:List AV} {vs us:Array Value} (h:fA P w D ι xs vs) (k:fA P w D ι ys us):fA P w D ι (xs++ys) (vs++us):=
 ⟨by simp[h.1,k.1],fun j b hj=>by
  by_cases dJ:j<xs.length
  ·rw[List.getElem?_append_left dJ]at hj
   obtain⟨u,hu,xD⟩:=h.2 j b hj
   exact⟨u,by rw[Array.getElem?_append_left (by rw[h.1];exact dJ)];exact hu,xD⟩
  ·rw[List.getElem?_append_right (by omega)]at hj
   obtain⟨u,hu,xD⟩:=k.2 _ b hj
   exact⟨u,by rw[Array.getElem?_append_right (by rw[h.1];omega),h.1];exact hu,xD⟩⟩
theorem wH:fA P w D ι [] #[]:=⟨rfl,fun j b hj=>by simp at hj⟩
theorem vg {x:AV} {l l':List AV} {f:Nat} {vs:Array Value} {v:Value} (h:vd x l=some (f,l')) (hr:cW P w D ι x v) (hA:fA P w D ι l vs):
  ∃first da,v=.func (.func f) first da/\fP P f=true/\fA P w D ι l' (first++vs++da):=by
 unfold vd at h
 split at h
 ·simp only[Option.some.injEq,Prod.mk.injEq]at h
  obtain⟨rfl,rfl⟩:=h
  obtain⟨us,q,he,E8,n1,q1,q2⟩:=Aa hr
  refine⟨#[],us,he,E8,?_⟩
  rw[Array.empty_append]
  exact oY hA ⟨n1,fun j b hj=>⟨q j,q1 j (List.getElem?_eq_some_iff.1 hj).1,q2 j b hj⟩⟩
 ·simp only[Option.some.injEq,Prod.mk.injEq]at h
  obtain⟨rfl,rfl⟩:=h
  obtain⟨us,q,he,E8,n1,q1,q2⟩:=Mg hr
  refine⟨us, #[],he,E8,?_⟩
  rw[Array.append_empty]
  exact oY ⟨n1,fun j b hj=>⟨q j,q1 j (List.getElem?_eq_some_iff.1 hj).1,q2 j b hj⟩⟩ hA
 ·cases h
theorem AS {n:Nat} {vo:bh} {g':Rows} {U:Nat->Prop} {Q:Exit->Act->World->Prop} {K:Act->World->Prop} (hc:qR P o.op=some vo.op) (hv:VS (Sound P) n vo env g v g') (S:gw P hs D ι g w) (Us:Used ι n U) (hU:¬U vo.site) (E:ck P w D ι env a)
  (hK:∀a' w',MC P hs D ι w U vo.site n a o.dst v g' a' w'->K a' w'):o.wp P a w K Q:=by
 have hf:=fresh Us hU
 have A9:∀(f:Nat) (args:List AV) (vs:Array Value),ve (Sound P) vo.hid vo.site n f args g v g'->fA P w D ι args vs->(execOp a.eval o).run P w=.ok (.enter f vs) w->o.wp P a w K Q:=by
  intro f args vs hP hA gi
  unfold Oper.wp
  rw[gi]
  rcases hP with⟨hP,rfl⟩|⟨_,sz,rows,hM,rfl,rfl⟩
  ·refine(FO hP Av S Us.next hA).mono ?_
   rintro e w' ⟨r,D',u,rfl,rfl,T,S',hR⟩
   exact hK _ _ ⟨u,D',ι,rfl,T,S',hR,Us.more fun _ h=>.inl h⟩
  ·refine(HI hM Av S Us.next hA hf).mono ?_
   rintro e w' ⟨u,B,rfl,T,S',hR⟩
   exact hK _ _ ⟨u,D,_,rfl,T,S',hR,Us.upd⟩
 have quiet:∀(mr:Option Row),eG vo.op (cX env) (fG vo.hid n g) ⟨vo.site,n⟩=some (v,mr)->g'=jn g ⟨vo.site,n⟩ mr->o.wp P a w K Q:=by
  intro mr hq hg
  have Rl:=yS hc hq (S.sub Av) E
  unfold Oper.wp
  cases mr with
  |none=>
   obtain⟨u,gi,hR⟩:=Rl
   rw[gi]
   subst hg
   exact hK _ _ ⟨u,D,ι,rfl,Step.refl _ _ _ _,S,hR,Us.more fun _ h=>.inl h⟩
  |some r=>
   rcases Rl with⟨u,cells,T,gi,h1,h2,h3,h4,h5,h6⟩|⟨m,gi,LC,IZ⟩|⟨c,gi,LC,IZ⟩
   case inr.inr=>
    rw[gi]
    subst hg LC IZ
    have ft:w.heap.size<(w.alloc (.chan c #[] false 0 0 false)).heap.size:=by simp
    have S':=S.stay (w':=w.alloc (.chan c #[] false 0 0 false)) (D':=D) (ι':=ι) (fun k hk=>Below.heap_alloc _ _ _ hk) (by simp) (fun _ h=>h) (fun b hd=>Nat.lt_trans (S.dead b hd) ft) (fun _ h=>.inl h) (fun _ _ h=>h)
    have S1:=S.add S' (id:=⟨vo.site,n⟩) (B:=⟨w.heap.size,qo+c,0,some (.chan c)⟩) (r:=⟨true,qo+c,[]⟩) hf (Nat.le_refl _) ⟨rfl,fun cs h=>by simp at h,fun h=>by simp at h,fun m' h=>(by simp at h),fun c' h=>by
     simp only[Option.some.injEq,BK.chan.injEq]at h;subst h
     exact⟨rfl, #[],0,0,(show(w.heap.push (Obj.chan c #[] false 0 0 false))[w.heap.size]? =some (Obj.chan c #[] false 0 0 false) by simp),rfl,fun i cs h=>by simp at h⟩⟩
    exact hK _ _ ⟨_,D,_,rfl,Step.stay S (fun k hk=>Below.heap_alloc _ _ _ hk) (by simp) rfl rfl rfl (fun _ h=>h) (fun _ h=>.inl h) (e6 hf),S1,.rl _ _ _ (ep _ _ _) rfl,Us.upd⟩
   case inr.inl=>
    rw[gi]
    subst hg LC IZ
    have ft:w.heap.size<(w.alloc (.map #[] 0)).heap.size:=by simp
    have S':=S.stay (w':=w.alloc (.map #[] 0)) (D':=D) (ι':=ι) (fun k hk=>Below.heap_alloc _ _ _ hk) (by simp) (fun _ h=>h) (fun b hd=>Nat.lt_trans (S.dead b hd) ft) (fun _ h=>.inl h) (fun _ _ h=>h)
    have S1:=S.add S' (id:=⟨vo.site,n⟩) (B:=⟨w.heap.size,m.pE,0,some (.map m)⟩) (r:=⟨true,m.pE,[]⟩) hf (Nat.le_refl _) ⟨rfl,fun cs h=>by simp at h,fun h=>by simp at h,fun m' h=>by
     simp only[Option.some.injEq,BK.map.injEq]at h;subst h
     exact⟨rfl, #[],0,(show(w.heap.push (Obj.map #[] 0))[w.heap.size]? =some (Obj.map #[] 0) by simp),rfl,⟨fun cs h=>by simp at h,fun x h=>by simp at h,by simp⟩,fun i cs h=>by simp at h⟩,fun c h=>by simp at h⟩
    exact hK _ _ ⟨_,D,_,rfl,Step.stay S (fun k hk=>Below.heap_alloc _ _ _ hk) (by simp) rfl rfl rfl (fun _ h=>h) (fun _ h=>.inl h) (e6 hf),S1,.map _ _ _ (ep _ _ _) rfl,Us.upd⟩
   rw[gi]
   subst hg
   have S1:=S.alloc (id:=⟨vo.site,n⟩) (w':=w.alloc (.cells cells T)) rfl hf h1 h2 h3 h4 h5
   refine hK _ _ ⟨u,D,_,rfl,Step.stay S (fun k hk=>Below.heap_alloc _ _ _ hk) (by simp) rfl rfl rfl (fun _ h=>h) (fun _ h=>.inl h) (e6 hf),S1,(h6 (kJ ι _ _) (ep _ _ _)).frame (fun b hd=>Below.heap_alloc _ _ _ (S.dead b hd)) (fun _ h=>h) (fun _ _ h=>h),Us.upd⟩
 have PW:fH vo.op (cX env) g ⟨vo.site,n⟩=some (v,g')->(∀KV,CO P hs a o KV D ι ⟨vo.site,n⟩ v g'->KV=w->o.wp P a w K Q):=by
  intro _ KV hE he
  subst he
  obtain⟨u,w',ι',gi,T,S',hR,hι⟩:=hE
  have IA:MC P hs D ι KV U vo.site n a o.dst v g' (a.put o.dst u) w':=⟨u,D,ι',rfl,T,S',hR,fun id hid=>by
   by_cases he:id=⟨vo.site,n⟩
   ·subst he;exact .inr ⟨rfl,.inr rfl⟩
   ·rw[hι id he]at hid
    exact(Us.more (U':=fun x=>U x∨x=vo.site) fun _ h=>Or.inl h) id hid⟩
  unfold Oper.wp
  rcases gi with gi|⟨gi,rfl⟩
  ·rw[gi];exact hK _ _ IA
  ·rw[gi];exact hK _ _ IA
 unfold VS at hv
 split at hv
 ·rename_i f args ew
  rw[ew]at hc
  obtain⟨c,ho,kE,E8,nH⟩:=BN hc
  refine A9 f _ (c.args.map a.eval) hv (oq E nH) ?_
  simp only[execOp,ho,resolve,kE,Deferred.ofValue,Act.eval,Sem.run_bind,Sem.run_pure,Result.andThen_ok,invoke,Array.empty_append,Array.append_empty]
  exact jA E8
 ·rename_i x args ew
  obtain⟨f,l,hx,hP⟩:=hv
  rw[ew]at hc
  obtain⟨c,t,ho,kE,rfl,nH⟩:=sS hc
  obtain⟨first,da,he,E8,hL⟩:=vg (v:=a.eval (.tmp t)) hx (E t) (oq E nH)
  refine A9 f _ (first++c.args.map a.eval++da) hP hL ?_
  simp only[execOp,ho,resolve,kE,he,Deferred.ofValue,Sem.run_bind,Sem.run_pure,Result.andThen_ok,invoke]
  exact jA E8
 ·rename_i m x y ew
  have kS:=hc
  rw[ew]at kS
  obtain⟨t,x',y',ho,h1,h2,h3⟩:=Gv kS
  have nU:=hv
  rw[ew]at nU
  simp only[fH,Option.map_eq_some_iff,Prod.mk.injEq]at nU
  obtain⟨g1,Dt,rfl,rfl⟩:=nU
  exact PW hv w (Le S E ho h1 h2 h3 Dt) rfl
 ·rename_i m x y ew
  have kS:=hc
  rw[ew]at kS
  obtain⟨t,e,m',z,i,x',y',rfl,ho,h1,h2,h3,h4,h5,h6,h7⟩:=DL kS
  have nU:=hv
  rw[ew]at nU
  simp only[fH,Option.bind_eq_some_iff]at nU
  obtain⟨ys,Fj,nU⟩:=nU
  exact PW hv w (Ii S E hf ho h1 h2 h3 h4 h5 h6 h7 Fj nU) rfl
 ·rename_i m x y ew
  have kS:=hc
  rw[ew]at kS
  obtain⟨t,t2,e,m',x',y',rfl,ho,h1,h2,h3,h4⟩:=Jf kS
  have nU:=hv
  rw[ew]at nU
  simp only[fH,Option.bind_eq_some_iff]at nU
  obtain⟨ys,Fj,nU⟩:=nU
  exact PW hv w (NQ S E ho h1 h2 h3 h4 Fj nU) rfl
 ·rename_i z x ew
  have kS:=hc
  rw[ew]at kS
  obtain⟨t,e,m',x',ho,h1,h2,h3,h4⟩:=Gu kS
  have nU:=hv
  rw[ew]at nU
  simp only[fH,Option.map_eq_some_iff,Prod.mk.injEq]at nU
  obtain⟨g1,Dt,rfl,rfl⟩:=nU
  exact PW hv w (Ld S E ho h1 h2 h3 h4 Dt) rfl
 ·rename_i q xs ew
  have kS:=hc
  rw[ew]at kS
  have nU:=hv
  rw[ew]at nU
  simp only[fH,Option.map_eq_some_iff,Prod.mk.injEq]at nU
  obtain⟨g1,Dt,rfl,rfl⟩:=nU
  rcases ON kS with⟨t,x,k,y,m,z,x',k',y',ho,h1,h2,h3,h4,rfl,rfl⟩|⟨t,t',x,k,m,z,x',k',ho,h1,h2,h3,rfl,rfl⟩
  ·exact PW hv w (NS S E ho h1 h2 h3 h4 Dt) rfl
  ·exact PW hv w (NR S E ho h1 h2 h3 Dt) rfl
 ·obtain⟨mr,hq,hg⟩:=hv
  exact quiet mr hq hg
end
end Go.Proofs.YtgoljkjaameagaaGreat.V

namespace Go.Proofs.YtgoljkjaameagaaGreat.V
open Go.RowKit
variable {P:Program} {w w':World} {D D' D2:Nat->Prop} {ι ι' ι2:Names}
section
variable {g:Rows} {hs:Nat} {env:Env} {a:Act} {o:Oper} {id:Id} {v:AV}
theorem ph {ops:Array Oper} {nt site0 j:Nat} {draw mk:Bool} {bs:Array Nat} {hidden:List (Nat×Bool)} {vo:bh} (h:kP P ops nt site0 draw mk bs hidden j o=some vo):
  qR P o.op=some vo.op/\vo.dst=o.dst/\vo.site=site0+j/\(∀d,o.dst=some d->d<nt)/\(match o.guard with
   |none=>vo.guard=none
   |some (i,b)=>∃t,(ops[i]?).bind (·.dst)=some t/\vo.guard=some (t,b)):=by
 unfold kP at h
 simp only[Option.bind_eq_bind,Option.bind_eq_some_iff]at h
 obtain⟨v,hv,gd,hg,h⟩:=h
 split at h
 ·rename_i hd
  simp only[Option.pure_def,Option.some.injEq]at h
  subst h
  refine⟨hv,rfl,rfl,fun d SD=>?_,?_⟩
  ·rw[SD]at hd;simpa using hd
  ·unfold C6 at hg
   cases rG:o.guard with
   |none=>rw[rG]at hg;simp at hg;exact hg.symm
   |some p=>
    obtain⟨i,b⟩:=p
    rw[rG]at hg
    dsimp only at hg ⊢
    split at hg
    ·rename_i t ht
     simp at hg;exact⟨t,ht,hg.symm⟩
    ·simp at hg
 ·simp at h
theorem th {ops:Array Oper} {vo:bh} (E:ck P w D ι env a) (hg:match o.guard with
   |none=>vo.guard=none
   |some (i,b)=>∃t,(ops[i]?).bind (·.dst)=some t/\vo.guard=some (t,b)):aH vo.guard env=Region.wanted o (yielded ops a.tmps):=by
 unfold Region.wanted
 cases rG:o.guard with
 |none=>rw[rG]at hg;simp only at hg;rw[hg];rfl
 |some p=>
  obtain⟨i,b⟩:=p
  rw[rG]at hg
  obtain⟨t,ht,hv⟩:=hg
  rw[hv]
  simp only[aH,yielded,ht,Option.bind_some]
  have hr:=E t
  by_cases dJ:t<a.tmps.size
  ·have fW:a.tmps[t]? =some a.tmps[t]:=Array.getElem?_eq_getElem dJ
   have hd:a.tmps.getD t undef=a.tmps[t]:=by simp[dJ]
   rw[hd]at hr
   rw[fW]
   generalize a.tmps[t]=u at hr
   cases he:env t with
   |bool c=>rw[he]at hr;rw[e5 hr];simp
   |_=>
    rw[he]at hr
    have:∀c,u≠.bool c:=by
     intro c hu
     subst hu
     cases hr with
     |eQ _ _ h=>cases h
    cases u<;>simp_all
  ·have fW:a.tmps[t]? =none:=Array.getElem?_eq_none (Nat.le_of_not_lt dJ)
   have hd:a.tmps.getD t undef=undef:=by simp[fW]
   rw[hd]at hr
   rw[fW]
   cases he:env t with
   |bool c=>rw[he]at hr;have:=e5 hr;simp[undef]at this
   |_=>simp
theorem iD {dst:Option Nat} {nt:Nat} {u:Value} (E:ck P w D ι env a) (hr:cW P w D ι v u) (hd:∀d,dst=some d->d<nt) (hs:a.tmps.size=nt):ck P w D ι (upd env dst v) (a.put dst u):=by
 intro t
 cases dst with
 |none=>exact E t
 |some d=>
  have dJ:d<a.tmps.size:=by rw[hs];exact hd d rfl
  simp only[upd,Act.put]
  by_cases ht:t=d
  ·subst ht
   simp[dJ];exact hr
  ·rw[if_neg ht]
   have:(a.tmps.setIfInBounds d u).getD t undef=a.tmps.getD t undef:=by
    simp only[Array.getD_eq_getD_getElem?]
    rw[Array.getElem?_setIfInBounds_ne (fun e=>ht e.symm)]
   rw[this];exact E t
theorem oy {hs:Nat} (E:ck P w D ι env a) (T:Step hs D ι w D' ι' w'):ck P w' D' ι' env a:=fun t=>T.rep (E t)
theorem eW (a:Act) (dst:Option Tmp) (u:Value):(a.put dst u).tmps.size=a.tmps.size:=by cases dst<;>simp[Act.put]
theorem put_defers (a:Act) (dst:Option Tmp) (u:Value):(a.put dst u).defers=a.defers:=by cases dst<;>rfl
theorem y5 {draw:Bool} {vo:bh} {σ:aw} {next:AV->aw->Prop} {U:Nat->Prop} {Q:Exit->Act->World->Prop} {K:Act->World->Prop} (hc:qR P o.op=some vo.op) (hv:fq (Sound P) draw vo env σ next) (S:gw P hs D ι σ.get w) (Us:Used ι σ.next U) (hU:¬U vo.site) (E:ck P w D ι env a)
  (hK:∀v σ' u D' ι' w',next v σ'->Step hs D ι w D' ι' w'->gw P hs D' ι' σ'.get w'->cW P w' D' ι' v u->Used ι' σ'.next (fun s=>U s∨s=vo.site)->σ.next<=σ'.next->K (a.put o.dst u) w'):o.wp P a w K Q:=by
 have close:∀v g',VS (Sound P) σ.next vo env σ.get v g'->next v ⟨g',σ.next⟩->o.wp P a w K Q:=fun v g' h1 h2=>
  AS hc h1 S Us hU E fun a' w' ⟨u,D',ι',ha,T,S',hR,U'⟩=>by subst ha;exact hK v ⟨g',σ.next⟩ u D' ι' w' h2 T S' hR U' (Nat.le_refl _)
 have JD:∀(f:Nat) (args:List AV) (vs:Array Value),Sound P f args ⟨σ.get,σ.next+1⟩ next->fA P w D ι args vs->(execOp a.eval o).run P w=.ok (.enter f vs) w->o.wp P a w K Q:=by
  intro f args vs h hA gi
  unfold Oper.wp
  rw[gi]
  refine(h hs D ι w vs S Us.next hA).mono ?_
  rintro e w' ⟨r,g',n',D',ι',u,rfl,hn,T,S',U',hle,hR⟩
  exact hK r ⟨g',n'⟩ u D' ι' w' hn T S' hR (U'.more fun _ h=>h.elim) (Nat.le_trans (Nat.le_succ _) hle)
 unfold fq at hv
 split at hv
 ·rename_i f args ew
  rcases hv with⟨r,hP,hn⟩|⟨_,hX⟩|⟨Ff,sz,rows,hM,hn⟩
  ·exact close r σ.get (by unfold VS;rw[ew];exact .inl ⟨hP,rfl⟩) hn
  rotate_left
  ·exact close _ _ (by unfold VS;rw[ew];exact .inr ⟨Ff,sz,rows,hM,rfl,rfl⟩) hn
  ·have kS:=hc
   rw[ew]at kS
   obtain⟨c,ho,kE,E8,nH⟩:=BN kS
   refine JD f _ (c.args.map a.eval) hX (oq E nH) ?_
   simp only[execOp,ho,resolve,kE,Deferred.ofValue,Act.eval,Sem.run_bind,Sem.run_pure,Result.andThen_ok,invoke,Array.empty_append,Array.append_empty]
   exact jA E8
 ·rename_i x args ew
  split at hv
  ·rename_i f da hx
   have tJ:vd (cX env x) (args.map (cX env))=some (f,args.map (cX env)++da):=by rw[hx];rfl
   rcases hv with⟨r,hP,hn⟩|⟨_,hX⟩|⟨Ff,sz,rows,hM,hn⟩
   ·exact close r σ.get (by unfold VS;rw[ew];exact⟨f,_,tJ,.inl ⟨hP,rfl⟩⟩) hn
   rotate_left
   ·exact close _ _ (by unfold VS;rw[ew];exact⟨f,_,tJ,.inr ⟨Ff,sz,rows,hM,rfl,rfl⟩⟩) hn
   ·have kS:=hc
    rw[ew]at kS
    obtain⟨c,t,ho,kE,rfl,nH⟩:=sS kS
    obtain⟨first,us,he,E8,hL⟩:=vg (v:=a.eval (.tmp t)) tJ (E t) (oq E nH)
    refine JD f _ (first++c.args.map a.eval++us) hX hL ?_
    simp only[execOp,ho,resolve,kE,he,Deferred.ofValue,Sem.run_bind,Sem.run_pure,Result.andThen_ok,invoke]
    exact jA E8
  ·rename_i f da hx
   have tJ:vd (cX env x) (args.map (cX env))=some (f,da++args.map (cX env)):=by rw[hx];rfl
   rcases hv with⟨r,hP,hn⟩|⟨_,hX⟩|⟨Ff,sz,rows,hM,hn⟩
   ·exact close r σ.get (by unfold VS;rw[ew];exact⟨f,_,tJ,.inl ⟨hP,rfl⟩⟩) hn
   rotate_left
   ·exact close _ _ (by unfold VS;rw[ew];exact⟨f,_,tJ,.inr ⟨Ff,sz,rows,hM,rfl,rfl⟩⟩) hn
   ·have kS:=hc
    rw[ew]at kS
    obtain⟨c,t,ho,kE,rfl,nH⟩:=sS kS
    obtain⟨first,us,he,E8,hL⟩:=vg (v:=a.eval (.tmp t)) tJ (E t) (oq E nH)
    refine JD f _ (first++c.args.map a.eval++us) hX hL ?_
    simp only[execOp,ho,resolve,kE,he,Deferred.ofValue,Sem.run_bind,Sem.run_pure,Result.andThen_ok,invoke]
    exact jA E8
  ·exact hv.elim
 ·rename_i m x y ew
  split at hv
  ·rename_i v' g' he
   exact close v' g' (by unfold VS;rw[ew];rw[ew]at he;exact he) hv
  ·exact hv.elim
 ·rename_i m x y ew
  split at hv
  ·rename_i v' g' he
   exact close v' g' (by unfold VS;rw[ew];rw[ew]at he;exact he) hv
  ·exact hv.elim
 ·rename_i m x y ew
  split at hv
  ·rename_i v' g' he
   exact close v' g' (by unfold VS;rw[ew];rw[ew]at he;exact he) hv
  ·exact hv.elim
 ·rename_i m x ew
  split at hv
  ·rename_i v' g' he
   exact close v' g' (by unfold VS;rw[ew];rw[ew]at he;exact he) hv
  ·exact hv.elim
 ·rename_i m x ew
  split at hv
  ·rename_i v' g' he
   exact close v' g' (by unfold VS;rw[ew];rw[ew]at he;exact he) hv
  ·exact hv.elim
 ·rename_i n1 n2 n3 n4 n5 n6 n7
  split at hv
  ·rename_i v' r hq
   refine close v' (br σ.get ⟨vo.site,σ.next⟩ r) ?_ hv
   unfold VS
   split
   ·rename_i h;exact(n1 _ _ h).elim
   ·rename_i h;exact(n2 _ _ h).elim
   ·rename_i h;exact(n3 _ _ _ h).elim
   ·rename_i h;exact(n4 _ _ _ h).elim
   ·rename_i h;exact(n5 _ _ _ h).elim
   ·rename_i h;exact(n6 _ _ h).elim
   ·rename_i h;exact(n7 _ _ h).elim
   ·exact⟨some r,hq,rfl⟩
  ·rename_i v' hq
   refine close v' σ.get ?_ hv
   unfold VS
   split
   ·rename_i h;exact(n1 _ _ h).elim
   ·rename_i h;exact(n2 _ _ h).elim
   ·rename_i h;exact(n3 _ _ _ h).elim
   ·rename_i h;exact(n4 _ _ _ h).elim
   ·rename_i h;exact(n5 _ _ _ h).elim
   ·rename_i h;exact(n6 _ _ h).elim
   ·rename_i h;exact(n7 _ _ h).elim
   ·exact⟨none,hq,rfl⟩
  ·exact hv.elim
structure St (P:Program) (hs nt:Nat) (D:Nat->Prop) (ι:Names) (env:Env) (σ:aw) (a:Act) (w:World):Prop where
 s9:gw P hs D ι σ.get w
 used:Used ι σ.next (fun _=>False)
 env:ck P w D ι env a
 size:a.tmps.size=nt
theorem wv (rest:List Oper) {ops:Array Oper} {nt site0:Nat} {draw mk:Bool} {bs:Array Nat} {hidden:List (Nat×Bool)} {K:Env->aw->Prop} {Q:Exit->Act->World->Prop}:∀(l:List Oper) (vl:List bh) (j:Nat) (env:Env) (σ:aw) (a:Act) (w:World) (D:Nat->Prop) (ι:Names) (U:Nat->Prop),
  allM (kP P ops nt site0 draw mk bs hidden) l j=some vl->wpOps (Sound P) draw vl K env σ->gw P hs D ι σ.get w->Used ι σ.next U->(∀s,U s->s<site0+j)->ck P w D ι env a->a.tmps.size=nt->
  (∀iO σ' a' w' D' ι',K iO σ'->Step hs D ι w D' ι' w'->St P hs nt D' ι' iO σ' a' w'->a'.defers=a.defers->σ.next<=σ'.next->wpList P ops Q rest a' w')->wpList P ops Q (l++rest) a w:=by
 intro l
 induction l with
 |nil=>
  intro vl j env σ a w D ι U h hv S Us _ E ft hQ
  simp[allM]at h;subst h
  exact hQ env ⟨σ.get,σ.next+1⟩ a w D ι hv (Step.refl _ _ _ _) ⟨S,Us.next,E,ft⟩ rfl (Nat.le_succ _)
 |cons o l ih=>
  intro vl j env σ a w D ι U h hv S Us hU E ft hQ
  simp only[allM,Option.bind_eq_bind,Option.bind_eq_some_iff,Option.pure_def,Option.some.injEq]at h
  obtain⟨vo,nI,tg,sq,rfl⟩:=h
  obtain⟨hc,hd,BF,xw,hg⟩:=ph nI
  have hw:=th (ops:=ops) (vo:=vo) E hg
  unfold wpOps at hv
  show wpList P ops Q (o::(l++rest)) a w
  unfold wpList
  rw[<-hw]
  split at hv
  ·rename_i Gp
   rw[if_pos Gp]
   refine .inl (y5 hc hv S Us (fun h=>by have:=hU _ h;omega) E fun v σ' u D' ι' w' hn T S' hR U' hle=>?_)
   refine ih tg (j+1) (upd env vo.dst v) σ' (a.put o.dst u) w' D' ι' _ sq hn S' U' (fun s BC=>by
    rcases BC with h|h
    ·have:=hU _ h;omega
    ·omega) (by rw[hd];exact iD (oy E T) hR xw ft) (by rw[eW];exact ft) fun iO σ2 a' w2 D2 ι2 hk T2 Ny Dr l9=>hQ iO σ2 a' w2 D2 ι2 hk (T.trans T2) Ny (Dr.trans (put_defers _ _ _)) (Nat.le_trans hle l9)
  ·rename_i Gp
   rw[if_neg Gp]
   refine ih tg (j+1) (upd env vo.dst .undef) σ (a.put o.dst undef) w D ι U sq hv S Us (fun s BC=>by have:=hU _ BC;omega) (by rw[hd];exact iD E cW.undef xw ft) (by rw[eW];exact ft) fun iO σ2 a' w2 D2 ι2 hk T2 Ny Dr l9=>hQ iO σ2 a' w2 D2 ι2 hk T2 Ny (Dr.trans (put_defers _ _ _)) l9
theorem yM {ops:Array Oper} {nt site0:Nat} {draw mk:Bool} {bs:Array Nat} {hidden:List (Nat×Bool)} {K:Env->aw->Prop} {Q:Exit->Act->World->Prop}:∀(l:List Oper) (vl:List bh) (j:Nat) (env:Env) (σ:aw) (a:Act) (w:World) (D:Nat->Prop) (ι:Names) (U:Nat->Prop),
  allM (kP P ops nt site0 draw mk bs hidden) l j=some vl->wpOps (Sound P) draw vl K env σ->gw P hs D ι σ.get w->Used ι σ.next U->(∀s,U s->s<site0+j)->ck P w D ι env a->a.tmps.size=nt->
  (∀iO σ' a' w' D' ι',K iO σ'->Step hs D ι w D' ι' w'->St P hs nt D' ι' iO σ' a' w'->a'.defers=a.defers->σ.next<=σ'.next->Q .normal a' w')->wpList P ops Q l a w:=fun l vl j env σ a w D ι U h hv S Us hU E ft hQ=>by
 have:=wv [] l vl j env σ a w D ι U h hv S Us hU E ft hQ
 rwa [List.append_nil]at this
end
end Go.Proofs.YtgoljkjaameagaaGreat.V

namespace Go.Proofs.YtgoljkjaameagaaGreat.V
open Go.RowKit
variable {P:Program} {w w':World} {D D' D2:Nat->Prop} {ι ι' ι2:Names}
section
variable {hs:Nat} {X:fN}
theorem bl {env iZ:Env} {x:O} (h:∀t∈gU x,env t=iZ t):cX env x=cX iZ x:=by
 cases x with
 |t n=>exact h n (by simp[gU])
 |_=>rfl
theorem map_congr {env iZ:Env} {l:List O} (h:∀t∈l.flatMap gU,env t=iZ t):l.map (cX env)=l.map (cX iZ):=
 List.map_congr_left fun x hx=>bl fun t ht=>h t (List.mem_flatMap.2 ⟨x,hx,ht⟩)
theorem pD {env iZ:Env} {x:Option O} (h:∀t∈wz x,env t=iZ t):x.map (cX env)=x.map (cX iZ):=by
 cases x with
 |none=>rfl
 |some y=>simp only[Option.map_some];rw[bl h]
theorem s7 {env iZ:Env} {o:gC} {g:Rows} {id:Id} (h:∀t∈o.gI,env t=iZ t):eG o (cX env) g id=eG o (cX iZ) g id:=by
 cases o<;>simp only[gC.gI,List.mem_append]at h<;>simp only[eG]
 case dh x=>rw[bl h]
 case pick c a b=>rw[bl (x:=c) fun t ht=>h t (.inl (.inl ht)),bl (x:=a) fun t ht=>h t (.inl (.inr ht)),bl (x:=b) fun t ht=>h t (.inr ht)]
 case box x=>rw[bl h]
 case build z ps=>
  have:(ps.map fun(x:Nat×Nat×O)=>(x.1,x.2.1,cX env x.2.2))=ps.map fun(x:Nat×Nat×O)=>(x.1,x.2.1,cX iZ x.2.2):=List.map_congr_left fun x hx=>by
   rw[bl (x:=x.2.2) fun t ht=>h t (List.mem_flatMap.2 ⟨x,hx,ht⟩)]
  rw[this]
 case kO a b l=>rw[map_congr h]
 case load a n x=>rw[bl h]
 case xZ x=>rw[bl h]
 case bin a b x y=>rw[bl (x:=x) fun t ht=>h t (.inl ht),bl (x:=y) fun t ht=>h t (.inr ht)]
 case sh a x y=>rw[bl (x:=x) fun t ht=>h t (.inl ht),bl (x:=y) fun t ht=>h t (.inr ht)]
 case K8 a x y=>rw[bl (x:=x) fun t ht=>h t (.inl ht),bl (x:=y) fun t ht=>h t (.inr ht)]
 case NT a b x y=>rw[bl (x:=x) fun t ht=>h t (.inl ht),bl (x:=y) fun t ht=>h t (.inr ht)]
 case Si a b x y=>rw[bl (x:=x) fun t ht=>h t (.inl ht),bl (x:=y) fun t ht=>h t (.inr ht)]
 case QD a b x=>rw[bl h]
 case Sj a x=>rw[bl h]
 case not x=>rw[bl h]
 case neg x=>rw[bl h]
 case conv k x=>rw[bl h]
 case ES x=>rw[bl h]
 case slice s x lo hi=>rw[bl (x:=x) fun t ht=>h t (.inl (.inl ht)),pD (x:=lo) fun t ht=>h t (.inl (.inr ht)),pD (x:=hi) fun t ht=>h t (.inr ht)]
 case Ak x lo hi=>rw[bl (x:=x) fun t ht=>h t (.inl (.inl ht)),pD (x:=lo) fun t ht=>h t (.inl (.inr ht)),pD (x:=hi) fun t ht=>h t (.inr ht)]
 case fI k x=>rw[bl h]
 case field a b c x=>rw[bl h]
 case ec s x y=>rw[bl (x:=x) fun t ht=>h t (.inl ht),bl (x:=y) fun t ht=>h t (.inr ht)]
 case LI n s x y=>rw[bl (x:=x) fun t ht=>h t (.inl ht),bl (x:=y) fun t ht=>h t (.inr ht)]
 case LL x y=>rw[bl (x:=x) fun t ht=>h t (.inl ht),bl (x:=y) fun t ht=>h t (.inr ht)]
 case dm a b c x y=>rw[bl (x:=x) fun t ht=>h t (.inl ht),bl (x:=y) fun t ht=>h t (.inr ht)]
 case extract i x=>rw[bl h]
 case len x=>rw[bl h]
 case LR x=>rw[bl h]
 case Ju x=>rw[bl h]
 case Jo x=>rw[bl h]
 case LX f l=>rw[map_congr h]
 case LY f l=>rw[map_congr h]
 case mq f l=>rw[map_congr h]
 case j3 z x y=>rw[bl (x:=x) fun t ht=>h t (.inl ht),bl (x:=y) fun t ht=>h t (.inr ht)]
theorem ij {env iZ:Env} {o:gC} {g:Rows} {id:Id} (h:∀t∈o.gI,env t=iZ t):fH o (cX env) g id=fH o (cX iZ) g id:=by
 cases o<;>simp only[gC.gI,List.mem_append]at h<;>simp only[fH]
 case clear z x=>rw[bl h]
 case mw f l=>rw[map_congr h]
 all_goals rename_i a x y
 all_goals rw[bl (x:=x) fun t ht=>h t (.inl ht),bl (x:=y) fun t ht=>h t (.inr ht)]
theorem HV {n:Nat} {vo:bh} {env iZ:Env} {g g':Rows} {v:AV} (h:∀t∈vo.op.gI,env t=iZ t) (hv:VS X n vo env g v g'):VS X n vo iZ g v g':=by
 unfold VS at hv ⊢
 split at hv
 ·rename_i f args ew
  rw[ew]at h
  simp only[gC.gI]at h
  rw[<-map_congr h];exact hv
 ·rename_i x args ew
  rw[ew]at h
  simp only[gC.gI,List.mem_append]at h
  rw[<-map_congr (l:=args) fun t ht=>h t (.inr ht),<-bl (x:=x) fun t ht=>h t (.inl ht)];exact hv
 ·rw[<-ij h];exact hv
 ·rw[<-ij h];exact hv
 ·rw[<-ij h];exact hv
 ·rw[<-ij h];exact hv
 ·rw[<-ij h];exact hv
 ·rw[<-s7 h];exact hv
theorem DU {q:MQ} {vs:List AV} {g:Rows} {id:Id} {v:AV} {r:Row} (h:bq q vs g id=some (v,some r)):∃m,q=.new m:=by
 unfold bq at h
 split at h
 ·exact⟨_,rfl⟩
 ·simp[Option.bind_eq_some_iff]at h
 ·simp at h
 ·cases h
theorem wE {o:gC} {ρ:O->AV} {g:Rows} {id:Id} {v:AV} {r:Row} (h:eG o ρ g id=some (v,some r)):qI o=true:=by
 cases o<;>simp only[eG]at h<;>(try rfl)<;>(try simp at h)
 case mq q xs=>obtain⟨m,rfl⟩:=DU h;rfl
 all_goals (try(split at h<;>simp at h))
theorem wG {o:gC} {ρ:O->AV} {g g2:Rows} {id id2:Id} (h:o.cls=.pure):eG o ρ g id=eG o ρ g2 id2:=by
 cases o<;>(try simp[gC.cls]at h)<;>(try simp only[eG])
 case mq q xs=>cases q<;>simp[gC.cls]at h
theorem uW {n:Nat} {vo:bh} {env:Env} {g g':Rows} {v:AV} (hw:vo.op.cls≠.write) (hv:VS X n vo env g v g'):∃mr,g'=jn g ⟨vo.site,n⟩ mr/\(mr≠none->vo.makes=true)/\∀g0,fG vo.hid n g0=fG vo.hid n g->VS X n vo env g0 v (jn g0 ⟨vo.site,n⟩ mr):=by
 unfold VS at hv
 split at hv
 ·rename_i f args ew
  rcases hv with⟨h1,rfl⟩|⟨hs,sz,rows,hM,rfl,rfl⟩
  ·refine⟨none,rfl,fun h=>(h rfl).elim,fun g0 h0=>?_⟩
   unfold VS;rw[ew];simp only;unfold ve;rw[h0];exact .inl ⟨h1,rfl⟩
  ·refine⟨some _,rfl,fun _=>by unfold bh.makes;rw[ew,hs];simp[gC.ma],fun g0 h0=>?_⟩
   unfold VS;rw[ew];simp only;unfold ve;rw[h0];exact .inr ⟨hs,sz,rows,hM,rfl,rfl⟩
 ·rename_i x args ew
  obtain⟨f,da,hx,hv⟩:=hv
  rcases hv with⟨h1,rfl⟩|⟨hs,sz,rows,hM,rfl,rfl⟩
  ·refine⟨none,rfl,fun h=>(h rfl).elim,fun g0 h0=>?_⟩
   unfold VS;rw[ew];simp only;unfold ve;rw[h0];exact⟨f,da,hx,.inl ⟨h1,rfl⟩⟩
  ·refine⟨some _,rfl,fun _=>by unfold bh.makes;rw[ew,hs];simp[gC.ma],fun g0 h0=>?_⟩
   unfold VS;rw[ew];simp only;unfold ve;rw[h0];exact⟨f,da,hx,.inr ⟨hs,sz,rows,hM,rfl,rfl⟩⟩
 ·rename_i ew;rw[ew]at hw;exact(hw rfl).elim
 ·rename_i ew;rw[ew]at hw;exact(hw rfl).elim
 ·rename_i ew;rw[ew]at hw;exact(hw rfl).elim
 ·rename_i ew;rw[ew]at hw;exact(hw rfl).elim
 ·rename_i ew;rw[ew]at hw;exact(hw rfl).elim
 ·rename_i n1 n2 n3 n4 n5 n6 n7
  obtain⟨mr,hq,rfl⟩:=hv
  refine⟨mr,rfl,fun h=>?_,fun g0 h0=>?_⟩
  ·cases mr with
   |none=>exact(h rfl).elim
   |some r=>unfold bh.makes;rw[wE hq];rfl
  ·unfold VS
   split
   ·rename_i hh;exact(n1 _ _ hh).elim
   ·rename_i hh;exact(n2 _ _ hh).elim
   ·rename_i hh;exact(n3 _ _ _ hh).elim
   ·rename_i hh;exact(n4 _ _ _ hh).elim
   ·rename_i hh;exact(n5 _ _ _ hh).elim
   ·rename_i hh;exact(n6 _ _ hh).elim
   ·rename_i hh;exact(n7 _ _ hh).elim
   ·rw[h0];exact⟨mr,hq,rfl⟩
theorem ze {n:Nat} {vo:bh} {env:Env} {g g':Rows} {v:AV} (hp:vo.op.cls=.pure) (hv:VS X n vo env g v g'):g'=g/\∀g0,VS X n vo env g0 v g0:=by
 unfold VS at hv
 split at hv
 ·rename_i ew;rw[ew]at hp;simp[gC.cls]at hp
 ·rename_i ew;rw[ew]at hp;simp[gC.cls]at hp
 ·rename_i ew;rw[ew]at hp;simp[gC.cls]at hp
 ·rename_i ew;rw[ew]at hp;simp[gC.cls]at hp
 ·rename_i ew;rw[ew]at hp;simp[gC.cls]at hp
 ·rename_i ew;rw[ew]at hp;simp[gC.cls]at hp
 ·rename_i ew;rw[ew]at hp;simp[gC.cls]at hp
 ·rename_i n1 n2 n3 n4 n5 n6 n7
  obtain⟨mr,hq,rfl⟩:=hv
  have Uv:mr=none:=by
   cases mr with
   |none=>rfl
   |some r=>have:=wE hq;simp[qI,hp]at this
  subst Uv
  refine⟨rfl,fun g0=>?_⟩
  unfold VS
  split
  ·rename_i hh;exact(n1 _ _ hh).elim
  ·rename_i hh;exact(n2 _ _ hh).elim
  ·rename_i hh;exact(n3 _ _ _ hh).elim
  ·rename_i hh;exact(n4 _ _ _ hh).elim
  ·rename_i hh;exact(n5 _ _ _ hh).elim
  ·rename_i hh;exact(n6 _ _ hh).elim
  ·rename_i hh;exact(n7 _ _ hh).elim
  ·exact⟨none,by rw[wG hp];exact hq,rfl⟩
def GS (X:fN) (n:Nat) (vo:bh) (env:Env) (g:Rows) (v:AV) (g':Rows):Prop:=
 if aH vo.guard env then VS X n vo env g v g' else v=.undef/\g'=g
theorem Cu {hid:List Nat} {g:Rows} {s n:Nat} {mr:Option Row} (h:mr≠none->hid.contains s=true):fG hid n (jn g ⟨s,n⟩ mr)=fG hid n g:=by
 cases mr with
 |none=>rfl
 |some r=>
  have hc:=h (by simp)
  cases hid with
  |nil=>simp at hc
  |cons a l=>
   funext i
   show(if (a::l).contains i.site=true/\i.bY=n then none else jn g ⟨s,n⟩ (some r) i)=if (a::l).contains i.site=true/\i.bY=n then none else g i
   by_cases hi:i=⟨s,n⟩
   ·subst hi;rw[if_pos ⟨hc,rfl⟩,if_pos ⟨hc,rfl⟩]
   ·simp only[jn,br,if_neg hi]
theorem FQ {g:Rows} {i j:Id} (h:i≠j) (m1 m2:Option Row):jn (jn g i m1) j m2=jn (jn g j m2) i m1:=by
 cases m1<;>cases m2<;>simp only[jn]
 funext k
 simp only[br]
 by_cases h1:k=i
 ·subst h1;rw[if_neg h,if_pos rfl];simp
 ·by_cases h2:k=j
  ·subst h2;simp[h1]
  ·simp[h1,h2]
theorem w6 {env:Env} {d e:Option Nat} {v u:AV} (h:∀k,d=some k->e≠some k):upd (upd env d v) e u=upd (upd env e u) d v:=by
 cases d with
 |none=>rfl
 |some d=>
  cases e with
  |none=>rfl
  |some e=>
   have ik:d≠e:=fun he=>h d rfl (by rw[he])
   funext t
   simp only[upd]
   by_cases h1:t=d
   ·subst h1;rw[if_neg ik,if_pos rfl,if_pos rfl]
   ·by_cases h2:t=e
    ·subst h2;rw[if_pos rfl,if_neg h1,if_pos rfl]
    ·simp[h1,h2]
theorem mO {env:Env} {d:Option Nat} {v:AV} {l:List Nat} (h:∀k,d=some k->k∉l):∀t∈l,upd env d v t=env t:=by
 intro t ht
 cases d with
 |none=>rfl
 |some d=>
  have:t≠d:=fun he=>h d rfl (he▸ht)
  simp[upd,this]
structure CP (x y:bh):Prop where
 xy:∀k,x.dst=some k->k∉y.gI
 yx:∀k,y.dst=some k->k∉x.gI
 dst:∀k,x.dst=some k->y.dst≠some k
 cls:clash x.op.cls y.op.cls=false
 hx:x.makes=true->y.hid.contains x.site=true
 hy:y.makes=true->x.hid.contains y.site=true
 site:x.site≠y.site
theorem CP.symm {x y:bh} (h:CP x y):CP y x:=
 ⟨h.yx,h.xy,fun k hk he=>h.dst k he hk,by have:=h.cls;revert this;cases x.op.cls<;>cases y.op.cls<;>simp[clash],h.hy,h.hx,fun e=>h.site e.symm⟩
theorem qt {x y:bh} (h:EZ x y=true):CP x y:=by
 unfold EZ at h
 simp only[Bool.and_eq_true,Bool.not_eq_true',Bool.or_eq_true,bne_iff_ne]at h
 obtain⟨⟨⟨⟨h1,h2⟩,h3⟩,h4⟩,h5⟩:=h
 unfold tf at h1
 simp only[Bool.and_eq_true]at h1
 obtain⟨a1,a2⟩:=h1
 refine⟨fun k hk=>?_,fun k hk=>?_,fun k hk=>?_,h2,fun hm=>?_,fun hm=>?_,h5⟩
 ·rw[hk]at a1;simp at a1;exact a1.1
 ·rw[hk]at a2;simpa using a2
 ·rw[hk]at a1;simp at a1;exact a1.2
 ·rcases h3 with h3|h3
  ·rw[hm]at h3;cases h3
  ·exact h3
 ·rcases h4 with h4|h4
  ·rw[hm]at h4;cases h4
  ·exact h4
theorem r5 {vo:bh} {t:Nat} (h:t∈vo.op.gI):t∈vo.gI:=List.mem_append_left _ h
theorem nz {vo:bh} {env iZ:Env} (h:∀t∈vo.gI,env t=iZ t):aH vo.guard env=aH vo.guard iZ:=by
 unfold aH
 cases hg:vo.guard with
 |none=>rfl
 |some p=>
  obtain⟨t,b⟩:=p
  have:env t=iZ t:=h t (List.mem_append_right _ (by rw[hg];simp))
  simp only[this]
theorem uP {n:Nat} {vo:bh} {env iZ:Env} {g g':Rows} {v:AV} (h:∀t∈vo.gI,env t=iZ t) (hv:GS X n vo env g v g'):GS X n vo iZ g v g':=by
 unfold GS at hv ⊢
 rw[<-nz h]
 split at hv
 ·rename_i hw;rw[if_pos hw];exact HV (fun t ht=>h t (r5 ht)) hv
 ·rename_i hw;rw[if_neg hw];exact hv
theorem EI {n:Nat} {x y:bh} {env:Env} {g g1 g2:Rows} {v v':AV} (F:CP x y) (h1:GS X n x env g v g1) (h2:GS X n y (upd env x.dst v) g1 v' g2):
  ∃Lh,GS X n y env g v' Lh/\GS X n x (upd env y.dst v') Lh v g2/\upd (upd env x.dst v) y.dst v'=upd (upd env y.dst v') x.dst v:=by
 have I8:=w6 (env:=env) (v:=v) (u:=v') F.dst
 replace h2:GS X n y env g1 v' g2:=uP (mO F.xy) h2
 have back:∀{Lh},GS X n x env Lh v g2->GS X n x (upd env y.dst v') Lh v g2:=fun h=>uP (fun t ht=>(mO F.yx t ht).symm) h
 unfold GS at h1 h2
 by_cases wx:aH x.guard env=true
 ·rw[if_pos wx]at h1
  by_cases wy:aH y.guard env=true
  ·rw[if_pos wy]at h2
   by_cases cx:x.op.cls=.write
   ·have cy:y.op.cls=.pure:=by
     have:=F.cls;rw[cx]at this
     cases hc:y.op.cls<;>simp[clash,hc]at this ⊢
    obtain⟨rfl,dG⟩:=ze cy h2
    exact⟨g,by unfold GS;rw[if_pos wy];exact dG g,back (by unfold GS;rw[if_pos wx];exact h1),I8⟩
   ·by_cases cy:y.op.cls=.write
    ·have cx':x.op.cls=.pure:=by
      have:=F.cls;rw[cy]at this
      cases hc:x.op.cls<;>simp[clash,hc]at this ⊢
     obtain⟨rfl,dG⟩:=ze cx' h1
     exact⟨g2,by unfold GS;rw[if_pos wy];exact h2,back (by unfold GS;rw[if_pos wx];exact dG g2),I8⟩
    ·obtain⟨mx,rfl,kx,Tp⟩:=uW cx h1
     obtain⟨my,rfl,ky,ND⟩:=uW cy h2
     have ik:(⟨x.site,n⟩:Id)≠⟨y.site,n⟩:=fun e=>F.site (by injection e)
     refine⟨jn g ⟨y.site,n⟩ my,?_,back ?_,I8⟩
     ·unfold GS;rw[if_pos wy]
      exact ND g (Cu fun h=>F.hx (kx h)).symm
     ·unfold GS;rw[if_pos wx,FQ ik]
      exact Tp _ (Cu fun h=>F.hy (ky h))
  ·rw[if_neg wy]at h2
   obtain⟨rfl,rfl⟩:=h2
   exact⟨g,by unfold GS;rw[if_neg wy];exact⟨rfl,rfl⟩,back (by unfold GS;rw[if_pos wx];exact h1),I8⟩
 ·rw[if_neg wx]at h1
  obtain⟨rfl,rfl⟩:=h1
  exact⟨g2,h2,back (by unfold GS;rw[if_neg wx];exact⟨rfl,rfl⟩),I8⟩
end
end Go.Proofs.YtgoljkjaameagaaGreat.V

namespace Go.Proofs.YtgoljkjaameagaaGreat.V
open Go.RowKit
variable {P:Program} {w w':World} {D D' D2:Nat->Prop} {ι ι' ι2:Names}
section
variable {hs:Nat} {X:fN}
def jo (acc:Array Nat) (o:Oper):Nat:=o.after.foldl (fun s e=>if Region.binds .any e then s|||2 ^ e.on|||acc.getD e.on 0 else s) 0
theorem K3 (ops:Array Oper):jE ops=ops.foldl (fun acc o=>acc.push (jo acc o)) #[]:=rfl
theorem A6 {acc:Array Nat} {o:Oper} {i:Nat} (h:(jo acc o).testBit i=true):∃e∈o.after,Region.binds .any e=true/\(e.on=i∨(acc.getD e.on 0).testBit i=true):=by
 unfold jo at h
 rw[<-Array.foldl_toList]at h
 have gen:∀(l:List Edge) (s:Nat),(l.foldl (fun s e=>if Region.binds .any e then s|||2 ^ e.on|||acc.getD e.on 0 else s) s).testBit i=true->s.testBit i=true∨∃e∈l,Region.binds .any e=true/\(e.on=i∨(acc.getD e.on 0).testBit i=true):=by
  intro l
  induction l with
  |nil=>intro s h;exact .inl h
  |cons e r ih=>
   intro s h
   rw[List.foldl_cons]at h
   rcases ih _ h with h|⟨e',Ln,h'⟩
   ·by_cases hb:Region.binds .any e=true
    ·rw[if_pos hb]at h
     simp only[Nat.testBit_or,Bool.or_eq_true]at h
     rcases h with(h|h)|h
     ·exact .inl h
     ·refine .inr ⟨e,by simp,hb,.inl ?_⟩
      rw[Nat.testBit_two_pow]at h
      simpa using h
     ·exact .inr ⟨e,by simp,hb,.inr h⟩
    ·rw[if_neg hb]at h;exact .inl h
   ·exact .inr ⟨e',List.mem_cons_of_mem _ Ln,h'⟩
 rcases gen _ _ h with h|⟨e,he,h⟩
 ·simp at h
 ·exact⟨e,Array.mem_toList_iff.1 he,h⟩
theorem H7 {ops:Array Oper} {j i:Nat} (h:((jE ops).getD j 0).testBit i=true):∃o,ops[j]? =some o/\∃e∈o.after,Region.binds .any e=true/\(e.on=i∨((jE ops).getD e.on 0).testBit i=true):=by
 have key:∀(l pre:List Oper) (acc:Array Nat),acc.size=pre.length->(∀j i,(acc.getD j 0).testBit i=true->∃o,pre[j]? =some o/\∃e∈o.after,Region.binds .any e=true/\(e.on=i∨(acc.getD e.on 0).testBit i=true))->
   ∀j i,((l.foldl (fun acc o=>acc.push (jo acc o)) acc).getD j 0).testBit i=true->∃o,(pre++l)[j]? =some o/\∃e∈o.after,Region.binds .any e=true/\(e.on=i∨((l.foldl (fun acc o=>acc.push (jo acc o)) acc).getD e.on 0).testBit i=true):=by
  intro l
  induction l with
  |nil=>intro pre acc _ h j i hb;simpa using h j i hb
  |cons o r ih=>
   intro pre acc ft h j i hb
   have yL:∀k,k<acc.size->(acc.push (jo acc o)).getD k 0=acc.getD k 0:=fun k hk=>by
    simp only[Array.getD_eq_getD_getElem?,Array.getElem?_push]
    rw[if_neg (by omega)]
   have big:∀k,acc.size<=k->acc.getD k 0=0:=fun k hk=>by simp[Array.getElem?_eq_none hk]
   have lift:∀k i,(acc.getD k 0).testBit i=true->((acc.push (jo acc o)).getD k 0).testBit i=true:=fun k i hk=>by
    by_cases dJ:k<acc.size
    ·rw[yL k dJ];exact hk
    ·rw[big k (by omega)]at hk;simp at hk
   have:=ih (pre++[o]) (acc.push (jo acc o)) (by simp[ft]) (fun j i hb=>by
    by_cases dJ:j<acc.size
    ·rw[yL j dJ]at hb
     obtain⟨o',CI,e,he,fV,h2⟩:=h j i hb
     refine⟨o',by rw[List.getElem?_append_left (by omega)];exact CI,e,he,fV,?_⟩
     rcases h2 with h2|h2
     ·exact .inl h2
     ·exact .inr (lift _ _ h2)
    ·by_cases hj:j=acc.size
     ·subst hj
      have e0:(acc.push (jo acc o)).getD acc.size 0=jo acc o:=by simp
      rw[e0]at hb
      obtain⟨e,he,fV,h2⟩:=A6 hb
      refine⟨o,by rw[List.getElem?_append_right (by omega),ft];simp,e,he,fV,?_⟩
      rcases h2 with h2|h2
      ·exact .inl h2
      ·exact .inr (lift _ _ h2)
     ·have:(acc.push (jo acc o)).getD j 0=0:=by
       simp only[Array.getD_eq_getD_getElem?]
       rw[Array.getElem?_eq_none (by simp;omega)];rfl
      rw[this]at hb;simp at hb) j i (by simpa using hb)
   simpa using this
 rw[K3,<-Array.foldl_toList]at h ⊢
 have:=key ops.toList [] #[] rfl (fun j i h=>by simp at h) j i h
 simpa using this
def DC (ops:Array Oper) (listed:Array Bool):Prop:=∀k i,listed.getD k false=true->((jE ops).getD k 0).testBit i=true->listed.getD i false=true
theorem k7 {ops:Array Oper} {listed:Array Bool} (h:DC ops listed) {j:Nat} (hj:j∈Region.ready .any ops listed):∀i,((jE ops).getD j 0).testBit i=true->listed.getD i false=true:=by
 intro i hb
 obtain⟨_,o,ho,dG⟩:=mem_ready.1 hj
 obtain⟨o',CI,e,he,fV,h2⟩:=H7 hb
 rw[ho]at CI;injection CI with CI;subst CI
 have hl:=dG e he fV
 rcases h2 with h2|h2
 ·rw[<-h2];exact hl
 ·exact h _ _ hl h2
theorem DC.list {ops:Array Oper} {listed:Array Bool} (h:DC ops listed) {j:Nat} (hj:j∈Region.ready .any ops listed):DC ops (listed.setIfInBounds j true):=by
 intro k i hk hb
 by_cases hkj:k=j
 ·subst hkj;exact getD_set_true (k7 h hj i hb)
 ·rw[getD_set_ne false (fun e=>hkj e.symm)]at hk
  exact getD_set_true (h k i hk hb)
theorem jg {ops:Array Oper} {listed:Array Bool} {j:Nat} (hj:j∈Region.ready .any ops listed):listed.getD j false=false:=by
 have h0:=(mem_ready.1 hj).1
 rcases Nat.lt_or_ge j listed.size with h|h
 ·simp[h]at h0 ⊢;exact h0
 ·simp[Array.getElem?_eq_none h]at h0
def Kn (X:fN) (n:Nat) (ops:Array Oper) (vl:List bh) (K:Env->Rows->Prop):Nat->Array Bool->Env->Rows->Prop
 |0,listed,env,g=>Region.ready .any ops listed=[]/\K env g
 |f+1,listed,env,g=>(Region.ready .any ops listed=[]->K env g)/\∀i∈Region.ready .any ops listed,∃vo,vl[i]? =some vo/\∃v g',GS X n vo env g v g'/\Kn X n ops vl K f (listed.setIfInBounds i true) (upd env vo.dst v) g'
theorem Bh {ops:Array Oper} {vl:List bh} (h:ox ops vl (jE ops)=true) {i j:Nat} {x y:bh} (hi:vl[i]? =some x) (hj:vl[j]? =some y) (zF:i≠j) (h1:((jE ops).getD j 0).testBit i=false) (h2:((jE ops).getD i 0).testBit j=false):CP x y:=by
 unfold ox at h
 simp only[Bool.and_eq_true,List.all_eq_true]at h
 obtain⟨_,h⟩:=h
 have mem:∀(k:Nat) (z:bh),vl[k]? =some z->(z,k)∈vl.zipIdx:=fun k z hk=>by
  rw[List.mem_iff_getElem?]
  exact⟨k,by simp[List.getElem?_zipIdx,hk]⟩
 rcases Nat.lt_or_gt_of_ne zF with dJ|Lq
 ·have:=h _ (mem j y hj) _ (mem i x hi)
  simp only[dJ,decide_true,Bool.not_true,Bool.false_or,h1]at this
  exact qt this
 ·have:=h _ (mem i x hi) _ (mem j y hj)
  simp only[Lq,decide_true,Bool.not_true,Bool.false_or,h2]at this
  exact(qt this).symm
theorem EF {n:Nat} {ops:Array Oper} {vl:List bh} {K:Env->Rows->Prop} (vU:ox ops vl (jE ops)=true) (hlen:vl.length=ops.size) {i:Nat} {vi:bh} (hi:vl[i]? =some vi) {v:AV}:∀(fuel:Nat) (listed:Array Bool) (env:Env) (g g1:Rows),
  DC ops listed->i∈Region.ready .any ops listed->GS X n vi env g v g1->Kn X n ops vl K fuel (listed.setIfInBounds i true) (upd env vi.dst v) g1->Kn X n ops vl K (fuel+1) listed env g:=by
 intro fuel
 induction fuel with
 |zero=>
  intro listed env g g1 _ hr hG H
  refine⟨fun h=>(by rw[h]at hr;cases hr),fun j hj=>?_⟩
  by_cases mV:j=i
  ·subst mV;exact⟨vi,hi,v,g1,hG,H⟩
  ·have:=ready_mono hj mV
   rw[H.1]at this;cases this
 |succ fuel ih=>
  intro listed env g g1 sj hr hG H
  refine⟨fun h=>(by rw[h]at hr;cases hr),fun j hj=>?_⟩
  by_cases mV:j=i
  ·subst mV;exact⟨vi,hi,v,g1,hG,H⟩
  ·obtain⟨vj,LD,v',g2,hG2,H2⟩:=H.2 j (ready_mono hj mV)
   have b1:((jE ops).getD j 0).testBit i=false:=by
    cases hb:((jE ops).getD j 0).testBit i with
    |false=>rfl
    |true=>have:=k7 sj hj i hb;rw[jg hr]at this;cases this
   have b2:((jE ops).getD i 0).testBit j=false:=by
    cases hb:((jE ops).getD i 0).testBit j with
    |false=>rfl
    |true=>have:=k7 sj hr j hb;rw[jg hj]at this;cases this
   have F:=Bh vU hi LD (fun e=>mV e.symm) b1 b2
   obtain⟨Lh,q1,q2,q3⟩:=EI F hG hG2
   refine⟨vj,LD,v',Lh,q1,ih _ _ _ g2 (sj.list hj) (ready_mono hr (fun e=>mV e.symm)) q2 ?_⟩
   rw[<-q3,Array.setIfInBounds_comm _ _ mV]
   exact H2
theorem NA {n:Nat} {vo:bh} {env:Env} {g:Rows} {v:AV} {mr:Option Row} (h:eG vo.op (cX env) (fG vo.hid n g) ⟨vo.site,n⟩=some (v,mr)):VS X n vo env g v (jn g ⟨vo.site,n⟩ mr):=by
 unfold VS
 split
 ·rename_i ew;rw[ew]at h;simp[eG]at h
 ·rename_i ew;rw[ew]at h;simp[eG]at h
 ·rename_i ew;rw[ew]at h;simp[eG]at h
 ·rename_i ew;rw[ew]at h;simp[eG]at h
 ·rename_i ew;rw[ew]at h;simp[eG]at h
 ·rename_i ew;rw[ew]at h;simp[eG]at h
 ·rename_i ew;rw[ew]at h;simp[eG]at h
 ·exact⟨mr,h,rfl⟩
theorem HW {n:Nat} {vo:bh} {env:Env} {g g':Rows} {v:AV} (h:fH vo.op (cX env) g ⟨vo.site,n⟩=some (v,g')):VS X n vo env g v g':=by
 unfold VS
 split
 ·rename_i ew;rw[ew]at h;simp[fH]at h
 ·rename_i ew;rw[ew]at h;simp[fH]at h
 ·exact h
 ·exact h
 ·exact h
 ·exact h
 ·exact h
 ·rename_i n1 n2 n3 n4 n5 n6 n7
  exfalso
  unfold fH at h
  split at h
  ·rename_i hh;exact n3 _ _ _ hh
  ·rename_i hh;exact n4 _ _ _ hh
  ·rename_i hh;exact n5 _ _ _ hh
  ·rename_i hh;exact n6 _ _ hh
  ·rename_i hh;exact n7 _ _ hh
  ·simp at h
theorem Pr {vo:bh} {env:Env} {σ:aw} {next:AV->aw->Prop} (hv:fq X true vo env σ next):∃v g',VS X σ.next vo env σ.get v g'/\next v ⟨g',σ.next⟩:=by
 unfold fq at hv
 split at hv
 ·rename_i f args ew
  rcases hv with⟨r,hP,hn⟩|⟨h,_⟩|⟨hs,sz,rows,hM,hn⟩
  ·exact⟨r,σ.get,by unfold VS;rw[ew];exact .inl ⟨hP,rfl⟩,hn⟩
  ·cases h
  ·exact⟨_,_,by unfold VS;rw[ew];exact .inr ⟨hs,sz,rows,hM,rfl,rfl⟩,hn⟩
 ·rename_i x args ew
  split at hv
  ·rename_i f da hx
   have tJ:vd (cX env x) (args.map (cX env))=some (f,args.map (cX env)++da):=by rw[hx];rfl
   rcases hv with⟨r,hP,hn⟩|⟨h,_⟩|⟨hs,sz,rows,hM,hn⟩
   ·exact⟨r,σ.get,by unfold VS;rw[ew];exact⟨f,_,tJ,.inl ⟨hP,rfl⟩⟩,hn⟩
   ·cases h
   ·exact⟨_,_,by unfold VS;rw[ew];exact⟨f,_,tJ,.inr ⟨hs,sz,rows,hM,rfl,rfl⟩⟩,hn⟩
  ·rename_i f da hx
   have tJ:vd (cX env x) (args.map (cX env))=some (f,da++args.map (cX env)):=by rw[hx];rfl
   rcases hv with⟨r,hP,hn⟩|⟨h,_⟩|⟨hs,sz,rows,hM,hn⟩
   ·exact⟨r,σ.get,by unfold VS;rw[ew];exact⟨f,_,tJ,.inl ⟨hP,rfl⟩⟩,hn⟩
   ·cases h
   ·exact⟨_,_,by unfold VS;rw[ew];exact⟨f,_,tJ,.inr ⟨hs,sz,rows,hM,rfl,rfl⟩⟩,hn⟩
  ·exact hv.elim
 ·split at hv
  ·rename_i v g h;exact⟨v,g,HW h,hv⟩
  ·exact hv.elim
 ·split at hv
  ·rename_i v g h;exact⟨v,g,HW h,hv⟩
  ·exact hv.elim
 ·split at hv
  ·rename_i v g h;exact⟨v,g,HW h,hv⟩
  ·exact hv.elim
 ·split at hv
  ·rename_i v g h;exact⟨v,g,HW h,hv⟩
  ·exact hv.elim
 ·split at hv
  ·rename_i v g h;exact⟨v,g,HW h,hv⟩
  ·exact hv.elim
 ·split at hv
  ·rename_i v r h;exact⟨v,_,NA h,hv⟩
  ·rename_i v h;exact⟨v,_,NA h,hv⟩
  ·exact hv.elim
theorem w7 {ops:Array Oper} {vl:List bh} {K:Env->aw->Prop} {n:Nat} (vU:ox ops vl (jE ops)=true) (hlen:vl.length=ops.size):∀(r:List bh) (k:Nat) (listed:Array Bool) (env:Env) (g:Rows),
  (∀j,r[j]? =vl[k+j]?)->listed.size=ops.size->(∀i,i<ops.size->listed[i]? =some (decide (i<k)))->k+r.length=ops.size->DC ops listed->wpOps X true r K env ⟨g,n⟩->Kn X n ops vl (fun env g=>K env ⟨g,n+1⟩) r.length listed env g
 |[],k,listed,env,g,_,ft,hl,hk,_,hv=>by
  refine⟨?_,hv⟩
  rw[List.eq_nil_iff_forall_not_mem]
  intro j hj
  obtain⟨h0,o,ho,_⟩:=mem_ready.1 hj
  have dJ:j<ops.size:=(Array.getElem?_eq_some_iff.1 ho).1
  have:=hl j dJ
  simp at hk
  simp[this,show j<k by omega]at h0
 |vo::r,k,listed,env,g,hr,ft,hl,hk,sj,hv=>by
  simp only[List.length_cons]at hk
  have nI:vl[k]? =some vo:=by simpa using(hr 0).symm
  have kq:k<ops.size:=by omega
  have I0:k∈Region.ready .any ops listed:=by
   rw[mem_ready]
   refine⟨by simp[hl k kq],ops[k],Array.getElem?_eq_getElem kq,fun e he hb=>?_⟩
   unfold ox ET at vU
   simp only[Bool.and_eq_true,List.all_eq_true]at vU
   have hm:(ops[k],k)∈ops.toList.zipIdx:=by
    rw[List.mem_iff_getElem?]
    exact⟨k,by simp[List.getElem?_zipIdx,kq]⟩
   have:=vU.1 _ hm
   rw[Array.all_eq_true_iff_forall_mem]at this
   have:=this e he
   simp only[hb,Bool.not_true,Bool.false_or,decide_eq_true_eq]at this
   simp[hl e.on (by omega),this]
  have hGS:∃v g',GS X n vo env g v g'/\wpOps X true r K (upd env vo.dst v) ⟨g',n⟩:=by
   unfold wpOps at hv
   unfold GS
   split at hv
   ·rename_i hw
    simp only[hw,if_true]
    exact Pr hv
   ·rename_i hw
    simp only[hw]
    exact⟨.undef,g,⟨rfl,rfl⟩,hv⟩
  obtain⟨v,g',h1,h2⟩:=hGS
  refine EF vU hlen nI r.length listed env g g' sj I0 h1 ?_
  refine w7 vU hlen r (k+1) _ _ _ (fun j=>by have:=hr (j+1);simpa[Nat.add_assoc,Nat.add_comm 1 j]using this) (by simp[ft]) (fun i hi=>?_) (by omega) (sj.list I0) h2
  by_cases yh:i=k
  ·subst yh;simp[ft,kq]
  ·rw[Array.getElem?_setIfInBounds_ne (fun e=>yh e.symm),hl i hi]
   congr 1
   have:(i<k)=(i<k+1):=by apply propext;omega
   simp[this]
theorem om {f:Nat->Oper->Option bh}:∀{l:List Oper} {vl:List bh} {j:Nat},allM f l j=some vl->vl.length=l.length/\∀(i:Nat) (o:Oper),l[i]? =some o->∃vo,vl[i]? =some vo/\f (j+i) o=some vo
 |[],vl,j,h=>by simp[allM]at h;subst h;simp
 |o::l,vl,j,h=>by
  simp only[allM,Option.bind_eq_bind,Option.bind_eq_some_iff,Option.pure_def,Option.some.injEq]at h
  obtain⟨vo,nI,tg,sq,rfl⟩:=h
  obtain⟨h1,h2⟩:=om sq
  refine⟨by simp[h1],fun i o' hi=>?_⟩
  cases i with
  |zero=>simp at hi;subst hi;exact⟨vo,rfl,nI⟩
  |succ i=>
   simp at hi
   obtain⟨q,hq,hf⟩:=h2 i o' hi
   exact⟨q,by simpa using hq,by rw[<-hf];congr 1;omega⟩
theorem xQ {ops:Array Oper} {vl:List bh} {nt site0:Nat} {draw mk:Bool} {bs:Array Nat} {hidden:List (Nat×Bool)} {n:Nat} {K:Env->Rows->Prop} {Q:Exit->Act->World->Prop} (dG:allM (kP P ops nt site0 draw mk bs hidden) ops.toList 0=some vl):
  ∀(fuel:Nat) (listed:Array Bool) (env:Env) (g:Rows) (a:Act) (w:World) (D:Nat->Prop) (ι:Names) (U:Nat->Prop),Kn (Sound P) n ops vl K fuel listed env g->gw P hs D ι g w->Used ι n U->(∀s,U s->∃i,s=site0+i/\listed.getD i false=true)->ck P w D ι env a->a.tmps.size=nt->
  (∀iO g' a' w' D' ι' U',K iO g'->Step hs D ι w D' ι' w'->gw P hs D' ι' g' w'->Used ι' n U'->ck P w' D' ι' iO a'->a'.tmps.size=nt->a'.defers=a.defers->Q .normal a' w')->wpAny P .any ops Q fuel listed a w:=by
 intro fuel
 induction fuel with
 |zero=>intro listed env g a w D ι U h S Us hU E ft hQ;exact⟨h.1,hQ env g a w D ι U h.2 (Step.refl _ _ _ _) S Us E ft rfl⟩
 |succ fuel ih=>
  intro listed env g a w D ι U h S Us hU E ft hQ
  refine⟨fun hr=>hQ env g a w D ι U (h.1 hr) (Step.refl _ _ _ _) S Us E ft rfl,fun i hi=>?_⟩
  obtain⟨vo,nI,v,g',hG,M4⟩:=h.2 i hi
  obtain⟨_,o,ho,_⟩:=mem_ready.1 hi
  obtain⟨vo',mE,QT⟩:=(om dG).2 i o (by simpa using ho)
  rw[nI]at mE;injection mE with mE;subst mE
  rw[Nat.zero_add]at QT
  obtain⟨hc,hd,BF,xw,hg⟩:=ph QT
  have hw:=th (ops:=ops) (vo:=vo) E hg
  have TV:¬U vo.site:=fun hu=>by
   obtain⟨i',he,hl⟩:=hU _ hu
   have:i'=i:=by omega
   subst this
   rw[jg hi]at hl;cases hl
  have jG:i<listed.size:=by
   have h0:=(mem_ready.1 hi).1
   rcases Nat.lt_or_ge i listed.size with h|h
   ·exact h
   ·simp[Array.getElem?_eq_none h]at h0
  unfold wpOp
  simp only[ho]
  rw[<-hw]
  unfold GS at hG
  by_cases Gp:aH vo.guard env=true
  ·rw[if_pos Gp]
   rw[if_pos Gp]at hG
   refine .inl (AS hc hG S Us TV E fun a' w' ⟨u,D',ι',ha,T,S',hR,U'⟩=>?_)
   subst ha
   refine ih _ _ _ _ w' D' ι' _ M4 S' U' (fun s BC=>?_) (by rw[hd];exact iD (oy E T) hR xw ft) (by rw[eW];exact ft) fun iO g2 a2 w2 D2 ι2 U2 hk T2 S2 To E2 lR Dr=>hQ iO g2 a2 w2 D2 ι2 U2 hk (T.trans T2) S2 To E2 lR (Dr.trans (put_defers _ _ _))
   rcases BC with h|h
   ·obtain⟨i',he,hl⟩:=hU _ h
    exact⟨i',he,getD_set_true hl⟩
   ·exact⟨i,by rw[h,BF],by simp[jG]⟩
  ·rw[if_neg Gp]
   rw[if_neg Gp]at hG
   obtain⟨rfl,rfl⟩:=hG
   refine ih _ _ _ _ w D ι U M4 S Us (fun s BC=>?_) (by rw[hd];exact iD E cW.undef xw ft) (by rw[eW];exact ft) fun iO g2 a2 w2 D2 ι2 U2 hk T2 S2 To E2 lR Dr=>hQ iO g2 a2 w2 D2 ι2 U2 hk T2 S2 To E2 lR (Dr.trans (put_defers _ _ _))
   obtain⟨i',he,hl⟩:=hU _ BC
   exact⟨i',he,getD_set_true hl⟩
end
end Go.Proofs.YtgoljkjaameagaaGreat.V

namespace Go.Proofs.YtgoljkjaameagaaGreat.V
open Go.RowKit
variable {P:Program} {w w':World} {D D' D2:Nat->Prop} {ι ι' ι2:Names}
section
variable {hs:Nat} {X:fN}
def p7 (X:fN):Prop:=∀f args σ K K',(∀r σ',K r σ'->K' r σ')->X f args σ K->X f args σ K'
theorem kN:p7 (Sound P):=fun _ _ _ _ _ hK h hs D ι w vs S U A=>
 (h hs D ι w vs S U A).mono fun _ _ ⟨r,g',n',D',ι',u,he,hk,rest⟩=>⟨r,g',n',D',ι',u,he,hK _ _ hk,rest⟩
def step (X:fN) (vo:bh) (N:Env->aw->Prop) (env:Env) (σ:aw):Prop:=
 if aH vo.guard env then fq X false vo env σ fun v σ'=>N (upd env vo.dst v) σ' else N (upd env vo.dst .undef) σ
theorem ql (hK:p7 X) {draw:Bool} {hid:List Nat} {site f:Nat} {args:List AV} {σ:aw} {n n':AV->aw->Prop} (hn:∀v σ',n v σ'->n' v σ') (hp:cw X draw hid site f args σ n):cw X draw hid site f args σ n':=by
 rcases hp with⟨r,h1,h2⟩|⟨h1,h2⟩|⟨h1,sz,rows,h2,h3⟩
 ·exact .inl ⟨r,h1,hn _ _ h2⟩
 ·exact .inr (.inl ⟨h1,hK _ _ _ _ _ hn h2⟩)
 ·exact .inr (.inr ⟨h1,sz,rows,h2,hn _ _ h3⟩)
theorem Cv (hK:p7 X) {draw:Bool} {o:bh} {env:Env} {σ:aw} {n n':AV->aw->Prop} (hn:∀v σ',n v σ'->n' v σ') (hp:fq X draw o env σ n):fq X draw o env σ n':=by
 unfold fq at hp ⊢
 split at hp
 ·exact ql hK hn hp
 ·split at hp
  ·exact ql hK hn hp
  ·exact ql hK hn hp
  ·exact hp.elim
 ·split at hp
  ·exact hn _ _ hp
  ·exact hp.elim
 ·split at hp
  ·exact hn _ _ hp
  ·exact hp.elim
 ·split at hp
  ·exact hn _ _ hp
  ·exact hp.elim
 ·split at hp
  ·exact hn _ _ hp
  ·exact hp.elim
 ·split at hp
  ·exact hn _ _ hp
  ·exact hp.elim
 ·split at hp
  ·exact hn _ _ hp
  ·exact hn _ _ hp
  ·exact hp.elim
theorem jW (hK:p7 X) {vo:bh} {N N':Env->aw->Prop} (h:∀e s,N e s->N' e s) {env:Env} {σ:aw} (hp:step X vo N env σ):step X vo N' env σ:=by
 unfold step at hp ⊢
 split at hp
 ·rename_i hw;rw[if_pos hw];exact Cv hK (fun v σ'=>h _ _) hp
 ·rename_i hw;rw[if_neg hw];exact h _ _ hp
theorem Hp {env iZ:Env} {vo:bh} {σ:aw} {n:AV->aw->Prop} (h:∀t∈vo.op.gI,env t=iZ t) (hv:fq X false vo env σ n):fq X false vo iZ σ n:=by
 unfold fq at hv ⊢
 split at hv
 ·rename_i f args ew
  rw[ew]at h
  simp only[gC.gI]at h
  rw[<-map_congr h];exact hv
 ·rename_i x args ew
  rw[ew]at h
  simp only[gC.gI,List.mem_append]at h
  rw[<-map_congr (l:=args) fun t ht=>h t (.inr ht),<-bl (x:=x) fun t ht=>h t (.inl ht)];exact hv
 ·rw[<-ij h];exact hv
 ·rw[<-ij h];exact hv
 ·rw[<-ij h];exact hv
 ·rw[<-ij h];exact hv
 ·rw[<-ij h];exact hv
 ·rw[<-s7 h];exact hv
theorem lY {x:bh} (hq:k6 x=true) {N:Env->aw->Prop} {env:Env} {σ:aw}:step X x N env σ↔∃v g',GS X σ.next x env σ.get v g'/\N (upd env x.dst v) ⟨g',σ.next⟩:=by
 unfold k6 at hq
 simp only[Bool.and_eq_true,Bool.not_eq_true',bne_iff_ne]at hq
 obtain⟨M3,Gk⟩:=hq
 unfold step GS
 by_cases hw:aH x.guard env=true
 ·rw[if_pos hw]
  simp only[hw,if_true]
  unfold fq
  split
  ·rename_i ew;simp[ew,gC.ma]at M3
  ·rename_i ew;simp[ew,gC.ma]at M3
  ·rename_i ew;simp[ew,gC.cls]at Gk
  ·rename_i ew;simp[ew,gC.cls]at Gk
  ·rename_i ew;simp[ew,gC.cls]at Gk
  ·rename_i ew;simp[ew,gC.cls]at Gk
  ·rename_i ew;simp[ew,gC.cls]at Gk
  ·rename_i n1 n2 n3 n4 n5 n6 n7
   have hVS:∀v g',VS X σ.next x env σ.get v g'↔∃mr,eG x.op (cX env) (fG x.hid σ.next σ.get) ⟨x.site,σ.next⟩=some (v,mr)/\g'=jn σ.get ⟨x.site,σ.next⟩ mr:=fun v g'=>by
    unfold VS
    split
    ·rename_i hh;exact(n1 _ _ hh).elim
    ·rename_i hh;exact(n2 _ _ hh).elim
    ·rename_i hh;exact(n3 _ _ _ hh).elim
    ·rename_i hh;exact(n4 _ _ _ hh).elim
    ·rename_i hh;exact(n5 _ _ _ hh).elim
    ·rename_i hh;exact(n6 _ _ hh).elim
    ·rename_i hh;exact(n7 _ _ hh).elim
    ·exact Iff.rfl
   simp only[hVS]
   cases hz:eG x.op (cX env) (fG x.hid σ.next σ.get) ⟨x.site,σ.next⟩with
   |none=>
    exact⟨fun h=>h.elim,fun⟨v,g',⟨mr,h,_⟩,_⟩=>by cases h⟩
   |some p=>
    obtain⟨v,mr⟩:=p
    have key:∀(v':AV) (g':Rows),(∃Ql,some (v,mr)=some (v',Ql)/\g'=jn σ.get ⟨x.site,σ.next⟩ Ql)↔v'=v/\g'=jn σ.get ⟨x.site,σ.next⟩ mr:=fun v' g'=>by
     constructor
     ·rintro⟨Ql,h1,h2⟩
      injection h1 with h1;injection h1 with h1 h3
      subst h1;subst h3
      exact⟨rfl,h2⟩
     ·rintro⟨rfl,rfl⟩;exact⟨mr,rfl,rfl⟩
    have fin:(∃v' g',(∃Ql,some (v,mr)=some (v',Ql)/\g'=jn σ.get ⟨x.site,σ.next⟩ Ql)/\N (upd env x.dst v') ⟨g',σ.next⟩)↔N (upd env x.dst v) ⟨jn σ.get ⟨x.site,σ.next⟩ mr,σ.next⟩:=by
     constructor
     ·rintro⟨v',g',h,hN⟩
      obtain⟨rfl,rfl⟩:=(key v' g').1 h
      exact hN
     ·intro hN;exact⟨v,_,(key _ _).2 ⟨rfl,rfl⟩,hN⟩
    cases mr with
    |none=>exact fin.symm
    |some r=>exact fin.symm
 ·rw[if_neg hw]
  simp only[if_neg hw]
  exact⟨fun h=>⟨_,_,⟨rfl,rfl⟩,h⟩,fun⟨v,g',⟨hv,hg⟩,h⟩=>by rw[hv,hg]at h;exact h⟩
def xv (x:bh) (env:Env) (v:AV):Prop:=if aH x.guard env then eG x.op (cX env) (fun _=>none) ⟨0,0⟩=some (v,none)else v=.undef
theorem wD {x:bh} (hp:x.op.cls=.pure):k6 x=true:=by
 unfold k6
 rw[hp]
 cases hc:x.op<;>simp[hc,gC.cls]at hp<;>rfl
theorem tb {x:bh} (hp:x.op.cls=.pure) {N:Env->aw->Prop} {env:Env} {σ:aw}:step X x N env σ↔∃v,xv x env v/\N (upd env x.dst v) σ:=by
 rw[lY (wD hp)]
 unfold GS xv
 by_cases hw:aH x.guard env=true
 ·simp only[hw,if_true]
  constructor
  ·rintro⟨v,g',h,hN⟩
   obtain⟨rfl,dG⟩:=ze hp h
   refine⟨v,?_,hN⟩
   unfold VS at h
   split at h
   ·rename_i ew;rw[ew]at hp;simp[gC.cls]at hp
   ·rename_i ew;rw[ew]at hp;simp[gC.cls]at hp
   ·rename_i ew;rw[ew]at hp;simp[gC.cls]at hp
   ·rename_i ew;rw[ew]at hp;simp[gC.cls]at hp
   ·rename_i ew;rw[ew]at hp;simp[gC.cls]at hp
   ·rename_i ew;rw[ew]at hp;simp[gC.cls]at hp
   ·rename_i ew;rw[ew]at hp;simp[gC.cls]at hp
   ·obtain⟨mr,hq,_⟩:=h
    have Uv:mr=none:=by
     cases mr with
     |none=>rfl
     |some r=>have:=wE hq;simp[qI,hp]at this
    subst Uv
    rw[<-wG (g:=fG x.hid σ.next σ.get) (id:=⟨x.site,σ.next⟩) hp];exact hq
  ·rintro⟨v,h,hN⟩
   exact⟨v,σ.get,NA (mr:=none) (by rw[wG (g2:=fun _=>none) (id2:=⟨0,0⟩) hp];exact h),hN⟩
 ·simp only[if_neg hw]
  exact⟨fun⟨v,g',⟨hv,hg⟩,h⟩=>⟨v,hv,by rw[hg]at h;exact h⟩,fun⟨v,hv,h⟩=>⟨v,σ.get,⟨hv,rfl⟩,h⟩⟩
theorem Kw {x:bh} {env iZ:Env} {v:AV} (h:∀t∈x.gI,env t=iZ t) (hv:xv x env v):xv x iZ v:=by
 unfold xv at hv ⊢
 rw[<-nz h,<-s7 fun t ht=>h t (r5 ht)];exact hv
structure MD (x y:bh):Prop where
 xy:∀k,x.dst=some k->k∉y.gI
 yx:∀k,y.dst=some k->k∉x.gI
 dst:∀k,x.dst=some k->y.dst≠some k
theorem r9 {x y:bh} (h:tf x y=true):MD x y:=by
 unfold tf at h
 simp only[Bool.and_eq_true]at h
 obtain⟨a1,a2⟩:=h
 refine⟨fun k hk=>?_,fun k hk=>?_,fun k hk=>?_⟩
 ·rw[hk]at a1;simp at a1;exact a1.1
 ·rw[hk]at a2;simpa using a2
 ·rw[hk]at a1;simp at a1;exact a1.2
theorem yf {x y:bh} (h:ye x y=true):(MD x y/\x.op.cls=.pure)∨(CP x y/\k6 x=true/\k6 y=true):=by
 unfold ye at h
 simp only[Bool.or_eq_true,Bool.and_eq_true,beq_iff_eq]at h
 rcases h with⟨h1,h2⟩|⟨⟨h1,h2⟩,h3⟩
 ·exact .inl ⟨r9 h1,h2⟩
 ·exact .inr ⟨qt h1,h2,h3⟩
theorem Bo {x y:bh} (h:ye x y=true):k6 x=true:=by
 rcases yf h with h|h
 ·exact wD h.2
 ·exact h.2.1
theorem Hb (hK:p7 X) {x y:bh} (hf:ye x y=true) {N:Env->aw->Prop} {env:Env} {σ:aw} (h:step X x (fun e s=>step X y N e s) env σ):step X y (fun e s=>step X x N e s) env σ:=by
 rcases yf hf with⟨F,hp⟩|⟨F,hx,hy⟩
 ·rw[tb hp]at h
  obtain⟨v,hx,h⟩:=h
  have I8:=fun(v':AV)=>w6 (env:=env) (v:=v) (u:=v') F.dst
  have uC:=mO (env:=env) (v:=v) F.xy
  have back:∀(v':AV),xv x (upd env y.dst v') v:=fun v'=>Kw (fun t ht=>(mO F.yx t ht).symm) hx
  unfold step at h ⊢
  rw[nz uC]at h
  split at h
  ·rename_i hw
   rw[if_pos hw]
   refine Cv hK (fun v' σ' hN=>?_) (Hp (fun t ht=>uC t (r5 ht)) h)
   rw[I8]at hN
   exact(tb hp).2 ⟨v,back v',hN⟩
  ·rename_i hw
   rw[if_neg hw]
   rw[I8]at h
   exact(tb hp).2 ⟨v,back _,h⟩
 ·rw[lY hx]at h
  obtain⟨v,g1,h1,h⟩:=h
  rw[lY hy]at h
  obtain⟨v',g2,h2,h⟩:=h
  obtain⟨Lh,q1,q2,q3⟩:=EI F h1 h2
  rw[q3]at h
  exact(lY hy).2 ⟨v',Lh,q1,(lY hx).2 ⟨v,g2,q2,h⟩⟩
def Ax (X:fN) (ops:Array Oper) (vl:List bh) (K:Env->aw->Prop):Nat->Array Bool->Env->aw->Prop
 |0,listed,env,σ=>Region.ready .any ops listed=[]/\K env ⟨σ.get,σ.next+1⟩
 |f+1,listed,env,σ=>(Region.ready .any ops listed=[]->K env ⟨σ.get,σ.next+1⟩)/\∀i∈Region.ready .any ops listed,∃vo,vl[i]? =some vo/\step X vo (fun e s=>Ax X ops vl K f (listed.setIfInBounds i true) e s) env σ
theorem Dg {ops:Array Oper} {vl:List bh} {bs:Array Nat} {listed:Array Bool} {i:Nat} (h:qq ops vl bs listed i=true) (j:Nat):qq ops vl bs (listed.setIfInBounds j true) i=true:=by
 unfold qq at h ⊢
 split at h
 ·rename_i x hx
  simp only[List.all_eq_true,Bool.or_eq_true]at h ⊢
  intro k hk
  rcases h k hk with((h|h)|h)|h
  ·exact .inl (.inl (.inl (getD_set_true h)))
  ·exact .inl (.inl (.inr h))
  ·exact .inl (.inr h)
  ·exact .inr h
 ·cases h
theorem tA {ops:Array Oper} {vl:List bh} {listed:Array Bool} {i j:Nat} {vi:bh} (sj:DC ops listed) (h:qq ops vl (jE ops) listed i=true) (hi:vl[i]? =some vi) (hr:i∈Region.ready .any ops listed) (hj:j∈Region.ready .any ops listed) (mV:j≠i):∃vj,vl[j]? =some vj/\ye vi vj=true:=by
 unfold qq at h
 rw[hi]at h
 simp only[List.all_eq_true,Bool.or_eq_true,beq_iff_eq]at h
 obtain⟨_,o,ho,_⟩:=mem_ready.1 hj
 rcases h j (List.mem_range.2 (Array.getElem?_eq_some_iff.1 ho).1)with((h|h)|h)|h
 ·rw[jg hj]at h;cases h
 ·exact absurd h mV
 ·have:=k7 sj hj i h
  rw[jg hr]at this;cases this
 ·split at h
  ·rename_i y hy;exact⟨y,hy,h⟩
  ·cases h
theorem EH (hK:p7 X) {ops:Array Oper} {vl:List bh} {K:Env->aw->Prop} {i:Nat} {vi:bh} (hi:vl[i]? =some vi):∀(fuel:Nat) (listed:Array Bool) (env:Env) (σ:aw),
  DC ops listed->i∈Region.ready .any ops listed->qq ops vl (jE ops) listed i=true->step X vi (fun e s=>Ax X ops vl K fuel (listed.setIfInBounds i true) e s) env σ->Ax X ops vl K (fuel+1) listed env σ:=by
 intro fuel
 induction fuel with
 |zero=>
  intro listed env σ sj hr jm H
  refine⟨fun h=>(by rw[h]at hr;cases hr),fun j hj=>?_⟩
  by_cases mV:j=i
  ·subst mV;exact⟨vi,hi,H⟩
  ·obtain⟨vj,LD,Q4⟩:=tA sj jm hi hr hj mV
   rw[lY (Bo Q4)]at H
   obtain⟨v,g',_,H⟩:=H
   have:=ready_mono hj mV
   rw[H.1]at this;cases this
 |succ fuel ih=>
  intro listed env σ sj hr jm H
  refine⟨fun h=>(by rw[h]at hr;cases hr),fun j hj=>?_⟩
  by_cases mV:j=i
  ·subst mV;exact⟨vi,hi,H⟩
  ·obtain⟨vj,LD,Q4⟩:=tA sj jm hi hr hj mV
   refine⟨vj,LD,?_⟩
   have H2:step X vi (fun e s=>step X vj (fun e s=>Ax X ops vl K fuel ((listed.setIfInBounds i true).setIfInBounds j true) e s) e s) env σ:=jW hK (fun e s h=>by
    obtain⟨vj',zH,h'⟩:=h.2 j (ready_mono hj mV)
    rw[LD]at zH;injection zH with zH;subst zH
    exact h') H
   refine jW hK (fun e s h=>?_) (Hb hK Q4 H2)
   refine ih _ _ _ (sj.list hj) (ready_mono hr (fun e=>mV e.symm)) (Dg jm j) ?_
   rw[Array.setIfInBounds_comm _ _ mV]
   exact h
theorem ta {x:bh} (hg:x.guard=none) {N:Env->aw->Prop} {env:Env} {σ:aw}:step X x N env σ=fq X false x env σ (fun v σ'=>N (upd env x.dst v) σ'):=by
 unfold step
 rw[hg]
 simp[aH]
theorem Ep {x y:bh} {t s sz:Nat} {ys:O} (hx:x.op=.append sz (.t t) ys) (hg:x.guard=none) (hf:EY s x y=true) {N:Env->aw->Prop} {env:Env} {σ:aw} (hl:LS t s ys env σ.next) (h:step X x (fun e s=>step X y N e s) env σ):
  step X y (fun e σ'=>LS t s ys e σ'.next/\step X x N e σ') env σ:=by
 unfold EY at hf
 simp only[Bool.and_eq_true,bne_iff_ne]at hf
 obtain⟨⟨⟨⟨⟨f1,hq⟩,f3⟩,f4⟩,f5⟩,f6⟩:=hf
 have F:=r9 f1
 obtain⟨⟨len,ht⟩,hsrc⟩:=hl
 have I6:∀k∈x.op.gI,∀v',upd env y.dst v' k=env k:=fun k hk v'=>mO (env:=env) (v:=v') F.yx k (r5 hk)
 have dK:t∈x.op.gI:=by rw[hx];simp[gC.gI,gU]
 have Fj:∀v',cX (upd env y.dst v') ys=cX env ys:=fun v'=>(bl fun k hk=>by rw[I6 k (by rw[hx];simp[gC.gI,hk])]).symm
 rw[ta hg]at h
 unfold fq at h
 simp only[hx,fH]at h
 have ex:cX env (.t t)=.own ⟨s,σ.next⟩ 0 len:=ht
 rw[ex]at h
 cases hr:bj σ.get (cX env ys)with
 |none=>rw[hr]at h;exact h.elim
 |some rs=>
  rw[hr]at h
  simp only[Option.bind_some,aT]at h
  cases hgs:σ.get ⟨s,σ.next⟩with
  |none=>rw[hgs]at h;exact h.elim
  |some r=>
   rw[hgs]at h
   simp only[Option.bind_some]at h
   split at h
   ·rename_i v g1 hv
    split at hv
    ·rename_i hcond
     simp only[Option.some.injEq,Prod.mk.injEq]at hv
     obtain⟨rfl,rfl⟩:=hv
     rw[lY hq]at h
     obtain⟨v',g2,hG,hN⟩:=h
     have Gi:(⟨y.site,σ.next⟩:Id)≠⟨s,σ.next⟩:=fun e=>f5 (by injection e)
     have IQ:(⟨y.site,σ.next⟩:Id)≠⟨x.site,σ.next⟩:=fun e=>f6 (by injection e)
     replace hG:GS X σ.next y env (br (bP σ.get ⟨s,σ.next⟩) ⟨x.site,σ.next⟩ ⟨true,sz,r.rows++rs⟩) v' g2:=uP (mO F.xy) hG
     have UY:fG y.hid σ.next σ.get=fG y.hid σ.next (br (bP σ.get ⟨s,σ.next⟩) ⟨x.site,σ.next⟩ ⟨true,sz,r.rows++rs⟩):=by
      cases hh:y.hid with
      |nil=>rw[hh]at f3;simp at f3
      |cons a l=>
       rw[hh]at f3 f4
       funext i
       show(if (a::l).contains i.site=true/\i.bY=σ.next then none else σ.get i)=if (a::l).contains i.site=true/\i.bY=σ.next then none else _
       by_cases h1:i=⟨x.site,σ.next⟩
       ·subst h1;rw[if_pos ⟨f4,rfl⟩,if_pos ⟨f4,rfl⟩]
       ·by_cases h2:i=⟨s,σ.next⟩
        ·subst h2;rw[if_pos ⟨f3,rfl⟩,if_pos ⟨f3,rfl⟩]
        ·simp only[br,bP,if_neg h1,if_neg h2]
     obtain⟨my,Uf,hG'⟩:∃my,g2=jn (br (bP σ.get ⟨s,σ.next⟩) ⟨x.site,σ.next⟩ ⟨true,sz,r.rows++rs⟩) ⟨y.site,σ.next⟩ my/\GS X σ.next y env σ.get v' (jn σ.get ⟨y.site,σ.next⟩ my):=by
      unfold GS at hG ⊢
      by_cases wy:aH y.guard env=true
      ·rw[if_pos wy]at hG
       have hcw:y.op.cls≠.write:=by
        unfold k6 at hq
        simp only[Bool.and_eq_true,bne_iff_ne]at hq
        exact hq.2
       obtain⟨my,rfl,_,ND⟩:=uW hcw hG
       exact⟨my,rfl,by rw[if_pos wy];exact ND _ UY⟩
      ·rw[if_neg wy]at hG
       obtain⟨rfl,rfl⟩:=hG
       exact⟨none,rfl,by rw[if_neg wy];exact⟨rfl,rfl⟩⟩
     subst Uf
     refine(lY hq).2 ⟨v',_,hG',⟨⟨len,by rw[I6 t dK];exact ht⟩,fun id o l he=>hsrc id o l (by rw[<-Fj v'];exact he)⟩,?_⟩
     rw[ta hg]
     unfold fq
     have ex':cX (upd env y.dst v') (.t t)=.own ⟨s,σ.next⟩ 0 len:=by
      show upd env y.dst v' t= _
      rw[I6 t dK];exact ht
     simp only[hx,fH,ex',Fj v']
     have nY:bj (jn σ.get ⟨y.site,σ.next⟩ my) (cX env ys)=some rs:=by
      cases my with
      |none=>exact hr
      |some row=>
       revert hr
       cases hev:cX env ys<;>simp only[bj,jn]<;>try exact fun h=>h
       rename_i id o l
       have:id≠⟨y.site,σ.next⟩:=fun e=>hsrc id o l hev (by rw[e])
       simp only[br,if_neg this];exact fun h=>h
     have Uh:jn σ.get ⟨y.site,σ.next⟩ my ⟨s,σ.next⟩=some r:=by
      cases my with
      |none=>exact hgs
      |some row=>simp only[jn,br,if_neg (fun e=>Gi e.symm:(⟨s,σ.next⟩:Id)≠⟨y.site,σ.next⟩)];exact hgs
     rw[nY]
     simp only[Option.bind_some,aT,Uh]
     rw[if_pos hcond]
     have hgg:br (bP (jn σ.get ⟨y.site,σ.next⟩ my) ⟨s,σ.next⟩) ⟨x.site,σ.next⟩ ⟨true,sz,r.rows++rs⟩=jn (br (bP σ.get ⟨s,σ.next⟩) ⟨x.site,σ.next⟩ ⟨true,sz,r.rows++rs⟩) ⟨y.site,σ.next⟩ my:=by
      cases my with
      |none=>rfl
      |some row=>
       funext i
       simp only[jn,br,bP]
       by_cases h1:i=⟨y.site,σ.next⟩
       ·subst h1;rw[if_neg IQ,if_neg Gi,if_pos rfl,if_pos rfl]
       ·simp only[if_neg h1]
     have hu:=w6 (env:=env) (v:=AV.own ⟨x.site,σ.next⟩ 0 (len+rs.length)) (u:=v') F.dst
     show N (upd (upd env y.dst v') x.dst (.own ⟨x.site,σ.next⟩ 0 (len+rs.length))) ⟨br (bP (jn σ.get ⟨y.site,σ.next⟩ my) ⟨s,σ.next⟩) ⟨x.site,σ.next⟩ ⟨true,sz,r.rows++rs⟩,σ.next⟩
     rw[hgg,<-hu]
     exact hN
    ·cases hv
   ·exact h.elim
theorem Df {ops:Array Oper} {vl:List bh} {bs:Array Nat} {listed:Array Bool} {i s:Nat} (h:oz ops vl bs listed i s=true) (j:Nat):oz ops vl bs (listed.setIfInBounds j true) i s=true:=by
 unfold oz at h ⊢
 split at h
 ·rename_i x hx
  simp only[List.all_eq_true,Bool.or_eq_true]at h ⊢
  intro k hk
  rcases h k hk with((h|h)|h)|h
  ·exact .inl (.inl (.inl (getD_set_true h)))
  ·exact .inl (.inl (.inr h))
  ·exact .inl (.inr h)
  ·exact .inr h
 ·cases h
theorem Bm {ops:Array Oper} {vl:List bh} {listed:Array Bool} {i j s:Nat} {vi:bh} (sj:DC ops listed) (h:oz ops vl (jE ops) listed i s=true) (hi:vl[i]? =some vi) (hr:i∈Region.ready .any ops listed) (hj:j∈Region.ready .any ops listed) (mV:j≠i):∃vj,vl[j]? =some vj/\EY s vi vj=true:=by
 unfold oz at h
 rw[hi]at h
 simp only[List.all_eq_true,Bool.or_eq_true,beq_iff_eq]at h
 obtain⟨_,o,ho,_⟩:=mem_ready.1 hj
 rcases h j (List.mem_range.2 (Array.getElem?_eq_some_iff.1 ho).1)with((h|h)|h)|h
 ·rw[jg hj]at h;cases h
 ·exact absurd h mV
 ·have:=k7 sj hj i h
  rw[jg hr]at this;cases this
 ·split at h
  ·rename_i y hy;exact⟨y,hy,h⟩
  ·cases h
theorem Cw (hK:p7 X) {ops:Array Oper} {vl:List bh} {K:Env->aw->Prop} {i t s sz:Nat} {ys:O} {vi:bh} (hi:vl[i]? =some vi) (hx:vi.op=.append sz (.t t) ys) (hg:vi.guard=none):∀(fuel:Nat) (listed:Array Bool) (env:Env) (σ:aw),
  DC ops listed->i∈Region.ready .any ops listed->oz ops vl (jE ops) listed i s=true->LS t s ys env σ.next->step X vi (fun e s=>Ax X ops vl K fuel (listed.setIfInBounds i true) e s) env σ->Ax X ops vl K (fuel+1) listed env σ:=by
 intro fuel
 induction fuel with
 |zero=>
  intro listed env σ sj hr jm P3 H
  refine⟨fun h=>(by rw[h]at hr;cases hr),fun j hj=>?_⟩
  by_cases mV:j=i
  ·subst mV;exact⟨vi,hi,H⟩
  ·exfalso
   have h0:=ready_mono hj mV
   rw[ta hg]at H
   unfold fq at H
   simp only[hx]at H
   split at H
   ·rw[H.1]at h0;cases h0
   ·exact H
 |succ fuel ih=>
  intro listed env σ sj hr jm P3 H
  refine⟨fun h=>(by rw[h]at hr;cases hr),fun j hj=>?_⟩
  by_cases mV:j=i
  ·subst mV;exact⟨vi,hi,H⟩
  ·obtain⟨vj,LD,Q4⟩:=Bm sj jm hi hr hj mV
   refine⟨vj,LD,?_⟩
   have H2:step X vi (fun e s=>step X vj (fun e s=>Ax X ops vl K fuel ((listed.setIfInBounds i true).setIfInBounds j true) e s) e s) env σ:=jW hK (fun e s h=>by
    obtain⟨vj',zH,h'⟩:=h.2 j (ready_mono hj mV)
    rw[LD]at zH;injection zH with zH;subst zH
    exact h') H
   refine jW hK (fun e s h=>?_) (Ep hx hg Q4 P3 H2)
   refine ih _ _ _ (sj.list hj) (ready_mono hr (fun e=>mV e.symm)) (Df jm j) h.1 ?_
   rw[Array.setIfInBounds_comm _ _ mV]
   exact h.2
theorem Jq {ops:Array Oper} {vl:List bh} {bs:Array Nat} {listed:Array Bool} {i i' t s:Nat} {y:O} {vo:bh} (h:OR ops vl bs listed i=some (i',t,s,y,vo)):i'=i/\vl[i]? =some vo/\(∃sz,vo.op=.append sz (.t t) y)/\vo.guard=none/\oz ops vl bs listed i s=true:=by
 unfold OR at h
 split at h
 ·rename_i x hx
  split at h
  ·rename_i t' s' y' jZ
   split at h
   ·rename_i hf
    simp only[Option.some.injEq,Prod.mk.injEq]at h
    obtain⟨rfl,rfl,rfl,rfl,rfl⟩:=h
    unfold Nf at jZ
    split at jZ
    ·rename_i sz t2 y2 ho uA
     split at jZ
     ·simp only[Option.some.injEq,Prod.mk.injEq]at jZ
      obtain⟨rfl,rfl,rfl⟩:=jZ
      exact⟨rfl,hx,⟨sz,ho⟩,uA,hf⟩
     ·cases jZ
    ·cases jZ
   ·cases h
  ·cases h
 ·cases h
theorem xV {X:fN} {Q:Ex->Env->aw->Prop} {env:Env} {σ:aw}:∀{l:List VC} {t:VC},A8 l=some t->dE X t Q env σ->∀c∈l,dE X c Q env σ
 |[],t,h,_,c,hc=>by cases hc
 |[c0],t,h,hw,c,hc=>by
  simp only[A8,Option.some.injEq]at h
  subst h
  rw[List.mem_singleton]at hc
  subst hc;exact hw
 |c0::c1::r,t,h,hw,c,hc=>by
  simp only[A8,Option.map_eq_some_iff]at h
  obtain⟨t',HD,rfl⟩:=h
  rcases List.mem_cons.1 hc with rfl|hc
  ·exact hw.1
  ·exact xV HD hw.2 c hc
theorem mapM_mem {α β:Type} {f:α->Option β}:∀{l:List α} {r:List β},l.mapM f=some r->∀i∈l,∃b∈r,f i=some b
 |[],_,_,i,hi=>by cases hi
 |a::l,r,h,i,hi=>by
  simp only[List.mapM_cons,Option.bind_eq_bind,Option.bind_eq_some_iff,Option.pure_def,Option.some.injEq]at h
  obtain⟨b,hb,r',hr,rfl⟩:=h
  rcases List.mem_cons.1 hi with rfl|hi
  ·exact⟨b,by simp,hb⟩
  ·obtain⟨c,hc,hf⟩:=mapM_mem hr i hi
   exact⟨c,List.mem_cons_of_mem _ hc,hf⟩
theorem Hm (hK:p7 X) {ops:Array Oper} {vl:List bh} {Q:Ex->Env->aw->Prop}:∀(n:Nat) (listed:Array Bool) (t:VC) (env:Env) (σ:aw),wY ops vl (jE ops) n listed=some t->DC ops listed->dE X t Q env σ->Ax X ops vl (Q .normal) n listed env σ:=by
 intro n
 induction n with
 |zero=>
  intro listed t env σ h _ hw
  unfold wY at h
  split at h
  ·rename_i hr
   simp only[Option.some.injEq]at h
   subst h
   exact⟨hr,hw⟩
  ·cases h
 |succ n ih=>
  intro listed t env σ h sj hw
  unfold wY at h
  split at h
  ·rename_i hr
   simp only[Option.some.injEq]at h
   subst h
   exact⟨fun _=>hw,fun i hi=>by rw[hr]at hi;cases hi⟩
  ·rename_i r rs hr
   dsimp only at h
   split at h
   ·rename_i i hfind
    have Lr:=List.mem_of_find?_eq_some hfind
    have yg:=List.find?_some hfind
    rw[<-hr]at Lr
    split at h
    ·rename_i vo nI
     simp only[Option.map_eq_some_iff]at h
     obtain⟨t',HD,rfl⟩:=h
     exact EH hK nI n listed env σ sj Lr yg (jW hK (fun e s h=>ih _ _ _ _ HD (sj.list Lr) h) hw)
    ·cases h
   ·split at h
    ·rename_i i t s y vo hfind
     obtain⟨i0,Hz,dJ⟩:=List.exists_of_findSome?_eq_some hfind
     obtain⟨rfl,nI,⟨sz,ew⟩,uA,Lo⟩:=Jq dJ
     rw[<-hr]at Hz
     simp only[Option.map_eq_some_iff]at h
     obtain⟨t',HD,rfl⟩:=h
     exact Cw hK nI ew uA n listed env σ sj Hz Lo hw.1 (jW hK (fun e s h=>ih _ _ _ _ HD (sj.list Hz) h) hw.2)
    split at h
    ·rename_i l hl
     have dG:=xV h hw
     refine⟨fun h=>(by rw[h]at hr;cases hr),fun i hi=>?_⟩
     rw[hr]at hi
     obtain⟨b,KE,Gd⟩:=mapM_mem hl i hi
     simp only[Option.bind_eq_some_iff,Option.map_eq_some_iff]at Gd
     obtain⟨vo,nI,t',HD,rfl⟩:=Gd
     exact⟨vo,nI,jW hK (fun e s h=>ih _ _ _ _ HD (sj.list (by rw[hr];exact hi)) h) (dG _ KE)⟩
    ·cases h
theorem ED {ops:Array Oper} {vl:List bh} {nt site0:Nat} {draw mk:Bool} {bs:Array Nat} {hidden:List (Nat×Bool)} {K:Env->aw->Prop} {Q:Exit->Act->World->Prop} (dG:allM (kP P ops nt site0 draw mk bs hidden) ops.toList 0=some vl):
  ∀(fuel:Nat) (listed:Array Bool) (env:Env) (σ:aw) (a:Act) (w:World) (D:Nat->Prop) (ι:Names) (U:Nat->Prop),Ax (Sound P) ops vl K fuel listed env σ->gw P hs D ι σ.get w->Used ι σ.next U->(∀s,U s->∃i,s=site0+i/\listed.getD i false=true)->ck P w D ι env a->a.tmps.size=nt->
  (∀iO σ' a' w' D' ι',K iO σ'->Step hs D ι w D' ι' w'->St P hs nt D' ι' iO σ' a' w'->a'.defers=a.defers->σ.next<=σ'.next->Q .normal a' w')->wpAny P .any ops Q fuel listed a w:=by
 intro fuel
 induction fuel with
 |zero=>intro listed env σ a w D ι U h S Us hU E ft hQ;exact⟨h.1,hQ env _ a w D ι h.2 (Step.refl _ _ _ _) ⟨S,Us.next,E,ft⟩ rfl (Nat.le_succ _)⟩
 |succ fuel ih=>
  intro listed env σ a w D ι U h S Us hU E ft hQ
  refine⟨fun hr=>hQ env _ a w D ι (h.1 hr) (Step.refl _ _ _ _) ⟨S,Us.next,E,ft⟩ rfl (Nat.le_succ _),fun i hi=>?_⟩
  obtain⟨vo,nI,hG⟩:=h.2 i hi
  obtain⟨_,o,ho,_⟩:=mem_ready.1 hi
  obtain⟨vo',mE,QT⟩:=(om dG).2 i o (by simpa using ho)
  rw[nI]at mE;injection mE with mE;subst mE
  rw[Nat.zero_add]at QT
  obtain⟨hc,hd,BF,xw,hg⟩:=ph QT
  have hw:=th (ops:=ops) (vo:=vo) E hg
  have TV:¬U vo.site:=fun hu=>by
   obtain⟨i',he,hl⟩:=hU _ hu
   have:i'=i:=by omega
   subst this
   rw[jg hi]at hl;cases hl
  have jG:i<listed.size:=by
   have h0:=(mem_ready.1 hi).1
   rcases Nat.lt_or_ge i listed.size with h|h
   ·exact h
   ·simp[Array.getElem?_eq_none h]at h0
  unfold wpOp
  simp only[ho]
  rw[<-hw]
  unfold step at hG
  by_cases Gp:aH vo.guard env=true
  ·rw[if_pos Gp]
   rw[if_pos Gp]at hG
   refine .inl (y5 hc hG S Us TV E fun v σ' u D' ι' w' hn T S' hR U' hle=>?_)
   refine ih _ _ _ _ w' D' ι' _ hn S' U' (fun s BC=>?_) (by rw[hd];exact iD (oy E T) hR xw ft) (by rw[eW];exact ft) fun iO σ2 a2 w2 D2 ι2 hk T2 OI Dr l9=>hQ iO σ2 a2 w2 D2 ι2 hk (T.trans T2) OI (Dr.trans (put_defers _ _ _)) (Nat.le_trans hle l9)
   rcases BC with h|h
   ·obtain⟨i',he,hl⟩:=hU _ h
    exact⟨i',he,getD_set_true hl⟩
   ·exact⟨i,by rw[h,BF],by simp[jG]⟩
  ·rw[if_neg Gp]
   rw[if_neg Gp]at hG
   refine ih _ _ _ _ w D ι U hG S Us (fun s BC=>?_) (by rw[hd];exact iD E cW.undef xw ft) (by rw[eW];exact ft) fun iO σ2 a2 w2 D2 ι2 hk T2 OI Dr l9=>hQ iO σ2 a2 w2 D2 ι2 hk T2 OI (Dr.trans (put_defers _ _ _)) l9
   obtain⟨i',he,hl⟩:=hU _ BC
   exact⟨i',he,getD_set_true hl⟩
end
end Go.Proofs.YtgoljkjaameagaaGreat.V

namespace Go.Proofs.YtgoljkjaameagaaGreat.V
open Go.RowKit
variable {P:Program} {w w':World} {D D' D2:Nat->Prop} {ι ι' ι2:Names}
def AE (P:Program) (c:Code) (Q:Exit->Act->World->Prop) (a:Act) (w:World):Prop:=
 ∀(b:Frame) (k:List Item) (cs:List Frame),b.kind≠.early->∃e a' w',Q e a' w'/\Arrives P (lone (b.at a (.code c::k)) cs w) b k cs e a' w'
section
variable {Q:Exit->Act->World->Prop} {a:Act}
theorem ko {c:Code} (h:c.wp P Q a w):AE P c Q a w:=fun b k cs _=>h b k cs
theorem lW {x y:Code} (h:AE P x (Exit.then (AE P y Q) Q) a w):AE P (.seq x y) Q a w:=by
 intro b k cs hb
 obtain⟨e,a1,w1,hq,jP⟩:=h b (.code y::k) cs hb
 by_cases he:e=.normal
 ·subst he
  obtain⟨e2,a2,w2,Gk,IB⟩:=hq b k cs hb
  exact⟨e2,a2,w2,Gk,.of_steps (.head step_seq jP) IB⟩
 ·refine⟨e,a1,w1,?_,.of_steps (.one step_seq) (.pass (x:=.code y) rfl (fun _ _=>.inl he) jP)⟩
  cases e<;>first|exact absurd rfl he|exact hq
theorem wu {c:Operand} {x y:Code} {t:Bool} (hc:a.eval c=.bool t) (h:AE P (if t then x else y) Q a w):AE P (.cond c x y) Q a w:=
 fun b k cs hb=>let ⟨e,a',w',q,r⟩:=h b k cs hb;⟨e,a',w',q,.of_steps (.one (step_cond hc)) r⟩
theorem sY {id:Nat} {c:Code} (h:AE P c (Exit.inBlock id Q) a w):AE P (.block id c) Q a w:=by
 intro b k cs hb
 obtain⟨e,a1,w1,hq,jP⟩:=h b (.inBlock id::k) cs hb
 cases e with
 |normal=>exact⟨.normal,a1,w1,hq,.head step_block (Steps.trans jP (.one step_inBlock))⟩
 |exit j0=>
  by_cases hid:j0=id
  ·simp only[Exit.inBlock,hid,if_true]at hq
   exact⟨.normal,a1,w1,hq,.head step_block (jP k (by simp[exitTo,hid]))⟩
  ·simp only[Exit.inBlock,hid,if_false]at hq
   exact⟨.exit j0,a1,w1,hq,fun k' hk=>.head step_block (jP k' (by simp[exitTo,Ne.symm hid,hk]))⟩
 |goto l=>exact⟨_,a1,w1,hq,fun k' hk=>.head step_block (jP k' (by simp[gotoIn,hk]))⟩
 |ret=>exact⟨_,a1,w1,hq,.of_steps (.one step_block) jP⟩
 |panic ch=>exact⟨_,a1,w1,hq,.of_steps (.one step_block) jP⟩
 |outgrown=>exact⟨_,a1,w1,hq,.of_steps (b:=b) (k:=k) (cs:=cs) (e:=.outgrown) (.one step_block) jP⟩
def pC (P:Program) (c:Code) (Q:Exit->Act->World->Prop):Nat->Act->World->Prop
 |0=>fun _ _=>False
 |n+1=>AE P c (Exit.then (pC P c Q n) Q)
theorem B8 {c:Code} (n:Nat) (h:pC P c Q n a w):AE P (.loop c) Q a w:=by
 intro b k cs hb
 have key:∀n a w,pC P c Q n a w->∃e a' w',Q e a' w'/\Arrives P (lone (b.at a (.code c::.inLoop c::k)) cs w) b k cs e a' w':=by
  intro n
  induction n with
  |zero=>intro a w h;exact h.elim
  |succ n ih=>
   intro a w h
   obtain⟨e,a1,w1,hq,jP⟩:=h b (.inLoop c::k) cs hb
   by_cases he:e=.normal
   ·subst he
    obtain⟨e2,a2,w2,Gk,IB⟩:=ih a1 w1 hq
    exact⟨e2,a2,w2,Gk,.of_steps (Steps.trans jP (.one step_inLoop)) IB⟩
   ·refine⟨e,a1,w1,?_,.pass (x:=.inLoop c) rfl (fun _ _=>.inl he) jP⟩
    cases e<;>first|exact absurd rfl he|exact hq
 obtain⟨e,a',w',hq,jP⟩:=key n a w h
 exact⟨e,a',w',hq,.of_steps (.one step_loop) jP⟩
theorem zl {f:FuncId} {fn:Func} {c:Code} {args:Array Value} {R:Ending->World->Prop} (hf:P.funcs[f]? =some fn) (hb:fn.body=some c)
  (h:AE P c (bodyPost P fn R) {tmps:=args++Array.replicate (fn.ntmps-args.size) undef,defers:=[]} w):Calls P f args w R:=by
 intro cs
 have Oo:Frame.enter P f args .normal=({(default:Frame)with fn:=f,kind:=.normal}:Frame).at {tmps:=args++Array.replicate (fn.ntmps-args.size) undef,defers:=[]} [.code c]:=by simp[Frame.enter,Frame.at,hf,hb]
 obtain⟨e,a',w',hq,jP⟩:=h {(default:Frame)with fn:=f,kind:=.normal} [] cs (by simp)
 rw[<-Oo]at jP
 cases e with
 |normal=>obtain⟨hd,v,hr,hR⟩:=hq;exact⟨.returned v,w',_,hR,Steps.trans jP (.one step_end),rfl,rfl,hd,rfl,fn,hf,hr⟩
 |ret=>obtain⟨hd,v,hr,hR⟩:=hq;obtain⟨todo,hs⟩:=jP;exact⟨.returned v,w',_,hR,hs,rfl,rfl,hd,rfl,fn,hf,hr⟩
 |panic chain=>obtain⟨hd,hR⟩:=hq;obtain⟨todo,hs⟩:=jP;exact⟨.panicked chain,w',_,hR,hs,rfl,rfl,hd,fn,hf⟩
 |exit id=>exact hq.elim
 |goto l=>exact hq.elim
 |outgrown=>exact⟨.outgrown,w',{(default:Frame)with fn:=f,kind:=.normal},hq,jP.resolve_left (by simp),rfl,trivial⟩
def xj (P:Program) (ops:Array Oper) (Q:Exit->Act->World->Prop) (l:List Nat) (a:Act) (w:World):Prop:=
 ∀(b:Frame) (k:List Item) (cs:List Frame),b.kind≠.early->∃e a' w',Q e a' w'/\Arrives P (lone (b.at a (.inRegion ops l::k)) cs w) b k cs e a' w'
theorem DW {id:Nat} {ops:Array Oper} (h:xj P ops Q (List.range ops.size) a w):AE P (.region id ops false) Q a w:=
 fun b k cs hb=>let ⟨e,a',w',q,r⟩:=h b k cs hb;⟨e,a',w',q,.of_steps (.one step_region) r⟩
theorem O0 {ops:Array Oper} (h:Q .normal a w):xj P ops Q [] a w:=fun _ _ _ _=>⟨.normal,a,w,h,.one step_region_end⟩
theorem pd {o:Oper} {ys:Nat->Option Bool} (h:o.guard=none):Region.wanted o ys=true:=by simp[Region.wanted,h]
theorem JJ {ops:Array Oper} {i:Nat} {rest:List Nat} {o:Oper} {v:Value} (ho:ops[i]? =some o) (hg:o.guard=none) (hr:(execOp a.eval o).run P w=.ok (.value v) w') (h:xj P ops Q rest (a.put o.dst v) w'):xj P ops Q (i::rest) a w:=by
 intro b k cs hb
 obtain⟨e,a',w2,hq,jP⟩:=h b k cs hb
 refine⟨e,a',w2,hq,.of_steps (.one ?_) jP⟩
 have sL:(b.at a (.inRegion ops (i::rest)::k)).finish v=b.at (a.put o.dst v) (.inRegion ops rest::k):=by rw[Frame.finish_at,ho];rfl
 rw[<-sL]
 refine step_lone_go ?_
 have h2:=stepG_op (P:=P) (b:=b) (k:=k) (cs:=cs) (w:=w) (rest:=rest) ho (pd hg (ys:=yielded ops a.tmps))
 rw[h2];simp[stepG.apply,hr]
theorem L9 {ops:Array Oper} {i:Nat} {rest:List Nat} {o:Oper} {v z:Value} {c cap s r:Nat} {buf:Array Value} (ho:ops[i]? =some o) (hg:o.guard=none) (hr:(execOp a.eval o).run P w=.ok (.comm #[Conc.scase c v z] true .send) w)
  (hc:w.heap[c]? =some (.chan cap buf false s r false)) (gx:buf.size<cap) (h:xj P ops Q rest (a.put o.dst undef) (w.setChan c cap (buf.push v) false (s+1) r false)):xj P ops Q (i::rest) a w:=by
 intro b k cs hb
 obtain⟨e,a',w2,hq,jP⟩:=h b k cs hb
 refine⟨e,a',w2,hq,.of_steps (.one ?_) jP⟩
 have sL:(b.at a (.inRegion ops (i::rest)::k)).finish undef=b.at (a.put o.dst undef) (.inRegion ops rest::k):=by rw[Frame.finish_at,ho];rfl
 rw[<-sL,Conc.lone_eq_solo,Conc.lone_eq_solo]
 exact Conc.step_lone_send_room (Conc.stepG_comm ho (pd hg) hb hr) hc gx
theorem L8 {ops:Array Oper} {i:Nat} {rest:List Nat} {o:Oper} {z:Value} {c cap s r:Nat} {buf:Array Value} (ho:ops[i]? =some o) (hg:o.guard=none) (hr:(execOp a.eval o).run P w=.ok (.comm #[Conc.rcase c z] true (.recv false)) w)
  (hc:w.heap[c]? =some (.chan cap buf false s r false)) (I7:0<buf.size) (h:xj P ops Q rest (a.put o.dst (buf.getD 0 undef)) (w.setChan c cap (buf.extract 1 buf.size) false s (r+1) false)):xj P ops Q (i::rest) a w:=by
 intro b k cs hb
 obtain⟨e,a',w2,hq,jP⟩:=h b k cs hb
 refine⟨e,a',w2,hq,.of_steps (.one ?_) jP⟩
 have sL:(b.at a (.inRegion ops (i::rest)::k)).finish (buf.getD 0 undef)=b.at (a.put o.dst (buf.getD 0 undef)) (.inRegion ops rest::k):=by rw[Frame.finish_at,ho];rfl
 rw[<-sL,Conc.lone_eq_solo,Conc.lone_eq_solo]
 exact Conc.step_lone_recv_buf false (Conc.stepG_comm ho (pd hg) hb hr) hc I7
end
section
variable {hs:Nat} {g:Rows} {env:Env} {a:Act} {o:Oper}
theorem LN {x y:O} (hc:qR P o.op=some (.snd x y)):∃x' y',o.op=.send x' y'/\cO P x'=some x/\cO P y'=some y:=by
 unfold qR at hc
 split at hc
 case h_25=>
  rename_i x' y' h
  simp only[Option.bind_eq_bind,Option.bind_eq_some_iff,Option.pure_def,Option.some.injEq,gC.snd.injEq]at hc
  obtain⟨p,h1,q,h2,rfl,rfl⟩:=hc
  exact⟨_,_,h,h1,h2⟩
 all_goals (try unfold nE at hc)<;>(try unfold u7 at hc)<;>(try unfold sw at hc)<;>(repeat' (split at hc))<;>(simp only[Option.bind_eq_bind,Option.bind_eq_some_iff,Option.pure_def,Option.some.injEq,Option.map_eq_some_iff,reduceCtorEq,and_false,exists_false]at hc)
theorem LM {x:O} (hc:qR P o.op=some (.O6 x)):∃t dir e i z x',o.op=.recv t x' false/\P.underlying t=some (.chan dir e)/\P.info? e=some i/\i.zero=some z/\cO P x'=some x:=by
 unfold qR at hc
 split at hc
 case h_26=>
  rename_i t x' h
  split at hc
  ·rename_i dir e ht
   split at hc
   ·rename_i z hz
    simp only[Option.bind_eq_some_iff]at hz
    obtain⟨i,hi,hz⟩:=hz
    simp only[Option.map_eq_some_iff,gC.O6.injEq]at hc
    obtain⟨p,h1,rfl⟩:=hc
    exact⟨t,dir,e,i,z,x',h,ht,hi,hz,h1⟩
   ·cases hc
  ·cases hc
 all_goals (try unfold nE at hc)<;>(try unfold u7 at hc)<;>(try unfold sw at hc)<;>(repeat' (split at hc))<;>(simp only[Option.bind_eq_bind,Option.bind_eq_some_iff,Option.pure_def,Option.some.injEq,Option.map_eq_some_iff,reduceCtorEq,and_false,exists_false]at hc)
theorem Qz {x y:O} {g':Rows} (S:gw P hs D ι g w) (hc:qR P o.op=some (.snd x y)) (E:ck P w D ι env a) (hv:dZ g (cX env x) (cX env y)=some g'):
  ∃c cap s r buf u,(execOp a.eval o).run P w=.ok (.comm #[Conc.scase c u (.tuple #[])] true .send) w/\w.heap[c]? =some (.chan cap buf false s r false)/\buf.size<cap/\gw P hs D ι g' (w.setChan c cap (buf.push u) false (s+1) r false)/\Step hs D ι w D ι (w.setChan c cap (buf.push u) false (s+1) r false):=by
 obtain⟨x',y',ho,hx,hy⟩:=LN hc
 have rx:=dj E hx
 have ry:=dj E hy
 unfold dZ at hv
 split at hv
 ·rename_i i he
  simp only[Option.bind_eq_some_iff]at hv
  obtain⟨r,hg,hv⟩:=hv
  split at hv
  ·rename_i hcond
   simp only[Option.some.injEq]at hv
   subst hv
   obtain⟨B,c,hu,hB,hk,ft,buf,s,q,hb,KF,hR⟩:=zm S rx he hg
   obtain⟨B',dF,RR,_⟩:=S.row i r hg
   rw[hB]at dF;injection dF with dF;subst dF
   have nS:=S.Hn (ob:=.chan c (buf.push (a.eval y')) false (s+1) q false) (r':={r with rows:=r.rows++[[cX env y]]}) hg hcond.1 hB fun hr km=>⟨RR.sz,fun cs dq=>?_,fun h0=>(by rw[hk]at h0;cases h0),fun m hm=>(by rw[hk]at hm;cases hm),fun c' kS=>?_⟩
   ·exact⟨B.b,c,s,q,buf,a.eval y',by simp[execOp,ho,hu,Conc.scase],hb,by rw[KF];omega,nS.1,nS.2⟩
   ·rcases List.mem_append.1 dq with h|h
    ·exact RR.flat cs h
    ·rw[List.mem_singleton.1 h]
     intro b sK
     rw[List.mem_singleton.1 sK];exact hcond.2.2
   ·rw[hk]at kS
    simp only[Option.some.injEq,BK.chan.injEq]at kS
    subst kS
    refine⟨ft,_,_,_,km,by simp[KF],fun j cs hj=>?_⟩
    rw[List.getElem?_append]at hj
    split at hj
    ·rename_i dJ
     obtain⟨b,u,q1,q2,q3⟩:=hR j cs hj
     refine⟨b,u,q1,?_,hr _ _ q3⟩
     rw[Array.getElem?_push,if_neg (by omega)];exact q2
    ·rename_i pq
     have gP:j=r.rows.length:=by
      have:=(List.getElem?_eq_some_iff.1 hj).1
      simp at this;omega
     subst gP
     simp at hj
     subst hj
     exact⟨_,_,rfl,by rw[Array.getElem?_push,if_pos KF.symm],hr _ _ ry⟩
  ·cases hv
 ·cases hv
theorem Qy {x:O} {g':Rows} {v:AV} (S:gw P hs D ι g w) (hc:qR P o.op=some (.O6 x)) (E:ck P w D ι env a) (hv:dY g (cX env x)=some (v,g')):
  ∃c cap s r buf z,(execOp a.eval o).run P w=.ok (.comm #[Conc.rcase c z] true (.recv false)) w/\w.heap[c]? =some (.chan cap buf false s r false)/\0<buf.size/\gw P hs D ι g' (w.setChan c cap (buf.extract 1 buf.size) false s (r+1) false)/\Step hs D ι w D ι (w.setChan c cap (buf.extract 1 buf.size) false s (r+1) false)/\cW P (w.setChan c cap (buf.extract 1 buf.size) false s (r+1) false) D ι v (buf.getD 0 undef):=by
 obtain⟨t,dir,e,i0,z,x',ho,ht,hi,hz,hx⟩:=LM hc
 have rx:=dj E hx
 unfold dY at hv
 split at hv
 ·rename_i i he
  simp only[Option.bind_eq_some_iff]at hv
  obtain⟨r,hg,hv⟩:=hv
  split at hv
  ·rename_i v' rest oJ
   split at hv
   ·rename_i hcond
    simp only[Option.some.injEq,Prod.mk.injEq]at hv
    obtain⟨rfl,rfl⟩:=hv
    obtain⟨B,c,hu,hB,hk,ft,buf,s,q,hb,KF,hR⟩:=zm S rx he hg
    obtain⟨B',dF,RR,_⟩:=S.row i r hg
    rw[hB]at dF;injection dF with dF;subst dF
    obtain⟨b0,u0,q1,q2,q3⟩:=hR 0 [v'] (by rw[oJ];rfl)
    simp only[List.cons.injEq,and_true]at q1
    subst q1
    have kn:0<buf.size:=by rw[KF,oJ];simp
    have S3:buf.getD 0 undef=u0:=by rw[Array.getD_eq_getD_getElem?,q2];rfl
    have nS:=S.Hn (ob:=.chan c (buf.extract 1 buf.size) false s (q+1) false) (r':={r with rows:=rest}) hg hcond hB fun hr km=>⟨RR.sz,fun cs dq=>RR.flat cs (by rw[oJ];exact List.mem_cons_of_mem _ dq),fun h0=>(by rw[hk]at h0;cases h0),fun m hm=>(by rw[hk]at hm;cases hm),fun c' kS=>?_⟩
    ·refine⟨B.b,c,s,q,buf,z,?_,hb,kn,nS.1,nS.2,?_⟩
     ·have v7:(zeroValue e).run P w=.ok z w:=by simp[zeroValue,typeInfo,hi,hz]
      simp[execOp,ho,hu,Conc.rcase,run_underlying ht,v7]
     ·rw[S3];exact nS.2.rep q3
    ·rw[hk]at kS
     simp only[Option.some.injEq,BK.chan.injEq]at kS
     subst kS
     refine⟨ft,_,_,_,km,by simp[KF,oJ],fun j cs hj=>?_⟩
     obtain⟨b,u,k1,k2,k3⟩:=hR (j+1) cs (by rw[oJ];simpa using hj)
     refine⟨b,u,k1,?_,hr _ _ k3⟩
     have dJ:=(Array.getElem?_eq_some_iff.1 k2).1
     rw[Array.getElem?_extract,if_pos (by omega),Nat.add_comm 1 j];exact k2
   ·cases hv
  ·cases hv
 ·cases hv
theorem FY {ops:Array Oper} {nt site0:Nat} {K:Env->aw->Prop} {Q:Exit->Act->World->Prop}:∀(l:List Oper) (vl:List bh) (j:Nat) (env:Env) (σ:aw) (a:Act) (w:World) (D:Nat->Prop) (ι:Names),
  ops.toList.drop j=l->allM (kP P ops nt site0 false false #[] []) l j=some vl->cj vl K env σ->gw P hs D ι σ.get w->Used ι σ.next (fun _=>False)->ck P w D ι env a->a.tmps.size=nt->
  (∀iO σ' a' w' D' ι',K iO σ'->Step hs D ι w D' ι' w'->St P hs nt D' ι' iO σ' a' w'->a'.defers=a.defers->σ.next<=σ'.next->Q .normal a' w')->xj P ops Q (List.range' j l.length) a w:=by
 intro l
 induction l with
 |nil=>
  intro vl j env σ a w D ι _ h hv S Us E ft hQ
  simp[allM]at h;subst h
  exact O0 (hQ env ⟨σ.get,σ.next+1⟩ a w D ι hv (Step.refl _ _ _ _) ⟨S,Us.next,E,ft⟩ rfl (Nat.le_succ _))
 |cons o l ih=>
  intro vl j env σ a w D ι hl h hv S Us E ft hQ
  simp only[allM,Option.bind_eq_bind,Option.bind_eq_some_iff,Option.pure_def,Option.some.injEq]at h
  obtain⟨vo,nI,tg,sq,rfl⟩:=h
  obtain⟨hc,hd,BF,xw,hg⟩:=ph nI
  obtain⟨Q7,hv⟩:=hv
  have UE:o.guard=none:=by
   split at hg
   ·assumption
   ·obtain⟨t,_,h⟩:=hg
    rw[Q7]at h;cases h
  have UF:ops[j]? =some o:=by
   have h0:=congrArg (fun x=>x[0]?) hl
   rw[<-Array.getElem?_toList]
   simpa[List.getElem?_drop]using h0
  have KM:ops.toList.drop (j+1)=l:=by rw[<-List.drop_drop,hl];rfl
  have go:∀(v:AV) (u:Value) (g2:Rows) (w2:World),cj tg K (upd env vo.dst v) ⟨g2,σ.next⟩->gw P hs D ι g2 w2->Step hs D ι w D ι w2->cW P w2 D ι v u->xj P ops Q (List.range' (j+1) l.length) (a.put o.dst u) w2:=fun v u g2 w2 hn S2 T hR=>
   ih tg (j+1) (upd env vo.dst v) ⟨g2,σ.next⟩ (a.put o.dst u) w2 D ι KM sq hn S2 Us (by rw[hd];exact iD (oy E T) hR xw ft) (by rw[eW];exact ft) fun iO σ2 a' w3 D3 ι3 hk T2 Ny Dr l9=>hQ iO σ2 a' w3 D3 ι3 hk (T.trans T2) Ny (Dr.trans (put_defers _ _ _)) l9
  rw[show List.range' j (o::l).length=j::List.range' (j+1) l.length from rfl]
  split at hv
  ·rename_i x y ew
   split at hv
   ·rename_i g2 Qa
    rw[ew]at hc
    obtain⟨c,cap,s,r,buf,u,gi,hb,gx,S2,T⟩:=Qz S hc E Qa
    exact L9 UF UE gi hb gx (go _ _ _ _ hv S2 T cW.undef)
   ·exact hv.elim
  ·rename_i x ew
   split at hv
   ·rename_i v g2 Qa
    rw[ew]at hc
    obtain⟨c,cap,s,r,buf,z,gi,hb,I7,S2,T,hR⟩:=Qy S hc E Qa
    exact L8 UF UE gi hb I7 (go _ _ _ _ hv S2 T hR)
   ·exact hv.elim
  ·split at hv
   ·rename_i v hq
    obtain⟨u,gi,hR⟩:=yS hc hq S E
    exact JJ UF UE gi (go _ _ _ _ hv S (Step.refl _ _ _ _) hR)
   ·exact hv.elim
end
end Go.Proofs.YtgoljkjaameagaaGreat.V

namespace Go.Proofs.YtgoljkjaameagaaGreat.V
open Go.RowKit
variable {P:Program} {w w':World} {D D' D2:Nat->Prop} {ι ι' ι2:Names}
section
variable {hs:Nat} {X:fN}
def Sk:Ex->Exit
 | .normal=>.normal
 | .exit id=>.exit id
 | .ret=>.ret
theorem St.drew {nt:Nat} {env:Env} {σ:aw} {a:Act} {D:Nat->Prop} {ι:Names} (h:St P hs nt D ι env σ a w):St P hs nt D ι env σ a w.drew/\Step hs D ι w D ι w.drew:=by
 have T:Step hs D ι w D ι w.drew:=Step.stay h.s9 (fun _ _=>rfl) (Nat.le_refl _) rfl rfl rfl (fun _ h=>h) (fun _ h=>.inl h) (fun _ _ h=>h)
 exact⟨⟨h.s9.stay (fun _ _=>rfl) (Nat.le_refl _) (fun _ h=>h) h.s9.dead (fun _ h=>.inl h) (fun _ _ h=>h),h.used,oy h.env T,h.size⟩,T⟩
def tp (P:Program) (hs nt:Nat) (ds:List Deferred) (Q:Ex->Env->aw->Prop) (n0:Nat) (D:Nat->Prop) (ι:Names) (w:World) (Q':Exit->Act->World->Prop):Prop:=
 ∀ex env σ a w' D' ι',Q ex env σ->Step hs D ι w D' ι' w'->St P hs nt D' ι' env σ a w'->a.defers=ds->n0<=σ.next->Q' (Sk ex) a w'
theorem tp.later {nt:Nat} {ds:List Deferred} {Q:Ex->Env->aw->Prop} {n0 n1:Nat} {Q':Exit->Act->World->Prop} (h:tp P hs nt ds Q n0 D ι w Q') (T:Step hs D ι w D' ι' w') (hn:n0<=n1):tp P hs nt ds Q n1 D' ι' w' Q':=
 fun ex env σ a w2 D2 ι2 hq T2 dK hd hle=>h ex env σ a w2 D2 ι2 hq (T.trans T2) dK hd (Nat.le_trans hn hle)
theorem qn (hm:P.follows .mixedOrders=true) {md:List (Nat×Nat)} {nt fid:Nat}:∀(c:Code) (vc:VC),jr P md nt fid c=some vc->∀(Q:Ex->Env->aw->Prop) (env:Env) (σ:aw) (a:Act) (w:World) (D:Nat->Prop) (ι:Names) (Q':Exit->Act->World->Prop),
  dE (Sound P) vc Q env σ->St P hs nt D ι env σ a w->tp P hs nt a.defers Q σ.next D ι w Q'->AE P c Q' a w:=by
 intro c
 induction c with
 |skip=>
  intro vc h Q env σ a w D ι Q' hv dK hQ
  simp[jr]at h;subst h
  exact ko <| wp_skip (hQ .normal env σ a w D ι hv (Step.refl _ _ _ _) dK rfl (Nat.le_refl _))
 |exit id=>
  intro vc h Q env σ a w D ι Q' hv dK hQ
  simp[jr]at h;subst h
  exact ko <| wp_exit (hQ (.exit id) env σ a w D ι hv (Step.refl _ _ _ _) dK rfl (Nat.le_refl _))
 |ret=>
  intro vc h Q env σ a w D ι Q' hv dK hQ
  simp[jr]at h;subst h
  exact ko <| wp_ret (hQ .ret env σ a w D ι hv (Step.refl _ _ _ _) dK rfl (Nat.le_refl _))
 |seq x y ihx ihy=>
  intro vc h Q env σ a w D ι Q' hv dK hQ
  simp only[jr,Option.bind_eq_bind,Option.bind_eq_some_iff,Option.pure_def,Option.some.injEq]at h
  obtain⟨vx,hx,vy,hy,rfl⟩:=h
  refine lW (ihx vx hx _ env σ a w D ι _ hv dK fun ex ji σ1 a1 w1 D1 ι1 hq T kb hd hle=>?_)
  cases ex with
  |normal=>exact ihy vy hy Q ji σ1 a1 w1 D1 ι1 Q' hq kb (by rw[hd];exact hQ.later T hle)
  |exit id=>exact hQ (.exit id) ji σ1 a1 w1 D1 ι1 hq T kb hd hle
  |ret=>exact hQ .ret ji σ1 a1 w1 D1 ι1 hq T kb hd hle
 |cond c x y ihx ihy=>
  intro vc h Q env σ a w D ι Q' hv dK hQ
  simp only[jr,Option.bind_eq_bind,Option.bind_eq_some_iff,Option.pure_def,Option.some.injEq]at h
  obtain⟨c',hc,vx,hx,vy,hy,rfl⟩:=h
  unfold dE at hv
  have hr:=dj dK.env hc
  split at hv
  ·rename_i b hb
   rw[hb]at hr
   refine wu (e5 hr) ?_
   cases b with
   |true=>exact ihx vx hx Q env σ a w D ι Q' hv dK hQ
   |false=>exact ihy vy hy Q env σ a w D ι Q' hv dK hQ
  ·exact hv.elim
 |block id c ih=>
  intro vc h Q env σ a w D ι Q' hv dK hQ
  simp only[jr,Option.map_eq_some_iff]at h
  obtain⟨vx,hx,rfl⟩:=h
  refine sY (ih vx hx _ env σ a w D ι _ hv dK fun ex ji σ1 a1 w1 D1 ι1 hq T kb hd hle=>?_)
  cases ex with
  |normal=>exact hQ .normal ji σ1 a1 w1 D1 ι1 hq T kb hd hle
  |ret=>exact hQ .ret ji σ1 a1 w1 D1 ι1 hq T kb hd hle
  |exit j0=>
   simp only[aX]at hq
   simp only[Sk,Exit.inBlock]
   by_cases hid:j0=id
   ·rw[if_pos hid]at hq ⊢;exact hQ .normal ji σ1 a1 w1 D1 ι1 hq T kb hd hle
   ·rw[if_neg hid]at hq ⊢;exact hQ (.exit j0) ji σ1 a1 w1 D1 ι1 hq T kb hd hle
 |loop c ih=>
  intro vc h Q env σ a w D ι Q' hv dK hQ
  simp only[jr,Option.map_eq_some_iff]at h
  obtain⟨vx,hx,rfl⟩:=h
  obtain⟨n,hv⟩:=hv
  refine B8 n ?_
  have key:∀n env σ a w D ι,Fq (dE (Sound P) vx) Q n env σ->St P hs nt D ι env σ a w->tp P hs nt a.defers Q σ.next D ι w Q'->pC P c Q' n a w:=by
   intro n
   induction n with
   |zero=>intro env σ a w D ι h;exact h.elim
   |succ n ihn=>
    intro env σ a w D ι h dK hQ
    refine ih vx hx _ env σ a w D ι _ h dK fun ex ji σ1 a1 w1 D1 ι1 hq T kb hd hle=>?_
    cases ex with
    |normal=>exact ihn ji σ1 a1 w1 D1 ι1 hq kb (by rw[hd];exact hQ.later T hle)
    |exit id=>exact hQ (.exit id) ji σ1 a1 w1 D1 ι1 hq T kb hd hle
    |ret=>exact hQ .ret ji σ1 a1 w1 D1 ι1 hq T kb hd hle
  exact key n env σ a w D ι hv dK hQ
 |region id ops draw=>
  intro vc h Q env σ a w D ι Q' hv dK hQ
  simp only[jr,Qx]at h
  split at h
  ·rename_i hmode
   have T9:draw=true:=by
    simp only[Bool.and_eq_true]at hmode;exact hmode.1
   subst T9
   split at h
   ·rename_i vl dG
    obtain⟨rJ,T0⟩:=dK.drew
    have Dp:=Hm (X:=Sound P) kN ops.size _ vc env σ h (fun k i h=>by
     exfalso
     rcases Nat.lt_or_ge k ops.size with hk|hk
     ·simp[hk]at h
     ·simp[Nat.not_lt.2 hk]at h) hv
    refine ko (wp_region_any hm ?_)
    exact ED dG ops.size _ env σ a w.drew D ι (fun _=>False) Dp rJ.s9 rJ.used (fun _ h=>h.elim) rJ.env rJ.size fun ji σ1 a1 w1 D1 ι1 hk T kb hd hle=>hQ .normal ji σ1 a1 w1 D1 ι1 hk (T0.trans T) kb hd hle
   ·cases h
  split at h
  ·rename_i hcom
   have T9:draw=false:=by
    simp only[Bool.and_eq_true,Bool.not_eq_true']at hcom;exact hcom.1
   subst T9
   simp only[Option.map_eq_some_iff]at h
   obtain⟨vl,sq,rfl⟩:=h
   have dG:allM (kP P ops nt ((fid*1000+id)*1000) false false #[] []) ops.toList 0=some vl:=by
    unfold rj at sq
    simp only[Bool.false_eq_true,if_false,Bool.not_false,Bool.true_or,if_true]at sq
    split at sq
    ·rename_i tg h;simp at sq;subst sq;exact h
    ·cases sq
   refine DW ?_
   have:=FY (Q:=Q') ops.toList vl 0 env σ a w D ι rfl dG hv dK.s9 dK.used dK.env dK.size fun ji σ1 a1 w1 D1 ι1 hk T kb hd hle=>hQ .normal ji σ1 a1 w1 D1 ι1 hk T kb hd hle
   rwa [<-List.range_eq_range',Array.length_toList]at this
  generalize (wm md id==1)=mk at h
  simp only[Option.map_eq_some_iff]at h
  obtain⟨vl,sq,rfl⟩:=h
  cases draw with
  |false=>
   have dG:∃tg,allM (kP P ops nt ((fid*1000+id)*1000) false mk #[] []) ops.toList 0=some tg/\vl=tg:=by
    unfold rj at sq
    simp only[Bool.false_eq_true,if_false,Bool.not_false,Bool.true_or,if_true]at sq
    split at sq
    ·rename_i tg h;simp at sq;exact⟨tg,h,sq.symm⟩
    ·cases sq
   obtain⟨tg,dG,rfl⟩:=dG
   refine ko (wp_region_list ?_)
   exact yM ops.toList vl 0 env σ a w D ι (fun _=>False) dG hv dK.s9 dK.used (fun _ h=>h.elim) dK.env dK.size fun ji σ1 a1 w1 D1 ι1 hk T kb hd hle=>hQ .normal ji σ1 a1 w1 D1 ι1 hk T kb hd hle
  |true=>
   have dG:∃hidden tg,allM (kP P ops nt ((fid*1000+id)*1000) true mk (jE ops) hidden) ops.toList 0=some tg/\vl=tg/\ox ops tg (jE ops)=true:=by
    unfold rj at sq
    simp only[if_true,Bool.not_true,Bool.false_or]at sq
    split at sq
    ·rename_i tg h
     split at sq
     ·rename_i vU;simp at sq;exact⟨_,tg,h,sq.symm,vU⟩
     ·cases sq
    ·cases sq
   obtain⟨hidden,tg,dG,rfl,vU⟩:=dG
   obtain⟨rJ,T0⟩:=dK.drew
   obtain⟨hlen,_⟩:=om dG
   have kT:vl.length=ops.size:=by rw[hlen];simp
   have Dp:=w7 (X:=Sound P) (K:=Q .normal) (n:=σ.next) vU kT vl 0 (Array.replicate ops.size false) env σ.get (by simp) (by simp) (fun i hi=>by simp[hi]) (by simp[kT]) (fun k i h=>by
    exfalso
    rcases Nat.lt_or_ge k ops.size with hk|hk
    ·simp[hk]at h
    ·simp[Nat.not_lt.2 hk]at h) hv
   refine ko (wp_region_any hm ?_)
   rw[kT]at Dp
   exact xQ dG ops.size _ env σ.get a w.drew D ι (fun _=>False) Dp rJ.s9 rJ.used (fun _ h=>h.elim) rJ.env rJ.size fun ji g1 a1 w1 D1 ι1 U1 hk T S1 Tn E1 yp hd=>hQ .normal ji ⟨g1,σ.next+1⟩ a1 w1 D1 ι1 hk (T0.trans T) ⟨S1,Tn.next,E1,yp⟩ hd (Nat.le_succ _)
 |_=>
  intro vc h
  simp[jr]at h
def JU (tmps:Array Value):ResultVar->Sem Value
 | .tmp t=>pure (tmps.getD t undef)
 | .cell a t=>do loadVar t (<-asAddr (tmps.getD a undef))
theorem Ed (fn:Func) (tmps:Array Value):results fn tmps=(do
  let vs <-fn.results.mapM (JU tmps)
  pure (if h:vs.size=1 then vs[0]else .tuple vs)):=by
 unfold results
 congr 2
theorem tR {nt:Nat} {env:Env} {σ:aw} {a:Act} {D:Nat->Prop} {ι:Names} (dK:St P hs nt D ι env σ a w):∀(rs:List ResultVar) (vr:List nL) (vs:List AV),rs.mapM (C7 P)=some vr->fe env σ.get vr=some vs->
  ∃us:List Value,(rs.mapM (JU a.tmps)).run P w=.ok us w/\us.length=vs.length/\∀(j:Nat) (v:AV),vs[j]? =some v->∃u,us[j]? =some u/\cW P w D ι v u
 |[],vr,vs,h,hv=>by
  simp at h;subst h
  simp[fe]at hv;subst hv
  exact⟨[],by simp,rfl,fun j v h=>by simp at h⟩
 |r::rs,vr,vs,h,hv=>by
  simp only[List.mapM_cons,Option.bind_eq_bind,Option.bind_eq_some_iff]at h
  obtain⟨x,hx,vr',hr,h⟩:=h
  simp at h;subst h
  simp only[fe,Option.bind_eq_some_iff,Option.map_eq_some_iff]at hv
  obtain⟨v,vW,Vb,Rv,rfl⟩:=hv
  obtain⟨us,h1,h2,h3⟩:=tR dK rs vr' Vb hr Rv
  have one:∃u,(JU a.tmps r).run P w=.ok u w/\cW P w D ι v u:=by
   cases r with
   |tmp t=>
    simp[C7]at hx;subst hx
    simp[ig]at vW;subst vW
    exact⟨_,rfl,dK.env t⟩
   |cell b t=>
    simp only[C7,Option.bind_eq_bind,Option.bind_eq_some_iff,Option.pure_def,Option.some.injEq]at hx
    obtain⟨ag,uy,n,hn,rfl⟩:=hx
    simp only[ig]at vW
    have gN:=dK.env b
    unfold ld at vW
    split at vW
    ·rename_i j0 i' oo hb
     rw[hb]at gN
     obtain⟨B,he,hB,hk⟩:=iH gN
     simp only[Option.bind_eq_some_iff]at vW
     obtain⟨cs,dq,hp⟩:=vW
     obtain⟨B',r0,CE,dF,R,hi,fl,f,hf⟩:=JZ (S:=dK.s9) dq (fun B2 h2=>by rw[hB]at h2;injection h2 with h2;subst h2;exact hk)
     rw[hB]at dF;injection dF with dF;subst dF
     obtain⟨u,k1,k2⟩:=kI (w:=w) (b:=B.b) (oo:=i'*B.sz+oo) (f:=fun j=>f (oo+j)) uy hn hp (fun a ha=>fl a (List.mem_of_mem_drop ha)) (fun j hj=>by
      rw[Nat.add_assoc];exact(hf _ (by simp at hj;omega)).1) (fun j a ha=>by
      simp at ha;exact(hf _ ((List.getElem?_eq_some_iff.1 ha).1)).2 _ ha)
     exact⟨u,by simp only[JU,he,asAddr,Sem.run_bind,Sem.run_pure,Result.andThen_ok,k1],k2⟩
    ·rename_i cs hb
     rw[hb]at gN
     obtain⟨b',oo,vs2,he,q1,q2,q3,q4⟩:=k8 gN
     obtain⟨u,k1,k2⟩:=kI (w:=w) (b:=b') (oo:=oo) (f:=vs2) uy hn vW q2 q3 (fun j a ha=>.eQ _ _ (q4 j a ha))
     exact⟨u,by simp only[JU,he,asAddr,Sem.run_bind,Sem.run_pure,Result.andThen_ok,k1],k2⟩
    ·simp at vW
  obtain⟨u,hu,xD⟩:=one
  refine⟨u::us,?_,by simp[h2],fun j v' hj=>?_⟩
  ·rw[List.mapM_cons]
   simp only[Sem.run_bind,hu,h1,Result.andThen_ok,Sem.run_pure]
  ·cases j with
   |zero=>simp at hj;subst hj;exact⟨u,rfl,xD⟩
   |succ j=>simp at hj ⊢;exact h3 j v' hj
theorem uY {f:Nat} {fn:Func} {c:Code} {args:List AV} {σ:aw} {K:AV->aw->Prop} {vr:List nL} (P0:P.funcs[f]? =some fn) (hc:fn.body=some c) (hr:fn.results.toList.mapM (C7 P)=some vr) (ha:fn.params.size+fn.nfree=args.length) (hle:fn.params.size+fn.nfree<=fn.ntmps)
  (h:∀(hs:Nat) (w:World) (D:Nat->Prop) (ι:Names) (a:Act) (Q':Exit->Act->World->Prop),St P hs fn.ntmps D ι (bZ args) σ a w->tp P hs fn.ntmps a.defers (kH vr K) σ.next D ι w Q'->AE P c Q' a w):Sound P f args σ K:=by
 intro hs D ι w vs S Us A
 have ft:vs.size=args.length:=A.1
 refine zl P0 hc ?_
 refine h hs w D ι _ _ ⟨S,Us,fun t=>?_,by simp;omega⟩ fun ex ji σ1 a1 w1 D1 ι1 hq T kb hd hle=>?_
 ·simp only[bZ]
  by_cases dJ:t<args.length
  ·obtain⟨u,hu,xD⟩:=A.2 t args[t] (List.getElem?_eq_getElem dJ)
   have e1:args.getD t .undef=args[t]:=by simp[List.getD_eq_getElem?_getD,dJ]
   have e2:(vs++Array.replicate (fn.ntmps-vs.size) undef).getD t undef=u:=by
    simp only[Array.getD_eq_getD_getElem?]
    rw[Array.getElem?_append_left (by omega),hu];rfl
   rw[e1,e2];exact xD
  ·have e1:args.getD t .undef=.undef:=by simp[List.getD_eq_getElem?_getD,Nat.le_of_not_lt dJ]
   have e2:(vs++Array.replicate (fn.ntmps-vs.size) undef).getD t undef=undef:=by
    simp only[Array.getD_eq_getD_getElem?]
    rw[Array.getElem?_append_right (by omega),Array.getElem?_replicate]
    split<;>rfl
   rw[e1,e2];exact cW.undef
 ·have fin:(∃vs,fe ji σ1.get vr=some vs/\K (eL vs) σ1)->a1.defers=[]/\∃v,(results fn a1.tmps).run P w1=.ok v w1/\∃r g' n' D' ι' u,Ending.returned v=.returned u/\K r ⟨g',n'⟩/\Step hs D ι w D' ι' w1/\gw P hs D' ι' g' w1/\Used ι' n' (fun _=>False)/\σ.next<=n'/\cW P w1 D' ι' r u:=by
   rintro⟨avs,Rv,hK⟩
   obtain⟨us,h1,h2,h3⟩:=tR kb fn.results.toList vr avs hr Rv
   have OF:(results fn a1.tmps).run P w1=.ok (if h:us.toArray.size=1 then us.toArray[0]else .tuple us.toArray) w1:=by
    rw[Ed,Array.mapM_eq_mapM_toList]
    simp only[Sem.run_bind,Sem.run_map,h1,Result.andThen_ok,Sem.run_pure]
   refine⟨hd,_,OF,eL avs,σ1.get,σ1.next,D1,ι1,_,rfl,hK,T,kb.s9,kb.used,hle,?_⟩
   unfold eL
   split
   ·rename_i v
    have hl:us.length=1:=h2
    obtain⟨u,hu,xD⟩:=h3 0 v rfl
    rw[dif_pos (by simpa using hl)]
    have:us.toArray[0]'(by simp[hl])=u:=by
     have:=(List.getElem?_eq_some_iff.1 hu).2
     simpa using this
    rw[this];exact xD
   ·rename_i ik
    rw[dif_neg (by
     simp only[List.size_toArray,h2]
     intro h
     obtain⟨v,hv⟩:=List.length_eq_one_iff.1 h
     exact ik v hv)]
    exact .gy _ _ (fun j=>us.getD j undef) (by simp[h2]) (fun j hj=>by
     have:j<us.length:=by rw[h2];exact hj
     simp[this]) (fun j v hj=>by
     obtain⟨u,hu,xD⟩:=h3 j v hj
     simpa[List.getD_eq_getElem?_getD,hu]using xD)
  cases ex with
  |normal=>exact fin hq
  |ret=>exact fin hq
  |exit id=>exact hq.elim
theorem Ix (hm:P.follows .mixedOrders=true) {f:Nat} {md:List (Nat×Nat)} {vf:zd} {args:List AV} {σ:aw} {K:AV->aw->Prop} (hf:u9 P f md=some vf) (ha:vf.yJ=args.length) (h:dE (Sound P) vf.body (kH vf.res K) (bZ args) σ):Sound P f args σ K:=by
 unfold u9 at hf
 split at hf
 ·rename_i fn P0
  split at hf
  ·rename_i c hc
   simp only[Option.bind_eq_bind,Option.bind_eq_some_iff]at hf
   obtain⟨vb,hb,vr,hr,hf⟩:=hf
   split at hf
   ·rename_i hle
    simp only[Option.pure_def,Option.some.injEq]at hf
    subst hf
    simp only at ha h
    exact uY P0 hc hr ha hle fun hs w D ι a Q' dK hQ=>qn hm c vb hb (kH vr K) (bZ args) σ a w D ι Q' h dK hQ
   ·simp at hf
  ·simp at hf
 ·simp at hf
def Nj (P:Program) (X:fN):fN:=fun f args σ K=>(∃md vf,u9 P f md=some vf/\vf.yJ=args.length/\((∀a∈args,eE a)->dE X vf.body (kH vf.res K) (bZ args) σ))∨Sound P f args σ K
def Call (P:Program):fN:=fun f args σ K=>∀X:fN,p7 X->(∀f args σ K,Nj P X f args σ K->X f args σ K)->X f args σ K
theorem gq (hm:P.follows .mixedOrders=true) {f:Nat} {args:List AV} {σ:aw} {K:AV->aw->Prop} (h:Call P f args σ K):Sound P f args σ K:=
 h (Sound P) kN fun f args σ K hs=>by
  rcases hs with⟨md,vf,h1,h2,h3⟩|h
  ·intro hs D ι w vs S U A
   exact Ix hm h1 h2 (h3 (oU fun j a hj=>by obtain⟨u,_,hr⟩:=A.2 j a hj;exact hr.Jn)) hs D ι w vs S U A
  ·exact h
end
end Go.Proofs.YtgoljkjaameagaaGreat.V

namespace Go.Proofs.YtgoljkjaameagaaGreat.V
open Go.RowKit
variable {P:Program} {X Y:fN}
theorem HN (h:∀f args σ K,X f args σ K->Y f args σ K) {f:Nat} {args:List AV} {σ:aw} {K:AV->Prop} (hp:fS X f args σ K):fS Y f args σ K:=by
 rcases hp with hp|⟨a,h1,h2⟩
 ·exact .inl (h _ _ _ _ hp)
 ·exact .inr ⟨a,h1,h _ _ _ _ h2⟩
theorem KW (h:∀f args σ K,X f args σ K->Y f args σ K) {f:Nat} {args:List AV} {σ:aw} {sz:Nat} {rows:List (List AV)} (hp:CM X f args σ sz rows):CM Y f args σ sz rows:=by
 obtain⟨h1,a,h2,h3⟩:=hp
 exact⟨h1,a,h2,h _ _ _ _ h3⟩
theorem qk (h:∀f args σ K,X f args σ K->Y f args σ K) (hK:∀f args σ K K',(∀r σ',K r σ'->K' r σ')->Y f args σ K->Y f args σ K') {draw:Bool} {hid:List Nat} {site:Nat} {f:Nat} {args:List AV} {σ:aw} {n n':AV->aw->Prop} (hn:∀v σ',n v σ'->n' v σ') (hp:cw X draw hid site f args σ n):cw Y draw hid site f args σ n':=by
 rcases hp with⟨r,h1,h2⟩|⟨h1,h2⟩|⟨h1,sz,rows,h2,h3⟩
 ·exact .inl ⟨r,HN h h1,hn _ _ h2⟩
 ·exact .inr (.inl ⟨h1,hK _ _ _ _ _ hn (h _ _ _ _ h2)⟩)
 ·exact .inr (.inr ⟨h1,sz,rows,KW h h2,hn _ _ h3⟩)
theorem sb (h:∀f args σ K,X f args σ K->Y f args σ K) (hK:∀f args σ K K',(∀r σ',K r σ'->K' r σ')->Y f args σ K->Y f args σ K') {draw:Bool} {o:bh} {env:Env} {σ:aw} {n n':AV->aw->Prop} (hn:∀v σ',n v σ'->n' v σ') (hp:fq X draw o env σ n):fq Y draw o env σ n':=by
 unfold fq at hp ⊢
 split at hp
 ·exact qk h hK hn hp
 ·split at hp
  ·exact qk h hK hn hp
  ·exact qk h hK hn hp
  ·exact hp.elim
 ·split at hp
  ·exact hn _ _ hp
  ·exact hp.elim
 ·split at hp
  ·exact hn _ _ hp
  ·exact hp.elim
 ·split at hp
  ·exact hn _ _ hp
  ·exact hp.elim
 ·split at hp
  ·exact hn _ _ hp
  ·exact hp.elim
 ·split at hp
  ·exact hn _ _ hp
  ·exact hp.elim
 ·split at hp
  ·exact hn _ _ hp
  ·exact hn _ _ hp
  ·exact hp.elim
theorem lr (h:∀f args σ K,X f args σ K->Y f args σ K) (hK:∀f args σ K K',(∀r σ',K r σ'->K' r σ')->Y f args σ K->Y f args σ K') {draw:Bool} {Q Q':Env->aw->Prop} (hQ:∀e s,Q e s->Q' e s):∀(l:List bh) (env:Env) (σ:aw),wpOps X draw l Q env σ->wpOps Y draw l Q' env σ
 |[],env,σ,hp=>hQ _ _ hp
 |o::r,env,σ,hp=>by
  unfold wpOps at hp ⊢
  split at hp
  ·rename_i hw;rw[if_pos hw];exact sb h hK (fun v σ'=>lr h hK hQ r _ _) hp
  ·rename_i hw;rw[if_neg hw];exact lr h hK hQ r _ _ hp
theorem nA {Q Q':Env->aw->Prop} (hQ:∀e s,Q e s->Q' e s):∀(l:List bh) (env:Env) (σ:aw),cj l Q env σ->cj l Q' env σ
 |[],env,σ,hp=>hQ _ _ hp
 |o::r,env,σ,hp=>by
  unfold cj at hp ⊢
  refine⟨hp.1,?_⟩
  replace hp:=hp.2
  split at hp
  ·split at hp
   ·exact nA hQ r _ _ hp
   ·exact hp.elim
  ·split at hp
   ·exact nA hQ r _ _ hp
   ·exact hp.elim
  ·split at hp
   ·exact nA hQ r _ _ hp
   ·exact hp.elim
theorem jB (h:∀f args σ K,X f args σ K->Y f args σ K) (hK:∀f args σ K K',(∀r σ',K r σ'->K' r σ')->Y f args σ K->Y f args σ K'):∀(c:VC) (Q Q':Ex->Env->aw->Prop) (env:Env) (σ:aw),(∀x e s,Q x e s->Q' x e s)->dE X c Q env σ->dE Y c Q' env σ:=by
 intro c
 induction c with
 |skip=>intro Q Q' env σ hQ hp;exact hQ _ _ _ hp
 |exit id=>intro Q Q' env σ hQ hp;exact hQ _ _ _ hp
 |ret=>intro Q Q' env σ hQ hp;exact hQ _ _ _ hp
 |one o c ih=>
  intro Q Q' env σ hQ hp
  unfold dE at hp ⊢
  split at hp
  ·rename_i hw;rw[if_pos hw];exact sb h hK (fun v σ'=>ih Q Q' _ _ hQ) hp
  ·rename_i hw;rw[if_neg hw];exact ih Q Q' _ _ hQ hp
 |both a b iha ihb=>intro Q Q' env σ hQ hp;exact⟨iha Q Q' env σ hQ hp.1,ihb Q Q' env σ hQ hp.2⟩
 |loc t s y c ih=>intro Q Q' env σ hQ hp;exact⟨hp.1,ih Q Q' env σ hQ hp.2⟩
 |NN ops=>intro Q Q' env σ hQ hp;exact nA (hQ .normal) ops env σ hp
 |eD draw ops=>intro Q Q' env σ hQ hp;exact lr h hK (hQ .normal) ops env σ hp
 |seq a b iha ihb=>
  intro Q Q' env σ hQ hp
  refine iha _ _ env σ (fun x e s hx=>?_) hp
  cases x with
  |normal=>exact ihb Q Q' e s hQ hx
  |exit id=>exact hQ _ _ _ hx
  |ret=>exact hQ _ _ _ hx
 |cond c a b iha ihb=>
  intro Q Q' env σ hQ hp
  unfold dE at hp ⊢
  split at hp
  ·rename_i t ht
   cases t with
   |true=>exact iha Q Q' env σ hQ hp
   |false=>exact ihb Q Q' env σ hQ hp
  ·exact hp.elim
 |block id a iha=>
  intro Q Q' env σ hQ hp
  refine iha _ _ env σ (fun x e s hx=>?_) hp
  cases x with
  |normal=>exact hQ _ _ _ hx
  |ret=>exact hQ _ _ _ hx
  |exit j0=>
   unfold aX at hx ⊢
   dsimp only at hx ⊢
   split at hx
   ·rename_i hid;rw[if_pos hid];exact hQ _ _ _ hx
   ·rename_i hid;rw[if_neg hid];exact hQ _ _ _ hx
 |loop a iha=>
  intro Q Q' env σ hQ hp
  obtain⟨n,hp⟩:=hp
  refine⟨n,?_⟩
  induction n generalizing env σ with
  |zero=>exact hp
  |succ n ihn=>
   refine iha _ _ env σ (fun x e s hx=>?_) hp
   cases x with
   |normal=>exact ihn e s hx
   |exit id=>exact hQ _ _ _ hx
   |ret=>exact hQ _ _ _ hx
theorem bf:p7 (Call P):=fun _ _ _ _ _ hK h X hX hc=>hX _ _ _ _ _ hK (h X hX hc)
theorem xN {f:Nat} {args:List AV} {σ:aw} {K:AV->aw->Prop} (h:Nj P (Call P) f args σ K):Call P f args σ K:=by
 intro X hX hc
 refine hc _ _ _ _ ?_
 rcases h with⟨md,vf,h1,h2,h3⟩|h
 ·exact .inl ⟨md,vf,h1,h2,fun hl=>jB (fun f args σ K h=>h X hX hc) hX _ _ _ _ _ (fun _ _ _ h=>h) (h3 hl)⟩
 ·exact .inr h
theorem uN {f:Nat} {md:List (Nat×Nat)} {args:List AV} {σ:aw} {K:AV->aw->Prop} {vf:zd} (hf:u9 P f md=some vf) (ha:vf.yJ=args.length) (h:(∀a∈args,eE a)->dE (Call P) vf.body (kH vf.res K) (bZ args) σ):Call P f args σ K:=
 xN (.inl ⟨md,vf,hf,ha,h⟩)
theorem mu {f:Nat} {args:List AV} {σ:aw} {K:AV->aw->Prop} {vf:zd} (hf:mU P f=some vf) (ha:vf.yJ=args.length) (h:(∀a∈args,eE a)->dE (Call P) vf.body (kH vf.res K) (bZ args) σ):Call P f args σ K:=
 uN hf ha h
theorem gQ {f:Nat} {args:List AV} {σ:aw} {K:AV->aw->Prop} (h:Sound P f args σ K):Call P f args σ K:=xN (.inr h)
def l8 (P:Program) (f:Nat) (args:List AV) (r:AV):Prop:=∀σ,PC (Call P) f args σ (fun r'=>r'=r)
theorem l8.body {f:Nat} {args:List AV} {r:AV} {nt na:Nat} {body:VC} {res:List nL} (hf:mU P f=some ⟨nt,na,body,res⟩) (ha:na=args.length) (h:(∀a∈args,eE a)->∀σ:aw,dE (Call P) body (kH res fun r0 σ'=>∃r',fz σ'.get 6 r0=some r'/\r'=r) (bZ args) ⟨V.ro σ.get,σ.next⟩):l8 P f args r:=fun σ=>mu hf ha fun hl=>h hl σ
variable {Q:Ex->Env->aw->Prop} {K:Env->aw->Prop} {env:Env} {σ:aw}
theorem FI {a b:VC} (h:∀N:Env->aw->Prop,(∀e s,dE X b Q e s->N e s)->dE X a (de N Q) env σ):dE X (.seq a b) Q env σ:=h _ fun _ _ h=>h
theorem AA (h:Q .normal env σ):dE X .skip Q env σ:=h
theorem Ay {id:Nat} (h:Q (.exit id) env σ):dE X (.exit id) Q env σ:=h
theorem FH (h:Q .ret env σ):dE X .ret Q env σ:=h
theorem uJ {id:Nat} {c:VC} (h:dE X c (aX id Q) env σ):dE X (.block id c) Q env σ:=h
theorem FF {o:bh} {c:VC} (h:∀N:AV->aw->Prop,(∀v s,dE X c Q (upd env o.dst v) s->N v s)->if aH o.guard env then fq X false o env σ N else N .undef σ):dE X (.one o c) Q env σ:=by
 have:=h (fun v s=>dE X c Q (upd env o.dst v) s) fun _ _ h=>h
 unfold dE
 split
 ·rename_i hw;rw[if_pos hw]at this;exact this
 ·rename_i hw;rw[if_neg hw]at this;exact this
def ea (s n:Nat):AV->Prop
 | .own id 0 _=>id=⟨s,n⟩
 |_=>False
def ee (n:Nat):AV->Prop
 | .own id _ _=>¬id.bY=n
 |_=>True
theorem Az {t s:Nat} {y:O} {c:VC} (h1:ea s σ.next (env t)) (h2:ee σ.next (cX env y)) (h:dE X c Q env σ):dE X (.loc t s y c) Q env σ:=by
 refine⟨⟨?_,fun id o l he=>?_⟩,h⟩
 ·revert h1
  unfold ea
  split
  ·rename_i id l he;rintro rfl;exact⟨l,he⟩
  ·exact fun h=>h.elim
 ·rw[he]at h2;exact h2
theorem fb {a b:VC} (ha:dE X a Q env σ) (hb:dE X b Q env σ):dE X (.both a b) Q env σ:=⟨ha,hb⟩
theorem FG {draw:Bool} {ops:List bh} (h:∀N:Env->aw->Prop,(∀e s,Q .normal e s->N e s)->wpOps X draw ops N env σ):dE X (.eD draw ops) Q env σ:=h _ fun _ _ h=>h
theorem Kp {ops:List bh} (h:cj ops (Q .normal) env σ):dE X (.NN ops) Q env σ:=h
theorem Cx {draw:Bool} (h:K env ⟨σ.get,σ.next+1⟩):wpOps X draw [] K env σ:=h
theorem Pu {draw:Bool} {o:bh} {r:List bh} (h:∀N:AV->aw->Prop,(∀v s,wpOps X draw r K (upd env o.dst v) s->N v s)->if aH o.guard env then fq X draw o env σ N else N .undef σ):wpOps X draw (o::r) K env σ:=by
 have:=h (fun v s=>wpOps X draw r K (upd env o.dst v) s) fun _ _ h=>h
 unfold wpOps
 split
 ·rename_i hw;rw[if_pos hw]at this;exact this
 ·rename_i hw;rw[if_neg hw]at this;exact this
theorem Kq {c:O} {x y:VC} {b:Bool} (hc:cX env c=.bool b) (ht:b=true->dE X x Q env σ) (hf:b=false->dE X y Q env σ):dE X (.cond c x y) Q env σ:=by
 unfold dE
 simp only[hc]
 cases b with
 |true=>exact ht rfl
 |false=>exact hf rfl
inductive nZ:AV->Prop->Prop->Prop
 |t {A B:Prop}:A->nZ (.bool true) A B
 |f {A B:Prop}:B->nZ (.bool false) A B
theorem uK {c:O} {x y:VC} {v:AV} (hv:cX env c=v) (h:nZ v (dE X x Q env σ) (dE X y Q env σ)):dE X (.cond c x y) Q env σ:=by
 cases h with
 |t h=>exact Kq hv (fun _=>h) (fun e=>by cases e)
 |f h=>exact Kq hv (fun e=>by cases e) (fun _=>h)
theorem Pt {c:VC} (I:Nat->Env->aw->Prop) (n:Nat) (h0:I n env σ) (step:∀n env σ,I n env σ->dE X c (fun x e s=>match x with| .normal=>∃m,m<n/\I m e s|x=>Q x e s) env σ)
  (hX:∀(c:VC) (Q Q':Ex->Env->aw->Prop) env σ,(∀x e s,Q x e s->Q' x e s)->dE X c Q env σ->dE X c Q' env σ):dE X (.loop c) Q env σ:=by
 have key:∀N n env σ,n<N->I n env σ->Fq (dE X c) Q N env σ:=by
  intro N
  induction N with
  |zero=>intro n env σ h;exact absurd h (Nat.not_lt_zero _)
  |succ N ih=>
   intro n env σ hn hI
   refine hX c _ _ env σ (fun x e s hx=>?_) (step n env σ hI)
   cases x with
   |normal=>obtain⟨m,hm,TL⟩:=hx;exact ih m e s (by omega) TL
   |exit id=>exact hx
   |ret=>exact hx
 exact⟨n+1,key _ n env σ (Nat.lt_succ_self _) h0⟩
theorem Mt {c:VC} (I:Nat->Env->aw->Prop) (n:Nat) (h0:I n env σ) (step:∀n env σ,I n env σ->dE (Call P) c (fun x e s=>match x with| .normal=>∃m,m<n/\I m e s|x=>Q x e s) env σ):dE (Call P) (.loop c) Q env σ:=
 Pt I n h0 step fun c Q Q' env σ hQ h=>jB (fun _ _ _ _ h=>h) bf c Q Q' env σ hQ h
def xR:VC->List Nat
 | .eD _ ops=>ops.filterMap (·.dst)
 | .seq a b=>xR a++xR b
 | .cond _ a b=>xR a++xR b
 | .block _ a=>xR a
 | .loop a=>xR a
 | .one o c=>o.dst.toList++xR c
 | .both a b=>xR a++xR b
 | .loc _ _ _ c=>xR c
 | .NN ops=>ops.filterMap (·.dst)
 |_=>[]
def gF (l:List Nat) (env iO:Env):Prop:=∀t,l.contains t=false->iO t=env t
theorem gF.refl (l:List Nat) (env:Env):gF l env env:=fun _ _=>rfl
theorem gF.trans {l:List Nat} {e e' e'':Env} (h:gF l e e') (k:gF l e' e''):gF l e e'':=fun t ht=>(k t ht).trans (h t ht)
theorem gF.sub {l l':List Nat} {e e':Env} (h:gF l e e') (hs:∀t,t∈l->t∈l'):gF l' e e':=fun t ht=>h t (by
 rw[<-Bool.not_eq_true]at ht ⊢
 simp only[List.contains_iff_mem]at ht ⊢
 exact fun hc=>ht (hs t hc))
theorem gF.upd {l:List Nat} {e e':Env} {d:Option Nat} {v:AV} (h:gF l e e') (hd:∀t,d=some t->t∈l):gF l e (upd e' d v):=fun t ht=>by
 cases d with
 |none=>exact h t ht
 |some d=>
  have:t≠d:=fun hc=>by subst hc;rw[<-Bool.not_eq_true,List.contains_iff_mem]at ht;exact ht (hd _ rfl)
  show(if t=d then v else e' t)=e t
  rw[if_neg this];exact h t ht
theorem pe {draw:Bool} {Q:Env->aw->Prop} {l:List Nat} {e0:Env}:∀(ops:List bh) (env:Env) (σ:aw),(∀t,t∈ops.filterMap (·.dst)->t∈l)->gF l e0 env->wpOps (Call P) draw ops Q env σ->wpOps (Call P) draw ops (fun e s=>Q e s/\gF l e0 e) env σ
 |[],env,σ,_,hk,hp=>⟨hp,hk⟩
 |o::r,env,σ,hl,hk,hp=>by
  have hd:∀t,o.dst=some t->t∈l:=fun t ht=>hl t (List.mem_filterMap.2 ⟨o,by simp,ht⟩)
  have hr:∀t,t∈r.filterMap (·.dst)->t∈l:=fun t ht=>hl t (by
   obtain⟨x,hx,h⟩:=List.mem_filterMap.1 ht
   exact List.mem_filterMap.2 ⟨x,List.mem_cons_of_mem _ hx,h⟩)
  unfold wpOps at hp ⊢
  split at hp
  ·rename_i hw;rw[if_pos hw]
   exact sb (fun _ _ _ _ h=>h) bf (fun v σ' h=>pe r _ _ hr (hk.upd hd) h) hp
  ·rename_i hw;rw[if_neg hw];exact pe r _ _ hr (hk.upd hd) hp
theorem l5 {Q:Env->aw->Prop} {l:List Nat} {e0:Env}:∀(ops:List bh) (env:Env) (σ:aw),(∀t,t∈ops.filterMap (·.dst)->t∈l)->gF l e0 env->cj ops Q env σ->cj ops (fun e s=>Q e s/\gF l e0 e) env σ
 |[],env,σ,_,hk,hp=>⟨hp,hk⟩
 |o::r,env,σ,hl,hk,hp=>by
  have hd:∀t,o.dst=some t->t∈l:=fun t ht=>hl t (List.mem_filterMap.2 ⟨o,by simp,ht⟩)
  have hr:∀t,t∈r.filterMap (·.dst)->t∈l:=fun t ht=>hl t (by
   obtain⟨x,hx,h⟩:=List.mem_filterMap.1 ht
   exact List.mem_filterMap.2 ⟨x,List.mem_cons_of_mem _ hx,h⟩)
  unfold cj at hp ⊢
  refine⟨hp.1,?_⟩
  replace hp:=hp.2
  split at hp
  ·split at hp
   ·exact l5 r _ _ hr (hk.upd hd) hp
   ·exact hp.elim
  ·split at hp
   ·exact l5 r _ _ hr (hk.upd hd) hp
   ·exact hp.elim
  ·split at hp
   ·exact l5 r _ _ hr (hk.upd hd) hp
   ·exact hp.elim
theorem y6 {l:List Nat} {e0:Env}:∀(c:VC) (Q:Ex->Env->aw->Prop) (env:Env) (σ:aw),(∀t,t∈xR c->t∈l)->gF l e0 env->dE (Call P) c Q env σ->dE (Call P) c (fun x e s=>Q x e s/\gF l e0 e) env σ:=by
 intro c
 induction c with
 |skip=>intro Q env σ _ hk hp;exact⟨hp,hk⟩
 |exit id=>intro Q env σ _ hk hp;exact⟨hp,hk⟩
 |ret=>intro Q env σ _ hk hp;exact⟨hp,hk⟩
 |one o c ih=>
  intro Q env σ hl hk hp
  have hd:∀t,o.dst=some t->t∈l:=fun t ht=>hl t (List.mem_append_left _ (by rw[ht];simp))
  have hr:∀t,t∈xR c->t∈l:=fun t ht=>hl t (List.mem_append_right _ ht)
  unfold dE at hp ⊢
  split at hp
  ·rename_i hw;rw[if_pos hw]
   exact sb (fun _ _ _ _ h=>h) bf (fun v σ' h=>ih Q _ _ hr (hk.upd hd) h) hp
  ·rename_i hw;rw[if_neg hw];exact ih Q _ _ hr (hk.upd hd) hp
 |both a b iha ihb=>
  intro Q env σ hl hk hp
  exact⟨iha Q env σ (fun t ht=>hl t (List.mem_append_left _ ht)) hk hp.1,ihb Q env σ (fun t ht=>hl t (List.mem_append_right _ ht)) hk hp.2⟩
 |loc t s y c ih=>intro Q env σ hl hk hp;exact⟨hp.1,ih Q env σ hl hk hp.2⟩
 |NN ops=>intro Q env σ hl hk hp;exact l5 ops env σ hl hk hp
 |eD draw ops=>intro Q env σ hl hk hp;exact pe ops env σ hl hk hp
 |seq a b iha ihb=>
  intro Q env σ hl hk hp
  refine jB (fun _ _ _ _ h=>h) bf a _ _ env σ (fun x e s hx=>?_) (iha _ env σ (fun t ht=>hl t (List.mem_append_left _ ht)) hk hp)
  cases x with
  |normal=>exact ihb Q e s (fun t ht=>hl t (List.mem_append_right _ ht)) hx.2 hx.1
  |exit id=>exact hx
  |ret=>exact hx
 |cond c a b iha ihb=>
  intro Q env σ hl hk hp
  unfold dE at hp ⊢
  split at hp
  ·rename_i t ht
   cases t with
   |true=>exact iha Q env σ (fun t ht=>hl t (List.mem_append_left _ ht)) hk hp
   |false=>exact ihb Q env σ (fun t ht=>hl t (List.mem_append_right _ ht)) hk hp
  ·exact hp.elim
 |block id a iha=>
  intro Q env σ hl hk hp
  refine jB (fun _ _ _ _ h=>h) bf a _ _ env σ (fun x e s hx=>?_) (iha _ env σ hl hk hp)
  obtain⟨hx,CH⟩:=hx
  cases x with
  |normal=>exact⟨hx,CH⟩
  |ret=>exact⟨hx,CH⟩
  |exit j0=>
   unfold aX at hx ⊢
   dsimp only at hx ⊢
   split at hx
   ·rename_i hid;rw[if_pos hid];exact⟨hx,CH⟩
   ·rename_i hid;rw[if_neg hid];exact⟨hx,CH⟩
 |loop a iha=>
  intro Q env σ hl hk hp
  obtain⟨n,hp⟩:=hp
  refine⟨n,?_⟩
  induction n generalizing env σ with
  |zero=>exact hp
  |succ n ihn=>
   refine jB (fun _ _ _ _ h=>h) bf _ _ _ _ _ (fun x e s hx=>?_) (iha _ env σ hl hk hp)
   obtain⟨hx,CH⟩:=hx
   cases x with
   |normal=>exact ihn e s CH hx
   |exit id=>exact⟨hx,CH⟩
   |ret=>exact⟨hx,CH⟩
theorem aZ {c:VC} (I:Nat->Env->aw->Prop) (n:Nat) (h0:I n env σ) (step:∀n e s,I n e s->gF (xR c) env e->dE (Call P) c (fun x e s=>match x with| .normal=>∃m,m<n/\I m e s|x=>Q x e s) e s):dE (Call P) (.loop c) Q env σ:=by
 refine Mt (fun n e s=>I n e s/\gF (xR c) env e) n ⟨h0,gF.refl _ _⟩ fun n e s hI=>?_
 refine jB (fun _ _ _ _ h=>h) bf _ _ _ _ _ (fun x e' s' hx=>?_) (y6 c _ e s (fun _ h=>h) hI.2 (step n e s hI.1 hI.2))
 obtain⟨hx,hk⟩:=hx
 cases x with
 |normal=>obtain⟨m,hm,h⟩:=hx;exact⟨m,hm,h,hk⟩
 |exit id=>exact hx
 |ret=>exact hx
theorem Kv {k:Nat} (h:k<=9223372036854775807):IntKind.i64.wrap (k:Int)=k:=by rw[IntKind.wrap_i64];omega
theorem bU {z:Int} (h: -9223372036854775808<=z/\z<=9223372036854775807):IntKind.i64.wrap z=z:=by rw[IntKind.wrap_i64];omega
theorem az {k:Nat} (h:(k:Int)+1<=9223372036854775807):IntKind.i64.wrap ((k:Int)+1)=((k+1:Nat):Int):=by rw[IntKind.wrap_i64];omega
theorem all_succ {k:Nat} {p:Nat->Prop} (h:∀j,j<k->p j) (hk:p k):∀j,j<k+1->p j:=fun j hj=>by
 by_cases yi:j=k
 ·subst yi;exact hk
 ·exact h j (by omega)
theorem aF (g:Rows) (n:Nat) (k:IntKind) (m:Int):fz g (n+1) (.int k m)=some (.int k m):=by rw[fz]<;>intros<;>simp_all
theorem aY (g:Rows) (n:Nat) (b:Bool):fz g (n+1) (.bool b)=some (.bool b):=by rw[fz]<;>intros<;>simp_all
theorem bp (g:Rows) (n:Nat) (b:ByteArray):fz g (n+1) (.str b)=some (.str b):=by rw[fz]<;>intros<;>simp_all
theorem bK (g:Rows) (n:Nat) (l:List (List AV)):fz g (n+1) (.sl l)=some (.sl l):=by rw[fz]<;>intros<;>simp_all
theorem aP (g:Rows) (n:Nat):fz g (n+1) .cm=some .cm:=by rw[fz]<;>intros<;>simp_all
theorem RT {t:Nat} {r r0:AV} {x:Ex} (hx:x=.ret∨x=.normal) (he:env t=r0) (hz:fz σ.get 6 r0=some r):kH [.tmp t] (fun r0 σ'=>∃r',fz σ'.get 6 r0=some r'/\r'=r) x env σ:=by
 have:∃vs,fe env σ.get [.tmp t]=some vs/\∃r',fz σ.get 6 (eL vs)=some r'/\r'=r:=⟨[env t],rfl,r,by subst he;exact hz,rfl⟩
 rcases hx with rfl|rfl
 ·exact this
 ·exact this
def aj (P:Program) (f:Nat) (args:List AV) (r:AV):Prop:=∀n:Nat,Call P f args ⟨fun _=>none,n⟩ fun r0 σ'=>∃r',gD σ'.get 6 r0=some r'/\r'=r
theorem aj.body {f:Nat} {args:List AV} {r:AV} {nt na:Nat} {body:VC} {res:List nL} (hf:mU P f=some ⟨nt,na,body,res⟩) (ha:na=args.length) (h:(∀a∈args,eE a)->∀n:Nat,dE (Call P) body (kH res fun r0 σ'=>∃r',gD σ'.get 6 r0=some r'/\r'=r) (bZ args) ⟨fun _=>none,n⟩):aj P f args r:=fun n=>mu hf ha fun hl=>h hl n
theorem aj.x {f:Nat} {args eC:List AV} {r:AV} (h:aj P f eC r) {σ:aw} (hv:dc (dD σ.get) 6 args=some eC):fS (Call P) f args σ (fun r'=>r'=r):=.inr ⟨eC,hv,h _⟩
theorem l8.x {f:Nat} {args:List AV} {r:AV} (h:l8 P f args r) (σ:aw):fS (Call P) f args σ (fun r'=>r'=r):=.inl (h σ)
theorem dr (g:Rows) (n:Nat) (k:IntKind) (m:Int):gD g (n+1) (.int k m)=some (.int k m):=by rw[gD]<;>intros<;>simp_all
theorem eM (g:Rows) (n:Nat) (b:Bool):gD g (n+1) (.bool b)=some (.bool b):=by rw[gD]<;>intros<;>simp_all
theorem jt (g:Rows) (n:Nat):gD g (n+1) .cm=some .cm:=by rw[gD]<;>intros<;>simp_all
theorem dt (g:Rows) (n:Nat) (l:List AV):gD g (n+1) (.gy l)=(eA g n l).map AV.gy:=by rw[gD]
theorem E5 (g:Rows) (n:Nat) (l:List AV):gD g (n+1) (.agg l)=(eA g n l).map AV.agg:=by rw[gD]
theorem rC {g:Rows} {n:Nat} {id:Id} {off len sz:Nat} {rows rows':List (List AV)} (h:g id=some ⟨true,sz,rows⟩) (hl:off+len<=rows.length) (hr:iu g n ((rows.drop off).take len)=some rows'):gD g (n+1) (.own id off len)=some (.sl rows'):=by
 rw[gD];simp only[h,if_true,if_pos hl,hr,Option.map_some]
theorem bd (g:Rows) (n:Nat):eA g n []=some []:=by rw[eA]
theorem aS (g:Rows) (n:Nat) (a:AV) (l:List AV):eA g n (a::l)=match gD g n a with
  |some b=>(eA g n l).map (b::·)
  |none=>none:=by rw[eA];cases gD g n a<;>rfl
theorem tD {g:Rows} {n:Nat}:∀{l:List (List AV)},(∀c∈l,eA g n c=some c)->iu g n l=some l
 |[],_=>by rw[iu]
 |c::r,h=>by rw[iu,h c (by simp),tD fun d hd=>h d (List.mem_cons_of_mem _ hd)];rfl
theorem bc (g:Rows) (n:Nat) (l:List AV):fz g (n+1) (.agg l)=(dc g n l).map AV.agg:=by rw[fz]
theorem aN (g:Rows) (n:Nat) (l:List AV):fz g (n+1) (.cR l)=some (.cR l):=by rw[fz]<;>intros<;>simp_all
theorem sH {g:Rows} {n:Nat} {id:Id} {i off sz:Nat} {rows:List (List AV)} {cs pS:List AV} (h:g id=some ⟨true,sz,rows⟩) (hi:rows[i]? =some cs) (hr:dc g n (cs.drop off)=some pS):fz g (n+1) (.ptr id i off)=some (.cR pS):=by
 rw[fz];simp only[h,if_true,hi,hr,Option.map_some]
theorem aq (g:Rows) (n:Nat):dc g n []=some []:=by rw[dc]
theorem ah (g:Rows) (n:Nat) (a:AV) (l:List AV):dc g n (a::l)=match fz g n a with
  |some b=>(dc g n l).map (b::·)
  |none=>none:=by rw[dc];cases fz g n a<;>rfl
theorem wM {t:Nat} {r r0:AV} {x:Ex} (hx:x=.ret∨x=.normal) (he:env t=r0) (hz:gD σ.get 6 r0=some r):kH [.tmp t] (fun r0 σ'=>∃r',gD σ'.get 6 r0=some r'/\r'=r) x env σ:=by
 have:∃vs,fe env σ.get [.tmp t]=some vs/\∃r',gD σ.get 6 (eL vs)=some r'/\r'=r:=⟨[env t],rfl,r,by subst he;exact hz,rfl⟩
 rcases hx with rfl|rfl
 ·exact this
 ·exact this
theorem aM {t:Nat} {b c:Bool} {x:Ex} (hx:x=.ret∨x=.normal) (he:env t=.bool b) (hb:b=c):kH [.tmp t] (fun r0 σ'=>∃r',gD σ'.get 6 r0=some r'/\r'=.bool c) x env σ:=wM hx he (by rw[eM,hb])
theorem bQ {t:Nat} {k:IntKind} {b c:Int} {x:Ex} (hx:x=.ret∨x=.normal) (he:env t=.int k b) (hb:b=c):kH [.tmp t] (fun r0 σ'=>∃r',gD σ'.get 6 r0=some r'/\r'=.int k c) x env σ:=wM hx he (by rw[dr,hb])
theorem iW {t u:Nat} {r r1 r2:AV} {x:Ex} (hx:x=.ret∨x=.normal) (h1:env t=r1) (h2:env u=r2) (hz:gD σ.get 6 (.gy [r1,r2])=some r):kH [.tmp t,.tmp u] (fun r0 σ'=>∃r',gD σ'.get 6 r0=some r'/\r'=r) x env σ:=by
 have:∃vs,fe env σ.get [.tmp t,.tmp u]=some vs/\∃r',gD σ.get 6 (eL vs)=some r'/\r'=r:=⟨[env t,env u],rfl,r,by subst h1;subst h2;exact hz,rfl⟩
 rcases hx with rfl|rfl
 ·exact this
 ·exact this
structure Pn (p:Prop):Prop where
 out:p
theorem tw {A B:Prop} (a:A) (b:B):A/\B:=⟨a,b⟩
theorem wk {A R G:Prop} (a:A) (r:R) (h:A->R->G:=by
  intro fL kk
  (repeat(refine Pn.mk ?_;intro N hN))
  (first|((first|apply FI|apply FG);intro N hN)|((first|(apply Pu;intro N hN)|(apply FF;intro N hN));simp only[go_sem, ↓reduceIte,Nat.reduceEqDiff,Nat.reduceAdd,Nat.reduceSub,Nat.reduceMul,Nat.reduceLeDiff,Nat.reduceBEq,reduceCtorEq,Nat.reduceLT,Int.reduceLE,Int.reduceLT,Int.reduceToNat,Int.reduceNeg,Int.reduceAdd,Int.reduceEq,fL];first|(refine hN _ _ ?_;clear hN N)|skip)|(apply uK;(simp only[go_sem, ↓reduceIte,Nat.reduceEqDiff,Nat.reduceAdd,Nat.reduceSub,Nat.reduceMul,Nat.reduceLeDiff,Nat.reduceBEq,reduceCtorEq,Nat.reduceLT,Int.reduceLE,Int.reduceLT,Int.reduceToNat,Int.reduceNeg,Int.reduceAdd,Int.reduceEq,fL];rfl);first|with_reducible apply nZ.t|with_reducible apply nZ.f)|(apply Cx;refine hN _ _ ?_;clear hN N;try(simp only[de,aX, ↓reduceIte,Nat.reduceEqDiff]);try(refine hN _ _ ?_;clear hN N))|apply uJ|(refine Az ?_ ?_ ?_;(focus(simp only[go_sem, ↓reduceIte,Nat.reduceEqDiff,Nat.reduceAdd,Nat.reduceSub,Nat.reduceMul,Nat.reduceLeDiff,Nat.reduceBEq,reduceCtorEq,Nat.reduceLT,Int.reduceLE,Int.reduceLT,Int.reduceToNat,Int.reduceNeg,Int.reduceAdd,Int.reduceEq,fL];done));(focus(simp only[go_sem, ↓reduceIte,Nat.reduceEqDiff,Nat.reduceAdd,Nat.reduceSub,Nat.reduceMul,Nat.reduceLeDiff,Nat.reduceBEq,reduceCtorEq,Nat.reduceLT,Int.reduceLE,Int.reduceLT,Int.reduceToNat,Int.reduceNeg,Int.reduceAdd,Int.reduceEq,fL];done)))|((first|apply AA|apply Ay|apply FH);try(simp only[de,aX, ↓reduceIte,Nat.reduceEqDiff]);try(refine hN _ _ ?_;clear hN N))|((first|refine hN _ _ ?_|(clear hN N;first|refine hN _ _ ?_|(clear hN N;first|refine hN _ _ ?_|(clear hN N;first|refine hN _ _ ?_|(clear hN N;refine hN _ _ ?_)))));clear hN N))
  (repeat(first|((first|apply FI|apply FG);intro N hN)|((first|(apply Pu;intro N hN)|(apply FF;intro N hN));simp only[go_sem, ↓reduceIte,Nat.reduceEqDiff,Nat.reduceAdd,Nat.reduceSub,Nat.reduceMul,Nat.reduceLeDiff,Nat.reduceBEq,reduceCtorEq,Nat.reduceLT,Int.reduceLE,Int.reduceLT,Int.reduceToNat,Int.reduceNeg,Int.reduceAdd,Int.reduceEq,fL];first|(refine hN _ _ ?_;clear hN N)|skip)|(apply uK;(simp only[go_sem, ↓reduceIte,Nat.reduceEqDiff,Nat.reduceAdd,Nat.reduceSub,Nat.reduceMul,Nat.reduceLeDiff,Nat.reduceBEq,reduceCtorEq,Nat.reduceLT,Int.reduceLE,Int.reduceLT,Int.reduceToNat,Int.reduceNeg,Int.reduceAdd,Int.reduceEq,fL];rfl);first|with_reducible apply nZ.t|with_reducible apply nZ.f)|(apply Cx;refine hN _ _ ?_;clear hN N;try(simp only[de,aX, ↓reduceIte,Nat.reduceEqDiff]);try(refine hN _ _ ?_;clear hN N))|apply uJ|(refine Az ?_ ?_ ?_;(focus(simp only[go_sem, ↓reduceIte,Nat.reduceEqDiff,Nat.reduceAdd,Nat.reduceSub,Nat.reduceMul,Nat.reduceLeDiff,Nat.reduceBEq,reduceCtorEq,Nat.reduceLT,Int.reduceLE,Int.reduceLT,Int.reduceToNat,Int.reduceNeg,Int.reduceAdd,Int.reduceEq,fL];done));(focus(simp only[go_sem, ↓reduceIte,Nat.reduceEqDiff,Nat.reduceAdd,Nat.reduceSub,Nat.reduceMul,Nat.reduceLeDiff,Nat.reduceBEq,reduceCtorEq,Nat.reduceLT,Int.reduceLE,Int.reduceLT,Int.reduceToNat,Int.reduceNeg,Int.reduceAdd,Int.reduceEq,fL];done)))|((first|apply AA|apply Ay|apply FH);try(simp only[de,aX, ↓reduceIte,Nat.reduceEqDiff]);try(refine hN _ _ ?_;clear hN N))|((first|refine hN _ _ ?_|(clear hN N;first|refine hN _ _ ?_|(clear hN N;first|refine hN _ _ ?_|(clear hN N;first|refine hN _ _ ?_|(clear hN N;refine hN _ _ ?_)))));clear hN N)))
  (repeat(revert hN;revert N;apply Pn.out))
  exact kk):G:=h a r
theorem wa {A R G:Prop} (a:A) (r:R) (h:A->R->G:=by
  intro fL kk
  (repeat(refine Pn.mk ?_;intro N hN))
  (first|((first|apply FI|apply FG);intro N hN)|((first|(refine Np rfl fun N hN=>?_)|(apply FF;intro N hN));simp only[go_sem, ↓reduceIte,Nat.reduceEqDiff,Nat.reduceAdd,Nat.reduceSub,Nat.reduceMul,Nat.reduceLeDiff,Nat.reduceBEq,reduceCtorEq,Nat.reduceLT,Int.reduceLE,Int.reduceLT,Int.reduceToNat,Int.reduceNeg,Int.reduceAdd,Int.reduceEq,fL];first|(refine hN _ _ ?_;clear hN N)|skip)|(apply uK;(simp only[go_sem, ↓reduceIte,Nat.reduceEqDiff,Nat.reduceAdd,Nat.reduceSub,Nat.reduceMul,Nat.reduceLeDiff,Nat.reduceBEq,reduceCtorEq,Nat.reduceLT,Int.reduceLE,Int.reduceLT,Int.reduceToNat,Int.reduceNeg,Int.reduceAdd,Int.reduceEq,fL];rfl);first|with_reducible apply nZ.t|with_reducible apply nZ.f)|(apply Cx;refine hN _ _ ?_;clear hN N;try(simp only[de,aX, ↓reduceIte,Nat.reduceEqDiff]);try(refine hN _ _ ?_;clear hN N))|apply uJ|(refine Az ?_ ?_ ?_;(focus(simp only[go_sem, ↓reduceIte,Nat.reduceEqDiff,Nat.reduceAdd,Nat.reduceSub,Nat.reduceMul,Nat.reduceLeDiff,Nat.reduceBEq,reduceCtorEq,Nat.reduceLT,Int.reduceLE,Int.reduceLT,Int.reduceToNat,Int.reduceNeg,Int.reduceAdd,Int.reduceEq,fL];done));(focus(simp only[go_sem, ↓reduceIte,Nat.reduceEqDiff,Nat.reduceAdd,Nat.reduceSub,Nat.reduceMul,Nat.reduceLeDiff,Nat.reduceBEq,reduceCtorEq,Nat.reduceLT,Int.reduceLE,Int.reduceLT,Int.reduceToNat,Int.reduceNeg,Int.reduceAdd,Int.reduceEq,fL];done)))|((first|apply AA|apply Ay|apply FH);try(simp only[de,aX, ↓reduceIte,Nat.reduceEqDiff]);try(refine hN _ _ ?_;clear hN N))|((first|refine hN _ _ ?_|(clear hN N;first|refine hN _ _ ?_|(clear hN N;first|refine hN _ _ ?_|(clear hN N;first|refine hN _ _ ?_|(clear hN N;refine hN _ _ ?_)))));clear hN N))
  (repeat(first|((first|apply FI|apply FG);intro N hN)|((first|(refine Np rfl fun N hN=>?_)|(apply FF;intro N hN));simp only[go_sem, ↓reduceIte,Nat.reduceEqDiff,Nat.reduceAdd,Nat.reduceSub,Nat.reduceMul,Nat.reduceLeDiff,Nat.reduceBEq,reduceCtorEq,Nat.reduceLT,Int.reduceLE,Int.reduceLT,Int.reduceToNat,Int.reduceNeg,Int.reduceAdd,Int.reduceEq,fL];first|(refine hN _ _ ?_;clear hN N)|skip)|(apply uK;(simp only[go_sem, ↓reduceIte,Nat.reduceEqDiff,Nat.reduceAdd,Nat.reduceSub,Nat.reduceMul,Nat.reduceLeDiff,Nat.reduceBEq,reduceCtorEq,Nat.reduceLT,Int.reduceLE,Int.reduceLT,Int.reduceToNat,Int.reduceNeg,Int.reduceAdd,Int.reduceEq,fL];rfl);first|with_reducible apply nZ.t|with_reducible apply nZ.f)|(apply Cx;refine hN _ _ ?_;clear hN N;try(simp only[de,aX, ↓reduceIte,Nat.reduceEqDiff]);try(refine hN _ _ ?_;clear hN N))|apply uJ|(refine Az ?_ ?_ ?_;(focus(simp only[go_sem, ↓reduceIte,Nat.reduceEqDiff,Nat.reduceAdd,Nat.reduceSub,Nat.reduceMul,Nat.reduceLeDiff,Nat.reduceBEq,reduceCtorEq,Nat.reduceLT,Int.reduceLE,Int.reduceLT,Int.reduceToNat,Int.reduceNeg,Int.reduceAdd,Int.reduceEq,fL];done));(focus(simp only[go_sem, ↓reduceIte,Nat.reduceEqDiff,Nat.reduceAdd,Nat.reduceSub,Nat.reduceMul,Nat.reduceLeDiff,Nat.reduceBEq,reduceCtorEq,Nat.reduceLT,Int.reduceLE,Int.reduceLT,Int.reduceToNat,Int.reduceNeg,Int.reduceAdd,Int.reduceEq,fL];done)))|((first|apply AA|apply Ay|apply FH);try(simp only[de,aX, ↓reduceIte,Nat.reduceEqDiff]);try(refine hN _ _ ?_;clear hN N))|((first|refine hN _ _ ?_|(clear hN N;first|refine hN _ _ ?_|(clear hN N;first|refine hN _ _ ?_|(clear hN N;first|refine hN _ _ ?_|(clear hN N;refine hN _ _ ?_)))));clear hN N)))
  (repeat(revert hN;revert N;apply Pn.out))
  exact kk):G:=h a r
theorem sd {A G:Prop} (a:A) (h:A->G:=by
  intro fL
  first|(simp only[go_sem, ↓reduceIte,Nat.reduceEqDiff,Nat.reduceAdd,Nat.reduceSub,Nat.reduceMul,Nat.reduceLeDiff,Nat.reduceBEq,reduceCtorEq,Nat.reduceLT,Int.reduceLE,Int.reduceLT,Int.reduceToNat,Int.reduceNeg,Int.reduceAdd,Int.reduceEq,fL,fe,ig];done)|fail):G:=h a
theorem sl {A G:Prop} (a:A) (h:A->G:=by
  intro fL
  (try simp only[go_sem, ↓reduceIte,Nat.reduceEqDiff,Nat.reduceAdd,Nat.reduceSub,Nat.reduceMul,Nat.reduceLeDiff,Nat.reduceBEq,reduceCtorEq,Nat.reduceLT,Int.reduceLE,Int.reduceLT,Int.reduceToNat,Int.reduceNeg,Int.reduceAdd,Int.reduceEq,fL])
  try rfl):G:=h a
end Go.Proofs.YtgoljkjaameagaaGreat.V

namespace Go.Proofs.YtgoljkjaameagaaGreat
open Go.RowKit
def Sl (w:World) (fp:List Nat) (v:Value) (n:Nat) (xs:List Value):Prop:=
 ∃A c,v=.slice A n c/\n<=c/\c<=maxLen/\
  ((fp=[]/\n=0)∨∃b o,fp=[b]/\A=some ⟨b,o,none⟩/\∀j u,xs[j]? =some u->w.cell? ⟨b,o+j,none⟩=some u)
def e9 (fp:List Nat) (lo hi:Nat):Prop:=∀b∈fp,lo<=b/\b<hi
theorem e9.nil (lo hi:Nat):e9 [] lo hi:=fun _ h=>by cases h
theorem Sl.nil (w:World):Sl w [] (.slice none 0 0) 0 []:=⟨none,0,rfl,Nat.le_refl _,by simp[maxLen],.inl ⟨rfl,rfl⟩⟩
def Nx {α:Type} (rep:World->List Nat->List Value->α->Prop) (sz:Nat) (w:World) (ow:List (List Value)) (EX:List (List Nat)) (ds:List α):Prop:=
 ow.length=ds.length/\EX.length=ds.length/\∀(i:Nat) (cs:List Value) (f:List Nat) (d:α),ow[i]? =some cs->EX[i]? =some f->ds[i]? =some d->rep w f cs d/\cs.length=sz
def lv {α:Type} (rep:World->List Nat->List Value->α->Prop) (sz:Nat) (w:World) (fp:List Nat) (v:Value) (ds:List α):Prop:=
 ∃ow EX Ty,fp=Ty++EX.flatten/\Sl w Ty v ds.length ow.flatten/\Nx rep sz w ow EX ds
theorem qJ {α:Type} {EX:List (List α)} {i:Nat} {f:List α} (h:EX[i]? =some f):∀b∈f,b∈EX.flatten:=fun b hb=>
 List.mem_flatten.2 ⟨f,List.mem_of_getElem? h,hb⟩
theorem tC {α:Type} {ow:List (List α)} {sz:Nat} (h:∀cs∈ow,cs.length=sz) {i j:Nat} {cs:List α} (hi:ow[i]? =some cs) (hj:j<sz):ow.flatten[i*sz+j]? =cs[j]? :=by
 induction ow generalizing i with
 |nil=>simp at hi
 |cons c r ih=>
  have hc:c.length=sz:=h c (by simp)
  cases i with
  |zero=>
   simp at hi;subst hi
   rw[List.flatten_cons,List.getElem?_append_left (by omega)];simp
  |succ i=>
   rw[List.flatten_cons,List.getElem?_append_right (by rw[hc,Nat.succ_mul];omega)]
   have:(i+1)*sz+j-c.length=i*sz+j:=by rw[hc,Nat.succ_mul];omega
   rw[this]
   exact ih (fun cs dq=>h cs (List.mem_cons_of_mem _ dq)) (by simpa using hi)
theorem Nx.lens {α:Type} {rep:World->List Nat->List Value->α->Prop} {sz:Nat} {w:World} {ow:List (List Value)} {EX:List (List Nat)} {ds:List α}
  (h:Nx rep sz w ow EX ds):∀cs∈ow,cs.length=sz:=fun cs dq=>by
 obtain⟨i,hi,rfl⟩:=List.getElem_of_mem dq
 have h1:i<EX.length:=by rw[h.2.1,<-h.1];exact hi
 have h2:i<ds.length:=by rw[<-h.1];exact hi
 exact(h.2.2 i _ _ _ (List.getElem?_eq_getElem hi) (List.getElem?_eq_getElem h1) (List.getElem?_eq_getElem h2)).2
theorem lv.at_ {α:Type} {rep:World->List Nat->List Value->α->Prop} {sz:Nat} {w:World} {fp:List Nat} {A:Option Addr} {n c:Nat} {ds:List α}
  (h:lv rep sz w fp (.slice A n c) ds) (k:Nat) (hk:k<ds.length):
  ∃b o cs f,A=some ⟨b,o,none⟩/\b∈fp/\(∀x∈f,x∈fp)/\rep w f cs ds[k]/\cs.length=sz/\∀j u,cs[j]? =some u->w.cell? ⟨b,o+(k*sz+j),none⟩=some u:=by
 obtain⟨ow,EX,Ty,rfl,⟨A',c',hv,_,_,hc⟩,hr⟩:=h
 simp only[Value.slice.injEq]at hv
 obtain⟨rfl,hn,rfl⟩:=hv
 rcases hc with⟨_,h0⟩|⟨b,o,rfl,rfl,hc⟩
 ·omega
 have h1:k<ow.length:=by rw[hr.1];exact hk
 have h2:k<EX.length:=by rw[hr.2.1];exact hk
 obtain⟨gN,hl⟩:=hr.2.2 k _ _ _ (List.getElem?_eq_getElem h1) (List.getElem?_eq_getElem h2) (List.getElem?_eq_getElem hk)
 refine⟨b,o,ow[k],EX[k],rfl,by simp,fun x hx=>List.mem_append_right _ (qJ (List.getElem?_eq_getElem h2) x hx),gN,hl,fun j u hj=>?_⟩
 have gP:j<sz:=by rw[<-hl];exact(List.getElem?_eq_some_iff.1 hj).1
 exact hc _ u (by rw[tC hr.lens (List.getElem?_eq_getElem h1) gP];exact hj)
theorem lv.len {α:Type} {rep:World->List Nat->List Value->α->Prop} {sz:Nat} {w:World} {fp:List Nat} {v:Value} {ds:List α}
  (h:lv rep sz w fp v ds):∃A c,v=.slice A ds.length c/\ds.length<=c/\c<=maxLen:=by
 obtain⟨_,_,_,_,⟨A,c,hv,h1,h2,_⟩,_⟩:=h
 exact⟨A,c,hv,h1,h2⟩
theorem lv.nil {α:Type} (rep:World->List Nat->List Value->α->Prop) (sz:Nat) (w:World):lv rep sz w [] (.slice none 0 0) ([]:List α):=
 ⟨[],[],[],rfl,Sl.nil w,rfl,rfl,fun i cs f d hc=>by simp at hc⟩
def Flat {α:Type} (enc:α->List Value):World->List Nat->List Value->α->Prop:=fun _ f cs d=>f=[]/\cs=enc d
def Q (w w':World):Prop:=∃q,w'=w.drewN q
theorem Q.refl (w:World):Q w w:=⟨0,rfl⟩
theorem Q.d {w w':World} (h:Q w w') (n:Nat):Q w (w'.drewN n):=by obtain⟨q,rfl⟩:=h;exact⟨q+n,by rw[World.drewN_drewN]⟩
theorem Q.d1 {w w':World} (h:Q w w'):Q w w'.drew:=by obtain⟨q,rfl⟩:=h;exact⟨q+1,rfl⟩
theorem Q.n (w:World) (n:Nat):Q w (w.drewN n):=⟨n,rfl⟩
theorem Q.trans {a b c:World} (h:Q a b) (k:Q b c):Q a c:=by obtain⟨q,rfl⟩:=k;exact h.d q
theorem H8 {B:Nat} {a w:World} (h:Below B a w) (n:Nat):Below B a (w.drewN n):=⟨h.os,h.tape,h.output,h.size,h.block⟩
theorem Q.below {w w':World} (h:Q w w'):Below w.heap.size w w':=by obtain⟨q,rfl⟩:=h;exact H8 (Below.refl _ _) q
theorem iK {a b:Bool} (h:a=b):Ending.returned (.bool a)=.returned (.bool b):=by rw[h]
theorem Fx {k:IntKind} {a b:Int} (h:a=b):Ending.returned (.int k a)=.returned (.int k b):=by rw[h]
def Unf (w:World) (b:Nat):Prop:=∃cs e,w.heap[b]? =some (.cells cs e (0,0))
def putCells (w:World) (g:Nat):Nat->List Value->World
 |_,[]=>w
 |i,v::r=>putCells (w.setCell ⟨g,i,none⟩ v) g (i+1) r
structure Only (fp:List Nat) (w w':World):Prop where
 os:w'.os=w.os
 tape:w'.tape=w.tape
 output:w'.output=w.output
 size:w.heap.size<=w'.heap.size
 block:∀x,x<w.heap.size->x∉fp->w'.heap[x]? =w.heap[x]?
 unf:∀x,Unf w x->Unf w' x
structure au where
 eT:Int
 eO:Int
deriving DecidableEq
structure ab where
 aC:au
 aQ:Int
deriving DecidableEq
structure eI where
 ai:List ab
deriving DecidableEq
structure iq where
 aL:ByteArray
 eK:Int
deriving DecidableEq
structure fy where
 aL:ByteArray
 cu:List Int
deriving DecidableEq
structure ay where
 aE:List iq
 ai:List fy
deriving DecidableEq
structure ax where
 aJ:ay
 aU:eI
 aB:Int
deriving DecidableEq
def F6 (d:Int):List Value:=[.int .i64 d]
def EL:=Flat F6
def F7 (d:au):List Value:=[.int .i64 d.eT,.int .i64 d.eO]
def ui:=Flat F7
def eV (d:ab):List Value:=[.int .i64 d.aC.eT,.int .i64 d.aC.eO,.int .i64 d.aQ]
def AO:=Flat eV
def iz:=lv AO 3
def Il (d:iq):List Value:=[.string d.aL,.int .i64 d.eK]
def HO:=Flat Il
def qW:=lv HO 2
def uU:=lv EL 1
def HP (w:World) (f:List Nat) (cs:List Value) (d:fy):Prop:=
 ∃v1 f1,f=f1/\cs=[.string d.aL,v1]/\uU w f1 v1 d.cu
def qY:=lv HP 2
end Go.Proofs.YtgoljkjaameagaaGreat

namespace Go.Proofs.YtgoljkjaameagaaGreat.V
open Go.RowKit
variable {P:Program} {w:World} {D:Nat->Prop}
def HJ (P:Program) (w:World) (D:Nat->Prop) (al:List AV) (cs:List Value):Prop:=∀(j:Nat) (a:AV),al[j]? =some a->∃u:Value,cs[j]? =some u/\jD P w D a u
theorem o9 {α:Type} {rep:World->List Nat->List Value->α->Prop} {e:α->List AV} {sz:Nat} {f:List Nat} {v:Value} {xs:List α} (h:lv rep sz w f v xs) (hD:∀b∈f,D b)
  (hl:∀x∈xs,(e x).length=sz) (hc:∀x∈xs,∀a∈e x,a.cell=true) (hr:∀x∈xs,∀f' cs,rep w f' cs x->(∀b∈f',D b)->HJ P w D (e x) cs):jD P w D (.sl (xs.map e)) v:=by
 obtain⟨A,c,rfl,h1,h2⟩:=lv.len h
 by_cases h0:xs=[]
 ·subst h0;exact .AL _ _ h2
 have kn:0<xs.length:=List.length_pos_iff.2 h0
 obtain⟨b,o,PV,f0,rfl,hb,SG,UN,Ll,jL⟩:=lv.at_ h 0 kn
 have key:∀(i:Nat) (hi:i<xs.length),∃cs f',(∀x∈f',x∈f)/\rep w f' cs xs[i]/\cs.length=sz/\∀j u,cs[j]? =some u->w.cell? ⟨b,o+(i*sz+j),none⟩=some u:=by
  intro i hi
  obtain⟨b',o',cs,f',SB,_,iP,nY,dq,kS⟩:=lv.at_ h i hi
  simp only[Option.some.injEq,Addr.mk.injEq,and_true]at SB
  obtain⟨rfl,rfl⟩:=SB
  exact⟨cs,f',iP,nY,dq,kS⟩
 refine .sl _ b o _ c sz (fun i j=>(w.cell? ⟨b,o+(i*sz+j),none⟩).getD Go.undef) (by simp) h1 h2 (hD b hb) ?_ ?_ ?_ ?_
 ·intro cs dq
  obtain⟨x,hx,rfl⟩:=List.mem_map.1 dq
  exact hl x hx
 ·intro cs dq
  obtain⟨x,hx,rfl⟩:=List.mem_map.1 dq
  exact hc x hx
 ·intro i j hi hj
  obtain⟨cs,f',_,_,dq,kS⟩:=key i hi
  rw[kS j cs[j] (List.getElem?_eq_getElem (by omega))]
  rfl
 ·intro i j cs a dq ha
  have hi:i<xs.length:=by
   have:=(List.getElem?_eq_some_iff.1 dq).1
   simpa using this
  obtain⟨pS,f',iP,nY,hcs',kS⟩:=key i hi
  simp[hi]at dq
  subst dq
  obtain⟨u,hu,him⟩:=hr _ (List.getElem_mem hi) f' pS nY (fun b hb=>hD b (iP b hb)) j a ha
  rw[kS j u hu]
  exact him
end Go.Proofs.YtgoljkjaameagaaGreat.V

namespace Go.Proofs.YtgoljkjaameagaaGreat.V
open Go.RowKit
variable {P:Program} {w:World} {D:Nat->Prop}
def bJ (d:Int):List AV:=[.int .i64 d]
def ae (d:au):List AV:=[.int .i64 d.eT,.int .i64 d.eO]
def aa (d:ab):List AV:=[.int .i64 d.aC.eT,.int .i64 d.aC.eO,.int .i64 d.aQ]
def aK (d:eI):List AV:=[.sl (d.ai.map aa)]
def cU (d:iq):List AV:=[.str d.aL,.int .i64 d.eK]
def bI (d:fy):List AV:=[.str d.aL,.sl (d.cu.map bJ)]
def ad (d:ay):List AV:=[.sl (d.aE.map cU),.sl (d.ai.map bI)]
def ar (d:ax):List AV:=[.sl (d.aJ.aE.map cU),.sl (d.aJ.ai.map bI),.sl (d.aU.ai.map aa),.int .i64 d.aB]
theorem tn {f:List Nat} {v:Value} {xs:List ab} (h:iz w f v xs) (hD:∀b∈f,D b):jD P w D (.sl (xs.map aa)) v:=
 o9 h hD (fun _ _=>rfl) (fun x _ a ha=>by simp[aa]at ha;rcases ha with rfl|rfl|rfl<;>rfl) fun x _ f' cs hr hf=>by
  obtain⟨_,rfl⟩:=hr
  intro j a ha
  match j,ha with
  |0,ha=>simp[aa]at ha;subst ha;exact⟨_,rfl,.int _ _⟩
  |1,ha=>simp[aa]at ha;subst ha;exact⟨_,rfl,.int _ _⟩
  |2,ha=>simp[aa]at ha;subst ha;exact⟨_,rfl,.int _ _⟩
  |j+3,ha=>simp[aa]at ha
theorem qT {d:eI} {f0:List Nat} {v0:Value} (h0:iz w f0 v0 d.ai) (d0:∀b∈f0,D b):jD P w D (.agg (aK d)) (.agg #[v0]):=by
 refine .agg _ _ (fun j=>(#[v0]:Array Value).getD j Go.undef) rfl (fun a ha=>by simp[aK]at ha;rcases ha with rfl<;>rfl) (fun j hj=>?_) (fun j a ha=>?_)
 ·match j,hj with
  |0,_=>rfl
  |j+1,hj=>simp[aK]at hj<;>omega
 ·match j,ha with
  |0,ha=>simp[aK]at ha;subst ha;exact tn h0 d0
  |j+1,ha=>simp[aK]at ha
theorem FM {f:List Nat} {v:Value} {xs:List iq} (h:qW w f v xs) (hD:∀b∈f,D b):jD P w D (.sl (xs.map cU)) v:=
 o9 h hD (fun _ _=>rfl) (fun x _ a ha=>by simp[cU]at ha;rcases ha with rfl|rfl<;>rfl) fun x _ f' cs hr hf=>by
  obtain⟨_,rfl⟩:=hr
  intro j a ha
  match j,ha with
  |0,ha=>simp[cU]at ha;subst ha;exact⟨_,rfl,.str _⟩
  |1,ha=>simp[cU]at ha;subst ha;exact⟨_,rfl,.int _ _⟩
  |j+2,ha=>simp[cU]at ha
theorem CR {f:List Nat} {v:Value} {xs:List Int} (h:uU w f v xs) (hD:∀b∈f,D b):jD P w D (.sl (xs.map bJ)) v:=
 o9 h hD (fun _ _=>rfl) (fun x _ a ha=>by simp[bJ]at ha;rcases ha with rfl<;>rfl) fun x _ f' cs hr hf=>by
  obtain⟨_,rfl⟩:=hr
  intro j a ha
  match j,ha with
  |0,ha=>simp[bJ]at ha;subst ha;exact⟨_,rfl,.int _ _⟩
  |j+1,ha=>simp[bJ]at ha
theorem FP {f:List Nat} {v:Value} {xs:List fy} (h:qY w f v xs) (hD:∀b∈f,D b):jD P w D (.sl (xs.map bI)) v:=
 o9 h hD (fun _ _=>rfl) (fun x _ a ha=>by simp[bI]at ha;rcases ha with rfl|rfl<;>rfl) fun x _ f' cs hr hf=>by
  obtain⟨v1,f1,rfl,rfl,h1⟩:=hr
  intro j a ha
  match j,ha with
  |0,ha=>simp[bI]at ha;subst ha;exact⟨_,rfl,.str _⟩
  |1,ha=>simp[bI]at ha;subst ha;exact⟨_,rfl,CR h1 hf⟩
  |j+2,ha=>simp[bI]at ha
theorem CW {d:ax} {f0:List Nat} {v0:Value} (h0:qW w f0 v0 d.aJ.aE) (d0:∀b∈f0,D b) {f1:List Nat} {v1:Value} (h1:qY w f1 v1 d.aJ.ai) (d1:∀b∈f1,D b) {f2:List Nat} {v2:Value} (h2:iz w f2 v2 d.aU.ai) (d2:∀b∈f2,D b):jD P w D (.agg (ar d)) (.agg #[v0,v1,v2,.int .i64 d.aB]):=by
 refine .agg _ _ (fun j=>(#[v0,v1,v2,.int .i64 d.aB]:Array Value).getD j Go.undef) rfl (fun a ha=>by simp[ar]at ha;rcases ha with rfl|rfl|rfl|rfl<;>rfl) (fun j hj=>?_) (fun j a ha=>?_)
 ·match j,hj with
  |0,_=>rfl
  |1,_=>rfl
  |2,_=>rfl
  |3,_=>rfl
  |j+4,hj=>simp[ar]at hj<;>omega
 ·match j,ha with
  |0,ha=>simp[ar]at ha;subst ha;exact FM h0 d0
  |1,ha=>simp[ar]at ha;subst ha;exact FP h1 d1
  |2,ha=>simp[ar]at ha;subst ha;exact tn h2 d2
  |3,ha=>simp[ar]at ha;subst ha;exact .int _ _
  |j+4,ha=>simp[ar]at ha
end Go.Proofs.YtgoljkjaameagaaGreat.V

namespace Go.Proofs.YtgoljkjaameagaaGreat.V
open Go.RowKit
variable {P:Program} {X:fN} {env:Env} {σ:aw}
theorem bF (g:Rows) (n:Nat) (l:List AV):fz g (n+1) (.gy l)=(dc g n l).map AV.gy:=by rw[fz]
theorem cC (g:Rows) (n:Nat) (f:Nat) (l:List AV):fz g (n+1) (.fn f l)=if l.all AV.cell then(dc g n l).map (AV.fn f)else none:=by rw[fz]
theorem aV (g:Rows) (n:Nat) (id:Id) (i off:Nat):fz g (n+1) (.ptr id i off)=match g id with
  |some r=>if r.w then(match r.rows[i]? with
   |some cs=>(dc g n (cs.drop off)).map AV.cR
   |none=>none)else none
  |none=>none:=by rw[fz];rfl
theorem iv (g:Rows) (n:Nat) (id:Id) (off len:Nat):fz g (n+1) (.own id off len)=match g id with
  |some r=>if r.w then(if off+len<=r.rows.length then(ev g n ((r.rows.drop off).take len)).map AV.sl else none)else none
  |none=>none:=by rw[fz];rfl
theorem oG (g:Rows) (n:Nat):ev g n []=some []:=by rw[ev]
theorem zw (g:Rows) (n:Nat) (c:List AV) (l:List (List AV)):ev g n (c::l)=match dc g n c with
  |some b=>(ev g n l).map (b::·)
  |none=>none:=by rw[ev];cases dc g n c<;>rfl
theorem vJ {g:Rows} {n:Nat}:∀{l:List (List AV)},(∀c∈l,dc g n c=some c)->ev g n l=some l
 |[],_=>by rw[ev]
 |c::r,h=>by rw[ev,h c (by simp),vJ fun d hd=>h d (List.mem_cons_of_mem _ hd)];rfl
theorem ni {α:Type} {g:Rows} {n:Nat} {e:α->List AV} {l:List α} (h:∀x,dc g n (e x)=some (e x)):ev g n (l.map e)=some (l.map e):=vJ fun c hc=>by
 obtain⟨x,_,rfl⟩:=List.mem_map.1 hc
 exact h x
theorem oH {α:Type} {g:Rows} {n:Nat} {e:α->List AV} {l:List α} (h:∀x,eA g n (e x)=some (e x)):iu g n (l.map e)=some (l.map e):=tD fun c hc=>by
 obtain⟨x,_,rfl⟩:=List.mem_map.1 hc
 exact h x
theorem gr {α:Type} {g:Rows} {n:Nat} {e:α->List AV} {l:List α} {id:Id} {sz len:Nat} (hg:g id=some ⟨true,sz,l.map e⟩) (hl:len=l.length) (h:∀x,dc g n (e x)=some (e x)):fz g (n+1) (.own id 0 len)=some (.sl (l.map e)):=by
 subst hl
 rw[iv];simp only[hg,if_true]
 rw[if_pos (by simp),List.drop_zero,List.take_of_length_le (by simp),ni h];rfl
theorem eY {α:Type} {g:Rows} {n:Nat} {e:α->List AV} {l:List α} {id:Id} {sz len:Nat} (hg:g id=some ⟨true,sz,l.map e⟩) (hl:len=l.length) (h:∀x,eA g n (e x)=some (e x)):gD g (n+1) (.own id 0 len)=some (.sl (l.map e)):=by
 subst hl
 exact rC hg (by simp) (by rw[List.drop_zero,List.take_of_length_le (by simp),oH h])
theorem all_map {α:Type} {e:α->List AV} {sz:Nat} {l:List α} (h:∀x,(e x).length=sz/\(e x).all AV.cell=true):(l.map e).all (fun c=>c.length==sz&&c.all AV.cell)=true:=by
 rw[List.all_eq_true]
 intro c hc
 obtain⟨x,_,rfl⟩:=List.mem_map.1 hc
 simp[(h x).1,(h x).2]
def Qp (P:Program) (f:Nat) (args:List AV) (sz:Nat) (rows:List (List AV)):Prop:=(∀c∈rows,∀a∈c,a.plain=true)/\∀n:Nat,Call P f args ⟨fun _=>none,n⟩ fun r σ'=>∃id,r=.own id 0 rows.length/\σ'.get id=some ⟨true,sz,rows⟩
theorem Qp.x {f sz:Nat} {args eC:List AV} {rows:List (List AV)} (h:Qp P f eC sz rows) {σ:aw} (hv:dc (dD σ.get) 6 args=some eC):CM (Call P) f args σ sz rows:=⟨h.1,eC,hv,h.2 _⟩
theorem Ee {res:List nL} {r:AV} {vs:List AV} {x:Ex} (hx:x=.ret∨x=.normal) (hv:fe env σ.get res=some vs) (hz:fz σ.get 6 (eL vs)=some r):kH res (fun r0 σ'=>∃r',fz σ'.get 6 r0=some r'/\r'=r) x env σ:=by
 rcases hx with rfl|rfl
 ·exact⟨vs,hv,r,hz,rfl⟩
 ·exact⟨vs,hv,r,hz,rfl⟩
theorem iJ {res:List nL} {r:AV} {vs:List AV} {x:Ex} (hx:x=.ret∨x=.normal) (hv:fe env σ.get res=some vs) (hz:gD σ.get 6 (eL vs)=some r):kH res (fun r0 σ'=>∃r',gD σ'.get 6 r0=some r'/\r'=r) x env σ:=by
 rcases hx with rfl|rfl
 ·exact⟨vs,hv,r,hz,rfl⟩
 ·exact⟨vs,hv,r,hz,rfl⟩
theorem gV {res:List nL} {K:AV->aw->Prop} {vs:List AV} {x:Ex} (hx:x=.ret∨x=.normal) (hv:fe env σ.get res=some vs) (hK:K (eL vs) σ):kH res K x env σ:=by
 rcases hx with rfl|rfl
 ·exact⟨vs,hv,hK⟩
 ·exact⟨vs,hv,hK⟩
theorem gY {f:Nat} {args:List AV} {σ:aw} {K:AV->aw->Prop} {nt na:Nat} {body:VC} {res:List nL} (hf:mU P f=some ⟨nt,na,body,res⟩) (ha:na=args.length) (h:(∀a∈args,eE a)->dE (Call P) body (kH res K) (bZ args) σ):Call P f args σ K:=mu hf ha h
theorem CN {f:Nat} {md:List (Nat×Nat)} {args:List AV} {σ:aw} {K:AV->aw->Prop} {nt na:Nat} {body:VC} {res:List nL} (hf:u9 P f md=some ⟨nt,na,body,res⟩) (ha:na=args.length) (h:(∀a∈args,eE a)->dE (Call P) body (kH res K) (bZ args) σ):Call P f args σ K:=uN hf ha h
theorem dP {i:Id} {n:Nat} (h:i.bY<n):(∀s,(i=⟨s,n⟩)=False/\(i=⟨s,n+1⟩)=False/\(i=⟨s,n+1+1⟩)=False/\(i=⟨s,n+1+1+1⟩)=False/\(i=⟨s,n+1+1+1+1⟩)=False/\(i=⟨s,n+1+1+1+1+1⟩)=False/\(i=⟨s,n+1+1+1+1+1+1⟩)=False/\(i=⟨s,n+1+1+1+1+1+1+1⟩)=False/\(i=⟨s,n+1+1+1+1+1+1+1+1⟩)=False/\(i=⟨s,n+1+1+1+1+1+1+1+1+1⟩)=False/\(⟨s,n⟩=i)=False/\(⟨s,n+1⟩=i)=False/\(⟨s,n+1+1⟩=i)=False/\(⟨s,n+1+1+1⟩=i)=False/\(⟨s,n+1+1+1+1⟩=i)=False/\(⟨s,n+1+1+1+1+1⟩=i)=False/\(⟨s,n+1+1+1+1+1+1⟩=i)=False/\(⟨s,n+1+1+1+1+1+1+1⟩=i)=False/\(⟨s,n+1+1+1+1+1+1+1+1⟩=i)=False/\(⟨s,n+1+1+1+1+1+1+1+1+1⟩=i)=False)/\(i.bY=n)=False/\(i.bY=n+1)=False/\(i.bY=n+1+1)=False/\(i.bY=n+1+1+1)=False/\(i.bY=n+1+1+1+1)=False/\(i.bY=n+1+1+1+1+1)=False/\(i.bY=n+1+1+1+1+1+1)=False/\(i.bY=n+1+1+1+1+1+1+1)=False/\(i.bY=n+1+1+1+1+1+1+1+1)=False/\(i.bY=n+1+1+1+1+1+1+1+1+1)=False:=by
 refine⟨fun s=>?_,?_⟩
 ·obtain⟨a,b⟩:=i
  simp only[Id.mk.injEq,eq_iff_iff,iff_false,not_and]
  simp only at h
  refine⟨?_,?_,?_,?_,?_,?_,?_,?_,?_,?_,?_,?_,?_,?_,?_,?_,?_,?_,?_,?_⟩<;>(intros;omega)
 ·simp only[eq_iff_iff,iff_false]
  refine⟨?_,?_,?_,?_,?_,?_,?_,?_,?_,?_⟩<;>omega
def l7 (a b:Nat) (ids:List Id):Prop:=ids.Nodup/\∀i∈ids,a<=i.bY/\i.bY<b
def Kept (σ σ':aw):Prop:=σ.next<=σ'.next/\∀j:Id,j.bY<σ.next->σ'.get j=σ.get j
theorem Kept.trans {a b c:aw} (h:Kept a b) (k:Kept b c):Kept a c:=⟨Nat.le_trans h.1 k.1,fun j hj=>(k.2 j (Nat.lt_of_lt_of_le hj h.1)).trans (h.2 j hj)⟩
theorem l7.wide {a b a' b':Nat} {ids:List Id} (h:l7 a b ids) (h1:a'<=a) (h2:b<=b'):l7 a' b' ids:=⟨h.1,fun i hi=>⟨Nat.le_trans h1 (h.2 i hi).1,Nat.lt_of_lt_of_le (h.2 i hi).2 h2⟩⟩
theorem l7.app {a b c d:Nat} {i j:List Id} (h:l7 a b i) (k:l7 c d j) (Oj:b<=c) (po:a<=b) (hcd:c<=d):l7 a d (i++j):=
 ⟨List.nodup_append.2 ⟨h.1,k.1,fun x hx y hy e=>by subst e;have:=(h.2 x hx).2;have:=(k.2 x hy).1;omega⟩,fun x hx=>by
  rcases List.mem_append.1 hx with hx|hx
  ·have:=h.2 x hx;omega
  ·have:=k.2 x hx;omega⟩
end Go.Proofs.YtgoljkjaameagaaGreat.V

namespace Go.Proofs.YtgoljkjaameagaaGreat.V
open Go.RowKit
attribute [local irreducible] dE wpOps fS Call
attribute [local go_sem] aH fq eG fH fG cX upd bZ K.av cD AV.cells AV.cell rowOf rowsOf part ld rowAt br bP dn dR gK bx cQ eb fD eS di dW cN cL dH dI bD aW cF bB cH cG dU dX dV cE bG cP dS bz aI cJ cq gJ bj cz bE aT de aX dp AV.undef bq bt dL dQ dB dz cw ea ee cj dZ dY cI cK List.getD_cons_zero List.getD_cons_succ List.getD_nil List.all_cons List.all_nil Bool.and_true Bool.true_and Bool.and_self Bool.not_true Bool.not_false Option.map_some Option.map_none Option.bind_some Option.bind_none List.length_cons List.length_nil List.take_succ_cons List.take_zero List.take_nil List.drop_succ_cons List.drop_zero List.drop_nil List.head?_cons List.map_cons List.map_nil List.getElem?_cons_zero List.getElem?_cons_succ List.cons_append List.nil_append List.append_nil List.length_map List.set_cons_zero List.set_cons_succ Nat.reduceMul eq_self Int.toNat_natCast Int.natCast_nonneg and_self true_and and_true decide_true decide_false Bool.false_eq_true Nat.zero_add Nat.add_zero List.contains_cons List.contains_nil Bool.or_false Bool.false_or beq_self_eq_true Nat.reduceBEq ne_eq not_true_eq_false not_false_eq_true Id.mk.injEq false_and and_false Nat.reduceLT Int.reduceLE Int.reduceLT Int.reduceToNat Int.reduceNeg Int.reduceAdd Nat.le_refl List.length_append beq_true beq_false Bool.not_eq_eq_eq_not or_false false_or dD ah aq aF aY bp bK aP bc aN aV cC bF
variable {P:Program}
theorem Kr {X:fN} {Q:Ex->Env->aw->Prop} {N:Env->aw->Prop} {c:VC} {env:Env} {σ:aw} (I:Env->aw->Prop) (h2:∀e s,I e s->N e s) (h1:∀N':Env->aw->Prop,(∀e s,I e s->N' e s)->dE X c (de N' Q) env σ):dE X c (de N Q) env σ:=h1 N h2
def qE (f z:Nat) (a:Bool):zd:=let s:=f*1000000
 ⟨19,2,(.seq (.eD false [q 4 (.dh (.k (.int .i64 0))) s]) (.seq (.seq (.eD false [q 6 (.dh (.t 0)) (s+1000),q 7 (.len (.t 6)) (s+1001),q 8 (.dh (.k (.int .i64 0))) (s+1002)]) (.block 0 (.loop (.seq (.eD false [q 9 (.bin .lss .i64 (.t 8) (.t 7)) (s+2000)]) (.seq (.cond (.t 9) .skip (.exit 0)) (.seq (.block 1 (.seq (.eD false [q 10 (.dh (.t 8)) (s+3000),q 5 (.dh (.t 10)) (s+3001)]) (.seq (.eD false [q 11 (.dh (.t 1)) (s+4000),q 12 (.dh (.t 0)) (s+4001),q 13 (.dh (.t 5)) (s+4002),q 14 (.ec z (.t 12) (.t 13)) (s+4003),q 15 (.load a z (.t 14)) (s+4004),q 16 (.tu (.t 11) [(.t 15)]) (s+4005)]) (.cond (.t 16) (.seq (.eD false [q 17 (.dh (.t 5)) (s+5000),q 4 (.dh (.t 17)) (s+5001)]) .ret) .skip)))) (.eD false [q 18 (.bin .add .i64 (.t 8) (.k (.int .i64 1))) (s+6000),q 8 (.dh (.t 18)) (s+6001)]))))))) (.seq (.eD false [q 4 (.dh (.k (.int .i64 (-1)))) (s+7000)]) .ret))),[(.tmp 4)]⟩
def zB (f g:Nat):zd:=let s:=f*1000000
 ⟨9,2,(.seq (.eD false [q 4 (.dh (.k (.bool false))) s]) (.seq (.eD false [q 5 (.dh (.t 0)) (s+1000),q 6 (.dh (.t 1)) (s+1001),q 7 (.call g [(.t 5),(.t 6)]) (s+1002),q 8 (.bin .geq .i64 (.t 7) (.k (.int .i64 0))) (s+1003),q 4 (.dh (.t 8)) (s+1004)]) .ret)),[(.tmp 4)]⟩
def iE {α:Type} (p:α->Bool) (xs:List α):Int:=if xs.findIdx p<xs.length then(xs.findIdx p:Int)else -1
theorem Is {α:Type} (p:α->Bool) (xs:List α):decide (0<=iE p xs)=xs.any p:=by
 unfold iE
 by_cases h:xs.findIdx p<xs.length
 ·rw[if_pos h]
  have:xs.any p=true:=List.any_eq_true.2 (List.findIdx_lt_length.1 h)
  rw[this];simp
 ·rw[if_neg h]
  have:xs.any p=false:=by
   rw[Bool.eq_false_iff]
   intro hc
   exact h (List.findIdx_lt_length.2 (List.any_eq_true.1 hc))
  rw[this];rfl
theorem uj (a:AV) (l m:List AV):a::l++m=a::(l++m):=rfl
theorem zh (l:List AV):[]++l=l:=rfl
structure Qn {α:Type} (e:α->List AV) (v:α->AV) (z:Nat) (a:Bool):Prop where
 len:∀x,(e x).length=z
 val:∀x,if a=true then v x=.agg (e x)else e x=[v x]
 fz:∀x g,dc g 6 [v x]=some [v x]
theorem oM {α:Type} {e:α->List AV} {v:α->AV} {z fk:Nat} {a:Bool} (hE:Qn e v z a) (hc:mU P fk=some (qE fk z a)) (xs:List α) (hlen:xs.length<=1048576) (f:Nat) (da:List AV) (p:α->Bool)
  (hf:∀x∈xs,aj P f (v x::da) (.bool (p x))) (IG:∀g,dc g 6 da=some da):
  aj P fk [.sl (xs.map e),.fn f da] (.int .i64 (iE p xs)):=by
 refine aj.body hc rfl fun hl n0=>?_
 try simp only[q]
 clear hl
 (try((repeat(revert hN;revert N;apply Pn.out));refine wk @Nat.zero_add ?_;(repeat(refine Pn.mk ?_;intro N hN))))
 refine aZ (fun n env st=>∃k:Nat,n=(xs.length)-k/\k<=(xs.length)/\env 8=.int .i64 (k:Int)/\(∀j:Nat,j<k->∀h:j<xs.length,p xs[j]=false)) (xs.length) ⟨0,by omega,by omega,sl @Nat.zero_add,fun _ h=>absurd h (Nat.not_lt_zero _)⟩ ?_
 rintro n_a env_a st_a ⟨k,rfl,ale,a8,mi⟩ ez
 have a0:=ez 0 (by kernel_rfl);have a1:=ez 1 (by kernel_rfl);have a7:=ez 7 (by kernel_rfl)
 simp only[go_sem, ↓reduceIte,Nat.reduceEqDiff,Nat.reduceAdd,Nat.reduceSub,Nat.reduceLeDiff,reduceCtorEq]at a0 a1 a7
 clear ez
 by_cases hk:(k:Int)<(xs.length:Int)
 ·have dd:∀{e:Env},(e 8=.int .i64 (IntKind.i64.wrap ((k:Int)+1)))->(∀h:k<xs.length,p xs[k]=false)->∃m0,m0<(xs.length)-k/\∃k:Nat,m0=(xs.length)-k/\k<=(xs.length)/\e 8=.int .i64 (k:Int)/\(∀j:Nat,j<k->∀h:j<xs.length,p xs[j]=false):=fun x1 x2=>⟨_,by omega,k+1,rfl,by omega,(by rw[x1,az (by omega)]),(all_succ mi x2)⟩
  have fm:k<xs.length:=by omega
  have hg:(xs.map e)[k]? =some (e xs[k]):=by simp[fm]
  have Fc:=hf _ (List.getElem_mem fm)
  have hz:=hE.len xs[k]
  have hv:=hE.val xs[k]
  have lR:dc (dD st_a.get) 6 (v xs[k]::da)=some (v xs[k]::da):=by
   have h1:=hE.fz xs[k] (dD st_a.get)
   rw[ah,aq]at h1
   rw[ah,IG]
   revert h1
   cases V.fz (dD st_a.get) 6 (v xs[k])<;>simp
  have fin:∀hN:True,(p xs[k]=true->xs.findIdx p=k):=fun _ hp=>by
   rw[List.findIdx_eq fm];exact⟨hp,fun j hj=>mi j hj (by omega)⟩
  cases hp:p xs[k]
  ·have SU:=hp
   cases a
   ·rw[if_neg (by simp)]at hv
    have yp:z=1:=by rw[<-hz,hv];rfl
    subst yp
    rw[hv]at hg hz
    rw[hp]at Fc
    generalize v xs[k]=c at Fc lR hg hz
    (try((repeat(revert hN;revert N;apply Pn.out));refine wk (tw @a8 (tw @a0 (tw @a1 (tw @a7 (tw @hk (tw @hg (tw @hz (tw @uj @zh)))))))) ?_;(repeat(refine Pn.mk ?_;intro N hN))))
    refine .inl ⟨_,aj.x Fc lR,?_⟩
    refine hN _ _ ?_
    clear hN N
    (try((repeat(revert hN;revert N;apply Pn.out));refine wk (tw @a8 (tw @a0 (tw @a1 @a7))) ?_;(repeat(refine Pn.mk ?_;intro N hN))))
    exact dd (sd (tw @a8 (tw @a0 (tw @a1 @a7)))) (fun _=>SU)
   ·rw[if_pos rfl]at hv
    have ht:(e xs[k]).take z=e xs[k]:=by rw[<-hz,List.take_length]
    rw[hv]at Fc lR
    rw[hp]at Fc
    generalize e xs[k]=c at Fc lR hg hz ht
    (try((repeat(revert hN;revert N;apply Pn.out));refine wk (tw @a8 (tw @a0 (tw @a1 (tw @a7 (tw @hk (tw @hg (tw @hz (tw @ht (tw @uj (tw @zh @Nat.le_refl)))))))))) ?_;(repeat(refine Pn.mk ?_;intro N hN))))
    refine .inl ⟨_,aj.x Fc lR,?_⟩
    refine hN _ _ ?_
    clear hN N
    (try((repeat(revert hN;revert N;apply Pn.out));refine wk (tw @a8 (tw @a0 (tw @a1 @a7))) ?_;(repeat(refine Pn.mk ?_;intro N hN))))
    exact dd (sd (tw @a8 (tw @a0 (tw @a1 @a7)))) (fun _=>SU)
  ·have hi:=fin trivial hp
   cases a
   ·rw[if_neg (by simp)]at hv
    have yp:z=1:=by rw[<-hz,hv];rfl
    subst yp
    rw[hv]at hg hz
    rw[hp]at Fc
    generalize v xs[k]=c at Fc lR hg hz
    (try((repeat(revert hN;revert N;apply Pn.out));refine wk (tw @a8 (tw @a0 (tw @a1 (tw @a7 (tw @hk (tw @hg (tw @hz (tw @uj @zh)))))))) ?_;(repeat(refine Pn.mk ?_;intro N hN))))
    refine .inl ⟨_,aj.x Fc lR,?_⟩
    refine hN _ _ ?_
    clear hN N
    (try((repeat(revert hN;revert N;apply Pn.out));refine wk (tw @a8 (tw @a0 (tw @a1 @a7))) ?_;(repeat(refine Pn.mk ?_;intro N hN))))
    exact bQ (b:=(k:Int)) (.inl rfl) (sd @Nat.zero_add) (by rw[iE,hi,if_pos fm])
   ·rw[if_pos rfl]at hv
    have ht:(e xs[k]).take z=e xs[k]:=by rw[<-hz,List.take_length]
    rw[hv]at Fc lR
    rw[hp]at Fc
    generalize e xs[k]=c at Fc lR hg hz ht
    (try((repeat(revert hN;revert N;apply Pn.out));refine wk (tw @a8 (tw @a0 (tw @a1 (tw @a7 (tw @hk (tw @hg (tw @hz (tw @ht (tw @uj (tw @zh @Nat.le_refl)))))))))) ?_;(repeat(refine Pn.mk ?_;intro N hN))))
    refine .inl ⟨_,aj.x Fc lR,?_⟩
    refine hN _ _ ?_
    clear hN N
    (try((repeat(revert hN;revert N;apply Pn.out));refine wk (tw @a8 (tw @a0 (tw @a1 @a7))) ?_;(repeat(refine Pn.mk ?_;intro N hN))))
    exact bQ (b:=(k:Int)) (.inl rfl) (sd @Nat.zero_add) (by rw[iE,hi,if_pos fm])
 ·(try((repeat(revert hN;revert N;apply Pn.out));refine wk (tw @a8 (tw @a0 (tw @a1 (tw @a7 @hk)))) ?_;(repeat(refine Pn.mk ?_;intro N hN))))
  have hi:¬xs.findIdx p<xs.length:=by
   rw[List.findIdx_lt_length]
   rintro⟨x,hx,IW⟩
   obtain⟨j,hj,rfl⟩:=List.getElem_of_mem hx
   rw[mi j (by omega) hj]at IW;cases IW
  exact bQ (b:=-1) (.inl rfl) (sd @Nat.zero_add) (by rw[iE,if_neg hi])
theorem kQ {α:Type} {e:α->List AV} {v:α->AV} {z fk gk:Nat} {a:Bool} (hE:Qn e v z a) (hc:mU P fk=some (zB fk gk)) (Gf:mU P gk=some (qE gk z a)) (xs:List α) (hlen:xs.length<=1048576) (f:Nat) (da:List AV) (p:α->Bool) (IC:da.all AV.cell=true) (CD:∀g,dc g 5 da=some da)
  (hf:∀x∈xs,aj P f (v x::da) (.bool (p x))) (IG:∀g,dc g 6 da=some da):
  aj P fk [.sl (xs.map e),.fn f da] (.bool (xs.any p)):=by
 refine aj.body hc rfl fun hl n0=>?_
 try simp only[q]
 clear hl
 have hi:=oM hE Gf xs hlen f da p hf IG
 (repeat(first|((repeat(revert hN;revert N;apply Pn.out));refine wk (tw @IC @CD) ?_;(repeat(refine Pn.mk ?_;intro N hN)))|((try apply Or.inl);refine⟨_,aj.x (hi) (sd (tw @IC @CD)),?_⟩;refine hN _ _ ?_;clear hN N)))
 exact aM (b:=decide (0<=iE p xs)) (.inl rfl) (sd @Nat.zero_add) (Is p xs)
end Go.Proofs.YtgoljkjaameagaaGreat.V

namespace Go.Proofs.YtgoljkjaameagaaGreat.V
open Go.RowKit
def rP (P:Program) (mk:Bool):List Oper->Nat->List Nat
 |[],_=>[]
 |o::r,i=>match qR P o.op with
  |some v=>if qI v||mk&&v.ma then i::rP P mk r (i+1)else rP P mk r (i+1)
  |none=>rP P mk r (i+1)
def zk (P:Program) (ops:Array Oper) (site0:Nat) (mk:Bool) (bs:Array Nat) (hidden:List Nat):List Oper->Nat->Option (List bh)
 |[],_=>some []
 |o::r,j=>do
  let v <-qR P o.op
  let g <-C6 ops o
  pure ({dst:=o.dst,op:=v,guard:=g,site:=site0+j,hid:=(hidden.filter fun i=> !(bs.getD j 0).testBit i&&(i !=j||mk&&v.ma)).map fun i=>site0+i}::(<-zk P ops site0 mk bs hidden r (j+1)))
def qi (P:Program) (md:List (Nat×Nat)) (fid:Nat):Code->Option VC
 | .skip=>some .skip
 | .region id ops draw=>if draw then(zk P ops ((fid*1000+id)*1000) (wm md id==1) (jE ops) (rP P (wm md id==1) ops.toList 0) ops.toList 0).map (VC.eD true)else(zk P ops ((fid*1000+id)*1000) false #[] [] ops.toList 0).map (if ops.toList.any fun o=>Nc o.op then VC.NN else VC.eD false)
 | .seq a b=>do pure (.seq (<-qi P md fid a) (<-qi P md fid b))
 | .cond c x y=>do pure (.cond (<-cO P c) (<-qi P md fid x) (<-qi P md fid y))
 | .block id c=>(qi P md fid c).map (VC.block id)
 | .loop c=>(qi P md fid c).map VC.loop
 | .exit id=>some (.exit id)
 | .ret=>some .ret
 |_=>none
def Qv (P:Program) (md:List (Nat×Nat)) (f:Nat):Option zd:=
 match P.funcs[f]? with
 |some fn=>match fn.body with
  |some c=>do
   let b <-qi P md f c
   let r <-fn.results.toList.mapM (C7 P)
   pure {ntmps:=fn.ntmps,yJ:=fn.params.size+fn.nfree,body:=b,res:=r}
  |none=>none
 |none=>none
theorem cfM {P:Program} (md:List (Nat×Nat)) {f:Nat} {v:zd} (_:Qv P md f=some v:=by(conv=>lhs;cbv)<;>exact rfl) (h:u9 P f md=some v:=by kernel_rfl):u9 P f md=some v:=h
theorem eH {P:Program} {f:Nat} {v:zd} (_:Qv P [] f=some v:=by(conv=>lhs;cbv)<;>exact rfl) (h:mU P f=some v:=by kernel_rfl):mU P f=some v:=h
def Pp:zd:=⟨77,2,(.seq (.eD false [q 4 (.dh (.k .gT)) 251000000]) (.seq (.eD false [q 7 (.dh (.t 0)) 251001000,q 8 (.dh (.t 1)) 251001001,q 9 (.build [(.int .i64 0),.cm,.cm,.cm] [(0,(1,(.t 7))),(1,(1,(.t 8)))]) 251001002,q 10 (.box (.t 9)) 251001003,q 5 (.dh (.t 10)) 251001004]) (.seq (.eD false [q 11 (.dh (.t 5)) 251002000,q 12 (.dh (.t 0)) 251002001,q 13 (.j3 [.cm] (.t 12) (.t 12)) 251002002,q 14 (.xZ (.t 11)) 251002003,q 15 (.fI 2 (.t 14)) 251002004,⟨none,(.store 1 (.t 15) (.t 13)),none,251002005,[]⟩]) (.seq (.eD false [q 16 (.dh (.t 5)) 251003000,q 17 (.dh (.t 1)) 251003001,q 18 (.len (.t 17)) 251003002,q 19 (.j3 [(.int .i64 0)] (.t 18) (.t 18)) 251003003,q 20 (.xZ (.t 16)) 251003004,q 21 (.fI 3 (.t 20)) 251003005,⟨none,(.store 1 (.t 21) (.t 19)),none,251003006,[]⟩]) (.seq (.seq (.eD false [q 6 (.dh (.k (.int .i64 0))) 251004000]) (.block 0 (.loop (.seq (.seq (.eD false [q 22 (.dh (.t 6)) 251005000,q 23 (.dh (.t 1)) 251005001,q 24 (.len (.t 23)) 251005002,q 25 (.bin .lss .i64 (.t 22) (.t 24)) 251005003]) (.cond (.t 25) .skip (.exit 0))) (.seq (.block 1 (.seq (.one ⟨(some 28),(.dh (.t 5)),none,251007000,[251007021,251007022,251007024]⟩ (.one ⟨(some 29),(.xZ (.t 28)),none,251007001,[251007021,251007022,251007024]⟩ (.one ⟨(some 30),(.fI 2 (.t 29)),none,251007002,[251007021,251007022,251007024]⟩ (.one ⟨(some 32),(.dh (.t 1)),none,251007004,[251007021,251007022,251007024]⟩ (.one ⟨(some 33),(.dh (.t 6)),none,251007005,[251007021,251007022,251007024]⟩ (.one ⟨(some 37),(.dh (.t 5)),none,251007009,[251007021,251007022,251007024]⟩ (.one ⟨(some 38),(.xZ (.t 37)),none,251007010,[251007021,251007022,251007024]⟩ (.one ⟨(some 39),(.fI 2 (.t 38)),none,251007011,[251007021,251007022,251007024]⟩ (.one ⟨(some 40),(.load false 1 (.t 39)),none,251007012,[251007021,251007022,251007024]⟩ (.one ⟨(some 41),(.dh (.t 1)),none,251007013,[251007021,251007022,251007024]⟩ (.one ⟨(some 42),(.dh (.t 6)),none,251007014,[251007021,251007022,251007024]⟩ (.one ⟨(some 43),(.ec 3 (.t 41) (.t 42)),none,251007015,[251007021,251007022,251007024]⟩ (.one ⟨(some 44),(.fI 0 (.t 43)),none,251007016,[251007021,251007022,251007024]⟩ (.one ⟨(some 45),(.load false 1 (.t 44)),none,251007017,[251007021,251007022,251007024]⟩ (.one ⟨(some 46),(.ec 1 (.t 40) (.t 45)),none,251007018,[251007021,251007022,251007024]⟩ (.one ⟨(some 47),(.load false 1 (.t 46)),none,251007019,[251007021,251007022,251007024]⟩ (.one ⟨(some 48),(.dh (.t 6)),none,251007020,[251007021,251007022,251007024]⟩ (.one ⟨(some 49),(.kO 1 1 [(.t 48)]),none,251007021,[251007022,251007024]⟩ (.both (.one ⟨(some 31),(.load false 1 (.t 30)),none,251007003,[251007021,251007022,251007024]⟩ (.both (.one ⟨(some 34),(.ec 3 (.t 32) (.t 33)),none,251007006,[251007021,251007022,251007024]⟩ (.one ⟨(some 35),(.fI 0 (.t 34)),none,251007007,[251007021,251007022,251007024]⟩ (.both (.one ⟨(some 36),(.load false 1 (.t 35)),none,251007008,[251007021,251007022,251007024]⟩ (.one ⟨(some 50),(.append 1 (.t 47) (.t 49)),none,251007022,[251007024]⟩ (.one ⟨(some 51),(.ec 1 (.t 31) (.t 36)),none,251007023,[251007024]⟩ (.one ⟨none,(.store 1 (.t 51) (.t 50)),none,251007024,[]⟩ (.eD false []))))) (.one ⟨(some 50),(.append 1 (.t 47) (.t 49)),none,251007022,[251007024]⟩ (.one ⟨(some 36),(.load false 1 (.t 35)),none,251007008,[251007021,251007022,251007024]⟩ (.one ⟨(some 51),(.ec 1 (.t 31) (.t 36)),none,251007023,[251007024]⟩ (.one ⟨none,(.store 1 (.t 51) (.t 50)),none,251007024,[]⟩ (.eD false [])))))))) (.one ⟨(some 50),(.append 1 (.t 47) (.t 49)),none,251007022,[251007024]⟩ (.one ⟨(some 34),(.ec 3 (.t 32) (.t 33)),none,251007006,[251007021,251007022,251007024]⟩ (.one ⟨(some 35),(.fI 0 (.t 34)),none,251007007,[251007021,251007022,251007024]⟩ (.one ⟨(some 36),(.load false 1 (.t 35)),none,251007008,[251007021,251007022,251007024]⟩ (.one ⟨(some 51),(.ec 1 (.t 31) (.t 36)),none,251007023,[251007024]⟩ (.one ⟨none,(.store 1 (.t 51) (.t 50)),none,251007024,[]⟩ (.eD false []))))))))) (.both (.one ⟨(some 34),(.ec 3 (.t 32) (.t 33)),none,251007006,[251007021,251007022,251007024]⟩ (.one ⟨(some 35),(.fI 0 (.t 34)),none,251007007,[251007021,251007022,251007024]⟩ (.both (.one ⟨(some 31),(.load false 1 (.t 30)),none,251007003,[251007021,251007022,251007024]⟩ (.both (.one ⟨(some 36),(.load false 1 (.t 35)),none,251007008,[251007021,251007022,251007024]⟩ (.one ⟨(some 50),(.append 1 (.t 47) (.t 49)),none,251007022,[251007024]⟩ (.one ⟨(some 51),(.ec 1 (.t 31) (.t 36)),none,251007023,[251007024]⟩ (.one ⟨none,(.store 1 (.t 51) (.t 50)),none,251007024,[]⟩ (.eD false []))))) (.one ⟨(some 50),(.append 1 (.t 47) (.t 49)),none,251007022,[251007024]⟩ (.one ⟨(some 36),(.load false 1 (.t 35)),none,251007008,[251007021,251007022,251007024]⟩ (.one ⟨(some 51),(.ec 1 (.t 31) (.t 36)),none,251007023,[251007024]⟩ (.one ⟨none,(.store 1 (.t 51) (.t 50)),none,251007024,[]⟩ (.eD false []))))))) (.both (.one ⟨(some 36),(.load false 1 (.t 35)),none,251007008,[251007021,251007022,251007024]⟩ (.both (.one ⟨(some 31),(.load false 1 (.t 30)),none,251007003,[251007021,251007022,251007024]⟩ (.one ⟨(some 50),(.append 1 (.t 47) (.t 49)),none,251007022,[251007024]⟩ (.one ⟨(some 51),(.ec 1 (.t 31) (.t 36)),none,251007023,[251007024]⟩ (.one ⟨none,(.store 1 (.t 51) (.t 50)),none,251007024,[]⟩ (.eD false []))))) (.one ⟨(some 50),(.append 1 (.t 47) (.t 49)),none,251007022,[251007024]⟩ (.one ⟨(some 31),(.load false 1 (.t 30)),none,251007003,[251007021,251007022,251007024]⟩ (.one ⟨(some 51),(.ec 1 (.t 31) (.t 36)),none,251007023,[251007024]⟩ (.one ⟨none,(.store 1 (.t 51) (.t 50)),none,251007024,[]⟩ (.eD false []))))))) (.one ⟨(some 50),(.append 1 (.t 47) (.t 49)),none,251007022,[251007024]⟩ (.one ⟨(some 31),(.load false 1 (.t 30)),none,251007003,[251007021,251007022,251007024]⟩ (.one ⟨(some 36),(.load false 1 (.t 35)),none,251007008,[251007021,251007022,251007024]⟩ (.one ⟨(some 51),(.ec 1 (.t 31) (.t 36)),none,251007023,[251007024]⟩ (.one ⟨none,(.store 1 (.t 51) (.t 50)),none,251007024,[]⟩ (.eD false [])))))))))) (.one ⟨(some 50),(.append 1 (.t 47) (.t 49)),none,251007022,[251007024]⟩ (.one ⟨(some 31),(.load false 1 (.t 30)),none,251007003,[251007021,251007022,251007024]⟩ (.one ⟨(some 34),(.ec 3 (.t 32) (.t 33)),none,251007006,[251007021,251007022,251007024]⟩ (.one ⟨(some 35),(.fI 0 (.t 34)),none,251007007,[251007021,251007022,251007024]⟩ (.one ⟨(some 36),(.load false 1 (.t 35)),none,251007008,[251007021,251007022,251007024]⟩ (.one ⟨(some 51),(.ec 1 (.t 31) (.t 36)),none,251007023,[251007024]⟩ (.one ⟨none,(.store 1 (.t 51) (.t 50)),none,251007024,[]⟩ (.eD false [])))))))))))))))))))))))))))) (.one ⟨(some 52),(.dh (.t 5)),none,251008000,[251008021,251008022,251008024]⟩ (.one ⟨(some 53),(.xZ (.t 52)),none,251008001,[251008021,251008022,251008024]⟩ (.one ⟨(some 54),(.fI 2 (.t 53)),none,251008002,[251008021,251008022,251008024]⟩ (.one ⟨(some 56),(.dh (.t 1)),none,251008004,[251008021,251008022,251008024]⟩ (.one ⟨(some 57),(.dh (.t 6)),none,251008005,[251008021,251008022,251008024]⟩ (.one ⟨(some 61),(.dh (.t 5)),none,251008009,[251008021,251008022,251008024]⟩ (.one ⟨(some 62),(.xZ (.t 61)),none,251008010,[251008021,251008022,251008024]⟩ (.one ⟨(some 63),(.fI 2 (.t 62)),none,251008011,[251008021,251008022,251008024]⟩ (.one ⟨(some 64),(.load false 1 (.t 63)),none,251008012,[251008021,251008022,251008024]⟩ (.one ⟨(some 65),(.dh (.t 1)),none,251008013,[251008021,251008022,251008024]⟩ (.one ⟨(some 66),(.dh (.t 6)),none,251008014,[251008021,251008022,251008024]⟩ (.one ⟨(some 67),(.ec 3 (.t 65) (.t 66)),none,251008015,[251008021,251008022,251008024]⟩ (.one ⟨(some 68),(.fI 1 (.t 67)),none,251008016,[251008021,251008022,251008024]⟩ (.one ⟨(some 69),(.load false 1 (.t 68)),none,251008017,[251008021,251008022,251008024]⟩ (.one ⟨(some 70),(.ec 1 (.t 64) (.t 69)),none,251008018,[251008021,251008022,251008024]⟩ (.one ⟨(some 71),(.load false 1 (.t 70)),none,251008019,[251008021,251008022,251008024]⟩ (.one ⟨(some 72),(.dh (.t 6)),none,251008020,[251008021,251008022,251008024]⟩ (.one ⟨(some 73),(.kO 1 1 [(.t 72)]),none,251008021,[251008022,251008024]⟩ (.both (.one ⟨(some 55),(.load false 1 (.t 54)),none,251008003,[251008021,251008022,251008024]⟩ (.both (.one ⟨(some 58),(.ec 3 (.t 56) (.t 57)),none,251008006,[251008021,251008022,251008024]⟩ (.one ⟨(some 59),(.fI 1 (.t 58)),none,251008007,[251008021,251008022,251008024]⟩ (.both (.one ⟨(some 60),(.load false 1 (.t 59)),none,251008008,[251008021,251008022,251008024]⟩ (.one ⟨(some 74),(.append 1 (.t 71) (.t 73)),none,251008022,[251008024]⟩ (.one ⟨(some 75),(.ec 1 (.t 55) (.t 60)),none,251008023,[251008024]⟩ (.one ⟨none,(.store 1 (.t 75) (.t 74)),none,251008024,[]⟩ (.eD false []))))) (.one ⟨(some 74),(.append 1 (.t 71) (.t 73)),none,251008022,[251008024]⟩ (.one ⟨(some 60),(.load false 1 (.t 59)),none,251008008,[251008021,251008022,251008024]⟩ (.one ⟨(some 75),(.ec 1 (.t 55) (.t 60)),none,251008023,[251008024]⟩ (.one ⟨none,(.store 1 (.t 75) (.t 74)),none,251008024,[]⟩ (.eD false [])))))))) (.one ⟨(some 74),(.append 1 (.t 71) (.t 73)),none,251008022,[251008024]⟩ (.one ⟨(some 58),(.ec 3 (.t 56) (.t 57)),none,251008006,[251008021,251008022,251008024]⟩ (.one ⟨(some 59),(.fI 1 (.t 58)),none,251008007,[251008021,251008022,251008024]⟩ (.one ⟨(some 60),(.load false 1 (.t 59)),none,251008008,[251008021,251008022,251008024]⟩ (.one ⟨(some 75),(.ec 1 (.t 55) (.t 60)),none,251008023,[251008024]⟩ (.one ⟨none,(.store 1 (.t 75) (.t 74)),none,251008024,[]⟩ (.eD false []))))))))) (.both (.one ⟨(some 58),(.ec 3 (.t 56) (.t 57)),none,251008006,[251008021,251008022,251008024]⟩ (.one ⟨(some 59),(.fI 1 (.t 58)),none,251008007,[251008021,251008022,251008024]⟩ (.both (.one ⟨(some 55),(.load false 1 (.t 54)),none,251008003,[251008021,251008022,251008024]⟩ (.both (.one ⟨(some 60),(.load false 1 (.t 59)),none,251008008,[251008021,251008022,251008024]⟩ (.one ⟨(some 74),(.append 1 (.t 71) (.t 73)),none,251008022,[251008024]⟩ (.one ⟨(some 75),(.ec 1 (.t 55) (.t 60)),none,251008023,[251008024]⟩ (.one ⟨none,(.store 1 (.t 75) (.t 74)),none,251008024,[]⟩ (.eD false []))))) (.one ⟨(some 74),(.append 1 (.t 71) (.t 73)),none,251008022,[251008024]⟩ (.one ⟨(some 60),(.load false 1 (.t 59)),none,251008008,[251008021,251008022,251008024]⟩ (.one ⟨(some 75),(.ec 1 (.t 55) (.t 60)),none,251008023,[251008024]⟩ (.one ⟨none,(.store 1 (.t 75) (.t 74)),none,251008024,[]⟩ (.eD false []))))))) (.both (.one ⟨(some 60),(.load false 1 (.t 59)),none,251008008,[251008021,251008022,251008024]⟩ (.both (.one ⟨(some 55),(.load false 1 (.t 54)),none,251008003,[251008021,251008022,251008024]⟩ (.one ⟨(some 74),(.append 1 (.t 71) (.t 73)),none,251008022,[251008024]⟩ (.one ⟨(some 75),(.ec 1 (.t 55) (.t 60)),none,251008023,[251008024]⟩ (.one ⟨none,(.store 1 (.t 75) (.t 74)),none,251008024,[]⟩ (.eD false []))))) (.one ⟨(some 74),(.append 1 (.t 71) (.t 73)),none,251008022,[251008024]⟩ (.one ⟨(some 55),(.load false 1 (.t 54)),none,251008003,[251008021,251008022,251008024]⟩ (.one ⟨(some 75),(.ec 1 (.t 55) (.t 60)),none,251008023,[251008024]⟩ (.one ⟨none,(.store 1 (.t 75) (.t 74)),none,251008024,[]⟩ (.eD false []))))))) (.one ⟨(some 74),(.append 1 (.t 71) (.t 73)),none,251008022,[251008024]⟩ (.one ⟨(some 55),(.load false 1 (.t 54)),none,251008003,[251008021,251008022,251008024]⟩ (.one ⟨(some 60),(.load false 1 (.t 59)),none,251008008,[251008021,251008022,251008024]⟩ (.one ⟨(some 75),(.ec 1 (.t 55) (.t 60)),none,251008023,[251008024]⟩ (.one ⟨none,(.store 1 (.t 75) (.t 74)),none,251008024,[]⟩ (.eD false [])))))))))) (.one ⟨(some 74),(.append 1 (.t 71) (.t 73)),none,251008022,[251008024]⟩ (.one ⟨(some 55),(.load false 1 (.t 54)),none,251008003,[251008021,251008022,251008024]⟩ (.one ⟨(some 58),(.ec 3 (.t 56) (.t 57)),none,251008006,[251008021,251008022,251008024]⟩ (.one ⟨(some 59),(.fI 1 (.t 58)),none,251008007,[251008021,251008022,251008024]⟩ (.one ⟨(some 60),(.load false 1 (.t 59)),none,251008008,[251008021,251008022,251008024]⟩ (.one ⟨(some 75),(.ec 1 (.t 55) (.t 60)),none,251008023,[251008024]⟩ (.one ⟨none,(.store 1 (.t 75) (.t 74)),none,251008024,[]⟩ (.eD false [])))))))))))))))))))))))))))))) (.eD false [q 26 (.dh (.t 6)) 251006000,q 27 (.bin .add .i64 (.t 26) (.k (.int .i64 1))) 251006001,q 6 (.dh (.t 27)) 251006002])))))) (.seq (.eD false [q 76 (.dh (.t 5)) 251009000,q 4 (.dh (.t 76)) 251009001]) .ret)))))),[(.tmp 4)]⟩
theorem NL:u9 Tryz.prog 251 [(7,2),(8,2)]=some Pp:=by kernel_rfl
def Pq:zd:=⟨118,2,(.seq (.eD false [q 4 (.dh (.k .cm)) 320000000]) (.seq (.eD false [q 17 (.dh (.t 0)) 320001000,q 18 (.j3 [.gT] (.t 17) (.t 17)) 320001001,q 5 (.dh (.t 18)) 320001002]) (.seq (.seq (.eD false [q 19 (.dh (.t 5)) 320002000,q 20 (.len (.t 19)) 320002001,q 21 (.dh (.k (.int .i64 0))) 320002002]) (.block 0 (.loop (.seq (.eD false [q 22 (.bin .lss .i64 (.t 21) (.t 20)) 320003000]) (.seq (.cond (.t 22) .skip (.exit 0)) (.seq (.block 1 (.seq (.eD false [q 23 (.dh (.t 21)) 320004000,q 6 (.dh (.t 23)) 320004001]) (.eD false [q 24 (.dh (.t 5)) 320005000,q 25 (.dh (.t 6)) 320005001,q 26 (.dh (.t 6)) 320005002,q 27 (.build [.gT,(.int .i64 0)] [(1,(1,(.t 26)))]) 320005003,q 28 (.box (.t 27)) 320005004,q 29 (.ec 1 (.t 24) (.t 25)) 320005005,⟨none,(.store 1 (.t 29) (.t 28)),none,320005006,[]⟩]))) (.eD false [q 30 (.bin .add .i64 (.t 21) (.k (.int .i64 1))) 320006000,q 21 (.dh (.t 30)) 320006001]))))))) (.seq (.seq (.eD false [q 31 (.dh (.t 1)) 320007000,q 32 (.len (.t 31)) 320007001,q 33 (.dh (.k (.int .i64 0))) 320007002]) (.block 2 (.loop (.seq (.eD false [q 34 (.bin .lss .i64 (.t 33) (.t 32)) 320008000]) (.seq (.cond (.t 34) .skip (.exit 2)) (.seq (.block 3 (.seq (.eD false [q 35 (.ec 3 (.t 31) (.t 33)) 320009000,q 36 (.load true 3 (.t 35)) 320009001,q 8 (.new [(.int .i64 0),(.int .i64 0),(.int .i64 0)]) 320009002,⟨none,(.store 3 (.t 8) (.t 36)),none,320009003,[]⟩]) (.seq (.one (q 37 (.dh (.t 5)) 320010000) (.one (q 38 (.fI 0 (.t 8)) 320010001) (.one (q 39 (.load false 1 (.t 38)) 320010002) (.one (q 40 (.ec 1 (.t 37) (.t 39)) 320010003) (.one (q 41 (.load false 1 (.t 40)) 320010004) (.one (q 43 (.dh (.t 5)) 320010006) (.one (q 44 (.fI 1 (.t 8)) 320010007) (.both (.one (q 42 (.call 334 [(.t 41)]) 320010005) (.one (q 45 (.load false 1 (.t 44)) 320010008) (.one (q 46 (.ec 1 (.t 43) (.t 45)) 320010009) (.one (q 47 (.load false 1 (.t 46)) 320010010) (.one (q 48 (.call 334 [(.t 47)]) 320010011) (.one (q 9 (.dh (.t 42)) 320010012) (.one (q 10 (.dh (.t 48)) 320010013) (.eD false [])))))))) (.one (q 45 (.load false 1 (.t 44)) 320010008) (.both (.one (q 42 (.call 334 [(.t 41)]) 320010005) (.one (q 46 (.ec 1 (.t 43) (.t 45)) 320010009) (.one (q 47 (.load false 1 (.t 46)) 320010010) (.one (q 48 (.call 334 [(.t 47)]) 320010011) (.one (q 9 (.dh (.t 42)) 320010012) (.one (q 10 (.dh (.t 48)) 320010013) (.eD false []))))))) (.one (q 46 (.ec 1 (.t 43) (.t 45)) 320010009) (.both (.one (q 42 (.call 334 [(.t 41)]) 320010005) (.one (q 47 (.load false 1 (.t 46)) 320010010) (.one (q 48 (.call 334 [(.t 47)]) 320010011) (.one (q 9 (.dh (.t 42)) 320010012) (.one (q 10 (.dh (.t 48)) 320010013) (.eD false [])))))) (.one (q 47 (.load false 1 (.t 46)) 320010010) (.one (q 42 (.call 334 [(.t 41)]) 320010005) (.one (q 48 (.call 334 [(.t 47)]) 320010011) (.one (q 9 (.dh (.t 42)) 320010012) (.one (q 10 (.dh (.t 48)) 320010013) (.eD false [])))))))))))))))))) (.block 4 (.seq (.eD true [q 50 (.dh (.t 9)) 320011000,q 51 (.xZ (.t 50)) 320011001,q 52 (.fI 1 (.t 51)) 320011002,q 53 (.load false 1 (.t 52)) 320011003,q 54 (.dh (.t 10)) 320011004,q 55 (.xZ (.t 54)) 320011005,q 56 (.fI 1 (.t 55)) 320011006,q 57 (.load false 1 (.t 56)) 320011007,q 58 (.bin .lss .i64 (.t 53) (.t 57)) 320011008,q 49 (.dh (.t 58)) 320011009]) (.cond (.t 49) (.eD false [q 59 (.dh (.t 10)) 320012000,q 60 (.dh (.t 9)) 320012001,q 61 (.xZ (.t 59)) 320012002,q 62 (.fI 0 (.t 61)) 320012003,⟨none,(.store 1 (.t 62) (.t 60)),none,320012004,[]⟩]) (.seq (.eD true [q 64 (.dh (.t 10)) 320013000,q 65 (.xZ (.t 64)) 320013001,q 66 (.fI 1 (.t 65)) 320013002,q 67 (.load false 1 (.t 66)) 320013003,q 68 (.dh (.t 9)) 320013004,q 69 (.xZ (.t 68)) 320013005,q 70 (.fI 1 (.t 69)) 320013006,q 71 (.load false 1 (.t 70)) 320013007,q 72 (.bin .lss .i64 (.t 67) (.t 71)) 320013008,q 63 (.dh (.t 72)) 320013009]) (.cond (.t 63) (.eD false [q 73 (.dh (.t 9)) 320014000,q 74 (.dh (.t 10)) 320014001,q 75 (.xZ (.t 73)) 320014002,q 76 (.fI 0 (.t 75)) 320014003,⟨none,(.store 1 (.t 76) (.t 74)),none,320014004,[]⟩]) .skip)))))))) (.eD false [q 77 (.bin .add .i64 (.t 33) (.k (.int .i64 1))) 320015000,q 33 (.dh (.t 77)) 320015001]))))))) (.seq (.eD false [q 11 (.dh (.k .cm)) 320016000]) (.seq (.eD false [⟨(some 78),(.mq (.new ⟨false,[.tI]⟩) []),none,320017000,[]⟩,q 12 (.dh (.t 78)) 320017001]) (.seq (.seq (.eD false [q 79 (.dh (.t 5)) 320018000,q 80 (.len (.t 79)) 320018001,q 81 (.dh (.k (.int .i64 0))) 320018002]) (.block 5 (.loop (.seq (.eD false [q 82 (.bin .lss .i64 (.t 81) (.t 80)) 320019000]) (.seq (.cond (.t 82) .skip (.exit 5)) (.seq (.block 6 (.seq (.eD false [q 83 (.dh (.t 81)) 320020000,q 84 (.ec 1 (.t 79) (.t 81)) 320020001,q 85 (.load false 1 (.t 84)) 320020002,q 13 (.dh (.t 83)) 320020003,q 14 (.dh (.t 85)) 320020004]) (.seq (.eD false [q 87 (.dh (.t 12)) 320021000,q 88 (.dh (.t 14)) 320021001,q 89 (.call 334 [(.t 88)]) 320021002,q 90 (.xZ (.t 89)) 320021003,q 91 (.fI 1 (.t 90)) 320021004,q 92 (.load false 1 (.t 91)) 320021005,⟨(some 93),(.mq (.look ⟨false,[.tI]⟩ true (.int .i64 0)) [(.t 87),(.t 92)]),none,320021006,[]⟩,q 86 (.dh (.t 93)) 320021007,q 94 (.extract 0 (.t 86)) 320021008,q 95 (.extract 1 (.t 86)) 320021009,q 15 (.dh (.t 94)) 320021010,q 16 (.dh (.t 95)) 320021011]) (.seq (.seq (.eD false [q 96 (.dh (.t 16)) 320022000,q 97 (.not (.t 96)) 320022001]) (.cond (.t 97) (.seq (.eD false [q 98 (.dh (.t 11)) 320023000,q 99 (.len (.t 98)) 320023001,q 15 (.dh (.t 99)) 320023002]) (.seq (.eD false [q 100 (.dh (.t 12)) 320024000,q 101 (.dh (.t 13)) 320024001,q 102 (.dh (.t 15)) 320024002,⟨none,(.mw (.set ⟨false,[.tI]⟩) [(.t 100),(.t 101),(.t 102)]),none,320024003,[]⟩]) (.eD false [q 103 (.dh (.t 11)) 320025000,q 104 (.kO 1 1 [(.k .cm)]) 320025001,q 105 (.append 1 (.t 103) (.t 104)) 320025002,q 11 (.dh (.t 105)) 320025003]))) .skip)) (.eD false [q 106 (.dh (.t 11)) 320026000,q 107 (.dh (.t 15)) 320026001,q 108 (.dh (.t 11)) 320026002,q 109 (.dh (.t 15)) 320026003,q 110 (.ec 1 (.t 108) (.t 109)) 320026004,q 111 (.load false 1 (.t 110)) 320026005,q 112 (.dh (.t 13)) 320026006,q 113 (.kO 1 1 [(.t 112)]) 320026007,q 114 (.append 1 (.t 111) (.t 113)) 320026008,q 115 (.ec 1 (.t 106) (.t 107)) 320026009,⟨none,(.store 1 (.t 115) (.t 114)),none,320026010,[]⟩]))))) (.eD false [q 116 (.bin .add .i64 (.t 81) (.k (.int .i64 1))) 320027000,q 81 (.dh (.t 116)) 320027001]))))))) (.seq (.eD false [q 117 (.dh (.t 11)) 320028000,q 4 (.dh (.t 117)) 320028001]) .ret)))))))),[(.tmp 4)]⟩
theorem NM:u9 Tryz.prog 320 [(10,2)]=some Pq:=by kernel_rfl
def Po:zd:=⟨22,2,(.seq (.eD false [q 4 (.new [.cm]) 176000000]) (.seq (.one ⟨(some 5),(.kO 3 0 []),none,176001000,[176001007,176001015,176001017]⟩ (.one ⟨(some 6),(.dh (.t 0)),none,176001001,[176001000,176001007,176001015,176001017]⟩ (.one ⟨(some 7),(.xZ (.t 6)),none,176001002,[176001000,176001007,176001015,176001017]⟩ (.one ⟨(some 8),(.fI 0 (.t 7)),none,176001003,[176001000,176001007,176001015,176001017]⟩ (.one ⟨(some 9),(.load false 1 (.t 8)),none,176001004,[176001000,176001007,176001015,176001017]⟩ (.one ⟨(some 10),(.dh (.t 1)),none,176001005,[176001000,176001007,176001015,176001017]⟩ (.one ⟨(some 11),(.slice 3 (.t 9) none (some (.t 10))),none,176001006,[176001000,176001007,176001015,176001017]⟩ (.one ⟨(some 13),(.dh (.t 0)),none,176001008,[176001000,176001007,176001015,176001017]⟩ (.one ⟨(some 14),(.xZ (.t 13)),none,176001009,[176001000,176001007,176001015,176001017]⟩ (.one ⟨(some 15),(.fI 0 (.t 14)),none,176001010,[176001000,176001007,176001015,176001017]⟩ (.one ⟨(some 17),(.dh (.t 1)),none,176001012,[176001000,176001007,176001015,176001017]⟩ (.one ⟨(some 18),(.bin .add .i64 (.t 17) (.k (.int .i64 1))),none,176001013,[176001000,176001007,176001015,176001017]⟩ (.loc 5 176001000 (.t 11) (.one ⟨(some 12),(.append 3 (.t 5) (.t 11)),none,176001007,[176001015,176001017]⟩ (.one ⟨(some 16),(.load false 1 (.t 15)),none,176001011,[176001000,176001007,176001015,176001017]⟩ (.one ⟨(some 19),(.slice 3 (.t 16) (some (.t 18)) none),none,176001014,[176001000,176001007,176001015,176001017]⟩ (.one ⟨(some 20),(.append 3 (.t 12) (.t 19)),none,176001015,[176001017]⟩ (.one ⟨(some 21),(.build [.cm] [(0,(1,(.t 20)))]),none,176001016,[176001017]⟩ (.one ⟨none,(.store 1 (.t 4) (.t 21)),none,176001017,[]⟩ (.eD false [])))))))))))))))))))) .ret)),[(.cell true 1 4)]⟩
theorem NK:u9 Tryz.prog 176 [(1,2)]=some Po:=by kernel_rfl
end Go.Proofs.YtgoljkjaameagaaGreat.V

namespace Go.Proofs.YtgoljkjaameagaaGreat.V
open Go.RowKit
attribute [local irreducible] dE wpOps fS Call
attribute [local go_sem] aH fq eG fH fG cX upd bZ K.av cD AV.cells AV.cell rowOf rowsOf part ld rowAt br bP dn dR gK bx cQ eb fD eS di dW cN cL dH dI bD aW cF bB cH cG dU dX dV cE bG cP dS bz aI cJ cq gJ bj cz bE aT de aX dp AV.undef bq bt dL dQ dB dz cw ea ee cj dZ dY cI cK List.getD_cons_zero List.getD_cons_succ List.getD_nil List.all_cons List.all_nil Bool.and_true Bool.true_and Bool.and_self Bool.not_true Bool.not_false Option.map_some Option.map_none Option.bind_some Option.bind_none List.length_cons List.length_nil List.take_succ_cons List.take_zero List.take_nil List.drop_succ_cons List.drop_zero List.drop_nil List.head?_cons List.map_cons List.map_nil List.getElem?_cons_zero List.getElem?_cons_succ List.cons_append List.nil_append List.append_nil List.length_map List.set_cons_zero List.set_cons_succ Nat.reduceMul eq_self Int.toNat_natCast Int.natCast_nonneg and_self true_and and_true decide_true decide_false Bool.false_eq_true Nat.zero_add Nat.add_zero List.contains_cons List.contains_nil Bool.or_false Bool.false_or beq_self_eq_true Nat.reduceBEq ne_eq not_true_eq_false not_false_eq_true Id.mk.injEq false_and and_false Nat.reduceLT Int.reduceLE Int.reduceLT Int.reduceToNat Int.reduceNeg Int.reduceAdd Nat.le_refl List.length_append beq_true beq_false Bool.not_eq_eq_eq_not or_false false_or dD ah aq aF aY bp bK aP bc aN aV cC bF
def jb (n lo hi:Int):Bool:=decide (lo<=n)&&decide (n<=hi)
theorem ek {n lo hi:Int} (h:jb n lo hi=true):lo<=n/\n<=hi:=by simpa[jb]using h
theorem kU {n lo hi:Int} (h:lo<=n/\n<=hi):jb n lo hi=true:=by simpa[jb]using h
def Cb (p:au):Bool:=jb p.eT (-60) 60&&jb p.eO (-60) 60
theorem lT (n lo hi:Int):aj Tryz.prog 95 [.int .i64 n,.int .i64 lo,.int .i64 hi] (.bool (jb n lo hi)):=by
 refine aj.body eH rfl fun hl n0=>?_
 clear hl
 by_cases h1:lo<=n
 ·(try((repeat(revert hN;revert N;apply Pn.out));refine wk @h1 ?_;(repeat(refine Pn.mk ?_;intro N hN))))
  exact aM (b:=decide (n<=hi)) (.inl rfl) (sd @Nat.zero_add) (by simp[jb,h1])
 ·(try((repeat(revert hN;revert N;apply Pn.out));refine wk @h1 ?_;(repeat(refine Pn.mk ?_;intro N hN))))
  exact aM (b:=false) (.inl rfl) (sd @Nat.zero_add) (by simp[jb,h1])
theorem lp (n lo hi:Int):aj Tryz.prog 98 [.int .i64 n,.int .i64 lo,.int .i64 hi] (.bool (jb n lo hi)):=by
 refine aj.body eH rfl fun hl n0=>?_
 clear hl
 by_cases h1:lo<=n
 ·(try((repeat(revert hN;revert N;apply Pn.out));refine wk @h1 ?_;(repeat(refine Pn.mk ?_;intro N hN))))
  exact aM (b:=decide (n<=hi)) (.inl rfl) (sd @Nat.zero_add) (by simp[jb,h1])
 ·(try((repeat(revert hN;revert N;apply Pn.out));refine wk @h1 ?_;(repeat(refine Pn.mk ?_;intro N hN))))
  exact aM (b:=false) (.inl rfl) (sd @Nat.zero_add) (by simp[jb,h1])
theorem Jh (d:Int):aj Tryz.prog 278 [.int .i64 d] (.bool (jb d 0 3)):=by
 refine aj.body eH rfl fun hl n0=>?_
 clear hl
 have h:=lT d 0 3
 (repeat(first|((repeat(revert hN;revert N;apply Pn.out));refine wk @Nat.zero_add ?_;(repeat(refine Pn.mk ?_;intro N hN)))|((try apply Or.inl);refine⟨_,aj.x (h) (sd @Nat.zero_add),?_⟩;refine hN _ _ ?_;clear hN N)))
 exact aM (b:=jb d 0 3) (.inl rfl) (sd @Nat.zero_add) rfl
theorem we (p:au):aj Tryz.prog 222 [.agg (ae p)] (.bool (Cb p)):=by
 refine aj.body eH rfl fun hl n0=>?_
 clear hl
 have h1:=lT p.eT (-60) 60
 have h2:=lT p.eO (-60) 60
 by_cases q:jb p.eT (-60) 60=true
 ·rw[q]at h1
  (repeat(first|((repeat(revert hN;revert N;apply Pn.out));refine wk @ae.eq_1 ?_;(repeat(refine Pn.mk ?_;intro N hN)))|((try apply Or.inl);refine⟨_,aj.x (h1) (sd @ae.eq_1),?_⟩;refine hN _ _ ?_;clear hN N)|((try apply Or.inl);refine⟨_,aj.x (h2) (sd @ae.eq_1),?_⟩;refine hN _ _ ?_;clear hN N)))
  exact aM (b:=jb p.eO (-60) 60) (.inl rfl) (sd @Nat.zero_add) (by rw[Cb,q];rfl)
 ·rw[Bool.not_eq_true]at q
  rw[q]at h1
  (repeat(first|((repeat(revert hN;revert N;apply Pn.out));refine wk @ae.eq_1 ?_;(repeat(refine Pn.mk ?_;intro N hN)))|((try apply Or.inl);refine⟨_,aj.x (h1) (sd @ae.eq_1),?_⟩;refine hN _ _ ?_;clear hN N)|((try apply Or.inl);refine⟨_,aj.x (h2) (sd @ae.eq_1),?_⟩;refine hN _ _ ?_;clear hN N)))
  exact aM (b:=false) (.inl rfl) (sd @Nat.zero_add) (by rw[Cb,q];rfl)
theorem qZ (p:au):aj Tryz.prog 256 [.agg (ae p)] (.bool (Cb p)):=by
 refine aj.body eH rfl fun hl n0=>?_
 clear hl
 have h1:=lp p.eT (-60) 60
 have h2:=lp p.eO (-60) 60
 by_cases q:jb p.eT (-60) 60=true
 ·rw[q]at h1
  (repeat(first|((repeat(revert hN;revert N;apply Pn.out));refine wk @ae.eq_1 ?_;(repeat(refine Pn.mk ?_;intro N hN)))|((try apply Or.inl);refine⟨_,aj.x (h1) (sd @ae.eq_1),?_⟩;refine hN _ _ ?_;clear hN N)|((try apply Or.inl);refine⟨_,aj.x (h2) (sd @ae.eq_1),?_⟩;refine hN _ _ ?_;clear hN N)))
  exact aM (b:=jb p.eO (-60) 60) (.inl rfl) (sd @Nat.zero_add) (by rw[Cb,q];rfl)
 ·rw[Bool.not_eq_true]at q
  rw[q]at h1
  (repeat(first|((repeat(revert hN;revert N;apply Pn.out));refine wk @ae.eq_1 ?_;(repeat(refine Pn.mk ?_;intro N hN)))|((try apply Or.inl);refine⟨_,aj.x (h1) (sd @ae.eq_1),?_⟩;refine hN _ _ ?_;clear hN N)|((try apply Or.inl);refine⟨_,aj.x (h2) (sd @ae.eq_1),?_⟩;refine hN _ _ ?_;clear hN N)))
  exact aM (b:=false) (.inl rfl) (sd @Nat.zero_add) (by rw[Cb,q];rfl)
def sZ (d:Int):Int:=if jb d 0 3 then(d+2) % 4 else -1
def dy (p:au) (d:Int):au:=
 if d=0 then⟨p.eT,p.eO+1⟩else if d=1 then⟨p.eT+1,p.eO⟩else if d=2 then⟨p.eT,p.eO-1⟩else if d=3 then⟨p.eT-1,p.eO⟩else p
def iB (n:Int):Prop:=-4611686018427387904<=n/\n<=4611686018427387904
theorem yD (p:au) (d:Int) (hd:jb d 0 3=true) (hx:iB p.eT) (hy:iB p.eO):aj Tryz.prog 221 [.agg (ae p),.int .i64 d] (.agg (ae (dy p d))):=by
 refine aj.body eH rfl fun hl n0=>?_
 clear hl
 obtain⟨x1,x2⟩:=hx
 obtain⟨y1,y2⟩:=hy
 have w1:IntKind.i64.wrap (p.eT+1)=p.eT+1:=bU (by omega)
 have w2:IntKind.i64.wrap (p.eT-1)=p.eT-1:=bU (by omega)
 have w3:IntKind.i64.wrap (p.eO+1)=p.eO+1:=bU (by omega)
 have w4:IntKind.i64.wrap (p.eO-1)=p.eO-1:=bU (by omega)
 have hb:=ek hd
 have hc:d=0∨d=1∨d=2∨d=3:=by omega
 rcases hc with rfl|rfl|rfl|rfl
 ·(try((repeat(revert hN;revert N;apply Pn.out));refine wk (tw @ae.eq_1 @w3) ?_;(repeat(refine Pn.mk ?_;intro N hN))))
  exact iJ (.inl rfl) (vs:=[.agg (ae (dy p 0))]) (by simp only[go_sem, ↓reduceIte,Nat.reduceEqDiff,Nat.reduceAdd,Nat.reduceSub,Nat.reduceLeDiff,reduceCtorEq,fe,ig,ae,dy]) (by simp[eL,ae,gD,eA])
 ·(try((repeat(revert hN;revert N;apply Pn.out));refine wk (tw @ae.eq_1 @w1) ?_;(repeat(refine Pn.mk ?_;intro N hN))))
  exact iJ (.inl rfl) (vs:=[.agg (ae (dy p 1))]) (by simp[fe,ig,ae,dy,ld,rowAt,br,upd,part]) (by simp[eL,ae,gD,eA])
 ·(try((repeat(revert hN;revert N;apply Pn.out));refine wk (tw @ae.eq_1 @w4) ?_;(repeat(refine Pn.mk ?_;intro N hN))))
  exact iJ (.inl rfl) (vs:=[.agg (ae (dy p 2))]) (by simp[fe,ig,ae,dy,ld,rowAt,br,upd,part]) (by simp[eL,ae,gD,eA])
 ·(try((repeat(revert hN;revert N;apply Pn.out));refine wk (tw @ae.eq_1 @w2) ?_;(repeat(refine Pn.mk ?_;intro N hN))))
  exact iJ (.inl rfl) (vs:=[.agg (ae (dy p 3))]) (by simp[fe,ig,ae,dy,ld,rowAt,br,upd,part]) (by simp[eL,ae,gD,eA])
theorem z7 (p p2:au) (x y:Int) (hx:IntKind.i64.wrap (p.eT+p2.eT)=x) (hy:IntKind.i64.wrap (p.eO+p2.eO)=y):aj Tryz.prog 280 [.agg (ae p),.agg (ae p2)] (.agg [.int .i64 x,.int .i64 y]):=by
 refine aj.body eH rfl fun hl n0=>?_
 clear hl
 (try((repeat(revert hN;revert N;apply Pn.out));refine wk (tw @ae.eq_1 (tw @hx @hy)) ?_;(repeat(refine Pn.mk ?_;intro N hN))))
 exact iJ (.inl rfl) (vs:=[.agg [.int .i64 x,.int .i64 y]]) (by simp only[go_sem, ↓reduceIte,Nat.reduceEqDiff,Nat.reduceAdd,Nat.reduceSub,Nat.reduceLeDiff,reduceCtorEq,fe,ig,ae]) (by simp[eL,gD,eA])
theorem Er (p:au) (d:Int) (hd:jb d 0 3=true) (hx:iB p.eT) (hy:iB p.eO):aj Tryz.prog 228 [.agg (ae p),.int .i64 d] (.agg (ae (dy p d))):=by
 refine aj.body eH rfl fun hl n0=>?_
 clear hl
 obtain⟨x1,x2⟩:=hx
 obtain⟨y1,y2⟩:=hy
 have hb:=ek hd
 have hc:d=0∨d=1∨d=2∨d=3:=by omega
 rcases hc with rfl|rfl|rfl|rfl
 ·have h:=z7 p ⟨0,1⟩ (p.eT) (p.eO+1) (by rw[bU (by constructor<;>simp only<;>omega)]<;>(try simp only)<;>(try omega)) (by rw[bU (by constructor<;>simp only<;>omega)]<;>(try simp only)<;>(try omega))
  simp only[ae]at h
  (repeat(first|((repeat(revert hN;revert N;apply Pn.out));refine wk @ae.eq_1 ?_;(repeat(refine Pn.mk ?_;intro N hN)))|((try apply Or.inl);refine⟨_,aj.x (h) (sd @ae.eq_1),?_⟩;refine hN _ _ ?_;clear hN N)))
  exact iJ (.inl rfl) (vs:=[.agg (ae (dy p 0))]) (by simp[fe,ig,ae,dy,ld,rowAt,br,upd,part]) (by simp[eL,ae,gD,eA])
 ·have h:=z7 p ⟨1,0⟩ (p.eT+1) (p.eO) (by rw[bU (by constructor<;>simp only<;>omega)]<;>(try simp only)<;>(try omega)) (by rw[bU (by constructor<;>simp only<;>omega)]<;>(try simp only)<;>(try omega))
  simp only[ae]at h
  (repeat(first|((repeat(revert hN;revert N;apply Pn.out));refine wk @ae.eq_1 ?_;(repeat(refine Pn.mk ?_;intro N hN)))|((try apply Or.inl);refine⟨_,aj.x (h) (sd @ae.eq_1),?_⟩;refine hN _ _ ?_;clear hN N)))
  exact iJ (.inl rfl) (vs:=[.agg (ae (dy p 1))]) (by simp[fe,ig,ae,dy,ld,rowAt,br,upd,part]) (by simp[eL,ae,gD,eA])
 ·have h:=z7 p ⟨0,(-1)⟩ (p.eT) (p.eO-1) (by rw[bU (by constructor<;>simp only<;>omega)]<;>(try simp only)<;>(try omega)) (by rw[bU (by constructor<;>simp only<;>omega)]<;>(try simp only)<;>(try omega))
  simp only[ae]at h
  (repeat(first|((repeat(revert hN;revert N;apply Pn.out));refine wk @ae.eq_1 ?_;(repeat(refine Pn.mk ?_;intro N hN)))|((try apply Or.inl);refine⟨_,aj.x (h) (sd @ae.eq_1),?_⟩;refine hN _ _ ?_;clear hN N)))
  exact iJ (.inl rfl) (vs:=[.agg (ae (dy p 2))]) (by simp[fe,ig,ae,dy,ld,rowAt,br,upd,part]) (by simp[eL,ae,gD,eA])
 ·have h:=z7 p ⟨(-1),0⟩ (p.eT-1) (p.eO) (by rw[bU (by constructor<;>simp only<;>omega)]<;>(try simp only)<;>(try omega)) (by rw[bU (by constructor<;>simp only<;>omega)]<;>(try simp only)<;>(try omega))
  simp only[ae]at h
  (repeat(first|((repeat(revert hN;revert N;apply Pn.out));refine wk @ae.eq_1 ?_;(repeat(refine Pn.mk ?_;intro N hN)))|((try apply Or.inl);refine⟨_,aj.x (h) (sd @ae.eq_1),?_⟩;refine hN _ _ ?_;clear hN N)))
  exact iJ (.inl rfl) (vs:=[.agg (ae (dy p 3))]) (by simp[fe,ig,ae,dy,ld,rowAt,br,upd,part]) (by simp[eL,ae,gD,eA])
theorem DZ (d:Int) (hd:jb d 0 3=true):aj Tryz.prog 304 [.int .i64 d] (.int .i64 (sZ d)):=by
 refine aj.body eH rfl fun hl n0=>?_
 clear hl
 have hb:=ek hd
 have hw:IntKind.i64.wrap (d+2)=d+2:=bU (by omega)
 have ht:Int.tmod (d+2) 4=(d+2) % 4:=Int.tmod_eq_emod_of_nonneg (by omega)
 have h4:¬((4:Int)=0):=by omega
 (try((repeat(revert hN;revert N;apply Pn.out));refine wk (tw @hw (tw @ht @h4)) ?_;(repeat(refine Pn.mk ?_;intro N hN))))
 exact bQ (b:=(d+2) % 4) (.inl rfl) (sd @Nat.zero_add) (by rw[sZ,if_pos hd])
theorem CU (d:Int) (hd:jb d 0 3=true):aj Tryz.prog 224 [.int .i64 d] (.int .i64 (sZ d)):=by
 refine aj.body eH rfl fun hl n0=>?_
 clear hl
 have hb:=ek hd
 have hw:IntKind.i64.wrap (d+2)=d+2:=bU (by omega)
 have ht:Int.tmod (d+2) 4=(d+2) % 4:=Int.tmod_eq_emod_of_nonneg (by omega)
 have h4:¬((4:Int)=0):=by omega
 have h:=Jh d
 rw[hd]at h
 (repeat(first|((repeat(revert hN;revert N;apply Pn.out));refine wk (tw @hw (tw @ht @h4)) ?_;(repeat(refine Pn.mk ?_;intro N hN)))|((try apply Or.inl);refine⟨_,aj.x (h) (sd (tw @hw (tw @ht @h4))),?_⟩;refine hN _ _ ?_;clear hN N)))
 exact bQ (b:=(d+2) % 4) (.inl rfl) (sd @Nat.zero_add) (by rw[sZ,if_pos hd])
def eP (s:ay) (t:Int):Bool:=jb t 0 ((s.ai.length:Int)-1)
theorem wg (s:ay) (t:Int):aj Tryz.prog 220 [.cR (ad s),.int .i64 t] (.bool (eP s t)):=by
 refine aj.body eH rfl fun hl n0=>?_
 have hn:s.ai.length<=9223372036854775807:=by
  have h1:=(hl (.cR (ad s)) (by simp)).BO (a:=.sl (s.ai.map bI)) (by simp[ad])
  simpa using h1.len
 clear hl
 have hw:IntKind.i64.wrap ((s.ai.length:Int)-1)=(s.ai.length:Int)-1:=bU (by omega)
 have h:=lT t 0 ((s.ai.length:Int)-1)
 (repeat(first|((repeat(revert hN;revert N;apply Pn.out));refine wk (tw @ad.eq_1 @hw) ?_;(repeat(refine Pn.mk ?_;intro N hN)))|((try apply Or.inl);refine⟨_,aj.x (h) (sd (tw @ad.eq_1 @hw)),?_⟩;refine hN _ _ ?_;clear hN N)))
 exact aM (b:=eP s t) (.inl rfl) (by simp only[go_sem, ↓reduceIte,Nat.reduceEqDiff,Nat.reduceAdd,Nat.reduceSub,Nat.reduceLeDiff,reduceCtorEq,eP]) rfl
theorem yy (t n:Int) (h0:0<=n) (h1:n<=9223372036854775807):aj Tryz.prog 257 [.int .i64 t,.int .i64 n] (.bool (jb t 0 (n-1))):=by
 refine aj.body eH rfl fun hl n0=>?_
 clear hl
 have hw:IntKind.i64.wrap (n-1)=n-1:=bU (by omega)
 have h:=lp t 0 (n-1)
 (repeat(first|((repeat(revert hN;revert N;apply Pn.out));refine wk @hw ?_;(repeat(refine Pn.mk ?_;intro N hN)))|((try apply Or.inl);refine⟨_,aj.x (h) (sd @hw),?_⟩;refine hN _ _ ?_;clear hN N)))
 exact aM (b:=jb t 0 (n-1)) (.inl rfl) (sd @Nat.zero_add) rfl
theorem Jg (s:ay) (t:Int):aj Tryz.prog 203 [.agg (ad s),.int .i64 t] (.bool (eP s t)):=by
 refine aj.body eH rfl fun hl n0=>?_
 have hn:s.ai.length<=9223372036854775807:=by
  have h1:=(hl (.agg (ad s)) (by simp)).NC (a:=.sl (s.ai.map bI)) (by simp[ad])
  simpa using h1.len
 clear hl
 have h:=yy t s.ai.length (by omega) (by omega)
 (repeat(first|((repeat(revert hN;revert N;apply Pn.out));refine wk @ad.eq_1 ?_;(repeat(refine Pn.mk ?_;intro N hN)))|((try apply Or.inl);refine⟨_,aj.x (h) (sd @ad.eq_1),?_⟩;refine hN _ _ ?_;clear hN N)))
 exact aM (b:=eP s t) (.inl rfl) (by simp only[go_sem, ↓reduceIte,Nat.reduceEqDiff,Nat.reduceAdd,Nat.reduceSub,Nat.reduceLeDiff,reduceCtorEq,eP]) rfl
def zY:fy:=⟨⟨#[]⟩,[]⟩
def dx (s:ay) (t:Int):fy:=s.ai.getD t.toNat zY
def dw (t:fy) (d:Int):Int:=t.cu.getD d.toNat 0
def qu (s:ay) (g:Int):iq:=s.aE.getD g.toNat ⟨⟨#[]⟩,0⟩
def td (s:ay) (g:Int):Int:=if g=0 then 0 else(qu s (g-1)).eK
def gZ (s:ay) (a d b:Int):Int:=if dw (dx s a) d=dw (dx s b) (sZ d)then td s (dw (dx s a) d)else 0
structure kK (s:ay):Prop where
 wR:∀t∈s.ai,t.cu.length=4
 vL:∀t∈s.ai,∀g∈t.cu,0<=g/\g<=s.aE.length
theorem getD_map {α β:Type} (e:α->β) {l:List α} {k:Nat} {d:α} (h:k<l.length):(l.map e)[k]? =some (e (l.getD k d)):=by simp[List.getD_eq_getElem?_getD,h]
theorem xG (s:ay) (g:Int) (h0:0<=g) (h1:g<=s.aE.length):aj Tryz.prog 225 [.cR (ad s),.int .i64 g] (.int .i64 (td s g)):=by
 refine aj.body eH rfl fun hl n0=>?_
 have hn:s.aE.length<=9223372036854775807:=by
  have h1:=(hl (.cR (ad s)) (by simp)).BO (a:=.sl (s.aE.map cU)) (by simp[ad])
  simpa using h1.len
 clear hl
 by_cases hg:g=0
 ·have e:decide (g=0)=true:=decide_eq_true hg
  (try((repeat(revert hN;revert N;apply Pn.out));refine wk (tw @ad.eq_1 @e) ?_;(repeat(refine Pn.mk ?_;intro N hN))))
  exact bQ (b:=0) (.inl rfl) (sd @Nat.zero_add) (by rw[td,if_pos hg])
 ·have e:decide (g=0)=false:=decide_eq_false hg
  have hw:IntKind.i64.wrap (g-1)=g-1:=bU (by omega)
  have pq:0<=g-1:=by omega
  have fW:(s.aE.map cU)[(g-1).toNat]? =some (cU (qu s (g-1))):=getD_map cU (by omega)
  (try((repeat(revert hN;revert N;apply Pn.out));refine wk (tw @ad.eq_1 (tw @e (tw @hw (tw @pq (tw @fW @cU.eq_1))))) ?_;(repeat(refine Pn.mk ?_;intro N hN))))
  exact bQ (b:=(qu s (g-1)).eK) (.inl rfl) (sd @Nat.zero_add) (by rw[td,if_neg hg])
theorem pc {s:ay} {a:Int} (h:eP s a=true):0<=a/\(s.ai.map bI)[a.toNat]? =some (bI (dx s a))/\dx s a∈s.ai:=by
 have h':=ek h
 have dJ:a.toNat<s.ai.length:=by omega
 refine⟨h'.1,getD_map bI dJ,?_⟩
 unfold dx
 rw[List.getD_eq_getElem?_getD,List.getElem?_eq_getElem dJ]
 exact List.getElem_mem dJ
theorem o8 {t:fy} {d:Int} (h:t.cu.length=4) (hd:jb d 0 3=true):(t.cu.map bJ)[d.toNat]? =some [.int .i64 (dw t d)]:=by
 have:=ek hd
 exact getD_map bJ (by omega)
theorem Cl {t:fy} {d:Int} (h:t.cu.length=4) (hd:jb d 0 3=true):dw t d∈t.cu:=by
 have:=ek hd
 have dJ:d.toNat<t.cu.length:=by omega
 unfold dw
 rw[List.getD_eq_getElem?_getD,List.getElem?_eq_getElem dJ]
 exact List.getElem_mem dJ
theorem zZ {d:Int} (hd:jb d 0 3=true):jb (sZ d) 0 3=true:=by
 have:=ek hd
 refine kU ?_
 rw[sZ,if_pos hd];omega
theorem yE (s:ay) (hF:kK s) (a d b:Int) (ha:eP s a=true) (hb:eP s b=true) (hd:jb d 0 3=true):aj Tryz.prog 190 [.cR (ad s),.int .i64 a,.int .i64 d,.int .i64 b] (.int .i64 (gZ s a d b)):=by
 refine aj.body eH rfl fun hl n0=>?_
 clear hl
 obtain⟨a0,a1,a2⟩:=pc ha
 obtain⟨b0,b1,b2⟩:=pc hb
 have s1:=o8 (hF.wR _ a2) hd
 have s2:=o8 (hF.wR _ b2) (zZ hd)
 have gl:=hF.vL _ a2 _ (Cl (hF.wR _ a2) hd)
 have d0:=(ek hd).1
 have d1:=(ek (zZ hd)).1
 have h:=CU d hd
 have hs:=xG s (dw (dx s a) d) gl.1 gl.2
 rw[ad]at hs
 by_cases e:dw (dx s a) d=dw (dx s b) (sZ d)
 ·have e':decide (dw (dx s a) d=dw (dx s b) (sZ d))=true:=decide_eq_true e
  (repeat(first|((repeat(revert hN;revert N;apply Pn.out));refine wk (tw @ad.eq_1 (tw @bI.eq_1 (tw @a0 (tw @a1 (tw @b0 (tw @b1 (tw @s1 (tw @s2 (tw @d0 (tw @d1 @e')))))))))) ?_;(repeat(refine Pn.mk ?_;intro N hN)))|((try apply Or.inl);refine⟨_,aj.x (h) (sd (tw @ad.eq_1 (tw @bI.eq_1 (tw @a0 (tw @a1 (tw @b0 (tw @b1 (tw @s1 (tw @s2 (tw @d0 (tw @d1 @e'))))))))))),?_⟩;refine hN _ _ ?_;clear hN N)|((try apply Or.inl);refine⟨_,aj.x (hs) (sd (tw @ad.eq_1 (tw @bI.eq_1 (tw @a0 (tw @a1 (tw @b0 (tw @b1 (tw @s1 (tw @s2 (tw @d0 (tw @d1 @e'))))))))))),?_⟩;refine hN _ _ ?_;clear hN N)))
  exact bQ (b:=td s (dw (dx s a) d)) (.inl rfl) (sd @Nat.zero_add) (by rw[gZ,if_pos e])
 ·have e':decide (dw (dx s a) d=dw (dx s b) (sZ d))=false:=decide_eq_false e
  (repeat(first|((repeat(revert hN;revert N;apply Pn.out));refine wk (tw @ad.eq_1 (tw @bI.eq_1 (tw @a0 (tw @a1 (tw @b0 (tw @b1 (tw @s1 (tw @s2 (tw @d0 (tw @d1 @e')))))))))) ?_;(repeat(refine Pn.mk ?_;intro N hN)))|((try apply Or.inl);refine⟨_,aj.x (h) (sd (tw @ad.eq_1 (tw @bI.eq_1 (tw @a0 (tw @a1 (tw @b0 (tw @b1 (tw @s1 (tw @s2 (tw @d0 (tw @d1 @e'))))))))))),?_⟩;refine hN _ _ ?_;clear hN N)))
  exact bQ (b:=0) (.inl rfl) (sd @Nat.zero_add) (by rw[gZ,if_neg e])
theorem Eu (s:ay) (hF:kK s) (a d:Int) (ha:eP s a=true) (hd:jb d 0 3=true):aj Tryz.prog 305 [.agg (ad s),.int .i64 a,.int .i64 d] (.int .i64 (td s (dw (dx s a) d))):=by
 refine aj.body eH rfl fun hl n0=>?_
 have hn:s.aE.length<=9223372036854775807:=by
  have h1:=(hl (.agg (ad s)) (by simp)).NC (a:=.sl (s.aE.map cU)) (by simp[ad])
  simpa using h1.len
 clear hl
 obtain⟨a0,a1,a2⟩:=pc ha
 have s1:=o8 (hF.wR _ a2) hd
 have gl:=hF.vL _ a2 _ (Cl (hF.wR _ a2) hd)
 have d0:=(ek hd).1
 by_cases hg:dw (dx s a) d=0
 ·have e:¬(0<dw (dx s a) d):=by omega
  (try((repeat(revert hN;revert N;apply Pn.out));refine wk (tw @ad.eq_1 (tw @bI.eq_1 (tw @a0 (tw @a1 (tw @s1 (tw @d0 @e)))))) ?_;(repeat(refine Pn.mk ?_;intro N hN))))
  exact bQ (b:=0) (.inl rfl) (sd @Nat.zero_add) (by rw[td,if_pos hg])
 ·have e:0<dw (dx s a) d:=by omega
  have hw:IntKind.i64.wrap (dw (dx s a) d-1)=dw (dx s a) d-1:=bU (by omega)
  have pq:0<=dw (dx s a) d-1:=by omega
  have fW:(s.aE.map cU)[(dw (dx s a) d-1).toNat]? =some (cU (qu s (dw (dx s a) d-1))):=getD_map cU (by omega)
  (try((repeat(revert hN;revert N;apply Pn.out));refine wk (tw @ad.eq_1 (tw @bI.eq_1 (tw @a0 (tw @a1 (tw @s1 (tw @d0 (tw @e (tw @hw (tw @pq (tw @fW @cU.eq_1)))))))))) ?_;(repeat(refine Pn.mk ?_;intro N hN))))
  exact bQ (b:=(qu s (dw (dx s a) d-1)).eK) (.inl rfl) (sd @Nat.zero_add) (by rw[td,if_neg hg])
theorem H9 (s:ay) (hF:kK s) (a d b:Int) (ha:eP s a=true) (hb:eP s b=true) (hd:jb d 0 3=true):aj Tryz.prog 261 [.agg (ad s),.int .i64 a,.int .i64 d,.int .i64 b] (.int .i64 (gZ s a d b)):=by
 refine aj.body eH rfl fun hl n0=>?_
 clear hl
 obtain⟨a0,a1,a2⟩:=pc ha
 obtain⟨b0,b1,b2⟩:=pc hb
 have s1:=o8 (hF.wR _ a2) hd
 have s2:=o8 (hF.wR _ b2) (zZ hd)
 have d0:=(ek hd).1
 have d1:=(ek (zZ hd)).1
 have h:=DZ d hd
 have hs:=Eu s hF a d ha hd
 rw[ad]at hs
 by_cases e:dw (dx s a) d=dw (dx s b) (sZ d)
 ·have e':decide (dw (dx s a) d=dw (dx s b) (sZ d))=true:=decide_eq_true e
  (repeat(first|((repeat(revert hN;revert N;apply Pn.out));refine wk (tw @ad.eq_1 (tw @bI.eq_1 (tw @a0 (tw @a1 (tw @b0 (tw @b1 (tw @s1 (tw @s2 (tw @d0 (tw @d1 @e')))))))))) ?_;(repeat(refine Pn.mk ?_;intro N hN)))|((try apply Or.inl);refine⟨_,aj.x (h) (sd (tw @ad.eq_1 (tw @bI.eq_1 (tw @a0 (tw @a1 (tw @b0 (tw @b1 (tw @s1 (tw @s2 (tw @d0 (tw @d1 @e'))))))))))),?_⟩;refine hN _ _ ?_;clear hN N)|((try apply Or.inl);refine⟨_,aj.x (hs) (sd (tw @ad.eq_1 (tw @bI.eq_1 (tw @a0 (tw @a1 (tw @b0 (tw @b1 (tw @s1 (tw @s2 (tw @d0 (tw @d1 @e'))))))))))),?_⟩;refine hN _ _ ?_;clear hN N)))
  exact bQ (b:=td s (dw (dx s a) d)) (.inl rfl) (sd @Nat.zero_add) (by rw[gZ,if_pos e])
 ·have e':decide (dw (dx s a) d=dw (dx s b) (sZ d))=false:=decide_eq_false e
  (repeat(first|((repeat(revert hN;revert N;apply Pn.out));refine wk (tw @ad.eq_1 (tw @bI.eq_1 (tw @a0 (tw @a1 (tw @b0 (tw @b1 (tw @s1 (tw @s2 (tw @d0 (tw @d1 @e')))))))))) ?_;(repeat(refine Pn.mk ?_;intro N hN)))|((try apply Or.inl);refine⟨_,aj.x (h) (sd (tw @ad.eq_1 (tw @bI.eq_1 (tw @a0 (tw @a1 (tw @b0 (tw @b1 (tw @s1 (tw @s2 (tw @d0 (tw @d1 @e'))))))))))),?_⟩;refine hN _ _ ?_;clear hN N)))
  exact bQ (b:=0) (.inl rfl) (sd @Nat.zero_add) (by rw[gZ,if_neg e])
end Go.Proofs.YtgoljkjaameagaaGreat.V

namespace Go.Proofs.YtgoljkjaameagaaGreat
open Go.RowKit
def kY (n:Int):Bool:=(decide (97<=n)&&decide (n<=122))||(decide (65<=n)&&decide (n<=90))
def lx (n:Int):Bool:=decide (48<=n)&&decide (n<=57)
def tY (i:Nat) (n:Int):Prop:=kY n=true∨(0<i/\(lx n=true∨n=95))
def uQ (s:ByteArray):Prop:=(1<=s.size/\s.size<=12)/\∀i (h:i<s.size),tY i s[i].toNat
open Classical in
noncomputable def jN (s:ByteArray):Bool:=decide (uQ s)
theorem DV {s:ByteArray} (h:uQ s):true=jN s:=by simp[jN,h]
theorem eu {s:ByteArray} (h:¬uQ s):false=jN s:=by simp[jN,h]
theorem B4 {s:ByteArray} {b:Bool} (hb:b=true) (h:uQ s):b=jN s:=by simp[jN,h,hb]
theorem rT {s:ByteArray} {b:Bool} (hb:b=false) (h:¬uQ s):b=jN s:=by simp[jN,h,hb]
theorem wj (w:World) (n:Int):Calls Tryz.prog 285 #[.int .u8 n] w fun e w'=>e=.returned (.bool (kY n))/\w=w':=by
 go_enter Tryz.func285,Tryz.ntmps285
 go_wp2_with fail
 all_goals
  go_ret
  exact⟨iK (by unfold kY;simp[*];try omega),rfl⟩
theorem F5 (w:World) (n:Int):Calls Tryz.prog 286 #[.int .u8 n] w fun e w'=>e=.returned (.bool (lx n))/\w=w':=by
 go_enter Tryz.func286,Tryz.ntmps286
 go_wp2_with fail
 all_goals
  go_ret
  exact⟨iK (by unfold lx;simp[*];try omega),rfl⟩
theorem Cj (w:World) (s:ByteArray) (hs:s.size<=9223372036854775807):Calls Tryz.prog 237 #[.string s] w fun e w'=>e=.returned (.bool (jN s))/\Below w.heap.size w w':=by
 by_cases h1:1<=s.size
 case neg=>
  go_enter Tryz.func237,Tryz.ntmps237
  go_wp2_with fail
  go_ret
  exact⟨iK (eu fun h=>h1 h.1.1),Below.refl _ _⟩
 by_cases h2:s.size<=12
 case neg=>
  go_enter Tryz.func237,Tryz.ntmps237
  go_wp2_with fail
  go_ret
  exact⟨iK (eu fun h=>h2 h.1.2),Below.refl _ _⟩
 go_enter Tryz.func237,Tryz.ntmps237
 go_wp2_with fail
 refine(wj _ _).mono ?_
 rintro e w' ⟨rfl,rfl⟩
 cases h3:kY s[0].toNat
 ·go_wp2_with fail
  go_ret
  exact⟨iK (eu fun h=>by have:=h.2 0 (by omega);simp only[tY]at this;rw[h3]at this;simp at this),Below.refl _ _⟩
 ·replace h3:=Lib.hid h3
  go_wp2_with fail
  go_loop [3] (fun i=>∃k:Nat,1<=k/\k<=s.size/\i=.int .i64 k/\Hid (∀j (h:j<s.size),j<k->tY j s[j].toNat)) (fun i=>s.size-(intOf i).toNat)
  case atStart=>exact⟨1,by omega,by omega,rfl,Lib.hid fun j h hj=>by
   obtain rfl:j=0:=by omega
   exact .inl h3.out⟩
  case round=>
   obtain⟨k,sk,hk,rfl,dG⟩:=hrel
   by_cases dJ:k<s.size
   ·go_wp2_with fail
    refine(wj _ _).mono ?_
    rintro e w' ⟨rfl,rfl⟩
    have jH:tY k s[k].toNat∨¬tY k s[k].toNat:=Classical.em _
    cases hl:kY s[k].toNat
    ·go_wp2_with fail
     refine(F5 _ _).mono ?_
     rintro e w' ⟨rfl,rfl⟩
     cases hd:lx s[k].toNat
     ·by_cases uv:(s[k].toNat:Int)=95
      ·have TA:((s[k].toNat:Int) !=95)=false:=by simp;omega
       replace uv:=Lib.hid uv
       replace hl:=Lib.hid hl
       replace hd:=Lib.hid hd
       go_wp2_with fail
       go_round
       case rel=>exact⟨k+1,by omega,by omega,by go_num,Lib.hid fun j h hj=>by
        by_cases yi:j=k
        ·subst yi;exact .inr ⟨by omega,.inr uv.out⟩
        ·exact dG.out j h (by omega)⟩
       case measure=>simp[intOf];omega
      ·have TA:((s[k].toNat:Int) !=95)=true:=by simp;omega
       replace uv:=Lib.hid uv
       replace hl:=Lib.hid hl
       replace hd:=Lib.hid hd
       go_wp2_with fail
       go_ret
       exact⟨iK (eu fun h=>by
        have:=h.2 k dJ;simp only[tY,hl.out,hd.out]at this;exact uv.out (by simp at this;exact this.2)),Below.refl _ _⟩
     ·replace hl:=Lib.hid hl
      replace hd:=Lib.hid hd
      go_wp2_with fail
      go_round
      case rel=>exact⟨k+1,by omega,by omega,by go_num,Lib.hid fun j h hj=>by
       by_cases yi:j=k
       ·subst yi;exact .inr ⟨by omega,.inl hd.out⟩
       ·exact dG.out j h (by omega)⟩
      case measure=>simp[intOf];omega
    ·replace hl:=Lib.hid hl
     go_wp2_with fail
     go_round
     case rel=>exact⟨k+1,by omega,by omega,by go_num,Lib.hid fun j h hj=>by
      by_cases yi:j=k
      ·subst yi;exact .inl hl.out
      ·exact dG.out j h (by omega)⟩
     case measure=>simp[intOf];omega
   ·go_wp2_with fail
    go_ret
    exact⟨iK (DV ⟨⟨h1,h2⟩,fun i h=>dG.out i h (by omega)⟩),Below.refl _ _⟩
theorem BH (w:World) (s:ByteArray) (hs:s.size<=9223372036854775807):Calls Tryz.prog 254 #[.string s] w fun e w'=>e=.returned (.bool (jN s))/\w=w':=by
 go_enter Tryz.func254,Tryz.ntmps254
 go_wp2_with fail
 go_loop [8] (fun i=>∃k:Nat,k<=s.size/\i=.int .i64 k/\Hid (∀j (h:j<s.size),j<k->tY j s[j].toNat)) (fun i=>s.size-(intOf i).toNat)
 case atStart=>exact⟨0,by omega,rfl,Lib.hid fun j h hj=>by omega⟩
 case round=>
  obtain⟨k,hk,rfl,dG⟩:=hrel
  by_cases dJ:k<s.size
  ·have hc:(s[k].toNat:Int)<48∨(48<=(s[k].toNat:Int)/\(s[k].toNat:Int)<=57)∨(58<=(s[k].toNat:Int)/\(s[k].toNat:Int)<=64)∨(65<=(s[k].toNat:Int)/\(s[k].toNat:Int)<=90)∨(91<=(s[k].toNat:Int)/\(s[k].toNat:Int)<=94)∨(95<=(s[k].toNat:Int)/\(s[k].toNat:Int)<=95)∨(96<=(s[k].toNat:Int)/\(s[k].toNat:Int)<=96)∨(97<=(s[k].toNat:Int)/\(s[k].toNat:Int)<=122)∨123<=(s[k].toNat:Int):=by omega
   by_cases lz:k=0
   ·subst lz
    rcases hc with h|⟨h,h'⟩|⟨h,h'⟩|⟨h,h'⟩|⟨h,h'⟩|⟨h,h'⟩|⟨h,h'⟩|⟨h,h'⟩|h
    ·have uv:((s[0].toNat:Int) !=95)=true:=by simp;try omega
     go_wp2_with fail
     all_goals first
      |(go_ret;exact⟨iK (eu fun hh=>by have:=hh.2 0 dJ;simp[tY,kY,lx]at this;omega),rfl⟩)
      |(exfalso;simp_all;done)
      |(exfalso;simp_all;omega)
    ·have uv:((s[0].toNat:Int) !=95)=true:=by simp;try omega
     go_wp2_with fail
     all_goals first
      |(go_ret;exact⟨iK (eu fun hh=>by have:=hh.2 0 dJ;simp[tY,kY,lx]at this;omega),rfl⟩)
      |(exfalso;simp_all;done)
      |(exfalso;simp_all;omega)
    ·have uv:((s[0].toNat:Int) !=95)=true:=by simp;try omega
     go_wp2_with fail
     all_goals first
      |(go_ret;exact⟨iK (eu fun hh=>by have:=hh.2 0 dJ;simp[tY,kY,lx]at this;omega),rfl⟩)
      |(exfalso;simp_all;done)
      |(exfalso;simp_all;omega)
    ·have uv:((s[0].toNat:Int) !=95)=true:=by simp;try omega
     go_wp2_with fail
     go_round
     case rel=>exact⟨0+1,by omega,by go_num,Lib.hid fun j hj yi=>by
      by_cases IP:j=0
      ·subst IP;simp[tY,kY,lx];omega
      ·exact dG.out j hj (by omega)⟩
     case measure=>simp[intOf];try omega
    ·have uv:((s[0].toNat:Int) !=95)=true:=by simp;try omega
     go_wp2_with fail
     all_goals first
      |(go_ret;exact⟨iK (eu fun hh=>by have:=hh.2 0 dJ;simp[tY,kY,lx]at this;omega),rfl⟩)
      |(exfalso;simp_all;done)
      |(exfalso;simp_all;omega)
    ·have uv:((s[0].toNat:Int) !=95)=false:=by simp;try omega
     go_wp2_with fail
     all_goals first
      |(go_ret;exact⟨iK (eu fun hh=>by have:=hh.2 0 dJ;simp[tY,kY,lx]at this;omega),rfl⟩)
      |(exfalso;simp_all;done)
      |(exfalso;simp_all;omega)
    ·have uv:((s[0].toNat:Int) !=95)=true:=by simp;try omega
     go_wp2_with fail
     all_goals first
      |(go_ret;exact⟨iK (eu fun hh=>by have:=hh.2 0 dJ;simp[tY,kY,lx]at this;omega),rfl⟩)
      |(exfalso;simp_all;done)
      |(exfalso;simp_all;omega)
    ·have uv:((s[0].toNat:Int) !=95)=true:=by simp;try omega
     go_wp2_with fail
     go_round
     case rel=>exact⟨0+1,by omega,by go_num,Lib.hid fun j hj yi=>by
      by_cases IP:j=0
      ·subst IP;simp[tY,kY,lx];omega
      ·exact dG.out j hj (by omega)⟩
     case measure=>simp[intOf];try omega
    ·have uv:((s[0].toNat:Int) !=95)=true:=by simp;try omega
     go_wp2_with fail
     all_goals first
      |(go_ret;exact⟨iK (eu fun hh=>by have:=hh.2 0 dJ;simp[tY,kY,lx]at this;omega),rfl⟩)
      |(exfalso;simp_all;done)
      |(exfalso;simp_all;omega)
   ·have hz:((k:Int)==0)=false:=by simpa using lz
    have sk:1<=k:=by omega
    clear lz
    rcases hc with h|⟨h,h'⟩|⟨h,h'⟩|⟨h,h'⟩|⟨h,h'⟩|⟨h,h'⟩|⟨h,h'⟩|⟨h,h'⟩|h
    ·have uv:((s[k].toNat:Int) !=95)=true:=by simp;try omega
     go_wp2_with fail
     all_goals first
      |(go_ret;exact⟨iK (eu fun hh=>by have:=hh.2 k dJ;simp[tY,kY,lx]at this;omega),rfl⟩)
      |(exfalso;simp_all;done)
      |(exfalso;simp_all;omega)
    ·have uv:((s[k].toNat:Int) !=95)=true:=by simp;try omega
     go_wp2_with fail
     go_round
     case rel=>exact⟨k+1,by omega,by go_num,Lib.hid fun j hj yi=>by
      by_cases IP:j=k
      ·subst IP;simp[tY,kY,lx];omega
      ·exact dG.out j hj (by omega)⟩
     case measure=>simp[intOf];try omega
    ·have uv:((s[k].toNat:Int) !=95)=true:=by simp;try omega
     go_wp2_with fail
     all_goals first
      |(go_ret;exact⟨iK (eu fun hh=>by have:=hh.2 k dJ;simp[tY,kY,lx]at this;omega),rfl⟩)
      |(exfalso;simp_all;done)
      |(exfalso;simp_all;omega)
    ·have uv:((s[k].toNat:Int) !=95)=true:=by simp;try omega
     go_wp2_with fail
     go_round
     case rel=>exact⟨k+1,by omega,by go_num,Lib.hid fun j hj yi=>by
      by_cases IP:j=k
      ·subst IP;simp[tY,kY,lx];omega
      ·exact dG.out j hj (by omega)⟩
     case measure=>simp[intOf];try omega
    ·have uv:((s[k].toNat:Int) !=95)=true:=by simp;try omega
     go_wp2_with fail
     all_goals first
      |(go_ret;exact⟨iK (eu fun hh=>by have:=hh.2 k dJ;simp[tY,kY,lx]at this;omega),rfl⟩)
      |(exfalso;simp_all;done)
      |(exfalso;simp_all;omega)
    ·have uv:((s[k].toNat:Int) !=95)=false:=by simp;try omega
     go_wp2_with fail
     go_round
     case rel=>exact⟨k+1,by omega,by go_num,Lib.hid fun j hj yi=>by
      by_cases IP:j=k
      ·subst IP;simp[tY,kY,lx];omega
      ·exact dG.out j hj (by omega)⟩
     case measure=>simp[intOf];try omega
    ·have uv:((s[k].toNat:Int) !=95)=true:=by simp;try omega
     go_wp2_with fail
     all_goals first
      |(go_ret;exact⟨iK (eu fun hh=>by have:=hh.2 k dJ;simp[tY,kY,lx]at this;omega),rfl⟩)
      |(exfalso;simp_all;done)
      |(exfalso;simp_all;omega)
    ·have uv:((s[k].toNat:Int) !=95)=true:=by simp;try omega
     go_wp2_with fail
     go_round
     case rel=>exact⟨k+1,by omega,by go_num,Lib.hid fun j hj yi=>by
      by_cases IP:j=k
      ·subst IP;simp[tY,kY,lx];omega
      ·exact dG.out j hj (by omega)⟩
     case measure=>simp[intOf];try omega
    ·have uv:((s[k].toNat:Int) !=95)=true:=by simp;try omega
     go_wp2_with fail
     all_goals first
      |(go_ret;exact⟨iK (eu fun hh=>by have:=hh.2 k dJ;simp[tY,kY,lx]at this;omega),rfl⟩)
      |(exfalso;simp_all;done)
      |(exfalso;simp_all;omega)
  ·by_cases h1:1<=s.size
   ·by_cases h2:s.size<=12
    ·go_wp2_with fail
     go_ret
     exact⟨iK (B4 (by simp<;>omega) ⟨⟨h1,h2⟩,fun i h=>dG.out i h (by omega)⟩),rfl⟩
    ·go_wp2_with fail
     go_ret
     exact⟨iK (rT (by simp<;>omega) fun h=>h2 h.1.2),rfl⟩
   ·go_wp2_with fail
    go_ret
    exact⟨iK (rT (by simp<;>omega) fun h=>h1 h.1.1),rfl⟩
end Go.Proofs.YtgoljkjaameagaaGreat

namespace Go.Proofs.YtgoljkjaameagaaGreat.V
open Go.RowKit
theorem mixed:Tryz.prog.follows .mixedOrders=true:=by kernel_rfl
variable {P:Program} {w:World} {D:Nat->Prop} {ι:Names}
theorem qc {f:Nat} {args:List AV} {r:AV} {Vc:Array Value} {u0:Value} (nH:∀(w:World) (D:Nat->Prop) (ι:Names) vs,fA P w D ι args vs->vs=Vc) (hr:∀(w:World) (D:Nat->Prop) (ι:Names),cW P w D ι r u0) (CD:∀g,gD g 6 r=some r)
  (h:∀w,Calls P f Vc w fun e w'=>e=.returned u0/\Below w.heap.size w w'):aj P f args r:=by
 intro n
 refine gQ fun hs D ι w vs S U A=>?_
 have:=nH w D ι vs A
 subst this
 refine(h w).mono ?_
 rintro e w' ⟨rfl,hb⟩
 exact⟨r,_,n,D,ι,u0,rfl,⟨r,CD _,rfl⟩,Step.stay S hb.block hb.size hb.os hb.tape hb.output (fun _ h=>h) (fun _ h=>.inl h) (fun _ _ h=>h),
  S.stay hb.block hb.size (fun _ h=>h) (fun b hd=>Nat.lt_of_lt_of_le (S.dead b hd) hb.size) (fun _ h=>.inl h) (fun _ _ h=>h),U,Nat.le_refl _,hr _ _ _⟩
theorem Ce {s:ByteArray} {vs:Array Value} (h:fA P w D ι [.str s] vs):vs= #[.string s]:=by
 obtain⟨h1,h2⟩:=h
 obtain⟨u,hu,hr⟩:=h2 0 _ rfl
 rw[fE hr]at hu
 obtain⟨l⟩:=vs
 cases l with
 |nil=>simp at h1
 |cons a l=>cases l with
  |nil=>simp at hu;subst hu;rfl
  |cons b l=>simp at h1
theorem Fz (s:ByteArray) (hs:s.size<=9223372036854775807):aj Tryz.prog 237 [.str s] (.bool (jN s)):=
 qc (fun _ _ _ _=>Ce) (fun _ _ _=>.eQ _ _ (.bool _)) (fun g=>eM g 5 _) fun w=>Cj w s hs
theorem Fo (s:ByteArray) (hs:s.size<=9223372036854775807):aj Tryz.prog 254 [.str s] (.bool (jN s)):=
 qc (fun _ _ _ _=>Ce) (fun _ _ _=>.eQ _ _ (.bool _)) (fun g=>eM g 5 _) fun w=>(BH w s hs).mono (by rintro e w' ⟨rfl,rfl⟩;exact⟨rfl,Below.refl _ _⟩)
end Go.Proofs.YtgoljkjaameagaaGreat.V
