/- One operation, calls among them. -/
import Derived.Test.YtgoljkjaameagaaGreatSyA
import Derived.Orders
import Derived.Conc.LoneCalls
import Derived.WalkKit
import Derived.WalkSpells
import Derived.WalkLawsBesides
import Derived.Lib.Hide
import Derived.Deep.QuietTactic
import Derived.BigQuiet
import Derived.StillTailTactics
import Derived.Deep.RegionWith
import Derived.Deep.RegionHeld3
import Derived.Deep.LoopGhost
import Derived.Deep.CutRange
import Derived.Deep.DeepCutAuto
import Derived.Test.YtgoljkjaameagaaGreatChecked
set_option linter.unusedVariables false
set_option linter.unusedSimpArgs false
set_option maxRecDepth 100000
set_option maxHeartbeats 16000000
namespace Go.Proofs.YtgoljkjaameagaaGreat.V
open Go.RowKit
variable {P:Program} {w w':World} {D D' D2:Nat->Prop} {ι ι' ι2:Names}
def Sound (P:Program):ft:=fun f args σ K=>∀(hs:Nat) (D:Nat->Prop) (ι:Names) (w:World) (vs:Array Value),fW P hs D ι σ.get w->Used ι σ.next (fun _=>False)->fb P w D ι args vs->
 Calls P f vs w fun e w'=>∃r g' n' D' ι' u,e=.returned u/\K r ⟨g',n'⟩/\Step hs D ι w D' ι' w'/\fW P hs D' ι' g' w'/\Used ι' n' (fun _=>False)/\σ.next<=n'/\da P w' D' ι' r u
section
variable {g:Rows} {hs:Nat} {env:Env} {a:Act} {o:Oper} {id:Id} {v:AV}
theorem fW.ro (S:fW P hs D ι g w):fW P w.heap.size D ι (ro g) w:=by
 refine⟨Nat.le_refl _,S.dead,fun id r h=>?_,fun id kJ r r' B B' h h' hw=>?_⟩
 ·unfold V.ro at h
  simp only[Option.map_eq_some_iff]at h
  obtain⟨r0,h0,rfl⟩:=h
  obtain⟨B,hB,R,_,_⟩:=S.row id r0 h0
  exact⟨B,hB,R.flag false,fun h=>by simp at h,fun h=>by simp at h⟩
 ·unfold V.ro at h
  simp only[Option.map_eq_some_iff]at h
  obtain⟨r0,h0,rfl⟩:=h
  simp at hw
theorem za {g0:Rows} {f:Nat} {args:List AV} {n:Nat} {K:AV->Prop} {vs:Array Value} (h:PC (Sound P) f args ⟨g0,n⟩ K) (pk:∀id r,g0 id=some r->g id=some r) (S:fW P hs D ι g w) (U:Used ι n (fun _=>False)) (A:fb P w D ι args vs):
  Calls P f vs w fun e w'=>∃r D' u,e=.returned u/\K r/\Step hs D ι w D' ι w'/\fW P hs D' ι g w'/\da P w' D' ι r u:=by
 refine(h w.heap.size D ι w vs (S.sub pk).ro U A).mono ?_
 rintro e w' ⟨r0,g',n',D1,ι1,u,rfl,⟨r,hr,hK⟩,T,S1,_,_,hR⟩
 have hb:∀b,b<w.heap.size->w'.heap[b]? =w.heap[b]? :=T.below.block
 have hz:=T.below.size
 have q:=tP (D2:=fun b=>D b∨(w.heap.size<=b/\b<w'.heap.size)) (ι2:=ι) (fun b hd=>by
  rcases T.new b hd with h|h
  ·exact .inl h
  ·exact .inr ⟨h,S1.dead b hd⟩) (fun id row hg hw=>by
  obtain⟨B,hB,R,h1,_⟩:=S1.row id row hg
  exact⟨B,hB,R,.inr ⟨h1 hw,R.lt⟩⟩) 6 r0 u r hR hr
 refine⟨r,_,u,rfl,hK,?_,?_,q.1⟩
 ·exact Step.stay S hb hz T.below.os T.below.tape T.below.output (fun _ h=>.inl h) (fun b h=>by rcases h with h|h;exact .inl h;exact .inr h.1) (fun _ _ h=>h)
 ·exact S.stay hb hz (fun _ h=>.inl h) (fun b h=>by rcases h with h|h;exact Nat.lt_of_lt_of_le (S.dead b h) hz;exact h.2) (fun b h=>by rcases h with h|h;exact .inl h;exact .inr h.1) (fun _ _ h=>h)
theorem vZ {g0:Rows} {f:Nat} {args:List AV} {n:Nat} {K:AV->Prop} {vs:Array Value} (h:PCv (Sound P) f args ⟨g0,n⟩ K) (pk:∀id r,g0 id=some r->g id=some r) (S:fW P hs D ι g w) (U:Used ι n (fun _=>False)) (A:fb P w D ι args vs):
  Calls P f vs w fun e w'=>∃r D' u,e=.returned u/\K r/\Step hs D ι w D' ι w'/\fW P hs D' ι g w'/\da P w' D' ι r u:=by
 obtain⟨gj,ha,h⟩:=h
 let D1:Nat->Prop:=fun b=>D b∨∃id r B,g id=some r/\ι id=some B/\b=B.b
 have lt:∀id r B,g id=some r->ι id=some B->B.b<w.heap.size:=fun id r B h1 h2=>by
  obtain⟨B',dK,R,_⟩:=S.row id r h1
  rw[h2]at dK;injection dK with dK;subst dK
  exact R.lt
 have S0:fW P w.heap.size D1 ι (fun _=>none) w:=⟨Nat.le_refl _,fun b hb=>by
  rcases hb with hb|⟨id,r,B,h1,h2,rfl⟩
  ·exact S.dead b hb
  ·exact lt id r B h1 h2,fun id r h=>(by cases h),fun id kJ r r' B B' h=>(by cases h)⟩
 obtain⟨l1,l2⟩:=gG ha
 have A':fb P w D1 ι gj vs:=⟨by rw[A.1,l1],fun j a hj=>by
  obtain⟨a0,kX,hf⟩:=l2 j a hj
  obtain⟨u,hu,hr⟩:=A.2 j a0 kX
  refine⟨u,hu,(tP (D2:=D1) (ι2:=ι) (fun b h=>.inl h) (fun id row hg hw=>?_) 6 a0 u a hr hf).1⟩
  unfold eo at hg
  simp only[Option.map_eq_some_iff]at hg
  obtain⟨r,vI,rfl⟩:=hg
  obtain⟨B,hB,R,_,_⟩:=S.row id r (pk id r vI)
  exact⟨B,hB,R.flag true,.inr ⟨id,r,B,pk id r vI,hB,rfl⟩⟩⟩
 refine(h w.heap.size D1 ι w vs S0 U A').mono ?_
 rintro e w' ⟨r0,g',n',D2,ι1,u,rfl,⟨r,hr,hK⟩,T,S1,_,_,hR⟩
 have hb:∀b,b<w.heap.size->w'.heap[b]? =w.heap[b]? :=T.below.block
 have hz:=T.below.size
 have q:=EX (D2:=fun b=>D b∨(w.heap.size<=b/\b<w'.heap.size)) (ι2:=ι) (fun id row hg hw=>by
  obtain⟨B,hB,R,h1,_⟩:=S1.row id row hg
  exact⟨B,hB,R,.inr ⟨h1 hw,R.lt⟩⟩) 6 r0 u r hR hr
 refine⟨r,_,u,rfl,hK,?_,?_,q.1⟩
 ·exact Step.stay S hb hz T.below.os T.below.tape T.below.output (fun _ h=>.inl h) (fun b h=>by rcases h with h|h;exact .inl h;exact .inr h.1) (fun _ _ h=>h)
 ·exact S.stay hb hz (fun _ h=>.inl h) (fun b h=>by rcases h with h|h;exact Nat.lt_of_lt_of_le (S.dead b h) hz;exact h.2) (fun b h=>by rcases h with h|h;exact .inl h;exact .inr h.1) (fun _ _ h=>h)
theorem Et {g0:Rows} {f:Nat} {args:List AV} {n:Nat} {K:AV->Prop} {vs:Array Value} (h:fQ (Sound P) f args ⟨g0,n⟩ K) (pk:∀id r,g0 id=some r->g id=some r) (S:fW P hs D ι g w) (U:Used ι n (fun _=>False)) (A:fb P w D ι args vs):
  Calls P f vs w fun e w'=>∃r D' u,e=.returned u/\K r/\Step hs D ι w D' ι w'/\fW P hs D' ι g w'/\da P w' D' ι r u:=by
 rcases h with h|h
 ·exact za h pk S U A
 ·exact vZ h pk S U A
theorem FK {D1 D2:Nat->Prop} {ι1 ι2:Names} {w1:World} {a:AV} {v:Value} (hp:a.plain=true) (h:da P w D1 ι1 a v):da P w1 D2 ι2 a v:=by
 cases h with
 |eO a v h=>cases h<;>first|(simp[AV.plain]at hp;done)|exact .eO _ _ (by constructor)
 |_=>simp[AV.plain]at hp
theorem fW.add {r:Row} {B:sr} (S:fW P hs D ι g w) (S':fW P hs D ι g w') (hf:ι id=none) (jW:w.heap.size<=B.b) (R:iQ P w' D (jT ι id B) B r):fW P hs D (jT ι id B) (bK g id r) w':=by
 have lt:∀kJ r' B',g kJ=some r'->ι kJ=some B'->B'.b<w.heap.size:=fun kJ r' B' h1 h2=>by
  obtain⟨B2,re,R2,_⟩:=S.row kJ r' h1
  rw[h2]at re;injection re with re;subst re
  exact R2.lt
 have ne:∀kJ r',g kJ=some r'->kJ≠id:=fun kJ r' h he=>by
  subst he
  obtain⟨B2,re,_⟩:=S.row _ r' h
  rw[hf]at re;cases re
 refine⟨S'.lo,S'.dead,fun kJ r' h=>?_,fun id1 id2 r1 r2 B1 B2 h1 h2 hw DK re hb=>?_⟩
 ·unfold bK at h
  split at h
  ·rename_i he
   subst he
   injection h with h;subst h
   exact⟨B,ek _ _ _,R,fun _=>Nat.le_trans S.lo jW,fun _ hd=>Nat.lt_irrefl _ (Nat.lt_of_lt_of_le (S.dead _ hd) jW)⟩
  ·obtain⟨B',dK,R',k1,k2⟩:=S'.row kJ r' h
   exact⟨B',by rw[fP (ne _ _ h)];exact dK,R'.frame rfl (fun a v hr=>hr.frame (fun _ _=>rfl) (fun _ h=>h) (fD hf)),k1,k2⟩
 ·unfold bK at h1 h2
  split at h1
  ·rename_i e1
   split at h2
   ·rename_i e2;rw[e1,e2]
   ·exfalso
    subst e1
    rw[ek]at DK;injection DK with DK;subst DK
    rw[fP (ne _ _ h2)]at re
    have:=lt _ _ _ h2 re
    omega
  ·rw[fP (ne _ _ h1)]at DK
   split at h2
   ·rename_i e2
    exfalso
    subst e2
    rw[ek]at re;injection re with re;subst re
    have:=lt _ _ _ h1 DK
    omega
   ·rw[fP (ne _ _ h2)]at re
    exact S'.inj id1 id2 r1 r2 B1 B2 h1 h2 hw DK re hb
theorem Gr {g0:Rows} {f:Nat} {args:List AV} {n sz:Nat} {rows:List (List AV)} {vs:Array Value} (h:CM (Sound P) f args ⟨g0,n⟩ sz rows) (pk:∀id r,g0 id=some r->g id=some r) (S:fW P hs D ι g w) (U:Used ι n (fun _=>False)) (A:fb P w D ι args vs) (hf:ι id=none):
  Calls P f vs w fun e w'=>∃u B,e=.returned u/\Step hs D ι w D (jT ι id B) w'/\fW P hs D (jT ι id B) (bK g id ⟨true,sz,rows⟩) w'/\da P w' D (jT ι id B) (.own id 0 rows.length) u:=by
 obtain⟨lL,gj,ha,h⟩:=h
 let D1:Nat->Prop:=fun b=>D b∨∃id r B,g id=some r/\ι id=some B/\b=B.b
 have lt:∀id r B,g id=some r->ι id=some B->B.b<w.heap.size:=fun id r B h1 h2=>by
  obtain⟨B',dK,R,_⟩:=S.row id r h1
  rw[h2]at dK;injection dK with dK;subst dK
  exact R.lt
 have S0:fW P w.heap.size D1 ι (fun _=>none) w:=⟨Nat.le_refl _,fun b hb=>by
  rcases hb with hb|⟨id,r,B,h1,h2,rfl⟩
  ·exact S.dead b hb
  ·exact lt id r B h1 h2,fun id r h=>(by cases h),fun id kJ r r' B B' h=>(by cases h)⟩
 obtain⟨l1,l2⟩:=gG ha
 have A':fb P w D1 ι gj vs:=⟨by rw[A.1,l1],fun j a hj=>by
  obtain⟨a0,kX,hz⟩:=l2 j a hj
  obtain⟨u,hu,hr⟩:=A.2 j a0 kX
  refine⟨u,hu,(tP (D2:=D1) (ι2:=ι) (fun b h=>.inl h) (fun id row hg hw=>?_) 6 a0 u a hr hz).1⟩
  unfold eo at hg
  simp only[Option.map_eq_some_iff]at hg
  obtain⟨r,vI,rfl⟩:=hg
  obtain⟨B,hB,R,_,_⟩:=S.row id r (pk id r vI)
  exact⟨B,hB,R.flag true,.inr ⟨id,r,B,pk id r vI,hB,rfl⟩⟩⟩
 refine(h w.heap.size D1 ι w vs S0 U A').mono ?_
 rintro e w' ⟨r0,g',n',D2,ι1,u,rfl,⟨i0,hr,hg⟩,T,S1,_,_,hR⟩
 subst hr
 have hb:∀b,b<w.heap.size->w'.heap[b]? =w.heap[b]? :=T.below.block
 have hz:=T.below.size
 obtain⟨B,hB,R,k1,_⟩:=S1.row i0 _ hg
 have jW:w.heap.size<=B.b:=k1 rfl
 obtain⟨o,cap,B',rfl,dK,q2,q3,q4,q5,hk⟩:=iy hR
 rw[hB]at dK;injection dK with dK;subst dK
 replace R:=R.row hk
 have S':fW P hs D ι g w':=S.stay hb hz (fun _ h=>h) (fun b h=>Nat.lt_of_lt_of_le (S.dead b h) hz) (fun b h=>.inl h) (fun _ _ h=>h)
 have R':kc P w' D (jT ι id B) B ⟨true,sz,rows⟩:=⟨R.sz,R.xw,R.fits,R.len,R.flat,fun i j cs a hi hj=>by
  obtain⟨v,h1,h2⟩:=R.at_ i j cs a hi hj
  exact⟨v,h1,FK (lL cs (List.mem_of_getElem? hi) a (List.mem_of_getElem? hj)) h2⟩⟩
 exact⟨_,B,rfl,Step.stay S hb hz T.below.os T.below.tape T.below.output (fun _ h=>h) (fun _ h=>.inl h) (fD hf),S.add S' hf jW (R'.obj hk),.own id 0 _ _ _ B (ek _ _ _) hk q2 q3 q4 q5⟩
theorem jd {f:Nat} {args:Array Value} (hc:fA P f=true):(callFunc f args).run P w=.ok (.enter f args) w:=by
 unfold fA at hc
 split at hc
 ·rename_i fn hf
  simp only[Bool.and_eq_true,Bool.not_eq_true']at hc
  have hb:fn.body.isNone=false:=by cases hq:fn.body<;>simp_all
  simp only[callFunc,Sem.run_bind,run_program,Result.andThen_ok,hf,hc.2,Bool.false_eq_true,if_false,hb]
  rfl
 ·simp at hc
theorem Ae {f:Nat} {args:List O} (hc:pJ P o.op=some (.call f args)):∃c,o.op=.call c/\c.callee=.value (.func f)/\fA P f=true/\c.args.toList.mapM (cO P)=some args:=by
 unfold pJ at hc
 split at hc
 case h_23=>
  rename_i c ho
  refine⟨c,ho,?_⟩
  unfold mv at hc
  split at hc
  all_goals (try(repeat' (split at hc))<;>(simp only[Option.bind_eq_bind,Option.bind_eq_some_iff,Option.pure_def,Option.some.injEq,Option.map_eq_some_iff,reduceCtorEq,and_false,exists_false]at hc))
  all_goals simp_all
 all_goals (try unfold tt at hc)<;>(try unfold qU at hc)<;>(repeat' (split at hc))<;>(simp only[Option.bind_eq_bind,Option.bind_eq_some_iff,Option.pure_def,Option.some.injEq,Option.map_eq_some_iff,reduceCtorEq,and_false,exists_false]at hc)
theorem rC {x:O} {args:List O} (hc:pJ P o.op=some (.rV x args)):∃c t,o.op=.call c/\c.callee=.value (.tmp t)/\x=.t t/\c.args.toList.mapM (cO P)=some args:=by
 unfold pJ at hc
 split at hc
 case h_23=>
  rename_i c ho
  refine⟨c,?_⟩
  unfold mv at hc
  split at hc
  all_goals (try(repeat' (split at hc))<;>(simp only[Option.bind_eq_bind,Option.bind_eq_some_iff,Option.pure_def,Option.some.injEq,Option.map_eq_some_iff,reduceCtorEq,and_false,exists_false]at hc))
  all_goals simp_all
 all_goals (try unfold tt at hc)<;>(try unfold qU at hc)<;>(repeat' (split at hc))<;>(simp only[Option.bind_eq_bind,Option.bind_eq_some_iff,Option.pure_def,Option.some.injEq,Option.map_eq_some_iff,reduceCtorEq,and_false,exists_false]at hc)
theorem Fj {n:Nat} {x y:O} (hc:pJ P o.op=some (.store n x y)):∃t x' y',o.op=.store t x' y'/\ec P t=some n/\cO P x'=some x/\cO P y'=some y:=by
 unfold pJ at hc
 split at hc
 case h_7=>
  rename_i t x' y' ho
  refine⟨t,x',y',ho,?_⟩
  simp only[Option.bind_eq_bind,Option.bind_eq_some_iff,Option.pure_def,Option.some.injEq]at hc
  obtain⟨n',h1,x2,h2,y2,h3,he⟩:=hc
  injection he with e1 e2 e3
  subst e1;subst e2;subst e3
  exact⟨h1,h2,h3⟩
 all_goals (try unfold tt at hc)<;>(try unfold qU at hc)<;>(try unfold mv at hc)<;>(repeat' (split at hc))<;>(simp only[Option.bind_eq_bind,Option.bind_eq_some_iff,Option.pure_def,Option.some.injEq,Option.map_eq_some_iff,reduceCtorEq,and_false,exists_false]at hc)
theorem Cs {n:Nat} {x y:O} (hc:pJ P o.op=some (.append n x y)):∃(t e:TypeId) (m:Nat) (z:List K) (i:TypeInfo) (x' y':Operand),n=m+1/\o.op=.call {callee:=.builtin .append,args:= #[x',y'],argTypes:= #[t,t]}/\
  P.underlying t=some (.slice e)/\ec P e=some (m+1)/\jj P e=some z/\P.info? e=some i/\i.bytes<=32768/\cO P x'=some x/\cO P y'=some y:=by
 unfold pJ at hc
 split at hc
 case h_23=>
  rename_i c ho
  unfold mv at hc
  split at hc
  case h_2=>
   rename_i jZ
   split at hc
   ·rename_i x' y' t u h1 h2
    split at hc
    ·rename_i e ht
     split at hc
     ·rename_i m z i e1 e2 e3
      split at hc
      ·rename_i hb
       simp only[Option.bind_eq_bind,Option.bind_eq_some_iff,Option.pure_def,Option.some.injEq]at hc
       obtain⟨x2,h3,y2,h4,he⟩:=hc
       injection he with k1 k2 k3
       subst k1;subst k2;subst k3
       obtain⟨DN,rfl⟩:=hb
       refine⟨t,e,m,z,i,x',y',rfl,?_,ht,e1,e2,e3,DN,h3,h4⟩
       rw[ho]
       obtain⟨ca,cb,cc⟩:=c
       simp only at h1 h2 jZ
       subst jZ
       congr
       ·exact Array.ext' h1
       ·exact Array.ext' h2
      ·simp at hc
     ·simp at hc
    ·simp at hc
   ·simp at hc
  all_goals (repeat' (split at hc))<;>(simp only[Option.bind_eq_bind,Option.bind_eq_some_iff,Option.pure_def,Option.some.injEq,Option.map_eq_some_iff,reduceCtorEq,and_false,exists_false]at hc)
 all_goals (try unfold tt at hc)<;>(try unfold qU at hc)<;>(repeat' (split at hc))<;>(simp only[Option.bind_eq_bind,Option.bind_eq_some_iff,Option.pure_def,Option.some.injEq,Option.map_eq_some_iff,reduceCtorEq,and_false,exists_false]at hc)
theorem HF {n:Nat} {x y:O} (hc:pJ P o.op=some (.copy n x y)):∃(t t2 e:TypeId) (m:Nat) (x' y':Operand),n=m+1/\o.op=.call {callee:=.builtin .copy,args:= #[x',y'],argTypes:= #[t,t2]}/\
  P.underlying t=some (.slice e)/\ec P e=some (m+1)/\cO P x'=some x/\cO P y'=some y:=by
 unfold pJ at hc
 split at hc
 case h_23=>
  rename_i c ho
  unfold mv at hc
  split at hc
  case h_7=>
   rename_i jZ
   split at hc
   ·rename_i x' y' t t2 h1 h2
    split at hc
    ·rename_i e ht
     split at hc
     ·rename_i m e1
      simp only[Option.bind_eq_bind,Option.bind_eq_some_iff,Option.pure_def,Option.some.injEq,fU.copy.injEq]at hc
      obtain⟨x2,h3,y2,h4,k0,k1,k2⟩:=hc
      subst k1;subst k2
      refine⟨t,t2,e,m,x',y',k0.symm,?_,ht,e1,h3,h4⟩
      rw[ho]
      obtain⟨ca,cb,cc⟩:=c
      simp only at h1 h2 jZ
      subst jZ
      congr
      ·exact Array.ext' h1
      ·exact Array.ext' h2
     ·simp at hc
    ·simp at hc
   ·simp at hc
  all_goals (repeat' (split at hc))<;>(simp only[Option.bind_eq_bind,Option.bind_eq_some_iff,Option.pure_def,Option.some.injEq,Option.map_eq_some_iff,reduceCtorEq,and_false,exists_false]at hc)
 all_goals (try unfold tt at hc)<;>(try unfold qU at hc)<;>(repeat' (split at hc))<;>(simp only[Option.bind_eq_bind,Option.bind_eq_some_iff,Option.pure_def,Option.some.injEq,Option.map_eq_some_iff,reduceCtorEq,and_false,exists_false]at hc)
theorem Fi {z:List K} {x:O} (hc:pJ P o.op=some (.clear z x)):∃(t e:TypeId) (m:Nat) (x':Operand),o.op=.call {callee:=.builtin .clear,args:= #[x'],argTypes:= #[t]}/\
  P.underlying t=some (.slice e)/\ec P e=some (m+1)/\jj P e=some z/\cO P x'=some x:=by
 unfold pJ at hc
 split at hc
 case h_23=>
  rename_i c ho
  unfold mv at hc
  split at hc
  case h_3=>
   rename_i jZ
   split at hc
   ·rename_i x' t h1 h2
    split at hc
    ·rename_i e ht
     split at hc
     ·rename_i m z' e1 e2
      simp only[Option.map_eq_some_iff]at hc
      obtain⟨x2,h3,he⟩:=hc
      injection he with k1 k2
      subst k1;subst k2
      refine⟨t,e,m,x',?_,ht,e1,e2,h3⟩
      rw[ho]
      obtain⟨ca,cb,cc⟩:=c
      simp only at h1 h2 jZ
      subst jZ
      congr
      ·exact Array.ext' h1
      ·exact Array.ext' h2
     ·simp at hc
    ·simp at hc
   ·simp at hc
  all_goals (repeat' (split at hc))<;>(simp only[Option.bind_eq_bind,Option.bind_eq_some_iff,Option.pure_def,Option.some.injEq,Option.map_eq_some_iff,reduceCtorEq,and_false,exists_false]at hc)
 all_goals (try unfold tt at hc)<;>(try unfold qU at hc)<;>(repeat' (split at hc))<;>(simp only[Option.bind_eq_bind,Option.bind_eq_some_iff,Option.pure_def,Option.some.injEq,Option.map_eq_some_iff,reduceCtorEq,and_false,exists_false]at hc)
theorem MV {q:MW} {xs:List O} (hc:pJ P o.op=some (.mw q xs)):
  (∃t x k y m z x' k' y',(o.op=.mapUpdate t x k y∨o.op=.insert t x k y)/\qV P t=some (m,z)/\cO P x=some x'/\cO P k=some k'/\cO P y=some y'/\q=.set m/\xs=[x',k',y'])∨
  (∃t t' x k m z x' k',o.op=.call {callee:=.builtin .delete,args:= #[x,k],argTypes:= #[t,t']}/\qV P t=some (m,z)/\cO P x=some x'/\cO P k=some k'/\q=.del m/\xs=[x',k']):=by
 unfold pJ at hc
 split at hc
 case h_23=>
  rename_i c ho
  right
  unfold mv at hc
  split at hc
  case h_6=>
   rename_i jZ
   split at hc
   ·rename_i x k t t' h1 h2
    split at hc
    ·rename_i m z x' k' e1 e2 e3
     injection hc with hc
     injection hc with q1 q2
     refine⟨t,t',x,k,m,z,x',k',?_,e1,e2,e3,q1.symm,q2.symm⟩
     rw[ho]
     obtain⟨ca,cb,cc⟩:=c
     simp only at h1 h2 jZ
     subst jZ
     congr
     ·exact Array.ext' h1
     ·exact Array.ext' h2
    ·cases hc
   ·cases hc
  all_goals (repeat' (split at hc))<;>(simp only[Option.bind_eq_bind,Option.bind_eq_some_iff,Option.pure_def,Option.some.injEq,Option.map_eq_some_iff,reduceCtorEq,and_false,exists_false]at hc)
 case h_29=>
  rename_i t x k y ho
  left
  split at hc
  ·rename_i m z x' k' y' e1 e2 e3 e4
   injection hc with hc
   injection hc with q1 q2
   exact⟨t,x,k,y,m,z,x',k',y',.inl ho,e1,e2,e3,e4,q1.symm,q2.symm⟩
  ·cases hc
 case h_30=>
  rename_i t x k y ho
  left
  split at hc
  ·rename_i m z x' k' y' e1 e2 e3 e4
   injection hc with hc
   injection hc with q1 q2
   exact⟨t,x,k,y,m,z,x',k',y',.inr ho,e1,e2,e3,e4,q1.symm,q2.symm⟩
  ·cases hc
 all_goals (try unfold tt at hc)<;>(try unfold qU at hc)<;>(repeat' (split at hc))<;>(simp only[Option.bind_eq_bind,Option.bind_eq_some_iff,Option.pure_def,Option.some.injEq,Option.map_eq_some_iff,reduceCtorEq,and_false,exists_false]at hc)
def iR (g:Rows) (id:Id):Option Row->Rows
 |some r=>bK g id r
 |none=>g
def tx (X:ft) (hid:List Nat) (site n:Nat) (f:Nat) (args:List AV) (g:Rows) (v:AV) (g':Rows):Prop:=
 (fQ X f args ⟨fG hid n g,n+1⟩ (fun r=>r=v)/\g'=g)∨
 (hid.contains site=true/\∃sz rows,CM X f args ⟨fG hid n g,n+1⟩ sz rows/\v=.own ⟨site,n⟩ 0 rows.length/\g'=bK g ⟨site,n⟩ ⟨true,sz,rows⟩)
def VS (X:ft) (n:Nat) (vo:bf) (env:Env) (g:Rows) (v:AV) (g':Rows):Prop:=
 match vo.op with
 | .call f args=>tx X vo.hid vo.site n f (args.map (cV env)) g v g'
 | .rV x args=>∃f l,tu (cV env x) (args.map (cV env))=some (f,l)/\tx X vo.hid vo.site n f l g v g'
 | .store .. | .append .. | .copy .. | .clear .. | .mw .. =>fH vo.op (cV env) g ⟨vo.site,n⟩=some (v,g')
 |_=>∃mr,eD vo.op (cV env) (fG vo.hid n g) ⟨vo.site,n⟩=some (v,mr)/\g'=iR g ⟨vo.site,n⟩ mr
def KS (P:Program) (hs:Nat) (D:Nat->Prop) (ι:Names) (w:World) (U:Nat->Prop) (site n:Nat) (a:Act) (dst:Option Tmp) (v:AV) (g':Rows) (a':Act) (w':World):Prop:=
 ∃u D' ι',a'=a.put dst u/\Step hs D ι w D' ι' w'/\fW P hs D' ι' g' w'/\da P w' D' ι' v u/\Used ι' n (fun s=>U s∨s=site)
theorem fresh {n:Nat} {U:Nat->Prop} {s:Nat} (h:Used ι n U) (hU:¬U s):ι ⟨s,n⟩=none:=by
 cases hq:ι ⟨s,n⟩with
 |none=>rfl
 |some B=>
  rcases h ⟨s,n⟩ (by rw[hq];simp)with h|⟨_,h⟩
  ·exact absurd h (Nat.lt_irrefl _)
  ·exact absurd h hU
theorem Used.more {n:Nat} {U U':Nat->Prop} (h:Used ι n U) (hU:∀s,U s->U' s):Used ι n U':=fun id hid=>by
 rcases h id hid with h|⟨h1,h2⟩
 ·exact .inl h
 ·exact .inr ⟨h1,hU _ h2⟩
theorem Used.next {n:Nat} {U:Nat->Prop} (h:Used ι n U):Used ι (n+1) (fun _=>False):=fun id hid=>by
 rcases h id hid with h|⟨h1,_⟩
 ·exact .inl (Nat.lt_succ_of_lt h)
 ·exact .inl (by omega)
theorem Used.upd {n:Nat} {U:Nat->Prop} {s:Nat} {B:sr} (h:Used ι n U):Used (jT ι ⟨s,n⟩ B) n (fun x=>U x∨x=s):=fun id hid=>by
 by_cases he:id=⟨s,n⟩
 ·subst he;exact .inr ⟨rfl,.inr rfl⟩
 ·rw[fP he]at hid
  exact(h.more (U':=fun x=>U x∨x=s) fun _ h=>Or.inl h) id hid
theorem nk {xs:Array Operand} {ys:List O} (E:bV P w D ι env a) (h:xs.toList.mapM (cO P)=some ys):fb P w D ι (ys.map (cV env)) (xs.map a.eval):=by
 obtain⟨h1,h2⟩:=CN E h
 refine⟨by simpa using h1,fun j b hj=>?_⟩
 simp only[List.getElem?_map,Option.map_eq_some_iff]at hj
 obtain⟨y,hy,rfl⟩:=hj
 have dJ:j<xs.size:=by have:=(List.getElem?_eq_some_iff.1 hy).1;simp at h1;omega
 refine⟨a.eval xs[j],by simp[dJ],?_⟩
 have:=h2 j y hy
 simpa[List.getD_eq_getElem?_getD,dJ]using this
theorem nK {xs ys:List AV} {vs us:Array Value} (h:fb P w D ι xs vs) (k:fb P w D ι ys us):fb P w D ι (xs++ys) (vs++us):=
 ⟨by simp[h.1,k.1],fun j b hj=>by
  by_cases dJ:j<xs.length
  ·rw[List.getElem?_append_left dJ]at hj
   obtain⟨u,hu,vJ⟩:=h.2 j b hj
   exact⟨u,by rw[Array.getElem?_append_left (by rw[h.1];exact dJ)];exact hu,vJ⟩
  ·rw[List.getElem?_append_right (by omega)]at hj
   obtain⟨u,hu,vJ⟩:=k.2 _ b hj
   exact⟨u,by rw[Array.getElem?_append_right (by rw[h.1];omega),h.1];exact hu,vJ⟩⟩
theorem uC:fb P w D ι [] #[]:=⟨rfl,fun j b hj=>by simp at hj⟩
theorem tz {x:AV} {l l':List AV} {f:Nat} {vs:Array Value} {v:Value} (h:tu x l=some (f,l')) (hr:da P w D ι x v) (hA:fb P w D ι l vs):
  ∃first cX,v=.func (.func f) first cX/\fA P f=true/\fb P w D ι l' (first++vs++cX):=by
 unfold tu at h
 split at h
 ·simp only[Option.some.injEq,Prod.mk.injEq]at h
  obtain⟨rfl,rfl⟩:=h
  obtain⟨us,q,he,DP,n1,q1,q2⟩:=uD hr
  refine⟨#[],us,he,DP,?_⟩
  rw[Array.empty_append]
  exact nK hA ⟨n1,fun j b hj=>⟨q j,q1 j (List.getElem?_eq_some_iff.1 hj).1,q2 j b hj⟩⟩
 ·simp only[Option.some.injEq,Prod.mk.injEq]at h
  obtain⟨rfl,rfl⟩:=h
  obtain⟨us,q,he,DP,n1,q1,q2⟩:=Kw hr
  refine⟨us, #[],he,DP,?_⟩
  rw[Array.append_empty]
  exact nK ⟨n1,fun j b hj=>⟨q j,q1 j (List.getElem?_eq_some_iff.1 hj).1,q2 j b hj⟩⟩ hA
 ·cases h
theorem ze {n:Nat} {vo:bf} {g':Rows} {U:Nat->Prop} {Q:Exit->Act->World->Prop} {K:Act->World->Prop} (hc:pJ P o.op=some vo.op) (hv:VS (Sound P) n vo env g v g') (S:fW P hs D ι g w) (Us:Used ι n U) (hU:¬U vo.site) (E:bV P w D ι env a)
  (hK:∀a' w',KS P hs D ι w U vo.site n a o.dst v g' a' w'->K a' w'):o.wp P a w K Q:=by
 have hf:=fresh Us hU
 have zo:∀(f:Nat) (args:List AV) (vs:Array Value),tx (Sound P) vo.hid vo.site n f args g v g'->fb P w D ι args vs->(execOp a.eval o).run P w=.ok (.enter f vs) w->o.wp P a w K Q:=by
  intro f args vs hP hA fX
  unfold Oper.wp
  rw[fX]
  rcases hP with⟨hP,rfl⟩|⟨_,sz,rows,hM,rfl,rfl⟩
  ·refine(Et hP yL S Us.next hA).mono ?_
   rintro e w' ⟨r,D',u,rfl,rfl,T,S',hR⟩
   exact hK _ _ ⟨u,D',ι,rfl,T,S',hR,Us.more fun _ h=>.inl h⟩
  ·refine(Gr hM yL S Us.next hA hf).mono ?_
   rintro e w' ⟨u,B,rfl,T,S',hR⟩
   exact hK _ _ ⟨u,D,_,rfl,T,S',hR,Us.upd⟩
 have quiet:∀(mr:Option Row),eD vo.op (cV env) (fG vo.hid n g) ⟨vo.site,n⟩=some (v,mr)->g'=iR g ⟨vo.site,n⟩ mr->o.wp P a w K Q:=by
  intro mr hq hg
  have Q2:=xd hc hq (S.sub yL) E
  unfold Oper.wp
  cases mr with
  |none=>
   obtain⟨u,fX,hR⟩:=Q2
   rw[fX]
   subst hg
   exact hK _ _ ⟨u,D,ι,rfl,Step.refl _ _ _ _,S,hR,Us.more fun _ h=>.inl h⟩
  |some r=>
   rcases Q2 with⟨u,cells,T,fX,h1,h2,h3,h4,h5,h6⟩|⟨m,fX,JU,Gj⟩|⟨c,fX,JU,Gj⟩
   case inr.inr=>
    rw[fX]
    subst hg JU Gj
    have eW:w.heap.size<(w.alloc (.chan c #[] false 0 0 false)).heap.size:=by simp
    have S':=S.stay (w':=w.alloc (.chan c #[] false 0 0 false)) (D':=D) (ι':=ι) (fun k hk=>Below.heap_alloc _ _ _ hk) (by simp) (fun _ h=>h) (fun b hd=>Nat.lt_trans (S.dead b hd) eW) (fun _ h=>.inl h) (fun _ _ h=>h)
    have S1:=S.add S' (id:=⟨vo.site,n⟩) (B:=⟨w.heap.size,pZ+c,0,some (.chan c)⟩) (r:=⟨true,pZ+c,[]⟩) hf (Nat.le_refl _) ⟨rfl,fun cs h=>by simp at h,fun h=>by simp at h,fun m' h=>(by simp at h),fun c' h=>by
     simp only[Option.some.injEq,BK.chan.injEq]at h;subst h
     exact⟨rfl, #[],0,0,(show(w.heap.push (Obj.chan c #[] false 0 0 false))[w.heap.size]? =some (Obj.chan c #[] false 0 0 false) by simp),rfl,fun i cs h=>by simp at h⟩⟩
    exact hK _ _ ⟨_,D,_,rfl,Step.stay S (fun k hk=>Below.heap_alloc _ _ _ hk) (by simp) rfl rfl rfl (fun _ h=>h) (fun _ h=>.inl h) (fD hf),S1,.sP _ _ _ (ek _ _ _) rfl,Us.upd⟩
   case inr.inl=>
    rw[fX]
    subst hg JU Gj
    have eW:w.heap.size<(w.alloc (.map #[] 0)).heap.size:=by simp
    have S':=S.stay (w':=w.alloc (.map #[] 0)) (D':=D) (ι':=ι) (fun k hk=>Below.heap_alloc _ _ _ hk) (by simp) (fun _ h=>h) (fun b hd=>Nat.lt_trans (S.dead b hd) eW) (fun _ h=>.inl h) (fun _ _ h=>h)
    have S1:=S.add S' (id:=⟨vo.site,n⟩) (B:=⟨w.heap.size,m.lp,0,some (.map m)⟩) (r:=⟨true,m.lp,[]⟩) hf (Nat.le_refl _) ⟨rfl,fun cs h=>by simp at h,fun h=>by simp at h,fun m' h=>by
     simp only[Option.some.injEq,BK.map.injEq]at h;subst h
     exact⟨rfl, #[],0,(show(w.heap.push (Obj.map #[] 0))[w.heap.size]? =some (Obj.map #[] 0) by simp),rfl,⟨fun cs h=>by simp at h,fun x h=>by simp at h,by simp⟩,fun i cs h=>by simp at h⟩,fun c h=>by simp at h⟩
    exact hK _ _ ⟨_,D,_,rfl,Step.stay S (fun k hk=>Below.heap_alloc _ _ _ hk) (by simp) rfl rfl rfl (fun _ h=>h) (fun _ h=>.inl h) (fD hf),S1,.map _ _ _ (ek _ _ _) rfl,Us.upd⟩
   rw[fX]
   subst hg
   have S1:=S.alloc (id:=⟨vo.site,n⟩) (w':=w.alloc (.cells cells T)) rfl hf h1 h2 h3 h4 h5
   refine hK _ _ ⟨u,D,_,rfl,Step.stay S (fun k hk=>Below.heap_alloc _ _ _ hk) (by simp) rfl rfl rfl (fun _ h=>h) (fun _ h=>.inl h) (fD hf),S1,(h6 (jT ι _ _) (ek _ _ _)).frame (fun b hd=>Below.heap_alloc _ _ _ (S.dead b hd)) (fun _ h=>h) (fun _ _ h=>h),Us.upd⟩
 have NS:fH vo.op (cV env) g ⟨vo.site,n⟩=some (v,g')->(∀Jd,Bi P hs a o Jd D ι ⟨vo.site,n⟩ v g'->Jd=w->o.wp P a w K Q):=by
  intro _ Jd hE he
  subst he
  obtain⟨u,w',ι',fX,T,S',hR,hι⟩:=hE
  have Hj:KS P hs D ι Jd U vo.site n a o.dst v g' (a.put o.dst u) w':=⟨u,D,ι',rfl,T,S',hR,fun id hid=>by
   by_cases he:id=⟨vo.site,n⟩
   ·subst he;exact .inr ⟨rfl,.inr rfl⟩
   ·rw[hι id he]at hid
    exact(Us.more (U':=fun x=>U x∨x=vo.site) fun _ h=>Or.inl h) id hid⟩
  unfold Oper.wp
  rcases fX with fX|⟨fX,rfl⟩
  ·rw[fX];exact hK _ _ Hj
  ·rw[fX];exact hK _ _ Hj
 unfold VS at hv
 split at hv
 ·rename_i f args dB
  rw[dB]at hc
  obtain⟨c,ho,jZ,DP,mB⟩:=Ae hc
  refine zo f _ (c.args.map a.eval) hv (nk E mB) ?_
  simp only[execOp,ho,resolve,jZ,Deferred.ofValue,Act.eval,Sem.run_bind,Sem.run_pure,Result.andThen_ok,invoke,Array.empty_append,Array.append_empty]
  exact jd DP
 ·rename_i x args dB
  obtain⟨f,l,hx,hP⟩:=hv
  rw[dB]at hc
  obtain⟨c,t,ho,jZ,rfl,mB⟩:=rC hc
  obtain⟨first,cX,he,DP,hL⟩:=tz (v:=a.eval (.tmp t)) hx (E t) (nk E mB)
  refine zo f _ (first++c.args.map a.eval++cX) hP hL ?_
  simp only[execOp,ho,resolve,jZ,he,Deferred.ofValue,Sem.run_bind,Sem.run_pure,Result.andThen_ok,invoke]
  exact jd DP
 ·rename_i m x y dB
  have jR:=hc
  rw[dB]at jR
  obtain⟨t,x',y',ho,h1,h2,h3⟩:=Fj jR
  have mO:=hv
  rw[dB]at mO
  simp only[fH,Option.map_eq_some_iff,Prod.mk.injEq]at mO
  obtain⟨g1,Cb,rfl,rfl⟩:=mO
  exact NS hv w (Jt S E ho h1 h2 h3 Cb) rfl
 ·rename_i m x y dB
  have jR:=hc
  rw[dB]at jR
  obtain⟨t,e,m',z,i,x',y',rfl,ho,h1,h2,h3,h4,h5,h6,h7⟩:=Cs jR
  have mO:=hv
  rw[dB]at mO
  simp only[fH,Option.bind_eq_some_iff]at mO
  obtain⟨ys,Bg,mO⟩:=mO
  exact NS hv w (G1 S E hf ho h1 h2 h3 h4 h5 h6 h7 Bg mO) rfl
 ·rename_i m x y dB
  have jR:=hc
  rw[dB]at jR
  obtain⟨t,t2,e,m',x',y',rfl,ho,h1,h2,h3,h4⟩:=HF jR
  have mO:=hv
  rw[dB]at mO
  simp only[fH,Option.bind_eq_some_iff]at mO
  obtain⟨ys,Bg,mO⟩:=mO
  exact NS hv w (LY S E ho h1 h2 h3 h4 Bg mO) rfl
 ·rename_i z x dB
  have jR:=hc
  rw[dB]at jR
  obtain⟨t,e,m',x',ho,h1,h2,h3,h4⟩:=Fi jR
  have mO:=hv
  rw[dB]at mO
  simp only[fH,Option.map_eq_some_iff,Prod.mk.injEq]at mO
  obtain⟨g1,Cb,rfl,rfl⟩:=mO
  exact NS hv w (Js S E ho h1 h2 h3 h4 Cb) rfl
 ·rename_i q xs dB
  have jR:=hc
  rw[dB]at jR
  have mO:=hv
  rw[dB]at mO
  simp only[fH,Option.map_eq_some_iff,Prod.mk.injEq]at mO
  obtain⟨g1,Cb,rfl,rfl⟩:=mO
  rcases MV jR with⟨t,x,k,y,m,z,x',k',y',ho,h1,h2,h3,h4,rfl,rfl⟩|⟨t,t',x,k,m,z,x',k',ho,h1,h2,h3,rfl,rfl⟩
  ·exact NS hv w (L0 S E ho h1 h2 h3 h4 Cb) rfl
  ·exact NS hv w (LZ S E ho h1 h2 h3 Cb) rfl
 ·obtain⟨mr,hq,hg⟩:=hv
  exact quiet mr hq hg
end
end Go.Proofs.YtgoljkjaameagaaGreat.V

namespace Go.Proofs.YtgoljkjaameagaaGreat.V
open Go.RowKit
variable {P:Program} {w w':World} {D D' D2:Nat->Prop} {ι ι' ι2:Names}
section
variable {g:Rows} {hs:Nat} {env:Env} {a:Act} {o:Oper} {id:Id} {v:AV}
theorem nS {ops:Array Oper} {nt site0 j:Nat} {draw mk:Bool} {bs:Array Nat} {hidden:List (Nat×Bool)} {vo:bf} (h:lv P ops nt site0 draw mk bs hidden j o=some vo):
  pJ P o.op=some vo.op/\vo.dst=o.dst/\vo.site=site0+j/\(∀d,o.dst=some d->d<nt)/\(match o.guard with
   |none=>vo.guard=none
   |some (i,b)=>∃t,(ops[i]?).bind (·.dst)=some t/\vo.guard=some (t,b)):=by
 unfold lv at h
 simp only[Option.bind_eq_bind,Option.bind_eq_some_iff]at h
 obtain⟨v,hv,gd,hg,h⟩:=h
 split at h
 ·rename_i hd
  simp only[Option.pure_def,Option.some.injEq]at h
  subst h
  refine⟨hv,rfl,rfl,fun d QM=>?_,?_⟩
  ·rw[QM]at hd;simpa using hd
  ·unfold BE at hg
   cases sH:o.guard with
   |none=>rw[sH]at hg;simp at hg;exact hg.symm
   |some p=>
    obtain⟨i,b⟩:=p
    rw[sH]at hg
    dsimp only at hg ⊢
    split at hg
    ·rename_i t ht
     simp at hg;exact⟨t,ht,hg.symm⟩
    ·simp at hg
 ·simp at h
theorem rP {ops:Array Oper} {vo:bf} (E:bV P w D ι env a) (hg:match o.guard with
   |none=>vo.guard=none
   |some (i,b)=>∃t,(ops[i]?).bind (·.dst)=some t/\vo.guard=some (t,b)):aH vo.guard env=Region.wanted o (yielded ops a.tmps):=by
 unfold Region.wanted
 cases sH:o.guard with
 |none=>rw[sH]at hg;simp only at hg;rw[hg];rfl
 |some p=>
  obtain⟨i,b⟩:=p
  rw[sH]at hg
  obtain⟨t,ht,hv⟩:=hg
  rw[hv]
  simp only[aH,yielded,ht,Option.bind_some]
  have hr:=E t
  by_cases dJ:t<a.tmps.size
  ·have gi:a.tmps[t]? =some a.tmps[t]:=Array.getElem?_eq_getElem dJ
   have hd:a.tmps.getD t undef=a.tmps[t]:=by simp[dJ]
   rw[hd]at hr
   rw[gi]
   generalize a.tmps[t]=u at hr
   cases he:env t with
   |bool c=>rw[he]at hr;rw[eT hr];simp
   |_=>
    rw[he]at hr
    have:∀c,u≠.bool c:=by
     intro c hu
     subst hu
     cases hr with
     |eO _ _ h=>cases h
    cases u<;>simp_all
  ·have gi:a.tmps[t]? =none:=Array.getElem?_eq_none (Nat.le_of_not_lt dJ)
   have hd:a.tmps.getD t undef=undef:=by simp[gi]
   rw[hd]at hr
   rw[gi]
   cases he:env t with
   |bool c=>rw[he]at hr;have:=eT hr;simp[undef]at this
   |_=>simp
theorem lV {dst:Option Nat} {nt:Nat} {u:Value} (E:bV P w D ι env a) (hr:da P w D ι v u) (hd:∀d,dst=some d->d<nt) (hs:a.tmps.size=nt):bV P w D ι (upd env dst v) (a.put dst u):=by
 intro t
 cases dst with
 |none=>exact E t
 |some d=>
  have dJ:d<a.tmps.size:=by rw[hs];exact hd d rfl
  simp only[upd,Act.put]
  by_cases ht:t=d
  ·subst ht
   simp[dJ];exact hr
  ·rw[if_neg ht]
   have:(a.tmps.setIfInBounds d u).getD t undef=a.tmps.getD t undef:=by
    simp only[Array.getD_eq_getD_getElem?]
    rw[Array.getElem?_setIfInBounds_ne (fun e=>ht e.symm)]
   rw[this];exact E t
theorem ns {hs:Nat} (E:bV P w D ι env a) (T:Step hs D ι w D' ι' w'):bV P w' D' ι' env a:=fun t=>T.rep (E t)
theorem kq (a:Act) (dst:Option Tmp) (u:Value):(a.put dst u).tmps.size=a.tmps.size:=by cases dst<;>simp[Act.put]
theorem put_defers (a:Act) (dst:Option Tmp) (u:Value):(a.put dst u).defers=a.defers:=by cases dst<;>rfl
theorem xj {draw:Bool} {vo:bf} {σ:ax} {next:AV->ax->Prop} {U:Nat->Prop} {Q:Exit->Act->World->Prop} {K:Act->World->Prop} (hc:pJ P o.op=some vo.op) (hv:fq (Sound P) draw vo env σ next) (S:fW P hs D ι σ.get w) (Us:Used ι σ.next U) (hU:¬U vo.site) (E:bV P w D ι env a)
  (hK:∀v σ' u D' ι' w',next v σ'->Step hs D ι w D' ι' w'->fW P hs D' ι' σ'.get w'->da P w' D' ι' v u->Used ι' σ'.next (fun s=>U s∨s=vo.site)->σ.next<=σ'.next->K (a.put o.dst u) w'):o.wp P a w K Q:=by
 have close:∀v g',VS (Sound P) σ.next vo env σ.get v g'->next v ⟨g',σ.next⟩->o.wp P a w K Q:=fun v g' h1 h2=>
  ze hc h1 S Us hU E fun a' w' ⟨u,D',ι',ha,T,S',hR,U'⟩=>by subst ha;exact hK v ⟨g',σ.next⟩ u D' ι' w' h2 T S' hR U' (Nat.le_refl _)
 have H4:∀(f:Nat) (args:List AV) (vs:Array Value),Sound P f args ⟨σ.get,σ.next+1⟩ next->fb P w D ι args vs->(execOp a.eval o).run P w=.ok (.enter f vs) w->o.wp P a w K Q:=by
  intro f args vs h hA fX
  unfold Oper.wp
  rw[fX]
  refine(h hs D ι w vs S Us.next hA).mono ?_
  rintro e w' ⟨r,g',n',D',ι',u,rfl,hn,T,S',U',hle,hR⟩
  exact hK r ⟨g',n'⟩ u D' ι' w' hn T S' hR (U'.more fun _ h=>h.elim) (Nat.le_trans (Nat.le_succ _) hle)
 unfold fq at hv
 split at hv
 ·rename_i f args dB
  rcases hv with⟨r,hP,hn⟩|⟨_,hX⟩|⟨I6,sz,rows,hM,hn⟩
  ·exact close r σ.get (by unfold VS;rw[dB];exact .inl ⟨hP,rfl⟩) hn
  rotate_left
  ·exact close _ _ (by unfold VS;rw[dB];exact .inr ⟨I6,sz,rows,hM,rfl,rfl⟩) hn
  ·have jR:=hc
   rw[dB]at jR
   obtain⟨c,ho,jZ,DP,mB⟩:=Ae jR
   refine H4 f _ (c.args.map a.eval) hX (nk E mB) ?_
   simp only[execOp,ho,resolve,jZ,Deferred.ofValue,Act.eval,Sem.run_bind,Sem.run_pure,Result.andThen_ok,invoke,Array.empty_append,Array.append_empty]
   exact jd DP
 ·rename_i x args dB
  split at hv
  ·rename_i f cX hx
   have sa:tu (cV env x) (args.map (cV env))=some (f,args.map (cV env)++cX):=by rw[hx];rfl
   rcases hv with⟨r,hP,hn⟩|⟨_,hX⟩|⟨I6,sz,rows,hM,hn⟩
   ·exact close r σ.get (by unfold VS;rw[dB];exact⟨f,_,sa,.inl ⟨hP,rfl⟩⟩) hn
   rotate_left
   ·exact close _ _ (by unfold VS;rw[dB];exact⟨f,_,sa,.inr ⟨I6,sz,rows,hM,rfl,rfl⟩⟩) hn
   ·have jR:=hc
    rw[dB]at jR
    obtain⟨c,t,ho,jZ,rfl,mB⟩:=rC jR
    obtain⟨first,us,he,DP,hL⟩:=tz (v:=a.eval (.tmp t)) sa (E t) (nk E mB)
    refine H4 f _ (first++c.args.map a.eval++us) hX hL ?_
    simp only[execOp,ho,resolve,jZ,he,Deferred.ofValue,Sem.run_bind,Sem.run_pure,Result.andThen_ok,invoke]
    exact jd DP
  ·rename_i f cX hx
   have sa:tu (cV env x) (args.map (cV env))=some (f,cX++args.map (cV env)):=by rw[hx];rfl
   rcases hv with⟨r,hP,hn⟩|⟨_,hX⟩|⟨I6,sz,rows,hM,hn⟩
   ·exact close r σ.get (by unfold VS;rw[dB];exact⟨f,_,sa,.inl ⟨hP,rfl⟩⟩) hn
   rotate_left
   ·exact close _ _ (by unfold VS;rw[dB];exact⟨f,_,sa,.inr ⟨I6,sz,rows,hM,rfl,rfl⟩⟩) hn
   ·have jR:=hc
    rw[dB]at jR
    obtain⟨c,t,ho,jZ,rfl,mB⟩:=rC jR
    obtain⟨first,us,he,DP,hL⟩:=tz (v:=a.eval (.tmp t)) sa (E t) (nk E mB)
    refine H4 f _ (first++c.args.map a.eval++us) hX hL ?_
    simp only[execOp,ho,resolve,jZ,he,Deferred.ofValue,Sem.run_bind,Sem.run_pure,Result.andThen_ok,invoke]
    exact jd DP
  ·exact hv.elim
 ·rename_i m x y dB
  split at hv
  ·rename_i v' g' he
   exact close v' g' (by unfold VS;rw[dB];rw[dB]at he;exact he) hv
  ·exact hv.elim
 ·rename_i m x y dB
  split at hv
  ·rename_i v' g' he
   exact close v' g' (by unfold VS;rw[dB];rw[dB]at he;exact he) hv
  ·exact hv.elim
 ·rename_i m x y dB
  split at hv
  ·rename_i v' g' he
   exact close v' g' (by unfold VS;rw[dB];rw[dB]at he;exact he) hv
  ·exact hv.elim
 ·rename_i m x dB
  split at hv
  ·rename_i v' g' he
   exact close v' g' (by unfold VS;rw[dB];rw[dB]at he;exact he) hv
  ·exact hv.elim
 ·rename_i m x dB
  split at hv
  ·rename_i v' g' he
   exact close v' g' (by unfold VS;rw[dB];rw[dB]at he;exact he) hv
  ·exact hv.elim
 ·rename_i n1 n2 n3 n4 n5 n6 n7
  split at hv
  ·rename_i v' r hq
   refine close v' (bK σ.get ⟨vo.site,σ.next⟩ r) ?_ hv
   unfold VS
   split
   ·rename_i h;exact(n1 _ _ h).elim
   ·rename_i h;exact(n2 _ _ h).elim
   ·rename_i h;exact(n3 _ _ _ h).elim
   ·rename_i h;exact(n4 _ _ _ h).elim
   ·rename_i h;exact(n5 _ _ _ h).elim
   ·rename_i h;exact(n6 _ _ h).elim
   ·rename_i h;exact(n7 _ _ h).elim
   ·exact⟨some r,hq,rfl⟩
  ·rename_i v' hq
   refine close v' σ.get ?_ hv
   unfold VS
   split
   ·rename_i h;exact(n1 _ _ h).elim
   ·rename_i h;exact(n2 _ _ h).elim
   ·rename_i h;exact(n3 _ _ _ h).elim
   ·rename_i h;exact(n4 _ _ _ h).elim
   ·rename_i h;exact(n5 _ _ _ h).elim
   ·rename_i h;exact(n6 _ _ h).elim
   ·rename_i h;exact(n7 _ _ h).elim
   ·exact⟨none,hq,rfl⟩
  ·exact hv.elim
structure St (P:Program) (hs nt:Nat) (D:Nat->Prop) (ι:Names) (env:Env) (σ:ax) (a:Act) (w:World):Prop where
 Jb:fW P hs D ι σ.get w
 used:Used ι σ.next (fun _=>False)
 env:bV P w D ι env a
 size:a.tmps.size=nt
theorem CK (rest:List Oper) {ops:Array Oper} {nt site0:Nat} {draw mk:Bool} {bs:Array Nat} {hidden:List (Nat×Bool)} {K:Env->ax->Prop} {Q:Exit->Act->World->Prop}:∀(l:List Oper) (vl:List bf) (j:Nat) (env:Env) (σ:ax) (a:Act) (w:World) (D:Nat->Prop) (ι:Names) (U:Nat->Prop),
  allM (lv P ops nt site0 draw mk bs hidden) l j=some vl->wpOps (Sound P) draw vl K env σ->fW P hs D ι σ.get w->Used ι σ.next U->(∀s,U s->s<site0+j)->bV P w D ι env a->a.tmps.size=nt->
  (∀ig σ' a' w' D' ι',K ig σ'->Step hs D ι w D' ι' w'->St P hs nt D' ι' ig σ' a' w'->a'.defers=a.defers->σ.next<=σ'.next->wpList P ops Q rest a' w')->wpList P ops Q (l++rest) a w:=by
 intro l
 induction l with
 |nil=>
  intro vl j env σ a w D ι U h hv S Us _ E eW hQ
  simp[allM]at h;subst h
  exact hQ env ⟨σ.get,σ.next+1⟩ a w D ι hv (Step.refl _ _ _ _) ⟨S,Us.next,E,eW⟩ rfl (Nat.le_succ _)
 |cons o l ih=>
  intro vl j env σ a w D ι U h hv S Us hU E eW hQ
  simp only[allM,Option.bind_eq_bind,Option.bind_eq_some_iff,Option.pure_def,Option.some.injEq]at h
  obtain⟨vo,j9,rO,qQ,rfl⟩:=h
  obtain⟨hc,hd,zY,vD,hg⟩:=nS j9
  have hw:=rP (ops:=ops) (vo:=vo) E hg
  unfold wpOps at hv
  show wpList P ops Q (o::(l++rest)) a w
  unfold wpList
  rw[<-hw]
  split at hv
  ·rename_i Fe
   rw[if_pos Fe]
   refine .inl (xj hc hv S Us (fun h=>by have:=hU _ h;omega) E fun v σ' u D' ι' w' hn T S' hR U' hle=>?_)
   refine ih rO (j+1) (upd env vo.dst v) σ' (a.put o.dst u) w' D' ι' _ qQ hn S' U' (fun s zV=>by
    rcases zV with h|h
    ·have:=hU _ h;omega
    ·omega) (by rw[hd];exact lV (ns E T) hR vD eW) (by rw[kq];exact eW) fun ig σ2 a' w2 D2 ι2 hk T2 LD B9 lW=>hQ ig σ2 a' w2 D2 ι2 hk (T.trans T2) LD (B9.trans (put_defers _ _ _)) (Nat.le_trans hle lW)
  ·rename_i Fe
   rw[if_neg Fe]
   refine ih rO (j+1) (upd env vo.dst .undef) σ (a.put o.dst undef) w D ι U qQ hv S Us (fun s zV=>by have:=hU _ zV;omega) (by rw[hd];exact lV E da.undef vD eW) (by rw[kq];exact eW) fun ig σ2 a' w2 D2 ι2 hk T2 LD B9 lW=>hQ ig σ2 a' w2 D2 ι2 hk T2 LD (B9.trans (put_defers _ _ _)) lW
theorem FF {ops:Array Oper} {nt site0:Nat} {draw mk:Bool} {bs:Array Nat} {hidden:List (Nat×Bool)} {K:Env->ax->Prop} {Q:Exit->Act->World->Prop}:∀(l:List Oper) (vl:List bf) (j:Nat) (env:Env) (σ:ax) (a:Act) (w:World) (D:Nat->Prop) (ι:Names) (U:Nat->Prop),
  allM (lv P ops nt site0 draw mk bs hidden) l j=some vl->wpOps (Sound P) draw vl K env σ->fW P hs D ι σ.get w->Used ι σ.next U->(∀s,U s->s<site0+j)->bV P w D ι env a->a.tmps.size=nt->
  (∀ig σ' a' w' D' ι',K ig σ'->Step hs D ι w D' ι' w'->St P hs nt D' ι' ig σ' a' w'->a'.defers=a.defers->σ.next<=σ'.next->Q .normal a' w')->wpList P ops Q l a w:=fun l vl j env σ a w D ι U h hv S Us hU E eW hQ=>by
 have:=CK [] l vl j env σ a w D ι U h hv S Us hU E eW hQ
 rwa [List.append_nil]at this
end
end Go.Proofs.YtgoljkjaameagaaGreat.V

namespace Go.Proofs.YtgoljkjaameagaaGreat.V
open Go.RowKit
variable {P:Program} {w w':World} {D D' D2:Nat->Prop} {ι ι' ι2:Names}
section
variable {hs:Nat} {X:ft}
theorem aY {env iC:Env} {x:O} (h:∀t∈gx x,env t=iC t):cV env x=cV iC x:=by
 cases x with
 |t n=>exact h n (by simp[gx])
 |_=>rfl
theorem map_congr {env iC:Env} {l:List O} (h:∀t∈l.flatMap gx,env t=iC t):l.map (cV env)=l.map (cV iC):=
 List.map_congr_left fun x hx=>aY fun t ht=>h t (List.mem_flatMap.2 ⟨x,hx,ht⟩)
theorem nZ {env iC:Env} {x:Option O} (h:∀t∈ur x,env t=iC t):x.map (cV env)=x.map (cV iC):=by
 cases x with
 |none=>rfl
 |some y=>simp only[Option.map_some];rw[aY h]
theorem rI {env iC:Env} {o:fU} {g:Rows} {id:Id} (h:∀t∈o.ga,env t=iC t):eD o (cV env) g id=eD o (cV iC) g id:=by
 cases o<;>simp only[fU.ga,List.mem_append]at h<;>simp only[eD]
 case de x=>rw[aY h]
 case pick c a b=>rw[aY (x:=c) fun t ht=>h t (.inl (.inl ht)),aY (x:=a) fun t ht=>h t (.inl (.inr ht)),aY (x:=b) fun t ht=>h t (.inr ht)]
 case box x=>rw[aY h]
 case build z ps=>
  have:(ps.map fun(x:Nat×Nat×O)=>(x.1,x.2.1,cV env x.2.2))=ps.map fun(x:Nat×Nat×O)=>(x.1,x.2.1,cV iC x.2.2):=List.map_congr_left fun x hx=>by
   rw[aY (x:=x.2.2) fun t ht=>h t (List.mem_flatMap.2 ⟨x,hx,ht⟩)]
  rw[this]
 case lT a b l=>rw[map_congr h]
 case load a n x=>rw[aY h]
 case zt x=>rw[aY h]
 case bin a b x y=>rw[aY (x:=x) fun t ht=>h t (.inl ht),aY (x:=y) fun t ht=>h t (.inr ht)]
 case sh a x y=>rw[aY (x:=x) fun t ht=>h t (.inl ht),aY (x:=y) fun t ht=>h t (.inr ht)]
 case Jp a x y=>rw[aY (x:=x) fun t ht=>h t (.inl ht),aY (x:=y) fun t ht=>h t (.inr ht)]
 case L1 a b x y=>rw[aY (x:=x) fun t ht=>h t (.inl ht),aY (x:=y) fun t ht=>h t (.inr ht)]
 case Qs a b x y=>rw[aY (x:=x) fun t ht=>h t (.inl ht),aY (x:=y) fun t ht=>h t (.inr ht)]
 case OI a b x=>rw[aY h]
 case Qt a x=>rw[aY h]
 case not x=>rw[aY h]
 case neg x=>rw[aY h]
 case conv k x=>rw[aY h]
 case Dv x=>rw[aY h]
 case slice s x lo hi=>rw[aY (x:=x) fun t ht=>h t (.inl (.inl ht)),nZ (x:=lo) fun t ht=>h t (.inl (.inr ht)),nZ (x:=hi) fun t ht=>h t (.inr ht)]
 case yG x lo hi=>rw[aY (x:=x) fun t ht=>h t (.inl (.inl ht)),nZ (x:=lo) fun t ht=>h t (.inl (.inr ht)),nZ (x:=hi) fun t ht=>h t (.inr ht)]
 case fM k x=>rw[aY h]
 case field a b c x=>rw[aY h]
 case dC s x y=>rw[aY (x:=x) fun t ht=>h t (.inl ht),aY (x:=y) fun t ht=>h t (.inr ht)]
 case JZ n s x y=>rw[aY (x:=x) fun t ht=>h t (.inl ht),aY (x:=y) fun t ht=>h t (.inr ht)]
 case J2 x y=>rw[aY (x:=x) fun t ht=>h t (.inl ht),aY (x:=y) fun t ht=>h t (.inr ht)]
 case eC a b c x y=>rw[aY (x:=x) fun t ht=>h t (.inl ht),aY (x:=y) fun t ht=>h t (.inr ht)]
 case extract i x=>rw[aY h]
 case len x=>rw[aY h]
 case Kb x=>rw[aY h]
 case HU x=>rw[aY h]
 case HN x=>rw[aY h]
 case Ke f l=>rw[map_congr h]
 case Kf f l=>rw[map_congr h]
 case mq f l=>rw[map_congr h]
 case jz z x y=>rw[aY (x:=x) fun t ht=>h t (.inl ht),aY (x:=y) fun t ht=>h t (.inr ht)]
theorem gF {env iC:Env} {o:fU} {g:Rows} {id:Id} (h:∀t∈o.ga,env t=iC t):fH o (cV env) g id=fH o (cV iC) g id:=by
 cases o<;>simp only[fU.ga,List.mem_append]at h<;>simp only[fH]
 case clear z x=>rw[aY h]
 case mw f l=>rw[map_congr h]
 all_goals rename_i a x y
 all_goals rw[aY (x:=x) fun t ht=>h t (.inl ht),aY (x:=y) fun t ht=>h t (.inr ht)]
theorem GF {n:Nat} {vo:bf} {env iC:Env} {g g':Rows} {v:AV} (h:∀t∈vo.op.ga,env t=iC t) (hv:VS X n vo env g v g'):VS X n vo iC g v g':=by
 unfold VS at hv ⊢
 split at hv
 ·rename_i f args dB
  rw[dB]at h
  simp only[fU.ga]at h
  rw[<-map_congr h];exact hv
 ·rename_i x args dB
  rw[dB]at h
  simp only[fU.ga,List.mem_append]at h
  rw[<-map_congr (l:=args) fun t ht=>h t (.inr ht),<-aY (x:=x) fun t ht=>h t (.inl ht)];exact hv
 ·rw[<-gF h];exact hv
 ·rw[<-gF h];exact hv
 ·rw[<-gF h];exact hv
 ·rw[<-gF h];exact hv
 ·rw[<-gF h];exact hv
 ·rw[<-rI h];exact hv
theorem CF {q:MQ} {vs:List AV} {g:Rows} {id:Id} {v:AV} {r:Row} (h:bj q vs g id=some (v,some r)):∃m,q=.new m:=by
 unfold bj at h
 split at h
 ·exact⟨_,rfl⟩
 ·simp[Option.bind_eq_some_iff]at h
 ·simp at h
 ·cases h
theorem uz {o:fU} {ρ:O->AV} {g:Rows} {id:Id} {v:AV} {r:Row} (h:eD o ρ g id=some (v,some r)):pz o=true:=by
 cases o<;>simp only[eD]at h<;>(try rfl)<;>(try simp at h)
 case mq q xs=>obtain⟨m,rfl⟩:=CF h;rfl
 all_goals (try(split at h<;>simp at h))
theorem uA {o:fU} {ρ:O->AV} {g g2:Rows} {id id2:Id} (h:o.cls=.pure):eD o ρ g id=eD o ρ g2 id2:=by
 cases o<;>(try simp[fU.cls]at h)<;>(try simp only[eD])
 case mq q xs=>cases q<;>simp[fU.cls]at h
theorem tn {n:Nat} {vo:bf} {env:Env} {g g':Rows} {v:AV} (hw:vo.op.cls≠.write) (hv:VS X n vo env g v g'):∃mr,g'=iR g ⟨vo.site,n⟩ mr/\(mr≠none->vo.makes=true)/\∀g0,fG vo.hid n g0=fG vo.hid n g->VS X n vo env g0 v (iR g0 ⟨vo.site,n⟩ mr):=by
 unfold VS at hv
 split at hv
 ·rename_i f args dB
  rcases hv with⟨h1,rfl⟩|⟨hs,sz,rows,hM,rfl,rfl⟩
  ·refine⟨none,rfl,fun h=>(h rfl).elim,fun g0 h0=>?_⟩
   unfold VS;rw[dB];simp only;unfold tx;rw[h0];exact .inl ⟨h1,rfl⟩
  ·refine⟨some _,rfl,fun _=>by unfold bf.makes;rw[dB,hs];simp[fU.la],fun g0 h0=>?_⟩
   unfold VS;rw[dB];simp only;unfold tx;rw[h0];exact .inr ⟨hs,sz,rows,hM,rfl,rfl⟩
 ·rename_i x args dB
  obtain⟨f,cX,hx,hv⟩:=hv
  rcases hv with⟨h1,rfl⟩|⟨hs,sz,rows,hM,rfl,rfl⟩
  ·refine⟨none,rfl,fun h=>(h rfl).elim,fun g0 h0=>?_⟩
   unfold VS;rw[dB];simp only;unfold tx;rw[h0];exact⟨f,cX,hx,.inl ⟨h1,rfl⟩⟩
  ·refine⟨some _,rfl,fun _=>by unfold bf.makes;rw[dB,hs];simp[fU.la],fun g0 h0=>?_⟩
   unfold VS;rw[dB];simp only;unfold tx;rw[h0];exact⟨f,cX,hx,.inr ⟨hs,sz,rows,hM,rfl,rfl⟩⟩
 ·rename_i dB;rw[dB]at hw;exact(hw rfl).elim
 ·rename_i dB;rw[dB]at hw;exact(hw rfl).elim
 ·rename_i dB;rw[dB]at hw;exact(hw rfl).elim
 ·rename_i dB;rw[dB]at hw;exact(hw rfl).elim
 ·rename_i dB;rw[dB]at hw;exact(hw rfl).elim
 ·rename_i n1 n2 n3 n4 n5 n6 n7
  obtain⟨mr,hq,rfl⟩:=hv
  refine⟨mr,rfl,fun h=>?_,fun g0 h0=>?_⟩
  ·cases mr with
   |none=>exact(h rfl).elim
   |some r=>unfold bf.makes;rw[uz hq];rfl
  ·unfold VS
   split
   ·rename_i hh;exact(n1 _ _ hh).elim
   ·rename_i hh;exact(n2 _ _ hh).elim
   ·rename_i hh;exact(n3 _ _ _ hh).elim
   ·rename_i hh;exact(n4 _ _ _ hh).elim
   ·rename_i hh;exact(n5 _ _ _ hh).elim
   ·rename_i hh;exact(n6 _ _ hh).elim
   ·rename_i hh;exact(n7 _ _ hh).elim
   ·rw[h0];exact⟨mr,hq,rfl⟩
theorem xo {n:Nat} {vo:bf} {env:Env} {g g':Rows} {v:AV} (hp:vo.op.cls=.pure) (hv:VS X n vo env g v g'):g'=g/\∀g0,VS X n vo env g0 v g0:=by
 unfold VS at hv
 split at hv
 ·rename_i dB;rw[dB]at hp;simp[fU.cls]at hp
 ·rename_i dB;rw[dB]at hp;simp[fU.cls]at hp
 ·rename_i dB;rw[dB]at hp;simp[fU.cls]at hp
 ·rename_i dB;rw[dB]at hp;simp[fU.cls]at hp
 ·rename_i dB;rw[dB]at hp;simp[fU.cls]at hp
 ·rename_i dB;rw[dB]at hp;simp[fU.cls]at hp
 ·rename_i dB;rw[dB]at hp;simp[fU.cls]at hp
 ·rename_i n1 n2 n3 n4 n5 n6 n7
  obtain⟨mr,hq,rfl⟩:=hv
  have SK:mr=none:=by
   cases mr with
   |none=>rfl
   |some r=>have:=uz hq;simp[pz,hp]at this
  subst SK
  refine⟨rfl,fun g0=>?_⟩
  unfold VS
  split
  ·rename_i hh;exact(n1 _ _ hh).elim
  ·rename_i hh;exact(n2 _ _ hh).elim
  ·rename_i hh;exact(n3 _ _ _ hh).elim
  ·rename_i hh;exact(n4 _ _ _ hh).elim
  ·rename_i hh;exact(n5 _ _ _ hh).elim
  ·rename_i hh;exact(n6 _ _ hh).elim
  ·rename_i hh;exact(n7 _ _ hh).elim
  ·exact⟨none,by rw[uA hp];exact hq,rfl⟩
def GS (X:ft) (n:Nat) (vo:bf) (env:Env) (g:Rows) (v:AV) (g':Rows):Prop:=
 if aH vo.guard env then VS X n vo env g v g' else v=.undef/\g'=g
theorem AW {hid:List Nat} {g:Rows} {s n:Nat} {mr:Option Row} (h:mr≠none->hid.contains s=true):fG hid n (iR g ⟨s,n⟩ mr)=fG hid n g:=by
 cases mr with
 |none=>rfl
 |some r=>
  have hc:=h (by simp)
  cases hid with
  |nil=>simp at hc
  |cons a l=>
   funext i
   show(if (a::l).contains i.site=true/\i.bt=n then none else iR g ⟨s,n⟩ (some r) i)=if (a::l).contains i.site=true/\i.bt=n then none else g i
   by_cases hi:i=⟨s,n⟩
   ·subst hi;rw[if_pos ⟨hc,rfl⟩,if_pos ⟨hc,rfl⟩]
   ·simp only[iR,bK,if_neg hi]
theorem Ey {g:Rows} {i j:Id} (h:i≠j) (m1 m2:Option Row):iR (iR g i m1) j m2=iR (iR g j m2) i m1:=by
 cases m1<;>cases m2<;>simp only[iR]
 funext k
 simp only[bK]
 by_cases h1:k=i
 ·subst h1;rw[if_neg h,if_pos rfl];simp
 ·by_cases h2:k=j
  ·subst h2;simp[h1]
  ·simp[h1,h2]
theorem uU {env:Env} {d e:Option Nat} {v u:AV} (h:∀k,d=some k->e≠some k):upd (upd env d v) e u=upd (upd env e u) d v:=by
 cases d with
 |none=>rfl
 |some d=>
  cases e with
  |none=>rfl
  |some e=>
   have gM:d≠e:=fun he=>h d rfl (by rw[he])
   funext t
   simp only[upd]
   by_cases h1:t=d
   ·subst h1;rw[if_neg gM,if_pos rfl,if_pos rfl]
   ·by_cases h2:t=e
    ·subst h2;rw[if_pos rfl,if_neg h1,if_pos rfl]
    ·simp[h1,h2]
theorem lI {env:Env} {d:Option Nat} {v:AV} {l:List Nat} (h:∀k,d=some k->k∉l):∀t∈l,upd env d v t=env t:=by
 intro t ht
 cases d with
 |none=>rfl
 |some d=>
  have:t≠d:=fun he=>h d rfl (he▸ht)
  simp[upd,this]
structure Bj (x y:bf):Prop where
 xy:∀k,x.dst=some k->k∉y.ga
 yx:∀k,y.dst=some k->k∉x.ga
 dst:∀k,x.dst=some k->y.dst≠some k
 cls:clash x.op.cls y.op.cls=false
 hx:x.makes=true->y.hid.contains x.site=true
 hy:y.makes=true->x.hid.contains y.site=true
 site:x.site≠y.site
theorem Bj.symm {x y:bf} (h:Bj x y):Bj y x:=
 ⟨h.yx,h.xy,fun k hk he=>h.dst k he hk,by have:=h.cls;revert this;cases x.op.cls<;>cases y.op.cls<;>simp[clash],h.hy,h.hx,fun e=>h.site e.symm⟩
theorem pb {x y:bf} (h:DI x y=true):Bj x y:=by
 unfold DI at h
 simp only[Bool.and_eq_true,Bool.not_eq_true',Bool.or_eq_true,bne_iff_ne]at h
 obtain⟨⟨⟨⟨h1,h2⟩,h3⟩,h4⟩,h5⟩:=h
 unfold rN at h1
 simp only[Bool.and_eq_true]at h1
 obtain⟨a1,a2⟩:=h1
 refine⟨fun k hk=>?_,fun k hk=>?_,fun k hk=>?_,h2,fun hm=>?_,fun hm=>?_,h5⟩
 ·rw[hk]at a1;simp at a1;exact a1.1
 ·rw[hk]at a2;simpa using a2
 ·rw[hk]at a1;simp at a1;exact a1.2
 ·rcases h3 with h3|h3
  ·rw[hm]at h3;cases h3
  ·exact h3
 ·rcases h4 with h4|h4
  ·rw[hm]at h4;cases h4
  ·exact h4
theorem qz {vo:bf} {t:Nat} (h:t∈vo.op.ga):t∈vo.ga:=List.mem_append_left _ h
theorem mc {vo:bf} {env iC:Env} (h:∀t∈vo.ga,env t=iC t):aH vo.guard env=aH vo.guard iC:=by
 unfold aH
 cases hg:vo.guard with
 |none=>rfl
 |some p=>
  obtain⟨t,b⟩:=p
  have:env t=iC t:=h t (List.mem_append_right _ (by rw[hg];simp))
  simp only[this]
theorem tf {n:Nat} {vo:bf} {env iC:Env} {g g':Rows} {v:AV} (h:∀t∈vo.ga,env t=iC t) (hv:GS X n vo env g v g'):GS X n vo iC g v g':=by
 unfold GS at hv ⊢
 rw[<-mc h]
 split at hv
 ·rename_i hw;rw[if_pos hw];exact GF (fun t ht=>h t (qz ht)) hv
 ·rename_i hw;rw[if_neg hw];exact hv
theorem Di {n:Nat} {x y:bf} {env:Env} {g g1 g2:Rows} {v v':AV} (F:Bj x y) (h1:GS X n x env g v g1) (h2:GS X n y (upd env x.dst v) g1 v' g2):
  ∃Jv,GS X n y env g v' Jv/\GS X n x (upd env y.dst v') Jv v g2/\upd (upd env x.dst v) y.dst v'=upd (upd env y.dst v') x.dst v:=by
 have I9:=uU (env:=env) (v:=v) (u:=v') F.dst
 replace h2:GS X n y env g1 v' g2:=tf (lI F.xy) h2
 have back:∀{Jv},GS X n x env Jv v g2->GS X n x (upd env y.dst v') Jv v g2:=fun h=>tf (fun t ht=>(lI F.yx t ht).symm) h
 unfold GS at h1 h2
 by_cases wx:aH x.guard env=true
 ·rw[if_pos wx]at h1
  by_cases wy:aH y.guard env=true
  ·rw[if_pos wy]at h2
   by_cases cx:x.op.cls=.write
   ·have cy:y.op.cls=.pure:=by
     have:=F.cls;rw[cx]at this
     cases hc:y.op.cls<;>simp[clash,hc]at this ⊢
    obtain⟨rfl,dy⟩:=xo cy h2
    exact⟨g,by unfold GS;rw[if_pos wy];exact dy g,back (by unfold GS;rw[if_pos wx];exact h1),I9⟩
   ·by_cases cy:y.op.cls=.write
    ·have cx':x.op.cls=.pure:=by
      have:=F.cls;rw[cy]at this
      cases hc:x.op.cls<;>simp[clash,hc]at this ⊢
     obtain⟨rfl,dy⟩:=xo cx' h1
     exact⟨g2,by unfold GS;rw[if_pos wy];exact h2,back (by unfold GS;rw[if_pos wx];exact dy g2),I9⟩
    ·obtain⟨mx,rfl,kx,Rv⟩:=tn cx h1
     obtain⟨my,rfl,ky,LK⟩:=tn cy h2
     have gM:(⟨x.site,n⟩:Id)≠⟨y.site,n⟩:=fun e=>F.site (by injection e)
     refine⟨iR g ⟨y.site,n⟩ my,?_,back ?_,I9⟩
     ·unfold GS;rw[if_pos wy]
      exact LK g (AW fun h=>F.hx (kx h)).symm
     ·unfold GS;rw[if_pos wx,Ey gM]
      exact Rv _ (AW fun h=>F.hy (ky h))
  ·rw[if_neg wy]at h2
   obtain⟨rfl,rfl⟩:=h2
   exact⟨g,by unfold GS;rw[if_neg wy];exact⟨rfl,rfl⟩,back (by unfold GS;rw[if_pos wx];exact h1),I9⟩
 ·rw[if_neg wx]at h1
  obtain⟨rfl,rfl⟩:=h1
  exact⟨g2,h2,back (by unfold GS;rw[if_neg wx];exact⟨rfl,rfl⟩),I9⟩
end
end Go.Proofs.YtgoljkjaameagaaGreat.V

namespace Go.Proofs.YtgoljkjaameagaaGreat.V
open Go.RowKit
variable {P:Program} {w w':World} {D D' D2:Nat->Prop} {ι ι' ι2:Names}
section
variable {hs:Nat} {X:ft}
def iS (acc:Array Nat) (o:Oper):Nat:=o.after.foldl (fun s e=>if Region.binds .any e then s|||2 ^ e.on|||acc.getD e.on 0 else s) 0
theorem Jl (ops:Array Oper):jf ops=ops.foldl (fun acc o=>acc.push (iS acc o)) #[]:=rfl
theorem zj {acc:Array Nat} {o:Oper} {i:Nat} (h:(iS acc o).testBit i=true):∃e∈o.after,Region.binds .any e=true/\(e.on=i∨(acc.getD e.on 0).testBit i=true):=by
 unfold iS at h
 rw[<-Array.foldl_toList]at h
 have gen:∀(l:List Edge) (s:Nat),(l.foldl (fun s e=>if Region.binds .any e then s|||2 ^ e.on|||acc.getD e.on 0 else s) s).testBit i=true->s.testBit i=true∨∃e∈l,Region.binds .any e=true/\(e.on=i∨(acc.getD e.on 0).testBit i=true):=by
  intro l
  induction l with
  |nil=>intro s h;exact .inl h
  |cons e r ih=>
   intro s h
   rw[List.foldl_cons]at h
   rcases ih _ h with h|⟨e',xQ,h'⟩
   ·by_cases hb:Region.binds .any e=true
    ·rw[if_pos hb]at h
     simp only[Nat.testBit_or,Bool.or_eq_true]at h
     rcases h with(h|h)|h
     ·exact .inl h
     ·refine .inr ⟨e,by simp,hb,.inl ?_⟩
      rw[Nat.testBit_two_pow]at h
      simpa using h
     ·exact .inr ⟨e,by simp,hb,.inr h⟩
    ·rw[if_neg hb]at h;exact .inl h
   ·exact .inr ⟨e',List.mem_cons_of_mem _ xQ,h'⟩
 rcases gen _ _ h with h|⟨e,he,h⟩
 ·simp at h
 ·exact⟨e,Array.mem_toList_iff.1 he,h⟩
theorem GQ {ops:Array Oper} {j i:Nat} (h:((jf ops).getD j 0).testBit i=true):∃o,ops[j]? =some o/\∃e∈o.after,Region.binds .any e=true/\(e.on=i∨((jf ops).getD e.on 0).testBit i=true):=by
 have key:∀(l pre:List Oper) (acc:Array Nat),acc.size=pre.length->(∀j i,(acc.getD j 0).testBit i=true->∃o,pre[j]? =some o/\∃e∈o.after,Region.binds .any e=true/\(e.on=i∨(acc.getD e.on 0).testBit i=true))->
   ∀j i,((l.foldl (fun acc o=>acc.push (iS acc o)) acc).getD j 0).testBit i=true->∃o,(pre++l)[j]? =some o/\∃e∈o.after,Region.binds .any e=true/\(e.on=i∨((l.foldl (fun acc o=>acc.push (iS acc o)) acc).getD e.on 0).testBit i=true):=by
  intro l
  induction l with
  |nil=>intro pre acc _ h j i hb;simpa using h j i hb
  |cons o r ih=>
   intro pre acc eW h j i hb
   have FE:∀k,k<acc.size->(acc.push (iS acc o)).getD k 0=acc.getD k 0:=fun k hk=>by
    simp only[Array.getD_eq_getD_getElem?,Array.getElem?_push]
    rw[if_neg (by omega)]
   have big:∀k,acc.size<=k->acc.getD k 0=0:=fun k hk=>by simp[Array.getElem?_eq_none hk]
   have lift:∀k i,(acc.getD k 0).testBit i=true->((acc.push (iS acc o)).getD k 0).testBit i=true:=fun k i hk=>by
    by_cases dJ:k<acc.size
    ·rw[FE k dJ];exact hk
    ·rw[big k (by omega)]at hk;simp at hk
   have:=ih (pre++[o]) (acc.push (iS acc o)) (by simp[eW]) (fun j i hb=>by
    by_cases dJ:j<acc.size
    ·rw[FE j dJ]at hb
     obtain⟨o',Bd,e,he,fa,h2⟩:=h j i hb
     refine⟨o',by rw[List.getElem?_append_left (by omega)];exact Bd,e,he,fa,?_⟩
     rcases h2 with h2|h2
     ·exact .inl h2
     ·exact .inr (lift _ _ h2)
    ·by_cases hj:j=acc.size
     ·subst hj
      have e0:(acc.push (iS acc o)).getD acc.size 0=iS acc o:=by simp
      rw[e0]at hb
      obtain⟨e,he,fa,h2⟩:=zj hb
      refine⟨o,by rw[List.getElem?_append_right (by omega),eW];simp,e,he,fa,?_⟩
      rcases h2 with h2|h2
      ·exact .inl h2
      ·exact .inr (lift _ _ h2)
     ·have:(acc.push (iS acc o)).getD j 0=0:=by
       simp only[Array.getD_eq_getD_getElem?]
       rw[Array.getElem?_eq_none (by simp;omega)];rfl
      rw[this]at hb;simp at hb) j i (by simpa using hb)
   simpa using this
 rw[Jl,<-Array.foldl_toList]at h ⊢
 have:=key ops.toList [] #[] rfl (fun j i h=>by simp at h) j i h
 simpa using this
def DC (ops:Array Oper) (listed:Array Bool):Prop:=∀k i,listed.getD k false=true->((jf ops).getD k 0).testBit i=true->listed.getD i false=true
theorem ku {ops:Array Oper} {listed:Array Bool} (h:DC ops listed) {j:Nat} (hj:j∈Region.ready .any ops listed):∀i,((jf ops).getD j 0).testBit i=true->listed.getD i false=true:=by
 intro i hb
 obtain⟨_,o,ho,dy⟩:=mem_ready.1 hj
 obtain⟨o',Bd,e,he,fa,h2⟩:=GQ hb
 rw[ho]at Bd;injection Bd with Bd;subst Bd
 have hl:=dy e he fa
 rcases h2 with h2|h2
 ·rw[<-h2];exact hl
 ·exact h _ _ hl h2
theorem DC.list {ops:Array Oper} {listed:Array Bool} (h:DC ops listed) {j:Nat} (hj:j∈Region.ready .any ops listed):DC ops (listed.setIfInBounds j true):=by
 intro k i hk hb
 by_cases hkj:k=j
 ·subst hkj;exact getD_set_true (ku h hj i hb)
 ·rw[getD_set_ne false (fun e=>hkj e.symm)]at hk
  exact getD_set_true (h k i hk hb)
theorem iK {ops:Array Oper} {listed:Array Bool} {j:Nat} (hj:j∈Region.ready .any ops listed):listed.getD j false=false:=by
 have h0:=(mem_ready.1 hj).1
 rcases Nat.lt_or_ge j listed.size with h|h
 ·simp[h]at h0 ⊢;exact h0
 ·simp[Array.getElem?_eq_none h]at h0
def IK (X:ft) (n:Nat) (ops:Array Oper) (vl:List bf) (K:Env->Rows->Prop):Nat->Array Bool->Env->Rows->Prop
 |0,listed,env,g=>Region.ready .any ops listed=[]/\K env g
 |f+1,listed,env,g=>(Region.ready .any ops listed=[]->K env g)/\∀i∈Region.ready .any ops listed,∃vo,vl[i]? =some vo/\∃v g',GS X n vo env g v g'/\IK X n ops vl K f (listed.setIfInBounds i true) (upd env vo.dst v) g'
theorem zy {ops:Array Oper} {vl:List bf} (h:nr ops vl (jf ops)=true) {i j:Nat} {x y:bf} (hi:vl[i]? =some x) (hj:vl[j]? =some y) (Cg:i≠j) (h1:((jf ops).getD j 0).testBit i=false) (h2:((jf ops).getD i 0).testBit j=false):Bj x y:=by
 unfold nr at h
 simp only[Bool.and_eq_true,List.all_eq_true]at h
 obtain⟨_,h⟩:=h
 have mem:∀(k:Nat) (z:bf),vl[k]? =some z->(z,k)∈vl.zipIdx:=fun k z hk=>by
  rw[List.mem_iff_getElem?]
  exact⟨k,by simp[List.getElem?_zipIdx,hk]⟩
 rcases Nat.lt_or_gt_of_ne Cg with dJ|yX
 ·have:=h _ (mem j y hj) _ (mem i x hi)
  simp only[dJ,decide_true,Bool.not_true,Bool.false_or,h1]at this
  exact pb this
 ·have:=h _ (mem i x hi) _ (mem j y hj)
  simp only[yX,decide_true,Bool.not_true,Bool.false_or,h2]at this
  exact(pb this).symm
theorem Dd {n:Nat} {ops:Array Oper} {vl:List bf} {K:Env->Rows->Prop} (tV:nr ops vl (jf ops)=true) (hlen:vl.length=ops.size) {i:Nat} {vi:bf} (hi:vl[i]? =some vi) {v:AV}:∀(fuel:Nat) (listed:Array Bool) (env:Env) (g g1:Rows),
  DC ops listed->i∈Region.ready .any ops listed->GS X n vi env g v g1->IK X n ops vl K fuel (listed.setIfInBounds i true) (upd env vi.dst v) g1->IK X n ops vl K (fuel+1) listed env g:=by
 intro fuel
 induction fuel with
 |zero=>
  intro listed env g g1 _ hr hG H
  refine⟨fun h=>(by rw[h]at hr;cases hr),fun j hj=>?_⟩
  by_cases lK:j=i
  ·subst lK;exact⟨vi,hi,v,g1,hG,H⟩
  ·have:=ready_mono hj lK
   rw[H.1]at this;cases this
 |succ fuel ih=>
  intro listed env g g1 qL hr hG H
  refine⟨fun h=>(by rw[h]at hr;cases hr),fun j hj=>?_⟩
  by_cases lK:j=i
  ·subst lK;exact⟨vi,hi,v,g1,hG,H⟩
  ·obtain⟨vj,JV,v',g2,hG2,H2⟩:=H.2 j (ready_mono hj lK)
   have b1:((jf ops).getD j 0).testBit i=false:=by
    cases hb:((jf ops).getD j 0).testBit i with
    |false=>rfl
    |true=>have:=ku qL hj i hb;rw[iK hr]at this;cases this
   have b2:((jf ops).getD i 0).testBit j=false:=by
    cases hb:((jf ops).getD i 0).testBit j with
    |false=>rfl
    |true=>have:=ku qL hr j hb;rw[iK hj]at this;cases this
   have F:=zy tV hi JV (fun e=>lK e.symm) b1 b2
   obtain⟨Jv,q1,q2,q3⟩:=Di F hG hG2
   refine⟨vj,JV,v',Jv,q1,ih _ _ _ g2 (qL.list hj) (ready_mono hr (fun e=>lK e.symm)) q2 ?_⟩
   rw[<-q3,Array.setIfInBounds_comm _ _ lK]
   exact H2
theorem LF {n:Nat} {vo:bf} {env:Env} {g:Rows} {v:AV} {mr:Option Row} (h:eD vo.op (cV env) (fG vo.hid n g) ⟨vo.site,n⟩=some (v,mr)):VS X n vo env g v (iR g ⟨vo.site,n⟩ mr):=by
 unfold VS
 split
 ·rename_i dB;rw[dB]at h;simp[eD]at h
 ·rename_i dB;rw[dB]at h;simp[eD]at h
 ·rename_i dB;rw[dB]at h;simp[eD]at h
 ·rename_i dB;rw[dB]at h;simp[eD]at h
 ·rename_i dB;rw[dB]at h;simp[eD]at h
 ·rename_i dB;rw[dB]at h;simp[eD]at h
 ·rename_i dB;rw[dB]at h;simp[eD]at h
 ·exact⟨mr,h,rfl⟩
theorem GG {n:Nat} {vo:bf} {env:Env} {g g':Rows} {v:AV} (h:fH vo.op (cV env) g ⟨vo.site,n⟩=some (v,g')):VS X n vo env g v g':=by
 unfold VS
 split
 ·rename_i dB;rw[dB]at h;simp[fH]at h
 ·rename_i dB;rw[dB]at h;simp[fH]at h
 ·exact h
 ·exact h
 ·exact h
 ·exact h
 ·exact h
 ·rename_i n1 n2 n3 n4 n5 n6 n7
  exfalso
  unfold fH at h
  split at h
  ·rename_i hh;exact n3 _ _ _ hh
  ·rename_i hh;exact n4 _ _ _ hh
  ·rename_i hh;exact n5 _ _ _ hh
  ·rename_i hh;exact n6 _ _ hh
  ·rename_i hh;exact n7 _ _ hh
  ·simp at h
theorem Nq {vo:bf} {env:Env} {σ:ax} {next:AV->ax->Prop} (hv:fq X true vo env σ next):∃v g',VS X σ.next vo env σ.get v g'/\next v ⟨g',σ.next⟩:=by
 unfold fq at hv
 split at hv
 ·rename_i f args dB
  rcases hv with⟨r,hP,hn⟩|⟨h,_⟩|⟨hs,sz,rows,hM,hn⟩
  ·exact⟨r,σ.get,by unfold VS;rw[dB];exact .inl ⟨hP,rfl⟩,hn⟩
  ·cases h
  ·exact⟨_,_,by unfold VS;rw[dB];exact .inr ⟨hs,sz,rows,hM,rfl,rfl⟩,hn⟩
 ·rename_i x args dB
  split at hv
  ·rename_i f cX hx
   have sa:tu (cV env x) (args.map (cV env))=some (f,args.map (cV env)++cX):=by rw[hx];rfl
   rcases hv with⟨r,hP,hn⟩|⟨h,_⟩|⟨hs,sz,rows,hM,hn⟩
   ·exact⟨r,σ.get,by unfold VS;rw[dB];exact⟨f,_,sa,.inl ⟨hP,rfl⟩⟩,hn⟩
   ·cases h
   ·exact⟨_,_,by unfold VS;rw[dB];exact⟨f,_,sa,.inr ⟨hs,sz,rows,hM,rfl,rfl⟩⟩,hn⟩
  ·rename_i f cX hx
   have sa:tu (cV env x) (args.map (cV env))=some (f,cX++args.map (cV env)):=by rw[hx];rfl
   rcases hv with⟨r,hP,hn⟩|⟨h,_⟩|⟨hs,sz,rows,hM,hn⟩
   ·exact⟨r,σ.get,by unfold VS;rw[dB];exact⟨f,_,sa,.inl ⟨hP,rfl⟩⟩,hn⟩
   ·cases h
   ·exact⟨_,_,by unfold VS;rw[dB];exact⟨f,_,sa,.inr ⟨hs,sz,rows,hM,rfl,rfl⟩⟩,hn⟩
  ·exact hv.elim
 ·split at hv
  ·rename_i v g h;exact⟨v,g,GG h,hv⟩
  ·exact hv.elim
 ·split at hv
  ·rename_i v g h;exact⟨v,g,GG h,hv⟩
  ·exact hv.elim
 ·split at hv
  ·rename_i v g h;exact⟨v,g,GG h,hv⟩
  ·exact hv.elim
 ·split at hv
  ·rename_i v g h;exact⟨v,g,GG h,hv⟩
  ·exact hv.elim
 ·split at hv
  ·rename_i v g h;exact⟨v,g,GG h,hv⟩
  ·exact hv.elim
 ·split at hv
  ·rename_i v r h;exact⟨v,_,LF h,hv⟩
  ·rename_i v h;exact⟨v,_,LF h,hv⟩
  ·exact hv.elim
theorem uV {ops:Array Oper} {vl:List bf} {K:Env->ax->Prop} {n:Nat} (tV:nr ops vl (jf ops)=true) (hlen:vl.length=ops.size):∀(r:List bf) (k:Nat) (listed:Array Bool) (env:Env) (g:Rows),
  (∀j,r[j]? =vl[k+j]?)->listed.size=ops.size->(∀i,i<ops.size->listed[i]? =some (decide (i<k)))->k+r.length=ops.size->DC ops listed->wpOps X true r K env ⟨g,n⟩->IK X n ops vl (fun env g=>K env ⟨g,n+1⟩) r.length listed env g
 |[],k,listed,env,g,_,eW,hl,hk,_,hv=>by
  refine⟨?_,hv⟩
  rw[List.eq_nil_iff_forall_not_mem]
  intro j hj
  obtain⟨h0,o,ho,_⟩:=mem_ready.1 hj
  have dJ:j<ops.size:=(Array.getElem?_eq_some_iff.1 ho).1
  have:=hl j dJ
  simp at hk
  simp[this,show j<k by omega]at h0
 |vo::r,k,listed,env,g,hr,eW,hl,hk,qL,hv=>by
  simp only[List.length_cons]at hk
  have j9:vl[k]? =some vo:=by simpa using(hr 0).symm
  have jy:k<ops.size:=by omega
  have HA:k∈Region.ready .any ops listed:=by
   rw[mem_ready]
   refine⟨by simp[hl k jy],ops[k],Array.getElem?_eq_getElem jy,fun e he hb=>?_⟩
   unfold nr Dx at tV
   simp only[Bool.and_eq_true,List.all_eq_true]at tV
   have hm:(ops[k],k)∈ops.toList.zipIdx:=by
    rw[List.mem_iff_getElem?]
    exact⟨k,by simp[List.getElem?_zipIdx,jy]⟩
   have:=tV.1 _ hm
   rw[Array.all_eq_true_iff_forall_mem]at this
   have:=this e he
   simp only[hb,Bool.not_true,Bool.false_or,decide_eq_true_eq]at this
   simp[hl e.on (by omega),this]
  have hGS:∃v g',GS X n vo env g v g'/\wpOps X true r K (upd env vo.dst v) ⟨g',n⟩:=by
   unfold wpOps at hv
   unfold GS
   split at hv
   ·rename_i hw
    simp only[hw,if_true]
    exact Nq hv
   ·rename_i hw
    simp only[hw]
    exact⟨.undef,g,⟨rfl,rfl⟩,hv⟩
  obtain⟨v,g',h1,h2⟩:=hGS
  refine Dd tV hlen j9 r.length listed env g g' qL HA h1 ?_
  refine uV tV hlen r (k+1) _ _ _ (fun j=>by have:=hr (j+1);simpa[Nat.add_assoc,Nat.add_comm 1 j]using this) (by simp[eW]) (fun i hi=>?_) (by omega) (qL.list HA) h2
  by_cases wJ:i=k
  ·subst wJ;simp[eW,jy]
  ·rw[Array.getElem?_setIfInBounds_ne (fun e=>wJ e.symm),hl i hi]
   congr 1
   have:(i<k)=(i<k+1):=by apply propext;omega
   simp[this]
theorem nj {f:Nat->Oper->Option bf}:∀{l:List Oper} {vl:List bf} {j:Nat},allM f l j=some vl->vl.length=l.length/\∀(i:Nat) (o:Oper),l[i]? =some o->∃vo,vl[i]? =some vo/\f (j+i) o=some vo
 |[],vl,j,h=>by simp[allM]at h;subst h;simp
 |o::l,vl,j,h=>by
  simp only[allM,Option.bind_eq_bind,Option.bind_eq_some_iff,Option.pure_def,Option.some.injEq]at h
  obtain⟨vo,j9,rO,qQ,rfl⟩:=h
  obtain⟨h1,h2⟩:=nj qQ
  refine⟨by simp[h1],fun i o' hi=>?_⟩
  cases i with
  |zero=>simp at hi;subst hi;exact⟨vo,rfl,j9⟩
  |succ i=>
   simp at hi
   obtain⟨q,hq,hf⟩:=h2 i o' hi
   exact⟨q,by simpa using hq,by rw[<-hf];congr 1;omega⟩
theorem v7 {ops:Array Oper} {vl:List bf} {nt site0:Nat} {draw mk:Bool} {bs:Array Nat} {hidden:List (Nat×Bool)} {n:Nat} {K:Env->Rows->Prop} {Q:Exit->Act->World->Prop} (dy:allM (lv P ops nt site0 draw mk bs hidden) ops.toList 0=some vl):
  ∀(fuel:Nat) (listed:Array Bool) (env:Env) (g:Rows) (a:Act) (w:World) (D:Nat->Prop) (ι:Names) (U:Nat->Prop),IK (Sound P) n ops vl K fuel listed env g->fW P hs D ι g w->Used ι n U->(∀s,U s->∃i,s=site0+i/\listed.getD i false=true)->bV P w D ι env a->a.tmps.size=nt->
  (∀ig g' a' w' D' ι' U',K ig g'->Step hs D ι w D' ι' w'->fW P hs D' ι' g' w'->Used ι' n U'->bV P w' D' ι' ig a'->a'.tmps.size=nt->a'.defers=a.defers->Q .normal a' w')->wpAny P .any ops Q fuel listed a w:=by
 intro fuel
 induction fuel with
 |zero=>intro listed env g a w D ι U h S Us hU E eW hQ;exact⟨h.1,hQ env g a w D ι U h.2 (Step.refl _ _ _ _) S Us E eW rfl⟩
 |succ fuel ih=>
  intro listed env g a w D ι U h S Us hU E eW hQ
  refine⟨fun hr=>hQ env g a w D ι U (h.1 hr) (Step.refl _ _ _ _) S Us E eW rfl,fun i hi=>?_⟩
  obtain⟨vo,j9,v,g',hG,Le⟩:=h.2 i hi
  obtain⟨_,o,ho,_⟩:=mem_ready.1 hi
  obtain⟨vo',lD,O3⟩:=(nj dy).2 i o (by simpa using ho)
  rw[j9]at lD;injection lD with lD;subst lD
  rw[Nat.zero_add]at O3
  obtain⟨hc,hd,zY,vD,hg⟩:=nS O3
  have hw:=rP (ops:=ops) (vo:=vo) E hg
  have Sf:¬U vo.site:=fun hu=>by
   obtain⟨i',he,hl⟩:=hU _ hu
   have:i'=i:=by omega
   subst this
   rw[iK hi]at hl;cases hl
  have jg:i<listed.size:=by
   have h0:=(mem_ready.1 hi).1
   rcases Nat.lt_or_ge i listed.size with h|h
   ·exact h
   ·simp[Array.getElem?_eq_none h]at h0
  unfold wpOp
  simp only[ho]
  rw[<-hw]
  unfold GS at hG
  by_cases Fe:aH vo.guard env=true
  ·rw[if_pos Fe]
   rw[if_pos Fe]at hG
   refine .inl (ze hc hG S Us Sf E fun a' w' ⟨u,D',ι',ha,T,S',hR,U'⟩=>?_)
   subst ha
   refine ih _ _ _ _ w' D' ι' _ Le S' U' (fun s zV=>?_) (by rw[hd];exact lV (ns E T) hR vD eW) (by rw[kq];exact eW) fun ig g2 a2 w2 D2 ι2 U2 hk T2 S2 Ru E2 kQ B9=>hQ ig g2 a2 w2 D2 ι2 U2 hk (T.trans T2) S2 Ru E2 kQ (B9.trans (put_defers _ _ _))
   rcases zV with h|h
   ·obtain⟨i',he,hl⟩:=hU _ h
    exact⟨i',he,getD_set_true hl⟩
   ·exact⟨i,by rw[h,zY],by simp[jg]⟩
  ·rw[if_neg Fe]
   rw[if_neg Fe]at hG
   obtain⟨rfl,rfl⟩:=hG
   refine ih _ _ _ _ w D ι U Le S Us (fun s zV=>?_) (by rw[hd];exact lV E da.undef vD eW) (by rw[kq];exact eW) fun ig g2 a2 w2 D2 ι2 U2 hk T2 S2 Ru E2 kQ B9=>hQ ig g2 a2 w2 D2 ι2 U2 hk T2 S2 Ru E2 kQ (B9.trans (put_defers _ _ _))
   obtain⟨i',he,hl⟩:=hU _ zV
   exact⟨i',he,getD_set_true hl⟩
end
end Go.Proofs.YtgoljkjaameagaaGreat.V

namespace Go.Proofs.YtgoljkjaameagaaGreat.V
open Go.RowKit
variable {P:Program} {w w':World} {D D' D2:Nat->Prop} {ι ι' ι2:Names}
section
variable {hs:Nat} {X:ft}
def oH (X:ft):Prop:=∀f args σ K K',(∀r σ',K r σ'->K' r σ')->X f args σ K->X f args σ K'
theorem oW:oH (Sound P):=fun _ _ _ _ _ hK h hs D ι w vs S U A=>
 (h hs D ι w vs S U A).mono fun _ _ ⟨r,g',n',D',ι',u,he,hk,rest⟩=>⟨r,g',n',D',ι',u,he,hK _ _ hk,rest⟩
def step (X:ft) (vo:bf) (N:Env->ax->Prop) (env:Env) (σ:ax):Prop:=
 if aH vo.guard env then fq X false vo env σ fun v σ'=>N (upd env vo.dst v) σ' else N (upd env vo.dst .undef) σ
theorem o9 (hK:oH X) {draw:Bool} {hid:List Nat} {site f:Nat} {args:List AV} {σ:ax} {n n':AV->ax->Prop} (hn:∀v σ',n v σ'->n' v σ') (hp:cu X draw hid site f args σ n):cu X draw hid site f args σ n':=by
 rcases hp with⟨r,h1,h2⟩|⟨h1,h2⟩|⟨h1,sz,rows,h2,h3⟩
 ·exact .inl ⟨r,h1,hn _ _ h2⟩
 ·exact .inr (.inl ⟨h1,hK _ _ _ _ _ hn h2⟩)
 ·exact .inr (.inr ⟨h1,sz,rows,h2,hn _ _ h3⟩)
theorem AX (hK:oH X) {draw:Bool} {o:bf} {env:Env} {σ:ax} {n n':AV->ax->Prop} (hn:∀v σ',n v σ'->n' v σ') (hp:fq X draw o env σ n):fq X draw o env σ n':=by
 unfold fq at hp ⊢
 split at hp
 ·exact o9 hK hn hp
 ·split at hp
  ·exact o9 hK hn hp
  ·exact o9 hK hn hp
  ·exact hp.elim
 ·split at hp
  ·exact hn _ _ hp
  ·exact hp.elim
 ·split at hp
  ·exact hn _ _ hp
  ·exact hp.elim
 ·split at hp
  ·exact hn _ _ hp
  ·exact hp.elim
 ·split at hp
  ·exact hn _ _ hp
  ·exact hp.elim
 ·split at hp
  ·exact hn _ _ hp
  ·exact hp.elim
 ·split at hp
  ·exact hn _ _ hp
  ·exact hn _ _ hp
  ·exact hp.elim
theorem ju (hK:oH X) {vo:bf} {N N':Env->ax->Prop} (h:∀e s,N e s->N' e s) {env:Env} {σ:ax} (hp:step X vo N env σ):step X vo N' env σ:=by
 unfold step at hp ⊢
 split at hp
 ·rename_i hw;rw[if_pos hw];exact AX hK (fun v σ'=>h _ _) hp
 ·rename_i hw;rw[if_neg hw];exact h _ _ hp
theorem F7 {env iC:Env} {vo:bf} {σ:ax} {n:AV->ax->Prop} (h:∀t∈vo.op.ga,env t=iC t) (hv:fq X false vo env σ n):fq X false vo iC σ n:=by
 unfold fq at hv ⊢
 split at hv
 ·rename_i f args dB
  rw[dB]at h
  simp only[fU.ga]at h
  rw[<-map_congr h];exact hv
 ·rename_i x args dB
  rw[dB]at h
  simp only[fU.ga,List.mem_append]at h
  rw[<-map_congr (l:=args) fun t ht=>h t (.inr ht),<-aY (x:=x) fun t ht=>h t (.inl ht)];exact hv
 ·rw[<-gF h];exact hv
 ·rw[<-gF h];exact hv
 ·rw[<-gF h];exact hv
 ·rw[<-gF h];exact hv
 ·rw[<-gF h];exact hv
 ·rw[<-rI h];exact hv
theorem k6 {x:bf} (hq:kr x=true) {N:Env->ax->Prop} {env:Env} {σ:ax}:step X x N env σ↔∃v g',GS X σ.next x env σ.get v g'/\N (upd env x.dst v) ⟨g',σ.next⟩:=by
 unfold kr at hq
 simp only[Bool.and_eq_true,Bool.not_eq_true',bne_iff_ne]at hq
 obtain⟨wN,zU⟩:=hq
 unfold step GS
 by_cases hw:aH x.guard env=true
 ·rw[if_pos hw]
  simp only[hw,if_true]
  unfold fq
  split
  ·rename_i dB;simp[dB,fU.la]at wN
  ·rename_i dB;simp[dB,fU.la]at wN
  ·rename_i dB;simp[dB,fU.cls]at zU
  ·rename_i dB;simp[dB,fU.cls]at zU
  ·rename_i dB;simp[dB,fU.cls]at zU
  ·rename_i dB;simp[dB,fU.cls]at zU
  ·rename_i dB;simp[dB,fU.cls]at zU
  ·rename_i n1 n2 n3 n4 n5 n6 n7
   have hVS:∀v g',VS X σ.next x env σ.get v g'↔∃mr,eD x.op (cV env) (fG x.hid σ.next σ.get) ⟨x.site,σ.next⟩=some (v,mr)/\g'=iR σ.get ⟨x.site,σ.next⟩ mr:=fun v g'=>by
    unfold VS
    split
    ·rename_i hh;exact(n1 _ _ hh).elim
    ·rename_i hh;exact(n2 _ _ hh).elim
    ·rename_i hh;exact(n3 _ _ _ hh).elim
    ·rename_i hh;exact(n4 _ _ _ hh).elim
    ·rename_i hh;exact(n5 _ _ _ hh).elim
    ·rename_i hh;exact(n6 _ _ hh).elim
    ·rename_i hh;exact(n7 _ _ hh).elim
    ·exact Iff.rfl
   simp only[hVS]
   cases hz:eD x.op (cV env) (fG x.hid σ.next σ.get) ⟨x.site,σ.next⟩with
   |none=>
    exact⟨fun h=>h.elim,fun⟨v,g',⟨mr,h,_⟩,_⟩=>by cases h⟩
   |some p=>
    obtain⟨v,mr⟩:=p
    have key:∀(v':AV) (g':Rows),(∃Oh,some (v,mr)=some (v',Oh)/\g'=iR σ.get ⟨x.site,σ.next⟩ Oh)↔v'=v/\g'=iR σ.get ⟨x.site,σ.next⟩ mr:=fun v' g'=>by
     constructor
     ·rintro⟨Oh,h1,h2⟩
      injection h1 with h1;injection h1 with h1 h3
      subst h1;subst h3
      exact⟨rfl,h2⟩
     ·rintro⟨rfl,rfl⟩;exact⟨mr,rfl,rfl⟩
    have fin:(∃v' g',(∃Oh,some (v,mr)=some (v',Oh)/\g'=iR σ.get ⟨x.site,σ.next⟩ Oh)/\N (upd env x.dst v') ⟨g',σ.next⟩)↔N (upd env x.dst v) ⟨iR σ.get ⟨x.site,σ.next⟩ mr,σ.next⟩:=by
     constructor
     ·rintro⟨v',g',h,hN⟩
      obtain⟨rfl,rfl⟩:=(key v' g').1 h
      exact hN
     ·intro hN;exact⟨v,_,(key _ _).2 ⟨rfl,rfl⟩,hN⟩
    cases mr with
    |none=>exact fin.symm
    |some r=>exact fin.symm
 ·rw[if_neg hw]
  simp only[if_neg hw]
  exact⟨fun h=>⟨_,_,⟨rfl,rfl⟩,h⟩,fun⟨v,g',⟨hv,hg⟩,h⟩=>by rw[hv,hg]at h;exact h⟩
def xv (x:bf) (env:Env) (v:AV):Prop:=if aH x.guard env then eD x.op (cV env) (fun _=>none) ⟨0,0⟩=some (v,none)else v=.undef
theorem uw {x:bf} (hp:x.op.cls=.pure):kr x=true:=by
 unfold kr
 rw[hp]
 cases hc:x.op<;>simp[hc,fU.cls]at hp<;>rfl
theorem rL {x:bf} (hp:x.op.cls=.pure) {N:Env->ax->Prop} {env:Env} {σ:ax}:step X x N env σ↔∃v,xv x env v/\N (upd env x.dst v) σ:=by
 rw[k6 (uw hp)]
 unfold GS xv
 by_cases hw:aH x.guard env=true
 ·simp only[hw,if_true]
  constructor
  ·rintro⟨v,g',h,hN⟩
   obtain⟨rfl,dy⟩:=xo hp h
   refine⟨v,?_,hN⟩
   unfold VS at h
   split at h
   ·rename_i dB;rw[dB]at hp;simp[fU.cls]at hp
   ·rename_i dB;rw[dB]at hp;simp[fU.cls]at hp
   ·rename_i dB;rw[dB]at hp;simp[fU.cls]at hp
   ·rename_i dB;rw[dB]at hp;simp[fU.cls]at hp
   ·rename_i dB;rw[dB]at hp;simp[fU.cls]at hp
   ·rename_i dB;rw[dB]at hp;simp[fU.cls]at hp
   ·rename_i dB;rw[dB]at hp;simp[fU.cls]at hp
   ·obtain⟨mr,hq,_⟩:=h
    have SK:mr=none:=by
     cases mr with
     |none=>rfl
     |some r=>have:=uz hq;simp[pz,hp]at this
    subst SK
    rw[<-uA (g:=fG x.hid σ.next σ.get) (id:=⟨x.site,σ.next⟩) hp];exact hq
  ·rintro⟨v,h,hN⟩
   exact⟨v,σ.get,LF (mr:=none) (by rw[uA (g2:=fun _=>none) (id2:=⟨0,0⟩) hp];exact h),hN⟩
 ·simp only[if_neg hw]
  exact⟨fun⟨v,g',⟨hv,hg⟩,h⟩=>⟨v,hv,by rw[hg]at h;exact h⟩,fun⟨v,hv,h⟩=>⟨v,σ.get,⟨hv,rfl⟩,h⟩⟩
theorem IT {x:bf} {env iC:Env} {v:AV} (h:∀t∈x.ga,env t=iC t) (hv:xv x env v):xv x iC v:=by
 unfold xv at hv ⊢
 rw[<-mc h,<-rI fun t ht=>h t (qz ht)];exact hv
structure KT (x y:bf):Prop where
 xy:∀k,x.dst=some k->k∉y.ga
 yx:∀k,y.dst=some k->k∉x.ga
 dst:∀k,x.dst=some k->y.dst≠some k
theorem qH {x y:bf} (h:rN x y=true):KT x y:=by
 unfold rN at h
 simp only[Bool.and_eq_true]at h
 obtain⟨a1,a2⟩:=h
 refine⟨fun k hk=>?_,fun k hk=>?_,fun k hk=>?_⟩
 ·rw[hk]at a1;simp at a1;exact a1.1
 ·rw[hk]at a2;simpa using a2
 ·rw[hk]at a1;simp at a1;exact a1.2
theorem wz {x y:bf} (h:wv x y=true):(KT x y/\x.op.cls=.pure)∨(Bj x y/\kr x=true/\kr y=true):=by
 unfold wv at h
 simp only[Bool.or_eq_true,Bool.and_eq_true,beq_iff_eq]at h
 rcases h with⟨h1,h2⟩|⟨⟨h1,h2⟩,h3⟩
 ·exact .inl ⟨qH h1,h2⟩
 ·exact .inr ⟨pb h1,h2,h3⟩
theorem zF {x y:bf} (h:wv x y=true):kr x=true:=by
 rcases wz h with h|h
 ·exact uw h.2
 ·exact h.2.1
theorem FT (hK:oH X) {x y:bf} (hf:wv x y=true) {N:Env->ax->Prop} {env:Env} {σ:ax} (h:step X x (fun e s=>step X y N e s) env σ):step X y (fun e s=>step X x N e s) env σ:=by
 rcases wz hf with⟨F,hp⟩|⟨F,hx,hy⟩
 ·rw[rL hp]at h
  obtain⟨v,hx,h⟩:=h
  have I9:=fun(v':AV)=>uU (env:=env) (v:=v) (u:=v') F.dst
  have u9:=lI (env:=env) (v:=v) F.xy
  have back:∀(v':AV),xv x (upd env y.dst v') v:=fun v'=>IT (fun t ht=>(lI F.yx t ht).symm) hx
  unfold step at h ⊢
  rw[mc u9]at h
  split at h
  ·rename_i hw
   rw[if_pos hw]
   refine AX hK (fun v' σ' hN=>?_) (F7 (fun t ht=>u9 t (qz ht)) h)
   rw[I9]at hN
   exact(rL hp).2 ⟨v,back v',hN⟩
  ·rename_i hw
   rw[if_neg hw]
   rw[I9]at h
   exact(rL hp).2 ⟨v,back _,h⟩
 ·rw[k6 hx]at h
  obtain⟨v,g1,h1,h⟩:=h
  rw[k6 hy]at h
  obtain⟨v',g2,h2,h⟩:=h
  obtain⟨Jv,q1,q2,q3⟩:=Di F h1 h2
  rw[q3]at h
  exact(k6 hy).2 ⟨v',Jv,q1,(k6 hx).2 ⟨v,g2,q2,h⟩⟩
def yM (X:ft) (ops:Array Oper) (vl:List bf) (K:Env->ax->Prop):Nat->Array Bool->Env->ax->Prop
 |0,listed,env,σ=>Region.ready .any ops listed=[]/\K env ⟨σ.get,σ.next+1⟩
 |f+1,listed,env,σ=>(Region.ready .any ops listed=[]->K env ⟨σ.get,σ.next+1⟩)/\∀i∈Region.ready .any ops listed,∃vo,vl[i]? =some vo/\step X vo (fun e s=>yM X ops vl K f (listed.setIfInBounds i true) e s) env σ
theorem BR {ops:Array Oper} {vl:List bf} {bs:Array Nat} {listed:Array Bool} {i:Nat} (h:pa ops vl bs listed i=true) (j:Nat):pa ops vl bs (listed.setIfInBounds j true) i=true:=by
 unfold pa at h ⊢
 split at h
 ·rename_i x hx
  simp only[List.all_eq_true,Bool.or_eq_true]at h ⊢
  intro k hk
  rcases h k hk with((h|h)|h)|h
  ·exact .inl (.inl (.inl (getD_set_true h)))
  ·exact .inl (.inl (.inr h))
  ·exact .inl (.inr h)
  ·exact .inr h
 ·cases h
theorem rY {ops:Array Oper} {vl:List bf} {listed:Array Bool} {i j:Nat} {vi:bf} (qL:DC ops listed) (h:pa ops vl (jf ops) listed i=true) (hi:vl[i]? =some vi) (hr:i∈Region.ready .any ops listed) (hj:j∈Region.ready .any ops listed) (lK:j≠i):∃vj,vl[j]? =some vj/\wv vi vj=true:=by
 unfold pa at h
 rw[hi]at h
 simp only[List.all_eq_true,Bool.or_eq_true,beq_iff_eq]at h
 obtain⟨_,o,ho,_⟩:=mem_ready.1 hj
 rcases h j (List.mem_range.2 (Array.getElem?_eq_some_iff.1 ho).1)with((h|h)|h)|h
 ·rw[iK hj]at h;cases h
 ·exact absurd h lK
 ·have:=ku qL hj i h
  rw[iK hr]at this;cases this
 ·split at h
  ·rename_i y hy;exact⟨y,hy,h⟩
  ·cases h
theorem Df (hK:oH X) {ops:Array Oper} {vl:List bf} {K:Env->ax->Prop} {i:Nat} {vi:bf} (hi:vl[i]? =some vi):∀(fuel:Nat) (listed:Array Bool) (env:Env) (σ:ax),
  DC ops listed->i∈Region.ready .any ops listed->pa ops vl (jf ops) listed i=true->step X vi (fun e s=>yM X ops vl K fuel (listed.setIfInBounds i true) e s) env σ->yM X ops vl K (fuel+1) listed env σ:=by
 intro fuel
 induction fuel with
 |zero=>
  intro listed env σ qL hr ly H
  refine⟨fun h=>(by rw[h]at hr;cases hr),fun j hj=>?_⟩
  by_cases lK:j=i
  ·subst lK;exact⟨vi,hi,H⟩
  ·obtain⟨vj,JV,Pb⟩:=rY qL ly hi hr hj lK
   rw[k6 (zF Pb)]at H
   obtain⟨v,g',_,H⟩:=H
   have:=ready_mono hj lK
   rw[H.1]at this;cases this
 |succ fuel ih=>
  intro listed env σ qL hr ly H
  refine⟨fun h=>(by rw[h]at hr;cases hr),fun j hj=>?_⟩
  by_cases lK:j=i
  ·subst lK;exact⟨vi,hi,H⟩
  ·obtain⟨vj,JV,Pb⟩:=rY qL ly hi hr hj lK
   refine⟨vj,JV,?_⟩
   have H2:step X vi (fun e s=>step X vj (fun e s=>yM X ops vl K fuel ((listed.setIfInBounds i true).setIfInBounds j true) e s) e s) env σ:=ju hK (fun e s h=>by
    obtain⟨vj',xV,h'⟩:=h.2 j (ready_mono hj lK)
    rw[JV]at xV;injection xV with xV;subst xV
    exact h') H
   refine ju hK (fun e s h=>?_) (FT hK Pb H2)
   refine ih _ _ _ (qL.list hj) (ready_mono hr (fun e=>lK e.symm)) (BR ly j) ?_
   rw[Array.setIfInBounds_comm _ _ lK]
   exact h
theorem rK {x:bf} (hg:x.guard=none) {N:Env->ax->Prop} {env:Env} {σ:ax}:step X x N env σ=fq X false x env σ (fun v σ'=>N (upd env x.dst v) σ'):=by
 unfold step
 rw[hg]
 simp[aH]
theorem C0 {x y:bf} {t s sz:Nat} {ys:O} (hx:x.op=.append sz (.t t) ys) (hg:x.guard=none) (hf:DH s x y=true) {N:Env->ax->Prop} {env:Env} {σ:ax} (hl:Kc t s ys env σ.next) (h:step X x (fun e s=>step X y N e s) env σ):
  step X y (fun e σ'=>Kc t s ys e σ'.next/\step X x N e σ') env σ:=by
 unfold DH at hf
 simp only[Bool.and_eq_true,bne_iff_ne]at hf
 obtain⟨⟨⟨⟨⟨f1,hq⟩,f3⟩,f4⟩,f5⟩,f6⟩:=hf
 have F:=qH f1
 obtain⟨⟨len,ht⟩,hsrc⟩:=hl
 have HD:∀k∈x.op.ga,∀v',upd env y.dst v' k=env k:=fun k hk v'=>lI (env:=env) (v:=v') F.yx k (qz hk)
 have dL:t∈x.op.ga:=by rw[hx];simp[fU.ga,gx]
 have Bg:∀v',cV (upd env y.dst v') ys=cV env ys:=fun v'=>(aY fun k hk=>by rw[HD k (by rw[hx];simp[fU.ga,hk])]).symm
 rw[rK hg]at h
 unfold fq at h
 simp only[hx,fH]at h
 have ex:cV env (.t t)=.own ⟨s,σ.next⟩ 0 len:=ht
 rw[ex]at h
 cases hr:bd σ.get (cV env ys)with
 |none=>rw[hr]at h;exact h.elim
 |some rs=>
  rw[hr]at h
  simp only[Option.bind_some,aP]at h
  cases NV:σ.get ⟨s,σ.next⟩with
  |none=>rw[NV]at h;exact h.elim
  |some r=>
   rw[NV]at h
   simp only[Option.bind_some]at h
   split at h
   ·rename_i v g1 hv
    split at hv
    ·rename_i hcond
     simp only[Option.some.injEq,Prod.mk.injEq]at hv
     obtain⟨rfl,rfl⟩:=hv
     rw[k6 hq]at h
     obtain⟨v',g2,hG,hN⟩:=h
     have JM:(⟨y.site,σ.next⟩:Id)≠⟨s,σ.next⟩:=fun e=>f5 (by injection e)
     have Hv:(⟨y.site,σ.next⟩:Id)≠⟨x.site,σ.next⟩:=fun e=>f6 (by injection e)
     replace hG:GS X σ.next y env (bK (bR σ.get ⟨s,σ.next⟩) ⟨x.site,σ.next⟩ ⟨true,sz,r.rows++rs⟩) v' g2:=tf (lI F.xy) hG
     have S9:fG y.hid σ.next σ.get=fG y.hid σ.next (bK (bR σ.get ⟨s,σ.next⟩) ⟨x.site,σ.next⟩ ⟨true,sz,r.rows++rs⟩):=by
      cases hh:y.hid with
      |nil=>rw[hh]at f3;simp at f3
      |cons a l=>
       rw[hh]at f3 f4
       funext i
       show(if (a::l).contains i.site=true/\i.bt=σ.next then none else σ.get i)=if (a::l).contains i.site=true/\i.bt=σ.next then none else _
       by_cases h1:i=⟨x.site,σ.next⟩
       ·subst h1;rw[if_pos ⟨f4,rfl⟩,if_pos ⟨f4,rfl⟩]
       ·by_cases h2:i=⟨s,σ.next⟩
        ·subst h2;rw[if_pos ⟨f3,rfl⟩,if_pos ⟨f3,rfl⟩]
        ·simp only[bK,bR,if_neg h1,if_neg h2]
     obtain⟨my,Pd,hG'⟩:∃my,g2=iR (bK (bR σ.get ⟨s,σ.next⟩) ⟨x.site,σ.next⟩ ⟨true,sz,r.rows++rs⟩) ⟨y.site,σ.next⟩ my/\GS X σ.next y env σ.get v' (iR σ.get ⟨y.site,σ.next⟩ my):=by
      unfold GS at hG ⊢
      by_cases wy:aH y.guard env=true
      ·rw[if_pos wy]at hG
       have hcw:y.op.cls≠.write:=by
        unfold kr at hq
        simp only[Bool.and_eq_true,bne_iff_ne]at hq
        exact hq.2
       obtain⟨my,rfl,_,LK⟩:=tn hcw hG
       exact⟨my,rfl,by rw[if_pos wy];exact LK _ S9⟩
      ·rw[if_neg wy]at hG
       obtain⟨rfl,rfl⟩:=hG
       exact⟨none,rfl,by rw[if_neg wy];exact⟨rfl,rfl⟩⟩
     subst Pd
     refine(k6 hq).2 ⟨v',_,hG',⟨⟨len,by rw[HD t dL];exact ht⟩,fun id o l he=>hsrc id o l (by rw[<-Bg v'];exact he)⟩,?_⟩
     rw[rK hg]
     unfold fq
     have ex':cV (upd env y.dst v') (.t t)=.own ⟨s,σ.next⟩ 0 len:=by
      show upd env y.dst v' t= _
      rw[HD t dL];exact ht
     simp only[hx,fH,ex',Bg v']
     have vI:bd (iR σ.get ⟨y.site,σ.next⟩ my) (cV env ys)=some rs:=by
      cases my with
      |none=>exact hr
      |some row=>
       revert hr
       cases hev:cV env ys<;>simp only[bd,iR]<;>try exact fun h=>h
       rename_i id o l
       have:id≠⟨y.site,σ.next⟩:=fun e=>hsrc id o l hev (by rw[e])
       simp only[bK,if_neg this];exact fun h=>h
     have SA:iR σ.get ⟨y.site,σ.next⟩ my ⟨s,σ.next⟩=some r:=by
      cases my with
      |none=>exact NV
      |some row=>simp only[iR,bK,if_neg (fun e=>JM e.symm:(⟨s,σ.next⟩:Id)≠⟨y.site,σ.next⟩)];exact NV
     rw[vI]
     simp only[Option.bind_some,aP,SA]
     rw[if_pos hcond]
     have Pf:bK (bR (iR σ.get ⟨y.site,σ.next⟩ my) ⟨s,σ.next⟩) ⟨x.site,σ.next⟩ ⟨true,sz,r.rows++rs⟩=iR (bK (bR σ.get ⟨s,σ.next⟩) ⟨x.site,σ.next⟩ ⟨true,sz,r.rows++rs⟩) ⟨y.site,σ.next⟩ my:=by
      cases my with
      |none=>rfl
      |some row=>
       funext i
       simp only[iR,bK,bR]
       by_cases h1:i=⟨y.site,σ.next⟩
       ·subst h1;rw[if_neg Hv,if_neg JM,if_pos rfl,if_pos rfl]
       ·simp only[if_neg h1]
     have hu:=uU (env:=env) (v:=AV.own ⟨x.site,σ.next⟩ 0 (len+rs.length)) (u:=v') F.dst
     show N (upd (upd env y.dst v') x.dst (.own ⟨x.site,σ.next⟩ 0 (len+rs.length))) ⟨bK (bR (iR σ.get ⟨y.site,σ.next⟩ my) ⟨s,σ.next⟩) ⟨x.site,σ.next⟩ ⟨true,sz,r.rows++rs⟩,σ.next⟩
     rw[Pf,<-hu]
     exact hN
    ·cases hv
   ·exact h.elim
theorem BQ {ops:Array Oper} {vl:List bf} {bs:Array Nat} {listed:Array Bool} {i s:Nat} (h:nu ops vl bs listed i s=true) (j:Nat):nu ops vl bs (listed.setIfInBounds j true) i s=true:=by
 unfold nu at h ⊢
 split at h
 ·rename_i x hx
  simp only[List.all_eq_true,Bool.or_eq_true]at h ⊢
  intro k hk
  rcases h k hk with((h|h)|h)|h
  ·exact .inl (.inl (.inl (getD_set_true h)))
  ·exact .inl (.inl (.inr h))
  ·exact .inl (.inr h)
  ·exact .inr h
 ·cases h
theorem zD {ops:Array Oper} {vl:List bf} {listed:Array Bool} {i j s:Nat} {vi:bf} (qL:DC ops listed) (h:nu ops vl (jf ops) listed i s=true) (hi:vl[i]? =some vi) (hr:i∈Region.ready .any ops listed) (hj:j∈Region.ready .any ops listed) (lK:j≠i):∃vj,vl[j]? =some vj/\DH s vi vj=true:=by
 unfold nu at h
 rw[hi]at h
 simp only[List.all_eq_true,Bool.or_eq_true,beq_iff_eq]at h
 obtain⟨_,o,ho,_⟩:=mem_ready.1 hj
 rcases h j (List.mem_range.2 (Array.getElem?_eq_some_iff.1 ho).1)with((h|h)|h)|h
 ·rw[iK hj]at h;cases h
 ·exact absurd h lK
 ·have:=ku qL hj i h
  rw[iK hr]at this;cases this
 ·split at h
  ·rename_i y hy;exact⟨y,hy,h⟩
  ·cases h
theorem AY (hK:oH X) {ops:Array Oper} {vl:List bf} {K:Env->ax->Prop} {i t s sz:Nat} {ys:O} {vi:bf} (hi:vl[i]? =some vi) (hx:vi.op=.append sz (.t t) ys) (hg:vi.guard=none):∀(fuel:Nat) (listed:Array Bool) (env:Env) (σ:ax),
  DC ops listed->i∈Region.ready .any ops listed->nu ops vl (jf ops) listed i s=true->Kc t s ys env σ.next->step X vi (fun e s=>yM X ops vl K fuel (listed.setIfInBounds i true) e s) env σ->yM X ops vl K (fuel+1) listed env σ:=by
 intro fuel
 induction fuel with
 |zero=>
  intro listed env σ qL hr ly N0 H
  refine⟨fun h=>(by rw[h]at hr;cases hr),fun j hj=>?_⟩
  by_cases lK:j=i
  ·subst lK;exact⟨vi,hi,H⟩
  ·exfalso
   have h0:=ready_mono hj lK
   rw[rK hg]at H
   unfold fq at H
   simp only[hx]at H
   split at H
   ·rw[H.1]at h0;cases h0
   ·exact H
 |succ fuel ih=>
  intro listed env σ qL hr ly N0 H
  refine⟨fun h=>(by rw[h]at hr;cases hr),fun j hj=>?_⟩
  by_cases lK:j=i
  ·subst lK;exact⟨vi,hi,H⟩
  ·obtain⟨vj,JV,Pb⟩:=zD qL ly hi hr hj lK
   refine⟨vj,JV,?_⟩
   have H2:step X vi (fun e s=>step X vj (fun e s=>yM X ops vl K fuel ((listed.setIfInBounds i true).setIfInBounds j true) e s) e s) env σ:=ju hK (fun e s h=>by
    obtain⟨vj',xV,h'⟩:=h.2 j (ready_mono hj lK)
    rw[JV]at xV;injection xV with xV;subst xV
    exact h') H
   refine ju hK (fun e s h=>?_) (C0 hx hg Pb N0 H2)
   refine ih _ _ _ (qL.list hj) (ready_mono hr (fun e=>lK e.symm)) (BQ ly j) h.1 ?_
   rw[Array.setIfInBounds_comm _ _ lK]
   exact h.2
theorem HP {ops:Array Oper} {vl:List bf} {bs:Array Nat} {listed:Array Bool} {i i' t s:Nat} {y:O} {vo:bf} (h:M3 ops vl bs listed i=some (i',t,s,y,vo)):i'=i/\vl[i]? =some vo/\(∃sz,vo.op=.append sz (.t t) y)/\vo.guard=none/\nu ops vl bs listed i s=true:=by
 unfold M3 at h
 split at h
 ·rename_i x hx
  split at h
  ·rename_i t' s' y' jW
   split at h
   ·rename_i hf
    simp only[Option.some.injEq,Prod.mk.injEq]at h
    obtain⟨rfl,rfl,rfl,rfl,rfl⟩:=h
    unfold Ll at jW
    split at jW
    ·rename_i sz t2 y2 ho qM
     split at jW
     ·simp only[Option.some.injEq,Prod.mk.injEq]at jW
      obtain⟨rfl,rfl,rfl⟩:=jW
      exact⟨rfl,hx,⟨sz,ho⟩,qM,hf⟩
     ·cases jW
    ·cases jW
   ·cases h
  ·cases h
 ·cases h
theorem wg {X:ft} {Q:Ex->Env->ax->Prop} {env:Env} {σ:ax}:∀{l:List VC} {t:VC},zm l=some t->ej X t Q env σ->∀c∈l,ej X c Q env σ
 |[],t,h,_,c,hc=>by cases hc
 |[c0],t,h,hw,c,hc=>by
  simp only[zm,Option.some.injEq]at h
  subst h
  rw[List.mem_singleton]at hc
  subst hc;exact hw
 |c0::c1::r,t,h,hw,c,hc=>by
  simp only[zm,Option.map_eq_some_iff]at h
  obtain⟨t',Gm,rfl⟩:=h
  rcases List.mem_cons.1 hc with rfl|hc
  ·exact hw.1
  ·exact wg Gm hw.2 c hc
theorem mapM_mem {α β:Type} {f:α->Option β}:∀{l:List α} {r:List β},l.mapM f=some r->∀i∈l,∃b∈r,f i=some b
 |[],_,_,i,hi=>by cases hi
 |a::l,r,h,i,hi=>by
  simp only[List.mapM_cons,Option.bind_eq_bind,Option.bind_eq_some_iff,Option.pure_def,Option.some.injEq]at h
  obtain⟨b,hb,r',hr,rfl⟩:=h
  rcases List.mem_cons.1 hi with rfl|hi
  ·exact⟨b,by simp,hb⟩
  ·obtain⟨c,hc,hf⟩:=mapM_mem hr i hi
   exact⟨c,List.mem_cons_of_mem _ hc,hf⟩
theorem F4 (hK:oH X) {ops:Array Oper} {vl:List bf} {Q:Ex->Env->ax->Prop}:∀(n:Nat) (listed:Array Bool) (t:VC) (env:Env) (σ:ax),uT ops vl (jf ops) n listed=some t->DC ops listed->ej X t Q env σ->yM X ops vl (Q .normal) n listed env σ:=by
 intro n
 induction n with
 |zero=>
  intro listed t env σ h _ hw
  unfold uT at h
  split at h
  ·rename_i hr
   simp only[Option.some.injEq]at h
   subst h
   exact⟨hr,hw⟩
  ·cases h
 |succ n ih=>
  intro listed t env σ h qL hw
  unfold uT at h
  split at h
  ·rename_i hr
   simp only[Option.some.injEq]at h
   subst h
   exact⟨fun _=>hw,fun i hi=>by rw[hr]at hi;cases hi⟩
  ·rename_i r rs hr
   dsimp only at h
   split at h
   ·rename_i i hfind
    have JG:=List.mem_of_find?_eq_some hfind
    have wI:=List.find?_some hfind
    rw[<-hr]at JG
    split at h
    ·rename_i vo j9
     simp only[Option.map_eq_some_iff]at h
     obtain⟨t',Gm,rfl⟩:=h
     exact Df hK j9 n listed env σ qL JG wI (ju hK (fun e s h=>ih _ _ _ _ Gm (qL.list JG) h) hw)
    ·cases h
   ·split at h
    ·rename_i i t s y vo hfind
     obtain⟨i0,Gg,dJ⟩:=List.exists_of_findSome?_eq_some hfind
     obtain⟨rfl,j9,⟨sz,dB⟩,qM,E7⟩:=HP dJ
     rw[<-hr]at Gg
     simp only[Option.map_eq_some_iff]at h
     obtain⟨t',Gm,rfl⟩:=h
     exact AY hK j9 dB qM n listed env σ qL Gg E7 hw.1 (ju hK (fun e s h=>ih _ _ _ _ Gm (qL.list Gg) h) hw.2)
    split at h
    ·rename_i l hl
     have dy:=wg h hw
     refine⟨fun h=>(by rw[h]at hr;cases hr),fun i hi=>?_⟩
     rw[hr]at hi
     obtain⟨b,DN,B6⟩:=mapM_mem hl i hi
     simp only[Option.bind_eq_some_iff,Option.map_eq_some_iff]at B6
     obtain⟨vo,j9,t',Gm,rfl⟩:=B6
     exact⟨vo,j9,ju hK (fun e s h=>ih _ _ _ _ Gm (qL.list (by rw[hr];exact hi)) h) (dy _ DN)⟩
    ·cases h
theorem Dc {ops:Array Oper} {vl:List bf} {nt site0:Nat} {draw mk:Bool} {bs:Array Nat} {hidden:List (Nat×Bool)} {K:Env->ax->Prop} {Q:Exit->Act->World->Prop} (dy:allM (lv P ops nt site0 draw mk bs hidden) ops.toList 0=some vl):
  ∀(fuel:Nat) (listed:Array Bool) (env:Env) (σ:ax) (a:Act) (w:World) (D:Nat->Prop) (ι:Names) (U:Nat->Prop),yM (Sound P) ops vl K fuel listed env σ->fW P hs D ι σ.get w->Used ι σ.next U->(∀s,U s->∃i,s=site0+i/\listed.getD i false=true)->bV P w D ι env a->a.tmps.size=nt->
  (∀ig σ' a' w' D' ι',K ig σ'->Step hs D ι w D' ι' w'->St P hs nt D' ι' ig σ' a' w'->a'.defers=a.defers->σ.next<=σ'.next->Q .normal a' w')->wpAny P .any ops Q fuel listed a w:=by
 intro fuel
 induction fuel with
 |zero=>intro listed env σ a w D ι U h S Us hU E eW hQ;exact⟨h.1,hQ env _ a w D ι h.2 (Step.refl _ _ _ _) ⟨S,Us.next,E,eW⟩ rfl (Nat.le_succ _)⟩
 |succ fuel ih=>
  intro listed env σ a w D ι U h S Us hU E eW hQ
  refine⟨fun hr=>hQ env _ a w D ι (h.1 hr) (Step.refl _ _ _ _) ⟨S,Us.next,E,eW⟩ rfl (Nat.le_succ _),fun i hi=>?_⟩
  obtain⟨vo,j9,hG⟩:=h.2 i hi
  obtain⟨_,o,ho,_⟩:=mem_ready.1 hi
  obtain⟨vo',lD,O3⟩:=(nj dy).2 i o (by simpa using ho)
  rw[j9]at lD;injection lD with lD;subst lD
  rw[Nat.zero_add]at O3
  obtain⟨hc,hd,zY,vD,hg⟩:=nS O3
  have hw:=rP (ops:=ops) (vo:=vo) E hg
  have Sf:¬U vo.site:=fun hu=>by
   obtain⟨i',he,hl⟩:=hU _ hu
   have:i'=i:=by omega
   subst this
   rw[iK hi]at hl;cases hl
  have jg:i<listed.size:=by
   have h0:=(mem_ready.1 hi).1
   rcases Nat.lt_or_ge i listed.size with h|h
   ·exact h
   ·simp[Array.getElem?_eq_none h]at h0
  unfold wpOp
  simp only[ho]
  rw[<-hw]
  unfold step at hG
  by_cases Fe:aH vo.guard env=true
  ·rw[if_pos Fe]
   rw[if_pos Fe]at hG
   refine .inl (xj hc hG S Us Sf E fun v σ' u D' ι' w' hn T S' hR U' hle=>?_)
   refine ih _ _ _ _ w' D' ι' _ hn S' U' (fun s zV=>?_) (by rw[hd];exact lV (ns E T) hR vD eW) (by rw[kq];exact eW) fun ig σ2 a2 w2 D2 ι2 hk T2 MM B9 lW=>hQ ig σ2 a2 w2 D2 ι2 hk (T.trans T2) MM (B9.trans (put_defers _ _ _)) (Nat.le_trans hle lW)
   rcases zV with h|h
   ·obtain⟨i',he,hl⟩:=hU _ h
    exact⟨i',he,getD_set_true hl⟩
   ·exact⟨i,by rw[h,zY],by simp[jg]⟩
  ·rw[if_neg Fe]
   rw[if_neg Fe]at hG
   refine ih _ _ _ _ w D ι U hG S Us (fun s zV=>?_) (by rw[hd];exact lV E da.undef vD eW) (by rw[kq];exact eW) fun ig σ2 a2 w2 D2 ι2 hk T2 MM B9 lW=>hQ ig σ2 a2 w2 D2 ι2 hk T2 MM (B9.trans (put_defers _ _ _)) lW
   obtain⟨i',he,hl⟩:=hU _ zV
   exact⟨i',he,getD_set_true hl⟩
end
end Go.Proofs.YtgoljkjaameagaaGreat.V

namespace Go.Proofs.YtgoljkjaameagaaGreat.V
open Go.RowKit
variable {P:Program} {w w':World} {D D' D2:Nat->Prop} {ι ι' ι2:Names}
def Bn (P:Program) (c:Code) (Q:Exit->Act->World->Prop) (a:Act) (w:World):Prop:=
 ∀(b:Frame) (k:List Item) (cs:List Frame),b.kind≠.early->∃e a' w',Q e a' w'/\Arrives P (lone (b.at a (.code c::k)) cs w) b k cs e a' w'
section
variable {Q:Exit->Act->World->Prop} {a:Act}
theorem rG {c:Code} (h:c.wp P Q a w):Bn P c Q a w:=fun b k cs _=>h b k cs
theorem Ki {x y:Code} (h:Bn P x (Exit.then (Bn P y Q) Q) a w):Bn P (.seq x y) Q a w:=by
 intro b k cs hb
 obtain⟨e,a1,w1,hq,jn⟩:=h b (.code y::k) cs hb
 by_cases he:e=.normal
 ·subst he
  obtain⟨e2,a2,w2,zU,Hk⟩:=hq b k cs hb
  exact⟨e2,a2,w2,zU,.of_steps (.head step_seq jn) Hk⟩
 ·refine⟨e,a1,w1,?_,.of_steps (.one step_seq) (.pass (x:=.code y) rfl (fun _ _=>.inl he) jn)⟩
  cases e<;>first|exact absurd rfl he|exact hq
theorem HY {c:Operand} {x y:Code} {t:Bool} (hc:a.eval c=.bool t) (h:Bn P (if t then x else y) Q a w):Bn P (.cond c x y) Q a w:=
 fun b k cs hb=>let ⟨e,a',w',q,r⟩:=h b k cs hb;⟨e,a',w',q,.of_steps (.one (step_cond hc)) r⟩
theorem FC {id:Nat} {c:Code} (h:Bn P c (Exit.inBlock id Q) a w):Bn P (.block id c) Q a w:=by
 intro b k cs hb
 obtain⟨e,a1,w1,hq,jn⟩:=h b (.inBlock id::k) cs hb
 cases e with
 |normal=>exact⟨.normal,a1,w1,hq,.head step_block (Steps.trans jn (.one step_inBlock))⟩
 |exit kJ=>
  by_cases hid:kJ=id
  ·simp only[Exit.inBlock,hid,if_true]at hq
   exact⟨.normal,a1,w1,hq,.head step_block (jn k (by simp[exitTo,hid]))⟩
  ·simp only[Exit.inBlock,hid,if_false]at hq
   exact⟨.exit kJ,a1,w1,hq,fun k' hk=>.head step_block (jn k' (by simp[exitTo,Ne.symm hid,hk]))⟩
 |goto l=>exact⟨_,a1,w1,hq,fun k' hk=>.head step_block (jn k' (by simp[gotoIn,hk]))⟩
 |ret=>exact⟨_,a1,w1,hq,.of_steps (.one step_block) jn⟩
 |panic ch=>exact⟨_,a1,w1,hq,.of_steps (.one step_block) jn⟩
 |outgrown=>exact⟨_,a1,w1,hq,.of_steps (b:=b) (k:=k) (cs:=cs) (e:=.outgrown) (.one step_block) jn⟩
def s7 (P:Program) (c:Code) (Q:Exit->Act->World->Prop):Nat->Act->World->Prop
 |0=>fun _ _=>False
 |n+1=>Bn P c (Exit.then (s7 P c Q n) Q)
theorem HZ {c:Code} (n:Nat) (h:s7 P c Q n a w):Bn P (.loop c) Q a w:=by
 intro b k cs hb
 have key:∀n a w,s7 P c Q n a w->∃e a' w',Q e a' w'/\Arrives P (lone (b.at a (.code c::.inLoop c::k)) cs w) b k cs e a' w':=by
  intro n
  induction n with
  |zero=>intro a w h;exact h.elim
  |succ n ih=>
   intro a w h
   obtain⟨e,a1,w1,hq,jn⟩:=h b (.inLoop c::k) cs hb
   by_cases he:e=.normal
   ·subst he
    obtain⟨e2,a2,w2,zU,Hk⟩:=ih a1 w1 hq
    exact⟨e2,a2,w2,zU,.of_steps (Steps.trans jn (.one step_inLoop)) Hk⟩
   ·refine⟨e,a1,w1,?_,.pass (x:=.inLoop c) rfl (fun _ _=>.inl he) jn⟩
    cases e<;>first|exact absurd rfl he|exact hq
 obtain⟨e,a',w',hq,jn⟩:=key n a w h
 exact⟨e,a',w',hq,.of_steps (.one step_loop) jn⟩
theorem xz {f:FuncId} {fn:Func} {c:Code} {args:Array Value} {R:Ending->World->Prop} (hf:P.funcs[f]? =some fn) (hb:fn.body=some c)
  (h:Bn P c (bodyPost P fn R) {tmps:=args++Array.replicate (fn.ntmps-args.size) undef,defers:=[]} w):Calls P f args w R:=by
 intro cs
 have Mn:Frame.enter P f args .normal=({(default:Frame)with fn:=f,kind:=.normal}:Frame).at {tmps:=args++Array.replicate (fn.ntmps-args.size) undef,defers:=[]} [.code c]:=by simp[Frame.enter,Frame.at,hf,hb]
 obtain⟨e,a',w',hq,jn⟩:=h {(default:Frame)with fn:=f,kind:=.normal} [] cs (by simp)
 rw[<-Mn]at jn
 cases e with
 |normal=>obtain⟨hd,v,hr,hR⟩:=hq;exact⟨.returned v,w',_,hR,Steps.trans jn (.one step_end),rfl,rfl,hd,rfl,fn,hf,hr⟩
 |ret=>obtain⟨hd,v,hr,hR⟩:=hq;obtain⟨todo,hs⟩:=jn;exact⟨.returned v,w',_,hR,hs,rfl,rfl,hd,rfl,fn,hf,hr⟩
 |panic chain=>obtain⟨hd,hR⟩:=hq;obtain⟨todo,hs⟩:=jn;exact⟨.panicked chain,w',_,hR,hs,rfl,rfl,hd,fn,hf⟩
 |exit id=>exact hq.elim
 |goto l=>exact hq.elim
 |outgrown=>exact⟨.outgrown,w',{(default:Frame)with fn:=f,kind:=.normal},hq,jn.resolve_left (by simp),rfl,trivial⟩
def vh (P:Program) (ops:Array Oper) (Q:Exit->Act->World->Prop) (l:List Nat) (a:Act) (w:World):Prop:=
 ∀(b:Frame) (k:List Item) (cs:List Frame),b.kind≠.early->∃e a' w',Q e a' w'/\Arrives P (lone (b.at a (.inRegion ops l::k)) cs w) b k cs e a' w'
theorem CH {id:Nat} {ops:Array Oper} (h:vh P ops Q (List.range ops.size) a w):Bn P (.region id ops false) Q a w:=
 fun b k cs hb=>let ⟨e,a',w',q,r⟩:=h b k cs hb;⟨e,a',w',q,.of_steps (.one step_region) r⟩
theorem M8 {ops:Array Oper} (h:Q .normal a w):vh P ops Q [] a w:=fun _ _ _ _=>⟨.normal,a,w,h,.one step_region_end⟩
theorem nO {o:Oper} {ys:Nat->Option Bool} (h:o.guard=none):Region.wanted o ys=true:=by simp[Region.wanted,h]
theorem H7 {ops:Array Oper} {i:Nat} {rest:List Nat} {o:Oper} {v:Value} (ho:ops[i]? =some o) (hg:o.guard=none) (hr:(execOp a.eval o).run P w=.ok (.value v) w') (h:vh P ops Q rest (a.put o.dst v) w'):vh P ops Q (i::rest) a w:=by
 intro b k cs hb
 obtain⟨e,a',w2,hq,jn⟩:=h b k cs hb
 refine⟨e,a',w2,hq,.of_steps (.one ?_) jn⟩
 have rh:(b.at a (.inRegion ops (i::rest)::k)).finish v=b.at (a.put o.dst v) (.inRegion ops rest::k):=by rw[Frame.finish_at,ho];rfl
 rw[<-rh]
 refine step_lone_go ?_
 have h2:=stepG_op (P:=P) (b:=b) (k:=k) (cs:=cs) (w:=w) (rest:=rest) ho (nO hg (ys:=yielded ops a.tmps))
 rw[h2];simp[stepG.apply,hr]
theorem Kp {ops:Array Oper} {i:Nat} {rest:List Nat} {o:Oper} {v z:Value} {c cap s r:Nat} {buf:Array Value} (ho:ops[i]? =some o) (hg:o.guard=none) (hr:(execOp a.eval o).run P w=.ok (.comm #[Conc.scase c v z] true .send) w)
  (hc:w.heap[c]? =some (.chan cap buf false s r false)) (fS:buf.size<cap) (h:vh P ops Q rest (a.put o.dst undef) (w.setChan c cap (buf.push v) false (s+1) r false)):vh P ops Q (i::rest) a w:=by
 intro b k cs hb
 obtain⟨e,a',w2,hq,jn⟩:=h b k cs hb
 refine⟨e,a',w2,hq,.of_steps (.one ?_) jn⟩
 have rh:(b.at a (.inRegion ops (i::rest)::k)).finish undef=b.at (a.put o.dst undef) (.inRegion ops rest::k):=by rw[Frame.finish_at,ho];rfl
 rw[<-rh,Conc.lone_eq_solo,Conc.lone_eq_solo]
 exact Conc.step_lone_send_room (Conc.stepG_comm ho (nO hg) hb hr) hc fS
theorem Ko {ops:Array Oper} {i:Nat} {rest:List Nat} {o:Oper} {z:Value} {c cap s r:Nat} {buf:Array Value} (ho:ops[i]? =some o) (hg:o.guard=none) (hr:(execOp a.eval o).run P w=.ok (.comm #[Conc.rcase c z] true (.recv false)) w)
  (hc:w.heap[c]? =some (.chan cap buf false s r false)) (zZ:0<buf.size) (h:vh P ops Q rest (a.put o.dst (buf.getD 0 undef)) (w.setChan c cap (buf.extract 1 buf.size) false s (r+1) false)):vh P ops Q (i::rest) a w:=by
 intro b k cs hb
 obtain⟨e,a',w2,hq,jn⟩:=h b k cs hb
 refine⟨e,a',w2,hq,.of_steps (.one ?_) jn⟩
 have rh:(b.at a (.inRegion ops (i::rest)::k)).finish (buf.getD 0 undef)=b.at (a.put o.dst (buf.getD 0 undef)) (.inRegion ops rest::k):=by rw[Frame.finish_at,ho];rfl
 rw[<-rh,Conc.lone_eq_solo,Conc.lone_eq_solo]
 exact Conc.step_lone_recv_buf false (Conc.stepG_comm ho (nO hg) hb hr) hc zZ
end
section
variable {hs:Nat} {g:Rows} {env:Env} {a:Act} {o:Oper}
theorem J4 {x y:O} (hc:pJ P o.op=some (.snd x y)):∃x' y',o.op=.send x' y'/\cO P x'=some x/\cO P y'=some y:=by
 unfold pJ at hc
 split at hc
 case h_25=>
  rename_i x' y' h
  simp only[Option.bind_eq_bind,Option.bind_eq_some_iff,Option.pure_def,Option.some.injEq,fU.snd.injEq]at hc
  obtain⟨p,h1,q,h2,rfl,rfl⟩:=hc
  exact⟨_,_,h,h1,h2⟩
 all_goals (try unfold mv at hc)<;>(try unfold tt at hc)<;>(try unfold qU at hc)<;>(repeat' (split at hc))<;>(simp only[Option.bind_eq_bind,Option.bind_eq_some_iff,Option.pure_def,Option.some.injEq,Option.map_eq_some_iff,reduceCtorEq,and_false,exists_false]at hc)
theorem J3 {x:O} (hc:pJ P o.op=some (.Nc x)):∃t dir e i z x',o.op=.recv t x' false/\P.underlying t=some (.chan dir e)/\P.info? e=some i/\i.zero=some z/\cO P x'=some x:=by
 unfold pJ at hc
 split at hc
 case h_26=>
  rename_i t x' h
  split at hc
  ·rename_i dir e ht
   split at hc
   ·rename_i z hz
    simp only[Option.bind_eq_some_iff]at hz
    obtain⟨i,hi,hz⟩:=hz
    simp only[Option.map_eq_some_iff,fU.Nc.injEq]at hc
    obtain⟨p,h1,rfl⟩:=hc
    exact⟨t,dir,e,i,z,x',h,ht,hi,hz,h1⟩
   ·cases hc
  ·cases hc
 all_goals (try unfold mv at hc)<;>(try unfold tt at hc)<;>(try unfold qU at hc)<;>(repeat' (split at hc))<;>(simp only[Option.bind_eq_bind,Option.bind_eq_some_iff,Option.pure_def,Option.some.injEq,Option.map_eq_some_iff,reduceCtorEq,and_false,exists_false]at hc)
theorem OD {x y:O} {g':Rows} (S:fW P hs D ι g w) (hc:pJ P o.op=some (.snd x y)) (E:bV P w D ι env a) (hv:dY g (cV env x) (cV env y)=some g'):
  ∃c cap s r buf u,(execOp a.eval o).run P w=.ok (.comm #[Conc.scase c u (.tuple #[])] true .send) w/\w.heap[c]? =some (.chan cap buf false s r false)/\buf.size<cap/\fW P hs D ι g' (w.setChan c cap (buf.push u) false (s+1) r false)/\Step hs D ι w D ι (w.setChan c cap (buf.push u) false (s+1) r false):=by
 obtain⟨x',y',ho,hx,hy⟩:=J4 hc
 have rx:=db E hx
 have ry:=db E hy
 unfold dY at hv
 split at hv
 ·rename_i i he
  simp only[Option.bind_eq_some_iff]at hv
  obtain⟨r,hg,hv⟩:=hv
  split at hv
  ·rename_i hcond
   simp only[Option.some.injEq]at hv
   subst hv
   obtain⟨B,c,hu,hB,hk,eW,buf,s,q,hb,I0,hR⟩:=xC S rx he hg
   obtain⟨B',dK,RR,_⟩:=S.row i r hg
   rw[hB]at dK;injection dK with dK;subst dK
   have mN:=S.F5 (ob:=.chan c (buf.push (a.eval y')) false (s+1) q false) (r':={r with rows:=r.rows++[[cV env y]]}) hg hcond.1 hB fun hr ki=>⟨RR.sz,fun cs dp=>?_,fun h0=>(by rw[hk]at h0;cases h0),fun m hm=>(by rw[hk]at hm;cases hm),fun c' jR=>?_⟩
   ·exact⟨B.b,c,s,q,buf,a.eval y',by simp[execOp,ho,hu,Conc.scase],hb,by rw[I0];omega,mN.1,mN.2⟩
   ·rcases List.mem_append.1 dp with h|h
    ·exact RR.flat cs h
    ·rw[List.mem_singleton.1 h]
     intro b rf
     rw[List.mem_singleton.1 rf];exact hcond.2.2
   ·rw[hk]at jR
    simp only[Option.some.injEq,BK.chan.injEq]at jR
    subst jR
    refine⟨eW,_,_,_,ki,by simp[I0],fun j cs hj=>?_⟩
    rw[List.getElem?_append]at hj
    split at hj
    ·rename_i dJ
     obtain⟨b,u,q1,q2,q3⟩:=hR j cs hj
     refine⟨b,u,q1,?_,hr _ _ q3⟩
     rw[Array.getElem?_push,if_neg (by omega)];exact q2
    ·rename_i pg
     have gq:j=r.rows.length:=by
      have:=(List.getElem?_eq_some_iff.1 hj).1
      simp at this;omega
     subst gq
     simp at hj
     subst hj
     exact⟨_,_,rfl,by rw[Array.getElem?_push,if_pos I0.symm],hr _ _ ry⟩
  ·cases hv
 ·cases hv
theorem OC {x:O} {g':Rows} {v:AV} (S:fW P hs D ι g w) (hc:pJ P o.op=some (.Nc x)) (E:bV P w D ι env a) (hv:dX g (cV env x)=some (v,g')):
  ∃c cap s r buf z,(execOp a.eval o).run P w=.ok (.comm #[Conc.rcase c z] true (.recv false)) w/\w.heap[c]? =some (.chan cap buf false s r false)/\0<buf.size/\fW P hs D ι g' (w.setChan c cap (buf.extract 1 buf.size) false s (r+1) false)/\Step hs D ι w D ι (w.setChan c cap (buf.extract 1 buf.size) false s (r+1) false)/\da P (w.setChan c cap (buf.extract 1 buf.size) false s (r+1) false) D ι v (buf.getD 0 undef):=by
 obtain⟨t,dir,e,i0,z,x',ho,ht,hi,hz,hx⟩:=J3 hc
 have rx:=db E hx
 unfold dX at hv
 split at hv
 ·rename_i i he
  simp only[Option.bind_eq_some_iff]at hv
  obtain⟨r,hg,hv⟩:=hv
  split at hv
  ·rename_i v' rest qe
   split at hv
   ·rename_i hcond
    simp only[Option.some.injEq,Prod.mk.injEq]at hv
    obtain⟨rfl,rfl⟩:=hv
    obtain⟨B,c,hu,hB,hk,eW,buf,s,q,hb,I0,hR⟩:=xC S rx he hg
    obtain⟨B',dK,RR,_⟩:=S.row i r hg
    rw[hB]at dK;injection dK with dK;subst dK
    obtain⟨b0,u0,q1,q2,q3⟩:=hR 0 [v'] (by rw[qe];rfl)
    simp only[List.cons.injEq,and_true]at q1
    subst q1
    have kO:0<buf.size:=by rw[I0,qe];simp
    have Q6:buf.getD 0 undef=u0:=by rw[Array.getD_eq_getD_getElem?,q2];rfl
    have mN:=S.F5 (ob:=.chan c (buf.extract 1 buf.size) false s (q+1) false) (r':={r with rows:=rest}) hg hcond hB fun hr ki=>⟨RR.sz,fun cs dp=>RR.flat cs (by rw[qe];exact List.mem_cons_of_mem _ dp),fun h0=>(by rw[hk]at h0;cases h0),fun m hm=>(by rw[hk]at hm;cases hm),fun c' jR=>?_⟩
    ·refine⟨B.b,c,s,q,buf,z,?_,hb,kO,mN.1,mN.2,?_⟩
     ·have tY:(zeroValue e).run P w=.ok z w:=by simp[zeroValue,typeInfo,hi,hz]
      simp[execOp,ho,hu,Conc.rcase,run_underlying ht,tY]
     ·rw[Q6];exact mN.2.rep q3
    ·rw[hk]at jR
     simp only[Option.some.injEq,BK.chan.injEq]at jR
     subst jR
     refine⟨eW,_,_,_,ki,by simp[I0,qe],fun j cs hj=>?_⟩
     obtain⟨b,u,k1,k2,k3⟩:=hR (j+1) cs (by rw[qe];simpa using hj)
     refine⟨b,u,k1,?_,hr _ _ k3⟩
     have dJ:=(Array.getElem?_eq_some_iff.1 k2).1
     rw[Array.getElem?_extract,if_pos (by omega),Nat.add_comm 1 j];exact k2
   ·cases hv
  ·cases hv
 ·cases hv
theorem EH {ops:Array Oper} {nt site0:Nat} {K:Env->ax->Prop} {Q:Exit->Act->World->Prop}:∀(l:List Oper) (vl:List bf) (j:Nat) (env:Env) (σ:ax) (a:Act) (w:World) (D:Nat->Prop) (ι:Names),
  ops.toList.drop j=l->allM (lv P ops nt site0 false false #[] []) l j=some vl->ck vl K env σ->fW P hs D ι σ.get w->Used ι σ.next (fun _=>False)->bV P w D ι env a->a.tmps.size=nt->
  (∀ig σ' a' w' D' ι',K ig σ'->Step hs D ι w D' ι' w'->St P hs nt D' ι' ig σ' a' w'->a'.defers=a.defers->σ.next<=σ'.next->Q .normal a' w')->vh P ops Q (List.range' j l.length) a w:=by
 intro l
 induction l with
 |nil=>
  intro vl j env σ a w D ι _ h hv S Us E eW hQ
  simp[allM]at h;subst h
  exact M8 (hQ env ⟨σ.get,σ.next+1⟩ a w D ι hv (Step.refl _ _ _ _) ⟨S,Us.next,E,eW⟩ rfl (Nat.le_succ _))
 |cons o l ih=>
  intro vl j env σ a w D ι hl h hv S Us E eW hQ
  simp only[allM,Option.bind_eq_bind,Option.bind_eq_some_iff,Option.pure_def,Option.some.injEq]at h
  obtain⟨vo,j9,rO,qQ,rfl⟩:=h
  obtain⟨hc,hd,zY,vD,hg⟩:=nS j9
  obtain⟨Pg,hv⟩:=hv
  have MB:o.guard=none:=by
   split at hg
   ·assumption
   ·obtain⟨t,_,h⟩:=hg
    rw[Pg]at h;cases h
  have SR:ops[j]? =some o:=by
   have h0:=congrArg (fun x=>x[0]?) hl
   rw[<-Array.getElem?_toList]
   simpa[List.getElem?_drop]using h0
  have I4:ops.toList.drop (j+1)=l:=by rw[<-List.drop_drop,hl];rfl
  have go:∀(v:AV) (u:Value) (g2:Rows) (w2:World),ck rO K (upd env vo.dst v) ⟨g2,σ.next⟩->fW P hs D ι g2 w2->Step hs D ι w D ι w2->da P w2 D ι v u->vh P ops Q (List.range' (j+1) l.length) (a.put o.dst u) w2:=fun v u g2 w2 hn S2 T hR=>
   ih rO (j+1) (upd env vo.dst v) ⟨g2,σ.next⟩ (a.put o.dst u) w2 D ι I4 qQ hn S2 Us (by rw[hd];exact lV (ns E T) hR vD eW) (by rw[kq];exact eW) fun ig σ2 a' w3 D3 ι3 hk T2 LD B9 lW=>hQ ig σ2 a' w3 D3 ι3 hk (T.trans T2) LD (B9.trans (put_defers _ _ _)) lW
  rw[show List.range' j (o::l).length=j::List.range' (j+1) l.length from rfl]
  split at hv
  ·rename_i x y dB
   split at hv
   ·rename_i g2 N8
    rw[dB]at hc
    obtain⟨c,cap,s,r,buf,u,fX,hb,fS,S2,T⟩:=OD S hc E N8
    exact Kp SR MB fX hb fS (go _ _ _ _ hv S2 T da.undef)
   ·exact hv.elim
  ·rename_i x dB
   split at hv
   ·rename_i v g2 N8
    rw[dB]at hc
    obtain⟨c,cap,s,r,buf,z,fX,hb,zZ,S2,T,hR⟩:=OC S hc E N8
    exact Ko SR MB fX hb zZ (go _ _ _ _ hv S2 T hR)
   ·exact hv.elim
  ·split at hv
   ·rename_i v hq
    obtain⟨u,fX,hR⟩:=xd hc hq S E
    exact H7 SR MB fX (go _ _ _ _ hv S (Step.refl _ _ _ _) hR)
   ·exact hv.elim
end
end Go.Proofs.YtgoljkjaameagaaGreat.V

namespace Go.Proofs.YtgoljkjaameagaaGreat.V
open Go.RowKit
variable {P:Program} {w w':World} {D D' D2:Nat->Prop} {ι ι' ι2:Names}
section
variable {hs:Nat} {X:ft}
def exO:Ex->Exit
 | .normal=>.normal
 | .exit id=>.exit id
 | .ret=>.ret
theorem St.drew {nt:Nat} {env:Env} {σ:ax} {a:Act} {D:Nat->Prop} {ι:Names} (h:St P hs nt D ι env σ a w):St P hs nt D ι env σ a w.drew/\Step hs D ι w D ι w.drew:=by
 have T:Step hs D ι w D ι w.drew:=Step.stay h.Jb (fun _ _=>rfl) (Nat.le_refl _) rfl rfl rfl (fun _ h=>h) (fun _ h=>.inl h) (fun _ _ h=>h)
 exact⟨⟨h.Jb.stay (fun _ _=>rfl) (Nat.le_refl _) (fun _ h=>h) h.Jb.dead (fun _ h=>.inl h) (fun _ _ h=>h),h.used,ns h.env T,h.size⟩,T⟩
def tk (P:Program) (hs nt:Nat) (ds:List Deferred) (Q:Ex->Env->ax->Prop) (n0:Nat) (D:Nat->Prop) (ι:Names) (w:World) (Q':Exit->Act->World->Prop):Prop:=
 ∀ex env σ a w' D' ι',Q ex env σ->Step hs D ι w D' ι' w'->St P hs nt D' ι' env σ a w'->a.defers=ds->n0<=σ.next->Q' (exO ex) a w'
theorem tk.later {nt:Nat} {ds:List Deferred} {Q:Ex->Env->ax->Prop} {n0 n1:Nat} {Q':Exit->Act->World->Prop} (h:tk P hs nt ds Q n0 D ι w Q') (T:Step hs D ι w D' ι' w') (hn:n0<=n1):tk P hs nt ds Q n1 D' ι' w' Q':=
 fun ex env σ a w2 D2 ι2 hq T2 dL hd hle=>h ex env σ a w2 D2 ι2 hq (T.trans T2) dL hd (Nat.le_trans hn hle)
theorem BF (hm:P.follows .mixedOrders=true) {md:List (Nat×Nat)} {nt vB:Nat}:∀(c:Code) (vc:VC),jF P md nt vB c=some vc->∀(Q:Ex->Env->ax->Prop) (env:Env) (σ:ax) (a:Act) (w:World) (D:Nat->Prop) (ι:Names) (Q':Exit->Act->World->Prop),
  ej (Sound P) vc Q env σ->St P hs nt D ι env σ a w->tk P hs nt a.defers Q σ.next D ι w Q'->Bn P c Q' a w:=by
 intro c
 induction c with
 |skip=>
  intro vc h Q env σ a w D ι Q' hv dL hQ
  simp[jF]at h;subst h
  exact rG <| wp_skip (hQ .normal env σ a w D ι hv (Step.refl _ _ _ _) dL rfl (Nat.le_refl _))
 |exit id=>
  intro vc h Q env σ a w D ι Q' hv dL hQ
  simp[jF]at h;subst h
  exact rG <| wp_exit (hQ (.exit id) env σ a w D ι hv (Step.refl _ _ _ _) dL rfl (Nat.le_refl _))
 |ret=>
  intro vc h Q env σ a w D ι Q' hv dL hQ
  simp[jF]at h;subst h
  exact rG <| wp_ret (hQ .ret env σ a w D ι hv (Step.refl _ _ _ _) dL rfl (Nat.le_refl _))
 |seq x y ihx ihy=>
  intro vc h Q env σ a w D ι Q' hv dL hQ
  simp only[jF,Option.bind_eq_bind,Option.bind_eq_some_iff,Option.pure_def,Option.some.injEq]at h
  obtain⟨vx,hx,vy,hy,rfl⟩:=h
  refine Ki (ihx vx hx _ env σ a w D ι _ hv dL fun ex jY σ1 a1 w1 D1 ι1 hq T kP hd hle=>?_)
  cases ex with
  |normal=>exact ihy vy hy Q jY σ1 a1 w1 D1 ι1 Q' hq kP (by rw[hd];exact hQ.later T hle)
  |exit id=>exact hQ (.exit id) jY σ1 a1 w1 D1 ι1 hq T kP hd hle
  |ret=>exact hQ .ret jY σ1 a1 w1 D1 ι1 hq T kP hd hle
 |cond c x y ihx ihy=>
  intro vc h Q env σ a w D ι Q' hv dL hQ
  simp only[jF,Option.bind_eq_bind,Option.bind_eq_some_iff,Option.pure_def,Option.some.injEq]at h
  obtain⟨c',hc,vx,hx,vy,hy,rfl⟩:=h
  unfold ej at hv
  have hr:=db dL.env hc
  split at hv
  ·rename_i b hb
   rw[hb]at hr
   refine HY (eT hr) ?_
   cases b with
   |true=>exact ihx vx hx Q env σ a w D ι Q' hv dL hQ
   |false=>exact ihy vy hy Q env σ a w D ι Q' hv dL hQ
  ·exact hv.elim
 |block id c ih=>
  intro vc h Q env σ a w D ι Q' hv dL hQ
  simp only[jF,Option.map_eq_some_iff]at h
  obtain⟨vx,hx,rfl⟩:=h
  refine FC (ih vx hx _ env σ a w D ι _ hv dL fun ex jY σ1 a1 w1 D1 ι1 hq T kP hd hle=>?_)
  cases ex with
  |normal=>exact hQ .normal jY σ1 a1 w1 D1 ι1 hq T kP hd hle
  |ret=>exact hQ .ret jY σ1 a1 w1 D1 ι1 hq T kP hd hle
  |exit kJ=>
   simp only[aX]at hq
   simp only[exO,Exit.inBlock]
   by_cases hid:kJ=id
   ·rw[if_pos hid]at hq ⊢;exact hQ .normal jY σ1 a1 w1 D1 ι1 hq T kP hd hle
   ·rw[if_neg hid]at hq ⊢;exact hQ (.exit kJ) jY σ1 a1 w1 D1 ι1 hq T kP hd hle
 |loop c ih=>
  intro vc h Q env σ a w D ι Q' hv dL hQ
  simp only[jF,Option.map_eq_some_iff]at h
  obtain⟨vx,hx,rfl⟩:=h
  obtain⟨n,hv⟩:=hv
  refine HZ n ?_
  have key:∀n env σ a w D ι,D5 (ej (Sound P) vx) Q n env σ->St P hs nt D ι env σ a w->tk P hs nt a.defers Q σ.next D ι w Q'->s7 P c Q' n a w:=by
   intro n
   induction n with
   |zero=>intro env σ a w D ι h;exact h.elim
   |succ n ihn=>
    intro env σ a w D ι h dL hQ
    refine ih vx hx _ env σ a w D ι _ h dL fun ex jY σ1 a1 w1 D1 ι1 hq T kP hd hle=>?_
    cases ex with
    |normal=>exact ihn jY σ1 a1 w1 D1 ι1 hq kP (by rw[hd];exact hQ.later T hle)
    |exit id=>exact hQ (.exit id) jY σ1 a1 w1 D1 ι1 hq T kP hd hle
    |ret=>exact hQ .ret jY σ1 a1 w1 D1 ι1 hq T kP hd hle
  exact key n env σ a w D ι hv dL hQ
 |region id ops draw=>
  intro vc h Q env σ a w D ι Q' hv dL hQ
  simp only[jF,OB]at h
  split at h
  ·rename_i hmode
   have Sr:draw=true:=by
    simp only[Bool.and_eq_true]at hmode;exact hmode.1
   subst Sr
   split at h
   ·rename_i vl dy
    obtain⟨qf,T0⟩:=dL.drew
    have B3:=F4 (X:=Sound P) oW ops.size _ vc env σ h (fun k i h=>by
     exfalso
     rcases Nat.lt_or_ge k ops.size with hk|hk
     ·simp[hk]at h
     ·simp[Nat.not_lt.2 hk]at h) hv
    refine rG (wp_region_any hm ?_)
    exact Dc dy ops.size _ env σ a w.drew D ι (fun _=>False) B3 qf.Jb qf.used (fun _ h=>h.elim) qf.env qf.size fun jY σ1 a1 w1 D1 ι1 hk T kP hd hle=>hQ .normal jY σ1 a1 w1 D1 ι1 hk (T0.trans T) kP hd hle
   ·cases h
  split at h
  ·rename_i hcom
   have Sr:draw=false:=by
    simp only[Bool.and_eq_true,Bool.not_eq_true']at hcom;exact hcom.1
   subst Sr
   simp only[Option.map_eq_some_iff]at h
   obtain⟨vl,qQ,rfl⟩:=h
   have dy:allM (lv P ops nt ((vB*1000+id)*1000) false false #[] []) ops.toList 0=some vl:=by
    unfold pW at qQ
    simp only[Bool.false_eq_true,if_false,Bool.not_false,Bool.true_or,if_true]at qQ
    split at qQ
    ·rename_i rO h;simp at qQ;subst qQ;exact h
    ·cases qQ
   refine CH ?_
   have:=EH (Q:=Q') ops.toList vl 0 env σ a w D ι rfl dy hv dL.Jb dL.used dL.env dL.size fun jY σ1 a1 w1 D1 ι1 hk T kP hd hle=>hQ .normal jY σ1 a1 w1 D1 ι1 hk T kP hd hle
   rwa [<-List.range_eq_range',Array.length_toList]at this
  generalize (uj md id==1)=mk at h
  simp only[Option.map_eq_some_iff]at h
  obtain⟨vl,qQ,rfl⟩:=h
  cases draw with
  |false=>
   have dy:∃rO,allM (lv P ops nt ((vB*1000+id)*1000) false mk #[] []) ops.toList 0=some rO/\vl=rO:=by
    unfold pW at qQ
    simp only[Bool.false_eq_true,if_false,Bool.not_false,Bool.true_or,if_true]at qQ
    split at qQ
    ·rename_i rO h;simp at qQ;exact⟨rO,h,qQ.symm⟩
    ·cases qQ
   obtain⟨rO,dy,rfl⟩:=dy
   refine rG (wp_region_list ?_)
   exact FF ops.toList vl 0 env σ a w D ι (fun _=>False) dy hv dL.Jb dL.used (fun _ h=>h.elim) dL.env dL.size fun jY σ1 a1 w1 D1 ι1 hk T kP hd hle=>hQ .normal jY σ1 a1 w1 D1 ι1 hk T kP hd hle
  |true=>
   have dy:∃hidden rO,allM (lv P ops nt ((vB*1000+id)*1000) true mk (jf ops) hidden) ops.toList 0=some rO/\vl=rO/\nr ops rO (jf ops)=true:=by
    unfold pW at qQ
    simp only[if_true,Bool.not_true,Bool.false_or]at qQ
    split at qQ
    ·rename_i rO h
     split at qQ
     ·rename_i tV;simp at qQ;exact⟨_,rO,h,qQ.symm,tV⟩
     ·cases qQ
    ·cases qQ
   obtain⟨hidden,rO,dy,rfl,tV⟩:=dy
   obtain⟨qf,T0⟩:=dL.drew
   obtain⟨hlen,_⟩:=nj dy
   have kh:vl.length=ops.size:=by rw[hlen];simp
   have B3:=uV (X:=Sound P) (K:=Q .normal) (n:=σ.next) tV kh vl 0 (Array.replicate ops.size false) env σ.get (by simp) (by simp) (fun i hi=>by simp[hi]) (by simp[kh]) (fun k i h=>by
    exfalso
    rcases Nat.lt_or_ge k ops.size with hk|hk
    ·simp[hk]at h
    ·simp[Nat.not_lt.2 hk]at h) hv
   refine rG (wp_region_any hm ?_)
   rw[kh]at B3
   exact v7 dy ops.size _ env σ.get a w.drew D ι (fun _=>False) B3 qf.Jb qf.used (fun _ h=>h.elim) qf.env qf.size fun jY g1 a1 w1 D1 ι1 U1 hk T S1 Rt E1 wP hd=>hQ .normal jY ⟨g1,σ.next+1⟩ a1 w1 D1 ι1 hk (T0.trans T) ⟨S1,Rt.next,E1,wP⟩ hd (Nat.le_succ _)
 |_=>
  intro vc h
  simp[jF]at h
def Ii (tmps:Array Value):ResultVar->Sem Value
 | .tmp t=>pure (tmps.getD t undef)
 | .cell a t=>do loadVar t (<-asAddr (tmps.getD a undef))
theorem CO (fn:Func) (tmps:Array Value):results fn tmps=(do
  let vs <-fn.results.mapM (Ii tmps)
  pure (if h:vs.size=1 then vs[0]else .tuple vs)):=by
 unfold results
 congr 2
theorem sn {nt:Nat} {env:Env} {σ:ax} {a:Act} {D:Nat->Prop} {ι:Names} (dL:St P hs nt D ι env σ a w):∀(rs:List ResultVar) (vr:List ox) (vs:List AV),rs.mapM (EE P)=some vr->e6 env σ.get vr=some vs->
  ∃us:List Value,(rs.mapM (Ii a.tmps)).run P w=.ok us w/\us.length=vs.length/\∀(j:Nat) (v:AV),vs[j]? =some v->∃u,us[j]? =some u/\da P w D ι v u
 |[],vr,vs,h,hv=>by
  simp at h;subst h
  simp[e6]at hv;subst hv
  exact⟨[],by simp,rfl,fun j v h=>by simp at h⟩
 |r::rs,vr,vs,h,hv=>by
  simp only[List.mapM_cons,Option.bind_eq_bind,Option.bind_eq_some_iff]at h
  obtain⟨x,hx,vr',hr,h⟩:=h
  simp at h;subst h
  simp only[e6,Option.bind_eq_some_iff,Option.map_eq_some_iff]at hv
  obtain⟨v,tW,Tk,JW,rfl⟩:=hv
  obtain⟨us,h1,h2,h3⟩:=sn dL rs vr' Tk hr JW
  have one:∃u,(Ii a.tmps r).run P w=.ok u w/\da P w D ι v u:=by
   cases r with
   |tmp t=>
    simp[EE]at hx;subst hx
    simp[gS]at tW;subst tW
    exact⟨_,rfl,dL.env t⟩
   |cell b t=>
    simp only[EE,Option.bind_eq_bind,Option.bind_eq_some_iff,Option.pure_def,Option.some.injEq]at hx
    obtain⟨ag,sW,n,hn,rfl⟩:=hx
    simp only[gS]at tW
    have gK:=dL.env b
    unfold ld at tW
    split at tW
    ·rename_i kJ i' oo hb
     rw[hb]at gK
     obtain⟨B,he,hB,hk⟩:=iz gK
     simp only[Option.bind_eq_some_iff]at tW
     obtain⟨cs,dp,hp⟩:=tW
     obtain⟨B',r0,Gf,dK,R,hi,fl,f,hf⟩:=Il (S:=dL.Jb) dp (fun B2 h2=>by rw[hB]at h2;injection h2 with h2;subst h2;exact hk)
     rw[hB]at dK;injection dK with dK;subst dK
     obtain⟨u,k1,k2⟩:=j7 (w:=w) (b:=B.b) (oo:=i'*B.sz+oo) (f:=fun j=>f (oo+j)) sW hn hp (fun a ha=>fl a (List.mem_of_mem_drop ha)) (fun j hj=>by
      rw[Nat.add_assoc];exact(hf _ (by simp at hj;omega)).1) (fun j a ha=>by
      simp at ha;exact(hf _ ((List.getElem?_eq_some_iff.1 ha).1)).2 _ ha)
     exact⟨u,by simp only[Ii,he,asAddr,Sem.run_bind,Sem.run_pure,Result.andThen_ok,k1],k2⟩
    ·rename_i cs hb
     rw[hb]at gK
     obtain⟨b',oo,vs2,he,q1,q2,q3,q4⟩:=kA gK
     obtain⟨u,k1,k2⟩:=j7 (w:=w) (b:=b') (oo:=oo) (f:=vs2) sW hn tW q2 q3 (fun j a ha=>.eO _ _ (q4 j a ha))
     exact⟨u,by simp only[Ii,he,asAddr,Sem.run_bind,Sem.run_pure,Result.andThen_ok,k1],k2⟩
    ·simp at tW
  obtain⟨u,hu,vJ⟩:=one
  refine⟨u::us,?_,by simp[h2],fun j v' hj=>?_⟩
  ·rw[List.mapM_cons]
   simp only[Sem.run_bind,hu,h1,Result.andThen_ok,Sem.run_pure]
  ·cases j with
   |zero=>simp at hj;subst hj;exact⟨u,rfl,vJ⟩
   |succ j=>simp at hj ⊢;exact h3 j v' hj
theorem BB {f:Nat} {fn:Func} {c:Code} {args:List AV} {σ:ax} {K:AV->ax->Prop} {vr:List ox} (QQ:P.funcs[f]? =some fn) (hc:fn.body=some c) (hr:fn.results.toList.mapM (EE P)=some vr) (ha:fn.params.size+fn.nfree=args.length) (hle:fn.params.size+fn.nfree<=fn.ntmps)
  (h:∀(hs:Nat) (w:World) (D:Nat->Prop) (ι:Names) (a:Act) (Q':Exit->Act->World->Prop),St P hs fn.ntmps D ι (bZ args) σ a w->tk P hs fn.ntmps a.defers (lf vr K) σ.next D ι w Q'->Bn P c Q' a w):Sound P f args σ K:=by
 intro hs D ι w vs S Us A
 have eW:vs.size=args.length:=A.1
 refine xz QQ hc ?_
 refine h hs w D ι _ _ ⟨S,Us,fun t=>?_,by simp;omega⟩ fun ex jY σ1 a1 w1 D1 ι1 hq T kP hd hle=>?_
 ·simp only[bZ]
  by_cases dJ:t<args.length
  ·obtain⟨u,hu,vJ⟩:=A.2 t args[t] (List.getElem?_eq_getElem dJ)
   have e1:args.getD t .undef=args[t]:=by simp[List.getD_eq_getElem?_getD,dJ]
   have e2:(vs++Array.replicate (fn.ntmps-vs.size) undef).getD t undef=u:=by
    simp only[Array.getD_eq_getD_getElem?]
    rw[Array.getElem?_append_left (by omega),hu];rfl
   rw[e1,e2];exact vJ
  ·have e1:args.getD t .undef=.undef:=by simp[List.getD_eq_getElem?_getD,Nat.le_of_not_lt dJ]
   have e2:(vs++Array.replicate (fn.ntmps-vs.size) undef).getD t undef=undef:=by
    simp only[Array.getD_eq_getD_getElem?]
    rw[Array.getElem?_append_right (by omega),Array.getElem?_replicate]
    split<;>rfl
   rw[e1,e2];exact da.undef
 ·have fin:(∃vs,e6 jY σ1.get vr=some vs/\K (eH vs) σ1)->a1.defers=[]/\∃v,(results fn a1.tmps).run P w1=.ok v w1/\∃r g' n' D' ι' u,Ending.returned v=.returned u/\K r ⟨g',n'⟩/\Step hs D ι w D' ι' w1/\fW P hs D' ι' g' w1/\Used ι' n' (fun _=>False)/\σ.next<=n'/\da P w1 D' ι' r u:=by
   rintro⟨avs,JW,hK⟩
   obtain⟨us,h1,h2,h3⟩:=sn kP fn.results.toList vr avs hr JW
   have MI:(results fn a1.tmps).run P w1=.ok (if h:us.toArray.size=1 then us.toArray[0]else .tuple us.toArray) w1:=by
    rw[CO,Array.mapM_eq_mapM_toList]
    simp only[Sem.run_bind,Sem.run_map,h1,Result.andThen_ok,Sem.run_pure]
   refine⟨hd,_,MI,eH avs,σ1.get,σ1.next,D1,ι1,_,rfl,hK,T,kP.Jb,kP.used,hle,?_⟩
   unfold eH
   split
   ·rename_i v
    have hl:us.length=1:=h2
    obtain⟨u,hu,vJ⟩:=h3 0 v rfl
    rw[dif_pos (by simpa using hl)]
    have:us.toArray[0]'(by simp[hl])=u:=by
     have:=(List.getElem?_eq_some_iff.1 hu).2
     simpa using this
    rw[this];exact vJ
   ·rename_i gM
    rw[dif_neg (by
     simp only[List.size_toArray,h2]
     intro h
     obtain⟨v,hv⟩:=List.length_eq_one_iff.1 h
     exact gM v hv)]
    exact .im _ _ (fun j=>us.getD j undef) (by simp[h2]) (fun j hj=>by
     have:j<us.length:=by rw[h2];exact hj
     simp[this]) (fun j v hj=>by
     obtain⟨u,hu,vJ⟩:=h3 j v hj
     simpa[List.getD_eq_getElem?_getD,hu]using vJ)
  cases ex with
  |normal=>exact fin hq
  |ret=>exact fin hq
  |exit id=>exact hq.elim
theorem He (hm:P.follows .mixedOrders=true) {f:Nat} {md:List (Nat×Nat)} {vf:yU} {args:List AV} {σ:ax} {K:AV->ax->Prop} (hf:vp P f md=some vf) (ha:vf.w6=args.length) (h:ej (Sound P) vf.body (lf vf.res K) (bZ args) σ):Sound P f args σ K:=by
 unfold vp at hf
 split at hf
 ·rename_i fn QQ
  split at hf
  ·rename_i c hc
   simp only[Option.bind_eq_bind,Option.bind_eq_some_iff]at hf
   obtain⟨vb,hb,vr,hr,hf⟩:=hf
   split at hf
   ·rename_i hle
    simp only[Option.pure_def,Option.some.injEq]at hf
    subst hf
    simp only at ha h
    exact BB QQ hc hr ha hle fun hs w D ι a Q' dL hQ=>BF hm c vb hb (lf vr K) (bZ args) σ a w D ι Q' h dL hQ
   ·simp at hf
  ·simp at hf
 ·simp at hf
def Ls (P:Program) (X:ft):ft:=fun f args σ K=>(∃md vf,vp P f md=some vf/\vf.w6=args.length/\((∀a∈args,eG a)->ej X vf.body (lf vf.res K) (bZ args) σ))∨Sound P f args σ K
def Call (P:Program):ft:=fun f args σ K=>∀X:ft,oH X->(∀f args σ K,Ls P X f args σ K->X f args σ K)->X f args σ K
theorem iA (hm:P.follows .mixedOrders=true) {f:Nat} {args:List AV} {σ:ax} {K:AV->ax->Prop} (h:Call P f args σ K):Sound P f args σ K:=
 h (Sound P) oW fun f args σ K hs=>by
  rcases hs with⟨md,vf,h1,h2,h3⟩|h
  ·intro hs D ι w vs S U A
   exact He hm h1 h2 (h3 (nF fun j a hj=>by obtain⟨u,_,hr⟩:=A.2 j a hj;exact hr.HM)) hs D ι w vs S U A
  ·exact h
end
end Go.Proofs.YtgoljkjaameagaaGreat.V

namespace Go.Proofs.YtgoljkjaameagaaGreat.V
open Go.RowKit
variable {P:Program} {X Y:ft}
theorem GA (h:∀f args σ K,X f args σ K->Y f args σ K) {f:Nat} {args:List AV} {σ:ax} {K:AV->Prop} (hp:fQ X f args σ K):fQ Y f args σ K:=by
 rcases hp with hp|⟨a,h1,h2⟩
 ·exact .inl (h _ _ _ _ hp)
 ·exact .inr ⟨a,h1,h _ _ _ _ h2⟩
theorem Je (h:∀f args σ K,X f args σ K->Y f args σ K) {f:Nat} {args:List AV} {σ:ax} {sz:Nat} {rows:List (List AV)} (hp:CM X f args σ sz rows):CM Y f args σ sz rows:=by
 obtain⟨h1,a,h2,h3⟩:=hp
 exact⟨h1,a,h2,h _ _ _ _ h3⟩
theorem o8 (h:∀f args σ K,X f args σ K->Y f args σ K) (hK:∀f args σ K K',(∀r σ',K r σ'->K' r σ')->Y f args σ K->Y f args σ K') {draw:Bool} {hid:List Nat} {site:Nat} {f:Nat} {args:List AV} {σ:ax} {n n':AV->ax->Prop} (hn:∀v σ',n v σ'->n' v σ') (hp:cu X draw hid site f args σ n):cu Y draw hid site f args σ n':=by
 rcases hp with⟨r,h1,h2⟩|⟨h1,h2⟩|⟨h1,sz,rows,h2,h3⟩
 ·exact .inl ⟨r,GA h h1,hn _ _ h2⟩
 ·exact .inr (.inl ⟨h1,hK _ _ _ _ _ hn (h _ _ _ _ h2)⟩)
 ·exact .inr (.inr ⟨h1,sz,rows,Je h h2,hn _ _ h3⟩)
theorem qJ (h:∀f args σ K,X f args σ K->Y f args σ K) (hK:∀f args σ K K',(∀r σ',K r σ'->K' r σ')->Y f args σ K->Y f args σ K') {draw:Bool} {o:bf} {env:Env} {σ:ax} {n n':AV->ax->Prop} (hn:∀v σ',n v σ'->n' v σ') (hp:fq X draw o env σ n):fq Y draw o env σ n':=by
 unfold fq at hp ⊢
 split at hp
 ·exact o8 h hK hn hp
 ·split at hp
  ·exact o8 h hK hn hp
  ·exact o8 h hK hn hp
  ·exact hp.elim
 ·split at hp
  ·exact hn _ _ hp
  ·exact hp.elim
 ·split at hp
  ·exact hn _ _ hp
  ·exact hp.elim
 ·split at hp
  ·exact hn _ _ hp
  ·exact hp.elim
 ·split at hp
  ·exact hn _ _ hp
  ·exact hp.elim
 ·split at hp
  ·exact hn _ _ hp
  ·exact hp.elim
 ·split at hp
  ·exact hn _ _ hp
  ·exact hn _ _ hp
  ·exact hp.elim
theorem mh (h:∀f args σ K,X f args σ K->Y f args σ K) (hK:∀f args σ K K',(∀r σ',K r σ'->K' r σ')->Y f args σ K->Y f args σ K') {draw:Bool} {Q Q':Env->ax->Prop} (hQ:∀e s,Q e s->Q' e s):∀(l:List bf) (env:Env) (σ:ax),wpOps X draw l Q env σ->wpOps Y draw l Q' env σ
 |[],env,σ,hp=>hQ _ _ hp
 |o::r,env,σ,hp=>by
  unfold wpOps at hp ⊢
  split at hp
  ·rename_i hw;rw[if_pos hw];exact qJ h hK (fun v σ'=>mh h hK hQ r _ _) hp
  ·rename_i hw;rw[if_neg hw];exact mh h hK hQ r _ _ hp
theorem me {Q Q':Env->ax->Prop} (hQ:∀e s,Q e s->Q' e s):∀(l:List bf) (env:Env) (σ:ax),ck l Q env σ->ck l Q' env σ
 |[],env,σ,hp=>hQ _ _ hp
 |o::r,env,σ,hp=>by
  unfold ck at hp ⊢
  refine⟨hp.1,?_⟩
  replace hp:=hp.2
  split at hp
  ·split at hp
   ·exact me hQ r _ _ hp
   ·exact hp.elim
  ·split at hp
   ·exact me hQ r _ _ hp
   ·exact hp.elim
  ·split at hp
   ·exact me hQ r _ _ hp
   ·exact hp.elim
theorem kI (h:∀f args σ K,X f args σ K->Y f args σ K) (hK:∀f args σ K K',(∀r σ',K r σ'->K' r σ')->Y f args σ K->Y f args σ K'):∀(c:VC) (Q Q':Ex->Env->ax->Prop) (env:Env) (σ:ax),(∀x e s,Q x e s->Q' x e s)->ej X c Q env σ->ej Y c Q' env σ:=by
 intro c
 induction c with
 |skip=>intro Q Q' env σ hQ hp;exact hQ _ _ _ hp
 |exit id=>intro Q Q' env σ hQ hp;exact hQ _ _ _ hp
 |ret=>intro Q Q' env σ hQ hp;exact hQ _ _ _ hp
 |one o c ih=>
  intro Q Q' env σ hQ hp
  unfold ej at hp ⊢
  split at hp
  ·rename_i hw;rw[if_pos hw];exact qJ h hK (fun v σ'=>ih Q Q' _ _ hQ) hp
  ·rename_i hw;rw[if_neg hw];exact ih Q Q' _ _ hQ hp
 |both a b iha ihb=>intro Q Q' env σ hQ hp;exact⟨iha Q Q' env σ hQ hp.1,ihb Q Q' env σ hQ hp.2⟩
 |loc t s y c ih=>intro Q Q' env σ hQ hp;exact⟨hp.1,ih Q Q' env σ hQ hp.2⟩
 |LW ops=>intro Q Q' env σ hQ hp;exact me (hQ .normal) ops env σ hp
 |eJ draw ops=>intro Q Q' env σ hQ hp;exact mh h hK (hQ .normal) ops env σ hp
 |seq a b iha ihb=>
  intro Q Q' env σ hQ hp
  refine iha _ _ env σ (fun x e s hx=>?_) hp
  cases x with
  |normal=>exact ihb Q Q' e s hQ hx
  |exit id=>exact hQ _ _ _ hx
  |ret=>exact hQ _ _ _ hx
 |cond c a b iha ihb=>
  intro Q Q' env σ hQ hp
  unfold ej at hp ⊢
  split at hp
  ·rename_i t ht
   cases t with
   |true=>exact iha Q Q' env σ hQ hp
   |false=>exact ihb Q Q' env σ hQ hp
  ·exact hp.elim
 |block id a iha=>
  intro Q Q' env σ hQ hp
  refine iha _ _ env σ (fun x e s hx=>?_) hp
  cases x with
  |normal=>exact hQ _ _ _ hx
  |ret=>exact hQ _ _ _ hx
  |exit kJ=>
   unfold aX at hx ⊢
   dsimp only at hx ⊢
   split at hx
   ·rename_i hid;rw[if_pos hid];exact hQ _ _ _ hx
   ·rename_i hid;rw[if_neg hid];exact hQ _ _ _ hx
 |loop a iha=>
  intro Q Q' env σ hQ hp
  obtain⟨n,hp⟩:=hp
  refine⟨n,?_⟩
  induction n generalizing env σ with
  |zero=>exact hp
  |succ n ihn=>
   refine iha _ _ env σ (fun x e s hx=>?_) hp
   cases x with
   |normal=>exact ihn e s hx
   |exit id=>exact hQ _ _ _ hx
   |ret=>exact hQ _ _ _ hx
theorem bL:oH (Call P):=fun _ _ _ _ _ hK h X hX hc=>hX _ _ _ _ _ hK (h X hX hc)
theorem vW {f:Nat} {args:List AV} {σ:ax} {K:AV->ax->Prop} (h:Ls P (Call P) f args σ K):Call P f args σ K:=by
 intro X hX hc
 refine hc _ _ _ _ ?_
 rcases h with⟨md,vf,h1,h2,h3⟩|h
 ·exact .inl ⟨md,vf,h1,h2,fun hl=>kI (fun f args σ K h=>h X hX hc) hX _ _ _ _ _ (fun _ _ _ h=>h) (h3 hl)⟩
 ·exact .inr h
theorem te {f:Nat} {md:List (Nat×Nat)} {args:List AV} {σ:ax} {K:AV->ax->Prop} {vf:yU} (hf:vp P f md=some vf) (ha:vf.w6=args.length) (h:(∀a∈args,eG a)->ej (Call P) vf.body (lf vf.res K) (bZ args) σ):Call P f args σ K:=
 vW (.inl ⟨md,vf,hf,ha,h⟩)
theorem lq {f:Nat} {args:List AV} {σ:ax} {K:AV->ax->Prop} {vf:yU} (hf:mU P f=some vf) (ha:vf.w6=args.length) (h:(∀a∈args,eG a)->ej (Call P) vf.body (lf vf.res K) (bZ args) σ):Call P f args σ K:=
 te hf ha h
theorem fR {f:Nat} {args:List AV} {σ:ax} {K:AV->ax->Prop} (h:Sound P f args σ K):Call P f args σ K:=vW (.inr h)
def lJ (P:Program) (f:Nat) (args:List AV) (r:AV):Prop:=∀σ,PC (Call P) f args σ (fun r'=>r'=r)
theorem lJ.body {f:Nat} {args:List AV} {r:AV} {nt na:Nat} {body:VC} {res:List ox} (hf:mU P f=some ⟨nt,na,body,res⟩) (ha:na=args.length) (h:(∀a∈args,eG a)->∀σ:ax,ej (Call P) body (lf res fun r0 σ'=>∃r',fz σ'.get 6 r0=some r'/\r'=r) (bZ args) ⟨V.ro σ.get,σ.next⟩):lJ P f args r:=fun σ=>lq hf ha fun hl=>h hl σ
variable {Q:Ex->Env->ax->Prop} {K:Env->ax->Prop} {env:Env} {σ:ax}
theorem AZ {a b:VC} (h:∀N:Env->ax->Prop,(∀e s,ej X b Q e s->N e s)->ej X a (dn N Q) env σ):ej X (.seq a b) Q env σ:=h _ fun _ _ h=>h
theorem yS (h:Q .normal env σ):ej X .skip Q env σ:=h
theorem yQ {id:Nat} (h:Q (.exit id) env σ):ej X (.exit id) Q env σ:=h
theorem Ep (h:Q .ret env σ):ej X .ret Q env σ:=h
theorem s9 {id:Nat} {c:VC} (h:ej X c (aX id Q) env σ):ej X (.block id c) Q env σ:=h
theorem Em {o:bf} {c:VC} (h:∀N:AV->ax->Prop,(∀v s,ej X c Q (upd env o.dst v) s->N v s)->if aH o.guard env then fq X false o env σ N else N .undef σ):ej X (.one o c) Q env σ:=by
 have:=h (fun v s=>ej X c Q (upd env o.dst v) s) fun _ _ h=>h
 unfold ej
 split
 ·rename_i hw;rw[if_pos hw]at this;exact this
 ·rename_i hw;rw[if_neg hw]at this;exact this
def ea (s n:Nat):AV->Prop
 | .own id 0 _=>id=⟨s,n⟩
 |_=>False
def ei (n:Nat):AV->Prop
 | .own id _ _=>¬id.bt=n
 |_=>True
theorem yR {t s:Nat} {y:O} {c:VC} (h1:ea s σ.next (env t)) (h2:ei σ.next (cV env y)) (h:ej X c Q env σ):ej X (.loc t s y c) Q env σ:=by
 refine⟨⟨?_,fun id o l he=>?_⟩,h⟩
 ·revert h1
  unfold ea
  split
  ·rename_i id l he;rintro rfl;exact⟨l,he⟩
  ·exact fun h=>h.elim
 ·rw[he]at h2;exact h2
theorem eU {a b:VC} (ha:ej X a Q env σ) (hb:ej X b Q env σ):ej X (.both a b) Q env σ:=⟨ha,hb⟩
theorem Eo {draw:Bool} {ops:List bf} (h:∀N:Env->ax->Prop,(∀e s,Q .normal e s->N e s)->wpOps X draw ops N env σ):ej X (.eJ draw ops) Q env σ:=h _ fun _ _ h=>h
theorem IM {ops:List bf} (h:ck ops (Q .normal) env σ):ej X (.LW ops) Q env σ:=h
theorem El {draw:Bool} (h:K env ⟨σ.get,σ.next+1⟩):wpOps X draw [] K env σ:=h
theorem Nu {draw:Bool} {o:bf} {r:List bf} (h:∀N:AV->ax->Prop,(∀v s,wpOps X draw r K (upd env o.dst v) s->N v s)->if aH o.guard env then fq X draw o env σ N else N .undef σ):wpOps X draw (o::r) K env σ:=by
 have:=h (fun v s=>wpOps X draw r K (upd env o.dst v) s) fun _ _ h=>h
 unfold wpOps
 split
 ·rename_i hw;rw[if_pos hw]at this;exact this
 ·rename_i hw;rw[if_neg hw]at this;exact this
theorem IP {c:O} {x y:VC} {b:Bool} (hc:cV env c=.bool b) (ht:b=true->ej X x Q env σ) (hf:b=false->ej X y Q env σ):ej X (.cond c x y) Q env σ:=by
 unfold ej
 simp only[hc]
 cases b with
 |true=>exact ht rfl
 |false=>exact hf rfl
inductive mW:AV->Prop->Prop->Prop
 |t {A B:Prop}:A->mW (.bool true) A B
 |f {A B:Prop}:B->mW (.bool false) A B
theorem ta {c:O} {x y:VC} {v:AV} (hv:cV env c=v) (h:mW v (ej X x Q env σ) (ej X y Q env σ)):ej X (.cond c x y) Q env σ:=by
 cases h with
 |t h=>exact IP hv (fun _=>h) (fun e=>by cases e)
 |f h=>exact IP hv (fun e=>by cases e) (fun _=>h)
theorem Nt {c:VC} (I:Nat->Env->ax->Prop) (n:Nat) (h0:I n env σ) (step:∀n env σ,I n env σ->ej X c (fun x e s=>match x with| .normal=>∃m,m<n/\I m e s|x=>Q x e s) env σ)
  (hX:∀(c:VC) (Q Q':Ex->Env->ax->Prop) env σ,(∀x e s,Q x e s->Q' x e s)->ej X c Q env σ->ej X c Q' env σ):ej X (.loop c) Q env σ:=by
 have key:∀N n env σ,n<N->I n env σ->D5 (ej X c) Q N env σ:=by
  intro N
  induction N with
  |zero=>intro n env σ h;exact absurd h (Nat.not_lt_zero _)
  |succ N ih=>
   intro n env σ hn hI
   refine hX c _ _ env σ (fun x e s hx=>?_) (step n env σ hI)
   cases x with
   |normal=>obtain⟨m,hm,hI'⟩:=hx;exact ih m e s (by omega) hI'
   |exit id=>exact hx
   |ret=>exact hx
 exact⟨n+1,key _ n env σ (Nat.lt_succ_self _) h0⟩
theorem KK {c:VC} (I:Nat->Env->ax->Prop) (n:Nat) (h0:I n env σ) (step:∀n env σ,I n env σ->ej (Call P) c (fun x e s=>match x with| .normal=>∃m,m<n/\I m e s|x=>Q x e s) env σ):ej (Call P) (.loop c) Q env σ:=
 Nt I n h0 step fun c Q Q' env σ hQ h=>kI (fun _ _ _ _ h=>h) bL c Q Q' env σ hQ h
def Dp:VC->List Nat
 | .eJ _ ops=>ops.filterMap (·.dst)
 | .seq a b=>Dp a++Dp b
 | .cond _ a b=>Dp a++Dp b
 | .block _ a=>Dp a
 | .loop a=>Dp a
 | .one o c=>o.dst.toList++Dp c
 | .both a b=>Dp a++Dp b
 | .loc _ _ _ c=>Dp c
 | .LW ops=>ops.filterMap (·.dst)
 |_=>[]
def kU (l:List Nat) (env ig:Env):Prop:=∀t,l.contains t=false->ig t=env t
theorem kU.refl (l:List Nat) (env:Env):kU l env env:=fun _ _=>rfl
theorem kU.upd {l:List Nat} {e e':Env} {d:Option Nat} {v:AV} (h:kU l e e') (hd:∀t,d=some t->t∈l):kU l e (upd e' d v):=fun t ht=>by
 cases d with
 |none=>exact h t ht
 |some d=>
  have:t≠d:=fun hc=>by subst hc;rw[<-Bool.not_eq_true,List.contains_iff_mem]at ht;exact ht (hd _ rfl)
  show(if t=d then v else e' t)=e t
  rw[if_neg this];exact h t ht
theorem nP {draw:Bool} {Q:Env->ax->Prop} {l:List Nat} {e0:Env}:∀(ops:List bf) (env:Env) (σ:ax),(∀t,t∈ops.filterMap (·.dst)->t∈l)->kU l e0 env->wpOps (Call P) draw ops Q env σ->wpOps (Call P) draw ops (fun e s=>Q e s/\kU l e0 e) env σ
 |[],env,σ,_,hk,hp=>⟨hp,hk⟩
 |o::r,env,σ,hl,hk,hp=>by
  have hd:∀t,o.dst=some t->t∈l:=fun t ht=>hl t (List.mem_filterMap.2 ⟨o,by simp,ht⟩)
  have hr:∀t,t∈r.filterMap (·.dst)->t∈l:=fun t ht=>hl t (by
   obtain⟨x,hx,h⟩:=List.mem_filterMap.1 ht
   exact List.mem_filterMap.2 ⟨x,List.mem_cons_of_mem _ hx,h⟩)
  unfold wpOps at hp ⊢
  split at hp
  ·rename_i hw;rw[if_pos hw]
   exact qJ (fun _ _ _ _ h=>h) bL (fun v σ' h=>nP r _ _ hr (hk.upd hd) h) hp
  ·rename_i hw;rw[if_neg hw];exact nP r _ _ hr (hk.upd hd) hp
theorem k8 {Q:Env->ax->Prop} {l:List Nat} {e0:Env}:∀(ops:List bf) (env:Env) (σ:ax),(∀t,t∈ops.filterMap (·.dst)->t∈l)->kU l e0 env->ck ops Q env σ->ck ops (fun e s=>Q e s/\kU l e0 e) env σ
 |[],env,σ,_,hk,hp=>⟨hp,hk⟩
 |o::r,env,σ,hl,hk,hp=>by
  have hd:∀t,o.dst=some t->t∈l:=fun t ht=>hl t (List.mem_filterMap.2 ⟨o,by simp,ht⟩)
  have hr:∀t,t∈r.filterMap (·.dst)->t∈l:=fun t ht=>hl t (by
   obtain⟨x,hx,h⟩:=List.mem_filterMap.1 ht
   exact List.mem_filterMap.2 ⟨x,List.mem_cons_of_mem _ hx,h⟩)
  unfold ck at hp ⊢
  refine⟨hp.1,?_⟩
  replace hp:=hp.2
  split at hp
  ·split at hp
   ·exact k8 r _ _ hr (hk.upd hd) hp
   ·exact hp.elim
  ·split at hp
   ·exact k8 r _ _ hr (hk.upd hd) hp
   ·exact hp.elim
  ·split at hp
   ·exact k8 r _ _ hr (hk.upd hd) hp
   ·exact hp.elim
theorem Ga {l:List Nat} {e0:Env}:∀(c:VC) (Q:Ex->Env->ax->Prop) (env:Env) (σ:ax),(∀t,t∈Dp c->t∈l)->kU l e0 env->ej (Call P) c Q env σ->ej (Call P) c (fun x e s=>Q x e s/\kU l e0 e) env σ:=by
 intro c
 induction c with
 |skip=>intro Q env σ _ hk hp;exact⟨hp,hk⟩
 |exit id=>intro Q env σ _ hk hp;exact⟨hp,hk⟩
 |ret=>intro Q env σ _ hk hp;exact⟨hp,hk⟩
 |one o c ih=>
  intro Q env σ hl hk hp
  have hd:∀t,o.dst=some t->t∈l:=fun t ht=>hl t (List.mem_append_left _ (by rw[ht];simp))
  have hr:∀t,t∈Dp c->t∈l:=fun t ht=>hl t (List.mem_append_right _ ht)
  unfold ej at hp ⊢
  split at hp
  ·rename_i hw;rw[if_pos hw]
   exact qJ (fun _ _ _ _ h=>h) bL (fun v σ' h=>ih Q _ _ hr (hk.upd hd) h) hp
  ·rename_i hw;rw[if_neg hw];exact ih Q _ _ hr (hk.upd hd) hp
 |both a b iha ihb=>
  intro Q env σ hl hk hp
  exact⟨iha Q env σ (fun t ht=>hl t (List.mem_append_left _ ht)) hk hp.1,ihb Q env σ (fun t ht=>hl t (List.mem_append_right _ ht)) hk hp.2⟩
 |loc t s y c ih=>intro Q env σ hl hk hp;exact⟨hp.1,ih Q env σ hl hk hp.2⟩
 |LW ops=>intro Q env σ hl hk hp;exact k8 ops env σ hl hk hp
 |eJ draw ops=>intro Q env σ hl hk hp;exact nP ops env σ hl hk hp
 |seq a b iha ihb=>
  intro Q env σ hl hk hp
  refine kI (fun _ _ _ _ h=>h) bL a _ _ env σ (fun x e s hx=>?_) (iha _ env σ (fun t ht=>hl t (List.mem_append_left _ ht)) hk hp)
  cases x with
  |normal=>exact ihb Q e s (fun t ht=>hl t (List.mem_append_right _ ht)) hx.2 hx.1
  |exit id=>exact hx
  |ret=>exact hx
 |cond c a b iha ihb=>
  intro Q env σ hl hk hp
  unfold ej at hp ⊢
  split at hp
  ·rename_i t ht
   cases t with
   |true=>exact iha Q env σ (fun t ht=>hl t (List.mem_append_left _ ht)) hk hp
   |false=>exact ihb Q env σ (fun t ht=>hl t (List.mem_append_right _ ht)) hk hp
  ·exact hp.elim
 |block id a iha=>
  intro Q env σ hl hk hp
  refine kI (fun _ _ _ _ h=>h) bL a _ _ env σ (fun x e s hx=>?_) (iha _ env σ hl hk hp)
  obtain⟨hx,Ht⟩:=hx
  cases x with
  |normal=>exact⟨hx,Ht⟩
  |ret=>exact⟨hx,Ht⟩
  |exit kJ=>
   unfold aX at hx ⊢
   dsimp only at hx ⊢
   split at hx
   ·rename_i hid;rw[if_pos hid];exact⟨hx,Ht⟩
   ·rename_i hid;rw[if_neg hid];exact⟨hx,Ht⟩
 |loop a iha=>
  intro Q env σ hl hk hp
  obtain⟨n,hp⟩:=hp
  refine⟨n,?_⟩
  induction n generalizing env σ with
  |zero=>exact hp
  |succ n ihn=>
   refine kI (fun _ _ _ _ h=>h) bL _ _ _ _ _ (fun x e s hx=>?_) (iha _ env σ hl hk hp)
   obtain⟨hx,Ht⟩:=hx
   cases x with
   |normal=>exact ihn e s Ht hx
   |exit id=>exact⟨hx,Ht⟩
   |ret=>exact⟨hx,Ht⟩
theorem aM {c:VC} (I:Nat->Env->ax->Prop) (n:Nat) (h0:I n env σ) (step:∀n e s,I n e s->kU (Dp c) env e->ej (Call P) c (fun x e s=>match x with| .normal=>∃m,m<n/\I m e s|x=>Q x e s) e s):ej (Call P) (.loop c) Q env σ:=by
 refine KK (fun n e s=>I n e s/\kU (Dp c) env e) n ⟨h0,kU.refl _ _⟩ fun n e s hI=>?_
 refine kI (fun _ _ _ _ h=>h) bL _ _ _ _ _ (fun x e' s' hx=>?_) (Ga c _ e s (fun _ h=>h) hI.2 (step n e s hI.1 hI.2))
 obtain⟨hx,hk⟩:=hx
 cases x with
 |normal=>obtain⟨m,hm,h⟩:=hx;exact⟨m,hm,h,hk⟩
 |exit id=>exact hx
 |ret=>exact hx
theorem IS {k:Nat} (h:k<=9223372036854775807):IntKind.i64.wrap (k:Int)=k:=by rw[IntKind.wrap_i64];omega
theorem bz {z:Int} (h: -9223372036854775808<=z/\z<=9223372036854775807):IntKind.i64.wrap z=z:=by rw[IntKind.wrap_i64];omega
theorem aB {k:Nat} (h:(k:Int)+1<=9223372036854775807):IntKind.i64.wrap ((k:Int)+1)=((k+1:Nat):Int):=by rw[IntKind.wrap_i64];omega
theorem all_succ {k:Nat} {p:Nat->Prop} (h:∀j,j<k->p j) (hk:p k):∀j,j<k+1->p j:=fun j hj=>by
 by_cases wK:j=k
 ·subst wK;exact hk
 ·exact h j (by omega)
theorem aK (g:Rows) (n:Nat) (k:IntKind) (m:Int):fz g (n+1) (.int k m)=some (.int k m):=by rw[fz]<;>intros<;>simp_all
theorem aV (g:Rows) (n:Nat) (b:Bool):fz g (n+1) (.bool b)=some (.bool b):=by rw[fz]<;>intros<;>simp_all
theorem bp (g:Rows) (n:Nat) (b:ByteArray):fz g (n+1) (.str b)=some (.str b):=by rw[fz]<;>intros<;>simp_all
theorem bW (g:Rows) (n:Nat) (l:List (List AV)):fz g (n+1) (.sl l)=some (.sl l):=by rw[fz]<;>intros<;>simp_all
theorem aQ (g:Rows) (n:Nat):fz g (n+1) .cq=some .cq:=by rw[fz]<;>intros<;>simp_all
theorem P7 {t:Nat} {r r0:AV} {x:Ex} (hx:x=.ret∨x=.normal) (he:env t=r0) (hz:fz σ.get 6 r0=some r):lf [.tmp t] (fun r0 σ'=>∃r',fz σ'.get 6 r0=some r'/\r'=r) x env σ:=by
 have:∃vs,e6 env σ.get [.tmp t]=some vs/\∃r',fz σ.get 6 (eH vs)=some r'/\r'=r:=⟨[env t],rfl,r,by subst he;exact hz,rfl⟩
 rcases hx with rfl|rfl
 ·exact this
 ·exact this
def aq (P:Program) (f:Nat) (args:List AV) (r:AV):Prop:=∀n:Nat,Call P f args ⟨fun _=>none,n⟩ fun r0 σ'=>∃r',fV σ'.get 6 r0=some r'/\r'=r
theorem aq.body {f:Nat} {args:List AV} {r:AV} {nt na:Nat} {body:VC} {res:List ox} (hf:mU P f=some ⟨nt,na,body,res⟩) (ha:na=args.length) (h:(∀a∈args,eG a)->∀n:Nat,ej (Call P) body (lf res fun r0 σ'=>∃r',fV σ'.get 6 r0=some r'/\r'=r) (bZ args) ⟨fun _=>none,n⟩):aq P f args r:=fun n=>lq hf ha fun hl=>h hl n
theorem aq.x {f:Nat} {args gj:List AV} {r:AV} (h:aq P f gj r) {σ:ax} (hv:dj (eo σ.get) 6 args=some gj):fQ (Call P) f args σ (fun r'=>r'=r):=.inr ⟨gj,hv,h _⟩
theorem lJ.x {f:Nat} {args:List AV} {r:AV} (h:lJ P f args r) (σ:ax):fQ (Call P) f args σ (fun r'=>r'=r):=.inl (h σ)
theorem dr (g:Rows) (n:Nat) (k:IntKind) (m:Int):fV g (n+1) (.int k m)=some (.int k m):=by rw[fV]<;>intros<;>simp_all
theorem fB (g:Rows) (n:Nat) (b:Bool):fV g (n+1) (.bool b)=some (.bool b):=by rw[fV]<;>intros<;>simp_all
theorem kf (g:Rows) (n:Nat):fV g (n+1) .cq=some .cq:=by rw[fV]<;>intros<;>simp_all
theorem dZ (g:Rows) (n:Nat) (l:List AV):fV g (n+1) (.im l)=(ep g n l).map AV.im:=by rw[fV]
theorem jx (g:Rows) (n:Nat) (l:List AV):fV g (n+1) (.agg l)=(ep g n l).map AV.agg:=by rw[fV]
theorem sS {g:Rows} {n:Nat} {id:Id} {off len sz:Nat} {rows rows':List (List AV)} (h:g id=some ⟨true,sz,rows⟩) (hl:off+len<=rows.length) (hr:gL g n ((rows.drop off).take len)=some rows'):fV g (n+1) (.own id off len)=some (.sl rows'):=by
 rw[fV];simp only[h,if_true,if_pos hl,hr,Option.map_some]
theorem bm (g:Rows) (n:Nat):ep g n []=some []:=by rw[ep]
theorem aS (g:Rows) (n:Nat) (a:AV) (l:List AV):ep g n (a::l)=match fV g n a with
  |some b=>(ep g n l).map (b::·)
  |none=>none:=by rw[ep];cases fV g n a<;>rfl
theorem r4 {g:Rows} {n:Nat}:∀{l:List (List AV)},(∀c∈l,ep g n c=some c)->gL g n l=some l
 |[],_=>by rw[gL]
 |c::r,h=>by rw[gL,h c (by simp),r4 fun d hd=>h d (List.mem_cons_of_mem _ hd)];rfl
theorem aZ (g:Rows) (n:Nat) (l:List AV):fz g (n+1) (.agg l)=(dj g n l).map AV.agg:=by rw[fz]
theorem aN (g:Rows) (n:Nat) (l:List AV):fz g (n+1) (.dd l)=some (.dd l):=by rw[fz]<;>intros<;>simp_all
theorem xI {g:Rows} {n:Nat} {id:Id} {i off sz:Nat} {rows:List (List AV)} {cs oL:List AV} (h:g id=some ⟨true,sz,rows⟩) (hi:rows[i]? =some cs) (hr:dj g n (cs.drop off)=some oL):fz g (n+1) (.ptr id i off)=some (.dd oL):=by
 rw[fz];simp only[h,if_true,hi,hr,Option.map_some]
theorem ar (g:Rows) (n:Nat):dj g n []=some []:=by rw[dj]
theorem aj (g:Rows) (n:Nat) (a:AV) (l:List AV):dj g n (a::l)=match fz g n a with
  |some b=>(dj g n l).map (b::·)
  |none=>none:=by rw[dj];cases fz g n a<;>rfl
theorem uH {t:Nat} {r r0:AV} {x:Ex} (hx:x=.ret∨x=.normal) (he:env t=r0) (hz:fV σ.get 6 r0=some r):lf [.tmp t] (fun r0 σ'=>∃r',fV σ'.get 6 r0=some r'/\r'=r) x env σ:=by
 have:∃vs,e6 env σ.get [.tmp t]=some vs/\∃r',fV σ.get 6 (eH vs)=some r'/\r'=r:=⟨[env t],rfl,r,by subst he;exact hz,rfl⟩
 rcases hx with rfl|rfl
 ·exact this
 ·exact this
theorem aL {t:Nat} {b c:Bool} {x:Ex} (hx:x=.ret∨x=.normal) (he:env t=.bool b) (hb:b=c):lf [.tmp t] (fun r0 σ'=>∃r',fV σ'.get 6 r0=some r'/\r'=.bool c) x env σ:=uH hx he (by rw[fB,hb])
theorem bU {t:Nat} {k:IntKind} {b c:Int} {x:Ex} (hx:x=.ret∨x=.normal) (he:env t=.int k b) (hb:b=c):lf [.tmp t] (fun r0 σ'=>∃r',fV σ'.get 6 r0=some r'/\r'=.int k c) x env σ:=uH hx he (by rw[dr,hb])
theorem jc {t u:Nat} {r r1 r2:AV} {x:Ex} (hx:x=.ret∨x=.normal) (h1:env t=r1) (h2:env u=r2) (hz:fV σ.get 6 (.im [r1,r2])=some r):lf [.tmp t,.tmp u] (fun r0 σ'=>∃r',fV σ'.get 6 r0=some r'/\r'=r) x env σ:=by
 have:∃vs,e6 env σ.get [.tmp t,.tmp u]=some vs/\∃r',fV σ.get 6 (eH vs)=some r'/\r'=r:=⟨[env t,env u],rfl,r,by subst h1;subst h2;exact hz,rfl⟩
 rcases hx with rfl|rfl
 ·exact this
 ·exact this
structure Pn (p:Prop):Prop where
 out:p
theorem tw {A B:Prop} (a:A) (b:B):A/\B:=⟨a,b⟩
theorem wk {A R G:Prop} (a:A) (r:R) (h:A->R->G:=by
  intro fL kk
  (repeat(refine Pn.mk ?_;intro N hN))
  (first|((first|apply AZ|apply Eo);intro N hN)|((first|(apply Nu;intro N hN)|(apply Em;intro N hN));simp only[go_sem, ↓reduceIte,Nat.reduceEqDiff,Nat.reduceAdd,Nat.reduceSub,Nat.reduceMul,Nat.reduceLeDiff,Nat.reduceBEq,reduceCtorEq,Nat.reduceLT,Int.reduceLE,Int.reduceLT,Int.reduceToNat,Int.reduceNeg,Int.reduceAdd,Int.reduceEq,fL];first|(refine hN _ _ ?_;clear hN N)|skip)|(apply ta;(simp only[go_sem, ↓reduceIte,Nat.reduceEqDiff,Nat.reduceAdd,Nat.reduceSub,Nat.reduceMul,Nat.reduceLeDiff,Nat.reduceBEq,reduceCtorEq,Nat.reduceLT,Int.reduceLE,Int.reduceLT,Int.reduceToNat,Int.reduceNeg,Int.reduceAdd,Int.reduceEq,fL];rfl);first|with_reducible apply mW.t|with_reducible apply mW.f)|(apply El;refine hN _ _ ?_;clear hN N;try(simp only[dn,aX, ↓reduceIte,Nat.reduceEqDiff]);try(refine hN _ _ ?_;clear hN N))|apply s9|(refine yR ?_ ?_ ?_;(focus(simp only[go_sem, ↓reduceIte,Nat.reduceEqDiff,Nat.reduceAdd,Nat.reduceSub,Nat.reduceMul,Nat.reduceLeDiff,Nat.reduceBEq,reduceCtorEq,Nat.reduceLT,Int.reduceLE,Int.reduceLT,Int.reduceToNat,Int.reduceNeg,Int.reduceAdd,Int.reduceEq,fL];done));(focus(simp only[go_sem, ↓reduceIte,Nat.reduceEqDiff,Nat.reduceAdd,Nat.reduceSub,Nat.reduceMul,Nat.reduceLeDiff,Nat.reduceBEq,reduceCtorEq,Nat.reduceLT,Int.reduceLE,Int.reduceLT,Int.reduceToNat,Int.reduceNeg,Int.reduceAdd,Int.reduceEq,fL];done)))|((first|apply yS|apply yQ|apply Ep);try(simp only[dn,aX, ↓reduceIte,Nat.reduceEqDiff]);try(refine hN _ _ ?_;clear hN N))|((first|refine hN _ _ ?_|(clear hN N;first|refine hN _ _ ?_|(clear hN N;first|refine hN _ _ ?_|(clear hN N;first|refine hN _ _ ?_|(clear hN N;refine hN _ _ ?_)))));clear hN N))
  (repeat(first|((first|apply AZ|apply Eo);intro N hN)|((first|(apply Nu;intro N hN)|(apply Em;intro N hN));simp only[go_sem, ↓reduceIte,Nat.reduceEqDiff,Nat.reduceAdd,Nat.reduceSub,Nat.reduceMul,Nat.reduceLeDiff,Nat.reduceBEq,reduceCtorEq,Nat.reduceLT,Int.reduceLE,Int.reduceLT,Int.reduceToNat,Int.reduceNeg,Int.reduceAdd,Int.reduceEq,fL];first|(refine hN _ _ ?_;clear hN N)|skip)|(apply ta;(simp only[go_sem, ↓reduceIte,Nat.reduceEqDiff,Nat.reduceAdd,Nat.reduceSub,Nat.reduceMul,Nat.reduceLeDiff,Nat.reduceBEq,reduceCtorEq,Nat.reduceLT,Int.reduceLE,Int.reduceLT,Int.reduceToNat,Int.reduceNeg,Int.reduceAdd,Int.reduceEq,fL];rfl);first|with_reducible apply mW.t|with_reducible apply mW.f)|(apply El;refine hN _ _ ?_;clear hN N;try(simp only[dn,aX, ↓reduceIte,Nat.reduceEqDiff]);try(refine hN _ _ ?_;clear hN N))|apply s9|(refine yR ?_ ?_ ?_;(focus(simp only[go_sem, ↓reduceIte,Nat.reduceEqDiff,Nat.reduceAdd,Nat.reduceSub,Nat.reduceMul,Nat.reduceLeDiff,Nat.reduceBEq,reduceCtorEq,Nat.reduceLT,Int.reduceLE,Int.reduceLT,Int.reduceToNat,Int.reduceNeg,Int.reduceAdd,Int.reduceEq,fL];done));(focus(simp only[go_sem, ↓reduceIte,Nat.reduceEqDiff,Nat.reduceAdd,Nat.reduceSub,Nat.reduceMul,Nat.reduceLeDiff,Nat.reduceBEq,reduceCtorEq,Nat.reduceLT,Int.reduceLE,Int.reduceLT,Int.reduceToNat,Int.reduceNeg,Int.reduceAdd,Int.reduceEq,fL];done)))|((first|apply yS|apply yQ|apply Ep);try(simp only[dn,aX, ↓reduceIte,Nat.reduceEqDiff]);try(refine hN _ _ ?_;clear hN N))|((first|refine hN _ _ ?_|(clear hN N;first|refine hN _ _ ?_|(clear hN N;first|refine hN _ _ ?_|(clear hN N;first|refine hN _ _ ?_|(clear hN N;refine hN _ _ ?_)))));clear hN N)))
  (repeat(revert hN;revert N;apply Pn.out))
  exact kk):G:=h a r
theorem wa {A R G:Prop} (a:A) (r:R) (h:A->R->G:=by
  intro fL kk
  (repeat(refine Pn.mk ?_;intro N hN))
  (first|((first|apply AZ|apply Eo);intro N hN)|((first|(refine Lv rfl fun N hN=>?_)|(apply Em;intro N hN));simp only[go_sem, ↓reduceIte,Nat.reduceEqDiff,Nat.reduceAdd,Nat.reduceSub,Nat.reduceMul,Nat.reduceLeDiff,Nat.reduceBEq,reduceCtorEq,Nat.reduceLT,Int.reduceLE,Int.reduceLT,Int.reduceToNat,Int.reduceNeg,Int.reduceAdd,Int.reduceEq,fL];first|(refine hN _ _ ?_;clear hN N)|skip)|(apply ta;(simp only[go_sem, ↓reduceIte,Nat.reduceEqDiff,Nat.reduceAdd,Nat.reduceSub,Nat.reduceMul,Nat.reduceLeDiff,Nat.reduceBEq,reduceCtorEq,Nat.reduceLT,Int.reduceLE,Int.reduceLT,Int.reduceToNat,Int.reduceNeg,Int.reduceAdd,Int.reduceEq,fL];rfl);first|with_reducible apply mW.t|with_reducible apply mW.f)|(apply El;refine hN _ _ ?_;clear hN N;try(simp only[dn,aX, ↓reduceIte,Nat.reduceEqDiff]);try(refine hN _ _ ?_;clear hN N))|apply s9|(refine yR ?_ ?_ ?_;(focus(simp only[go_sem, ↓reduceIte,Nat.reduceEqDiff,Nat.reduceAdd,Nat.reduceSub,Nat.reduceMul,Nat.reduceLeDiff,Nat.reduceBEq,reduceCtorEq,Nat.reduceLT,Int.reduceLE,Int.reduceLT,Int.reduceToNat,Int.reduceNeg,Int.reduceAdd,Int.reduceEq,fL];done));(focus(simp only[go_sem, ↓reduceIte,Nat.reduceEqDiff,Nat.reduceAdd,Nat.reduceSub,Nat.reduceMul,Nat.reduceLeDiff,Nat.reduceBEq,reduceCtorEq,Nat.reduceLT,Int.reduceLE,Int.reduceLT,Int.reduceToNat,Int.reduceNeg,Int.reduceAdd,Int.reduceEq,fL];done)))|((first|apply yS|apply yQ|apply Ep);try(simp only[dn,aX, ↓reduceIte,Nat.reduceEqDiff]);try(refine hN _ _ ?_;clear hN N))|((first|refine hN _ _ ?_|(clear hN N;first|refine hN _ _ ?_|(clear hN N;first|refine hN _ _ ?_|(clear hN N;first|refine hN _ _ ?_|(clear hN N;refine hN _ _ ?_)))));clear hN N))
  (repeat(first|((first|apply AZ|apply Eo);intro N hN)|((first|(refine Lv rfl fun N hN=>?_)|(apply Em;intro N hN));simp only[go_sem, ↓reduceIte,Nat.reduceEqDiff,Nat.reduceAdd,Nat.reduceSub,Nat.reduceMul,Nat.reduceLeDiff,Nat.reduceBEq,reduceCtorEq,Nat.reduceLT,Int.reduceLE,Int.reduceLT,Int.reduceToNat,Int.reduceNeg,Int.reduceAdd,Int.reduceEq,fL];first|(refine hN _ _ ?_;clear hN N)|skip)|(apply ta;(simp only[go_sem, ↓reduceIte,Nat.reduceEqDiff,Nat.reduceAdd,Nat.reduceSub,Nat.reduceMul,Nat.reduceLeDiff,Nat.reduceBEq,reduceCtorEq,Nat.reduceLT,Int.reduceLE,Int.reduceLT,Int.reduceToNat,Int.reduceNeg,Int.reduceAdd,Int.reduceEq,fL];rfl);first|with_reducible apply mW.t|with_reducible apply mW.f)|(apply El;refine hN _ _ ?_;clear hN N;try(simp only[dn,aX, ↓reduceIte,Nat.reduceEqDiff]);try(refine hN _ _ ?_;clear hN N))|apply s9|(refine yR ?_ ?_ ?_;(focus(simp only[go_sem, ↓reduceIte,Nat.reduceEqDiff,Nat.reduceAdd,Nat.reduceSub,Nat.reduceMul,Nat.reduceLeDiff,Nat.reduceBEq,reduceCtorEq,Nat.reduceLT,Int.reduceLE,Int.reduceLT,Int.reduceToNat,Int.reduceNeg,Int.reduceAdd,Int.reduceEq,fL];done));(focus(simp only[go_sem, ↓reduceIte,Nat.reduceEqDiff,Nat.reduceAdd,Nat.reduceSub,Nat.reduceMul,Nat.reduceLeDiff,Nat.reduceBEq,reduceCtorEq,Nat.reduceLT,Int.reduceLE,Int.reduceLT,Int.reduceToNat,Int.reduceNeg,Int.reduceAdd,Int.reduceEq,fL];done)))|((first|apply yS|apply yQ|apply Ep);try(simp only[dn,aX, ↓reduceIte,Nat.reduceEqDiff]);try(refine hN _ _ ?_;clear hN N))|((first|refine hN _ _ ?_|(clear hN N;first|refine hN _ _ ?_|(clear hN N;first|refine hN _ _ ?_|(clear hN N;first|refine hN _ _ ?_|(clear hN N;refine hN _ _ ?_)))));clear hN N)))
  (repeat(revert hN;revert N;apply Pn.out))
  exact kk):G:=h a r
theorem sd {A G:Prop} (a:A) (h:A->G:=by
  intro fL
  first|(simp only[go_sem, ↓reduceIte,Nat.reduceEqDiff,Nat.reduceAdd,Nat.reduceSub,Nat.reduceMul,Nat.reduceLeDiff,Nat.reduceBEq,reduceCtorEq,Nat.reduceLT,Int.reduceLE,Int.reduceLT,Int.reduceToNat,Int.reduceNeg,Int.reduceAdd,Int.reduceEq,fL,e6,gS];done)|fail):G:=h a
theorem sl {A G:Prop} (a:A) (h:A->G:=by
  intro fL
  (try simp only[go_sem, ↓reduceIte,Nat.reduceEqDiff,Nat.reduceAdd,Nat.reduceSub,Nat.reduceMul,Nat.reduceLeDiff,Nat.reduceBEq,reduceCtorEq,Nat.reduceLT,Int.reduceLE,Int.reduceLT,Int.reduceToNat,Int.reduceNeg,Int.reduceAdd,Int.reduceEq,fL])
  try rfl):G:=h a
end Go.Proofs.YtgoljkjaameagaaGreat.V

namespace Go.Proofs.YtgoljkjaameagaaGreat
open Go.RowKit
def Sl (w:World) (fp:List Nat) (v:Value) (n:Nat) (xs:List Value):Prop:=
 ∃A c,v=.slice A n c/\n<=c/\c<=maxLen/\
  ((fp=[]/\n=0)∨∃b o,fp=[b]/\A=some ⟨b,o,none⟩/\∀j u,xs[j]? =some u->w.cell? ⟨b,o+j,none⟩=some u)
def fh (fp:List Nat) (lo hi:Nat):Prop:=∀b∈fp,lo<=b/\b<hi
theorem fh.nil (lo hi:Nat):fh [] lo hi:=fun _ h=>by cases h
theorem Sl.nil (w:World):Sl w [] (.slice none 0 0) 0 []:=⟨none,0,rfl,Nat.le_refl _,by simp[maxLen],.inl ⟨rfl,rfl⟩⟩
def LB {α:Type} (rep:World->List Nat->List Value->α->Prop) (sz:Nat) (w:World) (nq:List (List Value)) (DG:List (List Nat)) (ds:List α):Prop:=
 nq.length=ds.length/\DG.length=ds.length/\∀(i:Nat) (cs:List Value) (f:List Nat) (d:α),nq[i]? =some cs->DG[i]? =some f->ds[i]? =some d->rep w f cs d/\cs.length=sz
def lP {α:Type} (rep:World->List Nat->List Value->α->Prop) (sz:Nat) (w:World) (fp:List Nat) (v:Value) (ds:List α):Prop:=
 ∃nq DG RJ,fp=RJ++DG.flatten/\Sl w RJ v ds.length nq.flatten/\LB rep sz w nq DG ds
theorem pA {α:Type} {DG:List (List α)} {i:Nat} {f:List α} (h:DG[i]? =some f):∀b∈f,b∈DG.flatten:=fun b hb=>
 List.mem_flatten.2 ⟨f,List.mem_of_getElem? h,hb⟩
theorem rZ {α:Type} {nq:List (List α)} {sz:Nat} (h:∀cs∈nq,cs.length=sz) {i j:Nat} {cs:List α} (hi:nq[i]? =some cs) (hj:j<sz):nq.flatten[i*sz+j]? =cs[j]? :=by
 induction nq generalizing i with
 |nil=>simp at hi
 |cons c r ih=>
  have hc:c.length=sz:=h c (by simp)
  cases i with
  |zero=>
   simp at hi;subst hi
   rw[List.flatten_cons,List.getElem?_append_left (by omega)];simp
  |succ i=>
   rw[List.flatten_cons,List.getElem?_append_right (by rw[hc,Nat.succ_mul];omega)]
   have:(i+1)*sz+j-c.length=i*sz+j:=by rw[hc,Nat.succ_mul];omega
   rw[this]
   exact ih (fun cs dp=>h cs (List.mem_cons_of_mem _ dp)) (by simpa using hi)
theorem LB.lens {α:Type} {rep:World->List Nat->List Value->α->Prop} {sz:Nat} {w:World} {nq:List (List Value)} {DG:List (List Nat)} {ds:List α}
  (h:LB rep sz w nq DG ds):∀cs∈nq,cs.length=sz:=fun cs dp=>by
 obtain⟨i,hi,rfl⟩:=List.getElem_of_mem dp
 have h1:i<DG.length:=by rw[h.2.1,<-h.1];exact hi
 have h2:i<ds.length:=by rw[<-h.1];exact hi
 exact(h.2.2 i _ _ _ (List.getElem?_eq_getElem hi) (List.getElem?_eq_getElem h1) (List.getElem?_eq_getElem h2)).2
theorem lP.at_ {α:Type} {rep:World->List Nat->List Value->α->Prop} {sz:Nat} {w:World} {fp:List Nat} {A:Option Addr} {n c:Nat} {ds:List α}
  (h:lP rep sz w fp (.slice A n c) ds) (k:Nat) (hk:k<ds.length):
  ∃b o cs f,A=some ⟨b,o,none⟩/\b∈fp/\(∀x∈f,x∈fp)/\rep w f cs ds[k]/\cs.length=sz/\∀j u,cs[j]? =some u->w.cell? ⟨b,o+(k*sz+j),none⟩=some u:=by
 obtain⟨nq,DG,RJ,rfl,⟨A',c',hv,_,_,hc⟩,hr⟩:=h
 simp only[Value.slice.injEq]at hv
 obtain⟨rfl,hn,rfl⟩:=hv
 rcases hc with⟨_,h0⟩|⟨b,o,rfl,rfl,hc⟩
 ·omega
 have h1:k<nq.length:=by rw[hr.1];exact hk
 have h2:k<DG.length:=by rw[hr.2.1];exact hk
 obtain⟨gK,hl⟩:=hr.2.2 k _ _ _ (List.getElem?_eq_getElem h1) (List.getElem?_eq_getElem h2) (List.getElem?_eq_getElem hk)
 refine⟨b,o,nq[k],DG[k],rfl,by simp,fun x hx=>List.mem_append_right _ (pA (List.getElem?_eq_getElem h2) x hx),gK,hl,fun j u hj=>?_⟩
 have gq:j<sz:=by rw[<-hl];exact(List.getElem?_eq_some_iff.1 hj).1
 exact hc _ u (by rw[rZ hr.lens (List.getElem?_eq_getElem h1) gq];exact hj)
theorem lP.len {α:Type} {rep:World->List Nat->List Value->α->Prop} {sz:Nat} {w:World} {fp:List Nat} {v:Value} {ds:List α}
  (h:lP rep sz w fp v ds):∃A c,v=.slice A ds.length c/\ds.length<=c/\c<=maxLen:=by
 obtain⟨_,_,_,_,⟨A,c,hv,h1,h2,_⟩,_⟩:=h
 exact⟨A,c,hv,h1,h2⟩
theorem lP.nil {α:Type} (rep:World->List Nat->List Value->α->Prop) (sz:Nat) (w:World):lP rep sz w [] (.slice none 0 0) ([]:List α):=
 ⟨[],[],[],rfl,Sl.nil w,rfl,rfl,fun i cs f d hc=>by simp at hc⟩
def Flat {α:Type} (enc:α->List Value):World->List Nat->List Value->α->Prop:=fun _ f cs d=>f=[]/\cs=enc d
def Q (w w':World):Prop:=∃q,w'=w.drewN q
theorem Oy {B:Nat} {a w:World} (h:Below B a w) (n:Nat):Below B a (w.drewN n):=⟨h.os,h.tape,h.output,h.size,h.block⟩
theorem ia {a b:Bool} (h:a=b):Ending.returned (.bool a)=.returned (.bool b):=by rw[h]
theorem Ec {k:IntKind} {a b:Int} (h:a=b):Ending.returned (.int k a)=.returned (.int k b):=by rw[h]
def Unf (w:World) (b:Nat):Prop:=∃cs e,w.heap[b]? =some (.cells cs e (0,0))
def putCells (w:World) (g:Nat):Nat->List Value->World
 |_,[]=>w
 |i,v::r=>putCells (w.setCell ⟨g,i,none⟩ v) g (i+1) r
structure Only (fp:List Nat) (w w':World):Prop where
 os:w'.os=w.os
 tape:w'.tape=w.tape
 output:w'.output=w.output
 size:w.heap.size<=w'.heap.size
 block:∀x,x<w.heap.size->x∉fp->w'.heap[x]? =w.heap[x]?
 unf:∀x,Unf w x->Unf w' x
structure ah where
 eI:Int
 eB:Int
deriving DecidableEq
structure ad where
 bH:ah
 bq:Int
deriving DecidableEq
structure e7 where
 ae:List ad
deriving DecidableEq
structure gI where
 aE:ByteArray
 ez:Int
deriving DecidableEq
structure e8 where
 aE:ByteArray
 bY:List Int
deriving DecidableEq
structure au where
 aC:List gI
 ae:List e8
deriving DecidableEq
structure aG where
 az:au
 cr:e7
 aw:Int
deriving DecidableEq
def ER (d:Int):List Value:=[.int .i64 d]
def Dm:=Flat ER
def fy (d:ah):List Value:=[.int .i64 d.eI,.int .i64 d.eB]
def BI (d:ad):List Value:=[.int .i64 d.bH.eI,.int .i64 d.bH.eB,.int .i64 d.bq]
def zb:=Flat BI
def iG:=lP zb 3
def G3 (d:gI):List Value:=[.string d.aE,.int .i64 d.ez]
def GB:=Flat G3
def pO:=lP GB 2
def pP:=lP Dm 1
def GC (w:World) (f:List Nat) (cs:List Value) (d:e8):Prop:=
 ∃v1 f1,f=f1/\cs=[.string d.aE,v1]/\pP w f1 v1 d.bY
def pQ:=lP GC 2
end Go.Proofs.YtgoljkjaameagaaGreat

namespace Go.Proofs.YtgoljkjaameagaaGreat.V
open Go.RowKit
variable {P:Program} {w:World} {D:Nat->Prop}
def Gt (P:Program) (w:World) (D:Nat->Prop) (al:List AV) (cs:List Value):Prop:=∀(j:Nat) (a:AV),al[j]? =some a->∃u:Value,cs[j]? =some u/\jC P w D a u
theorem qy {α:Type} {rep:World->List Nat->List Value->α->Prop} {e:α->List AV} {sz:Nat} {f:List Nat} {v:Value} {xs:List α} (h:lP rep sz w f v xs) (hD:∀b∈f,D b)
  (hl:∀x∈xs,(e x).length=sz) (hc:∀x∈xs,∀a∈e x,a.cell=true) (hr:∀x∈xs,∀f' cs,rep w f' cs x->(∀b∈f',D b)->Gt P w D (e x) cs):jC P w D (.sl (xs.map e)) v:=by
 obtain⟨A,c,rfl,h1,h2⟩:=lP.len h
 by_cases h0:xs=[]
 ·subst h0;exact .FP _ _ h2
 have kO:0<xs.length:=List.length_pos_iff.2 h0
 obtain⟨b,o,NR,f0,rfl,hb,QP,SX,JF,jk⟩:=lP.at_ h 0 kO
 have key:∀(i:Nat) (hi:i<xs.length),∃cs f',(∀x∈f',x∈f)/\rep w f' cs xs[i]/\cs.length=sz/\∀j u,cs[j]? =some u->w.cell? ⟨b,o+(i*sz+j),none⟩=some u:=by
  intro i hi
  obtain⟨b',o',cs,f',QI,_,jo,vI,dp,jR⟩:=lP.at_ h i hi
  simp only[Option.some.injEq,Addr.mk.injEq,and_true]at QI
  obtain⟨rfl,rfl⟩:=QI
  exact⟨cs,f',jo,vI,dp,jR⟩
 refine .sl _ b o _ c sz (fun i j=>(w.cell? ⟨b,o+(i*sz+j),none⟩).getD Go.undef) (by simp) h1 h2 (hD b hb) ?_ ?_ ?_ ?_
 ·intro cs dp
  obtain⟨x,hx,rfl⟩:=List.mem_map.1 dp
  exact hl x hx
 ·intro cs dp
  obtain⟨x,hx,rfl⟩:=List.mem_map.1 dp
  exact hc x hx
 ·intro i j hi hj
  obtain⟨cs,f',_,_,dp,jR⟩:=key i hi
  rw[jR j cs[j] (List.getElem?_eq_getElem (by omega))]
  rfl
 ·intro i j cs a dp ha
  have hi:i<xs.length:=by
   have:=(List.getElem?_eq_some_iff.1 dp).1
   simpa using this
  obtain⟨oL,f',jo,vI,hcs',jR⟩:=key i hi
  simp[hi]at dp
  subst dp
  obtain⟨u,hu,him⟩:=hr _ (List.getElem_mem hi) f' oL vI (fun b hb=>hD b (jo b hb)) j a ha
  rw[jR j u hu]
  exact him
end Go.Proofs.YtgoljkjaameagaaGreat.V

namespace Go.Proofs.YtgoljkjaameagaaGreat.V
open Go.RowKit
variable {P:Program} {w:World} {D:Nat->Prop}
def aA (d:Int):List AV:=[.int .i64 d]
def ab (d:ah):List AV:=[.int .i64 d.eI,.int .i64 d.eB]
def ai (d:ad):List AV:=[.int .i64 d.bH.eI,.int .i64 d.bH.eB,.int .i64 d.bq]
def bc (d:e7):List AV:=[.sl (d.ae.map ai)]
def cw (d:gI):List AV:=[.str d.aE,.int .i64 d.ez]
def bh (d:e8):List AV:=[.str d.aE,.sl (d.bY.map aA)]
def aa (d:au):List AV:=[.sl (d.aC.map cw),.sl (d.ae.map bh)]
def aD (d:aG):List AV:=[.sl (d.az.aC.map cw),.sl (d.az.ae.map bh),.sl (d.cr.ae.map ai),.int .i64 d.aw]
theorem rR {f:List Nat} {v:Value} {xs:List ad} (h:iG w f v xs) (hD:∀b∈f,D b):jC P w D (.sl (xs.map ai)) v:=
 qy h hD (fun _ _=>rfl) (fun x _ a ha=>by simp[ai]at ha;rcases ha with rfl|rfl|rfl<;>rfl) fun x _ f' cs hr hf=>by
  obtain⟨_,rfl⟩:=hr
  intro j a ha
  match j,ha with
  |0,ha=>simp[ai]at ha;subst ha;exact⟨_,rfl,.int _ _⟩
  |1,ha=>simp[ai]at ha;subst ha;exact⟨_,rfl,.int _ _⟩
  |2,ha=>simp[ai]at ha;subst ha;exact⟨_,rfl,.int _ _⟩
  |j+3,ha=>simp[ai]at ha
theorem xk {d:e7} {f0:List Nat} {v0:Value} (h0:iG w f0 v0 d.ae) (d0:∀b∈f0,D b):jC P w D (.agg (bc d)) (.agg #[v0]):=by
 refine .agg _ _ (fun j=>(#[v0]:Array Value).getD j Go.undef) rfl (fun a ha=>by simp[bc]at ha;rcases ha with rfl<;>rfl) (fun j hj=>?_) (fun j a ha=>?_)
 ·match j,hj with
  |0,_=>rfl
  |j+1,hj=>simp[bc]at hj<;>omega
 ·match j,ha with
  |0,ha=>simp[bc]at ha;subst ha;exact rR h0 d0
  |j+1,ha=>simp[bc]at ha
theorem Er {f:List Nat} {v:Value} {xs:List gI} (h:pO w f v xs) (hD:∀b∈f,D b):jC P w D (.sl (xs.map cw)) v:=
 qy h hD (fun _ _=>rfl) (fun x _ a ha=>by simp[cw]at ha;rcases ha with rfl|rfl<;>rfl) fun x _ f' cs hr hf=>by
  obtain⟨_,rfl⟩:=hr
  intro j a ha
  match j,ha with
  |0,ha=>simp[cw]at ha;subst ha;exact⟨_,rfl,.str _⟩
  |1,ha=>simp[cw]at ha;subst ha;exact⟨_,rfl,.int _ _⟩
  |j+2,ha=>simp[cw]at ha
theorem tg {f:List Nat} {v:Value} {xs:List Int} (h:pP w f v xs) (hD:∀b∈f,D b):jC P w D (.sl (xs.map aA)) v:=
 qy h hD (fun _ _=>rfl) (fun x _ a ha=>by simp[aA]at ha;rcases ha with rfl<;>rfl) fun x _ f' cs hr hf=>by
  obtain⟨_,rfl⟩:=hr
  intro j a ha
  match j,ha with
  |0,ha=>simp[aA]at ha;subst ha;exact⟨_,rfl,.int _ _⟩
  |j+1,ha=>simp[aA]at ha
theorem Ew {f:List Nat} {v:Value} {xs:List e8} (h:pQ w f v xs) (hD:∀b∈f,D b):jC P w D (.sl (xs.map bh)) v:=
 qy h hD (fun _ _=>rfl) (fun x _ a ha=>by simp[bh]at ha;rcases ha with rfl|rfl<;>rfl) fun x _ f' cs hr hf=>by
  obtain⟨v1,f1,rfl,rfl,h1⟩:=hr
  intro j a ha
  match j,ha with
  |0,ha=>simp[bh]at ha;subst ha;exact⟨_,rfl,.str _⟩
  |1,ha=>simp[bh]at ha;subst ha;exact⟨_,rfl,tg h1 hf⟩
  |j+2,ha=>simp[bh]at ha
theorem Bs {d:aG} {f0:List Nat} {v0:Value} (h0:pO w f0 v0 d.az.aC) (d0:∀b∈f0,D b) {f1:List Nat} {v1:Value} (h1:pQ w f1 v1 d.az.ae) (d1:∀b∈f1,D b) {f2:List Nat} {v2:Value} (h2:iG w f2 v2 d.cr.ae) (d2:∀b∈f2,D b):jC P w D (.agg (aD d)) (.agg #[v0,v1,v2,.int .i64 d.aw]):=by
 refine .agg _ _ (fun j=>(#[v0,v1,v2,.int .i64 d.aw]:Array Value).getD j Go.undef) rfl (fun a ha=>by simp[aD]at ha;rcases ha with rfl|rfl|rfl|rfl<;>rfl) (fun j hj=>?_) (fun j a ha=>?_)
 ·match j,hj with
  |0,_=>rfl
  |1,_=>rfl
  |2,_=>rfl
  |3,_=>rfl
  |j+4,hj=>simp[aD]at hj<;>omega
 ·match j,ha with
  |0,ha=>simp[aD]at ha;subst ha;exact Er h0 d0
  |1,ha=>simp[aD]at ha;subst ha;exact Ew h1 d1
  |2,ha=>simp[aD]at ha;subst ha;exact rR h2 d2
  |3,ha=>simp[aD]at ha;subst ha;exact .int _ _
  |j+4,ha=>simp[aD]at ha
end Go.Proofs.YtgoljkjaameagaaGreat.V

namespace Go.Proofs.YtgoljkjaameagaaGreat.V
open Go.RowKit
variable {P:Program} {X:ft} {env:Env} {σ:ax}
theorem bI (g:Rows) (n:Nat) (l:List AV):fz g (n+1) (.im l)=(dj g n l).map AV.im:=by rw[fz]
theorem cD (g:Rows) (n:Nat) (f:Nat) (l:List AV):fz g (n+1) (.fn f l)=if l.all AV.cell then(dj g n l).map (AV.fn f)else none:=by rw[fz]
theorem aU (g:Rows) (n:Nat) (id:Id) (i off:Nat):fz g (n+1) (.ptr id i off)=match g id with
  |some r=>if r.w then(match r.rows[i]? with
   |some cs=>(dj g n (cs.drop off)).map AV.dd
   |none=>none)else none
  |none=>none:=by rw[fz];rfl
theorem iv (g:Rows) (n:Nat) (id:Id) (off len:Nat):fz g (n+1) (.own id off len)=match g id with
  |some r=>if r.w then(if off+len<=r.rows.length then(eh g n ((r.rows.drop off).take len)).map AV.sl else none)else none
  |none=>none:=by rw[fz];rfl
theorem nw (g:Rows) (n:Nat):eh g n []=some []:=by rw[eh]
theorem xH (g:Rows) (n:Nat) (c:List AV) (l:List (List AV)):eh g n (c::l)=match dj g n c with
  |some b=>(eh g n l).map (b::·)
  |none=>none:=by rw[eh];cases dj g n c<;>rfl
theorem tN {g:Rows} {n:Nat}:∀{l:List (List AV)},(∀c∈l,dj g n c=some c)->eh g n l=some l
 |[],_=>by rw[eh]
 |c::r,h=>by rw[eh,h c (by simp),tN fun d hd=>h d (List.mem_cons_of_mem _ hd)];rfl
theorem pc {α:Type} {g:Rows} {n:Nat} {e:α->List AV} {l:List α} (h:∀x,dj g n (e x)=some (e x)):eh g n (l.map e)=some (l.map e):=tN fun c hc=>by
 obtain⟨x,_,rfl⟩:=List.mem_map.1 hc
 exact h x
theorem r6 {α:Type} {g:Rows} {n:Nat} {e:α->List AV} {l:List α} (h:∀x,ep g n (e x)=some (e x)):gL g n (l.map e)=some (l.map e):=r4 fun c hc=>by
 obtain⟨x,_,rfl⟩:=List.mem_map.1 hc
 exact h x
theorem gO {α:Type} {g:Rows} {n:Nat} {e:α->List AV} {l:List α} {id:Id} {sz len:Nat} (hg:g id=some ⟨true,sz,l.map e⟩) (hl:len=l.length) (h:∀x,dj g n (e x)=some (e x)):fz g (n+1) (.own id 0 len)=some (.sl (l.map e)):=by
 subst hl
 rw[iv];simp only[hg,if_true]
 rw[if_pos (by simp),List.drop_zero,List.take_of_length_le (by simp),pc h];rfl
theorem fw {α:Type} {g:Rows} {n:Nat} {e:α->List AV} {l:List α} {id:Id} {sz len:Nat} (hg:g id=some ⟨true,sz,l.map e⟩) (hl:len=l.length) (h:∀x,ep g n (e x)=some (e x)):fV g (n+1) (.own id 0 len)=some (.sl (l.map e)):=by
 subst hl
 exact sS hg (by simp) (by rw[List.drop_zero,List.take_of_length_le (by simp),r6 h])
theorem all_map {α:Type} {e:α->List AV} {sz:Nat} {l:List α} (h:∀x,(e x).length=sz/\(e x).all AV.cell=true):(l.map e).all (fun c=>c.length==sz&&c.all AV.cell)=true:=by
 rw[List.all_eq_true]
 intro c hc
 obtain⟨x,_,rfl⟩:=List.mem_map.1 hc
 simp[(h x).1,(h x).2]
def RowM (P:Program) (f:Nat) (args:List AV) (sz:Nat) (rows:List (List AV)):Prop:=(∀c∈rows,∀a∈c,a.plain=true)/\∀n:Nat,Call P f args ⟨fun _=>none,n⟩ fun r σ'=>∃id,r=.own id 0 rows.length/\σ'.get id=some ⟨true,sz,rows⟩
theorem CP {res:List ox} {r:AV} {vs:List AV} {x:Ex} (hx:x=.ret∨x=.normal) (hv:e6 env σ.get res=some vs) (hz:fz σ.get 6 (eH vs)=some r):lf res (fun r0 σ'=>∃r',fz σ'.get 6 r0=some r'/\r'=r) x env σ:=by
 rcases hx with rfl|rfl
 ·exact⟨vs,hv,r,hz,rfl⟩
 ·exact⟨vs,hv,r,hz,rfl⟩
theorem iM {res:List ox} {r:AV} {vs:List AV} {x:Ex} (hx:x=.ret∨x=.normal) (hv:e6 env σ.get res=some vs) (hz:fV σ.get 6 (eH vs)=some r):lf res (fun r0 σ'=>∃r',fV σ'.get 6 r0=some r'/\r'=r) x env σ:=by
 rcases hx with rfl|rfl
 ·exact⟨vs,hv,r,hz,rfl⟩
 ·exact⟨vs,hv,r,hz,rfl⟩
theorem gQ {res:List ox} {K:AV->ax->Prop} {vs:List AV} {x:Ex} (hx:x=.ret∨x=.normal) (hv:e6 env σ.get res=some vs) (hK:K (eH vs) σ):lf res K x env σ:=by
 rcases hx with rfl|rfl
 ·exact⟨vs,hv,hK⟩
 ·exact⟨vs,hv,hK⟩
theorem iq {f:Nat} {args:List AV} {σ:ax} {K:AV->ax->Prop} {nt na:Nat} {body:VC} {res:List ox} (hf:mU P f=some ⟨nt,na,body,res⟩) (ha:na=args.length) (h:(∀a∈args,eG a)->ej (Call P) body (lf res K) (bZ args) σ):Call P f args σ K:=lq hf ha h
theorem Gs {f:Nat} {md:List (Nat×Nat)} {args:List AV} {σ:ax} {K:AV->ax->Prop} {nt na:Nat} {body:VC} {res:List ox} (hf:vp P f md=some ⟨nt,na,body,res⟩) (ha:na=args.length) (h:(∀a∈args,eG a)->ej (Call P) body (lf res K) (bZ args) σ):Call P f args σ K:=te hf ha h
theorem ef {i:Id} {n:Nat} (h:i.bt<n):(∀s,(i=⟨s,n⟩)=False/\(i=⟨s,n+1⟩)=False/\(i=⟨s,n+1+1⟩)=False/\(i=⟨s,n+1+1+1⟩)=False/\(i=⟨s,n+1+1+1+1⟩)=False/\(i=⟨s,n+1+1+1+1+1⟩)=False/\(i=⟨s,n+1+1+1+1+1+1⟩)=False/\(i=⟨s,n+1+1+1+1+1+1+1⟩)=False/\(i=⟨s,n+1+1+1+1+1+1+1+1⟩)=False/\(i=⟨s,n+1+1+1+1+1+1+1+1+1⟩)=False/\(⟨s,n⟩=i)=False/\(⟨s,n+1⟩=i)=False/\(⟨s,n+1+1⟩=i)=False/\(⟨s,n+1+1+1⟩=i)=False/\(⟨s,n+1+1+1+1⟩=i)=False/\(⟨s,n+1+1+1+1+1⟩=i)=False/\(⟨s,n+1+1+1+1+1+1⟩=i)=False/\(⟨s,n+1+1+1+1+1+1+1⟩=i)=False/\(⟨s,n+1+1+1+1+1+1+1+1⟩=i)=False/\(⟨s,n+1+1+1+1+1+1+1+1+1⟩=i)=False)/\(i.bt=n)=False/\(i.bt=n+1)=False/\(i.bt=n+1+1)=False/\(i.bt=n+1+1+1)=False/\(i.bt=n+1+1+1+1)=False/\(i.bt=n+1+1+1+1+1)=False/\(i.bt=n+1+1+1+1+1+1)=False/\(i.bt=n+1+1+1+1+1+1+1)=False/\(i.bt=n+1+1+1+1+1+1+1+1)=False/\(i.bt=n+1+1+1+1+1+1+1+1+1)=False:=by
 refine⟨fun s=>?_,?_⟩
 ·obtain⟨a,b⟩:=i
  simp only[Id.mk.injEq,eq_iff_iff,iff_false,not_and]
  simp only at h
  refine⟨?_,?_,?_,?_,?_,?_,?_,?_,?_,?_,?_,?_,?_,?_,?_,?_,?_,?_,?_,?_⟩<;>(intros;omega)
 ·simp only[eq_iff_iff,iff_false]
  refine⟨?_,?_,?_,?_,?_,?_,?_,?_,?_,?_⟩<;>omega
def Gz (a b:Nat) (ids:List Id):Prop:=ids.Nodup/\∀i∈ids,a<=i.bt/\i.bt<b
def Kept (σ σ':ax):Prop:=σ.next<=σ'.next/\∀j:Id,j.bt<σ.next->σ'.get j=σ.get j
end Go.Proofs.YtgoljkjaameagaaGreat.V

namespace Go.Proofs.YtgoljkjaameagaaGreat.V
open Go.RowKit
attribute [local irreducible] ej wpOps fQ Call
attribute [local go_sem] aH fq eD fH fG cV upd bZ K.av cC AV.cells AV.cell rowOf rowsOf part ld rowAt bK bR du dQ gE bB cR eb fF eL dh dV cP cN dD dE bF aT cG bE cI cH dS dW dU cF bJ cQ dR bD aJ cK cm gD bd cz bG aP dn aX dv AV.undef bj bx dG dO dz dF cu ea ei ck dY dX cJ cL List.getD_cons_zero List.getD_cons_succ List.getD_nil List.all_cons List.all_nil Bool.and_true Bool.true_and Bool.and_self Bool.not_true Bool.not_false Option.map_some Option.map_none Option.bind_some Option.bind_none List.length_cons List.length_nil List.take_succ_cons List.take_zero List.take_nil List.drop_succ_cons List.drop_zero List.drop_nil List.head?_cons List.map_cons List.map_nil List.getElem?_cons_zero List.getElem?_cons_succ List.cons_append List.nil_append List.append_nil List.length_map List.set_cons_zero List.set_cons_succ Nat.reduceMul eq_self Int.toNat_natCast Int.natCast_nonneg and_self true_and and_true decide_true decide_false Bool.false_eq_true Nat.zero_add Nat.add_zero List.contains_cons List.contains_nil Bool.or_false Bool.false_or beq_self_eq_true Nat.reduceBEq ne_eq not_true_eq_false not_false_eq_true Id.mk.injEq false_and and_false Nat.reduceLT Int.reduceLE Int.reduceLT Int.reduceToNat Int.reduceNeg Int.reduceAdd Nat.le_refl List.length_append beq_true beq_false Bool.not_eq_eq_eq_not or_false false_or eo aj ar aK aV bp bW aQ aZ aN aU cD bI
variable {P:Program}
theorem Dg {X:ft} {Q:Ex->Env->ax->Prop} {N:Env->ax->Prop} {c:VC} {env:Env} {σ:ax} (I:Env->ax->Prop) (h2:∀e s,I e s->N e s) (h1:∀N':Env->ax->Prop,(∀e s,I e s->N' e s)->ej X c (dn N' Q) env σ):ej X c (dn N Q) env σ:=h1 N h2
def rq (f z:Nat) (a:Bool):yU:=let s:=f*1000000
 ⟨19,2,(.seq (.eJ false [q 4 (.de (.k (.int .i64 0))) s]) (.seq (.seq (.eJ false [q 6 (.de (.t 0)) (s+1000),q 7 (.len (.t 6)) (s+1001),q 8 (.de (.k (.int .i64 0))) (s+1002)]) (.block 0 (.loop (.seq (.eJ false [q 9 (.bin .lss .i64 (.t 8) (.t 7)) (s+2000)]) (.seq (.cond (.t 9) .skip (.exit 0)) (.seq (.block 1 (.seq (.eJ false [q 10 (.de (.t 8)) (s+3000),q 5 (.de (.t 10)) (s+3001)]) (.seq (.eJ false [q 11 (.de (.t 1)) (s+4000),q 12 (.de (.t 0)) (s+4001),q 13 (.de (.t 5)) (s+4002),q 14 (.dC z (.t 12) (.t 13)) (s+4003),q 15 (.load a z (.t 14)) (s+4004),q 16 (.rV (.t 11) [(.t 15)]) (s+4005)]) (.cond (.t 16) (.seq (.eJ false [q 17 (.de (.t 5)) (s+5000),q 4 (.de (.t 17)) (s+5001)]) .ret) .skip)))) (.eJ false [q 18 (.bin .add .i64 (.t 8) (.k (.int .i64 1))) (s+6000),q 8 (.de (.t 18)) (s+6001)]))))))) (.seq (.eJ false [q 4 (.de (.k (.int .i64 (-1)))) (s+7000)]) .ret))),[(.tmp 4)]⟩
def xP (f g:Nat):yU:=let s:=f*1000000
 ⟨9,2,(.seq (.eJ false [q 4 (.de (.k (.bool false))) s]) (.seq (.eJ false [q 5 (.de (.t 0)) (s+1000),q 6 (.de (.t 1)) (s+1001),q 7 (.call g [(.t 5),(.t 6)]) (s+1002),q 8 (.bin .geq .i64 (.t 7) (.k (.int .i64 0))) (s+1003),q 4 (.de (.t 8)) (s+1004)]) .ret)),[(.tmp 4)]⟩
def jP {α:Type} (p:α->Bool) (xs:List α):Int:=if xs.findIdx p<xs.length then(xs.findIdx p:Int)else -1
theorem G8 {α:Type} (p:α->Bool) (xs:List α):decide (0<=jP p xs)=xs.any p:=by
 unfold jP
 by_cases h:xs.findIdx p<xs.length
 ·rw[if_pos h]
  have:xs.any p=true:=List.any_eq_true.2 (List.findIdx_lt_length.1 h)
  rw[this];simp
 ·rw[if_neg h]
  have:xs.any p=false:=by
   rw[Bool.eq_false_iff]
   intro hc
   exact h (List.findIdx_lt_length.2 (List.any_eq_true.1 hc))
  rw[this];rfl
theorem sL (a:AV) (l m:List AV):a::l++m=a::(l++m):=rfl
theorem xt (l:List AV):[]++l=l:=rfl
structure Ol {α:Type} (e:α->List AV) (v:α->AV) (z:Nat) (a:Bool):Prop where
 len:∀x,(e x).length=z
 val:∀x,if a=true then v x=.agg (e x)else e x=[v x]
 fz:∀x g,dj g 6 [v x]=some [v x]
theorem sb {α:Type} {e:α->List AV} {v:α->AV} {z fk:Nat} {a:Bool} (hE:Ol e v z a) (hc:mU P fk=some (rq fk z a)) (xs:List α) (hlen:xs.length<=1048576) (f:Nat) (cX:List AV) (p:α->Bool)
  (hf:∀x∈xs,aq P f (v x::cX) (.bool (p x))) (Hp:∀g,dj g 6 cX=some cX):
  aq P fk [.sl (xs.map e),.fn f cX] (.int .i64 (jP p xs)):=by
 refine aq.body hc rfl fun hl n0=>?_
 try simp only[q]
 clear hl
 (try((repeat(revert hN;revert N;apply Pn.out));refine wk @Nat.zero_add ?_;(repeat(refine Pn.mk ?_;intro N hN))))
 refine aM (fun n env st=>∃k:Nat,n=(xs.length)-k/\k<=(xs.length)/\env 8=.int .i64 (k:Int)/\(∀j:Nat,j<k->∀h:j<xs.length,p xs[j]=false)) (xs.length) ⟨0,by omega,by omega,sl @Nat.zero_add,fun _ h=>absurd h (Nat.not_lt_zero _)⟩ ?_
 rintro n_a env_a st_a ⟨k,rfl,ale,a8,lk⟩ dq
 have a0:=dq 0 (by kernel_rfl);have a1:=dq 1 (by kernel_rfl);have a7:=dq 7 (by kernel_rfl)
 simp only[go_sem, ↓reduceIte,Nat.reduceEqDiff,Nat.reduceAdd,Nat.reduceSub,Nat.reduceLeDiff,reduceCtorEq]at a0 a1 a7
 clear dq
 by_cases hk:(k:Int)<(xs.length:Int)
 ·have cE:∀{e:Env},(e 8=.int .i64 (IntKind.i64.wrap ((k:Int)+1)))->(∀h:k<xs.length,p xs[k]=false)->∃m0,m0<(xs.length)-k/\∃k:Nat,m0=(xs.length)-k/\k<=(xs.length)/\e 8=.int .i64 (k:Int)/\(∀j:Nat,j<k->∀h:j<xs.length,p xs[j]=false):=fun x1 x2=>⟨_,by omega,k+1,rfl,by omega,(by rw[x1,aB (by omega)]),(all_succ lk x2)⟩
  have eV:k<xs.length:=by omega
  have hg:(xs.map e)[k]? =some (e xs[k]):=by simp[eV]
  have zT:=hf _ (List.getElem_mem eV)
  have hz:=hE.len xs[k]
  have hv:=hE.val xs[k]
  have kQ:dj (eo st_a.get) 6 (v xs[k]::cX)=some (v xs[k]::cX):=by
   have h1:=hE.fz xs[k] (eo st_a.get)
   rw[aj,ar]at h1
   rw[aj,Hp]
   revert h1
   cases V.fz (eo st_a.get) 6 (v xs[k])<;>simp
  have fin:∀hN:True,(p xs[k]=true->xs.findIdx p=k):=fun _ hp=>by
   rw[List.findIdx_eq eV];exact⟨hp,fun j hj=>lk j hj (by omega)⟩
  cases hp:p xs[k]
  ·have Q0:=hp
   cases a
   ·rw[if_neg (by simp)]at hv
    have wP:z=1:=by rw[<-hz,hv];rfl
    subst wP
    rw[hv]at hg hz
    rw[hp]at zT
    generalize v xs[k]=c at zT kQ hg hz
    (try((repeat(revert hN;revert N;apply Pn.out));refine wk (tw @a8 (tw @a0 (tw @a1 (tw @a7 (tw @hk (tw @hg (tw @hz (tw @sL @xt)))))))) ?_;(repeat(refine Pn.mk ?_;intro N hN))))
    refine .inl ⟨_,aq.x zT kQ,?_⟩
    refine hN _ _ ?_
    clear hN N
    (try((repeat(revert hN;revert N;apply Pn.out));refine wk (tw @a8 (tw @a0 (tw @a1 @a7))) ?_;(repeat(refine Pn.mk ?_;intro N hN))))
    exact cE (sd (tw @a8 (tw @a0 (tw @a1 @a7)))) (fun _=>Q0)
   ·rw[if_pos rfl]at hv
    have ht:(e xs[k]).take z=e xs[k]:=by rw[<-hz,List.take_length]
    rw[hv]at zT kQ
    rw[hp]at zT
    generalize e xs[k]=c at zT kQ hg hz ht
    (try((repeat(revert hN;revert N;apply Pn.out));refine wk (tw @a8 (tw @a0 (tw @a1 (tw @a7 (tw @hk (tw @hg (tw @hz (tw @ht (tw @sL (tw @xt @Nat.le_refl)))))))))) ?_;(repeat(refine Pn.mk ?_;intro N hN))))
    refine .inl ⟨_,aq.x zT kQ,?_⟩
    refine hN _ _ ?_
    clear hN N
    (try((repeat(revert hN;revert N;apply Pn.out));refine wk (tw @a8 (tw @a0 (tw @a1 @a7))) ?_;(repeat(refine Pn.mk ?_;intro N hN))))
    exact cE (sd (tw @a8 (tw @a0 (tw @a1 @a7)))) (fun _=>Q0)
  ·have hi:=fin trivial hp
   cases a
   ·rw[if_neg (by simp)]at hv
    have wP:z=1:=by rw[<-hz,hv];rfl
    subst wP
    rw[hv]at hg hz
    rw[hp]at zT
    generalize v xs[k]=c at zT kQ hg hz
    (try((repeat(revert hN;revert N;apply Pn.out));refine wk (tw @a8 (tw @a0 (tw @a1 (tw @a7 (tw @hk (tw @hg (tw @hz (tw @sL @xt)))))))) ?_;(repeat(refine Pn.mk ?_;intro N hN))))
    refine .inl ⟨_,aq.x zT kQ,?_⟩
    refine hN _ _ ?_
    clear hN N
    (try((repeat(revert hN;revert N;apply Pn.out));refine wk (tw @a8 (tw @a0 (tw @a1 @a7))) ?_;(repeat(refine Pn.mk ?_;intro N hN))))
    exact bU (b:=(k:Int)) (.inl rfl) (sd @Nat.zero_add) (by rw[jP,hi,if_pos eV])
   ·rw[if_pos rfl]at hv
    have ht:(e xs[k]).take z=e xs[k]:=by rw[<-hz,List.take_length]
    rw[hv]at zT kQ
    rw[hp]at zT
    generalize e xs[k]=c at zT kQ hg hz ht
    (try((repeat(revert hN;revert N;apply Pn.out));refine wk (tw @a8 (tw @a0 (tw @a1 (tw @a7 (tw @hk (tw @hg (tw @hz (tw @ht (tw @sL (tw @xt @Nat.le_refl)))))))))) ?_;(repeat(refine Pn.mk ?_;intro N hN))))
    refine .inl ⟨_,aq.x zT kQ,?_⟩
    refine hN _ _ ?_
    clear hN N
    (try((repeat(revert hN;revert N;apply Pn.out));refine wk (tw @a8 (tw @a0 (tw @a1 @a7))) ?_;(repeat(refine Pn.mk ?_;intro N hN))))
    exact bU (b:=(k:Int)) (.inl rfl) (sd @Nat.zero_add) (by rw[jP,hi,if_pos eV])
 ·(try((repeat(revert hN;revert N;apply Pn.out));refine wk (tw @a8 (tw @a0 (tw @a1 (tw @a7 @hk)))) ?_;(repeat(refine Pn.mk ?_;intro N hN))))
  have hi:¬xs.findIdx p<xs.length:=by
   rw[List.findIdx_lt_length]
   rintro⟨x,hx,MG⟩
   obtain⟨j,hj,rfl⟩:=List.getElem_of_mem hx
   rw[lk j (by omega) hj]at MG;cases MG
  exact bU (b:=-1) (.inl rfl) (sd @Nat.zero_add) (by rw[jP,if_neg hi])
theorem ke {α:Type} {e:α->List AV} {v:α->AV} {z fk gk:Nat} {a:Bool} (hE:Ol e v z a) (hc:mU P fk=some (xP fk gk)) (B7:mU P gk=some (rq gk z a)) (xs:List α) (hlen:xs.length<=1048576) (f:Nat) (cX:List AV) (p:α->Bool) (B8:cX.all AV.cell=true) (A9:∀g,dj g 5 cX=some cX)
  (hf:∀x∈xs,aq P f (v x::cX) (.bool (p x))) (Hp:∀g,dj g 6 cX=some cX):
  aq P fk [.sl (xs.map e),.fn f cX] (.bool (xs.any p)):=by
 refine aq.body hc rfl fun hl n0=>?_
 try simp only[q]
 clear hl
 have hi:=sb hE B7 xs hlen f cX p hf Hp
 (repeat(first|((repeat(revert hN;revert N;apply Pn.out));refine wk (tw @B8 @A9) ?_;(repeat(refine Pn.mk ?_;intro N hN)))|((try apply Or.inl);refine⟨_,aq.x (hi) (sd (tw @B8 @A9)),?_⟩;refine hN _ _ ?_;clear hN N)))
 exact aL (b:=decide (0<=jP p xs)) (.inl rfl) (sd @Nat.zero_add) (G8 p xs)
end Go.Proofs.YtgoljkjaameagaaGreat.V

namespace Go.Proofs.YtgoljkjaameagaaGreat.V
open Go.RowKit
def ql (P:Program) (mk:Bool):List Oper->Nat->List Nat
 |[],_=>[]
 |o::r,i=>match pJ P o.op with
  |some v=>if pz v||mk&&v.la then i::ql P mk r (i+1)else ql P mk r (i+1)
  |none=>ql P mk r (i+1)
def xx (P:Program) (ops:Array Oper) (site0:Nat) (mk:Bool) (bs:Array Nat) (hidden:List Nat):List Oper->Nat->Option (List bf)
 |[],_=>some []
 |o::r,j=>do
  let v <-pJ P o.op
  let g <-BE ops o
  pure ({dst:=o.dst,op:=v,guard:=g,site:=site0+j,hid:=(hidden.filter fun i=> !(bs.getD j 0).testBit i&&(i !=j||mk&&v.la)).map fun i=>site0+i}::(<-xx P ops site0 mk bs hidden r (j+1)))
def o3 (P:Program) (md:List (Nat×Nat)) (vB:Nat):Code->Option VC
 | .skip=>some .skip
 | .region id ops draw=>if draw then(xx P ops ((vB*1000+id)*1000) (uj md id==1) (jf ops) (ql P (uj md id==1) ops.toList 0) ops.toList 0).map (VC.eJ true)else(xx P ops ((vB*1000+id)*1000) false #[] [] ops.toList 0).map (if ops.toList.any fun o=>Lj o.op then VC.LW else VC.eJ false)
 | .seq a b=>do pure (.seq (<-o3 P md vB a) (<-o3 P md vB b))
 | .cond c x y=>do pure (.cond (<-cO P c) (<-o3 P md vB x) (<-o3 P md vB y))
 | .block id c=>(o3 P md vB c).map (VC.block id)
 | .loop c=>(o3 P md vB c).map VC.loop
 | .exit id=>some (.exit id)
 | .ret=>some .ret
 |_=>none
def Oz (P:Program) (md:List (Nat×Nat)) (f:Nat):Option yU:=
 match P.funcs[f]? with
 |some fn=>match fn.body with
  |some c=>do
   let b <-o3 P md f c
   let r <-fn.results.toList.mapM (EE P)
   pure {ntmps:=fn.ntmps,w6:=fn.params.size+fn.nfree,body:=b,res:=r}
  |none=>none
 |none=>none
theorem cfM {P:Program} (md:List (Nat×Nat)) {f:Nat} {v:yU} (_:Oz P md f=some v:=by(conv=>lhs;cbv)<;>exact rfl) (h:vp P f md=some v:=by kernel_rfl):vp P f md=some v:=h
theorem eE {P:Program} {f:Nat} {v:yU} (_:Oz P [] f=some v:=by(conv=>lhs;cbv)<;>exact rfl) (h:mU P f=some v:=by kernel_rfl):mU P f=some v:=h
def Nn:yU:=⟨77,2,(.seq (.eJ false [q 4 (.de (.k .gW)) 251000000]) (.seq (.eJ false [q 7 (.de (.t 0)) 251001000,q 8 (.de (.t 1)) 251001001,q 9 (.build [(.int .i64 0),.cq,.cq,.cq] [(0,(1,(.t 7))),(1,(1,(.t 8)))]) 251001002,q 10 (.box (.t 9)) 251001003,q 5 (.de (.t 10)) 251001004]) (.seq (.eJ false [q 11 (.de (.t 5)) 251002000,q 12 (.de (.t 0)) 251002001,q 13 (.jz [.cq] (.t 12) (.t 12)) 251002002,q 14 (.zt (.t 11)) 251002003,q 15 (.fM 2 (.t 14)) 251002004,⟨none,(.store 1 (.t 15) (.t 13)),none,251002005,[]⟩]) (.seq (.eJ false [q 16 (.de (.t 5)) 251003000,q 17 (.de (.t 1)) 251003001,q 18 (.len (.t 17)) 251003002,q 19 (.jz [(.int .i64 0)] (.t 18) (.t 18)) 251003003,q 20 (.zt (.t 16)) 251003004,q 21 (.fM 3 (.t 20)) 251003005,⟨none,(.store 1 (.t 21) (.t 19)),none,251003006,[]⟩]) (.seq (.seq (.eJ false [q 6 (.de (.k (.int .i64 0))) 251004000]) (.block 0 (.loop (.seq (.seq (.eJ false [q 22 (.de (.t 6)) 251005000,q 23 (.de (.t 1)) 251005001,q 24 (.len (.t 23)) 251005002,q 25 (.bin .lss .i64 (.t 22) (.t 24)) 251005003]) (.cond (.t 25) .skip (.exit 0))) (.seq (.block 1 (.seq (.one ⟨(some 28),(.de (.t 5)),none,251007000,[251007021,251007022,251007024]⟩ (.one ⟨(some 29),(.zt (.t 28)),none,251007001,[251007021,251007022,251007024]⟩ (.one ⟨(some 30),(.fM 2 (.t 29)),none,251007002,[251007021,251007022,251007024]⟩ (.one ⟨(some 32),(.de (.t 1)),none,251007004,[251007021,251007022,251007024]⟩ (.one ⟨(some 33),(.de (.t 6)),none,251007005,[251007021,251007022,251007024]⟩ (.one ⟨(some 37),(.de (.t 5)),none,251007009,[251007021,251007022,251007024]⟩ (.one ⟨(some 38),(.zt (.t 37)),none,251007010,[251007021,251007022,251007024]⟩ (.one ⟨(some 39),(.fM 2 (.t 38)),none,251007011,[251007021,251007022,251007024]⟩ (.one ⟨(some 40),(.load false 1 (.t 39)),none,251007012,[251007021,251007022,251007024]⟩ (.one ⟨(some 41),(.de (.t 1)),none,251007013,[251007021,251007022,251007024]⟩ (.one ⟨(some 42),(.de (.t 6)),none,251007014,[251007021,251007022,251007024]⟩ (.one ⟨(some 43),(.dC 3 (.t 41) (.t 42)),none,251007015,[251007021,251007022,251007024]⟩ (.one ⟨(some 44),(.fM 0 (.t 43)),none,251007016,[251007021,251007022,251007024]⟩ (.one ⟨(some 45),(.load false 1 (.t 44)),none,251007017,[251007021,251007022,251007024]⟩ (.one ⟨(some 46),(.dC 1 (.t 40) (.t 45)),none,251007018,[251007021,251007022,251007024]⟩ (.one ⟨(some 47),(.load false 1 (.t 46)),none,251007019,[251007021,251007022,251007024]⟩ (.one ⟨(some 48),(.de (.t 6)),none,251007020,[251007021,251007022,251007024]⟩ (.one ⟨(some 49),(.lT 1 1 [(.t 48)]),none,251007021,[251007022,251007024]⟩ (.both (.one ⟨(some 31),(.load false 1 (.t 30)),none,251007003,[251007021,251007022,251007024]⟩ (.both (.one ⟨(some 34),(.dC 3 (.t 32) (.t 33)),none,251007006,[251007021,251007022,251007024]⟩ (.one ⟨(some 35),(.fM 0 (.t 34)),none,251007007,[251007021,251007022,251007024]⟩ (.both (.one ⟨(some 36),(.load false 1 (.t 35)),none,251007008,[251007021,251007022,251007024]⟩ (.one ⟨(some 50),(.append 1 (.t 47) (.t 49)),none,251007022,[251007024]⟩ (.one ⟨(some 51),(.dC 1 (.t 31) (.t 36)),none,251007023,[251007024]⟩ (.one ⟨none,(.store 1 (.t 51) (.t 50)),none,251007024,[]⟩ (.eJ false []))))) (.one ⟨(some 50),(.append 1 (.t 47) (.t 49)),none,251007022,[251007024]⟩ (.one ⟨(some 36),(.load false 1 (.t 35)),none,251007008,[251007021,251007022,251007024]⟩ (.one ⟨(some 51),(.dC 1 (.t 31) (.t 36)),none,251007023,[251007024]⟩ (.one ⟨none,(.store 1 (.t 51) (.t 50)),none,251007024,[]⟩ (.eJ false [])))))))) (.one ⟨(some 50),(.append 1 (.t 47) (.t 49)),none,251007022,[251007024]⟩ (.one ⟨(some 34),(.dC 3 (.t 32) (.t 33)),none,251007006,[251007021,251007022,251007024]⟩ (.one ⟨(some 35),(.fM 0 (.t 34)),none,251007007,[251007021,251007022,251007024]⟩ (.one ⟨(some 36),(.load false 1 (.t 35)),none,251007008,[251007021,251007022,251007024]⟩ (.one ⟨(some 51),(.dC 1 (.t 31) (.t 36)),none,251007023,[251007024]⟩ (.one ⟨none,(.store 1 (.t 51) (.t 50)),none,251007024,[]⟩ (.eJ false []))))))))) (.both (.one ⟨(some 34),(.dC 3 (.t 32) (.t 33)),none,251007006,[251007021,251007022,251007024]⟩ (.one ⟨(some 35),(.fM 0 (.t 34)),none,251007007,[251007021,251007022,251007024]⟩ (.both (.one ⟨(some 31),(.load false 1 (.t 30)),none,251007003,[251007021,251007022,251007024]⟩ (.both (.one ⟨(some 36),(.load false 1 (.t 35)),none,251007008,[251007021,251007022,251007024]⟩ (.one ⟨(some 50),(.append 1 (.t 47) (.t 49)),none,251007022,[251007024]⟩ (.one ⟨(some 51),(.dC 1 (.t 31) (.t 36)),none,251007023,[251007024]⟩ (.one ⟨none,(.store 1 (.t 51) (.t 50)),none,251007024,[]⟩ (.eJ false []))))) (.one ⟨(some 50),(.append 1 (.t 47) (.t 49)),none,251007022,[251007024]⟩ (.one ⟨(some 36),(.load false 1 (.t 35)),none,251007008,[251007021,251007022,251007024]⟩ (.one ⟨(some 51),(.dC 1 (.t 31) (.t 36)),none,251007023,[251007024]⟩ (.one ⟨none,(.store 1 (.t 51) (.t 50)),none,251007024,[]⟩ (.eJ false []))))))) (.both (.one ⟨(some 36),(.load false 1 (.t 35)),none,251007008,[251007021,251007022,251007024]⟩ (.both (.one ⟨(some 31),(.load false 1 (.t 30)),none,251007003,[251007021,251007022,251007024]⟩ (.one ⟨(some 50),(.append 1 (.t 47) (.t 49)),none,251007022,[251007024]⟩ (.one ⟨(some 51),(.dC 1 (.t 31) (.t 36)),none,251007023,[251007024]⟩ (.one ⟨none,(.store 1 (.t 51) (.t 50)),none,251007024,[]⟩ (.eJ false []))))) (.one ⟨(some 50),(.append 1 (.t 47) (.t 49)),none,251007022,[251007024]⟩ (.one ⟨(some 31),(.load false 1 (.t 30)),none,251007003,[251007021,251007022,251007024]⟩ (.one ⟨(some 51),(.dC 1 (.t 31) (.t 36)),none,251007023,[251007024]⟩ (.one ⟨none,(.store 1 (.t 51) (.t 50)),none,251007024,[]⟩ (.eJ false []))))))) (.one ⟨(some 50),(.append 1 (.t 47) (.t 49)),none,251007022,[251007024]⟩ (.one ⟨(some 31),(.load false 1 (.t 30)),none,251007003,[251007021,251007022,251007024]⟩ (.one ⟨(some 36),(.load false 1 (.t 35)),none,251007008,[251007021,251007022,251007024]⟩ (.one ⟨(some 51),(.dC 1 (.t 31) (.t 36)),none,251007023,[251007024]⟩ (.one ⟨none,(.store 1 (.t 51) (.t 50)),none,251007024,[]⟩ (.eJ false [])))))))))) (.one ⟨(some 50),(.append 1 (.t 47) (.t 49)),none,251007022,[251007024]⟩ (.one ⟨(some 31),(.load false 1 (.t 30)),none,251007003,[251007021,251007022,251007024]⟩ (.one ⟨(some 34),(.dC 3 (.t 32) (.t 33)),none,251007006,[251007021,251007022,251007024]⟩ (.one ⟨(some 35),(.fM 0 (.t 34)),none,251007007,[251007021,251007022,251007024]⟩ (.one ⟨(some 36),(.load false 1 (.t 35)),none,251007008,[251007021,251007022,251007024]⟩ (.one ⟨(some 51),(.dC 1 (.t 31) (.t 36)),none,251007023,[251007024]⟩ (.one ⟨none,(.store 1 (.t 51) (.t 50)),none,251007024,[]⟩ (.eJ false [])))))))))))))))))))))))))))) (.one ⟨(some 52),(.de (.t 5)),none,251008000,[251008021,251008022,251008024]⟩ (.one ⟨(some 53),(.zt (.t 52)),none,251008001,[251008021,251008022,251008024]⟩ (.one ⟨(some 54),(.fM 2 (.t 53)),none,251008002,[251008021,251008022,251008024]⟩ (.one ⟨(some 56),(.de (.t 1)),none,251008004,[251008021,251008022,251008024]⟩ (.one ⟨(some 57),(.de (.t 6)),none,251008005,[251008021,251008022,251008024]⟩ (.one ⟨(some 61),(.de (.t 5)),none,251008009,[251008021,251008022,251008024]⟩ (.one ⟨(some 62),(.zt (.t 61)),none,251008010,[251008021,251008022,251008024]⟩ (.one ⟨(some 63),(.fM 2 (.t 62)),none,251008011,[251008021,251008022,251008024]⟩ (.one ⟨(some 64),(.load false 1 (.t 63)),none,251008012,[251008021,251008022,251008024]⟩ (.one ⟨(some 65),(.de (.t 1)),none,251008013,[251008021,251008022,251008024]⟩ (.one ⟨(some 66),(.de (.t 6)),none,251008014,[251008021,251008022,251008024]⟩ (.one ⟨(some 67),(.dC 3 (.t 65) (.t 66)),none,251008015,[251008021,251008022,251008024]⟩ (.one ⟨(some 68),(.fM 1 (.t 67)),none,251008016,[251008021,251008022,251008024]⟩ (.one ⟨(some 69),(.load false 1 (.t 68)),none,251008017,[251008021,251008022,251008024]⟩ (.one ⟨(some 70),(.dC 1 (.t 64) (.t 69)),none,251008018,[251008021,251008022,251008024]⟩ (.one ⟨(some 71),(.load false 1 (.t 70)),none,251008019,[251008021,251008022,251008024]⟩ (.one ⟨(some 72),(.de (.t 6)),none,251008020,[251008021,251008022,251008024]⟩ (.one ⟨(some 73),(.lT 1 1 [(.t 72)]),none,251008021,[251008022,251008024]⟩ (.both (.one ⟨(some 55),(.load false 1 (.t 54)),none,251008003,[251008021,251008022,251008024]⟩ (.both (.one ⟨(some 58),(.dC 3 (.t 56) (.t 57)),none,251008006,[251008021,251008022,251008024]⟩ (.one ⟨(some 59),(.fM 1 (.t 58)),none,251008007,[251008021,251008022,251008024]⟩ (.both (.one ⟨(some 60),(.load false 1 (.t 59)),none,251008008,[251008021,251008022,251008024]⟩ (.one ⟨(some 74),(.append 1 (.t 71) (.t 73)),none,251008022,[251008024]⟩ (.one ⟨(some 75),(.dC 1 (.t 55) (.t 60)),none,251008023,[251008024]⟩ (.one ⟨none,(.store 1 (.t 75) (.t 74)),none,251008024,[]⟩ (.eJ false []))))) (.one ⟨(some 74),(.append 1 (.t 71) (.t 73)),none,251008022,[251008024]⟩ (.one ⟨(some 60),(.load false 1 (.t 59)),none,251008008,[251008021,251008022,251008024]⟩ (.one ⟨(some 75),(.dC 1 (.t 55) (.t 60)),none,251008023,[251008024]⟩ (.one ⟨none,(.store 1 (.t 75) (.t 74)),none,251008024,[]⟩ (.eJ false [])))))))) (.one ⟨(some 74),(.append 1 (.t 71) (.t 73)),none,251008022,[251008024]⟩ (.one ⟨(some 58),(.dC 3 (.t 56) (.t 57)),none,251008006,[251008021,251008022,251008024]⟩ (.one ⟨(some 59),(.fM 1 (.t 58)),none,251008007,[251008021,251008022,251008024]⟩ (.one ⟨(some 60),(.load false 1 (.t 59)),none,251008008,[251008021,251008022,251008024]⟩ (.one ⟨(some 75),(.dC 1 (.t 55) (.t 60)),none,251008023,[251008024]⟩ (.one ⟨none,(.store 1 (.t 75) (.t 74)),none,251008024,[]⟩ (.eJ false []))))))))) (.both (.one ⟨(some 58),(.dC 3 (.t 56) (.t 57)),none,251008006,[251008021,251008022,251008024]⟩ (.one ⟨(some 59),(.fM 1 (.t 58)),none,251008007,[251008021,251008022,251008024]⟩ (.both (.one ⟨(some 55),(.load false 1 (.t 54)),none,251008003,[251008021,251008022,251008024]⟩ (.both (.one ⟨(some 60),(.load false 1 (.t 59)),none,251008008,[251008021,251008022,251008024]⟩ (.one ⟨(some 74),(.append 1 (.t 71) (.t 73)),none,251008022,[251008024]⟩ (.one ⟨(some 75),(.dC 1 (.t 55) (.t 60)),none,251008023,[251008024]⟩ (.one ⟨none,(.store 1 (.t 75) (.t 74)),none,251008024,[]⟩ (.eJ false []))))) (.one ⟨(some 74),(.append 1 (.t 71) (.t 73)),none,251008022,[251008024]⟩ (.one ⟨(some 60),(.load false 1 (.t 59)),none,251008008,[251008021,251008022,251008024]⟩ (.one ⟨(some 75),(.dC 1 (.t 55) (.t 60)),none,251008023,[251008024]⟩ (.one ⟨none,(.store 1 (.t 75) (.t 74)),none,251008024,[]⟩ (.eJ false []))))))) (.both (.one ⟨(some 60),(.load false 1 (.t 59)),none,251008008,[251008021,251008022,251008024]⟩ (.both (.one ⟨(some 55),(.load false 1 (.t 54)),none,251008003,[251008021,251008022,251008024]⟩ (.one ⟨(some 74),(.append 1 (.t 71) (.t 73)),none,251008022,[251008024]⟩ (.one ⟨(some 75),(.dC 1 (.t 55) (.t 60)),none,251008023,[251008024]⟩ (.one ⟨none,(.store 1 (.t 75) (.t 74)),none,251008024,[]⟩ (.eJ false []))))) (.one ⟨(some 74),(.append 1 (.t 71) (.t 73)),none,251008022,[251008024]⟩ (.one ⟨(some 55),(.load false 1 (.t 54)),none,251008003,[251008021,251008022,251008024]⟩ (.one ⟨(some 75),(.dC 1 (.t 55) (.t 60)),none,251008023,[251008024]⟩ (.one ⟨none,(.store 1 (.t 75) (.t 74)),none,251008024,[]⟩ (.eJ false []))))))) (.one ⟨(some 74),(.append 1 (.t 71) (.t 73)),none,251008022,[251008024]⟩ (.one ⟨(some 55),(.load false 1 (.t 54)),none,251008003,[251008021,251008022,251008024]⟩ (.one ⟨(some 60),(.load false 1 (.t 59)),none,251008008,[251008021,251008022,251008024]⟩ (.one ⟨(some 75),(.dC 1 (.t 55) (.t 60)),none,251008023,[251008024]⟩ (.one ⟨none,(.store 1 (.t 75) (.t 74)),none,251008024,[]⟩ (.eJ false [])))))))))) (.one ⟨(some 74),(.append 1 (.t 71) (.t 73)),none,251008022,[251008024]⟩ (.one ⟨(some 55),(.load false 1 (.t 54)),none,251008003,[251008021,251008022,251008024]⟩ (.one ⟨(some 58),(.dC 3 (.t 56) (.t 57)),none,251008006,[251008021,251008022,251008024]⟩ (.one ⟨(some 59),(.fM 1 (.t 58)),none,251008007,[251008021,251008022,251008024]⟩ (.one ⟨(some 60),(.load false 1 (.t 59)),none,251008008,[251008021,251008022,251008024]⟩ (.one ⟨(some 75),(.dC 1 (.t 55) (.t 60)),none,251008023,[251008024]⟩ (.one ⟨none,(.store 1 (.t 75) (.t 74)),none,251008024,[]⟩ (.eJ false [])))))))))))))))))))))))))))))) (.eJ false [q 26 (.de (.t 6)) 251006000,q 27 (.bin .add .i64 (.t 26) (.k (.int .i64 1))) 251006001,q 6 (.de (.t 27)) 251006002])))))) (.seq (.eJ false [q 76 (.de (.t 5)) 251009000,q 4 (.de (.t 76)) 251009001]) .ret)))))),[(.tmp 4)]⟩
theorem LU:vp Tryz.prog 251 [(7,2),(8,2)]=some Nn:=by kernel_rfl
def Np:yU:=⟨118,2,(.seq (.eJ false [q 4 (.de (.k .cq)) 320000000]) (.seq (.eJ false [q 17 (.de (.t 0)) 320001000,q 18 (.jz [.gW] (.t 17) (.t 17)) 320001001,q 5 (.de (.t 18)) 320001002]) (.seq (.seq (.eJ false [q 19 (.de (.t 5)) 320002000,q 20 (.len (.t 19)) 320002001,q 21 (.de (.k (.int .i64 0))) 320002002]) (.block 0 (.loop (.seq (.eJ false [q 22 (.bin .lss .i64 (.t 21) (.t 20)) 320003000]) (.seq (.cond (.t 22) .skip (.exit 0)) (.seq (.block 1 (.seq (.eJ false [q 23 (.de (.t 21)) 320004000,q 6 (.de (.t 23)) 320004001]) (.eJ false [q 24 (.de (.t 5)) 320005000,q 25 (.de (.t 6)) 320005001,q 26 (.de (.t 6)) 320005002,q 27 (.build [.gW,(.int .i64 0)] [(1,(1,(.t 26)))]) 320005003,q 28 (.box (.t 27)) 320005004,q 29 (.dC 1 (.t 24) (.t 25)) 320005005,⟨none,(.store 1 (.t 29) (.t 28)),none,320005006,[]⟩]))) (.eJ false [q 30 (.bin .add .i64 (.t 21) (.k (.int .i64 1))) 320006000,q 21 (.de (.t 30)) 320006001]))))))) (.seq (.seq (.eJ false [q 31 (.de (.t 1)) 320007000,q 32 (.len (.t 31)) 320007001,q 33 (.de (.k (.int .i64 0))) 320007002]) (.block 2 (.loop (.seq (.eJ false [q 34 (.bin .lss .i64 (.t 33) (.t 32)) 320008000]) (.seq (.cond (.t 34) .skip (.exit 2)) (.seq (.block 3 (.seq (.eJ false [q 35 (.dC 3 (.t 31) (.t 33)) 320009000,q 36 (.load true 3 (.t 35)) 320009001,q 8 (.new [(.int .i64 0),(.int .i64 0),(.int .i64 0)]) 320009002,⟨none,(.store 3 (.t 8) (.t 36)),none,320009003,[]⟩]) (.seq (.one (q 37 (.de (.t 5)) 320010000) (.one (q 38 (.fM 0 (.t 8)) 320010001) (.one (q 39 (.load false 1 (.t 38)) 320010002) (.one (q 40 (.dC 1 (.t 37) (.t 39)) 320010003) (.one (q 41 (.load false 1 (.t 40)) 320010004) (.one (q 43 (.de (.t 5)) 320010006) (.one (q 44 (.fM 1 (.t 8)) 320010007) (.both (.one (q 42 (.call 334 [(.t 41)]) 320010005) (.one (q 45 (.load false 1 (.t 44)) 320010008) (.one (q 46 (.dC 1 (.t 43) (.t 45)) 320010009) (.one (q 47 (.load false 1 (.t 46)) 320010010) (.one (q 48 (.call 334 [(.t 47)]) 320010011) (.one (q 9 (.de (.t 42)) 320010012) (.one (q 10 (.de (.t 48)) 320010013) (.eJ false [])))))))) (.one (q 45 (.load false 1 (.t 44)) 320010008) (.both (.one (q 42 (.call 334 [(.t 41)]) 320010005) (.one (q 46 (.dC 1 (.t 43) (.t 45)) 320010009) (.one (q 47 (.load false 1 (.t 46)) 320010010) (.one (q 48 (.call 334 [(.t 47)]) 320010011) (.one (q 9 (.de (.t 42)) 320010012) (.one (q 10 (.de (.t 48)) 320010013) (.eJ false []))))))) (.one (q 46 (.dC 1 (.t 43) (.t 45)) 320010009) (.both (.one (q 42 (.call 334 [(.t 41)]) 320010005) (.one (q 47 (.load false 1 (.t 46)) 320010010) (.one (q 48 (.call 334 [(.t 47)]) 320010011) (.one (q 9 (.de (.t 42)) 320010012) (.one (q 10 (.de (.t 48)) 320010013) (.eJ false [])))))) (.one (q 47 (.load false 1 (.t 46)) 320010010) (.one (q 42 (.call 334 [(.t 41)]) 320010005) (.one (q 48 (.call 334 [(.t 47)]) 320010011) (.one (q 9 (.de (.t 42)) 320010012) (.one (q 10 (.de (.t 48)) 320010013) (.eJ false [])))))))))))))))))) (.block 4 (.seq (.eJ true [q 50 (.de (.t 9)) 320011000,q 51 (.zt (.t 50)) 320011001,q 52 (.fM 1 (.t 51)) 320011002,q 53 (.load false 1 (.t 52)) 320011003,q 54 (.de (.t 10)) 320011004,q 55 (.zt (.t 54)) 320011005,q 56 (.fM 1 (.t 55)) 320011006,q 57 (.load false 1 (.t 56)) 320011007,q 58 (.bin .lss .i64 (.t 53) (.t 57)) 320011008,q 49 (.de (.t 58)) 320011009]) (.cond (.t 49) (.eJ false [q 59 (.de (.t 10)) 320012000,q 60 (.de (.t 9)) 320012001,q 61 (.zt (.t 59)) 320012002,q 62 (.fM 0 (.t 61)) 320012003,⟨none,(.store 1 (.t 62) (.t 60)),none,320012004,[]⟩]) (.seq (.eJ true [q 64 (.de (.t 10)) 320013000,q 65 (.zt (.t 64)) 320013001,q 66 (.fM 1 (.t 65)) 320013002,q 67 (.load false 1 (.t 66)) 320013003,q 68 (.de (.t 9)) 320013004,q 69 (.zt (.t 68)) 320013005,q 70 (.fM 1 (.t 69)) 320013006,q 71 (.load false 1 (.t 70)) 320013007,q 72 (.bin .lss .i64 (.t 67) (.t 71)) 320013008,q 63 (.de (.t 72)) 320013009]) (.cond (.t 63) (.eJ false [q 73 (.de (.t 9)) 320014000,q 74 (.de (.t 10)) 320014001,q 75 (.zt (.t 73)) 320014002,q 76 (.fM 0 (.t 75)) 320014003,⟨none,(.store 1 (.t 76) (.t 74)),none,320014004,[]⟩]) .skip)))))))) (.eJ false [q 77 (.bin .add .i64 (.t 33) (.k (.int .i64 1))) 320015000,q 33 (.de (.t 77)) 320015001]))))))) (.seq (.eJ false [q 11 (.de (.k .cq)) 320016000]) (.seq (.eJ false [⟨(some 78),(.mq (.new ⟨false,[.tI]⟩) []),none,320017000,[]⟩,q 12 (.de (.t 78)) 320017001]) (.seq (.seq (.eJ false [q 79 (.de (.t 5)) 320018000,q 80 (.len (.t 79)) 320018001,q 81 (.de (.k (.int .i64 0))) 320018002]) (.block 5 (.loop (.seq (.eJ false [q 82 (.bin .lss .i64 (.t 81) (.t 80)) 320019000]) (.seq (.cond (.t 82) .skip (.exit 5)) (.seq (.block 6 (.seq (.eJ false [q 83 (.de (.t 81)) 320020000,q 84 (.dC 1 (.t 79) (.t 81)) 320020001,q 85 (.load false 1 (.t 84)) 320020002,q 13 (.de (.t 83)) 320020003,q 14 (.de (.t 85)) 320020004]) (.seq (.eJ false [q 87 (.de (.t 12)) 320021000,q 88 (.de (.t 14)) 320021001,q 89 (.call 334 [(.t 88)]) 320021002,q 90 (.zt (.t 89)) 320021003,q 91 (.fM 1 (.t 90)) 320021004,q 92 (.load false 1 (.t 91)) 320021005,⟨(some 93),(.mq (.look ⟨false,[.tI]⟩ true (.int .i64 0)) [(.t 87),(.t 92)]),none,320021006,[]⟩,q 86 (.de (.t 93)) 320021007,q 94 (.extract 0 (.t 86)) 320021008,q 95 (.extract 1 (.t 86)) 320021009,q 15 (.de (.t 94)) 320021010,q 16 (.de (.t 95)) 320021011]) (.seq (.seq (.eJ false [q 96 (.de (.t 16)) 320022000,q 97 (.not (.t 96)) 320022001]) (.cond (.t 97) (.seq (.eJ false [q 98 (.de (.t 11)) 320023000,q 99 (.len (.t 98)) 320023001,q 15 (.de (.t 99)) 320023002]) (.seq (.eJ false [q 100 (.de (.t 12)) 320024000,q 101 (.de (.t 13)) 320024001,q 102 (.de (.t 15)) 320024002,⟨none,(.mw (.set ⟨false,[.tI]⟩) [(.t 100),(.t 101),(.t 102)]),none,320024003,[]⟩]) (.eJ false [q 103 (.de (.t 11)) 320025000,q 104 (.lT 1 1 [(.k .cq)]) 320025001,q 105 (.append 1 (.t 103) (.t 104)) 320025002,q 11 (.de (.t 105)) 320025003]))) .skip)) (.eJ false [q 106 (.de (.t 11)) 320026000,q 107 (.de (.t 15)) 320026001,q 108 (.de (.t 11)) 320026002,q 109 (.de (.t 15)) 320026003,q 110 (.dC 1 (.t 108) (.t 109)) 320026004,q 111 (.load false 1 (.t 110)) 320026005,q 112 (.de (.t 13)) 320026006,q 113 (.lT 1 1 [(.t 112)]) 320026007,q 114 (.append 1 (.t 111) (.t 113)) 320026008,q 115 (.dC 1 (.t 106) (.t 107)) 320026009,⟨none,(.store 1 (.t 115) (.t 114)),none,320026010,[]⟩]))))) (.eJ false [q 116 (.bin .add .i64 (.t 81) (.k (.int .i64 1))) 320027000,q 81 (.de (.t 116)) 320027001]))))))) (.seq (.eJ false [q 117 (.de (.t 11)) 320028000,q 4 (.de (.t 117)) 320028001]) .ret)))))))),[(.tmp 4)]⟩
theorem LV:vp Tryz.prog 320 [(10,2)]=some Np:=by kernel_rfl
end Go.Proofs.YtgoljkjaameagaaGreat.V

namespace Go.Proofs.YtgoljkjaameagaaGreat.V
open Go.RowKit
attribute [local irreducible] ej wpOps fQ Call
attribute [local go_sem] aH fq eD fH fG cV upd bZ K.av cC AV.cells AV.cell rowOf rowsOf part ld rowAt bK bR du dQ gE bB cR eb fF eL dh dV cP cN dD dE bF aT cG bE cI cH dS dW dU cF bJ cQ dR bD aJ cK cm gD bd cz bG aP dn aX dv AV.undef bj bx dG dO dz dF cu ea ei ck dY dX cJ cL List.getD_cons_zero List.getD_cons_succ List.getD_nil List.all_cons List.all_nil Bool.and_true Bool.true_and Bool.and_self Bool.not_true Bool.not_false Option.map_some Option.map_none Option.bind_some Option.bind_none List.length_cons List.length_nil List.take_succ_cons List.take_zero List.take_nil List.drop_succ_cons List.drop_zero List.drop_nil List.head?_cons List.map_cons List.map_nil List.getElem?_cons_zero List.getElem?_cons_succ List.cons_append List.nil_append List.append_nil List.length_map List.set_cons_zero List.set_cons_succ Nat.reduceMul eq_self Int.toNat_natCast Int.natCast_nonneg and_self true_and and_true decide_true decide_false Bool.false_eq_true Nat.zero_add Nat.add_zero List.contains_cons List.contains_nil Bool.or_false Bool.false_or beq_self_eq_true Nat.reduceBEq ne_eq not_true_eq_false not_false_eq_true Id.mk.injEq false_and and_false Nat.reduceLT Int.reduceLE Int.reduceLT Int.reduceToNat Int.reduceNeg Int.reduceAdd Nat.le_refl List.length_append beq_true beq_false Bool.not_eq_eq_eq_not or_false false_or eo aj ar aK aV bp bW aQ aZ aN aU cD bI
def gn (n lo hi:Int):Bool:=decide (lo<=n)&&decide (n<=hi)
theorem dM {n lo hi:Int} (h:gn n lo hi=true):lo<=n/\n<=hi:=by simpa[gn]using h
theorem gr {n lo hi:Int} (h:lo<=n/\n<=hi):gn n lo hi=true:=by simpa[gn]using h
def yp (p:ah):Bool:=gn p.eI (-60) 60&&gn p.eB (-60) 60
theorem iY (n lo hi:Int):aq Tryz.prog 95 [.int .i64 n,.int .i64 lo,.int .i64 hi] (.bool (gn n lo hi)):=by
 refine aq.body eE rfl fun hl n0=>?_
 clear hl
 by_cases h1:lo<=n
 ·(try((repeat(revert hN;revert N;apply Pn.out));refine wk @h1 ?_;(repeat(refine Pn.mk ?_;intro N hN))))
  exact aL (b:=decide (n<=hi)) (.inl rfl) (sd @Nat.zero_add) (by simp[gn,h1])
 ·(try((repeat(revert hN;revert N;apply Pn.out));refine wk @h1 ?_;(repeat(refine Pn.mk ?_;intro N hN))))
  exact aL (b:=false) (.inl rfl) (sd @Nat.zero_add) (by simp[gn,h1])
theorem gT (n lo hi:Int):aq Tryz.prog 98 [.int .i64 n,.int .i64 lo,.int .i64 hi] (.bool (gn n lo hi)):=by
 refine aq.body eE rfl fun hl n0=>?_
 clear hl
 by_cases h1:lo<=n
 ·(try((repeat(revert hN;revert N;apply Pn.out));refine wk @h1 ?_;(repeat(refine Pn.mk ?_;intro N hN))))
  exact aL (b:=decide (n<=hi)) (.inl rfl) (sd @Nat.zero_add) (by simp[gn,h1])
 ·(try((repeat(revert hN;revert N;apply Pn.out));refine wk @h1 ?_;(repeat(refine Pn.mk ?_;intro N hN))))
  exact aL (b:=false) (.inl rfl) (sd @Nat.zero_add) (by simp[gn,h1])
theorem HJ (d:Int):aq Tryz.prog 278 [.int .i64 d] (.bool (gn d 0 3)):=by
 refine aq.body eE rfl fun hl n0=>?_
 clear hl
 have h:=iY d 0 3
 (repeat(first|((repeat(revert hN;revert N;apply Pn.out));refine wk @Nat.zero_add ?_;(repeat(refine Pn.mk ?_;intro N hN)))|((try apply Or.inl);refine⟨_,aq.x (h) (sd @Nat.zero_add),?_⟩;refine hN _ _ ?_;clear hN N)))
 exact aL (b:=gn d 0 3) (.inl rfl) (sd @Nat.zero_add) rfl
theorem ua (p:ah):aq Tryz.prog 222 [.agg (ab p)] (.bool (yp p)):=by
 refine aq.body eE rfl fun hl n0=>?_
 clear hl
 have h1:=iY p.eI (-60) 60
 have h2:=iY p.eB (-60) 60
 by_cases q:gn p.eI (-60) 60=true
 ·rw[q]at h1
  (repeat(first|((repeat(revert hN;revert N;apply Pn.out));refine wk @ab.eq_1 ?_;(repeat(refine Pn.mk ?_;intro N hN)))|((try apply Or.inl);refine⟨_,aq.x (h1) (sd @ab.eq_1),?_⟩;refine hN _ _ ?_;clear hN N)|((try apply Or.inl);refine⟨_,aq.x (h2) (sd @ab.eq_1),?_⟩;refine hN _ _ ?_;clear hN N)))
  exact aL (b:=gn p.eB (-60) 60) (.inl rfl) (sd @Nat.zero_add) (by rw[yp,q];rfl)
 ·rw[Bool.not_eq_true]at q
  rw[q]at h1
  (repeat(first|((repeat(revert hN;revert N;apply Pn.out));refine wk @ab.eq_1 ?_;(repeat(refine Pn.mk ?_;intro N hN)))|((try apply Or.inl);refine⟨_,aq.x (h1) (sd @ab.eq_1),?_⟩;refine hN _ _ ?_;clear hN N)|((try apply Or.inl);refine⟨_,aq.x (h2) (sd @ab.eq_1),?_⟩;refine hN _ _ ?_;clear hN N)))
  exact aL (b:=false) (.inl rfl) (sd @Nat.zero_add) (by rw[yp,q];rfl)
theorem pR (p:ah):aq Tryz.prog 256 [.agg (ab p)] (.bool (yp p)):=by
 refine aq.body eE rfl fun hl n0=>?_
 clear hl
 have h1:=gT p.eI (-60) 60
 have h2:=gT p.eB (-60) 60
 by_cases q:gn p.eI (-60) 60=true
 ·rw[q]at h1
  (repeat(first|((repeat(revert hN;revert N;apply Pn.out));refine wk @ab.eq_1 ?_;(repeat(refine Pn.mk ?_;intro N hN)))|((try apply Or.inl);refine⟨_,aq.x (h1) (sd @ab.eq_1),?_⟩;refine hN _ _ ?_;clear hN N)|((try apply Or.inl);refine⟨_,aq.x (h2) (sd @ab.eq_1),?_⟩;refine hN _ _ ?_;clear hN N)))
  exact aL (b:=gn p.eB (-60) 60) (.inl rfl) (sd @Nat.zero_add) (by rw[yp,q];rfl)
 ·rw[Bool.not_eq_true]at q
  rw[q]at h1
  (repeat(first|((repeat(revert hN;revert N;apply Pn.out));refine wk @ab.eq_1 ?_;(repeat(refine Pn.mk ?_;intro N hN)))|((try apply Or.inl);refine⟨_,aq.x (h1) (sd @ab.eq_1),?_⟩;refine hN _ _ ?_;clear hN N)|((try apply Or.inl);refine⟨_,aq.x (h2) (sd @ab.eq_1),?_⟩;refine hN _ _ ?_;clear hN N)))
  exact aL (b:=false) (.inl rfl) (sd @Nat.zero_add) (by rw[yp,q];rfl)
def j6 (d:Int):Int:=if gn d 0 3 then(d+2) % 4 else -1
def aW (p:ah) (d:Int):ah:=
 if d=0 then⟨p.eI,p.eB+1⟩else if d=1 then⟨p.eI+1,p.eB⟩else if d=2 then⟨p.eI,p.eB-1⟩else if d=3 then⟨p.eI-1,p.eB⟩else p
def iB (n:Int):Prop:=-4611686018427387904<=n/\n<=4611686018427387904
theorem rD (p:ah) (d:Int) (hd:gn d 0 3=true) (hx:iB p.eI) (hy:iB p.eB):aq Tryz.prog 221 [.agg (ab p),.int .i64 d] (.agg (ab (aW p d))):=by
 refine aq.body eE rfl fun hl n0=>?_
 clear hl
 obtain⟨x1,x2⟩:=hx
 obtain⟨y1,y2⟩:=hy
 have w1:IntKind.i64.wrap (p.eI+1)=p.eI+1:=bz (by omega)
 have w2:IntKind.i64.wrap (p.eI-1)=p.eI-1:=bz (by omega)
 have w3:IntKind.i64.wrap (p.eB+1)=p.eB+1:=bz (by omega)
 have w4:IntKind.i64.wrap (p.eB-1)=p.eB-1:=bz (by omega)
 have hb:=dM hd
 have hc:d=0∨d=1∨d=2∨d=3:=by omega
 rcases hc with rfl|rfl|rfl|rfl
 ·(try((repeat(revert hN;revert N;apply Pn.out));refine wk (tw @ab.eq_1 @w3) ?_;(repeat(refine Pn.mk ?_;intro N hN))))
  exact iM (.inl rfl) (vs:=[.agg (ab (aW p 0))]) (by simp only[go_sem, ↓reduceIte,Nat.reduceEqDiff,Nat.reduceAdd,Nat.reduceSub,Nat.reduceLeDiff,reduceCtorEq,e6,gS,ab,aW]) (by simp[eH,ab,fV,ep])
 ·(try((repeat(revert hN;revert N;apply Pn.out));refine wk (tw @ab.eq_1 @w1) ?_;(repeat(refine Pn.mk ?_;intro N hN))))
  exact iM (.inl rfl) (vs:=[.agg (ab (aW p 1))]) (by simp[e6,gS,ab,aW,ld,rowAt,bK,upd,part]) (by simp[eH,ab,fV,ep])
 ·(try((repeat(revert hN;revert N;apply Pn.out));refine wk (tw @ab.eq_1 @w4) ?_;(repeat(refine Pn.mk ?_;intro N hN))))
  exact iM (.inl rfl) (vs:=[.agg (ab (aW p 2))]) (by simp[e6,gS,ab,aW,ld,rowAt,bK,upd,part]) (by simp[eH,ab,fV,ep])
 ·(try((repeat(revert hN;revert N;apply Pn.out));refine wk (tw @ab.eq_1 @w2) ?_;(repeat(refine Pn.mk ?_;intro N hN))))
  exact iM (.inl rfl) (vs:=[.agg (ab (aW p 3))]) (by simp[e6,gS,ab,aW,ld,rowAt,bK,upd,part]) (by simp[eH,ab,fV,ep])
theorem yn (p p2:ah) (x y:Int) (hx:IntKind.i64.wrap (p.eI+p2.eI)=x) (hy:IntKind.i64.wrap (p.eB+p2.eB)=y):aq Tryz.prog 280 [.agg (ab p),.agg (ab p2)] (.agg [.int .i64 x,.int .i64 y]):=by
 refine aq.body eE rfl fun hl n0=>?_
 clear hl
 (try((repeat(revert hN;revert N;apply Pn.out));refine wk (tw @ab.eq_1 (tw @hx @hy)) ?_;(repeat(refine Pn.mk ?_;intro N hN))))
 exact iM (.inl rfl) (vs:=[.agg [.int .i64 x,.int .i64 y]]) (by simp only[go_sem, ↓reduceIte,Nat.reduceEqDiff,Nat.reduceAdd,Nat.reduceSub,Nat.reduceLeDiff,reduceCtorEq,e6,gS,ab]) (by simp[eH,fV,ep])
theorem C1 (p:ah) (d:Int) (hd:gn d 0 3=true) (hx:iB p.eI) (hy:iB p.eB):aq Tryz.prog 228 [.agg (ab p),.int .i64 d] (.agg (ab (aW p d))):=by
 refine aq.body eE rfl fun hl n0=>?_
 clear hl
 obtain⟨x1,x2⟩:=hx
 obtain⟨y1,y2⟩:=hy
 have hb:=dM hd
 have hc:d=0∨d=1∨d=2∨d=3:=by omega
 rcases hc with rfl|rfl|rfl|rfl
 ·have h:=yn p ⟨0,1⟩ (p.eI) (p.eB+1) (by rw[bz (by constructor<;>simp only<;>omega)]<;>(try simp only)<;>(try omega)) (by rw[bz (by constructor<;>simp only<;>omega)]<;>(try simp only)<;>(try omega))
  simp only[ab]at h
  (repeat(first|((repeat(revert hN;revert N;apply Pn.out));refine wk @ab.eq_1 ?_;(repeat(refine Pn.mk ?_;intro N hN)))|((try apply Or.inl);refine⟨_,aq.x (h) (sd @ab.eq_1),?_⟩;refine hN _ _ ?_;clear hN N)))
  exact iM (.inl rfl) (vs:=[.agg (ab (aW p 0))]) (by simp[e6,gS,ab,aW,ld,rowAt,bK,upd,part]) (by simp[eH,ab,fV,ep])
 ·have h:=yn p ⟨1,0⟩ (p.eI+1) (p.eB) (by rw[bz (by constructor<;>simp only<;>omega)]<;>(try simp only)<;>(try omega)) (by rw[bz (by constructor<;>simp only<;>omega)]<;>(try simp only)<;>(try omega))
  simp only[ab]at h
  (repeat(first|((repeat(revert hN;revert N;apply Pn.out));refine wk @ab.eq_1 ?_;(repeat(refine Pn.mk ?_;intro N hN)))|((try apply Or.inl);refine⟨_,aq.x (h) (sd @ab.eq_1),?_⟩;refine hN _ _ ?_;clear hN N)))
  exact iM (.inl rfl) (vs:=[.agg (ab (aW p 1))]) (by simp[e6,gS,ab,aW,ld,rowAt,bK,upd,part]) (by simp[eH,ab,fV,ep])
 ·have h:=yn p ⟨0,(-1)⟩ (p.eI) (p.eB-1) (by rw[bz (by constructor<;>simp only<;>omega)]<;>(try simp only)<;>(try omega)) (by rw[bz (by constructor<;>simp only<;>omega)]<;>(try simp only)<;>(try omega))
  simp only[ab]at h
  (repeat(first|((repeat(revert hN;revert N;apply Pn.out));refine wk @ab.eq_1 ?_;(repeat(refine Pn.mk ?_;intro N hN)))|((try apply Or.inl);refine⟨_,aq.x (h) (sd @ab.eq_1),?_⟩;refine hN _ _ ?_;clear hN N)))
  exact iM (.inl rfl) (vs:=[.agg (ab (aW p 2))]) (by simp[e6,gS,ab,aW,ld,rowAt,bK,upd,part]) (by simp[eH,ab,fV,ep])
 ·have h:=yn p ⟨(-1),0⟩ (p.eI-1) (p.eB) (by rw[bz (by constructor<;>simp only<;>omega)]<;>(try simp only)<;>(try omega)) (by rw[bz (by constructor<;>simp only<;>omega)]<;>(try simp only)<;>(try omega))
  simp only[ab]at h
  (repeat(first|((repeat(revert hN;revert N;apply Pn.out));refine wk @ab.eq_1 ?_;(repeat(refine Pn.mk ?_;intro N hN)))|((try apply Or.inl);refine⟨_,aq.x (h) (sd @ab.eq_1),?_⟩;refine hN _ _ ?_;clear hN N)))
  exact iM (.inl rfl) (vs:=[.agg (ab (aW p 3))]) (by simp[e6,gS,ab,aW,ld,rowAt,bK,upd,part]) (by simp[eH,ab,fV,ep])
theorem CI (d:Int) (hd:gn d 0 3=true):aq Tryz.prog 304 [.int .i64 d] (.int .i64 (j6 d)):=by
 refine aq.body eE rfl fun hl n0=>?_
 clear hl
 have hb:=dM hd
 have hw:IntKind.i64.wrap (d+2)=d+2:=bz (by omega)
 have ht:Int.tmod (d+2) 4=(d+2) % 4:=Int.tmod_eq_emod_of_nonneg (by omega)
 have h4:¬((4:Int)=0):=by omega
 (try((repeat(revert hN;revert N;apply Pn.out));refine wk (tw @hw (tw @ht @h4)) ?_;(repeat(refine Pn.mk ?_;intro N hN))))
 exact bU (b:=(d+2) % 4) (.inl rfl) (sd @Nat.zero_add) (by rw[j6,if_pos hd])
theorem tj (d:Int) (hd:gn d 0 3=true):aq Tryz.prog 224 [.int .i64 d] (.int .i64 (j6 d)):=by
 refine aq.body eE rfl fun hl n0=>?_
 clear hl
 have hb:=dM hd
 have hw:IntKind.i64.wrap (d+2)=d+2:=bz (by omega)
 have ht:Int.tmod (d+2) 4=(d+2) % 4:=Int.tmod_eq_emod_of_nonneg (by omega)
 have h4:¬((4:Int)=0):=by omega
 have h:=HJ d
 rw[hd]at h
 (repeat(first|((repeat(revert hN;revert N;apply Pn.out));refine wk (tw @hw (tw @ht @h4)) ?_;(repeat(refine Pn.mk ?_;intro N hN)))|((try apply Or.inl);refine⟨_,aq.x (h) (sd (tw @hw (tw @ht @h4))),?_⟩;refine hN _ _ ?_;clear hN N)))
 exact bU (b:=(d+2) % 4) (.inl rfl) (sd @Nat.zero_add) (by rw[j6,if_pos hd])
def eK (s:au) (t:Int):Bool:=gn t 0 ((s.ae.length:Int)-1)
theorem Cw (s:au) (t:Int):aq Tryz.prog 220 [.dd (aa s),.int .i64 t] (.bool (eK s t)):=by
 refine aq.body eE rfl fun hl n0=>?_
 have hn:s.ae.length<=9223372036854775807:=by
  have h1:=(hl (.dd (aa s)) (by simp)).Af (a:=.sl (s.ae.map bh)) (by simp[aa])
  simpa using h1.len
 clear hl
 have hw:IntKind.i64.wrap ((s.ae.length:Int)-1)=(s.ae.length:Int)-1:=bz (by omega)
 have h:=iY t 0 ((s.ae.length:Int)-1)
 (repeat(first|((repeat(revert hN;revert N;apply Pn.out));refine wk (tw @aa.eq_1 @hw) ?_;(repeat(refine Pn.mk ?_;intro N hN)))|((try apply Or.inl);refine⟨_,aq.x (h) (sd (tw @aa.eq_1 @hw)),?_⟩;refine hN _ _ ?_;clear hN N)))
 exact aL (b:=eK s t) (.inl rfl) (by simp only[go_sem, ↓reduceIte,Nat.reduceEqDiff,Nat.reduceAdd,Nat.reduceSub,Nat.reduceLeDiff,reduceCtorEq,eK]) rfl
theorem wS (t n:Int) (h0:0<=n) (h1:n<=9223372036854775807):aq Tryz.prog 257 [.int .i64 t,.int .i64 n] (.bool (gn t 0 (n-1))):=by
 refine aq.body eE rfl fun hl n0=>?_
 clear hl
 have hw:IntKind.i64.wrap (n-1)=n-1:=bz (by omega)
 have h:=gT t 0 (n-1)
 (repeat(first|((repeat(revert hN;revert N;apply Pn.out));refine wk @hw ?_;(repeat(refine Pn.mk ?_;intro N hN)))|((try apply Or.inl);refine⟨_,aq.x (h) (sd @hw),?_⟩;refine hN _ _ ?_;clear hN N)))
 exact aL (b:=gn t 0 (n-1)) (.inl rfl) (sd @Nat.zero_add) rfl
theorem HG (s:au) (t:Int):aq Tryz.prog 203 [.agg (aa s),.int .i64 t] (.bool (eK s t)):=by
 refine aq.body eE rfl fun hl n0=>?_
 have hn:s.ae.length<=9223372036854775807:=by
  have h1:=(hl (.agg (aa s)) (by simp)).LJ (a:=.sl (s.ae.map bh)) (by simp[aa])
  simpa using h1.len
 clear hl
 have h:=wS t s.ae.length (by omega) (by omega)
 (repeat(first|((repeat(revert hN;revert N;apply Pn.out));refine wk @aa.eq_1 ?_;(repeat(refine Pn.mk ?_;intro N hN)))|((try apply Or.inl);refine⟨_,aq.x (h) (sd @aa.eq_1),?_⟩;refine hN _ _ ?_;clear hN N)))
 exact aL (b:=eK s t) (.inl rfl) (by simp only[go_sem, ↓reduceIte,Nat.reduceEqDiff,Nat.reduceAdd,Nat.reduceSub,Nat.reduceLeDiff,reduceCtorEq,eK]) rfl
def yk:e8:=⟨⟨#[]⟩,[]⟩
def cZ (s:au) (t:Int):e8:=s.ae.getD t.toNat yk
def cY (t:e8) (d:Int):Int:=t.bY.getD d.toNat 0
def pd (s:au) (g:Int):gI:=s.aC.getD g.toNat ⟨⟨#[]⟩,0⟩
def oG (s:au) (g:Int):Int:=if g=0 then 0 else(pd s (g-1)).ez
def gC (s:au) (a d b:Int):Int:=if cY (cZ s a) d=cY (cZ s b) (j6 d)then oG s (cY (cZ s a) d)else 0
structure iH (s:au):Prop where
 oU:∀t∈s.ae,t.bY.length=4
 r7:∀t∈s.ae,∀g∈t.bY,0<=g/\g<=s.aC.length
theorem getD_map {α β:Type} (e:α->β) {l:List α} {k:Nat} {d:α} (h:k<l.length):(l.map e)[k]? =some (e (l.getD k d)):=by simp[List.getD_eq_getElem?_getD,h]
theorem oN (s:au) (g:Int) (h0:0<=g) (h1:g<=s.aC.length):aq Tryz.prog 225 [.dd (aa s),.int .i64 g] (.int .i64 (oG s g)):=by
 refine aq.body eE rfl fun hl n0=>?_
 have hn:s.aC.length<=9223372036854775807:=by
  have h1:=(hl (.dd (aa s)) (by simp)).Af (a:=.sl (s.aC.map cw)) (by simp[aa])
  simpa using h1.len
 clear hl
 by_cases hg:g=0
 ·have e:decide (g=0)=true:=decide_eq_true hg
  (try((repeat(revert hN;revert N;apply Pn.out));refine wk (tw @aa.eq_1 @e) ?_;(repeat(refine Pn.mk ?_;intro N hN))))
  exact bU (b:=0) (.inl rfl) (sd @Nat.zero_add) (by rw[oG,if_pos hg])
 ·have e:decide (g=0)=false:=decide_eq_false hg
  have hw:IntKind.i64.wrap (g-1)=g-1:=bz (by omega)
  have pg:0<=g-1:=by omega
  have gi:(s.aC.map cw)[(g-1).toNat]? =some (cw (pd s (g-1))):=getD_map cw (by omega)
  (try((repeat(revert hN;revert N;apply Pn.out));refine wk (tw @aa.eq_1 (tw @e (tw @hw (tw @pg (tw @gi @cw.eq_1))))) ?_;(repeat(refine Pn.mk ?_;intro N hN))))
  exact bU (b:=(pd s (g-1)).ez) (.inl rfl) (sd @Nat.zero_add) (by rw[oG,if_neg hg])
theorem jL {s:au} {a:Int} (h:eK s a=true):0<=a/\(s.ae.map bh)[a.toNat]? =some (bh (cZ s a))/\cZ s a∈s.ae:=by
 have h':=dM h
 have dJ:a.toNat<s.ae.length:=by omega
 refine⟨h'.1,getD_map bh dJ,?_⟩
 unfold cZ
 rw[List.getD_eq_getElem?_getD,List.getElem?_eq_getElem dJ]
 exact List.getElem_mem dJ
theorem kE {t:e8} {d:Int} (h:t.bY.length=4) (hd:gn d 0 3=true):(t.bY.map aA)[d.toNat]? =some [.int .i64 (cY t d)]:=by
 have:=dM hd
 exact getD_map aA (by omega)
theorem uM {t:e8} {d:Int} (h:t.bY.length=4) (hd:gn d 0 3=true):cY t d∈t.bY:=by
 have:=dM hd
 have dJ:d.toNat<t.bY.length:=by omega
 unfold cY
 rw[List.getD_eq_getElem?_getD,List.getElem?_eq_getElem dJ]
 exact List.getElem_mem dJ
theorem pE {d:Int} (hd:gn d 0 3=true):gn (j6 d) 0 3=true:=by
 have:=dM hd
 refine gr ?_
 rw[j6,if_pos hd];omega
theorem Fm (s:au) (hF:iH s) (a d b:Int) (ha:eK s a=true) (hb:eK s b=true) (hd:gn d 0 3=true):aq Tryz.prog 190 [.dd (aa s),.int .i64 a,.int .i64 d,.int .i64 b] (.int .i64 (gC s a d b)):=by
 refine aq.body eE rfl fun hl n0=>?_
 clear hl
 obtain⟨a0,a1,a2⟩:=jL ha
 obtain⟨b0,b1,b2⟩:=jL hb
 have s1:=kE (hF.oU _ a2) hd
 have s2:=kE (hF.oU _ b2) (pE hd)
 have gl:=hF.r7 _ a2 _ (uM (hF.oU _ a2) hd)
 have d0:=(dM hd).1
 have d1:=(dM (pE hd)).1
 have h:=tj d hd
 have hs:=oN s (cY (cZ s a) d) gl.1 gl.2
 rw[aa]at hs
 by_cases e:cY (cZ s a) d=cY (cZ s b) (j6 d)
 ·have e':decide (cY (cZ s a) d=cY (cZ s b) (j6 d))=true:=decide_eq_true e
  (repeat(first|((repeat(revert hN;revert N;apply Pn.out));refine wk (tw @aa.eq_1 (tw @bh.eq_1 (tw @a0 (tw @a1 (tw @b0 (tw @b1 (tw @s1 (tw @s2 (tw @d0 (tw @d1 @e')))))))))) ?_;(repeat(refine Pn.mk ?_;intro N hN)))|((try apply Or.inl);refine⟨_,aq.x (h) (sd (tw @aa.eq_1 (tw @bh.eq_1 (tw @a0 (tw @a1 (tw @b0 (tw @b1 (tw @s1 (tw @s2 (tw @d0 (tw @d1 @e'))))))))))),?_⟩;refine hN _ _ ?_;clear hN N)|((try apply Or.inl);refine⟨_,aq.x (hs) (sd (tw @aa.eq_1 (tw @bh.eq_1 (tw @a0 (tw @a1 (tw @b0 (tw @b1 (tw @s1 (tw @s2 (tw @d0 (tw @d1 @e'))))))))))),?_⟩;refine hN _ _ ?_;clear hN N)))
  exact bU (b:=oG s (cY (cZ s a) d)) (.inl rfl) (sd @Nat.zero_add) (by rw[gC,if_pos e])
 ·have e':decide (cY (cZ s a) d=cY (cZ s b) (j6 d))=false:=decide_eq_false e
  (repeat(first|((repeat(revert hN;revert N;apply Pn.out));refine wk (tw @aa.eq_1 (tw @bh.eq_1 (tw @a0 (tw @a1 (tw @b0 (tw @b1 (tw @s1 (tw @s2 (tw @d0 (tw @d1 @e')))))))))) ?_;(repeat(refine Pn.mk ?_;intro N hN)))|((try apply Or.inl);refine⟨_,aq.x (h) (sd (tw @aa.eq_1 (tw @bh.eq_1 (tw @a0 (tw @a1 (tw @b0 (tw @b1 (tw @s1 (tw @s2 (tw @d0 (tw @d1 @e'))))))))))),?_⟩;refine hN _ _ ?_;clear hN N)))
  exact bU (b:=0) (.inl rfl) (sd @Nat.zero_add) (by rw[gC,if_neg e])
theorem C5 (s:au) (hF:iH s) (a d:Int) (ha:eK s a=true) (hd:gn d 0 3=true):aq Tryz.prog 305 [.agg (aa s),.int .i64 a,.int .i64 d] (.int .i64 (oG s (cY (cZ s a) d))):=by
 refine aq.body eE rfl fun hl n0=>?_
 have hn:s.aC.length<=9223372036854775807:=by
  have h1:=(hl (.agg (aa s)) (by simp)).LJ (a:=.sl (s.aC.map cw)) (by simp[aa])
  simpa using h1.len
 clear hl
 obtain⟨a0,a1,a2⟩:=jL ha
 have s1:=kE (hF.oU _ a2) hd
 have gl:=hF.r7 _ a2 _ (uM (hF.oU _ a2) hd)
 have d0:=(dM hd).1
 by_cases hg:cY (cZ s a) d=0
 ·have e:¬(0<cY (cZ s a) d):=by omega
  (try((repeat(revert hN;revert N;apply Pn.out));refine wk (tw @aa.eq_1 (tw @bh.eq_1 (tw @a0 (tw @a1 (tw @s1 (tw @d0 @e)))))) ?_;(repeat(refine Pn.mk ?_;intro N hN))))
  exact bU (b:=0) (.inl rfl) (sd @Nat.zero_add) (by rw[oG,if_pos hg])
 ·have e:0<cY (cZ s a) d:=by omega
  have hw:IntKind.i64.wrap (cY (cZ s a) d-1)=cY (cZ s a) d-1:=bz (by omega)
  have pg:0<=cY (cZ s a) d-1:=by omega
  have gi:(s.aC.map cw)[(cY (cZ s a) d-1).toNat]? =some (cw (pd s (cY (cZ s a) d-1))):=getD_map cw (by omega)
  (try((repeat(revert hN;revert N;apply Pn.out));refine wk (tw @aa.eq_1 (tw @bh.eq_1 (tw @a0 (tw @a1 (tw @s1 (tw @d0 (tw @e (tw @hw (tw @pg (tw @gi @cw.eq_1)))))))))) ?_;(repeat(refine Pn.mk ?_;intro N hN))))
  exact bU (b:=(pd s (cY (cZ s a) d-1)).ez) (.inl rfl) (sd @Nat.zero_add) (by rw[oG,if_neg hg])
theorem GR (s:au) (hF:iH s) (a d b:Int) (ha:eK s a=true) (hb:eK s b=true) (hd:gn d 0 3=true):aq Tryz.prog 261 [.agg (aa s),.int .i64 a,.int .i64 d,.int .i64 b] (.int .i64 (gC s a d b)):=by
 refine aq.body eE rfl fun hl n0=>?_
 clear hl
 obtain⟨a0,a1,a2⟩:=jL ha
 obtain⟨b0,b1,b2⟩:=jL hb
 have s1:=kE (hF.oU _ a2) hd
 have s2:=kE (hF.oU _ b2) (pE hd)
 have d0:=(dM hd).1
 have d1:=(dM (pE hd)).1
 have h:=CI d hd
 have hs:=C5 s hF a d ha hd
 rw[aa]at hs
 by_cases e:cY (cZ s a) d=cY (cZ s b) (j6 d)
 ·have e':decide (cY (cZ s a) d=cY (cZ s b) (j6 d))=true:=decide_eq_true e
  (repeat(first|((repeat(revert hN;revert N;apply Pn.out));refine wk (tw @aa.eq_1 (tw @bh.eq_1 (tw @a0 (tw @a1 (tw @b0 (tw @b1 (tw @s1 (tw @s2 (tw @d0 (tw @d1 @e')))))))))) ?_;(repeat(refine Pn.mk ?_;intro N hN)))|((try apply Or.inl);refine⟨_,aq.x (h) (sd (tw @aa.eq_1 (tw @bh.eq_1 (tw @a0 (tw @a1 (tw @b0 (tw @b1 (tw @s1 (tw @s2 (tw @d0 (tw @d1 @e'))))))))))),?_⟩;refine hN _ _ ?_;clear hN N)|((try apply Or.inl);refine⟨_,aq.x (hs) (sd (tw @aa.eq_1 (tw @bh.eq_1 (tw @a0 (tw @a1 (tw @b0 (tw @b1 (tw @s1 (tw @s2 (tw @d0 (tw @d1 @e'))))))))))),?_⟩;refine hN _ _ ?_;clear hN N)))
  exact bU (b:=oG s (cY (cZ s a) d)) (.inl rfl) (sd @Nat.zero_add) (by rw[gC,if_pos e])
 ·have e':decide (cY (cZ s a) d=cY (cZ s b) (j6 d))=false:=decide_eq_false e
  (repeat(first|((repeat(revert hN;revert N;apply Pn.out));refine wk (tw @aa.eq_1 (tw @bh.eq_1 (tw @a0 (tw @a1 (tw @b0 (tw @b1 (tw @s1 (tw @s2 (tw @d0 (tw @d1 @e')))))))))) ?_;(repeat(refine Pn.mk ?_;intro N hN)))|((try apply Or.inl);refine⟨_,aq.x (h) (sd (tw @aa.eq_1 (tw @bh.eq_1 (tw @a0 (tw @a1 (tw @b0 (tw @b1 (tw @s1 (tw @s2 (tw @d0 (tw @d1 @e'))))))))))),?_⟩;refine hN _ _ ?_;clear hN N)))
  exact bU (b:=0) (.inl rfl) (sd @Nat.zero_add) (by rw[gC,if_neg e])
end Go.Proofs.YtgoljkjaameagaaGreat.V

namespace Go.Proofs.YtgoljkjaameagaaGreat
open Go.RowKit
def km (n:Int):Bool:=(decide (97<=n)&&decide (n<=122))||(decide (65<=n)&&decide (n<=90))
def kK (n:Int):Bool:=decide (48<=n)&&decide (n<=57)
def sD (i:Nat) (n:Int):Prop:=km n=true∨(0<i/\(kK n=true∨n=95))
def th (s:ByteArray):Prop:=(1<=s.size/\s.size<=12)/\∀i (h:i<s.size),sD i s[i].toNat
open Classical in
noncomputable def jl (s:ByteArray):Bool:=decide (th s)
theorem CG {s:ByteArray} (h:th s):true=jl s:=by simp[jl,h]
theorem ee {s:ByteArray} (h:¬th s):false=jl s:=by simp[jl,h]
theorem Ax {s:ByteArray} {b:Bool} (hb:b=true) (h:th s):b=jl s:=by simp[jl,h,hb]
theorem qn {s:ByteArray} {b:Bool} (hb:b=false) (h:¬th s):b=jl s:=by simp[jl,h,hb]
theorem ud (w:World) (n:Int):Calls Tryz.prog 285 #[.int .u8 n] w fun e w'=>e=.returned (.bool (km n))/\w=w':=by
 go_enter Tryz.func285,Tryz.ntmps285
 go_wp2_with fail
 all_goals
  go_ret
  exact⟨ia (by unfold km;simp[*];try omega),rfl⟩
theorem EN (w:World) (n:Int):Calls Tryz.prog 286 #[.int .u8 n] w fun e w'=>e=.returned (.bool (kK n))/\w=w':=by
 go_enter Tryz.func286,Tryz.ntmps286
 go_wp2_with fail
 all_goals
  go_ret
  exact⟨ia (by unfold kK;simp[*];try omega),rfl⟩
theorem AJ (w:World) (s:ByteArray) (hs:s.size<=9223372036854775807):Calls Tryz.prog 237 #[.string s] w fun e w'=>e=.returned (.bool (jl s))/\Below w.heap.size w w':=by
 by_cases h1:1<=s.size
 case neg=>
  go_enter Tryz.func237,Tryz.ntmps237
  go_wp2_with fail
  go_ret
  exact⟨ia (ee fun h=>h1 h.1.1),Below.refl _ _⟩
 by_cases h2:s.size<=12
 case neg=>
  go_enter Tryz.func237,Tryz.ntmps237
  go_wp2_with fail
  go_ret
  exact⟨ia (ee fun h=>h2 h.1.2),Below.refl _ _⟩
 go_enter Tryz.func237,Tryz.ntmps237
 go_wp2_with fail
 refine(ud _ _).mono ?_
 rintro e w' ⟨rfl,rfl⟩
 cases h3:km s[0].toNat
 ·go_wp2_with fail
  go_ret
  exact⟨ia (ee fun h=>by have:=h.2 0 (by omega);simp only[sD]at this;rw[h3]at this;simp at this),Below.refl _ _⟩
 ·replace h3:=Lib.hid h3
  go_wp2_with fail
  go_loop [3] (fun i=>∃k:Nat,1<=k/\k<=s.size/\i=.int .i64 k/\Hid (∀j (h:j<s.size),j<k->sD j s[j].toNat)) (fun i=>s.size-(intOf i).toNat)
  case atStart=>exact⟨1,by omega,by omega,rfl,Lib.hid fun j h hj=>by
   obtain rfl:j=0:=by omega
   exact .inl h3.out⟩
  case round=>
   obtain⟨k,ph,hk,rfl,dy⟩:=hrel
   by_cases dJ:k<s.size
   ·go_wp2_with fail
    refine(ud _ _).mono ?_
    rintro e w' ⟨rfl,rfl⟩
    have kN:sD k s[k].toNat∨¬sD k s[k].toNat:=Classical.em _
    cases hl:km s[k].toNat
    ·go_wp2_with fail
     refine(EN _ _).mono ?_
     rintro e w' ⟨rfl,rfl⟩
     cases hd:kK s[k].toNat
     ·by_cases sU:(s[k].toNat:Int)=95
      ·have RL:((s[k].toNat:Int) !=95)=false:=by simp;omega
       replace sU:=Lib.hid sU
       replace hl:=Lib.hid hl
       replace hd:=Lib.hid hd
       go_wp2_with fail
       go_round
       case rel=>exact⟨k+1,by omega,by omega,by go_num,Lib.hid fun j h hj=>by
        by_cases wK:j=k
        ·subst wK;exact .inr ⟨by omega,.inr sU.out⟩
        ·exact dy.out j h (by omega)⟩
       case measure=>simp[intOf];omega
      ·have RL:((s[k].toNat:Int) !=95)=true:=by simp;omega
       replace sU:=Lib.hid sU
       replace hl:=Lib.hid hl
       replace hd:=Lib.hid hd
       go_wp2_with fail
       go_ret
       exact⟨ia (ee fun h=>by
        have:=h.2 k dJ;simp only[sD,hl.out,hd.out]at this;exact sU.out (by simp at this;exact this.2)),Below.refl _ _⟩
     ·replace hl:=Lib.hid hl
      replace hd:=Lib.hid hd
      go_wp2_with fail
      go_round
      case rel=>exact⟨k+1,by omega,by omega,by go_num,Lib.hid fun j h hj=>by
       by_cases wK:j=k
       ·subst wK;exact .inr ⟨by omega,.inl hd.out⟩
       ·exact dy.out j h (by omega)⟩
      case measure=>simp[intOf];omega
    ·replace hl:=Lib.hid hl
     go_wp2_with fail
     go_round
     case rel=>exact⟨k+1,by omega,by omega,by go_num,Lib.hid fun j h hj=>by
      by_cases wK:j=k
      ·subst wK;exact .inl hl.out
      ·exact dy.out j h (by omega)⟩
     case measure=>simp[intOf];omega
   ·go_wp2_with fail
    go_ret
    exact⟨ia (CG ⟨⟨h1,h2⟩,fun i h=>dy.out i h (by omega)⟩),Below.refl _ _⟩
theorem Aa (w:World) (s:ByteArray) (hs:s.size<=9223372036854775807):Calls Tryz.prog 254 #[.string s] w fun e w'=>e=.returned (.bool (jl s))/\w=w':=by
 go_enter Tryz.func254,Tryz.ntmps254
 go_wp2_with fail
 go_loop [8] (fun i=>∃k:Nat,k<=s.size/\i=.int .i64 k/\Hid (∀j (h:j<s.size),j<k->sD j s[j].toNat)) (fun i=>s.size-(intOf i).toNat)
 case atStart=>exact⟨0,by omega,rfl,Lib.hid fun j h hj=>by omega⟩
 case round=>
  obtain⟨k,hk,rfl,dy⟩:=hrel
  by_cases dJ:k<s.size
  ·have hc:(s[k].toNat:Int)<48∨(48<=(s[k].toNat:Int)/\(s[k].toNat:Int)<=57)∨(58<=(s[k].toNat:Int)/\(s[k].toNat:Int)<=64)∨(65<=(s[k].toNat:Int)/\(s[k].toNat:Int)<=90)∨(91<=(s[k].toNat:Int)/\(s[k].toNat:Int)<=94)∨(95<=(s[k].toNat:Int)/\(s[k].toNat:Int)<=95)∨(96<=(s[k].toNat:Int)/\(s[k].toNat:Int)<=96)∨(97<=(s[k].toNat:Int)/\(s[k].toNat:Int)<=122)∨123<=(s[k].toNat:Int):=by omega
   by_cases u7:k=0
   ·subst u7
    rcases hc with h|⟨h,h'⟩|⟨h,h'⟩|⟨h,h'⟩|⟨h,h'⟩|⟨h,h'⟩|⟨h,h'⟩|⟨h,h'⟩|h
    ·have sU:((s[0].toNat:Int) !=95)=true:=by simp;try omega
     go_wp2_with fail
     all_goals first
      |(go_ret;exact⟨ia (ee fun hh=>by have:=hh.2 0 dJ;simp[sD,km,kK]at this;omega),rfl⟩)
      |(exfalso;simp_all;done)
      |(exfalso;simp_all;omega)
    ·have sU:((s[0].toNat:Int) !=95)=true:=by simp;try omega
     go_wp2_with fail
     all_goals first
      |(go_ret;exact⟨ia (ee fun hh=>by have:=hh.2 0 dJ;simp[sD,km,kK]at this;omega),rfl⟩)
      |(exfalso;simp_all;done)
      |(exfalso;simp_all;omega)
    ·have sU:((s[0].toNat:Int) !=95)=true:=by simp;try omega
     go_wp2_with fail
     all_goals first
      |(go_ret;exact⟨ia (ee fun hh=>by have:=hh.2 0 dJ;simp[sD,km,kK]at this;omega),rfl⟩)
      |(exfalso;simp_all;done)
      |(exfalso;simp_all;omega)
    ·have sU:((s[0].toNat:Int) !=95)=true:=by simp;try omega
     go_wp2_with fail
     go_round
     case rel=>exact⟨0+1,by omega,by go_num,Lib.hid fun j hj wK=>by
      by_cases Hs:j=0
      ·subst Hs;simp[sD,km,kK];omega
      ·exact dy.out j hj (by omega)⟩
     case measure=>simp[intOf];try omega
    ·have sU:((s[0].toNat:Int) !=95)=true:=by simp;try omega
     go_wp2_with fail
     all_goals first
      |(go_ret;exact⟨ia (ee fun hh=>by have:=hh.2 0 dJ;simp[sD,km,kK]at this;omega),rfl⟩)
      |(exfalso;simp_all;done)
      |(exfalso;simp_all;omega)
    ·have sU:((s[0].toNat:Int) !=95)=false:=by simp;try omega
     go_wp2_with fail
     all_goals first
      |(go_ret;exact⟨ia (ee fun hh=>by have:=hh.2 0 dJ;simp[sD,km,kK]at this;omega),rfl⟩)
      |(exfalso;simp_all;done)
      |(exfalso;simp_all;omega)
    ·have sU:((s[0].toNat:Int) !=95)=true:=by simp;try omega
     go_wp2_with fail
     all_goals first
      |(go_ret;exact⟨ia (ee fun hh=>by have:=hh.2 0 dJ;simp[sD,km,kK]at this;omega),rfl⟩)
      |(exfalso;simp_all;done)
      |(exfalso;simp_all;omega)
    ·have sU:((s[0].toNat:Int) !=95)=true:=by simp;try omega
     go_wp2_with fail
     go_round
     case rel=>exact⟨0+1,by omega,by go_num,Lib.hid fun j hj wK=>by
      by_cases Hs:j=0
      ·subst Hs;simp[sD,km,kK];omega
      ·exact dy.out j hj (by omega)⟩
     case measure=>simp[intOf];try omega
    ·have sU:((s[0].toNat:Int) !=95)=true:=by simp;try omega
     go_wp2_with fail
     all_goals first
      |(go_ret;exact⟨ia (ee fun hh=>by have:=hh.2 0 dJ;simp[sD,km,kK]at this;omega),rfl⟩)
      |(exfalso;simp_all;done)
      |(exfalso;simp_all;omega)
   ·have hz:((k:Int)==0)=false:=by simpa using u7
    have ph:1<=k:=by omega
    clear u7
    rcases hc with h|⟨h,h'⟩|⟨h,h'⟩|⟨h,h'⟩|⟨h,h'⟩|⟨h,h'⟩|⟨h,h'⟩|⟨h,h'⟩|h
    ·have sU:((s[k].toNat:Int) !=95)=true:=by simp;try omega
     go_wp2_with fail
     all_goals first
      |(go_ret;exact⟨ia (ee fun hh=>by have:=hh.2 k dJ;simp[sD,km,kK]at this;omega),rfl⟩)
      |(exfalso;simp_all;done)
      |(exfalso;simp_all;omega)
    ·have sU:((s[k].toNat:Int) !=95)=true:=by simp;try omega
     go_wp2_with fail
     go_round
     case rel=>exact⟨k+1,by omega,by go_num,Lib.hid fun j hj wK=>by
      by_cases Hs:j=k
      ·subst Hs;simp[sD,km,kK];omega
      ·exact dy.out j hj (by omega)⟩
     case measure=>simp[intOf];try omega
    ·have sU:((s[k].toNat:Int) !=95)=true:=by simp;try omega
     go_wp2_with fail
     all_goals first
      |(go_ret;exact⟨ia (ee fun hh=>by have:=hh.2 k dJ;simp[sD,km,kK]at this;omega),rfl⟩)
      |(exfalso;simp_all;done)
      |(exfalso;simp_all;omega)
    ·have sU:((s[k].toNat:Int) !=95)=true:=by simp;try omega
     go_wp2_with fail
     go_round
     case rel=>exact⟨k+1,by omega,by go_num,Lib.hid fun j hj wK=>by
      by_cases Hs:j=k
      ·subst Hs;simp[sD,km,kK];omega
      ·exact dy.out j hj (by omega)⟩
     case measure=>simp[intOf];try omega
    ·have sU:((s[k].toNat:Int) !=95)=true:=by simp;try omega
     go_wp2_with fail
     all_goals first
      |(go_ret;exact⟨ia (ee fun hh=>by have:=hh.2 k dJ;simp[sD,km,kK]at this;omega),rfl⟩)
      |(exfalso;simp_all;done)
      |(exfalso;simp_all;omega)
    ·have sU:((s[k].toNat:Int) !=95)=false:=by simp;try omega
     go_wp2_with fail
     go_round
     case rel=>exact⟨k+1,by omega,by go_num,Lib.hid fun j hj wK=>by
      by_cases Hs:j=k
      ·subst Hs;simp[sD,km,kK];omega
      ·exact dy.out j hj (by omega)⟩
     case measure=>simp[intOf];try omega
    ·have sU:((s[k].toNat:Int) !=95)=true:=by simp;try omega
     go_wp2_with fail
     all_goals first
      |(go_ret;exact⟨ia (ee fun hh=>by have:=hh.2 k dJ;simp[sD,km,kK]at this;omega),rfl⟩)
      |(exfalso;simp_all;done)
      |(exfalso;simp_all;omega)
    ·have sU:((s[k].toNat:Int) !=95)=true:=by simp;try omega
     go_wp2_with fail
     go_round
     case rel=>exact⟨k+1,by omega,by go_num,Lib.hid fun j hj wK=>by
      by_cases Hs:j=k
      ·subst Hs;simp[sD,km,kK];omega
      ·exact dy.out j hj (by omega)⟩
     case measure=>simp[intOf];try omega
    ·have sU:((s[k].toNat:Int) !=95)=true:=by simp;try omega
     go_wp2_with fail
     all_goals first
      |(go_ret;exact⟨ia (ee fun hh=>by have:=hh.2 k dJ;simp[sD,km,kK]at this;omega),rfl⟩)
      |(exfalso;simp_all;done)
      |(exfalso;simp_all;omega)
  ·by_cases h1:1<=s.size
   ·by_cases h2:s.size<=12
    ·go_wp2_with fail
     go_ret
     exact⟨ia (Ax (by simp<;>omega) ⟨⟨h1,h2⟩,fun i h=>dy.out i h (by omega)⟩),rfl⟩
    ·go_wp2_with fail
     go_ret
     exact⟨ia (qn (by simp<;>omega) fun h=>h2 h.1.2),rfl⟩
   ·go_wp2_with fail
    go_ret
    exact⟨ia (qn (by simp<;>omega) fun h=>h1 h.1.1),rfl⟩
end Go.Proofs.YtgoljkjaameagaaGreat

namespace Go.Proofs.YtgoljkjaameagaaGreat.V
open Go.RowKit
theorem mixed:Tryz.prog.follows .mixedOrders=true:=by kernel_rfl
variable {P:Program} {w:World} {D:Nat->Prop} {ι:Names}
theorem oP {f:Nat} {args:List AV} {r:AV} {Tl:Array Value} {u0:Value} (mB:∀(w:World) (D:Nat->Prop) (ι:Names) vs,fb P w D ι args vs->vs=Tl) (hr:∀(w:World) (D:Nat->Prop) (ι:Names),da P w D ι r u0) (A9:∀g,fV g 6 r=some r)
  (h:∀w,Calls P f Tl w fun e w'=>e=.returned u0/\Below w.heap.size w w'):aq P f args r:=by
 intro n
 refine fR fun hs D ι w vs S U A=>?_
 have:=mB w D ι vs A
 subst this
 refine(h w).mono ?_
 rintro e w' ⟨rfl,hb⟩
 exact⟨r,_,n,D,ι,u0,rfl,⟨r,A9 _,rfl⟩,Step.stay S hb.block hb.size hb.os hb.tape hb.output (fun _ h=>h) (fun _ h=>.inl h) (fun _ _ h=>h),
  S.stay hb.block hb.size (fun _ h=>h) (fun b hd=>Nat.lt_of_lt_of_le (S.dead b hd) hb.size) (fun _ h=>.inl h) (fun _ _ h=>h),U,Nat.le_refl _,hr _ _ _⟩
theorem AH {s:ByteArray} {vs:Array Value} (h:fb P w D ι [.str s] vs):vs= #[.string s]:=by
 obtain⟨h1,h2⟩:=h
 obtain⟨u,hu,hr⟩:=h2 0 _ rfl
 rw[fm hr]at hu
 obtain⟨l⟩:=vs
 cases l with
 |nil=>simp at h1
 |cons a l=>cases l with
  |nil=>simp at hu;subst hu;rfl
  |cons b l=>simp at h1
theorem Ee (s:ByteArray) (hs:s.size<=9223372036854775807):aq Tryz.prog 237 [.str s] (.bool (jl s)):=
 oP (fun _ _ _ _=>AH) (fun _ _ _=>.eO _ _ (.bool _)) (fun g=>fB g 5 _) fun w=>AJ w s hs
theorem DW (s:ByteArray) (hs:s.size<=9223372036854775807):aq Tryz.prog 254 [.str s] (.bool (jl s)):=
 oP (fun _ _ _ _=>AH) (fun _ _ _=>.eO _ _ (.bool _)) (fun g=>fB g 5 _) fun w=>(Aa w s hs).mono (by rintro e w' ⟨rfl,rfl⟩;exact⟨rfl,Below.refl _ _⟩)
end Go.Proofs.YtgoljkjaameagaaGreat.V
