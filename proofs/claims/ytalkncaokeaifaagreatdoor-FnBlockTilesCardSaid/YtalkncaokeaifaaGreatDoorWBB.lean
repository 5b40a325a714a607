/- One operation, calls among them. -/
import Derived.Test.YtalkncaokeaifaaGreatDoorWBA
import Derived.Orders
import Derived.Conc.LoneCalls
import Derived.WalkKit
import Derived.WalkSpells
import Derived.WalkLawsBesides
import Derived.Lib.Hide
import Derived.Deep.QuietTactic
import Derived.BigQuiet
import Derived.StillTailTactics
import Derived.Deep.RegionWith
import Derived.Deep.RegionHeld3
import Derived.Deep.LoopGhost
import Derived.Deep.CutRange
import Derived.Deep.DeepCutAuto
import Derived.Test.YtalkncaokeaifaaGreatDoorChecked
set_option linter.unusedVariables false
set_option linter.unusedSimpArgs false
set_option maxRecDepth 100000
set_option maxHeartbeats 16000000
namespace Go.Proofs.YtalkncaokeaifaaGreatDoor.V
open Go.RowKit
variable {P:Program} {w w':World} {D D' D2:Nat->Prop} {ι ι' ι2:Names}
def Sound (P:Program):fW:=fun f args σ K=>∀(hs:Nat) (D:Nat->Prop) (ι:Names) (w:World) (vs:Array Value),fZ P hs D ι σ.get w->Used ι σ.next (fun _=>False)->fE P w D ι args vs->
 Calls P f vs w fun e w'=>∃r g' n' D' ι' u,e=.returned u/\K r ⟨g',n'⟩/\Step hs D ι w D' ι' w'/\fZ P hs D' ι' g' w'/\Used ι' n' (fun _=>False)/\σ.next<=n'/\dE P w' D' ι' r u
section
variable {g:Rows} {hs:Nat} {env:Env} {a:Act} {o:Oper} {id:Id} {v:AV}
theorem fZ.ro (S:fZ P hs D ι g w):fZ P w.heap.size D ι (ro g) w:=by
 refine⟨Nat.le_refl _,S.dead,fun id r h=>?_,fun id jR r r' B B' h h' hw=>?_⟩
 ·unfold V.ro at h
  simp only[Option.map_eq_some_iff]at h
  obtain⟨r0,h0,rfl⟩:=h
  obtain⟨B,hB,R,_,_⟩:=S.row id r0 h0
  exact⟨B,hB,R.flag false,fun h=>by simp at h,fun h=>by simp at h⟩
 ·unfold V.ro at h
  simp only[Option.map_eq_some_iff]at h
  obtain⟨r0,h0,rfl⟩:=h
  simp at hw
theorem I8 {g0:Rows} {f:Nat} {args:List AV} {n:Nat} {K:AV->Prop} {vs:Array Value} (h:PC (Sound P) f args ⟨g0,n⟩ K) (qo:∀id r,g0 id=some r->g id=some r) (S:fZ P hs D ι g w) (U:Used ι n (fun _=>False)) (A:fE P w D ι args vs):
  Calls P f vs w fun e w'=>∃r D' u,e=.returned u/\K r/\Step hs D ι w D' ι w'/\fZ P hs D' ι g w'/\dE P w' D' ι r u:=by
 refine(h w.heap.size D ι w vs (S.sub qo).ro U A).mono ?_
 rintro e w' ⟨r0,g',n',D1,ι1,u,rfl,⟨r,hr,hK⟩,T,S1,_,_,hR⟩
 have hb:∀b,b<w.heap.size->w'.heap[b]? =w.heap[b]? :=T.below.block
 have hz:=T.below.size
 have q:=rf (D2:=fun b=>D b∨(w.heap.size<=b/\b<w'.heap.size)) (ι2:=ι) (fun b hd=>by
  rcases T.new b hd with h|h
  ·exact .inl h
  ·exact .inr ⟨h,S1.dead b hd⟩) (fun id row hg hw=>by
  obtain⟨B,hB,R,h1,_⟩:=S1.row id row hg
  exact⟨B,hB,R,.inr ⟨h1 hw,R.lt⟩⟩) 6 r0 u r hR hr
 refine⟨r,_,u,rfl,hK,?_,?_,q.1⟩
 ·exact Step.stay S hb hz T.below.os T.below.tape T.below.output (fun _ h=>.inl h) (fun b h=>by rcases h with h|h;exact .inl h;exact .inr h.1) (fun _ _ h=>h)
 ·exact S.stay hb hz (fun _ h=>.inl h) (fun b h=>by rcases h with h|h;exact Nat.lt_of_lt_of_le (S.dead b h) hz;exact h.2) (fun b h=>by rcases h with h|h;exact .inl h;exact .inr h.1) (fun _ _ h=>h)
theorem yE {g0:Rows} {f:Nat} {args:List AV} {n:Nat} {K:AV->Prop} {vs:Array Value} (h:PCv (Sound P) f args ⟨g0,n⟩ K) (qo:∀id r,g0 id=some r->g id=some r) (S:fZ P hs D ι g w) (U:Used ι n (fun _=>False)) (A:fE P w D ι args vs):
  Calls P f vs w fun e w'=>∃r D' u,e=.returned u/\K r/\Step hs D ι w D' ι w'/\fZ P hs D' ι g w'/\dE P w' D' ι r u:=by
 obtain⟨args',ha,h⟩:=h
 let D1:Nat->Prop:=fun b=>D b∨∃id r B,g id=some r/\ι id=some B/\b=B.b
 have lt:∀id r B,g id=some r->ι id=some B->B.b<w.heap.size:=fun id r B h1 h2=>by
  obtain⟨B',ef,R,_⟩:=S.row id r h1
  rw[h2]at ef;injection ef with ef;subst ef
  exact R.lt
 have S0:fZ P w.heap.size D1 ι (fun _=>none) w:=⟨Nat.le_refl _,fun b hb=>by
  rcases hb with hb|⟨id,r,B,h1,h2,rfl⟩
  ·exact S.dead b hb
  ·exact lt id r B h1 h2,fun id r h=>(by cases h),fun id jR r r' B B' h=>(by cases h)⟩
 obtain⟨l1,l2⟩:=gE ha
 have A':fE P w D1 ι args' vs:=⟨by rw[A.1,l1],fun j a hj=>by
  obtain⟨a0,kh,hf⟩:=l2 j a hj
  obtain⟨u,hu,hr⟩:=A.2 j a0 kh
  refine⟨u,hu,(rf (D2:=D1) (ι2:=ι) (fun b h=>.inl h) (fun id row hg hw=>?_) 6 a0 u a hr hf).1⟩
  unfold dX at hg
  simp only[Option.map_eq_some_iff]at hg
  obtain⟨r,nS,rfl⟩:=hg
  obtain⟨B,hB,R,_,_⟩:=S.row id r (qo id r nS)
  exact⟨B,hB,R.flag true,.inr ⟨id,r,B,qo id r nS,hB,rfl⟩⟩⟩
 refine(h w.heap.size D1 ι w vs S0 U A').mono ?_
 rintro e w' ⟨r0,g',n',D2,ι1,u,rfl,⟨r,hr,hK⟩,T,S1,_,_,hR⟩
 have hb:∀b,b<w.heap.size->w'.heap[b]? =w.heap[b]? :=T.below.block
 have hz:=T.below.size
 have q:=Hk (D2:=fun b=>D b∨(w.heap.size<=b/\b<w'.heap.size)) (ι2:=ι) (fun id row hg hw=>by
  obtain⟨B,hB,R,h1,_⟩:=S1.row id row hg
  exact⟨B,hB,R,.inr ⟨h1 hw,R.lt⟩⟩) 6 r0 u r hR hr
 refine⟨r,_,u,rfl,hK,?_,?_,q.1⟩
 ·exact Step.stay S hb hz T.below.os T.below.tape T.below.output (fun _ h=>.inl h) (fun b h=>by rcases h with h|h;exact .inl h;exact .inr h.1) (fun _ _ h=>h)
 ·exact S.stay hb hz (fun _ h=>.inl h) (fun b h=>by rcases h with h|h;exact Nat.lt_of_lt_of_le (S.dead b h) hz;exact h.2) (fun b h=>by rcases h with h|h;exact .inl h;exact .inr h.1) (fun _ _ h=>h)
theorem GN {g0:Rows} {f:Nat} {args:List AV} {n:Nat} {K:AV->Prop} {vs:Array Value} (h:eB (Sound P) f args ⟨g0,n⟩ K) (qo:∀id r,g0 id=some r->g id=some r) (S:fZ P hs D ι g w) (U:Used ι n (fun _=>False)) (A:fE P w D ι args vs):
  Calls P f vs w fun e w'=>∃r D' u,e=.returned u/\K r/\Step hs D ι w D' ι w'/\fZ P hs D' ι g w'/\dE P w' D' ι r u:=by
 rcases h with h|h
 ·exact I8 h qo S U A
 ·exact yE h qo S U A
theorem H0 {D1 D2:Nat->Prop} {ι1 ι2:Names} {w1:World} {a:AV} {v:Value} (hp:a.plain=true) (h:dE P w D1 ι1 a v):dE P w1 D2 ι2 a v:=by
 cases h with
 |eE a v h=>cases h<;>first|(simp[AV.plain]at hp;done)|exact .eE _ _ (by constructor)
 |_=>simp[AV.plain]at hp
theorem fZ.add {r:Row} {B:sr} (S:fZ P hs D ι g w) (S':fZ P hs D ι g w') (hf:ι id=none) (k6:w.heap.size<=B.b) (R:gC P w' D (jx ι id B) B r):fZ P hs D (jx ι id B) (bz g id r) w':=by
 have lt:∀jR r' B',g jR=some r'->ι jR=some B'->B'.b<w.heap.size:=fun jR r' B' h1 h2=>by
  obtain⟨B2,nK,R2,_⟩:=S.row jR r' h1
  rw[h2]at nK;injection nK with nK;subst nK
  exact R2.lt
 have ne:∀jR r',g jR=some r'->jR≠id:=fun jR r' h he=>by
  subst he
  obtain⟨B2,nK,_⟩:=S.row _ r' h
  rw[hf]at nK;cases nK
 refine⟨S'.lo,S'.dead,fun jR r' h=>?_,fun U6 id2 r1 r2 B1 B2 h1 h2 hw Bp nK hb=>?_⟩
 ·unfold bz at h
  split at h
  ·rename_i he
   subst he
   injection h with h;subst h
   exact⟨B,eh _ _ _,R,fun _=>Nat.le_trans S.lo k6,fun _ hd=>Nat.lt_irrefl _ (Nat.lt_of_lt_of_le (S.dead _ hd) k6)⟩
  ·obtain⟨B',ef,R',k1,k2⟩:=S'.row jR r' h
   exact⟨B',by rw[gq (ne _ _ h)];exact ef,R'.frame rfl (fun a v hr=>hr.frame (fun _ _=>rfl) (fun _ h=>h) (eZ hf)),k1,k2⟩
 ·unfold bz at h1 h2
  split at h1
  ·rename_i e1
   split at h2
   ·rename_i e2;rw[e1,e2]
   ·exfalso
    subst e1
    rw[eh]at Bp;injection Bp with Bp;subst Bp
    rw[gq (ne _ _ h2)]at nK
    have:=lt _ _ _ h2 nK
    omega
  ·rw[gq (ne _ _ h1)]at Bp
   split at h2
   ·rename_i e2
    exfalso
    subst e2
    rw[eh]at nK;injection nK with nK;subst nK
    have:=lt _ _ _ h1 Bp
    omega
   ·rw[gq (ne _ _ h2)]at nK
    exact S'.inj U6 id2 r1 r2 B1 B2 h1 h2 hw Bp nK hb
theorem IV {g0:Rows} {f:Nat} {args:List AV} {n sz:Nat} {rows:List (List AV)} {vs:Array Value} (h:CM (Sound P) f args ⟨g0,n⟩ sz rows) (qo:∀id r,g0 id=some r->g id=some r) (S:fZ P hs D ι g w) (U:Used ι n (fun _=>False)) (A:fE P w D ι args vs) (hf:ι id=none):
  Calls P f vs w fun e w'=>∃u B,e=.returned u/\Step hs D ι w D (jx ι id B) w'/\fZ P hs D (jx ι id B) (bz g id ⟨true,sz,rows⟩) w'/\dE P w' D (jx ι id B) (.own id 0 rows.length) u:=by
 obtain⟨lp,args',ha,h⟩:=h
 let D1:Nat->Prop:=fun b=>D b∨∃id r B,g id=some r/\ι id=some B/\b=B.b
 have lt:∀id r B,g id=some r->ι id=some B->B.b<w.heap.size:=fun id r B h1 h2=>by
  obtain⟨B',ef,R,_⟩:=S.row id r h1
  rw[h2]at ef;injection ef with ef;subst ef
  exact R.lt
 have S0:fZ P w.heap.size D1 ι (fun _=>none) w:=⟨Nat.le_refl _,fun b hb=>by
  rcases hb with hb|⟨id,r,B,h1,h2,rfl⟩
  ·exact S.dead b hb
  ·exact lt id r B h1 h2,fun id r h=>(by cases h),fun id jR r r' B B' h=>(by cases h)⟩
 obtain⟨l1,l2⟩:=gE ha
 have A':fE P w D1 ι args' vs:=⟨by rw[A.1,l1],fun j a hj=>by
  obtain⟨a0,kh,hz⟩:=l2 j a hj
  obtain⟨u,hu,hr⟩:=A.2 j a0 kh
  refine⟨u,hu,(rf (D2:=D1) (ι2:=ι) (fun b h=>.inl h) (fun id row hg hw=>?_) 6 a0 u a hr hz).1⟩
  unfold dX at hg
  simp only[Option.map_eq_some_iff]at hg
  obtain⟨r,nS,rfl⟩:=hg
  obtain⟨B,hB,R,_,_⟩:=S.row id r (qo id r nS)
  exact⟨B,hB,R.flag true,.inr ⟨id,r,B,qo id r nS,hB,rfl⟩⟩⟩
 refine(h w.heap.size D1 ι w vs S0 U A').mono ?_
 rintro e w' ⟨r0,g',n',D2,ι1,u,rfl,⟨i0,hr,hg⟩,T,S1,_,_,hR⟩
 subst hr
 have hb:∀b,b<w.heap.size->w'.heap[b]? =w.heap[b]? :=T.below.block
 have hz:=T.below.size
 obtain⟨B,hB,R,k1,_⟩:=S1.row i0 _ hg
 have k6:w.heap.size<=B.b:=k1 rfl
 obtain⟨o,cap,B',rfl,ef,q2,q3,q4,q5,hk⟩:=iz hR
 rw[hB]at ef;injection ef with ef;subst ef
 replace R:=R.row hk
 have S':fZ P hs D ι g w':=S.stay hb hz (fun _ h=>h) (fun b h=>Nat.lt_of_lt_of_le (S.dead b h) hz) (fun b h=>.inl h) (fun _ _ h=>h)
 have R':jO P w' D (jx ι id B) B ⟨true,sz,rows⟩:=⟨R.sz,R.si,R.fits,R.len,R.flat,fun i j cs a hi hj=>by
  obtain⟨v,h1,h2⟩:=R.at_ i j cs a hi hj
  exact⟨v,h1,H0 (lp cs (List.mem_of_getElem? hi) a (List.mem_of_getElem? hj)) h2⟩⟩
 exact⟨_,B,rfl,Step.stay S hb hz T.below.os T.below.tape T.below.output (fun _ h=>h) (fun _ h=>.inl h) (eZ hf),S.add S' hf k6 (R'.obj hk),.own id 0 _ _ _ B (eh _ _ _) hk q2 q3 q4 q5⟩
theorem jq {f:Nat} {args:Array Value} (hc:fY P f=true):(callFunc f args).run P w=.ok (.enter f args) w:=by
 unfold fY at hc
 split at hc
 ·rename_i fn hf
  simp only[Bool.and_eq_true,Bool.not_eq_true']at hc
  have hb:fn.body.isNone=false:=by cases hq:fn.body<;>simp_all
  simp only[callFunc,Sem.run_bind,run_program,Result.andThen_ok,hf,hc.2,Bool.false_eq_true,if_false,hb]
  rfl
 ·simp at hc
theorem CA {f:Nat} {args:List O} (hc:qC P o.op=some (.call f args)):∃c,o.op=.call c/\c.callee=.value (.func f)/\fY P f=true/\c.args.toList.mapM (cO P)=some args:=by
 unfold qC at hc
 split at hc
 case h_24=>
  rename_i c ho
  refine⟨c,ho,?_⟩
  unfold np at hc
  split at hc
  all_goals (try(repeat' (split at hc))<;>(simp only[Option.bind_eq_bind,Option.bind_eq_some_iff,Option.pure_def,Option.some.injEq,Option.map_eq_some_iff,reduceCtorEq,and_false,exists_false]at hc))
  all_goals simp_all
 all_goals (try unfold vp at hc)<;>(try unfold sy at hc)<;>(repeat' (split at hc))<;>(simp only[Option.bind_eq_bind,Option.bind_eq_some_iff,Option.pure_def,Option.some.injEq,Option.map_eq_some_iff,reduceCtorEq,and_false,exists_false]at hc)
theorem sQ {x:O} {args:List O} (hc:qC P o.op=some (.tC x args)):∃c t,o.op=.call c/\c.callee=.value (.tmp t)/\x=.t t/\c.args.toList.mapM (cO P)=some args:=by
 unfold qC at hc
 split at hc
 case h_24=>
  rename_i c ho
  refine⟨c,?_⟩
  unfold np at hc
  split at hc
  all_goals (try(repeat' (split at hc))<;>(simp only[Option.bind_eq_bind,Option.bind_eq_some_iff,Option.pure_def,Option.some.injEq,Option.map_eq_some_iff,reduceCtorEq,and_false,exists_false]at hc))
  all_goals simp_all
 all_goals (try unfold vp at hc)<;>(try unfold sy at hc)<;>(repeat' (split at hc))<;>(simp only[Option.bind_eq_bind,Option.bind_eq_some_iff,Option.pure_def,Option.some.injEq,Option.map_eq_some_iff,reduceCtorEq,and_false,exists_false]at hc)
theorem HC {n:Nat} {x y:O} (hc:qC P o.op=some (.store n x y)):∃t x' y',o.op=.store t x' y'/\ej P t=some n/\cO P x'=some x/\cO P y'=some y:=by
 unfold qC at hc
 split at hc
 case h_8=>
  rename_i t x' y' ho
  refine⟨t,x',y',ho,?_⟩
  simp only[Option.bind_eq_bind,Option.bind_eq_some_iff,Option.pure_def,Option.some.injEq]at hc
  obtain⟨n',h1,x2,h2,y2,h3,he⟩:=hc
  injection he with e1 e2 e3
  subst e1;subst e2;subst e3
  exact⟨h1,h2,h3⟩
 all_goals (try unfold vp at hc)<;>(try unfold sy at hc)<;>(try unfold np at hc)<;>(repeat' (split at hc))<;>(simp only[Option.bind_eq_bind,Option.bind_eq_some_iff,Option.pure_def,Option.some.injEq,Option.map_eq_some_iff,reduceCtorEq,and_false,exists_false]at hc)
theorem ED {n:Nat} {x y:O} (hc:qC P o.op=some (.append n x y)):∃(t e:TypeId) (m:Nat) (z:List K) (i:TypeInfo) (x' y':Operand),n=m+1/\o.op=.call {callee:=.builtin .append,args:= #[x',y'],argTypes:= #[t,t]}/\
  P.underlying t=some (.slice e)/\ej P e=some (m+1)/\jy P e=some z/\P.info? e=some i/\i.bytes<=32768/\cO P x'=some x/\cO P y'=some y:=by
 unfold qC at hc
 split at hc
 case h_24=>
  rename_i c ho
  unfold np at hc
  split at hc
  case h_2=>
   rename_i j9
   split at hc
   ·rename_i x' y' t u h1 h2
    split at hc
    ·rename_i e ht
     split at hc
     ·rename_i m z i e1 e2 e3
      split at hc
      ·rename_i hb
       simp only[Option.bind_eq_bind,Option.bind_eq_some_iff,Option.pure_def,Option.some.injEq]at hc
       obtain⟨x2,h3,y2,h4,he⟩:=hc
       injection he with k1 k2 k3
       subst k1;subst k2;subst k3
       obtain⟨J3,rfl⟩:=hb
       refine⟨t,e,m,z,i,x',y',rfl,?_,ht,e1,e2,e3,J3,h3,h4⟩
       rw[ho]
       obtain⟨ca,cb,cc⟩:=c
       simp only at h1 h2 j9
       subst j9
       congr
       ·exact Array.ext' h1
       ·exact Array.ext' h2
      ·simp at hc
     ·simp at hc
    ·simp at hc
   ·simp at hc
  all_goals (repeat' (split at hc))<;>(simp only[Option.bind_eq_bind,Option.bind_eq_some_iff,Option.pure_def,Option.some.injEq,Option.map_eq_some_iff,reduceCtorEq,and_false,exists_false]at hc)
 all_goals (try unfold vp at hc)<;>(try unfold sy at hc)<;>(repeat' (split at hc))<;>(simp only[Option.bind_eq_bind,Option.bind_eq_some_iff,Option.pure_def,Option.some.injEq,Option.map_eq_some_iff,reduceCtorEq,and_false,exists_false]at hc)
theorem KA {n:Nat} {x y:O} (hc:qC P o.op=some (.copy n x y)):∃(t t2 e:TypeId) (m:Nat) (x' y':Operand),n=m+1/\o.op=.call {callee:=.builtin .copy,args:= #[x',y'],argTypes:= #[t,t2]}/\
  P.underlying t=some (.slice e)/\ej P e=some (m+1)/\cO P x'=some x/\cO P y'=some y:=by
 unfold qC at hc
 split at hc
 case h_24=>
  rename_i c ho
  unfold np at hc
  split at hc
  case h_7=>
   rename_i j9
   split at hc
   ·rename_i x' y' t t2 h1 h2
    split at hc
    ·rename_i e ht
     split at hc
     ·rename_i m e1
      simp only[Option.bind_eq_bind,Option.bind_eq_some_iff,Option.pure_def,Option.some.injEq,gD.copy.injEq]at hc
      obtain⟨x2,h3,y2,h4,k0,k1,k2⟩:=hc
      subst k1;subst k2
      refine⟨t,t2,e,m,x',y',k0.symm,?_,ht,e1,h3,h4⟩
      rw[ho]
      obtain⟨ca,cb,cc⟩:=c
      simp only at h1 h2 j9
      subst j9
      congr
      ·exact Array.ext' h1
      ·exact Array.ext' h2
     ·simp at hc
    ·simp at hc
   ·simp at hc
  all_goals (repeat' (split at hc))<;>(simp only[Option.bind_eq_bind,Option.bind_eq_some_iff,Option.pure_def,Option.some.injEq,Option.map_eq_some_iff,reduceCtorEq,and_false,exists_false]at hc)
 all_goals (try unfold vp at hc)<;>(try unfold sy at hc)<;>(repeat' (split at hc))<;>(simp only[Option.bind_eq_bind,Option.bind_eq_some_iff,Option.pure_def,Option.some.injEq,Option.map_eq_some_iff,reduceCtorEq,and_false,exists_false]at hc)
theorem HB {z:List K} {x:O} (hc:qC P o.op=some (.clear z x)):∃(t e:TypeId) (m:Nat) (x':Operand),o.op=.call {callee:=.builtin .clear,args:= #[x'],argTypes:= #[t]}/\
  P.underlying t=some (.slice e)/\ej P e=some (m+1)/\jy P e=some z/\cO P x'=some x:=by
 unfold qC at hc
 split at hc
 case h_24=>
  rename_i c ho
  unfold np at hc
  split at hc
  case h_3=>
   rename_i j9
   split at hc
   ·rename_i x' t h1 h2
    split at hc
    ·rename_i e ht
     split at hc
     ·rename_i m z' e1 e2
      simp only[Option.map_eq_some_iff]at hc
      obtain⟨x2,h3,he⟩:=hc
      injection he with k1 k2
      subst k1;subst k2
      refine⟨t,e,m,x',?_,ht,e1,e2,h3⟩
      rw[ho]
      obtain⟨ca,cb,cc⟩:=c
      simp only at h1 h2 j9
      subst j9
      congr
      ·exact Array.ext' h1
      ·exact Array.ext' h2
     ·simp at hc
    ·simp at hc
   ·simp at hc
  all_goals (repeat' (split at hc))<;>(simp only[Option.bind_eq_bind,Option.bind_eq_some_iff,Option.pure_def,Option.some.injEq,Option.map_eq_some_iff,reduceCtorEq,and_false,exists_false]at hc)
 all_goals (try unfold vp at hc)<;>(try unfold sy at hc)<;>(repeat' (split at hc))<;>(simp only[Option.bind_eq_bind,Option.bind_eq_some_iff,Option.pure_def,Option.some.injEq,Option.map_eq_some_iff,reduceCtorEq,and_false,exists_false]at hc)
theorem Rw {q:MW} {xs:List O} (hc:qC P o.op=some (.mw q xs)):
  (∃t x k y m z x' k' y',(o.op=.mapUpdate t x k y∨o.op=.insert t x k y)/\sC P t=some (m,z)/\cO P x=some x'/\cO P k=some k'/\cO P y=some y'/\q=.set m/\xs=[x',k',y'])∨
  (∃t t' x k m z x' k',o.op=.call {callee:=.builtin .delete,args:= #[x,k],argTypes:= #[t,t']}/\sC P t=some (m,z)/\cO P x=some x'/\cO P k=some k'/\q=.del m/\xs=[x',k']):=by
 unfold qC at hc
 split at hc
 case h_24=>
  rename_i c ho
  right
  unfold np at hc
  split at hc
  case h_6=>
   rename_i j9
   split at hc
   ·rename_i x k t t' h1 h2
    split at hc
    ·rename_i m z x' k' e1 e2 e3
     injection hc with hc
     injection hc with q1 q2
     refine⟨t,t',x,k,m,z,x',k',?_,e1,e2,e3,q1.symm,q2.symm⟩
     rw[ho]
     obtain⟨ca,cb,cc⟩:=c
     simp only at h1 h2 j9
     subst j9
     congr
     ·exact Array.ext' h1
     ·exact Array.ext' h2
    ·cases hc
   ·cases hc
  all_goals (repeat' (split at hc))<;>(simp only[Option.bind_eq_bind,Option.bind_eq_some_iff,Option.pure_def,Option.some.injEq,Option.map_eq_some_iff,reduceCtorEq,and_false,exists_false]at hc)
 case h_30=>
  rename_i t x k y ho
  left
  split at hc
  ·rename_i m z x' k' y' e1 e2 e3 e4
   injection hc with hc
   injection hc with q1 q2
   exact⟨t,x,k,y,m,z,x',k',y',.inl ho,e1,e2,e3,e4,q1.symm,q2.symm⟩
  ·cases hc
 case h_31=>
  rename_i t x k y ho
  left
  split at hc
  ·rename_i m z x' k' y' e1 e2 e3 e4
   injection hc with hc
   injection hc with q1 q2
   exact⟨t,x,k,y,m,z,x',k',y',.inr ho,e1,e2,e3,e4,q1.symm,q2.symm⟩
  ·cases hc
 all_goals (try unfold vp at hc)<;>(try unfold sy at hc)<;>(repeat' (split at hc))<;>(simp only[Option.bind_eq_bind,Option.bind_eq_some_iff,Option.pure_def,Option.some.injEq,Option.map_eq_some_iff,reduceCtorEq,and_false,exists_false]at hc)
def jh (g:Rows) (id:Id):Option Row->Rows
 |some r=>bz g id r
 |none=>g
def vF (X:fW) (hid:List Nat) (site n:Nat) (f:Nat) (args:List AV) (g:Rows) (v:AV) (g':Rows):Prop:=
 (eB X f args ⟨ev hid n g,n+1⟩ (fun r=>r=v)/\g'=g)∨
 (hid.contains site=true/\∃sz rows,CM X f args ⟨ev hid n g,n+1⟩ sz rows/\v=.own ⟨site,n⟩ 0 rows.length/\g'=bz g ⟨site,n⟩ ⟨true,sz,rows⟩)
def VS (X:fW) (n:Nat) (vo:cJ) (env:Env) (g:Rows) (v:AV) (g':Rows):Prop:=
 match vo.op with
 | .call f args=>vF X vo.hid vo.site n f (args.map (cZ env)) g v g'
 | .tC x args=>∃f l,vD (cZ env x) (args.map (cZ env))=some (f,l)/\vF X vo.hid vo.site n f l g v g'
 | .store .. | .append .. | .copy .. | .clear .. | .mw .. =>ez vo.op (cZ env) g ⟨vo.site,n⟩=some (v,g')
 |_=>∃mr,dS vo.op (cZ env) (ev vo.hid n g) ⟨vo.site,n⟩=some (v,mr)/\g'=jh g ⟨vo.site,n⟩ mr
def OY (P:Program) (hs:Nat) (D:Nat->Prop) (ι:Names) (w:World) (U:Nat->Prop) (site n:Nat) (a:Act) (dst:Option Tmp) (v:AV) (g':Rows) (a':Act) (w':World):Prop:=
 ∃u D' ι',a'=a.put dst u/\Step hs D ι w D' ι' w'/\fZ P hs D' ι' g' w'/\dE P w' D' ι' v u/\Used ι' n (fun s=>U s∨s=site)
theorem fresh {n:Nat} {U:Nat->Prop} {s:Nat} (h:Used ι n U) (hU:¬U s):ι ⟨s,n⟩=none:=by
 cases hq:ι ⟨s,n⟩with
 |none=>rfl
 |some B=>
  rcases h ⟨s,n⟩ (by rw[hq];simp)with h|⟨_,h⟩
  ·exact absurd h (Nat.lt_irrefl _)
  ·exact absurd h hU
theorem Used.more {n:Nat} {U U':Nat->Prop} (h:Used ι n U) (hU:∀s,U s->U' s):Used ι n U':=fun id hid=>by
 rcases h id hid with h|⟨h1,h2⟩
 ·exact .inl h
 ·exact .inr ⟨h1,hU _ h2⟩
theorem Used.next {n:Nat} {U:Nat->Prop} (h:Used ι n U):Used ι (n+1) (fun _=>False):=fun id hid=>by
 rcases h id hid with h|⟨h1,_⟩
 ·exact .inl (Nat.lt_succ_of_lt h)
 ·exact .inl ab
theorem Used.upd {n:Nat} {U:Nat->Prop} {s:Nat} {B:sr} (h:Used ι n U):Used (jx ι ⟨s,n⟩ B) n (fun x=>U x∨x=s):=fun id hid=>by
 by_cases he:id=⟨s,n⟩
 ·subst he;exact .inr ⟨rfl,.inr rfl⟩
 ·rw[gq he]at hid
  exact(h.more (U':=fun x=>U x∨x=s) fun _ h=>Or.inl h) id hid
theorem oa {xs:Array Operand} {ys:List O} (E:dh P w D ι env a) (h:xs.toList.mapM (cO P)=some ys):fE P w D ι (ys.map (cZ env)) (xs.map a.eval):=by
 obtain⟨h1,h2⟩:=E6 E h
 refine⟨by simpa using h1,fun j b hj=>?_⟩
 simp only[List.getElem?_map,Option.map_eq_some_iff]at hj
 obtain⟨y,hy,rfl⟩:=hj
 have eJ:j<xs.size:=by have:=(List.getElem?_eq_some_iff.1 hy).1;simp at h1;omega
 refine⟨a.eval xs[j],by simp[eJ],?_⟩
 have:=h2 j y hy
 simpa[List.getD_eq_getElem?_getD,eJ]using this
theorem oW {xs ys:List AV} {vs us:Array Value} (h:fE P w D ι xs vs) (k:fE P w D ι ys us):fE P w D ι (xs++ys) (vs++us):=
 ⟨by simp[h.1,k.1],fun j b hj=>by
  by_cases eJ:j<xs.length
  ·rw[List.getElem?_append_left eJ]at hj
   obtain⟨u,hu,yk⟩:=h.2 j b hj
   exact⟨u,by rw[Array.getElem?_append_left (by rw[h.1];exact eJ)];exact hu,yk⟩
  ·rw[List.getElem?_append_right ab]at hj
   obtain⟨u,hu,yk⟩:=k.2 _ b hj
   exact⟨u,by rw[Array.getElem?_append_right (by rw[h.1];omega),h.1];exact hu,yk⟩⟩
theorem xg:fE P w D ι [] #[]:=⟨rfl,fun j b hj=>by simp at hj⟩
theorem vG {x:AV} {l l':List AV} {f:Nat} {vs:Array Value} {v:Value} (h:vD x l=some (f,l')) (hr:dE P w D ι x v) (hA:fE P w D ι l vs):
  ∃first dG,v=.func (.func f) first dG/\fY P f=true/\fE P w D ι l' (first++vs++dG):=by
 unfold vD at h
 split at h
 ·simp only[Option.some.injEq,Prod.mk.injEq]at h
  obtain⟨rfl,rfl⟩:=h
  obtain⟨us,q,he,F3,n1,q1,q2⟩:=s4 hr
  refine⟨#[],us,he,F3,?_⟩
  rw[Array.empty_append]
  exact oW hA ⟨n1,fun j b hj=>⟨q j,q1 j (List.getElem?_eq_some_iff.1 hj).1,q2 j b hj⟩⟩
 ·simp only[Option.some.injEq,Prod.mk.injEq]at h
  obtain⟨rfl,rfl⟩:=h
  obtain⟨us,q,he,F3,n1,q1,q2⟩:=Ov hr
  refine⟨us, #[],he,F3,?_⟩
  rw[Array.append_empty]
  exact oW ⟨n1,fun j b hj=>⟨q j,q1 j (List.getElem?_eq_some_iff.1 hj).1,q2 j b hj⟩⟩ hA
 ·cases h
theorem Bz {n:Nat} {vo:cJ} {g':Rows} {U:Nat->Prop} {Q:Exit->Act->World->Prop} {K:Act->World->Prop} (hc:qC P o.op=some vo.op) (hv:VS (Sound P) n vo env g v g') (S:fZ P hs D ι g w) (Us:Used ι n U) (hU:¬U vo.site) (E:dh P w D ι env a)
  (hK:∀a' w',OY P hs D ι w U vo.site n a o.dst v g' a' w'->K a' w'):o.wp P a w K Q:=by
 have hf:=fresh Us hU
 have BP:∀(f:Nat) (args:List AV) (vs:Array Value),vF (Sound P) vo.hid vo.site n f args g v g'->fE P w D ι args vs->(execOp a.eval o).run P w=.ok (.enter f vs) w->o.wp P a w K Q:=by
  intro f args vs hP hA fF
  unfold Oper.wp
  rw[fF]
  rcases hP with⟨hP,rfl⟩|⟨_,sz,rows,hM,rfl,rfl⟩
  ·refine(GN hP Bj S Us.next hA).mono ?_
   rintro e w' ⟨r,D',u,rfl,rfl,T,S',hR⟩
   exact hK _ _ ⟨u,D',ι,rfl,T,S',hR,Us.more fun _ h=>.inl h⟩
  ·refine(IV hM Bj S Us.next hA hf).mono ?_
   rintro e w' ⟨u,B,rfl,T,S',hR⟩
   exact hK _ _ ⟨u,D,_,rfl,T,S',hR,Us.upd⟩
 have quiet:∀(mr:Option Row),dS vo.op (cZ env) (ev vo.hid n g) ⟨vo.site,n⟩=some (v,mr)->g'=jh g ⟨vo.site,n⟩ mr->o.wp P a w K Q:=by
  intro mr hq hg
  have WH:=zI hc hq (S.sub Bj) E
  unfold Oper.wp
  cases mr with
  |none=>
   obtain⟨u,fF,hR⟩:=WH
   rw[fF]
   subst hg
   exact hK _ _ ⟨u,D,ι,rfl,Step.refl _ _ _ _,S,hR,Us.more fun _ h=>.inl h⟩
  |some r=>
   rcases WH with⟨u,cells,T,fF,h1,h2,h3,h4,h5,h6⟩|⟨m,fF,IM,yj⟩|⟨c,fF,IM,yj⟩
   case inr.inr=>
    rw[fF]
    subst hg IM yj
    have fc:w.heap.size<(w.alloc (.chan c #[] false 0 0 false)).heap.size:=by simp
    have S':=S.stay (w':=w.alloc (.chan c #[] false 0 0 false)) (D':=D) (ι':=ι) (fun k hk=>Below.heap_alloc _ _ _ hk) (by simp) (fun _ h=>h) (fun b hd=>Nat.lt_trans (S.dead b hd) fc) (fun _ h=>.inl h) (fun _ _ h=>h)
    have S1:=S.add S' (id:=⟨vo.site,n⟩) (B:=⟨w.heap.size,qU+c,0,some (.chan c)⟩) (r:=⟨true,qU+c,[]⟩) hf (Nat.le_refl _) ⟨rfl,fun cs h=>by simp at h,fun h=>by simp at h,fun m' h=>(by simp at h),fun c' h=>by
     simp only[Option.some.injEq,BK.chan.injEq]at h;subst h
     exact⟨rfl, #[],0,0,(show(w.heap.push (Obj.chan c #[] false 0 0 false))[w.heap.size]? =some (Obj.chan c #[] false 0 0 false) by simp),rfl,fun i cs h=>by simp at h⟩⟩
    exact hK _ _ ⟨_,D,_,rfl,Step.stay S (fun k hk=>Below.heap_alloc _ _ _ hk) (by simp) rfl rfl rfl (fun _ h=>h) (fun _ h=>.inl h) (eZ hf),S1,.qR _ _ _ (eh _ _ _) rfl,Us.upd⟩
   case inr.inl=>
    rw[fF]
    subst hg IM yj
    have fc:w.heap.size<(w.alloc (.map #[] 0)).heap.size:=by simp
    have S':=S.stay (w':=w.alloc (.map #[] 0)) (D':=D) (ι':=ι) (fun k hk=>Below.heap_alloc _ _ _ hk) (by simp) (fun _ h=>h) (fun b hd=>Nat.lt_trans (S.dead b hd) fc) (fun _ h=>.inl h) (fun _ _ h=>h)
    have S1:=S.add S' (id:=⟨vo.site,n⟩) (B:=⟨w.heap.size,m.j4,0,some (.map m)⟩) (r:=⟨true,m.j4,[]⟩) hf (Nat.le_refl _) ⟨rfl,fun cs h=>by simp at h,fun h=>by simp at h,fun m' h=>by
     simp only[Option.some.injEq,BK.map.injEq]at h;subst h
     exact⟨rfl, #[],0,(show(w.heap.push (Obj.map #[] 0))[w.heap.size]? =some (Obj.map #[] 0) by simp),rfl,⟨fun cs h=>by simp at h,fun x h=>by simp at h,by simp⟩,fun i cs h=>by simp at h⟩,fun c h=>by simp at h⟩
    exact hK _ _ ⟨_,D,_,rfl,Step.stay S (fun k hk=>Below.heap_alloc _ _ _ hk) (by simp) rfl rfl rfl (fun _ h=>h) (fun _ h=>.inl h) (eZ hf),S1,.map _ _ _ (eh _ _ _) rfl,Us.upd⟩
   rw[fF]
   subst hg
   have S1:=S.alloc (id:=⟨vo.site,n⟩) (w':=w.alloc (.cells cells T)) rfl hf h1 h2 h3 h4 h5
   refine hK _ _ ⟨u,D,_,rfl,Step.stay S (fun k hk=>Below.heap_alloc _ _ _ hk) (by simp) rfl rfl rfl (fun _ h=>h) (fun _ h=>.inl h) (eZ hf),S1,(h6 (jx ι _ _) (eh _ _ _)).frame (fun b hd=>Below.heap_alloc _ _ _ (S.dead b hd)) (fun _ h=>h) (fun _ _ h=>h),Us.upd⟩
 have SD:ez vo.op (cZ env) g ⟨vo.site,n⟩=some (v,g')->(∀MC,DE P hs a o MC D ι ⟨vo.site,n⟩ v g'->MC=w->o.wp P a w K Q):=by
  intro _ MC hE he
  subst he
  obtain⟨u,w',ι',fF,T,S',hR,hι⟩:=hE
  have J1:OY P hs D ι MC U vo.site n a o.dst v g' (a.put o.dst u) w':=⟨u,D,ι',rfl,T,S',hR,fun id hid=>by
   by_cases he:id=⟨vo.site,n⟩
   ·subst he;exact .inr ⟨rfl,.inr rfl⟩
   ·rw[hι id he]at hid
    exact(Us.more (U':=fun x=>U x∨x=vo.site) fun _ h=>Or.inl h) id hid⟩
  unfold Oper.wp
  rcases fF with fF|⟨fF,rfl⟩
  ·rw[fF];exact hK _ _ J1
  ·rw[fF];exact hK _ _ J1
 unfold VS at hv
 split at hv
 ·rename_i f args ep
  rw[ep]at hc
  obtain⟨c,ho,j9,F3,nw⟩:=CA hc
  refine BP f _ (c.args.map a.eval) hv (oa E nw) ?_
  simp only[execOp,ho,resolve,j9,Deferred.ofValue,Act.eval,Sem.run_bind,Sem.run_pure,Result.andThen_ok,invoke,Array.empty_append,Array.append_empty]
  exact jq F3
 ·rename_i x args ep
  obtain⟨f,l,hx,hP⟩:=hv
  rw[ep]at hc
  obtain⟨c,t,ho,j9,rfl,nw⟩:=sQ hc
  obtain⟨first,dG,he,F3,hL⟩:=vG (v:=a.eval (.tmp t)) hx (E t) (oa E nw)
  refine BP f _ (first++c.args.map a.eval++dG) hP hL ?_
  simp only[execOp,ho,resolve,j9,he,Deferred.ofValue,Sem.run_bind,Sem.run_pure,Result.andThen_ok,invoke]
  exact jq F3
 ·rename_i m x y ep
  have jZ:=hc
  rw[ep]at jZ
  obtain⟨t,x',y',ho,h1,h2,h3⟩:=HC jZ
  have nO:=hv
  rw[ep]at nO
  simp only[ez,Option.map_eq_some_iff,Prod.mk.injEq]at nO
  obtain⟨g1,xR,rfl,rfl⟩:=nO
  exact SD hv w (Nd S E ho h1 h2 h3 xR) rfl
 ·rename_i m x y ep
  have jZ:=hc
  rw[ep]at jZ
  obtain⟨t,e,m',z,i,x',y',rfl,ho,h1,h2,h3,h4,h5,h6,h7⟩:=ED jZ
  have nO:=hv
  rw[ep]at nO
  simp only[ez,Option.bind_eq_some_iff]at nO
  obtain⟨ys,Bt,nO⟩:=nO
  exact SD hv w (JH S E hf ho h1 h2 h3 h4 h5 h6 h7 Bt nO) rfl
 ·rename_i m x y ep
  have jZ:=hc
  rw[ep]at jZ
  obtain⟨t,t2,e,m',x',y',rfl,ho,h1,h2,h3,h4⟩:=KA jZ
  have nO:=hv
  rw[ep]at nO
  simp only[ez,Option.bind_eq_some_iff]at nO
  obtain⟨ys,Bt,nO⟩:=nO
  exact SD hv w (Qv S E ho h1 h2 h3 h4 Bt nO) rfl
 ·rename_i z x ep
  have jZ:=hc
  rw[ep]at jZ
  obtain⟨t,e,m',x',ho,h1,h2,h3,h4⟩:=HB jZ
  have nO:=hv
  rw[ep]at nO
  simp only[ez,Option.map_eq_some_iff,Prod.mk.injEq]at nO
  obtain⟨g1,xR,rfl,rfl⟩:=nO
  exact SD hv w (Nc S E ho h1 h2 h3 h4 xR) rfl
 ·rename_i q xs ep
  have jZ:=hc
  rw[ep]at jZ
  have nO:=hv
  rw[ep]at nO
  simp only[ez,Option.map_eq_some_iff,Prod.mk.injEq]at nO
  obtain⟨g1,xR,rfl,rfl⟩:=nO
  rcases Rw jZ with⟨t,x,k,y,m,z,x',k',y',ho,h1,h2,h3,h4,rfl,rfl⟩|⟨t,t',x,k,m,z,x',k',ho,h1,h2,h3,rfl,rfl⟩
  ·exact SD hv w (Qx S E ho h1 h2 h3 h4 xR) rfl
  ·exact SD hv w (Qw S E ho h1 h2 h3 xR) rfl
 ·obtain⟨mr,hq,hg⟩:=hv
  exact quiet mr hq hg
end
end Go.Proofs.YtalkncaokeaifaaGreatDoor.V

namespace Go.Proofs.YtalkncaokeaifaaGreatDoor.V
open Go.RowKit
variable {P:Program} {w w':World} {D D' D2:Nat->Prop} {ι ι' ι2:Names}
section
variable {g:Rows} {hs:Nat} {env:Env} {a:Act} {o:Oper} {id:Id} {v:AV}
theorem pf {ops:Array Oper} {nt site0 j:Nat} {draw mk:Bool} {bs:Array Nat} {hidden:List (Nat×Bool)} {vo:cJ} (h:ko P ops nt site0 draw mk bs hidden j o=some vo):
  qC P o.op=some vo.op/\vo.dst=o.dst/\vo.site=site0+j/\(∀d,o.dst=some d->d<nt)/\(match o.guard with
   |none=>vo.guard=none
   |some (i,b)=>∃t,(ops[i]?).bind (·.dst)=some t/\vo.guard=some (t,b)):=by
 unfold ko at h
 simp only[Option.bind_eq_bind,Option.bind_eq_some_iff]at h
 obtain⟨v,hv,gd,hg,h⟩:=h
 split at h
 ·rename_i hd
  simp only[Option.pure_def,Option.some.injEq]at h
  subst h
  refine⟨hv,rfl,rfl,fun d hd'=>?_,?_⟩
  ·rw[hd']at hd;simpa using hd
  ·unfold DU at hg
   cases Br:o.guard with
   |none=>rw[Br]at hg;simp at hg;exact hg.symm
   |some p=>
    obtain⟨i,b⟩:=p
    rw[Br]at hg
    dsimp only at hg ⊢
    split at hg
    ·rename_i t ht
     simp at hg;exact⟨t,ht,hg.symm⟩
    ·simp at hg
 ·simp at h
theorem tr {ops:Array Oper} {vo:cJ} (E:dh P w D ι env a) (hg:match o.guard with
   |none=>vo.guard=none
   |some (i,b)=>∃t,(ops[i]?).bind (·.dst)=some t/\vo.guard=some (t,b)):ax vo.guard env=Region.wanted o (yielded ops a.tmps):=by
 unfold Region.wanted
 cases Br:o.guard with
 |none=>rw[Br]at hg;simp only at hg;rw[hg];rfl
 |some p=>
  obtain⟨i,b⟩:=p
  rw[Br]at hg
  obtain⟨t,ht,hv⟩:=hg
  rw[hv]
  simp only[ax,yielded,ht,Option.bind_some]
  have hr:=E t
  by_cases eJ:t<a.tmps.size
  ·have iK:a.tmps[t]? =some a.tmps[t]:=Array.getElem?_eq_getElem eJ
   have hd:a.tmps.getD t undef=a.tmps[t]:=by simp[eJ]
   rw[hd]at hr
   rw[iK]
   generalize a.tmps[t]=u at hr
   cases he:env t with
   |bool c=>rw[he]at hr;rw[fA hr];simp
   |_=>
    rw[he]at hr
    have:∀c,u≠.bool c:=by
     intro c hu
     subst hu
     cases hr with
     |eE _ _ h=>cases h
    cases u<;>simp_all
  ·have iK:a.tmps[t]? =none:=Array.getElem?_eq_none (Nat.le_of_not_lt eJ)
   have hd:a.tmps.getD t undef=undef:=by simp[iK]
   rw[hd]at hr
   rw[iK]
   cases he:env t with
   |bool c=>rw[he]at hr;have:=fA hr;simp[undef]at this
   |_=>simp
theorem iv {dst:Option Nat} {nt:Nat} {u:Value} (E:dh P w D ι env a) (hr:dE P w D ι v u) (hd:∀d,dst=some d->d<nt) (hs:a.tmps.size=nt):dh P w D ι (upd env dst v) (a.put dst u):=by
 intro t
 cases dst with
 |none=>exact E t
 |some d=>
  have eJ:d<a.tmps.size:=by rw[hs];exact hd d rfl
  simp only[upd,Act.put]
  by_cases ht:t=d
  ·subst ht
   simp[eJ];exact hr
  ·rw[if_neg ht]
   have:(a.tmps.setIfInBounds d u).getD t undef=a.tmps.getD t undef:=by
    simp only[Array.getD_eq_getD_getElem?]
    rw[Array.getElem?_setIfInBounds_ne (fun e=>ht e.symm)]
   rw[this];exact E t
theorem oz {hs:Nat} (E:dh P w D ι env a) (T:Step hs D ι w D' ι' w'):dh P w' D' ι' env a:=fun t=>T.rep (E t)
theorem ft (a:Act) (dst:Option Tmp) (u:Value):(a.put dst u).tmps.size=a.tmps.size:=by cases dst<;>simp[Act.put]
theorem put_defers (a:Act) (dst:Option Tmp) (u:Value):(a.put dst u).defers=a.defers:=by cases dst<;>rfl
theorem zR {draw:Bool} {vo:cJ} {σ:au} {next:AV->au->Prop} {U:Nat->Prop} {Q:Exit->Act->World->Prop} {K:Act->World->Prop} (hc:qC P o.op=some vo.op) (hv:eo (Sound P) draw vo env σ next) (S:fZ P hs D ι σ.get w) (Us:Used ι σ.next U) (hU:¬U vo.site) (E:dh P w D ι env a)
  (hK:∀v σ' u D' ι' w',next v σ'->Step hs D ι w D' ι' w'->fZ P hs D' ι' σ'.get w'->dE P w' D' ι' v u->Used ι' σ'.next (fun s=>U s∨s=vo.site)->σ.next<=σ'.next->K (a.put o.dst u) w'):o.wp P a w K Q:=by
 have close:∀v g',VS (Sound P) σ.next vo env σ.get v g'->next v ⟨g',σ.next⟩->o.wp P a w K Q:=fun v g' h1 h2=>
  Bz hc h1 S Us hU E fun a' w' ⟨u,D',ι',ha,T,S',hR,U'⟩=>by subst ha;exact hK v ⟨g',σ.next⟩ u D' ι' w' h2 T S' hR U' (Nat.le_refl _)
 have K3:∀(f:Nat) (args:List AV) (vs:Array Value),Sound P f args ⟨σ.get,σ.next+1⟩ next->fE P w D ι args vs->(execOp a.eval o).run P w=.ok (.enter f vs) w->o.wp P a w K Q:=by
  intro f args vs h hA fF
  unfold Oper.wp
  rw[fF]
  refine(h hs D ι w vs S Us.next hA).mono ?_
  rintro e w' ⟨r,g',n',D',ι',u,rfl,hn,T,S',U',hle,hR⟩
  exact hK r ⟨g',n'⟩ u D' ι' w' hn T S' hR (U'.more fun _ h=>h.elim) (Nat.le_trans (Nat.le_succ _) hle)
 unfold eo at hv
 split at hv
 ·rename_i f args ep
  rcases hv with⟨r,hP,hn⟩|⟨_,hX⟩|⟨yl,sz,rows,hM,hn⟩
  ·exact close r σ.get (by unfold VS;rw[ep];exact .inl ⟨hP,rfl⟩) hn
  rotate_left
  ·exact close _ _ (by unfold VS;rw[ep];exact .inr ⟨yl,sz,rows,hM,rfl,rfl⟩) hn
  ·have jZ:=hc
   rw[ep]at jZ
   obtain⟨c,ho,j9,F3,nw⟩:=CA jZ
   refine K3 f _ (c.args.map a.eval) hX (oa E nw) ?_
   simp only[execOp,ho,resolve,j9,Deferred.ofValue,Act.eval,Sem.run_bind,Sem.run_pure,Result.andThen_ok,invoke,Array.empty_append,Array.append_empty]
   exact jq F3
 ·rename_i x args ep
  split at hv
  ·rename_i f dG hx
   have uK:vD (cZ env x) (args.map (cZ env))=some (f,args.map (cZ env)++dG):=by rw[hx];rfl
   rcases hv with⟨r,hP,hn⟩|⟨_,hX⟩|⟨yl,sz,rows,hM,hn⟩
   ·exact close r σ.get (by unfold VS;rw[ep];exact⟨f,_,uK,.inl ⟨hP,rfl⟩⟩) hn
   rotate_left
   ·exact close _ _ (by unfold VS;rw[ep];exact⟨f,_,uK,.inr ⟨yl,sz,rows,hM,rfl,rfl⟩⟩) hn
   ·have jZ:=hc
    rw[ep]at jZ
    obtain⟨c,t,ho,j9,rfl,nw⟩:=sQ jZ
    obtain⟨first,us,he,F3,hL⟩:=vG (v:=a.eval (.tmp t)) uK (E t) (oa E nw)
    refine K3 f _ (first++c.args.map a.eval++us) hX hL ?_
    simp only[execOp,ho,resolve,j9,he,Deferred.ofValue,Sem.run_bind,Sem.run_pure,Result.andThen_ok,invoke]
    exact jq F3
  ·rename_i f dG hx
   have uK:vD (cZ env x) (args.map (cZ env))=some (f,dG++args.map (cZ env)):=by rw[hx];rfl
   rcases hv with⟨r,hP,hn⟩|⟨_,hX⟩|⟨yl,sz,rows,hM,hn⟩
   ·exact close r σ.get (by unfold VS;rw[ep];exact⟨f,_,uK,.inl ⟨hP,rfl⟩⟩) hn
   rotate_left
   ·exact close _ _ (by unfold VS;rw[ep];exact⟨f,_,uK,.inr ⟨yl,sz,rows,hM,rfl,rfl⟩⟩) hn
   ·have jZ:=hc
    rw[ep]at jZ
    obtain⟨c,t,ho,j9,rfl,nw⟩:=sQ jZ
    obtain⟨first,us,he,F3,hL⟩:=vG (v:=a.eval (.tmp t)) uK (E t) (oa E nw)
    refine K3 f _ (first++c.args.map a.eval++us) hX hL ?_
    simp only[execOp,ho,resolve,j9,he,Deferred.ofValue,Sem.run_bind,Sem.run_pure,Result.andThen_ok,invoke]
    exact jq F3
  ·exact hv.elim
 ·rename_i m x y ep
  split at hv
  ·rename_i v' g' he
   exact close v' g' (by unfold VS;rw[ep];rw[ep]at he;exact he) hv
  ·exact hv.elim
 ·rename_i m x y ep
  split at hv
  ·rename_i v' g' he
   exact close v' g' (by unfold VS;rw[ep];rw[ep]at he;exact he) hv
  ·exact hv.elim
 ·rename_i m x y ep
  split at hv
  ·rename_i v' g' he
   exact close v' g' (by unfold VS;rw[ep];rw[ep]at he;exact he) hv
  ·exact hv.elim
 ·rename_i m x ep
  split at hv
  ·rename_i v' g' he
   exact close v' g' (by unfold VS;rw[ep];rw[ep]at he;exact he) hv
  ·exact hv.elim
 ·rename_i m x ep
  split at hv
  ·rename_i v' g' he
   exact close v' g' (by unfold VS;rw[ep];rw[ep]at he;exact he) hv
  ·exact hv.elim
 ·rename_i n1 n2 n3 n4 n5 n6 n7
  split at hv
  ·rename_i v' r hq
   refine close v' (bz σ.get ⟨vo.site,σ.next⟩ r) ?_ hv
   unfold VS
   split
   ·rename_i h;exact(n1 _ _ h).elim
   ·rename_i h;exact(n2 _ _ h).elim
   ·rename_i h;exact(n3 _ _ _ h).elim
   ·rename_i h;exact(n4 _ _ _ h).elim
   ·rename_i h;exact(n5 _ _ _ h).elim
   ·rename_i h;exact(n6 _ _ h).elim
   ·rename_i h;exact(n7 _ _ h).elim
   ·exact⟨some r,hq,rfl⟩
  ·rename_i v' hq
   refine close v' σ.get ?_ hv
   unfold VS
   split
   ·rename_i h;exact(n1 _ _ h).elim
   ·rename_i h;exact(n2 _ _ h).elim
   ·rename_i h;exact(n3 _ _ _ h).elim
   ·rename_i h;exact(n4 _ _ _ h).elim
   ·rename_i h;exact(n5 _ _ _ h).elim
   ·rename_i h;exact(n6 _ _ h).elim
   ·rename_i h;exact(n7 _ _ h).elim
   ·exact⟨none,hq,rfl⟩
  ·exact hv.elim
structure St (P:Program) (hs nt:Nat) (D:Nat->Prop) (ι:Names) (env:Env) (σ:au) (a:Act) (w:World):Prop where
 s8:fZ P hs D ι σ.get w
 used:Used ι σ.next (fun _=>False)
 env:dh P w D ι env a
 size:a.tmps.size=nt
theorem wY (rest:List Oper) {ops:Array Oper} {nt site0:Nat} {draw mk:Bool} {bs:Array Nat} {hidden:List (Nat×Bool)} {K:Env->au->Prop} {Q:Exit->Act->World->Prop}:∀(l:List Oper) (vl:List cJ) (j:Nat) (env:Env) (σ:au) (a:Act) (w:World) (D:Nat->Prop) (ι:Names) (U:Nat->Prop),
  allM (ko P ops nt site0 draw mk bs hidden) l j=some vl->wpOps (Sound P) draw vl K env σ->fZ P hs D ι σ.get w->Used ι σ.next U->(∀s,U s->s<site0+j)->dh P w D ι env a->a.tmps.size=nt->
  (∀iD σ' a' w' D' ι',K iD σ'->Step hs D ι w D' ι' w'->St P hs nt D' ι' iD σ' a' w'->a'.defers=a.defers->σ.next<=σ'.next->wpList P ops Q rest a' w')->wpList P ops Q (l++rest) a w:=by
 intro l
 induction l with
 |nil=>
  intro vl j env σ a w D ι U h hv S Us _ E fc hQ
  simp[allM]at h;subst h
  exact hQ env ⟨σ.get,σ.next+1⟩ a w D ι hv (Step.refl _ _ _ _) ⟨S,Us.next,E,fc⟩ rfl (Nat.le_succ _)
 |cons o l ih=>
  intro vl j env σ a w D ι U h hv S Us hU E fc hQ
  simp only[allM,Option.bind_eq_bind,Option.bind_eq_some_iff,Option.pure_def,Option.some.injEq]at h
  obtain⟨vo,rC,tq,sn,rfl⟩:=h
  obtain⟨hc,hd,Cv,yf,hg⟩:=pf rC
  have hw:=tr (ops:=ops) (vo:=vo) E hg
  unfold wpOps at hv
  show wpList P ops Q (o::(l++rest)) a w
  unfold wpList
  rw[<-hw]
  split at hv
  ·rename_i Hz
   rw[if_pos Hz]
   refine .inl (zR hc hv S Us (fun h=>by have:=hU _ h;omega) E fun v σ' u D' ι' w' hn T S' hR U' hle=>?_)
   refine ih tq (j+1) (upd env vo.dst v) σ' (a.put o.dst u) w' D' ι' _ sn hn S' U' (fun s Ct=>by
    rcases Ct with h|h
    ·have:=hU _ h;omega
    ·omega) (by rw[hd];exact iv (oz E T) hR yf fc) (by rw[ft];exact fc) fun iD σ2 a' w2 D2 ι2 hk T2 ML Er qm=>hQ iD σ2 a' w2 D2 ι2 hk (T.trans T2) ML (Er.trans (put_defers _ _ _)) (Nat.le_trans hle qm)
  ·rename_i Hz
   rw[if_neg Hz]
   refine ih tq (j+1) (upd env vo.dst .undef) σ (a.put o.dst undef) w D ι U sn hv S Us (fun s Ct=>by have:=hU _ Ct;omega) (by rw[hd];exact iv E dE.undef yf fc) (by rw[ft];exact fc) fun iD σ2 a' w2 D2 ι2 hk T2 ML Er qm=>hQ iD σ2 a' w2 D2 ι2 hk T2 ML (Er.trans (put_defers _ _ _)) qm
theorem zC {ops:Array Oper} {nt site0:Nat} {draw mk:Bool} {bs:Array Nat} {hidden:List (Nat×Bool)} {K:Env->au->Prop} {Q:Exit->Act->World->Prop}:∀(l:List Oper) (vl:List cJ) (j:Nat) (env:Env) (σ:au) (a:Act) (w:World) (D:Nat->Prop) (ι:Names) (U:Nat->Prop),
  allM (ko P ops nt site0 draw mk bs hidden) l j=some vl->wpOps (Sound P) draw vl K env σ->fZ P hs D ι σ.get w->Used ι σ.next U->(∀s,U s->s<site0+j)->dh P w D ι env a->a.tmps.size=nt->
  (∀iD σ' a' w' D' ι',K iD σ'->Step hs D ι w D' ι' w'->St P hs nt D' ι' iD σ' a' w'->a'.defers=a.defers->σ.next<=σ'.next->Q .normal a' w')->wpList P ops Q l a w:=fun l vl j env σ a w D ι U h hv S Us hU E fc hQ=>by
 have:=wY [] l vl j env σ a w D ι U h hv S Us hU E fc hQ
 rwa [List.append_nil]at this
end
end Go.Proofs.YtalkncaokeaifaaGreatDoor.V

namespace Go.Proofs.YtalkncaokeaifaaGreatDoor.V
open Go.RowKit
variable {P:Program} {w w':World} {D D' D2:Nat->Prop} {ι ι' ι2:Names}
section
variable {hs:Nat} {X:fW}
theorem cI {env iQ:Env} {x:O} (h:∀t∈gL x,env t=iQ t):cZ env x=cZ iQ x:=by
 cases x with
 |t n=>exact h n (by simp[gL])
 |_=>rfl
theorem map_congr {env iQ:Env} {l:List O} (h:∀t∈l.flatMap gL,env t=iQ t):l.map (cZ env)=l.map (cZ iQ):=
 List.map_congr_left fun x hx=>cI fun t ht=>h t (List.mem_flatMap.2 ⟨x,hx,ht⟩)
theorem pB {env iQ:Env} {x:Option O} (h:∀t∈wZ x,env t=iQ t):x.map (cZ env)=x.map (cZ iQ):=by
 cases x with
 |none=>rfl
 |some y=>simp only[Option.map_some];rw[cI h]
theorem sY {env iQ:Env} {o:gD} {g:Rows} {id:Id} (h:∀t∈o.gI,env t=iQ t):dS o (cZ env) g id=dS o (cZ iQ) g id:=by
 cases o<;>simp only[gD.gI,List.mem_append]at h<;>simp only[dS]
 case gG x=>rw[cI h]
 case pick c a b=>rw[cI (x:=c) fun t ht=>h t (.inl (.inl ht)),cI (x:=a) fun t ht=>h t (.inl (.inr ht)),cI (x:=b) fun t ht=>h t (.inr ht)]
 case box x=>rw[cI h]
 case build z ps=>
  have:(ps.map fun(x:Nat×Nat×O)=>(x.1,x.2.1,cZ env x.2.2))=ps.map fun(x:Nat×Nat×O)=>(x.1,x.2.1,cZ iQ x.2.2):=List.map_congr_left fun x hx=>by
   rw[cI (x:=x.2.2) fun t ht=>h t (List.mem_flatMap.2 ⟨x,hx,ht⟩)]
  rw[this]
 case oh a b l=>rw[map_congr h]
 case load a n x=>rw[cI h]
 case IA x=>rw[cI h]
 case bin a b x y=>rw[cI (x:=x) fun t ht=>h t (.inl ht),cI (x:=y) fun t ht=>h t (.inr ht)]
 case sh a x y=>rw[cI (x:=x) fun t ht=>h t (.inl ht),cI (x:=y) fun t ht=>h t (.inr ht)]
 case M7 a x y=>rw[cI (x:=x) fun t ht=>h t (.inl ht),cI (x:=y) fun t ht=>h t (.inr ht)]
 case We a b x y=>rw[cI (x:=x) fun t ht=>h t (.inl ht),cI (x:=y) fun t ht=>h t (.inr ht)]
 case Wc a b x y=>rw[cI (x:=x) fun t ht=>h t (.inl ht),cI (x:=y) fun t ht=>h t (.inr ht)]
 case Tu a b x=>rw[cI h]
 case Wd a x=>rw[cI h]
 case not x=>rw[cI h]
 case neg x=>rw[cI h]
 case conv k x=>rw[cI h]
 case FL x=>rw[cI h]
 case slice s x lo hi=>rw[cI (x:=x) fun t ht=>h t (.inl (.inl ht)),pB (x:=lo) fun t ht=>h t (.inl (.inr ht)),pB (x:=hi) fun t ht=>h t (.inr ht)]
 case Bg x lo hi=>rw[cI (x:=x) fun t ht=>h t (.inl (.inl ht)),pB (x:=lo) fun t ht=>h t (.inl (.inr ht)),pB (x:=hi) fun t ht=>h t (.inr ht)]
 case lk k x=>rw[cI h]
 case field a b c x=>rw[cI h]
 case lq s x y=>rw[cI (x:=x) fun t ht=>h t (.inl ht),cI (x:=y) fun t ht=>h t (.inr ht)]
 case NP n s x y=>rw[cI (x:=x) fun t ht=>h t (.inl ht),cI (x:=y) fun t ht=>h t (.inr ht)]
 case NR x y=>rw[cI (x:=x) fun t ht=>h t (.inl ht),cI (x:=y) fun t ht=>h t (.inr ht)]
 case ew a b c x y=>rw[cI (x:=x) fun t ht=>h t (.inl ht),cI (x:=y) fun t ht=>h t (.inr ht)]
 case extract i x=>rw[cI h]
 case len x=>rw[cI h]
 case N2 x=>rw[cI h]
 case KR x=>rw[cI h]
 case KJ x=>rw[cI h]
 case N5 f l=>rw[map_congr h]
 case N6 f l=>rw[map_congr h]
 case mq f l=>rw[map_congr h]
 case pz z x y=>rw[cI (x:=x) fun t ht=>h t (.inl ht),cI (x:=y) fun t ht=>h t (.inr ht)]
theorem gU {env iQ:Env} {o:gD} {g:Rows} {id:Id} (h:∀t∈o.gI,env t=iQ t):ez o (cZ env) g id=ez o (cZ iQ) g id:=by
 cases o<;>simp only[gD.gI,List.mem_append]at h<;>simp only[ez]
 case clear z x=>rw[cI h]
 case mw f l=>rw[map_congr h]
 all_goals rename_i a x y
 all_goals rw[cI (x:=x) fun t ht=>h t (.inl ht),cI (x:=y) fun t ht=>h t (.inr ht)]
theorem Jh {n:Nat} {vo:cJ} {env iQ:Env} {g g':Rows} {v:AV} (h:∀t∈vo.op.gI,env t=iQ t) (hv:VS X n vo env g v g'):VS X n vo iQ g v g':=by
 unfold VS at hv ⊢
 split at hv
 ·rename_i f args ep
  rw[ep]at h
  simp only[gD.gI]at h
  rw[<-map_congr h];exact hv
 ·rename_i x args ep
  rw[ep]at h
  simp only[gD.gI,List.mem_append]at h
  rw[<-map_congr (l:=args) fun t ht=>h t (.inr ht),<-cI (x:=x) fun t ht=>h t (.inl ht)];exact hv
 ·rw[<-gU h];exact hv
 ·rw[<-gU h];exact hv
 ·rw[<-gU h];exact hv
 ·rw[<-gU h];exact hv
 ·rw[<-gU h];exact hv
 ·rw[<-sY h];exact hv
theorem EM {q:MQ} {vs:List AV} {g:Rows} {id:Id} {v:AV} {r:Row} (h:aW q vs g id=some (v,some r)):∃m,q=.new m:=by
 unfold aW at h
 split at h
 ·exact⟨_,rfl⟩
 ·simp[Option.bind_eq_some_iff]at h
 ·simp at h
 ·cases h
theorem xe {o:gD} {ρ:O->AV} {g:Rows} {id:Id} {v:AV} {r:Row} (h:dS o ρ g id=some (v,some r)):qp o=true:=by
 cases o<;>simp only[dS]at h<;>(try rfl)<;>(try simp at h)
 case mq q xs=>obtain⟨m,rfl⟩:=EM h;rfl
 all_goals (try(split at h<;>simp at h))
theorem xf {o:gD} {ρ:O->AV} {g g2:Rows} {id id2:Id} (h:o.cls=.pure):dS o ρ g id=dS o ρ g2 id2:=by
 cases o<;>(try simp[gD.cls]at h)<;>(try simp only[dS])
 case mq q xs=>cases q<;>simp[gD.cls]at h
theorem vd {n:Nat} {vo:cJ} {env:Env} {g g':Rows} {v:AV} (hw:vo.op.cls≠.write) (hv:VS X n vo env g v g'):∃mr,g'=jh g ⟨vo.site,n⟩ mr/\(mr≠none->vo.makes=true)/\∀g0,ev vo.hid n g0=ev vo.hid n g->VS X n vo env g0 v (jh g0 ⟨vo.site,n⟩ mr):=by
 unfold VS at hv
 split at hv
 ·rename_i f args ep
  rcases hv with⟨h1,rfl⟩|⟨hs,sz,rows,hM,rfl,rfl⟩
  ·refine⟨none,rfl,fun h=>(h rfl).elim,fun g0 h0=>?_⟩
   unfold VS;rw[ep];simp only;unfold vF;rw[h0];exact .inl ⟨h1,rfl⟩
  ·refine⟨some _,rfl,fun _=>by unfold cJ.makes;rw[ep,hs];simp[gD.lJ],fun g0 h0=>?_⟩
   unfold VS;rw[ep];simp only;unfold vF;rw[h0];exact .inr ⟨hs,sz,rows,hM,rfl,rfl⟩
 ·rename_i x args ep
  obtain⟨f,dG,hx,hv⟩:=hv
  rcases hv with⟨h1,rfl⟩|⟨hs,sz,rows,hM,rfl,rfl⟩
  ·refine⟨none,rfl,fun h=>(h rfl).elim,fun g0 h0=>?_⟩
   unfold VS;rw[ep];simp only;unfold vF;rw[h0];exact⟨f,dG,hx,.inl ⟨h1,rfl⟩⟩
  ·refine⟨some _,rfl,fun _=>by unfold cJ.makes;rw[ep,hs];simp[gD.lJ],fun g0 h0=>?_⟩
   unfold VS;rw[ep];simp only;unfold vF;rw[h0];exact⟨f,dG,hx,.inr ⟨hs,sz,rows,hM,rfl,rfl⟩⟩
 ·rename_i ep;rw[ep]at hw;exact(hw rfl).elim
 ·rename_i ep;rw[ep]at hw;exact(hw rfl).elim
 ·rename_i ep;rw[ep]at hw;exact(hw rfl).elim
 ·rename_i ep;rw[ep]at hw;exact(hw rfl).elim
 ·rename_i ep;rw[ep]at hw;exact(hw rfl).elim
 ·rename_i n1 n2 n3 n4 n5 n6 n7
  obtain⟨mr,hq,rfl⟩:=hv
  refine⟨mr,rfl,fun h=>?_,fun g0 h0=>?_⟩
  ·cases mr with
   |none=>exact(h rfl).elim
   |some r=>unfold cJ.makes;rw[xe hq];rfl
  ·unfold VS
   split
   ·rename_i hh;exact(n1 _ _ hh).elim
   ·rename_i hh;exact(n2 _ _ hh).elim
   ·rename_i hh;exact(n3 _ _ _ hh).elim
   ·rename_i hh;exact(n4 _ _ _ hh).elim
   ·rename_i hh;exact(n5 _ _ _ hh).elim
   ·rename_i hh;exact(n6 _ _ hh).elim
   ·rename_i hh;exact(n7 _ _ hh).elim
   ·rw[h0];exact⟨mr,hq,rfl⟩
theorem zZ {n:Nat} {vo:cJ} {env:Env} {g g':Rows} {v:AV} (hp:vo.op.cls=.pure) (hv:VS X n vo env g v g'):g'=g/\∀g0,VS X n vo env g0 v g0:=by
 unfold VS at hv
 split at hv
 ·rename_i ep;rw[ep]at hp;simp[gD.cls]at hp
 ·rename_i ep;rw[ep]at hp;simp[gD.cls]at hp
 ·rename_i ep;rw[ep]at hp;simp[gD.cls]at hp
 ·rename_i ep;rw[ep]at hp;simp[gD.cls]at hp
 ·rename_i ep;rw[ep]at hp;simp[gD.cls]at hp
 ·rename_i ep;rw[ep]at hp;simp[gD.cls]at hp
 ·rename_i ep;rw[ep]at hp;simp[gD.cls]at hp
 ·rename_i n1 n2 n3 n4 n5 n6 n7
  obtain⟨mr,hq,rfl⟩:=hv
  have Yj:mr=none:=by
   cases mr with
   |none=>rfl
   |some r=>have:=xe hq;simp[qp,hp]at this
  subst Yj
  refine⟨rfl,fun g0=>?_⟩
  unfold VS
  split
  ·rename_i hh;exact(n1 _ _ hh).elim
  ·rename_i hh;exact(n2 _ _ hh).elim
  ·rename_i hh;exact(n3 _ _ _ hh).elim
  ·rename_i hh;exact(n4 _ _ _ hh).elim
  ·rename_i hh;exact(n5 _ _ _ hh).elim
  ·rename_i hh;exact(n6 _ _ hh).elim
  ·rename_i hh;exact(n7 _ _ hh).elim
  ·exact⟨none,by rw[xf hp];exact hq,rfl⟩
def GS (X:fW) (n:Nat) (vo:cJ) (env:Env) (g:Rows) (v:AV) (g':Rows):Prop:=
 if ax vo.guard env then VS X n vo env g v g' else v=.undef/\g'=g
theorem Di {hid:List Nat} {g:Rows} {s n:Nat} {mr:Option Row} (h:mr≠none->hid.contains s=true):ev hid n (jh g ⟨s,n⟩ mr)=ev hid n g:=by
 cases mr with
 |none=>rfl
 |some r=>
  have hc:=h (by simp)
  cases hid with
  |nil=>simp at hc
  |cons a l=>
   funext i
   show(if (a::l).contains i.site=true/\i.cV=n then none else jh g ⟨s,n⟩ (some r) i)=if (a::l).contains i.site=true/\i.cV=n then none else g i
   by_cases hi:i=⟨s,n⟩
   ·subst hi;rw[if_pos ⟨hc,rfl⟩,if_pos ⟨hc,rfl⟩]
   ·simp only[jh,bz,if_neg hi]
theorem GQ {g:Rows} {i j:Id} (h:i≠j) (m1 m2:Option Row):jh (jh g i m1) j m2=jh (jh g j m2) i m1:=by
 cases m1<;>cases m2<;>simp only[jh]
 funext k
 simp only[bz]
 by_cases h1:k=i
 ·subst h1;rw[if_neg h,if_pos rfl];simp
 ·by_cases h2:k=j
  ·subst h2;simp[h1]
  ·simp[h1,h2]
theorem xL {env:Env} {d e:Option Nat} {v u:AV} (h:∀k,d=some k->e≠some k):upd (upd env d v) e u=upd (upd env e u) d v:=by
 cases d with
 |none=>rfl
 |some d=>
  cases e with
  |none=>rfl
  |some e=>
   have gZ:d≠e:=fun he=>h d rfl (by rw[he])
   funext t
   simp only[upd]
   by_cases h1:t=d
   ·subst h1;rw[if_neg gZ,if_pos rfl,if_pos rfl]
   ·by_cases h2:t=e
    ·subst h2;rw[if_pos rfl,if_neg h1,if_pos rfl]
    ·simp[h1,h2]
theorem mA {env:Env} {d:Option Nat} {v:AV} {l:List Nat} (h:∀k,d=some k->k∉l):∀t∈l,upd env d v t=env t:=by
 intro t ht
 cases d with
 |none=>rfl
 |some d=>
  have:t≠d:=fun he=>h d rfl (he▸ht)
  simp[upd,this]
structure DF (x y:cJ):Prop where
 xy:∀k,x.dst=some k->k∉y.gI
 yx:∀k,y.dst=some k->k∉x.gI
 dst:∀k,x.dst=some k->y.dst≠some k
 cls:clash x.op.cls y.op.cls=false
 hx:x.makes=true->y.hid.contains x.site=true
 hy:y.makes=true->x.hid.contains y.site=true
 site:x.site≠y.site
theorem DF.symm {x y:cJ} (h:DF x y):DF y x:=
 ⟨h.yx,h.xy,fun k hk he=>h.dst k he hk,by have:=h.cls;revert this;cases x.op.cls<;>cases y.op.cls<;>simp[clash],h.hy,h.hx,fun e=>h.site e.symm⟩
theorem qg {x y:cJ} (h:FX x y=true):DF x y:=by
 unfold FX at h
 simp only[Bool.and_eq_true,Bool.not_eq_true',Bool.or_eq_true,bne_iff_ne]at h
 obtain⟨⟨⟨⟨h1,h2⟩,h3⟩,h4⟩,h5⟩:=h
 unfold tk at h1
 simp only[Bool.and_eq_true]at h1
 obtain⟨a1,a2⟩:=h1
 refine⟨fun k hk=>?_,fun k hk=>?_,fun k hk=>?_,h2,fun hm=>?_,fun hm=>?_,h5⟩
 ·rw[hk]at a1;simp at a1;exact a1.1
 ·rw[hk]at a2;simpa using a2
 ·rw[hk]at a1;simp at a1;exact a1.2
 ·rcases h3 with h3|h3
  ·rw[hm]at h3;cases h3
  ·exact h3
 ·rcases h4 with h4|h4
  ·rw[hm]at h4;cases h4
  ·exact h4
theorem r5 {vo:cJ} {t:Nat} (h:t∈vo.op.gI):t∈vo.gI:=List.mem_append_left _ h
theorem mZ {vo:cJ} {env iQ:Env} (h:∀t∈vo.gI,env t=iQ t):ax vo.guard env=ax vo.guard iQ:=by
 unfold ax
 cases hg:vo.guard with
 |none=>rfl
 |some p=>
  obtain⟨t,b⟩:=p
  have:env t=iQ t:=h t (List.mem_append_right _ (by rw[hg];simp))
  simp only[this]
theorem uY {n:Nat} {vo:cJ} {env iQ:Env} {g g':Rows} {v:AV} (h:∀t∈vo.gI,env t=iQ t) (hv:GS X n vo env g v g'):GS X n vo iQ g v g':=by
 unfold GS at hv ⊢
 rw[<-mZ h]
 split at hv
 ·rename_i hw;rw[if_pos hw];exact Jh (fun t ht=>h t (r5 ht)) hv
 ·rename_i hw;rw[if_neg hw];exact hv
theorem FA {n:Nat} {x y:cJ} {env:Env} {g g1 g2:Rows} {v v':AV} (F:DF x y) (h1:GS X n x env g v g1) (h2:GS X n y (upd env x.dst v) g1 v' g2):
  ∃Mo,GS X n y env g v' Mo/\GS X n x (upd env y.dst v') Mo v g2/\upd (upd env x.dst v) y.dst v'=upd (upd env y.dst v') x.dst v:=by
 have IL:=xL (env:=env) (v:=v) (u:=v') F.dst
 replace h2:GS X n y env g1 v' g2:=uY (mA F.xy) h2
 have back:∀{Mo},GS X n x env Mo v g2->GS X n x (upd env y.dst v') Mo v g2:=fun h=>uY (fun t ht=>(mA F.yx t ht).symm) h
 unfold GS at h1 h2
 by_cases wx:ax x.guard env=true
 ·rw[if_pos wx]at h1
  by_cases wy:ax y.guard env=true
  ·rw[if_pos wy]at h2
   by_cases cx:x.op.cls=.write
   ·have cy:y.op.cls=.pure:=by
     have:=F.cls;rw[cx]at this
     cases hc:y.op.cls<;>simp[clash,hc]at this ⊢
    obtain⟨rfl,eI⟩:=zZ cy h2
    exact⟨g,by unfold GS;rw[if_pos wy];exact eI g,back (by unfold GS;rw[if_pos wx];exact h1),IL⟩
   ·by_cases cy:y.op.cls=.write
    ·have cx':x.op.cls=.pure:=by
      have:=F.cls;rw[cy]at this
      cases hc:x.op.cls<;>simp[clash,hc]at this ⊢
     obtain⟨rfl,eI⟩:=zZ cx' h1
     exact⟨g2,by unfold GS;rw[if_pos wy];exact h2,back (by unfold GS;rw[if_pos wx];exact eI g2),IL⟩
    ·obtain⟨mx,rfl,kx,Xi⟩:=vd cx h1
     obtain⟨my,rfl,ky,Qh⟩:=vd cy h2
     have gZ:(⟨x.site,n⟩:Id)≠⟨y.site,n⟩:=fun e=>F.site (by injection e)
     refine⟨jh g ⟨y.site,n⟩ my,?_,back ?_,IL⟩
     ·unfold GS;rw[if_pos wy]
      exact Qh g (Di fun h=>F.hx (kx h)).symm
     ·unfold GS;rw[if_pos wx,GQ gZ]
      exact Xi _ (Di fun h=>F.hy (ky h))
  ·rw[if_neg wy]at h2
   obtain⟨rfl,rfl⟩:=h2
   exact⟨g,by unfold GS;rw[if_neg wy];exact⟨rfl,rfl⟩,back (by unfold GS;rw[if_pos wx];exact h1),IL⟩
 ·rw[if_neg wx]at h1
  obtain⟨rfl,rfl⟩:=h1
  exact⟨g2,h2,back (by unfold GS;rw[if_neg wx];exact⟨rfl,rfl⟩),IL⟩
end
end Go.Proofs.YtalkncaokeaifaaGreatDoor.V

namespace Go.Proofs.YtalkncaokeaifaaGreatDoor.V
open Go.RowKit
variable {P:Program} {w w':World} {D D' D2:Nat->Prop} {ι ι' ι2:Names}
section
variable {hs:Nat} {X:fW}
def ji (acc:Array Nat) (o:Oper):Nat:=o.after.foldl (fun s e=>if Region.binds .any e then s|||2 ^ e.on|||acc.getD e.on 0 else s) 0
theorem MT (ops:Array Oper):jd ops=ops.foldl (fun acc o=>acc.push (ji acc o)) #[]:=rfl
theorem BG {acc:Array Nat} {o:Oper} {i:Nat} (h:(ji acc o).testBit i=true):∃e∈o.after,Region.binds .any e=true/\(e.on=i∨(acc.getD e.on 0).testBit i=true):=by
 unfold ji at h
 rw[<-Array.foldl_toList]at h
 have gen:∀(l:List Edge) (s:Nat),(l.foldl (fun s e=>if Region.binds .any e then s|||2 ^ e.on|||acc.getD e.on 0 else s) s).testBit i=true->s.testBit i=true∨∃e∈l,Region.binds .any e=true/\(e.on=i∨(acc.getD e.on 0).testBit i=true):=by
  intro l
  induction l with
  |nil=>intro s h;exact .inl h
  |cons e r ih=>
   intro s h
   rw[List.foldl_cons]at h
   rcases ih _ h with h|⟨e',II,h'⟩
   ·by_cases hb:Region.binds .any e=true
    ·rw[if_pos hb]at h
     simp only[Nat.testBit_or,Bool.or_eq_true]at h
     rcases h with(h|h)|h
     ·exact .inl h
     ·refine .inr ⟨e,by simp,hb,.inl ?_⟩
      rw[Nat.testBit_two_pow]at h
      simpa using h
     ·exact .inr ⟨e,by simp,hb,.inr h⟩
    ·rw[if_neg hb]at h;exact .inl h
   ·exact .inr ⟨e',List.mem_cons_of_mem _ II,h'⟩
 rcases gen _ _ h with h|⟨e,he,h⟩
 ·simp at h
 ·exact⟨e,Array.mem_toList_iff.1 he,h⟩
theorem Jr {ops:Array Oper} {j i:Nat} (h:((jd ops).getD j 0).testBit i=true):∃o,ops[j]? =some o/\∃e∈o.after,Region.binds .any e=true/\(e.on=i∨((jd ops).getD e.on 0).testBit i=true):=by
 have key:∀(l pre:List Oper) (acc:Array Nat),acc.size=pre.length->(∀j i,(acc.getD j 0).testBit i=true->∃o,pre[j]? =some o/\∃e∈o.after,Region.binds .any e=true/\(e.on=i∨(acc.getD e.on 0).testBit i=true))->
   ∀j i,((l.foldl (fun acc o=>acc.push (ji acc o)) acc).getD j 0).testBit i=true->∃o,(pre++l)[j]? =some o/\∃e∈o.after,Region.binds .any e=true/\(e.on=i∨((l.foldl (fun acc o=>acc.push (ji acc o)) acc).getD e.on 0).testBit i=true):=by
  intro l
  induction l with
  |nil=>intro pre acc _ h j i hb;simpa using h j i hb
  |cons o r ih=>
   intro pre acc fc h j i hb
   have CW:∀k,k<acc.size->(acc.push (ji acc o)).getD k 0=acc.getD k 0:=fun k hk=>by
    simp only[Array.getD_eq_getD_getElem?,Array.getElem?_push]
    rw[if_neg ab]
   have big:∀k,acc.size<=k->acc.getD k 0=0:=fun k hk=>by simp[Array.getElem?_eq_none hk]
   have lift:∀k i,(acc.getD k 0).testBit i=true->((acc.push (ji acc o)).getD k 0).testBit i=true:=fun k i hk=>by
    by_cases eJ:k<acc.size
    ·rw[CW k eJ];exact hk
    ·rw[big k ab]at hk;simp at hk
   have:=ih (pre++[o]) (acc.push (ji acc o)) (by simp[fc]) (fun j i hb=>by
    by_cases eJ:j<acc.size
    ·rw[CW j eJ]at hb
     obtain⟨o',AI,e,he,qj,h2⟩:=h j i hb
     refine⟨o',by rw[List.getElem?_append_left ab];exact AI,e,he,qj,?_⟩
     rcases h2 with h2|h2
     ·exact .inl h2
     ·exact .inr (lift _ _ h2)
    ·by_cases hj:j=acc.size
     ·subst hj
      have e0:(acc.push (ji acc o)).getD acc.size 0=ji acc o:=by simp
      rw[e0]at hb
      obtain⟨e,he,qj,h2⟩:=BG hb
      refine⟨o,by rw[List.getElem?_append_right ab,fc];simp,e,he,qj,?_⟩
      rcases h2 with h2|h2
      ·exact .inl h2
      ·exact .inr (lift _ _ h2)
     ·have:(acc.push (ji acc o)).getD j 0=0:=by
       simp only[Array.getD_eq_getD_getElem?]
       rw[Array.getElem?_eq_none (by simp;omega)];rfl
      rw[this]at hb;simp at hb) j i (by simpa using hb)
   simpa using this
 rw[MT,<-Array.foldl_toList]at h ⊢
 have:=key ops.toList [] #[] rfl (fun j i h=>by simp at h) j i h
 simpa using this
def DC (ops:Array Oper) (listed:Array Bool):Prop:=∀k i,listed.getD k false=true->((jd ops).getD k 0).testBit i=true->listed.getD i false=true
theorem kN {ops:Array Oper} {listed:Array Bool} (h:DC ops listed) {j:Nat} (hj:j∈Region.ready .any ops listed):∀i,((jd ops).getD j 0).testBit i=true->listed.getD i false=true:=by
 intro i hb
 obtain⟨_,o,ho,eI⟩:=mem_ready.1 hj
 obtain⟨o',AI,e,he,qj,h2⟩:=Jr hb
 rw[ho]at AI;injection AI with AI;subst AI
 have hl:=eI e he qj
 rcases h2 with h2|h2
 ·rw[<-h2];exact hl
 ·exact h _ _ hl h2
theorem DC.list {ops:Array Oper} {listed:Array Bool} (h:DC ops listed) {j:Nat} (hj:j∈Region.ready .any ops listed):DC ops (listed.setIfInBounds j true):=by
 intro k i hk hb
 by_cases hkj:k=j
 ·subst hkj;exact getD_set_true (kN h hj i hb)
 ·rw[getD_set_ne false (fun e=>hkj e.symm)]at hk
  exact getD_set_true (h k i hk hb)
theorem jb {ops:Array Oper} {listed:Array Bool} {j:Nat} (hj:j∈Region.ready .any ops listed):listed.getD j false=false:=by
 have h0:=(mem_ready.1 hj).1
 rcases Nat.lt_or_ge j listed.size with h|h
 ·simp[h]at h0 ⊢;exact h0
 ·simp[Array.getElem?_eq_none h]at h0
def L3 (X:fW) (n:Nat) (ops:Array Oper) (vl:List cJ) (K:Env->Rows->Prop):Nat->Array Bool->Env->Rows->Prop
 |0,listed,env,g=>Region.ready .any ops listed=[]/\K env g
 |f+1,listed,env,g=>(Region.ready .any ops listed=[]->K env g)/\∀i∈Region.ready .any ops listed,∃vo,vl[i]? =some vo/\∃v g',GS X n vo env g v g'/\L3 X n ops vl K f (listed.setIfInBounds i true) (upd env vo.dst v) g'
theorem BY {ops:Array Oper} {vl:List cJ} (h:ox ops vl (jd ops)=true) {i j:Nat} {x y:cJ} (hi:vl[i]? =some x) (hj:vl[j]? =some y) (yh:i≠j) (h1:((jd ops).getD j 0).testBit i=false) (h2:((jd ops).getD i 0).testBit j=false):DF x y:=by
 unfold ox at h
 simp only[Bool.and_eq_true,List.all_eq_true]at h
 obtain⟨_,h⟩:=h
 have mem:∀(k:Nat) (z:cJ),vl[k]? =some z->(z,k)∈vl.zipIdx:=fun k z hk=>by
  rw[List.mem_iff_getElem?]
  exact⟨k,by simp[List.getElem?_zipIdx,hk]⟩
 rcases Nat.lt_or_gt_of_ne yh with eJ|Nx
 ·have:=h _ (mem j y hj) _ (mem i x hi)
  simp only[eJ,decide_true,Bool.not_true,Bool.false_or,h1]at this
  exact qg this
 ·have:=h _ (mem i x hi) _ (mem j y hj)
  simp only[Nx,decide_true,Bool.not_true,Bool.false_or,h2]at this
  exact(qg this).symm
theorem Fv {n:Nat} {ops:Array Oper} {vl:List cJ} {K:Env->Rows->Prop} (wj:ox ops vl (jd ops)=true) (hlen:vl.length=ops.size) {i:Nat} {vi:cJ} (hi:vl[i]? =some vi) {v:AV}:∀(fuel:Nat) (listed:Array Bool) (env:Env) (g g1:Rows),
  DC ops listed->i∈Region.ready .any ops listed->GS X n vi env g v g1->L3 X n ops vl K fuel (listed.setIfInBounds i true) (upd env vi.dst v) g1->L3 X n ops vl K (fuel+1) listed env g:=by
 intro fuel
 induction fuel with
 |zero=>
  intro listed env g g1 _ hr hG H
  refine⟨fun h=>(by rw[h]at hr;cases hr),fun j hj=>?_⟩
  by_cases mC:j=i
  ·subst mC;exact⟨vi,hi,v,g1,hG,H⟩
  ·have:=ready_mono hj mC
   rw[H.1]at this;cases this
 |succ fuel ih=>
  intro listed env g g1 sj hr hG H
  refine⟨fun h=>(by rw[h]at hr;cases hr),fun j hj=>?_⟩
  by_cases mC:j=i
  ·subst mC;exact⟨vi,hi,v,g1,hG,H⟩
  ·obtain⟨vj,NM,v',g2,TJ,H2⟩:=H.2 j (ready_mono hj mC)
   have b1:((jd ops).getD j 0).testBit i=false:=by
    cases hb:((jd ops).getD j 0).testBit i with
    |false=>rfl
    |true=>have:=kN sj hj i hb;rw[jb hr]at this;cases this
   have b2:((jd ops).getD i 0).testBit j=false:=by
    cases hb:((jd ops).getD i 0).testBit j with
    |false=>rfl
    |true=>have:=kN sj hr j hb;rw[jb hj]at this;cases this
   have F:=BY wj hi NM (fun e=>mC e.symm) b1 b2
   obtain⟨Mo,q1,q2,q3⟩:=FA F hG TJ
   refine⟨vj,NM,v',Mo,q1,ih _ _ _ g2 (sj.list hj) (ready_mono hr (fun e=>mC e.symm)) q2 ?_⟩
   rw[<-q3,Array.setIfInBounds_comm _ _ mC]
   exact H2
theorem Qd {n:Nat} {vo:cJ} {env:Env} {g:Rows} {v:AV} {mr:Option Row} (h:dS vo.op (cZ env) (ev vo.hid n g) ⟨vo.site,n⟩=some (v,mr)):VS X n vo env g v (jh g ⟨vo.site,n⟩ mr):=by
 unfold VS
 split
 ·rename_i ep;rw[ep]at h;simp[dS]at h
 ·rename_i ep;rw[ep]at h;simp[dS]at h
 ·rename_i ep;rw[ep]at h;simp[dS]at h
 ·rename_i ep;rw[ep]at h;simp[dS]at h
 ·rename_i ep;rw[ep]at h;simp[dS]at h
 ·rename_i ep;rw[ep]at h;simp[dS]at h
 ·rename_i ep;rw[ep]at h;simp[dS]at h
 ·exact⟨mr,h,rfl⟩
theorem Ji {n:Nat} {vo:cJ} {env:Env} {g g':Rows} {v:AV} (h:ez vo.op (cZ env) g ⟨vo.site,n⟩=some (v,g')):VS X n vo env g v g':=by
 unfold VS
 split
 ·rename_i ep;rw[ep]at h;simp[ez]at h
 ·rename_i ep;rw[ep]at h;simp[ez]at h
 ·exact h
 ·exact h
 ·exact h
 ·exact h
 ·exact h
 ·rename_i n1 n2 n3 n4 n5 n6 n7
  exfalso
  unfold ez at h
  split at h
  ·rename_i hh;exact n3 _ _ _ hh
  ·rename_i hh;exact n4 _ _ _ hh
  ·rename_i hh;exact n5 _ _ _ hh
  ·rename_i hh;exact n6 _ _ hh
  ·rename_i hh;exact n7 _ _ hh
  ·simp at h
theorem Sd {vo:cJ} {env:Env} {σ:au} {next:AV->au->Prop} (hv:eo X true vo env σ next):∃v g',VS X σ.next vo env σ.get v g'/\next v ⟨g',σ.next⟩:=by
 unfold eo at hv
 split at hv
 ·rename_i f args ep
  rcases hv with⟨r,hP,hn⟩|⟨h,_⟩|⟨hs,sz,rows,hM,hn⟩
  ·exact⟨r,σ.get,by unfold VS;rw[ep];exact .inl ⟨hP,rfl⟩,hn⟩
  ·cases h
  ·exact⟨_,_,by unfold VS;rw[ep];exact .inr ⟨hs,sz,rows,hM,rfl,rfl⟩,hn⟩
 ·rename_i x args ep
  split at hv
  ·rename_i f dG hx
   have uK:vD (cZ env x) (args.map (cZ env))=some (f,args.map (cZ env)++dG):=by rw[hx];rfl
   rcases hv with⟨r,hP,hn⟩|⟨h,_⟩|⟨hs,sz,rows,hM,hn⟩
   ·exact⟨r,σ.get,by unfold VS;rw[ep];exact⟨f,_,uK,.inl ⟨hP,rfl⟩⟩,hn⟩
   ·cases h
   ·exact⟨_,_,by unfold VS;rw[ep];exact⟨f,_,uK,.inr ⟨hs,sz,rows,hM,rfl,rfl⟩⟩,hn⟩
  ·rename_i f dG hx
   have uK:vD (cZ env x) (args.map (cZ env))=some (f,dG++args.map (cZ env)):=by rw[hx];rfl
   rcases hv with⟨r,hP,hn⟩|⟨h,_⟩|⟨hs,sz,rows,hM,hn⟩
   ·exact⟨r,σ.get,by unfold VS;rw[ep];exact⟨f,_,uK,.inl ⟨hP,rfl⟩⟩,hn⟩
   ·cases h
   ·exact⟨_,_,by unfold VS;rw[ep];exact⟨f,_,uK,.inr ⟨hs,sz,rows,hM,rfl,rfl⟩⟩,hn⟩
  ·exact hv.elim
 ·split at hv
  ·rename_i v g h;exact⟨v,g,Ji h,hv⟩
  ·exact hv.elim
 ·split at hv
  ·rename_i v g h;exact⟨v,g,Ji h,hv⟩
  ·exact hv.elim
 ·split at hv
  ·rename_i v g h;exact⟨v,g,Ji h,hv⟩
  ·exact hv.elim
 ·split at hv
  ·rename_i v g h;exact⟨v,g,Ji h,hv⟩
  ·exact hv.elim
 ·split at hv
  ·rename_i v g h;exact⟨v,g,Ji h,hv⟩
  ·exact hv.elim
 ·split at hv
  ·rename_i v r h;exact⟨v,_,Qd h,hv⟩
  ·rename_i v h;exact⟨v,_,Qd h,hv⟩
  ·exact hv.elim
theorem xN {ops:Array Oper} {vl:List cJ} {K:Env->au->Prop} {n:Nat} (wj:ox ops vl (jd ops)=true) (hlen:vl.length=ops.size):∀(r:List cJ) (k:Nat) (listed:Array Bool) (env:Env) (g:Rows),
  (∀j,r[j]? =vl[k+j]?)->listed.size=ops.size->(∀i,i<ops.size->listed[i]? =some (decide (i<k)))->k+r.length=ops.size->DC ops listed->wpOps X true r K env ⟨g,n⟩->L3 X n ops vl (fun env g=>K env ⟨g,n+1⟩) r.length listed env g
 |[],k,listed,env,g,_,fc,hl,hk,_,hv=>by
  refine⟨?_,hv⟩
  rw[List.eq_nil_iff_forall_not_mem]
  intro j hj
  obtain⟨h0,o,ho,_⟩:=mem_ready.1 hj
  have eJ:j<ops.size:=(Array.getElem?_eq_some_iff.1 ho).1
  have:=hl j eJ
  simp at hk
  simp[this,show j<k by omega]at h0
 |vo::r,k,listed,env,g,hr,fc,hl,hk,sj,hv=>by
  simp only[List.length_cons]at hk
  have rC:vl[k]? =some vo:=by simpa using(hr 0).symm
  have mN:k<ops.size:=ab
  have Kn:k∈Region.ready .any ops listed:=by
   rw[mem_ready]
   refine⟨by simp[hl k mN],ops[k],Array.getElem?_eq_getElem mN,fun e he hb=>?_⟩
   unfold ox FN at wj
   simp only[Bool.and_eq_true,List.all_eq_true]at wj
   have hm:(ops[k],k)∈ops.toList.zipIdx:=by
    rw[List.mem_iff_getElem?]
    exact⟨k,by simp[List.getElem?_zipIdx,mN]⟩
   have:=wj.1 _ hm
   rw[Array.all_eq_true_iff_forall_mem]at this
   have:=this e he
   simp only[hb,Bool.not_true,Bool.false_or,decide_eq_true_eq]at this
   simp[hl e.on ab,this]
  have hGS:∃v g',GS X n vo env g v g'/\wpOps X true r K (upd env vo.dst v) ⟨g',n⟩:=by
   unfold wpOps at hv
   unfold GS
   split at hv
   ·rename_i hw
    simp only[hw,if_true]
    exact Sd hv
   ·rename_i hw
    simp only[hw]
    exact⟨.undef,g,⟨rfl,rfl⟩,hv⟩
  obtain⟨v,g',h1,h2⟩:=hGS
  refine Fv wj hlen rC r.length listed env g g' sj Kn h1 ?_
  refine xN wj hlen r (k+1) _ _ _ (fun j=>by have:=hr (j+1);simpa[Nat.add_assoc,Nat.add_comm 1 j]using this) (by simp[fc]) (fun i hi=>?_) ab (sj.list Kn) h2
  by_cases Dt:i=k
  ·subst Dt;simp[fc,mN]
  ·rw[Array.getElem?_setIfInBounds_ne (fun e=>Dt e.symm),hl i hi]
   congr 1
   have:(i<k)=(i<k+1):=by apply propext;omega
   simp[this]
theorem n9 {f:Nat->Oper->Option cJ}:∀{l:List Oper} {vl:List cJ} {j:Nat},allM f l j=some vl->vl.length=l.length/\∀(i:Nat) (o:Oper),l[i]? =some o->∃vo,vl[i]? =some vo/\f (j+i) o=some vo
 |[],vl,j,h=>by simp[allM]at h;subst h;simp
 |o::l,vl,j,h=>by
  simp only[allM,Option.bind_eq_bind,Option.bind_eq_some_iff,Option.pure_def,Option.some.injEq]at h
  obtain⟨vo,rC,tq,sn,rfl⟩:=h
  obtain⟨h1,h2⟩:=n9 sn
  refine⟨by simp[h1],fun i o' hi=>?_⟩
  cases i with
  |zero=>simp at hi;subst hi;exact⟨vo,rfl,rC⟩
  |succ i=>
   simp at hi
   obtain⟨q,hq,hf⟩:=h2 i o' hi
   exact⟨q,by simpa using hq,by rw[<-hf];congr 1;omega⟩
theorem yG {ops:Array Oper} {vl:List cJ} {nt site0:Nat} {draw mk:Bool} {bs:Array Nat} {hidden:List (Nat×Bool)} {n:Nat} {K:Env->Rows->Prop} {Q:Exit->Act->World->Prop} (eI:allM (ko P ops nt site0 draw mk bs hidden) ops.toList 0=some vl):
  ∀(fuel:Nat) (listed:Array Bool) (env:Env) (g:Rows) (a:Act) (w:World) (D:Nat->Prop) (ι:Names) (U:Nat->Prop),L3 (Sound P) n ops vl K fuel listed env g->fZ P hs D ι g w->Used ι n U->(∀s,U s->∃i,s=site0+i/\listed.getD i false=true)->dh P w D ι env a->a.tmps.size=nt->
  (∀iD g' a' w' D' ι' U',K iD g'->Step hs D ι w D' ι' w'->fZ P hs D' ι' g' w'->Used ι' n U'->dh P w' D' ι' iD a'->a'.tmps.size=nt->a'.defers=a.defers->Q .normal a' w')->wpAny P .any ops Q fuel listed a w:=by
 intro fuel
 induction fuel with
 |zero=>intro listed env g a w D ι U h S Us hU E fc hQ;exact⟨h.1,hQ env g a w D ι U h.2 (Step.refl _ _ _ _) S Us E fc rfl⟩
 |succ fuel ih=>
  intro listed env g a w D ι U h S Us hU E fc hQ
  refine⟨fun hr=>hQ env g a w D ι U (h.1 hr) (Step.refl _ _ _ _) S Us E fc rfl,fun i hi=>?_⟩
  obtain⟨vo,rC,v,g',hG,Px⟩:=h.2 i hi
  obtain⟨_,o,ho,_⟩:=mem_ready.1 hi
  obtain⟨vo',AK,Uc⟩:=(n9 eI).2 i o (by simpa using ho)
  rw[rC]at AK;injection AK with AK;subst AK
  rw[Nat.zero_add]at Uc
  obtain⟨hc,hd,Cv,yf,hg⟩:=pf Uc
  have hw:=tr (ops:=ops) (vo:=vo) E hg
  have XS:¬U vo.site:=fun hu=>by
   obtain⟨i',he,hl⟩:=hU _ hu
   have:i'=i:=ab
   subst this
   rw[jb hi]at hl;cases hl
  have ju:i<listed.size:=by
   have h0:=(mem_ready.1 hi).1
   rcases Nat.lt_or_ge i listed.size with h|h
   ·exact h
   ·simp[Array.getElem?_eq_none h]at h0
  unfold wpOp
  simp only[ho]
  rw[<-hw]
  unfold GS at hG
  by_cases Hz:ax vo.guard env=true
  ·rw[if_pos Hz]
   rw[if_pos Hz]at hG
   refine .inl (Bz hc hG S Us XS E fun a' w' ⟨u,D',ι',ha,T,S',hR,U'⟩=>?_)
   subst ha
   refine ih _ _ _ _ w' D' ι' _ Px S' U' (fun s Ct=>?_) (by rw[hd];exact iv (oz E T) hR yf fc) (by rw[ft];exact fc) fun iD g2 a2 w2 D2 ι2 U2 hk T2 S2 Xh E2 pZ Er=>hQ iD g2 a2 w2 D2 ι2 U2 hk (T.trans T2) S2 Xh E2 pZ (Er.trans (put_defers _ _ _))
   rcases Ct with h|h
   ·obtain⟨i',he,hl⟩:=hU _ h
    exact⟨i',he,getD_set_true hl⟩
   ·exact⟨i,by rw[h,Cv],by simp[ju]⟩
  ·rw[if_neg Hz]
   rw[if_neg Hz]at hG
   obtain⟨rfl,rfl⟩:=hG
   refine ih _ _ _ _ w D ι U Px S Us (fun s Ct=>?_) (by rw[hd];exact iv E dE.undef yf fc) (by rw[ft];exact fc) fun iD g2 a2 w2 D2 ι2 U2 hk T2 S2 Xh E2 pZ Er=>hQ iD g2 a2 w2 D2 ι2 U2 hk T2 S2 Xh E2 pZ (Er.trans (put_defers _ _ _))
   obtain⟨i',he,hl⟩:=hU _ Ct
   exact⟨i',he,getD_set_true hl⟩
end
end Go.Proofs.YtalkncaokeaifaaGreatDoor.V

namespace Go.Proofs.YtalkncaokeaifaaGreatDoor.V
open Go.RowKit
variable {P:Program} {w w':World} {D D' D2:Nat->Prop} {ι ι' ι2:Names}
section
variable {hs:Nat} {X:fW}
def pS (X:fW):Prop:=∀f args σ K K',(∀r σ',K r σ'->K' r σ')->X f args σ K->X f args σ K'
theorem kn:pS (Sound P):=fun _ _ _ _ _ hK h hs D ι w vs S U A=>
 (h hs D ι w vs S U A).mono fun _ _ ⟨r,g',n',D',ι',u,he,hk,rest⟩=>⟨r,g',n',D',ι',u,he,hK _ _ hk,rest⟩
def step (X:fW) (vo:cJ) (N:Env->au->Prop) (env:Env) (σ:au):Prop:=
 if ax vo.guard env then eo X false vo env σ fun v σ'=>N (upd env vo.dst v) σ' else N (upd env vo.dst .undef) σ
theorem qd (hK:pS X) {draw:Bool} {hid:List Nat} {site f:Nat} {args:List AV} {σ:au} {n n':AV->au->Prop} (hn:∀v σ',n v σ'->n' v σ') (hp:bJ X draw hid site f args σ n):bJ X draw hid site f args σ n':=by
 rcases hp with⟨r,h1,h2⟩|⟨h1,h2⟩|⟨h1,sz,rows,h2,h3⟩
 ·exact .inl ⟨r,h1,hn _ _ h2⟩
 ·exact .inr (.inl ⟨h1,hK _ _ _ _ _ hn h2⟩)
 ·exact .inr (.inr ⟨h1,sz,rows,h2,hn _ _ h3⟩)
theorem Dj (hK:pS X) {draw:Bool} {o:cJ} {env:Env} {σ:au} {n n':AV->au->Prop} (hn:∀v σ',n v σ'->n' v σ') (hp:eo X draw o env σ n):eo X draw o env σ n':=by
 unfold eo at hp ⊢
 split at hp
 ·exact qd hK hn hp
 ·split at hp
  ·exact qd hK hn hp
  ·exact qd hK hn hp
  ·exact hp.elim
 ·split at hp
  ·exact hn _ _ hp
  ·exact hp.elim
 ·split at hp
  ·exact hn _ _ hp
  ·exact hp.elim
 ·split at hp
  ·exact hn _ _ hp
  ·exact hp.elim
 ·split at hp
  ·exact hn _ _ hp
  ·exact hp.elim
 ·split at hp
  ·exact hn _ _ hp
  ·exact hp.elim
 ·split at hp
  ·exact hn _ _ hp
  ·exact hn _ _ hp
  ·exact hp.elim
theorem jJ (hK:pS X) {vo:cJ} {N N':Env->au->Prop} (h:∀e s,N e s->N' e s) {env:Env} {σ:au} (hp:step X vo N env σ):step X vo N' env σ:=by
 unfold step at hp ⊢
 split at hp
 ·rename_i hw;rw[if_pos hw];exact Dj hK (fun v σ'=>h _ _) hp
 ·rename_i hw;rw[if_neg hw];exact h _ _ hp
theorem Ir {env iQ:Env} {vo:cJ} {σ:au} {n:AV->au->Prop} (h:∀t∈vo.op.gI,env t=iQ t) (hv:eo X false vo env σ n):eo X false vo iQ σ n:=by
 unfold eo at hv ⊢
 split at hv
 ·rename_i f args ep
  rw[ep]at h
  simp only[gD.gI]at h
  rw[<-map_congr h];exact hv
 ·rename_i x args ep
  rw[ep]at h
  simp only[gD.gI,List.mem_append]at h
  rw[<-map_congr (l:=args) fun t ht=>h t (.inr ht),<-cI (x:=x) fun t ht=>h t (.inl ht)];exact hv
 ·rw[<-gU h];exact hv
 ·rw[<-gU h];exact hv
 ·rw[<-gU h];exact hv
 ·rw[<-gU h];exact hv
 ·rw[<-gU h];exact hv
 ·rw[<-sY h];exact hv
theorem lx {x:cJ} (hq:kK x=true) {N:Env->au->Prop} {env:Env} {σ:au}:step X x N env σ↔∃v g',GS X σ.next x env σ.get v g'/\N (upd env x.dst v) ⟨g',σ.next⟩:=by
 unfold kK at hq
 simp only[Bool.and_eq_true,Bool.not_eq_true',bne_iff_ne]at hq
 obtain⟨hq1,NL⟩:=hq
 unfold step GS
 by_cases hw:ax x.guard env=true
 ·rw[if_pos hw]
  simp only[hw,if_true]
  unfold eo
  split
  ·rename_i ep;simp[ep,gD.lJ]at hq1
  ·rename_i ep;simp[ep,gD.lJ]at hq1
  ·rename_i ep;simp[ep,gD.cls]at NL
  ·rename_i ep;simp[ep,gD.cls]at NL
  ·rename_i ep;simp[ep,gD.cls]at NL
  ·rename_i ep;simp[ep,gD.cls]at NL
  ·rename_i ep;simp[ep,gD.cls]at NL
  ·rename_i n1 n2 n3 n4 n5 n6 n7
   have hVS:∀v g',VS X σ.next x env σ.get v g'↔∃mr,dS x.op (cZ env) (ev x.hid σ.next σ.get) ⟨x.site,σ.next⟩=some (v,mr)/\g'=jh σ.get ⟨x.site,σ.next⟩ mr:=fun v g'=>by
    unfold VS
    split
    ·rename_i hh;exact(n1 _ _ hh).elim
    ·rename_i hh;exact(n2 _ _ hh).elim
    ·rename_i hh;exact(n3 _ _ _ hh).elim
    ·rename_i hh;exact(n4 _ _ _ hh).elim
    ·rename_i hh;exact(n5 _ _ _ hh).elim
    ·rename_i hh;exact(n6 _ _ hh).elim
    ·rename_i hh;exact(n7 _ _ hh).elim
    ·exact Iff.rfl
   simp only[hVS]
   cases hz:dS x.op (cZ env) (ev x.hid σ.next σ.get) ⟨x.site,σ.next⟩with
   |none=>
    exact⟨fun h=>h.elim,fun⟨v,g',⟨mr,h,_⟩,_⟩=>by cases h⟩
   |some p=>
    obtain⟨v,mr⟩:=p
    have key:∀(v':AV) (g':Rows),(∃S4,some (v,mr)=some (v',S4)/\g'=jh σ.get ⟨x.site,σ.next⟩ S4)↔v'=v/\g'=jh σ.get ⟨x.site,σ.next⟩ mr:=fun v' g'=>by
     constructor
     ·rintro⟨S4,h1,h2⟩
      injection h1 with h1;injection h1 with h1 h3
      subst h1;subst h3
      exact⟨rfl,h2⟩
     ·rintro⟨rfl,rfl⟩;exact⟨mr,rfl,rfl⟩
    have fin:(∃v' g',(∃S4,some (v,mr)=some (v',S4)/\g'=jh σ.get ⟨x.site,σ.next⟩ S4)/\N (upd env x.dst v') ⟨g',σ.next⟩)↔N (upd env x.dst v) ⟨jh σ.get ⟨x.site,σ.next⟩ mr,σ.next⟩:=by
     constructor
     ·rintro⟨v',g',h,hN⟩
      obtain⟨rfl,rfl⟩:=(key v' g').1 h
      exact hN
     ·intro hN;exact⟨v,_,(key _ _).2 ⟨rfl,rfl⟩,hN⟩
    cases mr with
    |none=>exact fin.symm
    |some r=>exact fin.symm
 ·rw[if_neg hw]
  simp only[if_neg hw]
  exact⟨fun h=>⟨_,_,⟨rfl,rfl⟩,h⟩,fun⟨v,g',⟨hv,hg⟩,h⟩=>by rw[hv,hg]at h;exact h⟩
def xv (x:cJ) (env:Env) (v:AV):Prop:=if ax x.guard env then dS x.op (cZ env) (fun _=>none) ⟨0,0⟩=some (v,none)else v=.undef
theorem xb {x:cJ} (hp:x.op.cls=.pure):kK x=true:=by
 unfold kK
 rw[hp]
 cases hc:x.op<;>simp[hc,gD.cls]at hp<;>rfl
theorem tf {x:cJ} (hp:x.op.cls=.pure) {N:Env->au->Prop} {env:Env} {σ:au}:step X x N env σ↔∃v,xv x env v/\N (upd env x.dst v) σ:=by
 rw[lx (xb hp)]
 unfold GS xv
 by_cases hw:ax x.guard env=true
 ·simp only[hw,if_true]
  constructor
  ·rintro⟨v,g',h,hN⟩
   obtain⟨rfl,eI⟩:=zZ hp h
   refine⟨v,?_,hN⟩
   unfold VS at h
   split at h
   ·rename_i ep;rw[ep]at hp;simp[gD.cls]at hp
   ·rename_i ep;rw[ep]at hp;simp[gD.cls]at hp
   ·rename_i ep;rw[ep]at hp;simp[gD.cls]at hp
   ·rename_i ep;rw[ep]at hp;simp[gD.cls]at hp
   ·rename_i ep;rw[ep]at hp;simp[gD.cls]at hp
   ·rename_i ep;rw[ep]at hp;simp[gD.cls]at hp
   ·rename_i ep;rw[ep]at hp;simp[gD.cls]at hp
   ·obtain⟨mr,hq,_⟩:=h
    have Yj:mr=none:=by
     cases mr with
     |none=>rfl
     |some r=>have:=xe hq;simp[qp,hp]at this
    subst Yj
    rw[<-xf (g:=ev x.hid σ.next σ.get) (id:=⟨x.site,σ.next⟩) hp];exact hq
  ·rintro⟨v,h,hN⟩
   exact⟨v,σ.get,Qd (mr:=none) (by rw[xf (g2:=fun _=>none) (id2:=⟨0,0⟩) hp];exact h),hN⟩
 ·simp only[if_neg hw]
  exact⟨fun⟨v,g',⟨hv,hg⟩,h⟩=>⟨v,hv,by rw[hg]at h;exact h⟩,fun⟨v,hv,h⟩=>⟨v,σ.get,⟨hv,rfl⟩,h⟩⟩
theorem Mh {x:cJ} {env iQ:Env} {v:AV} (h:∀t∈x.gI,env t=iQ t) (hv:xv x env v):xv x iQ v:=by
 unfold xv at hv ⊢
 rw[<-mZ h,<-sY fun t ht=>h t (r5 ht)];exact hv
structure OZ (x y:cJ):Prop where
 xy:∀k,x.dst=some k->k∉y.gI
 yx:∀k,y.dst=some k->k∉x.gI
 dst:∀k,x.dst=some k->y.dst≠some k
theorem sa {x y:cJ} (h:tk x y=true):OZ x y:=by
 unfold tk at h
 simp only[Bool.and_eq_true]at h
 obtain⟨a1,a2⟩:=h
 refine⟨fun k hk=>?_,fun k hk=>?_,fun k hk=>?_⟩
 ·rw[hk]at a1;simp at a1;exact a1.1
 ·rw[hk]at a2;simpa using a2
 ·rw[hk]at a1;simp at a1;exact a1.2
theorem yU {x y:cJ} (h:yT x y=true):(OZ x y/\x.op.cls=.pure)∨(DF x y/\kK x=true/\kK y=true):=by
 unfold yT at h
 simp only[Bool.or_eq_true,Bool.and_eq_true,beq_iff_eq]at h
 rcases h with⟨h1,h2⟩|⟨⟨h1,h2⟩,h3⟩
 ·exact .inl ⟨sa h1,h2⟩
 ·exact .inr ⟨qg h1,h2,h3⟩
theorem Cb {x y:cJ} (h:yT x y=true):kK x=true:=by
 rcases yU h with h|h
 ·exact xb h.2
 ·exact h.2.1
theorem Ii (hK:pS X) {x y:cJ} (hf:yT x y=true) {N:Env->au->Prop} {env:Env} {σ:au} (h:step X x (fun e s=>step X y N e s) env σ):step X y (fun e s=>step X x N e s) env σ:=by
 rcases yU hf with⟨F,hp⟩|⟨F,hx,hy⟩
 ·rw[tf hp]at h
  obtain⟨v,hx,h⟩:=h
  have IL:=fun(v':AV)=>xL (env:=env) (v:=v) (u:=v') F.dst
  have nz:=mA (env:=env) (v:=v) F.xy
  have back:∀(v':AV),xv x (upd env y.dst v') v:=fun v'=>Mh (fun t ht=>(mA F.yx t ht).symm) hx
  unfold step at h ⊢
  rw[mZ nz]at h
  split at h
  ·rename_i hw
   rw[if_pos hw]
   refine Dj hK (fun v' σ' hN=>?_) (Ir (fun t ht=>nz t (r5 ht)) h)
   rw[IL]at hN
   exact(tf hp).2 ⟨v,back v',hN⟩
  ·rename_i hw
   rw[if_neg hw]
   rw[IL]at h
   exact(tf hp).2 ⟨v,back _,h⟩
 ·rw[lx hx]at h
  obtain⟨v,g1,h1,h⟩:=h
  rw[lx hy]at h
  obtain⟨v',g2,h2,h⟩:=h
  obtain⟨Mo,q1,q2,q3⟩:=FA F h1 h2
  rw[q3]at h
  exact(lx hy).2 ⟨v',Mo,q1,(lx hx).2 ⟨v,g2,q2,h⟩⟩
def Bk (X:fW) (ops:Array Oper) (vl:List cJ) (K:Env->au->Prop):Nat->Array Bool->Env->au->Prop
 |0,listed,env,σ=>Region.ready .any ops listed=[]/\K env ⟨σ.get,σ.next+1⟩
 |f+1,listed,env,σ=>(Region.ready .any ops listed=[]->K env ⟨σ.get,σ.next+1⟩)/\∀i∈Region.ready .any ops listed,∃vo,vl[i]? =some vo/\step X vo (fun e s=>Bk X ops vl K f (listed.setIfInBounds i true) e s) env σ
theorem D9 {ops:Array Oper} {vl:List cJ} {bs:Array Nat} {listed:Array Bool} {i:Nat} (h:qf ops vl bs listed i=true) (j:Nat):qf ops vl bs (listed.setIfInBounds j true) i=true:=by
 unfold qf at h ⊢
 split at h
 ·rename_i x hx
  simp only[List.all_eq_true,Bool.or_eq_true]at h ⊢
  intro k hk
  rcases h k hk with((h|h)|h)|h
  ·exact .inl (.inl (.inl (getD_set_true h)))
  ·exact .inl (.inl (.inr h))
  ·exact .inl (.inr h)
  ·exact .inr h
 ·cases h
theorem tF {ops:Array Oper} {vl:List cJ} {listed:Array Bool} {i j:Nat} {vi:cJ} (sj:DC ops listed) (h:qf ops vl (jd ops) listed i=true) (hi:vl[i]? =some vi) (hr:i∈Region.ready .any ops listed) (hj:j∈Region.ready .any ops listed) (mC:j≠i):∃vj,vl[j]? =some vj/\yT vi vj=true:=by
 unfold qf at h
 rw[hi]at h
 simp only[List.all_eq_true,Bool.or_eq_true,beq_iff_eq]at h
 obtain⟨_,o,ho,_⟩:=mem_ready.1 hj
 rcases h j (List.mem_range.2 (Array.getElem?_eq_some_iff.1 ho).1)with((h|h)|h)|h
 ·rw[jb hj]at h;cases h
 ·exact absurd h mC
 ·have:=kN sj hj i h
  rw[jb hr]at this;cases this
 ·split at h
  ·rename_i y hy;exact⟨y,hy,h⟩
  ·cases h
theorem Fy (hK:pS X) {ops:Array Oper} {vl:List cJ} {K:Env->au->Prop} {i:Nat} {vi:cJ} (hi:vl[i]? =some vi):∀(fuel:Nat) (listed:Array Bool) (env:Env) (σ:au),
  DC ops listed->i∈Region.ready .any ops listed->qf ops vl (jd ops) listed i=true->step X vi (fun e s=>Bk X ops vl K fuel (listed.setIfInBounds i true) e s) env σ->Bk X ops vl K (fuel+1) listed env σ:=by
 intro fuel
 induction fuel with
 |zero=>
  intro listed env σ sj hr jz H
  refine⟨fun h=>(by rw[h]at hr;cases hr),fun j hj=>?_⟩
  by_cases mC:j=i
  ·subst mC;exact⟨vi,hi,H⟩
  ·obtain⟨vj,NM,Uh⟩:=tF sj jz hi hr hj mC
   rw[lx (Cb Uh)]at H
   obtain⟨v,g',_,H⟩:=H
   have:=ready_mono hj mC
   rw[H.1]at this;cases this
 |succ fuel ih=>
  intro listed env σ sj hr jz H
  refine⟨fun h=>(by rw[h]at hr;cases hr),fun j hj=>?_⟩
  by_cases mC:j=i
  ·subst mC;exact⟨vi,hi,H⟩
  ·obtain⟨vj,NM,Uh⟩:=tF sj jz hi hr hj mC
   refine⟨vj,NM,?_⟩
   have H2:step X vi (fun e s=>step X vj (fun e s=>Bk X ops vl K fuel ((listed.setIfInBounds i true).setIfInBounds j true) e s) e s) env σ:=jJ hK (fun e s h=>by
    obtain⟨vj',AJ,h'⟩:=h.2 j (ready_mono hj mC)
    rw[NM]at AJ;injection AJ with AJ;subst AJ
    exact h') H
   refine jJ hK (fun e s h=>?_) (Ii hK Uh H2)
   refine ih _ _ _ (sj.list hj) (ready_mono hr (fun e=>mC e.symm)) (D9 jz j) ?_
   rw[Array.setIfInBounds_comm _ _ mC]
   exact h
theorem s9 {x:cJ} (hg:x.guard=none) {N:Env->au->Prop} {env:Env} {σ:au}:step X x N env σ=eo X false x env σ (fun v σ'=>N (upd env x.dst v) σ'):=by
 unfold step
 rw[hg]
 simp[ax]
theorem Fm {x y:cJ} {t s sz:Nat} {ys:O} (hx:x.op=.append sz (.t t) ys) (hg:x.guard=none) (hf:FW s x y=true) {N:Env->au->Prop} {env:Env} {σ:au} (hl:N3 t s ys env σ.next) (h:step X x (fun e s=>step X y N e s) env σ):
  step X y (fun e σ'=>N3 t s ys e σ'.next/\step X x N e σ') env σ:=by
 unfold FW at hf
 simp only[Bool.and_eq_true,bne_iff_ne]at hf
 obtain⟨⟨⟨⟨⟨f1,hq⟩,f3⟩,f4⟩,f5⟩,f6⟩:=hf
 have F:=sa f1
 obtain⟨⟨len,ht⟩,hsrc⟩:=hl
 have Ks:∀k∈x.op.gI,∀v',upd env y.dst v' k=env k:=fun k hk v'=>mA (env:=env) (v:=v') F.yx k (r5 hk)
 have ed:t∈x.op.gI:=by rw[hx];simp[gD.gI,gL]
 have Bt:∀v',cZ (upd env y.dst v') ys=cZ env ys:=fun v'=>(cI fun k hk=>by rw[Ks k (by rw[hx];simp[gD.gI,hk])]).symm
 rw[s9 hg]at h
 unfold eo at h
 simp only[hx,ez]at h
 have ex:cZ env (.t t)=.own ⟨s,σ.next⟩ 0 len:=ht
 rw[ex]at h
 cases hr:aT σ.get (cZ env ys)with
 |none=>rw[hr]at h;exact h.elim
 |some rs=>
  rw[hr]at h
  simp only[Option.bind_some,aH]at h
  cases hgs:σ.get ⟨s,σ.next⟩with
  |none=>rw[hgs]at h;exact h.elim
  |some r=>
   rw[hgs]at h
   simp only[Option.bind_some]at h
   split at h
   ·rename_i v g1 hv
    split at hv
    ·rename_i hcond
     simp only[Option.some.injEq,Prod.mk.injEq]at hv
     obtain⟨rfl,rfl⟩:=hv
     rw[lx hq]at h
     obtain⟨v',g2,hG,hN⟩:=h
     have ND:(⟨y.site,σ.next⟩:Id)≠⟨s,σ.next⟩:=fun e=>f5 (by injection e)
     have Kj:(⟨y.site,σ.next⟩:Id)≠⟨x.site,σ.next⟩:=fun e=>f6 (by injection e)
     replace hG:GS X σ.next y env (bz (bx σ.get ⟨s,σ.next⟩) ⟨x.site,σ.next⟩ ⟨true,sz,r.rows++rs⟩) v' g2:=uY (mA F.xy) hG
     have YK:ev y.hid σ.next σ.get=ev y.hid σ.next (bz (bx σ.get ⟨s,σ.next⟩) ⟨x.site,σ.next⟩ ⟨true,sz,r.rows++rs⟩):=by
      cases hh:y.hid with
      |nil=>rw[hh]at f3;simp at f3
      |cons a l=>
       rw[hh]at f3 f4
       funext i
       show(if (a::l).contains i.site=true/\i.cV=σ.next then none else σ.get i)=if (a::l).contains i.site=true/\i.cV=σ.next then none else _
       by_cases h1:i=⟨x.site,σ.next⟩
       ·subst h1;rw[if_pos ⟨f4,rfl⟩,if_pos ⟨f4,rfl⟩]
       ·by_cases h2:i=⟨s,σ.next⟩
        ·subst h2;rw[if_pos ⟨f3,rfl⟩,if_pos ⟨f3,rfl⟩]
        ·simp only[bz,bx,if_neg h1,if_neg h2]
     obtain⟨my,Um,hG'⟩:∃my,g2=jh (bz (bx σ.get ⟨s,σ.next⟩) ⟨x.site,σ.next⟩ ⟨true,sz,r.rows++rs⟩) ⟨y.site,σ.next⟩ my/\GS X σ.next y env σ.get v' (jh σ.get ⟨y.site,σ.next⟩ my):=by
      unfold GS at hG ⊢
      by_cases wy:ax y.guard env=true
      ·rw[if_pos wy]at hG
       have hcw:y.op.cls≠.write:=by
        unfold kK at hq
        simp only[Bool.and_eq_true,bne_iff_ne]at hq
        exact hq.2
       obtain⟨my,rfl,_,Qh⟩:=vd hcw hG
       exact⟨my,rfl,by rw[if_pos wy];exact Qh _ YK⟩
      ·rw[if_neg wy]at hG
       obtain⟨rfl,rfl⟩:=hG
       exact⟨none,rfl,by rw[if_neg wy];exact⟨rfl,rfl⟩⟩
     subst Um
     refine(lx hq).2 ⟨v',_,hG',⟨⟨len,by rw[Ks t ed];exact ht⟩,fun id o l he=>hsrc id o l (by rw[<-Bt v'];exact he)⟩,?_⟩
     rw[s9 hg]
     unfold eo
     have ex':cZ (upd env y.dst v') (.t t)=.own ⟨s,σ.next⟩ 0 len:=by
      show upd env y.dst v' t= _
      rw[Ks t ed];exact ht
     simp only[hx,ez,ex',Bt v']
     have nS:aT (jh σ.get ⟨y.site,σ.next⟩ my) (cZ env ys)=some rs:=by
      cases my with
      |none=>exact hr
      |some row=>
       revert hr
       cases hev:cZ env ys<;>simp only[aT,jh]<;>try exact fun h=>h
       rename_i id o l
       have:id≠⟨y.site,σ.next⟩:=fun e=>hsrc id o l hev (by rw[e])
       simp only[bz,if_neg this];exact fun h=>h
     have X5:jh σ.get ⟨y.site,σ.next⟩ my ⟨s,σ.next⟩=some r:=by
      cases my with
      |none=>exact hgs
      |some row=>simp only[jh,bz,if_neg (fun e=>ND e.symm:(⟨s,σ.next⟩:Id)≠⟨y.site,σ.next⟩)];exact hgs
     rw[nS]
     simp only[Option.bind_some,aH,X5]
     rw[if_pos hcond]
     have hgg:bz (bx (jh σ.get ⟨y.site,σ.next⟩ my) ⟨s,σ.next⟩) ⟨x.site,σ.next⟩ ⟨true,sz,r.rows++rs⟩=jh (bz (bx σ.get ⟨s,σ.next⟩) ⟨x.site,σ.next⟩ ⟨true,sz,r.rows++rs⟩) ⟨y.site,σ.next⟩ my:=by
      cases my with
      |none=>rfl
      |some row=>
       funext i
       simp only[jh,bz,bx]
       by_cases h1:i=⟨y.site,σ.next⟩
       ·subst h1;rw[if_neg Kj,if_neg ND,if_pos rfl,if_pos rfl]
       ·simp only[if_neg h1]
     have hu:=xL (env:=env) (v:=AV.own ⟨x.site,σ.next⟩ 0 (len+rs.length)) (u:=v') F.dst
     show N (upd (upd env y.dst v') x.dst (.own ⟨x.site,σ.next⟩ 0 (len+rs.length))) ⟨bz (bx (jh σ.get ⟨y.site,σ.next⟩ my) ⟨s,σ.next⟩) ⟨x.site,σ.next⟩ ⟨true,sz,r.rows++rs⟩,σ.next⟩
     rw[hgg,<-hu]
     exact hN
    ·cases hv
   ·exact h.elim
theorem D8 {ops:Array Oper} {vl:List cJ} {bs:Array Nat} {listed:Array Bool} {i s:Nat} (h:oD ops vl bs listed i s=true) (j:Nat):oD ops vl bs (listed.setIfInBounds j true) i s=true:=by
 unfold oD at h ⊢
 split at h
 ·rename_i x hx
  simp only[List.all_eq_true,Bool.or_eq_true]at h ⊢
  intro k hk
  rcases h k hk with((h|h)|h)|h
  ·exact .inl (.inl (.inl (getD_set_true h)))
  ·exact .inl (.inl (.inr h))
  ·exact .inl (.inr h)
  ·exact .inr h
 ·cases h
theorem B7 {ops:Array Oper} {vl:List cJ} {listed:Array Bool} {i j s:Nat} {vi:cJ} (sj:DC ops listed) (h:oD ops vl (jd ops) listed i s=true) (hi:vl[i]? =some vi) (hr:i∈Region.ready .any ops listed) (hj:j∈Region.ready .any ops listed) (mC:j≠i):∃vj,vl[j]? =some vj/\FW s vi vj=true:=by
 unfold oD at h
 rw[hi]at h
 simp only[List.all_eq_true,Bool.or_eq_true,beq_iff_eq]at h
 obtain⟨_,o,ho,_⟩:=mem_ready.1 hj
 rcases h j (List.mem_range.2 (Array.getElem?_eq_some_iff.1 ho).1)with((h|h)|h)|h
 ·rw[jb hj]at h;cases h
 ·exact absurd h mC
 ·have:=kN sj hj i h
  rw[jb hr]at this;cases this
 ·split at h
  ·rename_i y hy;exact⟨y,hy,h⟩
  ·cases h
theorem Dk (hK:pS X) {ops:Array Oper} {vl:List cJ} {K:Env->au->Prop} {i t s sz:Nat} {ys:O} {vi:cJ} (hi:vl[i]? =some vi) (hx:vi.op=.append sz (.t t) ys) (hg:vi.guard=none):∀(fuel:Nat) (listed:Array Bool) (env:Env) (σ:au),
  DC ops listed->i∈Region.ready .any ops listed->oD ops vl (jd ops) listed i s=true->N3 t s ys env σ.next->step X vi (fun e s=>Bk X ops vl K fuel (listed.setIfInBounds i true) e s) env σ->Bk X ops vl K (fuel+1) listed env σ:=by
 intro fuel
 induction fuel with
 |zero=>
  intro listed env σ sj hr jz SK H
  refine⟨fun h=>(by rw[h]at hr;cases hr),fun j hj=>?_⟩
  by_cases mC:j=i
  ·subst mC;exact⟨vi,hi,H⟩
  ·exfalso
   have h0:=ready_mono hj mC
   rw[s9 hg]at H
   unfold eo at H
   simp only[hx]at H
   split at H
   ·rw[H.1]at h0;cases h0
   ·exact H
 |succ fuel ih=>
  intro listed env σ sj hr jz SK H
  refine⟨fun h=>(by rw[h]at hr;cases hr),fun j hj=>?_⟩
  by_cases mC:j=i
  ·subst mC;exact⟨vi,hi,H⟩
  ·obtain⟨vj,NM,Uh⟩:=B7 sj jz hi hr hj mC
   refine⟨vj,NM,?_⟩
   have H2:step X vi (fun e s=>step X vj (fun e s=>Bk X ops vl K fuel ((listed.setIfInBounds i true).setIfInBounds j true) e s) e s) env σ:=jJ hK (fun e s h=>by
    obtain⟨vj',AJ,h'⟩:=h.2 j (ready_mono hj mC)
    rw[NM]at AJ;injection AJ with AJ;subst AJ
    exact h') H
   refine jJ hK (fun e s h=>?_) (Fm hx hg Uh SK H2)
   refine ih _ _ _ (sj.list hj) (ready_mono hr (fun e=>mC e.symm)) (D8 jz j) h.1 ?_
   rw[Array.setIfInBounds_comm _ _ mC]
   exact h.2
theorem KM {ops:Array Oper} {vl:List cJ} {bs:Array Nat} {listed:Array Bool} {i i' t s:Nat} {y:O} {vo:cJ} (h:RD ops vl bs listed i=some (i',t,s,y,vo)):i'=i/\vl[i]? =some vo/\(∃sz,vo.op=.append sz (.t t) y)/\vo.guard=none/\oD ops vl bs listed i s=true:=by
 unfold RD at h
 split at h
 ·rename_i x hx
  split at h
  ·rename_i t' s' y' k6
   split at h
   ·rename_i hf
    simp only[Option.some.injEq,Prod.mk.injEq]at h
    obtain⟨rfl,rfl,rfl,rfl,rfl⟩:=h
    unfold PK at k6
    split at k6
    ·rename_i sz t2 y2 ho AF
     split at k6
     ·simp only[Option.some.injEq,Prod.mk.injEq]at k6
      obtain⟨rfl,rfl,rfl⟩:=k6
      exact⟨rfl,hx,⟨sz,ho⟩,AF,hf⟩
     ·cases k6
    ·cases k6
   ·cases h
  ·cases h
 ·cases h
theorem yL {X:fW} {Q:Ex->Env->au->Prop} {env:Env} {σ:au}:∀{l:List VC} {t:VC},BL l=some t->dH X t Q env σ->∀c∈l,dH X c Q env σ
 |[],t,h,_,c,hc=>by cases hc
 |[c0],t,h,hw,c,hc=>by
  simp only[BL,Option.some.injEq]at h
  subst h
  rw[List.mem_singleton]at hc
  subst hc;exact hw
 |c0::c1::r,t,h,hw,c,hc=>by
  simp only[BL,Option.map_eq_some_iff]at h
  obtain⟨t',Rj,rfl⟩:=h
  rcases List.mem_cons.1 hc with rfl|hc
  ·exact hw.1
  ·exact yL Rj hw.2 c hc
theorem mapM_mem {α β:Type} {f:α->Option β}:∀{l:List α} {r:List β},l.mapM f=some r->∀i∈l,∃b∈r,f i=some b
 |[],_,_,i,hi=>by cases hi
 |a::l,r,h,i,hi=>by
  simp only[List.mapM_cons,Option.bind_eq_bind,Option.bind_eq_some_iff,Option.pure_def,Option.some.injEq]at h
  obtain⟨b,hb,r',hr,rfl⟩:=h
  rcases List.mem_cons.1 hi with rfl|hi
  ·exact⟨b,by simp,hb⟩
  ·obtain⟨c,hc,hf⟩:=mapM_mem hr i hi
   exact⟨c,List.mem_cons_of_mem _ hc,hf⟩
theorem Io (hK:pS X) {ops:Array Oper} {vl:List cJ} {Q:Ex->Env->au->Prop}:∀(n:Nat) (listed:Array Bool) (t:VC) (env:Env) (σ:au),ue ops vl (jd ops) n listed=some t->DC ops listed->dH X t Q env σ->Bk X ops vl (Q .normal) n listed env σ:=by
 intro n
 induction n with
 |zero=>
  intro listed t env σ h _ hw
  unfold ue at h
  split at h
  ·rename_i hr
   simp only[Option.some.injEq]at h
   subst h
   exact⟨hr,hw⟩
  ·cases h
 |succ n ih=>
  intro listed t env σ h sj hw
  unfold ue at h
  split at h
  ·rename_i hr
   simp only[Option.some.injEq]at h
   subst h
   exact⟨fun _=>hw,fun i hi=>by rw[hr]at hi;cases hi⟩
  ·rename_i r rs hr
   dsimp only at h
   split at h
   ·rename_i i hfind
    have Eu:=List.mem_of_find?_eq_some hfind
    have wc:=List.find?_some hfind
    rw[<-hr]at Eu
    split at h
    ·rename_i vo rC
     simp only[Option.map_eq_some_iff]at h
     obtain⟨t',Rj,rfl⟩:=h
     exact Fy hK rC n listed env σ sj Eu wc (jJ hK (fun e s h=>ih _ _ _ _ Rj (sj.list Eu) h) hw)
    ·cases h
   ·split at h
    ·rename_i i t s y vo hfind
     obtain⟨i0,Pt,eJ⟩:=List.exists_of_findSome?_eq_some hfind
     obtain⟨rfl,rC,⟨sz,ep⟩,AF,J9⟩:=KM eJ
     rw[<-hr]at Pt
     simp only[Option.map_eq_some_iff]at h
     obtain⟨t',Rj,rfl⟩:=h
     exact Dk hK rC ep AF n listed env σ sj Pt J9 hw.1 (jJ hK (fun e s h=>ih _ _ _ _ Rj (sj.list Pt) h) hw.2)
    split at h
    ·rename_i l hl
     have eI:=yL h hw
     refine⟨fun h=>(by rw[h]at hr;cases hr),fun i hi=>?_⟩
     rw[hr]at hi
     obtain⟨b,J3,sI⟩:=mapM_mem hl i hi
     simp only[Option.bind_eq_some_iff,Option.map_eq_some_iff]at sI
     obtain⟨vo,rC,t',Rj,rfl⟩:=sI
     exact⟨vo,rC,jJ hK (fun e s h=>ih _ _ _ _ Rj (sj.list (by rw[hr];exact hi)) h) (eI _ J3)⟩
    ·cases h
theorem Fu {ops:Array Oper} {vl:List cJ} {nt site0:Nat} {draw mk:Bool} {bs:Array Nat} {hidden:List (Nat×Bool)} {K:Env->au->Prop} {Q:Exit->Act->World->Prop} (eI:allM (ko P ops nt site0 draw mk bs hidden) ops.toList 0=some vl):
  ∀(fuel:Nat) (listed:Array Bool) (env:Env) (σ:au) (a:Act) (w:World) (D:Nat->Prop) (ι:Names) (U:Nat->Prop),Bk (Sound P) ops vl K fuel listed env σ->fZ P hs D ι σ.get w->Used ι σ.next U->(∀s,U s->∃i,s=site0+i/\listed.getD i false=true)->dh P w D ι env a->a.tmps.size=nt->
  (∀iD σ' a' w' D' ι',K iD σ'->Step hs D ι w D' ι' w'->St P hs nt D' ι' iD σ' a' w'->a'.defers=a.defers->σ.next<=σ'.next->Q .normal a' w')->wpAny P .any ops Q fuel listed a w:=by
 intro fuel
 induction fuel with
 |zero=>intro listed env σ a w D ι U h S Us hU E fc hQ;exact⟨h.1,hQ env _ a w D ι h.2 (Step.refl _ _ _ _) ⟨S,Us.next,E,fc⟩ rfl (Nat.le_succ _)⟩
 |succ fuel ih=>
  intro listed env σ a w D ι U h S Us hU E fc hQ
  refine⟨fun hr=>hQ env _ a w D ι (h.1 hr) (Step.refl _ _ _ _) ⟨S,Us.next,E,fc⟩ rfl (Nat.le_succ _),fun i hi=>?_⟩
  obtain⟨vo,rC,hG⟩:=h.2 i hi
  obtain⟨_,o,ho,_⟩:=mem_ready.1 hi
  obtain⟨vo',AK,Uc⟩:=(n9 eI).2 i o (by simpa using ho)
  rw[rC]at AK;injection AK with AK;subst AK
  rw[Nat.zero_add]at Uc
  obtain⟨hc,hd,Cv,yf,hg⟩:=pf Uc
  have hw:=tr (ops:=ops) (vo:=vo) E hg
  have XS:¬U vo.site:=fun hu=>by
   obtain⟨i',he,hl⟩:=hU _ hu
   have:i'=i:=ab
   subst this
   rw[jb hi]at hl;cases hl
  have ju:i<listed.size:=by
   have h0:=(mem_ready.1 hi).1
   rcases Nat.lt_or_ge i listed.size with h|h
   ·exact h
   ·simp[Array.getElem?_eq_none h]at h0
  unfold wpOp
  simp only[ho]
  rw[<-hw]
  unfold step at hG
  by_cases Hz:ax vo.guard env=true
  ·rw[if_pos Hz]
   rw[if_pos Hz]at hG
   refine .inl (zR hc hG S Us XS E fun v σ' u D' ι' w' hn T S' hR U' hle=>?_)
   refine ih _ _ _ _ w' D' ι' _ hn S' U' (fun s Ct=>?_) (by rw[hd];exact iv (oz E T) hR yf fc) (by rw[ft];exact fc) fun iD σ2 a2 w2 D2 ι2 hk T2 Rh Er qm=>hQ iD σ2 a2 w2 D2 ι2 hk (T.trans T2) Rh (Er.trans (put_defers _ _ _)) (Nat.le_trans hle qm)
   rcases Ct with h|h
   ·obtain⟨i',he,hl⟩:=hU _ h
    exact⟨i',he,getD_set_true hl⟩
   ·exact⟨i,by rw[h,Cv],by simp[ju]⟩
  ·rw[if_neg Hz]
   rw[if_neg Hz]at hG
   refine ih _ _ _ _ w D ι U hG S Us (fun s Ct=>?_) (by rw[hd];exact iv E dE.undef yf fc) (by rw[ft];exact fc) fun iD σ2 a2 w2 D2 ι2 hk T2 Rh Er qm=>hQ iD σ2 a2 w2 D2 ι2 hk T2 Rh (Er.trans (put_defers _ _ _)) qm
   obtain⟨i',he,hl⟩:=hU _ Ct
   exact⟨i',he,getD_set_true hl⟩
end
end Go.Proofs.YtalkncaokeaifaaGreatDoor.V

namespace Go.Proofs.YtalkncaokeaifaaGreatDoor.V
open Go.RowKit
variable {P:Program} {w w':World} {D D' D2:Nat->Prop} {ι ι' ι2:Names}
def yD (P:Program) (c:Code) (Q:Exit->Act->World->Prop) (a:Act) (w:World):Prop:=
 ∀(b:Frame) (k:List Item) (cs:List Frame),b.kind≠.early->∃e a' w',Q e a' w'/\Arrives P (lone (b.at a (.code c::k)) cs w) b k cs e a' w'
section
variable {Q:Exit->Act->World->Prop} {a:Act}
theorem jG {c:Code} (h:c.wp P Q a w):yD P c Q a w:=fun b k cs _=>h b k cs
theorem lu {x y:Code} (h:yD P x (Exit.then (yD P y Q) Q) a w):yD P (.seq x y) Q a w:=by
 intro b k cs hb
 obtain⟨e,a1,w1,hq,iE⟩:=h b (.code y::k) cs hb
 by_cases he:e=.normal
 ·subst he
  obtain⟨e2,a2,w2,NL,J2⟩:=hq b k cs hb
  exact⟨e2,a2,w2,NL,.of_steps (.head step_seq iE) J2⟩
 ·refine⟨e,a1,w1,?_,.of_steps (.one step_seq) (.pass (x:=.code y) rfl (fun _ _=>.inl he) iE)⟩
  cases e<;>first|exact absurd rfl he|exact hq
theorem wW {c:Operand} {x y:Code} {t:Bool} (hc:a.eval c=.bool t) (h:yD P (if t then x else y) Q a w):yD P (.cond c x y) Q a w:=
 fun b k cs hb=>let ⟨e,a',w',q,r⟩:=h b k cs hb;⟨e,a',w',q,.of_steps (.one (step_cond hc)) r⟩
theorem sV {id:Nat} {c:Code} (h:yD P c (Exit.inBlock id Q) a w):yD P (.block id c) Q a w:=by
 intro b k cs hb
 obtain⟨e,a1,w1,hq,iE⟩:=h b (.inBlock id::k) cs hb
 cases e with
 |normal=>exact⟨.normal,a1,w1,hq,.head step_block (Steps.trans iE (.one step_inBlock))⟩
 |exit jR=>
  by_cases hid:jR=id
  ·simp only[Exit.inBlock,hid,if_true]at hq
   exact⟨.normal,a1,w1,hq,.head step_block (iE k (by simp[exitTo,hid]))⟩
  ·simp only[Exit.inBlock,hid,if_false]at hq
   exact⟨.exit jR,a1,w1,hq,fun k' hk=>.head step_block (iE k' (by simp[exitTo,Ne.symm hid,hk]))⟩
 |goto l=>exact⟨_,a1,w1,hq,fun k' hk=>.head step_block (iE k' (by simp[gotoIn,hk]))⟩
 |ret=>exact⟨_,a1,w1,hq,.of_steps (.one step_block) iE⟩
 |panic ch=>exact⟨_,a1,w1,hq,.of_steps (.one step_block) iE⟩
 |outgrown=>exact⟨_,a1,w1,hq,.of_steps (b:=b) (k:=k) (cs:=cs) (e:=.outgrown) (.one step_block) iE⟩
theorem HT {c:Code} (h:yD P c (Exit.noGoto Q) a w):yD P (.scope c) Q a w:=by
 intro b k cs hb
 obtain⟨e,a1,w1,hq,iE⟩:=h b (.inScope c::k) cs hb
 cases e with
 |normal=>exact⟨.normal,a1,w1,hq,.head step_scope (Steps.trans iE (.one step_inScope))⟩
 |exit id=>exact⟨.exit id,a1,w1,hq,fun k' hk=>.head step_scope (iE k' (by simp[exitTo,hk]))⟩
 |goto l=>exact hq.elim
 |ret=>exact⟨_,a1,w1,hq,.of_steps (.one step_scope) iE⟩
 |panic ch=>exact⟨_,a1,w1,hq,.of_steps (.one step_scope) iE⟩
 |outgrown=>exact⟨_,a1,w1,hq,.of_steps (b:=b) (k:=k) (cs:=cs) (e:=.outgrown) (.one step_scope) iE⟩
def pA (P:Program) (c:Code) (Q:Exit->Act->World->Prop):Nat->Act->World->Prop
 |0=>fun _ _=>False
 |n+1=>yD P c (Exit.then (pA P c Q n) Q)
theorem CV {c:Code} (n:Nat) (h:pA P c Q n a w):yD P (.loop c) Q a w:=by
 intro b k cs hb
 have key:∀n a w,pA P c Q n a w->∃e a' w',Q e a' w'/\Arrives P (lone (b.at a (.code c::.inLoop c::k)) cs w) b k cs e a' w':=by
  intro n
  induction n with
  |zero=>intro a w h;exact h.elim
  |succ n ih=>
   intro a w h
   obtain⟨e,a1,w1,hq,iE⟩:=h b (.inLoop c::k) cs hb
   by_cases he:e=.normal
   ·subst he
    obtain⟨e2,a2,w2,NL,J2⟩:=ih a1 w1 hq
    exact⟨e2,a2,w2,NL,.of_steps (Steps.trans iE (.one step_inLoop)) J2⟩
   ·refine⟨e,a1,w1,?_,.pass (x:=.inLoop c) rfl (fun _ _=>.inl he) iE⟩
    cases e<;>first|exact absurd rfl he|exact hq
 obtain⟨e,a',w',hq,iE⟩:=key n a w h
 exact⟨e,a',w',hq,.of_steps (.one step_loop) iE⟩
theorem Ai {f:FuncId} {fn:Func} {c:Code} {args:Array Value} {R:Ending->World->Prop} (hf:P.funcs[f]? =some fn) (hb:fn.body=some c)
  (h:yD P c (bodyPost P fn R) {tmps:=args++Array.replicate (fn.ntmps-args.size) undef,defers:=[]} w):Calls P f args w R:=by
 intro cs
 have Q0:Frame.enter P f args .normal=({(default:Frame)with fn:=f,kind:=.normal}:Frame).at {tmps:=args++Array.replicate (fn.ntmps-args.size) undef,defers:=[]} [.code c]:=by simp[Frame.enter,Frame.at,hf,hb]
 obtain⟨e,a',w',hq,iE⟩:=h {(default:Frame)with fn:=f,kind:=.normal} [] cs (by simp)
 rw[<-Q0]at iE
 cases e with
 |normal=>obtain⟨hd,v,hr,hR⟩:=hq;exact⟨.returned v,w',_,hR,Steps.trans iE (.one step_end),rfl,rfl,hd,rfl,fn,hf,hr⟩
 |ret=>obtain⟨hd,v,hr,hR⟩:=hq;obtain⟨todo,hs⟩:=iE;exact⟨.returned v,w',_,hR,hs,rfl,rfl,hd,rfl,fn,hf,hr⟩
 |panic chain=>obtain⟨hd,hR⟩:=hq;obtain⟨todo,hs⟩:=iE;exact⟨.panicked chain,w',_,hR,hs,rfl,rfl,hd,fn,hf⟩
 |exit id=>exact hq.elim
 |goto l=>exact hq.elim
 |outgrown=>exact⟨.outgrown,w',{(default:Frame)with fn:=f,kind:=.normal},hq,iE.resolve_left (by simp),rfl,trivial⟩
def xV (P:Program) (ops:Array Oper) (Q:Exit->Act->World->Prop) (l:List Nat) (a:Act) (w:World):Prop:=
 ∀(b:Frame) (k:List Item) (cs:List Frame),b.kind≠.early->∃e a' w',Q e a' w'/\Arrives P (lone (b.at a (.inRegion ops l::k)) cs w) b k cs e a' w'
theorem ES {id:Nat} {ops:Array Oper} (h:xV P ops Q (List.range ops.size) a w):yD P (.region id ops false) Q a w:=
 fun b k cs hb=>let ⟨e,a',w',q,r⟩:=h b k cs hb;⟨e,a',w',q,.of_steps (.one step_region) r⟩
theorem RL {ops:Array Oper} (h:Q .normal a w):xV P ops Q [] a w:=fun _ _ _ _=>⟨.normal,a,w,h,.one step_region_end⟩
theorem pb {o:Oper} {ys:Nat->Option Bool} (h:o.guard=none):Region.wanted o ys=true:=by simp[Region.wanted,h]
theorem K8 {ops:Array Oper} {i:Nat} {rest:List Nat} {o:Oper} {v:Value} (ho:ops[i]? =some o) (hg:o.guard=none) (hr:(execOp a.eval o).run P w=.ok (.value v) w') (h:xV P ops Q rest (a.put o.dst v) w'):xV P ops Q (i::rest) a w:=by
 intro b k cs hb
 obtain⟨e,a',w2,hq,iE⟩:=h b k cs hb
 refine⟨e,a',w2,hq,.of_steps (.one ?_) iE⟩
 have AE:(b.at a (.inRegion ops (i::rest)::k)).finish v=b.at (a.put o.dst v) (.inRegion ops rest::k):=by rw[Frame.finish_at,ho];rfl
 rw[<-AE]
 refine step_lone_go ?_
 have h2:=stepG_op (P:=P) (b:=b) (k:=k) (cs:=cs) (w:=w) (rest:=rest) ho (pb hg (ys:=yielded ops a.tmps))
 rw[h2];simp[stepG.apply,hr]
theorem Oh {ops:Array Oper} {i:Nat} {rest:List Nat} {o:Oper} {v z:Value} {c cap s r:Nat} {buf:Array Value} (ho:ops[i]? =some o) (hg:o.guard=none) (hr:(execOp a.eval o).run P w=.ok (.comm #[Conc.scase c v z] true .send) w)
  (hc:w.heap[c]? =some (.chan cap buf false s r false)) (iq:buf.size<cap) (h:xV P ops Q rest (a.put o.dst undef) (w.setChan c cap (buf.push v) false (s+1) r false)):xV P ops Q (i::rest) a w:=by
 intro b k cs hb
 obtain⟨e,a',w2,hq,iE⟩:=h b k cs hb
 refine⟨e,a',w2,hq,.of_steps (.one ?_) iE⟩
 have AE:(b.at a (.inRegion ops (i::rest)::k)).finish undef=b.at (a.put o.dst undef) (.inRegion ops rest::k):=by rw[Frame.finish_at,ho];rfl
 rw[<-AE,Conc.lone_eq_solo,Conc.lone_eq_solo]
 exact Conc.step_lone_send_room (Conc.stepG_comm ho (pb hg) hb hr) hc iq
theorem Og {ops:Array Oper} {i:Nat} {rest:List Nat} {o:Oper} {z:Value} {c cap s r:Nat} {buf:Array Value} (ho:ops[i]? =some o) (hg:o.guard=none) (hr:(execOp a.eval o).run P w=.ok (.comm #[Conc.rcase c z] true (.recv false)) w)
  (hc:w.heap[c]? =some (.chan cap buf false s r false)) (Cw:0<buf.size) (h:xV P ops Q rest (a.put o.dst (buf.getD 0 undef)) (w.setChan c cap (buf.extract 1 buf.size) false s (r+1) false)):xV P ops Q (i::rest) a w:=by
 intro b k cs hb
 obtain⟨e,a',w2,hq,iE⟩:=h b k cs hb
 refine⟨e,a',w2,hq,.of_steps (.one ?_) iE⟩
 have AE:(b.at a (.inRegion ops (i::rest)::k)).finish (buf.getD 0 undef)=b.at (a.put o.dst (buf.getD 0 undef)) (.inRegion ops rest::k):=by rw[Frame.finish_at,ho];rfl
 rw[<-AE,Conc.lone_eq_solo,Conc.lone_eq_solo]
 exact Conc.step_lone_recv_buf false (Conc.stepG_comm ho (pb hg) hb hr) hc Cw
end
section
variable {hs:Nat} {g:Rows} {env:Env} {a:Act} {o:Oper}
theorem NV {x y:O} (hc:qC P o.op=some (.snd x y)):∃x' y',o.op=.send x' y'/\cO P x'=some x/\cO P y'=some y:=by
 unfold qC at hc
 split at hc
 case h_26=>
  rename_i x' y' h
  simp only[Option.bind_eq_bind,Option.bind_eq_some_iff,Option.pure_def,Option.some.injEq,gD.snd.injEq]at hc
  obtain⟨p,h1,q,h2,rfl,rfl⟩:=hc
  exact⟨_,_,h,h1,h2⟩
 all_goals (try unfold np at hc)<;>(try unfold vp at hc)<;>(try unfold sy at hc)<;>(repeat' (split at hc))<;>(simp only[Option.bind_eq_bind,Option.bind_eq_some_iff,Option.pure_def,Option.some.injEq,Option.map_eq_some_iff,reduceCtorEq,and_false,exists_false]at hc)
theorem NU {x:O} (hc:qC P o.op=some (.RS x)):∃t dir e i z x',o.op=.recv t x' false/\P.underlying t=some (.chan dir e)/\P.info? e=some i/\i.zero=some z/\cO P x'=some x:=by
 unfold qC at hc
 split at hc
 case h_27=>
  rename_i t x' h
  split at hc
  ·rename_i dir e ht
   split at hc
   ·rename_i z hz
    simp only[Option.bind_eq_some_iff]at hz
    obtain⟨i,hi,hz⟩:=hz
    simp only[Option.map_eq_some_iff,gD.RS.injEq]at hc
    obtain⟨p,h1,rfl⟩:=hc
    exact⟨t,dir,e,i,z,x',h,ht,hi,hz,h1⟩
   ·cases hc
  ·cases hc
 all_goals (try unfold np at hc)<;>(try unfold vp at hc)<;>(try unfold sy at hc)<;>(repeat' (split at hc))<;>(simp only[Option.bind_eq_bind,Option.bind_eq_some_iff,Option.pure_def,Option.some.injEq,Option.map_eq_some_iff,reduceCtorEq,and_false,exists_false]at hc)
theorem Tl {x y:O} {g':Rows} (S:fZ P hs D ι g w) (hc:qC P o.op=some (.snd x y)) (E:dh P w D ι env a) (hv:du g (cZ env x) (cZ env y)=some g'):
  ∃c cap s r buf u,(execOp a.eval o).run P w=.ok (.comm #[Conc.scase c u (.tuple #[])] true .send) w/\w.heap[c]? =some (.chan cap buf false s r false)/\buf.size<cap/\fZ P hs D ι g' (w.setChan c cap (buf.push u) false (s+1) r false)/\Step hs D ι w D ι (w.setChan c cap (buf.push u) false (s+1) r false):=by
 obtain⟨x',y',ho,hx,hy⟩:=NV hc
 have rx:=dM E hx
 have ry:=dM E hy
 unfold du at hv
 split at hv
 ·rename_i i he
  simp only[Option.bind_eq_some_iff]at hv
  obtain⟨r,hg,hv⟩:=hv
  split at hv
  ·rename_i hcond
   simp only[Option.some.injEq]at hv
   subst hv
   obtain⟨B,c,hu,hB,hk,fc,buf,s,q,hb,IG,hR⟩:=Aj S rx he hg
   obtain⟨B',ef,RR,_⟩:=S.row i r hg
   rw[hB]at ef;injection ef with ef;subst ef
   have nN:=S.Iq (ob:=.chan c (buf.push (a.eval y')) false (s+1) q false) (r':={r with rows:=r.rows++[[cZ env y]]}) hg hcond.1 hB fun hr jC=>⟨RR.sz,fun cs dW=>?_,fun h0=>(by rw[hk]at h0;cases h0),fun m hm=>(by rw[hk]at hm;cases hm),fun c' jZ=>?_⟩
   ·exact⟨B.b,c,s,q,buf,a.eval y',by simp[execOp,ho,hu,Conc.scase],hb,by rw[IG];omega,nN.1,nN.2⟩
   ·rcases List.mem_append.1 dW with h|h
    ·exact RR.flat cs h
    ·rw[List.mem_singleton.1 h]
     intro b sH
     rw[List.mem_singleton.1 sH];exact hcond.2.2
   ·rw[hk]at jZ
    simp only[Option.some.injEq,BK.chan.injEq]at jZ
    subst jZ
    refine⟨fc,_,_,_,jC,by simp[IG],fun j cs hj=>?_⟩
    rw[List.getElem?_append]at hj
    split at hj
    ·rename_i eJ
     obtain⟨b,u,q1,q2,q3⟩:=hR j cs hj
     refine⟨b,u,q1,?_,hr _ _ q3⟩
     rw[Array.getElem?_push,if_neg ab];exact q2
    ·rename_i tN
     have ja:j=r.rows.length:=by
      have:=(List.getElem?_eq_some_iff.1 hj).1
      simp at this;omega
     subst ja
     simp at hj
     subst hj
     exact⟨_,_,rfl,by rw[Array.getElem?_push,if_pos IG.symm],hr _ _ ry⟩
  ·cases hv
 ·cases hv
theorem Tk {x:O} {g':Rows} {v:AV} (S:fZ P hs D ι g w) (hc:qC P o.op=some (.RS x)) (E:dh P w D ι env a) (hv:dt g (cZ env x)=some (v,g')):
  ∃c cap s r buf z,(execOp a.eval o).run P w=.ok (.comm #[Conc.rcase c z] true (.recv false)) w/\w.heap[c]? =some (.chan cap buf false s r false)/\0<buf.size/\fZ P hs D ι g' (w.setChan c cap (buf.extract 1 buf.size) false s (r+1) false)/\Step hs D ι w D ι (w.setChan c cap (buf.extract 1 buf.size) false s (r+1) false)/\dE P (w.setChan c cap (buf.extract 1 buf.size) false s (r+1) false) D ι v (buf.getD 0 undef):=by
 obtain⟨t,dir,e,i0,z,x',ho,ht,hi,hz,hx⟩:=NU hc
 have rx:=dM E hx
 unfold dt at hv
 split at hv
 ·rename_i i he
  simp only[Option.bind_eq_some_iff]at hv
  obtain⟨r,hg,hv⟩:=hv
  split at hv
  ·rename_i v' rest j5
   split at hv
   ·rename_i hcond
    simp only[Option.some.injEq,Prod.mk.injEq]at hv
    obtain⟨rfl,rfl⟩:=hv
    obtain⟨B,c,hu,hB,hk,fc,buf,s,q,hb,IG,hR⟩:=Aj S rx he hg
    obtain⟨B',ef,RR,_⟩:=S.row i r hg
    rw[hB]at ef;injection ef with ef;subst ef
    obtain⟨b0,u0,q1,q2,q3⟩:=hR 0 [v'] (by rw[j5];rfl)
    simp only[List.cons.injEq,and_true]at q1
    subst q1
    have kC:0<buf.size:=by rw[IG,j5];simp
    have Rm:buf.getD 0 undef=u0:=by rw[Array.getD_eq_getD_getElem?,q2];rfl
    have nN:=S.Iq (ob:=.chan c (buf.extract 1 buf.size) false s (q+1) false) (r':={r with rows:=rest}) hg hcond hB fun hr jC=>⟨RR.sz,fun cs dW=>RR.flat cs (by rw[j5];exact List.mem_cons_of_mem _ dW),fun h0=>(by rw[hk]at h0;cases h0),fun m hm=>(by rw[hk]at hm;cases hm),fun c' jZ=>?_⟩
    ·refine⟨B.b,c,s,q,buf,z,?_,hb,kC,nN.1,nN.2,?_⟩
     ·have wv:(zeroValue e).run P w=.ok z w:=by simp[zeroValue,typeInfo,hi,hz]
      simp[execOp,ho,hu,Conc.rcase,run_underlying ht,wv]
     ·rw[Rm];exact nN.2.rep q3
    ·rw[hk]at jZ
     simp only[Option.some.injEq,BK.chan.injEq]at jZ
     subst jZ
     refine⟨fc,_,_,_,jC,by simp[IG,j5],fun j cs hj=>?_⟩
     obtain⟨b,u,k1,k2,k3⟩:=hR (j+1) cs (by rw[j5];simpa using hj)
     refine⟨b,u,k1,?_,hr _ _ k3⟩
     have eJ:=(Array.getElem?_eq_some_iff.1 k2).1
     rw[Array.getElem?_extract,if_pos ab,Nat.add_comm 1 j];exact k2
   ·cases hv
  ·cases hv
 ·cases hv
theorem G8 {ops:Array Oper} {nt site0:Nat} {K:Env->au->Prop} {Q:Exit->Act->World->Prop}:∀(l:List Oper) (vl:List cJ) (j:Nat) (env:Env) (σ:au) (a:Act) (w:World) (D:Nat->Prop) (ι:Names),
  ops.toList.drop j=l->allM (ko P ops nt site0 false false #[] []) l j=some vl->bE vl K env σ->fZ P hs D ι σ.get w->Used ι σ.next (fun _=>False)->dh P w D ι env a->a.tmps.size=nt->
  (∀iD σ' a' w' D' ι',K iD σ'->Step hs D ι w D' ι' w'->St P hs nt D' ι' iD σ' a' w'->a'.defers=a.defers->σ.next<=σ'.next->Q .normal a' w')->xV P ops Q (List.range' j l.length) a w:=by
 intro l
 induction l with
 |nil=>
  intro vl j env σ a w D ι _ h hv S Us E fc hQ
  simp[allM]at h;subst h
  exact RL (hQ env ⟨σ.get,σ.next+1⟩ a w D ι hv (Step.refl _ _ _ _) ⟨S,Us.next,E,fc⟩ rfl (Nat.le_succ _))
 |cons o l ih=>
  intro vl j env σ a w D ι hl h hv S Us E fc hQ
  simp only[allM,Option.bind_eq_bind,Option.bind_eq_some_iff,Option.pure_def,Option.some.injEq]at h
  obtain⟨vo,rC,tq,sn,rfl⟩:=h
  obtain⟨hc,hd,Cv,yf,hg⟩:=pf rC
  obtain⟨X4,hv⟩:=hv
  have Yq:o.guard=none:=by
   split at hg
   ·assumption
   ·obtain⟨t,_,h⟩:=hg
    rw[X4]at h;cases h
  have UK:ops[j]? =some o:=by
   have h0:=congrArg (fun x=>x[0]?) hl
   rw[<-Array.getElem?_toList]
   simpa[List.getElem?_drop]using h0
  have Q6:ops.toList.drop (j+1)=l:=by rw[<-List.drop_drop,hl];rfl
  have go:∀(v:AV) (u:Value) (g2:Rows) (w2:World),bE tq K (upd env vo.dst v) ⟨g2,σ.next⟩->fZ P hs D ι g2 w2->Step hs D ι w D ι w2->dE P w2 D ι v u->xV P ops Q (List.range' (j+1) l.length) (a.put o.dst u) w2:=fun v u g2 w2 hn S2 T hR=>
   ih tq (j+1) (upd env vo.dst v) ⟨g2,σ.next⟩ (a.put o.dst u) w2 D ι Q6 sn hn S2 Us (by rw[hd];exact iv (oz E T) hR yf fc) (by rw[ft];exact fc) fun iD σ2 a' w3 D3 ι3 hk T2 ML Er qm=>hQ iD σ2 a' w3 D3 ι3 hk (T.trans T2) ML (Er.trans (put_defers _ _ _)) qm
  rw[show List.range' j (o::l).length=j::List.range' (j+1) l.length from rfl]
  split at hv
  ·rename_i x y ep
   split at hv
   ·rename_i g2 IK
    rw[ep]at hc
    obtain⟨c,cap,s,r,buf,u,fF,hb,iq,S2,T⟩:=Tl S hc E IK
    exact Oh UK Yq fF hb iq (go _ _ _ _ hv S2 T dE.undef)
   ·exact hv.elim
  ·rename_i x ep
   split at hv
   ·rename_i v g2 IK
    rw[ep]at hc
    obtain⟨c,cap,s,r,buf,z,fF,hb,Cw,S2,T,hR⟩:=Tk S hc E IK
    exact Og UK Yq fF hb Cw (go _ _ _ _ hv S2 T hR)
   ·exact hv.elim
  ·split at hv
   ·rename_i v hq
    obtain⟨u,fF,hR⟩:=zI hc hq S E
    exact K8 UK Yq fF (go _ _ _ _ hv S (Step.refl _ _ _ _) hR)
   ·exact hv.elim
end
end Go.Proofs.YtalkncaokeaifaaGreatDoor.V

namespace Go.Proofs.YtalkncaokeaifaaGreatDoor.V
open Go.RowKit
variable {P:Program} {w w':World} {D D' D2:Nat->Prop} {ι ι' ι2:Names}
section
variable {hs:Nat} {X:fW}
def Wf:Ex->Exit
 | .normal=>.normal
 | .exit id=>.exit id
 | .ret=>.ret
theorem St.drew {nt:Nat} {env:Env} {σ:au} {a:Act} {D:Nat->Prop} {ι:Names} (h:St P hs nt D ι env σ a w):St P hs nt D ι env σ a w.drew/\Step hs D ι w D ι w.drew:=by
 have T:Step hs D ι w D ι w.drew:=Step.stay h.s8 (fun _ _=>rfl) (Nat.le_refl _) rfl rfl rfl (fun _ h=>h) (fun _ h=>.inl h) (fun _ _ h=>h)
 exact⟨⟨h.s8.stay (fun _ _=>rfl) (Nat.le_refl _) (fun _ h=>h) h.s8.dead (fun _ h=>.inl h) (fun _ _ h=>h),h.used,oz h.env T,h.size⟩,T⟩
def tt (P:Program) (hs nt:Nat) (ds:List Deferred) (Q:Ex->Env->au->Prop) (n0:Nat) (D:Nat->Prop) (ι:Names) (w:World) (Q':Exit->Act->World->Prop):Prop:=
 ∀ex env σ a w' D' ι',Q ex env σ->Step hs D ι w D' ι' w'->St P hs nt D' ι' env σ a w'->a.defers=ds->n0<=σ.next->Q' (Wf ex) a w'
theorem tt.later {nt:Nat} {ds:List Deferred} {Q:Ex->Env->au->Prop} {n0 n1:Nat} {Q':Exit->Act->World->Prop} (h:tt P hs nt ds Q n0 D ι w Q') (T:Step hs D ι w D' ι' w') (hn:n0<=n1):tt P hs nt ds Q n1 D' ι' w' Q':=
 fun ex env σ a w2 D2 ι2 hq T2 ed hd hle=>h ex env σ a w2 D2 ι2 hq (T.trans T2) ed hd (Nat.le_trans hn hle)
theorem qe (hm:P.follows .mixedOrders=true) {md:List (Nat×Nat)} {nt fid:Nat}:∀(c:Code) (vc:VC),iC P md nt fid c=some vc->∀(Q:Ex->Env->au->Prop) (env:Env) (σ:au) (a:Act) (w:World) (D:Nat->Prop) (ι:Names) (Q':Exit->Act->World->Prop),
  dH (Sound P) vc Q env σ->St P hs nt D ι env σ a w->tt P hs nt a.defers Q σ.next D ι w Q'->yD P c Q' a w:=by
 intro c
 induction c with
 |skip=>
  intro vc h Q env σ a w D ι Q' hv ed hQ
  simp[iC]at h;subst h
  exact jG <| wp_skip (hQ .normal env σ a w D ι hv (Step.refl _ _ _ _) ed rfl (Nat.le_refl _))
 |exit id=>
  intro vc h Q env σ a w D ι Q' hv ed hQ
  simp[iC]at h;subst h
  exact jG <| wp_exit (hQ (.exit id) env σ a w D ι hv (Step.refl _ _ _ _) ed rfl (Nat.le_refl _))
 |ret=>
  intro vc h Q env σ a w D ι Q' hv ed hQ
  simp[iC]at h;subst h
  exact jG <| wp_ret (hQ .ret env σ a w D ι hv (Step.refl _ _ _ _) ed rfl (Nat.le_refl _))
 |seq x y ihx ihy=>
  intro vc h Q env σ a w D ι Q' hv ed hQ
  simp only[iC,Option.bind_eq_bind,Option.bind_eq_some_iff,Option.pure_def,Option.some.injEq]at h
  obtain⟨vx,hx,vy,hy,rfl⟩:=h
  refine lu (ihx vx hx _ env σ a w D ι _ hv ed fun ex iH σ1 a1 w1 D1 ι1 hq T jw hd hle=>?_)
  cases ex with
  |normal=>exact ihy vy hy Q iH σ1 a1 w1 D1 ι1 Q' hq jw (by rw[hd];exact hQ.later T hle)
  |exit id=>exact hQ (.exit id) iH σ1 a1 w1 D1 ι1 hq T jw hd hle
  |ret=>exact hQ .ret iH σ1 a1 w1 D1 ι1 hq T jw hd hle
 |cond c x y ihx ihy=>
  intro vc h Q env σ a w D ι Q' hv ed hQ
  simp only[iC,Option.bind_eq_bind,Option.bind_eq_some_iff,Option.pure_def,Option.some.injEq]at h
  obtain⟨c',hc,vx,hx,vy,hy,rfl⟩:=h
  unfold dH at hv
  have hr:=dM ed.env hc
  split at hv
  ·rename_i b hb
   rw[hb]at hr
   refine wW (fA hr) ?_
   cases b with
   |true=>exact ihx vx hx Q env σ a w D ι Q' hv ed hQ
   |false=>exact ihy vy hy Q env σ a w D ι Q' hv ed hQ
  ·exact hv.elim
 |block id c ih=>
  intro vc h Q env σ a w D ι Q' hv ed hQ
  simp only[iC,Option.map_eq_some_iff]at h
  obtain⟨vx,hx,rfl⟩:=h
  refine sV (ih vx hx _ env σ a w D ι _ hv ed fun ex iH σ1 a1 w1 D1 ι1 hq T jw hd hle=>?_)
  cases ex with
  |normal=>exact hQ .normal iH σ1 a1 w1 D1 ι1 hq T jw hd hle
  |ret=>exact hQ .ret iH σ1 a1 w1 D1 ι1 hq T jw hd hle
  |exit jR=>
   simp only[aQ]at hq
   simp only[Wf,Exit.inBlock]
   by_cases hid:jR=id
   ·rw[if_pos hid]at hq ⊢;exact hQ .normal iH σ1 a1 w1 D1 ι1 hq T jw hd hle
   ·rw[if_neg hid]at hq ⊢;exact hQ (.exit jR) iH σ1 a1 w1 D1 ι1 hq T jw hd hle
 |loop c ih=>
  intro vc h Q env σ a w D ι Q' hv ed hQ
  simp only[iC,Option.map_eq_some_iff]at h
  obtain⟨vx,hx,rfl⟩:=h
  obtain⟨n,hv⟩:=hv
  refine CV n ?_
  have key:∀n env σ a w D ι,Gi (dH (Sound P) vx) Q n env σ->St P hs nt D ι env σ a w->tt P hs nt a.defers Q σ.next D ι w Q'->pA P c Q' n a w:=by
   intro n
   induction n with
   |zero=>intro env σ a w D ι h;exact h.elim
   |succ n ihn=>
    intro env σ a w D ι h ed hQ
    refine ih vx hx _ env σ a w D ι _ h ed fun ex iH σ1 a1 w1 D1 ι1 hq T jw hd hle=>?_
    cases ex with
    |normal=>exact ihn iH σ1 a1 w1 D1 ι1 hq jw (by rw[hd];exact hQ.later T hle)
    |exit id=>exact hQ (.exit id) iH σ1 a1 w1 D1 ι1 hq T jw hd hle
    |ret=>exact hQ .ret iH σ1 a1 w1 D1 ι1 hq T jw hd hle
  exact key n env σ a w D ι hv ed hQ
 |region id ops draw=>
  intro vc h Q env σ a w D ι Q' hv ed hQ
  simp only[iC,Tj]at h
  split at h
  ·rename_i hmode
   have Uf:draw=true:=by
    simp only[Bool.and_eq_true]at hmode;exact hmode.1
   subst Uf
   split at h
   ·rename_i vl eI
    obtain⟨rz,T0⟩:=ed.drew
    have Ej:=Io (X:=Sound P) kn ops.size _ vc env σ h (fun k i h=>by
     exfalso
     rcases Nat.lt_or_ge k ops.size with hk|hk
     ·simp[hk]at h
     ·simp[Nat.not_lt.2 hk]at h) hv
    refine jG (wp_region_any hm ?_)
    exact Fu eI ops.size _ env σ a w.drew D ι (fun _=>False) Ej rz.s8 rz.used (fun _ h=>h.elim) rz.env rz.size fun iH σ1 a1 w1 D1 ι1 hk T jw hd hle=>hQ .normal iH σ1 a1 w1 D1 ι1 hk (T0.trans T) jw hd hle
   ·cases h
  split at h
  ·rename_i hcom
   have Uf:draw=false:=by
    simp only[Bool.and_eq_true,Bool.not_eq_true']at hcom;exact hcom.1
   subst Uf
   simp only[Option.map_eq_some_iff]at h
   obtain⟨vl,sn,rfl⟩:=h
   have eI:allM (ko P ops nt ((fid*1000+id)*1000) false false #[] []) ops.toList 0=some vl:=by
    unfold qQ at sn
    simp only[Bool.false_eq_true,if_false,Bool.not_false,Bool.true_or,if_true]at sn
    split at sn
    ·rename_i tq h;simp at sn;subst sn;exact h
    ·cases sn
   refine ES ?_
   have:=G8 (Q:=Q') ops.toList vl 0 env σ a w D ι rfl eI hv ed.s8 ed.used ed.env ed.size fun iH σ1 a1 w1 D1 ι1 hk T jw hd hle=>hQ .normal iH σ1 a1 w1 D1 ι1 hk T jw hd hle
   rwa [<-List.range_eq_range',Array.length_toList]at this
  generalize (sR md id==1)=mk at h
  simp only[Option.map_eq_some_iff]at h
  obtain⟨vl,sn,rfl⟩:=h
  cases draw with
  |false=>
   have eI:∃tq,allM (ko P ops nt ((fid*1000+id)*1000) false mk #[] []) ops.toList 0=some tq/\vl=tq:=by
    unfold qQ at sn
    simp only[Bool.false_eq_true,if_false,Bool.not_false,Bool.true_or,if_true]at sn
    split at sn
    ·rename_i tq h;simp at sn;exact⟨tq,h,sn.symm⟩
    ·cases sn
   obtain⟨tq,eI,rfl⟩:=eI
   refine jG (wp_region_list ?_)
   exact zC ops.toList vl 0 env σ a w D ι (fun _=>False) eI hv ed.s8 ed.used (fun _ h=>h.elim) ed.env ed.size fun iH σ1 a1 w1 D1 ι1 hk T jw hd hle=>hQ .normal iH σ1 a1 w1 D1 ι1 hk T jw hd hle
  |true=>
   have eI:∃hidden tq,allM (ko P ops nt ((fid*1000+id)*1000) true mk (jd ops) hidden) ops.toList 0=some tq/\vl=tq/\ox ops tq (jd ops)=true:=by
    unfold qQ at sn
    simp only[if_true,Bool.not_true,Bool.false_or]at sn
    split at sn
    ·rename_i tq h
     split at sn
     ·rename_i wj;simp at sn;exact⟨_,tq,h,sn.symm,wj⟩
     ·cases sn
    ·cases sn
   obtain⟨hidden,tq,eI,rfl,wj⟩:=eI
   obtain⟨rz,T0⟩:=ed.drew
   obtain⟨hlen,_⟩:=n9 eI
   have wh:vl.length=ops.size:=by rw[hlen];simp
   have Ej:=xN (X:=Sound P) (K:=Q .normal) (n:=σ.next) wj wh vl 0 (Array.replicate ops.size false) env σ.get (by simp) (by simp) (fun i hi=>by simp[hi]) (by simp[wh]) (fun k i h=>by
    exfalso
    rcases Nat.lt_or_ge k ops.size with hk|hk
    ·simp[hk]at h
    ·simp[Nat.not_lt.2 hk]at h) hv
   refine jG (wp_region_any hm ?_)
   rw[wh]at Ej
   exact yG eI ops.size _ env σ.get a w.drew D ι (fun _=>False) Ej rz.s8 rz.used (fun _ h=>h.elim) rz.env rz.size fun iH g1 a1 w1 D1 ι1 U1 hk T S1 Xg E1 sM hd=>hQ .normal iH ⟨g1,σ.next+1⟩ a1 w1 D1 ι1 hk (T0.trans T) ⟨S1,Xg.next,E1,sM⟩ hd (Nat.le_succ _)
 |label l=>
  intro vc h Q env σ a w D ι Q' hv ed hQ
  simp[iC]at h;subst h
  exact jG <| wp_label (hQ .normal env σ a w D ι hv (Step.refl _ _ _ _) ed rfl (Nat.le_refl _))
 |scope c ih=>
  intro vc h Q env σ a w D ι Q' hv ed hQ
  simp only[iC]at h
  refine HT (ih vc h Q env σ a w D ι _ hv ed fun ex iH σ1 a1 w1 D1 ι1 hq T jw hd hle=>?_)
  have h1:=hQ ex iH σ1 a1 w1 D1 ι1 hq T jw hd hle
  cases ex with
  |normal=>exact h1
  |exit id=>exact h1
  |ret=>exact h1
 |_=>
  intro vc h
  simp[iC]at h
def Lq (tmps:Array Value):ResultVar->Sem Value
 | .tmp t=>pure (tmps.getD t undef)
 | .cell a t=>do loadVar t (<-asAddr (tmps.getD a undef))
theorem E8 (fn:Func) (tmps:Array Value):results fn tmps=(do
  let vs <-fn.results.mapM (Lq tmps)
  pure (if h:vs.size=1 then vs[0]else .tuple vs)):=by
 unfold results
 congr 2
theorem ua {nt:Nat} {env:Env} {σ:au} {a:Act} {D:Nat->Prop} {ι:Names} (ed:St P hs nt D ι env σ a w):∀(rs:List ResultVar) (vr:List nZ) (vs:List AV),rs.mapM (DV P)=some vr->gY env σ.get vr=some vs->
  ∃us:List Value,(rs.mapM (Lq a.tmps)).run P w=.ok us w/\us.length=vs.length/\∀(j:Nat) (v:AV),vs[j]? =some v->∃u,us[j]? =some u/\dE P w D ι v u
 |[],vr,vs,h,hv=>by
  simp at h;subst h
  simp[gY]at hv;subst hv
  exact⟨[],by simp,rfl,fun j v h=>by simp at h⟩
 |r::rs,vr,vs,h,hv=>by
  simp only[List.mapM_cons,Option.bind_eq_bind,Option.bind_eq_some_iff]at h
  obtain⟨x,hx,vr',hr,h⟩:=h
  simp at h;subst h
  simp only[gY,Option.bind_eq_some_iff,Option.map_eq_some_iff]at hv
  obtain⟨v,pq,L5,UZ,rfl⟩:=hv
  obtain⟨us,h1,h2,h3⟩:=ua ed rs vr' L5 hr UZ
  have one:∃u,(Lq a.tmps r).run P w=.ok u w/\dE P w D ι v u:=by
   cases r with
   |tmp t=>
    simp[DV]at hx;subst hx
    simp[kX]at pq;subst pq
    exact⟨_,rfl,ed.env t⟩
   |cell b t=>
    simp only[DV,Option.bind_eq_bind,Option.bind_eq_some_iff,Option.pure_def,Option.some.injEq]at hx
    obtain⟨ag,tM,n,hn,rfl⟩:=hx
    simp only[kX]at pq
    have hZ:=ed.env b
    unfold ld at pq
    split at pq
    ·rename_i jR i' oo hb
     rw[hb]at hZ
     obtain⟨B,he,hB,hk⟩:=gW hZ
     simp only[Option.bind_eq_some_iff]at pq
     obtain⟨cs,dW,hp⟩:=pq
     obtain⟨B',r0,Mr,ef,R,hi,fl,f,hf⟩:=Ly (S:=ed.s8) dW (fun B2 h2=>by rw[hB]at h2;injection h2 with h2;subst h2;exact hk)
     rw[hB]at ef;injection ef with ef;subst ef
     obtain⟨u,k1,k2⟩:=jr (w:=w) (b:=B.b) (oo:=i'*B.sz+oo) (f:=fun j=>f (oo+j)) tM hn hp (fun a ha=>fl a (List.mem_of_mem_drop ha)) (fun j hj=>by
      rw[Nat.add_assoc];exact(hf _ (by simp at hj;omega)).1) (fun j a ha=>by
      simp at ha;exact(hf _ ((List.getElem?_eq_some_iff.1 ha).1)).2 _ ha)
     exact⟨u,by simp only[Lq,he,asAddr,Sem.run_bind,Sem.run_pure,Result.andThen_ok,k1],k2⟩
    ·rename_i cs hb
     rw[hb]at hZ
     obtain⟨b',oo,vs2,he,q1,q2,q3,q4⟩:=kP hZ
     obtain⟨u,k1,k2⟩:=jr (w:=w) (b:=b') (oo:=oo) (f:=vs2) tM hn pq q2 q3 (fun j a ha=>.eE _ _ (q4 j a ha))
     exact⟨u,by simp only[Lq,he,asAddr,Sem.run_bind,Sem.run_pure,Result.andThen_ok,k1],k2⟩
    ·simp at pq
  obtain⟨u,hu,yk⟩:=one
  refine⟨u::us,?_,by simp[h2],fun j v' hj=>?_⟩
  ·rw[List.mapM_cons]
   simp only[Sem.run_bind,hu,h1,Result.andThen_ok,Sem.run_pure]
  ·cases j with
   |zero=>simp at hj;subst hj;exact⟨u,rfl,yk⟩
   |succ j=>simp at hj ⊢;exact h3 j v' hj
theorem vk {f:Nat} {fn:Func} {c:Code} {args:List AV} {σ:au} {K:AV->au->Prop} {vr:List nZ} (Pr:P.funcs[f]? =some fn) (hc:fn.body=some c) (hr:fn.results.toList.mapM (DV P)=some vr) (ha:fn.params.size+fn.nfree=args.length) (hle:fn.params.size+fn.nfree<=fn.ntmps)
  (h:∀(hs:Nat) (w:World) (D:Nat->Prop) (ι:Names) (a:Act) (Q':Exit->Act->World->Prop),St P hs fn.ntmps D ι (bD args) σ a w->tt P hs fn.ntmps a.defers (lL vr K) σ.next D ι w Q'->yD P c Q' a w):Sound P f args σ K:=by
 intro hs D ι w vs S Us A
 have fc:vs.size=args.length:=A.1
 refine Ai Pr hc ?_
 refine h hs w D ι _ _ ⟨S,Us,fun t=>?_,by simp;omega⟩ fun ex iH σ1 a1 w1 D1 ι1 hq T jw hd hle=>?_
 ·simp only[bD]
  by_cases eJ:t<args.length
  ·obtain⟨u,hu,yk⟩:=A.2 t args[t] (List.getElem?_eq_getElem eJ)
   have e1:args.getD t .undef=args[t]:=by simp[List.getD_eq_getElem?_getD,eJ]
   have e2:(vs++Array.replicate (fn.ntmps-vs.size) undef).getD t undef=u:=by
    simp only[Array.getD_eq_getD_getElem?]
    rw[Array.getElem?_append_left ab,hu];rfl
   rw[e1,e2];exact yk
  ·have e1:args.getD t .undef=.undef:=by simp[List.getD_eq_getElem?_getD,Nat.le_of_not_lt eJ]
   have e2:(vs++Array.replicate (fn.ntmps-vs.size) undef).getD t undef=undef:=by
    simp only[Array.getD_eq_getD_getElem?]
    rw[Array.getElem?_append_right ab,Array.getElem?_replicate]
    split<;>rfl
   rw[e1,e2];exact dE.undef
 ·have fin:(∃vs,gY iH σ1.get vr=some vs/\K (gp vs) σ1)->a1.defers=[]/\∃v,(results fn a1.tmps).run P w1=.ok v w1/\∃r g' n' D' ι' u,Ending.returned v=.returned u/\K r ⟨g',n'⟩/\Step hs D ι w D' ι' w1/\fZ P hs D' ι' g' w1/\Used ι' n' (fun _=>False)/\σ.next<=n'/\dE P w1 D' ι' r u:=by
   rintro⟨avs,UZ,hK⟩
   obtain⟨us,h1,h2,h3⟩:=ua jw fn.results.toList vr avs hr UZ
   have Re:(results fn a1.tmps).run P w1=.ok (if h:us.toArray.size=1 then us.toArray[0]else .tuple us.toArray) w1:=by
    rw[E8,Array.mapM_eq_mapM_toList]
    simp only[Sem.run_bind,Sem.run_map,h1,Result.andThen_ok,Sem.run_pure]
   refine⟨hd,_,Re,gp avs,σ1.get,σ1.next,D1,ι1,_,rfl,hK,T,jw.s8,jw.used,hle,?_⟩
   unfold gp
   split
   ·rename_i v
    have hl:us.length=1:=h2
    obtain⟨u,hu,yk⟩:=h3 0 v rfl
    rw[dif_pos (by simpa using hl)]
    have:us.toArray[0]'(by simp[hl])=u:=by
     have:=(List.getElem?_eq_some_iff.1 hu).2
     simpa using this
    rw[this];exact yk
   ·rename_i gZ
    rw[dif_neg (by
     simp only[List.size_toArray,h2]
     intro h
     obtain⟨v,hv⟩:=List.length_eq_one_iff.1 h
     exact gZ v hv)]
    exact .fN _ _ (fun j=>us.getD j undef) (by simp[h2]) (fun j hj=>by
     have:j<us.length:=by rw[h2];exact hj
     simp[this]) (fun j v hj=>by
     obtain⟨u,hu,yk⟩:=h3 j v hj
     simpa[List.getD_eq_getElem?_getD,hu]using yk)
  cases ex with
  |normal=>exact fin hq
  |ret=>exact fin hq
  |exit id=>exact hq.elim
theorem JT (hm:P.follows .mixedOrders=true) {f:Nat} {md:List (Nat×Nat)} {vf:Jg} {args:List AV} {σ:au} {K:AV->au->Prop} (hf:Ah P f md=some vf) (ha:vf.zz=args.length) (h:dH (Sound P) vf.body (lL vf.res K) (bD args) σ):Sound P f args σ K:=by
 unfold Ah at hf
 split at hf
 ·rename_i fn Pr
  split at hf
  ·rename_i c hc
   simp only[Option.bind_eq_bind,Option.bind_eq_some_iff]at hf
   obtain⟨vb,hb,vr,hr,hf⟩:=hf
   split at hf
   ·rename_i hle
    simp only[Option.pure_def,Option.some.injEq]at hf
    subst hf
    simp only at ha h
    exact vk Pr hc hr ha hle fun hs w D ι a Q' ed hQ=>qe hm c vb hb (lL vr K) (bD args) σ a w D ι Q' h ed hQ
   ·simp at hf
  ·simp at hf
 ·simp at hf
def PS (P:Program) (X:fW):fW:=fun f args σ K=>(∃md vf,Ah P f md=some vf/\vf.zz=args.length/\((∀a∈args,e8 a)->dH X vf.body (lL vf.res K) (bD args) σ))∨Sound P f args σ K
def Call (P:Program):fW:=fun f args σ K=>∀X:fW,pS X->(∀f args σ K,PS P X f args σ K->X f args σ K)->X f args σ K
theorem ij (hm:P.follows .mixedOrders=true) {f:Nat} {args:List AV} {σ:au} {K:AV->au->Prop} (h:Call P f args σ K):Sound P f args σ K:=
 h (Sound P) kn fun f args σ K hs=>by
  rcases hs with⟨md,vf,h1,h2,h3⟩|h
  ·intro hs D ι w vs S U A
   exact JT hm h1 h2 (h3 (oQ fun j a hj=>by obtain⟨u,_,hr⟩:=A.2 j a hj;exact hr.KI)) hs D ι w vs S U A
  ·exact h
end
end Go.Proofs.YtalkncaokeaifaaGreatDoor.V

namespace Go.Proofs.YtalkncaokeaifaaGreatDoor.V
open Go.RowKit
variable {P:Program} {X Y:fW}
theorem I9 (h:∀f args σ K,X f args σ K->Y f args σ K) {f:Nat} {args:List AV} {σ:au} {K:AV->Prop} (hp:eB X f args σ K):eB Y f args σ K:=by
 rcases hp with hp|⟨a,h1,h2⟩
 ·exact .inl (h _ _ _ _ hp)
 ·exact .inr ⟨a,h1,h _ _ _ _ h2⟩
theorem MD (h:∀f args σ K,X f args σ K->Y f args σ K) {f:Nat} {args:List AV} {σ:au} {sz:Nat} {rows:List (List AV)} (hp:CM X f args σ sz rows):CM Y f args σ sz rows:=by
 obtain⟨h1,a,h2,h3⟩:=hp
 exact⟨h1,a,h2,h _ _ _ _ h3⟩
theorem qc (h:∀f args σ K,X f args σ K->Y f args σ K) (hK:∀f args σ K K',(∀r σ',K r σ'->K' r σ')->Y f args σ K->Y f args σ K') {draw:Bool} {hid:List Nat} {site:Nat} {f:Nat} {args:List AV} {σ:au} {n n':AV->au->Prop} (hn:∀v σ',n v σ'->n' v σ') (hp:bJ X draw hid site f args σ n):bJ Y draw hid site f args σ n':=by
 rcases hp with⟨r,h1,h2⟩|⟨h1,h2⟩|⟨h1,sz,rows,h2,h3⟩
 ·exact .inl ⟨r,I9 h h1,hn _ _ h2⟩
 ·exact .inr (.inl ⟨h1,hK _ _ _ _ _ hn (h _ _ _ _ h2)⟩)
 ·exact .inr (.inr ⟨h1,sz,rows,MD h h2,hn _ _ h3⟩)
theorem sb (h:∀f args σ K,X f args σ K->Y f args σ K) (hK:∀f args σ K K',(∀r σ',K r σ'->K' r σ')->Y f args σ K->Y f args σ K') {draw:Bool} {o:cJ} {env:Env} {σ:au} {n n':AV->au->Prop} (hn:∀v σ',n v σ'->n' v σ') (hp:eo X draw o env σ n):eo Y draw o env σ n':=by
 unfold eo at hp ⊢
 split at hp
 ·exact qc h hK hn hp
 ·split at hp
  ·exact qc h hK hn hp
  ·exact qc h hK hn hp
  ·exact hp.elim
 ·split at hp
  ·exact hn _ _ hp
  ·exact hp.elim
 ·split at hp
  ·exact hn _ _ hp
  ·exact hp.elim
 ·split at hp
  ·exact hn _ _ hp
  ·exact hp.elim
 ·split at hp
  ·exact hn _ _ hp
  ·exact hp.elim
 ·split at hp
  ·exact hn _ _ hp
  ·exact hp.elim
 ·split at hp
  ·exact hn _ _ hp
  ·exact hn _ _ hp
  ·exact hp.elim
theorem kY (h:∀f args σ K,X f args σ K->Y f args σ K) (hK:∀f args σ K K',(∀r σ',K r σ'->K' r σ')->Y f args σ K->Y f args σ K') {draw:Bool} {Q Q':Env->au->Prop} (hQ:∀e s,Q e s->Q' e s):∀(l:List cJ) (env:Env) (σ:au),wpOps X draw l Q env σ->wpOps Y draw l Q' env σ
 |[],env,σ,hp=>hQ _ _ hp
 |o::r,env,σ,hp=>by
  unfold wpOps at hp ⊢
  split at hp
  ·rename_i hw;rw[if_pos hw];exact sb h hK (fun v σ'=>kY h hK hQ r _ _) hp
  ·rename_i hw;rw[if_neg hw];exact kY h hK hQ r _ _ hp
theorem nd {Q Q':Env->au->Prop} (hQ:∀e s,Q e s->Q' e s):∀(l:List cJ) (env:Env) (σ:au),bE l Q env σ->bE l Q' env σ
 |[],env,σ,hp=>hQ _ _ hp
 |o::r,env,σ,hp=>by
  unfold bE at hp ⊢
  refine⟨hp.1,?_⟩
  replace hp:=hp.2
  split at hp
  ·split at hp
   ·exact nd hQ r _ _ hp
   ·exact hp.elim
  ·split at hp
   ·exact nd hQ r _ _ hp
   ·exact hp.elim
  ·split at hp
   ·exact nd hQ r _ _ hp
   ·exact hp.elim
theorem jV (h:∀f args σ K,X f args σ K->Y f args σ K) (hK:∀f args σ K K',(∀r σ',K r σ'->K' r σ')->Y f args σ K->Y f args σ K'):∀(c:VC) (Q Q':Ex->Env->au->Prop) (env:Env) (σ:au),(∀x e s,Q x e s->Q' x e s)->dH X c Q env σ->dH Y c Q' env σ:=by
 intro c
 induction c with
 |skip=>intro Q Q' env σ hQ hp;exact hQ _ _ _ hp
 |exit id=>intro Q Q' env σ hQ hp;exact hQ _ _ _ hp
 |ret=>intro Q Q' env σ hQ hp;exact hQ _ _ _ hp
 |one o c ih=>
  intro Q Q' env σ hQ hp
  unfold dH at hp ⊢
  split at hp
  ·rename_i hw;rw[if_pos hw];exact sb h hK (fun v σ'=>ih Q Q' _ _ hQ) hp
  ·rename_i hw;rw[if_neg hw];exact ih Q Q' _ _ hQ hp
 |both a b iha ihb=>intro Q Q' env σ hQ hp;exact⟨iha Q Q' env σ hQ hp.1,ihb Q Q' env σ hQ hp.2⟩
 |loc t s y c ih=>intro Q Q' env σ hQ hp;exact⟨hp.1,ih Q Q' env σ hQ hp.2⟩
 |Qs ops=>intro Q Q' env σ hQ hp;exact nd (hQ .normal) ops env σ hp
 |jo draw ops=>intro Q Q' env σ hQ hp;exact kY h hK (hQ .normal) ops env σ hp
 |seq a b iha ihb=>
  intro Q Q' env σ hQ hp
  refine iha _ _ env σ (fun x e s hx=>?_) hp
  cases x with
  |normal=>exact ihb Q Q' e s hQ hx
  |exit id=>exact hQ _ _ _ hx
  |ret=>exact hQ _ _ _ hx
 |cond c a b iha ihb=>
  intro Q Q' env σ hQ hp
  unfold dH at hp ⊢
  split at hp
  ·rename_i t ht
   cases t with
   |true=>exact iha Q Q' env σ hQ hp
   |false=>exact ihb Q Q' env σ hQ hp
  ·exact hp.elim
 |block id a iha=>
  intro Q Q' env σ hQ hp
  refine iha _ _ env σ (fun x e s hx=>?_) hp
  cases x with
  |normal=>exact hQ _ _ _ hx
  |ret=>exact hQ _ _ _ hx
  |exit jR=>
   unfold aQ at hx ⊢
   dsimp only at hx ⊢
   split at hx
   ·rename_i hid;rw[if_pos hid];exact hQ _ _ _ hx
   ·rename_i hid;rw[if_neg hid];exact hQ _ _ _ hx
 |loop a iha=>
  intro Q Q' env σ hQ hp
  obtain⟨n,hp⟩:=hp
  refine⟨n,?_⟩
  induction n generalizing env σ with
  |zero=>exact hp
  |succ n ihn=>
   refine iha _ _ env σ (fun x e s hx=>?_) hp
   cases x with
   |normal=>exact ihn e s hx
   |exit id=>exact hQ _ _ _ hx
   |ret=>exact hQ _ _ _ hx
theorem bc:pS (Call P):=fun _ _ _ _ _ hK h X hX hc=>hX _ _ _ _ _ hK (h X hX hc)
theorem yy {f:Nat} {args:List AV} {σ:au} {K:AV->au->Prop} (h:PS P (Call P) f args σ K):Call P f args σ K:=by
 intro X hX hc
 refine hc _ _ _ _ ?_
 rcases h with⟨md,vf,h1,h2,h3⟩|h
 ·exact .inl ⟨md,vf,h1,h2,fun hl=>jV (fun f args σ K h=>h X hX hc) hX _ _ _ _ _ (fun _ _ _ h=>h) (h3 hl)⟩
 ·exact .inr h
theorem uV {f:Nat} {md:List (Nat×Nat)} {args:List AV} {σ:au} {K:AV->au->Prop} {vf:Jg} (hf:Ah P f md=some vf) (ha:vf.zz=args.length) (h:(∀a∈args,e8 a)->dH (Call P) vf.body (lL vf.res K) (bD args) σ):Call P f args σ K:=
 yy (.inl ⟨md,vf,hf,ha,h⟩)
theorem pe {f:Nat} {args:List AV} {σ:au} {K:AV->au->Prop} {vf:Jg} (hf:BN P f=some vf) (ha:vf.zz=args.length) (h:(∀a∈args,e8 a)->dH (Call P) vf.body (lL vf.res K) (bD args) σ):Call P f args σ K:=
 uV hf ha h
theorem fh {f:Nat} {args:List AV} {σ:au} {K:AV->au->Prop} (h:Sound P f args σ K):Call P f args σ K:=yy (.inr h)
def O5 (P:Program) (f:Nat) (args:List AV) (r:AV):Prop:=∀σ,PC (Call P) f args σ (fun r'=>r'=r)
theorem O5.body {f:Nat} {args:List AV} {r:AV} {nt na:Nat} {body:VC} {res:List nZ} (hf:BN P f=some ⟨nt,na,body,res⟩) (ha:na=args.length) (h:(∀a∈args,e8 a)->∀σ:au,dH (Call P) body (lL res fun r0 σ'=>∃r',fz σ'.get 6 r0=some r'/\r'=r) (bD args) ⟨V.ro σ.get,σ.next⟩):O5 P f args r:=fun σ=>pe hf ha fun hl=>h hl σ
variable {Q:Ex->Env->au->Prop} {K:Env->au->Prop} {env:Env} {σ:au}
theorem P0 {a b:VC} (h:∀N:Env->au->Prop,(∀e s,dH X b Q e s->N e s)->dH X a (cU N Q) env σ):dH X (.seq a b) Q env σ:=h _ fun _ _ h=>h
theorem Mc (h:Q .normal env σ):dH X .skip Q env σ:=h
theorem L9 {id:Nat} (h:Q (.exit id) env σ):dH X (.exit id) Q env σ:=h
theorem PZ (h:Q .ret env σ):dH X .ret Q env σ:=h
theorem GI {id:Nat} {c:VC} (h:dH X c (aQ id Q) env σ):dH X (.block id c) Q env σ:=h
theorem PX {o:cJ} {c:VC} (h:∀N:AV->au->Prop,(∀v s,dH X c Q (upd env o.dst v) s->N v s)->if ax o.guard env then eo X false o env σ N else N .undef σ):dH X (.one o c) Q env σ:=by
 have:=h (fun v s=>dH X c Q (upd env o.dst v) s) fun _ _ h=>h
 unfold dH
 split
 ·rename_i hw;rw[if_pos hw]at this;exact this
 ·rename_i hw;rw[if_neg hw]at this;exact this
def dv (s n:Nat):AV->Prop
 | .own id 0 _=>id=⟨s,n⟩
 |_=>False
def dy (n:Nat):AV->Prop
 | .own id _ _=>¬id.cV=n
 |_=>True
theorem Ma {t s:Nat} {y:O} {c:VC} (h1:dv s σ.next (env t)) (h2:dy σ.next (cZ env y)) (h:dH X c Q env σ):dH X (.loc t s y c) Q env σ:=by
 refine⟨⟨?_,fun id o l he=>?_⟩,h⟩
 ·revert h1
  unfold dv
  split
  ·rename_i id l he;rintro rfl;exact⟨l,he⟩
  ·exact fun h=>h.elim
 ·rw[he]at h2;exact h2
theorem xO {a b:VC} (ha:dH X a Q env σ) (hb:dH X b Q env σ):dH X (.both a b) Q env σ:=⟨ha,hb⟩
theorem PY {draw:Bool} {ops:List cJ} (h:∀N:Env->au->Prop,(∀e s,Q .normal e s->N e s)->wpOps X draw ops N env σ):dH X (.jo draw ops) Q env σ:=h _ fun _ _ h=>h
theorem L7 {ops:List cJ} (h:bE ops (Q .normal) env σ):dH X (.Qs ops) Q env σ:=h
theorem Mb {draw:Bool} (h:K env ⟨σ.get,σ.next+1⟩):wpOps X draw [] K env σ:=h
theorem VV {draw:Bool} {o:cJ} {r:List cJ} (h:∀N:AV->au->Prop,(∀v s,wpOps X draw r K (upd env o.dst v) s->N v s)->if ax o.guard env then eo X draw o env σ N else N .undef σ):wpOps X draw (o::r) K env σ:=by
 have:=h (fun v s=>wpOps X draw r K (upd env o.dst v) s) fun _ _ h=>h
 unfold wpOps
 split
 ·rename_i hw;rw[if_pos hw]at this;exact this
 ·rename_i hw;rw[if_neg hw]at this;exact this
theorem L8 {c:O} {x y:VC} {b:Bool} (hc:cZ env c=.bool b) (ht:b=true->dH X x Q env σ) (hf:b=false->dH X y Q env σ):dH X (.cond c x y) Q env σ:=by
 unfold dH
 simp only[hc]
 cases b with
 |true=>exact ht rfl
 |false=>exact hf rfl
inductive uW:AV->Prop->Prop->Prop
 |t {A B:Prop}:A->uW (.bool true) A B
 |f {A B:Prop}:B->uW (.bool false) A B
theorem GJ {c:O} {x y:VC} {v:AV} (hv:cZ env c=v) (h:uW v (dH X x Q env σ) (dH X y Q env σ)):dH X (.cond c x y) Q env σ:=by
 cases h with
 |t h=>exact L8 hv (fun _=>h) (fun e=>by cases e)
 |f h=>exact L8 hv (fun e=>by cases e) (fun _=>h)
theorem Se {c:VC} (I:Nat->Env->au->Prop) (n:Nat) (h0:I n env σ) (step:∀n env σ,I n env σ->dH X c (fun x e s=>match x with| .normal=>∃m,m<n/\I m e s|x=>Q x e s) env σ)
  (hX:∀(c:VC) (Q Q':Ex->Env->au->Prop) env σ,(∀x e s,Q x e s->Q' x e s)->dH X c Q env σ->dH X c Q' env σ):dH X (.loop c) Q env σ:=by
 have key:∀N n env σ,n<N->I n env σ->Gi (dH X c) Q N env σ:=by
  intro N
  induction N with
  |zero=>intro n env σ h;exact absurd h (Nat.not_lt_zero _)
  |succ N ih=>
   intro n env σ hn hI
   refine hX c _ _ env σ (fun x e s hx=>?_) (step n env σ hI)
   cases x with
   |normal=>obtain⟨m,hm,XK⟩:=hx;exact ih m e s ab XK
   |exit id=>exact hx
   |ret=>exact hx
 exact⟨n+1,key _ n env σ (Nat.lt_succ_self _) h0⟩
theorem OP {c:VC} (I:Nat->Env->au->Prop) (n:Nat) (h0:I n env σ) (step:∀n env σ,I n env σ->dH (Call P) c (fun x e s=>match x with| .normal=>∃m,m<n/\I m e s|x=>Q x e s) env σ):dH (Call P) (.loop c) Q env σ:=
 Se I n h0 step fun c Q Q' env σ hQ h=>jV (fun _ _ _ _ h=>h) bc c Q Q' env σ hQ h
def yH:VC->List Nat
 | .jo _ ops=>ops.filterMap (·.dst)
 | .seq a b=>yH a++yH b
 | .cond _ a b=>yH a++yH b
 | .block _ a=>yH a
 | .loop a=>yH a
 | .one o c=>o.dst.toList++yH c
 | .both a b=>yH a++yH b
 | .loc _ _ _ c=>yH c
 | .Qs ops=>ops.filterMap (·.dst)
 |_=>[]
def iX (l:List Nat) (env iD:Env):Prop:=∀t,l.contains t=false->iD t=env t
theorem iX.refl (l:List Nat) (env:Env):iX l env env:=fun _ _=>rfl
theorem iX.upd {l:List Nat} {e e':Env} {d:Option Nat} {v:AV} (h:iX l e e') (hd:∀t,d=some t->t∈l):iX l e (upd e' d v):=fun t ht=>by
 cases d with
 |none=>exact h t ht
 |some d=>
  have:t≠d:=fun hc=>by subst hc;rw[<-Bool.not_eq_true,List.contains_iff_mem]at ht;exact ht (hd _ rfl)
  show(if t=d then v else e' t)=e t
  rw[if_neg this];exact h t ht
theorem pc {draw:Bool} {Q:Env->au->Prop} {l:List Nat} {e0:Env}:∀(ops:List cJ) (env:Env) (σ:au),(∀t,t∈ops.filterMap (·.dst)->t∈l)->iX l e0 env->wpOps (Call P) draw ops Q env σ->wpOps (Call P) draw ops (fun e s=>Q e s/\iX l e0 e) env σ
 |[],env,σ,_,hk,hp=>⟨hp,hk⟩
 |o::r,env,σ,hl,hk,hp=>by
  have hd:∀t,o.dst=some t->t∈l:=fun t ht=>hl t (List.mem_filterMap.2 ⟨o,by simp,ht⟩)
  have hr:∀t,t∈r.filterMap (·.dst)->t∈l:=fun t ht=>hl t (by
   obtain⟨x,hx,h⟩:=List.mem_filterMap.1 ht
   exact List.mem_filterMap.2 ⟨x,List.mem_cons_of_mem _ hx,h⟩)
  unfold wpOps at hp ⊢
  split at hp
  ·rename_i hw;rw[if_pos hw]
   exact sb (fun _ _ _ _ h=>h) bc (fun v σ' h=>pc r _ _ hr (hk.upd hd) h) hp
  ·rename_i hw;rw[if_neg hw];exact pc r _ _ hr (hk.upd hd) hp
theorem ly {Q:Env->au->Prop} {l:List Nat} {e0:Env}:∀(ops:List cJ) (env:Env) (σ:au),(∀t,t∈ops.filterMap (·.dst)->t∈l)->iX l e0 env->bE ops Q env σ->bE ops (fun e s=>Q e s/\iX l e0 e) env σ
 |[],env,σ,_,hk,hp=>⟨hp,hk⟩
 |o::r,env,σ,hl,hk,hp=>by
  have hd:∀t,o.dst=some t->t∈l:=fun t ht=>hl t (List.mem_filterMap.2 ⟨o,by simp,ht⟩)
  have hr:∀t,t∈r.filterMap (·.dst)->t∈l:=fun t ht=>hl t (by
   obtain⟨x,hx,h⟩:=List.mem_filterMap.1 ht
   exact List.mem_filterMap.2 ⟨x,List.mem_cons_of_mem _ hx,h⟩)
  unfold bE at hp ⊢
  refine⟨hp.1,?_⟩
  replace hp:=hp.2
  split at hp
  ·split at hp
   ·exact ly r _ _ hr (hk.upd hd) hp
   ·exact hp.elim
  ·split at hp
   ·exact ly r _ _ hr (hk.upd hd) hp
   ·exact hp.elim
  ·split at hp
   ·exact ly r _ _ hr (hk.upd hd) hp
   ·exact hp.elim
theorem zU {l:List Nat} {e0:Env}:∀(c:VC) (Q:Ex->Env->au->Prop) (env:Env) (σ:au),(∀t,t∈yH c->t∈l)->iX l e0 env->dH (Call P) c Q env σ->dH (Call P) c (fun x e s=>Q x e s/\iX l e0 e) env σ:=by
 intro c
 induction c with
 |skip=>intro Q env σ _ hk hp;exact⟨hp,hk⟩
 |exit id=>intro Q env σ _ hk hp;exact⟨hp,hk⟩
 |ret=>intro Q env σ _ hk hp;exact⟨hp,hk⟩
 |one o c ih=>
  intro Q env σ hl hk hp
  have hd:∀t,o.dst=some t->t∈l:=fun t ht=>hl t (List.mem_append_left _ (by rw[ht];simp))
  have hr:∀t,t∈yH c->t∈l:=fun t ht=>hl t (List.mem_append_right _ ht)
  unfold dH at hp ⊢
  split at hp
  ·rename_i hw;rw[if_pos hw]
   exact sb (fun _ _ _ _ h=>h) bc (fun v σ' h=>ih Q _ _ hr (hk.upd hd) h) hp
  ·rename_i hw;rw[if_neg hw];exact ih Q _ _ hr (hk.upd hd) hp
 |both a b iha ihb=>
  intro Q env σ hl hk hp
  exact⟨iha Q env σ (fun t ht=>hl t (List.mem_append_left _ ht)) hk hp.1,ihb Q env σ (fun t ht=>hl t (List.mem_append_right _ ht)) hk hp.2⟩
 |loc t s y c ih=>intro Q env σ hl hk hp;exact⟨hp.1,ih Q env σ hl hk hp.2⟩
 |Qs ops=>intro Q env σ hl hk hp;exact ly ops env σ hl hk hp
 |jo draw ops=>intro Q env σ hl hk hp;exact pc ops env σ hl hk hp
 |seq a b iha ihb=>
  intro Q env σ hl hk hp
  refine jV (fun _ _ _ _ h=>h) bc a _ _ env σ (fun x e s hx=>?_) (iha _ env σ (fun t ht=>hl t (List.mem_append_left _ ht)) hk hp)
  cases x with
  |normal=>exact ihb Q e s (fun t ht=>hl t (List.mem_append_right _ ht)) hx.2 hx.1
  |exit id=>exact hx
  |ret=>exact hx
 |cond c a b iha ihb=>
  intro Q env σ hl hk hp
  unfold dH at hp ⊢
  split at hp
  ·rename_i t ht
   cases t with
   |true=>exact iha Q env σ (fun t ht=>hl t (List.mem_append_left _ ht)) hk hp
   |false=>exact ihb Q env σ (fun t ht=>hl t (List.mem_append_right _ ht)) hk hp
  ·exact hp.elim
 |block id a iha=>
  intro Q env σ hl hk hp
  refine jV (fun _ _ _ _ h=>h) bc a _ _ env σ (fun x e s hx=>?_) (iha _ env σ hl hk hp)
  obtain⟨hx,F6⟩:=hx
  cases x with
  |normal=>exact⟨hx,F6⟩
  |ret=>exact⟨hx,F6⟩
  |exit jR=>
   unfold aQ at hx ⊢
   dsimp only at hx ⊢
   split at hx
   ·rename_i hid;rw[if_pos hid];exact⟨hx,F6⟩
   ·rename_i hid;rw[if_neg hid];exact⟨hx,F6⟩
 |loop a iha=>
  intro Q env σ hl hk hp
  obtain⟨n,hp⟩:=hp
  refine⟨n,?_⟩
  induction n generalizing env σ with
  |zero=>exact hp
  |succ n ihn=>
   refine jV (fun _ _ _ _ h=>h) bc _ _ _ _ _ (fun x e s hx=>?_) (iha _ env σ hl hk hp)
   obtain⟨hx,F6⟩:=hx
   cases x with
   |normal=>exact ihn e s F6 hx
   |exit id=>exact⟨hx,F6⟩
   |ret=>exact⟨hx,F6⟩
theorem dc {c:VC} (I:Nat->Env->au->Prop) (n:Nat) (h0:I n env σ) (step:∀n e s,I n e s->iX (yH c) env e->dH (Call P) c (fun x e s=>match x with| .normal=>∃m,m<n/\I m e s|x=>Q x e s) e s):dH (Call P) (.loop c) Q env σ:=by
 refine OP (fun n e s=>I n e s/\iX (yH c) env e) n ⟨h0,iX.refl _ _⟩ fun n e s hI=>?_
 refine jV (fun _ _ _ _ h=>h) bc _ _ _ _ _ (fun x e' s' hx=>?_) (zU c _ e s (fun _ h=>h) hI.2 (step n e s hI.1 hI.2))
 obtain⟨hx,hk⟩:=hx
 cases x with
 |normal=>obtain⟨m,hm,h⟩:=hx;exact⟨m,hm,h,hk⟩
 |exit id=>exact hx
 |ret=>exact hx
theorem Mf {k:Nat} (h:k<=9223372036854775807):IntKind.i64.wrap (k:Int)=k:=by rw[IntKind.wrap_i64];omega
theorem cH {z:Int} (h: -9223372036854775808<=z/\z<=9223372036854775807):IntKind.i64.wrap z=z:=by rw[IntKind.wrap_i64];omega
theorem cE {k:Nat} (h:(k:Int)+1<=9223372036854775807):IntKind.i64.wrap ((k:Int)+1)=((k+1:Nat):Int):=by rw[IntKind.wrap_i64];omega
theorem all_succ {k:Nat} {p:Nat->Prop} (h:∀j,j<k->p j) (hk:p k):∀j,j<k+1->p j:=fun j hj=>by
 by_cases F5:j=k
 ·subst F5;exact hk
 ·exact h j ab
theorem aP (g:Rows) (n:Nat) (k:IntKind) (m:Int):fz g (n+1) (.int k m)=some (.int k m):=by rw[fz]<;>intros<;>simp_all
theorem aJ (g:Rows) (n:Nat) (b:Bool):fz g (n+1) (.bool b)=some (.bool b):=by rw[fz]<;>intros<;>simp_all
theorem bt (g:Rows) (n:Nat) (b:ByteArray):fz g (n+1) (.str b)=some (.str b):=by rw[fz]<;>intros<;>simp_all
theorem bI (g:Rows) (n:Nat) (l:List (List AV)):fz g (n+1) (.sl l)=some (.sl l):=by rw[fz]<;>intros<;>simp_all
theorem aD (g:Rows) (n:Nat):fz g (n+1) .bP=some .bP:=by rw[fz]<;>intros<;>simp_all
def az (P:Program) (f:Nat) (args:List AV) (r:AV):Prop:=∀n:Nat,Call P f args ⟨fun _=>none,n⟩ fun r0 σ'=>∃r',gx σ'.get 6 r0=some r'/\r'=r
theorem az.body {f:Nat} {args:List AV} {r:AV} {nt na:Nat} {body:VC} {res:List nZ} (hf:BN P f=some ⟨nt,na,body,res⟩) (ha:na=args.length) (h:(∀a∈args,e8 a)->∀n:Nat,dH (Call P) body (lL res fun r0 σ'=>∃r',gx σ'.get 6 r0=some r'/\r'=r) (bD args) ⟨fun _=>none,n⟩):az P f args r:=fun n=>pe hf ha fun hl=>h hl n
theorem az.x {f:Nat} {args args':List AV} {r:AV} (h:az P f args' r) {σ:au} (hv:ek (dX σ.get) 6 args=some args'):eB (Call P) f args σ (fun r'=>r'=r):=.inr ⟨args',hv,h _⟩
theorem O5.x {f:Nat} {args:List AV} {r:AV} (h:O5 P f args r) (σ:au):eB (Call P) f args σ (fun r'=>r'=r):=.inl (h σ)
theorem eV (g:Rows) (n:Nat) (k:IntKind) (m:Int):gx g (n+1) (.int k m)=some (.int k m):=by rw[gx]<;>intros<;>simp_all
theorem iI (g:Rows) (n:Nat) (b:Bool):gx g (n+1) (.bool b)=some (.bool b):=by rw[gx]<;>intros<;>simp_all
theorem jk (g:Rows) (n:Nat) (b:ByteArray):gx g (n+1) (.str b)=some (.str b):=by rw[gx]<;>intros<;>simp_all
theorem kz (g:Rows) (n:Nat):gx g (n+1) .bP=some .bP:=by rw[gx]<;>intros<;>simp_all
theorem gn (g:Rows) (n:Nat) (l:List AV):gx g (n+1) (.fN l)=(eU g n l).map AV.fN:=by rw[gx]
theorem Ax (g:Rows) (n:Nat) (l:List AV):gx g (n+1) (.agg l)=(eU g n l).map AV.agg:=by rw[gx]
theorem uH {g:Rows} {n:Nat} {id:Id} {off len sz:Nat} {rows rows':List (List AV)} (h:g id=some ⟨true,sz,rows⟩) (hl:off+len<=rows.length) (hr:fS g n ((rows.drop off).take len)=some rows'):gx g (n+1) (.own id off len)=some (.sl rows'):=by
 rw[gx];simp only[h,if_true,if_pos hl,hr,Option.map_some]
theorem dD (g:Rows) (n:Nat):eU g n []=some []:=by rw[eU]
theorem cQ (g:Rows) (n:Nat) (a:AV) (l:List AV):eU g n (a::l)=match gx g n a with
  |some b=>(eU g n l).map (b::·)
  |none=>none:=by rw[eU];cases gx g n a<;>rfl
theorem tH {g:Rows} {n:Nat}:∀{l:List (List AV)},(∀c∈l,eU g n c=some c)->fS g n l=some l
 |[],_=>by rw[fS]
 |c::r,h=>by rw[fS,h c (by simp),tH fun d hd=>h d (List.mem_cons_of_mem _ hd)];rfl
theorem aS (g:Rows) (n:Nat) (l:List AV):fz g (n+1) (.agg l)=(ek g n l).map AV.agg:=by rw[fz]
theorem aA (g:Rows) (n:Nat) (l:List AV):fz g (n+1) (.fe l)=some (.fe l):=by rw[fz]<;>intros<;>simp_all
theorem Ay {g:Rows} {n:Nat} {id:Id} {i off sz:Nat} {rows:List (List AV)} {cs qT:List AV} (h:g id=some ⟨true,sz,rows⟩) (hi:rows[i]? =some cs) (hr:ek g n (cs.drop off)=some qT):fz g (n+1) (.ptr id i off)=some (.fe qT):=by
 rw[fz];simp only[h,if_true,hi,hr,Option.map_some]
theorem ae (g:Rows) (n:Nat):ek g n []=some []:=by rw[ek]
theorem ad (g:Rows) (n:Nat) (a:AV) (l:List AV):ek g n (a::l)=match fz g n a with
  |some b=>(ek g n l).map (b::·)
  |none=>none:=by rw[ek];cases fz g n a<;>rfl
theorem xl {t:Nat} {r r0:AV} {x:Ex} (hx:x=.ret∨x=.normal) (he:env t=r0) (hz:gx σ.get 6 r0=some r):lL [.tmp t] (fun r0 σ'=>∃r',gx σ'.get 6 r0=some r'/\r'=r) x env σ:=by
 have:∃vs,gY env σ.get [.tmp t]=some vs/\∃r',gx σ.get 6 (gp vs)=some r'/\r'=r:=⟨[env t],rfl,r,by subst he;exact hz,rfl⟩
 rcases hx with rfl|rfl
 ·exact this
 ·exact this
theorem dQ {t:Nat} {b c:Bool} {x:Ex} (hx:x=.ret∨x=.normal) (he:env t=.bool b) (hb:b=c):lL [.tmp t] (fun r0 σ'=>∃r',gx σ'.get 6 r0=some r'/\r'=.bool c) x env σ:=xl hx he (by rw[iI,hb])
theorem e7 {t:Nat} {k:IntKind} {b c:Int} {x:Ex} (hx:x=.ret∨x=.normal) (he:env t=.int k b) (hb:b=c):lL [.tmp t] (fun r0 σ'=>∃r',gx σ'.get 6 r0=some r'/\r'=.int k c) x env σ:=xl hx he (by rw[eV,hb])
theorem mj {t u:Nat} {r r1 r2:AV} {x:Ex} (hx:x=.ret∨x=.normal) (h1:env t=r1) (h2:env u=r2) (hz:gx σ.get 6 (.fN [r1,r2])=some r):lL [.tmp t,.tmp u] (fun r0 σ'=>∃r',gx σ'.get 6 r0=some r'/\r'=r) x env σ:=by
 have:∃vs,gY env σ.get [.tmp t,.tmp u]=some vs/\∃r',gx σ.get 6 (gp vs)=some r'/\r'=r:=⟨[env t,env u],rfl,r,by subst h1;subst h2;exact hz,rfl⟩
 rcases hx with rfl|rfl
 ·exact this
 ·exact this
structure Pn (p:Prop):Prop where
 out:p
theorem tw {A B:Prop} (a:A) (b:B):A/\B:=⟨a,b⟩
theorem wk {A R G:Prop} (a:A) (r:R) (h:A->R->G:=by
  intro fL kk
  (repeat(refine Pn.mk ?_;intro N hN))
  (first|((first|apply P0|apply PY);intro N hN)|((first|(apply VV;intro N hN)|(apply PX;intro N hN));simp only[go_sem, ↓reduceIte,Nat.reduceEqDiff,Nat.reduceAdd,Nat.reduceSub,Nat.reduceMul,Nat.reduceLeDiff,Nat.reduceBEq,reduceCtorEq,Nat.reduceLT,Int.reduceLE,Int.reduceLT,Int.reduceToNat,Int.reduceNeg,Int.reduceAdd,Int.reduceEq,fL];first|(refine hN _ _ ?_;clear hN N)|skip)|(apply GJ;(simp only[go_sem, ↓reduceIte,Nat.reduceEqDiff,Nat.reduceAdd,Nat.reduceSub,Nat.reduceMul,Nat.reduceLeDiff,Nat.reduceBEq,reduceCtorEq,Nat.reduceLT,Int.reduceLE,Int.reduceLT,Int.reduceToNat,Int.reduceNeg,Int.reduceAdd,Int.reduceEq,fL];rfl);first|with_reducible apply uW.t|with_reducible apply uW.f)|(apply Mb;refine hN _ _ ?_;clear hN N;try(simp only[cU,aQ, ↓reduceIte,Nat.reduceEqDiff]);try(refine hN _ _ ?_;clear hN N))|apply GI|(refine Ma ?_ ?_ ?_;(focus(simp only[go_sem, ↓reduceIte,Nat.reduceEqDiff,Nat.reduceAdd,Nat.reduceSub,Nat.reduceMul,Nat.reduceLeDiff,Nat.reduceBEq,reduceCtorEq,Nat.reduceLT,Int.reduceLE,Int.reduceLT,Int.reduceToNat,Int.reduceNeg,Int.reduceAdd,Int.reduceEq,fL];done));(focus(simp only[go_sem, ↓reduceIte,Nat.reduceEqDiff,Nat.reduceAdd,Nat.reduceSub,Nat.reduceMul,Nat.reduceLeDiff,Nat.reduceBEq,reduceCtorEq,Nat.reduceLT,Int.reduceLE,Int.reduceLT,Int.reduceToNat,Int.reduceNeg,Int.reduceAdd,Int.reduceEq,fL];done)))|((first|apply Mc|apply L9|apply PZ);try(simp only[cU,aQ, ↓reduceIte,Nat.reduceEqDiff]);try(refine hN _ _ ?_;clear hN N))|((first|refine hN _ _ ?_|(clear hN N;first|refine hN _ _ ?_|(clear hN N;first|refine hN _ _ ?_|(clear hN N;first|refine hN _ _ ?_|(clear hN N;refine hN _ _ ?_)))));clear hN N))
  (repeat(first|((first|apply P0|apply PY);intro N hN)|((first|(apply VV;intro N hN)|(apply PX;intro N hN));simp only[go_sem, ↓reduceIte,Nat.reduceEqDiff,Nat.reduceAdd,Nat.reduceSub,Nat.reduceMul,Nat.reduceLeDiff,Nat.reduceBEq,reduceCtorEq,Nat.reduceLT,Int.reduceLE,Int.reduceLT,Int.reduceToNat,Int.reduceNeg,Int.reduceAdd,Int.reduceEq,fL];first|(refine hN _ _ ?_;clear hN N)|skip)|(apply GJ;(simp only[go_sem, ↓reduceIte,Nat.reduceEqDiff,Nat.reduceAdd,Nat.reduceSub,Nat.reduceMul,Nat.reduceLeDiff,Nat.reduceBEq,reduceCtorEq,Nat.reduceLT,Int.reduceLE,Int.reduceLT,Int.reduceToNat,Int.reduceNeg,Int.reduceAdd,Int.reduceEq,fL];rfl);first|with_reducible apply uW.t|with_reducible apply uW.f)|(apply Mb;refine hN _ _ ?_;clear hN N;try(simp only[cU,aQ, ↓reduceIte,Nat.reduceEqDiff]);try(refine hN _ _ ?_;clear hN N))|apply GI|(refine Ma ?_ ?_ ?_;(focus(simp only[go_sem, ↓reduceIte,Nat.reduceEqDiff,Nat.reduceAdd,Nat.reduceSub,Nat.reduceMul,Nat.reduceLeDiff,Nat.reduceBEq,reduceCtorEq,Nat.reduceLT,Int.reduceLE,Int.reduceLT,Int.reduceToNat,Int.reduceNeg,Int.reduceAdd,Int.reduceEq,fL];done));(focus(simp only[go_sem, ↓reduceIte,Nat.reduceEqDiff,Nat.reduceAdd,Nat.reduceSub,Nat.reduceMul,Nat.reduceLeDiff,Nat.reduceBEq,reduceCtorEq,Nat.reduceLT,Int.reduceLE,Int.reduceLT,Int.reduceToNat,Int.reduceNeg,Int.reduceAdd,Int.reduceEq,fL];done)))|((first|apply Mc|apply L9|apply PZ);try(simp only[cU,aQ, ↓reduceIte,Nat.reduceEqDiff]);try(refine hN _ _ ?_;clear hN N))|((first|refine hN _ _ ?_|(clear hN N;first|refine hN _ _ ?_|(clear hN N;first|refine hN _ _ ?_|(clear hN N;first|refine hN _ _ ?_|(clear hN N;refine hN _ _ ?_)))));clear hN N)))
  (repeat(revert hN;revert N;apply Pn.out))
  exact kk):G:=h a r
theorem sd {A G:Prop} (a:A) (h:A->G:=by
  intro fL
  first|(simp only[go_sem, ↓reduceIte,Nat.reduceEqDiff,Nat.reduceAdd,Nat.reduceSub,Nat.reduceMul,Nat.reduceLeDiff,Nat.reduceBEq,reduceCtorEq,Nat.reduceLT,Int.reduceLE,Int.reduceLT,Int.reduceToNat,Int.reduceNeg,Int.reduceAdd,Int.reduceEq,fL,gY,kX];done)|fail):G:=h a
theorem sl {A G:Prop} (a:A) (h:A->G:=by
  intro fL
  (try simp only[go_sem, ↓reduceIte,Nat.reduceEqDiff,Nat.reduceAdd,Nat.reduceSub,Nat.reduceMul,Nat.reduceLeDiff,Nat.reduceBEq,reduceCtorEq,Nat.reduceLT,Int.reduceLE,Int.reduceLT,Int.reduceToNat,Int.reduceNeg,Int.reduceAdd,Int.reduceEq,fL])
  try rfl):G:=h a
end Go.Proofs.YtalkncaokeaifaaGreatDoor.V

namespace Go.Proofs.YtalkncaokeaifaaGreatDoor
open Go.RowKit
def Sl (w:World) (fp:List Nat) (v:Value) (n:Nat) (xs:List Value):Prop:=
 ∃A c,v=.slice A n c/\n<=c/\c<=maxLen/\
  ((fp=[]/\n=0)∨∃b o,fp=[b]/\A=some ⟨b,o,none⟩/\∀j u,xs[j]? =some u->w.cell? ⟨b,o+j,none⟩=some u)
def jW (fp:List Nat) (lo hi:Nat):Prop:=∀b∈fp,lo<=b/\b<hi
theorem jW.nil (lo hi:Nat):jW [] lo hi:=fun _ h=>by cases h
theorem Sl.nil (w:World):Sl w [] (.slice none 0 0) 0 []:=⟨none,0,rfl,Nat.le_refl _,by simp[maxLen],.inl ⟨rfl,rfl⟩⟩
def Qa {α:Type} (rep:World->List Nat->List Value->α->Prop) (sz:Nat) (w:World) (oq:List (List Value)) (FV:List (List Nat)) (ds:List α):Prop:=
 oq.length=ds.length/\FV.length=ds.length/\∀(i:Nat) (cs:List Value) (f:List Nat) (d:α),oq[i]? =some cs->FV[i]? =some f->ds[i]? =some d->rep w f cs d/\cs.length=sz
def mF {α:Type} (rep:World->List Nat->List Value->α->Prop) (sz:Nat) (w:World) (fp:List Nat) (v:Value) (ds:List α):Prop:=
 ∃oq FV Xw,fp=Xw++FV.flatten/\Sl w Xw v ds.length oq.flatten/\Qa rep sz w oq FV ds
theorem qq {α:Type} {FV:List (List α)} {i:Nat} {f:List α} (h:FV[i]? =some f):∀b∈f,b∈FV.flatten:=fun b hb=>
 List.mem_flatten.2 ⟨f,List.mem_of_getElem? h,hb⟩
theorem tG {α:Type} {oq:List (List α)} {sz:Nat} (h:∀cs∈oq,cs.length=sz) {i j:Nat} {cs:List α} (hi:oq[i]? =some cs) (hj:j<sz):oq.flatten[i*sz+j]? =cs[j]? :=by
 induction oq generalizing i with
 |nil=>simp at hi
 |cons c r ih=>
  have hc:c.length=sz:=h c (by simp)
  cases i with
  |zero=>
   simp at hi;subst hi
   rw[List.flatten_cons,List.getElem?_append_left (by omega)];simp
  |succ i=>
   rw[List.flatten_cons,List.getElem?_append_right (by rw[hc,Nat.succ_mul];omega)]
   have:(i+1)*sz+j-c.length=i*sz+j:=by rw[hc,Nat.succ_mul];omega
   rw[this]
   exact ih (fun cs dW=>h cs (List.mem_cons_of_mem _ dW)) (by simpa using hi)
theorem Qa.lens {α:Type} {rep:World->List Nat->List Value->α->Prop} {sz:Nat} {w:World} {oq:List (List Value)} {FV:List (List Nat)} {ds:List α}
  (h:Qa rep sz w oq FV ds):∀cs∈oq,cs.length=sz:=fun cs dW=>by
 obtain⟨i,hi,rfl⟩:=List.getElem_of_mem dW
 have h1:i<FV.length:=by rw[h.2.1,<-h.1];exact hi
 have h2:i<ds.length:=by rw[<-h.1];exact hi
 exact(h.2.2 i _ _ _ (List.getElem?_eq_getElem hi) (List.getElem?_eq_getElem h1) (List.getElem?_eq_getElem h2)).2
theorem mF.at_ {α:Type} {rep:World->List Nat->List Value->α->Prop} {sz:Nat} {w:World} {fp:List Nat} {A:Option Addr} {n c:Nat} {ds:List α}
  (h:mF rep sz w fp (.slice A n c) ds) (k:Nat) (hk:k<ds.length):
  ∃b o cs f,A=some ⟨b,o,none⟩/\b∈fp/\(∀x∈f,x∈fp)/\rep w f cs ds[k]/\cs.length=sz/\∀j u,cs[j]? =some u->w.cell? ⟨b,o+(k*sz+j),none⟩=some u:=by
 obtain⟨oq,FV,Xw,rfl,⟨A',c',hv,_,_,hc⟩,hr⟩:=h
 simp only[Value.slice.injEq]at hv
 obtain⟨rfl,hn,rfl⟩:=hv
 rcases hc with⟨_,h0⟩|⟨b,o,rfl,rfl,hc⟩
 ·omega
 have h1:k<oq.length:=by rw[hr.1];exact hk
 have h2:k<FV.length:=by rw[hr.2.1];exact hk
 obtain⟨hZ,hl⟩:=hr.2.2 k _ _ _ (List.getElem?_eq_getElem h1) (List.getElem?_eq_getElem h2) (List.getElem?_eq_getElem hk)
 refine⟨b,o,oq[k],FV[k],rfl,by simp,fun x hx=>List.mem_append_right _ (qq (List.getElem?_eq_getElem h2) x hx),hZ,hl,fun j u hj=>?_⟩
 have ja:j<sz:=by rw[<-hl];exact(List.getElem?_eq_some_iff.1 hj).1
 exact hc _ u (by rw[tG hr.lens (List.getElem?_eq_getElem h1) ja];exact hj)
theorem mF.len {α:Type} {rep:World->List Nat->List Value->α->Prop} {sz:Nat} {w:World} {fp:List Nat} {v:Value} {ds:List α}
  (h:mF rep sz w fp v ds):∃A c,v=.slice A ds.length c/\ds.length<=c/\c<=maxLen:=by
 obtain⟨_,_,_,_,⟨A,c,hv,h1,h2,_⟩,_⟩:=h
 exact⟨A,c,hv,h1,h2⟩
theorem mF.nil {α:Type} (rep:World->List Nat->List Value->α->Prop) (sz:Nat) (w:World):mF rep sz w [] (.slice none 0 0) ([]:List α):=
 ⟨[],[],[],rfl,Sl.nil w,rfl,rfl,fun i cs f d hc=>by simp at hc⟩
def Flat {α:Type} (enc:α->List Value):World->List Nat->List Value->α->Prop:=fun _ f cs d=>f=[]/\cs=enc d
def Q (w w':World):Prop:=∃q,w'=w.drewN q
theorem kQ {a b:Bool} (h:a=b):Ending.returned (.bool a)=.returned (.bool b):=by rw[h]
theorem Gu {k:IntKind} {a b:Int} (h:a=b):Ending.returned (.int k a)=.returned (.int k b):=by rw[h]
def Unf (w:World) (b:Nat):Prop:=∃cs e,w.heap[b]? =some (.cells cs e (0,0))
def putCells (w:World) (g:Nat):Nat->List Value->World
 |_,[]=>w
 |i,v::r=>putCells (w.setCell ⟨g,i,none⟩ v) g (i+1) r
structure j8 (fp:List Nat) (w w':World):Prop where
 os:w'.os=w.os
 tape:w'.tape=w.tape
 output:w'.output=w.output
 size:w.heap.size<=w'.heap.size
 block:∀x,x<w.heap.size->x∉fp->w'.heap[x]? =w.heap[x]?
 unf:∀x,Unf w x->Unf w' x
theorem j8.trans {fp:List Nat} {a b c:World} (h:j8 fp a b) (k:j8 fp b c):j8 fp a c:=
 ⟨k.os.trans h.os,k.tape.trans h.tape,k.output.trans h.output,Nat.le_trans h.size k.size,fun x h1 h2=>(k.block x (Nat.lt_of_lt_of_le h1 h.size) h2).trans (h.block x h1 h2),fun x hx=>k.unf x (h.unf x hx)⟩
structure af where
 fu:Int
 eW:Int
deriving DecidableEq
structure aa where
 bQ:af
 cK:Int
deriving DecidableEq
structure km where
 ay:List aa
deriving DecidableEq
structure gj where
 dP:ByteArray
 gK:Int
deriving DecidableEq
structure fj where
 dP:ByteArray
 eD:List Int
deriving DecidableEq
structure aO where
 dx:List gj
 ay:List fj
deriving DecidableEq
structure aw where
 aq:aO
 dJ:km
 bu:Int
deriving DecidableEq
def fV (d:af):List Value:=[.int .i64 d.fu,.int .i64 d.eW]
def fD (d:aa):List Value:=[.int .i64 d.bQ.fu,.int .i64 d.bQ.eW,.int .i64 d.cK]
end Go.Proofs.YtalkncaokeaifaaGreatDoor

namespace Go.Proofs.YtalkncaokeaifaaGreatDoor.V
open Go.RowKit
variable {P:Program} {w:World} {D:Nat->Prop}
def IX (P:Program) (w:World) (D:Nat->Prop) (al:List AV) (cs:List Value):Prop:=∀(j:Nat) (a:AV),al[j]? =some a->∃u:Value,cs[j]? =some u/\jA P w D a u
theorem LI {α:Type} {rep:World->List Nat->List Value->α->Prop} {e:α->List AV} {sz:Nat} {f:List Nat} {v:Value} {xs:List α} (h:mF rep sz w f v xs) (hD:∀b∈f,D b)
  (hl:∀x∈xs,(e x).length=sz) (hc:∀x∈xs,∀a∈e x,a.cell=true) (hr:∀x∈xs,∀f' cs,rep w f' cs x->(∀b∈f',D b)->IX P w D (e x) cs):jA P w D (.sl (xs.map e)) v:=by
 obtain⟨A,c,rfl,h1,h2⟩:=mF.len h
 by_cases h0:xs=[]
 ·subst h0;exact .Bd _ _ h2
 have kC:0<xs.length:=List.length_pos_iff.2 h0
 obtain⟨b,o,Wb,f0,rfl,hb,Wx,Yx,Nt,jt⟩:=mF.at_ h 0 kC
 have key:∀(i:Nat) (hi:i<xs.length),∃cs f',(∀x∈f',x∈f)/\rep w f' cs xs[i]/\cs.length=sz/\∀j u,cs[j]? =some u->w.cell? ⟨b,o+(i*sz+j),none⟩=some u:=by
  intro i hi
  obtain⟨b',o',cs,f',Ww,_,X2,nS,dW,jZ⟩:=mF.at_ h i hi
  simp only[Option.some.injEq,Addr.mk.injEq,and_true]at Ww
  obtain⟨rfl,rfl⟩:=Ww
  exact⟨cs,f',X2,nS,dW,jZ⟩
 refine .sl _ b o _ c sz (fun i j=>(w.cell? ⟨b,o+(i*sz+j),none⟩).getD Go.undef) (by simp) h1 h2 (hD b hb) ?_ ?_ ?_ ?_
 ·intro cs dW
  obtain⟨x,hx,rfl⟩:=List.mem_map.1 dW
  exact hl x hx
 ·intro cs dW
  obtain⟨x,hx,rfl⟩:=List.mem_map.1 dW
  exact hc x hx
 ·intro i j hi hj
  obtain⟨cs,f',_,_,dW,jZ⟩:=key i hi
  rw[jZ j cs[j] (List.getElem?_eq_getElem ab)]
  rfl
 ·intro i j cs a dW ha
  have hi:i<xs.length:=by
   have:=(List.getElem?_eq_some_iff.1 dW).1
   simpa using this
  obtain⟨qT,f',X2,nS,hcs',jZ⟩:=key i hi
  simp[hi]at dW
  subst dW
  obtain⟨u,hu,him⟩:=hr _ (List.getElem_mem hi) f' qT nS (fun b hb=>hD b (X2 b hb)) j a ha
  rw[jZ j u hu]
  exact him
end Go.Proofs.YtalkncaokeaifaaGreatDoor.V

namespace Go.Proofs.YtalkncaokeaifaaGreatDoor.V
open Go.RowKit
variable {P:Program} {w:World} {D:Nat->Prop}
def ah (d:Int):List AV:=[.int .i64 d]
def ao (d:af):List AV:=[.int .i64 d.fu,.int .i64 d.eW]
def ai (d:aa):List AV:=[.int .i64 d.bQ.fu,.int .i64 d.bQ.eW,.int .i64 d.cK]
def ph (d:km):List AV:=[.sl (d.ay.map ai)]
def eP (d:gj):List AV:=[.str d.dP,.int .i64 d.gK]
def eS (d:fj):List AV:=[.str d.dP,.sl (d.eD.map ah)]
def aj (d:aO):List AV:=[.sl (d.dx.map eP),.sl (d.ay.map eS)]
def eb (d:aw):List AV:=[.sl (d.aq.dx.map eP),.sl (d.aq.ay.map eS),.sl (d.dJ.ay.map ai),.int .i64 d.bu]
end Go.Proofs.YtalkncaokeaifaaGreatDoor.V

namespace Go.Proofs.YtalkncaokeaifaaGreatDoor.V
open Go.RowKit
variable {P:Program} {X:fW} {env:Env} {σ:au}
theorem aZ (g:Rows) (n:Nat) (l:List AV):fz g (n+1) (.fN l)=(ek g n l).map AV.fN:=by rw[fz]
theorem bU (g:Rows) (n:Nat) (f:Nat) (l:List AV):fz g (n+1) (.fn f l)=if l.all AV.cell then(ek g n l).map (AV.fn f)else none:=by rw[fz]
theorem aL (g:Rows) (n:Nat) (id:Id) (i off:Nat):fz g (n+1) (.ptr id i off)=match g id with
  |some r=>if r.w then(match r.rows[i]? with
   |some cs=>(ek g n (cs.drop off)).map AV.fe
   |none=>none)else none
  |none=>none:=by rw[fz];rfl
theorem pk (g:Rows) (n:Nat) (id:Id) (off len:Nat):fz g (n+1) (.own id off len)=match g id with
  |some r=>if r.w then(if off+len<=r.rows.length then(fm g n ((r.rows.drop off).take len)).map AV.sl else none)else none
  |none=>none:=by rw[fz];rfl
theorem Cd (g:Rows) (n:Nat):fm g n []=some []:=by rw[fm]
theorem Aw (g:Rows) (n:Nat) (c:List AV) (l:List (List AV)):fm g n (c::l)=match ek g n c with
  |some b=>(fm g n l).map (b::·)
  |none=>none:=by rw[fm];cases ek g n c<;>rfl
theorem vV {g:Rows} {n:Nat}:∀{l:List (List AV)},(∀c∈l,ek g n c=some c)->fm g n l=some l
 |[],_=>by rw[fm]
 |c::r,h=>by rw[fm,h c (by simp),vV fun d hd=>h d (List.mem_cons_of_mem _ hd)];rfl
theorem qh {α:Type} {g:Rows} {n:Nat} {e:α->List AV} {l:List α} (h:∀x,ek g n (e x)=some (e x)):fm g n (l.map e)=some (l.map e):=vV fun c hc=>by
 obtain⟨x,_,rfl⟩:=List.mem_map.1 hc
 exact h x
theorem Ce {α:Type} {g:Rows} {n:Nat} {e:α->List AV} {l:List α} (h:∀x,eU g n (e x)=some (e x)):fS g n (l.map e)=some (l.map e):=tH fun c hc=>by
 obtain⟨x,_,rfl⟩:=List.mem_map.1 hc
 exact h x
theorem kA {α:Type} {g:Rows} {n:Nat} {e:α->List AV} {l:List α} {id:Id} {sz len:Nat} (hg:g id=some ⟨true,sz,l.map e⟩) (hl:len=l.length) (h:∀x,ek g n (e x)=some (e x)):fz g (n+1) (.own id 0 len)=some (.sl (l.map e)):=by
 subst hl
 rw[pk];simp only[hg,if_true]
 rw[if_pos (by simp),List.drop_zero,List.take_of_length_le (by simp),qh h];rfl
theorem eT {α:Type} {g:Rows} {n:Nat} {e:α->List AV} {l:List α} {id:Id} {sz len:Nat} (hg:g id=some ⟨true,sz,l.map e⟩) (hl:len=l.length) (h:∀x,eU g n (e x)=some (e x)):gx g (n+1) (.own id 0 len)=some (.sl (l.map e)):=by
 subst hl
 exact uH hg (by simp) (by rw[List.drop_zero,List.take_of_length_le (by simp),Ce h])
theorem all_map {α:Type} {e:α->List AV} {sz:Nat} {l:List α} (h:∀x,(e x).length=sz/\(e x).all AV.cell=true):(l.map e).all (fun c=>c.length==sz&&c.all AV.cell)=true:=by
 rw[List.all_eq_true]
 intro c hc
 obtain⟨x,_,rfl⟩:=List.mem_map.1 hc
 simp[(h x).1,(h x).2]
theorem Vs {res:List nZ} {r:AV} {vs:List AV} {x:Ex} (hx:x=.ret∨x=.normal) (hv:gY env σ.get res=some vs) (hz:fz σ.get 6 (gp vs)=some r):lL res (fun r0 σ'=>∃r',fz σ'.get 6 r0=some r'/\r'=r) x env σ:=by
 rcases hx with rfl|rfl
 ·exact⟨vs,hv,r,hz,rfl⟩
 ·exact⟨vs,hv,r,hz,rfl⟩
theorem oY {res:List nZ} {r:AV} {vs:List AV} {x:Ex} (hx:x=.ret∨x=.normal) (hv:gY env σ.get res=some vs) (hz:gx σ.get 6 (gp vs)=some r):lL res (fun r0 σ'=>∃r',gx σ'.get 6 r0=some r'/\r'=r) x env σ:=by
 rcases hx with rfl|rfl
 ·exact⟨vs,hv,r,hz,rfl⟩
 ·exact⟨vs,hv,r,hz,rfl⟩
theorem eK {res:List nZ} {K:AV->au->Prop} {vs:List AV} {x:Ex} (hx:x=.ret∨x=.normal) (hv:gY env σ.get res=some vs) (hK:K (gp vs) σ):lL res K x env σ:=by
 rcases hx with rfl|rfl
 ·exact⟨vs,hv,hK⟩
 ·exact⟨vs,hv,hK⟩
theorem eX {f:Nat} {args:List AV} {σ:au} {K:AV->au->Prop} {nt na:Nat} {body:VC} {res:List nZ} (hf:BN P f=some ⟨nt,na,body,res⟩) (ha:na=args.length) (h:(∀a∈args,e8 a)->dH (Call P) body (lL res K) (bD args) σ):Call P f args σ K:=pe hf ha h
theorem IW {f:Nat} {md:List (Nat×Nat)} {args:List AV} {σ:au} {K:AV->au->Prop} {nt na:Nat} {body:VC} {res:List nZ} (hf:Ah P f md=some ⟨nt,na,body,res⟩) (ha:na=args.length) (h:(∀a∈args,e8 a)->dH (Call P) body (lL res K) (bD args) σ):Call P f args σ K:=uV hf ha h
theorem dF {i:Id} {n:Nat} (h:i.cV<n):(∀s,(i=⟨s,n⟩)=False/\(i=⟨s,n+1⟩)=False/\(i=⟨s,n+1+1⟩)=False/\(i=⟨s,n+1+1+1⟩)=False/\(i=⟨s,n+1+1+1+1⟩)=False/\(i=⟨s,n+1+1+1+1+1⟩)=False/\(i=⟨s,n+1+1+1+1+1+1⟩)=False/\(i=⟨s,n+1+1+1+1+1+1+1⟩)=False/\(i=⟨s,n+1+1+1+1+1+1+1+1⟩)=False/\(i=⟨s,n+1+1+1+1+1+1+1+1+1⟩)=False/\(⟨s,n⟩=i)=False/\(⟨s,n+1⟩=i)=False/\(⟨s,n+1+1⟩=i)=False/\(⟨s,n+1+1+1⟩=i)=False/\(⟨s,n+1+1+1+1⟩=i)=False/\(⟨s,n+1+1+1+1+1⟩=i)=False/\(⟨s,n+1+1+1+1+1+1⟩=i)=False/\(⟨s,n+1+1+1+1+1+1+1⟩=i)=False/\(⟨s,n+1+1+1+1+1+1+1+1⟩=i)=False/\(⟨s,n+1+1+1+1+1+1+1+1+1⟩=i)=False)/\(i.cV=n)=False/\(i.cV=n+1)=False/\(i.cV=n+1+1)=False/\(i.cV=n+1+1+1)=False/\(i.cV=n+1+1+1+1)=False/\(i.cV=n+1+1+1+1+1)=False/\(i.cV=n+1+1+1+1+1+1)=False/\(i.cV=n+1+1+1+1+1+1+1)=False/\(i.cV=n+1+1+1+1+1+1+1+1)=False/\(i.cV=n+1+1+1+1+1+1+1+1+1)=False:=by
 refine⟨fun s=>?_,?_⟩
 ·obtain⟨a,b⟩:=i
  simp only[Id.mk.injEq,eq_iff_iff,iff_false,not_and]
  simp only at h
  refine⟨?_,?_,?_,?_,?_,?_,?_,?_,?_,?_,?_,?_,?_,?_,?_,?_,?_,?_,?_,?_⟩<;>(intros;omega)
 ·simp only[eq_iff_iff,iff_false]
  refine⟨?_,?_,?_,?_,?_,?_,?_,?_,?_,?_⟩<;>omega
def lD (a b:Nat) (ids:List Id):Prop:=ids.Nodup/\∀i∈ids,a<=i.cV/\i.cV<b
theorem lD.wide {a b a' b':Nat} {ids:List Id} (h:lD a b ids) (h1:a'<=a) (h2:b<=b'):lD a' b' ids:=⟨h.1,fun i hi=>⟨Nat.le_trans h1 (h.2 i hi).1,Nat.lt_of_lt_of_le (h.2 i hi).2 h2⟩⟩
end Go.Proofs.YtalkncaokeaifaaGreatDoor.V

namespace Go.Proofs.YtalkncaokeaifaaGreatDoor.V
open Go.RowKit
attribute [local irreducible] dH wpOps eB Call
attribute [local go_sem] ax eo dS ez ev cZ upd bD K.av bR AV.cells AV.cell rowOf rowsOf part ld rowAt eL bz bx cW dj eO bf cC dw er ea cR dq cw cu da db bp aI bZ bj ck cj dn dr dp bW br cz dm bh ar cq bH eM aT bL bq aH cU aQ cX AV.undef aW bd de di cY c6 bJ dv dy bE du dt cm cr List.getD_cons_zero List.getD_cons_succ List.getD_nil List.all_cons List.all_nil Bool.and_true Bool.true_and Bool.and_self Bool.not_true Bool.not_false Option.map_some Option.map_none Option.bind_some Option.bind_none List.length_cons List.length_nil List.take_succ_cons List.take_zero List.take_nil List.drop_succ_cons List.drop_zero List.drop_nil List.head?_cons List.map_cons List.map_nil List.getElem?_cons_zero List.getElem?_cons_succ List.cons_append List.nil_append List.append_nil List.length_map List.set_cons_zero List.set_cons_succ Nat.reduceMul eq_self Int.toNat_natCast Int.natCast_nonneg and_self true_and and_true decide_true decide_false Bool.false_eq_true Nat.zero_add Nat.add_zero List.contains_cons List.contains_nil Bool.or_false Bool.false_or beq_self_eq_true Nat.reduceBEq ne_eq not_true_eq_false not_false_eq_true Id.mk.injEq false_and and_false Nat.reduceLT Int.reduceLE Int.reduceLT Int.reduceToNat Int.reduceNeg Int.reduceAdd Nat.le_refl List.length_append beq_true beq_false Bool.not_eq_eq_eq_not or_false false_or dX ad ae aP aJ bt bI aD aS aA aL bU aZ
variable {P:Program}
theorem Sf {X:fW} {Q:Ex->Env->au->Prop} {N:Env->au->Prop} {c:VC} {env:Env} {σ:au} (I:Env->au->Prop) (h2:∀e s,I e s->N e s) (h1:∀N':Env->au->Prop,(∀e s,I e s->N' e s)->dH X c (cU N' Q) env σ):dH X c (cU N Q) env σ:=h1 N h2
def sO (f z:Nat) (a:Bool):Jg:=let s:=f*1000000
 ⟨19,2,(.seq (.jo false [q 4 (.gG (.k (.int .i64 0))) s]) (.seq (.seq (.jo false [q 6 (.gG (.t 0)) (s+1000),q 7 (.len (.t 6)) (s+1001),q 8 (.gG (.k (.int .i64 0))) (s+1002)]) (.block 0 (.loop (.seq (.jo false [q 9 (.bin .lss .i64 (.t 8) (.t 7)) (s+2000)]) (.seq (.cond (.t 9) .skip (.exit 0)) (.seq (.block 1 (.seq (.jo false [q 10 (.gG (.t 8)) (s+3000),q 5 (.gG (.t 10)) (s+3001)]) (.seq (.jo false [q 11 (.gG (.t 1)) (s+4000),q 12 (.gG (.t 0)) (s+4001),q 13 (.gG (.t 5)) (s+4002),q 14 (.lq z (.t 12) (.t 13)) (s+4003),q 15 (.load a z (.t 14)) (s+4004),q 16 (.tC (.t 11) [(.t 15)]) (s+4005)]) (.cond (.t 16) (.seq (.jo false [q 17 (.gG (.t 5)) (s+5000),q 4 (.gG (.t 17)) (s+5001)]) .ret) .skip)))) (.jo false [q 18 (.bin .add .i64 (.t 8) (.k (.int .i64 1))) (s+6000),q 8 (.gG (.t 18)) (s+6001)]))))))) (.seq (.jo false [q 4 (.gG (.k (.int .i64 (-1)))) (s+7000)]) .ret))),[(.tmp 4)]⟩
def AD (f g:Nat):Jg:=let s:=f*1000000
 ⟨9,2,(.seq (.jo false [q 4 (.gG (.k (.bool false))) s]) (.seq (.jo false [q 5 (.gG (.t 0)) (s+1000),q 6 (.gG (.t 1)) (s+1001),q 7 (.call g [(.t 5),(.t 6)]) (s+1002),q 8 (.bin .geq .i64 (.t 7) (.k (.int .i64 0))) (s+1003),q 4 (.gG (.t 8)) (s+1004)]) .ret)),[(.tmp 4)]⟩
def oA {α:Type} (p:α->Bool) (xs:List α):Int:=if xs.findIdx p<xs.length then(xs.findIdx p:Int)else -1
theorem JO {α:Type} (p:α->Bool) (xs:List α):decide (0<=oA p xs)=xs.any p:=by
 unfold oA
 by_cases h:xs.findIdx p<xs.length
 ·rw[if_pos h]
  have:xs.any p=true:=List.any_eq_true.2 (List.findIdx_lt_length.1 h)
  rw[this];simp
 ·rw[if_neg h]
  have:xs.any p=false:=by
   rw[Bool.eq_false_iff]
   intro hc
   exact h (List.findIdx_lt_length.2 (List.any_eq_true.1 hc))
  rw[this];rfl
theorem uC (a:AV) (l m:List AV):a::l++m=a::(l++m):=rfl
theorem z8 (l:List AV):[]++l=l:=rfl
structure S5 {α:Type} (e:α->List AV) (v:α->AV) (z:Nat) (a:Bool):Prop where
 len:∀x,(e x).length=z
 val:∀x,if a=true then v x=.agg (e x)else e x=[v x]
 fz:∀x g,ek g 6 [v x]=some [v x]
theorem tU {α:Type} {e:α->List AV} {v:α->AV} {z fk:Nat} {a:Bool} (hE:S5 e v z a) (hc:BN P fk=some (sO fk z a)) (xs:List α) (hlen:xs.length<=1048576) (f:Nat) (dG:List AV) (p:α->Bool)
  (hf:∀x∈xs,az P f (v x::dG) (.bool (p x))) (J7:∀g,ek g 6 dG=some dG):
  az P fk [.sl (xs.map e),.fn f dG] (.int .i64 (oA p xs)):=by
 refine az.body hc rfl fun hl n0=>?_
 try simp only[q]
 clear hl
 (try((repeat(revert hN;revert N;apply Pn.out));refine wk @Nat.zero_add ?_;(repeat(refine Pn.mk ?_;intro N hN))))
 refine dc (fun n env st=>∃k:Nat,n=(xs.length)-k/\k<=(xs.length)/\env 8=.int .i64 (k:Int)/\(∀j:Nat,j<k->∀h:j<xs.length,p xs[j]=false)) (xs.length) ⟨0,ab,ab,sl @Nat.zero_add,fun _ h=>absurd h (Nat.not_lt_zero _)⟩ ?_
 rintro n_a env_a st_a ⟨k,rfl,ale,a8,xQ⟩ eR
 have a0:=eR 0 (by kernel_rfl);have a1:=eR 1 (by kernel_rfl);have a7:=eR 7 (by kernel_rfl)
 simp only[go_sem, ↓reduceIte,Nat.reduceEqDiff,Nat.reduceAdd,Nat.reduceSub,Nat.reduceLeDiff,reduceCtorEq]at a0 a1 a7
 clear eR
 by_cases hk:(k:Int)<(xs.length:Int)
 ·have eF:∀{e:Env},(e 8=.int .i64 (IntKind.i64.wrap ((k:Int)+1)))->(∀h:k<xs.length,p xs[k]=false)->∃m0,m0<(xs.length)-k/\∃k:Nat,m0=(xs.length)-k/\k<=(xs.length)/\e 8=.int .i64 (k:Int)/\(∀j:Nat,j<k->∀h:j<xs.length,p xs[j]=false):=fun x1 x2=>⟨_,ab,k+1,rfl,ab,(by rw[x1,cE ab]),(all_succ xQ x2)⟩
  have jv:k<xs.length:=ab
  have hg:(xs.map e)[k]? =some (e xs[k]):=by simp[jv]
  have Cs:=hf _ (List.getElem_mem jv)
  have hz:=hE.len xs[k]
  have hv:=hE.val xs[k]
  have pZ:ek (dX st_a.get) 6 (v xs[k]::dG)=some (v xs[k]::dG):=by
   have h1:=hE.fz xs[k] (dX st_a.get)
   rw[ad,ae]at h1
   rw[ad,J7]
   revert h1
   cases V.fz (dX st_a.get) 6 (v xs[k])<;>simp
  have fin:∀hN:True,(p xs[k]=true->xs.findIdx p=k):=fun _ hp=>by
   rw[List.findIdx_eq jv];exact⟨hp,fun j hj=>xQ j hj ab⟩
  cases hp:p xs[k]
  ·have WD:=hp
   cases a
   ·rw[if_neg (by simp)]at hv
    have sM:z=1:=by rw[<-hz,hv];rfl
    subst sM
    rw[hv]at hg hz
    rw[hp]at Cs
    generalize v xs[k]=c at Cs pZ hg hz
    (try((repeat(revert hN;revert N;apply Pn.out));refine wk (tw @a8 (tw @a0 (tw @a1 (tw @a7 (tw @hk (tw @hg (tw @hz (tw @uC @z8)))))))) ?_;(repeat(refine Pn.mk ?_;intro N hN))))
    refine .inl ⟨_,az.x Cs pZ,?_⟩
    refine hN _ _ ?_
    clear hN N
    (try((repeat(revert hN;revert N;apply Pn.out));refine wk (tw @a8 (tw @a0 (tw @a1 @a7))) ?_;(repeat(refine Pn.mk ?_;intro N hN))))
    exact eF (sd (tw @a8 (tw @a0 (tw @a1 @a7)))) (fun _=>WD)
   ·rw[if_pos rfl]at hv
    have ht:(e xs[k]).take z=e xs[k]:=by rw[<-hz,List.take_length]
    rw[hv]at Cs pZ
    rw[hp]at Cs
    generalize e xs[k]=c at Cs pZ hg hz ht
    (try((repeat(revert hN;revert N;apply Pn.out));refine wk (tw @a8 (tw @a0 (tw @a1 (tw @a7 (tw @hk (tw @hg (tw @hz (tw @ht (tw @uC (tw @z8 @Nat.le_refl)))))))))) ?_;(repeat(refine Pn.mk ?_;intro N hN))))
    refine .inl ⟨_,az.x Cs pZ,?_⟩
    refine hN _ _ ?_
    clear hN N
    (try((repeat(revert hN;revert N;apply Pn.out));refine wk (tw @a8 (tw @a0 (tw @a1 @a7))) ?_;(repeat(refine Pn.mk ?_;intro N hN))))
    exact eF (sd (tw @a8 (tw @a0 (tw @a1 @a7)))) (fun _=>WD)
  ·have hi:=fin trivial hp
   cases a
   ·rw[if_neg (by simp)]at hv
    have sM:z=1:=by rw[<-hz,hv];rfl
    subst sM
    rw[hv]at hg hz
    rw[hp]at Cs
    generalize v xs[k]=c at Cs pZ hg hz
    (try((repeat(revert hN;revert N;apply Pn.out));refine wk (tw @a8 (tw @a0 (tw @a1 (tw @a7 (tw @hk (tw @hg (tw @hz (tw @uC @z8)))))))) ?_;(repeat(refine Pn.mk ?_;intro N hN))))
    refine .inl ⟨_,az.x Cs pZ,?_⟩
    refine hN _ _ ?_
    clear hN N
    (try((repeat(revert hN;revert N;apply Pn.out));refine wk (tw @a8 (tw @a0 (tw @a1 @a7))) ?_;(repeat(refine Pn.mk ?_;intro N hN))))
    exact e7 (b:=(k:Int)) (.inl rfl) (sd @Nat.zero_add) (by rw[oA,hi,if_pos jv])
   ·rw[if_pos rfl]at hv
    have ht:(e xs[k]).take z=e xs[k]:=by rw[<-hz,List.take_length]
    rw[hv]at Cs pZ
    rw[hp]at Cs
    generalize e xs[k]=c at Cs pZ hg hz ht
    (try((repeat(revert hN;revert N;apply Pn.out));refine wk (tw @a8 (tw @a0 (tw @a1 (tw @a7 (tw @hk (tw @hg (tw @hz (tw @ht (tw @uC (tw @z8 @Nat.le_refl)))))))))) ?_;(repeat(refine Pn.mk ?_;intro N hN))))
    refine .inl ⟨_,az.x Cs pZ,?_⟩
    refine hN _ _ ?_
    clear hN N
    (try((repeat(revert hN;revert N;apply Pn.out));refine wk (tw @a8 (tw @a0 (tw @a1 @a7))) ?_;(repeat(refine Pn.mk ?_;intro N hN))))
    exact e7 (b:=(k:Int)) (.inl rfl) (sd @Nat.zero_add) (by rw[oA,hi,if_pos jv])
 ·(try((repeat(revert hN;revert N;apply Pn.out));refine wk (tw @a8 (tw @a0 (tw @a1 (tw @a7 @hk)))) ?_;(repeat(refine Pn.mk ?_;intro N hN))))
  have hi:¬xs.findIdx p<xs.length:=by
   rw[List.findIdx_lt_length]
   rintro⟨x,hx,WG⟩
   obtain⟨j,hj,rfl⟩:=List.getElem_of_mem hx
   rw[xQ j ab hj]at WG;cases WG
  exact e7 (b:=-1) (.inl rfl) (sd @Nat.zero_add) (by rw[oA,if_neg hi])
theorem kq {α:Type} {e:α->List AV} {v:α->AV} {z fk gk:Nat} {a:Bool} (hE:S5 e v z a) (hc:BN P fk=some (AD fk gk)) (Ep:BN P gk=some (sO gk z a)) (xs:List α) (hlen:xs.length<=1048576) (f:Nat) (dG:List AV) (p:α->Bool) (ye:dG.all AV.cell=true) (Nv:∀g,ek g 5 dG=some dG)
  (hf:∀x∈xs,az P f (v x::dG) (.bool (p x))) (J7:∀g,ek g 6 dG=some dG):
  az P fk [.sl (xs.map e),.fn f dG] (.bool (xs.any p)):=by
 refine az.body hc rfl fun hl n0=>?_
 try simp only[q]
 clear hl
 have hi:=tU hE Ep xs hlen f dG p hf J7
 (repeat(first|((repeat(revert hN;revert N;apply Pn.out));refine wk (tw @ye @Nv) ?_;(repeat(refine Pn.mk ?_;intro N hN)))|((try apply Or.inl);refine⟨_,az.x (hi) (sd (tw @ye @Nv)),?_⟩;refine hN _ _ ?_;clear hN N)))
 exact dQ (b:=decide (0<=oA p xs)) (.inl rfl) (sd @Nat.zero_add) (JO p xs)
end Go.Proofs.YtalkncaokeaifaaGreatDoor.V

namespace Go.Proofs.YtalkncaokeaifaaGreatDoor.V
open Go.RowKit
def pw (P:Program) (mk:Bool):List Oper->Nat->List Nat
 |[],_=>[]
 |o::r,i=>match qC P o.op with
  |some v=>if qp v||mk&&v.lJ then i::pw P mk r (i+1)else pw P mk r (i+1)
  |none=>pw P mk r (i+1)
def vz (P:Program) (ops:Array Oper) (site0:Nat) (mk:Bool) (bs:Array Nat) (hidden:List Nat):List Oper->Nat->Option (List cJ)
 |[],_=>some []
 |o::r,j=>do
  let v <-qC P o.op
  let g <-DU ops o
  pure ({dst:=o.dst,op:=v,guard:=g,site:=site0+j,hid:=(hidden.filter fun i=> !(bs.getD j 0).testBit i&&(i !=j||mk&&v.lJ)).map fun i=>site0+i}::(<-vz P ops site0 mk bs hidden r (j+1)))
def oj (P:Program) (md:List (Nat×Nat)) (fid:Nat):Code->Option VC
 | .skip=>some .skip
 | .region id ops draw=>if draw&&sR md id==2 then(vz P ops ((fid*1000+id)*1000) false (jd ops) (pw P false ops.toList 0) ops.toList 0).bind fun vl=>ue ops vl (jd ops) ops.size (Array.replicate ops.size false)else if draw then(vz P ops ((fid*1000+id)*1000) (sR md id==1) (jd ops) (pw P (sR md id==1) ops.toList 0) ops.toList 0).map (VC.jo true)else(vz P ops ((fid*1000+id)*1000) false #[] [] ops.toList 0).map (if ops.toList.any fun o=>PI o.op then VC.Qs else VC.jo false)
 | .seq a b=>do pure (.seq (<-oj P md fid a) (<-oj P md fid b))
 | .cond c x y=>do pure (.cond (<-cO P c) (<-oj P md fid x) (<-oj P md fid y))
 | .block id c=>(oj P md fid c).map (VC.block id)
 | .loop c=>(oj P md fid c).map VC.loop
 | .exit id=>some (.exit id)
 | .ret=>some .ret
 | .label _=>some .skip
 | .scope c=>oj P md fid c
 |_=>none
def Th (P:Program) (md:List (Nat×Nat)) (f:Nat):Option Jg:=
 match P.funcs[f]? with
 |some fn=>match fn.body with
  |some c=>do
   let b <-oj P md f c
   let r <-fn.results.toList.mapM (DV P)
   pure {ntmps:=fn.ntmps,zz:=fn.params.size+fn.nfree,body:=b,res:=r}
  |none=>none
 |none=>none
theorem cfM {P:Program} (md:List (Nat×Nat)) {f:Nat} {v:Jg} (_:Th P md f=some v:=by(conv=>lhs;cbv)<;>exact rfl) (h:Ah P f md=some v:=by kernel_rfl):Ah P f md=some v:=h
theorem fC {P:Program} {f:Nat} {v:Jg} (_:Th P [] f=some v:=by(conv=>lhs;cbv)<;>exact rfl) (h:BN P f=some v:=by kernel_rfl):BN P f=some v:=h
def Zf:VC:=(.one (q 48 (.call 152 [(.t 47)]) 128010011) (.one (q 9 (.gG (.t 42)) 128010012) (.one (q 10 (.gG (.t 48)) 128010013) (.jo false []))))
def Zg:VC:=(.one (q 47 (.load false 1 (.t 46)) 128010010) Zf)
def Zh:VC:=(.one (q 46 (.lq 1 (.t 43) (.t 45)) 128010009) Zg)
def Sc:Jg:=⟨118,2,(.seq (.jo false [q 4 (.gG (.k .bP)) 128000000]) (.seq (.jo false [q 17 (.gG (.t 0)) 128001000,q 18 (.pz [.gQ] (.t 17) (.t 17)) 128001001,q 5 (.gG (.t 18)) 128001002]) (.seq (.seq (.jo false [q 19 (.gG (.t 5)) 128002000,q 20 (.len (.t 19)) 128002001,q 21 (.gG (.k (.int .i64 0))) 128002002]) (.block 0 (.loop (.seq (.jo false [q 22 (.bin .lss .i64 (.t 21) (.t 20)) 128003000]) (.seq (.cond (.t 22) .skip (.exit 0)) (.seq (.block 1 (.seq (.jo false [q 23 (.gG (.t 21)) 128004000,q 6 (.gG (.t 23)) 128004001]) (.jo false [q 24 (.gG (.t 5)) 128005000,q 25 (.gG (.t 6)) 128005001,q 26 (.gG (.t 6)) 128005002,q 27 (.build [.gQ,(.int .i64 0)] [(1,(1,(.t 26)))]) 128005003,q 28 (.box (.t 27)) 128005004,q 29 (.lq 1 (.t 24) (.t 25)) 128005005,⟨none,(.store 1 (.t 29) (.t 28)),none,128005006,[]⟩]))) (.jo false [q 30 (.bin .add .i64 (.t 21) (.k (.int .i64 1))) 128006000,q 21 (.gG (.t 30)) 128006001]))))))) (.seq (.seq (.jo false [q 31 (.gG (.t 1)) 128007000,q 32 (.len (.t 31)) 128007001,q 33 (.gG (.k (.int .i64 0))) 128007002]) (.block 2 (.loop (.seq (.jo false [q 34 (.bin .lss .i64 (.t 33) (.t 32)) 128008000]) (.seq (.cond (.t 34) .skip (.exit 2)) (.seq (.block 3 (.seq (.jo false [q 35 (.lq 3 (.t 31) (.t 33)) 128009000,q 36 (.load true 3 (.t 35)) 128009001,q 8 (.new [(.int .i64 0),(.int .i64 0),(.int .i64 0)]) 128009002,⟨none,(.store 3 (.t 8) (.t 36)),none,128009003,[]⟩]) (.seq (.one (q 37 (.gG (.t 5)) 128010000) (.one (q 38 (.lk 0 (.t 8)) 128010001) (.one (q 39 (.load false 1 (.t 38)) 128010002) (.one (q 40 (.lq 1 (.t 37) (.t 39)) 128010003) (.one (q 41 (.load false 1 (.t 40)) 128010004) (.one (q 43 (.gG (.t 5)) 128010006) (.one (q 44 (.lk 1 (.t 8)) 128010007) (.both (.one (q 42 (.call 152 [(.t 41)]) 128010005) (.one (q 45 (.load false 1 (.t 44)) 128010008) Zh)) (.one (q 45 (.load false 1 (.t 44)) 128010008) (.both (.one (q 42 (.call 152 [(.t 41)]) 128010005) Zh) (.one (q 46 (.lq 1 (.t 43) (.t 45)) 128010009) (.both (.one (q 42 (.call 152 [(.t 41)]) 128010005) Zg) (.one (q 47 (.load false 1 (.t 46)) 128010010) (.one (q 42 (.call 152 [(.t 41)]) 128010005) Zf)))))))))))))) (.block 4 (.seq (.jo true [q 50 (.gG (.t 9)) 128011000,q 51 (.IA (.t 50)) 128011001,q 52 (.lk 1 (.t 51)) 128011002,q 53 (.load false 1 (.t 52)) 128011003,q 54 (.gG (.t 10)) 128011004,q 55 (.IA (.t 54)) 128011005,q 56 (.lk 1 (.t 55)) 128011006,q 57 (.load false 1 (.t 56)) 128011007,q 58 (.bin .lss .i64 (.t 53) (.t 57)) 128011008,q 49 (.gG (.t 58)) 128011009]) (.cond (.t 49) (.jo false [q 59 (.gG (.t 10)) 128012000,q 60 (.gG (.t 9)) 128012001,q 61 (.IA (.t 59)) 128012002,q 62 (.lk 0 (.t 61)) 128012003,⟨none,(.store 1 (.t 62) (.t 60)),none,128012004,[]⟩]) (.seq (.jo true [q 64 (.gG (.t 10)) 128013000,q 65 (.IA (.t 64)) 128013001,q 66 (.lk 1 (.t 65)) 128013002,q 67 (.load false 1 (.t 66)) 128013003,q 68 (.gG (.t 9)) 128013004,q 69 (.IA (.t 68)) 128013005,q 70 (.lk 1 (.t 69)) 128013006,q 71 (.load false 1 (.t 70)) 128013007,q 72 (.bin .lss .i64 (.t 67) (.t 71)) 128013008,q 63 (.gG (.t 72)) 128013009]) (.cond (.t 63) (.jo false [q 73 (.gG (.t 9)) 128014000,q 74 (.gG (.t 10)) 128014001,q 75 (.IA (.t 73)) 128014002,q 76 (.lk 0 (.t 75)) 128014003,⟨none,(.store 1 (.t 76) (.t 74)),none,128014004,[]⟩]) .skip)))))))) (.jo false [q 77 (.bin .add .i64 (.t 33) (.k (.int .i64 1))) 128015000,q 33 (.gG (.t 77)) 128015001]))))))) (.seq (.jo false [q 11 (.gG (.k .bP)) 128016000]) (.seq (.jo false [⟨(some 78),(.mq (.new ⟨false,[.tI]⟩) []),none,128017000,[]⟩,q 12 (.gG (.t 78)) 128017001]) (.seq (.seq (.jo false [q 79 (.gG (.t 5)) 128018000,q 80 (.len (.t 79)) 128018001,q 81 (.gG (.k (.int .i64 0))) 128018002]) (.block 5 (.loop (.seq (.jo false [q 82 (.bin .lss .i64 (.t 81) (.t 80)) 128019000]) (.seq (.cond (.t 82) .skip (.exit 5)) (.seq (.block 6 (.seq (.jo false [q 83 (.gG (.t 81)) 128020000,q 84 (.lq 1 (.t 79) (.t 81)) 128020001,q 85 (.load false 1 (.t 84)) 128020002,q 13 (.gG (.t 83)) 128020003,q 14 (.gG (.t 85)) 128020004]) (.seq (.jo false [q 87 (.gG (.t 12)) 128021000,q 88 (.gG (.t 14)) 128021001,q 89 (.call 152 [(.t 88)]) 128021002,q 90 (.IA (.t 89)) 128021003,q 91 (.lk 1 (.t 90)) 128021004,q 92 (.load false 1 (.t 91)) 128021005,⟨(some 93),(.mq (.look ⟨false,[.tI]⟩ true (.int .i64 0)) [(.t 87),(.t 92)]),none,128021006,[]⟩,q 86 (.gG (.t 93)) 128021007,q 94 (.extract 0 (.t 86)) 128021008,q 95 (.extract 1 (.t 86)) 128021009,q 15 (.gG (.t 94)) 128021010,q 16 (.gG (.t 95)) 128021011]) (.seq (.seq (.jo false [q 96 (.gG (.t 16)) 128022000,q 97 (.not (.t 96)) 128022001]) (.cond (.t 97) (.seq (.jo false [q 98 (.gG (.t 11)) 128023000,q 99 (.len (.t 98)) 128023001,q 15 (.gG (.t 99)) 128023002]) (.seq (.jo false [q 100 (.gG (.t 12)) 128024000,q 101 (.gG (.t 13)) 128024001,q 102 (.gG (.t 15)) 128024002,⟨none,(.mw (.set ⟨false,[.tI]⟩) [(.t 100),(.t 101),(.t 102)]),none,128024003,[]⟩]) (.jo false [q 103 (.gG (.t 11)) 128025000,q 104 (.oh 1 1 [(.k .bP)]) 128025001,q 105 (.append 1 (.t 103) (.t 104)) 128025002,q 11 (.gG (.t 105)) 128025003]))) .skip)) (.jo false [q 106 (.gG (.t 11)) 128026000,q 107 (.gG (.t 15)) 128026001,q 108 (.gG (.t 11)) 128026002,q 109 (.gG (.t 15)) 128026003,q 110 (.lq 1 (.t 108) (.t 109)) 128026004,q 111 (.load false 1 (.t 110)) 128026005,q 112 (.gG (.t 13)) 128026006,q 113 (.oh 1 1 [(.t 112)]) 128026007,q 114 (.append 1 (.t 111) (.t 113)) 128026008,q 115 (.lq 1 (.t 106) (.t 107)) 128026009,⟨none,(.store 1 (.t 115) (.t 114)),none,128026010,[]⟩]))))) (.jo false [q 116 (.bin .add .i64 (.t 81) (.k (.int .i64 1))) 128027000,q 81 (.gG (.t 116)) 128027001]))))))) (.seq (.jo false [q 117 (.gG (.t 11)) 128028000,q 4 (.gG (.t 117)) 128028001]) .ret)))))))),[(.tmp 4)]⟩
theorem Qr:Ah Tryz.prog 128 [(10,2)]=some Sc:=by kernel_rfl
end Go.Proofs.YtalkncaokeaifaaGreatDoor.V

namespace Go.Proofs.YtalkncaokeaifaaGreatDoor.V
open Go.RowKit
attribute [local irreducible] dH wpOps eB Call
attribute [local go_sem] ax eo dS ez ev cZ upd bD K.av bR AV.cells AV.cell rowOf rowsOf part ld rowAt eL bz bx cW dj eO bf cC dw er ea cR dq cw cu da db bp aI bZ bj ck cj dn dr dp bW br cz dm bh ar cq bH eM aT bL bq aH cU aQ cX AV.undef aW bd de di cY c6 bJ dv dy bE du dt cm cr List.getD_cons_zero List.getD_cons_succ List.getD_nil List.all_cons List.all_nil Bool.and_true Bool.true_and Bool.and_self Bool.not_true Bool.not_false Option.map_some Option.map_none Option.bind_some Option.bind_none List.length_cons List.length_nil List.take_succ_cons List.take_zero List.take_nil List.drop_succ_cons List.drop_zero List.drop_nil List.head?_cons List.map_cons List.map_nil List.getElem?_cons_zero List.getElem?_cons_succ List.cons_append List.nil_append List.append_nil List.length_map List.set_cons_zero List.set_cons_succ Nat.reduceMul eq_self Int.toNat_natCast Int.natCast_nonneg and_self true_and and_true decide_true decide_false Bool.false_eq_true Nat.zero_add Nat.add_zero List.contains_cons List.contains_nil Bool.or_false Bool.false_or beq_self_eq_true Nat.reduceBEq ne_eq not_true_eq_false not_false_eq_true Id.mk.injEq false_and and_false Nat.reduceLT Int.reduceLE Int.reduceLT Int.reduceToNat Int.reduceNeg Int.reduceAdd Nat.le_refl List.length_append beq_true beq_false Bool.not_eq_eq_eq_not or_false false_or dX ad ae aP aJ bt bI aD aS aA aL bU aZ
def ir (n lo hi:Int):Bool:=decide (lo<=n)&&decide (n<=hi)
theorem dZ {n lo hi:Int} (h:ir n lo hi=true):lo<=n/\n<=hi:=by simpa[ir]using h
theorem jE {n lo hi:Int} (h:lo<=n/\n<=hi):ir n lo hi=true:=by simpa[ir]using h
def zF (p:af):Bool:=ir p.fu (-60) 60&&ir p.eW (-60) 60
theorem NZ (n lo hi:Int):az Tryz.prog 62 [.int .i64 n,.int .i64 lo,.int .i64 hi] (.bool (ir n lo hi)):=by
 refine az.body fC rfl fun hl n0=>?_
 clear hl
 by_cases h1:lo<=n
 ·(try((repeat(revert hN;revert N;apply Pn.out));refine wk @h1 ?_;(repeat(refine Pn.mk ?_;intro N hN))))
  exact dQ (b:=decide (n<=hi)) (.inl rfl) (sd @Nat.zero_add) (by simp[ir,h1])
 ·(try((repeat(revert hN;revert N;apply Pn.out));refine wk @h1 ?_;(repeat(refine Pn.mk ?_;intro N hN))))
  exact dQ (b:=false) (.inl rfl) (sd @Nat.zero_add) (by simp[ir,h1])
theorem fR (n lo hi:Int):az Tryz.prog 30 [.int .i64 n,.int .i64 lo,.int .i64 hi] (.bool (ir n lo hi)):=by
 refine az.body fC rfl fun hl n0=>?_
 clear hl
 by_cases h1:lo<=n
 ·(try((repeat(revert hN;revert N;apply Pn.out));refine wk @h1 ?_;(repeat(refine Pn.mk ?_;intro N hN))))
  exact dQ (b:=decide (n<=hi)) (.inl rfl) (sd @Nat.zero_add) (by simp[ir,h1])
 ·(try((repeat(revert hN;revert N;apply Pn.out));refine wk @h1 ?_;(repeat(refine Pn.mk ?_;intro N hN))))
  exact dQ (b:=false) (.inl rfl) (sd @Nat.zero_add) (by simp[ir,h1])
theorem qL (p:af):az Tryz.prog 118 [.agg (ao p)] (.bool (zF p)):=by
 refine az.body fC rfl fun hl n0=>?_
 clear hl
 have h1:=fR p.fu (-60) 60
 have h2:=fR p.eW (-60) 60
 by_cases q:ir p.fu (-60) 60=true
 ·rw[q]at h1
  (repeat(first|((repeat(revert hN;revert N;apply Pn.out));refine wk @ao.eq_1 ?_;(repeat(refine Pn.mk ?_;intro N hN)))|((try apply Or.inl);refine⟨_,az.x (h1) (sd @ao.eq_1),?_⟩;refine hN _ _ ?_;clear hN N)|((try apply Or.inl);refine⟨_,az.x (h2) (sd @ao.eq_1),?_⟩;refine hN _ _ ?_;clear hN N)))
  exact dQ (b:=ir p.eW (-60) 60) (.inl rfl) (sd @Nat.zero_add) (by rw[zF,q];rfl)
 ·rw[Bool.not_eq_true]at q
  rw[q]at h1
  (repeat(first|((repeat(revert hN;revert N;apply Pn.out));refine wk @ao.eq_1 ?_;(repeat(refine Pn.mk ?_;intro N hN)))|((try apply Or.inl);refine⟨_,az.x (h1) (sd @ao.eq_1),?_⟩;refine hN _ _ ?_;clear hN N)|((try apply Or.inl);refine⟨_,az.x (h2) (sd @ao.eq_1),?_⟩;refine hN _ _ ?_;clear hN N)))
  exact dQ (b:=false) (.inl rfl) (sd @Nat.zero_add) (by rw[zF,q];rfl)
def jT (d:Int):Int:=if ir d 0 3 then(d+2) % 4 else -1
def cN (p:af) (d:Int):af:=
 if d=0 then⟨p.fu,p.eW+1⟩else if d=1 then⟨p.fu+1,p.eW⟩else if d=2 then⟨p.fu,p.eW-1⟩else if d=3 then⟨p.fu-1,p.eW⟩else p
def iB (n:Int):Prop:=-4611686018427387904<=n/\n<=4611686018427387904
theorem A3 (p p2:af) (x y:Int) (hx:IntKind.i64.wrap (p.fu+p2.fu)=x) (hy:IntKind.i64.wrap (p.eW+p2.eW)=y):az Tryz.prog 136 [.agg (ao p),.agg (ao p2)] (.agg [.int .i64 x,.int .i64 y]):=by
 refine az.body fC rfl fun hl n0=>?_
 clear hl
 (try((repeat(revert hN;revert N;apply Pn.out));refine wk (tw @ao.eq_1 (tw @hx @hy)) ?_;(repeat(refine Pn.mk ?_;intro N hN))))
 exact oY (.inl rfl) (vs:=[.agg [.int .i64 x,.int .i64 y]]) (by simp only[go_sem, ↓reduceIte,Nat.reduceEqDiff,Nat.reduceAdd,Nat.reduceSub,Nat.reduceLeDiff,reduceCtorEq,gY,kX,ao]) (by simp[gp,gx,eU])
theorem Fo (p:af) (d:Int) (hd:ir d 0 3=true) (hx:iB p.fu) (hy:iB p.eW):az Tryz.prog 105 [.agg (ao p),.int .i64 d] (.agg (ao (cN p d))):=by
 refine az.body fC rfl fun hl n0=>?_
 clear hl
 obtain⟨x1,x2⟩:=hx
 obtain⟨y1,y2⟩:=hy
 have hb:=dZ hd
 have hc:d=0∨d=1∨d=2∨d=3:=ab
 rcases hc with rfl|rfl|rfl|rfl
 ·have h:=A3 p ⟨0,1⟩ (p.fu) (p.eW+1) (by rw[cH (by constructor<;>simp only<;>omega)]<;>(try simp only)<;>(try omega)) (by rw[cH (by constructor<;>simp only<;>omega)]<;>(try simp only)<;>(try omega))
  simp only[ao]at h
  (repeat(first|((repeat(revert hN;revert N;apply Pn.out));refine wk @ao.eq_1 ?_;(repeat(refine Pn.mk ?_;intro N hN)))|((try apply Or.inl);refine⟨_,az.x (h) (sd @ao.eq_1),?_⟩;refine hN _ _ ?_;clear hN N)))
  exact oY (.inl rfl) (vs:=[.agg (ao (cN p 0))]) (by simp[gY,kX,ao,cN,ld,rowAt,bz,upd,part]) (by simp[gp,ao,gx,eU])
 ·have h:=A3 p ⟨1,0⟩ (p.fu+1) (p.eW) (by rw[cH (by constructor<;>simp only<;>omega)]<;>(try simp only)<;>(try omega)) (by rw[cH (by constructor<;>simp only<;>omega)]<;>(try simp only)<;>(try omega))
  simp only[ao]at h
  (repeat(first|((repeat(revert hN;revert N;apply Pn.out));refine wk @ao.eq_1 ?_;(repeat(refine Pn.mk ?_;intro N hN)))|((try apply Or.inl);refine⟨_,az.x (h) (sd @ao.eq_1),?_⟩;refine hN _ _ ?_;clear hN N)))
  exact oY (.inl rfl) (vs:=[.agg (ao (cN p 1))]) (by simp[gY,kX,ao,cN,ld,rowAt,bz,upd,part]) (by simp[gp,ao,gx,eU])
 ·have h:=A3 p ⟨0,(-1)⟩ (p.fu) (p.eW-1) (by rw[cH (by constructor<;>simp only<;>omega)]<;>(try simp only)<;>(try omega)) (by rw[cH (by constructor<;>simp only<;>omega)]<;>(try simp only)<;>(try omega))
  simp only[ao]at h
  (repeat(first|((repeat(revert hN;revert N;apply Pn.out));refine wk @ao.eq_1 ?_;(repeat(refine Pn.mk ?_;intro N hN)))|((try apply Or.inl);refine⟨_,az.x (h) (sd @ao.eq_1),?_⟩;refine hN _ _ ?_;clear hN N)))
  exact oY (.inl rfl) (vs:=[.agg (ao (cN p 2))]) (by simp[gY,kX,ao,cN,ld,rowAt,bz,upd,part]) (by simp[gp,ao,gx,eU])
 ·have h:=A3 p ⟨(-1),0⟩ (p.fu-1) (p.eW) (by rw[cH (by constructor<;>simp only<;>omega)]<;>(try simp only)<;>(try omega)) (by rw[cH (by constructor<;>simp only<;>omega)]<;>(try simp only)<;>(try omega))
  simp only[ao]at h
  (repeat(first|((repeat(revert hN;revert N;apply Pn.out));refine wk @ao.eq_1 ?_;(repeat(refine Pn.mk ?_;intro N hN)))|((try apply Or.inl);refine⟨_,az.x (h) (sd @ao.eq_1),?_⟩;refine hN _ _ ?_;clear hN N)))
  exact oY (.inl rfl) (vs:=[.agg (ao (cN p 3))]) (by simp[gY,kX,ao,cN,ld,rowAt,bz,upd,part]) (by simp[gp,ao,gx,eU])
theorem EV (d:Int) (hd:ir d 0 3=true):az Tryz.prog 156 [.int .i64 d] (.int .i64 (jT d)):=by
 refine az.body fC rfl fun hl n0=>?_
 clear hl
 have hb:=dZ hd
 have hw:IntKind.i64.wrap (d+2)=d+2:=cH ab
 have ht:Int.tmod (d+2) 4=(d+2) % 4:=Int.tmod_eq_emod_of_nonneg ab
 have h4:¬((4:Int)=0):=ab
 (try((repeat(revert hN;revert N;apply Pn.out));refine wk (tw @hw (tw @ht @h4)) ?_;(repeat(refine Pn.mk ?_;intro N hN))))
 exact e7 (b:=(d+2) % 4) (.inl rfl) (sd @Nat.zero_add) (by rw[jT,if_pos hd])
def eA (s:aO) (t:Int):Bool:=ir t 0 ((s.ay.length:Int)-1)
theorem zf (t n:Int) (h0:0<=n) (h1:n<=9223372036854775807):az Tryz.prog 119 [.int .i64 t,.int .i64 n] (.bool (ir t 0 (n-1))):=by
 refine az.body fC rfl fun hl n0=>?_
 clear hl
 have hw:IntKind.i64.wrap (n-1)=n-1:=cH ab
 have h:=fR t 0 (n-1)
 (repeat(first|((repeat(revert hN;revert N;apply Pn.out));refine wk @hw ?_;(repeat(refine Pn.mk ?_;intro N hN)))|((try apply Or.inl);refine⟨_,az.x (h) (sd @hw),?_⟩;refine hN _ _ ?_;clear hN N)))
 exact dQ (b:=ir t 0 (n-1)) (.inl rfl) (sd @Nat.zero_add) rfl
theorem KD (s:aO) (t:Int):az Tryz.prog 96 [.agg (aj s),.int .i64 t] (.bool (eA s t)):=by
 refine az.body fC rfl fun hl n0=>?_
 have hn:s.ay.length<=9223372036854775807:=by
  have h1:=(hl (.agg (aj s)) (by simp)).MN (a:=.sl (s.ay.map eS)) (by simp[aj])
  simpa using h1.len
 clear hl
 have h:=zf t s.ay.length ab ab
 (repeat(first|((repeat(revert hN;revert N;apply Pn.out));refine wk @aj.eq_1 ?_;(repeat(refine Pn.mk ?_;intro N hN)))|((try apply Or.inl);refine⟨_,az.x (h) (sd @aj.eq_1),?_⟩;refine hN _ _ ?_;clear hN N)))
 exact dQ (b:=eA s t) (.inl rfl) (by simp only[go_sem, ↓reduceIte,Nat.reduceEqDiff,Nat.reduceAdd,Nat.reduceSub,Nat.reduceLeDiff,reduceCtorEq,eA]) rfl
def wU:fj:=⟨⟨#[]⟩,[]⟩
def cG (s:aO) (t:Int):fj:=s.ay.getD t.toNat wU
def cL (t:fj) (d:Int):Int:=t.eD.getD d.toNat 0
def jl (s:aO) (g:Int):gj:=s.dx.getD g.toNat ⟨⟨#[]⟩,0⟩
def kg (s:aO) (g:Int):Int:=if g=0 then 0 else(jl s (g-1)).gK
def fX (s:aO) (a d b:Int):Int:=if cL (cG s a) d=cL (cG s b) (jT d)then kg s (cL (cG s a) d)else 0
structure lS (s:aO):Prop where
 xz:∀t∈s.ay,t.eD.length=4
 tK:∀t∈s.ay,∀g∈t.eD,0<=g/\g<=s.dx.length
theorem getD_map {α β:Type} (e:α->β) {l:List α} {k:Nat} {d:α} (h:k<l.length):(l.map e)[k]? =some (e (l.getD k d)):=by simp[List.getD_eq_getElem?_getD,h]
theorem r9 {s:aO} {a:Int} (h:eA s a=true):0<=a/\(s.ay.map eS)[a.toNat]? =some (eS (cG s a))/\cG s a∈s.ay:=by
 have h':=dZ h
 have eJ:a.toNat<s.ay.length:=ab
 refine⟨h'.1,getD_map eS eJ,?_⟩
 unfold cG
 rw[List.getD_eq_getElem?_getD,List.getElem?_eq_getElem eJ]
 exact List.getElem_mem eJ
theorem r4 {t:fj} {d:Int} (h:t.eD.length=4) (hd:ir d 0 3=true):(t.eD.map ah)[d.toNat]? =some [.int .i64 (cL t d)]:=by
 have:=dZ hd
 exact getD_map ah ab
theorem Da {t:fj} {d:Int} (h:t.eD.length=4) (hd:ir d 0 3=true):cL t d∈t.eD:=by
 have:=dZ hd
 have eJ:d.toNat<t.eD.length:=ab
 unfold cL
 rw[List.getD_eq_getElem?_getD,List.getElem?_eq_getElem eJ]
 exact List.getElem_mem eJ
theorem K4 {d:Int} (hd:ir d 0 3=true):ir (jT d) 0 3=true:=by
 have:=dZ hd
 refine jE ?_
 rw[jT,if_pos hd];omega
theorem Fq (s:aO) (hF:lS s) (a d:Int) (ha:eA s a=true) (hd:ir d 0 3=true):az Tryz.prog 157 [.agg (aj s),.int .i64 a,.int .i64 d] (.int .i64 (kg s (cL (cG s a) d))):=by
 refine az.body fC rfl fun hl n0=>?_
 have hn:s.dx.length<=9223372036854775807:=by
  have h1:=(hl (.agg (aj s)) (by simp)).MN (a:=.sl (s.dx.map eP)) (by simp[aj])
  simpa using h1.len
 clear hl
 obtain⟨a0,a1,a2⟩:=r9 ha
 have s1:=r4 (hF.xz _ a2) hd
 have gl:=hF.tK _ a2 _ (Da (hF.xz _ a2) hd)
 have d0:=(dZ hd).1
 by_cases hg:cL (cG s a) d=0
 ·have e:¬(0<cL (cG s a) d):=ab
  (try((repeat(revert hN;revert N;apply Pn.out));refine wk (tw @aj.eq_1 (tw @eS.eq_1 (tw @a0 (tw @a1 (tw @s1 (tw @d0 @e)))))) ?_;(repeat(refine Pn.mk ?_;intro N hN))))
  exact e7 (b:=0) (.inl rfl) (sd @Nat.zero_add) (by rw[kg,if_pos hg])
 ·have e:0<cL (cG s a) d:=ab
  have hw:IntKind.i64.wrap (cL (cG s a) d-1)=cL (cG s a) d-1:=cH ab
  have tN:0<=cL (cG s a) d-1:=ab
  have iK:(s.dx.map eP)[(cL (cG s a) d-1).toNat]? =some (eP (jl s (cL (cG s a) d-1))):=getD_map eP ab
  (try((repeat(revert hN;revert N;apply Pn.out));refine wk (tw @aj.eq_1 (tw @eS.eq_1 (tw @a0 (tw @a1 (tw @s1 (tw @d0 (tw @e (tw @hw (tw @tN (tw @iK @eP.eq_1)))))))))) ?_;(repeat(refine Pn.mk ?_;intro N hN))))
  exact e7 (b:=(jl s (cL (cG s a) d-1)).gK) (.inl rfl) (sd @Nat.zero_add) (by rw[kg,if_neg hg])
theorem Jy (s:aO) (hF:lS s) (a d b:Int) (ha:eA s a=true) (hb:eA s b=true) (hd:ir d 0 3=true):az Tryz.prog 133 [.agg (aj s),.int .i64 a,.int .i64 d,.int .i64 b] (.int .i64 (fX s a d b)):=by
 refine az.body fC rfl fun hl n0=>?_
 clear hl
 obtain⟨a0,a1,a2⟩:=r9 ha
 obtain⟨b0,b1,b2⟩:=r9 hb
 have s1:=r4 (hF.xz _ a2) hd
 have s2:=r4 (hF.xz _ b2) (K4 hd)
 have d0:=(dZ hd).1
 have d1:=(dZ (K4 hd)).1
 have h:=EV d hd
 have hs:=Fq s hF a d ha hd
 rw[aj]at hs
 by_cases e:cL (cG s a) d=cL (cG s b) (jT d)
 ·have e':decide (cL (cG s a) d=cL (cG s b) (jT d))=true:=decide_eq_true e
  (repeat(first|((repeat(revert hN;revert N;apply Pn.out));refine wk (tw @aj.eq_1 (tw @eS.eq_1 (tw @a0 (tw @a1 (tw @b0 (tw @b1 (tw @s1 (tw @s2 (tw @d0 (tw @d1 @e')))))))))) ?_;(repeat(refine Pn.mk ?_;intro N hN)))|((try apply Or.inl);refine⟨_,az.x (h) (sd (tw @aj.eq_1 (tw @eS.eq_1 (tw @a0 (tw @a1 (tw @b0 (tw @b1 (tw @s1 (tw @s2 (tw @d0 (tw @d1 @e'))))))))))),?_⟩;refine hN _ _ ?_;clear hN N)|((try apply Or.inl);refine⟨_,az.x (hs) (sd (tw @aj.eq_1 (tw @eS.eq_1 (tw @a0 (tw @a1 (tw @b0 (tw @b1 (tw @s1 (tw @s2 (tw @d0 (tw @d1 @e'))))))))))),?_⟩;refine hN _ _ ?_;clear hN N)))
  exact e7 (b:=kg s (cL (cG s a) d)) (.inl rfl) (sd @Nat.zero_add) (by rw[fX,if_pos e])
 ·have e':decide (cL (cG s a) d=cL (cG s b) (jT d))=false:=decide_eq_false e
  (repeat(first|((repeat(revert hN;revert N;apply Pn.out));refine wk (tw @aj.eq_1 (tw @eS.eq_1 (tw @a0 (tw @a1 (tw @b0 (tw @b1 (tw @s1 (tw @s2 (tw @d0 (tw @d1 @e')))))))))) ?_;(repeat(refine Pn.mk ?_;intro N hN)))|((try apply Or.inl);refine⟨_,az.x (h) (sd (tw @aj.eq_1 (tw @eS.eq_1 (tw @a0 (tw @a1 (tw @b0 (tw @b1 (tw @s1 (tw @s2 (tw @d0 (tw @d1 @e'))))))))))),?_⟩;refine hN _ _ ?_;clear hN N)))
  exact e7 (b:=0) (.inl rfl) (sd @Nat.zero_add) (by rw[fX,if_neg e])
end Go.Proofs.YtalkncaokeaifaaGreatDoor.V

namespace Go.Proofs.YtalkncaokeaifaaGreatDoor
open Go.RowKit
def l7 (n:Int):Bool:=(decide (97<=n)&&decide (n<=122))||(decide (65<=n)&&decide (n<=90))
def l5 (n:Int):Bool:=decide (48<=n)&&decide (n<=57)
def yN (i:Nat) (n:Int):Prop:=l7 n=true∨(0<i/\(l5 n=true∨n=95))
def uZ (s:ByteArray):Prop:=(1<=s.size/\s.size<=12)/\∀i (h:i<s.size),yN i s[i].toNat
open Classical in
noncomputable def kF (s:ByteArray):Bool:=decide (uZ s)
theorem fw {s:ByteArray} (h:¬uZ s):false=kF s:=by simp[kF,h]
theorem CO {s:ByteArray} {b:Bool} (hb:b=true) (h:uZ s):b=kF s:=by simp[kF,h,hb]
theorem rK {s:ByteArray} {b:Bool} (hb:b=false) (h:¬uZ s):b=kF s:=by simp[kF,h,hb]
theorem sU {s:ByteArray}:kF s=true↔uZ s:=by simp[kF]
theorem Cy (w:World) (s:ByteArray) (hs:s.size<=9223372036854775807):Calls Tryz.prog 116 #[.string s] w fun e w'=>e=.returned (.bool (kF s))/\w=w':=by
 go_enter Tryz.func116,Tryz.ntmps116
 go_wp2_with fail
 go_loop [8] (fun i=>∃k:Nat,k<=s.size/\i=.int .i64 k/\Hid (∀j (h:j<s.size),j<k->yN j s[j].toNat)) (fun i=>s.size-(intOf i).toNat)
 case atStart=>exact⟨0,by omega,rfl,Lib.hid fun j h hj=>by omega⟩
 case round=>
  obtain⟨k,hk,rfl,eI⟩:=hrel
  by_cases eJ:k<s.size
  ·have hc:(s[k].toNat:Int)<48∨(48<=(s[k].toNat:Int)/\(s[k].toNat:Int)<=57)∨(58<=(s[k].toNat:Int)/\(s[k].toNat:Int)<=64)∨(65<=(s[k].toNat:Int)/\(s[k].toNat:Int)<=90)∨(91<=(s[k].toNat:Int)/\(s[k].toNat:Int)<=94)∨(95<=(s[k].toNat:Int)/\(s[k].toNat:Int)<=95)∨(96<=(s[k].toNat:Int)/\(s[k].toNat:Int)<=96)∨(97<=(s[k].toNat:Int)/\(s[k].toNat:Int)<=122)∨123<=(s[k].toNat:Int):=by omega
   by_cases oJ:k=0
   ·subst oJ
    rcases hc with h|⟨h,h'⟩|⟨h,h'⟩|⟨h,h'⟩|⟨h,h'⟩|⟨h,h'⟩|⟨h,h'⟩|⟨h,h'⟩|h
    ·have Ci:((s[0].toNat:Int) !=95)=true:=by simp;try omega
     go_wp2_with fail
     all_goals first
      |(go_ret;exact⟨kQ (fw fun hh=>by have:=hh.2 0 eJ;simp[yN,l7,l5]at this;omega),rfl⟩)
      |(exfalso;simp_all;done)
      |(exfalso;simp_all;omega)
    ·have Ci:((s[0].toNat:Int) !=95)=true:=by simp;try omega
     go_wp2_with fail
     all_goals first
      |(go_ret;exact⟨kQ (fw fun hh=>by have:=hh.2 0 eJ;simp[yN,l7,l5]at this;omega),rfl⟩)
      |(exfalso;simp_all;done)
      |(exfalso;simp_all;omega)
    ·have Ci:((s[0].toNat:Int) !=95)=true:=by simp;try omega
     go_wp2_with fail
     all_goals first
      |(go_ret;exact⟨kQ (fw fun hh=>by have:=hh.2 0 eJ;simp[yN,l7,l5]at this;omega),rfl⟩)
      |(exfalso;simp_all;done)
      |(exfalso;simp_all;omega)
    ·have Ci:((s[0].toNat:Int) !=95)=true:=by simp;try omega
     go_wp2_with fail
     go_round
     case rel=>exact⟨0+1,by omega,by go_num,Lib.hid fun j hj F5=>by
      by_cases Kf:j=0
      ·subst Kf;simp[yN,l7,l5];omega
      ·exact eI.out j hj (by omega)⟩
     case measure=>simp[intOf];try omega
    ·have Ci:((s[0].toNat:Int) !=95)=true:=by simp;try omega
     go_wp2_with fail
     all_goals first
      |(go_ret;exact⟨kQ (fw fun hh=>by have:=hh.2 0 eJ;simp[yN,l7,l5]at this;omega),rfl⟩)
      |(exfalso;simp_all;done)
      |(exfalso;simp_all;omega)
    ·have Ci:((s[0].toNat:Int) !=95)=false:=by simp;try omega
     go_wp2_with fail
     all_goals first
      |(go_ret;exact⟨kQ (fw fun hh=>by have:=hh.2 0 eJ;simp[yN,l7,l5]at this;omega),rfl⟩)
      |(exfalso;simp_all;done)
      |(exfalso;simp_all;omega)
    ·have Ci:((s[0].toNat:Int) !=95)=true:=by simp;try omega
     go_wp2_with fail
     all_goals first
      |(go_ret;exact⟨kQ (fw fun hh=>by have:=hh.2 0 eJ;simp[yN,l7,l5]at this;omega),rfl⟩)
      |(exfalso;simp_all;done)
      |(exfalso;simp_all;omega)
    ·have Ci:((s[0].toNat:Int) !=95)=true:=by simp;try omega
     go_wp2_with fail
     go_round
     case rel=>exact⟨0+1,by omega,by go_num,Lib.hid fun j hj F5=>by
      by_cases Kf:j=0
      ·subst Kf;simp[yN,l7,l5];omega
      ·exact eI.out j hj (by omega)⟩
     case measure=>simp[intOf];try omega
    ·have Ci:((s[0].toNat:Int) !=95)=true:=by simp;try omega
     go_wp2_with fail
     all_goals first
      |(go_ret;exact⟨kQ (fw fun hh=>by have:=hh.2 0 eJ;simp[yN,l7,l5]at this;omega),rfl⟩)
      |(exfalso;simp_all;done)
      |(exfalso;simp_all;omega)
   ·have hz:((k:Int)==0)=false:=by simpa using oJ
    have sK:1<=k:=by omega
    clear oJ
    rcases hc with h|⟨h,h'⟩|⟨h,h'⟩|⟨h,h'⟩|⟨h,h'⟩|⟨h,h'⟩|⟨h,h'⟩|⟨h,h'⟩|h
    ·have Ci:((s[k].toNat:Int) !=95)=true:=by simp;try omega
     go_wp2_with fail
     all_goals first
      |(go_ret;exact⟨kQ (fw fun hh=>by have:=hh.2 k eJ;simp[yN,l7,l5]at this;omega),rfl⟩)
      |(exfalso;simp_all;done)
      |(exfalso;simp_all;omega)
    ·have Ci:((s[k].toNat:Int) !=95)=true:=by simp;try omega
     go_wp2_with fail
     go_round
     case rel=>exact⟨k+1,by omega,by go_num,Lib.hid fun j hj F5=>by
      by_cases Kf:j=k
      ·subst Kf;simp[yN,l7,l5];omega
      ·exact eI.out j hj (by omega)⟩
     case measure=>simp[intOf];try omega
    ·have Ci:((s[k].toNat:Int) !=95)=true:=by simp;try omega
     go_wp2_with fail
     all_goals first
      |(go_ret;exact⟨kQ (fw fun hh=>by have:=hh.2 k eJ;simp[yN,l7,l5]at this;omega),rfl⟩)
      |(exfalso;simp_all;done)
      |(exfalso;simp_all;omega)
    ·have Ci:((s[k].toNat:Int) !=95)=true:=by simp;try omega
     go_wp2_with fail
     go_round
     case rel=>exact⟨k+1,by omega,by go_num,Lib.hid fun j hj F5=>by
      by_cases Kf:j=k
      ·subst Kf;simp[yN,l7,l5];omega
      ·exact eI.out j hj (by omega)⟩
     case measure=>simp[intOf];try omega
    ·have Ci:((s[k].toNat:Int) !=95)=true:=by simp;try omega
     go_wp2_with fail
     all_goals first
      |(go_ret;exact⟨kQ (fw fun hh=>by have:=hh.2 k eJ;simp[yN,l7,l5]at this;omega),rfl⟩)
      |(exfalso;simp_all;done)
      |(exfalso;simp_all;omega)
    ·have Ci:((s[k].toNat:Int) !=95)=false:=by simp;try omega
     go_wp2_with fail
     go_round
     case rel=>exact⟨k+1,by omega,by go_num,Lib.hid fun j hj F5=>by
      by_cases Kf:j=k
      ·subst Kf;simp[yN,l7,l5];omega
      ·exact eI.out j hj (by omega)⟩
     case measure=>simp[intOf];try omega
    ·have Ci:((s[k].toNat:Int) !=95)=true:=by simp;try omega
     go_wp2_with fail
     all_goals first
      |(go_ret;exact⟨kQ (fw fun hh=>by have:=hh.2 k eJ;simp[yN,l7,l5]at this;omega),rfl⟩)
      |(exfalso;simp_all;done)
      |(exfalso;simp_all;omega)
    ·have Ci:((s[k].toNat:Int) !=95)=true:=by simp;try omega
     go_wp2_with fail
     go_round
     case rel=>exact⟨k+1,by omega,by go_num,Lib.hid fun j hj F5=>by
      by_cases Kf:j=k
      ·subst Kf;simp[yN,l7,l5];omega
      ·exact eI.out j hj (by omega)⟩
     case measure=>simp[intOf];try omega
    ·have Ci:((s[k].toNat:Int) !=95)=true:=by simp;try omega
     go_wp2_with fail
     all_goals first
      |(go_ret;exact⟨kQ (fw fun hh=>by have:=hh.2 k eJ;simp[yN,l7,l5]at this;omega),rfl⟩)
      |(exfalso;simp_all;done)
      |(exfalso;simp_all;omega)
  ·by_cases h1:1<=s.size
   ·by_cases h2:s.size<=12
    ·go_wp2_with fail
     go_ret
     exact⟨kQ (CO (by simp<;>omega) ⟨⟨h1,h2⟩,fun i h=>eI.out i h (by omega)⟩),rfl⟩
    ·go_wp2_with fail
     go_ret
     exact⟨kQ (rK (by simp<;>omega) fun h=>h2 h.1.2),rfl⟩
   ·go_wp2_with fail
    go_ret
    exact⟨kQ (rK (by simp<;>omega) fun h=>h1 h.1.1),rfl⟩
end Go.Proofs.YtalkncaokeaifaaGreatDoor

namespace Go.Proofs.YtalkncaokeaifaaGreatDoor.V
open Go.RowKit
theorem mixed:Tryz.prog.follows .mixedOrders=true:=by kernel_rfl
variable {P:Program} {w:World} {D:Nat->Prop} {ι:Names}
theorem p4 {f:Nat} {args:List AV} {r:AV} {vs0:Array Value} {u0:Value} (nw:∀(w:World) (D:Nat->Prop) (ι:Names) vs,fE P w D ι args vs->vs=vs0) (hr:∀(w:World) (D:Nat->Prop) (ι:Names),dE P w D ι r u0) (Nv:∀g,gx g 6 r=some r)
  (h:∀w,Calls P f vs0 w fun e w'=>e=.returned u0/\Below w.heap.size w w'):az P f args r:=by
 intro n
 refine fh fun hs D ι w vs S U A=>?_
 have:=nw w D ι vs A
 subst this
 refine(h w).mono ?_
 rintro e w' ⟨rfl,hb⟩
 exact⟨r,_,n,D,ι,u0,rfl,⟨r,Nv _,rfl⟩,Step.stay S hb.block hb.size hb.os hb.tape hb.output (fun _ h=>h) (fun _ h=>.inl h) (fun _ _ h=>h),
  S.stay hb.block hb.size (fun _ h=>h) (fun b hd=>Nat.lt_of_lt_of_le (S.dead b hd) hb.size) (fun _ h=>.inl h) (fun _ _ h=>h),U,Nat.le_refl _,hr _ _ _⟩
theorem Lk {s:ByteArray} {vs:Array Value} (h:fE P w D ι [.str s] vs):vs= #[.string s]:=by
 obtain⟨h1,h2⟩:=h
 obtain⟨u,hu,hr⟩:=h2 0 _ rfl
 rw[fU hr]at hu
 obtain⟨l⟩:=vs
 cases l with
 |nil=>simp at h1
 |cons a l=>cases l with
  |nil=>simp at hu;subst hu;rfl
  |cons b l=>simp at h1
theorem Ge (s:ByteArray) (hs:s.size<=9223372036854775807):az Tryz.prog 116 [.str s] (.bool (kF s)):=
 p4 (fun _ _ _ _=>Lk) (fun _ _ _=>.eE _ _ (.bool _)) (fun g=>iI g 5 _) fun w=>(Cy w s hs).mono (by rintro e w' ⟨rfl,rfl⟩;exact⟨rfl,Below.refl _ _⟩)
end Go.Proofs.YtalkncaokeaifaaGreatDoor.V

namespace Go.Proofs.YtalkncaokeaifaaGreatDoor.V
open Go.RowKit
attribute [local irreducible] dH wpOps eB Call
attribute [local go_sem] ax eo dS ez ev cZ upd bD K.av bR AV.cells AV.cell rowOf rowsOf part ld rowAt eL bz bx cW dj eO bf cC dw er ea cR dq cw cu da db bp aI bZ bj ck cj dn dr dp bW br cz dm bh ar cq bH eM aT bL bq aH cU aQ cX AV.undef aW bd de di cY c6 bJ dv dy bE du dt cm cr List.getD_cons_zero List.getD_cons_succ List.getD_nil List.all_cons List.all_nil Bool.and_true Bool.true_and Bool.and_self Bool.not_true Bool.not_false Option.map_some Option.map_none Option.bind_some Option.bind_none List.length_cons List.length_nil List.take_succ_cons List.take_zero List.take_nil List.drop_succ_cons List.drop_zero List.drop_nil List.head?_cons List.map_cons List.map_nil List.getElem?_cons_zero List.getElem?_cons_succ List.cons_append List.nil_append List.append_nil List.length_map List.set_cons_zero List.set_cons_succ Nat.reduceMul eq_self Int.toNat_natCast Int.natCast_nonneg and_self true_and and_true decide_true decide_false Bool.false_eq_true Nat.zero_add Nat.add_zero List.contains_cons List.contains_nil Bool.or_false Bool.false_or beq_self_eq_true Nat.reduceBEq ne_eq not_true_eq_false not_false_eq_true Id.mk.injEq false_and and_false Nat.reduceLT Int.reduceLE Int.reduceLT Int.reduceToNat Int.reduceNeg Int.reduceAdd Nat.le_refl List.length_append beq_true beq_false Bool.not_eq_eq_eq_not or_false false_or dX ad ae aP aJ bt bI aD aS aA aL bU aZ
variable {P:Program}
end Go.Proofs.YtalkncaokeaifaaGreatDoor.V

namespace Go.Proofs.YtalkncaokeaifaaGreatDoor.V
open Go.RowKit
attribute [local irreducible] dH wpOps eB Call
attribute [local go_sem] ax eo dS ez ev cZ upd bD K.av bR AV.cells AV.cell rowOf rowsOf part ld rowAt eL bz bx cW dj eO bf cC dw er ea cR dq cw cu da db bp aI bZ bj ck cj dn dr dp bW br cz dm bh ar cq bH eM aT bL bq aH cU aQ cX AV.undef aW bd de di cY c6 bJ dv dy bE du dt cm cr List.getD_cons_zero List.getD_cons_succ List.getD_nil List.all_cons List.all_nil Bool.and_true Bool.true_and Bool.and_self Bool.not_true Bool.not_false Option.map_some Option.map_none Option.bind_some Option.bind_none List.length_cons List.length_nil List.take_succ_cons List.take_zero List.take_nil List.drop_succ_cons List.drop_zero List.drop_nil List.head?_cons List.map_cons List.map_nil List.getElem?_cons_zero List.getElem?_cons_succ List.cons_append List.nil_append List.append_nil List.length_map List.set_cons_zero List.set_cons_succ Nat.reduceMul eq_self Int.toNat_natCast Int.natCast_nonneg and_self true_and and_true decide_true decide_false Bool.false_eq_true Nat.zero_add Nat.add_zero List.contains_cons List.contains_nil Bool.or_false Bool.false_or beq_self_eq_true Nat.reduceBEq ne_eq not_true_eq_false not_false_eq_true Id.mk.injEq false_and and_false Nat.reduceLT Int.reduceLE Int.reduceLT Int.reduceToNat Int.reduceNeg Int.reduceAdd Nat.le_refl List.length_append beq_true beq_false Bool.not_eq_eq_eq_not or_false false_or dX ad ae aP aJ bt bI aD aS aA aL bU aZ
def j7 (s:aO):Prop:=(∀g∈s.dx,g.dP.size<=9223372036854775807)/\∀t∈s.ay,t.dP.size<=9223372036854775807
def yc (s:aO) (i:Nat):gj:=s.dx.getD i ⟨⟨#[]⟩,0⟩
def sq (s:aO) (i:Nat):fj:=s.ay.getD i wU
def O0 (s:aO) (i:Nat):Prop:=kF (yc s i).dP=true/\ir (yc s i).gK 1 4=true/\∀j,j<i->(yc s j).dP≠(yc s i).dP
def MM (s:aO) (i:Nat):Prop:=kF (sq s i).dP=true/\(sq s i).eD.length=4/\(∀j,j<i->(sq s j).dP≠(sq s i).dP)/\∀g∈(sq s i).eD,ir g 0 s.dx.length=true
structure gO (s:aO):Prop where
 tK:s.dx.length<=200
 some:1<=s.ay.length
 xI:s.ay.length<=160
 Wg:∀i,i<s.dx.length->O0 s i
 tok:∀i,i<s.ay.length->MM s i
noncomputable def s7 (s:aO):Bool:=@decide (gO s) (Classical.propDecidable _)
theorem rZ {s:aO}:s7 s=true↔gO s:=by simp[s7]
theorem kf {s:aO} (h:¬gO s):false=s7 s:=by simp[s7,h]
theorem LH {s:aO} (h:gO s):true=s7 s:=by simp[s7,h]
theorem OL {s:aO} {i:Nat} (h:i<s.ay.length):(s.ay.map eS)[i]? =some (eS (sq s i)):=getD_map eS h
theorem Ni {s:aO} {i:Nat} (h:i<s.dx.length):(s.dx.map eP)[i]? =some (eP (yc s i)):=getD_map eP h
theorem gO.form {s:aO} (h:gO s):lS s:=by
 have key:∀t∈s.ay,∃i,i<s.ay.length/\t=sq s i:=fun t ht=>by
  obtain⟨i,hi,rfl⟩:=List.getElem_of_mem ht
  exact⟨i,hi,by simp[sq,List.getD_eq_getElem?_getD,hi]⟩
 refine⟨fun t ht=>?_,fun t ht g hg=>?_⟩
 ·obtain⟨i,hi,rfl⟩:=key t ht
  exact(h.tok i hi).2.1
 ·obtain⟨i,hi,rfl⟩:=key t ht
  exact dZ ((h.tok i hi).2.2.2 g hg)
def ec (l:List ByteArray):List (List AV):=l.map fun n=>[.str n,.bool true]
abbrev mS:MK:=⟨false,[.tS]⟩
theorem zL (n:ByteArray):∀(l:List ByteArray) (i:Nat),∃r,fK mS [.str n] (ec l) i=some r/\((r=none/\n∉l)∨∃j,r=some (i+j)/\n∈l/\(ec l)[j]? =some [.str n,.bool true])
 |[],i=>⟨none,rfl,.inl ⟨rfl,by simp⟩⟩
 |m::l,i=>by
  obtain⟨r,h1,h2⟩:=zL n l (i+1)
  by_cases h:n=m
  ·subst h
   exact⟨some i,by simp[ec,fK,ea,er,MK.ks],.inr ⟨0,rfl,by simp,rfl⟩⟩
  ·refine⟨r,?_,?_⟩
   ·unfold ec at h1 ⊢
    simp only[List.map_cons,fK,MK.ks,List.length_cons,List.length_nil,Nat.zero_add,List.take_succ_cons,List.take_zero,ea,er,h,decide_false,Bool.and_true]
    exact h1
   ·rcases h2 with⟨rfl,h2⟩|⟨j,rfl,h2,h3⟩
    ·exact .inl ⟨rfl,by simp[h,h2]⟩
    ·exact .inr ⟨j+1,by congr 1;omega,by simp[h2],by simpa[ec]using h3⟩
theorem xu (n:ByteArray) (l:List ByteArray):(n∉l/\fq mS (.str n) (ec l)=some none)∨∃j,n∈l/\fq mS (.str n) (ec l)=some (some j)/\(ec l)[j]? =some [.str n,.bool true]:=by
 obtain⟨r,h1,h2⟩:=zL n l 0
 have e:fq mS (.str n) (ec l)=some r:=by
  unfold fq
  rw[if_pos ⟨rfl,rfl,rfl⟩];exact h1
 rcases h2 with⟨rfl,h2⟩|⟨j,rfl,h2,h3⟩
 ·exact .inl ⟨h2,e⟩
 ·exact .inr ⟨j,h2,by rw[e,Nat.zero_add],h3⟩
theorem R5 (s:aO) (g:Int):az Tryz.prog 117 [.int .i64 g,.fe (aj s)] (.bool (!ir g 0 s.dx.length)):=by
 refine az.body fC rfl fun hl n0=>?_
 clear hl
 have h:=fR g 0 s.dx.length
 (repeat(first|((repeat(revert hN;revert N;apply Pn.out));refine wk @aj.eq_1 ?_;(repeat(refine Pn.mk ?_;intro N hN)))|((try apply Or.inl);refine⟨_,az.x (h) (sd @aj.eq_1),?_⟩;refine hN _ _ ?_;clear hN N)))
 exact dQ (b:= !ir g 0 s.dx.length) (.inl rfl) (sd @Nat.zero_add) rfl
theorem FO:S5 ah (fun c=>.int .i64 c) 1 false:=⟨fun _=>rfl,fun _=>rfl,fun x g=>by rw[ad,aP,ae];rfl⟩
theorem OF (s:aO) (l:List Int) (hl:l.length<=1048576):az Tryz.prog 67 [.sl (l.map ah),.fn 117 [.fe (aj s)]] (.bool (l.any fun g=> !ir g 0 s.dx.length)):=
 kq FO (show BN Tryz.prog 67=some (AD 67 86) by kernel_rfl)
  (show BN Tryz.prog 86=some (sO 86 1 false) by kernel_rfl) l hl _ _ _ rfl (fun g=>by rw[ad,aA,ae];rfl) (fun x _=>R5 s x) fun g=>by rw[ad,aA,ae];rfl
theorem wP {α:Type} (f:Nat->α) (n k:Nat) (x:α):x∉(List.range k).map f↔∀j,j<k->f j≠x:=by
 constructor
 ·intro h j hj he
  exact h (List.mem_map.2 ⟨j,List.mem_range.2 hj,he⟩)
 ·intro h hm
  obtain⟨j,hj,he⟩:=List.mem_map.1 hm
  exact h j (List.mem_range.1 hj) he
theorem DK (s:aO) (hn:j7 s) (hg:s.dx.length<=1048576) (ht:s.ay.length<=1048576) (hs:∀t∈s.ay,t.eD.length<=1048576):az Tryz.prog 92 [.agg (aj s)] (.bool (s7 s)):=by
 refine az.body fC rfl fun hl n0=>?_
 clear hl
 have X4:∀i,i<s.dx.length->(yc s i).dP.size<=9223372036854775807:=fun i hi=>hn.1 _ (by simp[yc,List.getD_eq_getElem?_getD,hi])
 have YE:∀i,i<s.ay.length->(sq s i).dP.size<=9223372036854775807:=fun i hi=>hn.2 _ (by simp[sq,List.getD_eq_getElem?_getD,hi])
 have qE:∀i,i<s.ay.length->(sq s i).eD.length<=1048576:=fun i hi=>hs _ (by simp[sq,List.getD_eq_getElem?_getD,hi])
 have hw:=fR (s.ay.length:Int) 1 160
 by_cases h1:(200:Int)<(s.dx.length:Int)
 ·(try((repeat(revert hN;revert N;apply Pn.out));refine wk (tw @aj.eq_1 @h1) ?_;(repeat(refine Pn.mk ?_;intro N hN))))
  exact dQ (b:=false) (.inl rfl) (sd @Nat.zero_add) (kf fun h=>by have:=h.tK;omega)
 by_cases h2:ir (s.ay.length:Int) 1 160=true
 ·have Bo:=dZ h2
  rw[h2]at hw
  (repeat(first|((repeat(revert hN;revert N;apply Pn.out));refine wk (tw @aj.eq_1 @h1) ?_;(repeat(refine Pn.mk ?_;intro N hN)))|((try apply Or.inl);refine⟨_,az.x (hw) (sd (tw @aj.eq_1 @h1)),?_⟩;refine hN _ _ ?_;clear hN N)))
  refine dc (fun n env st=>∃k:Nat,n=(s.dx.length)-k/\k<=(s.dx.length)/\env 24=.int .i64 (k:Int)/\st.get ⟨92000000,n0⟩=some ⟨true,2,[aj s]⟩/\st.get ⟨92003000,n0+1+1⟩=some ⟨true,mS.j4,ec ((List.range k).map fun i=>(yc s i).dP)⟩/\(∀j:Nat,j<k->O0 s j)) (s.dx.length) ⟨0,ab,ab,by(try simp only[go_sem, ↓reduceIte,Nat.reduceEqDiff,Nat.reduceAdd,Nat.reduceSub,Nat.reduceLeDiff,reduceCtorEq,aj,List.range_zero,List.map_nil,ec]);try rfl,by(try simp only[go_sem, ↓reduceIte,Nat.reduceEqDiff,Nat.reduceAdd,Nat.reduceSub,Nat.reduceLeDiff,reduceCtorEq,aj,List.range_zero,List.map_nil,ec]);try rfl,by(try simp only[go_sem, ↓reduceIte,Nat.reduceEqDiff,Nat.reduceAdd,Nat.reduceSub,Nat.reduceLeDiff,reduceCtorEq,aj,List.range_zero,List.map_nil,ec]);try rfl,fun _ h=>absurd h (Nat.not_lt_zero _)⟩ ?_
  rintro n_a env_a st_a ⟨k,rfl,ale,a24,ag0,ag1,xQ⟩ eR
  have a1:=eR 1 (by kernel_rfl);have a3:=eR 3 (by kernel_rfl);have a22:=eR 22 (by kernel_rfl);have a23:=eR 23 (by kernel_rfl)
  simp only[go_sem, ↓reduceIte,Nat.reduceEqDiff,Nat.reduceAdd,Nat.reduceSub,Nat.reduceLeDiff,reduceCtorEq,aj,List.range_zero,List.map_nil,ec]at a1 a3 a22 a23
  clear eR
  by_cases hk:(k:Int)<(s.dx.length:Int)
  ·have eF:∀{e:Env} {gg:Rows},(e 24=.int .i64 (IntKind.i64.wrap ((k:Int)+1)))->(gg ⟨92000000,n0⟩=some ⟨true,2,[aj s]⟩)->(gg ⟨92003000,n0+1+1⟩=some ⟨true,mS.j4,ec ((List.range (k+1)).map fun i=>(yc s i).dP)⟩)->(O0 s k)->∃m0,m0<(s.dx.length)-k/\∃k:Nat,m0=(s.dx.length)-k/\k<=(s.dx.length)/\e 24=.int .i64 (k:Int)/\gg ⟨92000000,n0⟩=some ⟨true,2,[aj s]⟩/\gg ⟨92003000,n0+1+1⟩=some ⟨true,mS.j4,ec ((List.range k).map fun i=>(yc s i).dP)⟩/\(∀j:Nat,j<k->O0 s j):=fun x1 x2 x3 x4=>⟨_,ab,k+1,rfl,ab,(by rw[x1,cE ab]),x2,x3,(all_succ xQ x4)⟩
   have jv:k<s.dx.length:=ab
   have je:=Ni jv
   have F7:=Ge (yc s k).dP (X4 k jv)
   have WJ:=fR (yc s k).gK 1 4
   have Cu:=xu (yc s k).dP ((List.range k).map fun i=>(yc s i).dP)
   rw[wP _ k]at Cu
   have qn:(¬O0 s k)->¬gO s:=fun h hp=>h (hp.Wg k jv)
   generalize AF:yc s k=gl at *
   cases hb:kF gl.dP
   ·rw[hb]at F7
    (repeat(first|((repeat(revert hN;revert N;apply Pn.out));refine wk (tw @a24 (tw @ag0 (tw @ag1 (tw @a1 (tw @a3 (tw @a22 (tw @a23 (tw @hk (tw @je (tw @eP.eq_1 @aj.eq_1)))))))))) ?_;(repeat(refine Pn.mk ?_;intro N hN)))|((try apply Or.inl);refine⟨_,az.x (F7) (sd (tw @a24 (tw @ag0 (tw @ag1 (tw @a1 (tw @a3 (tw @a22 (tw @a23 (tw @hk (tw @je (tw @eP.eq_1 @aj.eq_1))))))))))),?_⟩;refine hN _ _ ?_;clear hN N)))
    exact dQ (b:=false) (.inl rfl) (sd @Nat.zero_add) (kf (qn fun h=>by rw[O0,AF,hb]at h;cases h.1))
   ·rw[hb]at F7
    rcases Cu with⟨Es,lp⟩|⟨j,im,lp,fy⟩
    ·cases ed:ir gl.gK 1 4
     ·rw[ed]at WJ
      (repeat(first|((repeat(revert hN;revert N;apply Pn.out));refine wk (tw @a24 (tw @ag0 (tw @ag1 (tw @a1 (tw @a3 (tw @a22 (tw @a23 (tw @hk (tw @je (tw @lp (tw @eP.eq_1 @aj.eq_1))))))))))) ?_;(repeat(refine Pn.mk ?_;intro N hN)))|((try apply Or.inl);refine⟨_,az.x (F7) (sd (tw @a24 (tw @ag0 (tw @ag1 (tw @a1 (tw @a3 (tw @a22 (tw @a23 (tw @hk (tw @je (tw @lp (tw @eP.eq_1 @aj.eq_1)))))))))))),?_⟩;refine hN _ _ ?_;clear hN N)|((try apply Or.inl);refine⟨_,az.x (WJ) (sd (tw @a24 (tw @ag0 (tw @ag1 (tw @a1 (tw @a3 (tw @a22 (tw @a23 (tw @hk (tw @je (tw @lp (tw @eP.eq_1 @aj.eq_1)))))))))))),?_⟩;refine hN _ _ ?_;clear hN N)))
      exact dQ (b:=false) (.inl rfl) (sd @Nat.zero_add) (kf (qn fun h=>by rw[O0,AF,ed]at h;cases h.2.1))
     ·rw[ed]at WJ
      have wi:ec ((List.range k).map fun i=>(yc s i).dP)++[[.str gl.dP,.bool true]]=ec (List.map (fun i=>(yc s i).dP) (List.range k++[k])):=by simp[ec,AF]
      (repeat(first|((repeat(revert hN;revert N;apply Pn.out));refine wk (tw @a24 (tw @ag0 (tw @ag1 (tw @a1 (tw @a3 (tw @a22 (tw @a23 (tw @hk (tw @je (tw @lp (tw @eP.eq_1 @aj.eq_1))))))))))) ?_;(repeat(refine Pn.mk ?_;intro N hN)))|((try apply Or.inl);refine⟨_,az.x (F7) (sd (tw @a24 (tw @ag0 (tw @ag1 (tw @a1 (tw @a3 (tw @a22 (tw @a23 (tw @hk (tw @je (tw @lp (tw @eP.eq_1 @aj.eq_1)))))))))))),?_⟩;refine hN _ _ ?_;clear hN N)|((try apply Or.inl);refine⟨_,az.x (WJ) (sd (tw @a24 (tw @ag0 (tw @ag1 (tw @a1 (tw @a3 (tw @a22 (tw @a23 (tw @hk (tw @je (tw @lp (tw @eP.eq_1 @aj.eq_1)))))))))))),?_⟩;refine hN _ _ ?_;clear hN N)))
      refine eF ?_ ?_ ?_ (⟨by rw[AF];exact hb,by rw[AF];exact ed,fun j hj=>by rw[AF];exact Es j hj⟩)
      all_goals simp only[go_sem, ↓reduceIte,Nat.reduceEqDiff,Nat.reduceAdd,Nat.reduceSub,Nat.reduceLeDiff,reduceCtorEq,a24,ag0,ag1,a1,a3,a22,a23,lp,wi]
    ·(repeat(first|((repeat(revert hN;revert N;apply Pn.out));refine wk (tw @a24 (tw @ag0 (tw @ag1 (tw @a1 (tw @a3 (tw @a22 (tw @a23 (tw @hk (tw @je (tw @lp (tw @fy (tw @eP.eq_1 @aj.eq_1)))))))))))) ?_;(repeat(refine Pn.mk ?_;intro N hN)))|((try apply Or.inl);refine⟨_,az.x (F7) (sd (tw @a24 (tw @ag0 (tw @ag1 (tw @a1 (tw @a3 (tw @a22 (tw @a23 (tw @hk (tw @je (tw @lp (tw @fy (tw @eP.eq_1 @aj.eq_1))))))))))))),?_⟩;refine hN _ _ ?_;clear hN N)))
     exact dQ (b:=false) (.inl rfl) (sd @Nat.zero_add) (kf (qn fun h=>by
      rw[O0,AF]at h
      obtain⟨i,hi,he⟩:=List.mem_map.1 im
      exact h.2.2 i (List.mem_range.1 hi) he))
  ·have mN:k=s.dx.length:=ab
   (try((repeat(revert hN;revert N;apply Pn.out));refine wk (tw @a24 (tw @ag0 (tw @ag1 (tw @a1 (tw @a3 (tw @a22 (tw @a23 (tw @hk @aj.eq_1)))))))) ?_;(repeat(refine Pn.mk ?_;intro N hN))))
   refine dc (fun n env st=>∃j:Nat,n=(s.ay.length)-j/\j<=(s.ay.length)/\env 52=.int .i64 (j:Int)/\st.get ⟨92000000,n0⟩=some ⟨true,2,[aj s]⟩/\st.get ⟨92011000,st_a.next+1⟩=some ⟨true,mS.j4,ec ((List.range j).map fun i=>(sq s i).dP)⟩/\(∀i:Nat,i<j->MM s i)/\(st_a.next<st.next)) (s.ay.length) ⟨0,ab,ab,by(try simp only[go_sem, ↓reduceIte,Nat.reduceEqDiff,Nat.reduceAdd,Nat.reduceSub,Nat.reduceLeDiff,reduceCtorEq,a24,ag0,ag1,a1,a3,a22,a23,aj,List.range_zero,List.map_nil,ec]);try rfl,by(try simp only[go_sem, ↓reduceIte,Nat.reduceEqDiff,Nat.reduceAdd,Nat.reduceSub,Nat.reduceLeDiff,reduceCtorEq,a24,ag0,ag1,a1,a3,a22,a23,aj,List.range_zero,List.map_nil,ec]);try rfl,by(try simp only[go_sem, ↓reduceIte,Nat.reduceEqDiff,Nat.reduceAdd,Nat.reduceSub,Nat.reduceLeDiff,reduceCtorEq,a24,ag0,ag1,a1,a3,a22,a23,aj,List.range_zero,List.map_nil,ec]);try rfl,fun _ h=>absurd h (Nat.not_lt_zero _),cD⟩ ?_
   rintro n_b env_b st_b ⟨j,rfl,ble,b52,bg0,bg1,bA0,bI0⟩ fG
   have b1:=fG 1 (by kernel_rfl);have b6:=fG 6 (by kernel_rfl);have DN:=fG 50 (by kernel_rfl);have DO:=fG 51 (by kernel_rfl)
   simp only[go_sem, ↓reduceIte,Nat.reduceEqDiff,Nat.reduceAdd,Nat.reduceSub,Nat.reduceLeDiff,reduceCtorEq,a24,ag0,ag1,a1,a3,a22,a23,aj,List.range_zero,List.map_nil,ec]at b1 b6 DN DO
   clear fG
   by_cases hj:(j:Int)<(s.ay.length:Int)
   ·have gi:∀{e:Env} {gg:Rows} {nx:Nat},(e 52=.int .i64 (IntKind.i64.wrap ((j:Int)+1)))->(gg ⟨92000000,n0⟩=some ⟨true,2,[aj s]⟩)->(gg ⟨92011000,st_a.next+1⟩=some ⟨true,mS.j4,ec ((List.range (j+1)).map fun i=>(sq s i).dP)⟩)->(MM s j)->(st_a.next<nx)->∃m0,m0<(s.ay.length)-j/\∃j:Nat,m0=(s.ay.length)-j/\j<=(s.ay.length)/\e 52=.int .i64 (j:Int)/\gg ⟨92000000,n0⟩=some ⟨true,2,[aj s]⟩/\gg ⟨92011000,st_a.next+1⟩=some ⟨true,mS.j4,ec ((List.range j).map fun i=>(sq s i).dP)⟩/\(∀i:Nat,i<j->MM s i)/\(st_a.next<nx):=fun x1 x2 x3 x4 x5=>⟨_,ab,j+1,rfl,ab,(by rw[x1,cE ab]),x2,x3,(all_succ bA0 x4),x5⟩
    have pO:j<s.ay.length:=ab
    have tR:=OL pO
    have F7:=Ge (sq s j).dP (YE j pO)
    have Ri:=OF s (sq s j).eD (qE j pO)
    have Cu:=xu (sq s j).dP ((List.range j).map fun i=>(sq s i).dP)
    rw[wP _ j]at Cu
    have qn:(¬MM s j)->¬gO s:=fun h hp=>h (hp.tok j pO)
    have gZ:(⟨92011000,st_a.next+1⟩:Id)≠⟨92000000,n0⟩:=by simp
    generalize htd:sq s j=tl at *
    cases hb:kF tl.dP
    ·rw[hb]at F7
     (repeat(first|((repeat(revert hN;revert N;apply Pn.out));refine wk (tw @b52 (tw @bg0 (tw @bg1 (tw @b1 (tw @b6 (tw @DN (tw @DO (tw @hj (tw @tR (tw @eS.eq_1 @aj.eq_1)))))))))) ?_;(repeat(refine Pn.mk ?_;intro N hN)))|((try apply Or.inl);refine⟨_,az.x (F7) (sd (tw @b52 (tw @bg0 (tw @bg1 (tw @b1 (tw @b6 (tw @DN (tw @DO (tw @hj (tw @tR (tw @eS.eq_1 @aj.eq_1))))))))))),?_⟩;refine hN _ _ ?_;clear hN N)))
     exact dQ (b:=false) (.inl rfl) (sd @Nat.zero_add) (kf (qn fun h=>by rw[MM,htd,hb]at h;cases h.1))
    ·rw[hb]at F7
     rcases Cu with⟨Es,lp⟩|⟨i,im,lp,fy⟩
     ·by_cases h4:(tl.eD.length:Int)=4
      ·have Np:decide ((tl.eD.length:Int)=4)=true:=decide_eq_true h4
       cases hany:tl.eD.any fun g=> !ir g 0 s.dx.length
       ·rw[hany]at Ri
        have wi:ec ((List.range j).map fun i=>(sq s i).dP)++[[.str tl.dP,.bool true]]=ec (List.map (fun i=>(sq s i).dP) (List.range j++[j])):=by simp[ec,htd]
        (repeat(first|((repeat(revert hN;revert N;apply Pn.out));refine wk (tw @b52 (tw @bg0 (tw @bg1 (tw @b1 (tw @b6 (tw @DN (tw @DO (tw @hj (tw @tR (tw @lp (tw @Np (tw @eS.eq_1 @aj.eq_1)))))))))))) ?_;(repeat(refine Pn.mk ?_;intro N hN)))|((try apply Or.inl);refine⟨_,az.x (F7) (sd (tw @b52 (tw @bg0 (tw @bg1 (tw @b1 (tw @b6 (tw @DN (tw @DO (tw @hj (tw @tR (tw @lp (tw @Np (tw @eS.eq_1 @aj.eq_1))))))))))))),?_⟩;refine hN _ _ ?_;clear hN N)|((try apply Or.inl);refine⟨_,az.x (Ri) (sd (tw @b52 (tw @bg0 (tw @bg1 (tw @b1 (tw @b6 (tw @DN (tw @DO (tw @hj (tw @tR (tw @lp (tw @Np (tw @eS.eq_1 @aj.eq_1))))))))))))),?_⟩;refine hN _ _ ?_;clear hN N)))
        refine gi ?_ ?_ ?_ (⟨by rw[htd];exact hb,by rw[htd];omega,fun i hi=>(by rw[htd];exact Es i hi),fun g hg=>by rw[htd]at hg;have:=List.any_eq_false.1 hany g hg;simpa using this⟩) cD
        all_goals simp only[go_sem, ↓reduceIte,Nat.reduceEqDiff,Nat.reduceAdd,Nat.reduceSub,Nat.reduceLeDiff,reduceCtorEq,b52,bg0,bg1,b1,b6,DN,DO,lp,wi]
       ·rw[hany]at Ri
        (repeat(first|((repeat(revert hN;revert N;apply Pn.out));refine wk (tw @b52 (tw @bg0 (tw @bg1 (tw @b1 (tw @b6 (tw @DN (tw @DO (tw @hj (tw @tR (tw @lp (tw @Np (tw @eS.eq_1 @aj.eq_1)))))))))))) ?_;(repeat(refine Pn.mk ?_;intro N hN)))|((try apply Or.inl);refine⟨_,az.x (F7) (sd (tw @b52 (tw @bg0 (tw @bg1 (tw @b1 (tw @b6 (tw @DN (tw @DO (tw @hj (tw @tR (tw @lp (tw @Np (tw @eS.eq_1 @aj.eq_1))))))))))))),?_⟩;refine hN _ _ ?_;clear hN N)|((try apply Or.inl);refine⟨_,az.x (Ri) (sd (tw @b52 (tw @bg0 (tw @bg1 (tw @b1 (tw @b6 (tw @DN (tw @DO (tw @hj (tw @tR (tw @lp (tw @Np (tw @eS.eq_1 @aj.eq_1))))))))))))),?_⟩;refine hN _ _ ?_;clear hN N)))
        exact dQ (b:=false) (.inl rfl) (sd @Nat.zero_add) (kf (qn fun h=>by
         rw[MM,htd]at h
         obtain⟨g,hg,hq⟩:=List.any_eq_true.1 hany
         have:=h.2.2.2 g hg
         rw[this]at hq;cases hq))
      ·have Np:decide ((tl.eD.length:Int)=4)=false:=decide_eq_false h4
       (repeat(first|((repeat(revert hN;revert N;apply Pn.out));refine wk (tw @b52 (tw @bg0 (tw @bg1 (tw @b1 (tw @b6 (tw @DN (tw @DO (tw @hj (tw @tR (tw @lp (tw @Np (tw @eS.eq_1 @aj.eq_1)))))))))))) ?_;(repeat(refine Pn.mk ?_;intro N hN)))|((try apply Or.inl);refine⟨_,az.x (F7) (sd (tw @b52 (tw @bg0 (tw @bg1 (tw @b1 (tw @b6 (tw @DN (tw @DO (tw @hj (tw @tR (tw @lp (tw @Np (tw @eS.eq_1 @aj.eq_1))))))))))))),?_⟩;refine hN _ _ ?_;clear hN N)))
       exact dQ (b:=false) (.inl rfl) (sd @Nat.zero_add) (kf (qn fun h=>by rw[MM,htd]at h;have:=h.2.1;omega))
     ·(repeat(first|((repeat(revert hN;revert N;apply Pn.out));refine wk (tw @b52 (tw @bg0 (tw @bg1 (tw @b1 (tw @b6 (tw @DN (tw @DO (tw @hj (tw @tR (tw @lp (tw @fy (tw @eS.eq_1 @aj.eq_1)))))))))))) ?_;(repeat(refine Pn.mk ?_;intro N hN)))|((try apply Or.inl);refine⟨_,az.x (F7) (sd (tw @b52 (tw @bg0 (tw @bg1 (tw @b1 (tw @b6 (tw @DN (tw @DO (tw @hj (tw @tR (tw @lp (tw @fy (tw @eS.eq_1 @aj.eq_1))))))))))))),?_⟩;refine hN _ _ ?_;clear hN N)))
      exact dQ (b:=false) (.inl rfl) (sd @Nat.zero_add) (kf (qn fun h=>by
       rw[MM,htd]at h
       obtain⟨i,hi,he⟩:=List.mem_map.1 im
       exact h.2.2.1 i (List.mem_range.1 hi) he))
   ·(try((repeat(revert hN;revert N;apply Pn.out));refine wk (tw @b52 (tw @bg0 (tw @bg1 (tw @b1 (tw @b6 (tw @DN (tw @DO (tw @hj @aj.eq_1)))))))) ?_;(repeat(refine Pn.mk ?_;intro N hN))))
    exact dQ (b:=true) (.inl rfl) (sd @Nat.zero_add) (LH ⟨ab,ab,ab,fun i hi=>xQ i ab,fun i hi=>bA0 i ab⟩)
 ·rw[Bool.not_eq_true]at h2
  rw[h2]at hw
  (repeat(first|((repeat(revert hN;revert N;apply Pn.out));refine wk (tw @aj.eq_1 @h1) ?_;(repeat(refine Pn.mk ?_;intro N hN)))|((try apply Or.inl);refine⟨_,az.x (hw) (sd (tw @aj.eq_1 @h1)),?_⟩;refine hN _ _ ?_;clear hN N)))
  exact dQ (b:=false) (.inl rfl) (sd @Nat.zero_add) (kf fun h=>by
   have h3:=h.some
   have h4:=h.xI
   rw[jE ⟨ab,ab⟩]at h2;cases h2)
end Go.Proofs.YtalkncaokeaifaaGreatDoor.V

namespace Go.Proofs.YtalkncaokeaifaaGreatDoor.V
def k8 (a b:af):Bool:=decide (a.eW<b.eW)||(decide (a.eW=b.eW)&&decide (a.fu<b.fu))
theorem pv {a b:af}:k8 a b=true↔a.eW<b.eW∨(a.eW=b.eW/\a.fu<b.fu):=by simp[k8]
theorem l9 {a b:af}:k8 a b=false↔¬(a.eW<b.eW∨(a.eW=b.eW/\a.fu<b.fu)):=by rw[<-pv,Bool.not_eq_true]
theorem E0 {a b:af} (h1:a.fu=b.fu) (h2:a.eW=b.eW):a=b:=by cases a;cases b;simp_all
theorem iw {a b c:af} (h:k8 a b=true) (k:k8 b c=true):k8 a c=true:=by rw[pv]at *;omega
theorem gz {a:af}:k8 a a=false:=by rw[l9];omega
theorem CF {a b:af} (h:k8 a b=true):k8 b a=false:=by rw[pv]at h;rw[l9];omega
theorem uM {a b:af} (h:k8 a b=false) (gZ:a≠b):k8 b a=true:=by
 rw[l9]at h;rw[pv]
 by_cases hy:a.eW=b.eW
 ·by_cases hx:a.fu=b.fu
  ·exact absurd (E0 hx hy) gZ
  ·omega
 ·omega
def qS (a b:Int):Int:=if a<b then -1 else if b<a then 1 else 0
def Od (a b:Int):Int:=if a=0 then b else a
def om (a b:af):Int:=Od (qS a.eW b.eW) (qS a.fu b.fu)
theorem lh (a b:af):decide (om a b<0)=k8 a b:=by
 unfold om Od qS k8
 by_cases h1:a.eW<b.eW
 ·simp[h1]
 ·by_cases h2:b.eW<a.eW
  ·have:¬a.eW=b.eW:=ab
   simp[h1,h2,this]
  ·have:a.eW=b.eW:=ab
   by_cases h3:a.fu<b.fu
   ·simp[h1,h2,this,h3]
   ·by_cases h4:b.fu<a.fu<;>simp[h1,h2,this,h3,h4]
theorem G6 (a b:af):(om a b=0)↔a=b:=by
 cases a;cases b
 unfold om Od qS
 simp only[af.mk.injEq]
 split<;>(try split)<;>(try split)<;>(try split)<;>omega
def KX:aa:=⟨⟨0,0⟩,0⟩
def cP (l:List aa) (i:Nat):aa:=l.getD i KX
theorem fx {l:List aa} {i:Nat} (h:i<l.length):cP l i=l[i]:=by simp[cP,List.getD_eq_getElem?_getD,h]
theorem gR {l:List aa} {i:Nat} (h:i<l.length):cP l i∈l:=by rw[fx h];exact List.getElem_mem h
def mE (l:List aa):Prop:=∀i j:Nat,i<j->j<l.length->k8 (cP l i).bQ (cP l j).bQ=true
def pQ (l:List aa) (p:af):Nat:=l.findIdx fun c=>decide (c.bQ=p)
def ew (l:List aa) (p:af):Int:=if pQ l p<l.length then(pQ l p:Int)else -1
def mQ (l:List aa) (p:af):Nat:=l.findIdx fun c=> !k8 c.bQ p
theorem Gj {l:List aa} {p:af} {i:Nat} (hi:i<=l.length) (h1:∀x,x<i->k8 (cP l x).bQ p=true) (h2:i<l.length->k8 (cP l i).bQ p=false):mQ l p=i:=by
 unfold mQ
 by_cases h:i<l.length
 ·rw[List.findIdx_eq h]
  refine⟨by have:=h2 h;rw[fx h]at this;simp[this],fun j hj=>?_⟩
  have:=h1 j hj
  rw[fx ab]at this
  simp[this]
 ·have:i=l.length:=ab
  subst this
  refine List.findIdx_eq_length_of_false fun x hx=>?_
  obtain⟨j,hj,rfl⟩:=List.getElem_of_mem hx
  have:=h1 j hj
  rw[fx hj]at this
  simp[this]
theorem Gm {l:List aa} {p:af} (hR:mE l):ew l p=if mQ l p<l.length/\(cP l (mQ l p)).bQ=p then(mQ l p:Int)else -1:=by
 by_cases h:∃i,i<l.length/\(cP l i).bQ=p
 ·obtain⟨i,hi,hp⟩:=h
  have h1:mQ l p=i:=Gj ab (fun x hx=>by rw[<-hp];exact hR x i hx hi) fun _=>by rw[hp];exact gz
  have h2:pQ l p=i:=by
   rw[pQ,List.findIdx_eq hi]
   refine⟨by rw[fx hi]at hp;simpa using hp,fun j hj=>?_⟩
   have:=hR j i hj hi
   rw[hp,fx ab]at this
   simp only[decide_eq_false_iff_not]
   intro hc
   rw[hc,gz]at this
   cases this
  rw[ew,h1,h2,if_pos hi,if_pos ⟨hi,hp⟩]
 ·have h2:¬pQ l p<l.length:=by
   rw[pQ,List.findIdx_lt_length]
   rintro⟨c,hc,he⟩
   obtain⟨j,hj,rfl⟩:=List.getElem_of_mem hc
   exact h ⟨j,hj,by rw[fx hj];simpa using he⟩
  rw[ew,if_neg h2,if_neg]
  rintro⟨h3,h4⟩
  exact h ⟨_,h3,h4⟩
theorem jM {l:List aa} {p:af} (h:0<=ew l p):(ew l p).toNat<l.length/\(cP l (ew l p).toNat).bQ=p:=by
 unfold ew at h ⊢
 split at h
 ·rename_i hc
  rw[if_pos hc]
  refine⟨ab,?_⟩
  have:=of_decide_eq_true (List.findIdx_getElem (p:=fun c:aa=>decide (c.bQ=p)) (xs:=l) (w:=hc))
  rw[Int.toNat_natCast,fx hc]
  exact this
 ·omega
def gh (l:List aa) (p:af):Int:=if 0<=ew l p then(cP l (ew l p).toNat).cK else -1
end Go.Proofs.YtalkncaokeaifaaGreatDoor.V

namespace Go.Proofs.YtalkncaokeaifaaGreatDoor.V
open Go.RowKit
attribute [local irreducible] dH wpOps eB Call
attribute [local go_sem] ax eo dS ez ev cZ upd bD K.av bR AV.cells AV.cell rowOf rowsOf part ld rowAt eL bz bx cW dj eO bf cC dw er ea cR dq cw cu da db bp aI bZ bj ck cj dn dr dp bW br cz dm bh ar cq bH eM aT bL bq aH cU aQ cX AV.undef aW bd de di cY c6 bJ dv dy bE du dt cm cr List.getD_cons_zero List.getD_cons_succ List.getD_nil List.all_cons List.all_nil Bool.and_true Bool.true_and Bool.and_self Bool.not_true Bool.not_false Option.map_some Option.map_none Option.bind_some Option.bind_none List.length_cons List.length_nil List.take_succ_cons List.take_zero List.take_nil List.drop_succ_cons List.drop_zero List.drop_nil List.head?_cons List.map_cons List.map_nil List.getElem?_cons_zero List.getElem?_cons_succ List.cons_append List.nil_append List.append_nil List.length_map List.set_cons_zero List.set_cons_succ Nat.reduceMul eq_self Int.toNat_natCast Int.natCast_nonneg and_self true_and and_true decide_true decide_false Bool.false_eq_true Nat.zero_add Nat.add_zero List.contains_cons List.contains_nil Bool.or_false Bool.false_or beq_self_eq_true Nat.reduceBEq ne_eq not_true_eq_false not_false_eq_true Id.mk.injEq false_and and_false Nat.reduceLT Int.reduceLE Int.reduceLT Int.reduceToNat Int.reduceNeg Int.reduceAdd Nat.le_refl List.length_append beq_true beq_false Bool.not_eq_eq_eq_not or_false false_or dX ad ae aP aJ bt bI aD aS aA aL bU aZ
theorem jH {l:List aa} {i:Nat} (h:i<l.length):(l.map ai)[i]? =some (ai (cP l i)):=getD_map ai h
def MG (l:List aa) (i:Nat):Prop:=zF (cP l i).bQ=true/\ir (cP l i).cK 0 159=true/\(0<i->k8 (cP l (i-1)).bQ (cP l i).bQ=true)
structure lR (l:List aa):Prop where
 Dq:l.length<=500
 ok:∀i,i<l.length->MG l i
noncomputable def q9 (l:List aa):Bool:=@decide (lR l) (Classical.propDecidable _)
theorem Hh {l:List aa}:q9 l=true↔lR l:=by simp[q9]
theorem re {l:List aa} (h:¬lR l):false=q9 l:=by simp[q9,h]
theorem Hi {l:List aa} (h:lR l):true=q9 l:=by simp[q9,h]
theorem lR.MA {l:List aa} (h:lR l):mE l:=by
 intro i j yh hj
 induction j with
 |zero=>omega
 |succ j ih=>
  have h1:=(h.ok (j+1) hj).2.2 ab
  rw[Nat.add_sub_cancel]at h1
  by_cases he:i=j
  ·subst he;exact h1
  ·exact iw (ih ab ab) h1
theorem lR.pt {l:List aa} (h:lR l) {i:Nat} (hi:i<l.length):zF (cP l i).bQ=true:=(h.ok i hi).1
theorem A4 {p:af} (h:zF p=true):iB p.fu/\iB p.eW:=by
 unfold zF at h
 simp only[Bool.and_eq_true]at h
 have:=dZ h.1;have:=dZ h.2
 unfold iB;omega
theorem yO (a b:Int):az Tryz.prog 144 [.int .i64 a,.int .i64 b] (.int .i64 (qS a b)):=by
 have nan:∀x:Int,az Tryz.prog 171 [.int .i64 x] (.bool false):=fun x=>by
  refine az.body fC rfl fun hl n0=>?_
  clear hl
  have e:decide (x=x)=true:=decide_eq_true rfl
  (try((repeat(revert hN;revert N;apply Pn.out));refine wk @e ?_;(repeat(refine Pn.mk ?_;intro N hN))))
  exact dQ (b:=false) (.inl rfl) (sd @Nat.zero_add) rfl
 refine az.body fC rfl fun hl n0=>?_
 clear hl
 have ha:=nan a
 have hb:=nan b
 by_cases h1:a<b
 ·(repeat(first|((repeat(revert hN;revert N;apply Pn.out));refine wk @h1 ?_;(repeat(refine Pn.mk ?_;intro N hN)))|((try apply Or.inl);refine⟨_,az.x (ha) (sd @h1),?_⟩;refine hN _ _ ?_;clear hN N)|((try apply Or.inl);refine⟨_,az.x (hb) (sd @h1),?_⟩;refine hN _ _ ?_;clear hN N)))
  exact e7 (b:=-1) (.inl rfl) (sd @Nat.zero_add) (by rw[qS,if_pos h1])
 by_cases h2:b<a
 ·(repeat(first|((repeat(revert hN;revert N;apply Pn.out));refine wk (tw @h1 @h2) ?_;(repeat(refine Pn.mk ?_;intro N hN)))|((try apply Or.inl);refine⟨_,az.x (ha) (sd (tw @h1 @h2)),?_⟩;refine hN _ _ ?_;clear hN N)|((try apply Or.inl);refine⟨_,az.x (hb) (sd (tw @h1 @h2)),?_⟩;refine hN _ _ ?_;clear hN N)))
  exact e7 (b:=1) (.inl rfl) (sd @Nat.zero_add) (by rw[qS,if_neg h1,if_pos h2])
 ·(repeat(first|((repeat(revert hN;revert N;apply Pn.out));refine wk (tw @h1 @h2) ?_;(repeat(refine Pn.mk ?_;intro N hN)))|((try apply Or.inl);refine⟨_,az.x (ha) (sd (tw @h1 @h2)),?_⟩;refine hN _ _ ?_;clear hN N)|((try apply Or.inl);refine⟨_,az.x (hb) (sd (tw @h1 @h2)),?_⟩;refine hN _ _ ?_;clear hN N)))
  exact e7 (b:=0) (.inl rfl) (sd @Nat.zero_add) (by rw[qS,if_neg h1,if_neg h2])
def IT:List Int->Int
 |[]=>0
 |a::r=>if a=0 then IT r else a
theorem K6:∀{l:List Int} {k:Nat} (hk:k<l.length),l[k]≠0->(∀j (h:j<l.length),j<k->l[j]=0)->IT l=l[k]
 |a::r,0,_,h,_=>by
  have h':a≠0:=h
  rw[IT,if_neg h'];rfl
 |a::r,k+1,hk,h,h0=>by
  have h':a=0:=h0 0 (by simp) ab
  rw[IT,if_pos h',K6 (k:=k) (by simpa using hk) h fun j hj F5=>h0 (j+1) (by simpa using hj) ab];rfl
theorem CY:∀{l:List Int},(∀j (h:j<l.length),l[j]=0)->IT l=0
 |[],_=>rfl
 |a::r,h=>by
  have h':a=0:=h 0 (by simp)
  rw[IT,if_pos h',CY fun j hj=>h (j+1) (by simpa using hj)]
theorem Oe (a b:Int):IT [a,b]=Od a b:=by
 unfold Od
 by_cases h:a=0
 ·rw[IT,if_pos h,if_pos h,IT,IT];split<;>simp_all
 ·rw[IT,if_neg h,if_neg h]
theorem M6 (l:List Int):az Tryz.prog 143 [.sl (l.map ah)] (.int .i64 (IT l)):=by
 refine az.body fC rfl fun hl n0=>?_
 have hlen:l.length<=9223372036854775807:=by simpa using(hl (.sl (l.map ah)) (by simp)).len
 clear hl
 (try((repeat(revert hN;revert N;apply Pn.out));refine wk @Nat.zero_add ?_;(repeat(refine Pn.mk ?_;intro N hN))))
 refine dc (fun n env st=>∃k:Nat,n=(l.length)-k/\k<=(l.length)/\env 8=.int .i64 (k:Int)/\(∀j:Nat,j<k->∀h:j<l.length,l[j]=0)) (l.length) ⟨0,ab,ab,sl @Nat.zero_add,fun _ h=>absurd h (Nat.not_lt_zero _)⟩ ?_
 rintro n_a env_a st_a ⟨k,rfl,ale,a8,xQ⟩ eR
 have a3:=eR 3 (by kernel_rfl);have a6:=eR 6 (by kernel_rfl);have a7:=eR 7 (by kernel_rfl)
 simp only[go_sem, ↓reduceIte,Nat.reduceEqDiff,Nat.reduceAdd,Nat.reduceSub,Nat.reduceLeDiff,reduceCtorEq]at a3 a6 a7
 clear eR
 by_cases hk:(k:Int)<(l.length:Int)
 ·have eF:∀{e:Env},(e 8=.int .i64 (IntKind.i64.wrap ((k:Int)+1)))->(∀h:k<l.length,l[k]=0)->∃m0,m0<(l.length)-k/\∃k:Nat,m0=(l.length)-k/\k<=(l.length)/\e 8=.int .i64 (k:Int)/\(∀j:Nat,j<k->∀h:j<l.length,l[j]=0):=fun x1 x2=>⟨_,ab,k+1,rfl,ab,(by rw[x1,cE ab]),(all_succ xQ x2)⟩
  have jv:k<l.length:=ab
  have je:(l.map ah)[k]? =some (ah l[k]):=by simp[jv]
  generalize hv:l[k]=v at je
  by_cases h0:v=0
  ·have e:decide (v=0)=true:=decide_eq_true h0
   (try((repeat(revert hN;revert N;apply Pn.out));refine wk (tw @a8 (tw @a3 (tw @a6 (tw @a7 (tw @e (tw @hk (tw @je @ah.eq_1))))))) ?_;(repeat(refine Pn.mk ?_;intro N hN))))
   exact eF (sd (tw @a8 (tw @a3 (tw @a6 @a7)))) (fun _=>hv.trans h0)
  ·have e:decide (v=0)=false:=decide_eq_false h0
   (try((repeat(revert hN;revert N;apply Pn.out));refine wk (tw @a8 (tw @a3 (tw @a6 (tw @a7 (tw @e (tw @hk (tw @je @ah.eq_1))))))) ?_;(repeat(refine Pn.mk ?_;intro N hN))))
   exact e7 (b:=v) (.inl rfl) (sd @Nat.zero_add) (by rw[K6 jv (by rw[hv];exact h0) fun j h hj=>xQ j hj h,hv])
 ·(try((repeat(revert hN;revert N;apply Pn.out));refine wk (tw @a8 (tw @a3 (tw @a6 (tw @a7 @hk)))) ?_;(repeat(refine Pn.mk ?_;intro N hN))))
  exact e7 (b:=0) (.inl rfl) (sd @Nat.zero_add) (by rw[CY fun j h=>xQ j ab h])
section
attribute [local go_sem] List.drop_zero List.take_succ_cons List.take_zero List.length_cons List.length_nil pk Aw Cd
theorem nr (a b:af):az Tryz.prog 115 [.agg (ao a),.agg (ao b)] (.int .i64 (om a b)):=by
 refine az.body fC rfl fun hl n0=>?_
 clear hl
 have h1:=yO a.eW b.eW
 have h2:=yO a.fu b.fu
 have h3:=M6 [qS a.eW b.eW,qS a.fu b.fu]
 rw[Oe,List.map_cons,List.map_cons,List.map_nil,ah,ah]at h3
 (repeat(first|((repeat(revert hN;revert N;apply Pn.out));refine wk @ao.eq_1 ?_;(repeat(refine Pn.mk ?_;intro N hN)))|((try apply Or.inl);refine⟨_,az.x (h1) (sd @ao.eq_1),?_⟩;refine hN _ _ ?_;clear hN N)|((try apply Or.inl);refine⟨_,az.x (h2) (sd @ao.eq_1),?_⟩;refine hN _ _ ?_;clear hN N)|((try apply Or.inl);refine⟨_,az.x (h3) (sd @ao.eq_1),?_⟩;refine hN _ _ ?_;clear hN N)))
 exact e7 (b:=om a b) (.inl rfl) (by simp only[go_sem, ↓reduceIte,Nat.reduceEqDiff,Nat.reduceAdd,Nat.reduceSub,Nat.reduceLeDiff,reduceCtorEq,om]) rfl
end
theorem NO (a b:af):az Tryz.prog 120 [.agg (ao a),.agg (ao b)] (.bool (k8 a b)):=by
 refine az.body fC rfl fun hl n0=>?_
 clear hl
 have h1:=nr a b
 rw[ao,ao]at h1
 (repeat(first|((repeat(revert hN;revert N;apply Pn.out));refine wk @ao.eq_1 ?_;(repeat(refine Pn.mk ?_;intro N hN)))|((try apply Or.inl);refine⟨_,az.x (h1) (sd @ao.eq_1),?_⟩;refine hN _ _ ?_;clear hN N)))
 exact dQ (b:=decide (om a b<0)) (.inl rfl) (sd @Nat.zero_add) (lh a b)
theorem jY (t:aa) (p:af):az Tryz.prog 98 [.agg (ai t),.agg (ao p)] (.int .i64 (om t.bQ p)):=by
 refine az.body fC rfl fun hl n0=>?_
 clear hl
 have h1:=nr t.bQ p
 rw[ao,ao]at h1
 (repeat(first|((repeat(revert hN;revert N;apply Pn.out));refine wk (tw @ai.eq_1 @ao.eq_1) ?_;(repeat(refine Pn.mk ?_;intro N hN)))|((try apply Or.inl);refine⟨_,az.x (h1) (sd (tw @ai.eq_1 @ao.eq_1)),?_⟩;refine hN _ _ ?_;clear hN N)))
 exact e7 (b:=om t.bQ p) (.inl rfl) (sd @Nat.zero_add) rfl
theorem Hn (l:List aa):az Tryz.prog 93 [.agg [.sl (l.map ai)]] (.bool (q9 l)):=by
 refine az.body fC rfl fun hl n0=>?_
 have hlen:l.length<=9223372036854775807:=by
  have h1:=(hl (.agg [.sl (l.map ai)]) (by simp)).MN (a:=.sl (l.map ai)) (by simp)
  simpa using h1.len
 clear hl
 (try((repeat(revert hN;revert N;apply Pn.out));refine wk @Nat.zero_add ?_;(repeat(refine Pn.mk ?_;intro N hN))))
 refine dc (fun n env st=>∃k:Nat,n=(l.length)-k/\k<=(l.length)/\env 8=.int .i64 (k:Int)/\st.get ⟨93000000,n0⟩=some ⟨true,1,[[.sl (l.map ai)]]⟩/\(∀j:Nat,j<k->MG l j)) (l.length) ⟨0,ab,ab,sl @Nat.zero_add,sl @Nat.zero_add,fun _ h=>absurd h (Nat.not_lt_zero _)⟩ ?_
 rintro n_a env_a st_a ⟨k,rfl,ale,a8,ag0,xQ⟩ eR
 have a1:=eR 1 (by kernel_rfl);have a6:=eR 6 (by kernel_rfl);have a7:=eR 7 (by kernel_rfl)
 simp only[go_sem, ↓reduceIte,Nat.reduceEqDiff,Nat.reduceAdd,Nat.reduceSub,Nat.reduceLeDiff,reduceCtorEq]at a1 a6 a7
 clear eR
 by_cases hk:(k:Int)<(l.length:Int)
 ·have eF:∀{e:Env} {gg:Rows},(e 8=.int .i64 (IntKind.i64.wrap ((k:Int)+1)))->(gg ⟨93000000,n0⟩=some ⟨true,1,[[.sl (l.map ai)]]⟩)->(MG l k)->∃m0,m0<(l.length)-k/\∃k:Nat,m0=(l.length)-k/\k<=(l.length)/\e 8=.int .i64 (k:Int)/\gg ⟨93000000,n0⟩=some ⟨true,1,[[.sl (l.map ai)]]⟩/\(∀j:Nat,j<k->MG l j):=fun x1 x2 x3=>⟨_,ab,k+1,rfl,ab,(by rw[x1,cE ab]),x2,(all_succ xQ x3)⟩
  have jv:k<l.length:=ab
  have je:=jH jv
  have qn:(¬MG l k)->¬lR l:=fun h hp=>h (hp.ok k jv)
  have hp:=qL (cP l k).bQ
  have ht:=zf (cP l k).cK 160 ab ab
  rw[show(160:Int)-1=159 from rfl]at ht
  cases b1:zF (cP l k).bQ
  ·rw[b1]at hp
   (repeat(first|((repeat(revert hN;revert N;apply Pn.out));refine wk (tw @a8 (tw @ag0 (tw @a1 (tw @a6 (tw @a7 (tw @hk (tw @je (tw @ai.eq_1 @ao.eq_1)))))))) ?_;(repeat(refine Pn.mk ?_;intro N hN)))|((try apply Or.inl);refine⟨_,az.x (hp) (sd (tw @a8 (tw @ag0 (tw @a1 (tw @a6 (tw @a7 (tw @hk (tw @je (tw @ai.eq_1 @ao.eq_1))))))))),?_⟩;refine hN _ _ ?_;clear hN N)))
   exact dQ (b:=false) (.inl rfl) (sd @Nat.zero_add) (re (qn fun h=>by rw[MG,b1]at h;cases h.1))
  rw[b1]at hp
  cases b2:ir (cP l k).cK 0 159
  ·rw[b2]at ht
   (repeat(first|((repeat(revert hN;revert N;apply Pn.out));refine wk (tw @a8 (tw @ag0 (tw @a1 (tw @a6 (tw @a7 (tw @hk (tw @je (tw @ai.eq_1 @ao.eq_1)))))))) ?_;(repeat(refine Pn.mk ?_;intro N hN)))|((try apply Or.inl);refine⟨_,az.x (hp) (sd (tw @a8 (tw @ag0 (tw @a1 (tw @a6 (tw @a7 (tw @hk (tw @je (tw @ai.eq_1 @ao.eq_1))))))))),?_⟩;refine hN _ _ ?_;clear hN N)|((try apply Or.inl);refine⟨_,az.x (ht) (sd (tw @a8 (tw @ag0 (tw @a1 (tw @a6 (tw @a7 (tw @hk (tw @je (tw @ai.eq_1 @ao.eq_1))))))))),?_⟩;refine hN _ _ ?_;clear hN N)))
   exact dQ (b:=false) (.inl rfl) (sd @Nat.zero_add) (re (qn fun h=>by rw[MG,b2]at h;cases h.2.1))
  rw[b2]at ht
  by_cases h0:(0:Int)<(k:Int)
  ·have uk:=jH (l:=l) (i:=k-1) ab
   have hw:IntKind.i64.wrap ((k:Int)-1)=((k-1:Nat):Int):=by rw[cH ab];omega
   have hq:=NO (cP l (k-1)).bQ (cP l k).bQ
   cases b3:k8 (cP l (k-1)).bQ (cP l k).bQ
   ·rw[b3]at hq
    (repeat(first|((repeat(revert hN;revert N;apply Pn.out));refine wk (tw @a8 (tw @ag0 (tw @a1 (tw @a6 (tw @a7 (tw @hk (tw @je (tw @uk (tw @h0 (tw @hw (tw @ai.eq_1 @ao.eq_1))))))))))) ?_;(repeat(refine Pn.mk ?_;intro N hN)))|((try apply Or.inl);refine⟨_,az.x (hp) (sd (tw @a8 (tw @ag0 (tw @a1 (tw @a6 (tw @a7 (tw @hk (tw @je (tw @uk (tw @h0 (tw @hw (tw @ai.eq_1 @ao.eq_1)))))))))))),?_⟩;refine hN _ _ ?_;clear hN N)|((try apply Or.inl);refine⟨_,az.x (ht) (sd (tw @a8 (tw @ag0 (tw @a1 (tw @a6 (tw @a7 (tw @hk (tw @je (tw @uk (tw @h0 (tw @hw (tw @ai.eq_1 @ao.eq_1)))))))))))),?_⟩;refine hN _ _ ?_;clear hN N)|((try apply Or.inl);refine⟨_,az.x (hq) (sd (tw @a8 (tw @ag0 (tw @a1 (tw @a6 (tw @a7 (tw @hk (tw @je (tw @uk (tw @h0 (tw @hw (tw @ai.eq_1 @ao.eq_1)))))))))))),?_⟩;refine hN _ _ ?_;clear hN N)))
    exact dQ (b:=false) (.inl rfl) (sd @Nat.zero_add) (re (qn fun h=>by have:=h.2.2 ab;rw[b3]at this;cases this))
   ·rw[b3]at hq
    (repeat(first|((repeat(revert hN;revert N;apply Pn.out));refine wk (tw @a8 (tw @ag0 (tw @a1 (tw @a6 (tw @a7 (tw @hk (tw @je (tw @uk (tw @h0 (tw @hw (tw @ai.eq_1 @ao.eq_1))))))))))) ?_;(repeat(refine Pn.mk ?_;intro N hN)))|((try apply Or.inl);refine⟨_,az.x (hp) (sd (tw @a8 (tw @ag0 (tw @a1 (tw @a6 (tw @a7 (tw @hk (tw @je (tw @uk (tw @h0 (tw @hw (tw @ai.eq_1 @ao.eq_1)))))))))))),?_⟩;refine hN _ _ ?_;clear hN N)|((try apply Or.inl);refine⟨_,az.x (ht) (sd (tw @a8 (tw @ag0 (tw @a1 (tw @a6 (tw @a7 (tw @hk (tw @je (tw @uk (tw @h0 (tw @hw (tw @ai.eq_1 @ao.eq_1)))))))))))),?_⟩;refine hN _ _ ?_;clear hN N)|((try apply Or.inl);refine⟨_,az.x (hq) (sd (tw @a8 (tw @ag0 (tw @a1 (tw @a6 (tw @a7 (tw @hk (tw @je (tw @uk (tw @h0 (tw @hw (tw @ai.eq_1 @ao.eq_1)))))))))))),?_⟩;refine hN _ _ ?_;clear hN N)))
    refine eF ?_ ?_ (⟨b1,b2,fun _=>b3⟩)
    all_goals simp only[go_sem, ↓reduceIte,Nat.reduceEqDiff,Nat.reduceAdd,Nat.reduceSub,Nat.reduceLeDiff,reduceCtorEq,a8,ag0,a1,a6,a7]
  ·have oJ:k=0:=ab
   (repeat(first|((repeat(revert hN;revert N;apply Pn.out));refine wk (tw @a8 (tw @ag0 (tw @a1 (tw @a6 (tw @a7 (tw @hk (tw @je (tw @h0 (tw @ai.eq_1 @ao.eq_1))))))))) ?_;(repeat(refine Pn.mk ?_;intro N hN)))|((try apply Or.inl);refine⟨_,az.x (hp) (sd (tw @a8 (tw @ag0 (tw @a1 (tw @a6 (tw @a7 (tw @hk (tw @je (tw @h0 (tw @ai.eq_1 @ao.eq_1)))))))))),?_⟩;refine hN _ _ ?_;clear hN N)|((try apply Or.inl);refine⟨_,az.x (ht) (sd (tw @a8 (tw @ag0 (tw @a1 (tw @a6 (tw @a7 (tw @hk (tw @je (tw @h0 (tw @ai.eq_1 @ao.eq_1)))))))))),?_⟩;refine hN _ _ ?_;clear hN N)))
   refine eF ?_ ?_ (⟨b1,b2,fun h=>ab⟩)
   all_goals simp only[go_sem, ↓reduceIte,Nat.reduceEqDiff,Nat.reduceAdd,Nat.reduceSub,Nat.reduceLeDiff,reduceCtorEq,a8,ag0,a1,a6,a7]
 ·(try((repeat(revert hN;revert N;apply Pn.out));refine wk (tw @a8 (tw @ag0 (tw @a1 (tw @a6 (tw @a7 @hk))))) ?_;(repeat(refine Pn.mk ?_;intro N hN))))
  refine dQ (b:=decide ((l.length:Int)<=500)) (.inl rfl) (sd @Nat.zero_add) ?_
  by_cases h5:(l.length:Int)<=500
  ·rw[decide_eq_true h5];exact Hi ⟨ab,fun i hi=>xQ i ab⟩
  ·rw[decide_eq_false h5];exact re fun h=>by have:=h.Dq;omega
end Go.Proofs.YtalkncaokeaifaaGreatDoor.V
