/- One operation, calls among them. -/
import Derived.Test.YtgoljkjaameagaaGreatSdA
import Derived.Orders
import Derived.Conc.LoneCalls
import Derived.WalkKit
import Derived.WalkSpells
import Derived.WalkLawsBesides
import Derived.Lib.Hide
import Derived.Deep.QuietTactic
import Derived.BigQuiet
import Derived.StillTailTactics
import Derived.Deep.RegionWith
import Derived.Deep.RegionHeld3
import Derived.Deep.LoopGhost
import Derived.Deep.CutRange
import Derived.Deep.DeepCutAuto
import Derived.Test.YtgoljkjaameagaaGreatChecked
set_option linter.unusedVariables false
set_option linter.unusedSimpArgs false
set_option maxRecDepth 100000
set_option maxHeartbeats 16000000
namespace Go.Proofs.YtgoljkjaameagaaGreat.V
open Go.RowKit
variable {P:Program} {w w':World} {D D' D2:Nat->Prop} {ι ι' ι2:Names}
def Sound (P:Program):fX:=fun f args σ K=>∀(hs:Nat) (D:Nat->Prop) (ι:Names) (w:World) (vs:Array Value),gw P hs D ι σ.get w->Used ι σ.next (fun _=>False)->fb P w D ι args vs->
 Calls P f vs w fun e w'=>∃r g' n' D' ι' u,e=.returned u/\K r ⟨g',n'⟩/\Step hs D ι w D' ι' w'/\gw P hs D' ι' g' w'/\Used ι' n' (fun _=>False)/\σ.next<=n'/\dm P w' D' ι' r u
section
variable {g:Rows} {hs:Nat} {env:Env} {a:Act} {o:Oper} {id:Id} {v:AV}
theorem gw.ro (S:gw P hs D ι g w):gw P w.heap.size D ι (ro g) w:=by
 refine⟨Nat.le_refl _,S.dead,fun id r h=>?_,fun id lk r r' B B' h h' hw=>?_⟩
 ·unfold V.ro at h
  simp only[Option.map_eq_some_iff]at h
  obtain⟨r0,h0,rfl⟩:=h
  obtain⟨B,hB,R,_,_⟩:=S.row id r0 h0
  exact⟨B,hB,R.flag false,fun h=>by simp at h,fun h=>by simp at h⟩
 ·unfold V.ro at h
  simp only[Option.map_eq_some_iff]at h
  obtain⟨r0,h0,rfl⟩:=h
  simp at hw
theorem Bu {g0:Rows} {f:Nat} {args:List AV} {n:Nat} {K:AV->Prop} {vs:Array Value} (h:PC (Sound P) f args ⟨g0,n⟩ K) (rn:∀id r,g0 id=some r->g id=some r) (S:gw P hs D ι g w) (U:Used ι n (fun _=>False)) (A:fb P w D ι args vs):
  Calls P f vs w fun e w'=>∃r D' u,e=.returned u/\K r/\Step hs D ι w D' ι w'/\gw P hs D' ι g w'/\dm P w' D' ι r u:=by
 refine(h w.heap.size D ι w vs (S.sub rn).ro U A).mono ?_
 rintro e w' ⟨r0,g',n',D1,ι1,u,rfl,⟨r,hr,hK⟩,T,S1,_,_,hR⟩
 have hb:∀b,b<w.heap.size->w'.heap[b]? =w.heap[b]? :=T.below.block
 have hz:=T.below.size
 have q:=sg (D2:=fun b=>D b∨(w.heap.size<=b/\b<w'.heap.size)) (ι2:=ι) (fun b hd=>by
  rcases T.new b hd with h|h
  ·exact .inl h
  ·exact .inr ⟨h,S1.dead b hd⟩) (fun id row hg hw=>by
  obtain⟨B,hB,R,h1,_⟩:=S1.row id row hg
  exact⟨B,hB,R,.inr ⟨h1 hw,R.lt⟩⟩) 6 r0 u r hR hr
 refine⟨r,_,u,rfl,hK,?_,?_,q.1⟩
 ·exact Step.stay S hb hz T.below.os T.below.tape T.below.output (fun _ h=>.inl h) (fun b h=>by rcases h with h|h;exact .inl h;exact .inr h.1) (fun _ _ h=>h)
 ·exact S.stay hb hz (fun _ h=>.inl h) (fun b h=>by rcases h with h|h;exact Nat.lt_of_lt_of_le (S.dead b h) hz;exact h.2) (fun b h=>by rcases h with h|h;exact .inl h;exact .inr h.1) (fun _ _ h=>h)
theorem yD {g0:Rows} {f:Nat} {args:List AV} {n:Nat} {K:AV->Prop} {vs:Array Value} (h:PCv (Sound P) f args ⟨g0,n⟩ K) (rn:∀id r,g0 id=some r->g id=some r) (S:gw P hs D ι g w) (U:Used ι n (fun _=>False)) (A:fb P w D ι args vs):
  Calls P f vs w fun e w'=>∃r D' u,e=.returned u/\K r/\Step hs D ι w D' ι w'/\gw P hs D' ι g w'/\dm P w' D' ι r u:=by
 obtain⟨args',ha,h⟩:=h
 let D1:Nat->Prop:=fun b=>D b∨∃id r B,g id=some r/\ι id=some B/\b=B.b
 have lt:∀id r B,g id=some r->ι id=some B->B.b<w.heap.size:=fun id r B h1 h2=>by
  obtain⟨B',eb,R,_⟩:=S.row id r h1
  rw[h2]at eb;injection eb with eb;subst eb
  exact R.lt
 have S0:gw P w.heap.size D1 ι (fun _=>none) w:=⟨Nat.le_refl _,fun b hb=>by
  rcases hb with hb|⟨id,r,B,h1,h2,rfl⟩
  ·exact S.dead b hb
  ·exact lt id r B h1 h2,fun id r h=>(by cases h),fun id lk r r' B B' h=>(by cases h)⟩
 obtain⟨l1,l2⟩:=gL ha
 have A':fb P w D1 ι args' vs:=⟨by rw[A.1,l1],fun j a hj=>by
  obtain⟨a0,lL,hf⟩:=l2 j a hj
  obtain⟨u,hu,hr⟩:=A.2 j a0 lL
  refine⟨u,hu,(sg (D2:=D1) (ι2:=ι) (fun b h=>.inl h) (fun id row hg hw=>?_) 6 a0 u a hr hf).1⟩
  unfold dK at hg
  simp only[Option.map_eq_some_iff]at hg
  obtain⟨r,oE,rfl⟩:=hg
  obtain⟨B,hB,R,_,_⟩:=S.row id r (rn id r oE)
  exact⟨B,hB,R.flag true,.inr ⟨id,r,B,rn id r oE,hB,rfl⟩⟩⟩
 refine(h w.heap.size D1 ι w vs S0 U A').mono ?_
 rintro e w' ⟨r0,g',n',D2,ι1,u,rfl,⟨r,hr,hK⟩,T,S1,_,_,hR⟩
 have hb:∀b,b<w.heap.size->w'.heap[b]? =w.heap[b]? :=T.below.block
 have hz:=T.below.size
 have q:=HB (D2:=fun b=>D b∨(w.heap.size<=b/\b<w'.heap.size)) (ι2:=ι) (fun id row hg hw=>by
  obtain⟨B,hB,R,h1,_⟩:=S1.row id row hg
  exact⟨B,hB,R,.inr ⟨h1 hw,R.lt⟩⟩) 6 r0 u r hR hr
 refine⟨r,_,u,rfl,hK,?_,?_,q.1⟩
 ·exact Step.stay S hb hz T.below.os T.below.tape T.below.output (fun _ h=>.inl h) (fun b h=>by rcases h with h|h;exact .inl h;exact .inr h.1) (fun _ _ h=>h)
 ·exact S.stay hb hz (fun _ h=>.inl h) (fun b h=>by rcases h with h|h;exact Nat.lt_of_lt_of_le (S.dead b h) hz;exact h.2) (fun b h=>by rcases h with h|h;exact .inl h;exact .inr h.1) (fun _ _ h=>h)
theorem G5 {g0:Rows} {f:Nat} {args:List AV} {n:Nat} {K:AV->Prop} {vs:Array Value} (h:fK (Sound P) f args ⟨g0,n⟩ K) (rn:∀id r,g0 id=some r->g id=some r) (S:gw P hs D ι g w) (U:Used ι n (fun _=>False)) (A:fb P w D ι args vs):
  Calls P f vs w fun e w'=>∃r D' u,e=.returned u/\K r/\Step hs D ι w D' ι w'/\gw P hs D' ι g w'/\dm P w' D' ι r u:=by
 rcases h with h|h
 ·exact Bu h rn S U A
 ·exact yD h rn S U A
theorem Ix {D1 D2:Nat->Prop} {ι1 ι2:Names} {w1:World} {a:AV} {v:Value} (hp:a.plain=true) (h:dm P w D1 ι1 a v):dm P w1 D2 ι2 a v:=by
 cases h with
 |fa a v h=>cases h<;>first|(simp[AV.plain]at hp;done)|exact .fa _ _ (by constructor)
 |_=>simp[AV.plain]at hp
theorem gw.add {r:Row} {B:s4} (S:gw P hs D ι g w) (S':gw P hs D ι g w') (hf:ι id=none) (jQ:w.heap.size<=B.b) (R:im P w' D (j7 ι id B) B r):gw P hs D (j7 ι id B) (bL g id r) w':=by
 have lt:∀lk r' B',g lk=some r'->ι lk=some B'->B'.b<w.heap.size:=fun lk r' B' h1 h2=>by
  obtain⟨B2,qh,R2,_⟩:=S.row lk r' h1
  rw[h2]at qh;injection qh with qh;subst qh
  exact R2.lt
 have ne:∀lk r',g lk=some r'->lk≠id:=fun lk r' h he=>by
  subst he
  obtain⟨B2,qh,_⟩:=S.row _ r' h
  rw[hf]at qh;cases qh
 refine⟨S'.lo,S'.dead,fun lk r' h=>?_,fun Uh id2 r1 r2 B1 B2 h1 h2 hw Bf qh hb=>?_⟩
 ·unfold bL at h
  split at h
  ·rename_i he
   subst he
   injection h with h;subst h
   exact⟨B,ew _ _ _,R,fun _=>Nat.le_trans S.lo jQ,fun _ hd=>Nat.lt_irrefl _ (Nat.lt_of_lt_of_le (S.dead _ hd) jQ)⟩
  ·obtain⟨B',eb,R',k1,k2⟩:=S'.row lk r' h
   exact⟨B',by rw[gG (ne _ _ h)];exact eb,R'.frame rfl (fun a v hr=>hr.frame (fun _ _=>rfl) (fun _ h=>h) (fB hf)),k1,k2⟩
 ·unfold bL at h1 h2
  split at h1
  ·rename_i e1
   split at h2
   ·rename_i e2;rw[e1,e2]
   ·exfalso
    subst e1
    rw[ew]at Bf;injection Bf with Bf;subst Bf
    rw[gG (ne _ _ h2)]at qh
    have:=lt _ _ _ h2 qh
    omega
  ·rw[gG (ne _ _ h1)]at Bf
   split at h2
   ·rename_i e2
    exfalso
    subst e2
    rw[ew]at qh;injection qh with qh;subst qh
    have:=lt _ _ _ h1 Bf
    omega
   ·rw[gG (ne _ _ h2)]at qh
    exact S'.inj Uh id2 r1 r2 B1 B2 h1 h2 hw Bf qh hb
theorem Jd {g0:Rows} {f:Nat} {args:List AV} {n sz:Nat} {rows:List (List AV)} {vs:Array Value} (h:CM (Sound P) f args ⟨g0,n⟩ sz rows) (rn:∀id r,g0 id=some r->g id=some r) (S:gw P hs D ι g w) (U:Used ι n (fun _=>False)) (A:fb P w D ι args vs) (hf:ι id=none):
  Calls P f vs w fun e w'=>∃u B,e=.returned u/\Step hs D ι w D (j7 ι id B) w'/\gw P hs D (j7 ι id B) (bL g id ⟨true,sz,rows⟩) w'/\dm P w' D (j7 ι id B) (.own id 0 rows.length) u:=by
 obtain⟨lj,args',ha,h⟩:=h
 let D1:Nat->Prop:=fun b=>D b∨∃id r B,g id=some r/\ι id=some B/\b=B.b
 have lt:∀id r B,g id=some r->ι id=some B->B.b<w.heap.size:=fun id r B h1 h2=>by
  obtain⟨B',eb,R,_⟩:=S.row id r h1
  rw[h2]at eb;injection eb with eb;subst eb
  exact R.lt
 have S0:gw P w.heap.size D1 ι (fun _=>none) w:=⟨Nat.le_refl _,fun b hb=>by
  rcases hb with hb|⟨id,r,B,h1,h2,rfl⟩
  ·exact S.dead b hb
  ·exact lt id r B h1 h2,fun id r h=>(by cases h),fun id lk r r' B B' h=>(by cases h)⟩
 obtain⟨l1,l2⟩:=gL ha
 have A':fb P w D1 ι args' vs:=⟨by rw[A.1,l1],fun j a hj=>by
  obtain⟨a0,lL,hz⟩:=l2 j a hj
  obtain⟨u,hu,hr⟩:=A.2 j a0 lL
  refine⟨u,hu,(sg (D2:=D1) (ι2:=ι) (fun b h=>.inl h) (fun id row hg hw=>?_) 6 a0 u a hr hz).1⟩
  unfold dK at hg
  simp only[Option.map_eq_some_iff]at hg
  obtain⟨r,oE,rfl⟩:=hg
  obtain⟨B,hB,R,_,_⟩:=S.row id r (rn id r oE)
  exact⟨B,hB,R.flag true,.inr ⟨id,r,B,rn id r oE,hB,rfl⟩⟩⟩
 refine(h w.heap.size D1 ι w vs S0 U A').mono ?_
 rintro e w' ⟨r0,g',n',D2,ι1,u,rfl,⟨i0,hr,hg⟩,T,S1,_,_,hR⟩
 subst hr
 have hb:∀b,b<w.heap.size->w'.heap[b]? =w.heap[b]? :=T.below.block
 have hz:=T.below.size
 obtain⟨B,hB,R,k1,_⟩:=S1.row i0 _ hg
 have jQ:w.heap.size<=B.b:=k1 rfl
 obtain⟨o,cap,B',rfl,eb,q2,q3,q4,q5,hk⟩:=iq hR
 rw[hB]at eb;injection eb with eb;subst eb
 replace R:=R.row hk
 have S':gw P hs D ι g w':=S.stay hb hz (fun _ h=>h) (fun b h=>Nat.lt_of_lt_of_le (S.dead b h) hz) (fun b h=>.inl h) (fun _ _ h=>h)
 have R':kK P w' D (j7 ι id B) B ⟨true,sz,rows⟩:=⟨R.sz,R.vT,R.fits,R.len,R.flat,fun i j cs a hi hj=>by
  obtain⟨v,h1,h2⟩:=R.at_ i j cs a hi hj
  exact⟨v,h1,Ix (lj cs (List.mem_of_getElem? hi) a (List.mem_of_getElem? hj)) h2⟩⟩
 exact⟨_,B,rfl,Step.stay S hb hz T.below.os T.below.tape T.below.output (fun _ h=>h) (fun _ h=>.inl h) (fB hf),S.add S' hf jQ (R'.obj hk),.own id 0 _ _ _ B (ew _ _ _) hk q2 q3 q4 q5⟩
theorem jF {f:Nat} {args:Array Value} (hc:gj P f=true):(callFunc f args).run P w=.ok (.enter f args) w:=by
 unfold gj at hc
 split at hc
 ·rename_i fn hf
  simp only[Bool.and_eq_true,Bool.not_eq_true']at hc
  have hb:fn.body.isNone=false:=by cases hq:fn.body<;>simp_all
  simp only[callFunc,Sem.run_bind,run_program,Result.andThen_ok,hf,hc.2,Bool.false_eq_true,if_false,hb]
  rfl
 ·simp at hc
theorem CA {f:Nat} {args:List O} (hc:rN P o.op=some (.call f args)):∃c,o.op=.call c/\c.callee=.value (.func f)/\gj P f=true/\c.args.toList.mapM (cO P)=some args:=by
 unfold rN at hc
 split at hc
 case h_23=>
  rename_i c ho
  refine⟨c,ho,?_⟩
  unfold nW at hc
  split at hc
  all_goals (try(repeat' (split at hc))<;>(simp only[Option.bind_eq_bind,Option.bind_eq_some_iff,Option.pure_def,Option.some.injEq,Option.map_eq_some_iff,reduceCtorEq,and_false,exists_false]at hc))
  all_goals simp_all
 all_goals (try unfold vU at hc)<;>(try unfold te at hc)<;>(repeat' (split at hc))<;>(simp only[Option.bind_eq_bind,Option.bind_eq_some_iff,Option.pure_def,Option.some.injEq,Option.map_eq_some_iff,reduceCtorEq,and_false,exists_false]at hc)
theorem tz {x:O} {args:List O} (hc:rN P o.op=some (.tW x args)):∃c t,o.op=.call c/\c.callee=.value (.tmp t)/\x=.t t/\c.args.toList.mapM (cO P)=some args:=by
 unfold rN at hc
 split at hc
 case h_23=>
  rename_i c ho
  refine⟨c,?_⟩
  unfold nW at hc
  split at hc
  all_goals (try(repeat' (split at hc))<;>(simp only[Option.bind_eq_bind,Option.bind_eq_some_iff,Option.pure_def,Option.some.injEq,Option.map_eq_some_iff,reduceCtorEq,and_false,exists_false]at hc))
  all_goals simp_all
 all_goals (try unfold vU at hc)<;>(try unfold te at hc)<;>(repeat' (split at hc))<;>(simp only[Option.bind_eq_bind,Option.bind_eq_some_iff,Option.pure_def,Option.some.injEq,Option.map_eq_some_iff,reduceCtorEq,and_false,exists_false]at hc)
theorem HX {n:Nat} {x y:O} (hc:rN P o.op=some (.store n x y)):∃t x' y',o.op=.store t x' y'/\ez P t=some n/\cO P x'=some x/\cO P y'=some y:=by
 unfold rN at hc
 split at hc
 case h_7=>
  rename_i t x' y' ho
  refine⟨t,x',y',ho,?_⟩
  simp only[Option.bind_eq_bind,Option.bind_eq_some_iff,Option.pure_def,Option.some.injEq]at hc
  obtain⟨n',h1,x2,h2,y2,h3,he⟩:=hc
  injection he with e1 e2 e3
  subst e1;subst e2;subst e3
  exact⟨h1,h2,h3⟩
 all_goals (try unfold vU at hc)<;>(try unfold te at hc)<;>(try unfold nW at hc)<;>(repeat' (split at hc))<;>(simp only[Option.bind_eq_bind,Option.bind_eq_some_iff,Option.pure_def,Option.some.injEq,Option.map_eq_some_iff,reduceCtorEq,and_false,exists_false]at hc)
theorem EZ {n:Nat} {x y:O} (hc:rN P o.op=some (.append n x y)):∃(t e:TypeId) (m:Nat) (z:List K) (i:TypeInfo) (x' y':Operand),n=m+1/\o.op=.call {callee:=.builtin .append,args:= #[x',y'],argTypes:= #[t,t]}/\
  P.underlying t=some (.slice e)/\ez P e=some (m+1)/\jN P e=some z/\P.info? e=some i/\i.bytes<=32768/\cO P x'=some x/\cO P y'=some y:=by
 unfold rN at hc
 split at hc
 case h_23=>
  rename_i c ho
  unfold nW at hc
  split at hc
  case h_2=>
   rename_i kQ
   split at hc
   ·rename_i x' y' t u h1 h2
    split at hc
    ·rename_i e ht
     split at hc
     ·rename_i m z i e1 e2 e3
      split at hc
      ·rename_i hb
       simp only[Option.bind_eq_bind,Option.bind_eq_some_iff,Option.pure_def,Option.some.injEq]at hc
       obtain⟨x2,h3,y2,h4,he⟩:=hc
       injection he with k1 k2 k3
       subst k1;subst k2;subst k3
       obtain⟨Gk,rfl⟩:=hb
       refine⟨t,e,m,z,i,x',y',rfl,?_,ht,e1,e2,e3,Gk,h3,h4⟩
       rw[ho]
       obtain⟨ca,cb,cc⟩:=c
       simp only at h1 h2 kQ
       subst kQ
       congr
       ·exact Array.ext' h1
       ·exact Array.ext' h2
      ·simp at hc
     ·simp at hc
    ·simp at hc
   ·simp at hc
  all_goals (repeat' (split at hc))<;>(simp only[Option.bind_eq_bind,Option.bind_eq_some_iff,Option.pure_def,Option.some.injEq,Option.map_eq_some_iff,reduceCtorEq,and_false,exists_false]at hc)
 all_goals (try unfold vU at hc)<;>(try unfold te at hc)<;>(repeat' (split at hc))<;>(simp only[Option.bind_eq_bind,Option.bind_eq_some_iff,Option.pure_def,Option.some.injEq,Option.map_eq_some_iff,reduceCtorEq,and_false,exists_false]at hc)
theorem Kz {n:Nat} {x y:O} (hc:rN P o.op=some (.copy n x y)):∃(t t2 e:TypeId) (m:Nat) (x' y':Operand),n=m+1/\o.op=.call {callee:=.builtin .copy,args:= #[x',y'],argTypes:= #[t,t2]}/\
  P.underlying t=some (.slice e)/\ez P e=some (m+1)/\cO P x'=some x/\cO P y'=some y:=by
 unfold rN at hc
 split at hc
 case h_23=>
  rename_i c ho
  unfold nW at hc
  split at hc
  case h_7=>
   rename_i kQ
   split at hc
   ·rename_i x' y' t t2 h1 h2
    split at hc
    ·rename_i e ht
     split at hc
     ·rename_i m e1
      simp only[Option.bind_eq_bind,Option.bind_eq_some_iff,Option.pure_def,Option.some.injEq,gK.copy.injEq]at hc
      obtain⟨x2,h3,y2,h4,k0,k1,k2⟩:=hc
      subst k1;subst k2
      refine⟨t,t2,e,m,x',y',k0.symm,?_,ht,e1,h3,h4⟩
      rw[ho]
      obtain⟨ca,cb,cc⟩:=c
      simp only at h1 h2 kQ
      subst kQ
      congr
      ·exact Array.ext' h1
      ·exact Array.ext' h2
     ·simp at hc
    ·simp at hc
   ·simp at hc
  all_goals (repeat' (split at hc))<;>(simp only[Option.bind_eq_bind,Option.bind_eq_some_iff,Option.pure_def,Option.some.injEq,Option.map_eq_some_iff,reduceCtorEq,and_false,exists_false]at hc)
 all_goals (try unfold vU at hc)<;>(try unfold te at hc)<;>(repeat' (split at hc))<;>(simp only[Option.bind_eq_bind,Option.bind_eq_some_iff,Option.pure_def,Option.some.injEq,Option.map_eq_some_iff,reduceCtorEq,and_false,exists_false]at hc)
theorem HW {z:List K} {x:O} (hc:rN P o.op=some (.clear z x)):∃(t e:TypeId) (m:Nat) (x':Operand),o.op=.call {callee:=.builtin .clear,args:= #[x'],argTypes:= #[t]}/\
  P.underlying t=some (.slice e)/\ez P e=some (m+1)/\jN P e=some z/\cO P x'=some x:=by
 unfold rN at hc
 split at hc
 case h_23=>
  rename_i c ho
  unfold nW at hc
  split at hc
  case h_3=>
   rename_i kQ
   split at hc
   ·rename_i x' t h1 h2
    split at hc
    ·rename_i e ht
     split at hc
     ·rename_i m z' e1 e2
      simp only[Option.map_eq_some_iff]at hc
      obtain⟨x2,h3,he⟩:=hc
      injection he with k1 k2
      subst k1;subst k2
      refine⟨t,e,m,x',?_,ht,e1,e2,h3⟩
      rw[ho]
      obtain⟨ca,cb,cc⟩:=c
      simp only at h1 h2 kQ
      subst kQ
      congr
      ·exact Array.ext' h1
      ·exact Array.ext' h2
     ·simp at hc
    ·simp at hc
   ·simp at hc
  all_goals (repeat' (split at hc))<;>(simp only[Option.bind_eq_bind,Option.bind_eq_some_iff,Option.pure_def,Option.some.injEq,Option.map_eq_some_iff,reduceCtorEq,and_false,exists_false]at hc)
 all_goals (try unfold vU at hc)<;>(try unfold te at hc)<;>(repeat' (split at hc))<;>(simp only[Option.bind_eq_bind,Option.bind_eq_some_iff,Option.pure_def,Option.some.injEq,Option.map_eq_some_iff,reduceCtorEq,and_false,exists_false]at hc)
theorem Q3 {q:MW} {xs:List O} (hc:rN P o.op=some (.mw q xs)):
  (∃t x k y m z x' k' y',(o.op=.mapUpdate t x k y∨o.op=.insert t x k y)/\tf P t=some (m,z)/\cO P x=some x'/\cO P k=some k'/\cO P y=some y'/\q=.set m/\xs=[x',k',y'])∨
  (∃t t' x k m z x' k',o.op=.call {callee:=.builtin .delete,args:= #[x,k],argTypes:= #[t,t']}/\tf P t=some (m,z)/\cO P x=some x'/\cO P k=some k'/\q=.del m/\xs=[x',k']):=by
 unfold rN at hc
 split at hc
 case h_23=>
  rename_i c ho
  right
  unfold nW at hc
  split at hc
  case h_6=>
   rename_i kQ
   split at hc
   ·rename_i x k t t' h1 h2
    split at hc
    ·rename_i m z x' k' e1 e2 e3
     injection hc with hc
     injection hc with q1 q2
     refine⟨t,t',x,k,m,z,x',k',?_,e1,e2,e3,q1.symm,q2.symm⟩
     rw[ho]
     obtain⟨ca,cb,cc⟩:=c
     simp only at h1 h2 kQ
     subst kQ
     congr
     ·exact Array.ext' h1
     ·exact Array.ext' h2
    ·cases hc
   ·cases hc
  all_goals (repeat' (split at hc))<;>(simp only[Option.bind_eq_bind,Option.bind_eq_some_iff,Option.pure_def,Option.some.injEq,Option.map_eq_some_iff,reduceCtorEq,and_false,exists_false]at hc)
 case h_29=>
  rename_i t x k y ho
  left
  split at hc
  ·rename_i m z x' k' y' e1 e2 e3 e4
   injection hc with hc
   injection hc with q1 q2
   exact⟨t,x,k,y,m,z,x',k',y',.inl ho,e1,e2,e3,e4,q1.symm,q2.symm⟩
  ·cases hc
 case h_30=>
  rename_i t x k y ho
  left
  split at hc
  ·rename_i m z x' k' y' e1 e2 e3 e4
   injection hc with hc
   injection hc with q1 q2
   exact⟨t,x,k,y,m,z,x',k',y',.inr ho,e1,e2,e3,e4,q1.symm,q2.symm⟩
  ·cases hc
 all_goals (try unfold vU at hc)<;>(try unfold te at hc)<;>(repeat' (split at hc))<;>(simp only[Option.bind_eq_bind,Option.bind_eq_some_iff,Option.pure_def,Option.some.injEq,Option.map_eq_some_iff,reduceCtorEq,and_false,exists_false]at hc)
def jq (g:Rows) (id:Id):Option Row->Rows
 |some r=>bL g id r
 |none=>g
def vW (X:fX) (hid:List Nat) (site n:Nat) (f:Nat) (args:List AV) (g:Rows) (v:AV) (g':Rows):Prop:=
 (fK X f args ⟨fD hid n g,n+1⟩ (fun r=>r=v)/\g'=g)∨
 (hid.contains site=true/\∃sz rows,CM X f args ⟨fD hid n g,n+1⟩ sz rows/\v=.own ⟨site,n⟩ 0 rows.length/\g'=bL g ⟨site,n⟩ ⟨true,sz,rows⟩)
def VS (X:fX) (n:Nat) (vo:bR) (env:Env) (g:Rows) (v:AV) (g':Rows):Prop:=
 match vo.op with
 | .call f args=>vW X vo.hid vo.site n f (args.map (dd env)) g v g'
 | .tW x args=>∃f l,vV (dd env x) (args.map (dd env))=some (f,l)/\vW X vo.hid vo.site n f l g v g'
 | .store .. | .append .. | .copy .. | .clear .. | .mw .. =>fE vo.op (dd env) g ⟨vo.site,n⟩=some (v,g')
 |_=>∃mr,eH vo.op (dd env) (fD vo.hid n g) ⟨vo.site,n⟩=some (v,mr)/\g'=jq g ⟨vo.site,n⟩ mr
def OG (P:Program) (hs:Nat) (D:Nat->Prop) (ι:Names) (w:World) (U:Nat->Prop) (site n:Nat) (a:Act) (dst:Option Tmp) (v:AV) (g':Rows) (a':Act) (w':World):Prop:=
 ∃u D' ι',a'=a.put dst u/\Step hs D ι w D' ι' w'/\gw P hs D' ι' g' w'/\dm P w' D' ι' v u/\Used ι' n (fun s=>U s∨s=site)
theorem fresh {n:Nat} {U:Nat->Prop} {s:Nat} (h:Used ι n U) (hU:¬U s):ι ⟨s,n⟩=none:=by
 cases hq:ι ⟨s,n⟩with
 |none=>rfl
 |some B=>
  rcases h ⟨s,n⟩ (by rw[hq];simp)with h|⟨_,h⟩
  ·exact absurd h (Nat.lt_irrefl _)
  ·exact absurd h hU
theorem Used.more {n:Nat} {U U':Nat->Prop} (h:Used ι n U) (hU:∀s,U s->U' s):Used ι n U':=fun id hid=>by
 rcases h id hid with h|⟨h1,h2⟩
 ·exact .inl h
 ·exact .inr ⟨h1,hU _ h2⟩
theorem Used.next {n:Nat} {U:Nat->Prop} (h:Used ι n U):Used ι (n+1) (fun _=>False):=fun id hid=>by
 rcases h id hid with h|⟨h1,_⟩
 ·exact .inl (Nat.lt_succ_of_lt h)
 ·exact .inl (by omega)
theorem Used.upd {n:Nat} {U:Nat->Prop} {s:Nat} {B:s4} (h:Used ι n U):Used (j7 ι ⟨s,n⟩ B) n (fun x=>U x∨x=s):=fun id hid=>by
 by_cases he:id=⟨s,n⟩
 ·subst he;exact .inr ⟨rfl,.inr rfl⟩
 ·rw[gG he]at hid
  exact(h.more (U':=fun x=>U x∨x=s) fun _ h=>Or.inl h) id hid
theorem oN {xs:Array Operand} {ys:List O} (E:cX P w D ι env a) (h:xs.toList.mapM (cO P)=some ys):fb P w D ι (ys.map (dd env)) (xs.map a.eval):=by
 obtain⟨h1,h2⟩:=Fk E h
 refine⟨by simpa using h1,fun j b hj=>?_⟩
 simp only[List.getElem?_map,Option.map_eq_some_iff]at hj
 obtain⟨y,hy,rfl⟩:=hj
 have eo:j<xs.size:=by have:=(List.getElem?_eq_some_iff.1 hy).1;simp at h1;omega
 refine⟨a.eval xs[j],by simp[eo],?_⟩
 have:=h2 j y hy
 simpa[List.getD_eq_getElem?_getD,eo]using this
theorem pq {xs ys:List AV} {vs us:Array Value} (h:fb P w D ι xs vs) (k:fb P w D ι ys us):fb P w D ι (xs++ys) (vs++us):=
 ⟨by simp[h.1,k.1],fun j b hj=>by
  by_cases eo:j<xs.length
  ·rw[List.getElem?_append_left eo]at hj
   obtain⟨u,hu,yk⟩:=h.2 j b hj
   exact⟨u,by rw[Array.getElem?_append_left (by rw[h.1];exact eo)];exact hu,yk⟩
  ·rw[List.getElem?_append_right (by omega)]at hj
   obtain⟨u,hu,yk⟩:=k.2 _ b hj
   exact⟨u,by rw[Array.getElem?_append_right (by rw[h.1];omega),h.1];exact hu,yk⟩⟩
theorem xl:fb P w D ι [] #[]:=⟨rfl,fun j b hj=>by simp at hj⟩
theorem vY {x:AV} {l l':List AV} {f:Nat} {vs:Array Value} {v:Value} (h:vV x l=some (f,l')) (hr:dm P w D ι x v) (hA:fb P w D ι l vs):
  ∃first dn,v=.func (.func f) first dn/\gj P f=true/\fb P w D ι l' (first++vs++dn):=by
 unfold vV at h
 split at h
 ·simp only[Option.some.injEq,Prod.mk.injEq]at h
  obtain⟨rfl,rfl⟩:=h
  obtain⟨us,q,he,Gn,n1,q1,q2⟩:=xo hr
  refine⟨#[],us,he,Gn,?_⟩
  rw[Array.empty_append]
  exact pq hA ⟨n1,fun j b hj=>⟨q j,q1 j (List.getElem?_eq_some_iff.1 hj).1,q2 j b hj⟩⟩
 ·simp only[Option.some.injEq,Prod.mk.injEq]at h
  obtain⟨rfl,rfl⟩:=h
  obtain⟨us,q,he,Gn,n1,q1,q2⟩:=Oe hr
  refine⟨us, #[],he,Gn,?_⟩
  rw[Array.append_empty]
  exact pq ⟨n1,fun j b hj=>⟨q j,q1 j (List.getElem?_eq_some_iff.1 hj).1,q2 j b hj⟩⟩ hA
 ·cases h
theorem BA {n:Nat} {vo:bR} {g':Rows} {U:Nat->Prop} {Q:Exit->Act->World->Prop} {K:Act->World->Prop} (hc:rN P o.op=some vo.op) (hv:VS (Sound P) n vo env g v g') (S:gw P hs D ι g w) (Us:Used ι n U) (hU:¬U vo.site) (E:cX P w D ι env a)
  (hK:∀a' w',OG P hs D ι w U vo.site n a o.dst v g' a' w'->K a' w'):o.wp P a w K Q:=by
 have hf:=fresh Us hU
 have BJ:∀(f:Nat) (args:List AV) (vs:Array Value),vW (Sound P) vo.hid vo.site n f args g v g'->fb P w D ι args vs->(execOp a.eval o).run P w=.ok (.enter f vs) w->o.wp P a w K Q:=by
  intro f args vs hP hA gp
  unfold Oper.wp
  rw[gp]
  rcases hP with⟨hP,rfl⟩|⟨_,sz,rows,hM,rfl,rfl⟩
  ·refine(G5 hP A6 S Us.next hA).mono ?_
   rintro e w' ⟨r,D',u,rfl,rfl,T,S',hR⟩
   exact hK _ _ ⟨u,D',ι,rfl,T,S',hR,Us.more fun _ h=>.inl h⟩
  ·refine(Jd hM A6 S Us.next hA hf).mono ?_
   rintro e w' ⟨u,B,rfl,T,S',hR⟩
   exact hK _ _ ⟨u,D,_,rfl,T,S',hR,Us.upd⟩
 have quiet:∀(mr:Option Row),eH vo.op (dd env) (fD vo.hid n g) ⟨vo.site,n⟩=some (v,mr)->g'=jq g ⟨vo.site,n⟩ mr->o.wp P a w K Q:=by
  intro mr hq hg
  have Vx:=zt hc hq (S.sub A6) E
  unfold Oper.wp
  cases mr with
  |none=>
   obtain⟨u,gp,hR⟩:=Vx
   rw[gp]
   subst hg
   exact hK _ _ ⟨u,D,ι,rfl,Step.refl _ _ _ _,S,hR,Us.more fun _ h=>.inl h⟩
  |some r=>
   rcases Vx with⟨u,cells,T,gp,h1,h2,h3,h4,h5,h6⟩|⟨m,gp,Nr,Bk⟩|⟨c,gp,Nr,Bk⟩
   case inr.inr=>
    rw[gp]
    subst hg Nr Bk
    have fo:w.heap.size<(w.alloc (.chan c #[] false 0 0 false)).heap.size:=by simp
    have S':=S.stay (w':=w.alloc (.chan c #[] false 0 0 false)) (D':=D) (ι':=ι) (fun k hk=>Below.heap_alloc _ _ _ hk) (by simp) (fun _ h=>h) (fun b hd=>Nat.lt_trans (S.dead b hd) fo) (fun _ h=>.inl h) (fun _ _ h=>h)
    have S1:=S.add S' (id:=⟨vo.site,n⟩) (B:=⟨w.heap.size,qY+c,0,some (.chan c)⟩) (r:=⟨true,qY+c,[]⟩) hf (Nat.le_refl _) ⟨rfl,fun cs h=>by simp at h,fun h=>by simp at h,fun m' h=>(by simp at h),fun c' h=>by
     simp only[Option.some.injEq,BK.chan.injEq]at h;subst h
     exact⟨rfl, #[],0,0,(show(w.heap.push (Obj.chan c #[] false 0 0 false))[w.heap.size]? =some (Obj.chan c #[] false 0 0 false) by simp),rfl,fun i cs h=>by simp at h⟩⟩
    exact hK _ _ ⟨_,D,_,rfl,Step.stay S (fun k hk=>Below.heap_alloc _ _ _ hk) (by simp) rfl rfl rfl (fun _ h=>h) (fun _ h=>.inl h) (fB hf),S1,.tj _ _ _ (ew _ _ _) rfl,Us.upd⟩
   case inr.inl=>
    rw[gp]
    subst hg Nr Bk
    have fo:w.heap.size<(w.alloc (.map #[] 0)).heap.size:=by simp
    have S':=S.stay (w':=w.alloc (.map #[] 0)) (D':=D) (ι':=ι) (fun k hk=>Below.heap_alloc _ _ _ hk) (by simp) (fun _ h=>h) (fun b hd=>Nat.lt_trans (S.dead b hd) fo) (fun _ h=>.inl h) (fun _ _ h=>h)
    have S1:=S.add S' (id:=⟨vo.site,n⟩) (B:=⟨w.heap.size,m.mz,0,some (.map m)⟩) (r:=⟨true,m.mz,[]⟩) hf (Nat.le_refl _) ⟨rfl,fun cs h=>by simp at h,fun h=>by simp at h,fun m' h=>by
     simp only[Option.some.injEq,BK.map.injEq]at h;subst h
     exact⟨rfl, #[],0,(show(w.heap.push (Obj.map #[] 0))[w.heap.size]? =some (Obj.map #[] 0) by simp),rfl,⟨fun cs h=>by simp at h,fun x h=>by simp at h,by simp⟩,fun i cs h=>by simp at h⟩,fun c h=>by simp at h⟩
    exact hK _ _ ⟨_,D,_,rfl,Step.stay S (fun k hk=>Below.heap_alloc _ _ _ hk) (by simp) rfl rfl rfl (fun _ h=>h) (fun _ h=>.inl h) (fB hf),S1,.map _ _ _ (ew _ _ _) rfl,Us.upd⟩
   rw[gp]
   subst hg
   have S1:=S.alloc (id:=⟨vo.site,n⟩) (w':=w.alloc (.cells cells T)) rfl hf h1 h2 h3 h4 h5
   refine hK _ _ ⟨u,D,_,rfl,Step.stay S (fun k hk=>Below.heap_alloc _ _ _ hk) (by simp) rfl rfl rfl (fun _ h=>h) (fun _ h=>.inl h) (fB hf),S1,(h6 (j7 ι _ _) (ew _ _ _)).frame (fun b hd=>Below.heap_alloc _ _ _ (S.dead b hd)) (fun _ h=>h) (fun _ _ h=>h),Us.upd⟩
 have R6:fE vo.op (dd env) g ⟨vo.site,n⟩=some (v,g')->(∀Ml,DL P hs a o Ml D ι ⟨vo.site,n⟩ v g'->Ml=w->o.wp P a w K Q):=by
  intro _ Ml hE he
  subst he
  obtain⟨u,w',ι',gp,T,S',hR,hι⟩:=hE
  have J4:OG P hs D ι Ml U vo.site n a o.dst v g' (a.put o.dst u) w':=⟨u,D,ι',rfl,T,S',hR,fun id hid=>by
   by_cases he:id=⟨vo.site,n⟩
   ·subst he;exact .inr ⟨rfl,.inr rfl⟩
   ·rw[hι id he]at hid
    exact(Us.more (U':=fun x=>U x∨x=vo.site) fun _ h=>Or.inl h) id hid⟩
  unfold Oper.wp
  rcases gp with gp|⟨gp,rfl⟩
  ·rw[gp];exact hK _ _ J4
  ·rw[gp];exact hK _ _ J4
 unfold VS at hv
 split at hv
 ·rename_i f args ei
  rw[ei]at hc
  obtain⟨c,ho,kQ,Gn,n9⟩:=CA hc
  refine BJ f _ (c.args.map a.eval) hv (oN E n9) ?_
  simp only[execOp,ho,resolve,kQ,Deferred.ofValue,Act.eval,Sem.run_bind,Sem.run_pure,Result.andThen_ok,invoke,Array.empty_append,Array.append_empty]
  exact jF Gn
 ·rename_i x args ei
  obtain⟨f,l,hx,hP⟩:=hv
  rw[ei]at hc
  obtain⟨c,t,ho,kQ,rfl,n9⟩:=tz hc
  obtain⟨first,dn,he,Gn,hL⟩:=vY (v:=a.eval (.tmp t)) hx (E t) (oN E n9)
  refine BJ f _ (first++c.args.map a.eval++dn) hP hL ?_
  simp only[execOp,ho,resolve,kQ,he,Deferred.ofValue,Sem.run_bind,Sem.run_pure,Result.andThen_ok,invoke]
  exact jF Gn
 ·rename_i m x y ei
  have kG:=hc
  rw[ei]at kG
  obtain⟨t,x',y',ho,h1,h2,h3⟩:=HX kG
  have ox:=hv
  rw[ei]at ox
  simp only[fE,Option.map_eq_some_iff,Prod.mk.injEq]at ox
  obtain⟨g1,Bh,rfl,rfl⟩:=ox
  exact R6 hv w (MG S E ho h1 h2 h3 Bh) rfl
 ·rename_i m x y ei
  have kG:=hc
  rw[ei]at kG
  obtain⟨t,e,m',z,i,x',y',rfl,ho,h1,h2,h3,h4,h5,h6,h7⟩:=EZ kG
  have ox:=hv
  rw[ei]at ox
  simp only[fE,Option.bind_eq_some_iff]at ox
  obtain⟨ys,DG,ox⟩:=ox
  exact R6 hv w (JL S E hf ho h1 h2 h3 h4 h5 h6 h7 DG ox) rfl
 ·rename_i m x y ei
  have kG:=hc
  rw[ei]at kG
  obtain⟨t,t2,e,m',x',y',rfl,ho,h1,h2,h3,h4⟩:=Kz kG
  have ox:=hv
  rw[ei]at ox
  simp only[fE,Option.bind_eq_some_iff]at ox
  obtain⟨ys,DG,ox⟩:=ox
  exact R6 hv w (PW S E ho h1 h2 h3 h4 DG ox) rfl
 ·rename_i z x ei
  have kG:=hc
  rw[ei]at kG
  obtain⟨t,e,m',x',ho,h1,h2,h3,h4⟩:=HW kG
  have ox:=hv
  rw[ei]at ox
  simp only[fE,Option.map_eq_some_iff,Prod.mk.injEq]at ox
  obtain⟨g1,Bh,rfl,rfl⟩:=ox
  exact R6 hv w (MF S E ho h1 h2 h3 h4 Bh) rfl
 ·rename_i q xs ei
  have kG:=hc
  rw[ei]at kG
  have ox:=hv
  rw[ei]at ox
  simp only[fE,Option.map_eq_some_iff,Prod.mk.injEq]at ox
  obtain⟨g1,Bh,rfl,rfl⟩:=ox
  rcases Q3 kG with⟨t,x,k,y,m,z,x',k',y',ho,h1,h2,h3,h4,rfl,rfl⟩|⟨t,t',x,k,m,z,x',k',ho,h1,h2,h3,rfl,rfl⟩
  ·exact R6 hv w (PY S E ho h1 h2 h3 h4 Bh) rfl
  ·exact R6 hv w (PX S E ho h1 h2 h3 Bh) rfl
 ·obtain⟨mr,hq,hg⟩:=hv
  exact quiet mr hq hg
end
end Go.Proofs.YtgoljkjaameagaaGreat.V

namespace Go.Proofs.YtgoljkjaameagaaGreat.V
open Go.RowKit
variable {P:Program} {w w':World} {D D' D2:Nat->Prop} {ι ι' ι2:Names}
section
variable {g:Rows} {hs:Nat} {env:Env} {a:Act} {o:Oper} {id:Id} {v:AV}
theorem pJ {ops:Array Oper} {nt site0 j:Nat} {draw mk:Bool} {bs:Array Nat} {hidden:List (Nat×Bool)} {vo:bR} (h:mK P ops nt site0 draw mk bs hidden j o=some vo):
  rN P o.op=some vo.op/\vo.dst=o.dst/\vo.site=site0+j/\(∀d,o.dst=some d->d<nt)/\(match o.guard with
   |none=>vo.guard=none
   |some (i,b)=>∃t,(ops[i]?).bind (·.dst)=some t/\vo.guard=some (t,b)):=by
 unfold mK at h
 simp only[Option.bind_eq_bind,Option.bind_eq_some_iff]at h
 obtain⟨v,hv,gd,hg,h⟩:=h
 split at h
 ·rename_i hd
  simp only[Option.pure_def,Option.some.injEq]at h
  subst h
  refine⟨hv,rfl,rfl,fun d Vh=>?_,?_⟩
  ·rw[Vh]at hd;simpa using hd
  ·unfold D7 at hg
   cases uL:o.guard with
   |none=>rw[uL]at hg;simp at hg;exact hg.symm
   |some p=>
    obtain⟨i,b⟩:=p
    rw[uL]at hg
    dsimp only at hg ⊢
    split at hg
    ·rename_i t ht
     simp at hg;exact⟨t,ht,hg.symm⟩
    ·simp at hg
 ·simp at h
theorem tQ {ops:Array Oper} {vo:bR} (E:cX P w D ι env a) (hg:match o.guard with
   |none=>vo.guard=none
   |some (i,b)=>∃t,(ops[i]?).bind (·.dst)=some t/\vo.guard=some (t,b)):aI vo.guard env=Region.wanted o (yielded ops a.tmps):=by
 unfold Region.wanted
 cases uL:o.guard with
 |none=>rw[uL]at hg;simp only at hg;rw[hg];rfl
 |some p=>
  obtain⟨i,b⟩:=p
  rw[uL]at hg
  obtain⟨t,ht,hv⟩:=hg
  rw[hv]
  simp only[aI,yielded,ht,Option.bind_some]
  have hr:=E t
  by_cases eo:t<a.tmps.size
  ·have eT:a.tmps[t]? =some a.tmps[t]:=Array.getElem?_eq_getElem eo
   have hd:a.tmps.getD t undef=a.tmps[t]:=by simp[eo]
   rw[hd]at hr
   rw[eT]
   generalize a.tmps[t]=u at hr
   cases he:env t with
   |bool c=>rw[he]at hr;rw[fu hr];simp
   |_=>
    rw[he]at hr
    have:∀c,u≠.bool c:=by
     intro c hu
     subst hu
     cases hr with
     |fa _ _ h=>cases h
    cases u<;>simp_all
  ·have eT:a.tmps[t]? =none:=Array.getElem?_eq_none (Nat.le_of_not_lt eo)
   have hd:a.tmps.getD t undef=undef:=by simp[eT]
   rw[hd]at hr
   rw[eT]
   cases he:env t with
   |bool c=>rw[he]at hr;have:=fu hr;simp[undef]at this
   |_=>simp
theorem ny {dst:Option Nat} {nt:Nat} {u:Value} (E:cX P w D ι env a) (hr:dm P w D ι v u) (hd:∀d,dst=some d->d<nt) (hs:a.tmps.size=nt):cX P w D ι (upd env dst v) (a.put dst u):=by
 intro t
 cases dst with
 |none=>exact E t
 |some d=>
  have eo:d<a.tmps.size:=by rw[hs];exact hd d rfl
  simp only[upd,Act.put]
  by_cases ht:t=d
  ·subst ht
   simp[eo];exact hr
  ·rw[if_neg ht]
   have:(a.tmps.setIfInBounds d u).getD t undef=a.tmps.getD t undef:=by
    simp only[Array.getD_eq_getD_getElem?]
    rw[Array.getElem?_setIfInBounds_ne (fun e=>ht e.symm)]
   rw[this];exact E t
theorem oW {hs:Nat} (E:cX P w D ι env a) (T:Step hs D ι w D' ι' w'):cX P w' D' ι' env a:=fun t=>T.rep (E t)
theorem lx (a:Act) (dst:Option Tmp) (u:Value):(a.put dst u).tmps.size=a.tmps.size:=by cases dst<;>simp[Act.put]
theorem put_defers (a:Act) (dst:Option Tmp) (u:Value):(a.put dst u).defers=a.defers:=by cases dst<;>rfl
theorem zC {draw:Bool} {vo:bR} {σ:ay} {next:AV->ay->Prop} {U:Nat->Prop} {Q:Exit->Act->World->Prop} {K:Act->World->Prop} (hc:rN P o.op=some vo.op) (hv:fw (Sound P) draw vo env σ next) (S:gw P hs D ι σ.get w) (Us:Used ι σ.next U) (hU:¬U vo.site) (E:cX P w D ι env a)
  (hK:∀v σ' u D' ι' w',next v σ'->Step hs D ι w D' ι' w'->gw P hs D' ι' σ'.get w'->dm P w' D' ι' v u->Used ι' σ'.next (fun s=>U s∨s=vo.site)->σ.next<=σ'.next->K (a.put o.dst u) w'):o.wp P a w K Q:=by
 have close:∀v g',VS (Sound P) σ.next vo env σ.get v g'->next v ⟨g',σ.next⟩->o.wp P a w K Q:=fun v g' h1 h2=>
  BA hc h1 S Us hU E fun a' w' ⟨u,D',ι',ha,T,S',hR,U'⟩=>by subst ha;exact hK v ⟨g',σ.next⟩ u D' ι' w' h2 T S' hR U' (Nat.le_refl _)
 have K0:∀(f:Nat) (args:List AV) (vs:Array Value),Sound P f args ⟨σ.get,σ.next+1⟩ next->fb P w D ι args vs->(execOp a.eval o).run P w=.ok (.enter f vs) w->o.wp P a w K Q:=by
  intro f args vs h hA gp
  unfold Oper.wp
  rw[gp]
  refine(h hs D ι w vs S Us.next hA).mono ?_
  rintro e w' ⟨r,g',n',D',ι',u,rfl,hn,T,S',U',hle,hR⟩
  exact hK r ⟨g',n'⟩ u D' ι' w' hn T S' hR (U'.more fun _ h=>h.elim) (Nat.le_trans (Nat.le_succ _) hle)
 unfold fw at hv
 split at hv
 ·rename_i f args ei
  rcases hv with⟨r,hP,hn⟩|⟨_,hX⟩|⟨Mf,sz,rows,hM,hn⟩
  ·exact close r σ.get (by unfold VS;rw[ei];exact .inl ⟨hP,rfl⟩) hn
  rotate_left
  ·exact close _ _ (by unfold VS;rw[ei];exact .inr ⟨Mf,sz,rows,hM,rfl,rfl⟩) hn
  ·have kG:=hc
   rw[ei]at kG
   obtain⟨c,ho,kQ,Gn,n9⟩:=CA kG
   refine K0 f _ (c.args.map a.eval) hX (oN E n9) ?_
   simp only[execOp,ho,resolve,kQ,Deferred.ofValue,Act.eval,Sem.run_bind,Sem.run_pure,Result.andThen_ok,invoke,Array.empty_append,Array.append_empty]
   exact jF Gn
 ·rename_i x args ei
  split at hv
  ·rename_i f dn hx
   have ug:vV (dd env x) (args.map (dd env))=some (f,args.map (dd env)++dn):=by rw[hx];rfl
   rcases hv with⟨r,hP,hn⟩|⟨_,hX⟩|⟨Mf,sz,rows,hM,hn⟩
   ·exact close r σ.get (by unfold VS;rw[ei];exact⟨f,_,ug,.inl ⟨hP,rfl⟩⟩) hn
   rotate_left
   ·exact close _ _ (by unfold VS;rw[ei];exact⟨f,_,ug,.inr ⟨Mf,sz,rows,hM,rfl,rfl⟩⟩) hn
   ·have kG:=hc
    rw[ei]at kG
    obtain⟨c,t,ho,kQ,rfl,n9⟩:=tz kG
    obtain⟨first,us,he,Gn,hL⟩:=vY (v:=a.eval (.tmp t)) ug (E t) (oN E n9)
    refine K0 f _ (first++c.args.map a.eval++us) hX hL ?_
    simp only[execOp,ho,resolve,kQ,he,Deferred.ofValue,Sem.run_bind,Sem.run_pure,Result.andThen_ok,invoke]
    exact jF Gn
  ·rename_i f dn hx
   have ug:vV (dd env x) (args.map (dd env))=some (f,dn++args.map (dd env)):=by rw[hx];rfl
   rcases hv with⟨r,hP,hn⟩|⟨_,hX⟩|⟨Mf,sz,rows,hM,hn⟩
   ·exact close r σ.get (by unfold VS;rw[ei];exact⟨f,_,ug,.inl ⟨hP,rfl⟩⟩) hn
   rotate_left
   ·exact close _ _ (by unfold VS;rw[ei];exact⟨f,_,ug,.inr ⟨Mf,sz,rows,hM,rfl,rfl⟩⟩) hn
   ·have kG:=hc
    rw[ei]at kG
    obtain⟨c,t,ho,kQ,rfl,n9⟩:=tz kG
    obtain⟨first,us,he,Gn,hL⟩:=vY (v:=a.eval (.tmp t)) ug (E t) (oN E n9)
    refine K0 f _ (first++c.args.map a.eval++us) hX hL ?_
    simp only[execOp,ho,resolve,kQ,he,Deferred.ofValue,Sem.run_bind,Sem.run_pure,Result.andThen_ok,invoke]
    exact jF Gn
  ·exact hv.elim
 ·rename_i m x y ei
  split at hv
  ·rename_i v' g' he
   exact close v' g' (by unfold VS;rw[ei];rw[ei]at he;exact he) hv
  ·exact hv.elim
 ·rename_i m x y ei
  split at hv
  ·rename_i v' g' he
   exact close v' g' (by unfold VS;rw[ei];rw[ei]at he;exact he) hv
  ·exact hv.elim
 ·rename_i m x y ei
  split at hv
  ·rename_i v' g' he
   exact close v' g' (by unfold VS;rw[ei];rw[ei]at he;exact he) hv
  ·exact hv.elim
 ·rename_i m x ei
  split at hv
  ·rename_i v' g' he
   exact close v' g' (by unfold VS;rw[ei];rw[ei]at he;exact he) hv
  ·exact hv.elim
 ·rename_i m x ei
  split at hv
  ·rename_i v' g' he
   exact close v' g' (by unfold VS;rw[ei];rw[ei]at he;exact he) hv
  ·exact hv.elim
 ·rename_i n1 n2 n3 n4 n5 n6 n7
  split at hv
  ·rename_i v' r hq
   refine close v' (bL σ.get ⟨vo.site,σ.next⟩ r) ?_ hv
   unfold VS
   split
   ·rename_i h;exact(n1 _ _ h).elim
   ·rename_i h;exact(n2 _ _ h).elim
   ·rename_i h;exact(n3 _ _ _ h).elim
   ·rename_i h;exact(n4 _ _ _ h).elim
   ·rename_i h;exact(n5 _ _ _ h).elim
   ·rename_i h;exact(n6 _ _ h).elim
   ·rename_i h;exact(n7 _ _ h).elim
   ·exact⟨some r,hq,rfl⟩
  ·rename_i v' hq
   refine close v' σ.get ?_ hv
   unfold VS
   split
   ·rename_i h;exact(n1 _ _ h).elim
   ·rename_i h;exact(n2 _ _ h).elim
   ·rename_i h;exact(n3 _ _ _ h).elim
   ·rename_i h;exact(n4 _ _ _ h).elim
   ·rename_i h;exact(n5 _ _ _ h).elim
   ·rename_i h;exact(n6 _ _ h).elim
   ·rename_i h;exact(n7 _ _ h).elim
   ·exact⟨none,hq,rfl⟩
  ·exact hv.elim
structure St (P:Program) (hs nt:Nat) (D:Nat->Prop) (ι:Names) (env:Env) (σ:ay) (a:Act) (w:World):Prop where
 Mi:gw P hs D ι σ.get w
 used:Used ι σ.next (fun _=>False)
 env:cX P w D ι env a
 size:a.tmps.size=nt
theorem Fi (rest:List Oper) {ops:Array Oper} {nt site0:Nat} {draw mk:Bool} {bs:Array Nat} {hidden:List (Nat×Bool)} {K:Env->ay->Prop} {Q:Exit->Act->World->Prop}:∀(l:List Oper) (vl:List bR) (j:Nat) (env:Env) (σ:ay) (a:Act) (w:World) (D:Nat->Prop) (ι:Names) (U:Nat->Prop),
  allM (mK P ops nt site0 draw mk bs hidden) l j=some vl->wpOps (Sound P) draw vl K env σ->gw P hs D ι σ.get w->Used ι σ.next U->(∀s,U s->s<site0+j)->cX P w D ι env a->a.tmps.size=nt->
  (∀iL σ' a' w' D' ι',K iL σ'->Step hs D ι w D' ι' w'->St P hs nt D' ι' iL σ' a' w'->a'.defers=a.defers->σ.next<=σ'.next->wpList P ops Q rest a' w')->wpList P ops Q (l++rest) a w:=by
 intro l
 induction l with
 |nil=>
  intro vl j env σ a w D ι U h hv S Us _ E fo hQ
  simp[allM]at h;subst h
  exact hQ env ⟨σ.get,σ.next+1⟩ a w D ι hv (Step.refl _ _ _ _) ⟨S,Us.next,E,fo⟩ rfl (Nat.le_succ _)
 |cons o l ih=>
  intro vl j env σ a w D ι U h hv S Us hU E fo hQ
  simp only[allM,Option.bind_eq_bind,Option.bind_eq_some_iff,Option.pure_def,Option.some.injEq]at h
  obtain⟨vo,kW,tP,oz,rfl⟩:=h
  obtain⟨hc,hd,Cr,yh,hg⟩:=pJ kW
  have hw:=tQ (ops:=ops) (vo:=vo) E hg
  unfold wpOps at hv
  show wpList P ops Q (o::(l++rest)) a w
  unfold wpList
  rw[<-hw]
  split at hv
  ·rename_i HS
   rw[if_pos HS]
   refine .inl (zC hc hv S Us (fun h=>by have:=hU _ h;omega) E fun v σ' u D' ι' w' hn T S' hR U' hle=>?_)
   refine ih tP (j+1) (upd env vo.dst v) σ' (a.put o.dst u) w' D' ι' _ oz hn S' U' (fun s Co=>by
    rcases Co with h|h
    ·have:=hU _ h;omega
    ·omega) (by rw[hd];exact ny (oW E T) hR yh fo) (by rw[lx];exact fo) fun iL σ2 a' w2 D2 ι2 hk T2 Pz EF nA=>hQ iL σ2 a' w2 D2 ι2 hk (T.trans T2) Pz (EF.trans (put_defers _ _ _)) (Nat.le_trans hle nA)
  ·rename_i HS
   rw[if_neg HS]
   refine ih tP (j+1) (upd env vo.dst .undef) σ (a.put o.dst undef) w D ι U oz hv S Us (fun s Co=>by have:=hU _ Co;omega) (by rw[hd];exact ny E dm.undef yh fo) (by rw[lx];exact fo) fun iL σ2 a' w2 D2 ι2 hk T2 Pz EF nA=>hQ iL σ2 a' w2 D2 ι2 hk T2 Pz (EF.trans (put_defers _ _ _)) nA
theorem Iq {ops:Array Oper} {nt site0:Nat} {draw mk:Bool} {bs:Array Nat} {hidden:List (Nat×Bool)} {K:Env->ay->Prop} {Q:Exit->Act->World->Prop}:∀(l:List Oper) (vl:List bR) (j:Nat) (env:Env) (σ:ay) (a:Act) (w:World) (D:Nat->Prop) (ι:Names) (U:Nat->Prop),
  allM (mK P ops nt site0 draw mk bs hidden) l j=some vl->wpOps (Sound P) draw vl K env σ->gw P hs D ι σ.get w->Used ι σ.next U->(∀s,U s->s<site0+j)->cX P w D ι env a->a.tmps.size=nt->
  (∀iL σ' a' w' D' ι',K iL σ'->Step hs D ι w D' ι' w'->St P hs nt D' ι' iL σ' a' w'->a'.defers=a.defers->σ.next<=σ'.next->Q .normal a' w')->wpList P ops Q l a w:=fun l vl j env σ a w D ι U h hv S Us hU E fo hQ=>by
 have:=Fi [] l vl j env σ a w D ι U h hv S Us hU E fo hQ
 rwa [List.append_nil]at this
end
end Go.Proofs.YtgoljkjaameagaaGreat.V

namespace Go.Proofs.YtgoljkjaameagaaGreat.V
open Go.RowKit
variable {P:Program} {w w':World} {D D' D2:Nat->Prop} {ι ι' ι2:Names}
section
variable {hs:Nat} {X:fX}
theorem bD {env ja:Env} {x:O} (h:∀t∈gZ x,env t=ja t):dd env x=dd ja x:=by
 cases x with
 |t n=>exact h n (by simp[gZ])
 |_=>rfl
theorem map_congr {env ja:Env} {l:List O} (h:∀t∈l.flatMap gZ,env t=ja t):l.map (dd env)=l.map (dd ja):=
 List.map_congr_left fun x hx=>bD fun t ht=>h t (List.mem_flatMap.2 ⟨x,hx,ht⟩)
theorem pT {env ja:Env} {x:Option O} (h:∀t∈xd x,env t=ja t):x.map (dd env)=x.map (dd ja):=by
 cases x with
 |none=>rfl
 |some y=>simp only[Option.map_some];rw[bD h]
theorem tH {env ja:Env} {o:gK} {g:Rows} {id:Id} (h:∀t∈o.gP,env t=ja t):eH o (dd env) g id=eH o (dd ja) g id:=by
 cases o<;>simp only[gK.gP,List.mem_append]at h<;>simp only[eH]
 case dv x=>rw[bD h]
 case pick c a b=>rw[bD (x:=c) fun t ht=>h t (.inl (.inl ht)),bD (x:=a) fun t ht=>h t (.inl (.inr ht)),bD (x:=b) fun t ht=>h t (.inr ht)]
 case box x=>rw[bD h]
 case build z ps=>
  have:(ps.map fun(x:Nat×Nat×O)=>(x.1,x.2.1,dd env x.2.2))=ps.map fun(x:Nat×Nat×O)=>(x.1,x.2.1,dd ja x.2.2):=List.map_congr_left fun x hx=>by
   rw[bD (x:=x.2.2) fun t ht=>h t (List.mem_flatMap.2 ⟨x,hx,ht⟩)]
  rw[this]
 case jS a b l=>rw[map_congr h]
 case load a n x=>rw[bD h]
 case zQ x=>rw[bD h]
 case bin a b x y=>rw[bD (x:=x) fun t ht=>h t (.inl ht),bD (x:=y) fun t ht=>h t (.inr ht)]
 case sh a x y=>rw[bD (x:=x) fun t ht=>h t (.inl ht),bD (x:=y) fun t ht=>h t (.inr ht)]
 case MC a x y=>rw[bD (x:=x) fun t ht=>h t (.inl ht),bD (x:=y) fun t ht=>h t (.inr ht)]
 case PZ a b x y=>rw[bD (x:=x) fun t ht=>h t (.inl ht),bD (x:=y) fun t ht=>h t (.inr ht)]
 case UW a b x y=>rw[bD (x:=x) fun t ht=>h t (.inl ht),bD (x:=y) fun t ht=>h t (.inr ht)]
 case SV a b x=>rw[bD h]
 case UX a x=>rw[bD h]
 case not x=>rw[bD h]
 case neg x=>rw[bD h]
 case conv k x=>rw[bD h]
 case F5 x=>rw[bD h]
 case slice s x lo hi=>rw[bD (x:=x) fun t ht=>h t (.inl (.inl ht)),pT (x:=lo) fun t ht=>h t (.inl (.inr ht)),pT (x:=hi) fun t ht=>h t (.inr ht)]
 case AW x lo hi=>rw[bD (x:=x) fun t ht=>h t (.inl (.inl ht)),pT (x:=lo) fun t ht=>h t (.inl (.inr ht)),pT (x:=hi) fun t ht=>h t (.inr ht)]
 case fN k x=>rw[bD h]
 case field a b c x=>rw[bD h]
 case ej s x y=>rw[bD (x:=x) fun t ht=>h t (.inl ht),bD (x:=y) fun t ht=>h t (.inr ht)]
 case Nw n s x y=>rw[bD (x:=x) fun t ht=>h t (.inl ht),bD (x:=y) fun t ht=>h t (.inr ht)]
 case Ny x y=>rw[bD (x:=x) fun t ht=>h t (.inl ht),bD (x:=y) fun t ht=>h t (.inr ht)]
 case eO a b c x y=>rw[bD (x:=x) fun t ht=>h t (.inl ht),bD (x:=y) fun t ht=>h t (.inr ht)]
 case extract i x=>rw[bD h]
 case len x=>rw[bD h]
 case NK x=>rw[bD h]
 case KR x=>rw[bD h]
 case KI x=>rw[bD h]
 case NS f l=>rw[map_congr h]
 case NT f l=>rw[map_congr h]
 case mq f l=>rw[map_congr h]
 case j9 z x y=>rw[bD (x:=x) fun t ht=>h t (.inl ht),bD (x:=y) fun t ht=>h t (.inr ht)]
theorem ig {env ja:Env} {o:gK} {g:Rows} {id:Id} (h:∀t∈o.gP,env t=ja t):fE o (dd env) g id=fE o (dd ja) g id:=by
 cases o<;>simp only[gK.gP,List.mem_append]at h<;>simp only[fE]
 case clear z x=>rw[bD h]
 case mw f l=>rw[map_congr h]
 all_goals rename_i a x y
 all_goals rw[bD (x:=x) fun t ht=>h t (.inl ht),bD (x:=y) fun t ht=>h t (.inr ht)]
theorem Jo {n:Nat} {vo:bR} {env ja:Env} {g g':Rows} {v:AV} (h:∀t∈vo.op.gP,env t=ja t) (hv:VS X n vo env g v g'):VS X n vo ja g v g':=by
 unfold VS at hv ⊢
 split at hv
 ·rename_i f args ei
  rw[ei]at h
  simp only[gK.gP]at h
  rw[<-map_congr h];exact hv
 ·rename_i x args ei
  rw[ei]at h
  simp only[gK.gP,List.mem_append]at h
  rw[<-map_congr (l:=args) fun t ht=>h t (.inr ht),<-bD (x:=x) fun t ht=>h t (.inl ht)];exact hv
 ·rw[<-ig h];exact hv
 ·rw[<-ig h];exact hv
 ·rw[<-ig h];exact hv
 ·rw[<-ig h];exact hv
 ·rw[<-ig h];exact hv
 ·rw[<-tH h];exact hv
theorem Fc {q:MQ} {vs:List AV} {g:Rows} {id:Id} {v:AV} {r:Row} (h:bw q vs g id=some (v,some r)):∃m,q=.new m:=by
 unfold bw at h
 split at h
 ·exact⟨_,rfl⟩
 ·simp[Option.bind_eq_some_iff]at h
 ·simp at h
 ·cases h
theorem xj {o:gK} {ρ:O->AV} {g:Rows} {id:Id} {v:AV} {r:Row} (h:eH o ρ g id=some (v,some r)):rD o=true:=by
 cases o<;>simp only[eH]at h<;>(try rfl)<;>(try simp at h)
 case mq q xs=>obtain⟨m,rfl⟩:=Fc h;rfl
 all_goals (try(split at h<;>simp at h))
theorem xk {o:gK} {ρ:O->AV} {g g2:Rows} {id id2:Id} (h:o.cls=.pure):eH o ρ g id=eH o ρ g2 id2:=by
 cases o<;>(try simp[gK.cls]at h)<;>(try simp only[eH])
 case mq q xs=>cases q<;>simp[gK.cls]at h
theorem vP {n:Nat} {vo:bR} {env:Env} {g g':Rows} {v:AV} (hw:vo.op.cls≠.write) (hv:VS X n vo env g v g'):∃mr,g'=jq g ⟨vo.site,n⟩ mr/\(mr≠none->vo.makes=true)/\∀g0,fD vo.hid n g0=fD vo.hid n g->VS X n vo env g0 v (jq g0 ⟨vo.site,n⟩ mr):=by
 unfold VS at hv
 split at hv
 ·rename_i f args ei
  rcases hv with⟨h1,rfl⟩|⟨hs,sz,rows,hM,rfl,rfl⟩
  ·refine⟨none,rfl,fun h=>(h rfl).elim,fun g0 h0=>?_⟩
   unfold VS;rw[ei];simp only;unfold vW;rw[h0];exact .inl ⟨h1,rfl⟩
  ·refine⟨some _,rfl,fun _=>by unfold bR.makes;rw[ei,hs];simp[gK.ml],fun g0 h0=>?_⟩
   unfold VS;rw[ei];simp only;unfold vW;rw[h0];exact .inr ⟨hs,sz,rows,hM,rfl,rfl⟩
 ·rename_i x args ei
  obtain⟨f,dn,hx,hv⟩:=hv
  rcases hv with⟨h1,rfl⟩|⟨hs,sz,rows,hM,rfl,rfl⟩
  ·refine⟨none,rfl,fun h=>(h rfl).elim,fun g0 h0=>?_⟩
   unfold VS;rw[ei];simp only;unfold vW;rw[h0];exact⟨f,dn,hx,.inl ⟨h1,rfl⟩⟩
  ·refine⟨some _,rfl,fun _=>by unfold bR.makes;rw[ei,hs];simp[gK.ml],fun g0 h0=>?_⟩
   unfold VS;rw[ei];simp only;unfold vW;rw[h0];exact⟨f,dn,hx,.inr ⟨hs,sz,rows,hM,rfl,rfl⟩⟩
 ·rename_i ei;rw[ei]at hw;exact(hw rfl).elim
 ·rename_i ei;rw[ei]at hw;exact(hw rfl).elim
 ·rename_i ei;rw[ei]at hw;exact(hw rfl).elim
 ·rename_i ei;rw[ei]at hw;exact(hw rfl).elim
 ·rename_i ei;rw[ei]at hw;exact(hw rfl).elim
 ·rename_i n1 n2 n3 n4 n5 n6 n7
  obtain⟨mr,hq,rfl⟩:=hv
  refine⟨mr,rfl,fun h=>?_,fun g0 h0=>?_⟩
  ·cases mr with
   |none=>exact(h rfl).elim
   |some r=>unfold bR.makes;rw[xj hq];rfl
  ·unfold VS
   split
   ·rename_i hh;exact(n1 _ _ hh).elim
   ·rename_i hh;exact(n2 _ _ hh).elim
   ·rename_i hh;exact(n3 _ _ _ hh).elim
   ·rename_i hh;exact(n4 _ _ _ hh).elim
   ·rename_i hh;exact(n5 _ _ _ hh).elim
   ·rename_i hh;exact(n6 _ _ hh).elim
   ·rename_i hh;exact(n7 _ _ hh).elim
   ·rw[h0];exact⟨mr,hq,rfl⟩
theorem zG {n:Nat} {vo:bR} {env:Env} {g g':Rows} {v:AV} (hp:vo.op.cls=.pure) (hv:VS X n vo env g v g'):g'=g/\∀g0,VS X n vo env g0 v g0:=by
 unfold VS at hv
 split at hv
 ·rename_i ei;rw[ei]at hp;simp[gK.cls]at hp
 ·rename_i ei;rw[ei]at hp;simp[gK.cls]at hp
 ·rename_i ei;rw[ei]at hp;simp[gK.cls]at hp
 ·rename_i ei;rw[ei]at hp;simp[gK.cls]at hp
 ·rename_i ei;rw[ei]at hp;simp[gK.cls]at hp
 ·rename_i ei;rw[ei]at hp;simp[gK.cls]at hp
 ·rename_i ei;rw[ei]at hp;simp[gK.cls]at hp
 ·rename_i n1 n2 n3 n4 n5 n6 n7
  obtain⟨mr,hq,rfl⟩:=hv
  have Xk:mr=none:=by
   cases mr with
   |none=>rfl
   |some r=>have:=xj hq;simp[rD,hp]at this
  subst Xk
  refine⟨rfl,fun g0=>?_⟩
  unfold VS
  split
  ·rename_i hh;exact(n1 _ _ hh).elim
  ·rename_i hh;exact(n2 _ _ hh).elim
  ·rename_i hh;exact(n3 _ _ _ hh).elim
  ·rename_i hh;exact(n4 _ _ _ hh).elim
  ·rename_i hh;exact(n5 _ _ _ hh).elim
  ·rename_i hh;exact(n6 _ _ hh).elim
  ·rename_i hh;exact(n7 _ _ hh).elim
  ·exact⟨none,by rw[xk hp];exact hq,rfl⟩
def GS (X:fX) (n:Nat) (vo:bR) (env:Env) (g:Rows) (v:AV) (g':Rows):Prop:=
 if aI vo.guard env then VS X n vo env g v g' else v=.undef/\g'=g
theorem Dp {hid:List Nat} {g:Rows} {s n:Nat} {mr:Option Row} (h:mr≠none->hid.contains s=true):fD hid n (jq g ⟨s,n⟩ mr)=fD hid n g:=by
 cases mr with
 |none=>rfl
 |some r=>
  have hc:=h (by simp)
  cases hid with
  |nil=>simp at hc
  |cons a l=>
   funext i
   show(if (a::l).contains i.site=true/\i.br=n then none else jq g ⟨s,n⟩ (some r) i)=if (a::l).contains i.site=true/\i.br=n then none else g i
   by_cases hi:i=⟨s,n⟩
   ·subst hi;rw[if_pos ⟨hc,rfl⟩,if_pos ⟨hc,rfl⟩]
   ·simp only[jq,bL,if_neg hi]
theorem G8 {g:Rows} {i j:Id} (h:i≠j) (m1 m2:Option Row):jq (jq g i m1) j m2=jq (jq g j m2) i m1:=by
 cases m1<;>cases m2<;>simp only[jq]
 funext k
 simp only[bL]
 by_cases h1:k=i
 ·subst h1;rw[if_neg h,if_pos rfl];simp
 ·by_cases h2:k=j
  ·subst h2;simp[h1]
  ·simp[h1,h2]
theorem xN {env:Env} {d e:Option Nat} {v u:AV} (h:∀k,d=some k->e≠some k):upd (upd env d v) e u=upd (upd env e u) d v:=by
 cases d with
 |none=>rfl
 |some d=>
  cases e with
  |none=>rfl
  |some e=>
   have ij:d≠e:=fun he=>h d rfl (by rw[he])
   funext t
   simp only[upd]
   by_cases h1:t=d
   ·subst h1;rw[if_neg ij,if_pos rfl,if_pos rfl]
   ·by_cases h2:t=e
    ·subst h2;rw[if_pos rfl,if_neg h1,if_pos rfl]
    ·simp[h1,h2]
theorem nh {env:Env} {d:Option Nat} {v:AV} {l:List Nat} (h:∀k,d=some k->k∉l):∀t∈l,upd env d v t=env t:=by
 intro t ht
 cases d with
 |none=>rfl
 |some d=>
  have:t≠d:=fun he=>h d rfl (he▸ht)
  simp[upd,this]
structure DM (x y:bR):Prop where
 xy:∀k,x.dst=some k->k∉y.gP
 yx:∀k,y.dst=some k->k∉x.gP
 dst:∀k,x.dst=some k->y.dst≠some k
 cls:clash x.op.cls y.op.cls=false
 hx:x.makes=true->y.hid.contains x.site=true
 hy:y.makes=true->x.hid.contains y.site=true
 site:x.site≠y.site
theorem DM.symm {x y:bR} (h:DM x y):DM y x:=
 ⟨h.yx,h.xy,fun k hk he=>h.dst k he hk,by have:=h.cls;revert this;cases x.op.cls<;>cases y.op.cls<;>simp[clash],h.hy,h.hx,fun e=>h.site e.symm⟩
theorem q9 {x y:bR} (h:Gg x y=true):DM x y:=by
 unfold Gg at h
 simp only[Bool.and_eq_true,Bool.not_eq_true',Bool.or_eq_true,bne_iff_ne]at h
 obtain⟨⟨⟨⟨h1,h2⟩,h3⟩,h4⟩,h5⟩:=h
 unfold tO at h1
 simp only[Bool.and_eq_true]at h1
 obtain⟨a1,a2⟩:=h1
 refine⟨fun k hk=>?_,fun k hk=>?_,fun k hk=>?_,h2,fun hm=>?_,fun hm=>?_,h5⟩
 ·rw[hk]at a1;simp at a1;exact a1.1
 ·rw[hk]at a2;simpa using a2
 ·rw[hk]at a1;simp at a1;exact a1.2
 ·rcases h3 with h3|h3
  ·rw[hm]at h3;cases h3
  ·exact h3
 ·rcases h4 with h4|h4
  ·rw[hm]at h4;cases h4
  ·exact h4
theorem sP {vo:bR} {t:Nat} (h:t∈vo.op.gP):t∈vo.gP:=List.mem_append_left _ h
theorem nP {vo:bR} {env ja:Env} (h:∀t∈vo.gP,env t=ja t):aI vo.guard env=aI vo.guard ja:=by
 unfold aI
 cases hg:vo.guard with
 |none=>rfl
 |some p=>
  obtain⟨t,b⟩:=p
  have:env t=ja t:=h t (List.mem_append_right _ (by rw[hg];simp))
  simp only[this]
theorem vJ {n:Nat} {vo:bR} {env ja:Env} {g g':Rows} {v:AV} (h:∀t∈vo.gP,env t=ja t) (hv:GS X n vo env g v g'):GS X n vo ja g v g':=by
 unfold GS at hv ⊢
 rw[<-nP h]
 split at hv
 ·rename_i hw;rw[if_pos hw];exact Jo (fun t ht=>h t (sP ht)) hv
 ·rename_i hw;rw[if_neg hw];exact hv
theorem FU {n:Nat} {x y:bR} {env:Env} {g g1 g2:Rows} {v v':AV} (F:DM x y) (h1:GS X n x env g v g1) (h2:GS X n y (upd env x.dst v) g1 v' g2):
  ∃MO,GS X n y env g v' MO/\GS X n x (upd env y.dst v') MO v g2/\upd (upd env x.dst v) y.dst v'=upd (upd env y.dst v') x.dst v:=by
 have Kx:=xN (env:=env) (v:=v) (u:=v') F.dst
 replace h2:GS X n y env g1 v' g2:=vJ (nh F.xy) h2
 have back:∀{MO},GS X n x env MO v g2->GS X n x (upd env y.dst v') MO v g2:=fun h=>vJ (fun t ht=>(nh F.yx t ht).symm) h
 unfold GS at h1 h2
 by_cases wx:aI x.guard env=true
 ·rw[if_pos wx]at h1
  by_cases wy:aI y.guard env=true
  ·rw[if_pos wy]at h2
   by_cases cx:x.op.cls=.write
   ·have cy:y.op.cls=.pure:=by
     have:=F.cls;rw[cx]at this
     cases hc:y.op.cls<;>simp[clash,hc]at this ⊢
    obtain⟨rfl,eh⟩:=zG cy h2
    exact⟨g,by unfold GS;rw[if_pos wy];exact eh g,back (by unfold GS;rw[if_pos wx];exact h1),Kx⟩
   ·by_cases cy:y.op.cls=.write
    ·have cx':x.op.cls=.pure:=by
      have:=F.cls;rw[cy]at this
      cases hc:x.op.cls<;>simp[clash,hc]at this ⊢
     obtain⟨rfl,eh⟩:=zG cx' h1
     exact⟨g2,by unfold GS;rw[if_pos wy];exact h2,back (by unfold GS;rw[if_pos wx];exact eh g2),Kx⟩
    ·obtain⟨mx,rfl,kx,V0⟩:=vP cx h1
     obtain⟨my,rfl,ky,PG⟩:=vP cy h2
     have ij:(⟨x.site,n⟩:Id)≠⟨y.site,n⟩:=fun e=>F.site (by injection e)
     refine⟨jq g ⟨y.site,n⟩ my,?_,back ?_,Kx⟩
     ·unfold GS;rw[if_pos wy]
      exact PG g (Dp fun h=>F.hx (kx h)).symm
     ·unfold GS;rw[if_pos wx,G8 ij]
      exact V0 _ (Dp fun h=>F.hy (ky h))
  ·rw[if_neg wy]at h2
   obtain⟨rfl,rfl⟩:=h2
   exact⟨g,by unfold GS;rw[if_neg wy];exact⟨rfl,rfl⟩,back (by unfold GS;rw[if_pos wx];exact h1),Kx⟩
 ·rw[if_neg wx]at h1
  obtain⟨rfl,rfl⟩:=h1
  exact⟨g2,h2,back (by unfold GS;rw[if_neg wx];exact⟨rfl,rfl⟩),Kx⟩
end
end Go.Proofs.YtgoljkjaameagaaGreat.V

namespace Go.Proofs.YtgoljkjaameagaaGreat.V
open Go.RowKit
variable {P:Program} {w w':World} {D D' D2:Nat->Prop} {ι ι' ι2:Names}
section
variable {hs:Nat} {X:fX}
def jr (acc:Array Nat) (o:Oper):Nat:=o.after.foldl (fun s e=>if Region.binds .any e then s|||2 ^ e.on|||acc.getD e.on 0 else s) 0
theorem My (ops:Array Oper):jH ops=ops.foldl (fun acc o=>acc.push (jr acc o)) #[]:=rfl
theorem BF {acc:Array Nat} {o:Oper} {i:Nat} (h:(jr acc o).testBit i=true):∃e∈o.after,Region.binds .any e=true/\(e.on=i∨(acc.getD e.on 0).testBit i=true):=by
 unfold jr at h
 rw[<-Array.foldl_toList]at h
 have gen:∀(l:List Edge) (s:Nat),(l.foldl (fun s e=>if Region.binds .any e then s|||2 ^ e.on|||acc.getD e.on 0 else s) s).testBit i=true->s.testBit i=true∨∃e∈l,Region.binds .any e=true/\(e.on=i∨(acc.getD e.on 0).testBit i=true):=by
  intro l
  induction l with
  |nil=>intro s h;exact .inl h
  |cons e r ih=>
   intro s h
   rw[List.foldl_cons]at h
   rcases ih _ h with h|⟨e',Af,h'⟩
   ·by_cases hb:Region.binds .any e=true
    ·rw[if_pos hb]at h
     simp only[Nat.testBit_or,Bool.or_eq_true]at h
     rcases h with(h|h)|h
     ·exact .inl h
     ·refine .inr ⟨e,by simp,hb,.inl ?_⟩
      rw[Nat.testBit_two_pow]at h
      simpa using h
     ·exact .inr ⟨e,by simp,hb,.inr h⟩
    ·rw[if_neg hb]at h;exact .inl h
   ·exact .inr ⟨e',List.mem_cons_of_mem _ Af,h'⟩
 rcases gen _ _ h with h|⟨e,he,h⟩
 ·simp at h
 ·exact⟨e,Array.mem_toList_iff.1 he,h⟩
theorem JA {ops:Array Oper} {j i:Nat} (h:((jH ops).getD j 0).testBit i=true):∃o,ops[j]? =some o/\∃e∈o.after,Region.binds .any e=true/\(e.on=i∨((jH ops).getD e.on 0).testBit i=true):=by
 have key:∀(l pre:List Oper) (acc:Array Nat),acc.size=pre.length->(∀j i,(acc.getD j 0).testBit i=true->∃o,pre[j]? =some o/\∃e∈o.after,Region.binds .any e=true/\(e.on=i∨(acc.getD e.on 0).testBit i=true))->
   ∀j i,((l.foldl (fun acc o=>acc.push (jr acc o)) acc).getD j 0).testBit i=true->∃o,(pre++l)[j]? =some o/\∃e∈o.after,Region.binds .any e=true/\(e.on=i∨((l.foldl (fun acc o=>acc.push (jr acc o)) acc).getD e.on 0).testBit i=true):=by
  intro l
  induction l with
  |nil=>intro pre acc _ h j i hb;simpa using h j i hb
  |cons o r ih=>
   intro pre acc fo h j i hb
   have C2:∀k,k<acc.size->(acc.push (jr acc o)).getD k 0=acc.getD k 0:=fun k hk=>by
    simp only[Array.getD_eq_getD_getElem?,Array.getElem?_push]
    rw[if_neg (by omega)]
   have big:∀k,acc.size<=k->acc.getD k 0=0:=fun k hk=>by simp[Array.getElem?_eq_none hk]
   have lift:∀k i,(acc.getD k 0).testBit i=true->((acc.push (jr acc o)).getD k 0).testBit i=true:=fun k i hk=>by
    by_cases eo:k<acc.size
    ·rw[C2 k eo];exact hk
    ·rw[big k (by omega)]at hk;simp at hk
   have:=ih (pre++[o]) (acc.push (jr acc o)) (by simp[fo]) (fun j i hb=>by
    by_cases eo:j<acc.size
    ·rw[C2 j eo]at hb
     obtain⟨o',Bj,e,he,fJ,h2⟩:=h j i hb
     refine⟨o',by rw[List.getElem?_append_left (by omega)];exact Bj,e,he,fJ,?_⟩
     rcases h2 with h2|h2
     ·exact .inl h2
     ·exact .inr (lift _ _ h2)
    ·by_cases hj:j=acc.size
     ·subst hj
      have e0:(acc.push (jr acc o)).getD acc.size 0=jr acc o:=by simp
      rw[e0]at hb
      obtain⟨e,he,fJ,h2⟩:=BF hb
      refine⟨o,by rw[List.getElem?_append_right (by omega),fo];simp,e,he,fJ,?_⟩
      rcases h2 with h2|h2
      ·exact .inl h2
      ·exact .inr (lift _ _ h2)
     ·have:(acc.push (jr acc o)).getD j 0=0:=by
       simp only[Array.getD_eq_getD_getElem?]
       rw[Array.getElem?_eq_none (by simp;omega)];rfl
      rw[this]at hb;simp at hb) j i (by simpa using hb)
   simpa using this
 rw[My,<-Array.foldl_toList]at h ⊢
 have:=key ops.toList [] #[] rfl (fun j i h=>by simp at h) j i h
 simpa using this
def DC (ops:Array Oper) (listed:Array Bool):Prop:=∀k i,listed.getD k false=true->((jH ops).getD k 0).testBit i=true->listed.getD i false=true
theorem lz {ops:Array Oper} {listed:Array Bool} (h:DC ops listed) {j:Nat} (hj:j∈Region.ready .any ops listed):∀i,((jH ops).getD j 0).testBit i=true->listed.getD i false=true:=by
 intro i hb
 obtain⟨_,o,ho,eh⟩:=mem_ready.1 hj
 obtain⟨o',Bj,e,he,fJ,h2⟩:=JA hb
 rw[ho]at Bj;injection Bj with Bj;subst Bj
 have hl:=eh e he fJ
 rcases h2 with h2|h2
 ·rw[<-h2];exact hl
 ·exact h _ _ hl h2
theorem DC.list {ops:Array Oper} {listed:Array Bool} (h:DC ops listed) {j:Nat} (hj:j∈Region.ready .any ops listed):DC ops (listed.setIfInBounds j true):=by
 intro k i hk hb
 by_cases hkj:k=j
 ·subst hkj;exact getD_set_true (lz h hj i hb)
 ·rw[getD_set_ne false (fun e=>hkj e.symm)]at hk
  exact getD_set_true (h k i hk hb)
theorem jg {ops:Array Oper} {listed:Array Bool} {j:Nat} (hj:j∈Region.ready .any ops listed):listed.getD j false=false:=by
 have h0:=(mem_ready.1 hj).1
 rcases Nat.lt_or_ge j listed.size with h|h
 ·simp[h]at h0 ⊢;exact h0
 ·simp[Array.getElem?_eq_none h]at h0
def LP (X:fX) (n:Nat) (ops:Array Oper) (vl:List bR) (K:Env->Rows->Prop):Nat->Array Bool->Env->Rows->Prop
 |0,listed,env,g=>Region.ready .any ops listed=[]/\K env g
 |f+1,listed,env,g=>(Region.ready .any ops listed=[]->K env g)/\∀i∈Region.ready .any ops listed,∃vo,vl[i]? =some vo/\∃v g',GS X n vo env g v g'/\LP X n ops vl K f (listed.setIfInBounds i true) (upd env vo.dst v) g'
theorem BU {ops:Array Oper} {vl:List bR} (h:oV ops vl (jH ops)=true) {i j:Nat} {x y:bR} (hi:vl[i]? =some x) (hj:vl[j]? =some y) (EM:i≠j) (h1:((jH ops).getD j 0).testBit i=false) (h2:((jH ops).getD i 0).testBit j=false):DM x y:=by
 unfold oV at h
 simp only[Bool.and_eq_true,List.all_eq_true]at h
 obtain⟨_,h⟩:=h
 have mem:∀(k:Nat) (z:bR),vl[k]? =some z->(z,k)∈vl.zipIdx:=fun k z hk=>by
  rw[List.mem_iff_getElem?]
  exact⟨k,by simp[List.getElem?_zipIdx,hk]⟩
 rcases Nat.lt_or_gt_of_ne EM with eo|M3
 ·have:=h _ (mem j y hj) _ (mem i x hi)
  simp only[eo,decide_true,Bool.not_true,Bool.false_or,h1]at this
  exact q9 this
 ·have:=h _ (mem i x hi) _ (mem j y hj)
  simp only[M3,decide_true,Bool.not_true,Bool.false_or,h2]at this
  exact(q9 this).symm
theorem FO {n:Nat} {ops:Array Oper} {vl:List bR} {K:Env->Rows->Prop} (wI:oV ops vl (jH ops)=true) (hlen:vl.length=ops.size) {i:Nat} {vi:bR} (hi:vl[i]? =some vi) {v:AV}:∀(fuel:Nat) (listed:Array Bool) (env:Env) (g g1:Rows),
  DC ops listed->i∈Region.ready .any ops listed->GS X n vi env g v g1->LP X n ops vl K fuel (listed.setIfInBounds i true) (upd env vi.dst v) g1->LP X n ops vl K (fuel+1) listed env g:=by
 intro fuel
 induction fuel with
 |zero=>
  intro listed env g g1 _ hr hG H
  refine⟨fun h=>(by rw[h]at hr;cases hr),fun j hj=>?_⟩
  by_cases ni:j=i
  ·subst ni;exact⟨vi,hi,v,g1,hG,H⟩
  ·have:=ready_mono hj ni
   rw[H.1]at this;cases this
 |succ fuel ih=>
  intro listed env g g1 s5 hr hG H
  refine⟨fun h=>(by rw[h]at hr;cases hr),fun j hj=>?_⟩
  by_cases ni:j=i
  ·subst ni;exact⟨vi,hi,v,g1,hG,H⟩
  ·obtain⟨vj,Nt,v',g2,hG2,H2⟩:=H.2 j (ready_mono hj ni)
   have b1:((jH ops).getD j 0).testBit i=false:=by
    cases hb:((jH ops).getD j 0).testBit i with
    |false=>rfl
    |true=>have:=lz s5 hj i hb;rw[jg hr]at this;cases this
   have b2:((jH ops).getD i 0).testBit j=false:=by
    cases hb:((jH ops).getD i 0).testBit j with
    |false=>rfl
    |true=>have:=lz s5 hr j hb;rw[jg hj]at this;cases this
   have F:=BU wI hi Nt (fun e=>ni e.symm) b1 b2
   obtain⟨MO,q1,q2,q3⟩:=FU F hG hG2
   refine⟨vj,Nt,v',MO,q1,ih _ _ _ g2 (s5.list hj) (ready_mono hr (fun e=>ni e.symm)) q2 ?_⟩
   rw[<-q3,Array.setIfInBounds_comm _ _ ni]
   exact H2
theorem PA {n:Nat} {vo:bR} {env:Env} {g:Rows} {v:AV} {mr:Option Row} (h:eH vo.op (dd env) (fD vo.hid n g) ⟨vo.site,n⟩=some (v,mr)):VS X n vo env g v (jq g ⟨vo.site,n⟩ mr):=by
 unfold VS
 split
 ·rename_i ei;rw[ei]at h;simp[eH]at h
 ·rename_i ei;rw[ei]at h;simp[eH]at h
 ·rename_i ei;rw[ei]at h;simp[eH]at h
 ·rename_i ei;rw[ei]at h;simp[eH]at h
 ·rename_i ei;rw[ei]at h;simp[eH]at h
 ·rename_i ei;rw[ei]at h;simp[eH]at h
 ·rename_i ei;rw[ei]at h;simp[eH]at h
 ·exact⟨mr,h,rfl⟩
theorem Jp {n:Nat} {vo:bR} {env:Env} {g g':Rows} {v:AV} (h:fE vo.op (dd env) g ⟨vo.site,n⟩=some (v,g')):VS X n vo env g v g':=by
 unfold VS
 split
 ·rename_i ei;rw[ei]at h;simp[fE]at h
 ·rename_i ei;rw[ei]at h;simp[fE]at h
 ·exact h
 ·exact h
 ·exact h
 ·exact h
 ·exact h
 ·rename_i n1 n2 n3 n4 n5 n6 n7
  exfalso
  unfold fE at h
  split at h
  ·rename_i hh;exact n3 _ _ _ hh
  ·rename_i hh;exact n4 _ _ _ hh
  ·rename_i hh;exact n5 _ _ _ hh
  ·rename_i hh;exact n6 _ _ hh
  ·rename_i hh;exact n7 _ _ hh
  ·simp at h
theorem Rz {vo:bR} {env:Env} {σ:ay} {next:AV->ay->Prop} (hv:fw X true vo env σ next):∃v g',VS X σ.next vo env σ.get v g'/\next v ⟨g',σ.next⟩:=by
 unfold fw at hv
 split at hv
 ·rename_i f args ei
  rcases hv with⟨r,hP,hn⟩|⟨h,_⟩|⟨hs,sz,rows,hM,hn⟩
  ·exact⟨r,σ.get,by unfold VS;rw[ei];exact .inl ⟨hP,rfl⟩,hn⟩
  ·cases h
  ·exact⟨_,_,by unfold VS;rw[ei];exact .inr ⟨hs,sz,rows,hM,rfl,rfl⟩,hn⟩
 ·rename_i x args ei
  split at hv
  ·rename_i f dn hx
   have ug:vV (dd env x) (args.map (dd env))=some (f,args.map (dd env)++dn):=by rw[hx];rfl
   rcases hv with⟨r,hP,hn⟩|⟨h,_⟩|⟨hs,sz,rows,hM,hn⟩
   ·exact⟨r,σ.get,by unfold VS;rw[ei];exact⟨f,_,ug,.inl ⟨hP,rfl⟩⟩,hn⟩
   ·cases h
   ·exact⟨_,_,by unfold VS;rw[ei];exact⟨f,_,ug,.inr ⟨hs,sz,rows,hM,rfl,rfl⟩⟩,hn⟩
  ·rename_i f dn hx
   have ug:vV (dd env x) (args.map (dd env))=some (f,dn++args.map (dd env)):=by rw[hx];rfl
   rcases hv with⟨r,hP,hn⟩|⟨h,_⟩|⟨hs,sz,rows,hM,hn⟩
   ·exact⟨r,σ.get,by unfold VS;rw[ei];exact⟨f,_,ug,.inl ⟨hP,rfl⟩⟩,hn⟩
   ·cases h
   ·exact⟨_,_,by unfold VS;rw[ei];exact⟨f,_,ug,.inr ⟨hs,sz,rows,hM,rfl,rfl⟩⟩,hn⟩
  ·exact hv.elim
 ·split at hv
  ·rename_i v g h;exact⟨v,g,Jp h,hv⟩
  ·exact hv.elim
 ·split at hv
  ·rename_i v g h;exact⟨v,g,Jp h,hv⟩
  ·exact hv.elim
 ·split at hv
  ·rename_i v g h;exact⟨v,g,Jp h,hv⟩
  ·exact hv.elim
 ·split at hv
  ·rename_i v g h;exact⟨v,g,Jp h,hv⟩
  ·exact hv.elim
 ·split at hv
  ·rename_i v g h;exact⟨v,g,Jp h,hv⟩
  ·exact hv.elim
 ·split at hv
  ·rename_i v r h;exact⟨v,_,PA h,hv⟩
  ·rename_i v h;exact⟨v,_,PA h,hv⟩
  ·exact hv.elim
theorem xO {ops:Array Oper} {vl:List bR} {K:Env->ay->Prop} {n:Nat} (wI:oV ops vl (jH ops)=true) (hlen:vl.length=ops.size):∀(r:List bR) (k:Nat) (listed:Array Bool) (env:Env) (g:Rows),
  (∀j,r[j]? =vl[k+j]?)->listed.size=ops.size->(∀i,i<ops.size->listed[i]? =some (decide (i<k)))->k+r.length=ops.size->DC ops listed->wpOps X true r K env ⟨g,n⟩->LP X n ops vl (fun env g=>K env ⟨g,n+1⟩) r.length listed env g
 |[],k,listed,env,g,_,fo,hl,hk,_,hv=>by
  refine⟨?_,hv⟩
  rw[List.eq_nil_iff_forall_not_mem]
  intro j hj
  obtain⟨h0,o,ho,_⟩:=mem_ready.1 hj
  have eo:j<ops.size:=(Array.getElem?_eq_some_iff.1 ho).1
  have:=hl j eo
  simp at hk
  simp[this,show j<k by omega]at h0
 |vo::r,k,listed,env,g,hr,fo,hl,hk,s5,hv=>by
  simp only[List.length_cons]at hk
  have kW:vl[k]? =some vo:=by simpa using(hr 0).symm
  have kM:k<ops.size:=by omega
  have Kr:k∈Region.ready .any ops listed:=by
   rw[mem_ready]
   refine⟨by simp[hl k kM],ops[k],Array.getElem?_eq_getElem kM,fun e he hb=>?_⟩
   unfold oV F9 at wI
   simp only[Bool.and_eq_true,List.all_eq_true]at wI
   have hm:(ops[k],k)∈ops.toList.zipIdx:=by
    rw[List.mem_iff_getElem?]
    exact⟨k,by simp[List.getElem?_zipIdx,kM]⟩
   have:=wI.1 _ hm
   rw[Array.all_eq_true_iff_forall_mem]at this
   have:=this e he
   simp only[hb,Bool.not_true,Bool.false_or,decide_eq_true_eq]at this
   simp[hl e.on (by omega),this]
  have hGS:∃v g',GS X n vo env g v g'/\wpOps X true r K (upd env vo.dst v) ⟨g',n⟩:=by
   unfold wpOps at hv
   unfold GS
   split at hv
   ·rename_i hw
    simp only[hw,if_true]
    exact Rz hv
   ·rename_i hw
    simp only[hw]
    exact⟨.undef,g,⟨rfl,rfl⟩,hv⟩
  obtain⟨v,g',h1,h2⟩:=hGS
  refine FO wI hlen kW r.length listed env g g' s5 Kr h1 ?_
  refine xO wI hlen r (k+1) _ _ _ (fun j=>by have:=hr (j+1);simpa[Nat.add_assoc,Nat.add_comm 1 j]using this) (by simp[fo]) (fun i hi=>?_) (by omega) (s5.list Kr) h2
  by_cases u7:i=k
  ·subst u7;simp[fo,kM]
  ·rw[Array.getElem?_setIfInBounds_ne (fun e=>u7 e.symm),hl i hi]
   congr 1
   have:(i<k)=(i<k+1):=by apply propext;omega
   simp[this]
theorem oM {f:Nat->Oper->Option bR}:∀{l:List Oper} {vl:List bR} {j:Nat},allM f l j=some vl->vl.length=l.length/\∀(i:Nat) (o:Oper),l[i]? =some o->∃vo,vl[i]? =some vo/\f (j+i) o=some vo
 |[],vl,j,h=>by simp[allM]at h;subst h;simp
 |o::l,vl,j,h=>by
  simp only[allM,Option.bind_eq_bind,Option.bind_eq_some_iff,Option.pure_def,Option.some.injEq]at h
  obtain⟨vo,kW,tP,oz,rfl⟩:=h
  obtain⟨h1,h2⟩:=oM oz
  refine⟨by simp[h1],fun i o' hi=>?_⟩
  cases i with
  |zero=>simp at hi;subst hi;exact⟨vo,rfl,kW⟩
  |succ i=>
   simp at hi
   obtain⟨q,hq,hf⟩:=h2 i o' hi
   exact⟨q,by simpa using hq,by rw[<-hf];congr 1;omega⟩
theorem yF {ops:Array Oper} {vl:List bR} {nt site0:Nat} {draw mk:Bool} {bs:Array Nat} {hidden:List (Nat×Bool)} {n:Nat} {K:Env->Rows->Prop} {Q:Exit->Act->World->Prop} (eh:allM (mK P ops nt site0 draw mk bs hidden) ops.toList 0=some vl):
  ∀(fuel:Nat) (listed:Array Bool) (env:Env) (g:Rows) (a:Act) (w:World) (D:Nat->Prop) (ι:Names) (U:Nat->Prop),LP (Sound P) n ops vl K fuel listed env g->gw P hs D ι g w->Used ι n U->(∀s,U s->∃i,s=site0+i/\listed.getD i false=true)->cX P w D ι env a->a.tmps.size=nt->
  (∀iL g' a' w' D' ι' U',K iL g'->Step hs D ι w D' ι' w'->gw P hs D' ι' g' w'->Used ι' n U'->cX P w' D' ι' iL a'->a'.tmps.size=nt->a'.defers=a.defers->Q .normal a' w')->wpAny P .any ops Q fuel listed a w:=by
 intro fuel
 induction fuel with
 |zero=>intro listed env g a w D ι U h S Us hU E fo hQ;exact⟨h.1,hQ env g a w D ι U h.2 (Step.refl _ _ _ _) S Us E fo rfl⟩
 |succ fuel ih=>
  intro listed env g a w D ι U h S Us hU E fo hQ
  refine⟨fun hr=>hQ env g a w D ι U (h.1 hr) (Step.refl _ _ _ _) S Us E fo rfl,fun i hi=>?_⟩
  obtain⟨vo,kW,v,g',hG,Pb⟩:=h.2 i hi
  obtain⟨_,o,ho,_⟩:=mem_ready.1 hi
  obtain⟨vo',mO,Tq⟩:=(oM eh).2 i o (by simpa using ho)
  rw[kW]at mO;injection mO with mO;subst mO
  rw[Nat.zero_add]at Tq
  obtain⟨hc,hd,Cr,yh,hg⟩:=pJ Tq
  have hw:=tQ (ops:=ops) (vo:=vo) E hg
  have WL:¬U vo.site:=fun hu=>by
   obtain⟨i',he,hl⟩:=hU _ hu
   have:i'=i:=by omega
   subst this
   rw[jg hi]at hl;cases hl
  have jI:i<listed.size:=by
   have h0:=(mem_ready.1 hi).1
   rcases Nat.lt_or_ge i listed.size with h|h
   ·exact h
   ·simp[Array.getElem?_eq_none h]at h0
  unfold wpOp
  simp only[ho]
  rw[<-hw]
  unfold GS at hG
  by_cases HS:aI vo.guard env=true
  ·rw[if_pos HS]
   rw[if_pos HS]at hG
   refine .inl (BA hc hG S Us WL E fun a' w' ⟨u,D',ι',ha,T,S',hR,U'⟩=>?_)
   subst ha
   refine ih _ _ _ _ w' D' ι' _ Pb S' U' (fun s Co=>?_) (by rw[hd];exact ny (oW E T) hR yh fo) (by rw[lx];exact fo) fun iL g2 a2 w2 D2 ι2 U2 hk T2 S2 VZ E2 kR EF=>hQ iL g2 a2 w2 D2 ι2 U2 hk (T.trans T2) S2 VZ E2 kR (EF.trans (put_defers _ _ _))
   rcases Co with h|h
   ·obtain⟨i',he,hl⟩:=hU _ h
    exact⟨i',he,getD_set_true hl⟩
   ·exact⟨i,by rw[h,Cr],by simp[jI]⟩
  ·rw[if_neg HS]
   rw[if_neg HS]at hG
   obtain⟨rfl,rfl⟩:=hG
   refine ih _ _ _ _ w D ι U Pb S Us (fun s Co=>?_) (by rw[hd];exact ny E dm.undef yh fo) (by rw[lx];exact fo) fun iL g2 a2 w2 D2 ι2 U2 hk T2 S2 VZ E2 kR EF=>hQ iL g2 a2 w2 D2 ι2 U2 hk T2 S2 VZ E2 kR (EF.trans (put_defers _ _ _))
   obtain⟨i',he,hl⟩:=hU _ Co
   exact⟨i',he,getD_set_true hl⟩
end
end Go.Proofs.YtgoljkjaameagaaGreat.V

namespace Go.Proofs.YtgoljkjaameagaaGreat.V
open Go.RowKit
variable {P:Program} {w w':World} {D D' D2:Nat->Prop} {ι ι' ι2:Names}
section
variable {hs:Nat} {X:fX}
def qt (X:fX):Prop:=∀f args σ K K',(∀r σ',K r σ'->K' r σ')->X f args σ K->X f args σ K'
theorem qL:qt (Sound P):=fun _ _ _ _ _ hK h hs D ι w vs S U A=>
 (h hs D ι w vs S U A).mono fun _ _ ⟨r,g',n',D',ι',u,he,hk,rest⟩=>⟨r,g',n',D',ι',u,he,hK _ _ hk,rest⟩
def step (X:fX) (vo:bR) (N:Env->ay->Prop) (env:Env) (σ:ay):Prop:=
 if aI vo.guard env then fw X false vo env σ fun v σ'=>N (upd env vo.dst v) σ' else N (upd env vo.dst .undef) σ
theorem qS (hK:qt X) {draw:Bool} {hid:List Nat} {site f:Nat} {args:List AV} {σ:ay} {n n':AV->ay->Prop} (hn:∀v σ',n v σ'->n' v σ') (hp:cE X draw hid site f args σ n):cE X draw hid site f args σ n':=by
 rcases hp with⟨r,h1,h2⟩|⟨h1,h2⟩|⟨h1,sz,rows,h2,h3⟩
 ·exact .inl ⟨r,h1,hn _ _ h2⟩
 ·exact .inr (.inl ⟨h1,hK _ _ _ _ _ hn h2⟩)
 ·exact .inr (.inr ⟨h1,sz,rows,h2,hn _ _ h3⟩)
theorem Dq (hK:qt X) {draw:Bool} {o:bR} {env:Env} {σ:ay} {n n':AV->ay->Prop} (hn:∀v σ',n v σ'->n' v σ') (hp:fw X draw o env σ n):fw X draw o env σ n':=by
 unfold fw at hp ⊢
 split at hp
 ·exact qS hK hn hp
 ·split at hp
  ·exact qS hK hn hp
  ·exact qS hK hn hp
  ·exact hp.elim
 ·split at hp
  ·exact hn _ _ hp
  ·exact hp.elim
 ·split at hp
  ·exact hn _ _ hp
  ·exact hp.elim
 ·split at hp
  ·exact hn _ _ hp
  ·exact hp.elim
 ·split at hp
  ·exact hn _ _ hp
  ·exact hp.elim
 ·split at hp
  ·exact hn _ _ hp
  ·exact hp.elim
 ·split at hp
  ·exact hn _ _ hp
  ·exact hn _ _ hp
  ·exact hp.elim
theorem j4 (hK:qt X) {vo:bR} {N N':Env->ay->Prop} (h:∀e s,N e s->N' e s) {env:Env} {σ:ay} (hp:step X vo N env σ):step X vo N' env σ:=by
 unfold step at hp ⊢
 split at hp
 ·rename_i hw;rw[if_pos hw];exact Dq hK (fun v σ'=>h _ _) hp
 ·rename_i hw;rw[if_neg hw];exact h _ _ hp
theorem IX {env ja:Env} {vo:bR} {σ:ay} {n:AV->ay->Prop} (h:∀t∈vo.op.gP,env t=ja t) (hv:fw X false vo env σ n):fw X false vo ja σ n:=by
 unfold fw at hv ⊢
 split at hv
 ·rename_i f args ei
  rw[ei]at h
  simp only[gK.gP]at h
  rw[<-map_congr h];exact hv
 ·rename_i x args ei
  rw[ei]at h
  simp only[gK.gP,List.mem_append]at h
  rw[<-map_congr (l:=args) fun t ht=>h t (.inr ht),<-bD (x:=x) fun t ht=>h t (.inl ht)];exact hv
 ·rw[<-ig h];exact hv
 ·rw[<-ig h];exact hv
 ·rw[<-ig h];exact hv
 ·rw[<-ig h];exact hv
 ·rw[<-ig h];exact hv
 ·rw[<-tH h];exact hv
theorem mb {x:bR} (hq:ly x=true) {N:Env->ay->Prop} {env:Env} {σ:ay}:step X x N env σ↔∃v g',GS X σ.next x env σ.get v g'/\N (upd env x.dst v) ⟨g',σ.next⟩:=by
 unfold ly at hq
 simp only[Bool.and_eq_true,Bool.not_eq_true',bne_iff_ne]at hq
 obtain⟨xT,qm⟩:=hq
 unfold step GS
 by_cases hw:aI x.guard env=true
 ·rw[if_pos hw]
  simp only[hw,if_true]
  unfold fw
  split
  ·rename_i ei;simp[ei,gK.ml]at xT
  ·rename_i ei;simp[ei,gK.ml]at xT
  ·rename_i ei;simp[ei,gK.cls]at qm
  ·rename_i ei;simp[ei,gK.cls]at qm
  ·rename_i ei;simp[ei,gK.cls]at qm
  ·rename_i ei;simp[ei,gK.cls]at qm
  ·rename_i ei;simp[ei,gK.cls]at qm
  ·rename_i n1 n2 n3 n4 n5 n6 n7
   have hVS:∀v g',VS X σ.next x env σ.get v g'↔∃mr,eH x.op (dd env) (fD x.hid σ.next σ.get) ⟨x.site,σ.next⟩=some (v,mr)/\g'=jq σ.get ⟨x.site,σ.next⟩ mr:=fun v g'=>by
    unfold VS
    split
    ·rename_i hh;exact(n1 _ _ hh).elim
    ·rename_i hh;exact(n2 _ _ hh).elim
    ·rename_i hh;exact(n3 _ _ _ hh).elim
    ·rename_i hh;exact(n4 _ _ _ hh).elim
    ·rename_i hh;exact(n5 _ _ _ hh).elim
    ·rename_i hh;exact(n6 _ _ hh).elim
    ·rename_i hh;exact(n7 _ _ hh).elim
    ·exact Iff.rfl
   simp only[hVS]
   cases hz:eH x.op (dd env) (fD x.hid σ.next σ.get) ⟨x.site,σ.next⟩with
   |none=>
    exact⟨fun h=>h.elim,fun⟨v,g',⟨mr,h,_⟩,_⟩=>by cases h⟩
   |some p=>
    obtain⟨v,mr⟩:=p
    have key:∀(v':AV) (g':Rows),(∃Sy,some (v,mr)=some (v',Sy)/\g'=jq σ.get ⟨x.site,σ.next⟩ Sy)↔v'=v/\g'=jq σ.get ⟨x.site,σ.next⟩ mr:=fun v' g'=>by
     constructor
     ·rintro⟨Sy,h1,h2⟩
      injection h1 with h1;injection h1 with h1 h3
      subst h1;subst h3
      exact⟨rfl,h2⟩
     ·rintro⟨rfl,rfl⟩;exact⟨mr,rfl,rfl⟩
    have fin:(∃v' g',(∃Sy,some (v,mr)=some (v',Sy)/\g'=jq σ.get ⟨x.site,σ.next⟩ Sy)/\N (upd env x.dst v') ⟨g',σ.next⟩)↔N (upd env x.dst v) ⟨jq σ.get ⟨x.site,σ.next⟩ mr,σ.next⟩:=by
     constructor
     ·rintro⟨v',g',h,hN⟩
      obtain⟨rfl,rfl⟩:=(key v' g').1 h
      exact hN
     ·intro hN;exact⟨v,_,(key _ _).2 ⟨rfl,rfl⟩,hN⟩
    cases mr with
    |none=>exact fin.symm
    |some r=>exact fin.symm
 ·rw[if_neg hw]
  simp only[if_neg hw]
  exact⟨fun h=>⟨_,_,⟨rfl,rfl⟩,h⟩,fun⟨v,g',⟨hv,hg⟩,h⟩=>by rw[hv,hg]at h;exact h⟩
def xv (x:bR) (env:Env) (v:AV):Prop:=if aI x.guard env then eH x.op (dd env) (fun _=>none) ⟨0,0⟩=some (v,none)else v=.undef
theorem xh {x:bR} (hp:x.op.cls=.pure):ly x=true:=by
 unfold ly
 rw[hp]
 cases hc:x.op<;>simp[hc,gK.cls]at hp<;>rfl
theorem tM {x:bR} (hp:x.op.cls=.pure) {N:Env->ay->Prop} {env:Env} {σ:ay}:step X x N env σ↔∃v,xv x env v/\N (upd env x.dst v) σ:=by
 rw[mb (xh hp)]
 unfold GS xv
 by_cases hw:aI x.guard env=true
 ·simp only[hw,if_true]
  constructor
  ·rintro⟨v,g',h,hN⟩
   obtain⟨rfl,eh⟩:=zG hp h
   refine⟨v,?_,hN⟩
   unfold VS at h
   split at h
   ·rename_i ei;rw[ei]at hp;simp[gK.cls]at hp
   ·rename_i ei;rw[ei]at hp;simp[gK.cls]at hp
   ·rename_i ei;rw[ei]at hp;simp[gK.cls]at hp
   ·rename_i ei;rw[ei]at hp;simp[gK.cls]at hp
   ·rename_i ei;rw[ei]at hp;simp[gK.cls]at hp
   ·rename_i ei;rw[ei]at hp;simp[gK.cls]at hp
   ·rename_i ei;rw[ei]at hp;simp[gK.cls]at hp
   ·obtain⟨mr,hq,_⟩:=h
    have Xk:mr=none:=by
     cases mr with
     |none=>rfl
     |some r=>have:=xj hq;simp[rD,hp]at this
    subst Xk
    rw[<-xk (g:=fD x.hid σ.next σ.get) (id:=⟨x.site,σ.next⟩) hp];exact hq
  ·rintro⟨v,h,hN⟩
   exact⟨v,σ.get,PA (mr:=none) (by rw[xk (g2:=fun _=>none) (id2:=⟨0,0⟩) hp];exact h),hN⟩
 ·simp only[if_neg hw]
  exact⟨fun⟨v,g',⟨hv,hg⟩,h⟩=>⟨v,hv,by rw[hg]at h;exact h⟩,fun⟨v,hv,h⟩=>⟨v,σ.get,⟨hv,rfl⟩,h⟩⟩
theorem LW {x:bR} {env ja:Env} {v:AV} (h:∀t∈x.gP,env t=ja t) (hv:xv x env v):xv x ja v:=by
 unfold xv at hv ⊢
 rw[<-nP h,<-tH fun t ht=>h t (sP ht)];exact hv
structure OH (x y:bR):Prop where
 xy:∀k,x.dst=some k->k∉y.gP
 yx:∀k,y.dst=some k->k∉x.gP
 dst:∀k,x.dst=some k->y.dst≠some k
theorem sY {x y:bR} (h:tO x y=true):OH x y:=by
 unfold tO at h
 simp only[Bool.and_eq_true]at h
 obtain⟨a1,a2⟩:=h
 refine⟨fun k hk=>?_,fun k hk=>?_,fun k hk=>?_⟩
 ·rw[hk]at a1;simp at a1;exact a1.1
 ·rw[hk]at a2;simpa using a2
 ·rw[hk]at a1;simp at a1;exact a1.2
theorem yT {x y:bR} (h:yS x y=true):(OH x y/\x.op.cls=.pure)∨(DM x y/\ly x=true/\ly y=true):=by
 unfold yS at h
 simp only[Bool.or_eq_true,Bool.and_eq_true,beq_iff_eq]at h
 rcases h with⟨h1,h2⟩|⟨⟨h1,h2⟩,h3⟩
 ·exact .inl ⟨sY h1,h2⟩
 ·exact .inr ⟨q9 h1,h2,h3⟩
theorem B6 {x y:bR} (h:yS x y=true):ly x=true:=by
 rcases yT h with h|h
 ·exact xh h.2
 ·exact h.2.1
theorem IE (hK:qt X) {x y:bR} (hf:yS x y=true) {N:Env->ay->Prop} {env:Env} {σ:ay} (h:step X x (fun e s=>step X y N e s) env σ):step X y (fun e s=>step X x N e s) env σ:=by
 rcases yT hf with⟨F,hp⟩|⟨F,hx,hy⟩
 ·rw[tM hp]at h
  obtain⟨v,hx,h⟩:=h
  have Kx:=fun(v':AV)=>xN (env:=env) (v:=v) (u:=v') F.dst
  have u9:=nh (env:=env) (v:=v) F.xy
  have back:∀(v':AV),xv x (upd env y.dst v') v:=fun v'=>LW (fun t ht=>(nh F.yx t ht).symm) hx
  unfold step at h ⊢
  rw[nP u9]at h
  split at h
  ·rename_i hw
   rw[if_pos hw]
   refine Dq hK (fun v' σ' hN=>?_) (IX (fun t ht=>u9 t (sP ht)) h)
   rw[Kx]at hN
   exact(tM hp).2 ⟨v,back v',hN⟩
  ·rename_i hw
   rw[if_neg hw]
   rw[Kx]at h
   exact(tM hp).2 ⟨v,back _,h⟩
 ·rw[mb hx]at h
  obtain⟨v,g1,h1,h⟩:=h
  rw[mb hy]at h
  obtain⟨v',g2,h2,h⟩:=h
  obtain⟨MO,q1,q2,q3⟩:=FU F h1 h2
  rw[q3]at h
  exact(mb hy).2 ⟨v',MO,q1,(mb hx).2 ⟨v,g2,q2,h⟩⟩
def A7 (X:fX) (ops:Array Oper) (vl:List bR) (K:Env->ay->Prop):Nat->Array Bool->Env->ay->Prop
 |0,listed,env,σ=>Region.ready .any ops listed=[]/\K env ⟨σ.get,σ.next+1⟩
 |f+1,listed,env,σ=>(Region.ready .any ops listed=[]->K env ⟨σ.get,σ.next+1⟩)/\∀i∈Region.ready .any ops listed,∃vo,vl[i]? =some vo/\step X vo (fun e s=>A7 X ops vl K f (listed.setIfInBounds i true) e s) env σ
theorem Ep {ops:Array Oper} {vl:List bR} {bs:Array Nat} {listed:Array Bool} {i:Nat} (h:qZ ops vl bs listed i=true) (j:Nat):qZ ops vl bs (listed.setIfInBounds j true) i=true:=by
 unfold qZ at h ⊢
 split at h
 ·rename_i x hx
  simp only[List.all_eq_true,Bool.or_eq_true]at h ⊢
  intro k hk
  rcases h k hk with((h|h)|h)|h
  ·exact .inl (.inl (.inl (getD_set_true h)))
  ·exact .inl (.inl (.inr h))
  ·exact .inl (.inr h)
  ·exact .inr h
 ·cases h
theorem tX {ops:Array Oper} {vl:List bR} {listed:Array Bool} {i j:Nat} {vi:bR} (s5:DC ops listed) (h:qZ ops vl (jH ops) listed i=true) (hi:vl[i]? =some vi) (hr:i∈Region.ready .any ops listed) (hj:j∈Region.ready .any ops listed) (ni:j≠i):∃vj,vl[j]? =some vj/\yS vi vj=true:=by
 unfold qZ at h
 rw[hi]at h
 simp only[List.all_eq_true,Bool.or_eq_true,beq_iff_eq]at h
 obtain⟨_,o,ho,_⟩:=mem_ready.1 hj
 rcases h j (List.mem_range.2 (Array.getElem?_eq_some_iff.1 ho).1)with((h|h)|h)|h
 ·rw[jg hj]at h;cases h
 ·exact absurd h ni
 ·have:=lz s5 hj i h
  rw[jg hr]at this;cases this
 ·split at h
  ·rename_i y hy;exact⟨y,hy,h⟩
  ·cases h
theorem FQ (hK:qt X) {ops:Array Oper} {vl:List bR} {K:Env->ay->Prop} {i:Nat} {vi:bR} (hi:vl[i]? =some vi):∀(fuel:Nat) (listed:Array Bool) (env:Env) (σ:ay),
  DC ops listed->i∈Region.ready .any ops listed->qZ ops vl (jH ops) listed i=true->step X vi (fun e s=>A7 X ops vl K fuel (listed.setIfInBounds i true) e s) env σ->A7 X ops vl K (fuel+1) listed env σ:=by
 intro fuel
 induction fuel with
 |zero=>
  intro listed env σ s5 hr l5 H
  refine⟨fun h=>(by rw[h]at hr;cases hr),fun j hj=>?_⟩
  by_cases ni:j=i
  ·subst ni;exact⟨vi,hi,H⟩
  ·obtain⟨vj,Nt,TB⟩:=tX s5 l5 hi hr hj ni
   rw[mb (B6 TB)]at H
   obtain⟨v,g',_,H⟩:=H
   have:=ready_mono hj ni
   rw[H.1]at this;cases this
 |succ fuel ih=>
  intro listed env σ s5 hr l5 H
  refine⟨fun h=>(by rw[h]at hr;cases hr),fun j hj=>?_⟩
  by_cases ni:j=i
  ·subst ni;exact⟨vi,hi,H⟩
  ·obtain⟨vj,Nt,TB⟩:=tX s5 l5 hi hr hj ni
   refine⟨vj,Nt,?_⟩
   have H2:step X vi (fun e s=>step X vj (fun e s=>A7 X ops vl K fuel ((listed.setIfInBounds i true).setIfInBounds j true) e s) e s) env σ:=j4 hK (fun e s h=>by
    obtain⟨vj',Am,h'⟩:=h.2 j (ready_mono hj ni)
    rw[Nt]at Am;injection Am with Am;subst Am
    exact h') H
   refine j4 hK (fun e s h=>?_) (IE hK TB H2)
   refine ih _ _ _ (s5.list hj) (ready_mono hr (fun e=>ni e.symm)) (Ep l5 j) ?_
   rw[Array.setIfInBounds_comm _ _ ni]
   exact h
theorem tL {x:bR} (hg:x.guard=none) {N:Env->ay->Prop} {env:Env} {σ:ay}:step X x N env σ=fw X false x env σ (fun v σ'=>N (upd env x.dst v) σ'):=by
 unfold step
 rw[hg]
 simp[aI]
theorem FB {x y:bR} {t s sz:Nat} {ys:O} (hx:x.op=.append sz (.t t) ys) (hg:x.guard=none) (hf:Gf s x y=true) {N:Env->ay->Prop} {env:Env} {σ:ay} (hl:NL t s ys env σ.next) (h:step X x (fun e s=>step X y N e s) env σ):
  step X y (fun e σ'=>NL t s ys e σ'.next/\step X x N e σ') env σ:=by
 unfold Gf at hf
 simp only[Bool.and_eq_true,bne_iff_ne]at hf
 obtain⟨⟨⟨⟨⟨f1,hq⟩,f3⟩,f4⟩,f5⟩,f6⟩:=hf
 have F:=sY f1
 obtain⟨⟨len,ht⟩,HO⟩:=hl
 have Kv:∀k∈x.op.gP,∀v',upd env y.dst v' k=env k:=fun k hk v'=>nh (env:=env) (v:=v') F.yx k (sP hk)
 have eu:t∈x.op.gP:=by rw[hx];simp[gK.gP,gZ]
 have DG:∀v',dd (upd env y.dst v') ys=dd env ys:=fun v'=>(bD fun k hk=>by rw[Kv k (by rw[hx];simp[gK.gP,hk])]).symm
 rw[tL hg]at h
 unfold fw at h
 simp only[hx,fE]at h
 have ex:dd env (.t t)=.own ⟨s,σ.next⟩ 0 len:=ht
 rw[ex]at h
 cases hr:bq σ.get (dd env ys)with
 |none=>rw[hr]at h;exact h.elim
 |some rs=>
  rw[hr]at h
  simp only[Option.bind_some,aW]at h
  cases HK:σ.get ⟨s,σ.next⟩with
  |none=>rw[HK]at h;exact h.elim
  |some r=>
   rw[HK]at h
   simp only[Option.bind_some]at h
   split at h
   ·rename_i v g1 hv
    split at hv
    ·rename_i hcond
     simp only[Option.some.injEq,Prod.mk.injEq]at hv
     obtain⟨rfl,rfl⟩:=hv
     rw[mb hq]at h
     obtain⟨v',g2,hG,hN⟩:=h
     have Nb:(⟨y.site,σ.next⟩:Id)≠⟨s,σ.next⟩:=fun e=>f5 (by injection e)
     have Kl:(⟨y.site,σ.next⟩:Id)≠⟨x.site,σ.next⟩:=fun e=>f6 (by injection e)
     replace hG:GS X σ.next y env (bL (bY σ.get ⟨s,σ.next⟩) ⟨x.site,σ.next⟩ ⟨true,sz,r.rows++rs⟩) v' g2:=vJ (nh F.xy) hG
     have XL:fD y.hid σ.next σ.get=fD y.hid σ.next (bL (bY σ.get ⟨s,σ.next⟩) ⟨x.site,σ.next⟩ ⟨true,sz,r.rows++rs⟩):=by
      cases hh:y.hid with
      |nil=>rw[hh]at f3;simp at f3
      |cons a l=>
       rw[hh]at f3 f4
       funext i
       show(if (a::l).contains i.site=true/\i.br=σ.next then none else σ.get i)=if (a::l).contains i.site=true/\i.br=σ.next then none else _
       by_cases h1:i=⟨x.site,σ.next⟩
       ·subst h1;rw[if_pos ⟨f4,rfl⟩,if_pos ⟨f4,rfl⟩]
       ·by_cases h2:i=⟨s,σ.next⟩
        ·subst h2;rw[if_pos ⟨f3,rfl⟩,if_pos ⟨f3,rfl⟩]
        ·simp only[bL,bY,if_neg h1,if_neg h2]
     obtain⟨my,Qw,hG'⟩:∃my,g2=jq (bL (bY σ.get ⟨s,σ.next⟩) ⟨x.site,σ.next⟩ ⟨true,sz,r.rows++rs⟩) ⟨y.site,σ.next⟩ my/\GS X σ.next y env σ.get v' (jq σ.get ⟨y.site,σ.next⟩ my):=by
      unfold GS at hG ⊢
      by_cases wy:aI y.guard env=true
      ·rw[if_pos wy]at hG
       have hcw:y.op.cls≠.write:=by
        unfold ly at hq
        simp only[Bool.and_eq_true,bne_iff_ne]at hq
        exact hq.2
       obtain⟨my,rfl,_,PG⟩:=vP hcw hG
       exact⟨my,rfl,by rw[if_pos wy];exact PG _ XL⟩
      ·rw[if_neg wy]at hG
       obtain⟨rfl,rfl⟩:=hG
       exact⟨none,rfl,by rw[if_neg wy];exact⟨rfl,rfl⟩⟩
     subst Qw
     refine(mb hq).2 ⟨v',_,hG',⟨⟨len,by rw[Kv t eu];exact ht⟩,fun id o l he=>HO id o l (by rw[<-DG v'];exact he)⟩,?_⟩
     rw[tL hg]
     unfold fw
     have ex':dd (upd env y.dst v') (.t t)=.own ⟨s,σ.next⟩ 0 len:=by
      show upd env y.dst v' t= _
      rw[Kv t eu];exact ht
     simp only[hx,fE,ex',DG v']
     have oE:bq (jq σ.get ⟨y.site,σ.next⟩ my) (dd env ys)=some rs:=by
      cases my with
      |none=>exact hr
      |some row=>
       revert hr
       cases hev:dd env ys<;>simp only[bq,jq]<;>try exact fun h=>h
       rename_i id o l
       have:id≠⟨y.site,σ.next⟩:=fun e=>HO id o l hev (by rw[e])
       simp only[bL,if_neg this];exact fun h=>h
     have W8:jq σ.get ⟨y.site,σ.next⟩ my ⟨s,σ.next⟩=some r:=by
      cases my with
      |none=>exact HK
      |some row=>simp only[jq,bL,if_neg (fun e=>Nb e.symm:(⟨s,σ.next⟩:Id)≠⟨y.site,σ.next⟩)];exact HK
     rw[oE]
     simp only[Option.bind_some,aW,W8]
     rw[if_pos hcond]
     have TE:bL (bY (jq σ.get ⟨y.site,σ.next⟩ my) ⟨s,σ.next⟩) ⟨x.site,σ.next⟩ ⟨true,sz,r.rows++rs⟩=jq (bL (bY σ.get ⟨s,σ.next⟩) ⟨x.site,σ.next⟩ ⟨true,sz,r.rows++rs⟩) ⟨y.site,σ.next⟩ my:=by
      cases my with
      |none=>rfl
      |some row=>
       funext i
       simp only[jq,bL,bY]
       by_cases h1:i=⟨y.site,σ.next⟩
       ·subst h1;rw[if_neg Kl,if_neg Nb,if_pos rfl,if_pos rfl]
       ·simp only[if_neg h1]
     have hu:=xN (env:=env) (v:=AV.own ⟨x.site,σ.next⟩ 0 (len+rs.length)) (u:=v') F.dst
     show N (upd (upd env y.dst v') x.dst (.own ⟨x.site,σ.next⟩ 0 (len+rs.length))) ⟨bL (bY (jq σ.get ⟨y.site,σ.next⟩ my) ⟨s,σ.next⟩) ⟨x.site,σ.next⟩ ⟨true,sz,r.rows++rs⟩,σ.next⟩
     rw[TE,<-hu]
     exact hN
    ·cases hv
   ·exact h.elim
theorem Eo {ops:Array Oper} {vl:List bR} {bs:Array Nat} {listed:Array Bool} {i s:Nat} (h:oZ ops vl bs listed i s=true) (j:Nat):oZ ops vl bs (listed.setIfInBounds j true) i s=true:=by
 unfold oZ at h ⊢
 split at h
 ·rename_i x hx
  simp only[List.all_eq_true,Bool.or_eq_true]at h ⊢
  intro k hk
  rcases h k hk with((h|h)|h)|h
  ·exact .inl (.inl (.inl (getD_set_true h)))
  ·exact .inl (.inl (.inr h))
  ·exact .inl (.inr h)
  ·exact .inr h
 ·cases h
theorem B3 {ops:Array Oper} {vl:List bR} {listed:Array Bool} {i j s:Nat} {vi:bR} (s5:DC ops listed) (h:oZ ops vl (jH ops) listed i s=true) (hi:vl[i]? =some vi) (hr:i∈Region.ready .any ops listed) (hj:j∈Region.ready .any ops listed) (ni:j≠i):∃vj,vl[j]? =some vj/\Gf s vi vj=true:=by
 unfold oZ at h
 rw[hi]at h
 simp only[List.all_eq_true,Bool.or_eq_true,beq_iff_eq]at h
 obtain⟨_,o,ho,_⟩:=mem_ready.1 hj
 rcases h j (List.mem_range.2 (Array.getElem?_eq_some_iff.1 ho).1)with((h|h)|h)|h
 ·rw[jg hj]at h;cases h
 ·exact absurd h ni
 ·have:=lz s5 hj i h
  rw[jg hr]at this;cases this
 ·split at h
  ·rename_i y hy;exact⟨y,hy,h⟩
  ·cases h
theorem Dr (hK:qt X) {ops:Array Oper} {vl:List bR} {K:Env->ay->Prop} {i t s sz:Nat} {ys:O} {vi:bR} (hi:vl[i]? =some vi) (hx:vi.op=.append sz (.t t) ys) (hg:vi.guard=none):∀(fuel:Nat) (listed:Array Bool) (env:Env) (σ:ay),
  DC ops listed->i∈Region.ready .any ops listed->oZ ops vl (jH ops) listed i s=true->NL t s ys env σ.next->step X vi (fun e s=>A7 X ops vl K fuel (listed.setIfInBounds i true) e s) env σ->A7 X ops vl K (fuel+1) listed env σ:=by
 intro fuel
 induction fuel with
 |zero=>
  intro listed env σ s5 hr l5 Sh H
  refine⟨fun h=>(by rw[h]at hr;cases hr),fun j hj=>?_⟩
  by_cases ni:j=i
  ·subst ni;exact⟨vi,hi,H⟩
  ·exfalso
   have h0:=ready_mono hj ni
   rw[tL hg]at H
   unfold fw at H
   simp only[hx]at H
   split at H
   ·rw[H.1]at h0;cases h0
   ·exact H
 |succ fuel ih=>
  intro listed env σ s5 hr l5 Sh H
  refine⟨fun h=>(by rw[h]at hr;cases hr),fun j hj=>?_⟩
  by_cases ni:j=i
  ·subst ni;exact⟨vi,hi,H⟩
  ·obtain⟨vj,Nt,TB⟩:=B3 s5 l5 hi hr hj ni
   refine⟨vj,Nt,?_⟩
   have H2:step X vi (fun e s=>step X vj (fun e s=>A7 X ops vl K fuel ((listed.setIfInBounds i true).setIfInBounds j true) e s) e s) env σ:=j4 hK (fun e s h=>by
    obtain⟨vj',Am,h'⟩:=h.2 j (ready_mono hj ni)
    rw[Nt]at Am;injection Am with Am;subst Am
    exact h') H
   refine j4 hK (fun e s h=>?_) (FB hx hg TB Sh H2)
   refine ih _ _ _ (s5.list hj) (ready_mono hr (fun e=>ni e.symm)) (Eo l5 j) h.1 ?_
   rw[Array.setIfInBounds_comm _ _ ni]
   exact h.2
theorem KK {ops:Array Oper} {vl:List bR} {bs:Array Nat} {listed:Array Bool} {i i' t s:Nat} {y:O} {vo:bR} (h:Q9 ops vl bs listed i=some (i',t,s,y,vo)):i'=i/\vl[i]? =some vo/\(∃sz,vo.op=.append sz (.t t) y)/\vo.guard=none/\oZ ops vl bs listed i s=true:=by
 unfold Q9 at h
 split at h
 ·rename_i x hx
  split at h
  ·rename_i t' s' y' jQ
   split at h
   ·rename_i hf
    simp only[Option.some.injEq,Prod.mk.injEq]at h
    obtain⟨rfl,rfl,rfl,rfl,rfl⟩:=h
    unfold Pj at jQ
    split at jQ
    ·rename_i sz t2 y2 ho rO
     split at jQ
     ·simp only[Option.some.injEq,Prod.mk.injEq]at jQ
      obtain⟨rfl,rfl,rfl⟩:=jQ
      exact⟨rfl,hx,⟨sz,ho⟩,rO,hf⟩
     ·cases jQ
    ·cases jQ
   ·cases h
  ·cases h
 ·cases h
theorem yI {X:fX} {Q:Ex->Env->ay->Prop} {env:Env} {σ:ay}:∀{l:List VC} {t:VC},BI l=some t->ek X t Q env σ->∀c∈l,ek X c Q env σ
 |[],t,h,_,c,hc=>by cases hc
 |[c0],t,h,hw,c,hc=>by
  simp only[BI,Option.some.injEq]at h
  subst h
  rw[List.mem_singleton]at hc
  subst hc;exact hw
 |c0::c1::r,t,h,hw,c,hc=>by
  simp only[BI,Option.map_eq_some_iff]at h
  obtain⟨t',Ja,rfl⟩:=h
  rcases List.mem_cons.1 hc with rfl|hc
  ·exact hw.1
  ·exact yI Ja hw.2 c hc
theorem mapM_mem {α β:Type} {f:α->Option β}:∀{l:List α} {r:List β},l.mapM f=some r->∀i∈l,∃b∈r,f i=some b
 |[],_,_,i,hi=>by cases hi
 |a::l,r,h,i,hi=>by
  simp only[List.mapM_cons,Option.bind_eq_bind,Option.bind_eq_some_iff,Option.pure_def,Option.some.injEq]at h
  obtain⟨b,hb,r',hr,rfl⟩:=h
  rcases List.mem_cons.1 hi with rfl|hi
  ·exact⟨b,by simp,hb⟩
  ·obtain⟨c,hc,hf⟩:=mapM_mem hr i hi
   exact⟨c,List.mem_cons_of_mem _ hc,hf⟩
theorem IT (hK:qt X) {ops:Array Oper} {vl:List bR} {Q:Ex->Env->ay->Prop}:∀(n:Nat) (listed:Array Bool) (t:VC) (env:Env) (σ:ay),xL ops vl (jH ops) n listed=some t->DC ops listed->ek X t Q env σ->A7 X ops vl (Q .normal) n listed env σ:=by
 intro n
 induction n with
 |zero=>
  intro listed t env σ h _ hw
  unfold xL at h
  split at h
  ·rename_i hr
   simp only[Option.some.injEq]at h
   subst h
   exact⟨hr,hw⟩
  ·cases h
 |succ n ih=>
  intro listed t env σ h s5 hw
  unfold xL at h
  split at h
  ·rename_i hr
   simp only[Option.some.injEq]at h
   subst h
   exact⟨fun _=>hw,fun i hi=>by rw[hr]at hi;cases hi⟩
  ·rename_i r rs hr
   dsimp only at h
   split at h
   ·rename_i i hfind
    have M4:=List.mem_of_find?_eq_some hfind
    have uZ:=List.find?_some hfind
    rw[<-hr]at M4
    split at h
    ·rename_i vo kW
     simp only[Option.map_eq_some_iff]at h
     obtain⟨t',Ja,rfl⟩:=h
     exact FQ hK kW n listed env σ s5 M4 uZ (j4 hK (fun e s h=>ih _ _ _ _ Ja (s5.list M4) h) hw)
    ·cases h
   ·split at h
    ·rename_i i t s y vo hfind
     obtain⟨i0,Bi,eo⟩:=List.exists_of_findSome?_eq_some hfind
     obtain⟨rfl,kW,⟨sz,ei⟩,rO,EH⟩:=KK eo
     rw[<-hr]at Bi
     simp only[Option.map_eq_some_iff]at h
     obtain⟨t',Ja,rfl⟩:=h
     exact Dr hK kW ei rO n listed env σ s5 Bi EH hw.1 (j4 hK (fun e s h=>ih _ _ _ _ Ja (s5.list Bi) h) hw.2)
    split at h
    ·rename_i l hl
     have eh:=yI h hw
     refine⟨fun h=>(by rw[h]at hr;cases hr),fun i hi=>?_⟩
     rw[hr]at hi
     obtain⟨b,Gk,Bg⟩:=mapM_mem hl i hi
     simp only[Option.bind_eq_some_iff,Option.map_eq_some_iff]at Bg
     obtain⟨vo,kW,t',Ja,rfl⟩:=Bg
     exact⟨vo,kW,j4 hK (fun e s h=>ih _ _ _ _ Ja (s5.list (by rw[hr];exact hi)) h) (eh _ Gk)⟩
    ·cases h
theorem FN {ops:Array Oper} {vl:List bR} {nt site0:Nat} {draw mk:Bool} {bs:Array Nat} {hidden:List (Nat×Bool)} {K:Env->ay->Prop} {Q:Exit->Act->World->Prop} (eh:allM (mK P ops nt site0 draw mk bs hidden) ops.toList 0=some vl):
  ∀(fuel:Nat) (listed:Array Bool) (env:Env) (σ:ay) (a:Act) (w:World) (D:Nat->Prop) (ι:Names) (U:Nat->Prop),A7 (Sound P) ops vl K fuel listed env σ->gw P hs D ι σ.get w->Used ι σ.next U->(∀s,U s->∃i,s=site0+i/\listed.getD i false=true)->cX P w D ι env a->a.tmps.size=nt->
  (∀iL σ' a' w' D' ι',K iL σ'->Step hs D ι w D' ι' w'->St P hs nt D' ι' iL σ' a' w'->a'.defers=a.defers->σ.next<=σ'.next->Q .normal a' w')->wpAny P .any ops Q fuel listed a w:=by
 intro fuel
 induction fuel with
 |zero=>intro listed env σ a w D ι U h S Us hU E fo hQ;exact⟨h.1,hQ env _ a w D ι h.2 (Step.refl _ _ _ _) ⟨S,Us.next,E,fo⟩ rfl (Nat.le_succ _)⟩
 |succ fuel ih=>
  intro listed env σ a w D ι U h S Us hU E fo hQ
  refine⟨fun hr=>hQ env _ a w D ι (h.1 hr) (Step.refl _ _ _ _) ⟨S,Us.next,E,fo⟩ rfl (Nat.le_succ _),fun i hi=>?_⟩
  obtain⟨vo,kW,hG⟩:=h.2 i hi
  obtain⟨_,o,ho,_⟩:=mem_ready.1 hi
  obtain⟨vo',mO,Tq⟩:=(oM eh).2 i o (by simpa using ho)
  rw[kW]at mO;injection mO with mO;subst mO
  rw[Nat.zero_add]at Tq
  obtain⟨hc,hd,Cr,yh,hg⟩:=pJ Tq
  have hw:=tQ (ops:=ops) (vo:=vo) E hg
  have WL:¬U vo.site:=fun hu=>by
   obtain⟨i',he,hl⟩:=hU _ hu
   have:i'=i:=by omega
   subst this
   rw[jg hi]at hl;cases hl
  have jI:i<listed.size:=by
   have h0:=(mem_ready.1 hi).1
   rcases Nat.lt_or_ge i listed.size with h|h
   ·exact h
   ·simp[Array.getElem?_eq_none h]at h0
  unfold wpOp
  simp only[ho]
  rw[<-hw]
  unfold step at hG
  by_cases HS:aI vo.guard env=true
  ·rw[if_pos HS]
   rw[if_pos HS]at hG
   refine .inl (zC hc hG S Us WL E fun v σ' u D' ι' w' hn T S' hR U' hle=>?_)
   refine ih _ _ _ _ w' D' ι' _ hn S' U' (fun s Co=>?_) (by rw[hd];exact ny (oW E T) hR yh fo) (by rw[lx];exact fo) fun iL σ2 a2 w2 D2 ι2 hk T2 QU EF nA=>hQ iL σ2 a2 w2 D2 ι2 hk (T.trans T2) QU (EF.trans (put_defers _ _ _)) (Nat.le_trans hle nA)
   rcases Co with h|h
   ·obtain⟨i',he,hl⟩:=hU _ h
    exact⟨i',he,getD_set_true hl⟩
   ·exact⟨i,by rw[h,Cr],by simp[jI]⟩
  ·rw[if_neg HS]
   rw[if_neg HS]at hG
   refine ih _ _ _ _ w D ι U hG S Us (fun s Co=>?_) (by rw[hd];exact ny E dm.undef yh fo) (by rw[lx];exact fo) fun iL σ2 a2 w2 D2 ι2 hk T2 QU EF nA=>hQ iL σ2 a2 w2 D2 ι2 hk T2 QU (EF.trans (put_defers _ _ _)) nA
   obtain⟨i',he,hl⟩:=hU _ Co
   exact⟨i',he,getD_set_true hl⟩
end
end Go.Proofs.YtgoljkjaameagaaGreat.V

namespace Go.Proofs.YtgoljkjaameagaaGreat.V
open Go.RowKit
variable {P:Program} {w w':World} {D D' D2:Nat->Prop} {ι ι' ι2:Names}
def DP (P:Program) (c:Code) (Q:Exit->Act->World->Prop) (a:Act) (w:World):Prop:=
 ∀(b:Frame) (k:List Item) (cs:List Frame),b.kind≠.early->∃e a' w',Q e a' w'/\Arrives P (lone (b.at a (.code c::k)) cs w) b k cs e a' w'
section
variable {Q:Exit->Act->World->Prop} {a:Act}
theorem tF {c:Code} (h:c.wp P Q a w):DP P c Q a w:=fun b k cs _=>h b k cs
theorem NW {x y:Code} (h:DP P x (Exit.then (DP P y Q) Q) a w):DP P (.seq x y) Q a w:=by
 intro b k cs hb
 obtain⟨e,a1,w1,hq,jU⟩:=h b (.code y::k) cs hb
 by_cases he:e=.normal
 ·subst he
  obtain⟨e2,a2,w2,qm,J6⟩:=hq b k cs hb
  exact⟨e2,a2,w2,qm,.of_steps (.head step_seq jU) J6⟩
 ·refine⟨e,a1,w1,?_,.of_steps (.one step_seq) (.pass (x:=.code y) rfl (fun _ _=>.inl he) jU)⟩
  cases e<;>first|exact absurd rfl he|exact hq
theorem KW {c:Operand} {x y:Code} {t:Bool} (hc:a.eval c=.bool t) (h:DP P (if t then x else y) Q a w):DP P (.cond c x y) Q a w:=
 fun b k cs hb=>let ⟨e,a',w',q,r⟩:=h b k cs hb;⟨e,a',w',q,.of_steps (.one (step_cond hc)) r⟩
theorem Io {id:Nat} {c:Code} (h:DP P c (Exit.inBlock id Q) a w):DP P (.block id c) Q a w:=by
 intro b k cs hb
 obtain⟨e,a1,w1,hq,jU⟩:=h b (.inBlock id::k) cs hb
 cases e with
 |normal=>exact⟨.normal,a1,w1,hq,.head step_block (Steps.trans jU (.one step_inBlock))⟩
 |exit lk=>
  by_cases hid:lk=id
  ·simp only[Exit.inBlock,hid,if_true]at hq
   exact⟨.normal,a1,w1,hq,.head step_block (jU k (by simp[exitTo,hid]))⟩
  ·simp only[Exit.inBlock,hid,if_false]at hq
   exact⟨.exit lk,a1,w1,hq,fun k' hk=>.head step_block (jU k' (by simp[exitTo,Ne.symm hid,hk]))⟩
 |goto l=>exact⟨_,a1,w1,hq,fun k' hk=>.head step_block (jU k' (by simp[gotoIn,hk]))⟩
 |ret=>exact⟨_,a1,w1,hq,.of_steps (.one step_block) jU⟩
 |panic ch=>exact⟨_,a1,w1,hq,.of_steps (.one step_block) jU⟩
 |outgrown=>exact⟨_,a1,w1,hq,.of_steps (b:=b) (k:=k) (cs:=cs) (e:=.outgrown) (.one step_block) jU⟩
def vk (P:Program) (c:Code) (Q:Exit->Act->World->Prop):Nat->Act->World->Prop
 |0=>fun _ _=>False
 |n+1=>DP P c (Exit.then (vk P c Q n) Q)
theorem KX {c:Code} (n:Nat) (h:vk P c Q n a w):DP P (.loop c) Q a w:=by
 intro b k cs hb
 have key:∀n a w,vk P c Q n a w->∃e a' w',Q e a' w'/\Arrives P (lone (b.at a (.code c::.inLoop c::k)) cs w) b k cs e a' w':=by
  intro n
  induction n with
  |zero=>intro a w h;exact h.elim
  |succ n ih=>
   intro a w h
   obtain⟨e,a1,w1,hq,jU⟩:=h b (.inLoop c::k) cs hb
   by_cases he:e=.normal
   ·subst he
    obtain⟨e2,a2,w2,qm,J6⟩:=ih a1 w1 hq
    exact⟨e2,a2,w2,qm,.of_steps (Steps.trans jU (.one step_inLoop)) J6⟩
   ·refine⟨e,a1,w1,?_,.pass (x:=.inLoop c) rfl (fun _ _=>.inl he) jU⟩
    cases e<;>first|exact absurd rfl he|exact hq
 obtain⟨e,a',w',hq,jU⟩:=key n a w h
 exact⟨e,a',w',hq,.of_steps (.one step_loop) jU⟩
theorem zO {f:FuncId} {fn:Func} {c:Code} {args:Array Value} {R:Ending->World->Prop} (hf:P.funcs[f]? =some fn) (hb:fn.body=some c)
  (h:DP P c (bodyPost P fn R) {tmps:=args++Array.replicate (fn.ntmps-args.size) undef,defers:=[]} w):Calls P f args w R:=by
 intro cs
 have Qu:Frame.enter P f args .normal=({(default:Frame)with fn:=f,kind:=.normal}:Frame).at {tmps:=args++Array.replicate (fn.ntmps-args.size) undef,defers:=[]} [.code c]:=by simp[Frame.enter,Frame.at,hf,hb]
 obtain⟨e,a',w',hq,jU⟩:=h {(default:Frame)with fn:=f,kind:=.normal} [] cs (by simp)
 rw[<-Qu]at jU
 cases e with
 |normal=>obtain⟨hd,v,hr,hR⟩:=hq;exact⟨.returned v,w',_,hR,Steps.trans jU (.one step_end),rfl,rfl,hd,rfl,fn,hf,hr⟩
 |ret=>obtain⟨hd,v,hr,hR⟩:=hq;obtain⟨todo,hs⟩:=jU;exact⟨.returned v,w',_,hR,hs,rfl,rfl,hd,rfl,fn,hf,hr⟩
 |panic chain=>obtain⟨hd,hR⟩:=hq;obtain⟨todo,hs⟩:=jU;exact⟨.panicked chain,w',_,hR,hs,rfl,rfl,hd,fn,hf⟩
 |exit id=>exact hq.elim
 |goto l=>exact hq.elim
 |outgrown=>exact⟨.outgrown,w',{(default:Frame)with fn:=f,kind:=.normal},hq,jU.resolve_left (by simp),rfl,trivial⟩
def xW (P:Program) (ops:Array Oper) (Q:Exit->Act->World->Prop) (l:List Nat) (a:Act) (w:World):Prop:=
 ∀(b:Frame) (k:List Item) (cs:List Frame),b.kind≠.early->∃e a' w',Q e a' w'/\Arrives P (lone (b.at a (.inRegion ops l::k)) cs w) b k cs e a' w'
theorem Ff {id:Nat} {ops:Array Oper} (h:xW P ops Q (List.range ops.size) a w):DP P (.region id ops false) Q a w:=
 fun b k cs hb=>let ⟨e,a',w',q,r⟩:=h b k cs hb;⟨e,a',w',q,.of_steps (.one step_region) r⟩
theorem Rh {ops:Array Oper} (h:Q .normal a w):xW P ops Q [] a w:=fun _ _ _ _=>⟨.normal,a,w,h,.one step_region_end⟩
theorem pD {o:Oper} {ys:Nat->Option Bool} (h:o.guard=none):Region.wanted o ys=true:=by simp[Region.wanted,h]
theorem K8 {ops:Array Oper} {i:Nat} {rest:List Nat} {o:Oper} {v:Value} (ho:ops[i]? =some o) (hg:o.guard=none) (hr:(execOp a.eval o).run P w=.ok (.value v) w') (h:xW P ops Q rest (a.put o.dst v) w'):xW P ops Q (i::rest) a w:=by
 intro b k cs hb
 obtain⟨e,a',w2,hq,jU⟩:=h b k cs hb
 refine⟨e,a',w2,hq,.of_steps (.one ?_) jU⟩
 have sj:(b.at a (.inRegion ops (i::rest)::k)).finish v=b.at (a.put o.dst v) (.inRegion ops rest::k):=by rw[Frame.finish_at,ho];rfl
 rw[<-sj]
 refine step_lone_go ?_
 have h2:=stepG_op (P:=P) (b:=b) (k:=k) (cs:=cs) (w:=w) (rest:=rest) ho (pD hg (ys:=yielded ops a.tmps))
 rw[h2];simp[stepG.apply,hr]
theorem N6 {ops:Array Oper} {i:Nat} {rest:List Nat} {o:Oper} {v z:Value} {c cap s r:Nat} {buf:Array Value} (ho:ops[i]? =some o) (hg:o.guard=none) (hr:(execOp a.eval o).run P w=.ok (.comm #[Conc.scase c v z] true .send) w)
  (hc:w.heap[c]? =some (.chan cap buf false s r false)) (eR:buf.size<cap) (h:xW P ops Q rest (a.put o.dst undef) (w.setChan c cap (buf.push v) false (s+1) r false)):xW P ops Q (i::rest) a w:=by
 intro b k cs hb
 obtain⟨e,a',w2,hq,jU⟩:=h b k cs hb
 refine⟨e,a',w2,hq,.of_steps (.one ?_) jU⟩
 have sj:(b.at a (.inRegion ops (i::rest)::k)).finish undef=b.at (a.put o.dst undef) (.inRegion ops rest::k):=by rw[Frame.finish_at,ho];rfl
 rw[<-sj,Conc.lone_eq_solo,Conc.lone_eq_solo]
 exact Conc.step_lone_send_room (Conc.stepG_comm ho (pD hg) hb hr) hc eR
theorem N5 {ops:Array Oper} {i:Nat} {rest:List Nat} {o:Oper} {z:Value} {c cap s r:Nat} {buf:Array Value} (ho:ops[i]? =some o) (hg:o.guard=none) (hr:(execOp a.eval o).run P w=.ok (.comm #[Conc.rcase c z] true (.recv false)) w)
  (hc:w.heap[c]? =some (.chan cap buf false s r false)) (Ct:0<buf.size) (h:xW P ops Q rest (a.put o.dst (buf.getD 0 undef)) (w.setChan c cap (buf.extract 1 buf.size) false s (r+1) false)):xW P ops Q (i::rest) a w:=by
 intro b k cs hb
 obtain⟨e,a',w2,hq,jU⟩:=h b k cs hb
 refine⟨e,a',w2,hq,.of_steps (.one ?_) jU⟩
 have sj:(b.at a (.inRegion ops (i::rest)::k)).finish (buf.getD 0 undef)=b.at (a.put o.dst (buf.getD 0 undef)) (.inRegion ops rest::k):=by rw[Frame.finish_at,ho];rfl
 rw[<-sj,Conc.lone_eq_solo,Conc.lone_eq_solo]
 exact Conc.step_lone_recv_buf false (Conc.stepG_comm ho (pD hg) hb hr) hc Ct
end
section
variable {hs:Nat} {g:Rows} {env:Env} {a:Act} {o:Oper}
theorem NB {x y:O} (hc:rN P o.op=some (.snd x y)):∃x' y',o.op=.send x' y'/\cO P x'=some x/\cO P y'=some y:=by
 unfold rN at hc
 split at hc
 case h_25=>
  rename_i x' y' h
  simp only[Option.bind_eq_bind,Option.bind_eq_some_iff,Option.pure_def,Option.some.injEq,gK.snd.injEq]at hc
  obtain⟨p,h1,q,h2,rfl,rfl⟩:=hc
  exact⟨_,_,h,h1,h2⟩
 all_goals (try unfold nW at hc)<;>(try unfold vU at hc)<;>(try unfold te at hc)<;>(repeat' (split at hc))<;>(simp only[Option.bind_eq_bind,Option.bind_eq_some_iff,Option.pure_def,Option.some.injEq,Option.map_eq_some_iff,reduceCtorEq,and_false,exists_false]at hc)
theorem NA {x:O} (hc:rN P o.op=some (.Rk x)):∃t dir e i z x',o.op=.recv t x' false/\P.underlying t=some (.chan dir e)/\P.info? e=some i/\i.zero=some z/\cO P x'=some x:=by
 unfold rN at hc
 split at hc
 case h_26=>
  rename_i t x' h
  split at hc
  ·rename_i dir e ht
   split at hc
   ·rename_i z hz
    simp only[Option.bind_eq_some_iff]at hz
    obtain⟨i,hi,hz⟩:=hz
    simp only[Option.map_eq_some_iff,gK.Rk.injEq]at hc
    obtain⟨p,h1,rfl⟩:=hc
    exact⟨t,dir,e,i,z,x',h,ht,hi,hz,h1⟩
   ·cases hc
  ·cases hc
 all_goals (try unfold nW at hc)<;>(try unfold vU at hc)<;>(try unfold te at hc)<;>(repeat' (split at hc))<;>(simp only[Option.bind_eq_bind,Option.bind_eq_some_iff,Option.pure_def,Option.some.injEq,Option.map_eq_some_iff,reduceCtorEq,and_false,exists_false]at hc)
theorem SO {x y:O} {g':Rows} (S:gw P hs D ι g w) (hc:rN P o.op=some (.snd x y)) (E:cX P w D ι env a) (hv:dW g (dd env x) (dd env y)=some g'):
  ∃c cap s r buf u,(execOp a.eval o).run P w=.ok (.comm #[Conc.scase c u (.tuple #[])] true .send) w/\w.heap[c]? =some (.chan cap buf false s r false)/\buf.size<cap/\gw P hs D ι g' (w.setChan c cap (buf.push u) false (s+1) r false)/\Step hs D ι w D ι (w.setChan c cap (buf.push u) false (s+1) r false):=by
 obtain⟨x',y',ho,hx,hy⟩:=NB hc
 have rx:=dw E hx
 have ry:=dw E hy
 unfold dW at hv
 split at hv
 ·rename_i i he
  simp only[Option.bind_eq_some_iff]at hv
  obtain⟨r,hg,hv⟩:=hv
  split at hv
  ·rename_i hcond
   simp only[Option.some.injEq]at hv
   subst hv
   obtain⟨B,c,hu,hB,hk,fo,buf,s,q,hb,L4,hR⟩:=zP S rx he hg
   obtain⟨B',eb,RR,_⟩:=S.row i r hg
   rw[hB]at eb;injection eb with eb;subst eb
   have ot:=S.IU (ob:=.chan c (buf.push (a.eval y')) false (s+1) q false) (r':={r with rows:=r.rows++[[dd env y]]}) hg hcond.1 hB fun hr lh=>⟨RR.sz,fun cs dz=>?_,fun h0=>(by rw[hk]at h0;cases h0),fun m hm=>(by rw[hk]at hm;cases hm),fun c' kG=>?_⟩
   ·exact⟨B.b,c,s,q,buf,a.eval y',by simp[execOp,ho,hu,Conc.scase],hb,by rw[L4];omega,ot.1,ot.2⟩
   ·rcases List.mem_append.1 dz with h|h
    ·exact RR.flat cs h
    ·rw[List.mem_singleton.1 h]
     intro b tq
     rw[List.mem_singleton.1 tq];exact hcond.2.2
   ·rw[hk]at kG
    simp only[Option.some.injEq,BK.chan.injEq]at kG
    subst kG
    refine⟨fo,_,_,_,lh,by simp[L4],fun j cs hj=>?_⟩
    rw[List.getElem?_append]at hj
    split at hj
    ·rename_i eo
     obtain⟨b,u,q1,q2,q3⟩:=hR j cs hj
     refine⟨b,u,q1,?_,hr _ _ q3⟩
     rw[Array.getElem?_push,if_neg (by omega)];exact q2
    ·rename_i rj
     have gT:j=r.rows.length:=by
      have:=(List.getElem?_eq_some_iff.1 hj).1
      simp at this;omega
     subst gT
     simp at hj
     subst hj
     exact⟨_,_,rfl,by rw[Array.getElem?_push,if_pos L4.symm],hr _ _ ry⟩
  ·cases hv
 ·cases hv
theorem SN {x:O} {g':Rows} {v:AV} (S:gw P hs D ι g w) (hc:rN P o.op=some (.Rk x)) (E:cX P w D ι env a) (hv:dV g (dd env x)=some (v,g')):
  ∃c cap s r buf z,(execOp a.eval o).run P w=.ok (.comm #[Conc.rcase c z] true (.recv false)) w/\w.heap[c]? =some (.chan cap buf false s r false)/\0<buf.size/\gw P hs D ι g' (w.setChan c cap (buf.extract 1 buf.size) false s (r+1) false)/\Step hs D ι w D ι (w.setChan c cap (buf.extract 1 buf.size) false s (r+1) false)/\dm P (w.setChan c cap (buf.extract 1 buf.size) false s (r+1) false) D ι v (buf.getD 0 undef):=by
 obtain⟨t,dir,e,i0,z,x',ho,ht,hi,hz,hx⟩:=NA hc
 have rx:=dw E hx
 unfold dV at hv
 split at hv
 ·rename_i i he
  simp only[Option.bind_eq_some_iff]at hv
  obtain⟨r,hg,hv⟩:=hv
  split at hv
  ·rename_i v' rest sq
   split at hv
   ·rename_i hcond
    simp only[Option.some.injEq,Prod.mk.injEq]at hv
    obtain⟨rfl,rfl⟩:=hv
    obtain⟨B,c,hu,hB,hk,fo,buf,s,q,hb,L4,hR⟩:=zP S rx he hg
    obtain⟨B',eb,RR,_⟩:=S.row i r hg
    rw[hB]at eb;injection eb with eb;subst eb
    obtain⟨b0,u0,q1,q2,q3⟩:=hR 0 [v'] (by rw[sq];rfl)
    simp only[List.cons.injEq,and_true]at q1
    subst q1
    have jx:0<buf.size:=by rw[L4,sq];simp
    have VB:buf.getD 0 undef=u0:=by rw[Array.getD_eq_getD_getElem?,q2];rfl
    have ot:=S.IU (ob:=.chan c (buf.extract 1 buf.size) false s (q+1) false) (r':={r with rows:=rest}) hg hcond hB fun hr lh=>⟨RR.sz,fun cs dz=>RR.flat cs (by rw[sq];exact List.mem_cons_of_mem _ dz),fun h0=>(by rw[hk]at h0;cases h0),fun m hm=>(by rw[hk]at hm;cases hm),fun c' kG=>?_⟩
    ·refine⟨B.b,c,s,q,buf,z,?_,hb,jx,ot.1,ot.2,?_⟩
     ·have wL:(zeroValue e).run P w=.ok z w:=by simp[zeroValue,typeInfo,hi,hz]
      simp[execOp,ho,hu,Conc.rcase,run_underlying ht,wL]
     ·rw[VB];exact ot.2.rep q3
    ·rw[hk]at kG
     simp only[Option.some.injEq,BK.chan.injEq]at kG
     subst kG
     refine⟨fo,_,_,_,lh,by simp[L4,sq],fun j cs hj=>?_⟩
     obtain⟨b,u,k1,k2,k3⟩:=hR (j+1) cs (by rw[sq];simpa using hj)
     refine⟨b,u,k1,?_,hr _ _ k3⟩
     have eo:=(Array.getElem?_eq_some_iff.1 k2).1
     rw[Array.getElem?_extract,if_pos (by omega),Nat.add_comm 1 j];exact k2
   ·cases hv
  ·cases hv
 ·cases hv
theorem Hk {ops:Array Oper} {nt site0:Nat} {K:Env->ay->Prop} {Q:Exit->Act->World->Prop}:∀(l:List Oper) (vl:List bR) (j:Nat) (env:Env) (σ:ay) (a:Act) (w:World) (D:Nat->Prop) (ι:Names),
  ops.toList.drop j=l->allM (mK P ops nt site0 false false #[] []) l j=some vl->cq vl K env σ->gw P hs D ι σ.get w->Used ι σ.next (fun _=>False)->cX P w D ι env a->a.tmps.size=nt->
  (∀iL σ' a' w' D' ι',K iL σ'->Step hs D ι w D' ι' w'->St P hs nt D' ι' iL σ' a' w'->a'.defers=a.defers->σ.next<=σ'.next->Q .normal a' w')->xW P ops Q (List.range' j l.length) a w:=by
 intro l
 induction l with
 |nil=>
  intro vl j env σ a w D ι _ h hv S Us E fo hQ
  simp[allM]at h;subst h
  exact Rh (hQ env ⟨σ.get,σ.next+1⟩ a w D ι hv (Step.refl _ _ _ _) ⟨S,Us.next,E,fo⟩ rfl (Nat.le_succ _))
 |cons o l ih=>
  intro vl j env σ a w D ι hl h hv S Us E fo hQ
  simp only[allM,Option.bind_eq_bind,Option.bind_eq_some_iff,Option.pure_def,Option.some.injEq]at h
  obtain⟨vo,kW,tP,oz,rfl⟩:=h
  obtain⟨hc,hd,Cr,yh,hg⟩:=pJ kW
  obtain⟨TF,hv⟩:=hv
  have Xu:o.guard=none:=by
   split at hg
   ·assumption
   ·obtain⟨t,_,h⟩:=hg
    rw[TF]at h;cases h
  have Xv:ops[j]? =some o:=by
   have h0:=congrArg (fun x=>x[0]?) hl
   rw[<-Array.getElem?_toList]
   simpa[List.getElem?_drop]using h0
  have Md:ops.toList.drop (j+1)=l:=by rw[<-List.drop_drop,hl];rfl
  have go:∀(v:AV) (u:Value) (g2:Rows) (w2:World),cq tP K (upd env vo.dst v) ⟨g2,σ.next⟩->gw P hs D ι g2 w2->Step hs D ι w D ι w2->dm P w2 D ι v u->xW P ops Q (List.range' (j+1) l.length) (a.put o.dst u) w2:=fun v u g2 w2 hn S2 T hR=>
   ih tP (j+1) (upd env vo.dst v) ⟨g2,σ.next⟩ (a.put o.dst u) w2 D ι Md oz hn S2 Us (by rw[hd];exact ny (oW E T) hR yh fo) (by rw[lx];exact fo) fun iL σ2 a' w3 D3 ι3 hk T2 Pz EF nA=>hQ iL σ2 a' w3 D3 ι3 hk (T.trans T2) Pz (EF.trans (put_defers _ _ _)) nA
  rw[show List.range' j (o::l).length=j::List.range' (j+1) l.length from rfl]
  split at hv
  ·rename_i x y ei
   split at hv
   ·rename_i g2 Sq
    rw[ei]at hc
    obtain⟨c,cap,s,r,buf,u,gp,hb,eR,S2,T⟩:=SO S hc E Sq
    exact N6 Xv Xu gp hb eR (go _ _ _ _ hv S2 T dm.undef)
   ·exact hv.elim
  ·rename_i x ei
   split at hv
   ·rename_i v g2 Sq
    rw[ei]at hc
    obtain⟨c,cap,s,r,buf,z,gp,hb,Ct,S2,T,hR⟩:=SN S hc E Sq
    exact N5 Xv Xu gp hb Ct (go _ _ _ _ hv S2 T hR)
   ·exact hv.elim
  ·split at hv
   ·rename_i v hq
    obtain⟨u,gp,hR⟩:=zt hc hq S E
    exact K8 Xv Xu gp (go _ _ _ _ hv S (Step.refl _ _ _ _) hR)
   ·exact hv.elim
end
end Go.Proofs.YtgoljkjaameagaaGreat.V

namespace Go.Proofs.YtgoljkjaameagaaGreat.V
open Go.RowKit
variable {P:Program} {w w':World} {D D' D2:Nat->Prop} {ι ι' ι2:Names}
section
variable {hs:Nat} {X:fX}
def exO:Ex->Exit
 | .normal=>.normal
 | .exit id=>.exit id
 | .ret=>.ret
theorem St.drew {nt:Nat} {env:Env} {σ:ay} {a:Act} {D:Nat->Prop} {ι:Names} (h:St P hs nt D ι env σ a w):St P hs nt D ι env σ a w.drew/\Step hs D ι w D ι w.drew:=by
 have T:Step hs D ι w D ι w.drew:=Step.stay h.Mi (fun _ _=>rfl) (Nat.le_refl _) rfl rfl rfl (fun _ h=>h) (fun _ h=>.inl h) (fun _ _ h=>h)
 exact⟨⟨h.Mi.stay (fun _ _=>rfl) (Nat.le_refl _) (fun _ h=>h) h.Mi.dead (fun _ h=>.inl h) (fun _ _ h=>h),h.used,oW h.env T,h.size⟩,T⟩
def vM (P:Program) (hs nt:Nat) (ds:List Deferred) (Q:Ex->Env->ay->Prop) (n0:Nat) (D:Nat->Prop) (ι:Names) (w:World) (Q':Exit->Act->World->Prop):Prop:=
 ∀ex env σ a w' D' ι',Q ex env σ->Step hs D ι w D' ι' w'->St P hs nt D' ι' env σ a w'->a.defers=ds->n0<=σ.next->Q' (exO ex) a w'
theorem vM.later {nt:Nat} {ds:List Deferred} {Q:Ex->Env->ay->Prop} {n0 n1:Nat} {Q':Exit->Act->World->Prop} (h:vM P hs nt ds Q n0 D ι w Q') (T:Step hs D ι w D' ι' w') (hn:n0<=n1):vM P hs nt ds Q n1 D' ι' w' Q':=
 fun ex env σ a w2 D2 ι2 hq T2 eu hd hle=>h ex env σ a w2 D2 ι2 hq (T.trans T2) eu hd (Nat.le_trans hn hle)
theorem Ea (hm:P.follows .mixedOrders=true) {md:List (Nat×Nat)} {nt ye:Nat}:∀(c:Code) (vc:VC),kh P md nt ye c=some vc->∀(Q:Ex->Env->ay->Prop) (env:Env) (σ:ay) (a:Act) (w:World) (D:Nat->Prop) (ι:Names) (Q':Exit->Act->World->Prop),
  ek (Sound P) vc Q env σ->St P hs nt D ι env σ a w->vM P hs nt a.defers Q σ.next D ι w Q'->DP P c Q' a w:=by
 intro c
 induction c with
 |skip=>
  intro vc h Q env σ a w D ι Q' hv eu hQ
  simp[kh]at h;subst h
  exact tF <| wp_skip (hQ .normal env σ a w D ι hv (Step.refl _ _ _ _) eu rfl (Nat.le_refl _))
 |exit id=>
  intro vc h Q env σ a w D ι Q' hv eu hQ
  simp[kh]at h;subst h
  exact tF <| wp_exit (hQ (.exit id) env σ a w D ι hv (Step.refl _ _ _ _) eu rfl (Nat.le_refl _))
 |ret=>
  intro vc h Q env σ a w D ι Q' hv eu hQ
  simp[kh]at h;subst h
  exact tF <| wp_ret (hQ .ret env σ a w D ι hv (Step.refl _ _ _ _) eu rfl (Nat.le_refl _))
 |seq x y ihx ihy=>
  intro vc h Q env σ a w D ι Q' hv eu hQ
  simp only[kh,Option.bind_eq_bind,Option.bind_eq_some_iff,Option.pure_def,Option.some.injEq]at h
  obtain⟨vx,hx,vy,hy,rfl⟩:=h
  refine NW (ihx vx hx _ env σ a w D ι _ hv eu fun ex kP σ1 a1 w1 D1 ι1 hq T lQ hd hle=>?_)
  cases ex with
  |normal=>exact ihy vy hy Q kP σ1 a1 w1 D1 ι1 Q' hq lQ (by rw[hd];exact hQ.later T hle)
  |exit id=>exact hQ (.exit id) kP σ1 a1 w1 D1 ι1 hq T lQ hd hle
  |ret=>exact hQ .ret kP σ1 a1 w1 D1 ι1 hq T lQ hd hle
 |cond c x y ihx ihy=>
  intro vc h Q env σ a w D ι Q' hv eu hQ
  simp only[kh,Option.bind_eq_bind,Option.bind_eq_some_iff,Option.pure_def,Option.some.injEq]at h
  obtain⟨c',hc,vx,hx,vy,hy,rfl⟩:=h
  unfold ek at hv
  have hr:=dw eu.env hc
  split at hv
  ·rename_i b hb
   rw[hb]at hr
   refine KW (fu hr) ?_
   cases b with
   |true=>exact ihx vx hx Q env σ a w D ι Q' hv eu hQ
   |false=>exact ihy vy hy Q env σ a w D ι Q' hv eu hQ
  ·exact hv.elim
 |block id c ih=>
  intro vc h Q env σ a w D ι Q' hv eu hQ
  simp only[kh,Option.map_eq_some_iff]at h
  obtain⟨vx,hx,rfl⟩:=h
  refine Io (ih vx hx _ env σ a w D ι _ hv eu fun ex kP σ1 a1 w1 D1 ι1 hq T lQ hd hle=>?_)
  cases ex with
  |normal=>exact hQ .normal kP σ1 a1 w1 D1 ι1 hq T lQ hd hle
  |ret=>exact hQ .ret kP σ1 a1 w1 D1 ι1 hq T lQ hd hle
  |exit lk=>
   simp only[bm]at hq
   simp only[exO,Exit.inBlock]
   by_cases hid:lk=id
   ·rw[if_pos hid]at hq ⊢;exact hQ .normal kP σ1 a1 w1 D1 ι1 hq T lQ hd hle
   ·rw[if_neg hid]at hq ⊢;exact hQ (.exit lk) kP σ1 a1 w1 D1 ι1 hq T lQ hd hle
 |loop c ih=>
  intro vc h Q env σ a w D ι Q' hv eu hQ
  simp only[kh,Option.map_eq_some_iff]at h
  obtain⟨vx,hx,rfl⟩:=h
  obtain⟨n,hv⟩:=hv
  refine KX n ?_
  have key:∀n env σ a w D ι,GG (ek (Sound P) vx) Q n env σ->St P hs nt D ι env σ a w->vM P hs nt a.defers Q σ.next D ι w Q'->vk P c Q' n a w:=by
   intro n
   induction n with
   |zero=>intro env σ a w D ι h;exact h.elim
   |succ n ihn=>
    intro env σ a w D ι h eu hQ
    refine ih vx hx _ env σ a w D ι _ h eu fun ex kP σ1 a1 w1 D1 ι1 hq T lQ hd hle=>?_
    cases ex with
    |normal=>exact ihn kP σ1 a1 w1 D1 ι1 hq lQ (by rw[hd];exact hQ.later T hle)
    |exit id=>exact hQ (.exit id) kP σ1 a1 w1 D1 ι1 hq T lQ hd hle
    |ret=>exact hQ .ret kP σ1 a1 w1 D1 ι1 hq T lQ hd hle
  exact key n env σ a w D ι hv eu hQ
 |region id ops draw=>
  intro vc h Q env σ a w D ι Q' hv eu hQ
  simp only[kh,SM]at h
  split at h
  ·rename_i hmode
   have WY:draw=true:=by
    simp only[Bool.and_eq_true]at hmode;exact hmode.1
   subst WY
   split at h
   ·rename_i vl eh
    obtain⟨sr,T0⟩:=eu.drew
    have Ez:=IT (X:=Sound P) qL ops.size _ vc env σ h (fun k i h=>by
     exfalso
     rcases Nat.lt_or_ge k ops.size with hk|hk
     ·simp[hk]at h
     ·simp[Nat.not_lt.2 hk]at h) hv
    refine tF (wp_region_any hm ?_)
    exact FN eh ops.size _ env σ a w.drew D ι (fun _=>False) Ez sr.Mi sr.used (fun _ h=>h.elim) sr.env sr.size fun kP σ1 a1 w1 D1 ι1 hk T lQ hd hle=>hQ .normal kP σ1 a1 w1 D1 ι1 hk (T0.trans T) lQ hd hle
   ·cases h
  split at h
  ·rename_i hcom
   have WY:draw=false:=by
    simp only[Bool.and_eq_true,Bool.not_eq_true']at hcom;exact hcom.1
   subst WY
   simp only[Option.map_eq_some_iff]at h
   obtain⟨vl,oz,rfl⟩:=h
   have eh:allM (mK P ops nt ((ye*1000+id)*1000) false false #[] []) ops.toList 0=some vl:=by
    unfold r7 at oz
    simp only[Bool.false_eq_true,if_false,Bool.not_false,Bool.true_or,if_true]at oz
    split at oz
    ·rename_i tP h;simp at oz;subst oz;exact h
    ·cases oz
   refine Ff ?_
   have:=Hk (Q:=Q') ops.toList vl 0 env σ a w D ι rfl eh hv eu.Mi eu.used eu.env eu.size fun kP σ1 a1 w1 D1 ι1 hk T lQ hd hle=>hQ .normal kP σ1 a1 w1 D1 ι1 hk T lQ hd hle
   rwa [<-List.range_eq_range',Array.length_toList]at this
  generalize (w5 md id==1)=mk at h
  simp only[Option.map_eq_some_iff]at h
  obtain⟨vl,oz,rfl⟩:=h
  cases draw with
  |false=>
   have eh:∃tP,allM (mK P ops nt ((ye*1000+id)*1000) false mk #[] []) ops.toList 0=some tP/\vl=tP:=by
    unfold r7 at oz
    simp only[Bool.false_eq_true,if_false,Bool.not_false,Bool.true_or,if_true]at oz
    split at oz
    ·rename_i tP h;simp at oz;exact⟨tP,h,oz.symm⟩
    ·cases oz
   obtain⟨tP,eh,rfl⟩:=eh
   refine tF (wp_region_list ?_)
   exact Iq ops.toList vl 0 env σ a w D ι (fun _=>False) eh hv eu.Mi eu.used (fun _ h=>h.elim) eu.env eu.size fun kP σ1 a1 w1 D1 ι1 hk T lQ hd hle=>hQ .normal kP σ1 a1 w1 D1 ι1 hk T lQ hd hle
  |true=>
   have eh:∃hidden tP,allM (mK P ops nt ((ye*1000+id)*1000) true mk (jH ops) hidden) ops.toList 0=some tP/\vl=tP/\oV ops tP (jH ops)=true:=by
    unfold r7 at oz
    simp only[if_true,Bool.not_true,Bool.false_or]at oz
    split at oz
    ·rename_i tP h
     split at oz
     ·rename_i wI;simp at oz;exact⟨_,tP,h,oz.symm,wI⟩
     ·cases oz
    ·cases oz
   obtain⟨hidden,tP,eh,rfl,wI⟩:=eh
   obtain⟨sr,T0⟩:=eu.drew
   obtain⟨hlen,_⟩:=oM eh
   have jP:vl.length=ops.size:=by rw[hlen];simp
   have Ez:=xO (X:=Sound P) (K:=Q .normal) (n:=σ.next) wI jP vl 0 (Array.replicate ops.size false) env σ.get (by simp) (by simp) (fun i hi=>by simp[hi]) (by simp[jP]) (fun k i h=>by
    exfalso
    rcases Nat.lt_or_ge k ops.size with hk|hk
    ·simp[hk]at h
    ·simp[Nat.not_lt.2 hk]at h) hv
   refine tF (wp_region_any hm ?_)
   rw[jP]at Ez
   exact yF eh ops.size _ env σ.get a w.drew D ι (fun _=>False) Ez sr.Mi sr.used (fun _ h=>h.elim) sr.env sr.size fun kP g1 a1 w1 D1 ι1 U1 hk T S1 VY E1 y5 hd=>hQ .normal kP ⟨g1,σ.next+1⟩ a1 w1 D1 ι1 hk (T0.trans T) ⟨S1,VY.next,E1,y5⟩ hd (Nat.le_succ _)
 |_=>
  intro vc h
  simp[kh]at h
def Lj (tmps:Array Value):ResultVar->Sem Value
 | .tmp t=>pure (tmps.getD t undef)
 | .cell a t=>do loadVar t (<-asAddr (tmps.getD a undef))
theorem Fo (fn:Func) (tmps:Array Value):results fn tmps=(do
  let vs <-fn.results.mapM (Lj tmps)
  pure (if h:vs.size=1 then vs[0]else .tuple vs)):=by
 unfold results
 congr 2
theorem uu {nt:Nat} {env:Env} {σ:ay} {a:Act} {D:Nat->Prop} {ι:Names} (eu:St P hs nt D ι env σ a w):∀(rs:List ResultVar) (vr:List qd) (vs:List AV),rs.mapM (Hg P)=some vr->fR env σ.get vr=some vs->
  ∃us:List Value,(rs.mapM (Lj a.tmps)).run P w=.ok us w/\us.length=vs.length/\∀(j:Nat) (v:AV),vs[j]? =some v->∃u,us[j]? =some u/\dm P w D ι v u
 |[],vr,vs,h,hv=>by
  simp at h;subst h
  simp[fR]at hv;subst hv
  exact⟨[],by simp,rfl,fun j v h=>by simp at h⟩
 |r::rs,vr,vs,h,hv=>by
  simp only[List.mapM_cons,Option.bind_eq_bind,Option.bind_eq_some_iff]at h
  obtain⟨x,hx,vr',hr,h⟩:=h
  simp at h;subst h
  simp only[fR,Option.bind_eq_some_iff,Option.map_eq_some_iff]at hv
  obtain⟨v,wJ,XX,Gv,rfl⟩:=hv
  obtain⟨us,h1,h2,h3⟩:=uu eu rs vr' XX hr Gv
  have one:∃u,(Lj a.tmps r).run P w=.ok u w/\dm P w D ι v u:=by
   cases r with
   |tmp t=>
    simp[Hg]at hx;subst hx
    simp[iK]at wJ;subst wJ
    exact⟨_,rfl,eu.env t⟩
   |cell b t=>
    simp only[Hg,Option.bind_eq_bind,Option.bind_eq_some_iff,Option.pure_def,Option.some.injEq]at hx
    obtain⟨ag,uY,n,hn,rfl⟩:=hx
    simp only[iK]at wJ
    have gS:=eu.env b
    unfold ld at wJ
    split at wJ
    ·rename_i lk i' oo hb
     rw[hb]at gS
     obtain⟨B,he,hB,hk⟩:=iY gS
     simp only[Option.bind_eq_some_iff]at wJ
     obtain⟨cs,dz,hp⟩:=wJ
     obtain⟨B',r0,I6,eb,R,hi,fl,f,hf⟩:=Lm (S:=eu.Mi) dz (fun B2 h2=>by rw[hB]at h2;injection h2 with h2;subst h2;exact hk)
     rw[hB]at eb;injection eb with eb;subst eb
     obtain⟨u,k1,k2⟩:=kU (w:=w) (b:=B.b) (oo:=i'*B.sz+oo) (f:=fun j=>f (oo+j)) uY hn hp (fun a ha=>fl a (List.mem_of_mem_drop ha)) (fun j hj=>by
      rw[Nat.add_assoc];exact(hf _ (by simp at hj;omega)).1) (fun j a ha=>by
      simp at ha;exact(hf _ ((List.getElem?_eq_some_iff.1 ha).1)).2 _ ha)
     exact⟨u,by simp only[Lj,he,asAddr,Sem.run_bind,Sem.run_pure,Result.andThen_ok,k1],k2⟩
    ·rename_i cs hb
     rw[hb]at gS
     obtain⟨b',oo,vs2,he,q1,q2,q3,q4⟩:=lD gS
     obtain⟨u,k1,k2⟩:=kU (w:=w) (b:=b') (oo:=oo) (f:=vs2) uY hn wJ q2 q3 (fun j a ha=>.fa _ _ (q4 j a ha))
     exact⟨u,by simp only[Lj,he,asAddr,Sem.run_bind,Sem.run_pure,Result.andThen_ok,k1],k2⟩
    ·simp at wJ
  obtain⟨u,hu,yk⟩:=one
  refine⟨u::us,?_,by simp[h2],fun j v' hj=>?_⟩
  ·rw[List.mapM_cons]
   simp only[Sem.run_bind,hu,h1,Result.andThen_ok,Sem.run_pure]
  ·cases j with
   |zero=>simp at hj;subst hj;exact⟨u,rfl,yk⟩
   |succ j=>simp at hj ⊢;exact h3 j v' hj
theorem D4 {f:Nat} {fn:Func} {c:Code} {args:List AV} {σ:ay} {K:AV->ay->Prop} {vr:List qd} (Vk:P.funcs[f]? =some fn) (hc:fn.body=some c) (hr:fn.results.toList.mapM (Hg P)=some vr) (ha:fn.params.size+fn.nfree=args.length) (hle:fn.params.size+fn.nfree<=fn.ntmps)
  (h:∀(hs:Nat) (w:World) (D:Nat->Prop) (ι:Names) (a:Act) (Q':Exit->Act->World->Prop),St P hs fn.ntmps D ι (cm args) σ a w->vM P hs fn.ntmps a.defers (mo vr K) σ.next D ι w Q'->DP P c Q' a w):Sound P f args σ K:=by
 intro hs D ι w vs S Us A
 have fo:vs.size=args.length:=A.1
 refine zO Vk hc ?_
 refine h hs w D ι _ _ ⟨S,Us,fun t=>?_,by simp;omega⟩ fun ex kP σ1 a1 w1 D1 ι1 hq T lQ hd hle=>?_
 ·simp only[cm]
  by_cases eo:t<args.length
  ·obtain⟨u,hu,yk⟩:=A.2 t args[t] (List.getElem?_eq_getElem eo)
   have e1:args.getD t .undef=args[t]:=by simp[List.getD_eq_getElem?_getD,eo]
   have e2:(vs++Array.replicate (fn.ntmps-vs.size) undef).getD t undef=u:=by
    simp only[Array.getD_eq_getD_getElem?]
    rw[Array.getElem?_append_left (by omega),hu];rfl
   rw[e1,e2];exact yk
  ·have e1:args.getD t .undef=.undef:=by simp[List.getD_eq_getElem?_getD,Nat.le_of_not_lt eo]
   have e2:(vs++Array.replicate (fn.ntmps-vs.size) undef).getD t undef=undef:=by
    simp only[Array.getD_eq_getD_getElem?]
    rw[Array.getElem?_append_right (by omega),Array.getElem?_replicate]
    split<;>rfl
   rw[e1,e2];exact dm.undef
 ·have fin:(∃vs,fR kP σ1.get vr=some vs/\K (fx vs) σ1)->a1.defers=[]/\∃v,(results fn a1.tmps).run P w1=.ok v w1/\∃r g' n' D' ι' u,Ending.returned v=.returned u/\K r ⟨g',n'⟩/\Step hs D ι w D' ι' w1/\gw P hs D' ι' g' w1/\Used ι' n' (fun _=>False)/\σ.next<=n'/\dm P w1 D' ι' r u:=by
   rintro⟨avs,Gv,hK⟩
   obtain⟨us,h1,h2,h3⟩:=uu lQ fn.results.toList vr avs hr Gv
   have QS:(results fn a1.tmps).run P w1=.ok (if h:us.toArray.size=1 then us.toArray[0]else .tuple us.toArray) w1:=by
    rw[Fo,Array.mapM_eq_mapM_toList]
    simp only[Sem.run_bind,Sem.run_map,h1,Result.andThen_ok,Sem.run_pure]
   refine⟨hd,_,QS,fx avs,σ1.get,σ1.next,D1,ι1,_,rfl,hK,T,lQ.Mi,lQ.used,hle,?_⟩
   unfold fx
   split
   ·rename_i v
    have hl:us.length=1:=h2
    obtain⟨u,hu,yk⟩:=h3 0 v rfl
    rw[dif_pos (by simpa using hl)]
    have:us.toArray[0]'(by simp[hl])=u:=by
     have:=(List.getElem?_eq_some_iff.1 hu).2
     simpa using this
    rw[this];exact yk
   ·rename_i ij
    rw[dif_neg (by
     simp only[List.size_toArray,h2]
     intro h
     obtain⟨v,hv⟩:=List.length_eq_one_iff.1 h
     exact ij v hv)]
    exact .iA _ _ (fun j=>us.getD j undef) (by simp[h2]) (fun j hj=>by
     have:j<us.length:=by rw[h2];exact hj
     simp[this]) (fun j v hj=>by
     obtain⟨u,hu,yk⟩:=h3 j v hj
     simpa[List.getD_eq_getElem?_getD,hu]using yk)
  cases ex with
  |normal=>exact fin hq
  |ret=>exact fin hq
  |exit id=>exact hq.elim
theorem J1 (hm:P.follows .mixedOrders=true) {f:Nat} {md:List (Nat×Nat)} {vf:yE} {args:List AV} {σ:ay} {K:AV->ay->Prop} (hf:uE P f md=some vf) (ha:vf.zj=args.length) (h:ek (Sound P) vf.body (mo vf.res K) (cm args) σ):Sound P f args σ K:=by
 unfold uE at hf
 split at hf
 ·rename_i fn Vk
  split at hf
  ·rename_i c hc
   simp only[Option.bind_eq_bind,Option.bind_eq_some_iff]at hf
   obtain⟨vb,hb,vr,hr,hf⟩:=hf
   split at hf
   ·rename_i hle
    simp only[Option.pure_def,Option.some.injEq]at hf
    subst hf
    simp only at ha h
    exact D4 Vk hc hr ha hle fun hs w D ι a Q' eu hQ=>Ea hm c vb hb (mo vr K) (cm args) σ a w D ι Q' h eu hQ
   ·simp at hf
  ·simp at hf
 ·simp at hf
def Pr (P:Program) (X:fX):fX:=fun f args σ K=>(∃md vf,uE P f md=some vf/\vf.zj=args.length/\((∀a∈args,e8 a)->ek X vf.body (mo vf.res K) (cm args) σ))∨Sound P f args σ K
def Call (P:Program):fX:=fun f args σ K=>∀X:fX,qt X->(∀f args σ K,Pr P X f args σ K->X f args σ K)->X f args σ K
theorem iw (hm:P.follows .mixedOrders=true) {f:Nat} {args:List AV} {σ:ay} {K:AV->ay->Prop} (h:Call P f args σ K):Sound P f args σ K:=
 h (Sound P) qL fun f args σ K hs=>by
  rcases hs with⟨md,vf,h1,h2,h3⟩|h
  ·intro hs D ι w vs S U A
   exact J1 hm h1 h2 (h3 (pg fun j a hj=>by obtain⟨u,_,hr⟩:=A.2 j a hj;exact hr.KH)) hs D ι w vs S U A
  ·exact h
end
end Go.Proofs.YtgoljkjaameagaaGreat.V

namespace Go.Proofs.YtgoljkjaameagaaGreat.V
open Go.RowKit
variable {P:Program} {X Y:fX}
theorem Jk (h:∀f args σ K,X f args σ K->Y f args σ K) {f:Nat} {args:List AV} {σ:ay} {K:AV->Prop} (hp:fK X f args σ K):fK Y f args σ K:=by
 rcases hp with hp|⟨a,h1,h2⟩
 ·exact .inl (h _ _ _ _ hp)
 ·exact .inr ⟨a,h1,h _ _ _ _ h2⟩
theorem Mm (h:∀f args σ K,X f args σ K->Y f args σ K) {f:Nat} {args:List AV} {σ:ay} {sz:Nat} {rows:List (List AV)} (hp:CM X f args σ sz rows):CM Y f args σ sz rows:=by
 obtain⟨h1,a,h2,h3⟩:=hp
 exact⟨h1,a,h2,h _ _ _ _ h3⟩
theorem qR (h:∀f args σ K,X f args σ K->Y f args σ K) (hK:∀f args σ K K',(∀r σ',K r σ'->K' r σ')->Y f args σ K->Y f args σ K') {draw:Bool} {hid:List Nat} {site:Nat} {f:Nat} {args:List AV} {σ:ay} {n n':AV->ay->Prop} (hn:∀v σ',n v σ'->n' v σ') (hp:cE X draw hid site f args σ n):cE Y draw hid site f args σ n':=by
 rcases hp with⟨r,h1,h2⟩|⟨h1,h2⟩|⟨h1,sz,rows,h2,h3⟩
 ·exact .inl ⟨r,Jk h h1,hn _ _ h2⟩
 ·exact .inr (.inl ⟨h1,hK _ _ _ _ _ hn (h _ _ _ _ h2)⟩)
 ·exact .inr (.inr ⟨h1,sz,rows,Mm h h2,hn _ _ h3⟩)
theorem sZ (h:∀f args σ K,X f args σ K->Y f args σ K) (hK:∀f args σ K K',(∀r σ',K r σ'->K' r σ')->Y f args σ K->Y f args σ K') {draw:Bool} {o:bR} {env:Env} {σ:ay} {n n':AV->ay->Prop} (hn:∀v σ',n v σ'->n' v σ') (hp:fw X draw o env σ n):fw Y draw o env σ n':=by
 unfold fw at hp ⊢
 split at hp
 ·exact qR h hK hn hp
 ·split at hp
  ·exact qR h hK hn hp
  ·exact qR h hK hn hp
  ·exact hp.elim
 ·split at hp
  ·exact hn _ _ hp
  ·exact hp.elim
 ·split at hp
  ·exact hn _ _ hp
  ·exact hp.elim
 ·split at hp
  ·exact hn _ _ hp
  ·exact hp.elim
 ·split at hp
  ·exact hn _ _ hp
  ·exact hp.elim
 ·split at hp
  ·exact hn _ _ hp
  ·exact hp.elim
 ·split at hp
  ·exact hn _ _ hp
  ·exact hn _ _ hp
  ·exact hp.elim
theorem nR (h:∀f args σ K,X f args σ K->Y f args σ K) (hK:∀f args σ K K',(∀r σ',K r σ'->K' r σ')->Y f args σ K->Y f args σ K') {draw:Bool} {Q Q':Env->ay->Prop} (hQ:∀e s,Q e s->Q' e s):∀(l:List bR) (env:Env) (σ:ay),wpOps X draw l Q env σ->wpOps Y draw l Q' env σ
 |[],env,σ,hp=>hQ _ _ hp
 |o::r,env,σ,hp=>by
  unfold wpOps at hp ⊢
  split at hp
  ·rename_i hw;rw[if_pos hw];exact sZ h hK (fun v σ'=>nR h hK hQ r _ _) hp
  ·rename_i hw;rw[if_neg hw];exact nR h hK hQ r _ _ hp
theorem nQ {Q Q':Env->ay->Prop} (hQ:∀e s,Q e s->Q' e s):∀(l:List bR) (env:Env) (σ:ay),cq l Q env σ->cq l Q' env σ
 |[],env,σ,hp=>hQ _ _ hp
 |o::r,env,σ,hp=>by
  unfold cq at hp ⊢
  refine⟨hp.1,?_⟩
  replace hp:=hp.2
  split at hp
  ·split at hp
   ·exact nQ hQ r _ _ hp
   ·exact hp.elim
  ·split at hp
   ·exact nQ hQ r _ _ hp
   ·exact hp.elim
  ·split at hp
   ·exact nQ hQ r _ _ hp
   ·exact hp.elim
theorem lK (h:∀f args σ K,X f args σ K->Y f args σ K) (hK:∀f args σ K K',(∀r σ',K r σ'->K' r σ')->Y f args σ K->Y f args σ K'):∀(c:VC) (Q Q':Ex->Env->ay->Prop) (env:Env) (σ:ay),(∀x e s,Q x e s->Q' x e s)->ek X c Q env σ->ek Y c Q' env σ:=by
 intro c
 induction c with
 |skip=>intro Q Q' env σ hQ hp;exact hQ _ _ _ hp
 |exit id=>intro Q Q' env σ hQ hp;exact hQ _ _ _ hp
 |ret=>intro Q Q' env σ hQ hp;exact hQ _ _ _ hp
 |one o c ih=>
  intro Q Q' env σ hQ hp
  unfold ek at hp ⊢
  split at hp
  ·rename_i hw;rw[if_pos hw];exact sZ h hK (fun v σ'=>ih Q Q' _ _ hQ) hp
  ·rename_i hw;rw[if_neg hw];exact ih Q Q' _ _ hQ hp
 |both a b iha ihb=>intro Q Q' env σ hQ hp;exact⟨iha Q Q' env σ hQ hp.1,ihb Q Q' env σ hQ hp.2⟩
 |loc t s y c ih=>intro Q Q' env σ hQ hp;exact⟨hp.1,ih Q Q' env σ hQ hp.2⟩
 |PV ops=>intro Q Q' env σ hQ hp;exact nQ (hQ .normal) ops env σ hp
 |eS draw ops=>intro Q Q' env σ hQ hp;exact nR h hK (hQ .normal) ops env σ hp
 |seq a b iha ihb=>
  intro Q Q' env σ hQ hp
  refine iha _ _ env σ (fun x e s hx=>?_) hp
  cases x with
  |normal=>exact ihb Q Q' e s hQ hx
  |exit id=>exact hQ _ _ _ hx
  |ret=>exact hQ _ _ _ hx
 |cond c a b iha ihb=>
  intro Q Q' env σ hQ hp
  unfold ek at hp ⊢
  split at hp
  ·rename_i t ht
   cases t with
   |true=>exact iha Q Q' env σ hQ hp
   |false=>exact ihb Q Q' env σ hQ hp
  ·exact hp.elim
 |block id a iha=>
  intro Q Q' env σ hQ hp
  refine iha _ _ env σ (fun x e s hx=>?_) hp
  cases x with
  |normal=>exact hQ _ _ _ hx
  |ret=>exact hQ _ _ _ hx
  |exit lk=>
   unfold bm at hx ⊢
   dsimp only at hx ⊢
   split at hx
   ·rename_i hid;rw[if_pos hid];exact hQ _ _ _ hx
   ·rename_i hid;rw[if_neg hid];exact hQ _ _ _ hx
 |loop a iha=>
  intro Q Q' env σ hQ hp
  obtain⟨n,hp⟩:=hp
  refine⟨n,?_⟩
  induction n generalizing env σ with
  |zero=>exact hp
  |succ n ihn=>
   refine iha _ _ env σ (fun x e s hx=>?_) hp
   cases x with
   |normal=>exact ihn e s hx
   |exit id=>exact hQ _ _ _ hx
   |ret=>exact hQ _ _ _ hx
theorem aJ:qt (Call P):=fun _ _ _ _ _ hK h X hX hc=>hX _ _ _ _ _ hK (h X hX hc)
theorem yC {f:Nat} {args:List AV} {σ:ay} {K:AV->ay->Prop} (h:Pr P (Call P) f args σ K):Call P f args σ K:=by
 intro X hX hc
 refine hc _ _ _ _ ?_
 rcases h with⟨md,vf,h1,h2,h3⟩|h
 ·exact .inl ⟨md,vf,h1,h2,fun hl=>lK (fun f args σ K h=>h X hX hc) hX _ _ _ _ _ (fun _ _ _ h=>h) (h3 hl)⟩
 ·exact .inr h
theorem vG {f:Nat} {md:List (Nat×Nat)} {args:List AV} {σ:ay} {K:AV->ay->Prop} {vf:yE} (hf:uE P f md=some vf) (ha:vf.zj=args.length) (h:(∀a∈args,e8 a)->ek (Call P) vf.body (mo vf.res K) (cm args) σ):Call P f args σ K:=
 yC (.inl ⟨md,vf,hf,ha,h⟩)
theorem mD {f:Nat} {args:List AV} {σ:ay} {K:AV->ay->Prop} {vf:yE} (hf:nv P f=some vf) (ha:vf.zj=args.length) (h:(∀a∈args,e8 a)->ek (Call P) vf.body (mo vf.res K) (cm args) σ):Call P f args σ K:=
 vG hf ha h
theorem gh {f:Nat} {args:List AV} {σ:ay} {K:AV->ay->Prop} (h:Sound P f args σ K):Call P f args σ K:=yC (.inr h)
def k8 (P:Program) (f:Nat) (args:List AV) (r:AV):Prop:=∀σ,PC (Call P) f args σ (fun r'=>r'=r)
theorem k8.body {f:Nat} {args:List AV} {r:AV} {nt na:Nat} {body:VC} {res:List qd} (hf:nv P f=some ⟨nt,na,body,res⟩) (ha:na=args.length) (h:(∀a∈args,e8 a)->∀σ:ay,ek (Call P) body (mo res fun r0 σ'=>∃r',fz σ'.get 6 r0=some r'/\r'=r) (cm args) ⟨V.ro σ.get,σ.next⟩):k8 P f args r:=fun σ=>mD hf ha fun hl=>h hl σ
variable {Q:Ex->Env->ay->Prop} {K:Env->ay->Prop} {env:Env} {σ:ay}
theorem Ds {a b:VC} (h:∀N:Env->ay->Prop,(∀e s,ek X b Q e s->N e s)->ek X a (dq N Q) env σ):ek X (.seq a b) Q env σ:=h _ fun _ _ h=>h
theorem Bc (h:Q .normal env σ):ek X .skip Q env σ:=h
theorem A9 {id:Nat} (h:Q (.exit id) env σ):ek X (.exit id) Q env σ:=h
theorem G0 (h:Q .ret env σ):ek X .ret Q env σ:=h
theorem vw {id:Nat} {c:VC} (h:ek X c (bm id Q) env σ):ek X (.block id c) Q env σ:=h
theorem GY {o:bR} {c:VC} (h:∀N:AV->ay->Prop,(∀v s,ek X c Q (upd env o.dst v) s->N v s)->if aI o.guard env then fw X false o env σ N else N .undef σ):ek X (.one o c) Q env σ:=by
 have:=h (fun v s=>ek X c Q (upd env o.dst v) s) fun _ _ h=>h
 unfold ek
 split
 ·rename_i hw;rw[if_pos hw]at this;exact this
 ·rename_i hw;rw[if_neg hw]at this;exact this
def dX (s n:Nat):AV->Prop
 | .own id 0 _=>id=⟨s,n⟩
 |_=>False
def ea (n:Nat):AV->Prop
 | .own id _ _=>¬id.br=n
 |_=>True
theorem Bb {t s:Nat} {y:O} {c:VC} (h1:dX s σ.next (env t)) (h2:ea σ.next (dd env y)) (h:ek X c Q env σ):ek X (.loc t s y c) Q env σ:=by
 refine⟨⟨?_,fun id o l he=>?_⟩,h⟩
 ·revert h1
  unfold dX
  split
  ·rename_i id l he;rintro rfl;exact⟨l,he⟩
  ·exact fun h=>h.elim
 ·rw[he]at h2;exact h2
theorem fj {a b:VC} (ha:ek X a Q env σ) (hb:ek X b Q env σ):ek X (.both a b) Q env σ:=⟨ha,hb⟩
theorem GZ {draw:Bool} {ops:List bR} (h:∀N:Env->ay->Prop,(∀e s,Q .normal e s->N e s)->wpOps X draw ops N env σ):ek X (.eS draw ops) Q env σ:=h _ fun _ _ h=>h
theorem LR {ops:List bR} (h:cq ops (Q .normal) env σ):ek X (.PV ops) Q env σ:=h
theorem GX {draw:Bool} (h:K env ⟨σ.get,σ.next+1⟩):wpOps X draw [] K env σ:=h
theorem RD {draw:Bool} {o:bR} {r:List bR} (h:∀N:AV->ay->Prop,(∀v s,wpOps X draw r K (upd env o.dst v) s->N v s)->if aI o.guard env then fw X draw o env σ N else N .undef σ):wpOps X draw (o::r) K env σ:=by
 have:=h (fun v s=>wpOps X draw r K (upd env o.dst v) s) fun _ _ h=>h
 unfold wpOps
 split
 ·rename_i hw;rw[if_pos hw]at this;exact this
 ·rename_i hw;rw[if_neg hw]at this;exact this
theorem LS {c:O} {x y:VC} {b:Bool} (hc:dd env c=.bool b) (ht:b=true->ek X x Q env σ) (hf:b=false->ek X y Q env σ):ek X (.cond c x y) Q env σ:=by
 unfold ek
 simp only[hc]
 cases b with
 |true=>exact ht rfl
 |false=>exact hf rfl
inductive oF:AV->Prop->Prop->Prop
 |t {A B:Prop}:A->oF (.bool true) A B
 |f {A B:Prop}:B->oF (.bool false) A B
theorem vz {c:O} {x y:VC} {v:AV} (hv:dd env c=v) (h:oF v (ek X x Q env σ) (ek X y Q env σ)):ek X (.cond c x y) Q env σ:=by
 cases h with
 |t h=>exact LS hv (fun _=>h) (fun e=>by cases e)
 |f h=>exact LS hv (fun e=>by cases e) (fun _=>h)
theorem RB {c:VC} (I:Nat->Env->ay->Prop) (n:Nat) (h0:I n env σ) (step:∀n env σ,I n env σ->ek X c (fun x e s=>match x with| .normal=>∃m,m<n/\I m e s|x=>Q x e s) env σ)
  (hX:∀(c:VC) (Q Q':Ex->Env->ay->Prop) env σ,(∀x e s,Q x e s->Q' x e s)->ek X c Q env σ->ek X c Q' env σ):ek X (.loop c) Q env σ:=by
 have key:∀N n env σ,n<N->I n env σ->GG (ek X c) Q N env σ:=by
  intro N
  induction N with
  |zero=>intro n env σ h;exact absurd h (Nat.not_lt_zero _)
  |succ N ih=>
   intro n env σ hn hI
   refine hX c _ _ env σ (fun x e s hx=>?_) (step n env σ hI)
   cases x with
   |normal=>obtain⟨m,hm,hI'⟩:=hx;exact ih m e s (by omega) hI'
   |exit id=>exact hx
   |ret=>exact hx
 exact⟨n+1,key _ n env σ (Nat.lt_succ_self _) h0⟩
theorem Oy {c:VC} (I:Nat->Env->ay->Prop) (n:Nat) (h0:I n env σ) (step:∀n env σ,I n env σ->ek (Call P) c (fun x e s=>match x with| .normal=>∃m,m<n/\I m e s|x=>Q x e s) env σ):ek (Call P) (.loop c) Q env σ:=
 RB I n h0 step fun c Q Q' env σ hQ h=>lK (fun _ _ _ _ h=>h) aJ c Q Q' env σ hQ h
def FY:VC->List Nat
 | .eS _ ops=>ops.filterMap (·.dst)
 | .seq a b=>FY a++FY b
 | .cond _ a b=>FY a++FY b
 | .block _ a=>FY a
 | .loop a=>FY a
 | .one o c=>o.dst.toList++FY c
 | .both a b=>FY a++FY b
 | .loc _ _ _ c=>FY c
 | .PV ops=>ops.filterMap (·.dst)
 |_=>[]
def lW (l:List Nat) (env iL:Env):Prop:=∀t,l.contains t=false->iL t=env t
theorem lW.refl (l:List Nat) (env:Env):lW l env env:=fun _ _=>rfl
theorem lW.upd {l:List Nat} {e e':Env} {d:Option Nat} {v:AV} (h:lW l e e') (hd:∀t,d=some t->t∈l):lW l e (upd e' d v):=fun t ht=>by
 cases d with
 |none=>exact h t ht
 |some d=>
  have:t≠d:=fun hc=>by subst hc;rw[<-Bool.not_eq_true,List.contains_iff_mem]at ht;exact ht (hd _ rfl)
  show(if t=d then v else e' t)=e t
  rw[if_neg this];exact h t ht
theorem pE {draw:Bool} {Q:Env->ay->Prop} {l:List Nat} {e0:Env}:∀(ops:List bR) (env:Env) (σ:ay),(∀t,t∈ops.filterMap (·.dst)->t∈l)->lW l e0 env->wpOps (Call P) draw ops Q env σ->wpOps (Call P) draw ops (fun e s=>Q e s/\lW l e0 e) env σ
 |[],env,σ,_,hk,hp=>⟨hp,hk⟩
 |o::r,env,σ,hl,hk,hp=>by
  have hd:∀t,o.dst=some t->t∈l:=fun t ht=>hl t (List.mem_filterMap.2 ⟨o,by simp,ht⟩)
  have hr:∀t,t∈r.filterMap (·.dst)->t∈l:=fun t ht=>hl t (by
   obtain⟨x,hx,h⟩:=List.mem_filterMap.1 ht
   exact List.mem_filterMap.2 ⟨x,List.mem_cons_of_mem _ hx,h⟩)
  unfold wpOps at hp ⊢
  split at hp
  ·rename_i hw;rw[if_pos hw]
   exact sZ (fun _ _ _ _ h=>h) aJ (fun v σ' h=>pE r _ _ hr (hk.upd hd) h) hp
  ·rename_i hw;rw[if_neg hw];exact pE r _ _ hr (hk.upd hd) hp
theorem mc {Q:Env->ay->Prop} {l:List Nat} {e0:Env}:∀(ops:List bR) (env:Env) (σ:ay),(∀t,t∈ops.filterMap (·.dst)->t∈l)->lW l e0 env->cq ops Q env σ->cq ops (fun e s=>Q e s/\lW l e0 e) env σ
 |[],env,σ,_,hk,hp=>⟨hp,hk⟩
 |o::r,env,σ,hl,hk,hp=>by
  have hd:∀t,o.dst=some t->t∈l:=fun t ht=>hl t (List.mem_filterMap.2 ⟨o,by simp,ht⟩)
  have hr:∀t,t∈r.filterMap (·.dst)->t∈l:=fun t ht=>hl t (by
   obtain⟨x,hx,h⟩:=List.mem_filterMap.1 ht
   exact List.mem_filterMap.2 ⟨x,List.mem_cons_of_mem _ hx,h⟩)
  unfold cq at hp ⊢
  refine⟨hp.1,?_⟩
  replace hp:=hp.2
  split at hp
  ·split at hp
   ·exact mc r _ _ hr (hk.upd hd) hp
   ·exact hp.elim
  ·split at hp
   ·exact mc r _ _ hr (hk.upd hd) hp
   ·exact hp.elim
  ·split at hp
   ·exact mc r _ _ hr (hk.upd hd) hp
   ·exact hp.elim
theorem I0 {l:List Nat} {e0:Env}:∀(c:VC) (Q:Ex->Env->ay->Prop) (env:Env) (σ:ay),(∀t,t∈FY c->t∈l)->lW l e0 env->ek (Call P) c Q env σ->ek (Call P) c (fun x e s=>Q x e s/\lW l e0 e) env σ:=by
 intro c
 induction c with
 |skip=>intro Q env σ _ hk hp;exact⟨hp,hk⟩
 |exit id=>intro Q env σ _ hk hp;exact⟨hp,hk⟩
 |ret=>intro Q env σ _ hk hp;exact⟨hp,hk⟩
 |one o c ih=>
  intro Q env σ hl hk hp
  have hd:∀t,o.dst=some t->t∈l:=fun t ht=>hl t (List.mem_append_left _ (by rw[ht];simp))
  have hr:∀t,t∈FY c->t∈l:=fun t ht=>hl t (List.mem_append_right _ ht)
  unfold ek at hp ⊢
  split at hp
  ·rename_i hw;rw[if_pos hw]
   exact sZ (fun _ _ _ _ h=>h) aJ (fun v σ' h=>ih Q _ _ hr (hk.upd hd) h) hp
  ·rename_i hw;rw[if_neg hw];exact ih Q _ _ hr (hk.upd hd) hp
 |both a b iha ihb=>
  intro Q env σ hl hk hp
  exact⟨iha Q env σ (fun t ht=>hl t (List.mem_append_left _ ht)) hk hp.1,ihb Q env σ (fun t ht=>hl t (List.mem_append_right _ ht)) hk hp.2⟩
 |loc t s y c ih=>intro Q env σ hl hk hp;exact⟨hp.1,ih Q env σ hl hk hp.2⟩
 |PV ops=>intro Q env σ hl hk hp;exact mc ops env σ hl hk hp
 |eS draw ops=>intro Q env σ hl hk hp;exact pE ops env σ hl hk hp
 |seq a b iha ihb=>
  intro Q env σ hl hk hp
  refine lK (fun _ _ _ _ h=>h) aJ a _ _ env σ (fun x e s hx=>?_) (iha _ env σ (fun t ht=>hl t (List.mem_append_left _ ht)) hk hp)
  cases x with
  |normal=>exact ihb Q e s (fun t ht=>hl t (List.mem_append_right _ ht)) hx.2 hx.1
  |exit id=>exact hx
  |ret=>exact hx
 |cond c a b iha ihb=>
  intro Q env σ hl hk hp
  unfold ek at hp ⊢
  split at hp
  ·rename_i t ht
   cases t with
   |true=>exact iha Q env σ (fun t ht=>hl t (List.mem_append_left _ ht)) hk hp
   |false=>exact ihb Q env σ (fun t ht=>hl t (List.mem_append_right _ ht)) hk hp
  ·exact hp.elim
 |block id a iha=>
  intro Q env σ hl hk hp
  refine lK (fun _ _ _ _ h=>h) aJ a _ _ env σ (fun x e s hx=>?_) (iha _ env σ hl hk hp)
  obtain⟨hx,Ki⟩:=hx
  cases x with
  |normal=>exact⟨hx,Ki⟩
  |ret=>exact⟨hx,Ki⟩
  |exit lk=>
   unfold bm at hx ⊢
   dsimp only at hx ⊢
   split at hx
   ·rename_i hid;rw[if_pos hid];exact⟨hx,Ki⟩
   ·rename_i hid;rw[if_neg hid];exact⟨hx,Ki⟩
 |loop a iha=>
  intro Q env σ hl hk hp
  obtain⟨n,hp⟩:=hp
  refine⟨n,?_⟩
  induction n generalizing env σ with
  |zero=>exact hp
  |succ n ihn=>
   refine lK (fun _ _ _ _ h=>h) aJ _ _ _ _ _ (fun x e s hx=>?_) (iha _ env σ hl hk hp)
   obtain⟨hx,Ki⟩:=hx
   cases x with
   |normal=>exact ihn e s Ki hx
   |exit id=>exact⟨hx,Ki⟩
   |ret=>exact⟨hx,Ki⟩
theorem aX {c:VC} (I:Nat->Env->ay->Prop) (n:Nat) (h0:I n env σ) (step:∀n e s,I n e s->lW (FY c) env e->ek (Call P) c (fun x e s=>match x with| .normal=>∃m,m<n/\I m e s|x=>Q x e s) e s):ek (Call P) (.loop c) Q env σ:=by
 refine Oy (fun n e s=>I n e s/\lW (FY c) env e) n ⟨h0,lW.refl _ _⟩ fun n e s hI=>?_
 refine lK (fun _ _ _ _ h=>h) aJ _ _ _ _ _ (fun x e' s' hx=>?_) (I0 c _ e s (fun _ h=>h) hI.2 (step n e s hI.1 hI.2))
 obtain⟨hx,hk⟩:=hx
 cases x with
 |normal=>obtain⟨m,hm,h⟩:=hx;exact⟨m,hm,h,hk⟩
 |exit id=>exact hx
 |ret=>exact hx
theorem LV {k:Nat} (h:k<=9223372036854775807):IntKind.i64.wrap (k:Int)=k:=by rw[IntKind.wrap_i64];omega
theorem bK {z:Int} (h: -9223372036854775808<=z/\z<=9223372036854775807):IntKind.i64.wrap z=z:=by rw[IntKind.wrap_i64];omega
theorem az {k:Nat} (h:(k:Int)+1<=9223372036854775807):IntKind.i64.wrap ((k:Int)+1)=((k+1:Nat):Int):=by rw[IntKind.wrap_i64];omega
theorem all_succ {k:Nat} {p:Nat->Prop} (h:∀j,j<k->p j) (hk:p k):∀j,j<k+1->p j:=fun j hj=>by
 by_cases yY:j=k
 ·subst yY;exact hk
 ·exact h j (by omega)
theorem aH (g:Rows) (n:Nat) (k:IntKind) (m:Int):fz g (n+1) (.int k m)=some (.int k m):=by rw[fz]<;>intros<;>simp_all
theorem bf (g:Rows) (n:Nat) (b:Bool):fz g (n+1) (.bool b)=some (.bool b):=by rw[fz]<;>intros<;>simp_all
theorem bt (g:Rows) (n:Nat) (b:ByteArray):fz g (n+1) (.str b)=some (.str b):=by rw[fz]<;>intros<;>simp_all
theorem bZ (g:Rows) (n:Nat) (l:List (List AV)):fz g (n+1) (.sl l)=some (.sl l):=by rw[fz]<;>intros<;>simp_all
theorem aU (g:Rows) (n:Nat):fz g (n+1) .cj=some .cj:=by rw[fz]<;>intros<;>simp_all
theorem Ux {t:Nat} {r r0:AV} {x:Ex} (hx:x=.ret∨x=.normal) (he:env t=r0) (hz:fz σ.get 6 r0=some r):mo [.tmp t] (fun r0 σ'=>∃r',fz σ'.get 6 r0=some r'/\r'=r) x env σ:=by
 have:∃vs,fR env σ.get [.tmp t]=some vs/\∃r',fz σ.get 6 (fx vs)=some r'/\r'=r:=⟨[env t],rfl,r,by subst he;exact hz,rfl⟩
 rcases hx with rfl|rfl
 ·exact this
 ·exact this
def aw (P:Program) (f:Nat) (args:List AV) (r:AV):Prop:=∀n:Nat,Call P f args ⟨fun _=>none,n⟩ fun r0 σ'=>∃r',gq σ'.get 6 r0=some r'/\r'=r
theorem aw.body {f:Nat} {args:List AV} {r:AV} {nt na:Nat} {body:VC} {res:List qd} (hf:nv P f=some ⟨nt,na,body,res⟩) (ha:na=args.length) (h:(∀a∈args,e8 a)->∀n:Nat,ek (Call P) body (mo res fun r0 σ'=>∃r',gq σ'.get 6 r0=some r'/\r'=r) (cm args) ⟨fun _=>none,n⟩):aw P f args r:=fun n=>mD hf ha fun hl=>h hl n
theorem aw.x {f:Nat} {args args':List AV} {r:AV} (h:aw P f args' r) {σ:ay} (hv:de (dK σ.get) 6 args=some args'):fK (Call P) f args σ (fun r'=>r'=r):=.inr ⟨args',hv,h _⟩
theorem k8.x {f:Nat} {args:List AV} {r:AV} (h:k8 P f args r) (σ:ay):fK (Call P) f args σ (fun r'=>r'=r):=.inl (h σ)
theorem eL (g:Rows) (n:Nat) (k:IntKind) (m:Int):gq g (n+1) (.int k m)=some (.int k m):=by rw[gq]<;>intros<;>simp_all
theorem fP (g:Rows) (n:Nat) (b:Bool):gq g (n+1) (.bool b)=some (.bool b):=by rw[gq]<;>intros<;>simp_all
theorem MM (g:Rows) (n:Nat) (b:ByteArray):gq g (n+1) (.str b)=some (.str b):=by rw[gq]<;>intros<;>simp_all
theorem k9 (g:Rows) (n:Nat):gq g (n+1) .cj=some .cj:=by rw[gq]<;>intros<;>simp_all
theorem fF (g:Rows) (n:Nat) (l:List AV):gq g (n+1) (.iA l)=(er g n l).map AV.iA:=by rw[gq]
theorem Gi (g:Rows) (n:Nat) (l:List AV):gq g (n+1) (.agg l)=(er g n l).map AV.agg:=by rw[gq]
theorem sf {g:Rows} {n:Nat} {id:Id} {off len sz:Nat} {rows rows':List (List AV)} (h:g id=some ⟨true,sz,rows⟩) (hl:off+len<=rows.length) (hr:gD g n ((rows.drop off).take len)=some rows'):gq g (n+1) (.own id off len)=some (.sl rows'):=by
 rw[gq];simp only[h,if_true,if_pos hl,hr,Option.map_some]
theorem cY (g:Rows) (n:Nat):er g n []=some []:=by rw[er]
theorem bV (g:Rows) (n:Nat) (a:AV) (l:List AV):er g n (a::l)=match gq g n a with
  |some b=>(er g n l).map (b::·)
  |none=>none:=by rw[er];cases gq g n a<;>rfl
theorem tZ {g:Rows} {n:Nat}:∀{l:List (List AV)},(∀c∈l,er g n c=some c)->gD g n l=some l
 |[],_=>by rw[gD]
 |c::r,h=>by rw[gD,h c (by simp),tZ fun d hd=>h d (List.mem_cons_of_mem _ hd)];rfl
theorem bh (g:Rows) (n:Nat) (l:List AV):fz g (n+1) (.agg l)=(de g n l).map AV.agg:=by rw[fz]
theorem aT (g:Rows) (n:Nat) (l:List AV):fz g (n+1) (.dp l)=some (.dp l):=by rw[fz]<;>intros<;>simp_all
theorem wv {g:Rows} {n:Nat} {id:Id} {i off sz:Nat} {rows:List (List AV)} {cs qw:List AV} (h:g id=some ⟨true,sz,rows⟩) (hi:rows[i]? =some cs) (hr:de g n (cs.drop off)=some qw):fz g (n+1) (.ptr id i off)=some (.dp qw):=by
 rw[fz];simp only[h,if_true,hi,hr,Option.map_some]
theorem au (g:Rows) (n:Nat):de g n []=some []:=by rw[de]
theorem aq (g:Rows) (n:Nat) (a:AV) (l:List AV):de g n (a::l)=match fz g n a with
  |some b=>(de g n l).map (b::·)
  |none=>none:=by rw[de];cases fz g n a<;>rfl
theorem xt {t:Nat} {r r0:AV} {x:Ex} (hx:x=.ret∨x=.normal) (he:env t=r0) (hz:gq σ.get 6 r0=some r):mo [.tmp t] (fun r0 σ'=>∃r',gq σ'.get 6 r0=some r'/\r'=r) x env σ:=by
 have:∃vs,fR env σ.get [.tmp t]=some vs/\∃r',gq σ.get 6 (fx vs)=some r'/\r'=r:=⟨[env t],rfl,r,by subst he;exact hz,rfl⟩
 rcases hx with rfl|rfl
 ·exact this
 ·exact this
theorem bp {t:Nat} {b c:Bool} {x:Ex} (hx:x=.ret∨x=.normal) (he:env t=.bool b) (hb:b=c):mo [.tmp t] (fun r0 σ'=>∃r',gq σ'.get 6 r0=some r'/\r'=.bool c) x env σ:=xt hx he (by rw[fP,hb])
theorem db {t:Nat} {k:IntKind} {b c:Int} {x:Ex} (hx:x=.ret∨x=.normal) (he:env t=.int k b) (hb:b=c):mo [.tmp t] (fun r0 σ'=>∃r',gq σ'.get 6 r0=some r'/\r'=.int k c) x env σ:=xt hx he (by rw[eL,hb])
theorem jE {t u:Nat} {r r1 r2:AV} {x:Ex} (hx:x=.ret∨x=.normal) (h1:env t=r1) (h2:env u=r2) (hz:gq σ.get 6 (.iA [r1,r2])=some r):mo [.tmp t,.tmp u] (fun r0 σ'=>∃r',gq σ'.get 6 r0=some r'/\r'=r) x env σ:=by
 have:∃vs,fR env σ.get [.tmp t,.tmp u]=some vs/\∃r',gq σ.get 6 (fx vs)=some r'/\r'=r:=⟨[env t,env u],rfl,r,by subst h1;subst h2;exact hz,rfl⟩
 rcases hx with rfl|rfl
 ·exact this
 ·exact this
structure Pn (p:Prop):Prop where
 out:p
theorem tw {A B:Prop} (a:A) (b:B):A/\B:=⟨a,b⟩
theorem wk {A R G:Prop} (a:A) (r:R) (h:A->R->G:=by
  intro fL kk
  (repeat(refine Pn.mk ?_;intro N hN))
  (first|((first|apply Ds|apply GZ);intro N hN)|((first|(apply RD;intro N hN)|(apply GY;intro N hN));simp only[go_sem, ↓reduceIte,Nat.reduceEqDiff,Nat.reduceAdd,Nat.reduceSub,Nat.reduceMul,Nat.reduceLeDiff,Nat.reduceBEq,reduceCtorEq,Nat.reduceLT,Int.reduceLE,Int.reduceLT,Int.reduceToNat,Int.reduceNeg,Int.reduceAdd,Int.reduceEq,fL];first|(refine hN _ _ ?_;clear hN N)|skip)|(apply vz;(simp only[go_sem, ↓reduceIte,Nat.reduceEqDiff,Nat.reduceAdd,Nat.reduceSub,Nat.reduceMul,Nat.reduceLeDiff,Nat.reduceBEq,reduceCtorEq,Nat.reduceLT,Int.reduceLE,Int.reduceLT,Int.reduceToNat,Int.reduceNeg,Int.reduceAdd,Int.reduceEq,fL];rfl);first|with_reducible apply oF.t|with_reducible apply oF.f)|(apply GX;refine hN _ _ ?_;clear hN N;try(simp only[dq,bm, ↓reduceIte,Nat.reduceEqDiff]);try(refine hN _ _ ?_;clear hN N))|apply vw|(refine Bb ?_ ?_ ?_;(focus(simp only[go_sem, ↓reduceIte,Nat.reduceEqDiff,Nat.reduceAdd,Nat.reduceSub,Nat.reduceMul,Nat.reduceLeDiff,Nat.reduceBEq,reduceCtorEq,Nat.reduceLT,Int.reduceLE,Int.reduceLT,Int.reduceToNat,Int.reduceNeg,Int.reduceAdd,Int.reduceEq,fL];done));(focus(simp only[go_sem, ↓reduceIte,Nat.reduceEqDiff,Nat.reduceAdd,Nat.reduceSub,Nat.reduceMul,Nat.reduceLeDiff,Nat.reduceBEq,reduceCtorEq,Nat.reduceLT,Int.reduceLE,Int.reduceLT,Int.reduceToNat,Int.reduceNeg,Int.reduceAdd,Int.reduceEq,fL];done)))|((first|apply Bc|apply A9|apply G0);try(simp only[dq,bm, ↓reduceIte,Nat.reduceEqDiff]);try(refine hN _ _ ?_;clear hN N))|((first|refine hN _ _ ?_|(clear hN N;first|refine hN _ _ ?_|(clear hN N;first|refine hN _ _ ?_|(clear hN N;first|refine hN _ _ ?_|(clear hN N;refine hN _ _ ?_)))));clear hN N))
  (repeat(first|((first|apply Ds|apply GZ);intro N hN)|((first|(apply RD;intro N hN)|(apply GY;intro N hN));simp only[go_sem, ↓reduceIte,Nat.reduceEqDiff,Nat.reduceAdd,Nat.reduceSub,Nat.reduceMul,Nat.reduceLeDiff,Nat.reduceBEq,reduceCtorEq,Nat.reduceLT,Int.reduceLE,Int.reduceLT,Int.reduceToNat,Int.reduceNeg,Int.reduceAdd,Int.reduceEq,fL];first|(refine hN _ _ ?_;clear hN N)|skip)|(apply vz;(simp only[go_sem, ↓reduceIte,Nat.reduceEqDiff,Nat.reduceAdd,Nat.reduceSub,Nat.reduceMul,Nat.reduceLeDiff,Nat.reduceBEq,reduceCtorEq,Nat.reduceLT,Int.reduceLE,Int.reduceLT,Int.reduceToNat,Int.reduceNeg,Int.reduceAdd,Int.reduceEq,fL];rfl);first|with_reducible apply oF.t|with_reducible apply oF.f)|(apply GX;refine hN _ _ ?_;clear hN N;try(simp only[dq,bm, ↓reduceIte,Nat.reduceEqDiff]);try(refine hN _ _ ?_;clear hN N))|apply vw|(refine Bb ?_ ?_ ?_;(focus(simp only[go_sem, ↓reduceIte,Nat.reduceEqDiff,Nat.reduceAdd,Nat.reduceSub,Nat.reduceMul,Nat.reduceLeDiff,Nat.reduceBEq,reduceCtorEq,Nat.reduceLT,Int.reduceLE,Int.reduceLT,Int.reduceToNat,Int.reduceNeg,Int.reduceAdd,Int.reduceEq,fL];done));(focus(simp only[go_sem, ↓reduceIte,Nat.reduceEqDiff,Nat.reduceAdd,Nat.reduceSub,Nat.reduceMul,Nat.reduceLeDiff,Nat.reduceBEq,reduceCtorEq,Nat.reduceLT,Int.reduceLE,Int.reduceLT,Int.reduceToNat,Int.reduceNeg,Int.reduceAdd,Int.reduceEq,fL];done)))|((first|apply Bc|apply A9|apply G0);try(simp only[dq,bm, ↓reduceIte,Nat.reduceEqDiff]);try(refine hN _ _ ?_;clear hN N))|((first|refine hN _ _ ?_|(clear hN N;first|refine hN _ _ ?_|(clear hN N;first|refine hN _ _ ?_|(clear hN N;first|refine hN _ _ ?_|(clear hN N;refine hN _ _ ?_)))));clear hN N)))
  (repeat(revert hN;revert N;apply Pn.out))
  exact kk):G:=h a r
theorem wa {A R G:Prop} (a:A) (r:R) (h:A->R->G:=by
  intro fL kk
  (repeat(refine Pn.mk ?_;intro N hN))
  (first|((first|apply Ds|apply GZ);intro N hN)|((first|(refine Pt rfl fun N hN=>?_)|(apply GY;intro N hN));simp only[go_sem, ↓reduceIte,Nat.reduceEqDiff,Nat.reduceAdd,Nat.reduceSub,Nat.reduceMul,Nat.reduceLeDiff,Nat.reduceBEq,reduceCtorEq,Nat.reduceLT,Int.reduceLE,Int.reduceLT,Int.reduceToNat,Int.reduceNeg,Int.reduceAdd,Int.reduceEq,fL];first|(refine hN _ _ ?_;clear hN N)|skip)|(apply vz;(simp only[go_sem, ↓reduceIte,Nat.reduceEqDiff,Nat.reduceAdd,Nat.reduceSub,Nat.reduceMul,Nat.reduceLeDiff,Nat.reduceBEq,reduceCtorEq,Nat.reduceLT,Int.reduceLE,Int.reduceLT,Int.reduceToNat,Int.reduceNeg,Int.reduceAdd,Int.reduceEq,fL];rfl);first|with_reducible apply oF.t|with_reducible apply oF.f)|(apply GX;refine hN _ _ ?_;clear hN N;try(simp only[dq,bm, ↓reduceIte,Nat.reduceEqDiff]);try(refine hN _ _ ?_;clear hN N))|apply vw|(refine Bb ?_ ?_ ?_;(focus(simp only[go_sem, ↓reduceIte,Nat.reduceEqDiff,Nat.reduceAdd,Nat.reduceSub,Nat.reduceMul,Nat.reduceLeDiff,Nat.reduceBEq,reduceCtorEq,Nat.reduceLT,Int.reduceLE,Int.reduceLT,Int.reduceToNat,Int.reduceNeg,Int.reduceAdd,Int.reduceEq,fL];done));(focus(simp only[go_sem, ↓reduceIte,Nat.reduceEqDiff,Nat.reduceAdd,Nat.reduceSub,Nat.reduceMul,Nat.reduceLeDiff,Nat.reduceBEq,reduceCtorEq,Nat.reduceLT,Int.reduceLE,Int.reduceLT,Int.reduceToNat,Int.reduceNeg,Int.reduceAdd,Int.reduceEq,fL];done)))|((first|apply Bc|apply A9|apply G0);try(simp only[dq,bm, ↓reduceIte,Nat.reduceEqDiff]);try(refine hN _ _ ?_;clear hN N))|((first|refine hN _ _ ?_|(clear hN N;first|refine hN _ _ ?_|(clear hN N;first|refine hN _ _ ?_|(clear hN N;first|refine hN _ _ ?_|(clear hN N;refine hN _ _ ?_)))));clear hN N))
  (repeat(first|((first|apply Ds|apply GZ);intro N hN)|((first|(refine Pt rfl fun N hN=>?_)|(apply GY;intro N hN));simp only[go_sem, ↓reduceIte,Nat.reduceEqDiff,Nat.reduceAdd,Nat.reduceSub,Nat.reduceMul,Nat.reduceLeDiff,Nat.reduceBEq,reduceCtorEq,Nat.reduceLT,Int.reduceLE,Int.reduceLT,Int.reduceToNat,Int.reduceNeg,Int.reduceAdd,Int.reduceEq,fL];first|(refine hN _ _ ?_;clear hN N)|skip)|(apply vz;(simp only[go_sem, ↓reduceIte,Nat.reduceEqDiff,Nat.reduceAdd,Nat.reduceSub,Nat.reduceMul,Nat.reduceLeDiff,Nat.reduceBEq,reduceCtorEq,Nat.reduceLT,Int.reduceLE,Int.reduceLT,Int.reduceToNat,Int.reduceNeg,Int.reduceAdd,Int.reduceEq,fL];rfl);first|with_reducible apply oF.t|with_reducible apply oF.f)|(apply GX;refine hN _ _ ?_;clear hN N;try(simp only[dq,bm, ↓reduceIte,Nat.reduceEqDiff]);try(refine hN _ _ ?_;clear hN N))|apply vw|(refine Bb ?_ ?_ ?_;(focus(simp only[go_sem, ↓reduceIte,Nat.reduceEqDiff,Nat.reduceAdd,Nat.reduceSub,Nat.reduceMul,Nat.reduceLeDiff,Nat.reduceBEq,reduceCtorEq,Nat.reduceLT,Int.reduceLE,Int.reduceLT,Int.reduceToNat,Int.reduceNeg,Int.reduceAdd,Int.reduceEq,fL];done));(focus(simp only[go_sem, ↓reduceIte,Nat.reduceEqDiff,Nat.reduceAdd,Nat.reduceSub,Nat.reduceMul,Nat.reduceLeDiff,Nat.reduceBEq,reduceCtorEq,Nat.reduceLT,Int.reduceLE,Int.reduceLT,Int.reduceToNat,Int.reduceNeg,Int.reduceAdd,Int.reduceEq,fL];done)))|((first|apply Bc|apply A9|apply G0);try(simp only[dq,bm, ↓reduceIte,Nat.reduceEqDiff]);try(refine hN _ _ ?_;clear hN N))|((first|refine hN _ _ ?_|(clear hN N;first|refine hN _ _ ?_|(clear hN N;first|refine hN _ _ ?_|(clear hN N;first|refine hN _ _ ?_|(clear hN N;refine hN _ _ ?_)))));clear hN N)))
  (repeat(revert hN;revert N;apply Pn.out))
  exact kk):G:=h a r
theorem sd {A G:Prop} (a:A) (h:A->G:=by
  intro fL
  first|(simp only[go_sem, ↓reduceIte,Nat.reduceEqDiff,Nat.reduceAdd,Nat.reduceSub,Nat.reduceMul,Nat.reduceLeDiff,Nat.reduceBEq,reduceCtorEq,Nat.reduceLT,Int.reduceLE,Int.reduceLT,Int.reduceToNat,Int.reduceNeg,Int.reduceAdd,Int.reduceEq,fL,fR,iK];done)|fail):G:=h a
theorem sl {A G:Prop} (a:A) (h:A->G:=by
  intro fL
  (try simp only[go_sem, ↓reduceIte,Nat.reduceEqDiff,Nat.reduceAdd,Nat.reduceSub,Nat.reduceMul,Nat.reduceLeDiff,Nat.reduceBEq,reduceCtorEq,Nat.reduceLT,Int.reduceLE,Int.reduceLT,Int.reduceToNat,Int.reduceNeg,Int.reduceAdd,Int.reduceEq,fL])
  try rfl):G:=h a
end Go.Proofs.YtgoljkjaameagaaGreat.V

namespace Go.Proofs.YtgoljkjaameagaaGreat.V
open Go.RowKit
variable {P:Program} {X:fX} {env:Env} {σ:ay}
theorem bx (g:Rows) (n:Nat) (l:List AV):fz g (n+1) (.iA l)=(de g n l).map AV.iA:=by rw[fz]
theorem cH (g:Rows) (n:Nat) (f:Nat) (l:List AV):fz g (n+1) (.fn f l)=if l.all AV.cell then(de g n l).map (AV.fn f)else none:=by rw[fz]
theorem bc (g:Rows) (n:Nat) (id:Id) (i off:Nat):fz g (n+1) (.ptr id i off)=match g id with
  |some r=>if r.w then(match r.rows[i]? with
   |some cs=>(de g n (cs.drop off)).map AV.dp
   |none=>none)else none
  |none=>none:=by rw[fz];rfl
theorem gE (g:Rows) (n:Nat) (id:Id) (off len:Nat):fz g (n+1) (.own id off len)=match g id with
  |some r=>if r.w then(if off+len<=r.rows.length then(ee g n ((r.rows.drop off).take len)).map AV.sl else none)else none
  |none=>none:=by rw[fz];rfl
theorem o8 (g:Rows) (n:Nat):ee g n []=some []:=by rw[ee]
theorem zZ (g:Rows) (n:Nat) (c:List AV) (l:List (List AV)):ee g n (c::l)=match de g n c with
  |some b=>(ee g n l).map (b::·)
  |none=>none:=by rw[ee];cases de g n c<;>rfl
theorem wo {g:Rows} {n:Nat}:∀{l:List (List AV)},(∀c∈l,de g n c=some c)->ee g n l=some l
 |[],_=>by rw[ee]
 |c::r,h=>by rw[ee,h c (by simp),wo fun d hd=>h d (List.mem_cons_of_mem _ hd)];rfl
theorem nz {α:Type} {g:Rows} {n:Nat} {e:α->List AV} {l:List α} (h:∀x,de g n (e x)=some (e x)):ee g n (l.map e)=some (l.map e):=wo fun c hc=>by
 obtain⟨x,_,rfl⟩:=List.mem_map.1 hc
 exact h x
theorem ub {α:Type} {g:Rows} {n:Nat} {e:α->List AV} {l:List α} (h:∀x,er g n (e x)=some (e x)):gD g n (l.map e)=some (l.map e):=tZ fun c hc=>by
 obtain⟨x,_,rfl⟩:=List.mem_map.1 hc
 exact h x
theorem gI {α:Type} {g:Rows} {n:Nat} {e:α->List AV} {l:List α} {id:Id} {sz len:Nat} (hg:g id=some ⟨true,sz,l.map e⟩) (hl:len=l.length) (h:∀x,de g n (e x)=some (e x)):fz g (n+1) (.own id 0 len)=some (.sl (l.map e)):=by
 subst hl
 rw[gE];simp only[hg,if_true]
 rw[if_pos (by simp),List.drop_zero,List.take_of_length_le (by simp),nz h];rfl
theorem fA {α:Type} {g:Rows} {n:Nat} {e:α->List AV} {l:List α} {id:Id} {sz len:Nat} (hg:g id=some ⟨true,sz,l.map e⟩) (hl:len=l.length) (h:∀x,er g n (e x)=some (e x)):gq g (n+1) (.own id 0 len)=some (.sl (l.map e)):=by
 subst hl
 exact sf hg (by simp) (by rw[List.drop_zero,List.take_of_length_le (by simp),ub h])
theorem all_map {α:Type} {e:α->List AV} {sz:Nat} {l:List α} (h:∀x,(e x).length=sz/\(e x).all AV.cell=true):(l.map e).all (fun c=>c.length==sz&&c.all AV.cell)=true:=by
 rw[List.all_eq_true]
 intro c hc
 obtain⟨x,_,rfl⟩:=List.mem_map.1 hc
 simp[(h x).1,(h x).2]
def RowM (P:Program) (f:Nat) (args:List AV) (sz:Nat) (rows:List (List AV)):Prop:=(∀c∈rows,∀a∈c,a.plain=true)/\∀n:Nat,Call P f args ⟨fun _=>none,n⟩ fun r σ'=>∃id,r=.own id 0 rows.length/\σ'.get id=some ⟨true,sz,rows⟩
theorem yw {res:List qd} {r:AV} {vs:List AV} {x:Ex} (hx:x=.ret∨x=.normal) (hv:fR env σ.get res=some vs) (hz:fz σ.get 6 (fx vs)=some r):mo res (fun r0 σ'=>∃r',fz σ'.get 6 r0=some r'/\r'=r) x env σ:=by
 rcases hx with rfl|rfl
 ·exact⟨vs,hv,r,hz,rfl⟩
 ·exact⟨vs,hv,r,hz,rfl⟩
theorem pr {res:List qd} {r:AV} {vs:List AV} {x:Ex} (hx:x=.ret∨x=.normal) (hv:fR env σ.get res=some vs) (hz:gq σ.get 6 (fx vs)=some r):mo res (fun r0 σ'=>∃r',gq σ'.get 6 r0=some r'/\r'=r) x env σ:=by
 rcases hx with rfl|rfl
 ·exact⟨vs,hv,r,hz,rfl⟩
 ·exact⟨vs,hv,r,hz,rfl⟩
theorem fe {res:List qd} {K:AV->ay->Prop} {vs:List AV} {x:Ex} (hx:x=.ret∨x=.normal) (hv:fR env σ.get res=some vs) (hK:K (fx vs) σ):mo res K x env σ:=by
 rcases hx with rfl|rfl
 ·exact⟨vs,hv,hK⟩
 ·exact⟨vs,hv,hK⟩
theorem e6 {f:Nat} {args:List AV} {σ:ay} {K:AV->ay->Prop} {nt na:Nat} {body:VC} {res:List qd} (hf:nv P f=some ⟨nt,na,body,res⟩) (ha:na=args.length) (h:(∀a∈args,e8 a)->ek (Call P) body (mo res K) (cm args) σ):Call P f args σ K:=mD hf ha h
theorem DK {f:Nat} {md:List (Nat×Nat)} {args:List AV} {σ:ay} {K:AV->ay->Prop} {nt na:Nat} {body:VC} {res:List qd} (hf:uE P f md=some ⟨nt,na,body,res⟩) (ha:na=args.length) (h:(∀a∈args,e8 a)->ek (Call P) body (mo res K) (cm args) σ):Call P f args σ K:=vG hf ha h
theorem dr {i:Id} {n:Nat} (h:i.br<n):(∀s,(i=⟨s,n⟩)=False/\(i=⟨s,n+1⟩)=False/\(i=⟨s,n+1+1⟩)=False/\(i=⟨s,n+1+1+1⟩)=False/\(i=⟨s,n+1+1+1+1⟩)=False/\(i=⟨s,n+1+1+1+1+1⟩)=False/\(i=⟨s,n+1+1+1+1+1+1⟩)=False/\(i=⟨s,n+1+1+1+1+1+1+1⟩)=False/\(i=⟨s,n+1+1+1+1+1+1+1+1⟩)=False/\(i=⟨s,n+1+1+1+1+1+1+1+1+1⟩)=False/\(⟨s,n⟩=i)=False/\(⟨s,n+1⟩=i)=False/\(⟨s,n+1+1⟩=i)=False/\(⟨s,n+1+1+1⟩=i)=False/\(⟨s,n+1+1+1+1⟩=i)=False/\(⟨s,n+1+1+1+1+1⟩=i)=False/\(⟨s,n+1+1+1+1+1+1⟩=i)=False/\(⟨s,n+1+1+1+1+1+1+1⟩=i)=False/\(⟨s,n+1+1+1+1+1+1+1+1⟩=i)=False/\(⟨s,n+1+1+1+1+1+1+1+1+1⟩=i)=False)/\(i.br=n)=False/\(i.br=n+1)=False/\(i.br=n+1+1)=False/\(i.br=n+1+1+1)=False/\(i.br=n+1+1+1+1)=False/\(i.br=n+1+1+1+1+1)=False/\(i.br=n+1+1+1+1+1+1)=False/\(i.br=n+1+1+1+1+1+1+1)=False/\(i.br=n+1+1+1+1+1+1+1+1)=False/\(i.br=n+1+1+1+1+1+1+1+1+1)=False:=by
 refine⟨fun s=>?_,?_⟩
 ·obtain⟨a,b⟩:=i
  simp only[Id.mk.injEq,eq_iff_iff,iff_false,not_and]
  simp only at h
  refine⟨?_,?_,?_,?_,?_,?_,?_,?_,?_,?_,?_,?_,?_,?_,?_,?_,?_,?_,?_,?_⟩<;>(intros;omega)
 ·simp only[eq_iff_iff,iff_false]
  refine⟨?_,?_,?_,?_,?_,?_,?_,?_,?_,?_⟩<;>omega
def eE (a b:Nat) (ids:List Id):Prop:=ids.Nodup/\∀i∈ids,a<=i.br/\i.br<b
def Kept (σ σ':ay):Prop:=σ.next<=σ'.next/\∀j:Id,j.br<σ.next->σ'.get j=σ.get j
theorem eE.wide {a b a' b':Nat} {ids:List Id} (h:eE a b ids) (h1:a'<=a) (h2:b<=b'):eE a' b' ids:=⟨h.1,fun i hi=>⟨Nat.le_trans h1 (h.2 i hi).1,Nat.lt_of_lt_of_le (h.2 i hi).2 h2⟩⟩
theorem eE.app {a b c d:Nat} {i j:List Id} (h:eE a b i) (k:eE c d j) (Sa:b<=c) (oq:a<=b) (hcd:c<=d):eE a d (i++j):=
 ⟨List.nodup_append.2 ⟨h.1,k.1,fun x hx y hy e=>by subst e;have:=(h.2 x hx).2;have:=(k.2 x hy).1;omega⟩,fun x hx=>by
  rcases List.mem_append.1 hx with hx|hx
  ·have:=h.2 x hx;omega
  ·have:=k.2 x hx;omega⟩
end Go.Proofs.YtgoljkjaameagaaGreat.V

namespace Go.Proofs.YtgoljkjaameagaaGreat.V
open Go.RowKit
attribute [local irreducible] ek wpOps fK Call
attribute [local go_sem] aI fw eH fE fD dd upd cm K.av cG AV.cells AV.cell rowOf rowsOf part ld rowAt bL bY dx dO gz bE cW dY fC eY dj dS cU cR dG dH bH aZ cJ bG cL cK dQ dU dR cI bJ cV dP bF aL cP cz gy bq cF bI aW dq bm dy AV.undef bw bz dJ dM dD dI cE dX ea cq dW dV cN cQ List.getD_cons_zero List.getD_cons_succ List.getD_nil List.all_cons List.all_nil Bool.and_true Bool.true_and Bool.and_self Bool.not_true Bool.not_false Option.map_some Option.map_none Option.bind_some Option.bind_none List.length_cons List.length_nil List.take_succ_cons List.take_zero List.take_nil List.drop_succ_cons List.drop_zero List.drop_nil List.head?_cons List.map_cons List.map_nil List.getElem?_cons_zero List.getElem?_cons_succ List.cons_append List.nil_append List.append_nil List.length_map List.set_cons_zero List.set_cons_succ Nat.reduceMul eq_self Int.toNat_natCast Int.natCast_nonneg and_self true_and and_true decide_true decide_false Bool.false_eq_true Nat.zero_add Nat.add_zero List.contains_cons List.contains_nil Bool.or_false Bool.false_or beq_self_eq_true Nat.reduceBEq ne_eq not_true_eq_false not_false_eq_true Id.mk.injEq false_and and_false Nat.reduceLT Int.reduceLE Int.reduceLT Int.reduceToNat Int.reduceNeg Int.reduceAdd Nat.le_refl List.length_append beq_true beq_false Bool.not_eq_eq_eq_not or_false false_or dK aq au aH bf bt bZ aU bh aT bc cH bx
variable {P:Program}
def Lx (f g z:Nat):yE:=let s:=f*1000000
 ⟨27,2,(.seq (.eS false [q 4 (.dv (.k (.int .i64 0))) s]) (.seq (.eS false [q 6 (.dv (.t 1)) (s+1000),q 7 (.dv (.t 0)) (s+1001),q 8 (.len (.t 7)) (s+1002),q 9 (.bin .sub .i64 (.t 6) (.t 8)) (s+1003),q 1 (.dv (.t 9)) (s+1004)]) (.seq (.seq (.eS false [q 10 (.dv (.t 1)) (s+2000),q 11 (.bin .lss .i64 (.t 10) (.k (.int .i64 0))) (s+2001)]) (.cond (.t 11) (.seq (.eS false [q 4 (.dv (.k (.int .i64 (-1)))) (s+3000)]) .ret) .skip)) (.seq (.seq (.eS false [q 5 (.dv (.k (.int .i64 0))) (s+4000)]) (.block 0 (.loop (.seq (.seq (.eS false [q 12 (.dv (.t 5)) (s+5000),q 13 (.dv (.t 0)) (s+5001),q 14 (.len (.t 13)) (s+5002),q 15 (.bin .lss .i64 (.t 12) (.t 14)) (s+5003)]) (.cond (.t 15) .skip (.exit 0))) (.seq (.block 1 (.seq (.eS false [q 18 (.dv (.t 0)) (s+7000),q 19 (.dv (.t 5)) (s+7001),q 20 (.ej z (.t 18) (.t 19)) (s+7002),q 21 (.load true z (.t 20)) (s+7003),q 22 (.dv (.t 1)) (s+7004),q 23 (.call g [(.t 21),(.t 22)]) (s+7005),q 1 (.dv (.t 23)) (s+7006)]) (.seq (.eS false [q 24 (.dv (.t 1)) (s+8000),q 25 (.bin .lss .i64 (.t 24) (.k (.int .i64 0))) (s+8001)]) (.cond (.t 25) (.seq (.eS false [q 4 (.dv (.k (.int .i64 (-1)))) (s+9000)]) .ret) .skip)))) (.eS false [q 16 (.dv (.t 5)) (s+6000),q 17 (.bin .add .i64 (.t 16) (.k (.int .i64 1))) (s+6001),q 5 (.dv (.t 17)) (s+6002)])))))) (.seq (.eS false [q 26 (.dv (.t 1)) (s+10000),q 4 (.dv (.t 26)) (s+10001)]) .ret))))),[(.tmp 4)]⟩
def Lv (f:Nat):yE:=let s:=f*1000000
 ⟨12,2,(.seq (.eS false [q 4 (.dv (.k (.int .i64 0))) s]) (.seq (.eS false [q 5 (.dv (.t 1)) (s+1000),q 6 (.dv (.t 0)) (s+1001),q 7 (.len (.t 6)) (s+1002),q 8 (.bin .sub .i64 (.t 5) (.t 7)) (s+1003),q 1 (.dv (.t 8)) (s+1004)]) (.seq (.seq (.eS false [q 9 (.dv (.t 1)) (s+2000),q 10 (.bin .lss .i64 (.t 9) (.k (.int .i64 0))) (s+2001)]) (.cond (.t 10) (.seq (.eS false [q 4 (.dv (.k (.int .i64 (-1)))) (s+3000)]) .ret) .skip)) (.seq (.eS false [q 11 (.dv (.t 1)) (s+4000),q 4 (.dv (.t 11)) (s+4001)]) .ret)))),[(.tmp 4)]⟩
def Gd (f g z:Nat):yE:=let s:=f*1000000
 ⟨27,2,(.seq (.eS false [q 4 (.dv (.k (.bool false))) s]) (.seq (.seq (.eS false [q 6 (.dv (.t 0)) (s+1000),q 7 (.len (.t 6)) (s+1001),q 8 (.dv (.t 1)) (s+1002),q 9 (.len (.t 8)) (s+1003),q 10 (.PZ true .tI (.t 7) (.t 9)) (s+1004)]) (.cond (.t 10) (.seq (.eS false [q 4 (.dv (.k (.bool false))) (s+2000)]) .ret) .skip)) (.seq (.seq (.eS false [q 5 (.dv (.k (.int .i64 0))) (s+3000)]) (.block 0 (.loop (.seq (.seq (.eS false [q 11 (.dv (.t 5)) (s+4000),q 12 (.dv (.t 0)) (s+4001),q 13 (.len (.t 12)) (s+4002),q 14 (.bin .lss .i64 (.t 11) (.t 13)) (s+4003)]) (.cond (.t 14) .skip (.exit 0))) (.seq (.block 1 (.seq (.eS true [q 17 (.dv (.t 0)) (s+6000),q 18 (.dv (.t 5)) (s+6001),q 19 (.ej z (.t 17) (.t 18)) (s+6002),q 20 (.load true z (.t 19)) (s+6003),q 21 (.dv (.t 1)) (s+6004),q 22 (.dv (.t 5)) (s+6005),q 23 (.ej z (.t 21) (.t 22)) (s+6006),q 24 (.load true z (.t 23)) (s+6007),q 25 (.call g [(.t 20),(.t 24)]) (s+6008),q 26 (.not (.t 25)) (s+6009)]) (.cond (.t 26) (.seq (.eS false [q 4 (.dv (.k (.bool false))) (s+7000)]) .ret) .skip))) (.eS false [q 15 (.dv (.t 5)) (s+5000),q 16 (.bin .add .i64 (.t 15) (.k (.int .i64 1))) (s+5001),q 5 (.dv (.t 16)) (s+5002)])))))) (.seq (.eS false [q 4 (.dv (.k (.bool true))) (s+8000)]) .ret)))),[(.tmp 4)]⟩
def OR (f:Nat) (t:TS):yE:=let s:=f*1000000
 ⟨26,2,(.seq (.eS false [q 4 (.dv (.k (.bool false))) s]) (.seq (.seq (.eS false [q 6 (.dv (.t 0)) (s+1000),q 7 (.len (.t 6)) (s+1001),q 8 (.dv (.t 1)) (s+1002),q 9 (.len (.t 8)) (s+1003),q 10 (.PZ true .tI (.t 7) (.t 9)) (s+1004)]) (.cond (.t 10) (.seq (.eS false [q 4 (.dv (.k (.bool false))) (s+2000)]) .ret) .skip)) (.seq (.seq (.eS false [q 5 (.dv (.k (.int .i64 0))) (s+3000)]) (.block 0 (.loop (.seq (.seq (.eS false [q 11 (.dv (.t 5)) (s+4000),q 12 (.dv (.t 0)) (s+4001),q 13 (.len (.t 12)) (s+4002),q 14 (.bin .lss .i64 (.t 11) (.t 13)) (s+4003)]) (.cond (.t 14) .skip (.exit 0))) (.seq (.block 1 (.seq (.eS true [q 17 (.dv (.t 0)) (s+6000),q 18 (.dv (.t 5)) (s+6001),q 19 (.ej 1 (.t 17) (.t 18)) (s+6002),q 20 (.load false 1 (.t 19)) (s+6003),q 21 (.dv (.t 1)) (s+6004),q 22 (.dv (.t 5)) (s+6005),q 23 (.ej 1 (.t 21) (.t 22)) (s+6006),q 24 (.load false 1 (.t 23)) (s+6007),q 25 (.PZ true t (.t 20) (.t 24)) (s+6008)]) (.cond (.t 25) (.seq (.eS false [q 4 (.dv (.k (.bool false))) (s+7000)]) .ret) .skip))) (.eS false [q 15 (.dv (.t 5)) (s+5000),q 16 (.bin .add .i64 (.t 15) (.k (.int .i64 1))) (s+5001),q 5 (.dv (.t 16)) (s+5002)])))))) (.seq (.eS false [q 4 (.dv (.k (.bool true))) (s+8000)]) .ret)))),[(.tmp 4)]⟩
def uy (f g z:Nat) (zero:List K):yE:=let s:=f*1000000
 ⟨23,1,(.seq (.eS false [q 2 (.dv (.k .cj)) s]) (.seq (.eS false [q 5 (.dv (.t 0)) (s+1000),q 6 (.len (.t 5)) (s+1001),q 7 (.j9 zero (.t 6) (.t 6)) (s+1002),q 3 (.dv (.t 7)) (s+1003)]) (.seq (.seq (.eS false [q 4 (.dv (.k (.int .i64 0))) (s+2000)]) (.block 0 (.loop (.seq (.seq (.eS false [q 8 (.dv (.t 4)) (s+3000),q 9 (.dv (.t 0)) (s+3001),q 10 (.len (.t 9)) (s+3002),q 11 (.bin .lss .i64 (.t 8) (.t 10)) (s+3003)]) (.cond (.t 11) .skip (.exit 0))) (.seq (.block 1 (.eS false [q 14 (.dv (.t 3)) (s+5000),q 15 (.dv (.t 4)) (s+5001),q 16 (.dv (.t 0)) (s+5002),q 17 (.dv (.t 4)) (s+5003),q 18 (.ej z (.t 16) (.t 17)) (s+5004),q 19 (.load true z (.t 18)) (s+5005),q 20 (.call g [(.t 19)]) (s+5006),q 21 (.ej z (.t 14) (.t 15)) (s+5007),⟨none,(.store z (.t 21) (.t 20)),none,(s+5008),[]⟩])) (.eS false [q 12 (.dv (.t 4)) (s+4000),q 13 (.bin .add .i64 (.t 12) (.k (.int .i64 1))) (s+4001),q 4 (.dv (.t 13)) (s+4002)])))))) (.seq (.eS false [q 22 (.dv (.t 3)) (s+6000),q 2 (.dv (.t 22)) (s+6001)]) .ret)))),[(.tmp 2)]⟩
def LK (f:Nat) (zero:K):yE:=let s:=f*1000000
 ⟨22,1,(.seq (.eS false [q 2 (.dv (.k .cj)) s]) (.seq (.eS false [q 5 (.dv (.t 0)) (s+1000),q 6 (.len (.t 5)) (s+1001),q 7 (.j9 [zero] (.t 6) (.t 6)) (s+1002),q 3 (.dv (.t 7)) (s+1003)]) (.seq (.seq (.eS false [q 4 (.dv (.k (.int .i64 0))) (s+2000)]) (.block 0 (.loop (.seq (.seq (.eS false [q 8 (.dv (.t 4)) (s+3000),q 9 (.dv (.t 0)) (s+3001),q 10 (.len (.t 9)) (s+3002),q 11 (.bin .lss .i64 (.t 8) (.t 10)) (s+3003)]) (.cond (.t 11) .skip (.exit 0))) (.seq (.block 1 (.eS false [q 14 (.dv (.t 3)) (s+5000),q 15 (.dv (.t 4)) (s+5001),q 16 (.dv (.t 0)) (s+5002),q 17 (.dv (.t 4)) (s+5003),q 18 (.ej 1 (.t 16) (.t 17)) (s+5004),q 19 (.load false 1 (.t 18)) (s+5005),q 20 (.ej 1 (.t 14) (.t 15)) (s+5006),⟨none,(.store 1 (.t 20) (.t 19)),none,(s+5007),[]⟩])) (.eS false [q 12 (.dv (.t 4)) (s+4000),q 13 (.bin .add .i64 (.t 12) (.k (.int .i64 1))) (s+4001),q 4 (.dv (.t 13)) (s+4002)])))))) (.seq (.eS false [q 21 (.dv (.t 3)) (s+6000),q 2 (.dv (.t 21)) (s+6001)]) .ret)))),[(.tmp 2)]⟩
def yy (n:Nat) (l:Int):Int:=if (n:Int)<=l then l-n else -1
theorem Lw {fk:Nat} (hc:nv P fk=some (Lv fk)) (rows:List (List AV)) (left:Int) (h0:0<=left) (h1:left<=1048576):aw P fk [.sl rows,.int .i64 left] (.int .i64 (yy rows.length left)):=by
 refine aw.body hc rfl fun hl n0=>?_
 try simp only[q]
 have hn:rows.length<=9223372036854775807:=(hl (.sl rows) (by simp)).len
 clear hl
 have hw:IntKind.i64.wrap (left-(rows.length:Int))=left-rows.length:=bK (by omega)
 by_cases hf:(rows.length:Int)<=left
 ·have mC:¬left-(rows.length:Int)<0:=by omega
  (try((repeat(revert hN;revert N;apply Pn.out));refine wk (tw @hw @mC) ?_;(repeat(refine Pn.mk ?_;intro N hN))))
  exact db (b:=left-(rows.length:Int)) (.inl rfl) (sd @Nat.zero_add) (by rw[yy,if_pos hf])
 ·have mC:left-(rows.length:Int)<0:=by omega
  (try((repeat(revert hN;revert N;apply Pn.out));refine wk (tw @hw @mC) ?_;(repeat(refine Pn.mk ?_;intro N hN))))
  exact db (b:=-1) (.inl rfl) (sd @Nat.zero_add) (by rw[yy,if_neg hf])
def e9 {α:Type} (f:α->Nat) (xs:List α) (k:Nat):Nat:=((xs.take k).map f).sum
theorem j5 {α:Type} (f:α->Nat) (xs:List α):e9 f xs 0=0:=by simp[e9]
theorem sQ {α:Type} (f:α->Nat) (xs:List α):e9 f xs xs.length=(xs.map f).sum:=by simp[e9]
theorem nN {α:Type} (f:α->Nat) {xs:List α} {k:Nat} (hk:k<xs.length):e9 f xs (k+1)=e9 f xs k+f xs[k]:=by
 unfold e9
 rw[List.take_succ_eq_append_getElem hk,List.map_append,List.sum_append];simp
theorem kb {α:Type} (f:α->Nat) (xs:List α) (k:Nat):e9 f xs k<=(xs.map f).sum:=by
 unfold e9
 conv=>rhs;rw[<-List.take_append_drop k xs]
 rw[List.map_append,List.sum_append];omega
theorem Ly {α:Type} {e:α->List AV} {z fk gk:Nat} (wt:α->Nat) (hc:nv P fk=some (Lx fk gk z)) (hz:∀x,(e x).length=z) (Ah:∀x g,de g 6 [.agg (e x)]=some [.agg (e x)]) (xs:List α) (left:Int) (h0:0<=left) (h1:left<=1048576)
  (hg:∀x∈xs,∀l:Int,0<=l->l<=1048576->aw P gk [.agg (e x),.int .i64 l] (.int .i64 (yy (wt x) l))):aw P fk [.sl (xs.map e),.int .i64 left] (.int .i64 (yy (xs.length+(xs.map wt).sum) left)):=by
 refine aw.body hc rfl fun hl n0=>?_
 try simp only[q]
 have hn:xs.length<=9223372036854775807:=by simpa using(hl (.sl (xs.map e)) (by simp)).len
 clear hl
 have hw:IntKind.i64.wrap (left-(xs.length:Int))=left-xs.length:=bK (by omega)
 by_cases hf:(xs.length:Int)<=left
 ·have mC:¬left-(xs.length:Int)<0:=by omega
  (try((repeat(revert hN;revert N;apply Pn.out));refine wk (tw @hw @mC) ?_;(repeat(refine Pn.mk ?_;intro N hN))))
  refine aX (fun n env st=>∃k:Nat,n=(xs.length)-k/\k<=(xs.length)/\env 5=.int .i64 (k:Int)/\env 1=(.int .i64 (left-xs.length-(e9 wt xs k:Nat)))/\(0<=left-xs.length-(e9 wt xs k:Nat))) (xs.length) ⟨0,by omega,by omega,sl (tw @j5 (tw @Int.natCast_zero @Int.sub_zero)),sl (tw @j5 (tw @Int.natCast_zero @Int.sub_zero)),(by rw[j5];omega)⟩ ?_
  rintro n_a env_a st_a ⟨k,rfl,ale,a5,a1,kC⟩ dC
  have a0:=dC 0 (by kernel_rfl)
  simp only[go_sem, ↓reduceIte,Nat.reduceEqDiff,Nat.reduceAdd,Nat.reduceSub,Nat.reduceLeDiff,reduceCtorEq,j5,Int.natCast_zero,Int.sub_zero]at a0
  clear dC
  by_cases hk:(k:Int)<(xs.length:Int)
  ·have cD:∀{e:Env},(e 5=.int .i64 (IntKind.i64.wrap ((k:Int)+1)))->(e 1=(.int .i64 (left-xs.length-(e9 wt xs (k+1):Nat))))->(0<=left-xs.length-(e9 wt xs (k+1):Nat))->∃m0,m0<(xs.length)-k/\∃k:Nat,m0=(xs.length)-k/\k<=(xs.length)/\e 5=.int .i64 (k:Int)/\e 1=(.int .i64 (left-xs.length-(e9 wt xs k:Nat)))/\(0<=left-xs.length-(e9 wt xs k:Nat)):=fun x1 x2 x3=>⟨_,by omega,k+1,rfl,by omega,(by rw[x1,az (by omega)]),x2,x3⟩
   have fm:k<xs.length:=by omega
   have eU:(xs.map e)[k]? =some (e xs[k]):=by simp[fm]
   have uh:=hz xs[k]
   have ht:(e xs[k]).take z=e xs[k]:=by rw[<-uh,List.take_length]
   have hs:=nN wt fm
   have u9:=kb wt xs (k+1)
   have iy:=hg _ (List.getElem_mem fm) (left-xs.length-(e9 wt xs k:Nat)) kC (by omega)
   have kR:de (dK st_a.get) 6 [.agg (e xs[k]),.int .i64 (left-xs.length-(e9 wt xs k:Nat))]=some [.agg (e xs[k]),.int .i64 (left-xs.length-(e9 wt xs k:Nat))]:=by
    have q1:=Ah xs[k] (dK st_a.get)
    rw[aq,au]at q1
    rw[aq,aq,au,aH]
    revert q1
    cases V.fz (dK st_a.get) 6 (.agg (e xs[k]))<;>simp
   by_cases qj:(wt xs[k]:Int)<=left-xs.length-(e9 wt xs k:Nat)
   ·rw[yy,if_pos qj]at iy
    have rm:¬left-xs.length-(e9 wt xs k:Nat)-(wt xs[k]:Int)<0:=by omega
    have pN:left-xs.length-(e9 wt xs k:Nat)-(wt xs[k]:Int)=left-xs.length-(e9 wt xs (k+1):Nat):=by rw[hs];omega
    generalize hex:e xs[k]=c at iy kR eU uh ht
    (try((repeat(revert hN;revert N;apply Pn.out));refine wk (tw @a5 (tw @a1 (tw @a0 (tw @hk (tw @eU (tw @uh (tw @ht @Nat.le_refl))))))) ?_;(repeat(refine Pn.mk ?_;intro N hN))))
    refine .inl ⟨_,aw.x iy kR,?_⟩
    refine hN _ _ ?_
    clear hN N
    (try((repeat(revert hN;revert N;apply Pn.out));refine wk (tw @a5 (tw @a1 (tw @a0 @rm))) ?_;(repeat(refine Pn.mk ?_;intro N hN))))
    refine cD ?_ ?_ ((by rw[hs];omega))
    all_goals simp only[go_sem, ↓reduceIte,Nat.reduceEqDiff,Nat.reduceAdd,Nat.reduceSub,Nat.reduceLeDiff,reduceCtorEq,a5,a1,a0,pN]
   ·rw[yy,if_neg qj]at iy
    generalize hex:e xs[k]=c at iy kR eU uh ht
    (try((repeat(revert hN;revert N;apply Pn.out));refine wk (tw @a5 (tw @a1 (tw @a0 (tw @hk (tw @eU (tw @uh (tw @ht @Nat.le_refl))))))) ?_;(repeat(refine Pn.mk ?_;intro N hN))))
    refine .inl ⟨_,aw.x iy kR,?_⟩
    refine hN _ _ ?_
    clear hN N
    (try((repeat(revert hN;revert N;apply Pn.out));refine wk (tw @a5 (tw @a1 @a0)) ?_;(repeat(refine Pn.mk ?_;intro N hN))))
    exact db (b:=-1) (.inl rfl) (sd @Nat.zero_add) (by rw[yy,if_neg (by omega)])
  ·(try((repeat(revert hN;revert N;apply Pn.out));refine wk (tw @a5 (tw @a1 (tw @a0 @hk))) ?_;(repeat(refine Pn.mk ?_;intro N hN))))
   have fm:k=xs.length:=by omega
   subst fm
   have J5:=sQ wt xs
   exact db (b:=left-xs.length-(e9 wt xs xs.length:Nat)) (.inl rfl) (sd (tw @a5 (tw @a1 @a0))) (by rw[yy,if_pos (by omega)];omega)
 ·have mC:left-(xs.length:Int)<0:=by omega
  (try((repeat(revert hN;revert N;apply Pn.out));refine wk (tw @hw @mC) ?_;(repeat(refine Pn.mk ?_;intro N hN))))
  exact db (b:=-1) (.inl rfl) (sd @Nat.zero_add) (by rw[yy,if_neg (by omega)])
theorem JU {α:Type} {xs ys:List α} (hl:xs.length=ys.length) (h:∀j:Nat,j<xs.length->∀(h1:j<xs.length) (h2:j<ys.length),xs[j]=ys[j]):xs=ys:=List.ext_getElem hl fun j h1 h2=>h j h1 h1 h2
theorem Ef {α:Type} [DecidableEq α] {e:α->List AV} {z fk gk:Nat} (hc:nv P fk=some (Gd fk gk z)) (hz:∀x,(e x).length=z) (Ah:∀x g,de g 6 [.agg (e x)]=some [.agg (e x)]) (xs ys:List α)
  (hg:∀x y,aw P gk [.agg (e x),.agg (e y)] (.bool (decide (x=y)))):aw P fk [.sl (xs.map e),.sl (ys.map e)] (.bool (decide (xs=ys))):=by
 refine aw.body hc rfl fun hl n0=>?_
 try simp only[q]
 have hn:xs.length<=9223372036854775807:=by simpa using(hl (.sl (xs.map e)) (by simp)).len
 clear hl
 by_cases hlen:xs.length=ys.length
 ·have jP:decide ((xs.length:Int)=(ys.length:Int))=true:=by simp[hlen]
  (try((repeat(revert hN;revert N;apply Pn.out));refine wk @jP ?_;(repeat(refine Pn.mk ?_;intro N hN))))
  refine aX (fun n env st=>∃k:Nat,n=(xs.length)-k/\k<=(xs.length)/\env 5=.int .i64 (k:Int)/\(∀j:Nat,j<k->∀(h1:j<xs.length) (h2:j<ys.length),xs[j]=ys[j])) (xs.length) ⟨0,by omega,by omega,sl @Nat.zero_add,fun _ h=>absurd h (Nat.not_lt_zero _)⟩ ?_
  rintro n_a env_a st_a ⟨k,rfl,ale,a5,nq⟩ dC
  have a0:=dC 0 (by kernel_rfl);have a1:=dC 1 (by kernel_rfl)
  simp only[go_sem, ↓reduceIte,Nat.reduceEqDiff,Nat.reduceAdd,Nat.reduceSub,Nat.reduceLeDiff,reduceCtorEq]at a0 a1
  clear dC
  by_cases hk:(k:Int)<(xs.length:Int)
  ·have cD:∀{e:Env},(e 5=.int .i64 (IntKind.i64.wrap ((k:Int)+1)))->(∀(h1:k<xs.length) (h2:k<ys.length),xs[k]=ys[k])->∃m0,m0<(xs.length)-k/\∃k:Nat,m0=(xs.length)-k/\k<=(xs.length)/\e 5=.int .i64 (k:Int)/\(∀j:Nat,j<k->∀(h1:j<xs.length) (h2:j<ys.length),xs[j]=ys[j]):=fun x1 x2=>⟨_,by omega,k+1,rfl,by omega,(by rw[x1,az (by omega)]),(all_succ nq x2)⟩
   have fm:k<xs.length:=by omega
   have Vn:k<ys.length:=by omega
   have eU:(xs.map e)[k]? =some (e xs[k]):=by simp[fm]
   have EK:(ys.map e)[k]? =some (e ys[k]):=by simp[Vn]
   have uh:=hz xs[k]
   have EU:=hz ys[k]
   have ht:(e xs[k]).take z=e xs[k]:=by rw[<-uh,List.take_length]
   have Ja:(e ys[k]).take z=e ys[k]:=by rw[<-EU,List.take_length]
   have iy:=hg xs[k] ys[k]
   have kR:∀g,de g 6 [.agg (e xs[k]),.agg (e ys[k])]=some [.agg (e xs[k]),.agg (e ys[k])]:=fun g=>by
    have q1:=Ah xs[k] g
    have q2:=Ah ys[k] g
    rw[aq,au]at q1
    rw[aq,q2]
    revert q1
    cases V.fz g 6 (.agg (e xs[k]))<;>simp
   by_cases heq:xs[k]=ys[k]
   ·rw[decide_eq_true heq]at iy
    generalize hex:e xs[k]=c at iy kR eU uh ht
    generalize hey:e ys[k]=d at iy kR EK EU Ja
    (try((repeat(revert hN;revert N;apply Pn.out));refine wk (tw @a5 (tw @a0 (tw @a1 (tw @hk (tw @eU (tw @EK (tw @uh (tw @EU (tw @ht (tw @Ja @Nat.le_refl)))))))))) ?_;(repeat(refine Pn.mk ?_;intro N hN))))
    refine⟨_,aw.x iy (kR _),?_⟩
    refine hN _ _ ?_
    clear hN N
    (try((repeat(revert hN;revert N;apply Pn.out));refine wk (tw @a5 (tw @a0 @a1)) ?_;(repeat(refine Pn.mk ?_;intro N hN))))
    exact cD (sd (tw @a5 (tw @a0 @a1))) (fun _ _=>heq)
   ·rw[decide_eq_false heq]at iy
    generalize hex:e xs[k]=c at iy kR eU uh ht
    generalize hey:e ys[k]=d at iy kR EK EU Ja
    (try((repeat(revert hN;revert N;apply Pn.out));refine wk (tw @a5 (tw @a0 (tw @a1 (tw @hk (tw @eU (tw @EK (tw @uh (tw @EU (tw @ht (tw @Ja @Nat.le_refl)))))))))) ?_;(repeat(refine Pn.mk ?_;intro N hN))))
    refine⟨_,aw.x iy (kR _),?_⟩
    refine hN _ _ ?_
    clear hN N
    (try((repeat(revert hN;revert N;apply Pn.out));refine wk (tw @a5 (tw @a0 @a1)) ?_;(repeat(refine Pn.mk ?_;intro N hN))))
    exact bp (b:=false) (.inl rfl) (sd @Nat.zero_add) (decide_eq_false fun h=>heq (List.getElem_of_eq h _)).symm
  ·(try((repeat(revert hN;revert N;apply Pn.out));refine wk (tw @a5 (tw @a0 (tw @a1 @hk))) ?_;(repeat(refine Pn.mk ?_;intro N hN))))
   exact bp (b:=true) (.inl rfl) (sd @Nat.zero_add) (decide_eq_true (JU hlen fun j hj h1 h2=>nq j (by omega) h1 h2)).symm
 ·have jP:decide ((xs.length:Int)=(ys.length:Int))=false:=decide_eq_false fun h=>hlen (by omega)
  (try((repeat(revert hN;revert N;apply Pn.out));refine wk @jP ?_;(repeat(refine Pn.mk ?_;intro N hN))))
  exact bp (b:=false) (.inl rfl) (sd @Nat.zero_add) (decide_eq_false fun h=>hlen (by subst h;rfl)).symm
theorem SU {fk:Nat} (hc:nv P fk=some (OR fk .tI)) (xs ys:List Int):
  aw P fk [.sl (xs.map fun x=>[AV.int .i64 x]),.sl (ys.map fun x=>[AV.int .i64 x])] (.bool (decide (xs=ys))):=by
 refine aw.body hc rfl fun hl n0=>?_
 try simp only[q]
 have hn:xs.length<=9223372036854775807:=by simpa using(hl (.sl (xs.map fun x=>[AV.int .i64 x])) (by simp)).len
 clear hl
 by_cases hlen:xs.length=ys.length
 ·have jP:decide ((xs.length:Int)=(ys.length:Int))=true:=by simp[hlen]
  (try((repeat(revert hN;revert N;apply Pn.out));refine wk @jP ?_;(repeat(refine Pn.mk ?_;intro N hN))))
  refine aX (fun n env st=>∃k:Nat,n=(xs.length)-k/\k<=(xs.length)/\env 5=.int .i64 (k:Int)/\(∀j:Nat,j<k->∀(h1:j<xs.length) (h2:j<ys.length),xs[j]=ys[j])) (xs.length) ⟨0,by omega,by omega,sl @Nat.zero_add,fun _ h=>absurd h (Nat.not_lt_zero _)⟩ ?_
  rintro n_a env_a st_a ⟨k,rfl,ale,a5,nq⟩ dC
  have a0:=dC 0 (by kernel_rfl);have a1:=dC 1 (by kernel_rfl)
  simp only[go_sem, ↓reduceIte,Nat.reduceEqDiff,Nat.reduceAdd,Nat.reduceSub,Nat.reduceLeDiff,reduceCtorEq]at a0 a1
  clear dC
  by_cases hk:(k:Int)<(xs.length:Int)
  ·have cD:∀{e:Env},(e 5=.int .i64 (IntKind.i64.wrap ((k:Int)+1)))->(∀(h1:k<xs.length) (h2:k<ys.length),xs[k]=ys[k])->∃m0,m0<(xs.length)-k/\∃k:Nat,m0=(xs.length)-k/\k<=(xs.length)/\e 5=.int .i64 (k:Int)/\(∀j:Nat,j<k->∀(h1:j<xs.length) (h2:j<ys.length),xs[j]=ys[j]):=fun x1 x2=>⟨_,by omega,k+1,rfl,by omega,(by rw[x1,az (by omega)]),(all_succ nq x2)⟩
   have fm:k<xs.length:=by omega
   have Vn:k<ys.length:=by omega
   have eU:(xs.map fun x=>[AV.int .i64 x])[k]? =some [.int .i64 xs[k]]:=by simp[fm]
   have EK:(ys.map fun x=>[AV.int .i64 x])[k]? =some [.int .i64 ys[k]]:=by simp[Vn]
   by_cases heq:xs[k]=ys[k]
   ·have hq:=decide_eq_true heq
    (try((repeat(revert hN;revert N;apply Pn.out));refine wk (tw @a5 (tw @a0 (tw @a1 (tw @hk (tw @eU (tw @EK @hq)))))) ?_;(repeat(refine Pn.mk ?_;intro N hN))))
    exact cD (sd (tw @a5 (tw @a0 @a1))) (fun _ _=>heq)
   ·have hq:=decide_eq_false heq
    (try((repeat(revert hN;revert N;apply Pn.out));refine wk (tw @a5 (tw @a0 (tw @a1 (tw @hk (tw @eU (tw @EK @hq)))))) ?_;(repeat(refine Pn.mk ?_;intro N hN))))
    exact bp (b:=false) (.inl rfl) (sd @Nat.zero_add) (decide_eq_false fun h=>heq (List.getElem_of_eq h _)).symm
  ·(try((repeat(revert hN;revert N;apply Pn.out));refine wk (tw @a5 (tw @a0 (tw @a1 @hk))) ?_;(repeat(refine Pn.mk ?_;intro N hN))))
   exact bp (b:=true) (.inl rfl) (sd @Nat.zero_add) (decide_eq_true (JU hlen fun j hj h1 h2=>nq j (by omega) h1 h2)).symm
 ·have jP:decide ((xs.length:Int)=(ys.length:Int))=false:=decide_eq_false fun h=>hlen (by omega)
  (try((repeat(revert hN;revert N;apply Pn.out));refine wk @jP ?_;(repeat(refine Pn.mk ?_;intro N hN))))
  exact bp (b:=false) (.inl rfl) (sd @Nat.zero_add) (decide_eq_false fun h=>hlen (by subst h;rfl)).symm
theorem vR (l:List AV):l++[]=l:=List.append_nil l
def gV {α:Type} (e:α->List AV) (zc:List AV) (xs:List α) (k:Nat):List (List AV):=(xs.take k).map e++List.replicate (xs.length-k) zc
theorem oR {α:Type} (e:α->List AV) (zc:List AV) (xs:List α):List.replicate xs.length zc=gV e zc xs 0:=by simp[gV]
theorem qU {α:Type} (e:α->List AV) (zc:List AV) (xs:List α):gV e zc xs xs.length=xs.map e:=by simp[gV]
theorem qV {α:Type} (e:α->List AV) (zc:List AV) (xs:List α) {k:Nat} (hk:k<xs.length):(gV e zc xs k)[k]? =some zc:=by
 have h1:((xs.take k).map e).length=k:=by simp;omega
 rw[gV,List.getElem?_append_right (by omega),h1,Nat.sub_self,List.getElem?_replicate,if_pos (by omega)]
theorem qW {α:Type} (e:α->List AV) (zc:List AV) (xs:List α) {k:Nat} (hk:k<xs.length):(gV e zc xs k).set k (e xs[k])=gV e zc xs (k+1):=by
 have h1:((xs.take k).map e).length=k:=by simp;omega
 rw[gV,List.set_append_right _ _ (by omega),h1,Nat.sub_self,gV,List.take_succ_eq_append_getElem hk,List.map_append,List.append_assoc]
 congr 1
 obtain⟨m,hm⟩:∃m,xs.length-k=m+1:=⟨xs.length-k-1,by omega⟩
 rw[hm,show xs.length-(k+1)=m by omega,List.replicate_succ]
 rfl
theorem FK {α:Type} {en:α->List AV} {z fk gk:Nat} {zero:List K} (hc:nv P fk=some (uy fk gk z zero)) (Bp:zero.length=z) (hz:∀x,(en x).length=z) (ju:∀x,(en x).all AV.cell=true) (Ah:∀x g,de g 5 (en x)=some (en x)) (xs:List α) (hlen:xs.length<=1048576)
  (hg:∀x∈xs,k8 P gk [.agg (en x)] (.agg (en x))):k8 P fk [.sl (xs.map en)] (.sl (xs.map en)):=by
 refine k8.body hc rfl fun hl σ=>?_
 try simp only[q]
 clear hl
 have hm:(xs.length:Int)<=((16777216:Nat):Int):=by omega
 have h0:(0:Int)<=(xs.length:Int):=by omega
 (try((repeat(revert hN;revert N;apply Pn.out));refine wk (tw @hm (tw @h0 (tw @Int.le_refl (tw (oR en (zero.map K.av) xs) @Bp)))) ?_;(repeat(refine Pn.mk ?_;intro N hN))))
 refine aX (fun n env st=>∃k:Nat,n=(xs.length)-k/\k<=(xs.length)/\env 4=.int .i64 (k:Int)/\st.get ⟨fk*1000000+1002,σ.next+1⟩=some ⟨true,z,gV en (zero.map K.av) xs k⟩) (xs.length) ⟨0,by omega,by omega,sl @Nat.zero_add,sl @Nat.zero_add⟩ ?_
 rintro n_a env_a st_a ⟨k,rfl,ale,a4,ag0⟩ dC
 have a0:=dC 0 (by kernel_rfl);have a3:=dC 3 (by kernel_rfl)
 simp only[go_sem, ↓reduceIte,Nat.reduceEqDiff,Nat.reduceAdd,Nat.reduceSub,Nat.reduceLeDiff,reduceCtorEq]at a0 a3
 clear dC
 by_cases hk:(k:Int)<(xs.length:Int)
 ·have cD:∀{e:Env} {gg:Rows},(e 4=.int .i64 (IntKind.i64.wrap ((k:Int)+1)))->(gg ⟨fk*1000000+1002,σ.next+1⟩=some ⟨true,z,gV en (zero.map K.av) xs (k+1)⟩)->∃m0,m0<(xs.length)-k/\∃k:Nat,m0=(xs.length)-k/\k<=(xs.length)/\e 4=.int .i64 (k:Int)/\gg ⟨fk*1000000+1002,σ.next+1⟩=some ⟨true,z,gV en (zero.map K.av) xs k⟩:=fun x1 x2=>⟨_,by omega,k+1,rfl,by omega,(by rw[x1,az (by omega)]),x2⟩
  have fm:k<xs.length:=by omega
  have eU:(xs.map en)[k]? =some (en xs[k]):=by simp[fm]
  have uh:=hz xs[k]
  have L5:=ju xs[k]
  have ht:(en xs[k]).take z=en xs[k]:=by rw[<-uh,List.take_length]
  have iy:=hg _ (List.getElem_mem fm)
  have fy:=qV en (zero.map K.av) xs fm
  have eC:=qW en (zero.map K.av) xs fm
  have Kb:(zero.map K.av).drop z=[]:=List.drop_of_length_le (by simp[Bp])
  generalize hex:en xs[k]=c at iy eU uh ht L5 eC
  (repeat(first|((repeat(revert hN;revert N;apply Pn.out));refine wk (tw @a4 (tw @ag0 (tw @a0 (tw @a3 (tw @hk (tw @eU (tw @uh (tw @ht (tw @Nat.le_refl (tw @fy (tw @eC (tw @Kb (tw @vR (tw @L5 @Bp)))))))))))))) ?_;(repeat(refine Pn.mk ?_;intro N hN)))|((try apply Or.inl);refine⟨_,k8.x (iy) _,?_⟩;refine hN _ _ ?_;clear hN N)))
  refine cD ?_ ?_
  all_goals simp only[go_sem, ↓reduceIte,Nat.reduceEqDiff,Nat.reduceAdd,Nat.reduceSub,Nat.reduceLeDiff,reduceCtorEq,a4,ag0,a0,a3]
 ·(try((repeat(revert hN;revert N;apply Pn.out));refine wk (tw @a4 (tw @ag0 (tw @a0 (tw @a3 @hk)))) ?_;(repeat(refine Pn.mk ?_;intro N hN))))
  have fm:k=xs.length:=by omega
  subst fm
  refine Ux (.inl rfl) (r0:=.own ⟨fk*1000000+1002,σ.next+1⟩ 0 xs.length) (sd (tw @a4 (tw @ag0 (tw @a0 @a3)))) ?_
  rw[qU]at ag0
  exact gI ag0 (by simp) fun x=>Ah x _
theorem UB {fk:Nat} (hc:nv P fk=some (LK fk (.int .i64 0))) (xs:List Int) (hlen:xs.length<=1048576):k8 P fk [.sl (xs.map fun x=>[AV.int .i64 x])] (.sl (xs.map fun x=>[AV.int .i64 x])):=by
 refine k8.body hc rfl fun hl σ=>?_
 try simp only[q]
 clear hl
 obtain⟨en,EG⟩:∃en:Int->List AV,en=fun x=>[AV.int .i64 x]:=⟨_,rfl⟩
 rw[<-EG]
 have hm:(xs.length:Int)<=((16777216:Nat):Int):=by omega
 have h0:(0:Int)<=(xs.length:Int):=by omega
 (try((repeat(revert hN;revert N;apply Pn.out));refine wk (tw @hm (tw @h0 (tw @Int.le_refl (oR en [AV.int .i64 0] xs)))) ?_;(repeat(refine Pn.mk ?_;intro N hN))))
 refine aX (fun n env st=>∃k:Nat,n=(xs.length)-k/\k<=(xs.length)/\env 4=.int .i64 (k:Int)/\st.get ⟨fk*1000000+1002,σ.next+1⟩=some ⟨true,1,gV en [AV.int .i64 0] xs k⟩) (xs.length) ⟨0,by omega,by omega,sl @Nat.zero_add,sl @Nat.zero_add⟩ ?_
 rintro n_a env_a st_a ⟨k,rfl,ale,a4,ag0⟩ dC
 have a0:=dC 0 (by kernel_rfl);have a3:=dC 3 (by kernel_rfl)
 simp only[go_sem, ↓reduceIte,Nat.reduceEqDiff,Nat.reduceAdd,Nat.reduceSub,Nat.reduceLeDiff,reduceCtorEq]at a0 a3
 clear dC
 by_cases hk:(k:Int)<(xs.length:Int)
 ·have cD:∀{e:Env} {gg:Rows},(e 4=.int .i64 (IntKind.i64.wrap ((k:Int)+1)))->(gg ⟨fk*1000000+1002,σ.next+1⟩=some ⟨true,1,gV en [AV.int .i64 0] xs (k+1)⟩)->∃m0,m0<(xs.length)-k/\∃k:Nat,m0=(xs.length)-k/\k<=(xs.length)/\e 4=.int .i64 (k:Int)/\gg ⟨fk*1000000+1002,σ.next+1⟩=some ⟨true,1,gV en [AV.int .i64 0] xs k⟩:=fun x1 x2=>⟨_,by omega,k+1,rfl,by omega,(by rw[x1,az (by omega)]),x2⟩
  have fm:k<xs.length:=by omega
  have eU:(xs.map en)[k]? =some [AV.int .i64 xs[k]]:=by simp[fm,EG]
  have fy:=qV en [AV.int .i64 0] xs fm
  have eC:=qW en [AV.int .i64 0] xs fm
  rw[show en xs[k]=[AV.int .i64 xs[k]] by rw[EG]]at eC
  (try((repeat(revert hN;revert N;apply Pn.out));refine wk (tw @a4 (tw @ag0 (tw @a0 (tw @a3 (tw @hk (tw @eU (tw @fy @eC))))))) ?_;(repeat(refine Pn.mk ?_;intro N hN))))
  refine cD ?_ ?_
  all_goals simp only[go_sem, ↓reduceIte,Nat.reduceEqDiff,Nat.reduceAdd,Nat.reduceSub,Nat.reduceLeDiff,reduceCtorEq,a4,ag0,a0,a3]
 ·(try((repeat(revert hN;revert N;apply Pn.out));refine wk (tw @a4 (tw @ag0 (tw @a0 (tw @a3 @hk)))) ?_;(repeat(refine Pn.mk ?_;intro N hN))))
  have fm:k=xs.length:=by omega
  subst fm
  refine Ux (.inl rfl) (r0:=.own ⟨fk*1000000+1002,σ.next+1⟩ 0 xs.length) (sd (tw @a4 (tw @ag0 (tw @a0 @a3)))) ?_
  rw[qU]at ag0
  exact gI ag0 (by simp) fun x=>by simp[EG,aq,au,aH]
end Go.Proofs.YtgoljkjaameagaaGreat.V

namespace Go.Proofs.YtgoljkjaameagaaGreat
open Go.RowKit
def Sl (w:World) (fp:List Nat) (v:Value) (n:Nat) (xs:List Value):Prop:=
 ∃A c,v=.slice A n c/\n<=c/\c<=maxLen/\
  ((fp=[]/\n=0)∨∃b o,fp=[b]/\A=some ⟨b,o,none⟩/\∀j u,xs[j]? =some u->w.cell? ⟨b,o+j,none⟩=some u)
def gi (fp:List Nat) (lo hi:Nat):Prop:=∀b∈fp,lo<=b/\b<hi
theorem gi.nil (lo hi:Nat):gi [] lo hi:=fun _ h=>by cases h
theorem Sl.nil (w:World):Sl w [] (.slice none 0 0) 0 []:=⟨none,0,rfl,Nat.le_refl _,by simp[maxLen],.inl ⟨rfl,rfl⟩⟩
def Px {α:Type} (rep:World->List Nat->List Value->α->Prop) (sz:Nat) (w:World) (oU:List (List Value)) (Ge:List (List Nat)) (ds:List α):Prop:=
 oU.length=ds.length/\Ge.length=ds.length/\∀(i:Nat) (cs:List Value) (f:List Nat) (d:α),oU[i]? =some cs->Ge[i]? =some f->ds[i]? =some d->rep w f cs d/\cs.length=sz
def np {α:Type} (rep:World->List Nat->List Value->α->Prop) (sz:Nat) (w:World) (fp:List Nat) (v:Value) (ds:List α):Prop:=
 ∃oU Ge Wg,fp=Wg++Ge.flatten/\Sl w Wg v ds.length oU.flatten/\Px rep sz w oU Ge ds
theorem rE {α:Type} {Ge:List (List α)} {i:Nat} {f:List α} (h:Ge[i]? =some f):∀b∈f,b∈Ge.flatten:=fun b hb=>
 List.mem_flatten.2 ⟨f,List.mem_of_getElem? h,hb⟩
theorem tY {α:Type} {oU:List (List α)} {sz:Nat} (h:∀cs∈oU,cs.length=sz) {i j:Nat} {cs:List α} (hi:oU[i]? =some cs) (hj:j<sz):oU.flatten[i*sz+j]? =cs[j]? :=by
 induction oU generalizing i with
 |nil=>simp at hi
 |cons c r ih=>
  have hc:c.length=sz:=h c (by simp)
  cases i with
  |zero=>
   simp at hi;subst hi
   rw[List.flatten_cons,List.getElem?_append_left (by omega)];simp
  |succ i=>
   rw[List.flatten_cons,List.getElem?_append_right (by rw[hc,Nat.succ_mul];omega)]
   have:(i+1)*sz+j-c.length=i*sz+j:=by rw[hc,Nat.succ_mul];omega
   rw[this]
   exact ih (fun cs dz=>h cs (List.mem_cons_of_mem _ dz)) (by simpa using hi)
theorem Px.lens {α:Type} {rep:World->List Nat->List Value->α->Prop} {sz:Nat} {w:World} {oU:List (List Value)} {Ge:List (List Nat)} {ds:List α}
  (h:Px rep sz w oU Ge ds):∀cs∈oU,cs.length=sz:=fun cs dz=>by
 obtain⟨i,hi,rfl⟩:=List.getElem_of_mem dz
 have h1:i<Ge.length:=by rw[h.2.1,<-h.1];exact hi
 have h2:i<ds.length:=by rw[<-h.1];exact hi
 exact(h.2.2 i _ _ _ (List.getElem?_eq_getElem hi) (List.getElem?_eq_getElem h1) (List.getElem?_eq_getElem h2)).2
theorem np.at_ {α:Type} {rep:World->List Nat->List Value->α->Prop} {sz:Nat} {w:World} {fp:List Nat} {A:Option Addr} {n c:Nat} {ds:List α}
  (h:np rep sz w fp (.slice A n c) ds) (k:Nat) (hk:k<ds.length):
  ∃b o cs f,A=some ⟨b,o,none⟩/\b∈fp/\(∀x∈f,x∈fp)/\rep w f cs ds[k]/\cs.length=sz/\∀j u,cs[j]? =some u->w.cell? ⟨b,o+(k*sz+j),none⟩=some u:=by
 obtain⟨oU,Ge,Wg,rfl,⟨A',c',hv,_,_,hc⟩,hr⟩:=h
 simp only[Value.slice.injEq]at hv
 obtain⟨rfl,hn,rfl⟩:=hv
 rcases hc with⟨_,h0⟩|⟨b,o,rfl,rfl,hc⟩
 ·omega
 have h1:k<oU.length:=by rw[hr.1];exact hk
 have h2:k<Ge.length:=by rw[hr.2.1];exact hk
 obtain⟨gS,hl⟩:=hr.2.2 k _ _ _ (List.getElem?_eq_getElem h1) (List.getElem?_eq_getElem h2) (List.getElem?_eq_getElem hk)
 refine⟨b,o,oU[k],Ge[k],rfl,by simp,fun x hx=>List.mem_append_right _ (rE (List.getElem?_eq_getElem h2) x hx),gS,hl,fun j u hj=>?_⟩
 have gT:j<sz:=by rw[<-hl];exact(List.getElem?_eq_some_iff.1 hj).1
 exact hc _ u (by rw[tY hr.lens (List.getElem?_eq_getElem h1) gT];exact hj)
theorem np.len {α:Type} {rep:World->List Nat->List Value->α->Prop} {sz:Nat} {w:World} {fp:List Nat} {v:Value} {ds:List α}
  (h:np rep sz w fp v ds):∃A c,v=.slice A ds.length c/\ds.length<=c/\c<=maxLen:=by
 obtain⟨_,_,_,_,⟨A,c,hv,h1,h2,_⟩,_⟩:=h
 exact⟨A,c,hv,h1,h2⟩
theorem np.nil {α:Type} (rep:World->List Nat->List Value->α->Prop) (sz:Nat) (w:World):np rep sz w [] (.slice none 0 0) ([]:List α):=
 ⟨[],[],[],rfl,Sl.nil w,rfl,rfl,fun i cs f d hc=>by simp at hc⟩
def Flat {α:Type} (enc:α->List Value):World->List Nat->List Value->α->Prop:=fun _ f cs d=>f=[]/\cs=enc d
def Q (w w':World):Prop:=∃q,w'=w.drewN q
theorem SJ {B:Nat} {a w:World} (h:Below B a w) (n:Nat):Below B a (w.drewN n):=⟨h.os,h.tape,h.output,h.size,h.block⟩
theorem iJ {a b:Bool} (h:a=b):Ending.returned (.bool a)=.returned (.bool b):=by rw[h]
theorem GM {k:IntKind} {a b:Int} (h:a=b):Ending.returned (.int k a)=.returned (.int k b):=by rw[h]
def Unf (w:World) (b:Nat):Prop:=∃cs e,w.heap[b]? =some (.cells cs e (0,0))
def putCells (w:World) (g:Nat):Nat->List Value->World
 |_,[]=>w
 |i,v::r=>putCells (w.setCell ⟨g,i,none⟩ v) g (i+1) r
theorem size_set (w:World) (p:Addr) (v:Value):(w.setCell p v).heap.size=w.heap.size:=by simp[World.setCell]
structure Only (fp:List Nat) (w w':World):Prop where
 os:w'.os=w.os
 tape:w'.tape=w.tape
 output:w'.output=w.output
 size:w.heap.size<=w'.heap.size
 block:∀x,x<w.heap.size->x∉fp->w'.heap[x]? =w.heap[x]?
 unf:∀x,Unf w x->Unf w' x
structure ar where
 eM:Int
 eG:Int
deriving DecidableEq
structure ae where
 bj:ar
 bQ:Int
deriving DecidableEq
structure eB where
 aj:List ae
deriving DecidableEq
structure fS where
 aO:ByteArray
 eI:Int
deriving DecidableEq
structure fc where
 aO:ByteArray
 bU:List Int
deriving DecidableEq
structure ax where
 aB:List fS
 aj:List fc
deriving DecidableEq
structure aM where
 aC:ax
 cC:eB
 aA:Int
deriving DecidableEq
def Hu (d:Int):List Value:=[.int .i64 d]
def FX:=Flat Hu
def fZ (d:ar):List Value:=[.int .i64 d.eM,.int .i64 d.eG]
def Ed (d:ae):List Value:=[.int .i64 d.bj.eM,.int .i64 d.bj.eG,.int .i64 d.bQ]
def Bw:=Flat Ed
def jd:=np Bw 3
def JN (d:fS):List Value:=[.string d.aO,.int .i64 d.eI]
def Jl:=Flat JN
def rT:=np Jl 2
def vO:=np FX 1
def Jm (w:World) (f:List Nat) (cs:List Value) (d:fc):Prop:=
 ∃v1 f1,f=f1/\cs=[.string d.aO,v1]/\vO w f1 v1 d.bU
def rU:=np Jm 2
end Go.Proofs.YtgoljkjaameagaaGreat

namespace Go.Proofs.YtgoljkjaameagaaGreat.V
open Go.RowKit
variable {P:Program} {w:World} {D:Nat->Prop}
def Je (P:Program) (w:World) (D:Nat->Prop) (al:List AV) (cs:List Value):Prop:=∀(j:Nat) (a:AV),al[j]? =some a->∃u:Value,cs[j]? =some u/\ke P w D a u
theorem sO {α:Type} {rep:World->List Nat->List Value->α->Prop} {e:α->List AV} {sz:Nat} {f:List Nat} {v:Value} {xs:List α} (h:np rep sz w f v xs) (hD:∀b∈f,D b)
  (hl:∀x∈xs,(e x).length=sz) (hc:∀x∈xs,∀a∈e x,a.cell=true) (hr:∀x∈xs,∀f' cs,rep w f' cs x->(∀b∈f',D b)->Je P w D (e x) cs):ke P w D (.sl (xs.map e)) v:=by
 obtain⟨A,c,rfl,h1,h2⟩:=np.len h
 by_cases h0:xs=[]
 ·subst h0;exact .DI _ _ h2
 have jx:0<xs.length:=List.length_pos_iff.2 h0
 obtain⟨b,o,R5,f0,rfl,hb,Vj,XA,M1,jO⟩:=np.at_ h 0 jx
 have key:∀(i:Nat) (hi:i<xs.length),∃cs f',(∀x∈f',x∈f)/\rep w f' cs xs[i]/\cs.length=sz/\∀j u,cs[j]? =some u->w.cell? ⟨b,o+(i*sz+j),none⟩=some u:=by
  intro i hi
  obtain⟨b',o',cs,f',Ve,_,mC,oE,dz,kG⟩:=np.at_ h i hi
  simp only[Option.some.injEq,Addr.mk.injEq,and_true]at Ve
  obtain⟨rfl,rfl⟩:=Ve
  exact⟨cs,f',mC,oE,dz,kG⟩
 refine .sl _ b o _ c sz (fun i j=>(w.cell? ⟨b,o+(i*sz+j),none⟩).getD Go.undef) (by simp) h1 h2 (hD b hb) ?_ ?_ ?_ ?_
 ·intro cs dz
  obtain⟨x,hx,rfl⟩:=List.mem_map.1 dz
  exact hl x hx
 ·intro cs dz
  obtain⟨x,hx,rfl⟩:=List.mem_map.1 dz
  exact hc x hx
 ·intro i j hi hj
  obtain⟨cs,f',_,_,dz,kG⟩:=key i hi
  rw[kG j cs[j] (List.getElem?_eq_getElem (by omega))]
  rfl
 ·intro i j cs a dz ha
  have hi:i<xs.length:=by
   have:=(List.getElem?_eq_some_iff.1 dz).1
   simpa using this
  obtain⟨qw,f',mC,oE,hcs',kG⟩:=key i hi
  simp[hi]at dz
  subst dz
  obtain⟨u,hu,him⟩:=hr _ (List.getElem_mem hi) f' qw oE (fun b hb=>hD b (mC b hb)) j a ha
  rw[kG j u hu]
  exact him
end Go.Proofs.YtgoljkjaameagaaGreat.V

namespace Go.Proofs.YtgoljkjaameagaaGreat.V
open Go.RowKit
variable {P:Program} {w:World} {D:Nat->Prop}
def aQ (d:Int):List AV:=[.int .i64 d]
def ai (d:ar):List AV:=[.int .i64 d.eM,.int .i64 d.eG]
def ah (d:ae):List AV:=[.int .i64 d.bj.eM,.int .i64 d.bj.eG,.int .i64 d.bQ]
def bd (d:eB):List AV:=[.sl (d.aj.map ah)]
def ck (d:fS):List AV:=[.str d.aO,.int .i64 d.eI]
def bP (d:fc):List AV:=[.str d.aO,.sl (d.bU.map aQ)]
def aa (d:ax):List AV:=[.sl (d.aB.map ck),.sl (d.aj.map bP)]
def aE (d:aM):List AV:=[.sl (d.aC.aB.map ck),.sl (d.aC.aj.map bP),.sl (d.cC.aj.map ah),.int .i64 d.aA]
theorem tT {f:List Nat} {v:Value} {xs:List ae} (h:jd w f v xs) (hD:∀b∈f,D b):ke P w D (.sl (xs.map ah)) v:=
 sO h hD (fun _ _=>rfl) (fun x _ a ha=>by simp[ah]at ha;rcases ha with rfl|rfl|rfl<;>rfl) fun x _ f' cs hr hf=>by
  obtain⟨_,rfl⟩:=hr
  intro j a ha
  match j,ha with
  |0,ha=>simp[ah]at ha;subst ha;exact⟨_,rfl,.int _ _⟩
  |1,ha=>simp[ah]at ha;subst ha;exact⟨_,rfl,.int _ _⟩
  |2,ha=>simp[ah]at ha;subst ha;exact⟨_,rfl,.int _ _⟩
  |j+3,ha=>simp[ah]at ha
theorem zE {d:eB} {f0:List Nat} {v0:Value} (h0:jd w f0 v0 d.aj) (d0:∀b∈f0,D b):ke P w D (.agg (bd d)) (.agg #[v0]):=by
 refine .agg _ _ (fun j=>(#[v0]:Array Value).getD j Go.undef) rfl (fun a ha=>by simp[bd]at ha;rcases ha with rfl<;>rfl) (fun j hj=>?_) (fun j a ha=>?_)
 ·match j,hj with
  |0,_=>rfl
  |j+1,hj=>simp[bd]at hj<;>omega
 ·match j,ha with
  |0,ha=>simp[bd]at ha;subst ha;exact tT h0 d0
  |j+1,ha=>simp[bd]at ha
theorem G2 {f:List Nat} {v:Value} {xs:List fS} (h:rT w f v xs) (hD:∀b∈f,D b):ke P w D (.sl (xs.map ck)) v:=
 sO h hD (fun _ _=>rfl) (fun x _ a ha=>by simp[ck]at ha;rcases ha with rfl|rfl<;>rfl) fun x _ f' cs hr hf=>by
  obtain⟨_,rfl⟩:=hr
  intro j a ha
  match j,ha with
  |0,ha=>simp[ck]at ha;subst ha;exact⟨_,rfl,.str _⟩
  |1,ha=>simp[ck]at ha;subst ha;exact⟨_,rfl,.int _ _⟩
  |j+2,ha=>simp[ck]at ha
theorem DO {f:List Nat} {v:Value} {xs:List Int} (h:vO w f v xs) (hD:∀b∈f,D b):ke P w D (.sl (xs.map aQ)) v:=
 sO h hD (fun _ _=>rfl) (fun x _ a ha=>by simp[aQ]at ha;rcases ha with rfl<;>rfl) fun x _ f' cs hr hf=>by
  obtain⟨_,rfl⟩:=hr
  intro j a ha
  match j,ha with
  |0,ha=>simp[aQ]at ha;subst ha;exact⟨_,rfl,.int _ _⟩
  |j+1,ha=>simp[aQ]at ha
theorem G7 {f:List Nat} {v:Value} {xs:List fc} (h:rU w f v xs) (hD:∀b∈f,D b):ke P w D (.sl (xs.map bP)) v:=
 sO h hD (fun _ _=>rfl) (fun x _ a ha=>by simp[bP]at ha;rcases ha with rfl|rfl<;>rfl) fun x _ f' cs hr hf=>by
  obtain⟨v1,f1,rfl,rfl,h1⟩:=hr
  intro j a ha
  match j,ha with
  |0,ha=>simp[bP]at ha;subst ha;exact⟨_,rfl,.str _⟩
  |1,ha=>simp[bP]at ha;subst ha;exact⟨_,rfl,DO h1 hf⟩
  |j+2,ha=>simp[bP]at ha
theorem DR {d:aM} {f0:List Nat} {v0:Value} (h0:rT w f0 v0 d.aC.aB) (d0:∀b∈f0,D b) {f1:List Nat} {v1:Value} (h1:rU w f1 v1 d.aC.aj) (d1:∀b∈f1,D b) {f2:List Nat} {v2:Value} (h2:jd w f2 v2 d.cC.aj) (d2:∀b∈f2,D b):ke P w D (.agg (aE d)) (.agg #[v0,v1,v2,.int .i64 d.aA]):=by
 refine .agg _ _ (fun j=>(#[v0,v1,v2,.int .i64 d.aA]:Array Value).getD j Go.undef) rfl (fun a ha=>by simp[aE]at ha;rcases ha with rfl|rfl|rfl|rfl<;>rfl) (fun j hj=>?_) (fun j a ha=>?_)
 ·match j,hj with
  |0,_=>rfl
  |1,_=>rfl
  |2,_=>rfl
  |3,_=>rfl
  |j+4,hj=>simp[aE]at hj<;>omega
 ·match j,ha with
  |0,ha=>simp[aE]at ha;subst ha;exact G2 h0 d0
  |1,ha=>simp[aE]at ha;subst ha;exact G7 h1 d1
  |2,ha=>simp[aE]at ha;subst ha;exact tT h2 d2
  |3,ha=>simp[aE]at ha;subst ha;exact .int _ _
  |j+4,ha=>simp[aE]at ha
end Go.Proofs.YtgoljkjaameagaaGreat.V

namespace Go.Proofs.YtgoljkjaameagaaGreat.V
open Go.RowKit
attribute [local irreducible] ek wpOps fK Call
attribute [local go_sem] aI fw eH fE fD dd upd cm K.av cG AV.cells AV.cell rowOf rowsOf part ld rowAt bL bY dx dO gz bE cW dY fC eY dj dS cU cR dG dH bH aZ cJ bG cL cK dQ dU dR cI bJ cV dP bF aL cP cz gy bq cF bI aW dq bm dy AV.undef bw bz dJ dM dD dI cE dX ea cq dW dV cN cQ List.getD_cons_zero List.getD_cons_succ List.getD_nil List.all_cons List.all_nil Bool.and_true Bool.true_and Bool.and_self Bool.not_true Bool.not_false Option.map_some Option.map_none Option.bind_some Option.bind_none List.length_cons List.length_nil List.take_succ_cons List.take_zero List.take_nil List.drop_succ_cons List.drop_zero List.drop_nil List.head?_cons List.map_cons List.map_nil List.getElem?_cons_zero List.getElem?_cons_succ List.cons_append List.nil_append List.append_nil List.length_map List.set_cons_zero List.set_cons_succ Nat.reduceMul eq_self Int.toNat_natCast Int.natCast_nonneg and_self true_and and_true decide_true decide_false Bool.false_eq_true Nat.zero_add Nat.add_zero List.contains_cons List.contains_nil Bool.or_false Bool.false_or beq_self_eq_true Nat.reduceBEq ne_eq not_true_eq_false not_false_eq_true Id.mk.injEq false_and and_false Nat.reduceLT Int.reduceLE Int.reduceLT Int.reduceToNat Int.reduceNeg Int.reduceAdd Nat.le_refl List.length_append beq_true beq_false Bool.not_eq_eq_eq_not or_false false_or dK aq au aH bf bt bZ aU bh aT bc cH bx
variable {P:Program}
theorem FR {X:fX} {Q:Ex->Env->ay->Prop} {N:Env->ay->Prop} {c:VC} {env:Env} {σ:ay} (I:Env->ay->Prop) (h2:∀e s,I e s->N e s) (h1:∀N':Env->ay->Prop,(∀e s,I e s->N' e s)->ek X c (dq N' Q) env σ):ek X c (dq N Q) env σ:=h1 N h2
def wM (f z:Nat) (a:Bool):yE:=let s:=f*1000000
 ⟨19,2,(.seq (.eS false [q 4 (.dv (.k (.int .i64 0))) s]) (.seq (.seq (.eS false [q 6 (.dv (.t 0)) (s+1000),q 7 (.len (.t 6)) (s+1001),q 8 (.dv (.k (.int .i64 0))) (s+1002)]) (.block 0 (.loop (.seq (.eS false [q 9 (.bin .lss .i64 (.t 8) (.t 7)) (s+2000)]) (.seq (.cond (.t 9) .skip (.exit 0)) (.seq (.block 1 (.seq (.eS false [q 10 (.dv (.t 8)) (s+3000),q 5 (.dv (.t 10)) (s+3001)]) (.seq (.eS false [q 11 (.dv (.t 1)) (s+4000),q 12 (.dv (.t 0)) (s+4001),q 13 (.dv (.t 5)) (s+4002),q 14 (.ej z (.t 12) (.t 13)) (s+4003),q 15 (.load a z (.t 14)) (s+4004),q 16 (.tW (.t 11) [(.t 15)]) (s+4005)]) (.cond (.t 16) (.seq (.eS false [q 17 (.dv (.t 5)) (s+5000),q 4 (.dv (.t 17)) (s+5001)]) .ret) .skip)))) (.eS false [q 18 (.bin .add .i64 (.t 8) (.k (.int .i64 1))) (s+6000),q 8 (.dv (.t 18)) (s+6001)]))))))) (.seq (.eS false [q 4 (.dv (.k (.int .i64 (-1)))) (s+7000)]) .ret))),[(.tmp 4)]⟩
def EB (f g:Nat):yE:=let s:=f*1000000
 ⟨9,2,(.seq (.eS false [q 4 (.dv (.k (.bool false))) s]) (.seq (.eS false [q 5 (.dv (.t 0)) (s+1000),q 6 (.dv (.t 1)) (s+1001),q 7 (.call g [(.t 5),(.t 6)]) (s+1002),q 8 (.bin .geq .i64 (.t 7) (.k (.int .i64 0))) (s+1003),q 4 (.dv (.t 8)) (s+1004)]) .ret)),[(.tmp 4)]⟩
def kF {α:Type} (p:α->Bool) (xs:List α):Int:=if xs.findIdx p<xs.length then(xs.findIdx p:Int)else -1
theorem JV {α:Type} (p:α->Bool) (xs:List α):decide (0<=kF p xs)=xs.any p:=by
 unfold kF
 by_cases h:xs.findIdx p<xs.length
 ·rw[if_pos h]
  have:xs.any p=true:=List.any_eq_true.2 (List.findIdx_lt_length.1 h)
  rw[this];simp
 ·rw[if_neg h]
  have:xs.any p=false:=by
   rw[Bool.eq_false_iff]
   intro hc
   exact h (List.findIdx_lt_length.2 (List.any_eq_true.1 hc))
  rw[this];rfl
theorem uQ (a:AV) (l m:List AV):a::l++m=a::(l++m):=rfl
theorem zJ (l:List AV):[]++l=l:=rfl
structure SB {α:Type} (e:α->List AV) (v:α->AV) (z:Nat) (a:Bool):Prop where
 len:∀x,(e x).length=z
 val:∀x,if a=true then v x=.agg (e x)else e x=[v x]
 fz:∀x g,de g 6 [v x]=some [v x]
theorem ui {α:Type} {e:α->List AV} {v:α->AV} {z fk:Nat} {a:Bool} (hE:SB e v z a) (hc:nv P fk=some (wM fk z a)) (xs:List α) (hlen:xs.length<=1048576) (f:Nat) (dn:List AV) (p:α->Bool)
  (hf:∀x∈xs,aw P f (v x::dn) (.bool (p x))) (HJ:∀g,de g 6 dn=some dn):
  aw P fk [.sl (xs.map e),.fn f dn] (.int .i64 (kF p xs)):=by
 refine aw.body hc rfl fun hl n0=>?_
 try simp only[q]
 clear hl
 (try((repeat(revert hN;revert N;apply Pn.out));refine wk @Nat.zero_add ?_;(repeat(refine Pn.mk ?_;intro N hN))))
 refine aX (fun n env st=>∃k:Nat,n=(xs.length)-k/\k<=(xs.length)/\env 8=.int .i64 (k:Int)/\(∀j:Nat,j<k->∀h:j<xs.length,p xs[j]=false)) (xs.length) ⟨0,by omega,by omega,sl @Nat.zero_add,fun _ h=>absurd h (Nat.not_lt_zero _)⟩ ?_
 rintro n_a env_a st_a ⟨k,rfl,ale,a8,nq⟩ dC
 have a0:=dC 0 (by kernel_rfl);have a1:=dC 1 (by kernel_rfl);have a7:=dC 7 (by kernel_rfl)
 simp only[go_sem, ↓reduceIte,Nat.reduceEqDiff,Nat.reduceAdd,Nat.reduceSub,Nat.reduceLeDiff,reduceCtorEq]at a0 a1 a7
 clear dC
 by_cases hk:(k:Int)<(xs.length:Int)
 ·have cD:∀{e:Env},(e 8=.int .i64 (IntKind.i64.wrap ((k:Int)+1)))->(∀h:k<xs.length,p xs[k]=false)->∃m0,m0<(xs.length)-k/\∃k:Nat,m0=(xs.length)-k/\k<=(xs.length)/\e 8=.int .i64 (k:Int)/\(∀j:Nat,j<k->∀h:j<xs.length,p xs[j]=false):=fun x1 x2=>⟨_,by omega,k+1,rfl,by omega,(by rw[x1,az (by omega)]),(all_succ nq x2)⟩
  have fm:k<xs.length:=by omega
  have hg:(xs.map e)[k]? =some (e xs[k]):=by simp[fm]
  have Cn:=hf _ (List.getElem_mem fm)
  have hz:=hE.len xs[k]
  have hv:=hE.val xs[k]
  have kR:de (dK st_a.get) 6 (v xs[k]::dn)=some (v xs[k]::dn):=by
   have h1:=hE.fz xs[k] (dK st_a.get)
   rw[aq,au]at h1
   rw[aq,HJ]
   revert h1
   cases V.fz (dK st_a.get) 6 (v xs[k])<;>simp
  have fin:∀hN:True,(p xs[k]=true->xs.findIdx p=k):=fun _ hp=>by
   rw[List.findIdx_eq fm];exact⟨hp,fun j hj=>nq j hj (by omega)⟩
  cases hp:p xs[k]
  ·have Vv:=hp
   cases a
   ·rw[if_neg (by simp)]at hv
    have y5:z=1:=by rw[<-hz,hv];rfl
    subst y5
    rw[hv]at hg hz
    rw[hp]at Cn
    generalize v xs[k]=c at Cn kR hg hz
    (try((repeat(revert hN;revert N;apply Pn.out));refine wk (tw @a8 (tw @a0 (tw @a1 (tw @a7 (tw @hk (tw @hg (tw @hz (tw @uQ @zJ)))))))) ?_;(repeat(refine Pn.mk ?_;intro N hN))))
    refine .inl ⟨_,aw.x Cn kR,?_⟩
    refine hN _ _ ?_
    clear hN N
    (try((repeat(revert hN;revert N;apply Pn.out));refine wk (tw @a8 (tw @a0 (tw @a1 @a7))) ?_;(repeat(refine Pn.mk ?_;intro N hN))))
    exact cD (sd (tw @a8 (tw @a0 (tw @a1 @a7)))) (fun _=>Vv)
   ·rw[if_pos rfl]at hv
    have ht:(e xs[k]).take z=e xs[k]:=by rw[<-hz,List.take_length]
    rw[hv]at Cn kR
    rw[hp]at Cn
    generalize e xs[k]=c at Cn kR hg hz ht
    (try((repeat(revert hN;revert N;apply Pn.out));refine wk (tw @a8 (tw @a0 (tw @a1 (tw @a7 (tw @hk (tw @hg (tw @hz (tw @ht (tw @uQ (tw @zJ @Nat.le_refl)))))))))) ?_;(repeat(refine Pn.mk ?_;intro N hN))))
    refine .inl ⟨_,aw.x Cn kR,?_⟩
    refine hN _ _ ?_
    clear hN N
    (try((repeat(revert hN;revert N;apply Pn.out));refine wk (tw @a8 (tw @a0 (tw @a1 @a7))) ?_;(repeat(refine Pn.mk ?_;intro N hN))))
    exact cD (sd (tw @a8 (tw @a0 (tw @a1 @a7)))) (fun _=>Vv)
  ·have hi:=fin trivial hp
   cases a
   ·rw[if_neg (by simp)]at hv
    have y5:z=1:=by rw[<-hz,hv];rfl
    subst y5
    rw[hv]at hg hz
    rw[hp]at Cn
    generalize v xs[k]=c at Cn kR hg hz
    (try((repeat(revert hN;revert N;apply Pn.out));refine wk (tw @a8 (tw @a0 (tw @a1 (tw @a7 (tw @hk (tw @hg (tw @hz (tw @uQ @zJ)))))))) ?_;(repeat(refine Pn.mk ?_;intro N hN))))
    refine .inl ⟨_,aw.x Cn kR,?_⟩
    refine hN _ _ ?_
    clear hN N
    (try((repeat(revert hN;revert N;apply Pn.out));refine wk (tw @a8 (tw @a0 (tw @a1 @a7))) ?_;(repeat(refine Pn.mk ?_;intro N hN))))
    exact db (b:=(k:Int)) (.inl rfl) (sd @Nat.zero_add) (by rw[kF,hi,if_pos fm])
   ·rw[if_pos rfl]at hv
    have ht:(e xs[k]).take z=e xs[k]:=by rw[<-hz,List.take_length]
    rw[hv]at Cn kR
    rw[hp]at Cn
    generalize e xs[k]=c at Cn kR hg hz ht
    (try((repeat(revert hN;revert N;apply Pn.out));refine wk (tw @a8 (tw @a0 (tw @a1 (tw @a7 (tw @hk (tw @hg (tw @hz (tw @ht (tw @uQ (tw @zJ @Nat.le_refl)))))))))) ?_;(repeat(refine Pn.mk ?_;intro N hN))))
    refine .inl ⟨_,aw.x Cn kR,?_⟩
    refine hN _ _ ?_
    clear hN N
    (try((repeat(revert hN;revert N;apply Pn.out));refine wk (tw @a8 (tw @a0 (tw @a1 @a7))) ?_;(repeat(refine Pn.mk ?_;intro N hN))))
    exact db (b:=(k:Int)) (.inl rfl) (sd @Nat.zero_add) (by rw[kF,hi,if_pos fm])
 ·(try((repeat(revert hN;revert N;apply Pn.out));refine wk (tw @a8 (tw @a0 (tw @a1 (tw @a7 @hk)))) ?_;(repeat(refine Pn.mk ?_;intro N hN))))
  have hi:¬xs.findIdx p<xs.length:=by
   rw[List.findIdx_lt_length]
   rintro⟨x,hx,Kq⟩
   obtain⟨j,hj,rfl⟩:=List.getElem_of_mem hx
   rw[nq j (by omega) hj]at Kq;cases Kq
  exact db (b:=-1) (.inl rfl) (sd @Nat.zero_add) (by rw[kF,if_neg hi])
theorem oQ {α:Type} {e:α->List AV} {v:α->AV} {z fk gk:Nat} {a:Bool} (hE:SB e v z a) (hc:nv P fk=some (EB fk gk)) (EC:nv P gk=some (wM gk z a)) (xs:List α) (hlen:xs.length<=1048576) (f:Nat) (dn:List AV) (p:α->Bool) (ED:dn.all AV.cell=true) (Ah:∀g,de g 5 dn=some dn)
  (hf:∀x∈xs,aw P f (v x::dn) (.bool (p x))) (HJ:∀g,de g 6 dn=some dn):
  aw P fk [.sl (xs.map e),.fn f dn] (.bool (xs.any p)):=by
 refine aw.body hc rfl fun hl n0=>?_
 try simp only[q]
 clear hl
 have hi:=ui hE EC xs hlen f dn p hf HJ
 (repeat(first|((repeat(revert hN;revert N;apply Pn.out));refine wk (tw @ED @Ah) ?_;(repeat(refine Pn.mk ?_;intro N hN)))|((try apply Or.inl);refine⟨_,aw.x (hi) (sd (tw @ED @Ah)),?_⟩;refine hN _ _ ?_;clear hN N)))
 exact bp (b:=decide (0<=kF p xs)) (.inl rfl) (sd @Nat.zero_add) (JV p xs)
end Go.Proofs.YtgoljkjaameagaaGreat.V

namespace Go.Proofs.YtgoljkjaameagaaGreat.V
open Go.RowKit
def sF (P:Program) (mk:Bool):List Oper->Nat->List Nat
 |[],_=>[]
 |o::r,i=>match rN P o.op with
  |some v=>if rD v||mk&&v.ml then i::sF P mk r (i+1)else sF P mk r (i+1)
  |none=>sF P mk r (i+1)
def zN (P:Program) (ops:Array Oper) (site0:Nat) (mk:Bool) (bs:Array Nat) (hidden:List Nat):List Oper->Nat->Option (List bR)
 |[],_=>some []
 |o::r,j=>do
  let v <-rN P o.op
  let g <-D7 ops o
  pure ({dst:=o.dst,op:=v,guard:=g,site:=site0+j,hid:=(hidden.filter fun i=> !(bs.getD j 0).testBit i&&(i !=j||mk&&v.ml)).map fun i=>site0+i}::(<-zN P ops site0 mk bs hidden r (j+1)))
def qP (P:Program) (md:List (Nat×Nat)) (ye:Nat):Code->Option VC
 | .skip=>some .skip
 | .region id ops draw=>if draw then(zN P ops ((ye*1000+id)*1000) (w5 md id==1) (jH ops) (sF P (w5 md id==1) ops.toList 0) ops.toList 0).map (VC.eS true)else(zN P ops ((ye*1000+id)*1000) false #[] [] ops.toList 0).map (if ops.toList.any fun o=>Pg o.op then VC.PV else VC.eS false)
 | .seq a b=>do pure (.seq (<-qP P md ye a) (<-qP P md ye b))
 | .cond c x y=>do pure (.cond (<-cO P c) (<-qP P md ye x) (<-qP P md ye y))
 | .block id c=>(qP P md ye c).map (VC.block id)
 | .loop c=>(qP P md ye c).map VC.loop
 | .exit id=>some (.exit id)
 | .ret=>some .ret
 |_=>none
def SK (P:Program) (md:List (Nat×Nat)) (f:Nat):Option yE:=
 match P.funcs[f]? with
 |some fn=>match fn.body with
  |some c=>do
   let b <-qP P md f c
   let r <-fn.results.toList.mapM (Hg P)
   pure {ntmps:=fn.ntmps,zj:=fn.params.size+fn.nfree,body:=b,res:=r}
  |none=>none
 |none=>none
theorem cfM {P:Program} (md:List (Nat×Nat)) {f:Nat} {v:yE} (_:SK P md f=some v:=by(conv=>lhs;cbv)<;>exact rfl) (h:uE P f md=some v:=by kernel_rfl):uE P f md=some v:=h
theorem eK {P:Program} {f:Nat} {v:yE} (_:SK P [] f=some v:=by(conv=>lhs;cbv)<;>exact rfl) (h:nv P f=some v:=by kernel_rfl):nv P f=some v:=h
def Rx:yE:=⟨77,2,(.seq (.eS false [q 4 (.dv (.k .il)) 251000000]) (.seq (.eS false [q 7 (.dv (.t 0)) 251001000,q 8 (.dv (.t 1)) 251001001,q 9 (.build [(.int .i64 0),.cj,.cj,.cj] [(0,(1,(.t 7))),(1,(1,(.t 8)))]) 251001002,q 10 (.box (.t 9)) 251001003,q 5 (.dv (.t 10)) 251001004]) (.seq (.eS false [q 11 (.dv (.t 5)) 251002000,q 12 (.dv (.t 0)) 251002001,q 13 (.j9 [.cj] (.t 12) (.t 12)) 251002002,q 14 (.zQ (.t 11)) 251002003,q 15 (.fN 2 (.t 14)) 251002004,⟨none,(.store 1 (.t 15) (.t 13)),none,251002005,[]⟩]) (.seq (.eS false [q 16 (.dv (.t 5)) 251003000,q 17 (.dv (.t 1)) 251003001,q 18 (.len (.t 17)) 251003002,q 19 (.j9 [(.int .i64 0)] (.t 18) (.t 18)) 251003003,q 20 (.zQ (.t 16)) 251003004,q 21 (.fN 3 (.t 20)) 251003005,⟨none,(.store 1 (.t 21) (.t 19)),none,251003006,[]⟩]) (.seq (.seq (.eS false [q 6 (.dv (.k (.int .i64 0))) 251004000]) (.block 0 (.loop (.seq (.seq (.eS false [q 22 (.dv (.t 6)) 251005000,q 23 (.dv (.t 1)) 251005001,q 24 (.len (.t 23)) 251005002,q 25 (.bin .lss .i64 (.t 22) (.t 24)) 251005003]) (.cond (.t 25) .skip (.exit 0))) (.seq (.block 1 (.seq (.one ⟨(some 28),(.dv (.t 5)),none,251007000,[251007021,251007022,251007024]⟩ (.one ⟨(some 29),(.zQ (.t 28)),none,251007001,[251007021,251007022,251007024]⟩ (.one ⟨(some 30),(.fN 2 (.t 29)),none,251007002,[251007021,251007022,251007024]⟩ (.one ⟨(some 32),(.dv (.t 1)),none,251007004,[251007021,251007022,251007024]⟩ (.one ⟨(some 33),(.dv (.t 6)),none,251007005,[251007021,251007022,251007024]⟩ (.one ⟨(some 37),(.dv (.t 5)),none,251007009,[251007021,251007022,251007024]⟩ (.one ⟨(some 38),(.zQ (.t 37)),none,251007010,[251007021,251007022,251007024]⟩ (.one ⟨(some 39),(.fN 2 (.t 38)),none,251007011,[251007021,251007022,251007024]⟩ (.one ⟨(some 40),(.load false 1 (.t 39)),none,251007012,[251007021,251007022,251007024]⟩ (.one ⟨(some 41),(.dv (.t 1)),none,251007013,[251007021,251007022,251007024]⟩ (.one ⟨(some 42),(.dv (.t 6)),none,251007014,[251007021,251007022,251007024]⟩ (.one ⟨(some 43),(.ej 3 (.t 41) (.t 42)),none,251007015,[251007021,251007022,251007024]⟩ (.one ⟨(some 44),(.fN 0 (.t 43)),none,251007016,[251007021,251007022,251007024]⟩ (.one ⟨(some 45),(.load false 1 (.t 44)),none,251007017,[251007021,251007022,251007024]⟩ (.one ⟨(some 46),(.ej 1 (.t 40) (.t 45)),none,251007018,[251007021,251007022,251007024]⟩ (.one ⟨(some 47),(.load false 1 (.t 46)),none,251007019,[251007021,251007022,251007024]⟩ (.one ⟨(some 48),(.dv (.t 6)),none,251007020,[251007021,251007022,251007024]⟩ (.one ⟨(some 49),(.jS 1 1 [(.t 48)]),none,251007021,[251007022,251007024]⟩ (.both (.one ⟨(some 31),(.load false 1 (.t 30)),none,251007003,[251007021,251007022,251007024]⟩ (.both (.one ⟨(some 34),(.ej 3 (.t 32) (.t 33)),none,251007006,[251007021,251007022,251007024]⟩ (.one ⟨(some 35),(.fN 0 (.t 34)),none,251007007,[251007021,251007022,251007024]⟩ (.both (.one ⟨(some 36),(.load false 1 (.t 35)),none,251007008,[251007021,251007022,251007024]⟩ (.one ⟨(some 50),(.append 1 (.t 47) (.t 49)),none,251007022,[251007024]⟩ (.one ⟨(some 51),(.ej 1 (.t 31) (.t 36)),none,251007023,[251007024]⟩ (.one ⟨none,(.store 1 (.t 51) (.t 50)),none,251007024,[]⟩ (.eS false []))))) (.one ⟨(some 50),(.append 1 (.t 47) (.t 49)),none,251007022,[251007024]⟩ (.one ⟨(some 36),(.load false 1 (.t 35)),none,251007008,[251007021,251007022,251007024]⟩ (.one ⟨(some 51),(.ej 1 (.t 31) (.t 36)),none,251007023,[251007024]⟩ (.one ⟨none,(.store 1 (.t 51) (.t 50)),none,251007024,[]⟩ (.eS false [])))))))) (.one ⟨(some 50),(.append 1 (.t 47) (.t 49)),none,251007022,[251007024]⟩ (.one ⟨(some 34),(.ej 3 (.t 32) (.t 33)),none,251007006,[251007021,251007022,251007024]⟩ (.one ⟨(some 35),(.fN 0 (.t 34)),none,251007007,[251007021,251007022,251007024]⟩ (.one ⟨(some 36),(.load false 1 (.t 35)),none,251007008,[251007021,251007022,251007024]⟩ (.one ⟨(some 51),(.ej 1 (.t 31) (.t 36)),none,251007023,[251007024]⟩ (.one ⟨none,(.store 1 (.t 51) (.t 50)),none,251007024,[]⟩ (.eS false []))))))))) (.both (.one ⟨(some 34),(.ej 3 (.t 32) (.t 33)),none,251007006,[251007021,251007022,251007024]⟩ (.one ⟨(some 35),(.fN 0 (.t 34)),none,251007007,[251007021,251007022,251007024]⟩ (.both (.one ⟨(some 31),(.load false 1 (.t 30)),none,251007003,[251007021,251007022,251007024]⟩ (.both (.one ⟨(some 36),(.load false 1 (.t 35)),none,251007008,[251007021,251007022,251007024]⟩ (.one ⟨(some 50),(.append 1 (.t 47) (.t 49)),none,251007022,[251007024]⟩ (.one ⟨(some 51),(.ej 1 (.t 31) (.t 36)),none,251007023,[251007024]⟩ (.one ⟨none,(.store 1 (.t 51) (.t 50)),none,251007024,[]⟩ (.eS false []))))) (.one ⟨(some 50),(.append 1 (.t 47) (.t 49)),none,251007022,[251007024]⟩ (.one ⟨(some 36),(.load false 1 (.t 35)),none,251007008,[251007021,251007022,251007024]⟩ (.one ⟨(some 51),(.ej 1 (.t 31) (.t 36)),none,251007023,[251007024]⟩ (.one ⟨none,(.store 1 (.t 51) (.t 50)),none,251007024,[]⟩ (.eS false []))))))) (.both (.one ⟨(some 36),(.load false 1 (.t 35)),none,251007008,[251007021,251007022,251007024]⟩ (.both (.one ⟨(some 31),(.load false 1 (.t 30)),none,251007003,[251007021,251007022,251007024]⟩ (.one ⟨(some 50),(.append 1 (.t 47) (.t 49)),none,251007022,[251007024]⟩ (.one ⟨(some 51),(.ej 1 (.t 31) (.t 36)),none,251007023,[251007024]⟩ (.one ⟨none,(.store 1 (.t 51) (.t 50)),none,251007024,[]⟩ (.eS false []))))) (.one ⟨(some 50),(.append 1 (.t 47) (.t 49)),none,251007022,[251007024]⟩ (.one ⟨(some 31),(.load false 1 (.t 30)),none,251007003,[251007021,251007022,251007024]⟩ (.one ⟨(some 51),(.ej 1 (.t 31) (.t 36)),none,251007023,[251007024]⟩ (.one ⟨none,(.store 1 (.t 51) (.t 50)),none,251007024,[]⟩ (.eS false []))))))) (.one ⟨(some 50),(.append 1 (.t 47) (.t 49)),none,251007022,[251007024]⟩ (.one ⟨(some 31),(.load false 1 (.t 30)),none,251007003,[251007021,251007022,251007024]⟩ (.one ⟨(some 36),(.load false 1 (.t 35)),none,251007008,[251007021,251007022,251007024]⟩ (.one ⟨(some 51),(.ej 1 (.t 31) (.t 36)),none,251007023,[251007024]⟩ (.one ⟨none,(.store 1 (.t 51) (.t 50)),none,251007024,[]⟩ (.eS false [])))))))))) (.one ⟨(some 50),(.append 1 (.t 47) (.t 49)),none,251007022,[251007024]⟩ (.one ⟨(some 31),(.load false 1 (.t 30)),none,251007003,[251007021,251007022,251007024]⟩ (.one ⟨(some 34),(.ej 3 (.t 32) (.t 33)),none,251007006,[251007021,251007022,251007024]⟩ (.one ⟨(some 35),(.fN 0 (.t 34)),none,251007007,[251007021,251007022,251007024]⟩ (.one ⟨(some 36),(.load false 1 (.t 35)),none,251007008,[251007021,251007022,251007024]⟩ (.one ⟨(some 51),(.ej 1 (.t 31) (.t 36)),none,251007023,[251007024]⟩ (.one ⟨none,(.store 1 (.t 51) (.t 50)),none,251007024,[]⟩ (.eS false [])))))))))))))))))))))))))))) (.one ⟨(some 52),(.dv (.t 5)),none,251008000,[251008021,251008022,251008024]⟩ (.one ⟨(some 53),(.zQ (.t 52)),none,251008001,[251008021,251008022,251008024]⟩ (.one ⟨(some 54),(.fN 2 (.t 53)),none,251008002,[251008021,251008022,251008024]⟩ (.one ⟨(some 56),(.dv (.t 1)),none,251008004,[251008021,251008022,251008024]⟩ (.one ⟨(some 57),(.dv (.t 6)),none,251008005,[251008021,251008022,251008024]⟩ (.one ⟨(some 61),(.dv (.t 5)),none,251008009,[251008021,251008022,251008024]⟩ (.one ⟨(some 62),(.zQ (.t 61)),none,251008010,[251008021,251008022,251008024]⟩ (.one ⟨(some 63),(.fN 2 (.t 62)),none,251008011,[251008021,251008022,251008024]⟩ (.one ⟨(some 64),(.load false 1 (.t 63)),none,251008012,[251008021,251008022,251008024]⟩ (.one ⟨(some 65),(.dv (.t 1)),none,251008013,[251008021,251008022,251008024]⟩ (.one ⟨(some 66),(.dv (.t 6)),none,251008014,[251008021,251008022,251008024]⟩ (.one ⟨(some 67),(.ej 3 (.t 65) (.t 66)),none,251008015,[251008021,251008022,251008024]⟩ (.one ⟨(some 68),(.fN 1 (.t 67)),none,251008016,[251008021,251008022,251008024]⟩ (.one ⟨(some 69),(.load false 1 (.t 68)),none,251008017,[251008021,251008022,251008024]⟩ (.one ⟨(some 70),(.ej 1 (.t 64) (.t 69)),none,251008018,[251008021,251008022,251008024]⟩ (.one ⟨(some 71),(.load false 1 (.t 70)),none,251008019,[251008021,251008022,251008024]⟩ (.one ⟨(some 72),(.dv (.t 6)),none,251008020,[251008021,251008022,251008024]⟩ (.one ⟨(some 73),(.jS 1 1 [(.t 72)]),none,251008021,[251008022,251008024]⟩ (.both (.one ⟨(some 55),(.load false 1 (.t 54)),none,251008003,[251008021,251008022,251008024]⟩ (.both (.one ⟨(some 58),(.ej 3 (.t 56) (.t 57)),none,251008006,[251008021,251008022,251008024]⟩ (.one ⟨(some 59),(.fN 1 (.t 58)),none,251008007,[251008021,251008022,251008024]⟩ (.both (.one ⟨(some 60),(.load false 1 (.t 59)),none,251008008,[251008021,251008022,251008024]⟩ (.one ⟨(some 74),(.append 1 (.t 71) (.t 73)),none,251008022,[251008024]⟩ (.one ⟨(some 75),(.ej 1 (.t 55) (.t 60)),none,251008023,[251008024]⟩ (.one ⟨none,(.store 1 (.t 75) (.t 74)),none,251008024,[]⟩ (.eS false []))))) (.one ⟨(some 74),(.append 1 (.t 71) (.t 73)),none,251008022,[251008024]⟩ (.one ⟨(some 60),(.load false 1 (.t 59)),none,251008008,[251008021,251008022,251008024]⟩ (.one ⟨(some 75),(.ej 1 (.t 55) (.t 60)),none,251008023,[251008024]⟩ (.one ⟨none,(.store 1 (.t 75) (.t 74)),none,251008024,[]⟩ (.eS false [])))))))) (.one ⟨(some 74),(.append 1 (.t 71) (.t 73)),none,251008022,[251008024]⟩ (.one ⟨(some 58),(.ej 3 (.t 56) (.t 57)),none,251008006,[251008021,251008022,251008024]⟩ (.one ⟨(some 59),(.fN 1 (.t 58)),none,251008007,[251008021,251008022,251008024]⟩ (.one ⟨(some 60),(.load false 1 (.t 59)),none,251008008,[251008021,251008022,251008024]⟩ (.one ⟨(some 75),(.ej 1 (.t 55) (.t 60)),none,251008023,[251008024]⟩ (.one ⟨none,(.store 1 (.t 75) (.t 74)),none,251008024,[]⟩ (.eS false []))))))))) (.both (.one ⟨(some 58),(.ej 3 (.t 56) (.t 57)),none,251008006,[251008021,251008022,251008024]⟩ (.one ⟨(some 59),(.fN 1 (.t 58)),none,251008007,[251008021,251008022,251008024]⟩ (.both (.one ⟨(some 55),(.load false 1 (.t 54)),none,251008003,[251008021,251008022,251008024]⟩ (.both (.one ⟨(some 60),(.load false 1 (.t 59)),none,251008008,[251008021,251008022,251008024]⟩ (.one ⟨(some 74),(.append 1 (.t 71) (.t 73)),none,251008022,[251008024]⟩ (.one ⟨(some 75),(.ej 1 (.t 55) (.t 60)),none,251008023,[251008024]⟩ (.one ⟨none,(.store 1 (.t 75) (.t 74)),none,251008024,[]⟩ (.eS false []))))) (.one ⟨(some 74),(.append 1 (.t 71) (.t 73)),none,251008022,[251008024]⟩ (.one ⟨(some 60),(.load false 1 (.t 59)),none,251008008,[251008021,251008022,251008024]⟩ (.one ⟨(some 75),(.ej 1 (.t 55) (.t 60)),none,251008023,[251008024]⟩ (.one ⟨none,(.store 1 (.t 75) (.t 74)),none,251008024,[]⟩ (.eS false []))))))) (.both (.one ⟨(some 60),(.load false 1 (.t 59)),none,251008008,[251008021,251008022,251008024]⟩ (.both (.one ⟨(some 55),(.load false 1 (.t 54)),none,251008003,[251008021,251008022,251008024]⟩ (.one ⟨(some 74),(.append 1 (.t 71) (.t 73)),none,251008022,[251008024]⟩ (.one ⟨(some 75),(.ej 1 (.t 55) (.t 60)),none,251008023,[251008024]⟩ (.one ⟨none,(.store 1 (.t 75) (.t 74)),none,251008024,[]⟩ (.eS false []))))) (.one ⟨(some 74),(.append 1 (.t 71) (.t 73)),none,251008022,[251008024]⟩ (.one ⟨(some 55),(.load false 1 (.t 54)),none,251008003,[251008021,251008022,251008024]⟩ (.one ⟨(some 75),(.ej 1 (.t 55) (.t 60)),none,251008023,[251008024]⟩ (.one ⟨none,(.store 1 (.t 75) (.t 74)),none,251008024,[]⟩ (.eS false []))))))) (.one ⟨(some 74),(.append 1 (.t 71) (.t 73)),none,251008022,[251008024]⟩ (.one ⟨(some 55),(.load false 1 (.t 54)),none,251008003,[251008021,251008022,251008024]⟩ (.one ⟨(some 60),(.load false 1 (.t 59)),none,251008008,[251008021,251008022,251008024]⟩ (.one ⟨(some 75),(.ej 1 (.t 55) (.t 60)),none,251008023,[251008024]⟩ (.one ⟨none,(.store 1 (.t 75) (.t 74)),none,251008024,[]⟩ (.eS false [])))))))))) (.one ⟨(some 74),(.append 1 (.t 71) (.t 73)),none,251008022,[251008024]⟩ (.one ⟨(some 55),(.load false 1 (.t 54)),none,251008003,[251008021,251008022,251008024]⟩ (.one ⟨(some 58),(.ej 3 (.t 56) (.t 57)),none,251008006,[251008021,251008022,251008024]⟩ (.one ⟨(some 59),(.fN 1 (.t 58)),none,251008007,[251008021,251008022,251008024]⟩ (.one ⟨(some 60),(.load false 1 (.t 59)),none,251008008,[251008021,251008022,251008024]⟩ (.one ⟨(some 75),(.ej 1 (.t 55) (.t 60)),none,251008023,[251008024]⟩ (.one ⟨none,(.store 1 (.t 75) (.t 74)),none,251008024,[]⟩ (.eS false [])))))))))))))))))))))))))))))) (.eS false [q 26 (.dv (.t 6)) 251006000,q 27 (.bin .add .i64 (.t 26) (.k (.int .i64 1))) 251006001,q 6 (.dv (.t 27)) 251006002])))))) (.seq (.eS false [q 76 (.dv (.t 5)) 251009000,q 4 (.dv (.t 76)) 251009001]) .ret)))))),[(.tmp 4)]⟩
theorem PT:uE Tryz.prog 251 [(7,2),(8,2)]=some Rx:=by kernel_rfl
def Ry:yE:=⟨118,2,(.seq (.eS false [q 4 (.dv (.k .cj)) 320000000]) (.seq (.eS false [q 17 (.dv (.t 0)) 320001000,q 18 (.j9 [.il] (.t 17) (.t 17)) 320001001,q 5 (.dv (.t 18)) 320001002]) (.seq (.seq (.eS false [q 19 (.dv (.t 5)) 320002000,q 20 (.len (.t 19)) 320002001,q 21 (.dv (.k (.int .i64 0))) 320002002]) (.block 0 (.loop (.seq (.eS false [q 22 (.bin .lss .i64 (.t 21) (.t 20)) 320003000]) (.seq (.cond (.t 22) .skip (.exit 0)) (.seq (.block 1 (.seq (.eS false [q 23 (.dv (.t 21)) 320004000,q 6 (.dv (.t 23)) 320004001]) (.eS false [q 24 (.dv (.t 5)) 320005000,q 25 (.dv (.t 6)) 320005001,q 26 (.dv (.t 6)) 320005002,q 27 (.build [.il,(.int .i64 0)] [(1,(1,(.t 26)))]) 320005003,q 28 (.box (.t 27)) 320005004,q 29 (.ej 1 (.t 24) (.t 25)) 320005005,⟨none,(.store 1 (.t 29) (.t 28)),none,320005006,[]⟩]))) (.eS false [q 30 (.bin .add .i64 (.t 21) (.k (.int .i64 1))) 320006000,q 21 (.dv (.t 30)) 320006001]))))))) (.seq (.seq (.eS false [q 31 (.dv (.t 1)) 320007000,q 32 (.len (.t 31)) 320007001,q 33 (.dv (.k (.int .i64 0))) 320007002]) (.block 2 (.loop (.seq (.eS false [q 34 (.bin .lss .i64 (.t 33) (.t 32)) 320008000]) (.seq (.cond (.t 34) .skip (.exit 2)) (.seq (.block 3 (.seq (.eS false [q 35 (.ej 3 (.t 31) (.t 33)) 320009000,q 36 (.load true 3 (.t 35)) 320009001,q 8 (.new [(.int .i64 0),(.int .i64 0),(.int .i64 0)]) 320009002,⟨none,(.store 3 (.t 8) (.t 36)),none,320009003,[]⟩]) (.seq (.one (q 37 (.dv (.t 5)) 320010000) (.one (q 38 (.fN 0 (.t 8)) 320010001) (.one (q 39 (.load false 1 (.t 38)) 320010002) (.one (q 40 (.ej 1 (.t 37) (.t 39)) 320010003) (.one (q 41 (.load false 1 (.t 40)) 320010004) (.one (q 43 (.dv (.t 5)) 320010006) (.one (q 44 (.fN 1 (.t 8)) 320010007) (.both (.one (q 42 (.call 334 [(.t 41)]) 320010005) (.one (q 45 (.load false 1 (.t 44)) 320010008) (.one (q 46 (.ej 1 (.t 43) (.t 45)) 320010009) (.one (q 47 (.load false 1 (.t 46)) 320010010) (.one (q 48 (.call 334 [(.t 47)]) 320010011) (.one (q 9 (.dv (.t 42)) 320010012) (.one (q 10 (.dv (.t 48)) 320010013) (.eS false [])))))))) (.one (q 45 (.load false 1 (.t 44)) 320010008) (.both (.one (q 42 (.call 334 [(.t 41)]) 320010005) (.one (q 46 (.ej 1 (.t 43) (.t 45)) 320010009) (.one (q 47 (.load false 1 (.t 46)) 320010010) (.one (q 48 (.call 334 [(.t 47)]) 320010011) (.one (q 9 (.dv (.t 42)) 320010012) (.one (q 10 (.dv (.t 48)) 320010013) (.eS false []))))))) (.one (q 46 (.ej 1 (.t 43) (.t 45)) 320010009) (.both (.one (q 42 (.call 334 [(.t 41)]) 320010005) (.one (q 47 (.load false 1 (.t 46)) 320010010) (.one (q 48 (.call 334 [(.t 47)]) 320010011) (.one (q 9 (.dv (.t 42)) 320010012) (.one (q 10 (.dv (.t 48)) 320010013) (.eS false [])))))) (.one (q 47 (.load false 1 (.t 46)) 320010010) (.one (q 42 (.call 334 [(.t 41)]) 320010005) (.one (q 48 (.call 334 [(.t 47)]) 320010011) (.one (q 9 (.dv (.t 42)) 320010012) (.one (q 10 (.dv (.t 48)) 320010013) (.eS false [])))))))))))))))))) (.block 4 (.seq (.eS true [q 50 (.dv (.t 9)) 320011000,q 51 (.zQ (.t 50)) 320011001,q 52 (.fN 1 (.t 51)) 320011002,q 53 (.load false 1 (.t 52)) 320011003,q 54 (.dv (.t 10)) 320011004,q 55 (.zQ (.t 54)) 320011005,q 56 (.fN 1 (.t 55)) 320011006,q 57 (.load false 1 (.t 56)) 320011007,q 58 (.bin .lss .i64 (.t 53) (.t 57)) 320011008,q 49 (.dv (.t 58)) 320011009]) (.cond (.t 49) (.eS false [q 59 (.dv (.t 10)) 320012000,q 60 (.dv (.t 9)) 320012001,q 61 (.zQ (.t 59)) 320012002,q 62 (.fN 0 (.t 61)) 320012003,⟨none,(.store 1 (.t 62) (.t 60)),none,320012004,[]⟩]) (.seq (.eS true [q 64 (.dv (.t 10)) 320013000,q 65 (.zQ (.t 64)) 320013001,q 66 (.fN 1 (.t 65)) 320013002,q 67 (.load false 1 (.t 66)) 320013003,q 68 (.dv (.t 9)) 320013004,q 69 (.zQ (.t 68)) 320013005,q 70 (.fN 1 (.t 69)) 320013006,q 71 (.load false 1 (.t 70)) 320013007,q 72 (.bin .lss .i64 (.t 67) (.t 71)) 320013008,q 63 (.dv (.t 72)) 320013009]) (.cond (.t 63) (.eS false [q 73 (.dv (.t 9)) 320014000,q 74 (.dv (.t 10)) 320014001,q 75 (.zQ (.t 73)) 320014002,q 76 (.fN 0 (.t 75)) 320014003,⟨none,(.store 1 (.t 76) (.t 74)),none,320014004,[]⟩]) .skip)))))))) (.eS false [q 77 (.bin .add .i64 (.t 33) (.k (.int .i64 1))) 320015000,q 33 (.dv (.t 77)) 320015001]))))))) (.seq (.eS false [q 11 (.dv (.k .cj)) 320016000]) (.seq (.eS false [⟨(some 78),(.mq (.new ⟨false,[.tI]⟩) []),none,320017000,[]⟩,q 12 (.dv (.t 78)) 320017001]) (.seq (.seq (.eS false [q 79 (.dv (.t 5)) 320018000,q 80 (.len (.t 79)) 320018001,q 81 (.dv (.k (.int .i64 0))) 320018002]) (.block 5 (.loop (.seq (.eS false [q 82 (.bin .lss .i64 (.t 81) (.t 80)) 320019000]) (.seq (.cond (.t 82) .skip (.exit 5)) (.seq (.block 6 (.seq (.eS false [q 83 (.dv (.t 81)) 320020000,q 84 (.ej 1 (.t 79) (.t 81)) 320020001,q 85 (.load false 1 (.t 84)) 320020002,q 13 (.dv (.t 83)) 320020003,q 14 (.dv (.t 85)) 320020004]) (.seq (.eS false [q 87 (.dv (.t 12)) 320021000,q 88 (.dv (.t 14)) 320021001,q 89 (.call 334 [(.t 88)]) 320021002,q 90 (.zQ (.t 89)) 320021003,q 91 (.fN 1 (.t 90)) 320021004,q 92 (.load false 1 (.t 91)) 320021005,⟨(some 93),(.mq (.look ⟨false,[.tI]⟩ true (.int .i64 0)) [(.t 87),(.t 92)]),none,320021006,[]⟩,q 86 (.dv (.t 93)) 320021007,q 94 (.extract 0 (.t 86)) 320021008,q 95 (.extract 1 (.t 86)) 320021009,q 15 (.dv (.t 94)) 320021010,q 16 (.dv (.t 95)) 320021011]) (.seq (.seq (.eS false [q 96 (.dv (.t 16)) 320022000,q 97 (.not (.t 96)) 320022001]) (.cond (.t 97) (.seq (.eS false [q 98 (.dv (.t 11)) 320023000,q 99 (.len (.t 98)) 320023001,q 15 (.dv (.t 99)) 320023002]) (.seq (.eS false [q 100 (.dv (.t 12)) 320024000,q 101 (.dv (.t 13)) 320024001,q 102 (.dv (.t 15)) 320024002,⟨none,(.mw (.set ⟨false,[.tI]⟩) [(.t 100),(.t 101),(.t 102)]),none,320024003,[]⟩]) (.eS false [q 103 (.dv (.t 11)) 320025000,q 104 (.jS 1 1 [(.k .cj)]) 320025001,q 105 (.append 1 (.t 103) (.t 104)) 320025002,q 11 (.dv (.t 105)) 320025003]))) .skip)) (.eS false [q 106 (.dv (.t 11)) 320026000,q 107 (.dv (.t 15)) 320026001,q 108 (.dv (.t 11)) 320026002,q 109 (.dv (.t 15)) 320026003,q 110 (.ej 1 (.t 108) (.t 109)) 320026004,q 111 (.load false 1 (.t 110)) 320026005,q 112 (.dv (.t 13)) 320026006,q 113 (.jS 1 1 [(.t 112)]) 320026007,q 114 (.append 1 (.t 111) (.t 113)) 320026008,q 115 (.ej 1 (.t 106) (.t 107)) 320026009,⟨none,(.store 1 (.t 115) (.t 114)),none,320026010,[]⟩]))))) (.eS false [q 116 (.bin .add .i64 (.t 81) (.k (.int .i64 1))) 320027000,q 81 (.dv (.t 116)) 320027001]))))))) (.seq (.eS false [q 117 (.dv (.t 11)) 320028000,q 4 (.dv (.t 117)) 320028001]) .ret)))))))),[(.tmp 4)]⟩
theorem PU:uE Tryz.prog 320 [(10,2)]=some Ry:=by kernel_rfl
def UE:yE:=⟨26,3,(.seq (.eS false [q 3 (.box (.t 0)) 92000000,q 4 (.box (.t 1)) 92000001,q 6 (.new [.cj]) 92000002]) (.seq (.eS false [q 10 (.fN 0 (.t 3)) 92001000,q 11 (.load false 1 (.t 10)) 92001001,q 12 (.load true 2 (.t 4)) 92001002,q 13 (.call 163 [(.t 11),(.t 12),(.f 164)]) 92001003,q 9 (.dv (.t 13)) 92001004,q 14 (.extract 0 (.t 9)) 92001005,q 15 (.extract 1 (.t 9)) 92001006,q 7 (.dv (.t 14)) 92001007,q 8 (.dv (.t 15)) 92001008]) (.seq (.one ⟨(some 16),(.fN 0 (.t 3)),none,92002000,[92002007,92002010]⟩ (.one ⟨(some 17),(.load false 1 (.t 16)),none,92002001,[92002007,92002010]⟩ (.one ⟨(some 19),(.dv (.t 7)),none,92002003,[92002007,92002010]⟩ (.one ⟨(some 21),(.dv (.t 2)),none,92002005,[92002007,92002010]⟩ (.both (.one ⟨(some 18),(.call 166 [(.t 17)]),none,92002002,[92002007,92002010]⟩ (.one ⟨(some 20),(.load true 2 (.t 4)),none,92002004,[92002007,92002010]⟩ (.one ⟨(some 22),(.build [(.int .i64 0),(.int .i64 0),(.int .i64 0)] [(0,(2,(.t 20))),(2,(1,(.t 21)))]),none,92002006,[92002007,92002010]⟩ (.one ⟨(some 23),(.jS 3 1 [(.t 22)]),none,92002007,[92002010]⟩ (.one ⟨(some 24),(.call 165 [(.t 18),(.t 19),(.t 23)]),none,92002008,[92002010]⟩ (.one ⟨(some 25),(.build [.cj] [(0,(1,(.t 24)))]),none,92002009,[92002010]⟩ (.one ⟨none,(.store 1 (.t 6) (.t 25)),none,92002010,[]⟩ (.eS false [])))))))) (.one ⟨(some 20),(.load true 2 (.t 4)),none,92002004,[92002007,92002010]⟩ (.one ⟨(some 22),(.build [(.int .i64 0),(.int .i64 0),(.int .i64 0)] [(0,(2,(.t 20))),(2,(1,(.t 21)))]),none,92002006,[92002007,92002010]⟩ (.both (.one ⟨(some 18),(.call 166 [(.t 17)]),none,92002002,[92002007,92002010]⟩ (.one ⟨(some 23),(.jS 3 1 [(.t 22)]),none,92002007,[92002010]⟩ (.one ⟨(some 24),(.call 165 [(.t 18),(.t 19),(.t 23)]),none,92002008,[92002010]⟩ (.one ⟨(some 25),(.build [.cj] [(0,(1,(.t 24)))]),none,92002009,[92002010]⟩ (.one ⟨none,(.store 1 (.t 6) (.t 25)),none,92002010,[]⟩ (.eS false [])))))) (.one ⟨(some 23),(.jS 3 1 [(.t 22)]),none,92002007,[92002010]⟩ (.one ⟨(some 18),(.call 166 [(.t 17)]),none,92002002,[92002007,92002010]⟩ (.one ⟨(some 24),(.call 165 [(.t 18),(.t 19),(.t 23)]),none,92002008,[92002010]⟩ (.one ⟨(some 25),(.build [.cj] [(0,(1,(.t 24)))]),none,92002009,[92002010]⟩ (.one ⟨none,(.store 1 (.t 6) (.t 25)),none,92002010,[]⟩ (.eS false [])))))))))))))) .ret))),[(.cell true 1 6)]⟩
theorem SP:uE Tryz.prog 92 [(2,2)]=some UE:=by kernel_rfl
def Rw:yE:=⟨22,2,(.seq (.eS false [q 4 (.new [.cj]) 176000000]) (.seq (.one ⟨(some 5),(.jS 3 0 []),none,176001000,[176001007,176001015,176001017]⟩ (.one ⟨(some 6),(.dv (.t 0)),none,176001001,[176001000,176001007,176001015,176001017]⟩ (.one ⟨(some 7),(.zQ (.t 6)),none,176001002,[176001000,176001007,176001015,176001017]⟩ (.one ⟨(some 8),(.fN 0 (.t 7)),none,176001003,[176001000,176001007,176001015,176001017]⟩ (.one ⟨(some 9),(.load false 1 (.t 8)),none,176001004,[176001000,176001007,176001015,176001017]⟩ (.one ⟨(some 10),(.dv (.t 1)),none,176001005,[176001000,176001007,176001015,176001017]⟩ (.one ⟨(some 11),(.slice 3 (.t 9) none (some (.t 10))),none,176001006,[176001000,176001007,176001015,176001017]⟩ (.one ⟨(some 13),(.dv (.t 0)),none,176001008,[176001000,176001007,176001015,176001017]⟩ (.one ⟨(some 14),(.zQ (.t 13)),none,176001009,[176001000,176001007,176001015,176001017]⟩ (.one ⟨(some 15),(.fN 0 (.t 14)),none,176001010,[176001000,176001007,176001015,176001017]⟩ (.one ⟨(some 17),(.dv (.t 1)),none,176001012,[176001000,176001007,176001015,176001017]⟩ (.one ⟨(some 18),(.bin .add .i64 (.t 17) (.k (.int .i64 1))),none,176001013,[176001000,176001007,176001015,176001017]⟩ (.loc 5 176001000 (.t 11) (.one ⟨(some 12),(.append 3 (.t 5) (.t 11)),none,176001007,[176001015,176001017]⟩ (.one ⟨(some 16),(.load false 1 (.t 15)),none,176001011,[176001000,176001007,176001015,176001017]⟩ (.one ⟨(some 19),(.slice 3 (.t 16) (some (.t 18)) none),none,176001014,[176001000,176001007,176001015,176001017]⟩ (.one ⟨(some 20),(.append 3 (.t 12) (.t 19)),none,176001015,[176001017]⟩ (.one ⟨(some 21),(.build [.cj] [(0,(1,(.t 20)))]),none,176001016,[176001017]⟩ (.one ⟨none,(.store 1 (.t 4) (.t 21)),none,176001017,[]⟩ (.eS false [])))))))))))))))))))) .ret)),[(.cell true 1 4)]⟩
theorem Wb:uE Tryz.prog 176 [(1,2)]=some Rw:=by kernel_rfl
end Go.Proofs.YtgoljkjaameagaaGreat.V

namespace Go.Proofs.YtgoljkjaameagaaGreat.V
open Go.RowKit
attribute [local irreducible] ek wpOps fK Call
attribute [local go_sem] aI fw eH fE fD dd upd cm K.av cG AV.cells AV.cell rowOf rowsOf part ld rowAt bL bY dx dO gz bE cW dY fC eY dj dS cU cR dG dH bH aZ cJ bG cL cK dQ dU dR cI bJ cV dP bF aL cP cz gy bq cF bI aW dq bm dy AV.undef bw bz dJ dM dD dI cE dX ea cq dW dV cN cQ List.getD_cons_zero List.getD_cons_succ List.getD_nil List.all_cons List.all_nil Bool.and_true Bool.true_and Bool.and_self Bool.not_true Bool.not_false Option.map_some Option.map_none Option.bind_some Option.bind_none List.length_cons List.length_nil List.take_succ_cons List.take_zero List.take_nil List.drop_succ_cons List.drop_zero List.drop_nil List.head?_cons List.map_cons List.map_nil List.getElem?_cons_zero List.getElem?_cons_succ List.cons_append List.nil_append List.append_nil List.length_map List.set_cons_zero List.set_cons_succ Nat.reduceMul eq_self Int.toNat_natCast Int.natCast_nonneg and_self true_and and_true decide_true decide_false Bool.false_eq_true Nat.zero_add Nat.add_zero List.contains_cons List.contains_nil Bool.or_false Bool.false_or beq_self_eq_true Nat.reduceBEq ne_eq not_true_eq_false not_false_eq_true Id.mk.injEq false_and and_false Nat.reduceLT Int.reduceLE Int.reduceLT Int.reduceToNat Int.reduceNeg Int.reduceAdd Nat.le_refl List.length_append beq_true beq_false Bool.not_eq_eq_eq_not or_false false_or dK aq au aH bf bt bZ aU bh aT bc cH bx
theorem B8 (x:fS) (g:Rows):de g 6 [.agg (ck x)]=some [.agg (ck x)]:=by simp[ck,aq,au,bh,bt,aH]
theorem B9 (x:fc) (g:Rows):de g 6 [.agg (bP x)]=some [.agg (bP x)]:=by simp[bP,aq,au,bh,bt,bZ]
theorem Ev (x:ae) (g:Rows):de g 6 [.agg (ah x)]=some [.agg (ah x)]:=by simp[ah,aq,au,bh,aH]
theorem iF {n:Nat} {l:Int} (h:(n:Int)<=l):yy n l=l-n:=if_pos h
theorem iN {n:Nat} {l:Int} (h:¬(n:Int)<=l):yy n l= -1:=if_neg h
def kO (t:fc):Nat:=t.aO.size+t.bU.length
def uP (s:ax):Nat:=(s.aB.length+(s.aB.map fun g=>g.aO.size).sum)+(s.aj.length+(s.aj.map kO).sum)
def xP (s:aM):Nat:=uP s.aC+s.cC.aj.length
def gJ (s:ax):Prop:=(∀g∈s.aB,g.aO.size<=9223372036854775807)/\∀t∈s.aj,t.aO.size<=9223372036854775807
theorem Lt (g:fS) (l:Int) (h0:0<=l) (h1:l<=1048576) (hs:g.aO.size<=9223372036854775807):aw Tryz.prog 187 [.agg (ck g),.int .i64 l] (.int .i64 (yy g.aO.size l)):=by
 refine aw.body eK rfl fun hl n0=>?_
 clear hl
 have hw:IntKind.i64.wrap (l-(g.aO.size:Int))=l-g.aO.size:=bK (by omega)
 by_cases hf:(g.aO.size:Int)<=l
 ·have mC:¬l-(g.aO.size:Int)<0:=by omega
  (try((repeat(revert hN;revert N;apply Pn.out));refine wk (tw @ck.eq_1 (tw @hw @mC)) ?_;(repeat(refine Pn.mk ?_;intro N hN))))
  exact db (b:=l-(g.aO.size:Int)) (.inl rfl) (sd @Nat.zero_add) (iF hf).symm
 ·have mC:l-(g.aO.size:Int)<0:=by omega
  (try((repeat(revert hN;revert N;apply Pn.out));refine wk (tw @ck.eq_1 (tw @hw @mC)) ?_;(repeat(refine Pn.mk ?_;intro N hN))))
  exact db (b:=-1) (.inl rfl) (sd @Nat.zero_add) (iN hf).symm
theorem Lu (xs:List Int) (l:Int) (h0:0<=l) (h1:l<=1048576):aw Tryz.prog 140 [.sl (xs.map aQ),.int .i64 l] (.int .i64 (yy xs.length l)):=by
 have h:=Lw (show nv Tryz.prog 140=some (Lv 140) by kernel_rfl) (xs.map aQ) l h0 h1
 rwa [List.length_map]at h
theorem Lz (t:fc) (l:Int) (h0:0<=l) (h1:l<=1048576) (hs:t.aO.size<=9223372036854775807):aw Tryz.prog 188 [.agg (bP t),.int .i64 l] (.int .i64 (yy (kO t) l)):=by
 refine aw.body eK rfl fun hl n0=>?_
 clear hl
 have hw:IntKind.i64.wrap (l-(t.aO.size:Int))=l-t.aO.size:=bK (by omega)
 by_cases hf:(t.aO.size:Int)<=l
 ·have mC:¬l-(t.aO.size:Int)<0:=by omega
  have hc:=Lu t.bU (l-t.aO.size) (by omega) (by omega)
  by_cases hg:(t.bU.length:Int)<=l-t.aO.size
  ·rw[iF hg]at hc
   have L7:¬l-(t.aO.size:Int)-(t.bU.length:Int)<0:=by omega
   (repeat(first|((repeat(revert hN;revert N;apply Pn.out));refine wk (tw @bP.eq_1 (tw @hw (tw @mC @L7))) ?_;(repeat(refine Pn.mk ?_;intro N hN)))|((try apply Or.inl);refine⟨_,aw.x (hc) (sd (tw @bP.eq_1 (tw @hw (tw @mC @L7)))),?_⟩;refine hN _ _ ?_;clear hN N)))
   exact db (b:=l-(t.aO.size:Int)-(t.bU.length:Int)) (.inl rfl) (sd @Nat.zero_add) (by rw[iF (by unfold kO;omega)];unfold kO;omega)
  ·rw[iN hg]at hc
   (repeat(first|((repeat(revert hN;revert N;apply Pn.out));refine wk (tw @bP.eq_1 (tw @hw @mC)) ?_;(repeat(refine Pn.mk ?_;intro N hN)))|((try apply Or.inl);refine⟨_,aw.x (hc) (sd (tw @bP.eq_1 (tw @hw @mC))),?_⟩;refine hN _ _ ?_;clear hN N)))
   exact db (b:=-1) (.inl rfl) (sd @Nat.zero_add) (iN (by unfold kO;omega)).symm
 ·have mC:l-(t.aO.size:Int)<0:=by omega
  (try((repeat(revert hN;revert N;apply Pn.out));refine wk (tw @bP.eq_1 (tw @hw @mC)) ?_;(repeat(refine Pn.mk ?_;intro N hN))))
  exact db (b:=-1) (.inl rfl) (sd @Nat.zero_add) (iN (by unfold kO;omega)).symm
theorem IH (xs:List fS) (l:Int) (h0:0<=l) (h1:l<=1048576) (hs:∀g∈xs,g.aO.size<=9223372036854775807):aw Tryz.prog 120 [.sl (xs.map ck),.int .i64 l] (.int .i64 (yy (xs.length+(xs.map fun g=>g.aO.size).sum) l)):=
 Ly (fun g:fS=>g.aO.size) (show nv Tryz.prog 120=some (Lx 120 187 2) by kernel_rfl) (fun _=>rfl) B8 xs l h0 h1 fun x hx l a b=>Lt x l a b (hs x hx)
theorem II (xs:List fc) (l:Int) (h0:0<=l) (h1:l<=1048576) (hs:∀t∈xs,t.aO.size<=9223372036854775807):aw Tryz.prog 121 [.sl (xs.map bP),.int .i64 l] (.int .i64 (yy (xs.length+(xs.map kO).sum) l)):=
 Ly kO (show nv Tryz.prog 121=some (Lx 121 188 2) by kernel_rfl) (fun _=>rfl) B9 xs l h0 h1 fun x hx l a b=>Lz x l a b (hs x hx)
theorem FG (xs:List ae) (l:Int) (h0:0<=l) (h1:l<=1048576):aw Tryz.prog 76 [.sl (xs.map ah),.int .i64 l] (.int .i64 (yy xs.length l)):=by
 have h:=Lw (show nv Tryz.prog 76=some (Lv 76) by kernel_rfl) (xs.map ah) l h0 h1
 rwa [List.length_map]at h
theorem Df (s:ax) (l:Int) (h0:0<=l) (h1:l<=1048576) (hs:gJ s):aw Tryz.prog 61 [.agg (aa s),.int .i64 l] (.int .i64 (yy (uP s) l)):=by
 refine aw.body eK rfl fun hl n0=>?_
 clear hl
 have ha:=IH s.aB l h0 h1 hs.1
 have he:uP s=(s.aB.length+(s.aB.map fun g=>g.aO.size).sum)+(s.aj.length+(s.aj.map kO).sum):=rfl
 by_cases hf:((s.aB.length+(s.aB.map fun g=>g.aO.size).sum:Nat):Int)<=l
 ·rw[iF hf]at ha
  obtain⟨A,hA⟩:∃A:Int,A=l-((s.aB.length+(s.aB.map fun g=>g.aO.size).sum:Nat):Int):=⟨_,rfl⟩
  rw[<-hA]at ha
  have mC:¬A<0:=by omega
  have hb:=II s.aj A (by omega) (by omega) hs.2
  by_cases hg:((s.aj.length+(s.aj.map kO).sum:Nat):Int)<=A
  ·rw[iF hg]at hb
   obtain⟨B,hB⟩:∃B:Int,B=A-((s.aj.length+(s.aj.map kO).sum:Nat):Int):=⟨_,rfl⟩
   rw[<-hB]at hb
   have L7:¬B<0:=by omega
   (repeat(first|((repeat(revert hN;revert N;apply Pn.out));refine wk (tw @aa.eq_1 (tw @mC @L7)) ?_;(repeat(refine Pn.mk ?_;intro N hN)))|((try apply Or.inl);refine⟨_,aw.x (ha) (sd (tw @aa.eq_1 (tw @mC @L7))),?_⟩;refine hN _ _ ?_;clear hN N)|((try apply Or.inl);refine⟨_,aw.x (hb) (sd (tw @aa.eq_1 (tw @mC @L7))),?_⟩;refine hN _ _ ?_;clear hN N)))
   exact db (b:=B) (.inl rfl) (sd @Nat.zero_add) (by rw[iF (by omega)];omega)
  ·rw[iN hg]at hb
   (repeat(first|((repeat(revert hN;revert N;apply Pn.out));refine wk (tw @aa.eq_1 @mC) ?_;(repeat(refine Pn.mk ?_;intro N hN)))|((try apply Or.inl);refine⟨_,aw.x (ha) (sd (tw @aa.eq_1 @mC)),?_⟩;refine hN _ _ ?_;clear hN N)|((try apply Or.inl);refine⟨_,aw.x (hb) (sd (tw @aa.eq_1 @mC)),?_⟩;refine hN _ _ ?_;clear hN N)))
   exact db (b:=-1) (.inl rfl) (sd @Nat.zero_add) (iN (by omega)).symm
 ·rw[iN hf]at ha
  (repeat(first|((repeat(revert hN;revert N;apply Pn.out));refine wk @aa.eq_1 ?_;(repeat(refine Pn.mk ?_;intro N hN)))|((try apply Or.inl);refine⟨_,aw.x (ha) (sd @aa.eq_1),?_⟩;refine hN _ _ ?_;clear hN N)))
  exact db (b:=-1) (.inl rfl) (sd @Nat.zero_add) (iN (by omega)).symm
theorem sS (a:eB) (l:Int) (h0:0<=l) (h1:l<=1048576):aw Tryz.prog 14 [.agg (bd a),.int .i64 l] (.int .i64 (yy a.aj.length l)):=by
 refine aw.body eK rfl fun hl n0=>?_
 clear hl
 have ha:=FG a.aj l h0 h1
 by_cases hf:(a.aj.length:Int)<=l
 ·rw[iF hf]at ha
  have mC:¬l-(a.aj.length:Int)<0:=by omega
  (repeat(first|((repeat(revert hN;revert N;apply Pn.out));refine wk (tw @bd.eq_1 @mC) ?_;(repeat(refine Pn.mk ?_;intro N hN)))|((try apply Or.inl);refine⟨_,aw.x (ha) (sd (tw @bd.eq_1 @mC)),?_⟩;refine hN _ _ ?_;clear hN N)))
  exact db (b:=l-(a.aj.length:Int)) (.inl rfl) (sd @Nat.zero_add) (iF hf).symm
 ·rw[iN hf]at ha
  (repeat(first|((repeat(revert hN;revert N;apply Pn.out));refine wk @bd.eq_1 ?_;(repeat(refine Pn.mk ?_;intro N hN)))|((try apply Or.inl);refine⟨_,aw.x (ha) (sd @bd.eq_1),?_⟩;refine hN _ _ ?_;clear hN N)))
  exact db (b:=-1) (.inl rfl) (sd @Nat.zero_add) (iN hf).symm
theorem FH (s:aM) (l:Int) (h0:0<=l) (h1:l<=1048576) (hs:gJ s.aC):aw Tryz.prog 13 [.agg (aE s),.int .i64 l] (.int .i64 (yy (xP s) l)):=by
 refine aw.body eK rfl fun hl n0=>?_
 clear hl
 have ha:=Df s.aC l h0 h1 hs
 rw[aa]at ha
 have he:xP s=uP s.aC+s.cC.aj.length:=rfl
 by_cases hf:(uP s.aC:Int)<=l
 ·rw[iF hf]at ha
  have mC:¬l-(uP s.aC:Int)<0:=by omega
  have hb:=sS s.cC (l-uP s.aC) (by omega) (by omega)
  rw[bd]at hb
  by_cases hg:(s.cC.aj.length:Int)<=l-uP s.aC
  ·rw[iF hg]at hb
   have L7:¬l-(uP s.aC:Int)-(s.cC.aj.length:Int)<0:=by omega
   (repeat(first|((repeat(revert hN;revert N;apply Pn.out));refine wk (tw @aE.eq_1 (tw @mC @L7)) ?_;(repeat(refine Pn.mk ?_;intro N hN)))|((try apply Or.inl);refine⟨_,aw.x (ha) (sd (tw @aE.eq_1 (tw @mC @L7))),?_⟩;refine hN _ _ ?_;clear hN N)|((try apply Or.inl);refine⟨_,aw.x (hb) (sd (tw @aE.eq_1 (tw @mC @L7))),?_⟩;refine hN _ _ ?_;clear hN N)))
   exact db (b:=l-(uP s.aC:Int)-(s.cC.aj.length:Int)) (.inl rfl) (sd @Nat.zero_add) (by rw[iF (by omega)];omega)
  ·rw[iN hg]at hb
   (repeat(first|((repeat(revert hN;revert N;apply Pn.out));refine wk (tw @aE.eq_1 @mC) ?_;(repeat(refine Pn.mk ?_;intro N hN)))|((try apply Or.inl);refine⟨_,aw.x (ha) (sd (tw @aE.eq_1 @mC)),?_⟩;refine hN _ _ ?_;clear hN N)|((try apply Or.inl);refine⟨_,aw.x (hb) (sd (tw @aE.eq_1 @mC)),?_⟩;refine hN _ _ ?_;clear hN N)))
   exact db (b:=-1) (.inl rfl) (sd @Nat.zero_add) (iN (by omega)).symm
 ·rw[iN hf]at ha
  (repeat(first|((repeat(revert hN;revert N;apply Pn.out));refine wk @aE.eq_1 ?_;(repeat(refine Pn.mk ?_;intro N hN)))|((try apply Or.inl);refine⟨_,aw.x (ha) (sd @aE.eq_1),?_⟩;refine hN _ _ ?_;clear hN N)))
  exact db (b:=-1) (.inl rfl) (sd @Nat.zero_add) (iN (by omega)).symm
theorem N9 (x:fS) (g:Rows):de g 5 (ck x)=some (ck x):=by simp[ck,aq,au,bt,aH]
theorem Oa (x:fc) (g:Rows):de g 5 (bP x)=some (bP x):=by simp[bP,aq,au,bt,bZ]
theorem Iw (x:ae) (g:Rows):de g 5 (ah x)=some (ah x):=by simp[ah,aq,au,aH]
theorem zA (p:ar):k8 Tryz.prog 109 [.agg (ai p)] (.agg (ai p)):=by
 refine k8.body eK rfl fun hl σ=>?_
 clear hl
 (try((repeat(revert hN;revert N;apply Pn.out));refine wk @ai.eq_1 ?_;(repeat(refine Pn.mk ?_;intro N hN))))
 exact yw (.inl rfl) (vs:=[.agg (ai p)]) (by simp only[go_sem, ↓reduceIte,Nat.reduceEqDiff,Nat.reduceAdd,Nat.reduceSub,Nat.reduceLeDiff,reduceCtorEq,fR,iK,ai]) (by simp[fx,ai,bh,aq,au,aH])
theorem FJ (p:ae):k8 Tryz.prog 149 [.agg (ah p)] (.agg (ah p)):=by
 refine k8.body eK rfl fun hl σ=>?_
 clear hl
 have h:=zA p.bj
 rw[ai]at h
 (repeat(first|((repeat(revert hN;revert N;apply Pn.out));refine wk @ah.eq_1 ?_;(repeat(refine Pn.mk ?_;intro N hN)))|((try apply Or.inl);refine⟨_,k8.x (h) _,?_⟩;refine hN _ _ ?_;clear hN N)))
 exact yw (.inl rfl) (vs:=[.agg (ah p)]) (by simp only[go_sem, ↓reduceIte,Nat.reduceEqDiff,Nat.reduceAdd,Nat.reduceSub,Nat.reduceLeDiff,reduceCtorEq,fR,iK,ah]) (by simp[fx,ah,bh,aq,au,aH])
theorem LH (p:fS):k8 Tryz.prog 197 [.agg (ck p)] (.agg (ck p)):=by
 refine k8.body eK rfl fun hl σ=>?_
 clear hl
 (try((repeat(revert hN;revert N;apply Pn.out));refine wk @ck.eq_1 ?_;(repeat(refine Pn.mk ?_;intro N hN))))
 exact yw (.inl rfl) (vs:=[.agg (ck p)]) (by simp only[go_sem, ↓reduceIte,Nat.reduceEqDiff,Nat.reduceAdd,Nat.reduceSub,Nat.reduceLeDiff,reduceCtorEq,fR,iK,ck]) (by simp[fx,ck,bh,aq,au,aH,bt])
theorem LJ (xs:List Int) (h:xs.length<=1048576):k8 Tryz.prog 17 [.sl (xs.map aQ)] (.sl (xs.map aQ)):=
 UB (show nv Tryz.prog 17=some (LK 17 (.int .i64 0)) by kernel_rfl) xs h
def tb (t:fc):Prop:=t.bU.length<=1048576
theorem LM (p:fc) (hs:tb p):k8 Tryz.prog 198 [.agg (bP p)] (.agg (bP p)):=by
 refine k8.body eK rfl fun hl σ=>?_
 clear hl
 have h:=LJ p.bU hs
 (repeat(first|((repeat(revert hN;revert N;apply Pn.out));refine wk @bP.eq_1 ?_;(repeat(refine Pn.mk ?_;intro N hN)))|((try apply Or.inl);refine⟨_,k8.x (h) _,?_⟩;refine hN _ _ ?_;clear hN N)))
 exact yw (.inl rfl) (vs:=[.agg (bP p)]) (by simp only[go_sem, ↓reduceIte,Nat.reduceEqDiff,Nat.reduceAdd,Nat.reduceSub,Nat.reduceLeDiff,reduceCtorEq,fR,iK,bP]) (by simp[fx,bP,bh,aq,au,bZ,bt])
theorem JR (xs ys:List Int):aw Tryz.prog 20 [.sl (xs.map aQ),.sl (ys.map aQ)] (.bool (decide (xs=ys))):=
 SU (show nv Tryz.prog 20=some (OR 20 .tI) by kernel_rfl) xs ys
theorem JT (a b:fc):aw Tryz.prog 212 [.agg (bP a),.agg (bP b)] (.bool (decide (a=b))):=by
 refine aw.body eK rfl fun hl n0=>?_
 clear hl
 have h:=JR a.bU b.bU
 by_cases h1:a.aO=b.aO
 ·have e1:decide (a.aO=b.aO)=true:=decide_eq_true h1
  by_cases h2:a.bU=b.bU
  ·rw[decide_eq_true h2]at h
   (repeat(first|((repeat(revert hN;revert N;apply Pn.out));refine wk (tw @bP.eq_1 @e1) ?_;(repeat(refine Pn.mk ?_;intro N hN)))|((try apply Or.inl);refine⟨_,aw.x (h) (sd (tw @bP.eq_1 @e1)),?_⟩;refine hN _ _ ?_;clear hN N)))
   exact bp (b:=true) (.inl rfl) (sd @Nat.zero_add) (decide_eq_true (by cases a;cases b;simp_all)).symm
  ·rw[decide_eq_false h2]at h
   (repeat(first|((repeat(revert hN;revert N;apply Pn.out));refine wk (tw @bP.eq_1 @e1) ?_;(repeat(refine Pn.mk ?_;intro N hN)))|((try apply Or.inl);refine⟨_,aw.x (h) (sd (tw @bP.eq_1 @e1)),?_⟩;refine hN _ _ ?_;clear hN N)))
   exact bp (b:=false) (.inl rfl) (sd @Nat.zero_add) (decide_eq_false (by rintro rfl;exact h2 rfl)).symm
 ·have e1:decide (a.aO=b.aO)=false:=decide_eq_false h1
  (try((repeat(revert hN;revert N;apply Pn.out));refine wk (tw @bP.eq_1 @e1) ?_;(repeat(refine Pn.mk ?_;intro N hN))))
  exact bp (b:=false) (.inl rfl) (sd @Nat.zero_add) (decide_eq_false (by rintro rfl;exact h1 rfl)).symm
theorem IP (xs:List fS) (h:xs.length<=1048576):k8 Tryz.prog 129 [.sl (xs.map ck)] (.sl (xs.map ck)):=
 FK (show nv Tryz.prog 129=some (uy 129 197 2 [.str [],.int .i64 0]) by kernel_rfl) rfl (fun _=>rfl) (fun _=>rfl) N9 xs h fun x _=>LH x
theorem IS (xs:List fc) (h:xs.length<=1048576) (hs:∀t∈xs,tb t):k8 Tryz.prog 130 [.sl (xs.map bP)] (.sl (xs.map bP)):=
 FK (show nv Tryz.prog 130=some (uy 130 198 2 [.str [],.cj]) by kernel_rfl) rfl (fun _=>rfl) (fun _=>rfl) Oa xs h fun x hx=>LM x (hs x hx)
theorem Dk (xs:List ae) (h:xs.length<=1048576):k8 Tryz.prog 80 [.sl (xs.map ah)] (.sl (xs.map ah)):=
 FK (show nv Tryz.prog 80=some (uy 80 149 3 [.int .i64 0,.int .i64 0,.int .i64 0]) by kernel_rfl) rfl (fun _=>rfl) (fun _=>rfl) Iw xs h fun x _=>FJ x
structure Jn (s:ax):Prop where
 g:s.aB.length<=1048576
 t:s.aj.length<=1048576
 s:∀t∈s.aj,tb t
structure tU (y:aM):Prop where
 s:Jn y.aC
 a:y.cC.aj.length<=1048576
theorem Dm (p:ax) (hs:Jn p):k8 Tryz.prog 63 [.agg (aa p)] (.agg (aa p)):=by
 refine k8.body eK rfl fun hl σ=>?_
 clear hl
 have h1:=IP p.aB hs.g
 have h2:=IS p.aj hs.t hs.s
 (repeat(first|((repeat(revert hN;revert N;apply Pn.out));refine wk @aa.eq_1 ?_;(repeat(refine Pn.mk ?_;intro N hN)))|((try apply Or.inl);refine⟨_,k8.x (h1) _,?_⟩;refine hN _ _ ?_;clear hN N)|((try apply Or.inl);refine⟨_,k8.x (h2) _,?_⟩;refine hN _ _ ?_;clear hN N)))
 exact yw (.inl rfl) (vs:=[.agg (aa p)]) (by simp only[go_sem, ↓reduceIte,Nat.reduceEqDiff,Nat.reduceAdd,Nat.reduceSub,Nat.reduceLeDiff,reduceCtorEq,fR,iK,aa]) (by simp[fx,aa,bh,aq,au,bZ])
theorem sW (p:eB) (hs:p.aj.length<=1048576):k8 Tryz.prog 18 [.agg (bd p)] (.agg (bd p)):=by
 refine k8.body eK rfl fun hl σ=>?_
 clear hl
 have h1:=Dk p.aj hs
 (repeat(first|((repeat(revert hN;revert N;apply Pn.out));refine wk @bd.eq_1 ?_;(repeat(refine Pn.mk ?_;intro N hN)))|((try apply Or.inl);refine⟨_,k8.x (h1) _,?_⟩;refine hN _ _ ?_;clear hN N)))
 exact yw (.inl rfl) (vs:=[.agg (bd p)]) (by simp only[go_sem, ↓reduceIte,Nat.reduceEqDiff,Nat.reduceAdd,Nat.reduceSub,Nat.reduceLeDiff,reduceCtorEq,fR,iK,bd]) (by simp[fx,bd,bh,aq,au,bZ])
theorem FM (p:aM) (hs:tU p):k8 Tryz.prog 16 [.agg (aE p)] (.agg (aE p)):=by
 refine k8.body eK rfl fun hl σ=>?_
 clear hl
 have h1:=Dm p.aC hs.s
 have h2:=sW p.cC hs.a
 rw[aa]at h1
 rw[bd]at h2
 (repeat(first|((repeat(revert hN;revert N;apply Pn.out));refine wk @aE.eq_1 ?_;(repeat(refine Pn.mk ?_;intro N hN)))|((try apply Or.inl);refine⟨_,k8.x (h1) _,?_⟩;refine hN _ _ ?_;clear hN N)|((try apply Or.inl);refine⟨_,k8.x (h2) _,?_⟩;refine hN _ _ ?_;clear hN N)))
 exact yw (.inl rfl) (vs:=[.agg (aE p)]) (by simp only[go_sem, ↓reduceIte,Nat.reduceEqDiff,Nat.reduceAdd,Nat.reduceSub,Nat.reduceLeDiff,reduceCtorEq,fR,iK,aE]) (by simp[fx,aE,bh,aq,au,bZ,aH])
theorem JQ (a b:fS):aw Tryz.prog 211 [.agg (ck a),.agg (ck b)] (.bool (decide (a=b))):=by
 refine aw.body eK rfl fun hl n0=>?_
 clear hl
 by_cases h1:a.aO=b.aO
 ·have e1:decide (a.aO=b.aO)=true:=decide_eq_true h1
  by_cases h2:a.eI=b.eI
  ·have e2:decide (a.eI=b.eI)=true:=decide_eq_true h2
   (try((repeat(revert hN;revert N;apply Pn.out));refine wk (tw @ck.eq_1 (tw @e1 @e2)) ?_;(repeat(refine Pn.mk ?_;intro N hN))))
   exact bp (b:=true) (.inl rfl) (sd @Nat.zero_add) (decide_eq_true (by cases a;cases b;simp_all)).symm
  ·have e2:decide (a.eI=b.eI)=false:=decide_eq_false h2
   (try((repeat(revert hN;revert N;apply Pn.out));refine wk (tw @ck.eq_1 (tw @e1 @e2)) ?_;(repeat(refine Pn.mk ?_;intro N hN))))
   exact bp (b:=false) (.inl rfl) (sd @Nat.zero_add) (decide_eq_false (by rintro rfl;exact h2 rfl)).symm
 ·have e1:decide (a.aO=b.aO)=false:=decide_eq_false h1
  (try((repeat(revert hN;revert N;apply Pn.out));refine wk (tw @ck.eq_1 @e1) ?_;(repeat(refine Pn.mk ?_;intro N hN))))
  exact bp (b:=false) (.inl rfl) (sd @Nat.zero_add) (decide_eq_false (by rintro rfl;exact h1 rfl)).symm
theorem Hw (a b:ar):aw Tryz.prog 112 [.agg (ai a),.agg (ai b)] (.bool (decide (a=b))):=by
 refine aw.body eK rfl fun hl n0=>?_
 clear hl
 by_cases h1:a.eM=b.eM
 ·have e1:decide (a.eM=b.eM)=true:=decide_eq_true h1
  by_cases h2:a.eG=b.eG
  ·have e2:decide (a.eG=b.eG)=true:=decide_eq_true h2
   (try((repeat(revert hN;revert N;apply Pn.out));refine wk (tw @ai.eq_1 (tw @e1 @e2)) ?_;(repeat(refine Pn.mk ?_;intro N hN))))
   exact bp (b:=true) (.inl rfl) (sd @Nat.zero_add) (decide_eq_true (by cases a;cases b;simp_all)).symm
  ·have e2:decide (a.eG=b.eG)=false:=decide_eq_false h2
   (try((repeat(revert hN;revert N;apply Pn.out));refine wk (tw @ai.eq_1 (tw @e1 @e2)) ?_;(repeat(refine Pn.mk ?_;intro N hN))))
   exact bp (b:=false) (.inl rfl) (sd @Nat.zero_add) (decide_eq_false (by rintro rfl;exact h2 rfl)).symm
 ·have e1:decide (a.eM=b.eM)=false:=decide_eq_false h1
  (try((repeat(revert hN;revert N;apply Pn.out));refine wk (tw @ai.eq_1 @e1) ?_;(repeat(refine Pn.mk ?_;intro N hN))))
  exact bp (b:=false) (.inl rfl) (sd @Nat.zero_add) (decide_eq_false (by rintro rfl;exact h1 rfl)).symm
theorem Ee (a b:ae):aw Tryz.prog 119 [.agg (ah a),.agg (ah b)] (.bool (decide (a=b))):=by
 refine aw.body eK rfl fun hl n0=>?_
 clear hl
 have h:=Hw a.bj b.bj
 rw[ai,ai]at h
 by_cases h1:a.bj=b.bj
 ·rw[decide_eq_true h1]at h
  by_cases h2:a.bQ=b.bQ
  ·have e2:decide (a.bQ=b.bQ)=true:=decide_eq_true h2
   (repeat(first|((repeat(revert hN;revert N;apply Pn.out));refine wk (tw @ah.eq_1 @e2) ?_;(repeat(refine Pn.mk ?_;intro N hN)))|((try apply Or.inl);refine⟨_,aw.x (h) (sd (tw @ah.eq_1 @e2)),?_⟩;refine hN _ _ ?_;clear hN N)))
   exact bp (b:=true) (.inl rfl) (sd @Nat.zero_add) (decide_eq_true (by cases a;cases b;simp_all)).symm
  ·have e2:decide (a.bQ=b.bQ)=false:=decide_eq_false h2
   (repeat(first|((repeat(revert hN;revert N;apply Pn.out));refine wk (tw @ah.eq_1 @e2) ?_;(repeat(refine Pn.mk ?_;intro N hN)))|((try apply Or.inl);refine⟨_,aw.x (h) (sd (tw @ah.eq_1 @e2)),?_⟩;refine hN _ _ ?_;clear hN N)))
   exact bp (b:=false) (.inl rfl) (sd @Nat.zero_add) (decide_eq_false (by rintro rfl;exact h2 rfl)).symm
 ·rw[decide_eq_false h1]at h
  (repeat(first|((repeat(revert hN;revert N;apply Pn.out));refine wk @ah.eq_1 ?_;(repeat(refine Pn.mk ?_;intro N hN)))|((try apply Or.inl);refine⟨_,aw.x (h) (sd @ah.eq_1),?_⟩;refine hN _ _ ?_;clear hN N)))
  exact bp (b:=false) (.inl rfl) (sd @Nat.zero_add) (decide_eq_false (by rintro rfl;exact h1 rfl)).symm
theorem Hv (xs ys:List fS):aw Tryz.prog 136 [.sl (xs.map ck),.sl (ys.map ck)] (.bool (decide (xs=ys))):=
 Ef (show nv Tryz.prog 136=some (Gd 136 211 2) by kernel_rfl) (fun _=>rfl) B8 xs ys JQ
theorem Hx (xs ys:List fc):aw Tryz.prog 137 [.sl (xs.map bP),.sl (ys.map bP)] (.bool (decide (xs=ys))):=
 Ef (show nv Tryz.prog 137=some (Gd 137 212 2) by kernel_rfl) (fun _=>rfl) B9 xs ys JT
theorem oY (xs ys:List ae):aw Tryz.prog 58 [.sl (xs.map ah),.sl (ys.map ah)] (.bool (decide (xs=ys))):=
 Ef (show nv Tryz.prog 58=some (Gd 58 119 3) by kernel_rfl) (fun _=>rfl) Ev xs ys Ee
theorem Eg (a:aM):aw Tryz.prog 21 [.agg (aE a),.agg (aE a)] (.bool true):=by
 have q1:aw Tryz.prog 66 [.agg (aa a.aC),.agg (aa a.aC)] (.bool true):=by
  refine aw.body eK rfl fun hl n0=>?_
  clear hl
  have h1:=Hv a.aC.aB a.aC.aB
  have h2:=Hx a.aC.aj a.aC.aj
  rw[decide_eq_true rfl]at h1 h2
  (repeat(first|((repeat(revert hN;revert N;apply Pn.out));refine wk @aa.eq_1 ?_;(repeat(refine Pn.mk ?_;intro N hN)))|((try apply Or.inl);refine⟨_,aw.x (h1) (sd @aa.eq_1),?_⟩;refine hN _ _ ?_;clear hN N)|((try apply Or.inl);refine⟨_,aw.x (h2) (sd @aa.eq_1),?_⟩;refine hN _ _ ?_;clear hN N)))
  exact bp (b:=true) (.inl rfl) (sd @Nat.zero_add) rfl
 have q2:aw Tryz.prog 22 [.agg (bd a.cC),.agg (bd a.cC)] (.bool true):=by
  refine aw.body eK rfl fun hl n0=>?_
  clear hl
  have h1:=oY a.cC.aj a.cC.aj
  rw[decide_eq_true rfl]at h1
  (repeat(first|((repeat(revert hN;revert N;apply Pn.out));refine wk @bd.eq_1 ?_;(repeat(refine Pn.mk ?_;intro N hN)))|((try apply Or.inl);refine⟨_,aw.x (h1) (sd @bd.eq_1),?_⟩;refine hN _ _ ?_;clear hN N)))
  exact bp (b:=true) (.inl rfl) (sd @Nat.zero_add) rfl
 rw[aa]at q1
 rw[bd]at q2
 refine aw.body eK rfl fun hl n0=>?_
 clear hl
 have e:decide (a.aA=a.aA)=true:=decide_eq_true rfl
 (repeat(first|((repeat(revert hN;revert N;apply Pn.out));refine wk (tw @aE.eq_1 @e) ?_;(repeat(refine Pn.mk ?_;intro N hN)))|((try apply Or.inl);refine⟨_,aw.x (q1) (sd (tw @aE.eq_1 @e)),?_⟩;refine hN _ _ ?_;clear hN N)|((try apply Or.inl);refine⟨_,aw.x (q2) (sd (tw @aE.eq_1 @e)),?_⟩;refine hN _ _ ?_;clear hN N)))
 exact bp (b:=true) (.inl rfl) (sd @Nat.zero_add) rfl
end Go.Proofs.YtgoljkjaameagaaGreat.V

namespace Go.Proofs.YtgoljkjaameagaaGreat.V
open Go.RowKit
def isApp:gK->Bool
 | .append .. =>true
 |_=>false
variable {P:Program} {X:fX} {K:Env->ay->Prop} {env:Env} {σ:ay}
theorem Pt {draw:Bool} {o:bR} {r:List bR} (_:isApp o.op=false) (h:∀N:AV->ay->Prop,(∀v s,wpOps X draw r K (upd env o.dst v) s->N v s)->if aI o.guard env then fw X draw o env σ N else N .undef σ):wpOps X draw (o::r) K env σ:=RD h
end Go.Proofs.YtgoljkjaameagaaGreat.V
