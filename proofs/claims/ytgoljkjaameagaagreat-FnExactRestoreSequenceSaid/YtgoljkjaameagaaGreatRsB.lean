/- One operation, calls among them. -/
import Derived.Test.YtgoljkjaameagaaGreatRsA
import Derived.Orders
import Derived.Conc.LoneCalls
import Derived.WalkKit
import Derived.WalkSpells
import Derived.WalkLawsBesides
import Derived.Lib.Hide
import Derived.Deep.QuietTactic
import Derived.BigQuiet
import Derived.StillTailTactics
import Derived.Deep.RegionWith
import Derived.Deep.RegionHeld3
import Derived.Deep.LoopGhost
import Derived.Deep.CutRange
import Derived.Deep.DeepCutAuto
import Derived.Test.YtgoljkjaameagaaGreatChecked
set_option linter.unusedVariables false
set_option linter.unusedSimpArgs false
set_option maxRecDepth 100000
set_option maxHeartbeats 16000000
namespace Go.Proofs.YtgoljkjaameagaaGreat.V
open Go.RowKit
variable {P:Program} {w w':World} {D D' D2:Nat->Prop} {ι ι' ι2:Names}
def Sound (P:Program):fN:=fun f args σ K=>∀(hs:Nat) (D:Nat->Prop) (ι:Names) (w:World) (vs:Array Value),gD P hs D ι σ.get w->Used ι σ.next (fun _=>False)->fu P w D ι args vs->
 Calls P f vs w fun e w'=>∃r g' n' D' ι' u,e=.returned u/\K r ⟨g',n'⟩/\Step hs D ι w D' ι' w'/\gD P hs D' ι' g' w'/\Used ι' n' (fun _=>False)/\σ.next<=n'/\cL P w' D' ι' r u
section
variable {g:Rows} {hs:Nat} {env:Env} {a:Act} {o:Oper} {id:Id} {v:AV}
theorem gD.ro (S:gD P hs D ι g w):gD P w.heap.size D ι (ro g) w:=by
 refine⟨Nat.le_refl _,S.dead,fun id r h=>?_,fun id kb r r' B B' h h' hw=>?_⟩
 ·unfold V.ro at h
  simp only[Option.map_eq_some_iff]at h
  obtain⟨r0,h0,rfl⟩:=h
  obtain⟨B,hB,R,_,_⟩:=S.row id r0 h0
  exact⟨B,hB,R.flag false,fun h=>by simp at h,fun h=>by simp at h⟩
 ·unfold V.ro at h
  simp only[Option.map_eq_some_iff]at h
  obtain⟨r0,h0,rfl⟩:=h
  simp at hw
theorem Bs {g0:Rows} {f:Nat} {args:List AV} {n:Nat} {K:AV->Prop} {vs:Array Value} (h:PC (Sound P) f args ⟨g0,n⟩ K) (rj:∀id r,g0 id=some r->g id=some r) (S:gD P hs D ι g w) (U:Used ι n (fun _=>False)) (A:fu P w D ι args vs):
  Calls P f vs w fun e w'=>∃r D' u,e=.returned u/\K r/\Step hs D ι w D' ι w'/\gD P hs D' ι g w'/\cL P w' D' ι r u:=by
 refine(h w.heap.size D ι w vs (S.sub rj).ro U A).mono ?_
 rintro e w' ⟨r0,g',n',D1,ι1,u,rfl,⟨r,hr,hK⟩,T,S1,_,_,hR⟩
 have hb:∀b,b<w.heap.size->w'.heap[b]? =w.heap[b]? :=T.below.block
 have hz:=T.below.size
 have q:=se (D2:=fun b=>D b∨(w.heap.size<=b/\b<w'.heap.size)) (ι2:=ι) (fun b hd=>by
  rcases T.new b hd with h|h
  ·exact .inl h
  ·exact .inr ⟨h,S1.dead b hd⟩) (fun id row hg hw=>by
  obtain⟨B,hB,R,h1,_⟩:=S1.row id row hg
  exact⟨B,hB,R,.inr ⟨h1 hw,R.lt⟩⟩) 6 r0 u r hR hr
 refine⟨r,_,u,rfl,hK,?_,?_,q.1⟩
 ·exact Step.stay S hb hz T.below.os T.below.tape T.below.output (fun _ h=>.inl h) (fun b h=>by rcases h with h|h;exact .inl h;exact .inr h.1) (fun _ _ h=>h)
 ·exact S.stay hb hz (fun _ h=>.inl h) (fun b h=>by rcases h with h|h;exact Nat.lt_of_lt_of_le (S.dead b h) hz;exact h.2) (fun b h=>by rcases h with h|h;exact .inl h;exact .inr h.1) (fun _ _ h=>h)
theorem yJ {g0:Rows} {f:Nat} {args:List AV} {n:Nat} {K:AV->Prop} {vs:Array Value} (h:PCv (Sound P) f args ⟨g0,n⟩ K) (rj:∀id r,g0 id=some r->g id=some r) (S:gD P hs D ι g w) (U:Used ι n (fun _=>False)) (A:fu P w D ι args vs):
  Calls P f vs w fun e w'=>∃r D' u,e=.returned u/\K r/\Step hs D ι w D' ι w'/\gD P hs D' ι g w'/\cL P w' D' ι r u:=by
 obtain⟨eH,ha,h⟩:=h
 let D1:Nat->Prop:=fun b=>D b∨∃id r B,g id=some r/\ι id=some B/\b=B.b
 have lt:∀id r B,g id=some r->ι id=some B->B.b<w.heap.size:=fun id r B h1 h2=>by
  obtain⟨B',dD,R,_⟩:=S.row id r h1
  rw[h2]at dD;injection dD with dD;subst dD
  exact R.lt
 have S0:gD P w.heap.size D1 ι (fun _=>none) w:=⟨Nat.le_refl _,fun b hb=>by
  rcases hb with hb|⟨id,r,B,h1,h2,rfl⟩
  ·exact S.dead b hb
  ·exact lt id r B h1 h2,fun id r h=>(by cases h),fun id kb r r' B B' h=>(by cases h)⟩
 obtain⟨l1,l2⟩:=gK ha
 have A':fu P w D1 ι eH vs:=⟨by rw[A.1,l1],fun j a hj=>by
  obtain⟨a0,lE,hf⟩:=l2 j a hj
  obtain⟨u,hu,hr⟩:=A.2 j a0 lE
  refine⟨u,hu,(se (D2:=D1) (ι2:=ι) (fun b h=>.inl h) (fun id row hg hw=>?_) 6 a0 u a hr hf).1⟩
  unfold dP at hg
  simp only[Option.map_eq_some_iff]at hg
  obtain⟨r,oK,rfl⟩:=hg
  obtain⟨B,hB,R,_,_⟩:=S.row id r (rj id r oK)
  exact⟨B,hB,R.flag true,.inr ⟨id,r,B,rj id r oK,hB,rfl⟩⟩⟩
 refine(h w.heap.size D1 ι w vs S0 U A').mono ?_
 rintro e w' ⟨r0,g',n',D2,ι1,u,rfl,⟨r,hr,hK⟩,T,S1,_,_,hR⟩
 have hb:∀b,b<w.heap.size->w'.heap[b]? =w.heap[b]? :=T.below.block
 have hz:=T.below.size
 have q:=GG (D2:=fun b=>D b∨(w.heap.size<=b/\b<w'.heap.size)) (ι2:=ι) (fun id row hg hw=>by
  obtain⟨B,hB,R,h1,_⟩:=S1.row id row hg
  exact⟨B,hB,R,.inr ⟨h1 hw,R.lt⟩⟩) 6 r0 u r hR hr
 refine⟨r,_,u,rfl,hK,?_,?_,q.1⟩
 ·exact Step.stay S hb hz T.below.os T.below.tape T.below.output (fun _ h=>.inl h) (fun b h=>by rcases h with h|h;exact .inl h;exact .inr h.1) (fun _ _ h=>h)
 ·exact S.stay hb hz (fun _ h=>.inl h) (fun b h=>by rcases h with h|h;exact Nat.lt_of_lt_of_le (S.dead b h) hz;exact h.2) (fun b h=>by rcases h with h|h;exact .inl h;exact .inr h.1) (fun _ _ h=>h)
theorem Gh {g0:Rows} {f:Nat} {args:List AV} {n:Nat} {K:AV->Prop} {vs:Array Value} (h:gC (Sound P) f args ⟨g0,n⟩ K) (rj:∀id r,g0 id=some r->g id=some r) (S:gD P hs D ι g w) (U:Used ι n (fun _=>False)) (A:fu P w D ι args vs):
  Calls P f vs w fun e w'=>∃r D' u,e=.returned u/\K r/\Step hs D ι w D' ι w'/\gD P hs D' ι g w'/\cL P w' D' ι r u:=by
 rcases h with h|h
 ·exact Bs h rj S U A
 ·exact yJ h rj S U A
theorem Hp {D1 D2:Nat->Prop} {ι1 ι2:Names} {w1:World} {a:AV} {v:Value} (hp:a.plain=true) (h:cL P w D1 ι1 a v):cL P w1 D2 ι2 a v:=by
 cases h with
 |eP a v h=>cases h<;>first|(simp[AV.plain]at hp;done)|exact .eP _ _ (by constructor)
 |_=>simp[AV.plain]at hp
theorem gD.add {r:Row} {B:s9} (S:gD P hs D ι g w) (S':gD P hs D ι g w') (hf:ι id=none) (kD:w.heap.size<=B.b) (R:gR P w' D (kT ι id B) B r):gD P hs D (kT ι id B) (bt g id r) w':=by
 have lt:∀kb r' B',g kb=some r'->ι kb=some B'->B'.b<w.heap.size:=fun kb r' B' h1 h2=>by
  obtain⟨B2,qp,R2,_⟩:=S.row kb r' h1
  rw[h2]at qp;injection qp with qp;subst qp
  exact R2.lt
 have ne:∀kb r',g kb=some r'->kb≠id:=fun kb r' h he=>by
  subst he
  obtain⟨B2,qp,_⟩:=S.row _ r' h
  rw[hf]at qp;cases qp
 refine⟨S'.lo,S'.dead,fun kb r' h=>?_,fun R5 id2 r1 r2 B1 B2 h1 h2 hw Bk qp hb=>?_⟩
 ·unfold bt at h
  split at h
  ·rename_i he
   subst he
   injection h with h;subst h
   exact⟨B,eb _ _ _,R,fun _=>Nat.le_trans S.lo kD,fun _ hd=>Nat.lt_irrefl _ (Nat.lt_of_lt_of_le (S.dead _ hd) kD)⟩
  ·obtain⟨B',dD,R',k1,k2⟩:=S'.row kb r' h
   exact⟨B',by rw[gr (ne _ _ h)];exact dD,R'.frame rfl (fun a v hr=>hr.frame (fun _ _=>rfl) (fun _ h=>h) (fe hf)),k1,k2⟩
 ·unfold bt at h1 h2
  split at h1
  ·rename_i e1
   split at h2
   ·rename_i e2;rw[e1,e2]
   ·exfalso
    subst e1
    rw[eb]at Bk;injection Bk with Bk;subst Bk
    rw[gr (ne _ _ h2)]at qp
    have:=lt _ _ _ h2 qp
    omega
  ·rw[gr (ne _ _ h1)]at Bk
   split at h2
   ·rename_i e2
    exfalso
    subst e2
    rw[eb]at qp;injection qp with qp;subst qp
    have:=lt _ _ _ h1 Bk
    omega
   ·rw[gr (ne _ _ h2)]at qp
    exact S'.inj R5 id2 r1 r2 B1 B2 h1 h2 hw Bk qp hb
theorem H8 {g0:Rows} {f:Nat} {args:List AV} {n sz:Nat} {rows:List (List AV)} {vs:Array Value} (h:CM (Sound P) f args ⟨g0,n⟩ sz rows) (rj:∀id r,g0 id=some r->g id=some r) (S:gD P hs D ι g w) (U:Used ι n (fun _=>False)) (A:fu P w D ι args vs) (hf:ι id=none):
  Calls P f vs w fun e w'=>∃u B,e=.returned u/\Step hs D ι w D (kT ι id B) w'/\gD P hs D (kT ι id B) (bt g id ⟨true,sz,rows⟩) w'/\cL P w' D (kT ι id B) (.own id 0 rows.length) u:=by
 obtain⟨mD,eH,ha,h⟩:=h
 let D1:Nat->Prop:=fun b=>D b∨∃id r B,g id=some r/\ι id=some B/\b=B.b
 have lt:∀id r B,g id=some r->ι id=some B->B.b<w.heap.size:=fun id r B h1 h2=>by
  obtain⟨B',dD,R,_⟩:=S.row id r h1
  rw[h2]at dD;injection dD with dD;subst dD
  exact R.lt
 have S0:gD P w.heap.size D1 ι (fun _=>none) w:=⟨Nat.le_refl _,fun b hb=>by
  rcases hb with hb|⟨id,r,B,h1,h2,rfl⟩
  ·exact S.dead b hb
  ·exact lt id r B h1 h2,fun id r h=>(by cases h),fun id kb r r' B B' h=>(by cases h)⟩
 obtain⟨l1,l2⟩:=gK ha
 have A':fu P w D1 ι eH vs:=⟨by rw[A.1,l1],fun j a hj=>by
  obtain⟨a0,lE,hz⟩:=l2 j a hj
  obtain⟨u,hu,hr⟩:=A.2 j a0 lE
  refine⟨u,hu,(se (D2:=D1) (ι2:=ι) (fun b h=>.inl h) (fun id row hg hw=>?_) 6 a0 u a hr hz).1⟩
  unfold dP at hg
  simp only[Option.map_eq_some_iff]at hg
  obtain⟨r,oK,rfl⟩:=hg
  obtain⟨B,hB,R,_,_⟩:=S.row id r (rj id r oK)
  exact⟨B,hB,R.flag true,.inr ⟨id,r,B,rj id r oK,hB,rfl⟩⟩⟩
 refine(h w.heap.size D1 ι w vs S0 U A').mono ?_
 rintro e w' ⟨r0,g',n',D2,ι1,u,rfl,⟨i0,hr,hg⟩,T,S1,_,_,hR⟩
 subst hr
 have hb:∀b,b<w.heap.size->w'.heap[b]? =w.heap[b]? :=T.below.block
 have hz:=T.below.size
 obtain⟨B,hB,R,k1,_⟩:=S1.row i0 _ hg
 have kD:w.heap.size<=B.b:=k1 rfl
 obtain⟨o,cap,B',rfl,dD,q2,q3,q4,q5,hk⟩:=jb hR
 rw[hB]at dD;injection dD with dD;subst dD
 replace R:=R.row hk
 have S':gD P hs D ι g w':=S.stay hb hz (fun _ h=>h) (fun b h=>Nat.lt_of_lt_of_le (S.dead b h) hz) (fun b h=>.inl h) (fun _ _ h=>h)
 have R':lR P w' D (kT ι id B) B ⟨true,sz,rows⟩:=⟨R.sz,R.ye,R.fits,R.len,R.flat,fun i j cs a hi hj=>by
  obtain⟨v,h1,h2⟩:=R.at_ i j cs a hi hj
  exact⟨v,h1,Hp (mD cs (List.mem_of_getElem? hi) a (List.mem_of_getElem? hj)) h2⟩⟩
 exact⟨_,B,rfl,Step.stay S hb hz T.below.os T.below.tape T.below.output (fun _ h=>h) (fun _ h=>.inl h) (fe hf),S.add S' hf kD (R'.obj hk),.own id 0 _ _ _ B (eb _ _ _) hk q2 q3 q4 q5⟩
theorem jD {f:Nat} {args:Array Value} (hc:fP P f=true):(callFunc f args).run P w=.ok (.enter f args) w:=by
 unfold fP at hc
 split at hc
 ·rename_i fn hf
  simp only[Bool.and_eq_true,Bool.not_eq_true']at hc
  have hb:fn.body.isNone=false:=by cases hq:fn.body<;>simp_all
  simp only[callFunc,Sem.run_bind,run_program,Result.andThen_ok,hf,hc.2,Bool.false_eq_true,if_false,hb]
  rfl
 ·simp at hc
theorem Cp {f:Nat} {args:List O} (hc:rM P o.op=some (.call f args)):∃c,o.op=.call c/\c.callee=.value (.func f)/\fP P f=true/\c.args.toList.mapM (cO P)=some args:=by
 unfold rM at hc
 split at hc
 case h_23=>
  rename_i c ho
  refine⟨c,ho,?_⟩
  unfold nV at hc
  split at hc
  all_goals (try(repeat' (split at hc))<;>(simp only[Option.bind_eq_bind,Option.bind_eq_some_iff,Option.pure_def,Option.some.injEq,Option.map_eq_some_iff,reduceCtorEq,and_false,exists_false]at hc))
  all_goals simp_all
 all_goals (try unfold wq at hc)<;>(try unfold tk at hc)<;>(repeat' (split at hc))<;>(simp only[Option.bind_eq_bind,Option.bind_eq_some_iff,Option.pure_def,Option.some.injEq,Option.map_eq_some_iff,reduceCtorEq,and_false,exists_false]at hc)
theorem tL {x:O} {args:List O} (hc:rM P o.op=some (.uo x args)):∃c t,o.op=.call c/\c.callee=.value (.tmp t)/\x=.t t/\c.args.toList.mapM (cO P)=some args:=by
 unfold rM at hc
 split at hc
 case h_23=>
  rename_i c ho
  refine⟨c,?_⟩
  unfold nV at hc
  split at hc
  all_goals (try(repeat' (split at hc))<;>(simp only[Option.bind_eq_bind,Option.bind_eq_some_iff,Option.pure_def,Option.some.injEq,Option.map_eq_some_iff,reduceCtorEq,and_false,exists_false]at hc))
  all_goals simp_all
 all_goals (try unfold wq at hc)<;>(try unfold tk at hc)<;>(repeat' (split at hc))<;>(simp only[Option.bind_eq_bind,Option.bind_eq_some_iff,Option.pure_def,Option.some.injEq,Option.map_eq_some_iff,reduceCtorEq,and_false,exists_false]at hc)
theorem G1 {n:Nat} {x y:O} (hc:rM P o.op=some (.store n x y)):∃t x' y',o.op=.store t x' y'/\ec P t=some n/\cO P x'=some x/\cO P y'=some y:=by
 unfold rM at hc
 split at hc
 case h_7=>
  rename_i t x' y' ho
  refine⟨t,x',y',ho,?_⟩
  simp only[Option.bind_eq_bind,Option.bind_eq_some_iff,Option.pure_def,Option.some.injEq]at hc
  obtain⟨n',h1,x2,h2,y2,h3,he⟩:=hc
  injection he with e1 e2 e3
  subst e1;subst e2;subst e3
  exact⟨h1,h2,h3⟩
 all_goals (try unfold wq at hc)<;>(try unfold tk at hc)<;>(try unfold nV at hc)<;>(repeat' (split at hc))<;>(simp only[Option.bind_eq_bind,Option.bind_eq_some_iff,Option.pure_def,Option.some.injEq,Option.map_eq_some_iff,reduceCtorEq,and_false,exists_false]at hc)
theorem Ei {n:Nat} {x y:O} (hc:rM P o.op=some (.append n x y)):∃(t e:TypeId) (m:Nat) (z:List K) (i:TypeInfo) (x' y':Operand),n=m+1/\o.op=.call {callee:=.builtin .append,args:= #[x',y'],argTypes:= #[t,t]}/\
  P.underlying t=some (.slice e)/\ec P e=some (m+1)/\jO P e=some z/\P.info? e=some i/\i.bytes<=32768/\cO P x'=some x/\cO P y'=some y:=by
 unfold rM at hc
 split at hc
 case h_23=>
  rename_i c ho
  unfold nV at hc
  split at hc
  case h_2=>
   rename_i kN
   split at hc
   ·rename_i x' y' t u h1 h2
    split at hc
    ·rename_i e ht
     split at hc
     ·rename_i m z i e1 e2 e3
      split at hc
      ·rename_i hb
       simp only[Option.bind_eq_bind,Option.bind_eq_some_iff,Option.pure_def,Option.some.injEq]at hc
       obtain⟨x2,h3,y2,h4,he⟩:=hc
       injection he with k1 k2 k3
       subst k1;subst k2;subst k3
       obtain⟨K5,rfl⟩:=hb
       refine⟨t,e,m,z,i,x',y',rfl,?_,ht,e1,e2,e3,K5,h3,h4⟩
       rw[ho]
       obtain⟨ca,cb,cc⟩:=c
       simp only at h1 h2 kN
       subst kN
       congr
       ·exact Array.ext' h1
       ·exact Array.ext' h2
      ·simp at hc
     ·simp at hc
    ·simp at hc
   ·simp at hc
  all_goals (repeat' (split at hc))<;>(simp only[Option.bind_eq_bind,Option.bind_eq_some_iff,Option.pure_def,Option.some.injEq,Option.map_eq_some_iff,reduceCtorEq,and_false,exists_false]at hc)
 all_goals (try unfold wq at hc)<;>(try unfold tk at hc)<;>(repeat' (split at hc))<;>(simp only[Option.bind_eq_bind,Option.bind_eq_some_iff,Option.pure_def,Option.some.injEq,Option.map_eq_some_iff,reduceCtorEq,and_false,exists_false]at hc)
theorem JE {n:Nat} {x y:O} (hc:rM P o.op=some (.copy n x y)):∃(t t2 e:TypeId) (m:Nat) (x' y':Operand),n=m+1/\o.op=.call {callee:=.builtin .copy,args:= #[x',y'],argTypes:= #[t,t2]}/\
  P.underlying t=some (.slice e)/\ec P e=some (m+1)/\cO P x'=some x/\cO P y'=some y:=by
 unfold rM at hc
 split at hc
 case h_23=>
  rename_i c ho
  unfold nV at hc
  split at hc
  case h_7=>
   rename_i kN
   split at hc
   ·rename_i x' y' t t2 h1 h2
    split at hc
    ·rename_i e ht
     split at hc
     ·rename_i m e1
      simp only[Option.bind_eq_bind,Option.bind_eq_some_iff,Option.pure_def,Option.some.injEq,gG.copy.injEq]at hc
      obtain⟨x2,h3,y2,h4,k0,k1,k2⟩:=hc
      subst k1;subst k2
      refine⟨t,t2,e,m,x',y',k0.symm,?_,ht,e1,h3,h4⟩
      rw[ho]
      obtain⟨ca,cb,cc⟩:=c
      simp only at h1 h2 kN
      subst kN
      congr
      ·exact Array.ext' h1
      ·exact Array.ext' h2
     ·simp at hc
    ·simp at hc
   ·simp at hc
  all_goals (repeat' (split at hc))<;>(simp only[Option.bind_eq_bind,Option.bind_eq_some_iff,Option.pure_def,Option.some.injEq,Option.map_eq_some_iff,reduceCtorEq,and_false,exists_false]at hc)
 all_goals (try unfold wq at hc)<;>(try unfold tk at hc)<;>(repeat' (split at hc))<;>(simp only[Option.bind_eq_bind,Option.bind_eq_some_iff,Option.pure_def,Option.some.injEq,Option.map_eq_some_iff,reduceCtorEq,and_false,exists_false]at hc)
theorem G0 {z:List K} {x:O} (hc:rM P o.op=some (.clear z x)):∃(t e:TypeId) (m:Nat) (x':Operand),o.op=.call {callee:=.builtin .clear,args:= #[x'],argTypes:= #[t]}/\
  P.underlying t=some (.slice e)/\ec P e=some (m+1)/\jO P e=some z/\cO P x'=some x:=by
 unfold rM at hc
 split at hc
 case h_23=>
  rename_i c ho
  unfold nV at hc
  split at hc
  case h_3=>
   rename_i kN
   split at hc
   ·rename_i x' t h1 h2
    split at hc
    ·rename_i e ht
     split at hc
     ·rename_i m z' e1 e2
      simp only[Option.map_eq_some_iff]at hc
      obtain⟨x2,h3,he⟩:=hc
      injection he with k1 k2
      subst k1;subst k2
      refine⟨t,e,m,x',?_,ht,e1,e2,h3⟩
      rw[ho]
      obtain⟨ca,cb,cc⟩:=c
      simp only at h1 h2 kN
      subst kN
      congr
      ·exact Array.ext' h1
      ·exact Array.ext' h2
     ·simp at hc
    ·simp at hc
   ·simp at hc
  all_goals (repeat' (split at hc))<;>(simp only[Option.bind_eq_bind,Option.bind_eq_some_iff,Option.pure_def,Option.some.injEq,Option.map_eq_some_iff,reduceCtorEq,and_false,exists_false]at hc)
 all_goals (try unfold wq at hc)<;>(try unfold tk at hc)<;>(repeat' (split at hc))<;>(simp only[Option.bind_eq_bind,Option.bind_eq_some_iff,Option.pure_def,Option.some.injEq,Option.map_eq_some_iff,reduceCtorEq,and_false,exists_false]at hc)
theorem Ph {q:MW} {xs:List O} (hc:rM P o.op=some (.mw q xs)):
  (∃t x k y m z x' k' y',(o.op=.mapUpdate t x k y∨o.op=.insert t x k y)/\tn P t=some (m,z)/\cO P x=some x'/\cO P k=some k'/\cO P y=some y'/\q=.set m/\xs=[x',k',y'])∨
  (∃t t' x k m z x' k',o.op=.call {callee:=.builtin .delete,args:= #[x,k],argTypes:= #[t,t']}/\tn P t=some (m,z)/\cO P x=some x'/\cO P k=some k'/\q=.del m/\xs=[x',k']):=by
 unfold rM at hc
 split at hc
 case h_23=>
  rename_i c ho
  right
  unfold nV at hc
  split at hc
  case h_6=>
   rename_i kN
   split at hc
   ·rename_i x k t t' h1 h2
    split at hc
    ·rename_i m z x' k' e1 e2 e3
     injection hc with hc
     injection hc with q1 q2
     refine⟨t,t',x,k,m,z,x',k',?_,e1,e2,e3,q1.symm,q2.symm⟩
     rw[ho]
     obtain⟨ca,cb,cc⟩:=c
     simp only at h1 h2 kN
     subst kN
     congr
     ·exact Array.ext' h1
     ·exact Array.ext' h2
    ·cases hc
   ·cases hc
  all_goals (repeat' (split at hc))<;>(simp only[Option.bind_eq_bind,Option.bind_eq_some_iff,Option.pure_def,Option.some.injEq,Option.map_eq_some_iff,reduceCtorEq,and_false,exists_false]at hc)
 case h_29=>
  rename_i t x k y ho
  left
  split at hc
  ·rename_i m z x' k' y' e1 e2 e3 e4
   injection hc with hc
   injection hc with q1 q2
   exact⟨t,x,k,y,m,z,x',k',y',.inl ho,e1,e2,e3,e4,q1.symm,q2.symm⟩
  ·cases hc
 case h_30=>
  rename_i t x k y ho
  left
  split at hc
  ·rename_i m z x' k' y' e1 e2 e3 e4
   injection hc with hc
   injection hc with q1 q2
   exact⟨t,x,k,y,m,z,x',k',y',.inr ho,e1,e2,e3,e4,q1.symm,q2.symm⟩
  ·cases hc
 all_goals (try unfold wq at hc)<;>(try unfold tk at hc)<;>(repeat' (split at hc))<;>(simp only[Option.bind_eq_bind,Option.bind_eq_some_iff,Option.pure_def,Option.some.injEq,Option.map_eq_some_iff,reduceCtorEq,and_false,exists_false]at hc)
def jq (g:Rows) (id:Id):Option Row->Rows
 |some r=>bt g id r
 |none=>g
def wz (X:fN) (hid:List Nat) (site n:Nat) (f:Nat) (args:List AV) (g:Rows) (v:AV) (g':Rows):Prop:=
 (gC X f args ⟨fZ hid n g,n+1⟩ (fun r=>r=v)/\g'=g)∨
 (hid.contains site=true/\∃sz rows,CM X f args ⟨fZ hid n g,n+1⟩ sz rows/\v=.own ⟨site,n⟩ 0 rows.length/\g'=bt g ⟨site,n⟩ ⟨true,sz,rows⟩)
def VS (X:fN) (n:Nat) (vo:bj) (env:Env) (g:Rows) (v:AV) (g':Rows):Prop:=
 match vo.op with
 | .call f args=>wz X vo.hid vo.site n f (args.map (cU env)) g v g'
 | .uo x args=>∃f l,wu (cU env x) (args.map (cU env))=some (f,l)/\wz X vo.hid vo.site n f l g v g'
 | .store .. | .append .. | .copy .. | .clear .. | .mw .. =>ga vo.op (cU env) g ⟨vo.site,n⟩=some (v,g')
 |_=>∃mr,eS vo.op (cU env) (fZ vo.hid n g) ⟨vo.site,n⟩=some (v,mr)/\g'=jq g ⟨vo.site,n⟩ mr
def M6 (P:Program) (hs:Nat) (D:Nat->Prop) (ι:Names) (w:World) (U:Nat->Prop) (site n:Nat) (a:Act) (dst:Option Tmp) (v:AV) (g':Rows) (a':Act) (w':World):Prop:=
 ∃u D' ι',a'=a.put dst u/\Step hs D ι w D' ι' w'/\gD P hs D' ι' g' w'/\cL P w' D' ι' v u/\Used ι' n (fun s=>U s∨s=site)
theorem fresh {n:Nat} {U:Nat->Prop} {s:Nat} (h:Used ι n U) (hU:¬U s):ι ⟨s,n⟩=none:=by
 cases hq:ι ⟨s,n⟩with
 |none=>rfl
 |some B=>
  rcases h ⟨s,n⟩ (by rw[hq];simp)with h|⟨_,h⟩
  ·exact absurd h (Nat.lt_irrefl _)
  ·exact absurd h hU
theorem Used.more {n:Nat} {U U':Nat->Prop} (h:Used ι n U) (hU:∀s,U s->U' s):Used ι n U':=fun id hid=>by
 rcases h id hid with h|⟨h1,h2⟩
 ·exact .inl h
 ·exact .inr ⟨h1,hU _ h2⟩
theorem Used.next {n:Nat} {U:Nat->Prop} (h:Used ι n U):Used ι (n+1) (fun _=>False):=fun id hid=>by
 rcases h id hid with h|⟨h1,_⟩
 ·exact .inl (Nat.lt_succ_of_lt h)
 ·exact .inl (by omega)
theorem Used.upd {n:Nat} {U:Nat->Prop} {s:Nat} {B:s9} (h:Used ι n U):Used (kT ι ⟨s,n⟩ B) n (fun x=>U x∨x=s):=fun id hid=>by
 by_cases he:id=⟨s,n⟩
 ·subst he;exact .inr ⟨rfl,.inr rfl⟩
 ·rw[gr he]at hid
  exact(h.more (U':=fun x=>U x∨x=s) fun _ h=>Or.inl h) id hid
theorem o8 {xs:Array Operand} {ys:List O} (E:cu P w D ι env a) (h:xs.toList.mapM (cO P)=some ys):fu P w D ι (ys.map (cU env)) (xs.map a.eval):=by
 obtain⟨h1,h2⟩:=EF E h
 refine⟨by simpa using h1,fun j b hj=>?_⟩
 simp only[List.getElem?_map,Option.map_eq_some_iff]at hj
 obtain⟨y,hy,rfl⟩:=hj
 have dY:j<xs.size:=by have:=(List.getElem?_eq_some_iff.1 hy).1;simp at h1;omega
 refine⟨a.eval xs[j],by simp[dY],?_⟩
 have:=h2 j y hy
 simpa[List.getD_eq_getElem?_getD,dY]using this
theorem pI {xs ys:List AV} {vs us:Array Value} (h:fu P w D ι xs vs) (k:fu P w D ι ys us):fu P w D ι (xs++ys) (vs++us):=
 ⟨by simp[h.1,k.1],fun j b hj=>by
  by_cases dY:j<xs.length
  ·rw[List.getElem?_append_left dY]at hj
   obtain⟨u,hu,yu⟩:=h.2 j b hj
   exact⟨u,by rw[Array.getElem?_append_left (by rw[h.1];exact dY)];exact hu,yu⟩
  ·rw[List.getElem?_append_right (by omega)]at hj
   obtain⟨u,hu,yu⟩:=k.2 _ b hj
   exact⟨u,by rw[Array.getElem?_append_right (by rw[h.1];omega),h.1];exact hu,yu⟩⟩
theorem xt:fu P w D ι [] #[]:=⟨rfl,fun j b hj=>by simp at hj⟩
theorem wC {x:AV} {l l':List AV} {f:Nat} {vs:Array Value} {v:Value} (h:wu x l=some (f,l')) (hr:cL P w D ι x v) (hA:fu P w D ι l vs):
  ∃first cQ,v=.func (.func f) first cQ/\fP P f=true/\fu P w D ι l' (first++vs++cQ):=by
 unfold wu at h
 split at h
 ·simp only[Option.some.injEq,Prod.mk.injEq]at h
  obtain⟨rfl,rfl⟩:=h
  obtain⟨us,q,he,FH,n1,q1,q2⟩:=AJ hr
  refine⟨#[],us,he,FH,?_⟩
  rw[Array.empty_append]
  exact pI hA ⟨n1,fun j b hj=>⟨q j,q1 j (List.getElem?_eq_some_iff.1 hj).1,q2 j b hj⟩⟩
 ·simp only[Option.some.injEq,Prod.mk.injEq]at h
  obtain⟨rfl,rfl⟩:=h
  obtain⟨us,q,he,FH,n1,q1,q2⟩:=MJ hr
  refine⟨us, #[],he,FH,?_⟩
  rw[Array.append_empty]
  exact pI ⟨n1,fun j b hj=>⟨q j,q1 j (List.getElem?_eq_some_iff.1 hj).1,q2 j b hj⟩⟩ hA
 ·cases h
theorem Bz {n:Nat} {vo:bj} {g':Rows} {U:Nat->Prop} {Q:Exit->Act->World->Prop} {K:Act->World->Prop} (hc:rM P o.op=some vo.op) (hv:VS (Sound P) n vo env g v g') (S:gD P hs D ι g w) (Us:Used ι n U) (hU:¬U vo.site) (E:cu P w D ι env a)
  (hK:∀a' w',M6 P hs D ι w U vo.site n a o.dst v g' a' w'->K a' w'):o.wp P a w K Q:=by
 have hf:=fresh Us hU
 have BI:∀(f:Nat) (args:List AV) (vs:Array Value),wz (Sound P) vo.hid vo.site n f args g v g'->fu P w D ι args vs->(execOp a.eval o).run P w=.ok (.enter f vs) w->o.wp P a w K Q:=by
  intro f args vs hP hA gm
  unfold Oper.wp
  rw[gm]
  rcases hP with⟨hP,rfl⟩|⟨_,sz,rows,hM,rfl,rfl⟩
  ·refine(Gh hP A8 S Us.next hA).mono ?_
   rintro e w' ⟨r,D',u,rfl,rfl,T,S',hR⟩
   exact hK _ _ ⟨u,D',ι,rfl,T,S',hR,Us.more fun _ h=>.inl h⟩
  ·refine(H8 hM A8 S Us.next hA hf).mono ?_
   rintro e w' ⟨u,B,rfl,T,S',hR⟩
   exact hK _ _ ⟨u,D,_,rfl,T,S',hR,Us.upd⟩
 have quiet:∀(mr:Option Row),eS vo.op (cU env) (fZ vo.hid n g) ⟨vo.site,n⟩=some (v,mr)->g'=jq g ⟨vo.site,n⟩ mr->o.wp P a w K Q:=by
  intro mr hq hg
  have hqs:=zD hc hq (S.sub A8) E
  unfold Oper.wp
  cases mr with
  |none=>
   obtain⟨u,gm,hR⟩:=hqs
   rw[gm]
   subst hg
   exact hK _ _ ⟨u,D,ι,rfl,Step.refl _ _ _ _,S,hR,Us.more fun _ h=>.inl h⟩
  |some r=>
   rcases hqs with⟨u,cells,T,gm,h1,h2,h3,h4,h5,h6⟩|⟨m,gm,Jw,Ea⟩|⟨c,gm,Jw,Ea⟩
   case inr.inr=>
    rw[gm]
    subst hg Jw Ea
    have fw:w.heap.size<(w.alloc (.chan c #[] false 0 0 false)).heap.size:=by simp
    have S':=S.stay (w':=w.alloc (.chan c #[] false 0 0 false)) (D':=D) (ι':=ι) (fun k hk=>Below.heap_alloc _ _ _ hk) (by simp) (fun _ h=>h) (fun b hd=>Nat.lt_trans (S.dead b hd) fw) (fun _ h=>.inl h) (fun _ _ h=>h)
    have S1:=S.add S' (id:=⟨vo.site,n⟩) (B:=⟨w.heap.size,qT+c,0,some (.chan c)⟩) (r:=⟨true,qT+c,[]⟩) hf (Nat.le_refl _) ⟨rfl,fun cs h=>by simp at h,fun h=>by simp at h,fun m' h=>(by simp at h),fun c' h=>by
     simp only[Option.some.injEq,BK.chan.injEq]at h;subst h
     exact⟨rfl, #[],0,0,(show(w.heap.push (Obj.chan c #[] false 0 0 false))[w.heap.size]? =some (Obj.chan c #[] false 0 0 false) by simp),rfl,fun i cs h=>by simp at h⟩⟩
    exact hK _ _ ⟨_,D,_,rfl,Step.stay S (fun k hk=>Below.heap_alloc _ _ _ hk) (by simp) rfl rfl rfl (fun _ h=>h) (fun _ h=>.inl h) (fe hf),S1,.r7 _ _ _ (eb _ _ _) rfl,Us.upd⟩
   case inr.inl=>
    rw[gm]
    subst hg Jw Ea
    have fw:w.heap.size<(w.alloc (.map #[] 0)).heap.size:=by simp
    have S':=S.stay (w':=w.alloc (.map #[] 0)) (D':=D) (ι':=ι) (fun k hk=>Below.heap_alloc _ _ _ hk) (by simp) (fun _ h=>h) (fun b hd=>Nat.lt_trans (S.dead b hd) fw) (fun _ h=>.inl h) (fun _ _ h=>h)
    have S1:=S.add S' (id:=⟨vo.site,n⟩) (B:=⟨w.heap.size,m.qd,0,some (.map m)⟩) (r:=⟨true,m.qd,[]⟩) hf (Nat.le_refl _) ⟨rfl,fun cs h=>by simp at h,fun h=>by simp at h,fun m' h=>by
     simp only[Option.some.injEq,BK.map.injEq]at h;subst h
     exact⟨rfl, #[],0,(show(w.heap.push (Obj.map #[] 0))[w.heap.size]? =some (Obj.map #[] 0) by simp),rfl,⟨fun cs h=>by simp at h,fun x h=>by simp at h,by simp⟩,fun i cs h=>by simp at h⟩,fun c h=>by simp at h⟩
    exact hK _ _ ⟨_,D,_,rfl,Step.stay S (fun k hk=>Below.heap_alloc _ _ _ hk) (by simp) rfl rfl rfl (fun _ h=>h) (fun _ h=>.inl h) (fe hf),S1,.map _ _ _ (eb _ _ _) rfl,Us.upd⟩
   rw[gm]
   subst hg
   have S1:=S.alloc (id:=⟨vo.site,n⟩) (w':=w.alloc (.cells cells T)) rfl hf h1 h2 h3 h4 h5
   refine hK _ _ ⟨u,D,_,rfl,Step.stay S (fun k hk=>Below.heap_alloc _ _ _ hk) (by simp) rfl rfl rfl (fun _ h=>h) (fun _ h=>.inl h) (fe hf),S1,(h6 (kT ι _ _) (eb _ _ _)).frame (fun b hd=>Below.heap_alloc _ _ _ (S.dead b hd)) (fun _ h=>h) (fun _ _ h=>h),Us.upd⟩
 have Qj:ga vo.op (cU env) g ⟨vo.site,n⟩=some (v,g')->(∀Lk,Dp P hs a o Lk D ι ⟨vo.site,n⟩ v g'->Lk=w->o.wp P a w K Q):=by
  intro _ Lk hE he
  subst he
  obtain⟨u,w',ι',gm,T,S',hR,hι⟩:=hE
  have I4:M6 P hs D ι Lk U vo.site n a o.dst v g' (a.put o.dst u) w':=⟨u,D,ι',rfl,T,S',hR,fun id hid=>by
   by_cases he:id=⟨vo.site,n⟩
   ·subst he;exact .inr ⟨rfl,.inr rfl⟩
   ·rw[hι id he]at hid
    exact(Us.more (U':=fun x=>U x∨x=vo.site) fun _ h=>Or.inl h) id hid⟩
  unfold Oper.wp
  rcases gm with gm|⟨gm,rfl⟩
  ·rw[gm];exact hK _ _ I4
  ·rw[gm];exact hK _ _ I4
 unfold VS at hv
 split at hv
 ·rename_i f args ew
  rw[ew]at hc
  obtain⟨c,ho,kN,FH,oe⟩:=Cp hc
  refine BI f _ (c.args.map a.eval) hv (o8 E oe) ?_
  simp only[execOp,ho,resolve,kN,Deferred.ofValue,Act.eval,Sem.run_bind,Sem.run_pure,Result.andThen_ok,invoke,Array.empty_append,Array.append_empty]
  exact jD FH
 ·rename_i x args ew
  obtain⟨f,l,hx,hP⟩:=hv
  rw[ew]at hc
  obtain⟨c,t,ho,kN,rfl,oe⟩:=tL hc
  obtain⟨first,cQ,he,FH,hL⟩:=wC (v:=a.eval (.tmp t)) hx (E t) (o8 E oe)
  refine BI f _ (first++c.args.map a.eval++cQ) hP hL ?_
  simp only[execOp,ho,resolve,kN,he,Deferred.ofValue,Sem.run_bind,Sem.run_pure,Result.andThen_ok,invoke]
  exact jD FH
 ·rename_i m x y ew
  have k8:=hc
  rw[ew]at k8
  obtain⟨t,x',y',ho,h1,h2,h3⟩:=G1 k8
  have oG:=hv
  rw[ew]at oG
  simp only[ga,Option.map_eq_some_iff,Prod.mk.injEq]at oG
  obtain⟨g1,Bm,rfl,rfl⟩:=oG
  exact Qj hv w (LD S E ho h1 h2 h3 Bm) rfl
 ·rename_i m x y ew
  have k8:=hc
  rw[ew]at k8
  obtain⟨t,e,m',z,i,x',y',rfl,ho,h1,h2,h3,h4,h5,h6,h7⟩:=Ei k8
  have oG:=hv
  rw[ew]at oG
  simp only[ga,Option.bind_eq_some_iff]at oG
  obtain⟨ys,FQ,oG⟩:=oG
  exact Qj hv w (IG S E hf ho h1 h2 h3 h4 h5 h6 h7 FQ oG) rfl
 ·rename_i m x y ew
  have k8:=hc
  rw[ew]at k8
  obtain⟨t,t2,e,m',x',y',rfl,ho,h1,h2,h3,h4⟩:=JE k8
  have oG:=hv
  rw[ew]at oG
  simp only[ga,Option.bind_eq_some_iff]at oG
  obtain⟨ys,FQ,oG⟩:=oG
  exact Qj hv w (Of S E ho h1 h2 h3 h4 FQ oG) rfl
 ·rename_i z x ew
  have k8:=hc
  rw[ew]at k8
  obtain⟨t,e,m',x',ho,h1,h2,h3,h4⟩:=G0 k8
  have oG:=hv
  rw[ew]at oG
  simp only[ga,Option.map_eq_some_iff,Prod.mk.injEq]at oG
  obtain⟨g1,Bm,rfl,rfl⟩:=oG
  exact Qj hv w (LC S E ho h1 h2 h3 h4 Bm) rfl
 ·rename_i q xs ew
  have k8:=hc
  rw[ew]at k8
  have oG:=hv
  rw[ew]at oG
  simp only[ga,Option.map_eq_some_iff,Prod.mk.injEq]at oG
  obtain⟨g1,Bm,rfl,rfl⟩:=oG
  rcases Ph k8 with⟨t,x,k,y,m,z,x',k',y',ho,h1,h2,h3,h4,rfl,rfl⟩|⟨t,t',x,k,m,z,x',k',ho,h1,h2,h3,rfl,rfl⟩
  ·exact Qj hv w (Oh S E ho h1 h2 h3 h4 Bm) rfl
  ·exact Qj hv w (Og S E ho h1 h2 h3 Bm) rfl
 ·obtain⟨mr,hq,hg⟩:=hv
  exact quiet mr hq hg
end
end Go.Proofs.YtgoljkjaameagaaGreat.V

namespace Go.Proofs.YtgoljkjaameagaaGreat.V
open Go.RowKit
variable {P:Program} {w w':World} {D D' D2:Nat->Prop} {ι ι' ι2:Names}
section
variable {g:Rows} {hs:Nat} {env:Env} {a:Act} {o:Oper} {id:Id} {v:AV}
theorem pW {ops:Array Oper} {nt site0 j:Nat} {draw mk:Bool} {bs:Array Nat} {hidden:List (Nat×Bool)} {vo:bj} (h:kY P ops nt site0 draw mk bs hidden j o=some vo):
  rM P o.op=some vo.op/\vo.dst=o.dst/\vo.site=site0+j/\(∀d,o.dst=some d->d<nt)/\(match o.guard with
   |none=>vo.guard=none
   |some (i,b)=>∃t,(ops[i]?).bind (·.dst)=some t/\vo.guard=some (t,b)):=by
 unfold kY at h
 simp only[Option.bind_eq_bind,Option.bind_eq_some_iff]at h
 obtain⟨v,hv,gd,hg,h⟩:=h
 split at h
 ·rename_i hd
  simp only[Option.pure_def,Option.some.injEq]at h
  subst h
  refine⟨hv,rfl,rfl,fun d S9=>?_,?_⟩
  ·rw[S9]at hd;simpa using hd
  ·unfold DF at hg
   cases si:o.guard with
   |none=>rw[si]at hg;simp at hg;exact hg.symm
   |some p=>
    obtain⟨i,b⟩:=p
    rw[si]at hg
    dsimp only at hg ⊢
    split at hg
    ·rename_i t ht
     simp at hg;exact⟨t,ht,hg.symm⟩
    ·simp at hg
 ·simp at h
theorem ue {ops:Array Oper} {vo:bj} (E:cu P w D ι env a) (hg:match o.guard with
   |none=>vo.guard=none
   |some (i,b)=>∃t,(ops[i]?).bind (·.dst)=some t/\vo.guard=some (t,b)):aO vo.guard env=Region.wanted o (yielded ops a.tmps):=by
 unfold Region.wanted
 cases si:o.guard with
 |none=>rw[si]at hg;simp only at hg;rw[hg];rfl
 |some p=>
  obtain⟨i,b⟩:=p
  rw[si]at hg
  obtain⟨t,ht,hv⟩:=hg
  rw[hv]
  simp only[aO,yielded,ht,Option.bind_some]
  have hr:=E t
  by_cases dY:t<a.tmps.size
  ·have fq:a.tmps[t]? =some a.tmps[t]:=Array.getElem?_eq_getElem dY
   have hd:a.tmps.getD t undef=a.tmps[t]:=by simp[dY]
   rw[hd]at hr
   rw[fq]
   generalize a.tmps[t]=u at hr
   cases he:env t with
   |bool c=>rw[he]at hr;rw[fc hr];simp
   |_=>
    rw[he]at hr
    have:∀c,u≠.bool c:=by
     intro c hu
     subst hu
     cases hr with
     |eP _ _ h=>cases h
    cases u<;>simp_all
  ·have fq:a.tmps[t]? =none:=Array.getElem?_eq_none (Nat.le_of_not_lt dY)
   have hd:a.tmps.getD t undef=undef:=by simp[fq]
   rw[hd]at hr
   rw[fq]
   cases he:env t with
   |bool c=>rw[he]at hr;have:=fc hr;simp[undef]at this
   |_=>simp
theorem iH {dst:Option Nat} {nt:Nat} {u:Value} (E:cu P w D ι env a) (hr:cL P w D ι v u) (hd:∀d,dst=some d->d<nt) (hs:a.tmps.size=nt):cu P w D ι (upd env dst v) (a.put dst u):=by
 intro t
 cases dst with
 |none=>exact E t
 |some d=>
  have dY:d<a.tmps.size:=by rw[hs];exact hd d rfl
  simp only[upd,Act.put]
  by_cases ht:t=d
  ·subst ht
   simp[dY];exact hr
  ·rw[if_neg ht]
   have:(a.tmps.setIfInBounds d u).getD t undef=a.tmps.getD t undef:=by
    simp only[Array.getD_eq_getD_getElem?]
    rw[Array.getElem?_setIfInBounds_ne (fun e=>ht e.symm)]
   rw[this];exact E t
theorem pd {hs:Nat} (E:cu P w D ι env a) (T:Step hs D ι w D' ι' w'):cu P w' D' ι' env a:=fun t=>T.rep (E t)
theorem eZ (a:Act) (dst:Option Tmp) (u:Value):(a.put dst u).tmps.size=a.tmps.size:=by cases dst<;>simp[Act.put]
theorem put_defers (a:Act) (dst:Option Tmp) (u:Value):(a.put dst u).defers=a.defers:=by cases dst<;>rfl
theorem zM {draw:Bool} {vo:bj} {σ:ar} {next:AV->ar->Prop} {U:Nat->Prop} {Q:Exit->Act->World->Prop} {K:Act->World->Prop} (hc:rM P o.op=some vo.op) (hv:fM (Sound P) draw vo env σ next) (S:gD P hs D ι σ.get w) (Us:Used ι σ.next U) (hU:¬U vo.site) (E:cu P w D ι env a)
  (hK:∀v σ' u D' ι' w',next v σ'->Step hs D ι w D' ι' w'->gD P hs D' ι' σ'.get w'->cL P w' D' ι' v u->Used ι' σ'.next (fun s=>U s∨s=vo.site)->σ.next<=σ'.next->K (a.put o.dst u) w'):o.wp P a w K Q:=by
 have close:∀v g',VS (Sound P) σ.next vo env σ.get v g'->next v ⟨g',σ.next⟩->o.wp P a w K Q:=fun v g' h1 h2=>
  Bz hc h1 S Us hU E fun a' w' ⟨u,D',ι',ha,T,S',hR,U'⟩=>by subst ha;exact hK v ⟨g',σ.next⟩ u D' ι' w' h2 T S' hR U' (Nat.le_refl _)
 have J0:∀(f:Nat) (args:List AV) (vs:Array Value),Sound P f args ⟨σ.get,σ.next+1⟩ next->fu P w D ι args vs->(execOp a.eval o).run P w=.ok (.enter f vs) w->o.wp P a w K Q:=by
  intro f args vs h hA gm
  unfold Oper.wp
  rw[gm]
  refine(h hs D ι w vs S Us.next hA).mono ?_
  rintro e w' ⟨r,g',n',D',ι',u,rfl,hn,T,S',U',hle,hR⟩
  exact hK r ⟨g',n'⟩ u D' ι' w' hn T S' hR (U'.more fun _ h=>h.elim) (Nat.le_trans (Nat.le_succ _) hle)
 unfold fM at hv
 split at hv
 ·rename_i f args ew
  rcases hv with⟨r,hP,hn⟩|⟨_,hX⟩|⟨FN,sz,rows,hM,hn⟩
  ·exact close r σ.get (by unfold VS;rw[ew];exact .inl ⟨hP,rfl⟩) hn
  rotate_left
  ·exact close _ _ (by unfold VS;rw[ew];exact .inr ⟨FN,sz,rows,hM,rfl,rfl⟩) hn
  ·have k8:=hc
   rw[ew]at k8
   obtain⟨c,ho,kN,FH,oe⟩:=Cp k8
   refine J0 f _ (c.args.map a.eval) hX (o8 E oe) ?_
   simp only[execOp,ho,resolve,kN,Deferred.ofValue,Act.eval,Sem.run_bind,Sem.run_pure,Result.andThen_ok,invoke,Array.empty_append,Array.append_empty]
   exact jD FH
 ·rename_i x args ew
  split at hv
  ·rename_i f cQ hx
   have vP:wu (cU env x) (args.map (cU env))=some (f,args.map (cU env)++cQ):=by rw[hx];rfl
   rcases hv with⟨r,hP,hn⟩|⟨_,hX⟩|⟨FN,sz,rows,hM,hn⟩
   ·exact close r σ.get (by unfold VS;rw[ew];exact⟨f,_,vP,.inl ⟨hP,rfl⟩⟩) hn
   rotate_left
   ·exact close _ _ (by unfold VS;rw[ew];exact⟨f,_,vP,.inr ⟨FN,sz,rows,hM,rfl,rfl⟩⟩) hn
   ·have k8:=hc
    rw[ew]at k8
    obtain⟨c,t,ho,kN,rfl,oe⟩:=tL k8
    obtain⟨first,us,he,FH,hL⟩:=wC (v:=a.eval (.tmp t)) vP (E t) (o8 E oe)
    refine J0 f _ (first++c.args.map a.eval++us) hX hL ?_
    simp only[execOp,ho,resolve,kN,he,Deferred.ofValue,Sem.run_bind,Sem.run_pure,Result.andThen_ok,invoke]
    exact jD FH
  ·rename_i f cQ hx
   have vP:wu (cU env x) (args.map (cU env))=some (f,cQ++args.map (cU env)):=by rw[hx];rfl
   rcases hv with⟨r,hP,hn⟩|⟨_,hX⟩|⟨FN,sz,rows,hM,hn⟩
   ·exact close r σ.get (by unfold VS;rw[ew];exact⟨f,_,vP,.inl ⟨hP,rfl⟩⟩) hn
   rotate_left
   ·exact close _ _ (by unfold VS;rw[ew];exact⟨f,_,vP,.inr ⟨FN,sz,rows,hM,rfl,rfl⟩⟩) hn
   ·have k8:=hc
    rw[ew]at k8
    obtain⟨c,t,ho,kN,rfl,oe⟩:=tL k8
    obtain⟨first,us,he,FH,hL⟩:=wC (v:=a.eval (.tmp t)) vP (E t) (o8 E oe)
    refine J0 f _ (first++c.args.map a.eval++us) hX hL ?_
    simp only[execOp,ho,resolve,kN,he,Deferred.ofValue,Sem.run_bind,Sem.run_pure,Result.andThen_ok,invoke]
    exact jD FH
  ·exact hv.elim
 ·rename_i m x y ew
  split at hv
  ·rename_i v' g' he
   exact close v' g' (by unfold VS;rw[ew];rw[ew]at he;exact he) hv
  ·exact hv.elim
 ·rename_i m x y ew
  split at hv
  ·rename_i v' g' he
   exact close v' g' (by unfold VS;rw[ew];rw[ew]at he;exact he) hv
  ·exact hv.elim
 ·rename_i m x y ew
  split at hv
  ·rename_i v' g' he
   exact close v' g' (by unfold VS;rw[ew];rw[ew]at he;exact he) hv
  ·exact hv.elim
 ·rename_i m x ew
  split at hv
  ·rename_i v' g' he
   exact close v' g' (by unfold VS;rw[ew];rw[ew]at he;exact he) hv
  ·exact hv.elim
 ·rename_i m x ew
  split at hv
  ·rename_i v' g' he
   exact close v' g' (by unfold VS;rw[ew];rw[ew]at he;exact he) hv
  ·exact hv.elim
 ·rename_i n1 n2 n3 n4 n5 n6 n7
  split at hv
  ·rename_i v' r hq
   refine close v' (bt σ.get ⟨vo.site,σ.next⟩ r) ?_ hv
   unfold VS
   split
   ·rename_i h;exact(n1 _ _ h).elim
   ·rename_i h;exact(n2 _ _ h).elim
   ·rename_i h;exact(n3 _ _ _ h).elim
   ·rename_i h;exact(n4 _ _ _ h).elim
   ·rename_i h;exact(n5 _ _ _ h).elim
   ·rename_i h;exact(n6 _ _ h).elim
   ·rename_i h;exact(n7 _ _ h).elim
   ·exact⟨some r,hq,rfl⟩
  ·rename_i v' hq
   refine close v' σ.get ?_ hv
   unfold VS
   split
   ·rename_i h;exact(n1 _ _ h).elim
   ·rename_i h;exact(n2 _ _ h).elim
   ·rename_i h;exact(n3 _ _ _ h).elim
   ·rename_i h;exact(n4 _ _ _ h).elim
   ·rename_i h;exact(n5 _ _ _ h).elim
   ·rename_i h;exact(n6 _ _ h).elim
   ·rename_i h;exact(n7 _ _ h).elim
   ·exact⟨none,hq,rfl⟩
  ·exact hv.elim
structure St (P:Program) (hs nt:Nat) (D:Nat->Prop) (ι:Names) (env:Env) (σ:ar) (a:Act) (w:World):Prop where
 tW:gD P hs D ι σ.get w
 used:Used ι σ.next (fun _=>False)
 env:cu P w D ι env a
 size:a.tmps.size=nt
theorem xl (rest:List Oper) {ops:Array Oper} {nt site0:Nat} {draw mk:Bool} {bs:Array Nat} {hidden:List (Nat×Bool)} {K:Env->ar->Prop} {Q:Exit->Act->World->Prop}:∀(l:List Oper) (vl:List bj) (j:Nat) (env:Env) (σ:ar) (a:Act) (w:World) (D:Nat->Prop) (ι:Names) (U:Nat->Prop),
  allM (kY P ops nt site0 draw mk bs hidden) l j=some vl->wpOps (Sound P) draw vl K env σ->gD P hs D ι σ.get w->Used ι σ.next U->(∀s,U s->s<site0+j)->cu P w D ι env a->a.tmps.size=nt->
  (∀iP σ' a' w' D' ι',K iP σ'->Step hs D ι w D' ι' w'->St P hs nt D' ι' iP σ' a' w'->a'.defers=a.defers->σ.next<=σ'.next->wpList P ops Q rest a' w')->wpList P ops Q (l++rest) a w:=by
 intro l
 induction l with
 |nil=>
  intro vl j env σ a w D ι U h hv S Us _ E fw hQ
  simp[allM]at h;subst h
  exact hQ env ⟨σ.get,σ.next+1⟩ a w D ι hv (Step.refl _ _ _ _) ⟨S,Us.next,E,fw⟩ rfl (Nat.le_succ _)
 |cons o l ih=>
  intro vl j env σ a w D ι U h hv S Us hU E fw hQ
  simp only[allM,Option.bind_eq_bind,Option.bind_eq_some_iff,Option.pure_def,Option.some.injEq]at h
  obtain⟨vo,qt,ud,te,rfl⟩:=h
  obtain⟨hc,hd,Ch,yl,hg⟩:=pW qt
  have hw:=ue (ops:=ops) (vo:=vo) E hg
  unfold wpOps at hv
  show wpList P ops Q (o::(l++rest)) a w
  unfold wpList
  rw[<-hw]
  split at hv
  ·rename_i GW
   rw[if_pos GW]
   refine .inl (zM hc hv S Us (fun h=>by have:=hU _ h;omega) E fun v σ' u D' ι' w' hn T S' hR U' hle=>?_)
   refine ih ud (j+1) (upd env vo.dst v) σ' (a.put o.dst u) w' D' ι' _ te hn S' U' (fun s Ce=>by
    rcases Ce with h|h
    ·have:=hU _ h;omega
    ·omega) (by rw[hd];exact iH (pd E T) hR yl fw) (by rw[eZ];exact fw) fun iP σ2 a' w2 D2 ι2 hk T2 NX DX nA=>hQ iP σ2 a' w2 D2 ι2 hk (T.trans T2) NX (DX.trans (put_defers _ _ _)) (Nat.le_trans hle nA)
  ·rename_i GW
   rw[if_neg GW]
   refine ih ud (j+1) (upd env vo.dst .undef) σ (a.put o.dst undef) w D ι U te hv S Us (fun s Ce=>by have:=hU _ Ce;omega) (by rw[hd];exact iH E cL.undef yl fw) (by rw[eZ];exact fw) fun iP σ2 a' w2 D2 ι2 hk T2 NX DX nA=>hQ iP σ2 a' w2 D2 ι2 hk T2 NX (DX.trans (put_defers _ _ _)) nA
theorem zy {ops:Array Oper} {nt site0:Nat} {draw mk:Bool} {bs:Array Nat} {hidden:List (Nat×Bool)} {K:Env->ar->Prop} {Q:Exit->Act->World->Prop}:∀(l:List Oper) (vl:List bj) (j:Nat) (env:Env) (σ:ar) (a:Act) (w:World) (D:Nat->Prop) (ι:Names) (U:Nat->Prop),
  allM (kY P ops nt site0 draw mk bs hidden) l j=some vl->wpOps (Sound P) draw vl K env σ->gD P hs D ι σ.get w->Used ι σ.next U->(∀s,U s->s<site0+j)->cu P w D ι env a->a.tmps.size=nt->
  (∀iP σ' a' w' D' ι',K iP σ'->Step hs D ι w D' ι' w'->St P hs nt D' ι' iP σ' a' w'->a'.defers=a.defers->σ.next<=σ'.next->Q .normal a' w')->wpList P ops Q l a w:=fun l vl j env σ a w D ι U h hv S Us hU E fw hQ=>by
 have:=xl [] l vl j env σ a w D ι U h hv S Us hU E fw hQ
 rwa [List.append_nil]at this
end
end Go.Proofs.YtgoljkjaameagaaGreat.V

namespace Go.Proofs.YtgoljkjaameagaaGreat.V
open Go.RowKit
variable {P:Program} {w w':World} {D D' D2:Nat->Prop} {ι ι' ι2:Names}
section
variable {hs:Nat} {X:fN}
theorem bp {env jd:Env} {x:O} (h:∀t∈gZ x,env t=jd t):cU env x=cU jd x:=by
 cases x with
 |t n=>exact h n (by simp[gZ])
 |_=>rfl
theorem map_congr {env jd:Env} {l:List O} (h:∀t∈l.flatMap gZ,env t=jd t):l.map (cU env)=l.map (cU jd):=
 List.map_congr_left fun x hx=>bp fun t ht=>h t (List.mem_flatMap.2 ⟨x,hx,ht⟩)
theorem qc {env jd:Env} {x:Option O} (h:∀t∈xn x,env t=jd t):x.map (cU env)=x.map (cU jd):=by
 cases x with
 |none=>rfl
 |some y=>simp only[Option.map_some];rw[bp h]
theorem tT {env jd:Env} {o:gG} {g:Rows} {id:Id} (h:∀t∈o.gN,env t=jd t):eS o (cU env) g id=eS o (cU jd) g id:=by
 cases o<;>simp only[gG.gN,List.mem_append]at h<;>simp only[eS]
 case dq x=>rw[bp h]
 case pick c a b=>rw[bp (x:=c) fun t ht=>h t (.inl (.inl ht)),bp (x:=a) fun t ht=>h t (.inl (.inr ht)),bp (x:=b) fun t ht=>h t (.inr ht)]
 case box x=>rw[bp h]
 case build z ps=>
  have:(ps.map fun(x:Nat×Nat×O)=>(x.1,x.2.1,cU env x.2.2))=ps.map fun(x:Nat×Nat×O)=>(x.1,x.2.1,cU jd x.2.2):=List.map_congr_left fun x hx=>by
   rw[bp (x:=x.2.2) fun t ht=>h t (List.mem_flatMap.2 ⟨x,hx,ht⟩)]
  rw[this]
 case mh a b l=>rw[map_congr h]
 case load a n x=>rw[bp h]
 case Bi x=>rw[bp h]
 case bin a b x y=>rw[bp (x:=x) fun t ht=>h t (.inl ht),bp (x:=y) fun t ht=>h t (.inr ht)]
 case sh a x y=>rw[bp (x:=x) fun t ht=>h t (.inl ht),bp (x:=y) fun t ht=>h t (.inr ht)]
 case Ly a x y=>rw[bp (x:=x) fun t ht=>h t (.inl ht),bp (x:=y) fun t ht=>h t (.inr ht)]
 case Oi a b x y=>rw[bp (x:=x) fun t ht=>h t (.inl ht),bp (x:=y) fun t ht=>h t (.inr ht)]
 case SJ a b x y=>rw[bp (x:=x) fun t ht=>h t (.inl ht),bp (x:=y) fun t ht=>h t (.inr ht)]
 case Q0 a b x=>rw[bp h]
 case SK a x=>rw[bp h]
 case not x=>rw[bp h]
 case neg x=>rw[bp h]
 case conv k x=>rw[bp h]
 case Fu x=>rw[bp h]
 case slice s x lo hi=>rw[bp (x:=x) fun t ht=>h t (.inl (.inl ht)),qc (x:=lo) fun t ht=>h t (.inl (.inr ht)),qc (x:=hi) fun t ht=>h t (.inr ht)]
 case AS x lo hi=>rw[bp (x:=x) fun t ht=>h t (.inl (.inl ht)),qc (x:=lo) fun t ht=>h t (.inl (.inr ht)),qc (x:=hi) fun t ht=>h t (.inr ht)]
 case fW k x=>rw[bp h]
 case field a b c x=>rw[bp h]
 case dQ s x y=>rw[bp (x:=x) fun t ht=>h t (.inl ht),bp (x:=y) fun t ht=>h t (.inr ht)]
 case Mc n s x y=>rw[bp (x:=x) fun t ht=>h t (.inl ht),bp (x:=y) fun t ht=>h t (.inr ht)]
 case Me x y=>rw[bp (x:=x) fun t ht=>h t (.inl ht),bp (x:=y) fun t ht=>h t (.inr ht)]
 case eG a b c x y=>rw[bp (x:=x) fun t ht=>h t (.inl ht),bp (x:=y) fun t ht=>h t (.inr ht)]
 case extract i x=>rw[bp h]
 case len x=>rw[bp h]
 case Mm x=>rw[bp h]
 case JU x=>rw[bp h]
 case JN x=>rw[bp h]
 case Mr f l=>rw[map_congr h]
 case Ms f l=>rw[map_congr h]
 case mq f l=>rw[map_congr h]
 case kc z x y=>rw[bp (x:=x) fun t ht=>h t (.inl ht),bp (x:=y) fun t ht=>h t (.inr ht)]
theorem ij {env jd:Env} {o:gG} {g:Rows} {id:Id} (h:∀t∈o.gN,env t=jd t):ga o (cU env) g id=ga o (cU jd) g id:=by
 cases o<;>simp only[gG.gN,List.mem_append]at h<;>simp only[ga]
 case clear z x=>rw[bp h]
 case mw f l=>rw[map_congr h]
 all_goals rename_i a x y
 all_goals rw[bp (x:=x) fun t ht=>h t (.inl ht),bp (x:=y) fun t ht=>h t (.inr ht)]
theorem Io {n:Nat} {vo:bj} {env jd:Env} {g g':Rows} {v:AV} (h:∀t∈vo.op.gN,env t=jd t) (hv:VS X n vo env g v g'):VS X n vo jd g v g':=by
 unfold VS at hv ⊢
 split at hv
 ·rename_i f args ew
  rw[ew]at h
  simp only[gG.gN]at h
  rw[<-map_congr h];exact hv
 ·rename_i x args ew
  rw[ew]at h
  simp only[gG.gN,List.mem_append]at h
  rw[<-map_congr (l:=args) fun t ht=>h t (.inr ht),<-bp (x:=x) fun t ht=>h t (.inl ht)];exact hv
 ·rw[<-ij h];exact hv
 ·rw[<-ij h];exact hv
 ·rw[<-ij h];exact hv
 ·rw[<-ij h];exact hv
 ·rw[<-ij h];exact hv
 ·rw[<-tT h];exact hv
theorem Eu {q:MQ} {vs:List AV} {g:Rows} {id:Id} {v:AV} {r:Row} (h:bF q vs g id=some (v,some r)):∃m,q=.new m:=by
 unfold bF at h
 split at h
 ·exact⟨_,rfl⟩
 ·simp[Option.bind_eq_some_iff]at h
 ·simp at h
 ·cases h
theorem xq {o:gG} {ρ:O->AV} {g:Rows} {id:Id} {v:AV} {r:Row} (h:eS o ρ g id=some (v,some r)):rD o=true:=by
 cases o<;>simp only[eS]at h<;>(try rfl)<;>(try simp at h)
 case mq q xs=>obtain⟨m,rfl⟩:=Eu h;rfl
 all_goals (try(split at h<;>simp at h))
theorem xr {o:gG} {ρ:O->AV} {g g2:Rows} {id id2:Id} (h:o.cls=.pure):eS o ρ g id=eS o ρ g2 id2:=by
 cases o<;>(try simp[gG.cls]at h)<;>(try simp only[eS])
 case mq q xs=>cases q<;>simp[gG.cls]at h
theorem wi {n:Nat} {vo:bj} {env:Env} {g g':Rows} {v:AV} (hw:vo.op.cls≠.write) (hv:VS X n vo env g v g'):∃mr,g'=jq g ⟨vo.site,n⟩ mr/\(mr≠none->vo.makes=true)/\∀g0,fZ vo.hid n g0=fZ vo.hid n g->VS X n vo env g0 v (jq g0 ⟨vo.site,n⟩ mr):=by
 unfold VS at hv
 split at hv
 ·rename_i f args ew
  rcases hv with⟨h1,rfl⟩|⟨hs,sz,rows,hM,rfl,rfl⟩
  ·refine⟨none,rfl,fun h=>(h rfl).elim,fun g0 h0=>?_⟩
   unfold VS;rw[ew];simp only;unfold wz;rw[h0];exact .inl ⟨h1,rfl⟩
  ·refine⟨some _,rfl,fun _=>by unfold bj.makes;rw[ew,hs];simp[gG.mi],fun g0 h0=>?_⟩
   unfold VS;rw[ew];simp only;unfold wz;rw[h0];exact .inr ⟨hs,sz,rows,hM,rfl,rfl⟩
 ·rename_i x args ew
  obtain⟨f,cQ,hx,hv⟩:=hv
  rcases hv with⟨h1,rfl⟩|⟨hs,sz,rows,hM,rfl,rfl⟩
  ·refine⟨none,rfl,fun h=>(h rfl).elim,fun g0 h0=>?_⟩
   unfold VS;rw[ew];simp only;unfold wz;rw[h0];exact⟨f,cQ,hx,.inl ⟨h1,rfl⟩⟩
  ·refine⟨some _,rfl,fun _=>by unfold bj.makes;rw[ew,hs];simp[gG.mi],fun g0 h0=>?_⟩
   unfold VS;rw[ew];simp only;unfold wz;rw[h0];exact⟨f,cQ,hx,.inr ⟨hs,sz,rows,hM,rfl,rfl⟩⟩
 ·rename_i ew;rw[ew]at hw;exact(hw rfl).elim
 ·rename_i ew;rw[ew]at hw;exact(hw rfl).elim
 ·rename_i ew;rw[ew]at hw;exact(hw rfl).elim
 ·rename_i ew;rw[ew]at hw;exact(hw rfl).elim
 ·rename_i ew;rw[ew]at hw;exact(hw rfl).elim
 ·rename_i n1 n2 n3 n4 n5 n6 n7
  obtain⟨mr,hq,rfl⟩:=hv
  refine⟨mr,rfl,fun h=>?_,fun g0 h0=>?_⟩
  ·cases mr with
   |none=>exact(h rfl).elim
   |some r=>unfold bj.makes;rw[xq hq];rfl
  ·unfold VS
   split
   ·rename_i hh;exact(n1 _ _ hh).elim
   ·rename_i hh;exact(n2 _ _ hh).elim
   ·rename_i hh;exact(n3 _ _ _ hh).elim
   ·rename_i hh;exact(n4 _ _ _ hh).elim
   ·rename_i hh;exact(n5 _ _ _ hh).elim
   ·rename_i hh;exact(n6 _ _ hh).elim
   ·rename_i hh;exact(n7 _ _ hh).elim
   ·rw[h0];exact⟨mr,hq,rfl⟩
theorem zP {n:Nat} {vo:bj} {env:Env} {g g':Rows} {v:AV} (hp:vo.op.cls=.pure) (hv:VS X n vo env g v g'):g'=g/\∀g0,VS X n vo env g0 v g0:=by
 unfold VS at hv
 split at hv
 ·rename_i ew;rw[ew]at hp;simp[gG.cls]at hp
 ·rename_i ew;rw[ew]at hp;simp[gG.cls]at hp
 ·rename_i ew;rw[ew]at hp;simp[gG.cls]at hp
 ·rename_i ew;rw[ew]at hp;simp[gG.cls]at hp
 ·rename_i ew;rw[ew]at hp;simp[gG.cls]at hp
 ·rename_i ew;rw[ew]at hp;simp[gG.cls]at hp
 ·rename_i ew;rw[ew]at hp;simp[gG.cls]at hp
 ·rename_i n1 n2 n3 n4 n5 n6 n7
  obtain⟨mr,hq,rfl⟩:=hv
  have Va:mr=none:=by
   cases mr with
   |none=>rfl
   |some r=>have:=xq hq;simp[rD,hp]at this
  subst Va
  refine⟨rfl,fun g0=>?_⟩
  unfold VS
  split
  ·rename_i hh;exact(n1 _ _ hh).elim
  ·rename_i hh;exact(n2 _ _ hh).elim
  ·rename_i hh;exact(n3 _ _ _ hh).elim
  ·rename_i hh;exact(n4 _ _ _ hh).elim
  ·rename_i hh;exact(n5 _ _ _ hh).elim
  ·rename_i hh;exact(n6 _ _ hh).elim
  ·rename_i hh;exact(n7 _ _ hh).elim
  ·exact⟨none,by rw[xr hp];exact hq,rfl⟩
def GS (X:fN) (n:Nat) (vo:bj) (env:Env) (g:Rows) (v:AV) (g':Rows):Prop:=
 if aO vo.guard env then VS X n vo env g v g' else v=.undef/\g'=g
theorem C7 {hid:List Nat} {g:Rows} {s n:Nat} {mr:Option Row} (h:mr≠none->hid.contains s=true):fZ hid n (jq g ⟨s,n⟩ mr)=fZ hid n g:=by
 cases mr with
 |none=>rfl
 |some r=>
  have hc:=h (by simp)
  cases hid with
  |nil=>simp at hc
  |cons a l=>
   funext i
   show(if (a::l).contains i.site=true/\i.bW=n then none else jq g ⟨s,n⟩ (some r) i)=if (a::l).contains i.site=true/\i.bW=n then none else g i
   by_cases hi:i=⟨s,n⟩
   ·subst hi;rw[if_pos ⟨hc,rfl⟩,if_pos ⟨hc,rfl⟩]
   ·simp only[jq,bt,if_neg hi]
theorem Gk {g:Rows} {i j:Id} (h:i≠j) (m1 m2:Option Row):jq (jq g i m1) j m2=jq (jq g j m2) i m1:=by
 cases m1<;>cases m2<;>simp only[jq]
 funext k
 simp only[bt]
 by_cases h1:k=i
 ·subst h1;rw[if_neg h,if_pos rfl];simp
 ·by_cases h2:k=j
  ·subst h2;simp[h1]
  ·simp[h1,h2]
theorem xS {env:Env} {d e:Option Nat} {v u:AV} (h:∀k,d=some k->e≠some k):upd (upd env d v) e u=upd (upd env e u) d v:=by
 cases d with
 |none=>rfl
 |some d=>
  cases e with
  |none=>rfl
  |some e=>
   have ik:d≠e:=fun he=>h d rfl (by rw[he])
   funext t
   simp only[upd]
   by_cases h1:t=d
   ·subst h1;rw[if_neg ik,if_pos rfl,if_pos rfl]
   ·by_cases h2:t=e
    ·subst h2;rw[if_pos rfl,if_neg h1,if_pos rfl]
    ·simp[h1,h2]
theorem nj {env:Env} {d:Option Nat} {v:AV} {l:List Nat} (h:∀k,d=some k->k∉l):∀t∈l,upd env d v t=env t:=by
 intro t ht
 cases d with
 |none=>rfl
 |some d=>
  have:t≠d:=fun he=>h d rfl (he▸ht)
  simp[upd,this]
structure Dq (x y:bj):Prop where
 xy:∀k,x.dst=some k->k∉y.gN
 yx:∀k,y.dst=some k->k∉x.gN
 dst:∀k,x.dst=some k->y.dst≠some k
 cls:clash x.op.cls y.op.cls=false
 hx:x.makes=true->y.hid.contains x.site=true
 hy:y.makes=true->x.hid.contains y.site=true
 site:x.site≠y.site
theorem Dq.symm {x y:bj} (h:Dq x y):Dq y x:=
 ⟨h.yx,h.xy,fun k hk he=>h.dst k he hk,by have:=h.cls;revert this;cases x.op.cls<;>cases y.op.cls<;>simp[clash],h.hy,h.hx,fun e=>h.site e.symm⟩
theorem qV {x y:bj} (h:FC x y=true):Dq x y:=by
 unfold FC at h
 simp only[Bool.and_eq_true,Bool.not_eq_true',Bool.or_eq_true,bne_iff_ne]at h
 obtain⟨⟨⟨⟨h1,h2⟩,h3⟩,h4⟩,h5⟩:=h
 unfold ub at h1
 simp only[Bool.and_eq_true]at h1
 obtain⟨a1,a2⟩:=h1
 refine⟨fun k hk=>?_,fun k hk=>?_,fun k hk=>?_,h2,fun hm=>?_,fun hm=>?_,h5⟩
 ·rw[hk]at a1;simp at a1;exact a1.1
 ·rw[hk]at a2;simpa using a2
 ·rw[hk]at a1;simp at a1;exact a1.2
 ·rcases h3 with h3|h3
  ·rw[hm]at h3;cases h3
  ·exact h3
 ·rcases h4 with h4|h4
  ·rw[hm]at h4;cases h4
  ·exact h4
theorem sS {vo:bj} {t:Nat} (h:t∈vo.op.gN):t∈vo.gN:=List.mem_append_left _ h
theorem nQ {vo:bj} {env jd:Env} (h:∀t∈vo.gN,env t=jd t):aO vo.guard env=aO vo.guard jd:=by
 unfold aO
 cases hg:vo.guard with
 |none=>rfl
 |some p=>
  obtain⟨t,b⟩:=p
  have:env t=jd t:=h t (List.mem_append_right _ (by rw[hg];simp))
  simp only[this]
theorem wc {n:Nat} {vo:bj} {env jd:Env} {g g':Rows} {v:AV} (h:∀t∈vo.gN,env t=jd t) (hv:GS X n vo env g v g'):GS X n vo jd g v g':=by
 unfold GS at hv ⊢
 rw[<-nQ h]
 split at hv
 ·rename_i hw;rw[if_pos hw];exact Io (fun t ht=>h t (sS ht)) hv
 ·rename_i hw;rw[if_neg hw];exact hv
theorem Fg {n:Nat} {x y:bj} {env:Env} {g g1 g2:Rows} {v v':AV} (F:Dq x y) (h1:GS X n x env g v g1) (h2:GS X n y (upd env x.dst v) g1 v' g2):
  ∃LJ,GS X n y env g v' LJ/\GS X n x (upd env y.dst v') LJ v g2/\upd (upd env x.dst v) y.dst v'=upd (upd env y.dst v') x.dst v:=by
 have NA:=xS (env:=env) (v:=v) (u:=v') F.dst
 replace h2:GS X n y env g1 v' g2:=wc (nj F.xy) h2
 have back:∀{LJ},GS X n x env LJ v g2->GS X n x (upd env y.dst v') LJ v g2:=fun h=>wc (fun t ht=>(nj F.yx t ht).symm) h
 unfold GS at h1 h2
 by_cases wx:aO x.guard env=true
 ·rw[if_pos wx]at h1
  by_cases wy:aO y.guard env=true
  ·rw[if_pos wy]at h2
   by_cases cx:x.op.cls=.write
   ·have cy:y.op.cls=.pure:=by
     have:=F.cls;rw[cx]at this
     cases hc:y.op.cls<;>simp[clash,hc]at this ⊢
    obtain⟨rfl,dE⟩:=zP cy h2
    exact⟨g,by unfold GS;rw[if_pos wy];exact dE g,back (by unfold GS;rw[if_pos wx];exact h1),NA⟩
   ·by_cases cy:y.op.cls=.write
    ·have cx':x.op.cls=.pure:=by
      have:=F.cls;rw[cy]at this
      cases hc:x.op.cls<;>simp[clash,hc]at this ⊢
     obtain⟨rfl,dE⟩:=zP cx' h1
     exact⟨g2,by unfold GS;rw[if_pos wy];exact h2,back (by unfold GS;rw[if_pos wx];exact dE g2),NA⟩
    ·obtain⟨mx,rfl,kx,TW⟩:=wi cx h1
     obtain⟨my,rfl,ky,N2⟩:=wi cy h2
     have ik:(⟨x.site,n⟩:Id)≠⟨y.site,n⟩:=fun e=>F.site (by injection e)
     refine⟨jq g ⟨y.site,n⟩ my,?_,back ?_,NA⟩
     ·unfold GS;rw[if_pos wy]
      exact N2 g (C7 fun h=>F.hx (kx h)).symm
     ·unfold GS;rw[if_pos wx,Gk ik]
      exact TW _ (C7 fun h=>F.hy (ky h))
  ·rw[if_neg wy]at h2
   obtain⟨rfl,rfl⟩:=h2
   exact⟨g,by unfold GS;rw[if_neg wy];exact⟨rfl,rfl⟩,back (by unfold GS;rw[if_pos wx];exact h1),NA⟩
 ·rw[if_neg wx]at h1
  obtain⟨rfl,rfl⟩:=h1
  exact⟨g2,h2,back (by unfold GS;rw[if_neg wx];exact⟨rfl,rfl⟩),NA⟩
end
end Go.Proofs.YtgoljkjaameagaaGreat.V

namespace Go.Proofs.YtgoljkjaameagaaGreat.V
open Go.RowKit
variable {P:Program} {w w':World} {D D' D2:Nat->Prop} {ι ι' ι2:Names}
section
variable {hs:Nat} {X:fN}
def jr (acc:Array Nat) (o:Oper):Nat:=o.after.foldl (fun s e=>if Region.binds .any e then s|||2 ^ e.on|||acc.getD e.on 0 else s) 0
theorem Lt (ops:Array Oper):jG ops=ops.foldl (fun acc o=>acc.push (jr acc o)) #[]:=rfl
theorem BF {acc:Array Nat} {o:Oper} {i:Nat} (h:(jr acc o).testBit i=true):∃e∈o.after,Region.binds .any e=true/\(e.on=i∨(acc.getD e.on 0).testBit i=true):=by
 unfold jr at h
 rw[<-Array.foldl_toList]at h
 have gen:∀(l:List Edge) (s:Nat),(l.foldl (fun s e=>if Region.binds .any e then s|||2 ^ e.on|||acc.getD e.on 0 else s) s).testBit i=true->s.testBit i=true∨∃e∈l,Region.binds .any e=true/\(e.on=i∨(acc.getD e.on 0).testBit i=true):=by
  intro l
  induction l with
  |nil=>intro s h;exact .inl h
  |cons e r ih=>
   intro s h
   rw[List.foldl_cons]at h
   rcases ih _ h with h|⟨e',LQ,h'⟩
   ·by_cases hb:Region.binds .any e=true
    ·rw[if_pos hb]at h
     simp only[Nat.testBit_or,Bool.or_eq_true]at h
     rcases h with(h|h)|h
     ·exact .inl h
     ·refine .inr ⟨e,by simp,hb,.inl ?_⟩
      rw[Nat.testBit_two_pow]at h
      simpa using h
     ·exact .inr ⟨e,by simp,hb,.inr h⟩
    ·rw[if_neg hb]at h;exact .inl h
   ·exact .inr ⟨e',List.mem_cons_of_mem _ LQ,h'⟩
 rcases gen _ _ h with h|⟨e,he,h⟩
 ·simp at h
 ·exact⟨e,Array.mem_toList_iff.1 he,h⟩
theorem Iw {ops:Array Oper} {j i:Nat} (h:((jG ops).getD j 0).testBit i=true):∃o,ops[j]? =some o/\∃e∈o.after,Region.binds .any e=true/\(e.on=i∨((jG ops).getD e.on 0).testBit i=true):=by
 have key:∀(l pre:List Oper) (acc:Array Nat),acc.size=pre.length->(∀j i,(acc.getD j 0).testBit i=true->∃o,pre[j]? =some o/\∃e∈o.after,Region.binds .any e=true/\(e.on=i∨(acc.getD e.on 0).testBit i=true))->
   ∀j i,((l.foldl (fun acc o=>acc.push (jr acc o)) acc).getD j 0).testBit i=true->∃o,(pre++l)[j]? =some o/\∃e∈o.after,Region.binds .any e=true/\(e.on=i∨((l.foldl (fun acc o=>acc.push (jr acc o)) acc).getD e.on 0).testBit i=true):=by
  intro l
  induction l with
  |nil=>intro pre acc _ h j i hb;simpa using h j i hb
  |cons o r ih=>
   intro pre acc fw h j i hb
   have zx:∀k,k<acc.size->(acc.push (jr acc o)).getD k 0=acc.getD k 0:=fun k hk=>by
    simp only[Array.getD_eq_getD_getElem?,Array.getElem?_push]
    rw[if_neg (by omega)]
   have big:∀k,acc.size<=k->acc.getD k 0=0:=fun k hk=>by simp[Array.getElem?_eq_none hk]
   have lift:∀k i,(acc.getD k 0).testBit i=true->((acc.push (jr acc o)).getD k 0).testBit i=true:=fun k i hk=>by
    by_cases dY:k<acc.size
    ·rw[zx k dY];exact hk
    ·rw[big k (by omega)]at hk;simp at hk
   have:=ih (pre++[o]) (acc.push (jr acc o)) (by simp[fw]) (fun j i hb=>by
    by_cases dY:j<acc.size
    ·rw[zx j dY]at hb
     obtain⟨o',Di,e,he,fU,h2⟩:=h j i hb
     refine⟨o',by rw[List.getElem?_append_left (by omega)];exact Di,e,he,fU,?_⟩
     rcases h2 with h2|h2
     ·exact .inl h2
     ·exact .inr (lift _ _ h2)
    ·by_cases hj:j=acc.size
     ·subst hj
      have e0:(acc.push (jr acc o)).getD acc.size 0=jr acc o:=by simp
      rw[e0]at hb
      obtain⟨e,he,fU,h2⟩:=BF hb
      refine⟨o,by rw[List.getElem?_append_right (by omega),fw];simp,e,he,fU,?_⟩
      rcases h2 with h2|h2
      ·exact .inl h2
      ·exact .inr (lift _ _ h2)
     ·have:(acc.push (jr acc o)).getD j 0=0:=by
       simp only[Array.getD_eq_getD_getElem?]
       rw[Array.getElem?_eq_none (by simp;omega)];rfl
      rw[this]at hb;simp at hb) j i (by simpa using hb)
   simpa using this
 rw[Lt,<-Array.foldl_toList]at h ⊢
 have:=key ops.toList [] #[] rfl (fun j i h=>by simp at h) j i h
 simpa using this
def DC (ops:Array Oper) (listed:Array Bool):Prop:=∀k i,listed.getD k false=true->((jG ops).getD k 0).testBit i=true->listed.getD i false=true
theorem ll {ops:Array Oper} {listed:Array Bool} (h:DC ops listed) {j:Nat} (hj:j∈Region.ready .any ops listed):∀i,((jG ops).getD j 0).testBit i=true->listed.getD i false=true:=by
 intro i hb
 obtain⟨_,o,ho,dE⟩:=mem_ready.1 hj
 obtain⟨o',Di,e,he,fU,h2⟩:=Iw hb
 rw[ho]at Di;injection Di with Di;subst Di
 have hl:=dE e he fU
 rcases h2 with h2|h2
 ·rw[<-h2];exact hl
 ·exact h _ _ hl h2
theorem DC.list {ops:Array Oper} {listed:Array Bool} (h:DC ops listed) {j:Nat} (hj:j∈Region.ready .any ops listed):DC ops (listed.setIfInBounds j true):=by
 intro k i hk hb
 by_cases hkj:k=j
 ·subst hkj;exact getD_set_true (ll h hj i hb)
 ·rw[getD_set_ne false (fun e=>hkj e.symm)]at hk
  exact getD_set_true (h k i hk hb)
theorem jj {ops:Array Oper} {listed:Array Bool} {j:Nat} (hj:j∈Region.ready .any ops listed):listed.getD j false=false:=by
 have h0:=(mem_ready.1 hj).1
 rcases Nat.lt_or_ge j listed.size with h|h
 ·simp[h]at h0 ⊢;exact h0
 ·simp[Array.getElem?_eq_none h]at h0
def KP (X:fN) (n:Nat) (ops:Array Oper) (vl:List bj) (K:Env->Rows->Prop):Nat->Array Bool->Env->Rows->Prop
 |0,listed,env,g=>Region.ready .any ops listed=[]/\K env g
 |f+1,listed,env,g=>(Region.ready .any ops listed=[]->K env g)/\∀i∈Region.ready .any ops listed,∃vo,vl[i]? =some vo/\∃v g',GS X n vo env g v g'/\KP X n ops vl K f (listed.setIfInBounds i true) (upd env vo.dst v) g'
theorem BR {ops:Array Oper} {vl:List bj} (h:pc ops vl (jG ops)=true) {i j:Nat} {x y:bj} (hi:vl[i]? =some x) (hj:vl[j]? =some y) (D7:i≠j) (h1:((jG ops).getD j 0).testBit i=false) (h2:((jG ops).getD i 0).testBit j=false):Dq x y:=by
 unfold pc at h
 simp only[Bool.and_eq_true,List.all_eq_true]at h
 obtain⟨_,h⟩:=h
 have mem:∀(k:Nat) (z:bj),vl[k]? =some z->(z,k)∈vl.zipIdx:=fun k z hk=>by
  rw[List.mem_iff_getElem?]
  exact⟨k,by simp[List.getElem?_zipIdx,hk]⟩
 rcases Nat.lt_or_gt_of_ne D7 with dY|LS
 ·have:=h _ (mem j y hj) _ (mem i x hi)
  simp only[dY,decide_true,Bool.not_true,Bool.false_or,h1]at this
  exact qV this
 ·have:=h _ (mem i x hi) _ (mem j y hj)
  simp only[LS,decide_true,Bool.not_true,Bool.false_or,h2]at this
  exact(qV this).symm
theorem Fc {n:Nat} {ops:Array Oper} {vl:List bj} {K:Env->Rows->Prop} (w5:pc ops vl (jG ops)=true) (hlen:vl.length=ops.size) {i:Nat} {vi:bj} (hi:vl[i]? =some vi) {v:AV}:∀(fuel:Nat) (listed:Array Bool) (env:Env) (g g1:Rows),
  DC ops listed->i∈Region.ready .any ops listed->GS X n vi env g v g1->KP X n ops vl K fuel (listed.setIfInBounds i true) (upd env vi.dst v) g1->KP X n ops vl K (fuel+1) listed env g:=by
 intro fuel
 induction fuel with
 |zero=>
  intro listed env g g1 _ hr hG H
  refine⟨fun h=>(by rw[h]at hr;cases hr),fun j hj=>?_⟩
  by_cases np:j=i
  ·subst np;exact⟨vi,hi,v,g1,hG,H⟩
  ·have:=ready_mono hj np
   rw[H.1]at this;cases this
 |succ fuel ih=>
  intro listed env g g1 ta hr hG H
  refine⟨fun h=>(by rw[h]at hr;cases hr),fun j hj=>?_⟩
  by_cases np:j=i
  ·subst np;exact⟨vi,hi,v,g1,hG,H⟩
  ·obtain⟨vj,Ma,v',g2,hG2,H2⟩:=H.2 j (ready_mono hj np)
   have b1:((jG ops).getD j 0).testBit i=false:=by
    cases hb:((jG ops).getD j 0).testBit i with
    |false=>rfl
    |true=>have:=ll ta hj i hb;rw[jj hr]at this;cases this
   have b2:((jG ops).getD i 0).testBit j=false:=by
    cases hb:((jG ops).getD i 0).testBit j with
    |false=>rfl
    |true=>have:=ll ta hr j hb;rw[jj hj]at this;cases this
   have F:=BR w5 hi Ma (fun e=>np e.symm) b1 b2
   obtain⟨LJ,q1,q2,q3⟩:=Fg F hG hG2
   refine⟨vj,Ma,v',LJ,q1,ih _ _ _ g2 (ta.list hj) (ready_mono hr (fun e=>np e.symm)) q2 ?_⟩
   rw[<-q3,Array.setIfInBounds_comm _ _ np]
   exact H2
theorem NZ {n:Nat} {vo:bj} {env:Env} {g:Rows} {v:AV} {mr:Option Row} (h:eS vo.op (cU env) (fZ vo.hid n g) ⟨vo.site,n⟩=some (v,mr)):VS X n vo env g v (jq g ⟨vo.site,n⟩ mr):=by
 unfold VS
 split
 ·rename_i ew;rw[ew]at h;simp[eS]at h
 ·rename_i ew;rw[ew]at h;simp[eS]at h
 ·rename_i ew;rw[ew]at h;simp[eS]at h
 ·rename_i ew;rw[ew]at h;simp[eS]at h
 ·rename_i ew;rw[ew]at h;simp[eS]at h
 ·rename_i ew;rw[ew]at h;simp[eS]at h
 ·rename_i ew;rw[ew]at h;simp[eS]at h
 ·exact⟨mr,h,rfl⟩
theorem Ip {n:Nat} {vo:bj} {env:Env} {g g':Rows} {v:AV} (h:ga vo.op (cU env) g ⟨vo.site,n⟩=some (v,g')):VS X n vo env g v g':=by
 unfold VS
 split
 ·rename_i ew;rw[ew]at h;simp[ga]at h
 ·rename_i ew;rw[ew]at h;simp[ga]at h
 ·exact h
 ·exact h
 ·exact h
 ·exact h
 ·exact h
 ·rename_i n1 n2 n3 n4 n5 n6 n7
  exfalso
  unfold ga at h
  split at h
  ·rename_i hh;exact n3 _ _ _ hh
  ·rename_i hh;exact n4 _ _ _ hh
  ·rename_i hh;exact n5 _ _ _ hh
  ·rename_i hh;exact n6 _ _ hh
  ·rename_i hh;exact n7 _ _ hh
  ·simp at h
theorem PO {vo:bj} {env:Env} {σ:ar} {next:AV->ar->Prop} (hv:fM X true vo env σ next):∃v g',VS X σ.next vo env σ.get v g'/\next v ⟨g',σ.next⟩:=by
 unfold fM at hv
 split at hv
 ·rename_i f args ew
  rcases hv with⟨r,hP,hn⟩|⟨h,_⟩|⟨hs,sz,rows,hM,hn⟩
  ·exact⟨r,σ.get,by unfold VS;rw[ew];exact .inl ⟨hP,rfl⟩,hn⟩
  ·cases h
  ·exact⟨_,_,by unfold VS;rw[ew];exact .inr ⟨hs,sz,rows,hM,rfl,rfl⟩,hn⟩
 ·rename_i x args ew
  split at hv
  ·rename_i f cQ hx
   have vP:wu (cU env x) (args.map (cU env))=some (f,args.map (cU env)++cQ):=by rw[hx];rfl
   rcases hv with⟨r,hP,hn⟩|⟨h,_⟩|⟨hs,sz,rows,hM,hn⟩
   ·exact⟨r,σ.get,by unfold VS;rw[ew];exact⟨f,_,vP,.inl ⟨hP,rfl⟩⟩,hn⟩
   ·cases h
   ·exact⟨_,_,by unfold VS;rw[ew];exact⟨f,_,vP,.inr ⟨hs,sz,rows,hM,rfl,rfl⟩⟩,hn⟩
  ·rename_i f cQ hx
   have vP:wu (cU env x) (args.map (cU env))=some (f,cQ++args.map (cU env)):=by rw[hx];rfl
   rcases hv with⟨r,hP,hn⟩|⟨h,_⟩|⟨hs,sz,rows,hM,hn⟩
   ·exact⟨r,σ.get,by unfold VS;rw[ew];exact⟨f,_,vP,.inl ⟨hP,rfl⟩⟩,hn⟩
   ·cases h
   ·exact⟨_,_,by unfold VS;rw[ew];exact⟨f,_,vP,.inr ⟨hs,sz,rows,hM,rfl,rfl⟩⟩,hn⟩
  ·exact hv.elim
 ·split at hv
  ·rename_i v g h;exact⟨v,g,Ip h,hv⟩
  ·exact hv.elim
 ·split at hv
  ·rename_i v g h;exact⟨v,g,Ip h,hv⟩
  ·exact hv.elim
 ·split at hv
  ·rename_i v g h;exact⟨v,g,Ip h,hv⟩
  ·exact hv.elim
 ·split at hv
  ·rename_i v g h;exact⟨v,g,Ip h,hv⟩
  ·exact hv.elim
 ·split at hv
  ·rename_i v g h;exact⟨v,g,Ip h,hv⟩
  ·exact hv.elim
 ·split at hv
  ·rename_i v r h;exact⟨v,_,NZ h,hv⟩
  ·rename_i v h;exact⟨v,_,NZ h,hv⟩
  ·exact hv.elim
theorem xT {ops:Array Oper} {vl:List bj} {K:Env->ar->Prop} {n:Nat} (w5:pc ops vl (jG ops)=true) (hlen:vl.length=ops.size):∀(r:List bj) (k:Nat) (listed:Array Bool) (env:Env) (g:Rows),
  (∀j,r[j]? =vl[k+j]?)->listed.size=ops.size->(∀i,i<ops.size->listed[i]? =some (decide (i<k)))->k+r.length=ops.size->DC ops listed->wpOps X true r K env ⟨g,n⟩->KP X n ops vl (fun env g=>K env ⟨g,n+1⟩) r.length listed env g
 |[],k,listed,env,g,_,fw,hl,hk,_,hv=>by
  refine⟨?_,hv⟩
  rw[List.eq_nil_iff_forall_not_mem]
  intro j hj
  obtain⟨h0,o,ho,_⟩:=mem_ready.1 hj
  have dY:j<ops.size:=(Array.getElem?_eq_some_iff.1 ho).1
  have:=hl j dY
  simp at hk
  simp[this,show j<k by omega]at h0
 |vo::r,k,listed,env,g,hr,fw,hl,hk,ta,hv=>by
  simp only[List.length_cons]at hk
  have qt:vl[k]? =some vo:=by simpa using(hr 0).symm
  have mC:k<ops.size:=by omega
  have Jr:k∈Region.ready .any ops listed:=by
   rw[mem_ready]
   refine⟨by simp[hl k mC],ops[k],Array.getElem?_eq_getElem mC,fun e he hb=>?_⟩
   unfold pc Fw at w5
   simp only[Bool.and_eq_true,List.all_eq_true]at w5
   have hm:(ops[k],k)∈ops.toList.zipIdx:=by
    rw[List.mem_iff_getElem?]
    exact⟨k,by simp[List.getElem?_zipIdx,mC]⟩
   have:=w5.1 _ hm
   rw[Array.all_eq_true_iff_forall_mem]at this
   have:=this e he
   simp only[hb,Bool.not_true,Bool.false_or,decide_eq_true_eq]at this
   simp[hl e.on (by omega),this]
  have hGS:∃v g',GS X n vo env g v g'/\wpOps X true r K (upd env vo.dst v) ⟨g',n⟩:=by
   unfold wpOps at hv
   unfold GS
   split at hv
   ·rename_i hw
    simp only[hw,if_true]
    exact PO hv
   ·rename_i hw
    simp only[hw]
    exact⟨.undef,g,⟨rfl,rfl⟩,hv⟩
  obtain⟨v,g',h1,h2⟩:=hGS
  refine Fc w5 hlen qt r.length listed env g g' ta Jr h1 ?_
  refine xT w5 hlen r (k+1) _ _ _ (fun j=>by have:=hr (j+1);simpa[Nat.add_assoc,Nat.add_comm 1 j]using this) (by simp[fw]) (fun i hi=>?_) (by omega) (ta.list Jr) h2
  by_cases y8:i=k
  ·subst y8;simp[fw,mC]
  ·rw[Array.getElem?_setIfInBounds_ne (fun e=>y8 e.symm),hl i hi]
   congr 1
   have:(i<k)=(i<k+1):=by apply propext;omega
   simp[this]
theorem oZ {f:Nat->Oper->Option bj}:∀{l:List Oper} {vl:List bj} {j:Nat},allM f l j=some vl->vl.length=l.length/\∀(i:Nat) (o:Oper),l[i]? =some o->∃vo,vl[i]? =some vo/\f (j+i) o=some vo
 |[],vl,j,h=>by simp[allM]at h;subst h;simp
 |o::l,vl,j,h=>by
  simp only[allM,Option.bind_eq_bind,Option.bind_eq_some_iff,Option.pure_def,Option.some.injEq]at h
  obtain⟨vo,qt,ud,te,rfl⟩:=h
  obtain⟨h1,h2⟩:=oZ te
  refine⟨by simp[h1],fun i o' hi=>?_⟩
  cases i with
  |zero=>simp at hi;subst hi;exact⟨vo,rfl,qt⟩
  |succ i=>
   simp at hi
   obtain⟨q,hq,hf⟩:=h2 i o' hi
   exact⟨q,by simpa using hq,by rw[<-hf];congr 1;omega⟩
theorem yL {ops:Array Oper} {vl:List bj} {nt site0:Nat} {draw mk:Bool} {bs:Array Nat} {hidden:List (Nat×Bool)} {n:Nat} {K:Env->Rows->Prop} {Q:Exit->Act->World->Prop} (dE:allM (kY P ops nt site0 draw mk bs hidden) ops.toList 0=some vl):
  ∀(fuel:Nat) (listed:Array Bool) (env:Env) (g:Rows) (a:Act) (w:World) (D:Nat->Prop) (ι:Names) (U:Nat->Prop),KP (Sound P) n ops vl K fuel listed env g->gD P hs D ι g w->Used ι n U->(∀s,U s->∃i,s=site0+i/\listed.getD i false=true)->cu P w D ι env a->a.tmps.size=nt->
  (∀iP g' a' w' D' ι' U',K iP g'->Step hs D ι w D' ι' w'->gD P hs D' ι' g' w'->Used ι' n U'->cu P w' D' ι' iP a'->a'.tmps.size=nt->a'.defers=a.defers->Q .normal a' w')->wpAny P .any ops Q fuel listed a w:=by
 intro fuel
 induction fuel with
 |zero=>intro listed env g a w D ι U h S Us hU E fw hQ;exact⟨h.1,hQ env g a w D ι U h.2 (Step.refl _ _ _ _) S Us E fw rfl⟩
 |succ fuel ih=>
  intro listed env g a w D ι U h S Us hU E fw hQ
  refine⟨fun hr=>hQ env g a w D ι U (h.1 hr) (Step.refl _ _ _ _) S Us E fw rfl,fun i hi=>?_⟩
  obtain⟨vo,qt,v,g',hG,Nx⟩:=h.2 i hi
  obtain⟨_,o,ho,_⟩:=mem_ready.1 hi
  obtain⟨vo',mO,Rg⟩:=(oZ dE).2 i o (by simpa using ho)
  rw[qt]at mO;injection mO with mO;subst mO
  rw[Nat.zero_add]at Rg
  obtain⟨hc,hd,Ch,yl,hg⟩:=pW Rg
  have hw:=ue (ops:=ops) (vo:=vo) E hg
  have UD:¬U vo.site:=fun hu=>by
   obtain⟨i',he,hl⟩:=hU _ hu
   have:i'=i:=by omega
   subst this
   rw[jj hi]at hl;cases hl
  have jI:i<listed.size:=by
   have h0:=(mem_ready.1 hi).1
   rcases Nat.lt_or_ge i listed.size with h|h
   ·exact h
   ·simp[Array.getElem?_eq_none h]at h0
  unfold wpOp
  simp only[ho]
  rw[<-hw]
  unfold GS at hG
  by_cases GW:aO vo.guard env=true
  ·rw[if_pos GW]
   rw[if_pos GW]at hG
   refine .inl (Bz hc hG S Us UD E fun a' w' ⟨u,D',ι',ha,T,S',hR,U'⟩=>?_)
   subst ha
   refine ih _ _ _ _ w' D' ι' _ Nx S' U' (fun s Ce=>?_) (by rw[hd];exact iH (pd E T) hR yl fw) (by rw[eZ];exact fw) fun iP g2 a2 w2 D2 ι2 U2 hk T2 S2 TV E2 lH DX=>hQ iP g2 a2 w2 D2 ι2 U2 hk (T.trans T2) S2 TV E2 lH (DX.trans (put_defers _ _ _))
   rcases Ce with h|h
   ·obtain⟨i',he,hl⟩:=hU _ h
    exact⟨i',he,getD_set_true hl⟩
   ·exact⟨i,by rw[h,Ch],by simp[jI]⟩
  ·rw[if_neg GW]
   rw[if_neg GW]at hG
   obtain⟨rfl,rfl⟩:=hG
   refine ih _ _ _ _ w D ι U Nx S Us (fun s Ce=>?_) (by rw[hd];exact iH E cL.undef yl fw) (by rw[eZ];exact fw) fun iP g2 a2 w2 D2 ι2 U2 hk T2 S2 TV E2 lH DX=>hQ iP g2 a2 w2 D2 ι2 U2 hk T2 S2 TV E2 lH (DX.trans (put_defers _ _ _))
   obtain⟨i',he,hl⟩:=hU _ Ce
   exact⟨i',he,getD_set_true hl⟩
end
end Go.Proofs.YtgoljkjaameagaaGreat.V

namespace Go.Proofs.YtgoljkjaameagaaGreat.V
open Go.RowKit
variable {P:Program} {w w':World} {D D' D2:Nat->Prop} {ι ι' ι2:Names}
section
variable {hs:Nat} {X:fN}
def qx (X:fN):Prop:=∀f args σ K K',(∀r σ',K r σ'->K' r σ')->X f args σ K->X f args σ K'
theorem kW:qx (Sound P):=fun _ _ _ _ _ hK h hs D ι w vs S U A=>
 (h hs D ι w vs S U A).mono fun _ _ ⟨r,g',n',D',ι',u,he,hk,rest⟩=>⟨r,g',n',D',ι',u,he,hK _ _ hk,rest⟩
def step (X:fN) (vo:bj) (N:Env->ar->Prop) (env:Env) (σ:ar):Prop:=
 if aO vo.guard env then fM X false vo env σ fun v σ'=>N (upd env vo.dst v) σ' else N (upd env vo.dst .undef) σ
theorem qO (hK:qx X) {draw:Bool} {hid:List Nat} {site f:Nat} {args:List AV} {σ:ar} {n n':AV->ar->Prop} (hn:∀v σ',n v σ'->n' v σ') (hp:cK X draw hid site f args σ n):cK X draw hid site f args σ n':=by
 rcases hp with⟨r,h1,h2⟩|⟨h1,h2⟩|⟨h1,sz,rows,h2,h3⟩
 ·exact .inl ⟨r,h1,hn _ _ h2⟩
 ·exact .inr (.inl ⟨h1,hK _ _ _ _ _ hn h2⟩)
 ·exact .inr (.inr ⟨h1,sz,rows,h2,hn _ _ h3⟩)
theorem C8 (hK:qx X) {draw:Bool} {o:bj} {env:Env} {σ:ar} {n n':AV->ar->Prop} (hn:∀v σ',n v σ'->n' v σ') (hp:fM X draw o env σ n):fM X draw o env σ n':=by
 unfold fM at hp ⊢
 split at hp
 ·exact qO hK hn hp
 ·split at hp
  ·exact qO hK hn hp
  ·exact qO hK hn hp
  ·exact hp.elim
 ·split at hp
  ·exact hn _ _ hp
  ·exact hp.elim
 ·split at hp
  ·exact hn _ _ hp
  ·exact hp.elim
 ·split at hp
  ·exact hn _ _ hp
  ·exact hp.elim
 ·split at hp
  ·exact hn _ _ hp
  ·exact hp.elim
 ·split at hp
  ·exact hn _ _ hp
  ·exact hp.elim
 ·split at hp
  ·exact hn _ _ hp
  ·exact hn _ _ hp
  ·exact hp.elim
theorem j6 (hK:qx X) {vo:bj} {N N':Env->ar->Prop} (h:∀e s,N e s->N' e s) {env:Env} {σ:ar} (hp:step X vo N env σ):step X vo N' env σ:=by
 unfold step at hp ⊢
 split at hp
 ·rename_i hw;rw[if_pos hw];exact C8 hK (fun v σ'=>h _ _) hp
 ·rename_i hw;rw[if_neg hw];exact h _ _ hp
theorem HP {env jd:Env} {vo:bj} {σ:ar} {n:AV->ar->Prop} (h:∀t∈vo.op.gN,env t=jd t) (hv:fM X false vo env σ n):fM X false vo jd σ n:=by
 unfold fM at hv ⊢
 split at hv
 ·rename_i f args ew
  rw[ew]at h
  simp only[gG.gN]at h
  rw[<-map_congr h];exact hv
 ·rename_i x args ew
  rw[ew]at h
  simp only[gG.gN,List.mem_append]at h
  rw[<-map_congr (l:=args) fun t ht=>h t (.inr ht),<-bp (x:=x) fun t ht=>h t (.inl ht)];exact hv
 ·rw[<-ij h];exact hv
 ·rw[<-ij h];exact hv
 ·rw[<-ij h];exact hv
 ·rw[<-ij h];exact hv
 ·rw[<-ij h];exact hv
 ·rw[<-tT h];exact hv
theorem ma {x:bj} (hq:lk x=true) {N:Env->ar->Prop} {env:Env} {σ:ar}:step X x N env σ↔∃v g',GS X σ.next x env σ.get v g'/\N (upd env x.dst v) ⟨g',σ.next⟩:=by
 unfold lk at hq
 simp only[Bool.and_eq_true,Bool.not_eq_true',bne_iff_ne]at hq
 obtain⟨Lh,ve⟩:=hq
 unfold step GS
 by_cases hw:aO x.guard env=true
 ·rw[if_pos hw]
  simp only[hw,if_true]
  unfold fM
  split
  ·rename_i ew;simp[ew,gG.mi]at Lh
  ·rename_i ew;simp[ew,gG.mi]at Lh
  ·rename_i ew;simp[ew,gG.cls]at ve
  ·rename_i ew;simp[ew,gG.cls]at ve
  ·rename_i ew;simp[ew,gG.cls]at ve
  ·rename_i ew;simp[ew,gG.cls]at ve
  ·rename_i ew;simp[ew,gG.cls]at ve
  ·rename_i n1 n2 n3 n4 n5 n6 n7
   have hVS:∀v g',VS X σ.next x env σ.get v g'↔∃mr,eS x.op (cU env) (fZ x.hid σ.next σ.get) ⟨x.site,σ.next⟩=some (v,mr)/\g'=jq σ.get ⟨x.site,σ.next⟩ mr:=fun v g'=>by
    unfold VS
    split
    ·rename_i hh;exact(n1 _ _ hh).elim
    ·rename_i hh;exact(n2 _ _ hh).elim
    ·rename_i hh;exact(n3 _ _ _ hh).elim
    ·rename_i hh;exact(n4 _ _ _ hh).elim
    ·rename_i hh;exact(n5 _ _ _ hh).elim
    ·rename_i hh;exact(n6 _ _ hh).elim
    ·rename_i hh;exact(n7 _ _ hh).elim
    ·exact Iff.rfl
   simp only[hVS]
   cases hz:eS x.op (cU env) (fZ x.hid σ.next σ.get) ⟨x.site,σ.next⟩with
   |none=>
    exact⟨fun h=>h.elim,fun⟨v,g',⟨mr,h,_⟩,_⟩=>by cases h⟩
   |some p=>
    obtain⟨v,mr⟩:=p
    have key:∀(v':AV) (g':Rows),(∃QI,some (v,mr)=some (v',QI)/\g'=jq σ.get ⟨x.site,σ.next⟩ QI)↔v'=v/\g'=jq σ.get ⟨x.site,σ.next⟩ mr:=fun v' g'=>by
     constructor
     ·rintro⟨QI,h1,h2⟩
      injection h1 with h1;injection h1 with h1 h3
      subst h1;subst h3
      exact⟨rfl,h2⟩
     ·rintro⟨rfl,rfl⟩;exact⟨mr,rfl,rfl⟩
    have fin:(∃v' g',(∃QI,some (v,mr)=some (v',QI)/\g'=jq σ.get ⟨x.site,σ.next⟩ QI)/\N (upd env x.dst v') ⟨g',σ.next⟩)↔N (upd env x.dst v) ⟨jq σ.get ⟨x.site,σ.next⟩ mr,σ.next⟩:=by
     constructor
     ·rintro⟨v',g',h,hN⟩
      obtain⟨rfl,rfl⟩:=(key v' g').1 h
      exact hN
     ·intro hN;exact⟨v,_,(key _ _).2 ⟨rfl,rfl⟩,hN⟩
    cases mr with
    |none=>exact fin.symm
    |some r=>exact fin.symm
 ·rw[if_neg hw]
  simp only[if_neg hw]
  exact⟨fun h=>⟨_,_,⟨rfl,rfl⟩,h⟩,fun⟨v,g',⟨hv,hg⟩,h⟩=>by rw[hv,hg]at h;exact h⟩
def xv (x:bj) (env:Env) (v:AV):Prop:=if aO x.guard env then eS x.op (cU env) (fun _=>none) ⟨0,0⟩=some (v,none)else v=.undef
theorem xp {x:bj} (hp:x.op.cls=.pure):lk x=true:=by
 unfold lk
 rw[hp]
 cases hc:x.op<;>simp[hc,gG.cls]at hp<;>rfl
theorem tY {x:bj} (hp:x.op.cls=.pure) {N:Env->ar->Prop} {env:Env} {σ:ar}:step X x N env σ↔∃v,xv x env v/\N (upd env x.dst v) σ:=by
 rw[ma (xp hp)]
 unfold GS xv
 by_cases hw:aO x.guard env=true
 ·simp only[hw,if_true]
  constructor
  ·rintro⟨v,g',h,hN⟩
   obtain⟨rfl,dE⟩:=zP hp h
   refine⟨v,?_,hN⟩
   unfold VS at h
   split at h
   ·rename_i ew;rw[ew]at hp;simp[gG.cls]at hp
   ·rename_i ew;rw[ew]at hp;simp[gG.cls]at hp
   ·rename_i ew;rw[ew]at hp;simp[gG.cls]at hp
   ·rename_i ew;rw[ew]at hp;simp[gG.cls]at hp
   ·rename_i ew;rw[ew]at hp;simp[gG.cls]at hp
   ·rename_i ew;rw[ew]at hp;simp[gG.cls]at hp
   ·rename_i ew;rw[ew]at hp;simp[gG.cls]at hp
   ·obtain⟨mr,hq,_⟩:=h
    have Va:mr=none:=by
     cases mr with
     |none=>rfl
     |some r=>have:=xq hq;simp[rD,hp]at this
    subst Va
    rw[<-xr (g:=fZ x.hid σ.next σ.get) (id:=⟨x.site,σ.next⟩) hp];exact hq
  ·rintro⟨v,h,hN⟩
   exact⟨v,σ.get,NZ (mr:=none) (by rw[xr (g2:=fun _=>none) (id2:=⟨0,0⟩) hp];exact h),hN⟩
 ·simp only[if_neg hw]
  exact⟨fun⟨v,g',⟨hv,hg⟩,h⟩=>⟨v,hv,by rw[hg]at h;exact h⟩,fun⟨v,hv,h⟩=>⟨v,σ.get,⟨hv,rfl⟩,h⟩⟩
theorem KW {x:bj} {env jd:Env} {v:AV} (h:∀t∈x.gN,env t=jd t) (hv:xv x env v):xv x jd v:=by
 unfold xv at hv ⊢
 rw[<-nQ h,<-tT fun t ht=>h t (sS ht)];exact hv
structure M7 (x y:bj):Prop where
 xy:∀k,x.dst=some k->k∉y.gN
 yx:∀k,y.dst=some k->k∉x.gN
 dst:∀k,x.dst=some k->y.dst≠some k
theorem sY {x y:bj} (h:ub x y=true):M7 x y:=by
 unfold ub at h
 simp only[Bool.and_eq_true]at h
 obtain⟨a1,a2⟩:=h
 refine⟨fun k hk=>?_,fun k hk=>?_,fun k hk=>?_⟩
 ·rw[hk]at a1;simp at a1;exact a1.1
 ·rw[hk]at a2;simpa using a2
 ·rw[hk]at a1;simp at a1;exact a1.2
theorem y6 {x y:bj} (h:y5 x y=true):(M7 x y/\x.op.cls=.pure)∨(Dq x y/\lk x=true/\lk y=true):=by
 unfold y5 at h
 simp only[Bool.or_eq_true,Bool.and_eq_true,beq_iff_eq]at h
 rcases h with⟨h1,h2⟩|⟨⟨h1,h2⟩,h3⟩
 ·exact .inl ⟨sY h1,h2⟩
 ·exact .inr ⟨qV h1,h2,h3⟩
theorem BZ {x y:bj} (h:y5 x y=true):lk x=true:=by
 rcases y6 h with h|h
 ·exact xp h.2
 ·exact h.2.1
theorem Hz (hK:qx X) {x y:bj} (hf:y5 x y=true) {N:Env->ar->Prop} {env:Env} {σ:ar} (h:step X x (fun e s=>step X y N e s) env σ):step X y (fun e s=>step X x N e s) env σ:=by
 rcases y6 hf with⟨F,hp⟩|⟨F,hx,hy⟩
 ·rw[tY hp]at h
  obtain⟨v,hx,h⟩:=h
  have NA:=fun(v':AV)=>xS (env:=env) (v:=v) (u:=v') F.dst
  have Dj:=nj (env:=env) (v:=v) F.xy
  have back:∀(v':AV),xv x (upd env y.dst v') v:=fun v'=>KW (fun t ht=>(nj F.yx t ht).symm) hx
  unfold step at h ⊢
  rw[nQ Dj]at h
  split at h
  ·rename_i hw
   rw[if_pos hw]
   refine C8 hK (fun v' σ' hN=>?_) (HP (fun t ht=>Dj t (sS ht)) h)
   rw[NA]at hN
   exact(tY hp).2 ⟨v,back v',hN⟩
  ·rename_i hw
   rw[if_neg hw]
   rw[NA]at h
   exact(tY hp).2 ⟨v,back _,h⟩
 ·rw[ma hx]at h
  obtain⟨v,g1,h1,h⟩:=h
  rw[ma hy]at h
  obtain⟨v',g2,h2,h⟩:=h
  obtain⟨LJ,q1,q2,q3⟩:=Fg F h1 h2
  rw[q3]at h
  exact(ma hy).2 ⟨v',LJ,q1,(ma hx).2 ⟨v,g2,q2,h⟩⟩
def Bb (X:fN) (ops:Array Oper) (vl:List bj) (K:Env->ar->Prop):Nat->Array Bool->Env->ar->Prop
 |0,listed,env,σ=>Region.ready .any ops listed=[]/\K env ⟨σ.get,σ.next+1⟩
 |f+1,listed,env,σ=>(Region.ready .any ops listed=[]->K env ⟨σ.get,σ.next+1⟩)/\∀i∈Region.ready .any ops listed,∃vo,vl[i]? =some vo/\step X vo (fun e s=>Bb X ops vl K f (listed.setIfInBounds i true) e s) env σ
theorem DN {ops:Array Oper} {vl:List bj} {bs:Array Nat} {listed:Array Bool} {i:Nat} (h:qU ops vl bs listed i=true) (j:Nat):qU ops vl bs (listed.setIfInBounds j true) i=true:=by
 unfold qU at h ⊢
 split at h
 ·rename_i x hx
  simp only[List.all_eq_true,Bool.or_eq_true]at h ⊢
  intro k hk
  rcases h k hk with((h|h)|h)|h
  ·exact .inl (.inl (.inl (getD_set_true h)))
  ·exact .inl (.inl (.inr h))
  ·exact .inl (.inr h)
  ·exact .inr h
 ·cases h
theorem ur {ops:Array Oper} {vl:List bj} {listed:Array Bool} {i j:Nat} {vi:bj} (ta:DC ops listed) (h:qU ops vl (jG ops) listed i=true) (hi:vl[i]? =some vi) (hr:i∈Region.ready .any ops listed) (hj:j∈Region.ready .any ops listed) (np:j≠i):∃vj,vl[j]? =some vj/\y5 vi vj=true:=by
 unfold qU at h
 rw[hi]at h
 simp only[List.all_eq_true,Bool.or_eq_true,beq_iff_eq]at h
 obtain⟨_,o,ho,_⟩:=mem_ready.1 hj
 rcases h j (List.mem_range.2 (Array.getElem?_eq_some_iff.1 ho).1)with((h|h)|h)|h
 ·rw[jj hj]at h;cases h
 ·exact absurd h np
 ·have:=ll ta hj i h
  rw[jj hr]at this;cases this
 ·split at h
  ·rename_i y hy;exact⟨y,hy,h⟩
  ·cases h
theorem Ff (hK:qx X) {ops:Array Oper} {vl:List bj} {K:Env->ar->Prop} {i:Nat} {vi:bj} (hi:vl[i]? =some vi):∀(fuel:Nat) (listed:Array Bool) (env:Env) (σ:ar),
  DC ops listed->i∈Region.ready .any ops listed->qU ops vl (jG ops) listed i=true->step X vi (fun e s=>Bb X ops vl K fuel (listed.setIfInBounds i true) e s) env σ->Bb X ops vl K (fuel+1) listed env σ:=by
 intro fuel
 induction fuel with
 |zero=>
  intro listed env σ ta hr jV H
  refine⟨fun h=>(by rw[h]at hr;cases hr),fun j hj=>?_⟩
  by_cases np:j=i
  ·subst np;exact⟨vi,hi,H⟩
  ·obtain⟨vj,Ma,Rq⟩:=ur ta jV hi hr hj np
   rw[ma (BZ Rq)]at H
   obtain⟨v,g',_,H⟩:=H
   have:=ready_mono hj np
   rw[H.1]at this;cases this
 |succ fuel ih=>
  intro listed env σ ta hr jV H
  refine⟨fun h=>(by rw[h]at hr;cases hr),fun j hj=>?_⟩
  by_cases np:j=i
  ·subst np;exact⟨vi,hi,H⟩
  ·obtain⟨vj,Ma,Rq⟩:=ur ta jV hi hr hj np
   refine⟨vj,Ma,?_⟩
   have H2:step X vi (fun e s=>step X vj (fun e s=>Bb X ops vl K fuel ((listed.setIfInBounds i true).setIfInBounds j true) e s) e s) env σ:=j6 hK (fun e s h=>by
    obtain⟨vj',Am,h'⟩:=h.2 j (ready_mono hj np)
    rw[Ma]at Am;injection Am with Am;subst Am
    exact h') H
   refine j6 hK (fun e s h=>?_) (Hz hK Rq H2)
   refine ih _ _ _ (ta.list hj) (ready_mono hr (fun e=>np e.symm)) (DN jV j) ?_
   rw[Array.setIfInBounds_comm _ _ np]
   exact h
theorem tX {x:bj} (hg:x.guard=none) {N:Env->ar->Prop} {env:Env} {σ:ar}:step X x N env σ=fM X false x env σ (fun v σ'=>N (upd env x.dst v) σ'):=by
 unfold step
 rw[hg]
 simp[aO]
theorem EU {x y:bj} {t s sz:Nat} {ys:O} (hx:x.op=.append sz (.t t) ys) (hg:x.guard=none) (hf:FB s x y=true) {N:Env->ar->Prop} {env:Env} {σ:ar} (hl:Mn t s ys env σ.next) (h:step X x (fun e s=>step X y N e s) env σ):
  step X y (fun e σ'=>Mn t s ys e σ'.next/\step X x N e σ') env σ:=by
 unfold FB at hf
 simp only[Bool.and_eq_true,bne_iff_ne]at hf
 obtain⟨⟨⟨⟨⟨f1,hq⟩,f3⟩,f4⟩,f5⟩,f6⟩:=hf
 have F:=sY f1
 obtain⟨⟨len,ht⟩,hsrc⟩:=hl
 have Ju:∀k∈x.op.gN,∀v',upd env y.dst v' k=env k:=fun k hk v'=>nj (env:=env) (v:=v') F.yx k (sS hk)
 have dK:t∈x.op.gN:=by rw[hx];simp[gG.gN,gZ]
 have FQ:∀v',cU (upd env y.dst v') ys=cU env ys:=fun v'=>(bp fun k hk=>by rw[Ju k (by rw[hx];simp[gG.gN,hk])]).symm
 rw[tX hg]at h
 unfold fM at h
 simp only[hx,ga]at h
 have ex:cU env (.t t)=.own ⟨s,σ.next⟩ 0 len:=ht
 rw[ex]at h
 cases hr:br σ.get (cU env ys)with
 |none=>rw[hr]at h;exact h.elim
 |some rs=>
  rw[hr]at h
  simp only[Option.bind_some,aZ]at h
  cases Jg:σ.get ⟨s,σ.next⟩with
  |none=>rw[Jg]at h;exact h.elim
  |some r=>
   rw[Jg]at h
   simp only[Option.bind_some]at h
   split at h
   ·rename_i v g1 hv
    split at hv
    ·rename_i hcond
     simp only[Option.some.injEq,Prod.mk.injEq]at hv
     obtain⟨rfl,rfl⟩:=hv
     rw[ma hq]at h
     obtain⟨v',g2,hG,hN⟩:=h
     have LZ:(⟨y.site,σ.next⟩:Id)≠⟨s,σ.next⟩:=fun e=>f5 (by injection e)
     have Jk:(⟨y.site,σ.next⟩:Id)≠⟨x.site,σ.next⟩:=fun e=>f6 (by injection e)
     replace hG:GS X σ.next y env (bt (cw σ.get ⟨s,σ.next⟩) ⟨x.site,σ.next⟩ ⟨true,sz,r.rows++rs⟩) v' g2:=wc (nj F.xy) hG
     have Vz:fZ y.hid σ.next σ.get=fZ y.hid σ.next (bt (cw σ.get ⟨s,σ.next⟩) ⟨x.site,σ.next⟩ ⟨true,sz,r.rows++rs⟩):=by
      cases hh:y.hid with
      |nil=>rw[hh]at f3;simp at f3
      |cons a l=>
       rw[hh]at f3 f4
       funext i
       show(if (a::l).contains i.site=true/\i.bW=σ.next then none else σ.get i)=if (a::l).contains i.site=true/\i.bW=σ.next then none else _
       by_cases h1:i=⟨x.site,σ.next⟩
       ·subst h1;rw[if_pos ⟨f4,rfl⟩,if_pos ⟨f4,rfl⟩]
       ·by_cases h2:i=⟨s,σ.next⟩
        ·subst h2;rw[if_pos ⟨f3,rfl⟩,if_pos ⟨f3,rfl⟩]
        ·simp only[bt,cw,if_neg h1,if_neg h2]
     obtain⟨my,Rs,hG'⟩:∃my,g2=jq (bt (cw σ.get ⟨s,σ.next⟩) ⟨x.site,σ.next⟩ ⟨true,sz,r.rows++rs⟩) ⟨y.site,σ.next⟩ my/\GS X σ.next y env σ.get v' (jq σ.get ⟨y.site,σ.next⟩ my):=by
      unfold GS at hG ⊢
      by_cases wy:aO y.guard env=true
      ·rw[if_pos wy]at hG
       have hcw:y.op.cls≠.write:=by
        unfold lk at hq
        simp only[Bool.and_eq_true,bne_iff_ne]at hq
        exact hq.2
       obtain⟨my,rfl,_,N2⟩:=wi hcw hG
       exact⟨my,rfl,by rw[if_pos wy];exact N2 _ Vz⟩
      ·rw[if_neg wy]at hG
       obtain⟨rfl,rfl⟩:=hG
       exact⟨none,rfl,by rw[if_neg wy];exact⟨rfl,rfl⟩⟩
     subst Rs
     refine(ma hq).2 ⟨v',_,hG',⟨⟨len,by rw[Ju t dK];exact ht⟩,fun id o l he=>hsrc id o l (by rw[<-FQ v'];exact he)⟩,?_⟩
     rw[tX hg]
     unfold fM
     have ex':cU (upd env y.dst v') (.t t)=.own ⟨s,σ.next⟩ 0 len:=by
      show upd env y.dst v' t= _
      rw[Ju t dK];exact ht
     simp only[hx,ga,ex',FQ v']
     have oK:br (jq σ.get ⟨y.site,σ.next⟩ my) (cU env ys)=some rs:=by
      cases my with
      |none=>exact hr
      |some row=>
       revert hr
       cases hev:cU env ys<;>simp only[br,jq]<;>try exact fun h=>h
       rename_i id o l
       have:id≠⟨y.site,σ.next⟩:=fun e=>hsrc id o l hev (by rw[e])
       simp only[bt,if_neg this];exact fun h=>h
     have UX:jq σ.get ⟨y.site,σ.next⟩ my ⟨s,σ.next⟩=some r:=by
      cases my with
      |none=>exact Jg
      |some row=>simp only[jq,bt,if_neg (fun e=>LZ e.symm:(⟨s,σ.next⟩:Id)≠⟨y.site,σ.next⟩)];exact Jg
     rw[oK]
     simp only[Option.bind_some,aZ,UX]
     rw[if_pos hcond]
     have hgg:bt (cw (jq σ.get ⟨y.site,σ.next⟩ my) ⟨s,σ.next⟩) ⟨x.site,σ.next⟩ ⟨true,sz,r.rows++rs⟩=jq (bt (cw σ.get ⟨s,σ.next⟩) ⟨x.site,σ.next⟩ ⟨true,sz,r.rows++rs⟩) ⟨y.site,σ.next⟩ my:=by
      cases my with
      |none=>rfl
      |some row=>
       funext i
       simp only[jq,bt,cw]
       by_cases h1:i=⟨y.site,σ.next⟩
       ·subst h1;rw[if_neg Jk,if_neg LZ,if_pos rfl,if_pos rfl]
       ·simp only[if_neg h1]
     have hu:=xS (env:=env) (v:=AV.own ⟨x.site,σ.next⟩ 0 (len+rs.length)) (u:=v') F.dst
     show N (upd (upd env y.dst v') x.dst (.own ⟨x.site,σ.next⟩ 0 (len+rs.length))) ⟨bt (cw (jq σ.get ⟨y.site,σ.next⟩ my) ⟨s,σ.next⟩) ⟨x.site,σ.next⟩ ⟨true,sz,r.rows++rs⟩,σ.next⟩
     rw[hgg,<-hu]
     exact hN
    ·cases hv
   ·exact h.elim
theorem DM {ops:Array Oper} {vl:List bj} {bs:Array Nat} {listed:Array Bool} {i s:Nat} (h:pe ops vl bs listed i s=true) (j:Nat):pe ops vl bs (listed.setIfInBounds j true) i s=true:=by
 unfold pe at h ⊢
 split at h
 ·rename_i x hx
  simp only[List.all_eq_true,Bool.or_eq_true]at h ⊢
  intro k hk
  rcases h k hk with((h|h)|h)|h
  ·exact .inl (.inl (.inl (getD_set_true h)))
  ·exact .inl (.inl (.inr h))
  ·exact .inl (.inr h)
  ·exact .inr h
 ·cases h
theorem BW {ops:Array Oper} {vl:List bj} {listed:Array Bool} {i j s:Nat} {vi:bj} (ta:DC ops listed) (h:pe ops vl (jG ops) listed i s=true) (hi:vl[i]? =some vi) (hr:i∈Region.ready .any ops listed) (hj:j∈Region.ready .any ops listed) (np:j≠i):∃vj,vl[j]? =some vj/\FB s vi vj=true:=by
 unfold pe at h
 rw[hi]at h
 simp only[List.all_eq_true,Bool.or_eq_true,beq_iff_eq]at h
 obtain⟨_,o,ho,_⟩:=mem_ready.1 hj
 rcases h j (List.mem_range.2 (Array.getElem?_eq_some_iff.1 ho).1)with((h|h)|h)|h
 ·rw[jj hj]at h;cases h
 ·exact absurd h np
 ·have:=ll ta hj i h
  rw[jj hr]at this;cases this
 ·split at h
  ·rename_i y hy;exact⟨y,hy,h⟩
  ·cases h
theorem C9 (hK:qx X) {ops:Array Oper} {vl:List bj} {K:Env->ar->Prop} {i t s sz:Nat} {ys:O} {vi:bj} (hi:vl[i]? =some vi) (hx:vi.op=.append sz (.t t) ys) (hg:vi.guard=none):∀(fuel:Nat) (listed:Array Bool) (env:Env) (σ:ar),
  DC ops listed->i∈Region.ready .any ops listed->pe ops vl (jG ops) listed i s=true->Mn t s ys env σ.next->step X vi (fun e s=>Bb X ops vl K fuel (listed.setIfInBounds i true) e s) env σ->Bb X ops vl K (fuel+1) listed env σ:=by
 intro fuel
 induction fuel with
 |zero=>
  intro listed env σ ta hr jV Qq H
  refine⟨fun h=>(by rw[h]at hr;cases hr),fun j hj=>?_⟩
  by_cases np:j=i
  ·subst np;exact⟨vi,hi,H⟩
  ·exfalso
   have h0:=ready_mono hj np
   rw[tX hg]at H
   unfold fM at H
   simp only[hx]at H
   split at H
   ·rw[H.1]at h0;cases h0
   ·exact H
 |succ fuel ih=>
  intro listed env σ ta hr jV Qq H
  refine⟨fun h=>(by rw[h]at hr;cases hr),fun j hj=>?_⟩
  by_cases np:j=i
  ·subst np;exact⟨vi,hi,H⟩
  ·obtain⟨vj,Ma,Rq⟩:=BW ta jV hi hr hj np
   refine⟨vj,Ma,?_⟩
   have H2:step X vi (fun e s=>step X vj (fun e s=>Bb X ops vl K fuel ((listed.setIfInBounds i true).setIfInBounds j true) e s) e s) env σ:=j6 hK (fun e s h=>by
    obtain⟨vj',Am,h'⟩:=h.2 j (ready_mono hj np)
    rw[Ma]at Am;injection Am with Am;subst Am
    exact h') H
   refine j6 hK (fun e s h=>?_) (EU hx hg Rq Qq H2)
   refine ih _ _ _ (ta.list hj) (ready_mono hr (fun e=>np e.symm)) (DM jV j) h.1 ?_
   rw[Array.setIfInBounds_comm _ _ np]
   exact h.2
theorem JP {ops:Array Oper} {vl:List bj} {bs:Array Nat} {listed:Array Bool} {i i' t s:Nat} {y:O} {vo:bj} (h:Pk ops vl bs listed i=some (i',t,s,y,vo)):i'=i/\vl[i]? =some vo/\(∃sz,vo.op=.append sz (.t t) y)/\vo.guard=none/\pe ops vl bs listed i s=true:=by
 unfold Pk at h
 split at h
 ·rename_i x hx
  split at h
  ·rename_i t' s' y' kD
   split at h
   ·rename_i hf
    simp only[Option.some.injEq,Prod.mk.injEq]at h
    obtain⟨rfl,rfl,rfl,rfl,rfl⟩:=h
    unfold NH at kD
    split at kD
    ·rename_i sz t2 y2 ho vN
     split at kD
     ·simp only[Option.some.injEq,Prod.mk.injEq]at kD
      obtain⟨rfl,rfl,rfl⟩:=kD
      exact⟨rfl,hx,⟨sz,ho⟩,vN,hf⟩
     ·cases kD
    ·cases kD
   ·cases h
  ·cases h
 ·cases h
theorem yQ {X:fN} {Q:Ex->Env->ar->Prop} {env:Env} {σ:ar}:∀{l:List VC} {t:VC},BH l=some t->dL X t Q env σ->∀c∈l,dL X c Q env σ
 |[],t,h,_,c,hc=>by cases hc
 |[c0],t,h,hw,c,hc=>by
  simp only[BH,Option.some.injEq]at h
  subst h
  rw[List.mem_singleton]at hc
  subst hc;exact hw
 |c0::c1::r,t,h,hw,c,hc=>by
  simp only[BH,Option.map_eq_some_iff]at h
  obtain⟨t',H0,rfl⟩:=h
  rcases List.mem_cons.1 hc with rfl|hc
  ·exact hw.1
  ·exact yQ H0 hw.2 c hc
theorem mapM_mem {α β:Type} {f:α->Option β}:∀{l:List α} {r:List β},l.mapM f=some r->∀i∈l,∃b∈r,f i=some b
 |[],_,_,i,hi=>by cases hi
 |a::l,r,h,i,hi=>by
  simp only[List.mapM_cons,Option.bind_eq_bind,Option.bind_eq_some_iff,Option.pure_def,Option.some.injEq]at h
  obtain⟨b,hb,r',hr,rfl⟩:=h
  rcases List.mem_cons.1 hi with rfl|hi
  ·exact⟨b,by simp,hb⟩
  ·obtain⟨c,hc,hf⟩:=mapM_mem hr i hi
   exact⟨c,List.mem_cons_of_mem _ hc,hf⟩
theorem HM (hK:qx X) {ops:Array Oper} {vl:List bj} {Q:Ex->Env->ar->Prop}:∀(n:Nat) (listed:Array Bool) (t:VC) (env:Env) (σ:ar),xP ops vl (jG ops) n listed=some t->DC ops listed->dL X t Q env σ->Bb X ops vl (Q .normal) n listed env σ:=by
 intro n
 induction n with
 |zero=>
  intro listed t env σ h _ hw
  unfold xP at h
  split at h
  ·rename_i hr
   simp only[Option.some.injEq]at h
   subst h
   exact⟨hr,hw⟩
  ·cases h
 |succ n ih=>
  intro listed t env σ h ta hw
  unfold xP at h
  split at h
  ·rename_i hr
   simp only[Option.some.injEq]at h
   subst h
   exact⟨fun _=>hw,fun i hi=>by rw[hr]at hi;cases hi⟩
  ·rename_i r rs hr
   dsimp only at h
   split at h
   ·rename_i i hfind
    have HW:=List.mem_of_find?_eq_some hfind
    have y7:=List.find?_some hfind
    rw[<-hr]at HW
    split at h
    ·rename_i vo qt
     simp only[Option.map_eq_some_iff]at h
     obtain⟨t',H0,rfl⟩:=h
     exact Ff hK qt n listed env σ ta HW y7 (j6 hK (fun e s h=>ih _ _ _ _ H0 (ta.list HW) h) hw)
    ·cases h
   ·split at h
    ·rename_i i t s y vo hfind
     obtain⟨i0,HV,dY⟩:=List.exists_of_findSome?_eq_some hfind
     obtain⟨rfl,qt,⟨sz,ew⟩,vN,LR⟩:=JP dY
     rw[<-hr]at HV
     simp only[Option.map_eq_some_iff]at h
     obtain⟨t',H0,rfl⟩:=h
     exact C9 hK qt ew vN n listed env σ ta HV LR hw.1 (j6 hK (fun e s h=>ih _ _ _ _ H0 (ta.list HV) h) hw.2)
    split at h
    ·rename_i l hl
     have dE:=yQ h hw
     refine⟨fun h=>(by rw[h]at hr;cases hr),fun i hi=>?_⟩
     rw[hr]at hi
     obtain⟨b,K5,GJ⟩:=mapM_mem hl i hi
     simp only[Option.bind_eq_some_iff,Option.map_eq_some_iff]at GJ
     obtain⟨vo,qt,t',H0,rfl⟩:=GJ
     exact⟨vo,qt,j6 hK (fun e s h=>ih _ _ _ _ H0 (ta.list (by rw[hr];exact hi)) h) (dE _ K5)⟩
    ·cases h
theorem Fa {ops:Array Oper} {vl:List bj} {nt site0:Nat} {draw mk:Bool} {bs:Array Nat} {hidden:List (Nat×Bool)} {K:Env->ar->Prop} {Q:Exit->Act->World->Prop} (dE:allM (kY P ops nt site0 draw mk bs hidden) ops.toList 0=some vl):
  ∀(fuel:Nat) (listed:Array Bool) (env:Env) (σ:ar) (a:Act) (w:World) (D:Nat->Prop) (ι:Names) (U:Nat->Prop),Bb (Sound P) ops vl K fuel listed env σ->gD P hs D ι σ.get w->Used ι σ.next U->(∀s,U s->∃i,s=site0+i/\listed.getD i false=true)->cu P w D ι env a->a.tmps.size=nt->
  (∀iP σ' a' w' D' ι',K iP σ'->Step hs D ι w D' ι' w'->St P hs nt D' ι' iP σ' a' w'->a'.defers=a.defers->σ.next<=σ'.next->Q .normal a' w')->wpAny P .any ops Q fuel listed a w:=by
 intro fuel
 induction fuel with
 |zero=>intro listed env σ a w D ι U h S Us hU E fw hQ;exact⟨h.1,hQ env _ a w D ι h.2 (Step.refl _ _ _ _) ⟨S,Us.next,E,fw⟩ rfl (Nat.le_succ _)⟩
 |succ fuel ih=>
  intro listed env σ a w D ι U h S Us hU E fw hQ
  refine⟨fun hr=>hQ env _ a w D ι (h.1 hr) (Step.refl _ _ _ _) ⟨S,Us.next,E,fw⟩ rfl (Nat.le_succ _),fun i hi=>?_⟩
  obtain⟨vo,qt,hG⟩:=h.2 i hi
  obtain⟨_,o,ho,_⟩:=mem_ready.1 hi
  obtain⟨vo',mO,Rg⟩:=(oZ dE).2 i o (by simpa using ho)
  rw[qt]at mO;injection mO with mO;subst mO
  rw[Nat.zero_add]at Rg
  obtain⟨hc,hd,Ch,yl,hg⟩:=pW Rg
  have hw:=ue (ops:=ops) (vo:=vo) E hg
  have UD:¬U vo.site:=fun hu=>by
   obtain⟨i',he,hl⟩:=hU _ hu
   have:i'=i:=by omega
   subst this
   rw[jj hi]at hl;cases hl
  have jI:i<listed.size:=by
   have h0:=(mem_ready.1 hi).1
   rcases Nat.lt_or_ge i listed.size with h|h
   ·exact h
   ·simp[Array.getElem?_eq_none h]at h0
  unfold wpOp
  simp only[ho]
  rw[<-hw]
  unfold step at hG
  by_cases GW:aO vo.guard env=true
  ·rw[if_pos GW]
   rw[if_pos GW]at hG
   refine .inl (zM hc hG S Us UD E fun v σ' u D' ι' w' hn T S' hR U' hle=>?_)
   refine ih _ _ _ _ w' D' ι' _ hn S' U' (fun s Ce=>?_) (by rw[hd];exact iH (pd E T) hR yl fw) (by rw[eZ];exact fw) fun iP σ2 a2 w2 D2 ι2 hk T2 O9 DX nA=>hQ iP σ2 a2 w2 D2 ι2 hk (T.trans T2) O9 (DX.trans (put_defers _ _ _)) (Nat.le_trans hle nA)
   rcases Ce with h|h
   ·obtain⟨i',he,hl⟩:=hU _ h
    exact⟨i',he,getD_set_true hl⟩
   ·exact⟨i,by rw[h,Ch],by simp[jI]⟩
  ·rw[if_neg GW]
   rw[if_neg GW]at hG
   refine ih _ _ _ _ w D ι U hG S Us (fun s Ce=>?_) (by rw[hd];exact iH E cL.undef yl fw) (by rw[eZ];exact fw) fun iP σ2 a2 w2 D2 ι2 hk T2 O9 DX nA=>hQ iP σ2 a2 w2 D2 ι2 hk T2 O9 (DX.trans (put_defers _ _ _)) nA
   obtain⟨i',he,hl⟩:=hU _ Ce
   exact⟨i',he,getD_set_true hl⟩
end
end Go.Proofs.YtgoljkjaameagaaGreat.V

namespace Go.Proofs.YtgoljkjaameagaaGreat.V
open Go.RowKit
variable {P:Program} {w w':World} {D D' D2:Nat->Prop} {ι ι' ι2:Names}
def Bg (P:Program) (c:Code) (Q:Exit->Act->World->Prop) (a:Act) (w:World):Prop:=
 ∀(b:Frame) (k:List Item) (cs:List Frame),b.kind≠.early->∃e a' w',Q e a' w'/\Arrives P (lone (b.at a (.code c::k)) cs w) b k cs e a' w'
section
variable {Q:Exit->Act->World->Prop} {a:Act}
theorem kH {c:Code} (h:c.wp P Q a w):Bg P c Q a w:=fun b k cs _=>h b k cs
theorem l9 {x y:Code} (h:Bg P x (Exit.then (Bg P y Q) Q) a w):Bg P (.seq x y) Q a w:=by
 intro b k cs hb
 obtain⟨e,a1,w1,hq,jU⟩:=h b (.code y::k) cs hb
 by_cases he:e=.normal
 ·subst he
  obtain⟨e2,a2,w2,ve,I5⟩:=hq b k cs hb
  exact⟨e2,a2,w2,ve,.of_steps (.head step_seq jU) I5⟩
 ·refine⟨e,a1,w1,?_,.of_steps (.one step_seq) (.pass (x:=.code y) rfl (fun _ _=>.inl he) jU)⟩
  cases e<;>first|exact absurd rfl he|exact hq
theorem xk {c:Operand} {x y:Code} {t:Bool} (hc:a.eval c=.bool t) (h:Bg P (if t then x else y) Q a w):Bg P (.cond c x y) Q a w:=
 fun b k cs hb=>let ⟨e,a',w',q,r⟩:=h b k cs hb;⟨e,a',w',q,.of_steps (.one (step_cond hc)) r⟩
theorem tP {id:Nat} {c:Code} (h:Bg P c (Exit.inBlock id Q) a w):Bg P (.block id c) Q a w:=by
 intro b k cs hb
 obtain⟨e,a1,w1,hq,jU⟩:=h b (.inBlock id::k) cs hb
 cases e with
 |normal=>exact⟨.normal,a1,w1,hq,.head step_block (Steps.trans jU (.one step_inBlock))⟩
 |exit kb=>
  by_cases hid:kb=id
  ·simp only[Exit.inBlock,hid,if_true]at hq
   exact⟨.normal,a1,w1,hq,.head step_block (jU k (by simp[exitTo,hid]))⟩
  ·simp only[Exit.inBlock,hid,if_false]at hq
   exact⟨.exit kb,a1,w1,hq,fun k' hk=>.head step_block (jU k' (by simp[exitTo,Ne.symm hid,hk]))⟩
 |goto l=>exact⟨_,a1,w1,hq,fun k' hk=>.head step_block (jU k' (by simp[gotoIn,hk]))⟩
 |ret=>exact⟨_,a1,w1,hq,.of_steps (.one step_block) jU⟩
 |panic ch=>exact⟨_,a1,w1,hq,.of_steps (.one step_block) jU⟩
 |outgrown=>exact⟨_,a1,w1,hq,.of_steps (b:=b) (k:=k) (cs:=cs) (e:=.outgrown) (.one step_block) jU⟩
def qb (P:Program) (c:Code) (Q:Exit->Act->World->Prop):Nat->Act->World->Prop
 |0=>fun _ _=>False
 |n+1=>Bg P c (Exit.then (qb P c Q n) Q)
theorem CK {c:Code} (n:Nat) (h:qb P c Q n a w):Bg P (.loop c) Q a w:=by
 intro b k cs hb
 have key:∀n a w,qb P c Q n a w->∃e a' w',Q e a' w'/\Arrives P (lone (b.at a (.code c::.inLoop c::k)) cs w) b k cs e a' w':=by
  intro n
  induction n with
  |zero=>intro a w h;exact h.elim
  |succ n ih=>
   intro a w h
   obtain⟨e,a1,w1,hq,jU⟩:=h b (.inLoop c::k) cs hb
   by_cases he:e=.normal
   ·subst he
    obtain⟨e2,a2,w2,ve,I5⟩:=ih a1 w1 hq
    exact⟨e2,a2,w2,ve,.of_steps (Steps.trans jU (.one step_inLoop)) I5⟩
   ·refine⟨e,a1,w1,?_,.pass (x:=.inLoop c) rfl (fun _ _=>.inl he) jU⟩
    cases e<;>first|exact absurd rfl he|exact hq
 obtain⟨e,a',w',hq,jU⟩:=key n a w h
 exact⟨e,a',w',hq,.of_steps (.one step_loop) jU⟩
theorem zW {f:FuncId} {fn:Func} {c:Code} {args:Array Value} {R:Ending->World->Prop} (hf:P.funcs[f]? =some fn) (hb:fn.body=some c)
  (h:Bg P c (bodyPost P fn R) {tmps:=args++Array.replicate (fn.ntmps-args.size) undef,defers:=[]} w):Calls P f args w R:=by
 intro cs
 have OL:Frame.enter P f args .normal=({(default:Frame)with fn:=f,kind:=.normal}:Frame).at {tmps:=args++Array.replicate (fn.ntmps-args.size) undef,defers:=[]} [.code c]:=by simp[Frame.enter,Frame.at,hf,hb]
 obtain⟨e,a',w',hq,jU⟩:=h {(default:Frame)with fn:=f,kind:=.normal} [] cs (by simp)
 rw[<-OL]at jU
 cases e with
 |normal=>obtain⟨hd,v,hr,hR⟩:=hq;exact⟨.returned v,w',_,hR,Steps.trans jU (.one step_end),rfl,rfl,hd,rfl,fn,hf,hr⟩
 |ret=>obtain⟨hd,v,hr,hR⟩:=hq;obtain⟨todo,hs⟩:=jU;exact⟨.returned v,w',_,hR,hs,rfl,rfl,hd,rfl,fn,hf,hr⟩
 |panic chain=>obtain⟨hd,hR⟩:=hq;obtain⟨todo,hs⟩:=jU;exact⟨.panicked chain,w',_,hR,hs,rfl,rfl,hd,fn,hf⟩
 |exit id=>exact hq.elim
 |goto l=>exact hq.elim
 |outgrown=>exact⟨.outgrown,w',{(default:Frame)with fn:=f,kind:=.normal},hq,jU.resolve_left (by simp),rfl,trivial⟩
def ya (P:Program) (ops:Array Oper) (Q:Exit->Act->World->Prop) (l:List Nat) (a:Act) (w:World):Prop:=
 ∀(b:Frame) (k:List Item) (cs:List Frame),b.kind≠.early->∃e a' w',Q e a' w'/\Arrives P (lone (b.at a (.inRegion ops l::k)) cs w) b k cs e a' w'
theorem Ew {id:Nat} {ops:Array Oper} (h:ya P ops Q (List.range ops.size) a w):Bg P (.region id ops false) Q a w:=
 fun b k cs hb=>let ⟨e,a',w',q,r⟩:=h b k cs hb;⟨e,a',w',q,.of_steps (.one step_region) r⟩
theorem Pt {ops:Array Oper} (h:Q .normal a w):ya P ops Q [] a w:=fun _ _ _ _=>⟨.normal,a,w,h,.one step_region_end⟩
theorem pS {o:Oper} {ys:Nat->Option Bool} (h:o.guard=none):Region.wanted o ys=true:=by simp[Region.wanted,h]
theorem J6 {ops:Array Oper} {i:Nat} {rest:List Nat} {o:Oper} {v:Value} (ho:ops[i]? =some o) (hg:o.guard=none) (hr:(execOp a.eval o).run P w=.ok (.value v) w') (h:ya P ops Q rest (a.put o.dst v) w'):ya P ops Q (i::rest) a w:=by
 intro b k cs hb
 obtain⟨e,a',w2,hq,jU⟩:=h b k cs hb
 refine⟨e,a',w2,hq,.of_steps (.one ?_) jU⟩
 have tC:(b.at a (.inRegion ops (i::rest)::k)).finish v=b.at (a.put o.dst v) (.inRegion ops rest::k):=by rw[Frame.finish_at,ho];rfl
 rw[<-tC]
 refine step_lone_go ?_
 have h2:=stepG_op (P:=P) (b:=b) (k:=k) (cs:=cs) (w:=w) (rest:=rest) ho (pS hg (ys:=yielded ops a.tmps))
 rw[h2];simp[stepG.apply,hr]
theorem MC {ops:Array Oper} {i:Nat} {rest:List Nat} {o:Oper} {v z:Value} {c cap s r:Nat} {buf:Array Value} (ho:ops[i]? =some o) (hg:o.guard=none) (hr:(execOp a.eval o).run P w=.ok (.comm #[Conc.scase c v z] true .send) w)
  (hc:w.heap[c]? =some (.chan cap buf false s r false)) (fX:buf.size<cap) (h:ya P ops Q rest (a.put o.dst undef) (w.setChan c cap (buf.push v) false (s+1) r false)):ya P ops Q (i::rest) a w:=by
 intro b k cs hb
 obtain⟨e,a',w2,hq,jU⟩:=h b k cs hb
 refine⟨e,a',w2,hq,.of_steps (.one ?_) jU⟩
 have tC:(b.at a (.inRegion ops (i::rest)::k)).finish undef=b.at (a.put o.dst undef) (.inRegion ops rest::k):=by rw[Frame.finish_at,ho];rfl
 rw[<-tC,Conc.lone_eq_solo,Conc.lone_eq_solo]
 exact Conc.step_lone_send_room (Conc.stepG_comm ho (pS hg) hb hr) hc fX
theorem MB {ops:Array Oper} {i:Nat} {rest:List Nat} {o:Oper} {z:Value} {c cap s r:Nat} {buf:Array Value} (ho:ops[i]? =some o) (hg:o.guard=none) (hr:(execOp a.eval o).run P w=.ok (.comm #[Conc.rcase c z] true (.recv false)) w)
  (hc:w.heap[c]? =some (.chan cap buf false s r false)) (Jv:0<buf.size) (h:ya P ops Q rest (a.put o.dst (buf.getD 0 undef)) (w.setChan c cap (buf.extract 1 buf.size) false s (r+1) false)):ya P ops Q (i::rest) a w:=by
 intro b k cs hb
 obtain⟨e,a',w2,hq,jU⟩:=h b k cs hb
 refine⟨e,a',w2,hq,.of_steps (.one ?_) jU⟩
 have tC:(b.at a (.inRegion ops (i::rest)::k)).finish (buf.getD 0 undef)=b.at (a.put o.dst (buf.getD 0 undef)) (.inRegion ops rest::k):=by rw[Frame.finish_at,ho];rfl
 rw[<-tC,Conc.lone_eq_solo,Conc.lone_eq_solo]
 exact Conc.step_lone_recv_buf false (Conc.stepG_comm ho (pS hg) hb hr) hc Jv
end
section
variable {hs:Nat} {g:Rows} {env:Env} {a:Act} {o:Oper}
theorem Mg {x y:O} (hc:rM P o.op=some (.snd x y)):∃x' y',o.op=.send x' y'/\cO P x'=some x/\cO P y'=some y:=by
 unfold rM at hc
 split at hc
 case h_25=>
  rename_i x' y' h
  simp only[Option.bind_eq_bind,Option.bind_eq_some_iff,Option.pure_def,Option.some.injEq,gG.snd.injEq]at hc
  obtain⟨p,h1,q,h2,rfl,rfl⟩:=hc
  exact⟨_,_,h,h1,h2⟩
 all_goals (try unfold nV at hc)<;>(try unfold wq at hc)<;>(try unfold tk at hc)<;>(repeat' (split at hc))<;>(simp only[Option.bind_eq_bind,Option.bind_eq_some_iff,Option.pure_def,Option.some.injEq,Option.map_eq_some_iff,reduceCtorEq,and_false,exists_false]at hc)
theorem Mf {x:O} (hc:rM P o.op=some (.Px x)):∃t dir e i z x',o.op=.recv t x' false/\P.underlying t=some (.chan dir e)/\P.info? e=some i/\i.zero=some z/\cO P x'=some x:=by
 unfold rM at hc
 split at hc
 case h_26=>
  rename_i t x' h
  split at hc
  ·rename_i dir e ht
   split at hc
   ·rename_i z hz
    simp only[Option.bind_eq_some_iff]at hz
    obtain⟨i,hi,hz⟩:=hz
    simp only[Option.map_eq_some_iff,gG.Px.injEq]at hc
    obtain⟨p,h1,rfl⟩:=hc
    exact⟨t,dir,e,i,z,x',h,ht,hi,hz,h1⟩
   ·cases hc
  ·cases hc
 all_goals (try unfold nV at hc)<;>(try unfold wq at hc)<;>(try unfold tk at hc)<;>(repeat' (split at hc))<;>(simp only[Option.bind_eq_bind,Option.bind_eq_some_iff,Option.pure_def,Option.some.injEq,Option.map_eq_some_iff,reduceCtorEq,and_false,exists_false]at hc)
theorem QV {x y:O} {g':Rows} (S:gD P hs D ι g w) (hc:rM P o.op=some (.snd x y)) (E:cu P w D ι env a) (hv:ev g (cU env x) (cU env y)=some g'):
  ∃c cap s r buf u,(execOp a.eval o).run P w=.ok (.comm #[Conc.scase c u (.tuple #[])] true .send) w/\w.heap[c]? =some (.chan cap buf false s r false)/\buf.size<cap/\gD P hs D ι g' (w.setChan c cap (buf.push u) false (s+1) r false)/\Step hs D ι w D ι (w.setChan c cap (buf.push u) false (s+1) r false):=by
 obtain⟨x',y',ho,hx,hy⟩:=Mg hc
 have rx:=dp E hx
 have ry:=dp E hy
 unfold ev at hv
 split at hv
 ·rename_i i he
  simp only[Option.bind_eq_some_iff]at hv
  obtain⟨r,hg,hv⟩:=hv
  split at hv
  ·rename_i hcond
   simp only[Option.some.injEq]at hv
   subst hv
   obtain⟨B,c,hu,hB,hk,fw,buf,s,q,hb,K6,hR⟩:=zX S rx he hg
   obtain⟨B',dD,RR,_⟩:=S.row i r hg
   rw[hB]at dD;injection dD with dD;subst dD
   have oz:=S.HN (ob:=.chan c (buf.push (a.eval y')) false (s+1) q false) (r':={r with rows:=r.rows++[[cU env y]]}) hg hcond.1 hB fun hr kE=>⟨RR.sz,fun cs dx=>?_,fun h0=>(by rw[hk]at h0;cases h0),fun m hm=>(by rw[hk]at hm;cases hm),fun c' k8=>?_⟩
   ·exact⟨B.b,c,s,q,buf,a.eval y',by simp[execOp,ho,hu,Conc.scase],hb,by rw[K6];omega,oz.1,oz.2⟩
   ·rcases List.mem_append.1 dx with h|h
    ·exact RR.flat cs h
    ·rw[List.mem_singleton.1 h]
     intro b tA
     rw[List.mem_singleton.1 tA];exact hcond.2.2
   ·rw[hk]at k8
    simp only[Option.some.injEq,BK.chan.injEq]at k8
    subst k8
    refine⟨fw,_,_,_,kE,by simp[K6],fun j cs hj=>?_⟩
    rw[List.getElem?_append]at hj
    split at hj
    ·rename_i dY
     obtain⟨b,u,q1,q2,q3⟩:=hR j cs hj
     refine⟨b,u,q1,?_,hr _ _ q3⟩
     rw[Array.getElem?_push,if_neg (by omega)];exact q2
    ·rename_i rf
     have im:j=r.rows.length:=by
      have:=(List.getElem?_eq_some_iff.1 hj).1
      simp at this;omega
     subst im
     simp at hj
     subst hj
     exact⟨_,_,rfl,by rw[Array.getElem?_push,if_pos K6.symm],hr _ _ ry⟩
  ·cases hv
 ·cases hv
theorem QU {x:O} {g':Rows} {v:AV} (S:gD P hs D ι g w) (hc:rM P o.op=some (.Px x)) (E:cu P w D ι env a) (hv:eu g (cU env x)=some (v,g')):
  ∃c cap s r buf z,(execOp a.eval o).run P w=.ok (.comm #[Conc.rcase c z] true (.recv false)) w/\w.heap[c]? =some (.chan cap buf false s r false)/\0<buf.size/\gD P hs D ι g' (w.setChan c cap (buf.extract 1 buf.size) false s (r+1) false)/\Step hs D ι w D ι (w.setChan c cap (buf.extract 1 buf.size) false s (r+1) false)/\cL P (w.setChan c cap (buf.extract 1 buf.size) false s (r+1) false) D ι v (buf.getD 0 undef):=by
 obtain⟨t,dir,e,i0,z,x',ho,ht,hi,hz,hx⟩:=Mf hc
 have rx:=dp E hx
 unfold eu at hv
 split at hv
 ·rename_i i he
  simp only[Option.bind_eq_some_iff]at hv
  obtain⟨r,hg,hv⟩:=hv
  split at hv
  ·rename_i v' rest po
   split at hv
   ·rename_i hcond
    simp only[Option.some.injEq,Prod.mk.injEq]at hv
    obtain⟨rfl,rfl⟩:=hv
    obtain⟨B,c,hu,hB,hk,fw,buf,s,q,hb,K6,hR⟩:=zX S rx he hg
    obtain⟨B',dD,RR,_⟩:=S.row i r hg
    rw[hB]at dD;injection dD with dD;subst dD
    obtain⟨b0,u0,q1,q2,q3⟩:=hR 0 [v'] (by rw[po];rfl)
    simp only[List.cons.injEq,and_true]at q1
    subst q1
    have kF:0<buf.size:=by rw[K6,po];simp
    have Tu:buf.getD 0 undef=u0:=by rw[Array.getD_eq_getD_getElem?,q2];rfl
    have oz:=S.HN (ob:=.chan c (buf.extract 1 buf.size) false s (q+1) false) (r':={r with rows:=rest}) hg hcond hB fun hr kE=>⟨RR.sz,fun cs dx=>RR.flat cs (by rw[po];exact List.mem_cons_of_mem _ dx),fun h0=>(by rw[hk]at h0;cases h0),fun m hm=>(by rw[hk]at hm;cases hm),fun c' k8=>?_⟩
    ·refine⟨B.b,c,s,q,buf,z,?_,hb,kF,oz.1,oz.2,?_⟩
     ·have qE:(zeroValue e).run P w=.ok z w:=by simp[zeroValue,typeInfo,hi,hz]
      simp[execOp,ho,hu,Conc.rcase,run_underlying ht,qE]
     ·rw[Tu];exact oz.2.rep q3
    ·rw[hk]at k8
     simp only[Option.some.injEq,BK.chan.injEq]at k8
     subst k8
     refine⟨fw,_,_,_,kE,by simp[K6,po],fun j cs hj=>?_⟩
     obtain⟨b,u,k1,k2,k3⟩:=hR (j+1) cs (by rw[po];simpa using hj)
     refine⟨b,u,k1,?_,hr _ _ k3⟩
     have dY:=(Array.getElem?_eq_some_iff.1 k2).1
     rw[Array.getElem?_extract,if_pos (by omega),Nat.add_comm 1 j];exact k2
   ·cases hv
  ·cases hv
 ·cases hv
theorem Gs {ops:Array Oper} {nt site0:Nat} {K:Env->ar->Prop} {Q:Exit->Act->World->Prop}:∀(l:List Oper) (vl:List bj) (j:Nat) (env:Env) (σ:ar) (a:Act) (w:World) (D:Nat->Prop) (ι:Names),
  ops.toList.drop j=l->allM (kY P ops nt site0 false false #[] []) l j=some vl->cI vl K env σ->gD P hs D ι σ.get w->Used ι σ.next (fun _=>False)->cu P w D ι env a->a.tmps.size=nt->
  (∀iP σ' a' w' D' ι',K iP σ'->Step hs D ι w D' ι' w'->St P hs nt D' ι' iP σ' a' w'->a'.defers=a.defers->σ.next<=σ'.next->Q .normal a' w')->ya P ops Q (List.range' j l.length) a w:=by
 intro l
 induction l with
 |nil=>
  intro vl j env σ a w D ι _ h hv S Us E fw hQ
  simp[allM]at h;subst h
  exact Pt (hQ env ⟨σ.get,σ.next+1⟩ a w D ι hv (Step.refl _ _ _ _) ⟨S,Us.next,E,fw⟩ rfl (Nat.le_succ _))
 |cons o l ih=>
  intro vl j env σ a w D ι hl h hv S Us E fw hQ
  simp only[allM,Option.bind_eq_bind,Option.bind_eq_some_iff,Option.pure_def,Option.some.injEq]at h
  obtain⟨vo,qt,ud,te,rfl⟩:=h
  obtain⟨hc,hd,Ch,yl,hg⟩:=pW qt
  obtain⟨Rv,hv⟩:=hv
  have Vj:o.guard=none:=by
   split at hg
   ·assumption
   ·obtain⟨t,_,h⟩:=hg
    rw[Rv]at h;cases h
  have Vk:ops[j]? =some o:=by
   have h0:=congrArg (fun x=>x[0]?) hl
   rw[<-Array.getElem?_toList]
   simpa[List.getElem?_drop]using h0
  have Lf:ops.toList.drop (j+1)=l:=by rw[<-List.drop_drop,hl];rfl
  have go:∀(v:AV) (u:Value) (g2:Rows) (w2:World),cI ud K (upd env vo.dst v) ⟨g2,σ.next⟩->gD P hs D ι g2 w2->Step hs D ι w D ι w2->cL P w2 D ι v u->ya P ops Q (List.range' (j+1) l.length) (a.put o.dst u) w2:=fun v u g2 w2 hn S2 T hR=>
   ih ud (j+1) (upd env vo.dst v) ⟨g2,σ.next⟩ (a.put o.dst u) w2 D ι Lf te hn S2 Us (by rw[hd];exact iH (pd E T) hR yl fw) (by rw[eZ];exact fw) fun iP σ2 a' w3 D3 ι3 hk T2 NX DX nA=>hQ iP σ2 a' w3 D3 ι3 hk (T.trans T2) NX (DX.trans (put_defers _ _ _)) nA
  rw[show List.range' j (o::l).length=j::List.range' (j+1) l.length from rfl]
  split at hv
  ·rename_i x y ew
   split at hv
   ·rename_i g2 Qw
    rw[ew]at hc
    obtain⟨c,cap,s,r,buf,u,gm,hb,fX,S2,T⟩:=QV S hc E Qw
    exact MC Vk Vj gm hb fX (go _ _ _ _ hv S2 T cL.undef)
   ·exact hv.elim
  ·rename_i x ew
   split at hv
   ·rename_i v g2 Qw
    rw[ew]at hc
    obtain⟨c,cap,s,r,buf,z,gm,hb,Jv,S2,T,hR⟩:=QU S hc E Qw
    exact MB Vk Vj gm hb Jv (go _ _ _ _ hv S2 T hR)
   ·exact hv.elim
  ·split at hv
   ·rename_i v hq
    obtain⟨u,gm,hR⟩:=zD hc hq S E
    exact J6 Vk Vj gm (go _ _ _ _ hv S (Step.refl _ _ _ _) hR)
   ·exact hv.elim
end
end Go.Proofs.YtgoljkjaameagaaGreat.V

namespace Go.Proofs.YtgoljkjaameagaaGreat.V
open Go.RowKit
variable {P:Program} {w w':World} {D D' D2:Nat->Prop} {ι ι' ι2:Names}
section
variable {hs:Nat} {X:fN}
def SL:Ex->Exit
 | .normal=>.normal
 | .exit id=>.exit id
 | .ret=>.ret
theorem St.drew {nt:Nat} {env:Env} {σ:ar} {a:Act} {D:Nat->Prop} {ι:Names} (h:St P hs nt D ι env σ a w):St P hs nt D ι env σ a w.drew/\Step hs D ι w D ι w.drew:=by
 have T:Step hs D ι w D ι w.drew:=Step.stay h.tW (fun _ _=>rfl) (Nat.le_refl _) rfl rfl rfl (fun _ h=>h) (fun _ h=>.inl h) (fun _ _ h=>h)
 exact⟨⟨h.tW.stay (fun _ _=>rfl) (Nat.le_refl _) (fun _ h=>h) h.tW.dead (fun _ h=>.inl h) (fun _ _ h=>h),h.used,pd h.env T,h.size⟩,T⟩
def uh (P:Program) (hs nt:Nat) (ds:List Deferred) (Q:Ex->Env->ar->Prop) (n0:Nat) (D:Nat->Prop) (ι:Names) (w:World) (Q':Exit->Act->World->Prop):Prop:=
 ∀ex env σ a w' D' ι',Q ex env σ->Step hs D ι w D' ι' w'->St P hs nt D' ι' env σ a w'->a.defers=ds->n0<=σ.next->Q' (SL ex) a w'
theorem uh.later {nt:Nat} {ds:List Deferred} {Q:Ex->Env->ar->Prop} {n0 n1:Nat} {Q':Exit->Act->World->Prop} (h:uh P hs nt ds Q n0 D ι w Q') (T:Step hs D ι w D' ι' w') (hn:n0<=n1):uh P hs nt ds Q n1 D' ι' w' Q':=
 fun ex env σ a w2 D2 ι2 hq T2 dK hd hle=>h ex env σ a w2 D2 ι2 hq (T.trans T2) dK hd (Nat.le_trans hn hle)
theorem qP (hm:P.follows .mixedOrders=true) {md:List (Nat×Nat)} {nt fid:Nat}:∀(c:Code) (vc:VC),jt P md nt fid c=some vc->∀(Q:Ex->Env->ar->Prop) (env:Env) (σ:ar) (a:Act) (w:World) (D:Nat->Prop) (ι:Names) (Q':Exit->Act->World->Prop),
  dL (Sound P) vc Q env σ->St P hs nt D ι env σ a w->uh P hs nt a.defers Q σ.next D ι w Q'->Bg P c Q' a w:=by
 intro c
 induction c with
 |skip=>
  intro vc h Q env σ a w D ι Q' hv dK hQ
  simp[jt]at h;subst h
  exact kH <| wp_skip (hQ .normal env σ a w D ι hv (Step.refl _ _ _ _) dK rfl (Nat.le_refl _))
 |exit id=>
  intro vc h Q env σ a w D ι Q' hv dK hQ
  simp[jt]at h;subst h
  exact kH <| wp_exit (hQ (.exit id) env σ a w D ι hv (Step.refl _ _ _ _) dK rfl (Nat.le_refl _))
 |ret=>
  intro vc h Q env σ a w D ι Q' hv dK hQ
  simp[jt]at h;subst h
  exact kH <| wp_ret (hQ .ret env σ a w D ι hv (Step.refl _ _ _ _) dK rfl (Nat.le_refl _))
 |seq x y ihx ihy=>
  intro vc h Q env σ a w D ι Q' hv dK hQ
  simp only[jt,Option.bind_eq_bind,Option.bind_eq_some_iff,Option.pure_def,Option.some.injEq]at h
  obtain⟨vx,hx,vy,hy,rfl⟩:=h
  refine l9 (ihx vx hx _ env σ a w D ι _ hv dK fun ex jl σ1 a1 w1 D1 ι1 hq T kj hd hle=>?_)
  cases ex with
  |normal=>exact ihy vy hy Q jl σ1 a1 w1 D1 ι1 Q' hq kj (by rw[hd];exact hQ.later T hle)
  |exit id=>exact hQ (.exit id) jl σ1 a1 w1 D1 ι1 hq T kj hd hle
  |ret=>exact hQ .ret jl σ1 a1 w1 D1 ι1 hq T kj hd hle
 |cond c x y ihx ihy=>
  intro vc h Q env σ a w D ι Q' hv dK hQ
  simp only[jt,Option.bind_eq_bind,Option.bind_eq_some_iff,Option.pure_def,Option.some.injEq]at h
  obtain⟨c',hc,vx,hx,vy,hy,rfl⟩:=h
  unfold dL at hv
  have hr:=dp dK.env hc
  split at hv
  ·rename_i b hb
   rw[hb]at hr
   refine xk (fc hr) ?_
   cases b with
   |true=>exact ihx vx hx Q env σ a w D ι Q' hv dK hQ
   |false=>exact ihy vy hy Q env σ a w D ι Q' hv dK hQ
  ·exact hv.elim
 |block id c ih=>
  intro vc h Q env σ a w D ι Q' hv dK hQ
  simp only[jt,Option.map_eq_some_iff]at h
  obtain⟨vx,hx,rfl⟩:=h
  refine tP (ih vx hx _ env σ a w D ι _ hv dK fun ex jl σ1 a1 w1 D1 ι1 hq T kj hd hle=>?_)
  cases ex with
  |normal=>exact hQ .normal jl σ1 a1 w1 D1 ι1 hq T kj hd hle
  |ret=>exact hQ .ret jl σ1 a1 w1 D1 ι1 hq T kj hd hle
  |exit kb=>
   simp only[bc]at hq
   simp only[SL,Exit.inBlock]
   by_cases hid:kb=id
   ·rw[if_pos hid]at hq ⊢;exact hQ .normal jl σ1 a1 w1 D1 ι1 hq T kj hd hle
   ·rw[if_neg hid]at hq ⊢;exact hQ (.exit kb) jl σ1 a1 w1 D1 ι1 hq T kj hd hle
 |loop c ih=>
  intro vc h Q env σ a w D ι Q' hv dK hQ
  simp only[jt,Option.map_eq_some_iff]at h
  obtain⟨vx,hx,rfl⟩:=h
  obtain⟨n,hv⟩:=hv
  refine CK n ?_
  have key:∀n env σ a w D ι,FW (dL (Sound P) vx) Q n env σ->St P hs nt D ι env σ a w->uh P hs nt a.defers Q σ.next D ι w Q'->qb P c Q' n a w:=by
   intro n
   induction n with
   |zero=>intro env σ a w D ι h;exact h.elim
   |succ n ihn=>
    intro env σ a w D ι h dK hQ
    refine ih vx hx _ env σ a w D ι _ h dK fun ex jl σ1 a1 w1 D1 ι1 hq T kj hd hle=>?_
    cases ex with
    |normal=>exact ihn jl σ1 a1 w1 D1 ι1 hq kj (by rw[hd];exact hQ.later T hle)
    |exit id=>exact hQ (.exit id) jl σ1 a1 w1 D1 ι1 hq T kj hd hle
    |ret=>exact hQ .ret jl σ1 a1 w1 D1 ι1 hq T kj hd hle
  exact key n env σ a w D ι hv dK hQ
 |region id ops draw=>
  intro vc h Q env σ a w D ι Q' hv dK hQ
  simp only[jt,QT]at h
  split at h
  ·rename_i hmode
   have UP:draw=true:=by
    simp only[Bool.and_eq_true]at hmode;exact hmode.1
   subst UP
   split at h
   ·rename_i vl dE
    obtain⟨sn,T0⟩:=dK.drew
    have DV:=HM (X:=Sound P) kW ops.size _ vc env σ h (fun k i h=>by
     exfalso
     rcases Nat.lt_or_ge k ops.size with hk|hk
     ·simp[hk]at h
     ·simp[Nat.not_lt.2 hk]at h) hv
    refine kH (wp_region_any hm ?_)
    exact Fa dE ops.size _ env σ a w.drew D ι (fun _=>False) DV sn.tW sn.used (fun _ h=>h.elim) sn.env sn.size fun jl σ1 a1 w1 D1 ι1 hk T kj hd hle=>hQ .normal jl σ1 a1 w1 D1 ι1 hk (T0.trans T) kj hd hle
   ·cases h
  split at h
  ·rename_i hcom
   have UP:draw=false:=by
    simp only[Bool.and_eq_true,Bool.not_eq_true']at hcom;exact hcom.1
   subst UP
   simp only[Option.map_eq_some_iff]at h
   obtain⟨vl,te,rfl⟩:=h
   have dE:allM (kY P ops nt ((fid*1000+id)*1000) false false #[] []) ops.toList 0=some vl:=by
    unfold r6 at te
    simp only[Bool.false_eq_true,if_false,Bool.not_false,Bool.true_or,if_true]at te
    split at te
    ·rename_i ud h;simp at te;subst te;exact h
    ·cases te
   refine Ew ?_
   have:=Gs (Q:=Q') ops.toList vl 0 env σ a w D ι rfl dE hv dK.tW dK.used dK.env dK.size fun jl σ1 a1 w1 D1 ι1 hk T kj hd hle=>hQ .normal jl σ1 a1 w1 D1 ι1 hk T kj hd hle
   rwa [<-List.range_eq_range',Array.length_toList]at this
  generalize (xh md id==1)=mk at h
  simp only[Option.map_eq_some_iff]at h
  obtain⟨vl,te,rfl⟩:=h
  cases draw with
  |false=>
   have dE:∃ud,allM (kY P ops nt ((fid*1000+id)*1000) false mk #[] []) ops.toList 0=some ud/\vl=ud:=by
    unfold r6 at te
    simp only[Bool.false_eq_true,if_false,Bool.not_false,Bool.true_or,if_true]at te
    split at te
    ·rename_i ud h;simp at te;exact⟨ud,h,te.symm⟩
    ·cases te
   obtain⟨ud,dE,rfl⟩:=dE
   refine kH (wp_region_list ?_)
   exact zy ops.toList vl 0 env σ a w D ι (fun _=>False) dE hv dK.tW dK.used (fun _ h=>h.elim) dK.env dK.size fun jl σ1 a1 w1 D1 ι1 hk T kj hd hle=>hQ .normal jl σ1 a1 w1 D1 ι1 hk T kj hd hle
  |true=>
   have dE:∃hidden ud,allM (kY P ops nt ((fid*1000+id)*1000) true mk (jG ops) hidden) ops.toList 0=some ud/\vl=ud/\pc ops ud (jG ops)=true:=by
    unfold r6 at te
    simp only[if_true,Bool.not_true,Bool.false_or]at te
    split at te
    ·rename_i ud h
     split at te
     ·rename_i w5;simp at te;exact⟨_,ud,h,te.symm,w5⟩
     ·cases te
    ·cases te
   obtain⟨hidden,ud,dE,rfl,w5⟩:=dE
   obtain⟨sn,T0⟩:=dK.drew
   obtain⟨hlen,_⟩:=oZ dE
   have k9:vl.length=ops.size:=by rw[hlen];simp
   have DV:=xT (X:=Sound P) (K:=Q .normal) (n:=σ.next) w5 k9 vl 0 (Array.replicate ops.size false) env σ.get (by simp) (by simp) (fun i hi=>by simp[hi]) (by simp[k9]) (fun k i h=>by
    exfalso
    rcases Nat.lt_or_ge k ops.size with hk|hk
    ·simp[hk]at h
    ·simp[Nat.not_lt.2 hk]at h) hv
   refine kH (wp_region_any hm ?_)
   rw[k9]at DV
   exact yL dE ops.size _ env σ.get a w.drew D ι (fun _=>False) DV sn.tW sn.used (fun _ h=>h.elim) sn.env sn.size fun jl g1 a1 w1 D1 ι1 U1 hk T S1 TU E1 Bo hd=>hQ .normal jl ⟨g1,σ.next+1⟩ a1 w1 D1 ι1 hk (T0.trans T) ⟨S1,TU.next,E1,Bo⟩ hd (Nat.le_succ _)
 |_=>
  intro vc h
  simp[jt]at h
def Kh (tmps:Array Value):ResultVar->Sem Value
 | .tmp t=>pure (tmps.getD t undef)
 | .cell a t=>do loadVar t (<-asAddr (tmps.getD a undef))
theorem EI (fn:Func) (tmps:Array Value):results fn tmps=(do
  let vs <-fn.results.mapM (Kh tmps)
  pure (if h:vs.size=1 then vs[0]else .tuple vs)):=by
 unfold results
 congr 2
theorem uK {nt:Nat} {env:Env} {σ:ar} {a:Act} {D:Nat->Prop} {ι:Names} (dK:St P hs nt D ι env σ a w):∀(rs:List ResultVar) (vr:List om) (vs:List AV),rs.mapM (DG P)=some vr->fA env σ.get vr=some vs->
  ∃us:List Value,(rs.mapM (Kh a.tmps)).run P w=.ok us w/\us.length=vs.length/\∀(j:Nat) (v:AV),vs[j]? =some v->∃u,us[j]? =some u/\cL P w D ι v u
 |[],vr,vs,h,hv=>by
  simp at h;subst h
  simp[fA]at hv;subst hv
  exact⟨[],by simp,rfl,fun j v h=>by simp at h⟩
 |r::rs,vr,vs,h,hv=>by
  simp only[List.mapM_cons,Option.bind_eq_bind,Option.bind_eq_some_iff]at h
  obtain⟨x,hx,vr',hr,h⟩:=h
  simp at h;subst h
  simp only[fA,Option.bind_eq_some_iff,Option.map_eq_some_iff]at hv
  obtain⟨v,uA,VK,RV,rfl⟩:=hv
  obtain⟨us,h1,h2,h3⟩:=uK dK rs vr' VK hr RV
  have one:∃u,(Kh a.tmps r).run P w=.ok u w/\cL P w D ι v u:=by
   cases r with
   |tmp t=>
    simp[DG]at hx;subst hx
    simp[iD]at uA;subst uA
    exact⟨_,rfl,dK.env t⟩
   |cell b t=>
    simp only[DG,Option.bind_eq_bind,Option.bind_eq_some_iff,Option.pure_def,Option.some.injEq]at hx
    obtain⟨ag,vL,n,hn,rfl⟩:=hx
    simp only[iD]at uA
    have gQ:=dK.env b
    unfold ld at uA
    split at uA
    ·rename_i kb i' oo hb
     rw[hb]at gQ
     obtain⟨B,he,hB,hk⟩:=iL gQ
     simp only[Option.bind_eq_some_iff]at uA
     obtain⟨cs,dx,hp⟩:=uA
     obtain⟨B',r0,Dg,dD,R,hi,fl,f,hf⟩:=Ko (S:=dK.tW) dx (fun B2 h2=>by rw[hB]at h2;injection h2 with h2;subst h2;exact hk)
     rw[hB]at dD;injection dD with dD;subst dD
     obtain⟨u,k1,k2⟩:=kS (w:=w) (b:=B.b) (oo:=i'*B.sz+oo) (f:=fun j=>f (oo+j)) vL hn hp (fun a ha=>fl a (List.mem_of_mem_drop ha)) (fun j hj=>by
      rw[Nat.add_assoc];exact(hf _ (by simp at hj;omega)).1) (fun j a ha=>by
      simp at ha;exact(hf _ ((List.getElem?_eq_some_iff.1 ha).1)).2 _ ha)
     exact⟨u,by simp only[Kh,he,asAddr,Sem.run_bind,Sem.run_pure,Result.andThen_ok,k1],k2⟩
    ·rename_i cs hb
     rw[hb]at gQ
     obtain⟨b',oo,vs2,he,q1,q2,q3,q4⟩:=lq gQ
     obtain⟨u,k1,k2⟩:=kS (w:=w) (b:=b') (oo:=oo) (f:=vs2) vL hn uA q2 q3 (fun j a ha=>.eP _ _ (q4 j a ha))
     exact⟨u,by simp only[Kh,he,asAddr,Sem.run_bind,Sem.run_pure,Result.andThen_ok,k1],k2⟩
    ·simp at uA
  obtain⟨u,hu,yu⟩:=one
  refine⟨u::us,?_,by simp[h2],fun j v' hj=>?_⟩
  ·rw[List.mapM_cons]
   simp only[Sem.run_bind,hu,h1,Result.andThen_ok,Sem.run_pure]
  ·cases j with
   |zero=>simp at hj;subst hj;exact⟨u,rfl,yu⟩
   |succ j=>simp at hj ⊢;exact h3 j v' hj
theorem wm {f:Nat} {fn:Func} {c:Code} {args:List AV} {σ:ar} {K:AV->ar->Prop} {vr:List om} (Qn:P.funcs[f]? =some fn) (hc:fn.body=some c) (hr:fn.results.toList.mapM (DG P)=some vr) (ha:fn.params.size+fn.nfree=args.length) (hle:fn.params.size+fn.nfree<=fn.ntmps)
  (h:∀(hs:Nat) (w:World) (D:Nat->Prop) (ι:Names) (a:Act) (Q':Exit->Act->World->Prop),St P hs fn.ntmps D ι (cD args) σ a w->uh P hs fn.ntmps a.defers (kR vr K) σ.next D ι w Q'->Bg P c Q' a w):Sound P f args σ K:=by
 intro hs D ι w vs S Us A
 have fw:vs.size=args.length:=A.1
 refine zW Qn hc ?_
 refine h hs w D ι _ _ ⟨S,Us,fun t=>?_,by simp;omega⟩ fun ex jl σ1 a1 w1 D1 ι1 hq T kj hd hle=>?_
 ·simp only[cD]
  by_cases dY:t<args.length
  ·obtain⟨u,hu,yu⟩:=A.2 t args[t] (List.getElem?_eq_getElem dY)
   have e1:args.getD t .undef=args[t]:=by simp[List.getD_eq_getElem?_getD,dY]
   have e2:(vs++Array.replicate (fn.ntmps-vs.size) undef).getD t undef=u:=by
    simp only[Array.getD_eq_getD_getElem?]
    rw[Array.getElem?_append_left (by omega),hu];rfl
   rw[e1,e2];exact yu
  ·have e1:args.getD t .undef=.undef:=by simp[List.getD_eq_getElem?_getD,Nat.le_of_not_lt dY]
   have e2:(vs++Array.replicate (fn.ntmps-vs.size) undef).getD t undef=undef:=by
    simp only[Array.getD_eq_getD_getElem?]
    rw[Array.getElem?_append_right (by omega),Array.getElem?_replicate]
    split<;>rfl
   rw[e1,e2];exact cL.undef
 ·have fin:(∃vs,fA jl σ1.get vr=some vs/\K (fj vs) σ1)->a1.defers=[]/\∃v,(results fn a1.tmps).run P w1=.ok v w1/\∃r g' n' D' ι' u,Ending.returned v=.returned u/\K r ⟨g',n'⟩/\Step hs D ι w D' ι' w1/\gD P hs D' ι' g' w1/\Used ι' n' (fun _=>False)/\σ.next<=n'/\cL P w1 D' ι' r u:=by
   rintro⟨avs,RV,hK⟩
   obtain⟨us,h1,h2,h3⟩:=uK kj fn.results.toList vr avs hr RV
   have O5:(results fn a1.tmps).run P w1=.ok (if h:us.toArray.size=1 then us.toArray[0]else .tuple us.toArray) w1:=by
    rw[EI,Array.mapM_eq_mapM_toList]
    simp only[Sem.run_bind,Sem.run_map,h1,Result.andThen_ok,Sem.run_pure]
   refine⟨hd,_,O5,fj avs,σ1.get,σ1.next,D1,ι1,_,rfl,hK,T,kj.tW,kj.used,hle,?_⟩
   unfold fj
   split
   ·rename_i v
    have hl:us.length=1:=h2
    obtain⟨u,hu,yu⟩:=h3 0 v rfl
    rw[dif_pos (by simpa using hl)]
    have:us.toArray[0]'(by simp[hl])=u:=by
     have:=(List.getElem?_eq_some_iff.1 hu).2
     simpa using this
    rw[this];exact yu
   ·rename_i ik
    rw[dif_neg (by
     simp only[List.size_toArray,h2]
     intro h
     obtain⟨v,hv⟩:=List.length_eq_one_iff.1 h
     exact ik v hv)]
    exact .gO _ _ (fun j=>us.getD j undef) (by simp[h2]) (fun j hj=>by
     have:j<us.length:=by rw[h2];exact hj
     simp[this]) (fun j v hj=>by
     obtain⟨u,hu,yu⟩:=h3 j v hj
     simpa[List.getD_eq_getElem?_getD,hu]using yu)
  cases ex with
  |normal=>exact fin hq
  |ret=>exact fin hq
  |exit id=>exact hq.elim
theorem IY (hm:P.follows .mixedOrders=true) {f:Nat} {md:List (Nat×Nat)} {vf:Bh} {args:List AV} {σ:ar} {K:AV->ar->Prop} (hf:yh P f md=some vf) (ha:vf.zt=args.length) (h:dL (Sound P) vf.body (kR vf.res K) (cD args) σ):Sound P f args σ K:=by
 unfold yh at hf
 split at hf
 ·rename_i fn Qn
  split at hf
  ·rename_i c hc
   simp only[Option.bind_eq_bind,Option.bind_eq_some_iff]at hf
   obtain⟨vb,hb,vr,hr,hf⟩:=hf
   split at hf
   ·rename_i hle
    simp only[Option.pure_def,Option.some.injEq]at hf
    subst hf
    simp only at ha h
    exact wm Qn hc hr ha hle fun hs w D ι a Q' dK hQ=>qP hm c vb hb (kR vr K) (cD args) σ a w D ι Q' h dK hQ
   ·simp at hf
  ·simp at hf
 ·simp at hf
def NL (P:Program) (X:fN):fN:=fun f args σ K=>(∃md vf,yh P f md=some vf/\vf.zt=args.length/\((∀a∈args,eJ a)->dL X vf.body (kR vf.res K) (cD args) σ))∨Sound P f args σ K
def Call (P:Program):fN:=fun f args σ K=>∀X:fN,qx X->(∀f args σ K,NL P X f args σ K->X f args σ K)->X f args σ K
theorem gx (hm:P.follows .mixedOrders=true) {f:Nat} {args:List AV} {σ:ar} {K:AV->ar->Prop} (h:Call P f args σ K):Sound P f args σ K:=
 h (Sound P) kW fun f args σ K hs=>by
  rcases hs with⟨md,vf,h1,h2,h3⟩|h
  ·intro hs D ι w vs S U A
   exact IY hm h1 h2 (h3 (pD fun j a hj=>by obtain⟨u,_,hr⟩:=A.2 j a hj;exact hr.JM)) hs D ι w vs S U A
  ·exact h
end
end Go.Proofs.YtgoljkjaameagaaGreat.V

namespace Go.Proofs.YtgoljkjaameagaaGreat.V
open Go.RowKit
variable {P:Program} {X Y:fN}
theorem Ig (h:∀f args σ K,X f args σ K->Y f args σ K) {f:Nat} {args:List AV} {σ:ar} {K:AV->Prop} (hp:gC X f args σ K):gC Y f args σ K:=by
 rcases hp with hp|⟨a,h1,h2⟩
 ·exact .inl (h _ _ _ _ hp)
 ·exact .inr ⟨a,h1,h _ _ _ _ h2⟩
theorem Ll (h:∀f args σ K,X f args σ K->Y f args σ K) {f:Nat} {args:List AV} {σ:ar} {sz:Nat} {rows:List (List AV)} (hp:CM X f args σ sz rows):CM Y f args σ sz rows:=by
 obtain⟨h1,a,h2,h3⟩:=hp
 exact⟨h1,a,h2,h _ _ _ _ h3⟩
theorem qN (h:∀f args σ K,X f args σ K->Y f args σ K) (hK:∀f args σ K K',(∀r σ',K r σ'->K' r σ')->Y f args σ K->Y f args σ K') {draw:Bool} {hid:List Nat} {site:Nat} {f:Nat} {args:List AV} {σ:ar} {n n':AV->ar->Prop} (hn:∀v σ',n v σ'->n' v σ') (hp:cK X draw hid site f args σ n):cK Y draw hid site f args σ n':=by
 rcases hp with⟨r,h1,h2⟩|⟨h1,h2⟩|⟨h1,sz,rows,h2,h3⟩
 ·exact .inl ⟨r,Ig h h1,hn _ _ h2⟩
 ·exact .inr (.inl ⟨h1,hK _ _ _ _ _ hn (h _ _ _ _ h2)⟩)
 ·exact .inr (.inr ⟨h1,sz,rows,Ll h h2,hn _ _ h3⟩)
theorem s5 (h:∀f args σ K,X f args σ K->Y f args σ K) (hK:∀f args σ K K',(∀r σ',K r σ'->K' r σ')->Y f args σ K->Y f args σ K') {draw:Bool} {o:bj} {env:Env} {σ:ar} {n n':AV->ar->Prop} (hn:∀v σ',n v σ'->n' v σ') (hp:fM X draw o env σ n):fM Y draw o env σ n':=by
 unfold fM at hp ⊢
 split at hp
 ·exact qN h hK hn hp
 ·split at hp
  ·exact qN h hK hn hp
  ·exact qN h hK hn hp
  ·exact hp.elim
 ·split at hp
  ·exact hn _ _ hp
  ·exact hp.elim
 ·split at hp
  ·exact hn _ _ hp
  ·exact hp.elim
 ·split at hp
  ·exact hn _ _ hp
  ·exact hp.elim
 ·split at hp
  ·exact hn _ _ hp
  ·exact hp.elim
 ·split at hp
  ·exact hn _ _ hp
  ·exact hp.elim
 ·split at hp
  ·exact hn _ _ hp
  ·exact hn _ _ hp
  ·exact hp.elim
theorem lD (h:∀f args σ K,X f args σ K->Y f args σ K) (hK:∀f args σ K K',(∀r σ',K r σ'->K' r σ')->Y f args σ K->Y f args σ K') {draw:Bool} {Q Q':Env->ar->Prop} (hQ:∀e s,Q e s->Q' e s):∀(l:List bj) (env:Env) (σ:ar),wpOps X draw l Q env σ->wpOps Y draw l Q' env σ
 |[],env,σ,hp=>hQ _ _ hp
 |o::r,env,σ,hp=>by
  unfold wpOps at hp ⊢
  split at hp
  ·rename_i hw;rw[if_pos hw];exact s5 h hK (fun v σ'=>lD h hK hQ r _ _) hp
  ·rename_i hw;rw[if_neg hw];exact lD h hK hQ r _ _ hp
theorem nR {Q Q':Env->ar->Prop} (hQ:∀e s,Q e s->Q' e s):∀(l:List bj) (env:Env) (σ:ar),cI l Q env σ->cI l Q' env σ
 |[],env,σ,hp=>hQ _ _ hp
 |o::r,env,σ,hp=>by
  unfold cI at hp ⊢
  refine⟨hp.1,?_⟩
  replace hp:=hp.2
  split at hp
  ·split at hp
   ·exact nR hQ r _ _ hp
   ·exact hp.elim
  ·split at hp
   ·exact nR hQ r _ _ hp
   ·exact hp.elim
  ·split at hp
   ·exact nR hQ r _ _ hp
   ·exact hp.elim
theorem jE (h:∀f args σ K,X f args σ K->Y f args σ K) (hK:∀f args σ K K',(∀r σ',K r σ'->K' r σ')->Y f args σ K->Y f args σ K'):∀(c:VC) (Q Q':Ex->Env->ar->Prop) (env:Env) (σ:ar),(∀x e s,Q x e s->Q' x e s)->dL X c Q env σ->dL Y c Q' env σ:=by
 intro c
 induction c with
 |skip=>intro Q Q' env σ hQ hp;exact hQ _ _ _ hp
 |exit id=>intro Q Q' env σ hQ hp;exact hQ _ _ _ hp
 |ret=>intro Q Q' env σ hQ hp;exact hQ _ _ _ hp
 |one o c ih=>
  intro Q Q' env σ hQ hp
  unfold dL at hp ⊢
  split at hp
  ·rename_i hw;rw[if_pos hw];exact s5 h hK (fun v σ'=>ih Q Q' _ _ hQ) hp
  ·rename_i hw;rw[if_neg hw];exact ih Q Q' _ _ hQ hp
 |both a b iha ihb=>intro Q Q' env σ hQ hp;exact⟨iha Q Q' env σ hQ hp.1,ihb Q Q' env σ hQ hp.2⟩
 |loc t s y c ih=>intro Q Q' env σ hQ hp;exact⟨hp.1,ih Q Q' env σ hQ hp.2⟩
 |Ob ops=>intro Q Q' env σ hQ hp;exact nR (hQ .normal) ops env σ hp
 |eL draw ops=>intro Q Q' env σ hQ hp;exact lD h hK (hQ .normal) ops env σ hp
 |seq a b iha ihb=>
  intro Q Q' env σ hQ hp
  refine iha _ _ env σ (fun x e s hx=>?_) hp
  cases x with
  |normal=>exact ihb Q Q' e s hQ hx
  |exit id=>exact hQ _ _ _ hx
  |ret=>exact hQ _ _ _ hx
 |cond c a b iha ihb=>
  intro Q Q' env σ hQ hp
  unfold dL at hp ⊢
  split at hp
  ·rename_i t ht
   cases t with
   |true=>exact iha Q Q' env σ hQ hp
   |false=>exact ihb Q Q' env σ hQ hp
  ·exact hp.elim
 |block id a iha=>
  intro Q Q' env σ hQ hp
  refine iha _ _ env σ (fun x e s hx=>?_) hp
  cases x with
  |normal=>exact hQ _ _ _ hx
  |ret=>exact hQ _ _ _ hx
  |exit kb=>
   unfold bc at hx ⊢
   dsimp only at hx ⊢
   split at hx
   ·rename_i hid;rw[if_pos hid];exact hQ _ _ _ hx
   ·rename_i hid;rw[if_neg hid];exact hQ _ _ _ hx
 |loop a iha=>
  intro Q Q' env σ hQ hp
  obtain⟨n,hp⟩:=hp
  refine⟨n,?_⟩
  induction n generalizing env σ with
  |zero=>exact hp
  |succ n ihn=>
   refine iha _ _ env σ (fun x e s hx=>?_) hp
   cases x with
   |normal=>exact ihn e s hx
   |exit id=>exact hQ _ _ _ hx
   |ret=>exact hQ _ _ _ hx
theorem aJ:qx (Call P):=fun _ _ _ _ _ hK h X hX hc=>hX _ _ _ _ _ hK (h X hX hc)
theorem yI {f:Nat} {args:List AV} {σ:ar} {K:AV->ar->Prop} (h:NL P (Call P) f args σ K):Call P f args σ K:=by
 intro X hX hc
 refine hc _ _ _ _ ?_
 rcases h with⟨md,vf,h1,h2,h3⟩|h
 ·exact .inl ⟨md,vf,h1,h2,fun hl=>jE (fun f args σ K h=>h X hX hc) hX _ _ _ _ _ (fun _ _ _ h=>h) (h3 hl)⟩
 ·exact .inr h
theorem wb {f:Nat} {md:List (Nat×Nat)} {args:List AV} {σ:ar} {K:AV->ar->Prop} {vf:Bh} (hf:yh P f md=some vf) (ha:vf.zt=args.length) (h:(∀a∈args,eJ a)->dL (Call P) vf.body (kR vf.res K) (cD args) σ):Call P f args σ K:=
 yI (.inl ⟨md,vf,hf,ha,h⟩)
theorem mH {f:Nat} {args:List AV} {σ:ar} {K:AV->ar->Prop} {vf:Bh} (hf:mz P f=some vf) (ha:vf.zt=args.length) (h:(∀a∈args,eJ a)->dL (Call P) vf.body (kR vf.res K) (cD args) σ):Call P f args σ K:=
 wb hf ha h
theorem gS {f:Nat} {args:List AV} {σ:ar} {K:AV->ar->Prop} (h:Sound P f args σ K):Call P f args σ K:=yI (.inr h)
def kq (P:Program) (f:Nat) (args:List AV) (r:AV):Prop:=∀σ,PC (Call P) f args σ (fun r'=>r'=r)
theorem kq.body {f:Nat} {args:List AV} {r:AV} {nt na:Nat} {body:VC} {res:List om} (hf:mz P f=some ⟨nt,na,body,res⟩) (ha:na=args.length) (h:(∀a∈args,eJ a)->∀σ:ar,dL (Call P) body (kR res fun r0 σ'=>∃r',fz σ'.get 6 r0=some r'/\r'=r) (cD args) ⟨V.ro σ.get,σ.next⟩):kq P f args r:=fun σ=>mH hf ha fun hl=>h hl σ
variable {Q:Ex->Env->ar->Prop} {K:Env->ar->Prop} {env:Env} {σ:ar}
theorem Gd {a b:VC} (h:∀N:Env->ar->Prop,(∀e s,dL X b Q e s->N e s)->dL X a (dr N Q) env σ):dL X (.seq a b) Q env σ:=h _ fun _ _ h=>h
theorem Be (h:Q .normal env σ):dL X .skip Q env σ:=h
theorem Bc {id:Nat} (h:Q (.exit id) env σ):dL X (.exit id) Q env σ:=h
theorem Gc (h:Q .ret env σ):dL X .ret Q env σ:=h
theorem vY {id:Nat} {c:VC} (h:dL X c (bc id Q) env σ):dL X (.block id c) Q env σ:=h
theorem Ga {o:bj} {c:VC} (h:∀N:AV->ar->Prop,(∀v s,dL X c Q (upd env o.dst v) s->N v s)->if aO o.guard env then fM X false o env σ N else N .undef σ):dL X (.one o c) Q env σ:=by
 have:=h (fun v s=>dL X c Q (upd env o.dst v) s) fun _ _ h=>h
 unfold dL
 split
 ·rename_i hw;rw[if_pos hw]at this;exact this
 ·rename_i hw;rw[if_neg hw]at this;exact this
def eA (s n:Nat):AV->Prop
 | .own id 0 _=>id=⟨s,n⟩
 |_=>False
def eC (n:Nat):AV->Prop
 | .own id _ _=>¬id.bW=n
 |_=>True
theorem Bd {t s:Nat} {y:O} {c:VC} (h1:eA s σ.next (env t)) (h2:eC σ.next (cU env y)) (h:dL X c Q env σ):dL X (.loc t s y c) Q env σ:=by
 refine⟨⟨?_,fun id o l he=>?_⟩,h⟩
 ·revert h1
  unfold eA
  split
  ·rename_i id l he;rintro rfl;exact⟨l,he⟩
  ·exact fun h=>h.elim
 ·rw[he]at h2;exact h2
theorem fh {a b:VC} (ha:dL X a Q env σ) (hb:dL X b Q env σ):dL X (.both a b) Q env σ:=⟨ha,hb⟩
theorem Gb {draw:Bool} {ops:List bj} (h:∀N:Env->ar->Prop,(∀e s,Q .normal e s->N e s)->wpOps X draw ops N env σ):dL X (.eL draw ops) Q env σ:=h _ fun _ _ h=>h
theorem KR {ops:List bj} (h:cI ops (Q .normal) env σ):dL X (.Ob ops) Q env σ:=h
theorem Da {draw:Bool} (h:K env ⟨σ.get,σ.next+1⟩):wpOps X draw [] K env σ:=h
theorem PS {draw:Bool} {o:bj} {r:List bj} (h:∀N:AV->ar->Prop,(∀v s,wpOps X draw r K (upd env o.dst v) s->N v s)->if aO o.guard env then fM X draw o env σ N else N .undef σ):wpOps X draw (o::r) K env σ:=by
 have:=h (fun v s=>wpOps X draw r K (upd env o.dst v) s) fun _ _ h=>h
 unfold wpOps
 split
 ·rename_i hw;rw[if_pos hw]at this;exact this
 ·rename_i hw;rw[if_neg hw]at this;exact this
theorem KS {c:O} {x y:VC} {b:Bool} (hc:cU env c=.bool b) (ht:b=true->dL X x Q env σ) (hf:b=false->dL X y Q env σ):dL X (.cond c x y) Q env σ:=by
 unfold dL
 simp only[hc]
 cases b with
 |true=>exact ht rfl
 |false=>exact hf rfl
inductive oM:AV->Prop->Prop->Prop
 |t {A B:Prop}:A->oM (.bool true) A B
 |f {A B:Prop}:B->oM (.bool false) A B
theorem vZ {c:O} {x y:VC} {v:AV} (hv:cU env c=v) (h:oM v (dL X x Q env σ) (dL X y Q env σ)):dL X (.cond c x y) Q env σ:=by
 cases h with
 |t h=>exact KS hv (fun _=>h) (fun e=>by cases e)
 |f h=>exact KS hv (fun e=>by cases e) (fun _=>h)
theorem PR {c:VC} (I:Nat->Env->ar->Prop) (n:Nat) (h0:I n env σ) (step:∀n env σ,I n env σ->dL X c (fun x e s=>match x with| .normal=>∃m,m<n/\I m e s|x=>Q x e s) env σ)
  (hX:∀(c:VC) (Q Q':Ex->Env->ar->Prop) env σ,(∀x e s,Q x e s->Q' x e s)->dL X c Q env σ->dL X c Q' env σ):dL X (.loop c) Q env σ:=by
 have key:∀N n env σ,n<N->I n env σ->FW (dL X c) Q N env σ:=by
  intro N
  induction N with
  |zero=>intro n env σ h;exact absurd h (Nat.not_lt_zero _)
  |succ N ih=>
   intro n env σ hn hI
   refine hX c _ _ env σ (fun x e s hx=>?_) (step n env σ hI)
   cases x with
   |normal=>obtain⟨m,hm,Ur⟩:=hx;exact ih m e s (by omega) Ur
   |exit id=>exact hx
   |ret=>exact hx
 exact⟨n+1,key _ n env σ (Nat.lt_succ_self _) h0⟩
theorem MY {c:VC} (I:Nat->Env->ar->Prop) (n:Nat) (h0:I n env σ) (step:∀n env σ,I n env σ->dL (Call P) c (fun x e s=>match x with| .normal=>∃m,m<n/\I m e s|x=>Q x e s) env σ):dL (Call P) (.loop c) Q env σ:=
 PR I n h0 step fun c Q Q' env σ hQ h=>jE (fun _ _ _ _ h=>h) aJ c Q Q' env σ hQ h
def yM:VC->List Nat
 | .eL _ ops=>ops.filterMap (·.dst)
 | .seq a b=>yM a++yM b
 | .cond _ a b=>yM a++yM b
 | .block _ a=>yM a
 | .loop a=>yM a
 | .one o c=>o.dst.toList++yM c
 | .both a b=>yM a++yM b
 | .loc _ _ _ c=>yM c
 | .Ob ops=>ops.filterMap (·.dst)
 |_=>[]
def gI (l:List Nat) (env iP:Env):Prop:=∀t,l.contains t=false->iP t=env t
theorem gI.refl (l:List Nat) (env:Env):gI l env env:=fun _ _=>rfl
theorem gI.trans {l:List Nat} {e e' e'':Env} (h:gI l e e') (k:gI l e' e''):gI l e e'':=fun t ht=>(k t ht).trans (h t ht)
theorem gI.sub {l l':List Nat} {e e':Env} (h:gI l e e') (hs:∀t,t∈l->t∈l'):gI l' e e':=fun t ht=>h t (by
 rw[<-Bool.not_eq_true]at ht ⊢
 simp only[List.contains_iff_mem]at ht ⊢
 exact fun hc=>ht (hs t hc))
theorem gI.upd {l:List Nat} {e e':Env} {d:Option Nat} {v:AV} (h:gI l e e') (hd:∀t,d=some t->t∈l):gI l e (upd e' d v):=fun t ht=>by
 cases d with
 |none=>exact h t ht
 |some d=>
  have:t≠d:=fun hc=>by subst hc;rw[<-Bool.not_eq_true,List.contains_iff_mem]at ht;exact ht (hd _ rfl)
  show(if t=d then v else e' t)=e t
  rw[if_neg this];exact h t ht
theorem pT {draw:Bool} {Q:Env->ar->Prop} {l:List Nat} {e0:Env}:∀(ops:List bj) (env:Env) (σ:ar),(∀t,t∈ops.filterMap (·.dst)->t∈l)->gI l e0 env->wpOps (Call P) draw ops Q env σ->wpOps (Call P) draw ops (fun e s=>Q e s/\gI l e0 e) env σ
 |[],env,σ,_,hk,hp=>⟨hp,hk⟩
 |o::r,env,σ,hl,hk,hp=>by
  have hd:∀t,o.dst=some t->t∈l:=fun t ht=>hl t (List.mem_filterMap.2 ⟨o,by simp,ht⟩)
  have hr:∀t,t∈r.filterMap (·.dst)->t∈l:=fun t ht=>hl t (by
   obtain⟨x,hx,h⟩:=List.mem_filterMap.1 ht
   exact List.mem_filterMap.2 ⟨x,List.mem_cons_of_mem _ hx,h⟩)
  unfold wpOps at hp ⊢
  split at hp
  ·rename_i hw;rw[if_pos hw]
   exact s5 (fun _ _ _ _ h=>h) aJ (fun v σ' h=>pT r _ _ hr (hk.upd hd) h) hp
  ·rename_i hw;rw[if_neg hw];exact pT r _ _ hr (hk.upd hd) hp
theorem mb {Q:Env->ar->Prop} {l:List Nat} {e0:Env}:∀(ops:List bj) (env:Env) (σ:ar),(∀t,t∈ops.filterMap (·.dst)->t∈l)->gI l e0 env->cI ops Q env σ->cI ops (fun e s=>Q e s/\gI l e0 e) env σ
 |[],env,σ,_,hk,hp=>⟨hp,hk⟩
 |o::r,env,σ,hl,hk,hp=>by
  have hd:∀t,o.dst=some t->t∈l:=fun t ht=>hl t (List.mem_filterMap.2 ⟨o,by simp,ht⟩)
  have hr:∀t,t∈r.filterMap (·.dst)->t∈l:=fun t ht=>hl t (by
   obtain⟨x,hx,h⟩:=List.mem_filterMap.1 ht
   exact List.mem_filterMap.2 ⟨x,List.mem_cons_of_mem _ hx,h⟩)
  unfold cI at hp ⊢
  refine⟨hp.1,?_⟩
  replace hp:=hp.2
  split at hp
  ·split at hp
   ·exact mb r _ _ hr (hk.upd hd) hp
   ·exact hp.elim
  ·split at hp
   ·exact mb r _ _ hr (hk.upd hd) hp
   ·exact hp.elim
  ·split at hp
   ·exact mb r _ _ hr (hk.upd hd) hp
   ·exact hp.elim
theorem zN {l:List Nat} {e0:Env}:∀(c:VC) (Q:Ex->Env->ar->Prop) (env:Env) (σ:ar),(∀t,t∈yM c->t∈l)->gI l e0 env->dL (Call P) c Q env σ->dL (Call P) c (fun x e s=>Q x e s/\gI l e0 e) env σ:=by
 intro c
 induction c with
 |skip=>intro Q env σ _ hk hp;exact⟨hp,hk⟩
 |exit id=>intro Q env σ _ hk hp;exact⟨hp,hk⟩
 |ret=>intro Q env σ _ hk hp;exact⟨hp,hk⟩
 |one o c ih=>
  intro Q env σ hl hk hp
  have hd:∀t,o.dst=some t->t∈l:=fun t ht=>hl t (List.mem_append_left _ (by rw[ht];simp))
  have hr:∀t,t∈yM c->t∈l:=fun t ht=>hl t (List.mem_append_right _ ht)
  unfold dL at hp ⊢
  split at hp
  ·rename_i hw;rw[if_pos hw]
   exact s5 (fun _ _ _ _ h=>h) aJ (fun v σ' h=>ih Q _ _ hr (hk.upd hd) h) hp
  ·rename_i hw;rw[if_neg hw];exact ih Q _ _ hr (hk.upd hd) hp
 |both a b iha ihb=>
  intro Q env σ hl hk hp
  exact⟨iha Q env σ (fun t ht=>hl t (List.mem_append_left _ ht)) hk hp.1,ihb Q env σ (fun t ht=>hl t (List.mem_append_right _ ht)) hk hp.2⟩
 |loc t s y c ih=>intro Q env σ hl hk hp;exact⟨hp.1,ih Q env σ hl hk hp.2⟩
 |Ob ops=>intro Q env σ hl hk hp;exact mb ops env σ hl hk hp
 |eL draw ops=>intro Q env σ hl hk hp;exact pT ops env σ hl hk hp
 |seq a b iha ihb=>
  intro Q env σ hl hk hp
  refine jE (fun _ _ _ _ h=>h) aJ a _ _ env σ (fun x e s hx=>?_) (iha _ env σ (fun t ht=>hl t (List.mem_append_left _ ht)) hk hp)
  cases x with
  |normal=>exact ihb Q e s (fun t ht=>hl t (List.mem_append_right _ ht)) hx.2 hx.1
  |exit id=>exact hx
  |ret=>exact hx
 |cond c a b iha ihb=>
  intro Q env σ hl hk hp
  unfold dL at hp ⊢
  split at hp
  ·rename_i t ht
   cases t with
   |true=>exact iha Q env σ (fun t ht=>hl t (List.mem_append_left _ ht)) hk hp
   |false=>exact ihb Q env σ (fun t ht=>hl t (List.mem_append_right _ ht)) hk hp
  ·exact hp.elim
 |block id a iha=>
  intro Q env σ hl hk hp
  refine jE (fun _ _ _ _ h=>h) aJ a _ _ env σ (fun x e s hx=>?_) (iha _ env σ hl hk hp)
  obtain⟨hx,GP⟩:=hx
  cases x with
  |normal=>exact⟨hx,GP⟩
  |ret=>exact⟨hx,GP⟩
  |exit kb=>
   unfold bc at hx ⊢
   dsimp only at hx ⊢
   split at hx
   ·rename_i hid;rw[if_pos hid];exact⟨hx,GP⟩
   ·rename_i hid;rw[if_neg hid];exact⟨hx,GP⟩
 |loop a iha=>
  intro Q env σ hl hk hp
  obtain⟨n,hp⟩:=hp
  refine⟨n,?_⟩
  induction n generalizing env σ with
  |zero=>exact hp
  |succ n ihn=>
   refine jE (fun _ _ _ _ h=>h) aJ _ _ _ _ _ (fun x e s hx=>?_) (iha _ env σ hl hk hp)
   obtain⟨hx,GP⟩:=hx
   cases x with
   |normal=>exact ihn e s GP hx
   |exit id=>exact⟨hx,GP⟩
   |ret=>exact⟨hx,GP⟩
theorem aW {c:VC} (I:Nat->Env->ar->Prop) (n:Nat) (h0:I n env σ) (step:∀n e s,I n e s->gI (yM c) env e->dL (Call P) c (fun x e s=>match x with| .normal=>∃m,m<n/\I m e s|x=>Q x e s) e s):dL (Call P) (.loop c) Q env σ:=by
 refine MY (fun n e s=>I n e s/\gI (yM c) env e) n ⟨h0,gI.refl _ _⟩ fun n e s hI=>?_
 refine jE (fun _ _ _ _ h=>h) aJ _ _ _ _ _ (fun x e' s' hx=>?_) (zN c _ e s (fun _ h=>h) hI.2 (step n e s hI.1 hI.2))
 obtain⟨hx,hk⟩:=hx
 cases x with
 |normal=>obtain⟨m,hm,h⟩:=hx;exact⟨m,hm,h,hk⟩
 |exit id=>exact hx
 |ret=>exact hx
theorem KV {k:Nat} (h:k<=9223372036854775807):IntKind.i64.wrap (k:Int)=k:=by rw[IntKind.wrap_i64];omega
theorem bz {z:Int} (h: -9223372036854775808<=z/\z<=9223372036854775807):IntKind.i64.wrap z=z:=by rw[IntKind.wrap_i64];omega
theorem aB {k:Nat} (h:(k:Int)+1<=9223372036854775807):IntKind.i64.wrap ((k:Int)+1)=((k+1:Nat):Int):=by rw[IntKind.wrap_i64];omega
theorem all_succ {k:Nat} {p:Nat->Prop} (h:∀j,j<k->p j) (hk:p k):∀j,j<k+1->p j:=fun j hj=>by
 by_cases y9:j=k
 ·subst y9;exact hk
 ·exact h j (by omega)
theorem aI (g:Rows) (n:Nat) (k:IntKind) (m:Int):fz g (n+1) (.int k m)=some (.int k m):=by rw[fz]<;>intros<;>simp_all
theorem bh (g:Rows) (n:Nat) (b:Bool):fz g (n+1) (.bool b)=some (.bool b):=by rw[fz]<;>intros<;>simp_all
theorem bE (g:Rows) (n:Nat) (b:ByteArray):fz g (n+1) (.str b)=some (.str b):=by rw[fz]<;>intros<;>simp_all
theorem cz (g:Rows) (n:Nat) (l:List (List AV)):fz g (n+1) (.sl l)=some (.sl l):=by rw[fz]<;>intros<;>simp_all
theorem aY (g:Rows) (n:Nat):fz g (n+1) .cC=some .cC:=by rw[fz]<;>intros<;>simp_all
theorem Sj {t:Nat} {r r0:AV} {x:Ex} (hx:x=.ret∨x=.normal) (he:env t=r0) (hz:fz σ.get 6 r0=some r):kR [.tmp t] (fun r0 σ'=>∃r',fz σ'.get 6 r0=some r'/\r'=r) x env σ:=by
 have:∃vs,fA env σ.get [.tmp t]=some vs/\∃r',fz σ.get 6 (fj vs)=some r'/\r'=r:=⟨[env t],rfl,r,by subst he;exact hz,rfl⟩
 rcases hx with rfl|rfl
 ·exact this
 ·exact this
def aj (P:Program) (f:Nat) (args:List AV) (r:AV):Prop:=∀n:Nat,Call P f args ⟨fun _=>none,n⟩ fun r0 σ'=>∃r',gE σ'.get 6 r0=some r'/\r'=r
theorem aj.body {f:Nat} {args:List AV} {r:AV} {nt na:Nat} {body:VC} {res:List om} (hf:mz P f=some ⟨nt,na,body,res⟩) (ha:na=args.length) (h:(∀a∈args,eJ a)->∀n:Nat,dL (Call P) body (kR res fun r0 σ'=>∃r',gE σ'.get 6 r0=some r'/\r'=r) (cD args) ⟨fun _=>none,n⟩):aj P f args r:=fun n=>mH hf ha fun hl=>h hl n
theorem aj.x {f:Nat} {args eH:List AV} {r:AV} (h:aj P f eH r) {σ:ar} (hv:cV (dP σ.get) 6 args=some eH):gC (Call P) f args σ (fun r'=>r'=r):=.inr ⟨eH,hv,h _⟩
theorem kq.x {f:Nat} {args:List AV} {r:AV} (h:kq P f args r) (σ:ar):gC (Call P) f args σ (fun r'=>r'=r):=.inl (h σ)
theorem eQ (g:Rows) (n:Nat) (k:IntKind) (m:Int):gE g (n+1) (.int k m)=some (.int k m):=by rw[gE]<;>intros<;>simp_all
theorem fo (g:Rows) (n:Nat) (b:Bool):gE g (n+1) (.bool b)=some (.bool b):=by rw[gE]<;>intros<;>simp_all
theorem LI (g:Rows) (n:Nat) (b:ByteArray):gE g (n+1) (.str b)=some (.str b):=by rw[gE]<;>intros<;>simp_all
theorem k6 (g:Rows) (n:Nat):gE g (n+1) .cC=some .cC:=by rw[gE]<;>intros<;>simp_all
theorem eY (g:Rows) (n:Nat) (l:List AV):gE g (n+1) (.gO l)=(ef g n l).map AV.gO:=by rw[gE]
theorem LH (g:Rows) (n:Nat) (l:List AV):gE g (n+1) (.agg l)=(ef g n l).map AV.agg:=by rw[gE]
theorem vI {g:Rows} {n:Nat} {id:Id} {off len sz:Nat} {rows rows':List (List AV)} (h:g id=some ⟨true,sz,rows⟩) (hl:off+len<=rows.length) (hr:iv g n ((rows.drop off).take len)=some rows'):gE g (n+1) (.own id off len)=some (.sl rows'):=by
 rw[gE];simp only[h,if_true,if_pos hl,hr,Option.map_some]
theorem cF (g:Rows) (n:Nat):ef g n []=some []:=by rw[ef]
theorem bD (g:Rows) (n:Nat) (a:AV) (l:List AV):ef g n (a::l)=match gE g n a with
  |some b=>(ef g n l).map (b::·)
  |none=>none:=by rw[ef];cases gE g n a<;>rfl
theorem uv {g:Rows} {n:Nat}:∀{l:List (List AV)},(∀c∈l,ef g n c=some c)->iv g n l=some l
 |[],_=>by rw[iv]
 |c::r,h=>by rw[iv,h c (by simp),uv fun d hd=>h d (List.mem_cons_of_mem _ hd)];rfl
theorem bl (g:Rows) (n:Nat) (l:List AV):fz g (n+1) (.agg l)=(cV g n l).map AV.agg:=by rw[fz]
theorem aV (g:Rows) (n:Nat) (l:List AV):fz g (n+1) (.dn l)=some (.dn l):=by rw[fz]<;>intros<;>simp_all
theorem wP {g:Rows} {n:Nat} {id:Id} {i off sz:Nat} {rows:List (List AV)} {cs qz:List AV} (h:g id=some ⟨true,sz,rows⟩) (hi:rows[i]? =some cs) (hr:cV g n (cs.drop off)=some qz):fz g (n+1) (.ptr id i off)=some (.dn qz):=by
 rw[fz];simp only[h,if_true,hi,hr,Option.map_some]
theorem aq (g:Rows) (n:Nat):cV g n []=some []:=by rw[cV]
theorem ai (g:Rows) (n:Nat) (a:AV) (l:List AV):cV g n (a::l)=match fz g n a with
  |some b=>(cV g n l).map (b::·)
  |none=>none:=by rw[cV];cases fz g n a<;>rfl
theorem xD {t:Nat} {r r0:AV} {x:Ex} (hx:x=.ret∨x=.normal) (he:env t=r0) (hz:gE σ.get 6 r0=some r):kR [.tmp t] (fun r0 σ'=>∃r',gE σ'.get 6 r0=some r'/\r'=r) x env σ:=by
 have:∃vs,fA env σ.get [.tmp t]=some vs/\∃r',gE σ.get 6 (fj vs)=some r'/\r'=r:=⟨[env t],rfl,r,by subst he;exact hz,rfl⟩
 rcases hx with rfl|rfl
 ·exact this
 ·exact this
theorem aU {t:Nat} {b c:Bool} {x:Ex} (hx:x=.ret∨x=.normal) (he:env t=.bool b) (hb:b=c):kR [.tmp t] (fun r0 σ'=>∃r',gE σ'.get 6 r0=some r'/\r'=.bool c) x env σ:=xD hx he (by rw[fo,hb])
theorem cr {t:Nat} {k:IntKind} {b c:Int} {x:Ex} (hx:x=.ret∨x=.normal) (he:env t=.int k b) (hb:b=c):kR [.tmp t] (fun r0 σ'=>∃r',gE σ'.get 6 r0=some r'/\r'=.int k c) x env σ:=xD hx he (by rw[eQ,hb])
theorem jC {t u:Nat} {r r1 r2:AV} {x:Ex} (hx:x=.ret∨x=.normal) (h1:env t=r1) (h2:env u=r2) (hz:gE σ.get 6 (.gO [r1,r2])=some r):kR [.tmp t,.tmp u] (fun r0 σ'=>∃r',gE σ'.get 6 r0=some r'/\r'=r) x env σ:=by
 have:∃vs,fA env σ.get [.tmp t,.tmp u]=some vs/\∃r',gE σ.get 6 (fj vs)=some r'/\r'=r:=⟨[env t,env u],rfl,r,by subst h1;subst h2;exact hz,rfl⟩
 rcases hx with rfl|rfl
 ·exact this
 ·exact this
structure Pn (p:Prop):Prop where
 out:p
theorem tw {A B:Prop} (a:A) (b:B):A/\B:=⟨a,b⟩
theorem wk {A R G:Prop} (a:A) (r:R) (h:A->R->G:=by
  intro fL kk
  (repeat(refine Pn.mk ?_;intro N hN))
  (first|((first|apply Gd|apply Gb);intro N hN)|((first|(apply PS;intro N hN)|(apply Ga;intro N hN));simp only[go_sem, ↓reduceIte,Nat.reduceEqDiff,Nat.reduceAdd,Nat.reduceSub,Nat.reduceMul,Nat.reduceLeDiff,Nat.reduceBEq,reduceCtorEq,Nat.reduceLT,Int.reduceLE,Int.reduceLT,Int.reduceToNat,Int.reduceNeg,Int.reduceAdd,Int.reduceEq,fL];first|(refine hN _ _ ?_;clear hN N)|skip)|(apply vZ;(simp only[go_sem, ↓reduceIte,Nat.reduceEqDiff,Nat.reduceAdd,Nat.reduceSub,Nat.reduceMul,Nat.reduceLeDiff,Nat.reduceBEq,reduceCtorEq,Nat.reduceLT,Int.reduceLE,Int.reduceLT,Int.reduceToNat,Int.reduceNeg,Int.reduceAdd,Int.reduceEq,fL];rfl);first|with_reducible apply oM.t|with_reducible apply oM.f)|(apply Da;refine hN _ _ ?_;clear hN N;try(simp only[dr,bc, ↓reduceIte,Nat.reduceEqDiff]);try(refine hN _ _ ?_;clear hN N))|apply vY|(refine Bd ?_ ?_ ?_;(focus(simp only[go_sem, ↓reduceIte,Nat.reduceEqDiff,Nat.reduceAdd,Nat.reduceSub,Nat.reduceMul,Nat.reduceLeDiff,Nat.reduceBEq,reduceCtorEq,Nat.reduceLT,Int.reduceLE,Int.reduceLT,Int.reduceToNat,Int.reduceNeg,Int.reduceAdd,Int.reduceEq,fL];done));(focus(simp only[go_sem, ↓reduceIte,Nat.reduceEqDiff,Nat.reduceAdd,Nat.reduceSub,Nat.reduceMul,Nat.reduceLeDiff,Nat.reduceBEq,reduceCtorEq,Nat.reduceLT,Int.reduceLE,Int.reduceLT,Int.reduceToNat,Int.reduceNeg,Int.reduceAdd,Int.reduceEq,fL];done)))|((first|apply Be|apply Bc|apply Gc);try(simp only[dr,bc, ↓reduceIte,Nat.reduceEqDiff]);try(refine hN _ _ ?_;clear hN N))|((first|refine hN _ _ ?_|(clear hN N;first|refine hN _ _ ?_|(clear hN N;first|refine hN _ _ ?_|(clear hN N;first|refine hN _ _ ?_|(clear hN N;refine hN _ _ ?_)))));clear hN N))
  (repeat(first|((first|apply Gd|apply Gb);intro N hN)|((first|(apply PS;intro N hN)|(apply Ga;intro N hN));simp only[go_sem, ↓reduceIte,Nat.reduceEqDiff,Nat.reduceAdd,Nat.reduceSub,Nat.reduceMul,Nat.reduceLeDiff,Nat.reduceBEq,reduceCtorEq,Nat.reduceLT,Int.reduceLE,Int.reduceLT,Int.reduceToNat,Int.reduceNeg,Int.reduceAdd,Int.reduceEq,fL];first|(refine hN _ _ ?_;clear hN N)|skip)|(apply vZ;(simp only[go_sem, ↓reduceIte,Nat.reduceEqDiff,Nat.reduceAdd,Nat.reduceSub,Nat.reduceMul,Nat.reduceLeDiff,Nat.reduceBEq,reduceCtorEq,Nat.reduceLT,Int.reduceLE,Int.reduceLT,Int.reduceToNat,Int.reduceNeg,Int.reduceAdd,Int.reduceEq,fL];rfl);first|with_reducible apply oM.t|with_reducible apply oM.f)|(apply Da;refine hN _ _ ?_;clear hN N;try(simp only[dr,bc, ↓reduceIte,Nat.reduceEqDiff]);try(refine hN _ _ ?_;clear hN N))|apply vY|(refine Bd ?_ ?_ ?_;(focus(simp only[go_sem, ↓reduceIte,Nat.reduceEqDiff,Nat.reduceAdd,Nat.reduceSub,Nat.reduceMul,Nat.reduceLeDiff,Nat.reduceBEq,reduceCtorEq,Nat.reduceLT,Int.reduceLE,Int.reduceLT,Int.reduceToNat,Int.reduceNeg,Int.reduceAdd,Int.reduceEq,fL];done));(focus(simp only[go_sem, ↓reduceIte,Nat.reduceEqDiff,Nat.reduceAdd,Nat.reduceSub,Nat.reduceMul,Nat.reduceLeDiff,Nat.reduceBEq,reduceCtorEq,Nat.reduceLT,Int.reduceLE,Int.reduceLT,Int.reduceToNat,Int.reduceNeg,Int.reduceAdd,Int.reduceEq,fL];done)))|((first|apply Be|apply Bc|apply Gc);try(simp only[dr,bc, ↓reduceIte,Nat.reduceEqDiff]);try(refine hN _ _ ?_;clear hN N))|((first|refine hN _ _ ?_|(clear hN N;first|refine hN _ _ ?_|(clear hN N;first|refine hN _ _ ?_|(clear hN N;first|refine hN _ _ ?_|(clear hN N;refine hN _ _ ?_)))));clear hN N)))
  (repeat(revert hN;revert N;apply Pn.out))
  exact kk):G:=h a r
theorem wa {A R G:Prop} (a:A) (r:R) (h:A->R->G:=by
  intro fL kk
  (repeat(refine Pn.mk ?_;intro N hN))
  (first|((first|apply Gd|apply Gb);intro N hN)|((first|(refine NO rfl fun N hN=>?_)|(apply Ga;intro N hN));simp only[go_sem, ↓reduceIte,Nat.reduceEqDiff,Nat.reduceAdd,Nat.reduceSub,Nat.reduceMul,Nat.reduceLeDiff,Nat.reduceBEq,reduceCtorEq,Nat.reduceLT,Int.reduceLE,Int.reduceLT,Int.reduceToNat,Int.reduceNeg,Int.reduceAdd,Int.reduceEq,fL];first|(refine hN _ _ ?_;clear hN N)|skip)|(apply vZ;(simp only[go_sem, ↓reduceIte,Nat.reduceEqDiff,Nat.reduceAdd,Nat.reduceSub,Nat.reduceMul,Nat.reduceLeDiff,Nat.reduceBEq,reduceCtorEq,Nat.reduceLT,Int.reduceLE,Int.reduceLT,Int.reduceToNat,Int.reduceNeg,Int.reduceAdd,Int.reduceEq,fL];rfl);first|with_reducible apply oM.t|with_reducible apply oM.f)|(apply Da;refine hN _ _ ?_;clear hN N;try(simp only[dr,bc, ↓reduceIte,Nat.reduceEqDiff]);try(refine hN _ _ ?_;clear hN N))|apply vY|(refine Bd ?_ ?_ ?_;(focus(simp only[go_sem, ↓reduceIte,Nat.reduceEqDiff,Nat.reduceAdd,Nat.reduceSub,Nat.reduceMul,Nat.reduceLeDiff,Nat.reduceBEq,reduceCtorEq,Nat.reduceLT,Int.reduceLE,Int.reduceLT,Int.reduceToNat,Int.reduceNeg,Int.reduceAdd,Int.reduceEq,fL];done));(focus(simp only[go_sem, ↓reduceIte,Nat.reduceEqDiff,Nat.reduceAdd,Nat.reduceSub,Nat.reduceMul,Nat.reduceLeDiff,Nat.reduceBEq,reduceCtorEq,Nat.reduceLT,Int.reduceLE,Int.reduceLT,Int.reduceToNat,Int.reduceNeg,Int.reduceAdd,Int.reduceEq,fL];done)))|((first|apply Be|apply Bc|apply Gc);try(simp only[dr,bc, ↓reduceIte,Nat.reduceEqDiff]);try(refine hN _ _ ?_;clear hN N))|((first|refine hN _ _ ?_|(clear hN N;first|refine hN _ _ ?_|(clear hN N;first|refine hN _ _ ?_|(clear hN N;first|refine hN _ _ ?_|(clear hN N;refine hN _ _ ?_)))));clear hN N))
  (repeat(first|((first|apply Gd|apply Gb);intro N hN)|((first|(refine NO rfl fun N hN=>?_)|(apply Ga;intro N hN));simp only[go_sem, ↓reduceIte,Nat.reduceEqDiff,Nat.reduceAdd,Nat.reduceSub,Nat.reduceMul,Nat.reduceLeDiff,Nat.reduceBEq,reduceCtorEq,Nat.reduceLT,Int.reduceLE,Int.reduceLT,Int.reduceToNat,Int.reduceNeg,Int.reduceAdd,Int.reduceEq,fL];first|(refine hN _ _ ?_;clear hN N)|skip)|(apply vZ;(simp only[go_sem, ↓reduceIte,Nat.reduceEqDiff,Nat.reduceAdd,Nat.reduceSub,Nat.reduceMul,Nat.reduceLeDiff,Nat.reduceBEq,reduceCtorEq,Nat.reduceLT,Int.reduceLE,Int.reduceLT,Int.reduceToNat,Int.reduceNeg,Int.reduceAdd,Int.reduceEq,fL];rfl);first|with_reducible apply oM.t|with_reducible apply oM.f)|(apply Da;refine hN _ _ ?_;clear hN N;try(simp only[dr,bc, ↓reduceIte,Nat.reduceEqDiff]);try(refine hN _ _ ?_;clear hN N))|apply vY|(refine Bd ?_ ?_ ?_;(focus(simp only[go_sem, ↓reduceIte,Nat.reduceEqDiff,Nat.reduceAdd,Nat.reduceSub,Nat.reduceMul,Nat.reduceLeDiff,Nat.reduceBEq,reduceCtorEq,Nat.reduceLT,Int.reduceLE,Int.reduceLT,Int.reduceToNat,Int.reduceNeg,Int.reduceAdd,Int.reduceEq,fL];done));(focus(simp only[go_sem, ↓reduceIte,Nat.reduceEqDiff,Nat.reduceAdd,Nat.reduceSub,Nat.reduceMul,Nat.reduceLeDiff,Nat.reduceBEq,reduceCtorEq,Nat.reduceLT,Int.reduceLE,Int.reduceLT,Int.reduceToNat,Int.reduceNeg,Int.reduceAdd,Int.reduceEq,fL];done)))|((first|apply Be|apply Bc|apply Gc);try(simp only[dr,bc, ↓reduceIte,Nat.reduceEqDiff]);try(refine hN _ _ ?_;clear hN N))|((first|refine hN _ _ ?_|(clear hN N;first|refine hN _ _ ?_|(clear hN N;first|refine hN _ _ ?_|(clear hN N;first|refine hN _ _ ?_|(clear hN N;refine hN _ _ ?_)))));clear hN N)))
  (repeat(revert hN;revert N;apply Pn.out))
  exact kk):G:=h a r
theorem sd {A G:Prop} (a:A) (h:A->G:=by
  intro fL
  first|(simp only[go_sem, ↓reduceIte,Nat.reduceEqDiff,Nat.reduceAdd,Nat.reduceSub,Nat.reduceMul,Nat.reduceLeDiff,Nat.reduceBEq,reduceCtorEq,Nat.reduceLT,Int.reduceLE,Int.reduceLT,Int.reduceToNat,Int.reduceNeg,Int.reduceAdd,Int.reduceEq,fL,fA,iD];done)|fail):G:=h a
theorem sl {A G:Prop} (a:A) (h:A->G:=by
  intro fL
  (try simp only[go_sem, ↓reduceIte,Nat.reduceEqDiff,Nat.reduceAdd,Nat.reduceSub,Nat.reduceMul,Nat.reduceLeDiff,Nat.reduceBEq,reduceCtorEq,Nat.reduceLT,Int.reduceLE,Int.reduceLT,Int.reduceToNat,Int.reduceNeg,Int.reduceAdd,Int.reduceEq,fL])
  try rfl):G:=h a
end Go.Proofs.YtgoljkjaameagaaGreat.V

namespace Go.Proofs.YtgoljkjaameagaaGreat.V
open Go.RowKit
variable {P:Program} {X:fN} {env:Env} {σ:ar}
theorem bH (g:Rows) (n:Nat) (l:List AV):fz g (n+1) (.gO l)=(cV g n l).map AV.gO:=by rw[fz]
theorem cW (g:Rows) (n:Nat) (f:Nat) (l:List AV):fz g (n+1) (.fn f l)=if l.all AV.cell then(cV g n l).map (AV.fn f)else none:=by rw[fz]
theorem bf (g:Rows) (n:Nat) (id:Id) (i off:Nat):fz g (n+1) (.ptr id i off)=match g id with
  |some r=>if r.w then(match r.rows[i]? with
   |some cs=>(cV g n (cs.drop off)).map AV.dn
   |none=>none)else none
  |none=>none:=by rw[fz];rfl
theorem gV (g:Rows) (n:Nat) (id:Id) (off len:Nat):fz g (n+1) (.own id off len)=match g id with
  |some r=>if r.w then(if off+len<=r.rows.length then(dU g n ((r.rows.drop off).take len)).map AV.sl else none)else none
  |none=>none:=by rw[fz];rfl
theorem pj (g:Rows) (n:Nat):dU g n []=some []:=by rw[dU]
theorem Aa (g:Rows) (n:Nat) (c:List AV) (l:List (List AV)):dU g n (c::l)=match cV g n c with
  |some b=>(dU g n l).map (b::·)
  |none=>none:=by rw[dU];cases cV g n c<;>rfl
theorem wN {g:Rows} {n:Nat}:∀{l:List (List AV)},(∀c∈l,cV g n c=some c)->dU g n l=some l
 |[],_=>by rw[dU]
 |c::r,h=>by rw[dU,h c (by simp),wN fun d hd=>h d (List.mem_cons_of_mem _ hd)];rfl
theorem qW {α:Type} {g:Rows} {n:Nat} {e:α->List AV} {l:List α} (h:∀x,cV g n (e x)=some (e x)):dU g n (l.map e)=some (l.map e):=wN fun c hc=>by
 obtain⟨x,_,rfl⟩:=List.mem_map.1 hc
 exact h x
theorem ux {α:Type} {g:Rows} {n:Nat} {e:α->List AV} {l:List α} (h:∀x,ef g n (e x)=some (e x)):iv g n (l.map e)=some (l.map e):=uv fun c hc=>by
 obtain⟨x,_,rfl⟩:=List.mem_map.1 hc
 exact h x
theorem gy {α:Type} {g:Rows} {n:Nat} {e:α->List AV} {l:List α} {id:Id} {sz len:Nat} (hg:g id=some ⟨true,sz,l.map e⟩) (hl:len=l.length) (h:∀x,cV g n (e x)=some (e x)):fz g (n+1) (.own id 0 len)=some (.sl (l.map e)):=by
 subst hl
 rw[gV];simp only[hg,if_true]
 rw[if_pos (by simp),List.drop_zero,List.take_of_length_le (by simp),qW h];rfl
theorem fJ {α:Type} {g:Rows} {n:Nat} {e:α->List AV} {l:List α} {id:Id} {sz len:Nat} (hg:g id=some ⟨true,sz,l.map e⟩) (hl:len=l.length) (h:∀x,ef g n (e x)=some (e x)):gE g (n+1) (.own id 0 len)=some (.sl (l.map e)):=by
 subst hl
 exact vI hg (by simp) (by rw[List.drop_zero,List.take_of_length_le (by simp),ux h])
theorem all_map {α:Type} {e:α->List AV} {sz:Nat} {l:List α} (h:∀x,(e x).length=sz/\(e x).all AV.cell=true):(l.map e).all (fun c=>c.length==sz&&c.all AV.cell)=true:=by
 rw[List.all_eq_true]
 intro c hc
 obtain⟨x,_,rfl⟩:=List.mem_map.1 hc
 simp[(h x).1,(h x).2]
def QN (P:Program) (f:Nat) (args:List AV) (sz:Nat) (rows:List (List AV)):Prop:=(∀c∈rows,∀a∈c,a.plain=true)/\∀n:Nat,Call P f args ⟨fun _=>none,n⟩ fun r σ'=>∃id,r=.own id 0 rows.length/\σ'.get id=some ⟨true,sz,rows⟩
theorem QN.x {f sz:Nat} {args eH:List AV} {rows:List (List AV)} (h:QN P f eH sz rows) {σ:ar} (hv:cV (dP σ.get) 6 args=some eH):CM (Call P) f args σ sz rows:=⟨h.1,eH,hv,h.2 _⟩
theorem yD {res:List om} {r:AV} {vs:List AV} {x:Ex} (hx:x=.ret∨x=.normal) (hv:fA env σ.get res=some vs) (hz:fz σ.get 6 (fj vs)=some r):kR res (fun r0 σ'=>∃r',fz σ'.get 6 r0=some r'/\r'=r) x env σ:=by
 rcases hx with rfl|rfl
 ·exact⟨vs,hv,r,hz,rfl⟩
 ·exact⟨vs,hv,r,hz,rfl⟩
theorem pK {res:List om} {r:AV} {vs:List AV} {x:Ex} (hx:x=.ret∨x=.normal) (hv:fA env σ.get res=some vs) (hz:gE σ.get 6 (fj vs)=some r):kR res (fun r0 σ'=>∃r',gE σ'.get 6 r0=some r'/\r'=r) x env σ:=by
 rcases hx with rfl|rfl
 ·exact⟨vs,hv,r,hz,rfl⟩
 ·exact⟨vs,hv,r,hz,rfl⟩
theorem ft {res:List om} {K:AV->ar->Prop} {vs:List AV} {x:Ex} (hx:x=.ret∨x=.normal) (hv:fA env σ.get res=some vs) (hK:K (fj vs) σ):kR res K x env σ:=by
 rcases hx with rfl|rfl
 ·exact⟨vs,hv,hK⟩
 ·exact⟨vs,hv,hK⟩
theorem eW {f:Nat} {args:List AV} {σ:ar} {K:AV->ar->Prop} {nt na:Nat} {body:VC} {res:List om} (hf:mz P f=some ⟨nt,na,body,res⟩) (ha:na=args.length) (h:(∀a∈args,eJ a)->dL (Call P) body (kR res K) (cD args) σ):Call P f args σ K:=mH hf ha h
theorem H9 {f:Nat} {md:List (Nat×Nat)} {args:List AV} {σ:ar} {K:AV->ar->Prop} {nt na:Nat} {body:VC} {res:List om} (hf:yh P f md=some ⟨nt,na,body,res⟩) (ha:na=args.length) (h:(∀a∈args,eJ a)->dL (Call P) body (kR res K) (cD args) σ):Call P f args σ K:=wb hf ha h
theorem dv {i:Id} {n:Nat} (h:i.bW<n):(∀s,(i=⟨s,n⟩)=False/\(i=⟨s,n+1⟩)=False/\(i=⟨s,n+1+1⟩)=False/\(i=⟨s,n+1+1+1⟩)=False/\(i=⟨s,n+1+1+1+1⟩)=False/\(i=⟨s,n+1+1+1+1+1⟩)=False/\(i=⟨s,n+1+1+1+1+1+1⟩)=False/\(i=⟨s,n+1+1+1+1+1+1+1⟩)=False/\(i=⟨s,n+1+1+1+1+1+1+1+1⟩)=False/\(i=⟨s,n+1+1+1+1+1+1+1+1+1⟩)=False/\(⟨s,n⟩=i)=False/\(⟨s,n+1⟩=i)=False/\(⟨s,n+1+1⟩=i)=False/\(⟨s,n+1+1+1⟩=i)=False/\(⟨s,n+1+1+1+1⟩=i)=False/\(⟨s,n+1+1+1+1+1⟩=i)=False/\(⟨s,n+1+1+1+1+1+1⟩=i)=False/\(⟨s,n+1+1+1+1+1+1+1⟩=i)=False/\(⟨s,n+1+1+1+1+1+1+1+1⟩=i)=False/\(⟨s,n+1+1+1+1+1+1+1+1+1⟩=i)=False)/\(i.bW=n)=False/\(i.bW=n+1)=False/\(i.bW=n+1+1)=False/\(i.bW=n+1+1+1)=False/\(i.bW=n+1+1+1+1)=False/\(i.bW=n+1+1+1+1+1)=False/\(i.bW=n+1+1+1+1+1+1)=False/\(i.bW=n+1+1+1+1+1+1+1)=False/\(i.bW=n+1+1+1+1+1+1+1+1)=False/\(i.bW=n+1+1+1+1+1+1+1+1+1)=False:=by
 refine⟨fun s=>?_,?_⟩
 ·obtain⟨a,b⟩:=i
  simp only[Id.mk.injEq,eq_iff_iff,iff_false,not_and]
  simp only at h
  refine⟨?_,?_,?_,?_,?_,?_,?_,?_,?_,?_,?_,?_,?_,?_,?_,?_,?_,?_,?_,?_⟩<;>(intros;omega)
 ·simp only[eq_iff_iff,iff_false]
  refine⟨?_,?_,?_,?_,?_,?_,?_,?_,?_,?_⟩<;>omega
def gJ (a b:Nat) (ids:List Id):Prop:=ids.Nodup/\∀i∈ids,a<=i.bW/\i.bW<b
def Kept (σ σ':ar):Prop:=σ.next<=σ'.next/\∀j:Id,j.bW<σ.next->σ'.get j=σ.get j
theorem Kept.trans {a b c:ar} (h:Kept a b) (k:Kept b c):Kept a c:=⟨Nat.le_trans h.1 k.1,fun j hj=>(k.2 j (Nat.lt_of_lt_of_le hj h.1)).trans (h.2 j hj)⟩
theorem gJ.wide {a b a' b':Nat} {ids:List Id} (h:gJ a b ids) (h1:a'<=a) (h2:b<=b'):gJ a' b' ids:=⟨h.1,fun i hi=>⟨Nat.le_trans h1 (h.2 i hi).1,Nat.lt_of_lt_of_le (h.2 i hi).2 h2⟩⟩
theorem gJ.app {a b c d:Nat} {i j:List Id} (h:gJ a b i) (k:gJ c d j) (OJ:b<=c) (re:a<=b) (hcd:c<=d):gJ a d (i++j):=
 ⟨List.nodup_append.2 ⟨h.1,k.1,fun x hx y hy e=>by subst e;have:=(h.2 x hx).2;have:=(k.2 x hy).1;omega⟩,fun x hx=>by
  rcases List.mem_append.1 hx with hx|hx
  ·have:=h.2 x hx;omega
  ·have:=k.2 x hx;omega⟩
end Go.Proofs.YtgoljkjaameagaaGreat.V

namespace Go.Proofs.YtgoljkjaameagaaGreat.V
open Go.RowKit
attribute [local irreducible] dL wpOps gC Call
attribute [local go_sem] aO fM eS ga fZ cU upd cD K.av cR AV.cells AV.cell rowOf rowsOf part ld rowAt bt cw dG ei iu bK dm eB fY e6 dt ep di dh dV dW bU bd cZ bQ db da ek er eo cY ck dj ej bP aQ dd cJ iq br cN bV aZ dr bc dH AV.undef bF bJ dX eh dR dO cK eA eC cI ev eu dc de List.getD_cons_zero List.getD_cons_succ List.getD_nil List.all_cons List.all_nil Bool.and_true Bool.true_and Bool.and_self Bool.not_true Bool.not_false Option.map_some Option.map_none Option.bind_some Option.bind_none List.length_cons List.length_nil List.take_succ_cons List.take_zero List.take_nil List.drop_succ_cons List.drop_zero List.drop_nil List.head?_cons List.map_cons List.map_nil List.getElem?_cons_zero List.getElem?_cons_succ List.cons_append List.nil_append List.append_nil List.length_map List.set_cons_zero List.set_cons_succ Nat.reduceMul eq_self Int.toNat_natCast Int.natCast_nonneg and_self true_and and_true decide_true decide_false Bool.false_eq_true Nat.zero_add Nat.add_zero List.contains_cons List.contains_nil Bool.or_false Bool.false_or beq_self_eq_true Nat.reduceBEq ne_eq not_true_eq_false not_false_eq_true Id.mk.injEq false_and and_false Nat.reduceLT Int.reduceLE Int.reduceLT Int.reduceToNat Int.reduceNeg Int.reduceAdd Nat.le_refl List.length_append beq_true beq_false Bool.not_eq_eq_eq_not or_false false_or dP ai aq aI bh bE cz aY bl aV bf cW bH
variable {P:Program}
def Kx (f g z:Nat):Bh:=let s:=f*1000000
 ⟨27,2,(.seq (.eL false [q 4 (.dq (.k (.int .i64 0))) s]) (.seq (.eL false [q 6 (.dq (.t 1)) (s+1000),q 7 (.dq (.t 0)) (s+1001),q 8 (.len (.t 7)) (s+1002),q 9 (.bin .sub .i64 (.t 6) (.t 8)) (s+1003),q 1 (.dq (.t 9)) (s+1004)]) (.seq (.seq (.eL false [q 10 (.dq (.t 1)) (s+2000),q 11 (.bin .lss .i64 (.t 10) (.k (.int .i64 0))) (s+2001)]) (.cond (.t 11) (.seq (.eL false [q 4 (.dq (.k (.int .i64 (-1)))) (s+3000)]) .ret) .skip)) (.seq (.seq (.eL false [q 5 (.dq (.k (.int .i64 0))) (s+4000)]) (.block 0 (.loop (.seq (.seq (.eL false [q 12 (.dq (.t 5)) (s+5000),q 13 (.dq (.t 0)) (s+5001),q 14 (.len (.t 13)) (s+5002),q 15 (.bin .lss .i64 (.t 12) (.t 14)) (s+5003)]) (.cond (.t 15) .skip (.exit 0))) (.seq (.block 1 (.seq (.eL false [q 18 (.dq (.t 0)) (s+7000),q 19 (.dq (.t 5)) (s+7001),q 20 (.dQ z (.t 18) (.t 19)) (s+7002),q 21 (.load true z (.t 20)) (s+7003),q 22 (.dq (.t 1)) (s+7004),q 23 (.call g [(.t 21),(.t 22)]) (s+7005),q 1 (.dq (.t 23)) (s+7006)]) (.seq (.eL false [q 24 (.dq (.t 1)) (s+8000),q 25 (.bin .lss .i64 (.t 24) (.k (.int .i64 0))) (s+8001)]) (.cond (.t 25) (.seq (.eL false [q 4 (.dq (.k (.int .i64 (-1)))) (s+9000)]) .ret) .skip)))) (.eL false [q 16 (.dq (.t 5)) (s+6000),q 17 (.bin .add .i64 (.t 16) (.k (.int .i64 1))) (s+6001),q 5 (.dq (.t 17)) (s+6002)])))))) (.seq (.eL false [q 26 (.dq (.t 1)) (s+10000),q 4 (.dq (.t 26)) (s+10001)]) .ret))))),[(.tmp 4)]⟩
def Kv (f:Nat):Bh:=let s:=f*1000000
 ⟨12,2,(.seq (.eL false [q 4 (.dq (.k (.int .i64 0))) s]) (.seq (.eL false [q 5 (.dq (.t 1)) (s+1000),q 6 (.dq (.t 0)) (s+1001),q 7 (.len (.t 6)) (s+1002),q 8 (.bin .sub .i64 (.t 5) (.t 7)) (s+1003),q 1 (.dq (.t 8)) (s+1004)]) (.seq (.seq (.eL false [q 9 (.dq (.t 1)) (s+2000),q 10 (.bin .lss .i64 (.t 9) (.k (.int .i64 0))) (s+2001)]) (.cond (.t 10) (.seq (.eL false [q 4 (.dq (.k (.int .i64 (-1)))) (s+3000)]) .ret) .skip)) (.seq (.eL false [q 11 (.dq (.t 1)) (s+4000),q 4 (.dq (.t 11)) (s+4001)]) .ret)))),[(.tmp 4)]⟩
def BT (f g z:Nat):Bh:=let s:=f*1000000
 ⟨27,2,(.seq (.eL false [q 4 (.dq (.k (.bool false))) s]) (.seq (.seq (.eL false [q 6 (.dq (.t 0)) (s+1000),q 7 (.len (.t 6)) (s+1001),q 8 (.dq (.t 1)) (s+1002),q 9 (.len (.t 8)) (s+1003),q 10 (.Oi true .tI (.t 7) (.t 9)) (s+1004)]) (.cond (.t 10) (.seq (.eL false [q 4 (.dq (.k (.bool false))) (s+2000)]) .ret) .skip)) (.seq (.seq (.eL false [q 5 (.dq (.k (.int .i64 0))) (s+3000)]) (.block 0 (.loop (.seq (.seq (.eL false [q 11 (.dq (.t 5)) (s+4000),q 12 (.dq (.t 0)) (s+4001),q 13 (.len (.t 12)) (s+4002),q 14 (.bin .lss .i64 (.t 11) (.t 13)) (s+4003)]) (.cond (.t 14) .skip (.exit 0))) (.seq (.block 1 (.seq (.eL true [q 17 (.dq (.t 0)) (s+6000),q 18 (.dq (.t 5)) (s+6001),q 19 (.dQ z (.t 17) (.t 18)) (s+6002),q 20 (.load true z (.t 19)) (s+6003),q 21 (.dq (.t 1)) (s+6004),q 22 (.dq (.t 5)) (s+6005),q 23 (.dQ z (.t 21) (.t 22)) (s+6006),q 24 (.load true z (.t 23)) (s+6007),q 25 (.call g [(.t 20),(.t 24)]) (s+6008),q 26 (.not (.t 25)) (s+6009)]) (.cond (.t 26) (.seq (.eL false [q 4 (.dq (.k (.bool false))) (s+7000)]) .ret) .skip))) (.eL false [q 15 (.dq (.t 5)) (s+5000),q 16 (.bin .add .i64 (.t 15) (.k (.int .i64 1))) (s+5001),q 5 (.dq (.t 16)) (s+5002)])))))) (.seq (.eL false [q 4 (.dq (.k (.bool true))) (s+8000)]) .ret)))),[(.tmp 4)]⟩
def Nd (f:Nat) (t:TS):Bh:=let s:=f*1000000
 ⟨26,2,(.seq (.eL false [q 4 (.dq (.k (.bool false))) s]) (.seq (.seq (.eL false [q 6 (.dq (.t 0)) (s+1000),q 7 (.len (.t 6)) (s+1001),q 8 (.dq (.t 1)) (s+1002),q 9 (.len (.t 8)) (s+1003),q 10 (.Oi true .tI (.t 7) (.t 9)) (s+1004)]) (.cond (.t 10) (.seq (.eL false [q 4 (.dq (.k (.bool false))) (s+2000)]) .ret) .skip)) (.seq (.seq (.eL false [q 5 (.dq (.k (.int .i64 0))) (s+3000)]) (.block 0 (.loop (.seq (.seq (.eL false [q 11 (.dq (.t 5)) (s+4000),q 12 (.dq (.t 0)) (s+4001),q 13 (.len (.t 12)) (s+4002),q 14 (.bin .lss .i64 (.t 11) (.t 13)) (s+4003)]) (.cond (.t 14) .skip (.exit 0))) (.seq (.block 1 (.seq (.eL true [q 17 (.dq (.t 0)) (s+6000),q 18 (.dq (.t 5)) (s+6001),q 19 (.dQ 1 (.t 17) (.t 18)) (s+6002),q 20 (.load false 1 (.t 19)) (s+6003),q 21 (.dq (.t 1)) (s+6004),q 22 (.dq (.t 5)) (s+6005),q 23 (.dQ 1 (.t 21) (.t 22)) (s+6006),q 24 (.load false 1 (.t 23)) (s+6007),q 25 (.Oi true t (.t 20) (.t 24)) (s+6008)]) (.cond (.t 25) (.seq (.eL false [q 4 (.dq (.k (.bool false))) (s+7000)]) .ret) .skip))) (.eL false [q 15 (.dq (.t 5)) (s+5000),q 16 (.bin .add .i64 (.t 15) (.k (.int .i64 1))) (s+5001),q 5 (.dq (.t 16)) (s+5002)])))))) (.seq (.eL false [q 4 (.dq (.k (.bool true))) (s+8000)]) .ret)))),[(.tmp 4)]⟩
def uN (f g z:Nat) (zero:List K):Bh:=let s:=f*1000000
 ⟨23,1,(.seq (.eL false [q 2 (.dq (.k .cC)) s]) (.seq (.eL false [q 5 (.dq (.t 0)) (s+1000),q 6 (.len (.t 5)) (s+1001),q 7 (.kc zero (.t 6) (.t 6)) (s+1002),q 3 (.dq (.t 7)) (s+1003)]) (.seq (.seq (.eL false [q 4 (.dq (.k (.int .i64 0))) (s+2000)]) (.block 0 (.loop (.seq (.seq (.eL false [q 8 (.dq (.t 4)) (s+3000),q 9 (.dq (.t 0)) (s+3001),q 10 (.len (.t 9)) (s+3002),q 11 (.bin .lss .i64 (.t 8) (.t 10)) (s+3003)]) (.cond (.t 11) .skip (.exit 0))) (.seq (.block 1 (.eL false [q 14 (.dq (.t 3)) (s+5000),q 15 (.dq (.t 4)) (s+5001),q 16 (.dq (.t 0)) (s+5002),q 17 (.dq (.t 4)) (s+5003),q 18 (.dQ z (.t 16) (.t 17)) (s+5004),q 19 (.load true z (.t 18)) (s+5005),q 20 (.call g [(.t 19)]) (s+5006),q 21 (.dQ z (.t 14) (.t 15)) (s+5007),⟨none,(.store z (.t 21) (.t 20)),none,(s+5008),[]⟩])) (.eL false [q 12 (.dq (.t 4)) (s+4000),q 13 (.bin .add .i64 (.t 12) (.k (.int .i64 1))) (s+4001),q 4 (.dq (.t 13)) (s+4002)])))))) (.seq (.eL false [q 22 (.dq (.t 3)) (s+6000),q 2 (.dq (.t 22)) (s+6001)]) .ret)))),[(.tmp 2)]⟩
def KK (f:Nat) (zero:K):Bh:=let s:=f*1000000
 ⟨22,1,(.seq (.eL false [q 2 (.dq (.k .cC)) s]) (.seq (.eL false [q 5 (.dq (.t 0)) (s+1000),q 6 (.len (.t 5)) (s+1001),q 7 (.kc [zero] (.t 6) (.t 6)) (s+1002),q 3 (.dq (.t 7)) (s+1003)]) (.seq (.seq (.eL false [q 4 (.dq (.k (.int .i64 0))) (s+2000)]) (.block 0 (.loop (.seq (.seq (.eL false [q 8 (.dq (.t 4)) (s+3000),q 9 (.dq (.t 0)) (s+3001),q 10 (.len (.t 9)) (s+3002),q 11 (.bin .lss .i64 (.t 8) (.t 10)) (s+3003)]) (.cond (.t 11) .skip (.exit 0))) (.seq (.block 1 (.eL false [q 14 (.dq (.t 3)) (s+5000),q 15 (.dq (.t 4)) (s+5001),q 16 (.dq (.t 0)) (s+5002),q 17 (.dq (.t 4)) (s+5003),q 18 (.dQ 1 (.t 16) (.t 17)) (s+5004),q 19 (.load false 1 (.t 18)) (s+5005),q 20 (.dQ 1 (.t 14) (.t 15)) (s+5006),⟨none,(.store 1 (.t 20) (.t 19)),none,(s+5007),[]⟩])) (.eL false [q 12 (.dq (.t 4)) (s+4000),q 13 (.bin .add .i64 (.t 12) (.k (.int .i64 1))) (s+4001),q 4 (.dq (.t 13)) (s+4002)])))))) (.seq (.eL false [q 21 (.dq (.t 3)) (s+6000),q 2 (.dq (.t 21)) (s+6001)]) .ret)))),[(.tmp 2)]⟩
def yF (n:Nat) (l:Int):Int:=if (n:Int)<=l then l-n else -1
theorem Kw {fk:Nat} (hc:mz P fk=some (Kv fk)) (rows:List (List AV)) (left:Int) (h0:0<=left) (h1:left<=1048576):aj P fk [.sl rows,.int .i64 left] (.int .i64 (yF rows.length left)):=by
 refine aj.body hc rfl fun hl n0=>?_
 try simp only[q]
 have hn:rows.length<=9223372036854775807:=(hl (.sl rows) (by simp)).len
 clear hl
 have hw:IntKind.i64.wrap (left-(rows.length:Int))=left-rows.length:=bz (by omega)
 by_cases hf:(rows.length:Int)<=left
 ·have j9:¬left-(rows.length:Int)<0:=by omega
  (try((repeat(revert hN;revert N;apply Pn.out));refine wk (tw @hw @j9) ?_;(repeat(refine Pn.mk ?_;intro N hN))))
  exact cr (b:=left-(rows.length:Int)) (.inl rfl) (sd @Nat.zero_add) (by rw[yF,if_pos hf])
 ·have j9:left-(rows.length:Int)<0:=by omega
  (try((repeat(revert hN;revert N;apply Pn.out));refine wk (tw @hw @j9) ?_;(repeat(refine Pn.mk ?_;intro N hN))))
  exact cr (b:=-1) (.inl rfl) (sd @Nat.zero_add) (by rw[yF,if_neg hf])
def iQ {α:Type} (f:α->Nat) (xs:List α) (k:Nat):Nat:=((xs.take k).map f).sum
theorem nh {α:Type} (f:α->Nat) (xs:List α):iQ f xs 0=0:=by simp[iQ]
theorem CZ {α:Type} (f:α->Nat) (xs:List α):iQ f xs xs.length=(xs.map f).sum:=by simp[iQ]
theorem xL {α:Type} (f:α->Nat) {xs:List α} {k:Nat} (hk:k<xs.length):iQ f xs (k+1)=iQ f xs k+f xs[k]:=by
 unfold iQ
 rw[List.take_succ_eq_append_getElem hk,List.map_append,List.sum_append];simp
theorem qH {α:Type} (f:α->Nat) (xs:List α) (k:Nat):iQ f xs k<=(xs.map f).sum:=by
 unfold iQ
 conv=>rhs;rw[<-List.take_append_drop k xs]
 rw[List.map_append,List.sum_append];omega
theorem Ky {α:Type} {e:α->List AV} {z fk gk:Nat} (wt:α->Nat) (hc:mz P fk=some (Kx fk gk z)) (hz:∀x,(e x).length=z) (Df:∀x g,cV g 6 [.agg (e x)]=some [.agg (e x)]) (xs:List α) (left:Int) (h0:0<=left) (h1:left<=1048576)
  (hg:∀x∈xs,∀l:Int,0<=l->l<=1048576->aj P gk [.agg (e x),.int .i64 l] (.int .i64 (yF (wt x) l))):aj P fk [.sl (xs.map e),.int .i64 left] (.int .i64 (yF (xs.length+(xs.map wt).sum) left)):=by
 refine aj.body hc rfl fun hl n0=>?_
 try simp only[q]
 have hn:xs.length<=9223372036854775807:=by simpa using(hl (.sl (xs.map e)) (by simp)).len
 clear hl
 have hw:IntKind.i64.wrap (left-(xs.length:Int))=left-xs.length:=bz (by omega)
 by_cases hf:(xs.length:Int)<=left
 ·have j9:¬left-(xs.length:Int)<0:=by omega
  (try((repeat(revert hN;revert N;apply Pn.out));refine wk (tw @hw @j9) ?_;(repeat(refine Pn.mk ?_;intro N hN))))
  refine aW (fun n env st=>∃k:Nat,n=(xs.length)-k/\k<=(xs.length)/\env 5=.int .i64 (k:Int)/\env 1=(.int .i64 (left-xs.length-(iQ wt xs k:Nat)))/\(0<=left-xs.length-(iQ wt xs k:Nat))) (xs.length) ⟨0,by omega,by omega,sl (tw @nh (tw @Int.natCast_zero @Int.sub_zero)),sl (tw @nh (tw @Int.natCast_zero @Int.sub_zero)),(by rw[nh];omega)⟩ ?_
  rintro n_a env_a st_a ⟨k,rfl,ale,a5,a1,me⟩ dJ
  have a0:=dJ 0 (by kernel_rfl)
  simp only[go_sem, ↓reduceIte,Nat.reduceEqDiff,Nat.reduceAdd,Nat.reduceSub,Nat.reduceLeDiff,reduceCtorEq,nh,Int.natCast_zero,Int.sub_zero]at a0
  clear dJ
  by_cases hk:(k:Int)<(xs.length:Int)
  ·have cG:∀{e:Env},(e 5=.int .i64 (IntKind.i64.wrap ((k:Int)+1)))->(e 1=(.int .i64 (left-xs.length-(iQ wt xs (k+1):Nat))))->(0<=left-xs.length-(iQ wt xs (k+1):Nat))->∃m0,m0<(xs.length)-k/\∃k:Nat,m0=(xs.length)-k/\k<=(xs.length)/\e 5=.int .i64 (k:Int)/\e 1=(.int .i64 (left-xs.length-(iQ wt xs k:Nat)))/\(0<=left-xs.length-(iQ wt xs k:Nat)):=fun x1 x2 x3=>⟨_,by omega,k+1,rfl,by omega,(by rw[x1,aB (by omega)]),x2,x3⟩
   have fE:k<xs.length:=by omega
   have eT:(xs.map e)[k]? =some (e xs[k]):=by simp[fE]
   have uB:=hz xs[k]
   have ht:(e xs[k]).take z=e xs[k]:=by rw[<-uB,List.take_length]
   have hs:=xL wt fE
   have Dj:=qH wt xs (k+1)
   have iA:=hg _ (List.getElem_mem fE) (left-xs.length-(iQ wt xs k:Nat)) me (by omega)
   have lH:cV (dP st_a.get) 6 [.agg (e xs[k]),.int .i64 (left-xs.length-(iQ wt xs k:Nat))]=some [.agg (e xs[k]),.int .i64 (left-xs.length-(iQ wt xs k:Nat))]:=by
    have q1:=Df xs[k] (dP st_a.get)
    rw[ai,aq]at q1
    rw[ai,ai,aq,aI]
    revert q1
    cases V.fz (dP st_a.get) 6 (.agg (e xs[k]))<;>simp
   by_cases tD:(wt xs[k]:Int)<=left-xs.length-(iQ wt xs k:Nat)
   ·rw[yF,if_pos tD]at iA
    have yp:¬left-xs.length-(iQ wt xs k:Nat)-(wt xs[k]:Int)<0:=by omega
    have rh:left-xs.length-(iQ wt xs k:Nat)-(wt xs[k]:Int)=left-xs.length-(iQ wt xs (k+1):Nat):=by rw[hs];omega
    generalize hex:e xs[k]=c at iA lH eT uB ht
    (try((repeat(revert hN;revert N;apply Pn.out));refine wk (tw @a5 (tw @a1 (tw @a0 (tw @hk (tw @eT (tw @uB (tw @ht @Nat.le_refl))))))) ?_;(repeat(refine Pn.mk ?_;intro N hN))))
    refine .inl ⟨_,aj.x iA lH,?_⟩
    refine hN _ _ ?_
    clear hN N
    (try((repeat(revert hN;revert N;apply Pn.out));refine wk (tw @a5 (tw @a1 (tw @a0 @yp))) ?_;(repeat(refine Pn.mk ?_;intro N hN))))
    refine cG ?_ ?_ ((by rw[hs];omega))
    all_goals simp only[go_sem, ↓reduceIte,Nat.reduceEqDiff,Nat.reduceAdd,Nat.reduceSub,Nat.reduceLeDiff,reduceCtorEq,a5,a1,a0,rh]
   ·rw[yF,if_neg tD]at iA
    generalize hex:e xs[k]=c at iA lH eT uB ht
    (try((repeat(revert hN;revert N;apply Pn.out));refine wk (tw @a5 (tw @a1 (tw @a0 (tw @hk (tw @eT (tw @uB (tw @ht @Nat.le_refl))))))) ?_;(repeat(refine Pn.mk ?_;intro N hN))))
    refine .inl ⟨_,aj.x iA lH,?_⟩
    refine hN _ _ ?_
    clear hN N
    (try((repeat(revert hN;revert N;apply Pn.out));refine wk (tw @a5 (tw @a1 @a0)) ?_;(repeat(refine Pn.mk ?_;intro N hN))))
    exact cr (b:=-1) (.inl rfl) (sd @Nat.zero_add) (by rw[yF,if_neg (by omega)])
  ·(try((repeat(revert hN;revert N;apply Pn.out));refine wk (tw @a5 (tw @a1 (tw @a0 @hk))) ?_;(repeat(refine Pn.mk ?_;intro N hN))))
   have fE:k=xs.length:=by omega
   subst fE
   have S3:=CZ wt xs
   exact cr (b:=left-xs.length-(iQ wt xs xs.length:Nat)) (.inl rfl) (sd (tw @a5 (tw @a1 @a0))) (by rw[yF,if_pos (by omega)];omega)
 ·have j9:left-(xs.length:Int)<0:=by omega
  (try((repeat(revert hN;revert N;apply Pn.out));refine wk (tw @hw @j9) ?_;(repeat(refine Pn.mk ?_;intro N hN))))
  exact cr (b:=-1) (.inl rfl) (sd @Nat.zero_add) (by rw[yF,if_neg (by omega)])
theorem IS {α:Type} {xs ys:List α} (hl:xs.length=ys.length) (h:∀j:Nat,j<xs.length->∀(h1:j<xs.length) (h2:j<ys.length),xs[j]=ys[j]):xs=ys:=List.ext_getElem hl fun j h1 h2=>h j h1 h1 h2
theorem z6 {α:Type} [DecidableEq α] {e:α->List AV} {z fk gk:Nat} (hc:mz P fk=some (BT fk gk z)) (hz:∀x,(e x).length=z) (Df:∀x g,cV g 6 [.agg (e x)]=some [.agg (e x)]) (xs ys:List α)
  (hg:∀x y,aj P gk [.agg (e x),.agg (e y)] (.bool (decide (x=y)))):aj P fk [.sl (xs.map e),.sl (ys.map e)] (.bool (decide (xs=ys))):=by
 refine aj.body hc rfl fun hl n0=>?_
 try simp only[q]
 have hn:xs.length<=9223372036854775807:=by simpa using(hl (.sl (xs.map e)) (by simp)).len
 clear hl
 by_cases hlen:xs.length=ys.length
 ·have k9:decide ((xs.length:Int)=(ys.length:Int))=true:=by simp[hlen]
  (try((repeat(revert hN;revert N;apply Pn.out));refine wk @k9 ?_;(repeat(refine Pn.mk ?_;intro N hN))))
  refine aW (fun n env st=>∃k:Nat,n=(xs.length)-k/\k<=(xs.length)/\env 5=.int .i64 (k:Int)/\(∀j:Nat,j<k->∀(h1:j<xs.length) (h2:j<ys.length),xs[j]=ys[j])) (xs.length) ⟨0,by omega,by omega,sl @Nat.zero_add,fun _ h=>absurd h (Nat.not_lt_zero _)⟩ ?_
  rintro n_a env_a st_a ⟨k,rfl,ale,a5,mv⟩ dJ
  have a0:=dJ 0 (by kernel_rfl);have a1:=dJ 1 (by kernel_rfl)
  simp only[go_sem, ↓reduceIte,Nat.reduceEqDiff,Nat.reduceAdd,Nat.reduceSub,Nat.reduceLeDiff,reduceCtorEq]at a0 a1
  clear dJ
  by_cases hk:(k:Int)<(xs.length:Int)
  ·have cG:∀{e:Env},(e 5=.int .i64 (IntKind.i64.wrap ((k:Int)+1)))->(∀(h1:k<xs.length) (h2:k<ys.length),xs[k]=ys[k])->∃m0,m0<(xs.length)-k/\∃k:Nat,m0=(xs.length)-k/\k<=(xs.length)/\e 5=.int .i64 (k:Int)/\(∀j:Nat,j<k->∀(h1:j<xs.length) (h2:j<ys.length),xs[j]=ys[j]):=fun x1 x2=>⟨_,by omega,k+1,rfl,by omega,(by rw[x1,aB (by omega)]),(all_succ mv x2)⟩
   have fE:k<xs.length:=by omega
   have Th:k<ys.length:=by omega
   have eT:(xs.map e)[k]? =some (e xs[k]):=by simp[fE]
   have D6:(ys.map e)[k]? =some (e ys[k]):=by simp[Th]
   have uB:=hz xs[k]
   have Ef:=hz ys[k]
   have ht:(e xs[k]).take z=e xs[k]:=by rw[<-uB,List.take_length]
   have H0:(e ys[k]).take z=e ys[k]:=by rw[<-Ef,List.take_length]
   have iA:=hg xs[k] ys[k]
   have lH:∀g,cV g 6 [.agg (e xs[k]),.agg (e ys[k])]=some [.agg (e xs[k]),.agg (e ys[k])]:=fun g=>by
    have q1:=Df xs[k] g
    have q2:=Df ys[k] g
    rw[ai,aq]at q1
    rw[ai,q2]
    revert q1
    cases V.fz g 6 (.agg (e xs[k]))<;>simp
   by_cases heq:xs[k]=ys[k]
   ·rw[decide_eq_true heq]at iA
    generalize hex:e xs[k]=c at iA lH eT uB ht
    generalize hey:e ys[k]=d at iA lH D6 Ef H0
    (try((repeat(revert hN;revert N;apply Pn.out));refine wk (tw @a5 (tw @a0 (tw @a1 (tw @hk (tw @eT (tw @D6 (tw @uB (tw @Ef (tw @ht (tw @H0 @Nat.le_refl)))))))))) ?_;(repeat(refine Pn.mk ?_;intro N hN))))
    refine⟨_,aj.x iA (lH _),?_⟩
    refine hN _ _ ?_
    clear hN N
    (try((repeat(revert hN;revert N;apply Pn.out));refine wk (tw @a5 (tw @a0 @a1)) ?_;(repeat(refine Pn.mk ?_;intro N hN))))
    exact cG (sd (tw @a5 (tw @a0 @a1))) (fun _ _=>heq)
   ·rw[decide_eq_false heq]at iA
    generalize hex:e xs[k]=c at iA lH eT uB ht
    generalize hey:e ys[k]=d at iA lH D6 Ef H0
    (try((repeat(revert hN;revert N;apply Pn.out));refine wk (tw @a5 (tw @a0 (tw @a1 (tw @hk (tw @eT (tw @D6 (tw @uB (tw @Ef (tw @ht (tw @H0 @Nat.le_refl)))))))))) ?_;(repeat(refine Pn.mk ?_;intro N hN))))
    refine⟨_,aj.x iA (lH _),?_⟩
    refine hN _ _ ?_
    clear hN N
    (try((repeat(revert hN;revert N;apply Pn.out));refine wk (tw @a5 (tw @a0 @a1)) ?_;(repeat(refine Pn.mk ?_;intro N hN))))
    exact aU (b:=false) (.inl rfl) (sd @Nat.zero_add) (decide_eq_false fun h=>heq (List.getElem_of_eq h _)).symm
  ·(try((repeat(revert hN;revert N;apply Pn.out));refine wk (tw @a5 (tw @a0 (tw @a1 @hk))) ?_;(repeat(refine Pn.mk ?_;intro N hN))))
   exact aU (b:=true) (.inl rfl) (sd @Nat.zero_add) (decide_eq_true (IS hlen fun j hj h1 h2=>mv j (by omega) h1 h2)).symm
 ·have k9:decide ((xs.length:Int)=(ys.length:Int))=false:=decide_eq_false fun h=>hlen (by omega)
  (try((repeat(revert hN;revert N;apply Pn.out));refine wk @k9 ?_;(repeat(refine Pn.mk ?_;intro N hN))))
  exact aU (b:=false) (.inl rfl) (sd @Nat.zero_add) (decide_eq_false fun h=>hlen (by subst h;rfl)).symm
theorem QZ {fk:Nat} (hc:mz P fk=some (Nd fk .tI)) (xs ys:List Int):
  aj P fk [.sl (xs.map fun x=>[AV.int .i64 x]),.sl (ys.map fun x=>[AV.int .i64 x])] (.bool (decide (xs=ys))):=by
 refine aj.body hc rfl fun hl n0=>?_
 try simp only[q]
 have hn:xs.length<=9223372036854775807:=by simpa using(hl (.sl (xs.map fun x=>[AV.int .i64 x])) (by simp)).len
 clear hl
 by_cases hlen:xs.length=ys.length
 ·have k9:decide ((xs.length:Int)=(ys.length:Int))=true:=by simp[hlen]
  (try((repeat(revert hN;revert N;apply Pn.out));refine wk @k9 ?_;(repeat(refine Pn.mk ?_;intro N hN))))
  refine aW (fun n env st=>∃k:Nat,n=(xs.length)-k/\k<=(xs.length)/\env 5=.int .i64 (k:Int)/\(∀j:Nat,j<k->∀(h1:j<xs.length) (h2:j<ys.length),xs[j]=ys[j])) (xs.length) ⟨0,by omega,by omega,sl @Nat.zero_add,fun _ h=>absurd h (Nat.not_lt_zero _)⟩ ?_
  rintro n_a env_a st_a ⟨k,rfl,ale,a5,mv⟩ dJ
  have a0:=dJ 0 (by kernel_rfl);have a1:=dJ 1 (by kernel_rfl)
  simp only[go_sem, ↓reduceIte,Nat.reduceEqDiff,Nat.reduceAdd,Nat.reduceSub,Nat.reduceLeDiff,reduceCtorEq]at a0 a1
  clear dJ
  by_cases hk:(k:Int)<(xs.length:Int)
  ·have cG:∀{e:Env},(e 5=.int .i64 (IntKind.i64.wrap ((k:Int)+1)))->(∀(h1:k<xs.length) (h2:k<ys.length),xs[k]=ys[k])->∃m0,m0<(xs.length)-k/\∃k:Nat,m0=(xs.length)-k/\k<=(xs.length)/\e 5=.int .i64 (k:Int)/\(∀j:Nat,j<k->∀(h1:j<xs.length) (h2:j<ys.length),xs[j]=ys[j]):=fun x1 x2=>⟨_,by omega,k+1,rfl,by omega,(by rw[x1,aB (by omega)]),(all_succ mv x2)⟩
   have fE:k<xs.length:=by omega
   have Th:k<ys.length:=by omega
   have eT:(xs.map fun x=>[AV.int .i64 x])[k]? =some [.int .i64 xs[k]]:=by simp[fE]
   have D6:(ys.map fun x=>[AV.int .i64 x])[k]? =some [.int .i64 ys[k]]:=by simp[Th]
   by_cases heq:xs[k]=ys[k]
   ·have hq:=decide_eq_true heq
    (try((repeat(revert hN;revert N;apply Pn.out));refine wk (tw @a5 (tw @a0 (tw @a1 (tw @hk (tw @eT (tw @D6 @hq)))))) ?_;(repeat(refine Pn.mk ?_;intro N hN))))
    exact cG (sd (tw @a5 (tw @a0 @a1))) (fun _ _=>heq)
   ·have hq:=decide_eq_false heq
    (try((repeat(revert hN;revert N;apply Pn.out));refine wk (tw @a5 (tw @a0 (tw @a1 (tw @hk (tw @eT (tw @D6 @hq)))))) ?_;(repeat(refine Pn.mk ?_;intro N hN))))
    exact aU (b:=false) (.inl rfl) (sd @Nat.zero_add) (decide_eq_false fun h=>heq (List.getElem_of_eq h _)).symm
  ·(try((repeat(revert hN;revert N;apply Pn.out));refine wk (tw @a5 (tw @a0 (tw @a1 @hk))) ?_;(repeat(refine Pn.mk ?_;intro N hN))))
   exact aU (b:=true) (.inl rfl) (sd @Nat.zero_add) (decide_eq_true (IS hlen fun j hj h1 h2=>mv j (by omega) h1 h2)).symm
 ·have k9:decide ((xs.length:Int)=(ys.length:Int))=false:=decide_eq_false fun h=>hlen (by omega)
  (try((repeat(revert hN;revert N;apply Pn.out));refine wk @k9 ?_;(repeat(refine Pn.mk ?_;intro N hN))))
  exact aU (b:=false) (.inl rfl) (sd @Nat.zero_add) (decide_eq_false fun h=>hlen (by subst h;rfl)).symm
theorem wj (l:List AV):l++[]=l:=List.append_nil l
def gU {α:Type} (e:α->List AV) (zc:List AV) (xs:List α) (k:Nat):List (List AV):=(xs.take k).map e++List.replicate (xs.length-k) zc
theorem pa {α:Type} (e:α->List AV) (zc:List AV) (xs:List α):List.replicate xs.length zc=gU e zc xs 0:=by simp[gU]
theorem qQ {α:Type} (e:α->List AV) (zc:List AV) (xs:List α):gU e zc xs xs.length=xs.map e:=by simp[gU]
theorem qR {α:Type} (e:α->List AV) (zc:List AV) (xs:List α) {k:Nat} (hk:k<xs.length):(gU e zc xs k)[k]? =some zc:=by
 have h1:((xs.take k).map e).length=k:=by simp;omega
 rw[gU,List.getElem?_append_right (by omega),h1,Nat.sub_self,List.getElem?_replicate,if_pos (by omega)]
theorem qS {α:Type} (e:α->List AV) (zc:List AV) (xs:List α) {k:Nat} (hk:k<xs.length):(gU e zc xs k).set k (e xs[k])=gU e zc xs (k+1):=by
 have h1:((xs.take k).map e).length=k:=by simp;omega
 rw[gU,List.set_append_right _ _ (by omega),h1,Nat.sub_self,gU,List.take_succ_eq_append_getElem hk,List.map_append,List.append_assoc]
 congr 1
 obtain⟨m,hm⟩:∃m,xs.length-k=m+1:=⟨xs.length-k-1,by omega⟩
 rw[hm,show xs.length-(k+1)=m by omega,List.replicate_succ]
 rfl
theorem E7 {α:Type} {en:α->List AV} {z fk gk:Nat} {zero:List K} (hc:mz P fk=some (uN fk gk z zero)) (H5:zero.length=z) (hz:∀x,(en x).length=z) (kI:∀x,(en x).all AV.cell=true) (Df:∀x g,cV g 5 (en x)=some (en x)) (xs:List α) (hlen:xs.length<=1048576)
  (hg:∀x∈xs,kq P gk [.agg (en x)] (.agg (en x))):kq P fk [.sl (xs.map en)] (.sl (xs.map en)):=by
 refine kq.body hc rfl fun hl σ=>?_
 try simp only[q]
 clear hl
 have hm:(xs.length:Int)<=((16777216:Nat):Int):=by omega
 have h0:(0:Int)<=(xs.length:Int):=by omega
 (try((repeat(revert hN;revert N;apply Pn.out));refine wk (tw @hm (tw @h0 (tw @Int.le_refl (tw (pa en (zero.map K.av) xs) @H5)))) ?_;(repeat(refine Pn.mk ?_;intro N hN))))
 refine aW (fun n env st=>∃k:Nat,n=(xs.length)-k/\k<=(xs.length)/\env 4=.int .i64 (k:Int)/\st.get ⟨fk*1000000+1002,σ.next+1⟩=some ⟨true,z,gU en (zero.map K.av) xs k⟩) (xs.length) ⟨0,by omega,by omega,sl @Nat.zero_add,sl @Nat.zero_add⟩ ?_
 rintro n_a env_a st_a ⟨k,rfl,ale,a4,ag0⟩ dJ
 have a0:=dJ 0 (by kernel_rfl);have a3:=dJ 3 (by kernel_rfl)
 simp only[go_sem, ↓reduceIte,Nat.reduceEqDiff,Nat.reduceAdd,Nat.reduceSub,Nat.reduceLeDiff,reduceCtorEq]at a0 a3
 clear dJ
 by_cases hk:(k:Int)<(xs.length:Int)
 ·have cG:∀{e:Env} {gg:Rows},(e 4=.int .i64 (IntKind.i64.wrap ((k:Int)+1)))->(gg ⟨fk*1000000+1002,σ.next+1⟩=some ⟨true,z,gU en (zero.map K.av) xs (k+1)⟩)->∃m0,m0<(xs.length)-k/\∃k:Nat,m0=(xs.length)-k/\k<=(xs.length)/\e 4=.int .i64 (k:Int)/\gg ⟨fk*1000000+1002,σ.next+1⟩=some ⟨true,z,gU en (zero.map K.av) xs k⟩:=fun x1 x2=>⟨_,by omega,k+1,rfl,by omega,(by rw[x1,aB (by omega)]),x2⟩
  have fE:k<xs.length:=by omega
  have eT:(xs.map en)[k]? =some (en xs[k]):=by simp[fE]
  have uB:=hz xs[k]
  have K7:=kI xs[k]
  have ht:(en xs[k]).take z=en xs[k]:=by rw[<-uB,List.take_length]
  have iA:=hg _ (List.getElem_mem fE)
  have fV:=qR en (zero.map K.av) xs fE
  have eF:=qS en (zero.map K.av) xs fE
  have Ja:(zero.map K.av).drop z=[]:=List.drop_of_length_le (by simp[H5])
  generalize hex:en xs[k]=c at iA eT uB ht K7 eF
  (repeat(first|((repeat(revert hN;revert N;apply Pn.out));refine wk (tw @a4 (tw @ag0 (tw @a0 (tw @a3 (tw @hk (tw @eT (tw @uB (tw @ht (tw @Nat.le_refl (tw @fV (tw @eF (tw @Ja (tw @wj (tw @K7 @H5)))))))))))))) ?_;(repeat(refine Pn.mk ?_;intro N hN)))|((try apply Or.inl);refine⟨_,kq.x (iA) _,?_⟩;refine hN _ _ ?_;clear hN N)))
  refine cG ?_ ?_
  all_goals simp only[go_sem, ↓reduceIte,Nat.reduceEqDiff,Nat.reduceAdd,Nat.reduceSub,Nat.reduceLeDiff,reduceCtorEq,a4,ag0,a0,a3]
 ·(try((repeat(revert hN;revert N;apply Pn.out));refine wk (tw @a4 (tw @ag0 (tw @a0 (tw @a3 @hk)))) ?_;(repeat(refine Pn.mk ?_;intro N hN))))
  have fE:k=xs.length:=by omega
  subst fE
  refine Sj (.inl rfl) (r0:=.own ⟨fk*1000000+1002,σ.next+1⟩ 0 xs.length) (sd (tw @a4 (tw @ag0 (tw @a0 @a3)))) ?_
  rw[qQ]at ag0
  exact gy ag0 (by simp) fun x=>Df x _
theorem Sp {fk:Nat} (hc:mz P fk=some (KK fk (.int .i64 0))) (xs:List Int) (hlen:xs.length<=1048576):kq P fk [.sl (xs.map fun x=>[AV.int .i64 x])] (.sl (xs.map fun x=>[AV.int .i64 x])):=by
 refine kq.body hc rfl fun hl σ=>?_
 try simp only[q]
 clear hl
 obtain⟨en,HT⟩:∃en:Int->List AV,en=fun x=>[AV.int .i64 x]:=⟨_,rfl⟩
 rw[<-HT]
 have hm:(xs.length:Int)<=((16777216:Nat):Int):=by omega
 have h0:(0:Int)<=(xs.length:Int):=by omega
 (try((repeat(revert hN;revert N;apply Pn.out));refine wk (tw @hm (tw @h0 (tw @Int.le_refl (pa en [AV.int .i64 0] xs)))) ?_;(repeat(refine Pn.mk ?_;intro N hN))))
 refine aW (fun n env st=>∃k:Nat,n=(xs.length)-k/\k<=(xs.length)/\env 4=.int .i64 (k:Int)/\st.get ⟨fk*1000000+1002,σ.next+1⟩=some ⟨true,1,gU en [AV.int .i64 0] xs k⟩) (xs.length) ⟨0,by omega,by omega,sl @Nat.zero_add,sl @Nat.zero_add⟩ ?_
 rintro n_a env_a st_a ⟨k,rfl,ale,a4,ag0⟩ dJ
 have a0:=dJ 0 (by kernel_rfl);have a3:=dJ 3 (by kernel_rfl)
 simp only[go_sem, ↓reduceIte,Nat.reduceEqDiff,Nat.reduceAdd,Nat.reduceSub,Nat.reduceLeDiff,reduceCtorEq]at a0 a3
 clear dJ
 by_cases hk:(k:Int)<(xs.length:Int)
 ·have cG:∀{e:Env} {gg:Rows},(e 4=.int .i64 (IntKind.i64.wrap ((k:Int)+1)))->(gg ⟨fk*1000000+1002,σ.next+1⟩=some ⟨true,1,gU en [AV.int .i64 0] xs (k+1)⟩)->∃m0,m0<(xs.length)-k/\∃k:Nat,m0=(xs.length)-k/\k<=(xs.length)/\e 4=.int .i64 (k:Int)/\gg ⟨fk*1000000+1002,σ.next+1⟩=some ⟨true,1,gU en [AV.int .i64 0] xs k⟩:=fun x1 x2=>⟨_,by omega,k+1,rfl,by omega,(by rw[x1,aB (by omega)]),x2⟩
  have fE:k<xs.length:=by omega
  have eT:(xs.map en)[k]? =some [AV.int .i64 xs[k]]:=by simp[fE,HT]
  have fV:=qR en [AV.int .i64 0] xs fE
  have eF:=qS en [AV.int .i64 0] xs fE
  rw[show en xs[k]=[AV.int .i64 xs[k]] by rw[HT]]at eF
  (try((repeat(revert hN;revert N;apply Pn.out));refine wk (tw @a4 (tw @ag0 (tw @a0 (tw @a3 (tw @hk (tw @eT (tw @fV @eF))))))) ?_;(repeat(refine Pn.mk ?_;intro N hN))))
  refine cG ?_ ?_
  all_goals simp only[go_sem, ↓reduceIte,Nat.reduceEqDiff,Nat.reduceAdd,Nat.reduceSub,Nat.reduceLeDiff,reduceCtorEq,a4,ag0,a0,a3]
 ·(try((repeat(revert hN;revert N;apply Pn.out));refine wk (tw @a4 (tw @ag0 (tw @a0 (tw @a3 @hk)))) ?_;(repeat(refine Pn.mk ?_;intro N hN))))
  have fE:k=xs.length:=by omega
  subst fE
  refine Sj (.inl rfl) (r0:=.own ⟨fk*1000000+1002,σ.next+1⟩ 0 xs.length) (sd (tw @a4 (tw @ag0 (tw @a0 @a3)))) ?_
  rw[qQ]at ag0
  exact gy ag0 (by simp) fun x=>by simp[HT,ai,aq,aI]
end Go.Proofs.YtgoljkjaameagaaGreat.V

namespace Go.Proofs.YtgoljkjaameagaaGreat
open Go.RowKit
def Sl (w:World) (fp:List Nat) (v:Value) (n:Nat) (xs:List Value):Prop:=
 ∃A c,v=.slice A n c/\n<=c/\c<=maxLen/\
  ((fp=[]/\n=0)∨∃b o,fp=[b]/\A=some ⟨b,o,none⟩/\∀j u,xs[j]? =some u->w.cell? ⟨b,o+j,none⟩=some u)
def fG (fp:List Nat) (lo hi:Nat):Prop:=∀b∈fp,lo<=b/\b<hi
theorem fG.nil (lo hi:Nat):fG [] lo hi:=fun _ h=>by cases h
theorem Sl.nil (w:World):Sl w [] (.slice none 0 0) 0 []:=⟨none,0,rfl,Nat.le_refl _,by simp[maxLen],.inl ⟨rfl,rfl⟩⟩
def NW {α:Type} (rep:World->List Nat->List Value->α->Prop) (sz:Nat) (w:World) (pb:List (List Value)) (FA:List (List Nat)) (ds:List α):Prop:=
 pb.length=ds.length/\FA.length=ds.length/\∀(i:Nat) (cs:List Value) (f:List Nat) (d:α),pb[i]? =some cs->FA[i]? =some f->ds[i]? =some d->rep w f cs d/\cs.length=sz
def ns {α:Type} (rep:World->List Nat->List Value->α->Prop) (sz:Nat) (w:World) (fp:List Nat) (v:Value) (ds:List α):Prop:=
 ∃pb FA Ua,fp=Ua++FA.flatten/\Sl w Ua v ds.length pb.flatten/\NW rep sz w pb FA ds
theorem rE {α:Type} {FA:List (List α)} {i:Nat} {f:List α} (h:FA[i]? =some f):∀b∈f,b∈FA.flatten:=fun b hb=>
 List.mem_flatten.2 ⟨f,List.mem_of_getElem? h,hb⟩
theorem uu {α:Type} {pb:List (List α)} {sz:Nat} (h:∀cs∈pb,cs.length=sz) {i j:Nat} {cs:List α} (hi:pb[i]? =some cs) (hj:j<sz):pb.flatten[i*sz+j]? =cs[j]? :=by
 induction pb generalizing i with
 |nil=>simp at hi
 |cons c r ih=>
  have hc:c.length=sz:=h c (by simp)
  cases i with
  |zero=>
   simp at hi;subst hi
   rw[List.flatten_cons,List.getElem?_append_left (by omega)];simp
  |succ i=>
   rw[List.flatten_cons,List.getElem?_append_right (by rw[hc,Nat.succ_mul];omega)]
   have:(i+1)*sz+j-c.length=i*sz+j:=by rw[hc,Nat.succ_mul];omega
   rw[this]
   exact ih (fun cs dx=>h cs (List.mem_cons_of_mem _ dx)) (by simpa using hi)
theorem NW.lens {α:Type} {rep:World->List Nat->List Value->α->Prop} {sz:Nat} {w:World} {pb:List (List Value)} {FA:List (List Nat)} {ds:List α}
  (h:NW rep sz w pb FA ds):∀cs∈pb,cs.length=sz:=fun cs dx=>by
 obtain⟨i,hi,rfl⟩:=List.getElem_of_mem dx
 have h1:i<FA.length:=by rw[h.2.1,<-h.1];exact hi
 have h2:i<ds.length:=by rw[<-h.1];exact hi
 exact(h.2.2 i _ _ _ (List.getElem?_eq_getElem hi) (List.getElem?_eq_getElem h1) (List.getElem?_eq_getElem h2)).2
theorem ns.at_ {α:Type} {rep:World->List Nat->List Value->α->Prop} {sz:Nat} {w:World} {fp:List Nat} {A:Option Addr} {n c:Nat} {ds:List α}
  (h:ns rep sz w fp (.slice A n c) ds) (k:Nat) (hk:k<ds.length):
  ∃b o cs f,A=some ⟨b,o,none⟩/\b∈fp/\(∀x∈f,x∈fp)/\rep w f cs ds[k]/\cs.length=sz/\∀j u,cs[j]? =some u->w.cell? ⟨b,o+(k*sz+j),none⟩=some u:=by
 obtain⟨pb,FA,Ua,rfl,⟨A',c',hv,_,_,hc⟩,hr⟩:=h
 simp only[Value.slice.injEq]at hv
 obtain⟨rfl,hn,rfl⟩:=hv
 rcases hc with⟨_,h0⟩|⟨b,o,rfl,rfl,hc⟩
 ·omega
 have h1:k<pb.length:=by rw[hr.1];exact hk
 have h2:k<FA.length:=by rw[hr.2.1];exact hk
 obtain⟨gQ,hl⟩:=hr.2.2 k _ _ _ (List.getElem?_eq_getElem h1) (List.getElem?_eq_getElem h2) (List.getElem?_eq_getElem hk)
 refine⟨b,o,pb[k],FA[k],rfl,by simp,fun x hx=>List.mem_append_right _ (rE (List.getElem?_eq_getElem h2) x hx),gQ,hl,fun j u hj=>?_⟩
 have im:j<sz:=by rw[<-hl];exact(List.getElem?_eq_some_iff.1 hj).1
 exact hc _ u (by rw[uu hr.lens (List.getElem?_eq_getElem h1) im];exact hj)
theorem ns.len {α:Type} {rep:World->List Nat->List Value->α->Prop} {sz:Nat} {w:World} {fp:List Nat} {v:Value} {ds:List α}
  (h:ns rep sz w fp v ds):∃A c,v=.slice A ds.length c/\ds.length<=c/\c<=maxLen:=by
 obtain⟨_,_,_,_,⟨A,c,hv,h1,h2,_⟩,_⟩:=h
 exact⟨A,c,hv,h1,h2⟩
theorem ns.nil {α:Type} (rep:World->List Nat->List Value->α->Prop) (sz:Nat) (w:World):ns rep sz w [] (.slice none 0 0) ([]:List α):=
 ⟨[],[],[],rfl,Sl.nil w,rfl,rfl,fun i cs f d hc=>by simp at hc⟩
def Flat {α:Type} (enc:α->List Value):World->List Nat->List Value->α->Prop:=fun _ f cs d=>f=[]/\cs=enc d
def Q (w w':World):Prop:=∃q,w'=w.drewN q
theorem Q.refl (w:World):Q w w:=⟨0,rfl⟩
theorem Q.d {w w':World} (h:Q w w') (n:Nat):Q w (w'.drewN n):=by obtain⟨q,rfl⟩:=h;exact⟨q+n,by rw[World.drewN_drewN]⟩
theorem Q.d1 {w w':World} (h:Q w w'):Q w w'.drew:=by obtain⟨q,rfl⟩:=h;exact⟨q+1,rfl⟩
theorem Q.n (w:World) (n:Nat):Q w (w.drewN n):=⟨n,rfl⟩
theorem Q.trans {a b c:World} (h:Q a b) (k:Q b c):Q a c:=by obtain⟨q,rfl⟩:=k;exact h.d q
theorem Ix {B:Nat} {a w:World} (h:Below B a w) (n:Nat):Below B a (w.drewN n):=⟨h.os,h.tape,h.output,h.size,h.block⟩
theorem Q.below {w w':World} (h:Q w w'):Below w.heap.size w w':=by obtain⟨q,rfl⟩:=h;exact Ix (Below.refl _ _) q
theorem iN {a b:Bool} (h:a=b):Ending.returned (.bool a)=.returned (.bool b):=by rw[h]
theorem F4 {k:IntKind} {a b:Int} (h:a=b):Ending.returned (.int k a)=.returned (.int k b):=by rw[h]
structure aH where
 fb:Int
 eV:Int
deriving DecidableEq
structure ad where
 aP:aH
 aT:Int
deriving DecidableEq
structure dM where
 ae:List ad
deriving DecidableEq
structure fF where
 aE:ByteArray
 eD:Int
deriving DecidableEq
structure eU where
 aE:ByteArray
 bx:List Int
deriving DecidableEq
structure aw where
 ay:List fF
 ae:List eU
deriving DecidableEq
structure ax where
 aD:aw
 aX:dM
 aA:Int
deriving DecidableEq
def GA (d:Int):List Value:=[.int .i64 d]
def Fk:=Flat GA
def eX (d:ad):List Value:=[.int .i64 d.aP.fb,.int .i64 d.aP.eV,.int .i64 d.aT]
def Bt:=Flat eX
def iE:=ns Bt 3
def IJ (d:fF):List Value:=[.string d.aE,.int .i64 d.eD]
def Ih:=Flat IJ
def rV:=ns Ih 2
def wh:=ns Fk 1
def Ii (w:World) (f:List Nat) (cs:List Value) (d:eU):Prop:=
 ∃v1 f1,f=f1/\cs=[.string d.aE,v1]/\wh w f1 v1 d.bx
def rW:=ns Ii 2
end Go.Proofs.YtgoljkjaameagaaGreat

namespace Go.Proofs.YtgoljkjaameagaaGreat.V
open Go.RowKit
variable {P:Program} {w:World} {D:Nat->Prop}
def Ib (P:Program) (w:World) (D:Nat->Prop) (al:List AV) (cs:List Value):Prop:=∀(j:Nat) (a:AV),al[j]? =some a->∃u:Value,cs[j]? =some u/\jL P w D a u
theorem sR {α:Type} {rep:World->List Nat->List Value->α->Prop} {e:α->List AV} {sz:Nat} {f:List Nat} {v:Value} {xs:List α} (h:ns rep sz w f v xs) (hD:∀b∈f,D b)
  (hl:∀x∈xs,(e x).length=sz) (hc:∀x∈xs,∀a∈e x,a.cell=true) (hr:∀x∈xs,∀f' cs,rep w f' cs x->(∀b∈f',D b)->Ib P w D (e x) cs):jL P w D (.sl (xs.map e)) v:=by
 obtain⟨A,c,rfl,h1,h2⟩:=ns.len h
 by_cases h0:xs=[]
 ·subst h0;exact .Bp _ _ h2
 have kF:0<xs.length:=List.length_pos_iff.2 h0
 obtain⟨b,o,Qi,f0,rfl,hb,Td,Vr,LO,jP⟩:=ns.at_ h 0 kF
 have key:∀(i:Nat) (hi:i<xs.length),∃cs f',(∀x∈f',x∈f)/\rep w f' cs xs[i]/\cs.length=sz/\∀j u,cs[j]? =some u->w.cell? ⟨b,o+(i*sz+j),none⟩=some u:=by
  intro i hi
  obtain⟨b',o',cs,f',S5,_,j9,oK,dx,k8⟩:=ns.at_ h i hi
  simp only[Option.some.injEq,Addr.mk.injEq,and_true]at S5
  obtain⟨rfl,rfl⟩:=S5
  exact⟨cs,f',j9,oK,dx,k8⟩
 refine .sl _ b o _ c sz (fun i j=>(w.cell? ⟨b,o+(i*sz+j),none⟩).getD Go.undef) (by simp) h1 h2 (hD b hb) ?_ ?_ ?_ ?_
 ·intro cs dx
  obtain⟨x,hx,rfl⟩:=List.mem_map.1 dx
  exact hl x hx
 ·intro cs dx
  obtain⟨x,hx,rfl⟩:=List.mem_map.1 dx
  exact hc x hx
 ·intro i j hi hj
  obtain⟨cs,f',_,_,dx,k8⟩:=key i hi
  rw[k8 j cs[j] (List.getElem?_eq_getElem (by omega))]
  rfl
 ·intro i j cs a dx ha
  have hi:i<xs.length:=by
   have:=(List.getElem?_eq_some_iff.1 dx).1
   simpa using this
  obtain⟨qz,f',j9,oK,hcs',k8⟩:=key i hi
  simp[hi]at dx
  subst dx
  obtain⟨u,hu,him⟩:=hr _ (List.getElem_mem hi) f' qz oK (fun b hb=>hD b (j9 b hb)) j a ha
  rw[k8 j u hu]
  exact him
end Go.Proofs.YtgoljkjaameagaaGreat.V

namespace Go.Proofs.YtgoljkjaameagaaGreat.V
open Go.RowKit
variable {P:Program} {w:World} {D:Nat->Prop}
def bq (d:Int):List AV:=[.int .i64 d]
def ah (d:aH):List AV:=[.int .i64 d.fb,.int .i64 d.eV]
def aa (d:ad):List AV:=[.int .i64 d.aP.fb,.int .i64 d.aP.eV,.int .i64 d.aT]
def aC (d:dM):List AV:=[.sl (d.ae.map aa)]
def cj (d:fF):List AV:=[.str d.aE,.int .i64 d.eD]
def bG (d:eU):List AV:=[.str d.aE,.sl (d.bx.map bq)]
def ab (d:aw):List AV:=[.sl (d.ay.map cj),.sl (d.ae.map bG)]
def au (d:ax):List AV:=[.sl (d.aD.ay.map cj),.sl (d.aD.ae.map bG),.sl (d.aX.ae.map aa),.int .i64 d.aA]
theorem ug {f:List Nat} {v:Value} {xs:List ad} (h:iE w f v xs) (hD:∀b∈f,D b):jL P w D (.sl (xs.map aa)) v:=
 sR h hD (fun _ _=>rfl) (fun x _ a ha=>by simp[aa]at ha;rcases ha with rfl|rfl|rfl<;>rfl) fun x _ f' cs hr hf=>by
  obtain⟨_,rfl⟩:=hr
  intro j a ha
  match j,ha with
  |0,ha=>simp[aa]at ha;subst ha;exact⟨_,rfl,.int _ _⟩
  |1,ha=>simp[aa]at ha;subst ha;exact⟨_,rfl,.int _ _⟩
  |2,ha=>simp[aa]at ha;subst ha;exact⟨_,rfl,.int _ _⟩
  |j+3,ha=>simp[aa]at ha
theorem rP {d:dM} {f0:List Nat} {v0:Value} (h0:iE w f0 v0 d.ae) (d0:∀b∈f0,D b):jL P w D (.agg (aC d)) (.agg #[v0]):=by
 refine .agg _ _ (fun j=>(#[v0]:Array Value).getD j Go.undef) rfl (fun a ha=>by simp[aC]at ha;rcases ha with rfl<;>rfl) (fun j hj=>?_) (fun j a ha=>?_)
 ·match j,hj with
  |0,_=>rfl
  |j+1,hj=>simp[aC]at hj<;>omega
 ·match j,ha with
  |0,ha=>simp[aC]at ha;subst ha;exact ug h0 d0
  |j+1,ha=>simp[aC]at ha
theorem Gf {f:List Nat} {v:Value} {xs:List fF} (h:rV w f v xs) (hD:∀b∈f,D b):jL P w D (.sl (xs.map cj)) v:=
 sR h hD (fun _ _=>rfl) (fun x _ a ha=>by simp[cj]at ha;rcases ha with rfl|rfl<;>rfl) fun x _ f' cs hr hf=>by
  obtain⟨_,rfl⟩:=hr
  intro j a ha
  match j,ha with
  |0,ha=>simp[cj]at ha;subst ha;exact⟨_,rfl,.str _⟩
  |1,ha=>simp[cj]at ha;subst ha;exact⟨_,rfl,.int _ _⟩
  |j+2,ha=>simp[cj]at ha
theorem Ds {f:List Nat} {v:Value} {xs:List Int} (h:wh w f v xs) (hD:∀b∈f,D b):jL P w D (.sl (xs.map bq)) v:=
 sR h hD (fun _ _=>rfl) (fun x _ a ha=>by simp[bq]at ha;rcases ha with rfl<;>rfl) fun x _ f' cs hr hf=>by
  obtain⟨_,rfl⟩:=hr
  intro j a ha
  match j,ha with
  |0,ha=>simp[bq]at ha;subst ha;exact⟨_,rfl,.int _ _⟩
  |j+1,ha=>simp[bq]at ha
theorem Gj {f:List Nat} {v:Value} {xs:List eU} (h:rW w f v xs) (hD:∀b∈f,D b):jL P w D (.sl (xs.map bG)) v:=
 sR h hD (fun _ _=>rfl) (fun x _ a ha=>by simp[bG]at ha;rcases ha with rfl|rfl<;>rfl) fun x _ f' cs hr hf=>by
  obtain⟨v1,f1,rfl,rfl,h1⟩:=hr
  intro j a ha
  match j,ha with
  |0,ha=>simp[bG]at ha;subst ha;exact⟨_,rfl,.str _⟩
  |1,ha=>simp[bG]at ha;subst ha;exact⟨_,rfl,Ds h1 hf⟩
  |j+2,ha=>simp[bG]at ha
theorem Du {d:ax} {f0:List Nat} {v0:Value} (h0:rV w f0 v0 d.aD.ay) (d0:∀b∈f0,D b) {f1:List Nat} {v1:Value} (h1:rW w f1 v1 d.aD.ae) (d1:∀b∈f1,D b) {f2:List Nat} {v2:Value} (h2:iE w f2 v2 d.aX.ae) (d2:∀b∈f2,D b):jL P w D (.agg (au d)) (.agg #[v0,v1,v2,.int .i64 d.aA]):=by
 refine .agg _ _ (fun j=>(#[v0,v1,v2,.int .i64 d.aA]:Array Value).getD j Go.undef) rfl (fun a ha=>by simp[au]at ha;rcases ha with rfl|rfl|rfl|rfl<;>rfl) (fun j hj=>?_) (fun j a ha=>?_)
 ·match j,hj with
  |0,_=>rfl
  |1,_=>rfl
  |2,_=>rfl
  |3,_=>rfl
  |j+4,hj=>simp[au]at hj<;>omega
 ·match j,ha with
  |0,ha=>simp[au]at ha;subst ha;exact Gf h0 d0
  |1,ha=>simp[au]at ha;subst ha;exact Gj h1 d1
  |2,ha=>simp[au]at ha;subst ha;exact ug h2 d2
  |3,ha=>simp[au]at ha;subst ha;exact .int _ _
  |j+4,ha=>simp[au]at ha
end Go.Proofs.YtgoljkjaameagaaGreat.V

namespace Go.Proofs.YtgoljkjaameagaaGreat.V
open Go.RowKit
attribute [local irreducible] dL wpOps gC Call
attribute [local go_sem] aO fM eS ga fZ cU upd cD K.av cR AV.cells AV.cell rowOf rowsOf part ld rowAt bt cw dG ei iu bK dm eB fY e6 dt ep di dh dV dW bU bd cZ bQ db da ek er eo cY ck dj ej bP aQ dd cJ iq br cN bV aZ dr bc dH AV.undef bF bJ dX eh dR dO cK eA eC cI ev eu dc de List.getD_cons_zero List.getD_cons_succ List.getD_nil List.all_cons List.all_nil Bool.and_true Bool.true_and Bool.and_self Bool.not_true Bool.not_false Option.map_some Option.map_none Option.bind_some Option.bind_none List.length_cons List.length_nil List.take_succ_cons List.take_zero List.take_nil List.drop_succ_cons List.drop_zero List.drop_nil List.head?_cons List.map_cons List.map_nil List.getElem?_cons_zero List.getElem?_cons_succ List.cons_append List.nil_append List.append_nil List.length_map List.set_cons_zero List.set_cons_succ Nat.reduceMul eq_self Int.toNat_natCast Int.natCast_nonneg and_self true_and and_true decide_true decide_false Bool.false_eq_true Nat.zero_add Nat.add_zero List.contains_cons List.contains_nil Bool.or_false Bool.false_or beq_self_eq_true Nat.reduceBEq ne_eq not_true_eq_false not_false_eq_true Id.mk.injEq false_and and_false Nat.reduceLT Int.reduceLE Int.reduceLT Int.reduceToNat Int.reduceNeg Int.reduceAdd Nat.le_refl List.length_append beq_true beq_false Bool.not_eq_eq_eq_not or_false false_or dP ai aq aI bh bE cz aY bl aV bf cW bH
variable {P:Program}
theorem KT {X:fN} {Q:Ex->Env->ar->Prop} {N:Env->ar->Prop} {c:VC} {env:Env} {σ:ar} (I:Env->ar->Prop) (h2:∀e s,I e s->N e s) (h1:∀N':Env->ar->Prop,(∀e s,I e s->N' e s)->dL X c (dr N' Q) env σ):dL X c (dr N Q) env σ:=h1 N h2
def tH (f z:Nat) (a:Bool):Bh:=let s:=f*1000000
 ⟨19,2,(.seq (.eL false [q 4 (.dq (.k (.int .i64 0))) s]) (.seq (.seq (.eL false [q 6 (.dq (.t 0)) (s+1000),q 7 (.len (.t 6)) (s+1001),q 8 (.dq (.k (.int .i64 0))) (s+1002)]) (.block 0 (.loop (.seq (.eL false [q 9 (.bin .lss .i64 (.t 8) (.t 7)) (s+2000)]) (.seq (.cond (.t 9) .skip (.exit 0)) (.seq (.block 1 (.seq (.eL false [q 10 (.dq (.t 8)) (s+3000),q 5 (.dq (.t 10)) (s+3001)]) (.seq (.eL false [q 11 (.dq (.t 1)) (s+4000),q 12 (.dq (.t 0)) (s+4001),q 13 (.dq (.t 5)) (s+4002),q 14 (.dQ z (.t 12) (.t 13)) (s+4003),q 15 (.load a z (.t 14)) (s+4004),q 16 (.uo (.t 11) [(.t 15)]) (s+4005)]) (.cond (.t 16) (.seq (.eL false [q 17 (.dq (.t 5)) (s+5000),q 4 (.dq (.t 17)) (s+5001)]) .ret) .skip)))) (.eL false [q 18 (.bin .add .i64 (.t 8) (.k (.int .i64 1))) (s+6000),q 8 (.dq (.t 18)) (s+6001)]))))))) (.seq (.eL false [q 4 (.dq (.k (.int .i64 (-1)))) (s+7000)]) .ret))),[(.tmp 4)]⟩
def Af (f g:Nat):Bh:=let s:=f*1000000
 ⟨9,2,(.seq (.eL false [q 4 (.dq (.k (.bool false))) s]) (.seq (.eL false [q 5 (.dq (.t 0)) (s+1000),q 6 (.dq (.t 1)) (s+1001),q 7 (.call g [(.t 5),(.t 6)]) (s+1002),q 8 (.bin .geq .i64 (.t 7) (.k (.int .i64 0))) (s+1003),q 4 (.dq (.t 8)) (s+1004)]) .ret)),[(.tmp 4)]⟩
def kC {α:Type} (p:α->Bool) (xs:List α):Int:=if xs.findIdx p<xs.length then(xs.findIdx p:Int)else -1
theorem IT {α:Type} (p:α->Bool) (xs:List α):decide (0<=kC p xs)=xs.any p:=by
 unfold kC
 by_cases h:xs.findIdx p<xs.length
 ·rw[if_pos h]
  have:xs.any p=true:=List.any_eq_true.2 (List.findIdx_lt_length.1 h)
  rw[this];simp
 ·rw[if_neg h]
  have:xs.any p=false:=by
   rw[Bool.eq_false_iff]
   intro hc
   exact h (List.findIdx_lt_length.2 (List.any_eq_true.1 hc))
  rw[this];rfl
theorem vm (a:AV) (l m:List AV):a::l++m=a::(l++m):=rfl
theorem zS (l:List AV):[]++l=l:=rfl
structure QK {α:Type} (e:α->List AV) (v:α->AV) (z:Nat) (a:Bool):Prop where
 len:∀x,(e x).length=z
 val:∀x,if a=true then v x=.agg (e x)else e x=[v x]
 fz:∀x g,cV g 6 [v x]=some [v x]
theorem uC {α:Type} {e:α->List AV} {v:α->AV} {z fk:Nat} {a:Bool} (hE:QK e v z a) (hc:mz P fk=some (tH fk z a)) (xs:List α) (hlen:xs.length<=1048576) (f:Nat) (cQ:List AV) (p:α->Bool)
  (hf:∀x∈xs,aj P f (v x::cQ) (.bool (p x))) (Jb:∀g,cV g 6 cQ=some cQ):
  aj P fk [.sl (xs.map e),.fn f cQ] (.int .i64 (kC p xs)):=by
 refine aj.body hc rfl fun hl n0=>?_
 try simp only[q]
 clear hl
 (try((repeat(revert hN;revert N;apply Pn.out));refine wk @Nat.zero_add ?_;(repeat(refine Pn.mk ?_;intro N hN))))
 refine aW (fun n env st=>∃k:Nat,n=(xs.length)-k/\k<=(xs.length)/\env 8=.int .i64 (k:Int)/\(∀j:Nat,j<k->∀h:j<xs.length,p xs[j]=false)) (xs.length) ⟨0,by omega,by omega,sl @Nat.zero_add,fun _ h=>absurd h (Nat.not_lt_zero _)⟩ ?_
 rintro n_a env_a st_a ⟨k,rfl,ale,a8,mv⟩ dJ
 have a0:=dJ 0 (by kernel_rfl);have a1:=dJ 1 (by kernel_rfl);have a7:=dJ 7 (by kernel_rfl)
 simp only[go_sem, ↓reduceIte,Nat.reduceEqDiff,Nat.reduceAdd,Nat.reduceSub,Nat.reduceLeDiff,reduceCtorEq]at a0 a1 a7
 clear dJ
 by_cases hk:(k:Int)<(xs.length:Int)
 ·have cG:∀{e:Env},(e 8=.int .i64 (IntKind.i64.wrap ((k:Int)+1)))->(∀h:k<xs.length,p xs[k]=false)->∃m0,m0<(xs.length)-k/\∃k:Nat,m0=(xs.length)-k/\k<=(xs.length)/\e 8=.int .i64 (k:Int)/\(∀j:Nat,j<k->∀h:j<xs.length,p xs[j]=false):=fun x1 x2=>⟨_,by omega,k+1,rfl,by omega,(by rw[x1,aB (by omega)]),(all_succ mv x2)⟩
  have fE:k<xs.length:=by omega
  have hg:(xs.map e)[k]? =some (e xs[k]):=by simp[fE]
  have FL:=hf _ (List.getElem_mem fE)
  have hz:=hE.len xs[k]
  have hv:=hE.val xs[k]
  have lH:cV (dP st_a.get) 6 (v xs[k]::cQ)=some (v xs[k]::cQ):=by
   have h1:=hE.fz xs[k] (dP st_a.get)
   rw[ai,aq]at h1
   rw[ai,Jb]
   revert h1
   cases V.fz (dP st_a.get) 6 (v xs[k])<;>simp
  have fin:∀hN:True,(p xs[k]=true->xs.findIdx p=k):=fun _ hp=>by
   rw[List.findIdx_eq fE];exact⟨hp,fun j hj=>mv j hj (by omega)⟩
  cases hp:p xs[k]
  ·have Tp:=hp
   cases a
   ·rw[if_neg (by simp)]at hv
    have Bo:z=1:=by rw[<-hz,hv];rfl
    subst Bo
    rw[hv]at hg hz
    rw[hp]at FL
    generalize v xs[k]=c at FL lH hg hz
    (try((repeat(revert hN;revert N;apply Pn.out));refine wk (tw @a8 (tw @a0 (tw @a1 (tw @a7 (tw @hk (tw @hg (tw @hz (tw @vm @zS)))))))) ?_;(repeat(refine Pn.mk ?_;intro N hN))))
    refine .inl ⟨_,aj.x FL lH,?_⟩
    refine hN _ _ ?_
    clear hN N
    (try((repeat(revert hN;revert N;apply Pn.out));refine wk (tw @a8 (tw @a0 (tw @a1 @a7))) ?_;(repeat(refine Pn.mk ?_;intro N hN))))
    exact cG (sd (tw @a8 (tw @a0 (tw @a1 @a7)))) (fun _=>Tp)
   ·rw[if_pos rfl]at hv
    have ht:(e xs[k]).take z=e xs[k]:=by rw[<-hz,List.take_length]
    rw[hv]at FL lH
    rw[hp]at FL
    generalize e xs[k]=c at FL lH hg hz ht
    (try((repeat(revert hN;revert N;apply Pn.out));refine wk (tw @a8 (tw @a0 (tw @a1 (tw @a7 (tw @hk (tw @hg (tw @hz (tw @ht (tw @vm (tw @zS @Nat.le_refl)))))))))) ?_;(repeat(refine Pn.mk ?_;intro N hN))))
    refine .inl ⟨_,aj.x FL lH,?_⟩
    refine hN _ _ ?_
    clear hN N
    (try((repeat(revert hN;revert N;apply Pn.out));refine wk (tw @a8 (tw @a0 (tw @a1 @a7))) ?_;(repeat(refine Pn.mk ?_;intro N hN))))
    exact cG (sd (tw @a8 (tw @a0 (tw @a1 @a7)))) (fun _=>Tp)
  ·have hi:=fin trivial hp
   cases a
   ·rw[if_neg (by simp)]at hv
    have Bo:z=1:=by rw[<-hz,hv];rfl
    subst Bo
    rw[hv]at hg hz
    rw[hp]at FL
    generalize v xs[k]=c at FL lH hg hz
    (try((repeat(revert hN;revert N;apply Pn.out));refine wk (tw @a8 (tw @a0 (tw @a1 (tw @a7 (tw @hk (tw @hg (tw @hz (tw @vm @zS)))))))) ?_;(repeat(refine Pn.mk ?_;intro N hN))))
    refine .inl ⟨_,aj.x FL lH,?_⟩
    refine hN _ _ ?_
    clear hN N
    (try((repeat(revert hN;revert N;apply Pn.out));refine wk (tw @a8 (tw @a0 (tw @a1 @a7))) ?_;(repeat(refine Pn.mk ?_;intro N hN))))
    exact cr (b:=(k:Int)) (.inl rfl) (sd @Nat.zero_add) (by rw[kC,hi,if_pos fE])
   ·rw[if_pos rfl]at hv
    have ht:(e xs[k]).take z=e xs[k]:=by rw[<-hz,List.take_length]
    rw[hv]at FL lH
    rw[hp]at FL
    generalize e xs[k]=c at FL lH hg hz ht
    (try((repeat(revert hN;revert N;apply Pn.out));refine wk (tw @a8 (tw @a0 (tw @a1 (tw @a7 (tw @hk (tw @hg (tw @hz (tw @ht (tw @vm (tw @zS @Nat.le_refl)))))))))) ?_;(repeat(refine Pn.mk ?_;intro N hN))))
    refine .inl ⟨_,aj.x FL lH,?_⟩
    refine hN _ _ ?_
    clear hN N
    (try((repeat(revert hN;revert N;apply Pn.out));refine wk (tw @a8 (tw @a0 (tw @a1 @a7))) ?_;(repeat(refine Pn.mk ?_;intro N hN))))
    exact cr (b:=(k:Int)) (.inl rfl) (sd @Nat.zero_add) (by rw[kC,hi,if_pos fE])
 ·(try((repeat(revert hN;revert N;apply Pn.out));refine wk (tw @a8 (tw @a0 (tw @a1 (tw @a7 @hk)))) ?_;(repeat(refine Pn.mk ?_;intro N hN))))
  have hi:¬xs.findIdx p<xs.length:=by
   rw[List.findIdx_lt_length]
   rintro⟨x,hx,L6⟩
   obtain⟨j,hj,rfl⟩:=List.getElem_of_mem hx
   rw[mv j (by omega) hj]at L6;cases L6
  exact cr (b:=-1) (.inl rfl) (sd @Nat.zero_add) (by rw[kC,if_neg hi])
theorem kZ {α:Type} {e:α->List AV} {v:α->AV} {z fk gk:Nat} {a:Bool} (hE:QK e v z a) (hc:mz P fk=some (Af fk gk)) (GL:mz P gk=some (tH gk z a)) (xs:List α) (hlen:xs.length<=1048576) (f:Nat) (cQ:List AV) (p:α->Bool) (I6:cQ.all AV.cell=true) (Df:∀g,cV g 5 cQ=some cQ)
  (hf:∀x∈xs,aj P f (v x::cQ) (.bool (p x))) (Jb:∀g,cV g 6 cQ=some cQ):
  aj P fk [.sl (xs.map e),.fn f cQ] (.bool (xs.any p)):=by
 refine aj.body hc rfl fun hl n0=>?_
 try simp only[q]
 clear hl
 have hi:=uC hE GL xs hlen f cQ p hf Jb
 (repeat(first|((repeat(revert hN;revert N;apply Pn.out));refine wk (tw @I6 @Df) ?_;(repeat(refine Pn.mk ?_;intro N hN)))|((try apply Or.inl);refine⟨_,aj.x (hi) (sd (tw @I6 @Df)),?_⟩;refine hN _ _ ?_;clear hN N)))
 exact aU (b:=decide (0<=kC p xs)) (.inl rfl) (sd @Nat.zero_add) (IT p xs)
end Go.Proofs.YtgoljkjaameagaaGreat.V

namespace Go.Proofs.YtgoljkjaameagaaGreat.V
open Go.RowKit
def sC (P:Program) (mk:Bool):List Oper->Nat->List Nat
 |[],_=>[]
 |o::r,i=>match rM P o.op with
  |some v=>if rD v||mk&&v.mi then i::sC P mk r (i+1)else sC P mk r (i+1)
  |none=>sC P mk r (i+1)
def zV (P:Program) (ops:Array Oper) (site0:Nat) (mk:Bool) (bs:Array Nat) (hidden:List Nat):List Oper->Nat->Option (List bj)
 |[],_=>some []
 |o::r,j=>do
  let v <-rM P o.op
  let g <-DF ops o
  pure ({dst:=o.dst,op:=v,guard:=g,site:=site0+j,hid:=(hidden.filter fun i=> !(bs.getD j 0).testBit i&&(i !=j||mk&&v.mi)).map fun i=>site0+i}::(<-zV P ops site0 mk bs hidden r (j+1)))
def qL (P:Program) (md:List (Nat×Nat)) (fid:Nat):Code->Option VC
 | .skip=>some .skip
 | .region id ops draw=>if draw then(zV P ops ((fid*1000+id)*1000) (xh md id==1) (jG ops) (sC P (xh md id==1) ops.toList 0) ops.toList 0).map (VC.eL true)else(zV P ops ((fid*1000+id)*1000) false #[] [] ops.toList 0).map (if ops.toList.any fun o=>NF o.op then VC.Ob else VC.eL false)
 | .seq a b=>do pure (.seq (<-qL P md fid a) (<-qL P md fid b))
 | .cond c x y=>do pure (.cond (<-cO P c) (<-qL P md fid x) (<-qL P md fid y))
 | .block id c=>(qL P md fid c).map (VC.block id)
 | .loop c=>(qL P md fid c).map VC.loop
 | .exit id=>some (.exit id)
 | .ret=>some .ret
 |_=>none
def QR (P:Program) (md:List (Nat×Nat)) (f:Nat):Option Bh:=
 match P.funcs[f]? with
 |some fn=>match fn.body with
  |some c=>do
   let b <-qL P md f c
   let r <-fn.results.toList.mapM (DG P)
   pure {ntmps:=fn.ntmps,zt:=fn.params.size+fn.nfree,body:=b,res:=r}
  |none=>none
 |none=>none
theorem cfM {P:Program} (md:List (Nat×Nat)) {f:Nat} {v:Bh} (_:QR P md f=some v:=by(conv=>lhs;cbv)<;>exact rfl) (h:yh P f md=some v:=by kernel_rfl):yh P f md=some v:=h
theorem eI {P:Program} {f:Nat} {v:Bh} (_:QR P [] f=some v:=by(conv=>lhs;cbv)<;>exact rfl) (h:mz P f=some v:=by kernel_rfl):mz P f=some v:=h
def PM:Bh:=⟨77,2,(.seq (.eL false [q 4 (.dq (.k .gY)) 251000000]) (.seq (.eL false [q 7 (.dq (.t 0)) 251001000,q 8 (.dq (.t 1)) 251001001,q 9 (.build [(.int .i64 0),.cC,.cC,.cC] [(0,(1,(.t 7))),(1,(1,(.t 8)))]) 251001002,q 10 (.box (.t 9)) 251001003,q 5 (.dq (.t 10)) 251001004]) (.seq (.eL false [q 11 (.dq (.t 5)) 251002000,q 12 (.dq (.t 0)) 251002001,q 13 (.kc [.cC] (.t 12) (.t 12)) 251002002,q 14 (.Bi (.t 11)) 251002003,q 15 (.fW 2 (.t 14)) 251002004,⟨none,(.store 1 (.t 15) (.t 13)),none,251002005,[]⟩]) (.seq (.eL false [q 16 (.dq (.t 5)) 251003000,q 17 (.dq (.t 1)) 251003001,q 18 (.len (.t 17)) 251003002,q 19 (.kc [(.int .i64 0)] (.t 18) (.t 18)) 251003003,q 20 (.Bi (.t 16)) 251003004,q 21 (.fW 3 (.t 20)) 251003005,⟨none,(.store 1 (.t 21) (.t 19)),none,251003006,[]⟩]) (.seq (.seq (.eL false [q 6 (.dq (.k (.int .i64 0))) 251004000]) (.block 0 (.loop (.seq (.seq (.eL false [q 22 (.dq (.t 6)) 251005000,q 23 (.dq (.t 1)) 251005001,q 24 (.len (.t 23)) 251005002,q 25 (.bin .lss .i64 (.t 22) (.t 24)) 251005003]) (.cond (.t 25) .skip (.exit 0))) (.seq (.block 1 (.seq (.one ⟨(some 28),(.dq (.t 5)),none,251007000,[251007021,251007022,251007024]⟩ (.one ⟨(some 29),(.Bi (.t 28)),none,251007001,[251007021,251007022,251007024]⟩ (.one ⟨(some 30),(.fW 2 (.t 29)),none,251007002,[251007021,251007022,251007024]⟩ (.one ⟨(some 32),(.dq (.t 1)),none,251007004,[251007021,251007022,251007024]⟩ (.one ⟨(some 33),(.dq (.t 6)),none,251007005,[251007021,251007022,251007024]⟩ (.one ⟨(some 37),(.dq (.t 5)),none,251007009,[251007021,251007022,251007024]⟩ (.one ⟨(some 38),(.Bi (.t 37)),none,251007010,[251007021,251007022,251007024]⟩ (.one ⟨(some 39),(.fW 2 (.t 38)),none,251007011,[251007021,251007022,251007024]⟩ (.one ⟨(some 40),(.load false 1 (.t 39)),none,251007012,[251007021,251007022,251007024]⟩ (.one ⟨(some 41),(.dq (.t 1)),none,251007013,[251007021,251007022,251007024]⟩ (.one ⟨(some 42),(.dq (.t 6)),none,251007014,[251007021,251007022,251007024]⟩ (.one ⟨(some 43),(.dQ 3 (.t 41) (.t 42)),none,251007015,[251007021,251007022,251007024]⟩ (.one ⟨(some 44),(.fW 0 (.t 43)),none,251007016,[251007021,251007022,251007024]⟩ (.one ⟨(some 45),(.load false 1 (.t 44)),none,251007017,[251007021,251007022,251007024]⟩ (.one ⟨(some 46),(.dQ 1 (.t 40) (.t 45)),none,251007018,[251007021,251007022,251007024]⟩ (.one ⟨(some 47),(.load false 1 (.t 46)),none,251007019,[251007021,251007022,251007024]⟩ (.one ⟨(some 48),(.dq (.t 6)),none,251007020,[251007021,251007022,251007024]⟩ (.one ⟨(some 49),(.mh 1 1 [(.t 48)]),none,251007021,[251007022,251007024]⟩ (.both (.one ⟨(some 31),(.load false 1 (.t 30)),none,251007003,[251007021,251007022,251007024]⟩ (.both (.one ⟨(some 34),(.dQ 3 (.t 32) (.t 33)),none,251007006,[251007021,251007022,251007024]⟩ (.one ⟨(some 35),(.fW 0 (.t 34)),none,251007007,[251007021,251007022,251007024]⟩ (.both (.one ⟨(some 36),(.load false 1 (.t 35)),none,251007008,[251007021,251007022,251007024]⟩ (.one ⟨(some 50),(.append 1 (.t 47) (.t 49)),none,251007022,[251007024]⟩ (.one ⟨(some 51),(.dQ 1 (.t 31) (.t 36)),none,251007023,[251007024]⟩ (.one ⟨none,(.store 1 (.t 51) (.t 50)),none,251007024,[]⟩ (.eL false []))))) (.one ⟨(some 50),(.append 1 (.t 47) (.t 49)),none,251007022,[251007024]⟩ (.one ⟨(some 36),(.load false 1 (.t 35)),none,251007008,[251007021,251007022,251007024]⟩ (.one ⟨(some 51),(.dQ 1 (.t 31) (.t 36)),none,251007023,[251007024]⟩ (.one ⟨none,(.store 1 (.t 51) (.t 50)),none,251007024,[]⟩ (.eL false [])))))))) (.one ⟨(some 50),(.append 1 (.t 47) (.t 49)),none,251007022,[251007024]⟩ (.one ⟨(some 34),(.dQ 3 (.t 32) (.t 33)),none,251007006,[251007021,251007022,251007024]⟩ (.one ⟨(some 35),(.fW 0 (.t 34)),none,251007007,[251007021,251007022,251007024]⟩ (.one ⟨(some 36),(.load false 1 (.t 35)),none,251007008,[251007021,251007022,251007024]⟩ (.one ⟨(some 51),(.dQ 1 (.t 31) (.t 36)),none,251007023,[251007024]⟩ (.one ⟨none,(.store 1 (.t 51) (.t 50)),none,251007024,[]⟩ (.eL false []))))))))) (.both (.one ⟨(some 34),(.dQ 3 (.t 32) (.t 33)),none,251007006,[251007021,251007022,251007024]⟩ (.one ⟨(some 35),(.fW 0 (.t 34)),none,251007007,[251007021,251007022,251007024]⟩ (.both (.one ⟨(some 31),(.load false 1 (.t 30)),none,251007003,[251007021,251007022,251007024]⟩ (.both (.one ⟨(some 36),(.load false 1 (.t 35)),none,251007008,[251007021,251007022,251007024]⟩ (.one ⟨(some 50),(.append 1 (.t 47) (.t 49)),none,251007022,[251007024]⟩ (.one ⟨(some 51),(.dQ 1 (.t 31) (.t 36)),none,251007023,[251007024]⟩ (.one ⟨none,(.store 1 (.t 51) (.t 50)),none,251007024,[]⟩ (.eL false []))))) (.one ⟨(some 50),(.append 1 (.t 47) (.t 49)),none,251007022,[251007024]⟩ (.one ⟨(some 36),(.load false 1 (.t 35)),none,251007008,[251007021,251007022,251007024]⟩ (.one ⟨(some 51),(.dQ 1 (.t 31) (.t 36)),none,251007023,[251007024]⟩ (.one ⟨none,(.store 1 (.t 51) (.t 50)),none,251007024,[]⟩ (.eL false []))))))) (.both (.one ⟨(some 36),(.load false 1 (.t 35)),none,251007008,[251007021,251007022,251007024]⟩ (.both (.one ⟨(some 31),(.load false 1 (.t 30)),none,251007003,[251007021,251007022,251007024]⟩ (.one ⟨(some 50),(.append 1 (.t 47) (.t 49)),none,251007022,[251007024]⟩ (.one ⟨(some 51),(.dQ 1 (.t 31) (.t 36)),none,251007023,[251007024]⟩ (.one ⟨none,(.store 1 (.t 51) (.t 50)),none,251007024,[]⟩ (.eL false []))))) (.one ⟨(some 50),(.append 1 (.t 47) (.t 49)),none,251007022,[251007024]⟩ (.one ⟨(some 31),(.load false 1 (.t 30)),none,251007003,[251007021,251007022,251007024]⟩ (.one ⟨(some 51),(.dQ 1 (.t 31) (.t 36)),none,251007023,[251007024]⟩ (.one ⟨none,(.store 1 (.t 51) (.t 50)),none,251007024,[]⟩ (.eL false []))))))) (.one ⟨(some 50),(.append 1 (.t 47) (.t 49)),none,251007022,[251007024]⟩ (.one ⟨(some 31),(.load false 1 (.t 30)),none,251007003,[251007021,251007022,251007024]⟩ (.one ⟨(some 36),(.load false 1 (.t 35)),none,251007008,[251007021,251007022,251007024]⟩ (.one ⟨(some 51),(.dQ 1 (.t 31) (.t 36)),none,251007023,[251007024]⟩ (.one ⟨none,(.store 1 (.t 51) (.t 50)),none,251007024,[]⟩ (.eL false [])))))))))) (.one ⟨(some 50),(.append 1 (.t 47) (.t 49)),none,251007022,[251007024]⟩ (.one ⟨(some 31),(.load false 1 (.t 30)),none,251007003,[251007021,251007022,251007024]⟩ (.one ⟨(some 34),(.dQ 3 (.t 32) (.t 33)),none,251007006,[251007021,251007022,251007024]⟩ (.one ⟨(some 35),(.fW 0 (.t 34)),none,251007007,[251007021,251007022,251007024]⟩ (.one ⟨(some 36),(.load false 1 (.t 35)),none,251007008,[251007021,251007022,251007024]⟩ (.one ⟨(some 51),(.dQ 1 (.t 31) (.t 36)),none,251007023,[251007024]⟩ (.one ⟨none,(.store 1 (.t 51) (.t 50)),none,251007024,[]⟩ (.eL false [])))))))))))))))))))))))))))) (.one ⟨(some 52),(.dq (.t 5)),none,251008000,[251008021,251008022,251008024]⟩ (.one ⟨(some 53),(.Bi (.t 52)),none,251008001,[251008021,251008022,251008024]⟩ (.one ⟨(some 54),(.fW 2 (.t 53)),none,251008002,[251008021,251008022,251008024]⟩ (.one ⟨(some 56),(.dq (.t 1)),none,251008004,[251008021,251008022,251008024]⟩ (.one ⟨(some 57),(.dq (.t 6)),none,251008005,[251008021,251008022,251008024]⟩ (.one ⟨(some 61),(.dq (.t 5)),none,251008009,[251008021,251008022,251008024]⟩ (.one ⟨(some 62),(.Bi (.t 61)),none,251008010,[251008021,251008022,251008024]⟩ (.one ⟨(some 63),(.fW 2 (.t 62)),none,251008011,[251008021,251008022,251008024]⟩ (.one ⟨(some 64),(.load false 1 (.t 63)),none,251008012,[251008021,251008022,251008024]⟩ (.one ⟨(some 65),(.dq (.t 1)),none,251008013,[251008021,251008022,251008024]⟩ (.one ⟨(some 66),(.dq (.t 6)),none,251008014,[251008021,251008022,251008024]⟩ (.one ⟨(some 67),(.dQ 3 (.t 65) (.t 66)),none,251008015,[251008021,251008022,251008024]⟩ (.one ⟨(some 68),(.fW 1 (.t 67)),none,251008016,[251008021,251008022,251008024]⟩ (.one ⟨(some 69),(.load false 1 (.t 68)),none,251008017,[251008021,251008022,251008024]⟩ (.one ⟨(some 70),(.dQ 1 (.t 64) (.t 69)),none,251008018,[251008021,251008022,251008024]⟩ (.one ⟨(some 71),(.load false 1 (.t 70)),none,251008019,[251008021,251008022,251008024]⟩ (.one ⟨(some 72),(.dq (.t 6)),none,251008020,[251008021,251008022,251008024]⟩ (.one ⟨(some 73),(.mh 1 1 [(.t 72)]),none,251008021,[251008022,251008024]⟩ (.both (.one ⟨(some 55),(.load false 1 (.t 54)),none,251008003,[251008021,251008022,251008024]⟩ (.both (.one ⟨(some 58),(.dQ 3 (.t 56) (.t 57)),none,251008006,[251008021,251008022,251008024]⟩ (.one ⟨(some 59),(.fW 1 (.t 58)),none,251008007,[251008021,251008022,251008024]⟩ (.both (.one ⟨(some 60),(.load false 1 (.t 59)),none,251008008,[251008021,251008022,251008024]⟩ (.one ⟨(some 74),(.append 1 (.t 71) (.t 73)),none,251008022,[251008024]⟩ (.one ⟨(some 75),(.dQ 1 (.t 55) (.t 60)),none,251008023,[251008024]⟩ (.one ⟨none,(.store 1 (.t 75) (.t 74)),none,251008024,[]⟩ (.eL false []))))) (.one ⟨(some 74),(.append 1 (.t 71) (.t 73)),none,251008022,[251008024]⟩ (.one ⟨(some 60),(.load false 1 (.t 59)),none,251008008,[251008021,251008022,251008024]⟩ (.one ⟨(some 75),(.dQ 1 (.t 55) (.t 60)),none,251008023,[251008024]⟩ (.one ⟨none,(.store 1 (.t 75) (.t 74)),none,251008024,[]⟩ (.eL false [])))))))) (.one ⟨(some 74),(.append 1 (.t 71) (.t 73)),none,251008022,[251008024]⟩ (.one ⟨(some 58),(.dQ 3 (.t 56) (.t 57)),none,251008006,[251008021,251008022,251008024]⟩ (.one ⟨(some 59),(.fW 1 (.t 58)),none,251008007,[251008021,251008022,251008024]⟩ (.one ⟨(some 60),(.load false 1 (.t 59)),none,251008008,[251008021,251008022,251008024]⟩ (.one ⟨(some 75),(.dQ 1 (.t 55) (.t 60)),none,251008023,[251008024]⟩ (.one ⟨none,(.store 1 (.t 75) (.t 74)),none,251008024,[]⟩ (.eL false []))))))))) (.both (.one ⟨(some 58),(.dQ 3 (.t 56) (.t 57)),none,251008006,[251008021,251008022,251008024]⟩ (.one ⟨(some 59),(.fW 1 (.t 58)),none,251008007,[251008021,251008022,251008024]⟩ (.both (.one ⟨(some 55),(.load false 1 (.t 54)),none,251008003,[251008021,251008022,251008024]⟩ (.both (.one ⟨(some 60),(.load false 1 (.t 59)),none,251008008,[251008021,251008022,251008024]⟩ (.one ⟨(some 74),(.append 1 (.t 71) (.t 73)),none,251008022,[251008024]⟩ (.one ⟨(some 75),(.dQ 1 (.t 55) (.t 60)),none,251008023,[251008024]⟩ (.one ⟨none,(.store 1 (.t 75) (.t 74)),none,251008024,[]⟩ (.eL false []))))) (.one ⟨(some 74),(.append 1 (.t 71) (.t 73)),none,251008022,[251008024]⟩ (.one ⟨(some 60),(.load false 1 (.t 59)),none,251008008,[251008021,251008022,251008024]⟩ (.one ⟨(some 75),(.dQ 1 (.t 55) (.t 60)),none,251008023,[251008024]⟩ (.one ⟨none,(.store 1 (.t 75) (.t 74)),none,251008024,[]⟩ (.eL false []))))))) (.both (.one ⟨(some 60),(.load false 1 (.t 59)),none,251008008,[251008021,251008022,251008024]⟩ (.both (.one ⟨(some 55),(.load false 1 (.t 54)),none,251008003,[251008021,251008022,251008024]⟩ (.one ⟨(some 74),(.append 1 (.t 71) (.t 73)),none,251008022,[251008024]⟩ (.one ⟨(some 75),(.dQ 1 (.t 55) (.t 60)),none,251008023,[251008024]⟩ (.one ⟨none,(.store 1 (.t 75) (.t 74)),none,251008024,[]⟩ (.eL false []))))) (.one ⟨(some 74),(.append 1 (.t 71) (.t 73)),none,251008022,[251008024]⟩ (.one ⟨(some 55),(.load false 1 (.t 54)),none,251008003,[251008021,251008022,251008024]⟩ (.one ⟨(some 75),(.dQ 1 (.t 55) (.t 60)),none,251008023,[251008024]⟩ (.one ⟨none,(.store 1 (.t 75) (.t 74)),none,251008024,[]⟩ (.eL false []))))))) (.one ⟨(some 74),(.append 1 (.t 71) (.t 73)),none,251008022,[251008024]⟩ (.one ⟨(some 55),(.load false 1 (.t 54)),none,251008003,[251008021,251008022,251008024]⟩ (.one ⟨(some 60),(.load false 1 (.t 59)),none,251008008,[251008021,251008022,251008024]⟩ (.one ⟨(some 75),(.dQ 1 (.t 55) (.t 60)),none,251008023,[251008024]⟩ (.one ⟨none,(.store 1 (.t 75) (.t 74)),none,251008024,[]⟩ (.eL false [])))))))))) (.one ⟨(some 74),(.append 1 (.t 71) (.t 73)),none,251008022,[251008024]⟩ (.one ⟨(some 55),(.load false 1 (.t 54)),none,251008003,[251008021,251008022,251008024]⟩ (.one ⟨(some 58),(.dQ 3 (.t 56) (.t 57)),none,251008006,[251008021,251008022,251008024]⟩ (.one ⟨(some 59),(.fW 1 (.t 58)),none,251008007,[251008021,251008022,251008024]⟩ (.one ⟨(some 60),(.load false 1 (.t 59)),none,251008008,[251008021,251008022,251008024]⟩ (.one ⟨(some 75),(.dQ 1 (.t 55) (.t 60)),none,251008023,[251008024]⟩ (.one ⟨none,(.store 1 (.t 75) (.t 74)),none,251008024,[]⟩ (.eL false [])))))))))))))))))))))))))))))) (.eL false [q 26 (.dq (.t 6)) 251006000,q 27 (.bin .add .i64 (.t 26) (.k (.int .i64 1))) 251006001,q 6 (.dq (.t 27)) 251006002])))))) (.seq (.eL false [q 76 (.dq (.t 5)) 251009000,q 4 (.dq (.t 76)) 251009001]) .ret)))))),[(.tmp 4)]⟩
theorem N9:yh Tryz.prog 251 [(7,2),(8,2)]=some PM:=by kernel_rfl
def PN:Bh:=⟨118,2,(.seq (.eL false [q 4 (.dq (.k .cC)) 320000000]) (.seq (.eL false [q 17 (.dq (.t 0)) 320001000,q 18 (.kc [.gY] (.t 17) (.t 17)) 320001001,q 5 (.dq (.t 18)) 320001002]) (.seq (.seq (.eL false [q 19 (.dq (.t 5)) 320002000,q 20 (.len (.t 19)) 320002001,q 21 (.dq (.k (.int .i64 0))) 320002002]) (.block 0 (.loop (.seq (.eL false [q 22 (.bin .lss .i64 (.t 21) (.t 20)) 320003000]) (.seq (.cond (.t 22) .skip (.exit 0)) (.seq (.block 1 (.seq (.eL false [q 23 (.dq (.t 21)) 320004000,q 6 (.dq (.t 23)) 320004001]) (.eL false [q 24 (.dq (.t 5)) 320005000,q 25 (.dq (.t 6)) 320005001,q 26 (.dq (.t 6)) 320005002,q 27 (.build [.gY,(.int .i64 0)] [(1,(1,(.t 26)))]) 320005003,q 28 (.box (.t 27)) 320005004,q 29 (.dQ 1 (.t 24) (.t 25)) 320005005,⟨none,(.store 1 (.t 29) (.t 28)),none,320005006,[]⟩]))) (.eL false [q 30 (.bin .add .i64 (.t 21) (.k (.int .i64 1))) 320006000,q 21 (.dq (.t 30)) 320006001]))))))) (.seq (.seq (.eL false [q 31 (.dq (.t 1)) 320007000,q 32 (.len (.t 31)) 320007001,q 33 (.dq (.k (.int .i64 0))) 320007002]) (.block 2 (.loop (.seq (.eL false [q 34 (.bin .lss .i64 (.t 33) (.t 32)) 320008000]) (.seq (.cond (.t 34) .skip (.exit 2)) (.seq (.block 3 (.seq (.eL false [q 35 (.dQ 3 (.t 31) (.t 33)) 320009000,q 36 (.load true 3 (.t 35)) 320009001,q 8 (.new [(.int .i64 0),(.int .i64 0),(.int .i64 0)]) 320009002,⟨none,(.store 3 (.t 8) (.t 36)),none,320009003,[]⟩]) (.seq (.one (q 37 (.dq (.t 5)) 320010000) (.one (q 38 (.fW 0 (.t 8)) 320010001) (.one (q 39 (.load false 1 (.t 38)) 320010002) (.one (q 40 (.dQ 1 (.t 37) (.t 39)) 320010003) (.one (q 41 (.load false 1 (.t 40)) 320010004) (.one (q 43 (.dq (.t 5)) 320010006) (.one (q 44 (.fW 1 (.t 8)) 320010007) (.both (.one (q 42 (.call 334 [(.t 41)]) 320010005) (.one (q 45 (.load false 1 (.t 44)) 320010008) (.one (q 46 (.dQ 1 (.t 43) (.t 45)) 320010009) (.one (q 47 (.load false 1 (.t 46)) 320010010) (.one (q 48 (.call 334 [(.t 47)]) 320010011) (.one (q 9 (.dq (.t 42)) 320010012) (.one (q 10 (.dq (.t 48)) 320010013) (.eL false [])))))))) (.one (q 45 (.load false 1 (.t 44)) 320010008) (.both (.one (q 42 (.call 334 [(.t 41)]) 320010005) (.one (q 46 (.dQ 1 (.t 43) (.t 45)) 320010009) (.one (q 47 (.load false 1 (.t 46)) 320010010) (.one (q 48 (.call 334 [(.t 47)]) 320010011) (.one (q 9 (.dq (.t 42)) 320010012) (.one (q 10 (.dq (.t 48)) 320010013) (.eL false []))))))) (.one (q 46 (.dQ 1 (.t 43) (.t 45)) 320010009) (.both (.one (q 42 (.call 334 [(.t 41)]) 320010005) (.one (q 47 (.load false 1 (.t 46)) 320010010) (.one (q 48 (.call 334 [(.t 47)]) 320010011) (.one (q 9 (.dq (.t 42)) 320010012) (.one (q 10 (.dq (.t 48)) 320010013) (.eL false [])))))) (.one (q 47 (.load false 1 (.t 46)) 320010010) (.one (q 42 (.call 334 [(.t 41)]) 320010005) (.one (q 48 (.call 334 [(.t 47)]) 320010011) (.one (q 9 (.dq (.t 42)) 320010012) (.one (q 10 (.dq (.t 48)) 320010013) (.eL false [])))))))))))))))))) (.block 4 (.seq (.eL true [q 50 (.dq (.t 9)) 320011000,q 51 (.Bi (.t 50)) 320011001,q 52 (.fW 1 (.t 51)) 320011002,q 53 (.load false 1 (.t 52)) 320011003,q 54 (.dq (.t 10)) 320011004,q 55 (.Bi (.t 54)) 320011005,q 56 (.fW 1 (.t 55)) 320011006,q 57 (.load false 1 (.t 56)) 320011007,q 58 (.bin .lss .i64 (.t 53) (.t 57)) 320011008,q 49 (.dq (.t 58)) 320011009]) (.cond (.t 49) (.eL false [q 59 (.dq (.t 10)) 320012000,q 60 (.dq (.t 9)) 320012001,q 61 (.Bi (.t 59)) 320012002,q 62 (.fW 0 (.t 61)) 320012003,⟨none,(.store 1 (.t 62) (.t 60)),none,320012004,[]⟩]) (.seq (.eL true [q 64 (.dq (.t 10)) 320013000,q 65 (.Bi (.t 64)) 320013001,q 66 (.fW 1 (.t 65)) 320013002,q 67 (.load false 1 (.t 66)) 320013003,q 68 (.dq (.t 9)) 320013004,q 69 (.Bi (.t 68)) 320013005,q 70 (.fW 1 (.t 69)) 320013006,q 71 (.load false 1 (.t 70)) 320013007,q 72 (.bin .lss .i64 (.t 67) (.t 71)) 320013008,q 63 (.dq (.t 72)) 320013009]) (.cond (.t 63) (.eL false [q 73 (.dq (.t 9)) 320014000,q 74 (.dq (.t 10)) 320014001,q 75 (.Bi (.t 73)) 320014002,q 76 (.fW 0 (.t 75)) 320014003,⟨none,(.store 1 (.t 76) (.t 74)),none,320014004,[]⟩]) .skip)))))))) (.eL false [q 77 (.bin .add .i64 (.t 33) (.k (.int .i64 1))) 320015000,q 33 (.dq (.t 77)) 320015001]))))))) (.seq (.eL false [q 11 (.dq (.k .cC)) 320016000]) (.seq (.eL false [⟨(some 78),(.mq (.new ⟨false,[.tI]⟩) []),none,320017000,[]⟩,q 12 (.dq (.t 78)) 320017001]) (.seq (.seq (.eL false [q 79 (.dq (.t 5)) 320018000,q 80 (.len (.t 79)) 320018001,q 81 (.dq (.k (.int .i64 0))) 320018002]) (.block 5 (.loop (.seq (.eL false [q 82 (.bin .lss .i64 (.t 81) (.t 80)) 320019000]) (.seq (.cond (.t 82) .skip (.exit 5)) (.seq (.block 6 (.seq (.eL false [q 83 (.dq (.t 81)) 320020000,q 84 (.dQ 1 (.t 79) (.t 81)) 320020001,q 85 (.load false 1 (.t 84)) 320020002,q 13 (.dq (.t 83)) 320020003,q 14 (.dq (.t 85)) 320020004]) (.seq (.eL false [q 87 (.dq (.t 12)) 320021000,q 88 (.dq (.t 14)) 320021001,q 89 (.call 334 [(.t 88)]) 320021002,q 90 (.Bi (.t 89)) 320021003,q 91 (.fW 1 (.t 90)) 320021004,q 92 (.load false 1 (.t 91)) 320021005,⟨(some 93),(.mq (.look ⟨false,[.tI]⟩ true (.int .i64 0)) [(.t 87),(.t 92)]),none,320021006,[]⟩,q 86 (.dq (.t 93)) 320021007,q 94 (.extract 0 (.t 86)) 320021008,q 95 (.extract 1 (.t 86)) 320021009,q 15 (.dq (.t 94)) 320021010,q 16 (.dq (.t 95)) 320021011]) (.seq (.seq (.eL false [q 96 (.dq (.t 16)) 320022000,q 97 (.not (.t 96)) 320022001]) (.cond (.t 97) (.seq (.eL false [q 98 (.dq (.t 11)) 320023000,q 99 (.len (.t 98)) 320023001,q 15 (.dq (.t 99)) 320023002]) (.seq (.eL false [q 100 (.dq (.t 12)) 320024000,q 101 (.dq (.t 13)) 320024001,q 102 (.dq (.t 15)) 320024002,⟨none,(.mw (.set ⟨false,[.tI]⟩) [(.t 100),(.t 101),(.t 102)]),none,320024003,[]⟩]) (.eL false [q 103 (.dq (.t 11)) 320025000,q 104 (.mh 1 1 [(.k .cC)]) 320025001,q 105 (.append 1 (.t 103) (.t 104)) 320025002,q 11 (.dq (.t 105)) 320025003]))) .skip)) (.eL false [q 106 (.dq (.t 11)) 320026000,q 107 (.dq (.t 15)) 320026001,q 108 (.dq (.t 11)) 320026002,q 109 (.dq (.t 15)) 320026003,q 110 (.dQ 1 (.t 108) (.t 109)) 320026004,q 111 (.load false 1 (.t 110)) 320026005,q 112 (.dq (.t 13)) 320026006,q 113 (.mh 1 1 [(.t 112)]) 320026007,q 114 (.append 1 (.t 111) (.t 113)) 320026008,q 115 (.dQ 1 (.t 106) (.t 107)) 320026009,⟨none,(.store 1 (.t 115) (.t 114)),none,320026010,[]⟩]))))) (.eL false [q 116 (.bin .add .i64 (.t 81) (.k (.int .i64 1))) 320027000,q 81 (.dq (.t 116)) 320027001]))))))) (.seq (.eL false [q 117 (.dq (.t 11)) 320028000,q 4 (.dq (.t 117)) 320028001]) .ret)))))))),[(.tmp 4)]⟩
theorem Oa:yh Tryz.prog 320 [(10,2)]=some PN:=by kernel_rfl
end Go.Proofs.YtgoljkjaameagaaGreat.V

namespace Go.Proofs.YtgoljkjaameagaaGreat.V
open Go.RowKit
attribute [local irreducible] dL wpOps gC Call
attribute [local go_sem] aO fM eS ga fZ cU upd cD K.av cR AV.cells AV.cell rowOf rowsOf part ld rowAt bt cw dG ei iu bK dm eB fY e6 dt ep di dh dV dW bU bd cZ bQ db da ek er eo cY ck dj ej bP aQ dd cJ iq br cN bV aZ dr bc dH AV.undef bF bJ dX eh dR dO cK eA eC cI ev eu dc de List.getD_cons_zero List.getD_cons_succ List.getD_nil List.all_cons List.all_nil Bool.and_true Bool.true_and Bool.and_self Bool.not_true Bool.not_false Option.map_some Option.map_none Option.bind_some Option.bind_none List.length_cons List.length_nil List.take_succ_cons List.take_zero List.take_nil List.drop_succ_cons List.drop_zero List.drop_nil List.head?_cons List.map_cons List.map_nil List.getElem?_cons_zero List.getElem?_cons_succ List.cons_append List.nil_append List.append_nil List.length_map List.set_cons_zero List.set_cons_succ Nat.reduceMul eq_self Int.toNat_natCast Int.natCast_nonneg and_self true_and and_true decide_true decide_false Bool.false_eq_true Nat.zero_add Nat.add_zero List.contains_cons List.contains_nil Bool.or_false Bool.false_or beq_self_eq_true Nat.reduceBEq ne_eq not_true_eq_false not_false_eq_true Id.mk.injEq false_and and_false Nat.reduceLT Int.reduceLE Int.reduceLT Int.reduceToNat Int.reduceNeg Int.reduceAdd Nat.le_refl List.length_append beq_true beq_false Bool.not_eq_eq_eq_not or_false false_or dP ai aq aI bh bE cz aY bl aV bf cW bH
theorem B3 (x:fF) (g:Rows):cV g 6 [.agg (cj x)]=some [.agg (cj x)]:=by simp[cj,ai,aq,bl,bE,aI]
theorem B4 (x:eU) (g:Rows):cV g 6 [.agg (bG x)]=some [.agg (bG x)]:=by simp[bG,ai,aq,bl,bE,cz]
theorem wR (x:ad) (g:Rows):cV g 6 [.agg (aa x)]=some [.agg (aa x)]:=by simp[aa,ai,aq,bl,aI]
theorem iy {n:Nat} {l:Int} (h:(n:Int)<=l):yF n l=l-n:=if_pos h
theorem iC {n:Nat} {l:Int} (h:¬(n:Int)<=l):yF n l= -1:=if_neg h
def kK (t:eU):Nat:=t.aE.size+t.bx.length
def vk (s:aw):Nat:=(s.ay.length+(s.ay.map fun g=>g.aE.size).sum)+(s.ae.length+(s.ae.map kK).sum)
def s7 (s:ax):Nat:=vk s.aD+s.aX.ae.length
def gF (s:aw):Prop:=(∀g∈s.ay,g.aE.size<=9223372036854775807)/\∀t∈s.ae,t.aE.size<=9223372036854775807
theorem Kt (g:fF) (l:Int) (h0:0<=l) (h1:l<=1048576) (hs:g.aE.size<=9223372036854775807):aj Tryz.prog 187 [.agg (cj g),.int .i64 l] (.int .i64 (yF g.aE.size l)):=by
 refine aj.body eI rfl fun hl n0=>?_
 clear hl
 have hw:IntKind.i64.wrap (l-(g.aE.size:Int))=l-g.aE.size:=bz (by omega)
 by_cases hf:(g.aE.size:Int)<=l
 ·have j9:¬l-(g.aE.size:Int)<0:=by omega
  (try((repeat(revert hN;revert N;apply Pn.out));refine wk (tw @cj.eq_1 (tw @hw @j9)) ?_;(repeat(refine Pn.mk ?_;intro N hN))))
  exact cr (b:=l-(g.aE.size:Int)) (.inl rfl) (sd @Nat.zero_add) (iy hf).symm
 ·have j9:l-(g.aE.size:Int)<0:=by omega
  (try((repeat(revert hN;revert N;apply Pn.out));refine wk (tw @cj.eq_1 (tw @hw @j9)) ?_;(repeat(refine Pn.mk ?_;intro N hN))))
  exact cr (b:=-1) (.inl rfl) (sd @Nat.zero_add) (iC hf).symm
theorem Ku (xs:List Int) (l:Int) (h0:0<=l) (h1:l<=1048576):aj Tryz.prog 140 [.sl (xs.map bq),.int .i64 l] (.int .i64 (yF xs.length l)):=by
 have h:=Kw (show mz Tryz.prog 140=some (Kv 140) by kernel_rfl) (xs.map bq) l h0 h1
 rwa [List.length_map]at h
theorem Kz (t:eU) (l:Int) (h0:0<=l) (h1:l<=1048576) (hs:t.aE.size<=9223372036854775807):aj Tryz.prog 188 [.agg (bG t),.int .i64 l] (.int .i64 (yF (kK t) l)):=by
 refine aj.body eI rfl fun hl n0=>?_
 clear hl
 have hw:IntKind.i64.wrap (l-(t.aE.size:Int))=l-t.aE.size:=bz (by omega)
 by_cases hf:(t.aE.size:Int)<=l
 ·have j9:¬l-(t.aE.size:Int)<0:=by omega
  have hc:=Ku t.bx (l-t.aE.size) (by omega) (by omega)
  by_cases hg:(t.bx.length:Int)<=l-t.aE.size
  ·rw[iy hg]at hc
   have Ai:¬l-(t.aE.size:Int)-(t.bx.length:Int)<0:=by omega
   (repeat(first|((repeat(revert hN;revert N;apply Pn.out));refine wk (tw @bG.eq_1 (tw @hw (tw @j9 @Ai))) ?_;(repeat(refine Pn.mk ?_;intro N hN)))|((try apply Or.inl);refine⟨_,aj.x (hc) (sd (tw @bG.eq_1 (tw @hw (tw @j9 @Ai)))),?_⟩;refine hN _ _ ?_;clear hN N)))
   exact cr (b:=l-(t.aE.size:Int)-(t.bx.length:Int)) (.inl rfl) (sd @Nat.zero_add) (by rw[iy (by unfold kK;omega)];unfold kK;omega)
  ·rw[iC hg]at hc
   (repeat(first|((repeat(revert hN;revert N;apply Pn.out));refine wk (tw @bG.eq_1 (tw @hw @j9)) ?_;(repeat(refine Pn.mk ?_;intro N hN)))|((try apply Or.inl);refine⟨_,aj.x (hc) (sd (tw @bG.eq_1 (tw @hw @j9))),?_⟩;refine hN _ _ ?_;clear hN N)))
   exact cr (b:=-1) (.inl rfl) (sd @Nat.zero_add) (iC (by unfold kK;omega)).symm
 ·have j9:l-(t.aE.size:Int)<0:=by omega
  (try((repeat(revert hN;revert N;apply Pn.out));refine wk (tw @bG.eq_1 (tw @hw @j9)) ?_;(repeat(refine Pn.mk ?_;intro N hN))))
  exact cr (b:=-1) (.inl rfl) (sd @Nat.zero_add) (iC (by unfold kK;omega)).symm
theorem HC (xs:List fF) (l:Int) (h0:0<=l) (h1:l<=1048576) (hs:∀g∈xs,g.aE.size<=9223372036854775807):aj Tryz.prog 120 [.sl (xs.map cj),.int .i64 l] (.int .i64 (yF (xs.length+(xs.map fun g=>g.aE.size).sum) l)):=
 Ky (fun g:fF=>g.aE.size) (show mz Tryz.prog 120=some (Kx 120 187 2) by kernel_rfl) (fun _=>rfl) B3 xs l h0 h1 fun x hx l a b=>Kt x l a b (hs x hx)
theorem HD (xs:List eU) (l:Int) (h0:0<=l) (h1:l<=1048576) (hs:∀t∈xs,t.aE.size<=9223372036854775807):aj Tryz.prog 121 [.sl (xs.map bG),.int .i64 l] (.int .i64 (yF (xs.length+(xs.map kK).sum) l)):=
 Ky kK (show mz Tryz.prog 121=some (Kx 121 188 2) by kernel_rfl) (fun _=>rfl) B4 xs l h0 h1 fun x hx l a b=>Kz x l a b (hs x hx)
theorem EZ (xs:List ad) (l:Int) (h0:0<=l) (h1:l<=1048576):aj Tryz.prog 76 [.sl (xs.map aa),.int .i64 l] (.int .i64 (yF xs.length l)):=by
 have h:=Kw (show mz Tryz.prog 76=some (Kv 76) by kernel_rfl) (xs.map aa) l h0 h1
 rwa [List.length_map]at h
theorem C1 (s:aw) (l:Int) (h0:0<=l) (h1:l<=1048576) (hs:gF s):aj Tryz.prog 61 [.agg (ab s),.int .i64 l] (.int .i64 (yF (vk s) l)):=by
 refine aj.body eI rfl fun hl n0=>?_
 clear hl
 have ha:=HC s.ay l h0 h1 hs.1
 have he:vk s=(s.ay.length+(s.ay.map fun g=>g.aE.size).sum)+(s.ae.length+(s.ae.map kK).sum):=rfl
 by_cases hf:((s.ay.length+(s.ay.map fun g=>g.aE.size).sum:Nat):Int)<=l
 ·rw[iy hf]at ha
  obtain⟨A,hA⟩:∃A:Int,A=l-((s.ay.length+(s.ay.map fun g=>g.aE.size).sum:Nat):Int):=⟨_,rfl⟩
  rw[<-hA]at ha
  have j9:¬A<0:=by omega
  have hb:=HD s.ae A (by omega) (by omega) hs.2
  by_cases hg:((s.ae.length+(s.ae.map kK).sum:Nat):Int)<=A
  ·rw[iy hg]at hb
   obtain⟨B,hB⟩:∃B:Int,B=A-((s.ae.length+(s.ae.map kK).sum:Nat):Int):=⟨_,rfl⟩
   rw[<-hB]at hb
   have Ai:¬B<0:=by omega
   (repeat(first|((repeat(revert hN;revert N;apply Pn.out));refine wk (tw @ab.eq_1 (tw @j9 @Ai)) ?_;(repeat(refine Pn.mk ?_;intro N hN)))|((try apply Or.inl);refine⟨_,aj.x (ha) (sd (tw @ab.eq_1 (tw @j9 @Ai))),?_⟩;refine hN _ _ ?_;clear hN N)|((try apply Or.inl);refine⟨_,aj.x (hb) (sd (tw @ab.eq_1 (tw @j9 @Ai))),?_⟩;refine hN _ _ ?_;clear hN N)))
   exact cr (b:=B) (.inl rfl) (sd @Nat.zero_add) (by rw[iy (by omega)];omega)
  ·rw[iC hg]at hb
   (repeat(first|((repeat(revert hN;revert N;apply Pn.out));refine wk (tw @ab.eq_1 @j9) ?_;(repeat(refine Pn.mk ?_;intro N hN)))|((try apply Or.inl);refine⟨_,aj.x (ha) (sd (tw @ab.eq_1 @j9)),?_⟩;refine hN _ _ ?_;clear hN N)|((try apply Or.inl);refine⟨_,aj.x (hb) (sd (tw @ab.eq_1 @j9)),?_⟩;refine hN _ _ ?_;clear hN N)))
   exact cr (b:=-1) (.inl rfl) (sd @Nat.zero_add) (iC (by omega)).symm
 ·rw[iC hf]at ha
  (repeat(first|((repeat(revert hN;revert N;apply Pn.out));refine wk @ab.eq_1 ?_;(repeat(refine Pn.mk ?_;intro N hN)))|((try apply Or.inl);refine⟨_,aj.x (ha) (sd @ab.eq_1),?_⟩;refine hN _ _ ?_;clear hN N)))
  exact cr (b:=-1) (.inl rfl) (sd @Nat.zero_add) (iC (by omega)).symm
theorem nK (a:dM) (l:Int) (h0:0<=l) (h1:l<=1048576):aj Tryz.prog 14 [.agg (aC a),.int .i64 l] (.int .i64 (yF a.ae.length l)):=by
 refine aj.body eI rfl fun hl n0=>?_
 clear hl
 have ha:=EZ a.ae l h0 h1
 by_cases hf:(a.ae.length:Int)<=l
 ·rw[iy hf]at ha
  have j9:¬l-(a.ae.length:Int)<0:=by omega
  (repeat(first|((repeat(revert hN;revert N;apply Pn.out));refine wk (tw @aC.eq_1 @j9) ?_;(repeat(refine Pn.mk ?_;intro N hN)))|((try apply Or.inl);refine⟨_,aj.x (ha) (sd (tw @aC.eq_1 @j9)),?_⟩;refine hN _ _ ?_;clear hN N)))
  exact cr (b:=l-(a.ae.length:Int)) (.inl rfl) (sd @Nat.zero_add) (iy hf).symm
 ·rw[iC hf]at ha
  (repeat(first|((repeat(revert hN;revert N;apply Pn.out));refine wk @aC.eq_1 ?_;(repeat(refine Pn.mk ?_;intro N hN)))|((try apply Or.inl);refine⟨_,aj.x (ha) (sd @aC.eq_1),?_⟩;refine hN _ _ ?_;clear hN N)))
  exact cr (b:=-1) (.inl rfl) (sd @Nat.zero_add) (iC hf).symm
theorem E0 (s:ax) (l:Int) (h0:0<=l) (h1:l<=1048576) (hs:gF s.aD):aj Tryz.prog 13 [.agg (au s),.int .i64 l] (.int .i64 (yF (s7 s) l)):=by
 refine aj.body eI rfl fun hl n0=>?_
 clear hl
 have ha:=C1 s.aD l h0 h1 hs
 rw[ab]at ha
 have he:s7 s=vk s.aD+s.aX.ae.length:=rfl
 by_cases hf:(vk s.aD:Int)<=l
 ·rw[iy hf]at ha
  have j9:¬l-(vk s.aD:Int)<0:=by omega
  have hb:=nK s.aX (l-vk s.aD) (by omega) (by omega)
  rw[aC]at hb
  by_cases hg:(s.aX.ae.length:Int)<=l-vk s.aD
  ·rw[iy hg]at hb
   have Ai:¬l-(vk s.aD:Int)-(s.aX.ae.length:Int)<0:=by omega
   (repeat(first|((repeat(revert hN;revert N;apply Pn.out));refine wk (tw @au.eq_1 (tw @j9 @Ai)) ?_;(repeat(refine Pn.mk ?_;intro N hN)))|((try apply Or.inl);refine⟨_,aj.x (ha) (sd (tw @au.eq_1 (tw @j9 @Ai))),?_⟩;refine hN _ _ ?_;clear hN N)|((try apply Or.inl);refine⟨_,aj.x (hb) (sd (tw @au.eq_1 (tw @j9 @Ai))),?_⟩;refine hN _ _ ?_;clear hN N)))
   exact cr (b:=l-(vk s.aD:Int)-(s.aX.ae.length:Int)) (.inl rfl) (sd @Nat.zero_add) (by rw[iy (by omega)];omega)
  ·rw[iC hg]at hb
   (repeat(first|((repeat(revert hN;revert N;apply Pn.out));refine wk (tw @au.eq_1 @j9) ?_;(repeat(refine Pn.mk ?_;intro N hN)))|((try apply Or.inl);refine⟨_,aj.x (ha) (sd (tw @au.eq_1 @j9)),?_⟩;refine hN _ _ ?_;clear hN N)|((try apply Or.inl);refine⟨_,aj.x (hb) (sd (tw @au.eq_1 @j9)),?_⟩;refine hN _ _ ?_;clear hN N)))
   exact cr (b:=-1) (.inl rfl) (sd @Nat.zero_add) (iC (by omega)).symm
 ·rw[iC hf]at ha
  (repeat(first|((repeat(revert hN;revert N;apply Pn.out));refine wk @au.eq_1 ?_;(repeat(refine Pn.mk ?_;intro N hN)))|((try apply Or.inl);refine⟨_,aj.x (ha) (sd @au.eq_1),?_⟩;refine hN _ _ ?_;clear hN N)))
  exact cr (b:=-1) (.inl rfl) (sd @Nat.zero_add) (iC (by omega)).symm
theorem ME (x:fF) (g:Rows):cV g 5 (cj x)=some (cj x):=by simp[cj,ai,aq,bE,aI]
theorem MF (x:eU) (g:Rows):cV g 5 (bG x)=some (bG x):=by simp[bG,ai,aq,bE,cz]
theorem Ho (x:ad) (g:Rows):cV g 5 (aa x)=some (aa x):=by simp[aa,ai,aq,aI]
theorem zL (p:aH):kq Tryz.prog 109 [.agg (ah p)] (.agg (ah p)):=by
 refine kq.body eI rfl fun hl σ=>?_
 clear hl
 (try((repeat(revert hN;revert N;apply Pn.out));refine wk @ah.eq_1 ?_;(repeat(refine Pn.mk ?_;intro N hN))))
 exact yD (.inl rfl) (vs:=[.agg (ah p)]) (by simp only[go_sem, ↓reduceIte,Nat.reduceEqDiff,Nat.reduceAdd,Nat.reduceSub,Nat.reduceLeDiff,reduceCtorEq,fA,iD,ah]) (by simp[fj,ah,bl,ai,aq,aI])
theorem E6 (p:ad):kq Tryz.prog 149 [.agg (aa p)] (.agg (aa p)):=by
 refine kq.body eI rfl fun hl σ=>?_
 clear hl
 have h:=zL p.aP
 rw[ah]at h
 (repeat(first|((repeat(revert hN;revert N;apply Pn.out));refine wk @aa.eq_1 ?_;(repeat(refine Pn.mk ?_;intro N hN)))|((try apply Or.inl);refine⟨_,kq.x (h) _,?_⟩;refine hN _ _ ?_;clear hN N)))
 exact yD (.inl rfl) (vs:=[.agg (aa p)]) (by simp only[go_sem, ↓reduceIte,Nat.reduceEqDiff,Nat.reduceAdd,Nat.reduceSub,Nat.reduceLeDiff,reduceCtorEq,fA,iD,aa]) (by simp[fj,aa,bl,ai,aq,aI])
theorem KH (p:fF):kq Tryz.prog 197 [.agg (cj p)] (.agg (cj p)):=by
 refine kq.body eI rfl fun hl σ=>?_
 clear hl
 (try((repeat(revert hN;revert N;apply Pn.out));refine wk @cj.eq_1 ?_;(repeat(refine Pn.mk ?_;intro N hN))))
 exact yD (.inl rfl) (vs:=[.agg (cj p)]) (by simp only[go_sem, ↓reduceIte,Nat.reduceEqDiff,Nat.reduceAdd,Nat.reduceSub,Nat.reduceLeDiff,reduceCtorEq,fA,iD,cj]) (by simp[fj,cj,bl,ai,aq,aI,bE])
theorem KJ (xs:List Int) (h:xs.length<=1048576):kq Tryz.prog 17 [.sl (xs.map bq)] (.sl (xs.map bq)):=
 Sp (show mz Tryz.prog 17=some (KK 17 (.int .i64 0)) by kernel_rfl) xs h
def th (t:eU):Prop:=t.bx.length<=1048576
theorem KM (p:eU) (hs:th p):kq Tryz.prog 198 [.agg (bG p)] (.agg (bG p)):=by
 refine kq.body eI rfl fun hl σ=>?_
 clear hl
 have h:=KJ p.bx hs
 (repeat(first|((repeat(revert hN;revert N;apply Pn.out));refine wk @bG.eq_1 ?_;(repeat(refine Pn.mk ?_;intro N hN)))|((try apply Or.inl);refine⟨_,kq.x (h) _,?_⟩;refine hN _ _ ?_;clear hN N)))
 exact yD (.inl rfl) (vs:=[.agg (bG p)]) (by simp only[go_sem, ↓reduceIte,Nat.reduceEqDiff,Nat.reduceAdd,Nat.reduceSub,Nat.reduceLeDiff,reduceCtorEq,fA,iD,bG]) (by simp[fj,bG,bl,ai,aq,cz,bE])
theorem IM (xs ys:List Int):aj Tryz.prog 20 [.sl (xs.map bq),.sl (ys.map bq)] (.bool (decide (xs=ys))):=
 QZ (show mz Tryz.prog 20=some (Nd 20 .tI) by kernel_rfl) xs ys
theorem IQ (a b:eU):aj Tryz.prog 212 [.agg (bG a),.agg (bG b)] (.bool (decide (a=b))):=by
 refine aj.body eI rfl fun hl n0=>?_
 clear hl
 have h:=IM a.bx b.bx
 by_cases h1:a.aE=b.aE
 ·have e1:decide (a.aE=b.aE)=true:=decide_eq_true h1
  by_cases h2:a.bx=b.bx
  ·rw[decide_eq_true h2]at h
   (repeat(first|((repeat(revert hN;revert N;apply Pn.out));refine wk (tw @bG.eq_1 @e1) ?_;(repeat(refine Pn.mk ?_;intro N hN)))|((try apply Or.inl);refine⟨_,aj.x (h) (sd (tw @bG.eq_1 @e1)),?_⟩;refine hN _ _ ?_;clear hN N)))
   exact aU (b:=true) (.inl rfl) (sd @Nat.zero_add) (decide_eq_true (by cases a;cases b;simp_all)).symm
  ·rw[decide_eq_false h2]at h
   (repeat(first|((repeat(revert hN;revert N;apply Pn.out));refine wk (tw @bG.eq_1 @e1) ?_;(repeat(refine Pn.mk ?_;intro N hN)))|((try apply Or.inl);refine⟨_,aj.x (h) (sd (tw @bG.eq_1 @e1)),?_⟩;refine hN _ _ ?_;clear hN N)))
   exact aU (b:=false) (.inl rfl) (sd @Nat.zero_add) (decide_eq_false (by rintro rfl;exact h2 rfl)).symm
 ·have e1:decide (a.aE=b.aE)=false:=decide_eq_false h1
  (try((repeat(revert hN;revert N;apply Pn.out));refine wk (tw @bG.eq_1 @e1) ?_;(repeat(refine Pn.mk ?_;intro N hN))))
  exact aU (b:=false) (.inl rfl) (sd @Nat.zero_add) (decide_eq_false (by rintro rfl;exact h1 rfl)).symm
theorem HJ (xs:List fF) (h:xs.length<=1048576):kq Tryz.prog 129 [.sl (xs.map cj)] (.sl (xs.map cj)):=
 E7 (show mz Tryz.prog 129=some (uN 129 197 2 [.str [],.int .i64 0]) by kernel_rfl) rfl (fun _=>rfl) (fun _=>rfl) ME xs h fun x _=>KH x
theorem HL (xs:List eU) (h:xs.length<=1048576) (hs:∀t∈xs,th t):kq Tryz.prog 130 [.sl (xs.map bG)] (.sl (xs.map bG)):=
 E7 (show mz Tryz.prog 130=some (uN 130 198 2 [.str [],.cC]) by kernel_rfl) rfl (fun _=>rfl) (fun _=>rfl) MF xs h fun x hx=>KM x (hs x hx)
theorem C4 (xs:List ad) (h:xs.length<=1048576):kq Tryz.prog 80 [.sl (xs.map aa)] (.sl (xs.map aa)):=
 E7 (show mz Tryz.prog 80=some (uN 80 149 3 [.int .i64 0,.int .i64 0,.int .i64 0]) by kernel_rfl) rfl (fun _=>rfl) (fun _=>rfl) Ho xs h fun x _=>E6 x
structure Ik (s:aw):Prop where
 g:s.ay.length<=1048576
 t:s.ae.length<=1048576
 s:∀t∈s.ae,th t
structure ui (y:ax):Prop where
 s:Ik y.aD
 a:y.aX.ae.length<=1048576
theorem C6 (p:aw) (hs:Ik p):kq Tryz.prog 63 [.agg (ab p)] (.agg (ab p)):=by
 refine kq.body eI rfl fun hl σ=>?_
 clear hl
 have h1:=HJ p.ay hs.g
 have h2:=HL p.ae hs.t hs.s
 (repeat(first|((repeat(revert hN;revert N;apply Pn.out));refine wk @ab.eq_1 ?_;(repeat(refine Pn.mk ?_;intro N hN)))|((try apply Or.inl);refine⟨_,kq.x (h1) _,?_⟩;refine hN _ _ ?_;clear hN N)|((try apply Or.inl);refine⟨_,kq.x (h2) _,?_⟩;refine hN _ _ ?_;clear hN N)))
 exact yD (.inl rfl) (vs:=[.agg (ab p)]) (by simp only[go_sem, ↓reduceIte,Nat.reduceEqDiff,Nat.reduceAdd,Nat.reduceSub,Nat.reduceLeDiff,reduceCtorEq,fA,iD,ab]) (by simp[fj,ab,bl,ai,aq,cz])
theorem nP (p:dM) (hs:p.ae.length<=1048576):kq Tryz.prog 18 [.agg (aC p)] (.agg (aC p)):=by
 refine kq.body eI rfl fun hl σ=>?_
 clear hl
 have h1:=C4 p.ae hs
 (repeat(first|((repeat(revert hN;revert N;apply Pn.out));refine wk @aC.eq_1 ?_;(repeat(refine Pn.mk ?_;intro N hN)))|((try apply Or.inl);refine⟨_,kq.x (h1) _,?_⟩;refine hN _ _ ?_;clear hN N)))
 exact yD (.inl rfl) (vs:=[.agg (aC p)]) (by simp only[go_sem, ↓reduceIte,Nat.reduceEqDiff,Nat.reduceAdd,Nat.reduceSub,Nat.reduceLeDiff,reduceCtorEq,fA,iD,aC]) (by simp[fj,aC,bl,ai,aq,cz])
theorem E9 (p:ax) (hs:ui p):kq Tryz.prog 16 [.agg (au p)] (.agg (au p)):=by
 refine kq.body eI rfl fun hl σ=>?_
 clear hl
 have h1:=C6 p.aD hs.s
 have h2:=nP p.aX hs.a
 rw[ab]at h1
 rw[aC]at h2
 (repeat(first|((repeat(revert hN;revert N;apply Pn.out));refine wk @au.eq_1 ?_;(repeat(refine Pn.mk ?_;intro N hN)))|((try apply Or.inl);refine⟨_,kq.x (h1) _,?_⟩;refine hN _ _ ?_;clear hN N)|((try apply Or.inl);refine⟨_,kq.x (h2) _,?_⟩;refine hN _ _ ?_;clear hN N)))
 exact yD (.inl rfl) (vs:=[.agg (au p)]) (by simp only[go_sem, ↓reduceIte,Nat.reduceEqDiff,Nat.reduceAdd,Nat.reduceSub,Nat.reduceLeDiff,reduceCtorEq,fA,iD,au]) (by simp[fj,au,bl,ai,aq,cz,aI])
theorem IL (a b:fF):aj Tryz.prog 211 [.agg (cj a),.agg (cj b)] (.bool (decide (a=b))):=by
 refine aj.body eI rfl fun hl n0=>?_
 clear hl
 by_cases h1:a.aE=b.aE
 ·have e1:decide (a.aE=b.aE)=true:=decide_eq_true h1
  by_cases h2:a.eD=b.eD
  ·have e2:decide (a.eD=b.eD)=true:=decide_eq_true h2
   (try((repeat(revert hN;revert N;apply Pn.out));refine wk (tw @cj.eq_1 (tw @e1 @e2)) ?_;(repeat(refine Pn.mk ?_;intro N hN))))
   exact aU (b:=true) (.inl rfl) (sd @Nat.zero_add) (decide_eq_true (by cases a;cases b;simp_all)).symm
  ·have e2:decide (a.eD=b.eD)=false:=decide_eq_false h2
   (try((repeat(revert hN;revert N;apply Pn.out));refine wk (tw @cj.eq_1 (tw @e1 @e2)) ?_;(repeat(refine Pn.mk ?_;intro N hN))))
   exact aU (b:=false) (.inl rfl) (sd @Nat.zero_add) (decide_eq_false (by rintro rfl;exact h2 rfl)).symm
 ·have e1:decide (a.aE=b.aE)=false:=decide_eq_false h1
  (try((repeat(revert hN;revert N;apply Pn.out));refine wk (tw @cj.eq_1 @e1) ?_;(repeat(refine Pn.mk ?_;intro N hN))))
  exact aU (b:=false) (.inl rfl) (sd @Nat.zero_add) (decide_eq_false (by rintro rfl;exact h1 rfl)).symm
theorem yW (a b:aH):aj Tryz.prog 112 [.agg (ah a),.agg (ah b)] (.bool (decide (a=b))):=by
 refine aj.body eI rfl fun hl n0=>?_
 clear hl
 by_cases h1:a.fb=b.fb
 ·have e1:decide (a.fb=b.fb)=true:=decide_eq_true h1
  by_cases h2:a.eV=b.eV
  ·have e2:decide (a.eV=b.eV)=true:=decide_eq_true h2
   (try((repeat(revert hN;revert N;apply Pn.out));refine wk (tw @ah.eq_1 (tw @e1 @e2)) ?_;(repeat(refine Pn.mk ?_;intro N hN))))
   exact aU (b:=true) (.inl rfl) (sd @Nat.zero_add) (decide_eq_true (by cases a;cases b;simp_all)).symm
  ·have e2:decide (a.eV=b.eV)=false:=decide_eq_false h2
   (try((repeat(revert hN;revert N;apply Pn.out));refine wk (tw @ah.eq_1 (tw @e1 @e2)) ?_;(repeat(refine Pn.mk ?_;intro N hN))))
   exact aU (b:=false) (.inl rfl) (sd @Nat.zero_add) (decide_eq_false (by rintro rfl;exact h2 rfl)).symm
 ·have e1:decide (a.fb=b.fb)=false:=decide_eq_false h1
  (try((repeat(revert hN;revert N;apply Pn.out));refine wk (tw @ah.eq_1 @e1) ?_;(repeat(refine Pn.mk ?_;intro N hN))))
  exact aU (b:=false) (.inl rfl) (sd @Nat.zero_add) (decide_eq_false (by rintro rfl;exact h1 rfl)).symm
theorem DI (a b:ad):aj Tryz.prog 119 [.agg (aa a),.agg (aa b)] (.bool (decide (a=b))):=by
 refine aj.body eI rfl fun hl n0=>?_
 clear hl
 have h:=yW a.aP b.aP
 rw[ah,ah]at h
 by_cases h1:a.aP=b.aP
 ·rw[decide_eq_true h1]at h
  by_cases h2:a.aT=b.aT
  ·have e2:decide (a.aT=b.aT)=true:=decide_eq_true h2
   (repeat(first|((repeat(revert hN;revert N;apply Pn.out));refine wk (tw @aa.eq_1 @e2) ?_;(repeat(refine Pn.mk ?_;intro N hN)))|((try apply Or.inl);refine⟨_,aj.x (h) (sd (tw @aa.eq_1 @e2)),?_⟩;refine hN _ _ ?_;clear hN N)))
   exact aU (b:=true) (.inl rfl) (sd @Nat.zero_add) (decide_eq_true (by cases a;cases b;simp_all)).symm
  ·have e2:decide (a.aT=b.aT)=false:=decide_eq_false h2
   (repeat(first|((repeat(revert hN;revert N;apply Pn.out));refine wk (tw @aa.eq_1 @e2) ?_;(repeat(refine Pn.mk ?_;intro N hN)))|((try apply Or.inl);refine⟨_,aj.x (h) (sd (tw @aa.eq_1 @e2)),?_⟩;refine hN _ _ ?_;clear hN N)))
   exact aU (b:=false) (.inl rfl) (sd @Nat.zero_add) (decide_eq_false (by rintro rfl;exact h2 rfl)).symm
 ·rw[decide_eq_false h1]at h
  (repeat(first|((repeat(revert hN;revert N;apply Pn.out));refine wk @aa.eq_1 ?_;(repeat(refine Pn.mk ?_;intro N hN)))|((try apply Or.inl);refine⟨_,aj.x (h) (sd @aa.eq_1),?_⟩;refine hN _ _ ?_;clear hN N)))
  exact aU (b:=false) (.inl rfl) (sd @Nat.zero_add) (decide_eq_false (by rintro rfl;exact h1 rfl)).symm
theorem GB (xs ys:List fF):aj Tryz.prog 136 [.sl (xs.map cj),.sl (ys.map cj)] (.bool (decide (xs=ys))):=
 z6 (show mz Tryz.prog 136=some (BT 136 211 2) by kernel_rfl) (fun _=>rfl) B3 xs ys IL
theorem GC (xs ys:List eU):aj Tryz.prog 137 [.sl (xs.map bG),.sl (ys.map bG)] (.bool (decide (xs=ys))):=
 z6 (show mz Tryz.prog 137=some (BT 137 212 2) by kernel_rfl) (fun _=>rfl) B4 xs ys IQ
theorem uq (xs ys:List ad):aj Tryz.prog 58 [.sl (xs.map aa),.sl (ys.map aa)] (.bool (decide (xs=ys))):=
 z6 (show mz Tryz.prog 58=some (BT 58 119 3) by kernel_rfl) (fun _=>rfl) wR xs ys DI
theorem DJ (a:ax):aj Tryz.prog 21 [.agg (au a),.agg (au a)] (.bool true):=by
 have q1:aj Tryz.prog 66 [.agg (ab a.aD),.agg (ab a.aD)] (.bool true):=by
  refine aj.body eI rfl fun hl n0=>?_
  clear hl
  have h1:=GB a.aD.ay a.aD.ay
  have h2:=GC a.aD.ae a.aD.ae
  rw[decide_eq_true rfl]at h1 h2
  (repeat(first|((repeat(revert hN;revert N;apply Pn.out));refine wk @ab.eq_1 ?_;(repeat(refine Pn.mk ?_;intro N hN)))|((try apply Or.inl);refine⟨_,aj.x (h1) (sd @ab.eq_1),?_⟩;refine hN _ _ ?_;clear hN N)|((try apply Or.inl);refine⟨_,aj.x (h2) (sd @ab.eq_1),?_⟩;refine hN _ _ ?_;clear hN N)))
  exact aU (b:=true) (.inl rfl) (sd @Nat.zero_add) rfl
 have q2:aj Tryz.prog 22 [.agg (aC a.aX),.agg (aC a.aX)] (.bool true):=by
  refine aj.body eI rfl fun hl n0=>?_
  clear hl
  have h1:=uq a.aX.ae a.aX.ae
  rw[decide_eq_true rfl]at h1
  (repeat(first|((repeat(revert hN;revert N;apply Pn.out));refine wk @aC.eq_1 ?_;(repeat(refine Pn.mk ?_;intro N hN)))|((try apply Or.inl);refine⟨_,aj.x (h1) (sd @aC.eq_1),?_⟩;refine hN _ _ ?_;clear hN N)))
  exact aU (b:=true) (.inl rfl) (sd @Nat.zero_add) rfl
 rw[ab]at q1
 rw[aC]at q2
 refine aj.body eI rfl fun hl n0=>?_
 clear hl
 have e:decide (a.aA=a.aA)=true:=decide_eq_true rfl
 (repeat(first|((repeat(revert hN;revert N;apply Pn.out));refine wk (tw @au.eq_1 @e) ?_;(repeat(refine Pn.mk ?_;intro N hN)))|((try apply Or.inl);refine⟨_,aj.x (q1) (sd (tw @au.eq_1 @e)),?_⟩;refine hN _ _ ?_;clear hN N)|((try apply Or.inl);refine⟨_,aj.x (q2) (sd (tw @au.eq_1 @e)),?_⟩;refine hN _ _ ?_;clear hN N)))
 exact aU (b:=true) (.inl rfl) (sd @Nat.zero_add) rfl
end Go.Proofs.YtgoljkjaameagaaGreat.V

namespace Go.Proofs.YtgoljkjaameagaaGreat.V
open Go.RowKit
def isApp:gG->Bool
 | .append .. =>true
 |_=>false
variable {P:Program} {X:fN} {K:Env->ar->Prop} {env:Env} {σ:ar}
theorem NO {draw:Bool} {o:bj} {r:List bj} (_:isApp o.op=false) (h:∀N:AV->ar->Prop,(∀v s,wpOps X draw r K (upd env o.dst v) s->N v s)->if aO o.guard env then fM X draw o env σ N else N .undef σ):wpOps X draw (o::r) K env σ:=PS h
end Go.Proofs.YtgoljkjaameagaaGreat.V

namespace Go.Proofs.YtgoljkjaameagaaGreat.V
open Go.RowKit
section
variable {α:Type} {enc:α->List AV} {sz:Nat} {g g':Rows} {a:AV} {xs:List α} {ids:List Id}
end
abbrev Dc (α:Type):=Rows->List AV->α->List Id->Prop
structure x9 {α:Type} (R:Dc α) (sz:Nat):Prop where
 frame:∀{g g':Rows} {cs x ids},R g cs x ids->(∀i∈ids,g' i=g i)->R g' cs x ids
 len:∀{g cs x ids},R g cs x ids->cs.length=sz
 cell:∀{g cs x ids},R g cs x ids->cs.all AV.cell=true
 live:∀{g cs x ids},R g cs x ids->∀i∈ids,∃r,g i=some r/\r.w=true/\r.sz<sF
 small:sz<sF
inductive eK {α:Type} (R:Dc α) (g:Rows):List (List AV)->List α->List Id->Prop
 |nil:eK R g [] [] []
 |cons {cs x i1 rs xs i2}:R g cs x i1->eK R g rs xs i2->eK R g (cs::rs) (x::xs) (i1++i2)
section
variable {α:Type} {R:Dc α} {sz:Nat} {g g':Rows} {rows r1 r2:List (List AV)} {xs x1 x2:List α} {ids i1 i2:List Id}
theorem eK.len (h:eK R g rows xs ids):rows.length=xs.length:=by
 induction h with
 |nil=>rfl
 |cons _ _ ih=>simp[ih]
theorem eK.frame (ok:x9 R sz) (h:eK R g rows xs ids) (hf:∀i∈ids,g' i=g i):eK R g' rows xs ids:=by
 induction h with
 |nil=>exact .nil
 |cons h1 _ ih=>exact .cons (ok.frame h1 fun i hi=>hf i (List.mem_append_left _ hi)) (ih fun i hi=>hf i (List.mem_append_right _ hi))
theorem eK.app (h1:eK R g r1 x1 i1) (h2:eK R g r2 x2 i2):eK R g (r1++r2) (x1++x2) (i1++i2):=by
 induction h1 with
 |nil=>exact h2
 |cons h _ ih=>rw[List.append_assoc];exact .cons h ih
theorem eK.one {cs:List AV} {x:α} (h:R g cs x ids):eK R g [cs] [x] ids:=by
 have:=eK.cons h eK.nil
 rwa [List.append_nil]at this
theorem eK.split (h:eK R g rows xs ids):∀k (hk:k<xs.length),∃r1 cs r2 i1 ic i2,rows=r1++cs::r2/\r1.length=k/\ids=i1++(ic++i2)/\eK R g r1 (xs.take k) i1/\R g cs xs[k] ic/\eK R g r2 (xs.drop (k+1)) i2:=by
 induction h with
 |nil=>intro k hk;simp at hk
 |cons h1 h2 ih=>
  rename_i cs x j1 rs xs j2
  intro k hk
  cases k with
  |zero=>exact⟨[],cs,rs,[],j1,j2,rfl,rfl,rfl,.nil,h1,h2⟩
  |succ k=>
   obtain⟨r1,qz,r2,i1,ic,i2,rfl,hl,rfl,h3,h4,h5⟩:=ih k (by simpa using hk)
   exact⟨cs::r1,qz,r2,j1++i1,ic,i2,rfl,by simp[hl],by rw[List.append_assoc],.cons h1 h3,h4,h5⟩
theorem eK.at_ (h:eK R g rows xs ids) (k:Nat) (hk:k<xs.length):∃cs ic,rows[k]? =some cs/\R g cs xs[k] ic/\∀i∈ic,i∈ids:=by
 obtain⟨r1,cs,r2,i1,ic,i2,rfl,hl,rfl,h3,h4,h5⟩:=h.split k hk
 refine⟨cs,ic,by rw[List.getElem?_append_right (by omega)];simp[hl],h4,fun i hi=>by simp[hi]⟩
theorem eK.fz {n:Nat} {e:α->List AV} (h:eK R g rows xs ids) (hz:∀{cs x ids},R g cs x ids->cV (dP g) n cs=some (e x)):dU (dP g) n rows=some (xs.map e):=by
 induction h with
 |nil=>rw[dU];rfl
 |cons h1 _ ih=>rw[dU,hz h1,ih];rfl
end
section
variable {α:Type} {R:Dc α} {sz:Nat} {g g':Rows} {a:AV} {xs:List α} {ids:List Id}
end
end Go.Proofs.YtgoljkjaameagaaGreat.V
