/- One operation, calls among them. -/
import Derived.Test.YtgoelphibofcmaaGreatInA
import Derived.Orders
import Derived.Conc.LoneCalls
import Derived.WalkKit
import Derived.WalkSpells
import Derived.WalkLawsBesides
import Derived.Lib.Hide
import Derived.Deep.QuietTactic
import Derived.BigQuiet
import Derived.StillTailTactics
import Derived.Deep.RegionWith
import Derived.Deep.RegionHeld3
import Derived.Deep.LoopGhost
import Derived.Deep.CutRange
import Derived.Deep.DeepCutAuto
import Derived.Test.YtgoelphibofcmaaGreatChecked
set_option linter.unusedVariables false
set_option linter.unusedSimpArgs false
set_option maxRecDepth 100000
set_option maxHeartbeats 16000000
namespace Go.Proofs.YtgoelphibofcmaaGreat.V
open Go.RowKit
variable {P:Program} {w w':World} {D D' D2:Nat->Prop} {ι ι' ι2:Names}
def Sound (P:Program):fP:=fun f args σ K=>∀(hs:Nat) (D:Nat->Prop) (ι:Names) (w:World) (vs:Array Value),gF P hs D ι σ.get w->Used ι σ.next (fun _=>False)->fy P w D ι args vs->
 Calls P f vs w fun e w'=>∃r g' n' D' ι' u,e=.returned u/\K r ⟨g',n'⟩/\Step hs D ι w D' ι' w'/\gF P hs D' ι' g' w'/\Used ι' n' (fun _=>False)/\σ.next<=n'/\cL P w' D' ι' r u
section
variable {g:Rows} {hs:Nat} {env:Env} {a:Act} {o:Oper} {id:Id} {v:AV}
theorem gF.ro (S:gF P hs D ι g w):gF P w.heap.size D ι (ro g) w:=by
 refine⟨Nat.le_refl _,S.dead,fun id r h=>?_,fun id j5 r r' B B' h h' hw=>?_⟩
 ·unfold V.ro at h
  simp only[Option.map_eq_some_iff]at h
  obtain⟨r0,h0,rfl⟩:=h
  obtain⟨B,hB,R,_,_⟩:=S.row id r0 h0
  exact⟨B,hB,R.flag false,fun h=>by simp at h,fun h=>by simp at h⟩
 ·unfold V.ro at h
  simp only[Option.map_eq_some_iff]at h
  obtain⟨r0,h0,rfl⟩:=h
  simp at hw
theorem AU {g0:Rows} {f:Nat} {args:List AV} {n:Nat} {K:AV->Prop} {vs:Array Value} (h:PC (Sound P) f args ⟨g0,n⟩ K) (qJ:∀id r,g0 id=some r->g id=some r) (S:gF P hs D ι g w) (U:Used ι n (fun _=>False)) (A:fy P w D ι args vs):
  Calls P f vs w fun e w'=>∃r D' u,e=.returned u/\K r/\Step hs D ι w D' ι w'/\gF P hs D' ι g w'/\cL P w' D' ι r u:=by
 refine(h w.heap.size D ι w vs (S.sub qJ).ro U A).mono ?_
 rintro e w' ⟨r0,g',n',D1,ι1,u,rfl,⟨r,hr,hK⟩,T,S1,_,_,hR⟩
 have hb:∀b,b<w.heap.size->w'.heap[b]? =w.heap[b]? :=T.below.block
 have hz:=T.below.size
 have q:=rJ (D2:=fun b=>D b∨(w.heap.size<=b/\b<w'.heap.size)) (ι2:=ι) (fun b hd=>by
  rcases T.new b hd with h|h
  ·exact .inl h
  ·exact .inr ⟨h,S1.dead b hd⟩) (fun id row hg hw=>by
  obtain⟨B,hB,R,h1,_⟩:=S1.row id row hg
  exact⟨B,hB,R,.inr ⟨h1 hw,R.lt⟩⟩) 6 r0 u r hR hr
 refine⟨r,_,u,rfl,hK,?_,?_,q.1⟩
 ·exact Step.stay S hb hz T.below.os T.below.tape T.below.output (fun _ h=>.inl h) (fun b h=>by rcases h with h|h;exact .inl h;exact .inr h.1) (fun _ _ h=>h)
 ·exact S.stay hb hz (fun _ h=>.inl h) (fun b h=>by rcases h with h|h;exact Nat.lt_of_lt_of_le (S.dead b h) hz;exact h.2) (fun b h=>by rcases h with h|h;exact .inl h;exact .inr h.1) (fun _ _ h=>h)
theorem ye {g0:Rows} {f:Nat} {args:List AV} {n:Nat} {K:AV->Prop} {vs:Array Value} (h:PCv (Sound P) f args ⟨g0,n⟩ K) (qJ:∀id r,g0 id=some r->g id=some r) (S:gF P hs D ι g w) (U:Used ι n (fun _=>False)) (A:fy P w D ι args vs):
  Calls P f vs w fun e w'=>∃r D' u,e=.returned u/\K r/\Step hs D ι w D' ι w'/\gF P hs D' ι g w'/\cL P w' D' ι r u:=by
 obtain⟨args',ha,h⟩:=h
 let D1:Nat->Prop:=fun b=>D b∨∃id r B,g id=some r/\ι id=some B/\b=B.b
 have lt:∀id r B,g id=some r->ι id=some B->B.b<w.heap.size:=fun id r B h1 h2=>by
  obtain⟨B',dH,R,_⟩:=S.row id r h1
  rw[h2]at dH;injection dH with dH;subst dH
  exact R.lt
 have S0:gF P w.heap.size D1 ι (fun _=>none) w:=⟨Nat.le_refl _,fun b hb=>by
  rcases hb with hb|⟨id,r,B,h1,h2,rfl⟩
  ·exact S.dead b hb
  ·exact lt id r B h1 h2,fun id r h=>(by cases h),fun id j5 r r' B B' h=>(by cases h)⟩
 obtain⟨l1,l2⟩:=gL ha
 have A':fy P w D1 ι args' vs:=⟨by rw[A.1,l1],fun j a hj=>by
  obtain⟨a0,lq,hf⟩:=l2 j a hj
  obtain⟨u,hu,hr⟩:=A.2 j a0 lq
  refine⟨u,hu,(rJ (D2:=D1) (ι2:=ι) (fun b h=>.inl h) (fun id row hg hw=>?_) 6 a0 u a hr hf).1⟩
  unfold dR at hg
  simp only[Option.map_eq_some_iff]at hg
  obtain⟨r,od,rfl⟩:=hg
  obtain⟨B,hB,R,_,_⟩:=S.row id r (qJ id r od)
  exact⟨B,hB,R.flag true,.inr ⟨id,r,B,qJ id r od,hB,rfl⟩⟩⟩
 refine(h w.heap.size D1 ι w vs S0 U A').mono ?_
 rintro e w' ⟨r0,g',n',D2,ι1,u,rfl,⟨r,hr,hK⟩,T,S1,_,_,hR⟩
 have hb:∀b,b<w.heap.size->w'.heap[b]? =w.heap[b]? :=T.below.block
 have hz:=T.below.size
 have q:=GH (D2:=fun b=>D b∨(w.heap.size<=b/\b<w'.heap.size)) (ι2:=ι) (fun id row hg hw=>by
  obtain⟨B,hB,R,h1,_⟩:=S1.row id row hg
  exact⟨B,hB,R,.inr ⟨h1 hw,R.lt⟩⟩) 6 r0 u r hR hr
 refine⟨r,_,u,rfl,hK,?_,?_,q.1⟩
 ·exact Step.stay S hb hz T.below.os T.below.tape T.below.output (fun _ h=>.inl h) (fun b h=>by rcases h with h|h;exact .inl h;exact .inr h.1) (fun _ _ h=>h)
 ·exact S.stay hb hz (fun _ h=>.inl h) (fun b h=>by rcases h with h|h;exact Nat.lt_of_lt_of_le (S.dead b h) hz;exact h.2) (fun b h=>by rcases h with h|h;exact .inl h;exact .inr h.1) (fun _ _ h=>h)
theorem Gi {g0:Rows} {f:Nat} {args:List AV} {n:Nat} {K:AV->Prop} {vs:Array Value} (h:gy (Sound P) f args ⟨g0,n⟩ K) (qJ:∀id r,g0 id=some r->g id=some r) (S:gF P hs D ι g w) (U:Used ι n (fun _=>False)) (A:fy P w D ι args vs):
  Calls P f vs w fun e w'=>∃r D' u,e=.returned u/\K r/\Step hs D ι w D' ι w'/\gF P hs D' ι g w'/\cL P w' D' ι r u:=by
 rcases h with h|h
 ·exact AU h qJ S U A
 ·exact ye h qJ S U A
theorem Hs {D1 D2:Nat->Prop} {ι1 ι2:Names} {w1:World} {a:AV} {v:Value} (hp:a.plain=true) (h:cL P w D1 ι1 a v):cL P w1 D2 ι2 a v:=by
 cases h with
 |eT a v h=>cases h<;>first|(simp[AV.plain]at hp;done)|exact .eT _ _ (by constructor)
 |_=>simp[AV.plain]at hp
theorem gF.add {r:Row} {B:sG} (S:gF P hs D ι g w) (S':gF P hs D ι g w') (hf:ι id=none) (kq:w.heap.size<=B.b) (R:gT P w' D (kK ι id B) B r):gF P hs D (kK ι id B) (bL g id r) w':=by
 have lt:∀j5 r' B',g j5=some r'->ι j5=some B'->B'.b<w.heap.size:=fun j5 r' B' h1 h2=>by
  obtain⟨B2,pU,R2,_⟩:=S.row j5 r' h1
  rw[h2]at pU;injection pU with pU;subst pU
  exact R2.lt
 have ne:∀j5 r',g j5=some r'->j5≠id:=fun j5 r' h he=>by
  subst he
  obtain⟨B2,pU,_⟩:=S.row _ r' h
  rw[hf]at pU;cases pU
 refine⟨S'.lo,S'.dead,fun j5 r' h=>?_,fun R7 id2 r1 r2 B1 B2 h1 h2 hw AN pU hb=>?_⟩
 ·unfold bL at h
  split at h
  ·rename_i he
   subst he
   injection h with h;subst h
   exact⟨B,ez _ _ _,R,fun _=>Nat.le_trans S.lo kq,fun _ hd=>Nat.lt_irrefl _ (Nat.lt_of_lt_of_le (S.dead _ hd) kq)⟩
  ·obtain⟨B',dH,R',k1,k2⟩:=S'.row j5 r' h
   exact⟨B',by rw[gx (ne _ _ h)];exact dH,R'.frame rfl (fun a v hr=>hr.frame (fun _ _=>rfl) (fun _ h=>h) (fo hf)),k1,k2⟩
 ·unfold bL at h1 h2
  split at h1
  ·rename_i e1
   split at h2
   ·rename_i e2;rw[e1,e2]
   ·exfalso
    subst e1
    rw[ez]at AN;injection AN with AN;subst AN
    rw[gx (ne _ _ h2)]at pU
    have:=lt _ _ _ h2 pU
    omega
  ·rw[gx (ne _ _ h1)]at AN
   split at h2
   ·rename_i e2
    exfalso
    subst e2
    rw[ez]at pU;injection pU with pU;subst pU
    have:=lt _ _ _ h1 AN
    omega
   ·rw[gx (ne _ _ h2)]at pU
    exact S'.inj R7 id2 r1 r2 B1 B2 h1 h2 hw AN pU hb
theorem Ie {g0:Rows} {f:Nat} {args:List AV} {n sz:Nat} {rows:List (List AV)} {vs:Array Value} (h:CM (Sound P) f args ⟨g0,n⟩ sz rows) (qJ:∀id r,g0 id=some r->g id=some r) (S:gF P hs D ι g w) (U:Used ι n (fun _=>False)) (A:fy P w D ι args vs) (hf:ι id=none):
  Calls P f vs w fun e w'=>∃u B,e=.returned u/\Step hs D ι w D (kK ι id B) w'/\gF P hs D (kK ι id B) (bL g id ⟨true,sz,rows⟩) w'/\cL P w' D (kK ι id B) (.own id 0 rows.length) u:=by
 obtain⟨lS,args',ha,h⟩:=h
 let D1:Nat->Prop:=fun b=>D b∨∃id r B,g id=some r/\ι id=some B/\b=B.b
 have lt:∀id r B,g id=some r->ι id=some B->B.b<w.heap.size:=fun id r B h1 h2=>by
  obtain⟨B',dH,R,_⟩:=S.row id r h1
  rw[h2]at dH;injection dH with dH;subst dH
  exact R.lt
 have S0:gF P w.heap.size D1 ι (fun _=>none) w:=⟨Nat.le_refl _,fun b hb=>by
  rcases hb with hb|⟨id,r,B,h1,h2,rfl⟩
  ·exact S.dead b hb
  ·exact lt id r B h1 h2,fun id r h=>(by cases h),fun id j5 r r' B B' h=>(by cases h)⟩
 obtain⟨l1,l2⟩:=gL ha
 have A':fy P w D1 ι args' vs:=⟨by rw[A.1,l1],fun j a hj=>by
  obtain⟨a0,lq,hz⟩:=l2 j a hj
  obtain⟨u,hu,hr⟩:=A.2 j a0 lq
  refine⟨u,hu,(rJ (D2:=D1) (ι2:=ι) (fun b h=>.inl h) (fun id row hg hw=>?_) 6 a0 u a hr hz).1⟩
  unfold dR at hg
  simp only[Option.map_eq_some_iff]at hg
  obtain⟨r,od,rfl⟩:=hg
  obtain⟨B,hB,R,_,_⟩:=S.row id r (qJ id r od)
  exact⟨B,hB,R.flag true,.inr ⟨id,r,B,qJ id r od,hB,rfl⟩⟩⟩
 refine(h w.heap.size D1 ι w vs S0 U A').mono ?_
 rintro e w' ⟨r0,g',n',D2,ι1,u,rfl,⟨i0,hr,hg⟩,T,S1,_,_,hR⟩
 subst hr
 have hb:∀b,b<w.heap.size->w'.heap[b]? =w.heap[b]? :=T.below.block
 have hz:=T.below.size
 obtain⟨B,hB,R,k1,_⟩:=S1.row i0 _ hg
 have kq:w.heap.size<=B.b:=k1 rfl
 obtain⟨o,cap,B',rfl,dH,q2,q3,q4,q5,hk⟩:=iW hR
 rw[hB]at dH;injection dH with dH;subst dH
 replace R:=R.row hk
 have S':gF P hs D ι g w':=S.stay hb hz (fun _ h=>h) (fun b h=>Nat.lt_of_lt_of_le (S.dead b h) hz) (fun b h=>.inl h) (fun _ _ h=>h)
 have R':lE P w' D (kK ι id B) B ⟨true,sz,rows⟩:=⟨R.sz,R.xI,R.fits,R.len,R.flat,fun i j cs a hi hj=>by
  obtain⟨v,h1,h2⟩:=R.at_ i j cs a hi hj
  exact⟨v,h1,Hs (lS cs (List.mem_of_getElem? hi) a (List.mem_of_getElem? hj)) h2⟩⟩
 exact⟨_,B,rfl,Step.stay S hb hz T.below.os T.below.tape T.below.output (fun _ h=>h) (fun _ h=>.inl h) (fo hf),S.add S' hf kq (R'.obj hk),.own id 0 _ _ _ B (ez _ _ _) hk q2 q3 q4 q5⟩
theorem jE {f:Nat} {args:Array Value} (hc:fQ P f=true):(callFunc f args).run P w=.ok (.enter f args) w:=by
 unfold fQ at hc
 split at hc
 ·rename_i fn hf
  simp only[Bool.and_eq_true,Bool.not_eq_true']at hc
  have hb:fn.body.isNone=false:=by cases hq:fn.body<;>simp_all
  simp only[callFunc,Sem.run_bind,run_program,Result.andThen_ok,hf,hc.2,Bool.false_eq_true,if_false,hb]
  rfl
 ·simp at hc
theorem BW {f:Nat} {args:List O} (hc:qY P o.op=some (.call f args)):∃c,o.op=.call c/\c.callee=.value (.func f)/\fQ P f=true/\c.args.toList.mapM (cO P)=some args:=by
 unfold qY at hc
 split at hc
 case h_23=>
  rename_i c ho
  refine⟨c,ho,?_⟩
  unfold nC at hc
  split at hc
  all_goals (try(repeat' (split at hc))<;>(simp only[Option.bind_eq_bind,Option.bind_eq_some_iff,Option.pure_def,Option.some.injEq,Option.map_eq_some_iff,reduceCtorEq,and_false,exists_false]at hc))
  all_goals simp_all
 all_goals (try unfold vV at hc)<;>(try unfold sS at hc)<;>(repeat' (split at hc))<;>(simp only[Option.bind_eq_bind,Option.bind_eq_some_iff,Option.pure_def,Option.some.injEq,Option.map_eq_some_iff,reduceCtorEq,and_false,exists_false]at hc)
theorem te {x:O} {args:List O} (hc:qY P o.op=some (.tQ x args)):∃c t,o.op=.call c/\c.callee=.value (.tmp t)/\x=.t t/\c.args.toList.mapM (cO P)=some args:=by
 unfold qY at hc
 split at hc
 case h_23=>
  rename_i c ho
  refine⟨c,?_⟩
  unfold nC at hc
  split at hc
  all_goals (try(repeat' (split at hc))<;>(simp only[Option.bind_eq_bind,Option.bind_eq_some_iff,Option.pure_def,Option.some.injEq,Option.map_eq_some_iff,reduceCtorEq,and_false,exists_false]at hc))
  all_goals simp_all
 all_goals (try unfold vV at hc)<;>(try unfold sS at hc)<;>(repeat' (split at hc))<;>(simp only[Option.bind_eq_bind,Option.bind_eq_some_iff,Option.pure_def,Option.some.injEq,Option.map_eq_some_iff,reduceCtorEq,and_false,exists_false]at hc)
theorem GZ {n:Nat} {x y:O} (hc:qY P o.op=some (.store n x y)):∃t x' y',o.op=.store t x' y'/\eA P t=some n/\cO P x'=some x/\cO P y'=some y:=by
 unfold qY at hc
 split at hc
 case h_7=>
  rename_i t x' y' ho
  refine⟨t,x',y',ho,?_⟩
  simp only[Option.bind_eq_bind,Option.bind_eq_some_iff,Option.pure_def,Option.some.injEq]at hc
  obtain⟨n',h1,x2,h2,y2,h3,he⟩:=hc
  injection he with e1 e2 e3
  subst e1;subst e2;subst e3
  exact⟨h1,h2,h3⟩
 all_goals (try unfold vV at hc)<;>(try unfold sS at hc)<;>(try unfold nC at hc)<;>(repeat' (split at hc))<;>(simp only[Option.bind_eq_bind,Option.bind_eq_some_iff,Option.pure_def,Option.some.injEq,Option.map_eq_some_iff,reduceCtorEq,and_false,exists_false]at hc)
theorem Ej {n:Nat} {x y:O} (hc:qY P o.op=some (.append n x y)):∃(t e:TypeId) (m:Nat) (z:List K) (i:TypeInfo) (x' y':Operand),n=m+1/\o.op=.call {callee:=.builtin .append,args:= #[x',y'],argTypes:= #[t,t]}/\
  P.underlying t=some (.slice e)/\eA P e=some (m+1)/\jM P e=some z/\P.info? e=some i/\i.bytes<=32768/\cO P x'=some x/\cO P y'=some y:=by
 unfold qY at hc
 split at hc
 case h_23=>
  rename_i c ho
  unfold nC at hc
  split at hc
  case h_2=>
   rename_i kF
   split at hc
   ·rename_i x' y' t u h1 h2
    split at hc
    ·rename_i e ht
     split at hc
     ·rename_i m z i e1 e2 e3
      split at hc
      ·rename_i hb
       simp only[Option.bind_eq_bind,Option.bind_eq_some_iff,Option.pure_def,Option.some.injEq]at hc
       obtain⟨x2,h3,y2,h4,he⟩:=hc
       injection he with k1 k2 k3
       subst k1;subst k2;subst k3
       obtain⟨K2,rfl⟩:=hb
       refine⟨t,e,m,z,i,x',y',rfl,?_,ht,e1,e2,e3,K2,h3,h4⟩
       rw[ho]
       obtain⟨ca,cb,cc⟩:=c
       simp only at h1 h2 kF
       subst kF
       congr
       ·exact Array.ext' h1
       ·exact Array.ext' h2
      ·simp at hc
     ·simp at hc
    ·simp at hc
   ·simp at hc
  all_goals (repeat' (split at hc))<;>(simp only[Option.bind_eq_bind,Option.bind_eq_some_iff,Option.pure_def,Option.some.injEq,Option.map_eq_some_iff,reduceCtorEq,and_false,exists_false]at hc)
 all_goals (try unfold vV at hc)<;>(try unfold sS at hc)<;>(repeat' (split at hc))<;>(simp only[Option.bind_eq_bind,Option.bind_eq_some_iff,Option.pure_def,Option.some.injEq,Option.map_eq_some_iff,reduceCtorEq,and_false,exists_false]at hc)
theorem JE {n:Nat} {x y:O} (hc:qY P o.op=some (.copy n x y)):∃(t t2 e:TypeId) (m:Nat) (x' y':Operand),n=m+1/\o.op=.call {callee:=.builtin .copy,args:= #[x',y'],argTypes:= #[t,t2]}/\
  P.underlying t=some (.slice e)/\eA P e=some (m+1)/\cO P x'=some x/\cO P y'=some y:=by
 unfold qY at hc
 split at hc
 case h_23=>
  rename_i c ho
  unfold nC at hc
  split at hc
  case h_7=>
   rename_i kF
   split at hc
   ·rename_i x' y' t t2 h1 h2
    split at hc
    ·rename_i e ht
     split at hc
     ·rename_i m e1
      simp only[Option.bind_eq_bind,Option.bind_eq_some_iff,Option.pure_def,Option.some.injEq,gH.copy.injEq]at hc
      obtain⟨x2,h3,y2,h4,k0,k1,k2⟩:=hc
      subst k1;subst k2
      refine⟨t,t2,e,m,x',y',k0.symm,?_,ht,e1,h3,h4⟩
      rw[ho]
      obtain⟨ca,cb,cc⟩:=c
      simp only at h1 h2 kF
      subst kF
      congr
      ·exact Array.ext' h1
      ·exact Array.ext' h2
     ·simp at hc
    ·simp at hc
   ·simp at hc
  all_goals (repeat' (split at hc))<;>(simp only[Option.bind_eq_bind,Option.bind_eq_some_iff,Option.pure_def,Option.some.injEq,Option.map_eq_some_iff,reduceCtorEq,and_false,exists_false]at hc)
 all_goals (try unfold vV at hc)<;>(try unfold sS at hc)<;>(repeat' (split at hc))<;>(simp only[Option.bind_eq_bind,Option.bind_eq_some_iff,Option.pure_def,Option.some.injEq,Option.map_eq_some_iff,reduceCtorEq,and_false,exists_false]at hc)
theorem GY {z:List K} {x:O} (hc:qY P o.op=some (.clear z x)):∃(t e:TypeId) (m:Nat) (x':Operand),o.op=.call {callee:=.builtin .clear,args:= #[x'],argTypes:= #[t]}/\
  P.underlying t=some (.slice e)/\eA P e=some (m+1)/\jM P e=some z/\cO P x'=some x:=by
 unfold qY at hc
 split at hc
 case h_23=>
  rename_i c ho
  unfold nC at hc
  split at hc
  case h_3=>
   rename_i kF
   split at hc
   ·rename_i x' t h1 h2
    split at hc
    ·rename_i e ht
     split at hc
     ·rename_i m z' e1 e2
      simp only[Option.map_eq_some_iff]at hc
      obtain⟨x2,h3,he⟩:=hc
      injection he with k1 k2
      subst k1;subst k2
      refine⟨t,e,m,x',?_,ht,e1,e2,h3⟩
      rw[ho]
      obtain⟨ca,cb,cc⟩:=c
      simp only at h1 h2 kF
      subst kF
      congr
      ·exact Array.ext' h1
      ·exact Array.ext' h2
     ·simp at hc
    ·simp at hc
   ·simp at hc
  all_goals (repeat' (split at hc))<;>(simp only[Option.bind_eq_bind,Option.bind_eq_some_iff,Option.pure_def,Option.some.injEq,Option.map_eq_some_iff,reduceCtorEq,and_false,exists_false]at hc)
 all_goals (try unfold vV at hc)<;>(try unfold sS at hc)<;>(repeat' (split at hc))<;>(simp only[Option.bind_eq_bind,Option.bind_eq_some_iff,Option.pure_def,Option.some.injEq,Option.map_eq_some_iff,reduceCtorEq,and_false,exists_false]at hc)
theorem Pe {q:MW} {xs:List O} (hc:qY P o.op=some (.mw q xs)):
  (∃t x k y m z x' k' y',(o.op=.mapUpdate t x k y∨o.op=.insert t x k y)/\sU P t=some (m,z)/\cO P x=some x'/\cO P k=some k'/\cO P y=some y'/\q=.set m/\xs=[x',k',y'])∨
  (∃t t' x k m z x' k',o.op=.call {callee:=.builtin .delete,args:= #[x,k],argTypes:= #[t,t']}/\sU P t=some (m,z)/\cO P x=some x'/\cO P k=some k'/\q=.del m/\xs=[x',k']):=by
 unfold qY at hc
 split at hc
 case h_23=>
  rename_i c ho
  right
  unfold nC at hc
  split at hc
  case h_6=>
   rename_i kF
   split at hc
   ·rename_i x k t t' h1 h2
    split at hc
    ·rename_i m z x' k' e1 e2 e3
     injection hc with hc
     injection hc with q1 q2
     refine⟨t,t',x,k,m,z,x',k',?_,e1,e2,e3,q1.symm,q2.symm⟩
     rw[ho]
     obtain⟨ca,cb,cc⟩:=c
     simp only at h1 h2 kF
     subst kF
     congr
     ·exact Array.ext' h1
     ·exact Array.ext' h2
    ·cases hc
   ·cases hc
  all_goals (repeat' (split at hc))<;>(simp only[Option.bind_eq_bind,Option.bind_eq_some_iff,Option.pure_def,Option.some.injEq,Option.map_eq_some_iff,reduceCtorEq,and_false,exists_false]at hc)
 case h_29=>
  rename_i t x k y ho
  left
  split at hc
  ·rename_i m z x' k' y' e1 e2 e3 e4
   injection hc with hc
   injection hc with q1 q2
   exact⟨t,x,k,y,m,z,x',k',y',.inl ho,e1,e2,e3,e4,q1.symm,q2.symm⟩
  ·cases hc
 case h_30=>
  rename_i t x k y ho
  left
  split at hc
  ·rename_i m z x' k' y' e1 e2 e3 e4
   injection hc with hc
   injection hc with q1 q2
   exact⟨t,x,k,y,m,z,x',k',y',.inr ho,e1,e2,e3,e4,q1.symm,q2.symm⟩
  ·cases hc
 all_goals (try unfold vV at hc)<;>(try unfold sS at hc)<;>(repeat' (split at hc))<;>(simp only[Option.bind_eq_bind,Option.bind_eq_some_iff,Option.pure_def,Option.some.injEq,Option.map_eq_some_iff,reduceCtorEq,and_false,exists_false]at hc)
def jr (g:Rows) (id:Id):Option Row->Rows
 |some r=>bL g id r
 |none=>g
def vY (X:fP) (hid:List Nat) (site n:Nat) (f:Nat) (args:List AV) (g:Rows) (v:AV) (g':Rows):Prop:=
 (gy X f args ⟨fZ hid n g,n+1⟩ (fun r=>r=v)/\g'=g)∨
 (hid.contains site=true/\∃sz rows,CM X f args ⟨fZ hid n g,n+1⟩ sz rows/\v=.own ⟨site,n⟩ 0 rows.length/\g'=bL g ⟨site,n⟩ ⟨true,sz,rows⟩)
def VS (X:fP) (n:Nat) (vo:br) (env:Env) (g:Rows) (v:AV) (g':Rows):Prop:=
 match vo.op with
 | .call f args=>vY X vo.hid vo.site n f (args.map (dj env)) g v g'
 | .tQ x args=>∃f l,vW (dj env x) (args.map (dj env))=some (f,l)/\vY X vo.hid vo.site n f l g v g'
 | .store .. | .append .. | .copy .. | .clear .. | .mw .. =>ga vo.op (dj env) g ⟨vo.site,n⟩=some (v,g')
 |_=>∃mr,eS vo.op (dj env) (fZ vo.hid n g) ⟨vo.site,n⟩=some (v,mr)/\g'=jr g ⟨vo.site,n⟩ mr
def M0 (P:Program) (hs:Nat) (D:Nat->Prop) (ι:Names) (w:World) (U:Nat->Prop) (site n:Nat) (a:Act) (dst:Option Tmp) (v:AV) (g':Rows) (a':Act) (w':World):Prop:=
 ∃u D' ι',a'=a.put dst u/\Step hs D ι w D' ι' w'/\gF P hs D' ι' g' w'/\cL P w' D' ι' v u/\Used ι' n (fun s=>U s∨s=site)
theorem fresh {n:Nat} {U:Nat->Prop} {s:Nat} (h:Used ι n U) (hU:¬U s):ι ⟨s,n⟩=none:=by
 cases hq:ι ⟨s,n⟩with
 |none=>rfl
 |some B=>
  rcases h ⟨s,n⟩ (by rw[hq];simp)with h|⟨_,h⟩
  ·exact absurd h (Nat.lt_irrefl _)
  ·exact absurd h hU
theorem Used.more {n:Nat} {U U':Nat->Prop} (h:Used ι n U) (hU:∀s,U s->U' s):Used ι n U':=fun id hid=>by
 rcases h id hid with h|⟨h1,h2⟩
 ·exact .inl h
 ·exact .inr ⟨h1,hU _ h2⟩
theorem Used.next {n:Nat} {U:Nat->Prop} (h:Used ι n U):Used ι (n+1) (fun _=>False):=fun id hid=>by
 rcases h id hid with h|⟨h1,_⟩
 ·exact .inl (Nat.lt_succ_of_lt h)
 ·exact .inl (by omega)
theorem Used.upd {n:Nat} {U:Nat->Prop} {s:Nat} {B:sG} (h:Used ι n U):Used (kK ι ⟨s,n⟩ B) n (fun x=>U x∨x=s):=fun id hid=>by
 by_cases he:id=⟨s,n⟩
 ·subst he;exact .inr ⟨rfl,.inr rfl⟩
 ·rw[gx he]at hid
  exact(h.more (U':=fun x=>U x∨x=s) fun _ h=>Or.inl h) id hid
theorem ow {xs:Array Operand} {ys:List O} (E:cE P w D ι env a) (h:xs.toList.mapM (cO P)=some ys):fy P w D ι (ys.map (dj env)) (xs.map a.eval):=by
 obtain⟨h1,h2⟩:=EF E h
 refine⟨by simpa using h1,fun j b hj=>?_⟩
 simp only[List.getElem?_map,Option.map_eq_some_iff]at hj
 obtain⟨y,hy,rfl⟩:=hj
 have dZ:j<xs.size:=by have:=(List.getElem?_eq_some_iff.1 hy).1;simp at h1;omega
 refine⟨a.eval xs[j],by simp[dZ],?_⟩
 have:=h2 j y hy
 simpa[List.getD_eq_getElem?_getD,dZ]using this
theorem o9 {xs ys:List AV} {vs us:Array Value} (h:fy P w D ι xs vs) (k:fy P w D ι ys us):fy P w D ι (xs++ys) (vs++us):=
 ⟨by simp[h.1,k.1],fun j b hj=>by
  by_cases dZ:j<xs.length
  ·rw[List.getElem?_append_left dZ]at hj
   obtain⟨u,hu,xU⟩:=h.2 j b hj
   exact⟨u,by rw[Array.getElem?_append_left (by rw[h.1];exact dZ)];exact hu,xU⟩
  ·rw[List.getElem?_append_right (by omega)]at hj
   obtain⟨u,hu,xU⟩:=k.2 _ b hj
   exact⟨u,by rw[Array.getElem?_append_right (by rw[h.1];omega),h.1];exact hu,xU⟩⟩
theorem w8:fy P w D ι [] #[]:=⟨rfl,fun j b hj=>by simp at hj⟩
theorem vZ {x:AV} {l l':List AV} {f:Nat} {vs:Array Value} {v:Value} (h:vW x l=some (f,l')) (hr:cL P w D ι x v) (hA:fy P w D ι l vs):
  ∃first di,v=.func (.func f) first di/\fQ P f=true/\fy P w D ι l' (first++vs++di):=by
 unfold vW at h
 split at h
 ·simp only[Option.some.injEq,Prod.mk.injEq]at h
  obtain⟨rfl,rfl⟩:=h
  obtain⟨us,q,he,FB,n1,q1,q2⟩:=Af hr
  refine⟨#[],us,he,FB,?_⟩
  rw[Array.empty_append]
  exact o9 hA ⟨n1,fun j b hj=>⟨q j,q1 j (List.getElem?_eq_some_iff.1 hj).1,q2 j b hj⟩⟩
 ·simp only[Option.some.injEq,Prod.mk.injEq]at h
  obtain⟨rfl,rfl⟩:=h
  obtain⟨us,q,he,FB,n1,q1,q2⟩:=ME hr
  refine⟨us, #[],he,FB,?_⟩
  rw[Array.append_empty]
  exact o9 ⟨n1,fun j b hj=>⟨q j,q1 j (List.getElem?_eq_some_iff.1 hj).1,q2 j b hj⟩⟩ hA
 ·cases h
theorem AX {n:Nat} {vo:br} {g':Rows} {U:Nat->Prop} {Q:Exit->Act->World->Prop} {K:Act->World->Prop} (hc:qY P o.op=some vo.op) (hv:VS (Sound P) n vo env g v g') (S:gF P hs D ι g w) (Us:Used ι n U) (hU:¬U vo.site) (E:cE P w D ι env a)
  (hK:∀a' w',M0 P hs D ι w U vo.site n a o.dst v g' a' w'->K a' w'):o.wp P a w K Q:=by
 have hf:=fresh Us hU
 have Bc:∀(f:Nat) (args:List AV) (vs:Array Value),vY (Sound P) vo.hid vo.site n f args g v g'->fy P w D ι args vs->(execOp a.eval o).run P w=.ok (.enter f vs) w->o.wp P a w K Q:=by
  intro f args vs hP hA gr
  unfold Oper.wp
  rw[gr]
  rcases hP with⟨hP,rfl⟩|⟨_,sz,rows,hM,rfl,rfl⟩
  ·refine(Gi hP AB S Us.next hA).mono ?_
   rintro e w' ⟨r,D',u,rfl,rfl,T,S',hR⟩
   exact hK _ _ ⟨u,D',ι,rfl,T,S',hR,Us.more fun _ h=>.inl h⟩
  ·refine(Ie hM AB S Us.next hA hf).mono ?_
   rintro e w' ⟨u,B,rfl,T,S',hR⟩
   exact hK _ _ ⟨u,D,_,rfl,T,S',hR,Us.upd⟩
 have quiet:∀(mr:Option Row),eS vo.op (dj env) (fZ vo.hid n g) ⟨vo.site,n⟩=some (v,mr)->g'=jr g ⟨vo.site,n⟩ mr->o.wp P a w K Q:=by
  intro mr hq hg
  have hqs:=y7 hc hq (S.sub AB) E
  unfold Oper.wp
  cases mr with
  |none=>
   obtain⟨u,gr,hR⟩:=hqs
   rw[gr]
   subst hg
   exact hK _ _ ⟨u,D,ι,rfl,Step.refl _ _ _ _,S,hR,Us.more fun _ h=>.inl h⟩
  |some r=>
   rcases hqs with⟨u,cells,T,gr,h1,h2,h3,h4,h5,h6⟩|⟨m,gr,O9,D8⟩|⟨c,gr,O9,D8⟩
   case inr.inr=>
    rw[gr]
    subst hg O9 D8
    have fA:w.heap.size<(w.alloc (.chan c #[] false 0 0 false)).heap.size:=by simp
    have S':=S.stay (w':=w.alloc (.chan c #[] false 0 0 false)) (D':=D) (ι':=ι) (fun k hk=>Below.heap_alloc _ _ _ hk) (by simp) (fun _ h=>h) (fun b hd=>Nat.lt_trans (S.dead b hd) fA) (fun _ h=>.inl h) (fun _ _ h=>h)
    have S1:=S.add S' (id:=⟨vo.site,n⟩) (B:=⟨w.heap.size,qw+c,0,some (.chan c)⟩) (r:=⟨true,qw+c,[]⟩) hf (Nat.le_refl _) ⟨rfl,fun cs h=>by simp at h,fun h=>by simp at h,fun m' h=>(by simp at h),fun c' h=>by
     simp only[Option.some.injEq,BK.chan.injEq]at h;subst h
     exact⟨rfl, #[],0,0,(show(w.heap.push (Obj.chan c #[] false 0 0 false))[w.heap.size]? =some (Obj.chan c #[] false 0 0 false) by simp),rfl,fun i cs h=>by simp at h⟩⟩
    exact hK _ _ ⟨_,D,_,rfl,Step.stay S (fun k hk=>Below.heap_alloc _ _ _ hk) (by simp) rfl rfl rfl (fun _ h=>h) (fun _ h=>.inl h) (fo hf),S1,.rF _ _ _ (ez _ _ _) rfl,Us.upd⟩
   case inr.inl=>
    rw[gr]
    subst hg O9 D8
    have fA:w.heap.size<(w.alloc (.map #[] 0)).heap.size:=by simp
    have S':=S.stay (w':=w.alloc (.map #[] 0)) (D':=D) (ι':=ι) (fun k hk=>Below.heap_alloc _ _ _ hk) (by simp) (fun _ h=>h) (fun b hd=>Nat.lt_trans (S.dead b hd) fA) (fun _ h=>.inl h) (fun _ _ h=>h)
    have S1:=S.add S' (id:=⟨vo.site,n⟩) (B:=⟨w.heap.size,m.pG,0,some (.map m)⟩) (r:=⟨true,m.pG,[]⟩) hf (Nat.le_refl _) ⟨rfl,fun cs h=>by simp at h,fun h=>by simp at h,fun m' h=>by
     simp only[Option.some.injEq,BK.map.injEq]at h;subst h
     exact⟨rfl, #[],0,(show(w.heap.push (Obj.map #[] 0))[w.heap.size]? =some (Obj.map #[] 0) by simp),rfl,⟨fun cs h=>by simp at h,fun x h=>by simp at h,by simp⟩,fun i cs h=>by simp at h⟩,fun c h=>by simp at h⟩
    exact hK _ _ ⟨_,D,_,rfl,Step.stay S (fun k hk=>Below.heap_alloc _ _ _ hk) (by simp) rfl rfl rfl (fun _ h=>h) (fun _ h=>.inl h) (fo hf),S1,.map _ _ _ (ez _ _ _) rfl,Us.upd⟩
   rw[gr]
   subst hg
   have S1:=S.alloc (id:=⟨vo.site,n⟩) (w':=w.alloc (.cells cells T)) rfl hf h1 h2 h3 h4 h5
   refine hK _ _ ⟨u,D,_,rfl,Step.stay S (fun k hk=>Below.heap_alloc _ _ _ hk) (by simp) rfl rfl rfl (fun _ h=>h) (fun _ h=>.inl h) (fo hf),S1,(h6 (kK ι _ _) (ez _ _ _)).frame (fun b hd=>Below.heap_alloc _ _ _ (S.dead b hd)) (fun _ h=>h) (fun _ _ h=>h),Us.upd⟩
 have Qi:ga vo.op (dj env) g ⟨vo.site,n⟩=some (v,g')->(∀Lf,C7 P hs a o Lf D ι ⟨vo.site,n⟩ v g'->Lf=w->o.wp P a w K Q):=by
  intro _ Lf hE he
  subst he
  obtain⟨u,w',ι',gr,T,S',hR,hι⟩:=hE
  have Ja:M0 P hs D ι Lf U vo.site n a o.dst v g' (a.put o.dst u) w':=⟨u,D,ι',rfl,T,S',hR,fun id hid=>by
   by_cases he:id=⟨vo.site,n⟩
   ·subst he;exact .inr ⟨rfl,.inr rfl⟩
   ·rw[hι id he]at hid
    exact(Us.more (U':=fun x=>U x∨x=vo.site) fun _ h=>Or.inl h) id hid⟩
  unfold Oper.wp
  rcases gr with gr|⟨gr,rfl⟩
  ·rw[gr];exact hK _ _ Ja
  ·rw[gr];exact hK _ _ Ja
 unfold VS at hv
 split at hv
 ·rename_i f args eF
  rw[eF]at hc
  obtain⟨c,ho,kF,FB,nG⟩:=BW hc
  refine Bc f _ (c.args.map a.eval) hv (ow E nG) ?_
  simp only[execOp,ho,resolve,kF,Deferred.ofValue,Act.eval,Sem.run_bind,Sem.run_pure,Result.andThen_ok,invoke,Array.empty_append,Array.append_empty]
  exact jE FB
 ·rename_i x args eF
  obtain⟨f,l,hx,hP⟩:=hv
  rw[eF]at hc
  obtain⟨c,t,ho,kF,rfl,nG⟩:=te hc
  obtain⟨first,di,he,FB,hL⟩:=vZ (v:=a.eval (.tmp t)) hx (E t) (ow E nG)
  refine Bc f _ (first++c.args.map a.eval++di) hP hL ?_
  simp only[execOp,ho,resolve,kF,he,Deferred.ofValue,Sem.run_bind,Sem.run_pure,Result.andThen_ok,invoke]
  exact jE FB
 ·rename_i m x y eF
  have kV:=hc
  rw[eF]at kV
  obtain⟨t,x',y',ho,h1,h2,h3⟩:=GZ kV
  have nV:=hv
  rw[eF]at nV
  simp only[ga,Option.map_eq_some_iff,Prod.mk.injEq]at nV
  obtain⟨g1,AO,rfl,rfl⟩:=nV
  exact Qi hv w (Lz S E ho h1 h2 h3 AO) rfl
 ·rename_i m x y eF
  have kV:=hc
  rw[eF]at kV
  obtain⟨t,e,m',z,i,x',y',rfl,ho,h1,h2,h3,h4,h5,h6,h7⟩:=Ej kV
  have nV:=hv
  rw[eF]at nV
  simp only[ga,Option.bind_eq_some_iff]at nV
  obtain⟨ys,FN,nV⟩:=nV
  exact Qi hv w (IP S E hf ho h1 h2 h3 h4 h5 h6 h7 FN nV) rfl
 ·rename_i m x y eF
  have kV:=hc
  rw[eF]at kV
  obtain⟨t,t2,e,m',x',y',rfl,ho,h1,h2,h3,h4⟩:=JE kV
  have nV:=hv
  rw[eF]at nV
  simp only[ga,Option.bind_eq_some_iff]at nV
  obtain⟨ys,FN,nV⟩:=nV
  exact Qi hv w (N6 S E ho h1 h2 h3 h4 FN nV) rfl
 ·rename_i z x eF
  have kV:=hc
  rw[eF]at kV
  obtain⟨t,e,m',x',ho,h1,h2,h3,h4⟩:=GY kV
  have nV:=hv
  rw[eF]at nV
  simp only[ga,Option.map_eq_some_iff,Prod.mk.injEq]at nV
  obtain⟨g1,AO,rfl,rfl⟩:=nV
  exact Qi hv w (Ly S E ho h1 h2 h3 h4 AO) rfl
 ·rename_i q xs eF
  have kV:=hc
  rw[eF]at kV
  have nV:=hv
  rw[eF]at nV
  simp only[ga,Option.map_eq_some_iff,Prod.mk.injEq]at nV
  obtain⟨g1,AO,rfl,rfl⟩:=nV
  rcases Pe kV with⟨t,x,k,y,m,z,x',k',y',ho,h1,h2,h3,h4,rfl,rfl⟩|⟨t,t',x,k,m,z,x',k',ho,h1,h2,h3,rfl,rfl⟩
  ·exact Qi hv w (N8 S E ho h1 h2 h3 h4 AO) rfl
  ·exact Qi hv w (N7 S E ho h1 h2 h3 AO) rfl
 ·obtain⟨mr,hq,hg⟩:=hv
  exact quiet mr hq hg
end
end Go.Proofs.YtgoelphibofcmaaGreat.V

namespace Go.Proofs.YtgoelphibofcmaaGreat.V
open Go.RowKit
variable {P:Program} {w w':World} {D D' D2:Nat->Prop} {ι ι' ι2:Names}
section
variable {g:Rows} {hs:Nat} {env:Env} {a:Act} {o:Oper} {id:Id} {v:AV}
theorem pq {ops:Array Oper} {nt site0 j:Nat} {draw mk:Bool} {bs:Array Nat} {hidden:List (Nat×Bool)} {vo:br} (h:kT P ops nt site0 draw mk bs hidden j o=some vo):
  qY P o.op=some vo.op/\vo.dst=o.dst/\vo.site=site0+j/\(∀d,o.dst=some d->d<nt)/\(match o.guard with
   |none=>vo.guard=none
   |some (i,b)=>∃t,(ops[i]?).bind (·.dst)=some t/\vo.guard=some (t,b)):=by
 unfold kT at h
 simp only[Option.bind_eq_bind,Option.bind_eq_some_iff]at h
 obtain⟨v,hv,gd,hg,h⟩:=h
 split at h
 ·rename_i hd
  simp only[Option.pure_def,Option.some.injEq]at h
  subst h
  refine⟨hv,rfl,rfl,fun d Tb=>?_,?_⟩
  ·rw[Tb]at hd;simpa using hd
  ·unfold Dq at hg
   cases xR:o.guard with
   |none=>rw[xR]at hg;simp at hg;exact hg.symm
   |some p=>
    obtain⟨i,b⟩:=p
    rw[xR]at hg
    dsimp only at hg ⊢
    split at hg
    ·rename_i t ht
     simp at hg;exact⟨t,ht,hg.symm⟩
    ·simp at hg
 ·simp at h
theorem tJ {ops:Array Oper} {vo:br} (E:cE P w D ι env a) (hg:match o.guard with
   |none=>vo.guard=none
   |some (i,b)=>∃t,(ops[i]?).bind (·.dst)=some t/\vo.guard=some (t,b)):aT vo.guard env=Region.wanted o (yielded ops a.tmps):=by
 unfold Region.wanted
 cases xR:o.guard with
 |none=>rw[xR]at hg;simp only at hg;rw[hg];rfl
 |some p=>
  obtain⟨i,b⟩:=p
  rw[xR]at hg
  obtain⟨t,ht,hv⟩:=hg
  rw[hv]
  simp only[aT,yielded,ht,Option.bind_some]
  have hr:=E t
  by_cases dZ:t<a.tmps.size
  ·have fq:a.tmps[t]? =some a.tmps[t]:=Array.getElem?_eq_getElem dZ
   have hd:a.tmps.getD t undef=a.tmps[t]:=by simp[dZ]
   rw[hd]at hr
   rw[fq]
   generalize a.tmps[t]=u at hr
   cases he:env t with
   |bool c=>rw[he]at hr;rw[fm hr];simp
   |_=>
    rw[he]at hr
    have:∀c,u≠.bool c:=by
     intro c hu
     subst hu
     cases hr with
     |eT _ _ h=>cases h
    cases u<;>simp_all
  ·have fq:a.tmps[t]? =none:=Array.getElem?_eq_none (Nat.le_of_not_lt dZ)
   have hd:a.tmps.getD t undef=undef:=by simp[fq]
   rw[hd]at hr
   rw[fq]
   cases he:env t with
   |bool c=>rw[he]at hr;have:=fm hr;simp[undef]at this
   |_=>simp
theorem iF {dst:Option Nat} {nt:Nat} {u:Value} (E:cE P w D ι env a) (hr:cL P w D ι v u) (hd:∀d,dst=some d->d<nt) (hs:a.tmps.size=nt):cE P w D ι (upd env dst v) (a.put dst u):=by
 intro t
 cases dst with
 |none=>exact E t
 |some d=>
  have dZ:d<a.tmps.size:=by rw[hs];exact hd d rfl
  simp only[upd,Act.put]
  by_cases ht:t=d
  ·subst ht
   simp[dZ];exact hr
  ·rw[if_neg ht]
   have:(a.tmps.setIfInBounds d u).getD t undef=a.tmps.getD t undef:=by
    simp only[Array.getD_eq_getD_getElem?]
    rw[Array.getElem?_setIfInBounds_ne (fun e=>ht e.symm)]
   rw[this];exact E t
theorem oH {hs:Nat} (E:cE P w D ι env a) (T:Step hs D ι w D' ι' w'):cE P w' D' ι' env a:=fun t=>T.rep (E t)
theorem fc (a:Act) (dst:Option Tmp) (u:Value):(a.put dst u).tmps.size=a.tmps.size:=by cases dst<;>simp[Act.put]
theorem put_defers (a:Act) (dst:Option Tmp) (u:Value):(a.put dst u).defers=a.defers:=by cases dst<;>rfl
theorem zh {draw:Bool} {vo:br} {σ:ar} {next:AV->ar->Prop} {U:Nat->Prop} {Q:Exit->Act->World->Prop} {K:Act->World->Prop} (hc:qY P o.op=some vo.op) (hv:fK (Sound P) draw vo env σ next) (S:gF P hs D ι σ.get w) (Us:Used ι σ.next U) (hU:¬U vo.site) (E:cE P w D ι env a)
  (hK:∀v σ' u D' ι' w',next v σ'->Step hs D ι w D' ι' w'->gF P hs D' ι' σ'.get w'->cL P w' D' ι' v u->Used ι' σ'.next (fun s=>U s∨s=vo.site)->σ.next<=σ'.next->K (a.put o.dst u) w'):o.wp P a w K Q:=by
 have close:∀v g',VS (Sound P) σ.next vo env σ.get v g'->next v ⟨g',σ.next⟩->o.wp P a w K Q:=fun v g' h1 h2=>
  AX hc h1 S Us hU E fun a' w' ⟨u,D',ι',ha,T,S',hR,U'⟩=>by subst ha;exact hK v ⟨g',σ.next⟩ u D' ι' w' h2 T S' hR U' (Nat.le_refl _)
 have J1:∀(f:Nat) (args:List AV) (vs:Array Value),Sound P f args ⟨σ.get,σ.next+1⟩ next->fy P w D ι args vs->(execOp a.eval o).run P w=.ok (.enter f vs) w->o.wp P a w K Q:=by
  intro f args vs h hA gr
  unfold Oper.wp
  rw[gr]
  refine(h hs D ι w vs S Us.next hA).mono ?_
  rintro e w' ⟨r,g',n',D',ι',u,rfl,hn,T,S',U',hle,hR⟩
  exact hK r ⟨g',n'⟩ u D' ι' w' hn T S' hR (U'.more fun _ h=>h.elim) (Nat.le_trans (Nat.le_succ _) hle)
 unfold fK at hv
 split at hv
 ·rename_i f args eF
  rcases hv with⟨r,hP,hn⟩|⟨_,hX⟩|⟨FJ,sz,rows,hM,hn⟩
  ·exact close r σ.get (by unfold VS;rw[eF];exact .inl ⟨hP,rfl⟩) hn
  rotate_left
  ·exact close _ _ (by unfold VS;rw[eF];exact .inr ⟨FJ,sz,rows,hM,rfl,rfl⟩) hn
  ·have kV:=hc
   rw[eF]at kV
   obtain⟨c,ho,kF,FB,nG⟩:=BW kV
   refine J1 f _ (c.args.map a.eval) hX (ow E nG) ?_
   simp only[execOp,ho,resolve,kF,Deferred.ofValue,Act.eval,Sem.run_bind,Sem.run_pure,Result.andThen_ok,invoke,Array.empty_append,Array.append_empty]
   exact jE FB
 ·rename_i x args eF
  split at hv
  ·rename_i f di hx
   have xD:vW (dj env x) (args.map (dj env))=some (f,args.map (dj env)++di):=by rw[hx];rfl
   rcases hv with⟨r,hP,hn⟩|⟨_,hX⟩|⟨FJ,sz,rows,hM,hn⟩
   ·exact close r σ.get (by unfold VS;rw[eF];exact⟨f,_,xD,.inl ⟨hP,rfl⟩⟩) hn
   rotate_left
   ·exact close _ _ (by unfold VS;rw[eF];exact⟨f,_,xD,.inr ⟨FJ,sz,rows,hM,rfl,rfl⟩⟩) hn
   ·have kV:=hc
    rw[eF]at kV
    obtain⟨c,t,ho,kF,rfl,nG⟩:=te kV
    obtain⟨first,us,he,FB,hL⟩:=vZ (v:=a.eval (.tmp t)) xD (E t) (ow E nG)
    refine J1 f _ (first++c.args.map a.eval++us) hX hL ?_
    simp only[execOp,ho,resolve,kF,he,Deferred.ofValue,Sem.run_bind,Sem.run_pure,Result.andThen_ok,invoke]
    exact jE FB
  ·rename_i f di hx
   have xD:vW (dj env x) (args.map (dj env))=some (f,di++args.map (dj env)):=by rw[hx];rfl
   rcases hv with⟨r,hP,hn⟩|⟨_,hX⟩|⟨FJ,sz,rows,hM,hn⟩
   ·exact close r σ.get (by unfold VS;rw[eF];exact⟨f,_,xD,.inl ⟨hP,rfl⟩⟩) hn
   rotate_left
   ·exact close _ _ (by unfold VS;rw[eF];exact⟨f,_,xD,.inr ⟨FJ,sz,rows,hM,rfl,rfl⟩⟩) hn
   ·have kV:=hc
    rw[eF]at kV
    obtain⟨c,t,ho,kF,rfl,nG⟩:=te kV
    obtain⟨first,us,he,FB,hL⟩:=vZ (v:=a.eval (.tmp t)) xD (E t) (ow E nG)
    refine J1 f _ (first++c.args.map a.eval++us) hX hL ?_
    simp only[execOp,ho,resolve,kF,he,Deferred.ofValue,Sem.run_bind,Sem.run_pure,Result.andThen_ok,invoke]
    exact jE FB
  ·exact hv.elim
 ·rename_i m x y eF
  split at hv
  ·rename_i v' g' he
   exact close v' g' (by unfold VS;rw[eF];rw[eF]at he;exact he) hv
  ·exact hv.elim
 ·rename_i m x y eF
  split at hv
  ·rename_i v' g' he
   exact close v' g' (by unfold VS;rw[eF];rw[eF]at he;exact he) hv
  ·exact hv.elim
 ·rename_i m x y eF
  split at hv
  ·rename_i v' g' he
   exact close v' g' (by unfold VS;rw[eF];rw[eF]at he;exact he) hv
  ·exact hv.elim
 ·rename_i m x eF
  split at hv
  ·rename_i v' g' he
   exact close v' g' (by unfold VS;rw[eF];rw[eF]at he;exact he) hv
  ·exact hv.elim
 ·rename_i m x eF
  split at hv
  ·rename_i v' g' he
   exact close v' g' (by unfold VS;rw[eF];rw[eF]at he;exact he) hv
  ·exact hv.elim
 ·rename_i n1 n2 n3 n4 n5 n6 n7
  split at hv
  ·rename_i v' r hq
   refine close v' (bL σ.get ⟨vo.site,σ.next⟩ r) ?_ hv
   unfold VS
   split
   ·rename_i h;exact(n1 _ _ h).elim
   ·rename_i h;exact(n2 _ _ h).elim
   ·rename_i h;exact(n3 _ _ _ h).elim
   ·rename_i h;exact(n4 _ _ _ h).elim
   ·rename_i h;exact(n5 _ _ _ h).elim
   ·rename_i h;exact(n6 _ _ h).elim
   ·rename_i h;exact(n7 _ _ h).elim
   ·exact⟨some r,hq,rfl⟩
  ·rename_i v' hq
   refine close v' σ.get ?_ hv
   unfold VS
   split
   ·rename_i h;exact(n1 _ _ h).elim
   ·rename_i h;exact(n2 _ _ h).elim
   ·rename_i h;exact(n3 _ _ _ h).elim
   ·rename_i h;exact(n4 _ _ _ h).elim
   ·rename_i h;exact(n5 _ _ _ h).elim
   ·rename_i h;exact(n6 _ _ h).elim
   ·rename_i h;exact(n7 _ _ h).elim
   ·exact⟨none,hq,rfl⟩
  ·exact hv.elim
structure St (P:Program) (hs nt:Nat) (D:Nat->Prop) (ι:Names) (env:Env) (σ:ar) (a:Act) (w:World):Prop where
 tz:gF P hs D ι σ.get w
 used:Used ι σ.next (fun _=>False)
 env:cE P w D ι env a
 size:a.tmps.size=nt
theorem wW (rest:List Oper) {ops:Array Oper} {nt site0:Nat} {draw mk:Bool} {bs:Array Nat} {hidden:List (Nat×Bool)} {K:Env->ar->Prop} {Q:Exit->Act->World->Prop}:∀(l:List Oper) (vl:List br) (j:Nat) (env:Env) (σ:ar) (a:Act) (w:World) (D:Nat->Prop) (ι:Names) (U:Nat->Prop),
  allM (kT P ops nt site0 draw mk bs hidden) l j=some vl->wpOps (Sound P) draw vl K env σ->gF P hs D ι σ.get w->Used ι σ.next U->(∀s,U s->s<site0+j)->cE P w D ι env a->a.tmps.size=nt->
  (∀iM σ' a' w' D' ι',K iM σ'->Step hs D ι w D' ι' w'->St P hs nt D' ι' iM σ' a' w'->a'.defers=a.defers->σ.next<=σ'.next->wpList P ops Q rest a' w')->wpList P ops Q (l++rest) a w:=by
 intro l
 induction l with
 |nil=>
  intro vl j env σ a w D ι U h hv S Us _ E fA hQ
  simp[allM]at h;subst h
  exact hQ env ⟨σ.get,σ.next+1⟩ a w D ι hv (Step.refl _ _ _ _) ⟨S,Us.next,E,fA⟩ rfl (Nat.le_succ _)
 |cons o l ih=>
  intro vl j env σ a w D ι U h hv S Us hU E fA hQ
  simp only[allM,Option.bind_eq_bind,Option.bind_eq_some_iff,Option.pure_def,Option.some.injEq]at h
  obtain⟨vo,pW,tH,sL,rfl⟩:=h
  obtain⟨hc,hd,BQ,xQ,hg⟩:=pq pW
  have hw:=tJ (ops:=ops) (vo:=vo) E hg
  unfold wpOps at hv
  show wpList P ops Q (o::(l++rest)) a w
  unfold wpList
  rw[<-hw]
  split at hv
  ·rename_i GU
   rw[if_pos GU]
   refine .inl (zh hc hv S Us (fun h=>by have:=hU _ h;omega) E fun v σ' u D' ι' w' hn T S' hR U' hle=>?_)
   refine ih tH (j+1) (upd env vo.dst v) σ' (a.put o.dst u) w' D' ι' _ sL hn S' U' (fun s BN=>by
    rcases BN with h|h
    ·have:=hU _ h;omega
    ·omega) (by rw[hd];exact iF (oH E T) hR xQ fA) (by rw[fc];exact fA) fun iM σ2 a' w2 D2 ι2 hk T2 NQ DQ nh=>hQ iM σ2 a' w2 D2 ι2 hk (T.trans T2) NQ (DQ.trans (put_defers _ _ _)) (Nat.le_trans hle nh)
  ·rename_i GU
   rw[if_neg GU]
   refine ih tH (j+1) (upd env vo.dst .undef) σ (a.put o.dst undef) w D ι U sL hv S Us (fun s BN=>by have:=hU _ BN;omega) (by rw[hd];exact iF E cL.undef xQ fA) (by rw[fc];exact fA) fun iM σ2 a' w2 D2 ι2 hk T2 NQ DQ nh=>hQ iM σ2 a' w2 D2 ι2 hk T2 NQ (DQ.trans (put_defers _ _ _)) nh
theorem yX {ops:Array Oper} {nt site0:Nat} {draw mk:Bool} {bs:Array Nat} {hidden:List (Nat×Bool)} {K:Env->ar->Prop} {Q:Exit->Act->World->Prop}:∀(l:List Oper) (vl:List br) (j:Nat) (env:Env) (σ:ar) (a:Act) (w:World) (D:Nat->Prop) (ι:Names) (U:Nat->Prop),
  allM (kT P ops nt site0 draw mk bs hidden) l j=some vl->wpOps (Sound P) draw vl K env σ->gF P hs D ι σ.get w->Used ι σ.next U->(∀s,U s->s<site0+j)->cE P w D ι env a->a.tmps.size=nt->
  (∀iM σ' a' w' D' ι',K iM σ'->Step hs D ι w D' ι' w'->St P hs nt D' ι' iM σ' a' w'->a'.defers=a.defers->σ.next<=σ'.next->Q .normal a' w')->wpList P ops Q l a w:=fun l vl j env σ a w D ι U h hv S Us hU E fA hQ=>by
 have:=wW [] l vl j env σ a w D ι U h hv S Us hU E fA hQ
 rwa [List.append_nil]at this
end
end Go.Proofs.YtgoelphibofcmaaGreat.V

namespace Go.Proofs.YtgoelphibofcmaaGreat.V
open Go.RowKit
variable {P:Program} {w w':World} {D D' D2:Nat->Prop} {ι ι' ι2:Names}
section
variable {hs:Nat} {X:fP}
theorem bt {env ja:Env} {x:O} (h:∀t∈ib x,env t=ja t):dj env x=dj ja x:=by
 cases x with
 |t n=>exact h n (by simp[ib])
 |_=>rfl
theorem map_congr {env ja:Env} {l:List O} (h:∀t∈l.flatMap ib,env t=ja t):l.map (dj env)=l.map (dj ja):=
 List.map_congr_left fun x hx=>bt fun t ht=>h t (List.mem_flatMap.2 ⟨x,hx,ht⟩)
theorem pD {env ja:Env} {x:Option O} (h:∀t∈wY x,env t=ja t):x.map (dj env)=x.map (dj ja):=by
 cases x with
 |none=>rfl
 |some y=>simp only[Option.map_some];rw[bt h]
theorem tr {env ja:Env} {o:gH} {g:Rows} {id:Id} (h:∀t∈o.gO,env t=ja t):eS o (dj env) g id=eS o (dj ja) g id:=by
 cases o<;>simp only[gH.gO,List.mem_append]at h<;>simp only[eS]
 case dv x=>rw[bt h]
 case pick c a b=>rw[bt (x:=c) fun t ht=>h t (.inl (.inl ht)),bt (x:=a) fun t ht=>h t (.inl (.inr ht)),bt (x:=b) fun t ht=>h t (.inr ht)]
 case box x=>rw[bt h]
 case build z ps=>
  have:(ps.map fun(x:Nat×Nat×O)=>(x.1,x.2.1,dj env x.2.2))=ps.map fun(x:Nat×Nat×O)=>(x.1,x.2.1,dj ja x.2.2):=List.map_congr_left fun x hx=>by
   rw[bt (x:=x.2.2) fun t ht=>h t (List.mem_flatMap.2 ⟨x,hx,ht⟩)]
  rw[this]
 case lQ a b l=>rw[map_congr h]
 case load a n x=>rw[bt h]
 case AL x=>rw[bt h]
 case bin a b x y=>rw[bt (x:=x) fun t ht=>h t (.inl ht),bt (x:=y) fun t ht=>h t (.inr ht)]
 case sh a x y=>rw[bt (x:=x) fun t ht=>h t (.inl ht),bt (x:=y) fun t ht=>h t (.inr ht)]
 case Lv a x y=>rw[bt (x:=x) fun t ht=>h t (.inl ht),bt (x:=y) fun t ht=>h t (.inr ht)]
 case N9 a b x y=>rw[bt (x:=x) fun t ht=>h t (.inl ht),bt (x:=y) fun t ht=>h t (.inr ht)]
 case SM a b x y=>rw[bt (x:=x) fun t ht=>h t (.inl ht),bt (x:=y) fun t ht=>h t (.inr ht)]
 case Q3 a b x=>rw[bt h]
 case SN a x=>rw[bt h]
 case not x=>rw[bt h]
 case neg x=>rw[bt h]
 case conv k x=>rw[bt h]
 case Fq x=>rw[bt h]
 case slice s x lo hi=>rw[bt (x:=x) fun t ht=>h t (.inl (.inl ht)),pD (x:=lo) fun t ht=>h t (.inl (.inr ht)),pD (x:=hi) fun t ht=>h t (.inr ht)]
 case An x lo hi=>rw[bt (x:=x) fun t ht=>h t (.inl (.inl ht)),pD (x:=lo) fun t ht=>h t (.inl (.inr ht)),pD (x:=hi) fun t ht=>h t (.inr ht)]
 case gh k x=>rw[bt h]
 case field a b c x=>rw[bt h]
 case dS s x y=>rw[bt (x:=x) fun t ht=>h t (.inl ht),bt (x:=y) fun t ht=>h t (.inr ht)]
 case L3 n s x y=>rw[bt (x:=x) fun t ht=>h t (.inl ht),bt (x:=y) fun t ht=>h t (.inr ht)]
 case L5 x y=>rw[bt (x:=x) fun t ht=>h t (.inl ht),bt (x:=y) fun t ht=>h t (.inr ht)]
 case eR a b c x y=>rw[bt (x:=x) fun t ht=>h t (.inl ht),bt (x:=y) fun t ht=>h t (.inr ht)]
 case extract i x=>rw[bt h]
 case len x=>rw[bt h]
 case Mf x=>rw[bt h]
 case JV x=>rw[bt h]
 case JL x=>rw[bt h]
 case Mm f l=>rw[map_congr h]
 case Mn f l=>rw[map_congr h]
 case mq f l=>rw[map_congr h]
 case j6 z x y=>rw[bt (x:=x) fun t ht=>h t (.inl ht),bt (x:=y) fun t ht=>h t (.inr ht)]
theorem il {env ja:Env} {o:gH} {g:Rows} {id:Id} (h:∀t∈o.gO,env t=ja t):ga o (dj env) g id=ga o (dj ja) g id:=by
 cases o<;>simp only[gH.gO,List.mem_append]at h<;>simp only[ga]
 case clear z x=>rw[bt h]
 case mw f l=>rw[map_congr h]
 all_goals rename_i a x y
 all_goals rw[bt (x:=x) fun t ht=>h t (.inl ht),bt (x:=y) fun t ht=>h t (.inr ht)]
theorem Iw {n:Nat} {vo:br} {env ja:Env} {g g':Rows} {v:AV} (h:∀t∈vo.op.gO,env t=ja t) (hv:VS X n vo env g v g'):VS X n vo ja g v g':=by
 unfold VS at hv ⊢
 split at hv
 ·rename_i f args eF
  rw[eF]at h
  simp only[gH.gO]at h
  rw[<-map_congr h];exact hv
 ·rename_i x args eF
  rw[eF]at h
  simp only[gH.gO,List.mem_append]at h
  rw[<-map_congr (l:=args) fun t ht=>h t (.inr ht),<-bt (x:=x) fun t ht=>h t (.inl ht)];exact hv
 ·rw[<-il h];exact hv
 ·rw[<-il h];exact hv
 ·rw[<-il h];exact hv
 ·rw[<-il h];exact hv
 ·rw[<-il h];exact hv
 ·rw[<-tr h];exact hv
theorem Et {q:MQ} {vs:List AV} {g:Rows} {id:Id} {v:AV} {r:Row} (h:bH q vs g id=some (v,some r)):∃m,q=.new m:=by
 unfold bH at h
 split at h
 ·exact⟨_,rfl⟩
 ·simp[Option.bind_eq_some_iff]at h
 ·simp at h
 ·cases h
theorem w6 {o:gH} {ρ:O->AV} {g:Rows} {id:Id} {v:AV} {r:Row} (h:eS o ρ g id=some (v,some r)):qR o=true:=by
 cases o<;>simp only[eS]at h<;>(try rfl)<;>(try simp at h)
 case mq q xs=>obtain⟨m,rfl⟩:=Et h;rfl
 all_goals (try(split at h<;>simp at h))
theorem w7 {o:gH} {ρ:O->AV} {g g2:Rows} {id id2:Id} (h:o.cls=.pure):eS o ρ g id=eS o ρ g2 id2:=by
 cases o<;>(try simp[gH.cls]at h)<;>(try simp only[eS])
 case mq q xs=>cases q<;>simp[gH.cls]at h
theorem vM {n:Nat} {vo:br} {env:Env} {g g':Rows} {v:AV} (hw:vo.op.cls≠.write) (hv:VS X n vo env g v g'):∃mr,g'=jr g ⟨vo.site,n⟩ mr/\(mr≠none->vo.makes=true)/\∀g0,fZ vo.hid n g0=fZ vo.hid n g->VS X n vo env g0 v (jr g0 ⟨vo.site,n⟩ mr):=by
 unfold VS at hv
 split at hv
 ·rename_i f args eF
  rcases hv with⟨h1,rfl⟩|⟨hs,sz,rows,hM,rfl,rfl⟩
  ·refine⟨none,rfl,fun h=>(h rfl).elim,fun g0 h0=>?_⟩
   unfold VS;rw[eF];simp only;unfold vY;rw[h0];exact .inl ⟨h1,rfl⟩
  ·refine⟨some _,rfl,fun _=>by unfold br.makes;rw[eF,hs];simp[gH.lT],fun g0 h0=>?_⟩
   unfold VS;rw[eF];simp only;unfold vY;rw[h0];exact .inr ⟨hs,sz,rows,hM,rfl,rfl⟩
 ·rename_i x args eF
  obtain⟨f,di,hx,hv⟩:=hv
  rcases hv with⟨h1,rfl⟩|⟨hs,sz,rows,hM,rfl,rfl⟩
  ·refine⟨none,rfl,fun h=>(h rfl).elim,fun g0 h0=>?_⟩
   unfold VS;rw[eF];simp only;unfold vY;rw[h0];exact⟨f,di,hx,.inl ⟨h1,rfl⟩⟩
  ·refine⟨some _,rfl,fun _=>by unfold br.makes;rw[eF,hs];simp[gH.lT],fun g0 h0=>?_⟩
   unfold VS;rw[eF];simp only;unfold vY;rw[h0];exact⟨f,di,hx,.inr ⟨hs,sz,rows,hM,rfl,rfl⟩⟩
 ·rename_i eF;rw[eF]at hw;exact(hw rfl).elim
 ·rename_i eF;rw[eF]at hw;exact(hw rfl).elim
 ·rename_i eF;rw[eF]at hw;exact(hw rfl).elim
 ·rename_i eF;rw[eF]at hw;exact(hw rfl).elim
 ·rename_i eF;rw[eF]at hw;exact(hw rfl).elim
 ·rename_i n1 n2 n3 n4 n5 n6 n7
  obtain⟨mr,hq,rfl⟩:=hv
  refine⟨mr,rfl,fun h=>?_,fun g0 h0=>?_⟩
  ·cases mr with
   |none=>exact(h rfl).elim
   |some r=>unfold br.makes;rw[w6 hq];rfl
  ·unfold VS
   split
   ·rename_i hh;exact(n1 _ _ hh).elim
   ·rename_i hh;exact(n2 _ _ hh).elim
   ·rename_i hh;exact(n3 _ _ _ hh).elim
   ·rename_i hh;exact(n4 _ _ _ hh).elim
   ·rename_i hh;exact(n5 _ _ _ hh).elim
   ·rename_i hh;exact(n6 _ _ hh).elim
   ·rename_i hh;exact(n7 _ _ hh).elim
   ·rw[h0];exact⟨mr,hq,rfl⟩
theorem zm {n:Nat} {vo:br} {env:Env} {g g':Rows} {v:AV} (hp:vo.op.cls=.pure) (hv:VS X n vo env g v g'):g'=g/\∀g0,VS X n vo env g0 v g0:=by
 unfold VS at hv
 split at hv
 ·rename_i eF;rw[eF]at hp;simp[gH.cls]at hp
 ·rename_i eF;rw[eF]at hp;simp[gH.cls]at hp
 ·rename_i eF;rw[eF]at hp;simp[gH.cls]at hp
 ·rename_i eF;rw[eF]at hp;simp[gH.cls]at hp
 ·rename_i eF;rw[eF]at hp;simp[gH.cls]at hp
 ·rename_i eF;rw[eF]at hp;simp[gH.cls]at hp
 ·rename_i eF;rw[eF]at hp;simp[gH.cls]at hp
 ·rename_i n1 n2 n3 n4 n5 n6 n7
  obtain⟨mr,hq,rfl⟩:=hv
  have Vc:mr=none:=by
   cases mr with
   |none=>rfl
   |some r=>have:=w6 hq;simp[qR,hp]at this
  subst Vc
  refine⟨rfl,fun g0=>?_⟩
  unfold VS
  split
  ·rename_i hh;exact(n1 _ _ hh).elim
  ·rename_i hh;exact(n2 _ _ hh).elim
  ·rename_i hh;exact(n3 _ _ _ hh).elim
  ·rename_i hh;exact(n4 _ _ _ hh).elim
  ·rename_i hh;exact(n5 _ _ _ hh).elim
  ·rename_i hh;exact(n6 _ _ hh).elim
  ·rename_i hh;exact(n7 _ _ hh).elim
  ·exact⟨none,by rw[w7 hp];exact hq,rfl⟩
def GS (X:fP) (n:Nat) (vo:br) (env:Env) (g:Rows) (v:AV) (g':Rows):Prop:=
 if aT vo.guard env then VS X n vo env g v g' else v=.undef/\g'=g
theorem CN {hid:List Nat} {g:Rows} {s n:Nat} {mr:Option Row} (h:mr≠none->hid.contains s=true):fZ hid n (jr g ⟨s,n⟩ mr)=fZ hid n g:=by
 cases mr with
 |none=>rfl
 |some r=>
  have hc:=h (by simp)
  cases hid with
  |nil=>simp at hc
  |cons a l=>
   funext i
   show(if (a::l).contains i.site=true/\i.bQ=n then none else jr g ⟨s,n⟩ (some r) i)=if (a::l).contains i.site=true/\i.bQ=n then none else g i
   by_cases hi:i=⟨s,n⟩
   ·subst hi;rw[if_pos ⟨hc,rfl⟩,if_pos ⟨hc,rfl⟩]
   ·simp only[jr,bL,if_neg hi]
theorem Gk {g:Rows} {i j:Id} (h:i≠j) (m1 m2:Option Row):jr (jr g i m1) j m2=jr (jr g j m2) i m1:=by
 cases m1<;>cases m2<;>simp only[jr]
 funext k
 simp only[bL]
 by_cases h1:k=i
 ·subst h1;rw[if_neg h,if_pos rfl];simp
 ·by_cases h2:k=j
  ·subst h2;simp[h1]
  ·simp[h1,h2]
theorem xr {env:Env} {d e:Option Nat} {v u:AV} (h:∀k,d=some k->e≠some k):upd (upd env d v) e u=upd (upd env e u) d v:=by
 cases d with
 |none=>rfl
 |some d=>
  cases e with
  |none=>rfl
  |some e=>
   have gP:d≠e:=fun he=>h d rfl (by rw[he])
   funext t
   simp only[upd]
   by_cases h1:t=d
   ·subst h1;rw[if_neg gP,if_pos rfl,if_pos rfl]
   ·by_cases h2:t=e
    ·subst h2;rw[if_pos rfl,if_neg h1,if_pos rfl]
    ·simp[h1,h2]
theorem mL {env:Env} {d:Option Nat} {v:AV} {l:List Nat} (h:∀k,d=some k->k∉l):∀t∈l,upd env d v t=env t:=by
 intro t ht
 cases d with
 |none=>rfl
 |some d=>
  have:t≠d:=fun he=>h d rfl (he▸ht)
  simp[upd,this]
structure C8 (x y:br):Prop where
 xy:∀k,x.dst=some k->k∉y.gO
 yx:∀k,y.dst=some k->k∉x.gO
 dst:∀k,x.dst=some k->y.dst≠some k
 cls:clash x.op.cls y.op.cls=false
 hx:x.makes=true->y.hid.contains x.site=true
 hy:y.makes=true->x.hid.contains y.site=true
 site:x.site≠y.site
theorem C8.symm {x y:br} (h:C8 x y):C8 y x:=
 ⟨h.yx,h.xy,fun k hk he=>h.dst k he hk,by have:=h.cls;revert this;cases x.op.cls<;>cases y.op.cls<;>simp[clash],h.hy,h.hx,fun e=>h.site e.symm⟩
theorem qy {x y:br} (h:Fz x y=true):C8 x y:=by
 unfold Fz at h
 simp only[Bool.and_eq_true,Bool.not_eq_true',Bool.or_eq_true,bne_iff_ne]at h
 obtain⟨⟨⟨⟨h1,h2⟩,h3⟩,h4⟩,h5⟩:=h
 unfold tG at h1
 simp only[Bool.and_eq_true]at h1
 obtain⟨a1,a2⟩:=h1
 refine⟨fun k hk=>?_,fun k hk=>?_,fun k hk=>?_,h2,fun hm=>?_,fun hm=>?_,h5⟩
 ·rw[hk]at a1;simp at a1;exact a1.1
 ·rw[hk]at a2;simpa using a2
 ·rw[hk]at a1;simp at a1;exact a1.2
 ·rcases h3 with h3|h3
  ·rw[hm]at h3;cases h3
  ·exact h3
 ·rcases h4 with h4|h4
  ·rw[hm]at h4;cases h4
  ·exact h4
theorem so {vo:br} {t:Nat} (h:t∈vo.op.gO):t∈vo.gO:=List.mem_append_left _ h
theorem nw {vo:br} {env ja:Env} (h:∀t∈vo.gO,env t=ja t):aT vo.guard env=aT vo.guard ja:=by
 unfold aT
 cases hg:vo.guard with
 |none=>rfl
 |some p=>
  obtain⟨t,b⟩:=p
  have:env t=ja t:=h t (List.mem_append_right _ (by rw[hg];simp))
  simp only[this]
theorem vz {n:Nat} {vo:br} {env ja:Env} {g g':Rows} {v:AV} (h:∀t∈vo.gO,env t=ja t) (hv:GS X n vo env g v g'):GS X n vo ja g v g':=by
 unfold GS at hv ⊢
 rw[<-nw h]
 split at hv
 ·rename_i hw;rw[if_pos hw];exact Iw (fun t ht=>h t (so ht)) hv
 ·rename_i hw;rw[if_neg hw];exact hv
theorem Fg {n:Nat} {x y:br} {env:Env} {g g1 g2:Rows} {v v':AV} (F:C8 x y) (h1:GS X n x env g v g1) (h2:GS X n y (upd env x.dst v) g1 v' g2):
  ∃LF,GS X n y env g v' LF/\GS X n x (upd env y.dst v') LF v g2/\upd (upd env x.dst v) y.dst v'=upd (upd env y.dst v') x.dst v:=by
 have Nt:=xr (env:=env) (v:=v) (u:=v') F.dst
 replace h2:GS X n y env g1 v' g2:=vz (mL F.xy) h2
 have back:∀{LF},GS X n x env LF v g2->GS X n x (upd env y.dst v') LF v g2:=fun h=>vz (fun t ht=>(mL F.yx t ht).symm) h
 unfold GS at h1 h2
 by_cases wx:aT x.guard env=true
 ·rw[if_pos wx]at h1
  by_cases wy:aT y.guard env=true
  ·rw[if_pos wy]at h2
   by_cases cx:x.op.cls=.write
   ·have cy:y.op.cls=.pure:=by
     have:=F.cls;rw[cx]at this
     cases hc:y.op.cls<;>simp[clash,hc]at this ⊢
    obtain⟨rfl,dC⟩:=zm cy h2
    exact⟨g,by unfold GS;rw[if_pos wy];exact dC g,back (by unfold GS;rw[if_pos wx];exact h1),Nt⟩
   ·by_cases cy:y.op.cls=.write
    ·have cx':x.op.cls=.pure:=by
      have:=F.cls;rw[cy]at this
      cases hc:x.op.cls<;>simp[clash,hc]at this ⊢
     obtain⟨rfl,dC⟩:=zm cx' h1
     exact⟨g2,by unfold GS;rw[if_pos wy];exact h2,back (by unfold GS;rw[if_pos wx];exact dC g2),Nt⟩
    ·obtain⟨mx,rfl,kx,T6⟩:=vM cx h1
     obtain⟨my,rfl,ky,NV⟩:=vM cy h2
     have gP:(⟨x.site,n⟩:Id)≠⟨y.site,n⟩:=fun e=>F.site (by injection e)
     refine⟨jr g ⟨y.site,n⟩ my,?_,back ?_,Nt⟩
     ·unfold GS;rw[if_pos wy]
      exact NV g (CN fun h=>F.hx (kx h)).symm
     ·unfold GS;rw[if_pos wx,Gk gP]
      exact T6 _ (CN fun h=>F.hy (ky h))
  ·rw[if_neg wy]at h2
   obtain⟨rfl,rfl⟩:=h2
   exact⟨g,by unfold GS;rw[if_neg wy];exact⟨rfl,rfl⟩,back (by unfold GS;rw[if_pos wx];exact h1),Nt⟩
 ·rw[if_neg wx]at h1
  obtain⟨rfl,rfl⟩:=h1
  exact⟨g2,h2,back (by unfold GS;rw[if_neg wx];exact⟨rfl,rfl⟩),Nt⟩
end
end Go.Proofs.YtgoelphibofcmaaGreat.V

namespace Go.Proofs.YtgoelphibofcmaaGreat.V
open Go.RowKit
variable {P:Program} {w w':World} {D D' D2:Nat->Prop} {ι ι' ι2:Names}
section
variable {hs:Nat} {X:fP}
def js (acc:Array Nat) (o:Oper):Nat:=o.after.foldl (fun s e=>if Region.binds .any e then s|||2 ^ e.on|||acc.getD e.on 0 else s) 0
theorem Lq (ops:Array Oper):jI ops=ops.foldl (fun acc o=>acc.push (js acc o)) #[]:=rfl
theorem A8 {acc:Array Nat} {o:Oper} {i:Nat} (h:(js acc o).testBit i=true):∃e∈o.after,Region.binds .any e=true/\(e.on=i∨(acc.getD e.on 0).testBit i=true):=by
 unfold js at h
 rw[<-Array.foldl_toList]at h
 have gen:∀(l:List Edge) (s:Nat),(l.foldl (fun s e=>if Region.binds .any e then s|||2 ^ e.on|||acc.getD e.on 0 else s) s).testBit i=true->s.testBit i=true∨∃e∈l,Region.binds .any e=true/\(e.on=i∨(acc.getD e.on 0).testBit i=true):=by
  intro l
  induction l with
  |nil=>intro s h;exact .inl h
  |cons e r ih=>
   intro s h
   rw[List.foldl_cons]at h
   rcases ih _ h with h|⟨e',LL,h'⟩
   ·by_cases hb:Region.binds .any e=true
    ·rw[if_pos hb]at h
     simp only[Nat.testBit_or,Bool.or_eq_true]at h
     rcases h with(h|h)|h
     ·exact .inl h
     ·refine .inr ⟨e,by simp,hb,.inl ?_⟩
      rw[Nat.testBit_two_pow]at h
      simpa using h
     ·exact .inr ⟨e,by simp,hb,.inr h⟩
    ·rw[if_neg hb]at h;exact .inl h
   ·exact .inr ⟨e',List.mem_cons_of_mem _ LL,h'⟩
 rcases gen _ _ h with h|⟨e,he,h⟩
 ·simp at h
 ·exact⟨e,Array.mem_toList_iff.1 he,h⟩
theorem IF {ops:Array Oper} {j i:Nat} (h:((jI ops).getD j 0).testBit i=true):∃o,ops[j]? =some o/\∃e∈o.after,Region.binds .any e=true/\(e.on=i∨((jI ops).getD e.on 0).testBit i=true):=by
 have key:∀(l pre:List Oper) (acc:Array Nat),acc.size=pre.length->(∀j i,(acc.getD j 0).testBit i=true->∃o,pre[j]? =some o/\∃e∈o.after,Region.binds .any e=true/\(e.on=i∨(acc.getD e.on 0).testBit i=true))->
   ∀j i,((l.foldl (fun acc o=>acc.push (js acc o)) acc).getD j 0).testBit i=true->∃o,(pre++l)[j]? =some o/\∃e∈o.after,Region.binds .any e=true/\(e.on=i∨((l.foldl (fun acc o=>acc.push (js acc o)) acc).getD e.on 0).testBit i=true):=by
  intro l
  induction l with
  |nil=>intro pre acc _ h j i hb;simpa using h j i hb
  |cons o r ih=>
   intro pre acc fA h j i hb
   have yW:∀k,k<acc.size->(acc.push (js acc o)).getD k 0=acc.getD k 0:=fun k hk=>by
    simp only[Array.getD_eq_getD_getElem?,Array.getElem?_push]
    rw[if_neg (by omega)]
   have big:∀k,acc.size<=k->acc.getD k 0=0:=fun k hk=>by simp[Array.getElem?_eq_none hk]
   have lift:∀k i,(acc.getD k 0).testBit i=true->((acc.push (js acc o)).getD k 0).testBit i=true:=fun k i hk=>by
    by_cases dZ:k<acc.size
    ·rw[yW k dZ];exact hk
    ·rw[big k (by omega)]at hk;simp at hk
   have:=ih (pre++[o]) (acc.push (js acc o)) (by simp[fA]) (fun j i hb=>by
    by_cases dZ:j<acc.size
    ·rw[yW j dZ]at hb
     obtain⟨o',C0,e,he,fX,h2⟩:=h j i hb
     refine⟨o',by rw[List.getElem?_append_left (by omega)];exact C0,e,he,fX,?_⟩
     rcases h2 with h2|h2
     ·exact .inl h2
     ·exact .inr (lift _ _ h2)
    ·by_cases hj:j=acc.size
     ·subst hj
      have e0:(acc.push (js acc o)).getD acc.size 0=js acc o:=by simp
      rw[e0]at hb
      obtain⟨e,he,fX,h2⟩:=A8 hb
      refine⟨o,by rw[List.getElem?_append_right (by omega),fA];simp,e,he,fX,?_⟩
      rcases h2 with h2|h2
      ·exact .inl h2
      ·exact .inr (lift _ _ h2)
     ·have:(acc.push (js acc o)).getD j 0=0:=by
       simp only[Array.getD_eq_getD_getElem?]
       rw[Array.getElem?_eq_none (by simp;omega)];rfl
      rw[this]at hb;simp at hb) j i (by simpa using hb)
   simpa using this
 rw[Lq,<-Array.foldl_toList]at h ⊢
 have:=key ops.toList [] #[] rfl (fun j i h=>by simp at h) j i h
 simpa using this
def DC (ops:Array Oper) (listed:Array Bool):Prop:=∀k i,listed.getD k false=true->((jI ops).getD k 0).testBit i=true->listed.getD i false=true
theorem la {ops:Array Oper} {listed:Array Bool} (h:DC ops listed) {j:Nat} (hj:j∈Region.ready .any ops listed):∀i,((jI ops).getD j 0).testBit i=true->listed.getD i false=true:=by
 intro i hb
 obtain⟨_,o,ho,dC⟩:=mem_ready.1 hj
 obtain⟨o',C0,e,he,fX,h2⟩:=IF hb
 rw[ho]at C0;injection C0 with C0;subst C0
 have hl:=dC e he fX
 rcases h2 with h2|h2
 ·rw[<-h2];exact hl
 ·exact h _ _ hl h2
theorem DC.list {ops:Array Oper} {listed:Array Bool} (h:DC ops listed) {j:Nat} (hj:j∈Region.ready .any ops listed):DC ops (listed.setIfInBounds j true):=by
 intro k i hk hb
 by_cases hkj:k=j
 ·subst hkj;exact getD_set_true (la h hj i hb)
 ·rw[getD_set_ne false (fun e=>hkj e.symm)]at hk
  exact getD_set_true (h k i hk hb)
theorem ji {ops:Array Oper} {listed:Array Bool} {j:Nat} (hj:j∈Region.ready .any ops listed):listed.getD j false=false:=by
 have h0:=(mem_ready.1 hj).1
 rcases Nat.lt_or_ge j listed.size with h|h
 ·simp[h]at h0 ⊢;exact h0
 ·simp[Array.getElem?_eq_none h]at h0
def KP (X:fP) (n:Nat) (ops:Array Oper) (vl:List br) (K:Env->Rows->Prop):Nat->Array Bool->Env->Rows->Prop
 |0,listed,env,g=>Region.ready .any ops listed=[]/\K env g
 |f+1,listed,env,g=>(Region.ready .any ops listed=[]->K env g)/\∀i∈Region.ready .any ops listed,∃vo,vl[i]? =some vo/\∃v g',GS X n vo env g v g'/\KP X n ops vl K f (listed.setIfInBounds i true) (upd env vo.dst v) g'
theorem Bk {ops:Array Oper} {vl:List br} (h:oG ops vl (jI ops)=true) {i j:Nat} {x y:br} (hi:vl[i]? =some x) (hj:vl[j]? =some y) (DW:i≠j) (h1:((jI ops).getD j 0).testBit i=false) (h2:((jI ops).getD i 0).testBit j=false):C8 x y:=by
 unfold oG at h
 simp only[Bool.and_eq_true,List.all_eq_true]at h
 obtain⟨_,h⟩:=h
 have mem:∀(k:Nat) (z:br),vl[k]? =some z->(z,k)∈vl.zipIdx:=fun k z hk=>by
  rw[List.mem_iff_getElem?]
  exact⟨k,by simp[List.getElem?_zipIdx,hk]⟩
 rcases Nat.lt_or_gt_of_ne DW with dZ|LN
 ·have:=h _ (mem j y hj) _ (mem i x hi)
  simp only[dZ,decide_true,Bool.not_true,Bool.false_or,h1]at this
  exact qy this
 ·have:=h _ (mem i x hi) _ (mem j y hj)
  simp only[LN,decide_true,Bool.not_true,Bool.false_or,h2]at this
  exact(qy this).symm
theorem Fc {n:Nat} {ops:Array Oper} {vl:List br} {K:Env->Rows->Prop} (wK:oG ops vl (jI ops)=true) (hlen:vl.length=ops.size) {i:Nat} {vi:br} (hi:vl[i]? =some vi) {v:AV}:∀(fuel:Nat) (listed:Array Bool) (env:Env) (g g1:Rows),
  DC ops listed->i∈Region.ready .any ops listed->GS X n vi env g v g1->KP X n ops vl K fuel (listed.setIfInBounds i true) (upd env vi.dst v) g1->KP X n ops vl K (fuel+1) listed env g:=by
 intro fuel
 induction fuel with
 |zero=>
  intro listed env g g1 _ hr hG H
  refine⟨fun h=>(by rw[h]at hr;cases hr),fun j hj=>?_⟩
  by_cases mO:j=i
  ·subst mO;exact⟨vi,hi,v,g1,hG,H⟩
  ·have:=ready_mono hj mO
   rw[H.1]at this;cases this
 |succ fuel ih=>
  intro listed env g g1 sH hr hG H
  refine⟨fun h=>(by rw[h]at hr;cases hr),fun j hj=>?_⟩
  by_cases mO:j=i
  ·subst mO;exact⟨vi,hi,v,g1,hG,H⟩
  ·obtain⟨vj,L0,v',g2,hG2,H2⟩:=H.2 j (ready_mono hj mO)
   have b1:((jI ops).getD j 0).testBit i=false:=by
    cases hb:((jI ops).getD j 0).testBit i with
    |false=>rfl
    |true=>have:=la sH hj i hb;rw[ji hr]at this;cases this
   have b2:((jI ops).getD i 0).testBit j=false:=by
    cases hb:((jI ops).getD i 0).testBit j with
    |false=>rfl
    |true=>have:=la sH hr j hb;rw[ji hj]at this;cases this
   have F:=Bk wK hi L0 (fun e=>mO e.symm) b1 b2
   obtain⟨LF,q1,q2,q3⟩:=Fg F hG hG2
   refine⟨vj,L0,v',LF,q1,ih _ _ _ g2 (sH.list hj) (ready_mono hr (fun e=>mO e.symm)) q2 ?_⟩
   rw[<-q3,Array.setIfInBounds_comm _ _ mO]
   exact H2
theorem NS {n:Nat} {vo:br} {env:Env} {g:Rows} {v:AV} {mr:Option Row} (h:eS vo.op (dj env) (fZ vo.hid n g) ⟨vo.site,n⟩=some (v,mr)):VS X n vo env g v (jr g ⟨vo.site,n⟩ mr):=by
 unfold VS
 split
 ·rename_i eF;rw[eF]at h;simp[eS]at h
 ·rename_i eF;rw[eF]at h;simp[eS]at h
 ·rename_i eF;rw[eF]at h;simp[eS]at h
 ·rename_i eF;rw[eF]at h;simp[eS]at h
 ·rename_i eF;rw[eF]at h;simp[eS]at h
 ·rename_i eF;rw[eF]at h;simp[eS]at h
 ·rename_i eF;rw[eF]at h;simp[eS]at h
 ·exact⟨mr,h,rfl⟩
theorem Ix {n:Nat} {vo:br} {env:Env} {g g':Rows} {v:AV} (h:ga vo.op (dj env) g ⟨vo.site,n⟩=some (v,g')):VS X n vo env g v g':=by
 unfold VS
 split
 ·rename_i eF;rw[eF]at h;simp[ga]at h
 ·rename_i eF;rw[eF]at h;simp[ga]at h
 ·exact h
 ·exact h
 ·exact h
 ·exact h
 ·exact h
 ·rename_i n1 n2 n3 n4 n5 n6 n7
  exfalso
  unfold ga at h
  split at h
  ·rename_i hh;exact n3 _ _ _ hh
  ·rename_i hh;exact n4 _ _ _ hh
  ·rename_i hh;exact n5 _ _ _ hh
  ·rename_i hh;exact n6 _ _ hh
  ·rename_i hh;exact n7 _ _ hh
  ·simp at h
theorem PO {vo:br} {env:Env} {σ:ar} {next:AV->ar->Prop} (hv:fK X true vo env σ next):∃v g',VS X σ.next vo env σ.get v g'/\next v ⟨g',σ.next⟩:=by
 unfold fK at hv
 split at hv
 ·rename_i f args eF
  rcases hv with⟨r,hP,hn⟩|⟨h,_⟩|⟨hs,sz,rows,hM,hn⟩
  ·exact⟨r,σ.get,by unfold VS;rw[eF];exact .inl ⟨hP,rfl⟩,hn⟩
  ·cases h
  ·exact⟨_,_,by unfold VS;rw[eF];exact .inr ⟨hs,sz,rows,hM,rfl,rfl⟩,hn⟩
 ·rename_i x args eF
  split at hv
  ·rename_i f di hx
   have xD:vW (dj env x) (args.map (dj env))=some (f,args.map (dj env)++di):=by rw[hx];rfl
   rcases hv with⟨r,hP,hn⟩|⟨h,_⟩|⟨hs,sz,rows,hM,hn⟩
   ·exact⟨r,σ.get,by unfold VS;rw[eF];exact⟨f,_,xD,.inl ⟨hP,rfl⟩⟩,hn⟩
   ·cases h
   ·exact⟨_,_,by unfold VS;rw[eF];exact⟨f,_,xD,.inr ⟨hs,sz,rows,hM,rfl,rfl⟩⟩,hn⟩
  ·rename_i f di hx
   have xD:vW (dj env x) (args.map (dj env))=some (f,di++args.map (dj env)):=by rw[hx];rfl
   rcases hv with⟨r,hP,hn⟩|⟨h,_⟩|⟨hs,sz,rows,hM,hn⟩
   ·exact⟨r,σ.get,by unfold VS;rw[eF];exact⟨f,_,xD,.inl ⟨hP,rfl⟩⟩,hn⟩
   ·cases h
   ·exact⟨_,_,by unfold VS;rw[eF];exact⟨f,_,xD,.inr ⟨hs,sz,rows,hM,rfl,rfl⟩⟩,hn⟩
  ·exact hv.elim
 ·split at hv
  ·rename_i v g h;exact⟨v,g,Ix h,hv⟩
  ·exact hv.elim
 ·split at hv
  ·rename_i v g h;exact⟨v,g,Ix h,hv⟩
  ·exact hv.elim
 ·split at hv
  ·rename_i v g h;exact⟨v,g,Ix h,hv⟩
  ·exact hv.elim
 ·split at hv
  ·rename_i v g h;exact⟨v,g,Ix h,hv⟩
  ·exact hv.elim
 ·split at hv
  ·rename_i v g h;exact⟨v,g,Ix h,hv⟩
  ·exact hv.elim
 ·split at hv
  ·rename_i v r h;exact⟨v,_,NS h,hv⟩
  ·rename_i v h;exact⟨v,_,NS h,hv⟩
  ·exact hv.elim
theorem xt {ops:Array Oper} {vl:List br} {K:Env->ar->Prop} {n:Nat} (wK:oG ops vl (jI ops)=true) (hlen:vl.length=ops.size):∀(r:List br) (k:Nat) (listed:Array Bool) (env:Env) (g:Rows),
  (∀j,r[j]? =vl[k+j]?)->listed.size=ops.size->(∀i,i<ops.size->listed[i]? =some (decide (i<k)))->k+r.length=ops.size->DC ops listed->wpOps X true r K env ⟨g,n⟩->KP X n ops vl (fun env g=>K env ⟨g,n+1⟩) r.length listed env g
 |[],k,listed,env,g,_,fA,hl,hk,_,hv=>by
  refine⟨?_,hv⟩
  rw[List.eq_nil_iff_forall_not_mem]
  intro j hj
  obtain⟨h0,o,ho,_⟩:=mem_ready.1 hj
  have dZ:j<ops.size:=(Array.getElem?_eq_some_iff.1 ho).1
  have:=hl j dZ
  simp at hk
  simp[this,show j<k by omega]at h0
 |vo::r,k,listed,env,g,hr,fA,hl,hk,sH,hv=>by
  simp only[List.length_cons]at hk
  have pW:vl[k]? =some vo:=by simpa using(hr 0).symm
  have l6:k<ops.size:=by omega
  have Jv:k∈Region.ready .any ops listed:=by
   rw[mem_ready]
   refine⟨by simp[hl k l6],ops[k],Array.getElem?_eq_getElem l6,fun e he hb=>?_⟩
   unfold oG Ft at wK
   simp only[Bool.and_eq_true,List.all_eq_true]at wK
   have hm:(ops[k],k)∈ops.toList.zipIdx:=by
    rw[List.mem_iff_getElem?]
    exact⟨k,by simp[List.getElem?_zipIdx,l6]⟩
   have:=wK.1 _ hm
   rw[Array.all_eq_true_iff_forall_mem]at this
   have:=this e he
   simp only[hb,Bool.not_true,Bool.false_or,decide_eq_true_eq]at this
   simp[hl e.on (by omega),this]
  have hGS:∃v g',GS X n vo env g v g'/\wpOps X true r K (upd env vo.dst v) ⟨g',n⟩:=by
   unfold wpOps at hv
   unfold GS
   split at hv
   ·rename_i hw
    simp only[hw,if_true]
    exact PO hv
   ·rename_i hw
    simp only[hw]
    exact⟨.undef,g,⟨rfl,rfl⟩,hv⟩
  obtain⟨v,g',h1,h2⟩:=hGS
  refine Fc wK hlen pW r.length listed env g g' sH Jv h1 ?_
  refine xt wK hlen r (k+1) _ _ _ (fun j=>by have:=hr (j+1);simpa[Nat.add_assoc,Nat.add_comm 1 j]using this) (by simp[fA]) (fun i hi=>?_) (by omega) (sH.list Jv) h2
  by_cases yC:i=k
  ·subst yC;simp[fA,l6]
  ·rw[Array.getElem?_setIfInBounds_ne (fun e=>yC e.symm),hl i hi]
   congr 1
   have:(i<k)=(i<k+1):=by apply propext;omega
   simp[this]
theorem ou {f:Nat->Oper->Option br}:∀{l:List Oper} {vl:List br} {j:Nat},allM f l j=some vl->vl.length=l.length/\∀(i:Nat) (o:Oper),l[i]? =some o->∃vo,vl[i]? =some vo/\f (j+i) o=some vo
 |[],vl,j,h=>by simp[allM]at h;subst h;simp
 |o::l,vl,j,h=>by
  simp only[allM,Option.bind_eq_bind,Option.bind_eq_some_iff,Option.pure_def,Option.some.injEq]at h
  obtain⟨vo,pW,tH,sL,rfl⟩:=h
  obtain⟨h1,h2⟩:=ou sL
  refine⟨by simp[h1],fun i o' hi=>?_⟩
  cases i with
  |zero=>simp at hi;subst hi;exact⟨vo,rfl,pW⟩
  |succ i=>
   simp at hi
   obtain⟨q,hq,hf⟩:=h2 i o' hi
   exact⟨q,by simpa using hq,by rw[<-hf];congr 1;omega⟩
theorem yf {ops:Array Oper} {vl:List br} {nt site0:Nat} {draw mk:Bool} {bs:Array Nat} {hidden:List (Nat×Bool)} {n:Nat} {K:Env->Rows->Prop} {Q:Exit->Act->World->Prop} (dC:allM (kT P ops nt site0 draw mk bs hidden) ops.toList 0=some vl):
  ∀(fuel:Nat) (listed:Array Bool) (env:Env) (g:Rows) (a:Act) (w:World) (D:Nat->Prop) (ι:Names) (U:Nat->Prop),KP (Sound P) n ops vl K fuel listed env g->gF P hs D ι g w->Used ι n U->(∀s,U s->∃i,s=site0+i/\listed.getD i false=true)->cE P w D ι env a->a.tmps.size=nt->
  (∀iM g' a' w' D' ι' U',K iM g'->Step hs D ι w D' ι' w'->gF P hs D' ι' g' w'->Used ι' n U'->cE P w' D' ι' iM a'->a'.tmps.size=nt->a'.defers=a.defers->Q .normal a' w')->wpAny P .any ops Q fuel listed a w:=by
 intro fuel
 induction fuel with
 |zero=>intro listed env g a w D ι U h S Us hU E fA hQ;exact⟨h.1,hQ env g a w D ι U h.2 (Step.refl _ _ _ _) S Us E fA rfl⟩
 |succ fuel ih=>
  intro listed env g a w D ι U h S Us hU E fA hQ
  refine⟨fun hr=>hQ env g a w D ι U (h.1 hr) (Step.refl _ _ _ _) S Us E fA rfl,fun i hi=>?_⟩
  obtain⟨vo,pW,v,g',hG,Np⟩:=h.2 i hi
  obtain⟨_,o,ho,_⟩:=mem_ready.1 hi
  obtain⟨vo',mj,Rj⟩:=(ou dC).2 i o (by simpa using ho)
  rw[pW]at mj;injection mj with mj;subst mj
  rw[Nat.zero_add]at Rj
  obtain⟨hc,hd,BQ,xQ,hg⟩:=pq Rj
  have hw:=tJ (ops:=ops) (vo:=vo) E hg
  have UD:¬U vo.site:=fun hu=>by
   obtain⟨i',he,hl⟩:=hU _ hu
   have:i'=i:=by omega
   subst this
   rw[ji hi]at hl;cases hl
  have jJ:i<listed.size:=by
   have h0:=(mem_ready.1 hi).1
   rcases Nat.lt_or_ge i listed.size with h|h
   ·exact h
   ·simp[Array.getElem?_eq_none h]at h0
  unfold wpOp
  simp only[ho]
  rw[<-hw]
  unfold GS at hG
  by_cases GU:aT vo.guard env=true
  ·rw[if_pos GU]
   rw[if_pos GU]at hG
   refine .inl (AX hc hG S Us UD E fun a' w' ⟨u,D',ι',ha,T,S',hR,U'⟩=>?_)
   subst ha
   refine ih _ _ _ _ w' D' ι' _ Np S' U' (fun s BN=>?_) (by rw[hd];exact iF (oH E T) hR xQ fA) (by rw[fc];exact fA) fun iM g2 a2 w2 D2 ι2 U2 hk T2 S2 T5 E2 kO DQ=>hQ iM g2 a2 w2 D2 ι2 U2 hk (T.trans T2) S2 T5 E2 kO (DQ.trans (put_defers _ _ _))
   rcases BN with h|h
   ·obtain⟨i',he,hl⟩:=hU _ h
    exact⟨i',he,getD_set_true hl⟩
   ·exact⟨i,by rw[h,BQ],by simp[jJ]⟩
  ·rw[if_neg GU]
   rw[if_neg GU]at hG
   obtain⟨rfl,rfl⟩:=hG
   refine ih _ _ _ _ w D ι U Np S Us (fun s BN=>?_) (by rw[hd];exact iF E cL.undef xQ fA) (by rw[fc];exact fA) fun iM g2 a2 w2 D2 ι2 U2 hk T2 S2 T5 E2 kO DQ=>hQ iM g2 a2 w2 D2 ι2 U2 hk T2 S2 T5 E2 kO (DQ.trans (put_defers _ _ _))
   obtain⟨i',he,hl⟩:=hU _ BN
   exact⟨i',he,getD_set_true hl⟩
end
end Go.Proofs.YtgoelphibofcmaaGreat.V

namespace Go.Proofs.YtgoelphibofcmaaGreat.V
open Go.RowKit
variable {P:Program} {w w':World} {D D' D2:Nat->Prop} {ι ι' ι2:Names}
section
variable {hs:Nat} {X:fP}
def pZ (X:fP):Prop:=∀f args σ K K',(∀r σ',K r σ'->K' r σ')->X f args σ K->X f args σ K'
theorem kS:pZ (Sound P):=fun _ _ _ _ _ hK h hs D ι w vs S U A=>
 (h hs D ι w vs S U A).mono fun _ _ ⟨r,g',n',D',ι',u,he,hk,rest⟩=>⟨r,g',n',D',ι',u,he,hK _ _ hk,rest⟩
def step (X:fP) (vo:br) (N:Env->ar->Prop) (env:Env) (σ:ar):Prop:=
 if aT vo.guard env then fK X false vo env σ fun v σ'=>N (upd env vo.dst v) σ' else N (upd env vo.dst .undef) σ
theorem qp (hK:pZ X) {draw:Bool} {hid:List Nat} {site f:Nat} {args:List AV} {σ:ar} {n n':AV->ar->Prop} (hn:∀v σ',n v σ'->n' v σ') (hp:cJ X draw hid site f args σ n):cJ X draw hid site f args σ n':=by
 rcases hp with⟨r,h1,h2⟩|⟨h1,h2⟩|⟨h1,sz,rows,h2,h3⟩
 ·exact .inl ⟨r,h1,hn _ _ h2⟩
 ·exact .inr (.inl ⟨h1,hK _ _ _ _ _ hn h2⟩)
 ·exact .inr (.inr ⟨h1,sz,rows,h2,hn _ _ h3⟩)
theorem CO (hK:pZ X) {draw:Bool} {o:br} {env:Env} {σ:ar} {n n':AV->ar->Prop} (hn:∀v σ',n v σ'->n' v σ') (hp:fK X draw o env σ n):fK X draw o env σ n':=by
 unfold fK at hp ⊢
 split at hp
 ·exact qp hK hn hp
 ·split at hp
  ·exact qp hK hn hp
  ·exact qp hK hn hp
  ·exact hp.elim
 ·split at hp
  ·exact hn _ _ hp
  ·exact hp.elim
 ·split at hp
  ·exact hn _ _ hp
  ·exact hp.elim
 ·split at hp
  ·exact hn _ _ hp
  ·exact hp.elim
 ·split at hp
  ·exact hn _ _ hp
  ·exact hp.elim
 ·split at hp
  ·exact hn _ _ hp
  ·exact hp.elim
 ·split at hp
  ·exact hn _ _ hp
  ·exact hn _ _ hp
  ·exact hp.elim
theorem jY (hK:pZ X) {vo:br} {N N':Env->ar->Prop} (h:∀e s,N e s->N' e s) {env:Env} {σ:ar} (hp:step X vo N env σ):step X vo N' env σ:=by
 unfold step at hp ⊢
 split at hp
 ·rename_i hw;rw[if_pos hw];exact CO hK (fun v σ'=>h _ _) hp
 ·rename_i hw;rw[if_neg hw];exact h _ _ hp
theorem HS {env ja:Env} {vo:br} {σ:ar} {n:AV->ar->Prop} (h:∀t∈vo.op.gO,env t=ja t) (hv:fK X false vo env σ n):fK X false vo ja σ n:=by
 unfold fK at hv ⊢
 split at hv
 ·rename_i f args eF
  rw[eF]at h
  simp only[gH.gO]at h
  rw[<-map_congr h];exact hv
 ·rename_i x args eF
  rw[eF]at h
  simp only[gH.gO,List.mem_append]at h
  rw[<-map_congr (l:=args) fun t ht=>h t (.inr ht),<-bt (x:=x) fun t ht=>h t (.inl ht)];exact hv
 ·rw[<-il h];exact hv
 ·rw[<-il h];exact hv
 ·rw[<-il h];exact hv
 ·rw[<-il h];exact hv
 ·rw[<-il h];exact hv
 ·rw[<-tr h];exact hv
theorem lO {x:br} (hq:k9 x=true) {N:Env->ar->Prop} {env:Env} {σ:ar}:step X x N env σ↔∃v g',GS X σ.next x env σ.get v g'/\N (upd env x.dst v) ⟨g',σ.next⟩:=by
 unfold k9 at hq
 simp only[Bool.and_eq_true,Bool.not_eq_true',bne_iff_ne]at hq
 obtain⟨FH,mQ⟩:=hq
 unfold step GS
 by_cases hw:aT x.guard env=true
 ·rw[if_pos hw]
  simp only[hw,if_true]
  unfold fK
  split
  ·rename_i eF;simp[eF,gH.lT]at FH
  ·rename_i eF;simp[eF,gH.lT]at FH
  ·rename_i eF;simp[eF,gH.cls]at mQ
  ·rename_i eF;simp[eF,gH.cls]at mQ
  ·rename_i eF;simp[eF,gH.cls]at mQ
  ·rename_i eF;simp[eF,gH.cls]at mQ
  ·rename_i eF;simp[eF,gH.cls]at mQ
  ·rename_i n1 n2 n3 n4 n5 n6 n7
   have hVS:∀v g',VS X σ.next x env σ.get v g'↔∃mr,eS x.op (dj env) (fZ x.hid σ.next σ.get) ⟨x.site,σ.next⟩=some (v,mr)/\g'=jr σ.get ⟨x.site,σ.next⟩ mr:=fun v g'=>by
    unfold VS
    split
    ·rename_i hh;exact(n1 _ _ hh).elim
    ·rename_i hh;exact(n2 _ _ hh).elim
    ·rename_i hh;exact(n3 _ _ _ hh).elim
    ·rename_i hh;exact(n4 _ _ _ hh).elim
    ·rename_i hh;exact(n5 _ _ _ hh).elim
    ·rename_i hh;exact(n6 _ _ hh).elim
    ·rename_i hh;exact(n7 _ _ hh).elim
    ·exact Iff.rfl
   simp only[hVS]
   cases hz:eS x.op (dj env) (fZ x.hid σ.next σ.get) ⟨x.site,σ.next⟩with
   |none=>
    exact⟨fun h=>h.elim,fun⟨v,g',⟨mr,h,_⟩,_⟩=>by cases h⟩
   |some p=>
    obtain⟨v,mr⟩:=p
    have key:∀(v':AV) (g':Rows),(∃QL,some (v,mr)=some (v',QL)/\g'=jr σ.get ⟨x.site,σ.next⟩ QL)↔v'=v/\g'=jr σ.get ⟨x.site,σ.next⟩ mr:=fun v' g'=>by
     constructor
     ·rintro⟨QL,h1,h2⟩
      injection h1 with h1;injection h1 with h1 h3
      subst h1;subst h3
      exact⟨rfl,h2⟩
     ·rintro⟨rfl,rfl⟩;exact⟨mr,rfl,rfl⟩
    have fin:(∃v' g',(∃QL,some (v,mr)=some (v',QL)/\g'=jr σ.get ⟨x.site,σ.next⟩ QL)/\N (upd env x.dst v') ⟨g',σ.next⟩)↔N (upd env x.dst v) ⟨jr σ.get ⟨x.site,σ.next⟩ mr,σ.next⟩:=by
     constructor
     ·rintro⟨v',g',h,hN⟩
      obtain⟨rfl,rfl⟩:=(key v' g').1 h
      exact hN
     ·intro hN;exact⟨v,_,(key _ _).2 ⟨rfl,rfl⟩,hN⟩
    cases mr with
    |none=>exact fin.symm
    |some r=>exact fin.symm
 ·rw[if_neg hw]
  simp only[if_neg hw]
  exact⟨fun h=>⟨_,_,⟨rfl,rfl⟩,h⟩,fun⟨v,g',⟨hv,hg⟩,h⟩=>by rw[hv,hg]at h;exact h⟩
def xv (x:br) (env:Env) (v:AV):Prop:=if aT x.guard env then eS x.op (dj env) (fun _=>none) ⟨0,0⟩=some (v,none)else v=.undef
theorem w5 {x:br} (hp:x.op.cls=.pure):k9 x=true:=by
 unfold k9
 rw[hp]
 cases hc:x.op<;>simp[hc,gH.cls]at hp<;>rfl
theorem tC {x:br} (hp:x.op.cls=.pure) {N:Env->ar->Prop} {env:Env} {σ:ar}:step X x N env σ↔∃v,xv x env v/\N (upd env x.dst v) σ:=by
 rw[lO (w5 hp)]
 unfold GS xv
 by_cases hw:aT x.guard env=true
 ·simp only[hw,if_true]
  constructor
  ·rintro⟨v,g',h,hN⟩
   obtain⟨rfl,dC⟩:=zm hp h
   refine⟨v,?_,hN⟩
   unfold VS at h
   split at h
   ·rename_i eF;rw[eF]at hp;simp[gH.cls]at hp
   ·rename_i eF;rw[eF]at hp;simp[gH.cls]at hp
   ·rename_i eF;rw[eF]at hp;simp[gH.cls]at hp
   ·rename_i eF;rw[eF]at hp;simp[gH.cls]at hp
   ·rename_i eF;rw[eF]at hp;simp[gH.cls]at hp
   ·rename_i eF;rw[eF]at hp;simp[gH.cls]at hp
   ·rename_i eF;rw[eF]at hp;simp[gH.cls]at hp
   ·obtain⟨mr,hq,_⟩:=h
    have Vc:mr=none:=by
     cases mr with
     |none=>rfl
     |some r=>have:=w6 hq;simp[qR,hp]at this
    subst Vc
    rw[<-w7 (g:=fZ x.hid σ.next σ.get) (id:=⟨x.site,σ.next⟩) hp];exact hq
  ·rintro⟨v,h,hN⟩
   exact⟨v,σ.get,NS (mr:=none) (by rw[w7 (g2:=fun _=>none) (id2:=⟨0,0⟩) hp];exact h),hN⟩
 ·simp only[if_neg hw]
  exact⟨fun⟨v,g',⟨hv,hg⟩,h⟩=>⟨v,hv,by rw[hg]at h;exact h⟩,fun⟨v,hv,h⟩=>⟨v,σ.get,⟨hv,rfl⟩,h⟩⟩
theorem KW {x:br} {env ja:Env} {v:AV} (h:∀t∈x.gO,env t=ja t) (hv:xv x env v):xv x ja v:=by
 unfold xv at hv ⊢
 rw[<-nw h,<-tr fun t ht=>h t (so ht)];exact hv
structure M1 (x y:br):Prop where
 xy:∀k,x.dst=some k->k∉y.gO
 yx:∀k,y.dst=some k->k∉x.gO
 dst:∀k,x.dst=some k->y.dst≠some k
theorem sw {x y:br} (h:tG x y=true):M1 x y:=by
 unfold tG at h
 simp only[Bool.and_eq_true]at h
 obtain⟨a1,a2⟩:=h
 refine⟨fun k hk=>?_,fun k hk=>?_,fun k hk=>?_⟩
 ·rw[hk]at a1;simp at a1;exact a1.1
 ·rw[hk]at a2;simpa using a2
 ·rw[hk]at a1;simp at a1;exact a1.2
theorem yz {x y:br} (h:yy x y=true):(M1 x y/\x.op.cls=.pure)∨(C8 x y/\k9 x=true/\k9 y=true):=by
 unfold yy at h
 simp only[Bool.or_eq_true,Bool.and_eq_true,beq_iff_eq]at h
 rcases h with⟨h1,h2⟩|⟨⟨h1,h2⟩,h3⟩
 ·exact .inl ⟨sw h1,h2⟩
 ·exact .inr ⟨qy h1,h2,h3⟩
theorem Bw {x y:br} (h:yy x y=true):k9 x=true:=by
 rcases yz h with h|h
 ·exact w5 h.2
 ·exact h.2.1
theorem HB (hK:pZ X) {x y:br} (hf:yy x y=true) {N:Env->ar->Prop} {env:Env} {σ:ar} (h:step X x (fun e s=>step X y N e s) env σ):step X y (fun e s=>step X x N e s) env σ:=by
 rcases yz hf with⟨F,hp⟩|⟨F,hx,hy⟩
 ·rw[tC hp]at h
  obtain⟨v,hx,h⟩:=h
  have Nt:=fun(v':AV)=>xr (env:=env) (v:=v) (u:=v') F.dst
  have Ea:=mL (env:=env) (v:=v) F.xy
  have back:∀(v':AV),xv x (upd env y.dst v') v:=fun v'=>KW (fun t ht=>(mL F.yx t ht).symm) hx
  unfold step at h ⊢
  rw[nw Ea]at h
  split at h
  ·rename_i hw
   rw[if_pos hw]
   refine CO hK (fun v' σ' hN=>?_) (HS (fun t ht=>Ea t (so ht)) h)
   rw[Nt]at hN
   exact(tC hp).2 ⟨v,back v',hN⟩
  ·rename_i hw
   rw[if_neg hw]
   rw[Nt]at h
   exact(tC hp).2 ⟨v,back _,h⟩
 ·rw[lO hx]at h
  obtain⟨v,g1,h1,h⟩:=h
  rw[lO hy]at h
  obtain⟨v',g2,h2,h⟩:=h
  obtain⟨LF,q1,q2,q3⟩:=Fg F h1 h2
  rw[q3]at h
  exact(lO hy).2 ⟨v',LF,q1,(lO hx).2 ⟨v,g2,q2,h⟩⟩
def AE (X:fP) (ops:Array Oper) (vl:List br) (K:Env->ar->Prop):Nat->Array Bool->Env->ar->Prop
 |0,listed,env,σ=>Region.ready .any ops listed=[]/\K env ⟨σ.get,σ.next+1⟩
 |f+1,listed,env,σ=>(Region.ready .any ops listed=[]->K env ⟨σ.get,σ.next+1⟩)/\∀i∈Region.ready .any ops listed,∃vo,vl[i]? =some vo/\step X vo (fun e s=>AE X ops vl K f (listed.setIfInBounds i true) e s) env σ
theorem DF {ops:Array Oper} {vl:List br} {bs:Array Nat} {listed:Array Bool} {i:Nat} (h:qx ops vl bs listed i=true) (j:Nat):qx ops vl bs (listed.setIfInBounds j true) i=true:=by
 unfold qx at h ⊢
 split at h
 ·rename_i x hx
  simp only[List.all_eq_true,Bool.or_eq_true]at h ⊢
  intro k hk
  rcases h k hk with((h|h)|h)|h
  ·exact .inl (.inl (.inl (getD_set_true h)))
  ·exact .inl (.inl (.inr h))
  ·exact .inl (.inr h)
  ·exact .inr h
 ·cases h
theorem tR {ops:Array Oper} {vl:List br} {listed:Array Bool} {i j:Nat} {vi:br} (sH:DC ops listed) (h:qx ops vl (jI ops) listed i=true) (hi:vl[i]? =some vi) (hr:i∈Region.ready .any ops listed) (hj:j∈Region.ready .any ops listed) (mO:j≠i):∃vj,vl[j]? =some vj/\yy vi vj=true:=by
 unfold qx at h
 rw[hi]at h
 simp only[List.all_eq_true,Bool.or_eq_true,beq_iff_eq]at h
 obtain⟨_,o,ho,_⟩:=mem_ready.1 hj
 rcases h j (List.mem_range.2 (Array.getElem?_eq_some_iff.1 ho).1)with((h|h)|h)|h
 ·rw[ji hj]at h;cases h
 ·exact absurd h mO
 ·have:=la sH hj i h
  rw[ji hr]at this;cases this
 ·split at h
  ·rename_i y hy;exact⟨y,hy,h⟩
  ·cases h
theorem Ff (hK:pZ X) {ops:Array Oper} {vl:List br} {K:Env->ar->Prop} {i:Nat} {vi:br} (hi:vl[i]? =some vi):∀(fuel:Nat) (listed:Array Bool) (env:Env) (σ:ar),
  DC ops listed->i∈Region.ready .any ops listed->qx ops vl (jI ops) listed i=true->step X vi (fun e s=>AE X ops vl K fuel (listed.setIfInBounds i true) e s) env σ->AE X ops vl K (fuel+1) listed env σ:=by
 intro fuel
 induction fuel with
 |zero=>
  intro listed env σ sH hr jz H
  refine⟨fun h=>(by rw[h]at hr;cases hr),fun j hj=>?_⟩
  by_cases mO:j=i
  ·subst mO;exact⟨vi,hi,H⟩
  ·obtain⟨vj,L0,Rr⟩:=tR sH jz hi hr hj mO
   rw[lO (Bw Rr)]at H
   obtain⟨v,g',_,H⟩:=H
   have:=ready_mono hj mO
   rw[H.1]at this;cases this
 |succ fuel ih=>
  intro listed env σ sH hr jz H
  refine⟨fun h=>(by rw[h]at hr;cases hr),fun j hj=>?_⟩
  by_cases mO:j=i
  ·subst mO;exact⟨vi,hi,H⟩
  ·obtain⟨vj,L0,Rr⟩:=tR sH jz hi hr hj mO
   refine⟨vj,L0,?_⟩
   have H2:step X vi (fun e s=>step X vj (fun e s=>AE X ops vl K fuel ((listed.setIfInBounds i true).setIfInBounds j true) e s) e s) env σ:=jY hK (fun e s h=>by
    obtain⟨vj',zP,h'⟩:=h.2 j (ready_mono hj mO)
    rw[L0]at zP;injection zP with zP;subst zP
    exact h') H
   refine jY hK (fun e s h=>?_) (HB hK Rr H2)
   refine ih _ _ _ (sH.list hj) (ready_mono hr (fun e=>mO e.symm)) (DF jz j) ?_
   rw[Array.setIfInBounds_comm _ _ mO]
   exact h
theorem tA {x:br} (hg:x.guard=none) {N:Env->ar->Prop} {env:Env} {σ:ar}:step X x N env σ=fK X false x env σ (fun v σ'=>N (upd env x.dst v) σ'):=by
 unfold step
 rw[hg]
 simp[aT]
theorem ET {x y:br} {t s sz:Nat} {ys:O} (hx:x.op=.append sz (.t t) ys) (hg:x.guard=none) (hf:Fy s x y=true) {N:Env->ar->Prop} {env:Env} {σ:ar} (hl:Mg t s ys env σ.next) (h:step X x (fun e s=>step X y N e s) env σ):
  step X y (fun e σ'=>Mg t s ys e σ'.next/\step X x N e σ') env σ:=by
 unfold Fy at hf
 simp only[Bool.and_eq_true,bne_iff_ne]at hf
 obtain⟨⟨⟨⟨⟨f1,hq⟩,f3⟩,f4⟩,f5⟩,f6⟩:=hf
 have F:=sw f1
 obtain⟨⟨len,ht⟩,hsrc⟩:=hl
 have Jy:∀k∈x.op.gO,∀v',upd env y.dst v' k=env k:=fun k hk v'=>mL (env:=env) (v:=v') F.yx k (so hk)
 have dK:t∈x.op.gO:=by rw[hx];simp[gH.gO,ib]
 have FN:∀v',dj (upd env y.dst v') ys=dj env ys:=fun v'=>(bt fun k hk=>by rw[Jy k (by rw[hx];simp[gH.gO,hk])]).symm
 rw[tA hg]at h
 unfold fK at h
 simp only[hx,ga]at h
 have ex:dj env (.t t)=.own ⟨s,σ.next⟩ 0 len:=ht
 rw[ex]at h
 cases hr:bx σ.get (dj env ys)with
 |none=>rw[hr]at h;exact h.elim
 |some rs=>
  rw[hr]at h
  simp only[Option.bind_some,bd]at h
  cases Jj:σ.get ⟨s,σ.next⟩with
  |none=>rw[Jj]at h;exact h.elim
  |some r=>
   rw[Jj]at h
   simp only[Option.bind_some]at h
   split at h
   ·rename_i v g1 hv
    split at hv
    ·rename_i hcond
     simp only[Option.some.injEq,Prod.mk.injEq]at hv
     obtain⟨rfl,rfl⟩:=hv
     rw[lO hq]at h
     obtain⟨v',g2,hG,hN⟩:=h
     have LS:(⟨y.site,σ.next⟩:Id)≠⟨s,σ.next⟩:=fun e=>f5 (by injection e)
     have Jn:(⟨y.site,σ.next⟩:Id)≠⟨x.site,σ.next⟩:=fun e=>f6 (by injection e)
     replace hG:GS X σ.next y env (bL (cD σ.get ⟨s,σ.next⟩) ⟨x.site,σ.next⟩ ⟨true,sz,r.rows++rs⟩) v' g2:=vz (mL F.xy) hG
     have Vz:fZ y.hid σ.next σ.get=fZ y.hid σ.next (bL (cD σ.get ⟨s,σ.next⟩) ⟨x.site,σ.next⟩ ⟨true,sz,r.rows++rs⟩):=by
      cases hh:y.hid with
      |nil=>rw[hh]at f3;simp at f3
      |cons a l=>
       rw[hh]at f3 f4
       funext i
       show(if (a::l).contains i.site=true/\i.bQ=σ.next then none else σ.get i)=if (a::l).contains i.site=true/\i.bQ=σ.next then none else _
       by_cases h1:i=⟨x.site,σ.next⟩
       ·subst h1;rw[if_pos ⟨f4,rfl⟩,if_pos ⟨f4,rfl⟩]
       ·by_cases h2:i=⟨s,σ.next⟩
        ·subst h2;rw[if_pos ⟨f3,rfl⟩,if_pos ⟨f3,rfl⟩]
        ·simp only[bL,cD,if_neg h1,if_neg h2]
     obtain⟨my,Rs,hG'⟩:∃my,g2=jr (bL (cD σ.get ⟨s,σ.next⟩) ⟨x.site,σ.next⟩ ⟨true,sz,r.rows++rs⟩) ⟨y.site,σ.next⟩ my/\GS X σ.next y env σ.get v' (jr σ.get ⟨y.site,σ.next⟩ my):=by
      unfold GS at hG ⊢
      by_cases wy:aT y.guard env=true
      ·rw[if_pos wy]at hG
       have hcw:y.op.cls≠.write:=by
        unfold k9 at hq
        simp only[Bool.and_eq_true,bne_iff_ne]at hq
        exact hq.2
       obtain⟨my,rfl,_,NV⟩:=vM hcw hG
       exact⟨my,rfl,by rw[if_pos wy];exact NV _ Vz⟩
      ·rw[if_neg wy]at hG
       obtain⟨rfl,rfl⟩:=hG
       exact⟨none,rfl,by rw[if_neg wy];exact⟨rfl,rfl⟩⟩
     subst Rs
     refine(lO hq).2 ⟨v',_,hG',⟨⟨len,by rw[Jy t dK];exact ht⟩,fun id o l he=>hsrc id o l (by rw[<-FN v'];exact he)⟩,?_⟩
     rw[tA hg]
     unfold fK
     have ex':dj (upd env y.dst v') (.t t)=.own ⟨s,σ.next⟩ 0 len:=by
      show upd env y.dst v' t= _
      rw[Jy t dK];exact ht
     simp only[hx,ga,ex',FN v']
     have od:bx (jr σ.get ⟨y.site,σ.next⟩ my) (dj env ys)=some rs:=by
      cases my with
      |none=>exact hr
      |some row=>
       revert hr
       cases hev:dj env ys<;>simp only[bx,jr]<;>try exact fun h=>h
       rename_i id o l
       have:id≠⟨y.site,σ.next⟩:=fun e=>hsrc id o l hev (by rw[e])
       simp only[bL,if_neg this];exact fun h=>h
     have UZ:jr σ.get ⟨y.site,σ.next⟩ my ⟨s,σ.next⟩=some r:=by
      cases my with
      |none=>exact Jj
      |some row=>simp only[jr,bL,if_neg (fun e=>LS e.symm:(⟨s,σ.next⟩:Id)≠⟨y.site,σ.next⟩)];exact Jj
     rw[od]
     simp only[Option.bind_some,bd,UZ]
     rw[if_pos hcond]
     have hgg:bL (cD (jr σ.get ⟨y.site,σ.next⟩ my) ⟨s,σ.next⟩) ⟨x.site,σ.next⟩ ⟨true,sz,r.rows++rs⟩=jr (bL (cD σ.get ⟨s,σ.next⟩) ⟨x.site,σ.next⟩ ⟨true,sz,r.rows++rs⟩) ⟨y.site,σ.next⟩ my:=by
      cases my with
      |none=>rfl
      |some row=>
       funext i
       simp only[jr,bL,cD]
       by_cases h1:i=⟨y.site,σ.next⟩
       ·subst h1;rw[if_neg Jn,if_neg LS,if_pos rfl,if_pos rfl]
       ·simp only[if_neg h1]
     have hu:=xr (env:=env) (v:=AV.own ⟨x.site,σ.next⟩ 0 (len+rs.length)) (u:=v') F.dst
     show N (upd (upd env y.dst v') x.dst (.own ⟨x.site,σ.next⟩ 0 (len+rs.length))) ⟨bL (cD (jr σ.get ⟨y.site,σ.next⟩ my) ⟨s,σ.next⟩) ⟨x.site,σ.next⟩ ⟨true,sz,r.rows++rs⟩,σ.next⟩
     rw[hgg,<-hu]
     exact hN
    ·cases hv
   ·exact h.elim
theorem DE {ops:Array Oper} {vl:List br} {bs:Array Nat} {listed:Array Bool} {i s:Nat} (h:oI ops vl bs listed i s=true) (j:Nat):oI ops vl bs (listed.setIfInBounds j true) i s=true:=by
 unfold oI at h ⊢
 split at h
 ·rename_i x hx
  simp only[List.all_eq_true,Bool.or_eq_true]at h ⊢
  intro k hk
  rcases h k hk with((h|h)|h)|h
  ·exact .inl (.inl (.inl (getD_set_true h)))
  ·exact .inl (.inl (.inr h))
  ·exact .inl (.inr h)
  ·exact .inr h
 ·cases h
theorem Bt {ops:Array Oper} {vl:List br} {listed:Array Bool} {i j s:Nat} {vi:br} (sH:DC ops listed) (h:oI ops vl (jI ops) listed i s=true) (hi:vl[i]? =some vi) (hr:i∈Region.ready .any ops listed) (hj:j∈Region.ready .any ops listed) (mO:j≠i):∃vj,vl[j]? =some vj/\Fy s vi vj=true:=by
 unfold oI at h
 rw[hi]at h
 simp only[List.all_eq_true,Bool.or_eq_true,beq_iff_eq]at h
 obtain⟨_,o,ho,_⟩:=mem_ready.1 hj
 rcases h j (List.mem_range.2 (Array.getElem?_eq_some_iff.1 ho).1)with((h|h)|h)|h
 ·rw[ji hj]at h;cases h
 ·exact absurd h mO
 ·have:=la sH hj i h
  rw[ji hr]at this;cases this
 ·split at h
  ·rename_i y hy;exact⟨y,hy,h⟩
  ·cases h
theorem CP (hK:pZ X) {ops:Array Oper} {vl:List br} {K:Env->ar->Prop} {i t s sz:Nat} {ys:O} {vi:br} (hi:vl[i]? =some vi) (hx:vi.op=.append sz (.t t) ys) (hg:vi.guard=none):∀(fuel:Nat) (listed:Array Bool) (env:Env) (σ:ar),
  DC ops listed->i∈Region.ready .any ops listed->oI ops vl (jI ops) listed i s=true->Mg t s ys env σ.next->step X vi (fun e s=>AE X ops vl K fuel (listed.setIfInBounds i true) e s) env σ->AE X ops vl K (fuel+1) listed env σ:=by
 intro fuel
 induction fuel with
 |zero=>
  intro listed env σ sH hr jz Qu H
  refine⟨fun h=>(by rw[h]at hr;cases hr),fun j hj=>?_⟩
  by_cases mO:j=i
  ·subst mO;exact⟨vi,hi,H⟩
  ·exfalso
   have h0:=ready_mono hj mO
   rw[tA hg]at H
   unfold fK at H
   simp only[hx]at H
   split at H
   ·rw[H.1]at h0;cases h0
   ·exact H
 |succ fuel ih=>
  intro listed env σ sH hr jz Qu H
  refine⟨fun h=>(by rw[h]at hr;cases hr),fun j hj=>?_⟩
  by_cases mO:j=i
  ·subst mO;exact⟨vi,hi,H⟩
  ·obtain⟨vj,L0,Rr⟩:=Bt sH jz hi hr hj mO
   refine⟨vj,L0,?_⟩
   have H2:step X vi (fun e s=>step X vj (fun e s=>AE X ops vl K fuel ((listed.setIfInBounds i true).setIfInBounds j true) e s) e s) env σ:=jY hK (fun e s h=>by
    obtain⟨vj',zP,h'⟩:=h.2 j (ready_mono hj mO)
    rw[L0]at zP;injection zP with zP;subst zP
    exact h') H
   refine jY hK (fun e s h=>?_) (ET hx hg Rr Qu H2)
   refine ih _ _ _ (sH.list hj) (ready_mono hr (fun e=>mO e.symm)) (DE jz j) h.1 ?_
   rw[Array.setIfInBounds_comm _ _ mO]
   exact h.2
theorem JN {ops:Array Oper} {vl:List br} {bs:Array Nat} {listed:Array Bool} {i i' t s:Nat} {y:O} {vo:br} (h:Pg ops vl bs listed i=some (i',t,s,y,vo)):i'=i/\vl[i]? =some vo/\(∃sz,vo.op=.append sz (.t t) y)/\vo.guard=none/\oI ops vl bs listed i s=true:=by
 unfold Pg at h
 split at h
 ·rename_i x hx
  split at h
  ·rename_i t' s' y' kq
   split at h
   ·rename_i hf
    simp only[Option.some.injEq,Prod.mk.injEq]at h
    obtain⟨rfl,rfl,rfl,rfl,rfl⟩:=h
    unfold Nz at kq
    split at kq
    ·rename_i sz t2 y2 ho sI
     split at kq
     ·simp only[Option.some.injEq,Prod.mk.injEq]at kq
      obtain⟨rfl,rfl,rfl⟩:=kq
      exact⟨rfl,hx,⟨sz,ho⟩,sI,hf⟩
     ·cases kq
    ·cases kq
   ·cases h
  ·cases h
 ·cases h
theorem yk {X:fP} {Q:Ex->Env->ar->Prop} {env:Env} {σ:ar}:∀{l:List VC} {t:VC},Bb l=some t->dO X t Q env σ->∀c∈l,dO X c Q env σ
 |[],t,h,_,c,hc=>by cases hc
 |[c0],t,h,hw,c,hc=>by
  simp only[Bb,Option.some.injEq]at h
  subst h
  rw[List.mem_singleton]at hc
  subst hc;exact hw
 |c0::c1::r,t,h,hw,c,hc=>by
  simp only[Bb,Option.map_eq_some_iff]at h
  obtain⟨t',H5,rfl⟩:=h
  rcases List.mem_cons.1 hc with rfl|hc
  ·exact hw.1
  ·exact yk H5 hw.2 c hc
theorem mapM_mem {α β:Type} {f:α->Option β}:∀{l:List α} {r:List β},l.mapM f=some r->∀i∈l,∃b∈r,f i=some b
 |[],_,_,i,hi=>by cases hi
 |a::l,r,h,i,hi=>by
  simp only[List.mapM_cons,Option.bind_eq_bind,Option.bind_eq_some_iff,Option.pure_def,Option.some.injEq]at h
  obtain⟨b,hb,r',hr,rfl⟩:=h
  rcases List.mem_cons.1 hi with rfl|hi
  ·exact⟨b,by simp,hb⟩
  ·obtain⟨c,hc,hf⟩:=mapM_mem hr i hi
   exact⟨c,List.mem_cons_of_mem _ hc,hf⟩
theorem HP (hK:pZ X) {ops:Array Oper} {vl:List br} {Q:Ex->Env->ar->Prop}:∀(n:Nat) (listed:Array Bool) (t:VC) (env:Env) (σ:ar),xq ops vl (jI ops) n listed=some t->DC ops listed->dO X t Q env σ->AE X ops vl (Q .normal) n listed env σ:=by
 intro n
 induction n with
 |zero=>
  intro listed t env σ h _ hw
  unfold xq at h
  split at h
  ·rename_i hr
   simp only[Option.some.injEq]at h
   subst h
   exact⟨hr,hw⟩
  ·cases h
 |succ n ih=>
  intro listed t env σ h sH hw
  unfold xq at h
  split at h
  ·rename_i hr
   simp only[Option.some.injEq]at h
   subst h
   exact⟨fun _=>hw,fun i hi=>by rw[hr]at hi;cases hi⟩
  ·rename_i r rs hr
   dsimp only at h
   split at h
   ·rename_i i hfind
    have LO:=List.mem_of_find?_eq_some hfind
    have uW:=List.find?_some hfind
    rw[<-hr]at LO
    split at h
    ·rename_i vo pW
     simp only[Option.map_eq_some_iff]at h
     obtain⟨t',H5,rfl⟩:=h
     exact Ff hK pW n listed env σ sH LO uW (jY hK (fun e s h=>ih _ _ _ _ H5 (sH.list LO) h) hw)
    ·cases h
   ·split at h
    ·rename_i i t s y vo hfind
     obtain⟨i0,BI,dZ⟩:=List.exists_of_findSome?_eq_some hfind
     obtain⟨rfl,pW,⟨sz,eF⟩,sI,Ji⟩:=JN dZ
     rw[<-hr]at BI
     simp only[Option.map_eq_some_iff]at h
     obtain⟨t',H5,rfl⟩:=h
     exact CP hK pW eF sI n listed env σ sH BI Ji hw.1 (jY hK (fun e s h=>ih _ _ _ _ H5 (sH.list BI) h) hw.2)
    split at h
    ·rename_i l hl
     have dC:=yk h hw
     refine⟨fun h=>(by rw[h]at hr;cases hr),fun i hi=>?_⟩
     rw[hr]at hi
     obtain⟨b,K2,GJ⟩:=mapM_mem hl i hi
     simp only[Option.bind_eq_some_iff,Option.map_eq_some_iff]at GJ
     obtain⟨vo,pW,t',H5,rfl⟩:=GJ
     exact⟨vo,pW,jY hK (fun e s h=>ih _ _ _ _ H5 (sH.list (by rw[hr];exact hi)) h) (dC _ K2)⟩
    ·cases h
theorem Fa {ops:Array Oper} {vl:List br} {nt site0:Nat} {draw mk:Bool} {bs:Array Nat} {hidden:List (Nat×Bool)} {K:Env->ar->Prop} {Q:Exit->Act->World->Prop} (dC:allM (kT P ops nt site0 draw mk bs hidden) ops.toList 0=some vl):
  ∀(fuel:Nat) (listed:Array Bool) (env:Env) (σ:ar) (a:Act) (w:World) (D:Nat->Prop) (ι:Names) (U:Nat->Prop),AE (Sound P) ops vl K fuel listed env σ->gF P hs D ι σ.get w->Used ι σ.next U->(∀s,U s->∃i,s=site0+i/\listed.getD i false=true)->cE P w D ι env a->a.tmps.size=nt->
  (∀iM σ' a' w' D' ι',K iM σ'->Step hs D ι w D' ι' w'->St P hs nt D' ι' iM σ' a' w'->a'.defers=a.defers->σ.next<=σ'.next->Q .normal a' w')->wpAny P .any ops Q fuel listed a w:=by
 intro fuel
 induction fuel with
 |zero=>intro listed env σ a w D ι U h S Us hU E fA hQ;exact⟨h.1,hQ env _ a w D ι h.2 (Step.refl _ _ _ _) ⟨S,Us.next,E,fA⟩ rfl (Nat.le_succ _)⟩
 |succ fuel ih=>
  intro listed env σ a w D ι U h S Us hU E fA hQ
  refine⟨fun hr=>hQ env _ a w D ι (h.1 hr) (Step.refl _ _ _ _) ⟨S,Us.next,E,fA⟩ rfl (Nat.le_succ _),fun i hi=>?_⟩
  obtain⟨vo,pW,hG⟩:=h.2 i hi
  obtain⟨_,o,ho,_⟩:=mem_ready.1 hi
  obtain⟨vo',mj,Rj⟩:=(ou dC).2 i o (by simpa using ho)
  rw[pW]at mj;injection mj with mj;subst mj
  rw[Nat.zero_add]at Rj
  obtain⟨hc,hd,BQ,xQ,hg⟩:=pq Rj
  have hw:=tJ (ops:=ops) (vo:=vo) E hg
  have UD:¬U vo.site:=fun hu=>by
   obtain⟨i',he,hl⟩:=hU _ hu
   have:i'=i:=by omega
   subst this
   rw[ji hi]at hl;cases hl
  have jJ:i<listed.size:=by
   have h0:=(mem_ready.1 hi).1
   rcases Nat.lt_or_ge i listed.size with h|h
   ·exact h
   ·simp[Array.getElem?_eq_none h]at h0
  unfold wpOp
  simp only[ho]
  rw[<-hw]
  unfold step at hG
  by_cases GU:aT vo.guard env=true
  ·rw[if_pos GU]
   rw[if_pos GU]at hG
   refine .inl (zh hc hG S Us UD E fun v σ' u D' ι' w' hn T S' hR U' hle=>?_)
   refine ih _ _ _ _ w' D' ι' _ hn S' U' (fun s BN=>?_) (by rw[hd];exact iF (oH E T) hR xQ fA) (by rw[fc];exact fA) fun iM σ2 a2 w2 D2 ι2 hk T2 O5 DQ nh=>hQ iM σ2 a2 w2 D2 ι2 hk (T.trans T2) O5 (DQ.trans (put_defers _ _ _)) (Nat.le_trans hle nh)
   rcases BN with h|h
   ·obtain⟨i',he,hl⟩:=hU _ h
    exact⟨i',he,getD_set_true hl⟩
   ·exact⟨i,by rw[h,BQ],by simp[jJ]⟩
  ·rw[if_neg GU]
   rw[if_neg GU]at hG
   refine ih _ _ _ _ w D ι U hG S Us (fun s BN=>?_) (by rw[hd];exact iF E cL.undef xQ fA) (by rw[fc];exact fA) fun iM σ2 a2 w2 D2 ι2 hk T2 O5 DQ nh=>hQ iM σ2 a2 w2 D2 ι2 hk T2 O5 (DQ.trans (put_defers _ _ _)) nh
   obtain⟨i',he,hl⟩:=hU _ BN
   exact⟨i',he,getD_set_true hl⟩
end
end Go.Proofs.YtgoelphibofcmaaGreat.V

namespace Go.Proofs.YtgoelphibofcmaaGreat.V
open Go.RowKit
variable {P:Program} {w w':World} {D D' D2:Nat->Prop} {ι ι' ι2:Names}
def AJ (P:Program) (c:Code) (Q:Exit->Act->World->Prop) (a:Act) (w:World):Prop:=
 ∀(b:Frame) (k:List Item) (cs:List Frame),b.kind≠.early->∃e a' w',Q e a' w'/\Arrives P (lone (b.at a (.code c::k)) cs w) b k cs e a' w'
section
variable {Q:Exit->Act->World->Prop} {a:Act}
theorem kB {c:Code} (h:c.wp P Q a w):AJ P c Q a w:=fun b k cs _=>h b k cs
theorem lN {x y:Code} (h:AJ P x (Exit.then (AJ P y Q) Q) a w):AJ P (.seq x y) Q a w:=by
 intro b k cs hb
 obtain⟨e,a1,w1,hq,jS⟩:=h b (.code y::k) cs hb
 by_cases he:e=.normal
 ·subst he
  obtain⟨e2,a2,w2,mQ,Jb⟩:=hq b k cs hb
  exact⟨e2,a2,w2,mQ,.of_steps (.head step_seq jS) Jb⟩
 ·refine⟨e,a1,w1,?_,.of_steps (.one step_seq) (.pass (x:=.code y) rfl (fun _ _=>.inl he) jS)⟩
  cases e<;>first|exact absurd rfl he|exact hq
theorem wV {c:Operand} {x y:Code} {t:Bool} (hc:a.eval c=.bool t) (h:AJ P (if t then x else y) Q a w):AJ P (.cond c x y) Q a w:=
 fun b k cs hb=>let ⟨e,a',w',q,r⟩:=h b k cs hb;⟨e,a',w',q,.of_steps (.one (step_cond hc)) r⟩
theorem tk {id:Nat} {c:Code} (h:AJ P c (Exit.inBlock id Q) a w):AJ P (.block id c) Q a w:=by
 intro b k cs hb
 obtain⟨e,a1,w1,hq,jS⟩:=h b (.inBlock id::k) cs hb
 cases e with
 |normal=>exact⟨.normal,a1,w1,hq,.head step_block (Steps.trans jS (.one step_inBlock))⟩
 |exit j5=>
  by_cases hid:j5=id
  ·simp only[Exit.inBlock,hid,if_true]at hq
   exact⟨.normal,a1,w1,hq,.head step_block (jS k (by simp[exitTo,hid]))⟩
  ·simp only[Exit.inBlock,hid,if_false]at hq
   exact⟨.exit j5,a1,w1,hq,fun k' hk=>.head step_block (jS k' (by simp[exitTo,Ne.symm hid,hk]))⟩
 |goto l=>exact⟨_,a1,w1,hq,fun k' hk=>.head step_block (jS k' (by simp[gotoIn,hk]))⟩
 |ret=>exact⟨_,a1,w1,hq,.of_steps (.one step_block) jS⟩
 |panic ch=>exact⟨_,a1,w1,hq,.of_steps (.one step_block) jS⟩
 |outgrown=>exact⟨_,a1,w1,hq,.of_steps (b:=b) (k:=k) (cs:=cs) (e:=.outgrown) (.one step_block) jS⟩
def pC (P:Program) (c:Code) (Q:Exit->Act->World->Prop):Nat->Act->World->Prop
 |0=>fun _ _=>False
 |n+1=>AJ P c (Exit.then (pC P c Q n) Q)
theorem Cq {c:Code} (n:Nat) (h:pC P c Q n a w):AJ P (.loop c) Q a w:=by
 intro b k cs hb
 have key:∀n a w,pC P c Q n a w->∃e a' w',Q e a' w'/\Arrives P (lone (b.at a (.code c::.inLoop c::k)) cs w) b k cs e a' w':=by
  intro n
  induction n with
  |zero=>intro a w h;exact h.elim
  |succ n ih=>
   intro a w h
   obtain⟨e,a1,w1,hq,jS⟩:=h b (.inLoop c::k) cs hb
   by_cases he:e=.normal
   ·subst he
    obtain⟨e2,a2,w2,mQ,Jb⟩:=ih a1 w1 hq
    exact⟨e2,a2,w2,mQ,.of_steps (Steps.trans jS (.one step_inLoop)) Jb⟩
   ·refine⟨e,a1,w1,?_,.pass (x:=.inLoop c) rfl (fun _ _=>.inl he) jS⟩
    cases e<;>first|exact absurd rfl he|exact hq
 obtain⟨e,a',w',hq,jS⟩:=key n a w h
 exact⟨e,a',w',hq,.of_steps (.one step_loop) jS⟩
theorem zz {f:FuncId} {fn:Func} {c:Code} {args:Array Value} {R:Ending->World->Prop} (hf:P.funcs[f]? =some fn) (hb:fn.body=some c)
  (h:AJ P c (bodyPost P fn R) {tmps:=args++Array.replicate (fn.ntmps-args.size) undef,defers:=[]} w):Calls P f args w R:=by
 intro cs
 have OE:Frame.enter P f args .normal=({(default:Frame)with fn:=f,kind:=.normal}:Frame).at {tmps:=args++Array.replicate (fn.ntmps-args.size) undef,defers:=[]} [.code c]:=by simp[Frame.enter,Frame.at,hf,hb]
 obtain⟨e,a',w',hq,jS⟩:=h {(default:Frame)with fn:=f,kind:=.normal} [] cs (by simp)
 rw[<-OE]at jS
 cases e with
 |normal=>obtain⟨hd,v,hr,hR⟩:=hq;exact⟨.returned v,w',_,hR,Steps.trans jS (.one step_end),rfl,rfl,hd,rfl,fn,hf,hr⟩
 |ret=>obtain⟨hd,v,hr,hR⟩:=hq;obtain⟨todo,hs⟩:=jS;exact⟨.returned v,w',_,hR,hs,rfl,rfl,hd,rfl,fn,hf,hr⟩
 |panic chain=>obtain⟨hd,hR⟩:=hq;obtain⟨todo,hs⟩:=jS;exact⟨.panicked chain,w',_,hR,hs,rfl,rfl,hd,fn,hf⟩
 |exit id=>exact hq.elim
 |goto l=>exact hq.elim
 |outgrown=>exact⟨.outgrown,w',{(default:Frame)with fn:=f,kind:=.normal},hq,jS.resolve_left (by simp),rfl,trivial⟩
def xG (P:Program) (ops:Array Oper) (Q:Exit->Act->World->Prop) (l:List Nat) (a:Act) (w:World):Prop:=
 ∀(b:Frame) (k:List Item) (cs:List Frame),b.kind≠.early->∃e a' w',Q e a' w'/\Arrives P (lone (b.at a (.inRegion ops l::k)) cs w) b k cs e a' w'
theorem Ev {id:Nat} {ops:Array Oper} (h:xG P ops Q (List.range ops.size) a w):AJ P (.region id ops false) Q a w:=
 fun b k cs hb=>let ⟨e,a',w',q,r⟩:=h b k cs hb;⟨e,a',w',q,.of_steps (.one step_region) r⟩
theorem Pq {ops:Array Oper} (h:Q .normal a w):xG P ops Q [] a w:=fun _ _ _ _=>⟨.normal,a,w,h,.one step_region_end⟩
theorem ph {o:Oper} {ys:Nat->Option Bool} (h:o.guard=none):Region.wanted o ys=true:=by simp[Region.wanted,h]
theorem J7 {ops:Array Oper} {i:Nat} {rest:List Nat} {o:Oper} {v:Value} (ho:ops[i]? =some o) (hg:o.guard=none) (hr:(execOp a.eval o).run P w=.ok (.value v) w') (h:xG P ops Q rest (a.put o.dst v) w'):xG P ops Q (i::rest) a w:=by
 intro b k cs hb
 obtain⟨e,a',w2,hq,jS⟩:=h b k cs hb
 refine⟨e,a',w2,hq,.of_steps (.one ?_) jS⟩
 have s6:(b.at a (.inRegion ops (i::rest)::k)).finish v=b.at (a.put o.dst v) (.inRegion ops rest::k):=by rw[Frame.finish_at,ho];rfl
 rw[<-s6]
 refine step_lone_go ?_
 have h2:=stepG_op (P:=P) (b:=b) (k:=k) (cs:=cs) (w:=w) (rest:=rest) ho (ph hg (ys:=yielded ops a.tmps))
 rw[h2];simp[stepG.apply,hr]
theorem Mx {ops:Array Oper} {i:Nat} {rest:List Nat} {o:Oper} {v z:Value} {c cap s r:Nat} {buf:Array Value} (ho:ops[i]? =some o) (hg:o.guard=none) (hr:(execOp a.eval o).run P w=.ok (.comm #[Conc.scase c v z] true .send) w)
  (hc:w.heap[c]? =some (.chan cap buf false s r false)) (gi:buf.size<cap) (h:xG P ops Q rest (a.put o.dst undef) (w.setChan c cap (buf.push v) false (s+1) r false)):xG P ops Q (i::rest) a w:=by
 intro b k cs hb
 obtain⟨e,a',w2,hq,jS⟩:=h b k cs hb
 refine⟨e,a',w2,hq,.of_steps (.one ?_) jS⟩
 have s6:(b.at a (.inRegion ops (i::rest)::k)).finish undef=b.at (a.put o.dst undef) (.inRegion ops rest::k):=by rw[Frame.finish_at,ho];rfl
 rw[<-s6,Conc.lone_eq_solo,Conc.lone_eq_solo]
 exact Conc.step_lone_send_room (Conc.stepG_comm ho (ph hg) hb hr) hc gi
theorem Mw {ops:Array Oper} {i:Nat} {rest:List Nat} {o:Oper} {z:Value} {c cap s r:Nat} {buf:Array Value} (ho:ops[i]? =some o) (hg:o.guard=none) (hr:(execOp a.eval o).run P w=.ok (.comm #[Conc.rcase c z] true (.recv false)) w)
  (hc:w.heap[c]? =some (.chan cap buf false s r false)) (Jz:0<buf.size) (h:xG P ops Q rest (a.put o.dst (buf.getD 0 undef)) (w.setChan c cap (buf.extract 1 buf.size) false s (r+1) false)):xG P ops Q (i::rest) a w:=by
 intro b k cs hb
 obtain⟨e,a',w2,hq,jS⟩:=h b k cs hb
 refine⟨e,a',w2,hq,.of_steps (.one ?_) jS⟩
 have s6:(b.at a (.inRegion ops (i::rest)::k)).finish (buf.getD 0 undef)=b.at (a.put o.dst (buf.getD 0 undef)) (.inRegion ops rest::k):=by rw[Frame.finish_at,ho];rfl
 rw[<-s6,Conc.lone_eq_solo,Conc.lone_eq_solo]
 exact Conc.step_lone_recv_buf false (Conc.stepG_comm ho (ph hg) hb hr) hc Jz
end
section
variable {hs:Nat} {g:Rows} {env:Env} {a:Act} {o:Oper}
theorem L9 {x y:O} (hc:qY P o.op=some (.snd x y)):∃x' y',o.op=.send x' y'/\cO P x'=some x/\cO P y'=some y:=by
 unfold qY at hc
 split at hc
 case h_25=>
  rename_i x' y' h
  simp only[Option.bind_eq_bind,Option.bind_eq_some_iff,Option.pure_def,Option.some.injEq,gH.snd.injEq]at hc
  obtain⟨p,h1,q,h2,rfl,rfl⟩:=hc
  exact⟨_,_,h,h1,h2⟩
 all_goals (try unfold nC at hc)<;>(try unfold vV at hc)<;>(try unfold sS at hc)<;>(repeat' (split at hc))<;>(simp only[Option.bind_eq_bind,Option.bind_eq_some_iff,Option.pure_def,Option.some.injEq,Option.map_eq_some_iff,reduceCtorEq,and_false,exists_false]at hc)
theorem L8 {x:O} (hc:qY P o.op=some (.Pw x)):∃t dir e i z x',o.op=.recv t x' false/\P.underlying t=some (.chan dir e)/\P.info? e=some i/\i.zero=some z/\cO P x'=some x:=by
 unfold qY at hc
 split at hc
 case h_26=>
  rename_i t x' h
  split at hc
  ·rename_i dir e ht
   split at hc
   ·rename_i z hz
    simp only[Option.bind_eq_some_iff]at hz
    obtain⟨i,hi,hz⟩:=hz
    simp only[Option.map_eq_some_iff,gH.Pw.injEq]at hc
    obtain⟨p,h1,rfl⟩:=hc
    exact⟨t,dir,e,i,z,x',h,ht,hi,hz,h1⟩
   ·cases hc
  ·cases hc
 all_goals (try unfold nC at hc)<;>(try unfold vV at hc)<;>(try unfold sS at hc)<;>(repeat' (split at hc))<;>(simp only[Option.bind_eq_bind,Option.bind_eq_some_iff,Option.pure_def,Option.some.injEq,Option.map_eq_some_iff,reduceCtorEq,and_false,exists_false]at hc)
theorem QY {x y:O} {g':Rows} (S:gF P hs D ι g w) (hc:qY P o.op=some (.snd x y)) (E:cE P w D ι env a) (hv:er g (dj env x) (dj env y)=some g'):
  ∃c cap s r buf u,(execOp a.eval o).run P w=.ok (.comm #[Conc.scase c u (.tuple #[])] true .send) w/\w.heap[c]? =some (.chan cap buf false s r false)/\buf.size<cap/\gF P hs D ι g' (w.setChan c cap (buf.push u) false (s+1) r false)/\Step hs D ι w D ι (w.setChan c cap (buf.push u) false (s+1) r false):=by
 obtain⟨x',y',ho,hx,hy⟩:=L9 hc
 have rx:=dt E hx
 have ry:=dt E hy
 unfold er at hv
 split at hv
 ·rename_i i he
  simp only[Option.bind_eq_some_iff]at hv
  obtain⟨r,hg,hv⟩:=hv
  split at hv
  ·rename_i hcond
   simp only[Option.some.injEq]at hv
   subst hv
   obtain⟨B,c,hu,hB,hk,fA,buf,s,q,hb,K3,hR⟩:=zA S rx he hg
   obtain⟨B',dH,RR,_⟩:=S.row i r hg
   rw[hB]at dH;injection dH with dH;subst dH
   have nT:=S.HQ (ob:=.chan c (buf.push (a.eval y')) false (s+1) q false) (r':={r with rows:=r.rows++[[dj env y]]}) hg hcond.1 hB fun hr kr=>⟨RR.sz,fun cs dy=>?_,fun h0=>(by rw[hk]at h0;cases h0),fun m hm=>(by rw[hk]at hm;cases hm),fun c' kV=>?_⟩
   ·exact⟨B.b,c,s,q,buf,a.eval y',by simp[execOp,ho,hu,Conc.scase],hb,by rw[K3];omega,nT.1,nT.2⟩
   ·rcases List.mem_append.1 dy with h|h
    ·exact RR.flat cs h
    ·rw[List.mem_singleton.1 h]
     intro b s4
     rw[List.mem_singleton.1 s4];exact hcond.2.2
   ·rw[hk]at kV
    simp only[Option.some.injEq,BK.chan.injEq]at kV
    subst kV
    refine⟨fA,_,_,_,kr,by simp[K3],fun j cs hj=>?_⟩
    rw[List.getElem?_append]at hj
    split at hj
    ·rename_i dZ
     obtain⟨b,u,q1,q2,q3⟩:=hR j cs hj
     refine⟨b,u,q1,?_,hr _ _ q3⟩
     rw[Array.getElem?_push,if_neg (by omega)];exact q2
    ·rename_i qH
     have iq:j=r.rows.length:=by
      have:=(List.getElem?_eq_some_iff.1 hj).1
      simp at this;omega
     subst iq
     simp at hj
     subst hj
     exact⟨_,_,rfl,by rw[Array.getElem?_push,if_pos K3.symm],hr _ _ ry⟩
  ·cases hv
 ·cases hv
theorem QX {x:O} {g':Rows} {v:AV} (S:gF P hs D ι g w) (hc:qY P o.op=some (.Pw x)) (E:cE P w D ι env a) (hv:ep g (dj env x)=some (v,g')):
  ∃c cap s r buf z,(execOp a.eval o).run P w=.ok (.comm #[Conc.rcase c z] true (.recv false)) w/\w.heap[c]? =some (.chan cap buf false s r false)/\0<buf.size/\gF P hs D ι g' (w.setChan c cap (buf.extract 1 buf.size) false s (r+1) false)/\Step hs D ι w D ι (w.setChan c cap (buf.extract 1 buf.size) false s (r+1) false)/\cL P (w.setChan c cap (buf.extract 1 buf.size) false s (r+1) false) D ι v (buf.getD 0 undef):=by
 obtain⟨t,dir,e,i0,z,x',ho,ht,hi,hz,hx⟩:=L8 hc
 have rx:=dt E hx
 unfold ep at hv
 split at hv
 ·rename_i i he
  simp only[Option.bind_eq_some_iff]at hv
  obtain⟨r,hg,hv⟩:=hv
  split at hv
  ·rename_i v' rest oM
   split at hv
   ·rename_i hcond
    simp only[Option.some.injEq,Prod.mk.injEq]at hv
    obtain⟨rfl,rfl⟩:=hv
    obtain⟨B,c,hu,hB,hk,fA,buf,s,q,hb,K3,hR⟩:=zA S rx he hg
    obtain⟨B',dH,RR,_⟩:=S.row i r hg
    rw[hB]at dH;injection dH with dH;subst dH
    obtain⟨b0,u0,q1,q2,q3⟩:=hR 0 [v'] (by rw[oM];rfl)
    simp only[List.cons.injEq,and_true]at q1
    subst q1
    have kz:0<buf.size:=by rw[K3,oM];simp
    have Tx:buf.getD 0 undef=u0:=by rw[Array.getD_eq_getD_getElem?,q2];rfl
    have nT:=S.HQ (ob:=.chan c (buf.extract 1 buf.size) false s (q+1) false) (r':={r with rows:=rest}) hg hcond hB fun hr kr=>⟨RR.sz,fun cs dy=>RR.flat cs (by rw[oM];exact List.mem_cons_of_mem _ dy),fun h0=>(by rw[hk]at h0;cases h0),fun m hm=>(by rw[hk]at hm;cases hm),fun c' kV=>?_⟩
    ·refine⟨B.b,c,s,q,buf,z,?_,hb,kz,nT.1,nT.2,?_⟩
     ·have qf:(zeroValue e).run P w=.ok z w:=by simp[zeroValue,typeInfo,hi,hz]
      simp[execOp,ho,hu,Conc.rcase,run_underlying ht,qf]
     ·rw[Tx];exact nT.2.rep q3
    ·rw[hk]at kV
     simp only[Option.some.injEq,BK.chan.injEq]at kV
     subst kV
     refine⟨fA,_,_,_,kr,by simp[K3,oM],fun j cs hj=>?_⟩
     obtain⟨b,u,k1,k2,k3⟩:=hR (j+1) cs (by rw[oM];simpa using hj)
     refine⟨b,u,k1,?_,hr _ _ k3⟩
     have dZ:=(Array.getElem?_eq_some_iff.1 k2).1
     rw[Array.getElem?_extract,if_pos (by omega),Nat.add_comm 1 j];exact k2
   ·cases hv
  ·cases hv
 ·cases hv
theorem Gt {ops:Array Oper} {nt site0:Nat} {K:Env->ar->Prop} {Q:Exit->Act->World->Prop}:∀(l:List Oper) (vl:List br) (j:Nat) (env:Env) (σ:ar) (a:Act) (w:World) (D:Nat->Prop) (ι:Names),
  ops.toList.drop j=l->allM (kT P ops nt site0 false false #[] []) l j=some vl->cH vl K env σ->gF P hs D ι σ.get w->Used ι σ.next (fun _=>False)->cE P w D ι env a->a.tmps.size=nt->
  (∀iM σ' a' w' D' ι',K iM σ'->Step hs D ι w D' ι' w'->St P hs nt D' ι' iM σ' a' w'->a'.defers=a.defers->σ.next<=σ'.next->Q .normal a' w')->xG P ops Q (List.range' j l.length) a w:=by
 intro l
 induction l with
 |nil=>
  intro vl j env σ a w D ι _ h hv S Us E fA hQ
  simp[allM]at h;subst h
  exact Pq (hQ env ⟨σ.get,σ.next+1⟩ a w D ι hv (Step.refl _ _ _ _) ⟨S,Us.next,E,fA⟩ rfl (Nat.le_succ _))
 |cons o l ih=>
  intro vl j env σ a w D ι hl h hv S Us E fA hQ
  simp only[allM,Option.bind_eq_bind,Option.bind_eq_some_iff,Option.pure_def,Option.some.injEq]at h
  obtain⟨vo,pW,tH,sL,rfl⟩:=h
  obtain⟨hc,hd,BQ,xQ,hg⟩:=pq pW
  obtain⟨Rv,hv⟩:=hv
  have Vl:o.guard=none:=by
   split at hg
   ·assumption
   ·obtain⟨t,_,h⟩:=hg
    rw[Rv]at h;cases h
  have Vm:ops[j]? =some o:=by
   have h0:=congrArg (fun x=>x[0]?) hl
   rw[<-Array.getElem?_toList]
   simpa[List.getElem?_drop]using h0
  have K9:ops.toList.drop (j+1)=l:=by rw[<-List.drop_drop,hl];rfl
  have go:∀(v:AV) (u:Value) (g2:Rows) (w2:World),cH tH K (upd env vo.dst v) ⟨g2,σ.next⟩->gF P hs D ι g2 w2->Step hs D ι w D ι w2->cL P w2 D ι v u->xG P ops Q (List.range' (j+1) l.length) (a.put o.dst u) w2:=fun v u g2 w2 hn S2 T hR=>
   ih tH (j+1) (upd env vo.dst v) ⟨g2,σ.next⟩ (a.put o.dst u) w2 D ι K9 sL hn S2 Us (by rw[hd];exact iF (oH E T) hR xQ fA) (by rw[fc];exact fA) fun iM σ2 a' w3 D3 ι3 hk T2 NQ DQ nh=>hQ iM σ2 a' w3 D3 ι3 hk (T.trans T2) NQ (DQ.trans (put_defers _ _ _)) nh
  rw[show List.range' j (o::l).length=j::List.range' (j+1) l.length from rfl]
  split at hv
  ·rename_i x y eF
   split at hv
   ·rename_i g2 QB
    rw[eF]at hc
    obtain⟨c,cap,s,r,buf,u,gr,hb,gi,S2,T⟩:=QY S hc E QB
    exact Mx Vm Vl gr hb gi (go _ _ _ _ hv S2 T cL.undef)
   ·exact hv.elim
  ·rename_i x eF
   split at hv
   ·rename_i v g2 QB
    rw[eF]at hc
    obtain⟨c,cap,s,r,buf,z,gr,hb,Jz,S2,T,hR⟩:=QX S hc E QB
    exact Mw Vm Vl gr hb Jz (go _ _ _ _ hv S2 T hR)
   ·exact hv.elim
  ·split at hv
   ·rename_i v hq
    obtain⟨u,gr,hR⟩:=y7 hc hq S E
    exact J7 Vm Vl gr (go _ _ _ _ hv S (Step.refl _ _ _ _) hR)
   ·exact hv.elim
end
end Go.Proofs.YtgoelphibofcmaaGreat.V

namespace Go.Proofs.YtgoelphibofcmaaGreat.V
open Go.RowKit
variable {P:Program} {w w':World} {D D' D2:Nat->Prop} {ι ι' ι2:Names}
section
variable {hs:Nat} {X:fP}
def SO:Ex->Exit
 | .normal=>.normal
 | .exit id=>.exit id
 | .ret=>.ret
theorem St.drew {nt:Nat} {env:Env} {σ:ar} {a:Act} {D:Nat->Prop} {ι:Names} (h:St P hs nt D ι env σ a w):St P hs nt D ι env σ a w.drew/\Step hs D ι w D ι w.drew:=by
 have T:Step hs D ι w D ι w.drew:=Step.stay h.tz (fun _ _=>rfl) (Nat.le_refl _) rfl rfl rfl (fun _ h=>h) (fun _ h=>.inl h) (fun _ _ h=>h)
 exact⟨⟨h.tz.stay (fun _ _=>rfl) (Nat.le_refl _) (fun _ h=>h) h.tz.dead (fun _ h=>.inl h) (fun _ _ h=>h),h.used,oH h.env T,h.size⟩,T⟩
def tM (P:Program) (hs nt:Nat) (ds:List Deferred) (Q:Ex->Env->ar->Prop) (n0:Nat) (D:Nat->Prop) (ι:Names) (w:World) (Q':Exit->Act->World->Prop):Prop:=
 ∀ex env σ a w' D' ι',Q ex env σ->Step hs D ι w D' ι' w'->St P hs nt D' ι' env σ a w'->a.defers=ds->n0<=σ.next->Q' (SO ex) a w'
theorem tM.later {nt:Nat} {ds:List Deferred} {Q:Ex->Env->ar->Prop} {n0 n1:Nat} {Q':Exit->Act->World->Prop} (h:tM P hs nt ds Q n0 D ι w Q') (T:Step hs D ι w D' ι' w') (hn:n0<=n1):tM P hs nt ds Q n1 D' ι' w' Q':=
 fun ex env σ a w2 D2 ι2 hq T2 dK hd hle=>h ex env σ a w2 D2 ι2 hq (T.trans T2) dK hd (Nat.le_trans hn hle)
theorem qq (hm:P.follows .mixedOrders=true) {md:List (Nat×Nat)} {nt fid:Nat}:∀(c:Code) (vc:VC),ju P md nt fid c=some vc->∀(Q:Ex->Env->ar->Prop) (env:Env) (σ:ar) (a:Act) (w:World) (D:Nat->Prop) (ι:Names) (Q':Exit->Act->World->Prop),
  dO (Sound P) vc Q env σ->St P hs nt D ι env σ a w->tM P hs nt a.defers Q σ.next D ι w Q'->AJ P c Q' a w:=by
 intro c
 induction c with
 |skip=>
  intro vc h Q env σ a w D ι Q' hv dK hQ
  simp[ju]at h;subst h
  exact kB <| wp_skip (hQ .normal env σ a w D ι hv (Step.refl _ _ _ _) dK rfl (Nat.le_refl _))
 |exit id=>
  intro vc h Q env σ a w D ι Q' hv dK hQ
  simp[ju]at h;subst h
  exact kB <| wp_exit (hQ (.exit id) env σ a w D ι hv (Step.refl _ _ _ _) dK rfl (Nat.le_refl _))
 |ret=>
  intro vc h Q env σ a w D ι Q' hv dK hQ
  simp[ju]at h;subst h
  exact kB <| wp_ret (hQ .ret env σ a w D ι hv (Step.refl _ _ _ _) dK rfl (Nat.le_refl _))
 |seq x y ihx ihy=>
  intro vc h Q env σ a w D ι Q' hv dK hQ
  simp only[ju,Option.bind_eq_bind,Option.bind_eq_some_iff,Option.pure_def,Option.some.injEq]at h
  obtain⟨vx,hx,vy,hy,rfl⟩:=h
  refine lN (ihx vx hx _ env σ a w D ι _ hv dK fun ex jk σ1 a1 w1 D1 ι1 hq T kh hd hle=>?_)
  cases ex with
  |normal=>exact ihy vy hy Q jk σ1 a1 w1 D1 ι1 Q' hq kh (by rw[hd];exact hQ.later T hle)
  |exit id=>exact hQ (.exit id) jk σ1 a1 w1 D1 ι1 hq T kh hd hle
  |ret=>exact hQ .ret jk σ1 a1 w1 D1 ι1 hq T kh hd hle
 |cond c x y ihx ihy=>
  intro vc h Q env σ a w D ι Q' hv dK hQ
  simp only[ju,Option.bind_eq_bind,Option.bind_eq_some_iff,Option.pure_def,Option.some.injEq]at h
  obtain⟨c',hc,vx,hx,vy,hy,rfl⟩:=h
  unfold dO at hv
  have hr:=dt dK.env hc
  split at hv
  ·rename_i b hb
   rw[hb]at hr
   refine wV (fm hr) ?_
   cases b with
   |true=>exact ihx vx hx Q env σ a w D ι Q' hv dK hQ
   |false=>exact ihy vy hy Q env σ a w D ι Q' hv dK hQ
  ·exact hv.elim
 |block id c ih=>
  intro vc h Q env σ a w D ι Q' hv dK hQ
  simp only[ju,Option.map_eq_some_iff]at h
  obtain⟨vx,hx,rfl⟩:=h
  refine tk (ih vx hx _ env σ a w D ι _ hv dK fun ex jk σ1 a1 w1 D1 ι1 hq T kh hd hle=>?_)
  cases ex with
  |normal=>exact hQ .normal jk σ1 a1 w1 D1 ι1 hq T kh hd hle
  |ret=>exact hQ .ret jk σ1 a1 w1 D1 ι1 hq T kh hd hle
  |exit j5=>
   simp only[bj]at hq
   simp only[SO,Exit.inBlock]
   by_cases hid:j5=id
   ·rw[if_pos hid]at hq ⊢;exact hQ .normal jk σ1 a1 w1 D1 ι1 hq T kh hd hle
   ·rw[if_neg hid]at hq ⊢;exact hQ (.exit j5) jk σ1 a1 w1 D1 ι1 hq T kh hd hle
 |loop c ih=>
  intro vc h Q env σ a w D ι Q' hv dK hQ
  simp only[ju,Option.map_eq_some_iff]at h
  obtain⟨vx,hx,rfl⟩:=h
  obtain⟨n,hv⟩:=hv
  refine Cq n ?_
  have key:∀n env σ a w D ι,FU (dO (Sound P) vx) Q n env σ->St P hs nt D ι env σ a w->tM P hs nt a.defers Q σ.next D ι w Q'->pC P c Q' n a w:=by
   intro n
   induction n with
   |zero=>intro env σ a w D ι h;exact h.elim
   |succ n ihn=>
    intro env σ a w D ι h dK hQ
    refine ih vx hx _ env σ a w D ι _ h dK fun ex jk σ1 a1 w1 D1 ι1 hq T kh hd hle=>?_
    cases ex with
    |normal=>exact ihn jk σ1 a1 w1 D1 ι1 hq kh (by rw[hd];exact hQ.later T hle)
    |exit id=>exact hQ (.exit id) jk σ1 a1 w1 D1 ι1 hq T kh hd hle
    |ret=>exact hQ .ret jk σ1 a1 w1 D1 ι1 hq T kh hd hle
  exact key n env σ a w D ι hv dK hQ
 |region id ops draw=>
  intro vc h Q env σ a w D ι Q' hv dK hQ
  simp only[ju,QW]at h
  split at h
  ·rename_i hmode
   have UQ:draw=true:=by
    simp only[Bool.and_eq_true]at hmode;exact hmode.1
   subst UQ
   split at h
   ·rename_i vl dC
    obtain⟨rO,T0⟩:=dK.drew
    have DM:=HP (X:=Sound P) kS ops.size _ vc env σ h (fun k i h=>by
     exfalso
     rcases Nat.lt_or_ge k ops.size with hk|hk
     ·simp[hk]at h
     ·simp[Nat.not_lt.2 hk]at h) hv
    refine kB (wp_region_any hm ?_)
    exact Fa dC ops.size _ env σ a w.drew D ι (fun _=>False) DM rO.tz rO.used (fun _ h=>h.elim) rO.env rO.size fun jk σ1 a1 w1 D1 ι1 hk T kh hd hle=>hQ .normal jk σ1 a1 w1 D1 ι1 hk (T0.trans T) kh hd hle
   ·cases h
  split at h
  ·rename_i hcom
   have UQ:draw=false:=by
    simp only[Bool.and_eq_true,Bool.not_eq_true']at hcom;exact hcom.1
   subst UQ
   simp only[Option.map_eq_some_iff]at h
   obtain⟨vl,sL,rfl⟩:=h
   have dC:allM (kT P ops nt ((fid*1000+id)*1000) false false #[] []) ops.toList 0=some vl:=by
    unfold rE at sL
    simp only[Bool.false_eq_true,if_false,Bool.not_false,Bool.true_or,if_true]at sL
    split at sL
    ·rename_i tH h;simp at sL;subst sL;exact h
    ·cases sL
   refine Ev ?_
   have:=Gt (Q:=Q') ops.toList vl 0 env σ a w D ι rfl dC hv dK.tz dK.used dK.env dK.size fun jk σ1 a1 w1 D1 ι1 hk T kh hd hle=>hQ .normal jk σ1 a1 w1 D1 ι1 hk T kh hd hle
   rwa [<-List.range_eq_range',Array.length_toList]at this
  generalize (wS md id==1)=mk at h
  simp only[Option.map_eq_some_iff]at h
  obtain⟨vl,sL,rfl⟩:=h
  cases draw with
  |false=>
   have dC:∃tH,allM (kT P ops nt ((fid*1000+id)*1000) false mk #[] []) ops.toList 0=some tH/\vl=tH:=by
    unfold rE at sL
    simp only[Bool.false_eq_true,if_false,Bool.not_false,Bool.true_or,if_true]at sL
    split at sL
    ·rename_i tH h;simp at sL;exact⟨tH,h,sL.symm⟩
    ·cases sL
   obtain⟨tH,dC,rfl⟩:=dC
   refine kB (wp_region_list ?_)
   exact yX ops.toList vl 0 env σ a w D ι (fun _=>False) dC hv dK.tz dK.used (fun _ h=>h.elim) dK.env dK.size fun jk σ1 a1 w1 D1 ι1 hk T kh hd hle=>hQ .normal jk σ1 a1 w1 D1 ι1 hk T kh hd hle
  |true=>
   have dC:∃hidden tH,allM (kT P ops nt ((fid*1000+id)*1000) true mk (jI ops) hidden) ops.toList 0=some tH/\vl=tH/\oG ops tH (jI ops)=true:=by
    unfold rE at sL
    simp only[if_true,Bool.not_true,Bool.false_or]at sL
    split at sL
    ·rename_i tH h
     split at sL
     ·rename_i wK;simp at sL;exact⟨_,tH,h,sL.symm,wK⟩
     ·cases sL
    ·cases sL
   obtain⟨hidden,tH,dC,rfl,wK⟩:=dC
   obtain⟨rO,T0⟩:=dK.drew
   obtain⟨hlen,_⟩:=ou dC
   have kW:vl.length=ops.size:=by rw[hlen];simp
   have DM:=xt (X:=Sound P) (K:=Q .normal) (n:=σ.next) wK kW vl 0 (Array.replicate ops.size false) env σ.get (by simp) (by simp) (fun i hi=>by simp[hi]) (by simp[kW]) (fun k i h=>by
    exfalso
    rcases Nat.lt_or_ge k ops.size with hk|hk
    ·simp[hk]at h
    ·simp[Nat.not_lt.2 hk]at h) hv
   refine kB (wp_region_any hm ?_)
   rw[kW]at DM
   exact yf dC ops.size _ env σ.get a w.drew D ι (fun _=>False) DM rO.tz rO.used (fun _ h=>h.elim) rO.env rO.size fun jk g1 a1 w1 D1 ι1 U1 hk T S1 TZ E1 AQ hd=>hQ .normal jk ⟨g1,σ.next+1⟩ a1 w1 D1 ι1 hk (T0.trans T) ⟨S1,TZ.next,E1,AQ⟩ hd (Nat.le_succ _)
 |_=>
  intro vc h
  simp[ju]at h
def Kj (tmps:Array Value):ResultVar->Sem Value
 | .tmp t=>pure (tmps.getD t undef)
 | .cell a t=>do loadVar t (<-asAddr (tmps.getD a undef))
theorem EH (fn:Func) (tmps:Array Value):results fn tmps=(do
  let vs <-fn.results.mapM (Kj tmps)
  pure (if h:vs.size=1 then vs[0]else .tuple vs)):=by
 unfold results
 congr 2
theorem ui {nt:Nat} {env:Env} {σ:ar} {a:Act} {D:Nat->Prop} {ι:Names} (dK:St P hs nt D ι env σ a w):∀(rs:List ResultVar) (vr:List nO) (vs:List AV),rs.mapM (Dr P)=some vr->fx env σ.get vr=some vs->
  ∃us:List Value,(rs.mapM (Kj a.tmps)).run P w=.ok us w/\us.length=vs.length/\∀(j:Nat) (v:AV),vs[j]? =some v->∃u,us[j]? =some u/\cL P w D ι v u
 |[],vr,vs,h,hv=>by
  simp at h;subst h
  simp[fx]at hv;subst hv
  exact⟨[],by simp,rfl,fun j v h=>by simp at h⟩
 |r::rs,vr,vs,h,hv=>by
  simp only[List.mapM_cons,Option.bind_eq_bind,Option.bind_eq_some_iff]at h
  obtain⟨x,hx,vr',hr,h⟩:=h
  simp at h;subst h
  simp only[fx,Option.bind_eq_some_iff,Option.map_eq_some_iff]at hv
  obtain⟨v,yH,VK,RW,rfl⟩:=hv
  obtain⟨us,h1,h2,h3⟩:=ui dK rs vr' VK hr RW
  have one:∃u,(Kj a.tmps r).run P w=.ok u w/\cL P w D ι v u:=by
   cases r with
   |tmp t=>
    simp[Dr]at hx;subst hx
    simp[iw]at yH;subst yH
    exact⟨_,rfl,dK.env t⟩
   |cell b t=>
    simp only[Dr,Option.bind_eq_bind,Option.bind_eq_some_iff,Option.pure_def,Option.some.injEq]at hx
    obtain⟨ag,uU,n,hn,rfl⟩:=hx
    simp only[iw]at yH
    have gS:=dK.env b
    unfold ld at yH
    split at yH
    ·rename_i j5 i' oo hb
     rw[hb]at gS
     obtain⟨B,he,hB,hk⟩:=iJ gS
     simp only[Option.bind_eq_some_iff]at yH
     obtain⟨cs,dy,hp⟩:=yH
     obtain⟨B',r0,HZ,dH,R,hi,fl,f,hf⟩:=Kp (S:=dK.tz) dy (fun B2 h2=>by rw[hB]at h2;injection h2 with h2;subst h2;exact hk)
     rw[hB]at dH;injection dH with dH;subst dH
     obtain⟨u,k1,k2⟩:=kJ (w:=w) (b:=B.b) (oo:=i'*B.sz+oo) (f:=fun j=>f (oo+j)) uU hn hp (fun a ha=>fl a (List.mem_of_mem_drop ha)) (fun j hj=>by
      rw[Nat.add_assoc];exact(hf _ (by simp at hj;omega)).1) (fun j a ha=>by
      simp at ha;exact(hf _ ((List.getElem?_eq_some_iff.1 ha).1)).2 _ ha)
     exact⟨u,by simp only[Kj,he,asAddr,Sem.run_bind,Sem.run_pure,Result.andThen_ok,k1],k2⟩
    ·rename_i cs hb
     rw[hb]at gS
     obtain⟨b',oo,vs2,he,q1,q2,q3,q4⟩:=lf gS
     obtain⟨u,k1,k2⟩:=kJ (w:=w) (b:=b') (oo:=oo) (f:=vs2) uU hn yH q2 q3 (fun j a ha=>.eT _ _ (q4 j a ha))
     exact⟨u,by simp only[Kj,he,asAddr,Sem.run_bind,Sem.run_pure,Result.andThen_ok,k1],k2⟩
    ·simp at yH
  obtain⟨u,hu,xU⟩:=one
  refine⟨u::us,?_,by simp[h2],fun j v' hj=>?_⟩
  ·rw[List.mapM_cons]
   simp only[Sem.run_bind,hu,h1,Result.andThen_ok,Sem.run_pure]
  ·cases j with
   |zero=>simp at hj;subst hj;exact⟨u,rfl,xU⟩
   |succ j=>simp at hj ⊢;exact h3 j v' hj
theorem vQ {f:Nat} {fn:Func} {c:Code} {args:List AV} {σ:ar} {K:AV->ar->Prop} {vr:List nO} (Qq:P.funcs[f]? =some fn) (hc:fn.body=some c) (hr:fn.results.toList.mapM (Dr P)=some vr) (ha:fn.params.size+fn.nfree=args.length) (hle:fn.params.size+fn.nfree<=fn.ntmps)
  (h:∀(hs:Nat) (w:World) (D:Nat->Prop) (ι:Names) (a:Act) (Q':Exit->Act->World->Prop),St P hs fn.ntmps D ι (cF args) σ a w->tM P hs fn.ntmps a.defers (kI vr K) σ.next D ι w Q'->AJ P c Q' a w):Sound P f args σ K:=by
 intro hs D ι w vs S Us A
 have fA:vs.size=args.length:=A.1
 refine zz Qq hc ?_
 refine h hs w D ι _ _ ⟨S,Us,fun t=>?_,by simp;omega⟩ fun ex jk σ1 a1 w1 D1 ι1 hq T kh hd hle=>?_
 ·simp only[cF]
  by_cases dZ:t<args.length
  ·obtain⟨u,hu,xU⟩:=A.2 t args[t] (List.getElem?_eq_getElem dZ)
   have e1:args.getD t .undef=args[t]:=by simp[List.getD_eq_getElem?_getD,dZ]
   have e2:(vs++Array.replicate (fn.ntmps-vs.size) undef).getD t undef=u:=by
    simp only[Array.getD_eq_getD_getElem?]
    rw[Array.getElem?_append_left (by omega),hu];rfl
   rw[e1,e2];exact xU
  ·have e1:args.getD t .undef=.undef:=by simp[List.getD_eq_getElem?_getD,Nat.le_of_not_lt dZ]
   have e2:(vs++Array.replicate (fn.ntmps-vs.size) undef).getD t undef=undef:=by
    simp only[Array.getD_eq_getD_getElem?]
    rw[Array.getElem?_append_right (by omega),Array.getElem?_replicate]
    split<;>rfl
   rw[e1,e2];exact cL.undef
 ·have fin:(∃vs,fx jk σ1.get vr=some vs/\K (eY vs) σ1)->a1.defers=[]/\∃v,(results fn a1.tmps).run P w1=.ok v w1/\∃r g' n' D' ι' u,Ending.returned v=.returned u/\K r ⟨g',n'⟩/\Step hs D ι w D' ι' w1/\gF P hs D' ι' g' w1/\Used ι' n' (fun _=>False)/\σ.next<=n'/\cL P w1 D' ι' r u:=by
   rintro⟨avs,RW,hK⟩
   obtain⟨us,h1,h2,h3⟩:=ui kh fn.results.toList vr avs hr RW
   have O1:(results fn a1.tmps).run P w1=.ok (if h:us.toArray.size=1 then us.toArray[0]else .tuple us.toArray) w1:=by
    rw[EH,Array.mapM_eq_mapM_toList]
    simp only[Sem.run_bind,Sem.run_map,h1,Result.andThen_ok,Sem.run_pure]
   refine⟨hd,_,O1,eY avs,σ1.get,σ1.next,D1,ι1,_,rfl,hK,T,kh.tz,kh.used,hle,?_⟩
   unfold eY
   split
   ·rename_i v
    have hl:us.length=1:=h2
    obtain⟨u,hu,xU⟩:=h3 0 v rfl
    rw[dif_pos (by simpa using hl)]
    have:us.toArray[0]'(by simp[hl])=u:=by
     have:=(List.getElem?_eq_some_iff.1 hu).2
     simpa using this
    rw[this];exact xU
   ·rename_i gP
    rw[dif_neg (by
     simp only[List.size_toArray,h2]
     intro h
     obtain⟨v,hv⟩:=List.length_eq_one_iff.1 h
     exact gP v hv)]
    exact .gE _ _ (fun j=>us.getD j undef) (by simp[h2]) (fun j hj=>by
     have:j<us.length:=by rw[h2];exact hj
     simp[this]) (fun j v hj=>by
     obtain⟨u,hu,xU⟩:=h3 j v hj
     simpa[List.getD_eq_getElem?_getD,hu]using xU)
  cases ex with
  |normal=>exact fin hq
  |ret=>exact fin hq
  |exit id=>exact hq.elim
theorem I7 (hm:P.follows .mixedOrders=true) {f:Nat} {md:List (Nat×Nat)} {vf:AK} {args:List AV} {σ:ar} {K:AV->ar->Prop} (hf:xL P f md=some vf) (ha:vf.yT=args.length) (h:dO (Sound P) vf.body (kI vf.res K) (cF args) σ):Sound P f args σ K:=by
 unfold xL at hf
 split at hf
 ·rename_i fn Qq
  split at hf
  ·rename_i c hc
   simp only[Option.bind_eq_bind,Option.bind_eq_some_iff]at hf
   obtain⟨vb,hb,vr,hr,hf⟩:=hf
   split at hf
   ·rename_i hle
    simp only[Option.pure_def,Option.some.injEq]at hf
    subst hf
    simp only at ha h
    exact vQ Qq hc hr ha hle fun hs w D ι a Q' dK hQ=>qq hm c vb hb (kI vr K) (cF args) σ a w D ι Q' h dK hQ
   ·simp at hf
  ·simp at hf
 ·simp at hf
def NG (P:Program) (X:fP):fP:=fun f args σ K=>(∃md vf,xL P f md=some vf/\vf.yT=args.length/\((∀a∈args,eL a)->dO X vf.body (kI vf.res K) (cF args) σ))∨Sound P f args σ K
def Call (P:Program):fP:=fun f args σ K=>∀X:fP,pZ X->(∀f args σ K,NG P X f args σ K->X f args σ K)->X f args σ K
theorem gC (hm:P.follows .mixedOrders=true) {f:Nat} {args:List AV} {σ:ar} {K:AV->ar->Prop} (h:Call P f args σ K):Sound P f args σ K:=
 h (Sound P) kS fun f args σ K hs=>by
  rcases hs with⟨md,vf,h1,h2,h3⟩|h
  ·intro hs D ι w vs S U A
   exact I7 hm h1 h2 (h3 (oU fun j a hj=>by obtain⟨u,_,hr⟩:=A.2 j a hj;exact hr.JK)) hs D ι w vs S U A
  ·exact h
end
end Go.Proofs.YtgoelphibofcmaaGreat.V

namespace Go.Proofs.YtgoelphibofcmaaGreat.V
open Go.RowKit
variable {P:Program} {X Y:fP}
theorem Ip (h:∀f args σ K,X f args σ K->Y f args σ K) {f:Nat} {args:List AV} {σ:ar} {K:AV->Prop} (hp:gy X f args σ K):gy Y f args σ K:=by
 rcases hp with hp|⟨a,h1,h2⟩
 ·exact .inl (h _ _ _ _ hp)
 ·exact .inr ⟨a,h1,h _ _ _ _ h2⟩
theorem Lg (h:∀f args σ K,X f args σ K->Y f args σ K) {f:Nat} {args:List AV} {σ:ar} {sz:Nat} {rows:List (List AV)} (hp:CM X f args σ sz rows):CM Y f args σ sz rows:=by
 obtain⟨h1,a,h2,h3⟩:=hp
 exact⟨h1,a,h2,h _ _ _ _ h3⟩
theorem qo (h:∀f args σ K,X f args σ K->Y f args σ K) (hK:∀f args σ K K',(∀r σ',K r σ'->K' r σ')->Y f args σ K->Y f args σ K') {draw:Bool} {hid:List Nat} {site:Nat} {f:Nat} {args:List AV} {σ:ar} {n n':AV->ar->Prop} (hn:∀v σ',n v σ'->n' v σ') (hp:cJ X draw hid site f args σ n):cJ Y draw hid site f args σ n':=by
 rcases hp with⟨r,h1,h2⟩|⟨h1,h2⟩|⟨h1,sz,rows,h2,h3⟩
 ·exact .inl ⟨r,Ip h h1,hn _ _ h2⟩
 ·exact .inr (.inl ⟨h1,hK _ _ _ _ _ hn (h _ _ _ _ h2)⟩)
 ·exact .inr (.inr ⟨h1,sz,rows,Lg h h2,hn _ _ h3⟩)
theorem sD (h:∀f args σ K,X f args σ K->Y f args σ K) (hK:∀f args σ K K',(∀r σ',K r σ'->K' r σ')->Y f args σ K->Y f args σ K') {draw:Bool} {o:br} {env:Env} {σ:ar} {n n':AV->ar->Prop} (hn:∀v σ',n v σ'->n' v σ') (hp:fK X draw o env σ n):fK Y draw o env σ n':=by
 unfold fK at hp ⊢
 split at hp
 ·exact qo h hK hn hp
 ·split at hp
  ·exact qo h hK hn hp
  ·exact qo h hK hn hp
  ·exact hp.elim
 ·split at hp
  ·exact hn _ _ hp
  ·exact hp.elim
 ·split at hp
  ·exact hn _ _ hp
  ·exact hp.elim
 ·split at hp
  ·exact hn _ _ hp
  ·exact hp.elim
 ·split at hp
  ·exact hn _ _ hp
  ·exact hp.elim
 ·split at hp
  ·exact hn _ _ hp
  ·exact hp.elim
 ·split at hp
  ·exact hn _ _ hp
  ·exact hn _ _ hp
  ·exact hp.elim
theorem lp (h:∀f args σ K,X f args σ K->Y f args σ K) (hK:∀f args σ K K',(∀r σ',K r σ'->K' r σ')->Y f args σ K->Y f args σ K') {draw:Bool} {Q Q':Env->ar->Prop} (hQ:∀e s,Q e s->Q' e s):∀(l:List br) (env:Env) (σ:ar),wpOps X draw l Q env σ->wpOps Y draw l Q' env σ
 |[],env,σ,hp=>hQ _ _ hp
 |o::r,env,σ,hp=>by
  unfold wpOps at hp ⊢
  split at hp
  ·rename_i hw;rw[if_pos hw];exact sD h hK (fun v σ'=>lp h hK hQ r _ _) hp
  ·rename_i hw;rw[if_neg hw];exact lp h hK hQ r _ _ hp
theorem ny {Q Q':Env->ar->Prop} (hQ:∀e s,Q e s->Q' e s):∀(l:List br) (env:Env) (σ:ar),cH l Q env σ->cH l Q' env σ
 |[],env,σ,hp=>hQ _ _ hp
 |o::r,env,σ,hp=>by
  unfold cH at hp ⊢
  refine⟨hp.1,?_⟩
  replace hp:=hp.2
  split at hp
  ·split at hp
   ·exact ny hQ r _ _ hp
   ·exact hp.elim
  ·split at hp
   ·exact ny hQ r _ _ hp
   ·exact hp.elim
  ·split at hp
   ·exact ny hQ r _ _ hp
   ·exact hp.elim
theorem jF (h:∀f args σ K,X f args σ K->Y f args σ K) (hK:∀f args σ K K',(∀r σ',K r σ'->K' r σ')->Y f args σ K->Y f args σ K'):∀(c:VC) (Q Q':Ex->Env->ar->Prop) (env:Env) (σ:ar),(∀x e s,Q x e s->Q' x e s)->dO X c Q env σ->dO Y c Q' env σ:=by
 intro c
 induction c with
 |skip=>intro Q Q' env σ hQ hp;exact hQ _ _ _ hp
 |exit id=>intro Q Q' env σ hQ hp;exact hQ _ _ _ hp
 |ret=>intro Q Q' env σ hQ hp;exact hQ _ _ _ hp
 |one o c ih=>
  intro Q Q' env σ hQ hp
  unfold dO at hp ⊢
  split at hp
  ·rename_i hw;rw[if_pos hw];exact sD h hK (fun v σ'=>ih Q Q' _ _ hQ) hp
  ·rename_i hw;rw[if_neg hw];exact ih Q Q' _ _ hQ hp
 |both a b iha ihb=>intro Q Q' env σ hQ hp;exact⟨iha Q Q' env σ hQ hp.1,ihb Q Q' env σ hQ hp.2⟩
 |loc t s y c ih=>intro Q Q' env σ hQ hp;exact⟨hp.1,ih Q Q' env σ hQ hp.2⟩
 |N3 ops=>intro Q Q' env σ hQ hp;exact ny (hQ .normal) ops env σ hp
 |eO draw ops=>intro Q Q' env σ hQ hp;exact lp h hK (hQ .normal) ops env σ hp
 |seq a b iha ihb=>
  intro Q Q' env σ hQ hp
  refine iha _ _ env σ (fun x e s hx=>?_) hp
  cases x with
  |normal=>exact ihb Q Q' e s hQ hx
  |exit id=>exact hQ _ _ _ hx
  |ret=>exact hQ _ _ _ hx
 |cond c a b iha ihb=>
  intro Q Q' env σ hQ hp
  unfold dO at hp ⊢
  split at hp
  ·rename_i t ht
   cases t with
   |true=>exact iha Q Q' env σ hQ hp
   |false=>exact ihb Q Q' env σ hQ hp
  ·exact hp.elim
 |block id a iha=>
  intro Q Q' env σ hQ hp
  refine iha _ _ env σ (fun x e s hx=>?_) hp
  cases x with
  |normal=>exact hQ _ _ _ hx
  |ret=>exact hQ _ _ _ hx
  |exit j5=>
   unfold bj at hx ⊢
   dsimp only at hx ⊢
   split at hx
   ·rename_i hid;rw[if_pos hid];exact hQ _ _ _ hx
   ·rename_i hid;rw[if_neg hid];exact hQ _ _ _ hx
 |loop a iha=>
  intro Q Q' env σ hQ hp
  obtain⟨n,hp⟩:=hp
  refine⟨n,?_⟩
  induction n generalizing env σ with
  |zero=>exact hp
  |succ n ihn=>
   refine iha _ _ env σ (fun x e s hx=>?_) hp
   cases x with
   |normal=>exact ihn e s hx
   |exit id=>exact hQ _ _ _ hx
   |ret=>exact hQ _ _ _ hx
theorem aJ:pZ (Call P):=fun _ _ _ _ _ hK h X hX hc=>hX _ _ _ _ _ hK (h X hX hc)
theorem yd {f:Nat} {args:List AV} {σ:ar} {K:AV->ar->Prop} (h:NG P (Call P) f args σ K):Call P f args σ K:=by
 intro X hX hc
 refine hc _ _ _ _ ?_
 rcases h with⟨md,vf,h1,h2,h3⟩|h
 ·exact .inl ⟨md,vf,h1,h2,fun hl=>jF (fun f args σ K h=>h X hX hc) hX _ _ _ _ _ (fun _ _ _ h=>h) (h3 hl)⟩
 ·exact .inr h
theorem vp {f:Nat} {md:List (Nat×Nat)} {args:List AV} {σ:ar} {K:AV->ar->Prop} {vf:AK} (hf:xL P f md=some vf) (ha:vf.yT=args.length) (h:(∀a∈args,eL a)->dO (Call P) vf.body (kI vf.res K) (cF args) σ):Call P f args σ K:=
 yd (.inl ⟨md,vf,hf,ha,h⟩)
theorem l8 {f:Nat} {args:List AV} {σ:ar} {K:AV->ar->Prop} {vf:AK} (hf:lR P f=some vf) (ha:vf.yT=args.length) (h:(∀a∈args,eL a)->dO (Call P) vf.body (kI vf.res K) (cF args) σ):Call P f args σ K:=
 vp hf ha h
theorem gU {f:Nat} {args:List AV} {σ:ar} {K:AV->ar->Prop} (h:Sound P f args σ K):Call P f args σ K:=yd (.inr h)
def jq (P:Program) (f:Nat) (args:List AV) (r:AV):Prop:=∀σ,PC (Call P) f args σ (fun r'=>r'=r)
theorem jq.body {f:Nat} {args:List AV} {r:AV} {nt na:Nat} {body:VC} {res:List nO} (hf:lR P f=some ⟨nt,na,body,res⟩) (ha:na=args.length) (h:(∀a∈args,eL a)->∀σ:ar,dO (Call P) body (kI res fun r0 σ'=>∃r',fz σ'.get 6 r0=some r'/\r'=r) (cF args) ⟨V.ro σ.get,σ.next⟩):jq P f args r:=fun σ=>l8 hf ha fun hl=>h hl σ
variable {Q:Ex->Env->ar->Prop} {K:Env->ar->Prop} {env:Env} {σ:ar}
theorem Ge {a b:VC} (h:∀N:Env->ar->Prop,(∀e s,dO X b Q e s->N e s)->dO X a (du N Q) env σ):dO X (.seq a b) Q env σ:=h _ fun _ _ h=>h
theorem AH (h:Q .normal env σ):dO X .skip Q env σ:=h
theorem AF {id:Nat} (h:Q (.exit id) env σ):dO X (.exit id) Q env σ:=h
theorem Gd (h:Q .ret env σ):dO X .ret Q env σ:=h
theorem vh {id:Nat} {c:VC} (h:dO X c (bj id Q) env σ):dO X (.block id c) Q env σ:=h
theorem Gb {o:br} {c:VC} (h:∀N:AV->ar->Prop,(∀v s,dO X c Q (upd env o.dst v) s->N v s)->if aT o.guard env then fK X false o env σ N else N .undef σ):dO X (.one o c) Q env σ:=by
 have:=h (fun v s=>dO X c Q (upd env o.dst v) s) fun _ _ h=>h
 unfold dO
 split
 ·rename_i hw;rw[if_pos hw]at this;exact this
 ·rename_i hw;rw[if_neg hw]at this;exact this
def ev (s n:Nat):AV->Prop
 | .own id 0 _=>id=⟨s,n⟩
 |_=>False
def eE (n:Nat):AV->Prop
 | .own id _ _=>¬id.bQ=n
 |_=>True
theorem AG {t s:Nat} {y:O} {c:VC} (h1:ev s σ.next (env t)) (h2:eE σ.next (dj env y)) (h:dO X c Q env σ):dO X (.loc t s y c) Q env σ:=by
 refine⟨⟨?_,fun id o l he=>?_⟩,h⟩
 ·revert h1
  unfold ev
  split
  ·rename_i id l he;rintro rfl;exact⟨l,he⟩
  ·exact fun h=>h.elim
 ·rw[he]at h2;exact h2
theorem fu {a b:VC} (ha:dO X a Q env σ) (hb:dO X b Q env σ):dO X (.both a b) Q env σ:=⟨ha,hb⟩
theorem Gc {draw:Bool} {ops:List br} (h:∀N:Env->ar->Prop,(∀e s,Q .normal e s->N e s)->wpOps X draw ops N env σ):dO X (.eO draw ops) Q env σ:=h _ fun _ _ h=>h
theorem KR {ops:List br} (h:cH ops (Q .normal) env σ):dO X (.N3 ops) Q env σ:=h
theorem CQ {draw:Bool} (h:K env ⟨σ.get,σ.next+1⟩):wpOps X draw [] K env σ:=h
theorem PS {draw:Bool} {o:br} {r:List br} (h:∀N:AV->ar->Prop,(∀v s,wpOps X draw r K (upd env o.dst v) s->N v s)->if aT o.guard env then fK X draw o env σ N else N .undef σ):wpOps X draw (o::r) K env σ:=by
 have:=h (fun v s=>wpOps X draw r K (upd env o.dst v) s) fun _ _ h=>h
 unfold wpOps
 split
 ·rename_i hw;rw[if_pos hw]at this;exact this
 ·rename_i hw;rw[if_neg hw]at this;exact this
theorem KS {c:O} {x y:VC} {b:Bool} (hc:dj env c=.bool b) (ht:b=true->dO X x Q env σ) (hf:b=false->dO X y Q env σ):dO X (.cond c x y) Q env σ:=by
 unfold dO
 simp only[hc]
 cases b with
 |true=>exact ht rfl
 |false=>exact hf rfl
inductive oe:AV->Prop->Prop->Prop
 |t {A B:Prop}:A->oe (.bool true) A B
 |f {A B:Prop}:B->oe (.bool false) A B
theorem vk {c:O} {x y:VC} {v:AV} (hv:dj env c=v) (h:oe v (dO X x Q env σ) (dO X y Q env σ)):dO X (.cond c x y) Q env σ:=by
 cases h with
 |t h=>exact KS hv (fun _=>h) (fun e=>by cases e)
 |f h=>exact KS hv (fun e=>by cases e) (fun _=>h)
theorem PR {c:VC} (I:Nat->Env->ar->Prop) (n:Nat) (h0:I n env σ) (step:∀n env σ,I n env σ->dO X c (fun x e s=>match x with| .normal=>∃m,m<n/\I m e s|x=>Q x e s) env σ)
  (hX:∀(c:VC) (Q Q':Ex->Env->ar->Prop) env σ,(∀x e s,Q x e s->Q' x e s)->dO X c Q env σ->dO X c Q' env σ):dO X (.loop c) Q env σ:=by
 have key:∀N n env σ,n<N->I n env σ->FU (dO X c) Q N env σ:=by
  intro N
  induction N with
  |zero=>intro n env σ h;exact absurd h (Nat.not_lt_zero _)
  |succ N ih=>
   intro n env σ hn hI
   refine hX c _ _ env σ (fun x e s hx=>?_) (step n env σ hI)
   cases x with
   |normal=>obtain⟨m,hm,Ut⟩:=hx;exact ih m e s (by omega) Ut
   |exit id=>exact hx
   |ret=>exact hx
 exact⟨n+1,key _ n env σ (Nat.lt_succ_self _) h0⟩
theorem MS {c:VC} (I:Nat->Env->ar->Prop) (n:Nat) (h0:I n env σ) (step:∀n env σ,I n env σ->dO (Call P) c (fun x e s=>match x with| .normal=>∃m,m<n/\I m e s|x=>Q x e s) env σ):dO (Call P) (.loop c) Q env σ:=
 PR I n h0 step fun c Q Q' env σ hQ h=>jF (fun _ _ _ _ h=>h) aJ c Q Q' env σ hQ h
def yg:VC->List Nat
 | .eO _ ops=>ops.filterMap (·.dst)
 | .seq a b=>yg a++yg b
 | .cond _ a b=>yg a++yg b
 | .block _ a=>yg a
 | .loop a=>yg a
 | .one o c=>o.dst.toList++yg c
 | .both a b=>yg a++yg b
 | .loc _ _ _ c=>yg c
 | .N3 ops=>ops.filterMap (·.dst)
 |_=>[]
def gI (l:List Nat) (env iM:Env):Prop:=∀t,l.contains t=false->iM t=env t
theorem gI.refl (l:List Nat) (env:Env):gI l env env:=fun _ _=>rfl
theorem gI.trans {l:List Nat} {e e' e'':Env} (h:gI l e e') (k:gI l e' e''):gI l e e'':=fun t ht=>(k t ht).trans (h t ht)
theorem gI.sub {l l':List Nat} {e e':Env} (h:gI l e e') (hs:∀t,t∈l->t∈l'):gI l' e e':=fun t ht=>h t (by
 rw[<-Bool.not_eq_true]at ht ⊢
 simp only[List.contains_iff_mem]at ht ⊢
 exact fun hc=>ht (hs t hc))
theorem gI.upd {l:List Nat} {e e':Env} {d:Option Nat} {v:AV} (h:gI l e e') (hd:∀t,d=some t->t∈l):gI l e (upd e' d v):=fun t ht=>by
 cases d with
 |none=>exact h t ht
 |some d=>
  have:t≠d:=fun hc=>by subst hc;rw[<-Bool.not_eq_true,List.contains_iff_mem]at ht;exact ht (hd _ rfl)
  show(if t=d then v else e' t)=e t
  rw[if_neg this];exact h t ht
theorem pj {draw:Bool} {Q:Env->ar->Prop} {l:List Nat} {e0:Env}:∀(ops:List br) (env:Env) (σ:ar),(∀t,t∈ops.filterMap (·.dst)->t∈l)->gI l e0 env->wpOps (Call P) draw ops Q env σ->wpOps (Call P) draw ops (fun e s=>Q e s/\gI l e0 e) env σ
 |[],env,σ,_,hk,hp=>⟨hp,hk⟩
 |o::r,env,σ,hl,hk,hp=>by
  have hd:∀t,o.dst=some t->t∈l:=fun t ht=>hl t (List.mem_filterMap.2 ⟨o,by simp,ht⟩)
  have hr:∀t,t∈r.filterMap (·.dst)->t∈l:=fun t ht=>hl t (by
   obtain⟨x,hx,h⟩:=List.mem_filterMap.1 ht
   exact List.mem_filterMap.2 ⟨x,List.mem_cons_of_mem _ hx,h⟩)
  unfold wpOps at hp ⊢
  split at hp
  ·rename_i hw;rw[if_pos hw]
   exact sD (fun _ _ _ _ h=>h) aJ (fun v σ' h=>pj r _ _ hr (hk.upd hd) h) hp
  ·rename_i hw;rw[if_neg hw];exact pj r _ _ hr (hk.upd hd) hp
theorem lP {Q:Env->ar->Prop} {l:List Nat} {e0:Env}:∀(ops:List br) (env:Env) (σ:ar),(∀t,t∈ops.filterMap (·.dst)->t∈l)->gI l e0 env->cH ops Q env σ->cH ops (fun e s=>Q e s/\gI l e0 e) env σ
 |[],env,σ,_,hk,hp=>⟨hp,hk⟩
 |o::r,env,σ,hl,hk,hp=>by
  have hd:∀t,o.dst=some t->t∈l:=fun t ht=>hl t (List.mem_filterMap.2 ⟨o,by simp,ht⟩)
  have hr:∀t,t∈r.filterMap (·.dst)->t∈l:=fun t ht=>hl t (by
   obtain⟨x,hx,h⟩:=List.mem_filterMap.1 ht
   exact List.mem_filterMap.2 ⟨x,List.mem_cons_of_mem _ hx,h⟩)
  unfold cH at hp ⊢
  refine⟨hp.1,?_⟩
  replace hp:=hp.2
  split at hp
  ·split at hp
   ·exact lP r _ _ hr (hk.upd hd) hp
   ·exact hp.elim
  ·split at hp
   ·exact lP r _ _ hr (hk.upd hd) hp
   ·exact hp.elim
  ·split at hp
   ·exact lP r _ _ hr (hk.upd hd) hp
   ·exact hp.elim
theorem zi {l:List Nat} {e0:Env}:∀(c:VC) (Q:Ex->Env->ar->Prop) (env:Env) (σ:ar),(∀t,t∈yg c->t∈l)->gI l e0 env->dO (Call P) c Q env σ->dO (Call P) c (fun x e s=>Q x e s/\gI l e0 e) env σ:=by
 intro c
 induction c with
 |skip=>intro Q env σ _ hk hp;exact⟨hp,hk⟩
 |exit id=>intro Q env σ _ hk hp;exact⟨hp,hk⟩
 |ret=>intro Q env σ _ hk hp;exact⟨hp,hk⟩
 |one o c ih=>
  intro Q env σ hl hk hp
  have hd:∀t,o.dst=some t->t∈l:=fun t ht=>hl t (List.mem_append_left _ (by rw[ht];simp))
  have hr:∀t,t∈yg c->t∈l:=fun t ht=>hl t (List.mem_append_right _ ht)
  unfold dO at hp ⊢
  split at hp
  ·rename_i hw;rw[if_pos hw]
   exact sD (fun _ _ _ _ h=>h) aJ (fun v σ' h=>ih Q _ _ hr (hk.upd hd) h) hp
  ·rename_i hw;rw[if_neg hw];exact ih Q _ _ hr (hk.upd hd) hp
 |both a b iha ihb=>
  intro Q env σ hl hk hp
  exact⟨iha Q env σ (fun t ht=>hl t (List.mem_append_left _ ht)) hk hp.1,ihb Q env σ (fun t ht=>hl t (List.mem_append_right _ ht)) hk hp.2⟩
 |loc t s y c ih=>intro Q env σ hl hk hp;exact⟨hp.1,ih Q env σ hl hk hp.2⟩
 |N3 ops=>intro Q env σ hl hk hp;exact lP ops env σ hl hk hp
 |eO draw ops=>intro Q env σ hl hk hp;exact pj ops env σ hl hk hp
 |seq a b iha ihb=>
  intro Q env σ hl hk hp
  refine jF (fun _ _ _ _ h=>h) aJ a _ _ env σ (fun x e s hx=>?_) (iha _ env σ (fun t ht=>hl t (List.mem_append_left _ ht)) hk hp)
  cases x with
  |normal=>exact ihb Q e s (fun t ht=>hl t (List.mem_append_right _ ht)) hx.2 hx.1
  |exit id=>exact hx
  |ret=>exact hx
 |cond c a b iha ihb=>
  intro Q env σ hl hk hp
  unfold dO at hp ⊢
  split at hp
  ·rename_i t ht
   cases t with
   |true=>exact iha Q env σ (fun t ht=>hl t (List.mem_append_left _ ht)) hk hp
   |false=>exact ihb Q env σ (fun t ht=>hl t (List.mem_append_right _ ht)) hk hp
  ·exact hp.elim
 |block id a iha=>
  intro Q env σ hl hk hp
  refine jF (fun _ _ _ _ h=>h) aJ a _ _ env σ (fun x e s hx=>?_) (iha _ env σ hl hk hp)
  obtain⟨hx,GN⟩:=hx
  cases x with
  |normal=>exact⟨hx,GN⟩
  |ret=>exact⟨hx,GN⟩
  |exit j5=>
   unfold bj at hx ⊢
   dsimp only at hx ⊢
   split at hx
   ·rename_i hid;rw[if_pos hid];exact⟨hx,GN⟩
   ·rename_i hid;rw[if_neg hid];exact⟨hx,GN⟩
 |loop a iha=>
  intro Q env σ hl hk hp
  obtain⟨n,hp⟩:=hp
  refine⟨n,?_⟩
  induction n generalizing env σ with
  |zero=>exact hp
  |succ n ihn=>
   refine jF (fun _ _ _ _ h=>h) aJ _ _ _ _ _ (fun x e s hx=>?_) (iha _ env σ hl hk hp)
   obtain⟨hx,GN⟩:=hx
   cases x with
   |normal=>exact ihn e s GN hx
   |exit id=>exact⟨hx,GN⟩
   |ret=>exact⟨hx,GN⟩
theorem aZ {c:VC} (I:Nat->Env->ar->Prop) (n:Nat) (h0:I n env σ) (step:∀n e s,I n e s->gI (yg c) env e->dO (Call P) c (fun x e s=>match x with| .normal=>∃m,m<n/\I m e s|x=>Q x e s) e s):dO (Call P) (.loop c) Q env σ:=by
 refine MS (fun n e s=>I n e s/\gI (yg c) env e) n ⟨h0,gI.refl _ _⟩ fun n e s hI=>?_
 refine jF (fun _ _ _ _ h=>h) aJ _ _ _ _ _ (fun x e' s' hx=>?_) (zi c _ e s (fun _ h=>h) hI.2 (step n e s hI.1 hI.2))
 obtain⟨hx,hk⟩:=hx
 cases x with
 |normal=>obtain⟨m,hm,h⟩:=hx;exact⟨m,hm,h,hk⟩
 |exit id=>exact hx
 |ret=>exact hx
theorem KV {k:Nat} (h:k<=9223372036854775807):IntKind.i64.wrap (k:Int)=k:=by rw[IntKind.wrap_i64];omega
theorem bI {z:Int} (h: -9223372036854775808<=z/\z<=9223372036854775807):IntKind.i64.wrap z=z:=by rw[IntKind.wrap_i64];omega
theorem aA {k:Nat} (h:(k:Int)+1<=9223372036854775807):IntKind.i64.wrap ((k:Int)+1)=((k+1:Nat):Int):=by rw[IntKind.wrap_i64];omega
theorem all_succ {k:Nat} {p:Nat->Prop} (h:∀j,j<k->p j) (hk:p k):∀j,j<k+1->p j:=fun j hj=>by
 by_cases yD:j=k
 ·subst yD;exact hk
 ·exact h j (by omega)
theorem aI (g:Rows) (n:Nat) (k:IntKind) (m:Int):fz g (n+1) (.int k m)=some (.int k m):=by rw[fz]<;>intros<;>simp_all
theorem bq (g:Rows) (n:Nat) (b:Bool):fz g (n+1) (.bool b)=some (.bool b):=by rw[fz]<;>intros<;>simp_all
theorem bG (g:Rows) (n:Nat) (b:ByteArray):fz g (n+1) (.str b)=some (.str b):=by rw[fz]<;>intros<;>simp_all
theorem cC (g:Rows) (n:Nat) (l:List (List AV)):fz g (n+1) (.sl l)=some (.sl l):=by rw[fz]<;>intros<;>simp_all
theorem aY (g:Rows) (n:Nat):fz g (n+1) .bE=some .bE:=by rw[fz]<;>intros<;>simp_all
theorem Sn {t:Nat} {r r0:AV} {x:Ex} (hx:x=.ret∨x=.normal) (he:env t=r0) (hz:fz σ.get 6 r0=some r):kI [.tmp t] (fun r0 σ'=>∃r',fz σ'.get 6 r0=some r'/\r'=r) x env σ:=by
 have:∃vs,fx env σ.get [.tmp t]=some vs/\∃r',fz σ.get 6 (eY vs)=some r'/\r'=r:=⟨[env t],rfl,r,by subst he;exact hz,rfl⟩
 rcases hx with rfl|rfl
 ·exact this
 ·exact this
def aq (P:Program) (f:Nat) (args:List AV) (r:AV):Prop:=∀n:Nat,Call P f args ⟨fun _=>none,n⟩ fun r0 σ'=>∃r',gG σ'.get 6 r0=some r'/\r'=r
theorem aq.body {f:Nat} {args:List AV} {r:AV} {nt na:Nat} {body:VC} {res:List nO} (hf:lR P f=some ⟨nt,na,body,res⟩) (ha:na=args.length) (h:(∀a∈args,eL a)->∀n:Nat,dO (Call P) body (kI res fun r0 σ'=>∃r',gG σ'.get 6 r0=some r'/\r'=r) (cF args) ⟨fun _=>none,n⟩):aq P f args r:=fun n=>l8 hf ha fun hl=>h hl n
theorem aq.x {f:Nat} {args args':List AV} {r:AV} (h:aq P f args' r) {σ:ar} (hv:dn (dR σ.get) 6 args=some args'):gy (Call P) f args σ (fun r'=>r'=r):=.inr ⟨args',hv,h _⟩
theorem jq.x {f:Nat} {args:List AV} {r:AV} (h:jq P f args r) (σ:ar):gy (Call P) f args σ (fun r'=>r'=r):=.inl (h σ)
theorem eu (g:Rows) (n:Nat) (k:IntKind) (m:Int):gG g (n+1) (.int k m)=some (.int k m):=by rw[gG]<;>intros<;>simp_all
theorem fR (g:Rows) (n:Nat) (b:Bool):gG g (n+1) (.bool b)=some (.bool b):=by rw[gG]<;>intros<;>simp_all
theorem LD (g:Rows) (n:Nat) (b:ByteArray):gG g (n+1) (.str b)=some (.str b):=by rw[gG]<;>intros<;>simp_all
theorem jw (g:Rows) (n:Nat):gG g (n+1) .bE=some .bE:=by rw[gG]<;>intros<;>simp_all
theorem eU (g:Rows) (n:Nat) (l:List AV):gG g (n+1) (.gE l)=(eD g n l).map AV.gE:=by rw[gG]
theorem uQ (g:Rows) (n:Nat) (l:List AV):gG g (n+1) (.agg l)=(eD g n l).map AV.agg:=by rw[gG]
theorem uR {g:Rows} {n:Nat} {id:Id} {off len sz:Nat} {rows rows':List (List AV)} (h:g id=some ⟨true,sz,rows⟩) (hl:off+len<=rows.length) (hr:iu g n ((rows.drop off).take len)=some rows'):gG g (n+1) (.own id off len)=some (.sl rows'):=by
 rw[gG];simp only[h,if_true,if_pos hl,hr,Option.map_some]
theorem cr (g:Rows) (n:Nat):eD g n []=some []:=by rw[eD]
theorem bw (g:Rows) (n:Nat) (a:AV) (l:List AV):eD g n (a::l)=match gG g n a with
  |some b=>(eD g n l).map (b::·)
  |none=>none:=by rw[eD];cases gG g n a<;>rfl
theorem tU {g:Rows} {n:Nat}:∀{l:List (List AV)},(∀c∈l,eD g n c=some c)->iu g n l=some l
 |[],_=>by rw[iu]
 |c::r,h=>by rw[iu,h c (by simp),tU fun d hd=>h d (List.mem_cons_of_mem _ hd)];rfl
theorem bh (g:Rows) (n:Nat) (l:List AV):fz g (n+1) (.agg l)=(dn g n l).map AV.agg:=by rw[fz]
theorem aW (g:Rows) (n:Nat) (l:List AV):fz g (n+1) (.dq l)=some (.dq l):=by rw[fz]<;>intros<;>simp_all
theorem wq {g:Rows} {n:Nat} {id:Id} {i off sz:Nat} {rows:List (List AV)} {cs pS:List AV} (h:g id=some ⟨true,sz,rows⟩) (hi:rows[i]? =some cs) (hr:dn g n (cs.drop off)=some pS):fz g (n+1) (.ptr id i off)=some (.dq pS):=by
 rw[fz];simp only[h,if_true,hi,hr,Option.map_some]
theorem aj (g:Rows) (n:Nat):dn g n []=some []:=by rw[dn]
theorem ae (g:Rows) (n:Nat) (a:AV) (l:List AV):dn g n (a::l)=match fz g n a with
  |some b=>(dn g n l).map (b::·)
  |none=>none:=by rw[dn];cases fz g n a<;>rfl
theorem xd {t:Nat} {r r0:AV} {x:Ex} (hx:x=.ret∨x=.normal) (he:env t=r0) (hz:gG σ.get 6 r0=some r):kI [.tmp t] (fun r0 σ'=>∃r',gG σ'.get 6 r0=some r'/\r'=r) x env σ:=by
 have:∃vs,fx env σ.get [.tmp t]=some vs/\∃r',gG σ.get 6 (eY vs)=some r'/\r'=r:=⟨[env t],rfl,r,by subst he;exact hz,rfl⟩
 rcases hx with rfl|rfl
 ·exact this
 ·exact this
theorem bc {t:Nat} {b c:Bool} {x:Ex} (hx:x=.ret∨x=.normal) (he:env t=.bool b) (hb:b=c):kI [.tmp t] (fun r0 σ'=>∃r',gG σ'.get 6 r0=some r'/\r'=.bool c) x env σ:=xd hx he (by rw[fR,hb])
theorem cN {t:Nat} {k:IntKind} {b c:Int} {x:Ex} (hx:x=.ret∨x=.normal) (he:env t=.int k b) (hb:b=c):kI [.tmp t] (fun r0 σ'=>∃r',gG σ'.get 6 r0=some r'/\r'=.int k c) x env σ:=xd hx he (by rw[eu,hb])
theorem jD {t u:Nat} {r r1 r2:AV} {x:Ex} (hx:x=.ret∨x=.normal) (h1:env t=r1) (h2:env u=r2) (hz:gG σ.get 6 (.gE [r1,r2])=some r):kI [.tmp t,.tmp u] (fun r0 σ'=>∃r',gG σ'.get 6 r0=some r'/\r'=r) x env σ:=by
 have:∃vs,fx env σ.get [.tmp t,.tmp u]=some vs/\∃r',gG σ.get 6 (eY vs)=some r'/\r'=r:=⟨[env t,env u],rfl,r,by subst h1;subst h2;exact hz,rfl⟩
 rcases hx with rfl|rfl
 ·exact this
 ·exact this
structure Pn (p:Prop):Prop where
 out:p
theorem tw {A B:Prop} (a:A) (b:B):A/\B:=⟨a,b⟩
theorem wk {A R G:Prop} (a:A) (r:R) (h:A->R->G:=by
  intro fL kk
  (repeat(refine Pn.mk ?_;intro N hN))
  (first|((first|apply Ge|apply Gc);intro N hN)|((first|(apply PS;intro N hN)|(apply Gb;intro N hN));simp only[go_sem, ↓reduceIte,Nat.reduceEqDiff,Nat.reduceAdd,Nat.reduceSub,Nat.reduceMul,Nat.reduceLeDiff,Nat.reduceBEq,reduceCtorEq,Nat.reduceLT,Int.reduceLE,Int.reduceLT,Int.reduceToNat,Int.reduceNeg,Int.reduceAdd,Int.reduceEq,fL];first|(refine hN _ _ ?_;clear hN N)|skip)|(apply vk;(simp only[go_sem, ↓reduceIte,Nat.reduceEqDiff,Nat.reduceAdd,Nat.reduceSub,Nat.reduceMul,Nat.reduceLeDiff,Nat.reduceBEq,reduceCtorEq,Nat.reduceLT,Int.reduceLE,Int.reduceLT,Int.reduceToNat,Int.reduceNeg,Int.reduceAdd,Int.reduceEq,fL];rfl);first|with_reducible apply oe.t|with_reducible apply oe.f)|(apply CQ;refine hN _ _ ?_;clear hN N;try(simp only[du,bj, ↓reduceIte,Nat.reduceEqDiff]);try(refine hN _ _ ?_;clear hN N))|apply vh|(refine AG ?_ ?_ ?_;(focus(simp only[go_sem, ↓reduceIte,Nat.reduceEqDiff,Nat.reduceAdd,Nat.reduceSub,Nat.reduceMul,Nat.reduceLeDiff,Nat.reduceBEq,reduceCtorEq,Nat.reduceLT,Int.reduceLE,Int.reduceLT,Int.reduceToNat,Int.reduceNeg,Int.reduceAdd,Int.reduceEq,fL];done));(focus(simp only[go_sem, ↓reduceIte,Nat.reduceEqDiff,Nat.reduceAdd,Nat.reduceSub,Nat.reduceMul,Nat.reduceLeDiff,Nat.reduceBEq,reduceCtorEq,Nat.reduceLT,Int.reduceLE,Int.reduceLT,Int.reduceToNat,Int.reduceNeg,Int.reduceAdd,Int.reduceEq,fL];done)))|((first|apply AH|apply AF|apply Gd);try(simp only[du,bj, ↓reduceIte,Nat.reduceEqDiff]);try(refine hN _ _ ?_;clear hN N))|((first|refine hN _ _ ?_|(clear hN N;first|refine hN _ _ ?_|(clear hN N;first|refine hN _ _ ?_|(clear hN N;first|refine hN _ _ ?_|(clear hN N;refine hN _ _ ?_)))));clear hN N))
  (repeat(first|((first|apply Ge|apply Gc);intro N hN)|((first|(apply PS;intro N hN)|(apply Gb;intro N hN));simp only[go_sem, ↓reduceIte,Nat.reduceEqDiff,Nat.reduceAdd,Nat.reduceSub,Nat.reduceMul,Nat.reduceLeDiff,Nat.reduceBEq,reduceCtorEq,Nat.reduceLT,Int.reduceLE,Int.reduceLT,Int.reduceToNat,Int.reduceNeg,Int.reduceAdd,Int.reduceEq,fL];first|(refine hN _ _ ?_;clear hN N)|skip)|(apply vk;(simp only[go_sem, ↓reduceIte,Nat.reduceEqDiff,Nat.reduceAdd,Nat.reduceSub,Nat.reduceMul,Nat.reduceLeDiff,Nat.reduceBEq,reduceCtorEq,Nat.reduceLT,Int.reduceLE,Int.reduceLT,Int.reduceToNat,Int.reduceNeg,Int.reduceAdd,Int.reduceEq,fL];rfl);first|with_reducible apply oe.t|with_reducible apply oe.f)|(apply CQ;refine hN _ _ ?_;clear hN N;try(simp only[du,bj, ↓reduceIte,Nat.reduceEqDiff]);try(refine hN _ _ ?_;clear hN N))|apply vh|(refine AG ?_ ?_ ?_;(focus(simp only[go_sem, ↓reduceIte,Nat.reduceEqDiff,Nat.reduceAdd,Nat.reduceSub,Nat.reduceMul,Nat.reduceLeDiff,Nat.reduceBEq,reduceCtorEq,Nat.reduceLT,Int.reduceLE,Int.reduceLT,Int.reduceToNat,Int.reduceNeg,Int.reduceAdd,Int.reduceEq,fL];done));(focus(simp only[go_sem, ↓reduceIte,Nat.reduceEqDiff,Nat.reduceAdd,Nat.reduceSub,Nat.reduceMul,Nat.reduceLeDiff,Nat.reduceBEq,reduceCtorEq,Nat.reduceLT,Int.reduceLE,Int.reduceLT,Int.reduceToNat,Int.reduceNeg,Int.reduceAdd,Int.reduceEq,fL];done)))|((first|apply AH|apply AF|apply Gd);try(simp only[du,bj, ↓reduceIte,Nat.reduceEqDiff]);try(refine hN _ _ ?_;clear hN N))|((first|refine hN _ _ ?_|(clear hN N;first|refine hN _ _ ?_|(clear hN N;first|refine hN _ _ ?_|(clear hN N;first|refine hN _ _ ?_|(clear hN N;refine hN _ _ ?_)))));clear hN N)))
  (repeat(revert hN;revert N;apply Pn.out))
  exact kk):G:=h a r
theorem wa {A R G:Prop} (a:A) (r:R) (h:A->R->G:=by
  intro fL kk
  (repeat(refine Pn.mk ?_;intro N hN))
  (first|((first|apply Ge|apply Gc);intro N hN)|((first|(refine NJ rfl fun N hN=>?_)|(apply Gb;intro N hN));simp only[go_sem, ↓reduceIte,Nat.reduceEqDiff,Nat.reduceAdd,Nat.reduceSub,Nat.reduceMul,Nat.reduceLeDiff,Nat.reduceBEq,reduceCtorEq,Nat.reduceLT,Int.reduceLE,Int.reduceLT,Int.reduceToNat,Int.reduceNeg,Int.reduceAdd,Int.reduceEq,fL];first|(refine hN _ _ ?_;clear hN N)|skip)|(apply vk;(simp only[go_sem, ↓reduceIte,Nat.reduceEqDiff,Nat.reduceAdd,Nat.reduceSub,Nat.reduceMul,Nat.reduceLeDiff,Nat.reduceBEq,reduceCtorEq,Nat.reduceLT,Int.reduceLE,Int.reduceLT,Int.reduceToNat,Int.reduceNeg,Int.reduceAdd,Int.reduceEq,fL];rfl);first|with_reducible apply oe.t|with_reducible apply oe.f)|(apply CQ;refine hN _ _ ?_;clear hN N;try(simp only[du,bj, ↓reduceIte,Nat.reduceEqDiff]);try(refine hN _ _ ?_;clear hN N))|apply vh|(refine AG ?_ ?_ ?_;(focus(simp only[go_sem, ↓reduceIte,Nat.reduceEqDiff,Nat.reduceAdd,Nat.reduceSub,Nat.reduceMul,Nat.reduceLeDiff,Nat.reduceBEq,reduceCtorEq,Nat.reduceLT,Int.reduceLE,Int.reduceLT,Int.reduceToNat,Int.reduceNeg,Int.reduceAdd,Int.reduceEq,fL];done));(focus(simp only[go_sem, ↓reduceIte,Nat.reduceEqDiff,Nat.reduceAdd,Nat.reduceSub,Nat.reduceMul,Nat.reduceLeDiff,Nat.reduceBEq,reduceCtorEq,Nat.reduceLT,Int.reduceLE,Int.reduceLT,Int.reduceToNat,Int.reduceNeg,Int.reduceAdd,Int.reduceEq,fL];done)))|((first|apply AH|apply AF|apply Gd);try(simp only[du,bj, ↓reduceIte,Nat.reduceEqDiff]);try(refine hN _ _ ?_;clear hN N))|((first|refine hN _ _ ?_|(clear hN N;first|refine hN _ _ ?_|(clear hN N;first|refine hN _ _ ?_|(clear hN N;first|refine hN _ _ ?_|(clear hN N;refine hN _ _ ?_)))));clear hN N))
  (repeat(first|((first|apply Ge|apply Gc);intro N hN)|((first|(refine NJ rfl fun N hN=>?_)|(apply Gb;intro N hN));simp only[go_sem, ↓reduceIte,Nat.reduceEqDiff,Nat.reduceAdd,Nat.reduceSub,Nat.reduceMul,Nat.reduceLeDiff,Nat.reduceBEq,reduceCtorEq,Nat.reduceLT,Int.reduceLE,Int.reduceLT,Int.reduceToNat,Int.reduceNeg,Int.reduceAdd,Int.reduceEq,fL];first|(refine hN _ _ ?_;clear hN N)|skip)|(apply vk;(simp only[go_sem, ↓reduceIte,Nat.reduceEqDiff,Nat.reduceAdd,Nat.reduceSub,Nat.reduceMul,Nat.reduceLeDiff,Nat.reduceBEq,reduceCtorEq,Nat.reduceLT,Int.reduceLE,Int.reduceLT,Int.reduceToNat,Int.reduceNeg,Int.reduceAdd,Int.reduceEq,fL];rfl);first|with_reducible apply oe.t|with_reducible apply oe.f)|(apply CQ;refine hN _ _ ?_;clear hN N;try(simp only[du,bj, ↓reduceIte,Nat.reduceEqDiff]);try(refine hN _ _ ?_;clear hN N))|apply vh|(refine AG ?_ ?_ ?_;(focus(simp only[go_sem, ↓reduceIte,Nat.reduceEqDiff,Nat.reduceAdd,Nat.reduceSub,Nat.reduceMul,Nat.reduceLeDiff,Nat.reduceBEq,reduceCtorEq,Nat.reduceLT,Int.reduceLE,Int.reduceLT,Int.reduceToNat,Int.reduceNeg,Int.reduceAdd,Int.reduceEq,fL];done));(focus(simp only[go_sem, ↓reduceIte,Nat.reduceEqDiff,Nat.reduceAdd,Nat.reduceSub,Nat.reduceMul,Nat.reduceLeDiff,Nat.reduceBEq,reduceCtorEq,Nat.reduceLT,Int.reduceLE,Int.reduceLT,Int.reduceToNat,Int.reduceNeg,Int.reduceAdd,Int.reduceEq,fL];done)))|((first|apply AH|apply AF|apply Gd);try(simp only[du,bj, ↓reduceIte,Nat.reduceEqDiff]);try(refine hN _ _ ?_;clear hN N))|((first|refine hN _ _ ?_|(clear hN N;first|refine hN _ _ ?_|(clear hN N;first|refine hN _ _ ?_|(clear hN N;first|refine hN _ _ ?_|(clear hN N;refine hN _ _ ?_)))));clear hN N)))
  (repeat(revert hN;revert N;apply Pn.out))
  exact kk):G:=h a r
theorem sd {A G:Prop} (a:A) (h:A->G:=by
  intro fL
  first|(simp only[go_sem, ↓reduceIte,Nat.reduceEqDiff,Nat.reduceAdd,Nat.reduceSub,Nat.reduceMul,Nat.reduceLeDiff,Nat.reduceBEq,reduceCtorEq,Nat.reduceLT,Int.reduceLE,Int.reduceLT,Int.reduceToNat,Int.reduceNeg,Int.reduceAdd,Int.reduceEq,fL,fx,iw];done)|fail):G:=h a
theorem sl {A G:Prop} (a:A) (h:A->G:=by
  intro fL
  (try simp only[go_sem, ↓reduceIte,Nat.reduceEqDiff,Nat.reduceAdd,Nat.reduceSub,Nat.reduceMul,Nat.reduceLeDiff,Nat.reduceBEq,reduceCtorEq,Nat.reduceLT,Int.reduceLE,Int.reduceLT,Int.reduceToNat,Int.reduceNeg,Int.reduceAdd,Int.reduceEq,fL])
  try rfl):G:=h a
end Go.Proofs.YtgoelphibofcmaaGreat.V

namespace Go.Proofs.YtgoelphibofcmaaGreat.V
open Go.RowKit
variable {P:Program} {X:fP} {env:Env} {σ:ar}
theorem bJ (g:Rows) (n:Nat) (l:List AV):fz g (n+1) (.gE l)=(dn g n l).map AV.gE:=by rw[fz]
theorem cQ (g:Rows) (n:Nat) (f:Nat) (l:List AV):fz g (n+1) (.fn f l)=if l.all AV.cell then(dn g n l).map (AV.fn f)else none:=by rw[fz]
theorem bp (g:Rows) (n:Nat) (id:Id) (i off:Nat):fz g (n+1) (.ptr id i off)=match g id with
  |some r=>if r.w then(match r.rows[i]? with
   |some cs=>(dn g n (cs.drop off)).map AV.dq
   |none=>none)else none
  |none=>none:=by rw[fz];rfl
theorem iG (g:Rows) (n:Nat) (id:Id) (off len:Nat):fz g (n+1) (.own id off len)=match g id with
  |some r=>if r.w then(if off+len<=r.rows.length then(eC g n ((r.rows.drop off).take len)).map AV.sl else none)else none
  |none=>none:=by rw[fz];rfl
theorem oK (g:Rows) (n:Nat):eC g n []=some []:=by rw[eC]
theorem zG (g:Rows) (n:Nat) (c:List AV) (l:List (List AV)):eC g n (c::l)=match dn g n c with
  |some b=>(eC g n l).map (b::·)
  |none=>none:=by rw[eC];cases dn g n c<;>rfl
theorem wj {g:Rows} {n:Nat}:∀{l:List (List AV)},(∀c∈l,dn g n c=some c)->eC g n l=some l
 |[],_=>by rw[eC]
 |c::r,h=>by rw[eC,h c (by simp),wj fun d hd=>h d (List.mem_cons_of_mem _ hd)];rfl
theorem qz {α:Type} {g:Rows} {n:Nat} {e:α->List AV} {l:List α} (h:∀x,dn g n (e x)=some (e x)):eC g n (l.map e)=some (l.map e):=wj fun c hc=>by
 obtain⟨x,_,rfl⟩:=List.mem_map.1 hc
 exact h x
theorem tW {α:Type} {g:Rows} {n:Nat} {e:α->List AV} {l:List α} (h:∀x,eD g n (e x)=some (e x)):iu g n (l.map e)=some (l.map e):=tU fun c hc=>by
 obtain⟨x,_,rfl⟩:=List.mem_map.1 hc
 exact h x
theorem gY {α:Type} {g:Rows} {n:Nat} {e:α->List AV} {l:List α} {id:Id} {sz len:Nat} (hg:g id=some ⟨true,sz,l.map e⟩) (hl:len=l.length) (h:∀x,dn g n (e x)=some (e x)):fz g (n+1) (.own id 0 len)=some (.sl (l.map e)):=by
 subst hl
 rw[iG];simp only[hg,if_true]
 rw[if_pos (by simp),List.drop_zero,List.take_of_length_le (by simp),qz h];rfl
theorem fw {α:Type} {g:Rows} {n:Nat} {e:α->List AV} {l:List α} {id:Id} {sz len:Nat} (hg:g id=some ⟨true,sz,l.map e⟩) (hl:len=l.length) (h:∀x,eD g n (e x)=some (e x)):gG g (n+1) (.own id 0 len)=some (.sl (l.map e)):=by
 subst hl
 exact uR hg (by simp) (by rw[List.drop_zero,List.take_of_length_le (by simp),tW h])
theorem all_map {α:Type} {e:α->List AV} {sz:Nat} {l:List α} (h:∀x,(e x).length=sz/\(e x).all AV.cell=true):(l.map e).all (fun c=>c.length==sz&&c.all AV.cell)=true:=by
 rw[List.all_eq_true]
 intro c hc
 obtain⟨x,_,rfl⟩:=List.mem_map.1 hc
 simp[(h x).1,(h x).2]
def QQ (P:Program) (f:Nat) (args:List AV) (sz:Nat) (rows:List (List AV)):Prop:=(∀c∈rows,∀a∈c,a.plain=true)/\∀n:Nat,Call P f args ⟨fun _=>none,n⟩ fun r σ'=>∃id,r=.own id 0 rows.length/\σ'.get id=some ⟨true,sz,rows⟩
theorem QQ.x {f sz:Nat} {args args':List AV} {rows:List (List AV)} (h:QQ P f args' sz rows) {σ:ar} (hv:dn (dR σ.get) 6 args=some args'):CM (Call P) f args σ sz rows:=⟨h.1,args',hv,h.2 _⟩
theorem tt {res:List nO} {r:AV} {vs:List AV} {x:Ex} (hx:x=.ret∨x=.normal) (hv:fx env σ.get res=some vs) (hz:fz σ.get 6 (eY vs)=some r):kI res (fun r0 σ'=>∃r',fz σ'.get 6 r0=some r'/\r'=r) x env σ:=by
 rcases hx with rfl|rfl
 ·exact⟨vs,hv,r,hz,rfl⟩
 ·exact⟨vs,hv,r,hz,rfl⟩
theorem mB {res:List nO} {r:AV} {vs:List AV} {x:Ex} (hx:x=.ret∨x=.normal) (hv:fx env σ.get res=some vs) (hz:gG σ.get 6 (eY vs)=some r):kI res (fun r0 σ'=>∃r',gG σ'.get 6 r0=some r'/\r'=r) x env σ:=by
 rcases hx with rfl|rfl
 ·exact⟨vs,hv,r,hz,rfl⟩
 ·exact⟨vs,hv,r,hz,rfl⟩
theorem eX {res:List nO} {K:AV->ar->Prop} {vs:List AV} {x:Ex} (hx:x=.ret∨x=.normal) (hv:fx env σ.get res=some vs) (hK:K (eY vs) σ):kI res K x env σ:=by
 rcases hx with rfl|rfl
 ·exact⟨vs,hv,hK⟩
 ·exact⟨vs,hv,hK⟩
theorem eQ {f:Nat} {args:List AV} {σ:ar} {K:AV->ar->Prop} {nt na:Nat} {body:VC} {res:List nO} (hf:lR P f=some ⟨nt,na,body,res⟩) (ha:na=args.length) (h:(∀a∈args,eL a)->dO (Call P) body (kI res K) (cF args) σ):Call P f args σ K:=l8 hf ha h
theorem Ig {f:Nat} {md:List (Nat×Nat)} {args:List AV} {σ:ar} {K:AV->ar->Prop} {nt na:Nat} {body:VC} {res:List nO} (hf:xL P f md=some ⟨nt,na,body,res⟩) (ha:na=args.length) (h:(∀a∈args,eL a)->dO (Call P) body (kI res K) (cF args) σ):Call P f args σ K:=vp hf ha h
theorem dr {i:Id} {n:Nat} (h:i.bQ<n):(∀s,(i=⟨s,n⟩)=False/\(i=⟨s,n+1⟩)=False/\(i=⟨s,n+1+1⟩)=False/\(i=⟨s,n+1+1+1⟩)=False/\(i=⟨s,n+1+1+1+1⟩)=False/\(i=⟨s,n+1+1+1+1+1⟩)=False/\(i=⟨s,n+1+1+1+1+1+1⟩)=False/\(i=⟨s,n+1+1+1+1+1+1+1⟩)=False/\(i=⟨s,n+1+1+1+1+1+1+1+1⟩)=False/\(i=⟨s,n+1+1+1+1+1+1+1+1+1⟩)=False/\(⟨s,n⟩=i)=False/\(⟨s,n+1⟩=i)=False/\(⟨s,n+1+1⟩=i)=False/\(⟨s,n+1+1+1⟩=i)=False/\(⟨s,n+1+1+1+1⟩=i)=False/\(⟨s,n+1+1+1+1+1⟩=i)=False/\(⟨s,n+1+1+1+1+1+1⟩=i)=False/\(⟨s,n+1+1+1+1+1+1+1⟩=i)=False/\(⟨s,n+1+1+1+1+1+1+1+1⟩=i)=False/\(⟨s,n+1+1+1+1+1+1+1+1+1⟩=i)=False)/\(i.bQ=n)=False/\(i.bQ=n+1)=False/\(i.bQ=n+1+1)=False/\(i.bQ=n+1+1+1)=False/\(i.bQ=n+1+1+1+1)=False/\(i.bQ=n+1+1+1+1+1)=False/\(i.bQ=n+1+1+1+1+1+1)=False/\(i.bQ=n+1+1+1+1+1+1+1)=False/\(i.bQ=n+1+1+1+1+1+1+1+1)=False/\(i.bQ=n+1+1+1+1+1+1+1+1+1)=False:=by
 refine⟨fun s=>?_,?_⟩
 ·obtain⟨a,b⟩:=i
  simp only[Id.mk.injEq,eq_iff_iff,iff_false,not_and]
  simp only at h
  refine⟨?_,?_,?_,?_,?_,?_,?_,?_,?_,?_,?_,?_,?_,?_,?_,?_,?_,?_,?_,?_⟩<;>(intros;omega)
 ·simp only[eq_iff_iff,iff_false]
  refine⟨?_,?_,?_,?_,?_,?_,?_,?_,?_,?_⟩<;>omega
def gK (a b:Nat) (ids:List Id):Prop:=ids.Nodup/\∀i∈ids,a<=i.bQ/\i.bQ<b
def Kept (σ σ':ar):Prop:=σ.next<=σ'.next/\∀j:Id,j.bQ<σ.next->σ'.get j=σ.get j
theorem Kept.trans {a b c:ar} (h:Kept a b) (k:Kept b c):Kept a c:=⟨Nat.le_trans h.1 k.1,fun j hj=>(k.2 j (Nat.lt_of_lt_of_le hj h.1)).trans (h.2 j hj)⟩
theorem gK.wide {a b a' b':Nat} {ids:List Id} (h:gK a b ids) (h1:a'<=a) (h2:b<=b'):gK a' b' ids:=⟨h.1,fun i hi=>⟨Nat.le_trans h1 (h.2 i hi).1,Nat.lt_of_lt_of_le (h.2 i hi).2 h2⟩⟩
theorem gK.app {a b c d:Nat} {i j:List Id} (h:gK a b i) (k:gK c d j) (OC:b<=c) (qF:a<=b) (hcd:c<=d):gK a d (i++j):=
 ⟨List.nodup_append.2 ⟨h.1,k.1,fun x hx y hy e=>by subst e;have:=(h.2 x hx).2;have:=(k.2 x hy).1;omega⟩,fun x hx=>by
  rcases List.mem_append.1 hx with hx|hx
  ·have:=h.2 x hx;omega
  ·have:=k.2 x hx;omega⟩
end Go.Proofs.YtgoelphibofcmaaGreat.V

namespace Go.Proofs.YtgoelphibofcmaaGreat.V
open Go.RowKit
attribute [local irreducible] dO wpOps gy Call
attribute [local go_sem] aT fK eS ga fZ dj upd cF K.av cP AV.cells AV.cell rowOf rowsOf part ld rowAt bL cD dG ef ik bV de ew fW fe dw ek dc db dU dV cj bl cU b4 cW cV ei eo ej cR cm dd eh bW aV cZ cI ij bx cK ck bd du bj dI AV.undef bH bS dW eb dQ dP cJ ev eE cH er ep cY da List.getD_cons_zero List.getD_cons_succ List.getD_nil List.all_cons List.all_nil Bool.and_true Bool.true_and Bool.and_self Bool.not_true Bool.not_false Option.map_some Option.map_none Option.bind_some Option.bind_none List.length_cons List.length_nil List.take_succ_cons List.take_zero List.take_nil List.drop_succ_cons List.drop_zero List.drop_nil List.head?_cons List.map_cons List.map_nil List.getElem?_cons_zero List.getElem?_cons_succ List.cons_append List.nil_append List.append_nil List.length_map List.set_cons_zero List.set_cons_succ Nat.reduceMul eq_self Int.toNat_natCast Int.natCast_nonneg and_self true_and and_true decide_true decide_false Bool.false_eq_true Nat.zero_add Nat.add_zero List.contains_cons List.contains_nil Bool.or_false Bool.false_or beq_self_eq_true Nat.reduceBEq ne_eq not_true_eq_false not_false_eq_true Id.mk.injEq false_and and_false Nat.reduceLT Int.reduceLE Int.reduceLT Int.reduceToNat Int.reduceNeg Int.reduceAdd Nat.le_refl List.length_append beq_true beq_false Bool.not_eq_eq_eq_not or_false false_or dR ae aj aI bq bG cC aY bh aW bp cQ bJ
variable {P:Program}
def Kx (f g z:Nat):AK:=let s:=f*1000000
 ⟨27,2,(.seq (.eO false [q 4 (.dv (.k (.int .i64 0))) s]) (.seq (.eO false [q 6 (.dv (.t 1)) (s+1000),q 7 (.dv (.t 0)) (s+1001),q 8 (.len (.t 7)) (s+1002),q 9 (.bin .sub .i64 (.t 6) (.t 8)) (s+1003),q 1 (.dv (.t 9)) (s+1004)]) (.seq (.seq (.eO false [q 10 (.dv (.t 1)) (s+2000),q 11 (.bin .lss .i64 (.t 10) (.k (.int .i64 0))) (s+2001)]) (.cond (.t 11) (.seq (.eO false [q 4 (.dv (.k (.int .i64 (-1)))) (s+3000)]) .ret) .skip)) (.seq (.seq (.eO false [q 5 (.dv (.k (.int .i64 0))) (s+4000)]) (.block 0 (.loop (.seq (.seq (.eO false [q 12 (.dv (.t 5)) (s+5000),q 13 (.dv (.t 0)) (s+5001),q 14 (.len (.t 13)) (s+5002),q 15 (.bin .lss .i64 (.t 12) (.t 14)) (s+5003)]) (.cond (.t 15) .skip (.exit 0))) (.seq (.block 1 (.seq (.eO false [q 18 (.dv (.t 0)) (s+7000),q 19 (.dv (.t 5)) (s+7001),q 20 (.dS z (.t 18) (.t 19)) (s+7002),q 21 (.load true z (.t 20)) (s+7003),q 22 (.dv (.t 1)) (s+7004),q 23 (.call g [(.t 21),(.t 22)]) (s+7005),q 1 (.dv (.t 23)) (s+7006)]) (.seq (.eO false [q 24 (.dv (.t 1)) (s+8000),q 25 (.bin .lss .i64 (.t 24) (.k (.int .i64 0))) (s+8001)]) (.cond (.t 25) (.seq (.eO false [q 4 (.dv (.k (.int .i64 (-1)))) (s+9000)]) .ret) .skip)))) (.eO false [q 16 (.dv (.t 5)) (s+6000),q 17 (.bin .add .i64 (.t 16) (.k (.int .i64 1))) (s+6001),q 5 (.dv (.t 17)) (s+6002)])))))) (.seq (.eO false [q 26 (.dv (.t 1)) (s+10000),q 4 (.dv (.t 26)) (s+10001)]) .ret))))),[(.tmp 4)]⟩
def F7 (f:Nat):AK:=let s:=f*1000000
 ⟨12,2,(.seq (.eO false [q 4 (.dv (.k (.int .i64 0))) s]) (.seq (.eO false [q 5 (.dv (.t 1)) (s+1000),q 6 (.dv (.t 0)) (s+1001),q 7 (.len (.t 6)) (s+1002),q 8 (.bin .sub .i64 (.t 5) (.t 7)) (s+1003),q 1 (.dv (.t 8)) (s+1004)]) (.seq (.seq (.eO false [q 9 (.dv (.t 1)) (s+2000),q 10 (.bin .lss .i64 (.t 9) (.k (.int .i64 0))) (s+2001)]) (.cond (.t 10) (.seq (.eO false [q 4 (.dv (.k (.int .i64 (-1)))) (s+3000)]) .ret) .skip)) (.seq (.eO false [q 11 (.dv (.t 1)) (s+4000),q 4 (.dv (.t 11)) (s+4001)]) .ret)))),[(.tmp 4)]⟩
def Bp (f g z:Nat):AK:=let s:=f*1000000
 ⟨27,2,(.seq (.eO false [q 4 (.dv (.k (.bool false))) s]) (.seq (.seq (.eO false [q 6 (.dv (.t 0)) (s+1000),q 7 (.len (.t 6)) (s+1001),q 8 (.dv (.t 1)) (s+1002),q 9 (.len (.t 8)) (s+1003),q 10 (.N9 true .tI (.t 7) (.t 9)) (s+1004)]) (.cond (.t 10) (.seq (.eO false [q 4 (.dv (.k (.bool false))) (s+2000)]) .ret) .skip)) (.seq (.seq (.eO false [q 5 (.dv (.k (.int .i64 0))) (s+3000)]) (.block 0 (.loop (.seq (.seq (.eO false [q 11 (.dv (.t 5)) (s+4000),q 12 (.dv (.t 0)) (s+4001),q 13 (.len (.t 12)) (s+4002),q 14 (.bin .lss .i64 (.t 11) (.t 13)) (s+4003)]) (.cond (.t 14) .skip (.exit 0))) (.seq (.block 1 (.seq (.eO true [q 17 (.dv (.t 0)) (s+6000),q 18 (.dv (.t 5)) (s+6001),q 19 (.dS z (.t 17) (.t 18)) (s+6002),q 20 (.load true z (.t 19)) (s+6003),q 21 (.dv (.t 1)) (s+6004),q 22 (.dv (.t 5)) (s+6005),q 23 (.dS z (.t 21) (.t 22)) (s+6006),q 24 (.load true z (.t 23)) (s+6007),q 25 (.call g [(.t 20),(.t 24)]) (s+6008),q 26 (.not (.t 25)) (s+6009)]) (.cond (.t 26) (.seq (.eO false [q 4 (.dv (.k (.bool false))) (s+7000)]) .ret) .skip))) (.eO false [q 15 (.dv (.t 5)) (s+5000),q 16 (.bin .add .i64 (.t 15) (.k (.int .i64 1))) (s+5001),q 5 (.dv (.t 16)) (s+5002)])))))) (.seq (.eO false [q 4 (.dv (.k (.bool true))) (s+8000)]) .ret)))),[(.tmp 4)]⟩
def M7 (f:Nat) (t:TS):AK:=let s:=f*1000000
 ⟨26,2,(.seq (.eO false [q 4 (.dv (.k (.bool false))) s]) (.seq (.seq (.eO false [q 6 (.dv (.t 0)) (s+1000),q 7 (.len (.t 6)) (s+1001),q 8 (.dv (.t 1)) (s+1002),q 9 (.len (.t 8)) (s+1003),q 10 (.N9 true .tI (.t 7) (.t 9)) (s+1004)]) (.cond (.t 10) (.seq (.eO false [q 4 (.dv (.k (.bool false))) (s+2000)]) .ret) .skip)) (.seq (.seq (.eO false [q 5 (.dv (.k (.int .i64 0))) (s+3000)]) (.block 0 (.loop (.seq (.seq (.eO false [q 11 (.dv (.t 5)) (s+4000),q 12 (.dv (.t 0)) (s+4001),q 13 (.len (.t 12)) (s+4002),q 14 (.bin .lss .i64 (.t 11) (.t 13)) (s+4003)]) (.cond (.t 14) .skip (.exit 0))) (.seq (.block 1 (.seq (.eO true [q 17 (.dv (.t 0)) (s+6000),q 18 (.dv (.t 5)) (s+6001),q 19 (.dS 1 (.t 17) (.t 18)) (s+6002),q 20 (.load false 1 (.t 19)) (s+6003),q 21 (.dv (.t 1)) (s+6004),q 22 (.dv (.t 5)) (s+6005),q 23 (.dS 1 (.t 21) (.t 22)) (s+6006),q 24 (.load false 1 (.t 23)) (s+6007),q 25 (.N9 true t (.t 20) (.t 24)) (s+6008)]) (.cond (.t 25) (.seq (.eO false [q 4 (.dv (.k (.bool false))) (s+7000)]) .ret) .skip))) (.eO false [q 15 (.dv (.t 5)) (s+5000),q 16 (.bin .add .i64 (.t 15) (.k (.int .i64 1))) (s+5001),q 5 (.dv (.t 16)) (s+5002)])))))) (.seq (.eO false [q 4 (.dv (.k (.bool true))) (s+8000)]) .ret)))),[(.tmp 4)]⟩
def qj (f g z:Nat) (zero:List K):AK:=let s:=f*1000000
 ⟨23,1,(.seq (.eO false [q 2 (.dv (.k .bE)) s]) (.seq (.eO false [q 5 (.dv (.t 0)) (s+1000),q 6 (.len (.t 5)) (s+1001),q 7 (.j6 zero (.t 6) (.t 6)) (s+1002),q 3 (.dv (.t 7)) (s+1003)]) (.seq (.seq (.eO false [q 4 (.dv (.k (.int .i64 0))) (s+2000)]) (.block 0 (.loop (.seq (.seq (.eO false [q 8 (.dv (.t 4)) (s+3000),q 9 (.dv (.t 0)) (s+3001),q 10 (.len (.t 9)) (s+3002),q 11 (.bin .lss .i64 (.t 8) (.t 10)) (s+3003)]) (.cond (.t 11) .skip (.exit 0))) (.seq (.block 1 (.eO false [q 14 (.dv (.t 3)) (s+5000),q 15 (.dv (.t 4)) (s+5001),q 16 (.dv (.t 0)) (s+5002),q 17 (.dv (.t 4)) (s+5003),q 18 (.dS z (.t 16) (.t 17)) (s+5004),q 19 (.load true z (.t 18)) (s+5005),q 20 (.call g [(.t 19)]) (s+5006),q 21 (.dS z (.t 14) (.t 15)) (s+5007),⟨none,(.store z (.t 21) (.t 20)),none,(s+5008),[]⟩])) (.eO false [q 12 (.dv (.t 4)) (s+4000),q 13 (.bin .add .i64 (.t 12) (.k (.int .i64 1))) (s+4001),q 4 (.dv (.t 13)) (s+4002)])))))) (.seq (.eO false [q 22 (.dv (.t 3)) (s+6000),q 2 (.dv (.t 22)) (s+6001)]) .ret)))),[(.tmp 2)]⟩
def KK (f:Nat) (zero:K):AK:=let s:=f*1000000
 ⟨22,1,(.seq (.eO false [q 2 (.dv (.k .bE)) s]) (.seq (.eO false [q 5 (.dv (.t 0)) (s+1000),q 6 (.len (.t 5)) (s+1001),q 7 (.j6 [zero] (.t 6) (.t 6)) (s+1002),q 3 (.dv (.t 7)) (s+1003)]) (.seq (.seq (.eO false [q 4 (.dv (.k (.int .i64 0))) (s+2000)]) (.block 0 (.loop (.seq (.seq (.eO false [q 8 (.dv (.t 4)) (s+3000),q 9 (.dv (.t 0)) (s+3001),q 10 (.len (.t 9)) (s+3002),q 11 (.bin .lss .i64 (.t 8) (.t 10)) (s+3003)]) (.cond (.t 11) .skip (.exit 0))) (.seq (.block 1 (.eO false [q 14 (.dv (.t 3)) (s+5000),q 15 (.dv (.t 4)) (s+5001),q 16 (.dv (.t 0)) (s+5002),q 17 (.dv (.t 4)) (s+5003),q 18 (.dS 1 (.t 16) (.t 17)) (s+5004),q 19 (.load false 1 (.t 18)) (s+5005),q 20 (.dS 1 (.t 14) (.t 15)) (s+5006),⟨none,(.store 1 (.t 20) (.t 19)),none,(s+5007),[]⟩])) (.eO false [q 12 (.dv (.t 4)) (s+4000),q 13 (.bin .add .i64 (.t 12) (.k (.int .i64 1))) (s+4001),q 4 (.dv (.t 13)) (s+4002)])))))) (.seq (.eO false [q 21 (.dv (.t 3)) (s+6000),q 2 (.dv (.t 21)) (s+6001)]) .ret)))),[(.tmp 2)]⟩
def xE (n:Nat) (l:Int):Int:=if (n:Int)<=l then l-n else -1
theorem EY {fk:Nat} (hc:lR P fk=some (F7 fk)) (rows:List (List AV)) (left:Int) (h0:0<=left) (h1:left<=1048576):aq P fk [.sl rows,.int .i64 left] (.int .i64 (xE rows.length left)):=by
 refine aq.body hc rfl fun hl n0=>?_
 try simp only[q]
 have hn:rows.length<=9223372036854775807:=(hl (.sl rows) (by simp)).len
 clear hl
 have hw:IntKind.i64.wrap (left-(rows.length:Int))=left-rows.length:=bI (by omega)
 by_cases hf:(rows.length:Int)<=left
 ·have kG:¬left-(rows.length:Int)<0:=by omega
  (try((repeat(revert hN;revert N;apply Pn.out));refine wk (tw @hw @kG) ?_;(repeat(refine Pn.mk ?_;intro N hN))))
  exact cN (b:=left-(rows.length:Int)) (.inl rfl) (sd @Nat.zero_add) (by rw[xE,if_pos hf])
 ·have kG:left-(rows.length:Int)<0:=by omega
  (try((repeat(revert hN;revert N;apply Pn.out));refine wk (tw @hw @kG) ?_;(repeat(refine Pn.mk ?_;intro N hN))))
  exact cN (b:=-1) (.inl rfl) (sd @Nat.zero_add) (by rw[xE,if_neg hf])
def iO {α:Type} (f:α->Nat) (xs:List α) (k:Nat):Nat:=((xs.take k).map f).sum
theorem mE {α:Type} (f:α->Nat) (xs:List α):iO f xs 0=0:=by simp[iO]
theorem CE {α:Type} (f:α->Nat) (xs:List α):iO f xs xs.length=(xs.map f).sum:=by simp[iO]
theorem xl {α:Type} (f:α->Nat) {xs:List α} {k:Nat} (hk:k<xs.length):iO f xs (k+1)=iO f xs k+f xs[k]:=by
 unfold iO
 rw[List.take_succ_eq_append_getElem hk,List.map_append,List.sum_append];simp
theorem qi {α:Type} (f:α->Nat) (xs:List α) (k:Nat):iO f xs k<=(xs.map f).sum:=by
 unfold iO
 conv=>rhs;rw[<-List.take_append_drop k xs]
 rw[List.map_append,List.sum_append];omega
theorem Ky {α:Type} {e:α->List AV} {z fk gk:Nat} (wt:α->Nat) (hc:lR P fk=some (Kx fk gk z)) (hz:∀x,(e x).length=z) (CX:∀x g,dn g 6 [.agg (e x)]=some [.agg (e x)]) (xs:List α) (left:Int) (h0:0<=left) (h1:left<=1048576)
  (hg:∀x∈xs,∀l:Int,0<=l->l<=1048576->aq P gk [.agg (e x),.int .i64 l] (.int .i64 (xE (wt x) l))):aq P fk [.sl (xs.map e),.int .i64 left] (.int .i64 (xE (xs.length+(xs.map wt).sum) left)):=by
 refine aq.body hc rfl fun hl n0=>?_
 try simp only[q]
 have hn:xs.length<=9223372036854775807:=by simpa using(hl (.sl (xs.map e)) (by simp)).len
 clear hl
 have hw:IntKind.i64.wrap (left-(xs.length:Int))=left-xs.length:=bI (by omega)
 by_cases hf:(xs.length:Int)<=left
 ·have kG:¬left-(xs.length:Int)<0:=by omega
  (try((repeat(revert hN;revert N;apply Pn.out));refine wk (tw @hw @kG) ?_;(repeat(refine Pn.mk ?_;intro N hN))))
  refine aZ (fun n env st=>∃k:Nat,n=(xs.length)-k/\k<=(xs.length)/\env 5=.int .i64 (k:Int)/\env 1=(.int .i64 (left-xs.length-(iO wt xs k:Nat)))/\(0<=left-xs.length-(iO wt xs k:Nat))) (xs.length) ⟨0,by omega,by omega,sl (tw @mE (tw @Int.natCast_zero @Int.sub_zero)),sl (tw @mE (tw @Int.natCast_zero @Int.sub_zero)),(by rw[mE];omega)⟩ ?_
  rintro n_a env_a st_a ⟨k,rfl,ale,a5,a1,j4⟩ dx
  have a0:=dx 0 (by kernel_rfl)
  simp only[go_sem, ↓reduceIte,Nat.reduceEqDiff,Nat.reduceAdd,Nat.reduceSub,Nat.reduceLeDiff,reduceCtorEq,mE,Int.natCast_zero,Int.sub_zero]at a0
  clear dx
  by_cases hk:(k:Int)<(xs.length:Int)
  ·have cz:∀{e:Env},(e 5=.int .i64 (IntKind.i64.wrap ((k:Int)+1)))->(e 1=(.int .i64 (left-xs.length-(iO wt xs (k+1):Nat))))->(0<=left-xs.length-(iO wt xs (k+1):Nat))->∃m0,m0<(xs.length)-k/\∃k:Nat,m0=(xs.length)-k/\k<=(xs.length)/\e 5=.int .i64 (k:Int)/\e 1=(.int .i64 (left-xs.length-(iO wt xs k:Nat)))/\(0<=left-xs.length-(iO wt xs k:Nat)):=fun x1 x2 x3=>⟨_,by omega,k+1,rfl,by omega,(by rw[x1,aA (by omega)]),x2,x3⟩
   have fM:k<xs.length:=by omega
   have e9:(xs.map e)[k]? =some (e xs[k]):=by simp[fM]
   have tZ:=hz xs[k]
   have ht:(e xs[k]).take z=e xs[k]:=by rw[<-tZ,List.take_length]
   have hs:=xl wt fM
   have Ea:=qi wt xs (k+1)
   have iD:=hg _ (List.getElem_mem fM) (left-xs.length-(iO wt xs k:Nat)) j4 (by omega)
   have kO:dn (dR st_a.get) 6 [.agg (e xs[k]),.int .i64 (left-xs.length-(iO wt xs k:Nat))]=some [.agg (e xs[k]),.int .i64 (left-xs.length-(iO wt xs k:Nat))]:=by
    have q1:=CX xs[k] (dR st_a.get)
    rw[ae,aj]at q1
    rw[ae,ae,aj,aI]
    revert q1
    cases V.fz (dR st_a.get) 6 (.agg (e xs[k]))<;>simp
   by_cases qG:(wt xs[k]:Int)<=left-xs.length-(iO wt xs k:Nat)
   ·rw[xE,if_pos qG]at iD
    have CZ:¬left-xs.length-(iO wt xs k:Nat)-(wt xs[k]:Int)<0:=by omega
    have s9:left-xs.length-(iO wt xs k:Nat)-(wt xs[k]:Int)=left-xs.length-(iO wt xs (k+1):Nat):=by rw[hs];omega
    generalize hex:e xs[k]=c at iD kO e9 tZ ht
    (try((repeat(revert hN;revert N;apply Pn.out));refine wk (tw @a5 (tw @a1 (tw @a0 (tw @hk (tw @e9 (tw @tZ (tw @ht @Nat.le_refl))))))) ?_;(repeat(refine Pn.mk ?_;intro N hN))))
    refine .inl ⟨_,aq.x iD kO,?_⟩
    refine hN _ _ ?_
    clear hN N
    (try((repeat(revert hN;revert N;apply Pn.out));refine wk (tw @a5 (tw @a1 (tw @a0 @CZ))) ?_;(repeat(refine Pn.mk ?_;intro N hN))))
    refine cz ?_ ?_ ((by rw[hs];omega))
    all_goals simp only[go_sem, ↓reduceIte,Nat.reduceEqDiff,Nat.reduceAdd,Nat.reduceSub,Nat.reduceLeDiff,reduceCtorEq,a5,a1,a0,s9]
   ·rw[xE,if_neg qG]at iD
    generalize hex:e xs[k]=c at iD kO e9 tZ ht
    (try((repeat(revert hN;revert N;apply Pn.out));refine wk (tw @a5 (tw @a1 (tw @a0 (tw @hk (tw @e9 (tw @tZ (tw @ht @Nat.le_refl))))))) ?_;(repeat(refine Pn.mk ?_;intro N hN))))
    refine .inl ⟨_,aq.x iD kO,?_⟩
    refine hN _ _ ?_
    clear hN N
    (try((repeat(revert hN;revert N;apply Pn.out));refine wk (tw @a5 (tw @a1 @a0)) ?_;(repeat(refine Pn.mk ?_;intro N hN))))
    exact cN (b:=-1) (.inl rfl) (sd @Nat.zero_add) (by rw[xE,if_neg (by omega)])
  ·(try((repeat(revert hN;revert N;apply Pn.out));refine wk (tw @a5 (tw @a1 (tw @a0 @hk))) ?_;(repeat(refine Pn.mk ?_;intro N hN))))
   have fM:k=xs.length:=by omega
   subst fM
   have S6:=CE wt xs
   exact cN (b:=left-xs.length-(iO wt xs xs.length:Nat)) (.inl rfl) (sd (tw @a5 (tw @a1 @a0))) (by rw[xE,if_pos (by omega)];omega)
 ·have kG:left-(xs.length:Int)<0:=by omega
  (try((repeat(revert hN;revert N;apply Pn.out));refine wk (tw @hw @kG) ?_;(repeat(refine Pn.mk ?_;intro N hN))))
  exact cN (b:=-1) (.inl rfl) (sd @Nat.zero_add) (by rw[xE,if_neg (by omega)])
theorem IY {α:Type} {xs ys:List α} (hl:xs.length=ys.length) (h:∀j:Nat,j<xs.length->∀(h1:j<xs.length) (h2:j<ys.length),xs[j]=ys[j]):xs=ys:=List.ext_getElem hl fun j h1 h2=>h j h1 h1 h2
theorem zD {α:Type} [DecidableEq α] {e:α->List AV} {z fk gk:Nat} (hc:lR P fk=some (Bp fk gk z)) (hz:∀x,(e x).length=z) (CX:∀x g,dn g 6 [.agg (e x)]=some [.agg (e x)]) (xs ys:List α)
  (hg:∀x y,aq P gk [.agg (e x),.agg (e y)] (.bool (decide (x=y)))):aq P fk [.sl (xs.map e),.sl (ys.map e)] (.bool (decide (xs=ys))):=by
 refine aq.body hc rfl fun hl n0=>?_
 try simp only[q]
 have hn:xs.length<=9223372036854775807:=by simpa using(hl (.sl (xs.map e)) (by simp)).len
 clear hl
 by_cases hlen:xs.length=ys.length
 ·have kW:decide ((xs.length:Int)=(ys.length:Int))=true:=by simp[hlen]
  (try((repeat(revert hN;revert N;apply Pn.out));refine wk @kW ?_;(repeat(refine Pn.mk ?_;intro N hN))))
  refine aZ (fun n env st=>∃k:Nat,n=(xs.length)-k/\k<=(xs.length)/\env 5=.int .i64 (k:Int)/\(∀j:Nat,j<k->∀(h1:j<xs.length) (h2:j<ys.length),xs[j]=ys[j])) (xs.length) ⟨0,by omega,by omega,sl @Nat.zero_add,fun _ h=>absurd h (Nat.not_lt_zero _)⟩ ?_
  rintro n_a env_a st_a ⟨k,rfl,ale,a5,j9⟩ dx
  have a0:=dx 0 (by kernel_rfl);have a1:=dx 1 (by kernel_rfl)
  simp only[go_sem, ↓reduceIte,Nat.reduceEqDiff,Nat.reduceAdd,Nat.reduceSub,Nat.reduceLeDiff,reduceCtorEq]at a0 a1
  clear dx
  by_cases hk:(k:Int)<(xs.length:Int)
  ·have cz:∀{e:Env},(e 5=.int .i64 (IntKind.i64.wrap ((k:Int)+1)))->(∀(h1:k<xs.length) (h2:k<ys.length),xs[k]=ys[k])->∃m0,m0<(xs.length)-k/\∃k:Nat,m0=(xs.length)-k/\k<=(xs.length)/\e 5=.int .i64 (k:Int)/\(∀j:Nat,j<k->∀(h1:j<xs.length) (h2:j<ys.length),xs[j]=ys[j]):=fun x1 x2=>⟨_,by omega,k+1,rfl,by omega,(by rw[x1,aA (by omega)]),(all_succ j9 x2)⟩
   have fM:k<xs.length:=by omega
   have Tj:k<ys.length:=by omega
   have e9:(xs.map e)[k]? =some (e xs[k]):=by simp[fM]
   have DV:(ys.map e)[k]? =some (e ys[k]):=by simp[Tj]
   have tZ:=hz xs[k]
   have Ee:=hz ys[k]
   have ht:(e xs[k]).take z=e xs[k]:=by rw[<-tZ,List.take_length]
   have H5:(e ys[k]).take z=e ys[k]:=by rw[<-Ee,List.take_length]
   have iD:=hg xs[k] ys[k]
   have kO:∀g,dn g 6 [.agg (e xs[k]),.agg (e ys[k])]=some [.agg (e xs[k]),.agg (e ys[k])]:=fun g=>by
    have q1:=CX xs[k] g
    have q2:=CX ys[k] g
    rw[ae,aj]at q1
    rw[ae,q2]
    revert q1
    cases V.fz g 6 (.agg (e xs[k]))<;>simp
   by_cases heq:xs[k]=ys[k]
   ·rw[decide_eq_true heq]at iD
    generalize hex:e xs[k]=c at iD kO e9 tZ ht
    generalize hey:e ys[k]=d at iD kO DV Ee H5
    (try((repeat(revert hN;revert N;apply Pn.out));refine wk (tw @a5 (tw @a0 (tw @a1 (tw @hk (tw @e9 (tw @DV (tw @tZ (tw @Ee (tw @ht (tw @H5 @Nat.le_refl)))))))))) ?_;(repeat(refine Pn.mk ?_;intro N hN))))
    refine⟨_,aq.x iD (kO _),?_⟩
    refine hN _ _ ?_
    clear hN N
    (try((repeat(revert hN;revert N;apply Pn.out));refine wk (tw @a5 (tw @a0 @a1)) ?_;(repeat(refine Pn.mk ?_;intro N hN))))
    exact cz (sd (tw @a5 (tw @a0 @a1))) (fun _ _=>heq)
   ·rw[decide_eq_false heq]at iD
    generalize hex:e xs[k]=c at iD kO e9 tZ ht
    generalize hey:e ys[k]=d at iD kO DV Ee H5
    (try((repeat(revert hN;revert N;apply Pn.out));refine wk (tw @a5 (tw @a0 (tw @a1 (tw @hk (tw @e9 (tw @DV (tw @tZ (tw @Ee (tw @ht (tw @H5 @Nat.le_refl)))))))))) ?_;(repeat(refine Pn.mk ?_;intro N hN))))
    refine⟨_,aq.x iD (kO _),?_⟩
    refine hN _ _ ?_
    clear hN N
    (try((repeat(revert hN;revert N;apply Pn.out));refine wk (tw @a5 (tw @a0 @a1)) ?_;(repeat(refine Pn.mk ?_;intro N hN))))
    exact bc (b:=false) (.inl rfl) (sd @Nat.zero_add) (decide_eq_false fun h=>heq (List.getElem_of_eq h _)).symm
  ·(try((repeat(revert hN;revert N;apply Pn.out));refine wk (tw @a5 (tw @a0 (tw @a1 @hk))) ?_;(repeat(refine Pn.mk ?_;intro N hN))))
   exact bc (b:=true) (.inl rfl) (sd @Nat.zero_add) (decide_eq_true (IY hlen fun j hj h1 h2=>j9 j (by omega) h1 h2)).symm
 ·have kW:decide ((xs.length:Int)=(ys.length:Int))=false:=decide_eq_false fun h=>hlen (by omega)
  (try((repeat(revert hN;revert N;apply Pn.out));refine wk @kW ?_;(repeat(refine Pn.mk ?_;intro N hN))))
  exact bc (b:=false) (.inl rfl) (sd @Nat.zero_add) (decide_eq_false fun h=>hlen (by subst h;rfl)).symm
theorem Q2 {fk:Nat} (hc:lR P fk=some (M7 fk .tI)) (xs ys:List Int):
  aq P fk [.sl (xs.map fun x=>[AV.int .i64 x]),.sl (ys.map fun x=>[AV.int .i64 x])] (.bool (decide (xs=ys))):=by
 refine aq.body hc rfl fun hl n0=>?_
 try simp only[q]
 have hn:xs.length<=9223372036854775807:=by simpa using(hl (.sl (xs.map fun x=>[AV.int .i64 x])) (by simp)).len
 clear hl
 by_cases hlen:xs.length=ys.length
 ·have kW:decide ((xs.length:Int)=(ys.length:Int))=true:=by simp[hlen]
  (try((repeat(revert hN;revert N;apply Pn.out));refine wk @kW ?_;(repeat(refine Pn.mk ?_;intro N hN))))
  refine aZ (fun n env st=>∃k:Nat,n=(xs.length)-k/\k<=(xs.length)/\env 5=.int .i64 (k:Int)/\(∀j:Nat,j<k->∀(h1:j<xs.length) (h2:j<ys.length),xs[j]=ys[j])) (xs.length) ⟨0,by omega,by omega,sl @Nat.zero_add,fun _ h=>absurd h (Nat.not_lt_zero _)⟩ ?_
  rintro n_a env_a st_a ⟨k,rfl,ale,a5,j9⟩ dx
  have a0:=dx 0 (by kernel_rfl);have a1:=dx 1 (by kernel_rfl)
  simp only[go_sem, ↓reduceIte,Nat.reduceEqDiff,Nat.reduceAdd,Nat.reduceSub,Nat.reduceLeDiff,reduceCtorEq]at a0 a1
  clear dx
  by_cases hk:(k:Int)<(xs.length:Int)
  ·have cz:∀{e:Env},(e 5=.int .i64 (IntKind.i64.wrap ((k:Int)+1)))->(∀(h1:k<xs.length) (h2:k<ys.length),xs[k]=ys[k])->∃m0,m0<(xs.length)-k/\∃k:Nat,m0=(xs.length)-k/\k<=(xs.length)/\e 5=.int .i64 (k:Int)/\(∀j:Nat,j<k->∀(h1:j<xs.length) (h2:j<ys.length),xs[j]=ys[j]):=fun x1 x2=>⟨_,by omega,k+1,rfl,by omega,(by rw[x1,aA (by omega)]),(all_succ j9 x2)⟩
   have fM:k<xs.length:=by omega
   have Tj:k<ys.length:=by omega
   have e9:(xs.map fun x=>[AV.int .i64 x])[k]? =some [.int .i64 xs[k]]:=by simp[fM]
   have DV:(ys.map fun x=>[AV.int .i64 x])[k]? =some [.int .i64 ys[k]]:=by simp[Tj]
   by_cases heq:xs[k]=ys[k]
   ·have hq:=decide_eq_true heq
    (try((repeat(revert hN;revert N;apply Pn.out));refine wk (tw @a5 (tw @a0 (tw @a1 (tw @hk (tw @e9 (tw @DV @hq)))))) ?_;(repeat(refine Pn.mk ?_;intro N hN))))
    exact cz (sd (tw @a5 (tw @a0 @a1))) (fun _ _=>heq)
   ·have hq:=decide_eq_false heq
    (try((repeat(revert hN;revert N;apply Pn.out));refine wk (tw @a5 (tw @a0 (tw @a1 (tw @hk (tw @e9 (tw @DV @hq)))))) ?_;(repeat(refine Pn.mk ?_;intro N hN))))
    exact bc (b:=false) (.inl rfl) (sd @Nat.zero_add) (decide_eq_false fun h=>heq (List.getElem_of_eq h _)).symm
  ·(try((repeat(revert hN;revert N;apply Pn.out));refine wk (tw @a5 (tw @a0 (tw @a1 @hk))) ?_;(repeat(refine Pn.mk ?_;intro N hN))))
   exact bc (b:=true) (.inl rfl) (sd @Nat.zero_add) (decide_eq_true (IY hlen fun j hj h1 h2=>j9 j (by omega) h1 h2)).symm
 ·have kW:decide ((xs.length:Int)=(ys.length:Int))=false:=decide_eq_false fun h=>hlen (by omega)
  (try((repeat(revert hN;revert N;apply Pn.out));refine wk @kW ?_;(repeat(refine Pn.mk ?_;intro N hN))))
  exact bc (b:=false) (.inl rfl) (sd @Nat.zero_add) (decide_eq_false fun h=>hlen (by subst h;rfl)).symm
theorem vN (l:List AV):l++[]=l:=List.append_nil l
def gW {α:Type} (e:α->List AV) (zc:List AV) (xs:List α) (k:Nat):List (List AV):=(xs.take k).map e++List.replicate (xs.length-k) zc
theorem oE {α:Type} (e:α->List AV) (zc:List AV) (xs:List α):List.replicate xs.length zc=gW e zc xs 0:=by simp[gW]
theorem qt {α:Type} (e:α->List AV) (zc:List AV) (xs:List α):gW e zc xs xs.length=xs.map e:=by simp[gW]
theorem qu {α:Type} (e:α->List AV) (zc:List AV) (xs:List α) {k:Nat} (hk:k<xs.length):(gW e zc xs k)[k]? =some zc:=by
 have h1:((xs.take k).map e).length=k:=by simp;omega
 rw[gW,List.getElem?_append_right (by omega),h1,Nat.sub_self,List.getElem?_replicate,if_pos (by omega)]
theorem qv {α:Type} (e:α->List AV) (zc:List AV) (xs:List α) {k:Nat} (hk:k<xs.length):(gW e zc xs k).set k (e xs[k])=gW e zc xs (k+1):=by
 have h1:((xs.take k).map e).length=k:=by simp;omega
 rw[gW,List.set_append_right _ _ (by omega),h1,Nat.sub_self,gW,List.take_succ_eq_append_getElem hk,List.map_append,List.append_assoc]
 congr 1
 obtain⟨m,hm⟩:∃m,xs.length-k=m+1:=⟨xs.length-k-1,by omega⟩
 rw[hm,show xs.length-(k+1)=m by omega,List.replicate_succ]
 rfl
theorem Ax {α:Type} {en:α->List AV} {z fk gk:Nat} {zero:List K} (hc:lR P fk=some (qj fk gk z zero)) (H8:zero.length=z) (hz:∀x,(en x).length=z) (kC:∀x,(en x).all AV.cell=true) (CX:∀x g,dn g 5 (en x)=some (en x)) (xs:List α) (hlen:xs.length<=1048576)
  (hg:∀x∈xs,jq P gk [.agg (en x)] (.agg (en x))):jq P fk [.sl (xs.map en)] (.sl (xs.map en)):=by
 refine jq.body hc rfl fun hl σ=>?_
 try simp only[q]
 clear hl
 have hm:(xs.length:Int)<=((16777216:Nat):Int):=by omega
 have h0:(0:Int)<=(xs.length:Int):=by omega
 (try((repeat(revert hN;revert N;apply Pn.out));refine wk (tw @hm (tw @h0 (tw @Int.le_refl (tw (oE en (zero.map K.av) xs) @H8)))) ?_;(repeat(refine Pn.mk ?_;intro N hN))))
 refine aZ (fun n env st=>∃k:Nat,n=(xs.length)-k/\k<=(xs.length)/\env 4=.int .i64 (k:Int)/\st.get ⟨fk*1000000+1002,σ.next+1⟩=some ⟨true,z,gW en (zero.map K.av) xs k⟩) (xs.length) ⟨0,by omega,by omega,sl @Nat.zero_add,sl @Nat.zero_add⟩ ?_
 rintro n_a env_a st_a ⟨k,rfl,ale,a4,ag0⟩ dx
 have a0:=dx 0 (by kernel_rfl);have a3:=dx 3 (by kernel_rfl)
 simp only[go_sem, ↓reduceIte,Nat.reduceEqDiff,Nat.reduceAdd,Nat.reduceSub,Nat.reduceLeDiff,reduceCtorEq]at a0 a3
 clear dx
 by_cases hk:(k:Int)<(xs.length:Int)
 ·have cz:∀{e:Env} {gg:Rows},(e 4=.int .i64 (IntKind.i64.wrap ((k:Int)+1)))->(gg ⟨fk*1000000+1002,σ.next+1⟩=some ⟨true,z,gW en (zero.map K.av) xs (k+1)⟩)->∃m0,m0<(xs.length)-k/\∃k:Nat,m0=(xs.length)-k/\k<=(xs.length)/\e 4=.int .i64 (k:Int)/\gg ⟨fk*1000000+1002,σ.next+1⟩=some ⟨true,z,gW en (zero.map K.av) xs k⟩:=fun x1 x2=>⟨_,by omega,k+1,rfl,by omega,(by rw[x1,aA (by omega)]),x2⟩
  have fM:k<xs.length:=by omega
  have e9:(xs.map en)[k]? =some (en xs[k]):=by simp[fM]
  have tZ:=hz xs[k]
  have K4:=kC xs[k]
  have ht:(en xs[k]).take z=en xs[k]:=by rw[<-tZ,List.take_length]
  have iD:=hg _ (List.getElem_mem fM)
  have fY:=qu en (zero.map K.av) xs fM
  have eH:=qv en (zero.map K.av) xs fM
  have Jg:(zero.map K.av).drop z=[]:=List.drop_of_length_le (by simp[H8])
  generalize hex:en xs[k]=c at iD e9 tZ ht K4 eH
  (repeat(first|((repeat(revert hN;revert N;apply Pn.out));refine wk (tw @a4 (tw @ag0 (tw @a0 (tw @a3 (tw @hk (tw @e9 (tw @tZ (tw @ht (tw @Nat.le_refl (tw @fY (tw @eH (tw @Jg (tw @vN (tw @K4 @H8)))))))))))))) ?_;(repeat(refine Pn.mk ?_;intro N hN)))|((try apply Or.inl);refine⟨_,jq.x (iD) _,?_⟩;refine hN _ _ ?_;clear hN N)))
  refine cz ?_ ?_
  all_goals simp only[go_sem, ↓reduceIte,Nat.reduceEqDiff,Nat.reduceAdd,Nat.reduceSub,Nat.reduceLeDiff,reduceCtorEq,a4,ag0,a0,a3]
 ·(try((repeat(revert hN;revert N;apply Pn.out));refine wk (tw @a4 (tw @ag0 (tw @a0 (tw @a3 @hk)))) ?_;(repeat(refine Pn.mk ?_;intro N hN))))
  have fM:k=xs.length:=by omega
  subst fM
  refine Sn (.inl rfl) (r0:=.own ⟨fk*1000000+1002,σ.next+1⟩ 0 xs.length) (sd (tw @a4 (tw @ag0 (tw @a0 @a3)))) ?_
  rw[qt]at ag0
  exact gY ag0 (by simp) fun x=>CX x _
theorem Ss {fk:Nat} (hc:lR P fk=some (KK fk (.int .i64 0))) (xs:List Int) (hlen:xs.length<=1048576):jq P fk [.sl (xs.map fun x=>[AV.int .i64 x])] (.sl (xs.map fun x=>[AV.int .i64 x])):=by
 refine jq.body hc rfl fun hl σ=>?_
 try simp only[q]
 clear hl
 obtain⟨en,HX⟩:∃en:Int->List AV,en=fun x=>[AV.int .i64 x]:=⟨_,rfl⟩
 rw[<-HX]
 have hm:(xs.length:Int)<=((16777216:Nat):Int):=by omega
 have h0:(0:Int)<=(xs.length:Int):=by omega
 (try((repeat(revert hN;revert N;apply Pn.out));refine wk (tw @hm (tw @h0 (tw @Int.le_refl (oE en [AV.int .i64 0] xs)))) ?_;(repeat(refine Pn.mk ?_;intro N hN))))
 refine aZ (fun n env st=>∃k:Nat,n=(xs.length)-k/\k<=(xs.length)/\env 4=.int .i64 (k:Int)/\st.get ⟨fk*1000000+1002,σ.next+1⟩=some ⟨true,1,gW en [AV.int .i64 0] xs k⟩) (xs.length) ⟨0,by omega,by omega,sl @Nat.zero_add,sl @Nat.zero_add⟩ ?_
 rintro n_a env_a st_a ⟨k,rfl,ale,a4,ag0⟩ dx
 have a0:=dx 0 (by kernel_rfl);have a3:=dx 3 (by kernel_rfl)
 simp only[go_sem, ↓reduceIte,Nat.reduceEqDiff,Nat.reduceAdd,Nat.reduceSub,Nat.reduceLeDiff,reduceCtorEq]at a0 a3
 clear dx
 by_cases hk:(k:Int)<(xs.length:Int)
 ·have cz:∀{e:Env} {gg:Rows},(e 4=.int .i64 (IntKind.i64.wrap ((k:Int)+1)))->(gg ⟨fk*1000000+1002,σ.next+1⟩=some ⟨true,1,gW en [AV.int .i64 0] xs (k+1)⟩)->∃m0,m0<(xs.length)-k/\∃k:Nat,m0=(xs.length)-k/\k<=(xs.length)/\e 4=.int .i64 (k:Int)/\gg ⟨fk*1000000+1002,σ.next+1⟩=some ⟨true,1,gW en [AV.int .i64 0] xs k⟩:=fun x1 x2=>⟨_,by omega,k+1,rfl,by omega,(by rw[x1,aA (by omega)]),x2⟩
  have fM:k<xs.length:=by omega
  have e9:(xs.map en)[k]? =some [AV.int .i64 xs[k]]:=by simp[fM,HX]
  have fY:=qu en [AV.int .i64 0] xs fM
  have eH:=qv en [AV.int .i64 0] xs fM
  rw[show en xs[k]=[AV.int .i64 xs[k]] by rw[HX]]at eH
  (try((repeat(revert hN;revert N;apply Pn.out));refine wk (tw @a4 (tw @ag0 (tw @a0 (tw @a3 (tw @hk (tw @e9 (tw @fY @eH))))))) ?_;(repeat(refine Pn.mk ?_;intro N hN))))
  refine cz ?_ ?_
  all_goals simp only[go_sem, ↓reduceIte,Nat.reduceEqDiff,Nat.reduceAdd,Nat.reduceSub,Nat.reduceLeDiff,reduceCtorEq,a4,ag0,a0,a3]
 ·(try((repeat(revert hN;revert N;apply Pn.out));refine wk (tw @a4 (tw @ag0 (tw @a0 (tw @a3 @hk)))) ?_;(repeat(refine Pn.mk ?_;intro N hN))))
  have fM:k=xs.length:=by omega
  subst fM
  refine Sn (.inl rfl) (r0:=.own ⟨fk*1000000+1002,σ.next+1⟩ 0 xs.length) (sd (tw @a4 (tw @ag0 (tw @a0 @a3)))) ?_
  rw[qt]at ag0
  exact gY ag0 (by simp) fun x=>by simp[HX,ae,aj,aI]
end Go.Proofs.YtgoelphibofcmaaGreat.V

namespace Go.Proofs.YtgoelphibofcmaaGreat
open Go.RowKit
def Sl (w:World) (fp:List Nat) (v:Value) (n:Nat) (xs:List Value):Prop:=
 ∃A c,v=.slice A n c/\n<=c/\c<=maxLen/\
  ((fp=[]/\n=0)∨∃b o,fp=[b]/\A=some ⟨b,o,none⟩/\∀j u,xs[j]? =some u->w.cell? ⟨b,o+j,none⟩=some u)
def fD (fp:List Nat) (lo hi:Nat):Prop:=∀b∈fp,lo<=b/\b<hi
theorem fD.nil (lo hi:Nat):fD [] lo hi:=fun _ h=>by cases h
theorem Sl.nil (w:World):Sl w [] (.slice none 0 0) 0 []:=⟨none,0,rfl,Nat.le_refl _,by simp[maxLen],.inl ⟨rfl,rfl⟩⟩
def NP {α:Type} (rep:World->List Nat->List Value->α->Prop) (sz:Nat) (w:World) (oF:List (List Value)) (Fx:List (List Nat)) (ds:List α):Prop:=
 oF.length=ds.length/\Fx.length=ds.length/\∀(i:Nat) (cs:List Value) (f:List Nat) (d:α),oF[i]? =some cs->Fx[i]? =some f->ds[i]? =some d->rep w f cs d/\cs.length=sz
def mV {α:Type} (rep:World->List Nat->List Value->α->Prop) (sz:Nat) (w:World) (fp:List Nat) (v:Value) (ds:List α):Prop:=
 ∃oF Fx Uc,fp=Uc++Fx.flatten/\Sl w Uc v ds.length oF.flatten/\NP rep sz w oF Fx ds
theorem qS {α:Type} {Fx:List (List α)} {i:Nat} {f:List α} (h:Fx[i]? =some f):∀b∈f,b∈Fx.flatten:=fun b hb=>
 List.mem_flatten.2 ⟨f,List.mem_of_getElem? h,hb⟩
theorem tT {α:Type} {oF:List (List α)} {sz:Nat} (h:∀cs∈oF,cs.length=sz) {i j:Nat} {cs:List α} (hi:oF[i]? =some cs) (hj:j<sz):oF.flatten[i*sz+j]? =cs[j]? :=by
 induction oF generalizing i with
 |nil=>simp at hi
 |cons c r ih=>
  have hc:c.length=sz:=h c (by simp)
  cases i with
  |zero=>
   simp at hi;subst hi
   rw[List.flatten_cons,List.getElem?_append_left (by omega)];simp
  |succ i=>
   rw[List.flatten_cons,List.getElem?_append_right (by rw[hc,Nat.succ_mul];omega)]
   have:(i+1)*sz+j-c.length=i*sz+j:=by rw[hc,Nat.succ_mul];omega
   rw[this]
   exact ih (fun cs dy=>h cs (List.mem_cons_of_mem _ dy)) (by simpa using hi)
theorem NP.lens {α:Type} {rep:World->List Nat->List Value->α->Prop} {sz:Nat} {w:World} {oF:List (List Value)} {Fx:List (List Nat)} {ds:List α}
  (h:NP rep sz w oF Fx ds):∀cs∈oF,cs.length=sz:=fun cs dy=>by
 obtain⟨i,hi,rfl⟩:=List.getElem_of_mem dy
 have h1:i<Fx.length:=by rw[h.2.1,<-h.1];exact hi
 have h2:i<ds.length:=by rw[<-h.1];exact hi
 exact(h.2.2 i _ _ _ (List.getElem?_eq_getElem hi) (List.getElem?_eq_getElem h1) (List.getElem?_eq_getElem h2)).2
theorem mV.at_ {α:Type} {rep:World->List Nat->List Value->α->Prop} {sz:Nat} {w:World} {fp:List Nat} {A:Option Addr} {n c:Nat} {ds:List α}
  (h:mV rep sz w fp (.slice A n c) ds) (k:Nat) (hk:k<ds.length):
  ∃b o cs f,A=some ⟨b,o,none⟩/\b∈fp/\(∀x∈f,x∈fp)/\rep w f cs ds[k]/\cs.length=sz/\∀j u,cs[j]? =some u->w.cell? ⟨b,o+(k*sz+j),none⟩=some u:=by
 obtain⟨oF,Fx,Uc,rfl,⟨A',c',hv,_,_,hc⟩,hr⟩:=h
 simp only[Value.slice.injEq]at hv
 obtain⟨rfl,hn,rfl⟩:=hv
 rcases hc with⟨_,h0⟩|⟨b,o,rfl,rfl,hc⟩
 ·omega
 have h1:k<oF.length:=by rw[hr.1];exact hk
 have h2:k<Fx.length:=by rw[hr.2.1];exact hk
 obtain⟨gS,hl⟩:=hr.2.2 k _ _ _ (List.getElem?_eq_getElem h1) (List.getElem?_eq_getElem h2) (List.getElem?_eq_getElem hk)
 refine⟨b,o,oF[k],Fx[k],rfl,by simp,fun x hx=>List.mem_append_right _ (qS (List.getElem?_eq_getElem h2) x hx),gS,hl,fun j u hj=>?_⟩
 have iq:j<sz:=by rw[<-hl];exact(List.getElem?_eq_some_iff.1 hj).1
 exact hc _ u (by rw[tT hr.lens (List.getElem?_eq_getElem h1) iq];exact hj)
theorem mV.len {α:Type} {rep:World->List Nat->List Value->α->Prop} {sz:Nat} {w:World} {fp:List Nat} {v:Value} {ds:List α}
  (h:mV rep sz w fp v ds):∃A c,v=.slice A ds.length c/\ds.length<=c/\c<=maxLen:=by
 obtain⟨_,_,_,_,⟨A,c,hv,h1,h2,_⟩,_⟩:=h
 exact⟨A,c,hv,h1,h2⟩
theorem mV.nil {α:Type} (rep:World->List Nat->List Value->α->Prop) (sz:Nat) (w:World):mV rep sz w [] (.slice none 0 0) ([]:List α):=
 ⟨[],[],[],rfl,Sl.nil w,rfl,rfl,fun i cs f d hc=>by simp at hc⟩
def Flat {α:Type} (enc:α->List Value):World->List Nat->List Value->α->Prop:=fun _ f cs d=>f=[]/\cs=enc d
end Go.Proofs.YtgoelphibofcmaaGreat

namespace Go.Proofs.YtgoelphibofcmaaGreat
open Go.RowKit
def Q (w w':World):Prop:=∃q,w'=w.drewN q
theorem Q.refl (w:World):Q w w:=⟨0,rfl⟩
theorem Q.d {w w':World} (h:Q w w') (n:Nat):Q w (w'.drewN n):=by obtain⟨q,rfl⟩:=h;exact⟨q+n,by rw[World.drewN_drewN]⟩
theorem Q.d1 {w w':World} (h:Q w w'):Q w w'.drew:=by obtain⟨q,rfl⟩:=h;exact⟨q+1,rfl⟩
theorem Q.n (w:World) (n:Nat):Q w (w.drewN n):=⟨n,rfl⟩
theorem Q.trans {a b c:World} (h:Q a b) (k:Q b c):Q a c:=by obtain⟨q,rfl⟩:=k;exact h.d q
theorem IG {B:Nat} {a w:World} (h:Below B a w) (n:Nat):Below B a (w.drewN n):=⟨h.os,h.tape,h.output,h.size,h.block⟩
theorem Q.below {w w':World} (h:Q w w'):Below w.heap.size w w':=by obtain⟨q,rfl⟩:=h;exact IG (Below.refl _ _) q
theorem iL {a b:Bool} (h:a=b):Ending.returned (.bool a)=.returned (.bool b):=by rw[h]
theorem F3 {k:IntKind} {a b:Int} (h:a=b):Ending.returned (.int k a)=.returned (.int k b):=by rw[h]
end Go.Proofs.YtgoelphibofcmaaGreat

namespace Go.Proofs.YtgoelphibofcmaaGreat
open Go.RowKit
end Go.Proofs.YtgoelphibofcmaaGreat

namespace Go.Proofs.YtgoelphibofcmaaGreat
open Go.RowKit
end Go.Proofs.YtgoelphibofcmaaGreat

namespace Go.Proofs.YtgoelphibofcmaaGreat
open Go.RowKit
structure aL where
 fb:Int
 eV:Int
deriving DecidableEq
structure ad where
 aQ:aL
 aO:Int
deriving DecidableEq
structure gz where
 ai:List ad
deriving DecidableEq
structure fG where
 aM:ByteArray
 eG:Int
deriving DecidableEq
structure eZ where
 aM:ByteArray
 bD:List Int
deriving DecidableEq
structure aw where
 ax:List fG
 ai:List eZ
deriving DecidableEq
structure az where
 aH:aw
 bf:gz
 ay:Int
deriving DecidableEq
def GB (d:Int):List Value:=[.int .i64 d]
def Fj:=Flat GB
def fa (d:ad):List Value:=[.int .i64 d.aQ.fb,.int .i64 d.aQ.eV,.int .i64 d.aO]
def vJ:=Flat fa
def jg:=mV vJ 3
def IT (d:fG):List Value:=[.string d.aM,.int .i64 d.eG]
def Iq:=Flat IT
def rh:=mV Iq 2
def vK:=mV Fj 1
def Ir (w:World) (f:List Nat) (cs:List Value) (d:eZ):Prop:=
 ∃v1 f1,f=f1/\cs=[.string d.aM,v1]/\vK w f1 v1 d.bD
def rj:=mV Ir 2
end Go.Proofs.YtgoelphibofcmaaGreat

namespace Go.Proofs.YtgoelphibofcmaaGreat.V
open Go.RowKit
variable {P:Program} {w:World} {D:Nat->Prop}
def Ii (P:Program) (w:World) (D:Nat->Prop) (al:List AV) (cs:List Value):Prop:=∀(j:Nat) (a:AV),al[j]? =some a->∃u:Value,cs[j]? =some u/\jQ P w D a u
theorem sn {α:Type} {rep:World->List Nat->List Value->α->Prop} {e:α->List AV} {sz:Nat} {f:List Nat} {v:Value} {xs:List α} (h:mV rep sz w f v xs) (hD:∀b∈f,D b)
  (hl:∀x∈xs,(e x).length=sz) (hc:∀x∈xs,∀a∈e x,a.cell=true) (hr:∀x∈xs,∀f' cs,rep w f' cs x->(∀b∈f',D b)->Ii P w D (e x) cs):jQ P w D (.sl (xs.map e)) v:=by
 obtain⟨A,c,rfl,h1,h2⟩:=mV.len h
 by_cases h0:xs=[]
 ·subst h0;exact .AR _ _ h2
 have kz:0<xs.length:=List.length_pos_iff.2 h0
 obtain⟨b,o,Qh,f0,rfl,hb,Tf,Vt,LK,jN⟩:=mV.at_ h 0 kz
 have key:∀(i:Nat) (hi:i<xs.length),∃cs f',(∀x∈f',x∈f)/\rep w f' cs xs[i]/\cs.length=sz/\∀j u,cs[j]? =some u->w.cell? ⟨b,o+(i*sz+j),none⟩=some u:=by
  intro i hi
  obtain⟨b',o',cs,f',S8,_,kG,od,dy,kV⟩:=mV.at_ h i hi
  simp only[Option.some.injEq,Addr.mk.injEq,and_true]at S8
  obtain⟨rfl,rfl⟩:=S8
  exact⟨cs,f',kG,od,dy,kV⟩
 refine .sl _ b o _ c sz (fun i j=>(w.cell? ⟨b,o+(i*sz+j),none⟩).getD Go.undef) (by simp) h1 h2 (hD b hb) ?_ ?_ ?_ ?_
 ·intro cs dy
  obtain⟨x,hx,rfl⟩:=List.mem_map.1 dy
  exact hl x hx
 ·intro cs dy
  obtain⟨x,hx,rfl⟩:=List.mem_map.1 dy
  exact hc x hx
 ·intro i j hi hj
  obtain⟨cs,f',_,_,dy,kV⟩:=key i hi
  rw[kV j cs[j] (List.getElem?_eq_getElem (by omega))]
  rfl
 ·intro i j cs a dy ha
  have hi:i<xs.length:=by
   have:=(List.getElem?_eq_some_iff.1 dy).1
   simpa using this
  obtain⟨pS,f',kG,od,hcs',kV⟩:=key i hi
  simp[hi]at dy
  subst dy
  obtain⟨u,hu,him⟩:=hr _ (List.getElem_mem hi) f' pS od (fun b hb=>hD b (kG b hb)) j a ha
  rw[kV j u hu]
  exact him
end Go.Proofs.YtgoelphibofcmaaGreat.V

namespace Go.Proofs.YtgoelphibofcmaaGreat.V
open Go.RowKit
variable {P:Program} {w:World} {D:Nat->Prop}
def aE (d:Int):List AV:=[.int .i64 d]
def ah (d:aL):List AV:=[.int .i64 d.fb,.int .i64 d.eV]
def aa (d:ad):List AV:=[.int .i64 d.aQ.fb,.int .i64 d.aQ.eV,.int .i64 d.aO]
def dJ (d:gz):List AV:=[.sl (d.ai.map aa)]
def bR (d:fG):List AV:=[.str d.aM,.int .i64 d.eG]
def bB (d:eZ):List AV:=[.str d.aM,.sl (d.bD.map aE)]
def ab (d:aw):List AV:=[.sl (d.ax.map bR),.sl (d.ai.map bB)]
def au (d:az):List AV:=[.sl (d.aH.ax.map bR),.sl (d.aH.ai.map bB),.sl (d.bf.ai.map aa),.int .i64 d.ay]
theorem tL {f:List Nat} {v:Value} {xs:List ad} (h:jg w f v xs) (hD:∀b∈f,D b):jQ P w D (.sl (xs.map aa)) v:=
 sn h hD (fun _ _=>rfl) (fun x _ a ha=>by simp[aa]at ha;rcases ha with rfl|rfl|rfl<;>rfl) fun x _ f' cs hr hf=>by
  obtain⟨_,rfl⟩:=hr
  intro j a ha
  match j,ha with
  |0,ha=>simp[aa]at ha;subst ha;exact⟨_,rfl,.int _ _⟩
  |1,ha=>simp[aa]at ha;subst ha;exact⟨_,rfl,.int _ _⟩
  |2,ha=>simp[aa]at ha;subst ha;exact⟨_,rfl,.int _ _⟩
  |j+3,ha=>simp[aa]at ha
theorem Gg {f:List Nat} {v:Value} {xs:List fG} (h:rh w f v xs) (hD:∀b∈f,D b):jQ P w D (.sl (xs.map bR)) v:=
 sn h hD (fun _ _=>rfl) (fun x _ a ha=>by simp[bR]at ha;rcases ha with rfl|rfl<;>rfl) fun x _ f' cs hr hf=>by
  obtain⟨_,rfl⟩:=hr
  intro j a ha
  match j,ha with
  |0,ha=>simp[bR]at ha;subst ha;exact⟨_,rfl,.str _⟩
  |1,ha=>simp[bR]at ha;subst ha;exact⟨_,rfl,.int _ _⟩
  |j+2,ha=>simp[bR]at ha
theorem Dc {f:List Nat} {v:Value} {xs:List Int} (h:vK w f v xs) (hD:∀b∈f,D b):jQ P w D (.sl (xs.map aE)) v:=
 sn h hD (fun _ _=>rfl) (fun x _ a ha=>by simp[aE]at ha;rcases ha with rfl<;>rfl) fun x _ f' cs hr hf=>by
  obtain⟨_,rfl⟩:=hr
  intro j a ha
  match j,ha with
  |0,ha=>simp[aE]at ha;subst ha;exact⟨_,rfl,.int _ _⟩
  |j+1,ha=>simp[aE]at ha
theorem Gj {f:List Nat} {v:Value} {xs:List eZ} (h:rj w f v xs) (hD:∀b∈f,D b):jQ P w D (.sl (xs.map bB)) v:=
 sn h hD (fun _ _=>rfl) (fun x _ a ha=>by simp[bB]at ha;rcases ha with rfl|rfl<;>rfl) fun x _ f' cs hr hf=>by
  obtain⟨v1,f1,rfl,rfl,h1⟩:=hr
  intro j a ha
  match j,ha with
  |0,ha=>simp[bB]at ha;subst ha;exact⟨_,rfl,.str _⟩
  |1,ha=>simp[bB]at ha;subst ha;exact⟨_,rfl,Dc h1 hf⟩
  |j+2,ha=>simp[bB]at ha
theorem Dg {d:az} {f0:List Nat} {v0:Value} (h0:rh w f0 v0 d.aH.ax) (d0:∀b∈f0,D b) {f1:List Nat} {v1:Value} (h1:rj w f1 v1 d.aH.ai) (d1:∀b∈f1,D b) {f2:List Nat} {v2:Value} (h2:jg w f2 v2 d.bf.ai) (d2:∀b∈f2,D b):jQ P w D (.agg (au d)) (.agg #[v0,v1,v2,.int .i64 d.ay]):=by
 refine .agg _ _ (fun j=>(#[v0,v1,v2,.int .i64 d.ay]:Array Value).getD j Go.undef) rfl (fun a ha=>by simp[au]at ha;rcases ha with rfl|rfl|rfl|rfl<;>rfl) (fun j hj=>?_) (fun j a ha=>?_)
 ·match j,hj with
  |0,_=>rfl
  |1,_=>rfl
  |2,_=>rfl
  |3,_=>rfl
  |j+4,hj=>simp[au]at hj<;>omega
 ·match j,ha with
  |0,ha=>simp[au]at ha;subst ha;exact Gg h0 d0
  |1,ha=>simp[au]at ha;subst ha;exact Gj h1 d1
  |2,ha=>simp[au]at ha;subst ha;exact tL h2 d2
  |3,ha=>simp[au]at ha;subst ha;exact .int _ _
  |j+4,ha=>simp[au]at ha
end Go.Proofs.YtgoelphibofcmaaGreat.V

namespace Go.Proofs.YtgoelphibofcmaaGreat.V
open Go.RowKit
attribute [local irreducible] dO wpOps gy Call
attribute [local go_sem] aT fK eS ga fZ dj upd cF K.av cP AV.cells AV.cell rowOf rowsOf part ld rowAt bL cD dG ef ik bV de ew fW fe dw ek dc db dU dV cj bl cU b4 cW cV ei eo ej cR cm dd eh bW aV cZ cI ij bx cK ck bd du bj dI AV.undef bH bS dW eb dQ dP cJ ev eE cH er ep cY da List.getD_cons_zero List.getD_cons_succ List.getD_nil List.all_cons List.all_nil Bool.and_true Bool.true_and Bool.and_self Bool.not_true Bool.not_false Option.map_some Option.map_none Option.bind_some Option.bind_none List.length_cons List.length_nil List.take_succ_cons List.take_zero List.take_nil List.drop_succ_cons List.drop_zero List.drop_nil List.head?_cons List.map_cons List.map_nil List.getElem?_cons_zero List.getElem?_cons_succ List.cons_append List.nil_append List.append_nil List.length_map List.set_cons_zero List.set_cons_succ Nat.reduceMul eq_self Int.toNat_natCast Int.natCast_nonneg and_self true_and and_true decide_true decide_false Bool.false_eq_true Nat.zero_add Nat.add_zero List.contains_cons List.contains_nil Bool.or_false Bool.false_or beq_self_eq_true Nat.reduceBEq ne_eq not_true_eq_false not_false_eq_true Id.mk.injEq false_and and_false Nat.reduceLT Int.reduceLE Int.reduceLT Int.reduceToNat Int.reduceNeg Int.reduceAdd Nat.le_refl List.length_append beq_true beq_false Bool.not_eq_eq_eq_not or_false false_or dR ae aj aI bq bG cC aY bh aW bp cQ bJ
variable {P:Program}
theorem KT {X:fP} {Q:Ex->Env->ar->Prop} {N:Env->ar->Prop} {c:VC} {env:Env} {σ:ar} (I:Env->ar->Prop) (h2:∀e s,I e s->N e s) (h1:∀N':Env->ar->Prop,(∀e s,I e s->N' e s)->dO X c (du N' Q) env σ):dO X c (du N Q) env σ:=h1 N h2
def wN (f z:Nat) (a:Bool):AK:=let s:=f*1000000
 ⟨19,2,(.seq (.eO false [q 4 (.dv (.k (.int .i64 0))) s]) (.seq (.seq (.eO false [q 6 (.dv (.t 0)) (s+1000),q 7 (.len (.t 6)) (s+1001),q 8 (.dv (.k (.int .i64 0))) (s+1002)]) (.block 0 (.loop (.seq (.eO false [q 9 (.bin .lss .i64 (.t 8) (.t 7)) (s+2000)]) (.seq (.cond (.t 9) .skip (.exit 0)) (.seq (.block 1 (.seq (.eO false [q 10 (.dv (.t 8)) (s+3000),q 5 (.dv (.t 10)) (s+3001)]) (.seq (.eO false [q 11 (.dv (.t 1)) (s+4000),q 12 (.dv (.t 0)) (s+4001),q 13 (.dv (.t 5)) (s+4002),q 14 (.dS z (.t 12) (.t 13)) (s+4003),q 15 (.load a z (.t 14)) (s+4004),q 16 (.tQ (.t 11) [(.t 15)]) (s+4005)]) (.cond (.t 16) (.seq (.eO false [q 17 (.dv (.t 5)) (s+5000),q 4 (.dv (.t 17)) (s+5001)]) .ret) .skip)))) (.eO false [q 18 (.bin .add .i64 (.t 8) (.k (.int .i64 1))) (s+6000),q 8 (.dv (.t 18)) (s+6001)]))))))) (.seq (.eO false [q 4 (.dv (.k (.int .i64 (-1)))) (s+7000)]) .ret))),[(.tmp 4)]⟩
def DP (f g:Nat):AK:=let s:=f*1000000
 ⟨9,2,(.seq (.eO false [q 4 (.dv (.k (.bool false))) s]) (.seq (.eO false [q 5 (.dv (.t 0)) (s+1000),q 6 (.dv (.t 1)) (s+1001),q 7 (.call g [(.t 5),(.t 6)]) (s+1002),q 8 (.bin .geq .i64 (.t 7) (.k (.int .i64 0))) (s+1003),q 4 (.dv (.t 8)) (s+1004)]) .ret)),[(.tmp 4)]⟩
def kp {α:Type} (p:α->Bool) (xs:List α):Int:=if xs.findIdx p<xs.length then(xs.findIdx p:Int)else -1
theorem IZ {α:Type} (p:α->Bool) (xs:List α):decide (0<=kp p xs)=xs.any p:=by
 unfold kp
 by_cases h:xs.findIdx p<xs.length
 ·rw[if_pos h]
  have:xs.any p=true:=List.any_eq_true.2 (List.findIdx_lt_length.1 h)
  rw[this];simp
 ·rw[if_neg h]
  have:xs.any p=false:=by
   rw[Bool.eq_false_iff]
   intro hc
   exact h (List.findIdx_lt_length.2 (List.any_eq_true.1 hc))
  rw[this];rfl
theorem uI (a:AV) (l m:List AV):a::l++m=a::(l++m):=rfl
theorem zt (l:List AV):[]++l=l:=rfl
structure QN {α:Type} (e:α->List AV) (v:α->AV) (z:Nat) (a:Bool):Prop where
 len:∀x,(e x).length=z
 val:∀x,if a=true then v x=.agg (e x)else e x=[v x]
 fz:∀x g,dn g 6 [v x]=some [v x]
theorem ua {α:Type} {e:α->List AV} {v:α->AV} {z fk:Nat} {a:Bool} (hE:QN e v z a) (hc:lR P fk=some (wN fk z a)) (xs:List α) (hlen:xs.length<=1048576) (f:Nat) (di:List AV) (p:α->Bool)
  (hf:∀x∈xs,aq P f (v x::di) (.bool (p x))) (Jh:∀g,dn g 6 di=some di):
  aq P fk [.sl (xs.map e),.fn f di] (.int .i64 (kp p xs)):=by
 refine aq.body hc rfl fun hl n0=>?_
 try simp only[q]
 clear hl
 (try((repeat(revert hN;revert N;apply Pn.out));refine wk @Nat.zero_add ?_;(repeat(refine Pn.mk ?_;intro N hN))))
 refine aZ (fun n env st=>∃k:Nat,n=(xs.length)-k/\k<=(xs.length)/\env 8=.int .i64 (k:Int)/\(∀j:Nat,j<k->∀h:j<xs.length,p xs[j]=false)) (xs.length) ⟨0,by omega,by omega,sl @Nat.zero_add,fun _ h=>absurd h (Nat.not_lt_zero _)⟩ ?_
 rintro n_a env_a st_a ⟨k,rfl,ale,a8,j9⟩ dx
 have a0:=dx 0 (by kernel_rfl);have a1:=dx 1 (by kernel_rfl);have a7:=dx 7 (by kernel_rfl)
 simp only[go_sem, ↓reduceIte,Nat.reduceEqDiff,Nat.reduceAdd,Nat.reduceSub,Nat.reduceLeDiff,reduceCtorEq]at a0 a1 a7
 clear dx
 by_cases hk:(k:Int)<(xs.length:Int)
 ·have cz:∀{e:Env},(e 8=.int .i64 (IntKind.i64.wrap ((k:Int)+1)))->(∀h:k<xs.length,p xs[k]=false)->∃m0,m0<(xs.length)-k/\∃k:Nat,m0=(xs.length)-k/\k<=(xs.length)/\e 8=.int .i64 (k:Int)/\(∀j:Nat,j<k->∀h:j<xs.length,p xs[j]=false):=fun x1 x2=>⟨_,by omega,k+1,rfl,by omega,(by rw[x1,aA (by omega)]),(all_succ j9 x2)⟩
  have fM:k<xs.length:=by omega
  have hg:(xs.map e)[k]? =some (e xs[k]):=by simp[fM]
  have FG:=hf _ (List.getElem_mem fM)
  have hz:=hE.len xs[k]
  have hv:=hE.val xs[k]
  have kO:dn (dR st_a.get) 6 (v xs[k]::di)=some (v xs[k]::di):=by
   have h1:=hE.fz xs[k] (dR st_a.get)
   rw[ae,aj]at h1
   rw[ae,Jh]
   revert h1
   cases V.fz (dR st_a.get) 6 (v xs[k])<;>simp
  have fin:∀hN:True,(p xs[k]=true->xs.findIdx p=k):=fun _ hp=>by
   rw[List.findIdx_eq fM];exact⟨hp,fun j hj=>j9 j hj (by omega)⟩
  cases hp:p xs[k]
  ·have Tq:=hp
   cases a
   ·rw[if_neg (by simp)]at hv
    have AQ:z=1:=by rw[<-hz,hv];rfl
    subst AQ
    rw[hv]at hg hz
    rw[hp]at FG
    generalize v xs[k]=c at FG kO hg hz
    (try((repeat(revert hN;revert N;apply Pn.out));refine wk (tw @a8 (tw @a0 (tw @a1 (tw @a7 (tw @hk (tw @hg (tw @hz (tw @uI @zt)))))))) ?_;(repeat(refine Pn.mk ?_;intro N hN))))
    refine .inl ⟨_,aq.x FG kO,?_⟩
    refine hN _ _ ?_
    clear hN N
    (try((repeat(revert hN;revert N;apply Pn.out));refine wk (tw @a8 (tw @a0 (tw @a1 @a7))) ?_;(repeat(refine Pn.mk ?_;intro N hN))))
    exact cz (sd (tw @a8 (tw @a0 (tw @a1 @a7)))) (fun _=>Tq)
   ·rw[if_pos rfl]at hv
    have ht:(e xs[k]).take z=e xs[k]:=by rw[<-hz,List.take_length]
    rw[hv]at FG kO
    rw[hp]at FG
    generalize e xs[k]=c at FG kO hg hz ht
    (try((repeat(revert hN;revert N;apply Pn.out));refine wk (tw @a8 (tw @a0 (tw @a1 (tw @a7 (tw @hk (tw @hg (tw @hz (tw @ht (tw @uI (tw @zt @Nat.le_refl)))))))))) ?_;(repeat(refine Pn.mk ?_;intro N hN))))
    refine .inl ⟨_,aq.x FG kO,?_⟩
    refine hN _ _ ?_
    clear hN N
    (try((repeat(revert hN;revert N;apply Pn.out));refine wk (tw @a8 (tw @a0 (tw @a1 @a7))) ?_;(repeat(refine Pn.mk ?_;intro N hN))))
    exact cz (sd (tw @a8 (tw @a0 (tw @a1 @a7)))) (fun _=>Tq)
  ·have hi:=fin trivial hp
   cases a
   ·rw[if_neg (by simp)]at hv
    have AQ:z=1:=by rw[<-hz,hv];rfl
    subst AQ
    rw[hv]at hg hz
    rw[hp]at FG
    generalize v xs[k]=c at FG kO hg hz
    (try((repeat(revert hN;revert N;apply Pn.out));refine wk (tw @a8 (tw @a0 (tw @a1 (tw @a7 (tw @hk (tw @hg (tw @hz (tw @uI @zt)))))))) ?_;(repeat(refine Pn.mk ?_;intro N hN))))
    refine .inl ⟨_,aq.x FG kO,?_⟩
    refine hN _ _ ?_
    clear hN N
    (try((repeat(revert hN;revert N;apply Pn.out));refine wk (tw @a8 (tw @a0 (tw @a1 @a7))) ?_;(repeat(refine Pn.mk ?_;intro N hN))))
    exact cN (b:=(k:Int)) (.inl rfl) (sd @Nat.zero_add) (by rw[kp,hi,if_pos fM])
   ·rw[if_pos rfl]at hv
    have ht:(e xs[k]).take z=e xs[k]:=by rw[<-hz,List.take_length]
    rw[hv]at FG kO
    rw[hp]at FG
    generalize e xs[k]=c at FG kO hg hz ht
    (try((repeat(revert hN;revert N;apply Pn.out));refine wk (tw @a8 (tw @a0 (tw @a1 (tw @a7 (tw @hk (tw @hg (tw @hz (tw @ht (tw @uI (tw @zt @Nat.le_refl)))))))))) ?_;(repeat(refine Pn.mk ?_;intro N hN))))
    refine .inl ⟨_,aq.x FG kO,?_⟩
    refine hN _ _ ?_
    clear hN N
    (try((repeat(revert hN;revert N;apply Pn.out));refine wk (tw @a8 (tw @a0 (tw @a1 @a7))) ?_;(repeat(refine Pn.mk ?_;intro N hN))))
    exact cN (b:=(k:Int)) (.inl rfl) (sd @Nat.zero_add) (by rw[kp,hi,if_pos fM])
 ·(try((repeat(revert hN;revert N;apply Pn.out));refine wk (tw @a8 (tw @a0 (tw @a1 (tw @a7 @hk)))) ?_;(repeat(refine Pn.mk ?_;intro N hN))))
  have hi:¬xs.findIdx p<xs.length:=by
   rw[List.findIdx_lt_length]
   rintro⟨x,hx,LY⟩
   obtain⟨j,hj,rfl⟩:=List.getElem_of_mem hx
   rw[j9 j (by omega) hj]at LY;cases LY
  exact cN (b:=-1) (.inl rfl) (sd @Nat.zero_add) (by rw[kp,if_neg hi])
theorem oz {α:Type} {e:α->List AV} {v:α->AV} {z fk gk:Nat} {a:Bool} (hE:QN e v z a) (hc:lR P fk=some (DP fk gk)) (xP:lR P gk=some (wN gk z a)) (xs:List α) (hlen:xs.length<=1048576) (f:Nat) (di:List AV) (p:α->Bool) (Jc:di.all AV.cell=true) (CX:∀g,dn g 5 di=some di)
  (hf:∀x∈xs,aq P f (v x::di) (.bool (p x))) (Jh:∀g,dn g 6 di=some di):
  aq P fk [.sl (xs.map e),.fn f di] (.bool (xs.any p)):=by
 refine aq.body hc rfl fun hl n0=>?_
 try simp only[q]
 clear hl
 have hi:=ua hE xP xs hlen f di p hf Jh
 (repeat(first|((repeat(revert hN;revert N;apply Pn.out));refine wk (tw @Jc @CX) ?_;(repeat(refine Pn.mk ?_;intro N hN)))|((try apply Or.inl);refine⟨_,aq.x (hi) (sd (tw @Jc @CX)),?_⟩;refine hN _ _ ?_;clear hN N)))
 exact bc (b:=decide (0<=kp p xs)) (.inl rfl) (sd @Nat.zero_add) (IZ p xs)
end Go.Proofs.YtgoelphibofcmaaGreat.V

namespace Go.Proofs.YtgoelphibofcmaaGreat.V
open Go.RowKit
def rX (P:Program) (mk:Bool):List Oper->Nat->List Nat
 |[],_=>[]
 |o::r,i=>match qY P o.op with
  |some v=>if qR v||mk&&v.lT then i::rX P mk r (i+1)else rX P mk r (i+1)
  |none=>rX P mk r (i+1)
def zy (P:Program) (ops:Array Oper) (site0:Nat) (mk:Bool) (bs:Array Nat) (hidden:List Nat):List Oper->Nat->Option (List br)
 |[],_=>some []
 |o::r,j=>do
  let v <-qY P o.op
  let g <-Dq ops o
  pure ({dst:=o.dst,op:=v,guard:=g,site:=site0+j,hid:=(hidden.filter fun i=> !(bs.getD j 0).testBit i&&(i !=j||mk&&v.lT)).map fun i=>site0+i}::(<-zy P ops site0 mk bs hidden r (j+1)))
def qm (P:Program) (md:List (Nat×Nat)) (fid:Nat):Code->Option VC
 | .skip=>some .skip
 | .region id ops draw=>if draw then(zy P ops ((fid*1000+id)*1000) (wS md id==1) (jI ops) (rX P (wS md id==1) ops.toList 0) ops.toList 0).map (VC.eO true)else(zy P ops ((fid*1000+id)*1000) false #[] [] ops.toList 0).map (if ops.toList.any fun o=>Nx o.op then VC.N3 else VC.eO false)
 | .seq a b=>do pure (.seq (<-qm P md fid a) (<-qm P md fid b))
 | .cond c x y=>do pure (.cond (<-cO P c) (<-qm P md fid x) (<-qm P md fid y))
 | .block id c=>(qm P md fid c).map (VC.block id)
 | .loop c=>(qm P md fid c).map VC.loop
 | .exit id=>some (.exit id)
 | .ret=>some .ret
 |_=>none
def QU (P:Program) (md:List (Nat×Nat)) (f:Nat):Option AK:=
 match P.funcs[f]? with
 |some fn=>match fn.body with
  |some c=>do
   let b <-qm P md f c
   let r <-fn.results.toList.mapM (Dr P)
   pure {ntmps:=fn.ntmps,yT:=fn.params.size+fn.nfree,body:=b,res:=r}
  |none=>none
 |none=>none
theorem cfM {P:Program} (md:List (Nat×Nat)) {f:Nat} {v:AK} (_:QU P md f=some v:=by(conv=>lhs;cbv)<;>exact rfl) (h:xL P f md=some v:=by kernel_rfl):xL P f md=some v:=h
theorem eK {P:Program} {f:Nat} {v:AK} (_:QU P [] f=some v:=by(conv=>lhs;cbv)<;>exact rfl) (h:lR P f=some v:=by kernel_rfl):lR P f=some v:=h
end Go.Proofs.YtgoelphibofcmaaGreat.V

namespace Go.Proofs.YtgoelphibofcmaaGreat.V
open Go.RowKit
def PM:AK:=⟨77,2,(.seq (.eO false [q 4 (.dv (.k .gN)) 237000000]) (.seq (.eO false [q 7 (.dv (.t 0)) 237001000,q 8 (.dv (.t 1)) 237001001,q 9 (.build [(.int .i64 0),.bE,.bE,.bE] [(0,(1,(.t 7))),(1,(1,(.t 8)))]) 237001002,q 10 (.box (.t 9)) 237001003,q 5 (.dv (.t 10)) 237001004]) (.seq (.eO false [q 11 (.dv (.t 5)) 237002000,q 12 (.dv (.t 0)) 237002001,q 13 (.j6 [.bE] (.t 12) (.t 12)) 237002002,q 14 (.AL (.t 11)) 237002003,q 15 (.gh 2 (.t 14)) 237002004,⟨none,(.store 1 (.t 15) (.t 13)),none,237002005,[]⟩]) (.seq (.eO false [q 16 (.dv (.t 5)) 237003000,q 17 (.dv (.t 1)) 237003001,q 18 (.len (.t 17)) 237003002,q 19 (.j6 [(.int .i64 0)] (.t 18) (.t 18)) 237003003,q 20 (.AL (.t 16)) 237003004,q 21 (.gh 3 (.t 20)) 237003005,⟨none,(.store 1 (.t 21) (.t 19)),none,237003006,[]⟩]) (.seq (.seq (.eO false [q 6 (.dv (.k (.int .i64 0))) 237004000]) (.block 0 (.loop (.seq (.seq (.eO false [q 22 (.dv (.t 6)) 237005000,q 23 (.dv (.t 1)) 237005001,q 24 (.len (.t 23)) 237005002,q 25 (.bin .lss .i64 (.t 22) (.t 24)) 237005003]) (.cond (.t 25) .skip (.exit 0))) (.seq (.block 1 (.seq (.one ⟨(some 28),(.dv (.t 5)),none,237007000,[237007021,237007022,237007024]⟩ (.one ⟨(some 29),(.AL (.t 28)),none,237007001,[237007021,237007022,237007024]⟩ (.one ⟨(some 30),(.gh 2 (.t 29)),none,237007002,[237007021,237007022,237007024]⟩ (.one ⟨(some 32),(.dv (.t 1)),none,237007004,[237007021,237007022,237007024]⟩ (.one ⟨(some 33),(.dv (.t 6)),none,237007005,[237007021,237007022,237007024]⟩ (.one ⟨(some 37),(.dv (.t 5)),none,237007009,[237007021,237007022,237007024]⟩ (.one ⟨(some 38),(.AL (.t 37)),none,237007010,[237007021,237007022,237007024]⟩ (.one ⟨(some 39),(.gh 2 (.t 38)),none,237007011,[237007021,237007022,237007024]⟩ (.one ⟨(some 40),(.load false 1 (.t 39)),none,237007012,[237007021,237007022,237007024]⟩ (.one ⟨(some 41),(.dv (.t 1)),none,237007013,[237007021,237007022,237007024]⟩ (.one ⟨(some 42),(.dv (.t 6)),none,237007014,[237007021,237007022,237007024]⟩ (.one ⟨(some 43),(.dS 3 (.t 41) (.t 42)),none,237007015,[237007021,237007022,237007024]⟩ (.one ⟨(some 44),(.gh 0 (.t 43)),none,237007016,[237007021,237007022,237007024]⟩ (.one ⟨(some 45),(.load false 1 (.t 44)),none,237007017,[237007021,237007022,237007024]⟩ (.one ⟨(some 46),(.dS 1 (.t 40) (.t 45)),none,237007018,[237007021,237007022,237007024]⟩ (.one ⟨(some 47),(.load false 1 (.t 46)),none,237007019,[237007021,237007022,237007024]⟩ (.one ⟨(some 48),(.dv (.t 6)),none,237007020,[237007021,237007022,237007024]⟩ (.one ⟨(some 49),(.lQ 1 1 [(.t 48)]),none,237007021,[237007022,237007024]⟩ (.both (.one ⟨(some 31),(.load false 1 (.t 30)),none,237007003,[237007021,237007022,237007024]⟩ (.both (.one ⟨(some 34),(.dS 3 (.t 32) (.t 33)),none,237007006,[237007021,237007022,237007024]⟩ (.one ⟨(some 35),(.gh 0 (.t 34)),none,237007007,[237007021,237007022,237007024]⟩ (.both (.one ⟨(some 36),(.load false 1 (.t 35)),none,237007008,[237007021,237007022,237007024]⟩ (.one ⟨(some 50),(.append 1 (.t 47) (.t 49)),none,237007022,[237007024]⟩ (.one ⟨(some 51),(.dS 1 (.t 31) (.t 36)),none,237007023,[237007024]⟩ (.one ⟨none,(.store 1 (.t 51) (.t 50)),none,237007024,[]⟩ (.eO false []))))) (.one ⟨(some 50),(.append 1 (.t 47) (.t 49)),none,237007022,[237007024]⟩ (.one ⟨(some 36),(.load false 1 (.t 35)),none,237007008,[237007021,237007022,237007024]⟩ (.one ⟨(some 51),(.dS 1 (.t 31) (.t 36)),none,237007023,[237007024]⟩ (.one ⟨none,(.store 1 (.t 51) (.t 50)),none,237007024,[]⟩ (.eO false [])))))))) (.one ⟨(some 50),(.append 1 (.t 47) (.t 49)),none,237007022,[237007024]⟩ (.one ⟨(some 34),(.dS 3 (.t 32) (.t 33)),none,237007006,[237007021,237007022,237007024]⟩ (.one ⟨(some 35),(.gh 0 (.t 34)),none,237007007,[237007021,237007022,237007024]⟩ (.one ⟨(some 36),(.load false 1 (.t 35)),none,237007008,[237007021,237007022,237007024]⟩ (.one ⟨(some 51),(.dS 1 (.t 31) (.t 36)),none,237007023,[237007024]⟩ (.one ⟨none,(.store 1 (.t 51) (.t 50)),none,237007024,[]⟩ (.eO false []))))))))) (.both (.one ⟨(some 34),(.dS 3 (.t 32) (.t 33)),none,237007006,[237007021,237007022,237007024]⟩ (.one ⟨(some 35),(.gh 0 (.t 34)),none,237007007,[237007021,237007022,237007024]⟩ (.both (.one ⟨(some 31),(.load false 1 (.t 30)),none,237007003,[237007021,237007022,237007024]⟩ (.both (.one ⟨(some 36),(.load false 1 (.t 35)),none,237007008,[237007021,237007022,237007024]⟩ (.one ⟨(some 50),(.append 1 (.t 47) (.t 49)),none,237007022,[237007024]⟩ (.one ⟨(some 51),(.dS 1 (.t 31) (.t 36)),none,237007023,[237007024]⟩ (.one ⟨none,(.store 1 (.t 51) (.t 50)),none,237007024,[]⟩ (.eO false []))))) (.one ⟨(some 50),(.append 1 (.t 47) (.t 49)),none,237007022,[237007024]⟩ (.one ⟨(some 36),(.load false 1 (.t 35)),none,237007008,[237007021,237007022,237007024]⟩ (.one ⟨(some 51),(.dS 1 (.t 31) (.t 36)),none,237007023,[237007024]⟩ (.one ⟨none,(.store 1 (.t 51) (.t 50)),none,237007024,[]⟩ (.eO false []))))))) (.both (.one ⟨(some 36),(.load false 1 (.t 35)),none,237007008,[237007021,237007022,237007024]⟩ (.both (.one ⟨(some 31),(.load false 1 (.t 30)),none,237007003,[237007021,237007022,237007024]⟩ (.one ⟨(some 50),(.append 1 (.t 47) (.t 49)),none,237007022,[237007024]⟩ (.one ⟨(some 51),(.dS 1 (.t 31) (.t 36)),none,237007023,[237007024]⟩ (.one ⟨none,(.store 1 (.t 51) (.t 50)),none,237007024,[]⟩ (.eO false []))))) (.one ⟨(some 50),(.append 1 (.t 47) (.t 49)),none,237007022,[237007024]⟩ (.one ⟨(some 31),(.load false 1 (.t 30)),none,237007003,[237007021,237007022,237007024]⟩ (.one ⟨(some 51),(.dS 1 (.t 31) (.t 36)),none,237007023,[237007024]⟩ (.one ⟨none,(.store 1 (.t 51) (.t 50)),none,237007024,[]⟩ (.eO false []))))))) (.one ⟨(some 50),(.append 1 (.t 47) (.t 49)),none,237007022,[237007024]⟩ (.one ⟨(some 31),(.load false 1 (.t 30)),none,237007003,[237007021,237007022,237007024]⟩ (.one ⟨(some 36),(.load false 1 (.t 35)),none,237007008,[237007021,237007022,237007024]⟩ (.one ⟨(some 51),(.dS 1 (.t 31) (.t 36)),none,237007023,[237007024]⟩ (.one ⟨none,(.store 1 (.t 51) (.t 50)),none,237007024,[]⟩ (.eO false [])))))))))) (.one ⟨(some 50),(.append 1 (.t 47) (.t 49)),none,237007022,[237007024]⟩ (.one ⟨(some 31),(.load false 1 (.t 30)),none,237007003,[237007021,237007022,237007024]⟩ (.one ⟨(some 34),(.dS 3 (.t 32) (.t 33)),none,237007006,[237007021,237007022,237007024]⟩ (.one ⟨(some 35),(.gh 0 (.t 34)),none,237007007,[237007021,237007022,237007024]⟩ (.one ⟨(some 36),(.load false 1 (.t 35)),none,237007008,[237007021,237007022,237007024]⟩ (.one ⟨(some 51),(.dS 1 (.t 31) (.t 36)),none,237007023,[237007024]⟩ (.one ⟨none,(.store 1 (.t 51) (.t 50)),none,237007024,[]⟩ (.eO false [])))))))))))))))))))))))))))) (.one ⟨(some 52),(.dv (.t 5)),none,237008000,[237008021,237008022,237008024]⟩ (.one ⟨(some 53),(.AL (.t 52)),none,237008001,[237008021,237008022,237008024]⟩ (.one ⟨(some 54),(.gh 2 (.t 53)),none,237008002,[237008021,237008022,237008024]⟩ (.one ⟨(some 56),(.dv (.t 1)),none,237008004,[237008021,237008022,237008024]⟩ (.one ⟨(some 57),(.dv (.t 6)),none,237008005,[237008021,237008022,237008024]⟩ (.one ⟨(some 61),(.dv (.t 5)),none,237008009,[237008021,237008022,237008024]⟩ (.one ⟨(some 62),(.AL (.t 61)),none,237008010,[237008021,237008022,237008024]⟩ (.one ⟨(some 63),(.gh 2 (.t 62)),none,237008011,[237008021,237008022,237008024]⟩ (.one ⟨(some 64),(.load false 1 (.t 63)),none,237008012,[237008021,237008022,237008024]⟩ (.one ⟨(some 65),(.dv (.t 1)),none,237008013,[237008021,237008022,237008024]⟩ (.one ⟨(some 66),(.dv (.t 6)),none,237008014,[237008021,237008022,237008024]⟩ (.one ⟨(some 67),(.dS 3 (.t 65) (.t 66)),none,237008015,[237008021,237008022,237008024]⟩ (.one ⟨(some 68),(.gh 1 (.t 67)),none,237008016,[237008021,237008022,237008024]⟩ (.one ⟨(some 69),(.load false 1 (.t 68)),none,237008017,[237008021,237008022,237008024]⟩ (.one ⟨(some 70),(.dS 1 (.t 64) (.t 69)),none,237008018,[237008021,237008022,237008024]⟩ (.one ⟨(some 71),(.load false 1 (.t 70)),none,237008019,[237008021,237008022,237008024]⟩ (.one ⟨(some 72),(.dv (.t 6)),none,237008020,[237008021,237008022,237008024]⟩ (.one ⟨(some 73),(.lQ 1 1 [(.t 72)]),none,237008021,[237008022,237008024]⟩ (.both (.one ⟨(some 55),(.load false 1 (.t 54)),none,237008003,[237008021,237008022,237008024]⟩ (.both (.one ⟨(some 58),(.dS 3 (.t 56) (.t 57)),none,237008006,[237008021,237008022,237008024]⟩ (.one ⟨(some 59),(.gh 1 (.t 58)),none,237008007,[237008021,237008022,237008024]⟩ (.both (.one ⟨(some 60),(.load false 1 (.t 59)),none,237008008,[237008021,237008022,237008024]⟩ (.one ⟨(some 74),(.append 1 (.t 71) (.t 73)),none,237008022,[237008024]⟩ (.one ⟨(some 75),(.dS 1 (.t 55) (.t 60)),none,237008023,[237008024]⟩ (.one ⟨none,(.store 1 (.t 75) (.t 74)),none,237008024,[]⟩ (.eO false []))))) (.one ⟨(some 74),(.append 1 (.t 71) (.t 73)),none,237008022,[237008024]⟩ (.one ⟨(some 60),(.load false 1 (.t 59)),none,237008008,[237008021,237008022,237008024]⟩ (.one ⟨(some 75),(.dS 1 (.t 55) (.t 60)),none,237008023,[237008024]⟩ (.one ⟨none,(.store 1 (.t 75) (.t 74)),none,237008024,[]⟩ (.eO false [])))))))) (.one ⟨(some 74),(.append 1 (.t 71) (.t 73)),none,237008022,[237008024]⟩ (.one ⟨(some 58),(.dS 3 (.t 56) (.t 57)),none,237008006,[237008021,237008022,237008024]⟩ (.one ⟨(some 59),(.gh 1 (.t 58)),none,237008007,[237008021,237008022,237008024]⟩ (.one ⟨(some 60),(.load false 1 (.t 59)),none,237008008,[237008021,237008022,237008024]⟩ (.one ⟨(some 75),(.dS 1 (.t 55) (.t 60)),none,237008023,[237008024]⟩ (.one ⟨none,(.store 1 (.t 75) (.t 74)),none,237008024,[]⟩ (.eO false []))))))))) (.both (.one ⟨(some 58),(.dS 3 (.t 56) (.t 57)),none,237008006,[237008021,237008022,237008024]⟩ (.one ⟨(some 59),(.gh 1 (.t 58)),none,237008007,[237008021,237008022,237008024]⟩ (.both (.one ⟨(some 55),(.load false 1 (.t 54)),none,237008003,[237008021,237008022,237008024]⟩ (.both (.one ⟨(some 60),(.load false 1 (.t 59)),none,237008008,[237008021,237008022,237008024]⟩ (.one ⟨(some 74),(.append 1 (.t 71) (.t 73)),none,237008022,[237008024]⟩ (.one ⟨(some 75),(.dS 1 (.t 55) (.t 60)),none,237008023,[237008024]⟩ (.one ⟨none,(.store 1 (.t 75) (.t 74)),none,237008024,[]⟩ (.eO false []))))) (.one ⟨(some 74),(.append 1 (.t 71) (.t 73)),none,237008022,[237008024]⟩ (.one ⟨(some 60),(.load false 1 (.t 59)),none,237008008,[237008021,237008022,237008024]⟩ (.one ⟨(some 75),(.dS 1 (.t 55) (.t 60)),none,237008023,[237008024]⟩ (.one ⟨none,(.store 1 (.t 75) (.t 74)),none,237008024,[]⟩ (.eO false []))))))) (.both (.one ⟨(some 60),(.load false 1 (.t 59)),none,237008008,[237008021,237008022,237008024]⟩ (.both (.one ⟨(some 55),(.load false 1 (.t 54)),none,237008003,[237008021,237008022,237008024]⟩ (.one ⟨(some 74),(.append 1 (.t 71) (.t 73)),none,237008022,[237008024]⟩ (.one ⟨(some 75),(.dS 1 (.t 55) (.t 60)),none,237008023,[237008024]⟩ (.one ⟨none,(.store 1 (.t 75) (.t 74)),none,237008024,[]⟩ (.eO false []))))) (.one ⟨(some 74),(.append 1 (.t 71) (.t 73)),none,237008022,[237008024]⟩ (.one ⟨(some 55),(.load false 1 (.t 54)),none,237008003,[237008021,237008022,237008024]⟩ (.one ⟨(some 75),(.dS 1 (.t 55) (.t 60)),none,237008023,[237008024]⟩ (.one ⟨none,(.store 1 (.t 75) (.t 74)),none,237008024,[]⟩ (.eO false []))))))) (.one ⟨(some 74),(.append 1 (.t 71) (.t 73)),none,237008022,[237008024]⟩ (.one ⟨(some 55),(.load false 1 (.t 54)),none,237008003,[237008021,237008022,237008024]⟩ (.one ⟨(some 60),(.load false 1 (.t 59)),none,237008008,[237008021,237008022,237008024]⟩ (.one ⟨(some 75),(.dS 1 (.t 55) (.t 60)),none,237008023,[237008024]⟩ (.one ⟨none,(.store 1 (.t 75) (.t 74)),none,237008024,[]⟩ (.eO false [])))))))))) (.one ⟨(some 74),(.append 1 (.t 71) (.t 73)),none,237008022,[237008024]⟩ (.one ⟨(some 55),(.load false 1 (.t 54)),none,237008003,[237008021,237008022,237008024]⟩ (.one ⟨(some 58),(.dS 3 (.t 56) (.t 57)),none,237008006,[237008021,237008022,237008024]⟩ (.one ⟨(some 59),(.gh 1 (.t 58)),none,237008007,[237008021,237008022,237008024]⟩ (.one ⟨(some 60),(.load false 1 (.t 59)),none,237008008,[237008021,237008022,237008024]⟩ (.one ⟨(some 75),(.dS 1 (.t 55) (.t 60)),none,237008023,[237008024]⟩ (.one ⟨none,(.store 1 (.t 75) (.t 74)),none,237008024,[]⟩ (.eO false [])))))))))))))))))))))))))))))) (.eO false [q 26 (.dv (.t 6)) 237006000,q 27 (.bin .add .i64 (.t 26) (.k (.int .i64 1))) 237006001,q 6 (.dv (.t 27)) 237006002])))))) (.seq (.eO false [q 76 (.dv (.t 5)) 237009000,q 4 (.dv (.t 76)) 237009001]) .ret)))))),[(.tmp 4)]⟩
theorem N1:xL Tryz.prog 237 [(7,2),(8,2)]=some PM:=by kernel_rfl
def PN:AK:=⟨118,2,(.seq (.eO false [q 4 (.dv (.k .bE)) 240000000]) (.seq (.eO false [q 17 (.dv (.t 0)) 240001000,q 18 (.j6 [.gN] (.t 17) (.t 17)) 240001001,q 5 (.dv (.t 18)) 240001002]) (.seq (.seq (.eO false [q 19 (.dv (.t 5)) 240002000,q 20 (.len (.t 19)) 240002001,q 21 (.dv (.k (.int .i64 0))) 240002002]) (.block 0 (.loop (.seq (.eO false [q 22 (.bin .lss .i64 (.t 21) (.t 20)) 240003000]) (.seq (.cond (.t 22) .skip (.exit 0)) (.seq (.block 1 (.seq (.eO false [q 23 (.dv (.t 21)) 240004000,q 6 (.dv (.t 23)) 240004001]) (.eO false [q 24 (.dv (.t 5)) 240005000,q 25 (.dv (.t 6)) 240005001,q 26 (.dv (.t 6)) 240005002,q 27 (.build [.gN,(.int .i64 0)] [(1,(1,(.t 26)))]) 240005003,q 28 (.box (.t 27)) 240005004,q 29 (.dS 1 (.t 24) (.t 25)) 240005005,⟨none,(.store 1 (.t 29) (.t 28)),none,240005006,[]⟩]))) (.eO false [q 30 (.bin .add .i64 (.t 21) (.k (.int .i64 1))) 240006000,q 21 (.dv (.t 30)) 240006001]))))))) (.seq (.seq (.eO false [q 31 (.dv (.t 1)) 240007000,q 32 (.len (.t 31)) 240007001,q 33 (.dv (.k (.int .i64 0))) 240007002]) (.block 2 (.loop (.seq (.eO false [q 34 (.bin .lss .i64 (.t 33) (.t 32)) 240008000]) (.seq (.cond (.t 34) .skip (.exit 2)) (.seq (.block 3 (.seq (.eO false [q 35 (.dS 3 (.t 31) (.t 33)) 240009000,q 36 (.load true 3 (.t 35)) 240009001,q 8 (.new [(.int .i64 0),(.int .i64 0),(.int .i64 0)]) 240009002,⟨none,(.store 3 (.t 8) (.t 36)),none,240009003,[]⟩]) (.seq (.one (q 37 (.dv (.t 5)) 240010000) (.one (q 38 (.gh 0 (.t 8)) 240010001) (.one (q 39 (.load false 1 (.t 38)) 240010002) (.one (q 40 (.dS 1 (.t 37) (.t 39)) 240010003) (.one (q 41 (.load false 1 (.t 40)) 240010004) (.one (q 43 (.dv (.t 5)) 240010006) (.one (q 44 (.gh 1 (.t 8)) 240010007) (.both (.one (q 42 (.call 262 [(.t 41)]) 240010005) (.one (q 45 (.load false 1 (.t 44)) 240010008) (.one (q 46 (.dS 1 (.t 43) (.t 45)) 240010009) (.one (q 47 (.load false 1 (.t 46)) 240010010) (.one (q 48 (.call 262 [(.t 47)]) 240010011) (.one (q 9 (.dv (.t 42)) 240010012) (.one (q 10 (.dv (.t 48)) 240010013) (.eO false [])))))))) (.one (q 45 (.load false 1 (.t 44)) 240010008) (.both (.one (q 42 (.call 262 [(.t 41)]) 240010005) (.one (q 46 (.dS 1 (.t 43) (.t 45)) 240010009) (.one (q 47 (.load false 1 (.t 46)) 240010010) (.one (q 48 (.call 262 [(.t 47)]) 240010011) (.one (q 9 (.dv (.t 42)) 240010012) (.one (q 10 (.dv (.t 48)) 240010013) (.eO false []))))))) (.one (q 46 (.dS 1 (.t 43) (.t 45)) 240010009) (.both (.one (q 42 (.call 262 [(.t 41)]) 240010005) (.one (q 47 (.load false 1 (.t 46)) 240010010) (.one (q 48 (.call 262 [(.t 47)]) 240010011) (.one (q 9 (.dv (.t 42)) 240010012) (.one (q 10 (.dv (.t 48)) 240010013) (.eO false [])))))) (.one (q 47 (.load false 1 (.t 46)) 240010010) (.one (q 42 (.call 262 [(.t 41)]) 240010005) (.one (q 48 (.call 262 [(.t 47)]) 240010011) (.one (q 9 (.dv (.t 42)) 240010012) (.one (q 10 (.dv (.t 48)) 240010013) (.eO false [])))))))))))))))))) (.block 4 (.seq (.eO true [q 50 (.dv (.t 9)) 240011000,q 51 (.AL (.t 50)) 240011001,q 52 (.gh 1 (.t 51)) 240011002,q 53 (.load false 1 (.t 52)) 240011003,q 54 (.dv (.t 10)) 240011004,q 55 (.AL (.t 54)) 240011005,q 56 (.gh 1 (.t 55)) 240011006,q 57 (.load false 1 (.t 56)) 240011007,q 58 (.bin .lss .i64 (.t 53) (.t 57)) 240011008,q 49 (.dv (.t 58)) 240011009]) (.cond (.t 49) (.eO false [q 59 (.dv (.t 10)) 240012000,q 60 (.dv (.t 9)) 240012001,q 61 (.AL (.t 59)) 240012002,q 62 (.gh 0 (.t 61)) 240012003,⟨none,(.store 1 (.t 62) (.t 60)),none,240012004,[]⟩]) (.seq (.eO true [q 64 (.dv (.t 10)) 240013000,q 65 (.AL (.t 64)) 240013001,q 66 (.gh 1 (.t 65)) 240013002,q 67 (.load false 1 (.t 66)) 240013003,q 68 (.dv (.t 9)) 240013004,q 69 (.AL (.t 68)) 240013005,q 70 (.gh 1 (.t 69)) 240013006,q 71 (.load false 1 (.t 70)) 240013007,q 72 (.bin .lss .i64 (.t 67) (.t 71)) 240013008,q 63 (.dv (.t 72)) 240013009]) (.cond (.t 63) (.eO false [q 73 (.dv (.t 9)) 240014000,q 74 (.dv (.t 10)) 240014001,q 75 (.AL (.t 73)) 240014002,q 76 (.gh 0 (.t 75)) 240014003,⟨none,(.store 1 (.t 76) (.t 74)),none,240014004,[]⟩]) .skip)))))))) (.eO false [q 77 (.bin .add .i64 (.t 33) (.k (.int .i64 1))) 240015000,q 33 (.dv (.t 77)) 240015001]))))))) (.seq (.eO false [q 11 (.dv (.k .bE)) 240016000]) (.seq (.eO false [⟨(some 78),(.mq (.new ⟨false,[.tI]⟩) []),none,240017000,[]⟩,q 12 (.dv (.t 78)) 240017001]) (.seq (.seq (.eO false [q 79 (.dv (.t 5)) 240018000,q 80 (.len (.t 79)) 240018001,q 81 (.dv (.k (.int .i64 0))) 240018002]) (.block 5 (.loop (.seq (.eO false [q 82 (.bin .lss .i64 (.t 81) (.t 80)) 240019000]) (.seq (.cond (.t 82) .skip (.exit 5)) (.seq (.block 6 (.seq (.eO false [q 83 (.dv (.t 81)) 240020000,q 84 (.dS 1 (.t 79) (.t 81)) 240020001,q 85 (.load false 1 (.t 84)) 240020002,q 13 (.dv (.t 83)) 240020003,q 14 (.dv (.t 85)) 240020004]) (.seq (.eO false [q 87 (.dv (.t 12)) 240021000,q 88 (.dv (.t 14)) 240021001,q 89 (.call 262 [(.t 88)]) 240021002,q 90 (.AL (.t 89)) 240021003,q 91 (.gh 1 (.t 90)) 240021004,q 92 (.load false 1 (.t 91)) 240021005,⟨(some 93),(.mq (.look ⟨false,[.tI]⟩ true (.int .i64 0)) [(.t 87),(.t 92)]),none,240021006,[]⟩,q 86 (.dv (.t 93)) 240021007,q 94 (.extract 0 (.t 86)) 240021008,q 95 (.extract 1 (.t 86)) 240021009,q 15 (.dv (.t 94)) 240021010,q 16 (.dv (.t 95)) 240021011]) (.seq (.seq (.eO false [q 96 (.dv (.t 16)) 240022000,q 97 (.not (.t 96)) 240022001]) (.cond (.t 97) (.seq (.eO false [q 98 (.dv (.t 11)) 240023000,q 99 (.len (.t 98)) 240023001,q 15 (.dv (.t 99)) 240023002]) (.seq (.eO false [q 100 (.dv (.t 12)) 240024000,q 101 (.dv (.t 13)) 240024001,q 102 (.dv (.t 15)) 240024002,⟨none,(.mw (.set ⟨false,[.tI]⟩) [(.t 100),(.t 101),(.t 102)]),none,240024003,[]⟩]) (.eO false [q 103 (.dv (.t 11)) 240025000,q 104 (.lQ 1 1 [(.k .bE)]) 240025001,q 105 (.append 1 (.t 103) (.t 104)) 240025002,q 11 (.dv (.t 105)) 240025003]))) .skip)) (.eO false [q 106 (.dv (.t 11)) 240026000,q 107 (.dv (.t 15)) 240026001,q 108 (.dv (.t 11)) 240026002,q 109 (.dv (.t 15)) 240026003,q 110 (.dS 1 (.t 108) (.t 109)) 240026004,q 111 (.load false 1 (.t 110)) 240026005,q 112 (.dv (.t 13)) 240026006,q 113 (.lQ 1 1 [(.t 112)]) 240026007,q 114 (.append 1 (.t 111) (.t 113)) 240026008,q 115 (.dS 1 (.t 106) (.t 107)) 240026009,⟨none,(.store 1 (.t 115) (.t 114)),none,240026010,[]⟩]))))) (.eO false [q 116 (.bin .add .i64 (.t 81) (.k (.int .i64 1))) 240027000,q 81 (.dv (.t 116)) 240027001]))))))) (.seq (.eO false [q 117 (.dv (.t 11)) 240028000,q 4 (.dv (.t 117)) 240028001]) .ret)))))))),[(.tmp 4)]⟩
theorem N2:xL Tryz.prog 240 [(10,2)]=some PN:=by kernel_rfl
end Go.Proofs.YtgoelphibofcmaaGreat.V

namespace Go.Proofs.YtgoelphibofcmaaGreat.V
open Go.RowKit
attribute [local irreducible] dO wpOps gy Call
attribute [local go_sem] aT fK eS ga fZ dj upd cF K.av cP AV.cells AV.cell rowOf rowsOf part ld rowAt bL cD dG ef ik bV de ew fW fe dw ek dc db dU dV cj bl cU b4 cW cV ei eo ej cR cm dd eh bW aV cZ cI ij bx cK ck bd du bj dI AV.undef bH bS dW eb dQ dP cJ ev eE cH er ep cY da List.getD_cons_zero List.getD_cons_succ List.getD_nil List.all_cons List.all_nil Bool.and_true Bool.true_and Bool.and_self Bool.not_true Bool.not_false Option.map_some Option.map_none Option.bind_some Option.bind_none List.length_cons List.length_nil List.take_succ_cons List.take_zero List.take_nil List.drop_succ_cons List.drop_zero List.drop_nil List.head?_cons List.map_cons List.map_nil List.getElem?_cons_zero List.getElem?_cons_succ List.cons_append List.nil_append List.append_nil List.length_map List.set_cons_zero List.set_cons_succ Nat.reduceMul eq_self Int.toNat_natCast Int.natCast_nonneg and_self true_and and_true decide_true decide_false Bool.false_eq_true Nat.zero_add Nat.add_zero List.contains_cons List.contains_nil Bool.or_false Bool.false_or beq_self_eq_true Nat.reduceBEq ne_eq not_true_eq_false not_false_eq_true Id.mk.injEq false_and and_false Nat.reduceLT Int.reduceLE Int.reduceLT Int.reduceToNat Int.reduceNeg Int.reduceAdd Nat.le_refl List.length_append beq_true beq_false Bool.not_eq_eq_eq_not or_false false_or dR ae aj aI bq bG cC aY bh aW bp cQ bJ
theorem By (x:fG) (g:Rows):dn g 6 [.agg (bR x)]=some [.agg (bR x)]:=by simp[bR,ae,aj,bh,bG,aI]
theorem Bz (x:eZ) (g:Rows):dn g 6 [.agg (bB x)]=some [.agg (bB x)]:=by simp[bB,ae,aj,bh,bG,cC]
theorem wz (x:ad) (g:Rows):dn g 6 [.agg (aa x)]=some [.agg (aa x)]:=by simp[aa,ae,aj,bh,aI]
theorem iK {n:Nat} {l:Int} (h:(n:Int)<=l):xE n l=l-n:=if_pos h
theorem iP {n:Nat} {l:Int} (h:¬(n:Int)<=l):xE n l= -1:=if_neg h
def kE (t:eZ):Nat:=t.aM.size+t.bD.length
def uH (s:aw):Nat:=(s.ax.length+(s.ax.map fun g=>g.aM.size).sum)+(s.ai.length+(s.ai.map kE).sum)
def xu (s:az):Nat:=uH s.aH+s.bf.ai.length
def gn (s:aw):Prop:=(∀g∈s.ax,g.aM.size<=9223372036854775807)/\∀t∈s.ai,t.aM.size<=9223372036854775807
theorem Ku (g:fG) (l:Int) (h0:0<=l) (h1:l<=1048576) (hs:g.aM.size<=9223372036854775807):aq Tryz.prog 154 [.agg (bR g),.int .i64 l] (.int .i64 (xE g.aM.size l)):=by
 refine aq.body eK rfl fun hl n0=>?_
 clear hl
 have hw:IntKind.i64.wrap (l-(g.aM.size:Int))=l-g.aM.size:=bI (by omega)
 by_cases hf:(g.aM.size:Int)<=l
 ·have kG:¬l-(g.aM.size:Int)<0:=by omega
  (try((repeat(revert hN;revert N;apply Pn.out));refine wk (tw @bR.eq_1 (tw @hw @kG)) ?_;(repeat(refine Pn.mk ?_;intro N hN))))
  exact cN (b:=l-(g.aM.size:Int)) (.inl rfl) (sd @Nat.zero_add) (iK hf).symm
 ·have kG:l-(g.aM.size:Int)<0:=by omega
  (try((repeat(revert hN;revert N;apply Pn.out));refine wk (tw @bR.eq_1 (tw @hw @kG)) ?_;(repeat(refine Pn.mk ?_;intro N hN))))
  exact cN (b:=-1) (.inl rfl) (sd @Nat.zero_add) (iP hf).symm
theorem Kv (xs:List Int) (l:Int) (h0:0<=l) (h1:l<=1048576):aq Tryz.prog 188 [.sl (xs.map aE),.int .i64 l] (.int .i64 (xE xs.length l)):=by
 have h:=EY (show lR Tryz.prog 188=some (F7 188) by kernel_rfl) (xs.map aE) l h0 h1
 rwa [List.length_map]at h
theorem Kz (t:eZ) (l:Int) (h0:0<=l) (h1:l<=1048576) (hs:t.aM.size<=9223372036854775807):aq Tryz.prog 155 [.agg (bB t),.int .i64 l] (.int .i64 (xE (kE t) l)):=by
 refine aq.body eK rfl fun hl n0=>?_
 clear hl
 have hw:IntKind.i64.wrap (l-(t.aM.size:Int))=l-t.aM.size:=bI (by omega)
 by_cases hf:(t.aM.size:Int)<=l
 ·have kG:¬l-(t.aM.size:Int)<0:=by omega
  have hc:=Kv t.bD (l-t.aM.size) (by omega) (by omega)
  by_cases hg:(t.bD.length:Int)<=l-t.aM.size
  ·rw[iK hg]at hc
   have FC:¬l-(t.aM.size:Int)-(t.bD.length:Int)<0:=by omega
   (repeat(first|((repeat(revert hN;revert N;apply Pn.out));refine wk (tw @bB.eq_1 (tw @hw (tw @kG @FC))) ?_;(repeat(refine Pn.mk ?_;intro N hN)))|((try apply Or.inl);refine⟨_,aq.x (hc) (sd (tw @bB.eq_1 (tw @hw (tw @kG @FC)))),?_⟩;refine hN _ _ ?_;clear hN N)))
   exact cN (b:=l-(t.aM.size:Int)-(t.bD.length:Int)) (.inl rfl) (sd @Nat.zero_add) (by rw[iK (by unfold kE;omega)];unfold kE;omega)
  ·rw[iP hg]at hc
   (repeat(first|((repeat(revert hN;revert N;apply Pn.out));refine wk (tw @bB.eq_1 (tw @hw @kG)) ?_;(repeat(refine Pn.mk ?_;intro N hN)))|((try apply Or.inl);refine⟨_,aq.x (hc) (sd (tw @bB.eq_1 (tw @hw @kG))),?_⟩;refine hN _ _ ?_;clear hN N)))
   exact cN (b:=-1) (.inl rfl) (sd @Nat.zero_add) (iP (by unfold kE;omega)).symm
 ·have kG:l-(t.aM.size:Int)<0:=by omega
  (try((repeat(revert hN;revert N;apply Pn.out));refine wk (tw @bB.eq_1 (tw @hw @kG)) ?_;(repeat(refine Pn.mk ?_;intro N hN))))
  exact cN (b:=-1) (.inl rfl) (sd @Nat.zero_add) (iP (by unfold kE;omega)).symm
theorem HG (xs:List fG) (l:Int) (h0:0<=l) (h1:l<=1048576) (hs:∀g∈xs,g.aM.size<=9223372036854775807):aq Tryz.prog 94 [.sl (xs.map bR),.int .i64 l] (.int .i64 (xE (xs.length+(xs.map fun g=>g.aM.size).sum) l)):=
 Ky (fun g:fG=>g.aM.size) (show lR Tryz.prog 94=some (Kx 94 154 2) by kernel_rfl) (fun _=>rfl) By xs l h0 h1 fun x hx l a b=>Ku x l a b (hs x hx)
theorem HH (xs:List eZ) (l:Int) (h0:0<=l) (h1:l<=1048576) (hs:∀t∈xs,t.aM.size<=9223372036854775807):aq Tryz.prog 95 [.sl (xs.map bB),.int .i64 l] (.int .i64 (xE (xs.length+(xs.map kE).sum) l)):=
 Ky kE (show lR Tryz.prog 95=some (Kx 95 155 2) by kernel_rfl) (fun _=>rfl) Bz xs l h0 h1 fun x hx l a b=>Kz x l a b (hs x hx)
theorem EX (xs:List ad) (l:Int) (h0:0<=l) (h1:l<=1048576):aq Tryz.prog 57 [.sl (xs.map aa),.int .i64 l] (.int .i64 (xE xs.length l)):=by
 have h:=EY (show lR Tryz.prog 57=some (F7 57) by kernel_rfl) (xs.map aa) l h0 h1
 rwa [List.length_map]at h
theorem CG (s:aw) (l:Int) (h0:0<=l) (h1:l<=1048576) (hs:gn s):aq Tryz.prog 56 [.agg (ab s),.int .i64 l] (.int .i64 (xE (uH s) l)):=by
 refine aq.body eK rfl fun hl n0=>?_
 clear hl
 have ha:=HG s.ax l h0 h1 hs.1
 have he:uH s=(s.ax.length+(s.ax.map fun g=>g.aM.size).sum)+(s.ai.length+(s.ai.map kE).sum):=rfl
 by_cases hf:((s.ax.length+(s.ax.map fun g=>g.aM.size).sum:Nat):Int)<=l
 ·rw[iK hf]at ha
  obtain⟨A,hA⟩:∃A:Int,A=l-((s.ax.length+(s.ax.map fun g=>g.aM.size).sum:Nat):Int):=⟨_,rfl⟩
  rw[<-hA]at ha
  have kG:¬A<0:=by omega
  have hb:=HH s.ai A (by omega) (by omega) hs.2
  by_cases hg:((s.ai.length+(s.ai.map kE).sum:Nat):Int)<=A
  ·rw[iK hg]at hb
   obtain⟨B,hB⟩:∃B:Int,B=A-((s.ai.length+(s.ai.map kE).sum:Nat):Int):=⟨_,rfl⟩
   rw[<-hB]at hb
   have FC:¬B<0:=by omega
   (repeat(first|((repeat(revert hN;revert N;apply Pn.out));refine wk (tw @ab.eq_1 (tw @kG @FC)) ?_;(repeat(refine Pn.mk ?_;intro N hN)))|((try apply Or.inl);refine⟨_,aq.x (ha) (sd (tw @ab.eq_1 (tw @kG @FC))),?_⟩;refine hN _ _ ?_;clear hN N)|((try apply Or.inl);refine⟨_,aq.x (hb) (sd (tw @ab.eq_1 (tw @kG @FC))),?_⟩;refine hN _ _ ?_;clear hN N)))
   exact cN (b:=B) (.inl rfl) (sd @Nat.zero_add) (by rw[iK (by omega)];omega)
  ·rw[iP hg]at hb
   (repeat(first|((repeat(revert hN;revert N;apply Pn.out));refine wk (tw @ab.eq_1 @kG) ?_;(repeat(refine Pn.mk ?_;intro N hN)))|((try apply Or.inl);refine⟨_,aq.x (ha) (sd (tw @ab.eq_1 @kG)),?_⟩;refine hN _ _ ?_;clear hN N)|((try apply Or.inl);refine⟨_,aq.x (hb) (sd (tw @ab.eq_1 @kG)),?_⟩;refine hN _ _ ?_;clear hN N)))
   exact cN (b:=-1) (.inl rfl) (sd @Nat.zero_add) (iP (by omega)).symm
 ·rw[iP hf]at ha
  (repeat(first|((repeat(revert hN;revert N;apply Pn.out));refine wk @ab.eq_1 ?_;(repeat(refine Pn.mk ?_;intro N hN)))|((try apply Or.inl);refine⟨_,aq.x (ha) (sd @ab.eq_1),?_⟩;refine hN _ _ ?_;clear hN N)))
  exact cN (b:=-1) (.inl rfl) (sd @Nat.zero_add) (iP (by omega)).symm
theorem Aq (a:gz) (l:Int) (h0:0<=l) (h1:l<=1048576):aq Tryz.prog 15 [.agg (dJ a),.int .i64 l] (.int .i64 (xE a.ai.length l)):=by
 refine aq.body eK rfl fun hl n0=>?_
 clear hl
 have ha:=EX a.ai l h0 h1
 by_cases hf:(a.ai.length:Int)<=l
 ·rw[iK hf]at ha
  have kG:¬l-(a.ai.length:Int)<0:=by omega
  (repeat(first|((repeat(revert hN;revert N;apply Pn.out));refine wk (tw @dJ.eq_1 @kG) ?_;(repeat(refine Pn.mk ?_;intro N hN)))|((try apply Or.inl);refine⟨_,aq.x (ha) (sd (tw @dJ.eq_1 @kG)),?_⟩;refine hN _ _ ?_;clear hN N)))
  exact cN (b:=l-(a.ai.length:Int)) (.inl rfl) (sd @Nat.zero_add) (iK hf).symm
 ·rw[iP hf]at ha
  (repeat(first|((repeat(revert hN;revert N;apply Pn.out));refine wk @dJ.eq_1 ?_;(repeat(refine Pn.mk ?_;intro N hN)))|((try apply Or.inl);refine⟨_,aq.x (ha) (sd @dJ.eq_1),?_⟩;refine hN _ _ ?_;clear hN N)))
  exact cN (b:=-1) (.inl rfl) (sd @Nat.zero_add) (iP hf).symm
theorem EZ (s:az) (l:Int) (h0:0<=l) (h1:l<=1048576) (hs:gn s.aH):aq Tryz.prog 14 [.agg (au s),.int .i64 l] (.int .i64 (xE (xu s) l)):=by
 refine aq.body eK rfl fun hl n0=>?_
 clear hl
 have ha:=CG s.aH l h0 h1 hs
 rw[ab]at ha
 have he:xu s=uH s.aH+s.bf.ai.length:=rfl
 by_cases hf:(uH s.aH:Int)<=l
 ·rw[iK hf]at ha
  have kG:¬l-(uH s.aH:Int)<0:=by omega
  have hb:=Aq s.bf (l-uH s.aH) (by omega) (by omega)
  rw[dJ]at hb
  by_cases hg:(s.bf.ai.length:Int)<=l-uH s.aH
  ·rw[iK hg]at hb
   have FC:¬l-(uH s.aH:Int)-(s.bf.ai.length:Int)<0:=by omega
   (repeat(first|((repeat(revert hN;revert N;apply Pn.out));refine wk (tw @au.eq_1 (tw @kG @FC)) ?_;(repeat(refine Pn.mk ?_;intro N hN)))|((try apply Or.inl);refine⟨_,aq.x (ha) (sd (tw @au.eq_1 (tw @kG @FC))),?_⟩;refine hN _ _ ?_;clear hN N)|((try apply Or.inl);refine⟨_,aq.x (hb) (sd (tw @au.eq_1 (tw @kG @FC))),?_⟩;refine hN _ _ ?_;clear hN N)))
   exact cN (b:=l-(uH s.aH:Int)-(s.bf.ai.length:Int)) (.inl rfl) (sd @Nat.zero_add) (by rw[iK (by omega)];omega)
  ·rw[iP hg]at hb
   (repeat(first|((repeat(revert hN;revert N;apply Pn.out));refine wk (tw @au.eq_1 @kG) ?_;(repeat(refine Pn.mk ?_;intro N hN)))|((try apply Or.inl);refine⟨_,aq.x (ha) (sd (tw @au.eq_1 @kG)),?_⟩;refine hN _ _ ?_;clear hN N)|((try apply Or.inl);refine⟨_,aq.x (hb) (sd (tw @au.eq_1 @kG)),?_⟩;refine hN _ _ ?_;clear hN N)))
   exact cN (b:=-1) (.inl rfl) (sd @Nat.zero_add) (iP (by omega)).symm
 ·rw[iP hf]at ha
  (repeat(first|((repeat(revert hN;revert N;apply Pn.out));refine wk @au.eq_1 ?_;(repeat(refine Pn.mk ?_;intro N hN)))|((try apply Or.inl);refine⟨_,aq.x (ha) (sd @au.eq_1),?_⟩;refine hN _ _ ?_;clear hN N)))
  exact cN (b:=-1) (.inl rfl) (sd @Nat.zero_add) (iP (by omega)).symm
end Go.Proofs.YtgoelphibofcmaaGreat.V

namespace Go.Proofs.YtgoelphibofcmaaGreat.V
open Go.RowKit
attribute [local irreducible] dO wpOps gy Call
attribute [local go_sem] aT fK eS ga fZ dj upd cF K.av cP AV.cells AV.cell rowOf rowsOf part ld rowAt bL cD dG ef ik bV de ew fW fe dw ek dc db dU dV cj bl cU b4 cW cV ei eo ej cR cm dd eh bW aV cZ cI ij bx cK ck bd du bj dI AV.undef bH bS dW eb dQ dP cJ ev eE cH er ep cY da List.getD_cons_zero List.getD_cons_succ List.getD_nil List.all_cons List.all_nil Bool.and_true Bool.true_and Bool.and_self Bool.not_true Bool.not_false Option.map_some Option.map_none Option.bind_some Option.bind_none List.length_cons List.length_nil List.take_succ_cons List.take_zero List.take_nil List.drop_succ_cons List.drop_zero List.drop_nil List.head?_cons List.map_cons List.map_nil List.getElem?_cons_zero List.getElem?_cons_succ List.cons_append List.nil_append List.append_nil List.length_map List.set_cons_zero List.set_cons_succ Nat.reduceMul eq_self Int.toNat_natCast Int.natCast_nonneg and_self true_and and_true decide_true decide_false Bool.false_eq_true Nat.zero_add Nat.add_zero List.contains_cons List.contains_nil Bool.or_false Bool.false_or beq_self_eq_true Nat.reduceBEq ne_eq not_true_eq_false not_false_eq_true Id.mk.injEq false_and and_false Nat.reduceLT Int.reduceLE Int.reduceLT Int.reduceToNat Int.reduceNeg Int.reduceAdd Nat.le_refl List.length_append beq_true beq_false Bool.not_eq_eq_eq_not or_false false_or dR ae aj aI bq bG cC aY bh aW bp cQ bJ
theorem Mz (x:fG) (g:Rows):dn g 5 (bR x)=some (bR x):=by simp[bR,ae,aj,bG,aI]
theorem MA (x:eZ) (g:Rows):dn g 5 (bB x)=some (bB x):=by simp[bB,ae,aj,bG,cC]
theorem y8 (x:ad) (g:Rows):dn g 5 (aa x)=some (aa x):=by simp[aa,ae,aj,aI]
theorem pP (p:aL):jq Tryz.prog 82 [.agg (ah p)] (.agg (ah p)):=by
 refine jq.body eK rfl fun hl σ=>?_
 clear hl
 (try((repeat(revert hN;revert N;apply Pn.out));refine wk @ah.eq_1 ?_;(repeat(refine Pn.mk ?_;intro N hN))))
 exact tt (.inl rfl) (vs:=[.agg (ah p)]) (by simp only[go_sem, ↓reduceIte,Nat.reduceEqDiff,Nat.reduceAdd,Nat.reduceSub,Nat.reduceLeDiff,reduceCtorEq,fx,iw,ah]) (by simp[eY,ah,bh,ae,aj,aI])
theorem E7 (p:ad):jq Tryz.prog 104 [.agg (aa p)] (.agg (aa p)):=by
 refine jq.body eK rfl fun hl σ=>?_
 clear hl
 have h:=pP p.aQ
 rw[ah]at h
 (repeat(first|((repeat(revert hN;revert N;apply Pn.out));refine wk @aa.eq_1 ?_;(repeat(refine Pn.mk ?_;intro N hN)))|((try apply Or.inl);refine⟨_,jq.x (h) _,?_⟩;refine hN _ _ ?_;clear hN N)))
 exact tt (.inl rfl) (vs:=[.agg (aa p)]) (by simp only[go_sem, ↓reduceIte,Nat.reduceEqDiff,Nat.reduceAdd,Nat.reduceSub,Nat.reduceLeDiff,reduceCtorEq,fx,iw,aa]) (by simp[eY,aa,bh,ae,aj,aI])
theorem KF (p:fG):jq Tryz.prog 161 [.agg (bR p)] (.agg (bR p)):=by
 refine jq.body eK rfl fun hl σ=>?_
 clear hl
 (try((repeat(revert hN;revert N;apply Pn.out));refine wk @bR.eq_1 ?_;(repeat(refine Pn.mk ?_;intro N hN))))
 exact tt (.inl rfl) (vs:=[.agg (bR p)]) (by simp only[go_sem, ↓reduceIte,Nat.reduceEqDiff,Nat.reduceAdd,Nat.reduceSub,Nat.reduceLeDiff,reduceCtorEq,fx,iw,bR]) (by simp[eY,bR,bh,ae,aj,aI,bG])
theorem KH (xs:List Int) (h:xs.length<=1048576):jq Tryz.prog 195 [.sl (xs.map aE)] (.sl (xs.map aE)):=
 Ss (show lR Tryz.prog 195=some (KK 195 (.int .i64 0)) by kernel_rfl) xs h
def sP (t:eZ):Prop:=t.bD.length<=1048576
theorem KM (p:eZ) (hs:sP p):jq Tryz.prog 162 [.agg (bB p)] (.agg (bB p)):=by
 refine jq.body eK rfl fun hl σ=>?_
 clear hl
 have h:=KH p.bD hs
 (repeat(first|((repeat(revert hN;revert N;apply Pn.out));refine wk @bB.eq_1 ?_;(repeat(refine Pn.mk ?_;intro N hN)))|((try apply Or.inl);refine⟨_,jq.x (h) _,?_⟩;refine hN _ _ ?_;clear hN N)))
 exact tt (.inl rfl) (vs:=[.agg (bB p)]) (by simp only[go_sem, ↓reduceIte,Nat.reduceEqDiff,Nat.reduceAdd,Nat.reduceSub,Nat.reduceLeDiff,reduceCtorEq,fx,iw,bB]) (by simp[eY,bB,bh,ae,aj,cC,bG])
theorem Bm (xs ys:List Int):aq Tryz.prog 30 [.sl (xs.map aE),.sl (ys.map aE)] (.bool (decide (xs=ys))):=
 Q2 (show lR Tryz.prog 30=some (M7 30 .tI) by kernel_rfl) xs ys
theorem IX (a b:eZ):aq Tryz.prog 170 [.agg (bB a),.agg (bB b)] (.bool (decide (a=b))):=by
 refine aq.body eK rfl fun hl n0=>?_
 clear hl
 have h:=Bm a.bD b.bD
 by_cases h1:a.aM=b.aM
 ·have e1:decide (a.aM=b.aM)=true:=decide_eq_true h1
  by_cases h2:a.bD=b.bD
  ·rw[decide_eq_true h2]at h
   (repeat(first|((repeat(revert hN;revert N;apply Pn.out));refine wk (tw @bB.eq_1 @e1) ?_;(repeat(refine Pn.mk ?_;intro N hN)))|((try apply Or.inl);refine⟨_,aq.x (h) (sd (tw @bB.eq_1 @e1)),?_⟩;refine hN _ _ ?_;clear hN N)))
   exact bc (b:=true) (.inl rfl) (sd @Nat.zero_add) (decide_eq_true (by cases a;cases b;simp_all)).symm
  ·rw[decide_eq_false h2]at h
   (repeat(first|((repeat(revert hN;revert N;apply Pn.out));refine wk (tw @bB.eq_1 @e1) ?_;(repeat(refine Pn.mk ?_;intro N hN)))|((try apply Or.inl);refine⟨_,aq.x (h) (sd (tw @bB.eq_1 @e1)),?_⟩;refine hN _ _ ?_;clear hN N)))
   exact bc (b:=false) (.inl rfl) (sd @Nat.zero_add) (decide_eq_false (by rintro rfl;exact h2 rfl)).symm
 ·have e1:decide (a.aM=b.aM)=false:=decide_eq_false h1
  (try((repeat(revert hN;revert N;apply Pn.out));refine wk (tw @bB.eq_1 @e1) ?_;(repeat(refine Pn.mk ?_;intro N hN))))
  exact bc (b:=false) (.inl rfl) (sd @Nat.zero_add) (decide_eq_false (by rintro rfl;exact h1 rfl)).symm
theorem HM (xs:List fG) (h:xs.length<=1048576):jq Tryz.prog 102 [.sl (xs.map bR)] (.sl (xs.map bR)):=
 Ax (show lR Tryz.prog 102=some (qj 102 161 2 [.str [],.int .i64 0]) by kernel_rfl) rfl (fun _=>rfl) (fun _=>rfl) Mz xs h fun x _=>KF x
theorem HO (xs:List eZ) (h:xs.length<=1048576) (hs:∀t∈xs,sP t):jq Tryz.prog 103 [.sl (xs.map bB)] (.sl (xs.map bB)):=
 Ax (show lR Tryz.prog 103=some (qj 103 162 2 [.str [],.bE]) by kernel_rfl) rfl (fun _=>rfl) (fun _=>rfl) MA xs h fun x hx=>KM x (hs x hx)
theorem CJ (xs:List ad) (h:xs.length<=1048576):jq Tryz.prog 62 [.sl (xs.map aa)] (.sl (xs.map aa)):=
 Ax (show lR Tryz.prog 62=some (qj 62 104 3 [.int .i64 0,.int .i64 0,.int .i64 0]) by kernel_rfl) rfl (fun _=>rfl) (fun _=>rfl) y8 xs h fun x _=>E7 x
structure It (s:aw):Prop where
 g:s.ax.length<=1048576
 t:s.ai.length<=1048576
 s:∀t∈s.ai,sP t
structure rl (y:az):Prop where
 s:It y.aH
 a:y.bf.ai.length<=1048576
theorem CL (p:aw) (hs:It p):jq Tryz.prog 61 [.agg (ab p)] (.agg (ab p)):=by
 refine jq.body eK rfl fun hl σ=>?_
 clear hl
 have h1:=HM p.ax hs.g
 have h2:=HO p.ai hs.t hs.s
 (repeat(first|((repeat(revert hN;revert N;apply Pn.out));refine wk @ab.eq_1 ?_;(repeat(refine Pn.mk ?_;intro N hN)))|((try apply Or.inl);refine⟨_,jq.x (h1) _,?_⟩;refine hN _ _ ?_;clear hN N)|((try apply Or.inl);refine⟨_,jq.x (h2) _,?_⟩;refine hN _ _ ?_;clear hN N)))
 exact tt (.inl rfl) (vs:=[.agg (ab p)]) (by simp only[go_sem, ↓reduceIte,Nat.reduceEqDiff,Nat.reduceAdd,Nat.reduceSub,Nat.reduceLeDiff,reduceCtorEq,fx,iw,ab]) (by simp[eY,ab,bh,ae,aj,cC])
theorem Aw (p:gz) (hs:p.ai.length<=1048576):jq Tryz.prog 18 [.agg (dJ p)] (.agg (dJ p)):=by
 refine jq.body eK rfl fun hl σ=>?_
 clear hl
 have h1:=CJ p.ai hs
 (repeat(first|((repeat(revert hN;revert N;apply Pn.out));refine wk @dJ.eq_1 ?_;(repeat(refine Pn.mk ?_;intro N hN)))|((try apply Or.inl);refine⟨_,jq.x (h1) _,?_⟩;refine hN _ _ ?_;clear hN N)))
 exact tt (.inl rfl) (vs:=[.agg (dJ p)]) (by simp only[go_sem, ↓reduceIte,Nat.reduceEqDiff,Nat.reduceAdd,Nat.reduceSub,Nat.reduceLeDiff,reduceCtorEq,fx,iw,dJ]) (by simp[eY,dJ,bh,ae,aj,cC])
theorem E9 (p:az) (hs:rl p):jq Tryz.prog 17 [.agg (au p)] (.agg (au p)):=by
 refine jq.body eK rfl fun hl σ=>?_
 clear hl
 have h1:=CL p.aH hs.s
 have h2:=Aw p.bf hs.a
 rw[ab]at h1
 rw[dJ]at h2
 (repeat(first|((repeat(revert hN;revert N;apply Pn.out));refine wk @au.eq_1 ?_;(repeat(refine Pn.mk ?_;intro N hN)))|((try apply Or.inl);refine⟨_,jq.x (h1) _,?_⟩;refine hN _ _ ?_;clear hN N)|((try apply Or.inl);refine⟨_,jq.x (h2) _,?_⟩;refine hN _ _ ?_;clear hN N)))
 exact tt (.inl rfl) (vs:=[.agg (au p)]) (by simp only[go_sem, ↓reduceIte,Nat.reduceEqDiff,Nat.reduceAdd,Nat.reduceSub,Nat.reduceLeDiff,reduceCtorEq,fx,iw,au]) (by simp[eY,au,bh,ae,aj,cC,aI])
theorem IV (a b:fG):aq Tryz.prog 169 [.agg (bR a),.agg (bR b)] (.bool (decide (a=b))):=by
 refine aq.body eK rfl fun hl n0=>?_
 clear hl
 by_cases h1:a.aM=b.aM
 ·have e1:decide (a.aM=b.aM)=true:=decide_eq_true h1
  by_cases h2:a.eG=b.eG
  ·have e2:decide (a.eG=b.eG)=true:=decide_eq_true h2
   (try((repeat(revert hN;revert N;apply Pn.out));refine wk (tw @bR.eq_1 (tw @e1 @e2)) ?_;(repeat(refine Pn.mk ?_;intro N hN))))
   exact bc (b:=true) (.inl rfl) (sd @Nat.zero_add) (decide_eq_true (by cases a;cases b;simp_all)).symm
  ·have e2:decide (a.eG=b.eG)=false:=decide_eq_false h2
   (try((repeat(revert hN;revert N;apply Pn.out));refine wk (tw @bR.eq_1 (tw @e1 @e2)) ?_;(repeat(refine Pn.mk ?_;intro N hN))))
   exact bc (b:=false) (.inl rfl) (sd @Nat.zero_add) (decide_eq_false (by rintro rfl;exact h2 rfl)).symm
 ·have e1:decide (a.aM=b.aM)=false:=decide_eq_false h1
  (try((repeat(revert hN;revert N;apply Pn.out));refine wk (tw @bR.eq_1 @e1) ?_;(repeat(refine Pn.mk ?_;intro N hN))))
  exact bc (b:=false) (.inl rfl) (sd @Nat.zero_add) (decide_eq_false (by rintro rfl;exact h1 rfl)).symm
theorem yq (a b:aL):aq Tryz.prog 29 [.agg (ah a),.agg (ah b)] (.bool (decide (a=b))):=by
 refine aq.body eK rfl fun hl n0=>?_
 clear hl
 by_cases h1:a.fb=b.fb
 ·have e1:decide (a.fb=b.fb)=true:=decide_eq_true h1
  by_cases h2:a.eV=b.eV
  ·have e2:decide (a.eV=b.eV)=true:=decide_eq_true h2
   (try((repeat(revert hN;revert N;apply Pn.out));refine wk (tw @ah.eq_1 (tw @e1 @e2)) ?_;(repeat(refine Pn.mk ?_;intro N hN))))
   exact bc (b:=true) (.inl rfl) (sd @Nat.zero_add) (decide_eq_true (by cases a;cases b;simp_all)).symm
  ·have e2:decide (a.eV=b.eV)=false:=decide_eq_false h2
   (try((repeat(revert hN;revert N;apply Pn.out));refine wk (tw @ah.eq_1 (tw @e1 @e2)) ?_;(repeat(refine Pn.mk ?_;intro N hN))))
   exact bc (b:=false) (.inl rfl) (sd @Nat.zero_add) (decide_eq_false (by rintro rfl;exact h2 rfl)).symm
 ·have e1:decide (a.fb=b.fb)=false:=decide_eq_false h1
  (try((repeat(revert hN;revert N;apply Pn.out));refine wk (tw @ah.eq_1 @e1) ?_;(repeat(refine Pn.mk ?_;intro N hN))))
  exact bc (b:=false) (.inl rfl) (sd @Nat.zero_add) (decide_eq_false (by rintro rfl;exact h1 rfl)).symm
theorem Dw (a b:ad):aq Tryz.prog 110 [.agg (aa a),.agg (aa b)] (.bool (decide (a=b))):=by
 refine aq.body eK rfl fun hl n0=>?_
 clear hl
 have h:=yq a.aQ b.aQ
 rw[ah,ah]at h
 by_cases h1:a.aQ=b.aQ
 ·rw[decide_eq_true h1]at h
  by_cases h2:a.aO=b.aO
  ·have e2:decide (a.aO=b.aO)=true:=decide_eq_true h2
   (repeat(first|((repeat(revert hN;revert N;apply Pn.out));refine wk (tw @aa.eq_1 @e2) ?_;(repeat(refine Pn.mk ?_;intro N hN)))|((try apply Or.inl);refine⟨_,aq.x (h) (sd (tw @aa.eq_1 @e2)),?_⟩;refine hN _ _ ?_;clear hN N)))
   exact bc (b:=true) (.inl rfl) (sd @Nat.zero_add) (decide_eq_true (by cases a;cases b;simp_all)).symm
  ·have e2:decide (a.aO=b.aO)=false:=decide_eq_false h2
   (repeat(first|((repeat(revert hN;revert N;apply Pn.out));refine wk (tw @aa.eq_1 @e2) ?_;(repeat(refine Pn.mk ?_;intro N hN)))|((try apply Or.inl);refine⟨_,aq.x (h) (sd (tw @aa.eq_1 @e2)),?_⟩;refine hN _ _ ?_;clear hN N)))
   exact bc (b:=false) (.inl rfl) (sd @Nat.zero_add) (decide_eq_false (by rintro rfl;exact h2 rfl)).symm
 ·rw[decide_eq_false h1]at h
  (repeat(first|((repeat(revert hN;revert N;apply Pn.out));refine wk @aa.eq_1 ?_;(repeat(refine Pn.mk ?_;intro N hN)))|((try apply Or.inl);refine⟨_,aq.x (h) (sd @aa.eq_1),?_⟩;refine hN _ _ ?_;clear hN N)))
  exact bc (b:=false) (.inl rfl) (sd @Nat.zero_add) (decide_eq_false (by rintro rfl;exact h1 rfl)).symm
theorem GC (xs ys:List fG):aq Tryz.prog 108 [.sl (xs.map bR),.sl (ys.map bR)] (.bool (decide (xs=ys))):=
 zD (show lR Tryz.prog 108=some (Bp 108 169 2) by kernel_rfl) (fun _=>rfl) By xs ys IV
theorem GD (xs ys:List eZ):aq Tryz.prog 109 [.sl (xs.map bB),.sl (ys.map bB)] (.bool (decide (xs=ys))):=
 zD (show lR Tryz.prog 109=some (Bp 109 170 2) by kernel_rfl) (fun _=>rfl) Bz xs ys IX
theorem Bo (xs ys:List ad):aq Tryz.prog 66 [.sl (xs.map aa),.sl (ys.map aa)] (.bool (decide (xs=ys))):=
 zD (show lR Tryz.prog 66=some (Bp 66 110 3) by kernel_rfl) (fun _=>rfl) wz xs ys Dw
theorem Dx (a:az):aq Tryz.prog 20 [.agg (au a),.agg (au a)] (.bool true):=by
 have q1:aq Tryz.prog 65 [.agg (ab a.aH),.agg (ab a.aH)] (.bool true):=by
  refine aq.body eK rfl fun hl n0=>?_
  clear hl
  have h1:=GC a.aH.ax a.aH.ax
  have h2:=GD a.aH.ai a.aH.ai
  rw[decide_eq_true rfl]at h1 h2
  (repeat(first|((repeat(revert hN;revert N;apply Pn.out));refine wk @ab.eq_1 ?_;(repeat(refine Pn.mk ?_;intro N hN)))|((try apply Or.inl);refine⟨_,aq.x (h1) (sd @ab.eq_1),?_⟩;refine hN _ _ ?_;clear hN N)|((try apply Or.inl);refine⟨_,aq.x (h2) (sd @ab.eq_1),?_⟩;refine hN _ _ ?_;clear hN N)))
  exact bc (b:=true) (.inl rfl) (sd @Nat.zero_add) rfl
 have q2:aq Tryz.prog 21 [.agg (dJ a.bf),.agg (dJ a.bf)] (.bool true):=by
  refine aq.body eK rfl fun hl n0=>?_
  clear hl
  have h1:=Bo a.bf.ai a.bf.ai
  rw[decide_eq_true rfl]at h1
  (repeat(first|((repeat(revert hN;revert N;apply Pn.out));refine wk @dJ.eq_1 ?_;(repeat(refine Pn.mk ?_;intro N hN)))|((try apply Or.inl);refine⟨_,aq.x (h1) (sd @dJ.eq_1),?_⟩;refine hN _ _ ?_;clear hN N)))
  exact bc (b:=true) (.inl rfl) (sd @Nat.zero_add) rfl
 rw[ab]at q1
 rw[dJ]at q2
 refine aq.body eK rfl fun hl n0=>?_
 clear hl
 have e:decide (a.ay=a.ay)=true:=decide_eq_true rfl
 (repeat(first|((repeat(revert hN;revert N;apply Pn.out));refine wk (tw @au.eq_1 @e) ?_;(repeat(refine Pn.mk ?_;intro N hN)))|((try apply Or.inl);refine⟨_,aq.x (q1) (sd (tw @au.eq_1 @e)),?_⟩;refine hN _ _ ?_;clear hN N)|((try apply Or.inl);refine⟨_,aq.x (q2) (sd (tw @au.eq_1 @e)),?_⟩;refine hN _ _ ?_;clear hN N)))
 exact bc (b:=true) (.inl rfl) (sd @Nat.zero_add) rfl
end Go.Proofs.YtgoelphibofcmaaGreat.V

namespace Go.Proofs.YtgoelphibofcmaaGreat.V
open Go.RowKit
def isApp:gH->Bool
 | .append .. =>true
 |_=>false
variable {P:Program} {X:fP} {K:Env->ar->Prop} {env:Env} {σ:ar}
theorem NJ {draw:Bool} {o:br} {r:List br} (_:isApp o.op=false) (h:∀N:AV->ar->Prop,(∀v s,wpOps X draw r K (upd env o.dst v) s->N v s)->if aT o.guard env then fK X draw o env σ N else N .undef σ):wpOps X draw (o::r) K env σ:=PS h
end Go.Proofs.YtgoelphibofcmaaGreat.V

namespace Go.Proofs.YtgoelphibofcmaaGreat.V
open Go.RowKit
section
variable {α:Type} {enc:α->List AV} {sz:Nat} {g g':Rows} {a:AV} {xs:List α} {ids:List Id}
end
abbrev CR (α:Type):=Rows->List AV->α->List Id->Prop
structure xF {α:Type} (R:CR α) (sz:Nat):Prop where
 frame:∀{g g':Rows} {cs x ids},R g cs x ids->(∀i∈ids,g' i=g i)->R g' cs x ids
 len:∀{g cs x ids},R g cs x ids->cs.length=sz
 cell:∀{g cs x ids},R g cs x ids->cs.all AV.cell=true
 live:∀{g cs x ids},R g cs x ids->∀i∈ids,∃r,g i=some r/\r.w=true/\r.sz<r4
 small:sz<r4
inductive eM {α:Type} (R:CR α) (g:Rows):List (List AV)->List α->List Id->Prop
 |nil:eM R g [] [] []
 |cons {cs x i1 rs xs i2}:R g cs x i1->eM R g rs xs i2->eM R g (cs::rs) (x::xs) (i1++i2)
section
variable {α:Type} {R:CR α} {sz:Nat} {g g':Rows} {rows r1 r2:List (List AV)} {xs x1 x2:List α} {ids i1 i2:List Id}
theorem eM.len (h:eM R g rows xs ids):rows.length=xs.length:=by
 induction h with
 |nil=>rfl
 |cons _ _ ih=>simp[ih]
theorem eM.frame (ok:xF R sz) (h:eM R g rows xs ids) (hf:∀i∈ids,g' i=g i):eM R g' rows xs ids:=by
 induction h with
 |nil=>exact .nil
 |cons h1 _ ih=>exact .cons (ok.frame h1 fun i hi=>hf i (List.mem_append_left _ hi)) (ih fun i hi=>hf i (List.mem_append_right _ hi))
theorem eM.app (h1:eM R g r1 x1 i1) (h2:eM R g r2 x2 i2):eM R g (r1++r2) (x1++x2) (i1++i2):=by
 induction h1 with
 |nil=>exact h2
 |cons h _ ih=>rw[List.append_assoc];exact .cons h ih
theorem eM.one {cs:List AV} {x:α} (h:R g cs x ids):eM R g [cs] [x] ids:=by
 have:=eM.cons h eM.nil
 rwa [List.append_nil]at this
theorem eM.split (h:eM R g rows xs ids):∀k (hk:k<xs.length),∃r1 cs r2 i1 ic i2,rows=r1++cs::r2/\r1.length=k/\ids=i1++(ic++i2)/\eM R g r1 (xs.take k) i1/\R g cs xs[k] ic/\eM R g r2 (xs.drop (k+1)) i2:=by
 induction h with
 |nil=>intro k hk;simp at hk
 |cons h1 h2 ih=>
  rename_i cs x j1 rs xs j2
  intro k hk
  cases k with
  |zero=>exact⟨[],cs,rs,[],j1,j2,rfl,rfl,rfl,.nil,h1,h2⟩
  |succ k=>
   obtain⟨r1,pS,r2,i1,ic,i2,rfl,hl,rfl,h3,h4,h5⟩:=ih k (by simpa using hk)
   exact⟨cs::r1,pS,r2,j1++i1,ic,i2,rfl,by simp[hl],by rw[List.append_assoc],.cons h1 h3,h4,h5⟩
theorem eM.at_ (h:eM R g rows xs ids) (k:Nat) (hk:k<xs.length):∃cs ic,rows[k]? =some cs/\R g cs xs[k] ic/\∀i∈ic,i∈ids:=by
 obtain⟨r1,cs,r2,i1,ic,i2,rfl,hl,rfl,h3,h4,h5⟩:=h.split k hk
 refine⟨cs,ic,by rw[List.getElem?_append_right (by omega)];simp[hl],h4,fun i hi=>by simp[hi]⟩
theorem eM.fz {n:Nat} {e:α->List AV} (h:eM R g rows xs ids) (hz:∀{cs x ids},R g cs x ids->dn (dR g) n cs=some (e x)):eC (dR g) n rows=some (xs.map e):=by
 induction h with
 |nil=>rw[eC];rfl
 |cons h1 _ ih=>rw[eC,hz h1,ih];rfl
end
section
variable {α:Type} {R:CR α} {sz:Nat} {g g':Rows} {a:AV} {xs:List α} {ids:List Id}
end
end Go.Proofs.YtgoelphibofcmaaGreat.V
