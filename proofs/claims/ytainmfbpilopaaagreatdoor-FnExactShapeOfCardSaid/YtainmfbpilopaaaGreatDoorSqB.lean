/- One operation, calls among them. -/
import Derived.Test.YtainmfbpilopaaaGreatDoorSqA
import Derived.Orders
import Derived.Conc.LoneCalls
import Derived.WalkKit
import Derived.WalkSpells
import Derived.WalkLawsBesides
import Derived.Lib.Hide
import Derived.Deep.QuietTactic
import Derived.BigQuiet
import Derived.StillTailTactics
import Derived.Deep.RegionWith
import Derived.Deep.RegionHeld3
import Derived.Deep.LoopGhost
import Derived.Deep.CutRange
import Derived.Deep.DeepCutAuto
import Derived.Test.YtainmfbpilopaaaGreatDoorChecked
set_option linter.unusedVariables false
set_option linter.unusedSimpArgs false
set_option maxRecDepth 100000
set_option maxHeartbeats 16000000
namespace Go.Proofs.YtainmfbpilopaaaGreatDoor.V
open Go.RowKit
variable {P:Program} {w w':World} {D D' D2:Nat->Prop} {ι ι' ι2:Names}
def Sound (P:Program):gx:=fun f args σ K=>∀(hs:Nat) (D:Nat->Prop) (ι:Names) (w:World) (vs:Array Value),gK P hs D ι σ.get w->Used ι σ.next (fun _=>False)->fQ P w D ι args vs->
 Calls P f vs w fun e w'=>∃r g' n' D' ι' u,e=.returned u/\K r ⟨g',n'⟩/\Step hs D ι w D' ι' w'/\gK P hs D' ι' g' w'/\Used ι' n' (fun _=>False)/\σ.next<=n'/\dm P w' D' ι' r u
section
variable {g:Rows} {hs:Nat} {env:Env} {a:Act} {o:Oper} {id:Id} {v:AV}
theorem gK.ro (S:gK P hs D ι g w):gK P w.heap.size D ι (ro g) w:=by
 refine⟨Nat.le_refl _,S.dead,fun id r h=>?_,fun id kK r r' B B' h h' hw=>?_⟩
 ·unfold V.ro at h
  simp only[Option.map_eq_some_iff]at h
  obtain⟨r0,h0,rfl⟩:=h
  obtain⟨B,hB,R,_,_⟩:=S.row id r0 h0
  exact⟨B,hB,R.flag false,fun h=>by simp at h,fun h=>by simp at h⟩
 ·unfold V.ro at h
  simp only[Option.map_eq_some_iff]at h
  obtain⟨r0,h0,rfl⟩:=h
  simp at hw
theorem Dt {g0:Rows} {f:Nat} {args:List AV} {n:Nat} {K:AV->Prop} {vs:Array Value} (h:PC (Sound P) f args ⟨g0,n⟩ K) (qx:∀id r,g0 id=some r->g id=some r) (S:gK P hs D ι g w) (U:Used ι n (fun _=>False)) (A:fQ P w D ι args vs):
  Calls P f vs w fun e w'=>∃r D' u,e=.returned u/\K r/\Step hs D ι w D' ι w'/\gK P hs D' ι g w'/\dm P w' D' ι r u:=by
 refine(h w.heap.size D ι w vs (S.sub qx).ro U A).mono ?_
 rintro e w' ⟨r0,g',n',D1,ι1,u,rfl,⟨r,hr,hK⟩,T,S1,_,_,hR⟩
 have hb:∀b,b<w.heap.size->w'.heap[b]? =w.heap[b]? :=T.below.block
 have hz:=T.below.size
 have q:=qq (D2:=fun b=>D b∨(w.heap.size<=b/\b<w'.heap.size)) (ι2:=ι) (fun b hd=>by
  rcases T.new b hd with h|h
  ·exact .inl h
  ·exact .inr ⟨h,S1.dead b hd⟩) (fun id row hg hw=>by
  obtain⟨B,hB,R,h1,_⟩:=S1.row id row hg
  exact⟨B,hB,R,.inr ⟨h1 hw,R.lt⟩⟩) 6 r0 u r hR hr
 refine⟨r,_,u,rfl,hK,?_,?_,q.1⟩
 ·exact Step.stay S hb hz T.below.os T.below.tape T.below.output (fun _ h=>.inl h) (fun b h=>by rcases h with h|h;exact .inl h;exact .inr h.1) (fun _ _ h=>h)
 ·exact S.stay hb hz (fun _ h=>.inl h) (fun b h=>by rcases h with h|h;exact Nat.lt_of_lt_of_le (S.dead b h) hz;exact h.2) (fun b h=>by rcases h with h|h;exact .inl h;exact .inr h.1) (fun _ _ h=>h)
theorem AJ {g0:Rows} {f:Nat} {args:List AV} {n:Nat} {K:AV->Prop} {vs:Array Value} (h:PCv (Sound P) f args ⟨g0,n⟩ K) (qx:∀id r,g0 id=some r->g id=some r) (S:gK P hs D ι g w) (U:Used ι n (fun _=>False)) (A:fQ P w D ι args vs):
  Calls P f vs w fun e w'=>∃r D' u,e=.returned u/\K r/\Step hs D ι w D' ι w'/\gK P hs D' ι g w'/\dm P w' D' ι r u:=by
 obtain⟨args',ha,h⟩:=h
 let D1:Nat->Prop:=fun b=>D b∨∃id r B,g id=some r/\ι id=some B/\b=B.b
 have lt:∀id r B,g id=some r->ι id=some B->B.b<w.heap.size:=fun id r B h1 h2=>by
  obtain⟨B',ec,R,_⟩:=S.row id r h1
  rw[h2]at ec;injection ec with ec;subst ec
  exact R.lt
 have S0:gK P w.heap.size D1 ι (fun _=>none) w:=⟨Nat.le_refl _,fun b hb=>by
  rcases hb with hb|⟨id,r,B,h1,h2,rfl⟩
  ·exact S.dead b hb
  ·exact lt id r B h1 h2,fun id r h=>(by cases h),fun id kK r r' B B' h=>(by cases h)⟩
 obtain⟨l1,l2⟩:=gP ha
 have A':fQ P w D1 ι args' vs:=⟨by rw[A.1,l1],fun j a hj=>by
  obtain⟨a0,lX,hf⟩:=l2 j a hj
  obtain⟨u,hu,hr⟩:=A.2 j a0 lX
  refine⟨u,hu,(qq (D2:=D1) (ι2:=ι) (fun b h=>.inl h) (fun id row hg hw=>?_) 6 a0 u a hr hf).1⟩
  unfold ea at hg
  simp only[Option.map_eq_some_iff]at hg
  obtain⟨r,lH,rfl⟩:=hg
  obtain⟨B,hB,R,_,_⟩:=S.row id r (qx id r lH)
  exact⟨B,hB,R.flag true,.inr ⟨id,r,B,qx id r lH,hB,rfl⟩⟩⟩
 refine(h w.heap.size D1 ι w vs S0 U A').mono ?_
 rintro e w' ⟨r0,g',n',D2,ι1,u,rfl,⟨r,hr,hK⟩,T,S1,_,_,hR⟩
 have hb:∀b,b<w.heap.size->w'.heap[b]? =w.heap[b]? :=T.below.block
 have hz:=T.below.size
 have q:=JL (D2:=fun b=>D b∨(w.heap.size<=b/\b<w'.heap.size)) (ι2:=ι) (fun id row hg hw=>by
  obtain⟨B,hB,R,h1,_⟩:=S1.row id row hg
  exact⟨B,hB,R,.inr ⟨h1 hw,R.lt⟩⟩) 6 r0 u r hR hr
 refine⟨r,_,u,rfl,hK,?_,?_,q.1⟩
 ·exact Step.stay S hb hz T.below.os T.below.tape T.below.output (fun _ h=>.inl h) (fun b h=>by rcases h with h|h;exact .inl h;exact .inr h.1) (fun _ _ h=>h)
 ·exact S.stay hb hz (fun _ h=>.inl h) (fun b h=>by rcases h with h|h;exact Nat.lt_of_lt_of_le (S.dead b h) hz;exact h.2) (fun b h=>by rcases h with h|h;exact .inl h;exact .inr h.1) (fun _ _ h=>h)
theorem Je {g0:Rows} {f:Nat} {args:List AV} {n:Nat} {K:AV->Prop} {vs:Array Value} (h:fu (Sound P) f args ⟨g0,n⟩ K) (qx:∀id r,g0 id=some r->g id=some r) (S:gK P hs D ι g w) (U:Used ι n (fun _=>False)) (A:fQ P w D ι args vs):
  Calls P f vs w fun e w'=>∃r D' u,e=.returned u/\K r/\Step hs D ι w D' ι w'/\gK P hs D' ι g w'/\dm P w' D' ι r u:=by
 rcases h with h|h
 ·exact Dt h qx S U A
 ·exact AJ h qx S U A
theorem KJ {D1 D2:Nat->Prop} {ι1 ι2:Names} {w1:World} {a:AV} {v:Value} (hp:a.plain=true) (h:dm P w D1 ι1 a v):dm P w1 D2 ι2 a v:=by
 cases h with
 |eP a v h=>cases h<;>first|(simp[AV.plain]at hp;done)|exact .eP _ _ (by constructor)
 |_=>simp[AV.plain]at hp
theorem gK.add {r:Row} {B:uX} (S:gK P hs D ι g w) (S':gK P hs D ι g w') (hf:ι id=none) (j9:w.heap.size<=B.b) (R:iv P w' D (lx ι id B) B r):gK P hs D (lx ι id B) (bJ g id r) w':=by
 have lt:∀kK r' B',g kK=some r'->ι kK=some B'->B'.b<w.heap.size:=fun kK r' B' h1 h2=>by
  obtain⟨B2,oU,R2,_⟩:=S.row kK r' h1
  rw[h2]at oU;injection oU with oU;subst oU
  exact R2.lt
 have ne:∀kK r',g kK=some r'->kK≠id:=fun kK r' h he=>by
  subst he
  obtain⟨B2,oU,_⟩:=S.row _ r' h
  rw[hf]at oU;cases oU
 refine⟨S'.lo,S'.dead,fun kK r' h=>?_,fun Qb id2 r1 r2 B1 B2 h1 h2 hw z6 oU hb=>?_⟩
 ·unfold bJ at h
  split at h
  ·rename_i he
   subst he
   injection h with h;subst h
   exact⟨B,eE _ _ _,R,fun _=>Nat.le_trans S.lo j9,fun _ hd=>Nat.lt_irrefl _ (Nat.lt_of_lt_of_le (S.dead _ hd) j9)⟩
  ·obtain⟨B',ec,R',k1,k2⟩:=S'.row kK r' h
   exact⟨B',by rw[gV (ne _ _ h)];exact ec,R'.frame rfl (fun a v hr=>hr.frame (fun _ _=>rfl) (fun _ h=>h) (fA hf)),k1,k2⟩
 ·unfold bJ at h1 h2
  split at h1
  ·rename_i e1
   split at h2
   ·rename_i e2;rw[e1,e2]
   ·exfalso
    subst e1
    rw[eE]at z6;injection z6 with z6;subst z6
    rw[gV (ne _ _ h2)]at oU
    have:=lt _ _ _ h2 oU
    omega
  ·rw[gV (ne _ _ h1)]at z6
   split at h2
   ·rename_i e2
    exfalso
    subst e2
    rw[eE]at oU;injection oU with oU;subst oU
    have:=lt _ _ _ h1 z6
    omega
   ·rw[gV (ne _ _ h2)]at oU
    exact S'.inj Qb id2 r1 r2 B1 B2 h1 h2 hw z6 oU hb
theorem Lw {g0:Rows} {f:Nat} {args:List AV} {n sz:Nat} {rows:List (List AV)} {vs:Array Value} (h:CM (Sound P) f args ⟨g0,n⟩ sz rows) (qx:∀id r,g0 id=some r->g id=some r) (S:gK P hs D ι g w) (U:Used ι n (fun _=>False)) (A:fQ P w D ι args vs) (hf:ι id=none):
  Calls P f vs w fun e w'=>∃u B,e=.returned u/\Step hs D ι w D (lx ι id B) w'/\gK P hs D (lx ι id B) (bJ g id ⟨true,sz,rows⟩) w'/\dm P w' D (lx ι id B) (.own id 0 rows.length) u:=by
 obtain⟨lY,args',ha,h⟩:=h
 let D1:Nat->Prop:=fun b=>D b∨∃id r B,g id=some r/\ι id=some B/\b=B.b
 have lt:∀id r B,g id=some r->ι id=some B->B.b<w.heap.size:=fun id r B h1 h2=>by
  obtain⟨B',ec,R,_⟩:=S.row id r h1
  rw[h2]at ec;injection ec with ec;subst ec
  exact R.lt
 have S0:gK P w.heap.size D1 ι (fun _=>none) w:=⟨Nat.le_refl _,fun b hb=>by
  rcases hb with hb|⟨id,r,B,h1,h2,rfl⟩
  ·exact S.dead b hb
  ·exact lt id r B h1 h2,fun id r h=>(by cases h),fun id kK r r' B B' h=>(by cases h)⟩
 obtain⟨l1,l2⟩:=gP ha
 have A':fQ P w D1 ι args' vs:=⟨by rw[A.1,l1],fun j a hj=>by
  obtain⟨a0,lX,hz⟩:=l2 j a hj
  obtain⟨u,hu,hr⟩:=A.2 j a0 lX
  refine⟨u,hu,(qq (D2:=D1) (ι2:=ι) (fun b h=>.inl h) (fun id row hg hw=>?_) 6 a0 u a hr hz).1⟩
  unfold ea at hg
  simp only[Option.map_eq_some_iff]at hg
  obtain⟨r,lH,rfl⟩:=hg
  obtain⟨B,hB,R,_,_⟩:=S.row id r (qx id r lH)
  exact⟨B,hB,R.flag true,.inr ⟨id,r,B,qx id r lH,hB,rfl⟩⟩⟩
 refine(h w.heap.size D1 ι w vs S0 U A').mono ?_
 rintro e w' ⟨r0,g',n',D2,ι1,u,rfl,⟨i0,hr,hg⟩,T,S1,_,_,hR⟩
 subst hr
 have hb:∀b,b<w.heap.size->w'.heap[b]? =w.heap[b]? :=T.below.block
 have hz:=T.below.size
 obtain⟨B,hB,R,k1,_⟩:=S1.row i0 _ hg
 have j9:w.heap.size<=B.b:=k1 rfl
 obtain⟨o,cap,B',rfl,ec,q2,q3,q4,q5,hk⟩:=je hR
 rw[hB]at ec;injection ec with ec;subst ec
 replace R:=R.row hk
 have S':gK P hs D ι g w':=S.stay hb hz (fun _ h=>h) (fun b h=>Nat.lt_of_lt_of_le (S.dead b h) hz) (fun b h=>.inl h) (fun _ _ h=>h)
 have R':lK P w' D (lx ι id B) B ⟨true,sz,rows⟩:=⟨R.sz,R.uR,R.fits,R.len,R.flat,fun i j cs a hi hj=>by
  obtain⟨v,h1,h2⟩:=R.at_ i j cs a hi hj
  exact⟨v,h1,KJ (lY cs (List.mem_of_getElem? hi) a (List.mem_of_getElem? hj)) h2⟩⟩
 exact⟨_,B,rfl,Step.stay S hb hz T.below.os T.below.tape T.below.output (fun _ h=>h) (fun _ h=>.inl h) (fA hf),S.add S' hf j9 (R'.obj hk),.own id 0 _ _ _ B (eE _ _ _) hk q2 q3 q4 q5⟩
theorem kj {f:Nat} {args:Array Value} (hc:gE P f=true):(callFunc f args).run P w=.ok (.enter f args) w:=by
 unfold gE at hc
 split at hc
 ·rename_i fn hf
  simp only[Bool.and_eq_true,Bool.not_eq_true']at hc
  have hb:fn.body.isNone=false:=by cases hq:fn.body<;>simp_all
  simp only[callFunc,Sem.run_bind,run_program,Result.andThen_ok,hf,hc.2,Bool.false_eq_true,if_false,hb]
  rfl
 ·simp at hc
theorem EI {f:Nat} {args:List O} (hc:tg P o.op=some (.call f args)):∃c,o.op=.call c/\c.callee=.value (.func f)/\gE P f=true/\c.args.toList.mapM (cO P)=some args:=by
 unfold tg at hc
 split at hc
 case h_24=>
  rename_i c ho
  refine⟨c,ho,?_⟩
  unfold pC at hc
  split at hc
  all_goals (try(repeat' (split at hc))<;>(simp only[Option.bind_eq_bind,Option.bind_eq_some_iff,Option.pure_def,Option.some.injEq,Option.map_eq_some_iff,reduceCtorEq,and_false,exists_false]at hc))
  all_goals simp_all
 all_goals (try unfold yC at hc)<;>(try unfold vd at hc)<;>(repeat' (split at hc))<;>(simp only[Option.bind_eq_bind,Option.bind_eq_some_iff,Option.pure_def,Option.some.injEq,Option.map_eq_some_iff,reduceCtorEq,and_false,exists_false]at hc)
theorem vP {x:O} {args:List O} (hc:tg P o.op=some (.wM x args)):∃c t,o.op=.call c/\c.callee=.value (.tmp t)/\x=.t t/\c.args.toList.mapM (cO P)=some args:=by
 unfold tg at hc
 split at hc
 case h_24=>
  rename_i c ho
  refine⟨c,?_⟩
  unfold pC at hc
  split at hc
  all_goals (try(repeat' (split at hc))<;>(simp only[Option.bind_eq_bind,Option.bind_eq_some_iff,Option.pure_def,Option.some.injEq,Option.map_eq_some_iff,reduceCtorEq,and_false,exists_false]at hc))
  all_goals simp_all
 all_goals (try unfold yC at hc)<;>(try unfold vd at hc)<;>(repeat' (split at hc))<;>(simp only[Option.bind_eq_bind,Option.bind_eq_some_iff,Option.pure_def,Option.some.injEq,Option.map_eq_some_iff,reduceCtorEq,and_false,exists_false]at hc)
theorem J7 {n:Nat} {x y:O} (hc:tg P o.op=some (.store n x y)):∃t x' y',o.op=.store t x' y'/\eF P t=some n/\cO P x'=some x/\cO P y'=some y:=by
 unfold tg at hc
 split at hc
 case h_8=>
  rename_i t x' y' ho
  refine⟨t,x',y',ho,?_⟩
  simp only[Option.bind_eq_bind,Option.bind_eq_some_iff,Option.pure_def,Option.some.injEq]at hc
  obtain⟨n',h1,x2,h2,y2,h3,he⟩:=hc
  injection he with e1 e2 e3
  subst e1;subst e2;subst e3
  exact⟨h1,h2,h3⟩
 all_goals (try unfold yC at hc)<;>(try unfold vd at hc)<;>(try unfold pC at hc)<;>(repeat' (split at hc))<;>(simp only[Option.bind_eq_bind,Option.bind_eq_some_iff,Option.pure_def,Option.some.injEq,Option.map_eq_some_iff,reduceCtorEq,and_false,exists_false]at hc)
theorem G3 {n:Nat} {x y:O} (hc:tg P o.op=some (.append n x y)):∃(t e:TypeId) (m:Nat) (z:List K) (i:TypeInfo) (x' y':Operand),n=m+1/\o.op=.call {callee:=.builtin .append,args:= #[x',y'],argTypes:= #[t,t]}/\
  P.underlying t=some (.slice e)/\eF P e=some (m+1)/\kF P e=some z/\P.info? e=some i/\i.bytes<=32768/\cO P x'=some x/\cO P y'=some y:=by
 unfold tg at hc
 split at hc
 case h_24=>
  rename_i c ho
  unfold pC at hc
  split at hc
  case h_2=>
   rename_i lR
   split at hc
   ·rename_i x' y' t u h1 h2
    split at hc
    ·rename_i e ht
     split at hc
     ·rename_i m z i e1 e2 e3
      split at hc
      ·rename_i hb
       simp only[Option.bind_eq_bind,Option.bind_eq_some_iff,Option.pure_def,Option.some.injEq]at hc
       obtain⟨x2,h3,y2,h4,he⟩:=hc
       injection he with k1 k2 k3
       subst k1;subst k2;subst k3
       obtain⟨Iu,rfl⟩:=hb
       refine⟨t,e,m,z,i,x',y',rfl,?_,ht,e1,e2,e3,Iu,h3,h4⟩
       rw[ho]
       obtain⟨ca,cb,cc⟩:=c
       simp only at h1 h2 lR
       subst lR
       congr
       ·exact Array.ext' h1
       ·exact Array.ext' h2
      ·simp at hc
     ·simp at hc
    ·simp at hc
   ·simp at hc
  all_goals (repeat' (split at hc))<;>(simp only[Option.bind_eq_bind,Option.bind_eq_some_iff,Option.pure_def,Option.some.injEq,Option.map_eq_some_iff,reduceCtorEq,and_false,exists_false]at hc)
 all_goals (try unfold yC at hc)<;>(try unfold vd at hc)<;>(repeat' (split at hc))<;>(simp only[Option.bind_eq_bind,Option.bind_eq_some_iff,Option.pure_def,Option.some.injEq,Option.map_eq_some_iff,reduceCtorEq,and_false,exists_false]at hc)
theorem M7 {n:Nat} {x y:O} (hc:tg P o.op=some (.copy n x y)):∃(t t2 e:TypeId) (m:Nat) (x' y':Operand),n=m+1/\o.op=.call {callee:=.builtin .copy,args:= #[x',y'],argTypes:= #[t,t2]}/\
  P.underlying t=some (.slice e)/\eF P e=some (m+1)/\cO P x'=some x/\cO P y'=some y:=by
 unfold tg at hc
 split at hc
 case h_24=>
  rename_i c ho
  unfold pC at hc
  split at hc
  case h_7=>
   rename_i lR
   split at hc
   ·rename_i x' y' t t2 h1 h2
    split at hc
    ·rename_i e ht
     split at hc
     ·rename_i m e1
      simp only[Option.bind_eq_bind,Option.bind_eq_some_iff,Option.pure_def,Option.some.injEq,ib.copy.injEq]at hc
      obtain⟨x2,h3,y2,h4,k0,k1,k2⟩:=hc
      subst k1;subst k2
      refine⟨t,t2,e,m,x',y',k0.symm,?_,ht,e1,h3,h4⟩
      rw[ho]
      obtain⟨ca,cb,cc⟩:=c
      simp only at h1 h2 lR
      subst lR
      congr
      ·exact Array.ext' h1
      ·exact Array.ext' h2
     ·simp at hc
    ·simp at hc
   ·simp at hc
  all_goals (repeat' (split at hc))<;>(simp only[Option.bind_eq_bind,Option.bind_eq_some_iff,Option.pure_def,Option.some.injEq,Option.map_eq_some_iff,reduceCtorEq,and_false,exists_false]at hc)
 all_goals (try unfold yC at hc)<;>(try unfold vd at hc)<;>(repeat' (split at hc))<;>(simp only[Option.bind_eq_bind,Option.bind_eq_some_iff,Option.pure_def,Option.some.injEq,Option.map_eq_some_iff,reduceCtorEq,and_false,exists_false]at hc)
theorem J6 {z:List K} {x:O} (hc:tg P o.op=some (.clear z x)):∃(t e:TypeId) (m:Nat) (x':Operand),o.op=.call {callee:=.builtin .clear,args:= #[x'],argTypes:= #[t]}/\
  P.underlying t=some (.slice e)/\eF P e=some (m+1)/\kF P e=some z/\cO P x'=some x:=by
 unfold tg at hc
 split at hc
 case h_24=>
  rename_i c ho
  unfold pC at hc
  split at hc
  case h_3=>
   rename_i lR
   split at hc
   ·rename_i x' t h1 h2
    split at hc
    ·rename_i e ht
     split at hc
     ·rename_i m z' e1 e2
      simp only[Option.map_eq_some_iff]at hc
      obtain⟨x2,h3,he⟩:=hc
      injection he with k1 k2
      subst k1;subst k2
      refine⟨t,e,m,x',?_,ht,e1,e2,h3⟩
      rw[ho]
      obtain⟨ca,cb,cc⟩:=c
      simp only at h1 h2 lR
      subst lR
      congr
      ·exact Array.ext' h1
      ·exact Array.ext' h2
     ·simp at hc
    ·simp at hc
   ·simp at hc
  all_goals (repeat' (split at hc))<;>(simp only[Option.bind_eq_bind,Option.bind_eq_some_iff,Option.pure_def,Option.some.injEq,Option.map_eq_some_iff,reduceCtorEq,and_false,exists_false]at hc)
 all_goals (try unfold yC at hc)<;>(try unfold vd at hc)<;>(repeat' (split at hc))<;>(simp only[Option.bind_eq_bind,Option.bind_eq_some_iff,Option.pure_def,Option.some.injEq,Option.map_eq_some_iff,reduceCtorEq,and_false,exists_false]at hc)
theorem Uk {q:MW} {xs:List O} (hc:tg P o.op=some (.mw q xs)):
  (∃t x k y m z x' k' y',(o.op=.mapUpdate t x k y∨o.op=.insert t x k y)/\ve P t=some (m,z)/\cO P x=some x'/\cO P k=some k'/\cO P y=some y'/\q=.set m/\xs=[x',k',y'])∨
  (∃t t' x k m z x' k',o.op=.call {callee:=.builtin .delete,args:= #[x,k],argTypes:= #[t,t']}/\ve P t=some (m,z)/\cO P x=some x'/\cO P k=some k'/\q=.del m/\xs=[x',k']):=by
 unfold tg at hc
 split at hc
 case h_24=>
  rename_i c ho
  right
  unfold pC at hc
  split at hc
  case h_6=>
   rename_i lR
   split at hc
   ·rename_i x k t t' h1 h2
    split at hc
    ·rename_i m z x' k' e1 e2 e3
     injection hc with hc
     injection hc with q1 q2
     refine⟨t,t',x,k,m,z,x',k',?_,e1,e2,e3,q1.symm,q2.symm⟩
     rw[ho]
     obtain⟨ca,cb,cc⟩:=c
     simp only at h1 h2 lR
     subst lR
     congr
     ·exact Array.ext' h1
     ·exact Array.ext' h2
    ·cases hc
   ·cases hc
  all_goals (repeat' (split at hc))<;>(simp only[Option.bind_eq_bind,Option.bind_eq_some_iff,Option.pure_def,Option.some.injEq,Option.map_eq_some_iff,reduceCtorEq,and_false,exists_false]at hc)
 case h_30=>
  rename_i t x k y ho
  left
  split at hc
  ·rename_i m z x' k' y' e1 e2 e3 e4
   injection hc with hc
   injection hc with q1 q2
   exact⟨t,x,k,y,m,z,x',k',y',.inl ho,e1,e2,e3,e4,q1.symm,q2.symm⟩
  ·cases hc
 case h_31=>
  rename_i t x k y ho
  left
  split at hc
  ·rename_i m z x' k' y' e1 e2 e3 e4
   injection hc with hc
   injection hc with q1 q2
   exact⟨t,x,k,y,m,z,x',k',y',.inr ho,e1,e2,e3,e4,q1.symm,q2.symm⟩
  ·cases hc
 all_goals (try unfold yC at hc)<;>(try unfold vd at hc)<;>(repeat' (split at hc))<;>(simp only[Option.bind_eq_bind,Option.bind_eq_some_iff,Option.pure_def,Option.some.injEq,Option.map_eq_some_iff,reduceCtorEq,and_false,exists_false]at hc)
def jY (g:Rows) (id:Id):Option Row->Rows
 |some r=>bJ g id r
 |none=>g
def yF (X:gx) (hid:List Nat) (site n:Nat) (f:Nat) (args:List AV) (g:Rows) (v:AV) (g':Rows):Prop:=
 (fu X f args ⟨fo hid n g,n+1⟩ (fun r=>r=v)/\g'=g)∨
 (hid.contains site=true/\∃sz rows,CM X f args ⟨fo hid n g,n+1⟩ sz rows/\v=.own ⟨site,n⟩ 0 rows.length/\g'=bJ g ⟨site,n⟩ ⟨true,sz,rows⟩)
def VS (X:gx) (n:Nat) (vo:bL) (env:Env) (g:Rows) (v:AV) (g':Rows):Prop:=
 match vo.op with
 | .call f args=>yF X vo.hid vo.site n f (args.map (dh env)) g v g'
 | .wM x args=>∃f l,yE (dh env x) (args.map (dh env))=some (f,l)/\yF X vo.hid vo.site n f l g v g'
 | .store .. | .append .. | .copy .. | .clear .. | .mw .. =>fq vo.op (dh env) g ⟨vo.site,n⟩=some (v,g')
 |_=>∃mr,eA vo.op (dh env) (fo vo.hid n g) ⟨vo.site,n⟩=some (v,mr)/\g'=jY g ⟨vo.site,n⟩ mr
def Rm (P:Program) (hs:Nat) (D:Nat->Prop) (ι:Names) (w:World) (U:Nat->Prop) (site n:Nat) (a:Act) (dst:Option Tmp) (v:AV) (g':Rows) (a':Act) (w':World):Prop:=
 ∃u D' ι',a'=a.put dst u/\Step hs D ι w D' ι' w'/\gK P hs D' ι' g' w'/\dm P w' D' ι' v u/\Used ι' n (fun s=>U s∨s=site)
theorem fresh {n:Nat} {U:Nat->Prop} {s:Nat} (h:Used ι n U) (hU:¬U s):ι ⟨s,n⟩=none:=by
 cases hq:ι ⟨s,n⟩with
 |none=>rfl
 |some B=>
  rcases h ⟨s,n⟩ (by rw[hq];simp)with h|⟨_,h⟩
  ·exact absurd h (Nat.lt_irrefl _)
  ·exact absurd h hU
theorem Used.more {n:Nat} {U U':Nat->Prop} (h:Used ι n U) (hU:∀s,U s->U' s):Used ι n U':=fun id hid=>by
 rcases h id hid with h|⟨h1,h2⟩
 ·exact .inl h
 ·exact .inr ⟨h1,hU _ h2⟩
theorem Used.next {n:Nat} {U:Nat->Prop} (h:Used ι n U):Used ι (n+1) (fun _=>False):=fun id hid=>by
 rcases h id hid with h|⟨h1,_⟩
 ·exact .inl (Nat.lt_succ_of_lt h)
 ·exact .inl ah
theorem Used.upd {n:Nat} {U:Nat->Prop} {s:Nat} {B:uX} (h:Used ι n U):Used (lx ι ⟨s,n⟩ B) n (fun x=>U x∨x=s):=fun id hid=>by
 by_cases he:id=⟨s,n⟩
 ·subst he;exact .inr ⟨rfl,.inr rfl⟩
 ·rw[gV he]at hid
  exact(h.more (U':=fun x=>U x∨x=s) fun _ h=>Or.inl h) id hid
theorem qd {xs:Array Operand} {ys:List O} (E:cY P w D ι env a) (h:xs.toList.mapM (cO P)=some ys):fQ P w D ι (ys.map (dh env)) (xs.map a.eval):=by
 obtain⟨h1,h2⟩:=Hp E h
 refine⟨by simpa using h1,fun j b hj=>?_⟩
 simp only[List.getElem?_map,Option.map_eq_some_iff]at hj
 obtain⟨y,hy,rfl⟩:=hj
 have eu:j<xs.size:=by have:=(List.getElem?_eq_some_iff.1 hy).1;simp at h1;omega
 refine⟨a.eval xs[j],by simp[eu],?_⟩
 have:=h2 j y hy
 simpa[List.getD_eq_getElem?_getD,eu]using this
theorem qH {xs ys:List AV} {vs us:Array Value} (h:fQ P w D ι xs vs) (k:fQ P w D ι ys us):fQ P w D ι (xs++ys) (vs++us):=
 ⟨by simp[h.1,k.1],fun j b hj=>by
  by_cases eu:j<xs.length
  ·rw[List.getElem?_append_left eu]at hj
   obtain⟨u,hu,Av⟩:=h.2 j b hj
   exact⟨u,by rw[Array.getElem?_append_left (by rw[h.1];exact eu)];exact hu,Av⟩
  ·rw[List.getElem?_append_right ah]at hj
   obtain⟨u,hu,Av⟩:=k.2 _ b hj
   exact⟨u,by rw[Array.getElem?_append_right (by rw[h.1];omega),h.1];exact hu,Av⟩⟩
theorem zA:fQ P w D ι [] #[]:=⟨rfl,fun j b hj=>by simp at hj⟩
theorem yG {x:AV} {l l':List AV} {f:Nat} {vs:Array Value} {v:Value} (h:yE x l=some (f,l')) (hr:dm P w D ι x v) (hA:fQ P w D ι l vs):
  ∃first dv,v=.func (.func f) first dv/\gE P f=true/\fQ P w D ι l' (first++vs++dv):=by
 unfold yE at h
 split at h
 ·simp only[Option.some.injEq,Prod.mk.injEq]at h
  obtain⟨rfl,rfl⟩:=h
  obtain⟨us,q,he,Iw,n1,q1,q2⟩:=wg hr
  refine⟨#[],us,he,Iw,?_⟩
  rw[Array.empty_append]
  exact qH hA ⟨n1,fun j b hj=>⟨q j,q1 j (List.getElem?_eq_some_iff.1 hj).1,q2 j b hj⟩⟩
 ·simp only[Option.some.injEq,Prod.mk.injEq]at h
  obtain⟨rfl,rfl⟩:=h
  obtain⟨us,q,he,Iw,n1,q1,q2⟩:=QQ hr
  refine⟨us, #[],he,Iw,?_⟩
  rw[Array.append_empty]
  exact qH ⟨n1,fun j b hj=>⟨q j,q1 j (List.getElem?_eq_some_iff.1 hj).1,q2 j b hj⟩⟩ hA
 ·cases h
theorem Dy {n:Nat} {vo:bL} {g':Rows} {U:Nat->Prop} {Q:Exit->Act->World->Prop} {K:Act->World->Prop} (hc:tg P o.op=some vo.op) (hv:VS (Sound P) n vo env g v g') (S:gK P hs D ι g w) (Us:Used ι n U) (hU:¬U vo.site) (E:cY P w D ι env a)
  (hK:∀a' w',Rm P hs D ι w U vo.site n a o.dst v g' a' w'->K a' w'):o.wp P a w K Q:=by
 have hf:=fresh Us hU
 have DK:∀(f:Nat) (args:List AV) (vs:Array Value),yF (Sound P) vo.hid vo.site n f args g v g'->fQ P w D ι args vs->(execOp a.eval o).run P w=.ok (.enter f vs) w->o.wp P a w K Q:=by
  intro f args vs hP hA gi
  unfold Oper.wp
  rw[gi]
  rcases hP with⟨hP,rfl⟩|⟨_,sz,rows,hM,rfl,rfl⟩
  ·refine(Je hP C8 S Us.next hA).mono ?_
   rintro e w' ⟨r,D',u,rfl,rfl,T,S',hR⟩
   exact hK _ _ ⟨u,D',ι,rfl,T,S',hR,Us.more fun _ h=>.inl h⟩
  ·refine(Lw hM C8 S Us.next hA hf).mono ?_
   rintro e w' ⟨u,B,rfl,T,S',hR⟩
   exact hK _ _ ⟨u,D,_,rfl,T,S',hR,Us.upd⟩
 have quiet:∀(mr:Option Row),eA vo.op (dh env) (fo vo.hid n g) ⟨vo.site,n⟩=some (v,mr)->g'=jY g ⟨vo.site,n⟩ mr->o.wp P a w K Q:=by
  intro mr hq hg
  have Y0:=BG hc hq (S.sub C8) E
  unfold Oper.wp
  cases mr with
  |none=>
   obtain⟨u,gi,hR⟩:=Y0
   rw[gi]
   subst hg
   exact hK _ _ ⟨u,D,ι,rfl,Step.refl _ _ _ _,S,hR,Us.more fun _ h=>.inl h⟩
  |some r=>
   rcases Y0 with⟨u,cells,T,gi,h1,h2,h3,h4,h5,h6⟩|⟨m,gi,P5,Aa⟩|⟨c,gi,P5,Aa⟩
   case inr.inr=>
    rw[gi]
    subst hg P5 Aa
    have fI:w.heap.size<(w.alloc (.chan c #[] false 0 0 false)).heap.size:=by simp
    have S':=S.stay (w':=w.alloc (.chan c #[] false 0 0 false)) (D':=D) (ι':=ι) (fun k hk=>Below.heap_alloc _ _ _ hk) (by simp) (fun _ h=>h) (fun b hd=>Nat.lt_trans (S.dead b hd) fI) (fun _ h=>.inl h) (fun _ _ h=>h)
    have S1:=S.add S' (id:=⟨vo.site,n⟩) (B:=⟨w.heap.size,tP+c,0,some (.chan c)⟩) (r:=⟨true,tP+c,[]⟩) hf (Nat.le_refl _) ⟨rfl,fun cs h=>by simp at h,fun h=>by simp at h,fun m' h=>(by simp at h),fun c' h=>by
     simp only[Option.some.injEq,BK.chan.injEq]at h;subst h
     exact⟨rfl, #[],0,0,(show(w.heap.push (Obj.chan c #[] false 0 0 false))[w.heap.size]? =some (Obj.chan c #[] false 0 0 false) by simp),rfl,fun i cs h=>by simp at h⟩⟩
    exact hK _ _ ⟨_,D,_,rfl,Step.stay S (fun k hk=>Below.heap_alloc _ _ _ hk) (by simp) rfl rfl rfl (fun _ h=>h) (fun _ h=>.inl h) (fA hf),S1,.tN _ _ _ (eE _ _ _) rfl,Us.upd⟩
   case inr.inl=>
    rw[gi]
    subst hg P5 Aa
    have fI:w.heap.size<(w.alloc (.map #[] 0)).heap.size:=by simp
    have S':=S.stay (w':=w.alloc (.map #[] 0)) (D':=D) (ι':=ι) (fun k hk=>Below.heap_alloc _ _ _ hk) (by simp) (fun _ h=>h) (fun b hd=>Nat.lt_trans (S.dead b hd) fI) (fun _ h=>.inl h) (fun _ _ h=>h)
    have S1:=S.add S' (id:=⟨vo.site,n⟩) (B:=⟨w.heap.size,m.lP,0,some (.map m)⟩) (r:=⟨true,m.lP,[]⟩) hf (Nat.le_refl _) ⟨rfl,fun cs h=>by simp at h,fun h=>by simp at h,fun m' h=>by
     simp only[Option.some.injEq,BK.map.injEq]at h;subst h
     exact⟨rfl, #[],0,(show(w.heap.push (Obj.map #[] 0))[w.heap.size]? =some (Obj.map #[] 0) by simp),rfl,⟨fun cs h=>by simp at h,fun x h=>by simp at h,by simp⟩,fun i cs h=>by simp at h⟩,fun c h=>by simp at h⟩
    exact hK _ _ ⟨_,D,_,rfl,Step.stay S (fun k hk=>Below.heap_alloc _ _ _ hk) (by simp) rfl rfl rfl (fun _ h=>h) (fun _ h=>.inl h) (fA hf),S1,.map _ _ _ (eE _ _ _) rfl,Us.upd⟩
   rw[gi]
   subst hg
   have S1:=S.alloc (id:=⟨vo.site,n⟩) (w':=w.alloc (.cells cells T)) rfl hf h1 h2 h3 h4 h5
   refine hK _ _ ⟨u,D,_,rfl,Step.stay S (fun k hk=>Below.heap_alloc _ _ _ hk) (by simp) rfl rfl rfl (fun _ h=>h) (fun _ h=>.inl h) (fA hf),S1,(h6 (lx ι _ _) (eE _ _ _)).frame (fun b hd=>Below.heap_alloc _ _ _ (S.dead b hd)) (fun _ h=>h) (fun _ _ h=>h),Us.upd⟩
 have Vy:fq vo.op (dh env) g ⟨vo.site,n⟩=some (v,g')->(∀O7,F5 P hs a o O7 D ι ⟨vo.site,n⟩ v g'->O7=w->o.wp P a w K Q):=by
  intro _ O7 hE he
  subst he
  obtain⟨u,w',ι',gi,T,S',hR,hι⟩:=hE
  have Mv:Rm P hs D ι O7 U vo.site n a o.dst v g' (a.put o.dst u) w':=⟨u,D,ι',rfl,T,S',hR,fun id hid=>by
   by_cases he:id=⟨vo.site,n⟩
   ·subst he;exact .inr ⟨rfl,.inr rfl⟩
   ·rw[hι id he]at hid
    exact(Us.more (U':=fun x=>U x∨x=vo.site) fun _ h=>Or.inl h) id hid⟩
  unfold Oper.wp
  rcases gi with gi|⟨gi,rfl⟩
  ·rw[gi];exact hK _ _ Mv
  ·rw[gi];exact hK _ _ Mv
 unfold VS at hv
 split at hv
 ·rename_i f args ev
  rw[ev]at hc
  obtain⟨c,ho,lR,Iw,pJ⟩:=EI hc
  refine DK f _ (c.args.map a.eval) hv (qd E pJ) ?_
  simp only[execOp,ho,resolve,lR,Deferred.ofValue,Act.eval,Sem.run_bind,Sem.run_pure,Result.andThen_ok,invoke,Array.empty_append,Array.append_empty]
  exact kj Iw
 ·rename_i x args ev
  obtain⟨f,l,hx,hP⟩:=hv
  rw[ev]at hc
  obtain⟨c,t,ho,lR,rfl,pJ⟩:=vP hc
  obtain⟨first,dv,he,Iw,hL⟩:=yG (v:=a.eval (.tmp t)) hx (E t) (qd E pJ)
  refine DK f _ (first++c.args.map a.eval++dv) hP hL ?_
  simp only[execOp,ho,resolve,lR,he,Deferred.ofValue,Sem.run_bind,Sem.run_pure,Result.andThen_ok,invoke]
  exact kj Iw
 ·rename_i m x y ev
  have lF:=hc
  rw[ev]at lF
  obtain⟨t,x',y',ho,h1,h2,h3⟩:=J7 lF
  have pU:=hv
  rw[ev]at pU
  simp only[fq,Option.map_eq_some_iff,Prod.mk.injEq]at pU
  obtain⟨g1,Ar,rfl,rfl⟩:=pU
  exact Vy hv w (Px S E ho h1 h2 h3 Ar) rfl
 ·rename_i m x y ev
  have lF:=hc
  rw[ev]at lF
  obtain⟨t,e,m',z,i,x',y',rfl,ho,h1,h2,h3,h4,h5,h6,h7⟩:=G3 lF
  have pU:=hv
  rw[ev]at pU
  simp only[fq,Option.bind_eq_some_iff]at pU
  obtain⟨ys,F2,pU⟩:=pU
  exact Vy hv w (L8 S E hf ho h1 h2 h3 h4 h5 h6 h7 F2 pU) rfl
 ·rename_i m x y ev
  have lF:=hc
  rw[ev]at lF
  obtain⟨t,t2,e,m',x',y',rfl,ho,h1,h2,h3,h4⟩:=M7 lF
  have pU:=hv
  rw[ev]at pU
  simp only[fq,Option.bind_eq_some_iff]at pU
  obtain⟨ys,F2,pU⟩:=pU
  exact Vy hv w (SO S E ho h1 h2 h3 h4 F2 pU) rfl
 ·rename_i z x ev
  have lF:=hc
  rw[ev]at lF
  obtain⟨t,e,m',x',ho,h1,h2,h3,h4⟩:=J6 lF
  have pU:=hv
  rw[ev]at pU
  simp only[fq,Option.map_eq_some_iff,Prod.mk.injEq]at pU
  obtain⟨g1,Ar,rfl,rfl⟩:=pU
  exact Vy hv w (Pw S E ho h1 h2 h3 h4 Ar) rfl
 ·rename_i q xs ev
  have lF:=hc
  rw[ev]at lF
  have pU:=hv
  rw[ev]at pU
  simp only[fq,Option.map_eq_some_iff,Prod.mk.injEq]at pU
  obtain⟨g1,Ar,rfl,rfl⟩:=pU
  rcases Uk lF with⟨t,x,k,y,m,z,x',k',y',ho,h1,h2,h3,h4,rfl,rfl⟩|⟨t,t',x,k,m,z,x',k',ho,h1,h2,h3,rfl,rfl⟩
  ·exact Vy hv w (SQ S E ho h1 h2 h3 h4 Ar) rfl
  ·exact Vy hv w (SP S E ho h1 h2 h3 Ar) rfl
 ·obtain⟨mr,hq,hg⟩:=hv
  exact quiet mr hq hg
end
end Go.Proofs.YtainmfbpilopaaaGreatDoor.V

namespace Go.Proofs.YtainmfbpilopaaaGreatDoor.V
open Go.RowKit
variable {P:Program} {w w':World} {D D' D2:Nat->Prop} {ι ι' ι2:Names}
section
variable {g:Rows} {hs:Nat} {env:Env} {a:Act} {o:Oper} {id:Id} {v:AV}
theorem qT {ops:Array Oper} {nt site0 j:Nat} {draw mk:Bool} {bs:Array Nat} {hidden:List (Nat×Bool)} {vo:bL} (h:l8 P ops nt site0 draw mk bs hidden j o=some vo):
  tg P o.op=some vo.op/\vo.dst=o.dst/\vo.site=site0+j/\(∀d,o.dst=some d->d<nt)/\(match o.guard with
   |none=>vo.guard=none
   |some (i,b)=>∃t,(ops[i]?).bind (·.dst)=some t/\vo.guard=some (t,b)):=by
 unfold l8 at h
 simp only[Option.bind_eq_bind,Option.bind_eq_some_iff]at h
 obtain⟨v,hv,gd,hg,h⟩:=h
 split at h
 ·rename_i hd
  simp only[Option.pure_def,Option.some.injEq]at h
  subst h
  refine⟨hv,rfl,rfl,fun d YJ=>?_,?_⟩
  ·rw[YJ]at hd;simpa using hd
  ·unfold Gk at hg
   cases xH:o.guard with
   |none=>rw[xH]at hg;simp at hg;exact hg.symm
   |some p=>
    obtain⟨i,b⟩:=p
    rw[xH]at hg
    dsimp only at hg ⊢
    split at hg
    ·rename_i t ht
     simp at hg;exact⟨t,ht,hg.symm⟩
    ·simp at hg
 ·simp at h
theorem wG {ops:Array Oper} {vo:bL} (E:cY P w D ι env a) (hg:match o.guard with
   |none=>vo.guard=none
   |some (i,b)=>∃t,(ops[i]?).bind (·.dst)=some t/\vo.guard=some (t,b)):aJ vo.guard env=Region.wanted o (yielded ops a.tmps):=by
 unfold Region.wanted
 cases xH:o.guard with
 |none=>rw[xH]at hg;simp only at hg;rw[hg];rfl
 |some p=>
  obtain⟨i,b⟩:=p
  rw[xH]at hg
  obtain⟨t,ht,hv⟩:=hg
  rw[hv]
  simp only[aJ,yielded,ht,Option.bind_some]
  have hr:=E t
  by_cases eu:t<a.tmps.size
  ·have fE:a.tmps[t]? =some a.tmps[t]:=Array.getElem?_eq_getElem eu
   have hd:a.tmps.getD t undef=a.tmps[t]:=by simp[eu]
   rw[hd]at hr
   rw[fE]
   generalize a.tmps[t]=u at hr
   cases he:env t with
   |bool c=>rw[he]at hr;rw[fP hr];simp
   |_=>
    rw[he]at hr
    have:∀c,u≠.bool c:=by
     intro c hu
     subst hu
     cases hr with
     |eP _ _ h=>cases h
    cases u<;>simp_all
  ·have fE:a.tmps[t]? =none:=Array.getElem?_eq_none (Nat.le_of_not_lt eu)
   have hd:a.tmps.getD t undef=undef:=by simp[fE]
   rw[hd]at hr
   rw[fE]
   cases he:env t with
   |bool c=>rw[he]at hr;have:=fP hr;simp[undef]at this
   |_=>simp
theorem ja {dst:Option Nat} {nt:Nat} {u:Value} (E:cY P w D ι env a) (hr:dm P w D ι v u) (hd:∀d,dst=some d->d<nt) (hs:a.tmps.size=nt):cY P w D ι (upd env dst v) (a.put dst u):=by
 intro t
 cases dst with
 |none=>exact E t
 |some d=>
  have eu:d<a.tmps.size:=by rw[hs];exact hd d rfl
  simp only[upd,Act.put]
  by_cases ht:t=d
  ·subst ht
   simp[eu];exact hr
  ·rw[if_neg ht]
   have:(a.tmps.setIfInBounds d u).getD t undef=a.tmps.getD t undef:=by
    simp only[Array.getD_eq_getD_getElem?]
    rw[Array.getElem?_setIfInBounds_ne (fun e=>ht e.symm)]
   rw[this];exact E t
theorem ql {hs:Nat} (E:cY P w D ι env a) (T:Step hs D ι w D' ι' w'):cY P w' D' ι' env a:=fun t=>T.rep (E t)
theorem fy (a:Act) (dst:Option Tmp) (u:Value):(a.put dst u).tmps.size=a.tmps.size:=by cases dst<;>simp[Act.put]
theorem put_defers (a:Act) (dst:Option Tmp) (u:Value):(a.put dst u).defers=a.defers:=by cases dst<;>rfl
theorem BQ {draw:Bool} {vo:bL} {σ:aw} {next:AV->aw->Prop} {U:Nat->Prop} {Q:Exit->Act->World->Prop} {K:Act->World->Prop} (hc:tg P o.op=some vo.op) (hv:fc (Sound P) draw vo env σ next) (S:gK P hs D ι σ.get w) (Us:Used ι σ.next U) (hU:¬U vo.site) (E:cY P w D ι env a)
  (hK:∀v σ' u D' ι' w',next v σ'->Step hs D ι w D' ι' w'->gK P hs D' ι' σ'.get w'->dm P w' D' ι' v u->Used ι' σ'.next (fun s=>U s∨s=vo.site)->σ.next<=σ'.next->K (a.put o.dst u) w'):o.wp P a w K Q:=by
 have close:∀v g',VS (Sound P) σ.next vo env σ.get v g'->next v ⟨g',σ.next⟩->o.wp P a w K Q:=fun v g' h1 h2=>
  Dy hc h1 S Us hU E fun a' w' ⟨u,D',ι',ha,T,S',hR,U'⟩=>by subst ha;exact hK v ⟨g',σ.next⟩ u D' ι' w' h2 T S' hR U' (Nat.le_refl _)
 have NH:∀(f:Nat) (args:List AV) (vs:Array Value),Sound P f args ⟨σ.get,σ.next+1⟩ next->fQ P w D ι args vs->(execOp a.eval o).run P w=.ok (.enter f vs) w->o.wp P a w K Q:=by
  intro f args vs h hA gi
  unfold Oper.wp
  rw[gi]
  refine(h hs D ι w vs S Us.next hA).mono ?_
  rintro e w' ⟨r,g',n',D',ι',u,rfl,hn,T,S',U',hle,hR⟩
  exact hK r ⟨g',n'⟩ u D' ι' w' hn T S' hR (U'.more fun _ h=>h.elim) (Nat.le_trans (Nat.le_succ _) hle)
 unfold fc at hv
 split at hv
 ·rename_i f args ev
  rcases hv with⟨r,hP,hn⟩|⟨_,hX⟩|⟨Dk,sz,rows,hM,hn⟩
  ·exact close r σ.get (by unfold VS;rw[ev];exact .inl ⟨hP,rfl⟩) hn
  rotate_left
  ·exact close _ _ (by unfold VS;rw[ev];exact .inr ⟨Dk,sz,rows,hM,rfl,rfl⟩) hn
  ·have lF:=hc
   rw[ev]at lF
   obtain⟨c,ho,lR,Iw,pJ⟩:=EI lF
   refine NH f _ (c.args.map a.eval) hX (qd E pJ) ?_
   simp only[execOp,ho,resolve,lR,Deferred.ofValue,Act.eval,Sem.run_bind,Sem.run_pure,Result.andThen_ok,invoke,Array.empty_append,Array.append_empty]
   exact kj Iw
 ·rename_i x args ev
  split at hv
  ·rename_i f dv hx
   have w7:yE (dh env x) (args.map (dh env))=some (f,args.map (dh env)++dv):=by rw[hx];rfl
   rcases hv with⟨r,hP,hn⟩|⟨_,hX⟩|⟨Dk,sz,rows,hM,hn⟩
   ·exact close r σ.get (by unfold VS;rw[ev];exact⟨f,_,w7,.inl ⟨hP,rfl⟩⟩) hn
   rotate_left
   ·exact close _ _ (by unfold VS;rw[ev];exact⟨f,_,w7,.inr ⟨Dk,sz,rows,hM,rfl,rfl⟩⟩) hn
   ·have lF:=hc
    rw[ev]at lF
    obtain⟨c,t,ho,lR,rfl,pJ⟩:=vP lF
    obtain⟨first,us,he,Iw,hL⟩:=yG (v:=a.eval (.tmp t)) w7 (E t) (qd E pJ)
    refine NH f _ (first++c.args.map a.eval++us) hX hL ?_
    simp only[execOp,ho,resolve,lR,he,Deferred.ofValue,Sem.run_bind,Sem.run_pure,Result.andThen_ok,invoke]
    exact kj Iw
  ·rename_i f dv hx
   have w7:yE (dh env x) (args.map (dh env))=some (f,dv++args.map (dh env)):=by rw[hx];rfl
   rcases hv with⟨r,hP,hn⟩|⟨_,hX⟩|⟨Dk,sz,rows,hM,hn⟩
   ·exact close r σ.get (by unfold VS;rw[ev];exact⟨f,_,w7,.inl ⟨hP,rfl⟩⟩) hn
   rotate_left
   ·exact close _ _ (by unfold VS;rw[ev];exact⟨f,_,w7,.inr ⟨Dk,sz,rows,hM,rfl,rfl⟩⟩) hn
   ·have lF:=hc
    rw[ev]at lF
    obtain⟨c,t,ho,lR,rfl,pJ⟩:=vP lF
    obtain⟨first,us,he,Iw,hL⟩:=yG (v:=a.eval (.tmp t)) w7 (E t) (qd E pJ)
    refine NH f _ (first++c.args.map a.eval++us) hX hL ?_
    simp only[execOp,ho,resolve,lR,he,Deferred.ofValue,Sem.run_bind,Sem.run_pure,Result.andThen_ok,invoke]
    exact kj Iw
  ·exact hv.elim
 ·rename_i m x y ev
  split at hv
  ·rename_i v' g' he
   exact close v' g' (by unfold VS;rw[ev];rw[ev]at he;exact he) hv
  ·exact hv.elim
 ·rename_i m x y ev
  split at hv
  ·rename_i v' g' he
   exact close v' g' (by unfold VS;rw[ev];rw[ev]at he;exact he) hv
  ·exact hv.elim
 ·rename_i m x y ev
  split at hv
  ·rename_i v' g' he
   exact close v' g' (by unfold VS;rw[ev];rw[ev]at he;exact he) hv
  ·exact hv.elim
 ·rename_i m x ev
  split at hv
  ·rename_i v' g' he
   exact close v' g' (by unfold VS;rw[ev];rw[ev]at he;exact he) hv
  ·exact hv.elim
 ·rename_i m x ev
  split at hv
  ·rename_i v' g' he
   exact close v' g' (by unfold VS;rw[ev];rw[ev]at he;exact he) hv
  ·exact hv.elim
 ·rename_i n1 n2 n3 n4 n5 n6 n7
  split at hv
  ·rename_i v' r hq
   refine close v' (bJ σ.get ⟨vo.site,σ.next⟩ r) ?_ hv
   unfold VS
   split
   ·rename_i h;exact(n1 _ _ h).elim
   ·rename_i h;exact(n2 _ _ h).elim
   ·rename_i h;exact(n3 _ _ _ h).elim
   ·rename_i h;exact(n4 _ _ _ h).elim
   ·rename_i h;exact(n5 _ _ _ h).elim
   ·rename_i h;exact(n6 _ _ h).elim
   ·rename_i h;exact(n7 _ _ h).elim
   ·exact⟨some r,hq,rfl⟩
  ·rename_i v' hq
   refine close v' σ.get ?_ hv
   unfold VS
   split
   ·rename_i h;exact(n1 _ _ h).elim
   ·rename_i h;exact(n2 _ _ h).elim
   ·rename_i h;exact(n3 _ _ _ h).elim
   ·rename_i h;exact(n4 _ _ _ h).elim
   ·rename_i h;exact(n5 _ _ _ h).elim
   ·rename_i h;exact(n6 _ _ h).elim
   ·rename_i h;exact(n7 _ _ h).elim
   ·exact⟨none,hq,rfl⟩
  ·exact hv.elim
structure St (P:Program) (hs nt:Nat) (D:Nat->Prop) (ι:Names) (env:Env) (σ:aw) (a:Act) (w:World):Prop where
 wi:gK P hs D ι σ.get w
 used:Used ι σ.next (fun _=>False)
 env:cY P w D ι env a
 size:a.tmps.size=nt
theorem zp (rest:List Oper) {ops:Array Oper} {nt site0:Nat} {draw mk:Bool} {bs:Array Nat} {hidden:List (Nat×Bool)} {K:Env->aw->Prop} {Q:Exit->Act->World->Prop}:∀(l:List Oper) (vl:List bL) (j:Nat) (env:Env) (σ:aw) (a:Act) (w:World) (D:Nat->Prop) (ι:Names) (U:Nat->Prop),
  allM (l8 P ops nt site0 draw mk bs hidden) l j=some vl->wpOps (Sound P) draw vl K env σ->gK P hs D ι σ.get w->Used ι σ.next U->(∀s,U s->s<site0+j)->cY P w D ι env a->a.tmps.size=nt->
  (∀jl σ' a' w' D' ι',K jl σ'->Step hs D ι w D' ι' w'->St P hs nt D' ι' jl σ' a' w'->a'.defers=a.defers->σ.next<=σ'.next->wpList P ops Q rest a' w')->wpList P ops Q (l++rest) a w:=by
 intro l
 induction l with
 |nil=>
  intro vl j env σ a w D ι U h hv S Us _ E fI hQ
  simp[allM]at h;subst h
  exact hQ env ⟨σ.get,σ.next+1⟩ a w D ι hv (Step.refl _ _ _ _) ⟨S,Us.next,E,fI⟩ rfl (Nat.le_succ _)
 |cons o l ih=>
  intro vl j env σ a w D ι U h hv S Us hU E fI hQ
  simp only[allM,Option.bind_eq_bind,Option.bind_eq_some_iff,Option.pure_def,Option.some.injEq]at h
  obtain⟨vo,lZ,wE,uW,rfl⟩:=h
  obtain⟨hc,hd,Ez,Aq,hg⟩:=qT lZ
  have hw:=wG (ops:=ops) (vo:=vo) E hg
  unfold wpOps at hv
  show wpList P ops Q (o::(l++rest)) a w
  unfold wpList
  rw[<-hw]
  split at hv
  ·rename_i J2
   rw[if_pos J2]
   refine .inl (BQ hc hv S Us (fun h=>by have:=hU _ h;omega) E fun v σ' u D' ι' w' hn T S' hR U' hle=>?_)
   refine ih wE (j+1) (upd env vo.dst v) σ' (a.put o.dst u) w' D' ι' _ uW hn S' U' (fun s Ev=>by
    rcases Ev with h|h
    ·have:=hU _ h;omega
    ·omega) (by rw[hd];exact ja (ql E T) hR Aq fI) (by rw[fy];exact fI) fun jl σ2 a' w2 D2 ι2 hk T2 Pc GI oZ=>hQ jl σ2 a' w2 D2 ι2 hk (T.trans T2) Pc (GI.trans (put_defers _ _ _)) (Nat.le_trans hle oZ)
  ·rename_i J2
   rw[if_neg J2]
   refine ih wE (j+1) (upd env vo.dst .undef) σ (a.put o.dst undef) w D ι U uW hv S Us (fun s Ev=>by have:=hU _ Ev;omega) (by rw[hd];exact ja E dm.undef Aq fI) (by rw[fy];exact fI) fun jl σ2 a' w2 D2 ι2 hk T2 Pc GI oZ=>hQ jl σ2 a' w2 D2 ι2 hk T2 Pc (GI.trans (put_defers _ _ _)) oZ
theorem BA {ops:Array Oper} {nt site0:Nat} {draw mk:Bool} {bs:Array Nat} {hidden:List (Nat×Bool)} {K:Env->aw->Prop} {Q:Exit->Act->World->Prop}:∀(l:List Oper) (vl:List bL) (j:Nat) (env:Env) (σ:aw) (a:Act) (w:World) (D:Nat->Prop) (ι:Names) (U:Nat->Prop),
  allM (l8 P ops nt site0 draw mk bs hidden) l j=some vl->wpOps (Sound P) draw vl K env σ->gK P hs D ι σ.get w->Used ι σ.next U->(∀s,U s->s<site0+j)->cY P w D ι env a->a.tmps.size=nt->
  (∀jl σ' a' w' D' ι',K jl σ'->Step hs D ι w D' ι' w'->St P hs nt D' ι' jl σ' a' w'->a'.defers=a.defers->σ.next<=σ'.next->Q .normal a' w')->wpList P ops Q l a w:=fun l vl j env σ a w D ι U h hv S Us hU E fI hQ=>by
 have:=zp [] l vl j env σ a w D ι U h hv S Us hU E fI hQ
 rwa [List.append_nil]at this
end
end Go.Proofs.YtainmfbpilopaaaGreatDoor.V

namespace Go.Proofs.YtainmfbpilopaaaGreatDoor.V
open Go.RowKit
variable {P:Program} {w w':World} {D D' D2:Nat->Prop} {ι ι' ι2:Names}
section
variable {hs:Nat} {X:gx}
theorem bY {env jB:Env} {x:O} (h:∀t∈iJ x,env t=jB t):dh env x=dh jB x:=by
 cases x with
 |t n=>exact h n (by simp[iJ])
 |_=>rfl
theorem map_congr {env jB:Env} {l:List O} (h:∀t∈l.flatMap iJ,env t=jB t):l.map (dh env)=l.map (dh jB):=
 List.map_congr_left fun x hx=>bY fun t ht=>h t (List.mem_flatMap.2 ⟨x,hx,ht⟩)
theorem rj {env jB:Env} {x:Option O} (h:∀t∈zq x,env t=jB t):x.map (dh env)=x.map (dh jB):=by
 cases x with
 |none=>rfl
 |some y=>simp only[Option.map_some];rw[bY h]
theorem we {env jB:Env} {o:ib} {g:Rows} {id:Id} (h:∀t∈o.im,env t=jB t):eA o (dh env) g id=eA o (dh jB) g id:=by
 cases o<;>simp only[ib.im,List.mem_append]at h<;>simp only[eA]
 case eb x=>rw[bY h]
 case pick c a b=>rw[bY (x:=c) fun t ht=>h t (.inl (.inl ht)),bY (x:=a) fun t ht=>h t (.inl (.inr ht)),bY (x:=b) fun t ht=>h t (.inr ht)]
 case box x=>rw[bY h]
 case build z ps=>
  have:(ps.map fun(x:Nat×Nat×O)=>(x.1,x.2.1,dh env x.2.2))=ps.map fun(x:Nat×Nat×O)=>(x.1,x.2.1,dh jB x.2.2):=List.map_congr_left fun x hx=>by
   rw[bY (x:=x.2.2) fun t ht=>h t (List.mem_flatMap.2 ⟨x,hx,ht⟩)]
  rw[this]
 case nD a b l=>rw[map_congr h]
 case load a n x=>rw[bY h]
 case Dg x=>rw[bY h]
 case bin a b x y=>rw[bY (x:=x) fun t ht=>h t (.inl ht),bY (x:=y) fun t ht=>h t (.inr ht)]
 case sh a x y=>rw[bY (x:=x) fun t ht=>h t (.inl ht),bY (x:=y) fun t ht=>h t (.inr ht)]
 case Ps a x y=>rw[bY (x:=x) fun t ht=>h t (.inl ht),bY (x:=y) fun t ht=>h t (.inr ht)]
 case SR a b x y=>rw[bY (x:=x) fun t ht=>h t (.inl ht),bY (x:=y) fun t ht=>h t (.inr ht)]
 case Yo a b x y=>rw[bY (x:=x) fun t ht=>h t (.inl ht),bY (x:=y) fun t ht=>h t (.inr ht)]
 case Wp a b x=>rw[bY h]
 case Yp a x=>rw[bY h]
 case not x=>rw[bY h]
 case neg x=>rw[bY h]
 case conv k x=>rw[bY h]
 case Ie x=>rw[bY h]
 case slice s x lo hi=>rw[bY (x:=x) fun t ht=>h t (.inl (.inl ht)),rj (x:=lo) fun t ht=>h t (.inl (.inr ht)),rj (x:=hi) fun t ht=>h t (.inr ht)]
 case CZ x lo hi=>rw[bY (x:=x) fun t ht=>h t (.inl (.inl ht)),rj (x:=lo) fun t ht=>h t (.inl (.inr ht)),rj (x:=hi) fun t ht=>h t (.inr ht)]
 case iP k x=>rw[bY h]
 case field a b c x=>rw[bY h]
 case gG s x y=>rw[bY (x:=x) fun t ht=>h t (.inl ht),bY (x:=y) fun t ht=>h t (.inr ht)]
 case Qa n s x y=>rw[bY (x:=x) fun t ht=>h t (.inl ht),bY (x:=y) fun t ht=>h t (.inr ht)]
 case Qd x y=>rw[bY (x:=x) fun t ht=>h t (.inl ht),bY (x:=y) fun t ht=>h t (.inr ht)]
 case ez a b c x y=>rw[bY (x:=x) fun t ht=>h t (.inl ht),bY (x:=y) fun t ht=>h t (.inr ht)]
 case extract i x=>rw[bY h]
 case len x=>rw[bY h]
 case Qq x=>rw[bY h]
 case Ny x=>rw[bY h]
 case Nl x=>rw[bY h]
 case Qy f l=>rw[map_congr h]
 case Qz f l=>rw[map_congr h]
 case mq f l=>rw[map_congr h]
 case k9 z x y=>rw[bY (x:=x) fun t ht=>h t (.inl ht),bY (x:=y) fun t ht=>h t (.inr ht)]
theorem iK {env jB:Env} {o:ib} {g:Rows} {id:Id} (h:∀t∈o.im,env t=jB t):fq o (dh env) g id=fq o (dh jB) g id:=by
 cases o<;>simp only[ib.im,List.mem_append]at h<;>simp only[fq]
 case clear z x=>rw[bY h]
 case mw f l=>rw[map_congr h]
 all_goals rename_i a x y
 all_goals rw[bY (x:=x) fun t ht=>h t (.inl ht),bY (x:=y) fun t ht=>h t (.inr ht)]
theorem LL {n:Nat} {vo:bL} {env jB:Env} {g g':Rows} {v:AV} (h:∀t∈vo.op.im,env t=jB t) (hv:VS X n vo env g v g'):VS X n vo jB g v g':=by
 unfold VS at hv ⊢
 split at hv
 ·rename_i f args ev
  rw[ev]at h
  simp only[ib.im]at h
  rw[<-map_congr h];exact hv
 ·rename_i x args ev
  rw[ev]at h
  simp only[ib.im,List.mem_append]at h
  rw[<-map_congr (l:=args) fun t ht=>h t (.inr ht),<-bY (x:=x) fun t ht=>h t (.inl ht)];exact hv
 ·rw[<-iK h];exact hv
 ·rw[<-iK h];exact hv
 ·rw[<-iK h];exact hv
 ·rw[<-iK h];exact hv
 ·rw[<-iK h];exact hv
 ·rw[<-we h];exact hv
theorem Hd {q:MQ} {vs:List AV} {g:Rows} {id:Id} {v:AV} {r:Row} (h:br q vs g id=some (v,some r)):∃m,q=.new m:=by
 unfold br at h
 split at h
 ·exact⟨_,rfl⟩
 ·simp[Option.bind_eq_some_iff]at h
 ·simp at h
 ·cases h
theorem zx {o:ib} {ρ:O->AV} {g:Rows} {id:Id} {v:AV} {r:Row} (h:eA o ρ g id=some (v,some r)):sR o=true:=by
 cases o<;>simp only[eA]at h<;>(try rfl)<;>(try simp at h)
 case mq q xs=>obtain⟨m,rfl⟩:=Hd h;rfl
 all_goals (try(split at h<;>simp at h))
theorem zz {o:ib} {ρ:O->AV} {g g2:Rows} {id id2:Id} (h:o.cls=.pure):eA o ρ g id=eA o ρ g2 id2:=by
 cases o<;>(try simp[ib.cls]at h)<;>(try simp only[eA])
 case mq q xs=>cases q<;>simp[ib.cls]at h
theorem yu {n:Nat} {vo:bL} {env:Env} {g g':Rows} {v:AV} (hw:vo.op.cls≠.write) (hv:VS X n vo env g v g'):∃mr,g'=jY g ⟨vo.site,n⟩ mr/\(mr≠none->vo.makes=true)/\∀g0,fo vo.hid n g0=fo vo.hid n g->VS X n vo env g0 v (jY g0 ⟨vo.site,n⟩ mr):=by
 unfold VS at hv
 split at hv
 ·rename_i f args ev
  rcases hv with⟨h1,rfl⟩|⟨hs,sz,rows,hM,rfl,rfl⟩
  ·refine⟨none,rfl,fun h=>(h rfl).elim,fun g0 h0=>?_⟩
   unfold VS;rw[ev];simp only;unfold yF;rw[h0];exact .inl ⟨h1,rfl⟩
  ·refine⟨some _,rfl,fun _=>by unfold bL.makes;rw[ev,hs];simp[ib.nK],fun g0 h0=>?_⟩
   unfold VS;rw[ev];simp only;unfold yF;rw[h0];exact .inr ⟨hs,sz,rows,hM,rfl,rfl⟩
 ·rename_i x args ev
  obtain⟨f,dv,hx,hv⟩:=hv
  rcases hv with⟨h1,rfl⟩|⟨hs,sz,rows,hM,rfl,rfl⟩
  ·refine⟨none,rfl,fun h=>(h rfl).elim,fun g0 h0=>?_⟩
   unfold VS;rw[ev];simp only;unfold yF;rw[h0];exact⟨f,dv,hx,.inl ⟨h1,rfl⟩⟩
  ·refine⟨some _,rfl,fun _=>by unfold bL.makes;rw[ev,hs];simp[ib.nK],fun g0 h0=>?_⟩
   unfold VS;rw[ev];simp only;unfold yF;rw[h0];exact⟨f,dv,hx,.inr ⟨hs,sz,rows,hM,rfl,rfl⟩⟩
 ·rename_i ev;rw[ev]at hw;exact(hw rfl).elim
 ·rename_i ev;rw[ev]at hw;exact(hw rfl).elim
 ·rename_i ev;rw[ev]at hw;exact(hw rfl).elim
 ·rename_i ev;rw[ev]at hw;exact(hw rfl).elim
 ·rename_i ev;rw[ev]at hw;exact(hw rfl).elim
 ·rename_i n1 n2 n3 n4 n5 n6 n7
  obtain⟨mr,hq,rfl⟩:=hv
  refine⟨mr,rfl,fun h=>?_,fun g0 h0=>?_⟩
  ·cases mr with
   |none=>exact(h rfl).elim
   |some r=>unfold bL.makes;rw[zx hq];rfl
  ·unfold VS
   split
   ·rename_i hh;exact(n1 _ _ hh).elim
   ·rename_i hh;exact(n2 _ _ hh).elim
   ·rename_i hh;exact(n3 _ _ _ hh).elim
   ·rename_i hh;exact(n4 _ _ _ hh).elim
   ·rename_i hh;exact(n5 _ _ _ hh).elim
   ·rename_i hh;exact(n6 _ _ hh).elim
   ·rename_i hh;exact(n7 _ _ hh).elim
   ·rw[h0];exact⟨mr,hq,rfl⟩
theorem BU {n:Nat} {vo:bL} {env:Env} {g g':Rows} {v:AV} (hp:vo.op.cls=.pure) (hv:VS X n vo env g v g'):g'=g/\∀g0,VS X n vo env g0 v g0:=by
 unfold VS at hv
 split at hv
 ·rename_i ev;rw[ev]at hp;simp[ib.cls]at hp
 ·rename_i ev;rw[ev]at hp;simp[ib.cls]at hp
 ·rename_i ev;rw[ev]at hp;simp[ib.cls]at hp
 ·rename_i ev;rw[ev]at hp;simp[ib.cls]at hp
 ·rename_i ev;rw[ev]at hp;simp[ib.cls]at hp
 ·rename_i ev;rw[ev]at hp;simp[ib.cls]at hp
 ·rename_i ev;rw[ev]at hp;simp[ib.cls]at hp
 ·rename_i n1 n2 n3 n4 n5 n6 n7
  obtain⟨mr,hq,rfl⟩:=hv
  have hmr:mr=none:=by
   cases mr with
   |none=>rfl
   |some r=>have:=zx hq;simp[sR,hp]at this
  subst hmr
  refine⟨rfl,fun g0=>?_⟩
  unfold VS
  split
  ·rename_i hh;exact(n1 _ _ hh).elim
  ·rename_i hh;exact(n2 _ _ hh).elim
  ·rename_i hh;exact(n3 _ _ _ hh).elim
  ·rename_i hh;exact(n4 _ _ _ hh).elim
  ·rename_i hh;exact(n5 _ _ _ hh).elim
  ·rename_i hh;exact(n6 _ _ hh).elim
  ·rename_i hh;exact(n7 _ _ hh).elim
  ·exact⟨none,by rw[zz hp];exact hq,rfl⟩
def GS (X:gx) (n:Nat) (vo:bL) (env:Env) (g:Rows) (v:AV) (g':Rows):Prop:=
 if aJ vo.guard env then VS X n vo env g v g' else v=.undef/\g'=g
theorem FK {hid:List Nat} {g:Rows} {s n:Nat} {mr:Option Row} (h:mr≠none->hid.contains s=true):fo hid n (jY g ⟨s,n⟩ mr)=fo hid n g:=by
 cases mr with
 |none=>rfl
 |some r=>
  have hc:=h (by simp)
  cases hid with
  |nil=>simp at hc
  |cons a l=>
   funext i
   show(if (a::l).contains i.site=true/\i.bG=n then none else jY g ⟨s,n⟩ (some r) i)=if (a::l).contains i.site=true/\i.bG=n then none else g i
   by_cases hi:i=⟨s,n⟩
   ·subst hi;rw[if_pos ⟨hc,rfl⟩,if_pos ⟨hc,rfl⟩]
   ·simp only[jY,bJ,if_neg hi]
theorem Jj {g:Rows} {i j:Id} (h:i≠j) (m1 m2:Option Row):jY (jY g i m1) j m2=jY (jY g j m2) i m1:=by
 cases m1<;>cases m2<;>simp only[jY]
 funext k
 simp only[bJ]
 by_cases h1:k=i
 ·subst h1;rw[if_neg h,if_pos rfl];simp
 ·by_cases h2:k=j
  ·subst h2;simp[h1]
  ·simp[h1,h2]
theorem zW {env:Env} {d e:Option Nat} {v u:AV} (h:∀k,d=some k->e≠some k):upd (upd env d v) e u=upd (upd env e u) d v:=by
 cases d with
 |none=>rfl
 |some d=>
  cases e with
  |none=>rfl
  |some e=>
   have gM:d≠e:=fun he=>h d rfl (by rw[he])
   funext t
   simp only[upd]
   by_cases h1:t=d
   ·subst h1;rw[if_neg gM,if_pos rfl,if_pos rfl]
   ·by_cases h2:t=e
    ·subst h2;rw[if_pos rfl,if_neg h1,if_pos rfl]
    ·simp[h1,h2]
theorem oI {env:Env} {d:Option Nat} {v:AV} {l:List Nat} (h:∀k,d=some k->k∉l):∀t∈l,upd env d v t=env t:=by
 intro t ht
 cases d with
 |none=>rfl
 |some d=>
  have:t≠d:=fun he=>h d rfl (he▸ht)
  simp[upd,this]
structure F6 (x y:bL):Prop where
 xy:∀k,x.dst=some k->k∉y.im
 yx:∀k,y.dst=some k->k∉x.im
 dst:∀k,x.dst=some k->y.dst≠some k
 cls:clash x.op.cls y.op.cls=false
 hx:x.makes=true->y.hid.contains x.site=true
 hy:y.makes=true->x.hid.contains y.site=true
 site:x.site≠y.site
theorem F6.symm {x y:bL} (h:F6 x y):F6 y x:=
 ⟨h.yx,h.xy,fun k hk he=>h.dst k he hk,by have:=h.cls;revert this;cases x.op.cls<;>cases y.op.cls<;>simp[clash],h.hy,h.hx,fun e=>h.site e.symm⟩
theorem sG {x y:bL} (h:Io x y=true):F6 x y:=by
 unfold Io at h
 simp only[Bool.and_eq_true,Bool.not_eq_true',Bool.or_eq_true,bne_iff_ne]at h
 obtain⟨⟨⟨⟨h1,h2⟩,h3⟩,h4⟩,h5⟩:=h
 unfold wD at h1
 simp only[Bool.and_eq_true]at h1
 obtain⟨a1,a2⟩:=h1
 refine⟨fun k hk=>?_,fun k hk=>?_,fun k hk=>?_,h2,fun hm=>?_,fun hm=>?_,h5⟩
 ·rw[hk]at a1;simp at a1;exact a1.1
 ·rw[hk]at a2;simpa using a2
 ·rw[hk]at a1;simp at a1;exact a1.2
 ·rcases h3 with h3|h3
  ·rw[hm]at h3;cases h3
  ·exact h3
 ·rcases h4 with h4|h4
  ·rw[hm]at h4;cases h4
  ·exact h4
theorem uK {vo:bL} {t:Nat} (h:t∈vo.op.im):t∈vo.im:=List.mem_append_left _ h
theorem pk {vo:bL} {env jB:Env} (h:∀t∈vo.im,env t=jB t):aJ vo.guard env=aJ vo.guard jB:=by
 unfold aJ
 cases hg:vo.guard with
 |none=>rfl
 |some p=>
  obtain⟨t,b⟩:=p
  have:env t=jB t:=h t (List.mem_append_right _ (by rw[hg];simp))
  simp only[this]
theorem yl {n:Nat} {vo:bL} {env jB:Env} {g g':Rows} {v:AV} (h:∀t∈vo.im,env t=jB t) (hv:GS X n vo env g v g'):GS X n vo jB g v g':=by
 unfold GS at hv ⊢
 rw[<-pk h]
 split at hv
 ·rename_i hw;rw[if_pos hw];exact LL (fun t ht=>h t (uK ht)) hv
 ·rename_i hw;rw[if_neg hw];exact hv
theorem HX {n:Nat} {x y:bL} {env:Env} {g g1 g2:Rows} {v v':AV} (F:F6 x y) (h1:GS X n x env g v g1) (h2:GS X n y (upd env x.dst v) g1 v' g2):
  ∃OO,GS X n y env g v' OO/\GS X n x (upd env y.dst v') OO v g2/\upd (upd env x.dst v) y.dst v'=upd (upd env y.dst v') x.dst v:=by
 have RY:=zW (env:=env) (v:=v) (u:=v') F.dst
 replace h2:GS X n y env g1 v' g2:=yl (oI F.xy) h2
 have back:∀{OO},GS X n x env OO v g2->GS X n x (upd env y.dst v') OO v g2:=fun h=>yl (fun t ht=>(oI F.yx t ht).symm) h
 unfold GS at h1 h2
 by_cases wx:aJ x.guard env=true
 ·rw[if_pos wx]at h1
  by_cases wy:aJ y.guard env=true
  ·rw[if_pos wy]at h2
   by_cases cx:x.op.cls=.write
   ·have cy:y.op.cls=.pure:=by
     have:=F.cls;rw[cx]at this
     cases hc:y.op.cls<;>simp[clash,hc]at this ⊢
    obtain⟨rfl,ep⟩:=BU cy h2
    exact⟨g,by unfold GS;rw[if_pos wy];exact ep g,back (by unfold GS;rw[if_pos wx];exact h1),RY⟩
   ·by_cases cy:y.op.cls=.write
    ·have cx':x.op.cls=.pure:=by
      have:=F.cls;rw[cy]at this
      cases hc:x.op.cls<;>simp[clash,hc]at this ⊢
     obtain⟨rfl,ep⟩:=BU cx' h1
     exact⟨g2,by unfold GS;rw[if_pos wy];exact h2,back (by unfold GS;rw[if_pos wx];exact ep g2),RY⟩
    ·obtain⟨mx,rfl,kx,ZB⟩:=yu cx h1
     obtain⟨my,rfl,ky,Sz⟩:=yu cy h2
     have gM:(⟨x.site,n⟩:Id)≠⟨y.site,n⟩:=fun e=>F.site (by injection e)
     refine⟨jY g ⟨y.site,n⟩ my,?_,back ?_,RY⟩
     ·unfold GS;rw[if_pos wy]
      exact Sz g (FK fun h=>F.hx (kx h)).symm
     ·unfold GS;rw[if_pos wx,Jj gM]
      exact ZB _ (FK fun h=>F.hy (ky h))
  ·rw[if_neg wy]at h2
   obtain⟨rfl,rfl⟩:=h2
   exact⟨g,by unfold GS;rw[if_neg wy];exact⟨rfl,rfl⟩,back (by unfold GS;rw[if_pos wx];exact h1),RY⟩
 ·rw[if_neg wx]at h1
  obtain⟨rfl,rfl⟩:=h1
  exact⟨g2,h2,back (by unfold GS;rw[if_neg wx];exact⟨rfl,rfl⟩),RY⟩
end
end Go.Proofs.YtainmfbpilopaaaGreatDoor.V

namespace Go.Proofs.YtainmfbpilopaaaGreatDoor.V
open Go.RowKit
variable {P:Program} {w w':World} {D D' D2:Nat->Prop} {ι ι' ι2:Names}
section
variable {hs:Nat} {X:gx}
def jZ (acc:Array Nat) (o:Oper):Nat:=o.after.foldl (fun s e=>if Region.binds .any e then s|||2 ^ e.on|||acc.getD e.on 0 else s) 0
theorem Pm (ops:Array Oper):jO ops=ops.foldl (fun acc o=>acc.push (jZ acc o)) #[]:=rfl
theorem DH {acc:Array Nat} {o:Oper} {i:Nat} (h:(jZ acc o).testBit i=true):∃e∈o.after,Region.binds .any e=true/\(e.on=i∨(acc.getD e.on 0).testBit i=true):=by
 unfold jZ at h
 rw[<-Array.foldl_toList]at h
 have gen:∀(l:List Edge) (s:Nat),(l.foldl (fun s e=>if Region.binds .any e then s|||2 ^ e.on|||acc.getD e.on 0 else s) s).testBit i=true->s.testBit i=true∨∃e∈l,Region.binds .any e=true/\(e.on=i∨(acc.getD e.on 0).testBit i=true):=by
  intro l
  induction l with
  |nil=>intro s h;exact .inl h
  |cons e r ih=>
   intro s h
   rw[List.foldl_cons]at h
   rcases ih _ h with h|⟨e',Cn,h'⟩
   ·by_cases hb:Region.binds .any e=true
    ·rw[if_pos hb]at h
     simp only[Nat.testBit_or,Bool.or_eq_true]at h
     rcases h with(h|h)|h
     ·exact .inl h
     ·refine .inr ⟨e,by simp,hb,.inl ?_⟩
      rw[Nat.testBit_two_pow]at h
      simpa using h
     ·exact .inr ⟨e,by simp,hb,.inr h⟩
    ·rw[if_neg hb]at h;exact .inl h
   ·exact .inr ⟨e',List.mem_cons_of_mem _ Cn,h'⟩
 rcases gen _ _ h with h|⟨e,he,h⟩
 ·simp at h
 ·exact⟨e,Array.mem_toList_iff.1 he,h⟩
theorem LX {ops:Array Oper} {j i:Nat} (h:((jO ops).getD j 0).testBit i=true):∃o,ops[j]? =some o/\∃e∈o.after,Region.binds .any e=true/\(e.on=i∨((jO ops).getD e.on 0).testBit i=true):=by
 have key:∀(l pre:List Oper) (acc:Array Nat),acc.size=pre.length->(∀j i,(acc.getD j 0).testBit i=true->∃o,pre[j]? =some o/\∃e∈o.after,Region.binds .any e=true/\(e.on=i∨(acc.getD e.on 0).testBit i=true))->
   ∀j i,((l.foldl (fun acc o=>acc.push (jZ acc o)) acc).getD j 0).testBit i=true->∃o,(pre++l)[j]? =some o/\∃e∈o.after,Region.binds .any e=true/\(e.on=i∨((l.foldl (fun acc o=>acc.push (jZ acc o)) acc).getD e.on 0).testBit i=true):=by
  intro l
  induction l with
  |nil=>intro pre acc _ h j i hb;simpa using h j i hb
  |cons o r ih=>
   intro pre acc fI h j i hb
   have yd:∀k,k<acc.size->(acc.push (jZ acc o)).getD k 0=acc.getD k 0:=fun k hk=>by
    simp only[Array.getD_eq_getD_getElem?,Array.getElem?_push]
    rw[if_neg ah]
   have big:∀k,acc.size<=k->acc.getD k 0=0:=fun k hk=>by simp[Array.getElem?_eq_none hk]
   have lift:∀k i,(acc.getD k 0).testBit i=true->((acc.push (jZ acc o)).getD k 0).testBit i=true:=fun k i hk=>by
    by_cases eu:k<acc.size
    ·rw[yd k eu];exact hk
    ·rw[big k ah]at hk;simp at hk
   have:=ih (pre++[o]) (acc.push (jZ acc o)) (by simp[fI]) (fun j i hb=>by
    by_cases eu:j<acc.size
    ·rw[yd j eu]at hb
     obtain⟨o',Dj,e,he,gj,h2⟩:=h j i hb
     refine⟨o',by rw[List.getElem?_append_left ah];exact Dj,e,he,gj,?_⟩
     rcases h2 with h2|h2
     ·exact .inl h2
     ·exact .inr (lift _ _ h2)
    ·by_cases hj:j=acc.size
     ·subst hj
      have e0:(acc.push (jZ acc o)).getD acc.size 0=jZ acc o:=by simp
      rw[e0]at hb
      obtain⟨e,he,gj,h2⟩:=DH hb
      refine⟨o,by rw[List.getElem?_append_right ah,fI];simp,e,he,gj,?_⟩
      rcases h2 with h2|h2
      ·exact .inl h2
      ·exact .inr (lift _ _ h2)
     ·have:(acc.push (jZ acc o)).getD j 0=0:=by
       simp only[Array.getD_eq_getD_getElem?]
       rw[Array.getElem?_eq_none (by simp;omega)];rfl
      rw[this]at hb;simp at hb) j i (by simpa using hb)
   simpa using this
 rw[Pm,<-Array.foldl_toList]at h ⊢
 have:=key ops.toList [] #[] rfl (fun j i h=>by simp at h) j i h
 simpa using this
def DC (ops:Array Oper) (listed:Array Bool):Prop:=∀k i,listed.getD k false=true->((jO ops).getD k 0).testBit i=true->listed.getD i false=true
theorem mu {ops:Array Oper} {listed:Array Bool} (h:DC ops listed) {j:Nat} (hj:j∈Region.ready .any ops listed):∀i,((jO ops).getD j 0).testBit i=true->listed.getD i false=true:=by
 intro i hb
 obtain⟨_,o,ho,ep⟩:=mem_ready.1 hj
 obtain⟨o',Dj,e,he,gj,h2⟩:=LX hb
 rw[ho]at Dj;injection Dj with Dj;subst Dj
 have hl:=ep e he gj
 rcases h2 with h2|h2
 ·rw[<-h2];exact hl
 ·exact h _ _ hl h2
theorem DC.list {ops:Array Oper} {listed:Array Bool} (h:DC ops listed) {j:Nat} (hj:j∈Region.ready .any ops listed):DC ops (listed.setIfInBounds j true):=by
 intro k i hk hb
 by_cases hkj:k=j
 ·subst hkj;exact getD_set_true (mu h hj i hb)
 ·rw[getD_set_ne false (fun e=>hkj e.symm)]at hk
  exact getD_set_true (h k i hk hb)
theorem jK {ops:Array Oper} {listed:Array Bool} {j:Nat} (hj:j∈Region.ready .any ops listed):listed.getD j false=false:=by
 have h0:=(mem_ready.1 hj).1
 rcases Nat.lt_or_ge j listed.size with h|h
 ·simp[h]at h0 ⊢;exact h0
 ·simp[Array.getElem?_eq_none h]at h0
def OE (X:gx) (n:Nat) (ops:Array Oper) (vl:List bL) (K:Env->Rows->Prop):Nat->Array Bool->Env->Rows->Prop
 |0,listed,env,g=>Region.ready .any ops listed=[]/\K env g
 |f+1,listed,env,g=>(Region.ready .any ops listed=[]->K env g)/\∀i∈Region.ready .any ops listed,∃vo,vl[i]? =some vo/\∃v g',GS X n vo env g v g'/\OE X n ops vl K f (listed.setIfInBounds i true) (upd env vo.dst v) g'
theorem DS {ops:Array Oper} {vl:List bL} (h:qk ops vl (jO ops)=true) {i j:Nat} {x y:bL} (hi:vl[i]? =some x) (hj:vl[j]? =some y) (Be:i≠j) (h1:((jO ops).getD j 0).testBit i=false) (h2:((jO ops).getD i 0).testBit j=false):F6 x y:=by
 unfold qk at h
 simp only[Bool.and_eq_true,List.all_eq_true]at h
 obtain⟨_,h⟩:=h
 have mem:∀(k:Nat) (z:bL),vl[k]? =some z->(z,k)∈vl.zipIdx:=fun k z hk=>by
  rw[List.mem_iff_getElem?]
  exact⟨k,by simp[List.getElem?_zipIdx,hk]⟩
 rcases Nat.lt_or_gt_of_ne Be with eu|PO
 ·have:=h _ (mem j y hj) _ (mem i x hi)
  simp only[eu,decide_true,Bool.not_true,Bool.false_or,h1]at this
  exact sG this
 ·have:=h _ (mem i x hi) _ (mem j y hj)
  simp only[PO,decide_true,Bool.not_true,Bool.false_or,h2]at this
  exact(sG this).symm
theorem HQ {n:Nat} {ops:Array Oper} {vl:List bL} {K:Env->Rows->Prop} (y4:qk ops vl (jO ops)=true) (hlen:vl.length=ops.size) {i:Nat} {vi:bL} (hi:vl[i]? =some vi) {v:AV}:∀(fuel:Nat) (listed:Array Bool) (env:Env) (g g1:Rows),
  DC ops listed->i∈Region.ready .any ops listed->GS X n vi env g v g1->OE X n ops vl K fuel (listed.setIfInBounds i true) (upd env vi.dst v) g1->OE X n ops vl K (fuel+1) listed env g:=by
 intro fuel
 induction fuel with
 |zero=>
  intro listed env g g1 _ hr hG H
  refine⟨fun h=>(by rw[h]at hr;cases hr),fun j hj=>?_⟩
  by_cases mM:j=i
  ·subst mM;exact⟨vi,hi,v,g1,hG,H⟩
  ·have:=ready_mono hj mM
   rw[H.1]at this;cases this
 |succ fuel ih=>
  intro listed env g g1 uS hr hG H
  refine⟨fun h=>(by rw[h]at hr;cases hr),fun j hj=>?_⟩
  by_cases mM:j=i
  ·subst mM;exact⟨vi,hi,v,g1,hG,H⟩
  ·obtain⟨vj,P6,v',g2,hG2,H2⟩:=H.2 j (ready_mono hj mM)
   have b1:((jO ops).getD j 0).testBit i=false:=by
    cases hb:((jO ops).getD j 0).testBit i with
    |false=>rfl
    |true=>have:=mu uS hj i hb;rw[jK hr]at this;cases this
   have b2:((jO ops).getD i 0).testBit j=false:=by
    cases hb:((jO ops).getD i 0).testBit j with
    |false=>rfl
    |true=>have:=mu uS hr j hb;rw[jK hj]at this;cases this
   have F:=DS y4 hi P6 (fun e=>mM e.symm) b1 b2
   obtain⟨OO,q1,q2,q3⟩:=HX F hG hG2
   refine⟨vj,P6,v',OO,q1,ih _ _ _ g2 (uS.list hj) (ready_mono hr (fun e=>mM e.symm)) q2 ?_⟩
   rw[<-q3,Array.setIfInBounds_comm _ _ mM]
   exact H2
theorem Sv {n:Nat} {vo:bL} {env:Env} {g:Rows} {v:AV} {mr:Option Row} (h:eA vo.op (dh env) (fo vo.hid n g) ⟨vo.site,n⟩=some (v,mr)):VS X n vo env g v (jY g ⟨vo.site,n⟩ mr):=by
 unfold VS
 split
 ·rename_i ev;rw[ev]at h;simp[eA]at h
 ·rename_i ev;rw[ev]at h;simp[eA]at h
 ·rename_i ev;rw[ev]at h;simp[eA]at h
 ·rename_i ev;rw[ev]at h;simp[eA]at h
 ·rename_i ev;rw[ev]at h;simp[eA]at h
 ·rename_i ev;rw[ev]at h;simp[eA]at h
 ·rename_i ev;rw[ev]at h;simp[eA]at h
 ·exact⟨mr,h,rfl⟩
theorem LM {n:Nat} {vo:bL} {env:Env} {g g':Rows} {v:AV} (h:fq vo.op (dh env) g ⟨vo.site,n⟩=some (v,g')):VS X n vo env g v g':=by
 unfold VS
 split
 ·rename_i ev;rw[ev]at h;simp[fq]at h
 ·rename_i ev;rw[ev]at h;simp[fq]at h
 ·exact h
 ·exact h
 ·exact h
 ·exact h
 ·exact h
 ·rename_i n1 n2 n3 n4 n5 n6 n7
  exfalso
  unfold fq at h
  split at h
  ·rename_i hh;exact n3 _ _ _ hh
  ·rename_i hh;exact n4 _ _ _ hh
  ·rename_i hh;exact n5 _ _ _ hh
  ·rename_i hh;exact n6 _ _ hh
  ·rename_i hh;exact n7 _ _ hh
  ·simp at h
theorem UY {vo:bL} {env:Env} {σ:aw} {next:AV->aw->Prop} (hv:fc X true vo env σ next):∃v g',VS X σ.next vo env σ.get v g'/\next v ⟨g',σ.next⟩:=by
 unfold fc at hv
 split at hv
 ·rename_i f args ev
  rcases hv with⟨r,hP,hn⟩|⟨h,_⟩|⟨hs,sz,rows,hM,hn⟩
  ·exact⟨r,σ.get,by unfold VS;rw[ev];exact .inl ⟨hP,rfl⟩,hn⟩
  ·cases h
  ·exact⟨_,_,by unfold VS;rw[ev];exact .inr ⟨hs,sz,rows,hM,rfl,rfl⟩,hn⟩
 ·rename_i x args ev
  split at hv
  ·rename_i f dv hx
   have w7:yE (dh env x) (args.map (dh env))=some (f,args.map (dh env)++dv):=by rw[hx];rfl
   rcases hv with⟨r,hP,hn⟩|⟨h,_⟩|⟨hs,sz,rows,hM,hn⟩
   ·exact⟨r,σ.get,by unfold VS;rw[ev];exact⟨f,_,w7,.inl ⟨hP,rfl⟩⟩,hn⟩
   ·cases h
   ·exact⟨_,_,by unfold VS;rw[ev];exact⟨f,_,w7,.inr ⟨hs,sz,rows,hM,rfl,rfl⟩⟩,hn⟩
  ·rename_i f dv hx
   have w7:yE (dh env x) (args.map (dh env))=some (f,dv++args.map (dh env)):=by rw[hx];rfl
   rcases hv with⟨r,hP,hn⟩|⟨h,_⟩|⟨hs,sz,rows,hM,hn⟩
   ·exact⟨r,σ.get,by unfold VS;rw[ev];exact⟨f,_,w7,.inl ⟨hP,rfl⟩⟩,hn⟩
   ·cases h
   ·exact⟨_,_,by unfold VS;rw[ev];exact⟨f,_,w7,.inr ⟨hs,sz,rows,hM,rfl,rfl⟩⟩,hn⟩
  ·exact hv.elim
 ·split at hv
  ·rename_i v g h;exact⟨v,g,LM h,hv⟩
  ·exact hv.elim
 ·split at hv
  ·rename_i v g h;exact⟨v,g,LM h,hv⟩
  ·exact hv.elim
 ·split at hv
  ·rename_i v g h;exact⟨v,g,LM h,hv⟩
  ·exact hv.elim
 ·split at hv
  ·rename_i v g h;exact⟨v,g,LM h,hv⟩
  ·exact hv.elim
 ·split at hv
  ·rename_i v g h;exact⟨v,g,LM h,hv⟩
  ·exact hv.elim
 ·split at hv
  ·rename_i v r h;exact⟨v,_,Sv h,hv⟩
  ·rename_i v h;exact⟨v,_,Sv h,hv⟩
  ·exact hv.elim
theorem zX {ops:Array Oper} {vl:List bL} {K:Env->aw->Prop} {n:Nat} (y4:qk ops vl (jO ops)=true) (hlen:vl.length=ops.size):∀(r:List bL) (k:Nat) (listed:Array Bool) (env:Env) (g:Rows),
  (∀j,r[j]? =vl[k+j]?)->listed.size=ops.size->(∀i,i<ops.size->listed[i]? =some (decide (i<k)))->k+r.length=ops.size->DC ops listed->wpOps X true r K env ⟨g,n⟩->OE X n ops vl (fun env g=>K env ⟨g,n+1⟩) r.length listed env g
 |[],k,listed,env,g,_,fI,hl,hk,_,hv=>by
  refine⟨?_,hv⟩
  rw[List.eq_nil_iff_forall_not_mem]
  intro j hj
  obtain⟨h0,o,ho,_⟩:=mem_ready.1 hj
  have eu:j<ops.size:=(Array.getElem?_eq_some_iff.1 ho).1
  have:=hl j eu
  simp at hk
  simp[this,show j<k by omega]at h0
 |vo::r,k,listed,env,g,hr,fI,hl,hk,uS,hv=>by
  simp only[List.length_cons]at hk
  have lZ:vl[k]? =some vo:=by simpa using(hr 0).symm
  have lN:k<ops.size:=ah
  have M0:k∈Region.ready .any ops listed:=by
   rw[mem_ready]
   refine⟨by simp[hl k lN],ops[k],Array.getElem?_eq_getElem lN,fun e he hb=>?_⟩
   unfold qk Ig at y4
   simp only[Bool.and_eq_true,List.all_eq_true]at y4
   have hm:(ops[k],k)∈ops.toList.zipIdx:=by
    rw[List.mem_iff_getElem?]
    exact⟨k,by simp[List.getElem?_zipIdx,lN]⟩
   have:=y4.1 _ hm
   rw[Array.all_eq_true_iff_forall_mem]at this
   have:=this e he
   simp only[hb,Bool.not_true,Bool.false_or,decide_eq_true_eq]at this
   simp[hl e.on ah,this]
  have hGS:∃v g',GS X n vo env g v g'/\wpOps X true r K (upd env vo.dst v) ⟨g',n⟩:=by
   unfold wpOps at hv
   unfold GS
   split at hv
   ·rename_i hw
    simp only[hw,if_true]
    exact UY hv
   ·rename_i hw
    simp only[hw]
    exact⟨.undef,g,⟨rfl,rfl⟩,hv⟩
  obtain⟨v,g',h1,h2⟩:=hGS
  refine HQ y4 hlen lZ r.length listed env g g' uS M0 h1 ?_
  refine zX y4 hlen r (k+1) _ _ _ (fun j=>by have:=hr (j+1);simpa[Nat.add_assoc,Nat.add_comm 1 j]using this) (by simp[fI]) (fun i hi=>?_) ah (uS.list M0) h2
  by_cases Bf:i=k
  ·subst Bf;simp[fI,lN]
  ·rw[Array.getElem?_setIfInBounds_ne (fun e=>Bf e.symm),hl i hi]
   congr 1
   have:(i<k)=(i<k+1):=by apply propext;omega
   simp[this]
theorem qc {f:Nat->Oper->Option bL}:∀{l:List Oper} {vl:List bL} {j:Nat},allM f l j=some vl->vl.length=l.length/\∀(i:Nat) (o:Oper),l[i]? =some o->∃vo,vl[i]? =some vo/\f (j+i) o=some vo
 |[],vl,j,h=>by simp[allM]at h;subst h;simp
 |o::l,vl,j,h=>by
  simp only[allM,Option.bind_eq_bind,Option.bind_eq_some_iff,Option.pure_def,Option.some.injEq]at h
  obtain⟨vo,lZ,wE,uW,rfl⟩:=h
  obtain⟨h1,h2⟩:=qc uW
  refine⟨by simp[h1],fun i o' hi=>?_⟩
  cases i with
  |zero=>simp at hi;subst hi;exact⟨vo,rfl,lZ⟩
  |succ i=>
   simp at hi
   obtain⟨q,hq,hf⟩:=h2 i o' hi
   exact⟨q,by simpa using hq,by rw[<-hf];congr 1;omega⟩
theorem AL {ops:Array Oper} {vl:List bL} {nt site0:Nat} {draw mk:Bool} {bs:Array Nat} {hidden:List (Nat×Bool)} {n:Nat} {K:Env->Rows->Prop} {Q:Exit->Act->World->Prop} (ep:allM (l8 P ops nt site0 draw mk bs hidden) ops.toList 0=some vl):
  ∀(fuel:Nat) (listed:Array Bool) (env:Env) (g:Rows) (a:Act) (w:World) (D:Nat->Prop) (ι:Names) (U:Nat->Prop),OE (Sound P) n ops vl K fuel listed env g->gK P hs D ι g w->Used ι n U->(∀s,U s->∃i,s=site0+i/\listed.getD i false=true)->cY P w D ι env a->a.tmps.size=nt->
  (∀jl g' a' w' D' ι' U',K jl g'->Step hs D ι w D' ι' w'->gK P hs D' ι' g' w'->Used ι' n U'->cY P w' D' ι' jl a'->a'.tmps.size=nt->a'.defers=a.defers->Q .normal a' w')->wpAny P .any ops Q fuel listed a w:=by
 intro fuel
 induction fuel with
 |zero=>intro listed env g a w D ι U h S Us hU E fI hQ;exact⟨h.1,hQ env g a w D ι U h.2 (Step.refl _ _ _ _) S Us E fI rfl⟩
 |succ fuel ih=>
  intro listed env g a w D ι U h S Us hU E fI hQ
  refine⟨fun hr=>hQ env g a w D ι U (h.1 hr) (Step.refl _ _ _ _) S Us E fI rfl,fun i hi=>?_⟩
  obtain⟨vo,lZ,v,g',hG,RU⟩:=h.2 i hi
  obtain⟨_,o,ho,_⟩:=mem_ready.1 hi
  obtain⟨vo',oq,WQ⟩:=(qc ep).2 i o (by simpa using ho)
  rw[lZ]at oq;injection oq with oq;subst oq
  rw[Nat.zero_add]at WQ
  obtain⟨hc,hd,Ez,Aq,hg⟩:=qT WQ
  have hw:=wG (ops:=ops) (vo:=vo) E hg
  have hUi:¬U vo.site:=fun hu=>by
   obtain⟨i',he,hl⟩:=hU _ hu
   have:i'=i:=ah
   subst this
   rw[jK hi]at hl;cases hl
  have kC:i<listed.size:=by
   have h0:=(mem_ready.1 hi).1
   rcases Nat.lt_or_ge i listed.size with h|h
   ·exact h
   ·simp[Array.getElem?_eq_none h]at h0
  unfold wpOp
  simp only[ho]
  rw[<-hw]
  unfold GS at hG
  by_cases J2:aJ vo.guard env=true
  ·rw[if_pos J2]
   rw[if_pos J2]at hG
   refine .inl (Dy hc hG S Us hUi E fun a' w' ⟨u,D',ι',ha,T,S',hR,U'⟩=>?_)
   subst ha
   refine ih _ _ _ _ w' D' ι' _ RU S' U' (fun s Ev=>?_) (by rw[hd];exact ja (ql E T) hR Aq fI) (by rw[fy];exact fI) fun jl g2 a2 w2 D2 ι2 U2 hk T2 S2 ZA E2 kJ GI=>hQ jl g2 a2 w2 D2 ι2 U2 hk (T.trans T2) S2 ZA E2 kJ (GI.trans (put_defers _ _ _))
   rcases Ev with h|h
   ·obtain⟨i',he,hl⟩:=hU _ h
    exact⟨i',he,getD_set_true hl⟩
   ·exact⟨i,by rw[h,Ez],by simp[kC]⟩
  ·rw[if_neg J2]
   rw[if_neg J2]at hG
   obtain⟨rfl,rfl⟩:=hG
   refine ih _ _ _ _ w D ι U RU S Us (fun s Ev=>?_) (by rw[hd];exact ja E dm.undef Aq fI) (by rw[fy];exact fI) fun jl g2 a2 w2 D2 ι2 U2 hk T2 S2 ZA E2 kJ GI=>hQ jl g2 a2 w2 D2 ι2 U2 hk T2 S2 ZA E2 kJ (GI.trans (put_defers _ _ _))
   obtain⟨i',he,hl⟩:=hU _ Ev
   exact⟨i',he,getD_set_true hl⟩
end
end Go.Proofs.YtainmfbpilopaaaGreatDoor.V

namespace Go.Proofs.YtainmfbpilopaaaGreatDoor.V
open Go.RowKit
variable {P:Program} {w w':World} {D D' D2:Nat->Prop} {ι ι' ι2:Names}
section
variable {hs:Nat} {X:gx}
def rZ (X:gx):Prop:=∀f args σ K K',(∀r σ',K r σ'->K' r σ')->X f args σ K->X f args σ K'
theorem l7:rZ (Sound P):=fun _ _ _ _ _ hK h hs D ι w vs S U A=>
 (h hs D ι w vs S U A).mono fun _ _ ⟨r,g',n',D',ι',u,he,hk,rest⟩=>⟨r,g',n',D',ι',u,he,hK _ _ hk,rest⟩
def step (X:gx) (vo:bL) (N:Env->aw->Prop) (env:Env) (σ:aw):Prop:=
 if aJ vo.guard env then fc X false vo env σ fun v σ'=>N (upd env vo.dst v) σ' else N (upd env vo.dst .undef) σ
theorem sr (hK:rZ X) {draw:Bool} {hid:List Nat} {site f:Nat} {args:List AV} {σ:aw} {n n':AV->aw->Prop} (hn:∀v σ',n v σ'->n' v σ') (hp:cr X draw hid site f args σ n):cr X draw hid site f args σ n':=by
 rcases hp with⟨r,h1,h2⟩|⟨h1,h2⟩|⟨h1,sz,rows,h2,h3⟩
 ·exact .inl ⟨r,h1,hn _ _ h2⟩
 ·exact .inr (.inl ⟨h1,hK _ _ _ _ _ hn h2⟩)
 ·exact .inr (.inr ⟨h1,sz,rows,h2,hn _ _ h3⟩)
theorem FL (hK:rZ X) {draw:Bool} {o:bL} {env:Env} {σ:aw} {n n':AV->aw->Prop} (hn:∀v σ',n v σ'->n' v σ') (hp:fc X draw o env σ n):fc X draw o env σ n':=by
 unfold fc at hp ⊢
 split at hp
 ·exact sr hK hn hp
 ·split at hp
  ·exact sr hK hn hp
  ·exact sr hK hn hp
  ·exact hp.elim
 ·split at hp
  ·exact hn _ _ hp
  ·exact hp.elim
 ·split at hp
  ·exact hn _ _ hp
  ·exact hp.elim
 ·split at hp
  ·exact hn _ _ hp
  ·exact hp.elim
 ·split at hp
  ·exact hn _ _ hp
  ·exact hp.elim
 ·split at hp
  ·exact hn _ _ hp
  ·exact hp.elim
 ·split at hp
  ·exact hn _ _ hp
  ·exact hn _ _ hp
  ·exact hp.elim
theorem kZ (hK:rZ X) {vo:bL} {N N':Env->aw->Prop} (h:∀e s,N e s->N' e s) {env:Env} {σ:aw} (hp:step X vo N env σ):step X vo N' env σ:=by
 unfold step at hp ⊢
 split at hp
 ·rename_i hw;rw[if_pos hw];exact FL hK (fun v σ'=>h _ _) hp
 ·rename_i hw;rw[if_neg hw];exact h _ _ hp
theorem Le {env jB:Env} {vo:bL} {σ:aw} {n:AV->aw->Prop} (h:∀t∈vo.op.im,env t=jB t) (hv:fc X false vo env σ n):fc X false vo jB σ n:=by
 unfold fc at hv ⊢
 split at hv
 ·rename_i f args ev
  rw[ev]at h
  simp only[ib.im]at h
  rw[<-map_congr h];exact hv
 ·rename_i x args ev
  rw[ev]at h
  simp only[ib.im,List.mem_append]at h
  rw[<-map_congr (l:=args) fun t ht=>h t (.inr ht),<-bY (x:=x) fun t ht=>h t (.inl ht)];exact hv
 ·rw[<-iK h];exact hv
 ·rw[<-iK h];exact hv
 ·rw[<-iK h];exact hv
 ·rw[<-iK h];exact hv
 ·rw[<-iK h];exact hv
 ·rw[<-we h];exact hv
theorem nA {x:bL} (hq:mo x=true) {N:Env->aw->Prop} {env:Env} {σ:aw}:step X x N env σ↔∃v g',GS X σ.next x env σ.get v g'/\N (upd env x.dst v) ⟨g',σ.next⟩:=by
 unfold mo at hq
 simp only[Bool.and_eq_true,Bool.not_eq_true',bne_iff_ne]at hq
 obtain⟨z8,vK⟩:=hq
 unfold step GS
 by_cases hw:aJ x.guard env=true
 ·rw[if_pos hw]
  simp only[hw,if_true]
  unfold fc
  split
  ·rename_i ev;simp[ev,ib.nK]at z8
  ·rename_i ev;simp[ev,ib.nK]at z8
  ·rename_i ev;simp[ev,ib.cls]at vK
  ·rename_i ev;simp[ev,ib.cls]at vK
  ·rename_i ev;simp[ev,ib.cls]at vK
  ·rename_i ev;simp[ev,ib.cls]at vK
  ·rename_i ev;simp[ev,ib.cls]at vK
  ·rename_i n1 n2 n3 n4 n5 n6 n7
   have hVS:∀v g',VS X σ.next x env σ.get v g'↔∃mr,eA x.op (dh env) (fo x.hid σ.next σ.get) ⟨x.site,σ.next⟩=some (v,mr)/\g'=jY σ.get ⟨x.site,σ.next⟩ mr:=fun v g'=>by
    unfold VS
    split
    ·rename_i hh;exact(n1 _ _ hh).elim
    ·rename_i hh;exact(n2 _ _ hh).elim
    ·rename_i hh;exact(n3 _ _ _ hh).elim
    ·rename_i hh;exact(n4 _ _ _ hh).elim
    ·rename_i hh;exact(n5 _ _ _ hh).elim
    ·rename_i hh;exact(n6 _ _ hh).elim
    ·rename_i hh;exact(n7 _ _ hh).elim
    ·exact Iff.rfl
   simp only[hVS]
   cases hz:eA x.op (dh env) (fo x.hid σ.next σ.get) ⟨x.site,σ.next⟩with
   |none=>
    exact⟨fun h=>h.elim,fun⟨v,g',⟨mr,h,_⟩,_⟩=>by cases h⟩
   |some p=>
    obtain⟨v,mr⟩:=p
    have key:∀(v':AV) (g':Rows),(∃V0,some (v,mr)=some (v',V0)/\g'=jY σ.get ⟨x.site,σ.next⟩ V0)↔v'=v/\g'=jY σ.get ⟨x.site,σ.next⟩ mr:=fun v' g'=>by
     constructor
     ·rintro⟨V0,h1,h2⟩
      injection h1 with h1;injection h1 with h1 h3
      subst h1;subst h3
      exact⟨rfl,h2⟩
     ·rintro⟨rfl,rfl⟩;exact⟨mr,rfl,rfl⟩
    have fin:(∃v' g',(∃V0,some (v,mr)=some (v',V0)/\g'=jY σ.get ⟨x.site,σ.next⟩ V0)/\N (upd env x.dst v') ⟨g',σ.next⟩)↔N (upd env x.dst v) ⟨jY σ.get ⟨x.site,σ.next⟩ mr,σ.next⟩:=by
     constructor
     ·rintro⟨v',g',h,hN⟩
      obtain⟨rfl,rfl⟩:=(key v' g').1 h
      exact hN
     ·intro hN;exact⟨v,_,(key _ _).2 ⟨rfl,rfl⟩,hN⟩
    cases mr with
    |none=>exact fin.symm
    |some r=>exact fin.symm
 ·rw[if_neg hw]
  simp only[if_neg hw]
  exact⟨fun h=>⟨_,_,⟨rfl,rfl⟩,h⟩,fun⟨v,g',⟨hv,hg⟩,h⟩=>by rw[hv,hg]at h;exact h⟩
def xv (x:bL) (env:Env) (v:AV):Prop:=if aJ x.guard env then eA x.op (dh env) (fun _=>none) ⟨0,0⟩=some (v,none)else v=.undef
theorem zu {x:bL} (hp:x.op.cls=.pure):mo x=true:=by
 unfold mo
 rw[hp]
 cases hc:x.op<;>simp[hc,ib.cls]at hp<;>rfl
theorem wz {x:bL} (hp:x.op.cls=.pure) {N:Env->aw->Prop} {env:Env} {σ:aw}:step X x N env σ↔∃v,xv x env v/\N (upd env x.dst v) σ:=by
 rw[nA (zu hp)]
 unfold GS xv
 by_cases hw:aJ x.guard env=true
 ·simp only[hw,if_true]
  constructor
  ·rintro⟨v,g',h,hN⟩
   obtain⟨rfl,ep⟩:=BU hp h
   refine⟨v,?_,hN⟩
   unfold VS at h
   split at h
   ·rename_i ev;rw[ev]at hp;simp[ib.cls]at hp
   ·rename_i ev;rw[ev]at hp;simp[ib.cls]at hp
   ·rename_i ev;rw[ev]at hp;simp[ib.cls]at hp
   ·rename_i ev;rw[ev]at hp;simp[ib.cls]at hp
   ·rename_i ev;rw[ev]at hp;simp[ib.cls]at hp
   ·rename_i ev;rw[ev]at hp;simp[ib.cls]at hp
   ·rename_i ev;rw[ev]at hp;simp[ib.cls]at hp
   ·obtain⟨mr,hq,_⟩:=h
    have hmr:mr=none:=by
     cases mr with
     |none=>rfl
     |some r=>have:=zx hq;simp[sR,hp]at this
    subst hmr
    rw[<-zz (g:=fo x.hid σ.next σ.get) (id:=⟨x.site,σ.next⟩) hp];exact hq
  ·rintro⟨v,h,hN⟩
   exact⟨v,σ.get,Sv (mr:=none) (by rw[zz (g2:=fun _=>none) (id2:=⟨0,0⟩) hp];exact h),hN⟩
 ·simp only[if_neg hw]
  exact⟨fun⟨v,g',⟨hv,hg⟩,h⟩=>⟨v,hv,by rw[hg]at h;exact h⟩,fun⟨v,hv,h⟩=>⟨v,σ.get,⟨hv,rfl⟩,h⟩⟩
theorem OK {x:bL} {env jB:Env} {v:AV} (h:∀t∈x.im,env t=jB t) (hv:xv x env v):xv x jB v:=by
 unfold xv at hv ⊢
 rw[<-pk h,<-we fun t ht=>h t (uK ht)];exact hv
structure Rn (x y:bL):Prop where
 xy:∀k,x.dst=some k->k∉y.im
 yx:∀k,y.dst=some k->k∉x.im
 dst:∀k,x.dst=some k->y.dst≠some k
theorem uM {x y:bL} (h:wD x y=true):Rn x y:=by
 unfold wD at h
 simp only[Bool.and_eq_true]at h
 obtain⟨a1,a2⟩:=h
 refine⟨fun k hk=>?_,fun k hk=>?_,fun k hk=>?_⟩
 ·rw[hk]at a1;simp at a1;exact a1.1
 ·rw[hk]at a2;simpa using a2
 ·rw[hk]at a1;simp at a1;exact a1.2
theorem A7 {x y:bL} (h:A6 x y=true):(Rn x y/\x.op.cls=.pure)∨(F6 x y/\mo x=true/\mo y=true):=by
 unfold A6 at h
 simp only[Bool.or_eq_true,Bool.and_eq_true,beq_iff_eq]at h
 rcases h with⟨h1,h2⟩|⟨⟨h1,h2⟩,h3⟩
 ·exact .inl ⟨uM h1,h2⟩
 ·exact .inr ⟨sG h1,h2,h3⟩
theorem D9 {x y:bL} (h:A6 x y=true):mo x=true:=by
 rcases A7 h with h|h
 ·exact zu h.2
 ·exact h.2.1
theorem KV (hK:rZ X) {x y:bL} (hf:A6 x y=true) {N:Env->aw->Prop} {env:Env} {σ:aw} (h:step X x (fun e s=>step X y N e s) env σ):step X y (fun e s=>step X x N e s) env σ:=by
 rcases A7 hf with⟨F,hp⟩|⟨F,hx,hy⟩
 ·rw[wz hp]at h
  obtain⟨v,hx,h⟩:=h
  have RY:=fun(v':AV)=>zW (env:=env) (v:=v) (u:=v') F.dst
  have qw:=oI (env:=env) (v:=v) F.xy
  have back:∀(v':AV),xv x (upd env y.dst v') v:=fun v'=>OK (fun t ht=>(oI F.yx t ht).symm) hx
  unfold step at h ⊢
  rw[pk qw]at h
  split at h
  ·rename_i hw
   rw[if_pos hw]
   refine FL hK (fun v' σ' hN=>?_) (Le (fun t ht=>qw t (uK ht)) h)
   rw[RY]at hN
   exact(wz hp).2 ⟨v,back v',hN⟩
  ·rename_i hw
   rw[if_neg hw]
   rw[RY]at h
   exact(wz hp).2 ⟨v,back _,h⟩
 ·rw[nA hx]at h
  obtain⟨v,g1,h1,h⟩:=h
  rw[nA hy]at h
  obtain⟨v',g2,h2,h⟩:=h
  obtain⟨OO,q1,q2,q3⟩:=HX F h1 h2
  rw[q3]at h
  exact(nA hy).2 ⟨v',OO,q1,(nA hx).2 ⟨v,g2,q2,h⟩⟩
def C9 (X:gx) (ops:Array Oper) (vl:List bL) (K:Env->aw->Prop):Nat->Array Bool->Env->aw->Prop
 |0,listed,env,σ=>Region.ready .any ops listed=[]/\K env ⟨σ.get,σ.next+1⟩
 |f+1,listed,env,σ=>(Region.ready .any ops listed=[]->K env ⟨σ.get,σ.next+1⟩)/\∀i∈Region.ready .any ops listed,∃vo,vl[i]? =some vo/\step X vo (fun e s=>C9 X ops vl K f (listed.setIfInBounds i true) e s) env σ
theorem Gu {ops:Array Oper} {vl:List bL} {bs:Array Nat} {listed:Array Bool} {i:Nat} (h:sF ops vl bs listed i=true) (j:Nat):sF ops vl bs (listed.setIfInBounds j true) i=true:=by
 unfold sF at h ⊢
 split at h
 ·rename_i x hx
  simp only[List.all_eq_true,Bool.or_eq_true]at h ⊢
  intro k hk
  rcases h k hk with((h|h)|h)|h
  ·exact .inl (.inl (.inl (getD_set_true h)))
  ·exact .inl (.inl (.inr h))
  ·exact .inl (.inr h)
  ·exact .inr h
 ·cases h
theorem wN {ops:Array Oper} {vl:List bL} {listed:Array Bool} {i j:Nat} {vi:bL} (uS:DC ops listed) (h:sF ops vl (jO ops) listed i=true) (hi:vl[i]? =some vi) (hr:i∈Region.ready .any ops listed) (hj:j∈Region.ready .any ops listed) (mM:j≠i):∃vj,vl[j]? =some vj/\A6 vi vj=true:=by
 unfold sF at h
 rw[hi]at h
 simp only[List.all_eq_true,Bool.or_eq_true,beq_iff_eq]at h
 obtain⟨_,o,ho,_⟩:=mem_ready.1 hj
 rcases h j (List.mem_range.2 (Array.getElem?_eq_some_iff.1 ho).1)with((h|h)|h)|h
 ·rw[jK hj]at h;cases h
 ·exact absurd h mM
 ·have:=mu uS hj i h
  rw[jK hr]at this;cases this
 ·split at h
  ·rename_i y hy;exact⟨y,hy,h⟩
  ·cases h
theorem HT (hK:rZ X) {ops:Array Oper} {vl:List bL} {K:Env->aw->Prop} {i:Nat} {vi:bL} (hi:vl[i]? =some vi):∀(fuel:Nat) (listed:Array Bool) (env:Env) (σ:aw),
  DC ops listed->i∈Region.ready .any ops listed->sF ops vl (jO ops) listed i=true->step X vi (fun e s=>C9 X ops vl K fuel (listed.setIfInBounds i true) e s) env σ->C9 X ops vl K (fuel+1) listed env σ:=by
 intro fuel
 induction fuel with
 |zero=>
  intro listed env σ uS hr jy H
  refine⟨fun h=>(by rw[h]at hr;cases hr),fun j hj=>?_⟩
  by_cases mM:j=i
  ·subst mM;exact⟨vi,hi,H⟩
  ·obtain⟨vj,P6,WW⟩:=wN uS jy hi hr hj mM
   rw[nA (D9 WW)]at H
   obtain⟨v,g',_,H⟩:=H
   have:=ready_mono hj mM
   rw[H.1]at this;cases this
 |succ fuel ih=>
  intro listed env σ uS hr jy H
  refine⟨fun h=>(by rw[h]at hr;cases hr),fun j hj=>?_⟩
  by_cases mM:j=i
  ·subst mM;exact⟨vi,hi,H⟩
  ·obtain⟨vj,P6,WW⟩:=wN uS jy hi hr hj mM
   refine⟨vj,P6,?_⟩
   have H2:step X vi (fun e s=>step X vj (fun e s=>C9 X ops vl K fuel ((listed.setIfInBounds i true).setIfInBounds j true) e s) e s) env σ:=kZ hK (fun e s h=>by
    obtain⟨vj',Cs,h'⟩:=h.2 j (ready_mono hj mM)
    rw[P6]at Cs;injection Cs with Cs;subst Cs
    exact h') H
   refine kZ hK (fun e s h=>?_) (KV hK WW H2)
   refine ih _ _ _ (uS.list hj) (ready_mono hr (fun e=>mM e.symm)) (Gu jy j) ?_
   rw[Array.setIfInBounds_comm _ _ mM]
   exact h
theorem wj {x:bL} (hg:x.guard=none) {N:Env->aw->Prop} {env:Env} {σ:aw}:step X x N env σ=fc X false x env σ (fun v σ'=>N (upd env x.dst v) σ'):=by
 unfold step
 rw[hg]
 simp[aJ]
theorem HC {x y:bL} {t s sz:Nat} {ys:O} (hx:x.op=.append sz (.t t) ys) (hg:x.guard=none) (hf:Im s x y=true) {N:Env->aw->Prop} {env:Env} {σ:aw} (hl:Qr t s ys env σ.next) (h:step X x (fun e s=>step X y N e s) env σ):
  step X y (fun e σ'=>Qr t s ys e σ'.next/\step X x N e σ') env σ:=by
 unfold Im at hf
 simp only[Bool.and_eq_true,bne_iff_ne]at hf
 obtain⟨⟨⟨⟨⟨f1,hq⟩,f3⟩,f4⟩,f5⟩,f6⟩:=hf
 have F:=uM f1
 obtain⟨⟨len,ht⟩,hsrc⟩:=hl
 have M5:∀k∈x.op.im,∀v',upd env y.dst v' k=env k:=fun k hk v'=>oI (env:=env) (v:=v') F.yx k (uK hk)
 have dZ:t∈x.op.im:=by rw[hx];simp[ib.im,iJ]
 have F2:∀v',dh (upd env y.dst v') ys=dh env ys:=fun v'=>(bY fun k hk=>by rw[M5 k (by rw[hx];simp[ib.im,hk])]).symm
 rw[wj hg]at h
 unfold fc at h
 simp only[hx,fq]at h
 have ex:dh env (.t t)=.own ⟨s,σ.next⟩ 0 len:=ht
 rw[ex]at h
 cases hr:bj σ.get (dh env ys)with
 |none=>rw[hr]at h;exact h.elim
 |some rs=>
  rw[hr]at h
  simp only[Option.bind_some,aT]at h
  cases JW:σ.get ⟨s,σ.next⟩with
  |none=>rw[JW]at h;exact h.elim
  |some r=>
   rw[JW]at h
   simp only[Option.bind_some]at h
   split at h
   ·rename_i v g1 hv
    split at hv
    ·rename_i hcond
     simp only[Option.some.injEq,Prod.mk.injEq]at hv
     obtain⟨rfl,rfl⟩:=hv
     rw[nA hq]at h
     obtain⟨v',g2,hG,hN⟩:=h
     have PS:(⟨y.site,σ.next⟩:Id)≠⟨s,σ.next⟩:=fun e=>f5 (by injection e)
     have MS:(⟨y.site,σ.next⟩:Id)≠⟨x.site,σ.next⟩:=fun e=>f6 (by injection e)
     replace hG:GS X σ.next y env (bJ (bV σ.get ⟨s,σ.next⟩) ⟨x.site,σ.next⟩ ⟨true,sz,r.rows++rs⟩) v' g2:=yl (oI F.xy) hG
     have hvis:fo y.hid σ.next σ.get=fo y.hid σ.next (bJ (bV σ.get ⟨s,σ.next⟩) ⟨x.site,σ.next⟩ ⟨true,sz,r.rows++rs⟩):=by
      cases hh:y.hid with
      |nil=>rw[hh]at f3;simp at f3
      |cons a l=>
       rw[hh]at f3 f4
       funext i
       show(if (a::l).contains i.site=true/\i.bG=σ.next then none else σ.get i)=if (a::l).contains i.site=true/\i.bG=σ.next then none else _
       by_cases h1:i=⟨x.site,σ.next⟩
       ·subst h1;rw[if_pos ⟨f4,rfl⟩,if_pos ⟨f4,rfl⟩]
       ·by_cases h2:i=⟨s,σ.next⟩
        ·subst h2;rw[if_pos ⟨f3,rfl⟩,if_pos ⟨f3,rfl⟩]
        ·simp only[bJ,bV,if_neg h1,if_neg h2]
     obtain⟨my,Tz,hG'⟩:∃my,g2=jY (bJ (bV σ.get ⟨s,σ.next⟩) ⟨x.site,σ.next⟩ ⟨true,sz,r.rows++rs⟩) ⟨y.site,σ.next⟩ my/\GS X σ.next y env σ.get v' (jY σ.get ⟨y.site,σ.next⟩ my):=by
      unfold GS at hG ⊢
      by_cases wy:aJ y.guard env=true
      ·rw[if_pos wy]at hG
       have hcw:y.op.cls≠.write:=by
        unfold mo at hq
        simp only[Bool.and_eq_true,bne_iff_ne]at hq
        exact hq.2
       obtain⟨my,rfl,_,Sz⟩:=yu hcw hG
       exact⟨my,rfl,by rw[if_pos wy];exact Sz _ hvis⟩
      ·rw[if_neg wy]at hG
       obtain⟨rfl,rfl⟩:=hG
       exact⟨none,rfl,by rw[if_neg wy];exact⟨rfl,rfl⟩⟩
     subst Tz
     refine(nA hq).2 ⟨v',_,hG',⟨⟨len,by rw[M5 t dZ];exact ht⟩,fun id o l he=>hsrc id o l (by rw[<-F2 v'];exact he)⟩,?_⟩
     rw[wj hg]
     unfold fc
     have ex':dh (upd env y.dst v') (.t t)=.own ⟨s,σ.next⟩ 0 len:=by
      show upd env y.dst v' t= _
      rw[M5 t dZ];exact ht
     simp only[hx,fq,ex',F2 v']
     have lH:bj (jY σ.get ⟨y.site,σ.next⟩ my) (dh env ys)=some rs:=by
      cases my with
      |none=>exact hr
      |some row=>
       revert hr
       cases hev:dh env ys<;>simp only[bj,jY]<;>try exact fun h=>h
       rename_i id o l
       have:id≠⟨y.site,σ.next⟩:=fun e=>hsrc id o l hev (by rw[e])
       simp only[bJ,if_neg this];exact fun h=>h
     have hgs':jY σ.get ⟨y.site,σ.next⟩ my ⟨s,σ.next⟩=some r:=by
      cases my with
      |none=>exact JW
      |some row=>simp only[jY,bJ,if_neg (fun e=>PS e.symm:(⟨s,σ.next⟩:Id)≠⟨y.site,σ.next⟩)];exact JW
     rw[lH]
     simp only[Option.bind_some,aT,hgs']
     rw[if_pos hcond]
     have W7:bJ (bV (jY σ.get ⟨y.site,σ.next⟩ my) ⟨s,σ.next⟩) ⟨x.site,σ.next⟩ ⟨true,sz,r.rows++rs⟩=jY (bJ (bV σ.get ⟨s,σ.next⟩) ⟨x.site,σ.next⟩ ⟨true,sz,r.rows++rs⟩) ⟨y.site,σ.next⟩ my:=by
      cases my with
      |none=>rfl
      |some row=>
       funext i
       simp only[jY,bJ,bV]
       by_cases h1:i=⟨y.site,σ.next⟩
       ·subst h1;rw[if_neg MS,if_neg PS,if_pos rfl,if_pos rfl]
       ·simp only[if_neg h1]
     have hu:=zW (env:=env) (v:=AV.own ⟨x.site,σ.next⟩ 0 (len+rs.length)) (u:=v') F.dst
     show N (upd (upd env y.dst v') x.dst (.own ⟨x.site,σ.next⟩ 0 (len+rs.length))) ⟨bJ (bV (jY σ.get ⟨y.site,σ.next⟩ my) ⟨s,σ.next⟩) ⟨x.site,σ.next⟩ ⟨true,sz,r.rows++rs⟩,σ.next⟩
     rw[W7,<-hu]
     exact hN
    ·cases hv
   ·exact h.elim
theorem Gt {ops:Array Oper} {vl:List bL} {bs:Array Nat} {listed:Array Bool} {i s:Nat} (h:qm ops vl bs listed i s=true) (j:Nat):qm ops vl bs (listed.setIfInBounds j true) i s=true:=by
 unfold qm at h ⊢
 split at h
 ·rename_i x hx
  simp only[List.all_eq_true,Bool.or_eq_true]at h ⊢
  intro k hk
  rcases h k hk with((h|h)|h)|h
  ·exact .inl (.inl (.inl (getD_set_true h)))
  ·exact .inl (.inl (.inr h))
  ·exact .inl (.inr h)
  ·exact .inr h
 ·cases h
theorem D5 {ops:Array Oper} {vl:List bL} {listed:Array Bool} {i j s:Nat} {vi:bL} (uS:DC ops listed) (h:qm ops vl (jO ops) listed i s=true) (hi:vl[i]? =some vi) (hr:i∈Region.ready .any ops listed) (hj:j∈Region.ready .any ops listed) (mM:j≠i):∃vj,vl[j]? =some vj/\Im s vi vj=true:=by
 unfold qm at h
 rw[hi]at h
 simp only[List.all_eq_true,Bool.or_eq_true,beq_iff_eq]at h
 obtain⟨_,o,ho,_⟩:=mem_ready.1 hj
 rcases h j (List.mem_range.2 (Array.getElem?_eq_some_iff.1 ho).1)with((h|h)|h)|h
 ·rw[jK hj]at h;cases h
 ·exact absurd h mM
 ·have:=mu uS hj i h
  rw[jK hr]at this;cases this
 ·split at h
  ·rename_i y hy;exact⟨y,hy,h⟩
  ·cases h
theorem FM (hK:rZ X) {ops:Array Oper} {vl:List bL} {K:Env->aw->Prop} {i t s sz:Nat} {ys:O} {vi:bL} (hi:vl[i]? =some vi) (hx:vi.op=.append sz (.t t) ys) (hg:vi.guard=none):∀(fuel:Nat) (listed:Array Bool) (env:Env) (σ:aw),
  DC ops listed->i∈Region.ready .any ops listed->qm ops vl (jO ops) listed i s=true->Qr t s ys env σ.next->step X vi (fun e s=>C9 X ops vl K fuel (listed.setIfInBounds i true) e s) env σ->C9 X ops vl K (fuel+1) listed env σ:=by
 intro fuel
 induction fuel with
 |zero=>
  intro listed env σ uS hr jy VH H
  refine⟨fun h=>(by rw[h]at hr;cases hr),fun j hj=>?_⟩
  by_cases mM:j=i
  ·subst mM;exact⟨vi,hi,H⟩
  ·exfalso
   have h0:=ready_mono hj mM
   rw[wj hg]at H
   unfold fc at H
   simp only[hx]at H
   split at H
   ·rw[H.1]at h0;cases h0
   ·exact H
 |succ fuel ih=>
  intro listed env σ uS hr jy VH H
  refine⟨fun h=>(by rw[h]at hr;cases hr),fun j hj=>?_⟩
  by_cases mM:j=i
  ·subst mM;exact⟨vi,hi,H⟩
  ·obtain⟨vj,P6,WW⟩:=D5 uS jy hi hr hj mM
   refine⟨vj,P6,?_⟩
   have H2:step X vi (fun e s=>step X vj (fun e s=>C9 X ops vl K fuel ((listed.setIfInBounds i true).setIfInBounds j true) e s) e s) env σ:=kZ hK (fun e s h=>by
    obtain⟨vj',Cs,h'⟩:=h.2 j (ready_mono hj mM)
    rw[P6]at Cs;injection Cs with Cs;subst Cs
    exact h') H
   refine kZ hK (fun e s h=>?_) (HC hx hg WW VH H2)
   refine ih _ _ _ (uS.list hj) (ready_mono hr (fun e=>mM e.symm)) (Gt jy j) h.1 ?_
   rw[Array.setIfInBounds_comm _ _ mM]
   exact h.2
theorem Np {ops:Array Oper} {vl:List bL} {bs:Array Nat} {listed:Array Bool} {i i' t s:Nat} {y:O} {vo:bL} (h:Ur ops vl bs listed i=some (i',t,s,y,vo)):i'=i/\vl[i]? =some vo/\(∃sz,vo.op=.append sz (.t t) y)/\vo.guard=none/\qm ops vl bs listed i s=true:=by
 unfold Ur at h
 split at h
 ·rename_i x hx
  split at h
  ·rename_i t' s' y' j9
   split at h
   ·rename_i hf
    simp only[Option.some.injEq,Prod.mk.injEq]at h
    obtain⟨rfl,rfl,rfl,rfl,rfl⟩:=h
    unfold R4 at j9
    split at j9
    ·rename_i sz t2 y2 ho qW
     split at j9
     ·simp only[Option.some.injEq,Prod.mk.injEq]at j9
      obtain⟨rfl,rfl,rfl⟩:=j9
      exact⟨rfl,hx,⟨sz,ho⟩,qW,hf⟩
     ·cases j9
    ·cases j9
   ·cases h
  ·cases h
 ·cases h
theorem AQ {X:gx} {Q:Ex->Env->aw->Prop} {env:Env} {σ:aw}:∀{l:List VC} {t:VC},DJ l=some t->dW X t Q env σ->∀c∈l,dW X c Q env σ
 |[],t,h,_,c,hc=>by cases hc
 |[c0],t,h,hw,c,hc=>by
  simp only[DJ,Option.some.injEq]at h
  subst h
  rw[List.mem_singleton]at hc
  subst hc;exact hw
 |c0::c1::r,t,h,hw,c,hc=>by
  simp only[DJ,Option.map_eq_some_iff]at h
  obtain⟨t',Ls,rfl⟩:=h
  rcases List.mem_cons.1 hc with rfl|hc
  ·exact hw.1
  ·exact AQ Ls hw.2 c hc
theorem mapM_mem {α β:Type} {f:α->Option β}:∀{l:List α} {r:List β},l.mapM f=some r->∀i∈l,∃b∈r,f i=some b
 |[],_,_,i,hi=>by cases hi
 |a::l,r,h,i,hi=>by
  simp only[List.mapM_cons,Option.bind_eq_bind,Option.bind_eq_some_iff,Option.pure_def,Option.some.injEq]at h
  obtain⟨b,hb,r',hr,rfl⟩:=h
  rcases List.mem_cons.1 hi with rfl|hi
  ·exact⟨b,by simp,hb⟩
  ·obtain⟨c,hc,hf⟩:=mapM_mem hr i hi
   exact⟨c,List.mem_cons_of_mem _ hc,hf⟩
theorem K8 (hK:rZ X) {ops:Array Oper} {vl:List bL} {Q:Ex->Env->aw->Prop}:∀(n:Nat) (listed:Array Bool) (t:VC) (env:Env) (σ:aw),xq ops vl (jO ops) n listed=some t->DC ops listed->dW X t Q env σ->C9 X ops vl (Q .normal) n listed env σ:=by
 intro n
 induction n with
 |zero=>
  intro listed t env σ h _ hw
  unfold xq at h
  split at h
  ·rename_i hr
   simp only[Option.some.injEq]at h
   subst h
   exact⟨hr,hw⟩
  ·cases h
 |succ n ih=>
  intro listed t env σ h uS hw
  unfold xq at h
  split at h
  ·rename_i hr
   simp only[Option.some.injEq]at h
   subst h
   exact⟨fun _=>hw,fun i hi=>by rw[hr]at hi;cases hi⟩
  ·rename_i r rs hr
   dsimp only at h
   split at h
   ·rename_i i hfind
    have MM:=List.mem_of_find?_eq_some hfind
    have vI:=List.find?_some hfind
    rw[<-hr]at MM
    split at h
    ·rename_i vo lZ
     simp only[Option.map_eq_some_iff]at h
     obtain⟨t',Ls,rfl⟩:=h
     exact HT hK lZ n listed env σ uS MM vI (kZ hK (fun e s h=>ih _ _ _ _ Ls (uS.list MM) h) hw)
    ·cases h
   ·split at h
    ·rename_i i t s y vo hfind
     obtain⟨i0,Lo,eu⟩:=List.exists_of_findSome?_eq_some hfind
     obtain⟨rfl,lZ,⟨sz,ev⟩,qW,JV⟩:=Np eu
     rw[<-hr]at Lo
     simp only[Option.map_eq_some_iff]at h
     obtain⟨t',Ls,rfl⟩:=h
     exact FM hK lZ ev qW n listed env σ uS Lo JV hw.1 (kZ hK (fun e s h=>ih _ _ _ _ Ls (uS.list Lo) h) hw.2)
    split at h
    ·rename_i l hl
     have ep:=AQ h hw
     refine⟨fun h=>(by rw[h]at hr;cases hr),fun i hi=>?_⟩
     rw[hr]at hi
     obtain⟨b,Iu,A9⟩:=mapM_mem hl i hi
     simp only[Option.bind_eq_some_iff,Option.map_eq_some_iff]at A9
     obtain⟨vo,lZ,t',Ls,rfl⟩:=A9
     exact⟨vo,lZ,kZ hK (fun e s h=>ih _ _ _ _ Ls (uS.list (by rw[hr];exact hi)) h) (ep _ Iu)⟩
    ·cases h
theorem HP {ops:Array Oper} {vl:List bL} {nt site0:Nat} {draw mk:Bool} {bs:Array Nat} {hidden:List (Nat×Bool)} {K:Env->aw->Prop} {Q:Exit->Act->World->Prop} (ep:allM (l8 P ops nt site0 draw mk bs hidden) ops.toList 0=some vl):
  ∀(fuel:Nat) (listed:Array Bool) (env:Env) (σ:aw) (a:Act) (w:World) (D:Nat->Prop) (ι:Names) (U:Nat->Prop),C9 (Sound P) ops vl K fuel listed env σ->gK P hs D ι σ.get w->Used ι σ.next U->(∀s,U s->∃i,s=site0+i/\listed.getD i false=true)->cY P w D ι env a->a.tmps.size=nt->
  (∀jl σ' a' w' D' ι',K jl σ'->Step hs D ι w D' ι' w'->St P hs nt D' ι' jl σ' a' w'->a'.defers=a.defers->σ.next<=σ'.next->Q .normal a' w')->wpAny P .any ops Q fuel listed a w:=by
 intro fuel
 induction fuel with
 |zero=>intro listed env σ a w D ι U h S Us hU E fI hQ;exact⟨h.1,hQ env _ a w D ι h.2 (Step.refl _ _ _ _) ⟨S,Us.next,E,fI⟩ rfl (Nat.le_succ _)⟩
 |succ fuel ih=>
  intro listed env σ a w D ι U h S Us hU E fI hQ
  refine⟨fun hr=>hQ env _ a w D ι (h.1 hr) (Step.refl _ _ _ _) ⟨S,Us.next,E,fI⟩ rfl (Nat.le_succ _),fun i hi=>?_⟩
  obtain⟨vo,lZ,hG⟩:=h.2 i hi
  obtain⟨_,o,ho,_⟩:=mem_ready.1 hi
  obtain⟨vo',oq,WQ⟩:=(qc ep).2 i o (by simpa using ho)
  rw[lZ]at oq;injection oq with oq;subst oq
  rw[Nat.zero_add]at WQ
  obtain⟨hc,hd,Ez,Aq,hg⟩:=qT WQ
  have hw:=wG (ops:=ops) (vo:=vo) E hg
  have hUi:¬U vo.site:=fun hu=>by
   obtain⟨i',he,hl⟩:=hU _ hu
   have:i'=i:=ah
   subst this
   rw[jK hi]at hl;cases hl
  have kC:i<listed.size:=by
   have h0:=(mem_ready.1 hi).1
   rcases Nat.lt_or_ge i listed.size with h|h
   ·exact h
   ·simp[Array.getElem?_eq_none h]at h0
  unfold wpOp
  simp only[ho]
  rw[<-hw]
  unfold step at hG
  by_cases J2:aJ vo.guard env=true
  ·rw[if_pos J2]
   rw[if_pos J2]at hG
   refine .inl (BQ hc hG S Us hUi E fun v σ' u D' ι' w' hn T S' hR U' hle=>?_)
   refine ih _ _ _ _ w' D' ι' _ hn S' U' (fun s Ev=>?_) (by rw[hd];exact ja (ql E T) hR Aq fI) (by rw[fy];exact fI) fun jl σ2 a2 w2 D2 ι2 hk T2 T9 GI oZ=>hQ jl σ2 a2 w2 D2 ι2 hk (T.trans T2) T9 (GI.trans (put_defers _ _ _)) (Nat.le_trans hle oZ)
   rcases Ev with h|h
   ·obtain⟨i',he,hl⟩:=hU _ h
    exact⟨i',he,getD_set_true hl⟩
   ·exact⟨i,by rw[h,Ez],by simp[kC]⟩
  ·rw[if_neg J2]
   rw[if_neg J2]at hG
   refine ih _ _ _ _ w D ι U hG S Us (fun s Ev=>?_) (by rw[hd];exact ja E dm.undef Aq fI) (by rw[fy];exact fI) fun jl σ2 a2 w2 D2 ι2 hk T2 T9 GI oZ=>hQ jl σ2 a2 w2 D2 ι2 hk T2 T9 (GI.trans (put_defers _ _ _)) oZ
   obtain⟨i',he,hl⟩:=hU _ Ev
   exact⟨i',he,getD_set_true hl⟩
end
end Go.Proofs.YtainmfbpilopaaaGreatDoor.V

namespace Go.Proofs.YtainmfbpilopaaaGreatDoor.V
open Go.RowKit
variable {P:Program} {w w':World} {D D' D2:Nat->Prop} {ι ι' ι2:Names}
def AI (P:Program) (c:Code) (Q:Exit->Act->World->Prop) (a:Act) (w:World):Prop:=
 ∀(b:Frame) (k:List Item) (cs:List Frame),b.kind≠.early->∃e a' w',Q e a' w'/\Arrives P (lone (b.at a (.code c::k)) cs w) b k cs e a' w'
section
variable {Q:Exit->Act->World->Prop} {a:Act}
theorem kR {c:Code} (h:c.wp P Q a w):AI P c Q a w:=fun b k cs _=>h b k cs
theorem nz {x y:Code} (h:AI P x (Exit.then (AI P y Q) Q) a w):AI P (.seq x y) Q a w:=by
 intro b k cs hb
 obtain⟨e,a1,w1,hq,jm⟩:=h b (.code y::k) cs hb
 by_cases he:e=.normal
 ·subst he
  obtain⟨e2,a2,w2,vK,Mx⟩:=hq b k cs hb
  exact⟨e2,a2,w2,vK,.of_steps (.head step_seq jm) Mx⟩
 ·refine⟨e,a1,w1,?_,.of_steps (.one step_seq) (.pass (x:=.code y) rfl (fun _ _=>.inl he) jm)⟩
  cases e<;>first|exact absurd rfl he|exact hq
theorem zo {c:Operand} {x y:Code} {t:Bool} (hc:a.eval c=.bool t) (h:AI P (if t then x else y) Q a w):AI P (.cond c x y) Q a w:=
 fun b k cs hb=>let ⟨e,a',w',q,r⟩:=h b k cs hb;⟨e,a',w',q,.of_steps (.one (step_cond hc)) r⟩
theorem wb {id:Nat} {c:Code} (h:AI P c (Exit.inBlock id Q) a w):AI P (.block id c) Q a w:=by
 intro b k cs hb
 obtain⟨e,a1,w1,hq,jm⟩:=h b (.inBlock id::k) cs hb
 cases e with
 |normal=>exact⟨.normal,a1,w1,hq,.head step_block (Steps.trans jm (.one step_inBlock))⟩
 |exit kK=>
  by_cases hid:kK=id
  ·simp only[Exit.inBlock,hid,if_true]at hq
   exact⟨.normal,a1,w1,hq,.head step_block (jm k (by simp[exitTo,hid]))⟩
  ·simp only[Exit.inBlock,hid,if_false]at hq
   exact⟨.exit kK,a1,w1,hq,fun k' hk=>.head step_block (jm k' (by simp[exitTo,Ne.symm hid,hk]))⟩
 |goto l=>exact⟨_,a1,w1,hq,fun k' hk=>.head step_block (jm k' (by simp[gotoIn,hk]))⟩
 |ret=>exact⟨_,a1,w1,hq,.of_steps (.one step_block) jm⟩
 |panic ch=>exact⟨_,a1,w1,hq,.of_steps (.one step_block) jm⟩
 |outgrown=>exact⟨_,a1,w1,hq,.of_steps (b:=b) (k:=k) (cs:=cs) (e:=.outgrown) (.one step_block) jm⟩
theorem KA {c:Code} (h:AI P c (Exit.noGoto Q) a w):AI P (.scope c) Q a w:=by
 intro b k cs hb
 obtain⟨e,a1,w1,hq,jm⟩:=h b (.inScope c::k) cs hb
 cases e with
 |normal=>exact⟨.normal,a1,w1,hq,.head step_scope (Steps.trans jm (.one step_inScope))⟩
 |exit id=>exact⟨.exit id,a1,w1,hq,fun k' hk=>.head step_scope (jm k' (by simp[exitTo,hk]))⟩
 |goto l=>exact hq.elim
 |ret=>exact⟨_,a1,w1,hq,.of_steps (.one step_scope) jm⟩
 |panic ch=>exact⟨_,a1,w1,hq,.of_steps (.one step_scope) jm⟩
 |outgrown=>exact⟨_,a1,w1,hq,.of_steps (b:=b) (k:=k) (cs:=cs) (e:=.outgrown) (.one step_scope) jm⟩
def rf (P:Program) (c:Code) (Q:Exit->Act->World->Prop):Nat->Act->World->Prop
 |0=>fun _ _=>False
 |n+1=>AI P c (Exit.then (rf P c Q n) Q)
theorem Ff {c:Code} (n:Nat) (h:rf P c Q n a w):AI P (.loop c) Q a w:=by
 intro b k cs hb
 have key:∀n a w,rf P c Q n a w->∃e a' w',Q e a' w'/\Arrives P (lone (b.at a (.code c::.inLoop c::k)) cs w) b k cs e a' w':=by
  intro n
  induction n with
  |zero=>intro a w h;exact h.elim
  |succ n ih=>
   intro a w h
   obtain⟨e,a1,w1,hq,jm⟩:=h b (.inLoop c::k) cs hb
   by_cases he:e=.normal
   ·subst he
    obtain⟨e2,a2,w2,vK,Mx⟩:=ih a1 w1 hq
    exact⟨e2,a2,w2,vK,.of_steps (Steps.trans jm (.one step_inLoop)) Mx⟩
   ·refine⟨e,a1,w1,?_,.pass (x:=.inLoop c) rfl (fun _ _=>.inl he) jm⟩
    cases e<;>first|exact absurd rfl he|exact hq
 obtain⟨e,a',w',hq,jm⟩:=key n a w h
 exact⟨e,a',w',hq,.of_steps (.one step_loop) jm⟩
theorem B7 {f:FuncId} {fn:Func} {c:Code} {args:Array Value} {R:Ending->World->Prop} (hf:P.funcs[f]? =some fn) (hb:fn.body=some c)
  (h:AI P c (bodyPost P fn R) {tmps:=args++Array.replicate (fn.ntmps-args.size) undef,defers:=[]} w):Calls P f args w R:=by
 intro cs
 have Ty:Frame.enter P f args .normal=({(default:Frame)with fn:=f,kind:=.normal}:Frame).at {tmps:=args++Array.replicate (fn.ntmps-args.size) undef,defers:=[]} [.code c]:=by simp[Frame.enter,Frame.at,hf,hb]
 obtain⟨e,a',w',hq,jm⟩:=h {(default:Frame)with fn:=f,kind:=.normal} [] cs (by simp)
 rw[<-Ty]at jm
 cases e with
 |normal=>obtain⟨hd,v,hr,hR⟩:=hq;exact⟨.returned v,w',_,hR,Steps.trans jm (.one step_end),rfl,rfl,hd,rfl,fn,hf,hr⟩
 |ret=>obtain⟨hd,v,hr,hR⟩:=hq;obtain⟨todo,hs⟩:=jm;exact⟨.returned v,w',_,hR,hs,rfl,rfl,hd,rfl,fn,hf,hr⟩
 |panic chain=>obtain⟨hd,hR⟩:=hq;obtain⟨todo,hs⟩:=jm;exact⟨.panicked chain,w',_,hR,hs,rfl,rfl,hd,fn,hf⟩
 |exit id=>exact hq.elim
 |goto l=>exact hq.elim
 |outgrown=>exact⟨.outgrown,w',{(default:Frame)with fn:=f,kind:=.normal},hq,jm.resolve_left (by simp),rfl,trivial⟩
def Af (P:Program) (ops:Array Oper) (Q:Exit->Act->World->Prop) (l:List Nat) (a:Act) (w:World):Prop:=
 ∀(b:Frame) (k:List Item) (cs:List Frame),b.kind≠.early->∃e a' w',Q e a' w'/\Arrives P (lone (b.at a (.inRegion ops l::k)) cs w) b k cs e a' w'
theorem Hg {id:Nat} {ops:Array Oper} (h:Af P ops Q (List.range ops.size) a w):AI P (.region id ops false) Q a w:=
 fun b k cs hb=>let ⟨e,a',w',q,r⟩:=h b k cs hb;⟨e,a',w',q,.of_steps (.one step_region) r⟩
theorem UA {ops:Array Oper} (h:Q .normal a w):Af P ops Q [] a w:=fun _ _ _ _=>⟨.normal,a,w,h,.one step_region_end⟩
theorem qP {o:Oper} {ys:Nat->Option Bool} (h:o.guard=none):Region.wanted o ys=true:=by simp[Region.wanted,h]
theorem NN {ops:Array Oper} {i:Nat} {rest:List Nat} {o:Oper} {v:Value} (ho:ops[i]? =some o) (hg:o.guard=none) (hr:(execOp a.eval o).run P w=.ok (.value v) w') (h:Af P ops Q rest (a.put o.dst v) w'):Af P ops Q (i::rest) a w:=by
 intro b k cs hb
 obtain⟨e,a',w2,hq,jm⟩:=h b k cs hb
 refine⟨e,a',w2,hq,.of_steps (.one ?_) jm⟩
 have vH:(b.at a (.inRegion ops (i::rest)::k)).finish v=b.at (a.put o.dst v) (.inRegion ops rest::k):=by rw[Frame.finish_at,ho];rfl
 rw[<-vH]
 refine step_lone_go ?_
 have h2:=stepG_op (P:=P) (b:=b) (k:=k) (cs:=cs) (w:=w) (rest:=rest) ho (qP hg (ys:=yielded ops a.tmps))
 rw[h2];simp[stepG.apply,hr]
theorem QI {ops:Array Oper} {i:Nat} {rest:List Nat} {o:Oper} {v z:Value} {c cap s r:Nat} {buf:Array Value} (ho:ops[i]? =some o) (hg:o.guard=none) (hr:(execOp a.eval o).run P w=.ok (.comm #[Conc.scase c v z] true .send) w)
  (hc:w.heap[c]? =some (.chan cap buf false s r false)) (fW:buf.size<cap) (h:Af P ops Q rest (a.put o.dst undef) (w.setChan c cap (buf.push v) false (s+1) r false)):Af P ops Q (i::rest) a w:=by
 intro b k cs hb
 obtain⟨e,a',w2,hq,jm⟩:=h b k cs hb
 refine⟨e,a',w2,hq,.of_steps (.one ?_) jm⟩
 have vH:(b.at a (.inRegion ops (i::rest)::k)).finish undef=b.at (a.put o.dst undef) (.inRegion ops rest::k):=by rw[Frame.finish_at,ho];rfl
 rw[<-vH,Conc.lone_eq_solo,Conc.lone_eq_solo]
 exact Conc.step_lone_send_room (Conc.stepG_comm ho (qP hg) hb hr) hc fW
theorem QH {ops:Array Oper} {i:Nat} {rest:List Nat} {o:Oper} {z:Value} {c cap s r:Nat} {buf:Array Value} (ho:ops[i]? =some o) (hg:o.guard=none) (hr:(execOp a.eval o).run P w=.ok (.comm #[Conc.rcase c z] true (.recv false)) w)
  (hc:w.heap[c]? =some (.chan cap buf false s r false)) (EA:0<buf.size) (h:Af P ops Q rest (a.put o.dst (buf.getD 0 undef)) (w.setChan c cap (buf.extract 1 buf.size) false s (r+1) false)):Af P ops Q (i::rest) a w:=by
 intro b k cs hb
 obtain⟨e,a',w2,hq,jm⟩:=h b k cs hb
 refine⟨e,a',w2,hq,.of_steps (.one ?_) jm⟩
 have vH:(b.at a (.inRegion ops (i::rest)::k)).finish (buf.getD 0 undef)=b.at (a.put o.dst (buf.getD 0 undef)) (.inRegion ops rest::k):=by rw[Frame.finish_at,ho];rfl
 rw[<-vH,Conc.lone_eq_solo,Conc.lone_eq_solo]
 exact Conc.step_lone_recv_buf false (Conc.stepG_comm ho (qP hg) hb hr) hc EA
end
section
variable {hs:Nat} {g:Rows} {env:Env} {a:Act} {o:Oper}
theorem Qg {x y:O} (hc:tg P o.op=some (.snd x y)):∃x' y',o.op=.send x' y'/\cO P x'=some x/\cO P y'=some y:=by
 unfold tg at hc
 split at hc
 case h_26=>
  rename_i x' y' h
  simp only[Option.bind_eq_bind,Option.bind_eq_some_iff,Option.pure_def,Option.some.injEq,ib.snd.injEq]at hc
  obtain⟨p,h1,q,h2,rfl,rfl⟩:=hc
  exact⟨_,_,h,h1,h2⟩
 all_goals (try unfold pC at hc)<;>(try unfold yC at hc)<;>(try unfold vd at hc)<;>(repeat' (split at hc))<;>(simp only[Option.bind_eq_bind,Option.bind_eq_some_iff,Option.pure_def,Option.some.injEq,Option.map_eq_some_iff,reduceCtorEq,and_false,exists_false]at hc)
theorem Qf {x:O} (hc:tg P o.op=some (.UD x)):∃t dir e i z x',o.op=.recv t x' false/\P.underlying t=some (.chan dir e)/\P.info? e=some i/\i.zero=some z/\cO P x'=some x:=by
 unfold tg at hc
 split at hc
 case h_27=>
  rename_i t x' h
  split at hc
  ·rename_i dir e ht
   split at hc
   ·rename_i z hz
    simp only[Option.bind_eq_some_iff]at hz
    obtain⟨i,hi,hz⟩:=hz
    simp only[Option.map_eq_some_iff,ib.UD.injEq]at hc
    obtain⟨p,h1,rfl⟩:=hc
    exact⟨t,dir,e,i,z,x',h,ht,hi,hz,h1⟩
   ·cases hc
  ·cases hc
 all_goals (try unfold pC at hc)<;>(try unfold yC at hc)<;>(try unfold vd at hc)<;>(repeat' (split at hc))<;>(simp only[Option.bind_eq_bind,Option.bind_eq_some_iff,Option.pure_def,Option.some.injEq,Option.map_eq_some_iff,reduceCtorEq,and_false,exists_false]at hc)
theorem Wi {x y:O} {g':Rows} (S:gK P hs D ι g w) (hc:tg P o.op=some (.snd x y)) (E:cY P w D ι env a) (hv:dL g (dh env x) (dh env y)=some g'):
  ∃c cap s r buf u,(execOp a.eval o).run P w=.ok (.comm #[Conc.scase c u (.tuple #[])] true .send) w/\w.heap[c]? =some (.chan cap buf false s r false)/\buf.size<cap/\gK P hs D ι g' (w.setChan c cap (buf.push u) false (s+1) r false)/\Step hs D ι w D ι (w.setChan c cap (buf.push u) false (s+1) r false):=by
 obtain⟨x',y',ho,hx,hy⟩:=Qg hc
 have rx:=dV E hx
 have ry:=dV E hy
 unfold dL at hv
 split at hv
 ·rename_i i he
  simp only[Option.bind_eq_some_iff]at hv
  obtain⟨r,hg,hv⟩:=hv
  split at hv
  ·rename_i hcond
   simp only[Option.some.injEq]at hv
   subst hv
   obtain⟨B,c,hu,hB,hk,fI,buf,s,q,hb,OQ,hR⟩:=B8 S rx he hg
   obtain⟨B',ec,RR,_⟩:=S.row i r hg
   rw[hB]at ec;injection ec with ec;subst ec
   have pT:=S.K9 (ob:=.chan c (buf.push (a.eval y')) false (s+1) q false) (r':={r with rows:=r.rows++[[dh env y]]}) hg hcond.1 hB fun hr lG=>⟨RR.sz,fun cs dY=>?_,fun h0=>(by rw[hk]at h0;cases h0),fun m hm=>(by rw[hk]at hm;cases hm),fun c' lF=>?_⟩
   ·exact⟨B.b,c,s,q,buf,a.eval y',by simp[execOp,ho,hu,Conc.scase],hb,by rw[OQ];omega,pT.1,pT.2⟩
   ·rcases List.mem_append.1 dY with h|h
    ·exact RR.flat cs h
    ·rw[List.mem_singleton.1 h]
     intro b vD
     rw[List.mem_singleton.1 vD];exact hcond.2.2
   ·rw[hk]at lF
    simp only[Option.some.injEq,BK.chan.injEq]at lF
    subst lF
    refine⟨fI,_,_,_,lG,by simp[OQ],fun j cs hj=>?_⟩
    rw[List.getElem?_append]at hj
    split at hj
    ·rename_i eu
     obtain⟨b,u,q1,q2,q3⟩:=hR j cs hj
     refine⟨b,u,q1,?_,hr _ _ q3⟩
     rw[Array.getElem?_push,if_neg ah];exact q2
    ·rename_i oj
     have gZ:j=r.rows.length:=by
      have:=(List.getElem?_eq_some_iff.1 hj).1
      simp at this;omega
     subst gZ
     simp at hj
     subst hj
     exact⟨_,_,rfl,by rw[Array.getElem?_push,if_pos OQ.symm],hr _ _ ry⟩
  ·cases hv
 ·cases hv
theorem Wh {x:O} {g':Rows} {v:AV} (S:gK P hs D ι g w) (hc:tg P o.op=some (.UD x)) (E:cY P w D ι env a) (hv:dK g (dh env x)=some (v,g')):
  ∃c cap s r buf z,(execOp a.eval o).run P w=.ok (.comm #[Conc.rcase c z] true (.recv false)) w/\w.heap[c]? =some (.chan cap buf false s r false)/\0<buf.size/\gK P hs D ι g' (w.setChan c cap (buf.extract 1 buf.size) false s (r+1) false)/\Step hs D ι w D ι (w.setChan c cap (buf.extract 1 buf.size) false s (r+1) false)/\dm P (w.setChan c cap (buf.extract 1 buf.size) false s (r+1) false) D ι v (buf.getD 0 undef):=by
 obtain⟨t,dir,e,i0,z,x',ho,ht,hi,hz,hx⟩:=Qf hc
 have rx:=dV E hx
 unfold dK at hv
 split at hv
 ·rename_i i he
  simp only[Option.bind_eq_some_iff]at hv
  obtain⟨r,hg,hv⟩:=hv
  split at hv
  ·rename_i v' rest kG
   split at hv
   ·rename_i hcond
    simp only[Option.some.injEq,Prod.mk.injEq]at hv
    obtain⟨rfl,rfl⟩:=hv
    obtain⟨B,c,hu,hB,hk,fI,buf,s,q,hb,OQ,hR⟩:=B8 S rx he hg
    obtain⟨B',ec,RR,_⟩:=S.row i r hg
    rw[hB]at ec;injection ec with ec;subst ec
    obtain⟨b0,u0,q1,q2,q3⟩:=hR 0 [v'] (by rw[kG];rfl)
    simp only[List.cons.injEq,and_true]at q1
    subst q1
    have lp:0<buf.size:=by rw[OQ,kG];simp
    have Y3:buf.getD 0 undef=u0:=by rw[Array.getD_eq_getD_getElem?,q2];rfl
    have pT:=S.K9 (ob:=.chan c (buf.extract 1 buf.size) false s (q+1) false) (r':={r with rows:=rest}) hg hcond hB fun hr lG=>⟨RR.sz,fun cs dY=>RR.flat cs (by rw[kG];exact List.mem_cons_of_mem _ dY),fun h0=>(by rw[hk]at h0;cases h0),fun m hm=>(by rw[hk]at hm;cases hm),fun c' lF=>?_⟩
    ·refine⟨B.b,c,s,q,buf,z,?_,hb,lp,pT.1,pT.2,?_⟩
     ·have r9:(zeroValue e).run P w=.ok z w:=by simp[zeroValue,typeInfo,hi,hz]
      simp[execOp,ho,hu,Conc.rcase,run_underlying ht,r9]
     ·rw[Y3];exact pT.2.rep q3
    ·rw[hk]at lF
     simp only[Option.some.injEq,BK.chan.injEq]at lF
     subst lF
     refine⟨fI,_,_,_,lG,by simp[OQ,kG],fun j cs hj=>?_⟩
     obtain⟨b,u,k1,k2,k3⟩:=hR (j+1) cs (by rw[kG];simpa using hj)
     refine⟨b,u,k1,?_,hr _ _ k3⟩
     have eu:=(Array.getElem?_eq_some_iff.1 k2).1
     rw[Array.getElem?_extract,if_pos ah,Nat.add_comm 1 j];exact k2
   ·cases hv
  ·cases hv
 ·cases hv
theorem Js {ops:Array Oper} {nt site0:Nat} {K:Env->aw->Prop} {Q:Exit->Act->World->Prop}:∀(l:List Oper) (vl:List bL) (j:Nat) (env:Env) (σ:aw) (a:Act) (w:World) (D:Nat->Prop) (ι:Names),
  ops.toList.drop j=l->allM (l8 P ops nt site0 false false #[] []) l j=some vl->cj vl K env σ->gK P hs D ι σ.get w->Used ι σ.next (fun _=>False)->cY P w D ι env a->a.tmps.size=nt->
  (∀jl σ' a' w' D' ι',K jl σ'->Step hs D ι w D' ι' w'->St P hs nt D' ι' jl σ' a' w'->a'.defers=a.defers->σ.next<=σ'.next->Q .normal a' w')->Af P ops Q (List.range' j l.length) a w:=by
 intro l
 induction l with
 |nil=>
  intro vl j env σ a w D ι _ h hv S Us E fI hQ
  simp[allM]at h;subst h
  exact UA (hQ env ⟨σ.get,σ.next+1⟩ a w D ι hv (Step.refl _ _ _ _) ⟨S,Us.next,E,fI⟩ rfl (Nat.le_succ _))
 |cons o l ih=>
  intro vl j env σ a w D ι hl h hv S Us E fI hQ
  simp only[allM,Option.bind_eq_bind,Option.bind_eq_some_iff,Option.pure_def,Option.some.injEq]at h
  obtain⟨vo,lZ,wE,uW,rfl⟩:=h
  obtain⟨hc,hd,Ez,Aq,hg⟩:=qT lZ
  obtain⟨W8,hv⟩:=hv
  have hog:o.guard=none:=by
   split at hg
   ·assumption
   ·obtain⟨t,_,h⟩:=hg
    rw[W8]at h;cases h
  have hoj:ops[j]? =some o:=by
   have h0:=congrArg (fun x=>x[0]?) hl
   rw[<-Array.getElem?_toList]
   simpa[List.getElem?_drop]using h0
  have O1:ops.toList.drop (j+1)=l:=by rw[<-List.drop_drop,hl];rfl
  have go:∀(v:AV) (u:Value) (g2:Rows) (w2:World),cj wE K (upd env vo.dst v) ⟨g2,σ.next⟩->gK P hs D ι g2 w2->Step hs D ι w D ι w2->dm P w2 D ι v u->Af P ops Q (List.range' (j+1) l.length) (a.put o.dst u) w2:=fun v u g2 w2 hn S2 T hR=>
   ih wE (j+1) (upd env vo.dst v) ⟨g2,σ.next⟩ (a.put o.dst u) w2 D ι O1 uW hn S2 Us (by rw[hd];exact ja (ql E T) hR Aq fI) (by rw[fy];exact fI) fun jl σ2 a' w3 D3 ι3 hk T2 Pc GI oZ=>hQ jl σ2 a' w3 D3 ι3 hk (T.trans T2) Pc (GI.trans (put_defers _ _ _)) oZ
  rw[show List.range' j (o::l).length=j::List.range' (j+1) l.length from rfl]
  split at hv
  ·rename_i x y ev
   split at hv
   ·rename_i g2 VP
    rw[ev]at hc
    obtain⟨c,cap,s,r,buf,u,gi,hb,fW,S2,T⟩:=Wi S hc E VP
    exact QI hoj hog gi hb fW (go _ _ _ _ hv S2 T dm.undef)
   ·exact hv.elim
  ·rename_i x ev
   split at hv
   ·rename_i v g2 VP
    rw[ev]at hc
    obtain⟨c,cap,s,r,buf,z,gi,hb,EA,S2,T,hR⟩:=Wh S hc E VP
    exact QH hoj hog gi hb EA (go _ _ _ _ hv S2 T hR)
   ·exact hv.elim
  ·split at hv
   ·rename_i v hq
    obtain⟨u,gi,hR⟩:=BG hc hq S E
    exact NN hoj hog gi (go _ _ _ _ hv S (Step.refl _ _ _ _) hR)
   ·exact hv.elim
end
end Go.Proofs.YtainmfbpilopaaaGreatDoor.V

namespace Go.Proofs.YtainmfbpilopaaaGreatDoor.V
open Go.RowKit
variable {P:Program} {w w':World} {D D' D2:Nat->Prop} {ι ι' ι2:Names}
section
variable {hs:Nat} {X:gx}
def Yq:Ex->Exit
 | .normal=>.normal
 | .exit id=>.exit id
 | .ret=>.ret
theorem St.drew {nt:Nat} {env:Env} {σ:aw} {a:Act} {D:Nat->Prop} {ι:Names} (h:St P hs nt D ι env σ a w):St P hs nt D ι env σ a w.drew/\Step hs D ι w D ι w.drew:=by
 have T:Step hs D ι w D ι w.drew:=Step.stay h.wi (fun _ _=>rfl) (Nat.le_refl _) rfl rfl rfl (fun _ h=>h) (fun _ h=>.inl h) (fun _ _ h=>h)
 exact⟨⟨h.wi.stay (fun _ _=>rfl) (Nat.le_refl _) (fun _ h=>h) h.wi.dead (fun _ h=>.inl h) (fun _ _ h=>h),h.used,ql h.env T,h.size⟩,T⟩
def wH (P:Program) (hs nt:Nat) (ds:List Deferred) (Q:Ex->Env->aw->Prop) (n0:Nat) (D:Nat->Prop) (ι:Names) (w:World) (Q':Exit->Act->World->Prop):Prop:=
 ∀ex env σ a w' D' ι',Q ex env σ->Step hs D ι w D' ι' w'->St P hs nt D' ι' env σ a w'->a.defers=ds->n0<=σ.next->Q' (Yq ex) a w'
theorem wH.later {nt:Nat} {ds:List Deferred} {Q:Ex->Env->aw->Prop} {n0 n1:Nat} {Q':Exit->Act->World->Prop} (h:wH P hs nt ds Q n0 D ι w Q') (T:Step hs D ι w D' ι' w') (hn:n0<=n1):wH P hs nt ds Q n1 D' ι' w' Q':=
 fun ex env σ a w2 D2 ι2 hq T2 dZ hd hle=>h ex env σ a w2 D2 ι2 hq (T.trans T2) dZ hd (Nat.le_trans hn hle)
theorem su (hm:P.follows .mixedOrders=true) {md:List (Nat×Nat)} {nt fid:Nat}:∀(c:Code) (vc:VC),jh P md nt fid c=some vc->∀(Q:Ex->Env->aw->Prop) (env:Env) (σ:aw) (a:Act) (w:World) (D:Nat->Prop) (ι:Names) (Q':Exit->Act->World->Prop),
  dW (Sound P) vc Q env σ->St P hs nt D ι env σ a w->wH P hs nt a.defers Q σ.next D ι w Q'->AI P c Q' a w:=by
 intro c
 induction c with
 |skip=>
  intro vc h Q env σ a w D ι Q' hv dZ hQ
  simp[jh]at h;subst h
  exact kR <| wp_skip (hQ .normal env σ a w D ι hv (Step.refl _ _ _ _) dZ rfl (Nat.le_refl _))
 |exit id=>
  intro vc h Q env σ a w D ι Q' hv dZ hQ
  simp[jh]at h;subst h
  exact kR <| wp_exit (hQ (.exit id) env σ a w D ι hv (Step.refl _ _ _ _) dZ rfl (Nat.le_refl _))
 |ret=>
  intro vc h Q env σ a w D ι Q' hv dZ hQ
  simp[jh]at h;subst h
  exact kR <| wp_ret (hQ .ret env σ a w D ι hv (Step.refl _ _ _ _) dZ rfl (Nat.le_refl _))
 |seq x y ihx ihy=>
  intro vc h Q env σ a w D ι Q' hv dZ hQ
  simp only[jh,Option.bind_eq_bind,Option.bind_eq_some_iff,Option.pure_def,Option.some.injEq]at h
  obtain⟨vx,hx,vy,hy,rfl⟩:=h
  refine nz (ihx vx hx _ env σ a w D ι _ hv dZ fun ex jr σ1 a1 w1 D1 ι1 hq T kD hd hle=>?_)
  cases ex with
  |normal=>exact ihy vy hy Q jr σ1 a1 w1 D1 ι1 Q' hq kD (by rw[hd];exact hQ.later T hle)
  |exit id=>exact hQ (.exit id) jr σ1 a1 w1 D1 ι1 hq T kD hd hle
  |ret=>exact hQ .ret jr σ1 a1 w1 D1 ι1 hq T kD hd hle
 |cond c x y ihx ihy=>
  intro vc h Q env σ a w D ι Q' hv dZ hQ
  simp only[jh,Option.bind_eq_bind,Option.bind_eq_some_iff,Option.pure_def,Option.some.injEq]at h
  obtain⟨c',hc,vx,hx,vy,hy,rfl⟩:=h
  unfold dW at hv
  have hr:=dV dZ.env hc
  split at hv
  ·rename_i b hb
   rw[hb]at hr
   refine zo (fP hr) ?_
   cases b with
   |true=>exact ihx vx hx Q env σ a w D ι Q' hv dZ hQ
   |false=>exact ihy vy hy Q env σ a w D ι Q' hv dZ hQ
  ·exact hv.elim
 |block id c ih=>
  intro vc h Q env σ a w D ι Q' hv dZ hQ
  simp only[jh,Option.map_eq_some_iff]at h
  obtain⟨vx,hx,rfl⟩:=h
  refine wb (ih vx hx _ env σ a w D ι _ hv dZ fun ex jr σ1 a1 w1 D1 ι1 hq T kD hd hle=>?_)
  cases ex with
  |normal=>exact hQ .normal jr σ1 a1 w1 D1 ι1 hq T kD hd hle
  |ret=>exact hQ .ret jr σ1 a1 w1 D1 ι1 hq T kD hd hle
  |exit kK=>
   simp only[aX]at hq
   simp only[Yq,Exit.inBlock]
   by_cases hid:kK=id
   ·rw[if_pos hid]at hq ⊢;exact hQ .normal jr σ1 a1 w1 D1 ι1 hq T kD hd hle
   ·rw[if_neg hid]at hq ⊢;exact hQ (.exit kK) jr σ1 a1 w1 D1 ι1 hq T kD hd hle
 |loop c ih=>
  intro vc h Q env σ a w D ι Q' hv dZ hQ
  simp only[jh,Option.map_eq_some_iff]at h
  obtain⟨vx,hx,rfl⟩:=h
  obtain⟨n,hv⟩:=hv
  refine Ff n ?_
  have key:∀n env σ a w D ι,IJ (dW (Sound P) vx) Q n env σ->St P hs nt D ι env σ a w->wH P hs nt a.defers Q σ.next D ι w Q'->rf P c Q' n a w:=by
   intro n
   induction n with
   |zero=>intro env σ a w D ι h;exact h.elim
   |succ n ihn=>
    intro env σ a w D ι h dZ hQ
    refine ih vx hx _ env σ a w D ι _ h dZ fun ex jr σ1 a1 w1 D1 ι1 hq T kD hd hle=>?_
    cases ex with
    |normal=>exact ihn jr σ1 a1 w1 D1 ι1 hq kD (by rw[hd];exact hQ.later T hle)
    |exit id=>exact hQ (.exit id) jr σ1 a1 w1 D1 ι1 hq T kD hd hle
    |ret=>exact hQ .ret jr σ1 a1 w1 D1 ι1 hq T kD hd hle
  exact key n env σ a w D ι hv dZ hQ
 |region id ops draw=>
  intro vc h Q env σ a w D ι Q' hv dZ hQ
  simp only[jh,Wg]at h
  split at h
  ·rename_i hmode
   have hdr:draw=true:=by
    simp only[Bool.and_eq_true]at hmode;exact hmode.1
   subst hdr
   split at h
   ·rename_i vl ep
    obtain⟨ud,T0⟩:=dZ.drew
    have GD:=K8 (X:=Sound P) l7 ops.size _ vc env σ h (fun k i h=>by
     exfalso
     rcases Nat.lt_or_ge k ops.size with hk|hk
     ·simp[hk]at h
     ·simp[Nat.not_lt.2 hk]at h) hv
    refine kR (wp_region_any hm ?_)
    exact HP ep ops.size _ env σ a w.drew D ι (fun _=>False) GD ud.wi ud.used (fun _ h=>h.elim) ud.env ud.size fun jr σ1 a1 w1 D1 ι1 hk T kD hd hle=>hQ .normal jr σ1 a1 w1 D1 ι1 hk (T0.trans T) kD hd hle
   ·cases h
  split at h
  ·rename_i hcom
   have hdr:draw=false:=by
    simp only[Bool.and_eq_true,Bool.not_eq_true']at hcom;exact hcom.1
   subst hdr
   simp only[Option.map_eq_some_iff]at h
   obtain⟨vl,uW,rfl⟩:=h
   have ep:allM (l8 P ops nt ((fid*1000+id)*1000) false false #[] []) ops.toList 0=some vl:=by
    unfold tM at uW
    simp only[Bool.false_eq_true,if_false,Bool.not_false,Bool.true_or,if_true]at uW
    split at uW
    ·rename_i wE h;simp at uW;subst uW;exact h
    ·cases uW
   refine Hg ?_
   have:=Js (Q:=Q') ops.toList vl 0 env σ a w D ι rfl ep hv dZ.wi dZ.used dZ.env dZ.size fun jr σ1 a1 w1 D1 ι1 hk T kD hd hle=>hQ .normal jr σ1 a1 w1 D1 ι1 hk T kD hd hle
   rwa [<-List.range_eq_range',Array.length_toList]at this
  generalize (vV md id==1)=mk at h
  simp only[Option.map_eq_some_iff]at h
  obtain⟨vl,uW,rfl⟩:=h
  cases draw with
  |false=>
   have ep:∃wE,allM (l8 P ops nt ((fid*1000+id)*1000) false mk #[] []) ops.toList 0=some wE/\vl=wE:=by
    unfold tM at uW
    simp only[Bool.false_eq_true,if_false,Bool.not_false,Bool.true_or,if_true]at uW
    split at uW
    ·rename_i wE h;simp at uW;exact⟨wE,h,uW.symm⟩
    ·cases uW
   obtain⟨wE,ep,rfl⟩:=ep
   refine kR (wp_region_list ?_)
   exact BA ops.toList vl 0 env σ a w D ι (fun _=>False) ep hv dZ.wi dZ.used (fun _ h=>h.elim) dZ.env dZ.size fun jr σ1 a1 w1 D1 ι1 hk T kD hd hle=>hQ .normal jr σ1 a1 w1 D1 ι1 hk T kD hd hle
  |true=>
   have ep:∃hidden wE,allM (l8 P ops nt ((fid*1000+id)*1000) true mk (jO ops) hidden) ops.toList 0=some wE/\vl=wE/\qk ops wE (jO ops)=true:=by
    unfold tM at uW
    simp only[if_true,Bool.not_true,Bool.false_or]at uW
    split at uW
    ·rename_i wE h
     split at uW
     ·rename_i y4;simp at uW;exact⟨_,wE,h,uW.symm,y4⟩
     ·cases uW
    ·cases uW
   obtain⟨hidden,wE,ep,rfl,y4⟩:=ep
   obtain⟨ud,T0⟩:=dZ.drew
   obtain⟨hlen,_⟩:=qc ep
   have mc:vl.length=ops.size:=by rw[hlen];simp
   have GD:=zX (X:=Sound P) (K:=Q .normal) (n:=σ.next) y4 mc vl 0 (Array.replicate ops.size false) env σ.get (by simp) (by simp) (fun i hi=>by simp[hi]) (by simp[mc]) (fun k i h=>by
    exfalso
    rcases Nat.lt_or_ge k ops.size with hk|hk
    ·simp[hk]at h
    ·simp[Nat.not_lt.2 hk]at h) hv
   refine kR (wp_region_any hm ?_)
   rw[mc]at GD
   exact AL ep ops.size _ env σ.get a w.drew D ι (fun _=>False) GD ud.wi ud.used (fun _ h=>h.elim) ud.env ud.size fun jr g1 a1 w1 D1 ι1 U1 hk T S1 Zz E1 y7 hd=>hQ .normal jr ⟨g1,σ.next+1⟩ a1 w1 D1 ι1 hk (T0.trans T) ⟨S1,Zz.next,E1,y7⟩ hd (Nat.le_succ _)
 |label l=>
  intro vc h Q env σ a w D ι Q' hv dZ hQ
  simp[jh]at h;subst h
  exact kR <| wp_label (hQ .normal env σ a w D ι hv (Step.refl _ _ _ _) dZ rfl (Nat.le_refl _))
 |scope c ih=>
  intro vc h Q env σ a w D ι Q' hv dZ hQ
  simp only[jh]at h
  refine KA (ih vc h Q env σ a w D ι _ hv dZ fun ex jr σ1 a1 w1 D1 ι1 hq T kD hd hle=>?_)
  have h1:=hQ ex jr σ1 a1 w1 D1 ι1 hq T kD hd hle
  cases ex with
  |normal=>exact h1
  |exit id=>exact h1
  |ret=>exact h1
 |_=>
  intro vc h
  simp[jh]at h
def N2 (tmps:Array Value):ResultVar->Sem Value
 | .tmp t=>pure (tmps.getD t undef)
 | .cell a t=>do loadVar t (<-asAddr (tmps.getD a undef))
theorem Hq (fn:Func) (tmps:Array Value):results fn tmps=(do
  let vs <-fn.results.mapM (N2 tmps)
  pure (if h:vs.size=1 then vs[0]else .tuple vs)):=by
 unfold results
 congr 2
theorem xk {nt:Nat} {env:Env} {σ:aw} {a:Act} {D:Nat->Prop} {ι:Names} (dZ:St P hs nt D ι env σ a w):∀(rs:List ResultVar) (vr:List pN) (vs:List AV),rs.mapM (Gl P)=some vr->ga env σ.get vr=some vs->
  ∃us:List Value,(rs.mapM (N2 a.tmps)).run P w=.ok us w/\us.length=vs.length/\∀(j:Nat) (v:AV),vs[j]? =some v->∃u,us[j]? =some u/\dm P w D ι v u
 |[],vr,vs,h,hv=>by
  simp at h;subst h
  simp[ga]at hv;subst hv
  exact⟨[],by simp,rfl,fun j v h=>by simp at h⟩
 |r::rs,vr,vs,h,hv=>by
  simp only[List.mapM_cons,Option.bind_eq_bind,Option.bind_eq_some_iff]at h
  obtain⟨x,hx,vr',hr,h⟩:=h
  simp at h;subst h
  simp only[ga,Option.bind_eq_some_iff,Option.map_eq_some_iff]at hv
  obtain⟨v,sP,X8,P7,rfl⟩:=hv
  obtain⟨us,h1,h2,h3⟩:=xk dZ rs vr' X8 hr P7
  have one:∃u,(N2 a.tmps r).run P w=.ok u w/\dm P w D ι v u:=by
   cases r with
   |tmp t=>
    simp[Gl]at hx;subst hx
    simp[iW]at sP;subst sP
    exact⟨_,rfl,dZ.env t⟩
   |cell b t=>
    simp only[Gl,Option.bind_eq_bind,Option.bind_eq_some_iff,Option.pure_def,Option.some.injEq]at hx
    obtain⟨ag,wV,n,hn,rfl⟩:=hx
    simp only[iW]at sP
    have iu:=dZ.env b
    unfold ld at sP
    split at sP
    ·rename_i kK i' oo hb
     rw[hb]at iu
     obtain⟨B,he,hB,hk⟩:=iR iu
     simp only[Option.bind_eq_some_iff]at sP
     obtain⟨cs,dY,hp⟩:=sP
     obtain⟨B',r0,Ln,ec,R,hi,fl,f,hf⟩:=N7 (S:=dZ.wi) dY (fun B2 h2=>by rw[hB]at h2;injection h2 with h2;subst h2;exact hk)
     rw[hB]at ec;injection ec with ec;subst ec
     obtain⟨u,k1,k2⟩:=km (w:=w) (b:=B.b) (oo:=i'*B.sz+oo) (f:=fun j=>f (oo+j)) wV hn hp (fun a ha=>fl a (List.mem_of_mem_drop ha)) (fun j hj=>by
      rw[Nat.add_assoc];exact(hf _ (by simp at hj;omega)).1) (fun j a ha=>by
      simp at ha;exact(hf _ ((List.getElem?_eq_some_iff.1 ha).1)).2 _ ha)
     exact⟨u,by simp only[N2,he,asAddr,Sem.run_bind,Sem.run_pure,Result.andThen_ok,k1],k2⟩
    ·rename_i cs hb
     rw[hb]at iu
     obtain⟨b',oo,vs2,he,q1,q2,q3,q4⟩:=mv iu
     obtain⟨u,k1,k2⟩:=km (w:=w) (b:=b') (oo:=oo) (f:=vs2) wV hn sP q2 q3 (fun j a ha=>.eP _ _ (q4 j a ha))
     exact⟨u,by simp only[N2,he,asAddr,Sem.run_bind,Sem.run_pure,Result.andThen_ok,k1],k2⟩
    ·simp at sP
  obtain⟨u,hu,Av⟩:=one
  refine⟨u::us,?_,by simp[h2],fun j v' hj=>?_⟩
  ·rw[List.mapM_cons]
   simp only[Sem.run_bind,hu,h1,Result.andThen_ok,Sem.run_pure]
  ·cases j with
   |zero=>simp at hj;subst hj;exact⟨u,rfl,Av⟩
   |succ j=>simp at hj ⊢;exact h3 j v' hj
theorem yy {f:Nat} {fn:Func} {c:Code} {args:List AV} {σ:aw} {K:AV->aw->Prop} {vr:List pN} (RH:P.funcs[f]? =some fn) (hc:fn.body=some c) (hr:fn.results.toList.mapM (Gl P)=some vr) (ha:fn.params.size+fn.nfree=args.length) (hle:fn.params.size+fn.nfree<=fn.ntmps)
  (h:∀(hs:Nat) (w:World) (D:Nat->Prop) (ι:Names) (a:Act) (Q':Exit->Act->World->Prop),St P hs fn.ntmps D ι (bW args) σ a w->wH P hs fn.ntmps a.defers (lU vr K) σ.next D ι w Q'->AI P c Q' a w):Sound P f args σ K:=by
 intro hs D ι w vs S Us A
 have fI:vs.size=args.length:=A.1
 refine B7 RH hc ?_
 refine h hs w D ι _ _ ⟨S,Us,fun t=>?_,by simp;omega⟩ fun ex jr σ1 a1 w1 D1 ι1 hq T kD hd hle=>?_
 ·simp only[bW]
  by_cases eu:t<args.length
  ·obtain⟨u,hu,Av⟩:=A.2 t args[t] (List.getElem?_eq_getElem eu)
   have e1:args.getD t .undef=args[t]:=by simp[List.getD_eq_getElem?_getD,eu]
   have e2:(vs++Array.replicate (fn.ntmps-vs.size) undef).getD t undef=u:=by
    simp only[Array.getD_eq_getD_getElem?]
    rw[Array.getElem?_append_left ah,hu];rfl
   rw[e1,e2];exact Av
  ·have e1:args.getD t .undef=.undef:=by simp[List.getD_eq_getElem?_getD,Nat.le_of_not_lt eu]
   have e2:(vs++Array.replicate (fn.ntmps-vs.size) undef).getD t undef=undef:=by
    simp only[Array.getD_eq_getD_getElem?]
    rw[Array.getElem?_append_right ah,Array.getElem?_replicate]
    split<;>rfl
   rw[e1,e2];exact dm.undef
 ·have fin:(∃vs,ga jr σ1.get vr=some vs/\K (fb vs) σ1)->a1.defers=[]/\∃v,(results fn a1.tmps).run P w1=.ok v w1/\∃r g' n' D' ι' u,Ending.returned v=.returned u/\K r ⟨g',n'⟩/\Step hs D ι w D' ι' w1/\gK P hs D' ι' g' w1/\Used ι' n' (fun _=>False)/\σ.next<=n'/\dm P w1 D' ι' r u:=by
   rintro⟨avs,P7,hK⟩
   obtain⟨us,h1,h2,h3⟩:=xk kD fn.results.toList vr avs hr P7
   have T5:(results fn a1.tmps).run P w1=.ok (if h:us.toArray.size=1 then us.toArray[0]else .tuple us.toArray) w1:=by
    rw[Hq,Array.mapM_eq_mapM_toList]
    simp only[Sem.run_bind,Sem.run_map,h1,Result.andThen_ok,Sem.run_pure]
   refine⟨hd,_,T5,fb avs,σ1.get,σ1.next,D1,ι1,_,rfl,hK,T,kD.wi,kD.used,hle,?_⟩
   unfold fb
   split
   ·rename_i v
    have hl:us.length=1:=h2
    obtain⟨u,hu,Av⟩:=h3 0 v rfl
    rw[dif_pos (by simpa using hl)]
    have:us.toArray[0]'(by simp[hl])=u:=by
     have:=(List.getElem?_eq_some_iff.1 hu).2
     simpa using this
    rw[this];exact Av
   ·rename_i gM
    rw[dif_neg (by
     simp only[List.size_toArray,h2]
     intro h
     obtain⟨v,hv⟩:=List.length_eq_one_iff.1 h
     exact gM v hv)]
    exact .fD _ _ (fun j=>us.getD j undef) (by simp[h2]) (fun j hj=>by
     have:j<us.length:=by rw[h2];exact hj
     simp[this]) (fun j v hj=>by
     obtain⟨u,hu,Av⟩:=h3 j v hj
     simpa[List.getD_eq_getElem?_getD,hu]using Av)
  cases ex with
  |normal=>exact fin hq
  |ret=>exact fin hq
  |exit id=>exact hq.elim
theorem Mp (hm:P.follows .mixedOrders=true) {f:Nat} {md:List (Nat×Nat)} {vf:Df} {args:List AV} {σ:aw} {K:AV->aw->Prop} (hf:Ak P f md=some vf) (ha:vf.Bw=args.length) (h:dW (Sound P) vf.body (lU vf.res K) (bW args) σ):Sound P f args σ K:=by
 unfold Ak at hf
 split at hf
 ·rename_i fn RH
  split at hf
  ·rename_i c hc
   simp only[Option.bind_eq_bind,Option.bind_eq_some_iff]at hf
   obtain⟨vb,hb,vr,hr,hf⟩:=hf
   split at hf
   ·rename_i hle
    simp only[Option.pure_def,Option.some.injEq]at hf
    subst hf
    simp only at ha h
    exact yy RH hc hr ha hle fun hs w D ι a Q' dZ hQ=>su hm c vb hb (lU vr K) (bW args) σ a w D ι Q' h dZ hQ
   ·simp at hf
  ·simp at hf
 ·simp at hf
def Sb (P:Program) (X:gx):gx:=fun f args σ K=>(∃md vf,Ak P f md=some vf/\vf.Bw=args.length/\((∀a∈args,eZ a)->dW X vf.body (lU vf.res K) (bW args) σ))∨Sound P f args σ K
def Call (P:Program):gx:=fun f args σ K=>∀X:gx,rZ X->(∀f args σ K,Sb P X f args σ K->X f args σ K)->X f args σ K
theorem gD (hm:P.follows .mixedOrders=true) {f:Nat} {args:List AV} {σ:aw} {K:AV->aw->Prop} (h:Call P f args σ K):Sound P f args σ K:=
 h (Sound P) l7 fun f args σ K hs=>by
  rcases hs with⟨md,vf,h1,h2,h3⟩|h
  ·intro hs D ι w vs S U A
   exact Mp hm h1 h2 (h3 (qD fun j a hj=>by obtain⟨u,_,hr⟩:=A.2 j a hj;exact hr.Nk)) hs D ι w vs S U A
  ·exact h
end
end Go.Proofs.YtainmfbpilopaaaGreatDoor.V

namespace Go.Proofs.YtainmfbpilopaaaGreatDoor.V
open Go.RowKit
variable {P:Program} {X Y:gx}
theorem LC (h:∀f args σ K,X f args σ K->Y f args σ K) {f:Nat} {args:List AV} {σ:aw} {K:AV->Prop} (hp:fu X f args σ K):fu Y f args σ K:=by
 rcases hp with hp|⟨a,h1,h2⟩
 ·exact .inl (h _ _ _ _ hp)
 ·exact .inr ⟨a,h1,h _ _ _ _ h2⟩
theorem O8 (h:∀f args σ K,X f args σ K->Y f args σ K) {f:Nat} {args:List AV} {σ:aw} {sz:Nat} {rows:List (List AV)} (hp:CM X f args σ sz rows):CM Y f args σ sz rows:=by
 obtain⟨h1,a,h2,h3⟩:=hp
 exact⟨h1,a,h2,h _ _ _ _ h3⟩
theorem sq (h:∀f args σ K,X f args σ K->Y f args σ K) (hK:∀f args σ K K',(∀r σ',K r σ'->K' r σ')->Y f args σ K->Y f args σ K') {draw:Bool} {hid:List Nat} {site:Nat} {f:Nat} {args:List AV} {σ:aw} {n n':AV->aw->Prop} (hn:∀v σ',n v σ'->n' v σ') (hp:cr X draw hid site f args σ n):cr Y draw hid site f args σ n':=by
 rcases hp with⟨r,h1,h2⟩|⟨h1,h2⟩|⟨h1,sz,rows,h2,h3⟩
 ·exact .inl ⟨r,LC h h1,hn _ _ h2⟩
 ·exact .inr (.inl ⟨h1,hK _ _ _ _ _ hn (h _ _ _ _ h2)⟩)
 ·exact .inr (.inr ⟨h1,sz,rows,O8 h h2,hn _ _ h3⟩)
theorem uO (h:∀f args σ K,X f args σ K->Y f args σ K) (hK:∀f args σ K K',(∀r σ',K r σ'->K' r σ')->Y f args σ K->Y f args σ K') {draw:Bool} {o:bL} {env:Env} {σ:aw} {n n':AV->aw->Prop} (hn:∀v σ',n v σ'->n' v σ') (hp:fc X draw o env σ n):fc Y draw o env σ n':=by
 unfold fc at hp ⊢
 split at hp
 ·exact sq h hK hn hp
 ·split at hp
  ·exact sq h hK hn hp
  ·exact sq h hK hn hp
  ·exact hp.elim
 ·split at hp
  ·exact hn _ _ hp
  ·exact hp.elim
 ·split at hp
  ·exact hn _ _ hp
  ·exact hp.elim
 ·split at hp
  ·exact hn _ _ hp
  ·exact hp.elim
 ·split at hp
  ·exact hn _ _ hp
  ·exact hp.elim
 ·split at hp
  ·exact hn _ _ hp
  ·exact hp.elim
 ·split at hp
  ·exact hn _ _ hp
  ·exact hn _ _ hp
  ·exact hp.elim
theorem mK (h:∀f args σ K,X f args σ K->Y f args σ K) (hK:∀f args σ K K',(∀r σ',K r σ'->K' r σ')->Y f args σ K->Y f args σ K') {draw:Bool} {Q Q':Env->aw->Prop} (hQ:∀e s,Q e s->Q' e s):∀(l:List bL) (env:Env) (σ:aw),wpOps X draw l Q env σ->wpOps Y draw l Q' env σ
 |[],env,σ,hp=>hQ _ _ hp
 |o::r,env,σ,hp=>by
  unfold wpOps at hp ⊢
  split at hp
  ·rename_i hw;rw[if_pos hw];exact uO h hK (fun v σ'=>mK h hK hQ r _ _) hp
  ·rename_i hw;rw[if_neg hw];exact mK h hK hQ r _ _ hp
theorem po {Q Q':Env->aw->Prop} (hQ:∀e s,Q e s->Q' e s):∀(l:List bL) (env:Env) (σ:aw),cj l Q env σ->cj l Q' env σ
 |[],env,σ,hp=>hQ _ _ hp
 |o::r,env,σ,hp=>by
  unfold cj at hp ⊢
  refine⟨hp.1,?_⟩
  replace hp:=hp.2
  split at hp
  ·split at hp
   ·exact po hQ r _ _ hp
   ·exact hp.elim
  ·split at hp
   ·exact po hQ r _ _ hp
   ·exact hp.elim
  ·split at hp
   ·exact po hQ r _ _ hp
   ·exact hp.elim
theorem kn (h:∀f args σ K,X f args σ K->Y f args σ K) (hK:∀f args σ K K',(∀r σ',K r σ'->K' r σ')->Y f args σ K->Y f args σ K'):∀(c:VC) (Q Q':Ex->Env->aw->Prop) (env:Env) (σ:aw),(∀x e s,Q x e s->Q' x e s)->dW X c Q env σ->dW Y c Q' env σ:=by
 intro c
 induction c with
 |skip=>intro Q Q' env σ hQ hp;exact hQ _ _ _ hp
 |exit id=>intro Q Q' env σ hQ hp;exact hQ _ _ _ hp
 |ret=>intro Q Q' env σ hQ hp;exact hQ _ _ _ hp
 |one o c ih=>
  intro Q Q' env σ hQ hp
  unfold dW at hp ⊢
  split at hp
  ·rename_i hw;rw[if_pos hw];exact uO h hK (fun v σ'=>ih Q Q' _ _ hQ) hp
  ·rename_i hw;rw[if_neg hw];exact ih Q Q' _ _ hQ hp
 |both a b iha ihb=>intro Q Q' env σ hQ hp;exact⟨iha Q Q' env σ hQ hp.1,ihb Q Q' env σ hQ hp.2⟩
 |loc t s y c ih=>intro Q Q' env σ hQ hp;exact⟨hp.1,ih Q Q' env σ hQ hp.2⟩
 |SL ops=>intro Q Q' env σ hQ hp;exact po (hQ .normal) ops env σ hp
 |fF draw ops=>intro Q Q' env σ hQ hp;exact mK h hK (hQ .normal) ops env σ hp
 |seq a b iha ihb=>
  intro Q Q' env σ hQ hp
  refine iha _ _ env σ (fun x e s hx=>?_) hp
  cases x with
  |normal=>exact ihb Q Q' e s hQ hx
  |exit id=>exact hQ _ _ _ hx
  |ret=>exact hQ _ _ _ hx
 |cond c a b iha ihb=>
  intro Q Q' env σ hQ hp
  unfold dW at hp ⊢
  split at hp
  ·rename_i t ht
   cases t with
   |true=>exact iha Q Q' env σ hQ hp
   |false=>exact ihb Q Q' env σ hQ hp
  ·exact hp.elim
 |block id a iha=>
  intro Q Q' env σ hQ hp
  refine iha _ _ env σ (fun x e s hx=>?_) hp
  cases x with
  |normal=>exact hQ _ _ _ hx
  |ret=>exact hQ _ _ _ hx
  |exit kK=>
   unfold aX at hx ⊢
   dsimp only at hx ⊢
   split at hx
   ·rename_i hid;rw[if_pos hid];exact hQ _ _ _ hx
   ·rename_i hid;rw[if_neg hid];exact hQ _ _ _ hx
 |loop a iha=>
  intro Q Q' env σ hQ hp
  obtain⟨n,hp⟩:=hp
  refine⟨n,?_⟩
  induction n generalizing env σ with
  |zero=>exact hp
  |succ n ihn=>
   refine iha _ _ env σ (fun x e s hx=>?_) hp
   cases x with
   |normal=>exact ihn e s hx
   |exit id=>exact hQ _ _ _ hx
   |ret=>exact hQ _ _ _ hx
theorem az:rZ (Call P):=fun _ _ _ _ _ hK h X hX hc=>hX _ _ _ _ _ hK (h X hX hc)
theorem AH {f:Nat} {args:List AV} {σ:aw} {K:AV->aw->Prop} (h:Sb P (Call P) f args σ K):Call P f args σ K:=by
 intro X hX hc
 refine hc _ _ _ _ ?_
 rcases h with⟨md,vf,h1,h2,h3⟩|h
 ·exact .inl ⟨md,vf,h1,h2,fun hl=>kn (fun f args σ K h=>h X hX hc) hX _ _ _ _ _ (fun _ _ _ h=>h) (h3 hl)⟩
 ·exact .inr h
theorem yk {f:Nat} {md:List (Nat×Nat)} {args:List AV} {σ:aw} {K:AV->aw->Prop} {vf:Df} (hf:Ak P f md=some vf) (ha:vf.Bw=args.length) (h:(∀a∈args,eZ a)->dW (Call P) vf.body (lU vf.res K) (bW args) σ):Call P f args σ K:=
 AH (.inl ⟨md,vf,hf,ha,h⟩)
theorem nV {f:Nat} {args:List AV} {σ:aw} {K:AV->aw->Prop} {vf:Df} (hf:nU P f=some vf) (ha:vf.Bw=args.length) (h:(∀a∈args,eZ a)->dW (Call P) vf.body (lU vf.res K) (bW args) σ):Call P f args σ K:=
 yk hf ha h
theorem eW {f:Nat} {args:List AV} {σ:aw} {K:AV->aw->Prop} (h:Sound P f args σ K):Call P f args σ K:=AH (.inr h)
def l6 (P:Program) (f:Nat) (args:List AV) (r:AV):Prop:=∀σ,PC (Call P) f args σ (fun r'=>r'=r)
theorem l6.body {f:Nat} {args:List AV} {r:AV} {nt na:Nat} {body:VC} {res:List pN} (hf:nU P f=some ⟨nt,na,body,res⟩) (ha:na=args.length) (h:(∀a∈args,eZ a)->∀σ:aw,dW (Call P) body (lU res fun r0 σ'=>∃r',fz σ'.get 6 r0=some r'/\r'=r) (bW args) ⟨V.ro σ.get,σ.next⟩):l6 P f args r:=fun σ=>nV hf ha fun hl=>h hl σ
variable {Q:Ex->Env->aw->Prop} {K:Env->aw->Prop} {env:Env} {σ:aw}
theorem FP {a b:VC} (h:∀N:Env->aw->Prop,(∀e s,dW X b Q e s->N e s)->dW X a (da N Q) env σ):dW X (.seq a b) Q env σ:=h _ fun _ _ h=>h
theorem Dd (h:Q .normal env σ):dW X .skip Q env σ:=h
theorem Da {id:Nat} (h:Q (.exit id) env σ):dW X (.exit id) Q env σ:=h
theorem I9 (h:Q .ret env σ):dW X .ret Q env σ:=h
theorem yf {id:Nat} {c:VC} (h:dW X c (aX id Q) env σ):dW X (.block id c) Q env σ:=h
theorem I7 {o:bL} {c:VC} (h:∀N:AV->aw->Prop,(∀v s,dW X c Q (upd env o.dst v) s->N v s)->if aJ o.guard env then fc X false o env σ N else N .undef σ):dW X (.one o c) Q env σ:=by
 have:=h (fun v s=>dW X c Q (upd env o.dst v) s) fun _ _ h=>h
 unfold dW
 split
 ·rename_i hw;rw[if_pos hw]at this;exact this
 ·rename_i hw;rw[if_neg hw]at this;exact this
def dM (s n:Nat):AV->Prop
 | .own id 0 _=>id=⟨s,n⟩
 |_=>False
def dP (n:Nat):AV->Prop
 | .own id _ _=>¬id.bG=n
 |_=>True
theorem Db {t s:Nat} {y:O} {c:VC} (h1:dM s σ.next (env t)) (h2:dP σ.next (dh env y)) (h:dW X c Q env σ):dW X (.loc t s y c) Q env σ:=by
 refine⟨⟨?_,fun id o l he=>?_⟩,h⟩
 ·revert h1
  unfold dM
  split
  ·rename_i id l he;rintro rfl;exact⟨l,he⟩
  ·exact fun h=>h.elim
 ·rw[he]at h2;exact h2
theorem fB {a b:VC} (ha:dW X a Q env σ) (hb:dW X b Q env σ):dW X (.both a b) Q env σ:=⟨ha,hb⟩
theorem I8 {draw:Bool} {ops:List bL} (h:∀N:Env->aw->Prop,(∀e s,Q .normal e s->N e s)->wpOps X draw ops N env σ):dW X (.fF draw ops) Q env σ:=h _ fun _ _ h=>h
theorem OG {ops:List bL} (h:cj ops (Q .normal) env σ):dW X (.SL ops) Q env σ:=h
theorem FO {draw:Bool} (h:K env ⟨σ.get,σ.next+1⟩):wpOps X draw [] K env σ:=h
theorem U3 {draw:Bool} {o:bL} {r:List bL} (h:∀N:AV->aw->Prop,(∀v s,wpOps X draw r K (upd env o.dst v) s->N v s)->if aJ o.guard env then fc X draw o env σ N else N .undef σ):wpOps X draw (o::r) K env σ:=by
 have:=h (fun v s=>wpOps X draw r K (upd env o.dst v) s) fun _ _ h=>h
 unfold wpOps
 split
 ·rename_i hw;rw[if_pos hw]at this;exact this
 ·rename_i hw;rw[if_neg hw]at this;exact this
theorem OH {c:O} {x y:VC} {b:Bool} (hc:dh env c=.bool b) (ht:b=true->dW X x Q env σ) (hf:b=false->dW X y Q env σ):dW X (.cond c x y) Q env σ:=by
 unfold dW
 simp only[hc]
 cases b with
 |true=>exact ht rfl
 |false=>exact hf rfl
inductive pZ:AV->Prop->Prop->Prop
 |t {A B:Prop}:A->pZ (.bool true) A B
 |f {A B:Prop}:B->pZ (.bool false) A B
theorem yg {c:O} {x y:VC} {v:AV} (hv:dh env c=v) (h:pZ v (dW X x Q env σ) (dW X y Q env σ)):dW X (.cond c x y) Q env σ:=by
 cases h with
 |t h=>exact OH hv (fun _=>h) (fun e=>by cases e)
 |f h=>exact OH hv (fun e=>by cases e) (fun _=>h)
theorem U0 {c:VC} (I:Nat->Env->aw->Prop) (n:Nat) (h0:I n env σ) (step:∀n env σ,I n env σ->dW X c (fun x e s=>match x with| .normal=>∃m,m<n/\I m e s|x=>Q x e s) env σ)
  (hX:∀(c:VC) (Q Q':Ex->Env->aw->Prop) env σ,(∀x e s,Q x e s->Q' x e s)->dW X c Q env σ->dW X c Q' env σ):dW X (.loop c) Q env σ:=by
 have key:∀N n env σ,n<N->I n env σ->IJ (dW X c) Q N env σ:=by
  intro N
  induction N with
  |zero=>intro n env σ h;exact absurd h (Nat.not_lt_zero _)
  |succ N ih=>
   intro n env σ hn hI
   refine hX c _ _ env σ (fun x e s hx=>?_) (step n env σ hI)
   cases x with
   |normal=>obtain⟨m,hm,Z6⟩:=hx;exact ih m e s ah Z6
   |exit id=>exact hx
   |ret=>exact hx
 exact⟨n+1,key _ n env σ (Nat.lt_succ_self _) h0⟩
theorem Q7 {c:VC} (I:Nat->Env->aw->Prop) (n:Nat) (h0:I n env σ) (step:∀n env σ,I n env σ->dW (Call P) c (fun x e s=>match x with| .normal=>∃m,m<n/\I m e s|x=>Q x e s) env σ):dW (Call P) (.loop c) Q env σ:=
 U0 I n h0 step fun c Q Q' env σ hQ h=>kn (fun _ _ _ _ h=>h) az c Q Q' env σ hQ h
def AM:VC->List Nat
 | .fF _ ops=>ops.filterMap (·.dst)
 | .seq a b=>AM a++AM b
 | .cond _ a b=>AM a++AM b
 | .block _ a=>AM a
 | .loop a=>AM a
 | .one o c=>o.dst.toList++AM c
 | .both a b=>AM a++AM b
 | .loc _ _ _ c=>AM c
 | .SL ops=>ops.filterMap (·.dst)
 |_=>[]
def jH (l:List Nat) (env jl:Env):Prop:=∀t,l.contains t=false->jl t=env t
theorem jH.refl (l:List Nat) (env:Env):jH l env env:=fun _ _=>rfl
theorem jH.upd {l:List Nat} {e e':Env} {d:Option Nat} {v:AV} (h:jH l e e') (hd:∀t,d=some t->t∈l):jH l e (upd e' d v):=fun t ht=>by
 cases d with
 |none=>exact h t ht
 |some d=>
  have:t≠d:=fun hc=>by subst hc;rw[<-Bool.not_eq_true,List.contains_iff_mem]at ht;exact ht (hd _ rfl)
  show(if t=d then v else e' t)=e t
  rw[if_neg this];exact h t ht
theorem qQ {draw:Bool} {Q:Env->aw->Prop} {l:List Nat} {e0:Env}:∀(ops:List bL) (env:Env) (σ:aw),(∀t,t∈ops.filterMap (·.dst)->t∈l)->jH l e0 env->wpOps (Call P) draw ops Q env σ->wpOps (Call P) draw ops (fun e s=>Q e s/\jH l e0 e) env σ
 |[],env,σ,_,hk,hp=>⟨hp,hk⟩
 |o::r,env,σ,hl,hk,hp=>by
  have hd:∀t,o.dst=some t->t∈l:=fun t ht=>hl t (List.mem_filterMap.2 ⟨o,by simp,ht⟩)
  have hr:∀t,t∈r.filterMap (·.dst)->t∈l:=fun t ht=>hl t (by
   obtain⟨x,hx,h⟩:=List.mem_filterMap.1 ht
   exact List.mem_filterMap.2 ⟨x,List.mem_cons_of_mem _ hx,h⟩)
  unfold wpOps at hp ⊢
  split at hp
  ·rename_i hw;rw[if_pos hw]
   exact uO (fun _ _ _ _ h=>h) az (fun v σ' h=>qQ r _ _ hr (hk.upd hd) h) hp
  ·rename_i hw;rw[if_neg hw];exact qQ r _ _ hr (hk.upd hd) hp
theorem nB {Q:Env->aw->Prop} {l:List Nat} {e0:Env}:∀(ops:List bL) (env:Env) (σ:aw),(∀t,t∈ops.filterMap (·.dst)->t∈l)->jH l e0 env->cj ops Q env σ->cj ops (fun e s=>Q e s/\jH l e0 e) env σ
 |[],env,σ,_,hk,hp=>⟨hp,hk⟩
 |o::r,env,σ,hl,hk,hp=>by
  have hd:∀t,o.dst=some t->t∈l:=fun t ht=>hl t (List.mem_filterMap.2 ⟨o,by simp,ht⟩)
  have hr:∀t,t∈r.filterMap (·.dst)->t∈l:=fun t ht=>hl t (by
   obtain⟨x,hx,h⟩:=List.mem_filterMap.1 ht
   exact List.mem_filterMap.2 ⟨x,List.mem_cons_of_mem _ hx,h⟩)
  unfold cj at hp ⊢
  refine⟨hp.1,?_⟩
  replace hp:=hp.2
  split at hp
  ·split at hp
   ·exact nB r _ _ hr (hk.upd hd) hp
   ·exact hp.elim
  ·split at hp
   ·exact nB r _ _ hr (hk.upd hd) hp
   ·exact hp.elim
  ·split at hp
   ·exact nB r _ _ hr (hk.upd hd) hp
   ·exact hp.elim
theorem BR {l:List Nat} {e0:Env}:∀(c:VC) (Q:Ex->Env->aw->Prop) (env:Env) (σ:aw),(∀t,t∈AM c->t∈l)->jH l e0 env->dW (Call P) c Q env σ->dW (Call P) c (fun x e s=>Q x e s/\jH l e0 e) env σ:=by
 intro c
 induction c with
 |skip=>intro Q env σ _ hk hp;exact⟨hp,hk⟩
 |exit id=>intro Q env σ _ hk hp;exact⟨hp,hk⟩
 |ret=>intro Q env σ _ hk hp;exact⟨hp,hk⟩
 |one o c ih=>
  intro Q env σ hl hk hp
  have hd:∀t,o.dst=some t->t∈l:=fun t ht=>hl t (List.mem_append_left _ (by rw[ht];simp))
  have hr:∀t,t∈AM c->t∈l:=fun t ht=>hl t (List.mem_append_right _ ht)
  unfold dW at hp ⊢
  split at hp
  ·rename_i hw;rw[if_pos hw]
   exact uO (fun _ _ _ _ h=>h) az (fun v σ' h=>ih Q _ _ hr (hk.upd hd) h) hp
  ·rename_i hw;rw[if_neg hw];exact ih Q _ _ hr (hk.upd hd) hp
 |both a b iha ihb=>
  intro Q env σ hl hk hp
  exact⟨iha Q env σ (fun t ht=>hl t (List.mem_append_left _ ht)) hk hp.1,ihb Q env σ (fun t ht=>hl t (List.mem_append_right _ ht)) hk hp.2⟩
 |loc t s y c ih=>intro Q env σ hl hk hp;exact⟨hp.1,ih Q env σ hl hk hp.2⟩
 |SL ops=>intro Q env σ hl hk hp;exact nB ops env σ hl hk hp
 |fF draw ops=>intro Q env σ hl hk hp;exact qQ ops env σ hl hk hp
 |seq a b iha ihb=>
  intro Q env σ hl hk hp
  refine kn (fun _ _ _ _ h=>h) az a _ _ env σ (fun x e s hx=>?_) (iha _ env σ (fun t ht=>hl t (List.mem_append_left _ ht)) hk hp)
  cases x with
  |normal=>exact ihb Q e s (fun t ht=>hl t (List.mem_append_right _ ht)) hx.2 hx.1
  |exit id=>exact hx
  |ret=>exact hx
 |cond c a b iha ihb=>
  intro Q env σ hl hk hp
  unfold dW at hp ⊢
  split at hp
  ·rename_i t ht
   cases t with
   |true=>exact iha Q env σ (fun t ht=>hl t (List.mem_append_left _ ht)) hk hp
   |false=>exact ihb Q env σ (fun t ht=>hl t (List.mem_append_right _ ht)) hk hp
  ·exact hp.elim
 |block id a iha=>
  intro Q env σ hl hk hp
  refine kn (fun _ _ _ _ h=>h) az a _ _ env σ (fun x e s hx=>?_) (iha _ env σ hl hk hp)
  obtain⟨hx,GO⟩:=hx
  cases x with
  |normal=>exact⟨hx,GO⟩
  |ret=>exact⟨hx,GO⟩
  |exit kK=>
   unfold aX at hx ⊢
   dsimp only at hx ⊢
   split at hx
   ·rename_i hid;rw[if_pos hid];exact⟨hx,GO⟩
   ·rename_i hid;rw[if_neg hid];exact⟨hx,GO⟩
 |loop a iha=>
  intro Q env σ hl hk hp
  obtain⟨n,hp⟩:=hp
  refine⟨n,?_⟩
  induction n generalizing env σ with
  |zero=>exact hp
  |succ n ihn=>
   refine kn (fun _ _ _ _ h=>h) az _ _ _ _ _ (fun x e s hx=>?_) (iha _ env σ hl hk hp)
   obtain⟨hx,GO⟩:=hx
   cases x with
   |normal=>exact ihn e s GO hx
   |exit id=>exact⟨hx,GO⟩
   |ret=>exact⟨hx,GO⟩
theorem bf {c:VC} (I:Nat->Env->aw->Prop) (n:Nat) (h0:I n env σ) (step:∀n e s,I n e s->jH (AM c) env e->dW (Call P) c (fun x e s=>match x with| .normal=>∃m,m<n/\I m e s|x=>Q x e s) e s):dW (Call P) (.loop c) Q env σ:=by
 refine Q7 (fun n e s=>I n e s/\jH (AM c) env e) n ⟨h0,jH.refl _ _⟩ fun n e s hI=>?_
 refine kn (fun _ _ _ _ h=>h) az _ _ _ _ _ (fun x e' s' hx=>?_) (BR c _ e s (fun _ h=>h) hI.2 (step n e s hI.1 hI.2))
 obtain⟨hx,hk⟩:=hx
 cases x with
 |normal=>obtain⟨m,hm,h⟩:=hx;exact⟨m,hm,h,hk⟩
 |exit id=>exact hx
 |ret=>exact hx
theorem OJ {k:Nat} (h:k<=9223372036854775807):IntKind.i64.wrap (k:Int)=k:=by rw[IntKind.wrap_i64];omega
theorem cq {z:Int} (h: -9223372036854775808<=z/\z<=9223372036854775807):IntKind.i64.wrap z=z:=by rw[IntKind.wrap_i64];omega
theorem aE {k:Nat} (h:(k:Int)+1<=9223372036854775807):IntKind.i64.wrap ((k:Int)+1)=((k+1:Nat):Int):=by rw[IntKind.wrap_i64];omega
theorem all_succ {k:Nat} {p:Nat->Prop} (h:∀j,j<k->p j) (hk:p k):∀j,j<k+1->p j:=fun j hj=>by
 by_cases Bg:j=k
 ·subst Bg;exact hk
 ·exact h j ah
theorem aB (g:Rows) (n:Nat) (k:IntKind) (m:Int):fz g (n+1) (.int k m)=some (.int k m):=by rw[fz]<;>intros<;>simp_all
theorem aW (g:Rows) (n:Nat) (b:Bool):fz g (n+1) (.bool b)=some (.bool b):=by rw[fz]<;>intros<;>simp_all
theorem bq (g:Rows) (n:Nat) (b:ByteArray):fz g (n+1) (.str b)=some (.str b):=by rw[fz]<;>intros<;>simp_all
theorem bP (g:Rows) (n:Nat) (l:List (List AV)):fz g (n+1) (.sl l)=some (.sl l):=by rw[fz]<;>intros<;>simp_all
theorem aO (g:Rows) (n:Nat):fz g (n+1) .bU=some .bU:=by rw[fz]<;>intros<;>simp_all
theorem XU {t:Nat} {r r0:AV} {x:Ex} (hx:x=.ret∨x=.normal) (he:env t=r0) (hz:fz σ.get 6 r0=some r):lU [.tmp t] (fun r0 σ'=>∃r',fz σ'.get 6 r0=some r'/\r'=r) x env σ:=by
 have:∃vs,ga env σ.get [.tmp t]=some vs/\∃r',fz σ.get 6 (fb vs)=some r'/\r'=r:=⟨[env t],rfl,r,by subst he;exact hz,rfl⟩
 rcases hx with rfl|rfl
 ·exact this
 ·exact this
def au (P:Program) (f:Nat) (args:List AV) (r:AV):Prop:=∀n:Nat,Call P f args ⟨fun _=>none,n⟩ fun r0 σ'=>∃r',gS σ'.get 6 r0=some r'/\r'=r
theorem au.body {f:Nat} {args:List AV} {r:AV} {nt na:Nat} {body:VC} {res:List pN} (hf:nU P f=some ⟨nt,na,body,res⟩) (ha:na=args.length) (h:(∀a∈args,eZ a)->∀n:Nat,dW (Call P) body (lU res fun r0 σ'=>∃r',gS σ'.get 6 r0=some r'/\r'=r) (bW args) ⟨fun _=>none,n⟩):au P f args r:=fun n=>nV hf ha fun hl=>h hl n
theorem au.x {f:Nat} {args args':List AV} {r:AV} (h:au P f args' r) {σ:aw} (hv:dx (ea σ.get) 6 args=some args'):fu (Call P) f args σ (fun r'=>r'=r):=.inr ⟨args',hv,h _⟩
theorem l6.x {f:Nat} {args:List AV} {r:AV} (h:l6 P f args r) (σ:aw):fu (Call P) f args σ (fun r'=>r'=r):=.inl (h σ)
theorem eL (g:Rows) (n:Nat) (k:IntKind) (m:Int):gS g (n+1) (.int k m)=some (.int k m):=by rw[gS]<;>intros<;>simp_all
theorem fN (g:Rows) (n:Nat) (b:Bool):gS g (n+1) (.bool b)=some (.bool b):=by rw[gS]<;>intros<;>simp_all
theorem PD (g:Rows) (n:Nat) (b:ByteArray):gS g (n+1) (.str b)=some (.str b):=by rw[gS]<;>intros<;>simp_all
theorem ma (g:Rows) (n:Nat):gS g (n+1) .bU=some .bU:=by rw[gS]<;>intros<;>simp_all
theorem fK (g:Rows) (n:Nat) (l:List AV):gS g (n+1) (.fD l)=(eQ g n l).map AV.fD:=by rw[gS]
theorem xW (g:Rows) (n:Nat) (l:List AV):gS g (n+1) (.agg l)=(eQ g n l).map AV.agg:=by rw[gS]
theorem xX {g:Rows} {n:Nat} {id:Id} {off len sz:Nat} {rows rows':List (List AV)} (h:g id=some ⟨true,sz,rows⟩) (hl:off+len<=rows.length) (hr:iQ g n ((rows.drop off).take len)=some rows'):gS g (n+1) (.own id off len)=some (.sl rows'):=by
 rw[gS];simp only[h,if_true,if_pos hl,hr,Option.map_some]
theorem cZ (g:Rows) (n:Nat):eQ g n []=some []:=by rw[eQ]
theorem cu (g:Rows) (n:Nat) (a:AV) (l:List AV):eQ g n (a::l)=match gS g n a with
  |some b=>(eQ g n l).map (b::·)
  |none=>none:=by rw[eQ];cases gS g n a<;>rfl
theorem wP {g:Rows} {n:Nat}:∀{l:List (List AV)},(∀c∈l,eQ g n c=some c)->iQ g n l=some l
 |[],_=>by rw[iQ]
 |c::r,h=>by rw[iQ,h c (by simp),wP fun d hd=>h d (List.mem_cons_of_mem _ hd)];rfl
theorem aY (g:Rows) (n:Nat) (l:List AV):fz g (n+1) (.agg l)=(dx g n l).map AV.agg:=by rw[fz]
theorem aP (g:Rows) (n:Nat) (l:List AV):fz g (n+1) (.dQ l)=some (.dQ l):=by rw[fz]<;>intros<;>simp_all
theorem sI {g:Rows} {n:Nat} {id:Id} {i off sz:Nat} {rows:List (List AV)} {cs r7:List AV} (h:g id=some ⟨true,sz,rows⟩) (hi:rows[i]? =some cs) (hr:dx g n (cs.drop off)=some r7):fz g (n+1) (.ptr id i off)=some (.dQ r7):=by
 rw[fz];simp only[h,if_true,hi,hr,Option.map_some]
theorem ar (g:Rows) (n:Nat):dx g n []=some []:=by rw[dx]
theorem ai (g:Rows) (n:Nat) (a:AV) (l:List AV):dx g n (a::l)=match fz g n a with
  |some b=>(dx g n l).map (b::·)
  |none=>none:=by rw[dx];cases fz g n a<;>rfl
theorem zG {t:Nat} {r r0:AV} {x:Ex} (hx:x=.ret∨x=.normal) (he:env t=r0) (hz:gS σ.get 6 r0=some r):lU [.tmp t] (fun r0 σ'=>∃r',gS σ'.get 6 r0=some r'/\r'=r) x env σ:=by
 have:∃vs,ga env σ.get [.tmp t]=some vs/\∃r',gS σ.get 6 (fb vs)=some r'/\r'=r:=⟨[env t],rfl,r,by subst he;exact hz,rfl⟩
 rcases hx with rfl|rfl
 ·exact this
 ·exact this
theorem bQ {t:Nat} {b c:Bool} {x:Ex} (hx:x=.ret∨x=.normal) (he:env t=.bool b) (hb:b=c):lU [.tmp t] (fun r0 σ'=>∃r',gS σ'.get 6 r0=some r'/\r'=.bool c) x env σ:=zG hx he (by rw[fN,hb])
theorem dq {t:Nat} {k:IntKind} {b c:Int} {x:Ex} (hx:x=.ret∨x=.normal) (he:env t=.int k b) (hb:b=c):lU [.tmp t] (fun r0 σ'=>∃r',gS σ'.get 6 r0=some r'/\r'=.int k c) x env σ:=zG hx he (by rw[eL,hb])
theorem ki {t u:Nat} {r r1 r2:AV} {x:Ex} (hx:x=.ret∨x=.normal) (h1:env t=r1) (h2:env u=r2) (hz:gS σ.get 6 (.fD [r1,r2])=some r):lU [.tmp t,.tmp u] (fun r0 σ'=>∃r',gS σ'.get 6 r0=some r'/\r'=r) x env σ:=by
 have:∃vs,ga env σ.get [.tmp t,.tmp u]=some vs/\∃r',gS σ.get 6 (fb vs)=some r'/\r'=r:=⟨[env t,env u],rfl,r,by subst h1;subst h2;exact hz,rfl⟩
 rcases hx with rfl|rfl
 ·exact this
 ·exact this
structure Pn (p:Prop):Prop where
 out:p
theorem tw {A B:Prop} (a:A) (b:B):A/\B:=⟨a,b⟩
theorem wk {A R G:Prop} (a:A) (r:R) (h:A->R->G:=by
  intro fL kk
  (repeat(apply Pn.mk;intro N hN))
  (first|((first|apply FP|apply I8);intro N hN)|((first|(apply U3;intro N hN)|(apply I7;intro N hN));simp only[go_sem, ↓reduceIte,Nat.reduceEqDiff,Nat.reduceAdd,Nat.reduceSub,Nat.reduceMul,Nat.reduceLeDiff,Nat.reduceBEq,reduceCtorEq,Nat.reduceLT,Int.reduceLE,Int.reduceLT,Int.reduceToNat,Int.reduceNeg,Int.reduceAdd,Int.reduceEq,fL];first|(apply hN;clear hN N)|skip)|(apply yg;(simp only[go_sem, ↓reduceIte,Nat.reduceEqDiff,Nat.reduceAdd,Nat.reduceSub,Nat.reduceMul,Nat.reduceLeDiff,Nat.reduceBEq,reduceCtorEq,Nat.reduceLT,Int.reduceLE,Int.reduceLT,Int.reduceToNat,Int.reduceNeg,Int.reduceAdd,Int.reduceEq,fL];rfl);first|with_reducible apply pZ.t|with_reducible apply pZ.f)|(apply FO;apply hN;clear hN N;try(simp only[da,aX, ↓reduceIte,Nat.reduceEqDiff]);try(apply hN;clear hN N))|apply yf|(refine Db ?_ ?_ ?_;(focus(simp only[go_sem, ↓reduceIte,Nat.reduceEqDiff,Nat.reduceAdd,Nat.reduceSub,Nat.reduceMul,Nat.reduceLeDiff,Nat.reduceBEq,reduceCtorEq,Nat.reduceLT,Int.reduceLE,Int.reduceLT,Int.reduceToNat,Int.reduceNeg,Int.reduceAdd,Int.reduceEq,fL];done));(focus(simp only[go_sem, ↓reduceIte,Nat.reduceEqDiff,Nat.reduceAdd,Nat.reduceSub,Nat.reduceMul,Nat.reduceLeDiff,Nat.reduceBEq,reduceCtorEq,Nat.reduceLT,Int.reduceLE,Int.reduceLT,Int.reduceToNat,Int.reduceNeg,Int.reduceAdd,Int.reduceEq,fL];done)))|((first|apply Dd|apply Da|apply I9);try(simp only[da,aX, ↓reduceIte,Nat.reduceEqDiff]);try(apply hN;clear hN N))|((first|apply hN|(clear hN N;first|apply hN|(clear hN N;first|apply hN|(clear hN N;first|apply hN|(clear hN N;apply hN)))));clear hN N))
  (repeat(first|((first|apply FP|apply I8);intro N hN)|((first|(apply U3;intro N hN)|(apply I7;intro N hN));simp only[go_sem, ↓reduceIte,Nat.reduceEqDiff,Nat.reduceAdd,Nat.reduceSub,Nat.reduceMul,Nat.reduceLeDiff,Nat.reduceBEq,reduceCtorEq,Nat.reduceLT,Int.reduceLE,Int.reduceLT,Int.reduceToNat,Int.reduceNeg,Int.reduceAdd,Int.reduceEq,fL];first|(apply hN;clear hN N)|skip)|(apply yg;(simp only[go_sem, ↓reduceIte,Nat.reduceEqDiff,Nat.reduceAdd,Nat.reduceSub,Nat.reduceMul,Nat.reduceLeDiff,Nat.reduceBEq,reduceCtorEq,Nat.reduceLT,Int.reduceLE,Int.reduceLT,Int.reduceToNat,Int.reduceNeg,Int.reduceAdd,Int.reduceEq,fL];rfl);first|with_reducible apply pZ.t|with_reducible apply pZ.f)|(apply FO;apply hN;clear hN N;try(simp only[da,aX, ↓reduceIte,Nat.reduceEqDiff]);try(apply hN;clear hN N))|apply yf|(refine Db ?_ ?_ ?_;(focus(simp only[go_sem, ↓reduceIte,Nat.reduceEqDiff,Nat.reduceAdd,Nat.reduceSub,Nat.reduceMul,Nat.reduceLeDiff,Nat.reduceBEq,reduceCtorEq,Nat.reduceLT,Int.reduceLE,Int.reduceLT,Int.reduceToNat,Int.reduceNeg,Int.reduceAdd,Int.reduceEq,fL];done));(focus(simp only[go_sem, ↓reduceIte,Nat.reduceEqDiff,Nat.reduceAdd,Nat.reduceSub,Nat.reduceMul,Nat.reduceLeDiff,Nat.reduceBEq,reduceCtorEq,Nat.reduceLT,Int.reduceLE,Int.reduceLT,Int.reduceToNat,Int.reduceNeg,Int.reduceAdd,Int.reduceEq,fL];done)))|((first|apply Dd|apply Da|apply I9);try(simp only[da,aX, ↓reduceIte,Nat.reduceEqDiff]);try(apply hN;clear hN N))|((first|apply hN|(clear hN N;first|apply hN|(clear hN N;first|apply hN|(clear hN N;first|apply hN|(clear hN N;apply hN)))));clear hN N)))
  (repeat(revert N;apply Pn.out))
  exact kk):G:=h a r
theorem wa {A R G:Prop} (a:A) (r:R) (h:A->R->G:=by
  intro fL kk
  (repeat(apply Pn.mk;intro N hN))
  (first|((first|apply FP|apply I8);intro N hN)|((first|(refine Sh rfl fun N hN=>?_)|(apply I7;intro N hN));simp only[go_sem, ↓reduceIte,Nat.reduceEqDiff,Nat.reduceAdd,Nat.reduceSub,Nat.reduceMul,Nat.reduceLeDiff,Nat.reduceBEq,reduceCtorEq,Nat.reduceLT,Int.reduceLE,Int.reduceLT,Int.reduceToNat,Int.reduceNeg,Int.reduceAdd,Int.reduceEq,fL];first|(apply hN;clear hN N)|skip)|(apply yg;(simp only[go_sem, ↓reduceIte,Nat.reduceEqDiff,Nat.reduceAdd,Nat.reduceSub,Nat.reduceMul,Nat.reduceLeDiff,Nat.reduceBEq,reduceCtorEq,Nat.reduceLT,Int.reduceLE,Int.reduceLT,Int.reduceToNat,Int.reduceNeg,Int.reduceAdd,Int.reduceEq,fL];rfl);first|with_reducible apply pZ.t|with_reducible apply pZ.f)|(apply FO;apply hN;clear hN N;try(simp only[da,aX, ↓reduceIte,Nat.reduceEqDiff]);try(apply hN;clear hN N))|apply yf|(refine Db ?_ ?_ ?_;(focus(simp only[go_sem, ↓reduceIte,Nat.reduceEqDiff,Nat.reduceAdd,Nat.reduceSub,Nat.reduceMul,Nat.reduceLeDiff,Nat.reduceBEq,reduceCtorEq,Nat.reduceLT,Int.reduceLE,Int.reduceLT,Int.reduceToNat,Int.reduceNeg,Int.reduceAdd,Int.reduceEq,fL];done));(focus(simp only[go_sem, ↓reduceIte,Nat.reduceEqDiff,Nat.reduceAdd,Nat.reduceSub,Nat.reduceMul,Nat.reduceLeDiff,Nat.reduceBEq,reduceCtorEq,Nat.reduceLT,Int.reduceLE,Int.reduceLT,Int.reduceToNat,Int.reduceNeg,Int.reduceAdd,Int.reduceEq,fL];done)))|((first|apply Dd|apply Da|apply I9);try(simp only[da,aX, ↓reduceIte,Nat.reduceEqDiff]);try(apply hN;clear hN N))|((first|apply hN|(clear hN N;first|apply hN|(clear hN N;first|apply hN|(clear hN N;first|apply hN|(clear hN N;apply hN)))));clear hN N))
  (repeat(first|((first|apply FP|apply I8);intro N hN)|((first|(refine Sh rfl fun N hN=>?_)|(apply I7;intro N hN));simp only[go_sem, ↓reduceIte,Nat.reduceEqDiff,Nat.reduceAdd,Nat.reduceSub,Nat.reduceMul,Nat.reduceLeDiff,Nat.reduceBEq,reduceCtorEq,Nat.reduceLT,Int.reduceLE,Int.reduceLT,Int.reduceToNat,Int.reduceNeg,Int.reduceAdd,Int.reduceEq,fL];first|(apply hN;clear hN N)|skip)|(apply yg;(simp only[go_sem, ↓reduceIte,Nat.reduceEqDiff,Nat.reduceAdd,Nat.reduceSub,Nat.reduceMul,Nat.reduceLeDiff,Nat.reduceBEq,reduceCtorEq,Nat.reduceLT,Int.reduceLE,Int.reduceLT,Int.reduceToNat,Int.reduceNeg,Int.reduceAdd,Int.reduceEq,fL];rfl);first|with_reducible apply pZ.t|with_reducible apply pZ.f)|(apply FO;apply hN;clear hN N;try(simp only[da,aX, ↓reduceIte,Nat.reduceEqDiff]);try(apply hN;clear hN N))|apply yf|(refine Db ?_ ?_ ?_;(focus(simp only[go_sem, ↓reduceIte,Nat.reduceEqDiff,Nat.reduceAdd,Nat.reduceSub,Nat.reduceMul,Nat.reduceLeDiff,Nat.reduceBEq,reduceCtorEq,Nat.reduceLT,Int.reduceLE,Int.reduceLT,Int.reduceToNat,Int.reduceNeg,Int.reduceAdd,Int.reduceEq,fL];done));(focus(simp only[go_sem, ↓reduceIte,Nat.reduceEqDiff,Nat.reduceAdd,Nat.reduceSub,Nat.reduceMul,Nat.reduceLeDiff,Nat.reduceBEq,reduceCtorEq,Nat.reduceLT,Int.reduceLE,Int.reduceLT,Int.reduceToNat,Int.reduceNeg,Int.reduceAdd,Int.reduceEq,fL];done)))|((first|apply Dd|apply Da|apply I9);try(simp only[da,aX, ↓reduceIte,Nat.reduceEqDiff]);try(apply hN;clear hN N))|((first|apply hN|(clear hN N;first|apply hN|(clear hN N;first|apply hN|(clear hN N;first|apply hN|(clear hN N;apply hN)))));clear hN N)))
  (repeat(revert N;apply Pn.out))
  exact kk):G:=h a r
theorem sd {A G:Prop} (a:A) (h:A->G:=by
  intro fL
  first|(simp only[go_sem, ↓reduceIte,Nat.reduceEqDiff,Nat.reduceAdd,Nat.reduceSub,Nat.reduceMul,Nat.reduceLeDiff,Nat.reduceBEq,reduceCtorEq,Nat.reduceLT,Int.reduceLE,Int.reduceLT,Int.reduceToNat,Int.reduceNeg,Int.reduceAdd,Int.reduceEq,fL,ga,iW];done)|fail):G:=h a
theorem sl {A G:Prop} (a:A) (h:A->G:=by
  intro fL
  (try simp only[go_sem, ↓reduceIte,Nat.reduceEqDiff,Nat.reduceAdd,Nat.reduceSub,Nat.reduceMul,Nat.reduceLeDiff,Nat.reduceBEq,reduceCtorEq,Nat.reduceLT,Int.reduceLE,Int.reduceLT,Int.reduceToNat,Int.reduceNeg,Int.reduceAdd,Int.reduceEq,fL])
  try rfl):G:=h a
end Go.Proofs.YtainmfbpilopaaaGreatDoor.V

namespace Go.Proofs.YtainmfbpilopaaaGreatDoor
open Go.RowKit
def Sl (w:World) (fp:List Nat) (v:Value) (n:Nat) (xs:List Value):Prop:=
 ∃A c,v=.slice A n c/\n<=c/\c<=maxLen/\
  ((fp=[]/\n=0)∨∃b o,fp=[b]/\A=some ⟨b,o,none⟩/\∀j u,xs[j]? =some u->w.cell? ⟨b,o+j,none⟩=some u)
def gC (fp:List Nat) (lo hi:Nat):Prop:=∀b∈fp,lo<=b/\b<hi
theorem gC.nil (lo hi:Nat):gC [] lo hi:=fun _ h=>by cases h
theorem Sl.nil (w:World):Sl w [] (.slice none 0 0) 0 []:=⟨none,0,rfl,Nat.le_refl _,by simp[maxLen],.inl ⟨rfl,rfl⟩⟩
def Ss {α:Type} (rep:World->List Nat->List Value->α->Prop) (sz:Nat) (w:World) (qj:List (List Value)) (Il:List (List Nat)) (ds:List α):Prop:=
 qj.length=ds.length/\Il.length=ds.length/\∀(i:Nat) (cs:List Value) (f:List Nat) (d:α),qj[i]? =some cs->Il[i]? =some f->ds[i]? =some d->rep w f cs d/\cs.length=sz
def oN {α:Type} (rep:World->List Nat->List Value->α->Prop) (sz:Nat) (w:World) (fp:List Nat) (v:Value) (ds:List α):Prop:=
 ∃qj Il ZN,fp=ZN++Il.flatten/\Sl w ZN v ds.length qj.flatten/\Ss rep sz w qj Il ds
theorem sS {α:Type} {Il:List (List α)} {i:Nat} {f:List α} (h:Il[i]? =some f):∀b∈f,b∈Il.flatten:=fun b hb=>
 List.mem_flatten.2 ⟨f,List.mem_of_getElem? h,hb⟩
theorem wO {α:Type} {qj:List (List α)} {sz:Nat} (h:∀cs∈qj,cs.length=sz) {i j:Nat} {cs:List α} (hi:qj[i]? =some cs) (hj:j<sz):qj.flatten[i*sz+j]? =cs[j]? :=by
 induction qj generalizing i with
 |nil=>simp at hi
 |cons c r ih=>
  have hc:c.length=sz:=h c (by simp)
  cases i with
  |zero=>
   simp at hi;subst hi
   rw[List.flatten_cons,List.getElem?_append_left (by omega)];simp
  |succ i=>
   rw[List.flatten_cons,List.getElem?_append_right (by rw[hc,Nat.succ_mul];omega)]
   have:(i+1)*sz+j-c.length=i*sz+j:=by rw[hc,Nat.succ_mul];omega
   rw[this]
   exact ih (fun cs dY=>h cs (List.mem_cons_of_mem _ dY)) (by simpa using hi)
theorem Ss.lens {α:Type} {rep:World->List Nat->List Value->α->Prop} {sz:Nat} {w:World} {qj:List (List Value)} {Il:List (List Nat)} {ds:List α}
  (h:Ss rep sz w qj Il ds):∀cs∈qj,cs.length=sz:=fun cs dY=>by
 obtain⟨i,hi,rfl⟩:=List.getElem_of_mem dY
 have h1:i<Il.length:=by rw[h.2.1,<-h.1];exact hi
 have h2:i<ds.length:=by rw[<-h.1];exact hi
 exact(h.2.2 i _ _ _ (List.getElem?_eq_getElem hi) (List.getElem?_eq_getElem h1) (List.getElem?_eq_getElem h2)).2
theorem oN.at_ {α:Type} {rep:World->List Nat->List Value->α->Prop} {sz:Nat} {w:World} {fp:List Nat} {A:Option Addr} {n c:Nat} {ds:List α}
  (h:oN rep sz w fp (.slice A n c) ds) (k:Nat) (hk:k<ds.length):
  ∃b o cs f,A=some ⟨b,o,none⟩/\b∈fp/\(∀x∈f,x∈fp)/\rep w f cs ds[k]/\cs.length=sz/\∀j u,cs[j]? =some u->w.cell? ⟨b,o+(k*sz+j),none⟩=some u:=by
 obtain⟨qj,Il,ZN,rfl,⟨A',c',hv,_,_,hc⟩,hr⟩:=h
 simp only[Value.slice.injEq]at hv
 obtain⟨rfl,hn,rfl⟩:=hv
 rcases hc with⟨_,h0⟩|⟨b,o,rfl,rfl,hc⟩
 ·omega
 have h1:k<qj.length:=by rw[hr.1];exact hk
 have h2:k<Il.length:=by rw[hr.2.1];exact hk
 obtain⟨iu,hl⟩:=hr.2.2 k _ _ _ (List.getElem?_eq_getElem h1) (List.getElem?_eq_getElem h2) (List.getElem?_eq_getElem hk)
 refine⟨b,o,qj[k],Il[k],rfl,by simp,fun x hx=>List.mem_append_right _ (sS (List.getElem?_eq_getElem h2) x hx),iu,hl,fun j u hj=>?_⟩
 have gZ:j<sz:=by rw[<-hl];exact(List.getElem?_eq_some_iff.1 hj).1
 exact hc _ u (by rw[wO hr.lens (List.getElem?_eq_getElem h1) gZ];exact hj)
theorem oN.len {α:Type} {rep:World->List Nat->List Value->α->Prop} {sz:Nat} {w:World} {fp:List Nat} {v:Value} {ds:List α}
  (h:oN rep sz w fp v ds):∃A c,v=.slice A ds.length c/\ds.length<=c/\c<=maxLen:=by
 obtain⟨_,_,_,_,⟨A,c,hv,h1,h2,_⟩,_⟩:=h
 exact⟨A,c,hv,h1,h2⟩
theorem oN.nil {α:Type} (rep:World->List Nat->List Value->α->Prop) (sz:Nat) (w:World):oN rep sz w [] (.slice none 0 0) ([]:List α):=
 ⟨[],[],[],rfl,Sl.nil w,rfl,rfl,fun i cs f d hc=>by simp at hc⟩
def Flat {α:Type} (enc:α->List Value):World->List Nat->List Value->α->Prop:=fun _ f cs d=>f=[]/\cs=enc d
def Q (w w':World):Prop:=∃q,w'=w.drewN q
theorem Wd {B:Nat} {a w:World} (h:Below B a w) (n:Nat):Below B a (w.drewN n):=⟨h.os,h.tape,h.output,h.size,h.block⟩
theorem jk {a b:Bool} (h:a=b):Ending.returned (.bool a)=.returned (.bool b):=by rw[h]
theorem IS {k:IntKind} {a b:Int} (h:a=b):Ending.returned (.int k a)=.returned (.int k b):=by rw[h]
def Unf (w:World) (b:Nat):Prop:=∃cs e,w.heap[b]? =some (.cells cs e (0,0))
def putCells (w:World) (g:Nat):Nat->List Value->World
 |_,[]=>w
 |i,v::r=>putCells (w.setCell ⟨g,i,none⟩ v) g (i+1) r
structure Zw (fp:List Nat) (w w':World):Prop where
 os:w'.os=w.os
 tape:w'.tape=w.tape
 output:w'.output=w.output
 size:w.heap.size<=w'.heap.size
 block:∀x,x<w.heap.size->x∉fp->w'.heap[x]? =w.heap[x]?
 unf:∀x,Unf w x->Unf w' x
structure aq where
 eS:Int
 eM:Int
deriving DecidableEq
structure aa where
 aQ:aq
 bK:Int
deriving DecidableEq
structure iS where
 aj:List aa
deriving DecidableEq
structure gn where
 aZ:ByteArray
 eR:Int
deriving DecidableEq
structure ft where
 aZ:ByteArray
 cz:List Int
deriving DecidableEq
structure ay where
 aI:List gn
 aj:List ft
deriving DecidableEq
structure ax where
 aD:ay
 bH:iS
 aA:Int
deriving DecidableEq
def JD (d:Int):List Value:=[.int .i64 d]
def H5:=Flat JD
def gz (d:aq):List Value:=[.int .i64 d.eS,.int .i64 d.eM]
def fw (d:aa):List Value:=[.int .i64 d.aQ.eS,.int .i64 d.aQ.eM,.int .i64 d.bK]
def Dv:=Flat fw
def lV:=oN Dv 3
def Mb (d:gn):List Value:=[.string d.aZ,.int .i64 d.eR]
def LD:=Flat Mb
def tu:=oN LD 2
def tx:=oN H5 1
def LF (w:World) (f:List Nat) (cs:List Value) (d:ft):Prop:=
 ∃v1 f1,f=f1/\cs=[.string d.aZ,v1]/\tx w f1 v1 d.cz
def tz:=oN LF 2
end Go.Proofs.YtainmfbpilopaaaGreatDoor

namespace Go.Proofs.YtainmfbpilopaaaGreatDoor.V
open Go.RowKit
variable {P:Program} {w:World} {D:Nat->Prop}
def Lx (P:Program) (w:World) (D:Nat->Prop) (al:List AV) (cs:List Value):Prop:=∀(j:Nat) (a:AV),al[j]? =some a->∃u:Value,cs[j]? =some u/\ko P w D a u
theorem uJ {α:Type} {rep:World->List Nat->List Value->α->Prop} {e:α->List AV} {sz:Nat} {f:List Nat} {v:Value} {xs:List α} (h:oN rep sz w f v xs) (hD:∀b∈f,D b)
  (hl:∀x∈xs,(e x).length=sz) (hc:∀x∈xs,∀a∈e x,a.cell=true) (hr:∀x∈xs,∀f' cs,rep w f' cs x->(∀b∈f',D b)->Lx P w D (e x) cs):ko P w D (.sl (xs.map e)) v:=by
 obtain⟨A,c,rfl,h1,h2⟩:=oN.len h
 by_cases h0:xs=[]
 ·subst h0;exact .Dn _ _ h2
 have lp:0<xs.length:=List.length_pos_iff.2 h0
 obtain⟨b,o,Rx,f0,rfl,hb,YL,hr0,PM,j6⟩:=oN.at_ h 0 lp
 have key:∀(i:Nat) (hi:i<xs.length),∃cs f',(∀x∈f',x∈f)/\rep w f' cs xs[i]/\cs.length=sz/\∀j u,cs[j]? =some u->w.cell? ⟨b,o+(i*sz+j),none⟩=some u:=by
  intro i hi
  obtain⟨b',o',cs,f',YG,_,mU,lH,dY,lF⟩:=oN.at_ h i hi
  simp only[Option.some.injEq,Addr.mk.injEq,and_true]at YG
  obtain⟨rfl,rfl⟩:=YG
  exact⟨cs,f',mU,lH,dY,lF⟩
 refine .sl _ b o _ c sz (fun i j=>(w.cell? ⟨b,o+(i*sz+j),none⟩).getD Go.undef) (by simp) h1 h2 (hD b hb) ?_ ?_ ?_ ?_
 ·intro cs dY
  obtain⟨x,hx,rfl⟩:=List.mem_map.1 dY
  exact hl x hx
 ·intro cs dY
  obtain⟨x,hx,rfl⟩:=List.mem_map.1 dY
  exact hc x hx
 ·intro i j hi hj
  obtain⟨cs,f',_,_,dY,lF⟩:=key i hi
  rw[lF j cs[j] (List.getElem?_eq_getElem ah)]
  rfl
 ·intro i j cs a dY ha
  have hi:i<xs.length:=by
   have:=(List.getElem?_eq_some_iff.1 dY).1
   simpa using this
  obtain⟨r7,f',mU,lH,hcs',lF⟩:=key i hi
  simp[hi]at dY
  subst dY
  obtain⟨u,hu,him⟩:=hr _ (List.getElem_mem hi) f' r7 lH (fun b hb=>hD b (mU b hb)) j a ha
  rw[lF j u hu]
  exact him
end Go.Proofs.YtainmfbpilopaaaGreatDoor.V

namespace Go.Proofs.YtainmfbpilopaaaGreatDoor.V
open Go.RowKit
variable {P:Program} {w:World} {D:Nat->Prop}
def aC (d:Int):List AV:=[.int .i64 d]
def ad (d:aq):List AV:=[.int .i64 d.eS,.int .i64 d.eM]
def ab (d:aa):List AV:=[.int .i64 d.aQ.eS,.int .i64 d.aQ.eM,.int .i64 d.bK]
def eD (d:iS):List AV:=[.sl (d.aj.map ab)]
def cU (d:gn):List AV:=[.str d.aZ,.int .i64 d.eR]
def ck (d:ft):List AV:=[.str d.aZ,.sl (d.cz.map aC)]
def ae (d:ay):List AV:=[.sl (d.aI.map cU),.sl (d.aj.map ck)]
def aM (d:ax):List AV:=[.sl (d.aD.aI.map cU),.sl (d.aD.aj.map ck),.sl (d.bH.aj.map ab),.int .i64 d.aA]
theorem Du {f:List Nat} {v:Value} {xs:List aa} (h:lV w f v xs) (hD:∀b∈f,D b):ko P w D (.sl (xs.map ab)) v:=
 uJ h hD (fun _ _=>rfl) (fun x _ a ha=>by simp[ab]at ha;rcases ha with rfl|rfl|rfl<;>rfl) fun x _ f' cs hr hf=>by
  obtain⟨_,rfl⟩:=hr
  intro j a ha
  match j,ha with
  |0,ha=>simp[ab]at ha;subst ha;exact⟨_,rfl,.int _ _⟩
  |1,ha=>simp[ab]at ha;subst ha;exact⟨_,rfl,.int _ _⟩
  |2,ha=>simp[ab]at ha;subst ha;exact⟨_,rfl,.int _ _⟩
  |j+3,ha=>simp[ab]at ha
theorem Jc {f:List Nat} {v:Value} {xs:List gn} (h:tu w f v xs) (hD:∀b∈f,D b):ko P w D (.sl (xs.map cU)) v:=
 uJ h hD (fun _ _=>rfl) (fun x _ a ha=>by simp[cU]at ha;rcases ha with rfl|rfl<;>rfl) fun x _ f' cs hr hf=>by
  obtain⟨_,rfl⟩:=hr
  intro j a ha
  match j,ha with
  |0,ha=>simp[cU]at ha;subst ha;exact⟨_,rfl,.str _⟩
  |1,ha=>simp[cU]at ha;subst ha;exact⟨_,rfl,.int _ _⟩
  |j+2,ha=>simp[cU]at ha
theorem ym {f:List Nat} {v:Value} {xs:List Int} (h:tx w f v xs) (hD:∀b∈f,D b):ko P w D (.sl (xs.map aC)) v:=
 uJ h hD (fun _ _=>rfl) (fun x _ a ha=>by simp[aC]at ha;rcases ha with rfl<;>rfl) fun x _ f' cs hr hf=>by
  obtain⟨_,rfl⟩:=hr
  intro j a ha
  match j,ha with
  |0,ha=>simp[aC]at ha;subst ha;exact⟨_,rfl,.int _ _⟩
  |j+1,ha=>simp[aC]at ha
theorem Ji {f:List Nat} {v:Value} {xs:List ft} (h:tz w f v xs) (hD:∀b∈f,D b):ko P w D (.sl (xs.map ck)) v:=
 uJ h hD (fun _ _=>rfl) (fun x _ a ha=>by simp[ck]at ha;rcases ha with rfl|rfl<;>rfl) fun x _ f' cs hr hf=>by
  obtain⟨v1,f1,rfl,rfl,h1⟩:=hr
  intro j a ha
  match j,ha with
  |0,ha=>simp[ck]at ha;subst ha;exact⟨_,rfl,.str _⟩
  |1,ha=>simp[ck]at ha;subst ha;exact⟨_,rfl,ym h1 hf⟩
  |j+2,ha=>simp[ck]at ha
theorem F9 {d:ax} {f0:List Nat} {v0:Value} (h0:tu w f0 v0 d.aD.aI) (d0:∀b∈f0,D b) {f1:List Nat} {v1:Value} (h1:tz w f1 v1 d.aD.aj) (d1:∀b∈f1,D b) {f2:List Nat} {v2:Value} (h2:lV w f2 v2 d.bH.aj) (d2:∀b∈f2,D b):ko P w D (.agg (aM d)) (.agg #[v0,v1,v2,.int .i64 d.aA]):=by
 refine .agg _ _ (fun j=>(#[v0,v1,v2,.int .i64 d.aA]:Array Value).getD j Go.undef) rfl (fun a ha=>by simp[aM]at ha;rcases ha with rfl|rfl|rfl|rfl<;>rfl) (fun j hj=>?_) (fun j a ha=>?_)
 ·match j,hj with
  |0,_=>rfl
  |1,_=>rfl
  |2,_=>rfl
  |3,_=>rfl
  |j+4,hj=>simp[aM]at hj<;>omega
 ·match j,ha with
  |0,ha=>simp[aM]at ha;subst ha;exact Jc h0 d0
  |1,ha=>simp[aM]at ha;subst ha;exact Ji h1 d1
  |2,ha=>simp[aM]at ha;subst ha;exact Du h2 d2
  |3,ha=>simp[aM]at ha;subst ha;exact .int _ _
  |j+4,ha=>simp[aM]at ha
end Go.Proofs.YtainmfbpilopaaaGreatDoor.V

namespace Go.Proofs.YtainmfbpilopaaaGreatDoor.V
open Go.RowKit
variable {P:Program} {X:gx} {env:Env} {σ:aw}
theorem bp (g:Rows) (n:Nat) (l:List AV):fz g (n+1) (.fD l)=(dx g n l).map AV.fD:=by rw[fz]
theorem cD (g:Rows) (n:Nat) (f:Nat) (l:List AV):fz g (n+1) (.fn f l)=if l.all AV.cell then(dx g n l).map (AV.fn f)else none:=by rw[fz]
theorem aV (g:Rows) (n:Nat) (id:Id) (i off:Nat):fz g (n+1) (.ptr id i off)=match g id with
  |some r=>if r.w then(match r.rows[i]? with
   |some cs=>(dx g n (cs.drop off)).map AV.dQ
   |none=>none)else none
  |none=>none:=by rw[fz];rfl
theorem jb (g:Rows) (n:Nat) (id:Id) (off len:Nat):fz g (n+1) (.own id off len)=match g id with
  |some r=>if r.w then(if off+len<=r.rows.length then(eJ g n ((r.rows.drop off).take len)).map AV.sl else none)else none
  |none=>none:=by rw[fz];rfl
theorem qo (g:Rows) (n:Nat):eJ g n []=some []:=by rw[eJ]
theorem Cg (g:Rows) (n:Nat) (c:List AV) (l:List (List AV)):eJ g n (c::l)=match dx g n c with
  |some b=>(eJ g n l).map (b::·)
  |none=>none:=by rw[eJ];cases dx g n c<;>rfl
theorem yS {g:Rows} {n:Nat}:∀{l:List (List AV)},(∀c∈l,dx g n c=some c)->eJ g n l=some l
 |[],_=>by rw[eJ]
 |c::r,h=>by rw[eJ,h c (by simp),yS fun d hd=>h d (List.mem_cons_of_mem _ hd)];rfl
theorem sH {α:Type} {g:Rows} {n:Nat} {e:α->List AV} {l:List α} (h:∀x,dx g n (e x)=some (e x)):eJ g n (l.map e)=some (l.map e):=yS fun c hc=>by
 obtain⟨x,_,rfl⟩:=List.mem_map.1 hc
 exact h x
theorem wR {α:Type} {g:Rows} {n:Nat} {e:α->List AV} {l:List α} (h:∀x,eQ g n (e x)=some (e x)):iQ g n (l.map e)=some (l.map e):=wP fun c hc=>by
 obtain⟨x,_,rfl⟩:=List.mem_map.1 hc
 exact h x
theorem gF {α:Type} {g:Rows} {n:Nat} {e:α->List AV} {l:List α} {id:Id} {sz len:Nat} (hg:g id=some ⟨true,sz,l.map e⟩) (hl:len=l.length) (h:∀x,dx g n (e x)=some (e x)):fz g (n+1) (.own id 0 len)=some (.sl (l.map e)):=by
 subst hl
 rw[jb];simp only[hg,if_true]
 rw[if_pos (by simp),List.drop_zero,List.take_of_length_le (by simp),sH h];rfl
theorem fH {α:Type} {g:Rows} {n:Nat} {e:α->List AV} {l:List α} {id:Id} {sz len:Nat} (hg:g id=some ⟨true,sz,l.map e⟩) (hl:len=l.length) (h:∀x,eQ g n (e x)=some (e x)):gS g (n+1) (.own id 0 len)=some (.sl (l.map e)):=by
 subst hl
 exact xX hg (by simp) (by rw[List.drop_zero,List.take_of_length_le (by simp),wR h])
theorem all_map {α:Type} {e:α->List AV} {sz:Nat} {l:List α} (h:∀x,(e x).length=sz/\(e x).all AV.cell=true):(l.map e).all (fun c=>c.length==sz&&c.all AV.cell)=true:=by
 rw[List.all_eq_true]
 intro c hc
 obtain⟨x,_,rfl⟩:=List.mem_map.1 hc
 simp[(h x).1,(h x).2]
def RowM (P:Program) (f:Nat) (args:List AV) (sz:Nat) (rows:List (List AV)):Prop:=(∀c∈rows,∀a∈c,a.plain=true)/\∀n:Nat,Call P f args ⟨fun _=>none,n⟩ fun r σ'=>∃id,r=.own id 0 rows.length/\σ'.get id=some ⟨true,sz,rows⟩
theorem CQ {res:List pN} {r:AV} {vs:List AV} {x:Ex} (hx:x=.ret∨x=.normal) (hv:ga env σ.get res=some vs) (hz:fz σ.get 6 (fb vs)=some r):lU res (fun r0 σ'=>∃r',fz σ'.get 6 r0=some r'/\r'=r) x env σ:=by
 rcases hx with rfl|rfl
 ·exact⟨vs,hv,r,hz,rfl⟩
 ·exact⟨vs,hv,r,hz,rfl⟩
theorem qI {res:List pN} {r:AV} {vs:List AV} {x:Ex} (hx:x=.ret∨x=.normal) (hv:ga env σ.get res=some vs) (hz:gS σ.get 6 (fb vs)=some r):lU res (fun r0 σ'=>∃r',gS σ'.get 6 r0=some r'/\r'=r) x env σ:=by
 rcases hx with rfl|rfl
 ·exact⟨vs,hv,r,hz,rfl⟩
 ·exact⟨vs,hv,r,hz,rfl⟩
theorem er {res:List pN} {K:AV->aw->Prop} {vs:List AV} {x:Ex} (hx:x=.ret∨x=.normal) (hv:ga env σ.get res=some vs) (hK:K (fb vs) σ):lU res K x env σ:=by
 rcases hx with rfl|rfl
 ·exact⟨vs,hv,hK⟩
 ·exact⟨vs,hv,hK⟩
theorem eB {f:Nat} {args:List AV} {σ:aw} {K:AV->aw->Prop} {nt na:Nat} {body:VC} {res:List pN} (hf:nU P f=some ⟨nt,na,body,res⟩) (ha:na=args.length) (h:(∀a∈args,eZ a)->dW (Call P) body (lU res K) (bW args) σ):Call P f args σ K:=nV hf ha h
theorem F4 {f:Nat} {md:List (Nat×Nat)} {args:List AV} {σ:aw} {K:AV->aw->Prop} {nt na:Nat} {body:VC} {res:List pN} (hf:Ak P f md=some ⟨nt,na,body,res⟩) (ha:na=args.length) (h:(∀a∈args,eZ a)->dW (Call P) body (lU res K) (bW args) σ):Call P f args σ K:=yk hf ha h
theorem db {i:Id} {n:Nat} (h:i.bG<n):(∀s,(i=⟨s,n⟩)=False/\(i=⟨s,n+1⟩)=False/\(i=⟨s,n+1+1⟩)=False/\(i=⟨s,n+1+1+1⟩)=False/\(i=⟨s,n+1+1+1+1⟩)=False/\(i=⟨s,n+1+1+1+1+1⟩)=False/\(i=⟨s,n+1+1+1+1+1+1⟩)=False/\(i=⟨s,n+1+1+1+1+1+1+1⟩)=False/\(i=⟨s,n+1+1+1+1+1+1+1+1⟩)=False/\(i=⟨s,n+1+1+1+1+1+1+1+1+1⟩)=False/\(⟨s,n⟩=i)=False/\(⟨s,n+1⟩=i)=False/\(⟨s,n+1+1⟩=i)=False/\(⟨s,n+1+1+1⟩=i)=False/\(⟨s,n+1+1+1+1⟩=i)=False/\(⟨s,n+1+1+1+1+1⟩=i)=False/\(⟨s,n+1+1+1+1+1+1⟩=i)=False/\(⟨s,n+1+1+1+1+1+1+1⟩=i)=False/\(⟨s,n+1+1+1+1+1+1+1+1⟩=i)=False/\(⟨s,n+1+1+1+1+1+1+1+1+1⟩=i)=False)/\(i.bG=n)=False/\(i.bG=n+1)=False/\(i.bG=n+1+1)=False/\(i.bG=n+1+1+1)=False/\(i.bG=n+1+1+1+1)=False/\(i.bG=n+1+1+1+1+1)=False/\(i.bG=n+1+1+1+1+1+1)=False/\(i.bG=n+1+1+1+1+1+1+1)=False/\(i.bG=n+1+1+1+1+1+1+1+1)=False/\(i.bG=n+1+1+1+1+1+1+1+1+1)=False:=by
 refine⟨fun s=>?_,?_⟩
 ·obtain⟨a,b⟩:=i
  simp only[Id.mk.injEq,eq_iff_iff,iff_false,not_and]
  simp only at h
  refine⟨?_,?_,?_,?_,?_,?_,?_,?_,?_,?_,?_,?_,?_,?_,?_,?_,?_,?_,?_,?_⟩<;>(intros;omega)
 ·simp only[eq_iff_iff,iff_false]
  refine⟨?_,?_,?_,?_,?_,?_,?_,?_,?_,?_⟩<;>omega
def gp (a b:Nat) (ids:List Id):Prop:=ids.Nodup/\∀i∈ids,a<=i.bG/\i.bG<b
def Kept (σ σ':aw):Prop:=σ.next<=σ'.next/\∀j:Id,j.bG<σ.next->σ'.get j=σ.get j
theorem gp.wide {a b a' b':Nat} {ids:List Id} (h:gp a b ids) (h1:a'<=a) (h2:b<=b'):gp a' b' ids:=⟨h.1,fun i hi=>⟨Nat.le_trans h1 (h.2 i hi).1,Nat.lt_of_lt_of_le (h.2 i hi).2 h2⟩⟩
theorem gp.app {a b c d:Nat} {i j:List Id} (h:gp a b i) (k:gp c d j) (VD:b<=c) (oi:a<=b) (hcd:c<=d):gp a d (i++j):=
 ⟨List.nodup_append.2 ⟨h.1,k.1,fun x hx y hy e=>by subst e;have:=(h.2 x hx).2;have:=(k.2 x hy).1;omega⟩,fun x hx=>by
  rcases List.mem_append.1 hx with hx|hx
  ·have:=h.2 x hx;omega
  ·have:=k.2 x hx;omega⟩
end Go.Proofs.YtainmfbpilopaaaGreatDoor.V

namespace Go.Proofs.YtainmfbpilopaaaGreatDoor.V
open Go.RowKit
attribute [local irreducible] dW wpOps fu Call
attribute [go_sem] aJ fc eA fq fo dh upd bW K.av cC AV.cells AV.cell rowOf rowsOf part ld rowAt fR bJ bV dn dE fU bx cQ dO fj eK di dI cN cL dy dz bD aU cF bB cH cG dG dJ dH cE bF cP dF bz aH cJ cm fS bj cw bE aT da aX dp AV.undef br bt dC dD dt dw cr dM dP cj dL dK cI cK List.getD_cons_zero List.getD_cons_succ List.getD_nil List.all_cons List.all_nil Bool.and_true Bool.true_and Bool.and_self Bool.not_true Bool.not_false Option.map_some Option.map_none Option.bind_some Option.bind_none List.length_cons List.length_nil List.take_succ_cons List.take_zero List.take_nil List.drop_succ_cons List.drop_zero List.drop_nil List.head?_cons List.map_cons List.map_nil List.getElem?_cons_zero List.getElem?_cons_succ List.cons_append List.nil_append List.append_nil List.length_map List.set_cons_zero List.set_cons_succ Nat.reduceMul eq_self Int.toNat_natCast Int.natCast_nonneg and_self true_and and_true decide_true decide_false Bool.false_eq_true Nat.zero_add Nat.add_zero List.contains_cons List.contains_nil Bool.or_false Bool.false_or beq_self_eq_true Nat.reduceBEq ne_eq not_true_eq_false not_false_eq_true Id.mk.injEq false_and and_false Nat.reduceLT Int.reduceLE Int.reduceLT Int.reduceToNat Int.reduceNeg Int.reduceAdd Nat.le_refl List.length_append beq_true beq_false Bool.not_eq_eq_eq_not or_false false_or ea ai ar aB aW bq bP aO aY aP aV cD bp
section
variable {P:Program}
theorem Dc {X:gx} {Q:Ex->Env->aw->Prop} {N:Env->aw->Prop} {c:VC} {env:Env} {σ:aw} (I:Env->aw->Prop) (h2:∀e s,I e s->N e s) (h1:∀N':Env->aw->Prop,(∀e s,I e s->N' e s)->dW X c (da N' Q) env σ):dW X c (da N Q) env σ:=h1 N h2
def vM (f z:Nat) (a:Bool):Df:=let s:=f*1000000
 ⟨19,2,(.seq (.fF false [q 4 (.eb (.k (.int .i64 0))) s]) (.seq (.seq (.fF false [q 6 (.eb (.t 0)) (s+1000),q 7 (.len (.t 6)) (s+1001),q 8 (.eb (.k (.int .i64 0))) (s+1002)]) (.block 0 (.loop (.seq (.fF false [q 9 (.bin .lss .i64 (.t 8) (.t 7)) (s+2000)]) (.seq (.cond (.t 9) .skip (.exit 0)) (.seq (.block 1 (.seq (.fF false [q 10 (.eb (.t 8)) (s+3000),q 5 (.eb (.t 10)) (s+3001)]) (.seq (.fF false [q 11 (.eb (.t 1)) (s+4000),q 12 (.eb (.t 0)) (s+4001),q 13 (.eb (.t 5)) (s+4002),q 14 (.gG z (.t 12) (.t 13)) (s+4003),q 15 (.load a z (.t 14)) (s+4004),q 16 (.wM (.t 11) [(.t 15)]) (s+4005)]) (.cond (.t 16) (.seq (.fF false [q 17 (.eb (.t 5)) (s+5000),q 4 (.eb (.t 17)) (s+5001)]) .ret) .skip)))) (.fF false [q 18 (.bin .add .i64 (.t 8) (.k (.int .i64 1))) (s+6000),q 8 (.eb (.t 18)) (s+6001)]))))))) (.seq (.fF false [q 4 (.eb (.k (.int .i64 (-1)))) (s+7000)]) .ret))),[(.tmp 4)]⟩
def Cl (f g:Nat):Df:=let s:=f*1000000
 ⟨9,2,(.seq (.fF false [q 4 (.eb (.k (.bool false))) s]) (.seq (.fF false [q 5 (.eb (.t 0)) (s+1000),q 6 (.eb (.t 1)) (s+1001),q 7 (.call g [(.t 5),(.t 6)]) (s+1002),q 8 (.bin .geq .i64 (.t 7) (.k (.int .i64 0))) (s+1003),q 4 (.eb (.t 8)) (s+1004)]) .ret)),[(.tmp 4)]⟩
def lE {α:Type} (p:α->Bool) (xs:List α):Int:=if xs.findIdx p<xs.length then(xs.findIdx p:Int)else -1
theorem Mh {α:Type} (p:α->Bool) (xs:List α):decide (0<=lE p xs)=xs.any p:=by
 unfold lE
 by_cases h:xs.findIdx p<xs.length
 ·rw[if_pos h]
  have:xs.any p=true:=List.any_eq_true.2 (List.findIdx_lt_length.1 h)
  rw[this];simp
 ·rw[if_neg h]
  have:xs.any p=false:=by
   rw[Bool.eq_false_iff]
   intro hc
   exact h (List.findIdx_lt_length.2 (List.any_eq_true.1 hc))
  rw[this];rfl
theorem xO (a:AV) (l m:List AV):a::l++m=a::(l++m):=rfl
theorem B3 (l:List AV):[]++l=l:=rfl
structure V3 {α:Type} (e:α->List AV) (v:α->AV) (z:Nat) (a:Bool):Prop where
 len:∀x,(e x).length=z
 val:∀x,if a=true then v x=.agg (e x)else e x=[v x]
 fz:∀x g,dx g 6 [v x]=some [v x]
theorem w9 {α:Type} {e:α->List AV} {v:α->AV} {z fk:Nat} {a:Bool} (hE:V3 e v z a) (hc:nU P fk=some (vM fk z a)) (xs:List α) (hlen:xs.length<=1048576) (f:Nat) (dv:List AV) (p:α->Bool)
  (hf:∀x∈xs,au P f (v x::dv) (.bool (p x))) (MH:∀g,dx g 6 dv=some dv):
  au P fk [.sl (xs.map e),.fn f dv] (.int .i64 (lE p xs)):=by
 refine au.body hc rfl fun hl n0=>?_
 try simp only[q]
 clear hl
 (try((repeat(revert N;apply Pn.out));refine wk @Nat.zero_add ?_;(repeat(apply Pn.mk;intro N hN))))
 refine bf (fun n env st=>∃k:Nat,n=(xs.length)-k/\k<=(xs.length)/\env 8=.int .i64 (k:Int)/\(∀j:Nat,j<k->∀h:j<xs.length,p xs[j]=false)) (xs.length) ⟨0,ah,ah,sl @Nat.zero_add,fun _ h=>absurd h (Nat.not_lt_zero _)⟩ ?_
 rintro n_a env_a st_a ⟨k,rfl,ale,a8,nT⟩ dX
 have a0:=dX 0 (by kernel_rfl);have a1:=dX 1 (by kernel_rfl);have a7:=dX 7 (by kernel_rfl)
 simp only[go_sem, ↓reduceIte,Nat.reduceEqDiff,Nat.reduceAdd,Nat.reduceSub,Nat.reduceLeDiff,reduceCtorEq]at a0 a1 a7
 clear dX
 by_cases hk:(k:Int)<(xs.length:Int)
 ·have cV:∀{e:Env},(e 8=.int .i64 (IntKind.i64.wrap ((k:Int)+1)))->(∀h:k<xs.length,p xs[k]=false)->∃m0,m0<(xs.length)-k/\∃k:Nat,m0=(xs.length)-k/\k<=(xs.length)/\e 8=.int .i64 (k:Int)/\(∀j:Nat,j<k->∀h:j<xs.length,p xs[j]=false):=fun x1 x2=>⟨_,ah,k+1,rfl,ah,(by rw[x1,aE ah]),(all_succ nT x2)⟩
  have fC:k<xs.length:=ah
  have hg:(xs.map e)[k]? =some (e xs[k]):=by simp[fC]
  have Eu:=hf _ (List.getElem_mem fC)
  have hz:=hE.len xs[k]
  have hv:=hE.val xs[k]
  have kJ:dx (ea st_a.get) 6 (v xs[k]::dv)=some (v xs[k]::dv):=by
   have h1:=hE.fz xs[k] (ea st_a.get)
   rw[ai,ar]at h1
   rw[ai,MH]
   revert h1
   cases V.fz (ea st_a.get) 6 (v xs[k])<;>simp
  have fin:∀hN:True,(p xs[k]=true->xs.findIdx p=k):=fun _ hp=>by
   rw[List.findIdx_eq fC];exact⟨hp,fun j hj=>nT j hj ah⟩
  cases hp:p xs[k]
  ·have Xl:=hp
   cases a
   ·rw[if_neg (by simp)]at hv
    have y7:z=1:=by rw[<-hz,hv];rfl
    subst y7
    rw[hv]at hg hz
    rw[hp]at Eu
    generalize v xs[k]=c at Eu kJ hg hz
    (try((repeat(revert N;apply Pn.out));refine wk (tw @a8 (tw @a0 (tw @a1 (tw @a7 (tw @hk (tw @hg (tw @hz (tw @xO @B3)))))))) ?_;(repeat(apply Pn.mk;intro N hN))))
    refine .inl ⟨_,au.x Eu kJ,?_⟩
    apply hN
    clear hN N
    (try((repeat(revert N;apply Pn.out));refine wk (tw @a8 (tw @a0 (tw @a1 @a7))) ?_;(repeat(apply Pn.mk;intro N hN))))
    exact cV (sd (tw @a8 (tw @a0 (tw @a1 @a7)))) (fun _=>Xl)
   ·rw[if_pos rfl]at hv
    have ht:(e xs[k]).take z=e xs[k]:=by rw[<-hz,List.take_length]
    rw[hv]at Eu kJ
    rw[hp]at Eu
    generalize e xs[k]=c at Eu kJ hg hz ht
    (try((repeat(revert N;apply Pn.out));refine wk (tw @a8 (tw @a0 (tw @a1 (tw @a7 (tw @hk (tw @hg (tw @hz (tw @ht (tw @xO (tw @B3 @Nat.le_refl)))))))))) ?_;(repeat(apply Pn.mk;intro N hN))))
    refine .inl ⟨_,au.x Eu kJ,?_⟩
    apply hN
    clear hN N
    (try((repeat(revert N;apply Pn.out));refine wk (tw @a8 (tw @a0 (tw @a1 @a7))) ?_;(repeat(apply Pn.mk;intro N hN))))
    exact cV (sd (tw @a8 (tw @a0 (tw @a1 @a7)))) (fun _=>Xl)
  ·have hi:=fin trivial hp
   cases a
   ·rw[if_neg (by simp)]at hv
    have y7:z=1:=by rw[<-hz,hv];rfl
    subst y7
    rw[hv]at hg hz
    rw[hp]at Eu
    generalize v xs[k]=c at Eu kJ hg hz
    (try((repeat(revert N;apply Pn.out));refine wk (tw @a8 (tw @a0 (tw @a1 (tw @a7 (tw @hk (tw @hg (tw @hz (tw @xO @B3)))))))) ?_;(repeat(apply Pn.mk;intro N hN))))
    refine .inl ⟨_,au.x Eu kJ,?_⟩
    apply hN
    clear hN N
    (try((repeat(revert N;apply Pn.out));refine wk (tw @a8 (tw @a0 (tw @a1 @a7))) ?_;(repeat(apply Pn.mk;intro N hN))))
    exact dq (b:=(k:Int)) (.inl rfl) (sd @Nat.zero_add) (by rw[lE,hi,if_pos fC])
   ·rw[if_pos rfl]at hv
    have ht:(e xs[k]).take z=e xs[k]:=by rw[<-hz,List.take_length]
    rw[hv]at Eu kJ
    rw[hp]at Eu
    generalize e xs[k]=c at Eu kJ hg hz ht
    (try((repeat(revert N;apply Pn.out));refine wk (tw @a8 (tw @a0 (tw @a1 (tw @a7 (tw @hk (tw @hg (tw @hz (tw @ht (tw @xO (tw @B3 @Nat.le_refl)))))))))) ?_;(repeat(apply Pn.mk;intro N hN))))
    refine .inl ⟨_,au.x Eu kJ,?_⟩
    apply hN
    clear hN N
    (try((repeat(revert N;apply Pn.out));refine wk (tw @a8 (tw @a0 (tw @a1 @a7))) ?_;(repeat(apply Pn.mk;intro N hN))))
    exact dq (b:=(k:Int)) (.inl rfl) (sd @Nat.zero_add) (by rw[lE,hi,if_pos fC])
 ·(try((repeat(revert N;apply Pn.out));refine wk (tw @a8 (tw @a0 (tw @a1 (tw @a7 @hk)))) ?_;(repeat(apply Pn.mk;intro N hN))))
  have hi:¬xs.findIdx p<xs.length:=by
   rw[List.findIdx_lt_length]
   rintro⟨x,hx,TY⟩
   obtain⟨j,hj,rfl⟩:=List.getElem_of_mem hx
   rw[nT j ah hj]at TY;cases TY
  exact dq (b:=-1) (.inl rfl) (sd @Nat.zero_add) (by rw[lE,if_neg hi])
theorem l9 {α:Type} {e:α->List AV} {v:α->AV} {z fk gk:Nat} {a:Bool} (hE:V3 e v z a) (hc:nU P fk=some (Cl fk gk)) (GH:nU P gk=some (vM gk z a)) (xs:List α) (hlen:xs.length<=1048576) (f:Nat) (dv:List AV) (p:α->Bool) (Ej:dv.all AV.cell=true) (Di:∀g,dx g 5 dv=some dv)
  (hf:∀x∈xs,au P f (v x::dv) (.bool (p x))) (MH:∀g,dx g 6 dv=some dv):
  au P fk [.sl (xs.map e),.fn f dv] (.bool (xs.any p)):=by
 refine au.body hc rfl fun hl n0=>?_
 try simp only[q]
 clear hl
 have hi:=w9 hE GH xs hlen f dv p hf MH
 (repeat(first|((repeat(revert N;apply Pn.out));refine wk (tw @Ej @Di) ?_;(repeat(apply Pn.mk;intro N hN)))|((try apply Or.inl);refine⟨_,au.x (hi) (sd (tw @Ej @Di)),?_⟩;apply hN;clear hN N)))
 exact bQ (b:=decide (0<=lE p xs)) (.inl rfl) (sd @Nat.zero_add) (Mh p xs)
end
def re (P:Program) (mk:Bool):List Oper->Nat->List Nat
 |[],_=>[]
 |o::r,i=>match tg P o.op with
  |some v=>if sR v||mk&&v.nK then i::re P mk r (i+1)else re P mk r (i+1)
  |none=>re P mk r (i+1)
def yD (P:Program) (ops:Array Oper) (site0:Nat) (mk:Bool) (bs:Array Nat) (hidden:List Nat):List Oper->Nat->Option (List bL)
 |[],_=>some []
 |o::r,j=>do
  let v <-tg P o.op
  let g <-Gk ops o
  pure ({dst:=o.dst,op:=v,guard:=g,site:=site0+j,hid:=(hidden.filter fun i=> !(bs.getD j 0).testBit i&&(i !=j||mk&&v.nK)).map fun i=>site0+i}::(<-yD P ops site0 mk bs hidden r (j+1)))
def qg (P:Program) (md:List (Nat×Nat)) (fid:Nat):Code->Option VC
 | .skip=>some .skip
 | .region id ops draw=>if draw&&vV md id==2 then(yD P ops ((fid*1000+id)*1000) false (jO ops) (re P false ops.toList 0) ops.toList 0).bind fun vl=>xq ops vl (jO ops) ops.size (Array.replicate ops.size false)else if draw then(yD P ops ((fid*1000+id)*1000) (vV md id==1) (jO ops) (re P (vV md id==1) ops.toList 0) ops.toList 0).map (VC.fF true)else(yD P ops ((fid*1000+id)*1000) false #[] [] ops.toList 0).map (if ops.toList.any fun o=>R0 o.op then VC.SL else VC.fF false)
 | .seq a b=>do pure (.seq (<-qg P md fid a) (<-qg P md fid b))
 | .cond c x y=>do pure (.cond (<-cO P c) (<-qg P md fid x) (<-qg P md fid y))
 | .block id c=>(qg P md fid c).map (VC.block id)
 | .loop c=>(qg P md fid c).map VC.loop
 | .exit id=>some (.exit id)
 | .ret=>some .ret
 | .label _=>some .skip
 | .scope c=>qg P md fid c
 |_=>none
def We (P:Program) (md:List (Nat×Nat)) (f:Nat):Option Df:=
 match P.funcs[f]? with
 |some fn=>match fn.body with
  |some c=>do
   let b <-qg P md f c
   let r <-fn.results.toList.mapM (Gl P)
   pure {ntmps:=fn.ntmps,Bw:=fn.params.size+fn.nfree,body:=b,res:=r}
  |none=>none
 |none=>none
theorem cfM {P:Program} (md:List (Nat×Nat)) {f:Nat} {v:Df} (_:We P md f=some v:=by(conv=>lhs;cbv)<;>exact rfl) (h:Ak P f md=some v:=by kernel_rfl):Ak P f md=some v:=h
theorem eI {P:Program} {f:Nat} {v:Df} (_:We P [] f=some v:=by(conv=>lhs;cbv)<;>exact rfl) (h:nU P f=some v:=by kernel_rfl):nU P f=some v:=h
def Ad:List Nat:=[267007021,267007022,267007024]
def Vk:bL:=⟨(some 31),(.load false 1 (.t 30)),none,267007003,Ad⟩
def Zk:bL:=⟨(some 34),(.gG 3 (.t 32) (.t 33)),none,267007006,Ad⟩
def Zl:bL:=⟨(some 35),(.iP 0 (.t 34)),none,267007007,Ad⟩
def Zm:bL:=⟨(some 36),(.load false 1 (.t 35)),none,267007008,Ad⟩
def Vs:bL:=⟨(some 50),(.append 1 (.t 47) (.t 49)),none,267007022,[267007024]⟩
def Zn:VC:=(.one ⟨(some 51),(.gG 1 (.t 31) (.t 36)),none,267007023,[267007024]⟩ (.one ⟨none,(.store 1 (.t 51) (.t 50)),none,267007024,[]⟩ (.fF false [])))
def zz7:VC:=(.one Vs Zn)
def Zo:VC:=(.one Zm Zn)
def zz9:VC:=(.both (.one Zm zz7) (.one Vs Zo))
def Vl:VC:=(.one Zk (.one Zl Zo))
def mZ:List Nat:=[267008021,267008022,267008024]
def HV:bL:=⟨(some 55),(.load false 1 (.t 54)),none,267008003,mZ⟩
def Rh:bL:=⟨(some 58),(.gG 3 (.t 56) (.t 57)),none,267008006,mZ⟩
def Ri:bL:=⟨(some 59),(.iP 1 (.t 58)),none,267008007,mZ⟩
def Rj:bL:=⟨(some 60),(.load false 1 (.t 59)),none,267008008,mZ⟩
def HW:bL:=⟨(some 74),(.append 1 (.t 71) (.t 73)),none,267008022,[267008024]⟩
def Rk:VC:=(.one ⟨(some 75),(.gG 1 (.t 55) (.t 60)),none,267008023,[267008024]⟩ (.one ⟨none,(.store 1 (.t 75) (.t 74)),none,267008024,[]⟩ (.fF false [])))
def Vm:VC:=(.one HW Rk)
def Rl:VC:=(.one Rj Rk)
def Vn:VC:=(.both (.one Rj Vm) (.one HW Rl))
def Vo:VC:=(.one Rh (.one Ri Rl))
def UX:Df:=⟨77,2,(.seq (.fF false [q 4 (.eb (.k .iH)) 267000000]) (.seq (.fF false [q 7 (.eb (.t 0)) 267001000,q 8 (.eb (.t 1)) 267001001,q 9 (.build [(.int .i64 0),.bU,.bU,.bU] [(0,(1,(.t 7))),(1,(1,(.t 8)))]) 267001002,q 10 (.box (.t 9)) 267001003,q 5 (.eb (.t 10)) 267001004]) (.seq (.fF false [q 11 (.eb (.t 5)) 267002000,q 12 (.eb (.t 0)) 267002001,q 13 (.k9 [.bU] (.t 12) (.t 12)) 267002002,q 14 (.Dg (.t 11)) 267002003,q 15 (.iP 2 (.t 14)) 267002004,⟨none,(.store 1 (.t 15) (.t 13)),none,267002005,[]⟩]) (.seq (.fF false [q 16 (.eb (.t 5)) 267003000,q 17 (.eb (.t 1)) 267003001,q 18 (.len (.t 17)) 267003002,q 19 (.k9 [(.int .i64 0)] (.t 18) (.t 18)) 267003003,q 20 (.Dg (.t 16)) 267003004,q 21 (.iP 3 (.t 20)) 267003005,⟨none,(.store 1 (.t 21) (.t 19)),none,267003006,[]⟩]) (.seq (.seq (.fF false [q 6 (.eb (.k (.int .i64 0))) 267004000]) (.block 0 (.loop (.seq (.seq (.fF false [q 22 (.eb (.t 6)) 267005000,q 23 (.eb (.t 1)) 267005001,q 24 (.len (.t 23)) 267005002,q 25 (.bin .lss .i64 (.t 22) (.t 24)) 267005003]) (.cond (.t 25) .skip (.exit 0))) (.seq (.block 1 (.seq (.one ⟨(some 28),(.eb (.t 5)),none,267007000,Ad⟩ (.one ⟨(some 29),(.Dg (.t 28)),none,267007001,Ad⟩ (.one ⟨(some 30),(.iP 2 (.t 29)),none,267007002,Ad⟩ (.one ⟨(some 32),(.eb (.t 1)),none,267007004,Ad⟩ (.one ⟨(some 33),(.eb (.t 6)),none,267007005,Ad⟩ (.one ⟨(some 37),(.eb (.t 5)),none,267007009,Ad⟩ (.one ⟨(some 38),(.Dg (.t 37)),none,267007010,Ad⟩ (.one ⟨(some 39),(.iP 2 (.t 38)),none,267007011,Ad⟩ (.one ⟨(some 40),(.load false 1 (.t 39)),none,267007012,Ad⟩ (.one ⟨(some 41),(.eb (.t 1)),none,267007013,Ad⟩ (.one ⟨(some 42),(.eb (.t 6)),none,267007014,Ad⟩ (.one ⟨(some 43),(.gG 3 (.t 41) (.t 42)),none,267007015,Ad⟩ (.one ⟨(some 44),(.iP 0 (.t 43)),none,267007016,Ad⟩ (.one ⟨(some 45),(.load false 1 (.t 44)),none,267007017,Ad⟩ (.one ⟨(some 46),(.gG 1 (.t 40) (.t 45)),none,267007018,Ad⟩ (.one ⟨(some 47),(.load false 1 (.t 46)),none,267007019,Ad⟩ (.one ⟨(some 48),(.eb (.t 6)),none,267007020,Ad⟩ (.one ⟨(some 49),(.nD 1 1 [(.t 48)]),none,267007021,[267007022,267007024]⟩ (.both (.one Vk (.both (.one Zk (.one Zl zz9)) (.one Vs Vl))) (.both (.one Zk (.one Zl (.both (.one Vk zz9) (.both (.one Zm (.both (.one Vk zz7) (.one Vs (.one Vk Zn)))) (.one Vs (.one Vk Zo)))))) (.one Vs (.one Vk Vl)))))))))))))))))))))) (.one ⟨(some 52),(.eb (.t 5)),none,267008000,mZ⟩ (.one ⟨(some 53),(.Dg (.t 52)),none,267008001,mZ⟩ (.one ⟨(some 54),(.iP 2 (.t 53)),none,267008002,mZ⟩ (.one ⟨(some 56),(.eb (.t 1)),none,267008004,mZ⟩ (.one ⟨(some 57),(.eb (.t 6)),none,267008005,mZ⟩ (.one ⟨(some 61),(.eb (.t 5)),none,267008009,mZ⟩ (.one ⟨(some 62),(.Dg (.t 61)),none,267008010,mZ⟩ (.one ⟨(some 63),(.iP 2 (.t 62)),none,267008011,mZ⟩ (.one ⟨(some 64),(.load false 1 (.t 63)),none,267008012,mZ⟩ (.one ⟨(some 65),(.eb (.t 1)),none,267008013,mZ⟩ (.one ⟨(some 66),(.eb (.t 6)),none,267008014,mZ⟩ (.one ⟨(some 67),(.gG 3 (.t 65) (.t 66)),none,267008015,mZ⟩ (.one ⟨(some 68),(.iP 1 (.t 67)),none,267008016,mZ⟩ (.one ⟨(some 69),(.load false 1 (.t 68)),none,267008017,mZ⟩ (.one ⟨(some 70),(.gG 1 (.t 64) (.t 69)),none,267008018,mZ⟩ (.one ⟨(some 71),(.load false 1 (.t 70)),none,267008019,mZ⟩ (.one ⟨(some 72),(.eb (.t 6)),none,267008020,mZ⟩ (.one ⟨(some 73),(.nD 1 1 [(.t 72)]),none,267008021,[267008022,267008024]⟩ (.both (.one HV (.both (.one Rh (.one Ri Vn)) (.one HW Vo))) (.both (.one Rh (.one Ri (.both (.one HV Vn) (.both (.one Rj (.both (.one HV Vm) (.one HW (.one HV Rk)))) (.one HW (.one HV Rl)))))) (.one HW (.one HV Vo)))))))))))))))))))))))) (.fF false [q 26 (.eb (.t 6)) 267006000,q 27 (.bin .add .i64 (.t 26) (.k (.int .i64 1))) 267006001,q 6 (.eb (.t 27)) 267006002])))))) (.seq (.fF false [q 76 (.eb (.t 5)) 267009000,q 4 (.eb (.t 76)) 267009001]) .ret)))))),[(.tmp 4)]⟩
theorem SK:Ak Tryz.prog 267 [(7,2),(8,2)]=some UX:=by kernel_rfl
def Vp:VC:=(.one (q 48 (.call 255 [(.t 47)]) 215010011) (.one (q 9 (.eb (.t 42)) 215010012) (.one (q 10 (.eb (.t 48)) 215010013) (.fF false []))))
def Vq:VC:=(.one (q 47 (.load false 1 (.t 46)) 215010010) Vp)
def Vr:VC:=(.one (q 46 (.gG 1 (.t 43) (.t 45)) 215010009) Vq)
def UW:Df:=⟨118,2,(.seq (.fF false [q 4 (.eb (.k .bU)) 215000000]) (.seq (.fF false [q 17 (.eb (.t 0)) 215001000,q 18 (.k9 [.iH] (.t 17) (.t 17)) 215001001,q 5 (.eb (.t 18)) 215001002]) (.seq (.seq (.fF false [q 19 (.eb (.t 5)) 215002000,q 20 (.len (.t 19)) 215002001,q 21 (.eb (.k (.int .i64 0))) 215002002]) (.block 0 (.loop (.seq (.fF false [q 22 (.bin .lss .i64 (.t 21) (.t 20)) 215003000]) (.seq (.cond (.t 22) .skip (.exit 0)) (.seq (.block 1 (.seq (.fF false [q 23 (.eb (.t 21)) 215004000,q 6 (.eb (.t 23)) 215004001]) (.fF false [q 24 (.eb (.t 5)) 215005000,q 25 (.eb (.t 6)) 215005001,q 26 (.eb (.t 6)) 215005002,q 27 (.build [.iH,(.int .i64 0)] [(1,(1,(.t 26)))]) 215005003,q 28 (.box (.t 27)) 215005004,q 29 (.gG 1 (.t 24) (.t 25)) 215005005,⟨none,(.store 1 (.t 29) (.t 28)),none,215005006,[]⟩]))) (.fF false [q 30 (.bin .add .i64 (.t 21) (.k (.int .i64 1))) 215006000,q 21 (.eb (.t 30)) 215006001]))))))) (.seq (.seq (.fF false [q 31 (.eb (.t 1)) 215007000,q 32 (.len (.t 31)) 215007001,q 33 (.eb (.k (.int .i64 0))) 215007002]) (.block 2 (.loop (.seq (.fF false [q 34 (.bin .lss .i64 (.t 33) (.t 32)) 215008000]) (.seq (.cond (.t 34) .skip (.exit 2)) (.seq (.block 3 (.seq (.fF false [q 35 (.gG 3 (.t 31) (.t 33)) 215009000,q 36 (.load true 3 (.t 35)) 215009001,q 8 (.new [(.int .i64 0),(.int .i64 0),(.int .i64 0)]) 215009002,⟨none,(.store 3 (.t 8) (.t 36)),none,215009003,[]⟩]) (.seq (.one (q 37 (.eb (.t 5)) 215010000) (.one (q 38 (.iP 0 (.t 8)) 215010001) (.one (q 39 (.load false 1 (.t 38)) 215010002) (.one (q 40 (.gG 1 (.t 37) (.t 39)) 215010003) (.one (q 41 (.load false 1 (.t 40)) 215010004) (.one (q 43 (.eb (.t 5)) 215010006) (.one (q 44 (.iP 1 (.t 8)) 215010007) (.both (.one (q 42 (.call 255 [(.t 41)]) 215010005) (.one (q 45 (.load false 1 (.t 44)) 215010008) Vr)) (.one (q 45 (.load false 1 (.t 44)) 215010008) (.both (.one (q 42 (.call 255 [(.t 41)]) 215010005) Vr) (.one (q 46 (.gG 1 (.t 43) (.t 45)) 215010009) (.both (.one (q 42 (.call 255 [(.t 41)]) 215010005) Vq) (.one (q 47 (.load false 1 (.t 46)) 215010010) (.one (q 42 (.call 255 [(.t 41)]) 215010005) Vp)))))))))))))) (.block 4 (.seq (.fF true [q 50 (.eb (.t 9)) 215011000,q 51 (.Dg (.t 50)) 215011001,q 52 (.iP 1 (.t 51)) 215011002,q 53 (.load false 1 (.t 52)) 215011003,q 54 (.eb (.t 10)) 215011004,q 55 (.Dg (.t 54)) 215011005,q 56 (.iP 1 (.t 55)) 215011006,q 57 (.load false 1 (.t 56)) 215011007,q 58 (.bin .lss .i64 (.t 53) (.t 57)) 215011008,q 49 (.eb (.t 58)) 215011009]) (.cond (.t 49) (.fF false [q 59 (.eb (.t 10)) 215012000,q 60 (.eb (.t 9)) 215012001,q 61 (.Dg (.t 59)) 215012002,q 62 (.iP 0 (.t 61)) 215012003,⟨none,(.store 1 (.t 62) (.t 60)),none,215012004,[]⟩]) (.seq (.fF true [q 64 (.eb (.t 10)) 215013000,q 65 (.Dg (.t 64)) 215013001,q 66 (.iP 1 (.t 65)) 215013002,q 67 (.load false 1 (.t 66)) 215013003,q 68 (.eb (.t 9)) 215013004,q 69 (.Dg (.t 68)) 215013005,q 70 (.iP 1 (.t 69)) 215013006,q 71 (.load false 1 (.t 70)) 215013007,q 72 (.bin .lss .i64 (.t 67) (.t 71)) 215013008,q 63 (.eb (.t 72)) 215013009]) (.cond (.t 63) (.fF false [q 73 (.eb (.t 9)) 215014000,q 74 (.eb (.t 10)) 215014001,q 75 (.Dg (.t 73)) 215014002,q 76 (.iP 0 (.t 75)) 215014003,⟨none,(.store 1 (.t 76) (.t 74)),none,215014004,[]⟩]) .skip)))))))) (.fF false [q 77 (.bin .add .i64 (.t 33) (.k (.int .i64 1))) 215015000,q 33 (.eb (.t 77)) 215015001]))))))) (.seq (.fF false [q 11 (.eb (.k .bU)) 215016000]) (.seq (.fF false [⟨(some 78),(.mq (.new ⟨false,[.tI]⟩) []),none,215017000,[]⟩,q 12 (.eb (.t 78)) 215017001]) (.seq (.seq (.fF false [q 79 (.eb (.t 5)) 215018000,q 80 (.len (.t 79)) 215018001,q 81 (.eb (.k (.int .i64 0))) 215018002]) (.block 5 (.loop (.seq (.fF false [q 82 (.bin .lss .i64 (.t 81) (.t 80)) 215019000]) (.seq (.cond (.t 82) .skip (.exit 5)) (.seq (.block 6 (.seq (.fF false [q 83 (.eb (.t 81)) 215020000,q 84 (.gG 1 (.t 79) (.t 81)) 215020001,q 85 (.load false 1 (.t 84)) 215020002,q 13 (.eb (.t 83)) 215020003,q 14 (.eb (.t 85)) 215020004]) (.seq (.fF false [q 87 (.eb (.t 12)) 215021000,q 88 (.eb (.t 14)) 215021001,q 89 (.call 255 [(.t 88)]) 215021002,q 90 (.Dg (.t 89)) 215021003,q 91 (.iP 1 (.t 90)) 215021004,q 92 (.load false 1 (.t 91)) 215021005,⟨(some 93),(.mq (.look ⟨false,[.tI]⟩ true (.int .i64 0)) [(.t 87),(.t 92)]),none,215021006,[]⟩,q 86 (.eb (.t 93)) 215021007,q 94 (.extract 0 (.t 86)) 215021008,q 95 (.extract 1 (.t 86)) 215021009,q 15 (.eb (.t 94)) 215021010,q 16 (.eb (.t 95)) 215021011]) (.seq (.seq (.fF false [q 96 (.eb (.t 16)) 215022000,q 97 (.not (.t 96)) 215022001]) (.cond (.t 97) (.seq (.fF false [q 98 (.eb (.t 11)) 215023000,q 99 (.len (.t 98)) 215023001,q 15 (.eb (.t 99)) 215023002]) (.seq (.fF false [q 100 (.eb (.t 12)) 215024000,q 101 (.eb (.t 13)) 215024001,q 102 (.eb (.t 15)) 215024002,⟨none,(.mw (.set ⟨false,[.tI]⟩) [(.t 100),(.t 101),(.t 102)]),none,215024003,[]⟩]) (.fF false [q 103 (.eb (.t 11)) 215025000,q 104 (.nD 1 1 [(.k .bU)]) 215025001,q 105 (.append 1 (.t 103) (.t 104)) 215025002,q 11 (.eb (.t 105)) 215025003]))) .skip)) (.fF false [q 106 (.eb (.t 11)) 215026000,q 107 (.eb (.t 15)) 215026001,q 108 (.eb (.t 11)) 215026002,q 109 (.eb (.t 15)) 215026003,q 110 (.gG 1 (.t 108) (.t 109)) 215026004,q 111 (.load false 1 (.t 110)) 215026005,q 112 (.eb (.t 13)) 215026006,q 113 (.nD 1 1 [(.t 112)]) 215026007,q 114 (.append 1 (.t 111) (.t 113)) 215026008,q 115 (.gG 1 (.t 106) (.t 107)) 215026009,⟨none,(.store 1 (.t 115) (.t 114)),none,215026010,[]⟩]))))) (.fF false [q 116 (.bin .add .i64 (.t 81) (.k (.int .i64 1))) 215027000,q 81 (.eb (.t 116)) 215027001]))))))) (.seq (.fF false [q 117 (.eb (.t 11)) 215028000,q 4 (.eb (.t 117)) 215028001]) .ret)))))))),[(.tmp 4)]⟩
theorem SJ:Ak Tryz.prog 215 [(10,2)]=some UW:=by kernel_rfl
def iE (n lo hi:Int):Bool:=decide (lo<=n)&&decide (n<=hi)
theorem ej {n lo hi:Int} (h:iE n lo hi=true):lo<=n/\n<=hi:=by simpa[iE]using h
theorem jD {n lo hi:Int} (h:lo<=n/\n<=hi):iE n lo hi=true:=by simpa[iE]using h
def Ac (p:aq):Bool:=iE p.eS (-60) 60&&iE p.eM (-60) 60
theorem lT (n lo hi:Int):au Tryz.prog 58 [.int .i64 n,.int .i64 lo,.int .i64 hi] (.bool (iE n lo hi)):=by
 refine au.body eI rfl fun hl n0=>?_
 clear hl
 by_cases h1:lo<=n
 ·(try((repeat(revert N;apply Pn.out));refine wk @h1 ?_;(repeat(apply Pn.mk;intro N hN))))
  exact bQ (b:=decide (n<=hi)) (.inl rfl) (sd @Nat.zero_add) (by simp[iE,h1])
 ·(try((repeat(revert N;apply Pn.out));refine wk @h1 ?_;(repeat(apply Pn.mk;intro N hN))))
  exact bQ (b:=false) (.inl rfl) (sd @Nat.zero_add) (by simp[iE,h1])
theorem ly (n lo hi:Int):au Tryz.prog 53 [.int .i64 n,.int .i64 lo,.int .i64 hi] (.bool (iE n lo hi)):=by
 refine au.body eI rfl fun hl n0=>?_
 clear hl
 by_cases h1:lo<=n
 ·(try((repeat(revert N;apply Pn.out));refine wk @h1 ?_;(repeat(apply Pn.mk;intro N hN))))
  exact bQ (b:=decide (n<=hi)) (.inl rfl) (sd @Nat.zero_add) (by simp[iE,h1])
 ·(try((repeat(revert N;apply Pn.out));refine wk @h1 ?_;(repeat(apply Pn.mk;intro N hN))))
  exact bQ (b:=false) (.inl rfl) (sd @Nat.zero_add) (by simp[iE,h1])
theorem Nf (d:Int):au Tryz.prog 248 [.int .i64 d] (.bool (iE d 0 3)):=by
 refine au.body eI rfl fun hl n0=>?_
 clear hl
 have h:=lT d 0 3
 (repeat(first|((repeat(revert N;apply Pn.out));refine wk @Nat.zero_add ?_;(repeat(apply Pn.mk;intro N hN)))|((try apply Or.inl);refine⟨_,au.x (h) (sd @Nat.zero_add),?_⟩;apply hN;clear hN N)))
 exact bQ (b:=iE d 0 3) (.inl rfl) (sd @Nat.zero_add) rfl
theorem y9 (p:aq):au Tryz.prog 90 [.agg (ad p)] (.bool (Ac p)):=by
 refine au.body eI rfl fun hl n0=>?_
 clear hl
 have h1:=lT p.eS (-60) 60
 have h2:=lT p.eM (-60) 60
 by_cases q:iE p.eS (-60) 60=true
 ·rw[q]at h1
  (repeat(first|((repeat(revert N;apply Pn.out));refine wk @ad.eq_1 ?_;(repeat(apply Pn.mk;intro N hN)))|((try apply Or.inl);refine⟨_,au.x (h1) (sd @ad.eq_1),?_⟩;apply hN;clear hN N)|((try apply Or.inl);refine⟨_,au.x (h2) (sd @ad.eq_1),?_⟩;apply hN;clear hN N)))
  exact bQ (b:=iE p.eM (-60) 60) (.inl rfl) (sd @Nat.zero_add) (by rw[Ac,q];rfl)
 ·rw[Bool.not_eq_true]at q
  rw[q]at h1
  (repeat(first|((repeat(revert N;apply Pn.out));refine wk @ad.eq_1 ?_;(repeat(apply Pn.mk;intro N hN)))|((try apply Or.inl);refine⟨_,au.x (h1) (sd @ad.eq_1),?_⟩;apply hN;clear hN N)|((try apply Or.inl);refine⟨_,au.x (h2) (sd @ad.eq_1),?_⟩;apply hN;clear hN N)))
  exact bQ (b:=false) (.inl rfl) (sd @Nat.zero_add) (by rw[Ac,q];rfl)
theorem tC (p:aq):au Tryz.prog 129 [.agg (ad p)] (.bool (Ac p)):=by
 refine au.body eI rfl fun hl n0=>?_
 clear hl
 have h1:=ly p.eS (-60) 60
 have h2:=ly p.eM (-60) 60
 by_cases q:iE p.eS (-60) 60=true
 ·rw[q]at h1
  (repeat(first|((repeat(revert N;apply Pn.out));refine wk @ad.eq_1 ?_;(repeat(apply Pn.mk;intro N hN)))|((try apply Or.inl);refine⟨_,au.x (h1) (sd @ad.eq_1),?_⟩;apply hN;clear hN N)|((try apply Or.inl);refine⟨_,au.x (h2) (sd @ad.eq_1),?_⟩;apply hN;clear hN N)))
  exact bQ (b:=iE p.eM (-60) 60) (.inl rfl) (sd @Nat.zero_add) (by rw[Ac,q];rfl)
 ·rw[Bool.not_eq_true]at q
  rw[q]at h1
  (repeat(first|((repeat(revert N;apply Pn.out));refine wk @ad.eq_1 ?_;(repeat(apply Pn.mk;intro N hN)))|((try apply Or.inl);refine⟨_,au.x (h1) (sd @ad.eq_1),?_⟩;apply hN;clear hN N)|((try apply Or.inl);refine⟨_,au.x (h2) (sd @ad.eq_1),?_⟩;apply hN;clear hN N)))
  exact bQ (b:=false) (.inl rfl) (sd @Nat.zero_add) (by rw[Ac,q];rfl)
def kS (d:Int):Int:=if iE d 0 3 then(d+2) % 4 else -1
def bR (p:aq) (d:Int):aq:=
 if d=0 then⟨p.eS,p.eM+1⟩else if d=1 then⟨p.eS+1,p.eM⟩else if d=2 then⟨p.eS,p.eM-1⟩else if d=3 then⟨p.eS-1,p.eM⟩else p
def iB (n:Int):Prop:=-4611686018427387904<=n/\n<=4611686018427387904
theorem vQ (p:aq) (d:Int) (hd:iE d 0 3=true) (hx:iB p.eS) (hy:iB p.eM):au Tryz.prog 156 [.agg (ad p),.int .i64 d] (.agg (ad (bR p d))):=by
 refine au.body eI rfl fun hl n0=>?_
 clear hl
 obtain⟨x1,x2⟩:=hx
 obtain⟨y1,y2⟩:=hy
 have w1:IntKind.i64.wrap (p.eS+1)=p.eS+1:=cq ah
 have w2:IntKind.i64.wrap (p.eS-1)=p.eS-1:=cq ah
 have w3:IntKind.i64.wrap (p.eM+1)=p.eM+1:=cq ah
 have w4:IntKind.i64.wrap (p.eM-1)=p.eM-1:=cq ah
 have hb:=ej hd
 have hc:d=0∨d=1∨d=2∨d=3:=ah
 rcases hc with rfl|rfl|rfl|rfl
 ·(try((repeat(revert N;apply Pn.out));refine wk (tw @ad.eq_1 @w3) ?_;(repeat(apply Pn.mk;intro N hN))))
  exact qI (.inl rfl) (vs:=[.agg (ad (bR p 0))]) (by simp only[go_sem, ↓reduceIte,Nat.reduceEqDiff,Nat.reduceAdd,Nat.reduceSub,Nat.reduceLeDiff,reduceCtorEq,ga,iW,ad,bR]) (by simp[fb,ad,gS,eQ])
 ·(try((repeat(revert N;apply Pn.out));refine wk (tw @ad.eq_1 @w1) ?_;(repeat(apply Pn.mk;intro N hN))))
  exact qI (.inl rfl) (vs:=[.agg (ad (bR p 1))]) (by simp[ga,iW,ad,bR,ld,rowAt,bJ,upd,part]) (by simp[fb,ad,gS,eQ])
 ·(try((repeat(revert N;apply Pn.out));refine wk (tw @ad.eq_1 @w4) ?_;(repeat(apply Pn.mk;intro N hN))))
  exact qI (.inl rfl) (vs:=[.agg (ad (bR p 2))]) (by simp[ga,iW,ad,bR,ld,rowAt,bJ,upd,part]) (by simp[fb,ad,gS,eQ])
 ·(try((repeat(revert N;apply Pn.out));refine wk (tw @ad.eq_1 @w2) ?_;(repeat(apply Pn.mk;intro N hN))))
  exact qI (.inl rfl) (vs:=[.agg (ad (bR p 3))]) (by simp[ga,iW,ad,bR,ld,rowAt,bJ,upd,part]) (by simp[fb,ad,gS,eQ])
theorem CL (p p2:aq) (x y:Int) (hx:IntKind.i64.wrap (p.eS+p2.eS)=x) (hy:IntKind.i64.wrap (p.eM+p2.eM)=y):au Tryz.prog 242 [.agg (ad p),.agg (ad p2)] (.agg [.int .i64 x,.int .i64 y]):=by
 refine au.body eI rfl fun hl n0=>?_
 clear hl
 (try((repeat(revert N;apply Pn.out));refine wk (tw @ad.eq_1 (tw @hx @hy)) ?_;(repeat(apply Pn.mk;intro N hN))))
 exact qI (.inl rfl) (vs:=[.agg [.int .i64 x,.int .i64 y]]) (by simp only[go_sem, ↓reduceIte,Nat.reduceEqDiff,Nat.reduceAdd,Nat.reduceSub,Nat.reduceLeDiff,reduceCtorEq,ga,iW,ad]) (by simp[fb,gS,eQ])
theorem HD (p:aq) (d:Int) (hd:iE d 0 3=true) (hx:iB p.eS) (hy:iB p.eM):au Tryz.prog 200 [.agg (ad p),.int .i64 d] (.agg (ad (bR p d))):=by
 refine au.body eI rfl fun hl n0=>?_
 clear hl
 obtain⟨x1,x2⟩:=hx
 obtain⟨y1,y2⟩:=hy
 have hb:=ej hd
 have hc:d=0∨d=1∨d=2∨d=3:=ah
 rcases hc with rfl|rfl|rfl|rfl
 ·have h:=CL p ⟨0,1⟩ (p.eS) (p.eM+1) (by rw[cq (by constructor<;>simp only<;>omega)]<;>(try simp only)<;>(try omega)) (by rw[cq (by constructor<;>simp only<;>omega)]<;>(try simp only)<;>(try omega))
  simp only[ad]at h
  (repeat(first|((repeat(revert N;apply Pn.out));refine wk @ad.eq_1 ?_;(repeat(apply Pn.mk;intro N hN)))|((try apply Or.inl);refine⟨_,au.x (h) (sd @ad.eq_1),?_⟩;apply hN;clear hN N)))
  exact qI (.inl rfl) (vs:=[.agg (ad (bR p 0))]) (by simp[ga,iW,ad,bR,ld,rowAt,bJ,upd,part]) (by simp[fb,ad,gS,eQ])
 ·have h:=CL p ⟨1,0⟩ (p.eS+1) (p.eM) (by rw[cq (by constructor<;>simp only<;>omega)]<;>(try simp only)<;>(try omega)) (by rw[cq (by constructor<;>simp only<;>omega)]<;>(try simp only)<;>(try omega))
  simp only[ad]at h
  (repeat(first|((repeat(revert N;apply Pn.out));refine wk @ad.eq_1 ?_;(repeat(apply Pn.mk;intro N hN)))|((try apply Or.inl);refine⟨_,au.x (h) (sd @ad.eq_1),?_⟩;apply hN;clear hN N)))
  exact qI (.inl rfl) (vs:=[.agg (ad (bR p 1))]) (by simp[ga,iW,ad,bR,ld,rowAt,bJ,upd,part]) (by simp[fb,ad,gS,eQ])
 ·have h:=CL p ⟨0,(-1)⟩ (p.eS) (p.eM-1) (by rw[cq (by constructor<;>simp only<;>omega)]<;>(try simp only)<;>(try omega)) (by rw[cq (by constructor<;>simp only<;>omega)]<;>(try simp only)<;>(try omega))
  simp only[ad]at h
  (repeat(first|((repeat(revert N;apply Pn.out));refine wk @ad.eq_1 ?_;(repeat(apply Pn.mk;intro N hN)))|((try apply Or.inl);refine⟨_,au.x (h) (sd @ad.eq_1),?_⟩;apply hN;clear hN N)))
  exact qI (.inl rfl) (vs:=[.agg (ad (bR p 2))]) (by simp[ga,iW,ad,bR,ld,rowAt,bJ,upd,part]) (by simp[fb,ad,gS,eQ])
 ·have h:=CL p ⟨(-1),0⟩ (p.eS-1) (p.eM) (by rw[cq (by constructor<;>simp only<;>omega)]<;>(try simp only)<;>(try omega)) (by rw[cq (by constructor<;>simp only<;>omega)]<;>(try simp only)<;>(try omega))
  simp only[ad]at h
  (repeat(first|((repeat(revert N;apply Pn.out));refine wk @ad.eq_1 ?_;(repeat(apply Pn.mk;intro N hN)))|((try apply Or.inl);refine⟨_,au.x (h) (sd @ad.eq_1),?_⟩;apply hN;clear hN N)))
  exact qI (.inl rfl) (vs:=[.agg (ad (bR p 3))]) (by simp[ga,iW,ad,bR,ld,rowAt,bJ,upd,part]) (by simp[fb,ad,gS,eQ])
theorem Hk (d:Int) (hd:iE d 0 3=true):au Tryz.prog 246 [.int .i64 d] (.int .i64 (kS d)):=by
 refine au.body eI rfl fun hl n0=>?_
 clear hl
 have hb:=ej hd
 have hw:IntKind.i64.wrap (d+2)=d+2:=cq ah
 have ht:Int.tmod (d+2) 4=(d+2) % 4:=Int.tmod_eq_emod_of_nonneg ah
 have h4:¬((4:Int)=0):=ah
 (try((repeat(revert N;apply Pn.out));refine wk (tw @hw (tw @ht @h4)) ?_;(repeat(apply Pn.mk;intro N hN))))
 exact dq (b:=(d+2) % 4) (.inl rfl) (sd @Nat.zero_add) (by rw[kS,if_pos hd])
theorem yq (d:Int) (hd:iE d 0 3=true):au Tryz.prog 203 [.int .i64 d] (.int .i64 (kS d)):=by
 refine au.body eI rfl fun hl n0=>?_
 clear hl
 have hb:=ej hd
 have hw:IntKind.i64.wrap (d+2)=d+2:=cq ah
 have ht:Int.tmod (d+2) 4=(d+2) % 4:=Int.tmod_eq_emod_of_nonneg ah
 have h4:¬((4:Int)=0):=ah
 have h:=Nf d
 rw[hd]at h
 (repeat(first|((repeat(revert N;apply Pn.out));refine wk (tw @hw (tw @ht @h4)) ?_;(repeat(apply Pn.mk;intro N hN)))|((try apply Or.inl);refine⟨_,au.x (h) (sd (tw @hw (tw @ht @h4))),?_⟩;apply hN;clear hN N)))
 exact dq (b:=(d+2) % 4) (.inl rfl) (sd @Nat.zero_add) (by rw[kS,if_pos hd])
def eO (s:ay) (t:Int):Bool:=iE t 0 ((s.aj.length:Int)-1)
theorem G5 (s:ay) (t:Int):au Tryz.prog 91 [.dQ (ae s),.int .i64 t] (.bool (eO s t)):=by
 refine au.body eI rfl fun hl n0=>?_
 have hn:s.aj.length<=9223372036854775807:=by
  have h1:=(hl (.dQ (ae s)) (by simp)).EJ (a:=.sl (s.aj.map ck)) (by simp[ae])
  simpa using h1.len
 clear hl
 have hw:IntKind.i64.wrap ((s.aj.length:Int)-1)=(s.aj.length:Int)-1:=cq ah
 have h:=lT t 0 ((s.aj.length:Int)-1)
 (repeat(first|((repeat(revert N;apply Pn.out));refine wk (tw @ae.eq_1 @hw) ?_;(repeat(apply Pn.mk;intro N hN)))|((try apply Or.inl);refine⟨_,au.x (h) (sd (tw @ae.eq_1 @hw)),?_⟩;apply hN;clear hN N)))
 exact bQ (b:=eO s t) (.inl rfl) (by simp only[go_sem, ↓reduceIte,Nat.reduceEqDiff,Nat.reduceAdd,Nat.reduceSub,Nat.reduceLeDiff,reduceCtorEq,eO]) rfl
theorem Bl (t n:Int) (h0:0<=n) (h1:n<=9223372036854775807):au Tryz.prog 130 [.int .i64 t,.int .i64 n] (.bool (iE t 0 (n-1))):=by
 refine au.body eI rfl fun hl n0=>?_
 clear hl
 have hw:IntKind.i64.wrap (n-1)=n-1:=cq ah
 have h:=ly t 0 (n-1)
 (repeat(first|((repeat(revert N;apply Pn.out));refine wk @hw ?_;(repeat(apply Pn.mk;intro N hN)))|((try apply Or.inl);refine⟨_,au.x (h) (sd @hw),?_⟩;apply hN;clear hN N)))
 exact bQ (b:=iE t 0 (n-1)) (.inl rfl) (sd @Nat.zero_add) rfl
theorem Na (s:ay) (t:Int):au Tryz.prog 100 [.agg (ae s),.int .i64 t] (.bool (eO s t)):=by
 refine au.body eI rfl fun hl n0=>?_
 have hn:s.aj.length<=9223372036854775807:=by
  have h1:=(hl (.agg (ae s)) (by simp)).Sy (a:=.sl (s.aj.map ck)) (by simp[ae])
  simpa using h1.len
 clear hl
 have h:=Bl t s.aj.length ah ah
 (repeat(first|((repeat(revert N;apply Pn.out));refine wk @ae.eq_1 ?_;(repeat(apply Pn.mk;intro N hN)))|((try apply Or.inl);refine⟨_,au.x (h) (sd @ae.eq_1),?_⟩;apply hN;clear hN N)))
 exact bQ (b:=eO s t) (.inl rfl) (by simp only[go_sem, ↓reduceIte,Nat.reduceEqDiff,Nat.reduceAdd,Nat.reduceSub,Nat.reduceLeDiff,reduceCtorEq,eO]) rfl
def CK:ft:=⟨⟨#[]⟩,[]⟩
def dU (s:ay) (t:Int):ft:=s.aj.getD t.toNat CK
def dS (t:ft) (d:Int):Int:=t.cz.getD d.toNat 0
def sJ (s:ay) (g:Int):gn:=s.aI.getD g.toNat ⟨⟨#[]⟩,0⟩
def rY (s:ay) (g:Int):Int:=if g=0 then 0 else(sJ s (g-1)).eR
def iw (s:ay) (a d b:Int):Int:=if dS (dU s a) d=dS (dU s b) (kS d)then rY s (dS (dU s a) d)else 0
structure jI (s:ay):Prop where
 sf:∀t∈s.aj,t.cz.length=4
 wS:∀t∈s.aj,∀g∈t.cz,0<=g/\g<=s.aI.length
theorem getD_map {α β:Type} (e:α->β) {l:List α} {k:Nat} {d:α} (h:k<l.length):(l.map e)[k]? =some (e (l.getD k d)):=by simp[List.getD_eq_getElem?_getD,h]
theorem sa (s:ay) (g:Int) (h0:0<=g) (h1:g<=s.aI.length):au Tryz.prog 204 [.dQ (ae s),.int .i64 g] (.int .i64 (rY s g)):=by
 refine au.body eI rfl fun hl n0=>?_
 have hn:s.aI.length<=9223372036854775807:=by
  have h1:=(hl (.dQ (ae s)) (by simp)).EJ (a:=.sl (s.aI.map cU)) (by simp[ae])
  simpa using h1.len
 clear hl
 by_cases hg:g=0
 ·have e:decide (g=0)=true:=decide_eq_true hg
  (try((repeat(revert N;apply Pn.out));refine wk (tw @ae.eq_1 @e) ?_;(repeat(apply Pn.mk;intro N hN))))
  exact dq (b:=0) (.inl rfl) (sd @Nat.zero_add) (by rw[rY,if_pos hg])
 ·have e:decide (g=0)=false:=decide_eq_false hg
  have hw:IntKind.i64.wrap (g-1)=g-1:=cq ah
  have oj:0<=g-1:=ah
  have fE:(s.aI.map cU)[(g-1).toNat]? =some (cU (sJ s (g-1))):=getD_map cU ah
  (try((repeat(revert N;apply Pn.out));refine wk (tw @ae.eq_1 (tw @e (tw @hw (tw @oj (tw @fE @cU.eq_1))))) ?_;(repeat(apply Pn.mk;intro N hN))))
  exact dq (b:=(sJ s (g-1)).eR) (.inl rfl) (sd @Nat.zero_add) (by rw[rY,if_neg hg])
theorem lv {s:ay} {a:Int} (h:eO s a=true):0<=a/\(s.aj.map ck)[a.toNat]? =some (ck (dU s a))/\dU s a∈s.aj:=by
 have h':=ej h
 have eu:a.toNat<s.aj.length:=ah
 refine⟨h'.1,getD_map ck eu,?_⟩
 unfold dU
 rw[List.getD_eq_getElem?_getD,List.getElem?_eq_getElem eu]
 exact List.getElem_mem eu
theorem mC {t:ft} {d:Int} (h:t.cz.length=4) (hd:iE d 0 3=true):(t.cz.map aC)[d.toNat]? =some [.int .i64 (dS t d)]:=by
 have:=ej hd
 exact getD_map aC ah
theorem zM {t:ft} {d:Int} (h:t.cz.length=4) (hd:iE d 0 3=true):dS t d∈t.cz:=by
 have:=ej hd
 have eu:d.toNat<t.cz.length:=ah
 unfold dS
 rw[List.getD_eq_getElem?_getD,List.getElem?_eq_getElem eu]
 exact List.getElem_mem eu
theorem sZ {d:Int} (hd:iE d 0 3=true):iE (kS d) 0 3=true:=by
 have:=ej hd
 refine jD ?_
 rw[kS,if_pos hd];omega
theorem J9 (s:ay) (hF:jI s) (a d b:Int) (ha:eO s a=true) (hb:eO s b=true) (hd:iE d 0 3=true):au Tryz.prog 157 [.dQ (ae s),.int .i64 a,.int .i64 d,.int .i64 b] (.int .i64 (iw s a d b)):=by
 refine au.body eI rfl fun hl n0=>?_
 clear hl
 obtain⟨a0,a1,a2⟩:=lv ha
 obtain⟨b0,b1,b2⟩:=lv hb
 have s1:=mC (hF.sf _ a2) hd
 have s2:=mC (hF.sf _ b2) (sZ hd)
 have gl:=hF.wS _ a2 _ (zM (hF.sf _ a2) hd)
 have d0:=(ej hd).1
 have d1:=(ej (sZ hd)).1
 have h:=yq d hd
 have hs:=sa s (dS (dU s a) d) gl.1 gl.2
 rw[ae]at hs
 by_cases e:dS (dU s a) d=dS (dU s b) (kS d)
 ·have e':decide (dS (dU s a) d=dS (dU s b) (kS d))=true:=decide_eq_true e
  (have zF:=tw @ae.eq_1 (tw @ck.eq_1 (tw @a0 (tw @a1 (tw @b0 (tw @b1 (tw @s1 (tw @s2 (tw @d0 (tw @d1 @e')))))))));(repeat(first|((repeat(revert N;apply Pn.out));refine wk zF ?_;(repeat(apply Pn.mk;intro N hN)))|((try apply Or.inl);refine⟨_,au.x (h) (sd zF),?_⟩;apply hN;clear hN N)|((try apply Or.inl);refine⟨_,au.x (hs) (sd zF),?_⟩;apply hN;clear hN N)));try clear zF)
  exact dq (b:=rY s (dS (dU s a) d)) (.inl rfl) (sd @Nat.zero_add) (by rw[iw,if_pos e])
 ·have e':decide (dS (dU s a) d=dS (dU s b) (kS d))=false:=decide_eq_false e
  (have zF:=tw @ae.eq_1 (tw @ck.eq_1 (tw @a0 (tw @a1 (tw @b0 (tw @b1 (tw @s1 (tw @s2 (tw @d0 (tw @d1 @e')))))))));(repeat(first|((repeat(revert N;apply Pn.out));refine wk zF ?_;(repeat(apply Pn.mk;intro N hN)))|((try apply Or.inl);refine⟨_,au.x (h) (sd zF),?_⟩;apply hN;clear hN N)));try clear zF)
  exact dq (b:=0) (.inl rfl) (sd @Nat.zero_add) (by rw[iw,if_neg e])
theorem HG (s:ay) (hF:jI s) (a d:Int) (ha:eO s a=true) (hd:iE d 0 3=true):au Tryz.prog 247 [.agg (ae s),.int .i64 a,.int .i64 d] (.int .i64 (rY s (dS (dU s a) d))):=by
 refine au.body eI rfl fun hl n0=>?_
 have hn:s.aI.length<=9223372036854775807:=by
  have h1:=(hl (.agg (ae s)) (by simp)).Sy (a:=.sl (s.aI.map cU)) (by simp[ae])
  simpa using h1.len
 clear hl
 obtain⟨a0,a1,a2⟩:=lv ha
 have s1:=mC (hF.sf _ a2) hd
 have gl:=hF.wS _ a2 _ (zM (hF.sf _ a2) hd)
 have d0:=(ej hd).1
 by_cases hg:dS (dU s a) d=0
 ·have e:¬(0<dS (dU s a) d):=ah
  (try((repeat(revert N;apply Pn.out));refine wk (tw @ae.eq_1 (tw @ck.eq_1 (tw @a0 (tw @a1 (tw @s1 (tw @d0 @e)))))) ?_;(repeat(apply Pn.mk;intro N hN))))
  exact dq (b:=0) (.inl rfl) (sd @Nat.zero_add) (by rw[rY,if_pos hg])
 ·have e:0<dS (dU s a) d:=ah
  have hw:IntKind.i64.wrap (dS (dU s a) d-1)=dS (dU s a) d-1:=cq ah
  have oj:0<=dS (dU s a) d-1:=ah
  have fE:(s.aI.map cU)[(dS (dU s a) d-1).toNat]? =some (cU (sJ s (dS (dU s a) d-1))):=getD_map cU ah
  (try((repeat(revert N;apply Pn.out));refine wk (tw @ae.eq_1 (tw @ck.eq_1 (tw @a0 (tw @a1 (tw @s1 (tw @d0 (tw @e (tw @hw (tw @oj (tw @fE @cU.eq_1)))))))))) ?_;(repeat(apply Pn.mk;intro N hN))))
  exact dq (b:=(sJ s (dS (dU s a) d-1)).eR) (.inl rfl) (sd @Nat.zero_add) (by rw[rY,if_neg hg])
theorem LY (s:ay) (hF:jI s) (a d b:Int) (ha:eO s a=true) (hb:eO s b=true) (hd:iE d 0 3=true):au Tryz.prog 202 [.agg (ae s),.int .i64 a,.int .i64 d,.int .i64 b] (.int .i64 (iw s a d b)):=by
 refine au.body eI rfl fun hl n0=>?_
 clear hl
 obtain⟨a0,a1,a2⟩:=lv ha
 obtain⟨b0,b1,b2⟩:=lv hb
 have s1:=mC (hF.sf _ a2) hd
 have s2:=mC (hF.sf _ b2) (sZ hd)
 have d0:=(ej hd).1
 have d1:=(ej (sZ hd)).1
 have h:=Hk d hd
 have hs:=HG s hF a d ha hd
 rw[ae]at hs
 by_cases e:dS (dU s a) d=dS (dU s b) (kS d)
 ·have e':decide (dS (dU s a) d=dS (dU s b) (kS d))=true:=decide_eq_true e
  (have zF:=tw @ae.eq_1 (tw @ck.eq_1 (tw @a0 (tw @a1 (tw @b0 (tw @b1 (tw @s1 (tw @s2 (tw @d0 (tw @d1 @e')))))))));(repeat(first|((repeat(revert N;apply Pn.out));refine wk zF ?_;(repeat(apply Pn.mk;intro N hN)))|((try apply Or.inl);refine⟨_,au.x (h) (sd zF),?_⟩;apply hN;clear hN N)|((try apply Or.inl);refine⟨_,au.x (hs) (sd zF),?_⟩;apply hN;clear hN N)));try clear zF)
  exact dq (b:=rY s (dS (dU s a) d)) (.inl rfl) (sd @Nat.zero_add) (by rw[iw,if_pos e])
 ·have e':decide (dS (dU s a) d=dS (dU s b) (kS d))=false:=decide_eq_false e
  (have zF:=tw @ae.eq_1 (tw @ck.eq_1 (tw @a0 (tw @a1 (tw @b0 (tw @b1 (tw @s1 (tw @s2 (tw @d0 (tw @d1 @e')))))))));(repeat(first|((repeat(revert N;apply Pn.out));refine wk zF ?_;(repeat(apply Pn.mk;intro N hN)))|((try apply Or.inl);refine⟨_,au.x (h) (sd zF),?_⟩;apply hN;clear hN N)));try clear zF)
  exact dq (b:=0) (.inl rfl) (sd @Nat.zero_add) (by rw[iw,if_neg e])
end Go.Proofs.YtainmfbpilopaaaGreatDoor.V

namespace Go.Proofs.YtainmfbpilopaaaGreatDoor
open Go.RowKit
def mi (n:Int):Bool:=(decide (97<=n)&&decide (n<=122))||(decide (65<=n)&&decide (n<=90))
def mT (n:Int):Bool:=decide (48<=n)&&decide (n<=57)
def xx (i:Nat) (n:Int):Prop:=mi n=true∨(0<i/\(mT n=true∨n=95))
def yn (s:ByteArray):Prop:=(1<=s.size/\s.size<=12)/\∀i (h:i<s.size),xx i s[i].toNat
open Classical in
noncomputable def kH (s:ByteArray):Bool:=decide (yn s)
theorem He {s:ByteArray} (h:yn s):true=kH s:=by simp[kH,h]
theorem eH {s:ByteArray} (h:¬yn s):false=kH s:=by simp[kH,h]
theorem E9 {s:ByteArray} {b:Bool} (hb:b=true) (h:yn s):b=kH s:=by simp[kH,h,hb]
theorem uv {s:ByteArray} {b:Bool} (hb:b=false) (h:¬yn s):b=kH s:=by simp[kH,h,hb]
theorem ze (w:World) (n:Int):Calls Tryz.prog 234 #[.int .u8 n] w fun e w'=>e=.returned (.bool (mi n))/\w=w':=by
 go_enter Tryz.func234,Tryz.ntmps234
 go_wp2_with fail
 all_goals
  go_ret
  exact⟨jk (by unfold mi;simp[*];try omega),rfl⟩
theorem Jz (w:World) (n:Int):Calls Tryz.prog 235 #[.int .u8 n] w fun e w'=>e=.returned (.bool (mT n))/\w=w':=by
 go_enter Tryz.func235,Tryz.ntmps235
 go_wp2_with fail
 all_goals
  go_ret
  exact⟨jk (by unfold mT;simp[*];try omega),rfl⟩
theorem Fs (w:World) (s:ByteArray) (hs:s.size<=9223372036854775807):Calls Tryz.prog 191 #[.string s] w fun e w'=>e=.returned (.bool (kH s))/\Below w.heap.size w w':=by
 by_cases h1:1<=s.size
 case neg=>
  go_enter Tryz.func191,Tryz.ntmps191
  go_wp2_with fail
  go_ret
  exact⟨jk (eH fun h=>h1 h.1.1),Below.refl _ _⟩
 by_cases h2:s.size<=12
 case neg=>
  go_enter Tryz.func191,Tryz.ntmps191
  go_wp2_with fail
  go_ret
  exact⟨jk (eH fun h=>h2 h.1.2),Below.refl _ _⟩
 go_enter Tryz.func191,Tryz.ntmps191
 go_wp2_with fail
 refine(ze _ _).mono ?_
 rintro e w' ⟨rfl,rfl⟩
 cases h3:mi s[0].toNat
 ·go_wp2_with fail
  go_ret
  exact⟨jk (eH fun h=>by have:=h.2 0 (by omega);simp only[xx]at this;rw[h3]at this;simp at this),Below.refl _ _⟩
 ·replace h3:=Lib.hid h3
  go_wp2_with fail
  go_loop [3] (fun i=>∃k:Nat,1<=k/\k<=s.size/\i=.int .i64 k/\Hid (∀j (h:j<s.size),j<k->xx j s[j].toNat)) (fun i=>s.size-(intOf i).toNat)
  case atStart=>exact⟨1,by omega,by omega,rfl,Lib.hid fun j h hj=>by
   obtain rfl:j=0:=by omega
   exact .inl h3.out⟩
  case round=>
   obtain⟨k,tk,hk,rfl,ep⟩:=hrel
   by_cases eu:k<s.size
   ·go_wp2_with fail
    refine(ze _ _).mono ?_
    rintro e w' ⟨rfl,rfl⟩
    have lS:xx k s[k].toNat∨¬xx k s[k].toNat:=Classical.em _
    cases hl:mi s[k].toNat
    ·go_wp2_with fail
     refine(Jz _ _).mono ?_
     rintro e w' ⟨rfl,rfl⟩
     cases hd:mT s[k].toNat
     ·by_cases xY:(s[k].toNat:Int)=95
      ·have ZS:((s[k].toNat:Int) !=95)=false:=by simp;omega
       replace xY:=Lib.hid xY
       replace hl:=Lib.hid hl
       replace hd:=Lib.hid hd
       go_wp2_with fail
       go_round
       case rel=>exact⟨k+1,by omega,by omega,by go_num,Lib.hid fun j h hj=>by
        by_cases Bg:j=k
        ·subst Bg;exact .inr ⟨by omega,.inr xY.out⟩
        ·exact ep.out j h (by omega)⟩
       case measure=>simp[intOf];omega
      ·have ZS:((s[k].toNat:Int) !=95)=true:=by simp;omega
       replace xY:=Lib.hid xY
       replace hl:=Lib.hid hl
       replace hd:=Lib.hid hd
       go_wp2_with fail
       go_ret
       exact⟨jk (eH fun h=>by
        have:=h.2 k eu;simp only[xx,hl.out,hd.out]at this;exact xY.out (by simp at this;exact this.2)),Below.refl _ _⟩
     ·replace hl:=Lib.hid hl
      replace hd:=Lib.hid hd
      go_wp2_with fail
      go_round
      case rel=>exact⟨k+1,by omega,by omega,by go_num,Lib.hid fun j h hj=>by
       by_cases Bg:j=k
       ·subst Bg;exact .inr ⟨by omega,.inl hd.out⟩
       ·exact ep.out j h (by omega)⟩
      case measure=>simp[intOf];omega
    ·replace hl:=Lib.hid hl
     go_wp2_with fail
     go_round
     case rel=>exact⟨k+1,by omega,by omega,by go_num,Lib.hid fun j h hj=>by
      by_cases Bg:j=k
      ·subst Bg;exact .inl hl.out
      ·exact ep.out j h (by omega)⟩
     case measure=>simp[intOf];omega
   ·go_wp2_with fail
    go_ret
    exact⟨jk (He ⟨⟨h1,h2⟩,fun i h=>ep.out i h (by omega)⟩),Below.refl _ _⟩
theorem EF (w:World) (s:ByteArray) (hs:s.size<=9223372036854775807):Calls Tryz.prog 125 #[.string s] w fun e w'=>e=.returned (.bool (kH s))/\w=w':=by
 go_enter Tryz.func125,Tryz.ntmps125
 go_wp2_with fail
 go_loop [8] (fun i=>∃k:Nat,k<=s.size/\i=.int .i64 k/\Hid (∀j (h:j<s.size),j<k->xx j s[j].toNat)) (fun i=>s.size-(intOf i).toNat)
 case atStart=>exact⟨0,by omega,rfl,Lib.hid fun j h hj=>by omega⟩
 case round=>
  obtain⟨k,hk,rfl,ep⟩:=hrel
  by_cases eu:k<s.size
  ·have hc:(s[k].toNat:Int)<48∨(48<=(s[k].toNat:Int)/\(s[k].toNat:Int)<=57)∨(58<=(s[k].toNat:Int)/\(s[k].toNat:Int)<=64)∨(65<=(s[k].toNat:Int)/\(s[k].toNat:Int)<=90)∨(91<=(s[k].toNat:Int)/\(s[k].toNat:Int)<=94)∨(95<=(s[k].toNat:Int)/\(s[k].toNat:Int)<=95)∨(96<=(s[k].toNat:Int)/\(s[k].toNat:Int)<=96)∨(97<=(s[k].toNat:Int)/\(s[k].toNat:Int)<=122)∨123<=(s[k].toNat:Int):=by omega
   by_cases z7:k=0
   ·subst z7
    rcases hc with h|⟨h,h'⟩|⟨h,h'⟩|⟨h,h'⟩|⟨h,h'⟩|⟨h,h'⟩|⟨h,h'⟩|⟨h,h'⟩|h
    ·have xY:((s[0].toNat:Int) !=95)=true:=by simp;try omega
     go_wp2_with fail
     all_goals first
      |(go_ret;exact⟨jk (eH fun hh=>by have:=hh.2 0 eu;simp[xx,mi,mT]at this;omega),rfl⟩)
      |(exfalso;simp_all;done)
      |(exfalso;simp_all;omega)
    ·have xY:((s[0].toNat:Int) !=95)=true:=by simp;try omega
     go_wp2_with fail
     all_goals first
      |(go_ret;exact⟨jk (eH fun hh=>by have:=hh.2 0 eu;simp[xx,mi,mT]at this;omega),rfl⟩)
      |(exfalso;simp_all;done)
      |(exfalso;simp_all;omega)
    ·have xY:((s[0].toNat:Int) !=95)=true:=by simp;try omega
     go_wp2_with fail
     all_goals first
      |(go_ret;exact⟨jk (eH fun hh=>by have:=hh.2 0 eu;simp[xx,mi,mT]at this;omega),rfl⟩)
      |(exfalso;simp_all;done)
      |(exfalso;simp_all;omega)
    ·have xY:((s[0].toNat:Int) !=95)=true:=by simp;try omega
     go_wp2_with fail
     go_round
     case rel=>exact⟨0+1,by omega,by go_num,Lib.hid fun j hj Bg=>by
      by_cases MO:j=0
      ·subst MO;simp[xx,mi,mT];omega
      ·exact ep.out j hj (by omega)⟩
     case measure=>simp[intOf];try omega
    ·have xY:((s[0].toNat:Int) !=95)=true:=by simp;try omega
     go_wp2_with fail
     all_goals first
      |(go_ret;exact⟨jk (eH fun hh=>by have:=hh.2 0 eu;simp[xx,mi,mT]at this;omega),rfl⟩)
      |(exfalso;simp_all;done)
      |(exfalso;simp_all;omega)
    ·have xY:((s[0].toNat:Int) !=95)=false:=by simp;try omega
     go_wp2_with fail
     all_goals first
      |(go_ret;exact⟨jk (eH fun hh=>by have:=hh.2 0 eu;simp[xx,mi,mT]at this;omega),rfl⟩)
      |(exfalso;simp_all;done)
      |(exfalso;simp_all;omega)
    ·have xY:((s[0].toNat:Int) !=95)=true:=by simp;try omega
     go_wp2_with fail
     all_goals first
      |(go_ret;exact⟨jk (eH fun hh=>by have:=hh.2 0 eu;simp[xx,mi,mT]at this;omega),rfl⟩)
      |(exfalso;simp_all;done)
      |(exfalso;simp_all;omega)
    ·have xY:((s[0].toNat:Int) !=95)=true:=by simp;try omega
     go_wp2_with fail
     go_round
     case rel=>exact⟨0+1,by omega,by go_num,Lib.hid fun j hj Bg=>by
      by_cases MO:j=0
      ·subst MO;simp[xx,mi,mT];omega
      ·exact ep.out j hj (by omega)⟩
     case measure=>simp[intOf];try omega
    ·have xY:((s[0].toNat:Int) !=95)=true:=by simp;try omega
     go_wp2_with fail
     all_goals first
      |(go_ret;exact⟨jk (eH fun hh=>by have:=hh.2 0 eu;simp[xx,mi,mT]at this;omega),rfl⟩)
      |(exfalso;simp_all;done)
      |(exfalso;simp_all;omega)
   ·have hz:((k:Int)==0)=false:=by simpa using z7
    have tk:1<=k:=by omega
    clear z7
    rcases hc with h|⟨h,h'⟩|⟨h,h'⟩|⟨h,h'⟩|⟨h,h'⟩|⟨h,h'⟩|⟨h,h'⟩|⟨h,h'⟩|h
    ·have xY:((s[k].toNat:Int) !=95)=true:=by simp;try omega
     go_wp2_with fail
     all_goals first
      |(go_ret;exact⟨jk (eH fun hh=>by have:=hh.2 k eu;simp[xx,mi,mT]at this;omega),rfl⟩)
      |(exfalso;simp_all;done)
      |(exfalso;simp_all;omega)
    ·have xY:((s[k].toNat:Int) !=95)=true:=by simp;try omega
     go_wp2_with fail
     go_round
     case rel=>exact⟨k+1,by omega,by go_num,Lib.hid fun j hj Bg=>by
      by_cases MO:j=k
      ·subst MO;simp[xx,mi,mT];omega
      ·exact ep.out j hj (by omega)⟩
     case measure=>simp[intOf];try omega
    ·have xY:((s[k].toNat:Int) !=95)=true:=by simp;try omega
     go_wp2_with fail
     all_goals first
      |(go_ret;exact⟨jk (eH fun hh=>by have:=hh.2 k eu;simp[xx,mi,mT]at this;omega),rfl⟩)
      |(exfalso;simp_all;done)
      |(exfalso;simp_all;omega)
    ·have xY:((s[k].toNat:Int) !=95)=true:=by simp;try omega
     go_wp2_with fail
     go_round
     case rel=>exact⟨k+1,by omega,by go_num,Lib.hid fun j hj Bg=>by
      by_cases MO:j=k
      ·subst MO;simp[xx,mi,mT];omega
      ·exact ep.out j hj (by omega)⟩
     case measure=>simp[intOf];try omega
    ·have xY:((s[k].toNat:Int) !=95)=true:=by simp;try omega
     go_wp2_with fail
     all_goals first
      |(go_ret;exact⟨jk (eH fun hh=>by have:=hh.2 k eu;simp[xx,mi,mT]at this;omega),rfl⟩)
      |(exfalso;simp_all;done)
      |(exfalso;simp_all;omega)
    ·have xY:((s[k].toNat:Int) !=95)=false:=by simp;try omega
     go_wp2_with fail
     go_round
     case rel=>exact⟨k+1,by omega,by go_num,Lib.hid fun j hj Bg=>by
      by_cases MO:j=k
      ·subst MO;simp[xx,mi,mT];omega
      ·exact ep.out j hj (by omega)⟩
     case measure=>simp[intOf];try omega
    ·have xY:((s[k].toNat:Int) !=95)=true:=by simp;try omega
     go_wp2_with fail
     all_goals first
      |(go_ret;exact⟨jk (eH fun hh=>by have:=hh.2 k eu;simp[xx,mi,mT]at this;omega),rfl⟩)
      |(exfalso;simp_all;done)
      |(exfalso;simp_all;omega)
    ·have xY:((s[k].toNat:Int) !=95)=true:=by simp;try omega
     go_wp2_with fail
     go_round
     case rel=>exact⟨k+1,by omega,by go_num,Lib.hid fun j hj Bg=>by
      by_cases MO:j=k
      ·subst MO;simp[xx,mi,mT];omega
      ·exact ep.out j hj (by omega)⟩
     case measure=>simp[intOf];try omega
    ·have xY:((s[k].toNat:Int) !=95)=true:=by simp;try omega
     go_wp2_with fail
     all_goals first
      |(go_ret;exact⟨jk (eH fun hh=>by have:=hh.2 k eu;simp[xx,mi,mT]at this;omega),rfl⟩)
      |(exfalso;simp_all;done)
      |(exfalso;simp_all;omega)
  ·by_cases h1:1<=s.size
   ·by_cases h2:s.size<=12
    ·go_wp2_with fail
     go_ret
     exact⟨jk (E9 (by simp<;>omega) ⟨⟨h1,h2⟩,fun i h=>ep.out i h (by omega)⟩),rfl⟩
    ·go_wp2_with fail
     go_ret
     exact⟨jk (uv (by simp<;>omega) fun h=>h2 h.1.2),rfl⟩
   ·go_wp2_with fail
    go_ret
    exact⟨jk (uv (by simp<;>omega) fun h=>h1 h.1.1),rfl⟩
end Go.Proofs.YtainmfbpilopaaaGreatDoor

namespace Go.Proofs.YtainmfbpilopaaaGreatDoor.V
open Go.RowKit
theorem mixed:Tryz.prog.follows .mixedOrders=true:=by kernel_rfl
variable {P:Program} {w:World} {D:Nat->Prop} {ι:Names}
theorem nQ {f:Nat} {args:List AV} {r:AV} {vs0:Array Value} {u0:Value} (pJ:∀(w:World) (D:Nat->Prop) (ι:Names) vs,fQ P w D ι args vs->vs=vs0) (hr:∀(w:World) (D:Nat->Prop) (ι:Names),dm P w D ι r u0) (Di:∀g,gS g 6 r=some r)
  (h:∀w,Calls P f vs0 w fun e w'=>e=.returned u0/\Below w.heap.size w w'):au P f args r:=by
 intro n
 refine eW fun hs D ι w vs S U A=>?_
 have:=pJ w D ι vs A
 subst this
 refine(h w).mono ?_
 rintro e w' ⟨rfl,hb⟩
 exact⟨r,_,n,D,ι,u0,rfl,⟨r,Di _,rfl⟩,Step.stay S hb.block hb.size hb.os hb.tape hb.output (fun _ h=>h) (fun _ h=>.inl h) (fun _ _ h=>h),
  S.stay hb.block hb.size (fun _ h=>h) (fun b hd=>Nat.lt_of_lt_of_le (S.dead b hd) hb.size) (fun _ h=>.inl h) (fun _ _ h=>h),U,Nat.le_refl _,hr _ _ _⟩
theorem Fo {s:ByteArray} {vs:Array Value} (h:fQ P w D ι [.str s] vs):vs= #[.string s]:=by
 obtain⟨h1,h2⟩:=h
 obtain⟨u,hu,hr⟩:=h2 0 _ rfl
 rw[gq hr]at hu
 obtain⟨l⟩:=vs
 cases l with
 |nil=>simp at h1
 |cons a l=>cases l with
  |nil=>simp at hu;subst hu;rfl
  |cons b l=>simp at h1
theorem IU (s:ByteArray) (hs:s.size<=9223372036854775807):au Tryz.prog 191 [.str s] (.bool (kH s)):=
 nQ (fun _ _ _ _=>Fo) (fun _ _ _=>.eP _ _ (.bool _)) (fun g=>fN g 5 _) fun w=>Fs w s hs
theorem IF (s:ByteArray) (hs:s.size<=9223372036854775807):au Tryz.prog 125 [.str s] (.bool (kH s)):=
 nQ (fun _ _ _ _=>Fo) (fun _ _ _=>.eP _ _ (.bool _)) (fun g=>fN g 5 _) fun w=>(EF w s hs).mono (by rintro e w' ⟨rfl,rfl⟩;exact⟨rfl,Below.refl _ _⟩)
end Go.Proofs.YtainmfbpilopaaaGreatDoor.V

namespace Go.Proofs.YtainmfbpilopaaaGreatDoor.V
open Go.RowKit
attribute [local irreducible] dW wpOps fu Call
variable {P:Program}
def Om (f g z:Nat):Df:=let s:=f*1000000
 ⟨27,2,(.seq (.fF false [q 4 (.eb (.k (.int .i64 0))) s]) (.seq (.fF false [q 6 (.eb (.t 1)) (s+1000),q 7 (.eb (.t 0)) (s+1001),q 8 (.len (.t 7)) (s+1002),q 9 (.bin .sub .i64 (.t 6) (.t 8)) (s+1003),q 1 (.eb (.t 9)) (s+1004)]) (.seq (.seq (.fF false [q 10 (.eb (.t 1)) (s+2000),q 11 (.bin .lss .i64 (.t 10) (.k (.int .i64 0))) (s+2001)]) (.cond (.t 11) (.seq (.fF false [q 4 (.eb (.k (.int .i64 (-1)))) (s+3000)]) .ret) .skip)) (.seq (.seq (.fF false [q 5 (.eb (.k (.int .i64 0))) (s+4000)]) (.block 0 (.loop (.seq (.seq (.fF false [q 12 (.eb (.t 5)) (s+5000),q 13 (.eb (.t 0)) (s+5001),q 14 (.len (.t 13)) (s+5002),q 15 (.bin .lss .i64 (.t 12) (.t 14)) (s+5003)]) (.cond (.t 15) .skip (.exit 0))) (.seq (.block 1 (.seq (.fF false [q 18 (.eb (.t 0)) (s+7000),q 19 (.eb (.t 5)) (s+7001),q 20 (.gG z (.t 18) (.t 19)) (s+7002),q 21 (.load true z (.t 20)) (s+7003),q 22 (.eb (.t 1)) (s+7004),q 23 (.call g [(.t 21),(.t 22)]) (s+7005),q 1 (.eb (.t 23)) (s+7006)]) (.seq (.fF false [q 24 (.eb (.t 1)) (s+8000),q 25 (.bin .lss .i64 (.t 24) (.k (.int .i64 0))) (s+8001)]) (.cond (.t 25) (.seq (.fF false [q 4 (.eb (.k (.int .i64 (-1)))) (s+9000)]) .ret) .skip)))) (.fF false [q 16 (.eb (.t 5)) (s+6000),q 17 (.bin .add .i64 (.t 16) (.k (.int .i64 1))) (s+6001),q 5 (.eb (.t 17)) (s+6002)])))))) (.seq (.fF false [q 26 (.eb (.t 1)) (s+10000),q 4 (.eb (.t 26)) (s+10001)]) .ret))))),[(.tmp 4)]⟩
def Oj (f:Nat):Df:=let s:=f*1000000
 ⟨12,2,(.seq (.fF false [q 4 (.eb (.k (.int .i64 0))) s]) (.seq (.fF false [q 5 (.eb (.t 1)) (s+1000),q 6 (.eb (.t 0)) (s+1001),q 7 (.len (.t 6)) (s+1002),q 8 (.bin .sub .i64 (.t 5) (.t 7)) (s+1003),q 1 (.eb (.t 8)) (s+1004)]) (.seq (.seq (.fF false [q 9 (.eb (.t 1)) (s+2000),q 10 (.bin .lss .i64 (.t 9) (.k (.int .i64 0))) (s+2001)]) (.cond (.t 10) (.seq (.fF false [q 4 (.eb (.k (.int .i64 (-1)))) (s+3000)]) .ret) .skip)) (.seq (.fF false [q 11 (.eb (.t 1)) (s+4000),q 4 (.eb (.t 11)) (s+4001)]) .ret)))),[(.tmp 4)]⟩
def DX (f g z:Nat):Df:=let s:=f*1000000
 ⟨27,2,(.seq (.fF false [q 4 (.eb (.k (.bool false))) s]) (.seq (.seq (.fF false [q 6 (.eb (.t 0)) (s+1000),q 7 (.len (.t 6)) (s+1001),q 8 (.eb (.t 1)) (s+1002),q 9 (.len (.t 8)) (s+1003),q 10 (.SR true .tI (.t 7) (.t 9)) (s+1004)]) (.cond (.t 10) (.seq (.fF false [q 4 (.eb (.k (.bool false))) (s+2000)]) .ret) .skip)) (.seq (.seq (.fF false [q 5 (.eb (.k (.int .i64 0))) (s+3000)]) (.block 0 (.loop (.seq (.seq (.fF false [q 11 (.eb (.t 5)) (s+4000),q 12 (.eb (.t 0)) (s+4001),q 13 (.len (.t 12)) (s+4002),q 14 (.bin .lss .i64 (.t 11) (.t 13)) (s+4003)]) (.cond (.t 14) .skip (.exit 0))) (.seq (.block 1 (.seq (.fF true [q 17 (.eb (.t 0)) (s+6000),q 18 (.eb (.t 5)) (s+6001),q 19 (.gG z (.t 17) (.t 18)) (s+6002),q 20 (.load true z (.t 19)) (s+6003),q 21 (.eb (.t 1)) (s+6004),q 22 (.eb (.t 5)) (s+6005),q 23 (.gG z (.t 21) (.t 22)) (s+6006),q 24 (.load true z (.t 23)) (s+6007),q 25 (.call g [(.t 20),(.t 24)]) (s+6008),q 26 (.not (.t 25)) (s+6009)]) (.cond (.t 26) (.seq (.fF false [q 4 (.eb (.k (.bool false))) (s+7000)]) .ret) .skip))) (.fF false [q 15 (.eb (.t 5)) (s+5000),q 16 (.bin .add .i64 (.t 15) (.k (.int .i64 1))) (s+5001),q 5 (.eb (.t 16)) (s+5002)])))))) (.seq (.fF false [q 4 (.eb (.k (.bool true))) (s+8000)]) .ret)))),[(.tmp 4)]⟩
def Ry (f:Nat) (t:TS):Df:=let s:=f*1000000
 ⟨26,2,(.seq (.fF false [q 4 (.eb (.k (.bool false))) s]) (.seq (.seq (.fF false [q 6 (.eb (.t 0)) (s+1000),q 7 (.len (.t 6)) (s+1001),q 8 (.eb (.t 1)) (s+1002),q 9 (.len (.t 8)) (s+1003),q 10 (.SR true .tI (.t 7) (.t 9)) (s+1004)]) (.cond (.t 10) (.seq (.fF false [q 4 (.eb (.k (.bool false))) (s+2000)]) .ret) .skip)) (.seq (.seq (.fF false [q 5 (.eb (.k (.int .i64 0))) (s+3000)]) (.block 0 (.loop (.seq (.seq (.fF false [q 11 (.eb (.t 5)) (s+4000),q 12 (.eb (.t 0)) (s+4001),q 13 (.len (.t 12)) (s+4002),q 14 (.bin .lss .i64 (.t 11) (.t 13)) (s+4003)]) (.cond (.t 14) .skip (.exit 0))) (.seq (.block 1 (.seq (.fF true [q 17 (.eb (.t 0)) (s+6000),q 18 (.eb (.t 5)) (s+6001),q 19 (.gG 1 (.t 17) (.t 18)) (s+6002),q 20 (.load false 1 (.t 19)) (s+6003),q 21 (.eb (.t 1)) (s+6004),q 22 (.eb (.t 5)) (s+6005),q 23 (.gG 1 (.t 21) (.t 22)) (s+6006),q 24 (.load false 1 (.t 23)) (s+6007),q 25 (.SR true t (.t 20) (.t 24)) (s+6008)]) (.cond (.t 25) (.seq (.fF false [q 4 (.eb (.k (.bool false))) (s+7000)]) .ret) .skip))) (.fF false [q 15 (.eb (.t 5)) (s+5000),q 16 (.bin .add .i64 (.t 15) (.k (.int .i64 1))) (s+5001),q 5 (.eb (.t 16)) (s+5002)])))))) (.seq (.fF false [q 4 (.eb (.k (.bool true))) (s+8000)]) .ret)))),[(.tmp 4)]⟩
def xp (f g z:Nat) (zero:List K):Df:=let s:=f*1000000
 ⟨23,1,(.seq (.fF false [q 2 (.eb (.k .bU)) s]) (.seq (.fF false [q 5 (.eb (.t 0)) (s+1000),q 6 (.len (.t 5)) (s+1001),q 7 (.k9 zero (.t 6) (.t 6)) (s+1002),q 3 (.eb (.t 7)) (s+1003)]) (.seq (.seq (.fF false [q 4 (.eb (.k (.int .i64 0))) (s+2000)]) (.block 0 (.loop (.seq (.seq (.fF false [q 8 (.eb (.t 4)) (s+3000),q 9 (.eb (.t 0)) (s+3001),q 10 (.len (.t 9)) (s+3002),q 11 (.bin .lss .i64 (.t 8) (.t 10)) (s+3003)]) (.cond (.t 11) .skip (.exit 0))) (.seq (.block 1 (.fF false [q 14 (.eb (.t 3)) (s+5000),q 15 (.eb (.t 4)) (s+5001),q 16 (.eb (.t 0)) (s+5002),q 17 (.eb (.t 4)) (s+5003),q 18 (.gG z (.t 16) (.t 17)) (s+5004),q 19 (.load true z (.t 18)) (s+5005),q 20 (.call g [(.t 19)]) (s+5006),q 21 (.gG z (.t 14) (.t 15)) (s+5007),⟨none,(.store z (.t 21) (.t 20)),none,(s+5008),[]⟩])) (.fF false [q 12 (.eb (.t 4)) (s+4000),q 13 (.bin .add .i64 (.t 12) (.k (.int .i64 1))) (s+4001),q 4 (.eb (.t 13)) (s+4002)])))))) (.seq (.fF false [q 22 (.eb (.t 3)) (s+6000),q 2 (.eb (.t 22)) (s+6001)]) .ret)))),[(.tmp 2)]⟩
def Oy (f:Nat) (zero:K):Df:=let s:=f*1000000
 ⟨22,1,(.seq (.fF false [q 2 (.eb (.k .bU)) s]) (.seq (.fF false [q 5 (.eb (.t 0)) (s+1000),q 6 (.len (.t 5)) (s+1001),q 7 (.k9 [zero] (.t 6) (.t 6)) (s+1002),q 3 (.eb (.t 7)) (s+1003)]) (.seq (.seq (.fF false [q 4 (.eb (.k (.int .i64 0))) (s+2000)]) (.block 0 (.loop (.seq (.seq (.fF false [q 8 (.eb (.t 4)) (s+3000),q 9 (.eb (.t 0)) (s+3001),q 10 (.len (.t 9)) (s+3002),q 11 (.bin .lss .i64 (.t 8) (.t 10)) (s+3003)]) (.cond (.t 11) .skip (.exit 0))) (.seq (.block 1 (.fF false [q 14 (.eb (.t 3)) (s+5000),q 15 (.eb (.t 4)) (s+5001),q 16 (.eb (.t 0)) (s+5002),q 17 (.eb (.t 4)) (s+5003),q 18 (.gG 1 (.t 16) (.t 17)) (s+5004),q 19 (.load false 1 (.t 18)) (s+5005),q 20 (.gG 1 (.t 14) (.t 15)) (s+5006),⟨none,(.store 1 (.t 20) (.t 19)),none,(s+5007),[]⟩])) (.fF false [q 12 (.eb (.t 4)) (s+4000),q 13 (.bin .add .i64 (.t 12) (.k (.int .i64 1))) (s+4001),q 4 (.eb (.t 13)) (s+4002)])))))) (.seq (.fF false [q 21 (.eb (.t 3)) (s+6000),q 2 (.eb (.t 21)) (s+6001)]) .ret)))),[(.tmp 2)]⟩
def AF (n:Nat) (l:Int):Int:=if (n:Int)<=l then l-n else -1
theorem Ol {fk:Nat} (hc:nU P fk=some (Oj fk)) (rows:List (List AV)) (left:Int) (h0:0<=left) (h1:left<=1048576):au P fk [.sl rows,.int .i64 left] (.int .i64 (AF rows.length left)):=by
 refine au.body hc rfl fun hl n0=>?_
 try simp only[q]
 have hn:rows.length<=9223372036854775807:=(hl (.sl rows) (by simp)).len
 clear hl
 have hw:IntKind.i64.wrap (left-(rows.length:Int))=left-rows.length:=cq ah
 by_cases hf:(rows.length:Int)<=left
 ·have mU:¬left-(rows.length:Int)<0:=ah
  (try((repeat(revert N;apply Pn.out));refine wk (tw @hw @mU) ?_;(repeat(apply Pn.mk;intro N hN))))
  exact dq (b:=left-(rows.length:Int)) (.inl rfl) (sd @Nat.zero_add) (by rw[AF,if_pos hf])
 ·have mU:left-(rows.length:Int)<0:=ah
  (try((repeat(revert N;apply Pn.out));refine wk (tw @hw @mU) ?_;(repeat(apply Pn.mk;intro N hN))))
  exact dq (b:=-1) (.inl rfl) (sd @Nat.zero_add) (by rw[AF,if_neg hf])
def jo {α:Type} (f:α->Nat) (xs:List α) (k:Nat):Nat:=((xs.take k).map f).sum
theorem oG {α:Type} (f:α->Nat) (xs:List α):jo f xs 0=0:=by simp[jo]
theorem Fz {α:Type} (f:α->Nat) (xs:List α):jo f xs xs.length=(xs.map f).sum:=by simp[jo]
theorem zQ {α:Type} (f:α->Nat) {xs:List α} {k:Nat} (hk:k<xs.length):jo f xs (k+1)=jo f xs k+f xs[k]:=by
 unfold jo
 rw[List.take_succ_eq_append_getElem hk,List.map_append,List.sum_append];simp
theorem sg {α:Type} (f:α->Nat) (xs:List α) (k:Nat):jo f xs k<=(xs.map f).sum:=by
 unfold jo
 conv=>rhs;rw[<-List.take_append_drop k xs]
 rw[List.map_append,List.sum_append];omega
theorem On {α:Type} {e:α->List AV} {z fk gk:Nat} (wt:α->Nat) (hc:nU P fk=some (Om fk gk z)) (hz:∀x,(e x).length=z) (Di:∀x g,dx g 6 [.agg (e x)]=some [.agg (e x)]) (xs:List α) (left:Int) (h0:0<=left) (h1:left<=1048576)
  (hg:∀x∈xs,∀l:Int,0<=l->l<=1048576->au P gk [.agg (e x),.int .i64 l] (.int .i64 (AF (wt x) l))):au P fk [.sl (xs.map e),.int .i64 left] (.int .i64 (AF (xs.length+(xs.map wt).sum) left)):=by
 refine au.body hc rfl fun hl n0=>?_
 try simp only[q]
 have hn:xs.length<=9223372036854775807:=by simpa using(hl (.sl (xs.map e)) (by simp)).len
 clear hl
 have hw:IntKind.i64.wrap (left-(xs.length:Int))=left-xs.length:=cq ah
 by_cases hf:(xs.length:Int)<=left
 ·have mU:¬left-(xs.length:Int)<0:=ah
  (try((repeat(revert N;apply Pn.out));refine wk (tw @hw @mU) ?_;(repeat(apply Pn.mk;intro N hN))))
  refine bf (fun n env st=>∃k:Nat,n=(xs.length)-k/\k<=(xs.length)/\env 5=.int .i64 (k:Int)/\env 1=(.int .i64 (left-xs.length-(jo wt xs k:Nat)))/\(0<=left-xs.length-(jo wt xs k:Nat))) (xs.length) ⟨0,ah,ah,sl (tw @oG (tw @Int.natCast_zero @Int.sub_zero)),sl (tw @oG (tw @Int.natCast_zero @Int.sub_zero)),(by rw[oG];omega)⟩ ?_
  rintro n_a env_a st_a ⟨k,rfl,ale,a5,a1,kz⟩ dX
  have a0:=dX 0 (by kernel_rfl)
  simp only[go_sem, ↓reduceIte,Nat.reduceEqDiff,Nat.reduceAdd,Nat.reduceSub,Nat.reduceLeDiff,reduceCtorEq,oG,Int.natCast_zero,Int.sub_zero]at a0
  clear dX
  by_cases hk:(k:Int)<(xs.length:Int)
  ·have cV:∀{e:Env},(e 5=.int .i64 (IntKind.i64.wrap ((k:Int)+1)))->(e 1=(.int .i64 (left-xs.length-(jo wt xs (k+1):Nat))))->(0<=left-xs.length-(jo wt xs (k+1):Nat))->∃m0,m0<(xs.length)-k/\∃k:Nat,m0=(xs.length)-k/\k<=(xs.length)/\e 5=.int .i64 (k:Int)/\e 1=(.int .i64 (left-xs.length-(jo wt xs k:Nat)))/\(0<=left-xs.length-(jo wt xs k:Nat)):=fun x1 x2 x3=>⟨_,ah,k+1,rfl,ah,(by rw[x1,aE ah]),x2,x3⟩
   have fC:k<xs.length:=ah
   have fa:(xs.map e)[k]? =some (e xs[k]):=by simp[fC]
   have w8:=hz xs[k]
   have ht:(e xs[k]).take z=e xs[k]:=by rw[<-w8,List.take_length]
   have hs:=zQ wt fC
   have qw:=sg wt xs (k+1)
   have iU:=hg _ (List.getElem_mem fC) (left-xs.length-(jo wt xs k:Nat)) kz ah
   have kJ:dx (ea st_a.get) 6 [.agg (e xs[k]),.int .i64 (left-xs.length-(jo wt xs k:Nat))]=some [.agg (e xs[k]),.int .i64 (left-xs.length-(jo wt xs k:Nat))]:=by
    have q1:=Di xs[k] (ea st_a.get)
    rw[ai,ar]at q1
    rw[ai,ai,ar,aB]
    revert q1
    cases V.fz (ea st_a.get) 6 (.agg (e xs[k]))<;>simp
   by_cases rP:(wt xs[k]:Int)<=left-xs.length-(jo wt xs k:Nat)
   ·rw[AF,if_pos rP]at iU
    have rR:¬left-xs.length-(jo wt xs k:Nat)-(wt xs[k]:Int)<0:=ah
    have qZ:left-xs.length-(jo wt xs k:Nat)-(wt xs[k]:Int)=left-xs.length-(jo wt xs (k+1):Nat):=by rw[hs];omega
    generalize hex:e xs[k]=c at iU kJ fa w8 ht
    (try((repeat(revert N;apply Pn.out));refine wk (tw @a5 (tw @a1 (tw @a0 (tw @hk (tw @fa (tw @w8 (tw @ht @Nat.le_refl))))))) ?_;(repeat(apply Pn.mk;intro N hN))))
    refine .inl ⟨_,au.x iU kJ,?_⟩
    apply hN
    clear hN N
    (try((repeat(revert N;apply Pn.out));refine wk (tw @a5 (tw @a1 (tw @a0 @rR))) ?_;(repeat(apply Pn.mk;intro N hN))))
    refine cV ?_ ?_ ((by rw[hs];omega))
    all_goals simp only[go_sem, ↓reduceIte,Nat.reduceEqDiff,Nat.reduceAdd,Nat.reduceSub,Nat.reduceLeDiff,reduceCtorEq,a5,a1,a0,qZ]
   ·rw[AF,if_neg rP]at iU
    generalize hex:e xs[k]=c at iU kJ fa w8 ht
    (try((repeat(revert N;apply Pn.out));refine wk (tw @a5 (tw @a1 (tw @a0 (tw @hk (tw @fa (tw @w8 (tw @ht @Nat.le_refl))))))) ?_;(repeat(apply Pn.mk;intro N hN))))
    refine .inl ⟨_,au.x iU kJ,?_⟩
    apply hN
    clear hN N
    (try((repeat(revert N;apply Pn.out));refine wk (tw @a5 (tw @a1 @a0)) ?_;(repeat(apply Pn.mk;intro N hN))))
    exact dq (b:=-1) (.inl rfl) (sd @Nat.zero_add) (by rw[AF,if_neg ah])
  ·(try((repeat(revert N;apply Pn.out));refine wk (tw @a5 (tw @a1 (tw @a0 @hk))) ?_;(repeat(apply Pn.mk;intro N hN))))
   have fC:k=xs.length:=ah
   subst fC
   have Mw:=Fz wt xs
   exact dq (b:=left-xs.length-(jo wt xs xs.length:Nat)) (.inl rfl) (sd (tw @a5 (tw @a1 @a0))) (by rw[AF,if_pos ah];omega)
 ·have mU:left-(xs.length:Int)<0:=ah
  (try((repeat(revert N;apply Pn.out));refine wk (tw @hw @mU) ?_;(repeat(apply Pn.mk;intro N hN))))
  exact dq (b:=-1) (.inl rfl) (sd @Nat.zero_add) (by rw[AF,if_neg ah])
theorem Mf {α:Type} {xs ys:List α} (hl:xs.length=ys.length) (h:∀j:Nat,j<xs.length->∀(h1:j<xs.length) (h2:j<ys.length),xs[j]=ys[j]):xs=ys:=List.ext_getElem hl fun j h1 h2=>h j h1 h1 h2
theorem Cc {α:Type} [DecidableEq α] {e:α->List AV} {z fk gk:Nat} (hc:nU P fk=some (DX fk gk z)) (hz:∀x,(e x).length=z) (Di:∀x g,dx g 6 [.agg (e x)]=some [.agg (e x)]) (xs ys:List α)
  (hg:∀x y,au P gk [.agg (e x),.agg (e y)] (.bool (decide (x=y)))):au P fk [.sl (xs.map e),.sl (ys.map e)] (.bool (decide (xs=ys))):=by
 refine au.body hc rfl fun hl n0=>?_
 try simp only[q]
 have hn:xs.length<=9223372036854775807:=by simpa using(hl (.sl (xs.map e)) (by simp)).len
 clear hl
 by_cases hlen:xs.length=ys.length
 ·have mc:decide ((xs.length:Int)=(ys.length:Int))=true:=by simp[hlen]
  (try((repeat(revert N;apply Pn.out));refine wk @mc ?_;(repeat(apply Pn.mk;intro N hN))))
  refine bf (fun n env st=>∃k:Nat,n=(xs.length)-k/\k<=(xs.length)/\env 5=.int .i64 (k:Int)/\(∀j:Nat,j<k->∀(h1:j<xs.length) (h2:j<ys.length),xs[j]=ys[j])) (xs.length) ⟨0,ah,ah,sl @Nat.zero_add,fun _ h=>absurd h (Nat.not_lt_zero _)⟩ ?_
  rintro n_a env_a st_a ⟨k,rfl,ale,a5,nT⟩ dX
  have a0:=dX 0 (by kernel_rfl);have a1:=dX 1 (by kernel_rfl)
  simp only[go_sem, ↓reduceIte,Nat.reduceEqDiff,Nat.reduceAdd,Nat.reduceSub,Nat.reduceLeDiff,reduceCtorEq]at a0 a1
  clear dX
  by_cases hk:(k:Int)<(xs.length:Int)
  ·have cV:∀{e:Env},(e 5=.int .i64 (IntKind.i64.wrap ((k:Int)+1)))->(∀(h1:k<xs.length) (h2:k<ys.length),xs[k]=ys[k])->∃m0,m0<(xs.length)-k/\∃k:Nat,m0=(xs.length)-k/\k<=(xs.length)/\e 5=.int .i64 (k:Int)/\(∀j:Nat,j<k->∀(h1:j<xs.length) (h2:j<ys.length),xs[j]=ys[j]):=fun x1 x2=>⟨_,ah,k+1,rfl,ah,(by rw[x1,aE ah]),(all_succ nT x2)⟩
   have fC:k<xs.length:=ah
   have YQ:k<ys.length:=ah
   have fa:(xs.map e)[k]? =some (e xs[k]):=by simp[fC]
   have GM:(ys.map e)[k]? =some (e ys[k]):=by simp[YQ]
   have w8:=hz xs[k]
   have GZ:=hz ys[k]
   have ht:(e xs[k]).take z=e xs[k]:=by rw[<-w8,List.take_length]
   have Ls:(e ys[k]).take z=e ys[k]:=by rw[<-GZ,List.take_length]
   have iU:=hg xs[k] ys[k]
   have kJ:∀g,dx g 6 [.agg (e xs[k]),.agg (e ys[k])]=some [.agg (e xs[k]),.agg (e ys[k])]:=fun g=>by
    have q1:=Di xs[k] g
    have q2:=Di ys[k] g
    rw[ai,ar]at q1
    rw[ai,q2]
    revert q1
    cases V.fz g 6 (.agg (e xs[k]))<;>simp
   by_cases heq:xs[k]=ys[k]
   ·rw[decide_eq_true heq]at iU
    generalize hex:e xs[k]=c at iU kJ fa w8 ht
    generalize hey:e ys[k]=d at iU kJ GM GZ Ls
    (try((repeat(revert N;apply Pn.out));refine wk (tw @a5 (tw @a0 (tw @a1 (tw @hk (tw @fa (tw @GM (tw @w8 (tw @GZ (tw @ht (tw @Ls @Nat.le_refl)))))))))) ?_;(repeat(apply Pn.mk;intro N hN))))
    refine⟨_,au.x iU (kJ _),?_⟩
    apply hN
    clear hN N
    (try((repeat(revert N;apply Pn.out));refine wk (tw @a5 (tw @a0 @a1)) ?_;(repeat(apply Pn.mk;intro N hN))))
    exact cV (sd (tw @a5 (tw @a0 @a1))) (fun _ _=>heq)
   ·rw[decide_eq_false heq]at iU
    generalize hex:e xs[k]=c at iU kJ fa w8 ht
    generalize hey:e ys[k]=d at iU kJ GM GZ Ls
    (try((repeat(revert N;apply Pn.out));refine wk (tw @a5 (tw @a0 (tw @a1 (tw @hk (tw @fa (tw @GM (tw @w8 (tw @GZ (tw @ht (tw @Ls @Nat.le_refl)))))))))) ?_;(repeat(apply Pn.mk;intro N hN))))
    refine⟨_,au.x iU (kJ _),?_⟩
    apply hN
    clear hN N
    (try((repeat(revert N;apply Pn.out));refine wk (tw @a5 (tw @a0 @a1)) ?_;(repeat(apply Pn.mk;intro N hN))))
    exact bQ (b:=false) (.inl rfl) (sd @Nat.zero_add) (decide_eq_false fun h=>heq (List.getElem_of_eq h _)).symm
  ·(try((repeat(revert N;apply Pn.out));refine wk (tw @a5 (tw @a0 (tw @a1 @hk))) ?_;(repeat(apply Pn.mk;intro N hN))))
   exact bQ (b:=true) (.inl rfl) (sd @Nat.zero_add) (decide_eq_true (Mf hlen fun j hj h1 h2=>nT j ah h1 h2)).symm
 ·have mc:decide ((xs.length:Int)=(ys.length:Int))=false:=decide_eq_false fun h=>hlen ah
  (try((repeat(revert N;apply Pn.out));refine wk @mc ?_;(repeat(apply Pn.mk;intro N hN))))
  exact bQ (b:=false) (.inl rfl) (sd @Nat.zero_add) (decide_eq_false fun h=>hlen (by subst h;rfl)).symm
theorem Wo {fk:Nat} (hc:nU P fk=some (Ry fk .tI)) (xs ys:List Int):
  au P fk [.sl (xs.map fun x=>[AV.int .i64 x]),.sl (ys.map fun x=>[AV.int .i64 x])] (.bool (decide (xs=ys))):=by
 refine au.body hc rfl fun hl n0=>?_
 try simp only[q]
 have hn:xs.length<=9223372036854775807:=by simpa using(hl (.sl (xs.map fun x=>[AV.int .i64 x])) (by simp)).len
 clear hl
 by_cases hlen:xs.length=ys.length
 ·have mc:decide ((xs.length:Int)=(ys.length:Int))=true:=by simp[hlen]
  (try((repeat(revert N;apply Pn.out));refine wk @mc ?_;(repeat(apply Pn.mk;intro N hN))))
  refine bf (fun n env st=>∃k:Nat,n=(xs.length)-k/\k<=(xs.length)/\env 5=.int .i64 (k:Int)/\(∀j:Nat,j<k->∀(h1:j<xs.length) (h2:j<ys.length),xs[j]=ys[j])) (xs.length) ⟨0,ah,ah,sl @Nat.zero_add,fun _ h=>absurd h (Nat.not_lt_zero _)⟩ ?_
  rintro n_a env_a st_a ⟨k,rfl,ale,a5,nT⟩ dX
  have a0:=dX 0 (by kernel_rfl);have a1:=dX 1 (by kernel_rfl)
  simp only[go_sem, ↓reduceIte,Nat.reduceEqDiff,Nat.reduceAdd,Nat.reduceSub,Nat.reduceLeDiff,reduceCtorEq]at a0 a1
  clear dX
  by_cases hk:(k:Int)<(xs.length:Int)
  ·have cV:∀{e:Env},(e 5=.int .i64 (IntKind.i64.wrap ((k:Int)+1)))->(∀(h1:k<xs.length) (h2:k<ys.length),xs[k]=ys[k])->∃m0,m0<(xs.length)-k/\∃k:Nat,m0=(xs.length)-k/\k<=(xs.length)/\e 5=.int .i64 (k:Int)/\(∀j:Nat,j<k->∀(h1:j<xs.length) (h2:j<ys.length),xs[j]=ys[j]):=fun x1 x2=>⟨_,ah,k+1,rfl,ah,(by rw[x1,aE ah]),(all_succ nT x2)⟩
   have fC:k<xs.length:=ah
   have YQ:k<ys.length:=ah
   have fa:(xs.map fun x=>[AV.int .i64 x])[k]? =some [.int .i64 xs[k]]:=by simp[fC]
   have GM:(ys.map fun x=>[AV.int .i64 x])[k]? =some [.int .i64 ys[k]]:=by simp[YQ]
   by_cases heq:xs[k]=ys[k]
   ·have hq:=decide_eq_true heq
    (try((repeat(revert N;apply Pn.out));refine wk (tw @a5 (tw @a0 (tw @a1 (tw @hk (tw @fa (tw @GM @hq)))))) ?_;(repeat(apply Pn.mk;intro N hN))))
    exact cV (sd (tw @a5 (tw @a0 @a1))) (fun _ _=>heq)
   ·have hq:=decide_eq_false heq
    (try((repeat(revert N;apply Pn.out));refine wk (tw @a5 (tw @a0 (tw @a1 (tw @hk (tw @fa (tw @GM @hq)))))) ?_;(repeat(apply Pn.mk;intro N hN))))
    exact bQ (b:=false) (.inl rfl) (sd @Nat.zero_add) (decide_eq_false fun h=>heq (List.getElem_of_eq h _)).symm
  ·(try((repeat(revert N;apply Pn.out));refine wk (tw @a5 (tw @a0 (tw @a1 @hk))) ?_;(repeat(apply Pn.mk;intro N hN))))
   exact bQ (b:=true) (.inl rfl) (sd @Nat.zero_add) (decide_eq_true (Mf hlen fun j hj h1 h2=>nT j ah h1 h2)).symm
 ·have mc:decide ((xs.length:Int)=(ys.length:Int))=false:=decide_eq_false fun h=>hlen ah
  (try((repeat(revert N;apply Pn.out));refine wk @mc ?_;(repeat(apply Pn.mk;intro N hN))))
  exact bQ (b:=false) (.inl rfl) (sd @Nat.zero_add) (decide_eq_false fun h=>hlen (by subst h;rfl)).symm
theorem yv (l:List AV):l++[]=l:=List.append_nil l
def iC {α:Type} (e:α->List AV) (zc:List AV) (xs:List α) (k:Nat):List (List AV):=(xs.take k).map e++List.replicate (xs.length-k) zc
theorem qi {α:Type} (e:α->List AV) (zc:List AV) (xs:List α):List.replicate xs.length zc=iC e zc xs 0:=by simp[iC]
theorem sC {α:Type} (e:α->List AV) (zc:List AV) (xs:List α):iC e zc xs xs.length=xs.map e:=by simp[iC]
theorem sD {α:Type} (e:α->List AV) (zc:List AV) (xs:List α) {k:Nat} (hk:k<xs.length):(iC e zc xs k)[k]? =some zc:=by
 have h1:((xs.take k).map e).length=k:=by simp;omega
 rw[iC,List.getElem?_append_right ah,h1,Nat.sub_self,List.getElem?_replicate,if_pos ah]
theorem sE {α:Type} (e:α->List AV) (zc:List AV) (xs:List α) {k:Nat} (hk:k<xs.length):(iC e zc xs k).set k (e xs[k])=iC e zc xs (k+1):=by
 have h1:((xs.take k).map e).length=k:=by simp;omega
 rw[iC,List.set_append_right _ _ ah,h1,Nat.sub_self,iC,List.take_succ_eq_append_getElem hk,List.map_append,List.append_assoc]
 congr 1
 obtain⟨m,hm⟩:∃m,xs.length-k=m+1:=⟨xs.length-k-1,ah⟩
 rw[hm,show xs.length-(k+1)=m by omega,List.replicate_succ]
 rfl
theorem HM {α:Type} {en:α->List AV} {z fk gk:Nat} {zero:List K} (hc:nU P fk=some (xp fk gk z zero)) (EE:zero.length=z) (hz:∀x,(en x).length=z) (lL:∀x,(en x).all AV.cell=true) (Di:∀x g,dx g 5 (en x)=some (en x)) (xs:List α) (hlen:xs.length<=1048576)
  (hg:∀x∈xs,l6 P gk [.agg (en x)] (.agg (en x))):l6 P fk [.sl (xs.map en)] (.sl (xs.map en)):=by
 refine l6.body hc rfl fun hl σ=>?_
 try simp only[q]
 clear hl
 have hm:(xs.length:Int)<=((16777216:Nat):Int):=ah
 have h0:(0:Int)<=(xs.length:Int):=ah
 (try((repeat(revert N;apply Pn.out));refine wk (tw @hm (tw @h0 (tw @Int.le_refl (tw (qi en (zero.map K.av) xs) @EE)))) ?_;(repeat(apply Pn.mk;intro N hN))))
 refine bf (fun n env st=>∃k:Nat,n=(xs.length)-k/\k<=(xs.length)/\env 4=.int .i64 (k:Int)/\st.get ⟨fk*1000000+1002,σ.next+1⟩=some ⟨true,z,iC en (zero.map K.av) xs k⟩) (xs.length) ⟨0,ah,ah,sl @Nat.zero_add,sl @Nat.zero_add⟩ ?_
 rintro n_a env_a st_a ⟨k,rfl,ale,a4,ag0⟩ dX
 have a0:=dX 0 (by kernel_rfl);have a3:=dX 3 (by kernel_rfl)
 simp only[go_sem, ↓reduceIte,Nat.reduceEqDiff,Nat.reduceAdd,Nat.reduceSub,Nat.reduceLeDiff,reduceCtorEq]at a0 a3
 clear dX
 by_cases hk:(k:Int)<(xs.length:Int)
 ·have cV:∀{e:Env} {gg:Rows},(e 4=.int .i64 (IntKind.i64.wrap ((k:Int)+1)))->(gg ⟨fk*1000000+1002,σ.next+1⟩=some ⟨true,z,iC en (zero.map K.av) xs (k+1)⟩)->∃m0,m0<(xs.length)-k/\∃k:Nat,m0=(xs.length)-k/\k<=(xs.length)/\e 4=.int .i64 (k:Int)/\gg ⟨fk*1000000+1002,σ.next+1⟩=some ⟨true,z,iC en (zero.map K.av) xs k⟩:=fun x1 x2=>⟨_,ah,k+1,rfl,ah,(by rw[x1,aE ah]),x2⟩
  have fC:k<xs.length:=ah
  have fa:(xs.map en)[k]? =some (en xs[k]):=by simp[fC]
  have w8:=hz xs[k]
  have OR:=lL xs[k]
  have ht:(en xs[k]).take z=en xs[k]:=by rw[<-w8,List.take_length]
  have iU:=hg _ (List.getElem_mem fC)
  have fm:=sD en (zero.map K.av) xs fC
  have ew:=sE en (zero.map K.av) xs fC
  have MD:(zero.map K.av).drop z=[]:=List.drop_of_length_le (by simp[EE])
  generalize hex:en xs[k]=c at iU fa w8 ht OR ew
  (repeat(first|((repeat(revert N;apply Pn.out));refine wk (tw @a4 (tw @ag0 (tw @a0 (tw @a3 (tw @hk (tw @fa (tw @w8 (tw @ht (tw @Nat.le_refl (tw @fm (tw @ew (tw @MD (tw @yv (tw @OR @EE)))))))))))))) ?_;(repeat(apply Pn.mk;intro N hN)))|((try apply Or.inl);refine⟨_,l6.x (iU) _,?_⟩;apply hN;clear hN N)))
  refine cV ?_ ?_
  all_goals simp only[go_sem, ↓reduceIte,Nat.reduceEqDiff,Nat.reduceAdd,Nat.reduceSub,Nat.reduceLeDiff,reduceCtorEq,a4,ag0,a0,a3]
 ·(try((repeat(revert N;apply Pn.out));refine wk (tw @a4 (tw @ag0 (tw @a0 (tw @a3 @hk)))) ?_;(repeat(apply Pn.mk;intro N hN))))
  have fC:k=xs.length:=ah
  subst fC
  refine XU (.inl rfl) (r0:=.own ⟨fk*1000000+1002,σ.next+1⟩ 0 xs.length) (sd (tw @a4 (tw @ag0 (tw @a0 @a3)))) ?_
  rw[sC]at ag0
  exact gF ag0 (by simp) fun x=>Di x _
theorem X3 {fk:Nat} (hc:nU P fk=some (Oy fk (.int .i64 0))) (xs:List Int) (hlen:xs.length<=1048576):l6 P fk [.sl (xs.map fun x=>[AV.int .i64 x])] (.sl (xs.map fun x=>[AV.int .i64 x])):=by
 refine l6.body hc rfl fun hl σ=>?_
 try simp only[q]
 clear hl
 obtain⟨en,El⟩:∃en:Int->List AV,en=fun x=>[AV.int .i64 x]:=⟨_,rfl⟩
 rw[<-El]
 have hm:(xs.length:Int)<=((16777216:Nat):Int):=ah
 have h0:(0:Int)<=(xs.length:Int):=ah
 (try((repeat(revert N;apply Pn.out));refine wk (tw @hm (tw @h0 (tw @Int.le_refl (qi en [AV.int .i64 0] xs)))) ?_;(repeat(apply Pn.mk;intro N hN))))
 refine bf (fun n env st=>∃k:Nat,n=(xs.length)-k/\k<=(xs.length)/\env 4=.int .i64 (k:Int)/\st.get ⟨fk*1000000+1002,σ.next+1⟩=some ⟨true,1,iC en [AV.int .i64 0] xs k⟩) (xs.length) ⟨0,ah,ah,sl @Nat.zero_add,sl @Nat.zero_add⟩ ?_
 rintro n_a env_a st_a ⟨k,rfl,ale,a4,ag0⟩ dX
 have a0:=dX 0 (by kernel_rfl);have a3:=dX 3 (by kernel_rfl)
 simp only[go_sem, ↓reduceIte,Nat.reduceEqDiff,Nat.reduceAdd,Nat.reduceSub,Nat.reduceLeDiff,reduceCtorEq]at a0 a3
 clear dX
 by_cases hk:(k:Int)<(xs.length:Int)
 ·have cV:∀{e:Env} {gg:Rows},(e 4=.int .i64 (IntKind.i64.wrap ((k:Int)+1)))->(gg ⟨fk*1000000+1002,σ.next+1⟩=some ⟨true,1,iC en [AV.int .i64 0] xs (k+1)⟩)->∃m0,m0<(xs.length)-k/\∃k:Nat,m0=(xs.length)-k/\k<=(xs.length)/\e 4=.int .i64 (k:Int)/\gg ⟨fk*1000000+1002,σ.next+1⟩=some ⟨true,1,iC en [AV.int .i64 0] xs k⟩:=fun x1 x2=>⟨_,ah,k+1,rfl,ah,(by rw[x1,aE ah]),x2⟩
  have fC:k<xs.length:=ah
  have fa:(xs.map en)[k]? =some [AV.int .i64 xs[k]]:=by simp[fC,El]
  have fm:=sD en [AV.int .i64 0] xs fC
  have ew:=sE en [AV.int .i64 0] xs fC
  rw[show en xs[k]=[AV.int .i64 xs[k]] by rw[El]]at ew
  (try((repeat(revert N;apply Pn.out));refine wk (tw @a4 (tw @ag0 (tw @a0 (tw @a3 (tw @hk (tw @fa (tw @fm @ew))))))) ?_;(repeat(apply Pn.mk;intro N hN))))
  refine cV ?_ ?_
  all_goals simp only[go_sem, ↓reduceIte,Nat.reduceEqDiff,Nat.reduceAdd,Nat.reduceSub,Nat.reduceLeDiff,reduceCtorEq,a4,ag0,a0,a3]
 ·(try((repeat(revert N;apply Pn.out));refine wk (tw @a4 (tw @ag0 (tw @a0 (tw @a3 @hk)))) ?_;(repeat(apply Pn.mk;intro N hN))))
  have fC:k=xs.length:=ah
  subst fC
  refine XU (.inl rfl) (r0:=.own ⟨fk*1000000+1002,σ.next+1⟩ 0 xs.length) (sd (tw @a4 (tw @ag0 (tw @a0 @a3)))) ?_
  rw[sC]at ag0
  exact gF ag0 (by simp) fun x=>by simp[El,ai,ar,aB]
end Go.Proofs.YtainmfbpilopaaaGreatDoor.V
