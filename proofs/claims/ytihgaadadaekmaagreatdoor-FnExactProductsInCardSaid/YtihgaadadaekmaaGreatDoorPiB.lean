/- One operation, calls among them. -/
import Derived.Test.YtihgaadadaekmaaGreatDoorPiA
import Derived.Orders
import Derived.Conc.LoneCalls
import Derived.WalkKit
import Derived.WalkSpells
import Derived.WalkLawsBesides
import Derived.Lib.Hide
import Derived.Deep.QuietTactic
import Derived.BigQuiet
import Derived.StillTailTactics
import Derived.Deep.RegionWith
import Derived.Deep.RegionHeld3
import Derived.Deep.LoopGhost
import Derived.Deep.CutRange
import Derived.Deep.DeepCutAuto
import Derived.Test.YtihgaadadaekmaaGreatDoorChecked
set_option linter.unusedVariables false
set_option linter.unusedSimpArgs false
set_option maxRecDepth 100000
set_option maxHeartbeats 16000000
namespace Go.Proofs.YtihgaadadaekmaaGreatDoor.V
open Go.RowKit
variable {P:Program} {w w':World} {D D' D2:Nat->Prop} {ι ι' ι2:Names}
def Sound (P:Program):fx:=fun f args σ K=>∀(hs:Nat) (D:Nat->Prop) (ι:Names) (w:World) (vs:Array Value),ga P hs D ι σ.get w->Used ι σ.next (fun _=>False)->e9 P w D ι args vs->
 Calls P f vs w fun e w'=>∃r g' n' D' ι' u,e=.returned u/\K r ⟨g',n'⟩/\Step hs D ι w D' ι' w'/\ga P hs D' ι' g' w'/\Used ι' n' (fun _=>False)/\σ.next<=n'/\cG P w' D' ι' r u
section
variable {g:Rows} {hs:Nat} {env:Env} {a:Act} {o:Oper} {id:Id} {v:AV}
theorem ga.ro (S:ga P hs D ι g w):ga P w.heap.size D ι (ro g) w:=by
 refine⟨Nat.le_refl _,S.dead,fun id r h=>?_,fun id kn r r' B B' h h' hw=>?_⟩
 ·unfold V.ro at h
  simp only[Option.map_eq_some_iff]at h
  obtain⟨r0,h0,rfl⟩:=h
  obtain⟨B,hB,R,_,_⟩:=S.row id r0 h0
  exact⟨B,hB,R.flag false,fun h=>by simp at h,fun h=>by simp at h⟩
 ·unfold V.ro at h
  simp only[Option.map_eq_some_iff]at h
  obtain⟨r0,h0,rfl⟩:=h
  simp at hw
theorem yX {g0:Rows} {f:Nat} {args:List AV} {n:Nat} {K:AV->Prop} {vs:Array Value} (h:PC (Sound P) f args ⟨g0,n⟩ K) (pz:∀id r,g0 id=some r->g id=some r) (S:ga P hs D ι g w) (U:Used ι n (fun _=>False)) (A:e9 P w D ι args vs):
  Calls P f vs w fun e w'=>∃r D' u,e=.returned u/\K r/\Step hs D ι w D' ι w'/\ga P hs D' ι g w'/\cG P w' D' ι r u:=by
 refine(h w.heap.size D ι w vs (S.sub pz).ro U A).mono ?_
 rintro e w' ⟨r0,g',n',D1,ι1,u,rfl,⟨r,hr,hK⟩,T,S1,_,_,hR⟩
 have hb:∀b,b<w.heap.size->w'.heap[b]? =w.heap[b]? :=T.below.block
 have hz:=T.below.size
 have q:=qh (D2:=fun b=>D b∨(w.heap.size<=b/\b<w'.heap.size)) (ι2:=ι) (fun b hd=>by
  rcases T.new b hd with h|h
  ·exact .inl h
  ·exact .inr ⟨h,S1.dead b hd⟩) (fun id row hg hw=>by
  obtain⟨B,hB,R,h1,_⟩:=S1.row id row hg
  exact⟨B,hB,R,.inr ⟨h1 hw,R.lt⟩⟩) 6 r0 u r hR hr
 refine⟨r,_,u,rfl,hK,?_,?_,q.1⟩
 ·exact Step.stay S hb hz T.below.os T.below.tape T.below.output (fun _ h=>.inl h) (fun b h=>by rcases h with h|h;exact .inl h;exact .inr h.1) (fun _ _ h=>h)
 ·exact S.stay hb hz (fun _ h=>.inl h) (fun b h=>by rcases h with h|h;exact Nat.lt_of_lt_of_le (S.dead b h) hz;exact h.2) (fun b h=>by rcases h with h|h;exact .inl h;exact .inr h.1) (fun _ _ h=>h)
theorem vT {g0:Rows} {f:Nat} {args:List AV} {n:Nat} {K:AV->Prop} {vs:Array Value} (h:PCv (Sound P) f args ⟨g0,n⟩ K) (pz:∀id r,g0 id=some r->g id=some r) (S:ga P hs D ι g w) (U:Used ι n (fun _=>False)) (A:e9 P w D ι args vs):
  Calls P f vs w fun e w'=>∃r D' u,e=.returned u/\K r/\Step hs D ι w D' ι w'/\ga P hs D' ι g w'/\cG P w' D' ι r u:=by
 obtain⟨eT,ha,h⟩:=h
 let D1:Nat->Prop:=fun b=>D b∨∃id r B,g id=some r/\ι id=some B/\b=B.b
 have lt:∀id r B,g id=some r->ι id=some B->B.b<w.heap.size:=fun id r B h1 h2=>by
  obtain⟨B',dx,R,_⟩:=S.row id r h1
  rw[h2]at dx;injection dx with dx;subst dx
  exact R.lt
 have S0:ga P w.heap.size D1 ι (fun _=>none) w:=⟨Nat.le_refl _,fun b hb=>by
  rcases hb with hb|⟨id,r,B,h1,h2,rfl⟩
  ·exact S.dead b hb
  ·exact lt id r B h1 h2,fun id r h=>(by cases h),fun id kn r r' B B' h=>(by cases h)⟩
 obtain⟨l1,l2⟩:=fW ha
 have A':e9 P w D1 ι eT vs:=⟨by rw[A.1,l1],fun j a hj=>by
  obtain⟨a0,kK,hf⟩:=l2 j a hj
  obtain⟨u,hu,hr⟩:=A.2 j a0 kK
  refine⟨u,hu,(qh (D2:=D1) (ι2:=ι) (fun b h=>.inl h) (fun id row hg hw=>?_) 6 a0 u a hr hf).1⟩
  unfold dE at hg
  simp only[Option.map_eq_some_iff]at hg
  obtain⟨r,m7,rfl⟩:=hg
  obtain⟨B,hB,R,_,_⟩:=S.row id r (pz id r m7)
  exact⟨B,hB,R.flag true,.inr ⟨id,r,B,pz id r m7,hB,rfl⟩⟩⟩
 refine(h w.heap.size D1 ι w vs S0 U A').mono ?_
 rintro e w' ⟨r0,g',n',D2,ι1,u,rfl,⟨r,hr,hK⟩,T,S1,_,_,hR⟩
 have hb:∀b,b<w.heap.size->w'.heap[b]? =w.heap[b]? :=T.below.block
 have hz:=T.below.size
 have q:=EO (D2:=fun b=>D b∨(w.heap.size<=b/\b<w'.heap.size)) (ι2:=ι) (fun id row hg hw=>by
  obtain⟨B,hB,R,h1,_⟩:=S1.row id row hg
  exact⟨B,hB,R,.inr ⟨h1 hw,R.lt⟩⟩) 6 r0 u r hR hr
 refine⟨r,_,u,rfl,hK,?_,?_,q.1⟩
 ·exact Step.stay S hb hz T.below.os T.below.tape T.below.output (fun _ h=>.inl h) (fun b h=>by rcases h with h|h;exact .inl h;exact .inr h.1) (fun _ _ h=>h)
 ·exact S.stay hb hz (fun _ h=>.inl h) (fun b h=>by rcases h with h|h;exact Nat.lt_of_lt_of_le (S.dead b h) hz;exact h.2) (fun b h=>by rcases h with h|h;exact .inl h;exact .inr h.1) (fun _ _ h=>h)
theorem El {g0:Rows} {f:Nat} {args:List AV} {n:Nat} {K:AV->Prop} {vs:Array Value} (h:gS (Sound P) f args ⟨g0,n⟩ K) (pz:∀id r,g0 id=some r->g id=some r) (S:ga P hs D ι g w) (U:Used ι n (fun _=>False)) (A:e9 P w D ι args vs):
  Calls P f vs w fun e w'=>∃r D' u,e=.returned u/\K r/\Step hs D ι w D' ι w'/\ga P hs D' ι g w'/\cG P w' D' ι r u:=by
 rcases h with h|h
 ·exact yX h pz S U A
 ·exact vT h pz S U A
theorem FI {D1 D2:Nat->Prop} {ι1 ι2:Names} {w1:World} {a:AV} {v:Value} (hp:a.plain=true) (h:cG P w D1 ι1 a v):cG P w1 D2 ι2 a v:=by
 cases h with
 |eK a v h=>cases h<;>first|(simp[AV.plain]at hp;done)|exact .eK _ _ (by constructor)
 |_=>simp[AV.plain]at hp
theorem ga.add {r:Row} {B:rY} (S:ga P hs D ι g w) (S':ga P hs D ι g w') (hf:ι id=none) (jV:w.heap.size<=B.b) (R:ik P w' D (kI ι id B) B r):ga P hs D (kI ι id B) (bY g id r) w':=by
 have lt:∀kn r' B',g kn=some r'->ι kn=some B'->B'.b<w.heap.size:=fun kn r' B' h1 h2=>by
  obtain⟨B2,oK,R2,_⟩:=S.row kn r' h1
  rw[h2]at oK;injection oK with oK;subst oK
  exact R2.lt
 have ne:∀kn r',g kn=some r'->kn≠id:=fun kn r' h he=>by
  subst he
  obtain⟨B2,oK,_⟩:=S.row _ r' h
  rw[hf]at oK;cases oK
 refine⟨S'.lo,S'.dead,fun kn r' h=>?_,fun Qo id2 r1 r2 B1 B2 h1 h2 hw yQ oK hb=>?_⟩
 ·unfold bY at h
  split at h
  ·rename_i he
   subst he
   injection h with h;subst h
   exact⟨B,dZ _ _ _,R,fun _=>Nat.le_trans S.lo jV,fun _ hd=>Nat.lt_irrefl _ (Nat.lt_of_lt_of_le (S.dead _ hd) jV)⟩
  ·obtain⟨B',dx,R',k1,k2⟩:=S'.row kn r' h
   exact⟨B',by rw[fM (ne _ _ h)];exact dx,R'.frame rfl (fun a v hr=>hr.frame (fun _ _=>rfl) (fun _ h=>h) (fN hf)),k1,k2⟩
 ·unfold bY at h1 h2
  split at h1
  ·rename_i e1
   split at h2
   ·rename_i e2;rw[e1,e2]
   ·exfalso
    subst e1
    rw[dZ]at yQ;injection yQ with yQ;subst yQ
    rw[fM (ne _ _ h2)]at oK
    have:=lt _ _ _ h2 oK
    omega
  ·rw[fM (ne _ _ h1)]at yQ
   split at h2
   ·rename_i e2
    exfalso
    subst e2
    rw[dZ]at oK;injection oK with oK;subst oK
    have:=lt _ _ _ h1 yQ
    omega
   ·rw[fM (ne _ _ h2)]at oK
    exact S'.inj Qo id2 r1 r2 B1 B2 h1 h2 hw yQ oK hb
theorem Gr {g0:Rows} {f:Nat} {args:List AV} {n sz:Nat} {rows:List (List AV)} {vs:Array Value} (h:CM (Sound P) f args ⟨g0,n⟩ sz rows) (pz:∀id r,g0 id=some r->g id=some r) (S:ga P hs D ι g w) (U:Used ι n (fun _=>False)) (A:e9 P w D ι args vs) (hf:ι id=none):
  Calls P f vs w fun e w'=>∃u B,e=.returned u/\Step hs D ι w D (kI ι id B) w'/\ga P hs D (kI ι id B) (bY g id ⟨true,sz,rows⟩) w'/\cG P w' D (kI ι id B) (.own id 0 rows.length) u:=by
 obtain⟨mY,eT,ha,h⟩:=h
 let D1:Nat->Prop:=fun b=>D b∨∃id r B,g id=some r/\ι id=some B/\b=B.b
 have lt:∀id r B,g id=some r->ι id=some B->B.b<w.heap.size:=fun id r B h1 h2=>by
  obtain⟨B',dx,R,_⟩:=S.row id r h1
  rw[h2]at dx;injection dx with dx;subst dx
  exact R.lt
 have S0:ga P w.heap.size D1 ι (fun _=>none) w:=⟨Nat.le_refl _,fun b hb=>by
  rcases hb with hb|⟨id,r,B,h1,h2,rfl⟩
  ·exact S.dead b hb
  ·exact lt id r B h1 h2,fun id r h=>(by cases h),fun id kn r r' B B' h=>(by cases h)⟩
 obtain⟨l1,l2⟩:=fW ha
 have A':e9 P w D1 ι eT vs:=⟨by rw[A.1,l1],fun j a hj=>by
  obtain⟨a0,kK,hz⟩:=l2 j a hj
  obtain⟨u,hu,hr⟩:=A.2 j a0 kK
  refine⟨u,hu,(qh (D2:=D1) (ι2:=ι) (fun b h=>.inl h) (fun id row hg hw=>?_) 6 a0 u a hr hz).1⟩
  unfold dE at hg
  simp only[Option.map_eq_some_iff]at hg
  obtain⟨r,m7,rfl⟩:=hg
  obtain⟨B,hB,R,_,_⟩:=S.row id r (pz id r m7)
  exact⟨B,hB,R.flag true,.inr ⟨id,r,B,pz id r m7,hB,rfl⟩⟩⟩
 refine(h w.heap.size D1 ι w vs S0 U A').mono ?_
 rintro e w' ⟨r0,g',n',D2,ι1,u,rfl,⟨i0,hr,hg⟩,T,S1,_,_,hR⟩
 subst hr
 have hb:∀b,b<w.heap.size->w'.heap[b]? =w.heap[b]? :=T.below.block
 have hz:=T.below.size
 obtain⟨B,hB,R,k1,_⟩:=S1.row i0 _ hg
 have jV:w.heap.size<=B.b:=k1 rfl
 obtain⟨o,cap,B',rfl,dx,q2,q3,q4,q5,hk⟩:=jd hR
 rw[hB]at dx;injection dx with dx;subst dx
 replace R:=R.row hk
 have S':ga P hs D ι g w':=S.stay hb hz (fun _ h=>h) (fun b h=>Nat.lt_of_lt_of_le (S.dead b h) hz) (fun b h=>.inl h) (fun _ _ h=>h)
 have R':kW P w' D (kI ι id B) B ⟨true,sz,rows⟩:=⟨R.sz,R.Ep,R.fits,R.len,R.flat,fun i j cs a hi hj=>by
  obtain⟨v,h1,h2⟩:=R.at_ i j cs a hi hj
  exact⟨v,h1,FI (mY cs (List.mem_of_getElem? hi) a (List.mem_of_getElem? hj)) h2⟩⟩
 exact⟨_,B,rfl,Step.stay S hb hz T.below.os T.below.tape T.below.output (fun _ h=>h) (fun _ h=>.inl h) (fN hf),S.add S' hf jV (R'.obj hk),.own id 0 _ _ _ B (dZ _ _ _) hk q2 q3 q4 q5⟩
theorem jg {f:Nat} {args:Array Value} (hc:fy P f=true):(callFunc f args).run P w=.ok (.enter f args) w:=by
 unfold fy at hc
 split at hc
 ·rename_i fn hf
  simp only[Bool.and_eq_true,Bool.not_eq_true']at hc
  have hb:fn.body.isNone=false:=by cases hq:fn.body<;>simp_all
  simp only[callFunc,Sem.run_bind,run_program,Result.andThen_ok,hf,hc.2,Bool.false_eq_true,if_false,hb]
  rfl
 ·simp at hc
theorem Ab {f:Nat} {args:List O} (hc:pN P o.op=some (.call f args)):∃c,o.op=.call c/\c.callee=.value (.func f)/\fy P f=true/\c.args.toList.mapM (cO P)=some args:=by
 unfold pN at hc
 split at hc
 case h_23=>
  rename_i c ho
  refine⟨c,ho,?_⟩
  unfold mM at hc
  split at hc
  all_goals (try(repeat' (split at hc))<;>(simp only[Option.bind_eq_bind,Option.bind_eq_some_iff,Option.pure_def,Option.some.injEq,Option.map_eq_some_iff,reduceCtorEq,and_false,exists_false]at hc))
  all_goals simp_all
 all_goals (try unfold tv at hc)<;>(try unfold rj at hc)<;>(repeat' (split at hc))<;>(simp only[Option.bind_eq_bind,Option.bind_eq_some_iff,Option.pure_def,Option.some.injEq,Option.map_eq_some_iff,reduceCtorEq,and_false,exists_false]at hc)
theorem rK {x:O} {args:List O} (hc:pN P o.op=some (.r7 x args)):∃c t,o.op=.call c/\c.callee=.value (.tmp t)/\x=.t t/\c.args.toList.mapM (cO P)=some args:=by
 unfold pN at hc
 split at hc
 case h_23=>
  rename_i c ho
  refine⟨c,?_⟩
  unfold mM at hc
  split at hc
  all_goals (try(repeat' (split at hc))<;>(simp only[Option.bind_eq_bind,Option.bind_eq_some_iff,Option.pure_def,Option.some.injEq,Option.map_eq_some_iff,reduceCtorEq,and_false,exists_false]at hc))
  all_goals simp_all
 all_goals (try unfold tv at hc)<;>(try unfold rj at hc)<;>(repeat' (split at hc))<;>(simp only[Option.bind_eq_bind,Option.bind_eq_some_iff,Option.pure_def,Option.some.injEq,Option.map_eq_some_iff,reduceCtorEq,and_false,exists_false]at hc)
theorem E8 {n:Nat} {x y:O} (hc:pN P o.op=some (.store n x y)):∃t x' y',o.op=.store t x' y'/\dM P t=some n/\cO P x'=some x/\cO P y'=some y:=by
 unfold pN at hc
 split at hc
 case h_7=>
  rename_i t x' y' ho
  refine⟨t,x',y',ho,?_⟩
  simp only[Option.bind_eq_bind,Option.bind_eq_some_iff,Option.pure_def,Option.some.injEq]at hc
  obtain⟨n',h1,x2,h2,y2,h3,he⟩:=hc
  injection he with e1 e2 e3
  subst e1;subst e2;subst e3
  exact⟨h1,h2,h3⟩
 all_goals (try unfold tv at hc)<;>(try unfold rj at hc)<;>(try unfold mM at hc)<;>(repeat' (split at hc))<;>(simp only[Option.bind_eq_bind,Option.bind_eq_some_iff,Option.pure_def,Option.some.injEq,Option.map_eq_some_iff,reduceCtorEq,and_false,exists_false]at hc)
theorem Cb {n:Nat} {x y:O} (hc:pN P o.op=some (.append n x y)):∃(t e:TypeId) (m:Nat) (z:List K) (i:TypeInfo) (x' y':Operand),n=m+1/\o.op=.call {callee:=.builtin .append,args:= #[x',y'],argTypes:= #[t,t]}/\
  P.underlying t=some (.slice e)/\dM P e=some (m+1)/\jn P e=some z/\P.info? e=some i/\i.bytes<=32768/\cO P x'=some x/\cO P y'=some y:=by
 unfold pN at hc
 split at hc
 case h_23=>
  rename_i c ho
  unfold mM at hc
  split at hc
  case h_2=>
   rename_i j3
   split at hc
   ·rename_i x' y' t u h1 h2
    split at hc
    ·rename_i e ht
     split at hc
     ·rename_i m z i e1 e2 e3
      split at hc
      ·rename_i hb
       simp only[Option.bind_eq_bind,Option.bind_eq_some_iff,Option.pure_def,Option.some.injEq]at hc
       obtain⟨x2,h3,y2,h4,he⟩:=hc
       injection he with k1 k2 k3
       subst k1;subst k2;subst k3
       obtain⟨Gd,rfl⟩:=hb
       refine⟨t,e,m,z,i,x',y',rfl,?_,ht,e1,e2,e3,Gd,h3,h4⟩
       rw[ho]
       obtain⟨ca,cb,cc⟩:=c
       simp only at h1 h2 j3
       subst j3
       congr
       ·exact Array.ext' h1
       ·exact Array.ext' h2
      ·simp at hc
     ·simp at hc
    ·simp at hc
   ·simp at hc
  all_goals (repeat' (split at hc))<;>(simp only[Option.bind_eq_bind,Option.bind_eq_some_iff,Option.pure_def,Option.some.injEq,Option.map_eq_some_iff,reduceCtorEq,and_false,exists_false]at hc)
 all_goals (try unfold tv at hc)<;>(try unfold rj at hc)<;>(repeat' (split at hc))<;>(simp only[Option.bind_eq_bind,Option.bind_eq_some_iff,Option.pure_def,Option.some.injEq,Option.map_eq_some_iff,reduceCtorEq,and_false,exists_false]at hc)
theorem HI {n:Nat} {x y:O} (hc:pN P o.op=some (.copy n x y)):∃(t t2 e:TypeId) (m:Nat) (x' y':Operand),n=m+1/\o.op=.call {callee:=.builtin .copy,args:= #[x',y'],argTypes:= #[t,t2]}/\
  P.underlying t=some (.slice e)/\dM P e=some (m+1)/\cO P x'=some x/\cO P y'=some y:=by
 unfold pN at hc
 split at hc
 case h_23=>
  rename_i c ho
  unfold mM at hc
  split at hc
  case h_7=>
   rename_i j3
   split at hc
   ·rename_i x' y' t t2 h1 h2
    split at hc
    ·rename_i e ht
     split at hc
     ·rename_i m e1
      simp only[Option.bind_eq_bind,Option.bind_eq_some_iff,Option.pure_def,Option.some.injEq,fS.copy.injEq]at hc
      obtain⟨x2,h3,y2,h4,k0,k1,k2⟩:=hc
      subst k1;subst k2
      refine⟨t,t2,e,m,x',y',k0.symm,?_,ht,e1,h3,h4⟩
      rw[ho]
      obtain⟨ca,cb,cc⟩:=c
      simp only at h1 h2 j3
      subst j3
      congr
      ·exact Array.ext' h1
      ·exact Array.ext' h2
     ·simp at hc
    ·simp at hc
   ·simp at hc
  all_goals (repeat' (split at hc))<;>(simp only[Option.bind_eq_bind,Option.bind_eq_some_iff,Option.pure_def,Option.some.injEq,Option.map_eq_some_iff,reduceCtorEq,and_false,exists_false]at hc)
 all_goals (try unfold tv at hc)<;>(try unfold rj at hc)<;>(repeat' (split at hc))<;>(simp only[Option.bind_eq_bind,Option.bind_eq_some_iff,Option.pure_def,Option.some.injEq,Option.map_eq_some_iff,reduceCtorEq,and_false,exists_false]at hc)
theorem E7 {z:List K} {x:O} (hc:pN P o.op=some (.clear z x)):∃(t e:TypeId) (m:Nat) (x':Operand),o.op=.call {callee:=.builtin .clear,args:= #[x'],argTypes:= #[t]}/\
  P.underlying t=some (.slice e)/\dM P e=some (m+1)/\jn P e=some z/\cO P x'=some x:=by
 unfold pN at hc
 split at hc
 case h_23=>
  rename_i c ho
  unfold mM at hc
  split at hc
  case h_3=>
   rename_i j3
   split at hc
   ·rename_i x' t h1 h2
    split at hc
    ·rename_i e ht
     split at hc
     ·rename_i m z' e1 e2
      simp only[Option.map_eq_some_iff]at hc
      obtain⟨x2,h3,he⟩:=hc
      injection he with k1 k2
      subst k1;subst k2
      refine⟨t,e,m,x',?_,ht,e1,e2,h3⟩
      rw[ho]
      obtain⟨ca,cb,cc⟩:=c
      simp only at h1 h2 j3
      subst j3
      congr
      ·exact Array.ext' h1
      ·exact Array.ext' h2
     ·simp at hc
    ·simp at hc
   ·simp at hc
  all_goals (repeat' (split at hc))<;>(simp only[Option.bind_eq_bind,Option.bind_eq_some_iff,Option.pure_def,Option.some.injEq,Option.map_eq_some_iff,reduceCtorEq,and_false,exists_false]at hc)
 all_goals (try unfold tv at hc)<;>(try unfold rj at hc)<;>(repeat' (split at hc))<;>(simp only[Option.bind_eq_bind,Option.bind_eq_some_iff,Option.pure_def,Option.some.injEq,Option.map_eq_some_iff,reduceCtorEq,and_false,exists_false]at hc)
theorem Nj {q:MW} {xs:List O} (hc:pN P o.op=some (.mw q xs)):
  (∃t x k y m z x' k' y',(o.op=.mapUpdate t x k y∨o.op=.insert t x k y)/\rl P t=some (m,z)/\cO P x=some x'/\cO P k=some k'/\cO P y=some y'/\q=.set m/\xs=[x',k',y'])∨
  (∃t t' x k m z x' k',o.op=.call {callee:=.builtin .delete,args:= #[x,k],argTypes:= #[t,t']}/\rl P t=some (m,z)/\cO P x=some x'/\cO P k=some k'/\q=.del m/\xs=[x',k']):=by
 unfold pN at hc
 split at hc
 case h_23=>
  rename_i c ho
  right
  unfold mM at hc
  split at hc
  case h_6=>
   rename_i j3
   split at hc
   ·rename_i x k t t' h1 h2
    split at hc
    ·rename_i m z x' k' e1 e2 e3
     injection hc with hc
     injection hc with q1 q2
     refine⟨t,t',x,k,m,z,x',k',?_,e1,e2,e3,q1.symm,q2.symm⟩
     rw[ho]
     obtain⟨ca,cb,cc⟩:=c
     simp only at h1 h2 j3
     subst j3
     congr
     ·exact Array.ext' h1
     ·exact Array.ext' h2
    ·cases hc
   ·cases hc
  all_goals (repeat' (split at hc))<;>(simp only[Option.bind_eq_bind,Option.bind_eq_some_iff,Option.pure_def,Option.some.injEq,Option.map_eq_some_iff,reduceCtorEq,and_false,exists_false]at hc)
 case h_29=>
  rename_i t x k y ho
  left
  split at hc
  ·rename_i m z x' k' y' e1 e2 e3 e4
   injection hc with hc
   injection hc with q1 q2
   exact⟨t,x,k,y,m,z,x',k',y',.inl ho,e1,e2,e3,e4,q1.symm,q2.symm⟩
  ·cases hc
 case h_30=>
  rename_i t x k y ho
  left
  split at hc
  ·rename_i m z x' k' y' e1 e2 e3 e4
   injection hc with hc
   injection hc with q1 q2
   exact⟨t,x,k,y,m,z,x',k',y',.inr ho,e1,e2,e3,e4,q1.symm,q2.symm⟩
  ·cases hc
 all_goals (try unfold tv at hc)<;>(try unfold rj at hc)<;>(repeat' (split at hc))<;>(simp only[Option.bind_eq_bind,Option.bind_eq_some_iff,Option.pure_def,Option.some.injEq,Option.map_eq_some_iff,reduceCtorEq,and_false,exists_false]at hc)
def iQ (g:Rows) (id:Id):Option Row->Rows
 |some r=>bY g id r
 |none=>g
def tz (X:fx) (hid:List Nat) (site n:Nat) (f:Nat) (args:List AV) (g:Rows) (v:AV) (g':Rows):Prop:=
 (gS X f args ⟨gh hid n g,n+1⟩ (fun r=>r=v)/\g'=g)∨
 (hid.contains site=true/\∃sz rows,CM X f args ⟨gh hid n g,n+1⟩ sz rows/\v=.own ⟨site,n⟩ 0 rows.length/\g'=bY g ⟨site,n⟩ ⟨true,sz,rows⟩)
def VS (X:fx) (n:Nat) (vo:bl) (env:Env) (g:Rows) (v:AV) (g':Rows):Prop:=
 match vo.op with
 | .call f args=>tz X vo.hid vo.site n f (args.map (cE env)) g v g'
 | .r7 x args=>∃f l,tx (cE env x) (args.map (cE env))=some (f,l)/\tz X vo.hid vo.site n f l g v g'
 | .store .. | .append .. | .copy .. | .clear .. | .mw .. =>gi vo.op (cE env) g ⟨vo.site,n⟩=some (v,g')
 |_=>∃mr,eM vo.op (cE env) (gh vo.hid n g) ⟨vo.site,n⟩=some (v,mr)/\g'=iQ g ⟨vo.site,n⟩ mr
def Lc (P:Program) (hs:Nat) (D:Nat->Prop) (ι:Names) (w:World) (U:Nat->Prop) (site n:Nat) (a:Act) (dst:Option Tmp) (v:AV) (g':Rows) (a':Act) (w':World):Prop:=
 ∃u D' ι',a'=a.put dst u/\Step hs D ι w D' ι' w'/\ga P hs D' ι' g' w'/\cG P w' D' ι' v u/\Used ι' n (fun s=>U s∨s=site)
theorem fresh {n:Nat} {U:Nat->Prop} {s:Nat} (h:Used ι n U) (hU:¬U s):ι ⟨s,n⟩=none:=by
 cases hq:ι ⟨s,n⟩with
 |none=>rfl
 |some B=>
  rcases h ⟨s,n⟩ (by rw[hq];simp)with h|⟨_,h⟩
  ·exact absurd h (Nat.lt_irrefl _)
  ·exact absurd h hU
theorem Used.more {n:Nat} {U U':Nat->Prop} (h:Used ι n U) (hU:∀s,U s->U' s):Used ι n U':=fun id hid=>by
 rcases h id hid with h|⟨h1,h2⟩
 ·exact .inl h
 ·exact .inr ⟨h1,hU _ h2⟩
theorem Used.next {n:Nat} {U:Nat->Prop} (h:Used ι n U):Used ι (n+1) (fun _=>False):=fun id hid=>by
 rcases h id hid with h|⟨h1,_⟩
 ·exact .inl (Nat.lt_succ_of_lt h)
 ·exact .inl ab
theorem Used.upd {n:Nat} {U:Nat->Prop} {s:Nat} {B:rY} (h:Used ι n U):Used (kI ι ⟨s,n⟩ B) n (fun x=>U x∨x=s):=fun id hid=>by
 by_cases he:id=⟨s,n⟩
 ·subst he;exact .inr ⟨rfl,.inr rfl⟩
 ·rw[fM he]at hid
  exact(h.more (U':=fun x=>U x∨x=s) fun _ h=>Or.inl h) id hid
theorem nv {xs:Array Operand} {ys:List O} (E:bI P w D ι env a) (h:xs.toList.mapM (cO P)=some ys):e9 P w D ι (ys.map (cE env)) (xs.map a.eval):=by
 obtain⟨h1,h2⟩:=Cx E h
 refine⟨by simpa using h1,fun j b hj=>?_⟩
 simp only[List.getElem?_map,Option.map_eq_some_iff]at hj
 obtain⟨y,hy,rfl⟩:=hj
 have dD:j<xs.size:=by have:=(List.getElem?_eq_some_iff.1 hy).1;simp at h1;omega
 refine⟨a.eval xs[j],by simp[dD],?_⟩
 have:=h2 j y hy
 simpa[List.getD_eq_getElem?_getD,dD]using this
theorem nT {xs ys:List AV} {vs us:Array Value} (h:e9 P w D ι xs vs) (k:e9 P w D ι ys us):e9 P w D ι (xs++ys) (vs++us):=
 ⟨by simp[h.1,k.1],fun j b hj=>by
  by_cases dD:j<xs.length
  ·rw[List.getElem?_append_left dD]at hj
   obtain⟨u,hu,vG⟩:=h.2 j b hj
   exact⟨u,by rw[Array.getElem?_append_left (by rw[h.1];exact dD)];exact hu,vG⟩
  ·rw[List.getElem?_append_right ab]at hj
   obtain⟨u,hu,vG⟩:=k.2 _ b hj
   exact⟨u,by rw[Array.getElem?_append_right (by rw[h.1];omega),h.1];exact hu,vG⟩⟩
theorem uD:e9 P w D ι [] #[]:=⟨rfl,fun j b hj=>by simp at hj⟩
theorem tA {x:AV} {l l':List AV} {f:Nat} {vs:Array Value} {v:Value} (h:tx x l=some (f,l')) (hr:cG P w D ι x v) (hA:e9 P w D ι l vs):
  ∃first cD,v=.func (.func f) first cD/\fy P f=true/\e9 P w D ι l' (first++vs++cD):=by
 unfold tx at h
 split at h
 ·simp only[Option.some.injEq,Prod.mk.injEq]at h
  obtain⟨rfl,rfl⟩:=h
  obtain⟨us,q,he,Dv,n1,q1,q2⟩:=Cz hr
  refine⟨#[],us,he,Dv,?_⟩
  rw[Array.empty_append]
  exact nT hA ⟨n1,fun j b hj=>⟨q j,q1 j (List.getElem?_eq_some_iff.1 hj).1,q2 j b hj⟩⟩
 ·simp only[Option.some.injEq,Prod.mk.injEq]at h
  obtain⟨rfl,rfl⟩:=h
  obtain⟨us,q,he,Dv,n1,q1,q2⟩:=KT hr
  refine⟨us, #[],he,Dv,?_⟩
  rw[Array.append_empty]
  exact nT ⟨n1,fun j b hj=>⟨q j,q1 j (List.getElem?_eq_some_iff.1 hj).1,q2 j b hj⟩⟩ hA
 ·cases h
theorem y7 {n:Nat} {vo:bl} {g':Rows} {U:Nat->Prop} {Q:Exit->Act->World->Prop} {K:Act->World->Prop} (hc:pN P o.op=some vo.op) (hv:VS (Sound P) n vo env g v g') (S:ga P hs D ι g w) (Us:Used ι n U) (hU:¬U vo.site) (E:bI P w D ι env a)
  (hK:∀a' w',Lc P hs D ι w U vo.site n a o.dst v g' a' w'->K a' w'):o.wp P a w K Q:=by
 have hf:=fresh Us hU
 have zh:∀(f:Nat) (args:List AV) (vs:Array Value),tz (Sound P) vo.hid vo.site n f args g v g'->e9 P w D ι args vs->(execOp a.eval o).run P w=.ok (.enter f vs) w->o.wp P a w K Q:=by
  intro f args vs hP hA gU
  unfold Oper.wp
  rw[gU]
  rcases hP with⟨hP,rfl⟩|⟨_,sz,rows,hM,rfl,rfl⟩
  ·refine(El hP yH S Us.next hA).mono ?_
   rintro e w' ⟨r,D',u,rfl,rfl,T,S',hR⟩
   exact hK _ _ ⟨u,D',ι,rfl,T,S',hR,Us.more fun _ h=>.inl h⟩
  ·refine(Gr hM yH S Us.next hA hf).mono ?_
   rintro e w' ⟨u,B,rfl,T,S',hR⟩
   exact hK _ _ ⟨u,D,_,rfl,T,S',hR,Us.upd⟩
 have quiet:∀(mr:Option Row),eM vo.op (cE env) (gh vo.hid n g) ⟨vo.site,n⟩=some (v,mr)->g'=iQ g ⟨vo.site,n⟩ mr->o.wp P a w K Q:=by
  intro mr hq hg
  have hqs:=wY hc hq (S.sub yH) E
  unfold Oper.wp
  cases mr with
  |none=>
   obtain⟨u,gU,hR⟩:=hqs
   rw[gU]
   subst hg
   exact hK _ _ ⟨u,D,ι,rfl,Step.refl _ _ _ _,S,hR,Us.more fun _ h=>.inl h⟩
  |some r=>
   rcases hqs with⟨u,cells,T,gU,h1,h2,h3,h4,h5,h6⟩|⟨m,gU,Nd,AY⟩|⟨c,gU,Nd,AY⟩
   case inr.inr=>
    rw[gU]
    subst hg Nd AY
    have fh:w.heap.size<(w.alloc (.chan c #[] false 0 0 false)).heap.size:=by simp
    have S':=S.stay (w':=w.alloc (.chan c #[] false 0 0 false)) (D':=D) (ι':=ι) (fun k hk=>Below.heap_alloc _ _ _ hk) (by simp) (fun _ h=>h) (fun b hd=>Nat.lt_trans (S.dead b hd) fh) (fun _ h=>.inl h) (fun _ _ h=>h)
    have S1:=S.add S' (id:=⟨vo.site,n⟩) (B:=⟨w.heap.size,qb+c,0,some (.chan c)⟩) (r:=⟨true,qb+c,[]⟩) hf (Nat.le_refl _) ⟨rfl,fun cs h=>by simp at h,fun h=>by simp at h,fun m' h=>(by simp at h),fun c' h=>by
     simp only[Option.some.injEq,BK.chan.injEq]at h;subst h
     exact⟨rfl, #[],0,0,(show(w.heap.push (Obj.chan c #[] false 0 0 false))[w.heap.size]? =some (Obj.chan c #[] false 0 0 false) by simp),rfl,fun i cs h=>by simp at h⟩⟩
    exact hK _ _ ⟨_,D,_,rfl,Step.stay S (fun k hk=>Below.heap_alloc _ _ _ hk) (by simp) rfl rfl rfl (fun _ h=>h) (fun _ h=>.inl h) (fN hf),S1,.rq _ _ _ (dZ _ _ _) rfl,Us.upd⟩
   case inr.inl=>
    rw[gU]
    subst hg Nd AY
    have fh:w.heap.size<(w.alloc (.map #[] 0)).heap.size:=by simp
    have S':=S.stay (w':=w.alloc (.map #[] 0)) (D':=D) (ι':=ι) (fun k hk=>Below.heap_alloc _ _ _ hk) (by simp) (fun _ h=>h) (fun b hd=>Nat.lt_trans (S.dead b hd) fh) (fun _ h=>.inl h) (fun _ _ h=>h)
    have S1:=S.add S' (id:=⟨vo.site,n⟩) (B:=⟨w.heap.size,m.CD,0,some (.map m)⟩) (r:=⟨true,m.CD,[]⟩) hf (Nat.le_refl _) ⟨rfl,fun cs h=>by simp at h,fun h=>by simp at h,fun m' h=>by
     simp only[Option.some.injEq,BK.map.injEq]at h;subst h
     exact⟨rfl, #[],0,(show(w.heap.push (Obj.map #[] 0))[w.heap.size]? =some (Obj.map #[] 0) by simp),rfl,⟨fun cs h=>by simp at h,fun x h=>by simp at h,by simp⟩,fun i cs h=>by simp at h⟩,fun c h=>by simp at h⟩
    exact hK _ _ ⟨_,D,_,rfl,Step.stay S (fun k hk=>Below.heap_alloc _ _ _ hk) (by simp) rfl rfl rfl (fun _ h=>h) (fun _ h=>.inl h) (fN hf),S1,.map _ _ _ (dZ _ _ _) rfl,Us.upd⟩
   rw[gU]
   subst hg
   have S1:=S.alloc (id:=⟨vo.site,n⟩) (w':=w.alloc (.cells cells T)) rfl hf h1 h2 h3 h4 h5
   refine hK _ _ ⟨u,D,_,rfl,Step.stay S (fun k hk=>Below.heap_alloc _ _ _ hk) (by simp) rfl rfl rfl (fun _ h=>h) (fun _ h=>.inl h) (fN hf),S1,(h6 (kI ι _ _) (dZ _ _ _)).frame (fun b hd=>Below.heap_alloc _ _ _ (S.dead b hd)) (fun _ h=>h) (fun _ _ h=>h),Us.upd⟩
 have Ol:gi vo.op (cE env) g ⟨vo.site,n⟩=some (v,g')->(∀Jq,A6 P hs a o Jq D ι ⟨vo.site,n⟩ v g'->Jq=w->o.wp P a w K Q):=by
  intro _ Jq hE he
  subst he
  obtain⟨u,w',ι',gU,T,S',hR,hι⟩:=hE
  have He:Lc P hs D ι Jq U vo.site n a o.dst v g' (a.put o.dst u) w':=⟨u,D,ι',rfl,T,S',hR,fun id hid=>by
   by_cases he:id=⟨vo.site,n⟩
   ·subst he;exact .inr ⟨rfl,.inr rfl⟩
   ·rw[hι id he]at hid
    exact(Us.more (U':=fun x=>U x∨x=vo.site) fun _ h=>Or.inl h) id hid⟩
  unfold Oper.wp
  rcases gU with gU|⟨gU,rfl⟩
  ·rw[gU];exact hK _ _ He
  ·rw[gU];exact hK _ _ He
 unfold VS at hv
 split at hv
 ·rename_i f args dO
  rw[dO]at hc
  obtain⟨c,ho,j3,Dv,mO⟩:=Ab hc
  refine zh f _ (c.args.map a.eval) hv (nv E mO) ?_
  simp only[execOp,ho,resolve,j3,Deferred.ofValue,Act.eval,Sem.run_bind,Sem.run_pure,Result.andThen_ok,invoke,Array.empty_append,Array.append_empty]
  exact jg Dv
 ·rename_i x args dO
  obtain⟨f,l,hx,hP⟩:=hv
  rw[dO]at hc
  obtain⟨c,t,ho,j3,rfl,mO⟩:=rK hc
  obtain⟨first,cD,he,Dv,hL⟩:=tA (v:=a.eval (.tmp t)) hx (E t) (nv E mO)
  refine zh f _ (first++c.args.map a.eval++cD) hP hL ?_
  simp only[execOp,ho,resolve,j3,he,Deferred.ofValue,Sem.run_bind,Sem.run_pure,Result.andThen_ok,invoke]
  exact jg Dv
 ·rename_i m x y dO
  have ki:=hc
  rw[dO]at ki
  obtain⟨t,x',y',ho,h1,h2,h3⟩:=E8 ki
  have mZ:=hv
  rw[dO]at mZ
  simp only[gi,Option.map_eq_some_iff,Prod.mk.injEq]at mZ
  obtain⟨g1,tV,rfl,rfl⟩:=mZ
  exact Ol hv w (JG S E ho h1 h2 h3 tV) rfl
 ·rename_i m x y dO
  have ki:=hc
  rw[dO]at ki
  obtain⟨t,e,m',z,i,x',y',rfl,ho,h1,h2,h3,h4,h5,h6,h7⟩:=Cb ki
  have mZ:=hv
  rw[dO]at mZ
  simp only[gi,Option.bind_eq_some_iff]at mZ
  obtain⟨ys,DI,mZ⟩:=mZ
  exact Ol hv w (GY S E hf ho h1 h2 h3 h4 h5 h6 h7 DI mZ) rfl
 ·rename_i m x y dO
  have ki:=hc
  rw[dO]at ki
  obtain⟨t,t2,e,m',x',y',rfl,ho,h1,h2,h3,h4⟩:=HI ki
  have mZ:=hv
  rw[dO]at mZ
  simp only[gi,Option.bind_eq_some_iff]at mZ
  obtain⟨ys,DI,mZ⟩:=mZ
  exact Ol hv w (Md S E ho h1 h2 h3 h4 DI mZ) rfl
 ·rename_i z x dO
  have ki:=hc
  rw[dO]at ki
  obtain⟨t,e,m',x',ho,h1,h2,h3,h4⟩:=E7 ki
  have mZ:=hv
  rw[dO]at mZ
  simp only[gi,Option.map_eq_some_iff,Prod.mk.injEq]at mZ
  obtain⟨g1,tV,rfl,rfl⟩:=mZ
  exact Ol hv w (JF S E ho h1 h2 h3 h4 tV) rfl
 ·rename_i q xs dO
  have ki:=hc
  rw[dO]at ki
  have mZ:=hv
  rw[dO]at mZ
  simp only[gi,Option.map_eq_some_iff,Prod.mk.injEq]at mZ
  obtain⟨g1,tV,rfl,rfl⟩:=mZ
  rcases Nj ki with⟨t,x,k,y,m,z,x',k',y',ho,h1,h2,h3,h4,rfl,rfl⟩|⟨t,t',x,k,m,z,x',k',ho,h1,h2,h3,rfl,rfl⟩
  ·exact Ol hv w (Mf S E ho h1 h2 h3 h4 tV) rfl
  ·exact Ol hv w (Me S E ho h1 h2 h3 tV) rfl
 ·obtain⟨mr,hq,hg⟩:=hv
  exact quiet mr hq hg
end
end Go.Proofs.YtihgaadadaekmaaGreatDoor.V

namespace Go.Proofs.YtihgaadadaekmaaGreatDoor.V
open Go.RowKit
variable {P:Program} {w w':World} {D D' D2:Nat->Prop} {ι ι' ι2:Names}
section
variable {g:Rows} {hs:Nat} {env:Env} {a:Act} {o:Oper} {id:Id} {v:AV}
theorem oe {ops:Array Oper} {nt site0 j:Nat} {draw mk:Bool} {bs:Array Nat} {hidden:List (Nat×Bool)} {vo:bl} (h:lH P ops nt site0 draw mk bs hidden j o=some vo):
  pN P o.op=some vo.op/\vo.dst=o.dst/\vo.site=site0+j/\(∀d,o.dst=some d->d<nt)/\(match o.guard with
   |none=>vo.guard=none
   |some (i,b)=>∃t,(ops[i]?).bind (·.dst)=some t/\vo.guard=some (t,b)):=by
 unfold lH at h
 simp only[Option.bind_eq_bind,Option.bind_eq_some_iff]at h
 obtain⟨v,hv,gd,hg,h⟩:=h
 split at h
 ·rename_i hd
  simp only[Option.pure_def,Option.some.injEq]at h
  subst h
  refine⟨hv,rfl,rfl,fun d Q9=>?_,?_⟩
  ·rw[Q9]at hd;simpa using hd
  ·unfold Bk at hg
   cases vz:o.guard with
   |none=>rw[vz]at hg;simp at hg;exact hg.symm
   |some p=>
    obtain⟨i,b⟩:=p
    rw[vz]at hg
    dsimp only at hg ⊢
    split at hg
    ·rename_i t ht
     simp at hg;exact⟨t,ht,hg.symm⟩
    ·simp at hg
 ·simp at h
theorem rX {ops:Array Oper} {vo:bl} (E:bI P w D ι env a) (hg:match o.guard with
   |none=>vo.guard=none
   |some (i,b)=>∃t,(ops[i]?).bind (·.dst)=some t/\vo.guard=some (t,b)):aM vo.guard env=Region.wanted o (yielded ops a.tmps):=by
 unfold Region.wanted
 cases vz:o.guard with
 |none=>rw[vz]at hg;simp only at hg;rw[hg];rfl
 |some p=>
  obtain⟨i,b⟩:=p
  rw[vz]at hg
  obtain⟨t,ht,hv⟩:=hg
  rw[hv]
  simp only[aM,yielded,ht,Option.bind_some]
  have hr:=E t
  by_cases dD:t<a.tmps.size
  ·have dR:a.tmps[t]? =some a.tmps[t]:=Array.getElem?_eq_getElem dD
   have hd:a.tmps.getD t undef=a.tmps[t]:=by simp[dD]
   rw[hd]at hr
   rw[dR]
   generalize a.tmps[t]=u at hr
   cases he:env t with
   |bool c=>rw[he]at hr;rw[eR hr];simp
   |_=>
    rw[he]at hr
    have:∀c,u≠.bool c:=by
     intro c hu
     subst hu
     cases hr with
     |eK _ _ h=>cases h
    cases u<;>simp_all
  ·have dR:a.tmps[t]? =none:=Array.getElem?_eq_none (Nat.le_of_not_lt dD)
   have hd:a.tmps.getD t undef=undef:=by simp[dR]
   rw[hd]at hr
   rw[dR]
   cases he:env t with
   |bool c=>rw[he]at hr;have:=eR hr;simp[undef]at this
   |_=>simp
theorem l9 {dst:Option Nat} {nt:Nat} {u:Value} (E:bI P w D ι env a) (hr:cG P w D ι v u) (hd:∀d,dst=some d->d<nt) (hs:a.tmps.size=nt):bI P w D ι (upd env dst v) (a.put dst u):=by
 intro t
 cases dst with
 |none=>exact E t
 |some d=>
  have dD:d<a.tmps.size:=by rw[hs];exact hd d rfl
  simp only[upd,Act.put]
  by_cases ht:t=d
  ·subst ht
   simp[dD];exact hr
  ·rw[if_neg ht]
   have:(a.tmps.setIfInBounds d u).getD t undef=a.tmps.getD t undef:=by
    simp only[Array.getD_eq_getD_getElem?]
    rw[Array.getElem?_setIfInBounds_ne (fun e=>ht e.symm)]
   rw[this];exact E t
theorem nE {hs:Nat} (E:bI P w D ι env a) (T:Step hs D ι w D' ι' w'):bI P w' D' ι' env a:=fun t=>T.rep (E t)
theorem kr (a:Act) (dst:Option Tmp) (u:Value):(a.put dst u).tmps.size=a.tmps.size:=by cases dst<;>simp[Act.put]
theorem put_defers (a:Act) (dst:Option Tmp) (u:Value):(a.put dst u).defers=a.defers:=by cases dst<;>rfl
theorem w9 {draw:Bool} {vo:bl} {σ:ax} {next:AV->ax->Prop} {U:Nat->Prop} {Q:Exit->Act->World->Prop} {K:Act->World->Prop} (hc:pN P o.op=some vo.op) (hv:fQ (Sound P) draw vo env σ next) (S:ga P hs D ι σ.get w) (Us:Used ι σ.next U) (hU:¬U vo.site) (E:bI P w D ι env a)
  (hK:∀v σ' u D' ι' w',next v σ'->Step hs D ι w D' ι' w'->ga P hs D' ι' σ'.get w'->cG P w' D' ι' v u->Used ι' σ'.next (fun s=>U s∨s=vo.site)->σ.next<=σ'.next->K (a.put o.dst u) w'):o.wp P a w K Q:=by
 have close:∀v g',VS (Sound P) σ.next vo env σ.get v g'->next v ⟨g',σ.next⟩->o.wp P a w K Q:=fun v g' h1 h2=>
  y7 hc h1 S Us hU E fun a' w' ⟨u,D',ι',ha,T,S',hR,U'⟩=>by subst ha;exact hK v ⟨g',σ.next⟩ u D' ι' w' h2 T S' hR U' (Nat.le_refl _)
 have Ik:∀(f:Nat) (args:List AV) (vs:Array Value),Sound P f args ⟨σ.get,σ.next+1⟩ next->e9 P w D ι args vs->(execOp a.eval o).run P w=.ok (.enter f vs) w->o.wp P a w K Q:=by
  intro f args vs h hA gU
  unfold Oper.wp
  rw[gU]
  refine(h hs D ι w vs S Us.next hA).mono ?_
  rintro e w' ⟨r,g',n',D',ι',u,rfl,hn,T,S',U',hle,hR⟩
  exact hK r ⟨g',n'⟩ u D' ι' w' hn T S' hR (U'.more fun _ h=>h.elim) (Nat.le_trans (Nat.le_succ _) hle)
 unfold fQ at hv
 split at hv
 ·rename_i f args dO
  rcases hv with⟨r,hP,hn⟩|⟨_,hX⟩|⟨xV,sz,rows,hM,hn⟩
  ·exact close r σ.get (by unfold VS;rw[dO];exact .inl ⟨hP,rfl⟩) hn
  rotate_left
  ·exact close _ _ (by unfold VS;rw[dO];exact .inr ⟨xV,sz,rows,hM,rfl,rfl⟩) hn
  ·have ki:=hc
   rw[dO]at ki
   obtain⟨c,ho,j3,Dv,mO⟩:=Ab ki
   refine Ik f _ (c.args.map a.eval) hX (nv E mO) ?_
   simp only[execOp,ho,resolve,j3,Deferred.ofValue,Act.eval,Sem.run_bind,Sem.run_pure,Result.andThen_ok,invoke,Array.empty_append,Array.append_empty]
   exact jg Dv
 ·rename_i x args dO
  split at hv
  ·rename_i f cD hx
   have u6:tx (cE env x) (args.map (cE env))=some (f,args.map (cE env)++cD):=by rw[hx];rfl
   rcases hv with⟨r,hP,hn⟩|⟨_,hX⟩|⟨xV,sz,rows,hM,hn⟩
   ·exact close r σ.get (by unfold VS;rw[dO];exact⟨f,_,u6,.inl ⟨hP,rfl⟩⟩) hn
   rotate_left
   ·exact close _ _ (by unfold VS;rw[dO];exact⟨f,_,u6,.inr ⟨xV,sz,rows,hM,rfl,rfl⟩⟩) hn
   ·have ki:=hc
    rw[dO]at ki
    obtain⟨c,t,ho,j3,rfl,mO⟩:=rK ki
    obtain⟨first,us,he,Dv,hL⟩:=tA (v:=a.eval (.tmp t)) u6 (E t) (nv E mO)
    refine Ik f _ (first++c.args.map a.eval++us) hX hL ?_
    simp only[execOp,ho,resolve,j3,he,Deferred.ofValue,Sem.run_bind,Sem.run_pure,Result.andThen_ok,invoke]
    exact jg Dv
  ·rename_i f cD hx
   have u6:tx (cE env x) (args.map (cE env))=some (f,cD++args.map (cE env)):=by rw[hx];rfl
   rcases hv with⟨r,hP,hn⟩|⟨_,hX⟩|⟨xV,sz,rows,hM,hn⟩
   ·exact close r σ.get (by unfold VS;rw[dO];exact⟨f,_,u6,.inl ⟨hP,rfl⟩⟩) hn
   rotate_left
   ·exact close _ _ (by unfold VS;rw[dO];exact⟨f,_,u6,.inr ⟨xV,sz,rows,hM,rfl,rfl⟩⟩) hn
   ·have ki:=hc
    rw[dO]at ki
    obtain⟨c,t,ho,j3,rfl,mO⟩:=rK ki
    obtain⟨first,us,he,Dv,hL⟩:=tA (v:=a.eval (.tmp t)) u6 (E t) (nv E mO)
    refine Ik f _ (first++c.args.map a.eval++us) hX hL ?_
    simp only[execOp,ho,resolve,j3,he,Deferred.ofValue,Sem.run_bind,Sem.run_pure,Result.andThen_ok,invoke]
    exact jg Dv
  ·exact hv.elim
 ·rename_i m x y dO
  split at hv
  ·rename_i v' g' he
   exact close v' g' (by unfold VS;rw[dO];rw[dO]at he;exact he) hv
  ·exact hv.elim
 ·rename_i m x y dO
  split at hv
  ·rename_i v' g' he
   exact close v' g' (by unfold VS;rw[dO];rw[dO]at he;exact he) hv
  ·exact hv.elim
 ·rename_i m x y dO
  split at hv
  ·rename_i v' g' he
   exact close v' g' (by unfold VS;rw[dO];rw[dO]at he;exact he) hv
  ·exact hv.elim
 ·rename_i m x dO
  split at hv
  ·rename_i v' g' he
   exact close v' g' (by unfold VS;rw[dO];rw[dO]at he;exact he) hv
  ·exact hv.elim
 ·rename_i m x dO
  split at hv
  ·rename_i v' g' he
   exact close v' g' (by unfold VS;rw[dO];rw[dO]at he;exact he) hv
  ·exact hv.elim
 ·rename_i n1 n2 n3 n4 n5 n6 n7
  split at hv
  ·rename_i v' r hq
   refine close v' (bY σ.get ⟨vo.site,σ.next⟩ r) ?_ hv
   unfold VS
   split
   ·rename_i h;exact(n1 _ _ h).elim
   ·rename_i h;exact(n2 _ _ h).elim
   ·rename_i h;exact(n3 _ _ _ h).elim
   ·rename_i h;exact(n4 _ _ _ h).elim
   ·rename_i h;exact(n5 _ _ _ h).elim
   ·rename_i h;exact(n6 _ _ h).elim
   ·rename_i h;exact(n7 _ _ h).elim
   ·exact⟨some r,hq,rfl⟩
  ·rename_i v' hq
   refine close v' σ.get ?_ hv
   unfold VS
   split
   ·rename_i h;exact(n1 _ _ h).elim
   ·rename_i h;exact(n2 _ _ h).elim
   ·rename_i h;exact(n3 _ _ _ h).elim
   ·rename_i h;exact(n4 _ _ _ h).elim
   ·rename_i h;exact(n5 _ _ _ h).elim
   ·rename_i h;exact(n6 _ _ h).elim
   ·rename_i h;exact(n7 _ _ h).elim
   ·exact⟨none,hq,rfl⟩
  ·exact hv.elim
structure St (P:Program) (hs nt:Nat) (D:Nat->Prop) (ι:Names) (env:Env) (σ:ax) (a:Act) (w:World):Prop where
 Jp:ga P hs D ι σ.get w
 used:Used ι σ.next (fun _=>False)
 env:bI P w D ι env a
 size:a.tmps.size=nt
theorem Cv (rest:List Oper) {ops:Array Oper} {nt site0:Nat} {draw mk:Bool} {bs:Array Nat} {hidden:List (Nat×Bool)} {K:Env->ax->Prop} {Q:Exit->Act->World->Prop}:∀(l:List Oper) (vl:List bl) (j:Nat) (env:Env) (σ:ax) (a:Act) (w:World) (D:Nat->Prop) (ι:Names) (U:Nat->Prop),
  allM (lH P ops nt site0 draw mk bs hidden) l j=some vl->wpOps (Sound P) draw vl K env σ->ga P hs D ι σ.get w->Used ι σ.next U->(∀s,U s->s<site0+j)->bI P w D ι env a->a.tmps.size=nt->
  (∀hZ σ' a' w' D' ι',K hZ σ'->Step hs D ι w D' ι' w'->St P hs nt D' ι' hZ σ' a' w'->a'.defers=a.defers->σ.next<=σ'.next->wpList P ops Q rest a' w')->wpList P ops Q (l++rest) a w:=by
 intro l
 induction l with
 |nil=>
  intro vl j env σ a w D ι U h hv S Us _ E fh hQ
  simp[allM]at h;subst h
  exact hQ env ⟨σ.get,σ.next+1⟩ a w D ι hv (Step.refl _ _ _ _) ⟨S,Us.next,E,fh⟩ rfl (Nat.le_succ _)
 |cons o l ih=>
  intro vl j env σ a w D ι U h hv S Us hU E fh hQ
  simp only[allM,Option.bind_eq_bind,Option.bind_eq_some_iff,Option.pure_def,Option.some.injEq]at h
  obtain⟨vo,oP,rW,qZ,rfl⟩:=h
  obtain⟨hc,hd,z6,vq,hg⟩:=oe oP
  have hw:=rX (ops:=ops) (vo:=vo) E hg
  unfold wpOps at hv
  show wpList P ops Q (o::(l++rest)) a w
  unfold wpList
  rw[<-hw]
  split at hv
  ·rename_i E0
   rw[if_pos E0]
   refine .inl (w9 hc hv S Us (fun h=>by have:=hU _ h;omega) E fun v σ' u D' ι' w' hn T S' hR U' hle=>?_)
   refine ih rW (j+1) (upd env vo.dst v) σ' (a.put o.dst u) w' D' ι' _ qZ hn S' U' (fun s z3=>by
    rcases z3 with h|h
    ·have:=hU _ h;omega
    ·omega) (by rw[hd];exact l9 (nE E T) hR vq fh) (by rw[kr];exact fh) fun hZ σ2 a' w2 D2 ι2 hk T2 OW BS me=>hQ hZ σ2 a' w2 D2 ι2 hk (T.trans T2) OW (BS.trans (put_defers _ _ _)) (Nat.le_trans hle me)
  ·rename_i E0
   rw[if_neg E0]
   refine ih rW (j+1) (upd env vo.dst .undef) σ (a.put o.dst undef) w D ι U qZ hv S Us (fun s z3=>by have:=hU _ z3;omega) (by rw[hd];exact l9 E cG.undef vq fh) (by rw[kr];exact fh) fun hZ σ2 a' w2 D2 ι2 hk T2 OW BS me=>hQ hZ σ2 a' w2 D2 ι2 hk T2 OW (BS.trans (put_defers _ _ _)) me
theorem FD {ops:Array Oper} {nt site0:Nat} {draw mk:Bool} {bs:Array Nat} {hidden:List (Nat×Bool)} {K:Env->ax->Prop} {Q:Exit->Act->World->Prop}:∀(l:List Oper) (vl:List bl) (j:Nat) (env:Env) (σ:ax) (a:Act) (w:World) (D:Nat->Prop) (ι:Names) (U:Nat->Prop),
  allM (lH P ops nt site0 draw mk bs hidden) l j=some vl->wpOps (Sound P) draw vl K env σ->ga P hs D ι σ.get w->Used ι σ.next U->(∀s,U s->s<site0+j)->bI P w D ι env a->a.tmps.size=nt->
  (∀hZ σ' a' w' D' ι',K hZ σ'->Step hs D ι w D' ι' w'->St P hs nt D' ι' hZ σ' a' w'->a'.defers=a.defers->σ.next<=σ'.next->Q .normal a' w')->wpList P ops Q l a w:=fun l vl j env σ a w D ι U h hv S Us hU E fh hQ=>by
 have:=Cv [] l vl j env σ a w D ι U h hv S Us hU E fh hQ
 rwa [List.append_nil]at this
end
end Go.Proofs.YtihgaadadaekmaaGreatDoor.V

namespace Go.Proofs.YtihgaadadaekmaaGreatDoor.V
open Go.RowKit
variable {P:Program} {w w':World} {D D' D2:Nat->Prop} {ι ι' ι2:Names}
section
variable {hs:Nat} {X:fx}
theorem aW {env iA:Env} {x:O} (h:∀t∈gw x,env t=iA t):cE env x=cE iA x:=by
 cases x with
 |t n=>exact h n (by simp[gw])
 |_=>rfl
theorem map_congr {env iA:Env} {l:List O} (h:∀t∈l.flatMap gw,env t=iA t):l.map (cE env)=l.map (cE iA):=
 List.map_congr_left fun x hx=>aW fun t ht=>h t (List.mem_flatMap.2 ⟨x,hx,ht⟩)
theorem ow {env iA:Env} {x:Option O} (h:∀t∈uz x,env t=iA t):x.map (cE env)=x.map (cE iA):=by
 cases x with
 |none=>rfl
 |some y=>simp only[Option.map_some];rw[aW h]
theorem rP {env iA:Env} {o:fS} {g:Rows} {id:Id} (h:∀t∈o.fZ,env t=iA t):eM o (cE env) g id=eM o (cE iA) g id:=by
 cases o<;>simp only[fS.fZ,List.mem_append]at h<;>simp only[eM]
 case db x=>rw[aW h]
 case pick c a b=>rw[aW (x:=c) fun t ht=>h t (.inl (.inl ht)),aW (x:=a) fun t ht=>h t (.inl (.inr ht)),aW (x:=b) fun t ht=>h t (.inr ht)]
 case box x=>rw[aW h]
 case build z ps=>
  have:(ps.map fun(x:Nat×Nat×O)=>(x.1,x.2.1,cE env x.2.2))=ps.map fun(x:Nat×Nat×O)=>(x.1,x.2.1,cE iA x.2.2):=List.map_congr_left fun x hx=>by
   rw[aW (x:=x.2.2) fun t ht=>h t (List.mem_flatMap.2 ⟨x,hx,ht⟩)]
  rw[this]
 case l8 a b l=>rw[map_congr h]
 case load a n x=>rw[aW h]
 case zl x=>rw[aW h]
 case bin a b x y=>rw[aW (x:=x) fun t ht=>h t (.inl ht),aW (x:=y) fun t ht=>h t (.inr ht)]
 case sh a x y=>rw[aW (x:=x) fun t ht=>h t (.inl ht),aW (x:=y) fun t ht=>h t (.inr ht)]
 case JC a x y=>rw[aW (x:=x) fun t ht=>h t (.inl ht),aW (x:=y) fun t ht=>h t (.inr ht)]
 case Mh a b x y=>rw[aW (x:=x) fun t ht=>h t (.inl ht),aW (x:=y) fun t ht=>h t (.inr ht)]
 case QV a b x y=>rw[aW (x:=x) fun t ht=>h t (.inl ht),aW (x:=y) fun t ht=>h t (.inr ht)]
 case Pa a b x=>rw[aW h]
 case QW a x=>rw[aW h]
 case not x=>rw[aW h]
 case neg x=>rw[aW h]
 case conv k x=>rw[aW h]
 case Dd x=>rw[aW h]
 case slice s x lo hi=>rw[aW (x:=x) fun t ht=>h t (.inl (.inl ht)),ow (x:=lo) fun t ht=>h t (.inl (.inr ht)),ow (x:=hi) fun t ht=>h t (.inr ht)]
 case yy x lo hi=>rw[aW (x:=x) fun t ht=>h t (.inl (.inl ht)),ow (x:=lo) fun t ht=>h t (.inl (.inr ht)),ow (x:=hi) fun t ht=>h t (.inr ht)]
 case fG k x=>rw[aW h]
 case field a b c x=>rw[aW h]
 case dy s x y=>rw[aW (x:=x) fun t ht=>h t (.inl ht),aW (x:=y) fun t ht=>h t (.inr ht)]
 case Ke n s x y=>rw[aW (x:=x) fun t ht=>h t (.inl ht),aW (x:=y) fun t ht=>h t (.inr ht)]
 case Kg x y=>rw[aW (x:=x) fun t ht=>h t (.inl ht),aW (x:=y) fun t ht=>h t (.inr ht)]
 case fX a b c x y=>rw[aW (x:=x) fun t ht=>h t (.inl ht),aW (x:=y) fun t ht=>h t (.inr ht)]
 case extract i x=>rw[aW h]
 case len x=>rw[aW h]
 case Kq x=>rw[aW h]
 case H7 x=>rw[aW h]
 case HP x=>rw[aW h]
 case Kx f l=>rw[map_congr h]
 case Ky f l=>rw[map_congr h]
 case mq f l=>rw[map_congr h]
 case jB z x y=>rw[aW (x:=x) fun t ht=>h t (.inl ht),aW (x:=y) fun t ht=>h t (.inr ht)]
theorem gD {env iA:Env} {o:fS} {g:Rows} {id:Id} (h:∀t∈o.fZ,env t=iA t):gi o (cE env) g id=gi o (cE iA) g id:=by
 cases o<;>simp only[fS.fZ,List.mem_append]at h<;>simp only[gi]
 case clear z x=>rw[aW h]
 case mw f l=>rw[map_congr h]
 all_goals rename_i a x y
 all_goals rw[aW (x:=x) fun t ht=>h t (.inl ht),aW (x:=y) fun t ht=>h t (.inr ht)]
theorem GG {n:Nat} {vo:bl} {env iA:Env} {g g':Rows} {v:AV} (h:∀t∈vo.op.fZ,env t=iA t) (hv:VS X n vo env g v g'):VS X n vo iA g v g':=by
 unfold VS at hv ⊢
 split at hv
 ·rename_i f args dO
  rw[dO]at h
  simp only[fS.fZ]at h
  rw[<-map_congr h];exact hv
 ·rename_i x args dO
  rw[dO]at h
  simp only[fS.fZ,List.mem_append]at h
  rw[<-map_congr (l:=args) fun t ht=>h t (.inr ht),<-aW (x:=x) fun t ht=>h t (.inl ht)];exact hv
 ·rw[<-gD h];exact hv
 ·rw[<-gD h];exact hv
 ·rw[<-gD h];exact hv
 ·rw[<-gD h];exact hv
 ·rw[<-gD h];exact hv
 ·rw[<-rP h];exact hv
theorem Cn {q:MQ} {vs:List AV} {g:Rows} {id:Id} {v:AV} {r:Row} (h:bF q vs g id=some (v,some r)):∃m,q=.new m:=by
 unfold bF at h
 split at h
 ·exact⟨_,rfl⟩
 ·simp[Option.bind_eq_some_iff]at h
 ·simp at h
 ·cases h
theorem uB {o:fS} {ρ:O->AV} {g:Rows} {id:Id} {v:AV} {r:Row} (h:eM o ρ g id=some (v,some r)):pD o=true:=by
 cases o<;>simp only[eM]at h<;>(try rfl)<;>(try simp at h)
 case mq q xs=>obtain⟨m,rfl⟩:=Cn h;rfl
 all_goals (try(split at h<;>simp at h))
theorem uC {o:fS} {ρ:O->AV} {g g2:Rows} {id id2:Id} (h:o.cls=.pure):eM o ρ g id=eM o ρ g2 id2:=by
 cases o<;>(try simp[fS.cls]at h)<;>(try simp only[eM])
 case mq q xs=>cases q<;>simp[fS.cls]at h
theorem tr {n:Nat} {vo:bl} {env:Env} {g g':Rows} {v:AV} (hw:vo.op.cls≠.write) (hv:VS X n vo env g v g'):∃mr,g'=iQ g ⟨vo.site,n⟩ mr/\(mr≠none->vo.makes=true)/\∀g0,gh vo.hid n g0=gh vo.hid n g->VS X n vo env g0 v (iQ g0 ⟨vo.site,n⟩ mr):=by
 unfold VS at hv
 split at hv
 ·rename_i f args dO
  rcases hv with⟨h1,rfl⟩|⟨hs,sz,rows,hM,rfl,rfl⟩
  ·refine⟨none,rfl,fun h=>(h rfl).elim,fun g0 h0=>?_⟩
   unfold VS;rw[dO];simp only;unfold tz;rw[h0];exact .inl ⟨h1,rfl⟩
  ·refine⟨some _,rfl,fun _=>by unfold bl.makes;rw[dO,hs];simp[fS.lj],fun g0 h0=>?_⟩
   unfold VS;rw[dO];simp only;unfold tz;rw[h0];exact .inr ⟨hs,sz,rows,hM,rfl,rfl⟩
 ·rename_i x args dO
  obtain⟨f,cD,hx,hv⟩:=hv
  rcases hv with⟨h1,rfl⟩|⟨hs,sz,rows,hM,rfl,rfl⟩
  ·refine⟨none,rfl,fun h=>(h rfl).elim,fun g0 h0=>?_⟩
   unfold VS;rw[dO];simp only;unfold tz;rw[h0];exact⟨f,cD,hx,.inl ⟨h1,rfl⟩⟩
  ·refine⟨some _,rfl,fun _=>by unfold bl.makes;rw[dO,hs];simp[fS.lj],fun g0 h0=>?_⟩
   unfold VS;rw[dO];simp only;unfold tz;rw[h0];exact⟨f,cD,hx,.inr ⟨hs,sz,rows,hM,rfl,rfl⟩⟩
 ·rename_i dO;rw[dO]at hw;exact(hw rfl).elim
 ·rename_i dO;rw[dO]at hw;exact(hw rfl).elim
 ·rename_i dO;rw[dO]at hw;exact(hw rfl).elim
 ·rename_i dO;rw[dO]at hw;exact(hw rfl).elim
 ·rename_i dO;rw[dO]at hw;exact(hw rfl).elim
 ·rename_i n1 n2 n3 n4 n5 n6 n7
  obtain⟨mr,hq,rfl⟩:=hv
  refine⟨mr,rfl,fun h=>?_,fun g0 h0=>?_⟩
  ·cases mr with
   |none=>exact(h rfl).elim
   |some r=>unfold bl.makes;rw[uB hq];rfl
  ·unfold VS
   split
   ·rename_i hh;exact(n1 _ _ hh).elim
   ·rename_i hh;exact(n2 _ _ hh).elim
   ·rename_i hh;exact(n3 _ _ _ hh).elim
   ·rename_i hh;exact(n4 _ _ _ hh).elim
   ·rename_i hh;exact(n5 _ _ _ hh).elim
   ·rename_i hh;exact(n6 _ _ hh).elim
   ·rename_i hh;exact(n7 _ _ hh).elim
   ·rw[h0];exact⟨mr,hq,rfl⟩
theorem xi {n:Nat} {vo:bl} {env:Env} {g g':Rows} {v:AV} (hp:vo.op.cls=.pure) (hv:VS X n vo env g v g'):g'=g/\∀g0,VS X n vo env g0 v g0:=by
 unfold VS at hv
 split at hv
 ·rename_i dO;rw[dO]at hp;simp[fS.cls]at hp
 ·rename_i dO;rw[dO]at hp;simp[fS.cls]at hp
 ·rename_i dO;rw[dO]at hp;simp[fS.cls]at hp
 ·rename_i dO;rw[dO]at hp;simp[fS.cls]at hp
 ·rename_i dO;rw[dO]at hp;simp[fS.cls]at hp
 ·rename_i dO;rw[dO]at hp;simp[fS.cls]at hp
 ·rename_i dO;rw[dO]at hp;simp[fS.cls]at hp
 ·rename_i n1 n2 n3 n4 n5 n6 n7
  obtain⟨mr,hq,rfl⟩:=hv
  have SL:mr=none:=by
   cases mr with
   |none=>rfl
   |some r=>have:=uB hq;simp[pD,hp]at this
  subst SL
  refine⟨rfl,fun g0=>?_⟩
  unfold VS
  split
  ·rename_i hh;exact(n1 _ _ hh).elim
  ·rename_i hh;exact(n2 _ _ hh).elim
  ·rename_i hh;exact(n3 _ _ _ hh).elim
  ·rename_i hh;exact(n4 _ _ _ hh).elim
  ·rename_i hh;exact(n5 _ _ _ hh).elim
  ·rename_i hh;exact(n6 _ _ hh).elim
  ·rename_i hh;exact(n7 _ _ hh).elim
  ·exact⟨none,by rw[uC hp];exact hq,rfl⟩
def GS (X:fx) (n:Nat) (vo:bl) (env:Env) (g:Rows) (v:AV) (g':Rows):Prop:=
 if aM vo.guard env then VS X n vo env g v g' else v=.undef/\g'=g
theorem AR {hid:List Nat} {g:Rows} {s n:Nat} {mr:Option Row} (h:mr≠none->hid.contains s=true):gh hid n (iQ g ⟨s,n⟩ mr)=gh hid n g:=by
 cases mr with
 |none=>rfl
 |some r=>
  have hc:=h (by simp)
  cases hid with
  |nil=>simp at hc
  |cons a l=>
   funext i
   show(if (a::l).contains i.site=true/\i.cq=n then none else iQ g ⟨s,n⟩ (some r) i)=if (a::l).contains i.site=true/\i.cq=n then none else g i
   by_cases hi:i=⟨s,n⟩
   ·subst hi;rw[if_pos ⟨hc,rfl⟩,if_pos ⟨hc,rfl⟩]
   ·simp only[iQ,bY,if_neg hi]
theorem En {g:Rows} {i j:Id} (h:i≠j) (m1 m2:Option Row):iQ (iQ g i m1) j m2=iQ (iQ g j m2) i m1:=by
 cases m1<;>cases m2<;>simp only[iQ]
 funext k
 simp only[bY]
 by_cases h1:k=i
 ·subst h1;rw[if_neg h,if_pos rfl];simp
 ·by_cases h2:k=j
  ·subst h2;simp[h1]
  ·simp[h1,h2]
theorem uW {env:Env} {d e:Option Nat} {v u:AV} (h:∀k,d=some k->e≠some k):upd (upd env d v) e u=upd (upd env e u) d v:=by
 cases d with
 |none=>rfl
 |some d=>
  cases e with
  |none=>rfl
  |some e=>
   have gY:d≠e:=fun he=>h d rfl (by rw[he])
   funext t
   simp only[upd]
   by_cases h1:t=d
   ·subst h1;rw[if_neg gY,if_pos rfl,if_pos rfl]
   ·by_cases h2:t=e
    ·subst h2;rw[if_pos rfl,if_neg h1,if_pos rfl]
    ·simp[h1,h2]
theorem lV {env:Env} {d:Option Nat} {v:AV} {l:List Nat} (h:∀k,d=some k->k∉l):∀t∈l,upd env d v t=env t:=by
 intro t ht
 cases d with
 |none=>rfl
 |some d=>
  have:t≠d:=fun he=>h d rfl (he▸ht)
  simp[upd,this]
structure A7 (x y:bl):Prop where
 xy:∀k,x.dst=some k->k∉y.fZ
 yx:∀k,y.dst=some k->k∉x.fZ
 dst:∀k,x.dst=some k->y.dst≠some k
 cls:clash x.op.cls y.op.cls=false
 hx:x.makes=true->y.hid.contains x.site=true
 hy:y.makes=true->x.hid.contains y.site=true
 site:x.site≠y.site
theorem A7.symm {x y:bl} (h:A7 x y):A7 y x:=
 ⟨h.yx,h.xy,fun k hk he=>h.dst k he hk,by have:=h.cls;revert this;cases x.op.cls<;>cases y.op.cls<;>simp[clash],h.hy,h.hx,fun e=>h.site e.symm⟩
theorem pr {x y:bl} (h:Dn x y=true):A7 x y:=by
 unfold Dn at h
 simp only[Bool.and_eq_true,Bool.not_eq_true',Bool.or_eq_true,bne_iff_ne]at h
 obtain⟨⟨⟨⟨h1,h2⟩,h3⟩,h4⟩,h5⟩:=h
 unfold rV at h1
 simp only[Bool.and_eq_true]at h1
 obtain⟨a1,a2⟩:=h1
 refine⟨fun k hk=>?_,fun k hk=>?_,fun k hk=>?_,h2,fun hm=>?_,fun hm=>?_,h5⟩
 ·rw[hk]at a1;simp at a1;exact a1.1
 ·rw[hk]at a2;simpa using a2
 ·rw[hk]at a1;simp at a1;exact a1.2
 ·rcases h3 with h3|h3
  ·rw[hm]at h3;cases h3
  ·exact h3
 ·rcases h4 with h4|h4
  ·rw[hm]at h4;cases h4
  ·exact h4
theorem qJ {vo:bl} {t:Nat} (h:t∈vo.op.fZ):t∈vo.fZ:=List.mem_append_left _ h
theorem mA {vo:bl} {env iA:Env} (h:∀t∈vo.fZ,env t=iA t):aM vo.guard env=aM vo.guard iA:=by
 unfold aM
 cases hg:vo.guard with
 |none=>rfl
 |some p=>
  obtain⟨t,b⟩:=p
  have:env t=iA t:=h t (List.mem_append_right _ (by rw[hg];simp))
  simp only[this]
theorem tj {n:Nat} {vo:bl} {env iA:Env} {g g':Rows} {v:AV} (h:∀t∈vo.fZ,env t=iA t) (hv:GS X n vo env g v g'):GS X n vo iA g v g':=by
 unfold GS at hv ⊢
 rw[<-mA h]
 split at hv
 ·rename_i hw;rw[if_pos hw];exact GG (fun t ht=>h t (qJ ht)) hv
 ·rename_i hw;rw[if_neg hw];exact hv
theorem CZ {n:Nat} {x y:bl} {env:Env} {g g1 g2:Rows} {v v':AV} (F:A7 x y) (h1:GS X n x env g v g1) (h2:GS X n y (upd env x.dst v) g1 v' g2):
  ∃JJ,GS X n y env g v' JJ/\GS X n x (upd env y.dst v') JJ v g2/\upd (upd env x.dst v) y.dst v'=upd (upd env y.dst v') x.dst v:=by
 have Jo:=uW (env:=env) (v:=v) (u:=v') F.dst
 replace h2:GS X n y env g1 v' g2:=tj (lV F.xy) h2
 have back:∀{JJ},GS X n x env JJ v g2->GS X n x (upd env y.dst v') JJ v g2:=fun h=>tj (fun t ht=>(lV F.yx t ht).symm) h
 unfold GS at h1 h2
 by_cases wx:aM x.guard env=true
 ·rw[if_pos wx]at h1
  by_cases wy:aM y.guard env=true
  ·rw[if_pos wy]at h2
   by_cases cx:x.op.cls=.write
   ·have cy:y.op.cls=.pure:=by
     have:=F.cls;rw[cx]at this
     cases hc:y.op.cls<;>simp[clash,hc]at this ⊢
    obtain⟨rfl,dk⟩:=xi cy h2
    exact⟨g,by unfold GS;rw[if_pos wy];exact dk g,back (by unfold GS;rw[if_pos wx];exact h1),Jo⟩
   ·by_cases cy:y.op.cls=.write
    ·have cx':x.op.cls=.pure:=by
      have:=F.cls;rw[cy]at this
      cases hc:x.op.cls<;>simp[clash,hc]at this ⊢
     obtain⟨rfl,dk⟩:=xi cx' h1
     exact⟨g2,by unfold GS;rw[if_pos wy];exact h2,back (by unfold GS;rw[if_pos wx];exact dk g2),Jo⟩
    ·obtain⟨mx,rfl,kx,RE⟩:=tr cx h1
     obtain⟨my,rfl,ky,L1⟩:=tr cy h2
     have gY:(⟨x.site,n⟩:Id)≠⟨y.site,n⟩:=fun e=>F.site (by injection e)
     refine⟨iQ g ⟨y.site,n⟩ my,?_,back ?_,Jo⟩
     ·unfold GS;rw[if_pos wy]
      exact L1 g (AR fun h=>F.hx (kx h)).symm
     ·unfold GS;rw[if_pos wx,En gY]
      exact RE _ (AR fun h=>F.hy (ky h))
  ·rw[if_neg wy]at h2
   obtain⟨rfl,rfl⟩:=h2
   exact⟨g,by unfold GS;rw[if_neg wy];exact⟨rfl,rfl⟩,back (by unfold GS;rw[if_pos wx];exact h1),Jo⟩
 ·rw[if_neg wx]at h1
  obtain⟨rfl,rfl⟩:=h1
  exact⟨g2,h2,back (by unfold GS;rw[if_neg wx];exact⟨rfl,rfl⟩),Jo⟩
end
end Go.Proofs.YtihgaadadaekmaaGreatDoor.V

namespace Go.Proofs.YtihgaadadaekmaaGreatDoor.V
open Go.RowKit
variable {P:Program} {w w':World} {D D' D2:Nat->Prop} {ι ι' ι2:Names}
section
variable {hs:Nat} {X:fx}
def iR (acc:Array Nat) (o:Oper):Nat:=o.after.foldl (fun s e=>if Region.binds .any e then s|||2 ^ e.on|||acc.getD e.on 0 else s) 0
theorem Jy (ops:Array Oper):jj ops=ops.foldl (fun acc o=>acc.push (iR acc o)) #[]:=rfl
theorem zf {acc:Array Nat} {o:Oper} {i:Nat} (h:(iR acc o).testBit i=true):∃e∈o.after,Region.binds .any e=true/\(e.on=i∨(acc.getD e.on 0).testBit i=true):=by
 unfold iR at h
 rw[<-Array.foldl_toList]at h
 have gen:∀(l:List Edge) (s:Nat),(l.foldl (fun s e=>if Region.binds .any e then s|||2 ^ e.on|||acc.getD e.on 0 else s) s).testBit i=true->s.testBit i=true∨∃e∈l,Region.binds .any e=true/\(e.on=i∨(acc.getD e.on 0).testBit i=true):=by
  intro l
  induction l with
  |nil=>intro s h;exact .inl h
  |cons e r ih=>
   intro s h
   rw[List.foldl_cons]at h
   rcases ih _ h with h|⟨e',JQ,h'⟩
   ·by_cases hb:Region.binds .any e=true
    ·rw[if_pos hb]at h
     simp only[Nat.testBit_or,Bool.or_eq_true]at h
     rcases h with(h|h)|h
     ·exact .inl h
     ·refine .inr ⟨e,by simp,hb,.inl ?_⟩
      rw[Nat.testBit_two_pow]at h
      simpa using h
     ·exact .inr ⟨e,by simp,hb,.inr h⟩
    ·rw[if_neg hb]at h;exact .inl h
   ·exact .inr ⟨e',List.mem_cons_of_mem _ JQ,h'⟩
 rcases gen _ _ h with h|⟨e,he,h⟩
 ·simp at h
 ·exact⟨e,Array.mem_toList_iff.1 he,h⟩
theorem GP {ops:Array Oper} {j i:Nat} (h:((jj ops).getD j 0).testBit i=true):∃o,ops[j]? =some o/\∃e∈o.after,Region.binds .any e=true/\(e.on=i∨((jj ops).getD e.on 0).testBit i=true):=by
 have key:∀(l pre:List Oper) (acc:Array Nat),acc.size=pre.length->(∀j i,(acc.getD j 0).testBit i=true->∃o,pre[j]? =some o/\∃e∈o.after,Region.binds .any e=true/\(e.on=i∨(acc.getD e.on 0).testBit i=true))->
   ∀j i,((l.foldl (fun acc o=>acc.push (iR acc o)) acc).getD j 0).testBit i=true->∃o,(pre++l)[j]? =some o/\∃e∈o.after,Region.binds .any e=true/\(e.on=i∨((l.foldl (fun acc o=>acc.push (iR acc o)) acc).getD e.on 0).testBit i=true):=by
  intro l
  induction l with
  |nil=>intro pre acc _ h j i hb;simpa using h j i hb
  |cons o r ih=>
   intro pre acc fh h j i hb
   have Ax:∀k,k<acc.size->(acc.push (iR acc o)).getD k 0=acc.getD k 0:=fun k hk=>by
    simp only[Array.getD_eq_getD_getElem?,Array.getElem?_push]
    rw[if_neg ab]
   have big:∀k,acc.size<=k->acc.getD k 0=0:=fun k hk=>by simp[Array.getElem?_eq_none hk]
   have lift:∀k i,(acc.getD k 0).testBit i=true->((acc.push (iR acc o)).getD k 0).testBit i=true:=fun k i hk=>by
    by_cases dD:k<acc.size
    ·rw[Ax k dD];exact hk
    ·rw[big k ab]at hk;simp at hk
   have:=ih (pre++[o]) (acc.push (iR acc o)) (by simp[fh]) (fun j i hb=>by
    by_cases dD:j<acc.size
    ·rw[Ax j dD]at hb
     obtain⟨o',Dy,e,he,fC,h2⟩:=h j i hb
     refine⟨o',by rw[List.getElem?_append_left ab];exact Dy,e,he,fC,?_⟩
     rcases h2 with h2|h2
     ·exact .inl h2
     ·exact .inr (lift _ _ h2)
    ·by_cases hj:j=acc.size
     ·subst hj
      have e0:(acc.push (iR acc o)).getD acc.size 0=iR acc o:=by simp
      rw[e0]at hb
      obtain⟨e,he,fC,h2⟩:=zf hb
      refine⟨o,by rw[List.getElem?_append_right ab,fh];simp,e,he,fC,?_⟩
      rcases h2 with h2|h2
      ·exact .inl h2
      ·exact .inr (lift _ _ h2)
     ·have:(acc.push (iR acc o)).getD j 0=0:=by
       simp only[Array.getD_eq_getD_getElem?]
       rw[Array.getElem?_eq_none (by simp;omega)];rfl
      rw[this]at hb;simp at hb) j i (by simpa using hb)
   simpa using this
 rw[Jy,<-Array.foldl_toList]at h ⊢
 have:=key ops.toList [] #[] rfl (fun j i h=>by simp at h) j i h
 simpa using this
def DC (ops:Array Oper) (listed:Array Bool):Prop:=∀k i,listed.getD k false=true->((jj ops).getD k 0).testBit i=true->listed.getD i false=true
theorem kz {ops:Array Oper} {listed:Array Bool} (h:DC ops listed) {j:Nat} (hj:j∈Region.ready .any ops listed):∀i,((jj ops).getD j 0).testBit i=true->listed.getD i false=true:=by
 intro i hb
 obtain⟨_,o,ho,dk⟩:=mem_ready.1 hj
 obtain⟨o',Dy,e,he,fC,h2⟩:=GP hb
 rw[ho]at Dy;injection Dy with Dy;subst Dy
 have hl:=dk e he fC
 rcases h2 with h2|h2
 ·rw[<-h2];exact hl
 ·exact h _ _ hl h2
theorem DC.list {ops:Array Oper} {listed:Array Bool} (h:DC ops listed) {j:Nat} (hj:j∈Region.ready .any ops listed):DC ops (listed.setIfInBounds j true):=by
 intro k i hk hb
 by_cases hkj:k=j
 ·subst hkj;exact getD_set_true (kz h hj i hb)
 ·rw[getD_set_ne false (fun e=>hkj e.symm)]at hk
  exact getD_set_true (h k i hk hb)
theorem iJ {ops:Array Oper} {listed:Array Bool} {j:Nat} (hj:j∈Region.ready .any ops listed):listed.getD j false=false:=by
 have h0:=(mem_ready.1 hj).1
 rcases Nat.lt_or_ge j listed.size with h|h
 ·simp[h]at h0 ⊢;exact h0
 ·simp[Array.getElem?_eq_none h]at h0
def IY (X:fx) (n:Nat) (ops:Array Oper) (vl:List bl) (K:Env->Rows->Prop):Nat->Array Bool->Env->Rows->Prop
 |0,listed,env,g=>Region.ready .any ops listed=[]/\K env g
 |f+1,listed,env,g=>(Region.ready .any ops listed=[]->K env g)/\∀i∈Region.ready .any ops listed,∃vo,vl[i]? =some vo/\∃v g',GS X n vo env g v g'/\IY X n ops vl K f (listed.setIfInBounds i true) (upd env vo.dst v) g'
theorem zr {ops:Array Oper} {vl:List bl} (h:nD ops vl (jj ops)=true) {i j:Nat} {x y:bl} (hi:vl[i]? =some x) (hj:vl[j]? =some y) (Re:i≠j) (h1:((jj ops).getD j 0).testBit i=false) (h2:((jj ops).getD i 0).testBit j=false):A7 x y:=by
 unfold nD at h
 simp only[Bool.and_eq_true,List.all_eq_true]at h
 obtain⟨_,h⟩:=h
 have mem:∀(k:Nat) (z:bl),vl[k]? =some z->(z,k)∈vl.zipIdx:=fun k z hk=>by
  rw[List.mem_iff_getElem?]
  exact⟨k,by simp[List.getElem?_zipIdx,hk]⟩
 rcases Nat.lt_or_gt_of_ne Re with dD|JV
 ·have:=h _ (mem j y hj) _ (mem i x hi)
  simp only[dD,decide_true,Bool.not_true,Bool.false_or,h1]at this
  exact pr this
 ·have:=h _ (mem i x hi) _ (mem j y hj)
  simp only[JV,decide_true,Bool.not_true,Bool.false_or,h2]at this
  exact(pr this).symm
theorem CW {n:Nat} {ops:Array Oper} {vl:List bl} {K:Env->Rows->Prop} (ub:nD ops vl (jj ops)=true) (hlen:vl.length=ops.size) {i:Nat} {vi:bl} (hi:vl[i]? =some vi) {v:AV}:∀(fuel:Nat) (listed:Array Bool) (env:Env) (g g1:Rows),
  DC ops listed->i∈Region.ready .any ops listed->GS X n vi env g v g1->IY X n ops vl K fuel (listed.setIfInBounds i true) (upd env vi.dst v) g1->IY X n ops vl K (fuel+1) listed env g:=by
 intro fuel
 induction fuel with
 |zero=>
  intro listed env g g1 _ hr hG H
  refine⟨fun h=>(by rw[h]at hr;cases hr),fun j hj=>?_⟩
  by_cases lW:j=i
  ·subst lW;exact⟨vi,hi,v,g1,hG,H⟩
  ·have:=ready_mono hj lW
   rw[H.1]at this;cases this
 |succ fuel ih=>
  intro listed env g g1 qV hr hG H
  refine⟨fun h=>(by rw[h]at hr;cases hr),fun j hj=>?_⟩
  by_cases lW:j=i
  ·subst lW;exact⟨vi,hi,v,g1,hG,H⟩
  ·obtain⟨vj,Kb,v',g2,hG2,H2⟩:=H.2 j (ready_mono hj lW)
   have b1:((jj ops).getD j 0).testBit i=false:=by
    cases hb:((jj ops).getD j 0).testBit i with
    |false=>rfl
    |true=>have:=kz qV hj i hb;rw[iJ hr]at this;cases this
   have b2:((jj ops).getD i 0).testBit j=false:=by
    cases hb:((jj ops).getD i 0).testBit j with
    |false=>rfl
    |true=>have:=kz qV hr j hb;rw[iJ hj]at this;cases this
   have F:=zr ub hi Kb (fun e=>lW e.symm) b1 b2
   obtain⟨JJ,q1,q2,q3⟩:=CZ F hG hG2
   refine⟨vj,Kb,v',JJ,q1,ih _ _ _ g2 (qV.list hj) (ready_mono hr (fun e=>lW e.symm)) q2 ?_⟩
   rw[<-q3,Array.setIfInBounds_comm _ _ lW]
   exact H2
theorem LW {n:Nat} {vo:bl} {env:Env} {g:Rows} {v:AV} {mr:Option Row} (h:eM vo.op (cE env) (gh vo.hid n g) ⟨vo.site,n⟩=some (v,mr)):VS X n vo env g v (iQ g ⟨vo.site,n⟩ mr):=by
 unfold VS
 split
 ·rename_i dO;rw[dO]at h;simp[eM]at h
 ·rename_i dO;rw[dO]at h;simp[eM]at h
 ·rename_i dO;rw[dO]at h;simp[eM]at h
 ·rename_i dO;rw[dO]at h;simp[eM]at h
 ·rename_i dO;rw[dO]at h;simp[eM]at h
 ·rename_i dO;rw[dO]at h;simp[eM]at h
 ·rename_i dO;rw[dO]at h;simp[eM]at h
 ·exact⟨mr,h,rfl⟩
theorem GH {n:Nat} {vo:bl} {env:Env} {g g':Rows} {v:AV} (h:gi vo.op (cE env) g ⟨vo.site,n⟩=some (v,g')):VS X n vo env g v g':=by
 unfold VS
 split
 ·rename_i dO;rw[dO]at h;simp[gi]at h
 ·rename_i dO;rw[dO]at h;simp[gi]at h
 ·exact h
 ·exact h
 ·exact h
 ·exact h
 ·exact h
 ·rename_i n1 n2 n3 n4 n5 n6 n7
  exfalso
  unfold gi at h
  split at h
  ·rename_i hh;exact n3 _ _ _ hh
  ·rename_i hh;exact n4 _ _ _ hh
  ·rename_i hh;exact n5 _ _ _ hh
  ·rename_i hh;exact n6 _ _ hh
  ·rename_i hh;exact n7 _ _ hh
  ·simp at h
theorem NT {vo:bl} {env:Env} {σ:ax} {next:AV->ax->Prop} (hv:fQ X true vo env σ next):∃v g',VS X σ.next vo env σ.get v g'/\next v ⟨g',σ.next⟩:=by
 unfold fQ at hv
 split at hv
 ·rename_i f args dO
  rcases hv with⟨r,hP,hn⟩|⟨h,_⟩|⟨hs,sz,rows,hM,hn⟩
  ·exact⟨r,σ.get,by unfold VS;rw[dO];exact .inl ⟨hP,rfl⟩,hn⟩
  ·cases h
  ·exact⟨_,_,by unfold VS;rw[dO];exact .inr ⟨hs,sz,rows,hM,rfl,rfl⟩,hn⟩
 ·rename_i x args dO
  split at hv
  ·rename_i f cD hx
   have u6:tx (cE env x) (args.map (cE env))=some (f,args.map (cE env)++cD):=by rw[hx];rfl
   rcases hv with⟨r,hP,hn⟩|⟨h,_⟩|⟨hs,sz,rows,hM,hn⟩
   ·exact⟨r,σ.get,by unfold VS;rw[dO];exact⟨f,_,u6,.inl ⟨hP,rfl⟩⟩,hn⟩
   ·cases h
   ·exact⟨_,_,by unfold VS;rw[dO];exact⟨f,_,u6,.inr ⟨hs,sz,rows,hM,rfl,rfl⟩⟩,hn⟩
  ·rename_i f cD hx
   have u6:tx (cE env x) (args.map (cE env))=some (f,cD++args.map (cE env)):=by rw[hx];rfl
   rcases hv with⟨r,hP,hn⟩|⟨h,_⟩|⟨hs,sz,rows,hM,hn⟩
   ·exact⟨r,σ.get,by unfold VS;rw[dO];exact⟨f,_,u6,.inl ⟨hP,rfl⟩⟩,hn⟩
   ·cases h
   ·exact⟨_,_,by unfold VS;rw[dO];exact⟨f,_,u6,.inr ⟨hs,sz,rows,hM,rfl,rfl⟩⟩,hn⟩
  ·exact hv.elim
 ·split at hv
  ·rename_i v g h;exact⟨v,g,GH h,hv⟩
  ·exact hv.elim
 ·split at hv
  ·rename_i v g h;exact⟨v,g,GH h,hv⟩
  ·exact hv.elim
 ·split at hv
  ·rename_i v g h;exact⟨v,g,GH h,hv⟩
  ·exact hv.elim
 ·split at hv
  ·rename_i v g h;exact⟨v,g,GH h,hv⟩
  ·exact hv.elim
 ·split at hv
  ·rename_i v g h;exact⟨v,g,GH h,hv⟩
  ·exact hv.elim
 ·split at hv
  ·rename_i v r h;exact⟨v,_,LW h,hv⟩
  ·rename_i v h;exact⟨v,_,LW h,hv⟩
  ·exact hv.elim
theorem uX {ops:Array Oper} {vl:List bl} {K:Env->ax->Prop} {n:Nat} (ub:nD ops vl (jj ops)=true) (hlen:vl.length=ops.size):∀(r:List bl) (k:Nat) (listed:Array Bool) (env:Env) (g:Rows),
  (∀j,r[j]? =vl[k+j]?)->listed.size=ops.size->(∀i,i<ops.size->listed[i]? =some (decide (i<k)))->k+r.length=ops.size->DC ops listed->wpOps X true r K env ⟨g,n⟩->IY X n ops vl (fun env g=>K env ⟨g,n+1⟩) r.length listed env g
 |[],k,listed,env,g,_,fh,hl,hk,_,hv=>by
  refine⟨?_,hv⟩
  rw[List.eq_nil_iff_forall_not_mem]
  intro j hj
  obtain⟨h0,o,ho,_⟩:=mem_ready.1 hj
  have dD:j<ops.size:=(Array.getElem?_eq_some_iff.1 ho).1
  have:=hl j dD
  simp at hk
  simp[this,show j<k by omega]at h0
 |vo::r,k,listed,env,g,hr,fh,hl,hk,qV,hv=>by
  simp only[List.length_cons]at hk
  have oP:vl[k]? =some vo:=by simpa using(hr 0).symm
  have lx:k<ops.size:=ab
  have Hy:k∈Region.ready .any ops listed:=by
   rw[mem_ready]
   refine⟨by simp[hl k lx],ops[k],Array.getElem?_eq_getElem lx,fun e he hb=>?_⟩
   unfold nD Dh at ub
   simp only[Bool.and_eq_true,List.all_eq_true]at ub
   have hm:(ops[k],k)∈ops.toList.zipIdx:=by
    rw[List.mem_iff_getElem?]
    exact⟨k,by simp[List.getElem?_zipIdx,lx]⟩
   have:=ub.1 _ hm
   rw[Array.all_eq_true_iff_forall_mem]at this
   have:=this e he
   simp only[hb,Bool.not_true,Bool.false_or,decide_eq_true_eq]at this
   simp[hl e.on ab,this]
  have hGS:∃v g',GS X n vo env g v g'/\wpOps X true r K (upd env vo.dst v) ⟨g',n⟩:=by
   unfold wpOps at hv
   unfold GS
   split at hv
   ·rename_i hw
    simp only[hw,if_true]
    exact NT hv
   ·rename_i hw
    simp only[hw]
    exact⟨.undef,g,⟨rfl,rfl⟩,hv⟩
  obtain⟨v,g',h1,h2⟩:=hGS
  refine CW ub hlen oP r.length listed env g g' qV Hy h1 ?_
  refine uX ub hlen r (k+1) _ _ _ (fun j=>by have:=hr (j+1);simpa[Nat.add_assoc,Nat.add_comm 1 j]using this) (by simp[fh]) (fun i hi=>?_) ab (qV.list Hy) h2
  by_cases wC:i=k
  ·subst wC;simp[fh,lx]
  ·rw[Array.getElem?_setIfInBounds_ne (fun e=>wC e.symm),hl i hi]
   congr 1
   have:(i<k)=(i<k+1):=by apply propext;omega
   simp[this]
theorem nu {f:Nat->Oper->Option bl}:∀{l:List Oper} {vl:List bl} {j:Nat},allM f l j=some vl->vl.length=l.length/\∀(i:Nat) (o:Oper),l[i]? =some o->∃vo,vl[i]? =some vo/\f (j+i) o=some vo
 |[],vl,j,h=>by simp[allM]at h;subst h;simp
 |o::l,vl,j,h=>by
  simp only[allM,Option.bind_eq_bind,Option.bind_eq_some_iff,Option.pure_def,Option.some.injEq]at h
  obtain⟨vo,oP,rW,qZ,rfl⟩:=h
  obtain⟨h1,h2⟩:=nu qZ
  refine⟨by simp[h1],fun i o' hi=>?_⟩
  cases i with
  |zero=>simp at hi;subst hi;exact⟨vo,rfl,oP⟩
  |succ i=>
   simp at hi
   obtain⟨q,hq,hf⟩:=h2 i o' hi
   exact⟨q,by simpa using hq,by rw[<-hf];congr 1;omega⟩
theorem vV {ops:Array Oper} {vl:List bl} {nt site0:Nat} {draw mk:Bool} {bs:Array Nat} {hidden:List (Nat×Bool)} {n:Nat} {K:Env->Rows->Prop} {Q:Exit->Act->World->Prop} (dk:allM (lH P ops nt site0 draw mk bs hidden) ops.toList 0=some vl):
  ∀(fuel:Nat) (listed:Array Bool) (env:Env) (g:Rows) (a:Act) (w:World) (D:Nat->Prop) (ι:Names) (U:Nat->Prop),IY (Sound P) n ops vl K fuel listed env g->ga P hs D ι g w->Used ι n U->(∀s,U s->∃i,s=site0+i/\listed.getD i false=true)->bI P w D ι env a->a.tmps.size=nt->
  (∀hZ g' a' w' D' ι' U',K hZ g'->Step hs D ι w D' ι' w'->ga P hs D' ι' g' w'->Used ι' n U'->bI P w' D' ι' hZ a'->a'.tmps.size=nt->a'.defers=a.defers->Q .normal a' w')->wpAny P .any ops Q fuel listed a w:=by
 intro fuel
 induction fuel with
 |zero=>intro listed env g a w D ι U h S Us hU E fh hQ;exact⟨h.1,hQ env g a w D ι U h.2 (Step.refl _ _ _ _) S Us E fh rfl⟩
 |succ fuel ih=>
  intro listed env g a w D ι U h S Us hU E fh hQ
  refine⟨fun hr=>hQ env g a w D ι U (h.1 hr) (Step.refl _ _ _ _) S Us E fh rfl,fun i hi=>?_⟩
  obtain⟨vo,oP,v,g',hG,ud⟩:=h.2 i hi
  obtain⟨_,o,ho,_⟩:=mem_ready.1 hi
  obtain⟨vo',lK,PK⟩:=(nu dk).2 i o (by simpa using ho)
  rw[oP]at lK;injection lK with lK;subst lK
  rw[Nat.zero_add]at PK
  obtain⟨hc,hd,z6,vq,hg⟩:=oe PK
  have hw:=rX (ops:=ops) (vo:=vo) E hg
  have Sg:¬U vo.site:=fun hu=>by
   obtain⟨i',he,hl⟩:=hU _ hu
   have:i'=i:=ab
   subst this
   rw[iJ hi]at hl;cases hl
  have jk:i<listed.size:=by
   have h0:=(mem_ready.1 hi).1
   rcases Nat.lt_or_ge i listed.size with h|h
   ·exact h
   ·simp[Array.getElem?_eq_none h]at h0
  unfold wpOp
  simp only[ho]
  rw[<-hw]
  unfold GS at hG
  by_cases E0:aM vo.guard env=true
  ·rw[if_pos E0]
   rw[if_pos E0]at hG
   refine .inl (y7 hc hG S Us Sg E fun a' w' ⟨u,D',ι',ha,T,S',hR,U'⟩=>?_)
   subst ha
   refine ih _ _ _ _ w' D' ι' _ ud S' U' (fun s z3=>?_) (by rw[hd];exact l9 (nE E T) hR vq fh) (by rw[kr];exact fh) fun hZ g2 a2 w2 D2 ι2 U2 hk T2 S2 RD E2 k7 BS=>hQ hZ g2 a2 w2 D2 ι2 U2 hk (T.trans T2) S2 RD E2 k7 (BS.trans (put_defers _ _ _))
   rcases z3 with h|h
   ·obtain⟨i',he,hl⟩:=hU _ h
    exact⟨i',he,getD_set_true hl⟩
   ·exact⟨i,by rw[h,z6],by simp[jk]⟩
  ·rw[if_neg E0]
   rw[if_neg E0]at hG
   obtain⟨rfl,rfl⟩:=hG
   refine ih _ _ _ _ w D ι U ud S Us (fun s z3=>?_) (by rw[hd];exact l9 E cG.undef vq fh) (by rw[kr];exact fh) fun hZ g2 a2 w2 D2 ι2 U2 hk T2 S2 RD E2 k7 BS=>hQ hZ g2 a2 w2 D2 ι2 U2 hk T2 S2 RD E2 k7 (BS.trans (put_defers _ _ _))
   obtain⟨i',he,hl⟩:=hU _ z3
   exact⟨i',he,getD_set_true hl⟩
end
end Go.Proofs.YtihgaadadaekmaaGreatDoor.V

namespace Go.Proofs.YtihgaadadaekmaaGreatDoor.V
open Go.RowKit
variable {P:Program} {w w':World} {D D' D2:Nat->Prop} {ι ι' ι2:Names}
section
variable {hs:Nat} {X:fx}
def oR (X:fx):Prop:=∀f args σ K K',(∀r σ',K r σ'->K' r σ')->X f args σ K->X f args σ K'
theorem pb:oR (Sound P):=fun _ _ _ _ _ hK h hs D ι w vs S U A=>
 (h hs D ι w vs S U A).mono fun _ _ ⟨r,g',n',D',ι',u,he,hk,rest⟩=>⟨r,g',n',D',ι',u,he,hK _ _ hk,rest⟩
def step (X:fx) (vo:bl) (N:Env->ax->Prop) (env:Env) (σ:ax):Prop:=
 if aM vo.guard env then fQ X false vo env σ fun v σ'=>N (upd env vo.dst v) σ' else N (upd env vo.dst .undef) σ
theorem pg (hK:oR X) {draw:Bool} {hid:List Nat} {site f:Nat} {args:List AV} {σ:ax} {n n':AV->ax->Prop} (hn:∀v σ',n v σ'->n' v σ') (hp:cF X draw hid site f args σ n):cF X draw hid site f args σ n':=by
 rcases hp with⟨r,h1,h2⟩|⟨h1,h2⟩|⟨h1,sz,rows,h2,h3⟩
 ·exact .inl ⟨r,h1,hn _ _ h2⟩
 ·exact .inr (.inl ⟨h1,hK _ _ _ _ _ hn h2⟩)
 ·exact .inr (.inr ⟨h1,sz,rows,h2,hn _ _ h3⟩)
theorem AS (hK:oR X) {draw:Bool} {o:bl} {env:Env} {σ:ax} {n n':AV->ax->Prop} (hn:∀v σ',n v σ'->n' v σ') (hp:fQ X draw o env σ n):fQ X draw o env σ n':=by
 unfold fQ at hp ⊢
 split at hp
 ·exact pg hK hn hp
 ·split at hp
  ·exact pg hK hn hp
  ·exact pg hK hn hp
  ·exact hp.elim
 ·split at hp
  ·exact hn _ _ hp
  ·exact hp.elim
 ·split at hp
  ·exact hn _ _ hp
  ·exact hp.elim
 ·split at hp
  ·exact hn _ _ hp
  ·exact hp.elim
 ·split at hp
  ·exact hn _ _ hp
  ·exact hp.elim
 ·split at hp
  ·exact hn _ _ hp
  ·exact hp.elim
 ·split at hp
  ·exact hn _ _ hp
  ·exact hn _ _ hp
  ·exact hp.elim
theorem jw (hK:oR X) {vo:bl} {N N':Env->ax->Prop} (h:∀e s,N e s->N' e s) {env:Env} {σ:ax} (hp:step X vo N env σ):step X vo N' env σ:=by
 unfold step at hp ⊢
 split at hp
 ·rename_i hw;rw[if_pos hw];exact AS hK (fun v σ'=>h _ _) hp
 ·rename_i hw;rw[if_neg hw];exact h _ _ hp
theorem F7 {env iA:Env} {vo:bl} {σ:ax} {n:AV->ax->Prop} (h:∀t∈vo.op.fZ,env t=iA t) (hv:fQ X false vo env σ n):fQ X false vo iA σ n:=by
 unfold fQ at hv ⊢
 split at hv
 ·rename_i f args dO
  rw[dO]at h
  simp only[fS.fZ]at h
  rw[<-map_congr h];exact hv
 ·rename_i x args dO
  rw[dO]at h
  simp only[fS.fZ,List.mem_append]at h
  rw[<-map_congr (l:=args) fun t ht=>h t (.inr ht),<-aW (x:=x) fun t ht=>h t (.inl ht)];exact hv
 ·rw[<-gD h];exact hv
 ·rw[<-gD h];exact hv
 ·rw[<-gD h];exact hv
 ·rw[<-gD h];exact hv
 ·rw[<-gD h];exact hv
 ·rw[<-rP h];exact hv
theorem k9 {x:bl} (hq:ku x=true) {N:Env->ax->Prop} {env:Env} {σ:ax}:step X x N env σ↔∃v g',GS X σ.next x env σ.get v g'/\N (upd env x.dst v) ⟨g',σ.next⟩:=by
 unfold ku at hq
 simp only[Bool.and_eq_true,Bool.not_eq_true',bne_iff_ne]at hq
 obtain⟨DD,ot⟩:=hq
 unfold step GS
 by_cases hw:aM x.guard env=true
 ·rw[if_pos hw]
  simp only[hw,if_true]
  unfold fQ
  split
  ·rename_i dO;simp[dO,fS.lj]at DD
  ·rename_i dO;simp[dO,fS.lj]at DD
  ·rename_i dO;simp[dO,fS.cls]at ot
  ·rename_i dO;simp[dO,fS.cls]at ot
  ·rename_i dO;simp[dO,fS.cls]at ot
  ·rename_i dO;simp[dO,fS.cls]at ot
  ·rename_i dO;simp[dO,fS.cls]at ot
  ·rename_i n1 n2 n3 n4 n5 n6 n7
   have hVS:∀v g',VS X σ.next x env σ.get v g'↔∃mr,eM x.op (cE env) (gh x.hid σ.next σ.get) ⟨x.site,σ.next⟩=some (v,mr)/\g'=iQ σ.get ⟨x.site,σ.next⟩ mr:=fun v g'=>by
    unfold VS
    split
    ·rename_i hh;exact(n1 _ _ hh).elim
    ·rename_i hh;exact(n2 _ _ hh).elim
    ·rename_i hh;exact(n3 _ _ _ hh).elim
    ·rename_i hh;exact(n4 _ _ _ hh).elim
    ·rename_i hh;exact(n5 _ _ _ hh).elim
    ·rename_i hh;exact(n6 _ _ hh).elim
    ·rename_i hh;exact(n7 _ _ hh).elim
    ·exact Iff.rfl
   simp only[hVS]
   cases hz:eM x.op (cE env) (gh x.hid σ.next σ.get) ⟨x.site,σ.next⟩with
   |none=>
    exact⟨fun h=>h.elim,fun⟨v,g',⟨mr,h,_⟩,_⟩=>by cases h⟩
   |some p=>
    obtain⟨v,mr⟩:=p
    have key:∀(v':AV) (g':Rows),(∃OR,some (v,mr)=some (v',OR)/\g'=iQ σ.get ⟨x.site,σ.next⟩ OR)↔v'=v/\g'=iQ σ.get ⟨x.site,σ.next⟩ mr:=fun v' g'=>by
     constructor
     ·rintro⟨OR,h1,h2⟩
      injection h1 with h1;injection h1 with h1 h3
      subst h1;subst h3
      exact⟨rfl,h2⟩
     ·rintro⟨rfl,rfl⟩;exact⟨mr,rfl,rfl⟩
    have fin:(∃v' g',(∃OR,some (v,mr)=some (v',OR)/\g'=iQ σ.get ⟨x.site,σ.next⟩ OR)/\N (upd env x.dst v') ⟨g',σ.next⟩)↔N (upd env x.dst v) ⟨iQ σ.get ⟨x.site,σ.next⟩ mr,σ.next⟩:=by
     constructor
     ·rintro⟨v',g',h,hN⟩
      obtain⟨rfl,rfl⟩:=(key v' g').1 h
      exact hN
     ·intro hN;exact⟨v,_,(key _ _).2 ⟨rfl,rfl⟩,hN⟩
    cases mr with
    |none=>exact fin.symm
    |some r=>exact fin.symm
 ·rw[if_neg hw]
  simp only[if_neg hw]
  exact⟨fun h=>⟨_,_,⟨rfl,rfl⟩,h⟩,fun⟨v,g',⟨hv,hg⟩,h⟩=>by rw[hv,hg]at h;exact h⟩
def xv (x:bl) (env:Env) (v:AV):Prop:=if aM x.guard env then eM x.op (cE env) (fun _=>none) ⟨0,0⟩=some (v,none)else v=.undef
theorem uA {x:bl} (hp:x.op.cls=.pure):ku x=true:=by
 unfold ku
 rw[hp]
 cases hc:x.op<;>simp[hc,fS.cls]at hp<;>rfl
theorem rS {x:bl} (hp:x.op.cls=.pure) {N:Env->ax->Prop} {env:Env} {σ:ax}:step X x N env σ↔∃v,xv x env v/\N (upd env x.dst v) σ:=by
 rw[k9 (uA hp)]
 unfold GS xv
 by_cases hw:aM x.guard env=true
 ·simp only[hw,if_true]
  constructor
  ·rintro⟨v,g',h,hN⟩
   obtain⟨rfl,dk⟩:=xi hp h
   refine⟨v,?_,hN⟩
   unfold VS at h
   split at h
   ·rename_i dO;rw[dO]at hp;simp[fS.cls]at hp
   ·rename_i dO;rw[dO]at hp;simp[fS.cls]at hp
   ·rename_i dO;rw[dO]at hp;simp[fS.cls]at hp
   ·rename_i dO;rw[dO]at hp;simp[fS.cls]at hp
   ·rename_i dO;rw[dO]at hp;simp[fS.cls]at hp
   ·rename_i dO;rw[dO]at hp;simp[fS.cls]at hp
   ·rename_i dO;rw[dO]at hp;simp[fS.cls]at hp
   ·obtain⟨mr,hq,_⟩:=h
    have SL:mr=none:=by
     cases mr with
     |none=>rfl
     |some r=>have:=uB hq;simp[pD,hp]at this
    subst SL
    rw[<-uC (g:=gh x.hid σ.next σ.get) (id:=⟨x.site,σ.next⟩) hp];exact hq
  ·rintro⟨v,h,hN⟩
   exact⟨v,σ.get,LW (mr:=none) (by rw[uC (g2:=fun _=>none) (id2:=⟨0,0⟩) hp];exact h),hN⟩
 ·simp only[if_neg hw]
  exact⟨fun⟨v,g',⟨hv,hg⟩,h⟩=>⟨v,hv,by rw[hg]at h;exact h⟩,fun⟨v,hv,h⟩=>⟨v,σ.get,⟨hv,rfl⟩,h⟩⟩
theorem I5 {x:bl} {env iA:Env} {v:AV} (h:∀t∈x.fZ,env t=iA t) (hv:xv x env v):xv x iA v:=by
 unfold xv at hv ⊢
 rw[<-mA h,<-rP fun t ht=>h t (qJ ht)];exact hv
structure Ld (x y:bl):Prop where
 xy:∀k,x.dst=some k->k∉y.fZ
 yx:∀k,y.dst=some k->k∉x.fZ
 dst:∀k,x.dst=some k->y.dst≠some k
theorem qR {x y:bl} (h:rV x y=true):Ld x y:=by
 unfold rV at h
 simp only[Bool.and_eq_true]at h
 obtain⟨a1,a2⟩:=h
 refine⟨fun k hk=>?_,fun k hk=>?_,fun k hk=>?_⟩
 ·rw[hk]at a1;simp at a1;exact a1.1
 ·rw[hk]at a2;simpa using a2
 ·rw[hk]at a1;simp at a1;exact a1.2
theorem wq {x y:bl} (h:wo x y=true):(Ld x y/\x.op.cls=.pure)∨(A7 x y/\ku x=true/\ku y=true):=by
 unfold wo at h
 simp only[Bool.or_eq_true,Bool.and_eq_true,beq_iff_eq]at h
 rcases h with⟨h1,h2⟩|⟨⟨h1,h2⟩,h3⟩
 ·exact .inl ⟨qR h1,h2⟩
 ·exact .inr ⟨pr h1,h2,h3⟩
theorem zK {x y:bl} (h:wo x y=true):ku x=true:=by
 rcases wq h with h|h
 ·exact uA h.2
 ·exact h.2.1
theorem FO (hK:oR X) {x y:bl} (hf:wo x y=true) {N:Env->ax->Prop} {env:Env} {σ:ax} (h:step X x (fun e s=>step X y N e s) env σ):step X y (fun e s=>step X x N e s) env σ:=by
 rcases wq hf with⟨F,hp⟩|⟨F,hx,hy⟩
 ·rw[rS hp]at h
  obtain⟨v,hx,h⟩:=h
  have Jo:=fun(v':AV)=>uW (env:=env) (v:=v) (u:=v') F.dst
  have s4:=lV (env:=env) (v:=v) F.xy
  have back:∀(v':AV),xv x (upd env y.dst v') v:=fun v'=>I5 (fun t ht=>(lV F.yx t ht).symm) hx
  unfold step at h ⊢
  rw[mA s4]at h
  split at h
  ·rename_i hw
   rw[if_pos hw]
   refine AS hK (fun v' σ' hN=>?_) (F7 (fun t ht=>s4 t (qJ ht)) h)
   rw[Jo]at hN
   exact(rS hp).2 ⟨v,back v',hN⟩
  ·rename_i hw
   rw[if_neg hw]
   rw[Jo]at h
   exact(rS hp).2 ⟨v,back _,h⟩
 ·rw[k9 hx]at h
  obtain⟨v,g1,h1,h⟩:=h
  rw[k9 hy]at h
  obtain⟨v',g2,h2,h⟩:=h
  obtain⟨JJ,q1,q2,q3⟩:=CZ F h1 h2
  rw[q3]at h
  exact(k9 hy).2 ⟨v',JJ,q1,(k9 hx).2 ⟨v,g2,q2,h⟩⟩
def yI (X:fx) (ops:Array Oper) (vl:List bl) (K:Env->ax->Prop):Nat->Array Bool->Env->ax->Prop
 |0,listed,env,σ=>Region.ready .any ops listed=[]/\K env ⟨σ.get,σ.next+1⟩
 |f+1,listed,env,σ=>(Region.ready .any ops listed=[]->K env ⟨σ.get,σ.next+1⟩)/\∀i∈Region.ready .any ops listed,∃vo,vl[i]? =some vo/\step X vo (fun e s=>yI X ops vl K f (listed.setIfInBounds i true) e s) env σ
theorem BB {ops:Array Oper} {vl:List bl} {bs:Array Nat} {listed:Array Bool} {i:Nat} (h:pq ops vl bs listed i=true) (j:Nat):pq ops vl bs (listed.setIfInBounds j true) i=true:=by
 unfold pq at h ⊢
 split at h
 ·rename_i x hx
  simp only[List.all_eq_true,Bool.or_eq_true]at h ⊢
  intro k hk
  rcases h k hk with((h|h)|h)|h
  ·exact .inl (.inl (.inl (getD_set_true h)))
  ·exact .inl (.inl (.inr h))
  ·exact .inl (.inr h)
  ·exact .inr h
 ·cases h
theorem r9 {ops:Array Oper} {vl:List bl} {listed:Array Bool} {i j:Nat} {vi:bl} (qV:DC ops listed) (h:pq ops vl (jj ops) listed i=true) (hi:vl[i]? =some vi) (hr:i∈Region.ready .any ops listed) (hj:j∈Region.ready .any ops listed) (lW:j≠i):∃vj,vl[j]? =some vj/\wo vi vj=true:=by
 unfold pq at h
 rw[hi]at h
 simp only[List.all_eq_true,Bool.or_eq_true,beq_iff_eq]at h
 obtain⟨_,o,ho,_⟩:=mem_ready.1 hj
 rcases h j (List.mem_range.2 (Array.getElem?_eq_some_iff.1 ho).1)with((h|h)|h)|h
 ·rw[iJ hj]at h;cases h
 ·exact absurd h lW
 ·have:=kz qV hj i h
  rw[iJ hr]at this;cases this
 ·split at h
  ·rename_i y hy;exact⟨y,hy,h⟩
  ·cases h
theorem CY (hK:oR X) {ops:Array Oper} {vl:List bl} {K:Env->ax->Prop} {i:Nat} {vi:bl} (hi:vl[i]? =some vi):∀(fuel:Nat) (listed:Array Bool) (env:Env) (σ:ax),
  DC ops listed->i∈Region.ready .any ops listed->pq ops vl (jj ops) listed i=true->step X vi (fun e s=>yI X ops vl K fuel (listed.setIfInBounds i true) e s) env σ->yI X ops vl K (fuel+1) listed env σ:=by
 intro fuel
 induction fuel with
 |zero=>
  intro listed env σ qV hr lv H
  refine⟨fun h=>(by rw[h]at hr;cases hr),fun j hj=>?_⟩
  by_cases lW:j=i
  ·subst lW;exact⟨vi,hi,H⟩
  ·obtain⟨vj,Kb,PR⟩:=r9 qV lv hi hr hj lW
   rw[k9 (zK PR)]at H
   obtain⟨v,g',_,H⟩:=H
   have:=ready_mono hj lW
   rw[H.1]at this;cases this
 |succ fuel ih=>
  intro listed env σ qV hr lv H
  refine⟨fun h=>(by rw[h]at hr;cases hr),fun j hj=>?_⟩
  by_cases lW:j=i
  ·subst lW;exact⟨vi,hi,H⟩
  ·obtain⟨vj,Kb,PR⟩:=r9 qV lv hi hr hj lW
   refine⟨vj,Kb,?_⟩
   have H2:step X vi (fun e s=>step X vj (fun e s=>yI X ops vl K fuel ((listed.setIfInBounds i true).setIfInBounds j true) e s) e s) env σ:=jw hK (fun e s h=>by
    obtain⟨vj',xW,h'⟩:=h.2 j (ready_mono hj lW)
    rw[Kb]at xW;injection xW with xW;subst xW
    exact h') H
   refine jw hK (fun e s h=>?_) (FO hK PR H2)
   refine ih _ _ _ (qV.list hj) (ready_mono hr (fun e=>lW e.symm)) (BB lv j) ?_
   rw[Array.setIfInBounds_comm _ _ lW]
   exact h
theorem rR {x:bl} (hg:x.guard=none) {N:Env->ax->Prop} {env:Env} {σ:ax}:step X x N env σ=fQ X false x env σ (fun v σ'=>N (upd env x.dst v) σ'):=by
 unfold step
 rw[hg]
 simp[aM]
theorem CJ {x y:bl} {t s sz:Nat} {ys:O} (hx:x.op=.append sz (.t t) ys) (hg:x.guard=none) (hf:Dm s x y=true) {N:Env->ax->Prop} {env:Env} {σ:ax} (hl:Kr t s ys env σ.next) (h:step X x (fun e s=>step X y N e s) env σ):
  step X y (fun e σ'=>Kr t s ys e σ'.next/\step X x N e σ') env σ:=by
 unfold Dm at hf
 simp only[Bool.and_eq_true,bne_iff_ne]at hf
 obtain⟨⟨⟨⟨⟨f1,hq⟩,f3⟩,f4⟩,f5⟩,f6⟩:=hf
 have F:=qR f1
 obtain⟨⟨len,ht⟩,hsrc⟩:=hl
 have HC:∀k∈x.op.fZ,∀v',upd env y.dst v' k=env k:=fun k hk v'=>lV (env:=env) (v:=v') F.yx k (qJ hk)
 have ew:t∈x.op.fZ:=by rw[hx];simp[fS.fZ,gw]
 have DI:∀v',cE (upd env y.dst v') ys=cE env ys:=fun v'=>(aW fun k hk=>by rw[HC k (by rw[hx];simp[fS.fZ,hk])]).symm
 rw[rR hg]at h
 unfold fQ at h
 simp only[hx,gi]at h
 have ex:cE env (.t t)=.own ⟨s,σ.next⟩ 0 len:=ht
 rw[ex]at h
 cases hr:bw σ.get (cE env ys)with
 |none=>rw[hr]at h;exact h.elim
 |some rs=>
  rw[hr]at h
  simp only[Option.bind_some,aX]at h
  cases Hp:σ.get ⟨s,σ.next⟩with
  |none=>rw[Hp]at h;exact h.elim
  |some r=>
   rw[Hp]at h
   simp only[Option.bind_some]at h
   split at h
   ·rename_i v g1 hv
    split at hv
    ·rename_i hcond
     simp only[Option.some.injEq,Prod.mk.injEq]at hv
     obtain⟨rfl,rfl⟩:=hv
     rw[k9 hq]at h
     obtain⟨v',g2,hG,hN⟩:=h
     have J0:(⟨y.site,σ.next⟩:Id)≠⟨s,σ.next⟩:=fun e=>f5 (by injection e)
     have Hu:(⟨y.site,σ.next⟩:Id)≠⟨x.site,σ.next⟩:=fun e=>f6 (by injection e)
     replace hG:GS X σ.next y env (bY (ck σ.get ⟨s,σ.next⟩) ⟨x.site,σ.next⟩ ⟨true,sz,r.rows++rs⟩) v' g2:=tj (lV F.xy) hG
     have Tc:gh y.hid σ.next σ.get=gh y.hid σ.next (bY (ck σ.get ⟨s,σ.next⟩) ⟨x.site,σ.next⟩ ⟨true,sz,r.rows++rs⟩):=by
      cases hh:y.hid with
      |nil=>rw[hh]at f3;simp at f3
      |cons a l=>
       rw[hh]at f3 f4
       funext i
       show(if (a::l).contains i.site=true/\i.cq=σ.next then none else σ.get i)=if (a::l).contains i.site=true/\i.cq=σ.next then none else _
       by_cases h1:i=⟨x.site,σ.next⟩
       ·subst h1;rw[if_pos ⟨f4,rfl⟩,if_pos ⟨f4,rfl⟩]
       ·by_cases h2:i=⟨s,σ.next⟩
        ·subst h2;rw[if_pos ⟨f3,rfl⟩,if_pos ⟨f3,rfl⟩]
        ·simp only[bY,ck,if_neg h1,if_neg h2]
     obtain⟨my,oL,hG'⟩:∃my,g2=iQ (bY (ck σ.get ⟨s,σ.next⟩) ⟨x.site,σ.next⟩ ⟨true,sz,r.rows++rs⟩) ⟨y.site,σ.next⟩ my/\GS X σ.next y env σ.get v' (iQ σ.get ⟨y.site,σ.next⟩ my):=by
      unfold GS at hG ⊢
      by_cases wy:aM y.guard env=true
      ·rw[if_pos wy]at hG
       have hcw:y.op.cls≠.write:=by
        unfold ku at hq
        simp only[Bool.and_eq_true,bne_iff_ne]at hq
        exact hq.2
       obtain⟨my,rfl,_,L1⟩:=tr hcw hG
       exact⟨my,rfl,by rw[if_pos wy];exact L1 _ Tc⟩
      ·rw[if_neg wy]at hG
       obtain⟨rfl,rfl⟩:=hG
       exact⟨none,rfl,by rw[if_neg wy];exact⟨rfl,rfl⟩⟩
     subst oL
     refine(k9 hq).2 ⟨v',_,hG',⟨⟨len,by rw[HC t ew];exact ht⟩,fun id o l he=>hsrc id o l (by rw[<-DI v'];exact he)⟩,?_⟩
     rw[rR hg]
     unfold fQ
     have ex':cE (upd env y.dst v') (.t t)=.own ⟨s,σ.next⟩ 0 len:=by
      show upd env y.dst v' t= _
      rw[HC t ew];exact ht
     simp only[hx,gi,ex',DI v']
     have m7:bw (iQ σ.get ⟨y.site,σ.next⟩ my) (cE env ys)=some rs:=by
      cases my with
      |none=>exact hr
      |some row=>
       revert hr
       cases hev:cE env ys<;>simp only[bw,iQ]<;>try exact fun h=>h
       rename_i id o l
       have:id≠⟨y.site,σ.next⟩:=fun e=>hsrc id o l hev (by rw[e])
       simp only[bY,if_neg this];exact fun h=>h
     have SA:iQ σ.get ⟨y.site,σ.next⟩ my ⟨s,σ.next⟩=some r:=by
      cases my with
      |none=>exact Hp
      |some row=>simp only[iQ,bY,if_neg (fun e=>J0 e.symm:(⟨s,σ.next⟩:Id)≠⟨y.site,σ.next⟩)];exact Hp
     rw[m7]
     simp only[Option.bind_some,aX,SA]
     rw[if_pos hcond]
     have hgg:bY (ck (iQ σ.get ⟨y.site,σ.next⟩ my) ⟨s,σ.next⟩) ⟨x.site,σ.next⟩ ⟨true,sz,r.rows++rs⟩=iQ (bY (ck σ.get ⟨s,σ.next⟩) ⟨x.site,σ.next⟩ ⟨true,sz,r.rows++rs⟩) ⟨y.site,σ.next⟩ my:=by
      cases my with
      |none=>rfl
      |some row=>
       funext i
       simp only[iQ,bY,ck]
       by_cases h1:i=⟨y.site,σ.next⟩
       ·subst h1;rw[if_neg Hu,if_neg J0,if_pos rfl,if_pos rfl]
       ·simp only[if_neg h1]
     have hu:=uW (env:=env) (v:=AV.own ⟨x.site,σ.next⟩ 0 (len+rs.length)) (u:=v') F.dst
     show N (upd (upd env y.dst v') x.dst (.own ⟨x.site,σ.next⟩ 0 (len+rs.length))) ⟨bY (ck (iQ σ.get ⟨y.site,σ.next⟩ my) ⟨s,σ.next⟩) ⟨x.site,σ.next⟩ ⟨true,sz,r.rows++rs⟩,σ.next⟩
     rw[hgg,<-hu]
     exact hN
    ·cases hv
   ·exact h.elim
theorem BA {ops:Array Oper} {vl:List bl} {bs:Array Nat} {listed:Array Bool} {i s:Nat} (h:nF ops vl bs listed i s=true) (j:Nat):nF ops vl bs (listed.setIfInBounds j true) i s=true:=by
 unfold nF at h ⊢
 split at h
 ·rename_i x hx
  simp only[List.all_eq_true,Bool.or_eq_true]at h ⊢
  intro k hk
  rcases h k hk with((h|h)|h)|h
  ·exact .inl (.inl (.inl (getD_set_true h)))
  ·exact .inl (.inl (.inr h))
  ·exact .inl (.inr h)
  ·exact .inr h
 ·cases h
theorem zG {ops:Array Oper} {vl:List bl} {listed:Array Bool} {i j s:Nat} {vi:bl} (qV:DC ops listed) (h:nF ops vl (jj ops) listed i s=true) (hi:vl[i]? =some vi) (hr:i∈Region.ready .any ops listed) (hj:j∈Region.ready .any ops listed) (lW:j≠i):∃vj,vl[j]? =some vj/\Dm s vi vj=true:=by
 unfold nF at h
 rw[hi]at h
 simp only[List.all_eq_true,Bool.or_eq_true,beq_iff_eq]at h
 obtain⟨_,o,ho,_⟩:=mem_ready.1 hj
 rcases h j (List.mem_range.2 (Array.getElem?_eq_some_iff.1 ho).1)with((h|h)|h)|h
 ·rw[iJ hj]at h;cases h
 ·exact absurd h lW
 ·have:=kz qV hj i h
  rw[iJ hr]at this;cases this
 ·split at h
  ·rename_i y hy;exact⟨y,hy,h⟩
  ·cases h
theorem AT (hK:oR X) {ops:Array Oper} {vl:List bl} {K:Env->ax->Prop} {i t s sz:Nat} {ys:O} {vi:bl} (hi:vl[i]? =some vi) (hx:vi.op=.append sz (.t t) ys) (hg:vi.guard=none):∀(fuel:Nat) (listed:Array Bool) (env:Env) (σ:ax),
  DC ops listed->i∈Region.ready .any ops listed->nF ops vl (jj ops) listed i s=true->Kr t s ys env σ.next->step X vi (fun e s=>yI X ops vl K fuel (listed.setIfInBounds i true) e s) env σ->yI X ops vl K (fuel+1) listed env σ:=by
 intro fuel
 induction fuel with
 |zero=>
  intro listed env σ qV hr lv Oz H
  refine⟨fun h=>(by rw[h]at hr;cases hr),fun j hj=>?_⟩
  by_cases lW:j=i
  ·subst lW;exact⟨vi,hi,H⟩
  ·exfalso
   have h0:=ready_mono hj lW
   rw[rR hg]at H
   unfold fQ at H
   simp only[hx]at H
   split at H
   ·rw[H.1]at h0;cases h0
   ·exact H
 |succ fuel ih=>
  intro listed env σ qV hr lv Oz H
  refine⟨fun h=>(by rw[h]at hr;cases hr),fun j hj=>?_⟩
  by_cases lW:j=i
  ·subst lW;exact⟨vi,hi,H⟩
  ·obtain⟨vj,Kb,PR⟩:=zG qV lv hi hr hj lW
   refine⟨vj,Kb,?_⟩
   have H2:step X vi (fun e s=>step X vj (fun e s=>yI X ops vl K fuel ((listed.setIfInBounds i true).setIfInBounds j true) e s) e s) env σ:=jw hK (fun e s h=>by
    obtain⟨vj',xW,h'⟩:=h.2 j (ready_mono hj lW)
    rw[Kb]at xW;injection xW with xW;subst xW
    exact h') H
   refine jw hK (fun e s h=>?_) (CJ hx hg PR Oz H2)
   refine ih _ _ _ (qV.list hj) (ready_mono hr (fun e=>lW e.symm)) (BA lv j) h.1 ?_
   rw[Array.setIfInBounds_comm _ _ lW]
   exact h.2
theorem HS {ops:Array Oper} {vl:List bl} {bs:Array Nat} {listed:Array Bool} {i i' t s:Nat} {y:O} {vo:bl} (h:Nn ops vl bs listed i=some (i',t,s,y,vo)):i'=i/\vl[i]? =some vo/\(∃sz,vo.op=.append sz (.t t) y)/\vo.guard=none/\nF ops vl bs listed i s=true:=by
 unfold Nn at h
 split at h
 ·rename_i x hx
  split at h
  ·rename_i t' s' y' jV
   split at h
   ·rename_i hf
    simp only[Option.some.injEq,Prod.mk.injEq]at h
    obtain⟨rfl,rfl,rfl,rfl,rfl⟩:=h
    unfold LH at jV
    split at jV
    ·rename_i sz t2 y2 ho sZ
     split at jV
     ·simp only[Option.some.injEq,Prod.mk.injEq]at jV
      obtain⟨rfl,rfl,rfl⟩:=jV
      exact⟨rfl,hx,⟨sz,ho⟩,sZ,hf⟩
     ·cases jV
    ·cases jV
   ·cases h
  ·cases h
 ·cases h
theorem v7 {X:fx} {Q:Ex->Env->ax->Prop} {env:Env} {σ:ax}:∀{l:List VC} {t:VC},zg l=some t->ea X t Q env σ->∀c∈l,ea X c Q env σ
 |[],t,h,_,c,hc=>by cases hc
 |[c0],t,h,hw,c,hc=>by
  simp only[zg,Option.some.injEq]at h
  subst h
  rw[List.mem_singleton]at hc
  subst hc;exact hw
 |c0::c1::r,t,h,hw,c,hc=>by
  simp only[zg,Option.map_eq_some_iff]at h
  obtain⟨t',Gj,rfl⟩:=h
  rcases List.mem_cons.1 hc with rfl|hc
  ·exact hw.1
  ·exact v7 Gj hw.2 c hc
theorem mapM_mem {α β:Type} {f:α->Option β}:∀{l:List α} {r:List β},l.mapM f=some r->∀i∈l,∃b∈r,f i=some b
 |[],_,_,i,hi=>by cases hi
 |a::l,r,h,i,hi=>by
  simp only[List.mapM_cons,Option.bind_eq_bind,Option.bind_eq_some_iff,Option.pure_def,Option.some.injEq]at h
  obtain⟨b,hb,r',hr,rfl⟩:=h
  rcases List.mem_cons.1 hi with rfl|hi
  ·exact⟨b,by simp,hb⟩
  ·obtain⟨c,hc,hf⟩:=mapM_mem hr i hi
   exact⟨c,List.mem_cons_of_mem _ hc,hf⟩
theorem F4 (hK:oR X) {ops:Array Oper} {vl:List bl} {Q:Ex->Env->ax->Prop}:∀(n:Nat) (listed:Array Bool) (t:VC) (env:Env) (σ:ax),uU ops vl (jj ops) n listed=some t->DC ops listed->ea X t Q env σ->yI X ops vl (Q .normal) n listed env σ:=by
 intro n
 induction n with
 |zero=>
  intro listed t env σ h _ hw
  unfold uU at h
  split at h
  ·rename_i hr
   simp only[Option.some.injEq]at h
   subst h
   exact⟨hr,hw⟩
  ·cases h
 |succ n ih=>
  intro listed t env σ h qV hw
  unfold uU at h
  split at h
  ·rename_i hr
   simp only[Option.some.injEq]at h
   subst h
   exact⟨fun _=>hw,fun i hi=>by rw[hr]at hi;cases hi⟩
  ·rename_i r rs hr
   dsimp only at h
   split at h
   ·rename_i i hfind
    have JW:=List.mem_of_find?_eq_some hfind
    have wz:=List.find?_some hfind
    rw[<-hr]at JW
    split at h
    ·rename_i vo oP
     simp only[Option.map_eq_some_iff]at h
     obtain⟨t',Gj,rfl⟩:=h
     exact CY hK oP n listed env σ qV JW wz (jw hK (fun e s h=>ih _ _ _ _ Gj (qV.list JW) h) hw)
    ·cases h
   ·split at h
    ·rename_i i t s y vo hfind
     obtain⟨i0,Gh,dD⟩:=List.exists_of_findSome?_eq_some hfind
     obtain⟨rfl,oP,⟨sz,dO⟩,sZ,JT⟩:=HS dD
     rw[<-hr]at Gh
     simp only[Option.map_eq_some_iff]at h
     obtain⟨t',Gj,rfl⟩:=h
     exact AT hK oP dO sZ n listed env σ qV Gh JT hw.1 (jw hK (fun e s h=>ih _ _ _ _ Gj (qV.list Gh) h) hw.2)
    split at h
    ·rename_i l hl
     have dk:=v7 h hw
     refine⟨fun h=>(by rw[h]at hr;cases hr),fun i hi=>?_⟩
     rw[hr]at hi
     obtain⟨b,Gd,Ge⟩:=mapM_mem hl i hi
     simp only[Option.bind_eq_some_iff,Option.map_eq_some_iff]at Ge
     obtain⟨vo,oP,t',Gj,rfl⟩:=Ge
     exact⟨vo,oP,jw hK (fun e s h=>ih _ _ _ _ Gj (qV.list (by rw[hr];exact hi)) h) (dk _ Gd)⟩
    ·cases h
theorem CV {ops:Array Oper} {vl:List bl} {nt site0:Nat} {draw mk:Bool} {bs:Array Nat} {hidden:List (Nat×Bool)} {K:Env->ax->Prop} {Q:Exit->Act->World->Prop} (dk:allM (lH P ops nt site0 draw mk bs hidden) ops.toList 0=some vl):
  ∀(fuel:Nat) (listed:Array Bool) (env:Env) (σ:ax) (a:Act) (w:World) (D:Nat->Prop) (ι:Names) (U:Nat->Prop),yI (Sound P) ops vl K fuel listed env σ->ga P hs D ι σ.get w->Used ι σ.next U->(∀s,U s->∃i,s=site0+i/\listed.getD i false=true)->bI P w D ι env a->a.tmps.size=nt->
  (∀hZ σ' a' w' D' ι',K hZ σ'->Step hs D ι w D' ι' w'->St P hs nt D' ι' hZ σ' a' w'->a'.defers=a.defers->σ.next<=σ'.next->Q .normal a' w')->wpAny P .any ops Q fuel listed a w:=by
 intro fuel
 induction fuel with
 |zero=>intro listed env σ a w D ι U h S Us hU E fh hQ;exact⟨h.1,hQ env _ a w D ι h.2 (Step.refl _ _ _ _) ⟨S,Us.next,E,fh⟩ rfl (Nat.le_succ _)⟩
 |succ fuel ih=>
  intro listed env σ a w D ι U h S Us hU E fh hQ
  refine⟨fun hr=>hQ env _ a w D ι (h.1 hr) (Step.refl _ _ _ _) ⟨S,Us.next,E,fh⟩ rfl (Nat.le_succ _),fun i hi=>?_⟩
  obtain⟨vo,oP,hG⟩:=h.2 i hi
  obtain⟨_,o,ho,_⟩:=mem_ready.1 hi
  obtain⟨vo',lK,PK⟩:=(nu dk).2 i o (by simpa using ho)
  rw[oP]at lK;injection lK with lK;subst lK
  rw[Nat.zero_add]at PK
  obtain⟨hc,hd,z6,vq,hg⟩:=oe PK
  have hw:=rX (ops:=ops) (vo:=vo) E hg
  have Sg:¬U vo.site:=fun hu=>by
   obtain⟨i',he,hl⟩:=hU _ hu
   have:i'=i:=ab
   subst this
   rw[iJ hi]at hl;cases hl
  have jk:i<listed.size:=by
   have h0:=(mem_ready.1 hi).1
   rcases Nat.lt_or_ge i listed.size with h|h
   ·exact h
   ·simp[Array.getElem?_eq_none h]at h0
  unfold wpOp
  simp only[ho]
  rw[<-hw]
  unfold step at hG
  by_cases E0:aM vo.guard env=true
  ·rw[if_pos E0]
   rw[if_pos E0]at hG
   refine .inl (w9 hc hG S Us Sg E fun v σ' u D' ι' w' hn T S' hR U' hle=>?_)
   refine ih _ _ _ _ w' D' ι' _ hn S' U' (fun s z3=>?_) (by rw[hd];exact l9 (nE E T) hR vq fh) (by rw[kr];exact fh) fun hZ σ2 a2 w2 D2 ι2 hk T2 M9 BS me=>hQ hZ σ2 a2 w2 D2 ι2 hk (T.trans T2) M9 (BS.trans (put_defers _ _ _)) (Nat.le_trans hle me)
   rcases z3 with h|h
   ·obtain⟨i',he,hl⟩:=hU _ h
    exact⟨i',he,getD_set_true hl⟩
   ·exact⟨i,by rw[h,z6],by simp[jk]⟩
  ·rw[if_neg E0]
   rw[if_neg E0]at hG
   refine ih _ _ _ _ w D ι U hG S Us (fun s z3=>?_) (by rw[hd];exact l9 E cG.undef vq fh) (by rw[kr];exact fh) fun hZ σ2 a2 w2 D2 ι2 hk T2 M9 BS me=>hQ hZ σ2 a2 w2 D2 ι2 hk T2 M9 (BS.trans (put_defers _ _ _)) me
   obtain⟨i',he,hl⟩:=hU _ z3
   exact⟨i',he,getD_set_true hl⟩
end
end Go.Proofs.YtihgaadadaekmaaGreatDoor.V

namespace Go.Proofs.YtihgaadadaekmaaGreatDoor.V
open Go.RowKit
variable {P:Program} {w w':World} {D D' D2:Nat->Prop} {ι ι' ι2:Names}
def AU (P:Program) (c:Code) (Q:Exit->Act->World->Prop) (a:Act) (w:World):Prop:=
 ∀(b:Frame) (k:List Item) (cs:List Frame),b.kind≠.early->∃e a' w',Q e a' w'/\Arrives P (lone (b.at a (.code c::k)) cs w) b k cs e a' w'
section
variable {Q:Exit->Act->World->Prop} {a:Act}
theorem pG {c:Code} (h:c.wp P Q a w):AU P c Q a w:=fun b k cs _=>h b k cs
theorem KC {x y:Code} (h:AU P x (Exit.then (AU P y Q) Q) a w):AU P (.seq x y) Q a w:=by
 intro b k cs hb
 obtain⟨e,a1,w1,hq,ib⟩:=h b (.code y::k) cs hb
 by_cases he:e=.normal
 ·subst he
  obtain⟨e2,a2,w2,ot,Hf⟩:=hq b k cs hb
  exact⟨e2,a2,w2,ot,.of_steps (.head step_seq ib) Hf⟩
 ·refine⟨e,a1,w1,?_,.of_steps (.one step_seq) (.pass (x:=.code y) rfl (fun _ _=>.inl he) ib)⟩
  cases e<;>first|exact absurd rfl he|exact hq
theorem Ig {c:Operand} {x y:Code} {t:Bool} (hc:a.eval c=.bool t) (h:AU P (if t then x else y) Q a w):AU P (.cond c x y) Q a w:=
 fun b k cs hb=>let ⟨e,a',w',q,r⟩:=h b k cs hb;⟨e,a',w',q,.of_steps (.one (step_cond hc)) r⟩
theorem FA {id:Nat} {c:Code} (h:AU P c (Exit.inBlock id Q) a w):AU P (.block id c) Q a w:=by
 intro b k cs hb
 obtain⟨e,a1,w1,hq,ib⟩:=h b (.inBlock id::k) cs hb
 cases e with
 |normal=>exact⟨.normal,a1,w1,hq,.head step_block (Steps.trans ib (.one step_inBlock))⟩
 |exit kn=>
  by_cases hid:kn=id
  ·simp only[Exit.inBlock,hid,if_true]at hq
   exact⟨.normal,a1,w1,hq,.head step_block (ib k (by simp[exitTo,hid]))⟩
  ·simp only[Exit.inBlock,hid,if_false]at hq
   exact⟨.exit kn,a1,w1,hq,fun k' hk=>.head step_block (ib k' (by simp[exitTo,Ne.symm hid,hk]))⟩
 |goto l=>exact⟨_,a1,w1,hq,fun k' hk=>.head step_block (ib k' (by simp[gotoIn,hk]))⟩
 |ret=>exact⟨_,a1,w1,hq,.of_steps (.one step_block) ib⟩
 |panic ch=>exact⟨_,a1,w1,hq,.of_steps (.one step_block) ib⟩
 |outgrown=>exact⟨_,a1,w1,hq,.of_steps (b:=b) (k:=k) (cs:=cs) (e:=.outgrown) (.one step_block) ib⟩
theorem FB {c:Code} (h:AU P c (Exit.noGoto Q) a w):AU P (.scope c) Q a w:=by
 intro b k cs hb
 obtain⟨e,a1,w1,hq,ib⟩:=h b (.inScope c::k) cs hb
 cases e with
 |normal=>exact⟨.normal,a1,w1,hq,.head step_scope (Steps.trans ib (.one step_inScope))⟩
 |exit id=>exact⟨.exit id,a1,w1,hq,fun k' hk=>.head step_scope (ib k' (by simp[exitTo,hk]))⟩
 |goto l=>exact hq.elim
 |ret=>exact⟨_,a1,w1,hq,.of_steps (.one step_scope) ib⟩
 |panic ch=>exact⟨_,a1,w1,hq,.of_steps (.one step_scope) ib⟩
 |outgrown=>exact⟨_,a1,w1,hq,.of_steps (b:=b) (k:=k) (cs:=cs) (e:=.outgrown) (.one step_scope) ib⟩
def s7 (P:Program) (c:Code) (Q:Exit->Act->World->Prop):Nat->Act->World->Prop
 |0=>fun _ _=>False
 |n+1=>AU P c (Exit.then (s7 P c Q n) Q)
theorem Ih {c:Code} (n:Nat) (h:s7 P c Q n a w):AU P (.loop c) Q a w:=by
 intro b k cs hb
 have key:∀n a w,s7 P c Q n a w->∃e a' w',Q e a' w'/\Arrives P (lone (b.at a (.code c::.inLoop c::k)) cs w) b k cs e a' w':=by
  intro n
  induction n with
  |zero=>intro a w h;exact h.elim
  |succ n ih=>
   intro a w h
   obtain⟨e,a1,w1,hq,ib⟩:=h b (.inLoop c::k) cs hb
   by_cases he:e=.normal
   ·subst he
    obtain⟨e2,a2,w2,ot,Hf⟩:=ih a1 w1 hq
    exact⟨e2,a2,w2,ot,.of_steps (Steps.trans ib (.one step_inLoop)) Hf⟩
   ·refine⟨e,a1,w1,?_,.pass (x:=.inLoop c) rfl (fun _ _=>.inl he) ib⟩
    cases e<;>first|exact absurd rfl he|exact hq
 obtain⟨e,a',w',hq,ib⟩:=key n a w h
 exact⟨e,a',w',hq,.of_steps (.one step_loop) ib⟩
theorem xq {f:FuncId} {fn:Func} {c:Code} {args:Array Value} {R:Ending->World->Prop} (hf:P.funcs[f]? =some fn) (hb:fn.body=some c)
  (h:AU P c (bodyPost P fn R) {tmps:=args++Array.replicate (fn.ntmps-args.size) undef,defers:=[]} w):Calls P f args w R:=by
 intro cs
 have MI:Frame.enter P f args .normal=({(default:Frame)with fn:=f,kind:=.normal}:Frame).at {tmps:=args++Array.replicate (fn.ntmps-args.size) undef,defers:=[]} [.code c]:=by simp[Frame.enter,Frame.at,hf,hb]
 obtain⟨e,a',w',hq,ib⟩:=h {(default:Frame)with fn:=f,kind:=.normal} [] cs (by simp)
 rw[<-MI]at ib
 cases e with
 |normal=>obtain⟨hd,v,hr,hR⟩:=hq;exact⟨.returned v,w',_,hR,Steps.trans ib (.one step_end),rfl,rfl,hd,rfl,fn,hf,hr⟩
 |ret=>obtain⟨hd,v,hr,hR⟩:=hq;obtain⟨todo,hs⟩:=ib;exact⟨.returned v,w',_,hR,hs,rfl,rfl,hd,rfl,fn,hf,hr⟩
 |panic chain=>obtain⟨hd,hR⟩:=hq;obtain⟨todo,hs⟩:=ib;exact⟨.panicked chain,w',_,hR,hs,rfl,rfl,hd,fn,hf⟩
 |exit id=>exact hq.elim
 |goto l=>exact hq.elim
 |outgrown=>exact⟨.outgrown,w',{(default:Frame)with fn:=f,kind:=.normal},hq,ib.resolve_left (by simp),rfl,trivial⟩
def u9 (P:Program) (ops:Array Oper) (Q:Exit->Act->World->Prop) (l:List Nat) (a:Act) (w:World):Prop:=
 ∀(b:Frame) (k:List Item) (cs:List Frame),b.kind≠.early->∃e a' w',Q e a' w'/\Arrives P (lone (b.at a (.inRegion ops l::k)) cs w) b k cs e a' w'
theorem Cr {id:Nat} {ops:Array Oper} (h:u9 P ops Q (List.range ops.size) a w):AU P (.region id ops false) Q a w:=
 fun b k cs hb=>let ⟨e,a',w',q,r⟩:=h b k cs hb;⟨e,a',w',q,.of_steps (.one step_region) r⟩
theorem Ny {ops:Array Oper} (h:Q .normal a w):u9 P ops Q [] a w:=fun _ _ _ _=>⟨.normal,a,w,h,.one step_region_end⟩
theorem nY {o:Oper} {ys:Nat->Option Bool} (h:o.guard=none):Region.wanted o ys=true:=by simp[Region.wanted,h]
theorem Io {ops:Array Oper} {i:Nat} {rest:List Nat} {o:Oper} {v:Value} (ho:ops[i]? =some o) (hg:o.guard=none) (hr:(execOp a.eval o).run P w=.ok (.value v) w') (h:u9 P ops Q rest (a.put o.dst v) w'):u9 P ops Q (i::rest) a w:=by
 intro b k cs hb
 obtain⟨e,a',w2,hq,ib⟩:=h b k cs hb
 refine⟨e,a',w2,hq,.of_steps (.one ?_) ib⟩
 have rF:(b.at a (.inRegion ops (i::rest)::k)).finish v=b.at (a.put o.dst v) (.inRegion ops rest::k):=by rw[Frame.finish_at,ho];rfl
 rw[<-rF]
 refine step_lone_go ?_
 have h2:=stepG_op (P:=P) (b:=b) (k:=k) (cs:=cs) (w:=w) (rest:=rest) ho (nY hg (ys:=yielded ops a.tmps))
 rw[h2];simp[stepG.apply,hr]
theorem KI {ops:Array Oper} {i:Nat} {rest:List Nat} {o:Oper} {v z:Value} {c cap s r:Nat} {buf:Array Value} (ho:ops[i]? =some o) (hg:o.guard=none) (hr:(execOp a.eval o).run P w=.ok (.comm #[Conc.scase c v z] true .send) w)
  (hc:w.heap[c]? =some (.chan cap buf false s r false)) (fv:buf.size<cap) (h:u9 P ops Q rest (a.put o.dst undef) (w.setChan c cap (buf.push v) false (s+1) r false)):u9 P ops Q (i::rest) a w:=by
 intro b k cs hb
 obtain⟨e,a',w2,hq,ib⟩:=h b k cs hb
 refine⟨e,a',w2,hq,.of_steps (.one ?_) ib⟩
 have rF:(b.at a (.inRegion ops (i::rest)::k)).finish undef=b.at (a.put o.dst undef) (.inRegion ops rest::k):=by rw[Frame.finish_at,ho];rfl
 rw[<-rF,Conc.lone_eq_solo,Conc.lone_eq_solo]
 exact Conc.step_lone_send_room (Conc.stepG_comm ho (nY hg) hb hr) hc fv
theorem KH {ops:Array Oper} {i:Nat} {rest:List Nat} {o:Oper} {z:Value} {c cap s r:Nat} {buf:Array Value} (ho:ops[i]? =some o) (hg:o.guard=none) (hr:(execOp a.eval o).run P w=.ok (.comm #[Conc.rcase c z] true (.recv false)) w)
  (hc:w.heap[c]? =some (.chan cap buf false s r false)) (HD:0<buf.size) (h:u9 P ops Q rest (a.put o.dst (buf.getD 0 undef)) (w.setChan c cap (buf.extract 1 buf.size) false s (r+1) false)):u9 P ops Q (i::rest) a w:=by
 intro b k cs hb
 obtain⟨e,a',w2,hq,ib⟩:=h b k cs hb
 refine⟨e,a',w2,hq,.of_steps (.one ?_) ib⟩
 have rF:(b.at a (.inRegion ops (i::rest)::k)).finish (buf.getD 0 undef)=b.at (a.put o.dst (buf.getD 0 undef)) (.inRegion ops rest::k):=by rw[Frame.finish_at,ho];rfl
 rw[<-rF,Conc.lone_eq_solo,Conc.lone_eq_solo]
 exact Conc.step_lone_recv_buf false (Conc.stepG_comm ho (nY hg) hb hr) hc HD
end
section
variable {hs:Nat} {g:Rows} {env:Env} {a:Act} {o:Oper}
theorem Kj {x y:O} (hc:pN P o.op=some (.snd x y)):∃x' y',o.op=.send x' y'/\cO P x'=some x/\cO P y'=some y:=by
 unfold pN at hc
 split at hc
 case h_25=>
  rename_i x' y' h
  simp only[Option.bind_eq_bind,Option.bind_eq_some_iff,Option.pure_def,Option.some.injEq,fS.snd.injEq]at hc
  obtain⟨p,h1,q,h2,rfl,rfl⟩:=hc
  exact⟨_,_,h,h1,h2⟩
 all_goals (try unfold mM at hc)<;>(try unfold tv at hc)<;>(try unfold rj at hc)<;>(repeat' (split at hc))<;>(simp only[Option.bind_eq_bind,Option.bind_eq_some_iff,Option.pure_def,Option.some.injEq,Option.map_eq_some_iff,reduceCtorEq,and_false,exists_false]at hc)
theorem Ki {x:O} (hc:pN P o.op=some (.ND x)):∃t dir e i z x',o.op=.recv t x' false/\P.underlying t=some (.chan dir e)/\P.info? e=some i/\i.zero=some z/\cO P x'=some x:=by
 unfold pN at hc
 split at hc
 case h_26=>
  rename_i t x' h
  split at hc
  ·rename_i dir e ht
   split at hc
   ·rename_i z hz
    simp only[Option.bind_eq_some_iff]at hz
    obtain⟨i,hi,hz⟩:=hz
    simp only[Option.map_eq_some_iff,fS.ND.injEq]at hc
    obtain⟨p,h1,rfl⟩:=hc
    exact⟨t,dir,e,i,z,x',h,ht,hi,hz,h1⟩
   ·cases hc
  ·cases hc
 all_goals (try unfold mM at hc)<;>(try unfold tv at hc)<;>(try unfold rj at hc)<;>(repeat' (split at hc))<;>(simp only[Option.bind_eq_bind,Option.bind_eq_some_iff,Option.pure_def,Option.some.injEq,Option.map_eq_some_iff,reduceCtorEq,and_false,exists_false]at hc)
theorem O5 {x y:O} {g':Rows} (S:ga P hs D ι g w) (hc:pN P o.op=some (.snd x y)) (E:bI P w D ι env a) (hv:ev g (cE env x) (cE env y)=some g'):
  ∃c cap s r buf u,(execOp a.eval o).run P w=.ok (.comm #[Conc.scase c u (.tuple #[])] true .send) w/\w.heap[c]? =some (.chan cap buf false s r false)/\buf.size<cap/\ga P hs D ι g' (w.setChan c cap (buf.push u) false (s+1) r false)/\Step hs D ι w D ι (w.setChan c cap (buf.push u) false (s+1) r false):=by
 obtain⟨x',y',ho,hx,hy⟩:=Kj hc
 have rx:=cK E hx
 have ry:=cK E hy
 unfold ev at hv
 split at hv
 ·rename_i i he
  simp only[Option.bind_eq_some_iff]at hv
  obtain⟨r,hg,hv⟩:=hv
  split at hv
  ·rename_i hcond
   simp only[Option.some.injEq]at hv
   subst hv
   obtain⟨B,c,hu,hB,hk,fh,buf,s,q,hb,Ja,hR⟩:=xr S rx he hg
   obtain⟨B',dx,RR,_⟩:=S.row i r hg
   rw[hB]at dx;injection dx with dx;subst dx
   have mW:=S.F5 (ob:=.chan c (buf.push (a.eval y')) false (s+1) q false) (r':={r with rows:=r.rows++[[cE env y]]}) hg hcond.1 hB fun hr km=>⟨RR.sz,fun cs dq=>?_,fun h0=>(by rw[hk]at h0;cases h0),fun m hm=>(by rw[hk]at hm;cases hm),fun c' ki=>?_⟩
   ·exact⟨B.b,c,s,q,buf,a.eval y',by simp[execOp,ho,hu,Conc.scase],hb,by rw[Ja];omega,mW.1,mW.2⟩
   ·rcases List.mem_append.1 dq with h|h
    ·exact RR.flat cs h
    ·rw[List.mem_singleton.1 h]
     intro b rE
     rw[List.mem_singleton.1 rE];exact hcond.2.2
   ·rw[hk]at ki
    simp only[Option.some.injEq,BK.chan.injEq]at ki
    subst ki
    refine⟨fh,_,_,_,km,by simp[Ja],fun j cs hj=>?_⟩
    rw[List.getElem?_append]at hj
    split at hj
    ·rename_i dD
     obtain⟨b,u,q1,q2,q3⟩:=hR j cs hj
     refine⟨b,u,q1,?_,hr _ _ q3⟩
     rw[Array.getElem?_push,if_neg ab];exact q2
    ·rename_i jA
     have gN:j=r.rows.length:=by
      have:=(List.getElem?_eq_some_iff.1 hj).1
      simp at this;omega
     subst gN
     simp at hj
     subst hj
     exact⟨_,_,rfl,by rw[Array.getElem?_push,if_pos Ja.symm],hr _ _ ry⟩
  ·cases hv
 ·cases hv
theorem O4 {x:O} {g':Rows} {v:AV} (S:ga P hs D ι g w) (hc:pN P o.op=some (.ND x)) (E:bI P w D ι env a) (hv:eu g (cE env x)=some (v,g')):
  ∃c cap s r buf z,(execOp a.eval o).run P w=.ok (.comm #[Conc.rcase c z] true (.recv false)) w/\w.heap[c]? =some (.chan cap buf false s r false)/\0<buf.size/\ga P hs D ι g' (w.setChan c cap (buf.extract 1 buf.size) false s (r+1) false)/\Step hs D ι w D ι (w.setChan c cap (buf.extract 1 buf.size) false s (r+1) false)/\cG P (w.setChan c cap (buf.extract 1 buf.size) false s (r+1) false) D ι v (buf.getD 0 undef):=by
 obtain⟨t,dir,e,i0,z,x',ho,ht,hi,hz,hx⟩:=Ki hc
 have rx:=cK E hx
 unfold eu at hv
 split at hv
 ·rename_i i he
  simp only[Option.bind_eq_some_iff]at hv
  obtain⟨r,hg,hv⟩:=hv
  split at hv
  ·rename_i v' rest ql
   split at hv
   ·rename_i hcond
    simp only[Option.some.injEq,Prod.mk.injEq]at hv
    obtain⟨rfl,rfl⟩:=hv
    obtain⟨B,c,hu,hB,hk,fh,buf,s,q,hb,Ja,hR⟩:=xr S rx he hg
    obtain⟨B',dx,RR,_⟩:=S.row i r hg
    rw[hB]at dx;injection dx with dx;subst dx
    obtain⟨b0,u0,q1,q2,q3⟩:=hR 0 [v'] (by rw[ql];rfl)
    simp only[List.cons.injEq,and_true]at q1
    subst q1
    have lh:0<buf.size:=by rw[Ja,ql];simp
    have J8:buf.getD 0 undef=u0:=by rw[Array.getD_eq_getD_getElem?,q2];rfl
    have mW:=S.F5 (ob:=.chan c (buf.extract 1 buf.size) false s (q+1) false) (r':={r with rows:=rest}) hg hcond hB fun hr km=>⟨RR.sz,fun cs dq=>RR.flat cs (by rw[ql];exact List.mem_cons_of_mem _ dq),fun h0=>(by rw[hk]at h0;cases h0),fun m hm=>(by rw[hk]at hm;cases hm),fun c' ki=>?_⟩
    ·refine⟨B.b,c,s,q,buf,z,?_,hb,lh,mW.1,mW.2,?_⟩
     ·have uf:(zeroValue e).run P w=.ok z w:=by simp[zeroValue,typeInfo,hi,hz]
      simp[execOp,ho,hu,Conc.rcase,run_underlying ht,uf]
     ·rw[J8];exact mW.2.rep q3
    ·rw[hk]at ki
     simp only[Option.some.injEq,BK.chan.injEq]at ki
     subst ki
     refine⟨fh,_,_,_,km,by simp[Ja,ql],fun j cs hj=>?_⟩
     obtain⟨b,u,k1,k2,k3⟩:=hR (j+1) cs (by rw[ql];simpa using hj)
     refine⟨b,u,k1,?_,hr _ _ k3⟩
     have dD:=(Array.getElem?_eq_some_iff.1 k2).1
     rw[Array.getElem?_extract,if_pos ab,Nat.add_comm 1 j];exact k2
   ·cases hv
  ·cases hv
 ·cases hv
theorem Ew {ops:Array Oper} {nt site0:Nat} {K:Env->ax->Prop} {Q:Exit->Act->World->Prop}:∀(l:List Oper) (vl:List bl) (j:Nat) (env:Env) (σ:ax) (a:Act) (w:World) (D:Nat->Prop) (ι:Names),
  ops.toList.drop j=l->allM (lH P ops nt site0 false false #[] []) l j=some vl->cw vl K env σ->ga P hs D ι σ.get w->Used ι σ.next (fun _=>False)->bI P w D ι env a->a.tmps.size=nt->
  (∀hZ σ' a' w' D' ι',K hZ σ'->Step hs D ι w D' ι' w'->St P hs nt D' ι' hZ σ' a' w'->a'.defers=a.defers->σ.next<=σ'.next->Q .normal a' w')->u9 P ops Q (List.range' j l.length) a w:=by
 intro l
 induction l with
 |nil=>
  intro vl j env σ a w D ι _ h hv S Us E fh hQ
  simp[allM]at h;subst h
  exact Ny (hQ env ⟨σ.get,σ.next+1⟩ a w D ι hv (Step.refl _ _ _ _) ⟨S,Us.next,E,fh⟩ rfl (Nat.le_succ _))
 |cons o l ih=>
  intro vl j env σ a w D ι hl h hv S Us E fh hQ
  simp only[allM,Option.bind_eq_bind,Option.bind_eq_some_iff,Option.pure_def,Option.some.injEq]at h
  obtain⟨vo,oP,rW,qZ,rfl⟩:=h
  obtain⟨hc,hd,z6,vq,hg⟩:=oe oP
  obtain⟨ML,hv⟩:=hv
  have SU:o.guard=none:=by
   split at hg
   ·assumption
   ·obtain⟨t,_,h⟩:=hg
    rw[ML]at h;cases h
  have SV:ops[j]? =some o:=by
   have h0:=congrArg (fun x=>x[0]?) hl
   rw[<-Array.getElem?_toList]
   simpa[List.getElem?_drop]using h0
  have Ji:ops.toList.drop (j+1)=l:=by rw[<-List.drop_drop,hl];rfl
  have go:∀(v:AV) (u:Value) (g2:Rows) (w2:World),cw rW K (upd env vo.dst v) ⟨g2,σ.next⟩->ga P hs D ι g2 w2->Step hs D ι w D ι w2->cG P w2 D ι v u->u9 P ops Q (List.range' (j+1) l.length) (a.put o.dst u) w2:=fun v u g2 w2 hn S2 T hR=>
   ih rW (j+1) (upd env vo.dst v) ⟨g2,σ.next⟩ (a.put o.dst u) w2 D ι Ji qZ hn S2 Us (by rw[hd];exact l9 (nE E T) hR vq fh) (by rw[kr];exact fh) fun hZ σ2 a' w3 D3 ι3 hk T2 OW BS me=>hQ hZ σ2 a' w3 D3 ι3 hk (T.trans T2) OW (BS.trans (put_defers _ _ _)) me
  rw[show List.range' j (o::l).length=j::List.range' (j+1) l.length from rfl]
  split at hv
  ·rename_i x y dO
   split at hv
   ·rename_i g2 yR
    rw[dO]at hc
    obtain⟨c,cap,s,r,buf,u,gU,hb,fv,S2,T⟩:=O5 S hc E yR
    exact KI SV SU gU hb fv (go _ _ _ _ hv S2 T cG.undef)
   ·exact hv.elim
  ·rename_i x dO
   split at hv
   ·rename_i v g2 yR
    rw[dO]at hc
    obtain⟨c,cap,s,r,buf,z,gU,hb,HD,S2,T,hR⟩:=O4 S hc E yR
    exact KH SV SU gU hb HD (go _ _ _ _ hv S2 T hR)
   ·exact hv.elim
  ·split at hv
   ·rename_i v hq
    obtain⟨u,gU,hR⟩:=wY hc hq S E
    exact Io SV SU gU (go _ _ _ _ hv S (Step.refl _ _ _ _) hR)
   ·exact hv.elim
end
end Go.Proofs.YtihgaadadaekmaaGreatDoor.V

namespace Go.Proofs.YtihgaadadaekmaaGreatDoor.V
open Go.RowKit
variable {P:Program} {w w':World} {D D' D2:Nat->Prop} {ι ι' ι2:Names}
section
variable {hs:Nat} {X:fx}
def exO:Ex->Exit
 | .normal=>.normal
 | .exit id=>.exit id
 | .ret=>.ret
theorem St.drew {nt:Nat} {env:Env} {σ:ax} {a:Act} {D:Nat->Prop} {ι:Names} (h:St P hs nt D ι env σ a w):St P hs nt D ι env σ a w.drew/\Step hs D ι w D ι w.drew:=by
 have T:Step hs D ι w D ι w.drew:=Step.stay h.Jp (fun _ _=>rfl) (Nat.le_refl _) rfl rfl rfl (fun _ h=>h) (fun _ h=>.inl h) (fun _ _ h=>h)
 exact⟨⟨h.Jp.stay (fun _ _=>rfl) (Nat.le_refl _) (fun _ h=>h) h.Jp.dead (fun _ h=>.inl h) (fun _ _ h=>h),h.used,nE h.env T,h.size⟩,T⟩
def vU (P:Program) (hs nt:Nat) (ds:List Deferred) (Q:Ex->Env->ax->Prop) (n0:Nat) (D:Nat->Prop) (ι:Names) (w:World) (Q':Exit->Act->World->Prop):Prop:=
 ∀ex env σ a w' D' ι',Q ex env σ->Step hs D ι w D' ι' w'->St P hs nt D' ι' env σ a w'->a.defers=ds->n0<=σ.next->Q' (exO ex) a w'
theorem vU.later {nt:Nat} {ds:List Deferred} {Q:Ex->Env->ax->Prop} {n0 n1:Nat} {Q':Exit->Act->World->Prop} (h:vU P hs nt ds Q n0 D ι w Q') (T:Step hs D ι w D' ι' w') (hn:n0<=n1):vU P hs nt ds Q n1 D' ι' w' Q':=
 fun ex env σ a w2 D2 ι2 hq T2 ew hd hle=>h ex env σ a w2 D2 ι2 hq (T.trans T2) ew hd (Nat.le_trans hn hle)
theorem Bn (hm:P.follows .mixedOrders=true) {md:List (Nat×Nat)} {nt tK:Nat}:∀(c:Code) (vc:VC),iH P md nt tK c=some vc->∀(Q:Ex->Env->ax->Prop) (env:Env) (σ:ax) (a:Act) (w:World) (D:Nat->Prop) (ι:Names) (Q':Exit->Act->World->Prop),
  ea (Sound P) vc Q env σ->St P hs nt D ι env σ a w->vU P hs nt a.defers Q σ.next D ι w Q'->AU P c Q' a w:=by
 intro c
 induction c with
 |skip=>
  intro vc h Q env σ a w D ι Q' hv ew hQ
  simp[iH]at h;subst h
  exact pG <| wp_skip (hQ .normal env σ a w D ι hv (Step.refl _ _ _ _) ew rfl (Nat.le_refl _))
 |exit id=>
  intro vc h Q env σ a w D ι Q' hv ew hQ
  simp[iH]at h;subst h
  exact pG <| wp_exit (hQ (.exit id) env σ a w D ι hv (Step.refl _ _ _ _) ew rfl (Nat.le_refl _))
 |ret=>
  intro vc h Q env σ a w D ι Q' hv ew hQ
  simp[iH]at h;subst h
  exact pG <| wp_ret (hQ .ret env σ a w D ι hv (Step.refl _ _ _ _) ew rfl (Nat.le_refl _))
 |seq x y ihx ihy=>
  intro vc h Q env σ a w D ι Q' hv ew hQ
  simp only[iH,Option.bind_eq_bind,Option.bind_eq_some_iff,Option.pure_def,Option.some.injEq]at h
  obtain⟨vx,hx,vy,hy,rfl⟩:=h
  refine KC (ihx vx hx _ env σ a w D ι _ hv ew fun ex jI σ1 a1 w1 D1 ι1 hq T j4 hd hle=>?_)
  cases ex with
  |normal=>exact ihy vy hy Q jI σ1 a1 w1 D1 ι1 Q' hq j4 (by rw[hd];exact hQ.later T hle)
  |exit id=>exact hQ (.exit id) jI σ1 a1 w1 D1 ι1 hq T j4 hd hle
  |ret=>exact hQ .ret jI σ1 a1 w1 D1 ι1 hq T j4 hd hle
 |cond c x y ihx ihy=>
  intro vc h Q env σ a w D ι Q' hv ew hQ
  simp only[iH,Option.bind_eq_bind,Option.bind_eq_some_iff,Option.pure_def,Option.some.injEq]at h
  obtain⟨c',hc,vx,hx,vy,hy,rfl⟩:=h
  unfold ea at hv
  have hr:=cK ew.env hc
  split at hv
  ·rename_i b hb
   rw[hb]at hr
   refine Ig (eR hr) ?_
   cases b with
   |true=>exact ihx vx hx Q env σ a w D ι Q' hv ew hQ
   |false=>exact ihy vy hy Q env σ a w D ι Q' hv ew hQ
  ·exact hv.elim
 |block id c ih=>
  intro vc h Q env σ a w D ι Q' hv ew hQ
  simp only[iH,Option.map_eq_some_iff]at h
  obtain⟨vx,hx,rfl⟩:=h
  refine FA (ih vx hx _ env σ a w D ι _ hv ew fun ex jI σ1 a1 w1 D1 ι1 hq T j4 hd hle=>?_)
  cases ex with
  |normal=>exact hQ .normal jI σ1 a1 w1 D1 ι1 hq T j4 hd hle
  |ret=>exact hQ .ret jI σ1 a1 w1 D1 ι1 hq T j4 hd hle
  |exit kn=>
   simp only[bu]at hq
   simp only[exO,Exit.inBlock]
   by_cases hid:kn=id
   ·rw[if_pos hid]at hq ⊢;exact hQ .normal jI σ1 a1 w1 D1 ι1 hq T j4 hd hle
   ·rw[if_neg hid]at hq ⊢;exact hQ (.exit kn) jI σ1 a1 w1 D1 ι1 hq T j4 hd hle
 |loop c ih=>
  intro vc h Q env σ a w D ι Q' hv ew hQ
  simp only[iH,Option.map_eq_some_iff]at h
  obtain⟨vx,hx,rfl⟩:=h
  obtain⟨n,hv⟩:=hv
  refine Ih n ?_
  have key:∀n env σ a w D ι,DN (ea (Sound P) vx) Q n env σ->St P hs nt D ι env σ a w->vU P hs nt a.defers Q σ.next D ι w Q'->s7 P c Q' n a w:=by
   intro n
   induction n with
   |zero=>intro env σ a w D ι h;exact h.elim
   |succ n ihn=>
    intro env σ a w D ι h ew hQ
    refine ih vx hx _ env σ a w D ι _ h ew fun ex jI σ1 a1 w1 D1 ι1 hq T j4 hd hle=>?_
    cases ex with
    |normal=>exact ihn jI σ1 a1 w1 D1 ι1 hq j4 (by rw[hd];exact hQ.later T hle)
    |exit id=>exact hQ (.exit id) jI σ1 a1 w1 D1 ι1 hq T j4 hd hle
    |ret=>exact hQ .ret jI σ1 a1 w1 D1 ι1 hq T j4 hd hle
  exact key n env σ a w D ι hv ew hQ
 |region id ops draw=>
  intro vc h Q env σ a w D ι Q' hv ew hQ
  simp only[iH,O3]at h
  split at h
  ·rename_i hmode
   have Ss:draw=true:=by
    simp only[Bool.and_eq_true]at hmode;exact hmode.1
   subst Ss
   split at h
   ·rename_i vl dk
    obtain⟨qm,T0⟩:=ew.drew
    have BO:=F4 (X:=Sound P) pb ops.size _ vc env σ h (fun k i h=>by
     exfalso
     rcases Nat.lt_or_ge k ops.size with hk|hk
     ·simp[hk]at h
     ·simp[Nat.not_lt.2 hk]at h) hv
    refine pG (wp_region_any hm ?_)
    exact CV dk ops.size _ env σ a w.drew D ι (fun _=>False) BO qm.Jp qm.used (fun _ h=>h.elim) qm.env qm.size fun jI σ1 a1 w1 D1 ι1 hk T j4 hd hle=>hQ .normal jI σ1 a1 w1 D1 ι1 hk (T0.trans T) j4 hd hle
   ·cases h
  split at h
  ·rename_i hcom
   have Ss:draw=false:=by
    simp only[Bool.and_eq_true,Bool.not_eq_true']at hcom;exact hcom.1
   subst Ss
   simp only[Option.map_eq_some_iff]at h
   obtain⟨vl,qZ,rfl⟩:=h
   have dk:allM (lH P ops nt ((tK*1000+id)*1000) false false #[] []) ops.toList 0=some vl:=by
    unfold qa at qZ
    simp only[Bool.false_eq_true,if_false,Bool.not_false,Bool.true_or,if_true]at qZ
    split at qZ
    ·rename_i rW h;simp at qZ;subst qZ;exact h
    ·cases qZ
   refine Cr ?_
   have:=Ew (Q:=Q') ops.toList vl 0 env σ a w D ι rfl dk hv ew.Jp ew.used ew.env ew.size fun jI σ1 a1 w1 D1 ι1 hk T j4 hd hle=>hQ .normal jI σ1 a1 w1 D1 ι1 hk T j4 hd hle
   rwa [<-List.range_eq_range',Array.length_toList]at this
  generalize (uu md id==1)=mk at h
  simp only[Option.map_eq_some_iff]at h
  obtain⟨vl,qZ,rfl⟩:=h
  cases draw with
  |false=>
   have dk:∃rW,allM (lH P ops nt ((tK*1000+id)*1000) false mk #[] []) ops.toList 0=some rW/\vl=rW:=by
    unfold qa at qZ
    simp only[Bool.false_eq_true,if_false,Bool.not_false,Bool.true_or,if_true]at qZ
    split at qZ
    ·rename_i rW h;simp at qZ;exact⟨rW,h,qZ.symm⟩
    ·cases qZ
   obtain⟨rW,dk,rfl⟩:=dk
   refine pG (wp_region_list ?_)
   exact FD ops.toList vl 0 env σ a w D ι (fun _=>False) dk hv ew.Jp ew.used (fun _ h=>h.elim) ew.env ew.size fun jI σ1 a1 w1 D1 ι1 hk T j4 hd hle=>hQ .normal jI σ1 a1 w1 D1 ι1 hk T j4 hd hle
  |true=>
   have dk:∃hidden rW,allM (lH P ops nt ((tK*1000+id)*1000) true mk (jj ops) hidden) ops.toList 0=some rW/\vl=rW/\nD ops rW (jj ops)=true:=by
    unfold qa at qZ
    simp only[if_true,Bool.not_true,Bool.false_or]at qZ
    split at qZ
    ·rename_i rW h
     split at qZ
     ·rename_i ub;simp at qZ;exact⟨_,rW,h,qZ.symm,ub⟩
     ·cases qZ
    ·cases qZ
   obtain⟨hidden,rW,dk,rfl,ub⟩:=dk
   obtain⟨qm,T0⟩:=ew.drew
   obtain⟨hlen,_⟩:=nu dk
   have kj:vl.length=ops.size:=by rw[hlen];simp
   have BO:=uX (X:=Sound P) (K:=Q .normal) (n:=σ.next) ub kj vl 0 (Array.replicate ops.size false) env σ.get (by simp) (by simp) (fun i hi=>by simp[hi]) (by simp[kj]) (fun k i h=>by
    exfalso
    rcases Nat.lt_or_ge k ops.size with hk|hk
    ·simp[hk]at h
    ·simp[Nat.not_lt.2 hk]at h) hv
   refine pG (wp_region_any hm ?_)
   rw[kj]at BO
   exact vV dk ops.size _ env σ.get a w.drew D ι (fun _=>False) BO qm.Jp qm.used (fun _ h=>h.elim) qm.env qm.size fun jI g1 a1 w1 D1 ι1 U1 hk T S1 RB E1 yW hd=>hQ .normal jI ⟨g1,σ.next+1⟩ a1 w1 D1 ι1 hk (T0.trans T) ⟨S1,RB.next,E1,yW⟩ hd (Nat.le_succ _)
 |label l=>
  intro vc h Q env σ a w D ι Q' hv ew hQ
  simp[iH]at h;subst h
  exact pG <| wp_label (hQ .normal env σ a w D ι hv (Step.refl _ _ _ _) ew rfl (Nat.le_refl _))
 |scope c ih=>
  intro vc h Q env σ a w D ι Q' hv ew hQ
  simp only[iH]at h
  refine FB (ih vc h Q env σ a w D ι _ hv ew fun ex jI σ1 a1 w1 D1 ι1 hq T j4 hd hle=>?_)
  have h1:=hQ ex jI σ1 a1 w1 D1 ι1 hq T j4 hd hle
  cases ex with
  |normal=>exact h1
  |exit id=>exact h1
  |ret=>exact h1
 |_=>
  intro vc h
  simp[iH]at h
def Iv (tmps:Array Value):ResultVar->Sem Value
 | .tmp t=>pure (tmps.getD t undef)
 | .cell a t=>do loadVar t (<-asAddr (tmps.getD a undef))
theorem CA (fn:Func) (tmps:Array Value):results fn tmps=(do
  let vs <-fn.results.mapM (Iv tmps)
  pure (if h:vs.size=1 then vs[0]else .tuple vs)):=by
 unfold results
 congr 2
theorem su {nt:Nat} {env:Env} {σ:ax} {a:Act} {D:Nat->Prop} {ι:Names} (ew:St P hs nt D ι env σ a w):∀(rs:List ResultVar) (vr:List oF) (vs:List AV),rs.mapM (Es P)=some vr->eV env σ.get vr=some vs->
  ∃us:List Value,(rs.mapM (Iv a.tmps)).run P w=.ok us w/\us.length=vs.length/\∀(j:Nat) (v:AV),vs[j]? =some v->∃u,us[j]? =some u/\cG P w D ι v u
 |[],vr,vs,h,hv=>by
  simp at h;subst h
  simp[eV]at hv;subst hv
  exact⟨[],by simp,rfl,fun j v h=>by simp at h⟩
 |r::rs,vr,vs,h,hv=>by
  simp only[List.mapM_cons,Option.bind_eq_bind,Option.bind_eq_some_iff]at h
  obtain⟨x,hx,vr',hr,h⟩:=h
  simp at h;subst h
  simp only[eV,Option.bind_eq_some_iff,Option.map_eq_some_iff]at hv
  obtain⟨v,wH,vs',Qg,rfl⟩:=hv
  obtain⟨us,h1,h2,h3⟩:=su ew rs vr' vs' hr Qg
  have one:∃u,(Iv a.tmps r).run P w=.ok u w/\cG P w D ι v u:=by
   cases r with
   |tmp t=>
    simp[Es]at hx;subst hx
    simp[gM]at wH;subst wH
    exact⟨_,rfl,ew.env t⟩
   |cell b t=>
    simp only[Es,Option.bind_eq_bind,Option.bind_eq_some_iff,Option.pure_def,Option.some.injEq]at hx
    obtain⟨ag,sY,n,hn,rfl⟩:=hx
    simp only[gM]at wH
    have gH:=ew.env b
    unfold ld at wH
    split at wH
    ·rename_i kn i' oo hb
     rw[hb]at gH
     obtain⟨B,he,hB,hk⟩:=je gH
     simp only[Option.bind_eq_some_iff]at wH
     obtain⟨cs,dq,hp⟩:=wH
     obtain⟨B',r0,Gg,dx,R,hi,fl,f,hf⟩:=Iy (S:=ew.Jp) dq (fun B2 h2=>by rw[hB]at h2;injection h2 with h2;subst h2;exact hk)
     rw[hB]at dx;injection dx with dx;subst dx
     obtain⟨u,k1,k2⟩:=j8 (w:=w) (b:=B.b) (oo:=i'*B.sz+oo) (f:=fun j=>f (oo+j)) sY hn hp (fun a ha=>fl a (List.mem_of_mem_drop ha)) (fun j hj=>by
      rw[Nat.add_assoc];exact(hf _ (by simp at hj;omega)).1) (fun j a ha=>by
      simp at ha;exact(hf _ ((List.getElem?_eq_some_iff.1 ha).1)).2 _ ha)
     exact⟨u,by simp only[Iv,he,asAddr,Sem.run_bind,Sem.run_pure,Result.andThen_ok,k1],k2⟩
    ·rename_i cs hb
     rw[hb]at gH
     obtain⟨b',oo,vs2,he,q1,q2,q3,q4⟩:=kB gH
     obtain⟨u,k1,k2⟩:=j8 (w:=w) (b:=b') (oo:=oo) (f:=vs2) sY hn wH q2 q3 (fun j a ha=>.eK _ _ (q4 j a ha))
     exact⟨u,by simp only[Iv,he,asAddr,Sem.run_bind,Sem.run_pure,Result.andThen_ok,k1],k2⟩
    ·simp at wH
  obtain⟨u,hu,vG⟩:=one
  refine⟨u::us,?_,by simp[h2],fun j v' hj=>?_⟩
  ·rw[List.mapM_cons]
   simp only[Sem.run_bind,hu,h1,Result.andThen_ok,Sem.run_pure]
  ·cases j with
   |zero=>simp at hj;subst hj;exact⟨u,rfl,vG⟩
   |succ j=>simp at hj ⊢;exact h3 j v' hj
theorem Bh {f:Nat} {fn:Func} {c:Code} {args:List AV} {σ:ax} {K:AV->ax->Prop} {vr:List oF} (JU:P.funcs[f]? =some fn) (hc:fn.body=some c) (hr:fn.results.toList.mapM (Es P)=some vr) (ha:fn.params.size+fn.nfree=args.length) (hle:fn.params.size+fn.nfree<=fn.ntmps)
  (h:∀(hs:Nat) (w:World) (D:Nat->Prop) (ι:Names) (a:Act) (Q':Exit->Act->World->Prop),St P hs fn.ntmps D ι (cu args) σ a w->vU P hs fn.ntmps a.defers (ll vr K) σ.next D ι w Q'->AU P c Q' a w):Sound P f args σ K:=by
 intro hs D ι w vs S Us A
 have fh:vs.size=args.length:=A.1
 refine xq JU hc ?_
 refine h hs w D ι _ _ ⟨S,Us,fun t=>?_,by simp;omega⟩ fun ex jI σ1 a1 w1 D1 ι1 hq T j4 hd hle=>?_
 ·simp only[cu]
  by_cases dD:t<args.length
  ·obtain⟨u,hu,vG⟩:=A.2 t args[t] (List.getElem?_eq_getElem dD)
   have e1:args.getD t .undef=args[t]:=by simp[List.getD_eq_getElem?_getD,dD]
   have e2:(vs++Array.replicate (fn.ntmps-vs.size) undef).getD t undef=u:=by
    simp only[Array.getD_eq_getD_getElem?]
    rw[Array.getElem?_append_left ab,hu];rfl
   rw[e1,e2];exact vG
  ·have e1:args.getD t .undef=.undef:=by simp[List.getD_eq_getElem?_getD,Nat.le_of_not_lt dD]
   have e2:(vs++Array.replicate (fn.ntmps-vs.size) undef).getD t undef=undef:=by
    simp only[Array.getD_eq_getD_getElem?]
    rw[Array.getElem?_append_right ab,Array.getElem?_replicate]
    split<;>rfl
   rw[e1,e2];exact cG.undef
 ·have fin:(∃vs,eV jI σ1.get vr=some vs/\K (eB vs) σ1)->a1.defers=[]/\∃v,(results fn a1.tmps).run P w1=.ok v w1/\∃r g' n' D' ι' u,Ending.returned v=.returned u/\K r ⟨g',n'⟩/\Step hs D ι w D' ι' w1/\ga P hs D' ι' g' w1/\Used ι' n' (fun _=>False)/\σ.next<=n'/\cG P w1 D' ι' r u:=by
   rintro⟨avs,Qg,hK⟩
   obtain⟨us,h1,h2,h3⟩:=su j4 fn.results.toList vr avs hr Qg
   have M5:(results fn a1.tmps).run P w1=.ok (if h:us.toArray.size=1 then us.toArray[0]else .tuple us.toArray) w1:=by
    rw[CA,Array.mapM_eq_mapM_toList]
    simp only[Sem.run_bind,Sem.run_map,h1,Result.andThen_ok,Sem.run_pure]
   refine⟨hd,_,M5,eB avs,σ1.get,σ1.next,D1,ι1,_,rfl,hK,T,j4.Jp,j4.used,hle,?_⟩
   unfold eB
   split
   ·rename_i v
    have hl:us.length=1:=h2
    obtain⟨u,hu,vG⟩:=h3 0 v rfl
    rw[dif_pos (by simpa using hl)]
    have:us.toArray[0]'(by simp[hl])=u:=by
     have:=(List.getElem?_eq_some_iff.1 hu).2
     simpa using this
    rw[this];exact vG
   ·rename_i gY
    rw[dif_neg (by
     simp only[List.size_toArray,h2]
     intro h
     obtain⟨v,hv⟩:=List.length_eq_one_iff.1 h
     exact gY v hv)]
    exact .iN _ _ (fun j=>us.getD j undef) (by simp[h2]) (fun j hj=>by
     have:j<us.length:=by rw[h2];exact hj
     simp[this]) (fun j v hj=>by
     obtain⟨u,hu,vG⟩:=h3 j v hj
     simpa[List.getD_eq_getElem?_getD,hu]using vG)
  cases ex with
  |normal=>exact fin hq
  |ret=>exact fin hq
  |exit id=>exact hq.elim
theorem Hb (hm:P.follows .mixedOrders=true) {f:Nat} {md:List (Nat×Nat)} {vf:yN} {args:List AV} {σ:ax} {K:AV->ax->Prop} (hf:vh P f md=some vf) (ha:vf.wS=args.length) (h:ea (Sound P) vf.body (ll vf.res K) (cu args) σ):Sound P f args σ K:=by
 unfold vh at hf
 split at hf
 ·rename_i fn JU
  split at hf
  ·rename_i c hc
   simp only[Option.bind_eq_bind,Option.bind_eq_some_iff]at hf
   obtain⟨vb,hb,vr,hr,hf⟩:=hf
   split at hf
   ·rename_i hle
    simp only[Option.pure_def,Option.some.injEq]at hf
    subst hf
    simp only at ha h
    exact Bh JU hc hr ha hle fun hs w D ι a Q' ew hQ=>Bn hm c vb hb (ll vr K) (cu args) σ a w D ι Q' h ew hQ
   ·simp at hf
  ·simp at hf
 ·simp at hf
def LK (P:Program) (X:fx):fx:=fun f args σ K=>(∃md vf,vh P f md=some vf/\vf.wS=args.length/\((∀a∈args,eG a)->ea X vf.body (ll vf.res K) (cu args) σ))∨Sound P f args σ K
def Call (P:Program):fx:=fun f args σ K=>∀X:fx,oR X->(∀f args σ K,LK P X f args σ K->X f args σ K)->X f args σ K
theorem gP (hm:P.follows .mixedOrders=true) {f:Nat} {args:List AV} {σ:ax} {K:AV->ax->Prop} (h:Call P f args σ K):Sound P f args σ K:=
 h (Sound P) pb fun f args σ K hs=>by
  rcases hs with⟨md,vf,h1,h2,h3⟩|h
  ·intro hs D ι w vs S U A
   exact Hb hm h1 h2 (h3 (nQ fun j a hj=>by obtain⟨u,_,hr⟩:=A.2 j a hj;exact hr.HO)) hs D ι w vs S U A
  ·exact h
end
end Go.Proofs.YtihgaadadaekmaaGreatDoor.V

namespace Go.Proofs.YtihgaadadaekmaaGreatDoor.V
open Go.RowKit
variable {P:Program} {X Y:fx}
theorem Gz (h:∀f args σ K,X f args σ K->Y f args σ K) {f:Nat} {args:List AV} {σ:ax} {K:AV->Prop} (hp:gS X f args σ K):gS Y f args σ K:=by
 rcases hp with hp|⟨a,h1,h2⟩
 ·exact .inl (h _ _ _ _ hp)
 ·exact .inr ⟨a,h1,h _ _ _ _ h2⟩
theorem Jr (h:∀f args σ K,X f args σ K->Y f args σ K) {f:Nat} {args:List AV} {σ:ax} {sz:Nat} {rows:List (List AV)} (hp:CM X f args σ sz rows):CM Y f args σ sz rows:=by
 obtain⟨h1,a,h2,h3⟩:=hp
 exact⟨h1,a,h2,h _ _ _ _ h3⟩
theorem pf (h:∀f args σ K,X f args σ K->Y f args σ K) (hK:∀f args σ K K',(∀r σ',K r σ'->K' r σ')->Y f args σ K->Y f args σ K') {draw:Bool} {hid:List Nat} {site:Nat} {f:Nat} {args:List AV} {σ:ax} {n n':AV->ax->Prop} (hn:∀v σ',n v σ'->n' v σ') (hp:cF X draw hid site f args σ n):cF Y draw hid site f args σ n':=by
 rcases hp with⟨r,h1,h2⟩|⟨h1,h2⟩|⟨h1,sz,rows,h2,h3⟩
 ·exact .inl ⟨r,Gz h h1,hn _ _ h2⟩
 ·exact .inr (.inl ⟨h1,hK _ _ _ _ _ hn (h _ _ _ _ h2)⟩)
 ·exact .inr (.inr ⟨h1,sz,rows,Jr h h2,hn _ _ h3⟩)
theorem qT (h:∀f args σ K,X f args σ K->Y f args σ K) (hK:∀f args σ K K',(∀r σ',K r σ'->K' r σ')->Y f args σ K->Y f args σ K') {draw:Bool} {o:bl} {env:Env} {σ:ax} {n n':AV->ax->Prop} (hn:∀v σ',n v σ'->n' v σ') (hp:fQ X draw o env σ n):fQ Y draw o env σ n':=by
 unfold fQ at hp ⊢
 split at hp
 ·exact pf h hK hn hp
 ·split at hp
  ·exact pf h hK hn hp
  ·exact pf h hK hn hp
  ·exact hp.elim
 ·split at hp
  ·exact hn _ _ hp
  ·exact hp.elim
 ·split at hp
  ·exact hn _ _ hp
  ·exact hp.elim
 ·split at hp
  ·exact hn _ _ hp
  ·exact hp.elim
 ·split at hp
  ·exact hn _ _ hp
  ·exact hp.elim
 ·split at hp
  ·exact hn _ _ hp
  ·exact hp.elim
 ·split at hp
  ·exact hn _ _ hp
  ·exact hn _ _ hp
  ·exact hp.elim
theorem mC (h:∀f args σ K,X f args σ K->Y f args σ K) (hK:∀f args σ K K',(∀r σ',K r σ'->K' r σ')->Y f args σ K->Y f args σ K') {draw:Bool} {Q Q':Env->ax->Prop} (hQ:∀e s,Q e s->Q' e s):∀(l:List bl) (env:Env) (σ:ax),wpOps X draw l Q env σ->wpOps Y draw l Q' env σ
 |[],env,σ,hp=>hQ _ _ hp
 |o::r,env,σ,hp=>by
  unfold wpOps at hp ⊢
  split at hp
  ·rename_i hw;rw[if_pos hw];exact qT h hK (fun v σ'=>mC h hK hQ r _ _) hp
  ·rename_i hw;rw[if_neg hw];exact mC h hK hQ r _ _ hp
theorem mB {Q Q':Env->ax->Prop} (hQ:∀e s,Q e s->Q' e s):∀(l:List bl) (env:Env) (σ:ax),cw l Q env σ->cw l Q' env σ
 |[],env,σ,hp=>hQ _ _ hp
 |o::r,env,σ,hp=>by
  unfold cw at hp ⊢
  refine⟨hp.1,?_⟩
  replace hp:=hp.2
  split at hp
  ·split at hp
   ·exact mB hQ r _ _ hp
   ·exact hp.elim
  ·split at hp
   ·exact mB hQ r _ _ hp
   ·exact hp.elim
  ·split at hp
   ·exact mB hQ r _ _ hp
   ·exact hp.elim
theorem kJ (h:∀f args σ K,X f args σ K->Y f args σ K) (hK:∀f args σ K K',(∀r σ',K r σ'->K' r σ')->Y f args σ K->Y f args σ K'):∀(c:VC) (Q Q':Ex->Env->ax->Prop) (env:Env) (σ:ax),(∀x e s,Q x e s->Q' x e s)->ea X c Q env σ->ea Y c Q' env σ:=by
 intro c
 induction c with
 |skip=>intro Q Q' env σ hQ hp;exact hQ _ _ _ hp
 |exit id=>intro Q Q' env σ hQ hp;exact hQ _ _ _ hp
 |ret=>intro Q Q' env σ hQ hp;exact hQ _ _ _ hp
 |one o c ih=>
  intro Q Q' env σ hQ hp
  unfold ea at hp ⊢
  split at hp
  ·rename_i hw;rw[if_pos hw];exact qT h hK (fun v σ'=>ih Q Q' _ _ hQ) hp
  ·rename_i hw;rw[if_neg hw];exact ih Q Q' _ _ hQ hp
 |both a b iha ihb=>intro Q Q' env σ hQ hp;exact⟨iha Q Q' env σ hQ hp.1,ihb Q Q' env σ hQ hp.2⟩
 |loc t s y c ih=>intro Q Q' env σ hQ hp;exact⟨hp.1,ih Q Q' env σ hQ hp.2⟩
 |Mb ops=>intro Q Q' env σ hQ hp;exact mB (hQ .normal) ops env σ hp
 |eH draw ops=>intro Q Q' env σ hQ hp;exact mC h hK (hQ .normal) ops env σ hp
 |seq a b iha ihb=>
  intro Q Q' env σ hQ hp
  refine iha _ _ env σ (fun x e s hx=>?_) hp
  cases x with
  |normal=>exact ihb Q Q' e s hQ hx
  |exit id=>exact hQ _ _ _ hx
  |ret=>exact hQ _ _ _ hx
 |cond c a b iha ihb=>
  intro Q Q' env σ hQ hp
  unfold ea at hp ⊢
  split at hp
  ·rename_i t ht
   cases t with
   |true=>exact iha Q Q' env σ hQ hp
   |false=>exact ihb Q Q' env σ hQ hp
  ·exact hp.elim
 |block id a iha=>
  intro Q Q' env σ hQ hp
  refine iha _ _ env σ (fun x e s hx=>?_) hp
  cases x with
  |normal=>exact hQ _ _ _ hx
  |ret=>exact hQ _ _ _ hx
  |exit kn=>
   unfold bu at hx ⊢
   dsimp only at hx ⊢
   split at hx
   ·rename_i hid;rw[if_pos hid];exact hQ _ _ _ hx
   ·rename_i hid;rw[if_neg hid];exact hQ _ _ _ hx
 |loop a iha=>
  intro Q Q' env σ hQ hp
  obtain⟨n,hp⟩:=hp
  refine⟨n,?_⟩
  induction n generalizing env σ with
  |zero=>exact hp
  |succ n ihn=>
   refine iha _ _ env σ (fun x e s hx=>?_) hp
   cases x with
   |normal=>exact ihn e s hx
   |exit id=>exact hQ _ _ _ hx
   |ret=>exact hQ _ _ _ hx
theorem aO:oR (Call P):=fun _ _ _ _ _ hK h X hX hc=>hX _ _ _ _ _ hK (h X hX hc)
theorem vQ {f:Nat} {args:List AV} {σ:ax} {K:AV->ax->Prop} (h:LK P (Call P) f args σ K):Call P f args σ K:=by
 intro X hX hc
 refine hc _ _ _ _ ?_
 rcases h with⟨md,vf,h1,h2,h3⟩|h
 ·exact .inl ⟨md,vf,h1,h2,fun hl=>kJ (fun f args σ K h=>h X hX hc) hX _ _ _ _ _ (fun _ _ _ h=>h) (h3 hl)⟩
 ·exact .inr h
theorem th {f:Nat} {md:List (Nat×Nat)} {args:List AV} {σ:ax} {K:AV->ax->Prop} {vf:yN} (hf:vh P f md=some vf) (ha:vf.wS=args.length) (h:(∀a∈args,eG a)->ea (Call P) vf.body (ll vf.res K) (cu args) σ):Call P f args σ K:=
 vQ (.inl ⟨md,vf,hf,ha,h⟩)
theorem lD {f:Nat} {args:List AV} {σ:ax} {K:AV->ax->Prop} {vf:yN} (hf:kO P f=some vf) (ha:vf.wS=args.length) (h:(∀a∈args,eG a)->ea (Call P) vf.body (ll vf.res K) (cu args) σ):Call P f args σ K:=
 th hf ha h
theorem iy {f:Nat} {args:List AV} {σ:ax} {K:AV->ax->Prop} (h:Sound P f args σ K):Call P f args σ K:=vQ (.inr h)
def iP (P:Program) (f:Nat) (args:List AV) (r:AV):Prop:=∀σ,PC (Call P) f args σ (fun r'=>r'=r)
theorem iP.body {f:Nat} {args:List AV} {r:AV} {nt na:Nat} {body:VC} {res:List oF} (hf:kO P f=some ⟨nt,na,body,res⟩) (ha:na=args.length) (h:(∀a∈args,eG a)->∀σ:ax,ea (Call P) body (ll res fun r0 σ'=>∃r',fz σ'.get 6 r0=some r'/\r'=r) (cu args) ⟨V.ro σ.get,σ.next⟩):iP P f args r:=fun σ=>lD hf ha fun hl=>h hl σ
variable {Q:Ex->Env->ax->Prop} {K:Env->ax->Prop} {env:Env} {σ:ax}
theorem Ec {a b:VC} (h:∀N:Env->ax->Prop,(∀e s,ea X b Q e s->N e s)->ea X a (dG N Q) env σ):ea X (.seq a b) Q env σ:=h _ fun _ _ h=>h
theorem yL (h:Q .normal env σ):ea X .skip Q env σ:=h
theorem yJ {id:Nat} (h:Q (.exit id) env σ):ea X (.exit id) Q env σ:=h
theorem Eb (h:Q .ret env σ):ea X .ret Q env σ:=h
theorem td {id:Nat} {c:VC} (h:ea X c (bu id Q) env σ):ea X (.block id c) Q env σ:=h
theorem D9 {o:bl} {c:VC} (h:∀N:AV->ax->Prop,(∀v s,ea X c Q (upd env o.dst v) s->N v s)->if aM o.guard env then fQ X false o env σ N else N .undef σ):ea X (.one o c) Q env σ:=by
 have:=h (fun v s=>ea X c Q (upd env o.dst v) s) fun _ _ h=>h
 unfold ea
 split
 ·rename_i hw;rw[if_pos hw]at this;exact this
 ·rename_i hw;rw[if_neg hw]at this;exact this
def ez (s n:Nat):AV->Prop
 | .own id 0 _=>id=⟨s,n⟩
 |_=>False
def eF (n:Nat):AV->Prop
 | .own id _ _=>¬id.cq=n
 |_=>True
theorem yK {t s:Nat} {y:O} {c:VC} (h1:ez s σ.next (env t)) (h2:eF σ.next (cE env y)) (h:ea X c Q env σ):ea X (.loc t s y c) Q env σ:=by
 refine⟨⟨?_,fun id o l he=>?_⟩,h⟩
 ·revert h1
  unfold ez
  split
  ·rename_i id l he;rintro rfl;exact⟨l,he⟩
  ·exact fun h=>h.elim
 ·rw[he]at h2;exact h2
theorem eS {a b:VC} (ha:ea X a Q env σ) (hb:ea X b Q env σ):ea X (.both a b) Q env σ:=⟨ha,hb⟩
theorem Ea {draw:Bool} {ops:List bl} (h:∀N:Env->ax->Prop,(∀e s,Q .normal e s->N e s)->wpOps X draw ops N env σ):ea X (.eH draw ops) Q env σ:=h _ fun _ _ h=>h
theorem I0 {ops:List bl} (h:cw ops (Q .normal) env σ):ea X (.Mb ops) Q env σ:=h
theorem D8 {draw:Bool} (h:K env ⟨σ.get,σ.next+1⟩):wpOps X draw [] K env σ:=h
theorem NW {draw:Bool} {o:bl} {r:List bl} (h:∀N:AV->ax->Prop,(∀v s,wpOps X draw r K (upd env o.dst v) s->N v s)->if aM o.guard env then fQ X draw o env σ N else N .undef σ):wpOps X draw (o::r) K env σ:=by
 have:=h (fun v s=>wpOps X draw r K (upd env o.dst v) s) fun _ _ h=>h
 unfold wpOps
 split
 ·rename_i hw;rw[if_pos hw]at this;exact this
 ·rename_i hw;rw[if_neg hw]at this;exact this
theorem I1 {c:O} {x y:VC} {b:Bool} (hc:cE env c=.bool b) (ht:b=true->ea X x Q env σ) (hf:b=false->ea X y Q env σ):ea X (.cond c x y) Q env σ:=by
 unfold ea
 simp only[hc]
 cases b with
 |true=>exact ht rfl
 |false=>exact hf rfl
inductive nf:AV->Prop->Prop->Prop
 |t {A B:Prop}:A->nf (.bool true) A B
 |f {A B:Prop}:B->nf (.bool false) A B
theorem te {c:O} {x y:VC} {v:AV} (hv:cE env c=v) (h:nf v (ea X x Q env σ) (ea X y Q env σ)):ea X (.cond c x y) Q env σ:=by
 cases h with
 |t h=>exact I1 hv (fun _=>h) (fun e=>by cases e)
 |f h=>exact I1 hv (fun e=>by cases e) (fun _=>h)
theorem NV {c:VC} (I:Nat->Env->ax->Prop) (n:Nat) (h0:I n env σ) (step:∀n env σ,I n env σ->ea X c (fun x e s=>match x with| .normal=>∃m,m<n/\I m e s|x=>Q x e s) env σ)
  (hX:∀(c:VC) (Q Q':Ex->Env->ax->Prop) env σ,(∀x e s,Q x e s->Q' x e s)->ea X c Q env σ->ea X c Q' env σ):ea X (.loop c) Q env σ:=by
 have key:∀N n env σ,n<N->I n env σ->DN (ea X c) Q N env σ:=by
  intro N
  induction N with
  |zero=>intro n env σ h;exact absurd h (Nat.not_lt_zero _)
  |succ N ih=>
   intro n env σ hn hI
   refine hX c _ _ env σ (fun x e s hx=>?_) (step n env σ hI)
   cases x with
   |normal=>obtain⟨m,hm,hI'⟩:=hx;exact ih m e s ab hI'
   |exit id=>exact hx
   |ret=>exact hx
 exact⟨n+1,key _ n env σ (Nat.lt_succ_self _) h0⟩
theorem K3 {c:VC} (I:Nat->Env->ax->Prop) (n:Nat) (h0:I n env σ) (step:∀n env σ,I n env σ->ea (Call P) c (fun x e s=>match x with| .normal=>∃m,m<n/\I m e s|x=>Q x e s) env σ):ea (Call P) (.loop c) Q env σ:=
 NV I n h0 step fun c Q Q' env σ hQ h=>kJ (fun _ _ _ _ h=>h) aO c Q Q' env σ hQ h
def C6:VC->List Nat
 | .eH _ ops=>ops.filterMap (·.dst)
 | .seq a b=>C6 a++C6 b
 | .cond _ a b=>C6 a++C6 b
 | .block _ a=>C6 a
 | .loop a=>C6 a
 | .one o c=>o.dst.toList++C6 c
 | .both a b=>C6 a++C6 b
 | .loc _ _ _ c=>C6 c
 | .Mb ops=>ops.filterMap (·.dst)
 |_=>[]
def kV (l:List Nat) (env hZ:Env):Prop:=∀t,l.contains t=false->hZ t=env t
theorem kV.refl (l:List Nat) (env:Env):kV l env env:=fun _ _=>rfl
theorem kV.upd {l:List Nat} {e e':Env} {d:Option Nat} {v:AV} (h:kV l e e') (hd:∀t,d=some t->t∈l):kV l e (upd e' d v):=fun t ht=>by
 cases d with
 |none=>exact h t ht
 |some d=>
  have:t≠d:=fun hc=>by subst hc;rw[<-Bool.not_eq_true,List.contains_iff_mem]at ht;exact ht (hd _ rfl)
  show(if t=d then v else e' t)=e t
  rw[if_neg this];exact h t ht
theorem n8 {draw:Bool} {Q:Env->ax->Prop} {l:List Nat} {e0:Env}:∀(ops:List bl) (env:Env) (σ:ax),(∀t,t∈ops.filterMap (·.dst)->t∈l)->kV l e0 env->wpOps (Call P) draw ops Q env σ->wpOps (Call P) draw ops (fun e s=>Q e s/\kV l e0 e) env σ
 |[],env,σ,_,hk,hp=>⟨hp,hk⟩
 |o::r,env,σ,hl,hk,hp=>by
  have hd:∀t,o.dst=some t->t∈l:=fun t ht=>hl t (List.mem_filterMap.2 ⟨o,by simp,ht⟩)
  have hr:∀t,t∈r.filterMap (·.dst)->t∈l:=fun t ht=>hl t (by
   obtain⟨x,hx,h⟩:=List.mem_filterMap.1 ht
   exact List.mem_filterMap.2 ⟨x,List.mem_cons_of_mem _ hx,h⟩)
  unfold wpOps at hp ⊢
  split at hp
  ·rename_i hw;rw[if_pos hw]
   exact qT (fun _ _ _ _ h=>h) aO (fun v σ' h=>n8 r _ _ hr (hk.upd hd) h) hp
  ·rename_i hw;rw[if_neg hw];exact n8 r _ _ hr (hk.upd hd) hp
theorem la {Q:Env->ax->Prop} {l:List Nat} {e0:Env}:∀(ops:List bl) (env:Env) (σ:ax),(∀t,t∈ops.filterMap (·.dst)->t∈l)->kV l e0 env->cw ops Q env σ->cw ops (fun e s=>Q e s/\kV l e0 e) env σ
 |[],env,σ,_,hk,hp=>⟨hp,hk⟩
 |o::r,env,σ,hl,hk,hp=>by
  have hd:∀t,o.dst=some t->t∈l:=fun t ht=>hl t (List.mem_filterMap.2 ⟨o,by simp,ht⟩)
  have hr:∀t,t∈r.filterMap (·.dst)->t∈l:=fun t ht=>hl t (by
   obtain⟨x,hx,h⟩:=List.mem_filterMap.1 ht
   exact List.mem_filterMap.2 ⟨x,List.mem_cons_of_mem _ hx,h⟩)
  unfold cw at hp ⊢
  refine⟨hp.1,?_⟩
  replace hp:=hp.2
  split at hp
  ·split at hp
   ·exact la r _ _ hr (hk.upd hd) hp
   ·exact hp.elim
  ·split at hp
   ·exact la r _ _ hr (hk.upd hd) hp
   ·exact hp.elim
  ·split at hp
   ·exact la r _ _ hr (hk.upd hd) hp
   ·exact hp.elim
theorem F9 {l:List Nat} {e0:Env}:∀(c:VC) (Q:Ex->Env->ax->Prop) (env:Env) (σ:ax),(∀t,t∈C6 c->t∈l)->kV l e0 env->ea (Call P) c Q env σ->ea (Call P) c (fun x e s=>Q x e s/\kV l e0 e) env σ:=by
 intro c
 induction c with
 |skip=>intro Q env σ _ hk hp;exact⟨hp,hk⟩
 |exit id=>intro Q env σ _ hk hp;exact⟨hp,hk⟩
 |ret=>intro Q env σ _ hk hp;exact⟨hp,hk⟩
 |one o c ih=>
  intro Q env σ hl hk hp
  have hd:∀t,o.dst=some t->t∈l:=fun t ht=>hl t (List.mem_append_left _ (by rw[ht];simp))
  have hr:∀t,t∈C6 c->t∈l:=fun t ht=>hl t (List.mem_append_right _ ht)
  unfold ea at hp ⊢
  split at hp
  ·rename_i hw;rw[if_pos hw]
   exact qT (fun _ _ _ _ h=>h) aO (fun v σ' h=>ih Q _ _ hr (hk.upd hd) h) hp
  ·rename_i hw;rw[if_neg hw];exact ih Q _ _ hr (hk.upd hd) hp
 |both a b iha ihb=>
  intro Q env σ hl hk hp
  exact⟨iha Q env σ (fun t ht=>hl t (List.mem_append_left _ ht)) hk hp.1,ihb Q env σ (fun t ht=>hl t (List.mem_append_right _ ht)) hk hp.2⟩
 |loc t s y c ih=>intro Q env σ hl hk hp;exact⟨hp.1,ih Q env σ hl hk hp.2⟩
 |Mb ops=>intro Q env σ hl hk hp;exact la ops env σ hl hk hp
 |eH draw ops=>intro Q env σ hl hk hp;exact n8 ops env σ hl hk hp
 |seq a b iha ihb=>
  intro Q env σ hl hk hp
  refine kJ (fun _ _ _ _ h=>h) aO a _ _ env σ (fun x e s hx=>?_) (iha _ env σ (fun t ht=>hl t (List.mem_append_left _ ht)) hk hp)
  cases x with
  |normal=>exact ihb Q e s (fun t ht=>hl t (List.mem_append_right _ ht)) hx.2 hx.1
  |exit id=>exact hx
  |ret=>exact hx
 |cond c a b iha ihb=>
  intro Q env σ hl hk hp
  unfold ea at hp ⊢
  split at hp
  ·rename_i t ht
   cases t with
   |true=>exact iha Q env σ (fun t ht=>hl t (List.mem_append_left _ ht)) hk hp
   |false=>exact ihb Q env σ (fun t ht=>hl t (List.mem_append_right _ ht)) hk hp
  ·exact hp.elim
 |block id a iha=>
  intro Q env σ hl hk hp
  refine kJ (fun _ _ _ _ h=>h) aO a _ _ env σ (fun x e s hx=>?_) (iha _ env σ hl hk hp)
  obtain⟨hx,Jf⟩:=hx
  cases x with
  |normal=>exact⟨hx,Jf⟩
  |ret=>exact⟨hx,Jf⟩
  |exit kn=>
   unfold bu at hx ⊢
   dsimp only at hx ⊢
   split at hx
   ·rename_i hid;rw[if_pos hid];exact⟨hx,Jf⟩
   ·rename_i hid;rw[if_neg hid];exact⟨hx,Jf⟩
 |loop a iha=>
  intro Q env σ hl hk hp
  obtain⟨n,hp⟩:=hp
  refine⟨n,?_⟩
  induction n generalizing env σ with
  |zero=>exact hp
  |succ n ihn=>
   refine kJ (fun _ _ _ _ h=>h) aO _ _ _ _ _ (fun x e s hx=>?_) (iha _ env σ hl hk hp)
   obtain⟨hx,Jf⟩:=hx
   cases x with
   |normal=>exact ihn e s Jf hx
   |exit id=>exact⟨hx,Jf⟩
   |ret=>exact⟨hx,Jf⟩
theorem aP {c:VC} (I:Nat->Env->ax->Prop) (n:Nat) (h0:I n env σ) (step:∀n e s,I n e s->kV (C6 c) env e->ea (Call P) c (fun x e s=>match x with| .normal=>∃m,m<n/\I m e s|x=>Q x e s) e s):ea (Call P) (.loop c) Q env σ:=by
 refine K3 (fun n e s=>I n e s/\kV (C6 c) env e) n ⟨h0,kV.refl _ _⟩ fun n e s hI=>?_
 refine kJ (fun _ _ _ _ h=>h) aO _ _ _ _ _ (fun x e' s' hx=>?_) (F9 c _ e s (fun _ h=>h) hI.2 (step n e s hI.1 hI.2))
 obtain⟨hx,hk⟩:=hx
 cases x with
 |normal=>obtain⟨m,hm,h⟩:=hx;exact⟨m,hm,h,hk⟩
 |exit id=>exact hx
 |ret=>exact hx
theorem I4 {k:Nat} (h:k<=9223372036854775807):IntKind.i64.wrap (k:Int)=k:=by rw[IntKind.wrap_i64];omega
theorem aT {z:Int} (h: -9223372036854775808<=z/\z<=9223372036854775807):IntKind.i64.wrap z=z:=by rw[IntKind.wrap_i64];omega
theorem ay {k:Nat} (h:(k:Int)+1<=9223372036854775807):IntKind.i64.wrap ((k:Int)+1)=((k+1:Nat):Int):=by rw[IntKind.wrap_i64];omega
theorem all_succ {k:Nat} {p:Nat->Prop} (h:∀j,j<k->p j) (hk:p k):∀j,j<k+1->p j:=fun j hj=>by
 by_cases wD:j=k
 ·subst wD;exact hk
 ·exact h j ab
theorem aI (g:Rows) (n:Nat) (k:IntKind) (m:Int):fz g (n+1) (.int k m)=some (.int k m):=by rw[fz]<;>intros<;>simp_all
theorem bE (g:Rows) (n:Nat) (b:ByteArray):fz g (n+1) (.str b)=some (.str b):=by rw[fz]<;>intros<;>simp_all
theorem cj (g:Rows) (n:Nat) (l:List (List AV)):fz g (n+1) (.sl l)=some (.sl l):=by rw[fz]<;>intros<;>simp_all
theorem aV (g:Rows) (n:Nat):fz g (n+1) .bK=some .bK:=by rw[fz]<;>intros<;>simp_all
theorem QC {t:Nat} {r r0:AV} {x:Ex} (hx:x=.ret∨x=.normal) (he:env t=r0) (hz:fz σ.get 6 r0=some r):ll [.tmp t] (fun r0 σ'=>∃r',fz σ'.get 6 r0=some r'/\r'=r) x env σ:=by
 have:∃vs,eV env σ.get [.tmp t]=some vs/\∃r',fz σ.get 6 (eB vs)=some r'/\r'=r:=⟨[env t],rfl,r,by subst he;exact hz,rfl⟩
 rcases hx with rfl|rfl
 ·exact this
 ·exact this
def ae (P:Program) (f:Nat) (args:List AV) (r:AV):Prop:=∀n:Nat,Call P f args ⟨fun _=>none,n⟩ fun r0 σ'=>∃r',fD σ'.get 6 r0=some r'/\r'=r
theorem ae.body {f:Nat} {args:List AV} {r:AV} {nt na:Nat} {body:VC} {res:List oF} (hf:kO P f=some ⟨nt,na,body,res⟩) (ha:na=args.length) (h:(∀a∈args,eG a)->∀n:Nat,ea (Call P) body (ll res fun r0 σ'=>∃r',fD σ'.get 6 r0=some r'/\r'=r) (cu args) ⟨fun _=>none,n⟩):ae P f args r:=fun n=>lD hf ha fun hl=>h hl n
theorem ae.x {f:Nat} {args eT:List AV} {r:AV} (h:ae P f eT r) {σ:ax} (hv:cm (dE σ.get) 6 args=some eT):gS (Call P) f args σ (fun r'=>r'=r):=.inr ⟨eT,hv,h _⟩
theorem iP.x {f:Nat} {args:List AV} {r:AV} (h:iP P f args r) (σ:ax):gS (Call P) f args σ (fun r'=>r'=r):=.inl (h σ)
theorem eC (g:Rows) (n:Nat) (k:IntKind) (m:Int):fD g (n+1) (.int k m)=some (.int k m):=by rw[fD]<;>intros<;>simp_all
theorem fa (g:Rows) (n:Nat) (b:Bool):fD g (n+1) (.bool b)=some (.bool b):=by rw[fD]<;>intros<;>simp_all
theorem jz (g:Rows) (n:Nat) (b:ByteArray):fD g (n+1) (.str b)=some (.str b):=by rw[fD]<;>intros<;>simp_all
theorem kg (g:Rows) (n:Nat):fD g (n+1) .bK=some .bK:=by rw[fD]<;>intros<;>simp_all
theorem eY (g:Rows) (n:Nat) (l:List AV):fD g (n+1) (.iN l)=(dH g n l).map AV.iN:=by rw[fD]
theorem Dq (g:Rows) (n:Nat) (l:List AV):fD g (n+1) (.agg l)=(dH g n l).map AV.agg:=by rw[fD]
theorem qg {g:Rows} {n:Nat} {id:Id} {off len sz:Nat} {rows rows':List (List AV)} (h:g id=some ⟨true,sz,rows⟩) (hl:off+len<=rows.length) (hr:gK g n ((rows.drop off).take len)=some rows'):fD g (n+1) (.own id off len)=some (.sl rows'):=by
 rw[fD];simp only[h,if_true,if_pos hl,hr,Option.map_some]
theorem bV (g:Rows) (n:Nat):dH g n []=some []:=by rw[dH]
theorem br (g:Rows) (n:Nat) (a:AV) (l:List AV):dH g n (a::l)=match fD g n a with
  |some b=>(dH g n l).map (b::·)
  |none=>none:=by rw[dH];cases fD g n a<;>rfl
theorem sb {g:Rows} {n:Nat}:∀{l:List (List AV)},(∀c∈l,dH g n c=some c)->gK g n l=some l
 |[],_=>by rw[gK]
 |c::r,h=>by rw[gK,h c (by simp),sb fun d hd=>h d (List.mem_cons_of_mem _ hd)];rfl
theorem bf (g:Rows) (n:Nat) (l:List AV):fz g (n+1) (.agg l)=(cm g n l).map AV.agg:=by rw[fz]
theorem aU (g:Rows) (n:Nat) (l:List AV):fz g (n+1) (.cJ l)=some (.cJ l):=by rw[fz]<;>intros<;>simp_all
theorem xK {g:Rows} {n:Nat} {id:Id} {i off sz:Nat} {rows:List (List AV)} {cs oh:List AV} (h:g id=some ⟨true,sz,rows⟩) (hi:rows[i]? =some cs) (hr:cm g n (cs.drop off)=some oh):fz g (n+1) (.ptr id i off)=some (.cJ oh):=by
 rw[fz];simp only[h,if_true,hi,hr,Option.map_some]
theorem aj (g:Rows) (n:Nat):cm g n []=some []:=by rw[cm]
theorem ad (g:Rows) (n:Nat) (a:AV) (l:List AV):cm g n (a::l)=match fz g n a with
  |some b=>(cm g n l).map (b::·)
  |none=>none:=by rw[cm];cases fz g n a<;>rfl
theorem uH {t:Nat} {r r0:AV} {x:Ex} (hx:x=.ret∨x=.normal) (he:env t=r0) (hz:fD σ.get 6 r0=some r):ll [.tmp t] (fun r0 σ'=>∃r',fD σ'.get 6 r0=some r'/\r'=r) x env σ:=by
 have:∃vs,eV env σ.get [.tmp t]=some vs/\∃r',fD σ.get 6 (eB vs)=some r'/\r'=r:=⟨[env t],rfl,r,by subst he;exact hz,rfl⟩
 rcases hx with rfl|rfl
 ·exact this
 ·exact this
theorem aC {t:Nat} {b c:Bool} {x:Ex} (hx:x=.ret∨x=.normal) (he:env t=.bool b) (hb:b=c):ll [.tmp t] (fun r0 σ'=>∃r',fD σ'.get 6 r0=some r'/\r'=.bool c) x env σ:=uH hx he (by rw[fa,hb])
theorem aZ {t:Nat} {k:IntKind} {b c:Int} {x:Ex} (hx:x=.ret∨x=.normal) (he:env t=.int k b) (hb:b=c):ll [.tmp t] (fun r0 σ'=>∃r',fD σ'.get 6 r0=some r'/\r'=.int k c) x env σ:=uH hx he (by rw[eC,hb])
theorem jf {t u:Nat} {r r1 r2:AV} {x:Ex} (hx:x=.ret∨x=.normal) (h1:env t=r1) (h2:env u=r2) (hz:fD σ.get 6 (.iN [r1,r2])=some r):ll [.tmp t,.tmp u] (fun r0 σ'=>∃r',fD σ'.get 6 r0=some r'/\r'=r) x env σ:=by
 have:∃vs,eV env σ.get [.tmp t,.tmp u]=some vs/\∃r',fD σ.get 6 (eB vs)=some r'/\r'=r:=⟨[env t,env u],rfl,r,by subst h1;subst h2;exact hz,rfl⟩
 rcases hx with rfl|rfl
 ·exact this
 ·exact this
structure Pn (p:Prop):Prop where
 out:p
theorem tw {A B:Prop} (a:A) (b:B):A/\B:=⟨a,b⟩
theorem wk {A R G:Prop} (a:A) (r:R) (h:A->R->G:=by
  intro fL kk
  (repeat(refine Pn.mk ?_;intro N hN))
  (first|((first|apply Ec|apply Ea);intro N hN)|((first|(apply NW;intro N hN)|(apply D9;intro N hN));simp only[go_sem, ↓reduceIte,Nat.reduceEqDiff,Nat.reduceAdd,Nat.reduceSub,Nat.reduceMul,Nat.reduceLeDiff,Nat.reduceBEq,reduceCtorEq,Nat.reduceLT,Int.reduceLE,Int.reduceLT,Int.reduceToNat,Int.reduceNeg,Int.reduceAdd,Int.reduceEq,fL];first|(refine hN _ _ ?_;clear hN N)|skip)|(apply te;(simp only[go_sem, ↓reduceIte,Nat.reduceEqDiff,Nat.reduceAdd,Nat.reduceSub,Nat.reduceMul,Nat.reduceLeDiff,Nat.reduceBEq,reduceCtorEq,Nat.reduceLT,Int.reduceLE,Int.reduceLT,Int.reduceToNat,Int.reduceNeg,Int.reduceAdd,Int.reduceEq,fL];rfl);first|with_reducible apply nf.t|with_reducible apply nf.f)|(apply D8;refine hN _ _ ?_;clear hN N;try(simp only[dG,bu, ↓reduceIte,Nat.reduceEqDiff]);try(refine hN _ _ ?_;clear hN N))|apply td|(refine yK ?_ ?_ ?_;(focus(simp only[go_sem, ↓reduceIte,Nat.reduceEqDiff,Nat.reduceAdd,Nat.reduceSub,Nat.reduceMul,Nat.reduceLeDiff,Nat.reduceBEq,reduceCtorEq,Nat.reduceLT,Int.reduceLE,Int.reduceLT,Int.reduceToNat,Int.reduceNeg,Int.reduceAdd,Int.reduceEq,fL];done));(focus(simp only[go_sem, ↓reduceIte,Nat.reduceEqDiff,Nat.reduceAdd,Nat.reduceSub,Nat.reduceMul,Nat.reduceLeDiff,Nat.reduceBEq,reduceCtorEq,Nat.reduceLT,Int.reduceLE,Int.reduceLT,Int.reduceToNat,Int.reduceNeg,Int.reduceAdd,Int.reduceEq,fL];done)))|((first|apply yL|apply yJ|apply Eb);try(simp only[dG,bu, ↓reduceIte,Nat.reduceEqDiff]);try(refine hN _ _ ?_;clear hN N))|((first|refine hN _ _ ?_|(clear hN N;first|refine hN _ _ ?_|(clear hN N;first|refine hN _ _ ?_|(clear hN N;first|refine hN _ _ ?_|(clear hN N;refine hN _ _ ?_)))));clear hN N))
  (repeat(first|((first|apply Ec|apply Ea);intro N hN)|((first|(apply NW;intro N hN)|(apply D9;intro N hN));simp only[go_sem, ↓reduceIte,Nat.reduceEqDiff,Nat.reduceAdd,Nat.reduceSub,Nat.reduceMul,Nat.reduceLeDiff,Nat.reduceBEq,reduceCtorEq,Nat.reduceLT,Int.reduceLE,Int.reduceLT,Int.reduceToNat,Int.reduceNeg,Int.reduceAdd,Int.reduceEq,fL];first|(refine hN _ _ ?_;clear hN N)|skip)|(apply te;(simp only[go_sem, ↓reduceIte,Nat.reduceEqDiff,Nat.reduceAdd,Nat.reduceSub,Nat.reduceMul,Nat.reduceLeDiff,Nat.reduceBEq,reduceCtorEq,Nat.reduceLT,Int.reduceLE,Int.reduceLT,Int.reduceToNat,Int.reduceNeg,Int.reduceAdd,Int.reduceEq,fL];rfl);first|with_reducible apply nf.t|with_reducible apply nf.f)|(apply D8;refine hN _ _ ?_;clear hN N;try(simp only[dG,bu, ↓reduceIte,Nat.reduceEqDiff]);try(refine hN _ _ ?_;clear hN N))|apply td|(refine yK ?_ ?_ ?_;(focus(simp only[go_sem, ↓reduceIte,Nat.reduceEqDiff,Nat.reduceAdd,Nat.reduceSub,Nat.reduceMul,Nat.reduceLeDiff,Nat.reduceBEq,reduceCtorEq,Nat.reduceLT,Int.reduceLE,Int.reduceLT,Int.reduceToNat,Int.reduceNeg,Int.reduceAdd,Int.reduceEq,fL];done));(focus(simp only[go_sem, ↓reduceIte,Nat.reduceEqDiff,Nat.reduceAdd,Nat.reduceSub,Nat.reduceMul,Nat.reduceLeDiff,Nat.reduceBEq,reduceCtorEq,Nat.reduceLT,Int.reduceLE,Int.reduceLT,Int.reduceToNat,Int.reduceNeg,Int.reduceAdd,Int.reduceEq,fL];done)))|((first|apply yL|apply yJ|apply Eb);try(simp only[dG,bu, ↓reduceIte,Nat.reduceEqDiff]);try(refine hN _ _ ?_;clear hN N))|((first|refine hN _ _ ?_|(clear hN N;first|refine hN _ _ ?_|(clear hN N;first|refine hN _ _ ?_|(clear hN N;first|refine hN _ _ ?_|(clear hN N;refine hN _ _ ?_)))));clear hN N)))
  (repeat(revert hN;revert N;apply Pn.out))
  exact kk):G:=h a r
theorem wa {A R G:Prop} (a:A) (r:R) (h:A->R->G:=by
  intro fL kk
  (repeat(refine Pn.mk ?_;intro N hN))
  (first|((first|apply Ec|apply Ea);intro N hN)|((first|(refine LO rfl fun N hN=>?_)|(apply D9;intro N hN));simp only[go_sem, ↓reduceIte,Nat.reduceEqDiff,Nat.reduceAdd,Nat.reduceSub,Nat.reduceMul,Nat.reduceLeDiff,Nat.reduceBEq,reduceCtorEq,Nat.reduceLT,Int.reduceLE,Int.reduceLT,Int.reduceToNat,Int.reduceNeg,Int.reduceAdd,Int.reduceEq,fL];first|(refine hN _ _ ?_;clear hN N)|skip)|(apply te;(simp only[go_sem, ↓reduceIte,Nat.reduceEqDiff,Nat.reduceAdd,Nat.reduceSub,Nat.reduceMul,Nat.reduceLeDiff,Nat.reduceBEq,reduceCtorEq,Nat.reduceLT,Int.reduceLE,Int.reduceLT,Int.reduceToNat,Int.reduceNeg,Int.reduceAdd,Int.reduceEq,fL];rfl);first|with_reducible apply nf.t|with_reducible apply nf.f)|(apply D8;refine hN _ _ ?_;clear hN N;try(simp only[dG,bu, ↓reduceIte,Nat.reduceEqDiff]);try(refine hN _ _ ?_;clear hN N))|apply td|(refine yK ?_ ?_ ?_;(focus(simp only[go_sem, ↓reduceIte,Nat.reduceEqDiff,Nat.reduceAdd,Nat.reduceSub,Nat.reduceMul,Nat.reduceLeDiff,Nat.reduceBEq,reduceCtorEq,Nat.reduceLT,Int.reduceLE,Int.reduceLT,Int.reduceToNat,Int.reduceNeg,Int.reduceAdd,Int.reduceEq,fL];done));(focus(simp only[go_sem, ↓reduceIte,Nat.reduceEqDiff,Nat.reduceAdd,Nat.reduceSub,Nat.reduceMul,Nat.reduceLeDiff,Nat.reduceBEq,reduceCtorEq,Nat.reduceLT,Int.reduceLE,Int.reduceLT,Int.reduceToNat,Int.reduceNeg,Int.reduceAdd,Int.reduceEq,fL];done)))|((first|apply yL|apply yJ|apply Eb);try(simp only[dG,bu, ↓reduceIte,Nat.reduceEqDiff]);try(refine hN _ _ ?_;clear hN N))|((first|refine hN _ _ ?_|(clear hN N;first|refine hN _ _ ?_|(clear hN N;first|refine hN _ _ ?_|(clear hN N;first|refine hN _ _ ?_|(clear hN N;refine hN _ _ ?_)))));clear hN N))
  (repeat(first|((first|apply Ec|apply Ea);intro N hN)|((first|(refine LO rfl fun N hN=>?_)|(apply D9;intro N hN));simp only[go_sem, ↓reduceIte,Nat.reduceEqDiff,Nat.reduceAdd,Nat.reduceSub,Nat.reduceMul,Nat.reduceLeDiff,Nat.reduceBEq,reduceCtorEq,Nat.reduceLT,Int.reduceLE,Int.reduceLT,Int.reduceToNat,Int.reduceNeg,Int.reduceAdd,Int.reduceEq,fL];first|(refine hN _ _ ?_;clear hN N)|skip)|(apply te;(simp only[go_sem, ↓reduceIte,Nat.reduceEqDiff,Nat.reduceAdd,Nat.reduceSub,Nat.reduceMul,Nat.reduceLeDiff,Nat.reduceBEq,reduceCtorEq,Nat.reduceLT,Int.reduceLE,Int.reduceLT,Int.reduceToNat,Int.reduceNeg,Int.reduceAdd,Int.reduceEq,fL];rfl);first|with_reducible apply nf.t|with_reducible apply nf.f)|(apply D8;refine hN _ _ ?_;clear hN N;try(simp only[dG,bu, ↓reduceIte,Nat.reduceEqDiff]);try(refine hN _ _ ?_;clear hN N))|apply td|(refine yK ?_ ?_ ?_;(focus(simp only[go_sem, ↓reduceIte,Nat.reduceEqDiff,Nat.reduceAdd,Nat.reduceSub,Nat.reduceMul,Nat.reduceLeDiff,Nat.reduceBEq,reduceCtorEq,Nat.reduceLT,Int.reduceLE,Int.reduceLT,Int.reduceToNat,Int.reduceNeg,Int.reduceAdd,Int.reduceEq,fL];done));(focus(simp only[go_sem, ↓reduceIte,Nat.reduceEqDiff,Nat.reduceAdd,Nat.reduceSub,Nat.reduceMul,Nat.reduceLeDiff,Nat.reduceBEq,reduceCtorEq,Nat.reduceLT,Int.reduceLE,Int.reduceLT,Int.reduceToNat,Int.reduceNeg,Int.reduceAdd,Int.reduceEq,fL];done)))|((first|apply yL|apply yJ|apply Eb);try(simp only[dG,bu, ↓reduceIte,Nat.reduceEqDiff]);try(refine hN _ _ ?_;clear hN N))|((first|refine hN _ _ ?_|(clear hN N;first|refine hN _ _ ?_|(clear hN N;first|refine hN _ _ ?_|(clear hN N;first|refine hN _ _ ?_|(clear hN N;refine hN _ _ ?_)))));clear hN N)))
  (repeat(revert hN;revert N;apply Pn.out))
  exact kk):G:=h a r
theorem sd {A G:Prop} (a:A) (h:A->G:=by
  intro fL
  first|(simp only[go_sem, ↓reduceIte,Nat.reduceEqDiff,Nat.reduceAdd,Nat.reduceSub,Nat.reduceMul,Nat.reduceLeDiff,Nat.reduceBEq,reduceCtorEq,Nat.reduceLT,Int.reduceLE,Int.reduceLT,Int.reduceToNat,Int.reduceNeg,Int.reduceAdd,Int.reduceEq,fL,eV,gM];done)|fail):G:=h a
theorem sl {A G:Prop} (a:A) (h:A->G:=by
  intro fL
  (try simp only[go_sem, ↓reduceIte,Nat.reduceEqDiff,Nat.reduceAdd,Nat.reduceSub,Nat.reduceMul,Nat.reduceLeDiff,Nat.reduceBEq,reduceCtorEq,Nat.reduceLT,Int.reduceLE,Int.reduceLT,Int.reduceToNat,Int.reduceNeg,Int.reduceAdd,Int.reduceEq,fL])
  try rfl):G:=h a
end Go.Proofs.YtihgaadadaekmaaGreatDoor.V

namespace Go.Proofs.YtihgaadadaekmaaGreatDoor.V
open Go.RowKit
variable {P:Program} {X:fx} {env:Env} {σ:ax}
theorem bG (g:Rows) (n:Nat) (l:List AV):fz g (n+1) (.iN l)=(cm g n l).map AV.iN:=by rw[fz]
theorem cN (g:Rows) (n:Nat) (f:Nat) (l:List AV):fz g (n+1) (.fn f l)=if l.all AV.cell then(cm g n l).map (AV.fn f)else none:=by rw[fz]
theorem bo (g:Rows) (n:Nat) (id:Id) (i off:Nat):fz g (n+1) (.ptr id i off)=match g id with
  |some r=>if r.w then(match r.rows[i]? with
   |some cs=>(cm g n (cs.drop off)).map AV.cJ
   |none=>none)else none
  |none=>none:=by rw[fz];rfl
theorem fU (g:Rows) (n:Nat) (id:Id) (off len:Nat):fz g (n+1) (.own id off len)=match g id with
  |some r=>if r.w then(if off+len<=r.rows.length then(dz g n ((r.rows.drop off).take len)).map AV.sl else none)else none
  |none=>none:=by rw[fz];rfl
theorem kZ (g:Rows) (n:Nat):dz g n []=some []:=by rw[dz]
theorem qf (g:Rows) (n:Nat) (c:List AV) (l:List (List AV)):dz g n (c::l)=match cm g n c with
  |some b=>(dz g n l).map (b::·)
  |none=>none:=by rw[dz];cases cm g n c<;>rfl
theorem tP {g:Rows} {n:Nat}:∀{l:List (List AV)},(∀c∈l,cm g n c=some c)->dz g n l=some l
 |[],_=>by rw[dz]
 |c::r,h=>by rw[dz,h c (by simp),tP fun d hd=>h d (List.mem_cons_of_mem _ hd)];rfl
theorem mb {α:Type} {g:Rows} {n:Nat} {e:α->List AV} {l:List α} (h:∀x,cm g n (e x)=some (e x)):dz g n (l.map e)=some (l.map e):=tP fun c hc=>by
 obtain⟨x,_,rfl⟩:=List.mem_map.1 hc
 exact h x
theorem nI {α:Type} {g:Rows} {n:Nat} {e:α->List AV} {l:List α} (h:∀x,dH g n (e x)=some (e x)):gK g n (l.map e)=some (l.map e):=sb fun c hc=>by
 obtain⟨x,_,rfl⟩:=List.mem_map.1 hc
 exact h x
theorem e7 {α:Type} {g:Rows} {n:Nat} {e:α->List AV} {l:List α} {id:Id} {sz len:Nat} (hg:g id=some ⟨true,sz,l.map e⟩) (hl:len=l.length) (h:∀x,cm g n (e x)=some (e x)):fz g (n+1) (.own id 0 len)=some (.sl (l.map e)):=by
 subst hl
 rw[fU];simp only[hg,if_true]
 rw[if_pos (by simp),List.drop_zero,List.take_of_length_le (by simp),mb h];rfl
theorem fH {α:Type} {g:Rows} {n:Nat} {e:α->List AV} {l:List α} {id:Id} {sz len:Nat} (hg:g id=some ⟨true,sz,l.map e⟩) (hl:len=l.length) (h:∀x,dH g n (e x)=some (e x)):fD g (n+1) (.own id 0 len)=some (.sl (l.map e)):=by
 subst hl
 exact qg hg (by simp) (by rw[List.drop_zero,List.take_of_length_le (by simp),nI h])
theorem all_map {α:Type} {e:α->List AV} {sz:Nat} {l:List α} (h:∀x,(e x).length=sz/\(e x).all AV.cell=true):(l.map e).all (fun c=>c.length==sz&&c.all AV.cell)=true:=by
 rw[List.all_eq_true]
 intro c hc
 obtain⟨x,_,rfl⟩:=List.mem_map.1 hc
 simp[(h x).1,(h x).2]
def RowM (P:Program) (f:Nat) (args:List AV) (sz:Nat) (rows:List (List AV)):Prop:=(∀c∈rows,∀a∈c,a.plain=true)/\∀n:Nat,Call P f args ⟨fun _=>none,n⟩ fun r σ'=>∃id,r=.own id 0 rows.length/\σ'.get id=some ⟨true,sz,rows⟩
theorem sM {res:List oF} {r:AV} {vs:List AV} {x:Ex} (hx:x=.ret∨x=.normal) (hv:eV env σ.get res=some vs) (hz:fz σ.get 6 (eB vs)=some r):ll res (fun r0 σ'=>∃r',fz σ'.get 6 r0=some r'/\r'=r) x env σ:=by
 rcases hx with rfl|rfl
 ·exact⟨vs,hv,r,hz,rfl⟩
 ·exact⟨vs,hv,r,hz,rfl⟩
theorem jY {res:List oF} {r:AV} {vs:List AV} {x:Ex} (hx:x=.ret∨x=.normal) (hv:eV env σ.get res=some vs) (hz:fD σ.get 6 (eB vs)=some r):ll res (fun r0 σ'=>∃r',fD σ'.get 6 r0=some r'/\r'=r) x env σ:=by
 rcases hx with rfl|rfl
 ·exact⟨vs,hv,r,hz,rfl⟩
 ·exact⟨vs,hv,r,hz,rfl⟩
theorem gn {res:List oF} {K:AV->ax->Prop} {vs:List AV} {x:Ex} (hx:x=.ret∨x=.normal) (hv:eV env σ.get res=some vs) (hK:K (eB vs) σ):ll res K x env σ:=by
 rcases hx with rfl|rfl
 ·exact⟨vs,hv,hK⟩
 ·exact⟨vs,hv,hK⟩
theorem eX {f:Nat} {args:List AV} {σ:ax} {K:AV->ax->Prop} {nt na:Nat} {body:VC} {res:List oF} (hf:kO P f=some ⟨nt,na,body,res⟩) (ha:na=args.length) (h:(∀a∈args,eG a)->ea (Call P) body (ll res K) (cu args) σ):Call P f args σ K:=lD hf ha h
theorem Gs {f:Nat} {md:List (Nat×Nat)} {args:List AV} {σ:ax} {K:AV->ax->Prop} {nt na:Nat} {body:VC} {res:List oF} (hf:vh P f md=some ⟨nt,na,body,res⟩) (ha:na=args.length) (h:(∀a∈args,eG a)->ea (Call P) body (ll res K) (cu args) σ):Call P f args σ K:=th hf ha h
theorem eP {i:Id} {n:Nat} (h:i.cq<n):(∀s,(i=⟨s,n⟩)=False/\(i=⟨s,n+1⟩)=False/\(i=⟨s,n+1+1⟩)=False/\(i=⟨s,n+1+1+1⟩)=False/\(i=⟨s,n+1+1+1+1⟩)=False/\(i=⟨s,n+1+1+1+1+1⟩)=False/\(i=⟨s,n+1+1+1+1+1+1⟩)=False/\(i=⟨s,n+1+1+1+1+1+1+1⟩)=False/\(i=⟨s,n+1+1+1+1+1+1+1+1⟩)=False/\(i=⟨s,n+1+1+1+1+1+1+1+1+1⟩)=False/\(⟨s,n⟩=i)=False/\(⟨s,n+1⟩=i)=False/\(⟨s,n+1+1⟩=i)=False/\(⟨s,n+1+1+1⟩=i)=False/\(⟨s,n+1+1+1+1⟩=i)=False/\(⟨s,n+1+1+1+1+1⟩=i)=False/\(⟨s,n+1+1+1+1+1+1⟩=i)=False/\(⟨s,n+1+1+1+1+1+1+1⟩=i)=False/\(⟨s,n+1+1+1+1+1+1+1+1⟩=i)=False/\(⟨s,n+1+1+1+1+1+1+1+1+1⟩=i)=False)/\(i.cq=n)=False/\(i.cq=n+1)=False/\(i.cq=n+1+1)=False/\(i.cq=n+1+1+1)=False/\(i.cq=n+1+1+1+1)=False/\(i.cq=n+1+1+1+1+1)=False/\(i.cq=n+1+1+1+1+1+1)=False/\(i.cq=n+1+1+1+1+1+1+1)=False/\(i.cq=n+1+1+1+1+1+1+1+1)=False/\(i.cq=n+1+1+1+1+1+1+1+1+1)=False:=by
 refine⟨fun s=>?_,?_⟩
 ·obtain⟨a,b⟩:=i
  simp only[Id.mk.injEq,eq_iff_iff,iff_false,not_and]
  simp only at h
  refine⟨?_,?_,?_,?_,?_,?_,?_,?_,?_,?_,?_,?_,?_,?_,?_,?_,?_,?_,?_,?_⟩<;>(intros;omega)
 ·simp only[eq_iff_iff,iff_false]
  refine⟨?_,?_,?_,?_,?_,?_,?_,?_,?_,?_⟩<;>omega
def eO (a b:Nat) (ids:List Id):Prop:=ids.Nodup/\∀i∈ids,a<=i.cq/\i.cq<b
def Kept (σ σ':ax):Prop:=σ.next<=σ'.next/\∀j:Id,j.cq<σ.next->σ'.get j=σ.get j
theorem eO.wide {a b a' b':Nat} {ids:List Id} (h:eO a b ids) (h1:a'<=a) (h2:b<=b'):eO a' b' ids:=⟨h.1,fun i hi=>⟨Nat.le_trans h1 (h.2 i hi).1,Nat.lt_of_lt_of_le (h.2 i hi).2 h2⟩⟩
theorem eO.app {a b c d:Nat} {i j:List Id} (h:eO a b i) (k:eO c d j) (hbc:b<=c) (si:a<=b) (hcd:c<=d):eO a d (i++j):=
 ⟨List.nodup_append.2 ⟨h.1,k.1,fun x hx y hy e=>by subst e;have:=(h.2 x hx).2;have:=(k.2 x hy).1;omega⟩,fun x hx=>by
  rcases List.mem_append.1 hx with hx|hx
  ·have:=h.2 x hx;omega
  ·have:=k.2 x hx;omega⟩
end Go.Proofs.YtihgaadadaekmaaGreatDoor.V

namespace Go.Proofs.YtihgaadadaekmaaGreatDoor.V
open Go.RowKit
attribute [local irreducible] ea wpOps gS Call
attribute [local go_sem] aM fQ eM gi gh cE upd cu K.av cL AV.cells AV.cell rowOf rowsOf part ld rowAt bY ck dI eh ij bL da eA gp e8 du eo cY cX dV dW bR bm cQ bQ cT cR ej er ek cP bW cZ ei bP aQ cV cC ig bw cH bS aX dG bu dL AV.undef bF bH dY ef dU ec cF ez eF cw ev eu cU cW List.getD_cons_zero List.getD_cons_succ List.getD_nil List.all_cons List.all_nil Bool.and_true Bool.true_and Bool.and_self Bool.not_true Bool.not_false Option.map_some Option.map_none Option.bind_some Option.bind_none List.length_cons List.length_nil List.take_succ_cons List.take_zero List.take_nil List.drop_succ_cons List.drop_zero List.drop_nil List.head?_cons List.map_cons List.map_nil List.getElem?_cons_zero List.getElem?_cons_succ List.cons_append List.nil_append List.append_nil List.length_map List.set_cons_zero List.set_cons_succ Nat.reduceMul eq_self Int.toNat_natCast Int.natCast_nonneg and_self true_and and_true decide_true decide_false Bool.false_eq_true Nat.zero_add Nat.add_zero List.contains_cons List.contains_nil Bool.or_false Bool.false_or beq_self_eq_true Nat.reduceBEq ne_eq not_true_eq_false not_false_eq_true Id.mk.injEq false_and and_false Nat.reduceLT Int.reduceLE Int.reduceLT Int.reduceToNat Int.reduceNeg Int.reduceAdd Nat.le_refl List.length_append beq_true beq_false Bool.not_eq_eq_eq_not or_false false_or dE ad aj aI bE cj aV bf aU bo cN bG
variable {P:Program}
def IG (f g z:Nat):yN:=let s:=f*1000000
 ⟨27,2,(.seq (.eH false [q 4 (.db (.k (.int .i64 0))) s]) (.seq (.eH false [q 6 (.db (.t 1)) (s+1000),q 7 (.db (.t 0)) (s+1001),q 8 (.len (.t 7)) (s+1002),q 9 (.bin .sub .i64 (.t 6) (.t 8)) (s+1003),q 1 (.db (.t 9)) (s+1004)]) (.seq (.seq (.eH false [q 10 (.db (.t 1)) (s+2000),q 11 (.bin .lss .i64 (.t 10) (.k (.int .i64 0))) (s+2001)]) (.cond (.t 11) (.seq (.eH false [q 4 (.db (.k (.int .i64 (-1)))) (s+3000)]) .ret) .skip)) (.seq (.seq (.eH false [q 5 (.db (.k (.int .i64 0))) (s+4000)]) (.block 0 (.loop (.seq (.seq (.eH false [q 12 (.db (.t 5)) (s+5000),q 13 (.db (.t 0)) (s+5001),q 14 (.len (.t 13)) (s+5002),q 15 (.bin .lss .i64 (.t 12) (.t 14)) (s+5003)]) (.cond (.t 15) .skip (.exit 0))) (.seq (.block 1 (.seq (.eH false [q 18 (.db (.t 0)) (s+7000),q 19 (.db (.t 5)) (s+7001),q 20 (.dy z (.t 18) (.t 19)) (s+7002),q 21 (.load true z (.t 20)) (s+7003),q 22 (.db (.t 1)) (s+7004),q 23 (.call g [(.t 21),(.t 22)]) (s+7005),q 1 (.db (.t 23)) (s+7006)]) (.seq (.eH false [q 24 (.db (.t 1)) (s+8000),q 25 (.bin .lss .i64 (.t 24) (.k (.int .i64 0))) (s+8001)]) (.cond (.t 25) (.seq (.eH false [q 4 (.db (.k (.int .i64 (-1)))) (s+9000)]) .ret) .skip)))) (.eH false [q 16 (.db (.t 5)) (s+6000),q 17 (.bin .add .i64 (.t 16) (.k (.int .i64 1))) (s+6001),q 5 (.db (.t 17)) (s+6002)])))))) (.seq (.eH false [q 26 (.db (.t 1)) (s+10000),q 4 (.db (.t 26)) (s+10001)]) .ret))))),[(.tmp 4)]⟩
def D5 (f:Nat):yN:=let s:=f*1000000
 ⟨12,2,(.seq (.eH false [q 4 (.db (.k (.int .i64 0))) s]) (.seq (.eH false [q 5 (.db (.t 1)) (s+1000),q 6 (.db (.t 0)) (s+1001),q 7 (.len (.t 6)) (s+1002),q 8 (.bin .sub .i64 (.t 5) (.t 7)) (s+1003),q 1 (.db (.t 8)) (s+1004)]) (.seq (.seq (.eH false [q 9 (.db (.t 1)) (s+2000),q 10 (.bin .lss .i64 (.t 9) (.k (.int .i64 0))) (s+2001)]) (.cond (.t 10) (.seq (.eH false [q 4 (.db (.k (.int .i64 (-1)))) (s+3000)]) .ret) .skip)) (.seq (.eH false [q 11 (.db (.t 1)) (s+4000),q 4 (.db (.t 11)) (s+4001)]) .ret)))),[(.tmp 4)]⟩
def zz (f g z:Nat):yN:=let s:=f*1000000
 ⟨27,2,(.seq (.eH false [q 4 (.db (.k (.bool false))) s]) (.seq (.seq (.eH false [q 6 (.db (.t 0)) (s+1000),q 7 (.len (.t 6)) (s+1001),q 8 (.db (.t 1)) (s+1002),q 9 (.len (.t 8)) (s+1003),q 10 (.Mh true .tI (.t 7) (.t 9)) (s+1004)]) (.cond (.t 10) (.seq (.eH false [q 4 (.db (.k (.bool false))) (s+2000)]) .ret) .skip)) (.seq (.seq (.eH false [q 5 (.db (.k (.int .i64 0))) (s+3000)]) (.block 0 (.loop (.seq (.seq (.eH false [q 11 (.db (.t 5)) (s+4000),q 12 (.db (.t 0)) (s+4001),q 13 (.len (.t 12)) (s+4002),q 14 (.bin .lss .i64 (.t 11) (.t 13)) (s+4003)]) (.cond (.t 14) .skip (.exit 0))) (.seq (.block 1 (.seq (.eH true [q 17 (.db (.t 0)) (s+6000),q 18 (.db (.t 5)) (s+6001),q 19 (.dy z (.t 17) (.t 18)) (s+6002),q 20 (.load true z (.t 19)) (s+6003),q 21 (.db (.t 1)) (s+6004),q 22 (.db (.t 5)) (s+6005),q 23 (.dy z (.t 21) (.t 22)) (s+6006),q 24 (.load true z (.t 23)) (s+6007),q 25 (.call g [(.t 20),(.t 24)]) (s+6008),q 26 (.not (.t 25)) (s+6009)]) (.cond (.t 26) (.seq (.eH false [q 4 (.db (.k (.bool false))) (s+7000)]) .ret) .skip))) (.eH false [q 15 (.db (.t 5)) (s+5000),q 16 (.bin .add .i64 (.t 15) (.k (.int .i64 1))) (s+5001),q 5 (.db (.t 16)) (s+5002)])))))) (.seq (.eH false [q 4 (.db (.k (.bool true))) (s+8000)]) .ret)))),[(.tmp 4)]⟩
def Lh (f:Nat) (t:TS):yN:=let s:=f*1000000
 ⟨26,2,(.seq (.eH false [q 4 (.db (.k (.bool false))) s]) (.seq (.seq (.eH false [q 6 (.db (.t 0)) (s+1000),q 7 (.len (.t 6)) (s+1001),q 8 (.db (.t 1)) (s+1002),q 9 (.len (.t 8)) (s+1003),q 10 (.Mh true .tI (.t 7) (.t 9)) (s+1004)]) (.cond (.t 10) (.seq (.eH false [q 4 (.db (.k (.bool false))) (s+2000)]) .ret) .skip)) (.seq (.seq (.eH false [q 5 (.db (.k (.int .i64 0))) (s+3000)]) (.block 0 (.loop (.seq (.seq (.eH false [q 11 (.db (.t 5)) (s+4000),q 12 (.db (.t 0)) (s+4001),q 13 (.len (.t 12)) (s+4002),q 14 (.bin .lss .i64 (.t 11) (.t 13)) (s+4003)]) (.cond (.t 14) .skip (.exit 0))) (.seq (.block 1 (.seq (.eH true [q 17 (.db (.t 0)) (s+6000),q 18 (.db (.t 5)) (s+6001),q 19 (.dy 1 (.t 17) (.t 18)) (s+6002),q 20 (.load false 1 (.t 19)) (s+6003),q 21 (.db (.t 1)) (s+6004),q 22 (.db (.t 5)) (s+6005),q 23 (.dy 1 (.t 21) (.t 22)) (s+6006),q 24 (.load false 1 (.t 23)) (s+6007),q 25 (.Mh true t (.t 20) (.t 24)) (s+6008)]) (.cond (.t 25) (.seq (.eH false [q 4 (.db (.k (.bool false))) (s+7000)]) .ret) .skip))) (.eH false [q 15 (.db (.t 5)) (s+5000),q 16 (.bin .add .i64 (.t 15) (.k (.int .i64 1))) (s+5001),q 5 (.db (.t 16)) (s+5002)])))))) (.seq (.eH false [q 4 (.db (.k (.bool true))) (s+8000)]) .ret)))),[(.tmp 4)]⟩
def o8 (f g z:Nat) (zero:List K):yN:=let s:=f*1000000
 ⟨23,1,(.seq (.eH false [q 2 (.db (.k .bK)) s]) (.seq (.eH false [q 5 (.db (.t 0)) (s+1000),q 6 (.len (.t 5)) (s+1001),q 7 (.jB zero (.t 6) (.t 6)) (s+1002),q 3 (.db (.t 7)) (s+1003)]) (.seq (.seq (.eH false [q 4 (.db (.k (.int .i64 0))) (s+2000)]) (.block 0 (.loop (.seq (.seq (.eH false [q 8 (.db (.t 4)) (s+3000),q 9 (.db (.t 0)) (s+3001),q 10 (.len (.t 9)) (s+3002),q 11 (.bin .lss .i64 (.t 8) (.t 10)) (s+3003)]) (.cond (.t 11) .skip (.exit 0))) (.seq (.block 1 (.eH false [q 14 (.db (.t 3)) (s+5000),q 15 (.db (.t 4)) (s+5001),q 16 (.db (.t 0)) (s+5002),q 17 (.db (.t 4)) (s+5003),q 18 (.dy z (.t 16) (.t 17)) (s+5004),q 19 (.load true z (.t 18)) (s+5005),q 20 (.call g [(.t 19)]) (s+5006),q 21 (.dy z (.t 14) (.t 15)) (s+5007),⟨none,(.store z (.t 21) (.t 20)),none,(s+5008),[]⟩])) (.eH false [q 12 (.db (.t 4)) (s+4000),q 13 (.bin .add .i64 (.t 12) (.k (.int .i64 1))) (s+4001),q 4 (.db (.t 13)) (s+4002)])))))) (.seq (.eH false [q 22 (.db (.t 3)) (s+6000),q 2 (.db (.t 22)) (s+6001)]) .ret)))),[(.tmp 2)]⟩
def IV (f:Nat) (zero:K):yN:=let s:=f*1000000
 ⟨22,1,(.seq (.eH false [q 2 (.db (.k .bK)) s]) (.seq (.eH false [q 5 (.db (.t 0)) (s+1000),q 6 (.len (.t 5)) (s+1001),q 7 (.jB [zero] (.t 6) (.t 6)) (s+1002),q 3 (.db (.t 7)) (s+1003)]) (.seq (.seq (.eH false [q 4 (.db (.k (.int .i64 0))) (s+2000)]) (.block 0 (.loop (.seq (.seq (.eH false [q 8 (.db (.t 4)) (s+3000),q 9 (.db (.t 0)) (s+3001),q 10 (.len (.t 9)) (s+3002),q 11 (.bin .lss .i64 (.t 8) (.t 10)) (s+3003)]) (.cond (.t 11) .skip (.exit 0))) (.seq (.block 1 (.eH false [q 14 (.db (.t 3)) (s+5000),q 15 (.db (.t 4)) (s+5001),q 16 (.db (.t 0)) (s+5002),q 17 (.db (.t 4)) (s+5003),q 18 (.dy 1 (.t 16) (.t 17)) (s+5004),q 19 (.load false 1 (.t 18)) (s+5005),q 20 (.dy 1 (.t 14) (.t 15)) (s+5006),⟨none,(.store 1 (.t 20) (.t 19)),none,(s+5007),[]⟩])) (.eH false [q 12 (.db (.t 4)) (s+4000),q 13 (.bin .add .i64 (.t 12) (.k (.int .i64 1))) (s+4001),q 4 (.db (.t 13)) (s+4002)])))))) (.seq (.eH false [q 21 (.db (.t 3)) (s+6000),q 2 (.db (.t 21)) (s+6001)]) .ret)))),[(.tmp 2)]⟩
def ta (n:Nat) (l:Int):Int:=if (n:Int)<=l then l-n else -1
theorem CP {fk:Nat} (hc:kO P fk=some (D5 fk)) (rows:List (List AV)) (left:Int) (h0:0<=left) (h1:left<=1048576):ae P fk [.sl rows,.int .i64 left] (.int .i64 (ta rows.length left)):=by
 refine ae.body hc rfl fun hl n0=>?_
 try simp only[q]
 have hn:rows.length<=9223372036854775807:=(hl (.sl rows) (by simp)).len
 clear hl
 have hw:IntKind.i64.wrap (left-(rows.length:Int))=left-rows.length:=aT ab
 by_cases hf:(rows.length:Int)<=left
 ·have kM:¬left-(rows.length:Int)<0:=ab
  (try((repeat(revert hN;revert N;apply Pn.out));refine wk (tw @hw @kM) ?_;(repeat(refine Pn.mk ?_;intro N hN))))
  exact aZ (b:=left-(rows.length:Int)) (.inl rfl) (sd @Nat.zero_add) (by rw[ta,if_pos hf])
 ·have kM:left-(rows.length:Int)<0:=ab
  (try((repeat(revert hN;revert N;apply Pn.out));refine wk (tw @hw @kM) ?_;(repeat(refine Pn.mk ?_;intro N hN))))
  exact aZ (b:=-1) (.inl rfl) (sd @Nat.zero_add) (by rw[ta,if_neg hf])
def eW {α:Type} (f:α->Nat) (xs:List α) (k:Nat):Nat:=((xs.take k).map f).sum
theorem gE {α:Type} (f:α->Nat) (xs:List α):eW f xs 0=0:=by simp[eW]
theorem qL {α:Type} (f:α->Nat) (xs:List α):eW f xs xs.length=(xs.map f).sum:=by simp[eW]
theorem mu {α:Type} (f:α->Nat) {xs:List α} {k:Nat} (hk:k<xs.length):eW f xs (k+1)=eW f xs k+f xs[k]:=by
 unfold eW
 rw[List.take_succ_eq_append_getElem hk,List.map_append,List.sum_append];simp
theorem jC {α:Type} (f:α->Nat) (xs:List α) (k:Nat):eW f xs k<=(xs.map f).sum:=by
 unfold eW
 conv=>rhs;rw[<-List.take_append_drop k xs]
 rw[List.map_append,List.sum_append];omega
theorem IH {α:Type} {e:α->List AV} {z fk gk:Nat} (wt:α->Nat) (hc:kO P fk=some (IG fk gk z)) (hz:∀x,(e x).length=z) (Dw:∀x g,cm g 6 [.agg (e x)]=some [.agg (e x)]) (xs:List α) (left:Int) (h0:0<=left) (h1:left<=1048576)
  (hg:∀x∈xs,∀l:Int,0<=l->l<=1048576->ae P gk [.agg (e x),.int .i64 l] (.int .i64 (ta (wt x) l))):ae P fk [.sl (xs.map e),.int .i64 left] (.int .i64 (ta (xs.length+(xs.map wt).sum) left)):=by
 refine ae.body hc rfl fun hl n0=>?_
 try simp only[q]
 have hn:xs.length<=9223372036854775807:=by simpa using(hl (.sl (xs.map e)) (by simp)).len
 clear hl
 have hw:IntKind.i64.wrap (left-(xs.length:Int))=left-xs.length:=aT ab
 by_cases hf:(xs.length:Int)<=left
 ·have kM:¬left-(xs.length:Int)<0:=ab
  (try((repeat(revert hN;revert N;apply Pn.out));refine wk (tw @hw @kM) ?_;(repeat(refine Pn.mk ?_;intro N hN))))
  refine aP (fun n env st=>∃k:Nat,n=(xs.length)-k/\k<=(xs.length)/\env 5=.int .i64 (k:Int)/\env 1=(.int .i64 (left-xs.length-(eW wt xs k:Nat)))/\(0<=left-xs.length-(eW wt xs k:Nat))) (xs.length) ⟨0,ab,ab,sl (tw @gE (tw @Int.natCast_zero @Int.sub_zero)),sl (tw @gE (tw @Int.natCast_zero @Int.sub_zero)),(by rw[gE];omega)⟩ ?_
  rintro n_a env_a st_a ⟨k,rfl,ale,a5,a1,j0⟩ dm
  have a0:=dm 0 (by kernel_rfl)
  simp only[go_sem, ↓reduceIte,Nat.reduceEqDiff,Nat.reduceAdd,Nat.reduceSub,Nat.reduceLeDiff,reduceCtorEq,gE,Int.natCast_zero,Int.sub_zero]at a0
  clear dm
  by_cases hk:(k:Int)<(xs.length:Int)
  ·have bD:∀{e:Env},(e 5=.int .i64 (IntKind.i64.wrap ((k:Int)+1)))->(e 1=(.int .i64 (left-xs.length-(eW wt xs (k+1):Nat))))->(0<=left-xs.length-(eW wt xs (k+1):Nat))->∃m0,m0<(xs.length)-k/\∃k:Nat,m0=(xs.length)-k/\k<=(xs.length)/\e 5=.int .i64 (k:Int)/\e 1=(.int .i64 (left-xs.length-(eW wt xs k:Nat)))/\(0<=left-xs.length-(eW wt xs k:Nat)):=fun x1 x2 x3=>⟨_,ab,k+1,rfl,ab,(by rw[x1,ay ab]),x2,x3⟩
   have dX:k<xs.length:=ab
   have eD:(xs.map e)[k]? =some (e xs[k]):=by simp[dX]
   have sk:=hz xs[k]
   have ht:(e xs[k]).take z=e xs[k]:=by rw[<-sk,List.take_length]
   have hs:=mu wt dX
   have s4:=jC wt xs (k+1)
   have fu:=hg _ (List.getElem_mem dX) (left-xs.length-(eW wt xs k:Nat)) j0 ab
   have k7:cm (dE st_a.get) 6 [.agg (e xs[k]),.int .i64 (left-xs.length-(eW wt xs k:Nat))]=some [.agg (e xs[k]),.int .i64 (left-xs.length-(eW wt xs k:Nat))]:=by
    have q1:=Dw xs[k] (dE st_a.get)
    rw[ad,aj]at q1
    rw[ad,ad,aj,aI]
    revert q1
    cases V.fz (dE st_a.get) 6 (.agg (e xs[k]))<;>simp
   by_cases vw:(wt xs[k]:Int)<=left-xs.length-(eW wt xs k:Nat)
   ·rw[ta,if_pos vw]at fu
    have OB:¬left-xs.length-(eW wt xs k:Nat)-(wt xs[k]:Int)<0:=ab
    have ua:left-xs.length-(eW wt xs k:Nat)-(wt xs[k]:Int)=left-xs.length-(eW wt xs (k+1):Nat):=by rw[hs];omega
    generalize hex:e xs[k]=c at fu k7 eD sk ht
    (try((repeat(revert hN;revert N;apply Pn.out));refine wk (tw @a5 (tw @a1 (tw @a0 (tw @hk (tw @eD (tw @sk (tw @ht @Nat.le_refl))))))) ?_;(repeat(refine Pn.mk ?_;intro N hN))))
    refine .inl ⟨_,ae.x fu k7,?_⟩
    refine hN _ _ ?_
    clear hN N
    (try((repeat(revert hN;revert N;apply Pn.out));refine wk (tw @a5 (tw @a1 (tw @a0 @OB))) ?_;(repeat(refine Pn.mk ?_;intro N hN))))
    refine bD ?_ ?_ ((by rw[hs];omega))
    all_goals simp only[go_sem, ↓reduceIte,Nat.reduceEqDiff,Nat.reduceAdd,Nat.reduceSub,Nat.reduceLeDiff,reduceCtorEq,a5,a1,a0,ua]
   ·rw[ta,if_neg vw]at fu
    generalize hex:e xs[k]=c at fu k7 eD sk ht
    (try((repeat(revert hN;revert N;apply Pn.out));refine wk (tw @a5 (tw @a1 (tw @a0 (tw @hk (tw @eD (tw @sk (tw @ht @Nat.le_refl))))))) ?_;(repeat(refine Pn.mk ?_;intro N hN))))
    refine .inl ⟨_,ae.x fu k7,?_⟩
    refine hN _ _ ?_
    clear hN N
    (try((repeat(revert hN;revert N;apply Pn.out));refine wk (tw @a5 (tw @a1 @a0)) ?_;(repeat(refine Pn.mk ?_;intro N hN))))
    exact aZ (b:=-1) (.inl rfl) (sd @Nat.zero_add) (by rw[ta,if_neg ab])
  ·(try((repeat(revert hN;revert N;apply Pn.out));refine wk (tw @a5 (tw @a1 (tw @a0 @hk))) ?_;(repeat(refine Pn.mk ?_;intro N hN))))
   have dX:k=xs.length:=ab
   subst dX
   have PG:=qL wt xs
   exact aZ (b:=left-xs.length-(eW wt xs xs.length:Nat)) (.inl rfl) (sd (tw @a5 (tw @a1 @a0))) (by rw[ta,if_pos ab];omega)
 ·have kM:left-(xs.length:Int)<0:=ab
  (try((repeat(revert hN;revert N;apply Pn.out));refine wk (tw @hw @kM) ?_;(repeat(refine Pn.mk ?_;intro N hN))))
  exact aZ (b:=-1) (.inl rfl) (sd @Nat.zero_add) (by rw[ta,if_neg ab])
theorem G6 {α:Type} {xs ys:List α} (hl:xs.length=ys.length) (h:∀j:Nat,j<xs.length->∀(h1:j<xs.length) (h2:j<ys.length),xs[j]=ys[j]):xs=ys:=List.ext_getElem hl fun j h1 h2=>h j h1 h1 h2
theorem xD {α:Type} [DecidableEq α] {e:α->List AV} {z fk gk:Nat} (hc:kO P fk=some (zz fk gk z)) (hz:∀x,(e x).length=z) (Dw:∀x g,cm g 6 [.agg (e x)]=some [.agg (e x)]) (xs ys:List α)
  (hg:∀x y,ae P gk [.agg (e x),.agg (e y)] (.bool (decide (x=y)))):ae P fk [.sl (xs.map e),.sl (ys.map e)] (.bool (decide (xs=ys))):=by
 refine ae.body hc rfl fun hl n0=>?_
 try simp only[q]
 have hn:xs.length<=9223372036854775807:=by simpa using(hl (.sl (xs.map e)) (by simp)).len
 clear hl
 by_cases hlen:xs.length=ys.length
 ·have kj:decide ((xs.length:Int)=(ys.length:Int))=true:=by simp[hlen]
  (try((repeat(revert hN;revert N;apply Pn.out));refine wk @kj ?_;(repeat(refine Pn.mk ?_;intro N hN))))
  refine aP (fun n env st=>∃k:Nat,n=(xs.length)-k/\k<=(xs.length)/\env 5=.int .i64 (k:Int)/\(∀j:Nat,j<k->∀(h1:j<xs.length) (h2:j<ys.length),xs[j]=ys[j])) (xs.length) ⟨0,ab,ab,sl @Nat.zero_add,fun _ h=>absurd h (Nat.not_lt_zero _)⟩ ?_
  rintro n_a env_a st_a ⟨k,rfl,ale,a5,iO⟩ dm
  have a0:=dm 0 (by kernel_rfl);have a1:=dm 1 (by kernel_rfl)
  simp only[go_sem, ↓reduceIte,Nat.reduceEqDiff,Nat.reduceAdd,Nat.reduceSub,Nat.reduceLeDiff,reduceCtorEq]at a0 a1
  clear dm
  by_cases hk:(k:Int)<(xs.length:Int)
  ·have bD:∀{e:Env},(e 5=.int .i64 (IntKind.i64.wrap ((k:Int)+1)))->(∀(h1:k<xs.length) (h2:k<ys.length),xs[k]=ys[k])->∃m0,m0<(xs.length)-k/\∃k:Nat,m0=(xs.length)-k/\k<=(xs.length)/\e 5=.int .i64 (k:Int)/\(∀j:Nat,j<k->∀(h1:j<xs.length) (h2:j<ys.length),xs[j]=ys[j]):=fun x1 x2=>⟨_,ab,k+1,rfl,ab,(by rw[x1,ay ab]),(all_succ iO x2)⟩
   have dX:k<xs.length:=ab
   have Rf:k<ys.length:=ab
   have eD:(xs.map e)[k]? =some (e xs[k]):=by simp[dX]
   have BW:(ys.map e)[k]? =some (e ys[k]):=by simp[Rf]
   have sk:=hz xs[k]
   have B7:=hz ys[k]
   have ht:(e xs[k]).take z=e xs[k]:=by rw[<-sk,List.take_length]
   have Gj:(e ys[k]).take z=e ys[k]:=by rw[<-B7,List.take_length]
   have fu:=hg xs[k] ys[k]
   have k7:∀g,cm g 6 [.agg (e xs[k]),.agg (e ys[k])]=some [.agg (e xs[k]),.agg (e ys[k])]:=fun g=>by
    have q1:=Dw xs[k] g
    have q2:=Dw ys[k] g
    rw[ad,aj]at q1
    rw[ad,q2]
    revert q1
    cases V.fz g 6 (.agg (e xs[k]))<;>simp
   by_cases heq:xs[k]=ys[k]
   ·rw[decide_eq_true heq]at fu
    generalize hex:e xs[k]=c at fu k7 eD sk ht
    generalize hey:e ys[k]=d at fu k7 BW B7 Gj
    (try((repeat(revert hN;revert N;apply Pn.out));refine wk (tw @a5 (tw @a0 (tw @a1 (tw @hk (tw @eD (tw @BW (tw @sk (tw @B7 (tw @ht (tw @Gj @Nat.le_refl)))))))))) ?_;(repeat(refine Pn.mk ?_;intro N hN))))
    refine⟨_,ae.x fu (k7 _),?_⟩
    refine hN _ _ ?_
    clear hN N
    (try((repeat(revert hN;revert N;apply Pn.out));refine wk (tw @a5 (tw @a0 @a1)) ?_;(repeat(refine Pn.mk ?_;intro N hN))))
    exact bD (sd (tw @a5 (tw @a0 @a1))) (fun _ _=>heq)
   ·rw[decide_eq_false heq]at fu
    generalize hex:e xs[k]=c at fu k7 eD sk ht
    generalize hey:e ys[k]=d at fu k7 BW B7 Gj
    (try((repeat(revert hN;revert N;apply Pn.out));refine wk (tw @a5 (tw @a0 (tw @a1 (tw @hk (tw @eD (tw @BW (tw @sk (tw @B7 (tw @ht (tw @Gj @Nat.le_refl)))))))))) ?_;(repeat(refine Pn.mk ?_;intro N hN))))
    refine⟨_,ae.x fu (k7 _),?_⟩
    refine hN _ _ ?_
    clear hN N
    (try((repeat(revert hN;revert N;apply Pn.out));refine wk (tw @a5 (tw @a0 @a1)) ?_;(repeat(refine Pn.mk ?_;intro N hN))))
    exact aC (b:=false) (.inl rfl) (sd @Nat.zero_add) (decide_eq_false fun h=>heq (List.getElem_of_eq h _)).symm
  ·(try((repeat(revert hN;revert N;apply Pn.out));refine wk (tw @a5 (tw @a0 (tw @a1 @hk))) ?_;(repeat(refine Pn.mk ?_;intro N hN))))
   exact aC (b:=true) (.inl rfl) (sd @Nat.zero_add) (decide_eq_true (G6 hlen fun j hj h1 h2=>iO j ab h1 h2)).symm
 ·have kj:decide ((xs.length:Int)=(ys.length:Int))=false:=decide_eq_false fun h=>hlen ab
  (try((repeat(revert hN;revert N;apply Pn.out));refine wk @kj ?_;(repeat(refine Pn.mk ?_;intro N hN))))
  exact aC (b:=false) (.inl rfl) (sd @Nat.zero_add) (decide_eq_false fun h=>hlen (by subst h;rfl)).symm
theorem O9 {fk:Nat} (hc:kO P fk=some (Lh fk .tI)) (xs ys:List Int):
  ae P fk [.sl (xs.map fun x=>[AV.int .i64 x]),.sl (ys.map fun x=>[AV.int .i64 x])] (.bool (decide (xs=ys))):=by
 refine ae.body hc rfl fun hl n0=>?_
 try simp only[q]
 have hn:xs.length<=9223372036854775807:=by simpa using(hl (.sl (xs.map fun x=>[AV.int .i64 x])) (by simp)).len
 clear hl
 by_cases hlen:xs.length=ys.length
 ·have kj:decide ((xs.length:Int)=(ys.length:Int))=true:=by simp[hlen]
  (try((repeat(revert hN;revert N;apply Pn.out));refine wk @kj ?_;(repeat(refine Pn.mk ?_;intro N hN))))
  refine aP (fun n env st=>∃k:Nat,n=(xs.length)-k/\k<=(xs.length)/\env 5=.int .i64 (k:Int)/\(∀j:Nat,j<k->∀(h1:j<xs.length) (h2:j<ys.length),xs[j]=ys[j])) (xs.length) ⟨0,ab,ab,sl @Nat.zero_add,fun _ h=>absurd h (Nat.not_lt_zero _)⟩ ?_
  rintro n_a env_a st_a ⟨k,rfl,ale,a5,iO⟩ dm
  have a0:=dm 0 (by kernel_rfl);have a1:=dm 1 (by kernel_rfl)
  simp only[go_sem, ↓reduceIte,Nat.reduceEqDiff,Nat.reduceAdd,Nat.reduceSub,Nat.reduceLeDiff,reduceCtorEq]at a0 a1
  clear dm
  by_cases hk:(k:Int)<(xs.length:Int)
  ·have bD:∀{e:Env},(e 5=.int .i64 (IntKind.i64.wrap ((k:Int)+1)))->(∀(h1:k<xs.length) (h2:k<ys.length),xs[k]=ys[k])->∃m0,m0<(xs.length)-k/\∃k:Nat,m0=(xs.length)-k/\k<=(xs.length)/\e 5=.int .i64 (k:Int)/\(∀j:Nat,j<k->∀(h1:j<xs.length) (h2:j<ys.length),xs[j]=ys[j]):=fun x1 x2=>⟨_,ab,k+1,rfl,ab,(by rw[x1,ay ab]),(all_succ iO x2)⟩
   have dX:k<xs.length:=ab
   have Rf:k<ys.length:=ab
   have eD:(xs.map fun x=>[AV.int .i64 x])[k]? =some [.int .i64 xs[k]]:=by simp[dX]
   have BW:(ys.map fun x=>[AV.int .i64 x])[k]? =some [.int .i64 ys[k]]:=by simp[Rf]
   by_cases heq:xs[k]=ys[k]
   ·have hq:=decide_eq_true heq
    (try((repeat(revert hN;revert N;apply Pn.out));refine wk (tw @a5 (tw @a0 (tw @a1 (tw @hk (tw @eD (tw @BW @hq)))))) ?_;(repeat(refine Pn.mk ?_;intro N hN))))
    exact bD (sd (tw @a5 (tw @a0 @a1))) (fun _ _=>heq)
   ·have hq:=decide_eq_false heq
    (try((repeat(revert hN;revert N;apply Pn.out));refine wk (tw @a5 (tw @a0 (tw @a1 (tw @hk (tw @eD (tw @BW @hq)))))) ?_;(repeat(refine Pn.mk ?_;intro N hN))))
    exact aC (b:=false) (.inl rfl) (sd @Nat.zero_add) (decide_eq_false fun h=>heq (List.getElem_of_eq h _)).symm
  ·(try((repeat(revert hN;revert N;apply Pn.out));refine wk (tw @a5 (tw @a0 (tw @a1 @hk))) ?_;(repeat(refine Pn.mk ?_;intro N hN))))
   exact aC (b:=true) (.inl rfl) (sd @Nat.zero_add) (decide_eq_true (G6 hlen fun j hj h1 h2=>iO j ab h1 h2)).symm
 ·have kj:decide ((xs.length:Int)=(ys.length:Int))=false:=decide_eq_false fun h=>hlen ab
  (try((repeat(revert hN;revert N;apply Pn.out));refine wk @kj ?_;(repeat(refine Pn.mk ?_;intro N hN))))
  exact aC (b:=false) (.inl rfl) (sd @Nat.zero_add) (decide_eq_false fun h=>hlen (by subst h;rfl)).symm
theorem tu (l:List AV):l++[]=l:=List.append_nil l
def gr {α:Type} (e:α->List AV) (zc:List AV) (xs:List α) (k:Nat):List (List AV):=(xs.take k).map e++List.replicate (xs.length-k) zc
theorem nB {α:Type} (e:α->List AV) (zc:List AV) (xs:List α):List.replicate xs.length zc=gr e zc xs 0:=by simp[gr]
theorem pj {α:Type} (e:α->List AV) (zc:List AV) (xs:List α):gr e zc xs xs.length=xs.map e:=by simp[gr]
theorem pk {α:Type} (e:α->List AV) (zc:List AV) (xs:List α) {k:Nat} (hk:k<xs.length):(gr e zc xs k)[k]? =some zc:=by
 have h1:((xs.take k).map e).length=k:=by simp;omega
 rw[gr,List.getElem?_append_right ab,h1,Nat.sub_self,List.getElem?_replicate,if_pos ab]
theorem po {α:Type} (e:α->List AV) (zc:List AV) (xs:List α) {k:Nat} (hk:k<xs.length):(gr e zc xs k).set k (e xs[k])=gr e zc xs (k+1):=by
 have h1:((xs.take k).map e).length=k:=by simp;omega
 rw[gr,List.set_append_right _ _ ab,h1,Nat.sub_self,gr,List.take_succ_eq_append_getElem hk,List.map_append,List.append_assoc]
 congr 1
 obtain⟨m,hm⟩:∃m,xs.length-k=m+1:=⟨xs.length-k-1,ab⟩
 rw[hm,show xs.length-(k+1)=m by omega,List.replicate_succ]
 rfl
theorem yF {α:Type} {en:α->List AV} {z fk gk:Nat} {zero:List K} (hc:kO P fk=some (o8 fk gk z zero)) (Gn:zero.length=z) (hz:∀x,(en x).length=z) (jU:∀x,(en x).all AV.cell=true) (Dw:∀x g,cm g 5 (en x)=some (en x)) (xs:List α) (hlen:xs.length<=1048576)
  (hg:∀x∈xs,iP P gk [.agg (en x)] (.agg (en x))):iP P fk [.sl (xs.map en)] (.sl (xs.map en)):=by
 refine iP.body hc rfl fun hl σ=>?_
 try simp only[q]
 clear hl
 have hm:(xs.length:Int)<=((16777216:Nat):Int):=ab
 have h0:(0:Int)<=(xs.length:Int):=ab
 (try((repeat(revert hN;revert N;apply Pn.out));refine wk (tw @hm (tw @h0 (tw @Int.le_refl (tw (nB en (zero.map K.av) xs) @Gn)))) ?_;(repeat(refine Pn.mk ?_;intro N hN))))
 refine aP (fun n env st=>∃k:Nat,n=(xs.length)-k/\k<=(xs.length)/\env 4=.int .i64 (k:Int)/\st.get ⟨fk*1000000+1002,σ.next+1⟩=some ⟨true,z,gr en (zero.map K.av) xs k⟩) (xs.length) ⟨0,ab,ab,sl @Nat.zero_add,sl @Nat.zero_add⟩ ?_
 rintro n_a env_a st_a ⟨k,rfl,ale,a4,ag0⟩ dm
 have a0:=dm 0 (by kernel_rfl);have a3:=dm 3 (by kernel_rfl)
 simp only[go_sem, ↓reduceIte,Nat.reduceEqDiff,Nat.reduceAdd,Nat.reduceSub,Nat.reduceLeDiff,reduceCtorEq]at a0 a3
 clear dm
 by_cases hk:(k:Int)<(xs.length:Int)
 ·have bD:∀{e:Env} {gg:Rows},(e 4=.int .i64 (IntKind.i64.wrap ((k:Int)+1)))->(gg ⟨fk*1000000+1002,σ.next+1⟩=some ⟨true,z,gr en (zero.map K.av) xs (k+1)⟩)->∃m0,m0<(xs.length)-k/\∃k:Nat,m0=(xs.length)-k/\k<=(xs.length)/\e 4=.int .i64 (k:Int)/\gg ⟨fk*1000000+1002,σ.next+1⟩=some ⟨true,z,gr en (zero.map K.av) xs k⟩:=fun x1 x2=>⟨_,ab,k+1,rfl,ab,(by rw[x1,ay ab]),x2⟩
  have dX:k<xs.length:=ab
  have eD:(xs.map en)[k]? =some (en xs[k]):=by simp[dX]
  have sk:=hz xs[k]
  have Jb:=jU xs[k]
  have ht:(en xs[k]).take z=en xs[k]:=by rw[<-sk,List.take_length]
  have fu:=hg _ (List.getElem_mem dX)
  have fI:=pk en (zero.map K.av) xs dX
  have dP:=po en (zero.map K.av) xs dX
  have Hk:(zero.map K.av).drop z=[]:=List.drop_of_length_le (by simp[Gn])
  generalize hex:en xs[k]=c at fu eD sk ht Jb dP
  (repeat(first|((repeat(revert hN;revert N;apply Pn.out));refine wk (tw @a4 (tw @ag0 (tw @a0 (tw @a3 (tw @hk (tw @eD (tw @sk (tw @ht (tw @Nat.le_refl (tw @fI (tw @dP (tw @Hk (tw @tu (tw @Jb @Gn)))))))))))))) ?_;(repeat(refine Pn.mk ?_;intro N hN)))|((try apply Or.inl);refine⟨_,iP.x (fu) _,?_⟩;refine hN _ _ ?_;clear hN N)))
  refine bD ?_ ?_
  all_goals simp only[go_sem, ↓reduceIte,Nat.reduceEqDiff,Nat.reduceAdd,Nat.reduceSub,Nat.reduceLeDiff,reduceCtorEq,a4,ag0,a0,a3]
 ·(try((repeat(revert hN;revert N;apply Pn.out));refine wk (tw @a4 (tw @ag0 (tw @a0 (tw @a3 @hk)))) ?_;(repeat(refine Pn.mk ?_;intro N hN))))
  have dX:k=xs.length:=ab
  subst dX
  refine QC (.inl rfl) (r0:=.own ⟨fk*1000000+1002,σ.next+1⟩ 0 xs.length) (sd (tw @a4 (tw @ag0 (tw @a0 @a3)))) ?_
  rw[pj]at ag0
  exact e7 ag0 (by simp) fun x=>Dw x _
theorem QF {fk:Nat} (hc:kO P fk=some (IV fk (.int .i64 0))) (xs:List Int) (hlen:xs.length<=1048576):iP P fk [.sl (xs.map fun x=>[AV.int .i64 x])] (.sl (xs.map fun x=>[AV.int .i64 x])):=by
 refine iP.body hc rfl fun hl σ=>?_
 try simp only[q]
 clear hl
 obtain⟨en,Jc⟩:∃en:Int->List AV,en=fun x=>[AV.int .i64 x]:=⟨_,rfl⟩
 rw[<-Jc]
 have hm:(xs.length:Int)<=((16777216:Nat):Int):=ab
 have h0:(0:Int)<=(xs.length:Int):=ab
 (try((repeat(revert hN;revert N;apply Pn.out));refine wk (tw @hm (tw @h0 (tw @Int.le_refl (nB en [AV.int .i64 0] xs)))) ?_;(repeat(refine Pn.mk ?_;intro N hN))))
 refine aP (fun n env st=>∃k:Nat,n=(xs.length)-k/\k<=(xs.length)/\env 4=.int .i64 (k:Int)/\st.get ⟨fk*1000000+1002,σ.next+1⟩=some ⟨true,1,gr en [AV.int .i64 0] xs k⟩) (xs.length) ⟨0,ab,ab,sl @Nat.zero_add,sl @Nat.zero_add⟩ ?_
 rintro n_a env_a st_a ⟨k,rfl,ale,a4,ag0⟩ dm
 have a0:=dm 0 (by kernel_rfl);have a3:=dm 3 (by kernel_rfl)
 simp only[go_sem, ↓reduceIte,Nat.reduceEqDiff,Nat.reduceAdd,Nat.reduceSub,Nat.reduceLeDiff,reduceCtorEq]at a0 a3
 clear dm
 by_cases hk:(k:Int)<(xs.length:Int)
 ·have bD:∀{e:Env} {gg:Rows},(e 4=.int .i64 (IntKind.i64.wrap ((k:Int)+1)))->(gg ⟨fk*1000000+1002,σ.next+1⟩=some ⟨true,1,gr en [AV.int .i64 0] xs (k+1)⟩)->∃m0,m0<(xs.length)-k/\∃k:Nat,m0=(xs.length)-k/\k<=(xs.length)/\e 4=.int .i64 (k:Int)/\gg ⟨fk*1000000+1002,σ.next+1⟩=some ⟨true,1,gr en [AV.int .i64 0] xs k⟩:=fun x1 x2=>⟨_,ab,k+1,rfl,ab,(by rw[x1,ay ab]),x2⟩
  have dX:k<xs.length:=ab
  have eD:(xs.map en)[k]? =some [AV.int .i64 xs[k]]:=by simp[dX,Jc]
  have fI:=pk en [AV.int .i64 0] xs dX
  have dP:=po en [AV.int .i64 0] xs dX
  rw[show en xs[k]=[AV.int .i64 xs[k]] by rw[Jc]]at dP
  (try((repeat(revert hN;revert N;apply Pn.out));refine wk (tw @a4 (tw @ag0 (tw @a0 (tw @a3 (tw @hk (tw @eD (tw @fI @dP))))))) ?_;(repeat(refine Pn.mk ?_;intro N hN))))
  refine bD ?_ ?_
  all_goals simp only[go_sem, ↓reduceIte,Nat.reduceEqDiff,Nat.reduceAdd,Nat.reduceSub,Nat.reduceLeDiff,reduceCtorEq,a4,ag0,a0,a3]
 ·(try((repeat(revert hN;revert N;apply Pn.out));refine wk (tw @a4 (tw @ag0 (tw @a0 (tw @a3 @hk)))) ?_;(repeat(refine Pn.mk ?_;intro N hN))))
  have dX:k=xs.length:=ab
  subst dX
  refine QC (.inl rfl) (r0:=.own ⟨fk*1000000+1002,σ.next+1⟩ 0 xs.length) (sd (tw @a4 (tw @ag0 (tw @a0 @a3)))) ?_
  rw[pj]at ag0
  exact e7 ag0 (by simp) fun x=>by simp[Jc,ad,aj,aI]
end Go.Proofs.YtihgaadadaekmaaGreatDoor.V

namespace Go.Proofs.YtihgaadadaekmaaGreatDoor
open Go.RowKit
def Sl (w:World) (fp:List Nat) (v:Value) (n:Nat) (xs:List Value):Prop:=
 ∃A c,v=.slice A n c/\n<=c/\c<=maxLen/\
  ((fp=[]/\n=0)∨∃b o,fp=[b]/\A=some ⟨b,o,none⟩/\∀j u,xs[j]? =some u->w.cell? ⟨b,o+j,none⟩=some u)
def eU (fp:List Nat) (lo hi:Nat):Prop:=∀b∈fp,lo<=b/\b<hi
theorem eU.nil (lo hi:Nat):eU [] lo hi:=fun _ h=>by cases h
theorem Sl.nil (w:World):Sl w [] (.slice none 0 0) 0 []:=⟨none,0,rfl,Nat.le_refl _,by simp[maxLen],.inl ⟨rfl,rfl⟩⟩
def LU {α:Type} (rep:World->List Nat->List Value->α->Prop) (sz:Nat) (w:World) (nC:List (List Value)) (Dl:List (List Nat)) (ds:List α):Prop:=
 nC.length=ds.length/\Dl.length=ds.length/\∀(i:Nat) (cs:List Value) (f:List Nat) (d:α),nC[i]? =some cs->Dl[i]? =some f->ds[i]? =some d->rep w f cs d/\cs.length=sz
def lf {α:Type} (rep:World->List Nat->List Value->α->Prop) (sz:Nat) (w:World) (fp:List Nat) (v:Value) (ds:List α):Prop:=
 ∃nC Dl RP,fp=RP++Dl.flatten/\Sl w RP v ds.length nC.flatten/\LU rep sz w nC Dl ds
theorem pE {α:Type} {Dl:List (List α)} {i:Nat} {f:List α} (h:Dl[i]? =some f):∀b∈f,b∈Dl.flatten:=fun b hb=>
 List.mem_flatten.2 ⟨f,List.mem_of_getElem? h,hb⟩
theorem sa {α:Type} {nC:List (List α)} {sz:Nat} (h:∀cs∈nC,cs.length=sz) {i j:Nat} {cs:List α} (hi:nC[i]? =some cs) (hj:j<sz):nC.flatten[i*sz+j]? =cs[j]? :=by
 induction nC generalizing i with
 |nil=>simp at hi
 |cons c r ih=>
  have hc:c.length=sz:=h c (by simp)
  cases i with
  |zero=>
   simp at hi;subst hi
   rw[List.flatten_cons,List.getElem?_append_left (by omega)];simp
  |succ i=>
   rw[List.flatten_cons,List.getElem?_append_right (by rw[hc,Nat.succ_mul];omega)]
   have:(i+1)*sz+j-c.length=i*sz+j:=by rw[hc,Nat.succ_mul];omega
   rw[this]
   exact ih (fun cs dq=>h cs (List.mem_cons_of_mem _ dq)) (by simpa using hi)
theorem LU.lens {α:Type} {rep:World->List Nat->List Value->α->Prop} {sz:Nat} {w:World} {nC:List (List Value)} {Dl:List (List Nat)} {ds:List α}
  (h:LU rep sz w nC Dl ds):∀cs∈nC,cs.length=sz:=fun cs dq=>by
 obtain⟨i,hi,rfl⟩:=List.getElem_of_mem dq
 have h1:i<Dl.length:=by rw[h.2.1,<-h.1];exact hi
 have h2:i<ds.length:=by rw[<-h.1];exact hi
 exact(h.2.2 i _ _ _ (List.getElem?_eq_getElem hi) (List.getElem?_eq_getElem h1) (List.getElem?_eq_getElem h2)).2
theorem lf.at_ {α:Type} {rep:World->List Nat->List Value->α->Prop} {sz:Nat} {w:World} {fp:List Nat} {A:Option Addr} {n c:Nat} {ds:List α}
  (h:lf rep sz w fp (.slice A n c) ds) (k:Nat) (hk:k<ds.length):
  ∃b o cs f,A=some ⟨b,o,none⟩/\b∈fp/\(∀x∈f,x∈fp)/\rep w f cs ds[k]/\cs.length=sz/\∀j u,cs[j]? =some u->w.cell? ⟨b,o+(k*sz+j),none⟩=some u:=by
 obtain⟨nC,Dl,RP,rfl,⟨A',c',hv,_,_,hc⟩,hr⟩:=h
 simp only[Value.slice.injEq]at hv
 obtain⟨rfl,hn,rfl⟩:=hv
 rcases hc with⟨_,h0⟩|⟨b,o,rfl,rfl,hc⟩
 ·omega
 have h1:k<nC.length:=by rw[hr.1];exact hk
 have h2:k<Dl.length:=by rw[hr.2.1];exact hk
 obtain⟨gH,hl⟩:=hr.2.2 k _ _ _ (List.getElem?_eq_getElem h1) (List.getElem?_eq_getElem h2) (List.getElem?_eq_getElem hk)
 refine⟨b,o,nC[k],Dl[k],rfl,by simp,fun x hx=>List.mem_append_right _ (pE (List.getElem?_eq_getElem h2) x hx),gH,hl,fun j u hj=>?_⟩
 have gN:j<sz:=by rw[<-hl];exact(List.getElem?_eq_some_iff.1 hj).1
 exact hc _ u (by rw[sa hr.lens (List.getElem?_eq_getElem h1) gN];exact hj)
theorem lf.len {α:Type} {rep:World->List Nat->List Value->α->Prop} {sz:Nat} {w:World} {fp:List Nat} {v:Value} {ds:List α}
  (h:lf rep sz w fp v ds):∃A c,v=.slice A ds.length c/\ds.length<=c/\c<=maxLen:=by
 obtain⟨_,_,_,_,⟨A,c,hv,h1,h2,_⟩,_⟩:=h
 exact⟨A,c,hv,h1,h2⟩
theorem lf.nil {α:Type} (rep:World->List Nat->List Value->α->Prop) (sz:Nat) (w:World):lf rep sz w [] (.slice none 0 0) ([]:List α):=
 ⟨[],[],[],rfl,Sl.nil w,rfl,rfl,fun i cs f d hc=>by simp at hc⟩
def Flat {α:Type} (enc:α->List Value):World->List Nat->List Value->α->Prop:=fun _ f cs d=>f=[]/\cs=enc d
def Q (w w':World):Prop:=∃q,w'=w.drewN q
theorem O0 {B:Nat} {a w:World} (h:Below B a w) (n:Nat):Below B a (w.drewN n):=⟨h.os,h.tape,h.output,h.size,h.block⟩
theorem g9 {a b:Bool} (h:a=b):Ending.returned (.bool a)=.returned (.bool b):=by rw[h]
def Unf (w:World) (b:Nat):Prop:=∃cs e,w.heap[b]? =some (.cells cs e (0,0))
structure Only (fp:List Nat) (w w':World):Prop where
 os:w'.os=w.os
 tape:w'.tape=w.tape
 output:w'.output=w.output
 size:w.heap.size<=w'.heap.size
 block:∀x,x<w.heap.size->x∉fp->w'.heap[x]? =w.heap[x]?
 unf:∀x,Unf w x->Unf w' x
structure cr where
 gG:Int
 fR:Int
deriving DecidableEq
structure aq where
 cI:cr
 bJ:Int
deriving DecidableEq
structure dj where
 ah:List aq
deriving DecidableEq
structure fe where
 aB:ByteArray
 dQ:Int
deriving DecidableEq
structure eJ where
 aB:ByteArray
 bp:List Int
deriving DecidableEq
structure ar where
 aw:List fe
 ah:List eJ
deriving DecidableEq
structure cl where
 aE:ar
 bZ:dj
 aH:Int
deriving DecidableEq
def EG (d:Int):List Value:=[.int .i64 d]
def C2:=Flat EG
def Bt (d:aq):List Value:=[.int .i64 d.cI.gG,.int .i64 d.cI.fR,.int .i64 d.bJ]
def yY:=Flat Bt
def iF:=lf yY 3
def G1 (d:fe):List Value:=[.string d.aB,.int .i64 d.dQ]
def GA:=Flat G1
def pU:=lf GA 2
def pV:=lf C2 1
def GC (w:World) (f:List Nat) (cs:List Value) (d:eJ):Prop:=
 ∃v1 f1,f=f1/\cs=[.string d.aB,v1]/\pV w f1 v1 d.bp
def pW:=lf GC 2
end Go.Proofs.YtihgaadadaekmaaGreatDoor

namespace Go.Proofs.YtihgaadadaekmaaGreatDoor.V
open Go.RowKit
variable {P:Program} {w:World} {D:Nat->Prop}
def Gu (P:Program) (w:World) (D:Nat->Prop) (al:List AV) (cs:List Value):Prop:=∀(j:Nat) (a:AV),al[j]? =some a->∃u:Value,cs[j]? =some u/\jh P w D a u
theorem lS {α:Type} {rep:World->List Nat->List Value->α->Prop} {e:α->List AV} {sz:Nat} {f:List Nat} {v:Value} {xs:List α} (h:lf rep sz w f v xs) (hD:∀b∈f,D b)
  (hl:∀x∈xs,(e x).length=sz) (hc:∀x∈xs,∀a∈e x,a.cell=true) (hr:∀x∈xs,∀f' cs,rep w f' cs x->(∀b∈f',D b)->Gu P w D (e x) cs):jh P w D (.sl (xs.map e)) v:=by
 obtain⟨A,c,rfl,h1,h2⟩:=lf.len h
 by_cases h0:xs=[]
 ·subst h0;exact .A4 _ _ h2
 have lh:0<xs.length:=List.length_pos_iff.2 h0
 obtain⟨b,o,Ok,f0,rfl,hb,Rc,S3,BR,jo⟩:=lf.at_ h 0 lh
 have key:∀(i:Nat) (hi:i<xs.length),∃cs f',(∀x∈f',x∈f)/\rep w f' cs xs[i]/\cs.length=sz/\∀j u,cs[j]? =some u->w.cell? ⟨b,o+(i*sz+j),none⟩=some u:=by
  intro i hi
  obtain⟨b',o',cs,f',Q6,_,kM,m7,dq,ki⟩:=lf.at_ h i hi
  simp only[Option.some.injEq,Addr.mk.injEq,and_true]at Q6
  obtain⟨rfl,rfl⟩:=Q6
  exact⟨cs,f',kM,m7,dq,ki⟩
 refine .sl _ b o _ c sz (fun i j=>(w.cell? ⟨b,o+(i*sz+j),none⟩).getD Go.undef) (by simp) h1 h2 (hD b hb) ?_ ?_ ?_ ?_
 ·intro cs dq
  obtain⟨x,hx,rfl⟩:=List.mem_map.1 dq
  exact hl x hx
 ·intro cs dq
  obtain⟨x,hx,rfl⟩:=List.mem_map.1 dq
  exact hc x hx
 ·intro i j hi hj
  obtain⟨cs,f',_,_,dq,ki⟩:=key i hi
  rw[ki j cs[j] (List.getElem?_eq_getElem ab)]
  rfl
 ·intro i j cs a dq ha
  have hi:i<xs.length:=by
   have:=(List.getElem?_eq_some_iff.1 dq).1
   simpa using this
  obtain⟨oh,f',kM,m7,hcs',ki⟩:=key i hi
  simp[hi]at dq
  subst dq
  obtain⟨u,hu,him⟩:=hr _ (List.getElem_mem hi) f' oh m7 (fun b hb=>hD b (kM b hb)) j a ha
  rw[ki j u hu]
  exact him
end Go.Proofs.YtihgaadadaekmaaGreatDoor.V

namespace Go.Proofs.YtihgaadadaekmaaGreatDoor.V
open Go.RowKit
variable {P:Program} {w:World} {D:Nat->Prop}
def au (d:Int):List AV:=[.int .i64 d]
def ao (d:cr):List AV:=[.int .i64 d.gG,.int .i64 d.fR]
def ai (d:aq):List AV:=[.int .i64 d.cI.gG,.int .i64 d.cI.fR,.int .i64 d.bJ]
def aD (d:dj):List AV:=[.sl (d.ah.map ai)]
def bd (d:fe):List AV:=[.str d.aB,.int .i64 d.dQ]
def bj (d:eJ):List AV:=[.str d.aB,.sl (d.bp.map au)]
def aa (d:ar):List AV:=[.sl (d.aw.map bd),.sl (d.ah.map bj)]
def az (d:cl):List AV:=[.sl (d.aE.aw.map bd),.sl (d.aE.ah.map bj),.sl (d.bZ.ah.map ai),.int .i64 d.aH]
theorem r5 {f:List Nat} {v:Value} {xs:List aq} (h:iF w f v xs) (hD:∀b∈f,D b):jh P w D (.sl (xs.map ai)) v:=
 lS h hD (fun _ _=>rfl) (fun x _ a ha=>by simp[ai]at ha;rcases ha with rfl|rfl|rfl<;>rfl) fun x _ f' cs hr hf=>by
  obtain⟨_,rfl⟩:=hr
  intro j a ha
  match j,ha with
  |0,ha=>simp[ai]at ha;subst ha;exact⟨_,rfl,.int _ _⟩
  |1,ha=>simp[ai]at ha;subst ha;exact⟨_,rfl,.int _ _⟩
  |2,ha=>simp[ai]at ha;subst ha;exact⟨_,rfl,.int _ _⟩
  |j+3,ha=>simp[ai]at ha
theorem xc {d:dj} {f0:List Nat} {v0:Value} (h0:iF w f0 v0 d.ah) (d0:∀b∈f0,D b):jh P w D (.agg (aD d)) (.agg #[v0]):=by
 refine .agg _ _ (fun j=>(#[v0]:Array Value).getD j Go.undef) rfl (fun a ha=>by simp[aD]at ha;rcases ha with rfl<;>rfl) (fun j hj=>?_) (fun j a ha=>?_)
 ·match j,hj with
  |0,_=>rfl
  |j+1,hj=>simp[aD]at hj<;>omega
 ·match j,ha with
  |0,ha=>simp[aD]at ha;subst ha;exact r5 h0 d0
  |j+1,ha=>simp[aD]at ha
theorem Eg {f:List Nat} {v:Value} {xs:List fe} (h:pU w f v xs) (hD:∀b∈f,D b):jh P w D (.sl (xs.map bd)) v:=
 lS h hD (fun _ _=>rfl) (fun x _ a ha=>by simp[bd]at ha;rcases ha with rfl|rfl<;>rfl) fun x _ f' cs hr hf=>by
  obtain⟨_,rfl⟩:=hr
  intro j a ha
  match j,ha with
  |0,ha=>simp[bd]at ha;subst ha;exact⟨_,rfl,.str _⟩
  |1,ha=>simp[bd]at ha;subst ha;exact⟨_,rfl,.int _ _⟩
  |j+2,ha=>simp[bd]at ha
theorem tk {f:List Nat} {v:Value} {xs:List Int} (h:pV w f v xs) (hD:∀b∈f,D b):jh P w D (.sl (xs.map au)) v:=
 lS h hD (fun _ _=>rfl) (fun x _ a ha=>by simp[au]at ha;rcases ha with rfl<;>rfl) fun x _ f' cs hr hf=>by
  obtain⟨_,rfl⟩:=hr
  intro j a ha
  match j,ha with
  |0,ha=>simp[au]at ha;subst ha;exact⟨_,rfl,.int _ _⟩
  |j+1,ha=>simp[au]at ha
theorem Em {f:List Nat} {v:Value} {xs:List eJ} (h:pW w f v xs) (hD:∀b∈f,D b):jh P w D (.sl (xs.map bj)) v:=
 lS h hD (fun _ _=>rfl) (fun x _ a ha=>by simp[bj]at ha;rcases ha with rfl|rfl<;>rfl) fun x _ f' cs hr hf=>by
  obtain⟨v1,f1,rfl,rfl,h1⟩:=hr
  intro j a ha
  match j,ha with
  |0,ha=>simp[bj]at ha;subst ha;exact⟨_,rfl,.str _⟩
  |1,ha=>simp[bj]at ha;subst ha;exact⟨_,rfl,tk h1 hf⟩
  |j+2,ha=>simp[bj]at ha
theorem Bb {d:cl} {f0:List Nat} {v0:Value} (h0:pU w f0 v0 d.aE.aw) (d0:∀b∈f0,D b) {f1:List Nat} {v1:Value} (h1:pW w f1 v1 d.aE.ah) (d1:∀b∈f1,D b) {f2:List Nat} {v2:Value} (h2:iF w f2 v2 d.bZ.ah) (d2:∀b∈f2,D b):jh P w D (.agg (az d)) (.agg #[v0,v1,v2,.int .i64 d.aH]):=by
 refine .agg _ _ (fun j=>(#[v0,v1,v2,.int .i64 d.aH]:Array Value).getD j Go.undef) rfl (fun a ha=>by simp[az]at ha;rcases ha with rfl|rfl|rfl|rfl<;>rfl) (fun j hj=>?_) (fun j a ha=>?_)
 ·match j,hj with
  |0,_=>rfl
  |1,_=>rfl
  |2,_=>rfl
  |3,_=>rfl
  |j+4,hj=>simp[az]at hj<;>omega
 ·match j,ha with
  |0,ha=>simp[az]at ha;subst ha;exact Eg h0 d0
  |1,ha=>simp[az]at ha;subst ha;exact Em h1 d1
  |2,ha=>simp[az]at ha;subst ha;exact r5 h2 d2
  |3,ha=>simp[az]at ha;subst ha;exact .int _ _
  |j+4,ha=>simp[az]at ha
end Go.Proofs.YtihgaadadaekmaaGreatDoor.V

namespace Go.Proofs.YtihgaadadaekmaaGreatDoor.V
open Go.RowKit
attribute [local irreducible] ea wpOps gS Call
attribute [local go_sem] aM fQ eM gi gh cE upd cu K.av cL AV.cells AV.cell rowOf rowsOf part ld rowAt bY ck dI eh ij bL da eA gp e8 du eo cY cX dV dW bR bm cQ bQ cT cR ej er ek cP bW cZ ei bP aQ cV cC ig bw cH bS aX dG bu dL AV.undef bF bH dY ef dU ec cF ez eF cw ev eu cU cW List.getD_cons_zero List.getD_cons_succ List.getD_nil List.all_cons List.all_nil Bool.and_true Bool.true_and Bool.and_self Bool.not_true Bool.not_false Option.map_some Option.map_none Option.bind_some Option.bind_none List.length_cons List.length_nil List.take_succ_cons List.take_zero List.take_nil List.drop_succ_cons List.drop_zero List.drop_nil List.head?_cons List.map_cons List.map_nil List.getElem?_cons_zero List.getElem?_cons_succ List.cons_append List.nil_append List.append_nil List.length_map List.set_cons_zero List.set_cons_succ Nat.reduceMul eq_self Int.toNat_natCast Int.natCast_nonneg and_self true_and and_true decide_true decide_false Bool.false_eq_true Nat.zero_add Nat.add_zero List.contains_cons List.contains_nil Bool.or_false Bool.false_or beq_self_eq_true Nat.reduceBEq ne_eq not_true_eq_false not_false_eq_true Id.mk.injEq false_and and_false Nat.reduceLT Int.reduceLE Int.reduceLT Int.reduceToNat Int.reduceNeg Int.reduceAdd Nat.le_refl List.length_append beq_true beq_false Bool.not_eq_eq_eq_not or_false false_or dE ad aj aI bE cj aV bf aU bo cN bG
variable {P:Program}
theorem I2 {X:fx} {Q:Ex->Env->ax->Prop} {N:Env->ax->Prop} {c:VC} {env:Env} {σ:ax} (I:Env->ax->Prop) (h2:∀e s,I e s->N e s) (h1:∀N':Env->ax->Prop,(∀e s,I e s->N' e s)->ea X c (dG N' Q) env σ):ea X c (dG N Q) env σ:=h1 N h2
def rI (f z:Nat) (a:Bool):yN:=let s:=f*1000000
 ⟨19,2,(.seq (.eH false [q 4 (.db (.k (.int .i64 0))) s]) (.seq (.seq (.eH false [q 6 (.db (.t 0)) (s+1000),q 7 (.len (.t 6)) (s+1001),q 8 (.db (.k (.int .i64 0))) (s+1002)]) (.block 0 (.loop (.seq (.eH false [q 9 (.bin .lss .i64 (.t 8) (.t 7)) (s+2000)]) (.seq (.cond (.t 9) .skip (.exit 0)) (.seq (.block 1 (.seq (.eH false [q 10 (.db (.t 8)) (s+3000),q 5 (.db (.t 10)) (s+3001)]) (.seq (.eH false [q 11 (.db (.t 1)) (s+4000),q 12 (.db (.t 0)) (s+4001),q 13 (.db (.t 5)) (s+4002),q 14 (.dy z (.t 12) (.t 13)) (s+4003),q 15 (.load a z (.t 14)) (s+4004),q 16 (.r7 (.t 11) [(.t 15)]) (s+4005)]) (.cond (.t 16) (.seq (.eH false [q 17 (.db (.t 5)) (s+5000),q 4 (.db (.t 17)) (s+5001)]) .ret) .skip)))) (.eH false [q 18 (.bin .add .i64 (.t 8) (.k (.int .i64 1))) (s+6000),q 8 (.db (.t 18)) (s+6001)]))))))) (.seq (.eH false [q 4 (.db (.k (.int .i64 (-1)))) (s+7000)]) .ret))),[(.tmp 4)]⟩
def xQ (f g:Nat):yN:=let s:=f*1000000
 ⟨9,2,(.seq (.eH false [q 4 (.db (.k (.bool false))) s]) (.seq (.eH false [q 5 (.db (.t 0)) (s+1000),q 6 (.db (.t 1)) (s+1001),q 7 (.call g [(.t 5),(.t 6)]) (s+1002),q 8 (.bin .geq .i64 (.t 7) (.k (.int .i64 0))) (s+1003),q 4 (.db (.t 8)) (s+1004)]) .ret)),[(.tmp 4)]⟩
def jR {α:Type} (p:α->Bool) (xs:List α):Int:=if xs.findIdx p<xs.length then(xs.findIdx p:Int)else -1
theorem G7 {α:Type} (p:α->Bool) (xs:List α):decide (0<=jR p xs)=xs.any p:=by
 unfold jR
 by_cases h:xs.findIdx p<xs.length
 ·rw[if_pos h]
  have:xs.any p=true:=List.any_eq_true.2 (List.findIdx_lt_length.1 h)
  rw[this];simp
 ·rw[if_neg h]
  have:xs.any p=false:=by
   rw[Bool.eq_false_iff]
   intro hc
   exact h (List.findIdx_lt_length.2 (List.any_eq_true.1 hc))
  rw[this];rfl
theorem sO (a:AV) (l m:List AV):a::l++m=a::(l++m):=rfl
theorem xl (l:List AV):[]++l=l:=rfl
structure Of {α:Type} (e:α->List AV) (v:α->AV) (z:Nat) (a:Bool):Prop where
 len:∀x,(e x).length=z
 val:∀x,if a=true then v x=.agg (e x)else e x=[v x]
 fz:∀x g,cm g 6 [v x]=some [v x]
theorem sn {α:Type} {e:α->List AV} {v:α->AV} {z fk:Nat} {a:Bool} (hE:Of e v z a) (hc:kO P fk=some (rI fk z a)) (xs:List α) (hlen:xs.length<=1048576) (f:Nat) (cD:List AV) (p:α->Bool)
  (hf:∀x∈xs,ae P f (v x::cD) (.bool (p x))) (Hl:∀g,cm g 6 cD=some cD):
  ae P fk [.sl (xs.map e),.fn f cD] (.int .i64 (jR p xs)):=by
 refine ae.body hc rfl fun hl n0=>?_
 try simp only[q]
 clear hl
 (try((repeat(revert hN;revert N;apply Pn.out));refine wk @Nat.zero_add ?_;(repeat(refine Pn.mk ?_;intro N hN))))
 refine aP (fun n env st=>∃k:Nat,n=(xs.length)-k/\k<=(xs.length)/\env 8=.int .i64 (k:Int)/\(∀j:Nat,j<k->∀h:j<xs.length,p xs[j]=false)) (xs.length) ⟨0,ab,ab,sl @Nat.zero_add,fun _ h=>absurd h (Nat.not_lt_zero _)⟩ ?_
 rintro n_a env_a st_a ⟨k,rfl,ale,a8,iO⟩ dm
 have a0:=dm 0 (by kernel_rfl);have a1:=dm 1 (by kernel_rfl);have a7:=dm 7 (by kernel_rfl)
 simp only[go_sem, ↓reduceIte,Nat.reduceEqDiff,Nat.reduceAdd,Nat.reduceSub,Nat.reduceLeDiff,reduceCtorEq]at a0 a1 a7
 clear dm
 by_cases hk:(k:Int)<(xs.length:Int)
 ·have bD:∀{e:Env},(e 8=.int .i64 (IntKind.i64.wrap ((k:Int)+1)))->(∀h:k<xs.length,p xs[k]=false)->∃m0,m0<(xs.length)-k/\∃k:Nat,m0=(xs.length)-k/\k<=(xs.length)/\e 8=.int .i64 (k:Int)/\(∀j:Nat,j<k->∀h:j<xs.length,p xs[j]=false):=fun x1 x2=>⟨_,ab,k+1,rfl,ab,(by rw[x1,ay ab]),(all_succ iO x2)⟩
  have dX:k<xs.length:=ab
  have hg:(xs.map e)[k]? =some (e xs[k]):=by simp[dX]
  have Dz:=hf _ (List.getElem_mem dX)
  have hz:=hE.len xs[k]
  have hv:=hE.val xs[k]
  have k7:cm (dE st_a.get) 6 (v xs[k]::cD)=some (v xs[k]::cD):=by
   have h1:=hE.fz xs[k] (dE st_a.get)
   rw[ad,aj]at h1
   rw[ad,Hl]
   revert h1
   cases V.fz (dE st_a.get) 6 (v xs[k])<;>simp
  have fin:∀hN:True,(p xs[k]=true->xs.findIdx p=k):=fun _ hp=>by
   rw[List.findIdx_eq dX];exact⟨hp,fun j hj=>iO j hj ab⟩
  cases hp:p xs[k]
  ·have Rm:=hp
   cases a
   ·rw[if_neg (by simp)]at hv
    have yW:z=1:=by rw[<-hz,hv];rfl
    subst yW
    rw[hv]at hg hz
    rw[hp]at Dz
    generalize v xs[k]=c at Dz k7 hg hz
    (try((repeat(revert hN;revert N;apply Pn.out));refine wk (tw @a8 (tw @a0 (tw @a1 (tw @a7 (tw @hk (tw @hg (tw @hz (tw @sO @xl)))))))) ?_;(repeat(refine Pn.mk ?_;intro N hN))))
    refine .inl ⟨_,ae.x Dz k7,?_⟩
    refine hN _ _ ?_
    clear hN N
    (try((repeat(revert hN;revert N;apply Pn.out));refine wk (tw @a8 (tw @a0 (tw @a1 @a7))) ?_;(repeat(refine Pn.mk ?_;intro N hN))))
    exact bD (sd (tw @a8 (tw @a0 (tw @a1 @a7)))) (fun _=>Rm)
   ·rw[if_pos rfl]at hv
    have ht:(e xs[k]).take z=e xs[k]:=by rw[<-hz,List.take_length]
    rw[hv]at Dz k7
    rw[hp]at Dz
    generalize e xs[k]=c at Dz k7 hg hz ht
    (try((repeat(revert hN;revert N;apply Pn.out));refine wk (tw @a8 (tw @a0 (tw @a1 (tw @a7 (tw @hk (tw @hg (tw @hz (tw @ht (tw @sO (tw @xl @Nat.le_refl)))))))))) ?_;(repeat(refine Pn.mk ?_;intro N hN))))
    refine .inl ⟨_,ae.x Dz k7,?_⟩
    refine hN _ _ ?_
    clear hN N
    (try((repeat(revert hN;revert N;apply Pn.out));refine wk (tw @a8 (tw @a0 (tw @a1 @a7))) ?_;(repeat(refine Pn.mk ?_;intro N hN))))
    exact bD (sd (tw @a8 (tw @a0 (tw @a1 @a7)))) (fun _=>Rm)
  ·have hi:=fin trivial hp
   cases a
   ·rw[if_neg (by simp)]at hv
    have yW:z=1:=by rw[<-hz,hv];rfl
    subst yW
    rw[hv]at hg hz
    rw[hp]at Dz
    generalize v xs[k]=c at Dz k7 hg hz
    (try((repeat(revert hN;revert N;apply Pn.out));refine wk (tw @a8 (tw @a0 (tw @a1 (tw @a7 (tw @hk (tw @hg (tw @hz (tw @sO @xl)))))))) ?_;(repeat(refine Pn.mk ?_;intro N hN))))
    refine .inl ⟨_,ae.x Dz k7,?_⟩
    refine hN _ _ ?_
    clear hN N
    (try((repeat(revert hN;revert N;apply Pn.out));refine wk (tw @a8 (tw @a0 (tw @a1 @a7))) ?_;(repeat(refine Pn.mk ?_;intro N hN))))
    exact aZ (b:=(k:Int)) (.inl rfl) (sd @Nat.zero_add) (by rw[jR,hi,if_pos dX])
   ·rw[if_pos rfl]at hv
    have ht:(e xs[k]).take z=e xs[k]:=by rw[<-hz,List.take_length]
    rw[hv]at Dz k7
    rw[hp]at Dz
    generalize e xs[k]=c at Dz k7 hg hz ht
    (try((repeat(revert hN;revert N;apply Pn.out));refine wk (tw @a8 (tw @a0 (tw @a1 (tw @a7 (tw @hk (tw @hg (tw @hz (tw @ht (tw @sO (tw @xl @Nat.le_refl)))))))))) ?_;(repeat(refine Pn.mk ?_;intro N hN))))
    refine .inl ⟨_,ae.x Dz k7,?_⟩
    refine hN _ _ ?_
    clear hN N
    (try((repeat(revert hN;revert N;apply Pn.out));refine wk (tw @a8 (tw @a0 (tw @a1 @a7))) ?_;(repeat(refine Pn.mk ?_;intro N hN))))
    exact aZ (b:=(k:Int)) (.inl rfl) (sd @Nat.zero_add) (by rw[jR,hi,if_pos dX])
 ·(try((repeat(revert hN;revert N;apply Pn.out));refine wk (tw @a8 (tw @a0 (tw @a1 (tw @a7 @hk)))) ?_;(repeat(refine Pn.mk ?_;intro N hN))))
  have hi:¬xs.findIdx p<xs.length:=by
   rw[List.findIdx_lt_length]
   rintro⟨x,hx,M1⟩
   obtain⟨j,hj,rfl⟩:=List.getElem_of_mem hx
   rw[iO j ab hj]at M1;cases M1
  exact aZ (b:=-1) (.inl rfl) (sd @Nat.zero_add) (by rw[jR,if_neg hi])
theorem ke {α:Type} {e:α->List AV} {v:α->AV} {z fk gk:Nat} {a:Bool} (hE:Of e v z a) (hc:kO P fk=some (xQ fk gk)) (ES:kO P gk=some (rI gk z a)) (xs:List α) (hlen:xs.length<=1048576) (f:Nat) (cD:List AV) (p:α->Bool) (JP:cD.all AV.cell=true) (Dw:∀g,cm g 5 cD=some cD)
  (hf:∀x∈xs,ae P f (v x::cD) (.bool (p x))) (Hl:∀g,cm g 6 cD=some cD):
  ae P fk [.sl (xs.map e),.fn f cD] (.bool (xs.any p)):=by
 refine ae.body hc rfl fun hl n0=>?_
 try simp only[q]
 clear hl
 have hi:=sn hE ES xs hlen f cD p hf Hl
 (repeat(first|((repeat(revert hN;revert N;apply Pn.out));refine wk (tw @JP @Dw) ?_;(repeat(refine Pn.mk ?_;intro N hN)))|((try apply Or.inl);refine⟨_,ae.x (hi) (sd (tw @JP @Dw)),?_⟩;refine hN _ _ ?_;clear hN N)))
 exact aC (b:=decide (0<=jR p xs)) (.inl rfl) (sd @Nat.zero_add) (G7 p xs)
end Go.Proofs.YtihgaadadaekmaaGreatDoor.V

namespace Go.Proofs.YtihgaadadaekmaaGreatDoor.V
open Go.RowKit
def qt (P:Program) (mk:Bool):List Oper->Nat->List Nat
 |[],_=>[]
 |o::r,i=>match pN P o.op with
  |some v=>if pD v||mk&&v.lj then i::qt P mk r (i+1)else qt P mk r (i+1)
  |none=>qt P mk r (i+1)
def xp (P:Program) (ops:Array Oper) (site0:Nat) (mk:Bool) (bs:Array Nat) (hidden:List Nat):List Oper->Nat->Option (List bl)
 |[],_=>some []
 |o::r,j=>do
  let v <-pN P o.op
  let g <-Bk ops o
  pure ({dst:=o.dst,op:=v,guard:=g,site:=site0+j,hid:=(hidden.filter fun i=> !(bs.getD j 0).testBit i&&(i !=j||mk&&v.lj)).map fun i=>site0+i}::(<-xp P ops site0 mk bs hidden r (j+1)))
def nA (P:Program) (md:List (Nat×Nat)) (tK:Nat):Code->Option VC
 | .skip=>some .skip
 | .region id ops draw=>if draw then(xp P ops ((tK*1000+id)*1000) (uu md id==1) (jj ops) (qt P (uu md id==1) ops.toList 0) ops.toList 0).map (VC.eH true)else(xp P ops ((tK*1000+id)*1000) false #[] [] ops.toList 0).map (if ops.toList.any fun o=>LF o.op then VC.Mb else VC.eH false)
 | .seq a b=>do pure (.seq (<-nA P md tK a) (<-nA P md tK b))
 | .cond c x y=>do pure (.cond (<-cO P c) (<-nA P md tK x) (<-nA P md tK y))
 | .block id c=>(nA P md tK c).map (VC.block id)
 | .loop c=>(nA P md tK c).map VC.loop
 | .exit id=>some (.exit id)
 | .ret=>some .ret
 | .label _=>some .skip
 | .scope c=>nA P md tK c
 |_=>none
def O1 (P:Program) (md:List (Nat×Nat)) (f:Nat):Option yN:=
 match P.funcs[f]? with
 |some fn=>match fn.body with
  |some c=>do
   let b <-nA P md f c
   let r <-fn.results.toList.mapM (Es P)
   pure {ntmps:=fn.ntmps,wS:=fn.params.size+fn.nfree,body:=b,res:=r}
  |none=>none
 |none=>none
theorem cfM {P:Program} (md:List (Nat×Nat)) {f:Nat} {v:yN} (_:O1 P md f=some v:=by(conv=>lhs;cbv)<;>exact rfl) (h:vh P f md=some v:=by kernel_rfl):vh P f md=some v:=h
theorem dK {P:Program} {f:Nat} {v:yN} (_:O1 P [] f=some v:=by(conv=>lhs;cbv)<;>exact rfl) (h:kO P f=some v:=by kernel_rfl):kO P f=some v:=h
def NR:yN:=⟨77,2,(.seq (.eH false [q 4 (.db (.k .gI)) 165000000]) (.seq (.eH false [q 7 (.db (.t 0)) 165001000,q 8 (.db (.t 1)) 165001001,q 9 (.build [(.int .i64 0),.bK,.bK,.bK] [(0,(1,(.t 7))),(1,(1,(.t 8)))]) 165001002,q 10 (.box (.t 9)) 165001003,q 5 (.db (.t 10)) 165001004]) (.seq (.eH false [q 11 (.db (.t 5)) 165002000,q 12 (.db (.t 0)) 165002001,q 13 (.jB [.bK] (.t 12) (.t 12)) 165002002,q 14 (.zl (.t 11)) 165002003,q 15 (.fG 2 (.t 14)) 165002004,⟨none,(.store 1 (.t 15) (.t 13)),none,165002005,[]⟩]) (.seq (.eH false [q 16 (.db (.t 5)) 165003000,q 17 (.db (.t 1)) 165003001,q 18 (.len (.t 17)) 165003002,q 19 (.jB [(.int .i64 0)] (.t 18) (.t 18)) 165003003,q 20 (.zl (.t 16)) 165003004,q 21 (.fG 3 (.t 20)) 165003005,⟨none,(.store 1 (.t 21) (.t 19)),none,165003006,[]⟩]) (.seq (.seq (.eH false [q 6 (.db (.k (.int .i64 0))) 165004000]) (.block 0 (.loop (.seq (.seq (.eH false [q 22 (.db (.t 6)) 165005000,q 23 (.db (.t 1)) 165005001,q 24 (.len (.t 23)) 165005002,q 25 (.bin .lss .i64 (.t 22) (.t 24)) 165005003]) (.cond (.t 25) .skip (.exit 0))) (.seq (.block 1 (.seq (.one ⟨(some 28),(.db (.t 5)),none,165007000,[165007021,165007022,165007024]⟩ (.one ⟨(some 29),(.zl (.t 28)),none,165007001,[165007021,165007022,165007024]⟩ (.one ⟨(some 30),(.fG 2 (.t 29)),none,165007002,[165007021,165007022,165007024]⟩ (.one ⟨(some 32),(.db (.t 1)),none,165007004,[165007021,165007022,165007024]⟩ (.one ⟨(some 33),(.db (.t 6)),none,165007005,[165007021,165007022,165007024]⟩ (.one ⟨(some 37),(.db (.t 5)),none,165007009,[165007021,165007022,165007024]⟩ (.one ⟨(some 38),(.zl (.t 37)),none,165007010,[165007021,165007022,165007024]⟩ (.one ⟨(some 39),(.fG 2 (.t 38)),none,165007011,[165007021,165007022,165007024]⟩ (.one ⟨(some 40),(.load false 1 (.t 39)),none,165007012,[165007021,165007022,165007024]⟩ (.one ⟨(some 41),(.db (.t 1)),none,165007013,[165007021,165007022,165007024]⟩ (.one ⟨(some 42),(.db (.t 6)),none,165007014,[165007021,165007022,165007024]⟩ (.one ⟨(some 43),(.dy 3 (.t 41) (.t 42)),none,165007015,[165007021,165007022,165007024]⟩ (.one ⟨(some 44),(.fG 0 (.t 43)),none,165007016,[165007021,165007022,165007024]⟩ (.one ⟨(some 45),(.load false 1 (.t 44)),none,165007017,[165007021,165007022,165007024]⟩ (.one ⟨(some 46),(.dy 1 (.t 40) (.t 45)),none,165007018,[165007021,165007022,165007024]⟩ (.one ⟨(some 47),(.load false 1 (.t 46)),none,165007019,[165007021,165007022,165007024]⟩ (.one ⟨(some 48),(.db (.t 6)),none,165007020,[165007021,165007022,165007024]⟩ (.one ⟨(some 49),(.l8 1 1 [(.t 48)]),none,165007021,[165007022,165007024]⟩ (.both (.one ⟨(some 31),(.load false 1 (.t 30)),none,165007003,[165007021,165007022,165007024]⟩ (.both (.one ⟨(some 34),(.dy 3 (.t 32) (.t 33)),none,165007006,[165007021,165007022,165007024]⟩ (.one ⟨(some 35),(.fG 0 (.t 34)),none,165007007,[165007021,165007022,165007024]⟩ (.both (.one ⟨(some 36),(.load false 1 (.t 35)),none,165007008,[165007021,165007022,165007024]⟩ (.one ⟨(some 50),(.append 1 (.t 47) (.t 49)),none,165007022,[165007024]⟩ (.one ⟨(some 51),(.dy 1 (.t 31) (.t 36)),none,165007023,[165007024]⟩ (.one ⟨none,(.store 1 (.t 51) (.t 50)),none,165007024,[]⟩ (.eH false []))))) (.one ⟨(some 50),(.append 1 (.t 47) (.t 49)),none,165007022,[165007024]⟩ (.one ⟨(some 36),(.load false 1 (.t 35)),none,165007008,[165007021,165007022,165007024]⟩ (.one ⟨(some 51),(.dy 1 (.t 31) (.t 36)),none,165007023,[165007024]⟩ (.one ⟨none,(.store 1 (.t 51) (.t 50)),none,165007024,[]⟩ (.eH false [])))))))) (.one ⟨(some 50),(.append 1 (.t 47) (.t 49)),none,165007022,[165007024]⟩ (.one ⟨(some 34),(.dy 3 (.t 32) (.t 33)),none,165007006,[165007021,165007022,165007024]⟩ (.one ⟨(some 35),(.fG 0 (.t 34)),none,165007007,[165007021,165007022,165007024]⟩ (.one ⟨(some 36),(.load false 1 (.t 35)),none,165007008,[165007021,165007022,165007024]⟩ (.one ⟨(some 51),(.dy 1 (.t 31) (.t 36)),none,165007023,[165007024]⟩ (.one ⟨none,(.store 1 (.t 51) (.t 50)),none,165007024,[]⟩ (.eH false []))))))))) (.both (.one ⟨(some 34),(.dy 3 (.t 32) (.t 33)),none,165007006,[165007021,165007022,165007024]⟩ (.one ⟨(some 35),(.fG 0 (.t 34)),none,165007007,[165007021,165007022,165007024]⟩ (.both (.one ⟨(some 31),(.load false 1 (.t 30)),none,165007003,[165007021,165007022,165007024]⟩ (.both (.one ⟨(some 36),(.load false 1 (.t 35)),none,165007008,[165007021,165007022,165007024]⟩ (.one ⟨(some 50),(.append 1 (.t 47) (.t 49)),none,165007022,[165007024]⟩ (.one ⟨(some 51),(.dy 1 (.t 31) (.t 36)),none,165007023,[165007024]⟩ (.one ⟨none,(.store 1 (.t 51) (.t 50)),none,165007024,[]⟩ (.eH false []))))) (.one ⟨(some 50),(.append 1 (.t 47) (.t 49)),none,165007022,[165007024]⟩ (.one ⟨(some 36),(.load false 1 (.t 35)),none,165007008,[165007021,165007022,165007024]⟩ (.one ⟨(some 51),(.dy 1 (.t 31) (.t 36)),none,165007023,[165007024]⟩ (.one ⟨none,(.store 1 (.t 51) (.t 50)),none,165007024,[]⟩ (.eH false []))))))) (.both (.one ⟨(some 36),(.load false 1 (.t 35)),none,165007008,[165007021,165007022,165007024]⟩ (.both (.one ⟨(some 31),(.load false 1 (.t 30)),none,165007003,[165007021,165007022,165007024]⟩ (.one ⟨(some 50),(.append 1 (.t 47) (.t 49)),none,165007022,[165007024]⟩ (.one ⟨(some 51),(.dy 1 (.t 31) (.t 36)),none,165007023,[165007024]⟩ (.one ⟨none,(.store 1 (.t 51) (.t 50)),none,165007024,[]⟩ (.eH false []))))) (.one ⟨(some 50),(.append 1 (.t 47) (.t 49)),none,165007022,[165007024]⟩ (.one ⟨(some 31),(.load false 1 (.t 30)),none,165007003,[165007021,165007022,165007024]⟩ (.one ⟨(some 51),(.dy 1 (.t 31) (.t 36)),none,165007023,[165007024]⟩ (.one ⟨none,(.store 1 (.t 51) (.t 50)),none,165007024,[]⟩ (.eH false []))))))) (.one ⟨(some 50),(.append 1 (.t 47) (.t 49)),none,165007022,[165007024]⟩ (.one ⟨(some 31),(.load false 1 (.t 30)),none,165007003,[165007021,165007022,165007024]⟩ (.one ⟨(some 36),(.load false 1 (.t 35)),none,165007008,[165007021,165007022,165007024]⟩ (.one ⟨(some 51),(.dy 1 (.t 31) (.t 36)),none,165007023,[165007024]⟩ (.one ⟨none,(.store 1 (.t 51) (.t 50)),none,165007024,[]⟩ (.eH false [])))))))))) (.one ⟨(some 50),(.append 1 (.t 47) (.t 49)),none,165007022,[165007024]⟩ (.one ⟨(some 31),(.load false 1 (.t 30)),none,165007003,[165007021,165007022,165007024]⟩ (.one ⟨(some 34),(.dy 3 (.t 32) (.t 33)),none,165007006,[165007021,165007022,165007024]⟩ (.one ⟨(some 35),(.fG 0 (.t 34)),none,165007007,[165007021,165007022,165007024]⟩ (.one ⟨(some 36),(.load false 1 (.t 35)),none,165007008,[165007021,165007022,165007024]⟩ (.one ⟨(some 51),(.dy 1 (.t 31) (.t 36)),none,165007023,[165007024]⟩ (.one ⟨none,(.store 1 (.t 51) (.t 50)),none,165007024,[]⟩ (.eH false [])))))))))))))))))))))))))))) (.one ⟨(some 52),(.db (.t 5)),none,165008000,[165008021,165008022,165008024]⟩ (.one ⟨(some 53),(.zl (.t 52)),none,165008001,[165008021,165008022,165008024]⟩ (.one ⟨(some 54),(.fG 2 (.t 53)),none,165008002,[165008021,165008022,165008024]⟩ (.one ⟨(some 56),(.db (.t 1)),none,165008004,[165008021,165008022,165008024]⟩ (.one ⟨(some 57),(.db (.t 6)),none,165008005,[165008021,165008022,165008024]⟩ (.one ⟨(some 61),(.db (.t 5)),none,165008009,[165008021,165008022,165008024]⟩ (.one ⟨(some 62),(.zl (.t 61)),none,165008010,[165008021,165008022,165008024]⟩ (.one ⟨(some 63),(.fG 2 (.t 62)),none,165008011,[165008021,165008022,165008024]⟩ (.one ⟨(some 64),(.load false 1 (.t 63)),none,165008012,[165008021,165008022,165008024]⟩ (.one ⟨(some 65),(.db (.t 1)),none,165008013,[165008021,165008022,165008024]⟩ (.one ⟨(some 66),(.db (.t 6)),none,165008014,[165008021,165008022,165008024]⟩ (.one ⟨(some 67),(.dy 3 (.t 65) (.t 66)),none,165008015,[165008021,165008022,165008024]⟩ (.one ⟨(some 68),(.fG 1 (.t 67)),none,165008016,[165008021,165008022,165008024]⟩ (.one ⟨(some 69),(.load false 1 (.t 68)),none,165008017,[165008021,165008022,165008024]⟩ (.one ⟨(some 70),(.dy 1 (.t 64) (.t 69)),none,165008018,[165008021,165008022,165008024]⟩ (.one ⟨(some 71),(.load false 1 (.t 70)),none,165008019,[165008021,165008022,165008024]⟩ (.one ⟨(some 72),(.db (.t 6)),none,165008020,[165008021,165008022,165008024]⟩ (.one ⟨(some 73),(.l8 1 1 [(.t 72)]),none,165008021,[165008022,165008024]⟩ (.both (.one ⟨(some 55),(.load false 1 (.t 54)),none,165008003,[165008021,165008022,165008024]⟩ (.both (.one ⟨(some 58),(.dy 3 (.t 56) (.t 57)),none,165008006,[165008021,165008022,165008024]⟩ (.one ⟨(some 59),(.fG 1 (.t 58)),none,165008007,[165008021,165008022,165008024]⟩ (.both (.one ⟨(some 60),(.load false 1 (.t 59)),none,165008008,[165008021,165008022,165008024]⟩ (.one ⟨(some 74),(.append 1 (.t 71) (.t 73)),none,165008022,[165008024]⟩ (.one ⟨(some 75),(.dy 1 (.t 55) (.t 60)),none,165008023,[165008024]⟩ (.one ⟨none,(.store 1 (.t 75) (.t 74)),none,165008024,[]⟩ (.eH false []))))) (.one ⟨(some 74),(.append 1 (.t 71) (.t 73)),none,165008022,[165008024]⟩ (.one ⟨(some 60),(.load false 1 (.t 59)),none,165008008,[165008021,165008022,165008024]⟩ (.one ⟨(some 75),(.dy 1 (.t 55) (.t 60)),none,165008023,[165008024]⟩ (.one ⟨none,(.store 1 (.t 75) (.t 74)),none,165008024,[]⟩ (.eH false [])))))))) (.one ⟨(some 74),(.append 1 (.t 71) (.t 73)),none,165008022,[165008024]⟩ (.one ⟨(some 58),(.dy 3 (.t 56) (.t 57)),none,165008006,[165008021,165008022,165008024]⟩ (.one ⟨(some 59),(.fG 1 (.t 58)),none,165008007,[165008021,165008022,165008024]⟩ (.one ⟨(some 60),(.load false 1 (.t 59)),none,165008008,[165008021,165008022,165008024]⟩ (.one ⟨(some 75),(.dy 1 (.t 55) (.t 60)),none,165008023,[165008024]⟩ (.one ⟨none,(.store 1 (.t 75) (.t 74)),none,165008024,[]⟩ (.eH false []))))))))) (.both (.one ⟨(some 58),(.dy 3 (.t 56) (.t 57)),none,165008006,[165008021,165008022,165008024]⟩ (.one ⟨(some 59),(.fG 1 (.t 58)),none,165008007,[165008021,165008022,165008024]⟩ (.both (.one ⟨(some 55),(.load false 1 (.t 54)),none,165008003,[165008021,165008022,165008024]⟩ (.both (.one ⟨(some 60),(.load false 1 (.t 59)),none,165008008,[165008021,165008022,165008024]⟩ (.one ⟨(some 74),(.append 1 (.t 71) (.t 73)),none,165008022,[165008024]⟩ (.one ⟨(some 75),(.dy 1 (.t 55) (.t 60)),none,165008023,[165008024]⟩ (.one ⟨none,(.store 1 (.t 75) (.t 74)),none,165008024,[]⟩ (.eH false []))))) (.one ⟨(some 74),(.append 1 (.t 71) (.t 73)),none,165008022,[165008024]⟩ (.one ⟨(some 60),(.load false 1 (.t 59)),none,165008008,[165008021,165008022,165008024]⟩ (.one ⟨(some 75),(.dy 1 (.t 55) (.t 60)),none,165008023,[165008024]⟩ (.one ⟨none,(.store 1 (.t 75) (.t 74)),none,165008024,[]⟩ (.eH false []))))))) (.both (.one ⟨(some 60),(.load false 1 (.t 59)),none,165008008,[165008021,165008022,165008024]⟩ (.both (.one ⟨(some 55),(.load false 1 (.t 54)),none,165008003,[165008021,165008022,165008024]⟩ (.one ⟨(some 74),(.append 1 (.t 71) (.t 73)),none,165008022,[165008024]⟩ (.one ⟨(some 75),(.dy 1 (.t 55) (.t 60)),none,165008023,[165008024]⟩ (.one ⟨none,(.store 1 (.t 75) (.t 74)),none,165008024,[]⟩ (.eH false []))))) (.one ⟨(some 74),(.append 1 (.t 71) (.t 73)),none,165008022,[165008024]⟩ (.one ⟨(some 55),(.load false 1 (.t 54)),none,165008003,[165008021,165008022,165008024]⟩ (.one ⟨(some 75),(.dy 1 (.t 55) (.t 60)),none,165008023,[165008024]⟩ (.one ⟨none,(.store 1 (.t 75) (.t 74)),none,165008024,[]⟩ (.eH false []))))))) (.one ⟨(some 74),(.append 1 (.t 71) (.t 73)),none,165008022,[165008024]⟩ (.one ⟨(some 55),(.load false 1 (.t 54)),none,165008003,[165008021,165008022,165008024]⟩ (.one ⟨(some 60),(.load false 1 (.t 59)),none,165008008,[165008021,165008022,165008024]⟩ (.one ⟨(some 75),(.dy 1 (.t 55) (.t 60)),none,165008023,[165008024]⟩ (.one ⟨none,(.store 1 (.t 75) (.t 74)),none,165008024,[]⟩ (.eH false [])))))))))) (.one ⟨(some 74),(.append 1 (.t 71) (.t 73)),none,165008022,[165008024]⟩ (.one ⟨(some 55),(.load false 1 (.t 54)),none,165008003,[165008021,165008022,165008024]⟩ (.one ⟨(some 58),(.dy 3 (.t 56) (.t 57)),none,165008006,[165008021,165008022,165008024]⟩ (.one ⟨(some 59),(.fG 1 (.t 58)),none,165008007,[165008021,165008022,165008024]⟩ (.one ⟨(some 60),(.load false 1 (.t 59)),none,165008008,[165008021,165008022,165008024]⟩ (.one ⟨(some 75),(.dy 1 (.t 55) (.t 60)),none,165008023,[165008024]⟩ (.one ⟨none,(.store 1 (.t 75) (.t 74)),none,165008024,[]⟩ (.eH false [])))))))))))))))))))))))))))))) (.eH false [q 26 (.db (.t 6)) 165006000,q 27 (.bin .add .i64 (.t 26) (.k (.int .i64 1))) 165006001,q 6 (.db (.t 27)) 165006002])))))) (.seq (.eH false [q 76 (.db (.t 5)) 165009000,q 4 (.db (.t 76)) 165009001]) .ret)))))),[(.tmp 4)]⟩
theorem L9:vh Tryz.prog 165 [(7,2),(8,2)]=some NR:=by kernel_rfl
def NS:yN:=⟨118,2,(.seq (.eH false [q 4 (.db (.k .bK)) 168000000]) (.seq (.eH false [q 17 (.db (.t 0)) 168001000,q 18 (.jB [.gI] (.t 17) (.t 17)) 168001001,q 5 (.db (.t 18)) 168001002]) (.seq (.seq (.eH false [q 19 (.db (.t 5)) 168002000,q 20 (.len (.t 19)) 168002001,q 21 (.db (.k (.int .i64 0))) 168002002]) (.block 0 (.loop (.seq (.eH false [q 22 (.bin .lss .i64 (.t 21) (.t 20)) 168003000]) (.seq (.cond (.t 22) .skip (.exit 0)) (.seq (.block 1 (.seq (.eH false [q 23 (.db (.t 21)) 168004000,q 6 (.db (.t 23)) 168004001]) (.eH false [q 24 (.db (.t 5)) 168005000,q 25 (.db (.t 6)) 168005001,q 26 (.db (.t 6)) 168005002,q 27 (.build [.gI,(.int .i64 0)] [(1,(1,(.t 26)))]) 168005003,q 28 (.box (.t 27)) 168005004,q 29 (.dy 1 (.t 24) (.t 25)) 168005005,⟨none,(.store 1 (.t 29) (.t 28)),none,168005006,[]⟩]))) (.eH false [q 30 (.bin .add .i64 (.t 21) (.k (.int .i64 1))) 168006000,q 21 (.db (.t 30)) 168006001]))))))) (.seq (.seq (.eH false [q 31 (.db (.t 1)) 168007000,q 32 (.len (.t 31)) 168007001,q 33 (.db (.k (.int .i64 0))) 168007002]) (.block 2 (.loop (.seq (.eH false [q 34 (.bin .lss .i64 (.t 33) (.t 32)) 168008000]) (.seq (.cond (.t 34) .skip (.exit 2)) (.seq (.block 3 (.seq (.eH false [q 35 (.dy 3 (.t 31) (.t 33)) 168009000,q 36 (.load true 3 (.t 35)) 168009001,q 8 (.new [(.int .i64 0),(.int .i64 0),(.int .i64 0)]) 168009002,⟨none,(.store 3 (.t 8) (.t 36)),none,168009003,[]⟩]) (.seq (.one (q 37 (.db (.t 5)) 168010000) (.one (q 38 (.fG 0 (.t 8)) 168010001) (.one (q 39 (.load false 1 (.t 38)) 168010002) (.one (q 40 (.dy 1 (.t 37) (.t 39)) 168010003) (.one (q 41 (.load false 1 (.t 40)) 168010004) (.one (q 43 (.db (.t 5)) 168010006) (.one (q 44 (.fG 1 (.t 8)) 168010007) (.both (.one (q 42 (.call 184 [(.t 41)]) 168010005) (.one (q 45 (.load false 1 (.t 44)) 168010008) (.one (q 46 (.dy 1 (.t 43) (.t 45)) 168010009) (.one (q 47 (.load false 1 (.t 46)) 168010010) (.one (q 48 (.call 184 [(.t 47)]) 168010011) (.one (q 9 (.db (.t 42)) 168010012) (.one (q 10 (.db (.t 48)) 168010013) (.eH false [])))))))) (.one (q 45 (.load false 1 (.t 44)) 168010008) (.both (.one (q 42 (.call 184 [(.t 41)]) 168010005) (.one (q 46 (.dy 1 (.t 43) (.t 45)) 168010009) (.one (q 47 (.load false 1 (.t 46)) 168010010) (.one (q 48 (.call 184 [(.t 47)]) 168010011) (.one (q 9 (.db (.t 42)) 168010012) (.one (q 10 (.db (.t 48)) 168010013) (.eH false []))))))) (.one (q 46 (.dy 1 (.t 43) (.t 45)) 168010009) (.both (.one (q 42 (.call 184 [(.t 41)]) 168010005) (.one (q 47 (.load false 1 (.t 46)) 168010010) (.one (q 48 (.call 184 [(.t 47)]) 168010011) (.one (q 9 (.db (.t 42)) 168010012) (.one (q 10 (.db (.t 48)) 168010013) (.eH false [])))))) (.one (q 47 (.load false 1 (.t 46)) 168010010) (.one (q 42 (.call 184 [(.t 41)]) 168010005) (.one (q 48 (.call 184 [(.t 47)]) 168010011) (.one (q 9 (.db (.t 42)) 168010012) (.one (q 10 (.db (.t 48)) 168010013) (.eH false [])))))))))))))))))) (.block 4 (.seq (.eH true [q 50 (.db (.t 9)) 168011000,q 51 (.zl (.t 50)) 168011001,q 52 (.fG 1 (.t 51)) 168011002,q 53 (.load false 1 (.t 52)) 168011003,q 54 (.db (.t 10)) 168011004,q 55 (.zl (.t 54)) 168011005,q 56 (.fG 1 (.t 55)) 168011006,q 57 (.load false 1 (.t 56)) 168011007,q 58 (.bin .lss .i64 (.t 53) (.t 57)) 168011008,q 49 (.db (.t 58)) 168011009]) (.cond (.t 49) (.eH false [q 59 (.db (.t 10)) 168012000,q 60 (.db (.t 9)) 168012001,q 61 (.zl (.t 59)) 168012002,q 62 (.fG 0 (.t 61)) 168012003,⟨none,(.store 1 (.t 62) (.t 60)),none,168012004,[]⟩]) (.seq (.eH true [q 64 (.db (.t 10)) 168013000,q 65 (.zl (.t 64)) 168013001,q 66 (.fG 1 (.t 65)) 168013002,q 67 (.load false 1 (.t 66)) 168013003,q 68 (.db (.t 9)) 168013004,q 69 (.zl (.t 68)) 168013005,q 70 (.fG 1 (.t 69)) 168013006,q 71 (.load false 1 (.t 70)) 168013007,q 72 (.bin .lss .i64 (.t 67) (.t 71)) 168013008,q 63 (.db (.t 72)) 168013009]) (.cond (.t 63) (.eH false [q 73 (.db (.t 9)) 168014000,q 74 (.db (.t 10)) 168014001,q 75 (.zl (.t 73)) 168014002,q 76 (.fG 0 (.t 75)) 168014003,⟨none,(.store 1 (.t 76) (.t 74)),none,168014004,[]⟩]) .skip)))))))) (.eH false [q 77 (.bin .add .i64 (.t 33) (.k (.int .i64 1))) 168015000,q 33 (.db (.t 77)) 168015001]))))))) (.seq (.eH false [q 11 (.db (.k .bK)) 168016000]) (.seq (.eH false [⟨(some 78),(.mq (.new ⟨false,[.tI]⟩) []),none,168017000,[]⟩,q 12 (.db (.t 78)) 168017001]) (.seq (.seq (.eH false [q 79 (.db (.t 5)) 168018000,q 80 (.len (.t 79)) 168018001,q 81 (.db (.k (.int .i64 0))) 168018002]) (.block 5 (.loop (.seq (.eH false [q 82 (.bin .lss .i64 (.t 81) (.t 80)) 168019000]) (.seq (.cond (.t 82) .skip (.exit 5)) (.seq (.block 6 (.seq (.eH false [q 83 (.db (.t 81)) 168020000,q 84 (.dy 1 (.t 79) (.t 81)) 168020001,q 85 (.load false 1 (.t 84)) 168020002,q 13 (.db (.t 83)) 168020003,q 14 (.db (.t 85)) 168020004]) (.seq (.eH false [q 87 (.db (.t 12)) 168021000,q 88 (.db (.t 14)) 168021001,q 89 (.call 184 [(.t 88)]) 168021002,q 90 (.zl (.t 89)) 168021003,q 91 (.fG 1 (.t 90)) 168021004,q 92 (.load false 1 (.t 91)) 168021005,⟨(some 93),(.mq (.look ⟨false,[.tI]⟩ true (.int .i64 0)) [(.t 87),(.t 92)]),none,168021006,[]⟩,q 86 (.db (.t 93)) 168021007,q 94 (.extract 0 (.t 86)) 168021008,q 95 (.extract 1 (.t 86)) 168021009,q 15 (.db (.t 94)) 168021010,q 16 (.db (.t 95)) 168021011]) (.seq (.seq (.eH false [q 96 (.db (.t 16)) 168022000,q 97 (.not (.t 96)) 168022001]) (.cond (.t 97) (.seq (.eH false [q 98 (.db (.t 11)) 168023000,q 99 (.len (.t 98)) 168023001,q 15 (.db (.t 99)) 168023002]) (.seq (.eH false [q 100 (.db (.t 12)) 168024000,q 101 (.db (.t 13)) 168024001,q 102 (.db (.t 15)) 168024002,⟨none,(.mw (.set ⟨false,[.tI]⟩) [(.t 100),(.t 101),(.t 102)]),none,168024003,[]⟩]) (.eH false [q 103 (.db (.t 11)) 168025000,q 104 (.l8 1 1 [(.k .bK)]) 168025001,q 105 (.append 1 (.t 103) (.t 104)) 168025002,q 11 (.db (.t 105)) 168025003]))) .skip)) (.eH false [q 106 (.db (.t 11)) 168026000,q 107 (.db (.t 15)) 168026001,q 108 (.db (.t 11)) 168026002,q 109 (.db (.t 15)) 168026003,q 110 (.dy 1 (.t 108) (.t 109)) 168026004,q 111 (.load false 1 (.t 110)) 168026005,q 112 (.db (.t 13)) 168026006,q 113 (.l8 1 1 [(.t 112)]) 168026007,q 114 (.append 1 (.t 111) (.t 113)) 168026008,q 115 (.dy 1 (.t 106) (.t 107)) 168026009,⟨none,(.store 1 (.t 115) (.t 114)),none,168026010,[]⟩]))))) (.eH false [q 116 (.bin .add .i64 (.t 81) (.k (.int .i64 1))) 168027000,q 81 (.db (.t 116)) 168027001]))))))) (.seq (.eH false [q 117 (.db (.t 11)) 168028000,q 4 (.db (.t 117)) 168028001]) .ret)))))))),[(.tmp 4)]⟩
theorem Ma:vh Tryz.prog 168 [(10,2)]=some NS:=by kernel_rfl
end Go.Proofs.YtihgaadadaekmaaGreatDoor.V

namespace Go.Proofs.YtihgaadadaekmaaGreatDoor.V
open Go.RowKit
attribute [local irreducible] ea wpOps gS Call
attribute [local go_sem] aM fQ eM gi gh cE upd cu K.av cL AV.cells AV.cell rowOf rowsOf part ld rowAt bY ck dI eh ij bL da eA gp e8 du eo cY cX dV dW bR bm cQ bQ cT cR ej er ek cP bW cZ ei bP aQ cV cC ig bw cH bS aX dG bu dL AV.undef bF bH dY ef dU ec cF ez eF cw ev eu cU cW List.getD_cons_zero List.getD_cons_succ List.getD_nil List.all_cons List.all_nil Bool.and_true Bool.true_and Bool.and_self Bool.not_true Bool.not_false Option.map_some Option.map_none Option.bind_some Option.bind_none List.length_cons List.length_nil List.take_succ_cons List.take_zero List.take_nil List.drop_succ_cons List.drop_zero List.drop_nil List.head?_cons List.map_cons List.map_nil List.getElem?_cons_zero List.getElem?_cons_succ List.cons_append List.nil_append List.append_nil List.length_map List.set_cons_zero List.set_cons_succ Nat.reduceMul eq_self Int.toNat_natCast Int.natCast_nonneg and_self true_and and_true decide_true decide_false Bool.false_eq_true Nat.zero_add Nat.add_zero List.contains_cons List.contains_nil Bool.or_false Bool.false_or beq_self_eq_true Nat.reduceBEq ne_eq not_true_eq_false not_false_eq_true Id.mk.injEq false_and and_false Nat.reduceLT Int.reduceLE Int.reduceLT Int.reduceToNat Int.reduceNeg Int.reduceAdd Nat.le_refl List.length_append beq_true beq_false Bool.not_eq_eq_eq_not or_false false_or dE ad aj aI bE cj aV bf aU bo cN bG
theorem zM (x:fe) (g:Rows):cm g 6 [.agg (bd x)]=some [.agg (bd x)]:=by simp[bd,ad,aj,bf,bE,aI]
theorem zN (x:eJ) (g:Rows):cm g 6 [.agg (bj x)]=some [.agg (bj x)]:=by simp[bj,ad,aj,bf,bE,cj]
theorem BJ (x:aq) (g:Rows):cm g 6 [.agg (ai x)]=some [.agg (ai x)]:=by simp[ai,ad,aj,bf,aI]
theorem ft {n:Nat} {l:Int} (h:(n:Int)<=l):ta n l=l-n:=if_pos h
theorem fq {n:Nat} {l:Int} (h:¬(n:Int)<=l):ta n l= -1:=if_neg h
def jZ (t:eJ):Nat:=t.aB.size+t.bp.length
def sN (s:ar):Nat:=(s.aw.length+(s.aw.map fun g=>g.aB.size).sum)+(s.ah.length+(s.ah.map jZ).sum)
def qU (s:cl):Nat:=sN s.aE+s.bZ.ah.length
def fA (s:ar):Prop:=(∀g∈s.aw,g.aB.size<=9223372036854775807)/\∀t∈s.ah,t.aB.size<=9223372036854775807
theorem IF (g:fe) (l:Int) (h0:0<=l) (h1:l<=1048576) (hs:g.aB.size<=9223372036854775807):ae Tryz.prog 90 [.agg (bd g),.int .i64 l] (.int .i64 (ta g.aB.size l)):=by
 refine ae.body dK rfl fun hl n0=>?_
 clear hl
 have hw:IntKind.i64.wrap (l-(g.aB.size:Int))=l-g.aB.size:=aT ab
 by_cases hf:(g.aB.size:Int)<=l
 ·have kM:¬l-(g.aB.size:Int)<0:=ab
  (try((repeat(revert hN;revert N;apply Pn.out));refine wk (tw @bd.eq_1 (tw @hw @kM)) ?_;(repeat(refine Pn.mk ?_;intro N hN))))
  exact aZ (b:=l-(g.aB.size:Int)) (.inl rfl) (sd @Nat.zero_add) (ft hf).symm
 ·have kM:l-(g.aB.size:Int)<0:=ab
  (try((repeat(revert hN;revert N;apply Pn.out));refine wk (tw @bd.eq_1 (tw @hw @kM)) ?_;(repeat(refine Pn.mk ?_;intro N hN))))
  exact aZ (b:=-1) (.inl rfl) (sd @Nat.zero_add) (fq hf).symm
theorem AJ (xs:List Int) (l:Int) (h0:0<=l) (h1:l<=1048576):ae Tryz.prog 82 [.sl (xs.map au),.int .i64 l] (.int .i64 (ta xs.length l)):=by
 have h:=CP (show kO Tryz.prog 82=some (D5 82) by kernel_rfl) (xs.map au) l h0 h1
 rwa [List.length_map]at h
theorem II (t:eJ) (l:Int) (h0:0<=l) (h1:l<=1048576) (hs:t.aB.size<=9223372036854775807):ae Tryz.prog 91 [.agg (bj t),.int .i64 l] (.int .i64 (ta (jZ t) l)):=by
 refine ae.body dK rfl fun hl n0=>?_
 clear hl
 have hw:IntKind.i64.wrap (l-(t.aB.size:Int))=l-t.aB.size:=aT ab
 by_cases hf:(t.aB.size:Int)<=l
 ·have kM:¬l-(t.aB.size:Int)<0:=ab
  have hc:=AJ t.bp (l-t.aB.size) ab ab
  by_cases hg:(t.bp.length:Int)<=l-t.aB.size
  ·rw[ft hg]at hc
   have Jd:¬l-(t.aB.size:Int)-(t.bp.length:Int)<0:=ab
   (repeat(first|((repeat(revert hN;revert N;apply Pn.out));refine wk (tw @bj.eq_1 (tw @hw (tw @kM @Jd))) ?_;(repeat(refine Pn.mk ?_;intro N hN)))|((try apply Or.inl);refine⟨_,ae.x (hc) (sd (tw @bj.eq_1 (tw @hw (tw @kM @Jd)))),?_⟩;refine hN _ _ ?_;clear hN N)))
   exact aZ (b:=l-(t.aB.size:Int)-(t.bp.length:Int)) (.inl rfl) (sd @Nat.zero_add) (by rw[ft (by unfold jZ;omega)];unfold jZ;omega)
  ·rw[fq hg]at hc
   (repeat(first|((repeat(revert hN;revert N;apply Pn.out));refine wk (tw @bj.eq_1 (tw @hw @kM)) ?_;(repeat(refine Pn.mk ?_;intro N hN)))|((try apply Or.inl);refine⟨_,ae.x (hc) (sd (tw @bj.eq_1 (tw @hw @kM))),?_⟩;refine hN _ _ ?_;clear hN N)))
   exact aZ (b:=-1) (.inl rfl) (sd @Nat.zero_add) (fq (by unfold jZ;omega)).symm
 ·have kM:l-(t.aB.size:Int)<0:=ab
  (try((repeat(revert hN;revert N;apply Pn.out));refine wk (tw @bj.eq_1 (tw @hw @kM)) ?_;(repeat(refine Pn.mk ?_;intro N hN))))
  exact aZ (b:=-1) (.inl rfl) (sd @Nat.zero_add) (fq (by unfold jZ;omega)).symm
theorem FT (xs:List fe) (l:Int) (h0:0<=l) (h1:l<=1048576) (hs:∀g∈xs,g.aB.size<=9223372036854775807):ae Tryz.prog 63 [.sl (xs.map bd),.int .i64 l] (.int .i64 (ta (xs.length+(xs.map fun g=>g.aB.size).sum) l)):=
 IH (fun g:fe=>g.aB.size) (show kO Tryz.prog 63=some (IG 63 90 2) by kernel_rfl) (fun _=>rfl) zM xs l h0 h1 fun x hx l a b=>IF x l a b (hs x hx)
theorem FU (xs:List eJ) (l:Int) (h0:0<=l) (h1:l<=1048576) (hs:∀t∈xs,t.aB.size<=9223372036854775807):ae Tryz.prog 64 [.sl (xs.map bj),.int .i64 l] (.int .i64 (ta (xs.length+(xs.map jZ).sum) l)):=
 IH jZ (show kO Tryz.prog 64=some (IG 64 91 2) by kernel_rfl) (fun _=>rfl) zN xs l h0 h1 fun x hx l a b=>II x l a b (hs x hx)
theorem CO (xs:List aq) (l:Int) (h0:0<=l) (h1:l<=1048576):ae Tryz.prog 34 [.sl (xs.map ai),.int .i64 l] (.int .i64 (ta xs.length l)):=by
 have h:=CP (show kO Tryz.prog 34=some (D5 34) by kernel_rfl) (xs.map ai) l h0 h1
 rwa [List.length_map]at h
theorem AK (s:ar) (l:Int) (h0:0<=l) (h1:l<=1048576) (hs:fA s):ae Tryz.prog 33 [.agg (aa s),.int .i64 l] (.int .i64 (ta (sN s) l)):=by
 refine ae.body dK rfl fun hl n0=>?_
 clear hl
 have ha:=FT s.aw l h0 h1 hs.1
 have he:sN s=(s.aw.length+(s.aw.map fun g=>g.aB.size).sum)+(s.ah.length+(s.ah.map jZ).sum):=rfl
 by_cases hf:((s.aw.length+(s.aw.map fun g=>g.aB.size).sum:Nat):Int)<=l
 ·rw[ft hf]at ha
  obtain⟨A,hA⟩:∃A:Int,A=l-((s.aw.length+(s.aw.map fun g=>g.aB.size).sum:Nat):Int):=⟨_,rfl⟩
  rw[<-hA]at ha
  have kM:¬A<0:=ab
  have hb:=FU s.ah A ab ab hs.2
  by_cases hg:((s.ah.length+(s.ah.map jZ).sum:Nat):Int)<=A
  ·rw[ft hg]at hb
   obtain⟨B,hB⟩:∃B:Int,B=A-((s.ah.length+(s.ah.map jZ).sum:Nat):Int):=⟨_,rfl⟩
   rw[<-hB]at hb
   have Jd:¬B<0:=ab
   (repeat(first|((repeat(revert hN;revert N;apply Pn.out));refine wk (tw @aa.eq_1 (tw @kM @Jd)) ?_;(repeat(refine Pn.mk ?_;intro N hN)))|((try apply Or.inl);refine⟨_,ae.x (ha) (sd (tw @aa.eq_1 (tw @kM @Jd))),?_⟩;refine hN _ _ ?_;clear hN N)|((try apply Or.inl);refine⟨_,ae.x (hb) (sd (tw @aa.eq_1 (tw @kM @Jd))),?_⟩;refine hN _ _ ?_;clear hN N)))
   exact aZ (b:=B) (.inl rfl) (sd @Nat.zero_add) (by rw[ft ab];omega)
  ·rw[fq hg]at hb
   (repeat(first|((repeat(revert hN;revert N;apply Pn.out));refine wk (tw @aa.eq_1 @kM) ?_;(repeat(refine Pn.mk ?_;intro N hN)))|((try apply Or.inl);refine⟨_,ae.x (ha) (sd (tw @aa.eq_1 @kM)),?_⟩;refine hN _ _ ?_;clear hN N)|((try apply Or.inl);refine⟨_,ae.x (hb) (sd (tw @aa.eq_1 @kM)),?_⟩;refine hN _ _ ?_;clear hN N)))
   exact aZ (b:=-1) (.inl rfl) (sd @Nat.zero_add) (fq ab).symm
 ·rw[fq hf]at ha
  (repeat(first|((repeat(revert hN;revert N;apply Pn.out));refine wk @aa.eq_1 ?_;(repeat(refine Pn.mk ?_;intro N hN)))|((try apply Or.inl);refine⟨_,ae.x (ha) (sd @aa.eq_1),?_⟩;refine hN _ _ ?_;clear hN N)))
  exact aZ (b:=-1) (.inl rfl) (sd @Nat.zero_add) (fq ab).symm
theorem qN (a:dj) (l:Int) (h0:0<=l) (h1:l<=1048576):ae Tryz.prog 8 [.agg (aD a),.int .i64 l] (.int .i64 (ta a.ah.length l)):=by
 refine ae.body dK rfl fun hl n0=>?_
 clear hl
 have ha:=CO a.ah l h0 h1
 by_cases hf:(a.ah.length:Int)<=l
 ·rw[ft hf]at ha
  have kM:¬l-(a.ah.length:Int)<0:=ab
  (repeat(first|((repeat(revert hN;revert N;apply Pn.out));refine wk (tw @aD.eq_1 @kM) ?_;(repeat(refine Pn.mk ?_;intro N hN)))|((try apply Or.inl);refine⟨_,ae.x (ha) (sd (tw @aD.eq_1 @kM)),?_⟩;refine hN _ _ ?_;clear hN N)))
  exact aZ (b:=l-(a.ah.length:Int)) (.inl rfl) (sd @Nat.zero_add) (ft hf).symm
 ·rw[fq hf]at ha
  (repeat(first|((repeat(revert hN;revert N;apply Pn.out));refine wk @aD.eq_1 ?_;(repeat(refine Pn.mk ?_;intro N hN)))|((try apply Or.inl);refine⟨_,ae.x (ha) (sd @aD.eq_1),?_⟩;refine hN _ _ ?_;clear hN N)))
  exact aZ (b:=-1) (.inl rfl) (sd @Nat.zero_add) (fq hf).symm
theorem CQ (s:cl) (l:Int) (h0:0<=l) (h1:l<=1048576) (hs:fA s.aE):ae Tryz.prog 7 [.agg (az s),.int .i64 l] (.int .i64 (ta (qU s) l)):=by
 refine ae.body dK rfl fun hl n0=>?_
 clear hl
 have ha:=AK s.aE l h0 h1 hs
 rw[aa]at ha
 have he:qU s=sN s.aE+s.bZ.ah.length:=rfl
 by_cases hf:(sN s.aE:Int)<=l
 ·rw[ft hf]at ha
  have kM:¬l-(sN s.aE:Int)<0:=ab
  have hb:=qN s.bZ (l-sN s.aE) ab ab
  rw[aD]at hb
  by_cases hg:(s.bZ.ah.length:Int)<=l-sN s.aE
  ·rw[ft hg]at hb
   have Jd:¬l-(sN s.aE:Int)-(s.bZ.ah.length:Int)<0:=ab
   (repeat(first|((repeat(revert hN;revert N;apply Pn.out));refine wk (tw @az.eq_1 (tw @kM @Jd)) ?_;(repeat(refine Pn.mk ?_;intro N hN)))|((try apply Or.inl);refine⟨_,ae.x (ha) (sd (tw @az.eq_1 (tw @kM @Jd))),?_⟩;refine hN _ _ ?_;clear hN N)|((try apply Or.inl);refine⟨_,ae.x (hb) (sd (tw @az.eq_1 (tw @kM @Jd))),?_⟩;refine hN _ _ ?_;clear hN N)))
   exact aZ (b:=l-(sN s.aE:Int)-(s.bZ.ah.length:Int)) (.inl rfl) (sd @Nat.zero_add) (by rw[ft ab];omega)
  ·rw[fq hg]at hb
   (repeat(first|((repeat(revert hN;revert N;apply Pn.out));refine wk (tw @az.eq_1 @kM) ?_;(repeat(refine Pn.mk ?_;intro N hN)))|((try apply Or.inl);refine⟨_,ae.x (ha) (sd (tw @az.eq_1 @kM)),?_⟩;refine hN _ _ ?_;clear hN N)|((try apply Or.inl);refine⟨_,ae.x (hb) (sd (tw @az.eq_1 @kM)),?_⟩;refine hN _ _ ?_;clear hN N)))
   exact aZ (b:=-1) (.inl rfl) (sd @Nat.zero_add) (fq ab).symm
 ·rw[fq hf]at ha
  (repeat(first|((repeat(revert hN;revert N;apply Pn.out));refine wk @az.eq_1 ?_;(repeat(refine Pn.mk ?_;intro N hN)))|((try apply Or.inl);refine⟨_,ae.x (ha) (sd @az.eq_1),?_⟩;refine hN _ _ ?_;clear hN N)))
  exact aZ (b:=-1) (.inl rfl) (sd @Nat.zero_add) (fq ab).symm
theorem KN (x:fe) (g:Rows):cm g 5 (bd x)=some (bd x):=by simp[bd,ad,aj,bE,aI]
theorem KO (x:eJ) (g:Rows):cm g 5 (bj x)=some (bj x):=by simp[bj,ad,aj,bE,cj]
theorem FH (x:aq) (g:Rows):cm g 5 (ai x)=some (ai x):=by simp[ai,ad,aj,aI]
theorem w8 (p:cr):iP Tryz.prog 100 [.agg (ao p)] (.agg (ao p)):=by
 refine iP.body dK rfl fun hl σ=>?_
 clear hl
 (try((repeat(revert hN;revert N;apply Pn.out));refine wk @ao.eq_1 ?_;(repeat(refine Pn.mk ?_;intro N hN))))
 exact sM (.inl rfl) (vs:=[.agg (ao p)]) (by simp only[go_sem, ↓reduceIte,Nat.reduceEqDiff,Nat.reduceAdd,Nat.reduceSub,Nat.reduceLeDiff,reduceCtorEq,eV,gM,ao]) (by simp[eB,ao,bf,ad,aj,aI])
theorem CS (p:aq):iP Tryz.prog 71 [.agg (ai p)] (.agg (ai p)):=by
 refine iP.body dK rfl fun hl σ=>?_
 clear hl
 have h:=w8 p.cI
 rw[ao]at h
 (repeat(first|((repeat(revert hN;revert N;apply Pn.out));refine wk @ai.eq_1 ?_;(repeat(refine Pn.mk ?_;intro N hN)))|((try apply Or.inl);refine⟨_,iP.x (h) _,?_⟩;refine hN _ _ ?_;clear hN N)))
 exact sM (.inl rfl) (vs:=[.agg (ai p)]) (by simp only[go_sem, ↓reduceIte,Nat.reduceEqDiff,Nat.reduceAdd,Nat.reduceSub,Nat.reduceLeDiff,reduceCtorEq,eV,gM,ai]) (by simp[eB,ai,bf,ad,aj,aI])
theorem IS (p:fe):iP Tryz.prog 98 [.agg (bd p)] (.agg (bd p)):=by
 refine iP.body dK rfl fun hl σ=>?_
 clear hl
 (try((repeat(revert hN;revert N;apply Pn.out));refine wk @bd.eq_1 ?_;(repeat(refine Pn.mk ?_;intro N hN))))
 exact sM (.inl rfl) (vs:=[.agg (bd p)]) (by simp only[go_sem, ↓reduceIte,Nat.reduceEqDiff,Nat.reduceAdd,Nat.reduceSub,Nat.reduceLeDiff,reduceCtorEq,eV,gM,bd]) (by simp[eB,bd,bf,ad,aj,aI,bE])
theorem IT (xs:List Int) (h:xs.length<=1048576):iP Tryz.prog 86 [.sl (xs.map au)] (.sl (xs.map au)):=
 QF (show kO Tryz.prog 86=some (IV 86 (.int .i64 0)) by kernel_rfl) xs h
def rf (t:eJ):Prop:=t.bp.length<=1048576
theorem IX (p:eJ) (hs:rf p):iP Tryz.prog 99 [.agg (bj p)] (.agg (bj p)):=by
 refine iP.body dK rfl fun hl σ=>?_
 clear hl
 have h:=IT p.bp hs
 (repeat(first|((repeat(revert hN;revert N;apply Pn.out));refine wk @bj.eq_1 ?_;(repeat(refine Pn.mk ?_;intro N hN)))|((try apply Or.inl);refine⟨_,iP.x (h) _,?_⟩;refine hN _ _ ?_;clear hN N)))
 exact sM (.inl rfl) (vs:=[.agg (bj p)]) (by simp only[go_sem, ↓reduceIte,Nat.reduceEqDiff,Nat.reduceAdd,Nat.reduceSub,Nat.reduceLeDiff,reduceCtorEq,eV,gM,bj]) (by simp[eB,bj,bf,ad,aj,cj,bE])
theorem tJ (xs ys:List Int):ae Tryz.prog 22 [.sl (xs.map au),.sl (ys.map au)] (.bool (decide (xs=ys))):=
 O9 (show kO Tryz.prog 22=some (Lh 22 .tI) by kernel_rfl) xs ys
theorem G5 (a b:eJ):ae Tryz.prog 110 [.agg (bj a),.agg (bj b)] (.bool (decide (a=b))):=by
 refine ae.body dK rfl fun hl n0=>?_
 clear hl
 have h:=tJ a.bp b.bp
 by_cases h1:a.aB=b.aB
 ·have e1:decide (a.aB=b.aB)=true:=decide_eq_true h1
  by_cases h2:a.bp=b.bp
  ·rw[decide_eq_true h2]at h
   (repeat(first|((repeat(revert hN;revert N;apply Pn.out));refine wk (tw @bj.eq_1 @e1) ?_;(repeat(refine Pn.mk ?_;intro N hN)))|((try apply Or.inl);refine⟨_,ae.x (h) (sd (tw @bj.eq_1 @e1)),?_⟩;refine hN _ _ ?_;clear hN N)))
   exact aC (b:=true) (.inl rfl) (sd @Nat.zero_add) (decide_eq_true (by cases a;cases b;simp_all)).symm
  ·rw[decide_eq_false h2]at h
   (repeat(first|((repeat(revert hN;revert N;apply Pn.out));refine wk (tw @bj.eq_1 @e1) ?_;(repeat(refine Pn.mk ?_;intro N hN)))|((try apply Or.inl);refine⟨_,ae.x (h) (sd (tw @bj.eq_1 @e1)),?_⟩;refine hN _ _ ?_;clear hN N)))
   exact aC (b:=false) (.inl rfl) (sd @Nat.zero_add) (decide_eq_false (by rintro rfl;exact h2 rfl)).symm
 ·have e1:decide (a.aB=b.aB)=false:=decide_eq_false h1
  (try((repeat(revert hN;revert N;apply Pn.out));refine wk (tw @bj.eq_1 @e1) ?_;(repeat(refine Pn.mk ?_;intro N hN))))
  exact aC (b:=false) (.inl rfl) (sd @Nat.zero_add) (decide_eq_false (by rintro rfl;exact h1 rfl)).symm
theorem F1 (xs:List fe) (h:xs.length<=1048576):iP Tryz.prog 69 [.sl (xs.map bd)] (.sl (xs.map bd)):=
 yF (show kO Tryz.prog 69=some (o8 69 98 2 [.str [],.int .i64 0]) by kernel_rfl) rfl (fun _=>rfl) (fun _=>rfl) KN xs h fun x _=>IS x
theorem F3 (xs:List eJ) (h:xs.length<=1048576) (hs:∀t∈xs,rf t):iP Tryz.prog 70 [.sl (xs.map bj)] (.sl (xs.map bj)):=
 yF (show kO Tryz.prog 70=some (o8 70 99 2 [.str [],.bK]) by kernel_rfl) rfl (fun _=>rfl) (fun _=>rfl) KO xs h fun x hx=>IX x (hs x hx)
theorem AO (xs:List aq) (h:xs.length<=1048576):iP Tryz.prog 40 [.sl (xs.map ai)] (.sl (xs.map ai)):=
 yF (show kO Tryz.prog 40=some (o8 40 71 3 [.int .i64 0,.int .i64 0,.int .i64 0]) by kernel_rfl) rfl (fun _=>rfl) (fun _=>rfl) FH xs h fun x _=>CS x
structure GD (s:ar):Prop where
 g:s.aw.length<=1048576
 t:s.ah.length<=1048576
 s:∀t∈s.ah,rf t
structure pY (y:cl):Prop where
 s:GD y.aE
 a:y.bZ.ah.length<=1048576
theorem AQ (p:ar) (hs:GD p):iP Tryz.prog 39 [.agg (aa p)] (.agg (aa p)):=by
 refine iP.body dK rfl fun hl σ=>?_
 clear hl
 have h1:=F1 p.aw hs.g
 have h2:=F3 p.ah hs.t hs.s
 (repeat(first|((repeat(revert hN;revert N;apply Pn.out));refine wk @aa.eq_1 ?_;(repeat(refine Pn.mk ?_;intro N hN)))|((try apply Or.inl);refine⟨_,iP.x (h1) _,?_⟩;refine hN _ _ ?_;clear hN N)|((try apply Or.inl);refine⟨_,iP.x (h2) _,?_⟩;refine hN _ _ ?_;clear hN N)))
 exact sM (.inl rfl) (vs:=[.agg (aa p)]) (by simp only[go_sem, ↓reduceIte,Nat.reduceEqDiff,Nat.reduceAdd,Nat.reduceSub,Nat.reduceLeDiff,reduceCtorEq,eV,gM,aa]) (by simp[eB,aa,bf,ad,aj,cj])
theorem qQ (p:dj) (hs:p.ah.length<=1048576):iP Tryz.prog 11 [.agg (aD p)] (.agg (aD p)):=by
 refine iP.body dK rfl fun hl σ=>?_
 clear hl
 have h1:=AO p.ah hs
 (repeat(first|((repeat(revert hN;revert N;apply Pn.out));refine wk @aD.eq_1 ?_;(repeat(refine Pn.mk ?_;intro N hN)))|((try apply Or.inl);refine⟨_,iP.x (h1) _,?_⟩;refine hN _ _ ?_;clear hN N)))
 exact sM (.inl rfl) (vs:=[.agg (aD p)]) (by simp only[go_sem, ↓reduceIte,Nat.reduceEqDiff,Nat.reduceAdd,Nat.reduceSub,Nat.reduceLeDiff,reduceCtorEq,eV,gM,aD]) (by simp[eB,aD,bf,ad,aj,cj])
theorem CU (p:cl) (hs:pY p):iP Tryz.prog 10 [.agg (az p)] (.agg (az p)):=by
 refine iP.body dK rfl fun hl σ=>?_
 clear hl
 have h1:=AQ p.aE hs.s
 have h2:=qQ p.bZ hs.a
 rw[aa]at h1
 rw[aD]at h2
 (repeat(first|((repeat(revert hN;revert N;apply Pn.out));refine wk @az.eq_1 ?_;(repeat(refine Pn.mk ?_;intro N hN)))|((try apply Or.inl);refine⟨_,iP.x (h1) _,?_⟩;refine hN _ _ ?_;clear hN N)|((try apply Or.inl);refine⟨_,iP.x (h2) _,?_⟩;refine hN _ _ ?_;clear hN N)))
 exact sM (.inl rfl) (vs:=[.agg (az p)]) (by simp only[go_sem, ↓reduceIte,Nat.reduceEqDiff,Nat.reduceAdd,Nat.reduceSub,Nat.reduceLeDiff,reduceCtorEq,eV,gM,az]) (by simp[eB,az,bf,ad,aj,cj,aI])
theorem G4 (a b:fe):ae Tryz.prog 109 [.agg (bd a),.agg (bd b)] (.bool (decide (a=b))):=by
 refine ae.body dK rfl fun hl n0=>?_
 clear hl
 by_cases h1:a.aB=b.aB
 ·have e1:decide (a.aB=b.aB)=true:=decide_eq_true h1
  by_cases h2:a.dQ=b.dQ
  ·have e2:decide (a.dQ=b.dQ)=true:=decide_eq_true h2
   (try((repeat(revert hN;revert N;apply Pn.out));refine wk (tw @bd.eq_1 (tw @e1 @e2)) ?_;(repeat(refine Pn.mk ?_;intro N hN))))
   exact aC (b:=true) (.inl rfl) (sd @Nat.zero_add) (decide_eq_true (by cases a;cases b;simp_all)).symm
  ·have e2:decide (a.dQ=b.dQ)=false:=decide_eq_false h2
   (try((repeat(revert hN;revert N;apply Pn.out));refine wk (tw @bd.eq_1 (tw @e1 @e2)) ?_;(repeat(refine Pn.mk ?_;intro N hN))))
   exact aC (b:=false) (.inl rfl) (sd @Nat.zero_add) (decide_eq_false (by rintro rfl;exact h2 rfl)).symm
 ·have e1:decide (a.aB=b.aB)=false:=decide_eq_false h1
  (try((repeat(revert hN;revert N;apply Pn.out));refine wk (tw @bd.eq_1 @e1) ?_;(repeat(refine Pn.mk ?_;intro N hN))))
  exact aC (b:=false) (.inl rfl) (sd @Nat.zero_add) (decide_eq_false (by rintro rfl;exact h1 rfl)).symm
theorem EK (a b:cr):ae Tryz.prog 111 [.agg (ao a),.agg (ao b)] (.bool (decide (a=b))):=by
 refine ae.body dK rfl fun hl n0=>?_
 clear hl
 by_cases h1:a.gG=b.gG
 ·have e1:decide (a.gG=b.gG)=true:=decide_eq_true h1
  by_cases h2:a.fR=b.fR
  ·have e2:decide (a.fR=b.fR)=true:=decide_eq_true h2
   (try((repeat(revert hN;revert N;apply Pn.out));refine wk (tw @ao.eq_1 (tw @e1 @e2)) ?_;(repeat(refine Pn.mk ?_;intro N hN))))
   exact aC (b:=true) (.inl rfl) (sd @Nat.zero_add) (decide_eq_true (by cases a;cases b;simp_all)).symm
  ·have e2:decide (a.fR=b.fR)=false:=decide_eq_false h2
   (try((repeat(revert hN;revert N;apply Pn.out));refine wk (tw @ao.eq_1 (tw @e1 @e2)) ?_;(repeat(refine Pn.mk ?_;intro N hN))))
   exact aC (b:=false) (.inl rfl) (sd @Nat.zero_add) (decide_eq_false (by rintro rfl;exact h2 rfl)).symm
 ·have e1:decide (a.gG=b.gG)=false:=decide_eq_false h1
  (try((repeat(revert hN;revert N;apply Pn.out));refine wk (tw @ao.eq_1 @e1) ?_;(repeat(refine Pn.mk ?_;intro N hN))))
  exact aC (b:=false) (.inl rfl) (sd @Nat.zero_add) (decide_eq_false (by rintro rfl;exact h1 rfl)).symm
theorem Bv (a b:aq):ae Tryz.prog 78 [.agg (ai a),.agg (ai b)] (.bool (decide (a=b))):=by
 refine ae.body dK rfl fun hl n0=>?_
 clear hl
 have h:=EK a.cI b.cI
 rw[ao,ao]at h
 by_cases h1:a.cI=b.cI
 ·rw[decide_eq_true h1]at h
  by_cases h2:a.bJ=b.bJ
  ·have e2:decide (a.bJ=b.bJ)=true:=decide_eq_true h2
   (repeat(first|((repeat(revert hN;revert N;apply Pn.out));refine wk (tw @ai.eq_1 @e2) ?_;(repeat(refine Pn.mk ?_;intro N hN)))|((try apply Or.inl);refine⟨_,ae.x (h) (sd (tw @ai.eq_1 @e2)),?_⟩;refine hN _ _ ?_;clear hN N)))
   exact aC (b:=true) (.inl rfl) (sd @Nat.zero_add) (decide_eq_true (by cases a;cases b;simp_all)).symm
  ·have e2:decide (a.bJ=b.bJ)=false:=decide_eq_false h2
   (repeat(first|((repeat(revert hN;revert N;apply Pn.out));refine wk (tw @ai.eq_1 @e2) ?_;(repeat(refine Pn.mk ?_;intro N hN)))|((try apply Or.inl);refine⟨_,ae.x (h) (sd (tw @ai.eq_1 @e2)),?_⟩;refine hN _ _ ?_;clear hN N)))
   exact aC (b:=false) (.inl rfl) (sd @Nat.zero_add) (decide_eq_false (by rintro rfl;exact h2 rfl)).symm
 ·rw[decide_eq_false h1]at h
  (repeat(first|((repeat(revert hN;revert N;apply Pn.out));refine wk @ai.eq_1 ?_;(repeat(refine Pn.mk ?_;intro N hN)))|((try apply Or.inl);refine⟨_,ae.x (h) (sd @ai.eq_1),?_⟩;refine hN _ _ ?_;clear hN N)))
  exact aC (b:=false) (.inl rfl) (sd @Nat.zero_add) (decide_eq_false (by rintro rfl;exact h1 rfl)).symm
theorem EJ (xs ys:List fe):ae Tryz.prog 76 [.sl (xs.map bd),.sl (ys.map bd)] (.bool (decide (xs=ys))):=
 xD (show kO Tryz.prog 76=some (zz 76 109 2) by kernel_rfl) (fun _=>rfl) zM xs ys G4
theorem EL (xs ys:List eJ):ae Tryz.prog 77 [.sl (xs.map bj),.sl (ys.map bj)] (.bool (decide (xs=ys))):=
 xD (show kO Tryz.prog 77=some (zz 77 110 2) by kernel_rfl) (fun _=>rfl) zN xs ys G5
theorem r8 (xs ys:List aq):ae Tryz.prog 46 [.sl (xs.map ai),.sl (ys.map ai)] (.bool (decide (xs=ys))):=
 xD (show kO Tryz.prog 46=some (zz 46 78 3) by kernel_rfl) (fun _=>rfl) BJ xs ys Bv
theorem Bw (a:cl):ae Tryz.prog 14 [.agg (az a),.agg (az a)] (.bool true):=by
 have q1:ae Tryz.prog 45 [.agg (aa a.aE),.agg (aa a.aE)] (.bool true):=by
  refine ae.body dK rfl fun hl n0=>?_
  clear hl
  have h1:=EJ a.aE.aw a.aE.aw
  have h2:=EL a.aE.ah a.aE.ah
  rw[decide_eq_true rfl]at h1 h2
  (repeat(first|((repeat(revert hN;revert N;apply Pn.out));refine wk @aa.eq_1 ?_;(repeat(refine Pn.mk ?_;intro N hN)))|((try apply Or.inl);refine⟨_,ae.x (h1) (sd @aa.eq_1),?_⟩;refine hN _ _ ?_;clear hN N)|((try apply Or.inl);refine⟨_,ae.x (h2) (sd @aa.eq_1),?_⟩;refine hN _ _ ?_;clear hN N)))
  exact aC (b:=true) (.inl rfl) (sd @Nat.zero_add) rfl
 have q2:ae Tryz.prog 15 [.agg (aD a.bZ),.agg (aD a.bZ)] (.bool true):=by
  refine ae.body dK rfl fun hl n0=>?_
  clear hl
  have h1:=r8 a.bZ.ah a.bZ.ah
  rw[decide_eq_true rfl]at h1
  (repeat(first|((repeat(revert hN;revert N;apply Pn.out));refine wk @aD.eq_1 ?_;(repeat(refine Pn.mk ?_;intro N hN)))|((try apply Or.inl);refine⟨_,ae.x (h1) (sd @aD.eq_1),?_⟩;refine hN _ _ ?_;clear hN N)))
  exact aC (b:=true) (.inl rfl) (sd @Nat.zero_add) rfl
 rw[aa]at q1
 rw[aD]at q2
 refine ae.body dK rfl fun hl n0=>?_
 clear hl
 have e:decide (a.aH=a.aH)=true:=decide_eq_true rfl
 (repeat(first|((repeat(revert hN;revert N;apply Pn.out));refine wk (tw @az.eq_1 @e) ?_;(repeat(refine Pn.mk ?_;intro N hN)))|((try apply Or.inl);refine⟨_,ae.x (q1) (sd (tw @az.eq_1 @e)),?_⟩;refine hN _ _ ?_;clear hN N)|((try apply Or.inl);refine⟨_,ae.x (q2) (sd (tw @az.eq_1 @e)),?_⟩;refine hN _ _ ?_;clear hN N)))
 exact aC (b:=true) (.inl rfl) (sd @Nat.zero_add) rfl
end Go.Proofs.YtihgaadadaekmaaGreatDoor.V

namespace Go.Proofs.YtihgaadadaekmaaGreatDoor.V
open Go.RowKit
def isApp:fS->Bool
 | .append .. =>true
 |_=>false
variable {P:Program} {X:fx} {K:Env->ax->Prop} {env:Env} {σ:ax}
theorem LO {draw:Bool} {o:bl} {r:List bl} (_:isApp o.op=false) (h:∀N:AV->ax->Prop,(∀v s,wpOps X draw r K (upd env o.dst v) s->N v s)->if aM o.guard env then fQ X draw o env σ N else N .undef σ):wpOps X draw (o::r) K env σ:=NW h
end Go.Proofs.YtihgaadadaekmaaGreatDoor.V

namespace Go.Proofs.YtihgaadadaekmaaGreatDoor.V
open Go.RowKit
section
variable {α:Type} {enc:α->List AV} {sz:Nat} {g g':Rows} {a:AV} {xs:List α} {ids:List Id}
end
abbrev uZ (α:Type):=Rows->List AV->α->List Id->Prop
structure pR {α:Type} (R:uZ α) (sz:Nat):Prop where
 frame:∀{g g':Rows} {cs x ids},R g cs x ids->(∀i∈ids,g' i=g i)->R g' cs x ids
 len:∀{g cs x ids},R g cs x ids->cs.length=sz
 cell:∀{g cs x ids},R g cs x ids->cs.all AV.cell=true
 live:∀{g cs x ids},R g cs x ids->∀i∈ids,∃r,g i=some r/\r.w=true/\r.sz<nN
 small:sz<nN
inductive dw {α:Type} (R:uZ α) (g:Rows):List (List AV)->List α->List Id->Prop
 |nil:dw R g [] [] []
 |cons {cs x i1 rs xs i2}:R g cs x i1->dw R g rs xs i2->dw R g (cs::rs) (x::xs) (i1++i2)
section
variable {α:Type} {R:uZ α} {sz:Nat} {g g':Rows} {rows r1 r2:List (List AV)} {xs x1 x2:List α} {ids i1 i2:List Id}
theorem dw.len (h:dw R g rows xs ids):rows.length=xs.length:=by
 induction h with
 |nil=>rfl
 |cons _ _ ih=>simp[ih]
theorem dw.frame (ok:pR R sz) (h:dw R g rows xs ids) (hf:∀i∈ids,g' i=g i):dw R g' rows xs ids:=by
 induction h with
 |nil=>exact .nil
 |cons h1 _ ih=>exact .cons (ok.frame h1 fun i hi=>hf i (List.mem_append_left _ hi)) (ih fun i hi=>hf i (List.mem_append_right _ hi))
theorem dw.app (h1:dw R g r1 x1 i1) (h2:dw R g r2 x2 i2):dw R g (r1++r2) (x1++x2) (i1++i2):=by
 induction h1 with
 |nil=>exact h2
 |cons h _ ih=>rw[List.append_assoc];exact .cons h ih
theorem dw.one {cs:List AV} {x:α} (h:R g cs x ids):dw R g [cs] [x] ids:=by
 have:=dw.cons h dw.nil
 rwa [List.append_nil]at this
theorem dw.split (h:dw R g rows xs ids):∀k (hk:k<xs.length),∃r1 cs r2 i1 ic i2,rows=r1++cs::r2/\r1.length=k/\ids=i1++(ic++i2)/\dw R g r1 (xs.take k) i1/\R g cs xs[k] ic/\dw R g r2 (xs.drop (k+1)) i2:=by
 induction h with
 |nil=>intro k hk;simp at hk
 |cons h1 h2 ih=>
  rename_i cs x j1 rs xs j2
  intro k hk
  cases k with
  |zero=>exact⟨[],cs,rs,[],j1,j2,rfl,rfl,rfl,.nil,h1,h2⟩
  |succ k=>
   obtain⟨r1,oh,r2,i1,ic,i2,rfl,hl,rfl,h3,h4,h5⟩:=ih k (by simpa using hk)
   exact⟨cs::r1,oh,r2,j1++i1,ic,i2,rfl,by simp[hl],by rw[List.append_assoc],.cons h1 h3,h4,h5⟩
theorem dw.at_ (h:dw R g rows xs ids) (k:Nat) (hk:k<xs.length):∃cs ic,rows[k]? =some cs/\R g cs xs[k] ic/\∀i∈ic,i∈ids:=by
 obtain⟨r1,cs,r2,i1,ic,i2,rfl,hl,rfl,h3,h4,h5⟩:=h.split k hk
 refine⟨cs,ic,by rw[List.getElem?_append_right ab];simp[hl],h4,fun i hi=>by simp[hi]⟩
theorem dw.put (ok:pR R sz) (h:dw R g rows xs ids) (kQ:ids.Nodup) (k:Nat) (hk:k<xs.length):∃cs ic,rows[k]? =some cs/\R g cs xs[k] ic/\ic.Nodup/\(∀i∈ic,i∈ids)/\∀(g':Rows) x',R g' cs x' ic->(∀i∈ids,i∉ic->g' i=g i)->dw R g' rows (xs.set k x') ids:=by
 obtain⟨r1,cs,r2,i1,ic,i2,rfl,rfl,rfl,h3,h4,h5⟩:=h.split k hk
 obtain⟨_,n2,n3⟩:=List.nodup_append.1 kQ
 obtain⟨nc,_,n4⟩:=List.nodup_append.1 n2
 refine⟨cs,ic,by simp,h4,nc,fun i hi=>by simp[hi],fun g' x' hR hf=>?_⟩
 have e:xs.set r1.length x'=xs.take r1.length++x'::xs.drop (r1.length+1):=by
  rw[List.set_eq_take_append_cons_drop,if_pos hk]
 rw[e]
 refine(h3.frame ok fun i hi=>hf i (by simp[hi]) fun hc=>n3 i hi i (by simp[hc]) rfl).app (.cons hR (h5.frame ok fun i hi=>hf i (by simp[hi]) fun hc=>n4 i hc i hi rfl))
theorem dw.fz {n:Nat} {e:α->List AV} (h:dw R g rows xs ids) (hz:∀{cs x ids},R g cs x ids->cm (dE g) n cs=some (e x)):dz (dE g) n rows=some (xs.map e):=by
 induction h with
 |nil=>rw[dz];rfl
 |cons h1 _ ih=>rw[dz,hz h1,ih];rfl
end
section
variable {α:Type} {R:uZ α} {sz:Nat} {g g':Rows} {a:AV} {xs:List α} {ids:List Id}
end
end Go.Proofs.YtihgaadadaekmaaGreatDoor.V
