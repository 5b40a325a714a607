/- One operation, calls among them. -/
import Derived.Test.YtihgaadadaekmaaGreatDoorDfA
import Derived.Orders
import Derived.Conc.LoneCalls
import Derived.WalkKit
import Derived.WalkSpells
import Derived.WalkLawsBesides
import Derived.Lib.Hide
import Derived.Deep.QuietTactic
import Derived.BigQuiet
import Derived.StillTailTactics
import Derived.Deep.RegionWith
import Derived.Deep.RegionHeld3
import Derived.Deep.LoopGhost
import Derived.Deep.CutRange
import Derived.Deep.DeepCutAuto
import Derived.Test.YtihgaadadaekmaaGreatDoorChecked
set_option linter.unusedVariables false
set_option linter.unusedSimpArgs false
set_option maxRecDepth 100000
set_option maxHeartbeats 16000000
namespace Go.Proofs.YtihgaadadaekmaaGreatDoor.V
open Go.RowKit
variable {P:Program} {w w':World} {D D' D2:Nat->Prop} {ι ι' ι2:Names}
def Sound (P:Program):fv:=fun f args σ K=>∀(hs:Nat) (D:Nat->Prop) (ι:Names) (w:World) (vs:Array Value),fZ P hs D ι σ.get w->Used ι σ.next (fun _=>False)->e8 P w D ι args vs->
 Calls P f vs w fun e w'=>∃r g' n' D' ι' u,e=.returned u/\K r ⟨g',n'⟩/\Step hs D ι w D' ι' w'/\fZ P hs D' ι' g' w'/\Used ι' n' (fun _=>False)/\σ.next<=n'/\cG P w' D' ι' r u
section
variable {g:Rows} {hs:Nat} {env:Env} {a:Act} {o:Oper} {id:Id} {v:AV}
theorem fZ.ro (S:fZ P hs D ι g w):fZ P w.heap.size D ι (ro g) w:=by
 refine⟨Nat.le_refl _,S.dead,fun id r h=>?_,fun id kg r r' B B' h h' hw=>?_⟩
 ·unfold V.ro at h
  simp only[Option.map_eq_some_iff]at h
  obtain⟨r0,h0,rfl⟩:=h
  obtain⟨B,hB,R,_,_⟩:=S.row id r0 h0
  exact⟨B,hB,R.flag false,fun h=>by simp at h,fun h=>by simp at h⟩
 ·unfold V.ro at h
  simp only[Option.map_eq_some_iff]at h
  obtain⟨r0,h0,rfl⟩:=h
  simp at hw
theorem yM {g0:Rows} {f:Nat} {args:List AV} {n:Nat} {K:AV->Prop} {vs:Array Value} (h:PC (Sound P) f args ⟨g0,n⟩ K) (pq:∀id r,g0 id=some r->g id=some r) (S:fZ P hs D ι g w) (U:Used ι n (fun _=>False)) (A:e8 P w D ι args vs):
  Calls P f vs w fun e w'=>∃r D' u,e=.returned u/\K r/\Step hs D ι w D' ι w'/\fZ P hs D' ι g w'/\cG P w' D' ι r u:=by
 refine(h w.heap.size D ι w vs (S.sub pq).ro U A).mono ?_
 rintro e w' ⟨r0,g',n',D1,ι1,u,rfl,⟨r,hr,hK⟩,T,S1,_,_,hR⟩
 have hb:∀b,b<w.heap.size->w'.heap[b]? =w.heap[b]? :=T.below.block
 have hz:=T.below.size
 have q:=qb (D2:=fun b=>D b∨(w.heap.size<=b/\b<w'.heap.size)) (ι2:=ι) (fun b hd=>by
  rcases T.new b hd with h|h
  ·exact .inl h
  ·exact .inr ⟨h,S1.dead b hd⟩) (fun id row hg hw=>by
  obtain⟨B,hB,R,h1,_⟩:=S1.row id row hg
  exact⟨B,hB,R,.inr ⟨h1 hw,R.lt⟩⟩) 6 r0 u r hR hr
 refine⟨r,_,u,rfl,hK,?_,?_,q.1⟩
 ·exact Step.stay S hb hz T.below.os T.below.tape T.below.output (fun _ h=>.inl h) (fun b h=>by rcases h with h|h;exact .inl h;exact .inr h.1) (fun _ _ h=>h)
 ·exact S.stay hb hz (fun _ h=>.inl h) (fun b h=>by rcases h with h|h;exact Nat.lt_of_lt_of_le (S.dead b h) hz;exact h.2) (fun b h=>by rcases h with h|h;exact .inl h;exact .inr h.1) (fun _ _ h=>h)
theorem vH {g0:Rows} {f:Nat} {args:List AV} {n:Nat} {K:AV->Prop} {vs:Array Value} (h:PCv (Sound P) f args ⟨g0,n⟩ K) (pq:∀id r,g0 id=some r->g id=some r) (S:fZ P hs D ι g w) (U:Used ι n (fun _=>False)) (A:e8 P w D ι args vs):
  Calls P f vs w fun e w'=>∃r D' u,e=.returned u/\K r/\Step hs D ι w D' ι w'/\fZ P hs D' ι g w'/\cG P w' D' ι r u:=by
 obtain⟨eS,ha,h⟩:=h
 let D1:Nat->Prop:=fun b=>D b∨∃id r B,g id=some r/\ι id=some B/\b=B.b
 have lt:∀id r B,g id=some r->ι id=some B->B.b<w.heap.size:=fun id r B h1 h2=>by
  obtain⟨B',dx,R,_⟩:=S.row id r h1
  rw[h2]at dx;injection dx with dx;subst dx
  exact R.lt
 have S0:fZ P w.heap.size D1 ι (fun _=>none) w:=⟨Nat.le_refl _,fun b hb=>by
  rcases hb with hb|⟨id,r,B,h1,h2,rfl⟩
  ·exact S.dead b hb
  ·exact lt id r B h1 h2,fun id r h=>(by cases h),fun id kg r r' B B' h=>(by cases h)⟩
 obtain⟨l1,l2⟩:=fV ha
 have A':e8 P w D1 ι eS vs:=⟨by rw[A.1,l1],fun j a hj=>by
  obtain⟨a0,kH,hf⟩:=l2 j a hj
  obtain⟨u,hu,hr⟩:=A.2 j a0 kH
  refine⟨u,hu,(qb (D2:=D1) (ι2:=ι) (fun b h=>.inl h) (fun id row hg hw=>?_) 6 a0 u a hr hf).1⟩
  unfold dE at hg
  simp only[Option.map_eq_some_iff]at hg
  obtain⟨r,m3,rfl⟩:=hg
  obtain⟨B,hB,R,_,_⟩:=S.row id r (pq id r m3)
  exact⟨B,hB,R.flag true,.inr ⟨id,r,B,pq id r m3,hB,rfl⟩⟩⟩
 refine(h w.heap.size D1 ι w vs S0 U A').mono ?_
 rintro e w' ⟨r0,g',n',D2,ι1,u,rfl,⟨r,hr,hK⟩,T,S1,_,_,hR⟩
 have hb:∀b,b<w.heap.size->w'.heap[b]? =w.heap[b]? :=T.below.block
 have hz:=T.below.size
 have q:=Ez (D2:=fun b=>D b∨(w.heap.size<=b/\b<w'.heap.size)) (ι2:=ι) (fun id row hg hw=>by
  obtain⟨B,hB,R,h1,_⟩:=S1.row id row hg
  exact⟨B,hB,R,.inr ⟨h1 hw,R.lt⟩⟩) 6 r0 u r hR hr
 refine⟨r,_,u,rfl,hK,?_,?_,q.1⟩
 ·exact Step.stay S hb hz T.below.os T.below.tape T.below.output (fun _ h=>.inl h) (fun b h=>by rcases h with h|h;exact .inl h;exact .inr h.1) (fun _ _ h=>h)
 ·exact S.stay hb hz (fun _ h=>.inl h) (fun b h=>by rcases h with h|h;exact Nat.lt_of_lt_of_le (S.dead b h) hz;exact h.2) (fun b h=>by rcases h with h|h;exact .inl h;exact .inr h.1) (fun _ _ h=>h)
theorem D5 {g0:Rows} {f:Nat} {args:List AV} {n:Nat} {K:AV->Prop} {vs:Array Value} (h:gR (Sound P) f args ⟨g0,n⟩ K) (pq:∀id r,g0 id=some r->g id=some r) (S:fZ P hs D ι g w) (U:Used ι n (fun _=>False)) (A:e8 P w D ι args vs):
  Calls P f vs w fun e w'=>∃r D' u,e=.returned u/\K r/\Step hs D ι w D' ι w'/\fZ P hs D' ι g w'/\cG P w' D' ι r u:=by
 rcases h with h|h
 ·exact yM h pq S U A
 ·exact vH h pq S U A
theorem Fs {D1 D2:Nat->Prop} {ι1 ι2:Names} {w1:World} {a:AV} {v:Value} (hp:a.plain=true) (h:cG P w D1 ι1 a v):cG P w1 D2 ι2 a v:=by
 cases h with
 |eJ a v h=>cases h<;>first|(simp[AV.plain]at hp;done)|exact .eJ _ _ (by constructor)
 |_=>simp[AV.plain]at hp
theorem fZ.add {r:Row} {B:rR} (S:fZ P hs D ι g w) (S':fZ P hs D ι g w') (hf:ι id=none) (jS:w.heap.size<=B.b) (R:ij P w' D (kE ι id B) B r):fZ P hs D (kE ι id B) (bY g id r) w':=by
 have lt:∀kg r' B',g kg=some r'->ι kg=some B'->B'.b<w.heap.size:=fun kg r' B' h1 h2=>by
  obtain⟨B2,oE,R2,_⟩:=S.row kg r' h1
  rw[h2]at oE;injection oE with oE;subst oE
  exact R2.lt
 have ne:∀kg r',g kg=some r'->kg≠id:=fun kg r' h he=>by
  subst he
  obtain⟨B2,oE,_⟩:=S.row _ r' h
  rw[hf]at oE;cases oE
 refine⟨S'.lo,S'.dead,fun kg r' h=>?_,fun Qe id2 r1 r2 B1 B2 h1 h2 hw yF oE hb=>?_⟩
 ·unfold bY at h
  split at h
  ·rename_i he
   subst he
   injection h with h;subst h
   exact⟨B,dZ _ _ _,R,fun _=>Nat.le_trans S.lo jS,fun _ hd=>Nat.lt_irrefl _ (Nat.lt_of_lt_of_le (S.dead _ hd) jS)⟩
  ·obtain⟨B',dx,R',k1,k2⟩:=S'.row kg r' h
   exact⟨B',by rw[fK (ne _ _ h)];exact dx,R'.frame rfl (fun a v hr=>hr.frame (fun _ _=>rfl) (fun _ h=>h) (fM hf)),k1,k2⟩
 ·unfold bY at h1 h2
  split at h1
  ·rename_i e1
   split at h2
   ·rename_i e2;rw[e1,e2]
   ·exfalso
    subst e1
    rw[dZ]at yF;injection yF with yF;subst yF
    rw[fK (ne _ _ h2)]at oE
    have:=lt _ _ _ h2 oE
    omega
  ·rw[fK (ne _ _ h1)]at yF
   split at h2
   ·rename_i e2
    exfalso
    subst e2
    rw[dZ]at oE;injection oE with oE;subst oE
    have:=lt _ _ _ h1 yF
    omega
   ·rw[fK (ne _ _ h2)]at oE
    exact S'.inj Qe id2 r1 r2 B1 B2 h1 h2 hw yF oE hb
theorem F9 {g0:Rows} {f:Nat} {args:List AV} {n sz:Nat} {rows:List (List AV)} {vs:Array Value} (h:CM (Sound P) f args ⟨g0,n⟩ sz rows) (pq:∀id r,g0 id=some r->g id=some r) (S:fZ P hs D ι g w) (U:Used ι n (fun _=>False)) (A:e8 P w D ι args vs) (hf:ι id=none):
  Calls P f vs w fun e w'=>∃u B,e=.returned u/\Step hs D ι w D (kE ι id B) w'/\fZ P hs D (kE ι id B) (bY g id ⟨true,sz,rows⟩) w'/\cG P w' D (kE ι id B) (.own id 0 rows.length) u:=by
 obtain⟨mV,eS,ha,h⟩:=h
 let D1:Nat->Prop:=fun b=>D b∨∃id r B,g id=some r/\ι id=some B/\b=B.b
 have lt:∀id r B,g id=some r->ι id=some B->B.b<w.heap.size:=fun id r B h1 h2=>by
  obtain⟨B',dx,R,_⟩:=S.row id r h1
  rw[h2]at dx;injection dx with dx;subst dx
  exact R.lt
 have S0:fZ P w.heap.size D1 ι (fun _=>none) w:=⟨Nat.le_refl _,fun b hb=>by
  rcases hb with hb|⟨id,r,B,h1,h2,rfl⟩
  ·exact S.dead b hb
  ·exact lt id r B h1 h2,fun id r h=>(by cases h),fun id kg r r' B B' h=>(by cases h)⟩
 obtain⟨l1,l2⟩:=fV ha
 have A':e8 P w D1 ι eS vs:=⟨by rw[A.1,l1],fun j a hj=>by
  obtain⟨a0,kH,hz⟩:=l2 j a hj
  obtain⟨u,hu,hr⟩:=A.2 j a0 kH
  refine⟨u,hu,(qb (D2:=D1) (ι2:=ι) (fun b h=>.inl h) (fun id row hg hw=>?_) 6 a0 u a hr hz).1⟩
  unfold dE at hg
  simp only[Option.map_eq_some_iff]at hg
  obtain⟨r,m3,rfl⟩:=hg
  obtain⟨B,hB,R,_,_⟩:=S.row id r (pq id r m3)
  exact⟨B,hB,R.flag true,.inr ⟨id,r,B,pq id r m3,hB,rfl⟩⟩⟩
 refine(h w.heap.size D1 ι w vs S0 U A').mono ?_
 rintro e w' ⟨r0,g',n',D2,ι1,u,rfl,⟨i0,hr,hg⟩,T,S1,_,_,hR⟩
 subst hr
 have hb:∀b,b<w.heap.size->w'.heap[b]? =w.heap[b]? :=T.below.block
 have hz:=T.below.size
 obtain⟨B,hB,R,k1,_⟩:=S1.row i0 _ hg
 have jS:w.heap.size<=B.b:=k1 rfl
 obtain⟨o,cap,B',rfl,dx,q2,q3,q4,q5,hk⟩:=ja hR
 rw[hB]at dx;injection dx with dx;subst dx
 replace R:=R.row hk
 have S':fZ P hs D ι g w':=S.stay hb hz (fun _ h=>h) (fun b h=>Nat.lt_of_lt_of_le (S.dead b h) hz) (fun b h=>.inl h) (fun _ _ h=>h)
 have R':kU P w' D (kE ι id B) B ⟨true,sz,rows⟩:=⟨R.sz,R.D9,R.fits,R.len,R.flat,fun i j cs a hi hj=>by
  obtain⟨v,h1,h2⟩:=R.at_ i j cs a hi hj
  exact⟨v,h1,Fs (mV cs (List.mem_of_getElem? hi) a (List.mem_of_getElem? hj)) h2⟩⟩
 exact⟨_,B,rfl,Step.stay S hb hz T.below.os T.below.tape T.below.output (fun _ h=>h) (fun _ h=>.inl h) (fM hf),S.add S' hf jS (R'.obj hk),.own id 0 _ _ _ B (dZ _ _ _) hk q2 q3 q4 q5⟩
theorem jd {f:Nat} {args:Array Value} (hc:fw P f=true):(callFunc f args).run P w=.ok (.enter f args) w:=by
 unfold fw at hc
 split at hc
 ·rename_i fn hf
  simp only[Bool.and_eq_true,Bool.not_eq_true']at hc
  have hb:fn.body.isNone=false:=by cases hq:fn.body<;>simp_all
  simp only[callFunc,Sem.run_bind,run_program,Result.andThen_ok,hf,hc.2,Bool.false_eq_true,if_false,hb]
  rfl
 ·simp at hc
theorem zW {f:Nat} {args:List O} (hc:pH P o.op=some (.call f args)):∃c,o.op=.call c/\c.callee=.value (.func f)/\fw P f=true/\c.args.toList.mapM (cO P)=some args:=by
 unfold pH at hc
 split at hc
 case h_23=>
  rename_i c ho
  refine⟨c,ho,?_⟩
  unfold mK at hc
  split at hc
  all_goals (try(repeat' (split at hc))<;>(simp only[Option.bind_eq_bind,Option.bind_eq_some_iff,Option.pure_def,Option.some.injEq,Option.map_eq_some_iff,reduceCtorEq,and_false,exists_false]at hc))
  all_goals simp_all
 all_goals (try unfold tn at hc)<;>(try unfold qY at hc)<;>(repeat' (split at hc))<;>(simp only[Option.bind_eq_bind,Option.bind_eq_some_iff,Option.pure_def,Option.some.injEq,Option.map_eq_some_iff,reduceCtorEq,and_false,exists_false]at hc)
theorem rD {x:O} {args:List O} (hc:pH P o.op=some (.rW x args)):∃c t,o.op=.call c/\c.callee=.value (.tmp t)/\x=.t t/\c.args.toList.mapM (cO P)=some args:=by
 unfold pH at hc
 split at hc
 case h_23=>
  rename_i c ho
  refine⟨c,?_⟩
  unfold mK at hc
  split at hc
  all_goals (try(repeat' (split at hc))<;>(simp only[Option.bind_eq_bind,Option.bind_eq_some_iff,Option.pure_def,Option.some.injEq,Option.map_eq_some_iff,reduceCtorEq,and_false,exists_false]at hc))
  all_goals simp_all
 all_goals (try unfold tn at hc)<;>(try unfold qY at hc)<;>(repeat' (split at hc))<;>(simp only[Option.bind_eq_bind,Option.bind_eq_some_iff,Option.pure_def,Option.some.injEq,Option.map_eq_some_iff,reduceCtorEq,and_false,exists_false]at hc)
theorem ER {n:Nat} {x y:O} (hc:pH P o.op=some (.store n x y)):∃t x' y',o.op=.store t x' y'/\dL P t=some n/\cO P x'=some x/\cO P y'=some y:=by
 unfold pH at hc
 split at hc
 case h_7=>
  rename_i t x' y' ho
  refine⟨t,x',y',ho,?_⟩
  simp only[Option.bind_eq_bind,Option.bind_eq_some_iff,Option.pure_def,Option.some.injEq]at hc
  obtain⟨n',h1,x2,h2,y2,h3,he⟩:=hc
  injection he with e1 e2 e3
  subst e1;subst e2;subst e3
  exact⟨h1,h2,h3⟩
 all_goals (try unfold tn at hc)<;>(try unfold qY at hc)<;>(try unfold mK at hc)<;>(repeat' (split at hc))<;>(simp only[Option.bind_eq_bind,Option.bind_eq_some_iff,Option.pure_def,Option.some.injEq,Option.map_eq_some_iff,reduceCtorEq,and_false,exists_false]at hc)
theorem BU {n:Nat} {x y:O} (hc:pH P o.op=some (.append n x y)):∃(t e:TypeId) (m:Nat) (z:List K) (i:TypeInfo) (x' y':Operand),n=m+1/\o.op=.call {callee:=.builtin .append,args:= #[x',y'],argTypes:= #[t,t]}/\
  P.underlying t=some (.slice e)/\dL P e=some (m+1)/\jl P e=some z/\P.info? e=some i/\i.bytes<=32768/\cO P x'=some x/\cO P y'=some y:=by
 unfold pH at hc
 split at hc
 case h_23=>
  rename_i c ho
  unfold mK at hc
  split at hc
  case h_2=>
   rename_i jX
   split at hc
   ·rename_i x' y' t u h1 h2
    split at hc
    ·rename_i e ht
     split at hc
     ·rename_i m z i e1 e2 e3
      split at hc
      ·rename_i hb
       simp only[Option.bind_eq_bind,Option.bind_eq_some_iff,Option.pure_def,Option.some.injEq]at hc
       obtain⟨x2,h3,y2,h4,he⟩:=hc
       injection he with k1 k2 k3
       subst k1;subst k2;subst k3
       obtain⟨FX,rfl⟩:=hb
       refine⟨t,e,m,z,i,x',y',rfl,?_,ht,e1,e2,e3,FX,h3,h4⟩
       rw[ho]
       obtain⟨ca,cb,cc⟩:=c
       simp only at h1 h2 jX
       subst jX
       congr
       ·exact Array.ext' h1
       ·exact Array.ext' h2
      ·simp at hc
     ·simp at hc
    ·simp at hc
   ·simp at hc
  all_goals (repeat' (split at hc))<;>(simp only[Option.bind_eq_bind,Option.bind_eq_some_iff,Option.pure_def,Option.some.injEq,Option.map_eq_some_iff,reduceCtorEq,and_false,exists_false]at hc)
 all_goals (try unfold tn at hc)<;>(try unfold qY at hc)<;>(repeat' (split at hc))<;>(simp only[Option.bind_eq_bind,Option.bind_eq_some_iff,Option.pure_def,Option.some.injEq,Option.map_eq_some_iff,reduceCtorEq,and_false,exists_false]at hc)
theorem Hx {n:Nat} {x y:O} (hc:pH P o.op=some (.copy n x y)):∃(t t2 e:TypeId) (m:Nat) (x' y':Operand),n=m+1/\o.op=.call {callee:=.builtin .copy,args:= #[x',y'],argTypes:= #[t,t2]}/\
  P.underlying t=some (.slice e)/\dL P e=some (m+1)/\cO P x'=some x/\cO P y'=some y:=by
 unfold pH at hc
 split at hc
 case h_23=>
  rename_i c ho
  unfold mK at hc
  split at hc
  case h_7=>
   rename_i jX
   split at hc
   ·rename_i x' y' t t2 h1 h2
    split at hc
    ·rename_i e ht
     split at hc
     ·rename_i m e1
      simp only[Option.bind_eq_bind,Option.bind_eq_some_iff,Option.pure_def,Option.some.injEq,fR.copy.injEq]at hc
      obtain⟨x2,h3,y2,h4,k0,k1,k2⟩:=hc
      subst k1;subst k2
      refine⟨t,t2,e,m,x',y',k0.symm,?_,ht,e1,h3,h4⟩
      rw[ho]
      obtain⟨ca,cb,cc⟩:=c
      simp only at h1 h2 jX
      subst jX
      congr
      ·exact Array.ext' h1
      ·exact Array.ext' h2
     ·simp at hc
    ·simp at hc
   ·simp at hc
  all_goals (repeat' (split at hc))<;>(simp only[Option.bind_eq_bind,Option.bind_eq_some_iff,Option.pure_def,Option.some.injEq,Option.map_eq_some_iff,reduceCtorEq,and_false,exists_false]at hc)
 all_goals (try unfold tn at hc)<;>(try unfold qY at hc)<;>(repeat' (split at hc))<;>(simp only[Option.bind_eq_bind,Option.bind_eq_some_iff,Option.pure_def,Option.some.injEq,Option.map_eq_some_iff,reduceCtorEq,and_false,exists_false]at hc)
theorem EP {z:List K} {x:O} (hc:pH P o.op=some (.clear z x)):∃(t e:TypeId) (m:Nat) (x':Operand),o.op=.call {callee:=.builtin .clear,args:= #[x'],argTypes:= #[t]}/\
  P.underlying t=some (.slice e)/\dL P e=some (m+1)/\jl P e=some z/\cO P x'=some x:=by
 unfold pH at hc
 split at hc
 case h_23=>
  rename_i c ho
  unfold mK at hc
  split at hc
  case h_3=>
   rename_i jX
   split at hc
   ·rename_i x' t h1 h2
    split at hc
    ·rename_i e ht
     split at hc
     ·rename_i m z' e1 e2
      simp only[Option.map_eq_some_iff]at hc
      obtain⟨x2,h3,he⟩:=hc
      injection he with k1 k2
      subst k1;subst k2
      refine⟨t,e,m,x',?_,ht,e1,e2,h3⟩
      rw[ho]
      obtain⟨ca,cb,cc⟩:=c
      simp only at h1 h2 jX
      subst jX
      congr
      ·exact Array.ext' h1
      ·exact Array.ext' h2
     ·simp at hc
    ·simp at hc
   ·simp at hc
  all_goals (repeat' (split at hc))<;>(simp only[Option.bind_eq_bind,Option.bind_eq_some_iff,Option.pure_def,Option.some.injEq,Option.map_eq_some_iff,reduceCtorEq,and_false,exists_false]at hc)
 all_goals (try unfold tn at hc)<;>(try unfold qY at hc)<;>(repeat' (split at hc))<;>(simp only[Option.bind_eq_bind,Option.bind_eq_some_iff,Option.pure_def,Option.some.injEq,Option.map_eq_some_iff,reduceCtorEq,and_false,exists_false]at hc)
theorem M6 {q:MW} {xs:List O} (hc:pH P o.op=some (.mw q xs)):
  (∃t x k y m z x' k' y',(o.op=.mapUpdate t x k y∨o.op=.insert t x k y)/\qZ P t=some (m,z)/\cO P x=some x'/\cO P k=some k'/\cO P y=some y'/\q=.set m/\xs=[x',k',y'])∨
  (∃t t' x k m z x' k',o.op=.call {callee:=.builtin .delete,args:= #[x,k],argTypes:= #[t,t']}/\qZ P t=some (m,z)/\cO P x=some x'/\cO P k=some k'/\q=.del m/\xs=[x',k']):=by
 unfold pH at hc
 split at hc
 case h_23=>
  rename_i c ho
  right
  unfold mK at hc
  split at hc
  case h_6=>
   rename_i jX
   split at hc
   ·rename_i x k t t' h1 h2
    split at hc
    ·rename_i m z x' k' e1 e2 e3
     injection hc with hc
     injection hc with q1 q2
     refine⟨t,t',x,k,m,z,x',k',?_,e1,e2,e3,q1.symm,q2.symm⟩
     rw[ho]
     obtain⟨ca,cb,cc⟩:=c
     simp only at h1 h2 jX
     subst jX
     congr
     ·exact Array.ext' h1
     ·exact Array.ext' h2
    ·cases hc
   ·cases hc
  all_goals (repeat' (split at hc))<;>(simp only[Option.bind_eq_bind,Option.bind_eq_some_iff,Option.pure_def,Option.some.injEq,Option.map_eq_some_iff,reduceCtorEq,and_false,exists_false]at hc)
 case h_29=>
  rename_i t x k y ho
  left
  split at hc
  ·rename_i m z x' k' y' e1 e2 e3 e4
   injection hc with hc
   injection hc with q1 q2
   exact⟨t,x,k,y,m,z,x',k',y',.inl ho,e1,e2,e3,e4,q1.symm,q2.symm⟩
  ·cases hc
 case h_30=>
  rename_i t x k y ho
  left
  split at hc
  ·rename_i m z x' k' y' e1 e2 e3 e4
   injection hc with hc
   injection hc with q1 q2
   exact⟨t,x,k,y,m,z,x',k',y',.inr ho,e1,e2,e3,e4,q1.symm,q2.symm⟩
  ·cases hc
 all_goals (try unfold tn at hc)<;>(try unfold qY at hc)<;>(repeat' (split at hc))<;>(simp only[Option.bind_eq_bind,Option.bind_eq_some_iff,Option.pure_def,Option.some.injEq,Option.map_eq_some_iff,reduceCtorEq,and_false,exists_false]at hc)
def iO (g:Rows) (id:Id):Option Row->Rows
 |some r=>bY g id r
 |none=>g
def tq (X:fv) (hid:List Nat) (site n:Nat) (f:Nat) (args:List AV) (g:Rows) (v:AV) (g':Rows):Prop:=
 (gR X f args ⟨ga hid n g,n+1⟩ (fun r=>r=v)/\g'=g)∨
 (hid.contains site=true/\∃sz rows,CM X f args ⟨ga hid n g,n+1⟩ sz rows/\v=.own ⟨site,n⟩ 0 rows.length/\g'=bY g ⟨site,n⟩ ⟨true,sz,rows⟩)
def VS (X:fv) (n:Nat) (vo:bl) (env:Env) (g:Rows) (v:AV) (g':Rows):Prop:=
 match vo.op with
 | .call f args=>tq X vo.hid vo.site n f (args.map (cE env)) g v g'
 | .rW x args=>∃f l,tp (cE env x) (args.map (cE env))=some (f,l)/\tq X vo.hid vo.site n f l g v g'
 | .store .. | .append .. | .copy .. | .clear .. | .mw .. =>gh vo.op (cE env) g ⟨vo.site,n⟩=some (v,g')
 |_=>∃mr,eL vo.op (cE env) (ga vo.hid n g) ⟨vo.site,n⟩=some (v,mr)/\g'=iO g ⟨vo.site,n⟩ mr
def K0 (P:Program) (hs:Nat) (D:Nat->Prop) (ι:Names) (w:World) (U:Nat->Prop) (site n:Nat) (a:Act) (dst:Option Tmp) (v:AV) (g':Rows) (a':Act) (w':World):Prop:=
 ∃u D' ι',a'=a.put dst u/\Step hs D ι w D' ι' w'/\fZ P hs D' ι' g' w'/\cG P w' D' ι' v u/\Used ι' n (fun s=>U s∨s=site)
theorem fresh {n:Nat} {U:Nat->Prop} {s:Nat} (h:Used ι n U) (hU:¬U s):ι ⟨s,n⟩=none:=by
 cases hq:ι ⟨s,n⟩with
 |none=>rfl
 |some B=>
  rcases h ⟨s,n⟩ (by rw[hq];simp)with h|⟨_,h⟩
  ·exact absurd h (Nat.lt_irrefl _)
  ·exact absurd h hU
theorem Used.more {n:Nat} {U U':Nat->Prop} (h:Used ι n U) (hU:∀s,U s->U' s):Used ι n U':=fun id hid=>by
 rcases h id hid with h|⟨h1,h2⟩
 ·exact .inl h
 ·exact .inr ⟨h1,hU _ h2⟩
theorem Used.next {n:Nat} {U:Nat->Prop} (h:Used ι n U):Used ι (n+1) (fun _=>False):=fun id hid=>by
 rcases h id hid with h|⟨h1,_⟩
 ·exact .inl (Nat.lt_succ_of_lt h)
 ·exact .inl ab
theorem Used.upd {n:Nat} {U:Nat->Prop} {s:Nat} {B:rR} (h:Used ι n U):Used (kE ι ⟨s,n⟩ B) n (fun x=>U x∨x=s):=fun id hid=>by
 by_cases he:id=⟨s,n⟩
 ·subst he;exact .inr ⟨rfl,.inr rfl⟩
 ·rw[fK he]at hid
  exact(h.more (U':=fun x=>U x∨x=s) fun _ h=>Or.inl h) id hid
theorem nr {xs:Array Operand} {ys:List O} (E:bI P w D ι env a) (h:xs.toList.mapM (cO P)=some ys):e8 P w D ι (ys.map (cE env)) (xs.map a.eval):=by
 obtain⟨h1,h2⟩:=Cj E h
 refine⟨by simpa using h1,fun j b hj=>?_⟩
 simp only[List.getElem?_map,Option.map_eq_some_iff]at hj
 obtain⟨y,hy,rfl⟩:=hj
 have dD:j<xs.size:=by have:=(List.getElem?_eq_some_iff.1 hy).1;simp at h1;omega
 refine⟨a.eval xs[j],by simp[dD],?_⟩
 have:=h2 j y hy
 simpa[List.getD_eq_getElem?_getD,dD]using this
theorem nR {xs ys:List AV} {vs us:Array Value} (h:e8 P w D ι xs vs) (k:e8 P w D ι ys us):e8 P w D ι (xs++ys) (vs++us):=
 ⟨by simp[h.1,k.1],fun j b hj=>by
  by_cases dD:j<xs.length
  ·rw[List.getElem?_append_left dD]at hj
   obtain⟨u,hu,vn⟩:=h.2 j b hj
   exact⟨u,by rw[Array.getElem?_append_left (by rw[h.1];exact dD)];exact hu,vn⟩
  ·rw[List.getElem?_append_right ab]at hj
   obtain⟨u,hu,vn⟩:=k.2 _ b hj
   exact⟨u,by rw[Array.getElem?_append_right (by rw[h.1];omega),h.1];exact hu,vn⟩⟩
theorem uv:e8 P w D ι [] #[]:=⟨rfl,fun j b hj=>by simp at hj⟩
theorem tr {x:AV} {l l':List AV} {f:Nat} {vs:Array Value} {v:Value} (h:tp x l=some (f,l')) (hr:cG P w D ι x v) (hA:e8 P w D ι l vs):
  ∃first cD,v=.func (.func f) first cD/\fw P f=true/\e8 P w D ι l' (first++vs++cD):=by
 unfold tp at h
 split at h
 ·simp only[Option.some.injEq,Prod.mk.injEq]at h
  obtain⟨rfl,rfl⟩:=h
  obtain⟨us,q,he,De,n1,q1,q2⟩:=Cl hr
  refine⟨#[],us,he,De,?_⟩
  rw[Array.empty_append]
  exact nR hA ⟨n1,fun j b hj=>⟨q j,q1 j (List.getElem?_eq_some_iff.1 hj).1,q2 j b hj⟩⟩
 ·simp only[Option.some.injEq,Prod.mk.injEq]at h
  obtain⟨rfl,rfl⟩:=h
  obtain⟨us,q,he,De,n1,q1,q2⟩:=KJ hr
  refine⟨us, #[],he,De,?_⟩
  rw[Array.append_empty]
  exact nR ⟨n1,fun j b hj=>⟨q j,q1 j (List.getElem?_eq_some_iff.1 hj).1,q2 j b hj⟩⟩ hA
 ·cases h
theorem yR {n:Nat} {vo:bl} {g':Rows} {U:Nat->Prop} {Q:Exit->Act->World->Prop} {K:Act->World->Prop} (hc:pH P o.op=some vo.op) (hv:VS (Sound P) n vo env g v g') (S:fZ P hs D ι g w) (Us:Used ι n U) (hU:¬U vo.site) (E:bI P w D ι env a)
  (hK:∀a' w',K0 P hs D ι w U vo.site n a o.dst v g' a' w'->K a' w'):o.wp P a w K Q:=by
 have hf:=fresh Us hU
 have y4:∀(f:Nat) (args:List AV) (vs:Array Value),tq (Sound P) vo.hid vo.site n f args g v g'->e8 P w D ι args vs->(execOp a.eval o).run P w=.ok (.enter f vs) w->o.wp P a w K Q:=by
  intro f args vs hP hA gT
  unfold Oper.wp
  rw[gT]
  rcases hP with⟨hP,rfl⟩|⟨_,sz,rows,hM,rfl,rfl⟩
  ·refine(D5 hP yq S Us.next hA).mono ?_
   rintro e w' ⟨r,D',u,rfl,rfl,T,S',hR⟩
   exact hK _ _ ⟨u,D',ι,rfl,T,S',hR,Us.more fun _ h=>.inl h⟩
  ·refine(F9 hM yq S Us.next hA hf).mono ?_
   rintro e w' ⟨u,B,rfl,T,S',hR⟩
   exact hK _ _ ⟨u,D,_,rfl,T,S',hR,Us.upd⟩
 have quiet:∀(mr:Option Row),eL vo.op (cE env) (ga vo.hid n g) ⟨vo.site,n⟩=some (v,mr)->g'=iO g ⟨vo.site,n⟩ mr->o.wp P a w K Q:=by
  intro mr hq hg
  have hqs:=wM hc hq (S.sub yq) E
  unfold Oper.wp
  cases mr with
  |none=>
   obtain⟨u,gT,hR⟩:=hqs
   rw[gT]
   subst hg
   exact hK _ _ ⟨u,D,ι,rfl,Step.refl _ _ _ _,S,hR,Us.more fun _ h=>.inl h⟩
  |some r=>
   rcases hqs with⟨u,cells,T,gT,h1,h2,h3,h4,h5,h6⟩|⟨m,gT,M0,AK⟩|⟨c,gT,M0,AK⟩
   case inr.inr=>
    rw[gT]
    subst hg M0 AK
    have fe:w.heap.size<(w.alloc (.chan c #[] false 0 0 false)).heap.size:=by simp
    have S':=S.stay (w':=w.alloc (.chan c #[] false 0 0 false)) (D':=D) (ι':=ι) (fun k hk=>Below.heap_alloc _ _ _ hk) (by simp) (fun _ h=>h) (fun b hd=>Nat.lt_trans (S.dead b hd) fe) (fun _ h=>.inl h) (fun _ _ h=>h)
    have S1:=S.add S' (id:=⟨vo.site,n⟩) (B:=⟨w.heap.size,pZ+c,0,some (.chan c)⟩) (r:=⟨true,pZ+c,[]⟩) hf (Nat.le_refl _) ⟨rfl,fun cs h=>by simp at h,fun h=>by simp at h,fun m' h=>(by simp at h),fun c' h=>by
     simp only[Option.some.injEq,BK.chan.injEq]at h;subst h
     exact⟨rfl, #[],0,0,(show(w.heap.push (Obj.chan c #[] false 0 0 false))[w.heap.size]? =some (Obj.chan c #[] false 0 0 false) by simp),rfl,fun i cs h=>by simp at h⟩⟩
    exact hK _ _ ⟨_,D,_,rfl,Step.stay S (fun k hk=>Below.heap_alloc _ _ _ hk) (by simp) rfl rfl rfl (fun _ h=>h) (fun _ h=>.inl h) (fM hf),S1,.rf _ _ _ (dZ _ _ _) rfl,Us.upd⟩
   case inr.inl=>
    rw[gT]
    subst hg M0 AK
    have fe:w.heap.size<(w.alloc (.map #[] 0)).heap.size:=by simp
    have S':=S.stay (w':=w.alloc (.map #[] 0)) (D':=D) (ι':=ι) (fun k hk=>Below.heap_alloc _ _ _ hk) (by simp) (fun _ h=>h) (fun b hd=>Nat.lt_trans (S.dead b hd) fe) (fun _ h=>.inl h) (fun _ _ h=>h)
    have S1:=S.add S' (id:=⟨vo.site,n⟩) (B:=⟨w.heap.size,m.Cp,0,some (.map m)⟩) (r:=⟨true,m.Cp,[]⟩) hf (Nat.le_refl _) ⟨rfl,fun cs h=>by simp at h,fun h=>by simp at h,fun m' h=>by
     simp only[Option.some.injEq,BK.map.injEq]at h;subst h
     exact⟨rfl, #[],0,(show(w.heap.push (Obj.map #[] 0))[w.heap.size]? =some (Obj.map #[] 0) by simp),rfl,⟨fun cs h=>by simp at h,fun x h=>by simp at h,by simp⟩,fun i cs h=>by simp at h⟩,fun c h=>by simp at h⟩
    exact hK _ _ ⟨_,D,_,rfl,Step.stay S (fun k hk=>Below.heap_alloc _ _ _ hk) (by simp) rfl rfl rfl (fun _ h=>h) (fun _ h=>.inl h) (fM hf),S1,.map _ _ _ (dZ _ _ _) rfl,Us.upd⟩
   rw[gT]
   subst hg
   have S1:=S.alloc (id:=⟨vo.site,n⟩) (w':=w.alloc (.cells cells T)) rfl hf h1 h2 h3 h4 h5
   refine hK _ _ ⟨u,D,_,rfl,Step.stay S (fun k hk=>Below.heap_alloc _ _ _ hk) (by simp) rfl rfl rfl (fun _ h=>h) (fun _ h=>.inl h) (fM hf),S1,(h6 (kE ι _ _) (dZ _ _ _)).frame (fun b hd=>Below.heap_alloc _ _ _ (S.dead b hd)) (fun _ h=>h) (fun _ _ h=>h),Us.upd⟩
 have Oa:gh vo.op (cE env) g ⟨vo.site,n⟩=some (v,g')->(∀Jd,AO P hs a o Jd D ι ⟨vo.site,n⟩ v g'->Jd=w->o.wp P a w K Q):=by
  intro _ Jd hE he
  subst he
  obtain⟨u,w',ι',gT,T,S',hR,hι⟩:=hE
  have G3:K0 P hs D ι Jd U vo.site n a o.dst v g' (a.put o.dst u) w':=⟨u,D,ι',rfl,T,S',hR,fun id hid=>by
   by_cases he:id=⟨vo.site,n⟩
   ·subst he;exact .inr ⟨rfl,.inr rfl⟩
   ·rw[hι id he]at hid
    exact(Us.more (U':=fun x=>U x∨x=vo.site) fun _ h=>Or.inl h) id hid⟩
  unfold Oper.wp
  rcases gT with gT|⟨gT,rfl⟩
  ·rw[gT];exact hK _ _ G3
  ·rw[gT];exact hK _ _ G3
 unfold VS at hv
 split at hv
 ·rename_i f args dO
  rw[dO]at hc
  obtain⟨c,ho,jX,De,mM⟩:=zW hc
  refine y4 f _ (c.args.map a.eval) hv (nr E mM) ?_
  simp only[execOp,ho,resolve,jX,Deferred.ofValue,Act.eval,Sem.run_bind,Sem.run_pure,Result.andThen_ok,invoke,Array.empty_append,Array.append_empty]
  exact jd De
 ·rename_i x args dO
  obtain⟨f,l,hx,hP⟩:=hv
  rw[dO]at hc
  obtain⟨c,t,ho,jX,rfl,mM⟩:=rD hc
  obtain⟨first,cD,he,De,hL⟩:=tr (v:=a.eval (.tmp t)) hx (E t) (nr E mM)
  refine y4 f _ (first++c.args.map a.eval++cD) hP hL ?_
  simp only[execOp,ho,resolve,jX,he,Deferred.ofValue,Sem.run_bind,Sem.run_pure,Result.andThen_ok,invoke]
  exact jd De
 ·rename_i m x y dO
  have kd:=hc
  rw[dO]at kd
  obtain⟨t,x',y',ho,h1,h2,h3⟩:=ER kd
  have mW:=hv
  rw[dO]at mW
  simp only[gh,Option.map_eq_some_iff,Prod.mk.injEq]at mW
  obtain⟨g1,tN,rfl,rfl⟩:=mW
  exact Oa hv w (Ju S E ho h1 h2 h3 tN) rfl
 ·rename_i m x y dO
  have kd:=hc
  rw[dO]at kd
  obtain⟨t,e,m',z,i,x',y',rfl,ho,h1,h2,h3,h4,h5,h6,h7⟩:=BU kd
  have mW:=hv
  rw[dO]at mW
  simp only[gh,Option.bind_eq_some_iff]at mW
  obtain⟨ys,Dn,mW⟩:=mW
  exact Oa hv w (GK S E hf ho h1 h2 h3 h4 h5 h6 h7 Dn mW) rfl
 ·rename_i m x y dO
  have kd:=hc
  rw[dO]at kd
  obtain⟨t,t2,e,m',x',y',rfl,ho,h1,h2,h3,h4⟩:=Hx kd
  have mW:=hv
  rw[dO]at mW
  simp only[gh,Option.bind_eq_some_iff]at mW
  obtain⟨ys,Dn,mW⟩:=mW
  exact Oa hv w (L2 S E ho h1 h2 h3 h4 Dn mW) rfl
 ·rename_i z x dO
  have kd:=hc
  rw[dO]at kd
  obtain⟨t,e,m',x',ho,h1,h2,h3,h4⟩:=EP kd
  have mW:=hv
  rw[dO]at mW
  simp only[gh,Option.map_eq_some_iff,Prod.mk.injEq]at mW
  obtain⟨g1,tN,rfl,rfl⟩:=mW
  exact Oa hv w (Jt S E ho h1 h2 h3 h4 tN) rfl
 ·rename_i q xs dO
  have kd:=hc
  rw[dO]at kd
  have mW:=hv
  rw[dO]at mW
  simp only[gh,Option.map_eq_some_iff,Prod.mk.injEq]at mW
  obtain⟨g1,tN,rfl,rfl⟩:=mW
  rcases M6 kd with⟨t,x,k,y,m,z,x',k',y',ho,h1,h2,h3,h4,rfl,rfl⟩|⟨t,t',x,k,m,z,x',k',ho,h1,h2,h3,rfl,rfl⟩
  ·exact Oa hv w (L4 S E ho h1 h2 h3 h4 tN) rfl
  ·exact Oa hv w (L3 S E ho h1 h2 h3 tN) rfl
 ·obtain⟨mr,hq,hg⟩:=hv
  exact quiet mr hq hg
end
end Go.Proofs.YtihgaadadaekmaaGreatDoor.V

namespace Go.Proofs.YtihgaadadaekmaaGreatDoor.V
open Go.RowKit
variable {P:Program} {w w':World} {D D' D2:Nat->Prop} {ι ι' ι2:Names}
section
variable {g:Rows} {hs:Nat} {env:Env} {a:Act} {o:Oper} {id:Id} {v:AV}
theorem n9 {ops:Array Oper} {nt site0 j:Nat} {draw mk:Bool} {bs:Array Nat} {hidden:List (Nat×Bool)} {vo:bl} (h:lF P ops nt site0 draw mk bs hidden j o=some vo):
  pH P o.op=some vo.op/\vo.dst=o.dst/\vo.site=site0+j/\(∀d,o.dst=some d->d<nt)/\(match o.guard with
   |none=>vo.guard=none
   |some (i,b)=>∃t,(ops[i]?).bind (·.dst)=some t/\vo.guard=some (t,b)):=by
 unfold lF at h
 simp only[Option.bind_eq_bind,Option.bind_eq_some_iff]at h
 obtain⟨v,hv,gd,hg,h⟩:=h
 split at h
 ·rename_i hd
  simp only[Option.pure_def,Option.some.injEq]at h
  subst h
  refine⟨hv,rfl,rfl,fun d QY=>?_,?_⟩
  ·rw[QY]at hd;simpa using hd
  ·unfold A7 at hg
   cases vg:o.guard with
   |none=>rw[vg]at hg;simp at hg;exact hg.symm
   |some p=>
    obtain⟨i,b⟩:=p
    rw[vg]at hg
    dsimp only at hg ⊢
    split at hg
    ·rename_i t ht
     simp at hg;exact⟨t,ht,hg.symm⟩
    ·simp at hg
 ·simp at h
theorem rQ {ops:Array Oper} {vo:bl} (E:bI P w D ι env a) (hg:match o.guard with
   |none=>vo.guard=none
   |some (i,b)=>∃t,(ops[i]?).bind (·.dst)=some t/\vo.guard=some (t,b)):aM vo.guard env=Region.wanted o (yielded ops a.tmps):=by
 unfold Region.wanted
 cases vg:o.guard with
 |none=>rw[vg]at hg;simp only at hg;rw[hg];rfl
 |some p=>
  obtain⟨i,b⟩:=p
  rw[vg]at hg
  obtain⟨t,ht,hv⟩:=hg
  rw[hv]
  simp only[aM,yielded,ht,Option.bind_some]
  have hr:=E t
  by_cases dD:t<a.tmps.size
  ·have dR:a.tmps[t]? =some a.tmps[t]:=Array.getElem?_eq_getElem dD
   have hd:a.tmps.getD t undef=a.tmps[t]:=by simp[dD]
   rw[hd]at hr
   rw[dR]
   generalize a.tmps[t]=u at hr
   cases he:env t with
   |bool c=>rw[he]at hr;rw[eQ hr];simp
   |_=>
    rw[he]at hr
    have:∀c,u≠.bool c:=by
     intro c hu
     subst hu
     cases hr with
     |eJ _ _ h=>cases h
    cases u<;>simp_all
  ·have dR:a.tmps[t]? =none:=Array.getElem?_eq_none (Nat.le_of_not_lt dD)
   have hd:a.tmps.getD t undef=undef:=by simp[dR]
   rw[hd]at hr
   rw[dR]
   cases he:env t with
   |bool c=>rw[he]at hr;have:=eQ hr;simp[undef]at this
   |_=>simp
theorem l7 {dst:Option Nat} {nt:Nat} {u:Value} (E:bI P w D ι env a) (hr:cG P w D ι v u) (hd:∀d,dst=some d->d<nt) (hs:a.tmps.size=nt):bI P w D ι (upd env dst v) (a.put dst u):=by
 intro t
 cases dst with
 |none=>exact E t
 |some d=>
  have dD:d<a.tmps.size:=by rw[hs];exact hd d rfl
  simp only[upd,Act.put]
  by_cases ht:t=d
  ·subst ht
   simp[dD];exact hr
  ·rw[if_neg ht]
   have:(a.tmps.setIfInBounds d u).getD t undef=a.tmps.getD t undef:=by
    simp only[Array.getD_eq_getD_getElem?]
    rw[Array.getElem?_setIfInBounds_ne (fun e=>ht e.symm)]
   rw[this];exact E t
theorem nC {hs:Nat} (E:bI P w D ι env a) (T:Step hs D ι w D' ι' w'):bI P w' D' ι' env a:=fun t=>T.rep (E t)
theorem km (a:Act) (dst:Option Tmp) (u:Value):(a.put dst u).tmps.size=a.tmps.size:=by cases dst<;>simp[Act.put]
theorem put_defers (a:Act) (dst:Option Tmp) (u:Value):(a.put dst u).defers=a.defers:=by cases dst<;>rfl
theorem wS {draw:Bool} {vo:bl} {σ:ax} {next:AV->ax->Prop} {U:Nat->Prop} {Q:Exit->Act->World->Prop} {K:Act->World->Prop} (hc:pH P o.op=some vo.op) (hv:fP (Sound P) draw vo env σ next) (S:fZ P hs D ι σ.get w) (Us:Used ι σ.next U) (hU:¬U vo.site) (E:bI P w D ι env a)
  (hK:∀v σ' u D' ι' w',next v σ'->Step hs D ι w D' ι' w'->fZ P hs D' ι' σ'.get w'->cG P w' D' ι' v u->Used ι' σ'.next (fun s=>U s∨s=vo.site)->σ.next<=σ'.next->K (a.put o.dst u) w'):o.wp P a w K Q:=by
 have close:∀v g',VS (Sound P) σ.next vo env σ.get v g'->next v ⟨g',σ.next⟩->o.wp P a w K Q:=fun v g' h1 h2=>
  yR hc h1 S Us hU E fun a' w' ⟨u,D',ι',ha,T,S',hR,U'⟩=>by subst ha;exact hK v ⟨g',σ.next⟩ u D' ι' w' h2 T S' hR U' (Nat.le_refl _)
 have H8:∀(f:Nat) (args:List AV) (vs:Array Value),Sound P f args ⟨σ.get,σ.next+1⟩ next->e8 P w D ι args vs->(execOp a.eval o).run P w=.ok (.enter f vs) w->o.wp P a w K Q:=by
  intro f args vs h hA gT
  unfold Oper.wp
  rw[gT]
  refine(h hs D ι w vs S Us.next hA).mono ?_
  rintro e w' ⟨r,g',n',D',ι',u,rfl,hn,T,S',U',hle,hR⟩
  exact hK r ⟨g',n'⟩ u D' ι' w' hn T S' hR (U'.more fun _ h=>h.elim) (Nat.le_trans (Nat.le_succ _) hle)
 unfold fP at hv
 split at hv
 ·rename_i f args dO
  rcases hv with⟨r,hP,hn⟩|⟨_,hX⟩|⟨xK,sz,rows,hM,hn⟩
  ·exact close r σ.get (by unfold VS;rw[dO];exact .inl ⟨hP,rfl⟩) hn
  rotate_left
  ·exact close _ _ (by unfold VS;rw[dO];exact .inr ⟨xK,sz,rows,hM,rfl,rfl⟩) hn
  ·have kd:=hc
   rw[dO]at kd
   obtain⟨c,ho,jX,De,mM⟩:=zW kd
   refine H8 f _ (c.args.map a.eval) hX (nr E mM) ?_
   simp only[execOp,ho,resolve,jX,Deferred.ofValue,Act.eval,Sem.run_bind,Sem.run_pure,Result.andThen_ok,invoke,Array.empty_append,Array.append_empty]
   exact jd De
 ·rename_i x args dO
  split at hv
  ·rename_i f cD hx
   have uS:tp (cE env x) (args.map (cE env))=some (f,args.map (cE env)++cD):=by rw[hx];rfl
   rcases hv with⟨r,hP,hn⟩|⟨_,hX⟩|⟨xK,sz,rows,hM,hn⟩
   ·exact close r σ.get (by unfold VS;rw[dO];exact⟨f,_,uS,.inl ⟨hP,rfl⟩⟩) hn
   rotate_left
   ·exact close _ _ (by unfold VS;rw[dO];exact⟨f,_,uS,.inr ⟨xK,sz,rows,hM,rfl,rfl⟩⟩) hn
   ·have kd:=hc
    rw[dO]at kd
    obtain⟨c,t,ho,jX,rfl,mM⟩:=rD kd
    obtain⟨first,us,he,De,hL⟩:=tr (v:=a.eval (.tmp t)) uS (E t) (nr E mM)
    refine H8 f _ (first++c.args.map a.eval++us) hX hL ?_
    simp only[execOp,ho,resolve,jX,he,Deferred.ofValue,Sem.run_bind,Sem.run_pure,Result.andThen_ok,invoke]
    exact jd De
  ·rename_i f cD hx
   have uS:tp (cE env x) (args.map (cE env))=some (f,cD++args.map (cE env)):=by rw[hx];rfl
   rcases hv with⟨r,hP,hn⟩|⟨_,hX⟩|⟨xK,sz,rows,hM,hn⟩
   ·exact close r σ.get (by unfold VS;rw[dO];exact⟨f,_,uS,.inl ⟨hP,rfl⟩⟩) hn
   rotate_left
   ·exact close _ _ (by unfold VS;rw[dO];exact⟨f,_,uS,.inr ⟨xK,sz,rows,hM,rfl,rfl⟩⟩) hn
   ·have kd:=hc
    rw[dO]at kd
    obtain⟨c,t,ho,jX,rfl,mM⟩:=rD kd
    obtain⟨first,us,he,De,hL⟩:=tr (v:=a.eval (.tmp t)) uS (E t) (nr E mM)
    refine H8 f _ (first++c.args.map a.eval++us) hX hL ?_
    simp only[execOp,ho,resolve,jX,he,Deferred.ofValue,Sem.run_bind,Sem.run_pure,Result.andThen_ok,invoke]
    exact jd De
  ·exact hv.elim
 ·rename_i m x y dO
  split at hv
  ·rename_i v' g' he
   exact close v' g' (by unfold VS;rw[dO];rw[dO]at he;exact he) hv
  ·exact hv.elim
 ·rename_i m x y dO
  split at hv
  ·rename_i v' g' he
   exact close v' g' (by unfold VS;rw[dO];rw[dO]at he;exact he) hv
  ·exact hv.elim
 ·rename_i m x y dO
  split at hv
  ·rename_i v' g' he
   exact close v' g' (by unfold VS;rw[dO];rw[dO]at he;exact he) hv
  ·exact hv.elim
 ·rename_i m x dO
  split at hv
  ·rename_i v' g' he
   exact close v' g' (by unfold VS;rw[dO];rw[dO]at he;exact he) hv
  ·exact hv.elim
 ·rename_i m x dO
  split at hv
  ·rename_i v' g' he
   exact close v' g' (by unfold VS;rw[dO];rw[dO]at he;exact he) hv
  ·exact hv.elim
 ·rename_i n1 n2 n3 n4 n5 n6 n7
  split at hv
  ·rename_i v' r hq
   refine close v' (bY σ.get ⟨vo.site,σ.next⟩ r) ?_ hv
   unfold VS
   split
   ·rename_i h;exact(n1 _ _ h).elim
   ·rename_i h;exact(n2 _ _ h).elim
   ·rename_i h;exact(n3 _ _ _ h).elim
   ·rename_i h;exact(n4 _ _ _ h).elim
   ·rename_i h;exact(n5 _ _ _ h).elim
   ·rename_i h;exact(n6 _ _ h).elim
   ·rename_i h;exact(n7 _ _ h).elim
   ·exact⟨some r,hq,rfl⟩
  ·rename_i v' hq
   refine close v' σ.get ?_ hv
   unfold VS
   split
   ·rename_i h;exact(n1 _ _ h).elim
   ·rename_i h;exact(n2 _ _ h).elim
   ·rename_i h;exact(n3 _ _ _ h).elim
   ·rename_i h;exact(n4 _ _ _ h).elim
   ·rename_i h;exact(n5 _ _ _ h).elim
   ·rename_i h;exact(n6 _ _ h).elim
   ·rename_i h;exact(n7 _ _ h).elim
   ·exact⟨none,hq,rfl⟩
  ·exact hv.elim
structure St (P:Program) (hs nt:Nat) (D:Nat->Prop) (ι:Names) (env:Env) (σ:ax) (a:Act) (w:World):Prop where
 Jc:fZ P hs D ι σ.get w
 used:Used ι σ.next (fun _=>False)
 env:bI P w D ι env a
 size:a.tmps.size=nt
theorem Ch (rest:List Oper) {ops:Array Oper} {nt site0:Nat} {draw mk:Bool} {bs:Array Nat} {hidden:List (Nat×Bool)} {K:Env->ax->Prop} {Q:Exit->Act->World->Prop}:∀(l:List Oper) (vl:List bl) (j:Nat) (env:Env) (σ:ax) (a:Act) (w:World) (D:Nat->Prop) (ι:Names) (U:Nat->Prop),
  allM (lF P ops nt site0 draw mk bs hidden) l j=some vl->wpOps (Sound P) draw vl K env σ->fZ P hs D ι σ.get w->Used ι σ.next U->(∀s,U s->s<site0+j)->bI P w D ι env a->a.tmps.size=nt->
  (∀g9 σ' a' w' D' ι',K g9 σ'->Step hs D ι w D' ι' w'->St P hs nt D' ι' g9 σ' a' w'->a'.defers=a.defers->σ.next<=σ'.next->wpList P ops Q rest a' w')->wpList P ops Q (l++rest) a w:=by
 intro l
 induction l with
 |nil=>
  intro vl j env σ a w D ι U h hv S Us _ E fe hQ
  simp[allM]at h;subst h
  exact hQ env ⟨σ.get,σ.next+1⟩ a w D ι hv (Step.refl _ _ _ _) ⟨S,Us.next,E,fe⟩ rfl (Nat.le_succ _)
 |cons o l ih=>
  intro vl j env σ a w D ι U h hv S Us hU E fe hQ
  simp only[allM,Option.bind_eq_bind,Option.bind_eq_some_iff,Option.pure_def,Option.some.injEq]at h
  obtain⟨vo,oJ,rP,qS,rfl⟩:=h
  obtain⟨hc,hd,zR,vd,hg⟩:=n9 oJ
  have hw:=rQ (ops:=ops) (vo:=vo) E hg
  unfold wpOps at hv
  show wpList P ops Q (o::(l++rest)) a w
  unfold wpList
  rw[<-hw]
  split at hv
  ·rename_i EK
   rw[if_pos EK]
   refine .inl (wS hc hv S Us (fun h=>by have:=hU _ h;omega) E fun v σ' u D' ι' w' hn T S' hR U' hle=>?_)
   refine ih rP (j+1) (upd env vo.dst v) σ' (a.put o.dst u) w' D' ι' _ qS hn S' U' (fun s zO=>by
    rcases zO with h|h
    ·have:=hU _ h;omega
    ·omega) (by rw[hd];exact l7 (nC E T) hR vd fe) (by rw[km];exact fe) fun g9 σ2 a' w2 D2 ι2 hk T2 OL BD mb=>hQ g9 σ2 a' w2 D2 ι2 hk (T.trans T2) OL (BD.trans (put_defers _ _ _)) (Nat.le_trans hle mb)
  ·rename_i EK
   rw[if_neg EK]
   refine ih rP (j+1) (upd env vo.dst .undef) σ (a.put o.dst undef) w D ι U qS hv S Us (fun s zO=>by have:=hU _ zO;omega) (by rw[hd];exact l7 E cG.undef vd fe) (by rw[km];exact fe) fun g9 σ2 a' w2 D2 ι2 hk T2 OL BD mb=>hQ g9 σ2 a' w2 D2 ι2 hk T2 OL (BD.trans (put_defers _ _ _)) mb
theorem Fm {ops:Array Oper} {nt site0:Nat} {draw mk:Bool} {bs:Array Nat} {hidden:List (Nat×Bool)} {K:Env->ax->Prop} {Q:Exit->Act->World->Prop}:∀(l:List Oper) (vl:List bl) (j:Nat) (env:Env) (σ:ax) (a:Act) (w:World) (D:Nat->Prop) (ι:Names) (U:Nat->Prop),
  allM (lF P ops nt site0 draw mk bs hidden) l j=some vl->wpOps (Sound P) draw vl K env σ->fZ P hs D ι σ.get w->Used ι σ.next U->(∀s,U s->s<site0+j)->bI P w D ι env a->a.tmps.size=nt->
  (∀g9 σ' a' w' D' ι',K g9 σ'->Step hs D ι w D' ι' w'->St P hs nt D' ι' g9 σ' a' w'->a'.defers=a.defers->σ.next<=σ'.next->Q .normal a' w')->wpList P ops Q l a w:=fun l vl j env σ a w D ι U h hv S Us hU E fe hQ=>by
 have:=Ch [] l vl j env σ a w D ι U h hv S Us hU E fe hQ
 rwa [List.append_nil]at this
end
end Go.Proofs.YtihgaadadaekmaaGreatDoor.V

namespace Go.Proofs.YtihgaadadaekmaaGreatDoor.V
open Go.RowKit
variable {P:Program} {w w':World} {D D' D2:Nat->Prop} {ι ι' ι2:Names}
section
variable {hs:Nat} {X:fv}
theorem aX {env iw:Env} {x:O} (h:∀t∈gu x,env t=iw t):cE env x=cE iw x:=by
 cases x with
 |t n=>exact h n (by simp[gu])
 |_=>rfl
theorem map_congr {env iw:Env} {l:List O} (h:∀t∈l.flatMap gu,env t=iw t):l.map (cE env)=l.map (cE iw):=
 List.map_congr_left fun x hx=>aX fun t ht=>h t (List.mem_flatMap.2 ⟨x,hx,ht⟩)
theorem ot {env iw:Env} {x:Option O} (h:∀t∈uo x,env t=iw t):x.map (cE env)=x.map (cE iw):=by
 cases x with
 |none=>rfl
 |some y=>simp only[Option.map_some];rw[aX h]
theorem rI {env iw:Env} {o:fR} {g:Rows} {id:Id} (h:∀t∈o.fY,env t=iw t):eL o (cE env) g id=eL o (cE iw) g id:=by
 cases o<;>simp only[fR.fY,List.mem_append]at h<;>simp only[eL]
 case db x=>rw[aX h]
 case pick c a b=>rw[aX (x:=c) fun t ht=>h t (.inl (.inl ht)),aX (x:=a) fun t ht=>h t (.inl (.inr ht)),aX (x:=b) fun t ht=>h t (.inr ht)]
 case box x=>rw[aX h]
 case build z ps=>
  have:(ps.map fun(x:Nat×Nat×O)=>(x.1,x.2.1,cE env x.2.2))=ps.map fun(x:Nat×Nat×O)=>(x.1,x.2.1,cE iw x.2.2):=List.map_congr_left fun x hx=>by
   rw[aX (x:=x.2.2) fun t ht=>h t (List.mem_flatMap.2 ⟨x,hx,ht⟩)]
  rw[this]
 case l6 a b l=>rw[map_congr h]
 case load a n x=>rw[aX h]
 case y8 x=>rw[aX h]
 case bin a b x y=>rw[aX (x:=x) fun t ht=>h t (.inl ht),aX (x:=y) fun t ht=>h t (.inr ht)]
 case sh a x y=>rw[aX (x:=x) fun t ht=>h t (.inl ht),aX (x:=y) fun t ht=>h t (.inr ht)]
 case Jo a x y=>rw[aX (x:=x) fun t ht=>h t (.inl ht),aX (x:=y) fun t ht=>h t (.inr ht)]
 case L6 a b x y=>rw[aX (x:=x) fun t ht=>h t (.inl ht),aX (x:=y) fun t ht=>h t (.inr ht)]
 case QL a b x y=>rw[aX (x:=x) fun t ht=>h t (.inl ht),aX (x:=y) fun t ht=>h t (.inr ht)]
 case O0 a b x=>rw[aX h]
 case QM a x=>rw[aX h]
 case not x=>rw[aX h]
 case neg x=>rw[aX h]
 case conv k x=>rw[aX h]
 case CW x=>rw[aX h]
 case slice s x lo hi=>rw[aX (x:=x) fun t ht=>h t (.inl (.inl ht)),ot (x:=lo) fun t ht=>h t (.inl (.inr ht)),ot (x:=hi) fun t ht=>h t (.inr ht)]
 case yi x lo hi=>rw[aX (x:=x) fun t ht=>h t (.inl (.inl ht)),ot (x:=lo) fun t ht=>h t (.inl (.inr ht)),ot (x:=hi) fun t ht=>h t (.inr ht)]
 case fF k x=>rw[aX h]
 case field a b c x=>rw[aX h]
 case dy s x y=>rw[aX (x:=x) fun t ht=>h t (.inl ht),aX (x:=y) fun t ht=>h t (.inr ht)]
 case J4 n s x y=>rw[aX (x:=x) fun t ht=>h t (.inl ht),aX (x:=y) fun t ht=>h t (.inr ht)]
 case J6 x y=>rw[aX (x:=x) fun t ht=>h t (.inl ht),aX (x:=y) fun t ht=>h t (.inr ht)]
 case fW a b c x y=>rw[aX (x:=x) fun t ht=>h t (.inl ht),aX (x:=y) fun t ht=>h t (.inr ht)]
 case extract i x=>rw[aX h]
 case len x=>rw[aX h]
 case Kh x=>rw[aX h]
 case HV x=>rw[aX h]
 case HF x=>rw[aX h]
 case Kn f l=>rw[map_congr h]
 case Ko f l=>rw[map_congr h]
 case mq f l=>rw[map_congr h]
 case jy z x y=>rw[aX (x:=x) fun t ht=>h t (.inl ht),aX (x:=y) fun t ht=>h t (.inr ht)]
theorem gz {env iw:Env} {o:fR} {g:Rows} {id:Id} (h:∀t∈o.fY,env t=iw t):gh o (cE env) g id=gh o (cE iw) g id:=by
 cases o<;>simp only[fR.fY,List.mem_append]at h<;>simp only[gh]
 case clear z x=>rw[aX h]
 case mw f l=>rw[map_congr h]
 all_goals rename_i a x y
 all_goals rw[aX (x:=x) fun t ht=>h t (.inl ht),aX (x:=y) fun t ht=>h t (.inr ht)]
theorem Gn {n:Nat} {vo:bl} {env iw:Env} {g g':Rows} {v:AV} (h:∀t∈vo.op.fY,env t=iw t) (hv:VS X n vo env g v g'):VS X n vo iw g v g':=by
 unfold VS at hv ⊢
 split at hv
 ·rename_i f args dO
  rw[dO]at h
  simp only[fR.fY]at h
  rw[<-map_congr h];exact hv
 ·rename_i x args dO
  rw[dO]at h
  simp only[fR.fY,List.mem_append]at h
  rw[<-map_congr (l:=args) fun t ht=>h t (.inr ht),<-aX (x:=x) fun t ht=>h t (.inl ht)];exact hv
 ·rw[<-gz h];exact hv
 ·rw[<-gz h];exact hv
 ·rw[<-gz h];exact hv
 ·rw[<-gz h];exact hv
 ·rw[<-gz h];exact hv
 ·rw[<-rI h];exact hv
theorem B9 {q:MQ} {vs:List AV} {g:Rows} {id:Id} {v:AV} {r:Row} (h:bF q vs g id=some (v,some r)):∃m,q=.new m:=by
 unfold bF at h
 split at h
 ·exact⟨_,rfl⟩
 ·simp[Option.bind_eq_some_iff]at h
 ·simp at h
 ·cases h
theorem ur {o:fR} {ρ:O->AV} {g:Rows} {id:Id} {v:AV} {r:Row} (h:eL o ρ g id=some (v,some r)):pz o=true:=by
 cases o<;>simp only[eL]at h<;>(try rfl)<;>(try simp at h)
 case mq q xs=>obtain⟨m,rfl⟩:=B9 h;rfl
 all_goals (try(split at h<;>simp at h))
theorem uu {o:fR} {ρ:O->AV} {g g2:Rows} {id id2:Id} (h:o.cls=.pure):eL o ρ g id=eL o ρ g2 id2:=by
 cases o<;>(try simp[fR.cls]at h)<;>(try simp only[eL])
 case mq q xs=>cases q<;>simp[fR.cls]at h
theorem tj {n:Nat} {vo:bl} {env:Env} {g g':Rows} {v:AV} (hw:vo.op.cls≠.write) (hv:VS X n vo env g v g'):∃mr,g'=iO g ⟨vo.site,n⟩ mr/\(mr≠none->vo.makes=true)/\∀g0,ga vo.hid n g0=ga vo.hid n g->VS X n vo env g0 v (iO g0 ⟨vo.site,n⟩ mr):=by
 unfold VS at hv
 split at hv
 ·rename_i f args dO
  rcases hv with⟨h1,rfl⟩|⟨hs,sz,rows,hM,rfl,rfl⟩
  ·refine⟨none,rfl,fun h=>(h rfl).elim,fun g0 h0=>?_⟩
   unfold VS;rw[dO];simp only;unfold tq;rw[h0];exact .inl ⟨h1,rfl⟩
  ·refine⟨some _,rfl,fun _=>by unfold bl.makes;rw[dO,hs];simp[fR.lg],fun g0 h0=>?_⟩
   unfold VS;rw[dO];simp only;unfold tq;rw[h0];exact .inr ⟨hs,sz,rows,hM,rfl,rfl⟩
 ·rename_i x args dO
  obtain⟨f,cD,hx,hv⟩:=hv
  rcases hv with⟨h1,rfl⟩|⟨hs,sz,rows,hM,rfl,rfl⟩
  ·refine⟨none,rfl,fun h=>(h rfl).elim,fun g0 h0=>?_⟩
   unfold VS;rw[dO];simp only;unfold tq;rw[h0];exact⟨f,cD,hx,.inl ⟨h1,rfl⟩⟩
  ·refine⟨some _,rfl,fun _=>by unfold bl.makes;rw[dO,hs];simp[fR.lg],fun g0 h0=>?_⟩
   unfold VS;rw[dO];simp only;unfold tq;rw[h0];exact⟨f,cD,hx,.inr ⟨hs,sz,rows,hM,rfl,rfl⟩⟩
 ·rename_i dO;rw[dO]at hw;exact(hw rfl).elim
 ·rename_i dO;rw[dO]at hw;exact(hw rfl).elim
 ·rename_i dO;rw[dO]at hw;exact(hw rfl).elim
 ·rename_i dO;rw[dO]at hw;exact(hw rfl).elim
 ·rename_i dO;rw[dO]at hw;exact(hw rfl).elim
 ·rename_i n1 n2 n3 n4 n5 n6 n7
  obtain⟨mr,hq,rfl⟩:=hv
  refine⟨mr,rfl,fun h=>?_,fun g0 h0=>?_⟩
  ·cases mr with
   |none=>exact(h rfl).elim
   |some r=>unfold bl.makes;rw[ur hq];rfl
  ·unfold VS
   split
   ·rename_i hh;exact(n1 _ _ hh).elim
   ·rename_i hh;exact(n2 _ _ hh).elim
   ·rename_i hh;exact(n3 _ _ _ hh).elim
   ·rename_i hh;exact(n4 _ _ _ hh).elim
   ·rename_i hh;exact(n5 _ _ _ hh).elim
   ·rename_i hh;exact(n6 _ _ hh).elim
   ·rename_i hh;exact(n7 _ _ hh).elim
   ·rw[h0];exact⟨mr,hq,rfl⟩
theorem w6 {n:Nat} {vo:bl} {env:Env} {g g':Rows} {v:AV} (hp:vo.op.cls=.pure) (hv:VS X n vo env g v g'):g'=g/\∀g0,VS X n vo env g0 v g0:=by
 unfold VS at hv
 split at hv
 ·rename_i dO;rw[dO]at hp;simp[fR.cls]at hp
 ·rename_i dO;rw[dO]at hp;simp[fR.cls]at hp
 ·rename_i dO;rw[dO]at hp;simp[fR.cls]at hp
 ·rename_i dO;rw[dO]at hp;simp[fR.cls]at hp
 ·rename_i dO;rw[dO]at hp;simp[fR.cls]at hp
 ·rename_i dO;rw[dO]at hp;simp[fR.cls]at hp
 ·rename_i dO;rw[dO]at hp;simp[fR.cls]at hp
 ·rename_i n1 n2 n3 n4 n5 n6 n7
  obtain⟨mr,hq,rfl⟩:=hv
  have Sx:mr=none:=by
   cases mr with
   |none=>rfl
   |some r=>have:=ur hq;simp[pz,hp]at this
  subst Sx
  refine⟨rfl,fun g0=>?_⟩
  unfold VS
  split
  ·rename_i hh;exact(n1 _ _ hh).elim
  ·rename_i hh;exact(n2 _ _ hh).elim
  ·rename_i hh;exact(n3 _ _ _ hh).elim
  ·rename_i hh;exact(n4 _ _ _ hh).elim
  ·rename_i hh;exact(n5 _ _ _ hh).elim
  ·rename_i hh;exact(n6 _ _ hh).elim
  ·rename_i hh;exact(n7 _ _ hh).elim
  ·exact⟨none,by rw[uu hp];exact hq,rfl⟩
def GS (X:fv) (n:Nat) (vo:bl) (env:Env) (g:Rows) (v:AV) (g':Rows):Prop:=
 if aM vo.guard env then VS X n vo env g v g' else v=.undef/\g'=g
theorem AE {hid:List Nat} {g:Rows} {s n:Nat} {mr:Option Row} (h:mr≠none->hid.contains s=true):ga hid n (iO g ⟨s,n⟩ mr)=ga hid n g:=by
 cases mr with
 |none=>rfl
 |some r=>
  have hc:=h (by simp)
  cases hid with
  |nil=>simp at hc
  |cons a l=>
   funext i
   show(if (a::l).contains i.site=true/\i.cq=n then none else iO g ⟨s,n⟩ (some r) i)=if (a::l).contains i.site=true/\i.cq=n then none else g i
   by_cases hi:i=⟨s,n⟩
   ·subst hi;rw[if_pos ⟨hc,rfl⟩,if_pos ⟨hc,rfl⟩]
   ·simp only[iO,bY,if_neg hi]
theorem D7 {g:Rows} {i j:Id} (h:i≠j) (m1 m2:Option Row):iO (iO g i m1) j m2=iO (iO g j m2) i m1:=by
 cases m1<;>cases m2<;>simp only[iO]
 funext k
 simp only[bY]
 by_cases h1:k=i
 ·subst h1;rw[if_neg h,if_pos rfl];simp
 ·by_cases h2:k=j
  ·subst h2;simp[h1]
  ·simp[h1,h2]
theorem uN {env:Env} {d e:Option Nat} {v u:AV} (h:∀k,d=some k->e≠some k):upd (upd env d v) e u=upd (upd env e u) d v:=by
 cases d with
 |none=>rfl
 |some d=>
  cases e with
  |none=>rfl
  |some e=>
   have gW:d≠e:=fun he=>h d rfl (by rw[he])
   funext t
   simp only[upd]
   by_cases h1:t=d
   ·subst h1;rw[if_neg gW,if_pos rfl,if_pos rfl]
   ·by_cases h2:t=e
    ·subst h2;rw[if_pos rfl,if_neg h1,if_pos rfl]
    ·simp[h1,h2]
theorem lT {env:Env} {d:Option Nat} {v:AV} {l:List Nat} (h:∀k,d=some k->k∉l):∀t∈l,upd env d v t=env t:=by
 intro t ht
 cases d with
 |none=>rfl
 |some d=>
  have:t≠d:=fun he=>h d rfl (he▸ht)
  simp[upd,this]
structure AP (x y:bl):Prop where
 xy:∀k,x.dst=some k->k∉y.fY
 yx:∀k,y.dst=some k->k∉x.fY
 dst:∀k,x.dst=some k->y.dst≠some k
 cls:clash x.op.cls y.op.cls=false
 hx:x.makes=true->y.hid.contains x.site=true
 hy:y.makes=true->x.hid.contains y.site=true
 site:x.site≠y.site
theorem AP.symm {x y:bl} (h:AP x y):AP y x:=
 ⟨h.yx,h.xy,fun k hk he=>h.dst k he hk,by have:=h.cls;revert this;cases x.op.cls<;>cases y.op.cls<;>simp[clash],h.hy,h.hx,fun e=>h.site e.symm⟩
theorem ph {x y:bl} (h:C6 x y=true):AP x y:=by
 unfold C6 at h
 simp only[Bool.and_eq_true,Bool.not_eq_true',Bool.or_eq_true,bne_iff_ne]at h
 obtain⟨⟨⟨⟨h1,h2⟩,h3⟩,h4⟩,h5⟩:=h
 unfold rO at h1
 simp only[Bool.and_eq_true]at h1
 obtain⟨a1,a2⟩:=h1
 refine⟨fun k hk=>?_,fun k hk=>?_,fun k hk=>?_,h2,fun hm=>?_,fun hm=>?_,h5⟩
 ·rw[hk]at a1;simp at a1;exact a1.1
 ·rw[hk]at a2;simpa using a2
 ·rw[hk]at a1;simp at a1;exact a1.2
 ·rcases h3 with h3|h3
  ·rw[hm]at h3;cases h3
  ·exact h3
 ·rcases h4 with h4|h4
  ·rw[hm]at h4;cases h4
  ·exact h4
theorem qE {vo:bl} {t:Nat} (h:t∈vo.op.fY):t∈vo.fY:=List.mem_append_left _ h
theorem mv {vo:bl} {env iw:Env} (h:∀t∈vo.fY,env t=iw t):aM vo.guard env=aM vo.guard iw:=by
 unfold aM
 cases hg:vo.guard with
 |none=>rfl
 |some p=>
  obtain⟨t,b⟩:=p
  have:env t=iw t:=h t (List.mem_append_right _ (by rw[hg];simp))
  simp only[this]
theorem td {n:Nat} {vo:bl} {env iw:Env} {g g':Rows} {v:AV} (h:∀t∈vo.fY,env t=iw t) (hv:GS X n vo env g v g'):GS X n vo iw g v g':=by
 unfold GS at hv ⊢
 rw[<-mv h]
 split at hv
 ·rename_i hw;rw[if_pos hw];exact Gn (fun t ht=>h t (qE ht)) hv
 ·rename_i hw;rw[if_neg hw];exact hv
theorem CL {n:Nat} {x y:bl} {env:Env} {g g1 g2:Rows} {v v':AV} (F:AP x y) (h1:GS X n x env g v g1) (h2:GS X n y (upd env x.dst v) g1 v' g2):
  ∃Jy,GS X n y env g v' Jy/\GS X n x (upd env y.dst v') Jy v g2/\upd (upd env x.dst v) y.dst v'=upd (upd env y.dst v') x.dst v:=by
 have Jb:=uN (env:=env) (v:=v) (u:=v') F.dst
 replace h2:GS X n y env g1 v' g2:=td (lT F.xy) h2
 have back:∀{Jy},GS X n x env Jy v g2->GS X n x (upd env y.dst v') Jy v g2:=fun h=>td (fun t ht=>(lT F.yx t ht).symm) h
 unfold GS at h1 h2
 by_cases wx:aM x.guard env=true
 ·rw[if_pos wx]at h1
  by_cases wy:aM y.guard env=true
  ·rw[if_pos wy]at h2
   by_cases cx:x.op.cls=.write
   ·have cy:y.op.cls=.pure:=by
     have:=F.cls;rw[cx]at this
     cases hc:y.op.cls<;>simp[clash,hc]at this ⊢
    obtain⟨rfl,dk⟩:=w6 cy h2
    exact⟨g,by unfold GS;rw[if_pos wy];exact dk g,back (by unfold GS;rw[if_pos wx];exact h1),Jb⟩
   ·by_cases cy:y.op.cls=.write
    ·have cx':x.op.cls=.pure:=by
      have:=F.cls;rw[cy]at this
      cases hc:x.op.cls<;>simp[clash,hc]at this ⊢
     obtain⟨rfl,dk⟩:=w6 cx' h1
     exact⟨g2,by unfold GS;rw[if_pos wy];exact h2,back (by unfold GS;rw[if_pos wx];exact dk g2),Jb⟩
    ·obtain⟨mx,rfl,kx,Rr⟩:=tj cx h1
     obtain⟨my,rfl,ky,LO⟩:=tj cy h2
     have gW:(⟨x.site,n⟩:Id)≠⟨y.site,n⟩:=fun e=>F.site (by injection e)
     refine⟨iO g ⟨y.site,n⟩ my,?_,back ?_,Jb⟩
     ·unfold GS;rw[if_pos wy]
      exact LO g (AE fun h=>F.hx (kx h)).symm
     ·unfold GS;rw[if_pos wx,D7 gW]
      exact Rr _ (AE fun h=>F.hy (ky h))
  ·rw[if_neg wy]at h2
   obtain⟨rfl,rfl⟩:=h2
   exact⟨g,by unfold GS;rw[if_neg wy];exact⟨rfl,rfl⟩,back (by unfold GS;rw[if_pos wx];exact h1),Jb⟩
 ·rw[if_neg wx]at h1
  obtain⟨rfl,rfl⟩:=h1
  exact⟨g2,h2,back (by unfold GS;rw[if_neg wx];exact⟨rfl,rfl⟩),Jb⟩
end
end Go.Proofs.YtihgaadadaekmaaGreatDoor.V

namespace Go.Proofs.YtihgaadadaekmaaGreatDoor.V
open Go.RowKit
variable {P:Program} {w w':World} {D D' D2:Nat->Prop} {ι ι' ι2:Names}
section
variable {hs:Nat} {X:fv}
def iP (acc:Array Nat) (o:Oper):Nat:=o.after.foldl (fun s e=>if Region.binds .any e then s|||2 ^ e.on|||acc.getD e.on 0 else s) 0
theorem Jk (ops:Array Oper):jg ops=ops.foldl (fun acc o=>acc.push (iP acc o)) #[]:=rfl
theorem yY {acc:Array Nat} {o:Oper} {i:Nat} (h:(iP acc o).testBit i=true):∃e∈o.after,Region.binds .any e=true/\(e.on=i∨(acc.getD e.on 0).testBit i=true):=by
 unfold iP at h
 rw[<-Array.foldl_toList]at h
 have gen:∀(l:List Edge) (s:Nat),(l.foldl (fun s e=>if Region.binds .any e then s|||2 ^ e.on|||acc.getD e.on 0 else s) s).testBit i=true->s.testBit i=true∨∃e∈l,Region.binds .any e=true/\(e.on=i∨(acc.getD e.on 0).testBit i=true):=by
  intro l
  induction l with
  |nil=>intro s h;exact .inl h
  |cons e r ih=>
   intro s h
   rw[List.foldl_cons]at h
   rcases ih _ h with h|⟨e',JG,h'⟩
   ·by_cases hb:Region.binds .any e=true
    ·rw[if_pos hb]at h
     simp only[Nat.testBit_or,Bool.or_eq_true]at h
     rcases h with(h|h)|h
     ·exact .inl h
     ·refine .inr ⟨e,by simp,hb,.inl ?_⟩
      rw[Nat.testBit_two_pow]at h
      simpa using h
     ·exact .inr ⟨e,by simp,hb,.inr h⟩
    ·rw[if_neg hb]at h;exact .inl h
   ·exact .inr ⟨e',List.mem_cons_of_mem _ JG,h'⟩
 rcases gen _ _ h with h|⟨e,he,h⟩
 ·simp at h
 ·exact⟨e,Array.mem_toList_iff.1 he,h⟩
theorem GA {ops:Array Oper} {j i:Nat} (h:((jg ops).getD j 0).testBit i=true):∃o,ops[j]? =some o/\∃e∈o.after,Region.binds .any e=true/\(e.on=i∨((jg ops).getD e.on 0).testBit i=true):=by
 have key:∀(l pre:List Oper) (acc:Array Nat),acc.size=pre.length->(∀j i,(acc.getD j 0).testBit i=true->∃o,pre[j]? =some o/\∃e∈o.after,Region.binds .any e=true/\(e.on=i∨(acc.getD e.on 0).testBit i=true))->
   ∀j i,((l.foldl (fun acc o=>acc.push (iP acc o)) acc).getD j 0).testBit i=true->∃o,(pre++l)[j]? =some o/\∃e∈o.after,Region.binds .any e=true/\(e.on=i∨((l.foldl (fun acc o=>acc.push (iP acc o)) acc).getD e.on 0).testBit i=true):=by
  intro l
  induction l with
  |nil=>intro pre acc _ h j i hb;simpa using h j i hb
  |cons o r ih=>
   intro pre acc fe h j i hb
   have Ai:∀k,k<acc.size->(acc.push (iP acc o)).getD k 0=acc.getD k 0:=fun k hk=>by
    simp only[Array.getD_eq_getD_getElem?,Array.getElem?_push]
    rw[if_neg ab]
   have big:∀k,acc.size<=k->acc.getD k 0=0:=fun k hk=>by simp[Array.getElem?_eq_none hk]
   have lift:∀k i,(acc.getD k 0).testBit i=true->((acc.push (iP acc o)).getD k 0).testBit i=true:=fun k i hk=>by
    by_cases dD:k<acc.size
    ·rw[Ai k dD];exact hk
    ·rw[big k ab]at hk;simp at hk
   have:=ih (pre++[o]) (acc.push (iP acc o)) (by simp[fe]) (fun j i hb=>by
    by_cases dD:j<acc.size
    ·rw[Ai j dD]at hb
     obtain⟨o',Dh,e,he,fB,h2⟩:=h j i hb
     refine⟨o',by rw[List.getElem?_append_left ab];exact Dh,e,he,fB,?_⟩
     rcases h2 with h2|h2
     ·exact .inl h2
     ·exact .inr (lift _ _ h2)
    ·by_cases hj:j=acc.size
     ·subst hj
      have e0:(acc.push (iP acc o)).getD acc.size 0=iP acc o:=by simp
      rw[e0]at hb
      obtain⟨e,he,fB,h2⟩:=yY hb
      refine⟨o,by rw[List.getElem?_append_right ab,fe];simp,e,he,fB,?_⟩
      rcases h2 with h2|h2
      ·exact .inl h2
      ·exact .inr (lift _ _ h2)
     ·have:(acc.push (iP acc o)).getD j 0=0:=by
       simp only[Array.getD_eq_getD_getElem?]
       rw[Array.getElem?_eq_none (by simp;omega)];rfl
      rw[this]at hb;simp at hb) j i (by simpa using hb)
   simpa using this
 rw[Jk,<-Array.foldl_toList]at h ⊢
 have:=key ops.toList [] #[] rfl (fun j i h=>by simp at h) j i h
 simpa using this
def DC (ops:Array Oper) (listed:Array Bool):Prop:=∀k i,listed.getD k false=true->((jg ops).getD k 0).testBit i=true->listed.getD i false=true
theorem ko {ops:Array Oper} {listed:Array Bool} (h:DC ops listed) {j:Nat} (hj:j∈Region.ready .any ops listed):∀i,((jg ops).getD j 0).testBit i=true->listed.getD i false=true:=by
 intro i hb
 obtain⟨_,o,ho,dk⟩:=mem_ready.1 hj
 obtain⟨o',Dh,e,he,fB,h2⟩:=GA hb
 rw[ho]at Dh;injection Dh with Dh;subst Dh
 have hl:=dk e he fB
 rcases h2 with h2|h2
 ·rw[<-h2];exact hl
 ·exact h _ _ hl h2
theorem DC.list {ops:Array Oper} {listed:Array Bool} (h:DC ops listed) {j:Nat} (hj:j∈Region.ready .any ops listed):DC ops (listed.setIfInBounds j true):=by
 intro k i hk hb
 by_cases hkj:k=j
 ·subst hkj;exact getD_set_true (ko h hj i hb)
 ·rw[getD_set_ne false (fun e=>hkj e.symm)]at hk
  exact getD_set_true (h k i hk hb)
theorem iH {ops:Array Oper} {listed:Array Bool} {j:Nat} (hj:j∈Region.ready .any ops listed):listed.getD j false=false:=by
 have h0:=(mem_ready.1 hj).1
 rcases Nat.lt_or_ge j listed.size with h|h
 ·simp[h]at h0 ⊢;exact h0
 ·simp[Array.getElem?_eq_none h]at h0
def IK (X:fv) (n:Nat) (ops:Array Oper) (vl:List bl) (K:Env->Rows->Prop):Nat->Array Bool->Env->Rows->Prop
 |0,listed,env,g=>Region.ready .any ops listed=[]/\K env g
 |f+1,listed,env,g=>(Region.ready .any ops listed=[]->K env g)/\∀i∈Region.ready .any ops listed,∃vo,vl[i]? =some vo/\∃v g',GS X n vo env g v g'/\IK X n ops vl K f (listed.setIfInBounds i true) (upd env vo.dst v) g'
theorem ze {ops:Array Oper} {vl:List bl} (h:nB ops vl (jg ops)=true) {i j:Nat} {x y:bl} (hi:vl[i]? =some x) (hj:vl[j]? =some y) (Q3:i≠j) (h1:((jg ops).getD j 0).testBit i=false) (h2:((jg ops).getD i 0).testBit j=false):AP x y:=by
 unfold nB at h
 simp only[Bool.and_eq_true,List.all_eq_true]at h
 obtain⟨_,h⟩:=h
 have mem:∀(k:Nat) (z:bl),vl[k]? =some z->(z,k)∈vl.zipIdx:=fun k z hk=>by
  rw[List.mem_iff_getElem?]
  exact⟨k,by simp[List.getElem?_zipIdx,hk]⟩
 rcases Nat.lt_or_gt_of_ne Q3 with dD|JL
 ·have:=h _ (mem j y hj) _ (mem i x hi)
  simp only[dD,decide_true,Bool.not_true,Bool.false_or,h1]at this
  exact ph this
 ·have:=h _ (mem i x hi) _ (mem j y hj)
  simp only[JL,decide_true,Bool.not_true,Bool.false_or,h2]at this
  exact(ph this).symm
theorem CI {n:Nat} {ops:Array Oper} {vl:List bl} {K:Env->Rows->Prop} (tU:nB ops vl (jg ops)=true) (hlen:vl.length=ops.size) {i:Nat} {vi:bl} (hi:vl[i]? =some vi) {v:AV}:∀(fuel:Nat) (listed:Array Bool) (env:Env) (g g1:Rows),
  DC ops listed->i∈Region.ready .any ops listed->GS X n vi env g v g1->IK X n ops vl K fuel (listed.setIfInBounds i true) (upd env vi.dst v) g1->IK X n ops vl K (fuel+1) listed env g:=by
 intro fuel
 induction fuel with
 |zero=>
  intro listed env g g1 _ hr hG H
  refine⟨fun h=>(by rw[h]at hr;cases hr),fun j hj=>?_⟩
  by_cases lU:j=i
  ·subst lU;exact⟨vi,hi,v,g1,hG,H⟩
  ·have:=ready_mono hj lU
   rw[H.1]at this;cases this
 |succ fuel ih=>
  intro listed env g g1 qQ hr hG H
  refine⟨fun h=>(by rw[h]at hr;cases hr),fun j hj=>?_⟩
  by_cases lU:j=i
  ·subst lU;exact⟨vi,hi,v,g1,hG,H⟩
  ·obtain⟨vj,J1,v',g2,hG2,H2⟩:=H.2 j (ready_mono hj lU)
   have b1:((jg ops).getD j 0).testBit i=false:=by
    cases hb:((jg ops).getD j 0).testBit i with
    |false=>rfl
    |true=>have:=ko qQ hj i hb;rw[iH hr]at this;cases this
   have b2:((jg ops).getD i 0).testBit j=false:=by
    cases hb:((jg ops).getD i 0).testBit j with
    |false=>rfl
    |true=>have:=ko qQ hr j hb;rw[iH hj]at this;cases this
   have F:=ze tU hi J1 (fun e=>lU e.symm) b1 b2
   obtain⟨Jy,q1,q2,q3⟩:=CL F hG hG2
   refine⟨vj,J1,v',Jy,q1,ih _ _ _ g2 (qQ.list hj) (ready_mono hr (fun e=>lU e.symm)) q2 ?_⟩
   rw[<-q3,Array.setIfInBounds_comm _ _ lU]
   exact H2
theorem LL {n:Nat} {vo:bl} {env:Env} {g:Rows} {v:AV} {mr:Option Row} (h:eL vo.op (cE env) (ga vo.hid n g) ⟨vo.site,n⟩=some (v,mr)):VS X n vo env g v (iO g ⟨vo.site,n⟩ mr):=by
 unfold VS
 split
 ·rename_i dO;rw[dO]at h;simp[eL]at h
 ·rename_i dO;rw[dO]at h;simp[eL]at h
 ·rename_i dO;rw[dO]at h;simp[eL]at h
 ·rename_i dO;rw[dO]at h;simp[eL]at h
 ·rename_i dO;rw[dO]at h;simp[eL]at h
 ·rename_i dO;rw[dO]at h;simp[eL]at h
 ·rename_i dO;rw[dO]at h;simp[eL]at h
 ·exact⟨mr,h,rfl⟩
theorem Gp {n:Nat} {vo:bl} {env:Env} {g g':Rows} {v:AV} (h:gh vo.op (cE env) g ⟨vo.site,n⟩=some (v,g')):VS X n vo env g v g':=by
 unfold VS
 split
 ·rename_i dO;rw[dO]at h;simp[gh]at h
 ·rename_i dO;rw[dO]at h;simp[gh]at h
 ·exact h
 ·exact h
 ·exact h
 ·exact h
 ·exact h
 ·rename_i n1 n2 n3 n4 n5 n6 n7
  exfalso
  unfold gh at h
  split at h
  ·rename_i hh;exact n3 _ _ _ hh
  ·rename_i hh;exact n4 _ _ _ hh
  ·rename_i hh;exact n5 _ _ _ hh
  ·rename_i hh;exact n6 _ _ hh
  ·rename_i hh;exact n7 _ _ hh
  ·simp at h
theorem NI {vo:bl} {env:Env} {σ:ax} {next:AV->ax->Prop} (hv:fP X true vo env σ next):∃v g',VS X σ.next vo env σ.get v g'/\next v ⟨g',σ.next⟩:=by
 unfold fP at hv
 split at hv
 ·rename_i f args dO
  rcases hv with⟨r,hP,hn⟩|⟨h,_⟩|⟨hs,sz,rows,hM,hn⟩
  ·exact⟨r,σ.get,by unfold VS;rw[dO];exact .inl ⟨hP,rfl⟩,hn⟩
  ·cases h
  ·exact⟨_,_,by unfold VS;rw[dO];exact .inr ⟨hs,sz,rows,hM,rfl,rfl⟩,hn⟩
 ·rename_i x args dO
  split at hv
  ·rename_i f cD hx
   have uS:tp (cE env x) (args.map (cE env))=some (f,args.map (cE env)++cD):=by rw[hx];rfl
   rcases hv with⟨r,hP,hn⟩|⟨h,_⟩|⟨hs,sz,rows,hM,hn⟩
   ·exact⟨r,σ.get,by unfold VS;rw[dO];exact⟨f,_,uS,.inl ⟨hP,rfl⟩⟩,hn⟩
   ·cases h
   ·exact⟨_,_,by unfold VS;rw[dO];exact⟨f,_,uS,.inr ⟨hs,sz,rows,hM,rfl,rfl⟩⟩,hn⟩
  ·rename_i f cD hx
   have uS:tp (cE env x) (args.map (cE env))=some (f,cD++args.map (cE env)):=by rw[hx];rfl
   rcases hv with⟨r,hP,hn⟩|⟨h,_⟩|⟨hs,sz,rows,hM,hn⟩
   ·exact⟨r,σ.get,by unfold VS;rw[dO];exact⟨f,_,uS,.inl ⟨hP,rfl⟩⟩,hn⟩
   ·cases h
   ·exact⟨_,_,by unfold VS;rw[dO];exact⟨f,_,uS,.inr ⟨hs,sz,rows,hM,rfl,rfl⟩⟩,hn⟩
  ·exact hv.elim
 ·split at hv
  ·rename_i v g h;exact⟨v,g,Gp h,hv⟩
  ·exact hv.elim
 ·split at hv
  ·rename_i v g h;exact⟨v,g,Gp h,hv⟩
  ·exact hv.elim
 ·split at hv
  ·rename_i v g h;exact⟨v,g,Gp h,hv⟩
  ·exact hv.elim
 ·split at hv
  ·rename_i v g h;exact⟨v,g,Gp h,hv⟩
  ·exact hv.elim
 ·split at hv
  ·rename_i v g h;exact⟨v,g,Gp h,hv⟩
  ·exact hv.elim
 ·split at hv
  ·rename_i v r h;exact⟨v,_,LL h,hv⟩
  ·rename_i v h;exact⟨v,_,LL h,hv⟩
  ·exact hv.elim
theorem uO {ops:Array Oper} {vl:List bl} {K:Env->ax->Prop} {n:Nat} (tU:nB ops vl (jg ops)=true) (hlen:vl.length=ops.size):∀(r:List bl) (k:Nat) (listed:Array Bool) (env:Env) (g:Rows),
  (∀j,r[j]? =vl[k+j]?)->listed.size=ops.size->(∀i,i<ops.size->listed[i]? =some (decide (i<k)))->k+r.length=ops.size->DC ops listed->wpOps X true r K env ⟨g,n⟩->IK X n ops vl (fun env g=>K env ⟨g,n+1⟩) r.length listed env g
 |[],k,listed,env,g,_,fe,hl,hk,_,hv=>by
  refine⟨?_,hv⟩
  rw[List.eq_nil_iff_forall_not_mem]
  intro j hj
  obtain⟨h0,o,ho,_⟩:=mem_ready.1 hj
  have dD:j<ops.size:=(Array.getElem?_eq_some_iff.1 ho).1
  have:=hl j dD
  simp at hk
  simp[this,show j<k by omega]at h0
 |vo::r,k,listed,env,g,hr,fe,hl,hk,qQ,hv=>by
  simp only[List.length_cons]at hk
  have oJ:vl[k]? =some vo:=by simpa using(hr 0).symm
  have lu:k<ops.size:=ab
  have Hn:k∈Region.ready .any ops listed:=by
   rw[mem_ready]
   refine⟨by simp[hl k lu],ops[k],Array.getElem?_eq_getElem lu,fun e he hb=>?_⟩
   unfold nB C0 at tU
   simp only[Bool.and_eq_true,List.all_eq_true]at tU
   have hm:(ops[k],k)∈ops.toList.zipIdx:=by
    rw[List.mem_iff_getElem?]
    exact⟨k,by simp[List.getElem?_zipIdx,lu]⟩
   have:=tU.1 _ hm
   rw[Array.all_eq_true_iff_forall_mem]at this
   have:=this e he
   simp only[hb,Bool.not_true,Bool.false_or,decide_eq_true_eq]at this
   simp[hl e.on ab,this]
  have hGS:∃v g',GS X n vo env g v g'/\wpOps X true r K (upd env vo.dst v) ⟨g',n⟩:=by
   unfold wpOps at hv
   unfold GS
   split at hv
   ·rename_i hw
    simp only[hw,if_true]
    exact NI hv
   ·rename_i hw
    simp only[hw]
    exact⟨.undef,g,⟨rfl,rfl⟩,hv⟩
  obtain⟨v,g',h1,h2⟩:=hGS
  refine CI tU hlen oJ r.length listed env g g' qQ Hn h1 ?_
  refine uO tU hlen r (k+1) _ _ _ (fun j=>by have:=hr (j+1);simpa[Nat.add_assoc,Nat.add_comm 1 j]using this) (by simp[fe]) (fun i hi=>?_) ab (qQ.list Hn) h2
  by_cases wg:i=k
  ·subst wg;simp[fe,lu]
  ·rw[Array.getElem?_setIfInBounds_ne (fun e=>wg e.symm),hl i hi]
   congr 1
   have:(i<k)=(i<k+1):=by apply propext;omega
   simp[this]
theorem nq {f:Nat->Oper->Option bl}:∀{l:List Oper} {vl:List bl} {j:Nat},allM f l j=some vl->vl.length=l.length/\∀(i:Nat) (o:Oper),l[i]? =some o->∃vo,vl[i]? =some vo/\f (j+i) o=some vo
 |[],vl,j,h=>by simp[allM]at h;subst h;simp
 |o::l,vl,j,h=>by
  simp only[allM,Option.bind_eq_bind,Option.bind_eq_some_iff,Option.pure_def,Option.some.injEq]at h
  obtain⟨vo,oJ,rP,qS,rfl⟩:=h
  obtain⟨h1,h2⟩:=nq qS
  refine⟨by simp[h1],fun i o' hi=>?_⟩
  cases i with
  |zero=>simp at hi;subst hi;exact⟨vo,rfl,oJ⟩
  |succ i=>
   simp at hi
   obtain⟨q,hq,hf⟩:=h2 i o' hi
   exact⟨q,by simpa using hq,by rw[<-hf];congr 1;omega⟩
theorem vJ {ops:Array Oper} {vl:List bl} {nt site0:Nat} {draw mk:Bool} {bs:Array Nat} {hidden:List (Nat×Bool)} {n:Nat} {K:Env->Rows->Prop} {Q:Exit->Act->World->Prop} (dk:allM (lF P ops nt site0 draw mk bs hidden) ops.toList 0=some vl):
  ∀(fuel:Nat) (listed:Array Bool) (env:Env) (g:Rows) (a:Act) (w:World) (D:Nat->Prop) (ι:Names) (U:Nat->Prop),IK (Sound P) n ops vl K fuel listed env g->fZ P hs D ι g w->Used ι n U->(∀s,U s->∃i,s=site0+i/\listed.getD i false=true)->bI P w D ι env a->a.tmps.size=nt->
  (∀g9 g' a' w' D' ι' U',K g9 g'->Step hs D ι w D' ι' w'->fZ P hs D' ι' g' w'->Used ι' n U'->bI P w' D' ι' g9 a'->a'.tmps.size=nt->a'.defers=a.defers->Q .normal a' w')->wpAny P .any ops Q fuel listed a w:=by
 intro fuel
 induction fuel with
 |zero=>intro listed env g a w D ι U h S Us hU E fe hQ;exact⟨h.1,hQ env g a w D ι U h.2 (Step.refl _ _ _ _) S Us E fe rfl⟩
 |succ fuel ih=>
  intro listed env g a w D ι U h S Us hU E fe hQ
  refine⟨fun hr=>hQ env g a w D ι U (h.1 hr) (Step.refl _ _ _ _) S Us E fe rfl,fun i hi=>?_⟩
  obtain⟨vo,oJ,v,g',hG,tW⟩:=h.2 i hi
  obtain⟨_,o,ho,_⟩:=mem_ready.1 hi
  obtain⟨vo',lI,Py⟩:=(nq dk).2 i o (by simpa using ho)
  rw[oJ]at lI;injection lI with lI;subst lI
  rw[Nat.zero_add]at Py
  obtain⟨hc,hd,zR,vd,hg⟩:=n9 Py
  have hw:=rQ (ops:=ops) (vo:=vo) E hg
  have R5:¬U vo.site:=fun hu=>by
   obtain⟨i',he,hl⟩:=hU _ hu
   have:i'=i:=ab
   subst this
   rw[iH hi]at hl;cases hl
  have jh:i<listed.size:=by
   have h0:=(mem_ready.1 hi).1
   rcases Nat.lt_or_ge i listed.size with h|h
   ·exact h
   ·simp[Array.getElem?_eq_none h]at h0
  unfold wpOp
  simp only[ho]
  rw[<-hw]
  unfold GS at hG
  by_cases EK:aM vo.guard env=true
  ·rw[if_pos EK]
   rw[if_pos EK]at hG
   refine .inl (yR hc hG S Us R5 E fun a' w' ⟨u,D',ι',ha,T,S',hR,U'⟩=>?_)
   subst ha
   refine ih _ _ _ _ w' D' ι' _ tW S' U' (fun s zO=>?_) (by rw[hd];exact l7 (nC E T) hR vd fe) (by rw[km];exact fe) fun g9 g2 a2 w2 D2 ι2 U2 hk T2 S2 Rq E2 k5 BD=>hQ g9 g2 a2 w2 D2 ι2 U2 hk (T.trans T2) S2 Rq E2 k5 (BD.trans (put_defers _ _ _))
   rcases zO with h|h
   ·obtain⟨i',he,hl⟩:=hU _ h
    exact⟨i',he,getD_set_true hl⟩
   ·exact⟨i,by rw[h,zR],by simp[jh]⟩
  ·rw[if_neg EK]
   rw[if_neg EK]at hG
   obtain⟨rfl,rfl⟩:=hG
   refine ih _ _ _ _ w D ι U tW S Us (fun s zO=>?_) (by rw[hd];exact l7 E cG.undef vd fe) (by rw[km];exact fe) fun g9 g2 a2 w2 D2 ι2 U2 hk T2 S2 Rq E2 k5 BD=>hQ g9 g2 a2 w2 D2 ι2 U2 hk T2 S2 Rq E2 k5 (BD.trans (put_defers _ _ _))
   obtain⟨i',he,hl⟩:=hU _ zO
   exact⟨i',he,getD_set_true hl⟩
end
end Go.Proofs.YtihgaadadaekmaaGreatDoor.V

namespace Go.Proofs.YtihgaadadaekmaaGreatDoor.V
open Go.RowKit
variable {P:Program} {w w':World} {D D' D2:Nat->Prop} {ι ι' ι2:Names}
section
variable {hs:Nat} {X:fv}
def oL (X:fv):Prop:=∀f args σ K K',(∀r σ',K r σ'->K' r σ')->X f args σ K->X f args σ K'
theorem oZ:oL (Sound P):=fun _ _ _ _ _ hK h hs D ι w vs S U A=>
 (h hs D ι w vs S U A).mono fun _ _ ⟨r,g',n',D',ι',u,he,hk,rest⟩=>⟨r,g',n',D',ι',u,he,hK _ _ hk,rest⟩
def step (X:fv) (vo:bl) (N:Env->ax->Prop) (env:Env) (σ:ax):Prop:=
 if aM vo.guard env then fP X false vo env σ fun v σ'=>N (upd env vo.dst v) σ' else N (upd env vo.dst .undef) σ
theorem pb (hK:oL X) {draw:Bool} {hid:List Nat} {site f:Nat} {args:List AV} {σ:ax} {n n':AV->ax->Prop} (hn:∀v σ',n v σ'->n' v σ') (hp:cF X draw hid site f args σ n):cF X draw hid site f args σ n':=by
 rcases hp with⟨r,h1,h2⟩|⟨h1,h2⟩|⟨h1,sz,rows,h2,h3⟩
 ·exact .inl ⟨r,h1,hn _ _ h2⟩
 ·exact .inr (.inl ⟨h1,hK _ _ _ _ _ hn h2⟩)
 ·exact .inr (.inr ⟨h1,sz,rows,h2,hn _ _ h3⟩)
theorem AF (hK:oL X) {draw:Bool} {o:bl} {env:Env} {σ:ax} {n n':AV->ax->Prop} (hn:∀v σ',n v σ'->n' v σ') (hp:fP X draw o env σ n):fP X draw o env σ n':=by
 unfold fP at hp ⊢
 split at hp
 ·exact pb hK hn hp
 ·split at hp
  ·exact pb hK hn hp
  ·exact pb hK hn hp
  ·exact hp.elim
 ·split at hp
  ·exact hn _ _ hp
  ·exact hp.elim
 ·split at hp
  ·exact hn _ _ hp
  ·exact hp.elim
 ·split at hp
  ·exact hn _ _ hp
  ·exact hp.elim
 ·split at hp
  ·exact hn _ _ hp
  ·exact hp.elim
 ·split at hp
  ·exact hn _ _ hp
  ·exact hp.elim
 ·split at hp
  ·exact hn _ _ hp
  ·exact hn _ _ hp
  ·exact hp.elim
theorem ju (hK:oL X) {vo:bl} {N N':Env->ax->Prop} (h:∀e s,N e s->N' e s) {env:Env} {σ:ax} (hp:step X vo N env σ):step X vo N' env σ:=by
 unfold step at hp ⊢
 split at hp
 ·rename_i hw;rw[if_pos hw];exact AF hK (fun v σ'=>h _ _) hp
 ·rename_i hw;rw[if_neg hw];exact h _ _ hp
theorem FQ {env iw:Env} {vo:bl} {σ:ax} {n:AV->ax->Prop} (h:∀t∈vo.op.fY,env t=iw t) (hv:fP X false vo env σ n):fP X false vo iw σ n:=by
 unfold fP at hv ⊢
 split at hv
 ·rename_i f args dO
  rw[dO]at h
  simp only[fR.fY]at h
  rw[<-map_congr h];exact hv
 ·rename_i x args dO
  rw[dO]at h
  simp only[fR.fY,List.mem_append]at h
  rw[<-map_congr (l:=args) fun t ht=>h t (.inr ht),<-aX (x:=x) fun t ht=>h t (.inl ht)];exact hv
 ·rw[<-gz h];exact hv
 ·rw[<-gz h];exact hv
 ·rw[<-gz h];exact hv
 ·rw[<-gz h];exact hv
 ·rw[<-gz h];exact hv
 ·rw[<-rI h];exact hv
theorem k7 {x:bl} (hq:kn x=true) {N:Env->ax->Prop} {env:Env} {σ:ax}:step X x N env σ↔∃v g',GS X σ.next x env σ.get v g'/\N (upd env x.dst v) ⟨g',σ.next⟩:=by
 unfold kn at hq
 simp only[Bool.and_eq_true,Bool.not_eq_true',bne_iff_ne]at hq
 obtain⟨Dj,oj⟩:=hq
 unfold step GS
 by_cases hw:aM x.guard env=true
 ·rw[if_pos hw]
  simp only[hw,if_true]
  unfold fP
  split
  ·rename_i dO;simp[dO,fR.lg]at Dj
  ·rename_i dO;simp[dO,fR.lg]at Dj
  ·rename_i dO;simp[dO,fR.cls]at oj
  ·rename_i dO;simp[dO,fR.cls]at oj
  ·rename_i dO;simp[dO,fR.cls]at oj
  ·rename_i dO;simp[dO,fR.cls]at oj
  ·rename_i dO;simp[dO,fR.cls]at oj
  ·rename_i n1 n2 n3 n4 n5 n6 n7
   have hVS:∀v g',VS X σ.next x env σ.get v g'↔∃mr,eL x.op (cE env) (ga x.hid σ.next σ.get) ⟨x.site,σ.next⟩=some (v,mr)/\g'=iO σ.get ⟨x.site,σ.next⟩ mr:=fun v g'=>by
    unfold VS
    split
    ·rename_i hh;exact(n1 _ _ hh).elim
    ·rename_i hh;exact(n2 _ _ hh).elim
    ·rename_i hh;exact(n3 _ _ _ hh).elim
    ·rename_i hh;exact(n4 _ _ _ hh).elim
    ·rename_i hh;exact(n5 _ _ _ hh).elim
    ·rename_i hh;exact(n6 _ _ hh).elim
    ·rename_i hh;exact(n7 _ _ hh).elim
    ·exact Iff.rfl
   simp only[hVS]
   cases hz:eL x.op (cE env) (ga x.hid σ.next σ.get) ⟨x.site,σ.next⟩with
   |none=>
    exact⟨fun h=>h.elim,fun⟨v,g',⟨mr,h,_⟩,_⟩=>by cases h⟩
   |some p=>
    obtain⟨v,mr⟩:=p
    have key:∀(v':AV) (g':Rows),(∃OG,some (v,mr)=some (v',OG)/\g'=iO σ.get ⟨x.site,σ.next⟩ OG)↔v'=v/\g'=iO σ.get ⟨x.site,σ.next⟩ mr:=fun v' g'=>by
     constructor
     ·rintro⟨OG,h1,h2⟩
      injection h1 with h1;injection h1 with h1 h3
      subst h1;subst h3
      exact⟨rfl,h2⟩
     ·rintro⟨rfl,rfl⟩;exact⟨mr,rfl,rfl⟩
    have fin:(∃v' g',(∃OG,some (v,mr)=some (v',OG)/\g'=iO σ.get ⟨x.site,σ.next⟩ OG)/\N (upd env x.dst v') ⟨g',σ.next⟩)↔N (upd env x.dst v) ⟨iO σ.get ⟨x.site,σ.next⟩ mr,σ.next⟩:=by
     constructor
     ·rintro⟨v',g',h,hN⟩
      obtain⟨rfl,rfl⟩:=(key v' g').1 h
      exact hN
     ·intro hN;exact⟨v,_,(key _ _).2 ⟨rfl,rfl⟩,hN⟩
    cases mr with
    |none=>exact fin.symm
    |some r=>exact fin.symm
 ·rw[if_neg hw]
  simp only[if_neg hw]
  exact⟨fun h=>⟨_,_,⟨rfl,rfl⟩,h⟩,fun⟨v,g',⟨hv,hg⟩,h⟩=>by rw[hv,hg]at h;exact h⟩
def xv (x:bl) (env:Env) (v:AV):Prop:=if aM x.guard env then eL x.op (cE env) (fun _=>none) ⟨0,0⟩=some (v,none)else v=.undef
theorem uq {x:bl} (hp:x.op.cls=.pure):kn x=true:=by
 unfold kn
 rw[hp]
 cases hc:x.op<;>simp[hc,fR.cls]at hp<;>rfl
theorem rL {x:bl} (hp:x.op.cls=.pure) {N:Env->ax->Prop} {env:Env} {σ:ax}:step X x N env σ↔∃v,xv x env v/\N (upd env x.dst v) σ:=by
 rw[k7 (uq hp)]
 unfold GS xv
 by_cases hw:aM x.guard env=true
 ·simp only[hw,if_true]
  constructor
  ·rintro⟨v,g',h,hN⟩
   obtain⟨rfl,dk⟩:=w6 hp h
   refine⟨v,?_,hN⟩
   unfold VS at h
   split at h
   ·rename_i dO;rw[dO]at hp;simp[fR.cls]at hp
   ·rename_i dO;rw[dO]at hp;simp[fR.cls]at hp
   ·rename_i dO;rw[dO]at hp;simp[fR.cls]at hp
   ·rename_i dO;rw[dO]at hp;simp[fR.cls]at hp
   ·rename_i dO;rw[dO]at hp;simp[fR.cls]at hp
   ·rename_i dO;rw[dO]at hp;simp[fR.cls]at hp
   ·rename_i dO;rw[dO]at hp;simp[fR.cls]at hp
   ·obtain⟨mr,hq,_⟩:=h
    have Sx:mr=none:=by
     cases mr with
     |none=>rfl
     |some r=>have:=ur hq;simp[pz,hp]at this
    subst Sx
    rw[<-uu (g:=ga x.hid σ.next σ.get) (id:=⟨x.site,σ.next⟩) hp];exact hq
  ·rintro⟨v,h,hN⟩
   exact⟨v,σ.get,LL (mr:=none) (by rw[uu (g2:=fun _=>none) (id2:=⟨0,0⟩) hp];exact h),hN⟩
 ·simp only[if_neg hw]
  exact⟨fun⟨v,g',⟨hv,hg⟩,h⟩=>⟨v,hv,by rw[hg]at h;exact h⟩,fun⟨v,hv,h⟩=>⟨v,σ.get,⟨hv,rfl⟩,h⟩⟩
theorem IT {x:bl} {env iw:Env} {v:AV} (h:∀t∈x.fY,env t=iw t) (hv:xv x env v):xv x iw v:=by
 unfold xv at hv ⊢
 rw[<-mv h,<-rI fun t ht=>h t (qE ht)];exact hv
structure K1 (x y:bl):Prop where
 xy:∀k,x.dst=some k->k∉y.fY
 yx:∀k,y.dst=some k->k∉x.fY
 dst:∀k,x.dst=some k->y.dst≠some k
theorem qM {x y:bl} (h:rO x y=true):K1 x y:=by
 unfold rO at h
 simp only[Bool.and_eq_true]at h
 obtain⟨a1,a2⟩:=h
 refine⟨fun k hk=>?_,fun k hk=>?_,fun k hk=>?_⟩
 ·rw[hk]at a1;simp at a1;exact a1.1
 ·rw[hk]at a2;simpa using a2
 ·rw[hk]at a1;simp at a1;exact a1.2
theorem v8 {x y:bl} (h:v7 x y=true):(K1 x y/\x.op.cls=.pure)∨(AP x y/\kn x=true/\kn y=true):=by
 unfold v7 at h
 simp only[Bool.or_eq_true,Bool.and_eq_true,beq_iff_eq]at h
 rcases h with⟨h1,h2⟩|⟨⟨h1,h2⟩,h3⟩
 ·exact .inl ⟨qM h1,h2⟩
 ·exact .inr ⟨ph h1,h2,h3⟩
theorem zy {x y:bl} (h:v7 x y=true):kn x=true:=by
 rcases v8 h with h|h
 ·exact uq h.2
 ·exact h.2.1
theorem Fy (hK:oL X) {x y:bl} (hf:v7 x y=true) {N:Env->ax->Prop} {env:Env} {σ:ax} (h:step X x (fun e s=>step X y N e s) env σ):step X y (fun e s=>step X x N e s) env σ:=by
 rcases v8 hf with⟨F,hp⟩|⟨F,hx,hy⟩
 ·rw[rL hp]at h
  obtain⟨v,hx,h⟩:=h
  have Jb:=fun(v':AV)=>uN (env:=env) (v:=v) (u:=v') F.dst
  have sU:=lT (env:=env) (v:=v) F.xy
  have back:∀(v':AV),xv x (upd env y.dst v') v:=fun v'=>IT (fun t ht=>(lT F.yx t ht).symm) hx
  unfold step at h ⊢
  rw[mv sU]at h
  split at h
  ·rename_i hw
   rw[if_pos hw]
   refine AF hK (fun v' σ' hN=>?_) (FQ (fun t ht=>sU t (qE ht)) h)
   rw[Jb]at hN
   exact(rL hp).2 ⟨v,back v',hN⟩
  ·rename_i hw
   rw[if_neg hw]
   rw[Jb]at h
   exact(rL hp).2 ⟨v,back _,h⟩
 ·rw[k7 hx]at h
  obtain⟨v,g1,h1,h⟩:=h
  rw[k7 hy]at h
  obtain⟨v',g2,h2,h⟩:=h
  obtain⟨Jy,q1,q2,q3⟩:=CL F h1 h2
  rw[q3]at h
  exact(k7 hy).2 ⟨v',Jy,q1,(k7 hx).2 ⟨v,g2,q2,h⟩⟩
def yu (X:fv) (ops:Array Oper) (vl:List bl) (K:Env->ax->Prop):Nat->Array Bool->Env->ax->Prop
 |0,listed,env,σ=>Region.ready .any ops listed=[]/\K env ⟨σ.get,σ.next+1⟩
 |f+1,listed,env,σ=>(Region.ready .any ops listed=[]->K env ⟨σ.get,σ.next+1⟩)/\∀i∈Region.ready .any ops listed,∃vo,vl[i]? =some vo/\step X vo (fun e s=>yu X ops vl K f (listed.setIfInBounds i true) e s) env σ
theorem Bl {ops:Array Oper} {vl:List bl} {bs:Array Nat} {listed:Array Bool} {i:Nat} (h:pg ops vl bs listed i=true) (j:Nat):pg ops vl bs (listed.setIfInBounds j true) i=true:=by
 unfold pg at h ⊢
 split at h
 ·rename_i x hx
  simp only[List.all_eq_true,Bool.or_eq_true]at h ⊢
  intro k hk
  rcases h k hk with((h|h)|h)|h
  ·exact .inl (.inl (.inl (getD_set_true h)))
  ·exact .inl (.inl (.inr h))
  ·exact .inl (.inr h)
  ·exact .inr h
 ·cases h
theorem rY {ops:Array Oper} {vl:List bl} {listed:Array Bool} {i j:Nat} {vi:bl} (qQ:DC ops listed) (h:pg ops vl (jg ops) listed i=true) (hi:vl[i]? =some vi) (hr:i∈Region.ready .any ops listed) (hj:j∈Region.ready .any ops listed) (lU:j≠i):∃vj,vl[j]? =some vj/\v7 vi vj=true:=by
 unfold pg at h
 rw[hi]at h
 simp only[List.all_eq_true,Bool.or_eq_true,beq_iff_eq]at h
 obtain⟨_,o,ho,_⟩:=mem_ready.1 hj
 rcases h j (List.mem_range.2 (Array.getElem?_eq_some_iff.1 ho).1)with((h|h)|h)|h
 ·rw[iH hj]at h;cases h
 ·exact absurd h lU
 ·have:=ko qQ hj i h
  rw[iH hr]at this;cases this
 ·split at h
  ·rename_i y hy;exact⟨y,hy,h⟩
  ·cases h
theorem CK (hK:oL X) {ops:Array Oper} {vl:List bl} {K:Env->ax->Prop} {i:Nat} {vi:bl} (hi:vl[i]? =some vi):∀(fuel:Nat) (listed:Array Bool) (env:Env) (σ:ax),
  DC ops listed->i∈Region.ready .any ops listed->pg ops vl (jg ops) listed i=true->step X vi (fun e s=>yu X ops vl K fuel (listed.setIfInBounds i true) e s) env σ->yu X ops vl K (fuel+1) listed env σ:=by
 intro fuel
 induction fuel with
 |zero=>
  intro listed env σ qQ hr lr H
  refine⟨fun h=>(by rw[h]at hr;cases hr),fun j hj=>?_⟩
  by_cases lU:j=i
  ·subst lU;exact⟨vi,hi,H⟩
  ·obtain⟨vj,J1,PG⟩:=rY qQ lr hi hr hj lU
   rw[k7 (zy PG)]at H
   obtain⟨v,g',_,H⟩:=H
   have:=ready_mono hj lU
   rw[H.1]at this;cases this
 |succ fuel ih=>
  intro listed env σ qQ hr lr H
  refine⟨fun h=>(by rw[h]at hr;cases hr),fun j hj=>?_⟩
  by_cases lU:j=i
  ·subst lU;exact⟨vi,hi,H⟩
  ·obtain⟨vj,J1,PG⟩:=rY qQ lr hi hr hj lU
   refine⟨vj,J1,?_⟩
   have H2:step X vi (fun e s=>step X vj (fun e s=>yu X ops vl K fuel ((listed.setIfInBounds i true).setIfInBounds j true) e s) e s) env σ:=ju hK (fun e s h=>by
    obtain⟨vj',xL,h'⟩:=h.2 j (ready_mono hj lU)
    rw[J1]at xL;injection xL with xL;subst xL
    exact h') H
   refine ju hK (fun e s h=>?_) (Fy hK PG H2)
   refine ih _ _ _ (qQ.list hj) (ready_mono hr (fun e=>lU e.symm)) (Bl lr j) ?_
   rw[Array.setIfInBounds_comm _ _ lU]
   exact h
theorem rK {x:bl} (hg:x.guard=none) {N:Env->ax->Prop} {env:Env} {σ:ax}:step X x N env σ=fP X false x env σ (fun v σ'=>N (upd env x.dst v) σ'):=by
 unfold step
 rw[hg]
 simp[aM]
theorem Cw {x y:bl} {t s sz:Nat} {ys:O} (hx:x.op=.append sz (.t t) ys) (hg:x.guard=none) (hf:C5 s x y=true) {N:Env->ax->Prop} {env:Env} {σ:ax} (hl:Ki t s ys env σ.next) (h:step X x (fun e s=>step X y N e s) env σ):
  step X y (fun e σ'=>Ki t s ys e σ'.next/\step X x N e σ') env σ:=by
 unfold C5 at hf
 simp only[Bool.and_eq_true,bne_iff_ne]at hf
 obtain⟨⟨⟨⟨⟨f1,hq⟩,f3⟩,f4⟩,f5⟩,f6⟩:=hf
 have F:=qM f1
 obtain⟨⟨len,ht⟩,hsrc⟩:=hl
 have Hq:∀k∈x.op.fY,∀v',upd env y.dst v' k=env k:=fun k hk v'=>lT (env:=env) (v:=v') F.yx k (qE hk)
 have ev:t∈x.op.fY:=by rw[hx];simp[fR.fY,gu]
 have Dn:∀v',cE (upd env y.dst v') ys=cE env ys:=fun v'=>(aX fun k hk=>by rw[Hq k (by rw[hx];simp[fR.fY,hk])]).symm
 rw[rK hg]at h
 unfold fP at h
 simp only[hx,gh]at h
 have ex:cE env (.t t)=.own ⟨s,σ.next⟩ 0 len:=ht
 rw[ex]at h
 cases hr:bw σ.get (cE env ys)with
 |none=>rw[hr]at h;exact h.elim
 |some rs=>
  rw[hr]at h
  simp only[Option.bind_some,aY]at h
  cases He:σ.get ⟨s,σ.next⟩with
  |none=>rw[He]at h;exact h.elim
  |some r=>
   rw[He]at h
   simp only[Option.bind_some]at h
   split at h
   ·rename_i v g1 hv
    split at hv
    ·rename_i hcond
     simp only[Option.some.injEq,Prod.mk.injEq]at hv
     obtain⟨rfl,rfl⟩:=hv
     rw[k7 hq]at h
     obtain⟨v',g2,hG,hN⟩:=h
     have JR:(⟨y.site,σ.next⟩:Id)≠⟨s,σ.next⟩:=fun e=>f5 (by injection e)
     have Hj:(⟨y.site,σ.next⟩:Id)≠⟨x.site,σ.next⟩:=fun e=>f6 (by injection e)
     replace hG:GS X σ.next y env (bY (ck σ.get ⟨s,σ.next⟩) ⟨x.site,σ.next⟩ ⟨true,sz,r.rows++rs⟩) v' g2:=td (lT F.xy) hG
     have SU:ga y.hid σ.next σ.get=ga y.hid σ.next (bY (ck σ.get ⟨s,σ.next⟩) ⟨x.site,σ.next⟩ ⟨true,sz,r.rows++rs⟩):=by
      cases hh:y.hid with
      |nil=>rw[hh]at f3;simp at f3
      |cons a l=>
       rw[hh]at f3 f4
       funext i
       show(if (a::l).contains i.site=true/\i.cq=σ.next then none else σ.get i)=if (a::l).contains i.site=true/\i.cq=σ.next then none else _
       by_cases h1:i=⟨x.site,σ.next⟩
       ·subst h1;rw[if_pos ⟨f4,rfl⟩,if_pos ⟨f4,rfl⟩]
       ·by_cases h2:i=⟨s,σ.next⟩
        ·subst h2;rw[if_pos ⟨f3,rfl⟩,if_pos ⟨f3,rfl⟩]
        ·simp only[bY,ck,if_neg h1,if_neg h2]
     obtain⟨my,oF,hG'⟩:∃my,g2=iO (bY (ck σ.get ⟨s,σ.next⟩) ⟨x.site,σ.next⟩ ⟨true,sz,r.rows++rs⟩) ⟨y.site,σ.next⟩ my/\GS X σ.next y env σ.get v' (iO σ.get ⟨y.site,σ.next⟩ my):=by
      unfold GS at hG ⊢
      by_cases wy:aM y.guard env=true
      ·rw[if_pos wy]at hG
       have hcw:y.op.cls≠.write:=by
        unfold kn at hq
        simp only[Bool.and_eq_true,bne_iff_ne]at hq
        exact hq.2
       obtain⟨my,rfl,_,LO⟩:=tj hcw hG
       exact⟨my,rfl,by rw[if_pos wy];exact LO _ SU⟩
      ·rw[if_neg wy]at hG
       obtain⟨rfl,rfl⟩:=hG
       exact⟨none,rfl,by rw[if_neg wy];exact⟨rfl,rfl⟩⟩
     subst oF
     refine(k7 hq).2 ⟨v',_,hG',⟨⟨len,by rw[Hq t ev];exact ht⟩,fun id o l he=>hsrc id o l (by rw[<-Dn v'];exact he)⟩,?_⟩
     rw[rK hg]
     unfold fP
     have ex':cE (upd env y.dst v') (.t t)=.own ⟨s,σ.next⟩ 0 len:=by
      show upd env y.dst v' t= _
      rw[Hq t ev];exact ht
     simp only[hx,gh,ex',Dn v']
     have m3:bw (iO σ.get ⟨y.site,σ.next⟩ my) (cE env ys)=some rs:=by
      cases my with
      |none=>exact hr
      |some row=>
       revert hr
       cases hev:cE env ys<;>simp only[bw,iO]<;>try exact fun h=>h
       rename_i id o l
       have:id≠⟨y.site,σ.next⟩:=fun e=>hsrc id o l hev (by rw[e])
       simp only[bY,if_neg this];exact fun h=>h
     have Sn:iO σ.get ⟨y.site,σ.next⟩ my ⟨s,σ.next⟩=some r:=by
      cases my with
      |none=>exact He
      |some row=>simp only[iO,bY,if_neg (fun e=>JR e.symm:(⟨s,σ.next⟩:Id)≠⟨y.site,σ.next⟩)];exact He
     rw[m3]
     simp only[Option.bind_some,aY,Sn]
     rw[if_pos hcond]
     have hgg:bY (ck (iO σ.get ⟨y.site,σ.next⟩ my) ⟨s,σ.next⟩) ⟨x.site,σ.next⟩ ⟨true,sz,r.rows++rs⟩=iO (bY (ck σ.get ⟨s,σ.next⟩) ⟨x.site,σ.next⟩ ⟨true,sz,r.rows++rs⟩) ⟨y.site,σ.next⟩ my:=by
      cases my with
      |none=>rfl
      |some row=>
       funext i
       simp only[iO,bY,ck]
       by_cases h1:i=⟨y.site,σ.next⟩
       ·subst h1;rw[if_neg Hj,if_neg JR,if_pos rfl,if_pos rfl]
       ·simp only[if_neg h1]
     have hu:=uN (env:=env) (v:=AV.own ⟨x.site,σ.next⟩ 0 (len+rs.length)) (u:=v') F.dst
     show N (upd (upd env y.dst v') x.dst (.own ⟨x.site,σ.next⟩ 0 (len+rs.length))) ⟨bY (ck (iO σ.get ⟨y.site,σ.next⟩ my) ⟨s,σ.next⟩) ⟨x.site,σ.next⟩ ⟨true,sz,r.rows++rs⟩,σ.next⟩
     rw[hgg,<-hu]
     exact hN
    ·cases hv
   ·exact h.elim
theorem Bk {ops:Array Oper} {vl:List bl} {bs:Array Nat} {listed:Array Bool} {i s:Nat} (h:nD ops vl bs listed i s=true) (j:Nat):nD ops vl bs (listed.setIfInBounds j true) i s=true:=by
 unfold nD at h ⊢
 split at h
 ·rename_i x hx
  simp only[List.all_eq_true,Bool.or_eq_true]at h ⊢
  intro k hk
  rcases h k hk with((h|h)|h)|h
  ·exact .inl (.inl (.inl (getD_set_true h)))
  ·exact .inl (.inl (.inr h))
  ·exact .inl (.inr h)
  ·exact .inr h
 ·cases h
theorem zt {ops:Array Oper} {vl:List bl} {listed:Array Bool} {i j s:Nat} {vi:bl} (qQ:DC ops listed) (h:nD ops vl (jg ops) listed i s=true) (hi:vl[i]? =some vi) (hr:i∈Region.ready .any ops listed) (hj:j∈Region.ready .any ops listed) (lU:j≠i):∃vj,vl[j]? =some vj/\C5 s vi vj=true:=by
 unfold nD at h
 rw[hi]at h
 simp only[List.all_eq_true,Bool.or_eq_true,beq_iff_eq]at h
 obtain⟨_,o,ho,_⟩:=mem_ready.1 hj
 rcases h j (List.mem_range.2 (Array.getElem?_eq_some_iff.1 ho).1)with((h|h)|h)|h
 ·rw[iH hj]at h;cases h
 ·exact absurd h lU
 ·have:=ko qQ hj i h
  rw[iH hr]at this;cases this
 ·split at h
  ·rename_i y hy;exact⟨y,hy,h⟩
  ·cases h
theorem AG (hK:oL X) {ops:Array Oper} {vl:List bl} {K:Env->ax->Prop} {i t s sz:Nat} {ys:O} {vi:bl} (hi:vl[i]? =some vi) (hx:vi.op=.append sz (.t t) ys) (hg:vi.guard=none):∀(fuel:Nat) (listed:Array Bool) (env:Env) (σ:ax),
  DC ops listed->i∈Region.ready .any ops listed->nD ops vl (jg ops) listed i s=true->Ki t s ys env σ.next->step X vi (fun e s=>yu X ops vl K fuel (listed.setIfInBounds i true) e s) env σ->yu X ops vl K (fuel+1) listed env σ:=by
 intro fuel
 induction fuel with
 |zero=>
  intro listed env σ qQ hr lr Ol H
  refine⟨fun h=>(by rw[h]at hr;cases hr),fun j hj=>?_⟩
  by_cases lU:j=i
  ·subst lU;exact⟨vi,hi,H⟩
  ·exfalso
   have h0:=ready_mono hj lU
   rw[rK hg]at H
   unfold fP at H
   simp only[hx]at H
   split at H
   ·rw[H.1]at h0;cases h0
   ·exact H
 |succ fuel ih=>
  intro listed env σ qQ hr lr Ol H
  refine⟨fun h=>(by rw[h]at hr;cases hr),fun j hj=>?_⟩
  by_cases lU:j=i
  ·subst lU;exact⟨vi,hi,H⟩
  ·obtain⟨vj,J1,PG⟩:=zt qQ lr hi hr hj lU
   refine⟨vj,J1,?_⟩
   have H2:step X vi (fun e s=>step X vj (fun e s=>yu X ops vl K fuel ((listed.setIfInBounds i true).setIfInBounds j true) e s) e s) env σ:=ju hK (fun e s h=>by
    obtain⟨vj',xL,h'⟩:=h.2 j (ready_mono hj lU)
    rw[J1]at xL;injection xL with xL;subst xL
    exact h') H
   refine ju hK (fun e s h=>?_) (Cw hx hg PG Ol H2)
   refine ih _ _ _ (qQ.list hj) (ready_mono hr (fun e=>lU e.symm)) (Bk lr j) h.1 ?_
   rw[Array.setIfInBounds_comm _ _ lU]
   exact h.2
theorem HI {ops:Array Oper} {vl:List bl} {bs:Array Nat} {listed:Array Bool} {i i' t s:Nat} {y:O} {vo:bl} (h:Nb ops vl bs listed i=some (i',t,s,y,vo)):i'=i/\vl[i]? =some vo/\(∃sz,vo.op=.append sz (.t t) y)/\vo.guard=none/\nD ops vl bs listed i s=true:=by
 unfold Nb at h
 split at h
 ·rename_i x hx
  split at h
  ·rename_i t' s' y' jS
   split at h
   ·rename_i hf
    simp only[Option.some.injEq,Prod.mk.injEq]at h
    obtain⟨rfl,rfl,rfl,rfl,rfl⟩:=h
    unfold Lv at jS
    split at jS
    ·rename_i sz t2 y2 ho sS
     split at jS
     ·simp only[Option.some.injEq,Prod.mk.injEq]at jS
      obtain⟨rfl,rfl,rfl⟩:=jS
      exact⟨rfl,hx,⟨sz,ho⟩,sS,hf⟩
     ·cases jS
    ·cases jS
   ·cases h
  ·cases h
 ·cases h
theorem vP {X:fv} {Q:Ex->Env->ax->Prop} {env:Env} {σ:ax}:∀{l:List VC} {t:VC},yZ l=some t->ea X t Q env σ->∀c∈l,ea X c Q env σ
 |[],t,h,_,c,hc=>by cases hc
 |[c0],t,h,hw,c,hc=>by
  simp only[yZ,Option.some.injEq]at h
  subst h
  rw[List.mem_singleton]at hc
  subst hc;exact hw
 |c0::c1::r,t,h,hw,c,hc=>by
  simp only[yZ,Option.map_eq_some_iff]at h
  obtain⟨t',F2,rfl⟩:=h
  rcases List.mem_cons.1 hc with rfl|hc
  ·exact hw.1
  ·exact vP F2 hw.2 c hc
theorem mapM_mem {α β:Type} {f:α->Option β}:∀{l:List α} {r:List β},l.mapM f=some r->∀i∈l,∃b∈r,f i=some b
 |[],_,_,i,hi=>by cases hi
 |a::l,r,h,i,hi=>by
  simp only[List.mapM_cons,Option.bind_eq_bind,Option.bind_eq_some_iff,Option.pure_def,Option.some.injEq]at h
  obtain⟨b,hb,r',hr,rfl⟩:=h
  rcases List.mem_cons.1 hi with rfl|hi
  ·exact⟨b,by simp,hb⟩
  ·obtain⟨c,hc,hf⟩:=mapM_mem hr i hi
   exact⟨c,List.mem_cons_of_mem _ hc,hf⟩
theorem FN (hK:oL X) {ops:Array Oper} {vl:List bl} {Q:Ex->Env->ax->Prop}:∀(n:Nat) (listed:Array Bool) (t:VC) (env:Env) (σ:ax),uL ops vl (jg ops) n listed=some t->DC ops listed->ea X t Q env σ->yu X ops vl (Q .normal) n listed env σ:=by
 intro n
 induction n with
 |zero=>
  intro listed t env σ h _ hw
  unfold uL at h
  split at h
  ·rename_i hr
   simp only[Option.some.injEq]at h
   subst h
   exact⟨hr,hw⟩
  ·cases h
 |succ n ih=>
  intro listed t env σ h qQ hw
  unfold uL at h
  split at h
  ·rename_i hr
   simp only[Option.some.injEq]at h
   subst h
   exact⟨fun _=>hw,fun i hi=>by rw[hr]at hi;cases hi⟩
  ·rename_i r rs hr
   dsimp only at h
   split at h
   ·rename_i i hfind
    have JM:=List.mem_of_find?_eq_some hfind
    have we:=List.find?_some hfind
    rw[<-hr]at JM
    split at h
    ·rename_i vo oJ
     simp only[Option.map_eq_some_iff]at h
     obtain⟨t',F2,rfl⟩:=h
     exact CK hK oJ n listed env σ qQ JM we (ju hK (fun e s h=>ih _ _ _ _ F2 (qQ.list JM) h) hw)
    ·cases h
   ·split at h
    ·rename_i i t s y vo hfind
     obtain⟨i0,F1,dD⟩:=List.exists_of_findSome?_eq_some hfind
     obtain⟨rfl,oJ,⟨sz,dO⟩,sS,JJ⟩:=HI dD
     rw[<-hr]at F1
     simp only[Option.map_eq_some_iff]at h
     obtain⟨t',F2,rfl⟩:=h
     exact AG hK oJ dO sS n listed env σ qQ F1 JJ hw.1 (ju hK (fun e s h=>ih _ _ _ _ F2 (qQ.list F1) h) hw.2)
    split at h
    ·rename_i l hl
     have dk:=vP h hw
     refine⟨fun h=>(by rw[h]at hr;cases hr),fun i hi=>?_⟩
     rw[hr]at hi
     obtain⟨b,FX,FY⟩:=mapM_mem hl i hi
     simp only[Option.bind_eq_some_iff,Option.map_eq_some_iff]at FY
     obtain⟨vo,oJ,t',F2,rfl⟩:=FY
     exact⟨vo,oJ,ju hK (fun e s h=>ih _ _ _ _ F2 (qQ.list (by rw[hr];exact hi)) h) (dk _ FX)⟩
    ·cases h
theorem CH {ops:Array Oper} {vl:List bl} {nt site0:Nat} {draw mk:Bool} {bs:Array Nat} {hidden:List (Nat×Bool)} {K:Env->ax->Prop} {Q:Exit->Act->World->Prop} (dk:allM (lF P ops nt site0 draw mk bs hidden) ops.toList 0=some vl):
  ∀(fuel:Nat) (listed:Array Bool) (env:Env) (σ:ax) (a:Act) (w:World) (D:Nat->Prop) (ι:Names) (U:Nat->Prop),yu (Sound P) ops vl K fuel listed env σ->fZ P hs D ι σ.get w->Used ι σ.next U->(∀s,U s->∃i,s=site0+i/\listed.getD i false=true)->bI P w D ι env a->a.tmps.size=nt->
  (∀g9 σ' a' w' D' ι',K g9 σ'->Step hs D ι w D' ι' w'->St P hs nt D' ι' g9 σ' a' w'->a'.defers=a.defers->σ.next<=σ'.next->Q .normal a' w')->wpAny P .any ops Q fuel listed a w:=by
 intro fuel
 induction fuel with
 |zero=>intro listed env σ a w D ι U h S Us hU E fe hQ;exact⟨h.1,hQ env _ a w D ι h.2 (Step.refl _ _ _ _) ⟨S,Us.next,E,fe⟩ rfl (Nat.le_succ _)⟩
 |succ fuel ih=>
  intro listed env σ a w D ι U h S Us hU E fe hQ
  refine⟨fun hr=>hQ env _ a w D ι (h.1 hr) (Step.refl _ _ _ _) ⟨S,Us.next,E,fe⟩ rfl (Nat.le_succ _),fun i hi=>?_⟩
  obtain⟨vo,oJ,hG⟩:=h.2 i hi
  obtain⟨_,o,ho,_⟩:=mem_ready.1 hi
  obtain⟨vo',lI,Py⟩:=(nq dk).2 i o (by simpa using ho)
  rw[oJ]at lI;injection lI with lI;subst lI
  rw[Nat.zero_add]at Py
  obtain⟨hc,hd,zR,vd,hg⟩:=n9 Py
  have hw:=rQ (ops:=ops) (vo:=vo) E hg
  have R5:¬U vo.site:=fun hu=>by
   obtain⟨i',he,hl⟩:=hU _ hu
   have:i'=i:=ab
   subst this
   rw[iH hi]at hl;cases hl
  have jh:i<listed.size:=by
   have h0:=(mem_ready.1 hi).1
   rcases Nat.lt_or_ge i listed.size with h|h
   ·exact h
   ·simp[Array.getElem?_eq_none h]at h0
  unfold wpOp
  simp only[ho]
  rw[<-hw]
  unfold step at hG
  by_cases EK:aM vo.guard env=true
  ·rw[if_pos EK]
   rw[if_pos EK]at hG
   refine .inl (wS hc hG S Us R5 E fun v σ' u D' ι' w' hn T S' hR U' hle=>?_)
   refine ih _ _ _ _ w' D' ι' _ hn S' U' (fun s zO=>?_) (by rw[hd];exact l7 (nC E T) hR vd fe) (by rw[km];exact fe) fun g9 σ2 a2 w2 D2 ι2 hk T2 MX BD mb=>hQ g9 σ2 a2 w2 D2 ι2 hk (T.trans T2) MX (BD.trans (put_defers _ _ _)) (Nat.le_trans hle mb)
   rcases zO with h|h
   ·obtain⟨i',he,hl⟩:=hU _ h
    exact⟨i',he,getD_set_true hl⟩
   ·exact⟨i,by rw[h,zR],by simp[jh]⟩
  ·rw[if_neg EK]
   rw[if_neg EK]at hG
   refine ih _ _ _ _ w D ι U hG S Us (fun s zO=>?_) (by rw[hd];exact l7 E cG.undef vd fe) (by rw[km];exact fe) fun g9 σ2 a2 w2 D2 ι2 hk T2 MX BD mb=>hQ g9 σ2 a2 w2 D2 ι2 hk T2 MX (BD.trans (put_defers _ _ _)) mb
   obtain⟨i',he,hl⟩:=hU _ zO
   exact⟨i',he,getD_set_true hl⟩
end
end Go.Proofs.YtihgaadadaekmaaGreatDoor.V

namespace Go.Proofs.YtihgaadadaekmaaGreatDoor.V
open Go.RowKit
variable {P:Program} {w w':World} {D D' D2:Nat->Prop} {ι ι' ι2:Names}
def AH (P:Program) (c:Code) (Q:Exit->Act->World->Prop) (a:Act) (w:World):Prop:=
 ∀(b:Frame) (k:List Item) (cs:List Frame),b.kind≠.early->∃e a' w',Q e a' w'/\Arrives P (lone (b.at a (.code c::k)) cs w) b k cs e a' w'
section
variable {Q:Exit->Act->World->Prop} {a:Act}
theorem pB {c:Code} (h:c.wp P Q a w):AH P c Q a w:=fun b k cs _=>h b k cs
theorem Kr {x y:Code} (h:AH P x (Exit.then (AH P y Q) Q) a w):AH P (.seq x y) Q a w:=by
 intro b k cs hb
 obtain⟨e,a1,w1,hq,hZ⟩:=h b (.code y::k) cs hb
 by_cases he:e=.normal
 ·subst he
  obtain⟨e2,a2,w2,oj,G4⟩:=hq b k cs hb
  exact⟨e2,a2,w2,oj,.of_steps (.head step_seq hZ) G4⟩
 ·refine⟨e,a1,w1,?_,.of_steps (.one step_seq) (.pass (x:=.code y) rfl (fun _ _=>.inl he) hZ)⟩
  cases e<;>first|exact absurd rfl he|exact hq
theorem H4 {c:Operand} {x y:Code} {t:Bool} (hc:a.eval c=.bool t) (h:AH P (if t then x else y) Q a w):AH P (.cond c x y) Q a w:=
 fun b k cs hb=>let ⟨e,a',w',q,r⟩:=h b k cs hb;⟨e,a',w',q,.of_steps (.one (step_cond hc)) r⟩
theorem Fj {id:Nat} {c:Code} (h:AH P c (Exit.inBlock id Q) a w):AH P (.block id c) Q a w:=by
 intro b k cs hb
 obtain⟨e,a1,w1,hq,hZ⟩:=h b (.inBlock id::k) cs hb
 cases e with
 |normal=>exact⟨.normal,a1,w1,hq,.head step_block (Steps.trans hZ (.one step_inBlock))⟩
 |exit kg=>
  by_cases hid:kg=id
  ·simp only[Exit.inBlock,hid,if_true]at hq
   exact⟨.normal,a1,w1,hq,.head step_block (hZ k (by simp[exitTo,hid]))⟩
  ·simp only[Exit.inBlock,hid,if_false]at hq
   exact⟨.exit kg,a1,w1,hq,fun k' hk=>.head step_block (hZ k' (by simp[exitTo,Ne.symm hid,hk]))⟩
 |goto l=>exact⟨_,a1,w1,hq,fun k' hk=>.head step_block (hZ k' (by simp[gotoIn,hk]))⟩
 |ret=>exact⟨_,a1,w1,hq,.of_steps (.one step_block) hZ⟩
 |panic ch=>exact⟨_,a1,w1,hq,.of_steps (.one step_block) hZ⟩
 |outgrown=>exact⟨_,a1,w1,hq,.of_steps (b:=b) (k:=k) (cs:=cs) (e:=.outgrown) (.one step_block) hZ⟩
theorem Fk {c:Code} (h:AH P c (Exit.noGoto Q) a w):AH P (.scope c) Q a w:=by
 intro b k cs hb
 obtain⟨e,a1,w1,hq,hZ⟩:=h b (.inScope c::k) cs hb
 cases e with
 |normal=>exact⟨.normal,a1,w1,hq,.head step_scope (Steps.trans hZ (.one step_inScope))⟩
 |exit id=>exact⟨.exit id,a1,w1,hq,fun k' hk=>.head step_scope (hZ k' (by simp[exitTo,hk]))⟩
 |goto l=>exact hq.elim
 |ret=>exact⟨_,a1,w1,hq,.of_steps (.one step_scope) hZ⟩
 |panic ch=>exact⟨_,a1,w1,hq,.of_steps (.one step_scope) hZ⟩
 |outgrown=>exact⟨_,a1,w1,hq,.of_steps (b:=b) (k:=k) (cs:=cs) (e:=.outgrown) (.one step_scope) hZ⟩
def sY (P:Program) (c:Code) (Q:Exit->Act->World->Prop):Nat->Act->World->Prop
 |0=>fun _ _=>False
 |n+1=>AH P c (Exit.then (sY P c Q n) Q)
theorem H5 {c:Code} (n:Nat) (h:sY P c Q n a w):AH P (.loop c) Q a w:=by
 intro b k cs hb
 have key:∀n a w,sY P c Q n a w->∃e a' w',Q e a' w'/\Arrives P (lone (b.at a (.code c::.inLoop c::k)) cs w) b k cs e a' w':=by
  intro n
  induction n with
  |zero=>intro a w h;exact h.elim
  |succ n ih=>
   intro a w h
   obtain⟨e,a1,w1,hq,hZ⟩:=h b (.inLoop c::k) cs hb
   by_cases he:e=.normal
   ·subst he
    obtain⟨e2,a2,w2,oj,G4⟩:=ih a1 w1 hq
    exact⟨e2,a2,w2,oj,.of_steps (Steps.trans hZ (.one step_inLoop)) G4⟩
   ·refine⟨e,a1,w1,?_,.pass (x:=.inLoop c) rfl (fun _ _=>.inl he) hZ⟩
    cases e<;>first|exact absurd rfl he|exact hq
 obtain⟨e,a',w',hq,hZ⟩:=key n a w h
 exact⟨e,a',w',hq,.of_steps (.one step_loop) hZ⟩
theorem xd {f:FuncId} {fn:Func} {c:Code} {args:Array Value} {R:Ending->World->Prop} (hf:P.funcs[f]? =some fn) (hb:fn.body=some c)
  (h:AH P c (bodyPost P fn R) {tmps:=args++Array.replicate (fn.ntmps-args.size) undef,defers:=[]} w):Calls P f args w R:=by
 intro cs
 have Mx:Frame.enter P f args .normal=({(default:Frame)with fn:=f,kind:=.normal}:Frame).at {tmps:=args++Array.replicate (fn.ntmps-args.size) undef,defers:=[]} [.code c]:=by simp[Frame.enter,Frame.at,hf,hb]
 obtain⟨e,a',w',hq,hZ⟩:=h {(default:Frame)with fn:=f,kind:=.normal} [] cs (by simp)
 rw[<-Mx]at hZ
 cases e with
 |normal=>obtain⟨hd,v,hr,hR⟩:=hq;exact⟨.returned v,w',_,hR,Steps.trans hZ (.one step_end),rfl,rfl,hd,rfl,fn,hf,hr⟩
 |ret=>obtain⟨hd,v,hr,hR⟩:=hq;obtain⟨todo,hs⟩:=hZ;exact⟨.returned v,w',_,hR,hs,rfl,rfl,hd,rfl,fn,hf,hr⟩
 |panic chain=>obtain⟨hd,hR⟩:=hq;obtain⟨todo,hs⟩:=hZ;exact⟨.panicked chain,w',_,hR,hs,rfl,rfl,hd,fn,hf⟩
 |exit id=>exact hq.elim
 |goto l=>exact hq.elim
 |outgrown=>exact⟨.outgrown,w',{(default:Frame)with fn:=f,kind:=.normal},hq,hZ.resolve_left (by simp),rfl,trivial⟩
def uU (P:Program) (ops:Array Oper) (Q:Exit->Act->World->Prop) (l:List Nat) (a:Act) (w:World):Prop:=
 ∀(b:Frame) (k:List Item) (cs:List Frame),b.kind≠.early->∃e a' w',Q e a' w'/\Arrives P (lone (b.at a (.inRegion ops l::k)) cs w) b k cs e a' w'
theorem Ce {id:Nat} {ops:Array Oper} (h:uU P ops Q (List.range ops.size) a w):AH P (.region id ops false) Q a w:=
 fun b k cs hb=>let ⟨e,a',w',q,r⟩:=h b k cs hb;⟨e,a',w',q,.of_steps (.one step_region) r⟩
theorem Nl {ops:Array Oper} (h:Q .normal a w):uU P ops Q [] a w:=fun _ _ _ _=>⟨.normal,a,w,h,.one step_region_end⟩
theorem nW {o:Oper} {ys:Nat->Option Bool} (h:o.guard=none):Region.wanted o ys=true:=by simp[Region.wanted,h]
theorem Ib {ops:Array Oper} {i:Nat} {rest:List Nat} {o:Oper} {v:Value} (ho:ops[i]? =some o) (hg:o.guard=none) (hr:(execOp a.eval o).run P w=.ok (.value v) w') (h:uU P ops Q rest (a.put o.dst v) w'):uU P ops Q (i::rest) a w:=by
 intro b k cs hb
 obtain⟨e,a',w2,hq,hZ⟩:=h b k cs hb
 refine⟨e,a',w2,hq,.of_steps (.one ?_) hZ⟩
 have rn:(b.at a (.inRegion ops (i::rest)::k)).finish v=b.at (a.put o.dst v) (.inRegion ops rest::k):=by rw[Frame.finish_at,ho];rfl
 rw[<-rn]
 refine step_lone_go ?_
 have h2:=stepG_op (P:=P) (b:=b) (k:=k) (cs:=cs) (w:=w) (rest:=rest) ho (nW hg (ys:=yielded ops a.tmps))
 rw[h2];simp[stepG.apply,hr]
theorem Ky {ops:Array Oper} {i:Nat} {rest:List Nat} {o:Oper} {v z:Value} {c cap s r:Nat} {buf:Array Value} (ho:ops[i]? =some o) (hg:o.guard=none) (hr:(execOp a.eval o).run P w=.ok (.comm #[Conc.scase c v z] true .send) w)
  (hc:w.heap[c]? =some (.chan cap buf false s r false)) (fA:buf.size<cap) (h:uU P ops Q rest (a.put o.dst undef) (w.setChan c cap (buf.push v) false (s+1) r false)):uU P ops Q (i::rest) a w:=by
 intro b k cs hb
 obtain⟨e,a',w2,hq,hZ⟩:=h b k cs hb
 refine⟨e,a',w2,hq,.of_steps (.one ?_) hZ⟩
 have rn:(b.at a (.inRegion ops (i::rest)::k)).finish undef=b.at (a.put o.dst undef) (.inRegion ops rest::k):=by rw[Frame.finish_at,ho];rfl
 rw[<-rn,Conc.lone_eq_solo,Conc.lone_eq_solo]
 exact Conc.step_lone_send_room (Conc.stepG_comm ho (nW hg) hb hr) hc fA
theorem Kx {ops:Array Oper} {i:Nat} {rest:List Nat} {o:Oper} {z:Value} {c cap s r:Nat} {buf:Array Value} (ho:ops[i]? =some o) (hg:o.guard=none) (hr:(execOp a.eval o).run P w=.ok (.comm #[Conc.rcase c z] true (.recv false)) w)
  (hc:w.heap[c]? =some (.chan cap buf false s r false)) (Hr:0<buf.size) (h:uU P ops Q rest (a.put o.dst (buf.getD 0 undef)) (w.setChan c cap (buf.extract 1 buf.size) false s (r+1) false)):uU P ops Q (i::rest) a w:=by
 intro b k cs hb
 obtain⟨e,a',w2,hq,hZ⟩:=h b k cs hb
 refine⟨e,a',w2,hq,.of_steps (.one ?_) hZ⟩
 have rn:(b.at a (.inRegion ops (i::rest)::k)).finish (buf.getD 0 undef)=b.at (a.put o.dst (buf.getD 0 undef)) (.inRegion ops rest::k):=by rw[Frame.finish_at,ho];rfl
 rw[<-rn,Conc.lone_eq_solo,Conc.lone_eq_solo]
 exact Conc.step_lone_recv_buf false (Conc.stepG_comm ho (nW hg) hb hr) hc Hr
end
section
variable {hs:Nat} {g:Rows} {env:Env} {a:Act} {o:Oper}
theorem J9 {x y:O} (hc:pH P o.op=some (.snd x y)):∃x' y',o.op=.send x' y'/\cO P x'=some x/\cO P y'=some y:=by
 unfold pH at hc
 split at hc
 case h_25=>
  rename_i x' y' h
  simp only[Option.bind_eq_bind,Option.bind_eq_some_iff,Option.pure_def,Option.some.injEq,fR.snd.injEq]at hc
  obtain⟨p,h1,q,h2,rfl,rfl⟩:=hc
  exact⟨_,_,h,h1,h2⟩
 all_goals (try unfold mK at hc)<;>(try unfold tn at hc)<;>(try unfold qY at hc)<;>(repeat' (split at hc))<;>(simp only[Option.bind_eq_bind,Option.bind_eq_some_iff,Option.pure_def,Option.some.injEq,Option.map_eq_some_iff,reduceCtorEq,and_false,exists_false]at hc)
theorem J8 {x:O} (hc:pH P o.op=some (.Nq x)):∃t dir e i z x',o.op=.recv t x' false/\P.underlying t=some (.chan dir e)/\P.info? e=some i/\i.zero=some z/\cO P x'=some x:=by
 unfold pH at hc
 split at hc
 case h_26=>
  rename_i t x' h
  split at hc
  ·rename_i dir e ht
   split at hc
   ·rename_i z hz
    simp only[Option.bind_eq_some_iff]at hz
    obtain⟨i,hi,hz⟩:=hz
    simp only[Option.map_eq_some_iff,fR.Nq.injEq]at hc
    obtain⟨p,h1,rfl⟩:=hc
    exact⟨t,dir,e,i,z,x',h,ht,hi,hz,h1⟩
   ·cases hc
  ·cases hc
 all_goals (try unfold mK at hc)<;>(try unfold tn at hc)<;>(try unfold qY at hc)<;>(repeat' (split at hc))<;>(simp only[Option.bind_eq_bind,Option.bind_eq_some_iff,Option.pure_def,Option.some.injEq,Option.map_eq_some_iff,reduceCtorEq,and_false,exists_false]at hc)
theorem OV {x y:O} {g':Rows} (S:fZ P hs D ι g w) (hc:pH P o.op=some (.snd x y)) (E:bI P w D ι env a) (hv:eu g (cE env x) (cE env y)=some g'):
  ∃c cap s r buf u,(execOp a.eval o).run P w=.ok (.comm #[Conc.scase c u (.tuple #[])] true .send) w/\w.heap[c]? =some (.chan cap buf false s r false)/\buf.size<cap/\fZ P hs D ι g' (w.setChan c cap (buf.push u) false (s+1) r false)/\Step hs D ι w D ι (w.setChan c cap (buf.push u) false (s+1) r false):=by
 obtain⟨x',y',ho,hx,hy⟩:=J9 hc
 have rx:=cK E hx
 have ry:=cK E hy
 unfold eu at hv
 split at hv
 ·rename_i i he
  simp only[Option.bind_eq_some_iff]at hv
  obtain⟨r,hg,hv⟩:=hv
  split at hv
  ·rename_i hcond
   simp only[Option.some.injEq]at hv
   subst hv
   obtain⟨B,c,hu,hB,hk,fe,buf,s,q,hb,IY,hR⟩:=xe S rx he hg
   obtain⟨B',dx,RR,_⟩:=S.row i r hg
   rw[hB]at dx;injection dx with dx;subst dx
   have mU:=S.FO (ob:=.chan c (buf.push (a.eval y')) false (s+1) q false) (r':={r with rows:=r.rows++[[cE env y]]}) hg hcond.1 hB fun hr kf=>⟨RR.sz,fun cs dq=>?_,fun h0=>(by rw[hk]at h0;cases h0),fun m hm=>(by rw[hk]at hm;cases hm),fun c' kd=>?_⟩
   ·exact⟨B.b,c,s,q,buf,a.eval y',by simp[execOp,ho,hu,Conc.scase],hb,by rw[IY];omega,mU.1,mU.2⟩
   ·rcases List.mem_append.1 dq with h|h
    ·exact RR.flat cs h
    ·rw[List.mem_singleton.1 h]
     intro b rm
     rw[List.mem_singleton.1 rm];exact hcond.2.2
   ·rw[hk]at kd
    simp only[Option.some.injEq,BK.chan.injEq]at kd
    subst kd
    refine⟨fe,_,_,_,kf,by simp[IY],fun j cs hj=>?_⟩
    rw[List.getElem?_append]at hj
    split at hj
    ·rename_i dD
     obtain⟨b,u,q1,q2,q3⟩:=hR j cs hj
     refine⟨b,u,q1,?_,hr _ _ q3⟩
     rw[Array.getElem?_push,if_neg ab];exact q2
    ·rename_i jx
     have gL:j=r.rows.length:=by
      have:=(List.getElem?_eq_some_iff.1 hj).1
      simp at this;omega
     subst gL
     simp at hj
     subst hj
     exact⟨_,_,rfl,by rw[Array.getElem?_push,if_pos IY.symm],hr _ _ ry⟩
  ·cases hv
 ·cases hv
theorem OU {x:O} {g':Rows} {v:AV} (S:fZ P hs D ι g w) (hc:pH P o.op=some (.Nq x)) (E:bI P w D ι env a) (hv:er g (cE env x)=some (v,g')):
  ∃c cap s r buf z,(execOp a.eval o).run P w=.ok (.comm #[Conc.rcase c z] true (.recv false)) w/\w.heap[c]? =some (.chan cap buf false s r false)/\0<buf.size/\fZ P hs D ι g' (w.setChan c cap (buf.extract 1 buf.size) false s (r+1) false)/\Step hs D ι w D ι (w.setChan c cap (buf.extract 1 buf.size) false s (r+1) false)/\cG P (w.setChan c cap (buf.extract 1 buf.size) false s (r+1) false) D ι v (buf.getD 0 undef):=by
 obtain⟨t,dir,e,i0,z,x',ho,ht,hi,hz,hx⟩:=J8 hc
 have rx:=cK E hx
 unfold er at hv
 split at hv
 ·rename_i i he
  simp only[Option.bind_eq_some_iff]at hv
  obtain⟨r,hg,hv⟩:=hv
  split at hv
  ·rename_i v' rest qe
   split at hv
   ·rename_i hcond
    simp only[Option.some.injEq,Prod.mk.injEq]at hv
    obtain⟨rfl,rfl⟩:=hv
    obtain⟨B,c,hu,hB,hk,fe,buf,s,q,hb,IY,hR⟩:=xe S rx he hg
    obtain⟨B',dx,RR,_⟩:=S.row i r hg
    rw[hB]at dx;injection dx with dx;subst dx
    obtain⟨b0,u0,q1,q2,q3⟩:=hR 0 [v'] (by rw[qe];rfl)
    simp only[List.cons.injEq,and_true]at q1
    subst q1
    have lf:0<buf.size:=by rw[IY,qe];simp
    have JZ:buf.getD 0 undef=u0:=by rw[Array.getD_eq_getD_getElem?,q2];rfl
    have mU:=S.FO (ob:=.chan c (buf.extract 1 buf.size) false s (q+1) false) (r':={r with rows:=rest}) hg hcond hB fun hr kf=>⟨RR.sz,fun cs dq=>RR.flat cs (by rw[qe];exact List.mem_cons_of_mem _ dq),fun h0=>(by rw[hk]at h0;cases h0),fun m hm=>(by rw[hk]at hm;cases hm),fun c' kd=>?_⟩
    ·refine⟨B.b,c,s,q,buf,z,?_,hb,lf,mU.1,mU.2,?_⟩
     ·have tY:(zeroValue e).run P w=.ok z w:=by simp[zeroValue,typeInfo,hi,hz]
      simp[execOp,ho,hu,Conc.rcase,run_underlying ht,tY]
     ·rw[JZ];exact mU.2.rep q3
    ·rw[hk]at kd
     simp only[Option.some.injEq,BK.chan.injEq]at kd
     subst kd
     refine⟨fe,_,_,_,kf,by simp[IY,qe],fun j cs hj=>?_⟩
     obtain⟨b,u,k1,k2,k3⟩:=hR (j+1) cs (by rw[qe];simpa using hj)
     refine⟨b,u,k1,?_,hr _ _ k3⟩
     have dD:=(Array.getElem?_eq_some_iff.1 k2).1
     rw[Array.getElem?_extract,if_pos ab,Nat.add_comm 1 j];exact k2
   ·cases hv
  ·cases hv
 ·cases hv
theorem Ef {ops:Array Oper} {nt site0:Nat} {K:Env->ax->Prop} {Q:Exit->Act->World->Prop}:∀(l:List Oper) (vl:List bl) (j:Nat) (env:Env) (σ:ax) (a:Act) (w:World) (D:Nat->Prop) (ι:Names),
  ops.toList.drop j=l->allM (lF P ops nt site0 false false #[] []) l j=some vl->cw vl K env σ->fZ P hs D ι σ.get w->Used ι σ.next (fun _=>False)->bI P w D ι env a->a.tmps.size=nt->
  (∀g9 σ' a' w' D' ι',K g9 σ'->Step hs D ι w D' ι' w'->St P hs nt D' ι' g9 σ' a' w'->a'.defers=a.defers->σ.next<=σ'.next->Q .normal a' w')->uU P ops Q (List.range' j l.length) a w:=by
 intro l
 induction l with
 |nil=>
  intro vl j env σ a w D ι _ h hv S Us E fe hQ
  simp[allM]at h;subst h
  exact Nl (hQ env ⟨σ.get,σ.next+1⟩ a w D ι hv (Step.refl _ _ _ _) ⟨S,Us.next,E,fe⟩ rfl (Nat.le_succ _))
 |cons o l ih=>
  intro vl j env σ a w D ι hl h hv S Us E fe hQ
  simp only[allM,Option.bind_eq_bind,Option.bind_eq_some_iff,Option.pure_def,Option.some.injEq]at h
  obtain⟨vo,oJ,rP,qS,rfl⟩:=h
  obtain⟨hc,hd,zR,vd,hg⟩:=n9 oJ
  obtain⟨Mz,hv⟩:=hv
  have SE:o.guard=none:=by
   split at hg
   ·assumption
   ·obtain⟨t,_,h⟩:=hg
    rw[Mz]at h;cases h
  have SF:ops[j]? =some o:=by
   have h0:=congrArg (fun x=>x[0]?) hl
   rw[<-Array.getElem?_toList]
   simpa[List.getElem?_drop]using h0
  have I5:ops.toList.drop (j+1)=l:=by rw[<-List.drop_drop,hl];rfl
  have go:∀(v:AV) (u:Value) (g2:Rows) (w2:World),cw rP K (upd env vo.dst v) ⟨g2,σ.next⟩->fZ P hs D ι g2 w2->Step hs D ι w D ι w2->cG P w2 D ι v u->uU P ops Q (List.range' (j+1) l.length) (a.put o.dst u) w2:=fun v u g2 w2 hn S2 T hR=>
   ih rP (j+1) (upd env vo.dst v) ⟨g2,σ.next⟩ (a.put o.dst u) w2 D ι I5 qS hn S2 Us (by rw[hd];exact l7 (nC E T) hR vd fe) (by rw[km];exact fe) fun g9 σ2 a' w3 D3 ι3 hk T2 OL BD mb=>hQ g9 σ2 a' w3 D3 ι3 hk (T.trans T2) OL (BD.trans (put_defers _ _ _)) mb
  rw[show List.range' j (o::l).length=j::List.range' (j+1) l.length from rfl]
  split at hv
  ·rename_i x y dO
   split at hv
   ·rename_i g2 yG
    rw[dO]at hc
    obtain⟨c,cap,s,r,buf,u,gT,hb,fA,S2,T⟩:=OV S hc E yG
    exact Ky SF SE gT hb fA (go _ _ _ _ hv S2 T cG.undef)
   ·exact hv.elim
  ·rename_i x dO
   split at hv
   ·rename_i v g2 yG
    rw[dO]at hc
    obtain⟨c,cap,s,r,buf,z,gT,hb,Hr,S2,T,hR⟩:=OU S hc E yG
    exact Kx SF SE gT hb Hr (go _ _ _ _ hv S2 T hR)
   ·exact hv.elim
  ·split at hv
   ·rename_i v hq
    obtain⟨u,gT,hR⟩:=wM hc hq S E
    exact Ib SF SE gT (go _ _ _ _ hv S (Step.refl _ _ _ _) hR)
   ·exact hv.elim
end
end Go.Proofs.YtihgaadadaekmaaGreatDoor.V

namespace Go.Proofs.YtihgaadadaekmaaGreatDoor.V
open Go.RowKit
variable {P:Program} {w w':World} {D D' D2:Nat->Prop} {ι ι' ι2:Names}
section
variable {hs:Nat} {X:fv}
def exO:Ex->Exit
 | .normal=>.normal
 | .exit id=>.exit id
 | .ret=>.ret
theorem St.drew {nt:Nat} {env:Env} {σ:ax} {a:Act} {D:Nat->Prop} {ι:Names} (h:St P hs nt D ι env σ a w):St P hs nt D ι env σ a w.drew/\Step hs D ι w D ι w.drew:=by
 have T:Step hs D ι w D ι w.drew:=Step.stay h.Jc (fun _ _=>rfl) (Nat.le_refl _) rfl rfl rfl (fun _ h=>h) (fun _ h=>.inl h) (fun _ _ h=>h)
 exact⟨⟨h.Jc.stay (fun _ _=>rfl) (Nat.le_refl _) (fun _ h=>h) h.Jc.dead (fun _ h=>.inl h) (fun _ _ h=>h),h.used,nC h.env T,h.size⟩,T⟩
def vI (P:Program) (hs nt:Nat) (ds:List Deferred) (Q:Ex->Env->ax->Prop) (n0:Nat) (D:Nat->Prop) (ι:Names) (w:World) (Q':Exit->Act->World->Prop):Prop:=
 ∀ex env σ a w' D' ι',Q ex env σ->Step hs D ι w D' ι' w'->St P hs nt D' ι' env σ a w'->a.defers=ds->n0<=σ.next->Q' (exO ex) a w'
theorem vI.later {nt:Nat} {ds:List Deferred} {Q:Ex->Env->ax->Prop} {n0 n1:Nat} {Q':Exit->Act->World->Prop} (h:vI P hs nt ds Q n0 D ι w Q') (T:Step hs D ι w D' ι' w') (hn:n0<=n1):vI P hs nt ds Q n1 D' ι' w' Q':=
 fun ex env σ a w2 D2 ι2 hq T2 ev hd hle=>h ex env σ a w2 D2 ι2 hq (T.trans T2) ev hd (Nat.le_trans hn hle)
theorem Bb (hm:P.follows .mixedOrders=true) {md:List (Nat×Nat)} {nt tC:Nat}:∀(c:Code) (vc:VC),iF P md nt tC c=some vc->∀(Q:Ex->Env->ax->Prop) (env:Env) (σ:ax) (a:Act) (w:World) (D:Nat->Prop) (ι:Names) (Q':Exit->Act->World->Prop),
  ea (Sound P) vc Q env σ->St P hs nt D ι env σ a w->vI P hs nt a.defers Q σ.next D ι w Q'->AH P c Q' a w:=by
 intro c
 induction c with
 |skip=>
  intro vc h Q env σ a w D ι Q' hv ev hQ
  simp[iF]at h;subst h
  exact pB <| wp_skip (hQ .normal env σ a w D ι hv (Step.refl _ _ _ _) ev rfl (Nat.le_refl _))
 |exit id=>
  intro vc h Q env σ a w D ι Q' hv ev hQ
  simp[iF]at h;subst h
  exact pB <| wp_exit (hQ (.exit id) env σ a w D ι hv (Step.refl _ _ _ _) ev rfl (Nat.le_refl _))
 |ret=>
  intro vc h Q env σ a w D ι Q' hv ev hQ
  simp[iF]at h;subst h
  exact pB <| wp_ret (hQ .ret env σ a w D ι hv (Step.refl _ _ _ _) ev rfl (Nat.le_refl _))
 |seq x y ihx ihy=>
  intro vc h Q env σ a w D ι Q' hv ev hQ
  simp only[iF,Option.bind_eq_bind,Option.bind_eq_some_iff,Option.pure_def,Option.some.injEq]at h
  obtain⟨vx,hx,vy,hy,rfl⟩:=h
  refine Kr (ihx vx hx _ env σ a w D ι _ hv ev fun ex jF σ1 a1 w1 D1 ι1 hq T jY hd hle=>?_)
  cases ex with
  |normal=>exact ihy vy hy Q jF σ1 a1 w1 D1 ι1 Q' hq jY (by rw[hd];exact hQ.later T hle)
  |exit id=>exact hQ (.exit id) jF σ1 a1 w1 D1 ι1 hq T jY hd hle
  |ret=>exact hQ .ret jF σ1 a1 w1 D1 ι1 hq T jY hd hle
 |cond c x y ihx ihy=>
  intro vc h Q env σ a w D ι Q' hv ev hQ
  simp only[iF,Option.bind_eq_bind,Option.bind_eq_some_iff,Option.pure_def,Option.some.injEq]at h
  obtain⟨c',hc,vx,hx,vy,hy,rfl⟩:=h
  unfold ea at hv
  have hr:=cK ev.env hc
  split at hv
  ·rename_i b hb
   rw[hb]at hr
   refine H4 (eQ hr) ?_
   cases b with
   |true=>exact ihx vx hx Q env σ a w D ι Q' hv ev hQ
   |false=>exact ihy vy hy Q env σ a w D ι Q' hv ev hQ
  ·exact hv.elim
 |block id c ih=>
  intro vc h Q env σ a w D ι Q' hv ev hQ
  simp only[iF,Option.map_eq_some_iff]at h
  obtain⟨vx,hx,rfl⟩:=h
  refine Fj (ih vx hx _ env σ a w D ι _ hv ev fun ex jF σ1 a1 w1 D1 ι1 hq T jY hd hle=>?_)
  cases ex with
  |normal=>exact hQ .normal jF σ1 a1 w1 D1 ι1 hq T jY hd hle
  |ret=>exact hQ .ret jF σ1 a1 w1 D1 ι1 hq T jY hd hle
  |exit kg=>
   simp only[bu]at hq
   simp only[exO,Exit.inBlock]
   by_cases hid:kg=id
   ·rw[if_pos hid]at hq ⊢;exact hQ .normal jF σ1 a1 w1 D1 ι1 hq T jY hd hle
   ·rw[if_neg hid]at hq ⊢;exact hQ (.exit kg) jF σ1 a1 w1 D1 ι1 hq T jY hd hle
 |loop c ih=>
  intro vc h Q env σ a w D ι Q' hv ev hQ
  simp only[iF,Option.map_eq_some_iff]at h
  obtain⟨vx,hx,rfl⟩:=h
  obtain⟨n,hv⟩:=hv
  refine H5 n ?_
  have key:∀n env σ a w D ι,Dt (ea (Sound P) vx) Q n env σ->St P hs nt D ι env σ a w->vI P hs nt a.defers Q σ.next D ι w Q'->sY P c Q' n a w:=by
   intro n
   induction n with
   |zero=>intro env σ a w D ι h;exact h.elim
   |succ n ihn=>
    intro env σ a w D ι h ev hQ
    refine ih vx hx _ env σ a w D ι _ h ev fun ex jF σ1 a1 w1 D1 ι1 hq T jY hd hle=>?_
    cases ex with
    |normal=>exact ihn jF σ1 a1 w1 D1 ι1 hq jY (by rw[hd];exact hQ.later T hle)
    |exit id=>exact hQ (.exit id) jF σ1 a1 w1 D1 ι1 hq T jY hd hle
    |ret=>exact hQ .ret jF σ1 a1 w1 D1 ι1 hq T jY hd hle
  exact key n env σ a w D ι hv ev hQ
 |region id ops draw=>
  intro vc h Q env σ a w D ι Q' hv ev hQ
  simp only[iF,OT]at h
  split at h
  ·rename_i hmode
   have Sf:draw=true:=by
    simp only[Bool.and_eq_true]at hmode;exact hmode.1
   subst Sf
   split at h
   ·rename_i vl dk
    obtain⟨qf,T0⟩:=ev.drew
    have Bz:=FN (X:=Sound P) oZ ops.size _ vc env σ h (fun k i h=>by
     exfalso
     rcases Nat.lt_or_ge k ops.size with hk|hk
     ·simp[hk]at h
     ·simp[Nat.not_lt.2 hk]at h) hv
    refine pB (wp_region_any hm ?_)
    exact CH dk ops.size _ env σ a w.drew D ι (fun _=>False) Bz qf.Jc qf.used (fun _ h=>h.elim) qf.env qf.size fun jF σ1 a1 w1 D1 ι1 hk T jY hd hle=>hQ .normal jF σ1 a1 w1 D1 ι1 hk (T0.trans T) jY hd hle
   ·cases h
  split at h
  ·rename_i hcom
   have Sf:draw=false:=by
    simp only[Bool.and_eq_true,Bool.not_eq_true']at hcom;exact hcom.1
   subst Sf
   simp only[Option.map_eq_some_iff]at h
   obtain⟨vl,qS,rfl⟩:=h
   have dk:allM (lF P ops nt ((tC*1000+id)*1000) false false #[] []) ops.toList 0=some vl:=by
    unfold pY at qS
    simp only[Bool.false_eq_true,if_false,Bool.not_false,Bool.true_or,if_true]at qS
    split at qS
    ·rename_i rP h;simp at qS;subst qS;exact h
    ·cases qS
   refine Ce ?_
   have:=Ef (Q:=Q') ops.toList vl 0 env σ a w D ι rfl dk hv ev.Jc ev.used ev.env ev.size fun jF σ1 a1 w1 D1 ι1 hk T jY hd hle=>hQ .normal jF σ1 a1 w1 D1 ι1 hk T jY hd hle
   rwa [<-List.range_eq_range',Array.length_toList]at this
  generalize (ui md id==1)=mk at h
  simp only[Option.map_eq_some_iff]at h
  obtain⟨vl,qS,rfl⟩:=h
  cases draw with
  |false=>
   have dk:∃rP,allM (lF P ops nt ((tC*1000+id)*1000) false mk #[] []) ops.toList 0=some rP/\vl=rP:=by
    unfold pY at qS
    simp only[Bool.false_eq_true,if_false,Bool.not_false,Bool.true_or,if_true]at qS
    split at qS
    ·rename_i rP h;simp at qS;exact⟨rP,h,qS.symm⟩
    ·cases qS
   obtain⟨rP,dk,rfl⟩:=dk
   refine pB (wp_region_list ?_)
   exact Fm ops.toList vl 0 env σ a w D ι (fun _=>False) dk hv ev.Jc ev.used (fun _ h=>h.elim) ev.env ev.size fun jF σ1 a1 w1 D1 ι1 hk T jY hd hle=>hQ .normal jF σ1 a1 w1 D1 ι1 hk T jY hd hle
  |true=>
   have dk:∃hidden rP,allM (lF P ops nt ((tC*1000+id)*1000) true mk (jg ops) hidden) ops.toList 0=some rP/\vl=rP/\nB ops rP (jg ops)=true:=by
    unfold pY at qS
    simp only[if_true,Bool.not_true,Bool.false_or]at qS
    split at qS
    ·rename_i rP h
     split at qS
     ·rename_i tU;simp at qS;exact⟨_,rP,h,qS.symm,tU⟩
     ·cases qS
    ·cases qS
   obtain⟨hidden,rP,dk,rfl,tU⟩:=dk
   obtain⟨qf,T0⟩:=ev.drew
   obtain⟨hlen,_⟩:=nq dk
   have ke:vl.length=ops.size:=by rw[hlen];simp
   have Bz:=uO (X:=Sound P) (K:=Q .normal) (n:=σ.next) tU ke vl 0 (Array.replicate ops.size false) env σ.get (by simp) (by simp) (fun i hi=>by simp[hi]) (by simp[ke]) (fun k i h=>by
    exfalso
    rcases Nat.lt_or_ge k ops.size with hk|hk
    ·simp[hk]at h
    ·simp[Nat.not_lt.2 hk]at h) hv
   refine pB (wp_region_any hm ?_)
   rw[ke]at Bz
   exact vJ dk ops.size _ env σ.get a w.drew D ι (fun _=>False) Bz qf.Jc qf.used (fun _ h=>h.elim) qf.env qf.size fun jF g1 a1 w1 D1 ι1 U1 hk T S1 Rp E1 yL hd=>hQ .normal jF ⟨g1,σ.next+1⟩ a1 w1 D1 ι1 hk (T0.trans T) ⟨S1,Rp.next,E1,yL⟩ hd (Nat.le_succ _)
 |label l=>
  intro vc h Q env σ a w D ι Q' hv ev hQ
  simp[iF]at h;subst h
  exact pB <| wp_label (hQ .normal env σ a w D ι hv (Step.refl _ _ _ _) ev rfl (Nat.le_refl _))
 |scope c ih=>
  intro vc h Q env σ a w D ι Q' hv ev hQ
  simp only[iF]at h
  refine Fk (ih vc h Q env σ a w D ι _ hv ev fun ex jF σ1 a1 w1 D1 ι1 hq T jY hd hle=>?_)
  have h1:=hQ ex jF σ1 a1 w1 D1 ι1 hq T jY hd hle
  cases ex with
  |normal=>exact h1
  |exit id=>exact h1
  |ret=>exact h1
 |_=>
  intro vc h
  simp[iF]at h
def Ii (tmps:Array Value):ResultVar->Sem Value
 | .tmp t=>pure (tmps.getD t undef)
 | .cell a t=>do loadVar t (<-asAddr (tmps.getD a undef))
theorem Cm (fn:Func) (tmps:Array Value):results fn tmps=(do
  let vs <-fn.results.mapM (Ii tmps)
  pure (if h:vs.size=1 then vs[0]else .tuple vs)):=by
 unfold results
 congr 2
theorem sk {nt:Nat} {env:Env} {σ:ax} {a:Act} {D:Nat->Prop} {ι:Names} (ev:St P hs nt D ι env σ a w):∀(rs:List ResultVar) (vr:List oC) (vs:List AV),rs.mapM (Eb P)=some vr->eU env σ.get vr=some vs->
  ∃us:List Value,(rs.mapM (Ii a.tmps)).run P w=.ok us w/\us.length=vs.length/\∀(j:Nat) (v:AV),vs[j]? =some v->∃u,us[j]? =some u/\cG P w D ι v u
 |[],vr,vs,h,hv=>by
  simp at h;subst h
  simp[eU]at hv;subst hv
  exact⟨[],by simp,rfl,fun j v h=>by simp at h⟩
 |r::rs,vr,vs,h,hv=>by
  simp only[List.mapM_cons,Option.bind_eq_bind,Option.bind_eq_some_iff]at h
  obtain⟨x,hx,vr',hr,h⟩:=h
  simp at h;subst h
  simp only[eU,Option.bind_eq_some_iff,Option.map_eq_some_iff]at hv
  obtain⟨v,wm,vs',P6,rfl⟩:=hv
  obtain⟨us,h1,h2,h3⟩:=sk ev rs vr' vs' hr P6
  have one:∃u,(Ii a.tmps r).run P w=.ok u w/\cG P w D ι v u:=by
   cases r with
   |tmp t=>
    simp[Eb]at hx;subst hx
    simp[gK]at wm;subst wm
    exact⟨_,rfl,ev.env t⟩
   |cell b t=>
    simp only[Eb,Option.bind_eq_bind,Option.bind_eq_some_iff,Option.pure_def,Option.some.injEq]at hx
    obtain⟨ag,sR,n,hn,rfl⟩:=hx
    simp only[gK]at wm
    have gF:=ev.env b
    unfold ld at wm
    split at wm
    ·rename_i kg i' oo hb
     rw[hb]at gF
     obtain⟨B,he,hB,hk⟩:=jb gF
     simp only[Option.bind_eq_some_iff]at wm
     obtain⟨cs,dq,hp⟩:=wm
     obtain⟨B',r0,F0,dx,R,hi,fl,f,hf⟩:=Il (S:=ev.Jc) dq (fun B2 h2=>by rw[hB]at h2;injection h2 with h2;subst h2;exact hk)
     rw[hB]at dx;injection dx with dx;subst dx
     obtain⟨u,k1,k2⟩:=j3 (w:=w) (b:=B.b) (oo:=i'*B.sz+oo) (f:=fun j=>f (oo+j)) sR hn hp (fun a ha=>fl a (List.mem_of_mem_drop ha)) (fun j hj=>by
      rw[Nat.add_assoc];exact(hf _ (by simp at hj;omega)).1) (fun j a ha=>by
      simp at ha;exact(hf _ ((List.getElem?_eq_some_iff.1 ha).1)).2 _ ha)
     exact⟨u,by simp only[Ii,he,asAddr,Sem.run_bind,Sem.run_pure,Result.andThen_ok,k1],k2⟩
    ·rename_i cs hb
     rw[hb]at gF
     obtain⟨b',oo,vs2,he,q1,q2,q3,q4⟩:=kq gF
     obtain⟨u,k1,k2⟩:=j3 (w:=w) (b:=b') (oo:=oo) (f:=vs2) sR hn wm q2 q3 (fun j a ha=>.eJ _ _ (q4 j a ha))
     exact⟨u,by simp only[Ii,he,asAddr,Sem.run_bind,Sem.run_pure,Result.andThen_ok,k1],k2⟩
    ·simp at wm
  obtain⟨u,hu,vn⟩:=one
  refine⟨u::us,?_,by simp[h2],fun j v' hj=>?_⟩
  ·rw[List.mapM_cons]
   simp only[Sem.run_bind,hu,h1,Result.andThen_ok,Sem.run_pure]
  ·cases j with
   |zero=>simp at hj;subst hj;exact⟨u,rfl,vn⟩
   |succ j=>simp at hj ⊢;exact h3 j v' hj
theorem A4 {f:Nat} {fn:Func} {c:Code} {args:List AV} {σ:ax} {K:AV->ax->Prop} {vr:List oC} (JK:P.funcs[f]? =some fn) (hc:fn.body=some c) (hr:fn.results.toList.mapM (Eb P)=some vr) (ha:fn.params.size+fn.nfree=args.length) (hle:fn.params.size+fn.nfree<=fn.ntmps)
  (h:∀(hs:Nat) (w:World) (D:Nat->Prop) (ι:Names) (a:Act) (Q':Exit->Act->World->Prop),St P hs fn.ntmps D ι (cu args) σ a w->vI P hs fn.ntmps a.defers (lj vr K) σ.next D ι w Q'->AH P c Q' a w):Sound P f args σ K:=by
 intro hs D ι w vs S Us A
 have fe:vs.size=args.length:=A.1
 refine xd JK hc ?_
 refine h hs w D ι _ _ ⟨S,Us,fun t=>?_,by simp;omega⟩ fun ex jF σ1 a1 w1 D1 ι1 hq T jY hd hle=>?_
 ·simp only[cu]
  by_cases dD:t<args.length
  ·obtain⟨u,hu,vn⟩:=A.2 t args[t] (List.getElem?_eq_getElem dD)
   have e1:args.getD t .undef=args[t]:=by simp[List.getD_eq_getElem?_getD,dD]
   have e2:(vs++Array.replicate (fn.ntmps-vs.size) undef).getD t undef=u:=by
    simp only[Array.getD_eq_getD_getElem?]
    rw[Array.getElem?_append_left ab,hu];rfl
   rw[e1,e2];exact vn
  ·have e1:args.getD t .undef=.undef:=by simp[List.getD_eq_getElem?_getD,Nat.le_of_not_lt dD]
   have e2:(vs++Array.replicate (fn.ntmps-vs.size) undef).getD t undef=undef:=by
    simp only[Array.getD_eq_getD_getElem?]
    rw[Array.getElem?_append_right ab,Array.getElem?_replicate]
    split<;>rfl
   rw[e1,e2];exact cG.undef
 ·have fin:(∃vs,eU jF σ1.get vr=some vs/\K (eF vs) σ1)->a1.defers=[]/\∃v,(results fn a1.tmps).run P w1=.ok v w1/\∃r g' n' D' ι' u,Ending.returned v=.returned u/\K r ⟨g',n'⟩/\Step hs D ι w D' ι' w1/\fZ P hs D' ι' g' w1/\Used ι' n' (fun _=>False)/\σ.next<=n'/\cG P w1 D' ι' r u:=by
   rintro⟨avs,P6,hK⟩
   obtain⟨us,h1,h2,h3⟩:=sk jY fn.results.toList vr avs hr P6
   have MS:(results fn a1.tmps).run P w1=.ok (if h:us.toArray.size=1 then us.toArray[0]else .tuple us.toArray) w1:=by
    rw[Cm,Array.mapM_eq_mapM_toList]
    simp only[Sem.run_bind,Sem.run_map,h1,Result.andThen_ok,Sem.run_pure]
   refine⟨hd,_,MS,eF avs,σ1.get,σ1.next,D1,ι1,_,rfl,hK,T,jY.Jc,jY.used,hle,?_⟩
   unfold eF
   split
   ·rename_i v
    have hl:us.length=1:=h2
    obtain⟨u,hu,vn⟩:=h3 0 v rfl
    rw[dif_pos (by simpa using hl)]
    have:us.toArray[0]'(by simp[hl])=u:=by
     have:=(List.getElem?_eq_some_iff.1 hu).2
     simpa using this
    rw[this];exact vn
   ·rename_i gW
    rw[dif_neg (by
     simp only[List.size_toArray,h2]
     intro h
     obtain⟨v,hv⟩:=List.length_eq_one_iff.1 h
     exact gW v hv)]
    exact .iL _ _ (fun j=>us.getD j undef) (by simp[h2]) (fun j hj=>by
     have:j<us.length:=by rw[h2];exact hj
     simp[this]) (fun j v hj=>by
     obtain⟨u,hu,vn⟩:=h3 j v hj
     simpa[List.getD_eq_getElem?_getD,hu]using vn)
  cases ex with
  |normal=>exact fin hq
  |ret=>exact fin hq
  |exit id=>exact hq.elim
theorem GY (hm:P.follows .mixedOrders=true) {f:Nat} {md:List (Nat×Nat)} {vf:yC} {args:List AV} {σ:ax} {K:AV->ax->Prop} (hf:uY P f md=some vf) (ha:vf.wI=args.length) (h:ea (Sound P) vf.body (lj vf.res K) (cu args) σ):Sound P f args σ K:=by
 unfold uY at hf
 split at hf
 ·rename_i fn JK
  split at hf
  ·rename_i c hc
   simp only[Option.bind_eq_bind,Option.bind_eq_some_iff]at hf
   obtain⟨vb,hb,vr,hr,hf⟩:=hf
   split at hf
   ·rename_i hle
    simp only[Option.pure_def,Option.some.injEq]at hf
    subst hf
    simp only at ha h
    exact A4 JK hc hr ha hle fun hs w D ι a Q' ev hQ=>Bb hm c vb hb (lj vr K) (cu args) σ a w D ι Q' h ev hQ
   ·simp at hf
  ·simp at hf
 ·simp at hf
def Ly (P:Program) (X:fv):fv:=fun f args σ K=>(∃md vf,uY P f md=some vf/\vf.wI=args.length/\((∀a∈args,eE a)->ea X vf.body (lj vf.res K) (cu args) σ))∨Sound P f args σ K
def Call (P:Program):fv:=fun f args σ K=>∀X:fv,oL X->(∀f args σ K,Ly P X f args σ K->X f args σ K)->X f args σ K
theorem gN (hm:P.follows .mixedOrders=true) {f:Nat} {args:List AV} {σ:ax} {K:AV->ax->Prop} (h:Call P f args σ K):Sound P f args σ K:=
 h (Sound P) oZ fun f args σ K hs=>by
  rcases hs with⟨md,vf,h1,h2,h3⟩|h
  ·intro hs D ι w vs S U A
   exact GY hm h1 h2 (h3 (nO fun j a hj=>by obtain⟨u,_,hr⟩:=A.2 j a hj;exact hr.HE)) hs D ι w vs S U A
  ·exact h
end
end Go.Proofs.YtihgaadadaekmaaGreatDoor.V

namespace Go.Proofs.YtihgaadadaekmaaGreatDoor.V
open Go.RowKit
variable {P:Program} {X Y:fv}
theorem Gh (h:∀f args σ K,X f args σ K->Y f args σ K) {f:Nat} {args:List AV} {σ:ax} {K:AV->Prop} (hp:gR X f args σ K):gR Y f args σ K:=by
 rcases hp with hp|⟨a,h1,h2⟩
 ·exact .inl (h _ _ _ _ hp)
 ·exact .inr ⟨a,h1,h _ _ _ _ h2⟩
theorem Je (h:∀f args σ K,X f args σ K->Y f args σ K) {f:Nat} {args:List AV} {σ:ax} {sz:Nat} {rows:List (List AV)} (hp:CM X f args σ sz rows):CM Y f args σ sz rows:=by
 obtain⟨h1,a,h2,h3⟩:=hp
 exact⟨h1,a,h2,h _ _ _ _ h3⟩
theorem pa (h:∀f args σ K,X f args σ K->Y f args σ K) (hK:∀f args σ K K',(∀r σ',K r σ'->K' r σ')->Y f args σ K->Y f args σ K') {draw:Bool} {hid:List Nat} {site:Nat} {f:Nat} {args:List AV} {σ:ax} {n n':AV->ax->Prop} (hn:∀v σ',n v σ'->n' v σ') (hp:cF X draw hid site f args σ n):cF Y draw hid site f args σ n':=by
 rcases hp with⟨r,h1,h2⟩|⟨h1,h2⟩|⟨h1,sz,rows,h2,h3⟩
 ·exact .inl ⟨r,Gh h h1,hn _ _ h2⟩
 ·exact .inr (.inl ⟨h1,hK _ _ _ _ _ hn (h _ _ _ _ h2)⟩)
 ·exact .inr (.inr ⟨h1,sz,rows,Je h h2,hn _ _ h3⟩)
theorem qO (h:∀f args σ K,X f args σ K->Y f args σ K) (hK:∀f args σ K K',(∀r σ',K r σ'->K' r σ')->Y f args σ K->Y f args σ K') {draw:Bool} {o:bl} {env:Env} {σ:ax} {n n':AV->ax->Prop} (hn:∀v σ',n v σ'->n' v σ') (hp:fP X draw o env σ n):fP Y draw o env σ n':=by
 unfold fP at hp ⊢
 split at hp
 ·exact pa h hK hn hp
 ·split at hp
  ·exact pa h hK hn hp
  ·exact pa h hK hn hp
  ·exact hp.elim
 ·split at hp
  ·exact hn _ _ hp
  ·exact hp.elim
 ·split at hp
  ·exact hn _ _ hp
  ·exact hp.elim
 ·split at hp
  ·exact hn _ _ hp
  ·exact hp.elim
 ·split at hp
  ·exact hn _ _ hp
  ·exact hp.elim
 ·split at hp
  ·exact hn _ _ hp
  ·exact hp.elim
 ·split at hp
  ·exact hn _ _ hp
  ·exact hn _ _ hp
  ·exact hp.elim
theorem mA (h:∀f args σ K,X f args σ K->Y f args σ K) (hK:∀f args σ K K',(∀r σ',K r σ'->K' r σ')->Y f args σ K->Y f args σ K') {draw:Bool} {Q Q':Env->ax->Prop} (hQ:∀e s,Q e s->Q' e s):∀(l:List bl) (env:Env) (σ:ax),wpOps X draw l Q env σ->wpOps Y draw l Q' env σ
 |[],env,σ,hp=>hQ _ _ hp
 |o::r,env,σ,hp=>by
  unfold wpOps at hp ⊢
  split at hp
  ·rename_i hw;rw[if_pos hw];exact qO h hK (fun v σ'=>mA h hK hQ r _ _) hp
  ·rename_i hw;rw[if_neg hw];exact mA h hK hQ r _ _ hp
theorem mz {Q Q':Env->ax->Prop} (hQ:∀e s,Q e s->Q' e s):∀(l:List bl) (env:Env) (σ:ax),cw l Q env σ->cw l Q' env σ
 |[],env,σ,hp=>hQ _ _ hp
 |o::r,env,σ,hp=>by
  unfold cw at hp ⊢
  refine⟨hp.1,?_⟩
  replace hp:=hp.2
  split at hp
  ·split at hp
   ·exact mz hQ r _ _ hp
   ·exact hp.elim
  ·split at hp
   ·exact mz hQ r _ _ hp
   ·exact hp.elim
  ·split at hp
   ·exact mz hQ r _ _ hp
   ·exact hp.elim
theorem kF (h:∀f args σ K,X f args σ K->Y f args σ K) (hK:∀f args σ K K',(∀r σ',K r σ'->K' r σ')->Y f args σ K->Y f args σ K'):∀(c:VC) (Q Q':Ex->Env->ax->Prop) (env:Env) (σ:ax),(∀x e s,Q x e s->Q' x e s)->ea X c Q env σ->ea Y c Q' env σ:=by
 intro c
 induction c with
 |skip=>intro Q Q' env σ hQ hp;exact hQ _ _ _ hp
 |exit id=>intro Q Q' env σ hQ hp;exact hQ _ _ _ hp
 |ret=>intro Q Q' env σ hQ hp;exact hQ _ _ _ hp
 |one o c ih=>
  intro Q Q' env σ hQ hp
  unfold ea at hp ⊢
  split at hp
  ·rename_i hw;rw[if_pos hw];exact qO h hK (fun v σ'=>ih Q Q' _ _ hQ) hp
  ·rename_i hw;rw[if_neg hw];exact ih Q Q' _ _ hQ hp
 |both a b iha ihb=>intro Q Q' env σ hQ hp;exact⟨iha Q Q' env σ hQ hp.1,ihb Q Q' env σ hQ hp.2⟩
 |loc t s y c ih=>intro Q Q' env σ hQ hp;exact⟨hp.1,ih Q Q' env σ hQ hp.2⟩
 |LZ ops=>intro Q Q' env σ hQ hp;exact mz (hQ .normal) ops env σ hp
 |eG draw ops=>intro Q Q' env σ hQ hp;exact mA h hK (hQ .normal) ops env σ hp
 |seq a b iha ihb=>
  intro Q Q' env σ hQ hp
  refine iha _ _ env σ (fun x e s hx=>?_) hp
  cases x with
  |normal=>exact ihb Q Q' e s hQ hx
  |exit id=>exact hQ _ _ _ hx
  |ret=>exact hQ _ _ _ hx
 |cond c a b iha ihb=>
  intro Q Q' env σ hQ hp
  unfold ea at hp ⊢
  split at hp
  ·rename_i t ht
   cases t with
   |true=>exact iha Q Q' env σ hQ hp
   |false=>exact ihb Q Q' env σ hQ hp
  ·exact hp.elim
 |block id a iha=>
  intro Q Q' env σ hQ hp
  refine iha _ _ env σ (fun x e s hx=>?_) hp
  cases x with
  |normal=>exact hQ _ _ _ hx
  |ret=>exact hQ _ _ _ hx
  |exit kg=>
   unfold bu at hx ⊢
   dsimp only at hx ⊢
   split at hx
   ·rename_i hid;rw[if_pos hid];exact hQ _ _ _ hx
   ·rename_i hid;rw[if_neg hid];exact hQ _ _ _ hx
 |loop a iha=>
  intro Q Q' env σ hQ hp
  obtain⟨n,hp⟩:=hp
  refine⟨n,?_⟩
  induction n generalizing env σ with
  |zero=>exact hp
  |succ n ihn=>
   refine iha _ _ env σ (fun x e s hx=>?_) hp
   cases x with
   |normal=>exact ihn e s hx
   |exit id=>exact hQ _ _ _ hx
   |ret=>exact hQ _ _ _ hx
theorem aO:oL (Call P):=fun _ _ _ _ _ hK h X hX hc=>hX _ _ _ _ _ hK (h X hX hc)
theorem vG {f:Nat} {args:List AV} {σ:ax} {K:AV->ax->Prop} (h:Ly P (Call P) f args σ K):Call P f args σ K:=by
 intro X hX hc
 refine hc _ _ _ _ ?_
 rcases h with⟨md,vf,h1,h2,h3⟩|h
 ·exact .inl ⟨md,vf,h1,h2,fun hl=>kF (fun f args σ K h=>h X hX hc) hX _ _ _ _ _ (fun _ _ _ h=>h) (h3 hl)⟩
 ·exact .inr h
theorem tb {f:Nat} {md:List (Nat×Nat)} {args:List AV} {σ:ax} {K:AV->ax->Prop} {vf:yC} (hf:uY P f md=some vf) (ha:vf.wI=args.length) (h:(∀a∈args,eE a)->ea (Call P) vf.body (lj vf.res K) (cu args) σ):Call P f args σ K:=
 vG (.inl ⟨md,vf,hf,ha,h⟩)
theorem ly {f:Nat} {args:List AV} {σ:ax} {K:AV->ax->Prop} {vf:yC} (hf:kK P f=some vf) (ha:vf.wI=args.length) (h:(∀a∈args,eE a)->ea (Call P) vf.body (lj vf.res K) (cu args) σ):Call P f args σ K:=
 tb hf ha h
theorem iv {f:Nat} {args:List AV} {σ:ax} {K:AV->ax->Prop} (h:Sound P f args σ K):Call P f args σ K:=vG (.inr h)
def iN (P:Program) (f:Nat) (args:List AV) (r:AV):Prop:=∀σ,PC (Call P) f args σ (fun r'=>r'=r)
theorem iN.body {f:Nat} {args:List AV} {r:AV} {nt na:Nat} {body:VC} {res:List oC} (hf:kK P f=some ⟨nt,na,body,res⟩) (ha:na=args.length) (h:(∀a∈args,eE a)->∀σ:ax,ea (Call P) body (lj res fun r0 σ'=>∃r',fz σ'.get 6 r0=some r'/\r'=r) (cu args) ⟨V.ro σ.get,σ.next⟩):iN P f args r:=fun σ=>ly hf ha fun hl=>h hl σ
variable {Q:Ex->Env->ax->Prop} {K:Env->ax->Prop} {env:Env} {σ:ax}
theorem DR {a b:VC} (h:∀N:Env->ax->Prop,(∀e s,ea X b Q e s->N e s)->ea X a (dF N Q) env σ):ea X (.seq a b) Q env σ:=h _ fun _ _ h=>h
theorem yy (h:Q .normal env σ):ea X .skip Q env σ:=h
theorem yv {id:Nat} (h:Q (.exit id) env σ):ea X (.exit id) Q env σ:=h
theorem DQ (h:Q .ret env σ):ea X .ret Q env σ:=h
theorem s7 {id:Nat} {c:VC} (h:ea X c (bu id Q) env σ):ea X (.block id c) Q env σ:=h
theorem DO {o:bl} {c:VC} (h:∀N:AV->ax->Prop,(∀v s,ea X c Q (upd env o.dst v) s->N v s)->if aM o.guard env then fP X false o env σ N else N .undef σ):ea X (.one o c) Q env σ:=by
 have:=h (fun v s=>ea X c Q (upd env o.dst v) s) fun _ _ h=>h
 unfold ea
 split
 ·rename_i hw;rw[if_pos hw]at this;exact this
 ·rename_i hw;rw[if_neg hw]at this;exact this
def ew (s n:Nat):AV->Prop
 | .own id 0 _=>id=⟨s,n⟩
 |_=>False
def eD (n:Nat):AV->Prop
 | .own id _ _=>¬id.cq=n
 |_=>True
theorem yw {t s:Nat} {y:O} {c:VC} (h1:ew s σ.next (env t)) (h2:eD σ.next (cE env y)) (h:ea X c Q env σ):ea X (.loc t s y c) Q env σ:=by
 refine⟨⟨?_,fun id o l he=>?_⟩,h⟩
 ·revert h1
  unfold ew
  split
  ·rename_i id l he;rintro rfl;exact⟨l,he⟩
  ·exact fun h=>h.elim
 ·rw[he]at h2;exact h2
theorem eR {a b:VC} (ha:ea X a Q env σ) (hb:ea X b Q env σ):ea X (.both a b) Q env σ:=⟨ha,hb⟩
theorem DP {draw:Bool} {ops:List bl} (h:∀N:Env->ax->Prop,(∀e s,Q .normal e s->N e s)->wpOps X draw ops N env σ):ea X (.eG draw ops) Q env σ:=h _ fun _ _ h=>h
theorem IM {ops:List bl} (h:cw ops (Q .normal) env σ):ea X (.LZ ops) Q env σ:=h
theorem DN {draw:Bool} (h:K env ⟨σ.get,σ.next+1⟩):wpOps X draw [] K env σ:=h
theorem NL {draw:Bool} {o:bl} {r:List bl} (h:∀N:AV->ax->Prop,(∀v s,wpOps X draw r K (upd env o.dst v) s->N v s)->if aM o.guard env then fP X draw o env σ N else N .undef σ):wpOps X draw (o::r) K env σ:=by
 have:=h (fun v s=>wpOps X draw r K (upd env o.dst v) s) fun _ _ h=>h
 unfold wpOps
 split
 ·rename_i hw;rw[if_pos hw]at this;exact this
 ·rename_i hw;rw[if_neg hw]at this;exact this
theorem IN {c:O} {x y:VC} {b:Bool} (hc:cE env c=.bool b) (ht:b=true->ea X x Q env σ) (hf:b=false->ea X y Q env σ):ea X (.cond c x y) Q env σ:=by
 unfold ea
 simp only[hc]
 cases b with
 |true=>exact ht rfl
 |false=>exact hf rfl
inductive m7:AV->Prop->Prop->Prop
 |t {A B:Prop}:A->m7 (.bool true) A B
 |f {A B:Prop}:B->m7 (.bool false) A B
theorem s8 {c:O} {x y:VC} {v:AV} (hv:cE env c=v) (h:m7 v (ea X x Q env σ) (ea X y Q env σ)):ea X (.cond c x y) Q env σ:=by
 cases h with
 |t h=>exact IN hv (fun _=>h) (fun e=>by cases e)
 |f h=>exact IN hv (fun e=>by cases e) (fun _=>h)
theorem NK {c:VC} (I:Nat->Env->ax->Prop) (n:Nat) (h0:I n env σ) (step:∀n env σ,I n env σ->ea X c (fun x e s=>match x with| .normal=>∃m,m<n/\I m e s|x=>Q x e s) env σ)
  (hX:∀(c:VC) (Q Q':Ex->Env->ax->Prop) env σ,(∀x e s,Q x e s->Q' x e s)->ea X c Q env σ->ea X c Q' env σ):ea X (.loop c) Q env σ:=by
 have key:∀N n env σ,n<N->I n env σ->Dt (ea X c) Q N env σ:=by
  intro N
  induction N with
  |zero=>intro n env σ h;exact absurd h (Nat.not_lt_zero _)
  |succ N ih=>
   intro n env σ hn hI
   refine hX c _ _ env σ (fun x e s hx=>?_) (step n env σ hI)
   cases x with
   |normal=>obtain⟨m,hm,hI'⟩:=hx;exact ih m e s ab hI'
   |exit id=>exact hx
   |ret=>exact hx
 exact⟨n+1,key _ n env σ (Nat.lt_succ_self _) h0⟩
theorem KS {c:VC} (I:Nat->Env->ax->Prop) (n:Nat) (h0:I n env σ) (step:∀n env σ,I n env σ->ea (Call P) c (fun x e s=>match x with| .normal=>∃m,m<n/\I m e s|x=>Q x e s) env σ):ea (Call P) (.loop c) Q env σ:=
 NK I n h0 step fun c Q Q' env σ hQ h=>kF (fun _ _ _ _ h=>h) aO c Q Q' env σ hQ h
def CQ:VC->List Nat
 | .eG _ ops=>ops.filterMap (·.dst)
 | .seq a b=>CQ a++CQ b
 | .cond _ a b=>CQ a++CQ b
 | .block _ a=>CQ a
 | .loop a=>CQ a
 | .one o c=>o.dst.toList++CQ c
 | .both a b=>CQ a++CQ b
 | .loc _ _ _ c=>CQ c
 | .LZ ops=>ops.filterMap (·.dst)
 |_=>[]
def kT (l:List Nat) (env g9:Env):Prop:=∀t,l.contains t=false->g9 t=env t
theorem kT.refl (l:List Nat) (env:Env):kT l env env:=fun _ _=>rfl
theorem kT.upd {l:List Nat} {e e':Env} {d:Option Nat} {v:AV} (h:kT l e e') (hd:∀t,d=some t->t∈l):kT l e (upd e' d v):=fun t ht=>by
 cases d with
 |none=>exact h t ht
 |some d=>
  have:t≠d:=fun hc=>by subst hc;rw[<-Bool.not_eq_true,List.contains_iff_mem]at ht;exact ht (hd _ rfl)
  show(if t=d then v else e' t)=e t
  rw[if_neg this];exact h t ht
theorem nX {draw:Bool} {Q:Env->ax->Prop} {l:List Nat} {e0:Env}:∀(ops:List bl) (env:Env) (σ:ax),(∀t,t∈ops.filterMap (·.dst)->t∈l)->kT l e0 env->wpOps (Call P) draw ops Q env σ->wpOps (Call P) draw ops (fun e s=>Q e s/\kT l e0 e) env σ
 |[],env,σ,_,hk,hp=>⟨hp,hk⟩
 |o::r,env,σ,hl,hk,hp=>by
  have hd:∀t,o.dst=some t->t∈l:=fun t ht=>hl t (List.mem_filterMap.2 ⟨o,by simp,ht⟩)
  have hr:∀t,t∈r.filterMap (·.dst)->t∈l:=fun t ht=>hl t (by
   obtain⟨x,hx,h⟩:=List.mem_filterMap.1 ht
   exact List.mem_filterMap.2 ⟨x,List.mem_cons_of_mem _ hx,h⟩)
  unfold wpOps at hp ⊢
  split at hp
  ·rename_i hw;rw[if_pos hw]
   exact qO (fun _ _ _ _ h=>h) aO (fun v σ' h=>nX r _ _ hr (hk.upd hd) h) hp
  ·rename_i hw;rw[if_neg hw];exact nX r _ _ hr (hk.upd hd) hp
theorem k8 {Q:Env->ax->Prop} {l:List Nat} {e0:Env}:∀(ops:List bl) (env:Env) (σ:ax),(∀t,t∈ops.filterMap (·.dst)->t∈l)->kT l e0 env->cw ops Q env σ->cw ops (fun e s=>Q e s/\kT l e0 e) env σ
 |[],env,σ,_,hk,hp=>⟨hp,hk⟩
 |o::r,env,σ,hl,hk,hp=>by
  have hd:∀t,o.dst=some t->t∈l:=fun t ht=>hl t (List.mem_filterMap.2 ⟨o,by simp,ht⟩)
  have hr:∀t,t∈r.filterMap (·.dst)->t∈l:=fun t ht=>hl t (by
   obtain⟨x,hx,h⟩:=List.mem_filterMap.1 ht
   exact List.mem_filterMap.2 ⟨x,List.mem_cons_of_mem _ hx,h⟩)
  unfold cw at hp ⊢
  refine⟨hp.1,?_⟩
  replace hp:=hp.2
  split at hp
  ·split at hp
   ·exact k8 r _ _ hr (hk.upd hd) hp
   ·exact hp.elim
  ·split at hp
   ·exact k8 r _ _ hr (hk.upd hd) hp
   ·exact hp.elim
  ·split at hp
   ·exact k8 r _ _ hr (hk.upd hd) hp
   ·exact hp.elim
theorem FT {l:List Nat} {e0:Env}:∀(c:VC) (Q:Ex->Env->ax->Prop) (env:Env) (σ:ax),(∀t,t∈CQ c->t∈l)->kT l e0 env->ea (Call P) c Q env σ->ea (Call P) c (fun x e s=>Q x e s/\kT l e0 e) env σ:=by
 intro c
 induction c with
 |skip=>intro Q env σ _ hk hp;exact⟨hp,hk⟩
 |exit id=>intro Q env σ _ hk hp;exact⟨hp,hk⟩
 |ret=>intro Q env σ _ hk hp;exact⟨hp,hk⟩
 |one o c ih=>
  intro Q env σ hl hk hp
  have hd:∀t,o.dst=some t->t∈l:=fun t ht=>hl t (List.mem_append_left _ (by rw[ht];simp))
  have hr:∀t,t∈CQ c->t∈l:=fun t ht=>hl t (List.mem_append_right _ ht)
  unfold ea at hp ⊢
  split at hp
  ·rename_i hw;rw[if_pos hw]
   exact qO (fun _ _ _ _ h=>h) aO (fun v σ' h=>ih Q _ _ hr (hk.upd hd) h) hp
  ·rename_i hw;rw[if_neg hw];exact ih Q _ _ hr (hk.upd hd) hp
 |both a b iha ihb=>
  intro Q env σ hl hk hp
  exact⟨iha Q env σ (fun t ht=>hl t (List.mem_append_left _ ht)) hk hp.1,ihb Q env σ (fun t ht=>hl t (List.mem_append_right _ ht)) hk hp.2⟩
 |loc t s y c ih=>intro Q env σ hl hk hp;exact⟨hp.1,ih Q env σ hl hk hp.2⟩
 |LZ ops=>intro Q env σ hl hk hp;exact k8 ops env σ hl hk hp
 |eG draw ops=>intro Q env σ hl hk hp;exact nX ops env σ hl hk hp
 |seq a b iha ihb=>
  intro Q env σ hl hk hp
  refine kF (fun _ _ _ _ h=>h) aO a _ _ env σ (fun x e s hx=>?_) (iha _ env σ (fun t ht=>hl t (List.mem_append_left _ ht)) hk hp)
  cases x with
  |normal=>exact ihb Q e s (fun t ht=>hl t (List.mem_append_right _ ht)) hx.2 hx.1
  |exit id=>exact hx
  |ret=>exact hx
 |cond c a b iha ihb=>
  intro Q env σ hl hk hp
  unfold ea at hp ⊢
  split at hp
  ·rename_i t ht
   cases t with
   |true=>exact iha Q env σ (fun t ht=>hl t (List.mem_append_left _ ht)) hk hp
   |false=>exact ihb Q env σ (fun t ht=>hl t (List.mem_append_right _ ht)) hk hp
  ·exact hp.elim
 |block id a iha=>
  intro Q env σ hl hk hp
  refine kF (fun _ _ _ _ h=>h) aO a _ _ env σ (fun x e s hx=>?_) (iha _ env σ hl hk hp)
  obtain⟨hx,JO⟩:=hx
  cases x with
  |normal=>exact⟨hx,JO⟩
  |ret=>exact⟨hx,JO⟩
  |exit kg=>
   unfold bu at hx ⊢
   dsimp only at hx ⊢
   split at hx
   ·rename_i hid;rw[if_pos hid];exact⟨hx,JO⟩
   ·rename_i hid;rw[if_neg hid];exact⟨hx,JO⟩
 |loop a iha=>
  intro Q env σ hl hk hp
  obtain⟨n,hp⟩:=hp
  refine⟨n,?_⟩
  induction n generalizing env σ with
  |zero=>exact hp
  |succ n ihn=>
   refine kF (fun _ _ _ _ h=>h) aO _ _ _ _ _ (fun x e s hx=>?_) (iha _ env σ hl hk hp)
   obtain⟨hx,JO⟩:=hx
   cases x with
   |normal=>exact ihn e s JO hx
   |exit id=>exact⟨hx,JO⟩
   |ret=>exact⟨hx,JO⟩
theorem aP {c:VC} (I:Nat->Env->ax->Prop) (n:Nat) (h0:I n env σ) (step:∀n e s,I n e s->kT (CQ c) env e->ea (Call P) c (fun x e s=>match x with| .normal=>∃m,m<n/\I m e s|x=>Q x e s) e s):ea (Call P) (.loop c) Q env σ:=by
 refine KS (fun n e s=>I n e s/\kT (CQ c) env e) n ⟨h0,kT.refl _ _⟩ fun n e s hI=>?_
 refine kF (fun _ _ _ _ h=>h) aO _ _ _ _ _ (fun x e' s' hx=>?_) (FT c _ e s (fun _ h=>h) hI.2 (step n e s hI.1 hI.2))
 obtain⟨hx,hk⟩:=hx
 cases x with
 |normal=>obtain⟨m,hm,h⟩:=hx;exact⟨m,hm,h,hk⟩
 |exit id=>exact hx
 |ret=>exact hx
theorem IS {k:Nat} (h:k<=9223372036854775807):IntKind.i64.wrap (k:Int)=k:=by rw[IntKind.wrap_i64];omega
theorem aT {z:Int} (h: -9223372036854775808<=z/\z<=9223372036854775807):IntKind.i64.wrap z=z:=by rw[IntKind.wrap_i64];omega
theorem ay {k:Nat} (h:(k:Int)+1<=9223372036854775807):IntKind.i64.wrap ((k:Int)+1)=((k+1:Nat):Int):=by rw[IntKind.wrap_i64];omega
theorem all_succ {k:Nat} {p:Nat->Prop} (h:∀j,j<k->p j) (hk:p k):∀j,j<k+1->p j:=fun j hj=>by
 by_cases wh:j=k
 ·subst wh;exact hk
 ·exact h j ab
theorem aI (g:Rows) (n:Nat) (k:IntKind) (m:Int):fz g (n+1) (.int k m)=some (.int k m):=by rw[fz]<;>intros<;>simp_all
theorem bE (g:Rows) (n:Nat) (b:ByteArray):fz g (n+1) (.str b)=some (.str b):=by rw[fz]<;>intros<;>simp_all
theorem cj (g:Rows) (n:Nat) (l:List (List AV)):fz g (n+1) (.sl l)=some (.sl l):=by rw[fz]<;>intros<;>simp_all
theorem aW (g:Rows) (n:Nat):fz g (n+1) .bK=some .bK:=by rw[fz]<;>intros<;>simp_all
theorem Qs {t:Nat} {r r0:AV} {x:Ex} (hx:x=.ret∨x=.normal) (he:env t=r0) (hz:fz σ.get 6 r0=some r):lj [.tmp t] (fun r0 σ'=>∃r',fz σ'.get 6 r0=some r'/\r'=r) x env σ:=by
 have:∃vs,eU env σ.get [.tmp t]=some vs/\∃r',fz σ.get 6 (eF vs)=some r'/\r'=r:=⟨[env t],rfl,r,by subst he;exact hz,rfl⟩
 rcases hx with rfl|rfl
 ·exact this
 ·exact this
def ae (P:Program) (f:Nat) (args:List AV) (r:AV):Prop:=∀n:Nat,Call P f args ⟨fun _=>none,n⟩ fun r0 σ'=>∃r',fC σ'.get 6 r0=some r'/\r'=r
theorem ae.body {f:Nat} {args:List AV} {r:AV} {nt na:Nat} {body:VC} {res:List oC} (hf:kK P f=some ⟨nt,na,body,res⟩) (ha:na=args.length) (h:(∀a∈args,eE a)->∀n:Nat,ea (Call P) body (lj res fun r0 σ'=>∃r',fC σ'.get 6 r0=some r'/\r'=r) (cu args) ⟨fun _=>none,n⟩):ae P f args r:=fun n=>ly hf ha fun hl=>h hl n
theorem ae.x {f:Nat} {args eS:List AV} {r:AV} (h:ae P f eS r) {σ:ax} (hv:cm (dE σ.get) 6 args=some eS):gR (Call P) f args σ (fun r'=>r'=r):=.inr ⟨eS,hv,h _⟩
theorem iN.x {f:Nat} {args:List AV} {r:AV} (h:iN P f args r) (σ:ax):gR (Call P) f args σ (fun r'=>r'=r):=.inl (h σ)
theorem eA (g:Rows) (n:Nat) (k:IntKind) (m:Int):fC g (n+1) (.int k m)=some (.int k m):=by rw[fC]<;>intros<;>simp_all
theorem e9 (g:Rows) (n:Nat) (b:Bool):fC g (n+1) (.bool b)=some (.bool b):=by rw[fC]<;>intros<;>simp_all
theorem kX (g:Rows) (n:Nat) (b:ByteArray):fC g (n+1) (.str b)=some (.str b):=by rw[fC]<;>intros<;>simp_all
theorem kb (g:Rows) (n:Nat):fC g (n+1) .bK=some .bK:=by rw[fC]<;>intros<;>simp_all
theorem eX (g:Rows) (n:Nat) (l:List AV):fC g (n+1) (.iL l)=(dH g n l).map AV.iL:=by rw[fC]
theorem C8 (g:Rows) (n:Nat) (l:List AV):fC g (n+1) (.agg l)=(dH g n l).map AV.agg:=by rw[fC]
theorem qa {g:Rows} {n:Nat} {id:Id} {off len sz:Nat} {rows rows':List (List AV)} (h:g id=some ⟨true,sz,rows⟩) (hl:off+len<=rows.length) (hr:gI g n ((rows.drop off).take len)=some rows'):fC g (n+1) (.own id off len)=some (.sl rows'):=by
 rw[fC];simp only[h,if_true,if_pos hl,hr,Option.map_some]
theorem bV (g:Rows) (n:Nat):dH g n []=some []:=by rw[dH]
theorem br (g:Rows) (n:Nat) (a:AV) (l:List AV):dH g n (a::l)=match fC g n a with
  |some b=>(dH g n l).map (b::·)
  |none=>none:=by rw[dH];cases fC g n a<;>rfl
theorem r4 {g:Rows} {n:Nat}:∀{l:List (List AV)},(∀c∈l,dH g n c=some c)->gI g n l=some l
 |[],_=>by rw[gI]
 |c::r,h=>by rw[gI,h c (by simp),r4 fun d hd=>h d (List.mem_cons_of_mem _ hd)];rfl
theorem bf (g:Rows) (n:Nat) (l:List AV):fz g (n+1) (.agg l)=(cm g n l).map AV.agg:=by rw[fz]
theorem aV (g:Rows) (n:Nat) (l:List AV):fz g (n+1) (.cJ l)=some (.cJ l):=by rw[fz]<;>intros<;>simp_all
theorem xu {g:Rows} {n:Nat} {id:Id} {i off sz:Nat} {rows:List (List AV)} {cs oe:List AV} (h:g id=some ⟨true,sz,rows⟩) (hi:rows[i]? =some cs) (hr:cm g n (cs.drop off)=some oe):fz g (n+1) (.ptr id i off)=some (.cJ oe):=by
 rw[fz];simp only[h,if_true,hi,hr,Option.map_some]
theorem aj (g:Rows) (n:Nat):cm g n []=some []:=by rw[cm]
theorem ad (g:Rows) (n:Nat) (a:AV) (l:List AV):cm g n (a::l)=match fz g n a with
  |some b=>(cm g n l).map (b::·)
  |none=>none:=by rw[cm];cases fz g n a<;>rfl
theorem uz {t:Nat} {r r0:AV} {x:Ex} (hx:x=.ret∨x=.normal) (he:env t=r0) (hz:fC σ.get 6 r0=some r):lj [.tmp t] (fun r0 σ'=>∃r',fC σ'.get 6 r0=some r'/\r'=r) x env σ:=by
 have:∃vs,eU env σ.get [.tmp t]=some vs/\∃r',fC σ.get 6 (eF vs)=some r'/\r'=r:=⟨[env t],rfl,r,by subst he;exact hz,rfl⟩
 rcases hx with rfl|rfl
 ·exact this
 ·exact this
theorem aC {t:Nat} {b c:Bool} {x:Ex} (hx:x=.ret∨x=.normal) (he:env t=.bool b) (hb:b=c):lj [.tmp t] (fun r0 σ'=>∃r',fC σ'.get 6 r0=some r'/\r'=.bool c) x env σ:=uz hx he (by rw[e9,hb])
theorem aZ {t:Nat} {k:IntKind} {b c:Int} {x:Ex} (hx:x=.ret∨x=.normal) (he:env t=.int k b) (hb:b=c):lj [.tmp t] (fun r0 σ'=>∃r',fC σ'.get 6 r0=some r'/\r'=.int k c) x env σ:=uz hx he (by rw[eA,hb])
theorem jc {t u:Nat} {r r1 r2:AV} {x:Ex} (hx:x=.ret∨x=.normal) (h1:env t=r1) (h2:env u=r2) (hz:fC σ.get 6 (.iL [r1,r2])=some r):lj [.tmp t,.tmp u] (fun r0 σ'=>∃r',fC σ'.get 6 r0=some r'/\r'=r) x env σ:=by
 have:∃vs,eU env σ.get [.tmp t,.tmp u]=some vs/\∃r',fC σ.get 6 (eF vs)=some r'/\r'=r:=⟨[env t,env u],rfl,r,by subst h1;subst h2;exact hz,rfl⟩
 rcases hx with rfl|rfl
 ·exact this
 ·exact this
structure Pn (p:Prop):Prop where
 out:p
theorem tw {A B:Prop} (a:A) (b:B):A/\B:=⟨a,b⟩
theorem wk {A R G:Prop} (a:A) (r:R) (h:A->R->G:=by
  intro fL kk
  (repeat(refine Pn.mk ?_;intro N hN))
  (first|((first|apply DR|apply DP);intro N hN)|((first|(apply NL;intro N hN)|(apply DO;intro N hN));simp only[go_sem, ↓reduceIte,Nat.reduceEqDiff,Nat.reduceAdd,Nat.reduceSub,Nat.reduceMul,Nat.reduceLeDiff,Nat.reduceBEq,reduceCtorEq,Nat.reduceLT,Int.reduceLE,Int.reduceLT,Int.reduceToNat,Int.reduceNeg,Int.reduceAdd,Int.reduceEq,fL];first|(refine hN _ _ ?_;clear hN N)|skip)|(apply s8;(simp only[go_sem, ↓reduceIte,Nat.reduceEqDiff,Nat.reduceAdd,Nat.reduceSub,Nat.reduceMul,Nat.reduceLeDiff,Nat.reduceBEq,reduceCtorEq,Nat.reduceLT,Int.reduceLE,Int.reduceLT,Int.reduceToNat,Int.reduceNeg,Int.reduceAdd,Int.reduceEq,fL];rfl);first|with_reducible apply m7.t|with_reducible apply m7.f)|(apply DN;refine hN _ _ ?_;clear hN N;try(simp only[dF,bu, ↓reduceIte,Nat.reduceEqDiff]);try(refine hN _ _ ?_;clear hN N))|apply s7|(refine yw ?_ ?_ ?_;(focus(simp only[go_sem, ↓reduceIte,Nat.reduceEqDiff,Nat.reduceAdd,Nat.reduceSub,Nat.reduceMul,Nat.reduceLeDiff,Nat.reduceBEq,reduceCtorEq,Nat.reduceLT,Int.reduceLE,Int.reduceLT,Int.reduceToNat,Int.reduceNeg,Int.reduceAdd,Int.reduceEq,fL];done));(focus(simp only[go_sem, ↓reduceIte,Nat.reduceEqDiff,Nat.reduceAdd,Nat.reduceSub,Nat.reduceMul,Nat.reduceLeDiff,Nat.reduceBEq,reduceCtorEq,Nat.reduceLT,Int.reduceLE,Int.reduceLT,Int.reduceToNat,Int.reduceNeg,Int.reduceAdd,Int.reduceEq,fL];done)))|((first|apply yy|apply yv|apply DQ);try(simp only[dF,bu, ↓reduceIte,Nat.reduceEqDiff]);try(refine hN _ _ ?_;clear hN N))|((first|refine hN _ _ ?_|(clear hN N;first|refine hN _ _ ?_|(clear hN N;first|refine hN _ _ ?_|(clear hN N;first|refine hN _ _ ?_|(clear hN N;refine hN _ _ ?_)))));clear hN N))
  (repeat(first|((first|apply DR|apply DP);intro N hN)|((first|(apply NL;intro N hN)|(apply DO;intro N hN));simp only[go_sem, ↓reduceIte,Nat.reduceEqDiff,Nat.reduceAdd,Nat.reduceSub,Nat.reduceMul,Nat.reduceLeDiff,Nat.reduceBEq,reduceCtorEq,Nat.reduceLT,Int.reduceLE,Int.reduceLT,Int.reduceToNat,Int.reduceNeg,Int.reduceAdd,Int.reduceEq,fL];first|(refine hN _ _ ?_;clear hN N)|skip)|(apply s8;(simp only[go_sem, ↓reduceIte,Nat.reduceEqDiff,Nat.reduceAdd,Nat.reduceSub,Nat.reduceMul,Nat.reduceLeDiff,Nat.reduceBEq,reduceCtorEq,Nat.reduceLT,Int.reduceLE,Int.reduceLT,Int.reduceToNat,Int.reduceNeg,Int.reduceAdd,Int.reduceEq,fL];rfl);first|with_reducible apply m7.t|with_reducible apply m7.f)|(apply DN;refine hN _ _ ?_;clear hN N;try(simp only[dF,bu, ↓reduceIte,Nat.reduceEqDiff]);try(refine hN _ _ ?_;clear hN N))|apply s7|(refine yw ?_ ?_ ?_;(focus(simp only[go_sem, ↓reduceIte,Nat.reduceEqDiff,Nat.reduceAdd,Nat.reduceSub,Nat.reduceMul,Nat.reduceLeDiff,Nat.reduceBEq,reduceCtorEq,Nat.reduceLT,Int.reduceLE,Int.reduceLT,Int.reduceToNat,Int.reduceNeg,Int.reduceAdd,Int.reduceEq,fL];done));(focus(simp only[go_sem, ↓reduceIte,Nat.reduceEqDiff,Nat.reduceAdd,Nat.reduceSub,Nat.reduceMul,Nat.reduceLeDiff,Nat.reduceBEq,reduceCtorEq,Nat.reduceLT,Int.reduceLE,Int.reduceLT,Int.reduceToNat,Int.reduceNeg,Int.reduceAdd,Int.reduceEq,fL];done)))|((first|apply yy|apply yv|apply DQ);try(simp only[dF,bu, ↓reduceIte,Nat.reduceEqDiff]);try(refine hN _ _ ?_;clear hN N))|((first|refine hN _ _ ?_|(clear hN N;first|refine hN _ _ ?_|(clear hN N;first|refine hN _ _ ?_|(clear hN N;first|refine hN _ _ ?_|(clear hN N;refine hN _ _ ?_)))));clear hN N)))
  (repeat(revert hN;revert N;apply Pn.out))
  exact kk):G:=h a r
theorem wa {A R G:Prop} (a:A) (r:R) (h:A->R->G:=by
  intro fL kk
  (repeat(refine Pn.mk ?_;intro N hN))
  (first|((first|apply DR|apply DP);intro N hN)|((first|(refine LD rfl fun N hN=>?_)|(apply DO;intro N hN));simp only[go_sem, ↓reduceIte,Nat.reduceEqDiff,Nat.reduceAdd,Nat.reduceSub,Nat.reduceMul,Nat.reduceLeDiff,Nat.reduceBEq,reduceCtorEq,Nat.reduceLT,Int.reduceLE,Int.reduceLT,Int.reduceToNat,Int.reduceNeg,Int.reduceAdd,Int.reduceEq,fL];first|(refine hN _ _ ?_;clear hN N)|skip)|(apply s8;(simp only[go_sem, ↓reduceIte,Nat.reduceEqDiff,Nat.reduceAdd,Nat.reduceSub,Nat.reduceMul,Nat.reduceLeDiff,Nat.reduceBEq,reduceCtorEq,Nat.reduceLT,Int.reduceLE,Int.reduceLT,Int.reduceToNat,Int.reduceNeg,Int.reduceAdd,Int.reduceEq,fL];rfl);first|with_reducible apply m7.t|with_reducible apply m7.f)|(apply DN;refine hN _ _ ?_;clear hN N;try(simp only[dF,bu, ↓reduceIte,Nat.reduceEqDiff]);try(refine hN _ _ ?_;clear hN N))|apply s7|(refine yw ?_ ?_ ?_;(focus(simp only[go_sem, ↓reduceIte,Nat.reduceEqDiff,Nat.reduceAdd,Nat.reduceSub,Nat.reduceMul,Nat.reduceLeDiff,Nat.reduceBEq,reduceCtorEq,Nat.reduceLT,Int.reduceLE,Int.reduceLT,Int.reduceToNat,Int.reduceNeg,Int.reduceAdd,Int.reduceEq,fL];done));(focus(simp only[go_sem, ↓reduceIte,Nat.reduceEqDiff,Nat.reduceAdd,Nat.reduceSub,Nat.reduceMul,Nat.reduceLeDiff,Nat.reduceBEq,reduceCtorEq,Nat.reduceLT,Int.reduceLE,Int.reduceLT,Int.reduceToNat,Int.reduceNeg,Int.reduceAdd,Int.reduceEq,fL];done)))|((first|apply yy|apply yv|apply DQ);try(simp only[dF,bu, ↓reduceIte,Nat.reduceEqDiff]);try(refine hN _ _ ?_;clear hN N))|((first|refine hN _ _ ?_|(clear hN N;first|refine hN _ _ ?_|(clear hN N;first|refine hN _ _ ?_|(clear hN N;first|refine hN _ _ ?_|(clear hN N;refine hN _ _ ?_)))));clear hN N))
  (repeat(first|((first|apply DR|apply DP);intro N hN)|((first|(refine LD rfl fun N hN=>?_)|(apply DO;intro N hN));simp only[go_sem, ↓reduceIte,Nat.reduceEqDiff,Nat.reduceAdd,Nat.reduceSub,Nat.reduceMul,Nat.reduceLeDiff,Nat.reduceBEq,reduceCtorEq,Nat.reduceLT,Int.reduceLE,Int.reduceLT,Int.reduceToNat,Int.reduceNeg,Int.reduceAdd,Int.reduceEq,fL];first|(refine hN _ _ ?_;clear hN N)|skip)|(apply s8;(simp only[go_sem, ↓reduceIte,Nat.reduceEqDiff,Nat.reduceAdd,Nat.reduceSub,Nat.reduceMul,Nat.reduceLeDiff,Nat.reduceBEq,reduceCtorEq,Nat.reduceLT,Int.reduceLE,Int.reduceLT,Int.reduceToNat,Int.reduceNeg,Int.reduceAdd,Int.reduceEq,fL];rfl);first|with_reducible apply m7.t|with_reducible apply m7.f)|(apply DN;refine hN _ _ ?_;clear hN N;try(simp only[dF,bu, ↓reduceIte,Nat.reduceEqDiff]);try(refine hN _ _ ?_;clear hN N))|apply s7|(refine yw ?_ ?_ ?_;(focus(simp only[go_sem, ↓reduceIte,Nat.reduceEqDiff,Nat.reduceAdd,Nat.reduceSub,Nat.reduceMul,Nat.reduceLeDiff,Nat.reduceBEq,reduceCtorEq,Nat.reduceLT,Int.reduceLE,Int.reduceLT,Int.reduceToNat,Int.reduceNeg,Int.reduceAdd,Int.reduceEq,fL];done));(focus(simp only[go_sem, ↓reduceIte,Nat.reduceEqDiff,Nat.reduceAdd,Nat.reduceSub,Nat.reduceMul,Nat.reduceLeDiff,Nat.reduceBEq,reduceCtorEq,Nat.reduceLT,Int.reduceLE,Int.reduceLT,Int.reduceToNat,Int.reduceNeg,Int.reduceAdd,Int.reduceEq,fL];done)))|((first|apply yy|apply yv|apply DQ);try(simp only[dF,bu, ↓reduceIte,Nat.reduceEqDiff]);try(refine hN _ _ ?_;clear hN N))|((first|refine hN _ _ ?_|(clear hN N;first|refine hN _ _ ?_|(clear hN N;first|refine hN _ _ ?_|(clear hN N;first|refine hN _ _ ?_|(clear hN N;refine hN _ _ ?_)))));clear hN N)))
  (repeat(revert hN;revert N;apply Pn.out))
  exact kk):G:=h a r
theorem sd {A G:Prop} (a:A) (h:A->G:=by
  intro fL
  first|(simp only[go_sem, ↓reduceIte,Nat.reduceEqDiff,Nat.reduceAdd,Nat.reduceSub,Nat.reduceMul,Nat.reduceLeDiff,Nat.reduceBEq,reduceCtorEq,Nat.reduceLT,Int.reduceLE,Int.reduceLT,Int.reduceToNat,Int.reduceNeg,Int.reduceAdd,Int.reduceEq,fL,eU,gK];done)|fail):G:=h a
theorem sl {A G:Prop} (a:A) (h:A->G:=by
  intro fL
  (try simp only[go_sem, ↓reduceIte,Nat.reduceEqDiff,Nat.reduceAdd,Nat.reduceSub,Nat.reduceMul,Nat.reduceLeDiff,Nat.reduceBEq,reduceCtorEq,Nat.reduceLT,Int.reduceLE,Int.reduceLT,Int.reduceToNat,Int.reduceNeg,Int.reduceAdd,Int.reduceEq,fL])
  try rfl):G:=h a
end Go.Proofs.YtihgaadadaekmaaGreatDoor.V

namespace Go.Proofs.YtihgaadadaekmaaGreatDoor.V
open Go.RowKit
variable {P:Program} {X:fv} {env:Env} {σ:ax}
theorem bG (g:Rows) (n:Nat) (l:List AV):fz g (n+1) (.iL l)=(cm g n l).map AV.iL:=by rw[fz]
theorem cN (g:Rows) (n:Nat) (f:Nat) (l:List AV):fz g (n+1) (.fn f l)=if l.all AV.cell then(cm g n l).map (AV.fn f)else none:=by rw[fz]
theorem bo (g:Rows) (n:Nat) (id:Id) (i off:Nat):fz g (n+1) (.ptr id i off)=match g id with
  |some r=>if r.w then(match r.rows[i]? with
   |some cs=>(cm g n (cs.drop off)).map AV.cJ
   |none=>none)else none
  |none=>none:=by rw[fz];rfl
theorem fS (g:Rows) (n:Nat) (id:Id) (off len:Nat):fz g (n+1) (.own id off len)=match g id with
  |some r=>if r.w then(if off+len<=r.rows.length then(dz g n ((r.rows.drop off).take len)).map AV.sl else none)else none
  |none=>none:=by rw[fz];rfl
theorem kW (g:Rows) (n:Nat):dz g n []=some []:=by rw[dz]
theorem p9 (g:Rows) (n:Nat) (c:List AV) (l:List (List AV)):dz g n (c::l)=match cm g n c with
  |some b=>(dz g n l).map (b::·)
  |none=>none:=by rw[dz];cases cm g n c<;>rfl
theorem tH {g:Rows} {n:Nat}:∀{l:List (List AV)},(∀c∈l,cm g n c=some c)->dz g n l=some l
 |[],_=>by rw[dz]
 |c::r,h=>by rw[dz,h c (by simp),tH fun d hd=>h d (List.mem_cons_of_mem _ hd)];rfl
theorem l8 {α:Type} {g:Rows} {n:Nat} {e:α->List AV} {l:List α} (h:∀x,cm g n (e x)=some (e x)):dz g n (l.map e)=some (l.map e):=tH fun c hc=>by
 obtain⟨x,_,rfl⟩:=List.mem_map.1 hc
 exact h x
theorem nG {α:Type} {g:Rows} {n:Nat} {e:α->List AV} {l:List α} (h:∀x,dH g n (e x)=some (e x)):gI g n (l.map e)=some (l.map e):=r4 fun c hc=>by
 obtain⟨x,_,rfl⟩:=List.mem_map.1 hc
 exact h x
theorem e6 {α:Type} {g:Rows} {n:Nat} {e:α->List AV} {l:List α} {id:Id} {sz len:Nat} (hg:g id=some ⟨true,sz,l.map e⟩) (hl:len=l.length) (h:∀x,cm g n (e x)=some (e x)):fz g (n+1) (.own id 0 len)=some (.sl (l.map e)):=by
 subst hl
 rw[fS];simp only[hg,if_true]
 rw[if_pos (by simp),List.drop_zero,List.take_of_length_le (by simp),l8 h];rfl
theorem fG {α:Type} {g:Rows} {n:Nat} {e:α->List AV} {l:List α} {id:Id} {sz len:Nat} (hg:g id=some ⟨true,sz,l.map e⟩) (hl:len=l.length) (h:∀x,dH g n (e x)=some (e x)):fC g (n+1) (.own id 0 len)=some (.sl (l.map e)):=by
 subst hl
 exact qa hg (by simp) (by rw[List.drop_zero,List.take_of_length_le (by simp),nG h])
theorem all_map {α:Type} {e:α->List AV} {sz:Nat} {l:List α} (h:∀x,(e x).length=sz/\(e x).all AV.cell=true):(l.map e).all (fun c=>c.length==sz&&c.all AV.cell)=true:=by
 rw[List.all_eq_true]
 intro c hc
 obtain⟨x,_,rfl⟩:=List.mem_map.1 hc
 simp[(h x).1,(h x).2]
def RowM (P:Program) (f:Nat) (args:List AV) (sz:Nat) (rows:List (List AV)):Prop:=(∀c∈rows,∀a∈c,a.plain=true)/\∀n:Nat,Call P f args ⟨fun _=>none,n⟩ fun r σ'=>∃id,r=.own id 0 rows.length/\σ'.get id=some ⟨true,sz,rows⟩
theorem sH {res:List oC} {r:AV} {vs:List AV} {x:Ex} (hx:x=.ret∨x=.normal) (hv:eU env σ.get res=some vs) (hz:fz σ.get 6 (eF vs)=some r):lj res (fun r0 σ'=>∃r',fz σ'.get 6 r0=some r'/\r'=r) x env σ:=by
 rcases hx with rfl|rfl
 ·exact⟨vs,hv,r,hz,rfl⟩
 ·exact⟨vs,hv,r,hz,rfl⟩
theorem kr {res:List oC} {r:AV} {vs:List AV} {x:Ex} (hx:x=.ret∨x=.normal) (hv:eU env σ.get res=some vs) (hz:fC σ.get 6 (eF vs)=some r):lj res (fun r0 σ'=>∃r',fC σ'.get 6 r0=some r'/\r'=r) x env σ:=by
 rcases hx with rfl|rfl
 ·exact⟨vs,hv,r,hz,rfl⟩
 ·exact⟨vs,hv,r,hz,rfl⟩
theorem gm {res:List oC} {K:AV->ax->Prop} {vs:List AV} {x:Ex} (hx:x=.ret∨x=.normal) (hv:eU env σ.get res=some vs) (hK:K (eF vs) σ):lj res K x env σ:=by
 rcases hx with rfl|rfl
 ·exact⟨vs,hv,hK⟩
 ·exact⟨vs,hv,hK⟩
theorem eW {f:Nat} {args:List AV} {σ:ax} {K:AV->ax->Prop} {nt na:Nat} {body:VC} {res:List oC} (hf:kK P f=some ⟨nt,na,body,res⟩) (ha:na=args.length) (h:(∀a∈args,eE a)->ea (Call P) body (lj res K) (cu args) σ):Call P f args σ K:=ly hf ha h
theorem Ga {f:Nat} {md:List (Nat×Nat)} {args:List AV} {σ:ax} {K:AV->ax->Prop} {nt na:Nat} {body:VC} {res:List oC} (hf:uY P f md=some ⟨nt,na,body,res⟩) (ha:na=args.length) (h:(∀a∈args,eE a)->ea (Call P) body (lj res K) (cu args) σ):Call P f args σ K:=tb hf ha h
theorem eO {i:Id} {n:Nat} (h:i.cq<n):(∀s,(i=⟨s,n⟩)=False/\(i=⟨s,n+1⟩)=False/\(i=⟨s,n+1+1⟩)=False/\(i=⟨s,n+1+1+1⟩)=False/\(i=⟨s,n+1+1+1+1⟩)=False/\(i=⟨s,n+1+1+1+1+1⟩)=False/\(i=⟨s,n+1+1+1+1+1+1⟩)=False/\(i=⟨s,n+1+1+1+1+1+1+1⟩)=False/\(i=⟨s,n+1+1+1+1+1+1+1+1⟩)=False/\(i=⟨s,n+1+1+1+1+1+1+1+1+1⟩)=False/\(⟨s,n⟩=i)=False/\(⟨s,n+1⟩=i)=False/\(⟨s,n+1+1⟩=i)=False/\(⟨s,n+1+1+1⟩=i)=False/\(⟨s,n+1+1+1+1⟩=i)=False/\(⟨s,n+1+1+1+1+1⟩=i)=False/\(⟨s,n+1+1+1+1+1+1⟩=i)=False/\(⟨s,n+1+1+1+1+1+1+1⟩=i)=False/\(⟨s,n+1+1+1+1+1+1+1+1⟩=i)=False/\(⟨s,n+1+1+1+1+1+1+1+1+1⟩=i)=False)/\(i.cq=n)=False/\(i.cq=n+1)=False/\(i.cq=n+1+1)=False/\(i.cq=n+1+1+1)=False/\(i.cq=n+1+1+1+1)=False/\(i.cq=n+1+1+1+1+1)=False/\(i.cq=n+1+1+1+1+1+1)=False/\(i.cq=n+1+1+1+1+1+1+1)=False/\(i.cq=n+1+1+1+1+1+1+1+1)=False/\(i.cq=n+1+1+1+1+1+1+1+1+1)=False:=by
 refine⟨fun s=>?_,?_⟩
 ·obtain⟨a,b⟩:=i
  simp only[Id.mk.injEq,eq_iff_iff,iff_false,not_and]
  simp only at h
  refine⟨?_,?_,?_,?_,?_,?_,?_,?_,?_,?_,?_,?_,?_,?_,?_,?_,?_,?_,?_,?_⟩<;>(intros;omega)
 ·simp only[eq_iff_iff,iff_false]
  refine⟨?_,?_,?_,?_,?_,?_,?_,?_,?_,?_⟩<;>omega
def eM (a b:Nat) (ids:List Id):Prop:=ids.Nodup/\∀i∈ids,a<=i.cq/\i.cq<b
def Kept (σ σ':ax):Prop:=σ.next<=σ'.next/\∀j:Id,j.cq<σ.next->σ'.get j=σ.get j
theorem eM.wide {a b a' b':Nat} {ids:List Id} (h:eM a b ids) (h1:a'<=a) (h2:b<=b'):eM a' b' ids:=⟨h.1,fun i hi=>⟨Nat.le_trans h1 (h.2 i hi).1,Nat.lt_of_lt_of_le (h.2 i hi).2 h2⟩⟩
theorem eM.app {a b c d:Nat} {i j:List Id} (h:eM a b i) (k:eM c d j) (hbc:b<=c) (r8:a<=b) (hcd:c<=d):eM a d (i++j):=
 ⟨List.nodup_append.2 ⟨h.1,k.1,fun x hx y hy e=>by subst e;have:=(h.2 x hx).2;have:=(k.2 x hy).1;omega⟩,fun x hx=>by
  rcases List.mem_append.1 hx with hx|hx
  ·have:=h.2 x hx;omega
  ·have:=k.2 x hx;omega⟩
end Go.Proofs.YtihgaadadaekmaaGreatDoor.V

namespace Go.Proofs.YtihgaadadaekmaaGreatDoor.V
open Go.RowKit
attribute [local irreducible] ea wpOps gR Call
attribute [local go_sem] aM fP eL gh ga cE upd cu K.av cL AV.cells AV.cell rowOf rowsOf part ld rowAt bY ck dI ef ig bL da ez gn e7 du ek cY cX dV dW bR bm cQ bQ cT cR ei eo ej cP bW cZ eh bP aQ cV cC ib bw cH bS aY dF bu dK AV.undef bF bH dY ee dU eb cF ew eD cw eu er cU cW List.getD_cons_zero List.getD_cons_succ List.getD_nil List.all_cons List.all_nil Bool.and_true Bool.true_and Bool.and_self Bool.not_true Bool.not_false Option.map_some Option.map_none Option.bind_some Option.bind_none List.length_cons List.length_nil List.take_succ_cons List.take_zero List.take_nil List.drop_succ_cons List.drop_zero List.drop_nil List.head?_cons List.map_cons List.map_nil List.getElem?_cons_zero List.getElem?_cons_succ List.cons_append List.nil_append List.append_nil List.length_map List.set_cons_zero List.set_cons_succ Nat.reduceMul eq_self Int.toNat_natCast Int.natCast_nonneg and_self true_and and_true decide_true decide_false Bool.false_eq_true Nat.zero_add Nat.add_zero List.contains_cons List.contains_nil Bool.or_false Bool.false_or beq_self_eq_true Nat.reduceBEq ne_eq not_true_eq_false not_false_eq_true Id.mk.injEq false_and and_false Nat.reduceLT Int.reduceLE Int.reduceLT Int.reduceToNat Int.reduceNeg Int.reduceAdd Nat.le_refl List.length_append beq_true beq_false Bool.not_eq_eq_eq_not or_false false_or dE ad aj aI bE cj aW bf aV bo cN bG
variable {P:Program}
def Iu (f g z:Nat):yC:=let s:=f*1000000
 ⟨27,2,(.seq (.eG false [q 4 (.db (.k (.int .i64 0))) s]) (.seq (.eG false [q 6 (.db (.t 1)) (s+1000),q 7 (.db (.t 0)) (s+1001),q 8 (.len (.t 7)) (s+1002),q 9 (.bin .sub .i64 (.t 6) (.t 8)) (s+1003),q 1 (.db (.t 9)) (s+1004)]) (.seq (.seq (.eG false [q 10 (.db (.t 1)) (s+2000),q 11 (.bin .lss .i64 (.t 10) (.k (.int .i64 0))) (s+2001)]) (.cond (.t 11) (.seq (.eG false [q 4 (.db (.k (.int .i64 (-1)))) (s+3000)]) .ret) .skip)) (.seq (.seq (.eG false [q 5 (.db (.k (.int .i64 0))) (s+4000)]) (.block 0 (.loop (.seq (.seq (.eG false [q 12 (.db (.t 5)) (s+5000),q 13 (.db (.t 0)) (s+5001),q 14 (.len (.t 13)) (s+5002),q 15 (.bin .lss .i64 (.t 12) (.t 14)) (s+5003)]) (.cond (.t 15) .skip (.exit 0))) (.seq (.block 1 (.seq (.eG false [q 18 (.db (.t 0)) (s+7000),q 19 (.db (.t 5)) (s+7001),q 20 (.dy z (.t 18) (.t 19)) (s+7002),q 21 (.load true z (.t 20)) (s+7003),q 22 (.db (.t 1)) (s+7004),q 23 (.call g [(.t 21),(.t 22)]) (s+7005),q 1 (.db (.t 23)) (s+7006)]) (.seq (.eG false [q 24 (.db (.t 1)) (s+8000),q 25 (.bin .lss .i64 (.t 24) (.k (.int .i64 0))) (s+8001)]) (.cond (.t 25) (.seq (.eG false [q 4 (.db (.k (.int .i64 (-1)))) (s+9000)]) .ret) .skip)))) (.eG false [q 16 (.db (.t 5)) (s+6000),q 17 (.bin .add .i64 (.t 16) (.k (.int .i64 1))) (s+6001),q 5 (.db (.t 17)) (s+6002)])))))) (.seq (.eG false [q 26 (.db (.t 1)) (s+10000),q 4 (.db (.t 26)) (s+10001)]) .ret))))),[(.tmp 4)]⟩
def DK (f:Nat):yC:=let s:=f*1000000
 ⟨12,2,(.seq (.eG false [q 4 (.db (.k (.int .i64 0))) s]) (.seq (.eG false [q 5 (.db (.t 1)) (s+1000),q 6 (.db (.t 0)) (s+1001),q 7 (.len (.t 6)) (s+1002),q 8 (.bin .sub .i64 (.t 5) (.t 7)) (s+1003),q 1 (.db (.t 8)) (s+1004)]) (.seq (.seq (.eG false [q 9 (.db (.t 1)) (s+2000),q 10 (.bin .lss .i64 (.t 9) (.k (.int .i64 0))) (s+2001)]) (.cond (.t 10) (.seq (.eG false [q 4 (.db (.k (.int .i64 (-1)))) (s+3000)]) .ret) .skip)) (.seq (.eG false [q 11 (.db (.t 1)) (s+4000),q 4 (.db (.t 11)) (s+4001)]) .ret)))),[(.tmp 4)]⟩
def zk (f g z:Nat):yC:=let s:=f*1000000
 ⟨27,2,(.seq (.eG false [q 4 (.db (.k (.bool false))) s]) (.seq (.seq (.eG false [q 6 (.db (.t 0)) (s+1000),q 7 (.len (.t 6)) (s+1001),q 8 (.db (.t 1)) (s+1002),q 9 (.len (.t 8)) (s+1003),q 10 (.L6 true .tI (.t 7) (.t 9)) (s+1004)]) (.cond (.t 10) (.seq (.eG false [q 4 (.db (.k (.bool false))) (s+2000)]) .ret) .skip)) (.seq (.seq (.eG false [q 5 (.db (.k (.int .i64 0))) (s+3000)]) (.block 0 (.loop (.seq (.seq (.eG false [q 11 (.db (.t 5)) (s+4000),q 12 (.db (.t 0)) (s+4001),q 13 (.len (.t 12)) (s+4002),q 14 (.bin .lss .i64 (.t 11) (.t 13)) (s+4003)]) (.cond (.t 14) .skip (.exit 0))) (.seq (.block 1 (.seq (.eG true [q 17 (.db (.t 0)) (s+6000),q 18 (.db (.t 5)) (s+6001),q 19 (.dy z (.t 17) (.t 18)) (s+6002),q 20 (.load true z (.t 19)) (s+6003),q 21 (.db (.t 1)) (s+6004),q 22 (.db (.t 5)) (s+6005),q 23 (.dy z (.t 21) (.t 22)) (s+6006),q 24 (.load true z (.t 23)) (s+6007),q 25 (.call g [(.t 20),(.t 24)]) (s+6008),q 26 (.not (.t 25)) (s+6009)]) (.cond (.t 26) (.seq (.eG false [q 4 (.db (.k (.bool false))) (s+7000)]) .ret) .skip))) (.eG false [q 15 (.db (.t 5)) (s+5000),q 16 (.bin .add .i64 (.t 15) (.k (.int .i64 1))) (s+5001),q 5 (.db (.t 16)) (s+5002)])))))) (.seq (.eG false [q 4 (.db (.k (.bool true))) (s+8000)]) .ret)))),[(.tmp 4)]⟩
def K5 (f:Nat) (t:TS):yC:=let s:=f*1000000
 ⟨26,2,(.seq (.eG false [q 4 (.db (.k (.bool false))) s]) (.seq (.seq (.eG false [q 6 (.db (.t 0)) (s+1000),q 7 (.len (.t 6)) (s+1001),q 8 (.db (.t 1)) (s+1002),q 9 (.len (.t 8)) (s+1003),q 10 (.L6 true .tI (.t 7) (.t 9)) (s+1004)]) (.cond (.t 10) (.seq (.eG false [q 4 (.db (.k (.bool false))) (s+2000)]) .ret) .skip)) (.seq (.seq (.eG false [q 5 (.db (.k (.int .i64 0))) (s+3000)]) (.block 0 (.loop (.seq (.seq (.eG false [q 11 (.db (.t 5)) (s+4000),q 12 (.db (.t 0)) (s+4001),q 13 (.len (.t 12)) (s+4002),q 14 (.bin .lss .i64 (.t 11) (.t 13)) (s+4003)]) (.cond (.t 14) .skip (.exit 0))) (.seq (.block 1 (.seq (.eG true [q 17 (.db (.t 0)) (s+6000),q 18 (.db (.t 5)) (s+6001),q 19 (.dy 1 (.t 17) (.t 18)) (s+6002),q 20 (.load false 1 (.t 19)) (s+6003),q 21 (.db (.t 1)) (s+6004),q 22 (.db (.t 5)) (s+6005),q 23 (.dy 1 (.t 21) (.t 22)) (s+6006),q 24 (.load false 1 (.t 23)) (s+6007),q 25 (.L6 true t (.t 20) (.t 24)) (s+6008)]) (.cond (.t 25) (.seq (.eG false [q 4 (.db (.k (.bool false))) (s+7000)]) .ret) .skip))) (.eG false [q 15 (.db (.t 5)) (s+5000),q 16 (.bin .add .i64 (.t 15) (.k (.int .i64 1))) (s+5001),q 5 (.db (.t 16)) (s+5002)])))))) (.seq (.eG false [q 4 (.db (.k (.bool true))) (s+8000)]) .ret)))),[(.tmp 4)]⟩
def oW (f g z:Nat) (zero:List K):yC:=let s:=f*1000000
 ⟨23,1,(.seq (.eG false [q 2 (.db (.k .bK)) s]) (.seq (.eG false [q 5 (.db (.t 0)) (s+1000),q 6 (.len (.t 5)) (s+1001),q 7 (.jy zero (.t 6) (.t 6)) (s+1002),q 3 (.db (.t 7)) (s+1003)]) (.seq (.seq (.eG false [q 4 (.db (.k (.int .i64 0))) (s+2000)]) (.block 0 (.loop (.seq (.seq (.eG false [q 8 (.db (.t 4)) (s+3000),q 9 (.db (.t 0)) (s+3001),q 10 (.len (.t 9)) (s+3002),q 11 (.bin .lss .i64 (.t 8) (.t 10)) (s+3003)]) (.cond (.t 11) .skip (.exit 0))) (.seq (.block 1 (.eG false [q 14 (.db (.t 3)) (s+5000),q 15 (.db (.t 4)) (s+5001),q 16 (.db (.t 0)) (s+5002),q 17 (.db (.t 4)) (s+5003),q 18 (.dy z (.t 16) (.t 17)) (s+5004),q 19 (.load true z (.t 18)) (s+5005),q 20 (.call g [(.t 19)]) (s+5006),q 21 (.dy z (.t 14) (.t 15)) (s+5007),⟨none,(.store z (.t 21) (.t 20)),none,(s+5008),[]⟩])) (.eG false [q 12 (.db (.t 4)) (s+4000),q 13 (.bin .add .i64 (.t 12) (.k (.int .i64 1))) (s+4001),q 4 (.db (.t 13)) (s+4002)])))))) (.seq (.eG false [q 22 (.db (.t 3)) (s+6000),q 2 (.db (.t 22)) (s+6001)]) .ret)))),[(.tmp 2)]⟩
def IH (f:Nat) (zero:K):yC:=let s:=f*1000000
 ⟨22,1,(.seq (.eG false [q 2 (.db (.k .bK)) s]) (.seq (.eG false [q 5 (.db (.t 0)) (s+1000),q 6 (.len (.t 5)) (s+1001),q 7 (.jy [zero] (.t 6) (.t 6)) (s+1002),q 3 (.db (.t 7)) (s+1003)]) (.seq (.seq (.eG false [q 4 (.db (.k (.int .i64 0))) (s+2000)]) (.block 0 (.loop (.seq (.seq (.eG false [q 8 (.db (.t 4)) (s+3000),q 9 (.db (.t 0)) (s+3001),q 10 (.len (.t 9)) (s+3002),q 11 (.bin .lss .i64 (.t 8) (.t 10)) (s+3003)]) (.cond (.t 11) .skip (.exit 0))) (.seq (.block 1 (.eG false [q 14 (.db (.t 3)) (s+5000),q 15 (.db (.t 4)) (s+5001),q 16 (.db (.t 0)) (s+5002),q 17 (.db (.t 4)) (s+5003),q 18 (.dy 1 (.t 16) (.t 17)) (s+5004),q 19 (.load false 1 (.t 18)) (s+5005),q 20 (.dy 1 (.t 14) (.t 15)) (s+5006),⟨none,(.store 1 (.t 20) (.t 19)),none,(s+5007),[]⟩])) (.eG false [q 12 (.db (.t 4)) (s+4000),q 13 (.bin .add .i64 (.t 12) (.k (.int .i64 1))) (s+4001),q 4 (.db (.t 13)) (s+4002)])))))) (.seq (.eG false [q 21 (.db (.t 3)) (s+6000),q 2 (.db (.t 21)) (s+6001)]) .ret)))),[(.tmp 2)]⟩
def s5 (n:Nat) (l:Int):Int:=if (n:Int)<=l then l-n else -1
theorem CB {fk:Nat} (hc:kK P fk=some (DK fk)) (rows:List (List AV)) (left:Int) (h0:0<=left) (h1:left<=1048576):ae P fk [.sl rows,.int .i64 left] (.int .i64 (s5 rows.length left)):=by
 refine ae.body hc rfl fun hl n0=>?_
 try simp only[q]
 have hn:rows.length<=9223372036854775807:=(hl (.sl rows) (by simp)).len
 clear hl
 have hw:IntKind.i64.wrap (left-(rows.length:Int))=left-rows.length:=aT ab
 by_cases hf:(rows.length:Int)<=left
 ·have kI:¬left-(rows.length:Int)<0:=ab
  (try((repeat(revert hN;revert N;apply Pn.out));refine wk (tw @hw @kI) ?_;(repeat(refine Pn.mk ?_;intro N hN))))
  exact aZ (b:=left-(rows.length:Int)) (.inl rfl) (sd @Nat.zero_add) (by rw[s5,if_pos hf])
 ·have kI:left-(rows.length:Int)<0:=ab
  (try((repeat(revert hN;revert N;apply Pn.out));refine wk (tw @hw @kI) ?_;(repeat(refine Pn.mk ?_;intro N hN))))
  exact aZ (b:=-1) (.inl rfl) (sd @Nat.zero_add) (by rw[s5,if_neg hf])
def eV {α:Type} (f:α->Nat) (xs:List α) (k:Nat):Nat:=((xs.take k).map f).sum
theorem gC {α:Type} (f:α->Nat) (xs:List α):eV f xs 0=0:=by simp[eV]
theorem qG {α:Type} (f:α->Nat) (xs:List α):eV f xs xs.length=(xs.map f).sum:=by simp[eV]
theorem mm {α:Type} (f:α->Nat) {xs:List α} {k:Nat} (hk:k<xs.length):eV f xs (k+1)=eV f xs k+f xs[k]:=by
 unfold eV
 rw[List.take_succ_eq_append_getElem hk,List.map_append,List.sum_append];simp
theorem jA {α:Type} (f:α->Nat) (xs:List α) (k:Nat):eV f xs k<=(xs.map f).sum:=by
 unfold eV
 conv=>rhs;rw[<-List.take_append_drop k xs]
 rw[List.map_append,List.sum_append];omega
theorem Iv {α:Type} {e:α->List AV} {z fk gk:Nat} (wt:α->Nat) (hc:kK P fk=some (Iu fk gk z)) (hz:∀x,(e x).length=z) (Df:∀x g,cm g 6 [.agg (e x)]=some [.agg (e x)]) (xs:List α) (left:Int) (h0:0<=left) (h1:left<=1048576)
  (hg:∀x∈xs,∀l:Int,0<=l->l<=1048576->ae P gk [.agg (e x),.int .i64 l] (.int .i64 (s5 (wt x) l))):ae P fk [.sl (xs.map e),.int .i64 left] (.int .i64 (s5 (xs.length+(xs.map wt).sum) left)):=by
 refine ae.body hc rfl fun hl n0=>?_
 try simp only[q]
 have hn:xs.length<=9223372036854775807:=by simpa using(hl (.sl (xs.map e)) (by simp)).len
 clear hl
 have hw:IntKind.i64.wrap (left-(xs.length:Int))=left-xs.length:=aT ab
 by_cases hf:(xs.length:Int)<=left
 ·have kI:¬left-(xs.length:Int)<0:=ab
  (try((repeat(revert hN;revert N;apply Pn.out));refine wk (tw @hw @kI) ?_;(repeat(refine Pn.mk ?_;intro N hN))))
  refine aP (fun n env st=>∃k:Nat,n=(xs.length)-k/\k<=(xs.length)/\env 5=.int .i64 (k:Int)/\env 1=(.int .i64 (left-xs.length-(eV wt xs k:Nat)))/\(0<=left-xs.length-(eV wt xs k:Nat))) (xs.length) ⟨0,ab,ab,sl (tw @gC (tw @Int.natCast_zero @Int.sub_zero)),sl (tw @gC (tw @Int.natCast_zero @Int.sub_zero)),(by rw[gC];omega)⟩ ?_
  rintro n_a env_a st_a ⟨k,rfl,ale,a5,a1,jW⟩ dm
  have a0:=dm 0 (by kernel_rfl)
  simp only[go_sem, ↓reduceIte,Nat.reduceEqDiff,Nat.reduceAdd,Nat.reduceSub,Nat.reduceLeDiff,reduceCtorEq,gC,Int.natCast_zero,Int.sub_zero]at a0
  clear dm
  by_cases hk:(k:Int)<(xs.length:Int)
  ·have bD:∀{e:Env},(e 5=.int .i64 (IntKind.i64.wrap ((k:Int)+1)))->(e 1=(.int .i64 (left-xs.length-(eV wt xs (k+1):Nat))))->(0<=left-xs.length-(eV wt xs (k+1):Nat))->∃m0,m0<(xs.length)-k/\∃k:Nat,m0=(xs.length)-k/\k<=(xs.length)/\e 5=.int .i64 (k:Int)/\e 1=(.int .i64 (left-xs.length-(eV wt xs k:Nat)))/\(0<=left-xs.length-(eV wt xs k:Nat)):=fun x1 x2 x3=>⟨_,ab,k+1,rfl,ab,(by rw[x1,ay ab]),x2,x3⟩
   have dX:k<xs.length:=ab
   have eB:(xs.map e)[k]? =some (e xs[k]):=by simp[dX]
   have sb:=hz xs[k]
   have ht:(e xs[k]).take z=e xs[k]:=by rw[<-sb,List.take_length]
   have hs:=mm wt dX
   have sU:=jA wt xs (k+1)
   have ft:=hg _ (List.getElem_mem dX) (left-xs.length-(eV wt xs k:Nat)) jW ab
   have k5:cm (dE st_a.get) 6 [.agg (e xs[k]),.int .i64 (left-xs.length-(eV wt xs k:Nat))]=some [.agg (e xs[k]),.int .i64 (left-xs.length-(eV wt xs k:Nat))]:=by
    have q1:=Df xs[k] (dE st_a.get)
    rw[ad,aj]at q1
    rw[ad,ad,aj,aI]
    revert q1
    cases V.fz (dE st_a.get) 6 (.agg (e xs[k]))<;>simp
   by_cases ve:(wt xs[k]:Int)<=left-xs.length-(eV wt xs k:Nat)
   ·rw[s5,if_pos ve]at ft
    have On:¬left-xs.length-(eV wt xs k:Nat)-(wt xs[k]:Int)<0:=ab
    have tT:left-xs.length-(eV wt xs k:Nat)-(wt xs[k]:Int)=left-xs.length-(eV wt xs (k+1):Nat):=by rw[hs];omega
    generalize hex:e xs[k]=c at ft k5 eB sb ht
    (try((repeat(revert hN;revert N;apply Pn.out));refine wk (tw @a5 (tw @a1 (tw @a0 (tw @hk (tw @eB (tw @sb (tw @ht @Nat.le_refl))))))) ?_;(repeat(refine Pn.mk ?_;intro N hN))))
    refine .inl ⟨_,ae.x ft k5,?_⟩
    refine hN _ _ ?_
    clear hN N
    (try((repeat(revert hN;revert N;apply Pn.out));refine wk (tw @a5 (tw @a1 (tw @a0 @On))) ?_;(repeat(refine Pn.mk ?_;intro N hN))))
    refine bD ?_ ?_ ((by rw[hs];omega))
    all_goals simp only[go_sem, ↓reduceIte,Nat.reduceEqDiff,Nat.reduceAdd,Nat.reduceSub,Nat.reduceLeDiff,reduceCtorEq,a5,a1,a0,tT]
   ·rw[s5,if_neg ve]at ft
    generalize hex:e xs[k]=c at ft k5 eB sb ht
    (try((repeat(revert hN;revert N;apply Pn.out));refine wk (tw @a5 (tw @a1 (tw @a0 (tw @hk (tw @eB (tw @sb (tw @ht @Nat.le_refl))))))) ?_;(repeat(refine Pn.mk ?_;intro N hN))))
    refine .inl ⟨_,ae.x ft k5,?_⟩
    refine hN _ _ ?_
    clear hN N
    (try((repeat(revert hN;revert N;apply Pn.out));refine wk (tw @a5 (tw @a1 @a0)) ?_;(repeat(refine Pn.mk ?_;intro N hN))))
    exact aZ (b:=-1) (.inl rfl) (sd @Nat.zero_add) (by rw[s5,if_neg ab])
  ·(try((repeat(revert hN;revert N;apply Pn.out));refine wk (tw @a5 (tw @a1 (tw @a0 @hk))) ?_;(repeat(refine Pn.mk ?_;intro N hN))))
   have dX:k=xs.length:=ab
   subst dX
   have Pu:=qG wt xs
   exact aZ (b:=left-xs.length-(eV wt xs xs.length:Nat)) (.inl rfl) (sd (tw @a5 (tw @a1 @a0))) (by rw[s5,if_pos ab];omega)
 ·have kI:left-(xs.length:Int)<0:=ab
  (try((repeat(revert hN;revert N;apply Pn.out));refine wk (tw @hw @kI) ?_;(repeat(refine Pn.mk ?_;intro N hN))))
  exact aZ (b:=-1) (.inl rfl) (sd @Nat.zero_add) (by rw[s5,if_neg ab])
theorem GU {α:Type} {xs ys:List α} (hl:xs.length=ys.length) (h:∀j:Nat,j<xs.length->∀(h1:j<xs.length) (h2:j<ys.length),xs[j]=ys[j]):xs=ys:=List.ext_getElem hl fun j h1 h2=>h j h1 h1 h2
theorem xl {α:Type} [DecidableEq α] {e:α->List AV} {z fk gk:Nat} (hc:kK P fk=some (zk fk gk z)) (hz:∀x,(e x).length=z) (Df:∀x g,cm g 6 [.agg (e x)]=some [.agg (e x)]) (xs ys:List α)
  (hg:∀x y,ae P gk [.agg (e x),.agg (e y)] (.bool (decide (x=y)))):ae P fk [.sl (xs.map e),.sl (ys.map e)] (.bool (decide (xs=ys))):=by
 refine ae.body hc rfl fun hl n0=>?_
 try simp only[q]
 have hn:xs.length<=9223372036854775807:=by simpa using(hl (.sl (xs.map e)) (by simp)).len
 clear hl
 by_cases hlen:xs.length=ys.length
 ·have ke:decide ((xs.length:Int)=(ys.length:Int))=true:=by simp[hlen]
  (try((repeat(revert hN;revert N;apply Pn.out));refine wk @ke ?_;(repeat(refine Pn.mk ?_;intro N hN))))
  refine aP (fun n env st=>∃k:Nat,n=(xs.length)-k/\k<=(xs.length)/\env 5=.int .i64 (k:Int)/\(∀j:Nat,j<k->∀(h1:j<xs.length) (h2:j<ys.length),xs[j]=ys[j])) (xs.length) ⟨0,ab,ab,sl @Nat.zero_add,fun _ h=>absurd h (Nat.not_lt_zero _)⟩ ?_
  rintro n_a env_a st_a ⟨k,rfl,ale,a5,iM⟩ dm
  have a0:=dm 0 (by kernel_rfl);have a1:=dm 1 (by kernel_rfl)
  simp only[go_sem, ↓reduceIte,Nat.reduceEqDiff,Nat.reduceAdd,Nat.reduceSub,Nat.reduceLeDiff,reduceCtorEq]at a0 a1
  clear dm
  by_cases hk:(k:Int)<(xs.length:Int)
  ·have bD:∀{e:Env},(e 5=.int .i64 (IntKind.i64.wrap ((k:Int)+1)))->(∀(h1:k<xs.length) (h2:k<ys.length),xs[k]=ys[k])->∃m0,m0<(xs.length)-k/\∃k:Nat,m0=(xs.length)-k/\k<=(xs.length)/\e 5=.int .i64 (k:Int)/\(∀j:Nat,j<k->∀(h1:j<xs.length) (h2:j<ys.length),xs[j]=ys[j]):=fun x1 x2=>⟨_,ab,k+1,rfl,ab,(by rw[x1,ay ab]),(all_succ iM x2)⟩
   have dX:k<xs.length:=ab
   have Q4:k<ys.length:=ab
   have eB:(xs.map e)[k]? =some (e xs[k]):=by simp[dX]
   have BH:(ys.map e)[k]? =some (e ys[k]):=by simp[Q4]
   have sb:=hz xs[k]
   have BQ:=hz ys[k]
   have ht:(e xs[k]).take z=e xs[k]:=by rw[<-sb,List.take_length]
   have F2:(e ys[k]).take z=e ys[k]:=by rw[<-BQ,List.take_length]
   have ft:=hg xs[k] ys[k]
   have k5:∀g,cm g 6 [.agg (e xs[k]),.agg (e ys[k])]=some [.agg (e xs[k]),.agg (e ys[k])]:=fun g=>by
    have q1:=Df xs[k] g
    have q2:=Df ys[k] g
    rw[ad,aj]at q1
    rw[ad,q2]
    revert q1
    cases V.fz g 6 (.agg (e xs[k]))<;>simp
   by_cases heq:xs[k]=ys[k]
   ·rw[decide_eq_true heq]at ft
    generalize hex:e xs[k]=c at ft k5 eB sb ht
    generalize hey:e ys[k]=d at ft k5 BH BQ F2
    (try((repeat(revert hN;revert N;apply Pn.out));refine wk (tw @a5 (tw @a0 (tw @a1 (tw @hk (tw @eB (tw @BH (tw @sb (tw @BQ (tw @ht (tw @F2 @Nat.le_refl)))))))))) ?_;(repeat(refine Pn.mk ?_;intro N hN))))
    refine⟨_,ae.x ft (k5 _),?_⟩
    refine hN _ _ ?_
    clear hN N
    (try((repeat(revert hN;revert N;apply Pn.out));refine wk (tw @a5 (tw @a0 @a1)) ?_;(repeat(refine Pn.mk ?_;intro N hN))))
    exact bD (sd (tw @a5 (tw @a0 @a1))) (fun _ _=>heq)
   ·rw[decide_eq_false heq]at ft
    generalize hex:e xs[k]=c at ft k5 eB sb ht
    generalize hey:e ys[k]=d at ft k5 BH BQ F2
    (try((repeat(revert hN;revert N;apply Pn.out));refine wk (tw @a5 (tw @a0 (tw @a1 (tw @hk (tw @eB (tw @BH (tw @sb (tw @BQ (tw @ht (tw @F2 @Nat.le_refl)))))))))) ?_;(repeat(refine Pn.mk ?_;intro N hN))))
    refine⟨_,ae.x ft (k5 _),?_⟩
    refine hN _ _ ?_
    clear hN N
    (try((repeat(revert hN;revert N;apply Pn.out));refine wk (tw @a5 (tw @a0 @a1)) ?_;(repeat(refine Pn.mk ?_;intro N hN))))
    exact aC (b:=false) (.inl rfl) (sd @Nat.zero_add) (decide_eq_false fun h=>heq (List.getElem_of_eq h _)).symm
  ·(try((repeat(revert hN;revert N;apply Pn.out));refine wk (tw @a5 (tw @a0 (tw @a1 @hk))) ?_;(repeat(refine Pn.mk ?_;intro N hN))))
   exact aC (b:=true) (.inl rfl) (sd @Nat.zero_add) (decide_eq_true (GU hlen fun j hj h1 h2=>iM j ab h1 h2)).symm
 ·have ke:decide ((xs.length:Int)=(ys.length:Int))=false:=decide_eq_false fun h=>hlen ab
  (try((repeat(revert hN;revert N;apply Pn.out));refine wk @ke ?_;(repeat(refine Pn.mk ?_;intro N hN))))
  exact aC (b:=false) (.inl rfl) (sd @Nat.zero_add) (decide_eq_false fun h=>hlen (by subst h;rfl)).symm
theorem OZ {fk:Nat} (hc:kK P fk=some (K5 fk .tI)) (xs ys:List Int):
  ae P fk [.sl (xs.map fun x=>[AV.int .i64 x]),.sl (ys.map fun x=>[AV.int .i64 x])] (.bool (decide (xs=ys))):=by
 refine ae.body hc rfl fun hl n0=>?_
 try simp only[q]
 have hn:xs.length<=9223372036854775807:=by simpa using(hl (.sl (xs.map fun x=>[AV.int .i64 x])) (by simp)).len
 clear hl
 by_cases hlen:xs.length=ys.length
 ·have ke:decide ((xs.length:Int)=(ys.length:Int))=true:=by simp[hlen]
  (try((repeat(revert hN;revert N;apply Pn.out));refine wk @ke ?_;(repeat(refine Pn.mk ?_;intro N hN))))
  refine aP (fun n env st=>∃k:Nat,n=(xs.length)-k/\k<=(xs.length)/\env 5=.int .i64 (k:Int)/\(∀j:Nat,j<k->∀(h1:j<xs.length) (h2:j<ys.length),xs[j]=ys[j])) (xs.length) ⟨0,ab,ab,sl @Nat.zero_add,fun _ h=>absurd h (Nat.not_lt_zero _)⟩ ?_
  rintro n_a env_a st_a ⟨k,rfl,ale,a5,iM⟩ dm
  have a0:=dm 0 (by kernel_rfl);have a1:=dm 1 (by kernel_rfl)
  simp only[go_sem, ↓reduceIte,Nat.reduceEqDiff,Nat.reduceAdd,Nat.reduceSub,Nat.reduceLeDiff,reduceCtorEq]at a0 a1
  clear dm
  by_cases hk:(k:Int)<(xs.length:Int)
  ·have bD:∀{e:Env},(e 5=.int .i64 (IntKind.i64.wrap ((k:Int)+1)))->(∀(h1:k<xs.length) (h2:k<ys.length),xs[k]=ys[k])->∃m0,m0<(xs.length)-k/\∃k:Nat,m0=(xs.length)-k/\k<=(xs.length)/\e 5=.int .i64 (k:Int)/\(∀j:Nat,j<k->∀(h1:j<xs.length) (h2:j<ys.length),xs[j]=ys[j]):=fun x1 x2=>⟨_,ab,k+1,rfl,ab,(by rw[x1,ay ab]),(all_succ iM x2)⟩
   have dX:k<xs.length:=ab
   have Q4:k<ys.length:=ab
   have eB:(xs.map fun x=>[AV.int .i64 x])[k]? =some [.int .i64 xs[k]]:=by simp[dX]
   have BH:(ys.map fun x=>[AV.int .i64 x])[k]? =some [.int .i64 ys[k]]:=by simp[Q4]
   by_cases heq:xs[k]=ys[k]
   ·have hq:=decide_eq_true heq
    (try((repeat(revert hN;revert N;apply Pn.out));refine wk (tw @a5 (tw @a0 (tw @a1 (tw @hk (tw @eB (tw @BH @hq)))))) ?_;(repeat(refine Pn.mk ?_;intro N hN))))
    exact bD (sd (tw @a5 (tw @a0 @a1))) (fun _ _=>heq)
   ·have hq:=decide_eq_false heq
    (try((repeat(revert hN;revert N;apply Pn.out));refine wk (tw @a5 (tw @a0 (tw @a1 (tw @hk (tw @eB (tw @BH @hq)))))) ?_;(repeat(refine Pn.mk ?_;intro N hN))))
    exact aC (b:=false) (.inl rfl) (sd @Nat.zero_add) (decide_eq_false fun h=>heq (List.getElem_of_eq h _)).symm
  ·(try((repeat(revert hN;revert N;apply Pn.out));refine wk (tw @a5 (tw @a0 (tw @a1 @hk))) ?_;(repeat(refine Pn.mk ?_;intro N hN))))
   exact aC (b:=true) (.inl rfl) (sd @Nat.zero_add) (decide_eq_true (GU hlen fun j hj h1 h2=>iM j ab h1 h2)).symm
 ·have ke:decide ((xs.length:Int)=(ys.length:Int))=false:=decide_eq_false fun h=>hlen ab
  (try((repeat(revert hN;revert N;apply Pn.out));refine wk @ke ?_;(repeat(refine Pn.mk ?_;intro N hN))))
  exact aC (b:=false) (.inl rfl) (sd @Nat.zero_add) (decide_eq_false fun h=>hlen (by subst h;rfl)).symm
theorem tk (l:List AV):l++[]=l:=List.append_nil l
def gq {α:Type} (e:α->List AV) (zc:List AV) (xs:List α) (k:Nat):List (List AV):=(xs.take k).map e++List.replicate (xs.length-k) zc
theorem ny {α:Type} (e:α->List AV) (zc:List AV) (xs:List α):List.replicate xs.length zc=gq e zc xs 0:=by simp[gq]
theorem pd {α:Type} (e:α->List AV) (zc:List AV) (xs:List α):gq e zc xs xs.length=xs.map e:=by simp[gq]
theorem pe {α:Type} (e:α->List AV) (zc:List AV) (xs:List α) {k:Nat} (hk:k<xs.length):(gq e zc xs k)[k]? =some zc:=by
 have h1:((xs.take k).map e).length=k:=by simp;omega
 rw[gq,List.getElem?_append_right ab,h1,Nat.sub_self,List.getElem?_replicate,if_pos ab]
theorem pf {α:Type} (e:α->List AV) (zc:List AV) (xs:List α) {k:Nat} (hk:k<xs.length):(gq e zc xs k).set k (e xs[k])=gq e zc xs (k+1):=by
 have h1:((xs.take k).map e).length=k:=by simp;omega
 rw[gq,List.set_append_right _ _ ab,h1,Nat.sub_self,gq,List.take_succ_eq_append_getElem hk,List.map_append,List.append_assoc]
 congr 1
 obtain⟨m,hm⟩:∃m,xs.length-k=m+1:=⟨xs.length-k-1,ab⟩
 rw[hm,show xs.length-(k+1)=m by omega,List.replicate_succ]
 rfl
theorem yn {α:Type} {en:α->List AV} {z fk gk:Nat} {zero:List K} (hc:kK P fk=some (oW fk gk z zero)) (F6:zero.length=z) (hz:∀x,(en x).length=z) (jR:∀x,(en x).all AV.cell=true) (Df:∀x g,cm g 5 (en x)=some (en x)) (xs:List α) (hlen:xs.length<=1048576)
  (hg:∀x∈xs,iN P gk [.agg (en x)] (.agg (en x))):iN P fk [.sl (xs.map en)] (.sl (xs.map en)):=by
 refine iN.body hc rfl fun hl σ=>?_
 try simp only[q]
 clear hl
 have hm:(xs.length:Int)<=((16777216:Nat):Int):=ab
 have h0:(0:Int)<=(xs.length:Int):=ab
 (try((repeat(revert hN;revert N;apply Pn.out));refine wk (tw @hm (tw @h0 (tw @Int.le_refl (tw (ny en (zero.map K.av) xs) @F6)))) ?_;(repeat(refine Pn.mk ?_;intro N hN))))
 refine aP (fun n env st=>∃k:Nat,n=(xs.length)-k/\k<=(xs.length)/\env 4=.int .i64 (k:Int)/\st.get ⟨fk*1000000+1002,σ.next+1⟩=some ⟨true,z,gq en (zero.map K.av) xs k⟩) (xs.length) ⟨0,ab,ab,sl @Nat.zero_add,sl @Nat.zero_add⟩ ?_
 rintro n_a env_a st_a ⟨k,rfl,ale,a4,ag0⟩ dm
 have a0:=dm 0 (by kernel_rfl);have a3:=dm 3 (by kernel_rfl)
 simp only[go_sem, ↓reduceIte,Nat.reduceEqDiff,Nat.reduceAdd,Nat.reduceSub,Nat.reduceLeDiff,reduceCtorEq]at a0 a3
 clear dm
 by_cases hk:(k:Int)<(xs.length:Int)
 ·have bD:∀{e:Env} {gg:Rows},(e 4=.int .i64 (IntKind.i64.wrap ((k:Int)+1)))->(gg ⟨fk*1000000+1002,σ.next+1⟩=some ⟨true,z,gq en (zero.map K.av) xs (k+1)⟩)->∃m0,m0<(xs.length)-k/\∃k:Nat,m0=(xs.length)-k/\k<=(xs.length)/\e 4=.int .i64 (k:Int)/\gg ⟨fk*1000000+1002,σ.next+1⟩=some ⟨true,z,gq en (zero.map K.av) xs k⟩:=fun x1 x2=>⟨_,ab,k+1,rfl,ab,(by rw[x1,ay ab]),x2⟩
  have dX:k<xs.length:=ab
  have eB:(xs.map en)[k]? =some (en xs[k]):=by simp[dX]
  have sb:=hz xs[k]
  have IZ:=jR xs[k]
  have ht:(en xs[k]).take z=en xs[k]:=by rw[<-sb,List.take_length]
  have ft:=hg _ (List.getElem_mem dX)
  have fH:=pe en (zero.map K.av) xs dX
  have dP:=pf en (zero.map K.av) xs dX
  have G8:(zero.map K.av).drop z=[]:=List.drop_of_length_le (by simp[F6])
  generalize hex:en xs[k]=c at ft eB sb ht IZ dP
  (repeat(first|((repeat(revert hN;revert N;apply Pn.out));refine wk (tw @a4 (tw @ag0 (tw @a0 (tw @a3 (tw @hk (tw @eB (tw @sb (tw @ht (tw @Nat.le_refl (tw @fH (tw @dP (tw @G8 (tw @tk (tw @IZ @F6)))))))))))))) ?_;(repeat(refine Pn.mk ?_;intro N hN)))|((try apply Or.inl);refine⟨_,iN.x (ft) _,?_⟩;refine hN _ _ ?_;clear hN N)))
  refine bD ?_ ?_
  all_goals simp only[go_sem, ↓reduceIte,Nat.reduceEqDiff,Nat.reduceAdd,Nat.reduceSub,Nat.reduceLeDiff,reduceCtorEq,a4,ag0,a0,a3]
 ·(try((repeat(revert hN;revert N;apply Pn.out));refine wk (tw @a4 (tw @ag0 (tw @a0 (tw @a3 @hk)))) ?_;(repeat(refine Pn.mk ?_;intro N hN))))
  have dX:k=xs.length:=ab
  subst dX
  refine Qs (.inl rfl) (r0:=.own ⟨fk*1000000+1002,σ.next+1⟩ 0 xs.length) (sd (tw @a4 (tw @ag0 (tw @a0 @a3)))) ?_
  rw[pd]at ag0
  exact e6 ag0 (by simp) fun x=>Df x _
theorem Qv {fk:Nat} (hc:kK P fk=some (IH fk (.int .i64 0))) (xs:List Int) (hlen:xs.length<=1048576):iN P fk [.sl (xs.map fun x=>[AV.int .i64 x])] (.sl (xs.map fun x=>[AV.int .i64 x])):=by
 refine iN.body hc rfl fun hl σ=>?_
 try simp only[q]
 clear hl
 obtain⟨en,I0⟩:∃en:Int->List AV,en=fun x=>[AV.int .i64 x]:=⟨_,rfl⟩
 rw[<-I0]
 have hm:(xs.length:Int)<=((16777216:Nat):Int):=ab
 have h0:(0:Int)<=(xs.length:Int):=ab
 (try((repeat(revert hN;revert N;apply Pn.out));refine wk (tw @hm (tw @h0 (tw @Int.le_refl (ny en [AV.int .i64 0] xs)))) ?_;(repeat(refine Pn.mk ?_;intro N hN))))
 refine aP (fun n env st=>∃k:Nat,n=(xs.length)-k/\k<=(xs.length)/\env 4=.int .i64 (k:Int)/\st.get ⟨fk*1000000+1002,σ.next+1⟩=some ⟨true,1,gq en [AV.int .i64 0] xs k⟩) (xs.length) ⟨0,ab,ab,sl @Nat.zero_add,sl @Nat.zero_add⟩ ?_
 rintro n_a env_a st_a ⟨k,rfl,ale,a4,ag0⟩ dm
 have a0:=dm 0 (by kernel_rfl);have a3:=dm 3 (by kernel_rfl)
 simp only[go_sem, ↓reduceIte,Nat.reduceEqDiff,Nat.reduceAdd,Nat.reduceSub,Nat.reduceLeDiff,reduceCtorEq]at a0 a3
 clear dm
 by_cases hk:(k:Int)<(xs.length:Int)
 ·have bD:∀{e:Env} {gg:Rows},(e 4=.int .i64 (IntKind.i64.wrap ((k:Int)+1)))->(gg ⟨fk*1000000+1002,σ.next+1⟩=some ⟨true,1,gq en [AV.int .i64 0] xs (k+1)⟩)->∃m0,m0<(xs.length)-k/\∃k:Nat,m0=(xs.length)-k/\k<=(xs.length)/\e 4=.int .i64 (k:Int)/\gg ⟨fk*1000000+1002,σ.next+1⟩=some ⟨true,1,gq en [AV.int .i64 0] xs k⟩:=fun x1 x2=>⟨_,ab,k+1,rfl,ab,(by rw[x1,ay ab]),x2⟩
  have dX:k<xs.length:=ab
  have eB:(xs.map en)[k]? =some [AV.int .i64 xs[k]]:=by simp[dX,I0]
  have fH:=pe en [AV.int .i64 0] xs dX
  have dP:=pf en [AV.int .i64 0] xs dX
  rw[show en xs[k]=[AV.int .i64 xs[k]] by rw[I0]]at dP
  (try((repeat(revert hN;revert N;apply Pn.out));refine wk (tw @a4 (tw @ag0 (tw @a0 (tw @a3 (tw @hk (tw @eB (tw @fH @dP))))))) ?_;(repeat(refine Pn.mk ?_;intro N hN))))
  refine bD ?_ ?_
  all_goals simp only[go_sem, ↓reduceIte,Nat.reduceEqDiff,Nat.reduceAdd,Nat.reduceSub,Nat.reduceLeDiff,reduceCtorEq,a4,ag0,a0,a3]
 ·(try((repeat(revert hN;revert N;apply Pn.out));refine wk (tw @a4 (tw @ag0 (tw @a0 (tw @a3 @hk)))) ?_;(repeat(refine Pn.mk ?_;intro N hN))))
  have dX:k=xs.length:=ab
  subst dX
  refine Qs (.inl rfl) (r0:=.own ⟨fk*1000000+1002,σ.next+1⟩ 0 xs.length) (sd (tw @a4 (tw @ag0 (tw @a0 @a3)))) ?_
  rw[pd]at ag0
  exact e6 ag0 (by simp) fun x=>by simp[I0,ad,aj,aI]
end Go.Proofs.YtihgaadadaekmaaGreatDoor.V

namespace Go.Proofs.YtihgaadadaekmaaGreatDoor
open Go.RowKit
def Sl (w:World) (fp:List Nat) (v:Value) (n:Nat) (xs:List Value):Prop:=
 ∃A c,v=.slice A n c/\n<=c/\c<=maxLen/\
  ((fp=[]/\n=0)∨∃b o,fp=[b]/\A=some ⟨b,o,none⟩/\∀j u,xs[j]? =some u->w.cell? ⟨b,o+j,none⟩=some u)
def eT (fp:List Nat) (lo hi:Nat):Prop:=∀b∈fp,lo<=b/\b<hi
theorem eT.nil (lo hi:Nat):eT [] lo hi:=fun _ h=>by cases h
theorem Sl.nil (w:World):Sl w [] (.slice none 0 0) 0 []:=⟨none,0,rfl,Nat.le_refl _,by simp[maxLen],.inl ⟨rfl,rfl⟩⟩
def LJ {α:Type} (rep:World->List Nat->List Value->α->Prop) (sz:Nat) (w:World) (nA:List (List Value)) (C4:List (List Nat)) (ds:List α):Prop:=
 nA.length=ds.length/\C4.length=ds.length/\∀(i:Nat) (cs:List Value) (f:List Nat) (d:α),nA[i]? =some cs->C4[i]? =some f->ds[i]? =some d->rep w f cs d/\cs.length=sz
def k9 {α:Type} (rep:World->List Nat->List Value->α->Prop) (sz:Nat) (w:World) (fp:List Nat) (v:Value) (ds:List α):Prop:=
 ∃nA C4 RB,fp=RB++C4.flatten/\Sl w RB v ds.length nA.flatten/\LJ rep sz w nA C4 ds
theorem pA {α:Type} {C4:List (List α)} {i:Nat} {f:List α} (h:C4[i]? =some f):∀b∈f,b∈C4.flatten:=fun b hb=>
 List.mem_flatten.2 ⟨f,List.mem_of_getElem? h,hb⟩
theorem rZ {α:Type} {nA:List (List α)} {sz:Nat} (h:∀cs∈nA,cs.length=sz) {i j:Nat} {cs:List α} (hi:nA[i]? =some cs) (hj:j<sz):nA.flatten[i*sz+j]? =cs[j]? :=by
 induction nA generalizing i with
 |nil=>simp at hi
 |cons c r ih=>
  have hc:c.length=sz:=h c (by simp)
  cases i with
  |zero=>
   simp at hi;subst hi
   rw[List.flatten_cons,List.getElem?_append_left (by omega)];simp
  |succ i=>
   rw[List.flatten_cons,List.getElem?_append_right (by rw[hc,Nat.succ_mul];omega)]
   have:(i+1)*sz+j-c.length=i*sz+j:=by rw[hc,Nat.succ_mul];omega
   rw[this]
   exact ih (fun cs dq=>h cs (List.mem_cons_of_mem _ dq)) (by simpa using hi)
theorem LJ.lens {α:Type} {rep:World->List Nat->List Value->α->Prop} {sz:Nat} {w:World} {nA:List (List Value)} {C4:List (List Nat)} {ds:List α}
  (h:LJ rep sz w nA C4 ds):∀cs∈nA,cs.length=sz:=fun cs dq=>by
 obtain⟨i,hi,rfl⟩:=List.getElem_of_mem dq
 have h1:i<C4.length:=by rw[h.2.1,<-h.1];exact hi
 have h2:i<ds.length:=by rw[<-h.1];exact hi
 exact(h.2.2 i _ _ _ (List.getElem?_eq_getElem hi) (List.getElem?_eq_getElem h1) (List.getElem?_eq_getElem h2)).2
theorem k9.at_ {α:Type} {rep:World->List Nat->List Value->α->Prop} {sz:Nat} {w:World} {fp:List Nat} {A:Option Addr} {n c:Nat} {ds:List α}
  (h:k9 rep sz w fp (.slice A n c) ds) (k:Nat) (hk:k<ds.length):
  ∃b o cs f,A=some ⟨b,o,none⟩/\b∈fp/\(∀x∈f,x∈fp)/\rep w f cs ds[k]/\cs.length=sz/\∀j u,cs[j]? =some u->w.cell? ⟨b,o+(k*sz+j),none⟩=some u:=by
 obtain⟨nA,C4,RB,rfl,⟨A',c',hv,_,_,hc⟩,hr⟩:=h
 simp only[Value.slice.injEq]at hv
 obtain⟨rfl,hn,rfl⟩:=hv
 rcases hc with⟨_,h0⟩|⟨b,o,rfl,rfl,hc⟩
 ·omega
 have h1:k<nA.length:=by rw[hr.1];exact hk
 have h2:k<C4.length:=by rw[hr.2.1];exact hk
 obtain⟨gF,hl⟩:=hr.2.2 k _ _ _ (List.getElem?_eq_getElem h1) (List.getElem?_eq_getElem h2) (List.getElem?_eq_getElem hk)
 refine⟨b,o,nA[k],C4[k],rfl,by simp,fun x hx=>List.mem_append_right _ (pA (List.getElem?_eq_getElem h2) x hx),gF,hl,fun j u hj=>?_⟩
 have gL:j<sz:=by rw[<-hl];exact(List.getElem?_eq_some_iff.1 hj).1
 exact hc _ u (by rw[rZ hr.lens (List.getElem?_eq_getElem h1) gL];exact hj)
theorem k9.len {α:Type} {rep:World->List Nat->List Value->α->Prop} {sz:Nat} {w:World} {fp:List Nat} {v:Value} {ds:List α}
  (h:k9 rep sz w fp v ds):∃A c,v=.slice A ds.length c/\ds.length<=c/\c<=maxLen:=by
 obtain⟨_,_,_,_,⟨A,c,hv,h1,h2,_⟩,_⟩:=h
 exact⟨A,c,hv,h1,h2⟩
theorem k9.nil {α:Type} (rep:World->List Nat->List Value->α->Prop) (sz:Nat) (w:World):k9 rep sz w [] (.slice none 0 0) ([]:List α):=
 ⟨[],[],[],rfl,Sl.nil w,rfl,rfl,fun i cs f d hc=>by simp at hc⟩
def Flat {α:Type} (enc:α->List Value):World->List Nat->List Value->α->Prop:=fun _ f cs d=>f=[]/\cs=enc d
def Q (w w':World):Prop:=∃q,w'=w.drewN q
theorem OQ {B:Nat} {a w:World} (h:Below B a w) (n:Nat):Below B a (w.drewN n):=⟨h.os,h.tape,h.output,h.size,h.block⟩
theorem gZ {a b:Bool} (h:a=b):Ending.returned (.bool a)=.returned (.bool b):=by rw[h]
def Unf (w:World) (b:Nat):Prop:=∃cs e,w.heap[b]? =some (.cells cs e (0,0))
structure Only (fp:List Nat) (w w':World):Prop where
 os:w'.os=w.os
 tape:w'.tape=w.tape
 output:w'.output=w.output
 size:w.heap.size<=w'.heap.size
 block:∀x,x<w.heap.size->x∉fp->w'.heap[x]? =w.heap[x]?
 unf:∀x,Unf w x->Unf w' x
structure cr where
 gE:Int
 fQ:Int
deriving DecidableEq
structure ao where
 cI:cr
 bJ:Int
deriving DecidableEq
structure dj where
 ah:List ao
deriving DecidableEq
structure fc where
 aB:ByteArray
 dQ:Int
deriving DecidableEq
structure eI where
 aB:ByteArray
 bp:List Int
deriving DecidableEq
structure aw where
 au:List fc
 ah:List eI
deriving DecidableEq
structure cl where
 aE:aw
 bZ:dj
 aH:Int
deriving DecidableEq
def Ep (d:Int):List Value:=[.int .i64 d]
def CP:=Flat Ep
def Be (d:ao):List Value:=[.int .i64 d.cI.gE,.int .i64 d.cI.fQ,.int .i64 d.bJ]
def yN:=Flat Be
def iD:=k9 yN 3
def GN (d:fc):List Value:=[.string d.aB,.int .i64 d.dQ]
def Gi:=Flat GN
def pP:=k9 Gi 2
def pQ:=k9 CP 1
def Gk (w:World) (f:List Nat) (cs:List Value) (d:eI):Prop:=
 ∃v1 f1,f=f1/\cs=[.string d.aB,v1]/\pQ w f1 v1 d.bp
def pR:=k9 Gk 2
end Go.Proofs.YtihgaadadaekmaaGreatDoor

namespace Go.Proofs.YtihgaadadaekmaaGreatDoor.V
open Go.RowKit
variable {P:Program} {w:World} {D:Nat->Prop}
def Gc (P:Program) (w:World) (D:Nat->Prop) (al:List AV) (cs:List Value):Prop:=∀(j:Nat) (a:AV),al[j]? =some a->∃u:Value,cs[j]? =some u/\je P w D a u
theorem lQ {α:Type} {rep:World->List Nat->List Value->α->Prop} {e:α->List AV} {sz:Nat} {f:List Nat} {v:Value} {xs:List α} (h:k9 rep sz w f v xs) (hD:∀b∈f,D b)
  (hl:∀x∈xs,(e x).length=sz) (hc:∀x∈xs,∀a∈e x,a.cell=true) (hr:∀x∈xs,∀f' cs,rep w f' cs x->(∀b∈f',D b)->Gc P w D (e x) cs):je P w D (.sl (xs.map e)) v:=by
 obtain⟨A,c,rfl,h1,h2⟩:=k9.len h
 by_cases h0:xs=[]
 ·subst h0;exact .AM _ _ h2
 have lf:0<xs.length:=List.length_pos_iff.2 h0
 obtain⟨b,o,N9,f0,rfl,hb,Q1,SJ,BC,jm⟩:=k9.at_ h 0 lf
 have key:∀(i:Nat) (hi:i<xs.length),∃cs f',(∀x∈f',x∈f)/\rep w f' cs xs[i]/\cs.length=sz/\∀j u,cs[j]? =some u->w.cell? ⟨b,o+(i*sz+j),none⟩=some u:=by
  intro i hi
  obtain⟨b',o',cs,f',QV,_,kI,m3,dq,kd⟩:=k9.at_ h i hi
  simp only[Option.some.injEq,Addr.mk.injEq,and_true]at QV
  obtain⟨rfl,rfl⟩:=QV
  exact⟨cs,f',kI,m3,dq,kd⟩
 refine .sl _ b o _ c sz (fun i j=>(w.cell? ⟨b,o+(i*sz+j),none⟩).getD Go.undef) (by simp) h1 h2 (hD b hb) ?_ ?_ ?_ ?_
 ·intro cs dq
  obtain⟨x,hx,rfl⟩:=List.mem_map.1 dq
  exact hl x hx
 ·intro cs dq
  obtain⟨x,hx,rfl⟩:=List.mem_map.1 dq
  exact hc x hx
 ·intro i j hi hj
  obtain⟨cs,f',_,_,dq,kd⟩:=key i hi
  rw[kd j cs[j] (List.getElem?_eq_getElem ab)]
  rfl
 ·intro i j cs a dq ha
  have hi:i<xs.length:=by
   have:=(List.getElem?_eq_some_iff.1 dq).1
   simpa using this
  obtain⟨oe,f',kI,m3,hcs',kd⟩:=key i hi
  simp[hi]at dq
  subst dq
  obtain⟨u,hu,him⟩:=hr _ (List.getElem_mem hi) f' oe m3 (fun b hb=>hD b (kI b hb)) j a ha
  rw[kd j u hu]
  exact him
end Go.Proofs.YtihgaadadaekmaaGreatDoor.V

namespace Go.Proofs.YtihgaadadaekmaaGreatDoor.V
open Go.RowKit
variable {P:Program} {w:World} {D:Nat->Prop}
def ar (d:Int):List AV:=[.int .i64 d]
def ak (d:cr):List AV:=[.int .i64 d.gE,.int .i64 d.fQ]
def ai (d:ao):List AV:=[.int .i64 d.cI.gE,.int .i64 d.cI.fQ,.int .i64 d.bJ]
def aD (d:dj):List AV:=[.sl (d.ah.map ai)]
def bd (d:fc):List AV:=[.str d.aB,.int .i64 d.dQ]
def bj (d:eI):List AV:=[.str d.aB,.sl (d.bp.map ar)]
def aa (d:aw):List AV:=[.sl (d.au.map bd),.sl (d.ah.map bj)]
def az (d:cl):List AV:=[.sl (d.aE.au.map bd),.sl (d.aE.ah.map bj),.sl (d.bZ.ah.map ai),.int .i64 d.aH]
theorem rU {f:List Nat} {v:Value} {xs:List ao} (h:iD w f v xs) (hD:∀b∈f,D b):je P w D (.sl (xs.map ai)) v:=
 lQ h hD (fun _ _=>rfl) (fun x _ a ha=>by simp[ai]at ha;rcases ha with rfl|rfl|rfl<;>rfl) fun x _ f' cs hr hf=>by
  obtain⟨_,rfl⟩:=hr
  intro j a ha
  match j,ha with
  |0,ha=>simp[ai]at ha;subst ha;exact⟨_,rfl,.int _ _⟩
  |1,ha=>simp[ai]at ha;subst ha;exact⟨_,rfl,.int _ _⟩
  |2,ha=>simp[ai]at ha;subst ha;exact⟨_,rfl,.int _ _⟩
  |j+3,ha=>simp[ai]at ha
theorem wU {d:dj} {f0:List Nat} {v0:Value} (h0:iD w f0 v0 d.ah) (d0:∀b∈f0,D b):je P w D (.agg (aD d)) (.agg #[v0]):=by
 refine .agg _ _ (fun j=>(#[v0]:Array Value).getD j Go.undef) rfl (fun a ha=>by simp[aD]at ha;rcases ha with rfl<;>rfl) (fun j hj=>?_) (fun j a ha=>?_)
 ·match j,hj with
  |0,_=>rfl
  |j+1,hj=>simp[aD]at hj<;>omega
 ·match j,ha with
  |0,ha=>simp[aD]at ha;subst ha;exact rU h0 d0
  |j+1,ha=>simp[aD]at ha
theorem DW {f:List Nat} {v:Value} {xs:List fc} (h:pP w f v xs) (hD:∀b∈f,D b):je P w D (.sl (xs.map bd)) v:=
 lQ h hD (fun _ _=>rfl) (fun x _ a ha=>by simp[bd]at ha;rcases ha with rfl|rfl<;>rfl) fun x _ f' cs hr hf=>by
  obtain⟨_,rfl⟩:=hr
  intro j a ha
  match j,ha with
  |0,ha=>simp[bd]at ha;subst ha;exact⟨_,rfl,.str _⟩
  |1,ha=>simp[bd]at ha;subst ha;exact⟨_,rfl,.int _ _⟩
  |j+2,ha=>simp[bd]at ha
theorem te {f:List Nat} {v:Value} {xs:List Int} (h:pQ w f v xs) (hD:∀b∈f,D b):je P w D (.sl (xs.map ar)) v:=
 lQ h hD (fun _ _=>rfl) (fun x _ a ha=>by simp[ar]at ha;rcases ha with rfl<;>rfl) fun x _ f' cs hr hf=>by
  obtain⟨_,rfl⟩:=hr
  intro j a ha
  match j,ha with
  |0,ha=>simp[ar]at ha;subst ha;exact⟨_,rfl,.int _ _⟩
  |j+1,ha=>simp[ar]at ha
theorem D6 {f:List Nat} {v:Value} {xs:List eI} (h:pR w f v xs) (hD:∀b∈f,D b):je P w D (.sl (xs.map bj)) v:=
 lQ h hD (fun _ _=>rfl) (fun x _ a ha=>by simp[bj]at ha;rcases ha with rfl|rfl<;>rfl) fun x _ f' cs hr hf=>by
  obtain⟨v1,f1,rfl,rfl,h1⟩:=hr
  intro j a ha
  match j,ha with
  |0,ha=>simp[bj]at ha;subst ha;exact⟨_,rfl,.str _⟩
  |1,ha=>simp[bj]at ha;subst ha;exact⟨_,rfl,te h1 hf⟩
  |j+2,ha=>simp[bj]at ha
theorem AS {d:cl} {f0:List Nat} {v0:Value} (h0:pP w f0 v0 d.aE.au) (d0:∀b∈f0,D b) {f1:List Nat} {v1:Value} (h1:pR w f1 v1 d.aE.ah) (d1:∀b∈f1,D b) {f2:List Nat} {v2:Value} (h2:iD w f2 v2 d.bZ.ah) (d2:∀b∈f2,D b):je P w D (.agg (az d)) (.agg #[v0,v1,v2,.int .i64 d.aH]):=by
 refine .agg _ _ (fun j=>(#[v0,v1,v2,.int .i64 d.aH]:Array Value).getD j Go.undef) rfl (fun a ha=>by simp[az]at ha;rcases ha with rfl|rfl|rfl|rfl<;>rfl) (fun j hj=>?_) (fun j a ha=>?_)
 ·match j,hj with
  |0,_=>rfl
  |1,_=>rfl
  |2,_=>rfl
  |3,_=>rfl
  |j+4,hj=>simp[az]at hj<;>omega
 ·match j,ha with
  |0,ha=>simp[az]at ha;subst ha;exact DW h0 d0
  |1,ha=>simp[az]at ha;subst ha;exact D6 h1 d1
  |2,ha=>simp[az]at ha;subst ha;exact rU h2 d2
  |3,ha=>simp[az]at ha;subst ha;exact .int _ _
  |j+4,ha=>simp[az]at ha
end Go.Proofs.YtihgaadadaekmaaGreatDoor.V

namespace Go.Proofs.YtihgaadadaekmaaGreatDoor.V
open Go.RowKit
attribute [local irreducible] ea wpOps gR Call
attribute [local go_sem] aM fP eL gh ga cE upd cu K.av cL AV.cells AV.cell rowOf rowsOf part ld rowAt bY ck dI ef ig bL da ez gn e7 du ek cY cX dV dW bR bm cQ bQ cT cR ei eo ej cP bW cZ eh bP aQ cV cC ib bw cH bS aY dF bu dK AV.undef bF bH dY ee dU eb cF ew eD cw eu er cU cW List.getD_cons_zero List.getD_cons_succ List.getD_nil List.all_cons List.all_nil Bool.and_true Bool.true_and Bool.and_self Bool.not_true Bool.not_false Option.map_some Option.map_none Option.bind_some Option.bind_none List.length_cons List.length_nil List.take_succ_cons List.take_zero List.take_nil List.drop_succ_cons List.drop_zero List.drop_nil List.head?_cons List.map_cons List.map_nil List.getElem?_cons_zero List.getElem?_cons_succ List.cons_append List.nil_append List.append_nil List.length_map List.set_cons_zero List.set_cons_succ Nat.reduceMul eq_self Int.toNat_natCast Int.natCast_nonneg and_self true_and and_true decide_true decide_false Bool.false_eq_true Nat.zero_add Nat.add_zero List.contains_cons List.contains_nil Bool.or_false Bool.false_or beq_self_eq_true Nat.reduceBEq ne_eq not_true_eq_false not_false_eq_true Id.mk.injEq false_and and_false Nat.reduceLT Int.reduceLE Int.reduceLT Int.reduceToNat Int.reduceNeg Int.reduceAdd Nat.le_refl List.length_append beq_true beq_false Bool.not_eq_eq_eq_not or_false false_or dE ad aj aI bE cj aW bf aV bo cN bG
variable {P:Program}
theorem IP {X:fv} {Q:Ex->Env->ax->Prop} {N:Env->ax->Prop} {c:VC} {env:Env} {σ:ax} (I:Env->ax->Prop) (h2:∀e s,I e s->N e s) (h1:∀N':Env->ax->Prop,(∀e s,I e s->N' e s)->ea X c (dF N' Q) env σ):ea X c (dF N Q) env σ:=h1 N h2
def rz (f z:Nat) (a:Bool):yC:=let s:=f*1000000
 ⟨19,2,(.seq (.eG false [q 4 (.db (.k (.int .i64 0))) s]) (.seq (.seq (.eG false [q 6 (.db (.t 0)) (s+1000),q 7 (.len (.t 6)) (s+1001),q 8 (.db (.k (.int .i64 0))) (s+1002)]) (.block 0 (.loop (.seq (.eG false [q 9 (.bin .lss .i64 (.t 8) (.t 7)) (s+2000)]) (.seq (.cond (.t 9) .skip (.exit 0)) (.seq (.block 1 (.seq (.eG false [q 10 (.db (.t 8)) (s+3000),q 5 (.db (.t 10)) (s+3001)]) (.seq (.eG false [q 11 (.db (.t 1)) (s+4000),q 12 (.db (.t 0)) (s+4001),q 13 (.db (.t 5)) (s+4002),q 14 (.dy z (.t 12) (.t 13)) (s+4003),q 15 (.load a z (.t 14)) (s+4004),q 16 (.rW (.t 11) [(.t 15)]) (s+4005)]) (.cond (.t 16) (.seq (.eG false [q 17 (.db (.t 5)) (s+5000),q 4 (.db (.t 17)) (s+5001)]) .ret) .skip)))) (.eG false [q 18 (.bin .add .i64 (.t 8) (.k (.int .i64 1))) (s+6000),q 8 (.db (.t 18)) (s+6001)]))))))) (.seq (.eG false [q 4 (.db (.k (.int .i64 (-1)))) (s+7000)]) .ret))),[(.tmp 4)]⟩
def xE (f g:Nat):yC:=let s:=f*1000000
 ⟨9,2,(.seq (.eG false [q 4 (.db (.k (.bool false))) s]) (.seq (.eG false [q 5 (.db (.t 0)) (s+1000),q 6 (.db (.t 1)) (s+1001),q 7 (.call g [(.t 5),(.t 6)]) (s+1002),q 8 (.bin .geq .i64 (.t 7) (.k (.int .i64 0))) (s+1003),q 4 (.db (.t 8)) (s+1004)]) .ret)),[(.tmp 4)]⟩
def jO {α:Type} (p:α->Bool) (xs:List α):Int:=if xs.findIdx p<xs.length then(xs.findIdx p:Int)else -1
theorem GV {α:Type} (p:α->Bool) (xs:List α):decide (0<=jO p xs)=xs.any p:=by
 unfold jO
 by_cases h:xs.findIdx p<xs.length
 ·rw[if_pos h]
  have:xs.any p=true:=List.any_eq_true.2 (List.findIdx_lt_length.1 h)
  rw[this];simp
 ·rw[if_neg h]
  have:xs.any p=false:=by
   rw[Bool.eq_false_iff]
   intro hc
   exact h (List.findIdx_lt_length.2 (List.any_eq_true.1 hc))
  rw[this];rfl
theorem sJ (a:AV) (l m:List AV):a::l++m=a::(l++m):=rfl
theorem w8 (l:List AV):[]++l=l:=rfl
structure N4 {α:Type} (e:α->List AV) (v:α->AV) (z:Nat) (a:Bool):Prop where
 len:∀x,(e x).length=z
 val:∀x,if a=true then v x=.agg (e x)else e x=[v x]
 fz:∀x g,cm g 6 [v x]=some [v x]
theorem se {α:Type} {e:α->List AV} {v:α->AV} {z fk:Nat} {a:Bool} (hE:N4 e v z a) (hc:kK P fk=some (rz fk z a)) (xs:List α) (hlen:xs.length<=1048576) (f:Nat) (cD:List AV) (p:α->Bool)
  (hf:∀x∈xs,ae P f (v x::cD) (.bool (p x))) (G9:∀g,cm g 6 cD=some cD):
  ae P fk [.sl (xs.map e),.fn f cD] (.int .i64 (jO p xs)):=by
 refine ae.body hc rfl fun hl n0=>?_
 try simp only[q]
 clear hl
 (try((repeat(revert hN;revert N;apply Pn.out));refine wk @Nat.zero_add ?_;(repeat(refine Pn.mk ?_;intro N hN))))
 refine aP (fun n env st=>∃k:Nat,n=(xs.length)-k/\k<=(xs.length)/\env 8=.int .i64 (k:Int)/\(∀j:Nat,j<k->∀h:j<xs.length,p xs[j]=false)) (xs.length) ⟨0,ab,ab,sl @Nat.zero_add,fun _ h=>absurd h (Nat.not_lt_zero _)⟩ ?_
 rintro n_a env_a st_a ⟨k,rfl,ale,a8,iM⟩ dm
 have a0:=dm 0 (by kernel_rfl);have a1:=dm 1 (by kernel_rfl);have a7:=dm 7 (by kernel_rfl)
 simp only[go_sem, ↓reduceIte,Nat.reduceEqDiff,Nat.reduceAdd,Nat.reduceSub,Nat.reduceLeDiff,reduceCtorEq]at a0 a1 a7
 clear dm
 by_cases hk:(k:Int)<(xs.length:Int)
 ·have bD:∀{e:Env},(e 8=.int .i64 (IntKind.i64.wrap ((k:Int)+1)))->(∀h:k<xs.length,p xs[k]=false)->∃m0,m0<(xs.length)-k/\∃k:Nat,m0=(xs.length)-k/\k<=(xs.length)/\e 8=.int .i64 (k:Int)/\(∀j:Nat,j<k->∀h:j<xs.length,p xs[j]=false):=fun x1 x2=>⟨_,ab,k+1,rfl,ab,(by rw[x1,ay ab]),(all_succ iM x2)⟩
  have dX:k<xs.length:=ab
  have hg:(xs.map e)[k]? =some (e xs[k]):=by simp[dX]
  have Di:=hf _ (List.getElem_mem dX)
  have hz:=hE.len xs[k]
  have hv:=hE.val xs[k]
  have k5:cm (dE st_a.get) 6 (v xs[k]::cD)=some (v xs[k]::cD):=by
   have h1:=hE.fz xs[k] (dE st_a.get)
   rw[ad,aj]at h1
   rw[ad,G9]
   revert h1
   cases V.fz (dE st_a.get) 6 (v xs[k])<;>simp
  have fin:∀hN:True,(p xs[k]=true->xs.findIdx p=k):=fun _ hp=>by
   rw[List.findIdx_eq dX];exact⟨hp,fun j hj=>iM j hj ab⟩
  cases hp:p xs[k]
  ·have Rb:=hp
   cases a
   ·rw[if_neg (by simp)]at hv
    have yL:z=1:=by rw[<-hz,hv];rfl
    subst yL
    rw[hv]at hg hz
    rw[hp]at Di
    generalize v xs[k]=c at Di k5 hg hz
    (try((repeat(revert hN;revert N;apply Pn.out));refine wk (tw @a8 (tw @a0 (tw @a1 (tw @a7 (tw @hk (tw @hg (tw @hz (tw @sJ @w8)))))))) ?_;(repeat(refine Pn.mk ?_;intro N hN))))
    refine .inl ⟨_,ae.x Di k5,?_⟩
    refine hN _ _ ?_
    clear hN N
    (try((repeat(revert hN;revert N;apply Pn.out));refine wk (tw @a8 (tw @a0 (tw @a1 @a7))) ?_;(repeat(refine Pn.mk ?_;intro N hN))))
    exact bD (sd (tw @a8 (tw @a0 (tw @a1 @a7)))) (fun _=>Rb)
   ·rw[if_pos rfl]at hv
    have ht:(e xs[k]).take z=e xs[k]:=by rw[<-hz,List.take_length]
    rw[hv]at Di k5
    rw[hp]at Di
    generalize e xs[k]=c at Di k5 hg hz ht
    (try((repeat(revert hN;revert N;apply Pn.out));refine wk (tw @a8 (tw @a0 (tw @a1 (tw @a7 (tw @hk (tw @hg (tw @hz (tw @ht (tw @sJ (tw @w8 @Nat.le_refl)))))))))) ?_;(repeat(refine Pn.mk ?_;intro N hN))))
    refine .inl ⟨_,ae.x Di k5,?_⟩
    refine hN _ _ ?_
    clear hN N
    (try((repeat(revert hN;revert N;apply Pn.out));refine wk (tw @a8 (tw @a0 (tw @a1 @a7))) ?_;(repeat(refine Pn.mk ?_;intro N hN))))
    exact bD (sd (tw @a8 (tw @a0 (tw @a1 @a7)))) (fun _=>Rb)
  ·have hi:=fin trivial hp
   cases a
   ·rw[if_neg (by simp)]at hv
    have yL:z=1:=by rw[<-hz,hv];rfl
    subst yL
    rw[hv]at hg hz
    rw[hp]at Di
    generalize v xs[k]=c at Di k5 hg hz
    (try((repeat(revert hN;revert N;apply Pn.out));refine wk (tw @a8 (tw @a0 (tw @a1 (tw @a7 (tw @hk (tw @hg (tw @hz (tw @sJ @w8)))))))) ?_;(repeat(refine Pn.mk ?_;intro N hN))))
    refine .inl ⟨_,ae.x Di k5,?_⟩
    refine hN _ _ ?_
    clear hN N
    (try((repeat(revert hN;revert N;apply Pn.out));refine wk (tw @a8 (tw @a0 (tw @a1 @a7))) ?_;(repeat(refine Pn.mk ?_;intro N hN))))
    exact aZ (b:=(k:Int)) (.inl rfl) (sd @Nat.zero_add) (by rw[jO,hi,if_pos dX])
   ·rw[if_pos rfl]at hv
    have ht:(e xs[k]).take z=e xs[k]:=by rw[<-hz,List.take_length]
    rw[hv]at Di k5
    rw[hp]at Di
    generalize e xs[k]=c at Di k5 hg hz ht
    (try((repeat(revert hN;revert N;apply Pn.out));refine wk (tw @a8 (tw @a0 (tw @a1 (tw @a7 (tw @hk (tw @hg (tw @hz (tw @ht (tw @sJ (tw @w8 @Nat.le_refl)))))))))) ?_;(repeat(refine Pn.mk ?_;intro N hN))))
    refine .inl ⟨_,ae.x Di k5,?_⟩
    refine hN _ _ ?_
    clear hN N
    (try((repeat(revert hN;revert N;apply Pn.out));refine wk (tw @a8 (tw @a0 (tw @a1 @a7))) ?_;(repeat(refine Pn.mk ?_;intro N hN))))
    exact aZ (b:=(k:Int)) (.inl rfl) (sd @Nat.zero_add) (by rw[jO,hi,if_pos dX])
 ·(try((repeat(revert hN;revert N;apply Pn.out));refine wk (tw @a8 (tw @a0 (tw @a1 (tw @a7 @hk)))) ?_;(repeat(refine Pn.mk ?_;intro N hN))))
  have hi:¬xs.findIdx p<xs.length:=by
   rw[List.findIdx_lt_length]
   rintro⟨x,hx,MO⟩
   obtain⟨j,hj,rfl⟩:=List.getElem_of_mem hx
   rw[iM j ab hj]at MO;cases MO
  exact aZ (b:=-1) (.inl rfl) (sd @Nat.zero_add) (by rw[jO,if_neg hi])
theorem j8 {α:Type} {e:α->List AV} {v:α->AV} {z fk gk:Nat} {a:Bool} (hE:N4 e v z a) (hc:kK P fk=some (xE fk gk)) (EC:kK P gk=some (rz gk z a)) (xs:List α) (hlen:xs.length<=1048576) (f:Nat) (cD:List AV) (p:α->Bool) (JF:cD.all AV.cell=true) (Df:∀g,cm g 5 cD=some cD)
  (hf:∀x∈xs,ae P f (v x::cD) (.bool (p x))) (G9:∀g,cm g 6 cD=some cD):
  ae P fk [.sl (xs.map e),.fn f cD] (.bool (xs.any p)):=by
 refine ae.body hc rfl fun hl n0=>?_
 try simp only[q]
 clear hl
 have hi:=se hE EC xs hlen f cD p hf G9
 (repeat(first|((repeat(revert hN;revert N;apply Pn.out));refine wk (tw @JF @Df) ?_;(repeat(refine Pn.mk ?_;intro N hN)))|((try apply Or.inl);refine⟨_,ae.x (hi) (sd (tw @JF @Df)),?_⟩;refine hN _ _ ?_;clear hN N)))
 exact aC (b:=decide (0<=jO p xs)) (.inl rfl) (sd @Nat.zero_add) (GV p xs)
end Go.Proofs.YtihgaadadaekmaaGreatDoor.V

namespace Go.Proofs.YtihgaadadaekmaaGreatDoor.V
open Go.RowKit
def qm (P:Program) (mk:Bool):List Oper->Nat->List Nat
 |[],_=>[]
 |o::r,i=>match pH P o.op with
  |some v=>if pz v||mk&&v.lg then i::qm P mk r (i+1)else qm P mk r (i+1)
  |none=>qm P mk r (i+1)
def xc (P:Program) (ops:Array Oper) (site0:Nat) (mk:Bool) (bs:Array Nat) (hidden:List Nat):List Oper->Nat->Option (List bl)
 |[],_=>some []
 |o::r,j=>do
  let v <-pH P o.op
  let g <-A7 ops o
  pure ({dst:=o.dst,op:=v,guard:=g,site:=site0+j,hid:=(hidden.filter fun i=> !(bs.getD j 0).testBit i&&(i !=j||mk&&v.lg)).map fun i=>site0+i}::(<-xc P ops site0 mk bs hidden r (j+1)))
def nw (P:Program) (md:List (Nat×Nat)) (tC:Nat):Code->Option VC
 | .skip=>some .skip
 | .region id ops draw=>if draw then(xc P ops ((tC*1000+id)*1000) (ui md id==1) (jg ops) (qm P (ui md id==1) ops.toList 0) ops.toList 0).map (VC.eG true)else(xc P ops ((tC*1000+id)*1000) false #[] [] ops.toList 0).map (if ops.toList.any fun o=>Lt o.op then VC.LZ else VC.eG false)
 | .seq a b=>do pure (.seq (<-nw P md tC a) (<-nw P md tC b))
 | .cond c x y=>do pure (.cond (<-cO P c) (<-nw P md tC x) (<-nw P md tC y))
 | .block id c=>(nw P md tC c).map (VC.block id)
 | .loop c=>(nw P md tC c).map VC.loop
 | .exit id=>some (.exit id)
 | .ret=>some .ret
 | .label _=>some .skip
 | .scope c=>nw P md tC c
 |_=>none
def OR (P:Program) (md:List (Nat×Nat)) (f:Nat):Option yC:=
 match P.funcs[f]? with
 |some fn=>match fn.body with
  |some c=>do
   let b <-nw P md f c
   let r <-fn.results.toList.mapM (Eb P)
   pure {ntmps:=fn.ntmps,wI:=fn.params.size+fn.nfree,body:=b,res:=r}
  |none=>none
 |none=>none
theorem cfM {P:Program} (md:List (Nat×Nat)) {f:Nat} {v:yC} (_:OR P md f=some v:=by(conv=>lhs;cbv)<;>exact rfl) (h:uY P f md=some v:=by kernel_rfl):uY P f md=some v:=h
theorem dM {P:Program} {f:Nat} {v:yC} (_:OR P [] f=some v:=by(conv=>lhs;cbv)<;>exact rfl) (h:kK P f=some v:=by kernel_rfl):kK P f=some v:=h
def NG:yC:=⟨77,2,(.seq (.eG false [q 4 (.db (.k .gG)) 165000000]) (.seq (.eG false [q 7 (.db (.t 0)) 165001000,q 8 (.db (.t 1)) 165001001,q 9 (.build [(.int .i64 0),.bK,.bK,.bK] [(0,(1,(.t 7))),(1,(1,(.t 8)))]) 165001002,q 10 (.box (.t 9)) 165001003,q 5 (.db (.t 10)) 165001004]) (.seq (.eG false [q 11 (.db (.t 5)) 165002000,q 12 (.db (.t 0)) 165002001,q 13 (.jy [.bK] (.t 12) (.t 12)) 165002002,q 14 (.y8 (.t 11)) 165002003,q 15 (.fF 2 (.t 14)) 165002004,⟨none,(.store 1 (.t 15) (.t 13)),none,165002005,[]⟩]) (.seq (.eG false [q 16 (.db (.t 5)) 165003000,q 17 (.db (.t 1)) 165003001,q 18 (.len (.t 17)) 165003002,q 19 (.jy [(.int .i64 0)] (.t 18) (.t 18)) 165003003,q 20 (.y8 (.t 16)) 165003004,q 21 (.fF 3 (.t 20)) 165003005,⟨none,(.store 1 (.t 21) (.t 19)),none,165003006,[]⟩]) (.seq (.seq (.eG false [q 6 (.db (.k (.int .i64 0))) 165004000]) (.block 0 (.loop (.seq (.seq (.eG false [q 22 (.db (.t 6)) 165005000,q 23 (.db (.t 1)) 165005001,q 24 (.len (.t 23)) 165005002,q 25 (.bin .lss .i64 (.t 22) (.t 24)) 165005003]) (.cond (.t 25) .skip (.exit 0))) (.seq (.block 1 (.seq (.one ⟨(some 28),(.db (.t 5)),none,165007000,[165007021,165007022,165007024]⟩ (.one ⟨(some 29),(.y8 (.t 28)),none,165007001,[165007021,165007022,165007024]⟩ (.one ⟨(some 30),(.fF 2 (.t 29)),none,165007002,[165007021,165007022,165007024]⟩ (.one ⟨(some 32),(.db (.t 1)),none,165007004,[165007021,165007022,165007024]⟩ (.one ⟨(some 33),(.db (.t 6)),none,165007005,[165007021,165007022,165007024]⟩ (.one ⟨(some 37),(.db (.t 5)),none,165007009,[165007021,165007022,165007024]⟩ (.one ⟨(some 38),(.y8 (.t 37)),none,165007010,[165007021,165007022,165007024]⟩ (.one ⟨(some 39),(.fF 2 (.t 38)),none,165007011,[165007021,165007022,165007024]⟩ (.one ⟨(some 40),(.load false 1 (.t 39)),none,165007012,[165007021,165007022,165007024]⟩ (.one ⟨(some 41),(.db (.t 1)),none,165007013,[165007021,165007022,165007024]⟩ (.one ⟨(some 42),(.db (.t 6)),none,165007014,[165007021,165007022,165007024]⟩ (.one ⟨(some 43),(.dy 3 (.t 41) (.t 42)),none,165007015,[165007021,165007022,165007024]⟩ (.one ⟨(some 44),(.fF 0 (.t 43)),none,165007016,[165007021,165007022,165007024]⟩ (.one ⟨(some 45),(.load false 1 (.t 44)),none,165007017,[165007021,165007022,165007024]⟩ (.one ⟨(some 46),(.dy 1 (.t 40) (.t 45)),none,165007018,[165007021,165007022,165007024]⟩ (.one ⟨(some 47),(.load false 1 (.t 46)),none,165007019,[165007021,165007022,165007024]⟩ (.one ⟨(some 48),(.db (.t 6)),none,165007020,[165007021,165007022,165007024]⟩ (.one ⟨(some 49),(.l6 1 1 [(.t 48)]),none,165007021,[165007022,165007024]⟩ (.both (.one ⟨(some 31),(.load false 1 (.t 30)),none,165007003,[165007021,165007022,165007024]⟩ (.both (.one ⟨(some 34),(.dy 3 (.t 32) (.t 33)),none,165007006,[165007021,165007022,165007024]⟩ (.one ⟨(some 35),(.fF 0 (.t 34)),none,165007007,[165007021,165007022,165007024]⟩ (.both (.one ⟨(some 36),(.load false 1 (.t 35)),none,165007008,[165007021,165007022,165007024]⟩ (.one ⟨(some 50),(.append 1 (.t 47) (.t 49)),none,165007022,[165007024]⟩ (.one ⟨(some 51),(.dy 1 (.t 31) (.t 36)),none,165007023,[165007024]⟩ (.one ⟨none,(.store 1 (.t 51) (.t 50)),none,165007024,[]⟩ (.eG false []))))) (.one ⟨(some 50),(.append 1 (.t 47) (.t 49)),none,165007022,[165007024]⟩ (.one ⟨(some 36),(.load false 1 (.t 35)),none,165007008,[165007021,165007022,165007024]⟩ (.one ⟨(some 51),(.dy 1 (.t 31) (.t 36)),none,165007023,[165007024]⟩ (.one ⟨none,(.store 1 (.t 51) (.t 50)),none,165007024,[]⟩ (.eG false [])))))))) (.one ⟨(some 50),(.append 1 (.t 47) (.t 49)),none,165007022,[165007024]⟩ (.one ⟨(some 34),(.dy 3 (.t 32) (.t 33)),none,165007006,[165007021,165007022,165007024]⟩ (.one ⟨(some 35),(.fF 0 (.t 34)),none,165007007,[165007021,165007022,165007024]⟩ (.one ⟨(some 36),(.load false 1 (.t 35)),none,165007008,[165007021,165007022,165007024]⟩ (.one ⟨(some 51),(.dy 1 (.t 31) (.t 36)),none,165007023,[165007024]⟩ (.one ⟨none,(.store 1 (.t 51) (.t 50)),none,165007024,[]⟩ (.eG false []))))))))) (.both (.one ⟨(some 34),(.dy 3 (.t 32) (.t 33)),none,165007006,[165007021,165007022,165007024]⟩ (.one ⟨(some 35),(.fF 0 (.t 34)),none,165007007,[165007021,165007022,165007024]⟩ (.both (.one ⟨(some 31),(.load false 1 (.t 30)),none,165007003,[165007021,165007022,165007024]⟩ (.both (.one ⟨(some 36),(.load false 1 (.t 35)),none,165007008,[165007021,165007022,165007024]⟩ (.one ⟨(some 50),(.append 1 (.t 47) (.t 49)),none,165007022,[165007024]⟩ (.one ⟨(some 51),(.dy 1 (.t 31) (.t 36)),none,165007023,[165007024]⟩ (.one ⟨none,(.store 1 (.t 51) (.t 50)),none,165007024,[]⟩ (.eG false []))))) (.one ⟨(some 50),(.append 1 (.t 47) (.t 49)),none,165007022,[165007024]⟩ (.one ⟨(some 36),(.load false 1 (.t 35)),none,165007008,[165007021,165007022,165007024]⟩ (.one ⟨(some 51),(.dy 1 (.t 31) (.t 36)),none,165007023,[165007024]⟩ (.one ⟨none,(.store 1 (.t 51) (.t 50)),none,165007024,[]⟩ (.eG false []))))))) (.both (.one ⟨(some 36),(.load false 1 (.t 35)),none,165007008,[165007021,165007022,165007024]⟩ (.both (.one ⟨(some 31),(.load false 1 (.t 30)),none,165007003,[165007021,165007022,165007024]⟩ (.one ⟨(some 50),(.append 1 (.t 47) (.t 49)),none,165007022,[165007024]⟩ (.one ⟨(some 51),(.dy 1 (.t 31) (.t 36)),none,165007023,[165007024]⟩ (.one ⟨none,(.store 1 (.t 51) (.t 50)),none,165007024,[]⟩ (.eG false []))))) (.one ⟨(some 50),(.append 1 (.t 47) (.t 49)),none,165007022,[165007024]⟩ (.one ⟨(some 31),(.load false 1 (.t 30)),none,165007003,[165007021,165007022,165007024]⟩ (.one ⟨(some 51),(.dy 1 (.t 31) (.t 36)),none,165007023,[165007024]⟩ (.one ⟨none,(.store 1 (.t 51) (.t 50)),none,165007024,[]⟩ (.eG false []))))))) (.one ⟨(some 50),(.append 1 (.t 47) (.t 49)),none,165007022,[165007024]⟩ (.one ⟨(some 31),(.load false 1 (.t 30)),none,165007003,[165007021,165007022,165007024]⟩ (.one ⟨(some 36),(.load false 1 (.t 35)),none,165007008,[165007021,165007022,165007024]⟩ (.one ⟨(some 51),(.dy 1 (.t 31) (.t 36)),none,165007023,[165007024]⟩ (.one ⟨none,(.store 1 (.t 51) (.t 50)),none,165007024,[]⟩ (.eG false [])))))))))) (.one ⟨(some 50),(.append 1 (.t 47) (.t 49)),none,165007022,[165007024]⟩ (.one ⟨(some 31),(.load false 1 (.t 30)),none,165007003,[165007021,165007022,165007024]⟩ (.one ⟨(some 34),(.dy 3 (.t 32) (.t 33)),none,165007006,[165007021,165007022,165007024]⟩ (.one ⟨(some 35),(.fF 0 (.t 34)),none,165007007,[165007021,165007022,165007024]⟩ (.one ⟨(some 36),(.load false 1 (.t 35)),none,165007008,[165007021,165007022,165007024]⟩ (.one ⟨(some 51),(.dy 1 (.t 31) (.t 36)),none,165007023,[165007024]⟩ (.one ⟨none,(.store 1 (.t 51) (.t 50)),none,165007024,[]⟩ (.eG false [])))))))))))))))))))))))))))) (.one ⟨(some 52),(.db (.t 5)),none,165008000,[165008021,165008022,165008024]⟩ (.one ⟨(some 53),(.y8 (.t 52)),none,165008001,[165008021,165008022,165008024]⟩ (.one ⟨(some 54),(.fF 2 (.t 53)),none,165008002,[165008021,165008022,165008024]⟩ (.one ⟨(some 56),(.db (.t 1)),none,165008004,[165008021,165008022,165008024]⟩ (.one ⟨(some 57),(.db (.t 6)),none,165008005,[165008021,165008022,165008024]⟩ (.one ⟨(some 61),(.db (.t 5)),none,165008009,[165008021,165008022,165008024]⟩ (.one ⟨(some 62),(.y8 (.t 61)),none,165008010,[165008021,165008022,165008024]⟩ (.one ⟨(some 63),(.fF 2 (.t 62)),none,165008011,[165008021,165008022,165008024]⟩ (.one ⟨(some 64),(.load false 1 (.t 63)),none,165008012,[165008021,165008022,165008024]⟩ (.one ⟨(some 65),(.db (.t 1)),none,165008013,[165008021,165008022,165008024]⟩ (.one ⟨(some 66),(.db (.t 6)),none,165008014,[165008021,165008022,165008024]⟩ (.one ⟨(some 67),(.dy 3 (.t 65) (.t 66)),none,165008015,[165008021,165008022,165008024]⟩ (.one ⟨(some 68),(.fF 1 (.t 67)),none,165008016,[165008021,165008022,165008024]⟩ (.one ⟨(some 69),(.load false 1 (.t 68)),none,165008017,[165008021,165008022,165008024]⟩ (.one ⟨(some 70),(.dy 1 (.t 64) (.t 69)),none,165008018,[165008021,165008022,165008024]⟩ (.one ⟨(some 71),(.load false 1 (.t 70)),none,165008019,[165008021,165008022,165008024]⟩ (.one ⟨(some 72),(.db (.t 6)),none,165008020,[165008021,165008022,165008024]⟩ (.one ⟨(some 73),(.l6 1 1 [(.t 72)]),none,165008021,[165008022,165008024]⟩ (.both (.one ⟨(some 55),(.load false 1 (.t 54)),none,165008003,[165008021,165008022,165008024]⟩ (.both (.one ⟨(some 58),(.dy 3 (.t 56) (.t 57)),none,165008006,[165008021,165008022,165008024]⟩ (.one ⟨(some 59),(.fF 1 (.t 58)),none,165008007,[165008021,165008022,165008024]⟩ (.both (.one ⟨(some 60),(.load false 1 (.t 59)),none,165008008,[165008021,165008022,165008024]⟩ (.one ⟨(some 74),(.append 1 (.t 71) (.t 73)),none,165008022,[165008024]⟩ (.one ⟨(some 75),(.dy 1 (.t 55) (.t 60)),none,165008023,[165008024]⟩ (.one ⟨none,(.store 1 (.t 75) (.t 74)),none,165008024,[]⟩ (.eG false []))))) (.one ⟨(some 74),(.append 1 (.t 71) (.t 73)),none,165008022,[165008024]⟩ (.one ⟨(some 60),(.load false 1 (.t 59)),none,165008008,[165008021,165008022,165008024]⟩ (.one ⟨(some 75),(.dy 1 (.t 55) (.t 60)),none,165008023,[165008024]⟩ (.one ⟨none,(.store 1 (.t 75) (.t 74)),none,165008024,[]⟩ (.eG false [])))))))) (.one ⟨(some 74),(.append 1 (.t 71) (.t 73)),none,165008022,[165008024]⟩ (.one ⟨(some 58),(.dy 3 (.t 56) (.t 57)),none,165008006,[165008021,165008022,165008024]⟩ (.one ⟨(some 59),(.fF 1 (.t 58)),none,165008007,[165008021,165008022,165008024]⟩ (.one ⟨(some 60),(.load false 1 (.t 59)),none,165008008,[165008021,165008022,165008024]⟩ (.one ⟨(some 75),(.dy 1 (.t 55) (.t 60)),none,165008023,[165008024]⟩ (.one ⟨none,(.store 1 (.t 75) (.t 74)),none,165008024,[]⟩ (.eG false []))))))))) (.both (.one ⟨(some 58),(.dy 3 (.t 56) (.t 57)),none,165008006,[165008021,165008022,165008024]⟩ (.one ⟨(some 59),(.fF 1 (.t 58)),none,165008007,[165008021,165008022,165008024]⟩ (.both (.one ⟨(some 55),(.load false 1 (.t 54)),none,165008003,[165008021,165008022,165008024]⟩ (.both (.one ⟨(some 60),(.load false 1 (.t 59)),none,165008008,[165008021,165008022,165008024]⟩ (.one ⟨(some 74),(.append 1 (.t 71) (.t 73)),none,165008022,[165008024]⟩ (.one ⟨(some 75),(.dy 1 (.t 55) (.t 60)),none,165008023,[165008024]⟩ (.one ⟨none,(.store 1 (.t 75) (.t 74)),none,165008024,[]⟩ (.eG false []))))) (.one ⟨(some 74),(.append 1 (.t 71) (.t 73)),none,165008022,[165008024]⟩ (.one ⟨(some 60),(.load false 1 (.t 59)),none,165008008,[165008021,165008022,165008024]⟩ (.one ⟨(some 75),(.dy 1 (.t 55) (.t 60)),none,165008023,[165008024]⟩ (.one ⟨none,(.store 1 (.t 75) (.t 74)),none,165008024,[]⟩ (.eG false []))))))) (.both (.one ⟨(some 60),(.load false 1 (.t 59)),none,165008008,[165008021,165008022,165008024]⟩ (.both (.one ⟨(some 55),(.load false 1 (.t 54)),none,165008003,[165008021,165008022,165008024]⟩ (.one ⟨(some 74),(.append 1 (.t 71) (.t 73)),none,165008022,[165008024]⟩ (.one ⟨(some 75),(.dy 1 (.t 55) (.t 60)),none,165008023,[165008024]⟩ (.one ⟨none,(.store 1 (.t 75) (.t 74)),none,165008024,[]⟩ (.eG false []))))) (.one ⟨(some 74),(.append 1 (.t 71) (.t 73)),none,165008022,[165008024]⟩ (.one ⟨(some 55),(.load false 1 (.t 54)),none,165008003,[165008021,165008022,165008024]⟩ (.one ⟨(some 75),(.dy 1 (.t 55) (.t 60)),none,165008023,[165008024]⟩ (.one ⟨none,(.store 1 (.t 75) (.t 74)),none,165008024,[]⟩ (.eG false []))))))) (.one ⟨(some 74),(.append 1 (.t 71) (.t 73)),none,165008022,[165008024]⟩ (.one ⟨(some 55),(.load false 1 (.t 54)),none,165008003,[165008021,165008022,165008024]⟩ (.one ⟨(some 60),(.load false 1 (.t 59)),none,165008008,[165008021,165008022,165008024]⟩ (.one ⟨(some 75),(.dy 1 (.t 55) (.t 60)),none,165008023,[165008024]⟩ (.one ⟨none,(.store 1 (.t 75) (.t 74)),none,165008024,[]⟩ (.eG false [])))))))))) (.one ⟨(some 74),(.append 1 (.t 71) (.t 73)),none,165008022,[165008024]⟩ (.one ⟨(some 55),(.load false 1 (.t 54)),none,165008003,[165008021,165008022,165008024]⟩ (.one ⟨(some 58),(.dy 3 (.t 56) (.t 57)),none,165008006,[165008021,165008022,165008024]⟩ (.one ⟨(some 59),(.fF 1 (.t 58)),none,165008007,[165008021,165008022,165008024]⟩ (.one ⟨(some 60),(.load false 1 (.t 59)),none,165008008,[165008021,165008022,165008024]⟩ (.one ⟨(some 75),(.dy 1 (.t 55) (.t 60)),none,165008023,[165008024]⟩ (.one ⟨none,(.store 1 (.t 75) (.t 74)),none,165008024,[]⟩ (.eG false [])))))))))))))))))))))))))))))) (.eG false [q 26 (.db (.t 6)) 165006000,q 27 (.bin .add .i64 (.t 26) (.k (.int .i64 1))) 165006001,q 6 (.db (.t 27)) 165006002])))))) (.seq (.eG false [q 76 (.db (.t 5)) 165009000,q 4 (.db (.t 76)) 165009001]) .ret)))))),[(.tmp 4)]⟩
theorem LX:uY Tryz.prog 165 [(7,2),(8,2)]=some NG:=by kernel_rfl
def NH:yC:=⟨118,2,(.seq (.eG false [q 4 (.db (.k .bK)) 168000000]) (.seq (.eG false [q 17 (.db (.t 0)) 168001000,q 18 (.jy [.gG] (.t 17) (.t 17)) 168001001,q 5 (.db (.t 18)) 168001002]) (.seq (.seq (.eG false [q 19 (.db (.t 5)) 168002000,q 20 (.len (.t 19)) 168002001,q 21 (.db (.k (.int .i64 0))) 168002002]) (.block 0 (.loop (.seq (.eG false [q 22 (.bin .lss .i64 (.t 21) (.t 20)) 168003000]) (.seq (.cond (.t 22) .skip (.exit 0)) (.seq (.block 1 (.seq (.eG false [q 23 (.db (.t 21)) 168004000,q 6 (.db (.t 23)) 168004001]) (.eG false [q 24 (.db (.t 5)) 168005000,q 25 (.db (.t 6)) 168005001,q 26 (.db (.t 6)) 168005002,q 27 (.build [.gG,(.int .i64 0)] [(1,(1,(.t 26)))]) 168005003,q 28 (.box (.t 27)) 168005004,q 29 (.dy 1 (.t 24) (.t 25)) 168005005,⟨none,(.store 1 (.t 29) (.t 28)),none,168005006,[]⟩]))) (.eG false [q 30 (.bin .add .i64 (.t 21) (.k (.int .i64 1))) 168006000,q 21 (.db (.t 30)) 168006001]))))))) (.seq (.seq (.eG false [q 31 (.db (.t 1)) 168007000,q 32 (.len (.t 31)) 168007001,q 33 (.db (.k (.int .i64 0))) 168007002]) (.block 2 (.loop (.seq (.eG false [q 34 (.bin .lss .i64 (.t 33) (.t 32)) 168008000]) (.seq (.cond (.t 34) .skip (.exit 2)) (.seq (.block 3 (.seq (.eG false [q 35 (.dy 3 (.t 31) (.t 33)) 168009000,q 36 (.load true 3 (.t 35)) 168009001,q 8 (.new [(.int .i64 0),(.int .i64 0),(.int .i64 0)]) 168009002,⟨none,(.store 3 (.t 8) (.t 36)),none,168009003,[]⟩]) (.seq (.one (q 37 (.db (.t 5)) 168010000) (.one (q 38 (.fF 0 (.t 8)) 168010001) (.one (q 39 (.load false 1 (.t 38)) 168010002) (.one (q 40 (.dy 1 (.t 37) (.t 39)) 168010003) (.one (q 41 (.load false 1 (.t 40)) 168010004) (.one (q 43 (.db (.t 5)) 168010006) (.one (q 44 (.fF 1 (.t 8)) 168010007) (.both (.one (q 42 (.call 184 [(.t 41)]) 168010005) (.one (q 45 (.load false 1 (.t 44)) 168010008) (.one (q 46 (.dy 1 (.t 43) (.t 45)) 168010009) (.one (q 47 (.load false 1 (.t 46)) 168010010) (.one (q 48 (.call 184 [(.t 47)]) 168010011) (.one (q 9 (.db (.t 42)) 168010012) (.one (q 10 (.db (.t 48)) 168010013) (.eG false [])))))))) (.one (q 45 (.load false 1 (.t 44)) 168010008) (.both (.one (q 42 (.call 184 [(.t 41)]) 168010005) (.one (q 46 (.dy 1 (.t 43) (.t 45)) 168010009) (.one (q 47 (.load false 1 (.t 46)) 168010010) (.one (q 48 (.call 184 [(.t 47)]) 168010011) (.one (q 9 (.db (.t 42)) 168010012) (.one (q 10 (.db (.t 48)) 168010013) (.eG false []))))))) (.one (q 46 (.dy 1 (.t 43) (.t 45)) 168010009) (.both (.one (q 42 (.call 184 [(.t 41)]) 168010005) (.one (q 47 (.load false 1 (.t 46)) 168010010) (.one (q 48 (.call 184 [(.t 47)]) 168010011) (.one (q 9 (.db (.t 42)) 168010012) (.one (q 10 (.db (.t 48)) 168010013) (.eG false [])))))) (.one (q 47 (.load false 1 (.t 46)) 168010010) (.one (q 42 (.call 184 [(.t 41)]) 168010005) (.one (q 48 (.call 184 [(.t 47)]) 168010011) (.one (q 9 (.db (.t 42)) 168010012) (.one (q 10 (.db (.t 48)) 168010013) (.eG false [])))))))))))))))))) (.block 4 (.seq (.eG true [q 50 (.db (.t 9)) 168011000,q 51 (.y8 (.t 50)) 168011001,q 52 (.fF 1 (.t 51)) 168011002,q 53 (.load false 1 (.t 52)) 168011003,q 54 (.db (.t 10)) 168011004,q 55 (.y8 (.t 54)) 168011005,q 56 (.fF 1 (.t 55)) 168011006,q 57 (.load false 1 (.t 56)) 168011007,q 58 (.bin .lss .i64 (.t 53) (.t 57)) 168011008,q 49 (.db (.t 58)) 168011009]) (.cond (.t 49) (.eG false [q 59 (.db (.t 10)) 168012000,q 60 (.db (.t 9)) 168012001,q 61 (.y8 (.t 59)) 168012002,q 62 (.fF 0 (.t 61)) 168012003,⟨none,(.store 1 (.t 62) (.t 60)),none,168012004,[]⟩]) (.seq (.eG true [q 64 (.db (.t 10)) 168013000,q 65 (.y8 (.t 64)) 168013001,q 66 (.fF 1 (.t 65)) 168013002,q 67 (.load false 1 (.t 66)) 168013003,q 68 (.db (.t 9)) 168013004,q 69 (.y8 (.t 68)) 168013005,q 70 (.fF 1 (.t 69)) 168013006,q 71 (.load false 1 (.t 70)) 168013007,q 72 (.bin .lss .i64 (.t 67) (.t 71)) 168013008,q 63 (.db (.t 72)) 168013009]) (.cond (.t 63) (.eG false [q 73 (.db (.t 9)) 168014000,q 74 (.db (.t 10)) 168014001,q 75 (.y8 (.t 73)) 168014002,q 76 (.fF 0 (.t 75)) 168014003,⟨none,(.store 1 (.t 76) (.t 74)),none,168014004,[]⟩]) .skip)))))))) (.eG false [q 77 (.bin .add .i64 (.t 33) (.k (.int .i64 1))) 168015000,q 33 (.db (.t 77)) 168015001]))))))) (.seq (.eG false [q 11 (.db (.k .bK)) 168016000]) (.seq (.eG false [⟨(some 78),(.mq (.new ⟨false,[.tI]⟩) []),none,168017000,[]⟩,q 12 (.db (.t 78)) 168017001]) (.seq (.seq (.eG false [q 79 (.db (.t 5)) 168018000,q 80 (.len (.t 79)) 168018001,q 81 (.db (.k (.int .i64 0))) 168018002]) (.block 5 (.loop (.seq (.eG false [q 82 (.bin .lss .i64 (.t 81) (.t 80)) 168019000]) (.seq (.cond (.t 82) .skip (.exit 5)) (.seq (.block 6 (.seq (.eG false [q 83 (.db (.t 81)) 168020000,q 84 (.dy 1 (.t 79) (.t 81)) 168020001,q 85 (.load false 1 (.t 84)) 168020002,q 13 (.db (.t 83)) 168020003,q 14 (.db (.t 85)) 168020004]) (.seq (.eG false [q 87 (.db (.t 12)) 168021000,q 88 (.db (.t 14)) 168021001,q 89 (.call 184 [(.t 88)]) 168021002,q 90 (.y8 (.t 89)) 168021003,q 91 (.fF 1 (.t 90)) 168021004,q 92 (.load false 1 (.t 91)) 168021005,⟨(some 93),(.mq (.look ⟨false,[.tI]⟩ true (.int .i64 0)) [(.t 87),(.t 92)]),none,168021006,[]⟩,q 86 (.db (.t 93)) 168021007,q 94 (.extract 0 (.t 86)) 168021008,q 95 (.extract 1 (.t 86)) 168021009,q 15 (.db (.t 94)) 168021010,q 16 (.db (.t 95)) 168021011]) (.seq (.seq (.eG false [q 96 (.db (.t 16)) 168022000,q 97 (.not (.t 96)) 168022001]) (.cond (.t 97) (.seq (.eG false [q 98 (.db (.t 11)) 168023000,q 99 (.len (.t 98)) 168023001,q 15 (.db (.t 99)) 168023002]) (.seq (.eG false [q 100 (.db (.t 12)) 168024000,q 101 (.db (.t 13)) 168024001,q 102 (.db (.t 15)) 168024002,⟨none,(.mw (.set ⟨false,[.tI]⟩) [(.t 100),(.t 101),(.t 102)]),none,168024003,[]⟩]) (.eG false [q 103 (.db (.t 11)) 168025000,q 104 (.l6 1 1 [(.k .bK)]) 168025001,q 105 (.append 1 (.t 103) (.t 104)) 168025002,q 11 (.db (.t 105)) 168025003]))) .skip)) (.eG false [q 106 (.db (.t 11)) 168026000,q 107 (.db (.t 15)) 168026001,q 108 (.db (.t 11)) 168026002,q 109 (.db (.t 15)) 168026003,q 110 (.dy 1 (.t 108) (.t 109)) 168026004,q 111 (.load false 1 (.t 110)) 168026005,q 112 (.db (.t 13)) 168026006,q 113 (.l6 1 1 [(.t 112)]) 168026007,q 114 (.append 1 (.t 111) (.t 113)) 168026008,q 115 (.dy 1 (.t 106) (.t 107)) 168026009,⟨none,(.store 1 (.t 115) (.t 114)),none,168026010,[]⟩]))))) (.eG false [q 116 (.bin .add .i64 (.t 81) (.k (.int .i64 1))) 168027000,q 81 (.db (.t 116)) 168027001]))))))) (.seq (.eG false [q 117 (.db (.t 11)) 168028000,q 4 (.db (.t 117)) 168028001]) .ret)))))))),[(.tmp 4)]⟩
theorem LY:uY Tryz.prog 168 [(10,2)]=some NH:=by kernel_rfl
end Go.Proofs.YtihgaadadaekmaaGreatDoor.V

namespace Go.Proofs.YtihgaadadaekmaaGreatDoor.V
open Go.RowKit
attribute [local irreducible] ea wpOps gR Call
attribute [local go_sem] aM fP eL gh ga cE upd cu K.av cL AV.cells AV.cell rowOf rowsOf part ld rowAt bY ck dI ef ig bL da ez gn e7 du ek cY cX dV dW bR bm cQ bQ cT cR ei eo ej cP bW cZ eh bP aQ cV cC ib bw cH bS aY dF bu dK AV.undef bF bH dY ee dU eb cF ew eD cw eu er cU cW List.getD_cons_zero List.getD_cons_succ List.getD_nil List.all_cons List.all_nil Bool.and_true Bool.true_and Bool.and_self Bool.not_true Bool.not_false Option.map_some Option.map_none Option.bind_some Option.bind_none List.length_cons List.length_nil List.take_succ_cons List.take_zero List.take_nil List.drop_succ_cons List.drop_zero List.drop_nil List.head?_cons List.map_cons List.map_nil List.getElem?_cons_zero List.getElem?_cons_succ List.cons_append List.nil_append List.append_nil List.length_map List.set_cons_zero List.set_cons_succ Nat.reduceMul eq_self Int.toNat_natCast Int.natCast_nonneg and_self true_and and_true decide_true decide_false Bool.false_eq_true Nat.zero_add Nat.add_zero List.contains_cons List.contains_nil Bool.or_false Bool.false_or beq_self_eq_true Nat.reduceBEq ne_eq not_true_eq_false not_false_eq_true Id.mk.injEq false_and and_false Nat.reduceLT Int.reduceLE Int.reduceLT Int.reduceToNat Int.reduceNeg Int.reduceAdd Nat.le_refl List.length_append beq_true beq_false Bool.not_eq_eq_eq_not or_false false_or dE ad aj aI bE cj aW bf aV bo cN bG
theorem zA (x:fc) (g:Rows):cm g 6 [.agg (bd x)]=some [.agg (bd x)]:=by simp[bd,ad,aj,bf,bE,aI]
theorem zB (x:eI) (g:Rows):cm g 6 [.agg (bj x)]=some [.agg (bj x)]:=by simp[bj,ad,aj,bf,bE,cj]
theorem Bv (x:ao) (g:Rows):cm g 6 [.agg (ai x)]=some [.agg (ai x)]:=by simp[ai,ad,aj,bf,aI]
theorem fq {n:Nat} {l:Int} (h:(n:Int)<=l):s5 n l=l-n:=if_pos h
theorem fo {n:Nat} {l:Int} (h:¬(n:Int)<=l):s5 n l= -1:=if_neg h
def jV (t:eI):Nat:=t.aB.size+t.bp.length
def sI (s:aw):Nat:=(s.au.length+(s.au.map fun g=>g.aB.size).sum)+(s.ah.length+(s.ah.map jV).sum)
def qP (s:cl):Nat:=sI s.aE+s.bZ.ah.length
def fx (s:aw):Prop:=(∀g∈s.au,g.aB.size<=9223372036854775807)/\∀t∈s.ah,t.aB.size<=9223372036854775807
theorem It (g:fc) (l:Int) (h0:0<=l) (h1:l<=1048576) (hs:g.aB.size<=9223372036854775807):ae Tryz.prog 90 [.agg (bd g),.int .i64 l] (.int .i64 (s5 g.aB.size l)):=by
 refine ae.body dM rfl fun hl n0=>?_
 clear hl
 have hw:IntKind.i64.wrap (l-(g.aB.size:Int))=l-g.aB.size:=aT ab
 by_cases hf:(g.aB.size:Int)<=l
 ·have kI:¬l-(g.aB.size:Int)<0:=ab
  (try((repeat(revert hN;revert N;apply Pn.out));refine wk (tw @bd.eq_1 (tw @hw @kI)) ?_;(repeat(refine Pn.mk ?_;intro N hN))))
  exact aZ (b:=l-(g.aB.size:Int)) (.inl rfl) (sd @Nat.zero_add) (fq hf).symm
 ·have kI:l-(g.aB.size:Int)<0:=ab
  (try((repeat(revert hN;revert N;apply Pn.out));refine wk (tw @bd.eq_1 (tw @hw @kI)) ?_;(repeat(refine Pn.mk ?_;intro N hN))))
  exact aZ (b:=-1) (.inl rfl) (sd @Nat.zero_add) (fo hf).symm
theorem Av (xs:List Int) (l:Int) (h0:0<=l) (h1:l<=1048576):ae Tryz.prog 82 [.sl (xs.map ar),.int .i64 l] (.int .i64 (s5 xs.length l)):=by
 have h:=CB (show kK Tryz.prog 82=some (DK 82) by kernel_rfl) (xs.map ar) l h0 h1
 rwa [List.length_map]at h
theorem Iw (t:eI) (l:Int) (h0:0<=l) (h1:l<=1048576) (hs:t.aB.size<=9223372036854775807):ae Tryz.prog 91 [.agg (bj t),.int .i64 l] (.int .i64 (s5 (jV t) l)):=by
 refine ae.body dM rfl fun hl n0=>?_
 clear hl
 have hw:IntKind.i64.wrap (l-(t.aB.size:Int))=l-t.aB.size:=aT ab
 by_cases hf:(t.aB.size:Int)<=l
 ·have kI:¬l-(t.aB.size:Int)<0:=ab
  have hc:=Av t.bp (l-t.aB.size) ab ab
  by_cases hg:(t.bp.length:Int)<=l-t.aB.size
  ·rw[fq hg]at hc
   have I1:¬l-(t.aB.size:Int)-(t.bp.length:Int)<0:=ab
   (repeat(first|((repeat(revert hN;revert N;apply Pn.out));refine wk (tw @bj.eq_1 (tw @hw (tw @kI @I1))) ?_;(repeat(refine Pn.mk ?_;intro N hN)))|((try apply Or.inl);refine⟨_,ae.x (hc) (sd (tw @bj.eq_1 (tw @hw (tw @kI @I1)))),?_⟩;refine hN _ _ ?_;clear hN N)))
   exact aZ (b:=l-(t.aB.size:Int)-(t.bp.length:Int)) (.inl rfl) (sd @Nat.zero_add) (by rw[fq (by unfold jV;omega)];unfold jV;omega)
  ·rw[fo hg]at hc
   (repeat(first|((repeat(revert hN;revert N;apply Pn.out));refine wk (tw @bj.eq_1 (tw @hw @kI)) ?_;(repeat(refine Pn.mk ?_;intro N hN)))|((try apply Or.inl);refine⟨_,ae.x (hc) (sd (tw @bj.eq_1 (tw @hw @kI))),?_⟩;refine hN _ _ ?_;clear hN N)))
   exact aZ (b:=-1) (.inl rfl) (sd @Nat.zero_add) (fo (by unfold jV;omega)).symm
 ·have kI:l-(t.aB.size:Int)<0:=ab
  (try((repeat(revert hN;revert N;apply Pn.out));refine wk (tw @bj.eq_1 (tw @hw @kI)) ?_;(repeat(refine Pn.mk ?_;intro N hN))))
  exact aZ (b:=-1) (.inl rfl) (sd @Nat.zero_add) (fo (by unfold jV;omega)).symm
theorem FC (xs:List fc) (l:Int) (h0:0<=l) (h1:l<=1048576) (hs:∀g∈xs,g.aB.size<=9223372036854775807):ae Tryz.prog 63 [.sl (xs.map bd),.int .i64 l] (.int .i64 (s5 (xs.length+(xs.map fun g=>g.aB.size).sum) l)):=
 Iv (fun g:fc=>g.aB.size) (show kK Tryz.prog 63=some (Iu 63 90 2) by kernel_rfl) (fun _=>rfl) zA xs l h0 h1 fun x hx l a b=>It x l a b (hs x hx)
theorem FD (xs:List eI) (l:Int) (h0:0<=l) (h1:l<=1048576) (hs:∀t∈xs,t.aB.size<=9223372036854775807):ae Tryz.prog 64 [.sl (xs.map bj),.int .i64 l] (.int .i64 (s5 (xs.length+(xs.map jV).sum) l)):=
 Iv jV (show kK Tryz.prog 64=some (Iu 64 91 2) by kernel_rfl) (fun _=>rfl) zB xs l h0 h1 fun x hx l a b=>Iw x l a b (hs x hx)
theorem CA (xs:List ao) (l:Int) (h0:0<=l) (h1:l<=1048576):ae Tryz.prog 34 [.sl (xs.map ai),.int .i64 l] (.int .i64 (s5 xs.length l)):=by
 have h:=CB (show kK Tryz.prog 34=some (DK 34) by kernel_rfl) (xs.map ai) l h0 h1
 rwa [List.length_map]at h
theorem Aw (s:aw) (l:Int) (h0:0<=l) (h1:l<=1048576) (hs:fx s):ae Tryz.prog 33 [.agg (aa s),.int .i64 l] (.int .i64 (s5 (sI s) l)):=by
 refine ae.body dM rfl fun hl n0=>?_
 clear hl
 have ha:=FC s.au l h0 h1 hs.1
 have he:sI s=(s.au.length+(s.au.map fun g=>g.aB.size).sum)+(s.ah.length+(s.ah.map jV).sum):=rfl
 by_cases hf:((s.au.length+(s.au.map fun g=>g.aB.size).sum:Nat):Int)<=l
 ·rw[fq hf]at ha
  obtain⟨A,hA⟩:∃A:Int,A=l-((s.au.length+(s.au.map fun g=>g.aB.size).sum:Nat):Int):=⟨_,rfl⟩
  rw[<-hA]at ha
  have kI:¬A<0:=ab
  have hb:=FD s.ah A ab ab hs.2
  by_cases hg:((s.ah.length+(s.ah.map jV).sum:Nat):Int)<=A
  ·rw[fq hg]at hb
   obtain⟨B,hB⟩:∃B:Int,B=A-((s.ah.length+(s.ah.map jV).sum:Nat):Int):=⟨_,rfl⟩
   rw[<-hB]at hb
   have I1:¬B<0:=ab
   (repeat(first|((repeat(revert hN;revert N;apply Pn.out));refine wk (tw @aa.eq_1 (tw @kI @I1)) ?_;(repeat(refine Pn.mk ?_;intro N hN)))|((try apply Or.inl);refine⟨_,ae.x (ha) (sd (tw @aa.eq_1 (tw @kI @I1))),?_⟩;refine hN _ _ ?_;clear hN N)|((try apply Or.inl);refine⟨_,ae.x (hb) (sd (tw @aa.eq_1 (tw @kI @I1))),?_⟩;refine hN _ _ ?_;clear hN N)))
   exact aZ (b:=B) (.inl rfl) (sd @Nat.zero_add) (by rw[fq ab];omega)
  ·rw[fo hg]at hb
   (repeat(first|((repeat(revert hN;revert N;apply Pn.out));refine wk (tw @aa.eq_1 @kI) ?_;(repeat(refine Pn.mk ?_;intro N hN)))|((try apply Or.inl);refine⟨_,ae.x (ha) (sd (tw @aa.eq_1 @kI)),?_⟩;refine hN _ _ ?_;clear hN N)|((try apply Or.inl);refine⟨_,ae.x (hb) (sd (tw @aa.eq_1 @kI)),?_⟩;refine hN _ _ ?_;clear hN N)))
   exact aZ (b:=-1) (.inl rfl) (sd @Nat.zero_add) (fo ab).symm
 ·rw[fo hf]at ha
  (repeat(first|((repeat(revert hN;revert N;apply Pn.out));refine wk @aa.eq_1 ?_;(repeat(refine Pn.mk ?_;intro N hN)))|((try apply Or.inl);refine⟨_,ae.x (ha) (sd @aa.eq_1),?_⟩;refine hN _ _ ?_;clear hN N)))
  exact aZ (b:=-1) (.inl rfl) (sd @Nat.zero_add) (fo ab).symm
theorem qI (a:dj) (l:Int) (h0:0<=l) (h1:l<=1048576):ae Tryz.prog 8 [.agg (aD a),.int .i64 l] (.int .i64 (s5 a.ah.length l)):=by
 refine ae.body dM rfl fun hl n0=>?_
 clear hl
 have ha:=CA a.ah l h0 h1
 by_cases hf:(a.ah.length:Int)<=l
 ·rw[fq hf]at ha
  have kI:¬l-(a.ah.length:Int)<0:=ab
  (repeat(first|((repeat(revert hN;revert N;apply Pn.out));refine wk (tw @aD.eq_1 @kI) ?_;(repeat(refine Pn.mk ?_;intro N hN)))|((try apply Or.inl);refine⟨_,ae.x (ha) (sd (tw @aD.eq_1 @kI)),?_⟩;refine hN _ _ ?_;clear hN N)))
  exact aZ (b:=l-(a.ah.length:Int)) (.inl rfl) (sd @Nat.zero_add) (fq hf).symm
 ·rw[fo hf]at ha
  (repeat(first|((repeat(revert hN;revert N;apply Pn.out));refine wk @aD.eq_1 ?_;(repeat(refine Pn.mk ?_;intro N hN)))|((try apply Or.inl);refine⟨_,ae.x (ha) (sd @aD.eq_1),?_⟩;refine hN _ _ ?_;clear hN N)))
  exact aZ (b:=-1) (.inl rfl) (sd @Nat.zero_add) (fo hf).symm
theorem CC (s:cl) (l:Int) (h0:0<=l) (h1:l<=1048576) (hs:fx s.aE):ae Tryz.prog 7 [.agg (az s),.int .i64 l] (.int .i64 (s5 (qP s) l)):=by
 refine ae.body dM rfl fun hl n0=>?_
 clear hl
 have ha:=Aw s.aE l h0 h1 hs
 rw[aa]at ha
 have he:qP s=sI s.aE+s.bZ.ah.length:=rfl
 by_cases hf:(sI s.aE:Int)<=l
 ·rw[fq hf]at ha
  have kI:¬l-(sI s.aE:Int)<0:=ab
  have hb:=qI s.bZ (l-sI s.aE) ab ab
  rw[aD]at hb
  by_cases hg:(s.bZ.ah.length:Int)<=l-sI s.aE
  ·rw[fq hg]at hb
   have I1:¬l-(sI s.aE:Int)-(s.bZ.ah.length:Int)<0:=ab
   (repeat(first|((repeat(revert hN;revert N;apply Pn.out));refine wk (tw @az.eq_1 (tw @kI @I1)) ?_;(repeat(refine Pn.mk ?_;intro N hN)))|((try apply Or.inl);refine⟨_,ae.x (ha) (sd (tw @az.eq_1 (tw @kI @I1))),?_⟩;refine hN _ _ ?_;clear hN N)|((try apply Or.inl);refine⟨_,ae.x (hb) (sd (tw @az.eq_1 (tw @kI @I1))),?_⟩;refine hN _ _ ?_;clear hN N)))
   exact aZ (b:=l-(sI s.aE:Int)-(s.bZ.ah.length:Int)) (.inl rfl) (sd @Nat.zero_add) (by rw[fq ab];omega)
  ·rw[fo hg]at hb
   (repeat(first|((repeat(revert hN;revert N;apply Pn.out));refine wk (tw @az.eq_1 @kI) ?_;(repeat(refine Pn.mk ?_;intro N hN)))|((try apply Or.inl);refine⟨_,ae.x (ha) (sd (tw @az.eq_1 @kI)),?_⟩;refine hN _ _ ?_;clear hN N)|((try apply Or.inl);refine⟨_,ae.x (hb) (sd (tw @az.eq_1 @kI)),?_⟩;refine hN _ _ ?_;clear hN N)))
   exact aZ (b:=-1) (.inl rfl) (sd @Nat.zero_add) (fo ab).symm
 ·rw[fo hf]at ha
  (repeat(first|((repeat(revert hN;revert N;apply Pn.out));refine wk @az.eq_1 ?_;(repeat(refine Pn.mk ?_;intro N hN)))|((try apply Or.inl);refine⟨_,ae.x (ha) (sd @az.eq_1),?_⟩;refine hN _ _ ?_;clear hN N)))
  exact aZ (b:=-1) (.inl rfl) (sd @Nat.zero_add) (fo ab).symm
theorem KC (x:fc) (g:Rows):cm g 5 (bd x)=some (bd x):=by simp[bd,ad,aj,bE,aI]
theorem KD (x:eI) (g:Rows):cm g 5 (bj x)=some (bj x):=by simp[bj,ad,aj,bE,cj]
theorem Fq (x:ao) (g:Rows):cm g 5 (ai x)=some (ai x):=by simp[ai,ad,aj,aI]
theorem wR (p:cr):iN Tryz.prog 100 [.agg (ak p)] (.agg (ak p)):=by
 refine iN.body dM rfl fun hl σ=>?_
 clear hl
 (try((repeat(revert hN;revert N;apply Pn.out));refine wk @ak.eq_1 ?_;(repeat(refine Pn.mk ?_;intro N hN))))
 exact sH (.inl rfl) (vs:=[.agg (ak p)]) (by simp only[go_sem, ↓reduceIte,Nat.reduceEqDiff,Nat.reduceAdd,Nat.reduceSub,Nat.reduceLeDiff,reduceCtorEq,eU,gK,ak]) (by simp[eF,ak,bf,ad,aj,aI])
theorem CE (p:ao):iN Tryz.prog 71 [.agg (ai p)] (.agg (ai p)):=by
 refine iN.body dM rfl fun hl σ=>?_
 clear hl
 have h:=wR p.cI
 rw[ak]at h
 (repeat(first|((repeat(revert hN;revert N;apply Pn.out));refine wk @ai.eq_1 ?_;(repeat(refine Pn.mk ?_;intro N hN)))|((try apply Or.inl);refine⟨_,iN.x (h) _,?_⟩;refine hN _ _ ?_;clear hN N)))
 exact sH (.inl rfl) (vs:=[.agg (ai p)]) (by simp only[go_sem, ↓reduceIte,Nat.reduceEqDiff,Nat.reduceAdd,Nat.reduceSub,Nat.reduceLeDiff,reduceCtorEq,eU,gK,ai]) (by simp[eF,ai,bf,ad,aj,aI])
theorem IE (p:fc):iN Tryz.prog 98 [.agg (bd p)] (.agg (bd p)):=by
 refine iN.body dM rfl fun hl σ=>?_
 clear hl
 (try((repeat(revert hN;revert N;apply Pn.out));refine wk @bd.eq_1 ?_;(repeat(refine Pn.mk ?_;intro N hN))))
 exact sH (.inl rfl) (vs:=[.agg (bd p)]) (by simp only[go_sem, ↓reduceIte,Nat.reduceEqDiff,Nat.reduceAdd,Nat.reduceSub,Nat.reduceLeDiff,reduceCtorEq,eU,gK,bd]) (by simp[eF,bd,bf,ad,aj,aI,bE])
theorem IF (xs:List Int) (h:xs.length<=1048576):iN Tryz.prog 86 [.sl (xs.map ar)] (.sl (xs.map ar)):=
 Qv (show kK Tryz.prog 86=some (IH 86 (.int .i64 0)) by kernel_rfl) xs h
def qV (t:eI):Prop:=t.bp.length<=1048576
theorem IJ (p:eI) (hs:qV p):iN Tryz.prog 99 [.agg (bj p)] (.agg (bj p)):=by
 refine iN.body dM rfl fun hl σ=>?_
 clear hl
 have h:=IF p.bp hs
 (repeat(first|((repeat(revert hN;revert N;apply Pn.out));refine wk @bj.eq_1 ?_;(repeat(refine Pn.mk ?_;intro N hN)))|((try apply Or.inl);refine⟨_,iN.x (h) _,?_⟩;refine hN _ _ ?_;clear hN N)))
 exact sH (.inl rfl) (vs:=[.agg (bj p)]) (by simp only[go_sem, ↓reduceIte,Nat.reduceEqDiff,Nat.reduceAdd,Nat.reduceSub,Nat.reduceLeDiff,reduceCtorEq,eU,gK,bj]) (by simp[eF,bj,bf,ad,aj,cj,bE])
theorem tA (xs ys:List Int):ae Tryz.prog 22 [.sl (xs.map ar),.sl (ys.map ar)] (.bool (decide (xs=ys))):=
 OZ (show kK Tryz.prog 22=some (K5 22 .tI) by kernel_rfl) xs ys
theorem GR (a b:eI):ae Tryz.prog 110 [.agg (bj a),.agg (bj b)] (.bool (decide (a=b))):=by
 refine ae.body dM rfl fun hl n0=>?_
 clear hl
 have h:=tA a.bp b.bp
 by_cases h1:a.aB=b.aB
 ·have e1:decide (a.aB=b.aB)=true:=decide_eq_true h1
  by_cases h2:a.bp=b.bp
  ·rw[decide_eq_true h2]at h
   (repeat(first|((repeat(revert hN;revert N;apply Pn.out));refine wk (tw @bj.eq_1 @e1) ?_;(repeat(refine Pn.mk ?_;intro N hN)))|((try apply Or.inl);refine⟨_,ae.x (h) (sd (tw @bj.eq_1 @e1)),?_⟩;refine hN _ _ ?_;clear hN N)))
   exact aC (b:=true) (.inl rfl) (sd @Nat.zero_add) (decide_eq_true (by cases a;cases b;simp_all)).symm
  ·rw[decide_eq_false h2]at h
   (repeat(first|((repeat(revert hN;revert N;apply Pn.out));refine wk (tw @bj.eq_1 @e1) ?_;(repeat(refine Pn.mk ?_;intro N hN)))|((try apply Or.inl);refine⟨_,ae.x (h) (sd (tw @bj.eq_1 @e1)),?_⟩;refine hN _ _ ?_;clear hN N)))
   exact aC (b:=false) (.inl rfl) (sd @Nat.zero_add) (decide_eq_false (by rintro rfl;exact h2 rfl)).symm
 ·have e1:decide (a.aB=b.aB)=false:=decide_eq_false h1
  (try((repeat(revert hN;revert N;apply Pn.out));refine wk (tw @bj.eq_1 @e1) ?_;(repeat(refine Pn.mk ?_;intro N hN))))
  exact aC (b:=false) (.inl rfl) (sd @Nat.zero_add) (decide_eq_false (by rintro rfl;exact h1 rfl)).symm
theorem FK (xs:List fc) (h:xs.length<=1048576):iN Tryz.prog 69 [.sl (xs.map bd)] (.sl (xs.map bd)):=
 yn (show kK Tryz.prog 69=some (oW 69 98 2 [.str [],.int .i64 0]) by kernel_rfl) rfl (fun _=>rfl) (fun _=>rfl) KC xs h fun x _=>IE x
theorem FM (xs:List eI) (h:xs.length<=1048576) (hs:∀t∈xs,qV t):iN Tryz.prog 70 [.sl (xs.map bj)] (.sl (xs.map bj)):=
 yn (show kK Tryz.prog 70=some (oW 70 99 2 [.str [],.bK]) by kernel_rfl) rfl (fun _=>rfl) (fun _=>rfl) KD xs h fun x hx=>IJ x (hs x hx)
theorem AA (xs:List ao) (h:xs.length<=1048576):iN Tryz.prog 40 [.sl (xs.map ai)] (.sl (xs.map ai)):=
 yn (show kK Tryz.prog 40=some (oW 40 71 3 [.int .i64 0,.int .i64 0,.int .i64 0]) by kernel_rfl) rfl (fun _=>rfl) (fun _=>rfl) Fq xs h fun x _=>CE x
structure Gl (s:aw):Prop where
 g:s.au.length<=1048576
 t:s.ah.length<=1048576
 s:∀t∈s.ah,qV t
structure pS (y:cl):Prop where
 s:Gl y.aE
 a:y.bZ.ah.length<=1048576
theorem AD (p:aw) (hs:Gl p):iN Tryz.prog 39 [.agg (aa p)] (.agg (aa p)):=by
 refine iN.body dM rfl fun hl σ=>?_
 clear hl
 have h1:=FK p.au hs.g
 have h2:=FM p.ah hs.t hs.s
 (repeat(first|((repeat(revert hN;revert N;apply Pn.out));refine wk @aa.eq_1 ?_;(repeat(refine Pn.mk ?_;intro N hN)))|((try apply Or.inl);refine⟨_,iN.x (h1) _,?_⟩;refine hN _ _ ?_;clear hN N)|((try apply Or.inl);refine⟨_,iN.x (h2) _,?_⟩;refine hN _ _ ?_;clear hN N)))
 exact sH (.inl rfl) (vs:=[.agg (aa p)]) (by simp only[go_sem, ↓reduceIte,Nat.reduceEqDiff,Nat.reduceAdd,Nat.reduceSub,Nat.reduceLeDiff,reduceCtorEq,eU,gK,aa]) (by simp[eF,aa,bf,ad,aj,cj])
theorem qL (p:dj) (hs:p.ah.length<=1048576):iN Tryz.prog 11 [.agg (aD p)] (.agg (aD p)):=by
 refine iN.body dM rfl fun hl σ=>?_
 clear hl
 have h1:=AA p.ah hs
 (repeat(first|((repeat(revert hN;revert N;apply Pn.out));refine wk @aD.eq_1 ?_;(repeat(refine Pn.mk ?_;intro N hN)))|((try apply Or.inl);refine⟨_,iN.x (h1) _,?_⟩;refine hN _ _ ?_;clear hN N)))
 exact sH (.inl rfl) (vs:=[.agg (aD p)]) (by simp only[go_sem, ↓reduceIte,Nat.reduceEqDiff,Nat.reduceAdd,Nat.reduceSub,Nat.reduceLeDiff,reduceCtorEq,eU,gK,aD]) (by simp[eF,aD,bf,ad,aj,cj])
theorem CG (p:cl) (hs:pS p):iN Tryz.prog 10 [.agg (az p)] (.agg (az p)):=by
 refine iN.body dM rfl fun hl σ=>?_
 clear hl
 have h1:=AD p.aE hs.s
 have h2:=qL p.bZ hs.a
 rw[aa]at h1
 rw[aD]at h2
 (repeat(first|((repeat(revert hN;revert N;apply Pn.out));refine wk @az.eq_1 ?_;(repeat(refine Pn.mk ?_;intro N hN)))|((try apply Or.inl);refine⟨_,iN.x (h1) _,?_⟩;refine hN _ _ ?_;clear hN N)|((try apply Or.inl);refine⟨_,iN.x (h2) _,?_⟩;refine hN _ _ ?_;clear hN N)))
 exact sH (.inl rfl) (vs:=[.agg (az p)]) (by simp only[go_sem, ↓reduceIte,Nat.reduceEqDiff,Nat.reduceAdd,Nat.reduceSub,Nat.reduceLeDiff,reduceCtorEq,eU,gK,az]) (by simp[eF,az,bf,ad,aj,cj,aI])
theorem GQ (a b:fc):ae Tryz.prog 109 [.agg (bd a),.agg (bd b)] (.bool (decide (a=b))):=by
 refine ae.body dM rfl fun hl n0=>?_
 clear hl
 by_cases h1:a.aB=b.aB
 ·have e1:decide (a.aB=b.aB)=true:=decide_eq_true h1
  by_cases h2:a.dQ=b.dQ
  ·have e2:decide (a.dQ=b.dQ)=true:=decide_eq_true h2
   (try((repeat(revert hN;revert N;apply Pn.out));refine wk (tw @bd.eq_1 (tw @e1 @e2)) ?_;(repeat(refine Pn.mk ?_;intro N hN))))
   exact aC (b:=true) (.inl rfl) (sd @Nat.zero_add) (decide_eq_true (by cases a;cases b;simp_all)).symm
  ·have e2:decide (a.dQ=b.dQ)=false:=decide_eq_false h2
   (try((repeat(revert hN;revert N;apply Pn.out));refine wk (tw @bd.eq_1 (tw @e1 @e2)) ?_;(repeat(refine Pn.mk ?_;intro N hN))))
   exact aC (b:=false) (.inl rfl) (sd @Nat.zero_add) (decide_eq_false (by rintro rfl;exact h2 rfl)).symm
 ·have e1:decide (a.aB=b.aB)=false:=decide_eq_false h1
  (try((repeat(revert hN;revert N;apply Pn.out));refine wk (tw @bd.eq_1 @e1) ?_;(repeat(refine Pn.mk ?_;intro N hN))))
  exact aC (b:=false) (.inl rfl) (sd @Nat.zero_add) (decide_eq_false (by rintro rfl;exact h1 rfl)).symm
theorem Eu (a b:cr):ae Tryz.prog 111 [.agg (ak a),.agg (ak b)] (.bool (decide (a=b))):=by
 refine ae.body dM rfl fun hl n0=>?_
 clear hl
 by_cases h1:a.gE=b.gE
 ·have e1:decide (a.gE=b.gE)=true:=decide_eq_true h1
  by_cases h2:a.fQ=b.fQ
  ·have e2:decide (a.fQ=b.fQ)=true:=decide_eq_true h2
   (try((repeat(revert hN;revert N;apply Pn.out));refine wk (tw @ak.eq_1 (tw @e1 @e2)) ?_;(repeat(refine Pn.mk ?_;intro N hN))))
   exact aC (b:=true) (.inl rfl) (sd @Nat.zero_add) (decide_eq_true (by cases a;cases b;simp_all)).symm
  ·have e2:decide (a.fQ=b.fQ)=false:=decide_eq_false h2
   (try((repeat(revert hN;revert N;apply Pn.out));refine wk (tw @ak.eq_1 (tw @e1 @e2)) ?_;(repeat(refine Pn.mk ?_;intro N hN))))
   exact aC (b:=false) (.inl rfl) (sd @Nat.zero_add) (decide_eq_false (by rintro rfl;exact h2 rfl)).symm
 ·have e1:decide (a.gE=b.gE)=false:=decide_eq_false h1
  (try((repeat(revert hN;revert N;apply Pn.out));refine wk (tw @ak.eq_1 @e1) ?_;(repeat(refine Pn.mk ?_;intro N hN))))
  exact aC (b:=false) (.inl rfl) (sd @Nat.zero_add) (decide_eq_false (by rintro rfl;exact h1 rfl)).symm
theorem Bg (a b:ao):ae Tryz.prog 78 [.agg (ai a),.agg (ai b)] (.bool (decide (a=b))):=by
 refine ae.body dM rfl fun hl n0=>?_
 clear hl
 have h:=Eu a.cI b.cI
 rw[ak,ak]at h
 by_cases h1:a.cI=b.cI
 ·rw[decide_eq_true h1]at h
  by_cases h2:a.bJ=b.bJ
  ·have e2:decide (a.bJ=b.bJ)=true:=decide_eq_true h2
   (repeat(first|((repeat(revert hN;revert N;apply Pn.out));refine wk (tw @ai.eq_1 @e2) ?_;(repeat(refine Pn.mk ?_;intro N hN)))|((try apply Or.inl);refine⟨_,ae.x (h) (sd (tw @ai.eq_1 @e2)),?_⟩;refine hN _ _ ?_;clear hN N)))
   exact aC (b:=true) (.inl rfl) (sd @Nat.zero_add) (decide_eq_true (by cases a;cases b;simp_all)).symm
  ·have e2:decide (a.bJ=b.bJ)=false:=decide_eq_false h2
   (repeat(first|((repeat(revert hN;revert N;apply Pn.out));refine wk (tw @ai.eq_1 @e2) ?_;(repeat(refine Pn.mk ?_;intro N hN)))|((try apply Or.inl);refine⟨_,ae.x (h) (sd (tw @ai.eq_1 @e2)),?_⟩;refine hN _ _ ?_;clear hN N)))
   exact aC (b:=false) (.inl rfl) (sd @Nat.zero_add) (decide_eq_false (by rintro rfl;exact h2 rfl)).symm
 ·rw[decide_eq_false h1]at h
  (repeat(first|((repeat(revert hN;revert N;apply Pn.out));refine wk @ai.eq_1 ?_;(repeat(refine Pn.mk ?_;intro N hN)))|((try apply Or.inl);refine⟨_,ae.x (h) (sd @ai.eq_1),?_⟩;refine hN _ _ ?_;clear hN N)))
  exact aC (b:=false) (.inl rfl) (sd @Nat.zero_add) (decide_eq_false (by rintro rfl;exact h1 rfl)).symm
theorem Et (xs ys:List fc):ae Tryz.prog 76 [.sl (xs.map bd),.sl (ys.map bd)] (.bool (decide (xs=ys))):=
 xl (show kK Tryz.prog 76=some (zk 76 109 2) by kernel_rfl) (fun _=>rfl) zA xs ys GQ
theorem Ev (xs ys:List eI):ae Tryz.prog 77 [.sl (xs.map bj),.sl (ys.map bj)] (.bool (decide (xs=ys))):=
 xl (show kK Tryz.prog 77=some (zk 77 110 2) by kernel_rfl) (fun _=>rfl) zB xs ys GR
theorem rX (xs ys:List ao):ae Tryz.prog 46 [.sl (xs.map ai),.sl (ys.map ai)] (.bool (decide (xs=ys))):=
 xl (show kK Tryz.prog 46=some (zk 46 78 3) by kernel_rfl) (fun _=>rfl) Bv xs ys Bg
theorem Bh (a:cl):ae Tryz.prog 14 [.agg (az a),.agg (az a)] (.bool true):=by
 have q1:ae Tryz.prog 45 [.agg (aa a.aE),.agg (aa a.aE)] (.bool true):=by
  refine ae.body dM rfl fun hl n0=>?_
  clear hl
  have h1:=Et a.aE.au a.aE.au
  have h2:=Ev a.aE.ah a.aE.ah
  rw[decide_eq_true rfl]at h1 h2
  (repeat(first|((repeat(revert hN;revert N;apply Pn.out));refine wk @aa.eq_1 ?_;(repeat(refine Pn.mk ?_;intro N hN)))|((try apply Or.inl);refine⟨_,ae.x (h1) (sd @aa.eq_1),?_⟩;refine hN _ _ ?_;clear hN N)|((try apply Or.inl);refine⟨_,ae.x (h2) (sd @aa.eq_1),?_⟩;refine hN _ _ ?_;clear hN N)))
  exact aC (b:=true) (.inl rfl) (sd @Nat.zero_add) rfl
 have q2:ae Tryz.prog 15 [.agg (aD a.bZ),.agg (aD a.bZ)] (.bool true):=by
  refine ae.body dM rfl fun hl n0=>?_
  clear hl
  have h1:=rX a.bZ.ah a.bZ.ah
  rw[decide_eq_true rfl]at h1
  (repeat(first|((repeat(revert hN;revert N;apply Pn.out));refine wk @aD.eq_1 ?_;(repeat(refine Pn.mk ?_;intro N hN)))|((try apply Or.inl);refine⟨_,ae.x (h1) (sd @aD.eq_1),?_⟩;refine hN _ _ ?_;clear hN N)))
  exact aC (b:=true) (.inl rfl) (sd @Nat.zero_add) rfl
 rw[aa]at q1
 rw[aD]at q2
 refine ae.body dM rfl fun hl n0=>?_
 clear hl
 have e:decide (a.aH=a.aH)=true:=decide_eq_true rfl
 (repeat(first|((repeat(revert hN;revert N;apply Pn.out));refine wk (tw @az.eq_1 @e) ?_;(repeat(refine Pn.mk ?_;intro N hN)))|((try apply Or.inl);refine⟨_,ae.x (q1) (sd (tw @az.eq_1 @e)),?_⟩;refine hN _ _ ?_;clear hN N)|((try apply Or.inl);refine⟨_,ae.x (q2) (sd (tw @az.eq_1 @e)),?_⟩;refine hN _ _ ?_;clear hN N)))
 exact aC (b:=true) (.inl rfl) (sd @Nat.zero_add) rfl
end Go.Proofs.YtihgaadadaekmaaGreatDoor.V

namespace Go.Proofs.YtihgaadadaekmaaGreatDoor.V
open Go.RowKit
def isApp:fR->Bool
 | .append .. =>true
 |_=>false
variable {P:Program} {X:fv} {K:Env->ax->Prop} {env:Env} {σ:ax}
theorem LD {draw:Bool} {o:bl} {r:List bl} (_:isApp o.op=false) (h:∀N:AV->ax->Prop,(∀v s,wpOps X draw r K (upd env o.dst v) s->N v s)->if aM o.guard env then fP X draw o env σ N else N .undef σ):wpOps X draw (o::r) K env σ:=NL h
end Go.Proofs.YtihgaadadaekmaaGreatDoor.V

namespace Go.Proofs.YtihgaadadaekmaaGreatDoor.V
open Go.RowKit
section
variable {α:Type} {enc:α->List AV} {sz:Nat} {g g':Rows} {a:AV} {xs:List α} {ids:List Id}
end
abbrev uQ (α:Type):=Rows->List AV->α->List Id->Prop
structure pM {α:Type} (R:uQ α) (sz:Nat):Prop where
 frame:∀{g g':Rows} {cs x ids},R g cs x ids->(∀i∈ids,g' i=g i)->R g' cs x ids
 len:∀{g cs x ids},R g cs x ids->cs.length=sz
 cell:∀{g cs x ids},R g cs x ids->cs.all AV.cell=true
 live:∀{g cs x ids},R g cs x ids->∀i∈ids,∃r,g i=some r/\r.w=true/\r.sz<nL
 small:sz<nL
inductive dw {α:Type} (R:uQ α) (g:Rows):List (List AV)->List α->List Id->Prop
 |nil:dw R g [] [] []
 |cons {cs x i1 rs xs i2}:R g cs x i1->dw R g rs xs i2->dw R g (cs::rs) (x::xs) (i1++i2)
section
variable {α:Type} {R:uQ α} {sz:Nat} {g g':Rows} {rows r1 r2:List (List AV)} {xs x1 x2:List α} {ids i1 i2:List Id}
theorem dw.len (h:dw R g rows xs ids):rows.length=xs.length:=by
 induction h with
 |nil=>rfl
 |cons _ _ ih=>simp[ih]
theorem dw.frame (ok:pM R sz) (h:dw R g rows xs ids) (hf:∀i∈ids,g' i=g i):dw R g' rows xs ids:=by
 induction h with
 |nil=>exact .nil
 |cons h1 _ ih=>exact .cons (ok.frame h1 fun i hi=>hf i (List.mem_append_left _ hi)) (ih fun i hi=>hf i (List.mem_append_right _ hi))
theorem dw.app (h1:dw R g r1 x1 i1) (h2:dw R g r2 x2 i2):dw R g (r1++r2) (x1++x2) (i1++i2):=by
 induction h1 with
 |nil=>exact h2
 |cons h _ ih=>rw[List.append_assoc];exact .cons h ih
theorem dw.one {cs:List AV} {x:α} (h:R g cs x ids):dw R g [cs] [x] ids:=by
 have:=dw.cons h dw.nil
 rwa [List.append_nil]at this
theorem dw.split (h:dw R g rows xs ids):∀k (hk:k<xs.length),∃r1 cs r2 i1 ic i2,rows=r1++cs::r2/\r1.length=k/\ids=i1++(ic++i2)/\dw R g r1 (xs.take k) i1/\R g cs xs[k] ic/\dw R g r2 (xs.drop (k+1)) i2:=by
 induction h with
 |nil=>intro k hk;simp at hk
 |cons h1 h2 ih=>
  rename_i cs x j1 rs xs j2
  intro k hk
  cases k with
  |zero=>exact⟨[],cs,rs,[],j1,j2,rfl,rfl,rfl,.nil,h1,h2⟩
  |succ k=>
   obtain⟨r1,oe,r2,i1,ic,i2,rfl,hl,rfl,h3,h4,h5⟩:=ih k (by simpa using hk)
   exact⟨cs::r1,oe,r2,j1++i1,ic,i2,rfl,by simp[hl],by rw[List.append_assoc],.cons h1 h3,h4,h5⟩
theorem dw.at_ (h:dw R g rows xs ids) (k:Nat) (hk:k<xs.length):∃cs ic,rows[k]? =some cs/\R g cs xs[k] ic/\∀i∈ic,i∈ids:=by
 obtain⟨r1,cs,r2,i1,ic,i2,rfl,hl,rfl,h3,h4,h5⟩:=h.split k hk
 refine⟨cs,ic,by rw[List.getElem?_append_right ab];simp[hl],h4,fun i hi=>by simp[hi]⟩
theorem dw.put (ok:pM R sz) (h:dw R g rows xs ids) (kN:ids.Nodup) (k:Nat) (hk:k<xs.length):∃cs ic,rows[k]? =some cs/\R g cs xs[k] ic/\ic.Nodup/\(∀i∈ic,i∈ids)/\∀(g':Rows) x',R g' cs x' ic->(∀i∈ids,i∉ic->g' i=g i)->dw R g' rows (xs.set k x') ids:=by
 obtain⟨r1,cs,r2,i1,ic,i2,rfl,rfl,rfl,h3,h4,h5⟩:=h.split k hk
 obtain⟨_,n2,n3⟩:=List.nodup_append.1 kN
 obtain⟨nc,_,n4⟩:=List.nodup_append.1 n2
 refine⟨cs,ic,by simp,h4,nc,fun i hi=>by simp[hi],fun g' x' hR hf=>?_⟩
 have e:xs.set r1.length x'=xs.take r1.length++x'::xs.drop (r1.length+1):=by
  rw[List.set_eq_take_append_cons_drop,if_pos hk]
 rw[e]
 refine(h3.frame ok fun i hi=>hf i (by simp[hi]) fun hc=>n3 i hi i (by simp[hc]) rfl).app (.cons hR (h5.frame ok fun i hi=>hf i (by simp[hi]) fun hc=>n4 i hc i hi rfl))
theorem dw.fz {n:Nat} {e:α->List AV} (h:dw R g rows xs ids) (hz:∀{cs x ids},R g cs x ids->cm (dE g) n cs=some (e x)):dz (dE g) n rows=some (xs.map e):=by
 induction h with
 |nil=>rw[dz];rfl
 |cons h1 _ ih=>rw[dz,hz h1,ih];rfl
end
section
variable {α:Type} {R:uQ α} {sz:Nat} {g g':Rows} {a:AV} {xs:List α} {ids:List Id}
end
end Go.Proofs.YtihgaadadaekmaaGreatDoor.V
