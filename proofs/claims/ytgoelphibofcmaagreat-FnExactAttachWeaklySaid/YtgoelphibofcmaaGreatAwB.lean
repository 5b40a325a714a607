/- One operation, calls among them. -/
import Derived.Test.YtgoelphibofcmaaGreatAwA
import Derived.Orders
import Derived.Conc.LoneCalls
import Derived.WalkKit
import Derived.WalkSpells
import Derived.WalkLawsBesides
import Derived.Lib.Hide
import Derived.Deep.QuietTactic
import Derived.BigQuiet
import Derived.StillTailTactics
import Derived.Deep.RegionWith
import Derived.Deep.RegionHeld3
import Derived.Deep.LoopGhost
import Derived.Deep.CutRange
import Derived.Deep.DeepCutAuto
import Derived.Test.YtgoelphibofcmaaGreatChecked
set_option linter.unusedVariables false
set_option linter.unusedSimpArgs false
set_option maxRecDepth 100000
set_option maxHeartbeats 16000000
namespace Go.Proofs.YtgoelphibofcmaaGreat.V
open Go.RowKit
variable {P:Program} {w w':World} {D D' D2:Nat->Prop} {ι ι' ι2:Names}
def Sound (P:Program):fJ:=fun f args σ K=>∀(hs:Nat) (D:Nat->Prop) (ι:Names) (w:World) (vs:Array Value),gi P hs D ι σ.get w->Used ι σ.next (fun _=>False)->eW P w D ι args vs->
 Calls P f vs w fun e w'=>∃r g' n' D' ι' u,e=.returned u/\K r ⟨g',n'⟩/\Step hs D ι w D' ι' w'/\gi P hs D' ι' g' w'/\Used ι' n' (fun _=>False)/\σ.next<=n'/\dj P w' D' ι' r u
section
variable {g:Rows} {hs:Nat} {env:Env} {a:Act} {o:Oper} {id:Id} {v:AV}
theorem gi.ro (S:gi P hs D ι g w):gi P w.heap.size D ι (ro g) w:=by
 refine⟨Nat.le_refl _,S.dead,fun id r h=>?_,fun id kF r r' B B' h h' hw=>?_⟩
 ·unfold V.ro at h
  simp only[Option.map_eq_some_iff]at h
  obtain⟨r0,h0,rfl⟩:=h
  obtain⟨B,hB,R,_,_⟩:=S.row id r0 h0
  exact⟨B,hB,R.flag false,fun h=>by simp at h,fun h=>by simp at h⟩
 ·unfold V.ro at h
  simp only[Option.map_eq_some_iff]at h
  obtain⟨r0,h0,rfl⟩:=h
  simp at hw
theorem Av {g0:Rows} {f:Nat} {args:List AV} {n:Nat} {K:AV->Prop} {vs:Array Value} (h:PC (Sound P) f args ⟨g0,n⟩ K) (qv:∀id r,g0 id=some r->g id=some r) (S:gi P hs D ι g w) (U:Used ι n (fun _=>False)) (A:eW P w D ι args vs):
  Calls P f vs w fun e w'=>∃r D' u,e=.returned u/\K r/\Step hs D ι w D' ι w'/\gi P hs D' ι g w'/\dj P w' D' ι r u:=by
 refine(h w.heap.size D ι w vs (S.sub qv).ro U A).mono ?_
 rintro e w' ⟨r0,g',n',D1,ι1,u,rfl,⟨r,hr,hK⟩,T,S1,_,_,hR⟩
 have hb:∀b,b<w.heap.size->w'.heap[b]? =w.heap[b]? :=T.below.block
 have hz:=T.below.size
 have q:=rf (D2:=fun b=>D b∨(w.heap.size<=b/\b<w'.heap.size)) (ι2:=ι) (fun b hd=>by
  rcases T.new b hd with h|h
  ·exact .inl h
  ·exact .inr ⟨h,S1.dead b hd⟩) (fun id row hg hw=>by
  obtain⟨B,hB,R,h1,_⟩:=S1.row id row hg
  exact⟨B,hB,R,.inr ⟨h1 hw,R.lt⟩⟩) 6 r0 u r hR hr
 refine⟨r,_,u,rfl,hK,?_,?_,q.1⟩
 ·exact Step.stay S hb hz T.below.os T.below.tape T.below.output (fun _ h=>.inl h) (fun b h=>by rcases h with h|h;exact .inl h;exact .inr h.1) (fun _ _ h=>h)
 ·exact S.stay hb hz (fun _ h=>.inl h) (fun b h=>by rcases h with h|h;exact Nat.lt_of_lt_of_le (S.dead b h) hz;exact h.2) (fun b h=>by rcases h with h|h;exact .inl h;exact .inr h.1) (fun _ _ h=>h)
theorem xL {g0:Rows} {f:Nat} {args:List AV} {n:Nat} {K:AV->Prop} {vs:Array Value} (h:PCv (Sound P) f args ⟨g0,n⟩ K) (qv:∀id r,g0 id=some r->g id=some r) (S:gi P hs D ι g w) (U:Used ι n (fun _=>False)) (A:eW P w D ι args vs):
  Calls P f vs w fun e w'=>∃r D' u,e=.returned u/\K r/\Step hs D ι w D' ι w'/\gi P hs D' ι g w'/\dj P w' D' ι r u:=by
 obtain⟨eF,ha,h⟩:=h
 let D1:Nat->Prop:=fun b=>D b∨∃id r B,g id=some r/\ι id=some B/\b=B.b
 have lt:∀id r B,g id=some r->ι id=some B->B.b<w.heap.size:=fun id r B h1 h2=>by
  obtain⟨B',dJ,R,_⟩:=S.row id r h1
  rw[h2]at dJ;injection dJ with dJ;subst dJ
  exact R.lt
 have S0:gi P w.heap.size D1 ι (fun _=>none) w:=⟨Nat.le_refl _,fun b hb=>by
  rcases hb with hb|⟨id,r,B,h1,h2,rfl⟩
  ·exact S.dead b hb
  ·exact lt id r B h1 h2,fun id r h=>(by cases h),fun id kF r r' B B' h=>(by cases h)⟩
 obtain⟨l1,l2⟩:=gq ha
 have A':eW P w D1 ι eF vs:=⟨by rw[A.1,l1],fun j a hj=>by
  obtain⟨a0,kZ,hf⟩:=l2 j a hj
  obtain⟨u,hu,hr⟩:=A.2 j a0 kZ
  refine⟨u,hu,(rf (D2:=D1) (ι2:=ι) (fun b h=>.inl h) (fun id row hg hw=>?_) 6 a0 u a hr hf).1⟩
  unfold dK at hg
  simp only[Option.map_eq_some_iff]at hg
  obtain⟨r,nS,rfl⟩:=hg
  obtain⟨B,hB,R,_,_⟩:=S.row id r (qv id r nS)
  exact⟨B,hB,R.flag true,.inr ⟨id,r,B,qv id r nS,hB,rfl⟩⟩⟩
 refine(h w.heap.size D1 ι w vs S0 U A').mono ?_
 rintro e w' ⟨r0,g',n',D2,ι1,u,rfl,⟨r,hr,hK⟩,T,S1,_,_,hR⟩
 have hb:∀b,b<w.heap.size->w'.heap[b]? =w.heap[b]? :=T.below.block
 have hz:=T.below.size
 have q:=FJ (D2:=fun b=>D b∨(w.heap.size<=b/\b<w'.heap.size)) (ι2:=ι) (fun id row hg hw=>by
  obtain⟨B,hB,R,h1,_⟩:=S1.row id row hg
  exact⟨B,hB,R,.inr ⟨h1 hw,R.lt⟩⟩) 6 r0 u r hR hr
 refine⟨r,_,u,rfl,hK,?_,?_,q.1⟩
 ·exact Step.stay S hb hz T.below.os T.below.tape T.below.output (fun _ h=>.inl h) (fun b h=>by rcases h with h|h;exact .inl h;exact .inr h.1) (fun _ _ h=>h)
 ·exact S.stay hb hz (fun _ h=>.inl h) (fun b h=>by rcases h with h|h;exact Nat.lt_of_lt_of_le (S.dead b h) hz;exact h.2) (fun b h=>by rcases h with h|h;exact .inl h;exact .inr h.1) (fun _ _ h=>h)
theorem Fl {g0:Rows} {f:Nat} {args:List AV} {n:Nat} {K:AV->Prop} {vs:Array Value} (h:fI (Sound P) f args ⟨g0,n⟩ K) (qv:∀id r,g0 id=some r->g id=some r) (S:gi P hs D ι g w) (U:Used ι n (fun _=>False)) (A:eW P w D ι args vs):
  Calls P f vs w fun e w'=>∃r D' u,e=.returned u/\K r/\Step hs D ι w D' ι w'/\gi P hs D' ι g w'/\dj P w' D' ι r u:=by
 rcases h with h|h
 ·exact Av h qv S U A
 ·exact xL h qv S U A
theorem Gv {D1 D2:Nat->Prop} {ι1 ι2:Names} {w1:World} {a:AV} {v:Value} (hp:a.plain=true) (h:dj P w D1 ι1 a v):dj P w1 D2 ι2 a v:=by
 cases h with
 |eU a v h=>cases h<;>first|(simp[AV.plain]at hp;done)|exact .eU _ _ (by constructor)
 |_=>simp[AV.plain]at hp
theorem gi.add {r:Row} {B:r8} (S:gi P hs D ι g w) (S':gi P hs D ι g w') (hf:ι id=none) (kh:w.heap.size<=B.b) (R:ia P w' D (kc ι id B) B r):gi P hs D (kc ι id B) (bK g id r) w':=by
 have lt:∀kF r' B',g kF=some r'->ι kF=some B'->B'.b<w.heap.size:=fun kF r' B' h1 h2=>by
  obtain⟨B2,pJ,R2,_⟩:=S.row kF r' h1
  rw[h2]at pJ;injection pJ with pJ;subst pJ
  exact R2.lt
 have ne:∀kF r',g kF=some r'->kF≠id:=fun kF r' h he=>by
  subst he
  obtain⟨B2,pJ,_⟩:=S.row _ r' h
  rw[hf]at pJ;cases pJ
 refine⟨S'.lo,S'.dead,fun kF r' h=>?_,fun QA id2 r1 r2 B1 B2 h1 h2 hw Ak pJ hb=>?_⟩
 ·unfold bK at h
  split at h
  ·rename_i he
   subst he
   injection h with h;subst h
   exact⟨B,ez _ _ _,R,fun _=>Nat.le_trans S.lo kh,fun _ hd=>Nat.lt_irrefl _ (Nat.lt_of_lt_of_le (S.dead _ hd) kh)⟩
  ·obtain⟨B',dJ,R',k1,k2⟩:=S'.row kF r' h
   exact⟨B',by rw[gh (ne _ _ h)];exact dJ,R'.frame rfl (fun a v hr=>hr.frame (fun _ _=>rfl) (fun _ h=>h) (fx hf)),k1,k2⟩
 ·unfold bK at h1 h2
  split at h1
  ·rename_i e1
   split at h2
   ·rename_i e2;rw[e1,e2]
   ·exfalso
    subst e1
    rw[ez]at Ak;injection Ak with Ak;subst Ak
    rw[gh (ne _ _ h2)]at pJ
    have:=lt _ _ _ h2 pJ
    omega
  ·rw[gh (ne _ _ h1)]at Ak
   split at h2
   ·rename_i e2
    exfalso
    subst e2
    rw[ez]at pJ;injection pJ with pJ;subst pJ
    have:=lt _ _ _ h1 Ak
    omega
   ·rw[gh (ne _ _ h2)]at pJ
    exact S'.inj QA id2 r1 r2 B1 B2 h1 h2 hw Ak pJ hb
theorem Hb {g0:Rows} {f:Nat} {args:List AV} {n sz:Nat} {rows:List (List AV)} {vs:Array Value} (h:CM (Sound P) f args ⟨g0,n⟩ sz rows) (qv:∀id r,g0 id=some r->g id=some r) (S:gi P hs D ι g w) (U:Used ι n (fun _=>False)) (A:eW P w D ι args vs) (hf:ι id=none):
  Calls P f vs w fun e w'=>∃u B,e=.returned u/\Step hs D ι w D (kc ι id B) w'/\gi P hs D (kc ι id B) (bK g id ⟨true,sz,rows⟩) w'/\dj P w' D (kc ι id B) (.own id 0 rows.length) u:=by
 obtain⟨mo,eF,ha,h⟩:=h
 let D1:Nat->Prop:=fun b=>D b∨∃id r B,g id=some r/\ι id=some B/\b=B.b
 have lt:∀id r B,g id=some r->ι id=some B->B.b<w.heap.size:=fun id r B h1 h2=>by
  obtain⟨B',dJ,R,_⟩:=S.row id r h1
  rw[h2]at dJ;injection dJ with dJ;subst dJ
  exact R.lt
 have S0:gi P w.heap.size D1 ι (fun _=>none) w:=⟨Nat.le_refl _,fun b hb=>by
  rcases hb with hb|⟨id,r,B,h1,h2,rfl⟩
  ·exact S.dead b hb
  ·exact lt id r B h1 h2,fun id r h=>(by cases h),fun id kF r r' B B' h=>(by cases h)⟩
 obtain⟨l1,l2⟩:=gq ha
 have A':eW P w D1 ι eF vs:=⟨by rw[A.1,l1],fun j a hj=>by
  obtain⟨a0,kZ,hz⟩:=l2 j a hj
  obtain⟨u,hu,hr⟩:=A.2 j a0 kZ
  refine⟨u,hu,(rf (D2:=D1) (ι2:=ι) (fun b h=>.inl h) (fun id row hg hw=>?_) 6 a0 u a hr hz).1⟩
  unfold dK at hg
  simp only[Option.map_eq_some_iff]at hg
  obtain⟨r,nS,rfl⟩:=hg
  obtain⟨B,hB,R,_,_⟩:=S.row id r (qv id r nS)
  exact⟨B,hB,R.flag true,.inr ⟨id,r,B,qv id r nS,hB,rfl⟩⟩⟩
 refine(h w.heap.size D1 ι w vs S0 U A').mono ?_
 rintro e w' ⟨r0,g',n',D2,ι1,u,rfl,⟨i0,hr,hg⟩,T,S1,_,_,hR⟩
 subst hr
 have hb:∀b,b<w.heap.size->w'.heap[b]? =w.heap[b]? :=T.below.block
 have hz:=T.below.size
 obtain⟨B,hB,R,k1,_⟩:=S1.row i0 _ hg
 have kh:w.heap.size<=B.b:=k1 rfl
 obtain⟨o,cap,B',rfl,dJ,q2,q3,q4,q5,hk⟩:=iu hR
 rw[hB]at dJ;injection dJ with dJ;subst dJ
 replace R:=R.row hk
 have S':gi P hs D ι g w':=S.stay hb hz (fun _ h=>h) (fun b h=>Nat.lt_of_lt_of_le (S.dead b h) hz) (fun b h=>.inl h) (fun _ _ h=>h)
 have R':kr P w' D (kc ι id B) B ⟨true,sz,rows⟩:=⟨R.sz,R.Cm,R.fits,R.len,R.flat,fun i j cs a hi hj=>by
  obtain⟨v,h1,h2⟩:=R.at_ i j cs a hi hj
  exact⟨v,h1,Gv (mo cs (List.mem_of_getElem? hi) a (List.mem_of_getElem? hj)) h2⟩⟩
 exact⟨_,B,rfl,Step.stay S hb hz T.below.os T.below.tape T.below.output (fun _ h=>h) (fun _ h=>.inl h) (fx hf),S.add S' hf kh (R'.obj hk),.own id 0 _ _ _ B (ez _ _ _) hk q2 q3 q4 q5⟩
theorem jt {f:Nat} {args:Array Value} (hc:fM P f=true):(callFunc f args).run P w=.ok (.enter f args) w:=by
 unfold fM at hc
 split at hc
 ·rename_i fn hf
  simp only[Bool.and_eq_true,Bool.not_eq_true']at hc
  have hb:fn.body.isNone=false:=by cases hq:fn.body<;>simp_all
  simp only[callFunc,Sem.run_bind,run_program,Result.andThen_ok,hf,hc.2,Bool.false_eq_true,if_false,hb]
  rfl
 ·simp at hc
theorem Bu {f:Nat} {args:List O} (hc:qK P o.op=some (.call f args)):∃c,o.op=.call c/\c.callee=.value (.func f)/\fM P f=true/\c.args.toList.mapM (cO P)=some args:=by
 unfold qK at hc
 split at hc
 case h_23=>
  rename_i c ho
  refine⟨c,ho,?_⟩
  unfold nw at hc
  split at hc
  all_goals (try(repeat' (split at hc))<;>(simp only[Option.bind_eq_bind,Option.bind_eq_some_iff,Option.pure_def,Option.some.injEq,Option.map_eq_some_iff,reduceCtorEq,and_false,exists_false]at hc))
  all_goals simp_all
 all_goals (try unfold uT at hc)<;>(try unfold sr at hc)<;>(repeat' (split at hc))<;>(simp only[Option.bind_eq_bind,Option.bind_eq_some_iff,Option.pure_def,Option.some.injEq,Option.map_eq_some_iff,reduceCtorEq,and_false,exists_false]at hc)
theorem sO {x:O} {args:List O} (hc:qK P o.op=some (.tj x args)):∃c t,o.op=.call c/\c.callee=.value (.tmp t)/\x=.t t/\c.args.toList.mapM (cO P)=some args:=by
 unfold qK at hc
 split at hc
 case h_23=>
  rename_i c ho
  refine⟨c,?_⟩
  unfold nw at hc
  split at hc
  all_goals (try(repeat' (split at hc))<;>(simp only[Option.bind_eq_bind,Option.bind_eq_some_iff,Option.pure_def,Option.some.injEq,Option.map_eq_some_iff,reduceCtorEq,and_false,exists_false]at hc))
  all_goals simp_all
 all_goals (try unfold uT at hc)<;>(try unfold sr at hc)<;>(repeat' (split at hc))<;>(simp only[Option.bind_eq_bind,Option.bind_eq_some_iff,Option.pure_def,Option.some.injEq,Option.map_eq_some_iff,reduceCtorEq,and_false,exists_false]at hc)
theorem F3 {n:Nat} {x y:O} (hc:qK P o.op=some (.store n x y)):∃t x' y',o.op=.store t x' y'/\ep P t=some n/\cO P x'=some x/\cO P y'=some y:=by
 unfold qK at hc
 split at hc
 case h_7=>
  rename_i t x' y' ho
  refine⟨t,x',y',ho,?_⟩
  simp only[Option.bind_eq_bind,Option.bind_eq_some_iff,Option.pure_def,Option.some.injEq]at hc
  obtain⟨n',h1,x2,h2,y2,h3,he⟩:=hc
  injection he with e1 e2 e3
  subst e1;subst e2;subst e3
  exact⟨h1,h2,h3⟩
 all_goals (try unfold uT at hc)<;>(try unfold sr at hc)<;>(try unfold nw at hc)<;>(repeat' (split at hc))<;>(simp only[Option.bind_eq_bind,Option.bind_eq_some_iff,Option.pure_def,Option.some.injEq,Option.map_eq_some_iff,reduceCtorEq,and_false,exists_false]at hc)
theorem Dn {n:Nat} {x y:O} (hc:qK P o.op=some (.append n x y)):∃(t e:TypeId) (m:Nat) (z:List K) (i:TypeInfo) (x' y':Operand),n=m+1/\o.op=.call {callee:=.builtin .append,args:= #[x',y'],argTypes:= #[t,t]}/\
  P.underlying t=some (.slice e)/\ep P e=some (m+1)/\jE P e=some z/\P.info? e=some i/\i.bytes<=32768/\cO P x'=some x/\cO P y'=some y:=by
 unfold qK at hc
 split at hc
 case h_23=>
  rename_i c ho
  unfold nw at hc
  split at hc
  case h_2=>
   rename_i kf
   split at hc
   ·rename_i x' y' t u h1 h2
    split at hc
    ·rename_i e ht
     split at hc
     ·rename_i m z i e1 e2 e3
      split at hc
      ·rename_i hb
       simp only[Option.bind_eq_bind,Option.bind_eq_some_iff,Option.pure_def,Option.some.injEq]at hc
       obtain⟨x2,h3,y2,h4,he⟩:=hc
       injection he with k1 k2 k3
       subst k1;subst k2;subst k3
       obtain⟨G1,rfl⟩:=hb
       refine⟨t,e,m,z,i,x',y',rfl,?_,ht,e1,e2,e3,G1,h3,h4⟩
       rw[ho]
       obtain⟨ca,cb,cc⟩:=c
       simp only at h1 h2 kf
       subst kf
       congr
       ·exact Array.ext' h1
       ·exact Array.ext' h2
      ·simp at hc
     ·simp at hc
    ·simp at hc
   ·simp at hc
  all_goals (repeat' (split at hc))<;>(simp only[Option.bind_eq_bind,Option.bind_eq_some_iff,Option.pure_def,Option.some.injEq,Option.map_eq_some_iff,reduceCtorEq,and_false,exists_false]at hc)
 all_goals (try unfold uT at hc)<;>(try unfold sr at hc)<;>(repeat' (split at hc))<;>(simp only[Option.bind_eq_bind,Option.bind_eq_some_iff,Option.pure_def,Option.some.injEq,Option.map_eq_some_iff,reduceCtorEq,and_false,exists_false]at hc)
theorem IA {n:Nat} {x y:O} (hc:qK P o.op=some (.copy n x y)):∃(t t2 e:TypeId) (m:Nat) (x' y':Operand),n=m+1/\o.op=.call {callee:=.builtin .copy,args:= #[x',y'],argTypes:= #[t,t2]}/\
  P.underlying t=some (.slice e)/\ep P e=some (m+1)/\cO P x'=some x/\cO P y'=some y:=by
 unfold qK at hc
 split at hc
 case h_23=>
  rename_i c ho
  unfold nw at hc
  split at hc
  case h_7=>
   rename_i kf
   split at hc
   ·rename_i x' y' t t2 h1 h2
    split at hc
    ·rename_i e ht
     split at hc
     ·rename_i m e1
      simp only[Option.bind_eq_bind,Option.bind_eq_some_iff,Option.pure_def,Option.some.injEq,gp.copy.injEq]at hc
      obtain⟨x2,h3,y2,h4,k0,k1,k2⟩:=hc
      subst k1;subst k2
      refine⟨t,t2,e,m,x',y',k0.symm,?_,ht,e1,h3,h4⟩
      rw[ho]
      obtain⟨ca,cb,cc⟩:=c
      simp only at h1 h2 kf
      subst kf
      congr
      ·exact Array.ext' h1
      ·exact Array.ext' h2
     ·simp at hc
    ·simp at hc
   ·simp at hc
  all_goals (repeat' (split at hc))<;>(simp only[Option.bind_eq_bind,Option.bind_eq_some_iff,Option.pure_def,Option.some.injEq,Option.map_eq_some_iff,reduceCtorEq,and_false,exists_false]at hc)
 all_goals (try unfold uT at hc)<;>(try unfold sr at hc)<;>(repeat' (split at hc))<;>(simp only[Option.bind_eq_bind,Option.bind_eq_some_iff,Option.pure_def,Option.some.injEq,Option.map_eq_some_iff,reduceCtorEq,and_false,exists_false]at hc)
theorem F2 {z:List K} {x:O} (hc:qK P o.op=some (.clear z x)):∃(t e:TypeId) (m:Nat) (x':Operand),o.op=.call {callee:=.builtin .clear,args:= #[x'],argTypes:= #[t]}/\
  P.underlying t=some (.slice e)/\ep P e=some (m+1)/\jE P e=some z/\cO P x'=some x:=by
 unfold qK at hc
 split at hc
 case h_23=>
  rename_i c ho
  unfold nw at hc
  split at hc
  case h_3=>
   rename_i kf
   split at hc
   ·rename_i x' t h1 h2
    split at hc
    ·rename_i e ht
     split at hc
     ·rename_i m z' e1 e2
      simp only[Option.map_eq_some_iff]at hc
      obtain⟨x2,h3,he⟩:=hc
      injection he with k1 k2
      subst k1;subst k2
      refine⟨t,e,m,x',?_,ht,e1,e2,h3⟩
      rw[ho]
      obtain⟨ca,cb,cc⟩:=c
      simp only at h1 h2 kf
      subst kf
      congr
      ·exact Array.ext' h1
      ·exact Array.ext' h2
     ·simp at hc
    ·simp at hc
   ·simp at hc
  all_goals (repeat' (split at hc))<;>(simp only[Option.bind_eq_bind,Option.bind_eq_some_iff,Option.pure_def,Option.some.injEq,Option.map_eq_some_iff,reduceCtorEq,and_false,exists_false]at hc)
 all_goals (try unfold uT at hc)<;>(try unfold sr at hc)<;>(repeat' (split at hc))<;>(simp only[Option.bind_eq_bind,Option.bind_eq_some_iff,Option.pure_def,Option.some.injEq,Option.map_eq_some_iff,reduceCtorEq,and_false,exists_false]at hc)
theorem NU {q:MW} {xs:List O} (hc:qK P o.op=some (.mw q xs)):
  (∃t x k y m z x' k' y',(o.op=.mapUpdate t x k y∨o.op=.insert t x k y)/\su P t=some (m,z)/\cO P x=some x'/\cO P k=some k'/\cO P y=some y'/\q=.set m/\xs=[x',k',y'])∨
  (∃t t' x k m z x' k',o.op=.call {callee:=.builtin .delete,args:= #[x,k],argTypes:= #[t,t']}/\su P t=some (m,z)/\cO P x=some x'/\cO P k=some k'/\q=.del m/\xs=[x',k']):=by
 unfold qK at hc
 split at hc
 case h_23=>
  rename_i c ho
  right
  unfold nw at hc
  split at hc
  case h_6=>
   rename_i kf
   split at hc
   ·rename_i x k t t' h1 h2
    split at hc
    ·rename_i m z x' k' e1 e2 e3
     injection hc with hc
     injection hc with q1 q2
     refine⟨t,t',x,k,m,z,x',k',?_,e1,e2,e3,q1.symm,q2.symm⟩
     rw[ho]
     obtain⟨ca,cb,cc⟩:=c
     simp only at h1 h2 kf
     subst kf
     congr
     ·exact Array.ext' h1
     ·exact Array.ext' h2
    ·cases hc
   ·cases hc
  all_goals (repeat' (split at hc))<;>(simp only[Option.bind_eq_bind,Option.bind_eq_some_iff,Option.pure_def,Option.some.injEq,Option.map_eq_some_iff,reduceCtorEq,and_false,exists_false]at hc)
 case h_29=>
  rename_i t x k y ho
  left
  split at hc
  ·rename_i m z x' k' y' e1 e2 e3 e4
   injection hc with hc
   injection hc with q1 q2
   exact⟨t,x,k,y,m,z,x',k',y',.inl ho,e1,e2,e3,e4,q1.symm,q2.symm⟩
  ·cases hc
 case h_30=>
  rename_i t x k y ho
  left
  split at hc
  ·rename_i m z x' k' y' e1 e2 e3 e4
   injection hc with hc
   injection hc with q1 q2
   exact⟨t,x,k,y,m,z,x',k',y',.inr ho,e1,e2,e3,e4,q1.symm,q2.symm⟩
  ·cases hc
 all_goals (try unfold uT at hc)<;>(try unfold sr at hc)<;>(repeat' (split at hc))<;>(simp only[Option.bind_eq_bind,Option.bind_eq_some_iff,Option.pure_def,Option.some.injEq,Option.map_eq_some_iff,reduceCtorEq,and_false,exists_false]at hc)
def jf (g:Rows) (id:Id):Option Row->Rows
 |some r=>bK g id r
 |none=>g
def uV (X:fJ) (hid:List Nat) (site n:Nat) (f:Nat) (args:List AV) (g:Rows) (v:AV) (g':Rows):Prop:=
 (fI X f args ⟨fE hid n g,n+1⟩ (fun r=>r=v)/\g'=g)∨
 (hid.contains site=true/\∃sz rows,CM X f args ⟨fE hid n g,n+1⟩ sz rows/\v=.own ⟨site,n⟩ 0 rows.length/\g'=bK g ⟨site,n⟩ ⟨true,sz,rows⟩)
def VS (X:fJ) (n:Nat) (vo:bB) (env:Env) (g:Rows) (v:AV) (g':Rows):Prop:=
 match vo.op with
 | .call f args=>uV X vo.hid vo.site n f (args.map (da env)) g v g'
 | .tj x args=>∃f l,uU (da env x) (args.map (da env))=some (f,l)/\uV X vo.hid vo.site n f l g v g'
 | .store .. | .append .. | .copy .. | .clear .. | .mw .. =>fF vo.op (da env) g ⟨vo.site,n⟩=some (v,g')
 |_=>∃mr,eJ vo.op (da env) (fE vo.hid n g) ⟨vo.site,n⟩=some (v,mr)/\g'=jf g ⟨vo.site,n⟩ mr
def LS (P:Program) (hs:Nat) (D:Nat->Prop) (ι:Names) (w:World) (U:Nat->Prop) (site n:Nat) (a:Act) (dst:Option Tmp) (v:AV) (g':Rows) (a':Act) (w':World):Prop:=
 ∃u D' ι',a'=a.put dst u/\Step hs D ι w D' ι' w'/\gi P hs D' ι' g' w'/\dj P w' D' ι' v u/\Used ι' n (fun s=>U s∨s=site)
theorem fresh {n:Nat} {U:Nat->Prop} {s:Nat} (h:Used ι n U) (hU:¬U s):ι ⟨s,n⟩=none:=by
 cases hq:ι ⟨s,n⟩with
 |none=>rfl
 |some B=>
  rcases h ⟨s,n⟩ (by rw[hq];simp)with h|⟨_,h⟩
  ·exact absurd h (Nat.lt_irrefl _)
  ·exact absurd h hU
theorem Used.more {n:Nat} {U U':Nat->Prop} (h:Used ι n U) (hU:∀s,U s->U' s):Used ι n U':=fun id hid=>by
 rcases h id hid with h|⟨h1,h2⟩
 ·exact .inl h
 ·exact .inr ⟨h1,hU _ h2⟩
theorem Used.next {n:Nat} {U:Nat->Prop} (h:Used ι n U):Used ι (n+1) (fun _=>False):=fun id hid=>by
 rcases h id hid with h|⟨h1,_⟩
 ·exact .inl (Nat.lt_succ_of_lt h)
 ·exact .inl (by omega)
theorem Used.upd {n:Nat} {U:Nat->Prop} {s:Nat} {B:r8} (h:Used ι n U):Used (kc ι ⟨s,n⟩ B) n (fun x=>U x∨x=s):=fun id hid=>by
 by_cases he:id=⟨s,n⟩
 ·subst he;exact .inr ⟨rfl,.inr rfl⟩
 ·rw[gh he]at hid
  exact(h.more (U':=fun x=>U x∨x=s) fun _ h=>Or.inl h) id hid
theorem ot {xs:Array Operand} {ys:List O} (E:cC P w D ι env a) (h:xs.toList.mapM (cO P)=some ys):eW P w D ι (ys.map (da env)) (xs.map a.eval):=by
 obtain⟨h1,h2⟩:=DJ E h
 refine⟨by simpa using h1,fun j b hj=>?_⟩
 simp only[List.getElem?_map,Option.map_eq_some_iff]at hj
 obtain⟨y,hy,rfl⟩:=hj
 have eo:j<xs.size:=by have:=(List.getElem?_eq_some_iff.1 hy).1;simp at h1;omega
 refine⟨a.eval xs[j],by simp[eo],?_⟩
 have:=h2 j y hy
 simpa[List.getD_eq_getElem?_getD,eo]using this
theorem oQ {xs ys:List AV} {vs us:Array Value} (h:eW P w D ι xs vs) (k:eW P w D ι ys us):eW P w D ι (xs++ys) (vs++us):=
 ⟨by simp[h.1,k.1],fun j b hj=>by
  by_cases eo:j<xs.length
  ·rw[List.getElem?_append_left eo]at hj
   obtain⟨u,hu,xx⟩:=h.2 j b hj
   exact⟨u,by rw[Array.getElem?_append_left (by rw[h.1];exact eo)];exact hu,xx⟩
  ·rw[List.getElem?_append_right (by omega)]at hj
   obtain⟨u,hu,xx⟩:=k.2 _ b hj
   exact⟨u,by rw[Array.getElem?_append_right (by rw[h.1];omega),h.1];exact hu,xx⟩⟩
theorem wm:eW P w D ι [] #[]:=⟨rfl,fun j b hj=>by simp at hj⟩
theorem uW {x:AV} {l l':List AV} {f:Nat} {vs:Array Value} {v:Value} (h:uU x l=some (f,l')) (hr:dj P w D ι x v) (hA:eW P w D ι l vs):
  ∃first de,v=.func (.func f) first de/\fM P f=true/\eW P w D ι l' (first++vs++de):=by
 unfold uU at h
 split at h
 ·simp only[Option.some.injEq,Prod.mk.injEq]at h
  obtain⟨rfl,rfl⟩:=h
  obtain⟨us,q,he,EG,n1,q1,q2⟩:=DL hr
  refine⟨#[],us,he,EG,?_⟩
  rw[Array.empty_append]
  exact oQ hA ⟨n1,fun j b hj=>⟨q j,q1 j (List.getElem?_eq_some_iff.1 hj).1,q2 j b hj⟩⟩
 ·simp only[Option.some.injEq,Prod.mk.injEq]at h
  obtain⟨rfl,rfl⟩:=h
  obtain⟨us,q,he,EG,n1,q1,q2⟩:=Ly hr
  refine⟨us, #[],he,EG,?_⟩
  rw[Array.append_empty]
  exact oQ ⟨n1,fun j b hj=>⟨q j,q1 j (List.getElem?_eq_some_iff.1 hj).1,q2 j b hj⟩⟩ hA
 ·cases h
theorem AA {n:Nat} {vo:bB} {g':Rows} {U:Nat->Prop} {Q:Exit->Act->World->Prop} {K:Act->World->Prop} (hc:qK P o.op=some vo.op) (hv:VS (Sound P) n vo env g v g') (S:gi P hs D ι g w) (Us:Used ι n U) (hU:¬U vo.site) (E:cC P w D ι env a)
  (hK:∀a' w',LS P hs D ι w U vo.site n a o.dst v g' a' w'->K a' w'):o.wp P a w K Q:=by
 have hf:=fresh Us hU
 have AJ:∀(f:Nat) (args:List AV) (vs:Array Value),uV (Sound P) vo.hid vo.site n f args g v g'->eW P w D ι args vs->(execOp a.eval o).run P w=.ok (.enter f vs) w->o.wp P a w K Q:=by
  intro f args vs hP hA gH
  unfold Oper.wp
  rw[gH]
  rcases hP with⟨hP,rfl⟩|⟨_,sz,rows,hM,rfl,rfl⟩
  ·refine(Fl hP Aa S Us.next hA).mono ?_
   rintro e w' ⟨r,D',u,rfl,rfl,T,S',hR⟩
   exact hK _ _ ⟨u,D',ι,rfl,T,S',hR,Us.more fun _ h=>.inl h⟩
  ·refine(Hb hM Aa S Us.next hA hf).mono ?_
   rintro e w' ⟨u,B,rfl,T,S',hR⟩
   exact hK _ _ ⟨u,D,_,rfl,T,S',hR,Us.upd⟩
 have quiet:∀(mr:Option Row),eJ vo.op (da env) (fE vo.hid n g) ⟨vo.site,n⟩=some (v,mr)->g'=jf g ⟨vo.site,n⟩ mr->o.wp P a w K Q:=by
  intro mr hq hg
  have hqs:=yM hc hq (S.sub Aa) E
  unfold Oper.wp
  cases mr with
  |none=>
   obtain⟨u,gH,hR⟩:=hqs
   rw[gH]
   subst hg
   exact hK _ _ ⟨u,D,ι,rfl,Step.refl _ _ _ _,S,hR,Us.more fun _ h=>.inl h⟩
  |some r=>
   rcases hqs with⟨u,cells,T,gH,h1,h2,h3,h4,h5,h6⟩|⟨m,gH,FX,Iq⟩|⟨c,gH,FX,Iq⟩
   case inr.inr=>
    rw[gH]
    subst hg FX Iq
    have fe:w.heap.size<(w.alloc (.chan c #[] false 0 0 false)).heap.size:=by simp
    have S':=S.stay (w':=w.alloc (.chan c #[] false 0 0 false)) (D':=D) (ι':=ι) (fun k hk=>Below.heap_alloc _ _ _ hk) (by simp) (fun _ h=>h) (fun b hd=>Nat.lt_trans (S.dead b hd) fe) (fun _ h=>.inl h) (fun _ _ h=>h)
    have S1:=S.add S' (id:=⟨vo.site,n⟩) (B:=⟨w.heap.size,qj+c,0,some (.chan c)⟩) (r:=⟨true,qj+c,[]⟩) hf (Nat.le_refl _) ⟨rfl,fun cs h=>by simp at h,fun h=>by simp at h,fun m' h=>(by simp at h),fun c' h=>by
     simp only[Option.some.injEq,BK.chan.injEq]at h;subst h
     exact⟨rfl, #[],0,0,(show(w.heap.push (Obj.chan c #[] false 0 0 false))[w.heap.size]? =some (Obj.chan c #[] false 0 0 false) by simp),rfl,fun i cs h=>by simp at h⟩⟩
    exact hK _ _ ⟨_,D,_,rfl,Step.stay S (fun k hk=>Below.heap_alloc _ _ _ hk) (by simp) rfl rfl rfl (fun _ h=>h) (fun _ h=>.inl h) (fx hf),S1,.qZ _ _ _ (ez _ _ _) rfl,Us.upd⟩
   case inr.inl=>
    rw[gH]
    subst hg FX Iq
    have fe:w.heap.size<(w.alloc (.map #[] 0)).heap.size:=by simp
    have S':=S.stay (w':=w.alloc (.map #[] 0)) (D':=D) (ι':=ι) (fun k hk=>Below.heap_alloc _ _ _ hk) (by simp) (fun _ h=>h) (fun b hd=>Nat.lt_trans (S.dead b hd) fe) (fun _ h=>.inl h) (fun _ _ h=>h)
    have S1:=S.add S' (id:=⟨vo.site,n⟩) (B:=⟨w.heap.size,m.sg,0,some (.map m)⟩) (r:=⟨true,m.sg,[]⟩) hf (Nat.le_refl _) ⟨rfl,fun cs h=>by simp at h,fun h=>by simp at h,fun m' h=>by
     simp only[Option.some.injEq,BK.map.injEq]at h;subst h
     exact⟨rfl, #[],0,(show(w.heap.push (Obj.map #[] 0))[w.heap.size]? =some (Obj.map #[] 0) by simp),rfl,⟨fun cs h=>by simp at h,fun x h=>by simp at h,by simp⟩,fun i cs h=>by simp at h⟩,fun c h=>by simp at h⟩
    exact hK _ _ ⟨_,D,_,rfl,Step.stay S (fun k hk=>Below.heap_alloc _ _ _ hk) (by simp) rfl rfl rfl (fun _ h=>h) (fun _ h=>.inl h) (fx hf),S1,.map _ _ _ (ez _ _ _) rfl,Us.upd⟩
   rw[gH]
   subst hg
   have S1:=S.alloc (id:=⟨vo.site,n⟩) (w':=w.alloc (.cells cells T)) rfl hf h1 h2 h3 h4 h5
   refine hK _ _ ⟨u,D,_,rfl,Step.stay S (fun k hk=>Below.heap_alloc _ _ _ hk) (by simp) rfl rfl rfl (fun _ h=>h) (fun _ h=>.inl h) (fx hf),S1,(h6 (kc ι _ _) (ez _ _ _)).frame (fun b hd=>Below.heap_alloc _ _ _ (S.dead b hd)) (fun _ h=>h) (fun _ _ h=>h),Us.upd⟩
 have ON:fF vo.op (da env) g ⟨vo.site,n⟩=some (v,g')->(∀J8,Cx P hs a o J8 D ι ⟨vo.site,n⟩ v g'->J8=w->o.wp P a w K Q):=by
  intro _ J8 hE he
  subst he
  obtain⟨u,w',ι',gH,T,S',hR,hι⟩:=hE
  have H3:LS P hs D ι J8 U vo.site n a o.dst v g' (a.put o.dst u) w':=⟨u,D,ι',rfl,T,S',hR,fun id hid=>by
   by_cases he:id=⟨vo.site,n⟩
   ·subst he;exact .inr ⟨rfl,.inr rfl⟩
   ·rw[hι id he]at hid
    exact(Us.more (U':=fun x=>U x∨x=vo.site) fun _ h=>Or.inl h) id hid⟩
  unfold Oper.wp
  rcases gH with gH|⟨gH,rfl⟩
  ·rw[gH];exact hK _ _ H3
  ·rw[gH];exact hK _ _ H3
 unfold VS at hv
 split at hv
 ·rename_i f args er
  rw[er]at hc
  obtain⟨c,ho,kf,EG,nz⟩:=Bu hc
  refine AJ f _ (c.args.map a.eval) hv (ot E nz) ?_
  simp only[execOp,ho,resolve,kf,Deferred.ofValue,Act.eval,Sem.run_bind,Sem.run_pure,Result.andThen_ok,invoke,Array.empty_append,Array.append_empty]
  exact jt EG
 ·rename_i x args er
  obtain⟨f,l,hx,hP⟩:=hv
  rw[er]at hc
  obtain⟨c,t,ho,kf,rfl,nz⟩:=sO hc
  obtain⟨first,de,he,EG,hL⟩:=uW (v:=a.eval (.tmp t)) hx (E t) (ot E nz)
  refine AJ f _ (first++c.args.map a.eval++de) hP hL ?_
  simp only[execOp,ho,resolve,kf,he,Deferred.ofValue,Sem.run_bind,Sem.run_pure,Result.andThen_ok,invoke]
  exact jt EG
 ·rename_i m x y er
  have kD:=hc
  rw[er]at kD
  obtain⟨t,x',y',ho,h1,h2,h3⟩:=F3 kD
  have nL:=hv
  rw[er]at nL
  simp only[fF,Option.map_eq_some_iff,Prod.mk.injEq]at nL
  obtain⟨g1,Al,rfl,rfl⟩:=nL
  exact ON hv w (Kr S E ho h1 h2 h3 Al) rfl
 ·rename_i m x y er
  have kD:=hc
  rw[er]at kD
  obtain⟨t,e,m',z,i,x',y',rfl,ho,h1,h2,h3,h4,h5,h6,h7⟩:=Dn kD
  have nL:=hv
  rw[er]at nL
  simp only[fF,Option.bind_eq_some_iff]at nL
  obtain⟨ys,ES,nL⟩:=nL
  exact ON hv w (HJ S E hf ho h1 h2 h3 h4 h5 h6 h7 ES nL) rfl
 ·rename_i m x y er
  have kD:=hc
  rw[er]at kD
  obtain⟨t,t2,e,m',x',y',rfl,ho,h1,h2,h3,h4⟩:=IA kD
  have nL:=hv
  rw[er]at nL
  simp only[fF,Option.bind_eq_some_iff]at nL
  obtain⟨ys,ES,nL⟩:=nL
  exact ON hv w (MU S E ho h1 h2 h3 h4 ES nL) rfl
 ·rename_i z x er
  have kD:=hc
  rw[er]at kD
  obtain⟨t,e,m',x',ho,h1,h2,h3,h4⟩:=F2 kD
  have nL:=hv
  rw[er]at nL
  simp only[fF,Option.map_eq_some_iff,Prod.mk.injEq]at nL
  obtain⟨g1,Al,rfl,rfl⟩:=nL
  exact ON hv w (Kq S E ho h1 h2 h3 h4 Al) rfl
 ·rename_i q xs er
  have kD:=hc
  rw[er]at kD
  have nL:=hv
  rw[er]at nL
  simp only[fF,Option.map_eq_some_iff,Prod.mk.injEq]at nL
  obtain⟨g1,Al,rfl,rfl⟩:=nL
  rcases NU kD with⟨t,x,k,y,m,z,x',k',y',ho,h1,h2,h3,h4,rfl,rfl⟩|⟨t,t',x,k,m,z,x',k',ho,h1,h2,h3,rfl,rfl⟩
  ·exact ON hv w (MX S E ho h1 h2 h3 h4 Al) rfl
  ·exact ON hv w (MV S E ho h1 h2 h3 Al) rfl
 ·obtain⟨mr,hq,hg⟩:=hv
  exact quiet mr hq hg
end
end Go.Proofs.YtgoelphibofcmaaGreat.V

namespace Go.Proofs.YtgoelphibofcmaaGreat.V
open Go.RowKit
variable {P:Program} {w w':World} {D D' D2:Nat->Prop} {ι ι' ι2:Names}
section
variable {g:Rows} {hs:Nat} {env:Env} {a:Act} {o:Oper} {id:Id} {v:AV}
theorem pb {ops:Array Oper} {nt site0 j:Nat} {draw mk:Bool} {bs:Array Nat} {hidden:List (Nat×Bool)} {vo:bB} (h:l5 P ops nt site0 draw mk bs hidden j o=some vo):
  qK P o.op=some vo.op/\vo.dst=o.dst/\vo.site=site0+j/\(∀d,o.dst=some d->d<nt)/\(match o.guard with
   |none=>vo.guard=none
   |some (i,b)=>∃t,(ops[i]?).bind (·.dst)=some t/\vo.guard=some (t,b)):=by
 unfold l5 at h
 simp only[Option.bind_eq_bind,Option.bind_eq_some_iff]at h
 obtain⟨v,hv,gd,hg,h⟩:=h
 split at h
 ·rename_i hd
  simp only[Option.pure_def,Option.some.injEq]at h
  subst h
  refine⟨hv,rfl,rfl,fun d Rq=>?_,?_⟩
  ·rw[Rq]at hd;simpa using hd
  ·unfold CN at hg
   cases xt:o.guard with
   |none=>rw[xt]at hg;simp at hg;exact hg.symm
   |some p=>
    obtain⟨i,b⟩:=p
    rw[xt]at hg
    dsimp only at hg ⊢
    split at hg
    ·rename_i t ht
     simp at hg;exact⟨t,ht,hg.symm⟩
    ·simp at hg
 ·simp at h
theorem td {ops:Array Oper} {vo:bB} (E:cC P w D ι env a) (hg:match o.guard with
   |none=>vo.guard=none
   |some (i,b)=>∃t,(ops[i]?).bind (·.dst)=some t/\vo.guard=some (t,b)):aM vo.guard env=Region.wanted o (yielded ops a.tmps):=by
 unfold Region.wanted
 cases xt:o.guard with
 |none=>rw[xt]at hg;simp only at hg;rw[hg];rfl
 |some p=>
  obtain⟨i,b⟩:=p
  rw[xt]at hg
  obtain⟨t,ht,hv⟩:=hg
  rw[hv]
  simp only[aM,yielded,ht,Option.bind_some]
  have hr:=E t
  by_cases eo:t<a.tmps.size
  ·have fu:a.tmps[t]? =some a.tmps[t]:=Array.getElem?_eq_getElem eo
   have hd:a.tmps.getD t undef=a.tmps[t]:=by simp[eo]
   rw[hd]at hr
   rw[fu]
   generalize a.tmps[t]=u at hr
   cases he:env t with
   |bool c=>rw[he]at hr;rw[fa hr];simp
   |_=>
    rw[he]at hr
    have:∀c,u≠.bool c:=by
     intro c hu
     subst hu
     cases hr with
     |eU _ _ h=>cases h
    cases u<;>simp_all
  ·have fu:a.tmps[t]? =none:=Array.getElem?_eq_none (Nat.le_of_not_lt eo)
   have hd:a.tmps.getD t undef=undef:=by simp[fu]
   rw[hd]at hr
   rw[fu]
   cases he:env t with
   |bool c=>rw[he]at hr;have:=fa hr;simp[undef]at this
   |_=>simp
theorem mH {dst:Option Nat} {nt:Nat} {u:Value} (E:cC P w D ι env a) (hr:dj P w D ι v u) (hd:∀d,dst=some d->d<nt) (hs:a.tmps.size=nt):cC P w D ι (upd env dst v) (a.put dst u):=by
 intro t
 cases dst with
 |none=>exact E t
 |some d=>
  have eo:d<a.tmps.size:=by rw[hs];exact hd d rfl
  simp only[upd,Act.put]
  by_cases ht:t=d
  ·subst ht
   simp[eo];exact hr
  ·rw[if_neg ht]
   have:(a.tmps.setIfInBounds d u).getD t undef=a.tmps.getD t undef:=by
    simp only[Array.getD_eq_getD_getElem?]
    rw[Array.getElem?_setIfInBounds_ne (fun e=>ht e.symm)]
   rw[this];exact E t
theorem oz {hs:Nat} (E:cC P w D ι env a) (T:Step hs D ι w D' ι' w'):cC P w' D' ι' env a:=fun t=>T.rep (E t)
theorem kN (a:Act) (dst:Option Tmp) (u:Value):(a.put dst u).tmps.size=a.tmps.size:=by cases dst<;>simp[Act.put]
theorem put_defers (a:Act) (dst:Option Tmp) (u:Value):(a.put dst u).defers=a.defers:=by cases dst<;>rfl
theorem yR {draw:Bool} {vo:bB} {σ:aw} {next:AV->aw->Prop} {U:Nat->Prop} {Q:Exit->Act->World->Prop} {K:Act->World->Prop} (hc:qK P o.op=some vo.op) (hv:fj (Sound P) draw vo env σ next) (S:gi P hs D ι σ.get w) (Us:Used ι σ.next U) (hU:¬U vo.site) (E:cC P w D ι env a)
  (hK:∀v σ' u D' ι' w',next v σ'->Step hs D ι w D' ι' w'->gi P hs D' ι' σ'.get w'->dj P w' D' ι' v u->Used ι' σ'.next (fun s=>U s∨s=vo.site)->σ.next<=σ'.next->K (a.put o.dst u) w'):o.wp P a w K Q:=by
 have close:∀v g',VS (Sound P) σ.next vo env σ.get v g'->next v ⟨g',σ.next⟩->o.wp P a w K Q:=fun v g' h1 h2=>
  AA hc h1 S Us hU E fun a' w' ⟨u,D',ι',ha,T,S',hR,U'⟩=>by subst ha;exact hK v ⟨g',σ.next⟩ u D' ι' w' h2 T S' hR U' (Nat.le_refl _)
 have IZ:∀(f:Nat) (args:List AV) (vs:Array Value),Sound P f args ⟨σ.get,σ.next+1⟩ next->eW P w D ι args vs->(execOp a.eval o).run P w=.ok (.enter f vs) w->o.wp P a w K Q:=by
  intro f args vs h hA gH
  unfold Oper.wp
  rw[gH]
  refine(h hs D ι w vs S Us.next hA).mono ?_
  rintro e w' ⟨r,g',n',D',ι',u,rfl,hn,T,S',U',hle,hR⟩
  exact hK r ⟨g',n'⟩ u D' ι' w' hn T S' hR (U'.more fun _ h=>h.elim) (Nat.le_trans (Nat.le_succ _) hle)
 unfold fj at hv
 split at hv
 ·rename_i f args er
  rcases hv with⟨r,hP,hn⟩|⟨_,hX⟩|⟨Mj,sz,rows,hM,hn⟩
  ·exact close r σ.get (by unfold VS;rw[er];exact .inl ⟨hP,rfl⟩) hn
  rotate_left
  ·exact close _ _ (by unfold VS;rw[er];exact .inr ⟨Mj,sz,rows,hM,rfl,rfl⟩) hn
  ·have kD:=hc
   rw[er]at kD
   obtain⟨c,ho,kf,EG,nz⟩:=Bu kD
   refine IZ f _ (c.args.map a.eval) hX (ot E nz) ?_
   simp only[execOp,ho,resolve,kf,Deferred.ofValue,Act.eval,Sem.run_bind,Sem.run_pure,Result.andThen_ok,invoke,Array.empty_append,Array.append_empty]
   exact jt EG
 ·rename_i x args er
  split at hv
  ·rename_i f de hx
   have xc:uU (da env x) (args.map (da env))=some (f,args.map (da env)++de):=by rw[hx];rfl
   rcases hv with⟨r,hP,hn⟩|⟨_,hX⟩|⟨Mj,sz,rows,hM,hn⟩
   ·exact close r σ.get (by unfold VS;rw[er];exact⟨f,_,xc,.inl ⟨hP,rfl⟩⟩) hn
   rotate_left
   ·exact close _ _ (by unfold VS;rw[er];exact⟨f,_,xc,.inr ⟨Mj,sz,rows,hM,rfl,rfl⟩⟩) hn
   ·have kD:=hc
    rw[er]at kD
    obtain⟨c,t,ho,kf,rfl,nz⟩:=sO kD
    obtain⟨first,us,he,EG,hL⟩:=uW (v:=a.eval (.tmp t)) xc (E t) (ot E nz)
    refine IZ f _ (first++c.args.map a.eval++us) hX hL ?_
    simp only[execOp,ho,resolve,kf,he,Deferred.ofValue,Sem.run_bind,Sem.run_pure,Result.andThen_ok,invoke]
    exact jt EG
  ·rename_i f de hx
   have xc:uU (da env x) (args.map (da env))=some (f,de++args.map (da env)):=by rw[hx];rfl
   rcases hv with⟨r,hP,hn⟩|⟨_,hX⟩|⟨Mj,sz,rows,hM,hn⟩
   ·exact close r σ.get (by unfold VS;rw[er];exact⟨f,_,xc,.inl ⟨hP,rfl⟩⟩) hn
   rotate_left
   ·exact close _ _ (by unfold VS;rw[er];exact⟨f,_,xc,.inr ⟨Mj,sz,rows,hM,rfl,rfl⟩⟩) hn
   ·have kD:=hc
    rw[er]at kD
    obtain⟨c,t,ho,kf,rfl,nz⟩:=sO kD
    obtain⟨first,us,he,EG,hL⟩:=uW (v:=a.eval (.tmp t)) xc (E t) (ot E nz)
    refine IZ f _ (first++c.args.map a.eval++us) hX hL ?_
    simp only[execOp,ho,resolve,kf,he,Deferred.ofValue,Sem.run_bind,Sem.run_pure,Result.andThen_ok,invoke]
    exact jt EG
  ·exact hv.elim
 ·rename_i m x y er
  split at hv
  ·rename_i v' g' he
   exact close v' g' (by unfold VS;rw[er];rw[er]at he;exact he) hv
  ·exact hv.elim
 ·rename_i m x y er
  split at hv
  ·rename_i v' g' he
   exact close v' g' (by unfold VS;rw[er];rw[er]at he;exact he) hv
  ·exact hv.elim
 ·rename_i m x y er
  split at hv
  ·rename_i v' g' he
   exact close v' g' (by unfold VS;rw[er];rw[er]at he;exact he) hv
  ·exact hv.elim
 ·rename_i m x er
  split at hv
  ·rename_i v' g' he
   exact close v' g' (by unfold VS;rw[er];rw[er]at he;exact he) hv
  ·exact hv.elim
 ·rename_i m x er
  split at hv
  ·rename_i v' g' he
   exact close v' g' (by unfold VS;rw[er];rw[er]at he;exact he) hv
  ·exact hv.elim
 ·rename_i n1 n2 n3 n4 n5 n6 n7
  split at hv
  ·rename_i v' r hq
   refine close v' (bK σ.get ⟨vo.site,σ.next⟩ r) ?_ hv
   unfold VS
   split
   ·rename_i h;exact(n1 _ _ h).elim
   ·rename_i h;exact(n2 _ _ h).elim
   ·rename_i h;exact(n3 _ _ _ h).elim
   ·rename_i h;exact(n4 _ _ _ h).elim
   ·rename_i h;exact(n5 _ _ _ h).elim
   ·rename_i h;exact(n6 _ _ h).elim
   ·rename_i h;exact(n7 _ _ h).elim
   ·exact⟨some r,hq,rfl⟩
  ·rename_i v' hq
   refine close v' σ.get ?_ hv
   unfold VS
   split
   ·rename_i h;exact(n1 _ _ h).elim
   ·rename_i h;exact(n2 _ _ h).elim
   ·rename_i h;exact(n3 _ _ _ h).elim
   ·rename_i h;exact(n4 _ _ _ h).elim
   ·rename_i h;exact(n5 _ _ _ h).elim
   ·rename_i h;exact(n6 _ _ h).elim
   ·rename_i h;exact(n7 _ _ h).elim
   ·exact⟨none,hq,rfl⟩
  ·exact hv.elim
structure St (P:Program) (hs nt:Nat) (D:Nat->Prop) (ι:Names) (env:Env) (σ:aw) (a:Act) (w:World):Prop where
 J7:gi P hs D ι σ.get w
 used:Used ι σ.next (fun _=>False)
 env:cC P w D ι env a
 size:a.tmps.size=nt
theorem DG (rest:List Oper) {ops:Array Oper} {nt site0:Nat} {draw mk:Bool} {bs:Array Nat} {hidden:List (Nat×Bool)} {K:Env->aw->Prop} {Q:Exit->Act->World->Prop}:∀(l:List Oper) (vl:List bB) (j:Nat) (env:Env) (σ:aw) (a:Act) (w:World) (D:Nat->Prop) (ι:Names) (U:Nat->Prop),
  allM (l5 P ops nt site0 draw mk bs hidden) l j=some vl->wpOps (Sound P) draw vl K env σ->gi P hs D ι σ.get w->Used ι σ.next U->(∀s,U s->s<site0+j)->cC P w D ι env a->a.tmps.size=nt->
  (∀iA σ' a' w' D' ι',K iA σ'->Step hs D ι w D' ι' w'->St P hs nt D' ι' iA σ' a' w'->a'.defers=a.defers->σ.next<=σ'.next->wpList P ops Q rest a' w')->wpList P ops Q (l++rest) a w:=by
 intro l
 induction l with
 |nil=>
  intro vl j env σ a w D ι U h hv S Us _ E fe hQ
  simp[allM]at h;subst h
  exact hQ env ⟨σ.get,σ.next+1⟩ a w D ι hv (Step.refl _ _ _ _) ⟨S,Us.next,E,fe⟩ rfl (Nat.le_succ _)
 |cons o l ih=>
  intro vl j env σ a w D ι U h hv S Us hU E fe hQ
  simp only[allM,Option.bind_eq_bind,Option.bind_eq_some_iff,Option.pure_def,Option.some.injEq]at h
  obtain⟨vo,pM,tb,nQ,rfl⟩:=h
  obtain⟨hc,hd,Bm,xq,hg⟩:=pb pM
  have hw:=td (ops:=ops) (vo:=vo) E hg
  unfold wpOps at hv
  show wpList P ops Q (o::(l++rest)) a w
  unfold wpList
  rw[<-hw]
  split at hv
  ·rename_i FY
   rw[if_pos FY]
   refine .inl (yR hc hv S Us (fun h=>by have:=hU _ h;omega) E fun v σ' u D' ι' w' hn T S' hR U' hle=>?_)
   refine ih tb (j+1) (upd env vo.dst v) σ' (a.put o.dst u) w' D' ι' _ nQ hn S' U' (fun s Bj=>by
    rcases Bj with h|h
    ·have:=hU _ h;omega
    ·omega) (by rw[hd];exact mH (oz E T) hR xq fe) (by rw[kN];exact fe) fun iA σ2 a' w2 D2 ι2 hk T2 Pk C7 mM=>hQ iA σ2 a' w2 D2 ι2 hk (T.trans T2) Pk (C7.trans (put_defers _ _ _)) (Nat.le_trans hle mM)
  ·rename_i FY
   rw[if_neg FY]
   refine ih tb (j+1) (upd env vo.dst .undef) σ (a.put o.dst undef) w D ι U nQ hv S Us (fun s Bj=>by have:=hU _ Bj;omega) (by rw[hd];exact mH E dj.undef xq fe) (by rw[kN];exact fe) fun iA σ2 a' w2 D2 ι2 hk T2 Pk C7 mM=>hQ iA σ2 a' w2 D2 ι2 hk T2 Pk (C7.trans (put_defers _ _ _)) mM
theorem Gq {ops:Array Oper} {nt site0:Nat} {draw mk:Bool} {bs:Array Nat} {hidden:List (Nat×Bool)} {K:Env->aw->Prop} {Q:Exit->Act->World->Prop}:∀(l:List Oper) (vl:List bB) (j:Nat) (env:Env) (σ:aw) (a:Act) (w:World) (D:Nat->Prop) (ι:Names) (U:Nat->Prop),
  allM (l5 P ops nt site0 draw mk bs hidden) l j=some vl->wpOps (Sound P) draw vl K env σ->gi P hs D ι σ.get w->Used ι σ.next U->(∀s,U s->s<site0+j)->cC P w D ι env a->a.tmps.size=nt->
  (∀iA σ' a' w' D' ι',K iA σ'->Step hs D ι w D' ι' w'->St P hs nt D' ι' iA σ' a' w'->a'.defers=a.defers->σ.next<=σ'.next->Q .normal a' w')->wpList P ops Q l a w:=fun l vl j env σ a w D ι U h hv S Us hU E fe hQ=>by
 have:=DG [] l vl j env σ a w D ι U h hv S Us hU E fe hQ
 rwa [List.append_nil]at this
end
end Go.Proofs.YtgoelphibofcmaaGreat.V

namespace Go.Proofs.YtgoelphibofcmaaGreat.V
open Go.RowKit
variable {P:Program} {w w':World} {D D' D2:Nat->Prop} {ι ι' ι2:Names}
section
variable {hs:Nat} {X:fJ}
theorem bp {env iQ:Env} {x:O} (h:∀t∈gK x,env t=iQ t):da env x=da iQ x:=by
 cases x with
 |t n=>exact h n (by simp[gK])
 |_=>rfl
theorem map_congr {env iQ:Env} {l:List O} (h:∀t∈l.flatMap gK,env t=iQ t):l.map (da env)=l.map (da iQ):=
 List.map_congr_left fun x hx=>bp fun t ht=>h t (List.mem_flatMap.2 ⟨x,hx,ht⟩)
theorem ph {env iQ:Env} {x:Option O} (h:∀t∈wg x,env t=iQ t):x.map (da env)=x.map (da iQ):=by
 cases x with
 |none=>rfl
 |some y=>simp only[Option.map_some];rw[bp h]
theorem sY {env iQ:Env} {o:gp} {g:Rows} {id:Id} (h:∀t∈o.gw,env t=iQ t):eJ o (da env) g id=eJ o (da iQ) g id:=by
 cases o<;>simp only[gp.gw,List.mem_append]at h<;>simp only[eJ]
 case bS x=>rw[bp h]
 case pick c a b=>rw[bp (x:=c) fun t ht=>h t (.inl (.inl ht)),bp (x:=a) fun t ht=>h t (.inl (.inr ht)),bp (x:=b) fun t ht=>h t (.inr ht)]
 case box x=>rw[bp h]
 case build z ps=>
  have:(ps.map fun(x:Nat×Nat×O)=>(x.1,x.2.1,da env x.2.2))=ps.map fun(x:Nat×Nat×O)=>(x.1,x.2.1,da iQ x.2.2):=List.map_congr_left fun x hx=>by
   rw[bp (x:=x.2.2) fun t ht=>h t (List.mem_flatMap.2 ⟨x,hx,ht⟩)]
  rw[this]
 case j8 a b l=>rw[map_congr h]
 case load a n x=>rw[bp h]
 case AN x=>rw[bp h]
 case bin a b x y=>rw[bp (x:=x) fun t ht=>h t (.inl ht),bp (x:=y) fun t ht=>h t (.inr ht)]
 case sh a x y=>rw[bp (x:=x) fun t ht=>h t (.inl ht),bp (x:=y) fun t ht=>h t (.inr ht)]
 case Kn a x y=>rw[bp (x:=x) fun t ht=>h t (.inl ht),bp (x:=y) fun t ht=>h t (.inr ht)]
 case FG a b x y=>rw[bp (x:=x) fun t ht=>h t (.inl ht),bp (x:=y) fun t ht=>h t (.inr ht)]
 case Q8 a b x y=>rw[bp (x:=x) fun t ht=>h t (.inl ht),bp (x:=y) fun t ht=>h t (.inr ht)]
 case PA a b x=>rw[bp h]
 case Q9 a x=>rw[bp h]
 case not x=>rw[bp h]
 case neg x=>rw[bp h]
 case conv k x=>rw[bp h]
 case Er x=>rw[bp h]
 case slice s x lo hi=>rw[bp (x:=x) fun t ht=>h t (.inl (.inl ht)),ph (x:=lo) fun t ht=>h t (.inl (.inr ht)),ph (x:=hi) fun t ht=>h t (.inr ht)]
 case zX x lo hi=>rw[bp (x:=x) fun t ht=>h t (.inl (.inl ht)),ph (x:=lo) fun t ht=>h t (.inl (.inr ht)),ph (x:=hi) fun t ht=>h t (.inr ht)]
 case eX k x=>rw[bp h]
 case field a b c x=>rw[bp h]
 case dZ s x y=>rw[bp (x:=x) fun t ht=>h t (.inl ht),bp (x:=y) fun t ht=>h t (.inr ht)]
 case KY n s x y=>rw[bp (x:=x) fun t ht=>h t (.inl ht),bp (x:=y) fun t ht=>h t (.inr ht)]
 case K0 x y=>rw[bp (x:=x) fun t ht=>h t (.inl ht),bp (x:=y) fun t ht=>h t (.inr ht)]
 case eE a b c x y=>rw[bp (x:=x) fun t ht=>h t (.inl ht),bp (x:=y) fun t ht=>h t (.inr ht)]
 case extract i x=>rw[bp h]
 case len x=>rw[bp h]
 case K7 x=>rw[bp h]
 case IS x=>rw[bp h]
 case IG x=>rw[bp h]
 case Lh f l=>rw[map_congr h]
 case Li f l=>rw[map_congr h]
 case mq f l=>rw[map_congr h]
 case jR z x y=>rw[bp (x:=x) fun t ht=>h t (.inl ht),bp (x:=y) fun t ht=>h t (.inr ht)]
theorem gR {env iQ:Env} {o:gp} {g:Rows} {id:Id} (h:∀t∈o.gw,env t=iQ t):fF o (da env) g id=fF o (da iQ) g id:=by
 cases o<;>simp only[gp.gw,List.mem_append]at h<;>simp only[fF]
 case clear z x=>rw[bp h]
 case mw f l=>rw[map_congr h]
 all_goals rename_i a x y
 all_goals rw[bp (x:=x) fun t ht=>h t (.inl ht),bp (x:=y) fun t ht=>h t (.inr ht)]
theorem Hm {n:Nat} {vo:bB} {env iQ:Env} {g g':Rows} {v:AV} (h:∀t∈vo.op.gw,env t=iQ t) (hv:VS X n vo env g v g'):VS X n vo iQ g v g':=by
 unfold VS at hv ⊢
 split at hv
 ·rename_i f args er
  rw[er]at h
  simp only[gp.gw]at h
  rw[<-map_congr h];exact hv
 ·rename_i x args er
  rw[er]at h
  simp only[gp.gw,List.mem_append]at h
  rw[<-map_congr (l:=args) fun t ht=>h t (.inr ht),<-bp (x:=x) fun t ht=>h t (.inl ht)];exact hv
 ·rw[<-gR h];exact hv
 ·rw[<-gR h];exact hv
 ·rw[<-gR h];exact hv
 ·rw[<-gR h];exact hv
 ·rw[<-gR h];exact hv
 ·rw[<-sY h];exact hv
theorem Dy {q:MQ} {vs:List AV} {g:Rows} {id:Id} {v:AV} {r:Row} (h:bt q vs g id=some (v,some r)):∃m,q=.new m:=by
 unfold bt at h
 split at h
 ·exact⟨_,rfl⟩
 ·simp[Option.bind_eq_some_iff]at h
 ·simp at h
 ·cases h
theorem wi {o:gp} {ρ:O->AV} {g:Rows} {id:Id} {v:AV} {r:Row} (h:eJ o ρ g id=some (v,some r)):qE o=true:=by
 cases o<;>simp only[eJ]at h<;>(try rfl)<;>(try simp at h)
 case mq q xs=>obtain⟨m,rfl⟩:=Dy h;rfl
 all_goals (try(split at h<;>simp at h))
theorem wj {o:gp} {ρ:O->AV} {g g2:Rows} {id id2:Id} (h:o.cls=.pure):eJ o ρ g id=eJ o ρ g2 id2:=by
 cases o<;>(try simp[gp.cls]at h)<;>(try simp only[eJ])
 case mq q xs=>cases q<;>simp[gp.cls]at h
theorem uP {n:Nat} {vo:bB} {env:Env} {g g':Rows} {v:AV} (hw:vo.op.cls≠.write) (hv:VS X n vo env g v g'):∃mr,g'=jf g ⟨vo.site,n⟩ mr/\(mr≠none->vo.makes=true)/\∀g0,fE vo.hid n g0=fE vo.hid n g->VS X n vo env g0 v (jf g0 ⟨vo.site,n⟩ mr):=by
 unfold VS at hv
 split at hv
 ·rename_i f args er
  rcases hv with⟨h1,rfl⟩|⟨hs,sz,rows,hM,rfl,rfl⟩
  ·refine⟨none,rfl,fun h=>(h rfl).elim,fun g0 h0=>?_⟩
   unfold VS;rw[er];simp only;unfold uV;rw[h0];exact .inl ⟨h1,rfl⟩
  ·refine⟨some _,rfl,fun _=>by unfold bB.makes;rw[er,hs];simp[gp.lG],fun g0 h0=>?_⟩
   unfold VS;rw[er];simp only;unfold uV;rw[h0];exact .inr ⟨hs,sz,rows,hM,rfl,rfl⟩
 ·rename_i x args er
  obtain⟨f,de,hx,hv⟩:=hv
  rcases hv with⟨h1,rfl⟩|⟨hs,sz,rows,hM,rfl,rfl⟩
  ·refine⟨none,rfl,fun h=>(h rfl).elim,fun g0 h0=>?_⟩
   unfold VS;rw[er];simp only;unfold uV;rw[h0];exact⟨f,de,hx,.inl ⟨h1,rfl⟩⟩
  ·refine⟨some _,rfl,fun _=>by unfold bB.makes;rw[er,hs];simp[gp.lG],fun g0 h0=>?_⟩
   unfold VS;rw[er];simp only;unfold uV;rw[h0];exact⟨f,de,hx,.inr ⟨hs,sz,rows,hM,rfl,rfl⟩⟩
 ·rename_i er;rw[er]at hw;exact(hw rfl).elim
 ·rename_i er;rw[er]at hw;exact(hw rfl).elim
 ·rename_i er;rw[er]at hw;exact(hw rfl).elim
 ·rename_i er;rw[er]at hw;exact(hw rfl).elim
 ·rename_i er;rw[er]at hw;exact(hw rfl).elim
 ·rename_i n1 n2 n3 n4 n5 n6 n7
  obtain⟨mr,hq,rfl⟩:=hv
  refine⟨mr,rfl,fun h=>?_,fun g0 h0=>?_⟩
  ·cases mr with
   |none=>exact(h rfl).elim
   |some r=>unfold bB.makes;rw[wi hq];rfl
  ·unfold VS
   split
   ·rename_i hh;exact(n1 _ _ hh).elim
   ·rename_i hh;exact(n2 _ _ hh).elim
   ·rename_i hh;exact(n3 _ _ _ hh).elim
   ·rename_i hh;exact(n4 _ _ _ hh).elim
   ·rename_i hh;exact(n5 _ _ _ hh).elim
   ·rename_i hh;exact(n6 _ _ hh).elim
   ·rename_i hh;exact(n7 _ _ hh).elim
   ·rw[h0];exact⟨mr,hq,rfl⟩
theorem yV {n:Nat} {vo:bB} {env:Env} {g g':Rows} {v:AV} (hp:vo.op.cls=.pure) (hv:VS X n vo env g v g'):g'=g/\∀g0,VS X n vo env g0 v g0:=by
 unfold VS at hv
 split at hv
 ·rename_i er;rw[er]at hp;simp[gp.cls]at hp
 ·rename_i er;rw[er]at hp;simp[gp.cls]at hp
 ·rename_i er;rw[er]at hp;simp[gp.cls]at hp
 ·rename_i er;rw[er]at hp;simp[gp.cls]at hp
 ·rename_i er;rw[er]at hp;simp[gp.cls]at hp
 ·rename_i er;rw[er]at hp;simp[gp.cls]at hp
 ·rename_i er;rw[er]at hp;simp[gp.cls]at hp
 ·rename_i n1 n2 n3 n4 n5 n6 n7
  obtain⟨mr,hq,rfl⟩:=hv
  have Tj:mr=none:=by
   cases mr with
   |none=>rfl
   |some r=>have:=wi hq;simp[qE,hp]at this
  subst Tj
  refine⟨rfl,fun g0=>?_⟩
  unfold VS
  split
  ·rename_i hh;exact(n1 _ _ hh).elim
  ·rename_i hh;exact(n2 _ _ hh).elim
  ·rename_i hh;exact(n3 _ _ _ hh).elim
  ·rename_i hh;exact(n4 _ _ _ hh).elim
  ·rename_i hh;exact(n5 _ _ _ hh).elim
  ·rename_i hh;exact(n6 _ _ hh).elim
  ·rename_i hh;exact(n7 _ _ hh).elim
  ·exact⟨none,by rw[wj hp];exact hq,rfl⟩
def GS (X:fJ) (n:Nat) (vo:bB) (env:Env) (g:Rows) (v:AV) (g':Rows):Prop:=
 if aM vo.guard env then VS X n vo env g v g' else v=.undef/\g'=g
theorem Cg {hid:List Nat} {g:Rows} {s n:Nat} {mr:Option Row} (h:mr≠none->hid.contains s=true):fE hid n (jf g ⟨s,n⟩ mr)=fE hid n g:=by
 cases mr with
 |none=>rfl
 |some r=>
  have hc:=h (by simp)
  cases hid with
  |nil=>simp at hc
  |cons a l=>
   funext i
   show(if (a::l).contains i.site=true/\i.cq=n then none else jf g ⟨s,n⟩ (some r) i)=if (a::l).contains i.site=true/\i.cq=n then none else g i
   by_cases hi:i=⟨s,n⟩
   ·subst hi;rw[if_pos ⟨hc,rfl⟩,if_pos ⟨hc,rfl⟩]
   ·simp only[jf,bK,if_neg hi]
theorem Fo {g:Rows} {i j:Id} (h:i≠j) (m1 m2:Option Row):jf (jf g i m1) j m2=jf (jf g j m2) i m1:=by
 cases m1<;>cases m2<;>simp only[jf]
 funext k
 simp only[bK]
 by_cases h1:k=i
 ·subst h1;rw[if_neg h,if_pos rfl];simp
 ·by_cases h2:k=j
  ·subst h2;simp[h1]
  ·simp[h1,h2]
theorem wU {env:Env} {d e:Option Nat} {v u:AV} (h:∀k,d=some k->e≠some k):upd (upd env d v) e u=upd (upd env e u) d v:=by
 cases d with
 |none=>rfl
 |some d=>
  cases e with
  |none=>rfl
  |some e=>
   have gM:d≠e:=fun he=>h d rfl (by rw[he])
   funext t
   simp only[upd]
   by_cases h1:t=d
   ·subst h1;rw[if_neg gM,if_pos rfl,if_pos rfl]
   ·by_cases h2:t=e
    ·subst h2;rw[if_pos rfl,if_neg h1,if_pos rfl]
    ·simp[h1,h2]
theorem mj {env:Env} {d:Option Nat} {v:AV} {l:List Nat} (h:∀k,d=some k->k∉l):∀t∈l,upd env d v t=env t:=by
 intro t ht
 cases d with
 |none=>rfl
 |some d=>
  have:t≠d:=fun he=>h d rfl (he▸ht)
  simp[upd,this]
structure Cy (x y:bB):Prop where
 xy:∀k,x.dst=some k->k∉y.gw
 yx:∀k,y.dst=some k->k∉x.gw
 dst:∀k,x.dst=some k->y.dst≠some k
 cls:clash x.op.cls y.op.cls=false
 hx:x.makes=true->y.hid.contains x.site=true
 hy:y.makes=true->x.hid.contains y.site=true
 site:x.site≠y.site
theorem Cy.symm {x y:bB} (h:Cy x y):Cy y x:=
 ⟨h.yx,h.xy,fun k hk he=>h.dst k he hk,by have:=h.cls;revert this;cases x.op.cls<;>cases y.op.cls<;>simp[clash],h.hy,h.hx,fun e=>h.site e.symm⟩
theorem ql {x y:bB} (h:EC x y=true):Cy x y:=by
 unfold EC at h
 simp only[Bool.and_eq_true,Bool.not_eq_true',Bool.or_eq_true,bne_iff_ne]at h
 obtain⟨⟨⟨⟨h1,h2⟩,h3⟩,h4⟩,h5⟩:=h
 unfold ta at h1
 simp only[Bool.and_eq_true]at h1
 obtain⟨a1,a2⟩:=h1
 refine⟨fun k hk=>?_,fun k hk=>?_,fun k hk=>?_,h2,fun hm=>?_,fun hm=>?_,h5⟩
 ·rw[hk]at a1;simp at a1;exact a1.1
 ·rw[hk]at a2;simpa using a2
 ·rw[hk]at a1;simp at a1;exact a1.2
 ·rcases h3 with h3|h3
  ·rw[hm]at h3;cases h3
  ·exact h3
 ·rcases h4 with h4|h4
  ·rw[hm]at h4;cases h4
  ·exact h4
theorem rU {vo:bB} {t:Nat} (h:t∈vo.op.gw):t∈vo.gw:=List.mem_append_left _ h
theorem nk {vo:bB} {env iQ:Env} (h:∀t∈vo.gw,env t=iQ t):aM vo.guard env=aM vo.guard iQ:=by
 unfold aM
 cases hg:vo.guard with
 |none=>rfl
 |some p=>
  obtain⟨t,b⟩:=p
  have:env t=iQ t:=h t (List.mem_append_right _ (by rw[hg];simp))
  simp only[this]
theorem uJ {n:Nat} {vo:bB} {env iQ:Env} {g g':Rows} {v:AV} (h:∀t∈vo.gw,env t=iQ t) (hv:GS X n vo env g v g'):GS X n vo iQ g v g':=by
 unfold GS at hv ⊢
 rw[<-nk h]
 split at hv
 ·rename_i hw;rw[if_pos hw];exact Hm (fun t ht=>h t (rU ht)) hv
 ·rename_i hw;rw[if_neg hw];exact hv
theorem Ef {n:Nat} {x y:bB} {env:Env} {g g1 g2:Rows} {v v':AV} (F:Cy x y) (h1:GS X n x env g v g1) (h2:GS X n y (upd env x.dst v) g1 v' g2):
  ∃Kw,GS X n y env g v' Kw/\GS X n x (upd env y.dst v') Kw v g2/\upd (upd env x.dst v) y.dst v'=upd (upd env y.dst v') x.dst v:=by
 have Iw:=wU (env:=env) (v:=v) (u:=v') F.dst
 replace h2:GS X n y env g1 v' g2:=uJ (mj F.xy) h2
 have back:∀{Kw},GS X n x env Kw v g2->GS X n x (upd env y.dst v') Kw v g2:=fun h=>uJ (fun t ht=>(mj F.yx t ht).symm) h
 unfold GS at h1 h2
 by_cases wx:aM x.guard env=true
 ·rw[if_pos wx]at h1
  by_cases wy:aM y.guard env=true
  ·rw[if_pos wy]at h2
   by_cases cx:x.op.cls=.write
   ·have cy:y.op.cls=.pure:=by
     have:=F.cls;rw[cx]at this
     cases hc:y.op.cls<;>simp[clash,hc]at this ⊢
    obtain⟨rfl,ef⟩:=yV cy h2
    exact⟨g,by unfold GS;rw[if_pos wy];exact ef g,back (by unfold GS;rw[if_pos wx];exact h1),Iw⟩
   ·by_cases cy:y.op.cls=.write
    ·have cx':x.op.cls=.pure:=by
      have:=F.cls;rw[cy]at this
      cases hc:x.op.cls<;>simp[clash,hc]at this ⊢
     obtain⟨rfl,ef⟩:=yV cx' h1
     exact⟨g2,by unfold GS;rw[if_pos wy];exact h2,back (by unfold GS;rw[if_pos wx];exact ef g2),Iw⟩
    ·obtain⟨mx,rfl,kx,Sb⟩:=uP cx h1
     obtain⟨my,rfl,ky,MH⟩:=uP cy h2
     have gM:(⟨x.site,n⟩:Id)≠⟨y.site,n⟩:=fun e=>F.site (by injection e)
     refine⟨jf g ⟨y.site,n⟩ my,?_,back ?_,Iw⟩
     ·unfold GS;rw[if_pos wy]
      exact MH g (Cg fun h=>F.hx (kx h)).symm
     ·unfold GS;rw[if_pos wx,Fo gM]
      exact Sb _ (Cg fun h=>F.hy (ky h))
  ·rw[if_neg wy]at h2
   obtain⟨rfl,rfl⟩:=h2
   exact⟨g,by unfold GS;rw[if_neg wy];exact⟨rfl,rfl⟩,back (by unfold GS;rw[if_pos wx];exact h1),Iw⟩
 ·rw[if_neg wx]at h1
  obtain⟨rfl,rfl⟩:=h1
  exact⟨g2,h2,back (by unfold GS;rw[if_neg wx];exact⟨rfl,rfl⟩),Iw⟩
end
end Go.Proofs.YtgoelphibofcmaaGreat.V

namespace Go.Proofs.YtgoelphibofcmaaGreat.V
open Go.RowKit
variable {P:Program} {w w':World} {D D' D2:Nat->Prop} {ι ι' ι2:Names}
section
variable {hs:Nat} {X:fJ}
def jg (acc:Array Nat) (o:Oper):Nat:=o.after.foldl (fun s e=>if Region.binds .any e then s|||2 ^ e.on|||acc.getD e.on 0 else s) 0
theorem Kj (ops:Array Oper):jx ops=ops.foldl (fun acc o=>acc.push (jg acc o)) #[]:=rfl
theorem AG {acc:Array Nat} {o:Oper} {i:Nat} (h:(jg acc o).testBit i=true):∃e∈o.after,Region.binds .any e=true/\(e.on=i∨(acc.getD e.on 0).testBit i=true):=by
 unfold jg at h
 rw[<-Array.foldl_toList]at h
 have gen:∀(l:List Edge) (s:Nat),(l.foldl (fun s e=>if Region.binds .any e then s|||2 ^ e.on|||acc.getD e.on 0 else s) s).testBit i=true->s.testBit i=true∨∃e∈l,Region.binds .any e=true/\(e.on=i∨(acc.getD e.on 0).testBit i=true):=by
  intro l
  induction l with
  |nil=>intro s h;exact .inl h
  |cons e r ih=>
   intro s h
   rw[List.foldl_cons]at h
   rcases ih _ h with h|⟨e',KE,h'⟩
   ·by_cases hb:Region.binds .any e=true
    ·rw[if_pos hb]at h
     simp only[Nat.testBit_or,Bool.or_eq_true]at h
     rcases h with(h|h)|h
     ·exact .inl h
     ·refine .inr ⟨e,by simp,hb,.inl ?_⟩
      rw[Nat.testBit_two_pow]at h
      simpa using h
     ·exact .inr ⟨e,by simp,hb,.inr h⟩
    ·rw[if_neg hb]at h;exact .inl h
   ·exact .inr ⟨e',List.mem_cons_of_mem _ KE,h'⟩
 rcases gen _ _ h with h|⟨e,he,h⟩
 ·simp at h
 ·exact⟨e,Array.mem_toList_iff.1 he,h⟩
theorem Hw {ops:Array Oper} {j i:Nat} (h:((jx ops).getD j 0).testBit i=true):∃o,ops[j]? =some o/\∃e∈o.after,Region.binds .any e=true/\(e.on=i∨((jx ops).getD e.on 0).testBit i=true):=by
 have key:∀(l pre:List Oper) (acc:Array Nat),acc.size=pre.length->(∀j i,(acc.getD j 0).testBit i=true->∃o,pre[j]? =some o/\∃e∈o.after,Region.binds .any e=true/\(e.on=i∨(acc.getD e.on 0).testBit i=true))->
   ∀j i,((l.foldl (fun acc o=>acc.push (jg acc o)) acc).getD j 0).testBit i=true->∃o,(pre++l)[j]? =some o/\∃e∈o.after,Region.binds .any e=true/\(e.on=i∨((l.foldl (fun acc o=>acc.push (jg acc o)) acc).getD e.on 0).testBit i=true):=by
  intro l
  induction l with
  |nil=>intro pre acc _ h j i hb;simpa using h j i hb
  |cons o r ih=>
   intro pre acc fe h j i hb
   have BT:∀k,k<acc.size->(acc.push (jg acc o)).getD k 0=acc.getD k 0:=fun k hk=>by
    simp only[Array.getD_eq_getD_getElem?,Array.getElem?_push]
    rw[if_neg (by omega)]
   have big:∀k,acc.size<=k->acc.getD k 0=0:=fun k hk=>by simp[Array.getElem?_eq_none hk]
   have lift:∀k i,(acc.getD k 0).testBit i=true->((acc.push (jg acc o)).getD k 0).testBit i=true:=fun k i hk=>by
    by_cases eo:k<acc.size
    ·rw[BT k eo];exact hk
    ·rw[big k (by omega)]at hk;simp at hk
   have:=ih (pre++[o]) (acc.push (jg acc o)) (by simp[fe]) (fun j i hb=>by
    by_cases eo:j<acc.size
    ·rw[BT j eo]at hb
     obtain⟨o',EK,e,he,fS,h2⟩:=h j i hb
     refine⟨o',by rw[List.getElem?_append_left (by omega)];exact EK,e,he,fS,?_⟩
     rcases h2 with h2|h2
     ·exact .inl h2
     ·exact .inr (lift _ _ h2)
    ·by_cases hj:j=acc.size
     ·subst hj
      have e0:(acc.push (jg acc o)).getD acc.size 0=jg acc o:=by simp
      rw[e0]at hb
      obtain⟨e,he,fS,h2⟩:=AG hb
      refine⟨o,by rw[List.getElem?_append_right (by omega),fe];simp,e,he,fS,?_⟩
      rcases h2 with h2|h2
      ·exact .inl h2
      ·exact .inr (lift _ _ h2)
     ·have:(acc.push (jg acc o)).getD j 0=0:=by
       simp only[Array.getD_eq_getD_getElem?]
       rw[Array.getElem?_eq_none (by simp;omega)];rfl
      rw[this]at hb;simp at hb) j i (by simpa using hb)
   simpa using this
 rw[Kj,<-Array.foldl_toList]at h ⊢
 have:=key ops.toList [] #[] rfl (fun j i h=>by simp at h) j i h
 simpa using this
def DC (ops:Array Oper) (listed:Array Bool):Prop:=∀k i,listed.getD k false=true->((jx ops).getD k 0).testBit i=true->listed.getD i false=true
theorem kP {ops:Array Oper} {listed:Array Bool} (h:DC ops listed) {j:Nat} (hj:j∈Region.ready .any ops listed):∀i,((jx ops).getD j 0).testBit i=true->listed.getD i false=true:=by
 intro i hb
 obtain⟨_,o,ho,ef⟩:=mem_ready.1 hj
 obtain⟨o',EK,e,he,fS,h2⟩:=Hw hb
 rw[ho]at EK;injection EK with EK;subst EK
 have hl:=ef e he fS
 rcases h2 with h2|h2
 ·rw[<-h2];exact hl
 ·exact h _ _ hl h2
theorem DC.list {ops:Array Oper} {listed:Array Bool} (h:DC ops listed) {j:Nat} (hj:j∈Region.ready .any ops listed):DC ops (listed.setIfInBounds j true):=by
 intro k i hk hb
 by_cases hkj:k=j
 ·subst hkj;exact getD_set_true (kP h hj i hb)
 ·rw[getD_set_ne false (fun e=>hkj e.symm)]at hk
  exact getD_set_true (h k i hk hb)
theorem ja {ops:Array Oper} {listed:Array Bool} {j:Nat} (hj:j∈Region.ready .any ops listed):listed.getD j false=false:=by
 have h0:=(mem_ready.1 hj).1
 rcases Nat.lt_or_ge j listed.size with h|h
 ·simp[h]at h0 ⊢;exact h0
 ·simp[Array.getElem?_eq_none h]at h0
def JH (X:fJ) (n:Nat) (ops:Array Oper) (vl:List bB) (K:Env->Rows->Prop):Nat->Array Bool->Env->Rows->Prop
 |0,listed,env,g=>Region.ready .any ops listed=[]/\K env g
 |f+1,listed,env,g=>(Region.ready .any ops listed=[]->K env g)/\∀i∈Region.ready .any ops listed,∃vo,vl[i]? =some vo/\∃v g',GS X n vo env g v g'/\JH X n ops vl K f (listed.setIfInBounds i true) (upd env vo.dst v) g'
theorem AS {ops:Array Oper} {vl:List bB} (h:oy ops vl (jx ops)=true) {i j:Nat} {x y:bB} (hi:vl[i]? =some x) (hj:vl[j]? =some y) (JZ:i≠j) (h1:((jx ops).getD j 0).testBit i=false) (h2:((jx ops).getD i 0).testBit j=false):Cy x y:=by
 unfold oy at h
 simp only[Bool.and_eq_true,List.all_eq_true]at h
 obtain⟨_,h⟩:=h
 have mem:∀(k:Nat) (z:bB),vl[k]? =some z->(z,k)∈vl.zipIdx:=fun k z hk=>by
  rw[List.mem_iff_getElem?]
  exact⟨k,by simp[List.getElem?_zipIdx,hk]⟩
 rcases Nat.lt_or_gt_of_ne JZ with eo|KG
 ·have:=h _ (mem j y hj) _ (mem i x hi)
  simp only[eo,decide_true,Bool.not_true,Bool.false_or,h1]at this
  exact ql this
 ·have:=h _ (mem i x hi) _ (mem j y hj)
  simp only[KG,decide_true,Bool.not_true,Bool.false_or,h2]at this
  exact(ql this).symm
theorem Ec {n:Nat} {ops:Array Oper} {vl:List bB} {K:Env->Rows->Prop} (vN:oy ops vl (jx ops)=true) (hlen:vl.length=ops.size) {i:Nat} {vi:bB} (hi:vl[i]? =some vi) {v:AV}:∀(fuel:Nat) (listed:Array Bool) (env:Env) (g g1:Rows),
  DC ops listed->i∈Region.ready .any ops listed->GS X n vi env g v g1->JH X n ops vl K fuel (listed.setIfInBounds i true) (upd env vi.dst v) g1->JH X n ops vl K (fuel+1) listed env g:=by
 intro fuel
 induction fuel with
 |zero=>
  intro listed env g g1 _ hr hG H
  refine⟨fun h=>(by rw[h]at hr;cases hr),fun j hj=>?_⟩
  by_cases ml:j=i
  ·subst ml;exact⟨vi,hi,v,g1,hG,H⟩
  ·have:=ready_mono hj ml
   rw[H.1]at this;cases this
 |succ fuel ih=>
  intro listed env g g1 r9 hr hG H
  refine⟨fun h=>(by rw[h]at hr;cases hr),fun j hj=>?_⟩
  by_cases ml:j=i
  ·subst ml;exact⟨vi,hi,v,g1,hG,H⟩
  ·obtain⟨vj,KW,v',g2,hG2,H2⟩:=H.2 j (ready_mono hj ml)
   have b1:((jx ops).getD j 0).testBit i=false:=by
    cases hb:((jx ops).getD j 0).testBit i with
    |false=>rfl
    |true=>have:=kP r9 hj i hb;rw[ja hr]at this;cases this
   have b2:((jx ops).getD i 0).testBit j=false:=by
    cases hb:((jx ops).getD i 0).testBit j with
    |false=>rfl
    |true=>have:=kP r9 hr j hb;rw[ja hj]at this;cases this
   have F:=AS vN hi KW (fun e=>ml e.symm) b1 b2
   obtain⟨Kw,q1,q2,q3⟩:=Ef F hG hG2
   refine⟨vj,KW,v',Kw,q1,ih _ _ _ g2 (r9.list hj) (ready_mono hr (fun e=>ml e.symm)) q2 ?_⟩
   rw[<-q3,Array.setIfInBounds_comm _ _ ml]
   exact H2
theorem ME {n:Nat} {vo:bB} {env:Env} {g:Rows} {v:AV} {mr:Option Row} (h:eJ vo.op (da env) (fE vo.hid n g) ⟨vo.site,n⟩=some (v,mr)):VS X n vo env g v (jf g ⟨vo.site,n⟩ mr):=by
 unfold VS
 split
 ·rename_i er;rw[er]at h;simp[eJ]at h
 ·rename_i er;rw[er]at h;simp[eJ]at h
 ·rename_i er;rw[er]at h;simp[eJ]at h
 ·rename_i er;rw[er]at h;simp[eJ]at h
 ·rename_i er;rw[er]at h;simp[eJ]at h
 ·rename_i er;rw[er]at h;simp[eJ]at h
 ·rename_i er;rw[er]at h;simp[eJ]at h
 ·exact⟨mr,h,rfl⟩
theorem Hn {n:Nat} {vo:bB} {env:Env} {g g':Rows} {v:AV} (h:fF vo.op (da env) g ⟨vo.site,n⟩=some (v,g')):VS X n vo env g v g':=by
 unfold VS
 split
 ·rename_i er;rw[er]at h;simp[fF]at h
 ·rename_i er;rw[er]at h;simp[fF]at h
 ·exact h
 ·exact h
 ·exact h
 ·exact h
 ·exact h
 ·rename_i n1 n2 n3 n4 n5 n6 n7
  exfalso
  unfold fF at h
  split at h
  ·rename_i hh;exact n3 _ _ _ hh
  ·rename_i hh;exact n4 _ _ _ hh
  ·rename_i hh;exact n5 _ _ _ hh
  ·rename_i hh;exact n6 _ _ hh
  ·rename_i hh;exact n7 _ _ hh
  ·simp at h
theorem Oh {vo:bB} {env:Env} {σ:aw} {next:AV->aw->Prop} (hv:fj X true vo env σ next):∃v g',VS X σ.next vo env σ.get v g'/\next v ⟨g',σ.next⟩:=by
 unfold fj at hv
 split at hv
 ·rename_i f args er
  rcases hv with⟨r,hP,hn⟩|⟨h,_⟩|⟨hs,sz,rows,hM,hn⟩
  ·exact⟨r,σ.get,by unfold VS;rw[er];exact .inl ⟨hP,rfl⟩,hn⟩
  ·cases h
  ·exact⟨_,_,by unfold VS;rw[er];exact .inr ⟨hs,sz,rows,hM,rfl,rfl⟩,hn⟩
 ·rename_i x args er
  split at hv
  ·rename_i f de hx
   have xc:uU (da env x) (args.map (da env))=some (f,args.map (da env)++de):=by rw[hx];rfl
   rcases hv with⟨r,hP,hn⟩|⟨h,_⟩|⟨hs,sz,rows,hM,hn⟩
   ·exact⟨r,σ.get,by unfold VS;rw[er];exact⟨f,_,xc,.inl ⟨hP,rfl⟩⟩,hn⟩
   ·cases h
   ·exact⟨_,_,by unfold VS;rw[er];exact⟨f,_,xc,.inr ⟨hs,sz,rows,hM,rfl,rfl⟩⟩,hn⟩
  ·rename_i f de hx
   have xc:uU (da env x) (args.map (da env))=some (f,de++args.map (da env)):=by rw[hx];rfl
   rcases hv with⟨r,hP,hn⟩|⟨h,_⟩|⟨hs,sz,rows,hM,hn⟩
   ·exact⟨r,σ.get,by unfold VS;rw[er];exact⟨f,_,xc,.inl ⟨hP,rfl⟩⟩,hn⟩
   ·cases h
   ·exact⟨_,_,by unfold VS;rw[er];exact⟨f,_,xc,.inr ⟨hs,sz,rows,hM,rfl,rfl⟩⟩,hn⟩
  ·exact hv.elim
 ·split at hv
  ·rename_i v g h;exact⟨v,g,Hn h,hv⟩
  ·exact hv.elim
 ·split at hv
  ·rename_i v g h;exact⟨v,g,Hn h,hv⟩
  ·exact hv.elim
 ·split at hv
  ·rename_i v g h;exact⟨v,g,Hn h,hv⟩
  ·exact hv.elim
 ·split at hv
  ·rename_i v g h;exact⟨v,g,Hn h,hv⟩
  ·exact hv.elim
 ·split at hv
  ·rename_i v g h;exact⟨v,g,Hn h,hv⟩
  ·exact hv.elim
 ·split at hv
  ·rename_i v r h;exact⟨v,_,ME h,hv⟩
  ·rename_i v h;exact⟨v,_,ME h,hv⟩
  ·exact hv.elim
theorem wV {ops:Array Oper} {vl:List bB} {K:Env->aw->Prop} {n:Nat} (vN:oy ops vl (jx ops)=true) (hlen:vl.length=ops.size):∀(r:List bB) (k:Nat) (listed:Array Bool) (env:Env) (g:Rows),
  (∀j,r[j]? =vl[k+j]?)->listed.size=ops.size->(∀i,i<ops.size->listed[i]? =some (decide (i<k)))->k+r.length=ops.size->DC ops listed->wpOps X true r K env ⟨g,n⟩->JH X n ops vl (fun env g=>K env ⟨g,n+1⟩) r.length listed env g
 |[],k,listed,env,g,_,fe,hl,hk,_,hv=>by
  refine⟨?_,hv⟩
  rw[List.eq_nil_iff_forall_not_mem]
  intro j hj
  obtain⟨h0,o,ho,_⟩:=mem_ready.1 hj
  have eo:j<ops.size:=(Array.getElem?_eq_some_iff.1 ho).1
  have:=hl j eo
  simp at hk
  simp[this,show j<k by omega]at h0
 |vo::r,k,listed,env,g,hr,fe,hl,hk,r9,hv=>by
  simp only[List.length_cons]at hk
  have pM:vl[k]? =some vo:=by simpa using(hr 0).symm
  have lO:k<ops.size:=by omega
  have Ir:k∈Region.ready .any ops listed:=by
   rw[mem_ready]
   refine⟨by simp[hl k lO],ops[k],Array.getElem?_eq_getElem lO,fun e he hb=>?_⟩
   unfold oy Eu at vN
   simp only[Bool.and_eq_true,List.all_eq_true]at vN
   have hm:(ops[k],k)∈ops.toList.zipIdx:=by
    rw[List.mem_iff_getElem?]
    exact⟨k,by simp[List.getElem?_zipIdx,lO]⟩
   have:=vN.1 _ hm
   rw[Array.all_eq_true_iff_forall_mem]at this
   have:=this e he
   simp only[hb,Bool.not_true,Bool.false_or,decide_eq_true_eq]at this
   simp[hl e.on (by omega),this]
  have hGS:∃v g',GS X n vo env g v g'/\wpOps X true r K (upd env vo.dst v) ⟨g',n⟩:=by
   unfold wpOps at hv
   unfold GS
   split at hv
   ·rename_i hw
    simp only[hw,if_true]
    exact Oh hv
   ·rename_i hw
    simp only[hw]
    exact⟨.undef,g,⟨rfl,rfl⟩,hv⟩
  obtain⟨v,g',h1,h2⟩:=hGS
  refine Ec vN hlen pM r.length listed env g g' r9 Ir h1 ?_
  refine wV vN hlen r (k+1) _ _ _ (fun j=>by have:=hr (j+1);simpa[Nat.add_assoc,Nat.add_comm 1 j]using this) (by simp[fe]) (fun i hi=>?_) (by omega) (r9.list Ir) h2
  by_cases uw:i=k
  ·subst uw;simp[fe,lO]
  ·rw[Array.getElem?_setIfInBounds_ne (fun e=>uw e.symm),hl i hi]
   congr 1
   have:(i<k)=(i<k+1):=by apply propext;omega
   simp[this]
theorem oq {f:Nat->Oper->Option bB}:∀{l:List Oper} {vl:List bB} {j:Nat},allM f l j=some vl->vl.length=l.length/\∀(i:Nat) (o:Oper),l[i]? =some o->∃vo,vl[i]? =some vo/\f (j+i) o=some vo
 |[],vl,j,h=>by simp[allM]at h;subst h;simp
 |o::l,vl,j,h=>by
  simp only[allM,Option.bind_eq_bind,Option.bind_eq_some_iff,Option.pure_def,Option.some.injEq]at h
  obtain⟨vo,pM,tb,nQ,rfl⟩:=h
  obtain⟨h1,h2⟩:=oq nQ
  refine⟨by simp[h1],fun i o' hi=>?_⟩
  cases i with
  |zero=>simp at hi;subst hi;exact⟨vo,rfl,pM⟩
  |succ i=>
   simp at hi
   obtain⟨q,hq,hf⟩:=h2 i o' hi
   exact⟨q,by simpa using hq,by rw[<-hf];congr 1;omega⟩
theorem xN {ops:Array Oper} {vl:List bB} {nt site0:Nat} {draw mk:Bool} {bs:Array Nat} {hidden:List (Nat×Bool)} {n:Nat} {K:Env->Rows->Prop} {Q:Exit->Act->World->Prop} (ef:allM (l5 P ops nt site0 draw mk bs hidden) ops.toList 0=some vl):
  ∀(fuel:Nat) (listed:Array Bool) (env:Env) (g:Rows) (a:Act) (w:World) (D:Nat->Prop) (ι:Names) (U:Nat->Prop),JH (Sound P) n ops vl K fuel listed env g->gi P hs D ι g w->Used ι n U->(∀s,U s->∃i,s=site0+i/\listed.getD i false=true)->cC P w D ι env a->a.tmps.size=nt->
  (∀iA g' a' w' D' ι' U',K iA g'->Step hs D ι w D' ι' w'->gi P hs D' ι' g' w'->Used ι' n U'->cC P w' D' ι' iA a'->a'.tmps.size=nt->a'.defers=a.defers->Q .normal a' w')->wpAny P .any ops Q fuel listed a w:=by
 intro fuel
 induction fuel with
 |zero=>intro listed env g a w D ι U h S Us hU E fe hQ;exact⟨h.1,hQ env g a w D ι U h.2 (Step.refl _ _ _ _) S Us E fe rfl⟩
 |succ fuel ih=>
  intro listed env g a w D ι U h S Us hU E fe hQ
  refine⟨fun hr=>hQ env g a w D ι U (h.1 hr) (Step.refl _ _ _ _) S Us E fe rfl,fun i hi=>?_⟩
  obtain⟨vo,pM,v,g',hG,Mh⟩:=h.2 i hi
  obtain⟨_,o,ho,_⟩:=mem_ready.1 hi
  obtain⟨vo',l9,PR⟩:=(oq ef).2 i o (by simpa using ho)
  rw[pM]at l9;injection l9 with l9;subst l9
  rw[Nat.zero_add]at PR
  obtain⟨hc,hd,Bm,xq,hg⟩:=pb PR
  have hw:=td (ops:=ops) (vo:=vo) E hg
  have SK:¬U vo.site:=fun hu=>by
   obtain⟨i',he,hl⟩:=hU _ hu
   have:i'=i:=by omega
   subst this
   rw[ja hi]at hl;cases hl
  have jz:i<listed.size:=by
   have h0:=(mem_ready.1 hi).1
   rcases Nat.lt_or_ge i listed.size with h|h
   ·exact h
   ·simp[Array.getElem?_eq_none h]at h0
  unfold wpOp
  simp only[ho]
  rw[<-hw]
  unfold GS at hG
  by_cases FY:aM vo.guard env=true
  ·rw[if_pos FY]
   rw[if_pos FY]at hG
   refine .inl (AA hc hG S Us SK E fun a' w' ⟨u,D',ι',ha,T,S',hR,U'⟩=>?_)
   subst ha
   refine ih _ _ _ _ w' D' ι' _ Mh S' U' (fun s Bj=>?_) (by rw[hd];exact mH (oz E T) hR xq fe) (by rw[kN];exact fe) fun iA g2 a2 w2 D2 ι2 U2 hk T2 S2 Sa E2 lP C7=>hQ iA g2 a2 w2 D2 ι2 U2 hk (T.trans T2) S2 Sa E2 lP (C7.trans (put_defers _ _ _))
   rcases Bj with h|h
   ·obtain⟨i',he,hl⟩:=hU _ h
    exact⟨i',he,getD_set_true hl⟩
   ·exact⟨i,by rw[h,Bm],by simp[jz]⟩
  ·rw[if_neg FY]
   rw[if_neg FY]at hG
   obtain⟨rfl,rfl⟩:=hG
   refine ih _ _ _ _ w D ι U Mh S Us (fun s Bj=>?_) (by rw[hd];exact mH E dj.undef xq fe) (by rw[kN];exact fe) fun iA g2 a2 w2 D2 ι2 U2 hk T2 S2 Sa E2 lP C7=>hQ iA g2 a2 w2 D2 ι2 U2 hk T2 S2 Sa E2 lP (C7.trans (put_defers _ _ _))
   obtain⟨i',he,hl⟩:=hU _ Bj
   exact⟨i',he,getD_set_true hl⟩
end
end Go.Proofs.YtgoelphibofcmaaGreat.V

namespace Go.Proofs.YtgoelphibofcmaaGreat.V
open Go.RowKit
variable {P:Program} {w w':World} {D D' D2:Nat->Prop} {ι ι' ι2:Names}
section
variable {hs:Nat} {X:fJ}
def pP (X:fJ):Prop:=∀f args σ K K',(∀r σ',K r σ'->K' r σ')->X f args σ K->X f args σ K'
theorem p7:pP (Sound P):=fun _ _ _ _ _ hK h hs D ι w vs S U A=>
 (h hs D ι w vs S U A).mono fun _ _ ⟨r,g',n',D',ι',u,he,hk,rest⟩=>⟨r,g',n',D',ι',u,he,hK _ _ hk,rest⟩
def step (X:fJ) (vo:bB) (N:Env->aw->Prop) (env:Env) (σ:aw):Prop:=
 if aM vo.guard env then fj X false vo env σ fun v σ'=>N (upd env vo.dst v) σ' else N (upd env vo.dst .undef) σ
theorem qe (hK:pP X) {draw:Bool} {hid:List Nat} {site f:Nat} {args:List AV} {σ:aw} {n n':AV->aw->Prop} (hn:∀v σ',n v σ'->n' v σ') (hp:cF X draw hid site f args σ n):cF X draw hid site f args σ n':=by
 rcases hp with⟨r,h1,h2⟩|⟨h1,h2⟩|⟨h1,sz,rows,h2,h3⟩
 ·exact .inl ⟨r,h1,hn _ _ h2⟩
 ·exact .inr (.inl ⟨h1,hK _ _ _ _ _ hn h2⟩)
 ·exact .inr (.inr ⟨h1,sz,rows,h2,hn _ _ h3⟩)
theorem Ch (hK:pP X) {draw:Bool} {o:bB} {env:Env} {σ:aw} {n n':AV->aw->Prop} (hn:∀v σ',n v σ'->n' v σ') (hp:fj X draw o env σ n):fj X draw o env σ n':=by
 unfold fj at hp ⊢
 split at hp
 ·exact qe hK hn hp
 ·split at hp
  ·exact qe hK hn hp
  ·exact qe hK hn hp
  ·exact hp.elim
 ·split at hp
  ·exact hn _ _ hp
  ·exact hp.elim
 ·split at hp
  ·exact hn _ _ hp
  ·exact hp.elim
 ·split at hp
  ·exact hn _ _ hp
  ·exact hp.elim
 ·split at hp
  ·exact hn _ _ hp
  ·exact hp.elim
 ·split at hp
  ·exact hn _ _ hp
  ·exact hp.elim
 ·split at hp
  ·exact hn _ _ hp
  ·exact hn _ _ hp
  ·exact hp.elim
theorem jO (hK:pP X) {vo:bB} {N N':Env->aw->Prop} (h:∀e s,N e s->N' e s) {env:Env} {σ:aw} (hp:step X vo N env σ):step X vo N' env σ:=by
 unfold step at hp ⊢
 split at hp
 ·rename_i hw;rw[if_pos hw];exact Ch hK (fun v σ'=>h _ _) hp
 ·rename_i hw;rw[if_neg hw];exact h _ _ hp
theorem GU {env iQ:Env} {vo:bB} {σ:aw} {n:AV->aw->Prop} (h:∀t∈vo.op.gw,env t=iQ t) (hv:fj X false vo env σ n):fj X false vo iQ σ n:=by
 unfold fj at hv ⊢
 split at hv
 ·rename_i f args er
  rw[er]at h
  simp only[gp.gw]at h
  rw[<-map_congr h];exact hv
 ·rename_i x args er
  rw[er]at h
  simp only[gp.gw,List.mem_append]at h
  rw[<-map_congr (l:=args) fun t ht=>h t (.inr ht),<-bp (x:=x) fun t ht=>h t (.inl ht)];exact hv
 ·rw[<-gR h];exact hv
 ·rw[<-gR h];exact hv
 ·rw[<-gR h];exact hv
 ·rw[<-gR h];exact hv
 ·rw[<-gR h];exact hv
 ·rw[<-sY h];exact hv
theorem lz {x:bB} (hq:kO x=true) {N:Env->aw->Prop} {env:Env} {σ:aw}:step X x N env σ↔∃v g',GS X σ.next x env σ.get v g'/\N (upd env x.dst v) ⟨g',σ.next⟩:=by
 unfold kO at hq
 simp only[Bool.and_eq_true,Bool.not_eq_true',bne_iff_ne]at hq
 obtain⟨EM,qu⟩:=hq
 unfold step GS
 by_cases hw:aM x.guard env=true
 ·rw[if_pos hw]
  simp only[hw,if_true]
  unfold fj
  split
  ·rename_i er;simp[er,gp.lG]at EM
  ·rename_i er;simp[er,gp.lG]at EM
  ·rename_i er;simp[er,gp.cls]at qu
  ·rename_i er;simp[er,gp.cls]at qu
  ·rename_i er;simp[er,gp.cls]at qu
  ·rename_i er;simp[er,gp.cls]at qu
  ·rename_i er;simp[er,gp.cls]at qu
  ·rename_i n1 n2 n3 n4 n5 n6 n7
   have hVS:∀v g',VS X σ.next x env σ.get v g'↔∃mr,eJ x.op (da env) (fE x.hid σ.next σ.get) ⟨x.site,σ.next⟩=some (v,mr)/\g'=jf σ.get ⟨x.site,σ.next⟩ mr:=fun v g'=>by
    unfold VS
    split
    ·rename_i hh;exact(n1 _ _ hh).elim
    ·rename_i hh;exact(n2 _ _ hh).elim
    ·rename_i hh;exact(n3 _ _ _ hh).elim
    ·rename_i hh;exact(n4 _ _ _ hh).elim
    ·rename_i hh;exact(n5 _ _ _ hh).elim
    ·rename_i hh;exact(n6 _ _ hh).elim
    ·rename_i hh;exact(n7 _ _ hh).elim
    ·exact Iff.rfl
   simp only[hVS]
   cases hz:eJ x.op (da env) (fE x.hid σ.next σ.get) ⟨x.site,σ.next⟩with
   |none=>
    exact⟨fun h=>h.elim,fun⟨v,g',⟨mr,h,_⟩,_⟩=>by cases h⟩
   |some p=>
    obtain⟨v,mr⟩:=p
    have key:∀(v':AV) (g':Rows),(∃Pb,some (v,mr)=some (v',Pb)/\g'=jf σ.get ⟨x.site,σ.next⟩ Pb)↔v'=v/\g'=jf σ.get ⟨x.site,σ.next⟩ mr:=fun v' g'=>by
     constructor
     ·rintro⟨Pb,h1,h2⟩
      injection h1 with h1;injection h1 with h1 h3
      subst h1;subst h3
      exact⟨rfl,h2⟩
     ·rintro⟨rfl,rfl⟩;exact⟨mr,rfl,rfl⟩
    have fin:(∃v' g',(∃Pb,some (v,mr)=some (v',Pb)/\g'=jf σ.get ⟨x.site,σ.next⟩ Pb)/\N (upd env x.dst v') ⟨g',σ.next⟩)↔N (upd env x.dst v) ⟨jf σ.get ⟨x.site,σ.next⟩ mr,σ.next⟩:=by
     constructor
     ·rintro⟨v',g',h,hN⟩
      obtain⟨rfl,rfl⟩:=(key v' g').1 h
      exact hN
     ·intro hN;exact⟨v,_,(key _ _).2 ⟨rfl,rfl⟩,hN⟩
    cases mr with
    |none=>exact fin.symm
    |some r=>exact fin.symm
 ·rw[if_neg hw]
  simp only[if_neg hw]
  exact⟨fun h=>⟨_,_,⟨rfl,rfl⟩,h⟩,fun⟨v,g',⟨hv,hg⟩,h⟩=>by rw[hv,hg]at h;exact h⟩
def xv (x:bB) (env:Env) (v:AV):Prop:=if aM x.guard env then eJ x.op (da env) (fun _=>none) ⟨0,0⟩=some (v,none)else v=.undef
theorem wh {x:bB} (hp:x.op.cls=.pure):kO x=true:=by
 unfold kO
 rw[hp]
 cases hc:x.op<;>simp[hc,gp.cls]at hp<;>rfl
theorem s6 {x:bB} (hp:x.op.cls=.pure) {N:Env->aw->Prop} {env:Env} {σ:aw}:step X x N env σ↔∃v,xv x env v/\N (upd env x.dst v) σ:=by
 rw[lz (wh hp)]
 unfold GS xv
 by_cases hw:aM x.guard env=true
 ·simp only[hw,if_true]
  constructor
  ·rintro⟨v,g',h,hN⟩
   obtain⟨rfl,ef⟩:=yV hp h
   refine⟨v,?_,hN⟩
   unfold VS at h
   split at h
   ·rename_i er;rw[er]at hp;simp[gp.cls]at hp
   ·rename_i er;rw[er]at hp;simp[gp.cls]at hp
   ·rename_i er;rw[er]at hp;simp[gp.cls]at hp
   ·rename_i er;rw[er]at hp;simp[gp.cls]at hp
   ·rename_i er;rw[er]at hp;simp[gp.cls]at hp
   ·rename_i er;rw[er]at hp;simp[gp.cls]at hp
   ·rename_i er;rw[er]at hp;simp[gp.cls]at hp
   ·obtain⟨mr,hq,_⟩:=h
    have Tj:mr=none:=by
     cases mr with
     |none=>rfl
     |some r=>have:=wi hq;simp[qE,hp]at this
    subst Tj
    rw[<-wj (g:=fE x.hid σ.next σ.get) (id:=⟨x.site,σ.next⟩) hp];exact hq
  ·rintro⟨v,h,hN⟩
   exact⟨v,σ.get,ME (mr:=none) (by rw[wj (g2:=fun _=>none) (id2:=⟨0,0⟩) hp];exact h),hN⟩
 ·simp only[if_neg hw]
  exact⟨fun⟨v,g',⟨hv,hg⟩,h⟩=>⟨v,hv,by rw[hg]at h;exact h⟩,fun⟨v,hv,h⟩=>⟨v,σ.get,⟨hv,rfl⟩,h⟩⟩
theorem JN {x:bB} {env iQ:Env} {v:AV} (h:∀t∈x.gw,env t=iQ t) (hv:xv x env v):xv x iQ v:=by
 unfold xv at hv ⊢
 rw[<-nk h,<-sY fun t ht=>h t (rU ht)];exact hv
structure LU (x y:bB):Prop where
 xy:∀k,x.dst=some k->k∉y.gw
 yx:∀k,y.dst=some k->k∉x.gw
 dst:∀k,x.dst=some k->y.dst≠some k
theorem r6 {x y:bB} (h:ta x y=true):LU x y:=by
 unfold ta at h
 simp only[Bool.and_eq_true]at h
 obtain⟨a1,a2⟩:=h
 refine⟨fun k hk=>?_,fun k hk=>?_,fun k hk=>?_⟩
 ·rw[hk]at a1;simp at a1;exact a1.1
 ·rw[hk]at a2;simpa using a2
 ·rw[hk]at a1;simp at a1;exact a1.2
theorem ya {x y:bB} (h:x9 x y=true):(LU x y/\x.op.cls=.pure)∨(Cy x y/\kO x=true/\kO y=true):=by
 unfold x9 at h
 simp only[Bool.or_eq_true,Bool.and_eq_true,beq_iff_eq]at h
 rcases h with⟨h1,h2⟩|⟨⟨h1,h2⟩,h3⟩
 ·exact .inl ⟨r6 h1,h2⟩
 ·exact .inr ⟨ql h1,h2,h3⟩
theorem A5 {x y:bB} (h:x9 x y=true):kO x=true:=by
 rcases ya h with h|h
 ·exact wh h.2
 ·exact h.2.1
theorem GC (hK:pP X) {x y:bB} (hf:x9 x y=true) {N:Env->aw->Prop} {env:Env} {σ:aw} (h:step X x (fun e s=>step X y N e s) env σ):step X y (fun e s=>step X x N e s) env σ:=by
 rcases ya hf with⟨F,hp⟩|⟨F,hx,hy⟩
 ·rw[s6 hp]at h
  obtain⟨v,hx,h⟩:=h
  have Iw:=fun(v':AV)=>wU (env:=env) (v:=v) (u:=v') F.dst
  have Df:=mj (env:=env) (v:=v) F.xy
  have back:∀(v':AV),xv x (upd env y.dst v') v:=fun v'=>JN (fun t ht=>(mj F.yx t ht).symm) hx
  unfold step at h ⊢
  rw[nk Df]at h
  split at h
  ·rename_i hw
   rw[if_pos hw]
   refine Ch hK (fun v' σ' hN=>?_) (GU (fun t ht=>Df t (rU ht)) h)
   rw[Iw]at hN
   exact(s6 hp).2 ⟨v,back v',hN⟩
  ·rename_i hw
   rw[if_neg hw]
   rw[Iw]at h
   exact(s6 hp).2 ⟨v,back _,h⟩
 ·rw[lz hx]at h
  obtain⟨v,g1,h1,h⟩:=h
  rw[lz hy]at h
  obtain⟨v',g2,h2,h⟩:=h
  obtain⟨Kw,q1,q2,q3⟩:=Ef F h1 h2
  rw[q3]at h
  exact(lz hy).2 ⟨v',Kw,q1,(lz hx).2 ⟨v,g2,q2,h⟩⟩
def Ab (X:fJ) (ops:Array Oper) (vl:List bB) (K:Env->aw->Prop):Nat->Array Bool->Env->aw->Prop
 |0,listed,env,σ=>Region.ready .any ops listed=[]/\K env ⟨σ.get,σ.next+1⟩
 |f+1,listed,env,σ=>(Region.ready .any ops listed=[]->K env ⟨σ.get,σ.next+1⟩)/\∀i∈Region.ready .any ops listed,∃vo,vl[i]? =some vo/\step X vo (fun e s=>Ab X ops vl K f (listed.setIfInBounds i true) e s) env σ
theorem CX {ops:Array Oper} {vl:List bB} {bs:Array Nat} {listed:Array Bool} {i:Nat} (h:qk ops vl bs listed i=true) (j:Nat):qk ops vl bs (listed.setIfInBounds j true) i=true:=by
 unfold qk at h ⊢
 split at h
 ·rename_i x hx
  simp only[List.all_eq_true,Bool.or_eq_true]at h ⊢
  intro k hk
  rcases h k hk with((h|h)|h)|h
  ·exact .inl (.inl (.inl (getD_set_true h)))
  ·exact .inl (.inl (.inr h))
  ·exact .inl (.inr h)
  ·exact .inr h
 ·cases h
theorem tk {ops:Array Oper} {vl:List bB} {listed:Array Bool} {i j:Nat} {vi:bB} (r9:DC ops listed) (h:qk ops vl (jx ops) listed i=true) (hi:vl[i]? =some vi) (hr:i∈Region.ready .any ops listed) (hj:j∈Region.ready .any ops listed) (ml:j≠i):∃vj,vl[j]? =some vj/\x9 vi vj=true:=by
 unfold qk at h
 rw[hi]at h
 simp only[List.all_eq_true,Bool.or_eq_true,beq_iff_eq]at h
 obtain⟨_,o,ho,_⟩:=mem_ready.1 hj
 rcases h j (List.mem_range.2 (Array.getElem?_eq_some_iff.1 ho).1)with((h|h)|h)|h
 ·rw[ja hj]at h;cases h
 ·exact absurd h ml
 ·have:=kP r9 hj i h
  rw[ja hr]at this;cases this
 ·split at h
  ·rename_i y hy;exact⟨y,hy,h⟩
  ·cases h
theorem Ee (hK:pP X) {ops:Array Oper} {vl:List bB} {K:Env->aw->Prop} {i:Nat} {vi:bB} (hi:vl[i]? =some vi):∀(fuel:Nat) (listed:Array Bool) (env:Env) (σ:aw),
  DC ops listed->i∈Region.ready .any ops listed->qk ops vl (jx ops) listed i=true->step X vi (fun e s=>Ab X ops vl K fuel (listed.setIfInBounds i true) e s) env σ->Ab X ops vl K (fuel+1) listed env σ:=by
 intro fuel
 induction fuel with
 |zero=>
  intro listed env σ r9 hr ik H
  refine⟨fun h=>(by rw[h]at hr;cases hr),fun j hj=>?_⟩
  by_cases ml:j=i
  ·subst ml;exact⟨vi,hi,H⟩
  ·obtain⟨vj,KW,PY⟩:=tk r9 ik hi hr hj ml
   rw[lz (A5 PY)]at H
   obtain⟨v,g',_,H⟩:=H
   have:=ready_mono hj ml
   rw[H.1]at this;cases this
 |succ fuel ih=>
  intro listed env σ r9 hr ik H
  refine⟨fun h=>(by rw[h]at hr;cases hr),fun j hj=>?_⟩
  by_cases ml:j=i
  ·subst ml;exact⟨vi,hi,H⟩
  ·obtain⟨vj,KW,PY⟩:=tk r9 ik hi hr hj ml
   refine⟨vj,KW,?_⟩
   have H2:step X vi (fun e s=>step X vj (fun e s=>Ab X ops vl K fuel ((listed.setIfInBounds i true).setIfInBounds j true) e s) e s) env σ:=jO hK (fun e s h=>by
    obtain⟨vj',zu,h'⟩:=h.2 j (ready_mono hj ml)
    rw[KW]at zu;injection zu with zu;subst zu
    exact h') H
   refine jO hK (fun e s h=>?_) (GC hK PY H2)
   refine ih _ _ _ (r9.list hj) (ready_mono hr (fun e=>ml e.symm)) (CX ik j) ?_
   rw[Array.setIfInBounds_comm _ _ ml]
   exact h
theorem s5 {x:bB} (hg:x.guard=none) {N:Env->aw->Prop} {env:Env} {σ:aw}:step X x N env σ=fj X false x env σ (fun v σ'=>N (upd env x.dst v) σ'):=by
 unfold step
 rw[hg]
 simp[aM]
theorem DU {x y:bB} {t s sz:Nat} {ys:O} (hx:x.op=.append sz (.t t) ys) (hg:x.guard=none) (hf:EB s x y=true) {N:Env->aw->Prop} {env:Env} {σ:aw} (hl:K8 t s ys env σ.next) (h:step X x (fun e s=>step X y N e s) env σ):
  step X y (fun e σ'=>K8 t s ys e σ'.next/\step X x N e σ') env σ:=by
 unfold EB at hf
 simp only[Bool.and_eq_true,bne_iff_ne]at hf
 obtain⟨⟨⟨⟨⟨f1,hq⟩,f3⟩,f4⟩,f5⟩,f6⟩:=hf
 have F:=r6 f1
 obtain⟨⟨len,ht⟩,FW⟩:=hl
 have It:∀k∈x.op.gw,∀v',upd env y.dst v' k=env k:=fun k hk v'=>mj (env:=env) (v:=v') F.yx k (rU hk)
 have eC:t∈x.op.gw:=by rw[hx];simp[gp.gw,gK]
 have ES:∀v',da (upd env y.dst v') ys=da env ys:=fun v'=>(bp fun k hk=>by rw[It k (by rw[hx];simp[gp.gw,hk])]).symm
 rw[s5 hg]at h
 unfold fj at h
 simp only[hx,fF]at h
 have ex:da env (.t t)=.own ⟨s,σ.next⟩ 0 len:=ht
 rw[ex]at h
 cases hr:bm σ.get (da env ys)with
 |none=>rw[hr]at h;exact h.elim
 |some rs=>
  rw[hr]at h
  simp only[Option.bind_some,aY]at h
  cases KF:σ.get ⟨s,σ.next⟩with
  |none=>rw[KF]at h;exact h.elim
  |some r=>
   rw[KF]at h
   simp only[Option.bind_some]at h
   split at h
   ·rename_i v g1 hv
    split at hv
    ·rename_i hcond
     simp only[Option.some.injEq,Prod.mk.injEq]at hv
     obtain⟨rfl,rfl⟩:=hv
     rw[lz hq]at h
     obtain⟨v',g2,hG,hN⟩:=h
     have KN:(⟨y.site,σ.next⟩:Id)≠⟨s,σ.next⟩:=fun e=>f5 (by injection e)
     have Il:(⟨y.site,σ.next⟩:Id)≠⟨x.site,σ.next⟩:=fun e=>f6 (by injection e)
     replace hG:GS X σ.next y env (bK (bV σ.get ⟨s,σ.next⟩) ⟨x.site,σ.next⟩ ⟨true,sz,r.rows++rs⟩) v' g2:=uJ (mj F.xy) hG
     have TI:fE y.hid σ.next σ.get=fE y.hid σ.next (bK (bV σ.get ⟨s,σ.next⟩) ⟨x.site,σ.next⟩ ⟨true,sz,r.rows++rs⟩):=by
      cases hh:y.hid with
      |nil=>rw[hh]at f3;simp at f3
      |cons a l=>
       rw[hh]at f3 f4
       funext i
       show(if (a::l).contains i.site=true/\i.cq=σ.next then none else σ.get i)=if (a::l).contains i.site=true/\i.cq=σ.next then none else _
       by_cases h1:i=⟨x.site,σ.next⟩
       ·subst h1;rw[if_pos ⟨f4,rfl⟩,if_pos ⟨f4,rfl⟩]
       ·by_cases h2:i=⟨s,σ.next⟩
        ·subst h2;rw[if_pos ⟨f3,rfl⟩,if_pos ⟨f3,rfl⟩]
        ·simp only[bK,bV,if_neg h1,if_neg h2]
     obtain⟨my,P0,hG'⟩:∃my,g2=jf (bK (bV σ.get ⟨s,σ.next⟩) ⟨x.site,σ.next⟩ ⟨true,sz,r.rows++rs⟩) ⟨y.site,σ.next⟩ my/\GS X σ.next y env σ.get v' (jf σ.get ⟨y.site,σ.next⟩ my):=by
      unfold GS at hG ⊢
      by_cases wy:aM y.guard env=true
      ·rw[if_pos wy]at hG
       have hcw:y.op.cls≠.write:=by
        unfold kO at hq
        simp only[Bool.and_eq_true,bne_iff_ne]at hq
        exact hq.2
       obtain⟨my,rfl,_,MH⟩:=uP hcw hG
       exact⟨my,rfl,by rw[if_pos wy];exact MH _ TI⟩
      ·rw[if_neg wy]at hG
       obtain⟨rfl,rfl⟩:=hG
       exact⟨none,rfl,by rw[if_neg wy];exact⟨rfl,rfl⟩⟩
     subst P0
     refine(lz hq).2 ⟨v',_,hG',⟨⟨len,by rw[It t eC];exact ht⟩,fun id o l he=>FW id o l (by rw[<-ES v'];exact he)⟩,?_⟩
     rw[s5 hg]
     unfold fj
     have ex':da (upd env y.dst v') (.t t)=.own ⟨s,σ.next⟩ 0 len:=by
      show upd env y.dst v' t= _
      rw[It t eC];exact ht
     simp only[hx,fF,ex',ES v']
     have nS:bm (jf σ.get ⟨y.site,σ.next⟩ my) (da env ys)=some rs:=by
      cases my with
      |none=>exact hr
      |some row=>
       revert hr
       cases hev:da env ys<;>simp only[bm,jf]<;>try exact fun h=>h
       rename_i id o l
       have:id≠⟨y.site,σ.next⟩:=fun e=>FW id o l hev (by rw[e])
       simp only[bK,if_neg this];exact fun h=>h
     have Ta:jf σ.get ⟨y.site,σ.next⟩ my ⟨s,σ.next⟩=some r:=by
      cases my with
      |none=>exact KF
      |some row=>simp only[jf,bK,if_neg (fun e=>KN e.symm:(⟨s,σ.next⟩:Id)≠⟨y.site,σ.next⟩)];exact KF
     rw[nS]
     simp only[Option.bind_some,aY,Ta]
     rw[if_pos hcond]
     have hgg:bK (bV (jf σ.get ⟨y.site,σ.next⟩ my) ⟨s,σ.next⟩) ⟨x.site,σ.next⟩ ⟨true,sz,r.rows++rs⟩=jf (bK (bV σ.get ⟨s,σ.next⟩) ⟨x.site,σ.next⟩ ⟨true,sz,r.rows++rs⟩) ⟨y.site,σ.next⟩ my:=by
      cases my with
      |none=>rfl
      |some row=>
       funext i
       simp only[jf,bK,bV]
       by_cases h1:i=⟨y.site,σ.next⟩
       ·subst h1;rw[if_neg Il,if_neg KN,if_pos rfl,if_pos rfl]
       ·simp only[if_neg h1]
     have hu:=wU (env:=env) (v:=AV.own ⟨x.site,σ.next⟩ 0 (len+rs.length)) (u:=v') F.dst
     show N (upd (upd env y.dst v') x.dst (.own ⟨x.site,σ.next⟩ 0 (len+rs.length))) ⟨bK (bV (jf σ.get ⟨y.site,σ.next⟩ my) ⟨s,σ.next⟩) ⟨x.site,σ.next⟩ ⟨true,sz,r.rows++rs⟩,σ.next⟩
     rw[hgg,<-hu]
     exact hN
    ·cases hv
   ·exact h.elim
theorem CW {ops:Array Oper} {vl:List bB} {bs:Array Nat} {listed:Array Bool} {i s:Nat} (h:oF ops vl bs listed i s=true) (j:Nat):oF ops vl bs (listed.setIfInBounds j true) i s=true:=by
 unfold oF at h ⊢
 split at h
 ·rename_i x hx
  simp only[List.all_eq_true,Bool.or_eq_true]at h ⊢
  intro k hk
  rcases h k hk with((h|h)|h)|h
  ·exact .inl (.inl (.inl (getD_set_true h)))
  ·exact .inl (.inl (.inr h))
  ·exact .inl (.inr h)
  ·exact .inr h
 ·cases h
theorem AY {ops:Array Oper} {vl:List bB} {listed:Array Bool} {i j s:Nat} {vi:bB} (r9:DC ops listed) (h:oF ops vl (jx ops) listed i s=true) (hi:vl[i]? =some vi) (hr:i∈Region.ready .any ops listed) (hj:j∈Region.ready .any ops listed) (ml:j≠i):∃vj,vl[j]? =some vj/\EB s vi vj=true:=by
 unfold oF at h
 rw[hi]at h
 simp only[List.all_eq_true,Bool.or_eq_true,beq_iff_eq]at h
 obtain⟨_,o,ho,_⟩:=mem_ready.1 hj
 rcases h j (List.mem_range.2 (Array.getElem?_eq_some_iff.1 ho).1)with((h|h)|h)|h
 ·rw[ja hj]at h;cases h
 ·exact absurd h ml
 ·have:=kP r9 hj i h
  rw[ja hr]at this;cases this
 ·split at h
  ·rename_i y hy;exact⟨y,hy,h⟩
  ·cases h
theorem Ci (hK:pP X) {ops:Array Oper} {vl:List bB} {K:Env->aw->Prop} {i t s sz:Nat} {ys:O} {vi:bB} (hi:vl[i]? =some vi) (hx:vi.op=.append sz (.t t) ys) (hg:vi.guard=none):∀(fuel:Nat) (listed:Array Bool) (env:Env) (σ:aw),
  DC ops listed->i∈Region.ready .any ops listed->oF ops vl (jx ops) listed i s=true->K8 t s ys env σ.next->step X vi (fun e s=>Ab X ops vl K fuel (listed.setIfInBounds i true) e s) env σ->Ab X ops vl K (fuel+1) listed env σ:=by
 intro fuel
 induction fuel with
 |zero=>
  intro listed env σ r9 hr ik OU H
  refine⟨fun h=>(by rw[h]at hr;cases hr),fun j hj=>?_⟩
  by_cases ml:j=i
  ·subst ml;exact⟨vi,hi,H⟩
  ·exfalso
   have h0:=ready_mono hj ml
   rw[s5 hg]at H
   unfold fj at H
   simp only[hx]at H
   split at H
   ·rw[H.1]at h0;cases h0
   ·exact H
 |succ fuel ih=>
  intro listed env σ r9 hr ik OU H
  refine⟨fun h=>(by rw[h]at hr;cases hr),fun j hj=>?_⟩
  by_cases ml:j=i
  ·subst ml;exact⟨vi,hi,H⟩
  ·obtain⟨vj,KW,PY⟩:=AY r9 ik hi hr hj ml
   refine⟨vj,KW,?_⟩
   have H2:step X vi (fun e s=>step X vj (fun e s=>Ab X ops vl K fuel ((listed.setIfInBounds i true).setIfInBounds j true) e s) e s) env σ:=jO hK (fun e s h=>by
    obtain⟨vj',zu,h'⟩:=h.2 j (ready_mono hj ml)
    rw[KW]at zu;injection zu with zu;subst zu
    exact h') H
   refine jO hK (fun e s h=>?_) (DU hx hg PY OU H2)
   refine ih _ _ _ (r9.list hj) (ready_mono hr (fun e=>ml e.symm)) (CW ik j) h.1 ?_
   rw[Array.setIfInBounds_comm _ _ ml]
   exact h.2
theorem II {ops:Array Oper} {vl:List bB} {bs:Array Nat} {listed:Array Bool} {i i' t s:Nat} {y:O} {vo:bB} (h:NX ops vl bs listed i=some (i',t,s,y,vo)):i'=i/\vl[i]? =some vo/\(∃sz,vo.op=.append sz (.t t) y)/\vo.guard=none/\oF ops vl bs listed i s=true:=by
 unfold NX at h
 split at h
 ·rename_i x hx
  split at h
  ·rename_i t' s' y' kh
   split at h
   ·rename_i hf
    simp only[Option.some.injEq,Prod.mk.injEq]at h
    obtain⟨rfl,rfl,rfl,rfl,rfl⟩:=h
    unfold Mr at kh
    split at kh
    ·rename_i sz t2 y2 ho tu
     split at kh
     ·simp only[Option.some.injEq,Prod.mk.injEq]at kh
      obtain⟨rfl,rfl,rfl⟩:=kh
      exact⟨rfl,hx,⟨sz,ho⟩,tu,hf⟩
     ·cases kh
    ·cases kh
   ·cases h
  ·cases h
 ·cases h
theorem xT {X:fJ} {Q:Ex->Env->aw->Prop} {env:Env} {σ:aw}:∀{l:List VC} {t:VC},AI l=some t->eh X t Q env σ->∀c∈l,eh X c Q env σ
 |[],t,h,_,c,hc=>by cases hc
 |[c0],t,h,hw,c,hc=>by
  simp only[AI,Option.some.injEq]at h
  subst h
  rw[List.mem_singleton]at hc
  subst hc;exact hw
 |c0::c1::r,t,h,hw,c,hc=>by
  simp only[AI,Option.map_eq_some_iff]at h
  obtain⟨t',G8,rfl⟩:=h
  rcases List.mem_cons.1 hc with rfl|hc
  ·exact hw.1
  ·exact xT G8 hw.2 c hc
theorem mapM_mem {α β:Type} {f:α->Option β}:∀{l:List α} {r:List β},l.mapM f=some r->∀i∈l,∃b∈r,f i=some b
 |[],_,_,i,hi=>by cases hi
 |a::l,r,h,i,hi=>by
  simp only[List.mapM_cons,Option.bind_eq_bind,Option.bind_eq_some_iff,Option.pure_def,Option.some.injEq]at h
  obtain⟨b,hb,r',hr,rfl⟩:=h
  rcases List.mem_cons.1 hi with rfl|hi
  ·exact⟨b,by simp,hb⟩
  ·obtain⟨c,hc,hf⟩:=mapM_mem hr i hi
   exact⟨c,List.mem_cons_of_mem _ hc,hf⟩
theorem GP (hK:pP X) {ops:Array Oper} {vl:List bB} {Q:Ex->Env->aw->Prop}:∀(n:Nat) (listed:Array Bool) (t:VC) (env:Env) (σ:aw),wS ops vl (jx ops) n listed=some t->DC ops listed->eh X t Q env σ->Ab X ops vl (Q .normal) n listed env σ:=by
 intro n
 induction n with
 |zero=>
  intro listed t env σ h _ hw
  unfold wS at h
  split at h
  ·rename_i hr
   simp only[Option.some.injEq]at h
   subst h
   exact⟨hr,hw⟩
  ·cases h
 |succ n ih=>
  intro listed t env σ h r9 hw
  unfold wS at h
  split at h
  ·rename_i hr
   simp only[Option.some.injEq]at h
   subst h
   exact⟨fun _=>hw,fun i hi=>by rw[hr]at hi;cases hi⟩
  ·rename_i r rs hr
   dsimp only at h
   split at h
   ·rename_i i hfind
    have KH:=List.mem_of_find?_eq_some hfind
    have Be:=List.find?_some hfind
    rw[<-hr]at KH
    split at h
    ·rename_i vo pM
     simp only[Option.map_eq_some_iff]at h
     obtain⟨t',G8,rfl⟩:=h
     exact Ee hK pM n listed env σ r9 KH Be (jO hK (fun e s h=>ih _ _ _ _ G8 (r9.list KH) h) hw)
    ·cases h
   ·split at h
    ·rename_i i t s y vo hfind
     obtain⟨i0,ye,eo⟩:=List.exists_of_findSome?_eq_some hfind
     obtain⟨rfl,pM,⟨sz,er⟩,tu,Ic⟩:=II eo
     rw[<-hr]at ye
     simp only[Option.map_eq_some_iff]at h
     obtain⟨t',G8,rfl⟩:=h
     exact Ci hK pM er tu n listed env σ r9 ye Ic hw.1 (jO hK (fun e s h=>ih _ _ _ _ G8 (r9.list ye) h) hw.2)
    split at h
    ·rename_i l hl
     have ef:=xT h hw
     refine⟨fun h=>(by rw[h]at hr;cases hr),fun i hi=>?_⟩
     rw[hr]at hi
     obtain⟨b,G1,G2⟩:=mapM_mem hl i hi
     simp only[Option.bind_eq_some_iff,Option.map_eq_some_iff]at G2
     obtain⟨vo,pM,t',G8,rfl⟩:=G2
     exact⟨vo,pM,jO hK (fun e s h=>ih _ _ _ _ G8 (r9.list (by rw[hr];exact hi)) h) (ef _ G1)⟩
    ·cases h
theorem Eb {ops:Array Oper} {vl:List bB} {nt site0:Nat} {draw mk:Bool} {bs:Array Nat} {hidden:List (Nat×Bool)} {K:Env->aw->Prop} {Q:Exit->Act->World->Prop} (ef:allM (l5 P ops nt site0 draw mk bs hidden) ops.toList 0=some vl):
  ∀(fuel:Nat) (listed:Array Bool) (env:Env) (σ:aw) (a:Act) (w:World) (D:Nat->Prop) (ι:Names) (U:Nat->Prop),Ab (Sound P) ops vl K fuel listed env σ->gi P hs D ι σ.get w->Used ι σ.next U->(∀s,U s->∃i,s=site0+i/\listed.getD i false=true)->cC P w D ι env a->a.tmps.size=nt->
  (∀iA σ' a' w' D' ι',K iA σ'->Step hs D ι w D' ι' w'->St P hs nt D' ι' iA σ' a' w'->a'.defers=a.defers->σ.next<=σ'.next->Q .normal a' w')->wpAny P .any ops Q fuel listed a w:=by
 intro fuel
 induction fuel with
 |zero=>intro listed env σ a w D ι U h S Us hU E fe hQ;exact⟨h.1,hQ env _ a w D ι h.2 (Step.refl _ _ _ _) ⟨S,Us.next,E,fe⟩ rfl (Nat.le_succ _)⟩
 |succ fuel ih=>
  intro listed env σ a w D ι U h S Us hU E fe hQ
  refine⟨fun hr=>hQ env _ a w D ι (h.1 hr) (Step.refl _ _ _ _) ⟨S,Us.next,E,fe⟩ rfl (Nat.le_succ _),fun i hi=>?_⟩
  obtain⟨vo,pM,hG⟩:=h.2 i hi
  obtain⟨_,o,ho,_⟩:=mem_ready.1 hi
  obtain⟨vo',l9,PR⟩:=(oq ef).2 i o (by simpa using ho)
  rw[pM]at l9;injection l9 with l9;subst l9
  rw[Nat.zero_add]at PR
  obtain⟨hc,hd,Bm,xq,hg⟩:=pb PR
  have hw:=td (ops:=ops) (vo:=vo) E hg
  have SK:¬U vo.site:=fun hu=>by
   obtain⟨i',he,hl⟩:=hU _ hu
   have:i'=i:=by omega
   subst this
   rw[ja hi]at hl;cases hl
  have jz:i<listed.size:=by
   have h0:=(mem_ready.1 hi).1
   rcases Nat.lt_or_ge i listed.size with h|h
   ·exact h
   ·simp[Array.getElem?_eq_none h]at h0
  unfold wpOp
  simp only[ho]
  rw[<-hw]
  unfold step at hG
  by_cases FY:aM vo.guard env=true
  ·rw[if_pos FY]
   rw[if_pos FY]at hG
   refine .inl (yR hc hG S Us SK E fun v σ' u D' ι' w' hn T S' hR U' hle=>?_)
   refine ih _ _ _ _ w' D' ι' _ hn S' U' (fun s Bj=>?_) (by rw[hd];exact mH (oz E T) hR xq fe) (by rw[kN];exact fe) fun iA σ2 a2 w2 D2 ι2 hk T2 NM C7 mM=>hQ iA σ2 a2 w2 D2 ι2 hk (T.trans T2) NM (C7.trans (put_defers _ _ _)) (Nat.le_trans hle mM)
   rcases Bj with h|h
   ·obtain⟨i',he,hl⟩:=hU _ h
    exact⟨i',he,getD_set_true hl⟩
   ·exact⟨i,by rw[h,Bm],by simp[jz]⟩
  ·rw[if_neg FY]
   rw[if_neg FY]at hG
   refine ih _ _ _ _ w D ι U hG S Us (fun s Bj=>?_) (by rw[hd];exact mH E dj.undef xq fe) (by rw[kN];exact fe) fun iA σ2 a2 w2 D2 ι2 hk T2 NM C7 mM=>hQ iA σ2 a2 w2 D2 ι2 hk T2 NM (C7.trans (put_defers _ _ _)) mM
   obtain⟨i',he,hl⟩:=hU _ Bj
   exact⟨i',he,getD_set_true hl⟩
end
end Go.Proofs.YtgoelphibofcmaaGreat.V

namespace Go.Proofs.YtgoelphibofcmaaGreat.V
open Go.RowKit
variable {P:Program} {w w':World} {D D' D2:Nat->Prop} {ι ι' ι2:Names}
def CC (P:Program) (c:Code) (Q:Exit->Act->World->Prop) (a:Act) (w:World):Prop:=
 ∀(b:Frame) (k:List Item) (cs:List Frame),b.kind≠.early->∃e a' w',Q e a' w'/\Arrives P (lone (b.at a (.code c::k)) cs w) b k cs e a' w'
section
variable {Q:Exit->Act->World->Prop} {a:Act}
theorem sS {c:Code} (h:c.wp P Q a w):CC P c Q a w:=fun b k cs _=>h b k cs
theorem E4 {x y:Code} (h:CC P x (Exit.then (CC P y Q) Q) a w):CC P (.seq x y) Q a w:=by
 intro b k cs hb
 obtain⟨e,a1,w1,hq,jJ⟩:=h b (.code y::k) cs hb
 by_cases he:e=.normal
 ·subst he
  obtain⟨e2,a2,w2,qu,H4⟩:=hq b k cs hb
  exact⟨e2,a2,w2,qu,.of_steps (.head step_seq jJ) H4⟩
 ·refine⟨e,a1,w1,?_,.of_steps (.one step_seq) (.pass (x:=.code y) rfl (fun _ _=>.inl he) jJ)⟩
  cases e<;>first|exact absurd rfl he|exact hq
theorem IW {c:Operand} {x y:Code} {t:Bool} (hc:a.eval c=.bool t) (h:CC P (if t then x else y) Q a w):CC P (.cond c x y) Q a w:=
 fun b k cs hb=>let ⟨e,a',w',q,r⟩:=h b k cs hb;⟨e,a',w',q,.of_steps (.one (step_cond hc)) r⟩
theorem Gm {id:Nat} {c:Code} (h:CC P c (Exit.inBlock id Q) a w):CC P (.block id c) Q a w:=by
 intro b k cs hb
 obtain⟨e,a1,w1,hq,jJ⟩:=h b (.inBlock id::k) cs hb
 cases e with
 |normal=>exact⟨.normal,a1,w1,hq,.head step_block (Steps.trans jJ (.one step_inBlock))⟩
 |exit kF=>
  by_cases hid:kF=id
  ·simp only[Exit.inBlock,hid,if_true]at hq
   exact⟨.normal,a1,w1,hq,.head step_block (jJ k (by simp[exitTo,hid]))⟩
  ·simp only[Exit.inBlock,hid,if_false]at hq
   exact⟨.exit kF,a1,w1,hq,fun k' hk=>.head step_block (jJ k' (by simp[exitTo,Ne.symm hid,hk]))⟩
 |goto l=>exact⟨_,a1,w1,hq,fun k' hk=>.head step_block (jJ k' (by simp[gotoIn,hk]))⟩
 |ret=>exact⟨_,a1,w1,hq,.of_steps (.one step_block) jJ⟩
 |panic ch=>exact⟨_,a1,w1,hq,.of_steps (.one step_block) jJ⟩
 |outgrown=>exact⟨_,a1,w1,hq,.of_steps (b:=b) (k:=k) (cs:=cs) (e:=.outgrown) (.one step_block) jJ⟩
def uz (P:Program) (c:Code) (Q:Exit->Act->World->Prop):Nat->Act->World->Prop
 |0=>fun _ _=>False
 |n+1=>CC P c (Exit.then (uz P c Q n) Q)
theorem IX {c:Code} (n:Nat) (h:uz P c Q n a w):CC P (.loop c) Q a w:=by
 intro b k cs hb
 have key:∀n a w,uz P c Q n a w->∃e a' w',Q e a' w'/\Arrives P (lone (b.at a (.code c::.inLoop c::k)) cs w) b k cs e a' w':=by
  intro n
  induction n with
  |zero=>intro a w h;exact h.elim
  |succ n ih=>
   intro a w h
   obtain⟨e,a1,w1,hq,jJ⟩:=h b (.inLoop c::k) cs hb
   by_cases he:e=.normal
   ·subst he
    obtain⟨e2,a2,w2,qu,H4⟩:=ih a1 w1 hq
    exact⟨e2,a2,w2,qu,.of_steps (Steps.trans jJ (.one step_inLoop)) H4⟩
   ·refine⟨e,a1,w1,?_,.pass (x:=.inLoop c) rfl (fun _ _=>.inl he) jJ⟩
    cases e<;>first|exact absurd rfl he|exact hq
 obtain⟨e,a',w',hq,jJ⟩:=key n a w h
 exact⟨e,a',w',hq,.of_steps (.one step_loop) jJ⟩
theorem y5 {f:FuncId} {fn:Func} {c:Code} {args:Array Value} {R:Ending->World->Prop} (hf:P.funcs[f]? =some fn) (hb:fn.body=some c)
  (h:CC P c (bodyPost P fn R) {tmps:=args++Array.replicate (fn.ntmps-args.size) undef,defers:=[]} w):Calls P f args w R:=by
 intro cs
 have Nr:Frame.enter P f args .normal=({(default:Frame)with fn:=f,kind:=.normal}:Frame).at {tmps:=args++Array.replicate (fn.ntmps-args.size) undef,defers:=[]} [.code c]:=by simp[Frame.enter,Frame.at,hf,hb]
 obtain⟨e,a',w',hq,jJ⟩:=h {(default:Frame)with fn:=f,kind:=.normal} [] cs (by simp)
 rw[<-Nr]at jJ
 cases e with
 |normal=>obtain⟨hd,v,hr,hR⟩:=hq;exact⟨.returned v,w',_,hR,Steps.trans jJ (.one step_end),rfl,rfl,hd,rfl,fn,hf,hr⟩
 |ret=>obtain⟨hd,v,hr,hR⟩:=hq;obtain⟨todo,hs⟩:=jJ;exact⟨.returned v,w',_,hR,hs,rfl,rfl,hd,rfl,fn,hf,hr⟩
 |panic chain=>obtain⟨hd,hR⟩:=hq;obtain⟨todo,hs⟩:=jJ;exact⟨.panicked chain,w',_,hR,hs,rfl,rfl,hd,fn,hf⟩
 |exit id=>exact hq.elim
 |goto l=>exact hq.elim
 |outgrown=>exact⟨.outgrown,w',{(default:Frame)with fn:=f,kind:=.normal},hq,jJ.resolve_left (by simp),rfl,trivial⟩
def xf (P:Program) (ops:Array Oper) (Q:Exit->Act->World->Prop) (l:List Nat) (a:Act) (w:World):Prop:=
 ∀(b:Frame) (k:List Item) (cs:List Frame),b.kind≠.early->∃e a' w',Q e a' w'/\Arrives P (lone (b.at a (.inRegion ops l::k)) cs w) b k cs e a' w'
theorem DD {id:Nat} {ops:Array Oper} (h:xf P ops Q (List.range ops.size) a w):CC P (.region id ops false) Q a w:=
 fun b k cs hb=>let ⟨e,a',w',q,r⟩:=h b k cs hb;⟨e,a',w',q,.of_steps (.one step_region) r⟩
theorem N4 {ops:Array Oper} (h:Q .normal a w):xf P ops Q [] a w:=fun _ _ _ _=>⟨.normal,a,w,h,.one step_region_end⟩
theorem oZ {o:Oper} {ys:Nat->Option Bool} (h:o.guard=none):Region.wanted o ys=true:=by simp[Region.wanted,h]
theorem I5 {ops:Array Oper} {i:Nat} {rest:List Nat} {o:Oper} {v:Value} (ho:ops[i]? =some o) (hg:o.guard=none) (hr:(execOp a.eval o).run P w=.ok (.value v) w') (h:xf P ops Q rest (a.put o.dst v) w'):xf P ops Q (i::rest) a w:=by
 intro b k cs hb
 obtain⟨e,a',w2,hq,jJ⟩:=h b k cs hb
 refine⟨e,a',w2,hq,.of_steps (.one ?_) jJ⟩
 have rl:(b.at a (.inRegion ops (i::rest)::k)).finish v=b.at (a.put o.dst v) (.inRegion ops rest::k):=by rw[Frame.finish_at,ho];rfl
 rw[<-rl]
 refine step_lone_go ?_
 have h2:=stepG_op (P:=P) (b:=b) (k:=k) (cs:=cs) (w:=w) (rest:=rest) ho (oZ hg (ys:=yielded ops a.tmps))
 rw[h2];simp[stepG.apply,hr]
theorem Lq {ops:Array Oper} {i:Nat} {rest:List Nat} {o:Oper} {v z:Value} {c cap s r:Nat} {buf:Array Value} (ho:ops[i]? =some o) (hg:o.guard=none) (hr:(execOp a.eval o).run P w=.ok (.comm #[Conc.scase c v z] true .send) w)
  (hc:w.heap[c]? =some (.chan cap buf false s r false)) (eL:buf.size<cap) (h:xf P ops Q rest (a.put o.dst undef) (w.setChan c cap (buf.push v) false (s+1) r false)):xf P ops Q (i::rest) a w:=by
 intro b k cs hb
 obtain⟨e,a',w2,hq,jJ⟩:=h b k cs hb
 refine⟨e,a',w2,hq,.of_steps (.one ?_) jJ⟩
 have rl:(b.at a (.inRegion ops (i::rest)::k)).finish undef=b.at (a.put o.dst undef) (.inRegion ops rest::k):=by rw[Frame.finish_at,ho];rfl
 rw[<-rl,Conc.lone_eq_solo,Conc.lone_eq_solo]
 exact Conc.step_lone_send_room (Conc.stepG_comm ho (oZ hg) hb hr) hc eL
theorem Lp {ops:Array Oper} {i:Nat} {rest:List Nat} {o:Oper} {z:Value} {c cap s r:Nat} {buf:Array Value} (ho:ops[i]? =some o) (hg:o.guard=none) (hr:(execOp a.eval o).run P w=.ok (.comm #[Conc.rcase c z] true (.recv false)) w)
  (hc:w.heap[c]? =some (.chan cap buf false s r false)) (Iu:0<buf.size) (h:xf P ops Q rest (a.put o.dst (buf.getD 0 undef)) (w.setChan c cap (buf.extract 1 buf.size) false s (r+1) false)):xf P ops Q (i::rest) a w:=by
 intro b k cs hb
 obtain⟨e,a',w2,hq,jJ⟩:=h b k cs hb
 refine⟨e,a',w2,hq,.of_steps (.one ?_) jJ⟩
 have rl:(b.at a (.inRegion ops (i::rest)::k)).finish (buf.getD 0 undef)=b.at (a.put o.dst (buf.getD 0 undef)) (.inRegion ops rest::k):=by rw[Frame.finish_at,ho];rfl
 rw[<-rl,Conc.lone_eq_solo,Conc.lone_eq_solo]
 exact Conc.step_lone_recv_buf false (Conc.stepG_comm ho (oZ hg) hb hr) hc Iu
end
section
variable {hs:Nat} {g:Rows} {env:Env} {a:Act} {o:Oper}
theorem K3 {x y:O} (hc:qK P o.op=some (.snd x y)):∃x' y',o.op=.send x' y'/\cO P x'=some x/\cO P y'=some y:=by
 unfold qK at hc
 split at hc
 case h_25=>
  rename_i x' y' h
  simp only[Option.bind_eq_bind,Option.bind_eq_some_iff,Option.pure_def,Option.some.injEq,gp.snd.injEq]at hc
  obtain⟨p,h1,q,h2,rfl,rfl⟩:=hc
  exact⟨_,_,h,h1,h2⟩
 all_goals (try unfold nw at hc)<;>(try unfold uT at hc)<;>(try unfold sr at hc)<;>(repeat' (split at hc))<;>(simp only[Option.bind_eq_bind,Option.bind_eq_some_iff,Option.pure_def,Option.some.injEq,Option.map_eq_some_iff,reduceCtorEq,and_false,exists_false]at hc)
theorem K2 {x:O} (hc:qK P o.op=some (.N8 x)):∃t dir e i z x',o.op=.recv t x' false/\P.underlying t=some (.chan dir e)/\P.info? e=some i/\i.zero=some z/\cO P x'=some x:=by
 unfold qK at hc
 split at hc
 case h_26=>
  rename_i t x' h
  split at hc
  ·rename_i dir e ht
   split at hc
   ·rename_i z hz
    simp only[Option.bind_eq_some_iff]at hz
    obtain⟨i,hi,hz⟩:=hz
    simp only[Option.map_eq_some_iff,gp.N8.injEq]at hc
    obtain⟨p,h1,rfl⟩:=hc
    exact⟨t,dir,e,i,z,x',h,ht,hi,hz,h1⟩
   ·cases hc
  ·cases hc
 all_goals (try unfold nw at hc)<;>(try unfold uT at hc)<;>(try unfold sr at hc)<;>(repeat' (split at hc))<;>(simp only[Option.bind_eq_bind,Option.bind_eq_some_iff,Option.pure_def,Option.some.injEq,Option.map_eq_some_iff,reduceCtorEq,and_false,exists_false]at hc)
theorem Pu {x y:O} {g':Rows} (S:gi P hs D ι g w) (hc:qK P o.op=some (.snd x y)) (E:cC P w D ι env a) (hv:dV g (da env x) (da env y)=some g'):
  ∃c cap s r buf u,(execOp a.eval o).run P w=.ok (.comm #[Conc.scase c u (.tuple #[])] true .send) w/\w.heap[c]? =some (.chan cap buf false s r false)/\buf.size<cap/\gi P hs D ι g' (w.setChan c cap (buf.push u) false (s+1) r false)/\Step hs D ι w D ι (w.setChan c cap (buf.push u) false (s+1) r false):=by
 obtain⟨x',y',ho,hx,hy⟩:=K3 hc
 have rx:=dn E hx
 have ry:=dn E hy
 unfold dV at hv
 split at hv
 ·rename_i i he
  simp only[Option.bind_eq_some_iff]at hv
  obtain⟨r,hg,hv⟩:=hv
  split at hv
  ·rename_i hcond
   simp only[Option.some.injEq]at hv
   subst hv
   obtain⟨B,c,hu,hB,hk,fe,buf,s,q,hb,JT,hR⟩:=y6 S rx he hg
   obtain⟨B',dJ,RR,_⟩:=S.row i r hg
   rw[hB]at dJ;injection dJ with dJ;subst dJ
   have nJ:=S.GQ (ob:=.chan c (buf.push (a.eval y')) false (s+1) q false) (r':={r with rows:=r.rows++[[da env y]]}) hg hcond.1 hB fun hr kE=>⟨RR.sz,fun cs du=>?_,fun h0=>(by rw[hk]at h0;cases h0),fun m hm=>(by rw[hk]at hm;cases hm),fun c' kD=>?_⟩
   ·exact⟨B.b,c,s,q,buf,a.eval y',by simp[execOp,ho,hu,Conc.scase],hb,by rw[JT];omega,nJ.1,nJ.2⟩
   ·rcases List.mem_append.1 du with h|h
    ·exact RR.flat cs h
    ·rw[List.mem_singleton.1 h]
     intro b sI
     rw[List.mem_singleton.1 sI];exact hcond.2.2
   ·rw[hk]at kD
    simp only[Option.some.injEq,BK.chan.injEq]at kD
    subst kD
    refine⟨fe,_,_,_,kE,by simp[JT],fun j cs hj=>?_⟩
    rw[List.getElem?_append]at hj
    split at hj
    ·rename_i eo
     obtain⟨b,u,q1,q2,q3⟩:=hR j cs hj
     refine⟨b,u,q1,?_,hr _ _ q3⟩
     rw[Array.getElem?_push,if_neg (by omega)];exact q2
    ·rename_i qt
     have gV:j=r.rows.length:=by
      have:=(List.getElem?_eq_some_iff.1 hj).1
      simp at this;omega
     subst gV
     simp at hj
     subst hj
     exact⟨_,_,rfl,by rw[Array.getElem?_push,if_pos JT.symm],hr _ _ ry⟩
  ·cases hv
 ·cases hv
theorem Pt {x:O} {g':Rows} {v:AV} (S:gi P hs D ι g w) (hc:qK P o.op=some (.N8 x)) (E:cC P w D ι env a) (hv:dU g (da env x)=some (v,g')):
  ∃c cap s r buf z,(execOp a.eval o).run P w=.ok (.comm #[Conc.rcase c z] true (.recv false)) w/\w.heap[c]? =some (.chan cap buf false s r false)/\0<buf.size/\gi P hs D ι g' (w.setChan c cap (buf.extract 1 buf.size) false s (r+1) false)/\Step hs D ι w D ι (w.setChan c cap (buf.extract 1 buf.size) false s (r+1) false)/\dj P (w.setChan c cap (buf.extract 1 buf.size) false s (r+1) false) D ι v (buf.getD 0 undef):=by
 obtain⟨t,dir,e,i0,z,x',ho,ht,hi,hz,hx⟩:=K2 hc
 have rx:=dn E hx
 unfold dU at hv
 split at hv
 ·rename_i i he
  simp only[Option.bind_eq_some_iff]at hv
  obtain⟨r,hg,hv⟩:=hv
  split at hv
  ·rename_i v' rest rq
   split at hv
   ·rename_i hcond
    simp only[Option.some.injEq,Prod.mk.injEq]at hv
    obtain⟨rfl,rfl⟩:=hv
    obtain⟨B,c,hu,hB,hk,fe,buf,s,q,hb,JT,hR⟩:=y6 S rx he hg
    obtain⟨B',dJ,RR,_⟩:=S.row i r hg
    rw[hB]at dJ;injection dJ with dJ;subst dJ
    obtain⟨b0,u0,q1,q2,q3⟩:=hR 0 [v'] (by rw[rq];rfl)
    simp only[List.cons.injEq,and_true]at q1
    subst q1
    have jA:0<buf.size:=by rw[JT,rq];simp
    have RM:buf.getD 0 undef=u0:=by rw[Array.getD_eq_getD_getElem?,q2];rfl
    have nJ:=S.GQ (ob:=.chan c (buf.extract 1 buf.size) false s (q+1) false) (r':={r with rows:=rest}) hg hcond hB fun hr kE=>⟨RR.sz,fun cs du=>RR.flat cs (by rw[rq];exact List.mem_cons_of_mem _ du),fun h0=>(by rw[hk]at h0;cases h0),fun m hm=>(by rw[hk]at hm;cases hm),fun c' kD=>?_⟩
    ·refine⟨B.b,c,s,q,buf,z,?_,hb,jA,nJ.1,nJ.2,?_⟩
     ·have qx:(zeroValue e).run P w=.ok z w:=by simp[zeroValue,typeInfo,hi,hz]
      simp[execOp,ho,hu,Conc.rcase,run_underlying ht,qx]
     ·rw[RM];exact nJ.2.rep q3
    ·rw[hk]at kD
     simp only[Option.some.injEq,BK.chan.injEq]at kD
     subst kD
     refine⟨fe,_,_,_,kE,by simp[JT,rq],fun j cs hj=>?_⟩
     obtain⟨b,u,k1,k2,k3⟩:=hR (j+1) cs (by rw[rq];simpa using hj)
     refine⟨b,u,k1,?_,hr _ _ k3⟩
     have eo:=(Array.getElem?_eq_some_iff.1 k2).1
     rw[Array.getElem?_extract,if_pos (by omega),Nat.add_comm 1 j];exact k2
   ·cases hv
  ·cases hv
 ·cases hv
theorem Fw {ops:Array Oper} {nt site0:Nat} {K:Env->aw->Prop} {Q:Exit->Act->World->Prop}:∀(l:List Oper) (vl:List bB) (j:Nat) (env:Env) (σ:aw) (a:Act) (w:World) (D:Nat->Prop) (ι:Names),
  ops.toList.drop j=l->allM (l5 P ops nt site0 false false #[] []) l j=some vl->cw vl K env σ->gi P hs D ι σ.get w->Used ι σ.next (fun _=>False)->cC P w D ι env a->a.tmps.size=nt->
  (∀iA σ' a' w' D' ι',K iA σ'->Step hs D ι w D' ι' w'->St P hs nt D' ι' iA σ' a' w'->a'.defers=a.defers->σ.next<=σ'.next->Q .normal a' w')->xf P ops Q (List.range' j l.length) a w:=by
 intro l
 induction l with
 |nil=>
  intro vl j env σ a w D ι _ h hv S Us E fe hQ
  simp[allM]at h;subst h
  exact N4 (hQ env ⟨σ.get,σ.next+1⟩ a w D ι hv (Step.refl _ _ _ _) ⟨S,Us.next,E,fe⟩ rfl (Nat.le_succ _))
 |cons o l ih=>
  intro vl j env σ a w D ι hl h hv S Us E fe hQ
  simp only[allM,Option.bind_eq_bind,Option.bind_eq_some_iff,Option.pure_def,Option.some.injEq]at h
  obtain⟨vo,pM,tb,nQ,rfl⟩:=h
  obtain⟨hc,hd,Bm,xq,hg⟩:=pb pM
  obtain⟨P5,hv⟩:=hv
  have Tr:o.guard=none:=by
   split at hg
   ·assumption
   ·obtain⟨t,_,h⟩:=hg
    rw[P5]at h;cases h
  have Ts:ops[j]? =some o:=by
   have h0:=congrArg (fun x=>x[0]?) hl
   rw[<-Array.getElem?_toList]
   simpa[List.getElem?_drop]using h0
  have J2:ops.toList.drop (j+1)=l:=by rw[<-List.drop_drop,hl];rfl
  have go:∀(v:AV) (u:Value) (g2:Rows) (w2:World),cw tb K (upd env vo.dst v) ⟨g2,σ.next⟩->gi P hs D ι g2 w2->Step hs D ι w D ι w2->dj P w2 D ι v u->xf P ops Q (List.range' (j+1) l.length) (a.put o.dst u) w2:=fun v u g2 w2 hn S2 T hR=>
   ih tb (j+1) (upd env vo.dst v) ⟨g2,σ.next⟩ (a.put o.dst u) w2 D ι J2 nQ hn S2 Us (by rw[hd];exact mH (oz E T) hR xq fe) (by rw[kN];exact fe) fun iA σ2 a' w3 D3 ι3 hk T2 Pk C7 mM=>hQ iA σ2 a' w3 D3 ι3 hk (T.trans T2) Pk (C7.trans (put_defers _ _ _)) mM
  rw[show List.range' j (o::l).length=j::List.range' (j+1) l.length from rfl]
  split at hv
  ·rename_i x y er
   split at hv
   ·rename_i g2 O3
    rw[er]at hc
    obtain⟨c,cap,s,r,buf,u,gH,hb,eL,S2,T⟩:=Pu S hc E O3
    exact Lq Ts Tr gH hb eL (go _ _ _ _ hv S2 T dj.undef)
   ·exact hv.elim
  ·rename_i x er
   split at hv
   ·rename_i v g2 O3
    rw[er]at hc
    obtain⟨c,cap,s,r,buf,z,gH,hb,Iu,S2,T,hR⟩:=Pt S hc E O3
    exact Lp Ts Tr gH hb Iu (go _ _ _ _ hv S2 T hR)
   ·exact hv.elim
  ·split at hv
   ·rename_i v hq
    obtain⟨u,gH,hR⟩:=yM hc hq S E
    exact I5 Ts Tr gH (go _ _ _ _ hv S (Step.refl _ _ _ _) hR)
   ·exact hv.elim
end
end Go.Proofs.YtgoelphibofcmaaGreat.V

namespace Go.Proofs.YtgoelphibofcmaaGreat.V
open Go.RowKit
variable {P:Program} {w w':World} {D D' D2:Nat->Prop} {ι ι' ι2:Names}
section
variable {hs:Nat} {X:fJ}
def exO:Ex->Exit
 | .normal=>.normal
 | .exit id=>.exit id
 | .ret=>.ret
theorem St.drew {nt:Nat} {env:Env} {σ:aw} {a:Act} {D:Nat->Prop} {ι:Names} (h:St P hs nt D ι env σ a w):St P hs nt D ι env σ a w.drew/\Step hs D ι w D ι w.drew:=by
 have T:Step hs D ι w D ι w.drew:=Step.stay h.J7 (fun _ _=>rfl) (Nat.le_refl _) rfl rfl rfl (fun _ h=>h) (fun _ h=>.inl h) (fun _ _ h=>h)
 exact⟨⟨h.J7.stay (fun _ _=>rfl) (Nat.le_refl _) (fun _ h=>h) h.J7.dead (fun _ h=>.inl h) (fun _ _ h=>h),h.used,oz h.env T,h.size⟩,T⟩
def uL (P:Program) (hs nt:Nat) (ds:List Deferred) (Q:Ex->Env->aw->Prop) (n0:Nat) (D:Nat->Prop) (ι:Names) (w:World) (Q':Exit->Act->World->Prop):Prop:=
 ∀ex env σ a w' D' ι',Q ex env σ->Step hs D ι w D' ι' w'->St P hs nt D' ι' env σ a w'->a.defers=ds->n0<=σ.next->Q' (exO ex) a w'
theorem uL.later {nt:Nat} {ds:List Deferred} {Q:Ex->Env->aw->Prop} {n0 n1:Nat} {Q':Exit->Act->World->Prop} (h:uL P hs nt ds Q n0 D ι w Q') (T:Step hs D ι w D' ι' w') (hn:n0<=n1):uL P hs nt ds Q n1 D' ι' w' Q':=
 fun ex env σ a w2 D2 ι2 hq T2 eC hd hle=>h ex env σ a w2 D2 ι2 hq (T.trans T2) eC hd (Nat.le_trans hn hle)
theorem u7 (hm:P.follows .mixedOrders=true) {md:List (Nat×Nat)} {nt vg:Nat}:∀(c:Code) (vc:VC),jD P md nt vg c=some vc->∀(Q:Ex->Env->aw->Prop) (env:Env) (σ:aw) (a:Act) (w:World) (D:Nat->Prop) (ι:Names) (Q':Exit->Act->World->Prop),
  eh (Sound P) vc Q env σ->St P hs nt D ι env σ a w->uL P hs nt a.defers Q σ.next D ι w Q'->CC P c Q' a w:=by
 intro c
 induction c with
 |skip=>
  intro vc h Q env σ a w D ι Q' hv eC hQ
  simp[jD]at h;subst h
  exact sS <| wp_skip (hQ .normal env σ a w D ι hv (Step.refl _ _ _ _) eC rfl (Nat.le_refl _))
 |exit id=>
  intro vc h Q env σ a w D ι Q' hv eC hQ
  simp[jD]at h;subst h
  exact sS <| wp_exit (hQ (.exit id) env σ a w D ι hv (Step.refl _ _ _ _) eC rfl (Nat.le_refl _))
 |ret=>
  intro vc h Q env σ a w D ι Q' hv eC hQ
  simp[jD]at h;subst h
  exact sS <| wp_ret (hQ .ret env σ a w D ι hv (Step.refl _ _ _ _) eC rfl (Nat.le_refl _))
 |seq x y ihx ihy=>
  intro vc h Q env σ a w D ι Q' hv eC hQ
  simp only[jD,Option.bind_eq_bind,Option.bind_eq_some_iff,Option.pure_def,Option.some.injEq]at h
  obtain⟨vx,hx,vy,hy,rfl⟩:=h
  refine E4 (ihx vx hx _ env σ a w D ι _ hv eC fun ex jy σ1 a1 w1 D1 ι1 hq T jX hd hle=>?_)
  cases ex with
  |normal=>exact ihy vy hy Q jy σ1 a1 w1 D1 ι1 Q' hq jX (by rw[hd];exact hQ.later T hle)
  |exit id=>exact hQ (.exit id) jy σ1 a1 w1 D1 ι1 hq T jX hd hle
  |ret=>exact hQ .ret jy σ1 a1 w1 D1 ι1 hq T jX hd hle
 |cond c x y ihx ihy=>
  intro vc h Q env σ a w D ι Q' hv eC hQ
  simp only[jD,Option.bind_eq_bind,Option.bind_eq_some_iff,Option.pure_def,Option.some.injEq]at h
  obtain⟨c',hc,vx,hx,vy,hy,rfl⟩:=h
  unfold eh at hv
  have hr:=dn eC.env hc
  split at hv
  ·rename_i b hb
   rw[hb]at hr
   refine IW (fa hr) ?_
   cases b with
   |true=>exact ihx vx hx Q env σ a w D ι Q' hv eC hQ
   |false=>exact ihy vy hy Q env σ a w D ι Q' hv eC hQ
  ·exact hv.elim
 |block id c ih=>
  intro vc h Q env σ a w D ι Q' hv eC hQ
  simp only[jD,Option.map_eq_some_iff]at h
  obtain⟨vx,hx,rfl⟩:=h
  refine Gm (ih vx hx _ env σ a w D ι _ hv eC fun ex jy σ1 a1 w1 D1 ι1 hq T jX hd hle=>?_)
  cases ex with
  |normal=>exact hQ .normal jy σ1 a1 w1 D1 ι1 hq T jX hd hle
  |ret=>exact hQ .ret jy σ1 a1 w1 D1 ι1 hq T jX hd hle
  |exit kF=>
   simp only[bl]at hq
   simp only[exO,Exit.inBlock]
   by_cases hid:kF=id
   ·rw[if_pos hid]at hq ⊢;exact hQ .normal jy σ1 a1 w1 D1 ι1 hq T jX hd hle
   ·rw[if_neg hid]at hq ⊢;exact hQ (.exit kF) jy σ1 a1 w1 D1 ι1 hq T jX hd hle
 |loop c ih=>
  intro vc h Q env σ a w D ι Q' hv eC hQ
  simp only[jD,Option.map_eq_some_iff]at h
  obtain⟨vx,hx,rfl⟩:=h
  obtain⟨n,hv⟩:=hv
  refine IX n ?_
  have key:∀n env σ a w D ι,EZ (eh (Sound P) vx) Q n env σ->St P hs nt D ι env σ a w->uL P hs nt a.defers Q σ.next D ι w Q'->uz P c Q' n a w:=by
   intro n
   induction n with
   |zero=>intro env σ a w D ι h;exact h.elim
   |succ n ihn=>
    intro env σ a w D ι h eC hQ
    refine ih vx hx _ env σ a w D ι _ h eC fun ex jy σ1 a1 w1 D1 ι1 hq T jX hd hle=>?_
    cases ex with
    |normal=>exact ihn jy σ1 a1 w1 D1 ι1 hq jX (by rw[hd];exact hQ.later T hle)
    |exit id=>exact hQ (.exit id) jy σ1 a1 w1 D1 ι1 hq T jX hd hle
    |ret=>exact hQ .ret jy σ1 a1 w1 D1 ι1 hq T jX hd hle
  exact key n env σ a w D ι hv eC hQ
 |region id ops draw=>
  intro vc h Q env σ a w D ι Q' hv eC hQ
  simp only[jD,Ps]at h
  split at h
  ·rename_i hmode
   have S4:draw=true:=by
    simp only[Bool.and_eq_true]at hmode;exact hmode.1
   subst S4
   split at h
   ·rename_i vl ef
    obtain⟨rz,T0⟩:=eC.drew
    have C4:=GP (X:=Sound P) p7 ops.size _ vc env σ h (fun k i h=>by
     exfalso
     rcases Nat.lt_or_ge k ops.size with hk|hk
     ·simp[hk]at h
     ·simp[Nat.not_lt.2 hk]at h) hv
    refine sS (wp_region_any hm ?_)
    exact Eb ef ops.size _ env σ a w.drew D ι (fun _=>False) C4 rz.J7 rz.used (fun _ h=>h.elim) rz.env rz.size fun jy σ1 a1 w1 D1 ι1 hk T jX hd hle=>hQ .normal jy σ1 a1 w1 D1 ι1 hk (T0.trans T) jX hd hle
   ·cases h
  split at h
  ·rename_i hcom
   have S4:draw=false:=by
    simp only[Bool.and_eq_true,Bool.not_eq_true']at hcom;exact hcom.1
   subst S4
   simp only[Option.map_eq_some_iff]at h
   obtain⟨vl,nQ,rfl⟩:=h
   have ef:allM (l5 P ops nt ((vg*1000+id)*1000) false false #[] []) ops.toList 0=some vl:=by
    unfold qY at nQ
    simp only[Bool.false_eq_true,if_false,Bool.not_false,Bool.true_or,if_true]at nQ
    split at nQ
    ·rename_i tb h;simp at nQ;subst nQ;exact h
    ·cases nQ
   refine DD ?_
   have:=Fw (Q:=Q') ops.toList vl 0 env σ a w D ι rfl ef hv eC.J7 eC.used eC.env eC.size fun jy σ1 a1 w1 D1 ι1 hk T jX hd hle=>hQ .normal jy σ1 a1 w1 D1 ι1 hk T jX hd hle
   rwa [<-List.range_eq_range',Array.length_toList]at this
  generalize (vZ md id==1)=mk at h
  simp only[Option.map_eq_some_iff]at h
  obtain⟨vl,nQ,rfl⟩:=h
  cases draw with
  |false=>
   have ef:∃tb,allM (l5 P ops nt ((vg*1000+id)*1000) false mk #[] []) ops.toList 0=some tb/\vl=tb:=by
    unfold qY at nQ
    simp only[Bool.false_eq_true,if_false,Bool.not_false,Bool.true_or,if_true]at nQ
    split at nQ
    ·rename_i tb h;simp at nQ;exact⟨tb,h,nQ.symm⟩
    ·cases nQ
   obtain⟨tb,ef,rfl⟩:=ef
   refine sS (wp_region_list ?_)
   exact Gq ops.toList vl 0 env σ a w D ι (fun _=>False) ef hv eC.J7 eC.used (fun _ h=>h.elim) eC.env eC.size fun jy σ1 a1 w1 D1 ι1 hk T jX hd hle=>hQ .normal jy σ1 a1 w1 D1 ι1 hk T jX hd hle
  |true=>
   have ef:∃hidden tb,allM (l5 P ops nt ((vg*1000+id)*1000) true mk (jx ops) hidden) ops.toList 0=some tb/\vl=tb/\oy ops tb (jx ops)=true:=by
    unfold qY at nQ
    simp only[if_true,Bool.not_true,Bool.false_or]at nQ
    split at nQ
    ·rename_i tb h
     split at nQ
     ·rename_i vN;simp at nQ;exact⟨_,tb,h,nQ.symm,vN⟩
     ·cases nQ
    ·cases nQ
   obtain⟨hidden,tb,ef,rfl,vN⟩:=ef
   obtain⟨rz,T0⟩:=eC.drew
   obtain⟨hlen,_⟩:=oq ef
   have jG:vl.length=ops.size:=by rw[hlen];simp
   have C4:=wV (X:=Sound P) (K:=Q .normal) (n:=σ.next) vN jG vl 0 (Array.replicate ops.size false) env σ.get (by simp) (by simp) (fun i hi=>by simp[hi]) (by simp[jG]) (fun k i h=>by
    exfalso
    rcases Nat.lt_or_ge k ops.size with hk|hk
    ·simp[hk]at h
    ·simp[Nat.not_lt.2 hk]at h) hv
   refine sS (wp_region_any hm ?_)
   rw[jG]at C4
   exact xN ef ops.size _ env σ.get a w.drew D ι (fun _=>False) C4 rz.J7 rz.used (fun _ h=>h.elim) rz.env rz.size fun jy g1 a1 w1 D1 ι1 U1 hk T S1 R9 E1 Aq hd=>hQ .normal jy ⟨g1,σ.next+1⟩ a1 w1 D1 ι1 hk (T0.trans T) ⟨S1,R9.next,E1,Aq⟩ hd (Nat.le_succ _)
 |_=>
  intro vc h
  simp[jD]at h
def Jd (tmps:Array Value):ResultVar->Sem Value
 | .tmp t=>pure (tmps.getD t undef)
 | .cell a t=>do loadVar t (<-asAddr (tmps.getD a undef))
theorem DM (fn:Func) (tmps:Array Value):results fn tmps=(do
  let vs <-fn.results.mapM (Jd tmps)
  pure (if h:vs.size=1 then vs[0]else .tuple vs)):=by
 unfold results
 congr 2
theorem tL {nt:Nat} {env:Env} {σ:aw} {a:Act} {D:Nat->Prop} {ι:Names} (eC:St P hs nt D ι env σ a w):∀(rs:List ResultVar) (vr:List oj) (vs:List AV),rs.mapM (CO P)=some vr->ft env σ.get vr=some vs->
  ∃us:List Value,(rs.mapM (Jd a.tmps)).run P w=.ok us w/\us.length=vs.length/\∀(j:Nat) (v:AV),vs[j]? =some v->∃u,us[j]? =some u/\dj P w D ι v u
 |[],vr,vs,h,hv=>by
  simp at h;subst h
  simp[ft]at hv;subst hv
  exact⟨[],by simp,rfl,fun j v h=>by simp at h⟩
 |r::rs,vr,vs,h,hv=>by
  simp only[List.mapM_cons,Option.bind_eq_bind,Option.bind_eq_some_iff]at h
  obtain⟨x,hx,vr',hr,h⟩:=h
  simp at h;subst h
  simp only[ft,Option.bind_eq_some_iff,Option.map_eq_some_iff]at hv
  obtain⟨v,tz,vs',J6,rfl⟩:=hv
  obtain⟨us,h1,h2,h3⟩:=tL eC rs vr' vs' hr J6
  have one:∃u,(Jd a.tmps r).run P w=.ok u w/\dj P w D ι v u:=by
   cases r with
   |tmp t=>
    simp[CO]at hx;subst hx
    simp[ij]at tz;subst tz
    exact⟨_,rfl,eC.env t⟩
   |cell b t=>
    simp only[CO,Option.bind_eq_bind,Option.bind_eq_some_iff,Option.pure_def,Option.some.injEq]at hx
    obtain⟨ag,uv,n,hn,rfl⟩:=hx
    simp only[ij]at tz
    have gC:=eC.env b
    unfold ld at tz
    split at tz
    ·rename_i kF i' oo hb
     rw[hb]at gC
     obtain⟨B,he,hB,hk⟩:=jr gC
     simp only[Option.bind_eq_some_iff]at tz
     obtain⟨cs,du,hp⟩:=tz
     obtain⟨B',r0,G6,dJ,R,hi,fl,f,hf⟩:=Jh (S:=eC.J7) du (fun B2 h2=>by rw[hB]at h2;injection h2 with h2;subst h2;exact hk)
     rw[hB]at dJ;injection dJ with dJ;subst dJ
     obtain⟨u,k1,k2⟩:=km (w:=w) (b:=B.b) (oo:=i'*B.sz+oo) (f:=fun j=>f (oo+j)) uv hn hp (fun a ha=>fl a (List.mem_of_mem_drop ha)) (fun j hj=>by
      rw[Nat.add_assoc];exact(hf _ (by simp at hj;omega)).1) (fun j a ha=>by
      simp at ha;exact(hf _ ((List.getElem?_eq_some_iff.1 ha).1)).2 _ ha)
     exact⟨u,by simp only[Jd,he,asAddr,Sem.run_bind,Sem.run_pure,Result.andThen_ok,k1],k2⟩
    ·rename_i cs hb
     rw[hb]at gC
     obtain⟨b',oo,vs2,he,q1,q2,q3,q4⟩:=kR gC
     obtain⟨u,k1,k2⟩:=km (w:=w) (b:=b') (oo:=oo) (f:=vs2) uv hn tz q2 q3 (fun j a ha=>.eU _ _ (q4 j a ha))
     exact⟨u,by simp only[Jd,he,asAddr,Sem.run_bind,Sem.run_pure,Result.andThen_ok,k1],k2⟩
    ·simp at tz
  obtain⟨u,hu,xx⟩:=one
  refine⟨u::us,?_,by simp[h2],fun j v' hj=>?_⟩
  ·rw[List.mapM_cons]
   simp only[Sem.run_bind,hu,h1,Result.andThen_ok,Sem.run_pure]
  ·cases j with
   |zero=>simp at hj;subst hj;exact⟨u,rfl,xx⟩
   |succ j=>simp at hj ⊢;exact h3 j v' hj
theorem uR {f:Nat} {fn:Func} {c:Code} {args:List AV} {σ:aw} {K:AV->aw->Prop} {vr:List oj} (OQ:P.funcs[f]? =some fn) (hc:fn.body=some c) (hr:fn.results.toList.mapM (CO P)=some vr) (ha:fn.params.size+fn.nfree=args.length) (hle:fn.params.size+fn.nfree<=fn.ntmps)
  (h:∀(hs:Nat) (w:World) (D:Nat->Prop) (ι:Names) (a:Act) (Q':Exit->Act->World->Prop),St P hs fn.ntmps D ι (cu args) σ a w->uL P hs fn.ntmps a.defers (kS vr K) σ.next D ι w Q'->CC P c Q' a w):Sound P f args σ K:=by
 intro hs D ι w vs S Us A
 have fe:vs.size=args.length:=A.1
 refine y5 OQ hc ?_
 refine h hs w D ι _ _ ⟨S,Us,fun t=>?_,by simp;omega⟩ fun ex jy σ1 a1 w1 D1 ι1 hq T jX hd hle=>?_
 ·simp only[cu]
  by_cases eo:t<args.length
  ·obtain⟨u,hu,xx⟩:=A.2 t args[t] (List.getElem?_eq_getElem eo)
   have e1:args.getD t .undef=args[t]:=by simp[List.getD_eq_getElem?_getD,eo]
   have e2:(vs++Array.replicate (fn.ntmps-vs.size) undef).getD t undef=u:=by
    simp only[Array.getD_eq_getD_getElem?]
    rw[Array.getElem?_append_left (by omega),hu];rfl
   rw[e1,e2];exact xx
  ·have e1:args.getD t .undef=.undef:=by simp[List.getD_eq_getElem?_getD,Nat.le_of_not_lt eo]
   have e2:(vs++Array.replicate (fn.ntmps-vs.size) undef).getD t undef=undef:=by
    simp only[Array.getD_eq_getD_getElem?]
    rw[Array.getElem?_append_right (by omega),Array.getElem?_replicate]
    split<;>rfl
   rw[e1,e2];exact dj.undef
 ·have fin:(∃vs,ft jy σ1.get vr=some vs/\K (fh vs) σ1)->a1.defers=[]/\∃v,(results fn a1.tmps).run P w1=.ok v w1/\∃r g' n' D' ι' u,Ending.returned v=.returned u/\K r ⟨g',n'⟩/\Step hs D ι w D' ι' w1/\gi P hs D' ι' g' w1/\Used ι' n' (fun _=>False)/\σ.next<=n'/\dj P w1 D' ι' r u:=by
   rintro⟨avs,J6,hK⟩
   obtain⟨us,h1,h2,h3⟩:=tL jX fn.results.toList vr avs hr J6
   have NJ:(results fn a1.tmps).run P w1=.ok (if h:us.toArray.size=1 then us.toArray[0]else .tuple us.toArray) w1:=by
    rw[DM,Array.mapM_eq_mapM_toList]
    simp only[Sem.run_bind,Sem.run_map,h1,Result.andThen_ok,Sem.run_pure]
   refine⟨hd,_,NJ,fh avs,σ1.get,σ1.next,D1,ι1,_,rfl,hK,T,jX.J7,jX.used,hle,?_⟩
   unfold fh
   split
   ·rename_i v
    have hl:us.length=1:=h2
    obtain⟨u,hu,xx⟩:=h3 0 v rfl
    rw[dif_pos (by simpa using hl)]
    have:us.toArray[0]'(by simp[hl])=u:=by
     have:=(List.getElem?_eq_some_iff.1 hu).2
     simpa using this
    rw[this];exact xx
   ·rename_i gM
    rw[dif_neg (by
     simp only[List.size_toArray,h2]
     intro h
     obtain⟨v,hv⟩:=List.length_eq_one_iff.1 h
     exact gM v hv)]
    exact .iO _ _ (fun j=>us.getD j undef) (by simp[h2]) (fun j hj=>by
     have:j<us.length:=by rw[h2];exact hj
     simp[this]) (fun j v hj=>by
     obtain⟨u,hu,xx⟩:=h3 j v hj
     simpa[List.getD_eq_getElem?_getD,hu]using xx)
  cases ex with
  |normal=>exact fin hq
  |ret=>exact fin hq
  |exit id=>exact hq.elim
theorem HV (hm:P.follows .mixedOrders=true) {f:Nat} {md:List (Nat×Nat)} {vf:xg} {args:List AV} {σ:aw} {K:AV->aw->Prop} (hf:ss P f md=some vf) (ha:vf.yD=args.length) (h:eh (Sound P) vf.body (kS vf.res K) (cu args) σ):Sound P f args σ K:=by
 unfold ss at hf
 split at hf
 ·rename_i fn OQ
  split at hf
  ·rename_i c hc
   simp only[Option.bind_eq_bind,Option.bind_eq_some_iff]at hf
   obtain⟨vb,hb,vr,hr,hf⟩:=hf
   split at hf
   ·rename_i hle
    simp only[Option.pure_def,Option.some.injEq]at hf
    subst hf
    simp only at ha h
    exact uR OQ hc hr ha hle fun hs w D ι a Q' eC hQ=>u7 hm c vb hb (kS vr K) (cu args) σ a w D ι Q' h eC hQ
   ·simp at hf
  ·simp at hf
 ·simp at hf
def Mv (P:Program) (X:fJ):fJ:=fun f args σ K=>(∃md vf,ss P f md=some vf/\vf.yD=args.length/\((∀a∈args,eH a)->eh X vf.body (kS vf.res K) (cu args) σ))∨Sound P f args σ K
def Call (P:Program):fJ:=fun f args σ K=>∀X:fJ,pP X->(∀f args σ K,Mv P X f args σ K->X f args σ K)->X f args σ K
theorem ib (hm:P.follows .mixedOrders=true) {f:Nat} {args:List AV} {σ:aw} {K:AV->aw->Prop} (h:Call P f args σ K):Sound P f args σ K:=
 h (Sound P) p7 fun f args σ K hs=>by
  rcases hs with⟨md,vf,h1,h2,h3⟩|h
  ·intro hs D ι w vs S U A
   exact HV hm h1 h2 (h3 (oN fun j a hj=>by obtain⟨u,_,hr⟩:=A.2 j a hj;exact hr.IF)) hs D ι w vs S U A
  ·exact h
end
end Go.Proofs.YtgoelphibofcmaaGreat.V

namespace Go.Proofs.YtgoelphibofcmaaGreat.V
open Go.RowKit
variable {P:Program} {X Y:fJ}
theorem Hi (h:∀f args σ K,X f args σ K->Y f args σ K) {f:Nat} {args:List AV} {σ:aw} {K:AV->Prop} (hp:fI X f args σ K):fI Y f args σ K:=by
 rcases hp with hp|⟨a,h1,h2⟩
 ·exact .inl (h _ _ _ _ hp)
 ·exact .inr ⟨a,h1,h _ _ _ _ h2⟩
theorem J9 (h:∀f args σ K,X f args σ K->Y f args σ K) {f:Nat} {args:List AV} {σ:aw} {sz:Nat} {rows:List (List AV)} (hp:CM X f args σ sz rows):CM Y f args σ sz rows:=by
 obtain⟨h1,a,h2,h3⟩:=hp
 exact⟨h1,a,h2,h _ _ _ _ h3⟩
theorem qd (h:∀f args σ K,X f args σ K->Y f args σ K) (hK:∀f args σ K K',(∀r σ',K r σ'->K' r σ')->Y f args σ K->Y f args σ K') {draw:Bool} {hid:List Nat} {site:Nat} {f:Nat} {args:List AV} {σ:aw} {n n':AV->aw->Prop} (hn:∀v σ',n v σ'->n' v σ') (hp:cF X draw hid site f args σ n):cF Y draw hid site f args σ n':=by
 rcases hp with⟨r,h1,h2⟩|⟨h1,h2⟩|⟨h1,sz,rows,h2,h3⟩
 ·exact .inl ⟨r,Hi h h1,hn _ _ h2⟩
 ·exact .inr (.inl ⟨h1,hK _ _ _ _ _ hn (h _ _ _ _ h2)⟩)
 ·exact .inr (.inr ⟨h1,sz,rows,J9 h h2,hn _ _ h3⟩)
theorem r7 (h:∀f args σ K,X f args σ K->Y f args σ K) (hK:∀f args σ K K',(∀r σ',K r σ'->K' r σ')->Y f args σ K->Y f args σ K') {draw:Bool} {o:bB} {env:Env} {σ:aw} {n n':AV->aw->Prop} (hn:∀v σ',n v σ'->n' v σ') (hp:fj X draw o env σ n):fj Y draw o env σ n':=by
 unfold fj at hp ⊢
 split at hp
 ·exact qd h hK hn hp
 ·split at hp
  ·exact qd h hK hn hp
  ·exact qd h hK hn hp
  ·exact hp.elim
 ·split at hp
  ·exact hn _ _ hp
  ·exact hp.elim
 ·split at hp
  ·exact hn _ _ hp
  ·exact hp.elim
 ·split at hp
  ·exact hn _ _ hp
  ·exact hp.elim
 ·split at hp
  ·exact hn _ _ hp
  ·exact hp.elim
 ·split at hp
  ·exact hn _ _ hp
  ·exact hp.elim
 ·split at hp
  ·exact hn _ _ hp
  ·exact hn _ _ hp
  ·exact hp.elim
theorem nq (h:∀f args σ K,X f args σ K->Y f args σ K) (hK:∀f args σ K K',(∀r σ',K r σ'->K' r σ')->Y f args σ K->Y f args σ K') {draw:Bool} {Q Q':Env->aw->Prop} (hQ:∀e s,Q e s->Q' e s):∀(l:List bB) (env:Env) (σ:aw),wpOps X draw l Q env σ->wpOps Y draw l Q' env σ
 |[],env,σ,hp=>hQ _ _ hp
 |o::r,env,σ,hp=>by
  unfold wpOps at hp ⊢
  split at hp
  ·rename_i hw;rw[if_pos hw];exact r7 h hK (fun v σ'=>nq h hK hQ r _ _) hp
  ·rename_i hw;rw[if_neg hw];exact nq h hK hQ r _ _ hp
theorem np {Q Q':Env->aw->Prop} (hQ:∀e s,Q e s->Q' e s):∀(l:List bB) (env:Env) (σ:aw),cw l Q env σ->cw l Q' env σ
 |[],env,σ,hp=>hQ _ _ hp
 |o::r,env,σ,hp=>by
  unfold cw at hp ⊢
  refine⟨hp.1,?_⟩
  replace hp:=hp.2
  split at hp
  ·split at hp
   ·exact np hQ r _ _ hp
   ·exact hp.elim
  ·split at hp
   ·exact np hQ r _ _ hp
   ·exact hp.elim
  ·split at hp
   ·exact np hQ r _ _ hp
   ·exact hp.elim
theorem kY (h:∀f args σ K,X f args σ K->Y f args σ K) (hK:∀f args σ K K',(∀r σ',K r σ'->K' r σ')->Y f args σ K->Y f args σ K'):∀(c:VC) (Q Q':Ex->Env->aw->Prop) (env:Env) (σ:aw),(∀x e s,Q x e s->Q' x e s)->eh X c Q env σ->eh Y c Q' env σ:=by
 intro c
 induction c with
 |skip=>intro Q Q' env σ hQ hp;exact hQ _ _ _ hp
 |exit id=>intro Q Q' env σ hQ hp;exact hQ _ _ _ hp
 |ret=>intro Q Q' env σ hQ hp;exact hQ _ _ _ hp
 |one o c ih=>
  intro Q Q' env σ hQ hp
  unfold eh at hp ⊢
  split at hp
  ·rename_i hw;rw[if_pos hw];exact r7 h hK (fun v σ'=>ih Q Q' _ _ hQ) hp
  ·rename_i hw;rw[if_neg hw];exact ih Q Q' _ _ hQ hp
 |both a b iha ihb=>intro Q Q' env σ hQ hp;exact⟨iha Q Q' env σ hQ hp.1,ihb Q Q' env σ hQ hp.2⟩
 |loc t s y c ih=>intro Q Q' env σ hQ hp;exact⟨hp.1,ih Q Q' env σ hQ hp.2⟩
 |MT ops=>intro Q Q' env σ hQ hp;exact np (hQ .normal) ops env σ hp
 |dm draw ops=>intro Q Q' env σ hQ hp;exact nq h hK (hQ .normal) ops env σ hp
 |seq a b iha ihb=>
  intro Q Q' env σ hQ hp
  refine iha _ _ env σ (fun x e s hx=>?_) hp
  cases x with
  |normal=>exact ihb Q Q' e s hQ hx
  |exit id=>exact hQ _ _ _ hx
  |ret=>exact hQ _ _ _ hx
 |cond c a b iha ihb=>
  intro Q Q' env σ hQ hp
  unfold eh at hp ⊢
  split at hp
  ·rename_i t ht
   cases t with
   |true=>exact iha Q Q' env σ hQ hp
   |false=>exact ihb Q Q' env σ hQ hp
  ·exact hp.elim
 |block id a iha=>
  intro Q Q' env σ hQ hp
  refine iha _ _ env σ (fun x e s hx=>?_) hp
  cases x with
  |normal=>exact hQ _ _ _ hx
  |ret=>exact hQ _ _ _ hx
  |exit kF=>
   unfold bl at hx ⊢
   dsimp only at hx ⊢
   split at hx
   ·rename_i hid;rw[if_pos hid];exact hQ _ _ _ hx
   ·rename_i hid;rw[if_neg hid];exact hQ _ _ _ hx
 |loop a iha=>
  intro Q Q' env σ hQ hp
  obtain⟨n,hp⟩:=hp
  refine⟨n,?_⟩
  induction n generalizing env σ with
  |zero=>exact hp
  |succ n ihn=>
   refine iha _ _ env σ (fun x e s hx=>?_) hp
   cases x with
   |normal=>exact ihn e s hx
   |exit id=>exact hQ _ _ _ hx
   |ret=>exact hQ _ _ _ hx
theorem aJ:pP (Call P):=fun _ _ _ _ _ hK h X hX hc=>hX _ _ _ _ _ hK (h X hX hc)
theorem xK {f:Nat} {args:List AV} {σ:aw} {K:AV->aw->Prop} (h:Mv P (Call P) f args σ K):Call P f args σ K:=by
 intro X hX hc
 refine hc _ _ _ _ ?_
 rcases h with⟨md,vf,h1,h2,h3⟩|h
 ·exact .inl ⟨md,vf,h1,h2,fun hl=>kY (fun f args σ K h=>h X hX hc) hX _ _ _ _ _ (fun _ _ _ h=>h) (h3 hl)⟩
 ·exact .inr h
theorem uI {f:Nat} {md:List (Nat×Nat)} {args:List AV} {σ:aw} {K:AV->aw->Prop} {vf:xg} (hf:ss P f md=some vf) (ha:vf.yD=args.length) (h:(∀a∈args,eH a)->eh (Call P) vf.body (kS vf.res K) (cu args) σ):Call P f args σ K:=
 xK (.inl ⟨md,vf,hf,ha,h⟩)
theorem lR {f:Nat} {args:List AV} {σ:aw} {K:AV->aw->Prop} {vf:xg} (hf:lZ P f=some vf) (ha:vf.yD=args.length) (h:(∀a∈args,eH a)->eh (Call P) vf.body (kS vf.res K) (cu args) σ):Call P f args σ K:=
 uI hf ha h
theorem gD {f:Nat} {args:List AV} {σ:aw} {K:AV->aw->Prop} (h:Sound P f args σ K):Call P f args σ K:=xK (.inr h)
def iU (P:Program) (f:Nat) (args:List AV) (r:AV):Prop:=∀σ,PC (Call P) f args σ (fun r'=>r'=r)
theorem iU.body {f:Nat} {args:List AV} {r:AV} {nt na:Nat} {body:VC} {res:List oj} (hf:lZ P f=some ⟨nt,na,body,res⟩) (ha:na=args.length) (h:(∀a∈args,eH a)->∀σ:aw,eh (Call P) body (kS res fun r0 σ'=>∃r',fz σ'.get 6 r0=some r'/\r'=r) (cu args) ⟨V.ro σ.get,σ.next⟩):iU P f args r:=fun σ=>lR hf ha fun hl=>h hl σ
variable {Q:Ex->Env->aw->Prop} {K:Env->aw->Prop} {env:Env} {σ:aw}
theorem Fg {a b:VC} (h:∀N:Env->aw->Prop,(∀e s,eh X b Q e s->N e s)->eh X a (dp N Q) env σ):eh X (.seq a b) Q env σ:=h _ fun _ _ h=>h
theorem Af (h:Q .normal env σ):eh X .skip Q env σ:=h
theorem Ac {id:Nat} (h:Q (.exit id) env σ):eh X (.exit id) Q env σ:=h
theorem Ff (h:Q .ret env σ):eh X .ret Q env σ:=h
theorem uC {id:Nat} {c:VC} (h:eh X c (bl id Q) env σ):eh X (.block id c) Q env σ:=h
theorem Cj {o:bB} {c:VC} (h:∀N:AV->aw->Prop,(∀v s,eh X c Q (upd env o.dst v) s->N v s)->if aM o.guard env then fj X false o env σ N else N .undef σ):eh X (.one o c) Q env σ:=by
 have:=h (fun v s=>eh X c Q (upd env o.dst v) s) fun _ _ h=>h
 unfold eh
 split
 ·rename_i hw;rw[if_pos hw]at this;exact this
 ·rename_i hw;rw[if_neg hw]at this;exact this
def dX (s n:Nat):AV->Prop
 | .own id 0 _=>id=⟨s,n⟩
 |_=>False
def eb (n:Nat):AV->Prop
 | .own id _ _=>¬id.cq=n
 |_=>True
theorem Ad {t s:Nat} {y:O} {c:VC} (h1:dX s σ.next (env t)) (h2:eb σ.next (da env y)) (h:eh X c Q env σ):eh X (.loc t s y c) Q env σ:=by
 refine⟨⟨?_,fun id o l he=>?_⟩,h⟩
 ·revert h1
  unfold dX
  split
  ·rename_i id l he;rintro rfl;exact⟨l,he⟩
  ·exact fun h=>h.elim
 ·rw[he]at h2;exact h2
theorem dI {a b:VC} (ha:eh X a Q env σ) (hb:eh X b Q env σ):eh X (.both a b) Q env σ:=⟨ha,hb⟩
theorem Fe {draw:Bool} {ops:List bB} (h:∀N:Env->aw->Prop,(∀e s,Q .normal e s->N e s)->wpOps X draw ops N env σ):eh X (.dm draw ops) Q env σ:=h _ fun _ _ h=>h
theorem JJ {ops:List bB} (h:cw ops (Q .normal) env σ):eh X (.MT ops) Q env σ:=h
theorem Fc {draw:Bool} (h:K env ⟨σ.get,σ.next+1⟩):wpOps X draw [] K env σ:=h
theorem Ol {draw:Bool} {o:bB} {r:List bB} (h:∀N:AV->aw->Prop,(∀v s,wpOps X draw r K (upd env o.dst v) s->N v s)->if aM o.guard env then fj X draw o env σ N else N .undef σ):wpOps X draw (o::r) K env σ:=by
 have:=h (fun v s=>wpOps X draw r K (upd env o.dst v) s) fun _ _ h=>h
 unfold wpOps
 split
 ·rename_i hw;rw[if_pos hw]at this;exact this
 ·rename_i hw;rw[if_neg hw]at this;exact this
theorem JK {c:O} {x y:VC} {b:Bool} (hc:da env c=.bool b) (ht:b=true->eh X x Q env σ) (hf:b=false->eh X y Q env σ):eh X (.cond c x y) Q env σ:=by
 unfold eh
 simp only[hc]
 cases b with
 |true=>exact ht rfl
 |false=>exact hf rfl
inductive nT:AV->Prop->Prop->Prop
 |t {A B:Prop}:A->nT (.bool true) A B
 |f {A B:Prop}:B->nT (.bool false) A B
theorem uD {c:O} {x y:VC} {v:AV} (hv:da env c=v) (h:nT v (eh X x Q env σ) (eh X y Q env σ)):eh X (.cond c x y) Q env σ:=by
 cases h with
 |t h=>exact JK hv (fun _=>h) (fun e=>by cases e)
 |f h=>exact JK hv (fun e=>by cases e) (fun _=>h)
theorem Oj {c:VC} (I:Nat->Env->aw->Prop) (n:Nat) (h0:I n env σ) (step:∀n env σ,I n env σ->eh X c (fun x e s=>match x with| .normal=>∃m,m<n/\I m e s|x=>Q x e s) env σ)
  (hX:∀(c:VC) (Q Q':Ex->Env->aw->Prop) env σ,(∀x e s,Q x e s->Q' x e s)->eh X c Q env σ->eh X c Q' env σ):eh X (.loop c) Q env σ:=by
 have key:∀N n env σ,n<N->I n env σ->EZ (eh X c) Q N env σ:=by
  intro N
  induction N with
  |zero=>intro n env σ h;exact absurd h (Nat.not_lt_zero _)
  |succ N ih=>
   intro n env σ hn hI
   refine hX c _ _ env σ (fun x e s hx=>?_) (step n env σ hI)
   cases x with
   |normal=>obtain⟨m,hm,hI'⟩:=hx;exact ih m e s (by omega) hI'
   |exit id=>exact hx
   |ret=>exact hx
 exact⟨n+1,key _ n env σ (Nat.lt_succ_self _) h0⟩
theorem LL {c:VC} (I:Nat->Env->aw->Prop) (n:Nat) (h0:I n env σ) (step:∀n env σ,I n env σ->eh (Call P) c (fun x e s=>match x with| .normal=>∃m,m<n/\I m e s|x=>Q x e s) env σ):eh (Call P) (.loop c) Q env σ:=
 Oj I n h0 step fun c Q Q' env σ hQ h=>kY (fun _ _ _ _ h=>h) aJ c Q Q' env σ hQ h
def Ek:VC->List Nat
 | .dm _ ops=>ops.filterMap (·.dst)
 | .seq a b=>Ek a++Ek b
 | .cond _ a b=>Ek a++Ek b
 | .block _ a=>Ek a
 | .loop a=>Ek a
 | .one o c=>o.dst.toList++Ek c
 | .both a b=>Ek a++Ek b
 | .loc _ _ _ c=>Ek c
 | .MT ops=>ops.filterMap (·.dst)
 |_=>[]
def iF (l:List Nat) (env iA:Env):Prop:=∀t,l.contains t=false->iA t=env t
theorem iF.refl (l:List Nat) (env:Env):iF l env env:=fun _ _=>rfl
theorem iF.trans {l:List Nat} {e e' e'':Env} (h:iF l e e') (k:iF l e' e''):iF l e e'':=fun t ht=>(k t ht).trans (h t ht)
theorem iF.sub {l l':List Nat} {e e':Env} (h:iF l e e') (hs:∀t,t∈l->t∈l'):iF l' e e':=fun t ht=>h t (by
 rw[<-Bool.not_eq_true]at ht ⊢
 simp only[List.contains_iff_mem]at ht ⊢
 exact fun hc=>ht (hs t hc))
theorem iF.upd {l:List Nat} {e e':Env} {d:Option Nat} {v:AV} (h:iF l e e') (hd:∀t,d=some t->t∈l):iF l e (upd e' d v):=fun t ht=>by
 cases d with
 |none=>exact h t ht
 |some d=>
  have:t≠d:=fun hc=>by subst hc;rw[<-Bool.not_eq_true,List.contains_iff_mem]at ht;exact ht (hd _ rfl)
  show(if t=d then v else e' t)=e t
  rw[if_neg this];exact h t ht
theorem o8 {draw:Bool} {Q:Env->aw->Prop} {l:List Nat} {e0:Env}:∀(ops:List bB) (env:Env) (σ:aw),(∀t,t∈ops.filterMap (·.dst)->t∈l)->iF l e0 env->wpOps (Call P) draw ops Q env σ->wpOps (Call P) draw ops (fun e s=>Q e s/\iF l e0 e) env σ
 |[],env,σ,_,hk,hp=>⟨hp,hk⟩
 |o::r,env,σ,hl,hk,hp=>by
  have hd:∀t,o.dst=some t->t∈l:=fun t ht=>hl t (List.mem_filterMap.2 ⟨o,by simp,ht⟩)
  have hr:∀t,t∈r.filterMap (·.dst)->t∈l:=fun t ht=>hl t (by
   obtain⟨x,hx,h⟩:=List.mem_filterMap.1 ht
   exact List.mem_filterMap.2 ⟨x,List.mem_cons_of_mem _ hx,h⟩)
  unfold wpOps at hp ⊢
  split at hp
  ·rename_i hw;rw[if_pos hw]
   exact r7 (fun _ _ _ _ h=>h) aJ (fun v σ' h=>o8 r _ _ hr (hk.upd hd) h) hp
  ·rename_i hw;rw[if_neg hw];exact o8 r _ _ hr (hk.upd hd) hp
theorem lD {Q:Env->aw->Prop} {l:List Nat} {e0:Env}:∀(ops:List bB) (env:Env) (σ:aw),(∀t,t∈ops.filterMap (·.dst)->t∈l)->iF l e0 env->cw ops Q env σ->cw ops (fun e s=>Q e s/\iF l e0 e) env σ
 |[],env,σ,_,hk,hp=>⟨hp,hk⟩
 |o::r,env,σ,hl,hk,hp=>by
  have hd:∀t,o.dst=some t->t∈l:=fun t ht=>hl t (List.mem_filterMap.2 ⟨o,by simp,ht⟩)
  have hr:∀t,t∈r.filterMap (·.dst)->t∈l:=fun t ht=>hl t (by
   obtain⟨x,hx,h⟩:=List.mem_filterMap.1 ht
   exact List.mem_filterMap.2 ⟨x,List.mem_cons_of_mem _ hx,h⟩)
  unfold cw at hp ⊢
  refine⟨hp.1,?_⟩
  replace hp:=hp.2
  split at hp
  ·split at hp
   ·exact lD r _ _ hr (hk.upd hd) hp
   ·exact hp.elim
  ·split at hp
   ·exact lD r _ _ hr (hk.upd hd) hp
   ·exact hp.elim
  ·split at hp
   ·exact lD r _ _ hr (hk.upd hd) hp
   ·exact hp.elim
theorem GX {l:List Nat} {e0:Env}:∀(c:VC) (Q:Ex->Env->aw->Prop) (env:Env) (σ:aw),(∀t,t∈Ek c->t∈l)->iF l e0 env->eh (Call P) c Q env σ->eh (Call P) c (fun x e s=>Q x e s/\iF l e0 e) env σ:=by
 intro c
 induction c with
 |skip=>intro Q env σ _ hk hp;exact⟨hp,hk⟩
 |exit id=>intro Q env σ _ hk hp;exact⟨hp,hk⟩
 |ret=>intro Q env σ _ hk hp;exact⟨hp,hk⟩
 |one o c ih=>
  intro Q env σ hl hk hp
  have hd:∀t,o.dst=some t->t∈l:=fun t ht=>hl t (List.mem_append_left _ (by rw[ht];simp))
  have hr:∀t,t∈Ek c->t∈l:=fun t ht=>hl t (List.mem_append_right _ ht)
  unfold eh at hp ⊢
  split at hp
  ·rename_i hw;rw[if_pos hw]
   exact r7 (fun _ _ _ _ h=>h) aJ (fun v σ' h=>ih Q _ _ hr (hk.upd hd) h) hp
  ·rename_i hw;rw[if_neg hw];exact ih Q _ _ hr (hk.upd hd) hp
 |both a b iha ihb=>
  intro Q env σ hl hk hp
  exact⟨iha Q env σ (fun t ht=>hl t (List.mem_append_left _ ht)) hk hp.1,ihb Q env σ (fun t ht=>hl t (List.mem_append_right _ ht)) hk hp.2⟩
 |loc t s y c ih=>intro Q env σ hl hk hp;exact⟨hp.1,ih Q env σ hl hk hp.2⟩
 |MT ops=>intro Q env σ hl hk hp;exact lD ops env σ hl hk hp
 |dm draw ops=>intro Q env σ hl hk hp;exact o8 ops env σ hl hk hp
 |seq a b iha ihb=>
  intro Q env σ hl hk hp
  refine kY (fun _ _ _ _ h=>h) aJ a _ _ env σ (fun x e s hx=>?_) (iha _ env σ (fun t ht=>hl t (List.mem_append_left _ ht)) hk hp)
  cases x with
  |normal=>exact ihb Q e s (fun t ht=>hl t (List.mem_append_right _ ht)) hx.2 hx.1
  |exit id=>exact hx
  |ret=>exact hx
 |cond c a b iha ihb=>
  intro Q env σ hl hk hp
  unfold eh at hp ⊢
  split at hp
  ·rename_i t ht
   cases t with
   |true=>exact iha Q env σ (fun t ht=>hl t (List.mem_append_left _ ht)) hk hp
   |false=>exact ihb Q env σ (fun t ht=>hl t (List.mem_append_right _ ht)) hk hp
  ·exact hp.elim
 |block id a iha=>
  intro Q env σ hl hk hp
  refine kY (fun _ _ _ _ h=>h) aJ a _ _ env σ (fun x e s hx=>?_) (iha _ env σ hl hk hp)
  obtain⟨hx,KJ⟩:=hx
  cases x with
  |normal=>exact⟨hx,KJ⟩
  |ret=>exact⟨hx,KJ⟩
  |exit kF=>
   unfold bl at hx ⊢
   dsimp only at hx ⊢
   split at hx
   ·rename_i hid;rw[if_pos hid];exact⟨hx,KJ⟩
   ·rename_i hid;rw[if_neg hid];exact⟨hx,KJ⟩
 |loop a iha=>
  intro Q env σ hl hk hp
  obtain⟨n,hp⟩:=hp
  refine⟨n,?_⟩
  induction n generalizing env σ with
  |zero=>exact hp
  |succ n ihn=>
   refine kY (fun _ _ _ _ h=>h) aJ _ _ _ _ _ (fun x e s hx=>?_) (iha _ env σ hl hk hp)
   obtain⟨hx,KJ⟩:=hx
   cases x with
   |normal=>exact ihn e s KJ hx
   |exit id=>exact⟨hx,KJ⟩
   |ret=>exact⟨hx,KJ⟩
theorem bh {c:VC} (I:Nat->Env->aw->Prop) (n:Nat) (h0:I n env σ) (step:∀n e s,I n e s->iF (Ek c) env e->eh (Call P) c (fun x e s=>match x with| .normal=>∃m,m<n/\I m e s|x=>Q x e s) e s):eh (Call P) (.loop c) Q env σ:=by
 refine LL (fun n e s=>I n e s/\iF (Ek c) env e) n ⟨h0,iF.refl _ _⟩ fun n e s hI=>?_
 refine kY (fun _ _ _ _ h=>h) aJ _ _ _ _ _ (fun x e' s' hx=>?_) (GX c _ e s (fun _ h=>h) hI.2 (step n e s hI.1 hI.2))
 obtain⟨hx,hk⟩:=hx
 cases x with
 |normal=>obtain⟨m,hm,h⟩:=hx;exact⟨m,hm,h,hk⟩
 |exit id=>exact hx
 |ret=>exact hx
theorem JM {k:Nat} (h:k<=9223372036854775807):IntKind.i64.wrap (k:Int)=k:=by rw[IntKind.wrap_i64];omega
theorem bQ {z:Int} (h: -9223372036854775808<=z/\z<=9223372036854775807):IntKind.i64.wrap z=z:=by rw[IntKind.wrap_i64];omega
theorem aC {k:Nat} (h:(k:Int)+1<=9223372036854775807):IntKind.i64.wrap ((k:Int)+1)=((k+1:Nat):Int):=by rw[IntKind.wrap_i64];omega
theorem all_succ {k:Nat} {p:Nat->Prop} (h:∀j,j<k->p j) (hk:p k):∀j,j<k+1->p j:=fun j hj=>by
 by_cases yf:j=k
 ·subst yf;exact hk
 ·exact h j (by omega)
theorem aH (g:Rows) (n:Nat) (k:IntKind) (m:Int):fz g (n+1) (.int k m)=some (.int k m):=by rw[fz]<;>intros<;>simp_all
theorem bd (g:Rows) (n:Nat) (b:Bool):fz g (n+1) (.bool b)=some (.bool b):=by rw[fz]<;>intros<;>simp_all
theorem br (g:Rows) (n:Nat) (b:ByteArray):fz g (n+1) (.str b)=some (.str b):=by rw[fz]<;>intros<;>simp_all
theorem bW (g:Rows) (n:Nat) (l:List (List AV)):fz g (n+1) (.sl l)=some (.sl l):=by rw[fz]<;>intros<;>simp_all
theorem aT (g:Rows) (n:Nat):fz g (n+1) .bq=some .bq:=by rw[fz]<;>intros<;>simp_all
theorem QP {t:Nat} {r r0:AV} {x:Ex} (hx:x=.ret∨x=.normal) (he:env t=r0) (hz:fz σ.get 6 r0=some r):kS [.tmp t] (fun r0 σ'=>∃r',fz σ'.get 6 r0=some r'/\r'=r) x env σ:=by
 have:∃vs,ft env σ.get [.tmp t]=some vs/\∃r',fz σ.get 6 (fh vs)=some r'/\r'=r:=⟨[env t],rfl,r,by subst he;exact hz,rfl⟩
 rcases hx with rfl|rfl
 ·exact this
 ·exact this
def au (P:Program) (f:Nat) (args:List AV) (r:AV):Prop:=∀n:Nat,Call P f args ⟨fun _=>none,n⟩ fun r0 σ'=>∃r',gn σ'.get 6 r0=some r'/\r'=r
theorem au.body {f:Nat} {args:List AV} {r:AV} {nt na:Nat} {body:VC} {res:List oj} (hf:lZ P f=some ⟨nt,na,body,res⟩) (ha:na=args.length) (h:(∀a∈args,eH a)->∀n:Nat,eh (Call P) body (kS res fun r0 σ'=>∃r',gn σ'.get 6 r0=some r'/\r'=r) (cu args) ⟨fun _=>none,n⟩):au P f args r:=fun n=>lR hf ha fun hl=>h hl n
theorem au.x {f:Nat} {args eF:List AV} {r:AV} (h:au P f eF r) {σ:aw} (hv:dd (dK σ.get) 6 args=some eF):fI (Call P) f args σ (fun r'=>r'=r):=.inr ⟨eF,hv,h _⟩
theorem iU.x {f:Nat} {args:List AV} {r:AV} (h:iU P f args r) (σ:aw):fI (Call P) f args σ (fun r'=>r'=r):=.inl (h σ)
theorem eA (g:Rows) (n:Nat) (k:IntKind) (m:Int):gn g (n+1) (.int k m)=some (.int k m):=by rw[gn]<;>intros<;>simp_all
theorem fN (g:Rows) (n:Nat) (b:Bool):gn g (n+1) (.bool b)=some (.bool b):=by rw[gn]<;>intros<;>simp_all
theorem Kv (g:Rows) (n:Nat) (b:ByteArray):gn g (n+1) (.str b)=some (.str b):=by rw[gn]<;>intros<;>simp_all
theorem jj (g:Rows) (n:Nat):gn g (n+1) .bq=some .bq:=by rw[gn]<;>intros<;>simp_all
theorem eM (g:Rows) (n:Nat) (l:List AV):gn g (n+1) (.iO l)=(ew g n l).map AV.iO:=by rw[gn]
theorem re (g:Rows) (n:Nat) (l:List AV):gn g (n+1) (.agg l)=(ew g n l).map AV.agg:=by rw[gn]
theorem uq {g:Rows} {n:Nat} {id:Id} {off len sz:Nat} {rows rows':List (List AV)} (h:g id=some ⟨true,sz,rows⟩) (hl:off+len<=rows.length) (hr:gU g n ((rows.drop off).take len)=some rows'):gn g (n+1) (.own id off len)=some (.sl rows'):=by
 rw[gn];simp only[h,if_true,if_pos hl,hr,Option.map_some]
theorem cD (g:Rows) (n:Nat):ew g n []=some []:=by rw[ew]
theorem bJ (g:Rows) (n:Nat) (a:AV) (l:List AV):ew g n (a::l)=match gn g n a with
  |some b=>(ew g n l).map (b::·)
  |none=>none:=by rw[ew];cases gn g n a<;>rfl
theorem tp {g:Rows} {n:Nat}:∀{l:List (List AV)},(∀c∈l,ew g n c=some c)->gU g n l=some l
 |[],_=>by rw[gU]
 |c::r,h=>by rw[gU,h c (by simp),tp fun d hd=>h d (List.mem_cons_of_mem _ hd)];rfl
theorem aZ (g:Rows) (n:Nat) (l:List AV):fz g (n+1) (.agg l)=(dd g n l).map AV.agg:=by rw[fz]
theorem aU (g:Rows) (n:Nat) (l:List AV):fz g (n+1) (.di l)=some (.di l):=by rw[fz]<;>intros<;>simp_all
theorem zg {g:Rows} {n:Nat} {id:Id} {i off sz:Nat} {rows:List (List AV)} {cs pR:List AV} (h:g id=some ⟨true,sz,rows⟩) (hi:rows[i]? =some cs) (hr:dd g n (cs.drop off)=some pR):fz g (n+1) (.ptr id i off)=some (.di pR):=by
 rw[fz];simp only[h,if_true,hi,hr,Option.map_some]
theorem ar (g:Rows) (n:Nat):dd g n []=some []:=by rw[dd]
theorem aj (g:Rows) (n:Nat) (a:AV) (l:List AV):dd g n (a::l)=match fz g n a with
  |some b=>(dd g n l).map (b::·)
  |none=>none:=by rw[dd];cases fz g n a<;>rfl
theorem wz {t:Nat} {r r0:AV} {x:Ex} (hx:x=.ret∨x=.normal) (he:env t=r0) (hz:gn σ.get 6 r0=some r):kS [.tmp t] (fun r0 σ'=>∃r',gn σ'.get 6 r0=some r'/\r'=r) x env σ:=by
 have:∃vs,ft env σ.get [.tmp t]=some vs/\∃r',gn σ.get 6 (fh vs)=some r'/\r'=r:=⟨[env t],rfl,r,by subst he;exact hz,rfl⟩
 rcases hx with rfl|rfl
 ·exact this
 ·exact this
theorem aX {t:Nat} {b c:Bool} {x:Ex} (hx:x=.ret∨x=.normal) (he:env t=.bool b) (hb:b=c):kS [.tmp t] (fun r0 σ'=>∃r',gn σ'.get 6 r0=some r'/\r'=.bool c) x env σ:=wz hx he (by rw[fN,hb])
theorem cm {t:Nat} {k:IntKind} {b c:Int} {x:Ex} (hx:x=.ret∨x=.normal) (he:env t=.int k b) (hb:b=c):kS [.tmp t] (fun r0 σ'=>∃r',gn σ'.get 6 r0=some r'/\r'=.int k c) x env σ:=wz hx he (by rw[eA,hb])
theorem js {t u:Nat} {r r1 r2:AV} {x:Ex} (hx:x=.ret∨x=.normal) (h1:env t=r1) (h2:env u=r2) (hz:gn σ.get 6 (.iO [r1,r2])=some r):kS [.tmp t,.tmp u] (fun r0 σ'=>∃r',gn σ'.get 6 r0=some r'/\r'=r) x env σ:=by
 have:∃vs,ft env σ.get [.tmp t,.tmp u]=some vs/\∃r',gn σ.get 6 (fh vs)=some r'/\r'=r:=⟨[env t,env u],rfl,r,by subst h1;subst h2;exact hz,rfl⟩
 rcases hx with rfl|rfl
 ·exact this
 ·exact this
structure Pn (p:Prop):Prop where
 out:p
theorem tw {A B:Prop} (a:A) (b:B):A/\B:=⟨a,b⟩
theorem wk {A R G:Prop} (a:A) (r:R) (h:A->R->G:=by
  intro fL kk
  (repeat(refine Pn.mk ?_;intro N hN))
  (first|((first|apply Fg|apply Fe);intro N hN)|((first|(apply Ol;intro N hN)|(apply Cj;intro N hN));simp only[go_sem, ↓reduceIte,Nat.reduceEqDiff,Nat.reduceAdd,Nat.reduceSub,Nat.reduceMul,Nat.reduceLeDiff,Nat.reduceBEq,reduceCtorEq,Nat.reduceLT,Int.reduceLE,Int.reduceLT,Int.reduceToNat,Int.reduceNeg,Int.reduceAdd,Int.reduceEq,fL];first|(refine hN _ _ ?_;clear hN N)|skip)|(apply uD;(simp only[go_sem, ↓reduceIte,Nat.reduceEqDiff,Nat.reduceAdd,Nat.reduceSub,Nat.reduceMul,Nat.reduceLeDiff,Nat.reduceBEq,reduceCtorEq,Nat.reduceLT,Int.reduceLE,Int.reduceLT,Int.reduceToNat,Int.reduceNeg,Int.reduceAdd,Int.reduceEq,fL];rfl);first|with_reducible apply nT.t|with_reducible apply nT.f)|(apply Fc;refine hN _ _ ?_;clear hN N;try(simp only[dp,bl, ↓reduceIte,Nat.reduceEqDiff]);try(refine hN _ _ ?_;clear hN N))|apply uC|(refine Ad ?_ ?_ ?_;(focus(simp only[go_sem, ↓reduceIte,Nat.reduceEqDiff,Nat.reduceAdd,Nat.reduceSub,Nat.reduceMul,Nat.reduceLeDiff,Nat.reduceBEq,reduceCtorEq,Nat.reduceLT,Int.reduceLE,Int.reduceLT,Int.reduceToNat,Int.reduceNeg,Int.reduceAdd,Int.reduceEq,fL];done));(focus(simp only[go_sem, ↓reduceIte,Nat.reduceEqDiff,Nat.reduceAdd,Nat.reduceSub,Nat.reduceMul,Nat.reduceLeDiff,Nat.reduceBEq,reduceCtorEq,Nat.reduceLT,Int.reduceLE,Int.reduceLT,Int.reduceToNat,Int.reduceNeg,Int.reduceAdd,Int.reduceEq,fL];done)))|((first|apply Af|apply Ac|apply Ff);try(simp only[dp,bl, ↓reduceIte,Nat.reduceEqDiff]);try(refine hN _ _ ?_;clear hN N))|((first|refine hN _ _ ?_|(clear hN N;first|refine hN _ _ ?_|(clear hN N;first|refine hN _ _ ?_|(clear hN N;first|refine hN _ _ ?_|(clear hN N;refine hN _ _ ?_)))));clear hN N))
  (repeat(first|((first|apply Fg|apply Fe);intro N hN)|((first|(apply Ol;intro N hN)|(apply Cj;intro N hN));simp only[go_sem, ↓reduceIte,Nat.reduceEqDiff,Nat.reduceAdd,Nat.reduceSub,Nat.reduceMul,Nat.reduceLeDiff,Nat.reduceBEq,reduceCtorEq,Nat.reduceLT,Int.reduceLE,Int.reduceLT,Int.reduceToNat,Int.reduceNeg,Int.reduceAdd,Int.reduceEq,fL];first|(refine hN _ _ ?_;clear hN N)|skip)|(apply uD;(simp only[go_sem, ↓reduceIte,Nat.reduceEqDiff,Nat.reduceAdd,Nat.reduceSub,Nat.reduceMul,Nat.reduceLeDiff,Nat.reduceBEq,reduceCtorEq,Nat.reduceLT,Int.reduceLE,Int.reduceLT,Int.reduceToNat,Int.reduceNeg,Int.reduceAdd,Int.reduceEq,fL];rfl);first|with_reducible apply nT.t|with_reducible apply nT.f)|(apply Fc;refine hN _ _ ?_;clear hN N;try(simp only[dp,bl, ↓reduceIte,Nat.reduceEqDiff]);try(refine hN _ _ ?_;clear hN N))|apply uC|(refine Ad ?_ ?_ ?_;(focus(simp only[go_sem, ↓reduceIte,Nat.reduceEqDiff,Nat.reduceAdd,Nat.reduceSub,Nat.reduceMul,Nat.reduceLeDiff,Nat.reduceBEq,reduceCtorEq,Nat.reduceLT,Int.reduceLE,Int.reduceLT,Int.reduceToNat,Int.reduceNeg,Int.reduceAdd,Int.reduceEq,fL];done));(focus(simp only[go_sem, ↓reduceIte,Nat.reduceEqDiff,Nat.reduceAdd,Nat.reduceSub,Nat.reduceMul,Nat.reduceLeDiff,Nat.reduceBEq,reduceCtorEq,Nat.reduceLT,Int.reduceLE,Int.reduceLT,Int.reduceToNat,Int.reduceNeg,Int.reduceAdd,Int.reduceEq,fL];done)))|((first|apply Af|apply Ac|apply Ff);try(simp only[dp,bl, ↓reduceIte,Nat.reduceEqDiff]);try(refine hN _ _ ?_;clear hN N))|((first|refine hN _ _ ?_|(clear hN N;first|refine hN _ _ ?_|(clear hN N;first|refine hN _ _ ?_|(clear hN N;first|refine hN _ _ ?_|(clear hN N;refine hN _ _ ?_)))));clear hN N)))
  (repeat(revert hN;revert N;apply Pn.out))
  exact kk):G:=h a r
theorem wa {A R G:Prop} (a:A) (r:R) (h:A->R->G:=by
  intro fL kk
  (repeat(refine Pn.mk ?_;intro N hN))
  (first|((first|apply Fg|apply Fe);intro N hN)|((first|(refine My rfl fun N hN=>?_)|(apply Cj;intro N hN));simp only[go_sem, ↓reduceIte,Nat.reduceEqDiff,Nat.reduceAdd,Nat.reduceSub,Nat.reduceMul,Nat.reduceLeDiff,Nat.reduceBEq,reduceCtorEq,Nat.reduceLT,Int.reduceLE,Int.reduceLT,Int.reduceToNat,Int.reduceNeg,Int.reduceAdd,Int.reduceEq,fL];first|(refine hN _ _ ?_;clear hN N)|skip)|(apply uD;(simp only[go_sem, ↓reduceIte,Nat.reduceEqDiff,Nat.reduceAdd,Nat.reduceSub,Nat.reduceMul,Nat.reduceLeDiff,Nat.reduceBEq,reduceCtorEq,Nat.reduceLT,Int.reduceLE,Int.reduceLT,Int.reduceToNat,Int.reduceNeg,Int.reduceAdd,Int.reduceEq,fL];rfl);first|with_reducible apply nT.t|with_reducible apply nT.f)|(apply Fc;refine hN _ _ ?_;clear hN N;try(simp only[dp,bl, ↓reduceIte,Nat.reduceEqDiff]);try(refine hN _ _ ?_;clear hN N))|apply uC|(refine Ad ?_ ?_ ?_;(focus(simp only[go_sem, ↓reduceIte,Nat.reduceEqDiff,Nat.reduceAdd,Nat.reduceSub,Nat.reduceMul,Nat.reduceLeDiff,Nat.reduceBEq,reduceCtorEq,Nat.reduceLT,Int.reduceLE,Int.reduceLT,Int.reduceToNat,Int.reduceNeg,Int.reduceAdd,Int.reduceEq,fL];done));(focus(simp only[go_sem, ↓reduceIte,Nat.reduceEqDiff,Nat.reduceAdd,Nat.reduceSub,Nat.reduceMul,Nat.reduceLeDiff,Nat.reduceBEq,reduceCtorEq,Nat.reduceLT,Int.reduceLE,Int.reduceLT,Int.reduceToNat,Int.reduceNeg,Int.reduceAdd,Int.reduceEq,fL];done)))|((first|apply Af|apply Ac|apply Ff);try(simp only[dp,bl, ↓reduceIte,Nat.reduceEqDiff]);try(refine hN _ _ ?_;clear hN N))|((first|refine hN _ _ ?_|(clear hN N;first|refine hN _ _ ?_|(clear hN N;first|refine hN _ _ ?_|(clear hN N;first|refine hN _ _ ?_|(clear hN N;refine hN _ _ ?_)))));clear hN N))
  (repeat(first|((first|apply Fg|apply Fe);intro N hN)|((first|(refine My rfl fun N hN=>?_)|(apply Cj;intro N hN));simp only[go_sem, ↓reduceIte,Nat.reduceEqDiff,Nat.reduceAdd,Nat.reduceSub,Nat.reduceMul,Nat.reduceLeDiff,Nat.reduceBEq,reduceCtorEq,Nat.reduceLT,Int.reduceLE,Int.reduceLT,Int.reduceToNat,Int.reduceNeg,Int.reduceAdd,Int.reduceEq,fL];first|(refine hN _ _ ?_;clear hN N)|skip)|(apply uD;(simp only[go_sem, ↓reduceIte,Nat.reduceEqDiff,Nat.reduceAdd,Nat.reduceSub,Nat.reduceMul,Nat.reduceLeDiff,Nat.reduceBEq,reduceCtorEq,Nat.reduceLT,Int.reduceLE,Int.reduceLT,Int.reduceToNat,Int.reduceNeg,Int.reduceAdd,Int.reduceEq,fL];rfl);first|with_reducible apply nT.t|with_reducible apply nT.f)|(apply Fc;refine hN _ _ ?_;clear hN N;try(simp only[dp,bl, ↓reduceIte,Nat.reduceEqDiff]);try(refine hN _ _ ?_;clear hN N))|apply uC|(refine Ad ?_ ?_ ?_;(focus(simp only[go_sem, ↓reduceIte,Nat.reduceEqDiff,Nat.reduceAdd,Nat.reduceSub,Nat.reduceMul,Nat.reduceLeDiff,Nat.reduceBEq,reduceCtorEq,Nat.reduceLT,Int.reduceLE,Int.reduceLT,Int.reduceToNat,Int.reduceNeg,Int.reduceAdd,Int.reduceEq,fL];done));(focus(simp only[go_sem, ↓reduceIte,Nat.reduceEqDiff,Nat.reduceAdd,Nat.reduceSub,Nat.reduceMul,Nat.reduceLeDiff,Nat.reduceBEq,reduceCtorEq,Nat.reduceLT,Int.reduceLE,Int.reduceLT,Int.reduceToNat,Int.reduceNeg,Int.reduceAdd,Int.reduceEq,fL];done)))|((first|apply Af|apply Ac|apply Ff);try(simp only[dp,bl, ↓reduceIte,Nat.reduceEqDiff]);try(refine hN _ _ ?_;clear hN N))|((first|refine hN _ _ ?_|(clear hN N;first|refine hN _ _ ?_|(clear hN N;first|refine hN _ _ ?_|(clear hN N;first|refine hN _ _ ?_|(clear hN N;refine hN _ _ ?_)))));clear hN N)))
  (repeat(revert hN;revert N;apply Pn.out))
  exact kk):G:=h a r
theorem sd {A G:Prop} (a:A) (h:A->G:=by
  intro fL
  first|(simp only[go_sem, ↓reduceIte,Nat.reduceEqDiff,Nat.reduceAdd,Nat.reduceSub,Nat.reduceMul,Nat.reduceLeDiff,Nat.reduceBEq,reduceCtorEq,Nat.reduceLT,Int.reduceLE,Int.reduceLT,Int.reduceToNat,Int.reduceNeg,Int.reduceAdd,Int.reduceEq,fL,ft,ij];done)|fail):G:=h a
theorem sl {A G:Prop} (a:A) (h:A->G:=by
  intro fL
  (try simp only[go_sem, ↓reduceIte,Nat.reduceEqDiff,Nat.reduceAdd,Nat.reduceSub,Nat.reduceMul,Nat.reduceLeDiff,Nat.reduceBEq,reduceCtorEq,Nat.reduceLT,Int.reduceLE,Int.reduceLT,Int.reduceToNat,Int.reduceNeg,Int.reduceAdd,Int.reduceEq,fL])
  try rfl):G:=h a
end Go.Proofs.YtgoelphibofcmaaGreat.V

namespace Go.Proofs.YtgoelphibofcmaaGreat.V
open Go.RowKit
variable {P:Program} {X:fJ} {env:Env} {σ:aw}
theorem bw (g:Rows) (n:Nat) (l:List AV):fz g (n+1) (.iO l)=(dd g n l).map AV.iO:=by rw[fz]
theorem cJ (g:Rows) (n:Nat) (f:Nat) (l:List AV):fz g (n+1) (.fn f l)=if l.all AV.cell then(dd g n l).map (AV.fn f)else none:=by rw[fz]
theorem bf (g:Rows) (n:Nat) (id:Id) (i off:Nat):fz g (n+1) (.ptr id i off)=match g id with
  |some r=>if r.w then(match r.rows[i]? with
   |some cs=>(dd g n (cs.drop off)).map AV.di
   |none=>none)else none
  |none=>none:=by rw[fz];rfl
theorem im (g:Rows) (n:Nat) (id:Id) (off len:Nat):fz g (n+1) (.own id off len)=match g id with
  |some r=>if r.w then(if off+len<=r.rows.length then(ev g n ((r.rows.drop off).take len)).map AV.sl else none)else none
  |none=>none:=by rw[fz];rfl
theorem oH (g:Rows) (n:Nat):ev g n []=some []:=by rw[ev]
theorem zf (g:Rows) (n:Nat) (c:List AV) (l:List (List AV)):ev g n (c::l)=match dd g n c with
  |some b=>(ev g n l).map (b::·)
  |none=>none:=by rw[ev];cases dd g n c<;>rfl
theorem vu {g:Rows} {n:Nat}:∀{l:List (List AV)},(∀c∈l,dd g n c=some c)->ev g n l=some l
 |[],_=>by rw[ev]
 |c::r,h=>by rw[ev,h c (by simp),vu fun d hd=>h d (List.mem_cons_of_mem _ hd)];rfl
theorem qm {α:Type} {g:Rows} {n:Nat} {e:α->List AV} {l:List α} (h:∀x,dd g n (e x)=some (e x)):ev g n (l.map e)=some (l.map e):=vu fun c hc=>by
 obtain⟨x,_,rfl⟩:=List.mem_map.1 hc
 exact h x
theorem tr {α:Type} {g:Rows} {n:Nat} {e:α->List AV} {l:List α} (h:∀x,ew g n (e x)=some (e x)):gU g n (l.map e)=some (l.map e):=tp fun c hc=>by
 obtain⟨x,_,rfl⟩:=List.mem_map.1 hc
 exact h x
theorem gG {α:Type} {g:Rows} {n:Nat} {e:α->List AV} {l:List α} {id:Id} {sz len:Nat} (hg:g id=some ⟨true,sz,l.map e⟩) (hl:len=l.length) (h:∀x,dd g n (e x)=some (e x)):fz g (n+1) (.own id 0 len)=some (.sl (l.map e)):=by
 subst hl
 rw[im];simp only[hg,if_true]
 rw[if_pos (by simp),List.drop_zero,List.take_of_length_le (by simp),qm h];rfl
theorem fG {α:Type} {g:Rows} {n:Nat} {e:α->List AV} {l:List α} {id:Id} {sz len:Nat} (hg:g id=some ⟨true,sz,l.map e⟩) (hl:len=l.length) (h:∀x,ew g n (e x)=some (e x)):gn g (n+1) (.own id 0 len)=some (.sl (l.map e)):=by
 subst hl
 exact uq hg (by simp) (by rw[List.drop_zero,List.take_of_length_le (by simp),tr h])
theorem all_map {α:Type} {e:α->List AV} {sz:Nat} {l:List α} (h:∀x,(e x).length=sz/\(e x).all AV.cell=true):(l.map e).all (fun c=>c.length==sz&&c.all AV.cell)=true:=by
 rw[List.all_eq_true]
 intro c hc
 obtain⟨x,_,rfl⟩:=List.mem_map.1 hc
 simp[(h x).1,(h x).2]
def Pj (P:Program) (f:Nat) (args:List AV) (sz:Nat) (rows:List (List AV)):Prop:=(∀c∈rows,∀a∈c,a.plain=true)/\∀n:Nat,Call P f args ⟨fun _=>none,n⟩ fun r σ'=>∃id,r=.own id 0 rows.length/\σ'.get id=some ⟨true,sz,rows⟩
theorem Pj.x {f sz:Nat} {args eF:List AV} {rows:List (List AV)} (h:Pj P f eF sz rows) {σ:aw} (hv:dd (dK σ.get) 6 args=some eF):CM (Call P) f args σ sz rows:=⟨h.1,eF,hv,h.2 _⟩
theorem wD {res:List oj} {r:AV} {vs:List AV} {x:Ex} (hx:x=.ret∨x=.normal) (hv:ft env σ.get res=some vs) (hz:fz σ.get 6 (fh vs)=some r):kS res (fun r0 σ'=>∃r',fz σ'.get 6 r0=some r'/\r'=r) x env σ:=by
 rcases hx with rfl|rfl
 ·exact⟨vs,hv,r,hz,rfl⟩
 ·exact⟨vs,hv,r,hz,rfl⟩
theorem rP {res:List oj} {r:AV} {vs:List AV} {x:Ex} (hx:x=.ret∨x=.normal) (hv:ft env σ.get res=some vs) (hz:gn σ.get 6 (fh vs)=some r):kS res (fun r0 σ'=>∃r',gn σ'.get 6 r0=some r'/\r'=r) x env σ:=by
 rcases hx with rfl|rfl
 ·exact⟨vs,hv,r,hz,rfl⟩
 ·exact⟨vs,hv,r,hz,rfl⟩
theorem eV {res:List oj} {K:AV->aw->Prop} {vs:List AV} {x:Ex} (hx:x=.ret∨x=.normal) (hv:ft env σ.get res=some vs) (hK:K (fh vs) σ):kS res K x env σ:=by
 rcases hx with rfl|rfl
 ·exact⟨vs,hv,hK⟩
 ·exact⟨vs,hv,hK⟩
theorem fc {f:Nat} {args:List AV} {σ:aw} {K:AV->aw->Prop} {nt na:Nat} {body:VC} {res:List oj} (hf:lZ P f=some ⟨nt,na,body,res⟩) (ha:na=args.length) (h:(∀a∈args,eH a)->eh (Call P) body (kS res K) (cu args) σ):Call P f args σ K:=lR hf ha h
theorem p4 {f:Nat} {md:List (Nat×Nat)} {args:List AV} {σ:aw} {K:AV->aw->Prop} {nt na:Nat} {body:VC} {res:List oj} (hf:ss P f md=some ⟨nt,na,body,res⟩) (ha:na=args.length) (h:(∀a∈args,eH a)->eh (Call P) body (kS res K) (cu args) σ):Call P f args σ K:=uI hf ha h
theorem dP {i:Id} {n:Nat} (h:i.cq<n):(∀s,(i=⟨s,n⟩)=False/\(i=⟨s,n+1⟩)=False/\(i=⟨s,n+1+1⟩)=False/\(i=⟨s,n+1+1+1⟩)=False/\(i=⟨s,n+1+1+1+1⟩)=False/\(i=⟨s,n+1+1+1+1+1⟩)=False/\(i=⟨s,n+1+1+1+1+1+1⟩)=False/\(i=⟨s,n+1+1+1+1+1+1+1⟩)=False/\(i=⟨s,n+1+1+1+1+1+1+1+1⟩)=False/\(i=⟨s,n+1+1+1+1+1+1+1+1+1⟩)=False/\(⟨s,n⟩=i)=False/\(⟨s,n+1⟩=i)=False/\(⟨s,n+1+1⟩=i)=False/\(⟨s,n+1+1+1⟩=i)=False/\(⟨s,n+1+1+1+1⟩=i)=False/\(⟨s,n+1+1+1+1+1⟩=i)=False/\(⟨s,n+1+1+1+1+1+1⟩=i)=False/\(⟨s,n+1+1+1+1+1+1+1⟩=i)=False/\(⟨s,n+1+1+1+1+1+1+1+1⟩=i)=False/\(⟨s,n+1+1+1+1+1+1+1+1+1⟩=i)=False)/\(i.cq=n)=False/\(i.cq=n+1)=False/\(i.cq=n+1+1)=False/\(i.cq=n+1+1+1)=False/\(i.cq=n+1+1+1+1)=False/\(i.cq=n+1+1+1+1+1)=False/\(i.cq=n+1+1+1+1+1+1)=False/\(i.cq=n+1+1+1+1+1+1+1)=False/\(i.cq=n+1+1+1+1+1+1+1+1)=False/\(i.cq=n+1+1+1+1+1+1+1+1+1)=False:=by
 refine⟨fun s=>?_,?_⟩
 ·obtain⟨a,b⟩:=i
  simp only[Id.mk.injEq,eq_iff_iff,iff_false,not_and]
  simp only at h
  refine⟨?_,?_,?_,?_,?_,?_,?_,?_,?_,?_,?_,?_,?_,?_,?_,?_,?_,?_,?_,?_⟩<;>(intros;omega)
 ·simp only[eq_iff_iff,iff_false]
  refine⟨?_,?_,?_,?_,?_,?_,?_,?_,?_,?_⟩<;>omega
def fU (a b:Nat) (ids:List Id):Prop:=ids.Nodup/\∀i∈ids,a<=i.cq/\i.cq<b
def Kept (σ σ':aw):Prop:=σ.next<=σ'.next/\∀j:Id,j.cq<σ.next->σ'.get j=σ.get j
theorem Kept.trans {a b c:aw} (h:Kept a b) (k:Kept b c):Kept a c:=⟨Nat.le_trans h.1 k.1,fun j hj=>(k.2 j (Nat.lt_of_lt_of_le hj h.1)).trans (h.2 j hj)⟩
theorem fU.wide {a b a' b':Nat} {ids:List Id} (h:fU a b ids) (h1:a'<=a) (h2:b<=b'):fU a' b' ids:=⟨h.1,fun i hi=>⟨Nat.le_trans h1 (h.2 i hi).1,Nat.lt_of_lt_of_le (h.2 i hi).2 h2⟩⟩
theorem fU.app {a b c d:Nat} {i j:List Id} (h:fU a b i) (k:fU c d j) (Np:b<=c) (rh:a<=b) (hcd:c<=d):fU a d (i++j):=
 ⟨List.nodup_append.2 ⟨h.1,k.1,fun x hx y hy e=>by subst e;have:=(h.2 x hx).2;have:=(k.2 x hy).1;omega⟩,fun x hx=>by
  rcases List.mem_append.1 hx with hx|hx
  ·have:=h.2 x hx;omega
  ·have:=k.2 x hx;omega⟩
end Go.Proofs.YtgoelphibofcmaaGreat.V

namespace Go.Proofs.YtgoelphibofcmaaGreat.V
open Go.RowKit
attribute [local irreducible] eh wpOps fI Call
attribute [local go_sem] aM fj eJ fF fE da upd cu K.av cI AV.cells AV.cell rowOf rowsOf part ld rowAt bK bV dq dM gy bD cY dY fA eS dk dR cW cV dD dE bG bc cL bF cP cN dO dS dQ cK bL cX dN bE aO cR cz gx bm cH bH aY dp bl dr AV.undef bt bz dF dL dy dC cF dX eb cw dV dU cQ cU List.getD_cons_zero List.getD_cons_succ List.getD_nil List.all_cons List.all_nil Bool.and_true Bool.true_and Bool.and_self Bool.not_true Bool.not_false Option.map_some Option.map_none Option.bind_some Option.bind_none List.length_cons List.length_nil List.take_succ_cons List.take_zero List.take_nil List.drop_succ_cons List.drop_zero List.drop_nil List.head?_cons List.map_cons List.map_nil List.getElem?_cons_zero List.getElem?_cons_succ List.cons_append List.nil_append List.append_nil List.length_map List.set_cons_zero List.set_cons_succ Nat.reduceMul eq_self Int.toNat_natCast Int.natCast_nonneg and_self true_and and_true decide_true decide_false Bool.false_eq_true Nat.zero_add Nat.add_zero List.contains_cons List.contains_nil Bool.or_false Bool.false_or beq_self_eq_true Nat.reduceBEq ne_eq not_true_eq_false not_false_eq_true Id.mk.injEq false_and and_false Nat.reduceLT Int.reduceLE Int.reduceLT Int.reduceToNat Int.reduceNeg Int.reduceAdd Nat.le_refl List.length_append beq_true beq_false Bool.not_eq_eq_eq_not or_false false_or dK aj ar aH bd br bW aT aZ aU bf cJ bw
variable {P:Program}
def Jp (f g z:Nat):xg:=let s:=f*1000000
 ⟨27,2,(.seq (.dm false [q 4 (.bS (.k (.int .i64 0))) s]) (.seq (.dm false [q 6 (.bS (.t 1)) (s+1000),q 7 (.bS (.t 0)) (s+1001),q 8 (.len (.t 7)) (s+1002),q 9 (.bin .sub .i64 (.t 6) (.t 8)) (s+1003),q 1 (.bS (.t 9)) (s+1004)]) (.seq (.seq (.dm false [q 10 (.bS (.t 1)) (s+2000),q 11 (.bin .lss .i64 (.t 10) (.k (.int .i64 0))) (s+2001)]) (.cond (.t 11) (.seq (.dm false [q 4 (.bS (.k (.int .i64 (-1)))) (s+3000)]) .ret) .skip)) (.seq (.seq (.dm false [q 5 (.bS (.k (.int .i64 0))) (s+4000)]) (.block 0 (.loop (.seq (.seq (.dm false [q 12 (.bS (.t 5)) (s+5000),q 13 (.bS (.t 0)) (s+5001),q 14 (.len (.t 13)) (s+5002),q 15 (.bin .lss .i64 (.t 12) (.t 14)) (s+5003)]) (.cond (.t 15) .skip (.exit 0))) (.seq (.block 1 (.seq (.dm false [q 18 (.bS (.t 0)) (s+7000),q 19 (.bS (.t 5)) (s+7001),q 20 (.dZ z (.t 18) (.t 19)) (s+7002),q 21 (.load true z (.t 20)) (s+7003),q 22 (.bS (.t 1)) (s+7004),q 23 (.call g [(.t 21),(.t 22)]) (s+7005),q 1 (.bS (.t 23)) (s+7006)]) (.seq (.dm false [q 24 (.bS (.t 1)) (s+8000),q 25 (.bin .lss .i64 (.t 24) (.k (.int .i64 0))) (s+8001)]) (.cond (.t 25) (.seq (.dm false [q 4 (.bS (.k (.int .i64 (-1)))) (s+9000)]) .ret) .skip)))) (.dm false [q 16 (.bS (.t 5)) (s+6000),q 17 (.bin .add .i64 (.t 16) (.k (.int .i64 1))) (s+6001),q 5 (.bS (.t 17)) (s+6002)])))))) (.seq (.dm false [q 26 (.bS (.t 1)) (s+10000),q 4 (.bS (.t 26)) (s+10001)]) .ret))))),[(.tmp 4)]⟩
def Jn (f:Nat):xg:=let s:=f*1000000
 ⟨12,2,(.seq (.dm false [q 4 (.bS (.k (.int .i64 0))) s]) (.seq (.dm false [q 5 (.bS (.t 1)) (s+1000),q 6 (.bS (.t 0)) (s+1001),q 7 (.len (.t 6)) (s+1002),q 8 (.bin .sub .i64 (.t 5) (.t 7)) (s+1003),q 1 (.bS (.t 8)) (s+1004)]) (.seq (.seq (.dm false [q 9 (.bS (.t 1)) (s+2000),q 10 (.bin .lss .i64 (.t 9) (.k (.int .i64 0))) (s+2001)]) (.cond (.t 10) (.seq (.dm false [q 4 (.bS (.k (.int .i64 (-1)))) (s+3000)]) .ret) .skip)) (.seq (.dm false [q 11 (.bS (.t 1)) (s+4000),q 4 (.bS (.t 11)) (s+4001)]) .ret)))),[(.tmp 4)]⟩
def Ez (f g z:Nat):xg:=let s:=f*1000000
 ⟨27,2,(.seq (.dm false [q 4 (.bS (.k (.bool false))) s]) (.seq (.seq (.dm false [q 6 (.bS (.t 0)) (s+1000),q 7 (.len (.t 6)) (s+1001),q 8 (.bS (.t 1)) (s+1002),q 9 (.len (.t 8)) (s+1003),q 10 (.FG true .tI (.t 7) (.t 9)) (s+1004)]) (.cond (.t 10) (.seq (.dm false [q 4 (.bS (.k (.bool false))) (s+2000)]) .ret) .skip)) (.seq (.seq (.dm false [q 5 (.bS (.k (.int .i64 0))) (s+3000)]) (.block 0 (.loop (.seq (.seq (.dm false [q 11 (.bS (.t 5)) (s+4000),q 12 (.bS (.t 0)) (s+4001),q 13 (.len (.t 12)) (s+4002),q 14 (.bin .lss .i64 (.t 11) (.t 13)) (s+4003)]) (.cond (.t 14) .skip (.exit 0))) (.seq (.block 1 (.seq (.dm true [q 17 (.bS (.t 0)) (s+6000),q 18 (.bS (.t 5)) (s+6001),q 19 (.dZ z (.t 17) (.t 18)) (s+6002),q 20 (.load true z (.t 19)) (s+6003),q 21 (.bS (.t 1)) (s+6004),q 22 (.bS (.t 5)) (s+6005),q 23 (.dZ z (.t 21) (.t 22)) (s+6006),q 24 (.load true z (.t 23)) (s+6007),q 25 (.call g [(.t 20),(.t 24)]) (s+6008),q 26 (.not (.t 25)) (s+6009)]) (.cond (.t 26) (.seq (.dm false [q 4 (.bS (.k (.bool false))) (s+7000)]) .ret) .skip))) (.dm false [q 15 (.bS (.t 5)) (s+5000),q 16 (.bin .add .i64 (.t 15) (.k (.int .i64 1))) (s+5001),q 5 (.bS (.t 16)) (s+5002)])))))) (.seq (.dm false [q 4 (.bS (.k (.bool true))) (s+8000)]) .ret)))),[(.tmp 4)]⟩
def LX (f:Nat) (t:TS):xg:=let s:=f*1000000
 ⟨26,2,(.seq (.dm false [q 4 (.bS (.k (.bool false))) s]) (.seq (.seq (.dm false [q 6 (.bS (.t 0)) (s+1000),q 7 (.len (.t 6)) (s+1001),q 8 (.bS (.t 1)) (s+1002),q 9 (.len (.t 8)) (s+1003),q 10 (.FG true .tI (.t 7) (.t 9)) (s+1004)]) (.cond (.t 10) (.seq (.dm false [q 4 (.bS (.k (.bool false))) (s+2000)]) .ret) .skip)) (.seq (.seq (.dm false [q 5 (.bS (.k (.int .i64 0))) (s+3000)]) (.block 0 (.loop (.seq (.seq (.dm false [q 11 (.bS (.t 5)) (s+4000),q 12 (.bS (.t 0)) (s+4001),q 13 (.len (.t 12)) (s+4002),q 14 (.bin .lss .i64 (.t 11) (.t 13)) (s+4003)]) (.cond (.t 14) .skip (.exit 0))) (.seq (.block 1 (.seq (.dm true [q 17 (.bS (.t 0)) (s+6000),q 18 (.bS (.t 5)) (s+6001),q 19 (.dZ 1 (.t 17) (.t 18)) (s+6002),q 20 (.load false 1 (.t 19)) (s+6003),q 21 (.bS (.t 1)) (s+6004),q 22 (.bS (.t 5)) (s+6005),q 23 (.dZ 1 (.t 21) (.t 22)) (s+6006),q 24 (.load false 1 (.t 23)) (s+6007),q 25 (.FG true t (.t 20) (.t 24)) (s+6008)]) (.cond (.t 25) (.seq (.dm false [q 4 (.bS (.k (.bool false))) (s+7000)]) .ret) .skip))) (.dm false [q 15 (.bS (.t 5)) (s+5000),q 16 (.bin .add .i64 (.t 15) (.k (.int .i64 1))) (s+5001),q 5 (.bS (.t 16)) (s+5002)])))))) (.seq (.dm false [q 4 (.bS (.k (.bool true))) (s+8000)]) .ret)))),[(.tmp 4)]⟩
def tO (f g z:Nat) (zero:List K):xg:=let s:=f*1000000
 ⟨23,1,(.seq (.dm false [q 2 (.bS (.k .bq)) s]) (.seq (.dm false [q 5 (.bS (.t 0)) (s+1000),q 6 (.len (.t 5)) (s+1001),q 7 (.jR zero (.t 6) (.t 6)) (s+1002),q 3 (.bS (.t 7)) (s+1003)]) (.seq (.seq (.dm false [q 4 (.bS (.k (.int .i64 0))) (s+2000)]) (.block 0 (.loop (.seq (.seq (.dm false [q 8 (.bS (.t 4)) (s+3000),q 9 (.bS (.t 0)) (s+3001),q 10 (.len (.t 9)) (s+3002),q 11 (.bin .lss .i64 (.t 8) (.t 10)) (s+3003)]) (.cond (.t 11) .skip (.exit 0))) (.seq (.block 1 (.dm false [q 14 (.bS (.t 3)) (s+5000),q 15 (.bS (.t 4)) (s+5001),q 16 (.bS (.t 0)) (s+5002),q 17 (.bS (.t 4)) (s+5003),q 18 (.dZ z (.t 16) (.t 17)) (s+5004),q 19 (.load true z (.t 18)) (s+5005),q 20 (.call g [(.t 19)]) (s+5006),q 21 (.dZ z (.t 14) (.t 15)) (s+5007),⟨none,(.store z (.t 21) (.t 20)),none,(s+5008),[]⟩])) (.dm false [q 12 (.bS (.t 4)) (s+4000),q 13 (.bin .add .i64 (.t 12) (.k (.int .i64 1))) (s+4001),q 4 (.bS (.t 13)) (s+4002)])))))) (.seq (.dm false [q 22 (.bS (.t 3)) (s+6000),q 2 (.bS (.t 22)) (s+6001)]) .ret)))),[(.tmp 2)]⟩
def JE (f:Nat) (zero:K):xg:=let s:=f*1000000
 ⟨22,1,(.seq (.dm false [q 2 (.bS (.k .bq)) s]) (.seq (.dm false [q 5 (.bS (.t 0)) (s+1000),q 6 (.len (.t 5)) (s+1001),q 7 (.jR [zero] (.t 6) (.t 6)) (s+1002),q 3 (.bS (.t 7)) (s+1003)]) (.seq (.seq (.dm false [q 4 (.bS (.k (.int .i64 0))) (s+2000)]) (.block 0 (.loop (.seq (.seq (.dm false [q 8 (.bS (.t 4)) (s+3000),q 9 (.bS (.t 0)) (s+3001),q 10 (.len (.t 9)) (s+3002),q 11 (.bin .lss .i64 (.t 8) (.t 10)) (s+3003)]) (.cond (.t 11) .skip (.exit 0))) (.seq (.block 1 (.dm false [q 14 (.bS (.t 3)) (s+5000),q 15 (.bS (.t 4)) (s+5001),q 16 (.bS (.t 0)) (s+5002),q 17 (.bS (.t 4)) (s+5003),q 18 (.dZ 1 (.t 16) (.t 17)) (s+5004),q 19 (.load false 1 (.t 18)) (s+5005),q 20 (.dZ 1 (.t 14) (.t 15)) (s+5006),⟨none,(.store 1 (.t 20) (.t 19)),none,(s+5007),[]⟩])) (.dm false [q 12 (.bS (.t 4)) (s+4000),q 13 (.bin .add .i64 (.t 12) (.k (.int .i64 1))) (s+4001),q 4 (.bS (.t 13)) (s+4002)])))))) (.seq (.dm false [q 21 (.bS (.t 3)) (s+6000),q 2 (.bS (.t 21)) (s+6001)]) .ret)))),[(.tmp 2)]⟩
def xG (n:Nat) (l:Int):Int:=if (n:Int)<=l then l-n else -1
theorem Jo {fk:Nat} (hc:lZ P fk=some (Jn fk)) (rows:List (List AV)) (left:Int) (h0:0<=left) (h1:left<=1048576):au P fk [.sl rows,.int .i64 left] (.int .i64 (xG rows.length left)):=by
 refine au.body hc rfl fun hl n0=>?_
 try simp only[q]
 have hn:rows.length<=9223372036854775807:=(hl (.sl rows) (by simp)).len
 clear hl
 have hw:IntKind.i64.wrap (left-(rows.length:Int))=left-rows.length:=bQ (by omega)
 by_cases hf:(rows.length:Int)<=left
 ·have kg:¬left-(rows.length:Int)<0:=by omega
  (try((repeat(revert hN;revert N;apply Pn.out));refine wk (tw @hw @kg) ?_;(repeat(refine Pn.mk ?_;intro N hN))))
  exact cm (b:=left-(rows.length:Int)) (.inl rfl) (sd @Nat.zero_add) (by rw[xG,if_pos hf])
 ·have kg:left-(rows.length:Int)<0:=by omega
  (try((repeat(revert hN;revert N;apply Pn.out));refine wk (tw @hw @kg) ?_;(repeat(refine Pn.mk ?_;intro N hN))))
  exact cm (b:=-1) (.inl rfl) (sd @Nat.zero_add) (by rw[xG,if_neg hf])
def iD {α:Type} (f:α->Nat) (xs:List α) (k:Nat):Nat:=((xs.take k).map f).sum
theorem mh {α:Type} (f:α->Nat) (xs:List α):iD f xs 0=0:=by simp[iD]
theorem B6 {α:Type} (f:α->Nat) (xs:List α):iD f xs xs.length=(xs.map f).sum:=by simp[iD]
theorem wM {α:Type} (f:α->Nat) {xs:List α} {k:Nat} (hk:k<xs.length):iD f xs (k+1)=iD f xs k+f xs[k]:=by
 unfold iD
 rw[List.take_succ_eq_append_getElem hk,List.map_append,List.sum_append];simp
theorem pZ {α:Type} (f:α->Nat) (xs:List α) (k:Nat):iD f xs k<=(xs.map f).sum:=by
 unfold iD
 conv=>rhs;rw[<-List.take_append_drop k xs]
 rw[List.map_append,List.sum_append];omega
theorem Jq {α:Type} {e:α->List AV} {z fk gk:Nat} (wt:α->Nat) (hc:lZ P fk=some (Jp fk gk z)) (hz:∀x,(e x).length=z) (Bd:∀x g,dd g 6 [.agg (e x)]=some [.agg (e x)]) (xs:List α) (left:Int) (h0:0<=left) (h1:left<=1048576)
  (hg:∀x∈xs,∀l:Int,0<=l->l<=1048576->au P gk [.agg (e x),.int .i64 l] (.int .i64 (xG (wt x) l))):au P fk [.sl (xs.map e),.int .i64 left] (.int .i64 (xG (xs.length+(xs.map wt).sum) left)):=by
 refine au.body hc rfl fun hl n0=>?_
 try simp only[q]
 have hn:xs.length<=9223372036854775807:=by simpa using(hl (.sl (xs.map e)) (by simp)).len
 clear hl
 have hw:IntKind.i64.wrap (left-(xs.length:Int))=left-xs.length:=bQ (by omega)
 by_cases hf:(xs.length:Int)<=left
 ·have kg:¬left-(xs.length:Int)<0:=by omega
  (try((repeat(revert hN;revert N;apply Pn.out));refine wk (tw @hw @kg) ?_;(repeat(refine Pn.mk ?_;intro N hN))))
  refine bh (fun n env st=>∃k:Nat,n=(xs.length)-k/\k<=(xs.length)/\env 5=.int .i64 (k:Int)/\env 1=(.int .i64 (left-xs.length-(iD wt xs k:Nat)))/\(0<=left-xs.length-(iD wt xs k:Nat))) (xs.length) ⟨0,by omega,by omega,sl (tw @mh (tw @Int.natCast_zero @Int.sub_zero)),sl (tw @mh (tw @Int.natCast_zero @Int.sub_zero)),(by rw[mh];omega)⟩ ?_
  rintro n_a env_a st_a ⟨k,rfl,ale,a5,a1,lS⟩ dW
  have a0:=dW 0 (by kernel_rfl)
  simp only[go_sem, ↓reduceIte,Nat.reduceEqDiff,Nat.reduceAdd,Nat.reduceSub,Nat.reduceLeDiff,reduceCtorEq,mh,Int.natCast_zero,Int.sub_zero]at a0
  clear dW
  by_cases hk:(k:Int)<(xs.length:Int)
  ·have cG:∀{e:Env},(e 5=.int .i64 (IntKind.i64.wrap ((k:Int)+1)))->(e 1=(.int .i64 (left-xs.length-(iD wt xs (k+1):Nat))))->(0<=left-xs.length-(iD wt xs (k+1):Nat))->∃m0,m0<(xs.length)-k/\∃k:Nat,m0=(xs.length)-k/\k<=(xs.length)/\e 5=.int .i64 (k:Int)/\e 1=(.int .i64 (left-xs.length-(iD wt xs k:Nat)))/\(0<=left-xs.length-(iD wt xs k:Nat)):=fun x1 x2 x3=>⟨_,by omega,k+1,rfl,by omega,(by rw[x1,aC (by omega)]),x2,x3⟩
   have fw:k<xs.length:=by omega
   have eQ:(xs.map e)[k]? =some (e xs[k]):=by simp[fw]
   have tC:=hz xs[k]
   have ht:(e xs[k]).take z=e xs[k]:=by rw[<-tC,List.take_length]
   have hs:=wM wt fw
   have Df:=pZ wt xs (k+1)
   have ig:=hg _ (List.getElem_mem fw) (left-xs.length-(iD wt xs k:Nat)) lS (by omega)
   have lP:dd (dK st_a.get) 6 [.agg (e xs[k]),.int .i64 (left-xs.length-(iD wt xs k:Nat))]=some [.agg (e xs[k]),.int .i64 (left-xs.length-(iD wt xs k:Nat))]:=by
    have q1:=Bd xs[k] (dK st_a.get)
    rw[aj,ar]at q1
    rw[aj,aj,ar,aH]
    revert q1
    cases V.fz (dK st_a.get) 6 (.agg (e xs[k]))<;>simp
   by_cases xr:(wt xs[k]:Int)<=left-xs.length-(iD wt xs k:Nat)
   ·rw[xG,if_pos xr]at ig
    have Am:¬left-xs.length-(iD wt xs k:Nat)-(wt xs[k]:Int)<0:=by omega
    have pd:left-xs.length-(iD wt xs k:Nat)-(wt xs[k]:Int)=left-xs.length-(iD wt xs (k+1):Nat):=by rw[hs];omega
    generalize hex:e xs[k]=c at ig lP eQ tC ht
    (try((repeat(revert hN;revert N;apply Pn.out));refine wk (tw @a5 (tw @a1 (tw @a0 (tw @hk (tw @eQ (tw @tC (tw @ht @Nat.le_refl))))))) ?_;(repeat(refine Pn.mk ?_;intro N hN))))
    refine .inl ⟨_,au.x ig lP,?_⟩
    refine hN _ _ ?_
    clear hN N
    (try((repeat(revert hN;revert N;apply Pn.out));refine wk (tw @a5 (tw @a1 (tw @a0 @Am))) ?_;(repeat(refine Pn.mk ?_;intro N hN))))
    refine cG ?_ ?_ ((by rw[hs];omega))
    all_goals simp only[go_sem, ↓reduceIte,Nat.reduceEqDiff,Nat.reduceAdd,Nat.reduceSub,Nat.reduceLeDiff,reduceCtorEq,a5,a1,a0,pd]
   ·rw[xG,if_neg xr]at ig
    generalize hex:e xs[k]=c at ig lP eQ tC ht
    (try((repeat(revert hN;revert N;apply Pn.out));refine wk (tw @a5 (tw @a1 (tw @a0 (tw @hk (tw @eQ (tw @tC (tw @ht @Nat.le_refl))))))) ?_;(repeat(refine Pn.mk ?_;intro N hN))))
    refine .inl ⟨_,au.x ig lP,?_⟩
    refine hN _ _ ?_
    clear hN N
    (try((repeat(revert hN;revert N;apply Pn.out));refine wk (tw @a5 (tw @a1 @a0)) ?_;(repeat(refine Pn.mk ?_;intro N hN))))
    exact cm (b:=-1) (.inl rfl) (sd @Nat.zero_add) (by rw[xG,if_neg (by omega)])
  ·(try((repeat(revert hN;revert N;apply Pn.out));refine wk (tw @a5 (tw @a1 (tw @a0 @hk))) ?_;(repeat(refine Pn.mk ?_;intro N hN))))
   have fw:k=xs.length:=by omega
   subst fw
   have Rl:=B6 wt xs
   exact cm (b:=left-xs.length-(iD wt xs xs.length:Nat)) (.inl rfl) (sd (tw @a5 (tw @a1 @a0))) (by rw[xG,if_pos (by omega)];omega)
 ·have kg:left-(xs.length:Int)<0:=by omega
  (try((repeat(revert hN;revert N;apply Pn.out));refine wk (tw @hw @kg) ?_;(repeat(refine Pn.mk ?_;intro N hN))))
  exact cm (b:=-1) (.inl rfl) (sd @Nat.zero_add) (by rw[xG,if_neg (by omega)])
theorem HP {α:Type} {xs ys:List α} (hl:xs.length=ys.length) (h:∀j:Nat,j<xs.length->∀(h1:j<xs.length) (h2:j<ys.length),xs[j]=ys[j]):xs=ys:=List.ext_getElem hl fun j h1 h2=>h j h1 h1 h2
theorem CR {α:Type} [DecidableEq α] {e:α->List AV} {z fk gk:Nat} (hc:lZ P fk=some (Ez fk gk z)) (hz:∀x,(e x).length=z) (Bd:∀x g,dd g 6 [.agg (e x)]=some [.agg (e x)]) (xs ys:List α)
  (hg:∀x y,au P gk [.agg (e x),.agg (e y)] (.bool (decide (x=y)))):au P fk [.sl (xs.map e),.sl (ys.map e)] (.bool (decide (xs=ys))):=by
 refine au.body hc rfl fun hl n0=>?_
 try simp only[q]
 have hn:xs.length<=9223372036854775807:=by simpa using(hl (.sl (xs.map e)) (by simp)).len
 clear hl
 by_cases hlen:xs.length=ys.length
 ·have jG:decide ((xs.length:Int)=(ys.length:Int))=true:=by simp[hlen]
  (try((repeat(revert hN;revert N;apply Pn.out));refine wk @jG ?_;(repeat(refine Pn.mk ?_;intro N hN))))
  refine bh (fun n env st=>∃k:Nat,n=(xs.length)-k/\k<=(xs.length)/\env 5=.int .i64 (k:Int)/\(∀j:Nat,j<k->∀(h1:j<xs.length) (h2:j<ys.length),xs[j]=ys[j])) (xs.length) ⟨0,by omega,by omega,sl @Nat.zero_add,fun _ h=>absurd h (Nat.not_lt_zero _)⟩ ?_
  rintro n_a env_a st_a ⟨k,rfl,ale,a5,lN⟩ dW
  have a0:=dW 0 (by kernel_rfl);have a1:=dW 1 (by kernel_rfl)
  simp only[go_sem, ↓reduceIte,Nat.reduceEqDiff,Nat.reduceAdd,Nat.reduceSub,Nat.reduceLeDiff,reduceCtorEq]at a0 a1
  clear dW
  by_cases hk:(k:Int)<(xs.length:Int)
  ·have cG:∀{e:Env},(e 5=.int .i64 (IntKind.i64.wrap ((k:Int)+1)))->(∀(h1:k<xs.length) (h2:k<ys.length),xs[k]=ys[k])->∃m0,m0<(xs.length)-k/\∃k:Nat,m0=(xs.length)-k/\k<=(xs.length)/\e 5=.int .i64 (k:Int)/\(∀j:Nat,j<k->∀(h1:j<xs.length) (h2:j<ys.length),xs[j]=ys[j]):=fun x1 x2=>⟨_,by omega,k+1,rfl,by omega,(by rw[x1,aC (by omega)]),(all_succ lN x2)⟩
   have fw:k<xs.length:=by omega
   have Rx:k<ys.length:=by omega
   have eQ:(xs.map e)[k]? =some (e xs[k]):=by simp[fw]
   have Da:(ys.map e)[k]? =some (e ys[k]):=by simp[Rx]
   have tC:=hz xs[k]
   have Di:=hz ys[k]
   have ht:(e xs[k]).take z=e xs[k]:=by rw[<-tC,List.take_length]
   have G8:(e ys[k]).take z=e ys[k]:=by rw[<-Di,List.take_length]
   have ig:=hg xs[k] ys[k]
   have lP:∀g,dd g 6 [.agg (e xs[k]),.agg (e ys[k])]=some [.agg (e xs[k]),.agg (e ys[k])]:=fun g=>by
    have q1:=Bd xs[k] g
    have q2:=Bd ys[k] g
    rw[aj,ar]at q1
    rw[aj,q2]
    revert q1
    cases V.fz g 6 (.agg (e xs[k]))<;>simp
   by_cases heq:xs[k]=ys[k]
   ·rw[decide_eq_true heq]at ig
    generalize hex:e xs[k]=c at ig lP eQ tC ht
    generalize hey:e ys[k]=d at ig lP Da Di G8
    (try((repeat(revert hN;revert N;apply Pn.out));refine wk (tw @a5 (tw @a0 (tw @a1 (tw @hk (tw @eQ (tw @Da (tw @tC (tw @Di (tw @ht (tw @G8 @Nat.le_refl)))))))))) ?_;(repeat(refine Pn.mk ?_;intro N hN))))
    refine⟨_,au.x ig (lP _),?_⟩
    refine hN _ _ ?_
    clear hN N
    (try((repeat(revert hN;revert N;apply Pn.out));refine wk (tw @a5 (tw @a0 @a1)) ?_;(repeat(refine Pn.mk ?_;intro N hN))))
    exact cG (sd (tw @a5 (tw @a0 @a1))) (fun _ _=>heq)
   ·rw[decide_eq_false heq]at ig
    generalize hex:e xs[k]=c at ig lP eQ tC ht
    generalize hey:e ys[k]=d at ig lP Da Di G8
    (try((repeat(revert hN;revert N;apply Pn.out));refine wk (tw @a5 (tw @a0 (tw @a1 (tw @hk (tw @eQ (tw @Da (tw @tC (tw @Di (tw @ht (tw @G8 @Nat.le_refl)))))))))) ?_;(repeat(refine Pn.mk ?_;intro N hN))))
    refine⟨_,au.x ig (lP _),?_⟩
    refine hN _ _ ?_
    clear hN N
    (try((repeat(revert hN;revert N;apply Pn.out));refine wk (tw @a5 (tw @a0 @a1)) ?_;(repeat(refine Pn.mk ?_;intro N hN))))
    exact aX (b:=false) (.inl rfl) (sd @Nat.zero_add) (decide_eq_false fun h=>heq (List.getElem_of_eq h _)).symm
  ·(try((repeat(revert hN;revert N;apply Pn.out));refine wk (tw @a5 (tw @a0 (tw @a1 @hk))) ?_;(repeat(refine Pn.mk ?_;intro N hN))))
   exact aX (b:=true) (.inl rfl) (sd @Nat.zero_add) (decide_eq_true (HP hlen fun j hj h1 h2=>lN j (by omega) h1 h2)).symm
 ·have jG:decide ((xs.length:Int)=(ys.length:Int))=false:=decide_eq_false fun h=>hlen (by omega)
  (try((repeat(revert hN;revert N;apply Pn.out));refine wk @jG ?_;(repeat(refine Pn.mk ?_;intro N hN))))
  exact aX (b:=false) (.inl rfl) (sd @Nat.zero_add) (decide_eq_false fun h=>hlen (by subst h;rfl)).symm
theorem Pz {fk:Nat} (hc:lZ P fk=some (LX fk .tI)) (xs ys:List Int):
  au P fk [.sl (xs.map fun x=>[AV.int .i64 x]),.sl (ys.map fun x=>[AV.int .i64 x])] (.bool (decide (xs=ys))):=by
 refine au.body hc rfl fun hl n0=>?_
 try simp only[q]
 have hn:xs.length<=9223372036854775807:=by simpa using(hl (.sl (xs.map fun x=>[AV.int .i64 x])) (by simp)).len
 clear hl
 by_cases hlen:xs.length=ys.length
 ·have jG:decide ((xs.length:Int)=(ys.length:Int))=true:=by simp[hlen]
  (try((repeat(revert hN;revert N;apply Pn.out));refine wk @jG ?_;(repeat(refine Pn.mk ?_;intro N hN))))
  refine bh (fun n env st=>∃k:Nat,n=(xs.length)-k/\k<=(xs.length)/\env 5=.int .i64 (k:Int)/\(∀j:Nat,j<k->∀(h1:j<xs.length) (h2:j<ys.length),xs[j]=ys[j])) (xs.length) ⟨0,by omega,by omega,sl @Nat.zero_add,fun _ h=>absurd h (Nat.not_lt_zero _)⟩ ?_
  rintro n_a env_a st_a ⟨k,rfl,ale,a5,lN⟩ dW
  have a0:=dW 0 (by kernel_rfl);have a1:=dW 1 (by kernel_rfl)
  simp only[go_sem, ↓reduceIte,Nat.reduceEqDiff,Nat.reduceAdd,Nat.reduceSub,Nat.reduceLeDiff,reduceCtorEq]at a0 a1
  clear dW
  by_cases hk:(k:Int)<(xs.length:Int)
  ·have cG:∀{e:Env},(e 5=.int .i64 (IntKind.i64.wrap ((k:Int)+1)))->(∀(h1:k<xs.length) (h2:k<ys.length),xs[k]=ys[k])->∃m0,m0<(xs.length)-k/\∃k:Nat,m0=(xs.length)-k/\k<=(xs.length)/\e 5=.int .i64 (k:Int)/\(∀j:Nat,j<k->∀(h1:j<xs.length) (h2:j<ys.length),xs[j]=ys[j]):=fun x1 x2=>⟨_,by omega,k+1,rfl,by omega,(by rw[x1,aC (by omega)]),(all_succ lN x2)⟩
   have fw:k<xs.length:=by omega
   have Rx:k<ys.length:=by omega
   have eQ:(xs.map fun x=>[AV.int .i64 x])[k]? =some [.int .i64 xs[k]]:=by simp[fw]
   have Da:(ys.map fun x=>[AV.int .i64 x])[k]? =some [.int .i64 ys[k]]:=by simp[Rx]
   by_cases heq:xs[k]=ys[k]
   ·have hq:=decide_eq_true heq
    (try((repeat(revert hN;revert N;apply Pn.out));refine wk (tw @a5 (tw @a0 (tw @a1 (tw @hk (tw @eQ (tw @Da @hq)))))) ?_;(repeat(refine Pn.mk ?_;intro N hN))))
    exact cG (sd (tw @a5 (tw @a0 @a1))) (fun _ _=>heq)
   ·have hq:=decide_eq_false heq
    (try((repeat(revert hN;revert N;apply Pn.out));refine wk (tw @a5 (tw @a0 (tw @a1 (tw @hk (tw @eQ (tw @Da @hq)))))) ?_;(repeat(refine Pn.mk ?_;intro N hN))))
    exact aX (b:=false) (.inl rfl) (sd @Nat.zero_add) (decide_eq_false fun h=>heq (List.getElem_of_eq h _)).symm
  ·(try((repeat(revert hN;revert N;apply Pn.out));refine wk (tw @a5 (tw @a0 (tw @a1 @hk))) ?_;(repeat(refine Pn.mk ?_;intro N hN))))
   exact aX (b:=true) (.inl rfl) (sd @Nat.zero_add) (decide_eq_true (HP hlen fun j hj h1 h2=>lN j (by omega) h1 h2)).symm
 ·have jG:decide ((xs.length:Int)=(ys.length:Int))=false:=decide_eq_false fun h=>hlen (by omega)
  (try((repeat(revert hN;revert N;apply Pn.out));refine wk @jG ?_;(repeat(refine Pn.mk ?_;intro N hN))))
  exact aX (b:=false) (.inl rfl) (sd @Nat.zero_add) (decide_eq_false fun h=>hlen (by subst h;rfl)).symm
theorem uQ (l:List AV):l++[]=l:=List.append_nil l
def gF {α:Type} (e:α->List AV) (zc:List AV) (xs:List α) (k:Nat):List (List AV):=(xs.take k).map e++List.replicate (xs.length-k) zc
theorem ow {α:Type} (e:α->List AV) (zc:List AV) (xs:List α):List.replicate xs.length zc=gF e zc xs 0:=by simp[gF]
theorem qg {α:Type} (e:α->List AV) (zc:List AV) (xs:List α):gF e zc xs xs.length=xs.map e:=by simp[gF]
theorem qh {α:Type} (e:α->List AV) (zc:List AV) (xs:List α) {k:Nat} (hk:k<xs.length):(gF e zc xs k)[k]? =some zc:=by
 have h1:((xs.take k).map e).length=k:=by simp;omega
 rw[gF,List.getElem?_append_right (by omega),h1,Nat.sub_self,List.getElem?_replicate,if_pos (by omega)]
theorem qi {α:Type} (e:α->List AV) (zc:List AV) (xs:List α) {k:Nat} (hk:k<xs.length):(gF e zc xs k).set k (e xs[k])=gF e zc xs (k+1):=by
 have h1:((xs.take k).map e).length=k:=by simp;omega
 rw[gF,List.set_append_right _ _ (by omega),h1,Nat.sub_self,gF,List.take_succ_eq_append_getElem hk,List.map_append,List.append_assoc]
 congr 1
 obtain⟨m,hm⟩:∃m,xs.length-k=m+1:=⟨xs.length-k-1,by omega⟩
 rw[hm,show xs.length-(k+1)=m by omega,List.replicate_succ]
 rfl
theorem D8 {α:Type} {en:α->List AV} {z fk gk:Nat} {zero:List K} (hc:lZ P fk=some (tO fk gk z zero)) (Cu:zero.length=z) (hz:∀x,(en x).length=z) (jk:∀x,(en x).all AV.cell=true) (Bd:∀x g,dd g 5 (en x)=some (en x)) (xs:List α) (hlen:xs.length<=1048576)
  (hg:∀x∈xs,iU P gk [.agg (en x)] (.agg (en x))):iU P fk [.sl (xs.map en)] (.sl (xs.map en)):=by
 refine iU.body hc rfl fun hl σ=>?_
 try simp only[q]
 clear hl
 have hm:(xs.length:Int)<=((16777216:Nat):Int):=by omega
 have h0:(0:Int)<=(xs.length:Int):=by omega
 (try((repeat(revert hN;revert N;apply Pn.out));refine wk (tw @hm (tw @h0 (tw @Int.le_refl (tw (ow en (zero.map K.av) xs) @Cu)))) ?_;(repeat(refine Pn.mk ?_;intro N hN))))
 refine bh (fun n env st=>∃k:Nat,n=(xs.length)-k/\k<=(xs.length)/\env 4=.int .i64 (k:Int)/\st.get ⟨fk*1000000+1002,σ.next+1⟩=some ⟨true,z,gF en (zero.map K.av) xs k⟩) (xs.length) ⟨0,by omega,by omega,sl @Nat.zero_add,sl @Nat.zero_add⟩ ?_
 rintro n_a env_a st_a ⟨k,rfl,ale,a4,ag0⟩ dW
 have a0:=dW 0 (by kernel_rfl);have a3:=dW 3 (by kernel_rfl)
 simp only[go_sem, ↓reduceIte,Nat.reduceEqDiff,Nat.reduceAdd,Nat.reduceSub,Nat.reduceLeDiff,reduceCtorEq]at a0 a3
 clear dW
 by_cases hk:(k:Int)<(xs.length:Int)
 ·have cG:∀{e:Env} {gg:Rows},(e 4=.int .i64 (IntKind.i64.wrap ((k:Int)+1)))->(gg ⟨fk*1000000+1002,σ.next+1⟩=some ⟨true,z,gF en (zero.map K.av) xs (k+1)⟩)->∃m0,m0<(xs.length)-k/\∃k:Nat,m0=(xs.length)-k/\k<=(xs.length)/\e 4=.int .i64 (k:Int)/\gg ⟨fk*1000000+1002,σ.next+1⟩=some ⟨true,z,gF en (zero.map K.av) xs k⟩:=fun x1 x2=>⟨_,by omega,k+1,rfl,by omega,(by rw[x1,aC (by omega)]),x2⟩
  have fw:k<xs.length:=by omega
  have eQ:(xs.map en)[k]? =some (en xs[k]):=by simp[fw]
  have tC:=hz xs[k]
  have JU:=jk xs[k]
  have ht:(en xs[k]).take z=en xs[k]:=by rw[<-tC,List.take_length]
  have ig:=hg _ (List.getElem_mem fw)
  have fY:=qh en (zero.map K.av) xs fw
  have eP:=qi en (zero.map K.av) xs fw
  have H8:(zero.map K.av).drop z=[]:=List.drop_of_length_le (by simp[Cu])
  generalize hex:en xs[k]=c at ig eQ tC ht JU eP
  (repeat(first|((repeat(revert hN;revert N;apply Pn.out));refine wk (tw @a4 (tw @ag0 (tw @a0 (tw @a3 (tw @hk (tw @eQ (tw @tC (tw @ht (tw @Nat.le_refl (tw @fY (tw @eP (tw @H8 (tw @uQ (tw @JU @Cu)))))))))))))) ?_;(repeat(refine Pn.mk ?_;intro N hN)))|((try apply Or.inl);refine⟨_,iU.x (ig) _,?_⟩;refine hN _ _ ?_;clear hN N)))
  refine cG ?_ ?_
  all_goals simp only[go_sem, ↓reduceIte,Nat.reduceEqDiff,Nat.reduceAdd,Nat.reduceSub,Nat.reduceLeDiff,reduceCtorEq,a4,ag0,a0,a3]
 ·(try((repeat(revert hN;revert N;apply Pn.out));refine wk (tw @a4 (tw @ag0 (tw @a0 (tw @a3 @hk)))) ?_;(repeat(refine Pn.mk ?_;intro N hN))))
  have fw:k=xs.length:=by omega
  subst fw
  refine QP (.inl rfl) (r0:=.own ⟨fk*1000000+1002,σ.next+1⟩ 0 xs.length) (sd (tw @a4 (tw @ag0 (tw @a0 @a3)))) ?_
  rw[qg]at ag0
  exact gG ag0 (by simp) fun x=>Bd x _
theorem QQ {fk:Nat} (hc:lZ P fk=some (JE fk (.int .i64 0))) (xs:List Int) (hlen:xs.length<=1048576):iU P fk [.sl (xs.map fun x=>[AV.int .i64 x])] (.sl (xs.map fun x=>[AV.int .i64 x])):=by
 refine iU.body hc rfl fun hl σ=>?_
 try simp only[q]
 clear hl
 obtain⟨en,JW⟩:∃en:Int->List AV,en=fun x=>[AV.int .i64 x]:=⟨_,rfl⟩
 rw[<-JW]
 have hm:(xs.length:Int)<=((16777216:Nat):Int):=by omega
 have h0:(0:Int)<=(xs.length:Int):=by omega
 (try((repeat(revert hN;revert N;apply Pn.out));refine wk (tw @hm (tw @h0 (tw @Int.le_refl (ow en [AV.int .i64 0] xs)))) ?_;(repeat(refine Pn.mk ?_;intro N hN))))
 refine bh (fun n env st=>∃k:Nat,n=(xs.length)-k/\k<=(xs.length)/\env 4=.int .i64 (k:Int)/\st.get ⟨fk*1000000+1002,σ.next+1⟩=some ⟨true,1,gF en [AV.int .i64 0] xs k⟩) (xs.length) ⟨0,by omega,by omega,sl @Nat.zero_add,sl @Nat.zero_add⟩ ?_
 rintro n_a env_a st_a ⟨k,rfl,ale,a4,ag0⟩ dW
 have a0:=dW 0 (by kernel_rfl);have a3:=dW 3 (by kernel_rfl)
 simp only[go_sem, ↓reduceIte,Nat.reduceEqDiff,Nat.reduceAdd,Nat.reduceSub,Nat.reduceLeDiff,reduceCtorEq]at a0 a3
 clear dW
 by_cases hk:(k:Int)<(xs.length:Int)
 ·have cG:∀{e:Env} {gg:Rows},(e 4=.int .i64 (IntKind.i64.wrap ((k:Int)+1)))->(gg ⟨fk*1000000+1002,σ.next+1⟩=some ⟨true,1,gF en [AV.int .i64 0] xs (k+1)⟩)->∃m0,m0<(xs.length)-k/\∃k:Nat,m0=(xs.length)-k/\k<=(xs.length)/\e 4=.int .i64 (k:Int)/\gg ⟨fk*1000000+1002,σ.next+1⟩=some ⟨true,1,gF en [AV.int .i64 0] xs k⟩:=fun x1 x2=>⟨_,by omega,k+1,rfl,by omega,(by rw[x1,aC (by omega)]),x2⟩
  have fw:k<xs.length:=by omega
  have eQ:(xs.map en)[k]? =some [AV.int .i64 xs[k]]:=by simp[fw,JW]
  have fY:=qh en [AV.int .i64 0] xs fw
  have eP:=qi en [AV.int .i64 0] xs fw
  rw[show en xs[k]=[AV.int .i64 xs[k]] by rw[JW]]at eP
  (try((repeat(revert hN;revert N;apply Pn.out));refine wk (tw @a4 (tw @ag0 (tw @a0 (tw @a3 (tw @hk (tw @eQ (tw @fY @eP))))))) ?_;(repeat(refine Pn.mk ?_;intro N hN))))
  refine cG ?_ ?_
  all_goals simp only[go_sem, ↓reduceIte,Nat.reduceEqDiff,Nat.reduceAdd,Nat.reduceSub,Nat.reduceLeDiff,reduceCtorEq,a4,ag0,a0,a3]
 ·(try((repeat(revert hN;revert N;apply Pn.out));refine wk (tw @a4 (tw @ag0 (tw @a0 (tw @a3 @hk)))) ?_;(repeat(refine Pn.mk ?_;intro N hN))))
  have fw:k=xs.length:=by omega
  subst fw
  refine QP (.inl rfl) (r0:=.own ⟨fk*1000000+1002,σ.next+1⟩ 0 xs.length) (sd (tw @a4 (tw @ag0 (tw @a0 @a3)))) ?_
  rw[qg]at ag0
  exact gG ag0 (by simp) fun x=>by simp[JW,aj,ar,aH]
end Go.Proofs.YtgoelphibofcmaaGreat.V

namespace Go.Proofs.YtgoelphibofcmaaGreat
open Go.RowKit
def Sl (w:World) (fp:List Nat) (v:Value) (n:Nat) (xs:List Value):Prop:=
 ∃A c,v=.slice A n c/\n<=c/\c<=maxLen/\
  ((fp=[]/\n=0)∨∃b o,fp=[b]/\A=some ⟨b,o,none⟩/\∀j u,xs[j]? =some u->w.cell? ⟨b,o+j,none⟩=some u)
def fK (fp:List Nat) (lo hi:Nat):Prop:=∀b∈fp,lo<=b/\b<hi
theorem fK.nil (lo hi:Nat):fK [] lo hi:=fun _ h=>by cases h
theorem Sl.nil (w:World):Sl w [] (.slice none 0 0) 0 []:=⟨none,0,rfl,Nat.le_refl _,by simp[maxLen],.inl ⟨rfl,rfl⟩⟩
def MC {α:Type} (rep:World->List Nat->List Value->α->Prop) (sz:Nat) (w:World) (ox:List (List Value)) (EA:List (List Nat)) (ds:List α):Prop:=
 ox.length=ds.length/\EA.length=ds.length/\∀(i:Nat) (cs:List Value) (f:List Nat) (d:α),ox[i]? =some cs->EA[i]? =some f->ds[i]? =some d->rep w f cs d/\cs.length=sz
def mv {α:Type} (rep:World->List Nat->List Value->α->Prop) (sz:Nat) (w:World) (fp:List Nat) (v:Value) (ds:List α):Prop:=
 ∃ox EA Sn,fp=Sn++EA.flatten/\Sl w Sn v ds.length ox.flatten/\MC rep sz w ox EA ds
theorem qF {α:Type} {EA:List (List α)} {i:Nat} {f:List α} (h:EA[i]? =some f):∀b∈f,b∈EA.flatten:=fun b hb=>
 List.mem_flatten.2 ⟨f,List.mem_of_getElem? h,hb⟩
theorem tn {α:Type} {ox:List (List α)} {sz:Nat} (h:∀cs∈ox,cs.length=sz) {i j:Nat} {cs:List α} (hi:ox[i]? =some cs) (hj:j<sz):ox.flatten[i*sz+j]? =cs[j]? :=by
 induction ox generalizing i with
 |nil=>simp at hi
 |cons c r ih=>
  have hc:c.length=sz:=h c (by simp)
  cases i with
  |zero=>
   simp at hi;subst hi
   rw[List.flatten_cons,List.getElem?_append_left (by omega)];simp
  |succ i=>
   rw[List.flatten_cons,List.getElem?_append_right (by rw[hc,Nat.succ_mul];omega)]
   have:(i+1)*sz+j-c.length=i*sz+j:=by rw[hc,Nat.succ_mul];omega
   rw[this]
   exact ih (fun cs du=>h cs (List.mem_cons_of_mem _ du)) (by simpa using hi)
theorem MC.lens {α:Type} {rep:World->List Nat->List Value->α->Prop} {sz:Nat} {w:World} {ox:List (List Value)} {EA:List (List Nat)} {ds:List α}
  (h:MC rep sz w ox EA ds):∀cs∈ox,cs.length=sz:=fun cs du=>by
 obtain⟨i,hi,rfl⟩:=List.getElem_of_mem du
 have h1:i<EA.length:=by rw[h.2.1,<-h.1];exact hi
 have h2:i<ds.length:=by rw[<-h.1];exact hi
 exact(h.2.2 i _ _ _ (List.getElem?_eq_getElem hi) (List.getElem?_eq_getElem h1) (List.getElem?_eq_getElem h2)).2
theorem mv.at_ {α:Type} {rep:World->List Nat->List Value->α->Prop} {sz:Nat} {w:World} {fp:List Nat} {A:Option Addr} {n c:Nat} {ds:List α}
  (h:mv rep sz w fp (.slice A n c) ds) (k:Nat) (hk:k<ds.length):
  ∃b o cs f,A=some ⟨b,o,none⟩/\b∈fp/\(∀x∈f,x∈fp)/\rep w f cs ds[k]/\cs.length=sz/\∀j u,cs[j]? =some u->w.cell? ⟨b,o+(k*sz+j),none⟩=some u:=by
 obtain⟨ox,EA,Sn,rfl,⟨A',c',hv,_,_,hc⟩,hr⟩:=h
 simp only[Value.slice.injEq]at hv
 obtain⟨rfl,hn,rfl⟩:=hv
 rcases hc with⟨_,h0⟩|⟨b,o,rfl,rfl,hc⟩
 ·omega
 have h1:k<ox.length:=by rw[hr.1];exact hk
 have h2:k<EA.length:=by rw[hr.2.1];exact hk
 obtain⟨gC,hl⟩:=hr.2.2 k _ _ _ (List.getElem?_eq_getElem h1) (List.getElem?_eq_getElem h2) (List.getElem?_eq_getElem hk)
 refine⟨b,o,ox[k],EA[k],rfl,by simp,fun x hx=>List.mem_append_right _ (qF (List.getElem?_eq_getElem h2) x hx),gC,hl,fun j u hj=>?_⟩
 have gV:j<sz:=by rw[<-hl];exact(List.getElem?_eq_some_iff.1 hj).1
 exact hc _ u (by rw[tn hr.lens (List.getElem?_eq_getElem h1) gV];exact hj)
theorem mv.len {α:Type} {rep:World->List Nat->List Value->α->Prop} {sz:Nat} {w:World} {fp:List Nat} {v:Value} {ds:List α}
  (h:mv rep sz w fp v ds):∃A c,v=.slice A ds.length c/\ds.length<=c/\c<=maxLen:=by
 obtain⟨_,_,_,_,⟨A,c,hv,h1,h2,_⟩,_⟩:=h
 exact⟨A,c,hv,h1,h2⟩
theorem mv.nil {α:Type} (rep:World->List Nat->List Value->α->Prop) (sz:Nat) (w:World):mv rep sz w [] (.slice none 0 0) ([]:List α):=
 ⟨[],[],[],rfl,Sl.nil w,rfl,rfl,fun i cs f d hc=>by simp at hc⟩
def Flat {α:Type} (enc:α->List Value):World->List Nat->List Value->α->Prop:=fun _ f cs d=>f=[]/\cs=enc d
end Go.Proofs.YtgoelphibofcmaaGreat

namespace Go.Proofs.YtgoelphibofcmaaGreat
open Go.RowKit
def Q (w w':World):Prop:=∃q,w'=w.drewN q
theorem Q.refl (w:World):Q w w:=⟨0,rfl⟩
theorem Q.d {w w':World} (h:Q w w') (n:Nat):Q w (w'.drewN n):=by obtain⟨q,rfl⟩:=h;exact⟨q+n,by rw[World.drewN_drewN]⟩
theorem Q.d1 {w w':World} (h:Q w w'):Q w w'.drew:=by obtain⟨q,rfl⟩:=h;exact⟨q+1,rfl⟩
theorem Q.n (w:World) (n:Nat):Q w (w.drewN n):=⟨n,rfl⟩
theorem Q.trans {a b c:World} (h:Q a b) (k:Q b c):Q a c:=by obtain⟨q,rfl⟩:=k;exact h.d q
theorem Hx {B:Nat} {a w:World} (h:Below B a w) (n:Nat):Below B a (w.drewN n):=⟨h.os,h.tape,h.output,h.size,h.block⟩
theorem Q.below {w w':World} (h:Q w w'):Below w.heap.size w w':=by obtain⟨q,rfl⟩:=h;exact Hx (Below.refl _ _) q
theorem iz {a b:Bool} (h:a=b):Ending.returned (.bool a)=.returned (.bool b):=by rw[h]
end Go.Proofs.YtgoelphibofcmaaGreat

namespace Go.Proofs.YtgoelphibofcmaaGreat
open Go.RowKit
end Go.Proofs.YtgoelphibofcmaaGreat

namespace Go.Proofs.YtgoelphibofcmaaGreat
open Go.RowKit
theorem size_set (w:World) (p:Addr) (v:Value):(w.setCell p v).heap.size=w.heap.size:=by simp[World.setCell]
end Go.Proofs.YtgoelphibofcmaaGreat

namespace Go.Proofs.YtgoelphibofcmaaGreat
open Go.RowKit
structure aE where
 eZ:Int
 eT:Int
deriving DecidableEq
structure ah where
 aW:aE
 aP:Int
deriving DecidableEq
structure ee where
 aq:List ah
deriving DecidableEq
structure fy where
 aL:ByteArray
 eB:Int
deriving DecidableEq
structure eR where
 aL:ByteArray
 bI:List Int
deriving DecidableEq
structure ax where
 aA:List fy
 aq:List eR
deriving DecidableEq
structure aI where
 aD:ax
 bx:ee
 ay:Int
deriving DecidableEq
def FD (d:Int):List Value:=[.int .i64 d]
def Ei:=Flat FD
def CP (d:ah):List Value:=[.int .i64 d.aW.eZ,.int .i64 d.aW.eT,.int .i64 d.aP]
def Ax:=Flat CP
def iV:=mv Ax 3
def HL (d:fy):List Value:=[.string d.aL,.int .i64 d.eB]
def Hj:=Flat HL
def qP:=mv Hj 2
def uN:=mv Ei 1
def Hk (w:World) (f:List Nat) (cs:List Value) (d:eR):Prop:=
 ∃v1 f1,f=f1/\cs=[.string d.aL,v1]/\uN w f1 v1 d.bI
def qQ:=mv Hk 2
end Go.Proofs.YtgoelphibofcmaaGreat

namespace Go.Proofs.YtgoelphibofcmaaGreat.V
open Go.RowKit
variable {P:Program} {w:World} {D:Nat->Prop}
def Hc (P:Program) (w:World) (D:Nat->Prop) (al:List AV) (cs:List Value):Prop:=∀(j:Nat) (a:AV),al[j]? =some a->∃u:Value,cs[j]? =some u/\jw P w D a u
theorem rT {α:Type} {rep:World->List Nat->List Value->α->Prop} {e:α->List AV} {sz:Nat} {f:List Nat} {v:Value} {xs:List α} (h:mv rep sz w f v xs) (hD:∀b∈f,D b)
  (hl:∀x∈xs,(e x).length=sz) (hc:∀x∈xs,∀a∈e x,a.cell=true) (hr:∀x∈xs,∀f' cs,rep w f' cs x->(∀b∈f',D b)->Hc P w D (e x) cs):jw P w D (.sl (xs.map e)) v:=by
 obtain⟨A,c,rfl,h1,h2⟩:=mv.len h
 by_cases h0:xs=[]
 ·subst h0;exact .As _ _ h2
 have jA:0<xs.length:=List.length_pos_iff.2 h0
 obtain⟨b,o,OM,f0,rfl,hb,Rs,Tz,KD,jF⟩:=mv.at_ h 0 jA
 have key:∀(i:Nat) (hi:i<xs.length),∃cs f',(∀x∈f',x∈f)/\rep w f' cs xs[i]/\cs.length=sz/\∀j u,cs[j]? =some u->w.cell? ⟨b,o+(i*sz+j),none⟩=some u:=by
  intro i hi
  obtain⟨b',o',cs,f',Rn,_,kg,nS,du,kD⟩:=mv.at_ h i hi
  simp only[Option.some.injEq,Addr.mk.injEq,and_true]at Rn
  obtain⟨rfl,rfl⟩:=Rn
  exact⟨cs,f',kg,nS,du,kD⟩
 refine .sl _ b o _ c sz (fun i j=>(w.cell? ⟨b,o+(i*sz+j),none⟩).getD Go.undef) (by simp) h1 h2 (hD b hb) ?_ ?_ ?_ ?_
 ·intro cs du
  obtain⟨x,hx,rfl⟩:=List.mem_map.1 du
  exact hl x hx
 ·intro cs du
  obtain⟨x,hx,rfl⟩:=List.mem_map.1 du
  exact hc x hx
 ·intro i j hi hj
  obtain⟨cs,f',_,_,du,kD⟩:=key i hi
  rw[kD j cs[j] (List.getElem?_eq_getElem (by omega))]
  rfl
 ·intro i j cs a du ha
  have hi:i<xs.length:=by
   have:=(List.getElem?_eq_some_iff.1 du).1
   simpa using this
  obtain⟨pR,f',kg,nS,hcs',kD⟩:=key i hi
  simp[hi]at du
  subst du
  obtain⟨u,hu,him⟩:=hr _ (List.getElem_mem hi) f' pR nS (fun b hb=>hD b (kg b hb)) j a ha
  rw[kD j u hu]
  exact him
end Go.Proofs.YtgoelphibofcmaaGreat.V

namespace Go.Proofs.YtgoelphibofcmaaGreat.V
open Go.RowKit
variable {P:Program} {w:World} {D:Nat->Prop}
def bu (d:Int):List AV:=[.int .i64 d]
def ai (d:aE):List AV:=[.int .i64 d.eZ,.int .i64 d.eT]
def aa (d:ah):List AV:=[.int .i64 d.aW.eZ,.int .i64 d.aW.eT,.int .i64 d.aP]
def aV (d:ee):List AV:=[.sl (d.aq.map aa)]
def bU (d:fy):List AV:=[.str d.aL,.int .i64 d.eB]
def bR (d:eR):List AV:=[.str d.aL,.sl (d.bI.map bu)]
def ae (d:ax):List AV:=[.sl (d.aA.map bU),.sl (d.aq.map bR)]
def az (d:aI):List AV:=[.sl (d.aD.aA.map bU),.sl (d.aD.aq.map bR),.sl (d.bx.aq.map aa),.int .i64 d.ay]
theorem tf {f:List Nat} {v:Value} {xs:List ah} (h:iV w f v xs) (hD:∀b∈f,D b):jw P w D (.sl (xs.map aa)) v:=
 rT h hD (fun _ _=>rfl) (fun x _ a ha=>by simp[aa]at ha;rcases ha with rfl|rfl|rfl<;>rfl) fun x _ f' cs hr hf=>by
  obtain⟨_,rfl⟩:=hr
  intro j a ha
  match j,ha with
  |0,ha=>simp[aa]at ha;subst ha;exact⟨_,rfl,.int _ _⟩
  |1,ha=>simp[aa]at ha;subst ha;exact⟨_,rfl,.int _ _⟩
  |2,ha=>simp[aa]at ha;subst ha;exact⟨_,rfl,.int _ _⟩
  |j+3,ha=>simp[aa]at ha
theorem yS {d:ee} {f0:List Nat} {v0:Value} (h0:iV w f0 v0 d.aq) (d0:∀b∈f0,D b):jw P w D (.agg (aV d)) (.agg #[v0]):=by
 refine .agg _ _ (fun j=>(#[v0]:Array Value).getD j Go.undef) rfl (fun a ha=>by simp[aV]at ha;rcases ha with rfl<;>rfl) (fun j hj=>?_) (fun j a ha=>?_)
 ·match j,hj with
  |0,_=>rfl
  |j+1,hj=>simp[aV]at hj<;>omega
 ·match j,ha with
  |0,ha=>simp[aV]at ha;subst ha;exact tf h0 d0
  |j+1,ha=>simp[aV]at ha
theorem Fi {f:List Nat} {v:Value} {xs:List fy} (h:qP w f v xs) (hD:∀b∈f,D b):jw P w D (.sl (xs.map bU)) v:=
 rT h hD (fun _ _=>rfl) (fun x _ a ha=>by simp[bU]at ha;rcases ha with rfl|rfl<;>rfl) fun x _ f' cs hr hf=>by
  obtain⟨_,rfl⟩:=hr
  intro j a ha
  match j,ha with
  |0,ha=>simp[bU]at ha;subst ha;exact⟨_,rfl,.str _⟩
  |1,ha=>simp[bU]at ha;subst ha;exact⟨_,rfl,.int _ _⟩
  |j+2,ha=>simp[bU]at ha
theorem CA {f:List Nat} {v:Value} {xs:List Int} (h:uN w f v xs) (hD:∀b∈f,D b):jw P w D (.sl (xs.map bu)) v:=
 rT h hD (fun _ _=>rfl) (fun x _ a ha=>by simp[bu]at ha;rcases ha with rfl<;>rfl) fun x _ f' cs hr hf=>by
  obtain⟨_,rfl⟩:=hr
  intro j a ha
  match j,ha with
  |0,ha=>simp[bu]at ha;subst ha;exact⟨_,rfl,.int _ _⟩
  |j+1,ha=>simp[bu]at ha
theorem Fm {f:List Nat} {v:Value} {xs:List eR} (h:qQ w f v xs) (hD:∀b∈f,D b):jw P w D (.sl (xs.map bR)) v:=
 rT h hD (fun _ _=>rfl) (fun x _ a ha=>by simp[bR]at ha;rcases ha with rfl|rfl<;>rfl) fun x _ f' cs hr hf=>by
  obtain⟨v1,f1,rfl,rfl,h1⟩:=hr
  intro j a ha
  match j,ha with
  |0,ha=>simp[bR]at ha;subst ha;exact⟨_,rfl,.str _⟩
  |1,ha=>simp[bR]at ha;subst ha;exact⟨_,rfl,CA h1 hf⟩
  |j+2,ha=>simp[bR]at ha
theorem CE {d:aI} {f0:List Nat} {v0:Value} (h0:qP w f0 v0 d.aD.aA) (d0:∀b∈f0,D b) {f1:List Nat} {v1:Value} (h1:qQ w f1 v1 d.aD.aq) (d1:∀b∈f1,D b) {f2:List Nat} {v2:Value} (h2:iV w f2 v2 d.bx.aq) (d2:∀b∈f2,D b):jw P w D (.agg (az d)) (.agg #[v0,v1,v2,.int .i64 d.ay]):=by
 refine .agg _ _ (fun j=>(#[v0,v1,v2,.int .i64 d.ay]:Array Value).getD j Go.undef) rfl (fun a ha=>by simp[az]at ha;rcases ha with rfl|rfl|rfl|rfl<;>rfl) (fun j hj=>?_) (fun j a ha=>?_)
 ·match j,hj with
  |0,_=>rfl
  |1,_=>rfl
  |2,_=>rfl
  |3,_=>rfl
  |j+4,hj=>simp[az]at hj<;>omega
 ·match j,ha with
  |0,ha=>simp[az]at ha;subst ha;exact Fi h0 d0
  |1,ha=>simp[az]at ha;subst ha;exact Fm h1 d1
  |2,ha=>simp[az]at ha;subst ha;exact tf h2 d2
  |3,ha=>simp[az]at ha;subst ha;exact .int _ _
  |j+4,ha=>simp[az]at ha
end Go.Proofs.YtgoelphibofcmaaGreat.V

namespace Go.Proofs.YtgoelphibofcmaaGreat.V
open Go.RowKit
attribute [local irreducible] eh wpOps fI Call
attribute [local go_sem] aM fj eJ fF fE da upd cu K.av cI AV.cells AV.cell rowOf rowsOf part ld rowAt bK bV dq dM gy bD cY dY fA eS dk dR cW cV dD dE bG bc cL bF cP cN dO dS dQ cK bL cX dN bE aO cR cz gx bm cH bH aY dp bl dr AV.undef bt bz dF dL dy dC cF dX eb cw dV dU cQ cU List.getD_cons_zero List.getD_cons_succ List.getD_nil List.all_cons List.all_nil Bool.and_true Bool.true_and Bool.and_self Bool.not_true Bool.not_false Option.map_some Option.map_none Option.bind_some Option.bind_none List.length_cons List.length_nil List.take_succ_cons List.take_zero List.take_nil List.drop_succ_cons List.drop_zero List.drop_nil List.head?_cons List.map_cons List.map_nil List.getElem?_cons_zero List.getElem?_cons_succ List.cons_append List.nil_append List.append_nil List.length_map List.set_cons_zero List.set_cons_succ Nat.reduceMul eq_self Int.toNat_natCast Int.natCast_nonneg and_self true_and and_true decide_true decide_false Bool.false_eq_true Nat.zero_add Nat.add_zero List.contains_cons List.contains_nil Bool.or_false Bool.false_or beq_self_eq_true Nat.reduceBEq ne_eq not_true_eq_false not_false_eq_true Id.mk.injEq false_and and_false Nat.reduceLT Int.reduceLE Int.reduceLT Int.reduceToNat Int.reduceNeg Int.reduceAdd Nat.le_refl List.length_append beq_true beq_false Bool.not_eq_eq_eq_not or_false false_or dK aj ar aH bd br bW aT aZ aU bf cJ bw
variable {P:Program}
theorem Ae {X:fJ} {Q:Ex->Env->aw->Prop} {N:Env->aw->Prop} {c:VC} {env:Env} {σ:aw} (I:Env->aw->Prop) (h2:∀e s,I e s->N e s) (h1:∀N':Env->aw->Prop,(∀e s,I e s->N' e s)->eh X c (dp N' Q) env σ):eh X c (dp N Q) env σ:=h1 N h2
def sL (f z:Nat) (a:Bool):xg:=let s:=f*1000000
 ⟨19,2,(.seq (.dm false [q 4 (.bS (.k (.int .i64 0))) s]) (.seq (.seq (.dm false [q 6 (.bS (.t 0)) (s+1000),q 7 (.len (.t 6)) (s+1001),q 8 (.bS (.k (.int .i64 0))) (s+1002)]) (.block 0 (.loop (.seq (.dm false [q 9 (.bin .lss .i64 (.t 8) (.t 7)) (s+2000)]) (.seq (.cond (.t 9) .skip (.exit 0)) (.seq (.block 1 (.seq (.dm false [q 10 (.bS (.t 8)) (s+3000),q 5 (.bS (.t 10)) (s+3001)]) (.seq (.dm false [q 11 (.bS (.t 1)) (s+4000),q 12 (.bS (.t 0)) (s+4001),q 13 (.bS (.t 5)) (s+4002),q 14 (.dZ z (.t 12) (.t 13)) (s+4003),q 15 (.load a z (.t 14)) (s+4004),q 16 (.tj (.t 11) [(.t 15)]) (s+4005)]) (.cond (.t 16) (.seq (.dm false [q 17 (.bS (.t 5)) (s+5000),q 4 (.bS (.t 17)) (s+5001)]) .ret) .skip)))) (.dm false [q 18 (.bin .add .i64 (.t 8) (.k (.int .i64 1))) (s+6000),q 8 (.bS (.t 18)) (s+6001)]))))))) (.seq (.dm false [q 4 (.bS (.k (.int .i64 (-1)))) (s+7000)]) .ret))),[(.tmp 4)]⟩
def zo (f g:Nat):xg:=let s:=f*1000000
 ⟨9,2,(.seq (.dm false [q 4 (.bS (.k (.bool false))) s]) (.seq (.dm false [q 5 (.bS (.t 0)) (s+1000),q 6 (.bS (.t 1)) (s+1001),q 7 (.call g [(.t 5),(.t 6)]) (s+1002),q 8 (.bin .geq .i64 (.t 7) (.k (.int .i64 0))) (s+1003),q 4 (.bS (.t 8)) (s+1004)]) .ret)),[(.tmp 4)]⟩
def kb {α:Type} (p:α->Bool) (xs:List α):Int:=if xs.findIdx p<xs.length then(xs.findIdx p:Int)else -1
theorem HQ {α:Type} (p:α->Bool) (xs:List α):decide (0<=kb p xs)=xs.any p:=by
 unfold kb
 by_cases h:xs.findIdx p<xs.length
 ·rw[if_pos h]
  have:xs.any p=true:=List.any_eq_true.2 (List.findIdx_lt_length.1 h)
  rw[this];simp
 ·rw[if_neg h]
  have:xs.any p=false:=by
   rw[Bool.eq_false_iff]
   intro hc
   exact h (List.findIdx_lt_length.2 (List.any_eq_true.1 hc))
  rw[this];rfl
theorem ui (a:AV) (l m:List AV):a::l++m=a::(l++m):=rfl
theorem yW (l:List AV):[]++l=l:=rfl
structure Pe {α:Type} (e:α->List AV) (v:α->AV) (z:Nat) (a:Bool):Prop where
 len:∀x,(e x).length=z
 val:∀x,if a=true then v x=.agg (e x)else e x=[v x]
 fz:∀x g,dd g 6 [v x]=some [v x]
theorem tD {α:Type} {e:α->List AV} {v:α->AV} {z fk:Nat} {a:Bool} (hE:Pe e v z a) (hc:lZ P fk=some (sL fk z a)) (xs:List α) (hlen:xs.length<=1048576) (f:Nat) (de:List AV) (p:α->Bool)
  (hf:∀x∈xs,au P f (v x::de) (.bool (p x))) (FQ:∀g,dd g 6 de=some de):
  au P fk [.sl (xs.map e),.fn f de] (.int .i64 (kb p xs)):=by
 refine au.body hc rfl fun hl n0=>?_
 try simp only[q]
 clear hl
 (try((repeat(revert hN;revert N;apply Pn.out));refine wk @Nat.zero_add ?_;(repeat(refine Pn.mk ?_;intro N hN))))
 refine bh (fun n env st=>∃k:Nat,n=(xs.length)-k/\k<=(xs.length)/\env 8=.int .i64 (k:Int)/\(∀j:Nat,j<k->∀h:j<xs.length,p xs[j]=false)) (xs.length) ⟨0,by omega,by omega,sl @Nat.zero_add,fun _ h=>absurd h (Nat.not_lt_zero _)⟩ ?_
 rintro n_a env_a st_a ⟨k,rfl,ale,a8,lN⟩ dW
 have a0:=dW 0 (by kernel_rfl);have a1:=dW 1 (by kernel_rfl);have a7:=dW 7 (by kernel_rfl)
 simp only[go_sem, ↓reduceIte,Nat.reduceEqDiff,Nat.reduceAdd,Nat.reduceSub,Nat.reduceLeDiff,reduceCtorEq]at a0 a1 a7
 clear dW
 by_cases hk:(k:Int)<(xs.length:Int)
 ·have cG:∀{e:Env},(e 8=.int .i64 (IntKind.i64.wrap ((k:Int)+1)))->(∀h:k<xs.length,p xs[k]=false)->∃m0,m0<(xs.length)-k/\∃k:Nat,m0=(xs.length)-k/\k<=(xs.length)/\e 8=.int .i64 (k:Int)/\(∀j:Nat,j<k->∀h:j<xs.length,p xs[j]=false):=fun x1 x2=>⟨_,by omega,k+1,rfl,by omega,(by rw[x1,aC (by omega)]),(all_succ lN x2)⟩
  have fw:k<xs.length:=by omega
  have hg:(xs.map e)[k]? =some (e xs[k]):=by simp[fw]
  have EL:=hf _ (List.getElem_mem fw)
  have hz:=hE.len xs[k]
  have hv:=hE.val xs[k]
  have lP:dd (dK st_a.get) 6 (v xs[k]::de)=some (v xs[k]::de):=by
   have h1:=hE.fz xs[k] (dK st_a.get)
   rw[aj,ar]at h1
   rw[aj,FQ]
   revert h1
   cases V.fz (dK st_a.get) 6 (v xs[k])<;>simp
  have fin:∀hN:True,(p xs[k]=true->xs.findIdx p=k):=fun _ hp=>by
   rw[List.findIdx_eq fw];exact⟨hp,fun j hj=>lN j hj (by omega)⟩
  cases hp:p xs[k]
  ·have RH:=hp
   cases a
   ·rw[if_neg (by simp)]at hv
    have Aq:z=1:=by rw[<-hz,hv];rfl
    subst Aq
    rw[hv]at hg hz
    rw[hp]at EL
    generalize v xs[k]=c at EL lP hg hz
    (try((repeat(revert hN;revert N;apply Pn.out));refine wk (tw @a8 (tw @a0 (tw @a1 (tw @a7 (tw @hk (tw @hg (tw @hz (tw @ui @yW)))))))) ?_;(repeat(refine Pn.mk ?_;intro N hN))))
    refine .inl ⟨_,au.x EL lP,?_⟩
    refine hN _ _ ?_
    clear hN N
    (try((repeat(revert hN;revert N;apply Pn.out));refine wk (tw @a8 (tw @a0 (tw @a1 @a7))) ?_;(repeat(refine Pn.mk ?_;intro N hN))))
    exact cG (sd (tw @a8 (tw @a0 (tw @a1 @a7)))) (fun _=>RH)
   ·rw[if_pos rfl]at hv
    have ht:(e xs[k]).take z=e xs[k]:=by rw[<-hz,List.take_length]
    rw[hv]at EL lP
    rw[hp]at EL
    generalize e xs[k]=c at EL lP hg hz ht
    (try((repeat(revert hN;revert N;apply Pn.out));refine wk (tw @a8 (tw @a0 (tw @a1 (tw @a7 (tw @hk (tw @hg (tw @hz (tw @ht (tw @ui (tw @yW @Nat.le_refl)))))))))) ?_;(repeat(refine Pn.mk ?_;intro N hN))))
    refine .inl ⟨_,au.x EL lP,?_⟩
    refine hN _ _ ?_
    clear hN N
    (try((repeat(revert hN;revert N;apply Pn.out));refine wk (tw @a8 (tw @a0 (tw @a1 @a7))) ?_;(repeat(refine Pn.mk ?_;intro N hN))))
    exact cG (sd (tw @a8 (tw @a0 (tw @a1 @a7)))) (fun _=>RH)
  ·have hi:=fin trivial hp
   cases a
   ·rw[if_neg (by simp)]at hv
    have Aq:z=1:=by rw[<-hz,hv];rfl
    subst Aq
    rw[hv]at hg hz
    rw[hp]at EL
    generalize v xs[k]=c at EL lP hg hz
    (try((repeat(revert hN;revert N;apply Pn.out));refine wk (tw @a8 (tw @a0 (tw @a1 (tw @a7 (tw @hk (tw @hg (tw @hz (tw @ui @yW)))))))) ?_;(repeat(refine Pn.mk ?_;intro N hN))))
    refine .inl ⟨_,au.x EL lP,?_⟩
    refine hN _ _ ?_
    clear hN N
    (try((repeat(revert hN;revert N;apply Pn.out));refine wk (tw @a8 (tw @a0 (tw @a1 @a7))) ?_;(repeat(refine Pn.mk ?_;intro N hN))))
    exact cm (b:=(k:Int)) (.inl rfl) (sd @Nat.zero_add) (by rw[kb,hi,if_pos fw])
   ·rw[if_pos rfl]at hv
    have ht:(e xs[k]).take z=e xs[k]:=by rw[<-hz,List.take_length]
    rw[hv]at EL lP
    rw[hp]at EL
    generalize e xs[k]=c at EL lP hg hz ht
    (try((repeat(revert hN;revert N;apply Pn.out));refine wk (tw @a8 (tw @a0 (tw @a1 (tw @a7 (tw @hk (tw @hg (tw @hz (tw @ht (tw @ui (tw @yW @Nat.le_refl)))))))))) ?_;(repeat(refine Pn.mk ?_;intro N hN))))
    refine .inl ⟨_,au.x EL lP,?_⟩
    refine hN _ _ ?_
    clear hN N
    (try((repeat(revert hN;revert N;apply Pn.out));refine wk (tw @a8 (tw @a0 (tw @a1 @a7))) ?_;(repeat(refine Pn.mk ?_;intro N hN))))
    exact cm (b:=(k:Int)) (.inl rfl) (sd @Nat.zero_add) (by rw[kb,hi,if_pos fw])
 ·(try((repeat(revert hN;revert N;apply Pn.out));refine wk (tw @a8 (tw @a0 (tw @a1 (tw @a7 @hk)))) ?_;(repeat(refine Pn.mk ?_;intro N hN))))
  have hi:¬xs.findIdx p<xs.length:=by
   rw[List.findIdx_lt_length]
   rintro⟨x,hx,NH⟩
   obtain⟨j,hj,rfl⟩:=List.getElem_of_mem hx
   rw[lN j (by omega) hj]at NH;cases NH
  exact cm (b:=-1) (.inl rfl) (sd @Nat.zero_add) (by rw[kb,if_neg hi])
theorem ku {α:Type} {e:α->List AV} {v:α->AV} {z fk gk:Nat} {a:Bool} (hE:Pe e v z a) (hc:lZ P fk=some (zo fk gk)) (yd:lZ P gk=some (sL gk z a)) (xs:List α) (hlen:xs.length<=1048576) (f:Nat) (de:List AV) (p:α->Bool) (KC:de.all AV.cell=true) (Bd:∀g,dd g 5 de=some de)
  (hf:∀x∈xs,au P f (v x::de) (.bool (p x))) (FQ:∀g,dd g 6 de=some de):
  au P fk [.sl (xs.map e),.fn f de] (.bool (xs.any p)):=by
 refine au.body hc rfl fun hl n0=>?_
 try simp only[q]
 clear hl
 have hi:=tD hE yd xs hlen f de p hf FQ
 (repeat(first|((repeat(revert hN;revert N;apply Pn.out));refine wk (tw @KC @Bd) ?_;(repeat(refine Pn.mk ?_;intro N hN)))|((try apply Or.inl);refine⟨_,au.x (hi) (sd (tw @KC @Bd)),?_⟩;refine hN _ _ ?_;clear hN N)))
 exact aX (b:=decide (0<=kb p xs)) (.inl rfl) (sd @Nat.zero_add) (HQ p xs)
end Go.Proofs.YtgoelphibofcmaaGreat.V

namespace Go.Proofs.YtgoelphibofcmaaGreat.V
open Go.RowKit
def rJ (P:Program) (mk:Bool):List Oper->Nat->List Nat
 |[],_=>[]
 |o::r,i=>match qK P o.op with
  |some v=>if qE v||mk&&v.lG then i::rJ P mk r (i+1)else rJ P mk r (i+1)
  |none=>rJ P mk r (i+1)
def y4 (P:Program) (ops:Array Oper) (site0:Nat) (mk:Bool) (bs:Array Nat) (hidden:List Nat):List Oper->Nat->Option (List bB)
 |[],_=>some []
 |o::r,j=>do
  let v <-qK P o.op
  let g <-CN ops o
  pure ({dst:=o.dst,op:=v,guard:=g,site:=site0+j,hid:=(hidden.filter fun i=> !(bs.getD j 0).testBit i&&(i !=j||mk&&v.lG)).map fun i=>site0+i}::(<-y4 P ops site0 mk bs hidden r (j+1)))
def qb (P:Program) (md:List (Nat×Nat)) (vg:Nat):Code->Option VC
 | .skip=>some .skip
 | .region id ops draw=>if draw then(y4 P ops ((vg*1000+id)*1000) (vZ md id==1) (jx ops) (rJ P (vZ md id==1) ops.toList 0) ops.toList 0).map (VC.dm true)else(y4 P ops ((vg*1000+id)*1000) false #[] [] ops.toList 0).map (if ops.toList.any fun o=>Mp o.op then VC.MT else VC.dm false)
 | .seq a b=>do pure (.seq (<-qb P md vg a) (<-qb P md vg b))
 | .cond c x y=>do pure (.cond (<-cO P c) (<-qb P md vg x) (<-qb P md vg y))
 | .block id c=>(qb P md vg c).map (VC.block id)
 | .loop c=>(qb P md vg c).map VC.loop
 | .exit id=>some (.exit id)
 | .ret=>some .ret
 |_=>none
def Pq (P:Program) (md:List (Nat×Nat)) (f:Nat):Option xg:=
 match P.funcs[f]? with
 |some fn=>match fn.body with
  |some c=>do
   let b <-qb P md f c
   let r <-fn.results.toList.mapM (CO P)
   pure {ntmps:=fn.ntmps,yD:=fn.params.size+fn.nfree,body:=b,res:=r}
  |none=>none
 |none=>none
theorem cfM {P:Program} (md:List (Nat×Nat)) {f:Nat} {v:xg} (_:Pq P md f=some v:=by(conv=>lhs;cbv)<;>exact rfl) (h:ss P f md=some v:=by kernel_rfl):ss P f md=some v:=h
theorem eG {P:Program} {f:Nat} {v:xg} (_:Pq P [] f=some v:=by(conv=>lhs;cbv)<;>exact rfl) (h:lZ P f=some v:=by kernel_rfl):lZ P f=some v:=h
end Go.Proofs.YtgoelphibofcmaaGreat.V

namespace Go.Proofs.YtgoelphibofcmaaGreat.V
open Go.RowKit
def Of:xg:=⟨77,2,(.seq (.dm false [q 4 (.bS (.k .gJ)) 237000000]) (.seq (.dm false [q 7 (.bS (.t 0)) 237001000,q 8 (.bS (.t 1)) 237001001,q 9 (.build [(.int .i64 0),.bq,.bq,.bq] [(0,(1,(.t 7))),(1,(1,(.t 8)))]) 237001002,q 10 (.box (.t 9)) 237001003,q 5 (.bS (.t 10)) 237001004]) (.seq (.dm false [q 11 (.bS (.t 5)) 237002000,q 12 (.bS (.t 0)) 237002001,q 13 (.jR [.bq] (.t 12) (.t 12)) 237002002,q 14 (.AN (.t 11)) 237002003,q 15 (.eX 2 (.t 14)) 237002004,⟨none,(.store 1 (.t 15) (.t 13)),none,237002005,[]⟩]) (.seq (.dm false [q 16 (.bS (.t 5)) 237003000,q 17 (.bS (.t 1)) 237003001,q 18 (.len (.t 17)) 237003002,q 19 (.jR [(.int .i64 0)] (.t 18) (.t 18)) 237003003,q 20 (.AN (.t 16)) 237003004,q 21 (.eX 3 (.t 20)) 237003005,⟨none,(.store 1 (.t 21) (.t 19)),none,237003006,[]⟩]) (.seq (.seq (.dm false [q 6 (.bS (.k (.int .i64 0))) 237004000]) (.block 0 (.loop (.seq (.seq (.dm false [q 22 (.bS (.t 6)) 237005000,q 23 (.bS (.t 1)) 237005001,q 24 (.len (.t 23)) 237005002,q 25 (.bin .lss .i64 (.t 22) (.t 24)) 237005003]) (.cond (.t 25) .skip (.exit 0))) (.seq (.block 1 (.seq (.one ⟨(some 28),(.bS (.t 5)),none,237007000,[237007021,237007022,237007024]⟩ (.one ⟨(some 29),(.AN (.t 28)),none,237007001,[237007021,237007022,237007024]⟩ (.one ⟨(some 30),(.eX 2 (.t 29)),none,237007002,[237007021,237007022,237007024]⟩ (.one ⟨(some 32),(.bS (.t 1)),none,237007004,[237007021,237007022,237007024]⟩ (.one ⟨(some 33),(.bS (.t 6)),none,237007005,[237007021,237007022,237007024]⟩ (.one ⟨(some 37),(.bS (.t 5)),none,237007009,[237007021,237007022,237007024]⟩ (.one ⟨(some 38),(.AN (.t 37)),none,237007010,[237007021,237007022,237007024]⟩ (.one ⟨(some 39),(.eX 2 (.t 38)),none,237007011,[237007021,237007022,237007024]⟩ (.one ⟨(some 40),(.load false 1 (.t 39)),none,237007012,[237007021,237007022,237007024]⟩ (.one ⟨(some 41),(.bS (.t 1)),none,237007013,[237007021,237007022,237007024]⟩ (.one ⟨(some 42),(.bS (.t 6)),none,237007014,[237007021,237007022,237007024]⟩ (.one ⟨(some 43),(.dZ 3 (.t 41) (.t 42)),none,237007015,[237007021,237007022,237007024]⟩ (.one ⟨(some 44),(.eX 0 (.t 43)),none,237007016,[237007021,237007022,237007024]⟩ (.one ⟨(some 45),(.load false 1 (.t 44)),none,237007017,[237007021,237007022,237007024]⟩ (.one ⟨(some 46),(.dZ 1 (.t 40) (.t 45)),none,237007018,[237007021,237007022,237007024]⟩ (.one ⟨(some 47),(.load false 1 (.t 46)),none,237007019,[237007021,237007022,237007024]⟩ (.one ⟨(some 48),(.bS (.t 6)),none,237007020,[237007021,237007022,237007024]⟩ (.one ⟨(some 49),(.j8 1 1 [(.t 48)]),none,237007021,[237007022,237007024]⟩ (.both (.one ⟨(some 31),(.load false 1 (.t 30)),none,237007003,[237007021,237007022,237007024]⟩ (.both (.one ⟨(some 34),(.dZ 3 (.t 32) (.t 33)),none,237007006,[237007021,237007022,237007024]⟩ (.one ⟨(some 35),(.eX 0 (.t 34)),none,237007007,[237007021,237007022,237007024]⟩ (.both (.one ⟨(some 36),(.load false 1 (.t 35)),none,237007008,[237007021,237007022,237007024]⟩ (.one ⟨(some 50),(.append 1 (.t 47) (.t 49)),none,237007022,[237007024]⟩ (.one ⟨(some 51),(.dZ 1 (.t 31) (.t 36)),none,237007023,[237007024]⟩ (.one ⟨none,(.store 1 (.t 51) (.t 50)),none,237007024,[]⟩ (.dm false []))))) (.one ⟨(some 50),(.append 1 (.t 47) (.t 49)),none,237007022,[237007024]⟩ (.one ⟨(some 36),(.load false 1 (.t 35)),none,237007008,[237007021,237007022,237007024]⟩ (.one ⟨(some 51),(.dZ 1 (.t 31) (.t 36)),none,237007023,[237007024]⟩ (.one ⟨none,(.store 1 (.t 51) (.t 50)),none,237007024,[]⟩ (.dm false [])))))))) (.one ⟨(some 50),(.append 1 (.t 47) (.t 49)),none,237007022,[237007024]⟩ (.one ⟨(some 34),(.dZ 3 (.t 32) (.t 33)),none,237007006,[237007021,237007022,237007024]⟩ (.one ⟨(some 35),(.eX 0 (.t 34)),none,237007007,[237007021,237007022,237007024]⟩ (.one ⟨(some 36),(.load false 1 (.t 35)),none,237007008,[237007021,237007022,237007024]⟩ (.one ⟨(some 51),(.dZ 1 (.t 31) (.t 36)),none,237007023,[237007024]⟩ (.one ⟨none,(.store 1 (.t 51) (.t 50)),none,237007024,[]⟩ (.dm false []))))))))) (.both (.one ⟨(some 34),(.dZ 3 (.t 32) (.t 33)),none,237007006,[237007021,237007022,237007024]⟩ (.one ⟨(some 35),(.eX 0 (.t 34)),none,237007007,[237007021,237007022,237007024]⟩ (.both (.one ⟨(some 31),(.load false 1 (.t 30)),none,237007003,[237007021,237007022,237007024]⟩ (.both (.one ⟨(some 36),(.load false 1 (.t 35)),none,237007008,[237007021,237007022,237007024]⟩ (.one ⟨(some 50),(.append 1 (.t 47) (.t 49)),none,237007022,[237007024]⟩ (.one ⟨(some 51),(.dZ 1 (.t 31) (.t 36)),none,237007023,[237007024]⟩ (.one ⟨none,(.store 1 (.t 51) (.t 50)),none,237007024,[]⟩ (.dm false []))))) (.one ⟨(some 50),(.append 1 (.t 47) (.t 49)),none,237007022,[237007024]⟩ (.one ⟨(some 36),(.load false 1 (.t 35)),none,237007008,[237007021,237007022,237007024]⟩ (.one ⟨(some 51),(.dZ 1 (.t 31) (.t 36)),none,237007023,[237007024]⟩ (.one ⟨none,(.store 1 (.t 51) (.t 50)),none,237007024,[]⟩ (.dm false []))))))) (.both (.one ⟨(some 36),(.load false 1 (.t 35)),none,237007008,[237007021,237007022,237007024]⟩ (.both (.one ⟨(some 31),(.load false 1 (.t 30)),none,237007003,[237007021,237007022,237007024]⟩ (.one ⟨(some 50),(.append 1 (.t 47) (.t 49)),none,237007022,[237007024]⟩ (.one ⟨(some 51),(.dZ 1 (.t 31) (.t 36)),none,237007023,[237007024]⟩ (.one ⟨none,(.store 1 (.t 51) (.t 50)),none,237007024,[]⟩ (.dm false []))))) (.one ⟨(some 50),(.append 1 (.t 47) (.t 49)),none,237007022,[237007024]⟩ (.one ⟨(some 31),(.load false 1 (.t 30)),none,237007003,[237007021,237007022,237007024]⟩ (.one ⟨(some 51),(.dZ 1 (.t 31) (.t 36)),none,237007023,[237007024]⟩ (.one ⟨none,(.store 1 (.t 51) (.t 50)),none,237007024,[]⟩ (.dm false []))))))) (.one ⟨(some 50),(.append 1 (.t 47) (.t 49)),none,237007022,[237007024]⟩ (.one ⟨(some 31),(.load false 1 (.t 30)),none,237007003,[237007021,237007022,237007024]⟩ (.one ⟨(some 36),(.load false 1 (.t 35)),none,237007008,[237007021,237007022,237007024]⟩ (.one ⟨(some 51),(.dZ 1 (.t 31) (.t 36)),none,237007023,[237007024]⟩ (.one ⟨none,(.store 1 (.t 51) (.t 50)),none,237007024,[]⟩ (.dm false [])))))))))) (.one ⟨(some 50),(.append 1 (.t 47) (.t 49)),none,237007022,[237007024]⟩ (.one ⟨(some 31),(.load false 1 (.t 30)),none,237007003,[237007021,237007022,237007024]⟩ (.one ⟨(some 34),(.dZ 3 (.t 32) (.t 33)),none,237007006,[237007021,237007022,237007024]⟩ (.one ⟨(some 35),(.eX 0 (.t 34)),none,237007007,[237007021,237007022,237007024]⟩ (.one ⟨(some 36),(.load false 1 (.t 35)),none,237007008,[237007021,237007022,237007024]⟩ (.one ⟨(some 51),(.dZ 1 (.t 31) (.t 36)),none,237007023,[237007024]⟩ (.one ⟨none,(.store 1 (.t 51) (.t 50)),none,237007024,[]⟩ (.dm false [])))))))))))))))))))))))))))) (.one ⟨(some 52),(.bS (.t 5)),none,237008000,[237008021,237008022,237008024]⟩ (.one ⟨(some 53),(.AN (.t 52)),none,237008001,[237008021,237008022,237008024]⟩ (.one ⟨(some 54),(.eX 2 (.t 53)),none,237008002,[237008021,237008022,237008024]⟩ (.one ⟨(some 56),(.bS (.t 1)),none,237008004,[237008021,237008022,237008024]⟩ (.one ⟨(some 57),(.bS (.t 6)),none,237008005,[237008021,237008022,237008024]⟩ (.one ⟨(some 61),(.bS (.t 5)),none,237008009,[237008021,237008022,237008024]⟩ (.one ⟨(some 62),(.AN (.t 61)),none,237008010,[237008021,237008022,237008024]⟩ (.one ⟨(some 63),(.eX 2 (.t 62)),none,237008011,[237008021,237008022,237008024]⟩ (.one ⟨(some 64),(.load false 1 (.t 63)),none,237008012,[237008021,237008022,237008024]⟩ (.one ⟨(some 65),(.bS (.t 1)),none,237008013,[237008021,237008022,237008024]⟩ (.one ⟨(some 66),(.bS (.t 6)),none,237008014,[237008021,237008022,237008024]⟩ (.one ⟨(some 67),(.dZ 3 (.t 65) (.t 66)),none,237008015,[237008021,237008022,237008024]⟩ (.one ⟨(some 68),(.eX 1 (.t 67)),none,237008016,[237008021,237008022,237008024]⟩ (.one ⟨(some 69),(.load false 1 (.t 68)),none,237008017,[237008021,237008022,237008024]⟩ (.one ⟨(some 70),(.dZ 1 (.t 64) (.t 69)),none,237008018,[237008021,237008022,237008024]⟩ (.one ⟨(some 71),(.load false 1 (.t 70)),none,237008019,[237008021,237008022,237008024]⟩ (.one ⟨(some 72),(.bS (.t 6)),none,237008020,[237008021,237008022,237008024]⟩ (.one ⟨(some 73),(.j8 1 1 [(.t 72)]),none,237008021,[237008022,237008024]⟩ (.both (.one ⟨(some 55),(.load false 1 (.t 54)),none,237008003,[237008021,237008022,237008024]⟩ (.both (.one ⟨(some 58),(.dZ 3 (.t 56) (.t 57)),none,237008006,[237008021,237008022,237008024]⟩ (.one ⟨(some 59),(.eX 1 (.t 58)),none,237008007,[237008021,237008022,237008024]⟩ (.both (.one ⟨(some 60),(.load false 1 (.t 59)),none,237008008,[237008021,237008022,237008024]⟩ (.one ⟨(some 74),(.append 1 (.t 71) (.t 73)),none,237008022,[237008024]⟩ (.one ⟨(some 75),(.dZ 1 (.t 55) (.t 60)),none,237008023,[237008024]⟩ (.one ⟨none,(.store 1 (.t 75) (.t 74)),none,237008024,[]⟩ (.dm false []))))) (.one ⟨(some 74),(.append 1 (.t 71) (.t 73)),none,237008022,[237008024]⟩ (.one ⟨(some 60),(.load false 1 (.t 59)),none,237008008,[237008021,237008022,237008024]⟩ (.one ⟨(some 75),(.dZ 1 (.t 55) (.t 60)),none,237008023,[237008024]⟩ (.one ⟨none,(.store 1 (.t 75) (.t 74)),none,237008024,[]⟩ (.dm false [])))))))) (.one ⟨(some 74),(.append 1 (.t 71) (.t 73)),none,237008022,[237008024]⟩ (.one ⟨(some 58),(.dZ 3 (.t 56) (.t 57)),none,237008006,[237008021,237008022,237008024]⟩ (.one ⟨(some 59),(.eX 1 (.t 58)),none,237008007,[237008021,237008022,237008024]⟩ (.one ⟨(some 60),(.load false 1 (.t 59)),none,237008008,[237008021,237008022,237008024]⟩ (.one ⟨(some 75),(.dZ 1 (.t 55) (.t 60)),none,237008023,[237008024]⟩ (.one ⟨none,(.store 1 (.t 75) (.t 74)),none,237008024,[]⟩ (.dm false []))))))))) (.both (.one ⟨(some 58),(.dZ 3 (.t 56) (.t 57)),none,237008006,[237008021,237008022,237008024]⟩ (.one ⟨(some 59),(.eX 1 (.t 58)),none,237008007,[237008021,237008022,237008024]⟩ (.both (.one ⟨(some 55),(.load false 1 (.t 54)),none,237008003,[237008021,237008022,237008024]⟩ (.both (.one ⟨(some 60),(.load false 1 (.t 59)),none,237008008,[237008021,237008022,237008024]⟩ (.one ⟨(some 74),(.append 1 (.t 71) (.t 73)),none,237008022,[237008024]⟩ (.one ⟨(some 75),(.dZ 1 (.t 55) (.t 60)),none,237008023,[237008024]⟩ (.one ⟨none,(.store 1 (.t 75) (.t 74)),none,237008024,[]⟩ (.dm false []))))) (.one ⟨(some 74),(.append 1 (.t 71) (.t 73)),none,237008022,[237008024]⟩ (.one ⟨(some 60),(.load false 1 (.t 59)),none,237008008,[237008021,237008022,237008024]⟩ (.one ⟨(some 75),(.dZ 1 (.t 55) (.t 60)),none,237008023,[237008024]⟩ (.one ⟨none,(.store 1 (.t 75) (.t 74)),none,237008024,[]⟩ (.dm false []))))))) (.both (.one ⟨(some 60),(.load false 1 (.t 59)),none,237008008,[237008021,237008022,237008024]⟩ (.both (.one ⟨(some 55),(.load false 1 (.t 54)),none,237008003,[237008021,237008022,237008024]⟩ (.one ⟨(some 74),(.append 1 (.t 71) (.t 73)),none,237008022,[237008024]⟩ (.one ⟨(some 75),(.dZ 1 (.t 55) (.t 60)),none,237008023,[237008024]⟩ (.one ⟨none,(.store 1 (.t 75) (.t 74)),none,237008024,[]⟩ (.dm false []))))) (.one ⟨(some 74),(.append 1 (.t 71) (.t 73)),none,237008022,[237008024]⟩ (.one ⟨(some 55),(.load false 1 (.t 54)),none,237008003,[237008021,237008022,237008024]⟩ (.one ⟨(some 75),(.dZ 1 (.t 55) (.t 60)),none,237008023,[237008024]⟩ (.one ⟨none,(.store 1 (.t 75) (.t 74)),none,237008024,[]⟩ (.dm false []))))))) (.one ⟨(some 74),(.append 1 (.t 71) (.t 73)),none,237008022,[237008024]⟩ (.one ⟨(some 55),(.load false 1 (.t 54)),none,237008003,[237008021,237008022,237008024]⟩ (.one ⟨(some 60),(.load false 1 (.t 59)),none,237008008,[237008021,237008022,237008024]⟩ (.one ⟨(some 75),(.dZ 1 (.t 55) (.t 60)),none,237008023,[237008024]⟩ (.one ⟨none,(.store 1 (.t 75) (.t 74)),none,237008024,[]⟩ (.dm false [])))))))))) (.one ⟨(some 74),(.append 1 (.t 71) (.t 73)),none,237008022,[237008024]⟩ (.one ⟨(some 55),(.load false 1 (.t 54)),none,237008003,[237008021,237008022,237008024]⟩ (.one ⟨(some 58),(.dZ 3 (.t 56) (.t 57)),none,237008006,[237008021,237008022,237008024]⟩ (.one ⟨(some 59),(.eX 1 (.t 58)),none,237008007,[237008021,237008022,237008024]⟩ (.one ⟨(some 60),(.load false 1 (.t 59)),none,237008008,[237008021,237008022,237008024]⟩ (.one ⟨(some 75),(.dZ 1 (.t 55) (.t 60)),none,237008023,[237008024]⟩ (.one ⟨none,(.store 1 (.t 75) (.t 74)),none,237008024,[]⟩ (.dm false [])))))))))))))))))))))))))))))) (.dm false [q 26 (.bS (.t 6)) 237006000,q 27 (.bin .add .i64 (.t 26) (.k (.int .i64 1))) 237006001,q 6 (.bS (.t 27)) 237006002])))))) (.seq (.dm false [q 76 (.bS (.t 5)) 237009000,q 4 (.bS (.t 76)) 237009001]) .ret)))))),[(.tmp 4)]⟩
theorem MR:ss Tryz.prog 237 [(7,2),(8,2)]=some Of:=by kernel_rfl
def Og:xg:=⟨118,2,(.seq (.dm false [q 4 (.bS (.k .bq)) 240000000]) (.seq (.dm false [q 17 (.bS (.t 0)) 240001000,q 18 (.jR [.gJ] (.t 17) (.t 17)) 240001001,q 5 (.bS (.t 18)) 240001002]) (.seq (.seq (.dm false [q 19 (.bS (.t 5)) 240002000,q 20 (.len (.t 19)) 240002001,q 21 (.bS (.k (.int .i64 0))) 240002002]) (.block 0 (.loop (.seq (.dm false [q 22 (.bin .lss .i64 (.t 21) (.t 20)) 240003000]) (.seq (.cond (.t 22) .skip (.exit 0)) (.seq (.block 1 (.seq (.dm false [q 23 (.bS (.t 21)) 240004000,q 6 (.bS (.t 23)) 240004001]) (.dm false [q 24 (.bS (.t 5)) 240005000,q 25 (.bS (.t 6)) 240005001,q 26 (.bS (.t 6)) 240005002,q 27 (.build [.gJ,(.int .i64 0)] [(1,(1,(.t 26)))]) 240005003,q 28 (.box (.t 27)) 240005004,q 29 (.dZ 1 (.t 24) (.t 25)) 240005005,⟨none,(.store 1 (.t 29) (.t 28)),none,240005006,[]⟩]))) (.dm false [q 30 (.bin .add .i64 (.t 21) (.k (.int .i64 1))) 240006000,q 21 (.bS (.t 30)) 240006001]))))))) (.seq (.seq (.dm false [q 31 (.bS (.t 1)) 240007000,q 32 (.len (.t 31)) 240007001,q 33 (.bS (.k (.int .i64 0))) 240007002]) (.block 2 (.loop (.seq (.dm false [q 34 (.bin .lss .i64 (.t 33) (.t 32)) 240008000]) (.seq (.cond (.t 34) .skip (.exit 2)) (.seq (.block 3 (.seq (.dm false [q 35 (.dZ 3 (.t 31) (.t 33)) 240009000,q 36 (.load true 3 (.t 35)) 240009001,q 8 (.new [(.int .i64 0),(.int .i64 0),(.int .i64 0)]) 240009002,⟨none,(.store 3 (.t 8) (.t 36)),none,240009003,[]⟩]) (.seq (.one (q 37 (.bS (.t 5)) 240010000) (.one (q 38 (.eX 0 (.t 8)) 240010001) (.one (q 39 (.load false 1 (.t 38)) 240010002) (.one (q 40 (.dZ 1 (.t 37) (.t 39)) 240010003) (.one (q 41 (.load false 1 (.t 40)) 240010004) (.one (q 43 (.bS (.t 5)) 240010006) (.one (q 44 (.eX 1 (.t 8)) 240010007) (.both (.one (q 42 (.call 262 [(.t 41)]) 240010005) (.one (q 45 (.load false 1 (.t 44)) 240010008) (.one (q 46 (.dZ 1 (.t 43) (.t 45)) 240010009) (.one (q 47 (.load false 1 (.t 46)) 240010010) (.one (q 48 (.call 262 [(.t 47)]) 240010011) (.one (q 9 (.bS (.t 42)) 240010012) (.one (q 10 (.bS (.t 48)) 240010013) (.dm false [])))))))) (.one (q 45 (.load false 1 (.t 44)) 240010008) (.both (.one (q 42 (.call 262 [(.t 41)]) 240010005) (.one (q 46 (.dZ 1 (.t 43) (.t 45)) 240010009) (.one (q 47 (.load false 1 (.t 46)) 240010010) (.one (q 48 (.call 262 [(.t 47)]) 240010011) (.one (q 9 (.bS (.t 42)) 240010012) (.one (q 10 (.bS (.t 48)) 240010013) (.dm false []))))))) (.one (q 46 (.dZ 1 (.t 43) (.t 45)) 240010009) (.both (.one (q 42 (.call 262 [(.t 41)]) 240010005) (.one (q 47 (.load false 1 (.t 46)) 240010010) (.one (q 48 (.call 262 [(.t 47)]) 240010011) (.one (q 9 (.bS (.t 42)) 240010012) (.one (q 10 (.bS (.t 48)) 240010013) (.dm false [])))))) (.one (q 47 (.load false 1 (.t 46)) 240010010) (.one (q 42 (.call 262 [(.t 41)]) 240010005) (.one (q 48 (.call 262 [(.t 47)]) 240010011) (.one (q 9 (.bS (.t 42)) 240010012) (.one (q 10 (.bS (.t 48)) 240010013) (.dm false [])))))))))))))))))) (.block 4 (.seq (.dm true [q 50 (.bS (.t 9)) 240011000,q 51 (.AN (.t 50)) 240011001,q 52 (.eX 1 (.t 51)) 240011002,q 53 (.load false 1 (.t 52)) 240011003,q 54 (.bS (.t 10)) 240011004,q 55 (.AN (.t 54)) 240011005,q 56 (.eX 1 (.t 55)) 240011006,q 57 (.load false 1 (.t 56)) 240011007,q 58 (.bin .lss .i64 (.t 53) (.t 57)) 240011008,q 49 (.bS (.t 58)) 240011009]) (.cond (.t 49) (.dm false [q 59 (.bS (.t 10)) 240012000,q 60 (.bS (.t 9)) 240012001,q 61 (.AN (.t 59)) 240012002,q 62 (.eX 0 (.t 61)) 240012003,⟨none,(.store 1 (.t 62) (.t 60)),none,240012004,[]⟩]) (.seq (.dm true [q 64 (.bS (.t 10)) 240013000,q 65 (.AN (.t 64)) 240013001,q 66 (.eX 1 (.t 65)) 240013002,q 67 (.load false 1 (.t 66)) 240013003,q 68 (.bS (.t 9)) 240013004,q 69 (.AN (.t 68)) 240013005,q 70 (.eX 1 (.t 69)) 240013006,q 71 (.load false 1 (.t 70)) 240013007,q 72 (.bin .lss .i64 (.t 67) (.t 71)) 240013008,q 63 (.bS (.t 72)) 240013009]) (.cond (.t 63) (.dm false [q 73 (.bS (.t 9)) 240014000,q 74 (.bS (.t 10)) 240014001,q 75 (.AN (.t 73)) 240014002,q 76 (.eX 0 (.t 75)) 240014003,⟨none,(.store 1 (.t 76) (.t 74)),none,240014004,[]⟩]) .skip)))))))) (.dm false [q 77 (.bin .add .i64 (.t 33) (.k (.int .i64 1))) 240015000,q 33 (.bS (.t 77)) 240015001]))))))) (.seq (.dm false [q 11 (.bS (.k .bq)) 240016000]) (.seq (.dm false [⟨(some 78),(.mq (.new ⟨false,[.tI]⟩) []),none,240017000,[]⟩,q 12 (.bS (.t 78)) 240017001]) (.seq (.seq (.dm false [q 79 (.bS (.t 5)) 240018000,q 80 (.len (.t 79)) 240018001,q 81 (.bS (.k (.int .i64 0))) 240018002]) (.block 5 (.loop (.seq (.dm false [q 82 (.bin .lss .i64 (.t 81) (.t 80)) 240019000]) (.seq (.cond (.t 82) .skip (.exit 5)) (.seq (.block 6 (.seq (.dm false [q 83 (.bS (.t 81)) 240020000,q 84 (.dZ 1 (.t 79) (.t 81)) 240020001,q 85 (.load false 1 (.t 84)) 240020002,q 13 (.bS (.t 83)) 240020003,q 14 (.bS (.t 85)) 240020004]) (.seq (.dm false [q 87 (.bS (.t 12)) 240021000,q 88 (.bS (.t 14)) 240021001,q 89 (.call 262 [(.t 88)]) 240021002,q 90 (.AN (.t 89)) 240021003,q 91 (.eX 1 (.t 90)) 240021004,q 92 (.load false 1 (.t 91)) 240021005,⟨(some 93),(.mq (.look ⟨false,[.tI]⟩ true (.int .i64 0)) [(.t 87),(.t 92)]),none,240021006,[]⟩,q 86 (.bS (.t 93)) 240021007,q 94 (.extract 0 (.t 86)) 240021008,q 95 (.extract 1 (.t 86)) 240021009,q 15 (.bS (.t 94)) 240021010,q 16 (.bS (.t 95)) 240021011]) (.seq (.seq (.dm false [q 96 (.bS (.t 16)) 240022000,q 97 (.not (.t 96)) 240022001]) (.cond (.t 97) (.seq (.dm false [q 98 (.bS (.t 11)) 240023000,q 99 (.len (.t 98)) 240023001,q 15 (.bS (.t 99)) 240023002]) (.seq (.dm false [q 100 (.bS (.t 12)) 240024000,q 101 (.bS (.t 13)) 240024001,q 102 (.bS (.t 15)) 240024002,⟨none,(.mw (.set ⟨false,[.tI]⟩) [(.t 100),(.t 101),(.t 102)]),none,240024003,[]⟩]) (.dm false [q 103 (.bS (.t 11)) 240025000,q 104 (.j8 1 1 [(.k .bq)]) 240025001,q 105 (.append 1 (.t 103) (.t 104)) 240025002,q 11 (.bS (.t 105)) 240025003]))) .skip)) (.dm false [q 106 (.bS (.t 11)) 240026000,q 107 (.bS (.t 15)) 240026001,q 108 (.bS (.t 11)) 240026002,q 109 (.bS (.t 15)) 240026003,q 110 (.dZ 1 (.t 108) (.t 109)) 240026004,q 111 (.load false 1 (.t 110)) 240026005,q 112 (.bS (.t 13)) 240026006,q 113 (.j8 1 1 [(.t 112)]) 240026007,q 114 (.append 1 (.t 111) (.t 113)) 240026008,q 115 (.dZ 1 (.t 106) (.t 107)) 240026009,⟨none,(.store 1 (.t 115) (.t 114)),none,240026010,[]⟩]))))) (.dm false [q 116 (.bin .add .i64 (.t 81) (.k (.int .i64 1))) 240027000,q 81 (.bS (.t 116)) 240027001]))))))) (.seq (.dm false [q 117 (.bS (.t 11)) 240028000,q 4 (.bS (.t 117)) 240028001]) .ret)))))))),[(.tmp 4)]⟩
theorem MS:ss Tryz.prog 240 [(10,2)]=some Og:=by kernel_rfl
def QT:xg:=⟨26,3,(.seq (.dm false [q 3 (.box (.t 0)) 85000000,q 4 (.box (.t 1)) 85000001,q 6 (.new [.bq]) 85000002]) (.seq (.dm false [q 10 (.eX 0 (.t 3)) 85001000,q 11 (.load false 1 (.t 10)) 85001001,q 12 (.load true 2 (.t 4)) 85001002,q 13 (.call 142 [(.t 11),(.t 12),(.f 143)]) 85001003,q 9 (.bS (.t 13)) 85001004,q 14 (.extract 0 (.t 9)) 85001005,q 15 (.extract 1 (.t 9)) 85001006,q 7 (.bS (.t 14)) 85001007,q 8 (.bS (.t 15)) 85001008]) (.seq (.one ⟨(some 16),(.eX 0 (.t 3)),none,85002000,[85002007,85002010]⟩ (.one ⟨(some 17),(.load false 1 (.t 16)),none,85002001,[85002007,85002010]⟩ (.one ⟨(some 19),(.bS (.t 7)),none,85002003,[85002007,85002010]⟩ (.one ⟨(some 21),(.bS (.t 2)),none,85002005,[85002007,85002010]⟩ (.both (.one ⟨(some 18),(.call 145 [(.t 17)]),none,85002002,[85002007,85002010]⟩ (.one ⟨(some 20),(.load true 2 (.t 4)),none,85002004,[85002007,85002010]⟩ (.one ⟨(some 22),(.build [(.int .i64 0),(.int .i64 0),(.int .i64 0)] [(0,(2,(.t 20))),(2,(1,(.t 21)))]),none,85002006,[85002007,85002010]⟩ (.one ⟨(some 23),(.j8 3 1 [(.t 22)]),none,85002007,[85002010]⟩ (.one ⟨(some 24),(.call 144 [(.t 18),(.t 19),(.t 23)]),none,85002008,[85002010]⟩ (.one ⟨(some 25),(.build [.bq] [(0,(1,(.t 24)))]),none,85002009,[85002010]⟩ (.one ⟨none,(.store 1 (.t 6) (.t 25)),none,85002010,[]⟩ (.dm false [])))))))) (.one ⟨(some 20),(.load true 2 (.t 4)),none,85002004,[85002007,85002010]⟩ (.one ⟨(some 22),(.build [(.int .i64 0),(.int .i64 0),(.int .i64 0)] [(0,(2,(.t 20))),(2,(1,(.t 21)))]),none,85002006,[85002007,85002010]⟩ (.both (.one ⟨(some 18),(.call 145 [(.t 17)]),none,85002002,[85002007,85002010]⟩ (.one ⟨(some 23),(.j8 3 1 [(.t 22)]),none,85002007,[85002010]⟩ (.one ⟨(some 24),(.call 144 [(.t 18),(.t 19),(.t 23)]),none,85002008,[85002010]⟩ (.one ⟨(some 25),(.build [.bq] [(0,(1,(.t 24)))]),none,85002009,[85002010]⟩ (.one ⟨none,(.store 1 (.t 6) (.t 25)),none,85002010,[]⟩ (.dm false [])))))) (.one ⟨(some 23),(.j8 3 1 [(.t 22)]),none,85002007,[85002010]⟩ (.one ⟨(some 18),(.call 145 [(.t 17)]),none,85002002,[85002007,85002010]⟩ (.one ⟨(some 24),(.call 144 [(.t 18),(.t 19),(.t 23)]),none,85002008,[85002010]⟩ (.one ⟨(some 25),(.build [.bq] [(0,(1,(.t 24)))]),none,85002009,[85002010]⟩ (.one ⟨none,(.store 1 (.t 6) (.t 25)),none,85002010,[]⟩ (.dm false [])))))))))))))) .ret))),[(.cell true 1 6)]⟩
theorem Pv:ss Tryz.prog 85 [(2,2)]=some QT:=by kernel_rfl
def QS:xg:=⟨47,3,(.seq (.dm false [q 3 (.box (.t 0)) 40000000,q 4 (.box (.t 1)) 40000001,q 5 (.box (.t 2)) 40000002,q 6 (.new [.bq]) 40000003,q 7 (.bS (.k (.int .i64 0))) 40000004]) (.seq (.seq (.dm false [q 9 (.load true 4 (.t 3)) 40001000,q 10 (.load true 1 (.t 4)) 40001001,q 11 (.call 69 [(.t 9),(.t 10)]) 40001002,q 8 (.bS (.t 11)) 40001003]) (.seq (.dm false [q 12 (.bS (.t 8)) 40002000,q 13 (.FG true .tI (.t 12) (.k (.int .i64 0))) 40002001]) (.cond (.t 13) (.seq (.dm false [q 14 (.build [.bq] []) 40003000,q 15 (.bS (.t 8)) 40003001,⟨none,(.store 1 (.t 6) (.t 14)),none,40003002,[]⟩,q 7 (.bS (.t 15)) 40003003]) .ret) .skip))) (.seq (.block 0 (.seq (.one (q 17 (.eX 0 (.t 3)) 40004000) (.one (q 18 (.load true 2 (.t 17)) 40004001) (.one (q 19 (.eX 2 (.t 5)) 40004002) (.one (q 20 (.load false 1 (.t 19)) 40004003) (.one (q 21 (.call 83 [(.t 18),(.t 20)]) 40004004) (.one (q 22 (.not (.t 21)) 40004005) (.one (q 23 (.bS (.t 22)) 40004006) (.one ⟨(some 24),(.load true 4 (.t 3)),(some (23,false)),40004007,[]⟩ (.one ⟨(some 25),(.load true 1 (.t 4)),(some (23,false)),40004008,[]⟩ (.one ⟨(some 27),(.eX 0 (.t 5)),(some (23,false)),40004010,[]⟩ (.one ⟨(some 29),(.eX 2 (.t 5)),(some (23,false)),40004012,[]⟩ (.both (.one ⟨(some 26),(.call 73 [(.t 24),(.t 25)]),(some (23,false)),40004009,[]⟩ (.one ⟨(some 28),(.load true 2 (.t 27)),(some (23,false)),40004011,[]⟩ (.one ⟨(some 30),(.load false 1 (.t 29)),(some (23,false)),40004013,[]⟩ (.one ⟨(some 31),(.call 84 [(.t 26),(.t 28),(.t 30)]),(some (23,false)),40004014,[]⟩ (.one ⟨(some 32),(.not (.t 31)),(some (23,false)),40004015,[]⟩ (.one (q 33 (.pick (.t 23) (.k (.bool true)) (.t 32)) 40004016) (.one (q 16 (.bS (.t 33)) 40004017) (.dm false [])))))))) (.both (.one ⟨(some 28),(.load true 2 (.t 27)),(some (23,false)),40004011,[]⟩ (.both (.one ⟨(some 26),(.call 73 [(.t 24),(.t 25)]),(some (23,false)),40004009,[]⟩ (.one ⟨(some 30),(.load false 1 (.t 29)),(some (23,false)),40004013,[]⟩ (.one ⟨(some 31),(.call 84 [(.t 26),(.t 28),(.t 30)]),(some (23,false)),40004014,[]⟩ (.one ⟨(some 32),(.not (.t 31)),(some (23,false)),40004015,[]⟩ (.one (q 33 (.pick (.t 23) (.k (.bool true)) (.t 32)) 40004016) (.one (q 16 (.bS (.t 33)) 40004017) (.dm false []))))))) (.one ⟨(some 30),(.load false 1 (.t 29)),(some (23,false)),40004013,[]⟩ (.one ⟨(some 26),(.call 73 [(.t 24),(.t 25)]),(some (23,false)),40004009,[]⟩ (.one ⟨(some 31),(.call 84 [(.t 26),(.t 28),(.t 30)]),(some (23,false)),40004014,[]⟩ (.one ⟨(some 32),(.not (.t 31)),(some (23,false)),40004015,[]⟩ (.one (q 33 (.pick (.t 23) (.k (.bool true)) (.t 32)) 40004016) (.one (q 16 (.bS (.t 33)) 40004017) (.dm false []))))))))) (.one ⟨(some 30),(.load false 1 (.t 29)),(some (23,false)),40004013,[]⟩ (.both (.one ⟨(some 26),(.call 73 [(.t 24),(.t 25)]),(some (23,false)),40004009,[]⟩ (.one ⟨(some 28),(.load true 2 (.t 27)),(some (23,false)),40004011,[]⟩ (.one ⟨(some 31),(.call 84 [(.t 26),(.t 28),(.t 30)]),(some (23,false)),40004014,[]⟩ (.one ⟨(some 32),(.not (.t 31)),(some (23,false)),40004015,[]⟩ (.one (q 33 (.pick (.t 23) (.k (.bool true)) (.t 32)) 40004016) (.one (q 16 (.bS (.t 33)) 40004017) (.dm false []))))))) (.one ⟨(some 28),(.load true 2 (.t 27)),(some (23,false)),40004011,[]⟩ (.one ⟨(some 26),(.call 73 [(.t 24),(.t 25)]),(some (23,false)),40004009,[]⟩ (.one ⟨(some 31),(.call 84 [(.t 26),(.t 28),(.t 30)]),(some (23,false)),40004014,[]⟩ (.one ⟨(some 32),(.not (.t 31)),(some (23,false)),40004015,[]⟩ (.one (q 33 (.pick (.t 23) (.k (.bool true)) (.t 32)) 40004016) (.one (q 16 (.bS (.t 33)) 40004017) (.dm false [])))))))))))))))))))))) (.cond (.t 16) (.seq (.dm false [q 34 (.build [.bq] []) 40005000,⟨none,(.store 1 (.t 6) (.t 34)),none,40005001,[]⟩,q 7 (.bS (.k (.int .i64 2))) 40005002]) .ret) (.seq (.dm false [q 36 (.eX 0 (.t 4)) 40006000,q 37 (.load false 1 (.t 36)) 40006001,q 38 (.len (.t 37)) 40006002,q 39 (.bin .geq .i64 (.t 38) (.k (.int .i64 500))) 40006003,q 35 (.bS (.t 39)) 40006004]) (.cond (.t 35) (.seq (.dm false [q 40 (.build [.bq] []) 40007000,⟨none,(.store 1 (.t 6) (.t 40)),none,40007001,[]⟩,q 7 (.bS (.k (.int .i64 4))) 40007002]) .ret) .skip))))) (.seq (.dm false [q 41 (.load true 1 (.t 4)) 40008000,q 42 (.eX 0 (.t 5)) 40008001,q 43 (.load true 2 (.t 42)) 40008002,q 44 (.eX 2 (.t 5)) 40008003,q 45 (.load false 1 (.t 44)) 40008004,q 46 (.call 85 [(.t 41),(.t 43),(.t 45)]) 40008005,⟨none,(.store 1 (.t 6) (.t 46)),none,40008006,[]⟩,q 7 (.bS (.k (.int .i64 0))) 40008007]) .ret)))),[(.cell true 1 6),(.tmp 7)]⟩
theorem HC:ss Tryz.prog 40 [(4,2)]=some QS:=by kernel_rfl
def TW:xg:=⟨127,3,(.seq (.dm false [q 3 (.box (.t 0)) 8000000,q 4 (.box (.t 1)) 8000001,q 5 (.box (.t 2)) 8000002,q 6 (.bS (.k (.bool false))) 8000003]) (.seq (.dm false [q 7 (.bS (.k (.int .i64 1048576))) 8001000]) (.seq (.dm false [q 19 (.load true 4 (.t 3)) 8002000,q 20 (.bS (.t 7)) 8002001,q 21 (.call 14 [(.t 19),(.t 20)]) 8002002,q 7 (.bS (.t 21)) 8002003]) (.seq (.seq (.dm false [q 22 (.bS (.t 7)) 8003000,q 23 (.bin .lss .i64 (.t 22) (.k (.int .i64 0))) 8003001]) (.cond (.t 23) (.seq (.dm false [q 6 (.bS (.k (.bool true))) 8004000]) .ret) .skip)) (.seq (.dm false [q 24 (.load true 1 (.t 4)) 8005000,q 25 (.bS (.t 7)) 8005001,q 26 (.call 15 [(.t 24),(.t 25)]) 8005002,q 7 (.bS (.t 26)) 8005003]) (.seq (.seq (.dm false [q 27 (.bS (.t 7)) 8006000,q 28 (.bin .lss .i64 (.t 27) (.k (.int .i64 0))) 8006001]) (.cond (.t 28) (.seq (.dm false [q 6 (.bS (.k (.bool true))) 8007000]) .ret) .skip)) (.seq (.dm true [⟨(some 30),(.load true 4 (.t 3)),none,8008000,[8008010,8008011]⟩,⟨(some 31),(.call 17 [(.t 30)]),none,8008001,[8008010,8008011]⟩,⟨(some 32),(.load true 1 (.t 4)),none,8008002,[8008010,8008011]⟩,⟨(some 33),(.call 18 [(.t 32)]),none,8008003,[8008010,8008011]⟩,⟨(some 34),(.load true 3 (.t 5)),none,8008004,[8008010,8008011]⟩,⟨(some 35),(.call 39 [(.t 34)]),none,8008005,[8008010,8008011]⟩,⟨(some 36),(.call 38 [(.t 31),(.t 33),(.t 35)]),none,8008006,[8008010,8008011]⟩,⟨(some 29),(.bS (.t 36)),none,8008007,[8008010,8008011]⟩,⟨(some 37),(.extract 0 (.t 29)),none,8008008,[8008010,8008011]⟩,⟨(some 38),(.extract 1 (.t 29)),none,8008009,[8008010,8008011]⟩,⟨(some 8),(.new [.bq]),none,8008010,[8008011]⟩,⟨none,(.store 1 (.t 8) (.t 37)),none,8008011,[]⟩,q 9 (.bS (.t 38)) 8008012]) (.seq (.dm false [q 39 (.load true 4 (.t 3)) 8009000,q 40 (.call 17 [(.t 39)]) 8009001,q 10 (.new [.bq,.bq,.bq,(.int .i64 0)]) 8009002,⟨none,(.store 4 (.t 10) (.t 40)),none,8009003,[]⟩]) (.seq (.dm false [q 41 (.load true 1 (.t 4)) 8010000,q 42 (.call 18 [(.t 41)]) 8010001,q 11 (.new [.bq]) 8010002,⟨none,(.store 1 (.t 11) (.t 42)),none,8010003,[]⟩]) (.seq (.one ⟨(some 46),(.load true 3 (.t 5)),none,8011002,[8011008,8011009]⟩ (.both (.one ⟨(some 44),(.load true 4 (.t 10)),none,8011000,[8011008,8011009]⟩ (.both (.one ⟨(some 45),(.load true 1 (.t 11)),none,8011001,[8011008,8011009]⟩ (.both (.one ⟨(some 47),(.call 39 [(.t 46)]),none,8011003,[8011008,8011009]⟩ (.both (.one ⟨(some 48),(.call 40 [(.t 44),(.t 45),(.t 47)]),none,8011004,[8011008,8011009]⟩ (.one ⟨(some 43),(.bS (.t 48)),none,8011005,[8011008,8011009]⟩ (.one ⟨(some 49),(.extract 0 (.t 43)),none,8011006,[8011008,8011009]⟩ (.one ⟨(some 50),(.extract 1 (.t 43)),none,8011007,[8011008,8011009]⟩ (.one ⟨(some 12),(.new [.bq]),none,8011008,[8011009]⟩ (.one ⟨none,(.store 1 (.t 12) (.t 49)),none,8011009,[]⟩ (.one (q 13 (.bS (.t 50)) 8011010) (.dm false [])))))))) (.one ⟨(some 12),(.new [.bq]),none,8011008,[8011009]⟩ (.one ⟨(some 48),(.call 40 [(.t 44),(.t 45),(.t 47)]),none,8011004,[8011008,8011009]⟩ (.one ⟨(some 43),(.bS (.t 48)),none,8011005,[8011008,8011009]⟩ (.one ⟨(some 49),(.extract 0 (.t 43)),none,8011006,[8011008,8011009]⟩ (.one ⟨(some 50),(.extract 1 (.t 43)),none,8011007,[8011008,8011009]⟩ (.one ⟨none,(.store 1 (.t 12) (.t 49)),none,8011009,[]⟩ (.one (q 13 (.bS (.t 50)) 8011010) (.dm false [])))))))))) (.one ⟨(some 12),(.new [.bq]),none,8011008,[8011009]⟩ (.one ⟨(some 47),(.call 39 [(.t 46)]),none,8011003,[8011008,8011009]⟩ (.one ⟨(some 48),(.call 40 [(.t 44),(.t 45),(.t 47)]),none,8011004,[8011008,8011009]⟩ (.one ⟨(some 43),(.bS (.t 48)),none,8011005,[8011008,8011009]⟩ (.one ⟨(some 49),(.extract 0 (.t 43)),none,8011006,[8011008,8011009]⟩ (.one ⟨(some 50),(.extract 1 (.t 43)),none,8011007,[8011008,8011009]⟩ (.one ⟨none,(.store 1 (.t 12) (.t 49)),none,8011009,[]⟩ (.one (q 13 (.bS (.t 50)) 8011010) (.dm false []))))))))))) (.both (.one ⟨(some 47),(.call 39 [(.t 46)]),none,8011003,[8011008,8011009]⟩ (.one ⟨(some 45),(.load true 1 (.t 11)),none,8011001,[8011008,8011009]⟩ (.both (.one ⟨(some 48),(.call 40 [(.t 44),(.t 45),(.t 47)]),none,8011004,[8011008,8011009]⟩ (.one ⟨(some 43),(.bS (.t 48)),none,8011005,[8011008,8011009]⟩ (.one ⟨(some 49),(.extract 0 (.t 43)),none,8011006,[8011008,8011009]⟩ (.one ⟨(some 50),(.extract 1 (.t 43)),none,8011007,[8011008,8011009]⟩ (.one ⟨(some 12),(.new [.bq]),none,8011008,[8011009]⟩ (.one ⟨none,(.store 1 (.t 12) (.t 49)),none,8011009,[]⟩ (.one (q 13 (.bS (.t 50)) 8011010) (.dm false [])))))))) (.one ⟨(some 12),(.new [.bq]),none,8011008,[8011009]⟩ (.one ⟨(some 48),(.call 40 [(.t 44),(.t 45),(.t 47)]),none,8011004,[8011008,8011009]⟩ (.one ⟨(some 43),(.bS (.t 48)),none,8011005,[8011008,8011009]⟩ (.one ⟨(some 49),(.extract 0 (.t 43)),none,8011006,[8011008,8011009]⟩ (.one ⟨(some 50),(.extract 1 (.t 43)),none,8011007,[8011008,8011009]⟩ (.one ⟨none,(.store 1 (.t 12) (.t 49)),none,8011009,[]⟩ (.one (q 13 (.bS (.t 50)) 8011010) (.dm false []))))))))))) (.one ⟨(some 12),(.new [.bq]),none,8011008,[8011009]⟩ (.both (.one ⟨(some 45),(.load true 1 (.t 11)),none,8011001,[8011008,8011009]⟩ (.one ⟨(some 47),(.call 39 [(.t 46)]),none,8011003,[8011008,8011009]⟩ (.one ⟨(some 48),(.call 40 [(.t 44),(.t 45),(.t 47)]),none,8011004,[8011008,8011009]⟩ (.one ⟨(some 43),(.bS (.t 48)),none,8011005,[8011008,8011009]⟩ (.one ⟨(some 49),(.extract 0 (.t 43)),none,8011006,[8011008,8011009]⟩ (.one ⟨(some 50),(.extract 1 (.t 43)),none,8011007,[8011008,8011009]⟩ (.one ⟨none,(.store 1 (.t 12) (.t 49)),none,8011009,[]⟩ (.one (q 13 (.bS (.t 50)) 8011010) (.dm false []))))))))) (.one ⟨(some 47),(.call 39 [(.t 46)]),none,8011003,[8011008,8011009]⟩ (.one ⟨(some 45),(.load true 1 (.t 11)),none,8011001,[8011008,8011009]⟩ (.one ⟨(some 48),(.call 40 [(.t 44),(.t 45),(.t 47)]),none,8011004,[8011008,8011009]⟩ (.one ⟨(some 43),(.bS (.t 48)),none,8011005,[8011008,8011009]⟩ (.one ⟨(some 49),(.extract 0 (.t 43)),none,8011006,[8011008,8011009]⟩ (.one ⟨(some 50),(.extract 1 (.t 43)),none,8011007,[8011008,8011009]⟩ (.one ⟨none,(.store 1 (.t 12) (.t 49)),none,8011009,[]⟩ (.one (q 13 (.bS (.t 50)) 8011010) (.dm false [])))))))))))))) (.both (.one ⟨(some 45),(.load true 1 (.t 11)),none,8011001,[8011008,8011009]⟩ (.both (.one ⟨(some 44),(.load true 4 (.t 10)),none,8011000,[8011008,8011009]⟩ (.both (.one ⟨(some 47),(.call 39 [(.t 46)]),none,8011003,[8011008,8011009]⟩ (.both (.one ⟨(some 48),(.call 40 [(.t 44),(.t 45),(.t 47)]),none,8011004,[8011008,8011009]⟩ (.one ⟨(some 43),(.bS (.t 48)),none,8011005,[8011008,8011009]⟩ (.one ⟨(some 49),(.extract 0 (.t 43)),none,8011006,[8011008,8011009]⟩ (.one ⟨(some 50),(.extract 1 (.t 43)),none,8011007,[8011008,8011009]⟩ (.one ⟨(some 12),(.new [.bq]),none,8011008,[8011009]⟩ (.one ⟨none,(.store 1 (.t 12) (.t 49)),none,8011009,[]⟩ (.one (q 13 (.bS (.t 50)) 8011010) (.dm false [])))))))) (.one ⟨(some 12),(.new [.bq]),none,8011008,[8011009]⟩ (.one ⟨(some 48),(.call 40 [(.t 44),(.t 45),(.t 47)]),none,8011004,[8011008,8011009]⟩ (.one ⟨(some 43),(.bS (.t 48)),none,8011005,[8011008,8011009]⟩ (.one ⟨(some 49),(.extract 0 (.t 43)),none,8011006,[8011008,8011009]⟩ (.one ⟨(some 50),(.extract 1 (.t 43)),none,8011007,[8011008,8011009]⟩ (.one ⟨none,(.store 1 (.t 12) (.t 49)),none,8011009,[]⟩ (.one (q 13 (.bS (.t 50)) 8011010) (.dm false [])))))))))) (.one ⟨(some 12),(.new [.bq]),none,8011008,[8011009]⟩ (.one ⟨(some 47),(.call 39 [(.t 46)]),none,8011003,[8011008,8011009]⟩ (.one ⟨(some 48),(.call 40 [(.t 44),(.t 45),(.t 47)]),none,8011004,[8011008,8011009]⟩ (.one ⟨(some 43),(.bS (.t 48)),none,8011005,[8011008,8011009]⟩ (.one ⟨(some 49),(.extract 0 (.t 43)),none,8011006,[8011008,8011009]⟩ (.one ⟨(some 50),(.extract 1 (.t 43)),none,8011007,[8011008,8011009]⟩ (.one ⟨none,(.store 1 (.t 12) (.t 49)),none,8011009,[]⟩ (.one (q 13 (.bS (.t 50)) 8011010) (.dm false []))))))))))) (.both (.one ⟨(some 47),(.call 39 [(.t 46)]),none,8011003,[8011008,8011009]⟩ (.one ⟨(some 44),(.load true 4 (.t 10)),none,8011000,[8011008,8011009]⟩ (.both (.one ⟨(some 48),(.call 40 [(.t 44),(.t 45),(.t 47)]),none,8011004,[8011008,8011009]⟩ (.one ⟨(some 43),(.bS (.t 48)),none,8011005,[8011008,8011009]⟩ (.one ⟨(some 49),(.extract 0 (.t 43)),none,8011006,[8011008,8011009]⟩ (.one ⟨(some 50),(.extract 1 (.t 43)),none,8011007,[8011008,8011009]⟩ (.one ⟨(some 12),(.new [.bq]),none,8011008,[8011009]⟩ (.one ⟨none,(.store 1 (.t 12) (.t 49)),none,8011009,[]⟩ (.one (q 13 (.bS (.t 50)) 8011010) (.dm false [])))))))) (.one ⟨(some 12),(.new [.bq]),none,8011008,[8011009]⟩ (.one ⟨(some 48),(.call 40 [(.t 44),(.t 45),(.t 47)]),none,8011004,[8011008,8011009]⟩ (.one ⟨(some 43),(.bS (.t 48)),none,8011005,[8011008,8011009]⟩ (.one ⟨(some 49),(.extract 0 (.t 43)),none,8011006,[8011008,8011009]⟩ (.one ⟨(some 50),(.extract 1 (.t 43)),none,8011007,[8011008,8011009]⟩ (.one ⟨none,(.store 1 (.t 12) (.t 49)),none,8011009,[]⟩ (.one (q 13 (.bS (.t 50)) 8011010) (.dm false []))))))))))) (.one ⟨(some 12),(.new [.bq]),none,8011008,[8011009]⟩ (.both (.one ⟨(some 44),(.load true 4 (.t 10)),none,8011000,[8011008,8011009]⟩ (.one ⟨(some 47),(.call 39 [(.t 46)]),none,8011003,[8011008,8011009]⟩ (.one ⟨(some 48),(.call 40 [(.t 44),(.t 45),(.t 47)]),none,8011004,[8011008,8011009]⟩ (.one ⟨(some 43),(.bS (.t 48)),none,8011005,[8011008,8011009]⟩ (.one ⟨(some 49),(.extract 0 (.t 43)),none,8011006,[8011008,8011009]⟩ (.one ⟨(some 50),(.extract 1 (.t 43)),none,8011007,[8011008,8011009]⟩ (.one ⟨none,(.store 1 (.t 12) (.t 49)),none,8011009,[]⟩ (.one (q 13 (.bS (.t 50)) 8011010) (.dm false []))))))))) (.one ⟨(some 47),(.call 39 [(.t 46)]),none,8011003,[8011008,8011009]⟩ (.one ⟨(some 44),(.load true 4 (.t 10)),none,8011000,[8011008,8011009]⟩ (.one ⟨(some 48),(.call 40 [(.t 44),(.t 45),(.t 47)]),none,8011004,[8011008,8011009]⟩ (.one ⟨(some 43),(.bS (.t 48)),none,8011005,[8011008,8011009]⟩ (.one ⟨(some 49),(.extract 0 (.t 43)),none,8011006,[8011008,8011009]⟩ (.one ⟨(some 50),(.extract 1 (.t 43)),none,8011007,[8011008,8011009]⟩ (.one ⟨none,(.store 1 (.t 12) (.t 49)),none,8011009,[]⟩ (.one (q 13 (.bS (.t 50)) 8011010) (.dm false [])))))))))))))) (.both (.one ⟨(some 47),(.call 39 [(.t 46)]),none,8011003,[8011008,8011009]⟩ (.one ⟨(some 44),(.load true 4 (.t 10)),none,8011000,[8011008,8011009]⟩ (.one ⟨(some 45),(.load true 1 (.t 11)),none,8011001,[8011008,8011009]⟩ (.both (.one ⟨(some 48),(.call 40 [(.t 44),(.t 45),(.t 47)]),none,8011004,[8011008,8011009]⟩ (.one ⟨(some 43),(.bS (.t 48)),none,8011005,[8011008,8011009]⟩ (.one ⟨(some 49),(.extract 0 (.t 43)),none,8011006,[8011008,8011009]⟩ (.one ⟨(some 50),(.extract 1 (.t 43)),none,8011007,[8011008,8011009]⟩ (.one ⟨(some 12),(.new [.bq]),none,8011008,[8011009]⟩ (.one ⟨none,(.store 1 (.t 12) (.t 49)),none,8011009,[]⟩ (.one (q 13 (.bS (.t 50)) 8011010) (.dm false [])))))))) (.one ⟨(some 12),(.new [.bq]),none,8011008,[8011009]⟩ (.one ⟨(some 48),(.call 40 [(.t 44),(.t 45),(.t 47)]),none,8011004,[8011008,8011009]⟩ (.one ⟨(some 43),(.bS (.t 48)),none,8011005,[8011008,8011009]⟩ (.one ⟨(some 49),(.extract 0 (.t 43)),none,8011006,[8011008,8011009]⟩ (.one ⟨(some 50),(.extract 1 (.t 43)),none,8011007,[8011008,8011009]⟩ (.one ⟨none,(.store 1 (.t 12) (.t 49)),none,8011009,[]⟩ (.one (q 13 (.bS (.t 50)) 8011010) (.dm false [])))))))))))) (.one ⟨(some 12),(.new [.bq]),none,8011008,[8011009]⟩ (.both (.one ⟨(some 44),(.load true 4 (.t 10)),none,8011000,[8011008,8011009]⟩ (.both (.one ⟨(some 45),(.load true 1 (.t 11)),none,8011001,[8011008,8011009]⟩ (.one ⟨(some 47),(.call 39 [(.t 46)]),none,8011003,[8011008,8011009]⟩ (.one ⟨(some 48),(.call 40 [(.t 44),(.t 45),(.t 47)]),none,8011004,[8011008,8011009]⟩ (.one ⟨(some 43),(.bS (.t 48)),none,8011005,[8011008,8011009]⟩ (.one ⟨(some 49),(.extract 0 (.t 43)),none,8011006,[8011008,8011009]⟩ (.one ⟨(some 50),(.extract 1 (.t 43)),none,8011007,[8011008,8011009]⟩ (.one ⟨none,(.store 1 (.t 12) (.t 49)),none,8011009,[]⟩ (.one (q 13 (.bS (.t 50)) 8011010) (.dm false []))))))))) (.one ⟨(some 47),(.call 39 [(.t 46)]),none,8011003,[8011008,8011009]⟩ (.one ⟨(some 45),(.load true 1 (.t 11)),none,8011001,[8011008,8011009]⟩ (.one ⟨(some 48),(.call 40 [(.t 44),(.t 45),(.t 47)]),none,8011004,[8011008,8011009]⟩ (.one ⟨(some 43),(.bS (.t 48)),none,8011005,[8011008,8011009]⟩ (.one ⟨(some 49),(.extract 0 (.t 43)),none,8011006,[8011008,8011009]⟩ (.one ⟨(some 50),(.extract 1 (.t 43)),none,8011007,[8011008,8011009]⟩ (.one ⟨none,(.store 1 (.t 12) (.t 49)),none,8011009,[]⟩ (.one (q 13 (.bS (.t 50)) 8011010) (.dm false []))))))))))) (.both (.one ⟨(some 45),(.load true 1 (.t 11)),none,8011001,[8011008,8011009]⟩ (.both (.one ⟨(some 44),(.load true 4 (.t 10)),none,8011000,[8011008,8011009]⟩ (.one ⟨(some 47),(.call 39 [(.t 46)]),none,8011003,[8011008,8011009]⟩ (.one ⟨(some 48),(.call 40 [(.t 44),(.t 45),(.t 47)]),none,8011004,[8011008,8011009]⟩ (.one ⟨(some 43),(.bS (.t 48)),none,8011005,[8011008,8011009]⟩ (.one ⟨(some 49),(.extract 0 (.t 43)),none,8011006,[8011008,8011009]⟩ (.one ⟨(some 50),(.extract 1 (.t 43)),none,8011007,[8011008,8011009]⟩ (.one ⟨none,(.store 1 (.t 12) (.t 49)),none,8011009,[]⟩ (.one (q 13 (.bS (.t 50)) 8011010) (.dm false []))))))))) (.one ⟨(some 47),(.call 39 [(.t 46)]),none,8011003,[8011008,8011009]⟩ (.one ⟨(some 44),(.load true 4 (.t 10)),none,8011000,[8011008,8011009]⟩ (.one ⟨(some 48),(.call 40 [(.t 44),(.t 45),(.t 47)]),none,8011004,[8011008,8011009]⟩ (.one ⟨(some 43),(.bS (.t 48)),none,8011005,[8011008,8011009]⟩ (.one ⟨(some 49),(.extract 0 (.t 43)),none,8011006,[8011008,8011009]⟩ (.one ⟨(some 50),(.extract 1 (.t 43)),none,8011007,[8011008,8011009]⟩ (.one ⟨none,(.store 1 (.t 12) (.t 49)),none,8011009,[]⟩ (.one (q 13 (.bS (.t 50)) 8011010) (.dm false []))))))))))) (.one ⟨(some 47),(.call 39 [(.t 46)]),none,8011003,[8011008,8011009]⟩ (.one ⟨(some 44),(.load true 4 (.t 10)),none,8011000,[8011008,8011009]⟩ (.one ⟨(some 45),(.load true 1 (.t 11)),none,8011001,[8011008,8011009]⟩ (.one ⟨(some 48),(.call 40 [(.t 44),(.t 45),(.t 47)]),none,8011004,[8011008,8011009]⟩ (.one ⟨(some 43),(.bS (.t 48)),none,8011005,[8011008,8011009]⟩ (.one ⟨(some 49),(.extract 0 (.t 43)),none,8011006,[8011008,8011009]⟩ (.one ⟨(some 50),(.extract 1 (.t 43)),none,8011007,[8011008,8011009]⟩ (.one ⟨none,(.store 1 (.t 12) (.t 49)),none,8011009,[]⟩ (.one (q 13 (.bS (.t 50)) 8011010) (.dm false []))))))))))))))))) (.seq (.seq (.dm false [q 51 (.load true 1 (.t 12)) 8012000,q 52 (.load true 1 (.t 8)) 8012001,q 53 (.call 21 [(.t 51),(.t 52)]) 8012002,q 54 (.not (.t 53)) 8012003,q 55 (.bS (.t 54)) 8012004,⟨(some 56),(.bS (.t 13)),(some (55,false)),8012005,[]⟩,⟨(some 57),(.bS (.t 9)),(some (55,false)),8012006,[]⟩,⟨(some 58),(.FG true .tI (.t 56) (.t 57)),(some (55,false)),8012007,[]⟩,q 59 (.pick (.t 55) (.k (.bool true)) (.t 58)) 8012008]) (.cond (.t 59) (.seq (.dm false [q 6 (.bS (.k (.bool false))) 8013000]) .ret) .skip)) (.seq (.seq (.dm true [q 60 (.load true 4 (.t 10)) 8014000,q 61 (.load true 4 (.t 3)) 8014001,q 62 (.call 17 [(.t 61)]) 8014002,q 63 (.call 20 [(.t 60),(.t 62)]) 8014003,q 64 (.not (.t 63)) 8014004]) (.cond (.t 64) (.seq (.dm false [q 6 (.bS (.k (.bool false))) 8015000]) .ret) .skip)) (.seq (.seq (.dm true [q 65 (.load true 1 (.t 11)) 8016000,q 66 (.load true 1 (.t 4)) 8016001,q 67 (.call 18 [(.t 66)]) 8016002,q 68 (.call 21 [(.t 65),(.t 67)]) 8016003,q 69 (.not (.t 68)) 8016004]) (.cond (.t 69) (.seq (.dm false [q 6 (.bS (.k (.bool false))) 8017000]) .ret) .skip)) (.seq (.dm false [q 14 (.bS (.k (.int .i64 1))) 8018000]) (.seq (.dm false [q 70 (.load true 4 (.t 10)) 8019000,q 71 (.bS (.t 14)) 8019001,q 72 (.call 31 [(.t 70),(.t 71)]) 8019002,q 14 (.bS (.t 72)) 8019003]) (.seq (.dm false [q 73 (.load true 1 (.t 11)) 8020000,q 74 (.bS (.t 14)) 8020001,q 75 (.call 32 [(.t 73),(.t 74)]) 8020002,q 14 (.bS (.t 75)) 8020003]) (.seq (.seq (.dm false [q 76 (.bS (.t 14)) 8021000,q 77 (.bin .lss .i64 (.t 76) (.k (.int .i64 0))) 8021001,q 78 (.bS (.t 77)) 8021002,⟨(some 79),(.load true 1 (.t 12)),(some (78,false)),8021003,[]⟩,⟨(some 80),(.load true 1 (.t 8)),(some (78,false)),8021004,[]⟩,⟨(some 81),(.call 21 [(.t 79),(.t 80)]),(some (78,false)),8021005,[]⟩,⟨(some 82),(.not (.t 81)),(some (78,false)),8021006,[]⟩,q 83 (.pick (.t 78) (.k (.bool true)) (.t 82)) 8021007,q 84 (.bS (.t 83)) 8021008,⟨(some 85),(.bS (.t 13)),(some (84,false)),8021009,[]⟩,⟨(some 86),(.bS (.t 9)),(some (84,false)),8021010,[]⟩,⟨(some 87),(.FG true .tI (.t 85) (.t 86)),(some (84,false)),8021011,[]⟩,q 88 (.pick (.t 84) (.k (.bool true)) (.t 87)) 8021012]) (.cond (.t 88) (.seq (.dm false [q 6 (.bS (.k (.bool false))) 8022000]) .ret) .skip)) (.seq (.dm false [q 15 (.bS (.k (.int .i64 1))) 8023000]) (.seq (.dm false [q 89 (.load true 1 (.t 12)) 8024000,q 90 (.bS (.t 15)) 8024001,q 91 (.call 32 [(.t 89),(.t 90)]) 8024002,q 15 (.bS (.t 91)) 8024003]) (.seq (.dm false [q 16 (.bS (.k (.int .i64 1))) 8025000]) (.seq (.dm false [q 92 (.load true 1 (.t 12)) 8026000,q 93 (.bS (.t 16)) 8026001,q 94 (.call 37 [(.t 92),(.t 93)]) 8026002,q 16 (.bS (.t 94)) 8026003]) (.seq (.seq (.dm false [q 95 (.bS (.t 16)) 8027000,q 96 (.bin .lss .i64 (.t 95) (.k (.int .i64 0))) 8027001]) (.cond (.t 96) (.seq (.dm false [q 6 (.bS (.k (.bool false))) 8028000]) .ret) .skip)) (.seq (.seq (.dm false [q 97 (.bS (.t 16)) 8029000,q 98 (.bS (.t 15)) 8029001,q 99 (.FG true .tI (.t 97) (.t 98)) 8029002]) (.cond (.t 99) (.seq (.dm false [q 6 (.bS (.k (.bool false))) 8030000]) .ret) .skip)) (.seq (.dm true [⟨(some 101),(.load true 4 (.t 3)),none,8031000,[8031010,8031011]⟩,⟨(some 102),(.call 17 [(.t 101)]),none,8031001,[8031010,8031011]⟩,⟨(some 103),(.load true 1 (.t 4)),none,8031002,[8031010,8031011]⟩,⟨(some 104),(.call 18 [(.t 103)]),none,8031003,[8031010,8031011]⟩,⟨(some 105),(.load true 3 (.t 5)),none,8031004,[8031010,8031011]⟩,⟨(some 106),(.call 39 [(.t 105)]),none,8031005,[8031010,8031011]⟩,⟨(some 107),(.call 40 [(.t 102),(.t 104),(.t 106)]),none,8031006,[8031010,8031011]⟩,⟨(some 100),(.bS (.t 107)),none,8031007,[8031010,8031011]⟩,⟨(some 108),(.extract 0 (.t 100)),none,8031008,[8031010,8031011]⟩,⟨(some 109),(.extract 1 (.t 100)),none,8031009,[8031010,8031011]⟩,⟨(some 17),(.new [.bq]),none,8031010,[8031011]⟩,⟨none,(.store 1 (.t 17) (.t 108)),none,8031011,[]⟩,q 18 (.bS (.t 109)) 8031012]) (.seq (.seq (.dm false [q 110 (.load true 1 (.t 17)) 8032000,q 111 (.load true 1 (.t 8)) 8032001,q 112 (.call 21 [(.t 110),(.t 111)]) 8032002,q 113 (.not (.t 112)) 8032003,q 114 (.bS (.t 113)) 8032004,⟨(some 115),(.bS (.t 18)),(some (114,false)),8032005,[]⟩,⟨(some 116),(.bS (.t 9)),(some (114,false)),8032006,[]⟩,⟨(some 117),(.FG true .tI (.t 115) (.t 116)),(some (114,false)),8032007,[]⟩,q 118 (.pick (.t 114) (.k (.bool true)) (.t 117)) 8032008]) (.cond (.t 118) (.seq (.dm false [q 6 (.bS (.k (.bool false))) 8033000]) .ret) .skip)) (.seq (.dm false [q 16 (.bS (.k (.int .i64 1))) 8034000]) (.seq (.dm false [q 119 (.load true 1 (.t 12)) 8035000,q 120 (.bS (.t 16)) 8035001,q 121 (.call 37 [(.t 119),(.t 120)]) 8035002,q 16 (.bS (.t 121)) 8035003]) (.seq (.seq (.dm false [q 122 (.bS (.t 16)) 8036000,q 123 (.bin .lss .i64 (.t 122) (.k (.int .i64 0))) 8036001]) (.cond (.t 123) (.seq (.dm false [q 6 (.bS (.k (.bool false))) 8037000]) .ret) .skip)) (.seq (.seq (.dm false [q 124 (.bS (.t 16)) 8038000,q 125 (.bS (.t 15)) 8038001,q 126 (.FG true .tI (.t 124) (.t 125)) 8038002]) (.cond (.t 126) (.seq (.dm false [q 6 (.bS (.k (.bool false))) 8039000]) .ret) .skip)) (.seq (.dm false [q 6 (.bS (.k (.bool true))) 8040000]) .ret)))))))))))))))))))))))))))))),[(.tmp 6)]⟩
theorem Sh:ss Tryz.prog 8 [(11,2)]=some TW:=by kernel_rfl
end Go.Proofs.YtgoelphibofcmaaGreat.V
