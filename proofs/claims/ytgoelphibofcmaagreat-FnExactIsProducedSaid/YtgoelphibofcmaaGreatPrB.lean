/- One operation, calls among them. -/
import Derived.Test.YtgoelphibofcmaaGreatPrA
import Derived.Orders
import Derived.Conc.LoneCalls
import Derived.WalkKit
import Derived.WalkSpells
import Derived.WalkLawsBesides
import Derived.Lib.Hide
import Derived.Deep.QuietTactic
import Derived.BigQuiet
import Derived.StillTailTactics
import Derived.Deep.RegionWith
import Derived.Deep.RegionHeld3
import Derived.Deep.LoopGhost
import Derived.Deep.CutRange
import Derived.Deep.DeepCutAuto
import Derived.Test.YtgoelphibofcmaaGreatChecked
set_option linter.unusedVariables false
set_option linter.unusedSimpArgs false
set_option maxRecDepth 100000
set_option maxHeartbeats 16000000
namespace Go.Proofs.YtgoelphibofcmaaGreat.V
open Go.RowKit
variable {P:Program} {w w':World} {D D' D2:Nat->Prop} {ι ι' ι2:Names}
def Sound (P:Program):fq:=fun f args σ K=>∀(hs:Nat) (D:Nat->Prop) (ι:Names) (w:World) (vs:Array Value),fR P hs D ι σ.get w->Used ι σ.next (fun _=>False)->e6 P w D ι args vs->
 Calls P f vs w fun e w'=>∃r g' n' D' ι' u,e=.returned u/\K r ⟨g',n'⟩/\Step hs D ι w D' ι' w'/\fR P hs D' ι' g' w'/\Used ι' n' (fun _=>False)/\σ.next<=n'/\cu P w' D' ι' r u
section
variable {g:Rows} {hs:Nat} {env:Env} {a:Act} {o:Oper} {id:Id} {v:AV}
theorem fR.ro (S:fR P hs D ι g w):fR P w.heap.size D ι (ro g) w:=by
 refine⟨Nat.le_refl _,S.dead,fun id r h=>?_,fun id jB r r' B B' h h' hw=>?_⟩
 ·unfold V.ro at h
  simp only[Option.map_eq_some_iff]at h
  obtain⟨r0,h0,rfl⟩:=h
  obtain⟨B,hB,R,_,_⟩:=S.row id r0 h0
  exact⟨B,hB,R.flag false,fun h=>by simp at h,fun h=>by simp at h⟩
 ·unfold V.ro at h
  simp only[Option.map_eq_some_iff]at h
  obtain⟨r0,h0,rfl⟩:=h
  simp at hw
theorem zp {g0:Rows} {f:Nat} {args:List AV} {n:Nat} {K:AV->Prop} {vs:Array Value} (h:PC (Sound P) f args ⟨g0,n⟩ K) (pw:∀id r,g0 id=some r->g id=some r) (S:fR P hs D ι g w) (U:Used ι n (fun _=>False)) (A:e6 P w D ι args vs):
  Calls P f vs w fun e w'=>∃r D' u,e=.returned u/\K r/\Step hs D ι w D' ι w'/\fR P hs D' ι g w'/\cu P w' D' ι r u:=by
 refine(h w.heap.size D ι w vs (S.sub pw).ro U A).mono ?_
 rintro e w' ⟨r0,g',n',D1,ι1,u,rfl,⟨r,hr,hK⟩,T,S1,_,_,hR⟩
 have hb:∀b,b<w.heap.size->w'.heap[b]? =w.heap[b]? :=T.below.block
 have hz:=T.below.size
 have q:=qc (D2:=fun b=>D b∨(w.heap.size<=b/\b<w'.heap.size)) (ι2:=ι) (fun b hd=>by
  rcases T.new b hd with h|h
  ·exact .inl h
  ·exact .inr ⟨h,S1.dead b hd⟩) (fun id row hg hw=>by
  obtain⟨B,hB,R,h1,_⟩:=S1.row id row hg
  exact⟨B,hB,R,.inr ⟨h1 hw,R.lt⟩⟩) 6 r0 u r hR hr
 refine⟨r,_,u,rfl,hK,?_,?_,q.1⟩
 ·exact Step.stay S hb hz T.below.os T.below.tape T.below.output (fun _ h=>.inl h) (fun b h=>by rcases h with h|h;exact .inl h;exact .inr h.1) (fun _ _ h=>h)
 ·exact S.stay hb hz (fun _ h=>.inl h) (fun b h=>by rcases h with h|h;exact Nat.lt_of_lt_of_le (S.dead b h) hz;exact h.2) (fun b h=>by rcases h with h|h;exact .inl h;exact .inr h.1) (fun _ _ h=>h)
theorem wm {g0:Rows} {f:Nat} {args:List AV} {n:Nat} {K:AV->Prop} {vs:Array Value} (h:PCv (Sound P) f args ⟨g0,n⟩ K) (pw:∀id r,g0 id=some r->g id=some r) (S:fR P hs D ι g w) (U:Used ι n (fun _=>False)) (A:e6 P w D ι args vs):
  Calls P f vs w fun e w'=>∃r D' u,e=.returned u/\K r/\Step hs D ι w D' ι w'/\fR P hs D' ι g w'/\cu P w' D' ι r u:=by
 obtain⟨eB,ha,h⟩:=h
 let D1:Nat->Prop:=fun b=>D b∨∃id r B,g id=some r/\ι id=some B/\b=B.b
 have lt:∀id r B,g id=some r->ι id=some B->B.b<w.heap.size:=fun id r B h1 h2=>by
  obtain⟨B',dr,R,_⟩:=S.row id r h1
  rw[h2]at dr;injection dr with dr;subst dr
  exact R.lt
 have S0:fR P w.heap.size D1 ι (fun _=>none) w:=⟨Nat.le_refl _,fun b hb=>by
  rcases hb with hb|⟨id,r,B,h1,h2,rfl⟩
  ·exact S.dead b hb
  ·exact lt id r B h1 h2,fun id r h=>(by cases h),fun id jB r r' B B' h=>(by cases h)⟩
 obtain⟨l1,l2⟩:=gi ha
 have A':e6 P w D1 ι eB vs:=⟨by rw[A.1,l1],fun j a hj=>by
  obtain⟨a0,kD,hf⟩:=l2 j a hj
  obtain⟨u,hu,hr⟩:=A.2 j a0 kD
  refine⟨u,hu,(qc (D2:=D1) (ι2:=ι) (fun b h=>.inl h) (fun id row hg hw=>?_) 6 a0 u a hr hf).1⟩
  unfold dO at hg
  simp only[Option.map_eq_some_iff]at hg
  obtain⟨r,mY,rfl⟩:=hg
  obtain⟨B,hB,R,_,_⟩:=S.row id r (pw id r mY)
  exact⟨B,hB,R.flag true,.inr ⟨id,r,B,pw id r mY,hB,rfl⟩⟩⟩
 refine(h w.heap.size D1 ι w vs S0 U A').mono ?_
 rintro e w' ⟨r0,g',n',D2,ι1,u,rfl,⟨r,hr,hK⟩,T,S1,_,_,hR⟩
 have hb:∀b,b<w.heap.size->w'.heap[b]? =w.heap[b]? :=T.below.block
 have hz:=T.below.size
 have q:=Eu (D2:=fun b=>D b∨(w.heap.size<=b/\b<w'.heap.size)) (ι2:=ι) (fun id row hg hw=>by
  obtain⟨B,hB,R,h1,_⟩:=S1.row id row hg
  exact⟨B,hB,R,.inr ⟨h1 hw,R.lt⟩⟩) 6 r0 u r hR hr
 refine⟨r,_,u,rfl,hK,?_,?_,q.1⟩
 ·exact Step.stay S hb hz T.below.os T.below.tape T.below.output (fun _ h=>.inl h) (fun b h=>by rcases h with h|h;exact .inl h;exact .inr h.1) (fun _ _ h=>h)
 ·exact S.stay hb hz (fun _ h=>.inl h) (fun b h=>by rcases h with h|h;exact Nat.lt_of_lt_of_le (S.dead b h) hz;exact h.2) (fun b h=>by rcases h with h|h;exact .inl h;exact .inr h.1) (fun _ _ h=>h)
theorem D7 {g0:Rows} {f:Nat} {args:List AV} {n:Nat} {K:AV->Prop} {vs:Array Value} (h:gp (Sound P) f args ⟨g0,n⟩ K) (pw:∀id r,g0 id=some r->g id=some r) (S:fR P hs D ι g w) (U:Used ι n (fun _=>False)) (A:e6 P w D ι args vs):
  Calls P f vs w fun e w'=>∃r D' u,e=.returned u/\K r/\Step hs D ι w D' ι w'/\fR P hs D' ι g w'/\cu P w' D' ι r u:=by
 rcases h with h|h
 ·exact zp h pw S U A
 ·exact wm h pw S U A
theorem Fb {D1 D2:Nat->Prop} {ι1 ι2:Names} {w1:World} {a:AV} {v:Value} (hp:a.plain=true) (h:cu P w D1 ι1 a v):cu P w1 D2 ι2 a v:=by
 cases h with
 |eD a v h=>cases h<;>first|(simp[AV.plain]at hp;done)|exact .eD _ _ (by constructor)
 |_=>simp[AV.plain]at hp
theorem fR.add {r:Row} {B:qO} (S:fR P hs D ι g w) (S':fR P hs D ι g w') (hf:ι id=none) (jS:w.heap.size<=B.b) (R:gu P w' D (j4 ι id B) B r):fR P hs D (j4 ι id B) (bj g id r) w':=by
 have lt:∀jB r' B',g jB=some r'->ι jB=some B'->B'.b<w.heap.size:=fun jB r' B' h1 h2=>by
  obtain⟨B2,oJ,R2,_⟩:=S.row jB r' h1
  rw[h2]at oJ;injection oJ with oJ;subst oJ
  exact R2.lt
 have ne:∀jB r',g jB=some r'->jB≠id:=fun jB r' h he=>by
  subst he
  obtain⟨B2,oJ,_⟩:=S.row _ r' h
  rw[hf]at oJ;cases oJ
 refine⟨S'.lo,S'.dead,fun jB r' h=>?_,fun Pb id2 r1 r2 B1 B2 h1 h2 hw zh oJ hb=>?_⟩
 ·unfold bj at h
  split at h
  ·rename_i he
   subst he
   injection h with h;subst h
   exact⟨B,dJ _ _ _,R,fun _=>Nat.le_trans S.lo jS,fun _ hd=>Nat.lt_irrefl _ (Nat.lt_of_lt_of_le (S.dead _ hd) jS)⟩
  ·obtain⟨B',dr,R',k1,k2⟩:=S'.row jB r' h
   exact⟨B',by rw[fN (ne _ _ h)];exact dr,R'.frame rfl (fun a v hr=>hr.frame (fun _ _=>rfl) (fun _ h=>h) (eR hf)),k1,k2⟩
 ·unfold bj at h1 h2
  split at h1
  ·rename_i e1
   split at h2
   ·rename_i e2;rw[e1,e2]
   ·exfalso
    subst e1
    rw[dJ]at zh;injection zh with zh;subst zh
    rw[fN (ne _ _ h2)]at oJ
    have:=lt _ _ _ h2 oJ
    omega
  ·rw[fN (ne _ _ h1)]at zh
   split at h2
   ·rename_i e2
    exfalso
    subst e2
    rw[dJ]at oJ;injection oJ with oJ;subst oJ
    have:=lt _ _ _ h1 zh
    omega
   ·rw[fN (ne _ _ h2)]at oJ
    exact S'.inj Pb id2 r1 r2 B1 B2 h1 h2 hw zh oJ hb
theorem FU {g0:Rows} {f:Nat} {args:List AV} {n sz:Nat} {rows:List (List AV)} {vs:Array Value} (h:CM (Sound P) f args ⟨g0,n⟩ sz rows) (pw:∀id r,g0 id=some r->g id=some r) (S:fR P hs D ι g w) (U:Used ι n (fun _=>False)) (A:e6 P w D ι args vs) (hf:ι id=none):
  Calls P f vs w fun e w'=>∃u B,e=.returned u/\Step hs D ι w D (j4 ι id B) w'/\fR P hs D (j4 ι id B) (bj g id ⟨true,sz,rows⟩) w'/\cu P w' D (j4 ι id B) (.own id 0 rows.length) u:=by
 obtain⟨lr,eB,ha,h⟩:=h
 let D1:Nat->Prop:=fun b=>D b∨∃id r B,g id=some r/\ι id=some B/\b=B.b
 have lt:∀id r B,g id=some r->ι id=some B->B.b<w.heap.size:=fun id r B h1 h2=>by
  obtain⟨B',dr,R,_⟩:=S.row id r h1
  rw[h2]at dr;injection dr with dr;subst dr
  exact R.lt
 have S0:fR P w.heap.size D1 ι (fun _=>none) w:=⟨Nat.le_refl _,fun b hb=>by
  rcases hb with hb|⟨id,r,B,h1,h2,rfl⟩
  ·exact S.dead b hb
  ·exact lt id r B h1 h2,fun id r h=>(by cases h),fun id jB r r' B B' h=>(by cases h)⟩
 obtain⟨l1,l2⟩:=gi ha
 have A':e6 P w D1 ι eB vs:=⟨by rw[A.1,l1],fun j a hj=>by
  obtain⟨a0,kD,hz⟩:=l2 j a hj
  obtain⟨u,hu,hr⟩:=A.2 j a0 kD
  refine⟨u,hu,(qc (D2:=D1) (ι2:=ι) (fun b h=>.inl h) (fun id row hg hw=>?_) 6 a0 u a hr hz).1⟩
  unfold dO at hg
  simp only[Option.map_eq_some_iff]at hg
  obtain⟨r,mY,rfl⟩:=hg
  obtain⟨B,hB,R,_,_⟩:=S.row id r (pw id r mY)
  exact⟨B,hB,R.flag true,.inr ⟨id,r,B,pw id r mY,hB,rfl⟩⟩⟩
 refine(h w.heap.size D1 ι w vs S0 U A').mono ?_
 rintro e w' ⟨r0,g',n',D2,ι1,u,rfl,⟨i0,hr,hg⟩,T,S1,_,_,hR⟩
 subst hr
 have hb:∀b,b<w.heap.size->w'.heap[b]? =w.heap[b]? :=T.below.block
 have hz:=T.below.size
 obtain⟨B,hB,R,k1,_⟩:=S1.row i0 _ hg
 have jS:w.heap.size<=B.b:=k1 rfl
 obtain⟨o,cap,B',rfl,dr,q2,q3,q4,q5,hk⟩:=iy hR
 rw[hB]at dr;injection dr with dr;subst dr
 replace R:=R.row hk
 have S':fR P hs D ι g w':=S.stay hb hz (fun _ h=>h) (fun b h=>Nat.lt_of_lt_of_le (S.dead b h) hz) (fun b h=>.inl h) (fun _ _ h=>h)
 have R':kM P w' D (j4 ι id B) B ⟨true,sz,rows⟩:=⟨R.sz,R.vJ,R.fits,R.len,R.flat,fun i j cs a hi hj=>by
  obtain⟨v,h1,h2⟩:=R.at_ i j cs a hi hj
  exact⟨v,h1,Fb (lr cs (List.mem_of_getElem? hi) a (List.mem_of_getElem? hj)) h2⟩⟩
 exact⟨_,B,rfl,Step.stay S hb hz T.below.os T.below.tape T.below.output (fun _ h=>h) (fun _ h=>.inl h) (eR hf),S.add S' hf jS (R'.obj hk),.own id 0 _ _ _ B (dJ _ _ _) hk q2 q3 q4 q5⟩
theorem jb {f:Nat} {args:Array Value} (hc:fu P f=true):(callFunc f args).run P w=.ok (.enter f args) w:=by
 unfold fu at hc
 split at hc
 ·rename_i fn hf
  simp only[Bool.and_eq_true,Bool.not_eq_true']at hc
  have hb:fn.body.isNone=false:=by cases hq:fn.body<;>simp_all
  simp only[callFunc,Sem.run_bind,run_program,Result.andThen_ok,hf,hc.2,Bool.false_eq_true,if_false,hb]
  rfl
 ·simp at hc
theorem Ak {f:Nat} {args:List O} (hc:pM P o.op=some (.call f args)):∃c,o.op=.call c/\c.callee=.value (.func f)/\fu P f=true/\c.args.toList.mapM (cO P)=some args:=by
 unfold pM at hc
 split at hc
 case h_23=>
  rename_i c ho
  refine⟨c,ho,?_⟩
  unfold mo at hc
  split at hc
  all_goals (try(repeat' (split at hc))<;>(simp only[Option.bind_eq_bind,Option.bind_eq_some_iff,Option.pure_def,Option.some.injEq,Option.map_eq_some_iff,reduceCtorEq,and_false,exists_false]at hc))
  all_goals simp_all
 all_goals (try unfold tG at hc)<;>(try unfold qW at hc)<;>(repeat' (split at hc))<;>(simp only[Option.bind_eq_bind,Option.bind_eq_some_iff,Option.pure_def,Option.some.injEq,Option.map_eq_some_iff,reduceCtorEq,and_false,exists_false]at hc)
theorem rI {x:O} {args:List O} (hc:pM P o.op=some (.sa x args)):∃c t,o.op=.call c/\c.callee=.value (.tmp t)/\x=.t t/\c.args.toList.mapM (cO P)=some args:=by
 unfold pM at hc
 split at hc
 case h_23=>
  rename_i c ho
  refine⟨c,?_⟩
  unfold mo at hc
  split at hc
  all_goals (try(repeat' (split at hc))<;>(simp only[Option.bind_eq_bind,Option.bind_eq_some_iff,Option.pure_def,Option.some.injEq,Option.map_eq_some_iff,reduceCtorEq,and_false,exists_false]at hc))
  all_goals simp_all
 all_goals (try unfold tG at hc)<;>(try unfold qW at hc)<;>(repeat' (split at hc))<;>(simp only[Option.bind_eq_bind,Option.bind_eq_some_iff,Option.pure_def,Option.some.injEq,Option.map_eq_some_iff,reduceCtorEq,and_false,exists_false]at hc)
theorem EM {n:Nat} {x y:O} (hc:pM P o.op=some (.store n x y)):∃t x' y',o.op=.store t x' y'/\dK P t=some n/\cO P x'=some x/\cO P y'=some y:=by
 unfold pM at hc
 split at hc
 case h_7=>
  rename_i t x' y' ho
  refine⟨t,x',y',ho,?_⟩
  simp only[Option.bind_eq_bind,Option.bind_eq_some_iff,Option.pure_def,Option.some.injEq]at hc
  obtain⟨n',h1,x2,h2,y2,h3,he⟩:=hc
  injection he with e1 e2 e3
  subst e1;subst e2;subst e3
  exact⟨h1,h2,h3⟩
 all_goals (try unfold tG at hc)<;>(try unfold qW at hc)<;>(try unfold mo at hc)<;>(repeat' (split at hc))<;>(simp only[Option.bind_eq_bind,Option.bind_eq_some_iff,Option.pure_def,Option.some.injEq,Option.map_eq_some_iff,reduceCtorEq,and_false,exists_false]at hc)
theorem Cb {n:Nat} {x y:O} (hc:pM P o.op=some (.append n x y)):∃(t e:TypeId) (m:Nat) (z:List K) (i:TypeInfo) (x' y':Operand),n=m+1/\o.op=.call {callee:=.builtin .append,args:= #[x',y'],argTypes:= #[t,t]}/\
  P.underlying t=some (.slice e)/\dK P e=some (m+1)/\jj P e=some z/\P.info? e=some i/\i.bytes<=32768/\cO P x'=some x/\cO P y'=some y:=by
 unfold pM at hc
 split at hc
 case h_23=>
  rename_i c ho
  unfold mo at hc
  split at hc
  case h_2=>
   rename_i jY
   split at hc
   ·rename_i x' y' t u h1 h2
    split at hc
    ·rename_i e ht
     split at hc
     ·rename_i m z i e1 e2 e3
      split at hc
      ·rename_i hb
       simp only[Option.bind_eq_bind,Option.bind_eq_some_iff,Option.pure_def,Option.some.injEq]at hc
       obtain⟨x2,h3,y2,h4,he⟩:=hc
       injection he with k1 k2 k3
       subst k1;subst k2;subst k3
       obtain⟨KC,rfl⟩:=hb
       refine⟨t,e,m,z,i,x',y',rfl,?_,ht,e1,e2,e3,KC,h3,h4⟩
       rw[ho]
       obtain⟨ca,cb,cc⟩:=c
       simp only at h1 h2 jY
       subst jY
       congr
       ·exact Array.ext' h1
       ·exact Array.ext' h2
      ·simp at hc
     ·simp at hc
    ·simp at hc
   ·simp at hc
  all_goals (repeat' (split at hc))<;>(simp only[Option.bind_eq_bind,Option.bind_eq_some_iff,Option.pure_def,Option.some.injEq,Option.map_eq_some_iff,reduceCtorEq,and_false,exists_false]at hc)
 all_goals (try unfold tG at hc)<;>(try unfold qW at hc)<;>(repeat' (split at hc))<;>(simp only[Option.bind_eq_bind,Option.bind_eq_some_iff,Option.pure_def,Option.some.injEq,Option.map_eq_some_iff,reduceCtorEq,and_false,exists_false]at hc)
theorem Hf {n:Nat} {x y:O} (hc:pM P o.op=some (.copy n x y)):∃(t t2 e:TypeId) (m:Nat) (x' y':Operand),n=m+1/\o.op=.call {callee:=.builtin .copy,args:= #[x',y'],argTypes:= #[t,t2]}/\
  P.underlying t=some (.slice e)/\dK P e=some (m+1)/\cO P x'=some x/\cO P y'=some y:=by
 unfold pM at hc
 split at hc
 case h_23=>
  rename_i c ho
  unfold mo at hc
  split at hc
  case h_7=>
   rename_i jY
   split at hc
   ·rename_i x' y' t t2 h1 h2
    split at hc
    ·rename_i e ht
     split at hc
     ·rename_i m e1
      simp only[Option.bind_eq_bind,Option.bind_eq_some_iff,Option.pure_def,Option.some.injEq,fX.copy.injEq]at hc
      obtain⟨x2,h3,y2,h4,k0,k1,k2⟩:=hc
      subst k1;subst k2
      refine⟨t,t2,e,m,x',y',k0.symm,?_,ht,e1,h3,h4⟩
      rw[ho]
      obtain⟨ca,cb,cc⟩:=c
      simp only at h1 h2 jY
      subst jY
      congr
      ·exact Array.ext' h1
      ·exact Array.ext' h2
     ·simp at hc
    ·simp at hc
   ·simp at hc
  all_goals (repeat' (split at hc))<;>(simp only[Option.bind_eq_bind,Option.bind_eq_some_iff,Option.pure_def,Option.some.injEq,Option.map_eq_some_iff,reduceCtorEq,and_false,exists_false]at hc)
 all_goals (try unfold tG at hc)<;>(try unfold qW at hc)<;>(repeat' (split at hc))<;>(simp only[Option.bind_eq_bind,Option.bind_eq_some_iff,Option.pure_def,Option.some.injEq,Option.map_eq_some_iff,reduceCtorEq,and_false,exists_false]at hc)
theorem EL {z:List K} {x:O} (hc:pM P o.op=some (.clear z x)):∃(t e:TypeId) (m:Nat) (x':Operand),o.op=.call {callee:=.builtin .clear,args:= #[x'],argTypes:= #[t]}/\
  P.underlying t=some (.slice e)/\dK P e=some (m+1)/\jj P e=some z/\cO P x'=some x:=by
 unfold pM at hc
 split at hc
 case h_23=>
  rename_i c ho
  unfold mo at hc
  split at hc
  case h_3=>
   rename_i jY
   split at hc
   ·rename_i x' t h1 h2
    split at hc
    ·rename_i e ht
     split at hc
     ·rename_i m z' e1 e2
      simp only[Option.map_eq_some_iff]at hc
      obtain⟨x2,h3,he⟩:=hc
      injection he with k1 k2
      subst k1;subst k2
      refine⟨t,e,m,x',?_,ht,e1,e2,h3⟩
      rw[ho]
      obtain⟨ca,cb,cc⟩:=c
      simp only at h1 h2 jY
      subst jY
      congr
      ·exact Array.ext' h1
      ·exact Array.ext' h2
     ·simp at hc
    ·simp at hc
   ·simp at hc
  all_goals (repeat' (split at hc))<;>(simp only[Option.bind_eq_bind,Option.bind_eq_some_iff,Option.pure_def,Option.some.injEq,Option.map_eq_some_iff,reduceCtorEq,and_false,exists_false]at hc)
 all_goals (try unfold tG at hc)<;>(try unfold qW at hc)<;>(repeat' (split at hc))<;>(simp only[Option.bind_eq_bind,Option.bind_eq_some_iff,Option.pure_def,Option.some.injEq,Option.map_eq_some_iff,reduceCtorEq,and_false,exists_false]at hc)
theorem Mq {q:MW} {xs:List O} (hc:pM P o.op=some (.mw q xs)):
  (∃t x k y m z x' k' y',(o.op=.mapUpdate t x k y∨o.op=.insert t x k y)/\qY P t=some (m,z)/\cO P x=some x'/\cO P k=some k'/\cO P y=some y'/\q=.set m/\xs=[x',k',y'])∨
  (∃t t' x k m z x' k',o.op=.call {callee:=.builtin .delete,args:= #[x,k],argTypes:= #[t,t']}/\qY P t=some (m,z)/\cO P x=some x'/\cO P k=some k'/\q=.del m/\xs=[x',k']):=by
 unfold pM at hc
 split at hc
 case h_23=>
  rename_i c ho
  right
  unfold mo at hc
  split at hc
  case h_6=>
   rename_i jY
   split at hc
   ·rename_i x k t t' h1 h2
    split at hc
    ·rename_i m z x' k' e1 e2 e3
     injection hc with hc
     injection hc with q1 q2
     refine⟨t,t',x,k,m,z,x',k',?_,e1,e2,e3,q1.symm,q2.symm⟩
     rw[ho]
     obtain⟨ca,cb,cc⟩:=c
     simp only at h1 h2 jY
     subst jY
     congr
     ·exact Array.ext' h1
     ·exact Array.ext' h2
    ·cases hc
   ·cases hc
  all_goals (repeat' (split at hc))<;>(simp only[Option.bind_eq_bind,Option.bind_eq_some_iff,Option.pure_def,Option.some.injEq,Option.map_eq_some_iff,reduceCtorEq,and_false,exists_false]at hc)
 case h_29=>
  rename_i t x k y ho
  left
  split at hc
  ·rename_i m z x' k' y' e1 e2 e3 e4
   injection hc with hc
   injection hc with q1 q2
   exact⟨t,x,k,y,m,z,x',k',y',.inl ho,e1,e2,e3,e4,q1.symm,q2.symm⟩
  ·cases hc
 case h_30=>
  rename_i t x k y ho
  left
  split at hc
  ·rename_i m z x' k' y' e1 e2 e3 e4
   injection hc with hc
   injection hc with q1 q2
   exact⟨t,x,k,y,m,z,x',k',y',.inr ho,e1,e2,e3,e4,q1.symm,q2.symm⟩
  ·cases hc
 all_goals (try unfold tG at hc)<;>(try unfold qW at hc)<;>(repeat' (split at hc))<;>(simp only[Option.bind_eq_bind,Option.bind_eq_some_iff,Option.pure_def,Option.some.injEq,Option.map_eq_some_iff,reduceCtorEq,and_false,exists_false]at hc)
def iR (g:Rows) (id:Id):Option Row->Rows
 |some r=>bj g id r
 |none=>g
def tJ (X:fq) (hid:List Nat) (site n:Nat) (f:Nat) (args:List AV) (g:Rows) (v:AV) (g':Rows):Prop:=
 (gp X f args ⟨fV hid n g,n+1⟩ (fun r=>r=v)/\g'=g)∨
 (hid.contains site=true/\∃sz rows,CM X f args ⟨fV hid n g,n+1⟩ sz rows/\v=.own ⟨site,n⟩ 0 rows.length/\g'=bj g ⟨site,n⟩ ⟨true,sz,rows⟩)
def VS (X:fq) (n:Nat) (vo:aT) (env:Env) (g:Rows) (v:AV) (g':Rows):Prop:=
 match vo.op with
 | .call f args=>tJ X vo.hid vo.site n f (args.map (cF env)) g v g'
 | .sa x args=>∃f l,tH (cF env x) (args.map (cF env))=some (f,l)/\tJ X vo.hid vo.site n f l g v g'
 | .store .. | .append .. | .copy .. | .clear .. | .mw .. =>fW vo.op (cF env) g ⟨vo.site,n⟩=some (v,g')
 |_=>∃mr,eG vo.op (cF env) (fV vo.hid n g) ⟨vo.site,n⟩=some (v,mr)/\g'=iR g ⟨vo.site,n⟩ mr
def Ko (P:Program) (hs:Nat) (D:Nat->Prop) (ι:Names) (w:World) (U:Nat->Prop) (site n:Nat) (a:Act) (dst:Option Tmp) (v:AV) (g':Rows) (a':Act) (w':World):Prop:=
 ∃u D' ι',a'=a.put dst u/\Step hs D ι w D' ι' w'/\fR P hs D' ι' g' w'/\cu P w' D' ι' v u/\Used ι' n (fun s=>U s∨s=site)
theorem fresh {n:Nat} {U:Nat->Prop} {s:Nat} (h:Used ι n U) (hU:¬U s):ι ⟨s,n⟩=none:=by
 cases hq:ι ⟨s,n⟩with
 |none=>rfl
 |some B=>
  rcases h ⟨s,n⟩ (by rw[hq];simp)with h|⟨_,h⟩
  ·exact absurd h (Nat.lt_irrefl _)
  ·exact absurd h hU
theorem Used.more {n:Nat} {U U':Nat->Prop} (h:Used ι n U) (hU:∀s,U s->U' s):Used ι n U':=fun id hid=>by
 rcases h id hid with h|⟨h1,h2⟩
 ·exact .inl h
 ·exact .inr ⟨h1,hU _ h2⟩
theorem Used.next {n:Nat} {U:Nat->Prop} (h:Used ι n U):Used ι (n+1) (fun _=>False):=fun id hid=>by
 rcases h id hid with h|⟨h1,_⟩
 ·exact .inl (Nat.lt_succ_of_lt h)
 ·exact .inl (by omega)
theorem Used.upd {n:Nat} {U:Nat->Prop} {s:Nat} {B:qO} (h:Used ι n U):Used (j4 ι ⟨s,n⟩ B) n (fun x=>U x∨x=s):=fun id hid=>by
 by_cases he:id=⟨s,n⟩
 ·subst he;exact .inr ⟨rfl,.inr rfl⟩
 ·rw[fN he]at hid
  exact(h.more (U':=fun x=>U x∨x=s) fun _ h=>Or.inl h) id hid
theorem nu {xs:Array Operand} {ys:List O} (E:bJ P w D ι env a) (h:xs.toList.mapM (cO P)=some ys):e6 P w D ι (ys.map (cF env)) (xs.map a.eval):=by
 obtain⟨h1,h2⟩:=Cs E h
 refine⟨by simpa using h1,fun j b hj=>?_⟩
 simp only[List.getElem?_map,Option.map_eq_some_iff]at hj
 obtain⟨y,hy,rfl⟩:=hj
 have dE:j<xs.size:=by have:=(List.getElem?_eq_some_iff.1 hy).1;simp at h1;omega
 refine⟨a.eval xs[j],by simp[dE],?_⟩
 have:=h2 j y hy
 simpa[List.getD_eq_getElem?_getD,dE]using this
theorem nR {xs ys:List AV} {vs us:Array Value} (h:e6 P w D ι xs vs) (k:e6 P w D ι ys us):e6 P w D ι (xs++ys) (vs++us):=
 ⟨by simp[h.1,k.1],fun j b hj=>by
  by_cases dE:j<xs.length
  ·rw[List.getElem?_append_left dE]at hj
   obtain⟨u,hu,vY⟩:=h.2 j b hj
   exact⟨u,by rw[Array.getElem?_append_left (by rw[h.1];exact dE)];exact hu,vY⟩
  ·rw[List.getElem?_append_right (by omega)]at hj
   obtain⟨u,hu,vY⟩:=k.2 _ b hj
   exact⟨u,by rw[Array.getElem?_append_right (by rw[h.1];omega),h.1];exact hu,vY⟩⟩
theorem uJ:e6 P w D ι [] #[]:=⟨rfl,fun j b hj=>by simp at hj⟩
theorem tK {x:AV} {l l':List AV} {f:Nat} {vs:Array Value} {v:Value} (h:tH x l=some (f,l')) (hr:cu P w D ι x v) (hA:e6 P w D ι l vs):
  ∃first cC,v=.func (.func f) first cC/\fu P f=true/\e6 P w D ι l' (first++vs++cC):=by
 unfold tH at h
 split at h
 ·simp only[Option.some.injEq,Prod.mk.injEq]at h
  obtain⟨rfl,rfl⟩:=h
  obtain⟨us,q,he,Dn,n1,q1,q2⟩:=yJ hr
  refine⟨#[],us,he,Dn,?_⟩
  rw[Array.empty_append]
  exact nR hA ⟨n1,fun j b hj=>⟨q j,q1 j (List.getElem?_eq_some_iff.1 hj).1,q2 j b hj⟩⟩
 ·simp only[Option.some.injEq,Prod.mk.injEq]at h
  obtain⟨rfl,rfl⟩:=h
  obtain⟨us,q,he,Dn,n1,q1,q2⟩:=J8 hr
  refine⟨us, #[],he,Dn,?_⟩
  rw[Array.append_empty]
  exact nR ⟨n1,fun j b hj=>⟨q j,q1 j (List.getElem?_eq_some_iff.1 hj).1,q2 j b hj⟩⟩ hA
 ·cases h
theorem zt {n:Nat} {vo:aT} {g':Rows} {U:Nat->Prop} {Q:Exit->Act->World->Prop} {K:Act->World->Prop} (hc:pM P o.op=some vo.op) (hv:VS (Sound P) n vo env g v g') (S:fR P hs D ι g w) (Us:Used ι n U) (hU:¬U vo.site) (E:bJ P w D ι env a)
  (hK:∀a' w',Ko P hs D ι w U vo.site n a o.dst v g' a' w'->K a' w'):o.wp P a w K Q:=by
 have hf:=fresh Us hU
 have zD:∀(f:Nat) (args:List AV) (vs:Array Value),tJ (Sound P) vo.hid vo.site n f args g v g'->e6 P w D ι args vs->(execOp a.eval o).run P w=.ok (.enter f vs) w->o.wp P a w K Q:=by
  intro f args vs hP hA fI
  unfold Oper.wp
  rw[fI]
  rcases hP with⟨hP,rfl⟩|⟨_,sz,rows,hM,rfl,rfl⟩
  ·refine(D7 hP y4 S Us.next hA).mono ?_
   rintro e w' ⟨r,D',u,rfl,rfl,T,S',hR⟩
   exact hK _ _ ⟨u,D',ι,rfl,T,S',hR,Us.more fun _ h=>.inl h⟩
  ·refine(FU hM y4 S Us.next hA hf).mono ?_
   rintro e w' ⟨u,B,rfl,T,S',hR⟩
   exact hK _ _ ⟨u,D,_,rfl,T,S',hR,Us.upd⟩
 have quiet:∀(mr:Option Row),eG vo.op (cF env) (fV vo.hid n g) ⟨vo.site,n⟩=some (v,mr)->g'=iR g ⟨vo.site,n⟩ mr->o.wp P a w K Q:=by
  intro mr hq hg
  have hqs:=xt hc hq (S.sub y4) E
  unfold Oper.wp
  cases mr with
  |none=>
   obtain⟨u,fI,hR⟩:=hqs
   rw[fI]
   subst hg
   exact hK _ _ ⟨u,D,ι,rfl,Step.refl _ _ _ _,S,hR,Us.more fun _ h=>.inl h⟩
  |some r=>
   rcases hqs with⟨u,cells,T,fI,h1,h2,h3,h4,h5,h6⟩|⟨m,fI,Mm,JA⟩|⟨c,fI,Mm,JA⟩
   case inr.inr=>
    rw[fI]
    subst hg Mm JA
    have eW:w.heap.size<(w.alloc (.chan c #[] false 0 0 false)).heap.size:=by simp
    have S':=S.stay (w':=w.alloc (.chan c #[] false 0 0 false)) (D':=D) (ι':=ι) (fun k hk=>Below.heap_alloc _ _ _ hk) (by simp) (fun _ h=>h) (fun b hd=>Nat.lt_trans (S.dead b hd) eW) (fun _ h=>.inl h) (fun _ _ h=>h)
    have S1:=S.add S' (id:=⟨vo.site,n⟩) (B:=⟨w.heap.size,pd+c,0,some (.chan c)⟩) (r:=⟨true,pd+c,[]⟩) hf (Nat.le_refl _) ⟨rfl,fun cs h=>by simp at h,fun h=>by simp at h,fun m' h=>(by simp at h),fun c' h=>by
     simp only[Option.some.injEq,BK.chan.injEq]at h;subst h
     exact⟨rfl, #[],0,0,(show(w.heap.push (Obj.chan c #[] false 0 0 false))[w.heap.size]? =some (Obj.chan c #[] false 0 0 false) by simp),rfl,fun i cs h=>by simp at h⟩⟩
    exact hK _ _ ⟨_,D,_,rfl,Step.stay S (fun k hk=>Below.heap_alloc _ _ _ hk) (by simp) rfl rfl rfl (fun _ h=>h) (fun _ h=>.inl h) (eR hf),S1,.p7 _ _ _ (dJ _ _ _) rfl,Us.upd⟩
   case inr.inl=>
    rw[fI]
    subst hg Mm JA
    have eW:w.heap.size<(w.alloc (.map #[] 0)).heap.size:=by simp
    have S':=S.stay (w':=w.alloc (.map #[] 0)) (D':=D) (ι':=ι) (fun k hk=>Below.heap_alloc _ _ _ hk) (by simp) (fun _ h=>h) (fun b hd=>Nat.lt_trans (S.dead b hd) eW) (fun _ h=>.inl h) (fun _ _ h=>h)
    have S1:=S.add S' (id:=⟨vo.site,n⟩) (B:=⟨w.heap.size,m.oq,0,some (.map m)⟩) (r:=⟨true,m.oq,[]⟩) hf (Nat.le_refl _) ⟨rfl,fun cs h=>by simp at h,fun h=>by simp at h,fun m' h=>by
     simp only[Option.some.injEq,BK.map.injEq]at h;subst h
     exact⟨rfl, #[],0,(show(w.heap.push (Obj.map #[] 0))[w.heap.size]? =some (Obj.map #[] 0) by simp),rfl,⟨fun cs h=>by simp at h,fun x h=>by simp at h,by simp⟩,fun i cs h=>by simp at h⟩,fun c h=>by simp at h⟩
    exact hK _ _ ⟨_,D,_,rfl,Step.stay S (fun k hk=>Below.heap_alloc _ _ _ hk) (by simp) rfl rfl rfl (fun _ h=>h) (fun _ h=>.inl h) (eR hf),S1,.map _ _ _ (dJ _ _ _) rfl,Us.upd⟩
   rw[fI]
   subst hg
   have S1:=S.alloc (id:=⟨vo.site,n⟩) (w':=w.alloc (.cells cells T)) rfl hf h1 h2 h3 h4 h5
   refine hK _ _ ⟨u,D,_,rfl,Step.stay S (fun k hk=>Below.heap_alloc _ _ _ hk) (by simp) rfl rfl rfl (fun _ h=>h) (fun _ h=>.inl h) (eR hf),S1,(h6 (j4 ι _ _) (dJ _ _ _)).frame (fun b hd=>Below.heap_alloc _ _ _ (S.dead b hd)) (fun _ h=>h) (fun _ _ h=>h),Us.upd⟩
 have Ns:fW vo.op (cF env) g ⟨vo.site,n⟩=some (v,g')->(∀IU,Bi P hs a o IU D ι ⟨vo.site,n⟩ v g'->IU=w->o.wp P a w K Q):=by
  intro _ IU hE he
  subst he
  obtain⟨u,w',ι',fI,T,S',hR,hι⟩:=hE
  have GI:Ko P hs D ι IU U vo.site n a o.dst v g' (a.put o.dst u) w':=⟨u,D,ι',rfl,T,S',hR,fun id hid=>by
   by_cases he:id=⟨vo.site,n⟩
   ·subst he;exact .inr ⟨rfl,.inr rfl⟩
   ·rw[hι id he]at hid
    exact(Us.more (U':=fun x=>U x∨x=vo.site) fun _ h=>Or.inl h) id hid⟩
  unfold Oper.wp
  rcases fI with fI|⟨fI,rfl⟩
  ·rw[fI];exact hK _ _ GI
  ·rw[fI];exact hK _ _ GI
 unfold VS at hv
 split at hv
 ·rename_i f args dP
  rw[dP]at hc
  obtain⟨c,ho,jY,Dn,mA⟩:=Ak hc
  refine zD f _ (c.args.map a.eval) hv (nu E mA) ?_
  simp only[execOp,ho,resolve,jY,Deferred.ofValue,Act.eval,Sem.run_bind,Sem.run_pure,Result.andThen_ok,invoke,Array.empty_append,Array.append_empty]
  exact jb Dn
 ·rename_i x args dP
  obtain⟨f,l,hx,hP⟩:=hv
  rw[dP]at hc
  obtain⟨c,t,ho,jY,rfl,mA⟩:=rI hc
  obtain⟨first,cC,he,Dn,hL⟩:=tK (v:=a.eval (.tmp t)) hx (E t) (nu E mA)
  refine zD f _ (first++c.args.map a.eval++cC) hP hL ?_
  simp only[execOp,ho,resolve,jY,he,Deferred.ofValue,Sem.run_bind,Sem.run_pure,Result.andThen_ok,invoke]
  exact jb Dn
 ·rename_i m x y dP
  have ke:=hc
  rw[dP]at ke
  obtain⟨t,x',y',ho,h1,h2,h3⟩:=EM ke
  have mT:=hv
  rw[dP]at mT
  simp only[fW,Option.map_eq_some_iff,Prod.mk.injEq]at mT
  obtain⟨g1,BV,rfl,rfl⟩:=mT
  exact Ns hv w (Jc S E ho h1 h2 h3 BV) rfl
 ·rename_i m x y dP
  have ke:=hc
  rw[dP]at ke
  obtain⟨t,e,m',z,i,x',y',rfl,ho,h1,h2,h3,h4,h5,h6,h7⟩:=Cb ke
  have mT:=hv
  rw[dP]at mT
  simp only[fW,Option.bind_eq_some_iff]at mT
  obtain⟨ys,Dw,mT⟩:=mT
  exact Ns hv w (Gq S E hf ho h1 h2 h3 h4 h5 h6 h7 Dw mT) rfl
 ·rename_i m x y dP
  have ke:=hc
  rw[dP]at ke
  obtain⟨t,t2,e,m',x',y',rfl,ho,h1,h2,h3,h4⟩:=Hf ke
  have mT:=hv
  rw[dP]at mT
  simp only[fW,Option.bind_eq_some_iff]at mT
  obtain⟨ys,Dw,mT⟩:=mT
  exact Ns hv w (Lv S E ho h1 h2 h3 h4 Dw mT) rfl
 ·rename_i z x dP
  have ke:=hc
  rw[dP]at ke
  obtain⟨t,e,m',x',ho,h1,h2,h3,h4⟩:=EL ke
  have mT:=hv
  rw[dP]at mT
  simp only[fW,Option.map_eq_some_iff,Prod.mk.injEq]at mT
  obtain⟨g1,BV,rfl,rfl⟩:=mT
  exact Ns hv w (Jb S E ho h1 h2 h3 h4 BV) rfl
 ·rename_i q xs dP
  have ke:=hc
  rw[dP]at ke
  have mT:=hv
  rw[dP]at mT
  simp only[fW,Option.map_eq_some_iff,Prod.mk.injEq]at mT
  obtain⟨g1,BV,rfl,rfl⟩:=mT
  rcases Mq ke with⟨t,x,k,y,m,z,x',k',y',ho,h1,h2,h3,h4,rfl,rfl⟩|⟨t,t',x,k,m,z,x',k',ho,h1,h2,h3,rfl,rfl⟩
  ·exact Ns hv w (Lx S E ho h1 h2 h3 h4 BV) rfl
  ·exact Ns hv w (Lw S E ho h1 h2 h3 BV) rfl
 ·obtain⟨mr,hq,hg⟩:=hv
  exact quiet mr hq hg
end
end Go.Proofs.YtgoelphibofcmaaGreat.V

namespace Go.Proofs.YtgoelphibofcmaaGreat.V
open Go.RowKit
variable {P:Program} {w w':World} {D D' D2:Nat->Prop} {ι ι' ι2:Names}
section
variable {g:Rows} {hs:Nat} {env:Env} {a:Act} {o:Oper} {id:Id} {v:AV}
theorem oc {ops:Array Oper} {nt site0 j:Nat} {draw mk:Bool} {bs:Array Nat} {hidden:List (Nat×Bool)} {vo:aT} (h:j9 P ops nt site0 draw mk bs hidden j o=some vo):
  pM P o.op=some vo.op/\vo.dst=o.dst/\vo.site=site0+j/\(∀d,o.dst=some d->d<nt)/\(match o.guard with
   |none=>vo.guard=none
   |some (i,b)=>∃t,(ops[i]?).bind (·.dst)=some t/\vo.guard=some (t,b)):=by
 unfold j9 at h
 simp only[Option.bind_eq_bind,Option.bind_eq_some_iff]at h
 obtain⟨v,hv,gd,hg,h⟩:=h
 split at h
 ·rename_i hd
  simp only[Option.pure_def,Option.some.injEq]at h
  subst h
  refine⟨hv,rfl,rfl,fun d Qf=>?_,?_⟩
  ·rw[Qf]at hd;simpa using hd
  ·unfold Bz at hg
   cases qe:o.guard with
   |none=>rw[qe]at hg;simp at hg;exact hg.symm
   |some p=>
    obtain⟨i,b⟩:=p
    rw[qe]at hg
    dsimp only at hg ⊢
    split at hg
    ·rename_i t ht
     simp at hg;exact⟨t,ht,hg.symm⟩
    ·simp at hg
 ·simp at h
theorem rY {ops:Array Oper} {vo:aT} (E:bJ P w D ι env a) (hg:match o.guard with
   |none=>vo.guard=none
   |some (i,b)=>∃t,(ops[i]?).bind (·.dst)=some t/\vo.guard=some (t,b)):aH vo.guard env=Region.wanted o (yielded ops a.tmps):=by
 unfold Region.wanted
 cases qe:o.guard with
 |none=>rw[qe]at hg;simp only at hg;rw[hg];rfl
 |some p=>
  obtain⟨i,b⟩:=p
  rw[qe]at hg
  obtain⟨t,ht,hv⟩:=hg
  rw[hv]
  simp only[aH,yielded,ht,Option.bind_some]
  have hr:=E t
  by_cases dE:t<a.tmps.size
  ·have gL:a.tmps[t]? =some a.tmps[t]:=Array.getElem?_eq_getElem dE
   have hd:a.tmps.getD t undef=a.tmps[t]:=by simp[dE]
   rw[hd]at hr
   rw[gL]
   generalize a.tmps[t]=u at hr
   cases he:env t with
   |bool c=>rw[he]at hr;rw[eQ hr];simp
   |_=>
    rw[he]at hr
    have:∀c,u≠.bool c:=by
     intro c hu
     subst hu
     cases hr with
     |eD _ _ h=>cases h
    cases u<;>simp_all
  ·have gL:a.tmps[t]? =none:=Array.getElem?_eq_none (Nat.le_of_not_lt dE)
   have hd:a.tmps.getD t undef=undef:=by simp[gL]
   rw[hd]at hr
   rw[gL]
   cases he:env t with
   |bool c=>rw[he]at hr;have:=eQ hr;simp[undef]at this
   |_=>simp
theorem gV {dst:Option Nat} {nt:Nat} {u:Value} (E:bJ P w D ι env a) (hr:cu P w D ι v u) (hd:∀d,dst=some d->d<nt) (hs:a.tmps.size=nt):bJ P w D ι (upd env dst v) (a.put dst u):=by
 intro t
 cases dst with
 |none=>exact E t
 |some d=>
  have dE:d<a.tmps.size:=by rw[hs];exact hd d rfl
  simp only[upd,Act.put]
  by_cases ht:t=d
  ·subst ht
   simp[dE];exact hr
  ·rw[if_neg ht]
   have:(a.tmps.setIfInBounds d u).getD t undef=a.tmps.getD t undef:=by
    simp only[Array.getD_eq_getD_getElem?]
    rw[Array.getElem?_setIfInBounds_ne (fun e=>ht e.symm)]
   rw[this];exact E t
theorem nA {hs:Nat} (E:bJ P w D ι env a) (T:Step hs D ι w D' ι' w'):bJ P w' D' ι' env a:=fun t=>T.rep (E t)
theorem eO (a:Act) (dst:Option Tmp) (u:Value):(a.put dst u).tmps.size=a.tmps.size:=by cases dst<;>simp[Act.put]
theorem put_defers (a:Act) (dst:Option Tmp) (u:Value):(a.put dst u).defers=a.defers:=by cases dst<;>rfl
theorem xF {draw:Bool} {vo:aT} {σ:ar} {next:AV->ar->Prop} {U:Nat->Prop} {Q:Exit->Act->World->Prop} {K:Act->World->Prop} (hc:pM P o.op=some vo.op) (hv:fC (Sound P) draw vo env σ next) (S:fR P hs D ι σ.get w) (Us:Used ι σ.next U) (hU:¬U vo.site) (E:bJ P w D ι env a)
  (hK:∀v σ' u D' ι' w',next v σ'->Step hs D ι w D' ι' w'->fR P hs D' ι' σ'.get w'->cu P w' D' ι' v u->Used ι' σ'.next (fun s=>U s∨s=vo.site)->σ.next<=σ'.next->K (a.put o.dst u) w'):o.wp P a w K Q:=by
 have close:∀v g',VS (Sound P) σ.next vo env σ.get v g'->next v ⟨g',σ.next⟩->o.wp P a w K Q:=fun v g' h1 h2=>
  zt hc h1 S Us hU E fun a' w' ⟨u,D',ι',ha,T,S',hR,U'⟩=>by subst ha;exact hK v ⟨g',σ.next⟩ u D' ι' w' h2 T S' hR U' (Nat.le_refl _)
 have HB:∀(f:Nat) (args:List AV) (vs:Array Value),Sound P f args ⟨σ.get,σ.next+1⟩ next->e6 P w D ι args vs->(execOp a.eval o).run P w=.ok (.enter f vs) w->o.wp P a w K Q:=by
  intro f args vs h hA fI
  unfold Oper.wp
  rw[fI]
  refine(h hs D ι w vs S Us.next hA).mono ?_
  rintro e w' ⟨r,g',n',D',ι',u,rfl,hn,T,S',U',hle,hR⟩
  exact hK r ⟨g',n'⟩ u D' ι' w' hn T S' hR (U'.more fun _ h=>h.elim) (Nat.le_trans (Nat.le_succ _) hle)
 unfold fC at hv
 split at hv
 ·rename_i f args dP
  rcases hv with⟨r,hP,hn⟩|⟨_,hX⟩|⟨Dt,sz,rows,hM,hn⟩
  ·exact close r σ.get (by unfold VS;rw[dP];exact .inl ⟨hP,rfl⟩) hn
  rotate_left
  ·exact close _ _ (by unfold VS;rw[dP];exact .inr ⟨Dt,sz,rows,hM,rfl,rfl⟩) hn
  ·have ke:=hc
   rw[dP]at ke
   obtain⟨c,ho,jY,Dn,mA⟩:=Ak ke
   refine HB f _ (c.args.map a.eval) hX (nu E mA) ?_
   simp only[execOp,ho,resolve,jY,Deferred.ofValue,Act.eval,Sem.run_bind,Sem.run_pure,Result.andThen_ok,invoke,Array.empty_append,Array.append_empty]
   exact jb Dn
 ·rename_i x args dP
  split at hv
  ·rename_i f cC hx
   have th:tH (cF env x) (args.map (cF env))=some (f,args.map (cF env)++cC):=by rw[hx];rfl
   rcases hv with⟨r,hP,hn⟩|⟨_,hX⟩|⟨Dt,sz,rows,hM,hn⟩
   ·exact close r σ.get (by unfold VS;rw[dP];exact⟨f,_,th,.inl ⟨hP,rfl⟩⟩) hn
   rotate_left
   ·exact close _ _ (by unfold VS;rw[dP];exact⟨f,_,th,.inr ⟨Dt,sz,rows,hM,rfl,rfl⟩⟩) hn
   ·have ke:=hc
    rw[dP]at ke
    obtain⟨c,t,ho,jY,rfl,mA⟩:=rI ke
    obtain⟨first,us,he,Dn,hL⟩:=tK (v:=a.eval (.tmp t)) th (E t) (nu E mA)
    refine HB f _ (first++c.args.map a.eval++us) hX hL ?_
    simp only[execOp,ho,resolve,jY,he,Deferred.ofValue,Sem.run_bind,Sem.run_pure,Result.andThen_ok,invoke]
    exact jb Dn
  ·rename_i f cC hx
   have th:tH (cF env x) (args.map (cF env))=some (f,cC++args.map (cF env)):=by rw[hx];rfl
   rcases hv with⟨r,hP,hn⟩|⟨_,hX⟩|⟨Dt,sz,rows,hM,hn⟩
   ·exact close r σ.get (by unfold VS;rw[dP];exact⟨f,_,th,.inl ⟨hP,rfl⟩⟩) hn
   rotate_left
   ·exact close _ _ (by unfold VS;rw[dP];exact⟨f,_,th,.inr ⟨Dt,sz,rows,hM,rfl,rfl⟩⟩) hn
   ·have ke:=hc
    rw[dP]at ke
    obtain⟨c,t,ho,jY,rfl,mA⟩:=rI ke
    obtain⟨first,us,he,Dn,hL⟩:=tK (v:=a.eval (.tmp t)) th (E t) (nu E mA)
    refine HB f _ (first++c.args.map a.eval++us) hX hL ?_
    simp only[execOp,ho,resolve,jY,he,Deferred.ofValue,Sem.run_bind,Sem.run_pure,Result.andThen_ok,invoke]
    exact jb Dn
  ·exact hv.elim
 ·rename_i m x y dP
  split at hv
  ·rename_i v' g' he
   exact close v' g' (by unfold VS;rw[dP];rw[dP]at he;exact he) hv
  ·exact hv.elim
 ·rename_i m x y dP
  split at hv
  ·rename_i v' g' he
   exact close v' g' (by unfold VS;rw[dP];rw[dP]at he;exact he) hv
  ·exact hv.elim
 ·rename_i m x y dP
  split at hv
  ·rename_i v' g' he
   exact close v' g' (by unfold VS;rw[dP];rw[dP]at he;exact he) hv
  ·exact hv.elim
 ·rename_i m x dP
  split at hv
  ·rename_i v' g' he
   exact close v' g' (by unfold VS;rw[dP];rw[dP]at he;exact he) hv
  ·exact hv.elim
 ·rename_i m x dP
  split at hv
  ·rename_i v' g' he
   exact close v' g' (by unfold VS;rw[dP];rw[dP]at he;exact he) hv
  ·exact hv.elim
 ·rename_i n1 n2 n3 n4 n5 n6 n7
  split at hv
  ·rename_i v' r hq
   refine close v' (bj σ.get ⟨vo.site,σ.next⟩ r) ?_ hv
   unfold VS
   split
   ·rename_i h;exact(n1 _ _ h).elim
   ·rename_i h;exact(n2 _ _ h).elim
   ·rename_i h;exact(n3 _ _ _ h).elim
   ·rename_i h;exact(n4 _ _ _ h).elim
   ·rename_i h;exact(n5 _ _ _ h).elim
   ·rename_i h;exact(n6 _ _ h).elim
   ·rename_i h;exact(n7 _ _ h).elim
   ·exact⟨some r,hq,rfl⟩
  ·rename_i v' hq
   refine close v' σ.get ?_ hv
   unfold VS
   split
   ·rename_i h;exact(n1 _ _ h).elim
   ·rename_i h;exact(n2 _ _ h).elim
   ·rename_i h;exact(n3 _ _ _ h).elim
   ·rename_i h;exact(n4 _ _ _ h).elim
   ·rename_i h;exact(n5 _ _ _ h).elim
   ·rename_i h;exact(n6 _ _ h).elim
   ·rename_i h;exact(n7 _ _ h).elim
   ·exact⟨none,hq,rfl⟩
  ·exact hv.elim
structure St (P:Program) (hs nt:Nat) (D:Nat->Prop) (ι:Names) (env:Env) (σ:ar) (a:Act) (w:World):Prop where
 rQ:fR P hs D ι σ.get w
 used:Used ι σ.next (fun _=>False)
 env:bJ P w D ι env a
 size:a.tmps.size=nt
theorem uD (rest:List Oper) {ops:Array Oper} {nt site0:Nat} {draw mk:Bool} {bs:Array Nat} {hidden:List (Nat×Bool)} {K:Env->ar->Prop} {Q:Exit->Act->World->Prop}:∀(l:List Oper) (vl:List aT) (j:Nat) (env:Env) (σ:ar) (a:Act) (w:World) (D:Nat->Prop) (ι:Names) (U:Nat->Prop),
  allM (j9 P ops nt site0 draw mk bs hidden) l j=some vl->wpOps (Sound P) draw vl K env σ->fR P hs D ι σ.get w->Used ι σ.next U->(∀s,U s->s<site0+j)->bJ P w D ι env a->a.tmps.size=nt->
  (∀ik σ' a' w' D' ι',K ik σ'->Step hs D ι w D' ι' w'->St P hs nt D' ι' ik σ' a' w'->a'.defers=a.defers->σ.next<=σ'.next->wpList P ops Q rest a' w')->wpList P ops Q (l++rest) a w:=by
 intro l
 induction l with
 |nil=>
  intro vl j env σ a w D ι U h hv S Us _ E eW hQ
  simp[allM]at h;subst h
  exact hQ env ⟨σ.get,σ.next+1⟩ a w D ι hv (Step.refl _ _ _ _) ⟨S,Us.next,E,eW⟩ rfl (Nat.le_succ _)
 |cons o l ih=>
  intro vl j env σ a w D ι U h hv S Us hU E eW hQ
  simp only[allM,Option.bind_eq_bind,Option.bind_eq_some_iff,Option.pure_def,Option.some.injEq]at h
  obtain⟨vo,oL,rX,qS,rfl⟩:=h
  obtain⟨hc,hd,Ad,vQ,hg⟩:=oc oL
  have hw:=rY (ops:=ops) (vo:=vo) E hg
  unfold wpOps at hv
  show wpList P ops Q (o::(l++rest)) a w
  unfold wpList
  rw[<-hw]
  split at hv
  ·rename_i EH
   rw[if_pos EH]
   refine .inl (xF hc hv S Us (fun h=>by have:=hU _ h;omega) E fun v σ' u D' ι' w' hn T S' hR U' hle=>?_)
   refine ih rX (j+1) (upd env vo.dst v) σ' (a.put o.dst u) w' D' ι' _ qS hn S' U' (fun s Aa=>by
    rcases Aa with h|h
    ·have:=hU _ h;omega
    ·omega) (by rw[hd];exact gV (nA E T) hR vQ eW) (by rw[eO];exact eW) fun ik σ2 a' w2 D2 ι2 hk T2 Lf BT l5=>hQ ik σ2 a' w2 D2 ι2 hk (T.trans T2) Lf (BT.trans (put_defers _ _ _)) (Nat.le_trans hle l5)
  ·rename_i EH
   rw[if_neg EH]
   refine ih rX (j+1) (upd env vo.dst .undef) σ (a.put o.dst undef) w D ι U qS hv S Us (fun s Aa=>by have:=hU _ Aa;omega) (by rw[hd];exact gV E cu.undef vQ eW) (by rw[eO];exact eW) fun ik σ2 a' w2 D2 ι2 hk T2 Lf BT l5=>hQ ik σ2 a' w2 D2 ι2 hk T2 Lf (BT.trans (put_defers _ _ _)) l5
theorem xn {ops:Array Oper} {nt site0:Nat} {draw mk:Bool} {bs:Array Nat} {hidden:List (Nat×Bool)} {K:Env->ar->Prop} {Q:Exit->Act->World->Prop}:∀(l:List Oper) (vl:List aT) (j:Nat) (env:Env) (σ:ar) (a:Act) (w:World) (D:Nat->Prop) (ι:Names) (U:Nat->Prop),
  allM (j9 P ops nt site0 draw mk bs hidden) l j=some vl->wpOps (Sound P) draw vl K env σ->fR P hs D ι σ.get w->Used ι σ.next U->(∀s,U s->s<site0+j)->bJ P w D ι env a->a.tmps.size=nt->
  (∀ik σ' a' w' D' ι',K ik σ'->Step hs D ι w D' ι' w'->St P hs nt D' ι' ik σ' a' w'->a'.defers=a.defers->σ.next<=σ'.next->Q .normal a' w')->wpList P ops Q l a w:=fun l vl j env σ a w D ι U h hv S Us hU E eW hQ=>by
 have:=uD [] l vl j env σ a w D ι U h hv S Us hU E eW hQ
 rwa [List.append_nil]at this
end
end Go.Proofs.YtgoelphibofcmaaGreat.V

namespace Go.Proofs.YtgoelphibofcmaaGreat.V
open Go.RowKit
variable {P:Program} {w w':World} {D D' D2:Nat->Prop} {ι ι' ι2:Names}
section
variable {hs:Nat} {X:fq}
theorem aV {env iz:Env} {x:O} (h:∀t∈gE x,env t=iz t):cF env x=cF iz x:=by
 cases x with
 |t n=>exact h n (by simp[gE])
 |_=>rfl
theorem map_congr {env iz:Env} {l:List O} (h:∀t∈l.flatMap gE,env t=iz t):l.map (cF env)=l.map (cF iz):=
 List.map_congr_left fun x hx=>aV fun t ht=>h t (List.mem_flatMap.2 ⟨x,hx,ht⟩)
theorem om {env iz:Env} {x:Option O} (h:∀t∈uE x,env t=iz t):x.map (cF env)=x.map (cF iz):=by
 cases x with
 |none=>rfl
 |some y=>simp only[Option.map_some];rw[aV h]
theorem rO {env iz:Env} {o:fX} {g:Rows} {id:Id} (h:∀t∈o.gm,env t=iz t):eG o (cF env) g id=eG o (cF iz) g id:=by
 cases o<;>simp only[fX.gm,List.mem_append]at h<;>simp only[eG]
 case dc x=>rw[aV h]
 case pick c a b=>rw[aV (x:=c) fun t ht=>h t (.inl (.inl ht)),aV (x:=a) fun t ht=>h t (.inl (.inr ht)),aV (x:=b) fun t ht=>h t (.inr ht)]
 case box x=>rw[aV h]
 case build z ps=>
  have:(ps.map fun(x:Nat×Nat×O)=>(x.1,x.2.1,cF env x.2.2))=ps.map fun(x:Nat×Nat×O)=>(x.1,x.2.1,cF iz x.2.2):=List.map_congr_left fun x hx=>by
   rw[aV (x:=x.2.2) fun t ht=>h t (List.mem_flatMap.2 ⟨x,hx,ht⟩)]
  rw[this]
 case lf a b l=>rw[map_congr h]
 case load a n x=>rw[aV h]
 case zf x=>rw[aV h]
 case bin a b x y=>rw[aV (x:=x) fun t ht=>h t (.inl ht),aV (x:=y) fun t ht=>h t (.inr ht)]
 case sh a x y=>rw[aV (x:=x) fun t ht=>h t (.inl ht),aV (x:=y) fun t ht=>h t (.inr ht)]
 case I8 a x y=>rw[aV (x:=x) fun t ht=>h t (.inl ht),aV (x:=y) fun t ht=>h t (.inr ht)]
 case Ly a b x y=>rw[aV (x:=x) fun t ht=>h t (.inl ht),aV (x:=y) fun t ht=>h t (.inr ht)]
 case PT a b x y=>rw[aV (x:=x) fun t ht=>h t (.inl ht),aV (x:=y) fun t ht=>h t (.inr ht)]
 case N6 a b x=>rw[aV h]
 case PU a x=>rw[aV h]
 case not x=>rw[aV h]
 case neg x=>rw[aV h]
 case conv k x=>rw[aV h]
 case C9 x=>rw[aV h]
 case slice s x lo hi=>rw[aV (x:=x) fun t ht=>h t (.inl (.inl ht)),om (x:=lo) fun t ht=>h t (.inl (.inr ht)),om (x:=hi) fun t ht=>h t (.inr ht)]
 case yR x lo hi=>rw[aV (x:=x) fun t ht=>h t (.inl (.inl ht)),om (x:=lo) fun t ht=>h t (.inl (.inr ht)),om (x:=hi) fun t ht=>h t (.inr ht)]
 case fB k x=>rw[aV h]
 case field a b c x=>rw[aV h]
 case dw s x y=>rw[aV (x:=x) fun t ht=>h t (.inl ht),aV (x:=y) fun t ht=>h t (.inr ht)]
 case JF n s x y=>rw[aV (x:=x) fun t ht=>h t (.inl ht),aV (x:=y) fun t ht=>h t (.inr ht)]
 case JH x y=>rw[aV (x:=x) fun t ht=>h t (.inl ht),aV (x:=y) fun t ht=>h t (.inr ht)]
 case dZ a b c x y=>rw[aV (x:=x) fun t ht=>h t (.inl ht),aV (x:=y) fun t ht=>h t (.inr ht)]
 case extract i x=>rw[aV h]
 case len x=>rw[aV h]
 case JN x=>rw[aV h]
 case Hv x=>rw[aV h]
 case Hp x=>rw[aV h]
 case JR f l=>rw[map_congr h]
 case JS f l=>rw[map_congr h]
 case mq f l=>rw[map_congr h]
 case jC z x y=>rw[aV (x:=x) fun t ht=>h t (.inl ht),aV (x:=y) fun t ht=>h t (.inr ht)]
theorem gH {env iz:Env} {o:fX} {g:Rows} {id:Id} (h:∀t∈o.gm,env t=iz t):fW o (cF env) g id=fW o (cF iz) g id:=by
 cases o<;>simp only[fX.gm,List.mem_append]at h<;>simp only[fW]
 case clear z x=>rw[aV h]
 case mw f l=>rw[map_congr h]
 all_goals rename_i a x y
 all_goals rw[aV (x:=x) fun t ht=>h t (.inl ht),aV (x:=y) fun t ht=>h t (.inr ht)]
theorem F9 {n:Nat} {vo:aT} {env iz:Env} {g g':Rows} {v:AV} (h:∀t∈vo.op.gm,env t=iz t) (hv:VS X n vo env g v g'):VS X n vo iz g v g':=by
 unfold VS at hv ⊢
 split at hv
 ·rename_i f args dP
  rw[dP]at h
  simp only[fX.gm]at h
  rw[<-map_congr h];exact hv
 ·rename_i x args dP
  rw[dP]at h
  simp only[fX.gm,List.mem_append]at h
  rw[<-map_congr (l:=args) fun t ht=>h t (.inr ht),<-aV (x:=x) fun t ht=>h t (.inl ht)];exact hv
 ·rw[<-gH h];exact hv
 ·rw[<-gH h];exact hv
 ·rw[<-gH h];exact hv
 ·rw[<-gH h];exact hv
 ·rw[<-gH h];exact hv
 ·rw[<-rO h];exact hv
theorem Ci {q:MQ} {vs:List AV} {g:Rows} {id:Id} {v:AV} {r:Row} (h:bw q vs g id=some (v,some r)):∃m,q=.new m:=by
 unfold bw at h
 split at h
 ·exact⟨_,rfl⟩
 ·simp[Option.bind_eq_some_iff]at h
 ·simp at h
 ·cases h
theorem uH {o:fX} {ρ:O->AV} {g:Rows} {id:Id} {v:AV} {r:Row} (h:eG o ρ g id=some (v,some r)):pE o=true:=by
 cases o<;>simp only[eG]at h<;>(try rfl)<;>(try simp at h)
 case mq q xs=>obtain⟨m,rfl⟩:=Ci h;rfl
 all_goals (try(split at h<;>simp at h))
theorem uI {o:fX} {ρ:O->AV} {g g2:Rows} {id id2:Id} (h:o.cls=.pure):eG o ρ g id=eG o ρ g2 id2:=by
 cases o<;>(try simp[fX.cls]at h)<;>(try simp only[eG])
 case mq q xs=>cases q<;>simp[fX.cls]at h
theorem tD {n:Nat} {vo:aT} {env:Env} {g g':Rows} {v:AV} (hw:vo.op.cls≠.write) (hv:VS X n vo env g v g'):∃mr,g'=iR g ⟨vo.site,n⟩ mr/\(mr≠none->vo.makes=true)/\∀g0,fV vo.hid n g0=fV vo.hid n g->VS X n vo env g0 v (iR g0 ⟨vo.site,n⟩ mr):=by
 unfold VS at hv
 split at hv
 ·rename_i f args dP
  rcases hv with⟨h1,rfl⟩|⟨hs,sz,rows,hM,rfl,rfl⟩
  ·refine⟨none,rfl,fun h=>(h rfl).elim,fun g0 h0=>?_⟩
   unfold VS;rw[dP];simp only;unfold tJ;rw[h0];exact .inl ⟨h1,rfl⟩
  ·refine⟨some _,rfl,fun _=>by unfold aT.makes;rw[dP,hs];simp[fX.lg],fun g0 h0=>?_⟩
   unfold VS;rw[dP];simp only;unfold tJ;rw[h0];exact .inr ⟨hs,sz,rows,hM,rfl,rfl⟩
 ·rename_i x args dP
  obtain⟨f,cC,hx,hv⟩:=hv
  rcases hv with⟨h1,rfl⟩|⟨hs,sz,rows,hM,rfl,rfl⟩
  ·refine⟨none,rfl,fun h=>(h rfl).elim,fun g0 h0=>?_⟩
   unfold VS;rw[dP];simp only;unfold tJ;rw[h0];exact⟨f,cC,hx,.inl ⟨h1,rfl⟩⟩
  ·refine⟨some _,rfl,fun _=>by unfold aT.makes;rw[dP,hs];simp[fX.lg],fun g0 h0=>?_⟩
   unfold VS;rw[dP];simp only;unfold tJ;rw[h0];exact⟨f,cC,hx,.inr ⟨hs,sz,rows,hM,rfl,rfl⟩⟩
 ·rename_i dP;rw[dP]at hw;exact(hw rfl).elim
 ·rename_i dP;rw[dP]at hw;exact(hw rfl).elim
 ·rename_i dP;rw[dP]at hw;exact(hw rfl).elim
 ·rename_i dP;rw[dP]at hw;exact(hw rfl).elim
 ·rename_i dP;rw[dP]at hw;exact(hw rfl).elim
 ·rename_i n1 n2 n3 n4 n5 n6 n7
  obtain⟨mr,hq,rfl⟩:=hv
  refine⟨mr,rfl,fun h=>?_,fun g0 h0=>?_⟩
  ·cases mr with
   |none=>exact(h rfl).elim
   |some r=>unfold aT.makes;rw[uH hq];rfl
  ·unfold VS
   split
   ·rename_i hh;exact(n1 _ _ hh).elim
   ·rename_i hh;exact(n2 _ _ hh).elim
   ·rename_i hh;exact(n3 _ _ _ hh).elim
   ·rename_i hh;exact(n4 _ _ _ hh).elim
   ·rename_i hh;exact(n5 _ _ _ hh).elim
   ·rename_i hh;exact(n6 _ _ hh).elim
   ·rename_i hh;exact(n7 _ _ hh).elim
   ·rw[h0];exact⟨mr,hq,rfl⟩
theorem xN {n:Nat} {vo:aT} {env:Env} {g g':Rows} {v:AV} (hp:vo.op.cls=.pure) (hv:VS X n vo env g v g'):g'=g/\∀g0,VS X n vo env g0 v g0:=by
 unfold VS at hv
 split at hv
 ·rename_i dP;rw[dP]at hp;simp[fX.cls]at hp
 ·rename_i dP;rw[dP]at hp;simp[fX.cls]at hp
 ·rename_i dP;rw[dP]at hp;simp[fX.cls]at hp
 ·rename_i dP;rw[dP]at hp;simp[fX.cls]at hp
 ·rename_i dP;rw[dP]at hp;simp[fX.cls]at hp
 ·rename_i dP;rw[dP]at hp;simp[fX.cls]at hp
 ·rename_i dP;rw[dP]at hp;simp[fX.cls]at hp
 ·rename_i n1 n2 n3 n4 n5 n6 n7
  obtain⟨mr,hq,rfl⟩:=hv
  have RX:mr=none:=by
   cases mr with
   |none=>rfl
   |some r=>have:=uH hq;simp[pE,hp]at this
  subst RX
  refine⟨rfl,fun g0=>?_⟩
  unfold VS
  split
  ·rename_i hh;exact(n1 _ _ hh).elim
  ·rename_i hh;exact(n2 _ _ hh).elim
  ·rename_i hh;exact(n3 _ _ _ hh).elim
  ·rename_i hh;exact(n4 _ _ _ hh).elim
  ·rename_i hh;exact(n5 _ _ _ hh).elim
  ·rename_i hh;exact(n6 _ _ hh).elim
  ·rename_i hh;exact(n7 _ _ hh).elim
  ·exact⟨none,by rw[uI hp];exact hq,rfl⟩
def GS (X:fq) (n:Nat) (vo:aT) (env:Env) (g:Rows) (v:AV) (g':Rows):Prop:=
 if aH vo.guard env then VS X n vo env g v g' else v=.undef/\g'=g
theorem AY {hid:List Nat} {g:Rows} {s n:Nat} {mr:Option Row} (h:mr≠none->hid.contains s=true):fV hid n (iR g ⟨s,n⟩ mr)=fV hid n g:=by
 cases mr with
 |none=>rfl
 |some r=>
  have hc:=h (by simp)
  cases hid with
  |nil=>simp at hc
  |cons a l=>
   funext i
   show(if (a::l).contains i.site=true/\i.bQ=n then none else iR g ⟨s,n⟩ (some r) i)=if (a::l).contains i.site=true/\i.bQ=n then none else g i
   by_cases hi:i=⟨s,n⟩
   ·subst hi;rw[if_pos ⟨hc,rfl⟩,if_pos ⟨hc,rfl⟩]
   ·simp only[iR,bj,if_neg hi]
theorem D9 {g:Rows} {i j:Id} (h:i≠j) (m1 m2:Option Row):iR (iR g i m1) j m2=iR (iR g j m2) i m1:=by
 cases m1<;>cases m2<;>simp only[iR]
 funext k
 simp only[bj]
 by_cases h1:k=i
 ·subst h1;rw[if_neg h,if_pos rfl];simp
 ·by_cases h2:k=j
  ·subst h2;simp[h1]
  ·simp[h1,h2]
theorem vg {env:Env} {d e:Option Nat} {v u:AV} (h:∀k,d=some k->e≠some k):upd (upd env d v) e u=upd (upd env e u) d v:=by
 cases d with
 |none=>rfl
 |some d=>
  cases e with
  |none=>rfl
  |some e=>
   have gI:d≠e:=fun he=>h d rfl (by rw[he])
   funext t
   simp only[upd]
   by_cases h1:t=d
   ·subst h1;rw[if_neg gI,if_pos rfl,if_pos rfl]
   ·by_cases h2:t=e
    ·subst h2;rw[if_pos rfl,if_neg h1,if_pos rfl]
    ·simp[h1,h2]
theorem lQ {env:Env} {d:Option Nat} {v:AV} {l:List Nat} (h:∀k,d=some k->k∉l):∀t∈l,upd env d v t=env t:=by
 intro t ht
 cases d with
 |none=>rfl
 |some d=>
  have:t≠d:=fun he=>h d rfl (he▸ht)
  simp[upd,this]
structure Bj (x y:aT):Prop where
 xy:∀k,x.dst=some k->k∉y.gm
 yx:∀k,y.dst=some k->k∉x.gm
 dst:∀k,x.dst=some k->y.dst≠some k
 cls:clash x.op.cls y.op.cls=false
 hx:x.makes=true->y.hid.contains x.site=true
 hy:y.makes=true->x.hid.contains y.site=true
 site:x.site≠y.site
theorem Bj.symm {x y:aT} (h:Bj x y):Bj y x:=
 ⟨h.yx,h.xy,fun k hk he=>h.dst k he hk,by have:=h.cls;revert this;cases x.op.cls<;>cases y.op.cls<;>simp[clash],h.hy,h.hx,fun e=>h.site e.symm⟩
theorem pf {x y:aT} (h:Dh x y=true):Bj x y:=by
 unfold Dh at h
 simp only[Bool.and_eq_true,Bool.not_eq_true',Bool.or_eq_true,bne_iff_ne]at h
 obtain⟨⟨⟨⟨h1,h2⟩,h3⟩,h4⟩,h5⟩:=h
 unfold rW at h1
 simp only[Bool.and_eq_true]at h1
 obtain⟨a1,a2⟩:=h1
 refine⟨fun k hk=>?_,fun k hk=>?_,fun k hk=>?_,h2,fun hm=>?_,fun hm=>?_,h5⟩
 ·rw[hk]at a1;simp at a1;exact a1.1
 ·rw[hk]at a2;simpa using a2
 ·rw[hk]at a1;simp at a1;exact a1.2
 ·rcases h3 with h3|h3
  ·rw[hm]at h3;cases h3
  ·exact h3
 ·rcases h4 with h4|h4
  ·rw[hm]at h4;cases h4
  ·exact h4
theorem qE {vo:aT} {t:Nat} (h:t∈vo.op.gm):t∈vo.gm:=List.mem_append_left _ h
theorem mh {vo:aT} {env iz:Env} (h:∀t∈vo.gm,env t=iz t):aH vo.guard env=aH vo.guard iz:=by
 unfold aH
 cases hg:vo.guard with
 |none=>rfl
 |some p=>
  obtain⟨t,b⟩:=p
  have:env t=iz t:=h t (List.mem_append_right _ (by rw[hg];simp))
  simp only[this]
theorem tz {n:Nat} {vo:aT} {env iz:Env} {g g':Rows} {v:AV} (h:∀t∈vo.gm,env t=iz t) (hv:GS X n vo env g v g'):GS X n vo iz g v g':=by
 unfold GS at hv ⊢
 rw[<-mh h]
 split at hv
 ·rename_i hw;rw[if_pos hw];exact F9 (fun t ht=>h t (qE ht)) hv
 ·rename_i hw;rw[if_neg hw];exact hv
theorem CZ {n:Nat} {x y:aT} {env:Env} {g g1 g2:Rows} {v v':AV} (F:Bj x y) (h1:GS X n x env g v g1) (h2:GS X n y (upd env x.dst v) g1 v' g2):
  ∃Je,GS X n y env g v' Je/\GS X n x (upd env y.dst v') Je v g2/\upd (upd env x.dst v) y.dst v'=upd (upd env y.dst v') x.dst v:=by
 have KP:=vg (env:=env) (v:=v) (u:=v') F.dst
 replace h2:GS X n y env g1 v' g2:=tz (lQ F.xy) h2
 have back:∀{Je},GS X n x env Je v g2->GS X n x (upd env y.dst v') Je v g2:=fun h=>tz (fun t ht=>(lQ F.yx t ht).symm) h
 unfold GS at h1 h2
 by_cases wx:aH x.guard env=true
 ·rw[if_pos wx]at h1
  by_cases wy:aH y.guard env=true
  ·rw[if_pos wy]at h2
   by_cases cx:x.op.cls=.write
   ·have cy:y.op.cls=.pure:=by
     have:=F.cls;rw[cx]at this
     cases hc:y.op.cls<;>simp[clash,hc]at this ⊢
    obtain⟨rfl,dy⟩:=xN cy h2
    exact⟨g,by unfold GS;rw[if_pos wy];exact dy g,back (by unfold GS;rw[if_pos wx];exact h1),KP⟩
   ·by_cases cy:y.op.cls=.write
    ·have cx':x.op.cls=.pure:=by
      have:=F.cls;rw[cy]at this
      cases hc:x.op.cls<;>simp[clash,hc]at this ⊢
     obtain⟨rfl,dy⟩:=xN cx' h1
     exact⟨g2,by unfold GS;rw[if_pos wy];exact h2,back (by unfold GS;rw[if_pos wx];exact dy g2),KP⟩
    ·obtain⟨mx,rfl,kx,QW⟩:=tD cx h1
     obtain⟨my,rfl,ky,Lk⟩:=tD cy h2
     have gI:(⟨x.site,n⟩:Id)≠⟨y.site,n⟩:=fun e=>F.site (by injection e)
     refine⟨iR g ⟨y.site,n⟩ my,?_,back ?_,KP⟩
     ·unfold GS;rw[if_pos wy]
      exact Lk g (AY fun h=>F.hx (kx h)).symm
     ·unfold GS;rw[if_pos wx,D9 gI]
      exact QW _ (AY fun h=>F.hy (ky h))
  ·rw[if_neg wy]at h2
   obtain⟨rfl,rfl⟩:=h2
   exact⟨g,by unfold GS;rw[if_neg wy];exact⟨rfl,rfl⟩,back (by unfold GS;rw[if_pos wx];exact h1),KP⟩
 ·rw[if_neg wx]at h1
  obtain⟨rfl,rfl⟩:=h1
  exact⟨g2,h2,back (by unfold GS;rw[if_neg wx];exact⟨rfl,rfl⟩),KP⟩
end
end Go.Proofs.YtgoelphibofcmaaGreat.V

namespace Go.Proofs.YtgoelphibofcmaaGreat.V
open Go.RowKit
variable {P:Program} {w w':World} {D D' D2:Nat->Prop} {ι ι' ι2:Names}
section
variable {hs:Nat} {X:fq}
def iS (acc:Array Nat) (o:Oper):Nat:=o.after.foldl (fun s e=>if Region.binds .any e then s|||2 ^ e.on|||acc.getD e.on 0 else s) 0
theorem I3 (ops:Array Oper):je ops=ops.foldl (fun acc o=>acc.push (iS acc o)) #[]:=rfl
theorem zA {acc:Array Nat} {o:Oper} {i:Nat} (h:(iS acc o).testBit i=true):∃e∈o.after,Region.binds .any e=true/\(e.on=i∨(acc.getD e.on 0).testBit i=true):=by
 unfold iS at h
 rw[<-Array.foldl_toList]at h
 have gen:∀(l:List Edge) (s:Nat),(l.foldl (fun s e=>if Region.binds .any e then s|||2 ^ e.on|||acc.getD e.on 0 else s) s).testBit i=true->s.testBit i=true∨∃e∈l,Region.binds .any e=true/\(e.on=i∨(acc.getD e.on 0).testBit i=true):=by
  intro l
  induction l with
  |nil=>intro s h;exact .inl h
  |cons e r ih=>
   intro s h
   rw[List.foldl_cons]at h
   rcases ih _ h with h|⟨e',Jk,h'⟩
   ·by_cases hb:Region.binds .any e=true
    ·rw[if_pos hb]at h
     simp only[Nat.testBit_or,Bool.or_eq_true]at h
     rcases h with(h|h)|h
     ·exact .inl h
     ·refine .inr ⟨e,by simp,hb,.inl ?_⟩
      rw[Nat.testBit_two_pow]at h
      simpa using h
     ·exact .inr ⟨e,by simp,hb,.inr h⟩
    ·rw[if_neg hb]at h;exact .inl h
   ·exact .inr ⟨e',List.mem_cons_of_mem _ Jk,h'⟩
 rcases gen _ _ h with h|⟨e,he,h⟩
 ·simp at h
 ·exact⟨e,Array.mem_toList_iff.1 he,h⟩
theorem Gh {ops:Array Oper} {j i:Nat} (h:((je ops).getD j 0).testBit i=true):∃o,ops[j]? =some o/\∃e∈o.after,Region.binds .any e=true/\(e.on=i∨((je ops).getD e.on 0).testBit i=true):=by
 have key:∀(l pre:List Oper) (acc:Array Nat),acc.size=pre.length->(∀j i,(acc.getD j 0).testBit i=true->∃o,pre[j]? =some o/\∃e∈o.after,Region.binds .any e=true/\(e.on=i∨(acc.getD e.on 0).testBit i=true))->
   ∀j i,((l.foldl (fun acc o=>acc.push (iS acc o)) acc).getD j 0).testBit i=true->∃o,(pre++l)[j]? =some o/\∃e∈o.after,Region.binds .any e=true/\(e.on=i∨((l.foldl (fun acc o=>acc.push (iS acc o)) acc).getD e.on 0).testBit i=true):=by
  intro l
  induction l with
  |nil=>intro pre acc _ h j i hb;simpa using h j i hb
  |cons o r ih=>
   intro pre acc eW h j i hb
   have xl:∀k,k<acc.size->(acc.push (iS acc o)).getD k 0=acc.getD k 0:=fun k hk=>by
    simp only[Array.getD_eq_getD_getElem?,Array.getElem?_push]
    rw[if_neg (by omega)]
   have big:∀k,acc.size<=k->acc.getD k 0=0:=fun k hk=>by simp[Array.getElem?_eq_none hk]
   have lift:∀k i,(acc.getD k 0).testBit i=true->((acc.push (iS acc o)).getD k 0).testBit i=true:=fun k i hk=>by
    by_cases dE:k<acc.size
    ·rw[xl k dE];exact hk
    ·rw[big k (by omega)]at hk;simp at hk
   have:=ih (pre++[o]) (acc.push (iS acc o)) (by simp[eW]) (fun j i hb=>by
    by_cases dE:j<acc.size
    ·rw[xl j dE]at hb
     obtain⟨o',Bd,e,he,fA,h2⟩:=h j i hb
     refine⟨o',by rw[List.getElem?_append_left (by omega)];exact Bd,e,he,fA,?_⟩
     rcases h2 with h2|h2
     ·exact .inl h2
     ·exact .inr (lift _ _ h2)
    ·by_cases hj:j=acc.size
     ·subst hj
      have e0:(acc.push (iS acc o)).getD acc.size 0=iS acc o:=by simp
      rw[e0]at hb
      obtain⟨e,he,fA,h2⟩:=zA hb
      refine⟨o,by rw[List.getElem?_append_right (by omega),eW];simp,e,he,fA,?_⟩
      rcases h2 with h2|h2
      ·exact .inl h2
      ·exact .inr (lift _ _ h2)
     ·have:(acc.push (iS acc o)).getD j 0=0:=by
       simp only[Array.getD_eq_getD_getElem?]
       rw[Array.getElem?_eq_none (by simp;omega)];rfl
      rw[this]at hb;simp at hb) j i (by simpa using hb)
   simpa using this
 rw[I3,<-Array.foldl_toList]at h ⊢
 have:=key ops.toList [] #[] rfl (fun j i h=>by simp at h) j i h
 simpa using this
def DC (ops:Array Oper) (listed:Array Bool):Prop:=∀k i,listed.getD k false=true->((je ops).getD k 0).testBit i=true->listed.getD i false=true
theorem kn {ops:Array Oper} {listed:Array Bool} (h:DC ops listed) {j:Nat} (hj:j∈Region.ready .any ops listed):∀i,((je ops).getD j 0).testBit i=true->listed.getD i false=true:=by
 intro i hb
 obtain⟨_,o,ho,dy⟩:=mem_ready.1 hj
 obtain⟨o',Bd,e,he,fA,h2⟩:=Gh hb
 rw[ho]at Bd;injection Bd with Bd;subst Bd
 have hl:=dy e he fA
 rcases h2 with h2|h2
 ·rw[<-h2];exact hl
 ·exact h _ _ hl h2
theorem DC.list {ops:Array Oper} {listed:Array Bool} (h:DC ops listed) {j:Nat} (hj:j∈Region.ready .any ops listed):DC ops (listed.setIfInBounds j true):=by
 intro k i hk hb
 by_cases hkj:k=j
 ·subst hkj;exact getD_set_true (kn h hj i hb)
 ·rw[getD_set_ne false (fun e=>hkj e.symm)]at hk
  exact getD_set_true (h k i hk hb)
theorem iK {ops:Array Oper} {listed:Array Bool} {j:Nat} (hj:j∈Region.ready .any ops listed):listed.getD j false=false:=by
 have h0:=(mem_ready.1 hj).1
 rcases Nat.lt_or_ge j listed.size with h|h
 ·simp[h]at h0 ⊢;exact h0
 ·simp[Array.getElem?_eq_none h]at h0
def Ir (X:fq) (n:Nat) (ops:Array Oper) (vl:List aT) (K:Env->Rows->Prop):Nat->Array Bool->Env->Rows->Prop
 |0,listed,env,g=>Region.ready .any ops listed=[]/\K env g
 |f+1,listed,env,g=>(Region.ready .any ops listed=[]->K env g)/\∀i∈Region.ready .any ops listed,∃vo,vl[i]? =some vo/\∃v g',GS X n vo env g v g'/\Ir X n ops vl K f (listed.setIfInBounds i true) (upd env vo.dst v) g'
theorem zK {ops:Array Oper} {vl:List aT} (h:nz ops vl (je ops)=true) {i j:Nat} {x y:aT} (hi:vl[i]? =some x) (hj:vl[j]? =some y) (BZ:i≠j) (h1:((je ops).getD j 0).testBit i=false) (h2:((je ops).getD i 0).testBit j=false):Bj x y:=by
 unfold nz at h
 simp only[Bool.and_eq_true,List.all_eq_true]at h
 obtain⟨_,h⟩:=h
 have mem:∀(k:Nat) (z:aT),vl[k]? =some z->(z,k)∈vl.zipIdx:=fun k z hk=>by
  rw[List.mem_iff_getElem?]
  exact⟨k,by simp[List.getElem?_zipIdx,hk]⟩
 rcases Nat.lt_or_gt_of_ne BZ with dE|Jm
 ·have:=h _ (mem j y hj) _ (mem i x hi)
  simp only[dE,decide_true,Bool.not_true,Bool.false_or,h1]at this
  exact pf this
 ·have:=h _ (mem i x hi) _ (mem j y hj)
  simp only[Jm,decide_true,Bool.not_true,Bool.false_or,h2]at this
  exact(pf this).symm
theorem CW {n:Nat} {ops:Array Oper} {vl:List aT} {K:Env->Rows->Prop} (ui:nz ops vl (je ops)=true) (hlen:vl.length=ops.size) {i:Nat} {vi:aT} (hi:vl[i]? =some vi) {v:AV}:∀(fuel:Nat) (listed:Array Bool) (env:Env) (g g1:Rows),
  DC ops listed->i∈Region.ready .any ops listed->GS X n vi env g v g1->Ir X n ops vl K fuel (listed.setIfInBounds i true) (upd env vi.dst v) g1->Ir X n ops vl K (fuel+1) listed env g:=by
 intro fuel
 induction fuel with
 |zero=>
  intro listed env g g1 _ hr hG H
  refine⟨fun h=>(by rw[h]at hr;cases hr),fun j hj=>?_⟩
  by_cases lT:j=i
  ·subst lT;exact⟨vi,hi,v,g1,hG,H⟩
  ·have:=ready_mono hj lT
   rw[H.1]at this;cases this
 |succ fuel ih=>
  intro listed env g g1 qP hr hG H
  refine⟨fun h=>(by rw[h]at hr;cases hr),fun j hj=>?_⟩
  by_cases lT:j=i
  ·subst lT;exact⟨vi,hi,v,g1,hG,H⟩
  ·obtain⟨vj,JD,v',g2,hG2,H2⟩:=H.2 j (ready_mono hj lT)
   have b1:((je ops).getD j 0).testBit i=false:=by
    cases hb:((je ops).getD j 0).testBit i with
    |false=>rfl
    |true=>have:=kn qP hj i hb;rw[iK hr]at this;cases this
   have b2:((je ops).getD i 0).testBit j=false:=by
    cases hb:((je ops).getD i 0).testBit j with
    |false=>rfl
    |true=>have:=kn qP hr j hb;rw[iK hj]at this;cases this
   have F:=zK ui hi JD (fun e=>lT e.symm) b1 b2
   obtain⟨Je,q1,q2,q3⟩:=CZ F hG hG2
   refine⟨vj,JD,v',Je,q1,ih _ _ _ g2 (qP.list hj) (ready_mono hr (fun e=>lT e.symm)) q2 ?_⟩
   rw[<-q3,Array.setIfInBounds_comm _ _ lT]
   exact H2
theorem Lh {n:Nat} {vo:aT} {env:Env} {g:Rows} {v:AV} {mr:Option Row} (h:eG vo.op (cF env) (fV vo.hid n g) ⟨vo.site,n⟩=some (v,mr)):VS X n vo env g v (iR g ⟨vo.site,n⟩ mr):=by
 unfold VS
 split
 ·rename_i dP;rw[dP]at h;simp[eG]at h
 ·rename_i dP;rw[dP]at h;simp[eG]at h
 ·rename_i dP;rw[dP]at h;simp[eG]at h
 ·rename_i dP;rw[dP]at h;simp[eG]at h
 ·rename_i dP;rw[dP]at h;simp[eG]at h
 ·rename_i dP;rw[dP]at h;simp[eG]at h
 ·rename_i dP;rw[dP]at h;simp[eG]at h
 ·exact⟨mr,h,rfl⟩
theorem Ga {n:Nat} {vo:aT} {env:Env} {g g':Rows} {v:AV} (h:fW vo.op (cF env) g ⟨vo.site,n⟩=some (v,g')):VS X n vo env g v g':=by
 unfold VS
 split
 ·rename_i dP;rw[dP]at h;simp[fW]at h
 ·rename_i dP;rw[dP]at h;simp[fW]at h
 ·exact h
 ·exact h
 ·exact h
 ·exact h
 ·exact h
 ·rename_i n1 n2 n3 n4 n5 n6 n7
  exfalso
  unfold fW at h
  split at h
  ·rename_i hh;exact n3 _ _ _ hh
  ·rename_i hh;exact n4 _ _ _ hh
  ·rename_i hh;exact n5 _ _ _ hh
  ·rename_i hh;exact n6 _ _ hh
  ·rename_i hh;exact n7 _ _ hh
  ·simp at h
theorem MV {vo:aT} {env:Env} {σ:ar} {next:AV->ar->Prop} (hv:fC X true vo env σ next):∃v g',VS X σ.next vo env σ.get v g'/\next v ⟨g',σ.next⟩:=by
 unfold fC at hv
 split at hv
 ·rename_i f args dP
  rcases hv with⟨r,hP,hn⟩|⟨h,_⟩|⟨hs,sz,rows,hM,hn⟩
  ·exact⟨r,σ.get,by unfold VS;rw[dP];exact .inl ⟨hP,rfl⟩,hn⟩
  ·cases h
  ·exact⟨_,_,by unfold VS;rw[dP];exact .inr ⟨hs,sz,rows,hM,rfl,rfl⟩,hn⟩
 ·rename_i x args dP
  split at hv
  ·rename_i f cC hx
   have th:tH (cF env x) (args.map (cF env))=some (f,args.map (cF env)++cC):=by rw[hx];rfl
   rcases hv with⟨r,hP,hn⟩|⟨h,_⟩|⟨hs,sz,rows,hM,hn⟩
   ·exact⟨r,σ.get,by unfold VS;rw[dP];exact⟨f,_,th,.inl ⟨hP,rfl⟩⟩,hn⟩
   ·cases h
   ·exact⟨_,_,by unfold VS;rw[dP];exact⟨f,_,th,.inr ⟨hs,sz,rows,hM,rfl,rfl⟩⟩,hn⟩
  ·rename_i f cC hx
   have th:tH (cF env x) (args.map (cF env))=some (f,cC++args.map (cF env)):=by rw[hx];rfl
   rcases hv with⟨r,hP,hn⟩|⟨h,_⟩|⟨hs,sz,rows,hM,hn⟩
   ·exact⟨r,σ.get,by unfold VS;rw[dP];exact⟨f,_,th,.inl ⟨hP,rfl⟩⟩,hn⟩
   ·cases h
   ·exact⟨_,_,by unfold VS;rw[dP];exact⟨f,_,th,.inr ⟨hs,sz,rows,hM,rfl,rfl⟩⟩,hn⟩
  ·exact hv.elim
 ·split at hv
  ·rename_i v g h;exact⟨v,g,Ga h,hv⟩
  ·exact hv.elim
 ·split at hv
  ·rename_i v g h;exact⟨v,g,Ga h,hv⟩
  ·exact hv.elim
 ·split at hv
  ·rename_i v g h;exact⟨v,g,Ga h,hv⟩
  ·exact hv.elim
 ·split at hv
  ·rename_i v g h;exact⟨v,g,Ga h,hv⟩
  ·exact hv.elim
 ·split at hv
  ·rename_i v g h;exact⟨v,g,Ga h,hv⟩
  ·exact hv.elim
 ·split at hv
  ·rename_i v r h;exact⟨v,_,Lh h,hv⟩
  ·rename_i v h;exact⟨v,_,Lh h,hv⟩
  ·exact hv.elim
theorem vh {ops:Array Oper} {vl:List aT} {K:Env->ar->Prop} {n:Nat} (ui:nz ops vl (je ops)=true) (hlen:vl.length=ops.size):∀(r:List aT) (k:Nat) (listed:Array Bool) (env:Env) (g:Rows),
  (∀j,r[j]? =vl[k+j]?)->listed.size=ops.size->(∀i,i<ops.size->listed[i]? =some (decide (i<k)))->k+r.length=ops.size->DC ops listed->wpOps X true r K env ⟨g,n⟩->Ir X n ops vl (fun env g=>K env ⟨g,n+1⟩) r.length listed env g
 |[],k,listed,env,g,_,eW,hl,hk,_,hv=>by
  refine⟨?_,hv⟩
  rw[List.eq_nil_iff_forall_not_mem]
  intro j hj
  obtain⟨h0,o,ho,_⟩:=mem_ready.1 hj
  have dE:j<ops.size:=(Array.getElem?_eq_some_iff.1 ho).1
  have:=hl j dE
  simp at hk
  simp[this,show j<k by omega]at h0
 |vo::r,k,listed,env,g,hr,eW,hl,hk,qP,hv=>by
  simp only[List.length_cons]at hk
  have oL:vl[k]? =some vo:=by simpa using(hr 0).symm
  have lq:k<ops.size:=by omega
  have G6:k∈Region.ready .any ops listed:=by
   rw[mem_ready]
   refine⟨by simp[hl k lq],ops[k],Array.getElem?_eq_getElem lq,fun e he hb=>?_⟩
   unfold nz Da at ui
   simp only[Bool.and_eq_true,List.all_eq_true]at ui
   have hm:(ops[k],k)∈ops.toList.zipIdx:=by
    rw[List.mem_iff_getElem?]
    exact⟨k,by simp[List.getElem?_zipIdx,lq]⟩
   have:=ui.1 _ hm
   rw[Array.all_eq_true_iff_forall_mem]at this
   have:=this e he
   simp only[hb,Bool.not_true,Bool.false_or,decide_eq_true_eq]at this
   simp[hl e.on (by omega),this]
  have hGS:∃v g',GS X n vo env g v g'/\wpOps X true r K (upd env vo.dst v) ⟨g',n⟩:=by
   unfold wpOps at hv
   unfold GS
   split at hv
   ·rename_i hw
    simp only[hw,if_true]
    exact MV hv
   ·rename_i hw
    simp only[hw]
    exact⟨.undef,g,⟨rfl,rfl⟩,hv⟩
  obtain⟨v,g',h1,h2⟩:=hGS
  refine CW ui hlen oL r.length listed env g g' qP G6 h1 ?_
  refine vh ui hlen r (k+1) _ _ _ (fun j=>by have:=hr (j+1);simpa[Nat.add_assoc,Nat.add_comm 1 j]using this) (by simp[eW]) (fun i hi=>?_) (by omega) (qP.list G6) h2
  by_cases wQ:i=k
  ·subst wQ;simp[eW,lq]
  ·rw[Array.getElem?_setIfInBounds_ne (fun e=>wQ e.symm),hl i hi]
   congr 1
   have:(i<k)=(i<k+1):=by apply propext;omega
   simp[this]
theorem ns {f:Nat->Oper->Option aT}:∀{l:List Oper} {vl:List aT} {j:Nat},allM f l j=some vl->vl.length=l.length/\∀(i:Nat) (o:Oper),l[i]? =some o->∃vo,vl[i]? =some vo/\f (j+i) o=some vo
 |[],vl,j,h=>by simp[allM]at h;subst h;simp
 |o::l,vl,j,h=>by
  simp only[allM,Option.bind_eq_bind,Option.bind_eq_some_iff,Option.pure_def,Option.some.injEq]at h
  obtain⟨vo,oL,rX,qS,rfl⟩:=h
  obtain⟨h1,h2⟩:=ns qS
  refine⟨by simp[h1],fun i o' hi=>?_⟩
  cases i with
  |zero=>simp at hi;subst hi;exact⟨vo,rfl,oL⟩
  |succ i=>
   simp at hi
   obtain⟨q,hq,hf⟩:=h2 i o' hi
   exact⟨q,by simpa using hq,by rw[<-hf];congr 1;omega⟩
theorem wu {ops:Array Oper} {vl:List aT} {nt site0:Nat} {draw mk:Bool} {bs:Array Nat} {hidden:List (Nat×Bool)} {n:Nat} {K:Env->Rows->Prop} {Q:Exit->Act->World->Prop} (dy:allM (j9 P ops nt site0 draw mk bs hidden) ops.toList 0=some vl):
  ∀(fuel:Nat) (listed:Array Bool) (env:Env) (g:Rows) (a:Act) (w:World) (D:Nat->Prop) (ι:Names) (U:Nat->Prop),Ir (Sound P) n ops vl K fuel listed env g->fR P hs D ι g w->Used ι n U->(∀s,U s->∃i,s=site0+i/\listed.getD i false=true)->bJ P w D ι env a->a.tmps.size=nt->
  (∀ik g' a' w' D' ι' U',K ik g'->Step hs D ι w D' ι' w'->fR P hs D' ι' g' w'->Used ι' n U'->bJ P w' D' ι' ik a'->a'.tmps.size=nt->a'.defers=a.defers->Q .normal a' w')->wpAny P .any ops Q fuel listed a w:=by
 intro fuel
 induction fuel with
 |zero=>intro listed env g a w D ι U h S Us hU E eW hQ;exact⟨h.1,hQ env g a w D ι U h.2 (Step.refl _ _ _ _) S Us E eW rfl⟩
 |succ fuel ih=>
  intro listed env g a w D ι U h S Us hU E eW hQ
  refine⟨fun hr=>hQ env g a w D ι U (h.1 hr) (Step.refl _ _ _ _) S Us E eW rfl,fun i hi=>?_⟩
  obtain⟨vo,oL,v,g',hG,KM⟩:=h.2 i hi
  obtain⟨_,o,ho,_⟩:=mem_ready.1 hi
  obtain⟨vo',lG,Ol⟩:=(ns dy).2 i o (by simpa using ho)
  rw[oL]at lG;injection lG with lG;subst lG
  rw[Nat.zero_add]at Ol
  obtain⟨hc,hd,Ad,vQ,hg⟩:=oc Ol
  have hw:=rY (ops:=ops) (vo:=vo) E hg
  have Rs:¬U vo.site:=fun hu=>by
   obtain⟨i',he,hl⟩:=hU _ hu
   have:i'=i:=by omega
   subst this
   rw[iK hi]at hl;cases hl
  have jf:i<listed.size:=by
   have h0:=(mem_ready.1 hi).1
   rcases Nat.lt_or_ge i listed.size with h|h
   ·exact h
   ·simp[Array.getElem?_eq_none h]at h0
  unfold wpOp
  simp only[ho]
  rw[<-hw]
  unfold GS at hG
  by_cases EH:aH vo.guard env=true
  ·rw[if_pos EH]
   rw[if_pos EH]at hG
   refine .inl (zt hc hG S Us Rs E fun a' w' ⟨u,D',ι',ha,T,S',hR,U'⟩=>?_)
   subst ha
   refine ih _ _ _ _ w' D' ι' _ KM S' U' (fun s Aa=>?_) (by rw[hd];exact gV (nA E T) hR vQ eW) (by rw[eO];exact eW) fun ik g2 a2 w2 D2 ι2 U2 hk T2 S2 QV E2 lu BT=>hQ ik g2 a2 w2 D2 ι2 U2 hk (T.trans T2) S2 QV E2 lu (BT.trans (put_defers _ _ _))
   rcases Aa with h|h
   ·obtain⟨i',he,hl⟩:=hU _ h
    exact⟨i',he,getD_set_true hl⟩
   ·exact⟨i,by rw[h,Ad],by simp[jf]⟩
  ·rw[if_neg EH]
   rw[if_neg EH]at hG
   obtain⟨rfl,rfl⟩:=hG
   refine ih _ _ _ _ w D ι U KM S Us (fun s Aa=>?_) (by rw[hd];exact gV E cu.undef vQ eW) (by rw[eO];exact eW) fun ik g2 a2 w2 D2 ι2 U2 hk T2 S2 QV E2 lu BT=>hQ ik g2 a2 w2 D2 ι2 U2 hk T2 S2 QV E2 lu (BT.trans (put_defers _ _ _))
   obtain⟨i',he,hl⟩:=hU _ Aa
   exact⟨i',he,getD_set_true hl⟩
end
end Go.Proofs.YtgoelphibofcmaaGreat.V

namespace Go.Proofs.YtgoelphibofcmaaGreat.V
open Go.RowKit
variable {P:Program} {w w':World} {D D' D2:Nat->Prop} {ι ι' ι2:Names}
section
variable {hs:Nat} {X:fq}
def oN (X:fq):Prop:=∀f args σ K K',(∀r σ',K r σ'->K' r σ')->X f args σ K->X f args σ K'
theorem j8:oN (Sound P):=fun _ _ _ _ _ hK h hs D ι w vs S U A=>
 (h hs D ι w vs S U A).mono fun _ _ ⟨r,g',n',D',ι',u,he,hk,rest⟩=>⟨r,g',n',D',ι',u,he,hK _ _ hk,rest⟩
def step (X:fq) (vo:aT) (N:Env->ar->Prop) (env:Env) (σ:ar):Prop:=
 if aH vo.guard env then fC X false vo env σ fun v σ'=>N (upd env vo.dst v) σ' else N (upd env vo.dst .undef) σ
theorem pb (hK:oN X) {draw:Bool} {hid:List Nat} {site f:Nat} {args:List AV} {σ:ar} {n n':AV->ar->Prop} (hn:∀v σ',n v σ'->n' v σ') (hp:cE X draw hid site f args σ n):cE X draw hid site f args σ n':=by
 rcases hp with⟨r,h1,h2⟩|⟨h1,h2⟩|⟨h1,sz,rows,h2,h3⟩
 ·exact .inl ⟨r,h1,hn _ _ h2⟩
 ·exact .inr (.inl ⟨h1,hK _ _ _ _ _ hn h2⟩)
 ·exact .inr (.inr ⟨h1,sz,rows,h2,hn _ _ h3⟩)
theorem AZ (hK:oN X) {draw:Bool} {o:aT} {env:Env} {σ:ar} {n n':AV->ar->Prop} (hn:∀v σ',n v σ'->n' v σ') (hp:fC X draw o env σ n):fC X draw o env σ n':=by
 unfold fC at hp ⊢
 split at hp
 ·exact pb hK hn hp
 ·split at hp
  ·exact pb hK hn hp
  ·exact pb hK hn hp
  ·exact hp.elim
 ·split at hp
  ·exact hn _ _ hp
  ·exact hp.elim
 ·split at hp
  ·exact hn _ _ hp
  ·exact hp.elim
 ·split at hp
  ·exact hn _ _ hp
  ·exact hp.elim
 ·split at hp
  ·exact hn _ _ hp
  ·exact hp.elim
 ·split at hp
  ·exact hn _ _ hp
  ·exact hp.elim
 ·split at hp
  ·exact hn _ _ hp
  ·exact hn _ _ hp
  ·exact hp.elim
theorem jy (hK:oN X) {vo:aT} {N N':Env->ar->Prop} (h:∀e s,N e s->N' e s) {env:Env} {σ:ar} (hp:step X vo N env σ):step X vo N' env σ:=by
 unfold step at hp ⊢
 split at hp
 ·rename_i hw;rw[if_pos hw];exact AZ hK (fun v σ'=>h _ _) hp
 ·rename_i hw;rw[if_neg hw];exact h _ _ hp
theorem FD {env iz:Env} {vo:aT} {σ:ar} {n:AV->ar->Prop} (h:∀t∈vo.op.gm,env t=iz t) (hv:fC X false vo env σ n):fC X false vo iz σ n:=by
 unfold fC at hv ⊢
 split at hv
 ·rename_i f args dP
  rw[dP]at h
  simp only[fX.gm]at h
  rw[<-map_congr h];exact hv
 ·rename_i x args dP
  rw[dP]at h
  simp only[fX.gm,List.mem_append]at h
  rw[<-map_congr (l:=args) fun t ht=>h t (.inr ht),<-aV (x:=x) fun t ht=>h t (.inl ht)];exact hv
 ·rw[<-gH h];exact hv
 ·rw[<-gH h];exact hv
 ·rw[<-gH h];exact hv
 ·rw[<-gH h];exact hv
 ·rw[<-gH h];exact hv
 ·rw[<-rO h];exact hv
theorem k6 {x:aT} (hq:km x=true) {N:Env->ar->Prop} {env:Env} {σ:ar}:step X x N env σ↔∃v g',GS X σ.next x env σ.get v g'/\N (upd env x.dst v) ⟨g',σ.next⟩:=by
 unfold km at hq
 simp only[Bool.and_eq_true,Bool.not_eq_true',bne_iff_ne]at hq
 obtain⟨hq1,Jz⟩:=hq
 unfold step GS
 by_cases hw:aH x.guard env=true
 ·rw[if_pos hw]
  simp only[hw,if_true]
  unfold fC
  split
  ·rename_i dP;simp[dP,fX.lg]at hq1
  ·rename_i dP;simp[dP,fX.lg]at hq1
  ·rename_i dP;simp[dP,fX.cls]at Jz
  ·rename_i dP;simp[dP,fX.cls]at Jz
  ·rename_i dP;simp[dP,fX.cls]at Jz
  ·rename_i dP;simp[dP,fX.cls]at Jz
  ·rename_i dP;simp[dP,fX.cls]at Jz
  ·rename_i n1 n2 n3 n4 n5 n6 n7
   have hVS:∀v g',VS X σ.next x env σ.get v g'↔∃mr,eG x.op (cF env) (fV x.hid σ.next σ.get) ⟨x.site,σ.next⟩=some (v,mr)/\g'=iR σ.get ⟨x.site,σ.next⟩ mr:=fun v g'=>by
    unfold VS
    split
    ·rename_i hh;exact(n1 _ _ hh).elim
    ·rename_i hh;exact(n2 _ _ hh).elim
    ·rename_i hh;exact(n3 _ _ _ hh).elim
    ·rename_i hh;exact(n4 _ _ _ hh).elim
    ·rename_i hh;exact(n5 _ _ _ hh).elim
    ·rename_i hh;exact(n6 _ _ hh).elim
    ·rename_i hh;exact(n7 _ _ hh).elim
    ·exact Iff.rfl
   simp only[hVS]
   cases hz:eG x.op (cF env) (fV x.hid σ.next σ.get) ⟨x.site,σ.next⟩with
   |none=>
    exact⟨fun h=>h.elim,fun⟨v,g',⟨mr,h,_⟩,_⟩=>by cases h⟩
   |some p=>
    obtain⟨v,mr⟩:=p
    have key:∀(v':AV) (g':Rows),(∃NN,some (v,mr)=some (v',NN)/\g'=iR σ.get ⟨x.site,σ.next⟩ NN)↔v'=v/\g'=iR σ.get ⟨x.site,σ.next⟩ mr:=fun v' g'=>by
     constructor
     ·rintro⟨NN,h1,h2⟩
      injection h1 with h1;injection h1 with h1 h3
      subst h1;subst h3
      exact⟨rfl,h2⟩
     ·rintro⟨rfl,rfl⟩;exact⟨mr,rfl,rfl⟩
    have fin:(∃v' g',(∃NN,some (v,mr)=some (v',NN)/\g'=iR σ.get ⟨x.site,σ.next⟩ NN)/\N (upd env x.dst v') ⟨g',σ.next⟩)↔N (upd env x.dst v) ⟨iR σ.get ⟨x.site,σ.next⟩ mr,σ.next⟩:=by
     constructor
     ·rintro⟨v',g',h,hN⟩
      obtain⟨rfl,rfl⟩:=(key v' g').1 h
      exact hN
     ·intro hN;exact⟨v,_,(key _ _).2 ⟨rfl,rfl⟩,hN⟩
    cases mr with
    |none=>exact fin.symm
    |some r=>exact fin.symm
 ·rw[if_neg hw]
  simp only[if_neg hw]
  exact⟨fun h=>⟨_,_,⟨rfl,rfl⟩,h⟩,fun⟨v,g',⟨hv,hg⟩,h⟩=>by rw[hv,hg]at h;exact h⟩
def xv (x:aT) (env:Env) (v:AV):Prop:=if aH x.guard env then eG x.op (cF env) (fun _=>none) ⟨0,0⟩=some (v,none)else v=.undef
theorem uG {x:aT} (hp:x.op.cls=.pure):km x=true:=by
 unfold km
 rw[hp]
 cases hc:x.op<;>simp[hc,fX.cls]at hp<;>rfl
theorem rS {x:aT} (hp:x.op.cls=.pure) {N:Env->ar->Prop} {env:Env} {σ:ar}:step X x N env σ↔∃v,xv x env v/\N (upd env x.dst v) σ:=by
 rw[k6 (uG hp)]
 unfold GS xv
 by_cases hw:aH x.guard env=true
 ·simp only[hw,if_true]
  constructor
  ·rintro⟨v,g',h,hN⟩
   obtain⟨rfl,dy⟩:=xN hp h
   refine⟨v,?_,hN⟩
   unfold VS at h
   split at h
   ·rename_i dP;rw[dP]at hp;simp[fX.cls]at hp
   ·rename_i dP;rw[dP]at hp;simp[fX.cls]at hp
   ·rename_i dP;rw[dP]at hp;simp[fX.cls]at hp
   ·rename_i dP;rw[dP]at hp;simp[fX.cls]at hp
   ·rename_i dP;rw[dP]at hp;simp[fX.cls]at hp
   ·rename_i dP;rw[dP]at hp;simp[fX.cls]at hp
   ·rename_i dP;rw[dP]at hp;simp[fX.cls]at hp
   ·obtain⟨mr,hq,_⟩:=h
    have RX:mr=none:=by
     cases mr with
     |none=>rfl
     |some r=>have:=uH hq;simp[pE,hp]at this
    subst RX
    rw[<-uI (g:=fV x.hid σ.next σ.get) (id:=⟨x.site,σ.next⟩) hp];exact hq
  ·rintro⟨v,h,hN⟩
   exact⟨v,σ.get,Lh (mr:=none) (by rw[uI (g2:=fun _=>none) (id2:=⟨0,0⟩) hp];exact h),hN⟩
 ·simp only[if_neg hw]
  exact⟨fun⟨v,g',⟨hv,hg⟩,h⟩=>⟨v,hv,by rw[hg]at h;exact h⟩,fun⟨v,hv,h⟩=>⟨v,σ.get,⟨hv,rfl⟩,h⟩⟩
theorem Iy {x:aT} {env iz:Env} {v:AV} (h:∀t∈x.gm,env t=iz t) (hv:xv x env v):xv x iz v:=by
 unfold xv at hv ⊢
 rw[<-mh h,<-rO fun t ht=>h t (qE ht)];exact hv
structure Kp (x y:aT):Prop where
 xy:∀k,x.dst=some k->k∉y.gm
 yx:∀k,y.dst=some k->k∉x.gm
 dst:∀k,x.dst=some k->y.dst≠some k
theorem qJ {x y:aT} (h:rW x y=true):Kp x y:=by
 unfold rW at h
 simp only[Bool.and_eq_true]at h
 obtain⟨a1,a2⟩:=h
 refine⟨fun k hk=>?_,fun k hk=>?_,fun k hk=>?_⟩
 ·rw[hk]at a1;simp at a1;exact a1.1
 ·rw[hk]at a2;simpa using a2
 ·rw[hk]at a1;simp at a1;exact a1.2
theorem wO {x y:aT} (h:wN x y=true):(Kp x y/\x.op.cls=.pure)∨(Bj x y/\km x=true/\km y=true):=by
 unfold wN at h
 simp only[Bool.or_eq_true,Bool.and_eq_true,beq_iff_eq]at h
 rcases h with⟨h1,h2⟩|⟨⟨h1,h2⟩,h3⟩
 ·exact .inl ⟨qJ h1,h2⟩
 ·exact .inr ⟨pf h1,h2,h3⟩
theorem zQ {x y:aT} (h:wN x y=true):km x=true:=by
 rcases wO h with h|h
 ·exact uG h.2
 ·exact h.2.1
theorem Fo (hK:oN X) {x y:aT} (hf:wN x y=true) {N:Env->ar->Prop} {env:Env} {σ:ar} (h:step X x (fun e s=>step X y N e s) env σ):step X y (fun e s=>step X x N e s) env σ:=by
 rcases wO hf with⟨F,hp⟩|⟨F,hx,hy⟩
 ·rw[rS hp]at h
  obtain⟨v,hx,h⟩:=h
  have KP:=fun(v':AV)=>vg (env:=env) (v:=v) (u:=v') F.dst
  have Be:=lQ (env:=env) (v:=v) F.xy
  have back:∀(v':AV),xv x (upd env y.dst v') v:=fun v'=>Iy (fun t ht=>(lQ F.yx t ht).symm) hx
  unfold step at h ⊢
  rw[mh Be]at h
  split at h
  ·rename_i hw
   rw[if_pos hw]
   refine AZ hK (fun v' σ' hN=>?_) (FD (fun t ht=>Be t (qE ht)) h)
   rw[KP]at hN
   exact(rS hp).2 ⟨v,back v',hN⟩
  ·rename_i hw
   rw[if_neg hw]
   rw[KP]at h
   exact(rS hp).2 ⟨v,back _,h⟩
 ·rw[k6 hx]at h
  obtain⟨v,g1,h1,h⟩:=h
  rw[k6 hy]at h
  obtain⟨v',g2,h2,h⟩:=h
  obtain⟨Je,q1,q2,q3⟩:=CZ F h1 h2
  rw[q3]at h
  exact(k6 hy).2 ⟨v',Je,q1,(k6 hx).2 ⟨v,g2,q2,h⟩⟩
def y6 (X:fq) (ops:Array Oper) (vl:List aT) (K:Env->ar->Prop):Nat->Array Bool->Env->ar->Prop
 |0,listed,env,σ=>Region.ready .any ops listed=[]/\K env ⟨σ.get,σ.next+1⟩
 |f+1,listed,env,σ=>(Region.ready .any ops listed=[]->K env ⟨σ.get,σ.next+1⟩)/\∀i∈Region.ready .any ops listed,∃vo,vl[i]? =some vo/\step X vo (fun e s=>y6 X ops vl K f (listed.setIfInBounds i true) e s) env σ
theorem BI {ops:Array Oper} {vl:List aT} {bs:Array Nat} {listed:Array Bool} {i:Nat} (h:pe ops vl bs listed i=true) (j:Nat):pe ops vl bs (listed.setIfInBounds j true) i=true:=by
 unfold pe at h ⊢
 split at h
 ·rename_i x hx
  simp only[List.all_eq_true,Bool.or_eq_true]at h ⊢
  intro k hk
  rcases h k hk with((h|h)|h)|h
  ·exact .inl (.inl (.inl (getD_set_true h)))
  ·exact .inl (.inl (.inr h))
  ·exact .inl (.inr h)
  ·exact .inr h
 ·cases h
theorem sf {ops:Array Oper} {vl:List aT} {listed:Array Bool} {i j:Nat} {vi:aT} (qP:DC ops listed) (h:pe ops vl (je ops) listed i=true) (hi:vl[i]? =some vi) (hr:i∈Region.ready .any ops listed) (hj:j∈Region.ready .any ops listed) (lT:j≠i):∃vj,vl[j]? =some vj/\wN vi vj=true:=by
 unfold pe at h
 rw[hi]at h
 simp only[List.all_eq_true,Bool.or_eq_true,beq_iff_eq]at h
 obtain⟨_,o,ho,_⟩:=mem_ready.1 hj
 rcases h j (List.mem_range.2 (Array.getElem?_eq_some_iff.1 ho).1)with((h|h)|h)|h
 ·rw[iK hj]at h;cases h
 ·exact absurd h lT
 ·have:=kn qP hj i h
  rw[iK hr]at this;cases this
 ·split at h
  ·rename_i y hy;exact⟨y,hy,h⟩
  ·cases h
theorem CY (hK:oN X) {ops:Array Oper} {vl:List aT} {K:Env->ar->Prop} {i:Nat} {vi:aT} (hi:vl[i]? =some vi):∀(fuel:Nat) (listed:Array Bool) (env:Env) (σ:ar),
  DC ops listed->i∈Region.ready .any ops listed->pe ops vl (je ops) listed i=true->step X vi (fun e s=>y6 X ops vl K fuel (listed.setIfInBounds i true) e s) env σ->y6 X ops vl K (fuel+1) listed env σ:=by
 intro fuel
 induction fuel with
 |zero=>
  intro listed env σ qP hr js H
  refine⟨fun h=>(by rw[h]at hr;cases hr),fun j hj=>?_⟩
  by_cases lT:j=i
  ·subst lT;exact⟨vi,hi,H⟩
  ·obtain⟨vj,JD,Oz⟩:=sf qP js hi hr hj lT
   rw[k6 (zQ Oz)]at H
   obtain⟨v,g',_,H⟩:=H
   have:=ready_mono hj lT
   rw[H.1]at this;cases this
 |succ fuel ih=>
  intro listed env σ qP hr js H
  refine⟨fun h=>(by rw[h]at hr;cases hr),fun j hj=>?_⟩
  by_cases lT:j=i
  ·subst lT;exact⟨vi,hi,H⟩
  ·obtain⟨vj,JD,Oz⟩:=sf qP js hi hr hj lT
   refine⟨vj,JD,?_⟩
   have H2:step X vi (fun e s=>step X vj (fun e s=>y6 X ops vl K fuel ((listed.setIfInBounds i true).setIfInBounds j true) e s) e s) env σ:=jy hK (fun e s h=>by
    obtain⟨vj',yk,h'⟩:=h.2 j (ready_mono hj lT)
    rw[JD]at yk;injection yk with yk;subst yk
    exact h') H
   refine jy hK (fun e s h=>?_) (Fo hK Oz H2)
   refine ih _ _ _ (qP.list hj) (ready_mono hr (fun e=>lT e.symm)) (BI js j) ?_
   rw[Array.setIfInBounds_comm _ _ lT]
   exact h
theorem rR {x:aT} (hg:x.guard=none) {N:Env->ar->Prop} {env:Env} {σ:ar}:step X x N env σ=fC X false x env σ (fun v σ'=>N (upd env x.dst v) σ'):=by
 unfold step
 rw[hg]
 simp[aH]
theorem CG {x y:aT} {t s sz:Nat} {ys:O} (hx:x.op=.append sz (.t t) ys) (hg:x.guard=none) (hf:Dg s x y=true) {N:Env->ar->Prop} {env:Env} {σ:ar} (hl:JO t s ys env σ.next) (h:step X x (fun e s=>step X y N e s) env σ):
  step X y (fun e σ'=>JO t s ys e σ'.next/\step X x N e σ') env σ:=by
 unfold Dg at hf
 simp only[Bool.and_eq_true,bne_iff_ne]at hf
 obtain⟨⟨⟨⟨⟨f1,hq⟩,f3⟩,f4⟩,f5⟩,f6⟩:=hf
 have F:=qJ f1
 obtain⟨⟨len,ht⟩,hsrc⟩:=hl
 have Ha:∀k∈x.op.gm,∀v',upd env y.dst v' k=env k:=fun k hk v'=>lQ (env:=env) (v:=v') F.yx k (qE hk)
 have dv:t∈x.op.gm:=by rw[hx];simp[fX.gm,gE]
 have Dw:∀v',cF (upd env y.dst v') ys=cF env ys:=fun v'=>(aV fun k hk=>by rw[Ha k (by rw[hx];simp[fX.gm,hk])]).symm
 rw[rR hg]at h
 unfold fC at h
 simp only[hx,fW]at h
 have ex:cF env (.t t)=.own ⟨s,σ.next⟩ 0 len:=ht
 rw[ex]at h
 cases hr:bl σ.get (cF env ys)with
 |none=>rw[hr]at h;exact h.elim
 |some rs=>
  rw[hr]at h
  simp only[Option.bind_some,aP]at h
  cases hgs:σ.get ⟨s,σ.next⟩with
  |none=>rw[hgs]at h;exact h.elim
  |some r=>
   rw[hgs]at h
   simp only[Option.bind_some]at h
   split at h
   ·rename_i v g1 hv
    split at hv
    ·rename_i hcond
     simp only[Option.some.injEq,Prod.mk.injEq]at hv
     obtain⟨rfl,rfl⟩:=hv
     rw[k6 hq]at h
     obtain⟨v',g2,hG,hN⟩:=h
     have Jr:(⟨y.site,σ.next⟩:Id)≠⟨s,σ.next⟩:=fun e=>f5 (by injection e)
     have GZ:(⟨y.site,σ.next⟩:Id)≠⟨x.site,σ.next⟩:=fun e=>f6 (by injection e)
     replace hG:GS X σ.next y env (bj (bY σ.get ⟨s,σ.next⟩) ⟨x.site,σ.next⟩ ⟨true,sz,r.rows++rs⟩) v' g2:=tz (lQ F.xy) hG
     have Sr:fV y.hid σ.next σ.get=fV y.hid σ.next (bj (bY σ.get ⟨s,σ.next⟩) ⟨x.site,σ.next⟩ ⟨true,sz,r.rows++rs⟩):=by
      cases hh:y.hid with
      |nil=>rw[hh]at f3;simp at f3
      |cons a l=>
       rw[hh]at f3 f4
       funext i
       show(if (a::l).contains i.site=true/\i.bQ=σ.next then none else σ.get i)=if (a::l).contains i.site=true/\i.bQ=σ.next then none else _
       by_cases h1:i=⟨x.site,σ.next⟩
       ·subst h1;rw[if_pos ⟨f4,rfl⟩,if_pos ⟨f4,rfl⟩]
       ·by_cases h2:i=⟨s,σ.next⟩
        ·subst h2;rw[if_pos ⟨f3,rfl⟩,if_pos ⟨f3,rfl⟩]
        ·simp only[bj,bY,if_neg h1,if_neg h2]
     obtain⟨my,RK,hG'⟩:∃my,g2=iR (bj (bY σ.get ⟨s,σ.next⟩) ⟨x.site,σ.next⟩ ⟨true,sz,r.rows++rs⟩) ⟨y.site,σ.next⟩ my/\GS X σ.next y env σ.get v' (iR σ.get ⟨y.site,σ.next⟩ my):=by
      unfold GS at hG ⊢
      by_cases wy:aH y.guard env=true
      ·rw[if_pos wy]at hG
       have hcw:y.op.cls≠.write:=by
        unfold km at hq
        simp only[Bool.and_eq_true,bne_iff_ne]at hq
        exact hq.2
       obtain⟨my,rfl,_,Lk⟩:=tD hcw hG
       exact⟨my,rfl,by rw[if_pos wy];exact Lk _ Sr⟩
      ·rw[if_neg wy]at hG
       obtain⟨rfl,rfl⟩:=hG
       exact⟨none,rfl,by rw[if_neg wy];exact⟨rfl,rfl⟩⟩
     subst RK
     refine(k6 hq).2 ⟨v',_,hG',⟨⟨len,by rw[Ha t dv];exact ht⟩,fun id o l he=>hsrc id o l (by rw[<-Dw v'];exact he)⟩,?_⟩
     rw[rR hg]
     unfold fC
     have ex':cF (upd env y.dst v') (.t t)=.own ⟨s,σ.next⟩ 0 len:=by
      show upd env y.dst v' t= _
      rw[Ha t dv];exact ht
     simp only[hx,fW,ex',Dw v']
     have mY:bl (iR σ.get ⟨y.site,σ.next⟩ my) (cF env ys)=some rs:=by
      cases my with
      |none=>exact hr
      |some row=>
       revert hr
       cases hev:cF env ys<;>simp only[bl,iR]<;>try exact fun h=>h
       rename_i id o l
       have:id≠⟨y.site,σ.next⟩:=fun e=>hsrc id o l hev (by rw[e])
       simp only[bj,if_neg this];exact fun h=>h
     have RM:iR σ.get ⟨y.site,σ.next⟩ my ⟨s,σ.next⟩=some r:=by
      cases my with
      |none=>exact hgs
      |some row=>simp only[iR,bj,if_neg (fun e=>Jr e.symm:(⟨s,σ.next⟩:Id)≠⟨y.site,σ.next⟩)];exact hgs
     rw[mY]
     simp only[Option.bind_some,aP,RM]
     rw[if_pos hcond]
     have hgg:bj (bY (iR σ.get ⟨y.site,σ.next⟩ my) ⟨s,σ.next⟩) ⟨x.site,σ.next⟩ ⟨true,sz,r.rows++rs⟩=iR (bj (bY σ.get ⟨s,σ.next⟩) ⟨x.site,σ.next⟩ ⟨true,sz,r.rows++rs⟩) ⟨y.site,σ.next⟩ my:=by
      cases my with
      |none=>rfl
      |some row=>
       funext i
       simp only[iR,bj,bY]
       by_cases h1:i=⟨y.site,σ.next⟩
       ·subst h1;rw[if_neg GZ,if_neg Jr,if_pos rfl,if_pos rfl]
       ·simp only[if_neg h1]
     have hu:=vg (env:=env) (v:=AV.own ⟨x.site,σ.next⟩ 0 (len+rs.length)) (u:=v') F.dst
     show N (upd (upd env y.dst v') x.dst (.own ⟨x.site,σ.next⟩ 0 (len+rs.length))) ⟨bj (bY (iR σ.get ⟨y.site,σ.next⟩ my) ⟨s,σ.next⟩) ⟨x.site,σ.next⟩ ⟨true,sz,r.rows++rs⟩,σ.next⟩
     rw[hgg,<-hu]
     exact hN
    ·cases hv
   ·exact h.elim
theorem BH {ops:Array Oper} {vl:List aT} {bs:Array Nat} {listed:Array Bool} {i s:Nat} (h:nB ops vl bs listed i s=true) (j:Nat):nB ops vl bs (listed.setIfInBounds j true) i s=true:=by
 unfold nB at h ⊢
 split at h
 ·rename_i x hx
  simp only[List.all_eq_true,Bool.or_eq_true]at h ⊢
  intro k hk
  rcases h k hk with((h|h)|h)|h
  ·exact .inl (.inl (.inl (getD_set_true h)))
  ·exact .inl (.inl (.inr h))
  ·exact .inl (.inr h)
  ·exact .inr h
 ·cases h
theorem zO {ops:Array Oper} {vl:List aT} {listed:Array Bool} {i j s:Nat} {vi:aT} (qP:DC ops listed) (h:nB ops vl (je ops) listed i s=true) (hi:vl[i]? =some vi) (hr:i∈Region.ready .any ops listed) (hj:j∈Region.ready .any ops listed) (lT:j≠i):∃vj,vl[j]? =some vj/\Dg s vi vj=true:=by
 unfold nB at h
 rw[hi]at h
 simp only[List.all_eq_true,Bool.or_eq_true,beq_iff_eq]at h
 obtain⟨_,o,ho,_⟩:=mem_ready.1 hj
 rcases h j (List.mem_range.2 (Array.getElem?_eq_some_iff.1 ho).1)with((h|h)|h)|h
 ·rw[iK hj]at h;cases h
 ·exact absurd h lT
 ·have:=kn qP hj i h
  rw[iK hr]at this;cases this
 ·split at h
  ·rename_i y hy;exact⟨y,hy,h⟩
  ·cases h
theorem A4 (hK:oN X) {ops:Array Oper} {vl:List aT} {K:Env->ar->Prop} {i t s sz:Nat} {ys:O} {vi:aT} (hi:vl[i]? =some vi) (hx:vi.op=.append sz (.t t) ys) (hg:vi.guard=none):∀(fuel:Nat) (listed:Array Bool) (env:Env) (σ:ar),
  DC ops listed->i∈Region.ready .any ops listed->nB ops vl (je ops) listed i s=true->JO t s ys env σ.next->step X vi (fun e s=>y6 X ops vl K fuel (listed.setIfInBounds i true) e s) env σ->y6 X ops vl K (fuel+1) listed env σ:=by
 intro fuel
 induction fuel with
 |zero=>
  intro listed env σ qP hr js Nw H
  refine⟨fun h=>(by rw[h]at hr;cases hr),fun j hj=>?_⟩
  by_cases lT:j=i
  ·subst lT;exact⟨vi,hi,H⟩
  ·exfalso
   have h0:=ready_mono hj lT
   rw[rR hg]at H
   unfold fC at H
   simp only[hx]at H
   split at H
   ·rw[H.1]at h0;cases h0
   ·exact H
 |succ fuel ih=>
  intro listed env σ qP hr js Nw H
  refine⟨fun h=>(by rw[h]at hr;cases hr),fun j hj=>?_⟩
  by_cases lT:j=i
  ·subst lT;exact⟨vi,hi,H⟩
  ·obtain⟨vj,JD,Oz⟩:=zO qP js hi hr hj lT
   refine⟨vj,JD,?_⟩
   have H2:step X vi (fun e s=>step X vj (fun e s=>y6 X ops vl K fuel ((listed.setIfInBounds i true).setIfInBounds j true) e s) e s) env σ:=jy hK (fun e s h=>by
    obtain⟨vj',yk,h'⟩:=h.2 j (ready_mono hj lT)
    rw[JD]at yk;injection yk with yk;subst yk
    exact h') H
   refine jy hK (fun e s h=>?_) (CG hx hg Oz Nw H2)
   refine ih _ _ _ (qP.list hj) (ready_mono hr (fun e=>lT e.symm)) (BH js j) h.1 ?_
   rw[Array.setIfInBounds_comm _ _ lT]
   exact h.2
theorem Hr {ops:Array Oper} {vl:List aT} {bs:Array Nat} {listed:Array Bool} {i i' t s:Nat} {y:O} {vo:aT} (h:Ms ops vl bs listed i=some (i',t,s,y,vo)):i'=i/\vl[i]? =some vo/\(∃sz,vo.op=.append sz (.t t) y)/\vo.guard=none/\nB ops vl bs listed i s=true:=by
 unfold Ms at h
 split at h
 ·rename_i x hx
  split at h
  ·rename_i t' s' y' jS
   split at h
   ·rename_i hf
    simp only[Option.some.injEq,Prod.mk.injEq]at h
    obtain⟨rfl,rfl,rfl,rfl,rfl⟩:=h
    unfold KW at jS
    split at jS
    ·rename_i sz t2 y2 ho te
     split at jS
     ·simp only[Option.some.injEq,Prod.mk.injEq]at jS
      obtain⟨rfl,rfl,rfl⟩:=jS
      exact⟨rfl,hx,⟨sz,ho⟩,te,hf⟩
     ·cases jS
    ·cases jS
   ·cases h
  ·cases h
 ·cases h
theorem wE {X:fq} {Q:Ex->Env->ar->Prop} {env:Env} {σ:ar}:∀{l:List VC} {t:VC},zC l=some t->dx X t Q env σ->∀c∈l,dx X c Q env σ
 |[],t,h,_,c,hc=>by cases hc
 |[c0],t,h,hw,c,hc=>by
  simp only[zC,Option.some.injEq]at h
  subst h
  rw[List.mem_singleton]at hc
  subst hc;exact hw
 |c0::c1::r,t,h,hw,c,hc=>by
  simp only[zC,Option.map_eq_some_iff]at h
  obtain⟨t',FN,rfl⟩:=h
  rcases List.mem_cons.1 hc with rfl|hc
  ·exact hw.1
  ·exact wE FN hw.2 c hc
theorem mapM_mem {α β:Type} {f:α->Option β}:∀{l:List α} {r:List β},l.mapM f=some r->∀i∈l,∃b∈r,f i=some b
 |[],_,_,i,hi=>by cases hi
 |a::l,r,h,i,hi=>by
  simp only[List.mapM_cons,Option.bind_eq_bind,Option.bind_eq_some_iff,Option.pure_def,Option.some.injEq]at h
  obtain⟨b,hb,r',hr,rfl⟩:=h
  rcases List.mem_cons.1 hi with rfl|hi
  ·exact⟨b,by simp,hb⟩
  ·obtain⟨c,hc,hf⟩:=mapM_mem hr i hi
   exact⟨c,List.mem_cons_of_mem _ hc,hf⟩
theorem FA (hK:oN X) {ops:Array Oper} {vl:List aT} {Q:Ex->Env->ar->Prop}:∀(n:Nat) (listed:Array Bool) (t:VC) (env:Env) (σ:ar),ve ops vl (je ops) n listed=some t->DC ops listed->dx X t Q env σ->y6 X ops vl (Q .normal) n listed env σ:=by
 intro n
 induction n with
 |zero=>
  intro listed t env σ h _ hw
  unfold ve at h
  split at h
  ·rename_i hr
   simp only[Option.some.injEq]at h
   subst h
   exact⟨hr,hw⟩
  ·cases h
 |succ n ih=>
  intro listed t env σ h qP hw
  unfold ve at h
  split at h
  ·rename_i hr
   simp only[Option.some.injEq]at h
   subst h
   exact⟨fun _=>hw,fun i hi=>by rw[hr]at hi;cases hi⟩
  ·rename_i r rs hr
   dsimp only at h
   split at h
   ·rename_i i hfind
    have Jn:=List.mem_of_find?_eq_some hfind
    have wP:=List.find?_some hfind
    rw[<-hr]at Jn
    split at h
    ·rename_i vo oL
     simp only[Option.map_eq_some_iff]at h
     obtain⟨t',FN,rfl⟩:=h
     exact CY hK oL n listed env σ qP Jn wP (jy hK (fun e s h=>ih _ _ _ _ FN (qP.list Jn) h) hw)
    ·cases h
   ·split at h
    ·rename_i i t s y vo hfind
     obtain⟨i0,FJ,dE⟩:=List.exists_of_findSome?_eq_some hfind
     obtain⟨rfl,oL,⟨sz,dP⟩,te,Jl⟩:=Hr dE
     rw[<-hr]at FJ
     simp only[Option.map_eq_some_iff]at h
     obtain⟨t',FN,rfl⟩:=h
     exact A4 hK oL dP te n listed env σ qP FJ Jl hw.1 (jy hK (fun e s h=>ih _ _ _ _ FN (qP.list FJ) h) hw.2)
    split at h
    ·rename_i l hl
     have dy:=wE h hw
     refine⟨fun h=>(by rw[h]at hr;cases hr),fun i hi=>?_⟩
     rw[hr]at hi
     obtain⟨b,KC,GK⟩:=mapM_mem hl i hi
     simp only[Option.bind_eq_some_iff,Option.map_eq_some_iff]at GK
     obtain⟨vo,oL,t',FN,rfl⟩:=GK
     exact⟨vo,oL,jy hK (fun e s h=>ih _ _ _ _ FN (qP.list (by rw[hr];exact hi)) h) (dy _ KC)⟩
    ·cases h
theorem CU {ops:Array Oper} {vl:List aT} {nt site0:Nat} {draw mk:Bool} {bs:Array Nat} {hidden:List (Nat×Bool)} {K:Env->ar->Prop} {Q:Exit->Act->World->Prop} (dy:allM (j9 P ops nt site0 draw mk bs hidden) ops.toList 0=some vl):
  ∀(fuel:Nat) (listed:Array Bool) (env:Env) (σ:ar) (a:Act) (w:World) (D:Nat->Prop) (ι:Names) (U:Nat->Prop),y6 (Sound P) ops vl K fuel listed env σ->fR P hs D ι σ.get w->Used ι σ.next U->(∀s,U s->∃i,s=site0+i/\listed.getD i false=true)->bJ P w D ι env a->a.tmps.size=nt->
  (∀ik σ' a' w' D' ι',K ik σ'->Step hs D ι w D' ι' w'->St P hs nt D' ι' ik σ' a' w'->a'.defers=a.defers->σ.next<=σ'.next->Q .normal a' w')->wpAny P .any ops Q fuel listed a w:=by
 intro fuel
 induction fuel with
 |zero=>intro listed env σ a w D ι U h S Us hU E eW hQ;exact⟨h.1,hQ env _ a w D ι h.2 (Step.refl _ _ _ _) ⟨S,Us.next,E,eW⟩ rfl (Nat.le_succ _)⟩
 |succ fuel ih=>
  intro listed env σ a w D ι U h S Us hU E eW hQ
  refine⟨fun hr=>hQ env _ a w D ι (h.1 hr) (Step.refl _ _ _ _) ⟨S,Us.next,E,eW⟩ rfl (Nat.le_succ _),fun i hi=>?_⟩
  obtain⟨vo,oL,hG⟩:=h.2 i hi
  obtain⟨_,o,ho,_⟩:=mem_ready.1 hi
  obtain⟨vo',lG,Ol⟩:=(ns dy).2 i o (by simpa using ho)
  rw[oL]at lG;injection lG with lG;subst lG
  rw[Nat.zero_add]at Ol
  obtain⟨hc,hd,Ad,vQ,hg⟩:=oc Ol
  have hw:=rY (ops:=ops) (vo:=vo) E hg
  have Rs:¬U vo.site:=fun hu=>by
   obtain⟨i',he,hl⟩:=hU _ hu
   have:i'=i:=by omega
   subst this
   rw[iK hi]at hl;cases hl
  have jf:i<listed.size:=by
   have h0:=(mem_ready.1 hi).1
   rcases Nat.lt_or_ge i listed.size with h|h
   ·exact h
   ·simp[Array.getElem?_eq_none h]at h0
  unfold wpOp
  simp only[ho]
  rw[<-hw]
  unfold step at hG
  by_cases EH:aH vo.guard env=true
  ·rw[if_pos EH]
   rw[if_pos EH]at hG
   refine .inl (xF hc hG S Us Rs E fun v σ' u D' ι' w' hn T S' hR U' hle=>?_)
   refine ih _ _ _ _ w' D' ι' _ hn S' U' (fun s Aa=>?_) (by rw[hd];exact gV (nA E T) hR vQ eW) (by rw[eO];exact eW) fun ik σ2 a2 w2 D2 ι2 hk T2 Mh BT l5=>hQ ik σ2 a2 w2 D2 ι2 hk (T.trans T2) Mh (BT.trans (put_defers _ _ _)) (Nat.le_trans hle l5)
   rcases Aa with h|h
   ·obtain⟨i',he,hl⟩:=hU _ h
    exact⟨i',he,getD_set_true hl⟩
   ·exact⟨i,by rw[h,Ad],by simp[jf]⟩
  ·rw[if_neg EH]
   rw[if_neg EH]at hG
   refine ih _ _ _ _ w D ι U hG S Us (fun s Aa=>?_) (by rw[hd];exact gV E cu.undef vQ eW) (by rw[eO];exact eW) fun ik σ2 a2 w2 D2 ι2 hk T2 Mh BT l5=>hQ ik σ2 a2 w2 D2 ι2 hk T2 Mh (BT.trans (put_defers _ _ _)) l5
   obtain⟨i',he,hl⟩:=hU _ Aa
   exact⟨i',he,getD_set_true hl⟩
end
end Go.Proofs.YtgoelphibofcmaaGreat.V

namespace Go.Proofs.YtgoelphibofcmaaGreat.V
open Go.RowKit
variable {P:Program} {w w':World} {D D' D2:Nat->Prop} {ι ι' ι2:Names}
def zd (P:Program) (c:Code) (Q:Exit->Act->World->Prop) (a:Act) (w:World):Prop:=
 ∀(b:Frame) (k:List Item) (cs:List Frame),b.kind≠.early->∃e a' w',Q e a' w'/\Arrives P (lone (b.at a (.code c::k)) cs w) b k cs e a' w'
section
variable {Q:Exit->Act->World->Prop} {a:Act}
theorem jV {c:Code} (h:c.wp P Q a w):zd P c Q a w:=fun b k cs _=>h b k cs
theorem kZ {x y:Code} (h:zd P x (Exit.then (zd P y Q) Q) a w):zd P (.seq x y) Q a w:=by
 intro b k cs hb
 obtain⟨e,a1,w1,hq,jr⟩:=h b (.code y::k) cs hb
 by_cases he:e=.normal
 ·subst he
  obtain⟨e2,a2,w2,Jz,GJ⟩:=hq b k cs hb
  exact⟨e2,a2,w2,Jz,.of_steps (.head step_seq jr) GJ⟩
 ·refine⟨e,a1,w1,?_,.of_steps (.one step_seq) (.pass (x:=.code y) rfl (fun _ _=>.inl he) jr)⟩
  cases e<;>first|exact absurd rfl he|exact hq
theorem uB {c:Operand} {x y:Code} {t:Bool} (hc:a.eval c=.bool t) (h:zd P (if t then x else y) Q a w):zd P (.cond c x y) Q a w:=
 fun b k cs hb=>let ⟨e,a',w',q,r⟩:=h b k cs hb;⟨e,a',w',q,.of_steps (.one (step_cond hc)) r⟩
theorem rL {id:Nat} {c:Code} (h:zd P c (Exit.inBlock id Q) a w):zd P (.block id c) Q a w:=by
 intro b k cs hb
 obtain⟨e,a1,w1,hq,jr⟩:=h b (.inBlock id::k) cs hb
 cases e with
 |normal=>exact⟨.normal,a1,w1,hq,.head step_block (Steps.trans jr (.one step_inBlock))⟩
 |exit jB=>
  by_cases hid:jB=id
  ·simp only[Exit.inBlock,hid,if_true]at hq
   exact⟨.normal,a1,w1,hq,.head step_block (jr k (by simp[exitTo,hid]))⟩
  ·simp only[Exit.inBlock,hid,if_false]at hq
   exact⟨.exit jB,a1,w1,hq,fun k' hk=>.head step_block (jr k' (by simp[exitTo,Ne.symm hid,hk]))⟩
 |goto l=>exact⟨_,a1,w1,hq,fun k' hk=>.head step_block (jr k' (by simp[gotoIn,hk]))⟩
 |ret=>exact⟨_,a1,w1,hq,.of_steps (.one step_block) jr⟩
 |panic ch=>exact⟨_,a1,w1,hq,.of_steps (.one step_block) jr⟩
 |outgrown=>exact⟨_,a1,w1,hq,.of_steps (b:=b) (k:=k) (cs:=cs) (e:=.outgrown) (.one step_block) jr⟩
def oj (P:Program) (c:Code) (Q:Exit->Act->World->Prop):Nat->Act->World->Prop
 |0=>fun _ _=>False
 |n+1=>zd P c (Exit.then (oj P c Q n) Q)
theorem AD {c:Code} (n:Nat) (h:oj P c Q n a w):zd P (.loop c) Q a w:=by
 intro b k cs hb
 have key:∀n a w,oj P c Q n a w->∃e a' w',Q e a' w'/\Arrives P (lone (b.at a (.code c::.inLoop c::k)) cs w) b k cs e a' w':=by
  intro n
  induction n with
  |zero=>intro a w h;exact h.elim
  |succ n ih=>
   intro a w h
   obtain⟨e,a1,w1,hq,jr⟩:=h b (.inLoop c::k) cs hb
   by_cases he:e=.normal
   ·subst he
    obtain⟨e2,a2,w2,Jz,GJ⟩:=ih a1 w1 hq
    exact⟨e2,a2,w2,Jz,.of_steps (Steps.trans jr (.one step_inLoop)) GJ⟩
   ·refine⟨e,a1,w1,?_,.pass (x:=.inLoop c) rfl (fun _ _=>.inl he) jr⟩
    cases e<;>first|exact absurd rfl he|exact hq
 obtain⟨e,a',w',hq,jr⟩:=key n a w h
 exact⟨e,a',w',hq,.of_steps (.one step_loop) jr⟩
theorem xU {f:FuncId} {fn:Func} {c:Code} {args:Array Value} {R:Ending->World->Prop} (hf:P.funcs[f]? =some fn) (hb:fn.body=some c)
  (h:zd P c (bodyPost P fn R) {tmps:=args++Array.replicate (fn.ntmps-args.size) undef,defers:=[]} w):Calls P f args w R:=by
 intro cs
 have LY:Frame.enter P f args .normal=({(default:Frame)with fn:=f,kind:=.normal}:Frame).at {tmps:=args++Array.replicate (fn.ntmps-args.size) undef,defers:=[]} [.code c]:=by simp[Frame.enter,Frame.at,hf,hb]
 obtain⟨e,a',w',hq,jr⟩:=h {(default:Frame)with fn:=f,kind:=.normal} [] cs (by simp)
 rw[<-LY]at jr
 cases e with
 |normal=>obtain⟨hd,v,hr,hR⟩:=hq;exact⟨.returned v,w',_,hR,Steps.trans jr (.one step_end),rfl,rfl,hd,rfl,fn,hf,hr⟩
 |ret=>obtain⟨hd,v,hr,hR⟩:=hq;obtain⟨todo,hs⟩:=jr;exact⟨.returned v,w',_,hR,hs,rfl,rfl,hd,rfl,fn,hf,hr⟩
 |panic chain=>obtain⟨hd,hR⟩:=hq;obtain⟨todo,hs⟩:=jr;exact⟨.panicked chain,w',_,hR,hs,rfl,rfl,hd,fn,hf⟩
 |exit id=>exact hq.elim
 |goto l=>exact hq.elim
 |outgrown=>exact⟨.outgrown,w',{(default:Frame)with fn:=f,kind:=.normal},hq,jr.resolve_left (by simp),rfl,trivial⟩
def vG (P:Program) (ops:Array Oper) (Q:Exit->Act->World->Prop) (l:List Nat) (a:Act) (w:World):Prop:=
 ∀(b:Frame) (k:List Item) (cs:List Frame),b.kind≠.early->∃e a' w',Q e a' w'/\Arrives P (lone (b.at a (.inRegion ops l::k)) cs w) b k cs e a' w'
theorem Ck {id:Nat} {ops:Array Oper} (h:vG P ops Q (List.range ops.size) a w):zd P (.region id ops false) Q a w:=
 fun b k cs hb=>let ⟨e,a',w',q,r⟩:=h b k cs hb;⟨e,a',w',q,.of_steps (.one step_region) r⟩
theorem My {ops:Array Oper} (h:Q .normal a w):vG P ops Q [] a w:=fun _ _ _ _=>⟨.normal,a,w,h,.one step_region_end⟩
theorem nX {o:Oper} {ys:Nat->Option Bool} (h:o.guard=none):Region.wanted o ys=true:=by simp[Region.wanted,h]
theorem HH {ops:Array Oper} {i:Nat} {rest:List Nat} {o:Oper} {v:Value} (ho:ops[i]? =some o) (hg:o.guard=none) (hr:(execOp a.eval o).run P w=.ok (.value v) w') (h:vG P ops Q rest (a.put o.dst v) w'):vG P ops Q (i::rest) a w:=by
 intro b k cs hb
 obtain⟨e,a',w2,hq,jr⟩:=h b k cs hb
 refine⟨e,a',w2,hq,.of_steps (.one ?_) jr⟩
 have rn:(b.at a (.inRegion ops (i::rest)::k)).finish v=b.at (a.put o.dst v) (.inRegion ops rest::k):=by rw[Frame.finish_at,ho];rfl
 rw[<-rn]
 refine step_lone_go ?_
 have h2:=stepG_op (P:=P) (b:=b) (k:=k) (cs:=cs) (w:=w) (rest:=rest) ho (nX hg (ys:=yielded ops a.tmps))
 rw[h2];simp[stepG.apply,hr]
theorem J2 {ops:Array Oper} {i:Nat} {rest:List Nat} {o:Oper} {v z:Value} {c cap s r:Nat} {buf:Array Value} (ho:ops[i]? =some o) (hg:o.guard=none) (hr:(execOp a.eval o).run P w=.ok (.comm #[Conc.scase c v z] true .send) w)
  (hc:w.heap[c]? =some (.chan cap buf false s r false)) (fU:buf.size<cap) (h:vG P ops Q rest (a.put o.dst undef) (w.setChan c cap (buf.push v) false (s+1) r false)):vG P ops Q (i::rest) a w:=by
 intro b k cs hb
 obtain⟨e,a',w2,hq,jr⟩:=h b k cs hb
 refine⟨e,a',w2,hq,.of_steps (.one ?_) jr⟩
 have rn:(b.at a (.inRegion ops (i::rest)::k)).finish undef=b.at (a.put o.dst undef) (.inRegion ops rest::k):=by rw[Frame.finish_at,ho];rfl
 rw[<-rn,Conc.lone_eq_solo,Conc.lone_eq_solo]
 exact Conc.step_lone_send_room (Conc.stepG_comm ho (nX hg) hb hr) hc fU
theorem J1 {ops:Array Oper} {i:Nat} {rest:List Nat} {o:Oper} {z:Value} {c cap s r:Nat} {buf:Array Value} (ho:ops[i]? =some o) (hg:o.guard=none) (hr:(execOp a.eval o).run P w=.ok (.comm #[Conc.rcase c z] true (.recv false)) w)
  (hc:w.heap[c]? =some (.chan cap buf false s r false)) (Hb:0<buf.size) (h:vG P ops Q rest (a.put o.dst (buf.getD 0 undef)) (w.setChan c cap (buf.extract 1 buf.size) false s (r+1) false)):vG P ops Q (i::rest) a w:=by
 intro b k cs hb
 obtain⟨e,a',w2,hq,jr⟩:=h b k cs hb
 refine⟨e,a',w2,hq,.of_steps (.one ?_) jr⟩
 have rn:(b.at a (.inRegion ops (i::rest)::k)).finish (buf.getD 0 undef)=b.at (a.put o.dst (buf.getD 0 undef)) (.inRegion ops rest::k):=by rw[Frame.finish_at,ho];rfl
 rw[<-rn,Conc.lone_eq_solo,Conc.lone_eq_solo]
 exact Conc.step_lone_recv_buf false (Conc.stepG_comm ho (nX hg) hb hr) hc Hb
end
section
variable {hs:Nat} {g:Rows} {env:Env} {a:Act} {o:Oper}
theorem JJ {x y:O} (hc:pM P o.op=some (.snd x y)):∃x' y',o.op=.send x' y'/\cO P x'=some x/\cO P y'=some y:=by
 unfold pM at hc
 split at hc
 case h_25=>
  rename_i x' y' h
  simp only[Option.bind_eq_bind,Option.bind_eq_some_iff,Option.pure_def,Option.some.injEq,fX.snd.injEq]at hc
  obtain⟨p,h1,q,h2,rfl,rfl⟩:=hc
  exact⟨_,_,h,h1,h2⟩
 all_goals (try unfold mo at hc)<;>(try unfold tG at hc)<;>(try unfold qW at hc)<;>(repeat' (split at hc))<;>(simp only[Option.bind_eq_bind,Option.bind_eq_some_iff,Option.pure_def,Option.some.injEq,Option.map_eq_some_iff,reduceCtorEq,and_false,exists_false]at hc)
theorem JI {x:O} (hc:pM P o.op=some (.MC x)):∃t dir e i z x',o.op=.recv t x' false/\P.underlying t=some (.chan dir e)/\P.info? e=some i/\i.zero=some z/\cO P x'=some x:=by
 unfold pM at hc
 split at hc
 case h_26=>
  rename_i t x' h
  split at hc
  ·rename_i dir e ht
   split at hc
   ·rename_i z hz
    simp only[Option.bind_eq_some_iff]at hz
    obtain⟨i,hi,hz⟩:=hz
    simp only[Option.map_eq_some_iff,fX.MC.injEq]at hc
    obtain⟨p,h1,rfl⟩:=hc
    exact⟨t,dir,e,i,z,x',h,ht,hi,hz,h1⟩
   ·cases hc
  ·cases hc
 all_goals (try unfold mo at hc)<;>(try unfold tG at hc)<;>(try unfold qW at hc)<;>(repeat' (split at hc))<;>(simp only[Option.bind_eq_bind,Option.bind_eq_some_iff,Option.pure_def,Option.some.injEq,Option.map_eq_some_iff,reduceCtorEq,and_false,exists_false]at hc)
theorem N0 {x y:O} {g':Rows} (S:fR P hs D ι g w) (hc:pM P o.op=some (.snd x y)) (E:bJ P w D ι env a) (hv:ek g (cF env x) (cF env y)=some g'):
  ∃c cap s r buf u,(execOp a.eval o).run P w=.ok (.comm #[Conc.scase c u (.tuple #[])] true .send) w/\w.heap[c]? =some (.chan cap buf false s r false)/\buf.size<cap/\fR P hs D ι g' (w.setChan c cap (buf.push u) false (s+1) r false)/\Step hs D ι w D ι (w.setChan c cap (buf.push u) false (s+1) r false):=by
 obtain⟨x',y',ho,hx,hy⟩:=JJ hc
 have rx:=db E hx
 have ry:=db E hy
 unfold ek at hv
 split at hv
 ·rename_i i he
  simp only[Option.bind_eq_some_iff]at hv
  obtain⟨r,hg,hv⟩:=hv
  split at hv
  ·rename_i hcond
   simp only[Option.some.injEq]at hv
   subst hv
   obtain⟨B,c,hu,hB,hk,eW,buf,s,q,hb,IF,hR⟩:=xV S rx he hg
   obtain⟨B',dr,RR,_⟩:=S.row i r hg
   rw[hB]at dr;injection dr with dr;subst dr
   have mO:=S.FB (ob:=.chan c (buf.push (a.eval y')) false (s+1) q false) (r':={r with rows:=r.rows++[[cF env y]]}) hg hcond.1 hB fun hr jT=>⟨RR.sz,fun cs dn=>?_,fun h0=>(by rw[hk]at h0;cases h0),fun m hm=>(by rw[hk]at hm;cases hm),fun c' ke=>?_⟩
   ·exact⟨B.b,c,s,q,buf,a.eval y',by simp[execOp,ho,hu,Conc.scase],hb,by rw[IF];omega,mO.1,mO.2⟩
   ·rcases List.mem_append.1 dn with h|h
    ·exact RR.flat cs h
    ·rw[List.mem_singleton.1 h]
     intro b rm
     rw[List.mem_singleton.1 rm];exact hcond.2.2
   ·rw[hk]at ke
    simp only[Option.some.injEq,BK.chan.injEq]at ke
    subst ke
    refine⟨eW,_,_,_,jT,by simp[IF],fun j cs hj=>?_⟩
    rw[List.getElem?_append]at hj
    split at hj
    ·rename_i dE
     obtain⟨b,u,q1,q2,q3⟩:=hR j cs hj
     refine⟨b,u,q1,?_,hr _ _ q3⟩
     rw[Array.getElem?_push,if_neg (by omega)];exact q2
    ·rename_i pq
     have gM:j=r.rows.length:=by
      have:=(List.getElem?_eq_some_iff.1 hj).1
      simp at this;omega
     subst gM
     simp at hj
     subst hj
     exact⟨_,_,rfl,by rw[Array.getElem?_push,if_pos IF.symm],hr _ _ ry⟩
  ·cases hv
 ·cases hv
theorem NZ {x:O} {g':Rows} {v:AV} (S:fR P hs D ι g w) (hc:pM P o.op=some (.MC x)) (E:bJ P w D ι env a) (hv:ej g (cF env x)=some (v,g')):
  ∃c cap s r buf z,(execOp a.eval o).run P w=.ok (.comm #[Conc.rcase c z] true (.recv false)) w/\w.heap[c]? =some (.chan cap buf false s r false)/\0<buf.size/\fR P hs D ι g' (w.setChan c cap (buf.extract 1 buf.size) false s (r+1) false)/\Step hs D ι w D ι (w.setChan c cap (buf.extract 1 buf.size) false s (r+1) false)/\cu P (w.setChan c cap (buf.extract 1 buf.size) false s (r+1) false) D ι v (buf.getD 0 undef):=by
 obtain⟨t,dir,e,i0,z,x',ho,ht,hi,hz,hx⟩:=JI hc
 have rx:=db E hx
 unfold ej at hv
 split at hv
 ·rename_i i he
  simp only[Option.bind_eq_some_iff]at hv
  obtain⟨r,hg,hv⟩:=hv
  split at hv
  ·rename_i v' rest nI
   split at hv
   ·rename_i hcond
    simp only[Option.some.injEq,Prod.mk.injEq]at hv
    obtain⟨rfl,rfl⟩:=hv
    obtain⟨B,c,hu,hB,hk,eW,buf,s,q,hb,IF,hR⟩:=xV S rx he hg
    obtain⟨B',dr,RR,_⟩:=S.row i r hg
    rw[hB]at dr;injection dr with dr;subst dr
    obtain⟨b0,u0,q1,q2,q3⟩:=hR 0 [v'] (by rw[nI];rfl)
    simp only[List.cons.injEq,and_true]at q1
    subst q1
    have jU:0<buf.size:=by rw[IF,nI];simp
    have Qz:buf.getD 0 undef=u0:=by rw[Array.getD_eq_getD_getElem?,q2];rfl
    have mO:=S.FB (ob:=.chan c (buf.extract 1 buf.size) false s (q+1) false) (r':={r with rows:=rest}) hg hcond hB fun hr jT=>⟨RR.sz,fun cs dn=>RR.flat cs (by rw[nI];exact List.mem_cons_of_mem _ dn),fun h0=>(by rw[hk]at h0;cases h0),fun m hm=>(by rw[hk]at hm;cases hm),fun c' ke=>?_⟩
    ·refine⟨B.b,c,s,q,buf,z,?_,hb,jU,mO.1,mO.2,?_⟩
     ·have uo:(zeroValue e).run P w=.ok z w:=by simp[zeroValue,typeInfo,hi,hz]
      simp[execOp,ho,hu,Conc.rcase,run_underlying ht,uo]
     ·rw[Qz];exact mO.2.rep q3
    ·rw[hk]at ke
     simp only[Option.some.injEq,BK.chan.injEq]at ke
     subst ke
     refine⟨eW,_,_,_,jT,by simp[IF,nI],fun j cs hj=>?_⟩
     obtain⟨b,u,k1,k2,k3⟩:=hR (j+1) cs (by rw[nI];simpa using hj)
     refine⟨b,u,k1,?_,hr _ _ k3⟩
     have dE:=(Array.getElem?_eq_some_iff.1 k2).1
     rw[Array.getElem?_extract,if_pos (by omega),Nat.add_comm 1 j];exact k2
   ·cases hv
  ·cases hv
 ·cases hv
theorem Eg {ops:Array Oper} {nt site0:Nat} {K:Env->ar->Prop} {Q:Exit->Act->World->Prop}:∀(l:List Oper) (vl:List aT) (j:Nat) (env:Env) (σ:ar) (a:Act) (w:World) (D:Nat->Prop) (ι:Names),
  ops.toList.drop j=l->allM (j9 P ops nt site0 false false #[] []) l j=some vl->cq vl K env σ->fR P hs D ι σ.get w->Used ι σ.next (fun _=>False)->bJ P w D ι env a->a.tmps.size=nt->
  (∀ik σ' a' w' D' ι',K ik σ'->Step hs D ι w D' ι' w'->St P hs nt D' ι' ik σ' a' w'->a'.defers=a.defers->σ.next<=σ'.next->Q .normal a' w')->vG P ops Q (List.range' j l.length) a w:=by
 intro l
 induction l with
 |nil=>
  intro vl j env σ a w D ι _ h hv S Us E eW hQ
  simp[allM]at h;subst h
  exact My (hQ env ⟨σ.get,σ.next+1⟩ a w D ι hv (Step.refl _ _ _ _) ⟨S,Us.next,E,eW⟩ rfl (Nat.le_succ _))
 |cons o l ih=>
  intro vl j env σ a w D ι hl h hv S Us E eW hQ
  simp only[allM,Option.bind_eq_bind,Option.bind_eq_some_iff,Option.pure_def,Option.some.injEq]at h
  obtain⟨vo,oL,rX,qS,rfl⟩:=h
  obtain⟨hc,hd,Ad,vQ,hg⟩:=oc oL
  obtain⟨OD,hv⟩:=hv
  have R8:o.guard=none:=by
   split at hg
   ·assumption
   ·obtain⟨t,_,h⟩:=hg
    rw[OD]at h;cases h
  have R9:ops[j]? =some o:=by
   have h0:=congrArg (fun x=>x[0]?) hl
   rw[<-Array.getElem?_toList]
   simpa[List.getElem?_drop]using h0
  have IM:ops.toList.drop (j+1)=l:=by rw[<-List.drop_drop,hl];rfl
  have go:∀(v:AV) (u:Value) (g2:Rows) (w2:World),cq rX K (upd env vo.dst v) ⟨g2,σ.next⟩->fR P hs D ι g2 w2->Step hs D ι w D ι w2->cu P w2 D ι v u->vG P ops Q (List.range' (j+1) l.length) (a.put o.dst u) w2:=fun v u g2 w2 hn S2 T hR=>
   ih rX (j+1) (upd env vo.dst v) ⟨g2,σ.next⟩ (a.put o.dst u) w2 D ι IM qS hn S2 Us (by rw[hd];exact gV (nA E T) hR vQ eW) (by rw[eO];exact eW) fun ik σ2 a' w3 D3 ι3 hk T2 Lf BT l5=>hQ ik σ2 a' w3 D3 ι3 hk (T.trans T2) Lf (BT.trans (put_defers _ _ _)) l5
  rw[show List.range' j (o::l).length=j::List.range' (j+1) l.length from rfl]
  split at hv
  ·rename_i x y dP
   split at hv
   ·rename_i g2 NC
    rw[dP]at hc
    obtain⟨c,cap,s,r,buf,u,fI,hb,fU,S2,T⟩:=N0 S hc E NC
    exact J2 R9 R8 fI hb fU (go _ _ _ _ hv S2 T cu.undef)
   ·exact hv.elim
  ·rename_i x dP
   split at hv
   ·rename_i v g2 NC
    rw[dP]at hc
    obtain⟨c,cap,s,r,buf,z,fI,hb,Hb,S2,T,hR⟩:=NZ S hc E NC
    exact J1 R9 R8 fI hb Hb (go _ _ _ _ hv S2 T hR)
   ·exact hv.elim
  ·split at hv
   ·rename_i v hq
    obtain⟨u,fI,hR⟩:=xt hc hq S E
    exact HH R9 R8 fI (go _ _ _ _ hv S (Step.refl _ _ _ _) hR)
   ·exact hv.elim
end
end Go.Proofs.YtgoelphibofcmaaGreat.V

namespace Go.Proofs.YtgoelphibofcmaaGreat.V
open Go.RowKit
variable {P:Program} {w w':World} {D D' D2:Nat->Prop} {ι ι' ι2:Names}
section
variable {hs:Nat} {X:fq}
def PV:Ex->Exit
 | .normal=>.normal
 | .exit id=>.exit id
 | .ret=>.ret
theorem St.drew {nt:Nat} {env:Env} {σ:ar} {a:Act} {D:Nat->Prop} {ι:Names} (h:St P hs nt D ι env σ a w):St P hs nt D ι env σ a w.drew/\Step hs D ι w D ι w.drew:=by
 have T:Step hs D ι w D ι w.drew:=Step.stay h.rQ (fun _ _=>rfl) (Nat.le_refl _) rfl rfl rfl (fun _ h=>h) (fun _ h=>.inl h) (fun _ _ h=>h)
 exact⟨⟨h.rQ.stay (fun _ _=>rfl) (Nat.le_refl _) (fun _ h=>h) h.rQ.dead (fun _ h=>.inl h) (fun _ _ h=>h),h.used,nA h.env T,h.size⟩,T⟩
def r6 (P:Program) (hs nt:Nat) (ds:List Deferred) (Q:Ex->Env->ar->Prop) (n0:Nat) (D:Nat->Prop) (ι:Names) (w:World) (Q':Exit->Act->World->Prop):Prop:=
 ∀ex env σ a w' D' ι',Q ex env σ->Step hs D ι w D' ι' w'->St P hs nt D' ι' env σ a w'->a.defers=ds->n0<=σ.next->Q' (PV ex) a w'
theorem r6.later {nt:Nat} {ds:List Deferred} {Q:Ex->Env->ar->Prop} {n0 n1:Nat} {Q':Exit->Act->World->Prop} (h:r6 P hs nt ds Q n0 D ι w Q') (T:Step hs D ι w D' ι' w') (hn:n0<=n1):r6 P hs nt ds Q n1 D' ι' w' Q':=
 fun ex env σ a w2 D2 ι2 hq T2 dv hd hle=>h ex env σ a w2 D2 ι2 hq (T.trans T2) dv hd (Nat.le_trans hn hle)
theorem pc (hm:P.follows .mixedOrders=true) {md:List (Nat×Nat)} {nt fid:Nat}:∀(c:Code) (vc:VC),iU P md nt fid c=some vc->∀(Q:Ex->Env->ar->Prop) (env:Env) (σ:ar) (a:Act) (w:World) (D:Nat->Prop) (ι:Names) (Q':Exit->Act->World->Prop),
  dx (Sound P) vc Q env σ->St P hs nt D ι env σ a w->r6 P hs nt a.defers Q σ.next D ι w Q'->zd P c Q' a w:=by
 intro c
 induction c with
 |skip=>
  intro vc h Q env σ a w D ι Q' hv dv hQ
  simp[iU]at h;subst h
  exact jV <| wp_skip (hQ .normal env σ a w D ι hv (Step.refl _ _ _ _) dv rfl (Nat.le_refl _))
 |exit id=>
  intro vc h Q env σ a w D ι Q' hv dv hQ
  simp[iU]at h;subst h
  exact jV <| wp_exit (hQ (.exit id) env σ a w D ι hv (Step.refl _ _ _ _) dv rfl (Nat.le_refl _))
 |ret=>
  intro vc h Q env σ a w D ι Q' hv dv hQ
  simp[iU]at h;subst h
  exact jV <| wp_ret (hQ .ret env σ a w D ι hv (Step.refl _ _ _ _) dv rfl (Nat.le_refl _))
 |seq x y ihx ihy=>
  intro vc h Q env σ a w D ι Q' hv dv hQ
  simp only[iU,Option.bind_eq_bind,Option.bind_eq_some_iff,Option.pure_def,Option.some.injEq]at h
  obtain⟨vx,hx,vy,hy,rfl⟩:=h
  refine kZ (ihx vx hx _ env σ a w D ι _ hv dv fun ex iN σ1 a1 w1 D1 ι1 hq T jL hd hle=>?_)
  cases ex with
  |normal=>exact ihy vy hy Q iN σ1 a1 w1 D1 ι1 Q' hq jL (by rw[hd];exact hQ.later T hle)
  |exit id=>exact hQ (.exit id) iN σ1 a1 w1 D1 ι1 hq T jL hd hle
  |ret=>exact hQ .ret iN σ1 a1 w1 D1 ι1 hq T jL hd hle
 |cond c x y ihx ihy=>
  intro vc h Q env σ a w D ι Q' hv dv hQ
  simp only[iU,Option.bind_eq_bind,Option.bind_eq_some_iff,Option.pure_def,Option.some.injEq]at h
  obtain⟨c',hc,vx,hx,vy,hy,rfl⟩:=h
  unfold dx at hv
  have hr:=db dv.env hc
  split at hv
  ·rename_i b hb
   rw[hb]at hr
   refine uB (eQ hr) ?_
   cases b with
   |true=>exact ihx vx hx Q env σ a w D ι Q' hv dv hQ
   |false=>exact ihy vy hy Q env σ a w D ι Q' hv dv hQ
  ·exact hv.elim
 |block id c ih=>
  intro vc h Q env σ a w D ι Q' hv dv hQ
  simp only[iU,Option.map_eq_some_iff]at h
  obtain⟨vx,hx,rfl⟩:=h
  refine rL (ih vx hx _ env σ a w D ι _ hv dv fun ex iN σ1 a1 w1 D1 ι1 hq T jL hd hle=>?_)
  cases ex with
  |normal=>exact hQ .normal iN σ1 a1 w1 D1 ι1 hq T jL hd hle
  |ret=>exact hQ .ret iN σ1 a1 w1 D1 ι1 hq T jL hd hle
  |exit jB=>
   simp only[aU]at hq
   simp only[PV,Exit.inBlock]
   by_cases hid:jB=id
   ·rw[if_pos hid]at hq ⊢;exact hQ .normal iN σ1 a1 w1 D1 ι1 hq T jL hd hle
   ·rw[if_neg hid]at hq ⊢;exact hQ (.exit jB) iN σ1 a1 w1 D1 ι1 hq T jL hd hle
 |loop c ih=>
  intro vc h Q env σ a w D ι Q' hv dv hQ
  simp only[iU,Option.map_eq_some_iff]at h
  obtain⟨vx,hx,rfl⟩:=h
  obtain⟨n,hv⟩:=hv
  refine AD n ?_
  have key:∀n env σ a w D ι,DF (dx (Sound P) vx) Q n env σ->St P hs nt D ι env σ a w->r6 P hs nt a.defers Q σ.next D ι w Q'->oj P c Q' n a w:=by
   intro n
   induction n with
   |zero=>intro env σ a w D ι h;exact h.elim
   |succ n ihn=>
    intro env σ a w D ι h dv hQ
    refine ih vx hx _ env σ a w D ι _ h dv fun ex iN σ1 a1 w1 D1 ι1 hq T jL hd hle=>?_
    cases ex with
    |normal=>exact ihn iN σ1 a1 w1 D1 ι1 hq jL (by rw[hd];exact hQ.later T hle)
    |exit id=>exact hQ (.exit id) iN σ1 a1 w1 D1 ι1 hq T jL hd hle
    |ret=>exact hQ .ret iN σ1 a1 w1 D1 ι1 hq T jL hd hle
  exact key n env σ a w D ι hv dv hQ
 |region id ops draw=>
  intro vc h Q env σ a w D ι Q' hv dv hQ
  simp only[iU,NY]at h
  split at h
  ·rename_i hmode
   have RD:draw=true:=by
    simp only[Bool.and_eq_true]at hmode;exact hmode.1
   subst RD
   split at h
   ·rename_i vl dy
    obtain⟨qh,T0⟩:=dv.drew
    have BR:=FA (X:=Sound P) j8 ops.size _ vc env σ h (fun k i h=>by
     exfalso
     rcases Nat.lt_or_ge k ops.size with hk|hk
     ·simp[hk]at h
     ·simp[Nat.not_lt.2 hk]at h) hv
    refine jV (wp_region_any hm ?_)
    exact CU dy ops.size _ env σ a w.drew D ι (fun _=>False) BR qh.rQ qh.used (fun _ h=>h.elim) qh.env qh.size fun iN σ1 a1 w1 D1 ι1 hk T jL hd hle=>hQ .normal iN σ1 a1 w1 D1 ι1 hk (T0.trans T) jL hd hle
   ·cases h
  split at h
  ·rename_i hcom
   have RD:draw=false:=by
    simp only[Bool.and_eq_true,Bool.not_eq_true']at hcom;exact hcom.1
   subst RD
   simp only[Option.map_eq_some_iff]at h
   obtain⟨vl,qS,rfl⟩:=h
   have dy:allM (j9 P ops nt ((fid*1000+id)*1000) false false #[] []) ops.toList 0=some vl:=by
    unfold p4 at qS
    simp only[Bool.false_eq_true,if_false,Bool.not_false,Bool.true_or,if_true]at qS
    split at qS
    ·rename_i rX h;simp at qS;subst qS;exact h
    ·cases qS
   refine Ck ?_
   have:=Eg (Q:=Q') ops.toList vl 0 env σ a w D ι rfl dy hv dv.rQ dv.used dv.env dv.size fun iN σ1 a1 w1 D1 ι1 hk T jL hd hle=>hQ .normal iN σ1 a1 w1 D1 ι1 hk T jL hd hle
   rwa [<-List.range_eq_range',Array.length_toList]at this
  generalize (uy md id==1)=mk at h
  simp only[Option.map_eq_some_iff]at h
  obtain⟨vl,qS,rfl⟩:=h
  cases draw with
  |false=>
   have dy:∃rX,allM (j9 P ops nt ((fid*1000+id)*1000) false mk #[] []) ops.toList 0=some rX/\vl=rX:=by
    unfold p4 at qS
    simp only[Bool.false_eq_true,if_false,Bool.not_false,Bool.true_or,if_true]at qS
    split at qS
    ·rename_i rX h;simp at qS;exact⟨rX,h,qS.symm⟩
    ·cases qS
   obtain⟨rX,dy,rfl⟩:=dy
   refine jV (wp_region_list ?_)
   exact xn ops.toList vl 0 env σ a w D ι (fun _=>False) dy hv dv.rQ dv.used (fun _ h=>h.elim) dv.env dv.size fun iN σ1 a1 w1 D1 ι1 hk T jL hd hle=>hQ .normal iN σ1 a1 w1 D1 ι1 hk T jL hd hle
  |true=>
   have dy:∃hidden rX,allM (j9 P ops nt ((fid*1000+id)*1000) true mk (je ops) hidden) ops.toList 0=some rX/\vl=rX/\nz ops rX (je ops)=true:=by
    unfold p4 at qS
    simp only[if_true,Bool.not_true,Bool.false_or]at qS
    split at qS
    ·rename_i rX h
     split at qS
     ·rename_i ui;simp at qS;exact⟨_,rX,h,qS.symm,ui⟩
     ·cases qS
    ·cases qS
   obtain⟨hidden,rX,dy,rfl,ui⟩:=dy
   obtain⟨qh,T0⟩:=dv.drew
   obtain⟨hlen,_⟩:=ns dy
   have kf:vl.length=ops.size:=by rw[hlen];simp
   have BR:=vh (X:=Sound P) (K:=Q .normal) (n:=σ.next) ui kf vl 0 (Array.replicate ops.size false) env σ.get (by simp) (by simp) (fun i hi=>by simp[hi]) (by simp[kf]) (fun k i h=>by
    exfalso
    rcases Nat.lt_or_ge k ops.size with hk|hk
    ·simp[hk]at h
    ·simp[Nat.not_lt.2 hk]at h) hv
   refine jV (wp_region_any hm ?_)
   rw[kf]at BR
   exact wu dy ops.size _ env σ.get a w.drew D ι (fun _=>False) BR qh.rQ qh.used (fun _ h=>h.elim) qh.env qh.size fun iN g1 a1 w1 D1 ι1 U1 hk T S1 QU E1 zl hd=>hQ .normal iN ⟨g1,σ.next+1⟩ a1 w1 D1 ι1 hk (T0.trans T) ⟨S1,QU.next,E1,zl⟩ hd (Nat.le_succ _)
 |_=>
  intro vc h
  simp[iU]at h
def HT (tmps:Array Value):ResultVar->Sem Value
 | .tmp t=>pure (tmps.getD t undef)
 | .cell a t=>do loadVar t (<-asAddr (tmps.getD a undef))
theorem Cu (fn:Func) (tmps:Array Value):results fn tmps=(do
  let vs <-fn.results.mapM (HT tmps)
  pure (if h:vs.size=1 then vs[0]else .tuple vs)):=by
 unfold results
 congr 2
theorem sG {nt:Nat} {env:Env} {σ:ar} {a:Act} {D:Nat->Prop} {ι:Names} (dv:St P hs nt D ι env σ a w):∀(rs:List ResultVar) (vr:List mE) (vs:List AV),rs.mapM (BA P)=some vr->eZ env σ.get vr=some vs->
  ∃us:List Value,(rs.mapM (HT a.tmps)).run P w=.ok us w/\us.length=vs.length/\∀(j:Nat) (v:AV),vs[j]? =some v->∃u,us[j]? =some u/\cu P w D ι v u
 |[],vr,vs,h,hv=>by
  simp at h;subst h
  simp[eZ]at hv;subst hv
  exact⟨[],by simp,rfl,fun j v h=>by simp at h⟩
 |r::rs,vr,vs,h,hv=>by
  simp only[List.mapM_cons,Option.bind_eq_bind,Option.bind_eq_some_iff]at h
  obtain⟨x,hx,vr',hr,h⟩:=h
  simp at h;subst h
  simp only[eZ,Option.bind_eq_some_iff,Option.map_eq_some_iff]at hv
  obtain⟨v,wW,SC,O3,rfl⟩:=hv
  obtain⟨us,h1,h2,h3⟩:=sG dv rs vr' SC hr O3
  have one:∃u,(HT a.tmps r).run P w=.ok u w/\cu P w D ι v u:=by
   cases r with
   |tmp t=>
    simp[BA]at hx;subst hx
    simp[gR]at wW;subst wW
    exact⟨_,rfl,dv.env t⟩
   |cell b t=>
    simp only[BA,Option.bind_eq_bind,Option.bind_eq_some_iff,Option.pure_def,Option.some.injEq]at hx
    obtain⟨ag,tb,n,hn,rfl⟩:=hx
    simp only[gR]at wW
    have gr:=dv.env b
    unfold ld at wW
    split at wW
    ·rename_i jB i' oo hb
     rw[hb]at gr
     obtain⟨B,he,hB,hk⟩:=gZ gr
     simp only[Option.bind_eq_some_iff]at wW
     obtain⟨cs,dn,hp⟩:=wW
     obtain⟨B',r0,Bb,dr,R,hi,fl,f,hf⟩:=HY (S:=dv.rQ) dn (fun B2 h2=>by rw[hB]at h2;injection h2 with h2;subst h2;exact hk)
     rw[hB]at dr;injection dr with dr;subst dr
     obtain⟨u,k1,k2⟩:=j3 (w:=w) (b:=B.b) (oo:=i'*B.sz+oo) (f:=fun j=>f (oo+j)) tb hn hp (fun a ha=>fl a (List.mem_of_mem_drop ha)) (fun j hj=>by
      rw[Nat.add_assoc];exact(hf _ (by simp at hj;omega)).1) (fun j a ha=>by
      simp at ha;exact(hf _ ((List.getElem?_eq_some_iff.1 ha).1)).2 _ ha)
     exact⟨u,by simp only[HT,he,asAddr,Sem.run_bind,Sem.run_pure,Result.andThen_ok,k1],k2⟩
    ·rename_i cs hb
     rw[hb]at gr
     obtain⟨b',oo,vs2,he,q1,q2,q3,q4⟩:=ko gr
     obtain⟨u,k1,k2⟩:=j3 (w:=w) (b:=b') (oo:=oo) (f:=vs2) tb hn wW q2 q3 (fun j a ha=>.eD _ _ (q4 j a ha))
     exact⟨u,by simp only[HT,he,asAddr,Sem.run_bind,Sem.run_pure,Result.andThen_ok,k1],k2⟩
    ·simp at wW
  obtain⟨u,hu,vY⟩:=one
  refine⟨u::us,?_,by simp[h2],fun j v' hj=>?_⟩
  ·rw[List.mapM_cons]
   simp only[Sem.run_bind,hu,h1,Result.andThen_ok,Sem.run_pure]
  ·cases j with
   |zero=>simp at hj;subst hj;exact⟨u,rfl,vY⟩
   |succ j=>simp at hj ⊢;exact h3 j v' hj
theorem tE {f:Nat} {fn:Func} {c:Code} {args:List AV} {σ:ar} {K:AV->ar->Prop} {vr:List mE} (Nu:P.funcs[f]? =some fn) (hc:fn.body=some c) (hr:fn.results.toList.mapM (BA P)=some vr) (ha:fn.params.size+fn.nfree=args.length) (hle:fn.params.size+fn.nfree<=fn.ntmps)
  (h:∀(hs:Nat) (w:World) (D:Nat->Prop) (ι:Names) (a:Act) (Q':Exit->Act->World->Prop),St P hs fn.ntmps D ι (cj args) σ a w->r6 P hs fn.ntmps a.defers (j0 vr K) σ.next D ι w Q'->zd P c Q' a w):Sound P f args σ K:=by
 intro hs D ι w vs S Us A
 have eW:vs.size=args.length:=A.1
 refine xU Nu hc ?_
 refine h hs w D ι _ _ ⟨S,Us,fun t=>?_,by simp;omega⟩ fun ex iN σ1 a1 w1 D1 ι1 hq T jL hd hle=>?_
 ·simp only[cj]
  by_cases dE:t<args.length
  ·obtain⟨u,hu,vY⟩:=A.2 t args[t] (List.getElem?_eq_getElem dE)
   have e1:args.getD t .undef=args[t]:=by simp[List.getD_eq_getElem?_getD,dE]
   have e2:(vs++Array.replicate (fn.ntmps-vs.size) undef).getD t undef=u:=by
    simp only[Array.getD_eq_getD_getElem?]
    rw[Array.getElem?_append_left (by omega),hu];rfl
   rw[e1,e2];exact vY
  ·have e1:args.getD t .undef=.undef:=by simp[List.getD_eq_getElem?_getD,Nat.le_of_not_lt dE]
   have e2:(vs++Array.replicate (fn.ntmps-vs.size) undef).getD t undef=undef:=by
    simp only[Array.getD_eq_getD_getElem?]
    rw[Array.getElem?_append_right (by omega),Array.getElem?_replicate]
    split<;>rfl
   rw[e1,e2];exact cu.undef
 ·have fin:(∃vs,eZ iN σ1.get vr=some vs/\K (fo vs) σ1)->a1.defers=[]/\∃v,(results fn a1.tmps).run P w1=.ok v w1/\∃r g' n' D' ι' u,Ending.returned v=.returned u/\K r ⟨g',n'⟩/\Step hs D ι w D' ι' w1/\fR P hs D' ι' g' w1/\Used ι' n' (fun _=>False)/\σ.next<=n'/\cu P w1 D' ι' r u:=by
   rintro⟨avs,O3,hK⟩
   obtain⟨us,h1,h2,h3⟩:=sG jL fn.results.toList vr avs hr O3
   have Md:(results fn a1.tmps).run P w1=.ok (if h:us.toArray.size=1 then us.toArray[0]else .tuple us.toArray) w1:=by
    rw[Cu,Array.mapM_eq_mapM_toList]
    simp only[Sem.run_bind,Sem.run_map,h1,Result.andThen_ok,Sem.run_pure]
   refine⟨hd,_,Md,fo avs,σ1.get,σ1.next,D1,ι1,_,rfl,hK,T,jL.rQ,jL.used,hle,?_⟩
   unfold fo
   split
   ·rename_i v
    have hl:us.length=1:=h2
    obtain⟨u,hu,vY⟩:=h3 0 v rfl
    rw[dif_pos (by simpa using hl)]
    have:us.toArray[0]'(by simp[hl])=u:=by
     have:=(List.getElem?_eq_some_iff.1 hu).2
     simpa using this
    rw[this];exact vY
   ·rename_i gI
    rw[dif_neg (by
     simp only[List.size_toArray,h2]
     intro h
     obtain⟨v,hv⟩:=List.length_eq_one_iff.1 h
     exact gI v hv)]
    exact .gn _ _ (fun j=>us.getD j undef) (by simp[h2]) (fun j hj=>by
     have:j<us.length:=by rw[h2];exact hj
     simp[this]) (fun j v hj=>by
     obtain⟨u,hu,vY⟩:=h3 j v hj
     simpa[List.getD_eq_getElem?_getD,hu]using vY)
  cases ex with
  |normal=>exact fin hq
  |ret=>exact fin hq
  |exit id=>exact hq.elim
theorem GF (hm:P.follows .mixedOrders=true) {f:Nat} {md:List (Nat×Nat)} {vf:ze} {args:List AV} {σ:ar} {K:AV->ar->Prop} (hf:vM P f md=some vf) (ha:vf.xi=args.length) (h:dx (Sound P) vf.body (j0 vf.res K) (cj args) σ):Sound P f args σ K:=by
 unfold vM at hf
 split at hf
 ·rename_i fn Nu
  split at hf
  ·rename_i c hc
   simp only[Option.bind_eq_bind,Option.bind_eq_some_iff]at hf
   obtain⟨vb,hb,vr,hr,hf⟩:=hf
   split at hf
   ·rename_i hle
    simp only[Option.pure_def,Option.some.injEq]at hf
    subst hf
    simp only at ha h
    exact tE Nu hc hr ha hle fun hs w D ι a Q' dv hQ=>pc hm c vb hb (j0 vr K) (cj args) σ a w D ι Q' h dv hQ
   ·simp at hf
  ·simp at hf
 ·simp at hf
def KZ (P:Program) (X:fq):fq:=fun f args σ K=>(∃md vf,vM P f md=some vf/\vf.xi=args.length/\((∀a∈args,eu a)->dx X vf.body (j0 vf.res K) (cj args) σ))∨Sound P f args σ K
def Call (P:Program):fq:=fun f args σ K=>∀X:fq,oN X->(∀f args σ K,KZ P X f args σ K->X f args σ K)->X f args σ K
theorem fP (hm:P.follows .mixedOrders=true) {f:Nat} {args:List AV} {σ:ar} {K:AV->ar->Prop} (h:Call P f args σ K):Sound P f args σ K:=
 h (Sound P) j8 fun f args σ K hs=>by
  rcases hs with⟨md,vf,h1,h2,h3⟩|h
  ·intro hs D ι w vs S U A
   exact GF hm h1 h2 (h3 (nN fun j a hj=>by obtain⟨u,_,hr⟩:=A.2 j a hj;exact hr.Ho)) hs D ι w vs S U A
  ·exact h
end
end Go.Proofs.YtgoelphibofcmaaGreat.V

namespace Go.Proofs.YtgoelphibofcmaaGreat.V
open Go.RowKit
variable {P:Program} {X Y:fq}
theorem F1 (h:∀f args σ K,X f args σ K->Y f args σ K) {f:Nat} {args:List AV} {σ:ar} {K:AV->Prop} (hp:gp X f args σ K):gp Y f args σ K:=by
 rcases hp with hp|⟨a,h1,h2⟩
 ·exact .inl (h _ _ _ _ hp)
 ·exact .inr ⟨a,h1,h _ _ _ _ h2⟩
theorem IV (h:∀f args σ K,X f args σ K->Y f args σ K) {f:Nat} {args:List AV} {σ:ar} {sz:Nat} {rows:List (List AV)} (hp:CM X f args σ sz rows):CM Y f args σ sz rows:=by
 obtain⟨h1,a,h2,h3⟩:=hp
 exact⟨h1,a,h2,h _ _ _ _ h3⟩
theorem pa (h:∀f args σ K,X f args σ K->Y f args σ K) (hK:∀f args σ K K',(∀r σ',K r σ'->K' r σ')->Y f args σ K->Y f args σ K') {draw:Bool} {hid:List Nat} {site:Nat} {f:Nat} {args:List AV} {σ:ar} {n n':AV->ar->Prop} (hn:∀v σ',n v σ'->n' v σ') (hp:cE X draw hid site f args σ n):cE Y draw hid site f args σ n':=by
 rcases hp with⟨r,h1,h2⟩|⟨h1,h2⟩|⟨h1,sz,rows,h2,h3⟩
 ·exact .inl ⟨r,F1 h h1,hn _ _ h2⟩
 ·exact .inr (.inl ⟨h1,hK _ _ _ _ _ hn (h _ _ _ _ h2)⟩)
 ·exact .inr (.inr ⟨h1,sz,rows,IV h h2,hn _ _ h3⟩)
theorem qL (h:∀f args σ K,X f args σ K->Y f args σ K) (hK:∀f args σ K K',(∀r σ',K r σ'->K' r σ')->Y f args σ K->Y f args σ K') {draw:Bool} {o:aT} {env:Env} {σ:ar} {n n':AV->ar->Prop} (hn:∀v σ',n v σ'->n' v σ') (hp:fC X draw o env σ n):fC Y draw o env σ n':=by
 unfold fC at hp ⊢
 split at hp
 ·exact pa h hK hn hp
 ·split at hp
  ·exact pa h hK hn hp
  ·exact pa h hK hn hp
  ·exact hp.elim
 ·split at hp
  ·exact hn _ _ hp
  ·exact hp.elim
 ·split at hp
  ·exact hn _ _ hp
  ·exact hp.elim
 ·split at hp
  ·exact hn _ _ hp
  ·exact hp.elim
 ·split at hp
  ·exact hn _ _ hp
  ·exact hp.elim
 ·split at hp
  ·exact hn _ _ hp
  ·exact hp.elim
 ·split at hp
  ·exact hn _ _ hp
  ·exact hn _ _ hp
  ·exact hp.elim
theorem kC (h:∀f args σ K,X f args σ K->Y f args σ K) (hK:∀f args σ K K',(∀r σ',K r σ'->K' r σ')->Y f args σ K->Y f args σ K') {draw:Bool} {Q Q':Env->ar->Prop} (hQ:∀e s,Q e s->Q' e s):∀(l:List aT) (env:Env) (σ:ar),wpOps X draw l Q env σ->wpOps Y draw l Q' env σ
 |[],env,σ,hp=>hQ _ _ hp
 |o::r,env,σ,hp=>by
  unfold wpOps at hp ⊢
  split at hp
  ·rename_i hw;rw[if_pos hw];exact qL h hK (fun v σ'=>kC h hK hQ r _ _) hp
  ·rename_i hw;rw[if_neg hw];exact kC h hK hQ r _ _ hp
theorem mi {Q Q':Env->ar->Prop} (hQ:∀e s,Q e s->Q' e s):∀(l:List aT) (env:Env) (σ:ar),cq l Q env σ->cq l Q' env σ
 |[],env,σ,hp=>hQ _ _ hp
 |o::r,env,σ,hp=>by
  unfold cq at hp ⊢
  refine⟨hp.1,?_⟩
  replace hp:=hp.2
  split at hp
  ·split at hp
   ·exact mi hQ r _ _ hp
   ·exact hp.elim
  ·split at hp
   ·exact mi hQ r _ _ hp
   ·exact hp.elim
  ·split at hp
   ·exact mi hQ r _ _ hp
   ·exact hp.elim
theorem jc (h:∀f args σ K,X f args σ K->Y f args σ K) (hK:∀f args σ K K',(∀r σ',K r σ'->K' r σ')->Y f args σ K->Y f args σ K'):∀(c:VC) (Q Q':Ex->Env->ar->Prop) (env:Env) (σ:ar),(∀x e s,Q x e s->Q' x e s)->dx X c Q env σ->dx Y c Q' env σ:=by
 intro c
 induction c with
 |skip=>intro Q Q' env σ hQ hp;exact hQ _ _ _ hp
 |exit id=>intro Q Q' env σ hQ hp;exact hQ _ _ _ hp
 |ret=>intro Q Q' env σ hQ hp;exact hQ _ _ _ hp
 |one o c ih=>
  intro Q Q' env σ hQ hp
  unfold dx at hp ⊢
  split at hp
  ·rename_i hw;rw[if_pos hw];exact qL h hK (fun v σ'=>ih Q Q' _ _ hQ) hp
  ·rename_i hw;rw[if_neg hw];exact ih Q Q' _ _ hQ hp
 |both a b iha ihb=>intro Q Q' env σ hQ hp;exact⟨iha Q Q' env σ hQ hp.1,ihb Q Q' env σ hQ hp.2⟩
 |loc t s y c ih=>intro Q Q' env σ hQ hp;exact⟨hp.1,ih Q Q' env σ hQ hp.2⟩
 |Ls ops=>intro Q Q' env σ hQ hp;exact mi (hQ .normal) ops env σ hp
 |ew draw ops=>intro Q Q' env σ hQ hp;exact kC h hK (hQ .normal) ops env σ hp
 |seq a b iha ihb=>
  intro Q Q' env σ hQ hp
  refine iha _ _ env σ (fun x e s hx=>?_) hp
  cases x with
  |normal=>exact ihb Q Q' e s hQ hx
  |exit id=>exact hQ _ _ _ hx
  |ret=>exact hQ _ _ _ hx
 |cond c a b iha ihb=>
  intro Q Q' env σ hQ hp
  unfold dx at hp ⊢
  split at hp
  ·rename_i t ht
   cases t with
   |true=>exact iha Q Q' env σ hQ hp
   |false=>exact ihb Q Q' env σ hQ hp
  ·exact hp.elim
 |block id a iha=>
  intro Q Q' env σ hQ hp
  refine iha _ _ env σ (fun x e s hx=>?_) hp
  cases x with
  |normal=>exact hQ _ _ _ hx
  |ret=>exact hQ _ _ _ hx
  |exit jB=>
   unfold aU at hx ⊢
   dsimp only at hx ⊢
   split at hx
   ·rename_i hid;rw[if_pos hid];exact hQ _ _ _ hx
   ·rename_i hid;rw[if_neg hid];exact hQ _ _ _ hx
 |loop a iha=>
  intro Q Q' env σ hQ hp
  obtain⟨n,hp⟩:=hp
  refine⟨n,?_⟩
  induction n generalizing env σ with
  |zero=>exact hp
  |succ n ihn=>
   refine iha _ _ env σ (fun x e s hx=>?_) hp
   cases x with
   |normal=>exact ihn e s hx
   |exit id=>exact hQ _ _ _ hx
   |ret=>exact hQ _ _ _ hx
theorem bp:oN (Call P):=fun _ _ _ _ _ hK h X hX hc=>hX _ _ _ _ _ hK (h X hX hc)
theorem wj {f:Nat} {args:List AV} {σ:ar} {K:AV->ar->Prop} (h:KZ P (Call P) f args σ K):Call P f args σ K:=by
 intro X hX hc
 refine hc _ _ _ _ ?_
 rcases h with⟨md,vf,h1,h2,h3⟩|h
 ·exact .inl ⟨md,vf,h1,h2,fun hl=>jc (fun f args σ K h=>h X hX hc) hX _ _ _ _ _ (fun _ _ _ h=>h) (h3 hl)⟩
 ·exact .inr h
theorem tx {f:Nat} {md:List (Nat×Nat)} {args:List AV} {σ:ar} {K:AV->ar->Prop} {vf:ze} (hf:vM P f md=some vf) (ha:vf.xi=args.length) (h:(∀a∈args,eu a)->dx (Call P) vf.body (j0 vf.res K) (cj args) σ):Call P f args σ K:=
 wj (.inl ⟨md,vf,hf,ha,h⟩)
theorem lx {f:Nat} {args:List AV} {σ:ar} {K:AV->ar->Prop} {vf:ze} (hf:mV P f=some vf) (ha:vf.xi=args.length) (h:(∀a∈args,eu a)->dx (Call P) vf.body (j0 vf.res K) (cj args) σ):Call P f args σ K:=
 tx hf ha h
theorem gw {f:Nat} {args:List AV} {σ:ar} {K:AV->ar->Prop} (h:Sound P f args σ K):Call P f args σ K:=wj (.inr h)
def lS (P:Program) (f:Nat) (args:List AV) (r:AV):Prop:=∀σ,PC (Call P) f args σ (fun r'=>r'=r)
theorem lS.body {f:Nat} {args:List AV} {r:AV} {nt na:Nat} {body:VC} {res:List mE} (hf:mV P f=some ⟨nt,na,body,res⟩) (ha:na=args.length) (h:(∀a∈args,eu a)->∀σ:ar,dx (Call P) body (j0 res fun r0 σ'=>∃r',fz σ'.get 6 r0=some r'/\r'=r) (cj args) ⟨V.ro σ.get,σ.next⟩):lS P f args r:=fun σ=>lx hf ha fun hl=>h hl σ
variable {Q:Ex->Env->ar->Prop} {K:Env->ar->Prop} {env:Env} {σ:ar}
theorem DW {a b:VC} (h:∀N:Env->ar->Prop,(∀e s,dx X b Q e s->N e s)->dx X a (dd N Q) env σ):dx X (.seq a b) Q env σ:=h _ fun _ _ h=>h
theorem za (h:Q .normal env σ):dx X .skip Q env σ:=h
theorem y8 {id:Nat} (h:Q (.exit id) env σ):dx X (.exit id) Q env σ:=h
theorem DV (h:Q .ret env σ):dx X .ret Q env σ:=h
theorem tq {id:Nat} {c:VC} (h:dx X c (aU id Q) env σ):dx X (.block id c) Q env σ:=h
theorem DT {o:aT} {c:VC} (h:∀N:AV->ar->Prop,(∀v s,dx X c Q (upd env o.dst v) s->N v s)->if aH o.guard env then fC X false o env σ N else N .undef σ):dx X (.one o c) Q env σ:=by
 have:=h (fun v s=>dx X c Q (upd env o.dst v) s) fun _ _ h=>h
 unfold dx
 split
 ·rename_i hw;rw[if_pos hw]at this;exact this
 ·rename_i hw;rw[if_neg hw]at this;exact this
def ep (s n:Nat):AV->Prop
 | .own id 0 _=>id=⟨s,n⟩
 |_=>False
def ev (n:Nat):AV->Prop
 | .own id _ _=>¬id.bQ=n
 |_=>True
theorem y9 {t s:Nat} {y:O} {c:VC} (h1:ep s σ.next (env t)) (h2:ev σ.next (cF env y)) (h:dx X c Q env σ):dx X (.loc t s y c) Q env σ:=by
 refine⟨⟨?_,fun id o l he=>?_⟩,h⟩
 ·revert h1
  unfold ep
  split
  ·rename_i id l he;rintro rfl;exact⟨l,he⟩
  ·exact fun h=>h.elim
 ·rw[he]at h2;exact h2
theorem eT {a b:VC} (ha:dx X a Q env σ) (hb:dx X b Q env σ):dx X (.both a b) Q env σ:=⟨ha,hb⟩
theorem DU {draw:Bool} {ops:List aT} (h:∀N:Env->ar->Prop,(∀e s,Q .normal e s->N e s)->wpOps X draw ops N env σ):dx X (.ew draw ops) Q env σ:=h _ fun _ _ h=>h
theorem It {ops:List aT} (h:cq ops (Q .normal) env σ):dx X (.Ls ops) Q env σ:=h
theorem A5 {draw:Bool} (h:K env ⟨σ.get,σ.next+1⟩):wpOps X draw [] K env σ:=h
theorem MZ {draw:Bool} {o:aT} {r:List aT} (h:∀N:AV->ar->Prop,(∀v s,wpOps X draw r K (upd env o.dst v) s->N v s)->if aH o.guard env then fC X draw o env σ N else N .undef σ):wpOps X draw (o::r) K env σ:=by
 have:=h (fun v s=>wpOps X draw r K (upd env o.dst v) s) fun _ _ h=>h
 unfold wpOps
 split
 ·rename_i hw;rw[if_pos hw]at this;exact this
 ·rename_i hw;rw[if_neg hw]at this;exact this
theorem Iu {c:O} {x y:VC} {b:Bool} (hc:cF env c=.bool b) (ht:b=true->dx X x Q env σ) (hf:b=false->dx X y Q env σ):dx X (.cond c x y) Q env σ:=by
 unfold dx
 simp only[hc]
 cases b with
 |true=>exact ht rfl
 |false=>exact hf rfl
inductive mZ:AV->Prop->Prop->Prop
 |t {A B:Prop}:A->mZ (.bool true) A B
 |f {A B:Prop}:B->mZ (.bool false) A B
theorem tr {c:O} {x y:VC} {v:AV} (hv:cF env c=v) (h:mZ v (dx X x Q env σ) (dx X y Q env σ)):dx X (.cond c x y) Q env σ:=by
 cases h with
 |t h=>exact Iu hv (fun _=>h) (fun e=>by cases e)
 |f h=>exact Iu hv (fun e=>by cases e) (fun _=>h)
theorem MY {c:VC} (I:Nat->Env->ar->Prop) (n:Nat) (h0:I n env σ) (step:∀n env σ,I n env σ->dx X c (fun x e s=>match x with| .normal=>∃m,m<n/\I m e s|x=>Q x e s) env σ)
  (hX:∀(c:VC) (Q Q':Ex->Env->ar->Prop) env σ,(∀x e s,Q x e s->Q' x e s)->dx X c Q env σ->dx X c Q' env σ):dx X (.loop c) Q env σ:=by
 have key:∀N n env σ,n<N->I n env σ->DF (dx X c) Q N env σ:=by
  intro N
  induction N with
  |zero=>intro n env σ h;exact absurd h (Nat.not_lt_zero _)
  |succ N ih=>
   intro n env σ hn hI
   refine hX c _ _ env σ (fun x e s hx=>?_) (step n env σ hI)
   cases x with
   |normal=>obtain⟨m,hm,Rk⟩:=hx;exact ih m e s (by omega) Rk
   |exit id=>exact hx
   |ret=>exact hx
 exact⟨n+1,key _ n env σ (Nat.lt_succ_self _) h0⟩
theorem Kh {c:VC} (I:Nat->Env->ar->Prop) (n:Nat) (h0:I n env σ) (step:∀n env σ,I n env σ->dx (Call P) c (fun x e s=>match x with| .normal=>∃m,m<n/\I m e s|x=>Q x e s) env σ):dx (Call P) (.loop c) Q env σ:=
 MY I n h0 step fun c Q Q' env σ hQ h=>jc (fun _ _ _ _ h=>h) bp c Q Q' env σ hQ h
def wv:VC->List Nat
 | .ew _ ops=>ops.filterMap (·.dst)
 | .seq a b=>wv a++wv b
 | .cond _ a b=>wv a++wv b
 | .block _ a=>wv a
 | .loop a=>wv a
 | .one o c=>o.dst.toList++wv c
 | .both a b=>wv a++wv b
 | .loc _ _ _ c=>wv c
 | .Ls ops=>ops.filterMap (·.dst)
 |_=>[]
def gh (l:List Nat) (env ik:Env):Prop:=∀t,l.contains t=false->ik t=env t
theorem gh.refl (l:List Nat) (env:Env):gh l env env:=fun _ _=>rfl
theorem gh.trans {l:List Nat} {e e' e'':Env} (h:gh l e e') (k:gh l e' e''):gh l e e'':=fun t ht=>(k t ht).trans (h t ht)
theorem gh.sub {l l':List Nat} {e e':Env} (h:gh l e e') (hs:∀t,t∈l->t∈l'):gh l' e e':=fun t ht=>h t (by
 rw[<-Bool.not_eq_true]at ht ⊢
 simp only[List.contains_iff_mem]at ht ⊢
 exact fun hc=>ht (hs t hc))
theorem gh.upd {l:List Nat} {e e':Env} {d:Option Nat} {v:AV} (h:gh l e e') (hd:∀t,d=some t->t∈l):gh l e (upd e' d v):=fun t ht=>by
 cases d with
 |none=>exact h t ht
 |some d=>
  have:t≠d:=fun hc=>by subst hc;rw[<-Bool.not_eq_true,List.contains_iff_mem]at ht;exact ht (hd _ rfl)
  show(if t=d then v else e' t)=e t
  rw[if_neg this];exact h t ht
theorem nY {draw:Bool} {Q:Env->ar->Prop} {l:List Nat} {e0:Env}:∀(ops:List aT) (env:Env) (σ:ar),(∀t,t∈ops.filterMap (·.dst)->t∈l)->gh l e0 env->wpOps (Call P) draw ops Q env σ->wpOps (Call P) draw ops (fun e s=>Q e s/\gh l e0 e) env σ
 |[],env,σ,_,hk,hp=>⟨hp,hk⟩
 |o::r,env,σ,hl,hk,hp=>by
  have hd:∀t,o.dst=some t->t∈l:=fun t ht=>hl t (List.mem_filterMap.2 ⟨o,by simp,ht⟩)
  have hr:∀t,t∈r.filterMap (·.dst)->t∈l:=fun t ht=>hl t (by
   obtain⟨x,hx,h⟩:=List.mem_filterMap.1 ht
   exact List.mem_filterMap.2 ⟨x,List.mem_cons_of_mem _ hx,h⟩)
  unfold wpOps at hp ⊢
  split at hp
  ·rename_i hw;rw[if_pos hw]
   exact qL (fun _ _ _ _ h=>h) bp (fun v σ' h=>nY r _ _ hr (hk.upd hd) h) hp
  ·rename_i hw;rw[if_neg hw];exact nY r _ _ hr (hk.upd hd) hp
theorem k8 {Q:Env->ar->Prop} {l:List Nat} {e0:Env}:∀(ops:List aT) (env:Env) (σ:ar),(∀t,t∈ops.filterMap (·.dst)->t∈l)->gh l e0 env->cq ops Q env σ->cq ops (fun e s=>Q e s/\gh l e0 e) env σ
 |[],env,σ,_,hk,hp=>⟨hp,hk⟩
 |o::r,env,σ,hl,hk,hp=>by
  have hd:∀t,o.dst=some t->t∈l:=fun t ht=>hl t (List.mem_filterMap.2 ⟨o,by simp,ht⟩)
  have hr:∀t,t∈r.filterMap (·.dst)->t∈l:=fun t ht=>hl t (by
   obtain⟨x,hx,h⟩:=List.mem_filterMap.1 ht
   exact List.mem_filterMap.2 ⟨x,List.mem_cons_of_mem _ hx,h⟩)
  unfold cq at hp ⊢
  refine⟨hp.1,?_⟩
  replace hp:=hp.2
  split at hp
  ·split at hp
   ·exact k8 r _ _ hr (hk.upd hd) hp
   ·exact hp.elim
  ·split at hp
   ·exact k8 r _ _ hr (hk.upd hd) hp
   ·exact hp.elim
  ·split at hp
   ·exact k8 r _ _ hr (hk.upd hd) hp
   ·exact hp.elim
theorem xG {l:List Nat} {e0:Env}:∀(c:VC) (Q:Ex->Env->ar->Prop) (env:Env) (σ:ar),(∀t,t∈wv c->t∈l)->gh l e0 env->dx (Call P) c Q env σ->dx (Call P) c (fun x e s=>Q x e s/\gh l e0 e) env σ:=by
 intro c
 induction c with
 |skip=>intro Q env σ _ hk hp;exact⟨hp,hk⟩
 |exit id=>intro Q env σ _ hk hp;exact⟨hp,hk⟩
 |ret=>intro Q env σ _ hk hp;exact⟨hp,hk⟩
 |one o c ih=>
  intro Q env σ hl hk hp
  have hd:∀t,o.dst=some t->t∈l:=fun t ht=>hl t (List.mem_append_left _ (by rw[ht];simp))
  have hr:∀t,t∈wv c->t∈l:=fun t ht=>hl t (List.mem_append_right _ ht)
  unfold dx at hp ⊢
  split at hp
  ·rename_i hw;rw[if_pos hw]
   exact qL (fun _ _ _ _ h=>h) bp (fun v σ' h=>ih Q _ _ hr (hk.upd hd) h) hp
  ·rename_i hw;rw[if_neg hw];exact ih Q _ _ hr (hk.upd hd) hp
 |both a b iha ihb=>
  intro Q env σ hl hk hp
  exact⟨iha Q env σ (fun t ht=>hl t (List.mem_append_left _ ht)) hk hp.1,ihb Q env σ (fun t ht=>hl t (List.mem_append_right _ ht)) hk hp.2⟩
 |loc t s y c ih=>intro Q env σ hl hk hp;exact⟨hp.1,ih Q env σ hl hk hp.2⟩
 |Ls ops=>intro Q env σ hl hk hp;exact k8 ops env σ hl hk hp
 |ew draw ops=>intro Q env σ hl hk hp;exact nY ops env σ hl hk hp
 |seq a b iha ihb=>
  intro Q env σ hl hk hp
  refine jc (fun _ _ _ _ h=>h) bp a _ _ env σ (fun x e s hx=>?_) (iha _ env σ (fun t ht=>hl t (List.mem_append_left _ ht)) hk hp)
  cases x with
  |normal=>exact ihb Q e s (fun t ht=>hl t (List.mem_append_right _ ht)) hx.2 hx.1
  |exit id=>exact hx
  |ret=>exact hx
 |cond c a b iha ihb=>
  intro Q env σ hl hk hp
  unfold dx at hp ⊢
  split at hp
  ·rename_i t ht
   cases t with
   |true=>exact iha Q env σ (fun t ht=>hl t (List.mem_append_left _ ht)) hk hp
   |false=>exact ihb Q env σ (fun t ht=>hl t (List.mem_append_right _ ht)) hk hp
  ·exact hp.elim
 |block id a iha=>
  intro Q env σ hl hk hp
  refine jc (fun _ _ _ _ h=>h) bp a _ _ env σ (fun x e s hx=>?_) (iha _ env σ hl hk hp)
  obtain⟨hx,EC⟩:=hx
  cases x with
  |normal=>exact⟨hx,EC⟩
  |ret=>exact⟨hx,EC⟩
  |exit jB=>
   unfold aU at hx ⊢
   dsimp only at hx ⊢
   split at hx
   ·rename_i hid;rw[if_pos hid];exact⟨hx,EC⟩
   ·rename_i hid;rw[if_neg hid];exact⟨hx,EC⟩
 |loop a iha=>
  intro Q env σ hl hk hp
  obtain⟨n,hp⟩:=hp
  refine⟨n,?_⟩
  induction n generalizing env σ with
  |zero=>exact hp
  |succ n ihn=>
   refine jc (fun _ _ _ _ h=>h) bp _ _ _ _ _ (fun x e s hx=>?_) (iha _ env σ hl hk hp)
   obtain⟨hx,EC⟩:=hx
   cases x with
   |normal=>exact ihn e s EC hx
   |exit id=>exact⟨hx,EC⟩
   |ret=>exact⟨hx,EC⟩
theorem aQ {c:VC} (I:Nat->Env->ar->Prop) (n:Nat) (h0:I n env σ) (step:∀n e s,I n e s->gh (wv c) env e->dx (Call P) c (fun x e s=>match x with| .normal=>∃m,m<n/\I m e s|x=>Q x e s) e s):dx (Call P) (.loop c) Q env σ:=by
 refine Kh (fun n e s=>I n e s/\gh (wv c) env e) n ⟨h0,gh.refl _ _⟩ fun n e s hI=>?_
 refine jc (fun _ _ _ _ h=>h) bp _ _ _ _ _ (fun x e' s' hx=>?_) (xG c _ e s (fun _ h=>h) hI.2 (step n e s hI.1 hI.2))
 obtain⟨hx,hk⟩:=hx
 cases x with
 |normal=>obtain⟨m,hm,h⟩:=hx;exact⟨m,hm,h,hk⟩
 |exit id=>exact hx
 |ret=>exact hx
theorem Ix {k:Nat} (h:k<=9223372036854775807):IntKind.i64.wrap (k:Int)=k:=by rw[IntKind.wrap_i64];omega
theorem bW {z:Int} (h: -9223372036854775808<=z/\z<=9223372036854775807):IntKind.i64.wrap z=z:=by rw[IntKind.wrap_i64];omega
theorem aA {k:Nat} (h:(k:Int)+1<=9223372036854775807):IntKind.i64.wrap ((k:Int)+1)=((k+1:Nat):Int):=by rw[IntKind.wrap_i64];omega
theorem all_succ {k:Nat} {p:Nat->Prop} (h:∀j,j<k->p j) (hk:p k):∀j,j<k+1->p j:=fun j hj=>by
 by_cases wR:j=k
 ·subst wR;exact hk
 ·exact h j (by omega)
theorem aI (g:Rows) (n:Nat) (k:IntKind) (m:Int):fz g (n+1) (.int k m)=some (.int k m):=by rw[fz]<;>intros<;>simp_all
theorem aZ (g:Rows) (n:Nat) (b:Bool):fz g (n+1) (.bool b)=some (.bool b):=by rw[fz]<;>intros<;>simp_all
theorem bt (g:Rows) (n:Nat) (b:ByteArray):fz g (n+1) (.str b)=some (.str b):=by rw[fz]<;>intros<;>simp_all
theorem ck (g:Rows) (n:Nat) (l:List (List AV)):fz g (n+1) (.sl l)=some (.sl l):=by rw[fz]<;>intros<;>simp_all
theorem aS (g:Rows) (n:Nat):fz g (n+1) .b4=some .b4:=by rw[fz]<;>intros<;>simp_all
theorem Ps {t:Nat} {r r0:AV} {x:Ex} (hx:x=.ret∨x=.normal) (he:env t=r0) (hz:fz σ.get 6 r0=some r):j0 [.tmp t] (fun r0 σ'=>∃r',fz σ'.get 6 r0=some r'/\r'=r) x env σ:=by
 have:∃vs,eZ env σ.get [.tmp t]=some vs/\∃r',fz σ.get 6 (fo vs)=some r'/\r'=r:=⟨[env t],rfl,r,by subst he;exact hz,rfl⟩
 rcases hx with rfl|rfl
 ·exact this
 ·exact this
def aj (P:Program) (f:Nat) (args:List AV) (r:AV):Prop:=∀n:Nat,Call P f args ⟨fun _=>none,n⟩ fun r0 σ'=>∃r',fZ σ'.get 6 r0=some r'/\r'=r
theorem aj.body {f:Nat} {args:List AV} {r:AV} {nt na:Nat} {body:VC} {res:List mE} (hf:mV P f=some ⟨nt,na,body,res⟩) (ha:na=args.length) (h:(∀a∈args,eu a)->∀n:Nat,dx (Call P) body (j0 res fun r0 σ'=>∃r',fZ σ'.get 6 r0=some r'/\r'=r) (cj args) ⟨fun _=>none,n⟩):aj P f args r:=fun n=>lx hf ha fun hl=>h hl n
theorem aj.x {f:Nat} {args eB:List AV} {r:AV} (h:aj P f eB r) {σ:ar} (hv:da (dO σ.get) 6 args=some eB):gp (Call P) f args σ (fun r'=>r'=r):=.inr ⟨eB,hv,h _⟩
theorem lS.x {f:Nat} {args:List AV} {r:AV} (h:lS P f args r) (σ:ar):gp (Call P) f args σ (fun r'=>r'=r):=.inl (h σ)
theorem dQ (g:Rows) (n:Nat) (k:IntKind) (m:Int):fZ g (n+1) (.int k m)=some (.int k m):=by rw[fZ]<;>intros<;>simp_all
theorem eF (g:Rows) (n:Nat) (b:Bool):fZ g (n+1) (.bool b)=some (.bool b):=by rw[fZ]<;>intros<;>simp_all
theorem kc (g:Rows) (n:Nat):fZ g (n+1) .b4=some .b4:=by rw[fZ]<;>intros<;>simp_all
theorem eo (g:Rows) (n:Nat) (l:List AV):fZ g (n+1) (.gn l)=(dU g n l).map AV.gn:=by rw[fZ]
theorem Dj (g:Rows) (n:Nat) (l:List AV):fZ g (n+1) (.agg l)=(dU g n l).map AV.agg:=by rw[fZ]
theorem s8 {g:Rows} {n:Nat} {id:Id} {off len sz:Nat} {rows rows':List (List AV)} (h:g id=some ⟨true,sz,rows⟩) (hl:off+len<=rows.length) (hr:gN g n ((rows.drop off).take len)=some rows'):fZ g (n+1) (.own id off len)=some (.sl rows'):=by
 rw[fZ];simp only[h,if_true,if_pos hl,hr,Option.map_some]
theorem bD (g:Rows) (n:Nat):dU g n []=some []:=by rw[dU]
theorem aX (g:Rows) (n:Nat) (a:AV) (l:List AV):dU g n (a::l)=match fZ g n a with
  |some b=>(dU g n l).map (b::·)
  |none=>none:=by rw[dU];cases fZ g n a<;>rfl
theorem si {g:Rows} {n:Nat}:∀{l:List (List AV)},(∀c∈l,dU g n c=some c)->gN g n l=some l
 |[],_=>by rw[gN]
 |c::r,h=>by rw[gN,h c (by simp),si fun d hd=>h d (List.mem_cons_of_mem _ hd)];rfl
theorem bf (g:Rows) (n:Nat) (l:List AV):fz g (n+1) (.agg l)=(da g n l).map AV.agg:=by rw[fz]
theorem aO (g:Rows) (n:Nat) (l:List AV):fz g (n+1) (.cI l)=some (.cI l):=by rw[fz]<;>intros<;>simp_all
theorem ua {g:Rows} {n:Nat} {id:Id} {i off sz:Nat} {rows:List (List AV)} {cs oP:List AV} (h:g id=some ⟨true,sz,rows⟩) (hi:rows[i]? =some cs) (hr:da g n (cs.drop off)=some oP):fz g (n+1) (.ptr id i off)=some (.cI oP):=by
 rw[fz];simp only[h,if_true,hi,hr,Option.map_some]
theorem aq (g:Rows) (n:Nat):da g n []=some []:=by rw[da]
theorem ah (g:Rows) (n:Nat) (a:AV) (l:List AV):da g n (a::l)=match fz g n a with
  |some b=>(da g n l).map (b::·)
  |none=>none:=by rw[da];cases fz g n a<;>rfl
theorem uN {t:Nat} {r r0:AV} {x:Ex} (hx:x=.ret∨x=.normal) (he:env t=r0) (hz:fZ σ.get 6 r0=some r):j0 [.tmp t] (fun r0 σ'=>∃r',fZ σ'.get 6 r0=some r'/\r'=r) x env σ:=by
 have:∃vs,eZ env σ.get [.tmp t]=some vs/\∃r',fZ σ.get 6 (fo vs)=some r'/\r'=r:=⟨[env t],rfl,r,by subst he;exact hz,rfl⟩
 rcases hx with rfl|rfl
 ·exact this
 ·exact this
theorem aM {t:Nat} {b c:Bool} {x:Ex} (hx:x=.ret∨x=.normal) (he:env t=.bool b) (hb:b=c):j0 [.tmp t] (fun r0 σ'=>∃r',fZ σ'.get 6 r0=some r'/\r'=.bool c) x env σ:=uN hx he (by rw[eF,hb])
theorem bZ {t:Nat} {k:IntKind} {b c:Int} {x:Ex} (hx:x=.ret∨x=.normal) (he:env t=.int k b) (hb:b=c):j0 [.tmp t] (fun r0 σ'=>∃r',fZ σ'.get 6 r0=some r'/\r'=.int k c) x env σ:=uN hx he (by rw[dQ,hb])
theorem gP {t u:Nat} {r r1 r2:AV} {x:Ex} (hx:x=.ret∨x=.normal) (h1:env t=r1) (h2:env u=r2) (hz:fZ σ.get 6 (.gn [r1,r2])=some r):j0 [.tmp t,.tmp u] (fun r0 σ'=>∃r',fZ σ'.get 6 r0=some r'/\r'=r) x env σ:=by
 have:∃vs,eZ env σ.get [.tmp t,.tmp u]=some vs/\∃r',fZ σ.get 6 (fo vs)=some r'/\r'=r:=⟨[env t,env u],rfl,r,by subst h1;subst h2;exact hz,rfl⟩
 rcases hx with rfl|rfl
 ·exact this
 ·exact this
structure Pn (p:Prop):Prop where
 out:p
theorem tw {A B:Prop} (a:A) (b:B):A/\B:=⟨a,b⟩
theorem wk {A R G:Prop} (a:A) (r:R) (h:A->R->G:=by
  intro fL kk
  (repeat(refine Pn.mk ?_;intro N hN))
  (first|((first|apply DW|apply DU);intro N hN)|((first|(apply MZ;intro N hN)|(apply DT;intro N hN));simp only[go_sem, ↓reduceIte,Nat.reduceEqDiff,Nat.reduceAdd,Nat.reduceSub,Nat.reduceMul,Nat.reduceLeDiff,Nat.reduceBEq,reduceCtorEq,Nat.reduceLT,Int.reduceLE,Int.reduceLT,Int.reduceToNat,Int.reduceNeg,Int.reduceAdd,Int.reduceEq,fL];first|(refine hN _ _ ?_;clear hN N)|skip)|(apply tr;(simp only[go_sem, ↓reduceIte,Nat.reduceEqDiff,Nat.reduceAdd,Nat.reduceSub,Nat.reduceMul,Nat.reduceLeDiff,Nat.reduceBEq,reduceCtorEq,Nat.reduceLT,Int.reduceLE,Int.reduceLT,Int.reduceToNat,Int.reduceNeg,Int.reduceAdd,Int.reduceEq,fL];rfl);first|with_reducible apply mZ.t|with_reducible apply mZ.f)|(apply A5;refine hN _ _ ?_;clear hN N;try(simp only[dd,aU, ↓reduceIte,Nat.reduceEqDiff]);try(refine hN _ _ ?_;clear hN N))|apply tq|(refine y9 ?_ ?_ ?_;(focus(simp only[go_sem, ↓reduceIte,Nat.reduceEqDiff,Nat.reduceAdd,Nat.reduceSub,Nat.reduceMul,Nat.reduceLeDiff,Nat.reduceBEq,reduceCtorEq,Nat.reduceLT,Int.reduceLE,Int.reduceLT,Int.reduceToNat,Int.reduceNeg,Int.reduceAdd,Int.reduceEq,fL];done));(focus(simp only[go_sem, ↓reduceIte,Nat.reduceEqDiff,Nat.reduceAdd,Nat.reduceSub,Nat.reduceMul,Nat.reduceLeDiff,Nat.reduceBEq,reduceCtorEq,Nat.reduceLT,Int.reduceLE,Int.reduceLT,Int.reduceToNat,Int.reduceNeg,Int.reduceAdd,Int.reduceEq,fL];done)))|((first|apply za|apply y8|apply DV);try(simp only[dd,aU, ↓reduceIte,Nat.reduceEqDiff]);try(refine hN _ _ ?_;clear hN N))|((first|refine hN _ _ ?_|(clear hN N;first|refine hN _ _ ?_|(clear hN N;first|refine hN _ _ ?_|(clear hN N;first|refine hN _ _ ?_|(clear hN N;refine hN _ _ ?_)))));clear hN N))
  (repeat(first|((first|apply DW|apply DU);intro N hN)|((first|(apply MZ;intro N hN)|(apply DT;intro N hN));simp only[go_sem, ↓reduceIte,Nat.reduceEqDiff,Nat.reduceAdd,Nat.reduceSub,Nat.reduceMul,Nat.reduceLeDiff,Nat.reduceBEq,reduceCtorEq,Nat.reduceLT,Int.reduceLE,Int.reduceLT,Int.reduceToNat,Int.reduceNeg,Int.reduceAdd,Int.reduceEq,fL];first|(refine hN _ _ ?_;clear hN N)|skip)|(apply tr;(simp only[go_sem, ↓reduceIte,Nat.reduceEqDiff,Nat.reduceAdd,Nat.reduceSub,Nat.reduceMul,Nat.reduceLeDiff,Nat.reduceBEq,reduceCtorEq,Nat.reduceLT,Int.reduceLE,Int.reduceLT,Int.reduceToNat,Int.reduceNeg,Int.reduceAdd,Int.reduceEq,fL];rfl);first|with_reducible apply mZ.t|with_reducible apply mZ.f)|(apply A5;refine hN _ _ ?_;clear hN N;try(simp only[dd,aU, ↓reduceIte,Nat.reduceEqDiff]);try(refine hN _ _ ?_;clear hN N))|apply tq|(refine y9 ?_ ?_ ?_;(focus(simp only[go_sem, ↓reduceIte,Nat.reduceEqDiff,Nat.reduceAdd,Nat.reduceSub,Nat.reduceMul,Nat.reduceLeDiff,Nat.reduceBEq,reduceCtorEq,Nat.reduceLT,Int.reduceLE,Int.reduceLT,Int.reduceToNat,Int.reduceNeg,Int.reduceAdd,Int.reduceEq,fL];done));(focus(simp only[go_sem, ↓reduceIte,Nat.reduceEqDiff,Nat.reduceAdd,Nat.reduceSub,Nat.reduceMul,Nat.reduceLeDiff,Nat.reduceBEq,reduceCtorEq,Nat.reduceLT,Int.reduceLE,Int.reduceLT,Int.reduceToNat,Int.reduceNeg,Int.reduceAdd,Int.reduceEq,fL];done)))|((first|apply za|apply y8|apply DV);try(simp only[dd,aU, ↓reduceIte,Nat.reduceEqDiff]);try(refine hN _ _ ?_;clear hN N))|((first|refine hN _ _ ?_|(clear hN N;first|refine hN _ _ ?_|(clear hN N;first|refine hN _ _ ?_|(clear hN N;first|refine hN _ _ ?_|(clear hN N;refine hN _ _ ?_)))));clear hN N)))
  (repeat(revert hN;revert N;apply Pn.out))
  exact kk):G:=h a r
theorem wa {A R G:Prop} (a:A) (r:R) (h:A->R->G:=by
  intro fL kk
  (repeat(refine Pn.mk ?_;intro N hN))
  (first|((first|apply DW|apply DU);intro N hN)|((first|(refine K3 rfl fun N hN=>?_)|(apply DT;intro N hN));simp only[go_sem, ↓reduceIte,Nat.reduceEqDiff,Nat.reduceAdd,Nat.reduceSub,Nat.reduceMul,Nat.reduceLeDiff,Nat.reduceBEq,reduceCtorEq,Nat.reduceLT,Int.reduceLE,Int.reduceLT,Int.reduceToNat,Int.reduceNeg,Int.reduceAdd,Int.reduceEq,fL];first|(refine hN _ _ ?_;clear hN N)|skip)|(apply tr;(simp only[go_sem, ↓reduceIte,Nat.reduceEqDiff,Nat.reduceAdd,Nat.reduceSub,Nat.reduceMul,Nat.reduceLeDiff,Nat.reduceBEq,reduceCtorEq,Nat.reduceLT,Int.reduceLE,Int.reduceLT,Int.reduceToNat,Int.reduceNeg,Int.reduceAdd,Int.reduceEq,fL];rfl);first|with_reducible apply mZ.t|with_reducible apply mZ.f)|(apply A5;refine hN _ _ ?_;clear hN N;try(simp only[dd,aU, ↓reduceIte,Nat.reduceEqDiff]);try(refine hN _ _ ?_;clear hN N))|apply tq|(refine y9 ?_ ?_ ?_;(focus(simp only[go_sem, ↓reduceIte,Nat.reduceEqDiff,Nat.reduceAdd,Nat.reduceSub,Nat.reduceMul,Nat.reduceLeDiff,Nat.reduceBEq,reduceCtorEq,Nat.reduceLT,Int.reduceLE,Int.reduceLT,Int.reduceToNat,Int.reduceNeg,Int.reduceAdd,Int.reduceEq,fL];done));(focus(simp only[go_sem, ↓reduceIte,Nat.reduceEqDiff,Nat.reduceAdd,Nat.reduceSub,Nat.reduceMul,Nat.reduceLeDiff,Nat.reduceBEq,reduceCtorEq,Nat.reduceLT,Int.reduceLE,Int.reduceLT,Int.reduceToNat,Int.reduceNeg,Int.reduceAdd,Int.reduceEq,fL];done)))|((first|apply za|apply y8|apply DV);try(simp only[dd,aU, ↓reduceIte,Nat.reduceEqDiff]);try(refine hN _ _ ?_;clear hN N))|((first|refine hN _ _ ?_|(clear hN N;first|refine hN _ _ ?_|(clear hN N;first|refine hN _ _ ?_|(clear hN N;first|refine hN _ _ ?_|(clear hN N;refine hN _ _ ?_)))));clear hN N))
  (repeat(first|((first|apply DW|apply DU);intro N hN)|((first|(refine K3 rfl fun N hN=>?_)|(apply DT;intro N hN));simp only[go_sem, ↓reduceIte,Nat.reduceEqDiff,Nat.reduceAdd,Nat.reduceSub,Nat.reduceMul,Nat.reduceLeDiff,Nat.reduceBEq,reduceCtorEq,Nat.reduceLT,Int.reduceLE,Int.reduceLT,Int.reduceToNat,Int.reduceNeg,Int.reduceAdd,Int.reduceEq,fL];first|(refine hN _ _ ?_;clear hN N)|skip)|(apply tr;(simp only[go_sem, ↓reduceIte,Nat.reduceEqDiff,Nat.reduceAdd,Nat.reduceSub,Nat.reduceMul,Nat.reduceLeDiff,Nat.reduceBEq,reduceCtorEq,Nat.reduceLT,Int.reduceLE,Int.reduceLT,Int.reduceToNat,Int.reduceNeg,Int.reduceAdd,Int.reduceEq,fL];rfl);first|with_reducible apply mZ.t|with_reducible apply mZ.f)|(apply A5;refine hN _ _ ?_;clear hN N;try(simp only[dd,aU, ↓reduceIte,Nat.reduceEqDiff]);try(refine hN _ _ ?_;clear hN N))|apply tq|(refine y9 ?_ ?_ ?_;(focus(simp only[go_sem, ↓reduceIte,Nat.reduceEqDiff,Nat.reduceAdd,Nat.reduceSub,Nat.reduceMul,Nat.reduceLeDiff,Nat.reduceBEq,reduceCtorEq,Nat.reduceLT,Int.reduceLE,Int.reduceLT,Int.reduceToNat,Int.reduceNeg,Int.reduceAdd,Int.reduceEq,fL];done));(focus(simp only[go_sem, ↓reduceIte,Nat.reduceEqDiff,Nat.reduceAdd,Nat.reduceSub,Nat.reduceMul,Nat.reduceLeDiff,Nat.reduceBEq,reduceCtorEq,Nat.reduceLT,Int.reduceLE,Int.reduceLT,Int.reduceToNat,Int.reduceNeg,Int.reduceAdd,Int.reduceEq,fL];done)))|((first|apply za|apply y8|apply DV);try(simp only[dd,aU, ↓reduceIte,Nat.reduceEqDiff]);try(refine hN _ _ ?_;clear hN N))|((first|refine hN _ _ ?_|(clear hN N;first|refine hN _ _ ?_|(clear hN N;first|refine hN _ _ ?_|(clear hN N;first|refine hN _ _ ?_|(clear hN N;refine hN _ _ ?_)))));clear hN N)))
  (repeat(revert hN;revert N;apply Pn.out))
  exact kk):G:=h a r
theorem sd {A G:Prop} (a:A) (h:A->G:=by
  intro fL
  first|(simp only[go_sem, ↓reduceIte,Nat.reduceEqDiff,Nat.reduceAdd,Nat.reduceSub,Nat.reduceMul,Nat.reduceLeDiff,Nat.reduceBEq,reduceCtorEq,Nat.reduceLT,Int.reduceLE,Int.reduceLT,Int.reduceToNat,Int.reduceNeg,Int.reduceAdd,Int.reduceEq,fL,eZ,gR];done)|fail):G:=h a
theorem sl {A G:Prop} (a:A) (h:A->G:=by
  intro fL
  (try simp only[go_sem, ↓reduceIte,Nat.reduceEqDiff,Nat.reduceAdd,Nat.reduceSub,Nat.reduceMul,Nat.reduceLeDiff,Nat.reduceBEq,reduceCtorEq,Nat.reduceLT,Int.reduceLE,Int.reduceLT,Int.reduceToNat,Int.reduceNeg,Int.reduceAdd,Int.reduceEq,fL])
  try rfl):G:=h a
end Go.Proofs.YtgoelphibofcmaaGreat.V

namespace Go.Proofs.YtgoelphibofcmaaGreat.V
open Go.RowKit
variable {P:Program} {X:fq} {env:Env} {σ:ar}
theorem bK (g:Rows) (n:Nat) (l:List AV):fz g (n+1) (.gn l)=(da g n l).map AV.gn:=by rw[fz]
theorem cK (g:Rows) (n:Nat) (f:Nat) (l:List AV):fz g (n+1) (.fn f l)=if l.all AV.cell then(da g n l).map (AV.fn f)else none:=by rw[fz]
theorem aY (g:Rows) (n:Nat) (id:Id) (i off:Nat):fz g (n+1) (.ptr id i off)=match g id with
  |some r=>if r.w then(match r.rows[i]? with
   |some cs=>(da g n (cs.drop off)).map AV.cI
   |none=>none)else none
  |none=>none:=by rw[fz];rfl
theorem gW (g:Rows) (n:Nat) (id:Id) (off len:Nat):fz g (n+1) (.own id off len)=match g id with
  |some r=>if r.w then(if off+len<=r.rows.length then(dM g n ((r.rows.drop off).take len)).map AV.sl else none)else none
  |none=>none:=by rw[fz];rfl
theorem nF (g:Rows) (n:Nat):dM g n []=some []:=by rw[dM]
theorem x8 (g:Rows) (n:Nat) (c:List AV) (l:List (List AV)):dM g n (c::l)=match da g n c with
  |some b=>(dM g n l).map (b::·)
  |none=>none:=by rw[dM];cases da g n c<;>rfl
theorem tY {g:Rows} {n:Nat}:∀{l:List (List AV)},(∀c∈l,da g n c=some c)->dM g n l=some l
 |[],_=>by rw[dM]
 |c::r,h=>by rw[dM,h c (by simp),tY fun d hd=>h d (List.mem_cons_of_mem _ hd)];rfl
theorem pg {α:Type} {g:Rows} {n:Nat} {e:α->List AV} {l:List α} (h:∀x,da g n (e x)=some (e x)):dM g n (l.map e)=some (l.map e):=tY fun c hc=>by
 obtain⟨x,_,rfl⟩:=List.mem_map.1 hc
 exact h x
theorem sk {α:Type} {g:Rows} {n:Nat} {e:α->List AV} {l:List α} (h:∀x,dU g n (e x)=some (e x)):gN g n (l.map e)=some (l.map e):=si fun c hc=>by
 obtain⟨x,_,rfl⟩:=List.mem_map.1 hc
 exact h x
theorem gz {α:Type} {g:Rows} {n:Nat} {e:α->List AV} {l:List α} {id:Id} {sz len:Nat} (hg:g id=some ⟨true,sz,l.map e⟩) (hl:len=l.length) (h:∀x,da g n (e x)=some (e x)):fz g (n+1) (.own id 0 len)=some (.sl (l.map e)):=by
 subst hl
 rw[gW];simp only[hg,if_true]
 rw[if_pos (by simp),List.drop_zero,List.take_of_length_le (by simp),pg h];rfl
theorem fj {α:Type} {g:Rows} {n:Nat} {e:α->List AV} {l:List α} {id:Id} {sz len:Nat} (hg:g id=some ⟨true,sz,l.map e⟩) (hl:len=l.length) (h:∀x,dU g n (e x)=some (e x)):fZ g (n+1) (.own id 0 len)=some (.sl (l.map e)):=by
 subst hl
 exact s8 hg (by simp) (by rw[List.drop_zero,List.take_of_length_le (by simp),sk h])
theorem all_map {α:Type} {e:α->List AV} {sz:Nat} {l:List α} (h:∀x,(e x).length=sz/\(e x).all AV.cell=true):(l.map e).all (fun c=>c.length==sz&&c.all AV.cell)=true:=by
 rw[List.all_eq_true]
 intro c hc
 obtain⟨x,_,rfl⟩:=List.mem_map.1 hc
 simp[(h x).1,(h x).2]
def NS (P:Program) (f:Nat) (args:List AV) (sz:Nat) (rows:List (List AV)):Prop:=(∀c∈rows,∀a∈c,a.plain=true)/\∀n:Nat,Call P f args ⟨fun _=>none,n⟩ fun r σ'=>∃id,r=.own id 0 rows.length/\σ'.get id=some ⟨true,sz,rows⟩
theorem NS.x {f sz:Nat} {args eB:List AV} {rows:List (List AV)} (h:NS P f eB sz rows) {σ:ar} (hv:da (dO σ.get) 6 args=some eB):CM (Call P) f args σ sz rows:=⟨h.1,eB,hv,h.2 _⟩
theorem Cv {res:List mE} {r:AV} {vs:List AV} {x:Ex} (hx:x=.ret∨x=.normal) (hv:eZ env σ.get res=some vs) (hz:fz σ.get 6 (fo vs)=some r):j0 res (fun r0 σ'=>∃r',fz σ'.get 6 r0=some r'/\r'=r) x env σ:=by
 rcases hx with rfl|rfl
 ·exact⟨vs,hv,r,hz,rfl⟩
 ·exact⟨vs,hv,r,hz,rfl⟩
theorem oU {res:List mE} {r:AV} {vs:List AV} {x:Ex} (hx:x=.ret∨x=.normal) (hv:eZ env σ.get res=some vs) (hz:fZ σ.get 6 (fo vs)=some r):j0 res (fun r0 σ'=>∃r',fZ σ'.get 6 r0=some r'/\r'=r) x env σ:=by
 rcases hx with rfl|rfl
 ·exact⟨vs,hv,r,hz,rfl⟩
 ·exact⟨vs,hv,r,hz,rfl⟩
theorem iE {res:List mE} {K:AV->ar->Prop} {vs:List AV} {x:Ex} (hx:x=.ret∨x=.normal) (hv:eZ env σ.get res=some vs) (hK:K (fo vs) σ):j0 res K x env σ:=by
 rcases hx with rfl|rfl
 ·exact⟨vs,hv,hK⟩
 ·exact⟨vs,hv,hK⟩
theorem iF {f:Nat} {args:List AV} {σ:ar} {K:AV->ar->Prop} {nt na:Nat} {body:VC} {res:List mE} (hf:mV P f=some ⟨nt,na,body,res⟩) (ha:na=args.length) (h:(∀a∈args,eu a)->dx (Call P) body (j0 res K) (cj args) σ):Call P f args σ K:=lx hf ha h
theorem FV {f:Nat} {md:List (Nat×Nat)} {args:List AV} {σ:ar} {K:AV->ar->Prop} {nt na:Nat} {body:VC} {res:List mE} (hf:vM P f md=some ⟨nt,na,body,res⟩) (ha:na=args.length) (h:(∀a∈args,eu a)->dx (Call P) body (j0 res K) (cj args) σ):Call P f args σ K:=tx hf ha h
theorem dD {i:Id} {n:Nat} (h:i.bQ<n):(∀s,(i=⟨s,n⟩)=False/\(i=⟨s,n+1⟩)=False/\(i=⟨s,n+1+1⟩)=False/\(i=⟨s,n+1+1+1⟩)=False/\(i=⟨s,n+1+1+1+1⟩)=False/\(i=⟨s,n+1+1+1+1+1⟩)=False/\(i=⟨s,n+1+1+1+1+1+1⟩)=False/\(i=⟨s,n+1+1+1+1+1+1+1⟩)=False/\(i=⟨s,n+1+1+1+1+1+1+1+1⟩)=False/\(i=⟨s,n+1+1+1+1+1+1+1+1+1⟩)=False/\(⟨s,n⟩=i)=False/\(⟨s,n+1⟩=i)=False/\(⟨s,n+1+1⟩=i)=False/\(⟨s,n+1+1+1⟩=i)=False/\(⟨s,n+1+1+1+1⟩=i)=False/\(⟨s,n+1+1+1+1+1⟩=i)=False/\(⟨s,n+1+1+1+1+1+1⟩=i)=False/\(⟨s,n+1+1+1+1+1+1+1⟩=i)=False/\(⟨s,n+1+1+1+1+1+1+1+1⟩=i)=False/\(⟨s,n+1+1+1+1+1+1+1+1+1⟩=i)=False)/\(i.bQ=n)=False/\(i.bQ=n+1)=False/\(i.bQ=n+1+1)=False/\(i.bQ=n+1+1+1)=False/\(i.bQ=n+1+1+1+1)=False/\(i.bQ=n+1+1+1+1+1)=False/\(i.bQ=n+1+1+1+1+1+1)=False/\(i.bQ=n+1+1+1+1+1+1+1)=False/\(i.bQ=n+1+1+1+1+1+1+1+1)=False/\(i.bQ=n+1+1+1+1+1+1+1+1+1)=False:=by
 refine⟨fun s=>?_,?_⟩
 ·obtain⟨a,b⟩:=i
  simp only[Id.mk.injEq,eq_iff_iff,iff_false,not_and]
  simp only at h
  refine⟨?_,?_,?_,?_,?_,?_,?_,?_,?_,?_,?_,?_,?_,?_,?_,?_,?_,?_,?_,?_⟩<;>(intros;omega)
 ·simp only[eq_iff_iff,iff_false]
  refine⟨?_,?_,?_,?_,?_,?_,?_,?_,?_,?_⟩<;>omega
def nk (a b:Nat) (ids:List Id):Prop:=ids.Nodup/\∀i∈ids,a<=i.bQ/\i.bQ<b
def Kept (σ σ':ar):Prop:=σ.next<=σ'.next/\∀j:Id,j.bQ<σ.next->σ'.get j=σ.get j
theorem Kept.trans {a b c:ar} (h:Kept a b) (k:Kept b c):Kept a c:=⟨Nat.le_trans h.1 k.1,fun j hj=>(k.2 j (Nat.lt_of_lt_of_le hj h.1)).trans (h.2 j hj)⟩
theorem nk.wide {a b a' b':Nat} {ids:List Id} (h:nk a b ids) (h1:a'<=a) (h2:b<=b'):nk a' b' ids:=⟨h.1,fun i hi=>⟨Nat.le_trans h1 (h.2 i hi).1,Nat.lt_of_lt_of_le (h.2 i hi).2 h2⟩⟩
theorem nk.app {a b c d:Nat} {i j:List Id} (h:nk a b i) (k:nk c d j) (LX:b<=c) (po:a<=b) (hcd:c<=d):nk a d (i++j):=
 ⟨List.nodup_append.2 ⟨h.1,k.1,fun x hx y hy e=>by subst e;have:=(h.2 x hx).2;have:=(k.2 x hy).1;omega⟩,fun x hx=>by
  rcases List.mem_append.1 hx with hx|hx
  ·have:=h.2 x hx;omega
  ·have:=k.2 x hx;omega⟩
end Go.Proofs.YtgoelphibofcmaaGreat.V

namespace Go.Proofs.YtgoelphibofcmaaGreat.V
open Go.RowKit
attribute [local irreducible] dx wpOps gp Call
attribute [local go_sem] aH fC eG fW fV cF upd cj K.av cJ AV.cells AV.cell rowOf rowsOf part ld rowAt bj bY dz eb gT bE cZ er fS eU dp eh cX cW dR dS bH aW cN bG cQ cP ee ei ef cL bP cY ec bF aL cU cw gS bl cG bI aP dd aU dB AV.undef bw bB dV ea dI dG cE ep ev cq ek ej cR cV List.getD_cons_zero List.getD_cons_succ List.getD_nil List.all_cons List.all_nil Bool.and_true Bool.true_and Bool.and_self Bool.not_true Bool.not_false Option.map_some Option.map_none Option.bind_some Option.bind_none List.length_cons List.length_nil List.take_succ_cons List.take_zero List.take_nil List.drop_succ_cons List.drop_zero List.drop_nil List.head?_cons List.map_cons List.map_nil List.getElem?_cons_zero List.getElem?_cons_succ List.cons_append List.nil_append List.append_nil List.length_map List.set_cons_zero List.set_cons_succ Nat.reduceMul eq_self Int.toNat_natCast Int.natCast_nonneg and_self true_and and_true decide_true decide_false Bool.false_eq_true Nat.zero_add Nat.add_zero List.contains_cons List.contains_nil Bool.or_false Bool.false_or beq_self_eq_true Nat.reduceBEq ne_eq not_true_eq_false not_false_eq_true Id.mk.injEq false_and and_false Nat.reduceLT Int.reduceLE Int.reduceLT Int.reduceToNat Int.reduceNeg Int.reduceAdd Nat.le_refl List.length_append beq_true beq_false Bool.not_eq_eq_eq_not or_false false_or dO ah aq aI aZ bt ck aS bf aO aY cK bK
variable {P:Program}
def Ia (f g z:Nat):ze:=let s:=f*1000000
 ⟨27,2,(.seq (.ew false [q 4 (.dc (.k (.int .i64 0))) s]) (.seq (.ew false [q 6 (.dc (.t 1)) (s+1000),q 7 (.dc (.t 0)) (s+1001),q 8 (.len (.t 7)) (s+1002),q 9 (.bin .sub .i64 (.t 6) (.t 8)) (s+1003),q 1 (.dc (.t 9)) (s+1004)]) (.seq (.seq (.ew false [q 10 (.dc (.t 1)) (s+2000),q 11 (.bin .lss .i64 (.t 10) (.k (.int .i64 0))) (s+2001)]) (.cond (.t 11) (.seq (.ew false [q 4 (.dc (.k (.int .i64 (-1)))) (s+3000)]) .ret) .skip)) (.seq (.seq (.ew false [q 5 (.dc (.k (.int .i64 0))) (s+4000)]) (.block 0 (.loop (.seq (.seq (.ew false [q 12 (.dc (.t 5)) (s+5000),q 13 (.dc (.t 0)) (s+5001),q 14 (.len (.t 13)) (s+5002),q 15 (.bin .lss .i64 (.t 12) (.t 14)) (s+5003)]) (.cond (.t 15) .skip (.exit 0))) (.seq (.block 1 (.seq (.ew false [q 18 (.dc (.t 0)) (s+7000),q 19 (.dc (.t 5)) (s+7001),q 20 (.dw z (.t 18) (.t 19)) (s+7002),q 21 (.load true z (.t 20)) (s+7003),q 22 (.dc (.t 1)) (s+7004),q 23 (.call g [(.t 21),(.t 22)]) (s+7005),q 1 (.dc (.t 23)) (s+7006)]) (.seq (.ew false [q 24 (.dc (.t 1)) (s+8000),q 25 (.bin .lss .i64 (.t 24) (.k (.int .i64 0))) (s+8001)]) (.cond (.t 25) (.seq (.ew false [q 4 (.dc (.k (.int .i64 (-1)))) (s+9000)]) .ret) .skip)))) (.ew false [q 16 (.dc (.t 5)) (s+6000),q 17 (.bin .add .i64 (.t 16) (.k (.int .i64 1))) (s+6001),q 5 (.dc (.t 17)) (s+6002)])))))) (.seq (.ew false [q 26 (.dc (.t 1)) (s+10000),q 4 (.dc (.t 26)) (s+10001)]) .ret))))),[(.tmp 4)]⟩
def H8 (f:Nat):ze:=let s:=f*1000000
 ⟨12,2,(.seq (.ew false [q 4 (.dc (.k (.int .i64 0))) s]) (.seq (.ew false [q 5 (.dc (.t 1)) (s+1000),q 6 (.dc (.t 0)) (s+1001),q 7 (.len (.t 6)) (s+1002),q 8 (.bin .sub .i64 (.t 5) (.t 7)) (s+1003),q 1 (.dc (.t 8)) (s+1004)]) (.seq (.seq (.ew false [q 9 (.dc (.t 1)) (s+2000),q 10 (.bin .lss .i64 (.t 9) (.k (.int .i64 0))) (s+2001)]) (.cond (.t 10) (.seq (.ew false [q 4 (.dc (.k (.int .i64 (-1)))) (s+3000)]) .ret) .skip)) (.seq (.ew false [q 11 (.dc (.t 1)) (s+4000),q 4 (.dc (.t 11)) (s+4001)]) .ret)))),[(.tmp 4)]⟩
def De (f g z:Nat):ze:=let s:=f*1000000
 ⟨27,2,(.seq (.ew false [q 4 (.dc (.k (.bool false))) s]) (.seq (.seq (.ew false [q 6 (.dc (.t 0)) (s+1000),q 7 (.len (.t 6)) (s+1001),q 8 (.dc (.t 1)) (s+1002),q 9 (.len (.t 8)) (s+1003),q 10 (.Ly true .tI (.t 7) (.t 9)) (s+1004)]) (.cond (.t 10) (.seq (.ew false [q 4 (.dc (.k (.bool false))) (s+2000)]) .ret) .skip)) (.seq (.seq (.ew false [q 5 (.dc (.k (.int .i64 0))) (s+3000)]) (.block 0 (.loop (.seq (.seq (.ew false [q 11 (.dc (.t 5)) (s+4000),q 12 (.dc (.t 0)) (s+4001),q 13 (.len (.t 12)) (s+4002),q 14 (.bin .lss .i64 (.t 11) (.t 13)) (s+4003)]) (.cond (.t 14) .skip (.exit 0))) (.seq (.block 1 (.seq (.ew true [q 17 (.dc (.t 0)) (s+6000),q 18 (.dc (.t 5)) (s+6001),q 19 (.dw z (.t 17) (.t 18)) (s+6002),q 20 (.load true z (.t 19)) (s+6003),q 21 (.dc (.t 1)) (s+6004),q 22 (.dc (.t 5)) (s+6005),q 23 (.dw z (.t 21) (.t 22)) (s+6006),q 24 (.load true z (.t 23)) (s+6007),q 25 (.call g [(.t 20),(.t 24)]) (s+6008),q 26 (.not (.t 25)) (s+6009)]) (.cond (.t 26) (.seq (.ew false [q 4 (.dc (.k (.bool false))) (s+7000)]) .ret) .skip))) (.ew false [q 15 (.dc (.t 5)) (s+5000),q 16 (.bin .add .i64 (.t 15) (.k (.int .i64 1))) (s+5001),q 5 (.dc (.t 16)) (s+5002)])))))) (.seq (.ew false [q 4 (.dc (.k (.bool true))) (s+8000)]) .ret)))),[(.tmp 4)]⟩
def Kv (f:Nat) (t:TS):ze:=let s:=f*1000000
 ⟨26,2,(.seq (.ew false [q 4 (.dc (.k (.bool false))) s]) (.seq (.seq (.ew false [q 6 (.dc (.t 0)) (s+1000),q 7 (.len (.t 6)) (s+1001),q 8 (.dc (.t 1)) (s+1002),q 9 (.len (.t 8)) (s+1003),q 10 (.Ly true .tI (.t 7) (.t 9)) (s+1004)]) (.cond (.t 10) (.seq (.ew false [q 4 (.dc (.k (.bool false))) (s+2000)]) .ret) .skip)) (.seq (.seq (.ew false [q 5 (.dc (.k (.int .i64 0))) (s+3000)]) (.block 0 (.loop (.seq (.seq (.ew false [q 11 (.dc (.t 5)) (s+4000),q 12 (.dc (.t 0)) (s+4001),q 13 (.len (.t 12)) (s+4002),q 14 (.bin .lss .i64 (.t 11) (.t 13)) (s+4003)]) (.cond (.t 14) .skip (.exit 0))) (.seq (.block 1 (.seq (.ew true [q 17 (.dc (.t 0)) (s+6000),q 18 (.dc (.t 5)) (s+6001),q 19 (.dw 1 (.t 17) (.t 18)) (s+6002),q 20 (.load false 1 (.t 19)) (s+6003),q 21 (.dc (.t 1)) (s+6004),q 22 (.dc (.t 5)) (s+6005),q 23 (.dw 1 (.t 21) (.t 22)) (s+6006),q 24 (.load false 1 (.t 23)) (s+6007),q 25 (.Ly true t (.t 20) (.t 24)) (s+6008)]) (.cond (.t 25) (.seq (.ew false [q 4 (.dc (.k (.bool false))) (s+7000)]) .ret) .skip))) (.ew false [q 15 (.dc (.t 5)) (s+5000),q 16 (.bin .add .i64 (.t 15) (.k (.int .i64 1))) (s+5001),q 5 (.dc (.t 16)) (s+5002)])))))) (.seq (.ew false [q 4 (.dc (.k (.bool true))) (s+8000)]) .ret)))),[(.tmp 4)]⟩
def DR (f g z:Nat) (zero:List K):ze:=let s:=f*1000000
 ⟨23,1,(.seq (.ew false [q 2 (.dc (.k .b4)) s]) (.seq (.ew false [q 5 (.dc (.t 0)) (s+1000),q 6 (.len (.t 5)) (s+1001),q 7 (.jC zero (.t 6) (.t 6)) (s+1002),q 3 (.dc (.t 7)) (s+1003)]) (.seq (.seq (.ew false [q 4 (.dc (.k (.int .i64 0))) (s+2000)]) (.block 0 (.loop (.seq (.seq (.ew false [q 8 (.dc (.t 4)) (s+3000),q 9 (.dc (.t 0)) (s+3001),q 10 (.len (.t 9)) (s+3002),q 11 (.bin .lss .i64 (.t 8) (.t 10)) (s+3003)]) (.cond (.t 11) .skip (.exit 0))) (.seq (.block 1 (.ew false [q 14 (.dc (.t 3)) (s+5000),q 15 (.dc (.t 4)) (s+5001),q 16 (.dc (.t 0)) (s+5002),q 17 (.dc (.t 4)) (s+5003),q 18 (.dw z (.t 16) (.t 17)) (s+5004),q 19 (.load true z (.t 18)) (s+5005),q 20 (.call g [(.t 19)]) (s+5006),q 21 (.dw z (.t 14) (.t 15)) (s+5007),⟨none,(.store z (.t 21) (.t 20)),none,(s+5008),[]⟩])) (.ew false [q 12 (.dc (.t 4)) (s+4000),q 13 (.bin .add .i64 (.t 12) (.k (.int .i64 1))) (s+4001),q 4 (.dc (.t 13)) (s+4002)])))))) (.seq (.ew false [q 22 (.dc (.t 3)) (s+6000),q 2 (.dc (.t 22)) (s+6001)]) .ret)))),[(.tmp 2)]⟩
def K1 (f:Nat) (zero:K):ze:=let s:=f*1000000
 ⟨22,1,(.seq (.ew false [q 2 (.dc (.k .b4)) s]) (.seq (.ew false [q 5 (.dc (.t 0)) (s+1000),q 6 (.len (.t 5)) (s+1001),q 7 (.jC [zero] (.t 6) (.t 6)) (s+1002),q 3 (.dc (.t 7)) (s+1003)]) (.seq (.seq (.ew false [q 4 (.dc (.k (.int .i64 0))) (s+2000)]) (.block 0 (.loop (.seq (.seq (.ew false [q 8 (.dc (.t 4)) (s+3000),q 9 (.dc (.t 0)) (s+3001),q 10 (.len (.t 9)) (s+3002),q 11 (.bin .lss .i64 (.t 8) (.t 10)) (s+3003)]) (.cond (.t 11) .skip (.exit 0))) (.seq (.block 1 (.ew false [q 14 (.dc (.t 3)) (s+5000),q 15 (.dc (.t 4)) (s+5001),q 16 (.dc (.t 0)) (s+5002),q 17 (.dc (.t 4)) (s+5003),q 18 (.dw 1 (.t 16) (.t 17)) (s+5004),q 19 (.load false 1 (.t 18)) (s+5005),q 20 (.dw 1 (.t 14) (.t 15)) (s+5006),⟨none,(.store 1 (.t 20) (.t 19)),none,(s+5007),[]⟩])) (.ew false [q 12 (.dc (.t 4)) (s+4000),q 13 (.bin .add .i64 (.t 12) (.k (.int .i64 1))) (s+4001),q 4 (.dc (.t 13)) (s+4002)])))))) (.seq (.ew false [q 21 (.dc (.t 3)) (s+6000),q 2 (.dc (.t 21)) (s+6001)]) .ret)))),[(.tmp 2)]⟩
def wh (n:Nat) (l:Int):Int:=if (n:Int)<=l then l-n else -1
theorem H9 {fk:Nat} (hc:mV P fk=some (H8 fk)) (rows:List (List AV)) (left:Int) (h0:0<=left) (h1:left<=1048576):aj P fk [.sl rows,.int .i64 left] (.int .i64 (wh rows.length left)):=by
 refine aj.body hc rfl fun hl n0=>?_
 try simp only[q]
 have hn:rows.length<=9223372036854775807:=(hl (.sl rows) (by simp)).len
 clear hl
 have hw:IntKind.i64.wrap (left-(rows.length:Int))=left-rows.length:=bW (by omega)
 by_cases hf:(rows.length:Int)<=left
 ·have jI:¬left-(rows.length:Int)<0:=by omega
  (try((repeat(revert hN;revert N;apply Pn.out));refine wk (tw @hw @jI) ?_;(repeat(refine Pn.mk ?_;intro N hN))))
  exact bZ (b:=left-(rows.length:Int)) (.inl rfl) (sd @Nat.zero_add) (by rw[wh,if_pos hf])
 ·have jI:left-(rows.length:Int)<0:=by omega
  (try((repeat(revert hN;revert N;apply Pn.out));refine wk (tw @hw @jI) ?_;(repeat(refine Pn.mk ?_;intro N hN))))
  exact bZ (b:=-1) (.inl rfl) (sd @Nat.zero_add) (by rw[wh,if_neg hf])
def kr {α:Type} (f:α->Nat) (xs:List α) (k:Nat):Nat:=((xs.take k).map f).sum
theorem oz {α:Type} (f:α->Nat) (xs:List α):kr f xs 0=0:=by simp[kr]
theorem H5 {α:Type} (f:α->Nat) (xs:List α):kr f xs xs.length=(xs.map f).sum:=by simp[kr]
theorem CL {α:Type} (f:α->Nat) {xs:List α} {k:Nat} (hk:k<xs.length):kr f xs (k+1)=kr f xs k+f xs[k]:=by
 unfold kr
 rw[List.take_succ_eq_append_getElem hk,List.map_append,List.sum_append];simp
theorem wg {α:Type} (f:α->Nat) (xs:List α) (k:Nat):kr f xs k<=(xs.map f).sum:=by
 unfold kr
 conv=>rhs;rw[<-List.take_append_drop k xs]
 rw[List.map_append,List.sum_append];omega
theorem Ib {α:Type} {e:α->List AV} {z fk gk:Nat} (wt:α->Nat) (hc:mV P fk=some (Ia fk gk z)) (hz:∀x,(e x).length=z) (A9:∀x g,da g 6 [.agg (e x)]=some [.agg (e x)]) (xs:List α) (left:Int) (h0:0<=left) (h1:left<=1048576)
  (hg:∀x∈xs,∀l:Int,0<=l->l<=1048576->aj P gk [.agg (e x),.int .i64 l] (.int .i64 (wh (wt x) l))):aj P fk [.sl (xs.map e),.int .i64 left] (.int .i64 (wh (xs.length+(xs.map wt).sum) left)):=by
 refine aj.body hc rfl fun hl n0=>?_
 try simp only[q]
 have hn:xs.length<=9223372036854775807:=by simpa using(hl (.sl (xs.map e)) (by simp)).len
 clear hl
 have hw:IntKind.i64.wrap (left-(xs.length:Int))=left-xs.length:=bW (by omega)
 by_cases hf:(xs.length:Int)<=left
 ·have jI:¬left-(xs.length:Int)<0:=by omega
  (try((repeat(revert hN;revert N;apply Pn.out));refine wk (tw @hw @jI) ?_;(repeat(refine Pn.mk ?_;intro N hN))))
  refine aQ (fun n env st=>∃k:Nat,n=(xs.length)-k/\k<=(xs.length)/\env 5=.int .i64 (k:Int)/\env 1=(.int .i64 (left-xs.length-(kr wt xs k:Nat)))/\(0<=left-xs.length-(kr wt xs k:Nat))) (xs.length) ⟨0,by omega,by omega,sl (tw @oz (tw @Int.natCast_zero @Int.sub_zero)),sl (tw @oz (tw @Int.natCast_zero @Int.sub_zero)),(by rw[oz];omega)⟩ ?_
  rintro n_a env_a st_a ⟨k,rfl,ale,a5,a1,pU⟩ dY
  have a0:=dY 0 (by kernel_rfl)
  simp only[go_sem, ↓reduceIte,Nat.reduceEqDiff,Nat.reduceAdd,Nat.reduceSub,Nat.reduceLeDiff,reduceCtorEq,oz,Int.natCast_zero,Int.sub_zero]at a0
  clear dY
  by_cases hk:(k:Int)<(xs.length:Int)
  ·have cH:∀{e:Env},(e 5=.int .i64 (IntKind.i64.wrap ((k:Int)+1)))->(e 1=(.int .i64 (left-xs.length-(kr wt xs (k+1):Nat))))->(0<=left-xs.length-(kr wt xs (k+1):Nat))->∃m0,m0<(xs.length)-k/\∃k:Nat,m0=(xs.length)-k/\k<=(xs.length)/\e 5=.int .i64 (k:Int)/\e 1=(.int .i64 (left-xs.length-(kr wt xs k:Nat)))/\(0<=left-xs.length-(kr wt xs k:Nat)):=fun x1 x2 x3=>⟨_,by omega,k+1,rfl,by omega,(by rw[x1,aA (by omega)]),x2,x3⟩
   have fG:k<xs.length:=by omega
   have eJ:(xs.map e)[k]? =some (e xs[k]):=by simp[fG]
   have vD:=hz xs[k]
   have ht:(e xs[k]).take z=e xs[k]:=by rw[<-vD,List.take_length]
   have hs:=CL wt fG
   have Be:=wg wt xs (k+1)
   have iH:=hg _ (List.getElem_mem fG) (left-xs.length-(kr wt xs k:Nat)) pU (by omega)
   have lu:da (dO st_a.get) 6 [.agg (e xs[k]),.int .i64 (left-xs.length-(kr wt xs k:Nat))]=some [.agg (e xs[k]),.int .i64 (left-xs.length-(kr wt xs k:Nat))]:=by
    have q1:=A9 xs[k] (dO st_a.get)
    rw[ah,aq]at q1
    rw[ah,ah,aq,aI]
    revert q1
    cases V.fz (dO st_a.get) 6 (.agg (e xs[k]))<;>simp
   by_cases rq:(wt xs[k]:Int)<=left-xs.length-(kr wt xs k:Nat)
   ·rw[wh,if_pos rq]at iH
    have vV:¬left-xs.length-(kr wt xs k:Nat)-(wt xs[k]:Int)<0:=by omega
    have pr:left-xs.length-(kr wt xs k:Nat)-(wt xs[k]:Int)=left-xs.length-(kr wt xs (k+1):Nat):=by rw[hs];omega
    generalize hex:e xs[k]=c at iH lu eJ vD ht
    (try((repeat(revert hN;revert N;apply Pn.out));refine wk (tw @a5 (tw @a1 (tw @a0 (tw @hk (tw @eJ (tw @vD (tw @ht @Nat.le_refl))))))) ?_;(repeat(refine Pn.mk ?_;intro N hN))))
    refine .inl ⟨_,aj.x iH lu,?_⟩
    refine hN _ _ ?_
    clear hN N
    (try((repeat(revert hN;revert N;apply Pn.out));refine wk (tw @a5 (tw @a1 (tw @a0 @vV))) ?_;(repeat(refine Pn.mk ?_;intro N hN))))
    refine cH ?_ ?_ ((by rw[hs];omega))
    all_goals simp only[go_sem, ↓reduceIte,Nat.reduceEqDiff,Nat.reduceAdd,Nat.reduceSub,Nat.reduceLeDiff,reduceCtorEq,a5,a1,a0,pr]
   ·rw[wh,if_neg rq]at iH
    generalize hex:e xs[k]=c at iH lu eJ vD ht
    (try((repeat(revert hN;revert N;apply Pn.out));refine wk (tw @a5 (tw @a1 (tw @a0 (tw @hk (tw @eJ (tw @vD (tw @ht @Nat.le_refl))))))) ?_;(repeat(refine Pn.mk ?_;intro N hN))))
    refine .inl ⟨_,aj.x iH lu,?_⟩
    refine hN _ _ ?_
    clear hN N
    (try((repeat(revert hN;revert N;apply Pn.out));refine wk (tw @a5 (tw @a1 @a0)) ?_;(repeat(refine Pn.mk ?_;intro N hN))))
    exact bZ (b:=-1) (.inl rfl) (sd @Nat.zero_add) (by rw[wh,if_neg (by omega)])
  ·(try((repeat(revert hN;revert N;apply Pn.out));refine wk (tw @a5 (tw @a1 (tw @a0 @hk))) ?_;(repeat(refine Pn.mk ?_;intro N hN))))
   have fG:k=xs.length:=by omega
   subst fG
   have Qa:=H5 wt xs
   exact bZ (b:=left-xs.length-(kr wt xs xs.length:Nat)) (.inl rfl) (sd (tw @a5 (tw @a1 @a0))) (by rw[wh,if_pos (by omega)];omega)
 ·have jI:left-(xs.length:Int)<0:=by omega
  (try((repeat(revert hN;revert N;apply Pn.out));refine wk (tw @hw @jI) ?_;(repeat(refine Pn.mk ?_;intro N hN))))
  exact bZ (b:=-1) (.inl rfl) (sd @Nat.zero_add) (by rw[wh,if_neg (by omega)])
theorem Gy {α:Type} {xs ys:List α} (hl:xs.length=ys.length) (h:∀j:Nat,j<xs.length->∀(h1:j<xs.length) (h2:j<ys.length),xs[j]=ys[j]):xs=ys:=List.ext_getElem hl fun j h1 h2=>h j h1 h1 h2
theorem BD {α:Type} [DecidableEq α] {e:α->List AV} {z fk gk:Nat} (hc:mV P fk=some (De fk gk z)) (hz:∀x,(e x).length=z) (A9:∀x g,da g 6 [.agg (e x)]=some [.agg (e x)]) (xs ys:List α)
  (hg:∀x y,aj P gk [.agg (e x),.agg (e y)] (.bool (decide (x=y)))):aj P fk [.sl (xs.map e),.sl (ys.map e)] (.bool (decide (xs=ys))):=by
 refine aj.body hc rfl fun hl n0=>?_
 try simp only[q]
 have hn:xs.length<=9223372036854775807:=by simpa using(hl (.sl (xs.map e)) (by simp)).len
 clear hl
 by_cases hlen:xs.length=ys.length
 ·have kf:decide ((xs.length:Int)=(ys.length:Int))=true:=by simp[hlen]
  (try((repeat(revert hN;revert N;apply Pn.out));refine wk @kf ?_;(repeat(refine Pn.mk ?_;intro N hN))))
  refine aQ (fun n env st=>∃k:Nat,n=(xs.length)-k/\k<=(xs.length)/\env 5=.int .i64 (k:Int)/\(∀j:Nat,j<k->∀(h1:j<xs.length) (h2:j<ys.length),xs[j]=ys[j])) (xs.length) ⟨0,by omega,by omega,sl @Nat.zero_add,fun _ h=>absurd h (Nat.not_lt_zero _)⟩ ?_
  rintro n_a env_a st_a ⟨k,rfl,ale,a5,lp⟩ dY
  have a0:=dY 0 (by kernel_rfl);have a1:=dY 1 (by kernel_rfl)
  simp only[go_sem, ↓reduceIte,Nat.reduceEqDiff,Nat.reduceAdd,Nat.reduceSub,Nat.reduceLeDiff,reduceCtorEq]at a0 a1
  clear dY
  by_cases hk:(k:Int)<(xs.length:Int)
  ·have cH:∀{e:Env},(e 5=.int .i64 (IntKind.i64.wrap ((k:Int)+1)))->(∀(h1:k<xs.length) (h2:k<ys.length),xs[k]=ys[k])->∃m0,m0<(xs.length)-k/\∃k:Nat,m0=(xs.length)-k/\k<=(xs.length)/\e 5=.int .i64 (k:Int)/\(∀j:Nat,j<k->∀(h1:j<xs.length) (h2:j<ys.length),xs[j]=ys[j]):=fun x1 x2=>⟨_,by omega,k+1,rfl,by omega,(by rw[x1,aA (by omega)]),(all_succ lp x2)⟩
   have fG:k<xs.length:=by omega
   have Ql:k<ys.length:=by omega
   have eJ:(xs.map e)[k]? =some (e xs[k]):=by simp[fG]
   have BY:(ys.map e)[k]? =some (e ys[k]):=by simp[Ql]
   have vD:=hz xs[k]
   have B8:=hz ys[k]
   have ht:(e xs[k]).take z=e xs[k]:=by rw[<-vD,List.take_length]
   have FN:(e ys[k]).take z=e ys[k]:=by rw[<-B8,List.take_length]
   have iH:=hg xs[k] ys[k]
   have lu:∀g,da g 6 [.agg (e xs[k]),.agg (e ys[k])]=some [.agg (e xs[k]),.agg (e ys[k])]:=fun g=>by
    have q1:=A9 xs[k] g
    have q2:=A9 ys[k] g
    rw[ah,aq]at q1
    rw[ah,q2]
    revert q1
    cases V.fz g 6 (.agg (e xs[k]))<;>simp
   by_cases heq:xs[k]=ys[k]
   ·rw[decide_eq_true heq]at iH
    generalize hex:e xs[k]=c at iH lu eJ vD ht
    generalize hey:e ys[k]=d at iH lu BY B8 FN
    (try((repeat(revert hN;revert N;apply Pn.out));refine wk (tw @a5 (tw @a0 (tw @a1 (tw @hk (tw @eJ (tw @BY (tw @vD (tw @B8 (tw @ht (tw @FN @Nat.le_refl)))))))))) ?_;(repeat(refine Pn.mk ?_;intro N hN))))
    refine⟨_,aj.x iH (lu _),?_⟩
    refine hN _ _ ?_
    clear hN N
    (try((repeat(revert hN;revert N;apply Pn.out));refine wk (tw @a5 (tw @a0 @a1)) ?_;(repeat(refine Pn.mk ?_;intro N hN))))
    exact cH (sd (tw @a5 (tw @a0 @a1))) (fun _ _=>heq)
   ·rw[decide_eq_false heq]at iH
    generalize hex:e xs[k]=c at iH lu eJ vD ht
    generalize hey:e ys[k]=d at iH lu BY B8 FN
    (try((repeat(revert hN;revert N;apply Pn.out));refine wk (tw @a5 (tw @a0 (tw @a1 (tw @hk (tw @eJ (tw @BY (tw @vD (tw @B8 (tw @ht (tw @FN @Nat.le_refl)))))))))) ?_;(repeat(refine Pn.mk ?_;intro N hN))))
    refine⟨_,aj.x iH (lu _),?_⟩
    refine hN _ _ ?_
    clear hN N
    (try((repeat(revert hN;revert N;apply Pn.out));refine wk (tw @a5 (tw @a0 @a1)) ?_;(repeat(refine Pn.mk ?_;intro N hN))))
    exact aM (b:=false) (.inl rfl) (sd @Nat.zero_add) (decide_eq_false fun h=>heq (List.getElem_of_eq h _)).symm
  ·(try((repeat(revert hN;revert N;apply Pn.out));refine wk (tw @a5 (tw @a0 (tw @a1 @hk))) ?_;(repeat(refine Pn.mk ?_;intro N hN))))
   exact aM (b:=true) (.inl rfl) (sd @Nat.zero_add) (decide_eq_true (Gy hlen fun j hj h1 h2=>lp j (by omega) h1 h2)).symm
 ·have kf:decide ((xs.length:Int)=(ys.length:Int))=false:=decide_eq_false fun h=>hlen (by omega)
  (try((repeat(revert hN;revert N;apply Pn.out));refine wk @kf ?_;(repeat(refine Pn.mk ?_;intro N hN))))
  exact aM (b:=false) (.inl rfl) (sd @Nat.zero_add) (decide_eq_false fun h=>hlen (by subst h;rfl)).symm
theorem N5 {fk:Nat} (hc:mV P fk=some (Kv fk .tI)) (xs ys:List Int):
  aj P fk [.sl (xs.map fun x=>[AV.int .i64 x]),.sl (ys.map fun x=>[AV.int .i64 x])] (.bool (decide (xs=ys))):=by
 refine aj.body hc rfl fun hl n0=>?_
 try simp only[q]
 have hn:xs.length<=9223372036854775807:=by simpa using(hl (.sl (xs.map fun x=>[AV.int .i64 x])) (by simp)).len
 clear hl
 by_cases hlen:xs.length=ys.length
 ·have kf:decide ((xs.length:Int)=(ys.length:Int))=true:=by simp[hlen]
  (try((repeat(revert hN;revert N;apply Pn.out));refine wk @kf ?_;(repeat(refine Pn.mk ?_;intro N hN))))
  refine aQ (fun n env st=>∃k:Nat,n=(xs.length)-k/\k<=(xs.length)/\env 5=.int .i64 (k:Int)/\(∀j:Nat,j<k->∀(h1:j<xs.length) (h2:j<ys.length),xs[j]=ys[j])) (xs.length) ⟨0,by omega,by omega,sl @Nat.zero_add,fun _ h=>absurd h (Nat.not_lt_zero _)⟩ ?_
  rintro n_a env_a st_a ⟨k,rfl,ale,a5,lp⟩ dY
  have a0:=dY 0 (by kernel_rfl);have a1:=dY 1 (by kernel_rfl)
  simp only[go_sem, ↓reduceIte,Nat.reduceEqDiff,Nat.reduceAdd,Nat.reduceSub,Nat.reduceLeDiff,reduceCtorEq]at a0 a1
  clear dY
  by_cases hk:(k:Int)<(xs.length:Int)
  ·have cH:∀{e:Env},(e 5=.int .i64 (IntKind.i64.wrap ((k:Int)+1)))->(∀(h1:k<xs.length) (h2:k<ys.length),xs[k]=ys[k])->∃m0,m0<(xs.length)-k/\∃k:Nat,m0=(xs.length)-k/\k<=(xs.length)/\e 5=.int .i64 (k:Int)/\(∀j:Nat,j<k->∀(h1:j<xs.length) (h2:j<ys.length),xs[j]=ys[j]):=fun x1 x2=>⟨_,by omega,k+1,rfl,by omega,(by rw[x1,aA (by omega)]),(all_succ lp x2)⟩
   have fG:k<xs.length:=by omega
   have Ql:k<ys.length:=by omega
   have eJ:(xs.map fun x=>[AV.int .i64 x])[k]? =some [.int .i64 xs[k]]:=by simp[fG]
   have BY:(ys.map fun x=>[AV.int .i64 x])[k]? =some [.int .i64 ys[k]]:=by simp[Ql]
   by_cases heq:xs[k]=ys[k]
   ·have hq:=decide_eq_true heq
    (try((repeat(revert hN;revert N;apply Pn.out));refine wk (tw @a5 (tw @a0 (tw @a1 (tw @hk (tw @eJ (tw @BY @hq)))))) ?_;(repeat(refine Pn.mk ?_;intro N hN))))
    exact cH (sd (tw @a5 (tw @a0 @a1))) (fun _ _=>heq)
   ·have hq:=decide_eq_false heq
    (try((repeat(revert hN;revert N;apply Pn.out));refine wk (tw @a5 (tw @a0 (tw @a1 (tw @hk (tw @eJ (tw @BY @hq)))))) ?_;(repeat(refine Pn.mk ?_;intro N hN))))
    exact aM (b:=false) (.inl rfl) (sd @Nat.zero_add) (decide_eq_false fun h=>heq (List.getElem_of_eq h _)).symm
  ·(try((repeat(revert hN;revert N;apply Pn.out));refine wk (tw @a5 (tw @a0 (tw @a1 @hk))) ?_;(repeat(refine Pn.mk ?_;intro N hN))))
   exact aM (b:=true) (.inl rfl) (sd @Nat.zero_add) (decide_eq_true (Gy hlen fun j hj h1 h2=>lp j (by omega) h1 h2)).symm
 ·have kf:decide ((xs.length:Int)=(ys.length:Int))=false:=decide_eq_false fun h=>hlen (by omega)
  (try((repeat(revert hN;revert N;apply Pn.out));refine wk @kf ?_;(repeat(refine Pn.mk ?_;intro N hN))))
  exact aM (b:=false) (.inl rfl) (sd @Nat.zero_add) (decide_eq_false fun h=>hlen (by subst h;rfl)).symm
theorem Bt (l:List AV):l++[]=l:=List.append_nil l
def ij {α:Type} (e:α->List AV) (zc:List AV) (xs:List α) (k:Nat):List (List AV):=(xs.take k).map e++List.replicate (xs.length-k) zc
theorem sb {α:Type} (e:α->List AV) (zc:List AV) (xs:List α):List.replicate xs.length zc=ij e zc xs 0:=by simp[ij]
theorem tO {α:Type} (e:α->List AV) (zc:List AV) (xs:List α):ij e zc xs xs.length=xs.map e:=by simp[ij]
theorem tP {α:Type} (e:α->List AV) (zc:List AV) (xs:List α) {k:Nat} (hk:k<xs.length):(ij e zc xs k)[k]? =some zc:=by
 have h1:((xs.take k).map e).length=k:=by simp;omega
 rw[ij,List.getElem?_append_right (by omega),h1,Nat.sub_self,List.getElem?_replicate,if_pos (by omega)]
theorem tQ {α:Type} (e:α->List AV) (zc:List AV) (xs:List α) {k:Nat} (hk:k<xs.length):(ij e zc xs k).set k (e xs[k])=ij e zc xs (k+1):=by
 have h1:((xs.take k).map e).length=k:=by simp;omega
 rw[ij,List.set_append_right _ _ (by omega),h1,Nat.sub_self,ij,List.take_succ_eq_append_getElem hk,List.map_append,List.append_assoc]
 congr 1
 obtain⟨m,hm⟩:∃m,xs.length-k=m+1:=⟨xs.length-k-1,by omega⟩
 rw[hm,show xs.length-(k+1)=m by omega,List.replicate_succ]
 rfl
theorem CR {α:Type} {en:α->List AV} {z fk gk:Nat} {zero:List K} (hc:mV P fk=some (DR fk gk z zero)) (KT:zero.length=z) (hz:∀x,(en x).length=z) (jW:∀x,(en x).all AV.cell=true) (A9:∀x g,da g 5 (en x)=some (en x)) (xs:List α) (hlen:xs.length<=1048576)
  (hg:∀x∈xs,lS P gk [.agg (en x)] (.agg (en x))):lS P fk [.sl (xs.map en)] (.sl (xs.map en)):=by
 refine lS.body hc rfl fun hl σ=>?_
 try simp only[q]
 clear hl
 have hm:(xs.length:Int)<=((16777216:Nat):Int):=by omega
 have h0:(0:Int)<=(xs.length:Int):=by omega
 (try((repeat(revert hN;revert N;apply Pn.out));refine wk (tw @hm (tw @h0 (tw @Int.le_refl (tw (sb en (zero.map K.av) xs) @KT)))) ?_;(repeat(refine Pn.mk ?_;intro N hN))))
 refine aQ (fun n env st=>∃k:Nat,n=(xs.length)-k/\k<=(xs.length)/\env 4=.int .i64 (k:Int)/\st.get ⟨fk*1000000+1002,σ.next+1⟩=some ⟨true,z,ij en (zero.map K.av) xs k⟩) (xs.length) ⟨0,by omega,by omega,sl @Nat.zero_add,sl @Nat.zero_add⟩ ?_
 rintro n_a env_a st_a ⟨k,rfl,ale,a4,ag0⟩ dY
 have a0:=dY 0 (by kernel_rfl);have a3:=dY 3 (by kernel_rfl)
 simp only[go_sem, ↓reduceIte,Nat.reduceEqDiff,Nat.reduceAdd,Nat.reduceSub,Nat.reduceLeDiff,reduceCtorEq]at a0 a3
 clear dY
 by_cases hk:(k:Int)<(xs.length:Int)
 ·have cH:∀{e:Env} {gg:Rows},(e 4=.int .i64 (IntKind.i64.wrap ((k:Int)+1)))->(gg ⟨fk*1000000+1002,σ.next+1⟩=some ⟨true,z,ij en (zero.map K.av) xs (k+1)⟩)->∃m0,m0<(xs.length)-k/\∃k:Nat,m0=(xs.length)-k/\k<=(xs.length)/\e 4=.int .i64 (k:Int)/\gg ⟨fk*1000000+1002,σ.next+1⟩=some ⟨true,z,ij en (zero.map K.av) xs k⟩:=fun x1 x2=>⟨_,by omega,k+1,rfl,by omega,(by rw[x1,aA (by omega)]),x2⟩
  have fG:k<xs.length:=by omega
  have eJ:(xs.map en)[k]? =some (en xs[k]):=by simp[fG]
  have vD:=hz xs[k]
  have IG:=jW xs[k]
  have ht:(en xs[k]).take z=en xs[k]:=by rw[<-vD,List.take_length]
  have iH:=hg _ (List.getElem_mem fG)
  have fH:=tP en (zero.map K.av) xs fG
  have fc:=tQ en (zero.map K.av) xs fG
  have Ov:(zero.map K.av).drop z=[]:=List.drop_of_length_le (by simp[KT])
  generalize hex:en xs[k]=c at iH eJ vD ht IG fc
  (repeat(first|((repeat(revert hN;revert N;apply Pn.out));refine wk (tw @a4 (tw @ag0 (tw @a0 (tw @a3 (tw @hk (tw @eJ (tw @vD (tw @ht (tw @Nat.le_refl (tw @fH (tw @fc (tw @Ov (tw @Bt (tw @IG @KT)))))))))))))) ?_;(repeat(refine Pn.mk ?_;intro N hN)))|((try apply Or.inl);refine⟨_,lS.x (iH) _,?_⟩;refine hN _ _ ?_;clear hN N)))
  refine cH ?_ ?_
  all_goals simp only[go_sem, ↓reduceIte,Nat.reduceEqDiff,Nat.reduceAdd,Nat.reduceSub,Nat.reduceLeDiff,reduceCtorEq,a4,ag0,a0,a3]
 ·(try((repeat(revert hN;revert N;apply Pn.out));refine wk (tw @a4 (tw @ag0 (tw @a0 (tw @a3 @hk)))) ?_;(repeat(refine Pn.mk ?_;intro N hN))))
  have fG:k=xs.length:=by omega
  subst fG
  refine Ps (.inl rfl) (r0:=.own ⟨fk*1000000+1002,σ.next+1⟩ 0 xs.length) (sd (tw @a4 (tw @ag0 (tw @a0 @a3)))) ?_
  rw[tO]at ag0
  exact gz ag0 (by simp) fun x=>A9 x _
theorem Pw {fk:Nat} (hc:mV P fk=some (K1 fk (.int .i64 0))) (xs:List Int) (hlen:xs.length<=1048576):lS P fk [.sl (xs.map fun x=>[AV.int .i64 x])] (.sl (xs.map fun x=>[AV.int .i64 x])):=by
 refine lS.body hc rfl fun hl σ=>?_
 try simp only[q]
 clear hl
 obtain⟨en,KF⟩:∃en:Int->List AV,en=fun x=>[AV.int .i64 x]:=⟨_,rfl⟩
 rw[<-KF]
 have hm:(xs.length:Int)<=((16777216:Nat):Int):=by omega
 have h0:(0:Int)<=(xs.length:Int):=by omega
 (try((repeat(revert hN;revert N;apply Pn.out));refine wk (tw @hm (tw @h0 (tw @Int.le_refl (sb en [AV.int .i64 0] xs)))) ?_;(repeat(refine Pn.mk ?_;intro N hN))))
 refine aQ (fun n env st=>∃k:Nat,n=(xs.length)-k/\k<=(xs.length)/\env 4=.int .i64 (k:Int)/\st.get ⟨fk*1000000+1002,σ.next+1⟩=some ⟨true,1,ij en [AV.int .i64 0] xs k⟩) (xs.length) ⟨0,by omega,by omega,sl @Nat.zero_add,sl @Nat.zero_add⟩ ?_
 rintro n_a env_a st_a ⟨k,rfl,ale,a4,ag0⟩ dY
 have a0:=dY 0 (by kernel_rfl);have a3:=dY 3 (by kernel_rfl)
 simp only[go_sem, ↓reduceIte,Nat.reduceEqDiff,Nat.reduceAdd,Nat.reduceSub,Nat.reduceLeDiff,reduceCtorEq]at a0 a3
 clear dY
 by_cases hk:(k:Int)<(xs.length:Int)
 ·have cH:∀{e:Env} {gg:Rows},(e 4=.int .i64 (IntKind.i64.wrap ((k:Int)+1)))->(gg ⟨fk*1000000+1002,σ.next+1⟩=some ⟨true,1,ij en [AV.int .i64 0] xs (k+1)⟩)->∃m0,m0<(xs.length)-k/\∃k:Nat,m0=(xs.length)-k/\k<=(xs.length)/\e 4=.int .i64 (k:Int)/\gg ⟨fk*1000000+1002,σ.next+1⟩=some ⟨true,1,ij en [AV.int .i64 0] xs k⟩:=fun x1 x2=>⟨_,by omega,k+1,rfl,by omega,(by rw[x1,aA (by omega)]),x2⟩
  have fG:k<xs.length:=by omega
  have eJ:(xs.map en)[k]? =some [AV.int .i64 xs[k]]:=by simp[fG,KF]
  have fH:=tP en [AV.int .i64 0] xs fG
  have fc:=tQ en [AV.int .i64 0] xs fG
  rw[show en xs[k]=[AV.int .i64 xs[k]] by rw[KF]]at fc
  (try((repeat(revert hN;revert N;apply Pn.out));refine wk (tw @a4 (tw @ag0 (tw @a0 (tw @a3 (tw @hk (tw @eJ (tw @fH @fc))))))) ?_;(repeat(refine Pn.mk ?_;intro N hN))))
  refine cH ?_ ?_
  all_goals simp only[go_sem, ↓reduceIte,Nat.reduceEqDiff,Nat.reduceAdd,Nat.reduceSub,Nat.reduceLeDiff,reduceCtorEq,a4,ag0,a0,a3]
 ·(try((repeat(revert hN;revert N;apply Pn.out));refine wk (tw @a4 (tw @ag0 (tw @a0 (tw @a3 @hk)))) ?_;(repeat(refine Pn.mk ?_;intro N hN))))
  have fG:k=xs.length:=by omega
  subst fG
  refine Ps (.inl rfl) (r0:=.own ⟨fk*1000000+1002,σ.next+1⟩ 0 xs.length) (sd (tw @a4 (tw @ag0 (tw @a0 @a3)))) ?_
  rw[tO]at ag0
  exact gz ag0 (by simp) fun x=>by simp[KF,ah,aq,aI]
end Go.Proofs.YtgoelphibofcmaaGreat.V

namespace Go.Proofs.YtgoelphibofcmaaGreat
open Go.RowKit
def Sl (w:World) (fp:List Nat) (v:Value) (n:Nat) (xs:List Value):Prop:=
 ∃A c,v=.slice A n c/\n<=c/\c<=maxLen/\
  ((fp=[]/\n=0)∨∃b o,fp=[b]/\A=some ⟨b,o,none⟩/\∀j u,xs[j]? =some u->w.cell? ⟨b,o+j,none⟩=some u)
def ft (fp:List Nat) (lo hi:Nat):Prop:=∀b∈fp,lo<=b/\b<hi
theorem ft.nil (lo hi:Nat):ft [] lo hi:=fun _ h=>by cases h
theorem Sl.nil (w:World):Sl w [] (.slice none 0 0) 0 []:=⟨none,0,rfl,Nat.le_refl _,by simp[maxLen],.inl ⟨rfl,rfl⟩⟩
def Le {α:Type} (rep:World->List Nat->List Value->α->Prop) (sz:Nat) (w:World) (ny:List (List Value)) (Df:List (List Nat)) (ds:List α):Prop:=
 ny.length=ds.length/\Df.length=ds.length/\∀(i:Nat) (cs:List Value) (f:List Nat) (d:α),ny[i]? =some cs->Df[i]? =some f->ds[i]? =some d->rep w f cs d/\cs.length=sz
def lW {α:Type} (rep:World->List Nat->List Value->α->Prop) (sz:Nat) (w:World) (fp:List Nat) (v:Value) (ds:List α):Prop:=
 ∃ny Df Q4,fp=Q4++Df.flatten/\Sl w Q4 v ds.length ny.flatten/\Le rep sz w ny Df ds
theorem pG {α:Type} {Df:List (List α)} {i:Nat} {f:List α} (h:Df[i]? =some f):∀b∈f,b∈Df.flatten:=fun b hb=>
 List.mem_flatten.2 ⟨f,List.mem_of_getElem? h,hb⟩
theorem sg {α:Type} {ny:List (List α)} {sz:Nat} (h:∀cs∈ny,cs.length=sz) {i j:Nat} {cs:List α} (hi:ny[i]? =some cs) (hj:j<sz):ny.flatten[i*sz+j]? =cs[j]? :=by
 induction ny generalizing i with
 |nil=>simp at hi
 |cons c r ih=>
  have hc:c.length=sz:=h c (by simp)
  cases i with
  |zero=>
   simp at hi;subst hi
   rw[List.flatten_cons,List.getElem?_append_left (by omega)];simp
  |succ i=>
   rw[List.flatten_cons,List.getElem?_append_right (by rw[hc,Nat.succ_mul];omega)]
   have:(i+1)*sz+j-c.length=i*sz+j:=by rw[hc,Nat.succ_mul];omega
   rw[this]
   exact ih (fun cs dn=>h cs (List.mem_cons_of_mem _ dn)) (by simpa using hi)
theorem Le.lens {α:Type} {rep:World->List Nat->List Value->α->Prop} {sz:Nat} {w:World} {ny:List (List Value)} {Df:List (List Nat)} {ds:List α}
  (h:Le rep sz w ny Df ds):∀cs∈ny,cs.length=sz:=fun cs dn=>by
 obtain⟨i,hi,rfl⟩:=List.getElem_of_mem dn
 have h1:i<Df.length:=by rw[h.2.1,<-h.1];exact hi
 have h2:i<ds.length:=by rw[<-h.1];exact hi
 exact(h.2.2 i _ _ _ (List.getElem?_eq_getElem hi) (List.getElem?_eq_getElem h1) (List.getElem?_eq_getElem h2)).2
theorem lW.at_ {α:Type} {rep:World->List Nat->List Value->α->Prop} {sz:Nat} {w:World} {fp:List Nat} {A:Option Addr} {n c:Nat} {ds:List α}
  (h:lW rep sz w fp (.slice A n c) ds) (k:Nat) (hk:k<ds.length):
  ∃b o cs f,A=some ⟨b,o,none⟩/\b∈fp/\(∀x∈f,x∈fp)/\rep w f cs ds[k]/\cs.length=sz/\∀j u,cs[j]? =some u->w.cell? ⟨b,o+(k*sz+j),none⟩=some u:=by
 obtain⟨ny,Df,Q4,rfl,⟨A',c',hv,_,_,hc⟩,hr⟩:=h
 simp only[Value.slice.injEq]at hv
 obtain⟨rfl,hn,rfl⟩:=hv
 rcases hc with⟨_,h0⟩|⟨b,o,rfl,rfl,hc⟩
 ·omega
 have h1:k<ny.length:=by rw[hr.1];exact hk
 have h2:k<Df.length:=by rw[hr.2.1];exact hk
 obtain⟨gr,hl⟩:=hr.2.2 k _ _ _ (List.getElem?_eq_getElem h1) (List.getElem?_eq_getElem h2) (List.getElem?_eq_getElem hk)
 refine⟨b,o,ny[k],Df[k],rfl,by simp,fun x hx=>List.mem_append_right _ (pG (List.getElem?_eq_getElem h2) x hx),gr,hl,fun j u hj=>?_⟩
 have gM:j<sz:=by rw[<-hl];exact(List.getElem?_eq_some_iff.1 hj).1
 exact hc _ u (by rw[sg hr.lens (List.getElem?_eq_getElem h1) gM];exact hj)
theorem lW.len {α:Type} {rep:World->List Nat->List Value->α->Prop} {sz:Nat} {w:World} {fp:List Nat} {v:Value} {ds:List α}
  (h:lW rep sz w fp v ds):∃A c,v=.slice A ds.length c/\ds.length<=c/\c<=maxLen:=by
 obtain⟨_,_,_,_,⟨A,c,hv,h1,h2,_⟩,_⟩:=h
 exact⟨A,c,hv,h1,h2⟩
theorem lW.nil {α:Type} (rep:World->List Nat->List Value->α->Prop) (sz:Nat) (w:World):lW rep sz w [] (.slice none 0 0) ([]:List α):=
 ⟨[],[],[],rfl,Sl.nil w,rfl,rfl,fun i cs f d hc=>by simp at hc⟩
def Flat {α:Type} (enc:α->List Value):World->List Nat->List Value->α->Prop:=fun _ f cs d=>f=[]/\cs=enc d
end Go.Proofs.YtgoelphibofcmaaGreat

namespace Go.Proofs.YtgoelphibofcmaaGreat
open Go.RowKit
def Q (w w':World):Prop:=∃q,w'=w.drewN q
theorem Q.refl (w:World):Q w w:=⟨0,rfl⟩
theorem Q.d {w w':World} (h:Q w w') (n:Nat):Q w (w'.drewN n):=by obtain⟨q,rfl⟩:=h;exact⟨q+n,by rw[World.drewN_drewN]⟩
theorem Q.d1 {w w':World} (h:Q w w'):Q w w'.drew:=by obtain⟨q,rfl⟩:=h;exact⟨q+1,rfl⟩
theorem Q.n (w:World) (n:Nat):Q w (w.drewN n):=⟨n,rfl⟩
theorem Q.trans {a b c:World} (h:Q a b) (k:Q b c):Q a c:=by obtain⟨q,rfl⟩:=k;exact h.d q
theorem Gi {B:Nat} {a w:World} (h:Below B a w) (n:Nat):Below B a (w.drewN n):=⟨h.os,h.tape,h.output,h.size,h.block⟩
theorem Q.below {w w':World} (h:Q w w'):Below w.heap.size w w':=by obtain⟨q,rfl⟩:=h;exact Gi (Below.refl _ _) q
theorem ib {a b:Bool} (h:a=b):Ending.returned (.bool a)=.returned (.bool b):=by rw[h]
theorem DM {k:IntKind} {a b:Int} (h:a=b):Ending.returned (.int k a)=.returned (.int k b):=by rw[h]
end Go.Proofs.YtgoelphibofcmaaGreat

namespace Go.Proofs.YtgoelphibofcmaaGreat
open Go.RowKit
end Go.Proofs.YtgoelphibofcmaaGreat

namespace Go.Proofs.YtgoelphibofcmaaGreat
open Go.RowKit
end Go.Proofs.YtgoelphibofcmaaGreat

namespace Go.Proofs.YtgoelphibofcmaaGreat
open Go.RowKit
structure aB where
 eS:Int
 eH:Int
deriving DecidableEq
structure ad where
 aJ:aB
 aN:Int
deriving DecidableEq
structure eK where
 ai:List ad
deriving DecidableEq
structure gK where
 aD:ByteArray
 eA:Int
deriving DecidableEq
structure e5 where
 aD:ByteArray
 bV:List Int
deriving DecidableEq
structure au where
 ay:List gK
 ai:List e5
deriving DecidableEq
structure aC where
 aK:au
 bc:eK
 az:Int
deriving DecidableEq
def En (d:Int):List Value:=[.int .i64 d]
def C3:=Flat En
def eM (d:ad):List Value:=[.int .i64 d.aJ.eS,.int .i64 d.aJ.eH,.int .i64 d.aN]
def zq:=Flat eM
def iG:=lW zq 3
def Gt (d:gK):List Value:=[.string d.aD,.int .i64 d.eA]
def F2:=Flat Gt
def pR:=lW F2 2
def tC:=lW C3 1
def F3 (w:World) (f:List Nat) (cs:List Value) (d:e5):Prop:=
 ∃v1 f1,f=f1/\cs=[.string d.aD,v1]/\tC w f1 v1 d.bV
def pS:=lW F3 2
end Go.Proofs.YtgoelphibofcmaaGreat

namespace Go.Proofs.YtgoelphibofcmaaGreat.V
open Go.RowKit
variable {P:Program} {w:World} {D:Nat->Prop}
def FX (P:Program) (w:World) (D:Nat->Prop) (al:List AV) (cs:List Value):Prop:=∀(j:Nat) (a:AV),al[j]? =some a->∃u:Value,cs[j]? =some u/\jh P w D a u
theorem qD {α:Type} {rep:World->List Nat->List Value->α->Prop} {e:α->List AV} {sz:Nat} {f:List Nat} {v:Value} {xs:List α} (h:lW rep sz w f v xs) (hD:∀b∈f,D b)
  (hl:∀x∈xs,(e x).length=sz) (hc:∀x∈xs,∀a∈e x,a.cell=true) (hr:∀x∈xs,∀f' cs,rep w f' cs x->(∀b∈f',D b)->FX P w D (e x) cs):jh P w D (.sl (xs.map e)) v:=by
 obtain⟨A,c,rfl,h1,h2⟩:=lW.len h
 by_cases h0:xs=[]
 ·subst h0;exact .zm _ _ h2
 have jU:0<xs.length:=List.length_pos_iff.2 h0
 obtain⟨b,o,Nr,f0,rfl,hb,Qi,Sg,Jj,jk⟩:=lW.at_ h 0 jU
 have key:∀(i:Nat) (hi:i<xs.length),∃cs f',(∀x∈f',x∈f)/\rep w f' cs xs[i]/\cs.length=sz/\∀j u,cs[j]? =some u->w.cell? ⟨b,o+(i*sz+j),none⟩=some u:=by
  intro i hi
  obtain⟨b',o',cs,f',Qc,_,jI,mY,dn,ke⟩:=lW.at_ h i hi
  simp only[Option.some.injEq,Addr.mk.injEq,and_true]at Qc
  obtain⟨rfl,rfl⟩:=Qc
  exact⟨cs,f',jI,mY,dn,ke⟩
 refine .sl _ b o _ c sz (fun i j=>(w.cell? ⟨b,o+(i*sz+j),none⟩).getD Go.undef) (by simp) h1 h2 (hD b hb) ?_ ?_ ?_ ?_
 ·intro cs dn
  obtain⟨x,hx,rfl⟩:=List.mem_map.1 dn
  exact hl x hx
 ·intro cs dn
  obtain⟨x,hx,rfl⟩:=List.mem_map.1 dn
  exact hc x hx
 ·intro i j hi hj
  obtain⟨cs,f',_,_,dn,ke⟩:=key i hi
  rw[ke j cs[j] (List.getElem?_eq_getElem (by omega))]
  rfl
 ·intro i j cs a dn ha
  have hi:i<xs.length:=by
   have:=(List.getElem?_eq_some_iff.1 dn).1
   simpa using this
  obtain⟨oP,f',jI,mY,hcs',ke⟩:=key i hi
  simp[hi]at dn
  subst dn
  obtain⟨u,hu,him⟩:=hr _ (List.getElem_mem hi) f' oP mY (fun b hb=>hD b (jI b hb)) j a ha
  rw[ke j u hu]
  exact him
end Go.Proofs.YtgoelphibofcmaaGreat.V

namespace Go.Proofs.YtgoelphibofcmaaGreat.V
open Go.RowKit
variable {P:Program} {w:World} {D:Nat->Prop}
def br (d:Int):List AV:=[.int .i64 d]
def ae (d:aB):List AV:=[.int .i64 d.eS,.int .i64 d.eH]
def ab (d:ad):List AV:=[.int .i64 d.aJ.eS,.int .i64 d.aJ.eH,.int .i64 d.aN]
def bd (d:eK):List AV:=[.sl (d.ai.map ab)]
def cm (d:gK):List AV:=[.str d.aD,.int .i64 d.eA]
def bq (d:e5):List AV:=[.str d.aD,.sl (d.bV.map br)]
def aa (d:au):List AV:=[.sl (d.ay.map cm),.sl (d.ai.map bq)]
def ax (d:aC):List AV:=[.sl (d.aK.ay.map cm),.sl (d.aK.ai.map bq),.sl (d.bc.ai.map ab),.int .i64 d.az]
theorem r5 {f:List Nat} {v:Value} {xs:List ad} (h:iG w f v xs) (hD:∀b∈f,D b):jh P w D (.sl (xs.map ab)) v:=
 qD h hD (fun _ _=>rfl) (fun x _ a ha=>by simp[ab]at ha;rcases ha with rfl|rfl|rfl<;>rfl) fun x _ f' cs hr hf=>by
  obtain⟨_,rfl⟩:=hr
  intro j a ha
  match j,ha with
  |0,ha=>simp[ab]at ha;subst ha;exact⟨_,rfl,.int _ _⟩
  |1,ha=>simp[ab]at ha;subst ha;exact⟨_,rfl,.int _ _⟩
  |2,ha=>simp[ab]at ha;subst ha;exact⟨_,rfl,.int _ _⟩
  |j+3,ha=>simp[ab]at ha
theorem xH {d:eK} {f0:List Nat} {v0:Value} (h0:iG w f0 v0 d.ai) (d0:∀b∈f0,D b):jh P w D (.agg (bd d)) (.agg #[v0]):=by
 refine .agg _ _ (fun j=>(#[v0]:Array Value).getD j Go.undef) rfl (fun a ha=>by simp[bd]at ha;rcases ha with rfl<;>rfl) (fun j hj=>?_) (fun j a ha=>?_)
 ·match j,hj with
  |0,_=>rfl
  |j+1,hj=>simp[bd]at hj<;>omega
 ·match j,ha with
  |0,ha=>simp[bd]at ha;subst ha;exact r5 h0 d0
  |j+1,ha=>simp[bd]at ha
theorem DZ {f:List Nat} {v:Value} {xs:List gK} (h:pR w f v xs) (hD:∀b∈f,D b):jh P w D (.sl (xs.map cm)) v:=
 qD h hD (fun _ _=>rfl) (fun x _ a ha=>by simp[cm]at ha;rcases ha with rfl|rfl<;>rfl) fun x _ f' cs hr hf=>by
  obtain⟨_,rfl⟩:=hr
  intro j a ha
  match j,ha with
  |0,ha=>simp[cm]at ha;subst ha;exact⟨_,rfl,.str _⟩
  |1,ha=>simp[cm]at ha;subst ha;exact⟨_,rfl,.int _ _⟩
  |j+2,ha=>simp[cm]at ha
theorem Bl {f:List Nat} {v:Value} {xs:List Int} (h:tC w f v xs) (hD:∀b∈f,D b):jh P w D (.sl (xs.map br)) v:=
 qD h hD (fun _ _=>rfl) (fun x _ a ha=>by simp[br]at ha;rcases ha with rfl<;>rfl) fun x _ f' cs hr hf=>by
  obtain⟨_,rfl⟩:=hr
  intro j a ha
  match j,ha with
  |0,ha=>simp[br]at ha;subst ha;exact⟨_,rfl,.int _ _⟩
  |j+1,ha=>simp[br]at ha
theorem D8 {f:List Nat} {v:Value} {xs:List e5} (h:pS w f v xs) (hD:∀b∈f,D b):jh P w D (.sl (xs.map bq)) v:=
 qD h hD (fun _ _=>rfl) (fun x _ a ha=>by simp[bq]at ha;rcases ha with rfl|rfl<;>rfl) fun x _ f' cs hr hf=>by
  obtain⟨v1,f1,rfl,rfl,h1⟩:=hr
  intro j a ha
  match j,ha with
  |0,ha=>simp[bq]at ha;subst ha;exact⟨_,rfl,.str _⟩
  |1,ha=>simp[bq]at ha;subst ha;exact⟨_,rfl,Bl h1 hf⟩
  |j+2,ha=>simp[bq]at ha
theorem Bo {d:aC} {f0:List Nat} {v0:Value} (h0:pR w f0 v0 d.aK.ay) (d0:∀b∈f0,D b) {f1:List Nat} {v1:Value} (h1:pS w f1 v1 d.aK.ai) (d1:∀b∈f1,D b) {f2:List Nat} {v2:Value} (h2:iG w f2 v2 d.bc.ai) (d2:∀b∈f2,D b):jh P w D (.agg (ax d)) (.agg #[v0,v1,v2,.int .i64 d.az]):=by
 refine .agg _ _ (fun j=>(#[v0,v1,v2,.int .i64 d.az]:Array Value).getD j Go.undef) rfl (fun a ha=>by simp[ax]at ha;rcases ha with rfl|rfl|rfl|rfl<;>rfl) (fun j hj=>?_) (fun j a ha=>?_)
 ·match j,hj with
  |0,_=>rfl
  |1,_=>rfl
  |2,_=>rfl
  |3,_=>rfl
  |j+4,hj=>simp[ax]at hj<;>omega
 ·match j,ha with
  |0,ha=>simp[ax]at ha;subst ha;exact DZ h0 d0
  |1,ha=>simp[ax]at ha;subst ha;exact D8 h1 d1
  |2,ha=>simp[ax]at ha;subst ha;exact r5 h2 d2
  |3,ha=>simp[ax]at ha;subst ha;exact .int _ _
  |j+4,ha=>simp[ax]at ha
end Go.Proofs.YtgoelphibofcmaaGreat.V

namespace Go.Proofs.YtgoelphibofcmaaGreat.V
open Go.RowKit
attribute [local irreducible] dx wpOps gp Call
attribute [local go_sem] aH fC eG fW fV cF upd cj K.av cJ AV.cells AV.cell rowOf rowsOf part ld rowAt bj bY dz eb gT bE cZ er fS eU dp eh cX cW dR dS bH aW cN bG cQ cP ee ei ef cL bP cY ec bF aL cU cw gS bl cG bI aP dd aU dB AV.undef bw bB dV ea dI dG cE ep ev cq ek ej cR cV List.getD_cons_zero List.getD_cons_succ List.getD_nil List.all_cons List.all_nil Bool.and_true Bool.true_and Bool.and_self Bool.not_true Bool.not_false Option.map_some Option.map_none Option.bind_some Option.bind_none List.length_cons List.length_nil List.take_succ_cons List.take_zero List.take_nil List.drop_succ_cons List.drop_zero List.drop_nil List.head?_cons List.map_cons List.map_nil List.getElem?_cons_zero List.getElem?_cons_succ List.cons_append List.nil_append List.append_nil List.length_map List.set_cons_zero List.set_cons_succ Nat.reduceMul eq_self Int.toNat_natCast Int.natCast_nonneg and_self true_and and_true decide_true decide_false Bool.false_eq_true Nat.zero_add Nat.add_zero List.contains_cons List.contains_nil Bool.or_false Bool.false_or beq_self_eq_true Nat.reduceBEq ne_eq not_true_eq_false not_false_eq_true Id.mk.injEq false_and and_false Nat.reduceLT Int.reduceLE Int.reduceLT Int.reduceToNat Int.reduceNeg Int.reduceAdd Nat.le_refl List.length_append beq_true beq_false Bool.not_eq_eq_eq_not or_false false_or dO ah aq aI aZ bt ck aS bf aO aY cK bK
variable {P:Program}
theorem Iv {X:fq} {Q:Ex->Env->ar->Prop} {N:Env->ar->Prop} {c:VC} {env:Env} {σ:ar} (I:Env->ar->Prop) (h2:∀e s,I e s->N e s) (h1:∀N':Env->ar->Prop,(∀e s,I e s->N' e s)->dx X c (dd N' Q) env σ):dx X c (dd N Q) env σ:=h1 N h2
def rF (f z:Nat) (a:Bool):ze:=let s:=f*1000000
 ⟨19,2,(.seq (.ew false [q 4 (.dc (.k (.int .i64 0))) s]) (.seq (.seq (.ew false [q 6 (.dc (.t 0)) (s+1000),q 7 (.len (.t 6)) (s+1001),q 8 (.dc (.k (.int .i64 0))) (s+1002)]) (.block 0 (.loop (.seq (.ew false [q 9 (.bin .lss .i64 (.t 8) (.t 7)) (s+2000)]) (.seq (.cond (.t 9) .skip (.exit 0)) (.seq (.block 1 (.seq (.ew false [q 10 (.dc (.t 8)) (s+3000),q 5 (.dc (.t 10)) (s+3001)]) (.seq (.ew false [q 11 (.dc (.t 1)) (s+4000),q 12 (.dc (.t 0)) (s+4001),q 13 (.dc (.t 5)) (s+4002),q 14 (.dw z (.t 12) (.t 13)) (s+4003),q 15 (.load a z (.t 14)) (s+4004),q 16 (.sa (.t 11) [(.t 15)]) (s+4005)]) (.cond (.t 16) (.seq (.ew false [q 17 (.dc (.t 5)) (s+5000),q 4 (.dc (.t 17)) (s+5001)]) .ret) .skip)))) (.ew false [q 18 (.bin .add .i64 (.t 8) (.k (.int .i64 1))) (s+6000),q 8 (.dc (.t 18)) (s+6001)]))))))) (.seq (.ew false [q 4 (.dc (.k (.int .i64 (-1)))) (s+7000)]) .ret))),[(.tmp 4)]⟩
def yf (f g:Nat):ze:=let s:=f*1000000
 ⟨9,2,(.seq (.ew false [q 4 (.dc (.k (.bool false))) s]) (.seq (.ew false [q 5 (.dc (.t 0)) (s+1000),q 6 (.dc (.t 1)) (s+1001),q 7 (.call g [(.t 5),(.t 6)]) (s+1002),q 8 (.bin .geq .i64 (.t 7) (.k (.int .i64 0))) (s+1003),q 4 (.dc (.t 8)) (s+1004)]) .ret)),[(.tmp 4)]⟩
def jR {α:Type} (p:α->Bool) (xs:List α):Int:=if xs.findIdx p<xs.length then(xs.findIdx p:Int)else -1
theorem Gz {α:Type} (p:α->Bool) (xs:List α):decide (0<=jR p xs)=xs.any p:=by
 unfold jR
 by_cases h:xs.findIdx p<xs.length
 ·rw[if_pos h]
  have:xs.any p=true:=List.any_eq_true.2 (List.findIdx_lt_length.1 h)
  rw[this];simp
 ·rw[if_neg h]
  have:xs.any p=false:=by
   rw[Bool.eq_false_iff]
   intro hc
   exact h (List.findIdx_lt_length.2 (List.any_eq_true.1 hc))
  rw[this];rfl
theorem sW (a:AV) (l m:List AV):a::l++m=a::(l++m):=rfl
theorem xQ (l:List AV):[]++l=l:=rfl
structure NP {α:Type} (e:α->List AV) (v:α->AV) (z:Nat) (a:Bool):Prop where
 len:∀x,(e x).length=z
 val:∀x,if a=true then v x=.agg (e x)else e x=[v x]
 fz:∀x g,da g 6 [v x]=some [v x]
theorem sq {α:Type} {e:α->List AV} {v:α->AV} {z fk:Nat} {a:Bool} (hE:NP e v z a) (hc:mV P fk=some (rF fk z a)) (xs:List α) (hlen:xs.length<=1048576) (f:Nat) (cC:List AV) (p:α->Bool)
  (hf:∀x∈xs,aj P f (v x::cC) (.bool (p x))) (GP:∀g,da g 6 cC=some cC):
  aj P fk [.sl (xs.map e),.fn f cC] (.int .i64 (jR p xs)):=by
 refine aj.body hc rfl fun hl n0=>?_
 try simp only[q]
 clear hl
 (try((repeat(revert hN;revert N;apply Pn.out));refine wk @Nat.zero_add ?_;(repeat(refine Pn.mk ?_;intro N hN))))
 refine aQ (fun n env st=>∃k:Nat,n=(xs.length)-k/\k<=(xs.length)/\env 8=.int .i64 (k:Int)/\(∀j:Nat,j<k->∀h:j<xs.length,p xs[j]=false)) (xs.length) ⟨0,by omega,by omega,sl @Nat.zero_add,fun _ h=>absurd h (Nat.not_lt_zero _)⟩ ?_
 rintro n_a env_a st_a ⟨k,rfl,ale,a8,lp⟩ dY
 have a0:=dY 0 (by kernel_rfl);have a1:=dY 1 (by kernel_rfl);have a7:=dY 7 (by kernel_rfl)
 simp only[go_sem, ↓reduceIte,Nat.reduceEqDiff,Nat.reduceAdd,Nat.reduceSub,Nat.reduceLeDiff,reduceCtorEq]at a0 a1 a7
 clear dY
 by_cases hk:(k:Int)<(xs.length:Int)
 ·have cH:∀{e:Env},(e 8=.int .i64 (IntKind.i64.wrap ((k:Int)+1)))->(∀h:k<xs.length,p xs[k]=false)->∃m0,m0<(xs.length)-k/\∃k:Nat,m0=(xs.length)-k/\k<=(xs.length)/\e 8=.int .i64 (k:Int)/\(∀j:Nat,j<k->∀h:j<xs.length,p xs[j]=false):=fun x1 x2=>⟨_,by omega,k+1,rfl,by omega,(by rw[x1,aA (by omega)]),(all_succ lp x2)⟩
  have fG:k<xs.length:=by omega
  have hg:(xs.map e)[k]? =some (e xs[k]):=by simp[fG]
  have Dr:=hf _ (List.getElem_mem fG)
  have hz:=hE.len xs[k]
  have hv:=hE.val xs[k]
  have lu:da (dO st_a.get) 6 (v xs[k]::cC)=some (v xs[k]::cC):=by
   have h1:=hE.fz xs[k] (dO st_a.get)
   rw[ah,aq]at h1
   rw[ah,GP]
   revert h1
   cases V.fz (dO st_a.get) 6 (v xs[k])<;>simp
  have fin:∀hN:True,(p xs[k]=true->xs.findIdx p=k):=fun _ hp=>by
   rw[List.findIdx_eq fG];exact⟨hp,fun j hj=>lp j hj (by omega)⟩
  cases hp:p xs[k]
  ·have Qv:=hp
   cases a
   ·rw[if_neg (by simp)]at hv
    have zl:z=1:=by rw[<-hz,hv];rfl
    subst zl
    rw[hv]at hg hz
    rw[hp]at Dr
    generalize v xs[k]=c at Dr lu hg hz
    (try((repeat(revert hN;revert N;apply Pn.out));refine wk (tw @a8 (tw @a0 (tw @a1 (tw @a7 (tw @hk (tw @hg (tw @hz (tw @sW @xQ)))))))) ?_;(repeat(refine Pn.mk ?_;intro N hN))))
    refine .inl ⟨_,aj.x Dr lu,?_⟩
    refine hN _ _ ?_
    clear hN N
    (try((repeat(revert hN;revert N;apply Pn.out));refine wk (tw @a8 (tw @a0 (tw @a1 @a7))) ?_;(repeat(refine Pn.mk ?_;intro N hN))))
    exact cH (sd (tw @a8 (tw @a0 (tw @a1 @a7)))) (fun _=>Qv)
   ·rw[if_pos rfl]at hv
    have ht:(e xs[k]).take z=e xs[k]:=by rw[<-hz,List.take_length]
    rw[hv]at Dr lu
    rw[hp]at Dr
    generalize e xs[k]=c at Dr lu hg hz ht
    (try((repeat(revert hN;revert N;apply Pn.out));refine wk (tw @a8 (tw @a0 (tw @a1 (tw @a7 (tw @hk (tw @hg (tw @hz (tw @ht (tw @sW (tw @xQ @Nat.le_refl)))))))))) ?_;(repeat(refine Pn.mk ?_;intro N hN))))
    refine .inl ⟨_,aj.x Dr lu,?_⟩
    refine hN _ _ ?_
    clear hN N
    (try((repeat(revert hN;revert N;apply Pn.out));refine wk (tw @a8 (tw @a0 (tw @a1 @a7))) ?_;(repeat(refine Pn.mk ?_;intro N hN))))
    exact cH (sd (tw @a8 (tw @a0 (tw @a1 @a7)))) (fun _=>Qv)
  ·have hi:=fin trivial hp
   cases a
   ·rw[if_neg (by simp)]at hv
    have zl:z=1:=by rw[<-hz,hv];rfl
    subst zl
    rw[hv]at hg hz
    rw[hp]at Dr
    generalize v xs[k]=c at Dr lu hg hz
    (try((repeat(revert hN;revert N;apply Pn.out));refine wk (tw @a8 (tw @a0 (tw @a1 (tw @a7 (tw @hk (tw @hg (tw @hz (tw @sW @xQ)))))))) ?_;(repeat(refine Pn.mk ?_;intro N hN))))
    refine .inl ⟨_,aj.x Dr lu,?_⟩
    refine hN _ _ ?_
    clear hN N
    (try((repeat(revert hN;revert N;apply Pn.out));refine wk (tw @a8 (tw @a0 (tw @a1 @a7))) ?_;(repeat(refine Pn.mk ?_;intro N hN))))
    exact bZ (b:=(k:Int)) (.inl rfl) (sd @Nat.zero_add) (by rw[jR,hi,if_pos fG])
   ·rw[if_pos rfl]at hv
    have ht:(e xs[k]).take z=e xs[k]:=by rw[<-hz,List.take_length]
    rw[hv]at Dr lu
    rw[hp]at Dr
    generalize e xs[k]=c at Dr lu hg hz ht
    (try((repeat(revert hN;revert N;apply Pn.out));refine wk (tw @a8 (tw @a0 (tw @a1 (tw @a7 (tw @hk (tw @hg (tw @hz (tw @ht (tw @sW (tw @xQ @Nat.le_refl)))))))))) ?_;(repeat(refine Pn.mk ?_;intro N hN))))
    refine .inl ⟨_,aj.x Dr lu,?_⟩
    refine hN _ _ ?_
    clear hN N
    (try((repeat(revert hN;revert N;apply Pn.out));refine wk (tw @a8 (tw @a0 (tw @a1 @a7))) ?_;(repeat(refine Pn.mk ?_;intro N hN))))
    exact bZ (b:=(k:Int)) (.inl rfl) (sd @Nat.zero_add) (by rw[jR,hi,if_pos fG])
 ·(try((repeat(revert hN;revert N;apply Pn.out));refine wk (tw @a8 (tw @a0 (tw @a1 (tw @a7 @hk)))) ?_;(repeat(refine Pn.mk ?_;intro N hN))))
  have hi:¬xs.findIdx p<xs.length:=by
   rw[List.findIdx_lt_length]
   rintro⟨x,hx,Jw⟩
   obtain⟨j,hj,rfl⟩:=List.getElem_of_mem hx
   rw[lp j (by omega) hj]at Jw;cases Jw
  exact bZ (b:=-1) (.inl rfl) (sd @Nat.zero_add) (by rw[jR,if_neg hi])
theorem kb {α:Type} {e:α->List AV} {v:α->AV} {z fk gk:Nat} {a:Bool} (hE:NP e v z a) (hc:mV P fk=some (yf fk gk)) (Ez:mV P gk=some (rF gk z a)) (xs:List α) (hlen:xs.length<=1048576) (f:Nat) (cC:List AV) (p:α->Bool) (GL:cC.all AV.cell=true) (A9:∀g,da g 5 cC=some cC)
  (hf:∀x∈xs,aj P f (v x::cC) (.bool (p x))) (GP:∀g,da g 6 cC=some cC):
  aj P fk [.sl (xs.map e),.fn f cC] (.bool (xs.any p)):=by
 refine aj.body hc rfl fun hl n0=>?_
 try simp only[q]
 clear hl
 have hi:=sq hE Ez xs hlen f cC p hf GP
 (repeat(first|((repeat(revert hN;revert N;apply Pn.out));refine wk (tw @GL @A9) ?_;(repeat(refine Pn.mk ?_;intro N hN)))|((try apply Or.inl);refine⟨_,aj.x (hi) (sd (tw @GL @A9)),?_⟩;refine hN _ _ ?_;clear hN N)))
 exact aM (b:=decide (0<=jR p xs)) (.inl rfl) (sd @Nat.zero_add) (Gz p xs)
end Go.Proofs.YtgoelphibofcmaaGreat.V

namespace Go.Proofs.YtgoelphibofcmaaGreat.V
open Go.RowKit
def qm (P:Program) (mk:Bool):List Oper->Nat->List Nat
 |[],_=>[]
 |o::r,i=>match pM P o.op with
  |some v=>if pE v||mk&&v.lg then i::qm P mk r (i+1)else qm P mk r (i+1)
  |none=>qm P mk r (i+1)
def xT (P:Program) (ops:Array Oper) (site0:Nat) (mk:Bool) (bs:Array Nat) (hidden:List Nat):List Oper->Nat->Option (List aT)
 |[],_=>some []
 |o::r,j=>do
  let v <-pM P o.op
  let g <-Bz ops o
  pure ({dst:=o.dst,op:=v,guard:=g,site:=site0+j,hid:=(hidden.filter fun i=> !(bs.getD j 0).testBit i&&(i !=j||mk&&v.lg)).map fun i=>site0+i}::(<-xT P ops site0 mk bs hidden r (j+1)))
def o8 (P:Program) (md:List (Nat×Nat)) (fid:Nat):Code->Option VC
 | .skip=>some .skip
 | .region id ops draw=>if draw then(xT P ops ((fid*1000+id)*1000) (uy md id==1) (je ops) (qm P (uy md id==1) ops.toList 0) ops.toList 0).map (VC.ew true)else(xT P ops ((fid*1000+id)*1000) false #[] [] ops.toList 0).map (if ops.toList.any fun o=>KU o.op then VC.Ls else VC.ew false)
 | .seq a b=>do pure (.seq (<-o8 P md fid a) (<-o8 P md fid b))
 | .cond c x y=>do pure (.cond (<-cO P c) (<-o8 P md fid x) (<-o8 P md fid y))
 | .block id c=>(o8 P md fid c).map (VC.block id)
 | .loop c=>(o8 P md fid c).map VC.loop
 | .exit id=>some (.exit id)
 | .ret=>some .ret
 |_=>none
def NW (P:Program) (md:List (Nat×Nat)) (f:Nat):Option ze:=
 match P.funcs[f]? with
 |some fn=>match fn.body with
  |some c=>do
   let b <-o8 P md f c
   let r <-fn.results.toList.mapM (BA P)
   pure {ntmps:=fn.ntmps,xi:=fn.params.size+fn.nfree,body:=b,res:=r}
  |none=>none
 |none=>none
theorem cfM {P:Program} (md:List (Nat×Nat)) {f:Nat} {v:ze} (_:NW P md f=some v:=by(conv=>lhs;cbv)<;>exact rfl) (h:vM P f md=some v:=by kernel_rfl):vM P f md=some v:=h
theorem eI {P:Program} {f:Nat} {v:ze} (_:NW P [] f=some v:=by(conv=>lhs;cbv)<;>exact rfl) (h:mV P f=some v:=by kernel_rfl):mV P f=some v:=h
end Go.Proofs.YtgoelphibofcmaaGreat.V

namespace Go.Proofs.YtgoelphibofcmaaGreat.V
open Go.RowKit
def MT:ze:=⟨77,2,(.seq (.ew false [q 4 (.dc (.k .gD)) 237000000]) (.seq (.ew false [q 7 (.dc (.t 0)) 237001000,q 8 (.dc (.t 1)) 237001001,q 9 (.build [(.int .i64 0),.b4,.b4,.b4] [(0,(1,(.t 7))),(1,(1,(.t 8)))]) 237001002,q 10 (.box (.t 9)) 237001003,q 5 (.dc (.t 10)) 237001004]) (.seq (.ew false [q 11 (.dc (.t 5)) 237002000,q 12 (.dc (.t 0)) 237002001,q 13 (.jC [.b4] (.t 12) (.t 12)) 237002002,q 14 (.zf (.t 11)) 237002003,q 15 (.fB 2 (.t 14)) 237002004,⟨none,(.store 1 (.t 15) (.t 13)),none,237002005,[]⟩]) (.seq (.ew false [q 16 (.dc (.t 5)) 237003000,q 17 (.dc (.t 1)) 237003001,q 18 (.len (.t 17)) 237003002,q 19 (.jC [(.int .i64 0)] (.t 18) (.t 18)) 237003003,q 20 (.zf (.t 16)) 237003004,q 21 (.fB 3 (.t 20)) 237003005,⟨none,(.store 1 (.t 21) (.t 19)),none,237003006,[]⟩]) (.seq (.seq (.ew false [q 6 (.dc (.k (.int .i64 0))) 237004000]) (.block 0 (.loop (.seq (.seq (.ew false [q 22 (.dc (.t 6)) 237005000,q 23 (.dc (.t 1)) 237005001,q 24 (.len (.t 23)) 237005002,q 25 (.bin .lss .i64 (.t 22) (.t 24)) 237005003]) (.cond (.t 25) .skip (.exit 0))) (.seq (.block 1 (.seq (.one ⟨(some 28),(.dc (.t 5)),none,237007000,[237007021,237007022,237007024]⟩ (.one ⟨(some 29),(.zf (.t 28)),none,237007001,[237007021,237007022,237007024]⟩ (.one ⟨(some 30),(.fB 2 (.t 29)),none,237007002,[237007021,237007022,237007024]⟩ (.one ⟨(some 32),(.dc (.t 1)),none,237007004,[237007021,237007022,237007024]⟩ (.one ⟨(some 33),(.dc (.t 6)),none,237007005,[237007021,237007022,237007024]⟩ (.one ⟨(some 37),(.dc (.t 5)),none,237007009,[237007021,237007022,237007024]⟩ (.one ⟨(some 38),(.zf (.t 37)),none,237007010,[237007021,237007022,237007024]⟩ (.one ⟨(some 39),(.fB 2 (.t 38)),none,237007011,[237007021,237007022,237007024]⟩ (.one ⟨(some 40),(.load false 1 (.t 39)),none,237007012,[237007021,237007022,237007024]⟩ (.one ⟨(some 41),(.dc (.t 1)),none,237007013,[237007021,237007022,237007024]⟩ (.one ⟨(some 42),(.dc (.t 6)),none,237007014,[237007021,237007022,237007024]⟩ (.one ⟨(some 43),(.dw 3 (.t 41) (.t 42)),none,237007015,[237007021,237007022,237007024]⟩ (.one ⟨(some 44),(.fB 0 (.t 43)),none,237007016,[237007021,237007022,237007024]⟩ (.one ⟨(some 45),(.load false 1 (.t 44)),none,237007017,[237007021,237007022,237007024]⟩ (.one ⟨(some 46),(.dw 1 (.t 40) (.t 45)),none,237007018,[237007021,237007022,237007024]⟩ (.one ⟨(some 47),(.load false 1 (.t 46)),none,237007019,[237007021,237007022,237007024]⟩ (.one ⟨(some 48),(.dc (.t 6)),none,237007020,[237007021,237007022,237007024]⟩ (.one ⟨(some 49),(.lf 1 1 [(.t 48)]),none,237007021,[237007022,237007024]⟩ (.both (.one ⟨(some 31),(.load false 1 (.t 30)),none,237007003,[237007021,237007022,237007024]⟩ (.both (.one ⟨(some 34),(.dw 3 (.t 32) (.t 33)),none,237007006,[237007021,237007022,237007024]⟩ (.one ⟨(some 35),(.fB 0 (.t 34)),none,237007007,[237007021,237007022,237007024]⟩ (.both (.one ⟨(some 36),(.load false 1 (.t 35)),none,237007008,[237007021,237007022,237007024]⟩ (.one ⟨(some 50),(.append 1 (.t 47) (.t 49)),none,237007022,[237007024]⟩ (.one ⟨(some 51),(.dw 1 (.t 31) (.t 36)),none,237007023,[237007024]⟩ (.one ⟨none,(.store 1 (.t 51) (.t 50)),none,237007024,[]⟩ (.ew false []))))) (.one ⟨(some 50),(.append 1 (.t 47) (.t 49)),none,237007022,[237007024]⟩ (.one ⟨(some 36),(.load false 1 (.t 35)),none,237007008,[237007021,237007022,237007024]⟩ (.one ⟨(some 51),(.dw 1 (.t 31) (.t 36)),none,237007023,[237007024]⟩ (.one ⟨none,(.store 1 (.t 51) (.t 50)),none,237007024,[]⟩ (.ew false [])))))))) (.one ⟨(some 50),(.append 1 (.t 47) (.t 49)),none,237007022,[237007024]⟩ (.one ⟨(some 34),(.dw 3 (.t 32) (.t 33)),none,237007006,[237007021,237007022,237007024]⟩ (.one ⟨(some 35),(.fB 0 (.t 34)),none,237007007,[237007021,237007022,237007024]⟩ (.one ⟨(some 36),(.load false 1 (.t 35)),none,237007008,[237007021,237007022,237007024]⟩ (.one ⟨(some 51),(.dw 1 (.t 31) (.t 36)),none,237007023,[237007024]⟩ (.one ⟨none,(.store 1 (.t 51) (.t 50)),none,237007024,[]⟩ (.ew false []))))))))) (.both (.one ⟨(some 34),(.dw 3 (.t 32) (.t 33)),none,237007006,[237007021,237007022,237007024]⟩ (.one ⟨(some 35),(.fB 0 (.t 34)),none,237007007,[237007021,237007022,237007024]⟩ (.both (.one ⟨(some 31),(.load false 1 (.t 30)),none,237007003,[237007021,237007022,237007024]⟩ (.both (.one ⟨(some 36),(.load false 1 (.t 35)),none,237007008,[237007021,237007022,237007024]⟩ (.one ⟨(some 50),(.append 1 (.t 47) (.t 49)),none,237007022,[237007024]⟩ (.one ⟨(some 51),(.dw 1 (.t 31) (.t 36)),none,237007023,[237007024]⟩ (.one ⟨none,(.store 1 (.t 51) (.t 50)),none,237007024,[]⟩ (.ew false []))))) (.one ⟨(some 50),(.append 1 (.t 47) (.t 49)),none,237007022,[237007024]⟩ (.one ⟨(some 36),(.load false 1 (.t 35)),none,237007008,[237007021,237007022,237007024]⟩ (.one ⟨(some 51),(.dw 1 (.t 31) (.t 36)),none,237007023,[237007024]⟩ (.one ⟨none,(.store 1 (.t 51) (.t 50)),none,237007024,[]⟩ (.ew false []))))))) (.both (.one ⟨(some 36),(.load false 1 (.t 35)),none,237007008,[237007021,237007022,237007024]⟩ (.both (.one ⟨(some 31),(.load false 1 (.t 30)),none,237007003,[237007021,237007022,237007024]⟩ (.one ⟨(some 50),(.append 1 (.t 47) (.t 49)),none,237007022,[237007024]⟩ (.one ⟨(some 51),(.dw 1 (.t 31) (.t 36)),none,237007023,[237007024]⟩ (.one ⟨none,(.store 1 (.t 51) (.t 50)),none,237007024,[]⟩ (.ew false []))))) (.one ⟨(some 50),(.append 1 (.t 47) (.t 49)),none,237007022,[237007024]⟩ (.one ⟨(some 31),(.load false 1 (.t 30)),none,237007003,[237007021,237007022,237007024]⟩ (.one ⟨(some 51),(.dw 1 (.t 31) (.t 36)),none,237007023,[237007024]⟩ (.one ⟨none,(.store 1 (.t 51) (.t 50)),none,237007024,[]⟩ (.ew false []))))))) (.one ⟨(some 50),(.append 1 (.t 47) (.t 49)),none,237007022,[237007024]⟩ (.one ⟨(some 31),(.load false 1 (.t 30)),none,237007003,[237007021,237007022,237007024]⟩ (.one ⟨(some 36),(.load false 1 (.t 35)),none,237007008,[237007021,237007022,237007024]⟩ (.one ⟨(some 51),(.dw 1 (.t 31) (.t 36)),none,237007023,[237007024]⟩ (.one ⟨none,(.store 1 (.t 51) (.t 50)),none,237007024,[]⟩ (.ew false [])))))))))) (.one ⟨(some 50),(.append 1 (.t 47) (.t 49)),none,237007022,[237007024]⟩ (.one ⟨(some 31),(.load false 1 (.t 30)),none,237007003,[237007021,237007022,237007024]⟩ (.one ⟨(some 34),(.dw 3 (.t 32) (.t 33)),none,237007006,[237007021,237007022,237007024]⟩ (.one ⟨(some 35),(.fB 0 (.t 34)),none,237007007,[237007021,237007022,237007024]⟩ (.one ⟨(some 36),(.load false 1 (.t 35)),none,237007008,[237007021,237007022,237007024]⟩ (.one ⟨(some 51),(.dw 1 (.t 31) (.t 36)),none,237007023,[237007024]⟩ (.one ⟨none,(.store 1 (.t 51) (.t 50)),none,237007024,[]⟩ (.ew false [])))))))))))))))))))))))))))) (.one ⟨(some 52),(.dc (.t 5)),none,237008000,[237008021,237008022,237008024]⟩ (.one ⟨(some 53),(.zf (.t 52)),none,237008001,[237008021,237008022,237008024]⟩ (.one ⟨(some 54),(.fB 2 (.t 53)),none,237008002,[237008021,237008022,237008024]⟩ (.one ⟨(some 56),(.dc (.t 1)),none,237008004,[237008021,237008022,237008024]⟩ (.one ⟨(some 57),(.dc (.t 6)),none,237008005,[237008021,237008022,237008024]⟩ (.one ⟨(some 61),(.dc (.t 5)),none,237008009,[237008021,237008022,237008024]⟩ (.one ⟨(some 62),(.zf (.t 61)),none,237008010,[237008021,237008022,237008024]⟩ (.one ⟨(some 63),(.fB 2 (.t 62)),none,237008011,[237008021,237008022,237008024]⟩ (.one ⟨(some 64),(.load false 1 (.t 63)),none,237008012,[237008021,237008022,237008024]⟩ (.one ⟨(some 65),(.dc (.t 1)),none,237008013,[237008021,237008022,237008024]⟩ (.one ⟨(some 66),(.dc (.t 6)),none,237008014,[237008021,237008022,237008024]⟩ (.one ⟨(some 67),(.dw 3 (.t 65) (.t 66)),none,237008015,[237008021,237008022,237008024]⟩ (.one ⟨(some 68),(.fB 1 (.t 67)),none,237008016,[237008021,237008022,237008024]⟩ (.one ⟨(some 69),(.load false 1 (.t 68)),none,237008017,[237008021,237008022,237008024]⟩ (.one ⟨(some 70),(.dw 1 (.t 64) (.t 69)),none,237008018,[237008021,237008022,237008024]⟩ (.one ⟨(some 71),(.load false 1 (.t 70)),none,237008019,[237008021,237008022,237008024]⟩ (.one ⟨(some 72),(.dc (.t 6)),none,237008020,[237008021,237008022,237008024]⟩ (.one ⟨(some 73),(.lf 1 1 [(.t 72)]),none,237008021,[237008022,237008024]⟩ (.both (.one ⟨(some 55),(.load false 1 (.t 54)),none,237008003,[237008021,237008022,237008024]⟩ (.both (.one ⟨(some 58),(.dw 3 (.t 56) (.t 57)),none,237008006,[237008021,237008022,237008024]⟩ (.one ⟨(some 59),(.fB 1 (.t 58)),none,237008007,[237008021,237008022,237008024]⟩ (.both (.one ⟨(some 60),(.load false 1 (.t 59)),none,237008008,[237008021,237008022,237008024]⟩ (.one ⟨(some 74),(.append 1 (.t 71) (.t 73)),none,237008022,[237008024]⟩ (.one ⟨(some 75),(.dw 1 (.t 55) (.t 60)),none,237008023,[237008024]⟩ (.one ⟨none,(.store 1 (.t 75) (.t 74)),none,237008024,[]⟩ (.ew false []))))) (.one ⟨(some 74),(.append 1 (.t 71) (.t 73)),none,237008022,[237008024]⟩ (.one ⟨(some 60),(.load false 1 (.t 59)),none,237008008,[237008021,237008022,237008024]⟩ (.one ⟨(some 75),(.dw 1 (.t 55) (.t 60)),none,237008023,[237008024]⟩ (.one ⟨none,(.store 1 (.t 75) (.t 74)),none,237008024,[]⟩ (.ew false [])))))))) (.one ⟨(some 74),(.append 1 (.t 71) (.t 73)),none,237008022,[237008024]⟩ (.one ⟨(some 58),(.dw 3 (.t 56) (.t 57)),none,237008006,[237008021,237008022,237008024]⟩ (.one ⟨(some 59),(.fB 1 (.t 58)),none,237008007,[237008021,237008022,237008024]⟩ (.one ⟨(some 60),(.load false 1 (.t 59)),none,237008008,[237008021,237008022,237008024]⟩ (.one ⟨(some 75),(.dw 1 (.t 55) (.t 60)),none,237008023,[237008024]⟩ (.one ⟨none,(.store 1 (.t 75) (.t 74)),none,237008024,[]⟩ (.ew false []))))))))) (.both (.one ⟨(some 58),(.dw 3 (.t 56) (.t 57)),none,237008006,[237008021,237008022,237008024]⟩ (.one ⟨(some 59),(.fB 1 (.t 58)),none,237008007,[237008021,237008022,237008024]⟩ (.both (.one ⟨(some 55),(.load false 1 (.t 54)),none,237008003,[237008021,237008022,237008024]⟩ (.both (.one ⟨(some 60),(.load false 1 (.t 59)),none,237008008,[237008021,237008022,237008024]⟩ (.one ⟨(some 74),(.append 1 (.t 71) (.t 73)),none,237008022,[237008024]⟩ (.one ⟨(some 75),(.dw 1 (.t 55) (.t 60)),none,237008023,[237008024]⟩ (.one ⟨none,(.store 1 (.t 75) (.t 74)),none,237008024,[]⟩ (.ew false []))))) (.one ⟨(some 74),(.append 1 (.t 71) (.t 73)),none,237008022,[237008024]⟩ (.one ⟨(some 60),(.load false 1 (.t 59)),none,237008008,[237008021,237008022,237008024]⟩ (.one ⟨(some 75),(.dw 1 (.t 55) (.t 60)),none,237008023,[237008024]⟩ (.one ⟨none,(.store 1 (.t 75) (.t 74)),none,237008024,[]⟩ (.ew false []))))))) (.both (.one ⟨(some 60),(.load false 1 (.t 59)),none,237008008,[237008021,237008022,237008024]⟩ (.both (.one ⟨(some 55),(.load false 1 (.t 54)),none,237008003,[237008021,237008022,237008024]⟩ (.one ⟨(some 74),(.append 1 (.t 71) (.t 73)),none,237008022,[237008024]⟩ (.one ⟨(some 75),(.dw 1 (.t 55) (.t 60)),none,237008023,[237008024]⟩ (.one ⟨none,(.store 1 (.t 75) (.t 74)),none,237008024,[]⟩ (.ew false []))))) (.one ⟨(some 74),(.append 1 (.t 71) (.t 73)),none,237008022,[237008024]⟩ (.one ⟨(some 55),(.load false 1 (.t 54)),none,237008003,[237008021,237008022,237008024]⟩ (.one ⟨(some 75),(.dw 1 (.t 55) (.t 60)),none,237008023,[237008024]⟩ (.one ⟨none,(.store 1 (.t 75) (.t 74)),none,237008024,[]⟩ (.ew false []))))))) (.one ⟨(some 74),(.append 1 (.t 71) (.t 73)),none,237008022,[237008024]⟩ (.one ⟨(some 55),(.load false 1 (.t 54)),none,237008003,[237008021,237008022,237008024]⟩ (.one ⟨(some 60),(.load false 1 (.t 59)),none,237008008,[237008021,237008022,237008024]⟩ (.one ⟨(some 75),(.dw 1 (.t 55) (.t 60)),none,237008023,[237008024]⟩ (.one ⟨none,(.store 1 (.t 75) (.t 74)),none,237008024,[]⟩ (.ew false [])))))))))) (.one ⟨(some 74),(.append 1 (.t 71) (.t 73)),none,237008022,[237008024]⟩ (.one ⟨(some 55),(.load false 1 (.t 54)),none,237008003,[237008021,237008022,237008024]⟩ (.one ⟨(some 58),(.dw 3 (.t 56) (.t 57)),none,237008006,[237008021,237008022,237008024]⟩ (.one ⟨(some 59),(.fB 1 (.t 58)),none,237008007,[237008021,237008022,237008024]⟩ (.one ⟨(some 60),(.load false 1 (.t 59)),none,237008008,[237008021,237008022,237008024]⟩ (.one ⟨(some 75),(.dw 1 (.t 55) (.t 60)),none,237008023,[237008024]⟩ (.one ⟨none,(.store 1 (.t 75) (.t 74)),none,237008024,[]⟩ (.ew false [])))))))))))))))))))))))))))))) (.ew false [q 26 (.dc (.t 6)) 237006000,q 27 (.bin .add .i64 (.t 26) (.k (.int .i64 1))) 237006001,q 6 (.dc (.t 27)) 237006002])))))) (.seq (.ew false [q 76 (.dc (.t 5)) 237009000,q 4 (.dc (.t 76)) 237009001]) .ret)))))),[(.tmp 4)]⟩
theorem Lq:vM Tryz.prog 237 [(7,2),(8,2)]=some MT:=by kernel_rfl
def MU:ze:=⟨118,2,(.seq (.ew false [q 4 (.dc (.k .b4)) 240000000]) (.seq (.ew false [q 17 (.dc (.t 0)) 240001000,q 18 (.jC [.gD] (.t 17) (.t 17)) 240001001,q 5 (.dc (.t 18)) 240001002]) (.seq (.seq (.ew false [q 19 (.dc (.t 5)) 240002000,q 20 (.len (.t 19)) 240002001,q 21 (.dc (.k (.int .i64 0))) 240002002]) (.block 0 (.loop (.seq (.ew false [q 22 (.bin .lss .i64 (.t 21) (.t 20)) 240003000]) (.seq (.cond (.t 22) .skip (.exit 0)) (.seq (.block 1 (.seq (.ew false [q 23 (.dc (.t 21)) 240004000,q 6 (.dc (.t 23)) 240004001]) (.ew false [q 24 (.dc (.t 5)) 240005000,q 25 (.dc (.t 6)) 240005001,q 26 (.dc (.t 6)) 240005002,q 27 (.build [.gD,(.int .i64 0)] [(1,(1,(.t 26)))]) 240005003,q 28 (.box (.t 27)) 240005004,q 29 (.dw 1 (.t 24) (.t 25)) 240005005,⟨none,(.store 1 (.t 29) (.t 28)),none,240005006,[]⟩]))) (.ew false [q 30 (.bin .add .i64 (.t 21) (.k (.int .i64 1))) 240006000,q 21 (.dc (.t 30)) 240006001]))))))) (.seq (.seq (.ew false [q 31 (.dc (.t 1)) 240007000,q 32 (.len (.t 31)) 240007001,q 33 (.dc (.k (.int .i64 0))) 240007002]) (.block 2 (.loop (.seq (.ew false [q 34 (.bin .lss .i64 (.t 33) (.t 32)) 240008000]) (.seq (.cond (.t 34) .skip (.exit 2)) (.seq (.block 3 (.seq (.ew false [q 35 (.dw 3 (.t 31) (.t 33)) 240009000,q 36 (.load true 3 (.t 35)) 240009001,q 8 (.new [(.int .i64 0),(.int .i64 0),(.int .i64 0)]) 240009002,⟨none,(.store 3 (.t 8) (.t 36)),none,240009003,[]⟩]) (.seq (.one (q 37 (.dc (.t 5)) 240010000) (.one (q 38 (.fB 0 (.t 8)) 240010001) (.one (q 39 (.load false 1 (.t 38)) 240010002) (.one (q 40 (.dw 1 (.t 37) (.t 39)) 240010003) (.one (q 41 (.load false 1 (.t 40)) 240010004) (.one (q 43 (.dc (.t 5)) 240010006) (.one (q 44 (.fB 1 (.t 8)) 240010007) (.both (.one (q 42 (.call 262 [(.t 41)]) 240010005) (.one (q 45 (.load false 1 (.t 44)) 240010008) (.one (q 46 (.dw 1 (.t 43) (.t 45)) 240010009) (.one (q 47 (.load false 1 (.t 46)) 240010010) (.one (q 48 (.call 262 [(.t 47)]) 240010011) (.one (q 9 (.dc (.t 42)) 240010012) (.one (q 10 (.dc (.t 48)) 240010013) (.ew false [])))))))) (.one (q 45 (.load false 1 (.t 44)) 240010008) (.both (.one (q 42 (.call 262 [(.t 41)]) 240010005) (.one (q 46 (.dw 1 (.t 43) (.t 45)) 240010009) (.one (q 47 (.load false 1 (.t 46)) 240010010) (.one (q 48 (.call 262 [(.t 47)]) 240010011) (.one (q 9 (.dc (.t 42)) 240010012) (.one (q 10 (.dc (.t 48)) 240010013) (.ew false []))))))) (.one (q 46 (.dw 1 (.t 43) (.t 45)) 240010009) (.both (.one (q 42 (.call 262 [(.t 41)]) 240010005) (.one (q 47 (.load false 1 (.t 46)) 240010010) (.one (q 48 (.call 262 [(.t 47)]) 240010011) (.one (q 9 (.dc (.t 42)) 240010012) (.one (q 10 (.dc (.t 48)) 240010013) (.ew false [])))))) (.one (q 47 (.load false 1 (.t 46)) 240010010) (.one (q 42 (.call 262 [(.t 41)]) 240010005) (.one (q 48 (.call 262 [(.t 47)]) 240010011) (.one (q 9 (.dc (.t 42)) 240010012) (.one (q 10 (.dc (.t 48)) 240010013) (.ew false [])))))))))))))))))) (.block 4 (.seq (.ew true [q 50 (.dc (.t 9)) 240011000,q 51 (.zf (.t 50)) 240011001,q 52 (.fB 1 (.t 51)) 240011002,q 53 (.load false 1 (.t 52)) 240011003,q 54 (.dc (.t 10)) 240011004,q 55 (.zf (.t 54)) 240011005,q 56 (.fB 1 (.t 55)) 240011006,q 57 (.load false 1 (.t 56)) 240011007,q 58 (.bin .lss .i64 (.t 53) (.t 57)) 240011008,q 49 (.dc (.t 58)) 240011009]) (.cond (.t 49) (.ew false [q 59 (.dc (.t 10)) 240012000,q 60 (.dc (.t 9)) 240012001,q 61 (.zf (.t 59)) 240012002,q 62 (.fB 0 (.t 61)) 240012003,⟨none,(.store 1 (.t 62) (.t 60)),none,240012004,[]⟩]) (.seq (.ew true [q 64 (.dc (.t 10)) 240013000,q 65 (.zf (.t 64)) 240013001,q 66 (.fB 1 (.t 65)) 240013002,q 67 (.load false 1 (.t 66)) 240013003,q 68 (.dc (.t 9)) 240013004,q 69 (.zf (.t 68)) 240013005,q 70 (.fB 1 (.t 69)) 240013006,q 71 (.load false 1 (.t 70)) 240013007,q 72 (.bin .lss .i64 (.t 67) (.t 71)) 240013008,q 63 (.dc (.t 72)) 240013009]) (.cond (.t 63) (.ew false [q 73 (.dc (.t 9)) 240014000,q 74 (.dc (.t 10)) 240014001,q 75 (.zf (.t 73)) 240014002,q 76 (.fB 0 (.t 75)) 240014003,⟨none,(.store 1 (.t 76) (.t 74)),none,240014004,[]⟩]) .skip)))))))) (.ew false [q 77 (.bin .add .i64 (.t 33) (.k (.int .i64 1))) 240015000,q 33 (.dc (.t 77)) 240015001]))))))) (.seq (.ew false [q 11 (.dc (.k .b4)) 240016000]) (.seq (.ew false [⟨(some 78),(.mq (.new ⟨false,[.tI]⟩) []),none,240017000,[]⟩,q 12 (.dc (.t 78)) 240017001]) (.seq (.seq (.ew false [q 79 (.dc (.t 5)) 240018000,q 80 (.len (.t 79)) 240018001,q 81 (.dc (.k (.int .i64 0))) 240018002]) (.block 5 (.loop (.seq (.ew false [q 82 (.bin .lss .i64 (.t 81) (.t 80)) 240019000]) (.seq (.cond (.t 82) .skip (.exit 5)) (.seq (.block 6 (.seq (.ew false [q 83 (.dc (.t 81)) 240020000,q 84 (.dw 1 (.t 79) (.t 81)) 240020001,q 85 (.load false 1 (.t 84)) 240020002,q 13 (.dc (.t 83)) 240020003,q 14 (.dc (.t 85)) 240020004]) (.seq (.ew false [q 87 (.dc (.t 12)) 240021000,q 88 (.dc (.t 14)) 240021001,q 89 (.call 262 [(.t 88)]) 240021002,q 90 (.zf (.t 89)) 240021003,q 91 (.fB 1 (.t 90)) 240021004,q 92 (.load false 1 (.t 91)) 240021005,⟨(some 93),(.mq (.look ⟨false,[.tI]⟩ true (.int .i64 0)) [(.t 87),(.t 92)]),none,240021006,[]⟩,q 86 (.dc (.t 93)) 240021007,q 94 (.extract 0 (.t 86)) 240021008,q 95 (.extract 1 (.t 86)) 240021009,q 15 (.dc (.t 94)) 240021010,q 16 (.dc (.t 95)) 240021011]) (.seq (.seq (.ew false [q 96 (.dc (.t 16)) 240022000,q 97 (.not (.t 96)) 240022001]) (.cond (.t 97) (.seq (.ew false [q 98 (.dc (.t 11)) 240023000,q 99 (.len (.t 98)) 240023001,q 15 (.dc (.t 99)) 240023002]) (.seq (.ew false [q 100 (.dc (.t 12)) 240024000,q 101 (.dc (.t 13)) 240024001,q 102 (.dc (.t 15)) 240024002,⟨none,(.mw (.set ⟨false,[.tI]⟩) [(.t 100),(.t 101),(.t 102)]),none,240024003,[]⟩]) (.ew false [q 103 (.dc (.t 11)) 240025000,q 104 (.lf 1 1 [(.k .b4)]) 240025001,q 105 (.append 1 (.t 103) (.t 104)) 240025002,q 11 (.dc (.t 105)) 240025003]))) .skip)) (.ew false [q 106 (.dc (.t 11)) 240026000,q 107 (.dc (.t 15)) 240026001,q 108 (.dc (.t 11)) 240026002,q 109 (.dc (.t 15)) 240026003,q 110 (.dw 1 (.t 108) (.t 109)) 240026004,q 111 (.load false 1 (.t 110)) 240026005,q 112 (.dc (.t 13)) 240026006,q 113 (.lf 1 1 [(.t 112)]) 240026007,q 114 (.append 1 (.t 111) (.t 113)) 240026008,q 115 (.dw 1 (.t 106) (.t 107)) 240026009,⟨none,(.store 1 (.t 115) (.t 114)),none,240026010,[]⟩]))))) (.ew false [q 116 (.bin .add .i64 (.t 81) (.k (.int .i64 1))) 240027000,q 81 (.dc (.t 116)) 240027001]))))))) (.seq (.ew false [q 117 (.dc (.t 11)) 240028000,q 4 (.dc (.t 117)) 240028001]) .ret)))))))),[(.tmp 4)]⟩
theorem Lr:vM Tryz.prog 240 [(10,2)]=some MU:=by kernel_rfl
end Go.Proofs.YtgoelphibofcmaaGreat.V

namespace Go.Proofs.YtgoelphibofcmaaGreat.V
open Go.RowKit
attribute [local irreducible] dx wpOps gp Call
attribute [local go_sem] aH fC eG fW fV cF upd cj K.av cJ AV.cells AV.cell rowOf rowsOf part ld rowAt bj bY dz eb gT bE cZ er fS eU dp eh cX cW dR dS bH aW cN bG cQ cP ee ei ef cL bP cY ec bF aL cU cw gS bl cG bI aP dd aU dB AV.undef bw bB dV ea dI dG cE ep ev cq ek ej cR cV List.getD_cons_zero List.getD_cons_succ List.getD_nil List.all_cons List.all_nil Bool.and_true Bool.true_and Bool.and_self Bool.not_true Bool.not_false Option.map_some Option.map_none Option.bind_some Option.bind_none List.length_cons List.length_nil List.take_succ_cons List.take_zero List.take_nil List.drop_succ_cons List.drop_zero List.drop_nil List.head?_cons List.map_cons List.map_nil List.getElem?_cons_zero List.getElem?_cons_succ List.cons_append List.nil_append List.append_nil List.length_map List.set_cons_zero List.set_cons_succ Nat.reduceMul eq_self Int.toNat_natCast Int.natCast_nonneg and_self true_and and_true decide_true decide_false Bool.false_eq_true Nat.zero_add Nat.add_zero List.contains_cons List.contains_nil Bool.or_false Bool.false_or beq_self_eq_true Nat.reduceBEq ne_eq not_true_eq_false not_false_eq_true Id.mk.injEq false_and and_false Nat.reduceLT Int.reduceLE Int.reduceLT Int.reduceToNat Int.reduceNeg Int.reduceAdd Nat.le_refl List.length_append beq_true beq_false Bool.not_eq_eq_eq_not or_false false_or dO ah aq aI aZ bt ck aS bf aO aY cK bK
theorem zR (x:gK) (g:Rows):da g 6 [.agg (cm x)]=some [.agg (cm x)]:=by simp[cm,ah,aq,bf,bt,aI]
theorem zS (x:e5) (g:Rows):da g 6 [.agg (bq x)]=some [.agg (bq x)]:=by simp[bq,ah,aq,bf,bt,ck]
theorem BO (x:ad) (g:Rows):da g 6 [.agg (ab x)]=some [.agg (ab x)]:=by simp[ab,ah,aq,bf,aI]
theorem hZ {n:Nat} {l:Int} (h:(n:Int)<=l):wh n l=l-n:=if_pos h
theorem il {n:Nat} {l:Int} (h:¬(n:Int)<=l):wh n l= -1:=if_neg h
def k7 (t:e5):Nat:=t.aD.size+t.bV.length
def vk (s:au):Nat:=(s.ay.length+(s.ay.map fun g=>g.aD.size).sum)+(s.ai.length+(s.ai.map k7).sum)
def y7 (s:aC):Nat:=vk s.aK+s.bc.ai.length
def gx (s:au):Prop:=(∀g∈s.ay,g.aD.size<=9223372036854775807)/\∀t∈s.ai,t.aD.size<=9223372036854775807
theorem H6 (g:gK) (l:Int) (h0:0<=l) (h1:l<=1048576) (hs:g.aD.size<=9223372036854775807):aj Tryz.prog 154 [.agg (cm g),.int .i64 l] (.int .i64 (wh g.aD.size l)):=by
 refine aj.body eI rfl fun hl n0=>?_
 clear hl
 have hw:IntKind.i64.wrap (l-(g.aD.size:Int))=l-g.aD.size:=bW (by omega)
 by_cases hf:(g.aD.size:Int)<=l
 ·have jI:¬l-(g.aD.size:Int)<0:=by omega
  (try((repeat(revert hN;revert N;apply Pn.out));refine wk (tw @cm.eq_1 (tw @hw @jI)) ?_;(repeat(refine Pn.mk ?_;intro N hN))))
  exact bZ (b:=l-(g.aD.size:Int)) (.inl rfl) (sd @Nat.zero_add) (hZ hf).symm
 ·have jI:l-(g.aD.size:Int)<0:=by omega
  (try((repeat(revert hN;revert N;apply Pn.out));refine wk (tw @cm.eq_1 (tw @hw @jI)) ?_;(repeat(refine Pn.mk ?_;intro N hN))))
  exact bZ (b:=-1) (.inl rfl) (sd @Nat.zero_add) (il hf).symm
theorem H7 (xs:List Int) (l:Int) (h0:0<=l) (h1:l<=1048576):aj Tryz.prog 188 [.sl (xs.map br),.int .i64 l] (.int .i64 (wh xs.length l)):=by
 have h:=H9 (show mV Tryz.prog 188=some (H8 188) by kernel_rfl) (xs.map br) l h0 h1
 rwa [List.length_map]at h
theorem Ic (t:e5) (l:Int) (h0:0<=l) (h1:l<=1048576) (hs:t.aD.size<=9223372036854775807):aj Tryz.prog 155 [.agg (bq t),.int .i64 l] (.int .i64 (wh (k7 t) l)):=by
 refine aj.body eI rfl fun hl n0=>?_
 clear hl
 have hw:IntKind.i64.wrap (l-(t.aD.size:Int))=l-t.aD.size:=bW (by omega)
 by_cases hf:(t.aD.size:Int)<=l
 ·have jI:¬l-(t.aD.size:Int)<0:=by omega
  have hc:=H7 t.bV (l-t.aD.size) (by omega) (by omega)
  by_cases hg:(t.bV.length:Int)<=l-t.aD.size
  ·rw[hZ hg]at hc
   have zj:¬l-(t.aD.size:Int)-(t.bV.length:Int)<0:=by omega
   (repeat(first|((repeat(revert hN;revert N;apply Pn.out));refine wk (tw @bq.eq_1 (tw @hw (tw @jI @zj))) ?_;(repeat(refine Pn.mk ?_;intro N hN)))|((try apply Or.inl);refine⟨_,aj.x (hc) (sd (tw @bq.eq_1 (tw @hw (tw @jI @zj)))),?_⟩;refine hN _ _ ?_;clear hN N)))
   exact bZ (b:=l-(t.aD.size:Int)-(t.bV.length:Int)) (.inl rfl) (sd @Nat.zero_add) (by rw[hZ (by unfold k7;omega)];unfold k7;omega)
  ·rw[il hg]at hc
   (repeat(first|((repeat(revert hN;revert N;apply Pn.out));refine wk (tw @bq.eq_1 (tw @hw @jI)) ?_;(repeat(refine Pn.mk ?_;intro N hN)))|((try apply Or.inl);refine⟨_,aj.x (hc) (sd (tw @bq.eq_1 (tw @hw @jI))),?_⟩;refine hN _ _ ?_;clear hN N)))
   exact bZ (b:=-1) (.inl rfl) (sd @Nat.zero_add) (il (by unfold k7;omega)).symm
 ·have jI:l-(t.aD.size:Int)<0:=by omega
  (try((repeat(revert hN;revert N;apply Pn.out));refine wk (tw @bq.eq_1 (tw @hw @jI)) ?_;(repeat(refine Pn.mk ?_;intro N hN))))
  exact bZ (b:=-1) (.inl rfl) (sd @Nat.zero_add) (il (by unfold k7;omega)).symm
theorem Fs (xs:List gK) (l:Int) (h0:0<=l) (h1:l<=1048576) (hs:∀g∈xs,g.aD.size<=9223372036854775807):aj Tryz.prog 94 [.sl (xs.map cm),.int .i64 l] (.int .i64 (wh (xs.length+(xs.map fun g=>g.aD.size).sum) l)):=
 Ib (fun g:gK=>g.aD.size) (show mV Tryz.prog 94=some (Ia 94 154 2) by kernel_rfl) (fun _=>rfl) zR xs l h0 h1 fun x hx l a b=>H6 x l a b (hs x hx)
theorem Ft (xs:List e5) (l:Int) (h0:0<=l) (h1:l<=1048576) (hs:∀t∈xs,t.aD.size<=9223372036854775807):aj Tryz.prog 95 [.sl (xs.map bq),.int .i64 l] (.int .i64 (wh (xs.length+(xs.map k7).sum) l)):=
 Ib k7 (show mV Tryz.prog 95=some (Ia 95 155 2) by kernel_rfl) (fun _=>rfl) zS xs l h0 h1 fun x hx l a b=>Ic x l a b (hs x hx)
theorem CN (xs:List ad) (l:Int) (h0:0<=l) (h1:l<=1048576):aj Tryz.prog 57 [.sl (xs.map ab),.int .i64 l] (.int .i64 (wh xs.length l)):=by
 have h:=H9 (show mV Tryz.prog 57=some (H8 57) by kernel_rfl) (xs.map ab) l h0 h1
 rwa [List.length_map]at h
theorem AS (s:au) (l:Int) (h0:0<=l) (h1:l<=1048576) (hs:gx s):aj Tryz.prog 56 [.agg (aa s),.int .i64 l] (.int .i64 (wh (vk s) l)):=by
 refine aj.body eI rfl fun hl n0=>?_
 clear hl
 have ha:=Fs s.ay l h0 h1 hs.1
 have he:vk s=(s.ay.length+(s.ay.map fun g=>g.aD.size).sum)+(s.ai.length+(s.ai.map k7).sum):=rfl
 by_cases hf:((s.ay.length+(s.ay.map fun g=>g.aD.size).sum:Nat):Int)<=l
 ·rw[hZ hf]at ha
  obtain⟨A,hA⟩:∃A:Int,A=l-((s.ay.length+(s.ay.map fun g=>g.aD.size).sum:Nat):Int):=⟨_,rfl⟩
  rw[<-hA]at ha
  have jI:¬A<0:=by omega
  have hb:=Ft s.ai A (by omega) (by omega) hs.2
  by_cases hg:((s.ai.length+(s.ai.map k7).sum:Nat):Int)<=A
  ·rw[hZ hg]at hb
   obtain⟨B,hB⟩:∃B:Int,B=A-((s.ai.length+(s.ai.map k7).sum:Nat):Int):=⟨_,rfl⟩
   rw[<-hB]at hb
   have zj:¬B<0:=by omega
   (repeat(first|((repeat(revert hN;revert N;apply Pn.out));refine wk (tw @aa.eq_1 (tw @jI @zj)) ?_;(repeat(refine Pn.mk ?_;intro N hN)))|((try apply Or.inl);refine⟨_,aj.x (ha) (sd (tw @aa.eq_1 (tw @jI @zj))),?_⟩;refine hN _ _ ?_;clear hN N)|((try apply Or.inl);refine⟨_,aj.x (hb) (sd (tw @aa.eq_1 (tw @jI @zj))),?_⟩;refine hN _ _ ?_;clear hN N)))
   exact bZ (b:=B) (.inl rfl) (sd @Nat.zero_add) (by rw[hZ (by omega)];omega)
  ·rw[il hg]at hb
   (repeat(first|((repeat(revert hN;revert N;apply Pn.out));refine wk (tw @aa.eq_1 @jI) ?_;(repeat(refine Pn.mk ?_;intro N hN)))|((try apply Or.inl);refine⟨_,aj.x (ha) (sd (tw @aa.eq_1 @jI)),?_⟩;refine hN _ _ ?_;clear hN N)|((try apply Or.inl);refine⟨_,aj.x (hb) (sd (tw @aa.eq_1 @jI)),?_⟩;refine hN _ _ ?_;clear hN N)))
   exact bZ (b:=-1) (.inl rfl) (sd @Nat.zero_add) (il (by omega)).symm
 ·rw[il hf]at ha
  (repeat(first|((repeat(revert hN;revert N;apply Pn.out));refine wk @aa.eq_1 ?_;(repeat(refine Pn.mk ?_;intro N hN)))|((try apply Or.inl);refine⟨_,aj.x (ha) (sd @aa.eq_1),?_⟩;refine hN _ _ ?_;clear hN N)))
  exact bZ (b:=-1) (.inl rfl) (sd @Nat.zero_add) (il (by omega)).symm
theorem qG (a:eK) (l:Int) (h0:0<=l) (h1:l<=1048576):aj Tryz.prog 15 [.agg (bd a),.int .i64 l] (.int .i64 (wh a.ai.length l)):=by
 refine aj.body eI rfl fun hl n0=>?_
 clear hl
 have ha:=CN a.ai l h0 h1
 by_cases hf:(a.ai.length:Int)<=l
 ·rw[hZ hf]at ha
  have jI:¬l-(a.ai.length:Int)<0:=by omega
  (repeat(first|((repeat(revert hN;revert N;apply Pn.out));refine wk (tw @bd.eq_1 @jI) ?_;(repeat(refine Pn.mk ?_;intro N hN)))|((try apply Or.inl);refine⟨_,aj.x (ha) (sd (tw @bd.eq_1 @jI)),?_⟩;refine hN _ _ ?_;clear hN N)))
  exact bZ (b:=l-(a.ai.length:Int)) (.inl rfl) (sd @Nat.zero_add) (hZ hf).symm
 ·rw[il hf]at ha
  (repeat(first|((repeat(revert hN;revert N;apply Pn.out));refine wk @bd.eq_1 ?_;(repeat(refine Pn.mk ?_;intro N hN)))|((try apply Or.inl);refine⟨_,aj.x (ha) (sd @bd.eq_1),?_⟩;refine hN _ _ ?_;clear hN N)))
  exact bZ (b:=-1) (.inl rfl) (sd @Nat.zero_add) (il hf).symm
theorem CO (s:aC) (l:Int) (h0:0<=l) (h1:l<=1048576) (hs:gx s.aK):aj Tryz.prog 14 [.agg (ax s),.int .i64 l] (.int .i64 (wh (y7 s) l)):=by
 refine aj.body eI rfl fun hl n0=>?_
 clear hl
 have ha:=AS s.aK l h0 h1 hs
 rw[aa]at ha
 have he:y7 s=vk s.aK+s.bc.ai.length:=rfl
 by_cases hf:(vk s.aK:Int)<=l
 ·rw[hZ hf]at ha
  have jI:¬l-(vk s.aK:Int)<0:=by omega
  have hb:=qG s.bc (l-vk s.aK) (by omega) (by omega)
  rw[bd]at hb
  by_cases hg:(s.bc.ai.length:Int)<=l-vk s.aK
  ·rw[hZ hg]at hb
   have zj:¬l-(vk s.aK:Int)-(s.bc.ai.length:Int)<0:=by omega
   (repeat(first|((repeat(revert hN;revert N;apply Pn.out));refine wk (tw @ax.eq_1 (tw @jI @zj)) ?_;(repeat(refine Pn.mk ?_;intro N hN)))|((try apply Or.inl);refine⟨_,aj.x (ha) (sd (tw @ax.eq_1 (tw @jI @zj))),?_⟩;refine hN _ _ ?_;clear hN N)|((try apply Or.inl);refine⟨_,aj.x (hb) (sd (tw @ax.eq_1 (tw @jI @zj))),?_⟩;refine hN _ _ ?_;clear hN N)))
   exact bZ (b:=l-(vk s.aK:Int)-(s.bc.ai.length:Int)) (.inl rfl) (sd @Nat.zero_add) (by rw[hZ (by omega)];omega)
  ·rw[il hg]at hb
   (repeat(first|((repeat(revert hN;revert N;apply Pn.out));refine wk (tw @ax.eq_1 @jI) ?_;(repeat(refine Pn.mk ?_;intro N hN)))|((try apply Or.inl);refine⟨_,aj.x (ha) (sd (tw @ax.eq_1 @jI)),?_⟩;refine hN _ _ ?_;clear hN N)|((try apply Or.inl);refine⟨_,aj.x (hb) (sd (tw @ax.eq_1 @jI)),?_⟩;refine hN _ _ ?_;clear hN N)))
   exact bZ (b:=-1) (.inl rfl) (sd @Nat.zero_add) (il (by omega)).symm
 ·rw[il hf]at ha
  (repeat(first|((repeat(revert hN;revert N;apply Pn.out));refine wk @ax.eq_1 ?_;(repeat(refine Pn.mk ?_;intro N hN)))|((try apply Or.inl);refine⟨_,aj.x (ha) (sd @ax.eq_1),?_⟩;refine hN _ _ ?_;clear hN N)))
  exact bZ (b:=-1) (.inl rfl) (sd @Nat.zero_add) (il (by omega)).symm
end Go.Proofs.YtgoelphibofcmaaGreat.V

namespace Go.Proofs.YtgoelphibofcmaaGreat.V
open Go.RowKit
attribute [local irreducible] dx wpOps gp Call
attribute [local go_sem] aH fC eG fW fV cF upd cj K.av cJ AV.cells AV.cell rowOf rowsOf part ld rowAt bj bY dz eb gT bE cZ er fS eU dp eh cX cW dR dS bH aW cN bG cQ cP ee ei ef cL bP cY ec bF aL cU cw gS bl cG bI aP dd aU dB AV.undef bw bB dV ea dI dG cE ep ev cq ek ej cR cV List.getD_cons_zero List.getD_cons_succ List.getD_nil List.all_cons List.all_nil Bool.and_true Bool.true_and Bool.and_self Bool.not_true Bool.not_false Option.map_some Option.map_none Option.bind_some Option.bind_none List.length_cons List.length_nil List.take_succ_cons List.take_zero List.take_nil List.drop_succ_cons List.drop_zero List.drop_nil List.head?_cons List.map_cons List.map_nil List.getElem?_cons_zero List.getElem?_cons_succ List.cons_append List.nil_append List.append_nil List.length_map List.set_cons_zero List.set_cons_succ Nat.reduceMul eq_self Int.toNat_natCast Int.natCast_nonneg and_self true_and and_true decide_true decide_false Bool.false_eq_true Nat.zero_add Nat.add_zero List.contains_cons List.contains_nil Bool.or_false Bool.false_or beq_self_eq_true Nat.reduceBEq ne_eq not_true_eq_false not_false_eq_true Id.mk.injEq false_and and_false Nat.reduceLT Int.reduceLE Int.reduceLT Int.reduceToNat Int.reduceNeg Int.reduceAdd Nat.le_refl List.length_append beq_true beq_false Bool.not_eq_eq_eq_not or_false false_or dO ah aq aI aZ bt ck aS bf aO aY cK bK
theorem J4 (x:gK) (g:Rows):da g 5 (cm x)=some (cm x):=by simp[cm,ah,aq,bt,aI]
theorem J5 (x:e5) (g:Rows):da g 5 (bq x)=some (bq x):=by simp[bq,ah,aq,bt,ck]
theorem Fa (x:ad) (g:Rows):da g 5 (ab x)=some (ab x):=by simp[ab,ah,aq,aI]
theorem Fy (p:aB):lS Tryz.prog 82 [.agg (ae p)] (.agg (ae p)):=by
 refine lS.body eI rfl fun hl σ=>?_
 clear hl
 (try((repeat(revert hN;revert N;apply Pn.out));refine wk @ae.eq_1 ?_;(repeat(refine Pn.mk ?_;intro N hN))))
 exact Cv (.inl rfl) (vs:=[.agg (ae p)]) (by simp only[go_sem, ↓reduceIte,Nat.reduceEqDiff,Nat.reduceAdd,Nat.reduceSub,Nat.reduceLeDiff,reduceCtorEq,eZ,gR,ae]) (by simp[fo,ae,bf,ah,aq,aI])
theorem CQ (p:ad):lS Tryz.prog 104 [.agg (ab p)] (.agg (ab p)):=by
 refine lS.body eI rfl fun hl σ=>?_
 clear hl
 have h:=Fy p.aJ
 rw[ae]at h
 (repeat(first|((repeat(revert hN;revert N;apply Pn.out));refine wk @ab.eq_1 ?_;(repeat(refine Pn.mk ?_;intro N hN)))|((try apply Or.inl);refine⟨_,lS.x (h) _,?_⟩;refine hN _ _ ?_;clear hN N)))
 exact Cv (.inl rfl) (vs:=[.agg (ab p)]) (by simp only[go_sem, ↓reduceIte,Nat.reduceEqDiff,Nat.reduceAdd,Nat.reduceSub,Nat.reduceLeDiff,reduceCtorEq,eZ,gR,ab]) (by simp[fo,ab,bf,ah,aq,aI])
theorem Il (p:gK):lS Tryz.prog 161 [.agg (cm p)] (.agg (cm p)):=by
 refine lS.body eI rfl fun hl σ=>?_
 clear hl
 (try((repeat(revert hN;revert N;apply Pn.out));refine wk @cm.eq_1 ?_;(repeat(refine Pn.mk ?_;intro N hN))))
 exact Cv (.inl rfl) (vs:=[.agg (cm p)]) (by simp only[go_sem, ↓reduceIte,Nat.reduceEqDiff,Nat.reduceAdd,Nat.reduceSub,Nat.reduceLeDiff,reduceCtorEq,eZ,gR,cm]) (by simp[fo,cm,bf,ah,aq,aI,bt])
theorem Im (xs:List Int) (h:xs.length<=1048576):lS Tryz.prog 195 [.sl (xs.map br)] (.sl (xs.map br)):=
 Pw (show mV Tryz.prog 195=some (K1 195 (.int .i64 0)) by kernel_rfl) xs h
def xM (t:e5):Prop:=t.bV.length<=1048576
theorem Io (p:e5) (hs:xM p):lS Tryz.prog 162 [.agg (bq p)] (.agg (bq p)):=by
 refine lS.body eI rfl fun hl σ=>?_
 clear hl
 have h:=Im p.bV hs
 (repeat(first|((repeat(revert hN;revert N;apply Pn.out));refine wk @bq.eq_1 ?_;(repeat(refine Pn.mk ?_;intro N hN)))|((try apply Or.inl);refine⟨_,lS.x (h) _,?_⟩;refine hN _ _ ?_;clear hN N)))
 exact Cv (.inl rfl) (vs:=[.agg (bq p)]) (by simp only[go_sem, ↓reduceIte,Nat.reduceEqDiff,Nat.reduceAdd,Nat.reduceSub,Nat.reduceLeDiff,reduceCtorEq,eZ,gR,bq]) (by simp[fo,bq,bf,ah,aq,ck,bt])
theorem Gw (xs ys:List Int):aj Tryz.prog 30 [.sl (xs.map br),.sl (ys.map br)] (.bool (decide (xs=ys))):=
 N5 (show mV Tryz.prog 30=some (Kv 30 .tI) by kernel_rfl) xs ys
theorem Gx (a b:e5):aj Tryz.prog 170 [.agg (bq a),.agg (bq b)] (.bool (decide (a=b))):=by
 refine aj.body eI rfl fun hl n0=>?_
 clear hl
 have h:=Gw a.bV b.bV
 by_cases h1:a.aD=b.aD
 ·have e1:decide (a.aD=b.aD)=true:=decide_eq_true h1
  by_cases h2:a.bV=b.bV
  ·rw[decide_eq_true h2]at h
   (repeat(first|((repeat(revert hN;revert N;apply Pn.out));refine wk (tw @bq.eq_1 @e1) ?_;(repeat(refine Pn.mk ?_;intro N hN)))|((try apply Or.inl);refine⟨_,aj.x (h) (sd (tw @bq.eq_1 @e1)),?_⟩;refine hN _ _ ?_;clear hN N)))
   exact aM (b:=true) (.inl rfl) (sd @Nat.zero_add) (decide_eq_true (by cases a;cases b;simp_all)).symm
  ·rw[decide_eq_false h2]at h
   (repeat(first|((repeat(revert hN;revert N;apply Pn.out));refine wk (tw @bq.eq_1 @e1) ?_;(repeat(refine Pn.mk ?_;intro N hN)))|((try apply Or.inl);refine⟨_,aj.x (h) (sd (tw @bq.eq_1 @e1)),?_⟩;refine hN _ _ ?_;clear hN N)))
   exact aM (b:=false) (.inl rfl) (sd @Nat.zero_add) (decide_eq_false (by rintro rfl;exact h2 rfl)).symm
 ·have e1:decide (a.aD=b.aD)=false:=decide_eq_false h1
  (try((repeat(revert hN;revert N;apply Pn.out));refine wk (tw @bq.eq_1 @e1) ?_;(repeat(refine Pn.mk ?_;intro N hN))))
  exact aM (b:=false) (.inl rfl) (sd @Nat.zero_add) (decide_eq_false (by rintro rfl;exact h1 rfl)).symm
theorem Fx (xs:List gK) (h:xs.length<=1048576):lS Tryz.prog 102 [.sl (xs.map cm)] (.sl (xs.map cm)):=
 CR (show mV Tryz.prog 102=some (DR 102 161 2 [.str [],.int .i64 0]) by kernel_rfl) rfl (fun _=>rfl) (fun _=>rfl) J4 xs h fun x _=>Il x
theorem Fz (xs:List e5) (h:xs.length<=1048576) (hs:∀t∈xs,xM t):lS Tryz.prog 103 [.sl (xs.map bq)] (.sl (xs.map bq)):=
 CR (show mV Tryz.prog 103=some (DR 103 162 2 [.str [],.b4]) by kernel_rfl) rfl (fun _=>rfl) (fun _=>rfl) J5 xs h fun x hx=>Io x (hs x hx)
theorem AW (xs:List ad) (h:xs.length<=1048576):lS Tryz.prog 62 [.sl (xs.map ab)] (.sl (xs.map ab)):=
 CR (show mV Tryz.prog 62=some (DR 62 104 3 [.int .i64 0,.int .i64 0,.int .i64 0]) by kernel_rfl) rfl (fun _=>rfl) (fun _=>rfl) Fa xs h fun x _=>CQ x
structure Ks (s:au):Prop where
 g:s.ay.length<=1048576
 t:s.ai.length<=1048576
 s:∀t∈s.ai,xM t
structure wo (y:aC):Prop where
 s:Ks y.aK
 a:y.bc.ai.length<=1048576
theorem AX (p:au) (hs:Ks p):lS Tryz.prog 61 [.agg (aa p)] (.agg (aa p)):=by
 refine lS.body eI rfl fun hl σ=>?_
 clear hl
 have h1:=Fx p.ay hs.g
 have h2:=Fz p.ai hs.t hs.s
 (repeat(first|((repeat(revert hN;revert N;apply Pn.out));refine wk @aa.eq_1 ?_;(repeat(refine Pn.mk ?_;intro N hN)))|((try apply Or.inl);refine⟨_,lS.x (h1) _,?_⟩;refine hN _ _ ?_;clear hN N)|((try apply Or.inl);refine⟨_,lS.x (h2) _,?_⟩;refine hN _ _ ?_;clear hN N)))
 exact Cv (.inl rfl) (vs:=[.agg (aa p)]) (by simp only[go_sem, ↓reduceIte,Nat.reduceEqDiff,Nat.reduceAdd,Nat.reduceSub,Nat.reduceLeDiff,reduceCtorEq,eZ,gR,aa]) (by simp[fo,aa,bf,ah,aq,ck])
theorem qI (p:eK) (hs:p.ai.length<=1048576):lS Tryz.prog 18 [.agg (bd p)] (.agg (bd p)):=by
 refine lS.body eI rfl fun hl σ=>?_
 clear hl
 have h1:=AW p.ai hs
 (repeat(first|((repeat(revert hN;revert N;apply Pn.out));refine wk @bd.eq_1 ?_;(repeat(refine Pn.mk ?_;intro N hN)))|((try apply Or.inl);refine⟨_,lS.x (h1) _,?_⟩;refine hN _ _ ?_;clear hN N)))
 exact Cv (.inl rfl) (vs:=[.agg (bd p)]) (by simp only[go_sem, ↓reduceIte,Nat.reduceEqDiff,Nat.reduceAdd,Nat.reduceSub,Nat.reduceLeDiff,reduceCtorEq,eZ,gR,bd]) (by simp[fo,bd,bf,ah,aq,ck])
theorem CT (p:aC) (hs:wo p):lS Tryz.prog 17 [.agg (ax p)] (.agg (ax p)):=by
 refine lS.body eI rfl fun hl σ=>?_
 clear hl
 have h1:=AX p.aK hs.s
 have h2:=qI p.bc hs.a
 rw[aa]at h1
 rw[bd]at h2
 (repeat(first|((repeat(revert hN;revert N;apply Pn.out));refine wk @ax.eq_1 ?_;(repeat(refine Pn.mk ?_;intro N hN)))|((try apply Or.inl);refine⟨_,lS.x (h1) _,?_⟩;refine hN _ _ ?_;clear hN N)|((try apply Or.inl);refine⟨_,lS.x (h2) _,?_⟩;refine hN _ _ ?_;clear hN N)))
 exact Cv (.inl rfl) (vs:=[.agg (ax p)]) (by simp only[go_sem, ↓reduceIte,Nat.reduceEqDiff,Nat.reduceAdd,Nat.reduceSub,Nat.reduceLeDiff,reduceCtorEq,eZ,gR,ax]) (by simp[fo,ax,bf,ah,aq,ck,aI])
theorem Gv (a b:gK):aj Tryz.prog 169 [.agg (cm a),.agg (cm b)] (.bool (decide (a=b))):=by
 refine aj.body eI rfl fun hl n0=>?_
 clear hl
 by_cases h1:a.aD=b.aD
 ·have e1:decide (a.aD=b.aD)=true:=decide_eq_true h1
  by_cases h2:a.eA=b.eA
  ·have e2:decide (a.eA=b.eA)=true:=decide_eq_true h2
   (try((repeat(revert hN;revert N;apply Pn.out));refine wk (tw @cm.eq_1 (tw @e1 @e2)) ?_;(repeat(refine Pn.mk ?_;intro N hN))))
   exact aM (b:=true) (.inl rfl) (sd @Nat.zero_add) (decide_eq_true (by cases a;cases b;simp_all)).symm
  ·have e2:decide (a.eA=b.eA)=false:=decide_eq_false h2
   (try((repeat(revert hN;revert N;apply Pn.out));refine wk (tw @cm.eq_1 (tw @e1 @e2)) ?_;(repeat(refine Pn.mk ?_;intro N hN))))
   exact aM (b:=false) (.inl rfl) (sd @Nat.zero_add) (decide_eq_false (by rintro rfl;exact h2 rfl)).symm
 ·have e1:decide (a.aD=b.aD)=false:=decide_eq_false h1
  (try((repeat(revert hN;revert N;apply Pn.out));refine wk (tw @cm.eq_1 @e1) ?_;(repeat(refine Pn.mk ?_;intro N hN))))
  exact aM (b:=false) (.inl rfl) (sd @Nat.zero_add) (decide_eq_false (by rintro rfl;exact h1 rfl)).symm
theorem Ep (a b:aB):aj Tryz.prog 29 [.agg (ae a),.agg (ae b)] (.bool (decide (a=b))):=by
 refine aj.body eI rfl fun hl n0=>?_
 clear hl
 by_cases h1:a.eS=b.eS
 ·have e1:decide (a.eS=b.eS)=true:=decide_eq_true h1
  by_cases h2:a.eH=b.eH
  ·have e2:decide (a.eH=b.eH)=true:=decide_eq_true h2
   (try((repeat(revert hN;revert N;apply Pn.out));refine wk (tw @ae.eq_1 (tw @e1 @e2)) ?_;(repeat(refine Pn.mk ?_;intro N hN))))
   exact aM (b:=true) (.inl rfl) (sd @Nat.zero_add) (decide_eq_true (by cases a;cases b;simp_all)).symm
  ·have e2:decide (a.eH=b.eH)=false:=decide_eq_false h2
   (try((repeat(revert hN;revert N;apply Pn.out));refine wk (tw @ae.eq_1 (tw @e1 @e2)) ?_;(repeat(refine Pn.mk ?_;intro N hN))))
   exact aM (b:=false) (.inl rfl) (sd @Nat.zero_add) (decide_eq_false (by rintro rfl;exact h2 rfl)).symm
 ·have e1:decide (a.eS=b.eS)=false:=decide_eq_false h1
  (try((repeat(revert hN;revert N;apply Pn.out));refine wk (tw @ae.eq_1 @e1) ?_;(repeat(refine Pn.mk ?_;intro N hN))))
  exact aM (b:=false) (.inl rfl) (sd @Nat.zero_add) (decide_eq_false (by rintro rfl;exact h1 rfl)).symm
theorem BC (a b:ad):aj Tryz.prog 110 [.agg (ab a),.agg (ab b)] (.bool (decide (a=b))):=by
 refine aj.body eI rfl fun hl n0=>?_
 clear hl
 have h:=Ep a.aJ b.aJ
 rw[ae,ae]at h
 by_cases h1:a.aJ=b.aJ
 ·rw[decide_eq_true h1]at h
  by_cases h2:a.aN=b.aN
  ·have e2:decide (a.aN=b.aN)=true:=decide_eq_true h2
   (repeat(first|((repeat(revert hN;revert N;apply Pn.out));refine wk (tw @ab.eq_1 @e2) ?_;(repeat(refine Pn.mk ?_;intro N hN)))|((try apply Or.inl);refine⟨_,aj.x (h) (sd (tw @ab.eq_1 @e2)),?_⟩;refine hN _ _ ?_;clear hN N)))
   exact aM (b:=true) (.inl rfl) (sd @Nat.zero_add) (decide_eq_true (by cases a;cases b;simp_all)).symm
  ·have e2:decide (a.aN=b.aN)=false:=decide_eq_false h2
   (repeat(first|((repeat(revert hN;revert N;apply Pn.out));refine wk (tw @ab.eq_1 @e2) ?_;(repeat(refine Pn.mk ?_;intro N hN)))|((try apply Or.inl);refine⟨_,aj.x (h) (sd (tw @ab.eq_1 @e2)),?_⟩;refine hN _ _ ?_;clear hN N)))
   exact aM (b:=false) (.inl rfl) (sd @Nat.zero_add) (decide_eq_false (by rintro rfl;exact h2 rfl)).symm
 ·rw[decide_eq_false h1]at h
  (repeat(first|((repeat(revert hN;revert N;apply Pn.out));refine wk @ab.eq_1 ?_;(repeat(refine Pn.mk ?_;intro N hN)))|((try apply Or.inl);refine⟨_,aj.x (h) (sd @ab.eq_1),?_⟩;refine hN _ _ ?_;clear hN N)))
  exact aM (b:=false) (.inl rfl) (sd @Nat.zero_add) (decide_eq_false (by rintro rfl;exact h1 rfl)).symm
theorem Eo (xs ys:List gK):aj Tryz.prog 108 [.sl (xs.map cm),.sl (ys.map cm)] (.bool (decide (xs=ys))):=
 BD (show mV Tryz.prog 108=some (De 108 169 2) by kernel_rfl) (fun _=>rfl) zR xs ys Gv
theorem Er (xs ys:List e5):aj Tryz.prog 109 [.sl (xs.map bq),.sl (ys.map bq)] (.bool (decide (xs=ys))):=
 BD (show mV Tryz.prog 109=some (De 109 170 2) by kernel_rfl) (fun _=>rfl) zS xs ys Gx
theorem se (xs ys:List ad):aj Tryz.prog 66 [.sl (xs.map ab),.sl (ys.map ab)] (.bool (decide (xs=ys))):=
 BD (show mV Tryz.prog 66=some (De 66 110 3) by kernel_rfl) (fun _=>rfl) BO xs ys BC
theorem BE (a:aC):aj Tryz.prog 20 [.agg (ax a),.agg (ax a)] (.bool true):=by
 have q1:aj Tryz.prog 65 [.agg (aa a.aK),.agg (aa a.aK)] (.bool true):=by
  refine aj.body eI rfl fun hl n0=>?_
  clear hl
  have h1:=Eo a.aK.ay a.aK.ay
  have h2:=Er a.aK.ai a.aK.ai
  rw[decide_eq_true rfl]at h1 h2
  (repeat(first|((repeat(revert hN;revert N;apply Pn.out));refine wk @aa.eq_1 ?_;(repeat(refine Pn.mk ?_;intro N hN)))|((try apply Or.inl);refine⟨_,aj.x (h1) (sd @aa.eq_1),?_⟩;refine hN _ _ ?_;clear hN N)|((try apply Or.inl);refine⟨_,aj.x (h2) (sd @aa.eq_1),?_⟩;refine hN _ _ ?_;clear hN N)))
  exact aM (b:=true) (.inl rfl) (sd @Nat.zero_add) rfl
 have q2:aj Tryz.prog 21 [.agg (bd a.bc),.agg (bd a.bc)] (.bool true):=by
  refine aj.body eI rfl fun hl n0=>?_
  clear hl
  have h1:=se a.bc.ai a.bc.ai
  rw[decide_eq_true rfl]at h1
  (repeat(first|((repeat(revert hN;revert N;apply Pn.out));refine wk @bd.eq_1 ?_;(repeat(refine Pn.mk ?_;intro N hN)))|((try apply Or.inl);refine⟨_,aj.x (h1) (sd @bd.eq_1),?_⟩;refine hN _ _ ?_;clear hN N)))
  exact aM (b:=true) (.inl rfl) (sd @Nat.zero_add) rfl
 rw[aa]at q1
 rw[bd]at q2
 refine aj.body eI rfl fun hl n0=>?_
 clear hl
 have e:decide (a.az=a.az)=true:=decide_eq_true rfl
 (repeat(first|((repeat(revert hN;revert N;apply Pn.out));refine wk (tw @ax.eq_1 @e) ?_;(repeat(refine Pn.mk ?_;intro N hN)))|((try apply Or.inl);refine⟨_,aj.x (q1) (sd (tw @ax.eq_1 @e)),?_⟩;refine hN _ _ ?_;clear hN N)|((try apply Or.inl);refine⟨_,aj.x (q2) (sd (tw @ax.eq_1 @e)),?_⟩;refine hN _ _ ?_;clear hN N)))
 exact aM (b:=true) (.inl rfl) (sd @Nat.zero_add) rfl
end Go.Proofs.YtgoelphibofcmaaGreat.V

namespace Go.Proofs.YtgoelphibofcmaaGreat.V
open Go.RowKit
variable {P:Program}
theorem Mr (hm:P.follows .mixedOrders=true) {f:Nat} {args:List AV} {vs:Array Value} {w:World} (h:aj P f args (.bool true)) (hA:e6 P w (fun b=>b<w.heap.size) (fun _=>none) args vs):
  Calls P f vs w fun e w'=>e=.returned (.bool true)/\Below w.heap.size w w':=by
 have hs:=fP hm (h 0) w.heap.size (fun b=>b<w.heap.size) (fun _=>none) w vs ⟨Nat.le_refl _,fun _ h=>h,fun id r h=>(by cases h),fun id jB r r' B B' h=>(by cases h)⟩ (fun id h=>absurd rfl h) hA
 refine hs.mono ?_
 rintro e w' ⟨r,g',n',D',ι',u,rfl,⟨r',hz,rfl⟩,dv,hsim,_,_,gr⟩
 have hr:r=.bool true:=by
  cases r<;>rw[fZ]at hz<;>simp_all
  all_goals (repeat' (split at hz))<;>simp_all
 subst hr
 exact⟨by rw[eQ gr],dv.below⟩
theorem lK {xs:List AV} {w:World} {D:Nat->Prop} {ι:Names} {a:AV} {v:Value} {vs:Array Value} (h:jh P w D a v) (k:e6 P w D ι xs vs):e6 P w D ι (a::xs) (#[v]++vs):=
 nR (xs:=[a]) ⟨rfl,fun j b hj=>by
  cases j with
  |zero=>simp at hj;subst hj;exact⟨v,rfl,.eD _ _ h⟩
  |succ j=>simp at hj⟩ k
end Go.Proofs.YtgoelphibofcmaaGreat.V

namespace Go.Proofs.YtgoelphibofcmaaGreat.V
open Go.RowKit
attribute [local irreducible] dx wpOps gp Call
attribute [local go_sem] aH fC eG fW fV cF upd cj K.av cJ AV.cells AV.cell rowOf rowsOf part ld rowAt bj bY dz eb gT bE cZ er fS eU dp eh cX cW dR dS bH aW cN bG cQ cP ee ei ef cL bP cY ec bF aL cU cw gS bl cG bI aP dd aU dB AV.undef bw bB dV ea dI dG cE ep ev cq ek ej cR cV List.getD_cons_zero List.getD_cons_succ List.getD_nil List.all_cons List.all_nil Bool.and_true Bool.true_and Bool.and_self Bool.not_true Bool.not_false Option.map_some Option.map_none Option.bind_some Option.bind_none List.length_cons List.length_nil List.take_succ_cons List.take_zero List.take_nil List.drop_succ_cons List.drop_zero List.drop_nil List.head?_cons List.map_cons List.map_nil List.getElem?_cons_zero List.getElem?_cons_succ List.cons_append List.nil_append List.append_nil List.length_map List.set_cons_zero List.set_cons_succ Nat.reduceMul eq_self Int.toNat_natCast Int.natCast_nonneg and_self true_and and_true decide_true decide_false Bool.false_eq_true Nat.zero_add Nat.add_zero List.contains_cons List.contains_nil Bool.or_false Bool.false_or beq_self_eq_true Nat.reduceBEq ne_eq not_true_eq_false not_false_eq_true Id.mk.injEq false_and and_false Nat.reduceLT Int.reduceLE Int.reduceLT Int.reduceToNat Int.reduceNeg Int.reduceAdd Nat.le_refl List.length_append beq_true beq_false Bool.not_eq_eq_eq_not or_false false_or dO ah aq aI aZ bt ck aS bf aO aY cK bK
theorem MN {α:Type} (f:α->Nat) {xs:List α} {x:α} (h:x∈xs):f x<=(xs.map f).sum:=by
 induction xs with
 |nil=>cases h
 |cons y ys ih=>
  simp only[List.map_cons,List.sum_cons]
  rcases List.mem_cons.1 h with rfl|h
  ·omega
  ·have:=ih h;omega
theorem Fq {s:aC} (h:y7 s<=1048576):wo s:=by
 unfold y7 vk at h
 refine⟨⟨by omega,by omega,fun t ht=>?_⟩,by omega⟩
 have:=MN k7 ht
 have h2:t.bV.length<=k7 t:=by unfold k7;omega
 unfold xM
 omega
theorem xY (a:eK):aj Tryz.prog 21 [.agg (bd a),.agg (bd a)] (.bool true):=by
 refine aj.body eI rfl fun hl n0=>?_
 clear hl
 have h1:=se a.ai a.ai
 rw[decide_eq_true rfl]at h1
 (repeat(first|((repeat(revert hN;revert N;apply Pn.out));refine wk @bd.eq_1 ?_;(repeat(refine Pn.mk ?_;intro N hN)))|((try apply Or.inl);refine⟨_,aj.x (h1) (sd @bd.eq_1),?_⟩;refine hN _ _ ?_;clear hN N)))
 exact aM (b:=true) (.inl rfl) (sd @Nat.zero_add) rfl
end Go.Proofs.YtgoelphibofcmaaGreat.V
