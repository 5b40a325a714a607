/- One operation, calls among them. -/
import Derived.Test.YtoodopepphhpoaaGreatDoorTtA
import Derived.Orders
import Derived.Deep.QuietTactic
import Derived.BigQuiet
import Derived.StillTailTactics
import Derived.Deep.RegionWith
import Derived.Deep.RegionHeld3
import Derived.Deep.LoopGhost
import Derived.Deep.CutRange
import Derived.Deep.DeepCutAuto
import Derived.Test.YtoodopepphhpoaaGreatDoorChecked
set_option linter.unusedVariables false
set_option linter.unusedSimpArgs false
set_option maxRecDepth 100000
set_option maxHeartbeats 16000000
namespace Go.Proofs.YtoodopepphhpoaaGreatDoor
namespace V
open Go.RowKit
variable {P:Program} {w w':World} {D D' D2:Nat->Prop} {ι ι' ι2:Names}
def Sound (P:Program):gO:=fun f args σ K=>∀(hs:Nat) (D:Nat->Prop) (ι:Names) (w:World) (vs:Array Value),iE P hs D ι σ.get w->Used ι σ.next (fun _=>False)->gI P w D ι args vs->
 Calls P f vs w fun e w'=>∃r g' n' D' ι' u,e=.returned u/\K r ⟨g',n'⟩/\Step hs D ι w D' ι' w'/\iE P hs D' ι' g' w'/\Used ι' n' (fun _=>False)/\σ.next<=n'/\dX P w' D' ι' r u
section
variable {g:Rows} {hs:Nat} {env:Env} {a:Act} {o:Oper} {id:Id} {v:AV}
theorem iE.ro (S:iE P hs D ι g w):iE P w.heap.size D ι (ro g) w:=by
 refine⟨Nat.le_refl _,S.dead,fun id r h=>?_,fun id lP r r' B B' h h' hw=>?_⟩
 ·unfold V.ro at h;simp only[Option.map_eq_some_iff]at h;obtain⟨r0,h0,rfl⟩:=h;obtain⟨B,hB,R,_,_⟩:=S.row id r0 h0;exact⟨B,hB,R.flag false,fun h=>by simp at h,fun h=>by simp at h⟩
 ·unfold V.ro at h;simp only[Option.map_eq_some_iff]at h;obtain⟨r0,h0,rfl⟩:=h
  simp at hw
theorem Ey {g0:Rows} {f:Nat} {args:List AV} {n:Nat} {K:AV->Prop} {vs:Array Value} (h:PC (Sound P) f args ⟨g0,n⟩ K) (mV:∀id r,g0 id=some r->g id=some r) (S:iE P hs D ι g w) (U:Used ι n (fun _=>False)) (A:gI P w D ι args vs):
  Calls P f vs w fun e w'=>∃r D' u,e=.returned u/\K r/\Step hs D ι w D' ι w'/\iE P hs D' ι g w'/\dX P w' D' ι r u:=by
 refine(h w.heap.size D ι w vs (S.sub mV).ro U A).mono ?_;rintro e w' ⟨r0,g',n',D1,ι1,u,rfl,⟨r,hr,hK⟩,T,S1,_,_,hR⟩;have hb:∀b,b<w.heap.size->w'.heap[b]? =w.heap[b]? :=T.below.block;have hz:=T.below.size
 have q:=uM (D2:=fun b=>D b∨(w.heap.size<=b/\b<w'.heap.size)) (ι2:=ι) (fun b hd=>by
  rcases T.new b hd with h|h
  ·exact .inl h
  ·exact .inr ⟨h,S1.dead b hd⟩) (fun id row hg hw=>by
  obtain⟨B,hB,R,h1,_⟩:=S1.row id row hg
  exact⟨B,hB,R,.inr ⟨h1 hw,R.lt⟩⟩) 6 r0 u r hR hr
 refine⟨r,_,u,rfl,hK,?_,?_,q.1⟩
 ·exact Step.stay S hb hz T.below.os T.below.tape T.below.output (fun _ h=>.inl h) (fun b h=>by rcases h with h|h;exact .inl h;exact .inr h.1) (fun _ _ h=>h)
 ·exact S.stay hb hz (fun _ h=>.inl h) (fun b h=>by rcases h with h|h;exact Nat.lt_of_lt_of_le (S.dead b h) hz;exact h.2) (fun b h=>by rcases h with h|h;exact .inl h;exact .inr h.1) (fun _ _ h=>h)
theorem Bj {g0:Rows} {f:Nat} {args:List AV} {n:Nat} {K:AV->Prop} {vs:Array Value} (h:PCv (Sound P) f args ⟨g0,n⟩ K) (mV:∀id r,g0 id=some r->g id=some r) (S:iE P hs D ι g w) (U:Used ι n (fun _=>False)) (A:gI P w D ι args vs):
  Calls P f vs w fun e w'=>∃r D' u,e=.returned u/\K r/\Step hs D ι w D' ι w'/\iE P hs D' ι g w'/\dX P w' D' ι r u:=by
 obtain⟨args',ha,h⟩:=h
 let D1:Nat->Prop:=fun b=>D b∨∃id r B,g id=some r/\ι id=some B/\b=B.b
 have lt:∀id r B,g id=some r->ι id=some B->B.b<w.heap.size:=fun id r B h1 h2=>by
  obtain⟨B',eY,R,_⟩:=S.row id r h1;rw[h2]at eY;injection eY with eY;subst eY
  exact R.lt
 have S0:iE P w.heap.size D1 ι (fun _=>none) w:=⟨Nat.le_refl _,fun b hb=>by
  rcases hb with hb|⟨id,r,B,h1,h2,rfl⟩
  ·exact S.dead b hb
  ·exact lt id r B h1 h2,fun id r h=>(by cases h),fun id lP r r' B B' h=>(by cases h)⟩
 obtain⟨l1,l2⟩:=jb ha
 have A':gI P w D1 ι args' vs:=⟨by rw[A.1,l1],fun j a hj=>by
  obtain⟨a0,mH,hf⟩:=l2 j a hj;obtain⟨u,hu,hr⟩:=A.2 j a0 mH;refine⟨u,hu,(uM (D2:=D1) (ι2:=ι) (fun b h=>.inl h) (fun id row hg hw=>?_) 6 a0 u a hr hf).1⟩;unfold ef at hg;simp only[Option.map_eq_some_iff]at hg;obtain⟨r,qz,rfl⟩:=hg;obtain⟨B,hB,R,_,_⟩:=S.row id r (mV id r qz)
  exact⟨B,hB,R.flag true,.inr ⟨id,r,B,mV id r qz,hB,rfl⟩⟩⟩
 refine(h w.heap.size D1 ι w vs S0 U A').mono ?_;rintro e w' ⟨r0,g',n',D2,ι1,u,rfl,⟨r,hr,hK⟩,T,S1,_,_,hR⟩;have hb:∀b,b<w.heap.size->w'.heap[b]? =w.heap[b]? :=T.below.block;have hz:=T.below.size
 have q:=KB (D2:=fun b=>D b∨(w.heap.size<=b/\b<w'.heap.size)) (ι2:=ι) (fun id row hg hw=>by
  obtain⟨B,hB,R,h1,_⟩:=S1.row id row hg
  exact⟨B,hB,R,.inr ⟨h1 hw,R.lt⟩⟩) 6 r0 u r hR hr
 refine⟨r,_,u,rfl,hK,?_,?_,q.1⟩
 ·exact Step.stay S hb hz T.below.os T.below.tape T.below.output (fun _ h=>.inl h) (fun b h=>by rcases h with h|h;exact .inl h;exact .inr h.1) (fun _ _ h=>h)
 ·exact S.stay hb hz (fun _ h=>.inl h) (fun b h=>by rcases h with h|h;exact Nat.lt_of_lt_of_le (S.dead b h) hz;exact h.2) (fun b h=>by rcases h with h|h;exact .inl h;exact .inr h.1) (fun _ _ h=>h)
theorem J9 {g0:Rows} {f:Nat} {args:List AV} {n:Nat} {K:AV->Prop} {vs:Array Value} (h:fm (Sound P) f args ⟨g0,n⟩ K) (mV:∀id r,g0 id=some r->g id=some r) (S:iE P hs D ι g w) (U:Used ι n (fun _=>False)) (A:gI P w D ι args vs):
  Calls P f vs w fun e w'=>∃r D' u,e=.returned u/\K r/\Step hs D ι w D' ι w'/\iE P hs D' ι g w'/\dX P w' D' ι r u:=by
 rcases h with h|h
 ·exact Ey h mV S U A
 ·exact Bj h mV S U A
theorem Lx {D1 D2:Nat->Prop} {ι1 ι2:Names} {w1:World} {a:AV} {v:Value} (hp:a.plain=true) (h:dX P w D1 ι1 a v):dX P w1 D2 ι2 a v:=by
 cases h with
 |fw a v h=>cases h<;>first|(simp[AV.plain]at hp;done)|exact .fw _ _ (by constructor)
 |_=>simp[AV.plain]at hp
theorem iE.add {r:Row} {B:wv} (S:iE P hs D ι g w) (S':iE P hs D ι g w') (hf:ι id=none) (lp:w.heap.size<=B.b) (R:jl P w' D (lT ι id B) B r):iE P hs D (lT ι id B) (bJ g id r) w':=by
 have lt:∀lP r' B',g lP=some r'->ι lP=some B'->B'.b<w.heap.size:=fun lP r' B' h1 h2=>by
  obtain⟨B2,lO,R2,_⟩:=S.row lP r' h1;rw[h2]at lO;injection lO with lO;subst lO
  exact R2.lt
 have ne:∀lP r',g lP=some r'->lP≠id:=fun lP r' h he=>by
  subst he;obtain⟨B2,lO,_⟩:=S.row _ r' h;rw[hf]at lO;cases lO
 refine⟨S'.lo,S'.dead,fun lP r' h=>?_,fun Y4 id2 r1 r2 B1 B2 h1 h2 hw Ef lO hb=>?_⟩
 ·unfold bJ at h
  split at h
  ·rename_i he;subst he;injection h with h;subst h
   exact⟨B,fa _ _ _,R,fun _=>Nat.le_trans S.lo lp,fun _ hd=>Nat.lt_irrefl _ (Nat.lt_of_lt_of_le (S.dead _ hd) lp)⟩
  ·obtain⟨B',eY,R',k1,k2⟩:=S'.row lP r' h;exact⟨B',by rw[iM (ne _ _ h)];exact eY,R'.frame rfl (fun a v hr=>hr.frame (fun _ _=>rfl) (fun _ h=>h) (gq hf)),k1,k2⟩
 ·unfold bJ at h1 h2
  split at h1
  ·rename_i e1
   split at h2
   ·rename_i e2;rw[e1,e2]
   ·exfalso;subst e1;rw[fa]at Ef;injection Ef with Ef;subst Ef
    rw[iM (ne _ _ h2)]at lO;have:=lt _ _ _ h2 lO;omega
  ·rw[iM (ne _ _ h1)]at Ef
   split at h2
   ·rename_i e2;exfalso;subst e2;rw[fa]at lO;injection lO with lO;subst lO
    have:=lt _ _ _ h1 Ef;omega
   ·rw[iM (ne _ _ h2)]at lO;exact S'.inj Y4 id2 r1 r2 B1 B2 h1 h2 hw Ef lO hb
theorem Mq {g0:Rows} {f:Nat} {args:List AV} {n sz:Nat} {rows:List (List AV)} {vs:Array Value} (h:CM (Sound P) f args ⟨g0,n⟩ sz rows) (mV:∀id r,g0 id=some r->g id=some r) (S:iE P hs D ι g w) (U:Used ι n (fun _=>False)) (A:gI P w D ι args vs) (hf:ι id=none):
  Calls P f vs w fun e w'=>∃u B,e=.returned u/\Step hs D ι w D (lT ι id B) w'/\iE P hs D (lT ι id B) (bJ g id ⟨true,sz,rows⟩) w'/\dX P w' D (lT ι id B) (.own id 0 rows.length) u:=by
 obtain⟨mA,args',ha,h⟩:=h
 let D1:Nat->Prop:=fun b=>D b∨∃id r B,g id=some r/\ι id=some B/\b=B.b
 have lt:∀id r B,g id=some r->ι id=some B->B.b<w.heap.size:=fun id r B h1 h2=>by
  obtain⟨B',eY,R,_⟩:=S.row id r h1;rw[h2]at eY;injection eY with eY;subst eY
  exact R.lt
 have S0:iE P w.heap.size D1 ι (fun _=>none) w:=⟨Nat.le_refl _,fun b hb=>by
  rcases hb with hb|⟨id,r,B,h1,h2,rfl⟩
  ·exact S.dead b hb
  ·exact lt id r B h1 h2,fun id r h=>(by cases h),fun id lP r r' B B' h=>(by cases h)⟩
 obtain⟨l1,l2⟩:=jb ha
 have A':gI P w D1 ι args' vs:=⟨by rw[A.1,l1],fun j a hj=>by
  obtain⟨a0,mH,hz⟩:=l2 j a hj;obtain⟨u,hu,hr⟩:=A.2 j a0 mH;refine⟨u,hu,(uM (D2:=D1) (ι2:=ι) (fun b h=>.inl h) (fun id row hg hw=>?_) 6 a0 u a hr hz).1⟩;unfold ef at hg;simp only[Option.map_eq_some_iff]at hg;obtain⟨r,qz,rfl⟩:=hg;obtain⟨B,hB,R,_,_⟩:=S.row id r (mV id r qz)
  exact⟨B,hB,R.flag true,.inr ⟨id,r,B,mV id r qz,hB,rfl⟩⟩⟩
 refine(h w.heap.size D1 ι w vs S0 U A').mono ?_;rintro e w' ⟨r0,g',n',D2,ι1,u,rfl,⟨i0,hr,hg⟩,T,S1,_,_,hR⟩;subst hr;have hb:∀b,b<w.heap.size->w'.heap[b]? =w.heap[b]? :=T.below.block;have hz:=T.below.size;obtain⟨B,hB,R,k1,_⟩:=S1.row i0 _ hg;have lp:w.heap.size<=B.b:=k1 rfl;obtain⟨o,cap,B',rfl,eY,q2,q3,q4,q5,hk⟩:=jR hR;rw[hB]at eY;injection eY with eY;subst eY
 replace R:=R.row hk;have S':iE P hs D ι g w':=S.stay hb hz (fun _ h=>h) (fun b h=>Nat.lt_of_lt_of_le (S.dead b h) hz) (fun b h=>.inl h) (fun _ _ h=>h)
 have R':mi P w' D (lT ι id B) B ⟨true,sz,rows⟩:=⟨R.sz,R.wc,R.fits,R.len,R.flat,fun i j cs a hi hj=>by
  obtain⟨v,h1,h2⟩:=R.at_ i j cs a hi hj
  exact⟨v,h1,Lx (mA cs (List.mem_of_getElem? hi) a (List.mem_of_getElem? hj)) h2⟩⟩
 exact⟨_,B,rfl,Step.stay S hb hz T.below.os T.below.tape T.below.output (fun _ h=>h) (fun _ h=>.inl h) (gq hf),S.add S' hf lp (R'.obj hk),.own id 0 _ _ _ B (fa _ _ _) hk q2 q3 q4 q5⟩
theorem kV {f:Nat} {args:Array Value} (hc:iw P f=true):(callFunc f args).run P w=.ok (.enter f args) w:=by
 unfold iw at hc
 split at hc
 ·rename_i fn hf;simp only[Bool.and_eq_true,Bool.not_eq_true']at hc;have hb:fn.body.isNone=false:=by cases hq:fn.body<;>simp_all
  simp only[callFunc,Sem.run_bind,run_program,Result.andThen_ok,hf,hc.2,Bool.false_eq_true,if_false,hb]
  rfl
 ·simp at hc
theorem FE {f:Nat} {args:List O} (hc:ug P o.op=some (.call f args)):∃c,o.op=.call c/\c.callee=.value (.func f)/\iw P f=true/\c.args.toList.mapM (cO P)=some args:=by
 unfold ug at hc
 split at hc
 case h_24=>
  rename_i c ho;refine⟨c,ho,?_⟩;unfold pW at hc
  split at hc
  all_goals (try(repeat' (split at hc))<;>(simp only[Option.bind_eq_bind,Option.bind_eq_some_iff,Option.pure_def,Option.some.injEq,Option.map_eq_some_iff,reduceCtorEq,and_false,exists_false]at hc))
  all_goals simp_all
 all_goals (try unfold yT at hc)<;>(try unfold wD at hc)<;>(repeat' (split at hc))<;>(simp only[Option.bind_eq_bind,Option.bind_eq_some_iff,Option.pure_def,Option.some.injEq,Option.map_eq_some_iff,reduceCtorEq,and_false,exists_false]at hc)
theorem wP {x:O} {args:List O} (hc:ug P o.op=some (.xp x args)):∃c t,o.op=.call c/\c.callee=.value (.tmp t)/\x=.t t/\c.args.toList.mapM (cO P)=some args:=by
 unfold ug at hc
 split at hc
 case h_24=>
  rename_i c ho;refine⟨c,?_⟩;unfold pW at hc
  split at hc
  all_goals (try(repeat' (split at hc))<;>(simp only[Option.bind_eq_bind,Option.bind_eq_some_iff,Option.pure_def,Option.some.injEq,Option.map_eq_some_iff,reduceCtorEq,and_false,exists_false]at hc))
  all_goals simp_all
 all_goals (try unfold yT at hc)<;>(try unfold wD at hc)<;>(repeat' (split at hc))<;>(simp only[Option.bind_eq_bind,Option.bind_eq_some_iff,Option.pure_def,Option.some.injEq,Option.map_eq_some_iff,reduceCtorEq,and_false,exists_false]at hc)
theorem KX {n:Nat} {x y:O} (hc:ug P o.op=some (.store n x y)):∃t x' y',o.op=.store t x' y'/\fe P t=some n/\cO P x'=some x/\cO P y'=some y:=by
 unfold ug at hc
 split at hc
 case h_8=>
  rename_i t x' y' ho;refine⟨t,x',y',ho,?_⟩;simp only[Option.bind_eq_bind,Option.bind_eq_some_iff,Option.pure_def,Option.some.injEq]at hc;obtain⟨n',h1,x2,h2,y2,h3,he⟩:=hc;injection he with e1 e2 e3
  subst e1;subst e2;subst e3;exact⟨h1,h2,h3⟩
 all_goals (try unfold yT at hc)<;>(try unfold wD at hc)<;>(try unfold pW at hc)<;>(repeat' (split at hc))<;>(simp only[Option.bind_eq_bind,Option.bind_eq_some_iff,Option.pure_def,Option.some.injEq,Option.map_eq_some_iff,reduceCtorEq,and_false,exists_false]at hc)
theorem HO {n:Nat} {x y:O} (hc:ug P o.op=some (.append n x y)):∃(t e:TypeId) (m:Nat) (z:List K) (i:TypeInfo) (x' y':Operand),n=m+1/\o.op=.call {callee:=.builtin .append,args:= #[x',y'],argTypes:= #[t,t]}/\
  P.underlying t=some (.slice e)/\fe P e=some (m+1)/\lk P e=some z/\P.info? e=some i/\i.bytes<=32768/\cO P x'=some x/\cO P y'=some y:=by
 unfold ug at hc
 split at hc
 case h_24=>
  rename_i c ho;unfold pW at hc
  split at hc
  case h_2=>
   rename_i mz
   split at hc
   ·rename_i x' y' t u h1 h2
    split at hc
    ·rename_i e ht
     split at hc
     ·rename_i m z i e1 e2 e3
      split at hc
      ·rename_i hb;simp only[Option.bind_eq_bind,Option.bind_eq_some_iff,Option.pure_def,Option.some.injEq]at hc;obtain⟨x2,h3,y2,h4,he⟩:=hc;injection he with k1 k2 k3
       subst k1;subst k2;subst k3;obtain⟨UK,rfl⟩:=hb;refine⟨t,e,m,z,i,x',y',rfl,?_,ht,e1,e2,e3,UK,h3,h4⟩;rw[ho];obtain⟨ca,cb,cc⟩:=c
       simp only at h1 h2 mz
       subst mz
       congr
       ·exact Array.ext' h1
       ·exact Array.ext' h2
      ·simp at hc
     ·simp at hc
    ·simp at hc
   ·simp at hc
  all_goals (repeat' (split at hc))<;>(simp only[Option.bind_eq_bind,Option.bind_eq_some_iff,Option.pure_def,Option.some.injEq,Option.map_eq_some_iff,reduceCtorEq,and_false,exists_false]at hc)
 all_goals (try unfold yT at hc)<;>(try unfold wD at hc)<;>(repeat' (split at hc))<;>(simp only[Option.bind_eq_bind,Option.bind_eq_some_iff,Option.pure_def,Option.some.injEq,Option.map_eq_some_iff,reduceCtorEq,and_false,exists_false]at hc)
theorem NZ {n:Nat} {x y:O} (hc:ug P o.op=some (.copy n x y)):∃(t t2 e:TypeId) (m:Nat) (x' y':Operand),n=m+1/\o.op=.call {callee:=.builtin .copy,args:= #[x',y'],argTypes:= #[t,t2]}/\
  P.underlying t=some (.slice e)/\fe P e=some (m+1)/\cO P x'=some x/\cO P y'=some y:=by
 unfold ug at hc
 split at hc
 case h_24=>
  rename_i c ho;unfold pW at hc
  split at hc
  case h_7=>
   rename_i mz
   split at hc
   ·rename_i x' y' t t2 h1 h2
    split at hc
    ·rename_i e ht
     split at hc
     ·rename_i m e1;simp only[Option.bind_eq_bind,Option.bind_eq_some_iff,Option.pure_def,Option.some.injEq,iU.copy.injEq]at hc;obtain⟨x2,h3,y2,h4,k0,k1,k2⟩:=hc;subst k1;subst k2;refine⟨t,t2,e,m,x',y',k0.symm,?_,ht,e1,h3,h4⟩;rw[ho];obtain⟨ca,cb,cc⟩:=c
      simp only at h1 h2 mz
      subst mz
      congr
      ·exact Array.ext' h1
      ·exact Array.ext' h2
     ·simp at hc
    ·simp at hc
   ·simp at hc
  all_goals (repeat' (split at hc))<;>(simp only[Option.bind_eq_bind,Option.bind_eq_some_iff,Option.pure_def,Option.some.injEq,Option.map_eq_some_iff,reduceCtorEq,and_false,exists_false]at hc)
 all_goals (try unfold yT at hc)<;>(try unfold wD at hc)<;>(repeat' (split at hc))<;>(simp only[Option.bind_eq_bind,Option.bind_eq_some_iff,Option.pure_def,Option.some.injEq,Option.map_eq_some_iff,reduceCtorEq,and_false,exists_false]at hc)
theorem KW {z:List K} {x:O} (hc:ug P o.op=some (.clear z x)):∃(t e:TypeId) (m:Nat) (x':Operand),o.op=.call {callee:=.builtin .clear,args:= #[x'],argTypes:= #[t]}/\
  P.underlying t=some (.slice e)/\fe P e=some (m+1)/\lk P e=some z/\cO P x'=some x:=by
 unfold ug at hc
 split at hc
 case h_24=>
  rename_i c ho;unfold pW at hc
  split at hc
  case h_3=>
   rename_i mz
   split at hc
   ·rename_i x' t h1 h2
    split at hc
    ·rename_i e ht
     split at hc
     ·rename_i m z' e1 e2;simp only[Option.map_eq_some_iff]at hc;obtain⟨x2,h3,he⟩:=hc;injection he with k1 k2
      subst k1;subst k2;refine⟨t,e,m,x',?_,ht,e1,e2,h3⟩;rw[ho];obtain⟨ca,cb,cc⟩:=c
      simp only at h1 h2 mz
      subst mz
      congr
      ·exact Array.ext' h1
      ·exact Array.ext' h2
     ·simp at hc
    ·simp at hc
   ·simp at hc
  all_goals (repeat' (split at hc))<;>(simp only[Option.bind_eq_bind,Option.bind_eq_some_iff,Option.pure_def,Option.some.injEq,Option.map_eq_some_iff,reduceCtorEq,and_false,exists_false]at hc)
 all_goals (try unfold yT at hc)<;>(try unfold wD at hc)<;>(repeat' (split at hc))<;>(simp only[Option.bind_eq_bind,Option.bind_eq_some_iff,Option.pure_def,Option.some.injEq,Option.map_eq_some_iff,reduceCtorEq,and_false,exists_false]at hc)
theorem Vg {q:MW} {xs:List O} (hc:ug P o.op=some (.mw q xs)):
  (∃t x k y m z x' k' y',(o.op=.mapUpdate t x k y∨o.op=.insert t x k y)/\wE P t=some (m,z)/\cO P x=some x'/\cO P k=some k'/\cO P y=some y'/\q=.set m/\xs=[x',k',y'])∨
  (∃t t' x k m z x' k',o.op=.call {callee:=.builtin .delete,args:= #[x,k],argTypes:= #[t,t']}/\wE P t=some (m,z)/\cO P x=some x'/\cO P k=some k'/\q=.del m/\xs=[x',k']):=by
 unfold ug at hc
 split at hc
 case h_24=>
  rename_i c ho
  right
  unfold pW at hc
  split at hc
  case h_6=>
   rename_i mz
   split at hc
   ·rename_i x k t t' h1 h2
    split at hc
    ·rename_i m z x' k' e1 e2 e3;injection hc with hc
     injection hc with q1 q2
     refine⟨t,t',x,k,m,z,x',k',?_,e1,e2,e3,q1.symm,q2.symm⟩;rw[ho];obtain⟨ca,cb,cc⟩:=c
     simp only at h1 h2 mz
     subst mz
     congr
     ·exact Array.ext' h1
     ·exact Array.ext' h2
    ·cases hc
   ·cases hc
  all_goals (repeat' (split at hc))<;>(simp only[Option.bind_eq_bind,Option.bind_eq_some_iff,Option.pure_def,Option.some.injEq,Option.map_eq_some_iff,reduceCtorEq,and_false,exists_false]at hc)
 case h_30=>
  rename_i t x k y ho
  left
  split at hc
  ·rename_i m z x' k' y' e1 e2 e3 e4;injection hc with hc
   injection hc with q1 q2
   exact⟨t,x,k,y,m,z,x',k',y',.inl ho,e1,e2,e3,e4,q1.symm,q2.symm⟩
  ·cases hc
 case h_31=>
  rename_i t x k y ho
  left
  split at hc
  ·rename_i m z x' k' y' e1 e2 e3 e4;injection hc with hc
   injection hc with q1 q2
   exact⟨t,x,k,y,m,z,x',k',y',.inr ho,e1,e2,e3,e4,q1.symm,q2.symm⟩
  ·cases hc
 all_goals (try unfold yT at hc)<;>(try unfold wD at hc)<;>(repeat' (split at hc))<;>(simp only[Option.bind_eq_bind,Option.bind_eq_some_iff,Option.pure_def,Option.some.injEq,Option.map_eq_some_iff,reduceCtorEq,and_false,exists_false]at hc)
def kI (g:Rows) (id:Id):Option Row->Rows
 |some r=>bJ g id r
 |none=>g
def yW (X:gO) (hid:List Nat) (site n:Nat) (f:Nat) (args:List AV) (g:Rows) (v:AV) (g':Rows):Prop:=
 (fm X f args ⟨fc hid n g,n+1⟩ (fun r=>r=v)/\g'=g)∨
 (hid.contains site=true/\∃sz rows,CM X f args ⟨fc hid n g,n+1⟩ sz rows/\v=.own ⟨site,n⟩ 0 rows.length/\g'=bJ g ⟨site,n⟩ ⟨true,sz,rows⟩)
def VS (X:gO) (n:Nat) (vo:bU) (env:Env) (g:Rows) (v:AV) (g':Rows):Prop:=
 match vo.op with
 | .call f args=>yW X vo.hid vo.site n f (args.map (dq env)) g v g'
 | .xp x args=>∃f l,yV (dq env x) (args.map (dq env))=some (f,l)/\yW X vo.hid vo.site n f l g v g'
 | .store .. | .append .. | .copy .. | .clear .. | .mw .. =>fh vo.op (dq env) g ⟨vo.site,n⟩=some (v,g')
 |_=>∃mr,eA vo.op (dq env) (fc vo.hid n g) ⟨vo.site,n⟩=some (v,mr)/\g'=kI g ⟨vo.site,n⟩ mr
def Sq (P:Program) (hs:Nat) (D:Nat->Prop) (ι:Names) (w:World) (U:Nat->Prop) (site n:Nat) (a:Act) (dst:Option Tmp) (v:AV) (g':Rows) (a':Act) (w':World):Prop:=
 ∃u D' ι',a'=a.put dst u/\Step hs D ι w D' ι' w'/\iE P hs D' ι' g' w'/\dX P w' D' ι' v u/\Used ι' n (fun s=>U s∨s=site)
theorem fresh {n:Nat} {U:Nat->Prop} {s:Nat} (h:Used ι n U) (hU:¬U s):ι ⟨s,n⟩=none:=by
 cases hq:ι ⟨s,n⟩with
 |none=>rfl
 |some B=>
  rcases h ⟨s,n⟩ (by rw[hq];simp)with h|⟨_,h⟩
  ·exact absurd h (Nat.lt_irrefl _)
  ·exact absurd h hU
theorem Used.more {n:Nat} {U U':Nat->Prop} (h:Used ι n U) (hU:∀s,U s->U' s):Used ι n U':=fun id hid=>by
 rcases h id hid with h|⟨h1,h2⟩
 ·exact .inl h
 ·exact .inr ⟨h1,hU _ h2⟩
theorem Used.next {n:Nat} {U:Nat->Prop} (h:Used ι n U):Used ι (n+1) (fun _=>False):=fun id hid=>by
 rcases h id hid with h|⟨h1,_⟩
 ·exact .inl (Nat.lt_succ_of_lt h)
 ·exact .inl ae
theorem Used.upd {n:Nat} {U:Nat->Prop} {s:Nat} {B:wv} (h:Used ι n U):Used (lT ι ⟨s,n⟩ B) n (fun x=>U x∨x=s):=fun id hid=>by
 by_cases he:id=⟨s,n⟩
 ·subst he;exact .inr ⟨rfl,.inr rfl⟩
 ·rw[iM he]at hid;exact(h.more (U':=fun x=>U x∨x=s) fun _ h=>Or.inl h) id hid
theorem qG {xs:Array Operand} {ys:List O} (E:dR P w D ι env a) (h:xs.toList.mapM (cO P)=some ys):gI P w D ι (ys.map (dq env)) (xs.map a.eval):=by
 obtain⟨h1,h2⟩:=Ic E h;refine⟨by simpa using h1,fun j b hj=>?_⟩;simp only[List.getElem?_map,Option.map_eq_some_iff]at hj;obtain⟨y,hy,rfl⟩:=hj;have eG:j<xs.size:=by have:=(List.getElem?_eq_some_iff.1 hy).1;simp at h1;omega
 refine⟨a.eval xs[j],by simp[eG],?_⟩;have:=h2 j y hy
 simpa[List.getD_eq_getElem?_getD,eG]using this
theorem rl {xs ys:List AV} {vs us:Array Value} (h:gI P w D ι xs vs) (k:gI P w D ι ys us):gI P w D ι (xs++ys) (vs++us):=
 ⟨by simp[h.1,k.1],fun j b hj=>by
  by_cases eG:j<xs.length
  ·rw[List.getElem?_append_left eG]at hj;obtain⟨u,hu,AX⟩:=h.2 j b hj;exact⟨u,by rw[Array.getElem?_append_left (by rw[h.1];exact eG)];exact hu,AX⟩
  ·rw[List.getElem?_append_right ae]at hj;obtain⟨u,hu,AX⟩:=k.2 _ b hj
   exact⟨u,by rw[Array.getElem?_append_right (by rw[h.1];omega),h.1];exact hu,AX⟩⟩
theorem Ab:gI P w D ι [] #[]:=⟨rfl,fun j b hj=>by simp at hj⟩
theorem yX {x:AV} {l l':List AV} {f:Nat} {vs:Array Value} {v:Value} (h:yV x l=some (f,l')) (hr:dX P w D ι x v) (hA:gI P w D ι l vs):
  ∃first ea,v=.func (.func f) first ea/\iw P f=true/\gI P w D ι l' (first++vs++ea):=by
 unfold yV at h
 split at h
 ·simp only[Option.some.injEq,Prod.mk.injEq]at h;obtain⟨rfl,rfl⟩:=h;obtain⟨us,q,he,KI,n1,q1,q2⟩:=w7 hr;refine⟨#[],us,he,KI,?_⟩;rw[Array.empty_append];exact rl hA ⟨n1,fun j b hj=>⟨q j,q1 j (List.getElem?_eq_some_iff.1 hj).1,q2 j b hj⟩⟩
 ·simp only[Option.some.injEq,Prod.mk.injEq]at h;obtain⟨rfl,rfl⟩:=h;obtain⟨us,q,he,KI,n1,q1,q2⟩:=RL hr;refine⟨us, #[],he,KI,?_⟩;rw[Array.append_empty];exact rl ⟨n1,fun j b hj=>⟨q j,q1 j (List.getElem?_eq_some_iff.1 hj).1,q2 j b hj⟩⟩ hA
 ·cases h
theorem EB {n:Nat} {vo:bU} {g':Rows} {U:Nat->Prop} {Q:Exit->Act->World->Prop} {K:Act->World->Prop} (hc:ug P o.op=some vo.op) (hv:VS (Sound P) n vo env g v g') (S:iE P hs D ι g w) (Us:Used ι n U) (hU:¬U vo.site) (E:dR P w D ι env a)
  (hK:∀a' w',Sq P hs D ι w U vo.site n a o.dst v g' a' w'->K a' w'):o.wp P a w K Q:=by
 have hf:=fresh Us hU
 have EL:∀(f:Nat) (args:List AV) (vs:Array Value),yW (Sound P) vo.hid vo.site n f args g v g'->gI P w D ι args vs->(execOp a.eval o).run P w=.ok (.enter f vs) w->o.wp P a w K Q:=by
  intro f args vs hP hA gW;unfold Oper.wp;rw[gW]
  rcases hP with⟨hP,rfl⟩|⟨_,sz,rows,hM,rfl,rfl⟩
  ·refine(J9 hP DZ S Us.next hA).mono ?_;rintro e w' ⟨r,D',u,rfl,rfl,T,S',hR⟩;exact hK _ _ ⟨u,D',ι,rfl,T,S',hR,Us.more fun _ h=>.inl h⟩
  ·refine(Mq hM DZ S Us.next hA hf).mono ?_;rintro e w' ⟨u,B,rfl,T,S',hR⟩;exact hK _ _ ⟨u,D,_,rfl,T,S',hR,Us.upd⟩
 have quiet:∀(mr:Option Row),eA vo.op (dq env) (fc vo.hid n g) ⟨vo.site,n⟩=some (v,mr)->g'=kI g ⟨vo.site,n⟩ mr->o.wp P a w K Q:=by
  intro mr hq hg;have U6:=Ck hc hq (S.sub DZ) E;unfold Oper.wp
  cases mr with
  |none=>
   obtain⟨u,gW,hR⟩:=U6;rw[gW];subst hg;exact hK _ _ ⟨u,D,ι,rfl,Step.refl _ _ _ _,S,hR,Us.more fun _ h=>.inl h⟩
  |some r=>
   rcases U6 with⟨u,cells,T,gW,h1,h2,h3,h4,h5,h6⟩|⟨m,gW,Q4,GM⟩|⟨c,gW,Q4,GM⟩
   case inr.inr=>
    rw[gW];subst hg Q4 GM;have eT:w.heap.size<(w.alloc (.chan c #[] false 0 0 false)).heap.size:=by simp
    have S':=S.stay (w':=w.alloc (.chan c #[] false 0 0 false)) (D':=D) (ι':=ι) (fun k hk=>Below.heap_alloc _ _ _ hk) (by simp) (fun _ h=>h) (fun b hd=>Nat.lt_trans (S.dead b hd) eT) (fun _ h=>.inl h) (fun _ _ h=>h)
    have S1:=S.add S' (id:=⟨vo.site,n⟩) (B:=⟨w.heap.size,ET+c,0,some (.chan c)⟩) (r:=⟨true,ET+c,[]⟩) hf (Nat.le_refl _) ⟨rfl,fun cs h=>by simp at h,fun h=>by simp at h,fun m' h=>(by simp at h),fun c' h=>by
     simp only[Option.some.injEq,BK.chan.injEq]at h;subst h
     exact⟨rfl, #[],0,0,(show(w.heap.push (Obj.chan c #[] false 0 0 false))[w.heap.size]? =some (Obj.chan c #[] false 0 0 false) by simp),rfl,fun i cs h=>by simp at h⟩⟩
    exact hK _ _ ⟨_,D,_,rfl,Step.stay S (fun k hk=>Below.heap_alloc _ _ _ hk) (by simp) rfl rfl rfl (fun _ h=>h) (fun _ h=>.inl h) (gq hf),S1,.uB _ _ _ (fa _ _ _) rfl,Us.upd⟩
   case inr.inl=>
    rw[gW];subst hg Q4 GM;have eT:w.heap.size<(w.alloc (.map #[] 0)).heap.size:=by simp
    have S':=S.stay (w':=w.alloc (.map #[] 0)) (D':=D) (ι':=ι) (fun k hk=>Below.heap_alloc _ _ _ hk) (by simp) (fun _ h=>h) (fun b hd=>Nat.lt_trans (S.dead b hd) eT) (fun _ h=>.inl h) (fun _ _ h=>h)
    have S1:=S.add S' (id:=⟨vo.site,n⟩) (B:=⟨w.heap.size,m.j6,0,some (.map m)⟩) (r:=⟨true,m.j6,[]⟩) hf (Nat.le_refl _) ⟨rfl,fun cs h=>by simp at h,fun h=>by simp at h,fun m' h=>by
     simp only[Option.some.injEq,BK.map.injEq]at h;subst h
     exact⟨rfl, #[],0,(show(w.heap.push (Obj.map #[] 0))[w.heap.size]? =some (Obj.map #[] 0) by simp),rfl,⟨fun cs h=>by simp at h,fun x h=>by simp at h,by simp⟩,fun i cs h=>by simp at h⟩,fun c h=>by simp at h⟩
    exact hK _ _ ⟨_,D,_,rfl,Step.stay S (fun k hk=>Below.heap_alloc _ _ _ hk) (by simp) rfl rfl rfl (fun _ h=>h) (fun _ h=>.inl h) (gq hf),S1,.map _ _ _ (fa _ _ _) rfl,Us.upd⟩
   rw[gW];subst hg;have S1:=S.alloc (id:=⟨vo.site,n⟩) (w':=w.alloc (.cells cells T)) rfl hf h1 h2 h3 h4 h5;refine hK _ _ ⟨u,D,_,rfl,Step.stay S (fun k hk=>Below.heap_alloc _ _ _ hk) (by simp) rfl rfl rfl (fun _ h=>h) (fun _ h=>.inl h) (gq hf),S1,(h6 (lT ι _ _) (fa _ _ _)).frame (fun b hd=>Below.heap_alloc _ _ _ (S.dead b hd)) (fun _ h=>h) (fun _ _ h=>h),Us.upd⟩
 have WW:fh vo.op (dq env) g ⟨vo.site,n⟩=some (v,g')->(∀Qa,GX P hs a o Qa D ι ⟨vo.site,n⟩ v g'->Qa=w->o.wp P a w K Q):=by
  intro _ Qa hE he;subst he;obtain⟨u,w',ι',gW,T,S',hR,hι⟩:=hE
  have Nu:Sq P hs D ι Qa U vo.site n a o.dst v g' (a.put o.dst u) w':=⟨u,D,ι',rfl,T,S',hR,fun id hid=>by
   by_cases he:id=⟨vo.site,n⟩
   ·subst he;exact .inr ⟨rfl,.inr rfl⟩
   ·rw[hι id he]at hid
    exact(Us.more (U':=fun x=>U x∨x=vo.site) fun _ h=>Or.inl h) id hid⟩
  unfold Oper.wp
  rcases gW with gW|⟨gW,rfl⟩
  ·rw[gW];exact hK _ _ Nu
  ·rw[gW];exact hK _ _ Nu
 unfold VS at hv
 split at hv
 ·rename_i f args fb;rw[fb]at hc;obtain⟨c,ho,mz,KI,qa⟩:=FE hc;refine EL f _ (c.args.map a.eval) hv (qG E qa) ?_;simp only[execOp,ho,resolve,mz,Deferred.ofValue,Act.eval,Sem.run_bind,Sem.run_pure,Result.andThen_ok,invoke,Array.empty_append,Array.append_empty];exact kV KI
 ·rename_i x args fb;obtain⟨f,l,hx,hP⟩:=hv;rw[fb]at hc;obtain⟨c,t,ho,mz,rfl,qa⟩:=wP hc;obtain⟨first,ea,he,KI,hL⟩:=yX (v:=a.eval (.tmp t)) hx (E t) (qG E qa);refine EL f _ (first++c.args.map a.eval++ea) hP hL ?_;simp only[execOp,ho,resolve,mz,he,Deferred.ofValue,Sem.run_bind,Sem.run_pure,Result.andThen_ok,invoke];exact kV KI
 ·rename_i m x y fb;have l7:=hc;rw[fb]at l7;obtain⟨t,x',y',ho,h1,h2,h3⟩:=KX l7;have qq:=hv;rw[fb]at qq;simp only[fh,Option.map_eq_some_iff,Prod.mk.injEq]at qq;obtain⟨g1,AR,rfl,rfl⟩:=qq;exact WW hv w (Qz S E ho h1 h2 h3 AR) rfl
 ·rename_i m x y fb;have l7:=hc;rw[fb]at l7;obtain⟨t,e,m',z,i,x',y',rfl,ho,h1,h2,h3,h4,h5,h6,h7⟩:=HO l7;have qq:=hv;rw[fb]at qq;simp only[fh,Option.bind_eq_some_iff]at qq;obtain⟨ys,GP,qq⟩:=qq;exact WW hv w (M1 S E hf ho h1 h2 h3 h4 h5 h6 h7 GP qq) rfl
 ·rename_i m x y fb;have l7:=hc;rw[fb]at l7;obtain⟨t,t2,e,m',x',y',rfl,ho,h1,h2,h3,h4⟩:=NZ l7;have qq:=hv;rw[fb]at qq;simp only[fh,Option.bind_eq_some_iff]at qq;obtain⟨ys,GP,qq⟩:=qq;exact WW hv w (Ug S E ho h1 h2 h3 h4 GP qq) rfl
 ·rename_i z x fb;have l7:=hc;rw[fb]at l7;obtain⟨t,e,m',x',ho,h1,h2,h3,h4⟩:=KW l7;have qq:=hv;rw[fb]at qq;simp only[fh,Option.map_eq_some_iff,Prod.mk.injEq]at qq;obtain⟨g1,AR,rfl,rfl⟩:=qq;exact WW hv w (Qy S E ho h1 h2 h3 h4 AR) rfl
 ·rename_i q xs fb;have l7:=hc;rw[fb]at l7;have qq:=hv;rw[fb]at qq;simp only[fh,Option.map_eq_some_iff,Prod.mk.injEq]at qq;obtain⟨g1,AR,rfl,rfl⟩:=qq
  rcases Vg l7 with⟨t,x,k,y,m,z,x',k',y',ho,h1,h2,h3,h4,rfl,rfl⟩|⟨t,t',x,k,m,z,x',k',ho,h1,h2,h3,rfl,rfl⟩
  ·exact WW hv w (Ui S E ho h1 h2 h3 h4 AR) rfl
  ·exact WW hv w (Uh S E ho h1 h2 h3 AR) rfl
 ·obtain⟨mr,hq,hg⟩:=hv;exact quiet mr hq hg
end
end V

namespace V
open Go.RowKit
variable {P:Program} {w w':World} {D D' D2:Nat->Prop} {ι ι' ι2:Names}
section
variable {g:Rows} {hs:Nat} {env:Env} {a:Act} {o:Oper} {id:Id} {v:AV}
theorem rP {ops:Array Oper} {nt site0 j:Nat} {draw mk:Bool} {bs:Array Nat} {hidden:List (Nat×Bool)} {vo:bU} (h:mM P ops nt site0 draw mk bs hidden j o=some vo):
  ug P o.op=some vo.op/\vo.dst=o.dst/\vo.site=site0+j/\(∀d,o.dst=some d->d<nt)/\(match o.guard with
   |none=>vo.guard=none
   |some (i,b)=>∃t,(ops[i]?).bind (·.dst)=some t/\vo.guard=some (t,b)):=by
 unfold mM at h;simp only[Option.bind_eq_bind,Option.bind_eq_some_iff]at h;obtain⟨v,hv,gd,hg,h⟩:=h
 split at h
 ·rename_i hd;simp only[Option.pure_def,Option.some.injEq]at h;subst h;refine⟨hv,rfl,rfl,fun d hd'=>?_,?_⟩
  ·rw[hd']at hd;simpa using hd
  ·unfold Hg at hg
   cases sZ:o.guard with
   |none=>rw[sZ]at hg;simp at hg;exact hg.symm
   |some p=>
    obtain⟨i,b⟩:=p;rw[sZ]at hg;dsimp only at hg ⊢
    split at hg
    ·rename_i t ht
     simp at hg;exact⟨t,ht,hg.symm⟩
    ·simp at hg
 ·simp at h
theorem xj {ops:Array Oper} {vo:bU} (E:dR P w D ι env a) (hg:match o.guard with
   |none=>vo.guard=none
   |some (i,b)=>∃t,(ops[i]?).bind (·.dst)=some t/\vo.guard=some (t,b)):aD vo.guard env=Region.wanted o (yielded ops a.tmps):=by
 unfold Region.wanted
 cases sZ:o.guard with
 |none=>rw[sZ]at hg;simp only at hg;rw[hg];rfl
 |some p=>
  obtain⟨i,b⟩:=p;rw[sZ]at hg;obtain⟨t,ht,hv⟩:=hg;rw[hv];simp only[aD,yielded,ht,Option.bind_some];have hr:=E t
  by_cases eG:t<a.tmps.size
  ·have ib:a.tmps[t]? =some a.tmps[t]:=Array.getElem?_eq_getElem eG;have hd:a.tmps.getD t undef=a.tmps[t]:=by simp[eG]
   rw[hd]at hr;rw[ib];generalize a.tmps[t]=u at hr
   cases he:env t with
   |bool c=>rw[he]at hr;rw[gx hr];simp
   |_=>
    rw[he]at hr
    have:∀c,u≠.bool c:=by
     intro c hu;subst hu
     cases hr with
     |fw _ _ h=>cases h
    cases u<;>simp_all
  ·have ib:a.tmps[t]? =none:=Array.getElem?_eq_none (Nat.le_of_not_lt eG);have hd:a.tmps.getD t undef=undef:=by simp[ib]
   rw[hd]at hr;rw[ib]
   cases he:env t with
   |bool c=>rw[he]at hr;have:=gx hr;simp[undef]at this
   |_=>simp
theorem jO {dst:Option Nat} {nt:Nat} {u:Value} (E:dR P w D ι env a) (hr:dX P w D ι v u) (hd:∀d,dst=some d->d<nt) (hs:a.tmps.size=nt):dR P w D ι (upd env dst v) (a.put dst u):=by
 intro t
 cases dst with
 |none=>exact E t
 |some d=>
  have eG:d<a.tmps.size:=by rw[hs];exact hd d rfl
  simp only[upd,Act.put]
  by_cases ht:t=d
  ·subst ht;simp[eG];exact hr
  ·rw[if_neg ht]
   have:(a.tmps.setIfInBounds d u).getD t undef=a.tmps.getD t undef:=by
    simp only[Array.getD_eq_getD_getElem?];rw[Array.getElem?_setIfInBounds_ne (fun e=>ht e.symm)]
   rw[this];exact E t
theorem qM {hs:Nat} (E:dR P w D ι env a) (T:Step hs D ι w D' ι' w'):dR P w' D' ι' env a:=fun t=>T.rep (E t)
theorem gn (a:Act) (dst:Option Tmp) (u:Value):(a.put dst u).tmps.size=a.tmps.size:=by cases dst<;>simp[Act.put]
theorem put_defers (a:Act) (dst:Option Tmp) (u:Value):(a.put dst u).defers=a.defers:=by cases dst<;>rfl
theorem Ct {draw:Bool} {vo:bU} {σ:aw} {next:AV->aw->Prop} {U:Nat->Prop} {Q:Exit->Act->World->Prop} {K:Act->World->Prop} (hc:ug P o.op=some vo.op) (hv:eU (Sound P) draw vo env σ next) (S:iE P hs D ι σ.get w) (Us:Used ι σ.next U) (hU:¬U vo.site) (E:dR P w D ι env a)
  (hK:∀v σ' u D' ι' w',next v σ'->Step hs D ι w D' ι' w'->iE P hs D' ι' σ'.get w'->dX P w' D' ι' v u->Used ι' σ'.next (fun s=>U s∨s=vo.site)->σ.next<=σ'.next->K (a.put o.dst u) w'):o.wp P a w K Q:=by
 have close:∀v g',VS (Sound P) σ.next vo env σ.get v g'->next v ⟨g',σ.next⟩->o.wp P a w K Q:=fun v g' h1 h2=>
  EB hc h1 S Us hU E fun a' w' ⟨u,D',ι',ha,T,S',hR,U'⟩=>by subst ha;exact hK v ⟨g',σ.next⟩ u D' ι' w' h2 T S' hR U' (Nat.le_refl _)
 have Oz:∀(f:Nat) (args:List AV) (vs:Array Value),Sound P f args ⟨σ.get,σ.next+1⟩ next->gI P w D ι args vs->(execOp a.eval o).run P w=.ok (.enter f vs) w->o.wp P a w K Q:=by
  intro f args vs h hA gW;unfold Oper.wp;rw[gW];refine(h hs D ι w vs S Us.next hA).mono ?_;rintro e w' ⟨r,g',n',D',ι',u,rfl,hn,T,S',U',hle,hR⟩;exact hK r ⟨g',n'⟩ u D' ι' w' hn T S' hR (U'.more fun _ h=>h.elim) (Nat.le_trans (Nat.le_succ _) hle)
 unfold eU at hv
 split at hv
 ·rename_i f args fb
  rcases hv with⟨r,hP,hn⟩|⟨_,hX⟩|⟨Dj,sz,rows,hM,hn⟩
  ·exact close r σ.get (by unfold VS;rw[fb];exact .inl ⟨hP,rfl⟩) hn
  rotate_left
  ·exact close _ _ (by unfold VS;rw[fb];exact .inr ⟨Dj,sz,rows,hM,rfl,rfl⟩) hn
  ·have l7:=hc;rw[fb]at l7;obtain⟨c,ho,mz,KI,qa⟩:=FE l7;refine Oz f _ (c.args.map a.eval) hX (qG E qa) ?_;simp only[execOp,ho,resolve,mz,Deferred.ofValue,Act.eval,Sem.run_bind,Sem.run_pure,Result.andThen_ok,invoke,Array.empty_append,Array.append_empty];exact kV KI
 ·rename_i x args fb
  split at hv
  ·rename_i f ea hx;have xE:yV (dq env x) (args.map (dq env))=some (f,args.map (dq env)++ea):=by rw[hx];rfl
   rcases hv with⟨r,hP,hn⟩|⟨_,hX⟩|⟨Dj,sz,rows,hM,hn⟩
   ·exact close r σ.get (by unfold VS;rw[fb];exact⟨f,_,xE,.inl ⟨hP,rfl⟩⟩) hn
   rotate_left
   ·exact close _ _ (by unfold VS;rw[fb];exact⟨f,_,xE,.inr ⟨Dj,sz,rows,hM,rfl,rfl⟩⟩) hn
   ·have l7:=hc;rw[fb]at l7;obtain⟨c,t,ho,mz,rfl,qa⟩:=wP l7;obtain⟨first,us,he,KI,hL⟩:=yX (v:=a.eval (.tmp t)) xE (E t) (qG E qa);refine Oz f _ (first++c.args.map a.eval++us) hX hL ?_;simp only[execOp,ho,resolve,mz,he,Deferred.ofValue,Sem.run_bind,Sem.run_pure,Result.andThen_ok,invoke];exact kV KI
  ·rename_i f ea hx;have xE:yV (dq env x) (args.map (dq env))=some (f,ea++args.map (dq env)):=by rw[hx];rfl
   rcases hv with⟨r,hP,hn⟩|⟨_,hX⟩|⟨Dj,sz,rows,hM,hn⟩
   ·exact close r σ.get (by unfold VS;rw[fb];exact⟨f,_,xE,.inl ⟨hP,rfl⟩⟩) hn
   rotate_left
   ·exact close _ _ (by unfold VS;rw[fb];exact⟨f,_,xE,.inr ⟨Dj,sz,rows,hM,rfl,rfl⟩⟩) hn
   ·have l7:=hc;rw[fb]at l7;obtain⟨c,t,ho,mz,rfl,qa⟩:=wP l7;obtain⟨first,us,he,KI,hL⟩:=yX (v:=a.eval (.tmp t)) xE (E t) (qG E qa);refine Oz f _ (first++c.args.map a.eval++us) hX hL ?_;simp only[execOp,ho,resolve,mz,he,Deferred.ofValue,Sem.run_bind,Sem.run_pure,Result.andThen_ok,invoke];exact kV KI
  ·exact hv.elim
 ·rename_i m x y fb
  split at hv
  ·rename_i v' g' he;exact close v' g' (by unfold VS;rw[fb];rw[fb]at he;exact he) hv
  ·exact hv.elim
 ·rename_i m x y fb
  split at hv
  ·rename_i v' g' he;exact close v' g' (by unfold VS;rw[fb];rw[fb]at he;exact he) hv
  ·exact hv.elim
 ·rename_i m x y fb
  split at hv
  ·rename_i v' g' he;exact close v' g' (by unfold VS;rw[fb];rw[fb]at he;exact he) hv
  ·exact hv.elim
 ·rename_i m x fb
  split at hv
  ·rename_i v' g' he;exact close v' g' (by unfold VS;rw[fb];rw[fb]at he;exact he) hv
  ·exact hv.elim
 ·rename_i m x fb
  split at hv
  ·rename_i v' g' he;exact close v' g' (by unfold VS;rw[fb];rw[fb]at he;exact he) hv
  ·exact hv.elim
 ·rename_i n1 n2 n3 n4 n5 n6 n7
  split at hv
  ·rename_i v' r hq;refine close v' (bJ σ.get ⟨vo.site,σ.next⟩ r) ?_ hv;unfold VS
   split
   ·rename_i h;exact(n1 _ _ h).elim
   ·rename_i h;exact(n2 _ _ h).elim
   ·rename_i h;exact(n3 _ _ _ h).elim
   ·rename_i h;exact(n4 _ _ _ h).elim
   ·rename_i h;exact(n5 _ _ _ h).elim
   ·rename_i h;exact(n6 _ _ h).elim
   ·rename_i h;exact(n7 _ _ h).elim
   ·exact⟨some r,hq,rfl⟩
  ·rename_i v' hq;refine close v' σ.get ?_ hv;unfold VS
   split
   ·rename_i h;exact(n1 _ _ h).elim
   ·rename_i h;exact(n2 _ _ h).elim
   ·rename_i h;exact(n3 _ _ _ h).elim
   ·rename_i h;exact(n4 _ _ _ h).elim
   ·rename_i h;exact(n5 _ _ _ h).elim
   ·rename_i h;exact(n6 _ _ h).elim
   ·rename_i h;exact(n7 _ _ h).elim
   ·exact⟨none,hq,rfl⟩
  ·exact hv.elim
structure St (P:Program) (hs nt:Nat) (D:Nat->Prop) (ι:Names) (env:Env) (σ:aw) (a:Act) (w:World):Prop where
 xa:iE P hs D ι σ.get w
 used:Used ι σ.next (fun _=>False)
 env:dR P w D ι env a
 size:a.tmps.size=nt
theorem zU (rest:List Oper) {ops:Array Oper} {nt site0:Nat} {draw mk:Bool} {bs:Array Nat} {hidden:List (Nat×Bool)} {K:Env->aw->Prop} {Q:Exit->Act->World->Prop}:∀(l:List Oper) (vl:List bU) (j:Nat) (env:Env) (σ:aw) (a:Act) (w:World) (D:Nat->Prop) (ι:Names) (U:Nat->Prop),
  allM (mM P ops nt site0 draw mk bs hidden) l j=some vl->wpOps (Sound P) draw vl K env σ->iE P hs D ι σ.get w->Used ι σ.next U->(∀s,U s->s<site0+j)->dR P w D ι env a->a.tmps.size=nt->
  (∀jY σ' a' w' D' ι',K jY σ'->Step hs D ι w D' ι' w'->St P hs nt D' ι' jY σ' a' w'->a'.defers=a.defers->σ.next<=σ'.next->wpList P ops Q rest a' w')->wpList P ops Q (l++rest) a w:=by
 intro l
 induction l with
 |nil=>
  intro vl j env σ a w D ι U h hv S Us _ E eT hQ;simp[allM]at h;subst h;exact hQ env ⟨σ.get,σ.next+1⟩ a w D ι hv (Step.refl _ _ _ _) ⟨S,Us.next,E,eT⟩ rfl (Nat.le_succ _)
 |cons o l ih=>
  intro vl j env σ a w D ι U h hv S Us hU E eT hQ;simp only[allM,Option.bind_eq_bind,Option.bind_eq_some_iff,Option.pure_def,Option.some.injEq]at h;obtain⟨vo,ml,xi,wj,rfl⟩:=h;obtain⟨hc,hd,Fx,AQ,hg⟩:=rP ml;have hw:=xj (ops:=ops) (vo:=vo) E hg;unfold wpOps at hv;show wpList P ops Q (o::(l++rest)) a w;unfold wpList;rw[<-hw]
  split at hv
  ·rename_i KS;rw[if_pos KS];refine .inl (Ct hc hv S Us (fun h=>by have:=hU _ h;omega) E fun v σ' u D' ι' w' hn T S' hR U' hle=>?_)
   refine ih xi (j+1) (upd env vo.dst v) σ' (a.put o.dst u) w' D' ι' _ wj hn S' U' (fun s Fv=>by
    rcases Fv with h|h
    ·have:=hU _ h;omega
    ·omega) (by rw[hd];exact jO (qM E T) hR AQ eT) (by rw[gn];exact eT) fun jY σ2 a' w2 D2 ι2 hk T2 Qi HH qV=>hQ jY σ2 a' w2 D2 ι2 hk (T.trans T2) Qi (HH.trans (put_defers _ _ _)) (Nat.le_trans hle qV)
  ·rename_i KS;rw[if_neg KS];refine ih xi (j+1) (upd env vo.dst .undef) σ (a.put o.dst undef) w D ι U wj hv S Us (fun s Fv=>by have:=hU _ Fv;omega) (by rw[hd];exact jO E dX.undef AQ eT) (by rw[gn];exact eT) fun jY σ2 a' w2 D2 ι2 hk T2 Qi HH qV=>hQ jY σ2 a' w2 D2 ι2 hk T2 Qi (HH.trans (put_defers _ _ _)) qV
theorem Cd {ops:Array Oper} {nt site0:Nat} {draw mk:Bool} {bs:Array Nat} {hidden:List (Nat×Bool)} {K:Env->aw->Prop} {Q:Exit->Act->World->Prop}:∀(l:List Oper) (vl:List bU) (j:Nat) (env:Env) (σ:aw) (a:Act) (w:World) (D:Nat->Prop) (ι:Names) (U:Nat->Prop),
  allM (mM P ops nt site0 draw mk bs hidden) l j=some vl->wpOps (Sound P) draw vl K env σ->iE P hs D ι σ.get w->Used ι σ.next U->(∀s,U s->s<site0+j)->dR P w D ι env a->a.tmps.size=nt->
  (∀jY σ' a' w' D' ι',K jY σ'->Step hs D ι w D' ι' w'->St P hs nt D' ι' jY σ' a' w'->a'.defers=a.defers->σ.next<=σ'.next->Q .normal a' w')->wpList P ops Q l a w:=fun l vl j env σ a w D ι U h hv S Us hU E eT hQ=>by
 have:=zU [] l vl j env σ a w D ι U h hv S Us hU E eT hQ
 rwa [List.append_nil]at this
end
end V

namespace V
open Go.RowKit
variable {P:Program} {w w':World} {D D' D2:Nat->Prop} {ι ι' ι2:Names}
section
variable {hs:Nat} {X:gO}
theorem cY {env kd:Env} {x:O} (h:∀t∈jq x,env t=kd t):dq env x=dq kd x:=by
 cases x with
 |t n=>exact h n (by simp[jq])
 |_=>rfl
theorem map_congr {env kd:Env} {l:List O} (h:∀t∈l.flatMap jq,env t=kd t):l.map (dq env)=l.map (dq kd):=
 List.map_congr_left fun x hx=>cY fun t ht=>h t (List.mem_flatMap.2 ⟨x,hx,ht⟩)
theorem sk {env kd:Env} {x:Option O} (h:∀t∈zV x,env t=kd t):x.map (dq env)=x.map (dq kd):=by
 cases x with
 |none=>rfl
 |some y=>simp only[Option.map_some];rw[cY h]
theorem w5 {env kd:Env} {o:iU} {g:Rows} {id:Id} (h:∀t∈o.ji,env t=kd t):eA o (dq env) g id=eA o (dq kd) g id:=by
 cases o<;>simp only[iU.ji,List.mem_append]at h<;>simp only[eA]
 case eX x=>rw[cY h]
 case pick c a b=>rw[cY (x:=c) fun t ht=>h t (.inl (.inl ht)),cY (x:=a) fun t ht=>h t (.inl (.inr ht)),cY (x:=b) fun t ht=>h t (.inr ht)]
 case box x=>rw[cY h]
 case build z ps=>
  have:(ps.map fun(x:Nat×Nat×O)=>(x.1,x.2.1,dq env x.2.2))=ps.map fun(x:Nat×Nat×O)=>(x.1,x.2.1,dq kd x.2.2):=List.map_congr_left fun x hx=>by
   rw[cY (x:=x.2.2) fun t ht=>h t (List.mem_flatMap.2 ⟨x,hx,ht⟩)]
  rw[this]
 case gi a b l=>rw[map_congr h]
 case load a n x=>rw[cY h]
 case Kg x=>rw[cY h]
 case bin a b x y=>rw[cY (x:=x) fun t ht=>h t (.inl ht),cY (x:=y) fun t ht=>h t (.inr ht)]
 case sh a x y=>rw[cY (x:=x) fun t ht=>h t (.inl ht),cY (x:=y) fun t ht=>h t (.inr ht)]
 case y4 a x y=>rw[cY (x:=x) fun t ht=>h t (.inl ht),cY (x:=y) fun t ht=>h t (.inr ht)]
 case ZV a b x y=>rw[cY (x:=x) fun t ht=>h t (.inl ht),cY (x:=y) fun t ht=>h t (.inr ht)]
 case ZT a b x y=>rw[cY (x:=x) fun t ht=>h t (.inl ht),cY (x:=y) fun t ht=>h t (.inr ht)]
 case XO a b x=>rw[cY h]
 case ZU a x=>rw[cY h]
 case not x=>rw[cY h]
 case neg x=>rw[cY h]
 case conv k x=>rw[cY h]
 case IX x=>rw[cY h]
 case slice s x lo hi=>rw[cY (x:=x) fun t ht=>h t (.inl (.inl ht)),sk (x:=lo) fun t ht=>h t (.inl (.inr ht)),sk (x:=hi) fun t ht=>h t (.inr ht)]
 case DU x lo hi=>rw[cY (x:=x) fun t ht=>h t (.inl (.inl ht)),sk (x:=lo) fun t ht=>h t (.inl (.inr ht)),sk (x:=hi) fun t ht=>h t (.inr ht)]
 case fA k x=>rw[cY h]
 case field a b c x=>rw[cY h]
 case lq s x y=>rw[cY (x:=x) fun t ht=>h t (.inl ht),cY (x:=y) fun t ht=>h t (.inr ht)]
 case Q7 n s x y=>rw[cY (x:=x) fun t ht=>h t (.inl ht),cY (x:=y) fun t ht=>h t (.inr ht)]
 case Ra x y=>rw[cY (x:=x) fun t ht=>h t (.inl ht),cY (x:=y) fun t ht=>h t (.inr ht)]
 case ei a b c x y=>rw[cY (x:=x) fun t ht=>h t (.inl ht),cY (x:=y) fun t ht=>h t (.inr ht)]
 case extract i x=>rw[cY h]
 case len x=>rw[cY h]
 case Rk x=>rw[cY h]
 case Oo x=>rw[cY h]
 case Oi x=>rw[cY h]
 case Rn f l=>rw[map_congr h]
 case Ro f l=>rw[map_congr h]
 case mq f l=>rw[map_congr h]
 case sf z x y=>rw[cY (x:=x) fun t ht=>h t (.inl ht),cY (x:=y) fun t ht=>h t (.inr ht)]
theorem jy {env kd:Env} {o:iU} {g:Rows} {id:Id} (h:∀t∈o.ji,env t=kd t):fh o (dq env) g id=fh o (dq kd) g id:=by
 cases o<;>simp only[iU.ji,List.mem_append]at h<;>simp only[fh]
 case clear z x=>rw[cY h]
 case mw f l=>rw[map_congr h]
 all_goals rename_i a x y
 all_goals rw[cY (x:=x) fun t ht=>h t (.inl ht),cY (x:=y) fun t ht=>h t (.inr ht)]
theorem MB {n:Nat} {vo:bU} {env kd:Env} {g g':Rows} {v:AV} (h:∀t∈vo.op.ji,env t=kd t) (hv:VS X n vo env g v g'):VS X n vo kd g v g':=by
 unfold VS at hv ⊢
 split at hv
 ·rename_i f args fb;rw[fb]at h;simp only[iU.ji]at h;rw[<-map_congr h];exact hv
 ·rename_i x args fb;rw[fb]at h;simp only[iU.ji,List.mem_append]at h;rw[<-map_congr (l:=args) fun t ht=>h t (.inr ht),<-cY (x:=x) fun t ht=>h t (.inl ht)];exact hv
 ·rw[<-jy h];exact hv
 ·rw[<-jy h];exact hv
 ·rw[<-jy h];exact hv
 ·rw[<-jy h];exact hv
 ·rw[<-jy h];exact hv
 ·rw[<-w5 h];exact hv
theorem H0 {q:MQ} {vs:List AV} {g:Rows} {id:Id} {v:AV} {r:Row} (h:bh q vs g id=some (v,some r)):∃m,q=.new m:=by
 unfold bh at h
 split at h
 ·exact⟨_,rfl⟩
 ·simp[Option.bind_eq_some_iff]at h
 ·simp at h
 ·cases h
theorem z8 {o:iU} {ρ:O->AV} {g:Rows} {id:Id} {v:AV} {r:Row} (h:eA o ρ g id=some (v,some r)):tN o=true:=by
 cases o<;>simp only[eA]at h<;>(try rfl)<;>(try simp at h)
 case mq q xs=>obtain⟨m,rfl⟩:=H0 h;rfl
 all_goals (try(split at h<;>simp at h))
theorem Aa {o:iU} {ρ:O->AV} {g g2:Rows} {id id2:Id} (h:o.cls=.pure):eA o ρ g id=eA o ρ g2 id2:=by
 cases o<;>(try simp[iU.cls]at h)<;>(try simp only[eA])
 case mq q xs=>cases q<;>simp[iU.cls]at h
theorem yP {n:Nat} {vo:bU} {env:Env} {g g':Rows} {v:AV} (hw:vo.op.cls≠.write) (hv:VS X n vo env g v g'):∃mr,g'=kI g ⟨vo.site,n⟩ mr/\(mr≠none->vo.makes=true)/\∀g0,fc vo.hid n g0=fc vo.hid n g->VS X n vo env g0 v (kI g0 ⟨vo.site,n⟩ mr):=by
 unfold VS at hv
 split at hv
 ·rename_i f args fb
  rcases hv with⟨h1,rfl⟩|⟨hs,sz,rows,hM,rfl,rfl⟩
  ·refine⟨none,rfl,fun h=>(h rfl).elim,fun g0 h0=>?_⟩;unfold VS;rw[fb];simp only;unfold yW;rw[h0];exact .inl ⟨h1,rfl⟩
  ·refine⟨some _,rfl,fun _=>by unfold bU.makes;rw[fb,hs];simp[iU.oh],fun g0 h0=>?_⟩;unfold VS;rw[fb];simp only;unfold yW;rw[h0];exact .inr ⟨hs,sz,rows,hM,rfl,rfl⟩
 ·rename_i x args fb;obtain⟨f,ea,hx,hv⟩:=hv
  rcases hv with⟨h1,rfl⟩|⟨hs,sz,rows,hM,rfl,rfl⟩
  ·refine⟨none,rfl,fun h=>(h rfl).elim,fun g0 h0=>?_⟩;unfold VS;rw[fb];simp only;unfold yW;rw[h0];exact⟨f,ea,hx,.inl ⟨h1,rfl⟩⟩
  ·refine⟨some _,rfl,fun _=>by unfold bU.makes;rw[fb,hs];simp[iU.oh],fun g0 h0=>?_⟩;unfold VS;rw[fb];simp only;unfold yW;rw[h0];exact⟨f,ea,hx,.inr ⟨hs,sz,rows,hM,rfl,rfl⟩⟩
 ·rename_i fb;rw[fb]at hw;exact(hw rfl).elim
 ·rename_i fb;rw[fb]at hw;exact(hw rfl).elim
 ·rename_i fb;rw[fb]at hw;exact(hw rfl).elim
 ·rename_i fb;rw[fb]at hw;exact(hw rfl).elim
 ·rename_i fb;rw[fb]at hw;exact(hw rfl).elim
 ·rename_i n1 n2 n3 n4 n5 n6 n7;obtain⟨mr,hq,rfl⟩:=hv;refine⟨mr,rfl,fun h=>?_,fun g0 h0=>?_⟩
  ·cases mr with
   |none=>exact(h rfl).elim
   |some r=>unfold bU.makes;rw[z8 hq];rfl
  ·unfold VS
   split
   ·rename_i hh;exact(n1 _ _ hh).elim
   ·rename_i hh;exact(n2 _ _ hh).elim
   ·rename_i hh;exact(n3 _ _ _ hh).elim
   ·rename_i hh;exact(n4 _ _ _ hh).elim
   ·rename_i hh;exact(n5 _ _ _ hh).elim
   ·rename_i hh;exact(n6 _ _ hh).elim
   ·rename_i hh;exact(n7 _ _ hh).elim
   ·rw[h0];exact⟨mr,hq,rfl⟩
theorem CC {n:Nat} {vo:bU} {env:Env} {g g':Rows} {v:AV} (hp:vo.op.cls=.pure) (hv:VS X n vo env g v g'):g'=g/\∀g0,VS X n vo env g0 v g0:=by
 unfold VS at hv
 split at hv
 ·rename_i fb;rw[fb]at hp;simp[iU.cls]at hp
 ·rename_i fb;rw[fb]at hp;simp[iU.cls]at hp
 ·rename_i fb;rw[fb]at hp;simp[iU.cls]at hp
 ·rename_i fb;rw[fb]at hp;simp[iU.cls]at hp
 ·rename_i fb;rw[fb]at hp;simp[iU.cls]at hp
 ·rename_i fb;rw[fb]at hp;simp[iU.cls]at hp
 ·rename_i fb;rw[fb]at hp;simp[iU.cls]at hp
 ·rename_i n1 n2 n3 n4 n5 n6 n7;obtain⟨mr,hq,rfl⟩:=hv
  have hmr:mr=none:=by
   cases mr with
   |none=>rfl
   |some r=>have:=z8 hq;simp[tN,hp]at this
  subst hmr;refine⟨rfl,fun g0=>?_⟩;unfold VS
  split
  ·rename_i hh;exact(n1 _ _ hh).elim
  ·rename_i hh;exact(n2 _ _ hh).elim
  ·rename_i hh;exact(n3 _ _ _ hh).elim
  ·rename_i hh;exact(n4 _ _ _ hh).elim
  ·rename_i hh;exact(n5 _ _ _ hh).elim
  ·rename_i hh;exact(n6 _ _ hh).elim
  ·rename_i hh;exact(n7 _ _ hh).elim
  ·exact⟨none,by rw[Aa hp];exact hq,rfl⟩
def GS (X:gO) (n:Nat) (vo:bU) (env:Env) (g:Rows) (v:AV) (g':Rows):Prop:=
 if aD vo.guard env then VS X n vo env g v g' else v=.undef/\g'=g
theorem Gt {hid:List Nat} {g:Rows} {s n:Nat} {mr:Option Row} (h:mr≠none->hid.contains s=true):fc hid n (kI g ⟨s,n⟩ mr)=fc hid n g:=by
 cases mr with
 |none=>rfl
 |some r=>
  have hc:=h (by simp)
  cases hid with
  |nil=>simp at hc
  |cons a l=>
   funext i
   show(if (a::l).contains i.site=true/\i.bH=n then none else kI g ⟨s,n⟩ (some r) i)=if (a::l).contains i.site=true/\i.bH=n then none else g i
   by_cases hi:i=⟨s,n⟩
   ·subst hi;rw[if_pos ⟨hc,rfl⟩,if_pos ⟨hc,rfl⟩]
   ·simp only[kI,bJ,if_neg hi]
theorem Kb {g:Rows} {i j:Id} (h:i≠j) (m1 m2:Option Row):kI (kI g i m1) j m2=kI (kI g j m2) i m1:=by
 cases m1<;>cases m2<;>simp only[kI]
 funext k
 simp only[bJ]
 by_cases h1:k=i
 ·subst h1;rw[if_neg h,if_pos rfl];simp
 ·by_cases h2:k=j
  ·subst h2;simp[h1]
  ·simp[h1,h2]
theorem Ax {env:Env} {d e:Option Nat} {v u:AV} (h:∀k,d=some k->e≠some k):upd (upd env d v) e u=upd (upd env e u) d v:=by
 cases d with
 |none=>rfl
 |some d=>
  cases e with
  |none=>rfl
  |some e=>
   have ju:d≠e:=fun he=>h d rfl (by rw[he])
   funext t
   simp only[upd]
   by_cases h1:t=d
   ·subst h1;rw[if_neg ju,if_pos rfl,if_pos rfl]
   ·by_cases h2:t=e
    ·subst h2;rw[if_pos rfl,if_neg h1,if_pos rfl]
    ·simp[h1,h2]
theorem oV {env:Env} {d:Option Nat} {v:AV} {l:List Nat} (h:∀k,d=some k->k∉l):∀t∈l,upd env d v t=env t:=by
 intro t ht
 cases d with
 |none=>rfl
 |some d=>
  have:t≠d:=fun he=>h d rfl (he▸ht);simp[upd,this]
structure GY (x y:bU):Prop where
 xy:∀k,x.dst=some k->k∉y.ji
 yx:∀k,y.dst=some k->k∉x.ji
 dst:∀k,x.dst=some k->y.dst≠some k
 cls:clash x.op.cls y.op.cls=false
 hx:x.makes=true->y.hid.contains x.site=true
 hy:y.makes=true->x.hid.contains y.site=true
 site:x.site≠y.site
theorem GY.symm {x y:bU} (h:GY x y):GY y x:=
 ⟨h.yx,h.xy,fun k hk he=>h.dst k he hk,by have:=h.cls;revert this;cases x.op.cls<;>cases y.op.cls<;>simp[clash],h.hy,h.hx,fun e=>h.site e.symm⟩
theorem tA {x y:bU} (h:I8 x y=true):GY x y:=by
 unfold I8 at h;simp only[Bool.and_eq_true,Bool.not_eq_true',Bool.or_eq_true,bne_iff_ne]at h;obtain⟨⟨⟨⟨h1,h2⟩,h3⟩,h4⟩,h5⟩:=h;unfold xh at h1;simp only[Bool.and_eq_true]at h1;obtain⟨a1,a2⟩:=h1;refine⟨fun k hk=>?_,fun k hk=>?_,fun k hk=>?_,h2,fun hm=>?_,fun hm=>?_,h5⟩
 ·rw[hk]at a1;simp at a1;exact a1.1
 ·rw[hk]at a2;simpa using a2
 ·rw[hk]at a1;simp at a1;exact a1.2
 ·rcases h3 with h3|h3
  ·rw[hm]at h3;cases h3
  ·exact h3
 ·rcases h4 with h4|h4
  ·rw[hm]at h4;cases h4
  ·exact h4
theorem vL {vo:bU} {t:Nat} (h:t∈vo.op.ji):t∈vo.ji:=List.mem_append_left _ h
theorem pQ {vo:bU} {env kd:Env} (h:∀t∈vo.ji,env t=kd t):aD vo.guard env=aD vo.guard kd:=by
 unfold aD
 cases hg:vo.guard with
 |none=>rfl
 |some p=>
  obtain⟨t,b⟩:=p;have:env t=kd t:=h t (List.mem_append_right _ (by rw[hg];simp));simp only[this]
theorem yJ {n:Nat} {vo:bU} {env kd:Env} {g g':Rows} {v:AV} (h:∀t∈vo.ji,env t=kd t) (hv:GS X n vo env g v g'):GS X n vo kd g v g':=by
 unfold GS at hv ⊢;rw[<-pQ h]
 split at hv
 ·rename_i hw;rw[if_pos hw];exact MB (fun t ht=>h t (vL ht)) hv
 ·rename_i hw;rw[if_neg hw];exact hv
theorem IF {n:Nat} {x y:bU} {env:Env} {g g1 g2:Rows} {v v':AV} (F:GY x y) (h1:GS X n x env g v g1) (h2:GS X n y (upd env x.dst v) g1 v' g2):
  ∃PQ,GS X n y env g v' PQ/\GS X n x (upd env y.dst v') PQ v g2/\upd (upd env x.dst v) y.dst v'=upd (upd env y.dst v') x.dst v:=by
 have NU:=Ax (env:=env) (v:=v) (u:=v') F.dst;replace h2:GS X n y env g1 v' g2:=yJ (oV F.xy) h2;have back:∀{PQ},GS X n x env PQ v g2->GS X n x (upd env y.dst v') PQ v g2:=fun h=>yJ (fun t ht=>(oV F.yx t ht).symm) h;unfold GS at h1 h2
 by_cases wx:aD x.guard env=true
 ·rw[if_pos wx]at h1
  by_cases wy:aD y.guard env=true
  ·rw[if_pos wy]at h2
   by_cases cx:x.op.cls=.write
   ·have cy:y.op.cls=.pure:=by
     have:=F.cls;rw[cx]at this
     cases hc:y.op.cls<;>simp[clash,hc]at this ⊢
    obtain⟨rfl,fy⟩:=CC cy h2;exact⟨g,by unfold GS;rw[if_pos wy];exact fy g,back (by unfold GS;rw[if_pos wx];exact h1),NU⟩
   ·by_cases cy:y.op.cls=.write
    ·have cx':x.op.cls=.pure:=by
      have:=F.cls;rw[cy]at this
      cases hc:x.op.cls<;>simp[clash,hc]at this ⊢
     obtain⟨rfl,fy⟩:=CC cx' h1;exact⟨g2,by unfold GS;rw[if_pos wy];exact h2,back (by unfold GS;rw[if_pos wx];exact fy g2),NU⟩
    ·obtain⟨mx,rfl,kx,allx⟩:=yP cx h1;obtain⟨my,rfl,ky,TZ⟩:=yP cy h2;have ju:(⟨x.site,n⟩:Id)≠⟨y.site,n⟩:=fun e=>F.site (by injection e);refine⟨kI g ⟨y.site,n⟩ my,?_,back ?_,NU⟩
     ·unfold GS;rw[if_pos wy];exact TZ g (Gt fun h=>F.hx (kx h)).symm
     ·unfold GS;rw[if_pos wx,Kb ju];exact allx _ (Gt fun h=>F.hy (ky h))
  ·rw[if_neg wy]at h2;obtain⟨rfl,rfl⟩:=h2;exact⟨g,by unfold GS;rw[if_neg wy];exact⟨rfl,rfl⟩,back (by unfold GS;rw[if_pos wx];exact h1),NU⟩
 ·rw[if_neg wx]at h1;obtain⟨rfl,rfl⟩:=h1;exact⟨g2,h2,back (by unfold GS;rw[if_neg wx];exact⟨rfl,rfl⟩),NU⟩
end
end V

namespace V
open Go.RowKit
variable {P:Program} {w w':World} {D D' D2:Nat->Prop} {ι ι' ι2:Names}
section
variable {hs:Nat} {X:gO}
def kJ (acc:Array Nat) (o:Oper):Nat:=o.after.foldl (fun s e=>if Region.binds .any e then s|||2 ^ e.on|||acc.getD e.on 0 else s) 0
theorem Qq (ops:Array Oper):kF ops=ops.foldl (fun acc o=>acc.push (kJ acc o)) #[]:=rfl
theorem EI {acc:Array Nat} {o:Oper} {i:Nat} (h:(kJ acc o).testBit i=true):∃e∈o.after,Region.binds .any e=true/\(e.on=i∨(acc.getD e.on 0).testBit i=true):=by
 unfold kJ at h;rw[<-Array.foldl_toList]at h
 have gen:∀(l:List Edge) (s:Nat),(l.foldl (fun s e=>if Region.binds .any e then s|||2 ^ e.on|||acc.getD e.on 0 else s) s).testBit i=true->s.testBit i=true∨∃e∈l,Region.binds .any e=true/\(e.on=i∨(acc.getD e.on 0).testBit i=true):=by
  intro l
  induction l with
  |nil=>intro s h;exact .inl h
  |cons e r ih=>
   intro s h;rw[List.foldl_cons]at h
   rcases ih _ h with h|⟨e',Fi,h'⟩
   ·by_cases hb:Region.binds .any e=true
    ·rw[if_pos hb]at h;simp only[Nat.testBit_or,Bool.or_eq_true]at h
     rcases h with(h|h)|h
     ·exact .inl h
     ·refine .inr ⟨e,by simp,hb,.inl ?_⟩;rw[Nat.testBit_two_pow]at h
      simpa using h
     ·exact .inr ⟨e,by simp,hb,.inr h⟩
    ·rw[if_neg hb]at h;exact .inl h
   ·exact .inr ⟨e',List.mem_cons_of_mem _ Fi,h'⟩
 rcases gen _ _ h with h|⟨e,he,h⟩
 ·simp at h
 ·exact⟨e,Array.mem_toList_iff.1 he,h⟩
theorem MP {ops:Array Oper} {j i:Nat} (h:((kF ops).getD j 0).testBit i=true):∃o,ops[j]? =some o/\∃e∈o.after,Region.binds .any e=true/\(e.on=i∨((kF ops).getD e.on 0).testBit i=true):=by
 have key:∀(l pre:List Oper) (acc:Array Nat),acc.size=pre.length->(∀j i,(acc.getD j 0).testBit i=true->∃o,pre[j]? =some o/\∃e∈o.after,Region.binds .any e=true/\(e.on=i∨(acc.getD e.on 0).testBit i=true))->
   ∀j i,((l.foldl (fun acc o=>acc.push (kJ acc o)) acc).getD j 0).testBit i=true->∃o,(pre++l)[j]? =some o/\∃e∈o.after,Region.binds .any e=true/\(e.on=i∨((l.foldl (fun acc o=>acc.push (kJ acc o)) acc).getD e.on 0).testBit i=true):=by
  intro l
  induction l with
  |nil=>intro pre acc _ h j i hb;simpa using h j i hb
  |cons o r ih=>
   intro pre acc eT h j i hb
   have F9:∀k,k<acc.size->(acc.push (kJ acc o)).getD k 0=acc.getD k 0:=fun k hk=>by
    simp only[Array.getD_eq_getD_getElem?,Array.getElem?_push];rw[if_neg ae]
   have big:∀k,acc.size<=k->acc.getD k 0=0:=fun k hk=>by simp[Array.getElem?_eq_none hk]
   have lift:∀k i,(acc.getD k 0).testBit i=true->((acc.push (kJ acc o)).getD k 0).testBit i=true:=fun k i hk=>by
    by_cases eG:k<acc.size
    ·rw[F9 k eG];exact hk
    ·rw[big k ae]at hk;simp at hk
   have:=ih (pre++[o]) (acc.push (kJ acc o)) (by simp[eT]) (fun j i hb=>by
    by_cases eG:j<acc.size
    ·rw[F9 j eG]at hb;obtain⟨o',El,e,he,qc,h2⟩:=h j i hb;refine⟨o',by rw[List.getElem?_append_left ae];exact El,e,he,qc,?_⟩
     rcases h2 with h2|h2
     ·exact .inl h2
     ·exact .inr (lift _ _ h2)
    ·by_cases hj:j=acc.size
     ·subst hj;have e0:(acc.push (kJ acc o)).getD acc.size 0=kJ acc o:=by simp
      rw[e0]at hb;obtain⟨e,he,qc,h2⟩:=EI hb;refine⟨o,by rw[List.getElem?_append_right ae,eT];simp,e,he,qc,?_⟩
      rcases h2 with h2|h2
      ·exact .inl h2
      ·exact .inr (lift _ _ h2)
     ·have:(acc.push (kJ acc o)).getD j 0=0:=by
       simp only[Array.getD_eq_getD_getElem?];rw[Array.getElem?_eq_none (by simp;omega)];rfl
      rw[this]at hb;simp at hb) j i (by simpa using hb)
   simpa using this
 rw[Qq,<-Array.foldl_toList]at h ⊢;have:=key ops.toList [] #[] rfl (fun j i h=>by simp at h) j i h
 simpa using this
def DC (ops:Array Oper) (listed:Array Bool):Prop:=∀k i,listed.getD k false=true->((kF ops).getD k 0).testBit i=true->listed.getD i false=true
theorem ns {ops:Array Oper} {listed:Array Bool} (h:DC ops listed) {j:Nat} (hj:j∈Region.ready .any ops listed):∀i,((kF ops).getD j 0).testBit i=true->listed.getD i false=true:=by
 intro i hb;obtain⟨_,o,ho,fy⟩:=mem_ready.1 hj;obtain⟨o',El,e,he,qc,h2⟩:=MP hb;rw[ho]at El;injection El with El;subst El
 have hl:=fy e he qc
 rcases h2 with h2|h2
 ·rw[<-h2];exact hl
 ·exact h _ _ hl h2
theorem DC.list {ops:Array Oper} {listed:Array Bool} (h:DC ops listed) {j:Nat} (hj:j∈Region.ready .any ops listed):DC ops (listed.setIfInBounds j true):=by
 intro k i hk hb
 by_cases hkj:k=j
 ·subst hkj;exact getD_set_true (ns h hj i hb)
 ·rw[getD_set_ne false (fun e=>hkj e.symm)]at hk;exact getD_set_true (h k i hk hb)
theorem kq {ops:Array Oper} {listed:Array Bool} {j:Nat} (hj:j∈Region.ready .any ops listed):listed.getD j false=false:=by
 have h0:=(mem_ready.1 hj).1
 rcases Nat.lt_or_ge j listed.size with h|h
 ·simp[h]at h0 ⊢;exact h0
 ·simp[Array.getElem?_eq_none h]at h0
def Po (X:gO) (n:Nat) (ops:Array Oper) (vl:List bU) (K:Env->Rows->Prop):Nat->Array Bool->Env->Rows->Prop
 |0,listed,env,g=>Region.ready .any ops listed=[]/\K env g
 |f+1,listed,env,g=>(Region.ready .any ops listed=[]->K env g)/\∀i∈Region.ready .any ops listed,∃vo,vl[i]? =some vo/\∃v g',GS X n vo env g v g'/\Po X n ops vl K f (listed.setIfInBounds i true) (upd env vo.dst v) g'
theorem EX {ops:Array Oper} {vl:List bU} (h:qL ops vl (kF ops)=true) {i j:Nat} {x y:bU} (hi:vl[i]? =some x) (hj:vl[j]? =some y) (uj:i≠j) (h1:((kF ops).getD j 0).testBit i=false) (h2:((kF ops).getD i 0).testBit j=false):GY x y:=by
 unfold qL at h;simp only[Bool.and_eq_true,List.all_eq_true]at h;obtain⟨_,h⟩:=h
 have mem:∀(k:Nat) (z:bU),vl[k]? =some z->(z,k)∈vl.zipIdx:=fun k z hk=>by
  rw[List.mem_iff_getElem?];exact⟨k,by simp[List.getElem?_zipIdx,hk]⟩
 rcases Nat.lt_or_gt_of_ne uj with eG|QT
 ·have:=h _ (mem j y hj) _ (mem i x hi);simp only[eG,decide_true,Bool.not_true,Bool.false_or,h1]at this;exact tA this
 ·have:=h _ (mem i x hi) _ (mem j y hj);simp only[QT,decide_true,Bool.not_true,Bool.false_or,h2]at this;exact(tA this).symm
theorem Iw {n:Nat} {ops:Array Oper} {vl:List bU} {K:Env->Rows->Prop} (Dh:qL ops vl (kF ops)=true) (hlen:vl.length=ops.size) {i:Nat} {vi:bU} (hi:vl[i]? =some vi) {v:AV}:∀(fuel:Nat) (listed:Array Bool) (env:Env) (g g1:Rows),
  DC ops listed->i∈Region.ready .any ops listed->GS X n vi env g v g1->Po X n ops vl K fuel (listed.setIfInBounds i true) (upd env vi.dst v) g1->Po X n ops vl K (fuel+1) listed env g:=by
 intro fuel
 induction fuel with
 |zero=>
  intro listed env g g1 _ hr hG H;refine⟨fun h=>(by rw[h]at hr;cases hr),fun j hj=>?_⟩
  by_cases ox:j=i
  ·subst ox;exact⟨vi,hi,v,g1,hG,H⟩
  ·have:=ready_mono hj ox;rw[H.1]at this;cases this
 |succ fuel ih=>
  intro listed env g g1 x8 hr hG H;refine⟨fun h=>(by rw[h]at hr;cases hr),fun j hj=>?_⟩
  by_cases ox:j=i
  ·subst ox;exact⟨vi,hi,v,g1,hG,H⟩
  ·obtain⟨vj,Q5,v',g2,hG2,H2⟩:=H.2 j (ready_mono hj ox)
   have b1:((kF ops).getD j 0).testBit i=false:=by
    cases hb:((kF ops).getD j 0).testBit i with
    |false=>rfl
    |true=>have:=ns x8 hj i hb;rw[kq hr]at this;cases this
   have b2:((kF ops).getD i 0).testBit j=false:=by
    cases hb:((kF ops).getD i 0).testBit j with
    |false=>rfl
    |true=>have:=ns x8 hr j hb;rw[kq hj]at this;cases this
   have F:=EX Dh hi Q5 (fun e=>ox e.symm) b1 b2;obtain⟨PQ,q1,q2,q3⟩:=IF F hG hG2;refine⟨vj,Q5,v',PQ,q1,ih _ _ _ g2 (x8.list hj) (ready_mono hr (fun e=>ox e.symm)) q2 ?_⟩;rw[<-q3,Array.setIfInBounds_comm _ _ ox];exact H2
theorem TR {n:Nat} {vo:bU} {env:Env} {g:Rows} {v:AV} {mr:Option Row} (h:eA vo.op (dq env) (fc vo.hid n g) ⟨vo.site,n⟩=some (v,mr)):VS X n vo env g v (kI g ⟨vo.site,n⟩ mr):=by
 unfold VS
 split
 ·rename_i fb;rw[fb]at h;simp[eA]at h
 ·rename_i fb;rw[fb]at h;simp[eA]at h
 ·rename_i fb;rw[fb]at h;simp[eA]at h
 ·rename_i fb;rw[fb]at h;simp[eA]at h
 ·rename_i fb;rw[fb]at h;simp[eA]at h
 ·rename_i fb;rw[fb]at h;simp[eA]at h
 ·rename_i fb;rw[fb]at h;simp[eA]at h
 ·exact⟨mr,h,rfl⟩
theorem MC {n:Nat} {vo:bU} {env:Env} {g g':Rows} {v:AV} (h:fh vo.op (dq env) g ⟨vo.site,n⟩=some (v,g')):VS X n vo env g v g':=by
 unfold VS
 split
 ·rename_i fb;rw[fb]at h;simp[fh]at h
 ·rename_i fb;rw[fb]at h;simp[fh]at h
 ·exact h
 ·exact h
 ·exact h
 ·exact h
 ·exact h
 ·rename_i n1 n2 n3 n4 n5 n6 n7;exfalso;unfold fh at h
  split at h
  ·rename_i hh;exact n3 _ _ _ hh
  ·rename_i hh;exact n4 _ _ _ hh
  ·rename_i hh;exact n5 _ _ _ hh
  ·rename_i hh;exact n6 _ _ hh
  ·rename_i hh;exact n7 _ _ hh
  ·simp at h
theorem VR {vo:bU} {env:Env} {σ:aw} {next:AV->aw->Prop} (hv:eU X true vo env σ next):∃v g',VS X σ.next vo env σ.get v g'/\next v ⟨g',σ.next⟩:=by
 unfold eU at hv
 split at hv
 ·rename_i f args fb
  rcases hv with⟨r,hP,hn⟩|⟨h,_⟩|⟨hs,sz,rows,hM,hn⟩
  ·exact⟨r,σ.get,by unfold VS;rw[fb];exact .inl ⟨hP,rfl⟩,hn⟩
  ·cases h
  ·exact⟨_,_,by unfold VS;rw[fb];exact .inr ⟨hs,sz,rows,hM,rfl,rfl⟩,hn⟩
 ·rename_i x args fb
  split at hv
  ·rename_i f ea hx;have xE:yV (dq env x) (args.map (dq env))=some (f,args.map (dq env)++ea):=by rw[hx];rfl
   rcases hv with⟨r,hP,hn⟩|⟨h,_⟩|⟨hs,sz,rows,hM,hn⟩
   ·exact⟨r,σ.get,by unfold VS;rw[fb];exact⟨f,_,xE,.inl ⟨hP,rfl⟩⟩,hn⟩
   ·cases h
   ·exact⟨_,_,by unfold VS;rw[fb];exact⟨f,_,xE,.inr ⟨hs,sz,rows,hM,rfl,rfl⟩⟩,hn⟩
  ·rename_i f ea hx;have xE:yV (dq env x) (args.map (dq env))=some (f,ea++args.map (dq env)):=by rw[hx];rfl
   rcases hv with⟨r,hP,hn⟩|⟨h,_⟩|⟨hs,sz,rows,hM,hn⟩
   ·exact⟨r,σ.get,by unfold VS;rw[fb];exact⟨f,_,xE,.inl ⟨hP,rfl⟩⟩,hn⟩
   ·cases h
   ·exact⟨_,_,by unfold VS;rw[fb];exact⟨f,_,xE,.inr ⟨hs,sz,rows,hM,rfl,rfl⟩⟩,hn⟩
  ·exact hv.elim
 ·split at hv
  ·rename_i v g h;exact⟨v,g,MC h,hv⟩
  ·exact hv.elim
 ·split at hv
  ·rename_i v g h;exact⟨v,g,MC h,hv⟩
  ·exact hv.elim
 ·split at hv
  ·rename_i v g h;exact⟨v,g,MC h,hv⟩
  ·exact hv.elim
 ·split at hv
  ·rename_i v g h;exact⟨v,g,MC h,hv⟩
  ·exact hv.elim
 ·split at hv
  ·rename_i v g h;exact⟨v,g,MC h,hv⟩
  ·exact hv.elim
 ·split at hv
  ·rename_i v r h;exact⟨v,_,TR h,hv⟩
  ·rename_i v h;exact⟨v,_,TR h,hv⟩
  ·exact hv.elim
theorem Ay {ops:Array Oper} {vl:List bU} {K:Env->aw->Prop} {n:Nat} (Dh:qL ops vl (kF ops)=true) (hlen:vl.length=ops.size):∀(r:List bU) (k:Nat) (listed:Array Bool) (env:Env) (g:Rows),
  (∀j,r[j]? =vl[k+j]?)->listed.size=ops.size->(∀i,i<ops.size->listed[i]? =some (decide (i<k)))->k+r.length=ops.size->DC ops listed->wpOps X true r K env ⟨g,n⟩->Po X n ops vl (fun env g=>K env ⟨g,n+1⟩) r.length listed env g
 |[],k,listed,env,g,_,eT,hl,hk,_,hv=>by
  refine⟨?_,hv⟩;rw[List.eq_nil_iff_forall_not_mem];intro j hj;obtain⟨h0,o,ho,_⟩:=mem_ready.1 hj;have eG:j<ops.size:=(Array.getElem?_eq_some_iff.1 ho).1;have:=hl j eG
  simp at hk
  simp[this,show j<k by omega]at h0
 |vo::r,k,listed,env,g,hr,eT,hl,hk,x8,hv=>by
  simp only[List.length_cons]at hk;have ml:vl[k]? =some vo:=by simpa using(hr 0).symm
  have l8:k<ops.size:=ae
  have NO:k∈Region.ready .any ops listed:=by
   rw[mem_ready];refine⟨by simp[hl k l8],ops[k],Array.getElem?_eq_getElem l8,fun e he hb=>?_⟩;unfold qL IZ at Dh;simp only[Bool.and_eq_true,List.all_eq_true]at Dh
   have hm:(ops[k],k)∈ops.toList.zipIdx:=by
    rw[List.mem_iff_getElem?];exact⟨k,by simp[List.getElem?_zipIdx,l8]⟩
   have:=Dh.1 _ hm;rw[Array.all_eq_true_iff_forall_mem]at this;have:=this e he;simp only[hb,Bool.not_true,Bool.false_or,decide_eq_true_eq]at this;simp[hl e.on ae,this]
  have hGS:∃v g',GS X n vo env g v g'/\wpOps X true r K (upd env vo.dst v) ⟨g',n⟩:=by
   unfold wpOps at hv;unfold GS
   split at hv
   ·rename_i hw;simp only[hw,if_true];exact VR hv
   ·rename_i hw;simp only[hw];exact⟨.undef,g,⟨rfl,rfl⟩,hv⟩
  obtain⟨v,g',h1,h2⟩:=hGS;refine Iw Dh hlen ml r.length listed env g g' x8 NO h1 ?_;refine Ay Dh hlen r (k+1) _ _ _ (fun j=>by have:=hr (j+1);simpa[Nat.add_assoc,Nat.add_comm 1 j]using this) (by simp[eT]) (fun i hi=>?_) ae (x8.list NO) h2
  by_cases BL:i=k
  ·subst BL;simp[eT,l8]
  ·rw[Array.getElem?_setIfInBounds_ne (fun e=>BL e.symm),hl i hi]
   congr 1
   have:(i<k)=(i<k+1):=by apply propext;omega
   simp[this]
theorem qF {f:Nat->Oper->Option bU}:∀{l:List Oper} {vl:List bU} {j:Nat},allM f l j=some vl->vl.length=l.length/\∀(i:Nat) (o:Oper),l[i]? =some o->∃vo,vl[i]? =some vo/\f (j+i) o=some vo
 |[],vl,j,h=>by simp[allM]at h;subst h;simp
 |o::l,vl,j,h=>by
  simp only[allM,Option.bind_eq_bind,Option.bind_eq_some_iff,Option.pure_def,Option.some.injEq]at h;obtain⟨vo,ml,xi,wj,rfl⟩:=h;obtain⟨h1,h2⟩:=qF wj;refine⟨by simp[h1],fun i o' hi=>?_⟩
  cases i with
  |zero=>simp at hi;subst hi;exact⟨vo,rfl,ml⟩
  |succ i=>
   simp at hi
   obtain⟨q,hq,hf⟩:=h2 i o' hi;exact⟨q,by simpa using hq,by rw[<-hf];congr 1;omega⟩
theorem Bk {ops:Array Oper} {vl:List bU} {nt site0:Nat} {draw mk:Bool} {bs:Array Nat} {hidden:List (Nat×Bool)} {n:Nat} {K:Env->Rows->Prop} {Q:Exit->Act->World->Prop} (fy:allM (mM P ops nt site0 draw mk bs hidden) ops.toList 0=some vl):
  ∀(fuel:Nat) (listed:Array Bool) (env:Env) (g:Rows) (a:Act) (w:World) (D:Nat->Prop) (ι:Names) (U:Nat->Prop),Po (Sound P) n ops vl K fuel listed env g->iE P hs D ι g w->Used ι n U->(∀s,U s->∃i,s=site0+i/\listed.getD i false=true)->dR P w D ι env a->a.tmps.size=nt->
  (∀jY g' a' w' D' ι' U',K jY g'->Step hs D ι w D' ι' w'->iE P hs D' ι' g' w'->Used ι' n U'->dR P w' D' ι' jY a'->a'.tmps.size=nt->a'.defers=a.defers->Q .normal a' w')->wpAny P .any ops Q fuel listed a w:=by
 intro fuel
 induction fuel with
 |zero=>intro listed env g a w D ι U h S Us hU E eT hQ;exact⟨h.1,hQ env g a w D ι U h.2 (Step.refl _ _ _ _) S Us E eT rfl⟩
 |succ fuel ih=>
  intro listed env g a w D ι U h S Us hU E eT hQ;refine⟨fun hr=>hQ env g a w D ι U (h.1 hr) (Step.refl _ _ _ _) S Us E eT rfl,fun i hi=>?_⟩;obtain⟨vo,ml,v,g',hG,S8⟩:=h.2 i hi;obtain⟨_,o,ho,_⟩:=mem_ready.1 hi;obtain⟨vo',Dm,Yf⟩:=(qF fy).2 i o (by simpa using ho);rw[ml]at Dm;injection Dm with Dm;subst Dm
  rw[Nat.zero_add]at Yf;obtain⟨hc,hd,Fx,AQ,hg⟩:=rP Yf;have hw:=xj (ops:=ops) (vo:=vo) E hg
  have hUi:¬U vo.site:=fun hu=>by
   obtain⟨i',he,hl⟩:=hU _ hu;have:i'=i:=ae;subst this;rw[kq hi]at hl;cases hl
  have lf:i<listed.size:=by
   have h0:=(mem_ready.1 hi).1
   rcases Nat.lt_or_ge i listed.size with h|h
   ·exact h
   ·simp[Array.getElem?_eq_none h]at h0
  unfold wpOp;simp only[ho];rw[<-hw];unfold GS at hG
  by_cases KS:aD vo.guard env=true
  ·rw[if_pos KS];rw[if_pos KS]at hG;refine .inl (EB hc hG S Us hUi E fun a' w' ⟨u,D',ι',ha,T,S',hR,U'⟩=>?_);subst ha;refine ih _ _ _ _ w' D' ι' _ S8 S' U' (fun s Fv=>?_) (by rw[hd];exact jO (qM E T) hR AQ eT) (by rw[gn];exact eT) fun jY g2 a2 w2 D2 ι2 U2 hk T2 S2 U2' E2 qt HH=>hQ jY g2 a2 w2 D2 ι2 U2 hk (T.trans T2) S2 U2' E2 qt (HH.trans (put_defers _ _ _))
   rcases Fv with h|h
   ·obtain⟨i',he,hl⟩:=hU _ h;exact⟨i',he,getD_set_true hl⟩
   ·exact⟨i,by rw[h,Fx],by simp[lf]⟩
  ·rw[if_neg KS];rw[if_neg KS]at hG;obtain⟨rfl,rfl⟩:=hG;refine ih _ _ _ _ w D ι U S8 S Us (fun s Fv=>?_) (by rw[hd];exact jO E dX.undef AQ eT) (by rw[gn];exact eT) fun jY g2 a2 w2 D2 ι2 U2 hk T2 S2 U2' E2 qt HH=>hQ jY g2 a2 w2 D2 ι2 U2 hk T2 S2 U2' E2 qt (HH.trans (put_defers _ _ _));obtain⟨i',he,hl⟩:=hU _ Fv;exact⟨i',he,getD_set_true hl⟩
end
end V

namespace V
open Go.RowKit
variable {P:Program} {w w':World} {D D' D2:Nat->Prop} {ι ι' ι2:Names}
section
variable {hs:Nat} {X:gO}
def sU (X:gO):Prop:=∀f args σ K K',(∀r σ',K r σ'->K' r σ')->X f args σ K->X f args σ K'
theorem mK:sU (Sound P):=fun _ _ _ _ _ hK h hs D ι w vs S U A=>
 (h hs D ι w vs S U A).mono fun _ _ ⟨r,g',n',D',ι',u,he,hk,rest⟩=>⟨r,g',n',D',ι',u,he,hK _ _ hk,rest⟩
def step (X:gO) (vo:bU) (N:Env->aw->Prop) (env:Env) (σ:aw):Prop:=
 if aD vo.guard env then eU X false vo env σ fun v σ'=>N (upd env vo.dst v) σ' else N (upd env vo.dst .undef) σ
theorem tr (hK:sU X) {draw:Bool} {hid:List Nat} {site f:Nat} {args:List AV} {σ:aw} {n n':AV->aw->Prop} (hn:∀v σ',n v σ'->n' v σ') (hp:cm X draw hid site f args σ n):cm X draw hid site f args σ n':=by
 rcases hp with⟨r,h1,h2⟩|⟨h1,h2⟩|⟨h1,sz,rows,h2,h3⟩
 ·exact .inl ⟨r,h1,hn _ _ h2⟩
 ·exact .inr (.inl ⟨h1,hK _ _ _ _ _ hn h2⟩)
 ·exact .inr (.inr ⟨h1,sz,rows,h2,hn _ _ h3⟩)
theorem Gu (hK:sU X) {draw:Bool} {o:bU} {env:Env} {σ:aw} {n n':AV->aw->Prop} (hn:∀v σ',n v σ'->n' v σ') (hp:eU X draw o env σ n):eU X draw o env σ n':=by
 unfold eU at hp ⊢
 split at hp
 ·exact tr hK hn hp
 ·split at hp
  ·exact tr hK hn hp
  ·exact tr hK hn hp
  ·exact hp.elim
 ·split at hp
  ·exact hn _ _ hp
  ·exact hp.elim
 ·split at hp
  ·exact hn _ _ hp
  ·exact hp.elim
 ·split at hp
  ·exact hn _ _ hp
  ·exact hp.elim
 ·split at hp
  ·exact hn _ _ hp
  ·exact hp.elim
 ·split at hp
  ·exact hn _ _ hp
  ·exact hp.elim
 ·split at hp
  ·exact hn _ _ hp
  ·exact hn _ _ hp
  ·exact hp.elim
theorem lE (hK:sU X) {vo:bU} {N N':Env->aw->Prop} (h:∀e s,N e s->N' e s) {env:Env} {σ:aw} (hp:step X vo N env σ):step X vo N' env σ:=by
 unfold step at hp ⊢
 split at hp
 ·rename_i hw;rw[if_pos hw];exact Gu hK (fun v σ'=>h _ _) hp
 ·rename_i hw;rw[if_neg hw];exact h _ _ hp
theorem LS {env kd:Env} {vo:bU} {σ:aw} {n:AV->aw->Prop} (h:∀t∈vo.op.ji,env t=kd t) (hv:eU X false vo env σ n):eU X false vo kd σ n:=by
 unfold eU at hv ⊢
 split at hv
 ·rename_i f args fb;rw[fb]at h;simp only[iU.ji]at h;rw[<-map_congr h];exact hv
 ·rename_i x args fb;rw[fb]at h;simp only[iU.ji,List.mem_append]at h;rw[<-map_congr (l:=args) fun t ht=>h t (.inr ht),<-cY (x:=x) fun t ht=>h t (.inl ht)];exact hv
 ·rw[<-jy h];exact hv
 ·rw[<-jy h];exact hv
 ·rw[<-jy h];exact hv
 ·rw[<-jy h];exact hv
 ·rw[<-jy h];exact hv
 ·rw[<-w5 h];exact hv
theorem nV {x:bU} (hq:nr x=true) {N:Env->aw->Prop} {env:Env} {σ:aw}:step X x N env σ↔∃v g',GS X σ.next x env σ.get v g'/\N (upd env x.dst v) ⟨g',σ.next⟩:=by
 unfold nr at hq;simp only[Bool.and_eq_true,Bool.not_eq_true',bne_iff_ne]at hq;obtain⟨GL,KN⟩:=hq;unfold step GS
 by_cases hw:aD x.guard env=true
 ·rw[if_pos hw];simp only[hw,if_true];unfold eU
  split
  ·rename_i fb;simp[fb,iU.oh]at GL
  ·rename_i fb;simp[fb,iU.oh]at GL
  ·rename_i fb;simp[fb,iU.cls]at KN
  ·rename_i fb;simp[fb,iU.cls]at KN
  ·rename_i fb;simp[fb,iU.cls]at KN
  ·rename_i fb;simp[fb,iU.cls]at KN
  ·rename_i fb;simp[fb,iU.cls]at KN
  ·rename_i n1 n2 n3 n4 n5 n6 n7
   have hVS:∀v g',VS X σ.next x env σ.get v g'↔∃mr,eA x.op (dq env) (fc x.hid σ.next σ.get) ⟨x.site,σ.next⟩=some (v,mr)/\g'=kI σ.get ⟨x.site,σ.next⟩ mr:=fun v g'=>by
    unfold VS
    split
    ·rename_i hh;exact(n1 _ _ hh).elim
    ·rename_i hh;exact(n2 _ _ hh).elim
    ·rename_i hh;exact(n3 _ _ _ hh).elim
    ·rename_i hh;exact(n4 _ _ _ hh).elim
    ·rename_i hh;exact(n5 _ _ _ hh).elim
    ·rename_i hh;exact(n6 _ _ hh).elim
    ·rename_i hh;exact(n7 _ _ hh).elim
    ·exact Iff.rfl
   simp only[hVS]
   cases hz:eA x.op (dq env) (fc x.hid σ.next σ.get) ⟨x.site,σ.next⟩with
   |none=>
    exact⟨fun h=>h.elim,fun⟨v,g',⟨mr,h,_⟩,_⟩=>by cases h⟩
   |some p=>
    obtain⟨v,mr⟩:=p
    have key:∀(v':AV) (g':Rows),(∃Xp,some (v,mr)=some (v',Xp)/\g'=kI σ.get ⟨x.site,σ.next⟩ Xp)↔v'=v/\g'=kI σ.get ⟨x.site,σ.next⟩ mr:=fun v' g'=>by
     constructor
     ·rintro⟨Xp,h1,h2⟩;injection h1 with h1;injection h1 with h1 h3
      subst h1;subst h3;exact⟨rfl,h2⟩
     ·rintro⟨rfl,rfl⟩;exact⟨mr,rfl,rfl⟩
    have fin:(∃v' g',(∃Xp,some (v,mr)=some (v',Xp)/\g'=kI σ.get ⟨x.site,σ.next⟩ Xp)/\N (upd env x.dst v') ⟨g',σ.next⟩)↔N (upd env x.dst v) ⟨kI σ.get ⟨x.site,σ.next⟩ mr,σ.next⟩:=by
     constructor
     ·rintro⟨v',g',h,hN⟩;obtain⟨rfl,rfl⟩:=(key v' g').1 h;exact hN
     ·intro hN;exact⟨v,_,(key _ _).2 ⟨rfl,rfl⟩,hN⟩
    cases mr with
    |none=>exact fin.symm
    |some r=>exact fin.symm
 ·rw[if_neg hw];simp only[if_neg hw];exact⟨fun h=>⟨_,_,⟨rfl,rfl⟩,h⟩,fun⟨v,g',⟨hv,hg⟩,h⟩=>by rw[hv,hg]at h;exact h⟩
def xv (x:bU) (env:Env) (v:AV):Prop:=if aD x.guard env then eA x.op (dq env) (fun _=>none) ⟨0,0⟩=some (v,none)else v=.undef
theorem zZ {x:bU} (hp:x.op.cls=.pure):nr x=true:=by
 unfold nr;rw[hp]
 cases hc:x.op<;>simp[hc,iU.cls]at hp<;>rfl
theorem xe {x:bU} (hp:x.op.cls=.pure) {N:Env->aw->Prop} {env:Env} {σ:aw}:step X x N env σ↔∃v,xv x env v/\N (upd env x.dst v) σ:=by
 rw[nV (zZ hp)];unfold GS xv
 by_cases hw:aD x.guard env=true
 ·simp only[hw,if_true]
  constructor
  ·rintro⟨v,g',h,hN⟩;obtain⟨rfl,fy⟩:=CC hp h;refine⟨v,?_,hN⟩;unfold VS at h
   split at h
   ·rename_i fb;rw[fb]at hp;simp[iU.cls]at hp
   ·rename_i fb;rw[fb]at hp;simp[iU.cls]at hp
   ·rename_i fb;rw[fb]at hp;simp[iU.cls]at hp
   ·rename_i fb;rw[fb]at hp;simp[iU.cls]at hp
   ·rename_i fb;rw[fb]at hp;simp[iU.cls]at hp
   ·rename_i fb;rw[fb]at hp;simp[iU.cls]at hp
   ·rename_i fb;rw[fb]at hp;simp[iU.cls]at hp
   ·obtain⟨mr,hq,_⟩:=h
    have hmr:mr=none:=by
     cases mr with
     |none=>rfl
     |some r=>have:=z8 hq;simp[tN,hp]at this
    subst hmr;rw[<-Aa (g:=fc x.hid σ.next σ.get) (id:=⟨x.site,σ.next⟩) hp];exact hq
  ·rintro⟨v,h,hN⟩;exact⟨v,σ.get,TR (mr:=none) (by rw[Aa (g2:=fun _=>none) (id2:=⟨0,0⟩) hp];exact h),hN⟩
 ·simp only[if_neg hw];exact⟨fun⟨v,g',⟨hv,hg⟩,h⟩=>⟨v,hv,by rw[hg]at h;exact h⟩,fun⟨v,hv,h⟩=>⟨v,σ.get,⟨hv,rfl⟩,h⟩⟩
theorem PA {x:bU} {env kd:Env} {v:AV} (h:∀t∈x.ji,env t=kd t) (hv:xv x env v):xv x kd v:=by
 unfold xv at hv ⊢;rw[<-pQ h,<-w5 fun t ht=>h t (vL ht)];exact hv
structure Sr (x y:bU):Prop where
 xy:∀k,x.dst=some k->k∉y.ji
 yx:∀k,y.dst=some k->k∉x.ji
 dst:∀k,x.dst=some k->y.dst≠some k
theorem vP {x y:bU} (h:xh x y=true):Sr x y:=by
 unfold xh at h;simp only[Bool.and_eq_true]at h;obtain⟨a1,a2⟩:=h;refine⟨fun k hk=>?_,fun k hk=>?_,fun k hk=>?_⟩
 ·rw[hk]at a1;simp at a1;exact a1.1
 ·rw[hk]at a2;simpa using a2
 ·rw[hk]at a1;simp at a1;exact a1.2
theorem BD {x y:bU} (h:BC x y=true):(Sr x y/\x.op.cls=.pure)∨(GY x y/\nr x=true/\nr y=true):=by
 unfold BC at h;simp only[Bool.or_eq_true,Bool.and_eq_true,beq_iff_eq]at h
 rcases h with⟨h1,h2⟩|⟨⟨h1,h2⟩,h3⟩
 ·exact .inl ⟨vP h1,h2⟩
 ·exact .inr ⟨tA h1,h2,h3⟩
theorem E8 {x y:bU} (h:BC x y=true):nr x=true:=by
 rcases BD h with h|h
 ·exact zZ h.2
 ·exact h.2.1
theorem LI (hK:sU X) {x y:bU} (hf:BC x y=true) {N:Env->aw->Prop} {env:Env} {σ:aw} (h:step X x (fun e s=>step X y N e s) env σ):step X y (fun e s=>step X x N e s) env σ:=by
 rcases BD hf with⟨F,hp⟩|⟨F,hx,hy⟩
 ·rw[xe hp]at h;obtain⟨v,hx,h⟩:=h;have NU:=fun(v':AV)=>Ax (env:=env) (v:=v) (u:=v') F.dst;have nI:=oV (env:=env) (v:=v) F.xy;have back:∀(v':AV),xv x (upd env y.dst v') v:=fun v'=>PA (fun t ht=>(oV F.yx t ht).symm) hx;unfold step at h ⊢;rw[pQ nI]at h
  split at h
  ·rename_i hw;rw[if_pos hw];refine Gu hK (fun v' σ' hN=>?_) (LS (fun t ht=>nI t (vL ht)) h);rw[NU]at hN;exact(xe hp).2 ⟨v,back v',hN⟩
  ·rename_i hw;rw[if_neg hw];rw[NU]at h;exact(xe hp).2 ⟨v,back _,h⟩
 ·rw[nV hx]at h;obtain⟨v,g1,h1,h⟩:=h;rw[nV hy]at h;obtain⟨v',g2,h2,h⟩:=h;obtain⟨PQ,q1,q2,q3⟩:=IF F h1 h2;rw[q3]at h;exact(nV hy).2 ⟨v',PQ,q1,(nV hx).2 ⟨v,g2,q2,h⟩⟩
def D5 (X:gO) (ops:Array Oper) (vl:List bU) (K:Env->aw->Prop):Nat->Array Bool->Env->aw->Prop
 |0,listed,env,σ=>Region.ready .any ops listed=[]/\K env ⟨σ.get,σ.next+1⟩
 |f+1,listed,env,σ=>(Region.ready .any ops listed=[]->K env ⟨σ.get,σ.next+1⟩)/\∀i∈Region.ready .any ops listed,∃vo,vl[i]? =some vo/\step X vo (fun e s=>D5 X ops vl K f (listed.setIfInBounds i true) e s) env σ
theorem Hr {ops:Array Oper} {vl:List bU} {bs:Array Nat} {listed:Array Bool} {i:Nat} (h:tz ops vl bs listed i=true) (j:Nat):tz ops vl bs (listed.setIfInBounds j true) i=true:=by
 unfold tz at h ⊢
 split at h
 ·rename_i x hx;simp only[List.all_eq_true,Bool.or_eq_true]at h ⊢;intro k hk
  rcases h k hk with((h|h)|h)|h
  ·exact .inl (.inl (.inl (getD_set_true h)))
  ·exact .inl (.inl (.inr h))
  ·exact .inl (.inr h)
  ·exact .inr h
 ·cases h
theorem xr {ops:Array Oper} {vl:List bU} {listed:Array Bool} {i j:Nat} {vi:bU} (x8:DC ops listed) (h:tz ops vl (kF ops) listed i=true) (hi:vl[i]? =some vi) (hr:i∈Region.ready .any ops listed) (hj:j∈Region.ready .any ops listed) (ox:j≠i):∃vj,vl[j]? =some vj/\BC vi vj=true:=by
 unfold tz at h;rw[hi]at h;simp only[List.all_eq_true,Bool.or_eq_true,beq_iff_eq]at h;obtain⟨_,o,ho,_⟩:=mem_ready.1 hj
 rcases h j (List.mem_range.2 (Array.getElem?_eq_some_iff.1 ho).1)with((h|h)|h)|h
 ·rw[kq hj]at h;cases h
 ·exact absurd h ox
 ·have:=ns x8 hj i h;rw[kq hr]at this;cases this
 ·split at h
  ·rename_i y hy;exact⟨y,hy,h⟩
  ·cases h
theorem Iy (hK:sU X) {ops:Array Oper} {vl:List bU} {K:Env->aw->Prop} {i:Nat} {vi:bU} (hi:vl[i]? =some vi):∀(fuel:Nat) (listed:Array Bool) (env:Env) (σ:aw),
  DC ops listed->i∈Region.ready .any ops listed->tz ops vl (kF ops) listed i=true->step X vi (fun e s=>D5 X ops vl K fuel (listed.setIfInBounds i true) e s) env σ->D5 X ops vl K (fuel+1) listed env σ:=by
 intro fuel
 induction fuel with
 |zero=>
  intro listed env σ x8 hr gQ H;refine⟨fun h=>(by rw[h]at hr;cases hr),fun j hj=>?_⟩
  by_cases ox:j=i
  ·subst ox;exact⟨vi,hi,H⟩
  ·obtain⟨vj,Q5,Yn⟩:=xr x8 gQ hi hr hj ox;rw[nV (E8 Yn)]at H;obtain⟨v,g',_,H⟩:=H;have:=ready_mono hj ox;rw[H.1]at this;cases this
 |succ fuel ih=>
  intro listed env σ x8 hr gQ H;refine⟨fun h=>(by rw[h]at hr;cases hr),fun j hj=>?_⟩
  by_cases ox:j=i
  ·subst ox;exact⟨vi,hi,H⟩
  ·obtain⟨vj,Q5,Yn⟩:=xr x8 gQ hi hr hj ox;refine⟨vj,Q5,?_⟩
   have H2:step X vi (fun e s=>step X vj (fun e s=>D5 X ops vl K fuel ((listed.setIfInBounds i true).setIfInBounds j true) e s) e s) env σ:=lE hK (fun e s h=>by
    obtain⟨vj',Dl,h'⟩:=h.2 j (ready_mono hj ox);rw[Q5]at Dl;injection Dl with Dl;subst Dl
    exact h') H
   refine lE hK (fun e s h=>?_) (LI hK Yn H2);refine ih _ _ _ (x8.list hj) (ready_mono hr (fun e=>ox e.symm)) (Hr gQ j) ?_;rw[Array.setIfInBounds_comm _ _ ox];exact h
theorem xc {x:bU} (hg:x.guard=none) {N:Env->aw->Prop} {env:Env} {σ:aw}:step X x N env σ=eU X false x env σ (fun v σ'=>N (upd env x.dst v) σ'):=by
 unfold step;rw[hg];simp[aD]
theorem Ir {x y:bU} {t s sz:Nat} {ys:O} (hx:x.op=.append sz (.t t) ys) (hg:x.guard=none) (hf:I7 s x y=true) {N:Env->aw->Prop} {env:Env} {σ:aw} (hl:Rl t s ys env σ.next) (h:step X x (fun e s=>step X y N e s) env σ):
  step X y (fun e σ'=>Rl t s ys e σ'.next/\step X x N e σ') env σ:=by
 unfold I7 at hf;simp only[Bool.and_eq_true,bne_iff_ne]at hf;obtain⟨⟨⟨⟨⟨f1,hq⟩,f3⟩,f4⟩,f5⟩,f6⟩:=hf;have F:=vP f1;obtain⟨⟨len,ht⟩,hsrc⟩:=hl;have NR:∀k∈x.op.ji,∀v',upd env y.dst v' k=env k:=fun k hk v'=>oV (env:=env) (v:=v') F.yx k (vL hk);have ez:t∈x.op.ji:=by rw[hx];simp[iU.ji,jq]
 have GP:∀v',dq (upd env y.dst v') ys=dq env ys:=fun v'=>(cY fun k hk=>by rw[NR k (by rw[hx];simp[iU.ji,hk])]).symm;rw[xc hg]at h;unfold eU at h;simp only[hx,fh]at h;have ex:dq env (.t t)=.own ⟨s,σ.next⟩ 0 len:=ht;rw[ex]at h
 cases hr:bd σ.get (dq env ys)with
 |none=>rw[hr]at h;exact h.elim
 |some rs=>
  rw[hr]at h;simp only[Option.bind_some,aP]at h
  cases W8:σ.get ⟨s,σ.next⟩with
  |none=>rw[W8]at h;exact h.elim
  |some r=>
   rw[W8]at h;simp only[Option.bind_some]at h
   split at h
   ·rename_i v g1 hv
    split at hv
    ·rename_i hcond;simp only[Option.some.injEq,Prod.mk.injEq]at hv;obtain⟨rfl,rfl⟩:=hv;rw[nV hq]at h;obtain⟨v',g2,hG,hN⟩:=h;have Fs:(⟨y.site,σ.next⟩:Id)≠⟨s,σ.next⟩:=fun e=>f5 (by injection e);have hne2:(⟨y.site,σ.next⟩:Id)≠⟨x.site,σ.next⟩:=fun e=>f6 (by injection e);replace hG:GS X σ.next y env (bJ (bQ σ.get ⟨s,σ.next⟩) ⟨x.site,σ.next⟩ ⟨true,sz,r.rows++rs⟩) v' g2:=yJ (oV F.xy) hG
     have hvis:fc y.hid σ.next σ.get=fc y.hid σ.next (bJ (bQ σ.get ⟨s,σ.next⟩) ⟨x.site,σ.next⟩ ⟨true,sz,r.rows++rs⟩):=by
      cases hh:y.hid with
      |nil=>rw[hh]at f3;simp at f3
      |cons a l=>
       rw[hh]at f3 f4
       funext i
       show(if (a::l).contains i.site=true/\i.bH=σ.next then none else σ.get i)=if (a::l).contains i.site=true/\i.bH=σ.next then none else _
       by_cases h1:i=⟨x.site,σ.next⟩
       ·subst h1;rw[if_pos ⟨f4,rfl⟩,if_pos ⟨f4,rfl⟩]
       ·by_cases h2:i=⟨s,σ.next⟩
        ·subst h2;rw[if_pos ⟨f3,rfl⟩,if_pos ⟨f3,rfl⟩]
        ·simp only[bJ,bQ,if_neg h1,if_neg h2]
     obtain⟨my,hg2,hG'⟩:∃my,g2=kI (bJ (bQ σ.get ⟨s,σ.next⟩) ⟨x.site,σ.next⟩ ⟨true,sz,r.rows++rs⟩) ⟨y.site,σ.next⟩ my/\GS X σ.next y env σ.get v' (kI σ.get ⟨y.site,σ.next⟩ my):=by
      unfold GS at hG ⊢
      by_cases wy:aD y.guard env=true
      ·rw[if_pos wy]at hG
       have hcw:y.op.cls≠.write:=by
        unfold nr at hq;simp only[Bool.and_eq_true,bne_iff_ne]at hq;exact hq.2
       obtain⟨my,rfl,_,TZ⟩:=yP hcw hG;exact⟨my,rfl,by rw[if_pos wy];exact TZ _ hvis⟩
      ·rw[if_neg wy]at hG;obtain⟨rfl,rfl⟩:=hG;exact⟨none,rfl,by rw[if_neg wy];exact⟨rfl,rfl⟩⟩
     subst hg2;refine(nV hq).2 ⟨v',_,hG',⟨⟨len,by rw[NR t ez];exact ht⟩,fun id o l he=>hsrc id o l (by rw[<-GP v'];exact he)⟩,?_⟩;rw[xc hg];unfold eU
     have ex':dq (upd env y.dst v') (.t t)=.own ⟨s,σ.next⟩ 0 len:=by
      show upd env y.dst v' t= _;rw[NR t ez];exact ht
     simp only[hx,fh,ex',GP v']
     have qz:bd (kI σ.get ⟨y.site,σ.next⟩ my) (dq env ys)=some rs:=by
      cases my with
      |none=>exact hr
      |some row=>
       revert hr
       cases hev:dq env ys<;>simp only[bd,kI]<;>try exact fun h=>h
       rename_i id o l;have:id≠⟨y.site,σ.next⟩:=fun e=>hsrc id o l hev (by rw[e]);simp only[bJ,if_neg this];exact fun h=>h
     have hgs':kI σ.get ⟨y.site,σ.next⟩ my ⟨s,σ.next⟩=some r:=by
      cases my with
      |none=>exact W8
      |some row=>simp only[kI,bJ,if_neg (fun e=>Fs e.symm:(⟨s,σ.next⟩:Id)≠⟨y.site,σ.next⟩)];exact W8
     rw[qz];simp only[Option.bind_some,aP,hgs'];rw[if_pos hcond]
     have Yu:bJ (bQ (kI σ.get ⟨y.site,σ.next⟩ my) ⟨s,σ.next⟩) ⟨x.site,σ.next⟩ ⟨true,sz,r.rows++rs⟩=kI (bJ (bQ σ.get ⟨s,σ.next⟩) ⟨x.site,σ.next⟩ ⟨true,sz,r.rows++rs⟩) ⟨y.site,σ.next⟩ my:=by
      cases my with
      |none=>rfl
      |some row=>
       funext i
       simp only[kI,bJ,bQ]
       by_cases h1:i=⟨y.site,σ.next⟩
       ·subst h1;rw[if_neg hne2,if_neg Fs,if_pos rfl,if_pos rfl]
       ·simp only[if_neg h1]
     have hu:=Ax (env:=env) (v:=AV.own ⟨x.site,σ.next⟩ 0 (len+rs.length)) (u:=v') F.dst;show N (upd (upd env y.dst v') x.dst (.own ⟨x.site,σ.next⟩ 0 (len+rs.length))) ⟨bJ (bQ (kI σ.get ⟨y.site,σ.next⟩ my) ⟨s,σ.next⟩) ⟨x.site,σ.next⟩ ⟨true,sz,r.rows++rs⟩,σ.next⟩;rw[Yu,<-hu];exact hN
    ·cases hv
   ·exact h.elim
theorem Hq {ops:Array Oper} {vl:List bU} {bs:Array Nat} {listed:Array Bool} {i s:Nat} (h:qO ops vl bs listed i s=true) (j:Nat):qO ops vl bs (listed.setIfInBounds j true) i s=true:=by
 unfold qO at h ⊢
 split at h
 ·rename_i x hx;simp only[List.all_eq_true,Bool.or_eq_true]at h ⊢;intro k hk
  rcases h k hk with((h|h)|h)|h
  ·exact .inl (.inl (.inl (getD_set_true h)))
  ·exact .inl (.inl (.inr h))
  ·exact .inl (.inr h)
  ·exact .inr h
 ·cases h
theorem E4 {ops:Array Oper} {vl:List bU} {listed:Array Bool} {i j s:Nat} {vi:bU} (x8:DC ops listed) (h:qO ops vl (kF ops) listed i s=true) (hi:vl[i]? =some vi) (hr:i∈Region.ready .any ops listed) (hj:j∈Region.ready .any ops listed) (ox:j≠i):∃vj,vl[j]? =some vj/\I7 s vi vj=true:=by
 unfold qO at h;rw[hi]at h;simp only[List.all_eq_true,Bool.or_eq_true,beq_iff_eq]at h;obtain⟨_,o,ho,_⟩:=mem_ready.1 hj
 rcases h j (List.mem_range.2 (Array.getElem?_eq_some_iff.1 ho).1)with((h|h)|h)|h
 ·rw[kq hj]at h;cases h
 ·exact absurd h ox
 ·have:=ns x8 hj i h;rw[kq hr]at this;cases this
 ·split at h
  ·rename_i y hy;exact⟨y,hy,h⟩
  ·cases h
theorem Gv (hK:sU X) {ops:Array Oper} {vl:List bU} {K:Env->aw->Prop} {i t s sz:Nat} {ys:O} {vi:bU} (hi:vl[i]? =some vi) (hx:vi.op=.append sz (.t t) ys) (hg:vi.guard=none):∀(fuel:Nat) (listed:Array Bool) (env:Env) (σ:aw),
  DC ops listed->i∈Region.ready .any ops listed->qO ops vl (kF ops) listed i s=true->Rl t s ys env σ.next->step X vi (fun e s=>D5 X ops vl K fuel (listed.setIfInBounds i true) e s) env σ->D5 X ops vl K (fuel+1) listed env σ:=by
 intro fuel
 induction fuel with
 |zero=>
  intro listed env σ x8 hr gQ Xd H;refine⟨fun h=>(by rw[h]at hr;cases hr),fun j hj=>?_⟩
  by_cases ox:j=i
  ·subst ox;exact⟨vi,hi,H⟩
  ·exfalso;have h0:=ready_mono hj ox;rw[xc hg]at H;unfold eU at H;simp only[hx]at H
   split at H
   ·rw[H.1]at h0;cases h0
   ·exact H
 |succ fuel ih=>
  intro listed env σ x8 hr gQ Xd H;refine⟨fun h=>(by rw[h]at hr;cases hr),fun j hj=>?_⟩
  by_cases ox:j=i
  ·subst ox;exact⟨vi,hi,H⟩
  ·obtain⟨vj,Q5,Yn⟩:=E4 x8 gQ hi hr hj ox;refine⟨vj,Q5,?_⟩
   have H2:step X vi (fun e s=>step X vj (fun e s=>D5 X ops vl K fuel ((listed.setIfInBounds i true).setIfInBounds j true) e s) e s) env σ:=lE hK (fun e s h=>by
    obtain⟨vj',Dl,h'⟩:=h.2 j (ready_mono hj ox);rw[Q5]at Dl;injection Dl with Dl;subst Dl
    exact h') H
   refine lE hK (fun e s h=>?_) (Ir hx hg Yn Xd H2);refine ih _ _ _ (x8.list hj) (ready_mono hr (fun e=>ox e.symm)) (Hq gQ j) h.1 ?_;rw[Array.setIfInBounds_comm _ _ ox];exact h.2
theorem Ol {ops:Array Oper} {vl:List bU} {bs:Array Nat} {listed:Array Bool} {i i' t s:Nat} {y:O} {vo:bU} (h:Vk ops vl bs listed i=some (i',t,s,y,vo)):i'=i/\vl[i]? =some vo/\(∃sz,vo.op=.append sz (.t t) y)/\vo.guard=none/\qO ops vl bs listed i s=true:=by
 unfold Vk at h
 split at h
 ·rename_i x hx
  split at h
  ·rename_i t' s' y' lp
   split at h
   ·rename_i hf;simp only[Option.some.injEq,Prod.mk.injEq]at h;obtain⟨rfl,rfl,rfl,rfl,rfl⟩:=h;unfold Ti at lp
    split at lp
    ·rename_i sz t2 y2 ho rX
     split at lp
     ·simp only[Option.some.injEq,Prod.mk.injEq]at lp;obtain⟨rfl,rfl,rfl⟩:=lp;exact⟨rfl,hx,⟨sz,ho⟩,rX,hf⟩
     ·cases lp
    ·cases lp
   ·cases h
  ·cases h
 ·cases h
theorem Br {X:gO} {Q:Ex->Env->aw->Prop} {env:Env} {σ:aw}:∀{l:List VC} {t:VC},EK l=some t->dY X t Q env σ->∀c∈l,dY X c Q env σ
 |[],t,h,_,c,hc=>by cases hc
 |[c0],t,h,hw,c,hc=>by
  simp only[EK,Option.some.injEq]at h;subst h;rw[List.mem_singleton]at hc;subst hc;exact hw
 |c0::c1::r,t,h,hw,c,hc=>by
  simp only[EK,Option.map_eq_some_iff]at h;obtain⟨t',Vb,rfl⟩:=h
  rcases List.mem_cons.1 hc with rfl|hc
  ·exact hw.1
  ·exact Br Vb hw.2 c hc
theorem mapM_mem {α β:Type} {f:α->Option β}:∀{l:List α} {r:List β},l.mapM f=some r->∀i∈l,∃b∈r,f i=some b
 |[],_,_,i,hi=>by cases hi
 |a::l,r,h,i,hi=>by
  simp only[List.mapM_cons,Option.bind_eq_bind,Option.bind_eq_some_iff,Option.pure_def,Option.some.injEq]at h;obtain⟨b,hb,r',hr,rfl⟩:=h
  rcases List.mem_cons.1 hi with rfl|hi
  ·exact⟨b,by simp,hb⟩
  ·obtain⟨c,hc,hf⟩:=mapM_mem hr i hi;exact⟨c,List.mem_cons_of_mem _ hc,hf⟩
theorem LM (hK:sU X) {ops:Array Oper} {vl:List bU} {Q:Ex->Env->aw->Prop}:∀(n:Nat) (listed:Array Bool) (t:VC) (env:Env) (σ:aw),xO ops vl (kF ops) n listed=some t->DC ops listed->dY X t Q env σ->D5 X ops vl (Q .normal) n listed env σ:=by
 intro n
 induction n with
 |zero=>
  intro listed t env σ h _ hw;unfold xO at h
  split at h
  ·rename_i hr;simp only[Option.some.injEq]at h;subst h;exact⟨hr,hw⟩
  ·cases h
 |succ n ih=>
  intro listed t env σ h x8 hw;unfold xO at h
  split at h
  ·rename_i hr;simp only[Option.some.injEq]at h;subst h;exact⟨fun _=>hw,fun i hi=>by rw[hr]at hi;cases hi⟩
  ·rename_i r rs hr;dsimp only at h
   split at h
   ·rename_i i hfind;have hi1:=List.mem_of_find?_eq_some hfind;have wh:=List.find?_some hfind;rw[<-hr]at hi1
    split at h
    ·rename_i vo ml;simp only[Option.map_eq_some_iff]at h;obtain⟨t',Vb,rfl⟩:=h;exact Iy hK ml n listed env σ x8 hi1 wh (lE hK (fun e s h=>ih _ _ _ _ Vb (x8.list hi1) h) hw)
    ·cases h
   ·split at h
    ·rename_i i t s y vo hfind;obtain⟨i0,Me,eG⟩:=List.exists_of_findSome?_eq_some hfind;obtain⟨rfl,ml,⟨sz,fb⟩,rX,GH⟩:=Ol eG;rw[<-hr]at Me;simp only[Option.map_eq_some_iff]at h;obtain⟨t',Vb,rfl⟩:=h;exact Gv hK ml fb rX n listed env σ x8 Me GH hw.1 (lE hK (fun e s h=>ih _ _ _ _ Vb (x8.list Me) h) hw.2)
    split at h
    ·rename_i l hl;have fy:=Br h hw;refine⟨fun h=>(by rw[h]at hr;cases hr),fun i hi=>?_⟩;rw[hr]at hi;obtain⟨b,UK,HG⟩:=mapM_mem hl i hi;simp only[Option.bind_eq_some_iff,Option.map_eq_some_iff]at HG;obtain⟨vo,ml,t',Vb,rfl⟩:=HG;exact⟨vo,ml,lE hK (fun e s h=>ih _ _ _ _ Vb (x8.list (by rw[hr];exact hi)) h) (fy _ UK)⟩
    ·cases h
theorem Iv {ops:Array Oper} {vl:List bU} {nt site0:Nat} {draw mk:Bool} {bs:Array Nat} {hidden:List (Nat×Bool)} {K:Env->aw->Prop} {Q:Exit->Act->World->Prop} (fy:allM (mM P ops nt site0 draw mk bs hidden) ops.toList 0=some vl):
  ∀(fuel:Nat) (listed:Array Bool) (env:Env) (σ:aw) (a:Act) (w:World) (D:Nat->Prop) (ι:Names) (U:Nat->Prop),D5 (Sound P) ops vl K fuel listed env σ->iE P hs D ι σ.get w->Used ι σ.next U->(∀s,U s->∃i,s=site0+i/\listed.getD i false=true)->dR P w D ι env a->a.tmps.size=nt->
  (∀jY σ' a' w' D' ι',K jY σ'->Step hs D ι w D' ι' w'->St P hs nt D' ι' jY σ' a' w'->a'.defers=a.defers->σ.next<=σ'.next->Q .normal a' w')->wpAny P .any ops Q fuel listed a w:=by
 intro fuel
 induction fuel with
 |zero=>intro listed env σ a w D ι U h S Us hU E eT hQ;exact⟨h.1,hQ env _ a w D ι h.2 (Step.refl _ _ _ _) ⟨S,Us.next,E,eT⟩ rfl (Nat.le_succ _)⟩
 |succ fuel ih=>
  intro listed env σ a w D ι U h S Us hU E eT hQ;refine⟨fun hr=>hQ env _ a w D ι (h.1 hr) (Step.refl _ _ _ _) ⟨S,Us.next,E,eT⟩ rfl (Nat.le_succ _),fun i hi=>?_⟩;obtain⟨vo,ml,hG⟩:=h.2 i hi;obtain⟨_,o,ho,_⟩:=mem_ready.1 hi;obtain⟨vo',Dm,Yf⟩:=(qF fy).2 i o (by simpa using ho);rw[ml]at Dm;injection Dm with Dm;subst Dm
  rw[Nat.zero_add]at Yf;obtain⟨hc,hd,Fx,AQ,hg⟩:=rP Yf;have hw:=xj (ops:=ops) (vo:=vo) E hg
  have hUi:¬U vo.site:=fun hu=>by
   obtain⟨i',he,hl⟩:=hU _ hu;have:i'=i:=ae;subst this;rw[kq hi]at hl;cases hl
  have lf:i<listed.size:=by
   have h0:=(mem_ready.1 hi).1
   rcases Nat.lt_or_ge i listed.size with h|h
   ·exact h
   ·simp[Array.getElem?_eq_none h]at h0
  unfold wpOp;simp only[ho];rw[<-hw];unfold step at hG
  by_cases KS:aD vo.guard env=true
  ·rw[if_pos KS];rw[if_pos KS]at hG;refine .inl (Ct hc hG S Us hUi E fun v σ' u D' ι' w' hn T S' hR U' hle=>?_);refine ih _ _ _ _ w' D' ι' _ hn S' U' (fun s Fv=>?_) (by rw[hd];exact jO (qM E T) hR AQ eT) (by rw[gn];exact eT) fun jY σ2 a2 w2 D2 ι2 hk T2 U9 HH qV=>hQ jY σ2 a2 w2 D2 ι2 hk (T.trans T2) U9 (HH.trans (put_defers _ _ _)) (Nat.le_trans hle qV)
   rcases Fv with h|h
   ·obtain⟨i',he,hl⟩:=hU _ h;exact⟨i',he,getD_set_true hl⟩
   ·exact⟨i,by rw[h,Fx],by simp[lf]⟩
  ·rw[if_neg KS];rw[if_neg KS]at hG;refine ih _ _ _ _ w D ι U hG S Us (fun s Fv=>?_) (by rw[hd];exact jO E dX.undef AQ eT) (by rw[gn];exact eT) fun jY σ2 a2 w2 D2 ι2 hk T2 U9 HH qV=>hQ jY σ2 a2 w2 D2 ι2 hk T2 U9 (HH.trans (put_defers _ _ _)) qV;obtain⟨i',he,hl⟩:=hU _ Fv;exact⟨i',he,getD_set_true hl⟩
end
end V

namespace V
open Go.RowKit
variable {P:Program} {w w':World} {D D' D2:Nat->Prop} {ι ι' ι2:Names}
def Bh (P:Program) (c:Code) (Q:Exit->Act->World->Prop) (a:Act) (w:World):Prop:=
 ∀(b:Frame) (k:List Item) (cs:List Frame),b.kind≠.early->∃e a' w',Q e a' w'/\Arrives P (lone (b.at a (.code c::k)) cs w) b k cs e a' w'
section
variable {Q:Exit->Act->World->Prop} {a:Act}
theorem lC {c:Code} (h:c.wp P Q a w):Bh P c Q a w:=fun b k cs _=>h b k cs
theorem nS {x y:Code} (h:Bh P x (Exit.then (Bh P y Q) Q) a w):Bh P (.seq x y) Q a w:=by
 intro b k cs hb;obtain⟨e,a1,w1,hq,jZ⟩:=h b (.code y::k) cs hb
 by_cases he:e=.normal
 ·subst he;obtain⟨e2,a2,w2,KN,Nv⟩:=hq b k cs hb;exact⟨e2,a2,w2,KN,.of_steps (.head step_seq jZ) Nv⟩
 ·refine⟨e,a1,w1,?_,.of_steps (.one step_seq) (.pass (x:=.code y) rfl (fun _ _=>.inl he) jZ)⟩
  cases e<;>first|exact absurd rfl he|exact hq
theorem zQ {c:Operand} {x y:Code} {t:Bool} (hc:a.eval c=.bool t) (h:Bh P (if t then x else y) Q a w):Bh P (.cond c x y) Q a w:=
 fun b k cs hb=>let ⟨e,a',w',q,r⟩:=h b k cs hb;⟨e,a',w',q,.of_steps (.one (step_cond hc)) r⟩
theorem wV {id:Nat} {c:Code} (h:Bh P c (Exit.inBlock id Q) a w):Bh P (.block id c) Q a w:=by
 intro b k cs hb;obtain⟨e,a1,w1,hq,jZ⟩:=h b (.inBlock id::k) cs hb
 cases e with
 |normal=>exact⟨.normal,a1,w1,hq,.head step_block (Steps.trans jZ (.one step_inBlock))⟩
 |exit lP=>
  by_cases hid:lP=id
  ·simp only[Exit.inBlock,hid,if_true]at hq;exact⟨.normal,a1,w1,hq,.head step_block (jZ k (by simp[exitTo,hid]))⟩
  ·simp only[Exit.inBlock,hid,if_false]at hq;exact⟨.exit lP,a1,w1,hq,fun k' hk=>.head step_block (jZ k' (by simp[exitTo,Ne.symm hid,hk]))⟩
 |goto l=>exact⟨_,a1,w1,hq,fun k' hk=>.head step_block (jZ k' (by simp[gotoIn,hk]))⟩
 |ret=>exact⟨_,a1,w1,hq,.of_steps (.one step_block) jZ⟩
 |panic ch=>exact⟨_,a1,w1,hq,.of_steps (.one step_block) jZ⟩
 |outgrown=>exact⟨_,a1,w1,hq,.of_steps (b:=b) (k:=k) (cs:=cs) (e:=.outgrown) (.one step_block) jZ⟩
theorem Ls {c:Code} (h:Bh P c (Exit.noGoto Q) a w):Bh P (.scope c) Q a w:=by
 intro b k cs hb;obtain⟨e,a1,w1,hq,jZ⟩:=h b (.inScope c::k) cs hb
 cases e with
 |normal=>exact⟨.normal,a1,w1,hq,.head step_scope (Steps.trans jZ (.one step_inScope))⟩
 |exit id=>exact⟨.exit id,a1,w1,hq,fun k' hk=>.head step_scope (jZ k' (by simp[exitTo,hk]))⟩
 |goto l=>exact hq.elim
 |ret=>exact⟨_,a1,w1,hq,.of_steps (.one step_scope) jZ⟩
 |panic ch=>exact⟨_,a1,w1,hq,.of_steps (.one step_scope) jZ⟩
 |outgrown=>exact⟨_,a1,w1,hq,.of_steps (b:=b) (k:=k) (cs:=cs) (e:=.outgrown) (.one step_scope) jZ⟩
def si (P:Program) (c:Code) (Q:Exit->Act->World->Prop):Nat->Act->World->Prop
 |0=>fun _ _=>False
 |n+1=>Bh P c (Exit.then (si P c Q n) Q)
theorem F8 {c:Code} (n:Nat) (h:si P c Q n a w):Bh P (.loop c) Q a w:=by
 intro b k cs hb
 have key:∀n a w,si P c Q n a w->∃e a' w',Q e a' w'/\Arrives P (lone (b.at a (.code c::.inLoop c::k)) cs w) b k cs e a' w':=by
  intro n
  induction n with
  |zero=>intro a w h;exact h.elim
  |succ n ih=>
   intro a w h;obtain⟨e,a1,w1,hq,jZ⟩:=h b (.inLoop c::k) cs hb
   by_cases he:e=.normal
   ·subst he;obtain⟨e2,a2,w2,KN,Nv⟩:=ih a1 w1 hq;exact⟨e2,a2,w2,KN,.of_steps (Steps.trans jZ (.one step_inLoop)) Nv⟩
   ·refine⟨e,a1,w1,?_,.pass (x:=.inLoop c) rfl (fun _ _=>.inl he) jZ⟩
    cases e<;>first|exact absurd rfl he|exact hq
 obtain⟨e,a',w',hq,jZ⟩:=key n a w h;exact⟨e,a',w',hq,.of_steps (.one step_loop) jZ⟩
theorem CO {f:FuncId} {fn:Func} {c:Code} {args:Array Value} {R:Ending->World->Prop} (hf:P.funcs[f]? =some fn) (hb:fn.body=some c)
  (h:Bh P c (bodyPost P fn R) {tmps:=args++Array.replicate (fn.ntmps-args.size) undef,defers:=[]} w):Calls P f args w R:=by
 intro cs;have UP:Frame.enter P f args .normal=({(default:Frame)with fn:=f,kind:=.normal}:Frame).at {tmps:=args++Array.replicate (fn.ntmps-args.size) undef,defers:=[]} [.code c]:=by simp[Frame.enter,Frame.at,hf,hb]
 obtain⟨e,a',w',hq,jZ⟩:=h {(default:Frame)with fn:=f,kind:=.normal} [] cs (by simp);rw[<-UP]at jZ
 cases e with
 |normal=>obtain⟨hd,v,hr,hR⟩:=hq;exact⟨.returned v,w',_,hR,Steps.trans jZ (.one step_end),rfl,rfl,hd,rfl,fn,hf,hr⟩
 |ret=>obtain⟨hd,v,hr,hR⟩:=hq;obtain⟨todo,hs⟩:=jZ;exact⟨.returned v,w',_,hR,hs,rfl,rfl,hd,rfl,fn,hf,hr⟩
 |panic chain=>obtain⟨hd,hR⟩:=hq;obtain⟨todo,hs⟩:=jZ;exact⟨.panicked chain,w',_,hR,hs,rfl,rfl,hd,fn,hf⟩
 |exit id=>exact hq.elim
 |goto l=>exact hq.elim
 |outgrown=>exact⟨.outgrown,w',{(default:Frame)with fn:=f,kind:=.normal},hq,jZ.resolve_left (by simp),rfl,trivial⟩
def AF (P:Program) (ops:Array Oper) (Q:Exit->Act->World->Prop) (l:List Nat) (a:Act) (w:World):Prop:=
 ∀(b:Frame) (k:List Item) (cs:List Frame),b.kind≠.early->∃e a' w',Q e a' w'/\Arrives P (lone (b.at a (.inRegion ops l::k)) cs w) b k cs e a' w'
theorem H4 {id:Nat} {ops:Array Oper} (h:AF P ops Q (List.range ops.size) a w):Bh P (.region id ops false) Q a w:=
 fun b k cs hb=>let ⟨e,a',w',q,r⟩:=h b k cs hb;⟨e,a',w',q,.of_steps (.one step_region) r⟩
theorem Vu {ops:Array Oper} (h:Q .normal a w):AF P ops Q [] a w:=fun _ _ _ _=>⟨.normal,a,w,h,.one step_region_end⟩
theorem rI {o:Oper} {ys:Nat->Option Bool} (h:o.guard=none):Region.wanted o ys=true:=by simp[Region.wanted,h]
theorem OF {ops:Array Oper} {i:Nat} {rest:List Nat} {o:Oper} {v:Value} (ho:ops[i]? =some o) (hg:o.guard=none) (hr:(execOp a.eval o).run P w=.ok (.value v) w') (h:AF P ops Q rest (a.put o.dst v) w'):AF P ops Q (i::rest) a w:=by
 intro b k cs hb;obtain⟨e,a',w2,hq,jZ⟩:=h b k cs hb;refine⟨e,a',w2,hq,.of_steps (.one ?_) jZ⟩;have Nz:(b.at a (.inRegion ops (i::rest)::k)).finish v=b.at (a.put o.dst v) (.inRegion ops rest::k):=by rw[Frame.finish_at,ho];rfl
 rw[<-Nz];refine step_lone_go ?_;have h2:=stepG_op (P:=P) (b:=b) (k:=k) (cs:=cs) (w:=w) (rest:=rest) ho (rI hg (ys:=yielded ops a.tmps));rw[h2];simp[stepG.apply,hr]
theorem RD {ops:Array Oper} {i:Nat} {rest:List Nat} {o:Oper} {v z:Value} {c cap s r:Nat} {buf:Array Value} (ho:ops[i]? =some o) (hg:o.guard=none) (hr:(execOp a.eval o).run P w=.ok (.comm #[Conc.scase c v z] true .send) w)
  (hc:w.heap[c]? =some (.chan cap buf false s r false)) (mj:buf.size<cap) (h:AF P ops Q rest (a.put o.dst undef) (w.setChan c cap (buf.push v) false (s+1) r false)):AF P ops Q (i::rest) a w:=by
 intro b k cs hb;obtain⟨e,a',w2,hq,jZ⟩:=h b k cs hb;refine⟨e,a',w2,hq,.of_steps (.one ?_) jZ⟩;have Nz:(b.at a (.inRegion ops (i::rest)::k)).finish undef=b.at (a.put o.dst undef) (.inRegion ops rest::k):=by rw[Frame.finish_at,ho];rfl
 rw[<-Nz,Conc.lone_eq_solo,Conc.lone_eq_solo];exact Conc.step_lone_send_room (Conc.stepG_comm ho (rI hg) hb hr) hc mj
theorem RB {ops:Array Oper} {i:Nat} {rest:List Nat} {o:Oper} {z:Value} {c cap s r:Nat} {buf:Array Value} (ho:ops[i]? =some o) (hg:o.guard=none) (hr:(execOp a.eval o).run P w=.ok (.comm #[Conc.rcase c z] true (.recv false)) w)
  (hc:w.heap[c]? =some (.chan cap buf false s r false)) (Fy:0<buf.size) (h:AF P ops Q rest (a.put o.dst (buf.getD 0 undef)) (w.setChan c cap (buf.extract 1 buf.size) false s (r+1) false)):AF P ops Q (i::rest) a w:=by
 intro b k cs hb;obtain⟨e,a',w2,hq,jZ⟩:=h b k cs hb;refine⟨e,a',w2,hq,.of_steps (.one ?_) jZ⟩;have Nz:(b.at a (.inRegion ops (i::rest)::k)).finish (buf.getD 0 undef)=b.at (a.put o.dst (buf.getD 0 undef)) (.inRegion ops rest::k):=by rw[Frame.finish_at,ho];rfl
 rw[<-Nz,Conc.lone_eq_solo,Conc.lone_eq_solo];exact Conc.step_lone_recv_buf false (Conc.stepG_comm ho (rI hg) hb hr) hc Fy
end
section
variable {hs:Nat} {g:Rows} {env:Env} {a:Act} {o:Oper}
theorem Rc {x y:O} (hc:ug P o.op=some (.snd x y)):∃x' y',o.op=.send x' y'/\cO P x'=some x/\cO P y'=some y:=by
 unfold ug at hc
 split at hc
 case h_26=>
  rename_i x' y' h;simp only[Option.bind_eq_bind,Option.bind_eq_some_iff,Option.pure_def,Option.some.injEq,iU.snd.injEq]at hc;obtain⟨p,h1,q,h2,rfl,rfl⟩:=hc;exact⟨_,_,h,h1,h2⟩
 all_goals (try unfold pW at hc)<;>(try unfold yT at hc)<;>(try unfold wD at hc)<;>(repeat' (split at hc))<;>(simp only[Option.bind_eq_bind,Option.bind_eq_some_iff,Option.pure_def,Option.some.injEq,Option.map_eq_some_iff,reduceCtorEq,and_false,exists_false]at hc)
theorem Rb {x:O} (hc:ug P o.op=some (.Vy x)):∃t dir e i z x',o.op=.recv t x' false/\P.underlying t=some (.chan dir e)/\P.info? e=some i/\i.zero=some z/\cO P x'=some x:=by
 unfold ug at hc
 split at hc
 case h_27=>
  rename_i t x' h
  split at hc
  ·rename_i dir e ht
   split at hc
   ·rename_i z hz;simp only[Option.bind_eq_some_iff]at hz;obtain⟨i,hi,hz⟩:=hz;simp only[Option.map_eq_some_iff,iU.Vy.injEq]at hc;obtain⟨p,h1,rfl⟩:=hc;exact⟨t,dir,e,i,z,x',h,ht,hi,hz,h1⟩
   ·cases hc
  ·cases hc
 all_goals (try unfold pW at hc)<;>(try unfold yT at hc)<;>(try unfold wD at hc)<;>(repeat' (split at hc))<;>(simp only[Option.bind_eq_bind,Option.bind_eq_some_iff,Option.pure_def,Option.some.injEq,Option.map_eq_some_iff,reduceCtorEq,and_false,exists_false]at hc)
theorem XH {x y:O} {g':Rows} (S:iE P hs D ι g w) (hc:ug P o.op=some (.snd x y)) (E:dR P w D ι env a) (hv:dL g (dq env x) (dq env y)=some g'):
  ∃c cap s r buf u,(execOp a.eval o).run P w=.ok (.comm #[Conc.scase c u (.tuple #[])] true .send) w/\w.heap[c]? =some (.chan cap buf false s r false)/\buf.size<cap/\iE P hs D ι g' (w.setChan c cap (buf.push u) false (s+1) r false)/\Step hs D ι w D ι (w.setChan c cap (buf.push u) false (s+1) r false):=by
 obtain⟨x',y',ho,hx,hy⟩:=Rc hc;have rx:=eo E hx;have ry:=eo E hy;unfold dL at hv
 split at hv
 ·rename_i i he;simp only[Option.bind_eq_some_iff]at hv;obtain⟨r,hg,hv⟩:=hv
  split at hv
  ·rename_i hcond;simp only[Option.some.injEq]at hv;subst hv;obtain⟨B,c,hu,hB,hk,eT,buf,s,q,hb,PV,hR⟩:=CP S rx he hg;obtain⟨B',eY,RR,_⟩:=S.row i r hg;rw[hB]at eY;injection eY with eY;subst eY
   have qp:=S.LP (ob:=.chan c (buf.push (a.eval y')) false (s+1) q false) (r':={r with rows:=r.rows++[[dq env y]]}) hg hcond.1 hB fun hr l9=>⟨RR.sz,fun cs eD=>?_,fun h0=>(by rw[hk]at h0;cases h0),fun m hm=>(by rw[hk]at hm;cases hm),fun c' l7=>?_⟩
   ·exact⟨B.b,c,s,q,buf,a.eval y',by simp[execOp,ho,hu,Conc.scase],hb,by rw[PV];omega,qp.1,qp.2⟩
   ·rcases List.mem_append.1 eD with h|h
    ·exact RR.flat cs h
    ·rw[List.mem_singleton.1 h];intro b BI;rw[List.mem_singleton.1 BI];exact hcond.2.2
   ·rw[hk]at l7;simp only[Option.some.injEq,BK.chan.injEq]at l7;subst l7;refine⟨eT,_,_,_,l9,by simp[PV],fun j cs hj=>?_⟩;rw[List.getElem?_append]at hj
    split at hj
    ·rename_i eG;obtain⟨b,u,q1,q2,q3⟩:=hR j cs hj;refine⟨b,u,q1,?_,hr _ _ q3⟩;rw[Array.getElem?_push,if_neg ae];exact q2
    ·rename_i jV
     have iL:j=r.rows.length:=by
      have:=(List.getElem?_eq_some_iff.1 hj).1
      simp at this;omega
     subst iL
     simp at hj
     subst hj;exact⟨_,_,rfl,by rw[Array.getElem?_push,if_pos PV.symm],hr _ _ ry⟩
  ·cases hv
 ·cases hv
theorem XG {x:O} {g':Rows} {v:AV} (S:iE P hs D ι g w) (hc:ug P o.op=some (.Vy x)) (E:dR P w D ι env a) (hv:dK g (dq env x)=some (v,g')):
  ∃c cap s r buf z,(execOp a.eval o).run P w=.ok (.comm #[Conc.rcase c z] true (.recv false)) w/\w.heap[c]? =some (.chan cap buf false s r false)/\0<buf.size/\iE P hs D ι g' (w.setChan c cap (buf.extract 1 buf.size) false s (r+1) false)/\Step hs D ι w D ι (w.setChan c cap (buf.extract 1 buf.size) false s (r+1) false)/\dX P (w.setChan c cap (buf.extract 1 buf.size) false s (r+1) false) D ι v (buf.getD 0 undef):=by
 obtain⟨t,dir,e,i0,z,x',ho,ht,hi,hz,hx⟩:=Rb hc;have rx:=eo E hx;unfold dK at hv
 split at hv
 ·rename_i i he;simp only[Option.bind_eq_some_iff]at hv;obtain⟨r,hg,hv⟩:=hv
  split at hv
  ·rename_i v' rest km
   split at hv
   ·rename_i hcond;simp only[Option.some.injEq,Prod.mk.injEq]at hv;obtain⟨rfl,rfl⟩:=hv;obtain⟨B,c,hu,hB,hk,eT,buf,s,q,hb,PV,hR⟩:=CP S rx he hg;obtain⟨B',eY,RR,_⟩:=S.row i r hg;rw[hB]at eY;injection eY with eY;subst eY
    obtain⟨b0,u0,q1,q2,q3⟩:=hR 0 [v'] (by rw[km];rfl);simp only[List.cons.injEq,and_true]at q1;subst q1;have oe:0<buf.size:=by rw[PV,km];simp
    have hu0:buf.getD 0 undef=u0:=by rw[Array.getD_eq_getD_getElem?,q2];rfl
    have qp:=S.LP (ob:=.chan c (buf.extract 1 buf.size) false s (q+1) false) (r':={r with rows:=rest}) hg hcond hB fun hr l9=>⟨RR.sz,fun cs eD=>RR.flat cs (by rw[km];exact List.mem_cons_of_mem _ eD),fun h0=>(by rw[hk]at h0;cases h0),fun m hm=>(by rw[hk]at hm;cases hm),fun c' l7=>?_⟩
    ·refine⟨B.b,c,s,q,buf,z,?_,hb,oe,qp.1,qp.2,?_⟩
     ·have zu:(zeroValue e).run P w=.ok z w:=by simp[zeroValue,typeInfo,hi,hz]
      simp[execOp,ho,hu,Conc.rcase,run_underlying ht,zu]
     ·rw[hu0];exact qp.2.rep q3
    ·rw[hk]at l7;simp only[Option.some.injEq,BK.chan.injEq]at l7;subst l7;refine⟨eT,_,_,_,l9,by simp[PV,km],fun j cs hj=>?_⟩;obtain⟨b,u,k1,k2,k3⟩:=hR (j+1) cs (by rw[km];simpa using hj);refine⟨b,u,k1,?_,hr _ _ k3⟩;have eG:=(Array.getElem?_eq_some_iff.1 k2).1;rw[Array.getElem?_extract,if_pos ae,Nat.add_comm 1 j];exact k2
   ·cases hv
  ·cases hv
 ·cases hv
theorem Kk {ops:Array Oper} {nt site0:Nat} {K:Env->aw->Prop} {Q:Exit->Act->World->Prop}:∀(l:List Oper) (vl:List bU) (j:Nat) (env:Env) (σ:aw) (a:Act) (w:World) (D:Nat->Prop) (ι:Names),
  ops.toList.drop j=l->allM (mM P ops nt site0 false false #[] []) l j=some vl->bW vl K env σ->iE P hs D ι σ.get w->Used ι σ.next (fun _=>False)->dR P w D ι env a->a.tmps.size=nt->
  (∀jY σ' a' w' D' ι',K jY σ'->Step hs D ι w D' ι' w'->St P hs nt D' ι' jY σ' a' w'->a'.defers=a.defers->σ.next<=σ'.next->Q .normal a' w')->AF P ops Q (List.range' j l.length) a w:=by
 intro l
 induction l with
 |nil=>
  intro vl j env σ a w D ι _ h hv S Us E eT hQ;simp[allM]at h;subst h;exact Vu (hQ env ⟨σ.get,σ.next+1⟩ a w D ι hv (Step.refl _ _ _ _) ⟨S,Us.next,E,eT⟩ rfl (Nat.le_succ _))
 |cons o l ih=>
  intro vl j env σ a w D ι hl h hv S Us E eT hQ;simp only[allM,Option.bind_eq_bind,Option.bind_eq_some_iff,Option.pure_def,Option.some.injEq]at h;obtain⟨vo,ml,xi,wj,rfl⟩:=h;obtain⟨hc,hd,Fx,AQ,hg⟩:=rP ml;obtain⟨QS,hv⟩:=hv
  have hog:o.guard=none:=by
   split at hg
   ·assumption
   ·obtain⟨t,_,h⟩:=hg;rw[QS]at h;cases h
  have hoj:ops[j]? =some o:=by
   have h0:=congrArg (fun x=>x[0]?) hl;rw[<-Array.getElem?_toList]
   simpa[List.getElem?_drop]using h0
  have UW:ops.toList.drop (j+1)=l:=by rw[<-List.drop_drop,hl];rfl
  have go:∀(v:AV) (u:Value) (g2:Rows) (w2:World),bW xi K (upd env vo.dst v) ⟨g2,σ.next⟩->iE P hs D ι g2 w2->Step hs D ι w D ι w2->dX P w2 D ι v u->AF P ops Q (List.range' (j+1) l.length) (a.put o.dst u) w2:=fun v u g2 w2 hn S2 T hR=>
   ih xi (j+1) (upd env vo.dst v) ⟨g2,σ.next⟩ (a.put o.dst u) w2 D ι UW wj hn S2 Us (by rw[hd];exact jO (qM E T) hR AQ eT) (by rw[gn];exact eT) fun jY σ2 a' w3 D3 ι3 hk T2 Qi HH qV=>hQ jY σ2 a' w3 D3 ι3 hk (T.trans T2) Qi (HH.trans (put_defers _ _ _)) qV
  rw[show List.range' j (o::l).length=j::List.range' (j+1) l.length from rfl]
  split at hv
  ·rename_i x y fb
   split at hv
   ·rename_i g2 Q1;rw[fb]at hc;obtain⟨c,cap,s,r,buf,u,gW,hb,mj,S2,T⟩:=XH S hc E Q1;exact RD hoj hog gW hb mj (go _ _ _ _ hv S2 T dX.undef)
   ·exact hv.elim
  ·rename_i x fb
   split at hv
   ·rename_i v g2 Q1;rw[fb]at hc;obtain⟨c,cap,s,r,buf,z,gW,hb,Fy,S2,T,hR⟩:=XG S hc E Q1;exact RB hoj hog gW hb Fy (go _ _ _ _ hv S2 T hR)
   ·exact hv.elim
  ·split at hv
   ·rename_i v hq;obtain⟨u,gW,hR⟩:=Ck hc hq S E;exact OF hoj hog gW (go _ _ _ _ hv S (Step.refl _ _ _ _) hR)
   ·exact hv.elim
end
end V

namespace V
open Go.RowKit
variable {P:Program} {w w':World} {D D' D2:Nat->Prop} {ι ι' ι2:Names}
section
variable {hs:Nat} {X:gO}
def ZW:Ex->Exit
 | .normal=>.normal
 | .exit id=>.exit id
 | .ret=>.ret
theorem St.drew {nt:Nat} {env:Env} {σ:aw} {a:Act} {D:Nat->Prop} {ι:Names} (h:St P hs nt D ι env σ a w):St P hs nt D ι env σ a w.drew/\Step hs D ι w D ι w.drew:=by
 have T:Step hs D ι w D ι w.drew:=Step.stay h.xa (fun _ _=>rfl) (Nat.le_refl _) rfl rfl rfl (fun _ h=>h) (fun _ h=>.inl h) (fun _ _ h=>h);exact⟨⟨h.xa.stay (fun _ _=>rfl) (Nat.le_refl _) (fun _ h=>h) h.xa.dead (fun _ h=>.inl h) (fun _ _ h=>h),h.used,qM h.env T,h.size⟩,T⟩
def xk (P:Program) (hs nt:Nat) (ds:List Deferred) (Q:Ex->Env->aw->Prop) (n0:Nat) (D:Nat->Prop) (ι:Names) (w:World) (Q':Exit->Act->World->Prop):Prop:=
 ∀ex env σ a w' D' ι',Q ex env σ->Step hs D ι w D' ι' w'->St P hs nt D' ι' env σ a w'->a.defers=ds->n0<=σ.next->Q' (ZW ex) a w'
theorem xk.later {nt:Nat} {ds:List Deferred} {Q:Ex->Env->aw->Prop} {n0 n1:Nat} {Q':Exit->Act->World->Prop} (h:xk P hs nt ds Q n0 D ι w Q') (T:Step hs D ι w D' ι' w') (hn:n0<=n1):xk P hs nt ds Q n1 D' ι' w' Q':=
 fun ex env σ a w2 D2 ι2 hq T2 ez hd hle=>h ex env σ a w2 D2 ι2 hq (T.trans T2) ez hd (Nat.le_trans hn hle)
theorem tt (hm:P.follows .mixedOrders=true) {md:List (Nat×Nat)} {nt fid:Nat}:∀(c:Code) (vc:VC),jU P md nt fid c=some vc->∀(Q:Ex->Env->aw->Prop) (env:Env) (σ:aw) (a:Act) (w:World) (D:Nat->Prop) (ι:Names) (Q':Exit->Act->World->Prop),
  dY (Sound P) vc Q env σ->St P hs nt D ι env σ a w->xk P hs nt a.defers Q σ.next D ι w Q'->Bh P c Q' a w:=by
 intro c
 induction c with
 |skip=>
  intro vc h Q env σ a w D ι Q' hv ez hQ;simp[jU]at h;subst h;exact lC <| wp_skip (hQ .normal env σ a w D ι hv (Step.refl _ _ _ _) ez rfl (Nat.le_refl _))
 |exit id=>
  intro vc h Q env σ a w D ι Q' hv ez hQ;simp[jU]at h;subst h;exact lC <| wp_exit (hQ (.exit id) env σ a w D ι hv (Step.refl _ _ _ _) ez rfl (Nat.le_refl _))
 |ret=>
  intro vc h Q env σ a w D ι Q' hv ez hQ;simp[jU]at h;subst h;exact lC <| wp_ret (hQ .ret env σ a w D ι hv (Step.refl _ _ _ _) ez rfl (Nat.le_refl _))
 |seq x y ihx ihy=>
  intro vc h Q env σ a w D ι Q' hv ez hQ;simp only[jU,Option.bind_eq_bind,Option.bind_eq_some_iff,Option.pure_def,Option.some.injEq]at h;obtain⟨vx,hx,vy,hy,rfl⟩:=h;refine nS (ihx vx hx _ env σ a w D ι _ hv ez fun ex j7 σ1 a1 w1 D1 ι1 hq T lg hd hle=>?_)
  cases ex with
  |normal=>exact ihy vy hy Q j7 σ1 a1 w1 D1 ι1 Q' hq lg (by rw[hd];exact hQ.later T hle)
  |exit id=>exact hQ (.exit id) j7 σ1 a1 w1 D1 ι1 hq T lg hd hle
  |ret=>exact hQ .ret j7 σ1 a1 w1 D1 ι1 hq T lg hd hle
 |cond c x y ihx ihy=>
  intro vc h Q env σ a w D ι Q' hv ez hQ;simp only[jU,Option.bind_eq_bind,Option.bind_eq_some_iff,Option.pure_def,Option.some.injEq]at h;obtain⟨c',hc,vx,hx,vy,hy,rfl⟩:=h;unfold dY at hv;have hr:=eo ez.env hc
  split at hv
  ·rename_i b hb;rw[hb]at hr;refine zQ (gx hr) ?_
   cases b with
   |true=>exact ihx vx hx Q env σ a w D ι Q' hv ez hQ
   |false=>exact ihy vy hy Q env σ a w D ι Q' hv ez hQ
  ·exact hv.elim
 |block id c ih=>
  intro vc h Q env σ a w D ι Q' hv ez hQ;simp only[jU,Option.map_eq_some_iff]at h;obtain⟨vx,hx,rfl⟩:=h;refine wV (ih vx hx _ env σ a w D ι _ hv ez fun ex j7 σ1 a1 w1 D1 ι1 hq T lg hd hle=>?_)
  cases ex with
  |normal=>exact hQ .normal j7 σ1 a1 w1 D1 ι1 hq T lg hd hle
  |ret=>exact hQ .ret j7 σ1 a1 w1 D1 ι1 hq T lg hd hle
  |exit lP=>
   simp only[ba]at hq;simp only[ZW,Exit.inBlock]
   by_cases hid:lP=id
   ·rw[if_pos hid]at hq ⊢;exact hQ .normal j7 σ1 a1 w1 D1 ι1 hq T lg hd hle
   ·rw[if_neg hid]at hq ⊢;exact hQ (.exit lP) j7 σ1 a1 w1 D1 ι1 hq T lg hd hle
 |loop c ih=>
  intro vc h Q env σ a w D ι Q' hv ez hQ;simp only[jU,Option.map_eq_some_iff]at h;obtain⟨vx,hx,rfl⟩:=h;obtain⟨n,hv⟩:=hv;refine F8 n ?_
  have key:∀n env σ a w D ι,zF (dY (Sound P) vx) Q n env σ->St P hs nt D ι env σ a w->xk P hs nt a.defers Q σ.next D ι w Q'->si P c Q' n a w:=by
   intro n
   induction n with
   |zero=>intro env σ a w D ι h;exact h.elim
   |succ n ihn=>
    intro env σ a w D ι h ez hQ;refine ih vx hx _ env σ a w D ι _ h ez fun ex j7 σ1 a1 w1 D1 ι1 hq T lg hd hle=>?_
    cases ex with
    |normal=>exact ihn j7 σ1 a1 w1 D1 ι1 hq lg (by rw[hd];exact hQ.later T hle)
    |exit id=>exact hQ (.exit id) j7 σ1 a1 w1 D1 ι1 hq T lg hd hle
    |ret=>exact hQ .ret j7 σ1 a1 w1 D1 ι1 hq T lg hd hle
  exact key n env σ a w D ι hv ez hQ
 |region id ops draw=>
  intro vc h Q env σ a w D ι Q' hv ez hQ;simp only[jU,XF]at h
  split at h
  ·rename_i hmode
   have Yj:draw=true:=by
    simp only[Bool.and_eq_true]at hmode;exact hmode.1
   subst Yj
   split at h
   ·rename_i vl fy;obtain⟨uU,T0⟩:=ez.drew
    have HC:=LM (X:=Sound P) mK ops.size _ vc env σ h (fun k i h=>by
     exfalso
     rcases Nat.lt_or_ge k ops.size with hk|hk
     ·simp[hk]at h
     ·simp[Nat.not_lt.2 hk]at h) hv
    refine lC (wp_region_any hm ?_);exact Iv fy ops.size _ env σ a w.drew D ι (fun _=>False) HC uU.xa uU.used (fun _ h=>h.elim) uU.env uU.size fun j7 σ1 a1 w1 D1 ι1 hk T lg hd hle=>hQ .normal j7 σ1 a1 w1 D1 ι1 hk (T0.trans T) lg hd hle
   ·cases h
  split at h
  ·rename_i hcom
   have Yj:draw=false:=by
    simp only[Bool.and_eq_true,Bool.not_eq_true']at hcom;exact hcom.1
   subst Yj;simp only[Option.map_eq_some_iff]at h;obtain⟨vl,wj,rfl⟩:=h
   have fy:allM (mM P ops nt ((fid*1000+id)*1000) false false #[] []) ops.toList 0=some vl:=by
    unfold uA at wj;simp only[Bool.false_eq_true,if_false,Bool.not_false,Bool.true_or,if_true]at wj
    split at wj
    ·rename_i xi h;simp at wj;subst wj;exact h
    ·cases wj
   refine H4 ?_;have:=Kk (Q:=Q') ops.toList vl 0 env σ a w D ι rfl fy hv ez.xa ez.used ez.env ez.size fun j7 σ1 a1 w1 D1 ι1 hk T lg hd hle=>hQ .normal j7 σ1 a1 w1 D1 ι1 hk T lg hd hle
   rwa [<-List.range_eq_range',Array.length_toList]at this
  generalize (wS md id==1)=mk at h;simp only[Option.map_eq_some_iff]at h;obtain⟨vl,wj,rfl⟩:=h
  cases draw with
  |false=>
   have fy:∃xi,allM (mM P ops nt ((fid*1000+id)*1000) false mk #[] []) ops.toList 0=some xi/\vl=xi:=by
    unfold uA at wj;simp only[Bool.false_eq_true,if_false,Bool.not_false,Bool.true_or,if_true]at wj
    split at wj
    ·rename_i xi h;simp at wj;exact⟨xi,h,wj.symm⟩
    ·cases wj
   obtain⟨xi,fy,rfl⟩:=fy;refine lC (wp_region_list ?_);exact Cd ops.toList vl 0 env σ a w D ι (fun _=>False) fy hv ez.xa ez.used (fun _ h=>h.elim) ez.env ez.size fun j7 σ1 a1 w1 D1 ι1 hk T lg hd hle=>hQ .normal j7 σ1 a1 w1 D1 ι1 hk T lg hd hle
  |true=>
   have fy:∃hidden xi,allM (mM P ops nt ((fid*1000+id)*1000) true mk (kF ops) hidden) ops.toList 0=some xi/\vl=xi/\qL ops xi (kF ops)=true:=by
    unfold uA at wj;simp only[if_true,Bool.not_true,Bool.false_or]at wj
    split at wj
    ·rename_i xi h
     split at wj
     ·rename_i Dh;simp at wj;exact⟨_,xi,h,wj.symm,Dh⟩
     ·cases wj
    ·cases wj
   obtain⟨hidden,xi,fy,rfl,Dh⟩:=fy;obtain⟨uU,T0⟩:=ez.drew;obtain⟨hlen,_⟩:=qF fy;have zp:vl.length=ops.size:=by rw[hlen];simp
   have HC:=Ay (X:=Sound P) (K:=Q .normal) (n:=σ.next) Dh zp vl 0 (Array.replicate ops.size false) env σ.get (by simp) (by simp) (fun i hi=>by simp[hi]) (by simp[zp]) (fun k i h=>by
    exfalso
    rcases Nat.lt_or_ge k ops.size with hk|hk
    ·simp[hk]at h
    ·simp[Nat.not_lt.2 hk]at h) hv
   refine lC (wp_region_any hm ?_);rw[zp]at HC;exact Bk fy ops.size _ env σ.get a w.drew D ι (fun _=>False) HC uU.xa uU.used (fun _ h=>h.elim) uU.env uU.size fun j7 g1 a1 w1 D1 ι1 U1 hk T S1 U1' E1 wq hd=>hQ .normal j7 ⟨g1,σ.next+1⟩ a1 w1 D1 ι1 hk (T0.trans T) ⟨S1,U1'.next,E1,wq⟩ hd (Nat.le_succ _)
 |label l=>
  intro vc h Q env σ a w D ι Q' hv ez hQ;simp[jU]at h;subst h;exact lC <| wp_label (hQ .normal env σ a w D ι hv (Step.refl _ _ _ _) ez rfl (Nat.le_refl _))
 |scope c ih=>
  intro vc h Q env σ a w D ι Q' hv ez hQ;simp only[jU]at h;refine Ls (ih vc h Q env σ a w D ι _ hv ez fun ex j7 σ1 a1 w1 D1 ι1 hq T lg hd hle=>?_);have h1:=hQ ex j7 σ1 a1 w1 D1 ι1 hq T lg hd hle
  cases ex with
  |normal=>exact h1
  |exit id=>exact h1
  |ret=>exact h1
 |_=>
  intro vc h;simp[jU]at h
def OQ (tmps:Array Value):ResultVar->Sem Value
 | .tmp t=>pure (tmps.getD t undef)
 | .cell a t=>do loadVar t (<-asAddr (tmps.getD a undef))
theorem Ig (fn:Func) (tmps:Array Value):results fn tmps=(do
  let vs <-fn.results.mapM (OQ tmps)
  pure (if h:vs.size=1 then vs[0]else .tuple vs)):=by
 unfold results
 congr 2
theorem xK {nt:Nat} {env:Env} {σ:aw} {a:Act} {D:Nat->Prop} {ι:Names} (ez:St P hs nt D ι env σ a w):∀(rs:List ResultVar) (vr:List qE) (vs:List AV),rs.mapM (Hh P)=some vr->ir env σ.get vr=some vs->
  ∃us:List Value,(rs.mapM (OQ a.tmps)).run P w=.ok us w/\us.length=vs.length/\∀(j:Nat) (v:AV),vs[j]? =some v->∃u,us[j]? =some u/\dX P w D ι v u
 |[],vr,vs,h,hv=>by
  simp at h;subst h
  simp[ir]at hv;subst hv;exact⟨[],by simp,rfl,fun j v h=>by simp at h⟩
 |r::rs,vr,vs,h,hv=>by
  simp only[List.mapM_cons,Option.bind_eq_bind,Option.bind_eq_some_iff]at h;obtain⟨x,hx,vr',hr,h⟩:=h
  simp at h;subst h
  simp only[ir,Option.bind_eq_some_iff,Option.map_eq_some_iff]at hv;obtain⟨v,tG,ZC,Q6,rfl⟩:=hv;obtain⟨us,h1,h2,h3⟩:=xK ez rs vr' ZC hr Q6
  have one:∃u,(OQ a.tmps r).run P w=.ok u w/\dX P w D ι v u:=by
   cases r with
   |tmp t=>
    simp[Hh]at hx;subst hx;simp[jw]at tG;subst tG;exact⟨_,rfl,ez.env t⟩
   |cell b t=>
    simp only[Hh,Option.bind_eq_bind,Option.bind_eq_some_iff,Option.pure_def,Option.some.injEq]at hx;obtain⟨ag,sX,n,hn,rfl⟩:=hx;simp only[jw]at tG;have jv:=ez.env b;unfold ld at tG
    split at tG
    ·rename_i lP i' oo hb;rw[hb]at jv;obtain⟨B,he,hB,hk⟩:=jG jv;simp only[Option.bind_eq_some_iff]at tG;obtain⟨cs,eD,hp⟩:=tG;obtain⟨B',r0,Md,eY,R,hi,fl,f,hf⟩:=OU (S:=ez.xa) eD (fun B2 h2=>by rw[hB]at h2;injection h2 with h2;subst h2;exact hk);rw[hB]at eY;injection eY with eY;subst eY
     obtain⟨u,k1,k2⟩:=kZ (w:=w) (b:=B.b) (oo:=i'*B.sz+oo) (f:=fun j=>f (oo+j)) sX hn hp (fun a ha=>fl a (List.mem_of_mem_drop ha)) (fun j hj=>by
      rw[Nat.add_assoc];exact(hf _ (by simp at hj;omega)).1) (fun j a ha=>by
      simp at ha;exact(hf _ ((List.getElem?_eq_some_iff.1 ha).1)).2 _ ha)
     exact⟨u,by simp only[OQ,he,asAddr,Sem.run_bind,Sem.run_pure,Result.andThen_ok,k1],k2⟩
    ·rename_i cs hb;rw[hb]at jv;obtain⟨b',oo,vs2,he,q1,q2,q3,q4⟩:=nu jv;obtain⟨u,k1,k2⟩:=kZ (w:=w) (b:=b') (oo:=oo) (f:=vs2) sX hn tG q2 q3 (fun j a ha=>.fw _ _ (q4 j a ha));exact⟨u,by simp only[OQ,he,asAddr,Sem.run_bind,Sem.run_pure,Result.andThen_ok,k1],k2⟩
    ·simp at tG
  obtain⟨u,hu,AX⟩:=one;refine⟨u::us,?_,by simp[h2],fun j v' hj=>?_⟩
  ·rw[List.mapM_cons];simp only[Sem.run_bind,hu,h1,Result.andThen_ok,Sem.run_pure]
  ·cases j with
   |zero=>simp at hj;subst hj;exact⟨u,rfl,AX⟩
   |succ j=>simp at hj ⊢;exact h3 j v' hj
theorem yS {f:Nat} {fn:Func} {c:Code} {args:List AV} {σ:aw} {K:AV->aw->Prop} {vr:List qE} (SY:P.funcs[f]? =some fn) (hc:fn.body=some c) (hr:fn.results.toList.mapM (Hh P)=some vr) (ha:fn.params.size+fn.nfree=args.length) (hle:fn.params.size+fn.nfree<=fn.ntmps)
  (h:∀(hs:Nat) (w:World) (D:Nat->Prop) (ι:Names) (a:Act) (Q':Exit->Act->World->Prop),St P hs fn.ntmps D ι (bV args) σ a w->xk P hs fn.ntmps a.defers (oj vr K) σ.next D ι w Q'->Bh P c Q' a w):Sound P f args σ K:=by
 intro hs D ι w vs S Us A;have eT:vs.size=args.length:=A.1;refine CO SY hc ?_;refine h hs w D ι _ _ ⟨S,Us,fun t=>?_,by simp;omega⟩ fun ex j7 σ1 a1 w1 D1 ι1 hq T lg hd hle=>?_
 ·simp only[bV]
  by_cases eG:t<args.length
  ·obtain⟨u,hu,AX⟩:=A.2 t args[t] (List.getElem?_eq_getElem eG);have e1:args.getD t .undef=args[t]:=by simp[List.getD_eq_getElem?_getD,eG]
   have e2:(vs++Array.replicate (fn.ntmps-vs.size) undef).getD t undef=u:=by
    simp only[Array.getD_eq_getD_getElem?];rw[Array.getElem?_append_left ae,hu];rfl
   rw[e1,e2];exact AX
  ·have e1:args.getD t .undef=.undef:=by simp[List.getD_eq_getElem?_getD,Nat.le_of_not_lt eG]
   have e2:(vs++Array.replicate (fn.ntmps-vs.size) undef).getD t undef=undef:=by
    simp only[Array.getD_eq_getD_getElem?];rw[Array.getElem?_append_right ae,Array.getElem?_replicate]
    split<;>rfl
   rw[e1,e2];exact dX.undef
 ·have fin:(∃vs,ir j7 σ1.get vr=some vs/\K (gH vs) σ1)->a1.defers=[]/\∃v,(results fn a1.tmps).run P w1=.ok v w1/\∃r g' n' D' ι' u,Ending.returned v=.returned u/\K r ⟨g',n'⟩/\Step hs D ι w D' ι' w1/\iE P hs D' ι' g' w1/\Used ι' n' (fun _=>False)/\σ.next<=n'/\dX P w1 D' ι' r u:=by
   rintro⟨avs,Q6,hK⟩;obtain⟨us,h1,h2,h3⟩:=xK lg fn.results.toList vr avs hr Q6
   have hres:(results fn a1.tmps).run P w1=.ok (if h:us.toArray.size=1 then us.toArray[0]else .tuple us.toArray) w1:=by
    rw[Ig,Array.mapM_eq_mapM_toList];simp only[Sem.run_bind,Sem.run_map,h1,Result.andThen_ok,Sem.run_pure]
   refine⟨hd,_,hres,gH avs,σ1.get,σ1.next,D1,ι1,_,rfl,hK,T,lg.xa,lg.used,hle,?_⟩;unfold gH
   split
   ·rename_i v;have hl:us.length=1:=h2;obtain⟨u,hu,AX⟩:=h3 0 v rfl;rw[dif_pos (by simpa using hl)]
    have:us.toArray[0]'(by simp[hl])=u:=by
     have:=(List.getElem?_eq_some_iff.1 hu).2
     simpa using this
    rw[this];exact AX
   ·rename_i ju
    rw[dif_neg (by
     simp only[List.size_toArray,h2];intro h;obtain⟨v,hv⟩:=List.length_eq_one_iff.1 h
     exact ju v hv)]
    exact .gG _ _ (fun j=>us.getD j undef) (by simp[h2]) (fun j hj=>by
     have:j<us.length:=by rw[h2];exact hj
     simp[this]) (fun j v hj=>by
     obtain⟨u,hu,AX⟩:=h3 j v hj
     simpa[List.getD_eq_getElem?_getD,hu]using AX)
  cases ex with
  |normal=>exact fin hq
  |ret=>exact fin hq
  |exit id=>exact hq.elim
theorem Nf (hm:P.follows .mixedOrders=true) {f:Nat} {md:List (Nat×Nat)} {vf:IL} {args:List AV} {σ:aw} {K:AV->aw->Prop} (hf:xV P f md=some vf) (ha:vf.B9=args.length) (h:dY (Sound P) vf.body (oj vf.res K) (bV args) σ):Sound P f args σ K:=by
 unfold xV at hf
 split at hf
 ·rename_i fn SY
  split at hf
  ·rename_i c hc;simp only[Option.bind_eq_bind,Option.bind_eq_some_iff]at hf;obtain⟨vb,hb,vr,hr,hf⟩:=hf
   split at hf
   ·rename_i hle;simp only[Option.pure_def,Option.some.injEq]at hf;subst hf
    simp only at ha h
    exact yS SY hc hr ha hle fun hs w D ι a Q' ez hQ=>tt hm c vb hb (oj vr K) (bV args) σ a w D ι Q' h ez hQ
   ·simp at hf
  ·simp at hf
 ·simp at hf
def Tv (P:Program) (X:gO):gO:=fun f args σ K=>(∃md vf,xV P f md=some vf/\vf.B9=args.length/\((∀a∈args,fU a)->dY X vf.body (oj vf.res K) (bV args) σ))∨Sound P f args σ K
def Call (P:Program):gO:=fun f args σ K=>∀X:gO,sU X->(∀f args σ K,Tv P X f args σ K->X f args σ K)->X f args σ K
theorem iO (hm:P.follows .mixedOrders=true) {f:Nat} {args:List AV} {σ:aw} {K:AV->aw->Prop} (h:Call P f args σ K):Sound P f args σ K:=
 h (Sound P) mK fun f args σ K hs=>by
  rcases hs with⟨md,vf,h1,h2,h3⟩|h
  ·intro hs D ι w vs S U A;exact Nf hm h1 h2 (h3 (rh fun j a hj=>by obtain⟨u,_,hr⟩:=A.2 j a hj;exact hr.Oh)) hs D ι w vs S U A
  ·exact h
end
end V

namespace V
open Go.RowKit
variable {P:Program} {X Y:gO}
theorem Mv (h:∀f args σ K,X f args σ K->Y f args σ K) {f:Nat} {args:List AV} {σ:aw} {K:AV->Prop} (hp:fm X f args σ K):fm Y f args σ K:=by
 rcases hp with hp|⟨a,h1,h2⟩
 ·exact .inl (h _ _ _ _ hp)
 ·exact .inr ⟨a,h1,h _ _ _ _ h2⟩
theorem Qe (h:∀f args σ K,X f args σ K->Y f args σ K) {f:Nat} {args:List AV} {σ:aw} {sz:Nat} {rows:List (List AV)} (hp:CM X f args σ sz rows):CM Y f args σ sz rows:=by
 obtain⟨h1,a,h2,h3⟩:=hp;exact⟨h1,a,h2,h _ _ _ _ h3⟩
theorem tq (h:∀f args σ K,X f args σ K->Y f args σ K) (hK:∀f args σ K K',(∀r σ',K r σ'->K' r σ')->Y f args σ K->Y f args σ K') {draw:Bool} {hid:List Nat} {site:Nat} {f:Nat} {args:List AV} {σ:aw} {n n':AV->aw->Prop} (hn:∀v σ',n v σ'->n' v σ') (hp:cm X draw hid site f args σ n):cm Y draw hid site f args σ n':=by
 rcases hp with⟨r,h1,h2⟩|⟨h1,h2⟩|⟨h1,sz,rows,h2,h3⟩
 ·exact .inl ⟨r,Mv h h1,hn _ _ h2⟩
 ·exact .inr (.inl ⟨h1,hK _ _ _ _ _ hn (h _ _ _ _ h2)⟩)
 ·exact .inr (.inr ⟨h1,sz,rows,Qe h h2,hn _ _ h3⟩)
theorem vU (h:∀f args σ K,X f args σ K->Y f args σ K) (hK:∀f args σ K K',(∀r σ',K r σ'->K' r σ')->Y f args σ K->Y f args σ K') {draw:Bool} {o:bU} {env:Env} {σ:aw} {n n':AV->aw->Prop} (hn:∀v σ',n v σ'->n' v σ') (hp:eU X draw o env σ n):eU Y draw o env σ n':=by
 unfold eU at hp ⊢
 split at hp
 ·exact tq h hK hn hp
 ·split at hp
  ·exact tq h hK hn hp
  ·exact tq h hK hn hp
  ·exact hp.elim
 ·split at hp
  ·exact hn _ _ hp
  ·exact hp.elim
 ·split at hp
  ·exact hn _ _ hp
  ·exact hp.elim
 ·split at hp
  ·exact hn _ _ hp
  ·exact hp.elim
 ·split at hp
  ·exact hn _ _ hp
  ·exact hp.elim
 ·split at hp
  ·exact hn _ _ hp
  ·exact hp.elim
 ·split at hp
  ·exact hn _ _ hp
  ·exact hn _ _ hp
  ·exact hp.elim
theorem nz (h:∀f args σ K,X f args σ K->Y f args σ K) (hK:∀f args σ K K',(∀r σ',K r σ'->K' r σ')->Y f args σ K->Y f args σ K') {draw:Bool} {Q Q':Env->aw->Prop} (hQ:∀e s,Q e s->Q' e s):∀(l:List bU) (env:Env) (σ:aw),wpOps X draw l Q env σ->wpOps Y draw l Q' env σ
 |[],env,σ,hp=>hQ _ _ hp
 |o::r,env,σ,hp=>by
  unfold wpOps at hp ⊢
  split at hp
  ·rename_i hw;rw[if_pos hw];exact vU h hK (fun v σ'=>nz h hK hQ r _ _) hp
  ·rename_i hw;rw[if_neg hw];exact nz h hK hQ r _ _ hp
theorem pR {Q Q':Env->aw->Prop} (hQ:∀e s,Q e s->Q' e s):∀(l:List bU) (env:Env) (σ:aw),bW l Q env σ->bW l Q' env σ
 |[],env,σ,hp=>hQ _ _ hp
 |o::r,env,σ,hp=>by
  unfold bW at hp ⊢;refine⟨hp.1,?_⟩;replace hp:=hp.2
  split at hp
  ·split at hp
   ·exact pR hQ r _ _ hp
   ·exact hp.elim
  ·split at hp
   ·exact pR hQ r _ _ hp
   ·exact hp.elim
  ·split at hp
   ·exact pR hQ r _ _ hp
   ·exact hp.elim
theorem lV (h:∀f args σ K,X f args σ K->Y f args σ K) (hK:∀f args σ K K',(∀r σ',K r σ'->K' r σ')->Y f args σ K->Y f args σ K'):∀(c:VC) (Q Q':Ex->Env->aw->Prop) (env:Env) (σ:aw),(∀x e s,Q x e s->Q' x e s)->dY X c Q env σ->dY Y c Q' env σ:=by
 intro c
 induction c with
 |skip=>intro Q Q' env σ hQ hp;exact hQ _ _ _ hp
 |exit id=>intro Q Q' env σ hQ hp;exact hQ _ _ _ hp
 |ret=>intro Q Q' env σ hQ hp;exact hQ _ _ _ hp
 |one o c ih=>
  intro Q Q' env σ hQ hp;unfold dY at hp ⊢
  split at hp
  ·rename_i hw;rw[if_pos hw];exact vU h hK (fun v σ'=>ih Q Q' _ _ hQ) hp
  ·rename_i hw;rw[if_neg hw];exact ih Q Q' _ _ hQ hp
 |both a b iha ihb=>intro Q Q' env σ hQ hp;exact⟨iha Q Q' env σ hQ hp.1,ihb Q Q' env σ hQ hp.2⟩
 |loc t s y c ih=>intro Q Q' env σ hQ hp;exact⟨hp.1,ih Q Q' env σ hQ hp.2⟩
 |WV ops=>intro Q Q' env σ hQ hp;exact pR (hQ .normal) ops env σ hp
 |gh draw ops=>intro Q Q' env σ hQ hp;exact nz h hK (hQ .normal) ops env σ hp
 |seq a b iha ihb=>
  intro Q Q' env σ hQ hp;refine iha _ _ env σ (fun x e s hx=>?_) hp
  cases x with
  |normal=>exact ihb Q Q' e s hQ hx
  |exit id=>exact hQ _ _ _ hx
  |ret=>exact hQ _ _ _ hx
 |cond c a b iha ihb=>
  intro Q Q' env σ hQ hp;unfold dY at hp ⊢
  split at hp
  ·rename_i t ht
   cases t with
   |true=>exact iha Q Q' env σ hQ hp
   |false=>exact ihb Q Q' env σ hQ hp
  ·exact hp.elim
 |block id a iha=>
  intro Q Q' env σ hQ hp;refine iha _ _ env σ (fun x e s hx=>?_) hp
  cases x with
  |normal=>exact hQ _ _ _ hx
  |ret=>exact hQ _ _ _ hx
  |exit lP=>
   unfold ba at hx ⊢;dsimp only at hx ⊢
   split at hx
   ·rename_i hid;rw[if_pos hid];exact hQ _ _ _ hx
   ·rename_i hid;rw[if_neg hid];exact hQ _ _ _ hx
 |loop a iha=>
  intro Q Q' env σ hQ hp;obtain⟨n,hp⟩:=hp;refine⟨n,?_⟩
  induction n generalizing env σ with
  |zero=>exact hp
  |succ n ihn=>
   refine iha _ _ env σ (fun x e s hx=>?_) hp
   cases x with
   |normal=>exact ihn e s hx
   |exit id=>exact hQ _ _ _ hx
   |ret=>exact hQ _ _ _ hx
theorem ax:sU (Call P):=fun _ _ _ _ _ hK h X hX hc=>hX _ _ _ _ _ hK (h X hX hc)
theorem Bf {f:Nat} {args:List AV} {σ:aw} {K:AV->aw->Prop} (h:Tv P (Call P) f args σ K):Call P f args σ K:=by
 intro X hX hc;refine hc _ _ _ _ ?_
 rcases h with⟨md,vf,h1,h2,h3⟩|h
 ·exact .inl ⟨md,vf,h1,h2,fun hl=>lV (fun f args σ K h=>h X hX hc) hX _ _ _ _ _ (fun _ _ _ h=>h) (h3 hl)⟩
 ·exact .inr h
theorem yH {f:Nat} {md:List (Nat×Nat)} {args:List AV} {σ:aw} {K:AV->aw->Prop} {vf:IL} (hf:xV P f md=some vf) (ha:vf.B9=args.length) (h:(∀a∈args,fU a)->dY (Call P) vf.body (oj vf.res K) (bV args) σ):Call P f args σ K:=
 Bf (.inl ⟨md,vf,hf,ha,h⟩)
theorem rL {f:Nat} {args:List AV} {σ:aw} {K:AV->aw->Prop} {vf:IL} (hf:AJ P f=some vf) (ha:vf.B9=args.length) (h:(∀a∈args,fU a)->dY (Call P) vf.body (oj vf.res K) (bV args) σ):Call P f args σ K:=
 yH hf ha h
theorem fW {f:Nat} {args:List AV} {σ:aw} {K:AV->aw->Prop} (h:Sound P f args σ K):Call P f args σ K:=Bf (.inr h)
variable {Q:Ex->Env->aw->Prop} {K:Env->aw->Prop} {env:Env} {σ:aw}
theorem Cv {a b:VC} (h:∀N:Env->aw->Prop,(∀e s,dY X b Q e s->N e s)->dY X a (dc N Q) env σ):dY X (.seq a b) Q env σ:=h _ fun _ _ h=>h
theorem Ea (h:Q .normal env σ):dY X .skip Q env σ:=h
theorem D7 {id:Nat} (h:Q (.exit id) env σ):dY X (.exit id) Q env σ:=h
theorem J3 (h:Q .ret env σ):dY X .ret Q env σ:=h
theorem yF {id:Nat} {c:VC} (h:dY X c (ba id Q) env σ):dY X (.block id c) Q env σ:=h
theorem J1 {o:bU} {c:VC} (h:∀N:AV->aw->Prop,(∀v s,dY X c Q (upd env o.dst v) s->N v s)->if aD o.guard env then eU X false o env σ N else N .undef σ):dY X (.one o c) Q env σ:=by
 have:=h (fun v s=>dY X c Q (upd env o.dst v) s) fun _ _ h=>h;unfold dY
 split
 ·rename_i hw;rw[if_pos hw]at this;exact this
 ·rename_i hw;rw[if_neg hw]at this;exact this
def dM (s n:Nat):AV->Prop
 | .own id 0 _=>id=⟨s,n⟩
 |_=>False
def dQ (n:Nat):AV->Prop
 | .own id _ _=>¬id.bH=n
 |_=>True
theorem D8 {t s:Nat} {y:O} {c:VC} (h1:dM s σ.next (env t)) (h2:dQ σ.next (dq env y)) (h:dY X c Q env σ):dY X (.loc t s y c) Q env σ:=by
 refine⟨⟨?_,fun id o l he=>?_⟩,h⟩
 ·revert h1;unfold dM
  split
  ·rename_i id l he;rintro rfl;exact⟨l,he⟩
  ·exact fun h=>h.elim
 ·rw[he]at h2;exact h2
theorem fJ {a b:VC} (ha:dY X a Q env σ) (hb:dY X b Q env σ):dY X (.both a b) Q env σ:=⟨ha,hb⟩
theorem J2 {draw:Bool} {ops:List bU} (h:∀N:Env->aw->Prop,(∀e s,Q .normal e s->N e s)->wpOps X draw ops N env σ):dY X (.gh draw ops) Q env σ:=h _ fun _ _ h=>h
theorem Cu {draw:Bool} (h:K env ⟨σ.get,σ.next+1⟩):wpOps X draw [] K env σ:=h
theorem VV {draw:Bool} {o:bU} {r:List bU} (h:∀N:AV->aw->Prop,(∀v s,wpOps X draw r K (upd env o.dst v) s->N v s)->if aD o.guard env then eU X draw o env σ N else N .undef σ):wpOps X draw (o::r) K env σ:=by
 have:=h (fun v s=>wpOps X draw r K (upd env o.dst v) s) fun _ _ h=>h;unfold wpOps
 split
 ·rename_i hw;rw[if_pos hw]at this;exact this
 ·rename_i hw;rw[if_neg hw]at this;exact this
theorem Pr {c:O} {x y:VC} {b:Bool} (hc:dq env c=.bool b) (ht:b=true->dY X x Q env σ) (hf:b=false->dY X y Q env σ):dY X (.cond c x y) Q env σ:=by
 unfold dY;simp only[hc]
 cases b with
 |true=>exact ht rfl
 |false=>exact hf rfl
inductive qC:AV->Prop->Prop->Prop
 |t {A B:Prop}:A->qC (.bool true) A B
 |f {A B:Prop}:B->qC (.bool false) A B
theorem yG {c:O} {x y:VC} {v:AV} (hv:dq env c=v) (h:qC v (dY X x Q env σ) (dY X y Q env σ)):dY X (.cond c x y) Q env σ:=by
 cases h with
 |t h=>exact Pr hv (fun _=>h) (fun e=>by cases e)
 |f h=>exact Pr hv (fun e=>by cases e) (fun _=>h)
theorem VU {c:VC} (I:Nat->Env->aw->Prop) (n:Nat) (h0:I n env σ) (step:∀n env σ,I n env σ->dY X c (fun x e s=>match x with| .normal=>∃m,m<n/\I m e s|x=>Q x e s) env σ)
  (hX:∀(c:VC) (Q Q':Ex->Env->aw->Prop) env σ,(∀x e s,Q x e s->Q' x e s)->dY X c Q env σ->dY X c Q' env σ):dY X (.loop c) Q env σ:=by
 have key:∀N n env σ,n<N->I n env σ->zF (dY X c) Q N env σ:=by
  intro N
  induction N with
  |zero=>intro n env σ h;exact absurd h (Nat.not_lt_zero _)
  |succ N ih=>
   intro n env σ hn hI;refine hX c _ _ env σ (fun x e s hx=>?_) (step n env σ hI)
   cases x with
   |normal=>obtain⟨m,hm,hI'⟩:=hx;exact ih m e s ae hI'
   |exit id=>exact hx
   |ret=>exact hx
 exact⟨n+1,key _ n env σ (Nat.lt_succ_self _) h0⟩
theorem R7 {c:VC} (I:Nat->Env->aw->Prop) (n:Nat) (h0:I n env σ) (step:∀n env σ,I n env σ->dY (Call P) c (fun x e s=>match x with| .normal=>∃m,m<n/\I m e s|x=>Q x e s) env σ):dY (Call P) (.loop c) Q env σ:=
 VU I n h0 step fun c Q Q' env σ hQ h=>lV (fun _ _ _ _ h=>h) ax c Q Q' env σ hQ h
def Bl:VC->List Nat
 | .gh _ ops=>ops.filterMap (·.dst)
 | .seq a b=>Bl a++Bl b
 | .cond _ a b=>Bl a++Bl b
 | .block _ a=>Bl a
 | .loop a=>Bl a
 | .one o c=>o.dst.toList++Bl c
 | .both a b=>Bl a++Bl b
 | .loc _ _ _ c=>Bl c
 | .WV ops=>ops.filterMap (·.dst)
 |_=>[]
def ki (l:List Nat) (env jY:Env):Prop:=∀t,l.contains t=false->jY t=env t
theorem ki.refl (l:List Nat) (env:Env):ki l env env:=fun _ _=>rfl
theorem ki.upd {l:List Nat} {e e':Env} {d:Option Nat} {v:AV} (h:ki l e e') (hd:∀t,d=some t->t∈l):ki l e (upd e' d v):=fun t ht=>by
 cases d with
 |none=>exact h t ht
 |some d=>
  have:t≠d:=fun hc=>by subst hc;rw[<-Bool.not_eq_true,List.contains_iff_mem]at ht;exact ht (hd _ rfl)
  show(if t=d then v else e' t)=e t;rw[if_neg this];exact h t ht
theorem rJ {draw:Bool} {Q:Env->aw->Prop} {l:List Nat} {e0:Env}:∀(ops:List bU) (env:Env) (σ:aw),(∀t,t∈ops.filterMap (·.dst)->t∈l)->ki l e0 env->wpOps (Call P) draw ops Q env σ->wpOps (Call P) draw ops (fun e s=>Q e s/\ki l e0 e) env σ
 |[],env,σ,_,hk,hp=>⟨hp,hk⟩
 |o::r,env,σ,hl,hk,hp=>by
  have hd:∀t,o.dst=some t->t∈l:=fun t ht=>hl t (List.mem_filterMap.2 ⟨o,by simp,ht⟩)
  have hr:∀t,t∈r.filterMap (·.dst)->t∈l:=fun t ht=>hl t (by
   obtain⟨x,hx,h⟩:=List.mem_filterMap.1 ht
   exact List.mem_filterMap.2 ⟨x,List.mem_cons_of_mem _ hx,h⟩)
  unfold wpOps at hp ⊢
  split at hp
  ·rename_i hw;rw[if_pos hw];exact vU (fun _ _ _ _ h=>h) ax (fun v σ' h=>rJ r _ _ hr (hk.upd hd) h) hp
  ·rename_i hw;rw[if_neg hw];exact rJ r _ _ hr (hk.upd hd) hp
theorem nW {Q:Env->aw->Prop} {l:List Nat} {e0:Env}:∀(ops:List bU) (env:Env) (σ:aw),(∀t,t∈ops.filterMap (·.dst)->t∈l)->ki l e0 env->bW ops Q env σ->bW ops (fun e s=>Q e s/\ki l e0 e) env σ
 |[],env,σ,_,hk,hp=>⟨hp,hk⟩
 |o::r,env,σ,hl,hk,hp=>by
  have hd:∀t,o.dst=some t->t∈l:=fun t ht=>hl t (List.mem_filterMap.2 ⟨o,by simp,ht⟩)
  have hr:∀t,t∈r.filterMap (·.dst)->t∈l:=fun t ht=>hl t (by
   obtain⟨x,hx,h⟩:=List.mem_filterMap.1 ht
   exact List.mem_filterMap.2 ⟨x,List.mem_cons_of_mem _ hx,h⟩)
  unfold bW at hp ⊢;refine⟨hp.1,?_⟩;replace hp:=hp.2
  split at hp
  ·split at hp
   ·exact nW r _ _ hr (hk.upd hd) hp
   ·exact hp.elim
  ·split at hp
   ·exact nW r _ _ hr (hk.upd hd) hp
   ·exact hp.elim
  ·split at hp
   ·exact nW r _ _ hr (hk.upd hd) hp
   ·exact hp.elim
theorem Cw {l:List Nat} {e0:Env}:∀(c:VC) (Q:Ex->Env->aw->Prop) (env:Env) (σ:aw),(∀t,t∈Bl c->t∈l)->ki l e0 env->dY (Call P) c Q env σ->dY (Call P) c (fun x e s=>Q x e s/\ki l e0 e) env σ:=by
 intro c
 induction c with
 |skip=>intro Q env σ _ hk hp;exact⟨hp,hk⟩
 |exit id=>intro Q env σ _ hk hp;exact⟨hp,hk⟩
 |ret=>intro Q env σ _ hk hp;exact⟨hp,hk⟩
 |one o c ih=>
  intro Q env σ hl hk hp;have hd:∀t,o.dst=some t->t∈l:=fun t ht=>hl t (List.mem_append_left _ (by rw[ht];simp));have hr:∀t,t∈Bl c->t∈l:=fun t ht=>hl t (List.mem_append_right _ ht);unfold dY at hp ⊢
  split at hp
  ·rename_i hw;rw[if_pos hw];exact vU (fun _ _ _ _ h=>h) ax (fun v σ' h=>ih Q _ _ hr (hk.upd hd) h) hp
  ·rename_i hw;rw[if_neg hw];exact ih Q _ _ hr (hk.upd hd) hp
 |both a b iha ihb=>
  intro Q env σ hl hk hp;exact⟨iha Q env σ (fun t ht=>hl t (List.mem_append_left _ ht)) hk hp.1,ihb Q env σ (fun t ht=>hl t (List.mem_append_right _ ht)) hk hp.2⟩
 |loc t s y c ih=>intro Q env σ hl hk hp;exact⟨hp.1,ih Q env σ hl hk hp.2⟩
 |WV ops=>intro Q env σ hl hk hp;exact nW ops env σ hl hk hp
 |gh draw ops=>intro Q env σ hl hk hp;exact rJ ops env σ hl hk hp
 |seq a b iha ihb=>
  intro Q env σ hl hk hp;refine lV (fun _ _ _ _ h=>h) ax a _ _ env σ (fun x e s hx=>?_) (iha _ env σ (fun t ht=>hl t (List.mem_append_left _ ht)) hk hp)
  cases x with
  |normal=>exact ihb Q e s (fun t ht=>hl t (List.mem_append_right _ ht)) hx.2 hx.1
  |exit id=>exact hx
  |ret=>exact hx
 |cond c a b iha ihb=>
  intro Q env σ hl hk hp;unfold dY at hp ⊢
  split at hp
  ·rename_i t ht
   cases t with
   |true=>exact iha Q env σ (fun t ht=>hl t (List.mem_append_left _ ht)) hk hp
   |false=>exact ihb Q env σ (fun t ht=>hl t (List.mem_append_right _ ht)) hk hp
  ·exact hp.elim
 |block id a iha=>
  intro Q env σ hl hk hp;refine lV (fun _ _ _ _ h=>h) ax a _ _ env σ (fun x e s hx=>?_) (iha _ env σ hl hk hp);obtain⟨hx,Ej⟩:=hx
  cases x with
  |normal=>exact⟨hx,Ej⟩
  |ret=>exact⟨hx,Ej⟩
  |exit lP=>
   unfold ba at hx ⊢;dsimp only at hx ⊢
   split at hx
   ·rename_i hid;rw[if_pos hid];exact⟨hx,Ej⟩
   ·rename_i hid;rw[if_neg hid];exact⟨hx,Ej⟩
 |loop a iha=>
  intro Q env σ hl hk hp;obtain⟨n,hp⟩:=hp;refine⟨n,?_⟩
  induction n generalizing env σ with
  |zero=>exact hp
  |succ n ihn=>
   refine lV (fun _ _ _ _ h=>h) ax _ _ _ _ _ (fun x e s hx=>?_) (iha _ env σ hl hk hp);obtain⟨hx,Ej⟩:=hx
   cases x with
   |normal=>exact ihn e s Ej hx
   |exit id=>exact⟨hx,Ej⟩
   |ret=>exact⟨hx,Ej⟩
theorem cj {c:VC} (I:Nat->Env->aw->Prop) (n:Nat) (h0:I n env σ) (step:∀n e s,I n e s->ki (Bl c) env e->dY (Call P) c (fun x e s=>match x with| .normal=>∃m,m<n/\I m e s|x=>Q x e s) e s):dY (Call P) (.loop c) Q env σ:=by
 refine R7 (fun n e s=>I n e s/\ki (Bl c) env e) n ⟨h0,ki.refl _ _⟩ fun n e s hI=>?_;refine lV (fun _ _ _ _ h=>h) ax _ _ _ _ _ (fun x e' s' hx=>?_) (Cw c _ e s (fun _ h=>h) hI.2 (step n e s hI.1 hI.2));obtain⟨hx,hk⟩:=hx
 cases x with
 |normal=>obtain⟨m,hm,h⟩:=hx;exact⟨m,hm,h,hk⟩
 |exit id=>exact hx
 |ret=>exact hx
theorem db {z:Int} (h: -9223372036854775808<=z/\z<=9223372036854775807):IntKind.i64.wrap z=z:=by rw[IntKind.wrap_i64];omega
theorem aZ {k:Nat} (h:(k:Int)+1<=9223372036854775807):IntKind.i64.wrap ((k:Int)+1)=((k+1:Nat):Int):=by rw[IntKind.wrap_i64];omega
theorem all_succ {k:Nat} {p:Nat->Prop} (h:∀j,j<k->p j) (hk:p k):∀j,j<k+1->p j:=fun j hj=>by
 by_cases Df:j=k
 ·subst Df;exact hk
 ·exact h j ae
theorem aL (g:Rows) (n:Nat) (k:IntKind) (m:Int):fz g (n+1) (.int k m)=some (.int k m):=by rw[fz]<;>intros<;>simp_all
theorem aW (g:Rows) (n:Nat) (b:Bool):fz g (n+1) (.bool b)=some (.bool b):=by rw[fz]<;>intros<;>simp_all
theorem bj (g:Rows) (n:Nat) (b:ByteArray):fz g (n+1) (.str b)=some (.str b):=by rw[fz]<;>intros<;>simp_all
theorem bP (g:Rows) (n:Nat) (l:List (List AV)):fz g (n+1) (.sl l)=some (.sl l):=by rw[fz]<;>intros<;>simp_all
theorem aM (g:Rows) (n:Nat):fz g (n+1) .ck=some .ck:=by rw[fz]<;>intros<;>simp_all
def au (P:Program) (f:Nat) (args:List AV) (r:AV):Prop:=∀n:Nat,Call P f args ⟨fun _=>none,n⟩ fun r0 σ'=>∃r',iG σ'.get 6 r0=some r'/\r'=r
theorem au.body {f:Nat} {args:List AV} {r:AV} {nt na:Nat} {body:VC} {res:List qE} (hf:AJ P f=some ⟨nt,na,body,res⟩) (ha:na=args.length) (h:(∀a∈args,fU a)->∀n:Nat,dY (Call P) body (oj res fun r0 σ'=>∃r',iG σ'.get 6 r0=some r'/\r'=r) (bV args) ⟨fun _=>none,n⟩):au P f args r:=fun n=>rL hf ha fun hl=>h hl n
theorem au.x {f:Nat} {args args':List AV} {r:AV} (h:au P f args' r) {σ:aw} (hv:eM (ef σ.get) 6 args=some args'):fm (Call P) f args σ (fun r'=>r'=r):=.inr ⟨args',hv,h _⟩
theorem ec (g:Rows) (n:Nat) (k:IntKind) (m:Int):iG g (n+1) (.int k m)=some (.int k m):=by rw[iG]<;>intros<;>simp_all
theorem fK (g:Rows) (n:Nat) (b:Bool):iG g (n+1) (.bool b)=some (.bool b):=by rw[iG]<;>intros<;>simp_all
theorem C4 (g:Rows) (n:Nat) (b:ByteArray):iG g (n+1) (.str b)=some (.str b):=by rw[iG]<;>intros<;>simp_all
theorem mN (g:Rows) (n:Nat):iG g (n+1) .ck=some .ck:=by rw[iG]<;>intros<;>simp_all
theorem fY (g:Rows) (n:Nat) (l:List AV):iG g (n+1) (.gG l)=(fC g n l).map AV.gG:=by rw[iG]
theorem mo (g:Rows) (n:Nat) (l:List AV):iG g (n+1) (.agg l)=(fC g n l).map AV.agg:=by rw[iG]
theorem uK {g:Rows} {n:Nat} {id:Id} {off len sz:Nat} {rows rows':List (List AV)} (h:g id=some ⟨true,sz,rows⟩) (hl:off+len<=rows.length) (hr:iX g n ((rows.drop off).take len)=some rows'):iG g (n+1) (.own id off len)=some (.sl rows'):=by
 rw[iG];simp only[h,if_true,if_pos hl,hr,Option.map_some]
theorem cW (g:Rows) (n:Nat):fC g n []=some []:=by rw[fC]
theorem bR (g:Rows) (n:Nat) (a:AV) (l:List AV):fC g n (a::l)=match iG g n a with
  |some b=>(fC g n l).map (b::·)
  |none=>none:=by rw[fC];cases iG g n a<;>rfl
theorem xw {g:Rows} {n:Nat}:∀{l:List (List AV)},(∀c∈l,fC g n c=some c)->iX g n l=some l
 |[],_=>by rw[iX]
 |c::r,h=>by rw[iX,h c (by simp),xw fun d hd=>h d (List.mem_cons_of_mem _ hd)];rfl
theorem bb (g:Rows) (n:Nat) (l:List AV):fz g (n+1) (.agg l)=(eM g n l).map AV.agg:=by rw[fz]
theorem aJ (g:Rows) (n:Nat) (l:List AV):fz g (n+1) (.dZ l)=some (.dZ l):=by rw[fz]<;>intros<;>simp_all
theorem mO {g:Rows} {n:Nat} {id:Id} {i off sz:Nat} {rows:List (List AV)} {cs uD:List AV} (h:g id=some ⟨true,sz,rows⟩) (hi:rows[i]? =some cs) (hr:eM g n (cs.drop off)=some uD):fz g (n+1) (.ptr id i off)=some (.dZ uD):=by
 rw[fz];simp only[h,if_true,hi,hr,Option.map_some]
theorem aj (g:Rows) (n:Nat):eM g n []=some []:=by rw[eM]
theorem ah (g:Rows) (n:Nat) (a:AV) (l:List AV):eM g n (a::l)=match fz g n a with
  |some b=>(eM g n l).map (b::·)
  |none=>none:=by rw[eM];cases fz g n a<;>rfl
theorem oP {t:Nat} {r r0:AV} {x:Ex} (hx:x=.ret∨x=.normal) (he:env t=r0) (hz:iG σ.get 6 r0=some r):oj [.tmp t] (fun r0 σ'=>∃r',iG σ'.get 6 r0=some r'/\r'=r) x env σ:=by
 have:∃vs,ir env σ.get [.tmp t]=some vs/\∃r',iG σ.get 6 (gH vs)=some r'/\r'=r:=⟨[env t],rfl,r,by subst he;exact hz,rfl⟩
 rcases hx with rfl|rfl
 ·exact this
 ·exact this
theorem cZ {t:Nat} {b c:Bool} {x:Ex} (hx:x=.ret∨x=.normal) (he:env t=.bool b) (hb:b=c):oj [.tmp t] (fun r0 σ'=>∃r',iG σ'.get 6 r0=some r'/\r'=.bool c) x env σ:=oP hx he (by rw[fK,hb])
theorem ed {t:Nat} {k:IntKind} {b c:Int} {x:Ex} (hx:x=.ret∨x=.normal) (he:env t=.int k b) (hb:b=c):oj [.tmp t] (fun r0 σ'=>∃r',iG σ'.get 6 r0=some r'/\r'=.int k c) x env σ:=oP hx he (by rw[ec,hb])
theorem lQ {t u:Nat} {r r1 r2:AV} {x:Ex} (hx:x=.ret∨x=.normal) (h1:env t=r1) (h2:env u=r2) (hz:iG σ.get 6 (.gG [r1,r2])=some r):oj [.tmp t,.tmp u] (fun r0 σ'=>∃r',iG σ'.get 6 r0=some r'/\r'=r) x env σ:=by
 have:∃vs,ir env σ.get [.tmp t,.tmp u]=some vs/\∃r',iG σ.get 6 (gH vs)=some r'/\r'=r:=⟨[env t,env u],rfl,r,by subst h1;subst h2;exact hz,rfl⟩
 rcases hx with rfl|rfl
 ·exact this
 ·exact this
structure Pn (p:Prop):Prop where
 out:p
theorem g6 {p:Prop} (a:p):Pn p:=⟨a⟩
theorem g7 {p:Prop} (a:Pn p):p:=a.out
theorem g8 (n:Nat):0+n=n:=Nat.zero_add n
theorem i3 {p q:Prop} (a:p):p∨q:=Or.inl a
theorem i4 {n:Nat}:n<=n:=Nat.le_refl n
theorem i5 {α:Type} {l:List α} {i:Nat} (h:i<l.length):l[i]?=some l[i]:=List.getElem?_eq_getElem h
theorem i6 {α:Type} {l m:List α}:(l++m).length=l.length+m.length:=List.length_append
theorem i7 {α β:Type} {b:β} {f:α→β} {x:Option α}:Option.map f x=some b↔∃a,x=some a∧f a=b:=Option.map_eq_some_iff
theorem tw {A B:Prop} (a:A) (b:B):A/\B:=⟨a,b⟩
theorem tw3 {A B C:Prop} (a:A) (b:B) (c:C):A/\B/\C:=⟨a,b,c⟩
theorem tw4 {A B C D:Prop} (a:A) (b:B) (c:C) (d:D):A/\B/\C/\D:=⟨a,b,c,d⟩
theorem tw5 {A B C D E:Prop} (a:A) (b:B) (c:C) (d:D) (e:E):A/\B/\C/\D/\E:=⟨a,b,c,d,e⟩
theorem tw6 {A B C D E F:Prop} (a:A) (b:B) (c:C) (d:D) (e:E) (f:F):A/\B/\C/\D/\E/\F:=⟨a,b,c,d,e,f⟩
theorem tw7 {A B C D E F G:Prop} (a:A) (b:B) (c:C) (d:D) (e:E) (f:F) (g:G):A/\B/\C/\D/\E/\F/\G:=⟨a,b,c,d,e,f,g⟩
theorem tw8 {A B C D E F G H:Prop} (a:A) (b:B) (c:C) (d:D) (e:E) (f:F) (g:G) (h:H):A/\B/\C/\D/\E/\F/\G/\H:=⟨a,b,c,d,e,f,g,h⟩
theorem tw9 {A B C D E F G H J:Prop} (a:A) (b:B) (c:C) (d:D) (e:E) (f:F) (g:G) (h:H) (j:J):A/\B/\C/\D/\E/\F/\G/\H/\J:=⟨a,b,c,d,e,f,g,h,j⟩
theorem wk {A R G:Prop} (a:A) (r:R) (h:A->R->G:=by
  intro fL kk;(repeat(apply g6;intro N hN))
  (first|((first|apply Cv|apply J2);intro N hN)|((first|(apply VV;intro N hN)|(apply J1;intro N hN));simp only[go_sem,↓reduceIte,Nat.reduceEqDiff,Nat.reduceAdd,Nat.reduceSub,Nat.reduceMul,Nat.reduceLeDiff,Nat.reduceBEq,reduceCtorEq,Nat.reduceLT,Int.reduceLE,Int.reduceLT,Int.reduceToNat,Int.reduceNeg,Int.reduceAdd,Int.reduceEq,fL];first|(apply hN;clear hN N)|skip)|(apply yG;(simp only[go_sem,↓reduceIte,Nat.reduceEqDiff,Nat.reduceAdd,Nat.reduceSub,Nat.reduceMul,Nat.reduceLeDiff,Nat.reduceBEq,reduceCtorEq,Nat.reduceLT,Int.reduceLE,Int.reduceLT,Int.reduceToNat,Int.reduceNeg,Int.reduceAdd,Int.reduceEq,fL];rfl);first|with_reducible apply qC.t|with_reducible apply qC.f)|(apply Cu;apply hN;clear hN N;try(simp only[dc,ba, ↓reduceIte,Nat.reduceEqDiff]);try(apply hN;clear hN N))|apply yF|(refine D8 ?_ ?_ ?_;(focus(simp only[go_sem,↓reduceIte,Nat.reduceEqDiff,Nat.reduceAdd,Nat.reduceSub,Nat.reduceMul,Nat.reduceLeDiff,Nat.reduceBEq,reduceCtorEq,Nat.reduceLT,Int.reduceLE,Int.reduceLT,Int.reduceToNat,Int.reduceNeg,Int.reduceAdd,Int.reduceEq,fL];done));(focus(simp only[go_sem,↓reduceIte,Nat.reduceEqDiff,Nat.reduceAdd,Nat.reduceSub,Nat.reduceMul,Nat.reduceLeDiff,Nat.reduceBEq,reduceCtorEq,Nat.reduceLT,Int.reduceLE,Int.reduceLT,Int.reduceToNat,Int.reduceNeg,Int.reduceAdd,Int.reduceEq,fL];done)))|((first|apply Ea|apply D7|apply J3);try(simp only[dc,ba, ↓reduceIte,Nat.reduceEqDiff]);try(apply hN;clear hN N))|((first|apply hN|(clear hN N;first|apply hN|(clear hN N;first|apply hN|(clear hN N;first|apply hN|(clear hN N;apply hN)))));clear hN N))
  (repeat(first|((first|apply Cv|apply J2);intro N hN)|((first|(apply VV;intro N hN)|(apply J1;intro N hN));simp only[go_sem,↓reduceIte,Nat.reduceEqDiff,Nat.reduceAdd,Nat.reduceSub,Nat.reduceMul,Nat.reduceLeDiff,Nat.reduceBEq,reduceCtorEq,Nat.reduceLT,Int.reduceLE,Int.reduceLT,Int.reduceToNat,Int.reduceNeg,Int.reduceAdd,Int.reduceEq,fL];first|(apply hN;clear hN N)|skip)|(apply yG;(simp only[go_sem,↓reduceIte,Nat.reduceEqDiff,Nat.reduceAdd,Nat.reduceSub,Nat.reduceMul,Nat.reduceLeDiff,Nat.reduceBEq,reduceCtorEq,Nat.reduceLT,Int.reduceLE,Int.reduceLT,Int.reduceToNat,Int.reduceNeg,Int.reduceAdd,Int.reduceEq,fL];rfl);first|with_reducible apply qC.t|with_reducible apply qC.f)|(apply Cu;apply hN;clear hN N;try(simp only[dc,ba, ↓reduceIte,Nat.reduceEqDiff]);try(apply hN;clear hN N))|apply yF|(refine D8 ?_ ?_ ?_;(focus(simp only[go_sem,↓reduceIte,Nat.reduceEqDiff,Nat.reduceAdd,Nat.reduceSub,Nat.reduceMul,Nat.reduceLeDiff,Nat.reduceBEq,reduceCtorEq,Nat.reduceLT,Int.reduceLE,Int.reduceLT,Int.reduceToNat,Int.reduceNeg,Int.reduceAdd,Int.reduceEq,fL];done));(focus(simp only[go_sem,↓reduceIte,Nat.reduceEqDiff,Nat.reduceAdd,Nat.reduceSub,Nat.reduceMul,Nat.reduceLeDiff,Nat.reduceBEq,reduceCtorEq,Nat.reduceLT,Int.reduceLE,Int.reduceLT,Int.reduceToNat,Int.reduceNeg,Int.reduceAdd,Int.reduceEq,fL];done)))|((first|apply Ea|apply D7|apply J3);try(simp only[dc,ba, ↓reduceIte,Nat.reduceEqDiff]);try(apply hN;clear hN N))|((first|apply hN|(clear hN N;first|apply hN|(clear hN N;first|apply hN|(clear hN N;first|apply hN|(clear hN N;apply hN)))));clear hN N)));(repeat(revert N;apply g7))
  exact kk):G:=h a r
theorem wa {A R G:Prop} (a:A) (r:R) (h:A->R->G:=by
  intro fL kk;(repeat(apply g6;intro N hN))
  (first|((first|apply Cv|apply J2);intro N hN)|((first|(refine TE rfl fun N hN=>?_)|(apply J1;intro N hN));simp only[go_sem,↓reduceIte,Nat.reduceEqDiff,Nat.reduceAdd,Nat.reduceSub,Nat.reduceMul,Nat.reduceLeDiff,Nat.reduceBEq,reduceCtorEq,Nat.reduceLT,Int.reduceLE,Int.reduceLT,Int.reduceToNat,Int.reduceNeg,Int.reduceAdd,Int.reduceEq,fL];first|(apply hN;clear hN N)|skip)|(apply yG;(simp only[go_sem,↓reduceIte,Nat.reduceEqDiff,Nat.reduceAdd,Nat.reduceSub,Nat.reduceMul,Nat.reduceLeDiff,Nat.reduceBEq,reduceCtorEq,Nat.reduceLT,Int.reduceLE,Int.reduceLT,Int.reduceToNat,Int.reduceNeg,Int.reduceAdd,Int.reduceEq,fL];rfl);first|with_reducible apply qC.t|with_reducible apply qC.f)|(apply Cu;apply hN;clear hN N;try(simp only[dc,ba, ↓reduceIte,Nat.reduceEqDiff]);try(apply hN;clear hN N))|apply yF|(refine D8 ?_ ?_ ?_;(focus(simp only[go_sem,↓reduceIte,Nat.reduceEqDiff,Nat.reduceAdd,Nat.reduceSub,Nat.reduceMul,Nat.reduceLeDiff,Nat.reduceBEq,reduceCtorEq,Nat.reduceLT,Int.reduceLE,Int.reduceLT,Int.reduceToNat,Int.reduceNeg,Int.reduceAdd,Int.reduceEq,fL];done));(focus(simp only[go_sem,↓reduceIte,Nat.reduceEqDiff,Nat.reduceAdd,Nat.reduceSub,Nat.reduceMul,Nat.reduceLeDiff,Nat.reduceBEq,reduceCtorEq,Nat.reduceLT,Int.reduceLE,Int.reduceLT,Int.reduceToNat,Int.reduceNeg,Int.reduceAdd,Int.reduceEq,fL];done)))|((first|apply Ea|apply D7|apply J3);try(simp only[dc,ba, ↓reduceIte,Nat.reduceEqDiff]);try(apply hN;clear hN N))|((first|apply hN|(clear hN N;first|apply hN|(clear hN N;first|apply hN|(clear hN N;first|apply hN|(clear hN N;apply hN)))));clear hN N))
  (repeat(first|((first|apply Cv|apply J2);intro N hN)|((first|(refine TE rfl fun N hN=>?_)|(apply J1;intro N hN));simp only[go_sem,↓reduceIte,Nat.reduceEqDiff,Nat.reduceAdd,Nat.reduceSub,Nat.reduceMul,Nat.reduceLeDiff,Nat.reduceBEq,reduceCtorEq,Nat.reduceLT,Int.reduceLE,Int.reduceLT,Int.reduceToNat,Int.reduceNeg,Int.reduceAdd,Int.reduceEq,fL];first|(apply hN;clear hN N)|skip)|(apply yG;(simp only[go_sem,↓reduceIte,Nat.reduceEqDiff,Nat.reduceAdd,Nat.reduceSub,Nat.reduceMul,Nat.reduceLeDiff,Nat.reduceBEq,reduceCtorEq,Nat.reduceLT,Int.reduceLE,Int.reduceLT,Int.reduceToNat,Int.reduceNeg,Int.reduceAdd,Int.reduceEq,fL];rfl);first|with_reducible apply qC.t|with_reducible apply qC.f)|(apply Cu;apply hN;clear hN N;try(simp only[dc,ba, ↓reduceIte,Nat.reduceEqDiff]);try(apply hN;clear hN N))|apply yF|(refine D8 ?_ ?_ ?_;(focus(simp only[go_sem,↓reduceIte,Nat.reduceEqDiff,Nat.reduceAdd,Nat.reduceSub,Nat.reduceMul,Nat.reduceLeDiff,Nat.reduceBEq,reduceCtorEq,Nat.reduceLT,Int.reduceLE,Int.reduceLT,Int.reduceToNat,Int.reduceNeg,Int.reduceAdd,Int.reduceEq,fL];done));(focus(simp only[go_sem,↓reduceIte,Nat.reduceEqDiff,Nat.reduceAdd,Nat.reduceSub,Nat.reduceMul,Nat.reduceLeDiff,Nat.reduceBEq,reduceCtorEq,Nat.reduceLT,Int.reduceLE,Int.reduceLT,Int.reduceToNat,Int.reduceNeg,Int.reduceAdd,Int.reduceEq,fL];done)))|((first|apply Ea|apply D7|apply J3);try(simp only[dc,ba, ↓reduceIte,Nat.reduceEqDiff]);try(apply hN;clear hN N))|((first|apply hN|(clear hN N;first|apply hN|(clear hN N;first|apply hN|(clear hN N;first|apply hN|(clear hN N;apply hN)))));clear hN N)));(repeat(revert N;apply g7))
  exact kk):G:=h a r
theorem sd {A G:Prop} (a:A) (h:A->G:=by
  intro fL
  first|(simp only[go_sem,↓reduceIte,Nat.reduceEqDiff,Nat.reduceAdd,Nat.reduceSub,Nat.reduceMul,Nat.reduceLeDiff,Nat.reduceBEq,reduceCtorEq,Nat.reduceLT,Int.reduceLE,Int.reduceLT,Int.reduceToNat,Int.reduceNeg,Int.reduceAdd,Int.reduceEq,fL,ir,jw];done)|fail):G:=h a
theorem sl {A G:Prop} (a:A) (h:A->G:=by
  intro fL;(try simp only[go_sem,↓reduceIte,Nat.reduceEqDiff,Nat.reduceAdd,Nat.reduceSub,Nat.reduceMul,Nat.reduceLeDiff,Nat.reduceBEq,reduceCtorEq,Nat.reduceLT,Int.reduceLE,Int.reduceLT,Int.reduceToNat,Int.reduceNeg,Int.reduceAdd,Int.reduceEq,fL])
  try rfl):G:=h a
end V

namespace V
open Go.RowKit
variable {P:Program} {X:gO} {env:Env} {σ:aw}
theorem bp (g:Rows) (n:Nat) (l:List AV):fz g (n+1) (.gG l)=(eM g n l).map AV.gG:=by rw[fz]
theorem cq (g:Rows) (n:Nat) (f:Nat) (l:List AV):fz g (n+1) (.fn f l)=if l.all AV.cell then(eM g n l).map (AV.fn f)else none:=by rw[fz]
theorem aY (g:Rows) (n:Nat) (id:Id) (i off:Nat):fz g (n+1) (.ptr id i off)=match g id with
  |some r=>if r.w then(match r.rows[i]? with
   |some cs=>(eM g n (cs.drop off)).map AV.dZ
   |none=>none)else none
  |none=>none:=by rw[fz];rfl
theorem uL (g:Rows) (n:Nat) (id:Id) (off len:Nat):fz g (n+1) (.own id off len)=match g id with
  |some r=>if r.w then(if off+len<=r.rows.length then(jn g n ((r.rows.drop off).take len)).map AV.sl else none)else none
  |none=>none:=by rw[fz];rfl
theorem xu (g:Rows) (n:Nat):jn g n []=some []:=by rw[jn]
theorem uJ (g:Rows) (n:Nat) (c:List AV) (l:List (List AV)):jn g n (c::l)=match eM g n c with
  |some b=>(jn g n l).map (b::·)
  |none=>none:=by rw[jn];cases eM g n c<;>rfl
theorem tC {g:Rows} {n:Nat}:∀{l:List (List AV)},(∀c∈l,eM g n c=some c)->jn g n l=some l
 |[],_=>by rw[jn]
 |c::r,h=>by rw[jn,h c (by simp),tC fun d hd=>h d (List.mem_cons_of_mem _ hd)];rfl
theorem pk {α:Type} {g:Rows} {n:Nat} {e:α->List AV} {l:List α} (h:∀x,eM g n (e x)=some (e x)):jn g n (l.map e)=some (l.map e):=tC fun c hc=>by
 obtain⟨x,_,rfl⟩:=List.mem_map.1 hc;exact h x
theorem xz {α:Type} {g:Rows} {n:Nat} {e:α->List AV} {l:List α} (h:∀x,fC g n (e x)=some (e x)):iX g n (l.map e)=some (l.map e):=xw fun c hc=>by
 obtain⟨x,_,rfl⟩:=List.mem_map.1 hc;exact h x
theorem gj {α:Type} {g:Rows} {n:Nat} {e:α->List AV} {l:List α} {id:Id} {sz len:Nat} (hg:g id=some ⟨true,sz,l.map e⟩) (hl:len=l.length) (h:∀x,eM g n (e x)=some (e x)):fz g (n+1) (.own id 0 len)=some (.sl (l.map e)):=by
 subst hl;rw[uL];simp only[hg,if_true];rw[if_pos (by simp),List.drop_zero,List.take_of_length_le (by simp),pk h];rfl
theorem eQ {α:Type} {g:Rows} {n:Nat} {e:α->List AV} {l:List α} {id:Id} {sz len:Nat} (hg:g id=some ⟨true,sz,l.map e⟩) (hl:len=l.length) (h:∀x,fC g n (e x)=some (e x)):iG g (n+1) (.own id 0 len)=some (.sl (l.map e)):=by
 subst hl;exact uK hg (by simp) (by rw[List.drop_zero,List.take_of_length_le (by simp),xz h])
theorem all_map {α:Type} {e:α->List AV} {sz:Nat} {l:List α} (h:∀x,(e x).length=sz/\(e x).all AV.cell=true):(l.map e).all (fun c=>c.length==sz&&c.all AV.cell)=true:=by
 rw[List.all_eq_true];intro c hc;obtain⟨x,_,rfl⟩:=List.mem_map.1 hc;simp[(h x).1,(h x).2]
theorem lu {res:List qE} {r:AV} {vs:List AV} {x:Ex} (hx:x=.ret∨x=.normal) (hv:ir env σ.get res=some vs) (hz:iG σ.get 6 (gH vs)=some r):oj res (fun r0 σ'=>∃r',iG σ'.get 6 r0=some r'/\r'=r) x env σ:=by
 rcases hx with rfl|rfl
 ·exact⟨vs,hv,r,hz,rfl⟩
 ·exact⟨vs,hv,r,hz,rfl⟩
theorem eH {res:List qE} {K:AV->aw->Prop} {vs:List AV} {x:Ex} (hx:x=.ret∨x=.normal) (hv:ir env σ.get res=some vs) (hK:K (gH vs) σ):oj res K x env σ:=by
 rcases hx with rfl|rfl
 ·exact⟨vs,hv,hK⟩
 ·exact⟨vs,hv,hK⟩
theorem fG {f:Nat} {args:List AV} {σ:aw} {K:AV->aw->Prop} {nt na:Nat} {body:VC} {res:List qE} (hf:AJ P f=some ⟨nt,na,body,res⟩) (ha:na=args.length) (h:(∀a∈args,fU a)->dY (Call P) body (oj res K) (bV args) σ):Call P f args σ K:=rL hf ha h
theorem tg {f:Nat} {md:List (Nat×Nat)} {args:List AV} {σ:aw} {K:AV->aw->Prop} {nt na:Nat} {body:VC} {res:List qE} (hf:xV P f md=some ⟨nt,na,body,res⟩) (ha:na=args.length) (h:(∀a∈args,fU a)->dY (Call P) body (oj res K) (bV args) σ):Call P f args σ K:=yH hf ha h
theorem cR {i:Id} {n:Nat} (h:i.bH<n):(∀s,(i=⟨s,n⟩)=False/\(i=⟨s,n+1⟩)=False/\(i=⟨s,n+1+1⟩)=False/\(i=⟨s,n+1+1+1⟩)=False/\(i=⟨s,n+1+1+1+1⟩)=False/\(i=⟨s,n+1+1+1+1+1⟩)=False/\(i=⟨s,n+1+1+1+1+1+1⟩)=False/\(i=⟨s,n+1+1+1+1+1+1+1⟩)=False/\(i=⟨s,n+1+1+1+1+1+1+1+1⟩)=False/\(i=⟨s,n+1+1+1+1+1+1+1+1+1⟩)=False/\(⟨s,n⟩=i)=False/\(⟨s,n+1⟩=i)=False/\(⟨s,n+1+1⟩=i)=False/\(⟨s,n+1+1+1⟩=i)=False/\(⟨s,n+1+1+1+1⟩=i)=False/\(⟨s,n+1+1+1+1+1⟩=i)=False/\(⟨s,n+1+1+1+1+1+1⟩=i)=False/\(⟨s,n+1+1+1+1+1+1+1⟩=i)=False/\(⟨s,n+1+1+1+1+1+1+1+1⟩=i)=False/\(⟨s,n+1+1+1+1+1+1+1+1+1⟩=i)=False)/\(i.bH=n)=False/\(i.bH=n+1)=False/\(i.bH=n+1+1)=False/\(i.bH=n+1+1+1)=False/\(i.bH=n+1+1+1+1)=False/\(i.bH=n+1+1+1+1+1)=False/\(i.bH=n+1+1+1+1+1+1)=False/\(i.bH=n+1+1+1+1+1+1+1)=False/\(i.bH=n+1+1+1+1+1+1+1+1)=False/\(i.bH=n+1+1+1+1+1+1+1+1+1)=False:=by
 refine⟨fun s=>?_,?_⟩
 ·obtain⟨a,b⟩:=i;simp only[Id.mk.injEq,eq_iff_iff,iff_false,not_and]
  simp only at h
  refine⟨?_,?_,?_,?_,?_,?_,?_,?_,?_,?_,?_,?_,?_,?_,?_,?_,?_,?_,?_,?_⟩<;>(intros;omega)
 ·simp only[eq_iff_iff,iff_false];refine⟨?_,?_,?_,?_,?_,?_,?_,?_,?_,?_⟩<;>omega
def Kept (σ σ':aw):Prop:=σ.next<=σ'.next/\∀j:Id,j.bH<σ.next->σ'.get j=σ.get j
end V

namespace V
open Go.RowKit
attribute [local irreducible] dY wpOps fm Call
attribute [go_sem] aD eU eA fh fc dq upd bV K.av cz AV.cells AV.cell rowOf rowsOf part ld rowAt fD bJ bQ dz dF fF br cQ dP e8 eF dh dI cM cL dr du bz aU cD bx cH cF dy dJ dH cB bF cP dG bt az cJ bY fE bd cr bD aP dc ba dj AV.undef bh bq dw dD dn dm cm dM dQ bW dL dK cI cK List.getD_cons_zero List.getD_cons_succ List.getD_nil List.all_cons List.all_nil Bool.and_true Bool.true_and Bool.and_self Bool.not_true Bool.not_false Option.map_some Option.map_none Option.bind_some Option.bind_none List.length_cons List.length_nil List.take_succ_cons List.take_zero List.take_nil List.drop_succ_cons List.drop_zero List.drop_nil List.head?_cons List.map_cons List.map_nil List.getElem?_cons_zero List.getElem?_cons_succ List.cons_append List.nil_append List.append_nil List.length_map List.set_cons_zero List.set_cons_succ Nat.reduceMul eq_self Int.toNat_natCast Int.natCast_nonneg and_self true_and and_true decide_true decide_false Bool.false_eq_true Nat.zero_add Nat.add_zero List.contains_cons List.contains_nil Bool.or_false Bool.false_or beq_self_eq_true Nat.reduceBEq ne_eq not_true_eq_false not_false_eq_true Id.mk.injEq false_and and_false Nat.reduceLT Int.reduceLE Int.reduceLT Int.reduceToNat Int.reduceNeg Int.reduceAdd Nat.le_refl i6 beq_true beq_false Bool.not_eq_eq_eq_not or_false false_or ef ah aj aL aW bj bP aM bb aJ aY cq bp
variable {P:Program}
end V

section
open Go.RowKit
theorem V.g9 {G:Prop} (h:G:=by kernel_rfl):G:=h
def Sl (w:World) (fp:List Nat) (v:Value) (n:Nat) (xs:List Value):Prop:=
 ∃A c,v=.slice A n c/\n<=c/\c<=maxLen/\
  ((fp=[]/\n=0)∨∃b o,fp=[b]/\A=some ⟨b,o,none⟩/\∀j u,xs[j]? =some u->w.cell? ⟨b,o+j,none⟩=some u)
def lX (fp:List Nat) (lo hi:Nat):Prop:=∀b∈fp,lo<=b/\b<hi
theorem lX.nil (lo hi:Nat):lX [] lo hi:=fun _ h=>by cases h
theorem Sl.nil (w:World):Sl w [] (.slice none 0 0) 0 []:=⟨none,0,rfl,Nat.le_refl _,by simp[maxLen],.inl ⟨rfl,rfl⟩⟩
def TP {α:Type} (rep:World->List Nat->List Value->α->Prop) (sz:Nat) (w:World) (qK:List (List Value)) (I6:List (List Nat)) (ds:List α):Prop:=
 qK.length=ds.length/\I6.length=ds.length/\∀(i:Nat) (cs:List Value) (f:List Nat) (d:α),qK[i]? =some cs->I6[i]? =some f->ds[i]? =some d->rep w f cs d/\cs.length=sz
def pd {α:Type} (rep:World->List Nat->List Value->α->Prop) (sz:Nat) (w:World) (fp:List Nat) (v:Value) (ds:List α):Prop:=
 ∃qK I6 fp0,fp=fp0++I6.flatten/\Sl w fp0 v ds.length qK.flatten/\TP rep sz w qK I6 ds
theorem tP {α:Type} {I6:List (List α)} {i:Nat} {f:List α} (h:I6[i]? =some f):∀b∈f,b∈I6.flatten:=fun b hb=>
 List.mem_flatten.2 ⟨f,List.mem_of_getElem? h,hb⟩
theorem xt {α:Type} {qK:List (List α)} {sz:Nat} (h:∀cs∈qK,cs.length=sz) {i j:Nat} {cs:List α} (hi:qK[i]? =some cs) (hj:j<sz):qK.flatten[i*sz+j]? =cs[j]? :=by
 induction qK generalizing i with
 |nil=>simp at hi
 |cons c r ih=>
  have hc:c.length=sz:=h c (by simp)
  cases i with
  |zero=>
   simp at hi;subst hi
   rw[List.flatten_cons,List.getElem?_append_left (by omega)];simp
  |succ i=>
   rw[List.flatten_cons,List.getElem?_append_right (by rw[hc,Nat.succ_mul];omega)];have:(i+1)*sz+j-c.length=i*sz+j:=by rw[hc,Nat.succ_mul];omega
   rw[this];exact ih (fun cs eD=>h cs (List.mem_cons_of_mem _ eD)) (by simpa using hi)
theorem TP.lens {α:Type} {rep:World->List Nat->List Value->α->Prop} {sz:Nat} {w:World} {qK:List (List Value)} {I6:List (List Nat)} {ds:List α}
  (h:TP rep sz w qK I6 ds):∀cs∈qK,cs.length=sz:=fun cs eD=>by
 obtain⟨i,hi,rfl⟩:=List.getElem_of_mem eD;have h1:i<I6.length:=by rw[h.2.1,<-h.1];exact hi
 have h2:i<ds.length:=by rw[<-h.1];exact hi
 exact(h.2.2 i _ _ _ (V.i5 hi) (V.i5 h1) (V.i5 h2)).2
theorem pd.at_ {α:Type} {rep:World->List Nat->List Value->α->Prop} {sz:Nat} {w:World} {fp:List Nat} {A:Option Addr} {n c:Nat} {ds:List α}
  (h:pd rep sz w fp (.slice A n c) ds) (k:Nat) (hk:k<ds.length):
  ∃b o cs f,A=some ⟨b,o,none⟩/\b∈fp/\(∀x∈f,x∈fp)/\rep w f cs ds[k]/\cs.length=sz/\∀j u,cs[j]? =some u->w.cell? ⟨b,o+(k*sz+j),none⟩=some u:=by
 obtain⟨qK,I6,fp0,rfl,⟨A',c',hv,_,_,hc⟩,hr⟩:=h;simp only[Value.slice.injEq]at hv;obtain⟨rfl,hn,rfl⟩:=hv
 rcases hc with⟨_,h0⟩|⟨b,o,rfl,rfl,hc⟩
 ·omega
 have h1:k<qK.length:=by rw[hr.1];exact hk
 have h2:k<I6.length:=by rw[hr.2.1];exact hk
 obtain⟨jv,hl⟩:=hr.2.2 k _ _ _ (V.i5 h1) (V.i5 h2) (V.i5 hk);refine⟨b,o,qK[k],I6[k],rfl,by simp,fun x hx=>List.mem_append_right _ (tP (V.i5 h2) x hx),jv,hl,fun j u hj=>?_⟩;have iL:j<sz:=by rw[<-hl];exact(List.getElem?_eq_some_iff.1 hj).1
 exact hc _ u (by rw[xt hr.lens (V.i5 h1) iL];exact hj)
theorem pd.len {α:Type} {rep:World->List Nat->List Value->α->Prop} {sz:Nat} {w:World} {fp:List Nat} {v:Value} {ds:List α}
  (h:pd rep sz w fp v ds):∃A c,v=.slice A ds.length c/\ds.length<=c/\c<=maxLen:=by
 obtain⟨_,_,_,_,⟨A,c,hv,h1,h2,_⟩,_⟩:=h;exact⟨A,c,hv,h1,h2⟩
theorem pd.nil {α:Type} (rep:World->List Nat->List Value->α->Prop) (sz:Nat) (w:World):pd rep sz w [] (.slice none 0 0) ([]:List α):=
 ⟨[],[],[],rfl,Sl.nil w,rfl,rfl,fun i cs f d hc=>by simp at hc⟩
def Flat {α:Type} (enc:α->List Value):World->List Nat->List Value->α->Prop:=fun _ f cs d=>f=[]/\cs=enc d
def Q (w w':World):Prop:=∃q,w'=w.drewN q
theorem jW {a b:Bool} (h:a=b):Ending.returned (.bool a)=.returned (.bool b):=by rw[h]
theorem JE {k:IntKind} {a b:Int} (h:a=b):Ending.returned (.int k a)=.returned (.int k b):=by rw[h]
def putCells (w:World) (g:Nat):Nat->List Value->World
 |_,[]=>w
 |i,v::r=>putCells (w.setCell ⟨g,i,none⟩ v) g (i+1) r
structure af where
 eV:Int
 eR:Int
deriving DecidableEq
structure aa where
 aH:af
 bK:Int
deriving DecidableEq
structure GW where
 aq:List aa
deriving DecidableEq
structure gy where
 bL:ByteArray
 gV:Int
deriving DecidableEq
structure di where
 bL:ByteArray
 de:List Int
deriving DecidableEq
structure aE where
 bM:List gy
 aq:List di
deriving DecidableEq
structure ar where
 ay:aE
 cw:GW
 aQ:Int
deriving DecidableEq
def iu (d:af):List Value:=[.int .i64 d.eV,.int .i64 d.eR]
def gD (d:aa):List Value:=[.int .i64 d.aH.eV,.int .i64 d.aH.eR,.int .i64 d.bK]
end

namespace V
open Go.RowKit
variable {P:Program} {w:World} {D:Nat->Prop}
def Mr (P:Program) (w:World) (D:Nat->Prop) (al:List AV) (cs:List Value):Prop:=∀(j:Nat) (a:AV),al[j]? =some a->∃u:Value,cs[j]? =some u/\lH P w D a u
theorem OZ {α:Type} {rep:World->List Nat->List Value->α->Prop} {e:α->List AV} {sz:Nat} {f:List Nat} {v:Value} {xs:List α} (h:pd rep sz w f v xs) (hD:∀b∈f,D b)
  (hl:∀x∈xs,(e x).length=sz) (hc:∀x∈xs,∀a∈e x,a.cell=true) (hr:∀x∈xs,∀f' cs,rep w f' cs x->(∀b∈f',D b)->Mr P w D (e x) cs):lH P w D (.sl (xs.map e)) v:=by
 obtain⟨A,c,rfl,h1,h2⟩:=pd.len h
 by_cases h0:xs=[]
 ·subst h0;exact .Er _ _ h2
 have oe:0<xs.length:=List.length_pos_iff.2 h0;obtain⟨b,o,ZR,f0,rfl,hb,hf0,Xi,QO,mv⟩:=pd.at_ h 0 oe
 have key:∀(i:Nat) (hi:i<xs.length),∃cs f',(∀x∈f',x∈f)/\rep w f' cs xs[i]/\cs.length=sz/\∀j u,cs[j]? =some u->w.cell? ⟨b,o+(i*sz+j),none⟩=some u:=by
  intro i hi;obtain⟨b',o',cs,f',SP,_,hf',qz,eD,l7⟩:=pd.at_ h i hi;simp only[Option.some.injEq,Addr.mk.injEq,and_true]at SP;obtain⟨rfl,rfl⟩:=SP;exact⟨cs,f',hf',qz,eD,l7⟩
 refine .sl _ b o _ c sz (fun i j=>(w.cell? ⟨b,o+(i*sz+j),none⟩).getD Go.undef) (by simp) h1 h2 (hD b hb) ?_ ?_ ?_ ?_
 ·intro cs eD;obtain⟨x,hx,rfl⟩:=List.mem_map.1 eD;exact hl x hx
 ·intro cs eD;obtain⟨x,hx,rfl⟩:=List.mem_map.1 eD;exact hc x hx
 ·intro i j hi hj;obtain⟨cs,f',_,_,eD,l7⟩:=key i hi;rw[l7 j cs[j] (i5 ae)]
  rfl
 ·intro i j cs a eD ha
  have hi:i<xs.length:=by
   have:=(List.getElem?_eq_some_iff.1 eD).1
   simpa using this
  obtain⟨uD,f',hf',qz,hcs',l7⟩:=key i hi;simp[hi]at eD;subst eD;obtain⟨u,hu,him⟩:=hr _ (List.getElem_mem hi) f' uD qz (fun b hb=>hD b (hf' b hb)) j a ha;rw[l7 j u hu];exact him
end V

namespace V
open Go.RowKit
variable {P:Program} {w:World} {D:Nat->Prop}
def bf (d:Int):List AV:=[.int .i64 d]
def ab (d:af):List AV:=[.int .i64 d.eV,.int .i64 d.eR]
def ad (d:aa):List AV:=[.int .i64 d.aH.eV,.int .i64 d.aH.eR,.int .i64 d.bK]
def dU (d:gy):List AV:=[.str d.bL,.int .i64 d.gV]
def dp (d:di):List AV:=[.str d.bL,.sl (d.de.map bf)]
def ai (d:aE):List AV:=[.sl (d.bM.map dU),.sl (d.aq.map dp)]
def aK (d:ar):List AV:=[.sl (d.ay.bM.map dU),.sl (d.ay.aq.map dp),.sl (d.cw.aq.map ad),.int .i64 d.aQ]
end V

namespace V
open Go.RowKit
attribute [local irreducible] dY wpOps fm Call
section
variable {P:Program}
theorem mb {X:gO} {Q:Ex->Env->aw->Prop} {N:Env->aw->Prop} {c:VC} {env:Env} {σ:aw} (I:Env->aw->Prop) (h2:∀e s,I e s->N e s) (h1:∀N':Env->aw->Prop,(∀e s,I e s->N' e s)->dY X c (dc N' Q) env σ):dY X c (dc N Q) env σ:=h1 N h2
def pw (f z:Nat) (a:Bool):IL:=let s:=f*1000000
 ⟨19,2,(.seq (.gh false [q 4 (.eX (.k (.int .i64 0))) s]) (.seq (.seq (.gh false [q 6 (.eX (.t 0)) (s+1000),q 7 (.len (.t 6)) (s+1001),q 8 (.eX (.k (.int .i64 0))) (s+1002)]) (.block 0 (.loop (.seq (.gh false [q 9 (.bin .lss .i64 (.t 8) (.t 7)) (s+2000)]) (.seq (.cond (.t 9) .skip (.exit 0)) (.seq (.block 1 (.seq (.gh false [q 10 (.eX (.t 8)) (s+3000),q 5 (.eX (.t 10)) (s+3001)]) (.seq (.gh false [q 11 (.eX (.t 1)) (s+4000),q 12 (.eX (.t 0)) (s+4001),q 13 (.eX (.t 5)) (s+4002),q 14 (.lq z (.t 12) (.t 13)) (s+4003),q 15 (.load a z (.t 14)) (s+4004),q 16 (.xp (.t 11) [(.t 15)]) (s+4005)]) (.cond (.t 16) (.seq (.gh false [q 17 (.eX (.t 5)) (s+5000),q 4 (.eX (.t 17)) (s+5001)]) .ret) .skip)))) (.gh false [q 18 (.bin .add .i64 (.t 8) (.k (.int .i64 1))) (s+6000),q 8 (.eX (.t 18)) (s+6001)]))))))) (.seq (.gh false [q 4 (.eX (.k (.int .i64 (-1)))) (s+7000)]) .ret))),[(.tmp 4)]⟩
def zk (f g:Nat):IL:=let s:=f*1000000
 ⟨9,2,(.seq (.gh false [q 4 (.eX (.k (.bool false))) s]) (.seq (.gh false [q 5 (.eX (.t 0)) (s+1000),q 6 (.eX (.t 1)) (s+1001),q 7 (.call g [(.t 5),(.t 6)]) (s+1002),q 8 (.bin .geq .i64 (.t 7) (.k (.int .i64 0))) (s+1003),q 4 (.eX (.t 8)) (s+1004)]) .ret)),[(.tmp 4)]⟩
def iP {α:Type} (p:α->Bool) (xs:List α):Int:=if xs.findIdx p<xs.length then(xs.findIdx p:Int)else -1
theorem M7 {α:Type} (p:α->Bool) (xs:List α):decide (0<=iP p xs)=xs.any p:=by
 unfold iP
 by_cases h:xs.findIdx p<xs.length
 ·rw[if_pos h];have:xs.any p=true:=List.any_eq_true.2 (List.findIdx_lt_length.1 h);rw[this];simp
 ·rw[if_neg h]
  have:xs.any p=false:=by
   rw[Bool.eq_false_iff];intro hc;exact h (List.findIdx_lt_length.2 (List.any_eq_true.1 hc))
  rw[this];rfl
theorem yi (a:AV) (l m:List AV):a::l++m=a::(l++m):=rfl
theorem CI (l:List AV):[]++l=l:=rfl
structure WR {α:Type} (e:α->List AV) (v:α->AV) (z:Nat) (a:Bool):Prop where
 len:∀x,(e x).length=z
 val:∀x,if a=true then v x=.agg (e x)else e x=[v x]
 fz:∀x g,eM g 6 [v x]=some [v x]
theorem nP {α:Type} {e:α->List AV} {v:α->AV} {z fk:Nat} {a:Bool} (hE:WR e v z a) (hc:AJ P fk=some (pw fk z a)) (xs:List α) (hlen:xs.length<=1048576) (f:Nat) (ea:List AV) (p:α->Bool)
  (hf:∀x∈xs,au P f (v x::ea) (.bool (p x))) (Ny:∀g,eM g 6 ea=some ea):
  au P fk [.sl (xs.map e),.fn f ea] (.int .i64 (iP p xs)):=by
 refine au.body hc rfl fun hl n0=>?_
 try simp only[q]
 clear hl;(try((repeat(revert N;apply g7));refine wk @g8 ?_;repeat(apply g6;intro N hN)));refine cj (fun n env st=>∃k:Nat,n=(xs.length)-k/\k<=(xs.length)/\env 8=.int .i64 (k:Int)/\(∀j:Nat,j<k->∀h:j<xs.length,p xs[j]=false)) (xs.length) ⟨0,ae,ae,sl @g8,fun _ h=>absurd h (Nat.not_lt_zero _)⟩ ?_;rintro n_a m3 i8 ⟨k,rfl,ale,a8,qw⟩ eC;have a0:=eC 0 g9;have a1:=eC 1 g9;have a7:=eC 7 g9;simp only[go_sem,↓reduceIte,Nat.reduceEqDiff,Nat.reduceAdd,Nat.reduceSub,Nat.reduceLeDiff,reduceCtorEq]at a0 a1 a7;clear eC
 by_cases hk:(k:Int)<(xs.length:Int)
 ·have dW:∀{e:Env},(e 8=.int .i64 (IntKind.i64.wrap ((k:Int)+1)))->(∀h:k<xs.length,p xs[k]=false)->∃m0,m0<(xs.length)-k/\∃k:Nat,m0=(xs.length)-k/\k<=(xs.length)/\e 8=.int .i64 (k:Int)/\(∀j:Nat,j<k->∀h:j<xs.length,p xs[j]=false):=fun x1 x2=>⟨_,ae,k+1,rfl,ae,(by rw[x1,aZ ae]),(all_succ qw x2)⟩;have iD:k<xs.length:=ae;have hg:(xs.map e)[k]? =some (e xs[k]):=by simp[iD]
  have Di:=hf _ (List.getElem_mem iD);have hz:=hE.len xs[k];have hv:=hE.val xs[k]
  have qt:eM (ef i8.get) 6 (v xs[k]::ea)=some (v xs[k]::ea):=by
   have h1:=hE.fz xs[k] (ef i8.get);rw[ah,aj]at h1;rw[ah,Ny];revert h1
   cases V.fz (ef i8.get) 6 (v xs[k])<;>simp
  have fin:∀hN:True,(p xs[k]=true->xs.findIdx p=k):=fun _ hp=>by
   rw[List.findIdx_eq iD];exact⟨hp,fun j hj=>qw j hj ae⟩
  cases hp:p xs[k]
  ·have U4:=hp
   cases a
   ·rw[if_neg (by simp)]at hv;have wq:z=1:=by rw[<-hz,hv];rfl
    subst wq;rw[hv]at hg hz;rw[hp]at Di;generalize v xs[k]=c at Di qt hg hz;(try((repeat(revert N;apply g7));refine wk (tw9 @a8 @a0 @a1 @a7 @hk @hg @hz @yi @CI) ?_;repeat(apply g6;intro N hN)));refine .inl ⟨_,au.x Di qt,?_⟩;apply hN;clear hN N;(try((repeat(revert N;apply g7));refine wk (tw4 @a8 @a0 @a1 @a7) ?_;repeat(apply g6;intro N hN)));exact dW (sd (tw4 @a8 @a0 @a1 @a7)) (fun _=>U4)
   ·rw[if_pos rfl]at hv;have ht:(e xs[k]).take z=e xs[k]:=by rw[<-hz,List.take_length]
    rw[hv]at Di qt;rw[hp]at Di;generalize e xs[k]=c at Di qt hg hz ht;(try((repeat(revert N;apply g7));refine wk (tw9 @a8 @a0 @a1 @a7 @hk @hg @hz @ht (tw3 @yi @CI @Nat.le_refl)) ?_;repeat(apply g6;intro N hN)));refine .inl ⟨_,au.x Di qt,?_⟩;apply hN;clear hN N;(try((repeat(revert N;apply g7));refine wk (tw4 @a8 @a0 @a1 @a7) ?_;repeat(apply g6;intro N hN)));exact dW (sd (tw4 @a8 @a0 @a1 @a7)) (fun _=>U4)
  ·have hi:=fin trivial hp
   cases a
   ·rw[if_neg (by simp)]at hv;have wq:z=1:=by rw[<-hz,hv];rfl
    subst wq;rw[hv]at hg hz;rw[hp]at Di;generalize v xs[k]=c at Di qt hg hz;(try((repeat(revert N;apply g7));refine wk (tw9 @a8 @a0 @a1 @a7 @hk @hg @hz @yi @CI) ?_;repeat(apply g6;intro N hN)));refine .inl ⟨_,au.x Di qt,?_⟩;apply hN;clear hN N;(try((repeat(revert N;apply g7));refine wk (tw4 @a8 @a0 @a1 @a7) ?_;repeat(apply g6;intro N hN)));exact ed (b:=(k:Int)) (.inl rfl) (sd @g8) (by rw[iP,hi,if_pos iD])
   ·rw[if_pos rfl]at hv;have ht:(e xs[k]).take z=e xs[k]:=by rw[<-hz,List.take_length]
    rw[hv]at Di qt;rw[hp]at Di;generalize e xs[k]=c at Di qt hg hz ht;(try((repeat(revert N;apply g7));refine wk (tw9 @a8 @a0 @a1 @a7 @hk @hg @hz @ht (tw3 @yi @CI @Nat.le_refl)) ?_;repeat(apply g6;intro N hN)));refine .inl ⟨_,au.x Di qt,?_⟩;apply hN;clear hN N;(try((repeat(revert N;apply g7));refine wk (tw4 @a8 @a0 @a1 @a7) ?_;repeat(apply g6;intro N hN)));exact ed (b:=(k:Int)) (.inl rfl) (sd @g8) (by rw[iP,hi,if_pos iD])
 ·(try((repeat(revert N;apply g7));refine wk (tw5 @a8 @a0 @a1 @a7 @hk) ?_;repeat(apply g6;intro N hN)))
  have hi:¬xs.findIdx p<xs.length:=by
   rw[List.findIdx_lt_length];rintro⟨x,hx,GK⟩;obtain⟨j,hj,rfl⟩:=List.getElem_of_mem hx;rw[qw j ae hj]at GK;cases GK
  exact ed (b:=-1) (.inl rfl) (sd @g8) (by rw[iP,if_neg hi])
theorem kM {α:Type} {e:α->List AV} {v:α->AV} {z fk gk:Nat} {a:Bool} (hE:WR e v z a) (hc:AJ P fk=some (zk fk gk)) (xC:AJ P gk=some (pw gk z a)) (xs:List α) (hlen:xs.length<=1048576) (f:Nat) (ea:List AV) (p:α->Bool) (Fh:ea.all AV.cell=true) (Je:∀g,eM g 5 ea=some ea)
  (hf:∀x∈xs,au P f (v x::ea) (.bool (p x))) (Ny:∀g,eM g 6 ea=some ea):
  au P fk [.sl (xs.map e),.fn f ea] (.bool (xs.any p)):=by
 refine au.body hc rfl fun hl n0=>?_
 try simp only[q]
 clear hl;have hi:=nP hE xC xs hlen f ea p hf Ny;(repeat(first|((repeat(revert N;apply g7));refine wk (tw @Fh @Je) ?_;repeat(apply g6;intro N hN))|((try apply i3);refine⟨_,au.x (hi) (sd (tw @Fh @Je)),?_⟩;apply hN;clear hN N)));exact cZ (b:=decide (0<=iP p xs)) (.inl rfl) (sd @g8) (M7 p xs)
end
def sb (P:Program) (mk:Bool):List Oper->Nat->List Nat
 |[],_=>[]
 |o::r,i=>match ug P o.op with
  |some v=>if tN v||mk&&v.oh then i::sb P mk r (i+1)else sb P mk r (i+1)
  |none=>sb P mk r (i+1)
def yU (P:Program) (ops:Array Oper) (site0:Nat) (mk:Bool) (bs:Array Nat) (hidden:List Nat):List Oper->Nat->Option (List bU)
 |[],_=>some []
 |o::r,j=>do
  let v <-ug P o.op
  let g <-Hg ops o
  pure ({dst:=o.dst,op:=v,guard:=g,site:=site0+j,hid:=(hidden.filter fun i=> !(bs.getD j 0).testBit i&&(i !=j||mk&&v.oh)).map fun i=>site0+i}::(<-yU P ops site0 mk bs hidden r (j+1)))
def qJ (P:Program) (md:List (Nat×Nat)) (fid:Nat):Code->Option VC
 | .skip=>some .skip
 | .region id ops draw=>if draw&&wS md id==2 then(yU P ops ((fid*1000+id)*1000) false (kF ops) (sb P false ops.toList 0) ops.toList 0).bind fun vl=>xO ops vl (kF ops) ops.size (Array.replicate ops.size false)else if draw then(yU P ops ((fid*1000+id)*1000) (wS md id==1) (kF ops) (sb P (wS md id==1) ops.toList 0) ops.toList 0).map (VC.gh true)else(yU P ops ((fid*1000+id)*1000) false #[] [] ops.toList 0).map (if ops.toList.any fun o=>Tf o.op then VC.WV else VC.gh false)
 | .seq a b=>do pure (.seq (<-qJ P md fid a) (<-qJ P md fid b))
 | .cond c x y=>do pure (.cond (<-cO P c) (<-qJ P md fid x) (<-qJ P md fid y))
 | .block id c=>(qJ P md fid c).map (VC.block id)
 | .loop c=>(qJ P md fid c).map VC.loop
 | .exit id=>some (.exit id)
 | .ret=>some .ret
 | .label _=>some .skip
 | .scope c=>qJ P md fid c
 |_=>none
def XD (P:Program) (md:List (Nat×Nat)) (f:Nat):Option IL:=
 match P.funcs[f]? with
 |some fn=>match fn.body with
  |some c=>do
   let b <-qJ P md f c
   let r <-fn.results.toList.mapM (Hh P)
   pure {ntmps:=fn.ntmps,B9:=fn.params.size+fn.nfree,body:=b,res:=r}
  |none=>none
 |none=>none
theorem cfM {P:Program} (md:List (Nat×Nat)) {f:Nat} {v:IL} (_:XD P md f=some v:=by(conv=>lhs;cbv)<;>exact rfl) (h:xV P f md=some v:=by kernel_rfl):xV P f md=some v:=h
theorem fx {P:Program} {f:Nat} {v:IL} (_:XD P [] f=some v:=by(conv=>lhs;cbv)<;>exact rfl) (h:AJ P f=some v:=by kernel_rfl):AJ P f=some v:=h
def zz0:VC:=(.one (q 48 (.call 212 [(.t 47)]) 189010011) (.one (q 9 (.eX (.t 42)) 189010012) (.one (q 10 (.eX (.t 48)) 189010013) (.gh false []))))
def zz1:VC:=(.one (q 47 (.load false 1 (.t 46)) 189010010) zz0)
def zz2:VC:=(.one (q 46 (.lq 1 (.t 43) (.t 45)) 189010009) zz1)
def VP:IL:=⟨118,2,(.seq (.gh false [q 4 (.eX (.k .ck)) 189000000]) (.seq (.gh false [q 17 (.eX (.t 0)) 189001000,q 18 (.sf [.jk] (.t 17) (.t 17)) 189001001,q 5 (.eX (.t 18)) 189001002]) (.seq (.seq (.gh false [q 19 (.eX (.t 5)) 189002000,q 20 (.len (.t 19)) 189002001,q 21 (.eX (.k (.int .i64 0))) 189002002]) (.block 0 (.loop (.seq (.gh false [q 22 (.bin .lss .i64 (.t 21) (.t 20)) 189003000]) (.seq (.cond (.t 22) .skip (.exit 0)) (.seq (.block 1 (.seq (.gh false [q 23 (.eX (.t 21)) 189004000,q 6 (.eX (.t 23)) 189004001]) (.gh false [q 24 (.eX (.t 5)) 189005000,q 25 (.eX (.t 6)) 189005001,q 26 (.eX (.t 6)) 189005002,q 27 (.build [.jk,(.int .i64 0)] [(1,(1,(.t 26)))]) 189005003,q 28 (.box (.t 27)) 189005004,q 29 (.lq 1 (.t 24) (.t 25)) 189005005,⟨none,(.store 1 (.t 29) (.t 28)),none,189005006,[]⟩]))) (.gh false [q 30 (.bin .add .i64 (.t 21) (.k (.int .i64 1))) 189006000,q 21 (.eX (.t 30)) 189006001]))))))) (.seq (.seq (.gh false [q 31 (.eX (.t 1)) 189007000,q 32 (.len (.t 31)) 189007001,q 33 (.eX (.k (.int .i64 0))) 189007002]) (.block 2 (.loop (.seq (.gh false [q 34 (.bin .lss .i64 (.t 33) (.t 32)) 189008000]) (.seq (.cond (.t 34) .skip (.exit 2)) (.seq (.block 3 (.seq (.gh false [q 35 (.lq 3 (.t 31) (.t 33)) 189009000,q 36 (.load true 3 (.t 35)) 189009001,q 8 (.new [(.int .i64 0),(.int .i64 0),(.int .i64 0)]) 189009002,⟨none,(.store 3 (.t 8) (.t 36)),none,189009003,[]⟩]) (.seq (.one (q 37 (.eX (.t 5)) 189010000) (.one (q 38 (.fA 0 (.t 8)) 189010001) (.one (q 39 (.load false 1 (.t 38)) 189010002) (.one (q 40 (.lq 1 (.t 37) (.t 39)) 189010003) (.one (q 41 (.load false 1 (.t 40)) 189010004) (.one (q 43 (.eX (.t 5)) 189010006) (.one (q 44 (.fA 1 (.t 8)) 189010007) (.both (.one (q 42 (.call 212 [(.t 41)]) 189010005) (.one (q 45 (.load false 1 (.t 44)) 189010008) zz2)) (.one (q 45 (.load false 1 (.t 44)) 189010008) (.both (.one (q 42 (.call 212 [(.t 41)]) 189010005) zz2) (.one (q 46 (.lq 1 (.t 43) (.t 45)) 189010009) (.both (.one (q 42 (.call 212 [(.t 41)]) 189010005) zz1) (.one (q 47 (.load false 1 (.t 46)) 189010010) (.one (q 42 (.call 212 [(.t 41)]) 189010005) zz0)))))))))))))) (.block 4 (.seq (.gh true [q 50 (.eX (.t 9)) 189011000,q 51 (.Kg (.t 50)) 189011001,q 52 (.fA 1 (.t 51)) 189011002,q 53 (.load false 1 (.t 52)) 189011003,q 54 (.eX (.t 10)) 189011004,q 55 (.Kg (.t 54)) 189011005,q 56 (.fA 1 (.t 55)) 189011006,q 57 (.load false 1 (.t 56)) 189011007,q 58 (.bin .lss .i64 (.t 53) (.t 57)) 189011008,q 49 (.eX (.t 58)) 189011009]) (.cond (.t 49) (.gh false [q 59 (.eX (.t 10)) 189012000,q 60 (.eX (.t 9)) 189012001,q 61 (.Kg (.t 59)) 189012002,q 62 (.fA 0 (.t 61)) 189012003,⟨none,(.store 1 (.t 62) (.t 60)),none,189012004,[]⟩]) (.seq (.gh true [q 64 (.eX (.t 10)) 189013000,q 65 (.Kg (.t 64)) 189013001,q 66 (.fA 1 (.t 65)) 189013002,q 67 (.load false 1 (.t 66)) 189013003,q 68 (.eX (.t 9)) 189013004,q 69 (.Kg (.t 68)) 189013005,q 70 (.fA 1 (.t 69)) 189013006,q 71 (.load false 1 (.t 70)) 189013007,q 72 (.bin .lss .i64 (.t 67) (.t 71)) 189013008,q 63 (.eX (.t 72)) 189013009]) (.cond (.t 63) (.gh false [q 73 (.eX (.t 9)) 189014000,q 74 (.eX (.t 10)) 189014001,q 75 (.Kg (.t 73)) 189014002,q 76 (.fA 0 (.t 75)) 189014003,⟨none,(.store 1 (.t 76) (.t 74)),none,189014004,[]⟩]) .skip)))))))) (.gh false [q 77 (.bin .add .i64 (.t 33) (.k (.int .i64 1))) 189015000,q 33 (.eX (.t 77)) 189015001]))))))) (.seq (.gh false [q 11 (.eX (.k .ck)) 189016000]) (.seq (.gh false [⟨(some 78),(.mq (.new ⟨false,[.tI]⟩) []),none,189017000,[]⟩,q 12 (.eX (.t 78)) 189017001]) (.seq (.seq (.gh false [q 79 (.eX (.t 5)) 189018000,q 80 (.len (.t 79)) 189018001,q 81 (.eX (.k (.int .i64 0))) 189018002]) (.block 5 (.loop (.seq (.gh false [q 82 (.bin .lss .i64 (.t 81) (.t 80)) 189019000]) (.seq (.cond (.t 82) .skip (.exit 5)) (.seq (.block 6 (.seq (.gh false [q 83 (.eX (.t 81)) 189020000,q 84 (.lq 1 (.t 79) (.t 81)) 189020001,q 85 (.load false 1 (.t 84)) 189020002,q 13 (.eX (.t 83)) 189020003,q 14 (.eX (.t 85)) 189020004]) (.seq (.gh false [q 87 (.eX (.t 12)) 189021000,q 88 (.eX (.t 14)) 189021001,q 89 (.call 212 [(.t 88)]) 189021002,q 90 (.Kg (.t 89)) 189021003,q 91 (.fA 1 (.t 90)) 189021004,q 92 (.load false 1 (.t 91)) 189021005,⟨(some 93),(.mq (.look ⟨false,[.tI]⟩ true (.int .i64 0)) [(.t 87),(.t 92)]),none,189021006,[]⟩,q 86 (.eX (.t 93)) 189021007,q 94 (.extract 0 (.t 86)) 189021008,q 95 (.extract 1 (.t 86)) 189021009,q 15 (.eX (.t 94)) 189021010,q 16 (.eX (.t 95)) 189021011]) (.seq (.seq (.gh false [q 96 (.eX (.t 16)) 189022000,q 97 (.not (.t 96)) 189022001]) (.cond (.t 97) (.seq (.gh false [q 98 (.eX (.t 11)) 189023000,q 99 (.len (.t 98)) 189023001,q 15 (.eX (.t 99)) 189023002]) (.seq (.gh false [q 100 (.eX (.t 12)) 189024000,q 101 (.eX (.t 13)) 189024001,q 102 (.eX (.t 15)) 189024002,⟨none,(.mw (.set ⟨false,[.tI]⟩) [(.t 100),(.t 101),(.t 102)]),none,189024003,[]⟩]) (.gh false [q 103 (.eX (.t 11)) 189025000,q 104 (.gi 1 1 [(.k .ck)]) 189025001,q 105 (.append 1 (.t 103) (.t 104)) 189025002,q 11 (.eX (.t 105)) 189025003]))) .skip)) (.gh false [q 106 (.eX (.t 11)) 189026000,q 107 (.eX (.t 15)) 189026001,q 108 (.eX (.t 11)) 189026002,q 109 (.eX (.t 15)) 189026003,q 110 (.lq 1 (.t 108) (.t 109)) 189026004,q 111 (.load false 1 (.t 110)) 189026005,q 112 (.eX (.t 13)) 189026006,q 113 (.gi 1 1 [(.t 112)]) 189026007,q 114 (.append 1 (.t 111) (.t 113)) 189026008,q 115 (.lq 1 (.t 106) (.t 107)) 189026009,⟨none,(.store 1 (.t 115) (.t 114)),none,189026010,[]⟩]))))) (.gh false [q 116 (.bin .add .i64 (.t 81) (.k (.int .i64 1))) 189027000,q 81 (.eX (.t 116)) 189027001]))))))) (.seq (.gh false [q 117 (.eX (.t 11)) 189028000,q 4 (.eX (.t 117)) 189028001]) .ret)))))))),[(.tmp 4)]⟩
theorem Ue:xV Tryz.prog 189 [(10,2)]=some VP:=by kernel_rfl
def Qd:List Nat:=[109006009,109006010,109006012]
def zz4:bU:=⟨(some 21),(.load false 1 (.t 20)),none,109006001,Qd⟩
def zz5:bU:=⟨(some 23),(.call 98 [(.t 22)]),none,109006003,Qd⟩
def zz6:bU:=⟨(some 24),(.y4 .add (.k (.str [103])) (.t 23)),none,109006004,Qd⟩
def zz7:bU:=⟨(some 26),(.call 33 [(.t 25),(.k (.int .i64 2))]),none,109006006,Qd⟩
def zz8:VC:=(.one ⟨(some 27),(.bin .add .i64 (.k (.int .i64 1)) (.t 26)),none,109006007,Qd⟩ (.one ⟨(some 28),(.build [(.str []),(.int .i64 0)] [(0,(1,(.t 24))),(1,(1,(.t 27)))]),none,109006008,Qd⟩ (.one ⟨(some 29),(.gi 2 1 [(.t 28)]),none,109006009,[109006010,109006012]⟩ (.one ⟨(some 30),(.append 2 (.t 21) (.t 29)),none,109006010,[109006012]⟩ (.one ⟨(some 31),(.fA 0 (.t 5)),none,109006011,[109006012]⟩ (.one ⟨none,(.store 1 (.t 31) (.t 30)),none,109006012,[]⟩ (.gh false [])))))))
def zz9:VC:=(.one zz7 zz8)
def IA:List Nat:=[109016006,109016007,109016009]
def We:bU:=⟨(some 53),(.load false 1 (.t 52)),none,109016001,IA⟩
def Wf:bU:=⟨(some 56),(.call 33 [(.t 54),(.t 55)]),none,109016004,IA⟩
def Wg:VC:=(.one ⟨(some 57),(.bin .add .i64 (.k (.int .i64 1)) (.t 56)),none,109016005,IA⟩ (.one ⟨(some 58),(.gi 1 1 [(.t 57)]),none,109016006,[109016007,109016009]⟩ (.one ⟨(some 59),(.append 1 (.t 53) (.t 58)),none,109016007,[109016009]⟩ (.one ⟨(some 60),(.fA 1 (.t 9)),none,109016008,[109016009]⟩ (.one ⟨none,(.store 1 (.t 60) (.t 59)),none,109016009,[]⟩ (.gh false []))))))
def VO:IL:=⟨68,2,(.seq (.gh false [q 4 (.new [.ck,.ck]) 109000000]) (.seq (.gh false [q 11 (.build [.ck,.ck] []) 109001000,q 5 (.new [.ck,.ck]) 109001001,⟨none,(.store 2 (.t 5) (.t 11)),none,109001002,[]⟩]) (.seq (.gh false [q 12 (.eX (.t 0)) 109002000,q 13 (.call 33 [(.t 12),(.k (.int .i64 5))]) 109002001,q 14 (.bin .add .i64 (.k (.int .i64 1)) (.t 13)) 109002002,q 6 (.eX (.t 14)) 109002003]) (.seq (.seq (.gh false [q 7 (.eX (.k (.int .i64 0))) 109003000]) (.block 0 (.loop (.seq (.seq (.gh false [q 15 (.eX (.t 7)) 109004000,q 16 (.eX (.t 6)) 109004001,q 17 (.bin .lss .i64 (.t 15) (.t 16)) 109004002]) (.cond (.t 17) .skip (.exit 0))) (.seq (.block 1 (.one ⟨(some 20),(.fA 0 (.t 5)),none,109006000,Qd⟩ (.one ⟨(some 22),(.eX (.t 7)),none,109006002,Qd⟩ (.one ⟨(some 25),(.eX (.t 0)),none,109006005,Qd⟩ (.both (.one zz4 (.one zz5 (.one zz6 zz9))) (.one zz5 (.one zz6 (.both (.one zz4 zz9) (.one zz7 (.one zz4 zz8)))))))))) (.gh false [q 18 (.eX (.t 7)) 109005000,q 19 (.bin .add .i64 (.t 18) (.k (.int .i64 1))) 109005001,q 7 (.eX (.t 19)) 109005002])))))) (.seq (.seq (.gh false [q 8 (.eX (.k (.int .i64 0))) 109007000]) (.block 2 (.loop (.seq (.seq (.gh false [q 32 (.eX (.t 8)) 109008000,q 33 (.eX (.t 1)) 109008001,q 34 (.bin .lss .i64 (.t 32) (.t 33)) 109008002]) (.cond (.t 34) .skip (.exit 2))) (.seq (.block 3 (.seq (.gh false [q 37 (.eX (.t 8)) 109010000,q 38 (.call 98 [(.t 37)]) 109010001,q 39 (.y4 .add (.k (.str [116])) (.t 38)) 109010002,q 40 (.build [(.str []),.ck] [(0,(1,(.t 39)))]) 109010003,q 9 (.new [(.str []),.ck]) 109010004,⟨none,(.store 2 (.t 9) (.t 40)),none,109010005,[]⟩]) (.seq (.seq (.gh false [q 10 (.eX (.k (.int .i64 0))) 109011000]) (.block 4 (.loop (.seq (.seq (.gh false [q 41 (.eX (.t 10)) 109012000,q 42 (.bin .lss .i64 (.t 41) (.k (.int .i64 4))) 109012001]) (.cond (.t 42) .skip (.exit 4))) (.seq (.block 5 (.seq (.gh false [q 45 (.eX (.t 0)) 109014000,q 46 (.call 60 [(.t 45),(.k (.int .i64 3))]) 109014001]) (.cond (.t 46) (.gh false [q 47 (.fA 1 (.t 9)) 109015000,q 48 (.load false 1 (.t 47)) 109015001,q 49 (.gi 1 1 [(.k (.int .i64 0))]) 109015002,q 50 (.append 1 (.t 48) (.t 49)) 109015003,q 51 (.fA 1 (.t 9)) 109015004,⟨none,(.store 1 (.t 51) (.t 50)),none,109015005,[]⟩]) (.one ⟨(some 52),(.fA 1 (.t 9)),none,109016000,IA⟩ (.one ⟨(some 54),(.eX (.t 0)),none,109016002,IA⟩ (.one ⟨(some 55),(.eX (.t 6)),none,109016003,IA⟩ (.both (.one We (.one Wf Wg)) (.one Wf (.one We Wg))))))))) (.gh false [q 43 (.eX (.t 10)) 109013000,q 44 (.bin .add .i64 (.t 43) (.k (.int .i64 1))) 109013001,q 10 (.eX (.t 44)) 109013002])))))) (.gh false [q 61 (.fA 1 (.t 5)) 109017000,q 62 (.load false 1 (.t 61)) 109017001,q 63 (.load true 2 (.t 9)) 109017002,q 64 (.gi 2 1 [(.t 63)]) 109017003,q 65 (.append 2 (.t 62) (.t 64)) 109017004,q 66 (.fA 1 (.t 5)) 109017005,⟨none,(.store 1 (.t 66) (.t 65)),none,109017006,[]⟩])))) (.gh false [q 35 (.eX (.t 8)) 109009000,q 36 (.bin .add .i64 (.t 35) (.k (.int .i64 1))) 109009001,q 8 (.eX (.t 36)) 109009002])))))) (.seq (.gh false [q 67 (.load true 2 (.t 5)) 109018000,⟨none,(.store 2 (.t 4) (.t 67)),none,109018001,[]⟩]) .ret)))))),[(.cell true 2 4)]⟩
theorem Ud:xV Tryz.prog 109 [(6,2),(16,2)]=some VO:=by kernel_rfl
def L0:bU:=⟨(some 9),(.load true 2 (.t 3)),none,57002000,[57002007,57002013]⟩
def Wh:bU:=⟨(some 14),(.call 33 [(.t 10),(.t 13)]),none,57002005,[57002007,57002013]⟩
def Wi:bU:=⟨(some 15),(.build [(.int .i64 0),(.int .i64 0),(.int .i64 0)] [(2,(1,(.t 14)))]),none,57002006,[57002007,57002013]⟩
def Sh:bU:=⟨(some 16),(.gi 3 1 [(.t 15)]),none,57002007,[57002013]⟩
def Si:bU:=⟨(some 17),(.build [.ck] [(0,(1,(.t 16)))]),none,57002008,[57002013]⟩
def PF:bU:=⟨(some 19),(.call 33 [(.t 18),(.k (.int .i64 2))]),none,57002010,[57002007,57002013]⟩
def Sj:VC:=(.one ⟨(some 20),(.bin .add .i64 (.k (.int .i64 2)) (.t 19)),none,57002011,[57002007,57002013]⟩ (.one ⟨(some 21),(.build [.ck,.ck,.ck,(.int .i64 0)] [(0,(2,(.t 9))),(2,(1,(.t 17))),(3,(1,(.t 20)))]),none,57002012,[57002013]⟩ (.one ⟨none,(.store 4 (.t 2) (.t 21)),none,57002013,[]⟩ (.gh false []))))
def Wj:VC:=(.one PF Sj)
def Wk:VC:=(.one Sh (.one Si Sj))
def Wl:VC:=(.both (.one Sh (.one Si Wj)) (.one PF Wk))
def Zz:IL:=⟨22,1,(.seq (.gh false [q 2 (.new [.ck,.ck,.ck,(.int .i64 0)]) 57000000]) (.seq (.gh false [q 4 (.eX (.t 0)) 57001000,q 5 (.eX (.t 0)) 57001001,q 6 (.call 33 [(.t 5),(.k (.int .i64 4))]) 57001002,q 7 (.bin .add .i64 (.k (.int .i64 2)) (.t 6)) 57001003,q 8 (.call 109 [(.t 4),(.t 7)]) 57001004,q 3 (.new [.ck,.ck]) 57001005,⟨none,(.store 2 (.t 3) (.t 8)),none,57001006,[]⟩]) (.seq (.one ⟨(some 10),(.eX (.t 0)),none,57002001,[57002007,57002013]⟩ (.one ⟨(some 11),(.fA 1 (.t 3)),none,57002002,[57002007,57002013]⟩ (.one ⟨(some 12),(.load false 1 (.t 11)),none,57002003,[57002007,57002013]⟩ (.one ⟨(some 13),(.len (.t 12)),none,57002004,[57002007,57002013]⟩ (.one ⟨(some 18),(.eX (.t 0)),none,57002009,[57002007,57002013]⟩ (.both (.one L0 (.one Wh (.one Wi Wl))) (.one Wh (.one Wi (.both (.one L0 Wl) (.both (.one Sh (.one Si (.both (.one L0 Wj) (.one PF (.one L0 Sj))))) (.one PF (.one L0 Wk)))))))))))) .ret))),[(.cell true 4 2)]⟩
theorem XI:xV Tryz.prog 57 [(2,2)]=some Zz:=by kernel_rfl
def IB:List Nat:=[59011006,59011007,59011009]
def ye:List Nat:=[59013011,59013013,59013014,59013016]
def IC:bU:=⟨(some 53),(.load false 1 (.t 52)),none,59013001,ye⟩
def PG:bU:=⟨(some 55),(.call 98 [(.t 54)]),none,59013003,ye⟩
def PH:bU:=⟨(some 56),(.y4 .add (.k (.str [101])) (.t 55)),none,59013004,ye⟩
def PI:bU:=⟨(some 58),(.call 33 [(.t 57),(.k (.int .i64 2))]),none,59013006,ye⟩
def Wm:bU:=⟨(some 59),(.bin .add .i64 (.k (.int .i64 1)) (.t 58)),none,59013007,ye⟩
def L1:bU:=⟨(some 61),(.load false 1 (.t 60)),none,59013009,ye⟩
def L3:bU:=⟨(some 62),(.len (.t 61)),none,59013010,ye⟩
def Wn:List Nat:=[59013013,59013014,59013016]
def Wo:VC:=(.one ⟨(some 63),(.gi 1 4 [(.t 59),(.k (.int .i64 0)),(.k (.int .i64 0)),(.t 62)]),none,59013011,Wn⟩ (.one ⟨(some 64),(.build [(.str []),.ck] [(0,(1,(.t 56))),(1,(1,(.t 63)))]),none,59013012,Wn⟩ (.one ⟨(some 65),(.gi 2 1 [(.t 64)]),none,59013013,[59013014,59013016]⟩ (.one ⟨(some 66),(.append 2 (.t 53) (.t 65)),none,59013014,[59013016]⟩ (.one ⟨(some 67),(.fA 1 (.t 5)),none,59013015,[59013016]⟩ (.one ⟨none,(.store 1 (.t 67) (.t 66)),none,59013016,[]⟩ (.gh false [])))))))
def Wp:VC:=(.one Wm (.one L1 (.one L3 Wo)))
def Wq:VC:=(.one Wm Wo)
def Sk:VC:=(.one PI Wq)
def Wr:VC:=(.both (.one PI Wp) (.one L1 (.one L3 Sk)))
def Ws:VC:=(.one PG (.one PH Sk))
def Wt:VC:=(.both (.one IC Sk) (.one PI (.one IC Wq)))
def ID:List Nat:=[59019006,59019007,59019009]
def yf:List Nat:=[59021011,59021013,59021014,59021016]
def IE:bU:=⟨(some 97),(.load false 1 (.t 96)),none,59021001,yf⟩
def PJ:bU:=⟨(some 99),(.call 98 [(.t 98)]),none,59021003,yf⟩
def PK:bU:=⟨(some 100),(.y4 .add (.k (.str [110])) (.t 99)),none,59021004,yf⟩
def PL:bU:=⟨(some 102),(.call 33 [(.t 101),(.k (.int .i64 2))]),none,59021006,yf⟩
def Wu:bU:=⟨(some 103),(.bin .add .i64 (.k (.int .i64 1)) (.t 102)),none,59021007,yf⟩
def L4:bU:=⟨(some 105),(.load false 1 (.t 104)),none,59021009,yf⟩
def L5:bU:=⟨(some 106),(.len (.t 105)),none,59021010,yf⟩
def Wv:List Nat:=[59021013,59021014,59021016]
def Ww:VC:=(.one ⟨(some 107),(.gi 1 4 [(.k (.int .i64 0)),(.t 103),(.t 106),(.k (.int .i64 0))]),none,59021011,Wv⟩ (.one ⟨(some 108),(.build [(.str []),.ck] [(0,(1,(.t 100))),(1,(1,(.t 107)))]),none,59021012,Wv⟩ (.one ⟨(some 109),(.gi 2 1 [(.t 108)]),none,59021013,[59021014,59021016]⟩ (.one ⟨(some 110),(.append 2 (.t 97) (.t 109)),none,59021014,[59021016]⟩ (.one ⟨(some 111),(.fA 1 (.t 5)),none,59021015,[59021016]⟩ (.one ⟨none,(.store 1 (.t 111) (.t 110)),none,59021016,[]⟩ (.gh false [])))))))
def Wx:VC:=(.one Wu (.one L4 (.one L5 Ww)))
def Wy:VC:=(.one Wu Ww)
def Sm:VC:=(.one PL Wy)
def Wz:VC:=(.both (.one PL Wx) (.one L4 (.one L5 Sm)))
def WA:VC:=(.one PJ (.one PK Sm))
def WB:VC:=(.both (.one IE Sm) (.one PL (.one IE Wy)))
def sS:List Nat:=[59027015,59027017,59027018,59027020]
def Sn:bU:=⟨(some 124),(.load false 1 (.t 123)),none,59027001,sS⟩
def WC:bU:=⟨(some 126),(.call 98 [(.t 125)]),none,59027003,sS⟩
def WD:bU:=⟨(some 127),(.y4 .add (.k (.str [114])) (.t 126)),none,59027004,sS⟩
def WE:bU:=⟨(some 130),(.call 33 [(.t 129),(.k (.int .i64 2))]),none,59027007,sS⟩
def WG:List Nat:=[59027017,59027018,59027020]
def WH:VC:=(.one ⟨(some 131),(.bin .add .i64 (.k (.int .i64 1)) (.t 130)),none,59027008,sS⟩ (.one ⟨(some 138),(.gi 1 4 [(.t 128),(.t 131),(.t 134),(.t 137)]),none,59027015,WG⟩ (.one ⟨(some 139),(.build [(.str []),.ck] [(0,(1,(.t 127))),(1,(1,(.t 138)))]),none,59027016,WG⟩ (.one ⟨(some 140),(.gi 2 1 [(.t 139)]),none,59027017,[59027018,59027020]⟩ (.one ⟨(some 141),(.append 2 (.t 124) (.t 140)),none,59027018,[59027020]⟩ (.one ⟨(some 142),(.fA 1 (.t 5)),none,59027019,[59027020]⟩ (.one ⟨none,(.store 1 (.t 142) (.t 141)),none,59027020,[]⟩ (.gh false []))))))))
def WI:VC:=(.one WE WH)
def Ec:List Nat:=[59029008,59029010,59029011,59029013]
def Sp:bU:=⟨(some 146),(.load false 1 (.t 145)),none,59029001,Ec⟩
def WJ:bU:=⟨(some 148),(.call 33 [(.t 147),(.k (.int .i64 2))]),none,59029003,Ec⟩
def WK:bU:=⟨(some 149),(.bin .add .i64 (.k (.int .i64 1)) (.t 148)),none,59029004,Ec⟩
def WL:bU:=⟨(some 151),(.call 33 [(.t 150),(.k (.int .i64 2))]),none,59029006,Ec⟩
def WM:List Nat:=[59029010,59029011,59029013]
def WN:VC:=(.one ⟨(some 152),(.bin .add .i64 (.k (.int .i64 1)) (.t 151)),none,59029007,Ec⟩ (.one ⟨(some 153),(.gi 1 4 [(.k (.int .i64 1)),(.k (.int .i64 2)),(.t 149),(.t 152)]),none,59029008,WM⟩ (.one ⟨(some 154),(.build [(.str []),.ck] [(0,(1,(.k (.str [114,52])))),(1,(1,(.t 153)))]),none,59029009,WM⟩ (.one ⟨(some 155),(.gi 2 1 [(.t 154)]),none,59029010,[59029011,59029013]⟩ (.one ⟨(some 156),(.append 2 (.t 146) (.t 155)),none,59029011,[59029013]⟩ (.one ⟨(some 157),(.fA 1 (.t 5)),none,59029012,[59029013]⟩ (.one ⟨none,(.store 1 (.t 157) (.t 156)),none,59029013,[]⟩ (.gh false []))))))))
def WO:VC:=(.one WL WN)
def ZA:IL:=⟨163,1,(.seq (.gh false [q 2 (.new [.ck,.ck,.ck,(.int .i64 0)]) 59000000]) (.seq (.gh false [q 12 (.eX (.t 0)) 59001000,q 13 (.call 33 [(.t 12),(.k (.int .i64 4))]) 59001001,q 14 (.bin .add .i64 (.k (.int .i64 1)) (.t 13)) 59001002,q 3 (.eX (.t 14)) 59001003]) (.seq (.gh false [q 15 (.eX (.t 0)) 59002000,q 16 (.call 33 [(.t 15),(.k (.int .i64 4))]) 59002001,q 17 (.bin .add .i64 (.k (.int .i64 1)) (.t 16)) 59002002,q 4 (.eX (.t 17)) 59002003]) (.seq (.gh false [q 18 (.build [.ck,.ck] []) 59003000,q 5 (.new [.ck,.ck]) 59003001,⟨none,(.store 2 (.t 5) (.t 18)),none,59003002,[]⟩]) (.seq (.gh false [⟨(some 19),(.build [(.str []),(.int .i64 0)] [(0,(1,(.k (.str [122,101,114,111])))),(1,(1,(.k (.int .i64 1))))]),none,59004000,[]⟩,⟨(some 20),(.build [(.str []),(.int .i64 0)] [(0,(1,(.k (.str [111,110,101])))),(1,(1,(.k (.int .i64 1))))]),none,59004001,[]⟩,q 21 (.gi 2 2 [(.t 19),(.t 20)]) 59004002,q 22 (.fA 0 (.t 5)) 59004003,⟨none,(.store 1 (.t 22) (.t 21)),none,59004004,[]⟩]) (.seq (.gh false [q 23 (.gi 1 4 [(.k (.int .i64 0)),(.k (.int .i64 0)),(.k (.int .i64 0)),(.k (.int .i64 0))]) 59005000,⟨(some 24),(.build [(.str []),.ck] [(0,(1,(.k (.str [115,101,101,100])))),(1,(1,(.t 23)))]),none,59005001,[]⟩,q 6 (.new [(.str []),.ck]) 59005002,⟨none,(.store 2 (.t 6) (.t 24)),none,59005003,[]⟩]) (.seq (.gh false [q 25 (.load true 2 (.t 6)) 59006000,q 26 (.gi 2 1 [(.t 25)]) 59006001,q 27 (.fA 1 (.t 5)) 59006002,⟨none,(.store 1 (.t 27) (.t 26)),none,59006003,[]⟩]) (.seq (.gh false [q 7 (.eX (.k (.int .i64 0))) 59007000]) (.seq (.seq (.gh false [q 8 (.eX (.k (.int .i64 0))) 59008000]) (.block 0 (.loop (.seq (.seq (.gh false [q 28 (.eX (.t 8)) 59009000,q 29 (.eX (.t 3)) 59009001,q 30 (.bin .lss .i64 (.t 28) (.t 29)) 59009002]) (.cond (.t 30) .skip (.exit 0))) (.seq (.block 1 (.seq (.gh true [⟨(some 33),(.fA 0 (.t 5)),none,59011000,IB⟩,⟨(some 34),(.load false 1 (.t 33)),none,59011001,IB⟩,⟨(some 35),(.eX (.t 8)),none,59011002,IB⟩,⟨(some 36),(.call 98 [(.t 35)]),none,59011003,IB⟩,⟨(some 37),(.y4 .add (.k (.str [120])) (.t 36)),none,59011004,IB⟩,⟨(some 38),(.build [(.str []),(.int .i64 0)] [(0,(1,(.t 37))),(1,(1,(.k (.int .i64 2))))]),none,59011005,IB⟩,⟨(some 39),(.gi 2 1 [(.t 38)]),none,59011006,[59011007,59011009]⟩,⟨(some 40),(.append 2 (.t 34) (.t 39)),none,59011007,[59011009]⟩,⟨(some 41),(.fA 0 (.t 5)),none,59011008,[59011009]⟩,⟨none,(.store 1 (.t 41) (.t 40)),none,59011009,[]⟩]) (.seq (.gh true [⟨(some 42),(.fA 1 (.t 5)),none,59012000,[59012010]⟩,⟨(some 43),(.load false 1 (.t 42)),none,59012001,[59012010]⟩,⟨(some 44),(.eX (.t 7)),none,59012002,[59012010]⟩,⟨(some 45),(.lq 2 (.t 43) (.t 44)),none,59012003,[59012010]⟩,⟨(some 46),(.fA 1 (.t 45)),none,59012004,[59012010]⟩,⟨(some 47),(.load false 1 (.t 46)),none,59012005,[59012010]⟩,⟨(some 48),(.fA 0 (.t 5)),none,59012006,[59012010]⟩,⟨(some 49),(.load false 1 (.t 48)),none,59012007,[59012010]⟩,⟨(some 50),(.len (.t 49)),none,59012008,[59012010]⟩,⟨(some 51),(.lq 1 (.t 47) (.k (.int .i64 1))),none,59012009,[59012010]⟩,⟨none,(.store 1 (.t 51) (.t 50)),none,59012010,[]⟩]) (.seq (.one ⟨(some 52),(.fA 1 (.t 5)),none,59013000,ye⟩ (.one ⟨(some 54),(.eX (.t 8)),none,59013002,ye⟩ (.one ⟨(some 57),(.eX (.t 0)),none,59013005,ye⟩ (.one ⟨(some 60),(.fA 0 (.t 5)),none,59013008,ye⟩ (.both (.one IC (.both (.one PG (.one PH Wr)) (.one L1 (.one L3 Ws)))) (.both (.one PG (.one PH (.both (.one IC Wr) (.both (.one PI (.one IC Wp)) (.one L1 (.one L3 Wt)))))) (.one L1 (.one L3 (.both (.one IC Ws) (.one PG (.one PH Wt))))))))))) (.gh false [q 68 (.fA 1 (.t 5)) 59014000,q 69 (.load false 1 (.t 68)) 59014001,q 70 (.len (.t 69)) 59014002,q 71 (.bin .sub .i64 (.t 70) (.k (.int .i64 1))) 59014003,q 7 (.eX (.t 71)) 59014004]))))) (.gh false [q 31 (.eX (.t 8)) 59010000,q 32 (.bin .add .i64 (.t 31) (.k (.int .i64 1))) 59010001,q 8 (.eX (.t 32)) 59010002])))))) (.seq (.gh false [q 7 (.eX (.k (.int .i64 0))) 59015000]) (.seq (.seq (.gh false [q 9 (.eX (.k (.int .i64 0))) 59016000]) (.block 2 (.loop (.seq (.seq (.gh false [q 72 (.eX (.t 9)) 59017000,q 73 (.eX (.t 4)) 59017001,q 74 (.bin .lss .i64 (.t 72) (.t 73)) 59017002]) (.cond (.t 74) .skip (.exit 2))) (.seq (.block 3 (.seq (.gh true [⟨(some 77),(.fA 0 (.t 5)),none,59019000,ID⟩,⟨(some 78),(.load false 1 (.t 77)),none,59019001,ID⟩,⟨(some 79),(.eX (.t 9)),none,59019002,ID⟩,⟨(some 80),(.call 98 [(.t 79)]),none,59019003,ID⟩,⟨(some 81),(.y4 .add (.k (.str [121])) (.t 80)),none,59019004,ID⟩,⟨(some 82),(.build [(.str []),(.int .i64 0)] [(0,(1,(.t 81))),(1,(1,(.k (.int .i64 2))))]),none,59019005,ID⟩,⟨(some 83),(.gi 2 1 [(.t 82)]),none,59019006,[59019007,59019009]⟩,⟨(some 84),(.append 2 (.t 78) (.t 83)),none,59019007,[59019009]⟩,⟨(some 85),(.fA 0 (.t 5)),none,59019008,[59019009]⟩,⟨none,(.store 1 (.t 85) (.t 84)),none,59019009,[]⟩]) (.seq (.gh true [⟨(some 86),(.fA 1 (.t 5)),none,59020000,[59020010]⟩,⟨(some 87),(.load false 1 (.t 86)),none,59020001,[59020010]⟩,⟨(some 88),(.eX (.t 7)),none,59020002,[59020010]⟩,⟨(some 89),(.lq 2 (.t 87) (.t 88)),none,59020003,[59020010]⟩,⟨(some 90),(.fA 1 (.t 89)),none,59020004,[59020010]⟩,⟨(some 91),(.load false 1 (.t 90)),none,59020005,[59020010]⟩,⟨(some 92),(.fA 0 (.t 5)),none,59020006,[59020010]⟩,⟨(some 93),(.load false 1 (.t 92)),none,59020007,[59020010]⟩,⟨(some 94),(.len (.t 93)),none,59020008,[59020010]⟩,⟨(some 95),(.lq 1 (.t 91) (.k (.int .i64 0))),none,59020009,[59020010]⟩,⟨none,(.store 1 (.t 95) (.t 94)),none,59020010,[]⟩]) (.seq (.one ⟨(some 96),(.fA 1 (.t 5)),none,59021000,yf⟩ (.one ⟨(some 98),(.eX (.t 9)),none,59021002,yf⟩ (.one ⟨(some 101),(.eX (.t 0)),none,59021005,yf⟩ (.one ⟨(some 104),(.fA 0 (.t 5)),none,59021008,yf⟩ (.both (.one IE (.both (.one PJ (.one PK Wz)) (.one L4 (.one L5 WA)))) (.both (.one PJ (.one PK (.both (.one IE Wz) (.both (.one PL (.one IE Wx)) (.one L4 (.one L5 WB)))))) (.one L4 (.one L5 (.both (.one IE WA) (.one PJ (.one PK WB))))))))))) (.gh false [q 112 (.fA 1 (.t 5)) 59022000,q 113 (.load false 1 (.t 112)) 59022001,q 114 (.len (.t 113)) 59022002,q 115 (.bin .sub .i64 (.t 114) (.k (.int .i64 1))) 59022003,q 7 (.eX (.t 115)) 59022004]))))) (.gh false [q 75 (.eX (.t 9)) 59018000,q 76 (.bin .add .i64 (.t 75) (.k (.int .i64 1))) 59018001,q 9 (.eX (.t 76)) 59018002])))))) (.seq (.seq (.gh false [q 10 (.eX (.k (.int .i64 0))) 59023000]) (.block 4 (.loop (.seq (.seq (.gh false [q 116 (.eX (.t 10)) 59024000,q 117 (.bin .lss .i64 (.t 116) (.k (.int .i64 4))) 59024001]) (.cond (.t 117) .skip (.exit 4))) (.seq (.block 5 (.seq (.gh false [q 120 (.eX (.t 0)) 59026000,q 121 (.call 33 [(.t 120),(.k (.int .i64 2))]) 59026001,q 122 (.bin .add .i64 (.k (.int .i64 1)) (.t 121)) 59026002,q 11 (.eX (.t 122)) 59026003]) (.one ⟨(some 123),(.fA 1 (.t 5)),none,59027000,sS⟩ (.one ⟨(some 125),(.eX (.t 10)),none,59027002,sS⟩ (.one ⟨(some 128),(.eX (.t 11)),none,59027005,sS⟩ (.one ⟨(some 129),(.eX (.t 0)),none,59027006,sS⟩ (.one ⟨(some 132),(.eX (.t 10)),none,59027009,sS⟩ (.one ⟨(some 133),(.bin .rem .i64 (.t 132) (.k (.int .i64 2))),none,59027010,sS⟩ (.one ⟨(some 134),(.bin .add .i64 (.k (.int .i64 1)) (.t 133)),none,59027011,sS⟩ (.one ⟨(some 135),(.eX (.t 10)),none,59027012,sS⟩ (.one ⟨(some 136),(.bin .quo .i64 (.t 135) (.k (.int .i64 2))),none,59027013,sS⟩ (.one ⟨(some 137),(.bin .add .i64 (.k (.int .i64 1)) (.t 136)),none,59027014,sS⟩ (.both (.one Sn (.one WC (.one WD WI))) (.one WC (.one WD (.both (.one Sn WI) (.one WE (.one Sn WH)))))))))))))))))) (.gh false [q 118 (.eX (.t 10)) 59025000,q 119 (.bin .add .i64 (.t 118) (.k (.int .i64 1))) 59025001,q 10 (.eX (.t 119)) 59025002])))))) (.seq (.seq (.gh false [q 143 (.eX (.t 0)) 59028000,q 144 (.call 60 [(.t 143),(.k (.int .i64 3))]) 59028001]) (.cond (.t 144) (.one ⟨(some 145),(.fA 1 (.t 5)),none,59029000,Ec⟩ (.one ⟨(some 147),(.eX (.t 0)),none,59029002,Ec⟩ (.one ⟨(some 150),(.eX (.t 0)),none,59029005,Ec⟩ (.both (.one Sp (.one WJ (.one WK WO))) (.one WJ (.one WK (.both (.one Sp WO) (.one WL (.one Sp WN))))))))) .skip)) (.seq (.gh false [q 158 (.load true 2 (.t 5)) 59030000,q 159 (.build [(.int .i64 0),(.int .i64 0),(.int .i64 0)] []) 59030001,q 160 (.gi 3 1 [(.t 159)]) 59030002,q 161 (.build [.ck] [(0,(1,(.t 160)))]) 59030003,⟨(some 162),(.build [.ck,.ck,.ck,(.int .i64 0)] [(0,(2,(.t 158))),(2,(1,(.t 161))),(3,(1,(.k (.int .i64 2))))]),none,59030004,[]⟩,⟨none,(.store 4 (.t 2) (.t 162)),none,59030005,[]⟩]) .ret)))))))))))))),[(.cell true 4 2)]⟩
theorem XJ:xV Tryz.prog 59 [(13,2),(21,2),(27,2),(29,2)]=some ZA:=by kernel_rfl
def jC (s:aE):Prop:=(∀g∈s.bM,g.bL.size<=9223372036854775807)/\∀t∈s.aq,t.bL.size<=9223372036854775807
def G3 (t:di):Prop:=t.de.length<=1048576
structure Xz (s:aE):Prop where
 g:s.bM.length<=1048576
 t:s.aq.length<=1048576
 s:∀t∈s.aq,G3 t
structure Ez (y:ar):Prop where
 s:Xz y.ay
 a:y.cw.aq.length<=1048576
end V

namespace V
open Go.RowKit
def isApp:iU->Bool
 | .append .. =>true
 |_=>false
variable {P:Program} {X:gO} {K:Env->aw->Prop} {env:Env} {σ:aw}
theorem TE {draw:Bool} {o:bU} {r:List bU} (_:isApp o.op=false) (h:∀N:AV->aw->Prop,(∀v s,wpOps X draw r K (upd env o.dst v) s->N v s)->if aD o.guard env then eU X draw o env σ N else N .undef σ):wpOps X draw (o::r) K env σ:=VV h
end V

namespace V
open Go.RowKit
section
variable {α:Type} {enc:α->List AV} {sz:Nat} {g g':Rows} {a:AV} {xs:List α} {ids:List Id}
end
abbrev WQ (α:Type):=Rows->List AV->α->List Id->Prop
structure TJ {α:Type} (R:WQ α) (sz:Nat):Prop where
 frame:∀{g g':Rows} {cs x ids},R g cs x ids->(∀i∈ids,g' i=g i)->R g' cs x ids
 len:∀{g cs x ids},R g cs x ids->cs.length=sz
 cell:∀{g cs x ids},R g cs x ids->cs.all AV.cell=true
 live:∀{g cs x ids},R g cs x ids->∀i∈ids,∃r,g i=some r/\r.w=true/\r.sz<Oq
 small:sz<Oq
inductive iS {α:Type} (R:WQ α) (g:Rows):List (List AV)->List α->List Id->Prop
 |nil:iS R g [] [] []
 |cons {cs x i1 rs xs i2}:R g cs x i1->iS R g rs xs i2->iS R g (cs::rs) (x::xs) (i1++i2)
section
variable {α:Type} {R:WQ α} {sz:Nat} {g g':Rows} {rows r1 r2:List (List AV)} {xs x1 x2:List α} {ids i1 i2:List Id}
theorem iS.len (h:iS R g rows xs ids):rows.length=xs.length:=by
 induction h with
 |nil=>rfl
 |cons _ _ ih=>simp[ih]
theorem iS.frame (ok:TJ R sz) (h:iS R g rows xs ids) (hf:∀i∈ids,g' i=g i):iS R g' rows xs ids:=by
 induction h with
 |nil=>exact .nil
 |cons h1 _ ih=>exact .cons (ok.frame h1 fun i hi=>hf i (List.mem_append_left _ hi)) (ih fun i hi=>hf i (List.mem_append_right _ hi))
theorem iS.app (h1:iS R g r1 x1 i1) (h2:iS R g r2 x2 i2):iS R g (r1++r2) (x1++x2) (i1++i2):=by
 induction h1 with
 |nil=>exact h2
 |cons h _ ih=>rw[List.append_assoc];exact .cons h ih
theorem iS.one {cs:List AV} {x:α} (h:R g cs x ids):iS R g [cs] [x] ids:=by
 have:=iS.cons h iS.nil
 rwa [List.append_nil]at this
theorem iS.split (h:iS R g rows xs ids):∀k (hk:k<xs.length),∃r1 cs r2 i1 ic i2,rows=r1++cs::r2/\r1.length=k/\ids=i1++(ic++i2)/\iS R g r1 (xs.take k) i1/\R g cs xs[k] ic/\iS R g r2 (xs.drop (k+1)) i2:=by
 induction h with
 |nil=>intro k hk;simp at hk
 |cons h1 h2 ih=>
  rename_i cs x j1 rs xs j2;intro k hk
  cases k with
  |zero=>exact⟨[],cs,rs,[],j1,j2,rfl,rfl,rfl,.nil,h1,h2⟩
  |succ k=>
   obtain⟨r1,uD,r2,i1,ic,i2,rfl,hl,rfl,h3,h4,h5⟩:=ih k (by simpa using hk);exact⟨cs::r1,uD,r2,j1++i1,ic,i2,rfl,by simp[hl],by rw[List.append_assoc],.cons h1 h3,h4,h5⟩
end
section
variable {α:Type} {R:WQ α} {sz:Nat} {g g':Rows} {a:AV} {xs:List α} {ids:List Id}
end
variable {P:Program} {X:gO} {K:Env->aw->Prop} {env:Env} {σ:aw}
def pc {α:Type} (enc:α->List AV) (sz:Nat) (x:AV) (g:Rows) (S:Id->Prop) (L:List α):Prop:=∃o:Id,S o/\x=.own o 0 L.length/\g o=some ⟨true,sz,L.map enc⟩
section
variable {α:Type} {enc:α->List AV} {sz:Nat} {x:AV} {g g':Rows} {S:Id->Prop} {L L':List α}
theorem pc.cast (h:pc enc sz x g S L) (hL:L'=L):pc enc sz x g S L':=by subst hL;exact h
theorem pc.frame (h:pc enc sz x g S L) (hg:∀o:Id,S o->g' o=g o):pc enc sz x g' S L:=by
 obtain⟨o,h1,h2,h3⟩:=h;exact⟨o,h1,h2,(hg o h1).trans h3⟩
theorem pc.app (hz:∀a,(enc a).length=sz/\(enc a).all AV.cell=true) (h:pc enc sz x g S L) (id:Id) (hid:S id) (M:List α) (hlen:L.length+M.length<=dj):
  ∃v g',aP g id sz x (M.map enc)=some (v,g')/\pc enc sz v g' S (L++M)/\∀j:Id,¬S j->g' j=g j:=by
 obtain⟨o,h1,rfl,h4⟩:=h;refine⟨.own id 0 (L.length+(M.map enc).length),bJ (bQ g o) id ⟨true,sz,L.map enc++M.map enc⟩,?_,⟨id,hid,by simp,by simp[bJ]⟩,fun j hj=>?_⟩
 ·have ha:=all_map (l:=M) hz;simp only[aP,h4,Option.bind_some];rw[if_pos ⟨trivial,trivial,by simp,by simpa using hlen,ha⟩]
 ·have e1:¬j=id:=fun h=>hj (h▸hid);have e2:¬j=o:=fun h=>hj (h▸h1);simp[bJ,bQ,e1,e2]
theorem VT {draw:Bool} {o:bU} {r:List bU} {x' y:O} {xv:AV} (M:List α) (ho:o.op=.append sz x' y) (hw:aD o.guard env=true) (hx:dq env x'=xv) (hO:pc enc sz xv σ.get S L)
  (hy:bd σ.get (dq env y)=some (M.map enc)) (hz:∀a,(enc a).length=sz/\(enc a).all AV.cell=true) (hid:S ⟨o.site,σ.next⟩) (hlen:L.length+M.length<=dj)
  (next:∀v g',pc enc sz v g' S (L++M)->(∀j:Id,¬S j->g' j=σ.get j)->wpOps X draw r K (upd env o.dst v) ⟨g',σ.next⟩):wpOps X draw (o::r) K env σ:=by
 obtain⟨v,g',h1,h2,h3⟩:=hO.app hz ⟨o.site,σ.next⟩ hid M hlen;unfold wpOps;rw[if_pos hw];unfold eU;simp only[ho,fh,hy,hx,Option.bind_some,h1];exact next v g' h2 h3
theorem pc.iG {n:Nat} (h:pc enc sz x g S L) (he:∀a,fC g n (enc a)=some (enc a)):iG g (n+1) x=some (.sl (L.map enc)):=by
 obtain⟨o,_,rfl,h3⟩:=h;exact eQ h3 rfl he
end
theorem ew {a b:Id} (h:a.bH<b.bH):(a=b)=False/\(b=a)=False:=by
 constructor<;>(simp only[eq_iff_iff,iff_false];rintro rfl;omega)
theorem DS {o:Id} {a:Nat} (h:o.site=a) {b v:Nat} (AP:(a==b)=false):(o=⟨b,v⟩)=False:=by
 simp only[eq_iff_iff,iff_false];rintro rfl
 simp only at h
 subst h
 simp at AP
def eN (n:Nat):List AV:=[.int .i64 n]
theorem fzSN (g:Rows) (n:Nat) (a:Nat):fC g (n+1) (eN a)=some (eN a):=by simp[eN,bR,cW,ec]
def WT:WQ (List Nat):=fun g cs x ids=>∃id,cs=[.own id 0 x.length]/\g id=some ⟨true,1,x.map eN⟩/\ids=[id]
theorem Vl:TJ WT 1 where
 frame:=fun⟨id,h1,h2,h3⟩ hf=>by subst h3;exact⟨id,h1,(hf id (by simp)).trans h2,rfl⟩
 len:=fun⟨id,h1,_⟩=>by subst h1;rfl
 cell:=fun⟨id,h1,_⟩=>by subst h1;rfl
 live:=fun⟨id,h1,h2,h3⟩ i hi=>by
  subst h3;have:i=id:=by simpa using hi
  subst this;exact⟨_,h2,rfl,by simp[Oq]⟩
 small:=by simp[Oq]
def Ed (l:List Nat):List AV:=[.sl (l.map eN)]
theorem Om {g:Rows} {rows:List (List AV)} {xs:List (List Nat)} {ids:List Id} (n:Nat) (h:iS WT g rows xs ids):iX g (n+2) rows=some (xs.map Ed):=by
 induction h with
 |nil=>rw[iX];rfl
 |cons h1 _ ih=>
  obtain⟨id,rfl,h2,_⟩:=h1;rw[iX,ih,bR,cW,eQ (e:=eN) (sz:=1) h2 rfl fun a=>fzSN g n a];rfl
end V

namespace V
open Go.RowKit
attribute [local irreducible] dY wpOps fm Call
section
variable {P:Program}
end
end V

section
open Go.RowKit
def ma (n:Int):Bool:=(decide (97<=n)&&decide (n<=122))||(decide (65<=n)&&decide (n<=90))
def nF (n:Int):Bool:=decide (48<=n)&&decide (n<=57)
def xW (i:Nat) (n:Int):Prop:=ma n=true∨(0<i/\(nF n=true∨n=95))
def wA (s:ByteArray):Prop:=(1<=s.size/\s.size<=12)/\∀i (h:i<s.size),xW i s[i].toNat
open Classical in
noncomputable def je (s:ByteArray):Bool:=decide (wA s)
theorem zM {s:ByteArray} (h:wA s):true=je s:=by simp[je,h]
theorem fq {s:ByteArray} (h:¬wA s):false=je s:=by simp[je,h]
theorem F4 {s:ByteArray} {b:Bool} (hb:b=true) (h:wA s):b=je s:=by simp[je,h,hb]
theorem vh {s:ByteArray} {b:Bool} (hb:b=false) (h:¬wA s):b=je s:=by simp[je,h,hb]
theorem Lo {s:ByteArray}:je s=true↔wA s:=by simp[je]
theorem zE (w:World) (n:Int):Calls Tryz.prog 144 #[.int .u8 n] w fun e w'=>e=.returned (.bool (ma n))/\w=w':=by
 go_enter Tryz.func144,Tryz.ntmps144
 go_wp2_with fail
 all_goals
  go_ret
  exact⟨jW (by unfold ma;simp[*];try omega),rfl⟩
theorem Kr (w:World) (n:Int):Calls Tryz.prog 145 #[.int .u8 n] w fun e w'=>e=.returned (.bool (nF n))/\w=w':=by
 go_enter Tryz.func145,Tryz.ntmps145
 go_wp2_with fail
 all_goals
  go_ret
  exact⟨jW (by unfold nF;simp[*];try omega),rfl⟩
theorem Gk (w:World) (s:ByteArray) (hs:s.size<=9223372036854775807):Calls Tryz.prog 110 #[.string s] w fun e w'=>e=.returned (.bool (je s))/\Below w.heap.size w w':=by
 by_cases h1:1<=s.size
 case neg=>
  go_enter Tryz.func110,Tryz.ntmps110
  go_wp2_with fail
  go_ret
  exact⟨jW (fq fun h=>h1 h.1.1),Below.refl _ _⟩
 by_cases h2:s.size<=12
 case neg=>
  go_enter Tryz.func110,Tryz.ntmps110
  go_wp2_with fail
  go_ret
  exact⟨jW (fq fun h=>h2 h.1.2),Below.refl _ _⟩
 go_enter Tryz.func110,Tryz.ntmps110
 go_wp2_with fail
 refine(zE _ _).mono ?_;rintro e w' ⟨rfl,rfl⟩
 cases h3:ma s[0].toNat
 ·go_wp2_with fail
  go_ret
  exact⟨jW (fq fun h=>by have:=h.2 0 (by omega);simp only[xW]at this;rw[h3]at this;simp at this),Below.refl _ _⟩
 ·replace h3:=Lib.hid h3
  go_wp2_with fail
  go_loop [3] (fun i=>∃k:Nat,1<=k/\k<=s.size/\i=.int .i64 k/\Hid (∀j (h:j<s.size),j<k->xW j s[j].toNat)) (fun i=>s.size-(intOf i).toNat)
  case atStart=>exact⟨1,by omega,by omega,rfl,Lib.hid fun j h hj=>by
   obtain rfl:j=0:=by omega
   exact .inl h3.out⟩
  case round=>
   obtain⟨k,xD,hk,rfl,fy⟩:=hrel
   by_cases eG:k<s.size
   ·go_wp2_with fail
    refine(zE _ _).mono ?_;rintro e w' ⟨rfl,rfl⟩;have mT:xW k s[k].toNat∨¬xW k s[k].toNat:=Classical.em _
    cases hl:ma s[k].toNat
    ·go_wp2_with fail
     refine(Kr _ _).mono ?_;rintro e w' ⟨rfl,rfl⟩
     cases hd:nF s[k].toNat
     ·by_cases yp:(s[k].toNat:Int)=95
      ·have h95':((s[k].toNat:Int) !=95)=false:=by simp;omega
       replace yp:=Lib.hid yp;replace hl:=Lib.hid hl;replace hd:=Lib.hid hd
       go_wp2_with fail
       go_round
       case rel=>exact⟨k+1,by omega,by omega,by go_num,Lib.hid fun j h hj=>by
        by_cases Df:j=k
        ·subst Df;exact .inr ⟨by omega,.inr yp.out⟩
        ·exact fy.out j h (by omega)⟩
       case measure=>simp[intOf];omega
      ·have h95':((s[k].toNat:Int) !=95)=true:=by simp;omega
       replace yp:=Lib.hid yp;replace hl:=Lib.hid hl;replace hd:=Lib.hid hd
       go_wp2_with fail
       go_ret
       exact⟨jW (fq fun h=>by
        have:=h.2 k eG;simp only[xW,hl.out,hd.out]at this;exact yp.out (by simp at this;exact this.2)),Below.refl _ _⟩
     ·replace hl:=Lib.hid hl;replace hd:=Lib.hid hd
      go_wp2_with fail
      go_round
      case rel=>exact⟨k+1,by omega,by omega,by go_num,Lib.hid fun j h hj=>by
       by_cases Df:j=k
       ·subst Df;exact .inr ⟨by omega,.inl hd.out⟩
       ·exact fy.out j h (by omega)⟩
      case measure=>simp[intOf];omega
    ·replace hl:=Lib.hid hl
     go_wp2_with fail
     go_round
     case rel=>exact⟨k+1,by omega,by omega,by go_num,Lib.hid fun j h hj=>by
      by_cases Df:j=k
      ·subst Df;exact .inl hl.out
      ·exact fy.out j h (by omega)⟩
     case measure=>simp[intOf];omega
   ·go_wp2_with fail
    go_ret
    exact⟨jW (zM ⟨⟨h1,h2⟩,fun i h=>fy.out i h (by omega)⟩),Below.refl _ _⟩
theorem FC (w:World) (s:ByteArray) (hs:s.size<=9223372036854775807):Calls Tryz.prog 100 #[.string s] w fun e w'=>e=.returned (.bool (je s))/\w=w':=by
 go_enter Tryz.func100,Tryz.ntmps100
 go_wp2_with fail
 go_loop [8] (fun i=>∃k:Nat,k<=s.size/\i=.int .i64 k/\Hid (∀j (h:j<s.size),j<k->xW j s[j].toNat)) (fun i=>s.size-(intOf i).toNat)
 case atStart=>exact⟨0,by omega,rfl,Lib.hid fun j h hj=>by omega⟩
 case round=>
  obtain⟨k,hk,rfl,fy⟩:=hrel
  by_cases eG:k<s.size
  ·have hc:(s[k].toNat:Int)<48∨(48<=(s[k].toNat:Int)/\(s[k].toNat:Int)<=57)∨(58<=(s[k].toNat:Int)/\(s[k].toNat:Int)<=64)∨(65<=(s[k].toNat:Int)/\(s[k].toNat:Int)<=90)∨(91<=(s[k].toNat:Int)/\(s[k].toNat:Int)<=94)∨(95<=(s[k].toNat:Int)/\(s[k].toNat:Int)<=95)∨(96<=(s[k].toNat:Int)/\(s[k].toNat:Int)<=96)∨(97<=(s[k].toNat:Int)/\(s[k].toNat:Int)<=122)∨123<=(s[k].toNat:Int):=by omega
   by_cases qy:k=0
   ·subst qy
    rcases hc with h|⟨h,h'⟩|⟨h,h'⟩|⟨h,h'⟩|⟨h,h'⟩|⟨h,h'⟩|⟨h,h'⟩|⟨h,h'⟩|h
    ·have yp:((s[0].toNat:Int) !=95)=true:=by simp;try omega
     go_wp2_with fail
     all_goals first
      |(go_ret;exact⟨jW (fq fun hh=>by have:=hh.2 0 eG;simp[xW,ma,nF]at this;omega),rfl⟩)
      |(exfalso;simp_all;done)
      |(exfalso;simp_all;omega)
    ·have yp:((s[0].toNat:Int) !=95)=true:=by simp;try omega
     go_wp2_with fail
     all_goals first
      |(go_ret;exact⟨jW (fq fun hh=>by have:=hh.2 0 eG;simp[xW,ma,nF]at this;omega),rfl⟩)
      |(exfalso;simp_all;done)
      |(exfalso;simp_all;omega)
    ·have yp:((s[0].toNat:Int) !=95)=true:=by simp;try omega
     go_wp2_with fail
     all_goals first
      |(go_ret;exact⟨jW (fq fun hh=>by have:=hh.2 0 eG;simp[xW,ma,nF]at this;omega),rfl⟩)
      |(exfalso;simp_all;done)
      |(exfalso;simp_all;omega)
    ·have yp:((s[0].toNat:Int) !=95)=true:=by simp;try omega
     go_wp2_with fail
     go_round
     case rel=>exact⟨0+1,by omega,by go_num,Lib.hid fun j hj Df=>by
      by_cases NG:j=0
      ·subst NG;simp[xW,ma,nF];omega
      ·exact fy.out j hj (by omega)⟩
     case measure=>simp[intOf];try omega
    ·have yp:((s[0].toNat:Int) !=95)=true:=by simp;try omega
     go_wp2_with fail
     all_goals first
      |(go_ret;exact⟨jW (fq fun hh=>by have:=hh.2 0 eG;simp[xW,ma,nF]at this;omega),rfl⟩)
      |(exfalso;simp_all;done)
      |(exfalso;simp_all;omega)
    ·have yp:((s[0].toNat:Int) !=95)=false:=by simp;try omega
     go_wp2_with fail
     all_goals first
      |(go_ret;exact⟨jW (fq fun hh=>by have:=hh.2 0 eG;simp[xW,ma,nF]at this;omega),rfl⟩)
      |(exfalso;simp_all;done)
      |(exfalso;simp_all;omega)
    ·have yp:((s[0].toNat:Int) !=95)=true:=by simp;try omega
     go_wp2_with fail
     all_goals first
      |(go_ret;exact⟨jW (fq fun hh=>by have:=hh.2 0 eG;simp[xW,ma,nF]at this;omega),rfl⟩)
      |(exfalso;simp_all;done)
      |(exfalso;simp_all;omega)
    ·have yp:((s[0].toNat:Int) !=95)=true:=by simp;try omega
     go_wp2_with fail
     go_round
     case rel=>exact⟨0+1,by omega,by go_num,Lib.hid fun j hj Df=>by
      by_cases NG:j=0
      ·subst NG;simp[xW,ma,nF];omega
      ·exact fy.out j hj (by omega)⟩
     case measure=>simp[intOf];try omega
    ·have yp:((s[0].toNat:Int) !=95)=true:=by simp;try omega
     go_wp2_with fail
     all_goals first
      |(go_ret;exact⟨jW (fq fun hh=>by have:=hh.2 0 eG;simp[xW,ma,nF]at this;omega),rfl⟩)
      |(exfalso;simp_all;done)
      |(exfalso;simp_all;omega)
   ·have hz:((k:Int)==0)=false:=by simpa using qy
    have xD:1<=k:=by omega
    clear qy
    rcases hc with h|⟨h,h'⟩|⟨h,h'⟩|⟨h,h'⟩|⟨h,h'⟩|⟨h,h'⟩|⟨h,h'⟩|⟨h,h'⟩|h
    ·have yp:((s[k].toNat:Int) !=95)=true:=by simp;try omega
     go_wp2_with fail
     all_goals first
      |(go_ret;exact⟨jW (fq fun hh=>by have:=hh.2 k eG;simp[xW,ma,nF]at this;omega),rfl⟩)
      |(exfalso;simp_all;done)
      |(exfalso;simp_all;omega)
    ·have yp:((s[k].toNat:Int) !=95)=true:=by simp;try omega
     go_wp2_with fail
     go_round
     case rel=>exact⟨k+1,by omega,by go_num,Lib.hid fun j hj Df=>by
      by_cases NG:j=k
      ·subst NG;simp[xW,ma,nF];omega
      ·exact fy.out j hj (by omega)⟩
     case measure=>simp[intOf];try omega
    ·have yp:((s[k].toNat:Int) !=95)=true:=by simp;try omega
     go_wp2_with fail
     all_goals first
      |(go_ret;exact⟨jW (fq fun hh=>by have:=hh.2 k eG;simp[xW,ma,nF]at this;omega),rfl⟩)
      |(exfalso;simp_all;done)
      |(exfalso;simp_all;omega)
    ·have yp:((s[k].toNat:Int) !=95)=true:=by simp;try omega
     go_wp2_with fail
     go_round
     case rel=>exact⟨k+1,by omega,by go_num,Lib.hid fun j hj Df=>by
      by_cases NG:j=k
      ·subst NG;simp[xW,ma,nF];omega
      ·exact fy.out j hj (by omega)⟩
     case measure=>simp[intOf];try omega
    ·have yp:((s[k].toNat:Int) !=95)=true:=by simp;try omega
     go_wp2_with fail
     all_goals first
      |(go_ret;exact⟨jW (fq fun hh=>by have:=hh.2 k eG;simp[xW,ma,nF]at this;omega),rfl⟩)
      |(exfalso;simp_all;done)
      |(exfalso;simp_all;omega)
    ·have yp:((s[k].toNat:Int) !=95)=false:=by simp;try omega
     go_wp2_with fail
     go_round
     case rel=>exact⟨k+1,by omega,by go_num,Lib.hid fun j hj Df=>by
      by_cases NG:j=k
      ·subst NG;simp[xW,ma,nF];omega
      ·exact fy.out j hj (by omega)⟩
     case measure=>simp[intOf];try omega
    ·have yp:((s[k].toNat:Int) !=95)=true:=by simp;try omega
     go_wp2_with fail
     all_goals first
      |(go_ret;exact⟨jW (fq fun hh=>by have:=hh.2 k eG;simp[xW,ma,nF]at this;omega),rfl⟩)
      |(exfalso;simp_all;done)
      |(exfalso;simp_all;omega)
    ·have yp:((s[k].toNat:Int) !=95)=true:=by simp;try omega
     go_wp2_with fail
     go_round
     case rel=>exact⟨k+1,by omega,by go_num,Lib.hid fun j hj Df=>by
      by_cases NG:j=k
      ·subst NG;simp[xW,ma,nF];omega
      ·exact fy.out j hj (by omega)⟩
     case measure=>simp[intOf];try omega
    ·have yp:((s[k].toNat:Int) !=95)=true:=by simp;try omega
     go_wp2_with fail
     all_goals first
      |(go_ret;exact⟨jW (fq fun hh=>by have:=hh.2 k eG;simp[xW,ma,nF]at this;omega),rfl⟩)
      |(exfalso;simp_all;done)
      |(exfalso;simp_all;omega)
  ·by_cases h1:1<=s.size
   ·by_cases h2:s.size<=12
    ·go_wp2_with fail
     go_ret
     exact⟨jW (F4 (by simp<;>omega) ⟨⟨h1,h2⟩,fun i h=>fy.out i h (by omega)⟩),rfl⟩
    ·go_wp2_with fail
     go_ret
     exact⟨jW (vh (by simp<;>omega) fun h=>h2 h.1.2),rfl⟩
   ·go_wp2_with fail
    go_ret
    exact⟨jW (vh (by simp<;>omega) fun h=>h1 h.1.1),rfl⟩
end

namespace V
open Go.RowKit
theorem mixed:Tryz.prog.follows .mixedOrders=true:=by kernel_rfl
variable {P:Program} {w:World} {D:Nat->Prop} {ι:Names}
theorem om {f:Nat} {args:List AV} {r:AV} {vs0:Array Value} {u0:Value} (qa:∀(w:World) (D:Nat->Prop) (ι:Names) vs,gI P w D ι args vs->vs=vs0) (hr:∀(w:World) (D:Nat->Prop) (ι:Names),dX P w D ι r u0) (Je:∀g,iG g 6 r=some r)
  (h:∀w,Calls P f vs0 w fun e w'=>e=.returned u0/\Below w.heap.size w w'):au P f args r:=by
 intro n;refine fW fun hs D ι w vs S U A=>?_;have:=qa w D ι vs A;subst this;refine(h w).mono ?_;rintro e w' ⟨rfl,hb⟩
 exact⟨r,_,n,D,ι,u0,rfl,⟨r,Je _,rfl⟩,Step.stay S hb.block hb.size hb.os hb.tape hb.output (fun _ h=>h) (fun _ h=>.inl h) (fun _ _ h=>h),
  S.stay hb.block hb.size (fun _ h=>h) (fun b hd=>Nat.lt_of_lt_of_le (S.dead b hd) hb.size) (fun _ h=>.inl h) (fun _ _ h=>h),U,Nat.le_refl _,hr _ _ _⟩
theorem Gg {s:ByteArray} {vs:Array Value} (h:gI P w D ι [.str s] vs):vs= #[.string s]:=by
 obtain⟨h1,h2⟩:=h;obtain⟨u,hu,hr⟩:=h2 0 _ rfl;rw[il hr]at hu;obtain⟨l⟩:=vs
 cases l with
 |nil=>simp at h1
 |cons a l=>cases l with
  |nil=>simp at hu;subst hu;rfl
  |cons b l=>simp at h1
theorem JG (s:ByteArray) (hs:s.size<=9223372036854775807):au Tryz.prog 110 [.str s] (.bool (je s)):=
 om (fun _ _ _ _=>Gg) (fun _ _ _=>.fw _ _ (.bool _)) (fun g=>fK g 5 _) fun w=>Gk w s hs
theorem Jp (s:ByteArray) (hs:s.size<=9223372036854775807):au Tryz.prog 100 [.str s] (.bool (je s)):=
 om (fun _ _ _ _=>Gg) (fun _ _ _=>.fw _ _ (.bool _)) (fun g=>fK g 5 _) fun w=>(FC w s hs).mono (by rintro e w' ⟨rfl,rfl⟩;exact⟨rfl,Below.refl _ _⟩)
end V

section
open Go.RowKit
def wG (n:Nat):List UInt8:=if h:n=0 then[]else wG (n / 10)++[UInt8.ofNat (48+n % 10)]
termination_by n
decreasing_by omega
theorem Bw:wG 0=[]:=by unfold wG;simp
theorem EW {n:Nat} (h:n≠0):wG n=wG (n / 10)++[UInt8.ofNat (48+n % 10)]:=by
 conv=>lhs;unfold wG
 rw[dif_neg h]
theorem Km (c:UInt8) (l:ByteArray):((⟨#[c]⟩++l:ByteArray)).data.toList=c::l.data.toList:=by
 simp[ByteArray.data_append]
theorem y6:∀(m n:Nat),n<10 ^ m->(wG n).length<=m
 |0,n,h=>by
  have:n=0:=by simpa using h
  subst this;simp[wG]
 |m+1,n,h=>by
  unfold wG
  split
  ·simp
  ·have:=y6 m (n / 10) (by rw[Nat.pow_succ]at h;omega)
   simp;omega
end

namespace V
open Go.RowKit
attribute [local irreducible] dY wpOps fm Call
theorem RI {P:Program} {w:World} {D:Nat->Prop} {ι:Names} {k:Int} {vs:Array Value} (h:gI P w D ι [.int .i64 k] vs):vs= #[.int .i64 k]:=by
 obtain⟨h1,h2⟩:=h;obtain⟨u,hu,hr⟩:=h2 0 _ rfl;rw[eh hr]at hu;obtain⟨l⟩:=vs
 cases l with
 |nil=>simp at h1
 |cons a l=>cases l with
  |nil=>simp at hu;subst hu;rfl
  |cons b l=>simp at h1
end V

namespace V
open Go.RowKit
def AV.clean:AV->Bool
 | .int .. | .bool _| .str _| .ck| .jk| .kf| .kG| .j4| .own .. | .ptr .. | .map .. | .uB _=>true
 | .sl l=>l.isEmpty
 |_=>false
def AV.CQ:AV->Bool
 | .agg cs=>cs.all AV.clean
 | .gG cs=>cs.all fun a=>match a with
  | .agg cs=>cs.all AV.clean
  |a=>a.clean
 |a=>a.clean
def Cr (ids:List Id) (g g':Rows):Rows:=fun id=>if id∈ids then g' id else g id
theorem rF {ids:List Id} {g g':Rows} {id:Id} (h:id∈ids):Cr ids g g' id=g' id:=if_pos h
theorem lF {ids:List Id} {g g':Rows} {id:Id} (h:id∉ids):Cr ids g g' id=g id:=if_neg h
section
variable {P:Program} {w w':World} {D D' D1 D2:Nat->Prop} {ι ι1 ι2:Names}
theorem lD {a:AV} {v:Value} (hp:a.clean=true) (h:dX P w D1 ι1 a v):dX P w D2 ι1 a v:=by
 cases h with
 |fw a v h=>
  cases h with
  |int=>exact .fw _ _ (.int _ _)
  |bool=>exact .fw _ _ (.bool _)
  |str=>exact .fw _ _ (.str _)
  |ck=>exact .fw _ _ .ck
  |jk=>exact .fw _ _ .jk
  |kf=>exact .fw _ _ .kf
  |kG=>exact .fw _ _ .kG
  |j4=>exact .fw _ _ .j4
  |err=>simp[AV.clean]at hp
  |Er a c h=>exact .fw _ _ (.Er a c h)
  |sl rows b o n c sz vs h1 h2 h3=>
   have:rows=[]:=by simpa[AV.clean]using hp
   subst this;simp only[List.length_nil]at h1;subst h1;exact .fw _ _ (.Er _ _ h3)
  |dZ=>simp[AV.clean]at hp
  |agg=>simp[AV.clean]at hp
  |fn=>simp[AV.clean]at hp
 |own id off len o cap B h1 h2 h3 h4 h5 h6=>exact .own id off len o cap B h1 h2 h3 h4 h5 h6
 |map id m B h1 h2=>exact .map id m B h1 h2
 |uB id c B h1 h2=>exact .uB id c B h1 h2
 |ptr id i off B h1 h2=>exact .ptr id i off B h1 h2
 |agg=>simp[AV.clean]at hp
 |gG=>simp[AV.clean]at hp
 |fn=>simp[AV.clean]at hp
 |xH=>simp[AV.clean]at hp
theorem oi {cs:List AV} {v:Value} (hc:cs.all AV.clean=true) (h:dX P w D1 ι1 (.agg cs) v):dX P w D2 ι1 (.agg cs) v:=by
 obtain⟨vs,f,rfl,h1,h2,h3,h4⟩:=jQ h;rw[List.all_eq_true]at hc;exact .agg cs vs f h1 h2 h3 fun j a ha=>lD (hc a (List.mem_of_getElem? ha)) (h4 j a ha)
theorem Ie {a:AV} {v:Value} (hp:a.CQ=true) (h:dX P w D1 ι1 a v):dX P w D2 ι1 a v:=by
 cases a with
 |agg cs=>exact oi hp h
 |gG cs=>
  obtain⟨vs,f,rfl,h1,h3,h4⟩:=yC h;simp only[AV.CQ,List.all_eq_true]at hp;refine .gG cs vs f h1 h3 fun j a ha=>?_;have:=hp a (List.mem_of_getElem? ha)
  split at this
  ·exact oi this (h4 j _ ha)
  ·exact lD this (h4 j _ ha)
 |_=>exact lD hp h
theorem Ia {ag:Bool} {n:Nat} {cs:List AV} {x:AV} {v:Value} (hc:∀a∈cs,a.clean=true) (hp:part ag n cs=some x) (hr:dX P w D1 ι1 x v):dX P w D2 ι1 x v:=by
 unfold part at hp
 split at hp
 ·split at hp
  ·simp only[Option.some.injEq]at hp;subst hp;exact oi (List.all_eq_true.2 fun a ha=>hc a (List.mem_of_mem_take ha)) hr
  ·cases hp
 ·exact lD (hc x (List.mem_of_mem_head? hp)) hr
theorem jl.clean {B:wv} {r:Row} (R:jl P w D1 ι1 B r) (h:∀cs∈r.rows,∀a∈cs,a.clean=true):jl P w D2 ι1 B r:=
 ⟨R.sz,R.flat,fun hk=>⟨R.sz,(R.row hk).wc,(R.row hk).fits,(R.row hk).len,R.flat,fun i j cs a hi hj=>by
  obtain⟨v,q1,q2⟩:=(R.row hk).at_ i j cs a hi hj
  exact⟨v,q1,lD (h cs (List.mem_of_getElem? hi) a (List.mem_of_getElem? hj)) q2⟩⟩,fun m hm=>by
  obtain⟨h1,es,c,h2,h3,h5,h4⟩:=R.map m hm;refine⟨h1,es,c,h2,h3,h5,fun i cs hi=>?_⟩;obtain⟨e,kv,vv,q1,q2,q3,q4,q5⟩:=h4 i cs hi;have hc:=h cs (List.mem_of_getElem? hi)
  exact⟨e,kv,vv,q1,q2,q3,Ia hc q2 q4,lD (hc vv (List.mem_of_getElem? q3)) q5⟩,fun c hc=>by
  obtain⟨h1,buf,s,q,h2,h3,h4⟩:=R.chan c hc;refine⟨h1,buf,s,q,h2,h3,fun i cs hi=>?_⟩;obtain⟨a,u,rfl,q2,q3⟩:=h4 i cs hi
  exact⟨a,u,rfl,q2,lD (h [a] (List.mem_of_getElem? hi) a (by simp)) q3⟩⟩
def Handed (ids:List Id) (g:Rows):Prop:=∀id∈ids,∃r,g id=some r/\r.w=true/\∀cs∈r.rows,∀a∈cs,a.clean=true
theorem LR {f:Nat} {args args':List AV} {g:Rows} {n:Nat} {K:AV->aw->Prop} (hv:eM (ef g) 6 args=some args')
  (h:Sound P f args' ⟨fun _=>none,n⟩ fun r σ'=>∃ids,r.CQ=true/\Handed ids σ'.get/\K r ⟨Cr ids g σ'.get,σ'.next⟩):Sound P f args ⟨g,n⟩ K:=by
 intro hs D ι w vs S U A
 let E:Nat->Prop:=fun b=>D b∨∃id r B,g id=some r/\ι id=some B/\b=B.b
 have lt:∀id r B,g id=some r->ι id=some B->B.b<w.heap.size:=fun id r B h1 h2=>by
  obtain⟨B',eY,R,_⟩:=S.row id r h1;rw[h2]at eY;injection eY with eY;subst eY
  exact R.lt
 have S0:iE P w.heap.size E ι (fun _=>none) w:=⟨Nat.le_refl _,fun b hb=>by
  rcases hb with hb|⟨id,r,B,h1,h2,rfl⟩
  ·exact S.dead b hb
  ·exact lt id r B h1 h2,fun id r h=>(by cases h),fun id lP r r' B B' h=>(by cases h)⟩
 obtain⟨l1,l2⟩:=jb hv
 have A':gI P w E ι args' vs:=⟨by rw[A.1,l1],fun j a hj=>by
  obtain⟨a0,mH,hz⟩:=l2 j a hj;obtain⟨u,hu,hr⟩:=A.2 j a0 mH;refine⟨u,hu,(uM (D2:=E) (ι2:=ι) (fun b h=>.inl h) (fun id row hg hw=>?_) 6 a0 u a hr hz).1⟩;unfold ef at hg;simp only[i7]at hg;obtain⟨r,qz,rfl⟩:=hg;obtain⟨B,hB,R,_,_⟩:=S.row id r qz
  exact⟨B,hB,R.flag true,.inr ⟨id,r,B,qz,hB,rfl⟩⟩⟩
 refine(h w.heap.size E ι w vs S0 U A').mono ?_;rintro e w' ⟨r0,g',n',D2,ι1,u,rfl,⟨ids,mJ,hid,hK⟩,T,S1,U1,hn,hR⟩;have hb:∀b,b<w.heap.size->w'.heap[b]? =w.heap[b]? :=T.below.block;have hz:=T.below.size;have frame:∀{a v},dX P w D ι a v->dX P w' D ι1 a v:=fun h=>h.frame (fun b hd=>hb b (S.dead b hd)) (fun _ h=>h) T.names;refine⟨r0,_,n',D,ι1,u,rfl,hK,⟨T.below.mono S.lo,fun b hd=>hb b (S.dead b hd),fun _ h=>h,T.names,fun _ h=>.inl h⟩,⟨Nat.le_trans S.lo hz,fun b hd=>Nat.lt_of_lt_of_le (S.dead b hd) hz,fun id r hr=>?_,fun Y4 id2 r1 r2 B1 B2 h1 h2 hw Ef lO GG=>?_⟩,U1,hn,Ie mJ hR⟩
 ·by_cases hi:id∈ids
  ·rw[rF hi]at hr;obtain⟨r',qz,hw,hcr⟩:=hid id hi;rw[hr]at qz;injection qz with qz;subst qz
   obtain⟨B,hB,R,k1,k2⟩:=S1.row id r hr;have lp:=k1 hw;exact⟨B,hB,R.clean hcr,fun _=>Nat.le_trans S.lo lp,fun _ hd=>Nat.lt_irrefl _ (Nat.lt_of_lt_of_le (S.dead _ hd) lp)⟩
  ·rw[lF hi]at hr;obtain⟨B,hB,R,k1,k2⟩:=S.row id r hr;have L8:=lt id r B hr hB;exact⟨B,T.names _ _ hB,R.frame (hb _ L8) fun a v h=>frame h,k1,k2⟩
 ·have new:∀{id r B},id∈ids->Cr ids g g' id=some r->ι1 id=some B->w.heap.size<=B.b/\g' id=some r/\r.w=true:=fun {id r B} hi hr hB=>by
   rw[rF hi]at hr;obtain⟨r',qz,hw,_⟩:=hid id hi;replace qz:g' id=some r':=qz;rw[hr]at qz;injection qz with qz;subst qz
   obtain⟨B',eY,_,k1,_⟩:=S1.row id r hr;rw[hB]at eY;injection eY with eY;subst eY
   exact⟨k1 hw,hr,hw⟩
  have F9:∀{id r B},id∉ids->Cr ids g g' id=some r->ι1 id=some B->B.b<w.heap.size/\g id=some r/\ι id=some B:=fun {id r B} hi hr hB=>by
   rw[lF hi]at hr;obtain⟨B',eY,_⟩:=S.row id r hr;have:=T.names _ _ eY;rw[hB]at this;injection this with this;subst this
   exact⟨lt id r _ hr eY,hr,eY⟩
  by_cases i1:Y4∈ids
  ·obtain⟨a1,a2,a3⟩:=new i1 h1 Ef
   by_cases i2:id2∈ids
   ·obtain⟨b1,b2,b3⟩:=new i2 h2 lO;exact S1.inj Y4 id2 r1 r2 B1 B2 a2 b2 hw Ef lO GG
   ·obtain⟨b1,_⟩:=F9 i2 h2 lO;omega
  ·obtain⟨a1,a2,a3⟩:=F9 i1 h1 Ef
   by_cases i2:id2∈ids
   ·obtain⟨b1,_⟩:=new i2 h2 lO;omega
   ·obtain⟨b1,b2,b3⟩:=F9 i2 h2 lO;exact S.inj Y4 id2 r1 r2 B1 B2 a2 b2 hw a3 b3 GG
theorem yI (hm:P.follows .mixedOrders=true) {f:Nat} {args args':List AV} {σ:aw} {K:AV->aw->Prop} (hv:eM (ef σ.get) 6 args=some args')
  (h:Call P f args' ⟨fun _=>none,σ.next⟩ fun r σ'=>∃ids,r.CQ=true/\Handed ids σ'.get/\K r ⟨Cr ids σ.get σ'.get,σ'.next⟩):Call P f args σ K:=
 fW (LR hv (iO hm h))
end
inductive th:List AV->List AV->Prop
 |nil:th [] []
 |same (a) {l l'}:th l l'->th (a::l) (a::l')
 |ptr (cs rest) {l l'}:th l l'->th (.dZ (cs++rest)::l) (.dZ cs::l')
 |ck {l l'}:th l l'->th (.ck::l) (.sl []::l')
theorem RK {P:Program} {w:World} {D:Nat->Prop} {ι:Names} {cs rest:List AV} {v:Value} (h:dX P w D ι (.dZ (cs++rest)) v):dX P w D ι (.dZ cs) v:=by
 obtain⟨b,o,vs,rfl,h1,h2,h3,h4⟩:=nu h
 exact .fw _ _ (.dZ cs b o vs h1 (fun a ha=>h2 a (List.mem_append_left _ ha)) (fun j hj=>h3 j (by rw[i6];omega)) fun j a ha=>h4 j a (by
  have:=(List.getElem?_eq_some_iff.1 ha).1
  rw[List.getElem?_append_left this];exact ha))
theorem RM {P:Program} {w:World} {D:Nat->Prop} {ι:Names} {v:Value} (h:dX P w D ι .ck v):dX P w D ι (.sl []) v:=by
 cases h with
 |fw _ _ h=>
  cases h with
  |ck=>exact .fw _ _ (.Er none 0 (Nat.zero_le _))
theorem th.len {l l':List AV} (h:th l l'):l'.length=l.length:=by induction h<;>simp_all
theorem th.get {P:Program} {w:World} {D:Nat->Prop} {ι:Names} {l l':List AV} (h:th l l'):∀{j:Nat} {a':AV},l'[j]? =some a'->∃a,l[j]? =some a/\∀v,dX P w D ι a v->dX P w D ι a' v:=by
 induction h with
 |nil=>intro j a' hj;simp at hj
 |same a _ ih=>
  intro j a' hj
  cases j with
  |zero=>simp at hj;subst hj;exact⟨a,rfl,fun _ h=>h⟩
  |succ j=>exact ih (by simpa using hj)
 |ptr cs rest _ ih=>
  intro j a' hj
  cases j with
  |zero=>simp at hj;subst hj;exact⟨_,rfl,fun _ h=>RK h⟩
  |succ j=>exact ih (by simpa using hj)
 |ck _ ih=>
  intro j a' hj
  cases j with
  |zero=>simp at hj;subst hj;exact⟨_,rfl,fun _ h=>RM h⟩
  |succ j=>exact ih (by simpa using hj)
theorem Call.cut {P:Program} (hm:P.follows .mixedOrders=true) {f:Nat} {args args':List AV} {σ:aw} {K:AV->aw->Prop} (hc:th args args') (h:Call P f args' σ K):Call P f args σ K:=
 fW fun hs D ι w vs S U A=>iO hm h hs D ι w vs S U ⟨by rw[A.1,hc.len],fun j a' hj=>by
  obtain⟨a,ha,hr⟩:=hc.get (P:=P) (w:=w) (D:=D) (ι:=ι) hj;obtain⟨u,hu,hv⟩:=A.2 j a ha
  exact⟨u,hu,hr u hv⟩⟩
theorem au.cut {P:Program} (hm:P.follows .mixedOrders=true) {f:Nat} {args args':List AV} {r:AV} (hc:th args args') (h:au P f args' r):au P f args r:=fun n=>(h n).cut hm hc
end V

namespace V
open Go.RowKit
attribute [local irreducible] dY wpOps fm Call
attribute [local go_sem] aD eU eA fh fc dq upd bV K.av cz AV.cells AV.cell rowOf rowsOf part ld rowAt fD bJ bQ dz dF fF br cQ dP e8 eF dh dI cM cL dr du bz aU cD bx cH cF dy dJ dH cB bF cP dG bt az cJ bY fE bd cr bD aP dc ba dj AV.undef bh bq dw dD dn dm cm dM dQ bW dL dK cI cK List.getD_cons_zero List.getD_cons_succ List.getD_nil List.all_cons List.all_nil Bool.and_true Bool.true_and Bool.and_self Bool.not_true Bool.not_false Option.map_some Option.map_none Option.bind_some Option.bind_none List.length_cons List.length_nil List.take_succ_cons List.take_zero List.take_nil List.drop_succ_cons List.drop_zero List.drop_nil List.head?_cons List.map_cons List.map_nil List.getElem?_cons_zero List.getElem?_cons_succ List.cons_append List.nil_append List.append_nil List.length_map List.set_cons_zero List.set_cons_succ eq_self Int.toNat_natCast Int.natCast_nonneg and_self true_and and_true decide_true decide_false Bool.false_eq_true Nat.zero_add Nat.add_zero List.contains_cons List.contains_nil Bool.or_false Bool.false_or beq_self_eq_true ne_eq not_true_eq_false not_false_eq_true Id.mk.injEq false_and and_false Nat.le_refl i6 beq_true beq_false Bool.not_eq_eq_eq_not or_false false_or ef ah aj aL aW bj bP aM bb aJ aY cq bp
section
variable {P:Program} {α:Type} {e:α->List AV} {z:Nat} {g g':Rows} {v:AV} {L:List α} {ids:List Id}
def Zb (e:α->List AV) (L:List α):AV:=if L.length=0 then .ck else .sl (L.map e)
theorem wz (hm:P.follows .mixedOrders=true) {f:Nat} {args:List AV} {σ:aw} {K:AV->aw->Prop} (h:Call P f args σ K):Call P f args σ (fun r σ'=>K r σ'/\σ.next<=σ'.next):=
 fW fun hs D ι w vs S U A=>(iO hm h hs D ι w vs S U A).mono (by
  rintro e w' ⟨r,g',n',D2,ι1,u,rfl,hK,T,S1,U1,hn,hR⟩
  exact⟨r,g',n',D2,ι1,u,rfl,⟨hK,hn⟩,T,S1,U1,hn,hR⟩)
end
end V

namespace V
open Go.RowKit
attribute [local irreducible] dY wpOps fm Call
section
variable {P:Program}
theorem oN {xs:List AV} {w:World} {D:Nat->Prop} {ι:Names} {a:AV} {v:Value} {vs:Array Value} (h:lH P w D a v) (k:gI P w D ι xs vs):gI P w D ι (a::xs) (#[v]++vs):=
 rl (xs:=[a]) ⟨rfl,fun j b hj=>by
  cases j with
  |zero=>simp at hj;subst hj;exact⟨v,rfl,.fw _ _ h⟩
  |succ j=>simp at hj⟩ k
end
end V

namespace V
open Go.RowKit
attribute [local irreducible] dY wpOps fm Call
attribute [local go_sem] aD eU eA fh fc dq upd bV K.av cz AV.cells AV.cell rowOf rowsOf part ld rowAt fD bJ bQ dz dF fF br cQ dP e8 eF dh dI cM cL dr du bz aU cD bx cH cF dy dJ dH cB bF cP dG bt az cJ bY fE bd cr bD aP dc ba dj AV.undef bh bq dw dD dn dm cm dM dQ bW dL dK cI cK List.getD_cons_zero List.getD_cons_succ List.getD_nil List.all_cons List.all_nil Bool.and_true Bool.true_and Bool.and_self Bool.not_true Bool.not_false Option.map_some Option.map_none Option.bind_some Option.bind_none List.length_cons List.length_nil List.take_succ_cons List.take_zero List.take_nil List.drop_succ_cons List.drop_zero List.drop_nil List.head?_cons List.map_cons List.map_nil List.getElem?_cons_zero List.getElem?_cons_succ List.cons_append List.nil_append List.append_nil List.length_map List.set_cons_zero List.set_cons_succ eq_self Int.toNat_natCast Int.natCast_nonneg and_self true_and and_true decide_true decide_false Bool.false_eq_true Nat.zero_add Nat.add_zero List.contains_cons List.contains_nil Bool.or_false Bool.false_or beq_self_eq_true ne_eq not_true_eq_false not_false_eq_true Id.mk.injEq false_and and_false Nat.le_refl i6 beq_true beq_false Bool.not_eq_eq_eq_not or_false false_or ef ah aj aL aW bj bP aM bb aJ aY cq bp
theorem IY (g:Rows) (s:ar):fz g 6 (.agg (aK s))=some (.agg (aK s)):=by simp[aK,bb,ah,aj,bP,aL]
end V
end Go.Proofs.YtoodopepphhpoaaGreatDoor
