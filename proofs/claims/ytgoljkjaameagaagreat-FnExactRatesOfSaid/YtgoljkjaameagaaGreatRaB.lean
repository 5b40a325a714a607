/- One operation, calls among them. -/
import Derived.Test.YtgoljkjaameagaaGreatRaA
import Derived.Orders
import Derived.Conc.LoneCalls
import Derived.WalkKit
import Derived.WalkSpells
import Derived.WalkLawsBesides
import Derived.Lib.Hide
import Derived.Deep.QuietTactic
import Derived.BigQuiet
import Derived.StillTailTactics
import Derived.Deep.RegionWith
import Derived.Deep.RegionHeld3
import Derived.Deep.LoopGhost
import Derived.Deep.CutRange
import Derived.Deep.DeepCutAuto
import Derived.Test.YtgoljkjaameagaaGreatChecked
set_option linter.unusedVariables false
set_option linter.unusedSimpArgs false
set_option maxRecDepth 100000
set_option maxHeartbeats 16000000
namespace Go.Proofs.YtgoljkjaameagaaGreat.V
open Go.RowKit
variable {P:Program} {w w':World} {D D' D2:Nat->Prop} {ι ι' ι2:Names}
def Sound (P:Program):fK:=fun f args σ K=>∀(hs:Nat) (D:Nat->Prop) (ι:Names) (w:World) (vs:Array Value),gy P hs D ι σ.get w->Used ι σ.next (fun _=>False)->fo P w D ι args vs->
 Calls P f vs w fun e w'=>∃r g' n' D' ι' u,e=.returned u/\K r ⟨g',n'⟩/\Step hs D ι w D' ι' w'/\gy P hs D' ι' g' w'/\Used ι' n' (fun _=>False)/\σ.next<=n'/\dh P w' D' ι' r u
section
variable {g:Rows} {hs:Nat} {env:Env} {a:Act} {o:Oper} {id:Id} {v:AV}
theorem gy.ro (S:gy P hs D ι g w):gy P w.heap.size D ι (ro g) w:=by
 refine⟨Nat.le_refl _,S.dead,fun id r h=>?_,fun id k6 r r' B B' h h' hw=>?_⟩
 ·unfold V.ro at h
  simp only[Option.map_eq_some_iff]at h
  obtain⟨r0,h0,rfl⟩:=h
  obtain⟨B,hB,R,_,_⟩:=S.row id r0 h0
  exact⟨B,hB,R.flag false,fun h=>by simp at h,fun h=>by simp at h⟩
 ·unfold V.ro at h
  simp only[Option.map_eq_some_iff]at h
  obtain⟨r0,h0,rfl⟩:=h
  simp at hw
theorem A9 {g0:Rows} {f:Nat} {args:List AV} {n:Nat} {K:AV->Prop} {vs:Array Value} (h:PC (Sound P) f args ⟨g0,n⟩ K) (qQ:∀id r,g0 id=some r->g id=some r) (S:gy P hs D ι g w) (U:Used ι n (fun _=>False)) (A:fo P w D ι args vs):
  Calls P f vs w fun e w'=>∃r D' u,e=.returned u/\K r/\Step hs D ι w D' ι w'/\gy P hs D' ι g w'/\dh P w' D' ι r u:=by
 refine(h w.heap.size D ι w vs (S.sub qQ).ro U A).mono ?_
 rintro e w' ⟨r0,g',n',D1,ι1,u,rfl,⟨r,hr,hK⟩,T,S1,_,_,hR⟩
 have hb:∀b,b<w.heap.size->w'.heap[b]? =w.heap[b]? :=T.below.block
 have hz:=T.below.size
 have q:=rU (D2:=fun b=>D b∨(w.heap.size<=b/\b<w'.heap.size)) (ι2:=ι) (fun b hd=>by
  rcases T.new b hd with h|h
  ·exact .inl h
  ·exact .inr ⟨h,S1.dead b hd⟩) (fun id row hg hw=>by
  obtain⟨B,hB,R,h1,_⟩:=S1.row id row hg
  exact⟨B,hB,R,.inr ⟨h1 hw,R.lt⟩⟩) 6 r0 u r hR hr
 refine⟨r,_,u,rfl,hK,?_,?_,q.1⟩
 ·exact Step.stay S hb hz T.below.os T.below.tape T.below.output (fun _ h=>.inl h) (fun b h=>by rcases h with h|h;exact .inl h;exact .inr h.1) (fun _ _ h=>h)
 ·exact S.stay hb hz (fun _ h=>.inl h) (fun b h=>by rcases h with h|h;exact Nat.lt_of_lt_of_le (S.dead b h) hz;exact h.2) (fun b h=>by rcases h with h|h;exact .inl h;exact .inr h.1) (fun _ _ h=>h)
theorem x9 {g0:Rows} {f:Nat} {args:List AV} {n:Nat} {K:AV->Prop} {vs:Array Value} (h:PCv (Sound P) f args ⟨g0,n⟩ K) (qQ:∀id r,g0 id=some r->g id=some r) (S:gy P hs D ι g w) (U:Used ι n (fun _=>False)) (A:fo P w D ι args vs):
  Calls P f vs w fun e w'=>∃r D' u,e=.returned u/\K r/\Step hs D ι w D' ι w'/\gy P hs D' ι g w'/\dh P w' D' ι r u:=by
 obtain⟨eF,ha,h⟩:=h
 let D1:Nat->Prop:=fun b=>D b∨∃id r B,g id=some r/\ι id=some B/\b=B.b
 have lt:∀id r B,g id=some r->ι id=some B->B.b<w.heap.size:=fun id r B h1 h2=>by
  obtain⟨B',dH,R,_⟩:=S.row id r h1
  rw[h2]at dH;injection dH with dH;subst dH
  exact R.lt
 have S0:gy P w.heap.size D1 ι (fun _=>none) w:=⟨Nat.le_refl _,fun b hb=>by
  rcases hb with hb|⟨id,r,B,h1,h2,rfl⟩
  ·exact S.dead b hb
  ·exact lt id r B h1 h2,fun id r h=>(by cases h),fun id k6 r r' B B' h=>(by cases h)⟩
 obtain⟨l1,l2⟩:=gC ha
 have A':fo P w D1 ι eF vs:=⟨by rw[A.1,l1],fun j a hj=>by
  obtain⟨a0,lE,hf⟩:=l2 j a hj
  obtain⟨u,hu,hr⟩:=A.2 j a0 lE
  refine⟨u,hu,(rU (D2:=D1) (ι2:=ι) (fun b h=>.inl h) (fun id row hg hw=>?_) 6 a0 u a hr hf).1⟩
  unfold dJ at hg
  simp only[Option.map_eq_some_iff]at hg
  obtain⟨r,ot,rfl⟩:=hg
  obtain⟨B,hB,R,_,_⟩:=S.row id r (qQ id r ot)
  exact⟨B,hB,R.flag true,.inr ⟨id,r,B,qQ id r ot,hB,rfl⟩⟩⟩
 refine(h w.heap.size D1 ι w vs S0 U A').mono ?_
 rintro e w' ⟨r0,g',n',D2,ι1,u,rfl,⟨r,hr,hK⟩,T,S1,_,_,hR⟩
 have hb:∀b,b<w.heap.size->w'.heap[b]? =w.heap[b]? :=T.below.block
 have hz:=T.below.size
 have q:=GQ (D2:=fun b=>D b∨(w.heap.size<=b/\b<w'.heap.size)) (ι2:=ι) (fun id row hg hw=>by
  obtain⟨B,hB,R,h1,_⟩:=S1.row id row hg
  exact⟨B,hB,R,.inr ⟨h1 hw,R.lt⟩⟩) 6 r0 u r hR hr
 refine⟨r,_,u,rfl,hK,?_,?_,q.1⟩
 ·exact Step.stay S hb hz T.below.os T.below.tape T.below.output (fun _ h=>.inl h) (fun b h=>by rcases h with h|h;exact .inl h;exact .inr h.1) (fun _ _ h=>h)
 ·exact S.stay hb hz (fun _ h=>.inl h) (fun b h=>by rcases h with h|h;exact Nat.lt_of_lt_of_le (S.dead b h) hz;exact h.2) (fun b h=>by rcases h with h|h;exact .inl h;exact .inr h.1) (fun _ _ h=>h)
theorem Gl {g0:Rows} {f:Nat} {args:List AV} {n:Nat} {K:AV->Prop} {vs:Array Value} (h:gq (Sound P) f args ⟨g0,n⟩ K) (qQ:∀id r,g0 id=some r->g id=some r) (S:gy P hs D ι g w) (U:Used ι n (fun _=>False)) (A:fo P w D ι args vs):
  Calls P f vs w fun e w'=>∃r D' u,e=.returned u/\K r/\Step hs D ι w D' ι w'/\gy P hs D' ι g w'/\dh P w' D' ι r u:=by
 rcases h with h|h
 ·exact A9 h qQ S U A
 ·exact x9 h qQ S U A
theorem HB {D1 D2:Nat->Prop} {ι1 ι2:Names} {w1:World} {a:AV} {v:Value} (hp:a.plain=true) (h:dh P w D1 ι1 a v):dh P w1 D2 ι2 a v:=by
 cases h with
 |eS a v h=>cases h<;>first|(simp[AV.plain]at hp;done)|exact .eS _ _ (by constructor)
 |_=>simp[AV.plain]at hp
theorem gy.add {r:Row} {B:sU} (S:gy P hs D ι g w) (S':gy P hs D ι g w') (hf:ι id=none) (ke:w.heap.size<=B.b) (R:ib P w' D (kC ι id B) B r):gy P hs D (kC ι id B) (bR g id r) w':=by
 have lt:∀k6 r' B',g k6=some r'->ι k6=some B'->B'.b<w.heap.size:=fun k6 r' B' h1 h2=>by
  obtain⟨B2,p7,R2,_⟩:=S.row k6 r' h1
  rw[h2]at p7;injection p7 with p7;subst p7
  exact R2.lt
 have ne:∀k6 r',g k6=some r'->k6≠id:=fun k6 r' h he=>by
  subst he
  obtain⟨B2,p7,_⟩:=S.row _ r' h
  rw[hf]at p7;cases p7
 refine⟨S'.lo,S'.dead,fun k6 r' h=>?_,fun Sm id2 r1 r2 B1 B2 h1 h2 hw AR p7 hb=>?_⟩
 ·unfold bR at h
  split at h
  ·rename_i he
   subst he
   injection h with h;subst h
   exact⟨B,eA _ _ _,R,fun _=>Nat.le_trans S.lo ke,fun _ hd=>Nat.lt_irrefl _ (Nat.lt_of_lt_of_le (S.dead _ hd) ke)⟩
  ·obtain⟨B',dH,R',k1,k2⟩:=S'.row k6 r' h
   exact⟨B',by rw[gp (ne _ _ h)];exact dH,R'.frame rfl (fun a v hr=>hr.frame (fun _ _=>rfl) (fun _ h=>h) (fU hf)),k1,k2⟩
 ·unfold bR at h1 h2
  split at h1
  ·rename_i e1
   split at h2
   ·rename_i e2;rw[e1,e2]
   ·exfalso
    subst e1
    rw[eA]at AR;injection AR with AR;subst AR
    rw[gp (ne _ _ h2)]at p7
    have:=lt _ _ _ h2 p7
    omega
  ·rw[gp (ne _ _ h1)]at AR
   split at h2
   ·rename_i e2
    exfalso
    subst e2
    rw[eA]at p7;injection p7 with p7;subst p7
    have:=lt _ _ _ h1 AR
    omega
   ·rw[gp (ne _ _ h2)]at p7
    exact S'.inj Sm id2 r1 r2 B1 B2 h1 h2 hw AR p7 hb
theorem Il {g0:Rows} {f:Nat} {args:List AV} {n sz:Nat} {rows:List (List AV)} {vs:Array Value} (h:CM (Sound P) f args ⟨g0,n⟩ sz rows) (qQ:∀id r,g0 id=some r->g id=some r) (S:gy P hs D ι g w) (U:Used ι n (fun _=>False)) (A:fo P w D ι args vs) (hf:ι id=none):
  Calls P f vs w fun e w'=>∃u B,e=.returned u/\Step hs D ι w D (kC ι id B) w'/\gy P hs D (kC ι id B) (bR g id ⟨true,sz,rows⟩) w'/\dh P w' D (kC ι id B) (.own id 0 rows.length) u:=by
 obtain⟨mQ,eF,ha,h⟩:=h
 let D1:Nat->Prop:=fun b=>D b∨∃id r B,g id=some r/\ι id=some B/\b=B.b
 have lt:∀id r B,g id=some r->ι id=some B->B.b<w.heap.size:=fun id r B h1 h2=>by
  obtain⟨B',dH,R,_⟩:=S.row id r h1
  rw[h2]at dH;injection dH with dH;subst dH
  exact R.lt
 have S0:gy P w.heap.size D1 ι (fun _=>none) w:=⟨Nat.le_refl _,fun b hb=>by
  rcases hb with hb|⟨id,r,B,h1,h2,rfl⟩
  ·exact S.dead b hb
  ·exact lt id r B h1 h2,fun id r h=>(by cases h),fun id k6 r r' B B' h=>(by cases h)⟩
 obtain⟨l1,l2⟩:=gC ha
 have A':fo P w D1 ι eF vs:=⟨by rw[A.1,l1],fun j a hj=>by
  obtain⟨a0,lE,hz⟩:=l2 j a hj
  obtain⟨u,hu,hr⟩:=A.2 j a0 lE
  refine⟨u,hu,(rU (D2:=D1) (ι2:=ι) (fun b h=>.inl h) (fun id row hg hw=>?_) 6 a0 u a hr hz).1⟩
  unfold dJ at hg
  simp only[Option.map_eq_some_iff]at hg
  obtain⟨r,ot,rfl⟩:=hg
  obtain⟨B,hB,R,_,_⟩:=S.row id r (qQ id r ot)
  exact⟨B,hB,R.flag true,.inr ⟨id,r,B,qQ id r ot,hB,rfl⟩⟩⟩
 refine(h w.heap.size D1 ι w vs S0 U A').mono ?_
 rintro e w' ⟨r0,g',n',D2,ι1,u,rfl,⟨i0,hr,hg⟩,T,S1,_,_,hR⟩
 subst hr
 have hb:∀b,b<w.heap.size->w'.heap[b]? =w.heap[b]? :=T.below.block
 have hz:=T.below.size
 obtain⟨B,hB,R,k1,_⟩:=S1.row i0 _ hg
 have ke:w.heap.size<=B.b:=k1 rfl
 obtain⟨o,cap,B',rfl,dH,q2,q3,q4,q5,hk⟩:=iT hR
 rw[hB]at dH;injection dH with dH;subst dH
 replace R:=R.row hk
 have S':gy P hs D ι g w':=S.stay hb hz (fun _ h=>h) (fun b h=>Nat.lt_of_lt_of_le (S.dead b h) hz) (fun b h=>.inl h) (fun _ _ h=>h)
 have R':kV P w' D (kC ι id B) B ⟨true,sz,rows⟩:=⟨R.sz,R.ye,R.fits,R.len,R.flat,fun i j cs a hi hj=>by
  obtain⟨v,h1,h2⟩:=R.at_ i j cs a hi hj
  exact⟨v,h1,HB (mQ cs (List.mem_of_getElem? hi) a (List.mem_of_getElem? hj)) h2⟩⟩
 exact⟨_,B,rfl,Step.stay S hb hz T.below.os T.below.tape T.below.output (fun _ h=>h) (fun _ h=>.inl h) (fU hf),S.add S' hf ke (R'.obj hk),.own id 0 _ _ _ B (eA _ _ _) hk q2 q3 q4 q5⟩
theorem jz {f:Nat} {args:Array Value} (hc:fQ P f=true):(callFunc f args).run P w=.ok (.enter f args) w:=by
 unfold fQ at hc
 split at hc
 ·rename_i fn hf
  simp only[Bool.and_eq_true,Bool.not_eq_true']at hc
  have hb:fn.body.isNone=false:=by cases hq:fn.body<;>simp_all
  simp only[callFunc,Sem.run_bind,run_program,Result.andThen_ok,hf,hc.2,Bool.false_eq_true,if_false,hb]
  rfl
 ·simp at hc
theorem Ce {f:Nat} {args:List O} (hc:rn P o.op=some (.call f args)):∃c,o.op=.call c/\c.callee=.value (.func f)/\fQ P f=true/\c.args.toList.mapM (cO P)=some args:=by
 unfold rn at hc
 split at hc
 case h_23=>
  rename_i c ho
  refine⟨c,ho,?_⟩
  unfold nK at hc
  split at hc
  all_goals (try(repeat' (split at hc))<;>(simp only[Option.bind_eq_bind,Option.bind_eq_some_iff,Option.pure_def,Option.some.injEq,Option.map_eq_some_iff,reduceCtorEq,and_false,exists_false]at hc))
  all_goals simp_all
 all_goals (try unfold vH at hc)<;>(try unfold s6 at hc)<;>(repeat' (split at hc))<;>(simp only[Option.bind_eq_bind,Option.bind_eq_some_iff,Option.pure_def,Option.some.injEq,Option.map_eq_some_iff,reduceCtorEq,and_false,exists_false]at hc)
theorem tn {x:O} {args:List O} (hc:rn P o.op=some (.tN x args)):∃c t,o.op=.call c/\c.callee=.value (.tmp t)/\x=.t t/\c.args.toList.mapM (cO P)=some args:=by
 unfold rn at hc
 split at hc
 case h_23=>
  rename_i c ho
  refine⟨c,?_⟩
  unfold nK at hc
  split at hc
  all_goals (try(repeat' (split at hc))<;>(simp only[Option.bind_eq_bind,Option.bind_eq_some_iff,Option.pure_def,Option.some.injEq,Option.map_eq_some_iff,reduceCtorEq,and_false,exists_false]at hc))
  all_goals simp_all
 all_goals (try unfold vH at hc)<;>(try unfold s6 at hc)<;>(repeat' (split at hc))<;>(simp only[Option.bind_eq_bind,Option.bind_eq_some_iff,Option.pure_def,Option.some.injEq,Option.map_eq_some_iff,reduceCtorEq,and_false,exists_false]at hc)
theorem Hb {n:Nat} {x y:O} (hc:rn P o.op=some (.store n x y)):∃t x' y',o.op=.store t x' y'/\ep P t=some n/\cO P x'=some x/\cO P y'=some y:=by
 unfold rn at hc
 split at hc
 case h_7=>
  rename_i t x' y' ho
  refine⟨t,x',y',ho,?_⟩
  simp only[Option.bind_eq_bind,Option.bind_eq_some_iff,Option.pure_def,Option.some.injEq]at hc
  obtain⟨n',h1,x2,h2,y2,h3,he⟩:=hc
  injection he with e1 e2 e3
  subst e1;subst e2;subst e3
  exact⟨h1,h2,h3⟩
 all_goals (try unfold vH at hc)<;>(try unfold s6 at hc)<;>(try unfold nK at hc)<;>(repeat' (split at hc))<;>(simp only[Option.bind_eq_bind,Option.bind_eq_some_iff,Option.pure_def,Option.some.injEq,Option.map_eq_some_iff,reduceCtorEq,and_false,exists_false]at hc)
theorem Eh {n:Nat} {x y:O} (hc:rn P o.op=some (.append n x y)):∃(t e:TypeId) (m:Nat) (z:List K) (i:TypeInfo) (x' y':Operand),n=m+1/\o.op=.call {callee:=.builtin .append,args:= #[x',y'],argTypes:= #[t,t]}/\
  P.underlying t=some (.slice e)/\ep P e=some (m+1)/\jL P e=some z/\P.info? e=some i/\i.bytes<=32768/\cO P x'=some x/\cO P y'=some y:=by
 unfold rn at hc
 split at hc
 case h_23=>
  rename_i c ho
  unfold nK at hc
  split at hc
  case h_2=>
   rename_i kH
   split at hc
   ·rename_i x' y' t u h1 h2
    split at hc
    ·rename_i e ht
     split at hc
     ·rename_i m z i e1 e2 e3
      split at hc
      ·rename_i hb
       simp only[Option.bind_eq_bind,Option.bind_eq_some_iff,Option.pure_def,Option.some.injEq]at hc
       obtain⟨x2,h3,y2,h4,he⟩:=hc
       injection he with k1 k2 k3
       subst k1;subst k2;subst k3
       obtain⟨H9,rfl⟩:=hb
       refine⟨t,e,m,z,i,x',y',rfl,?_,ht,e1,e2,e3,H9,h3,h4⟩
       rw[ho]
       obtain⟨ca,cb,cc⟩:=c
       simp only at h1 h2 kH
       subst kH
       congr
       ·exact Array.ext' h1
       ·exact Array.ext' h2
      ·simp at hc
     ·simp at hc
    ·simp at hc
   ·simp at hc
  all_goals (repeat' (split at hc))<;>(simp only[Option.bind_eq_bind,Option.bind_eq_some_iff,Option.pure_def,Option.some.injEq,Option.map_eq_some_iff,reduceCtorEq,and_false,exists_false]at hc)
 all_goals (try unfold vH at hc)<;>(try unfold s6 at hc)<;>(repeat' (split at hc))<;>(simp only[Option.bind_eq_bind,Option.bind_eq_some_iff,Option.pure_def,Option.some.injEq,Option.map_eq_some_iff,reduceCtorEq,and_false,exists_false]at hc)
theorem JJ {n:Nat} {x y:O} (hc:rn P o.op=some (.copy n x y)):∃(t t2 e:TypeId) (m:Nat) (x' y':Operand),n=m+1/\o.op=.call {callee:=.builtin .copy,args:= #[x',y'],argTypes:= #[t,t2]}/\
  P.underlying t=some (.slice e)/\ep P e=some (m+1)/\cO P x'=some x/\cO P y'=some y:=by
 unfold rn at hc
 split at hc
 case h_23=>
  rename_i c ho
  unfold nK at hc
  split at hc
  case h_7=>
   rename_i kH
   split at hc
   ·rename_i x' y' t t2 h1 h2
    split at hc
    ·rename_i e ht
     split at hc
     ·rename_i m e1
      simp only[Option.bind_eq_bind,Option.bind_eq_some_iff,Option.pure_def,Option.some.injEq,gz.copy.injEq]at hc
      obtain⟨x2,h3,y2,h4,k0,k1,k2⟩:=hc
      subst k1;subst k2
      refine⟨t,t2,e,m,x',y',k0.symm,?_,ht,e1,h3,h4⟩
      rw[ho]
      obtain⟨ca,cb,cc⟩:=c
      simp only at h1 h2 kH
      subst kH
      congr
      ·exact Array.ext' h1
      ·exact Array.ext' h2
     ·simp at hc
    ·simp at hc
   ·simp at hc
  all_goals (repeat' (split at hc))<;>(simp only[Option.bind_eq_bind,Option.bind_eq_some_iff,Option.pure_def,Option.some.injEq,Option.map_eq_some_iff,reduceCtorEq,and_false,exists_false]at hc)
 all_goals (try unfold vH at hc)<;>(try unfold s6 at hc)<;>(repeat' (split at hc))<;>(simp only[Option.bind_eq_bind,Option.bind_eq_some_iff,Option.pure_def,Option.some.injEq,Option.map_eq_some_iff,reduceCtorEq,and_false,exists_false]at hc)
theorem Ha {z:List K} {x:O} (hc:rn P o.op=some (.clear z x)):∃(t e:TypeId) (m:Nat) (x':Operand),o.op=.call {callee:=.builtin .clear,args:= #[x'],argTypes:= #[t]}/\
  P.underlying t=some (.slice e)/\ep P e=some (m+1)/\jL P e=some z/\cO P x'=some x:=by
 unfold rn at hc
 split at hc
 case h_23=>
  rename_i c ho
  unfold nK at hc
  split at hc
  case h_3=>
   rename_i kH
   split at hc
   ·rename_i x' t h1 h2
    split at hc
    ·rename_i e ht
     split at hc
     ·rename_i m z' e1 e2
      simp only[Option.map_eq_some_iff]at hc
      obtain⟨x2,h3,he⟩:=hc
      injection he with k1 k2
      subst k1;subst k2
      refine⟨t,e,m,x',?_,ht,e1,e2,h3⟩
      rw[ho]
      obtain⟨ca,cb,cc⟩:=c
      simp only at h1 h2 kH
      subst kH
      congr
      ·exact Array.ext' h1
      ·exact Array.ext' h2
     ·simp at hc
    ·simp at hc
   ·simp at hc
  all_goals (repeat' (split at hc))<;>(simp only[Option.bind_eq_bind,Option.bind_eq_some_iff,Option.pure_def,Option.some.injEq,Option.map_eq_some_iff,reduceCtorEq,and_false,exists_false]at hc)
 all_goals (try unfold vH at hc)<;>(try unfold s6 at hc)<;>(repeat' (split at hc))<;>(simp only[Option.bind_eq_bind,Option.bind_eq_some_iff,Option.pure_def,Option.some.injEq,Option.map_eq_some_iff,reduceCtorEq,and_false,exists_false]at hc)
theorem Pv {q:MW} {xs:List O} (hc:rn P o.op=some (.mw q xs)):
  (∃t x k y m z x' k' y',(o.op=.mapUpdate t x k y∨o.op=.insert t x k y)/\s7 P t=some (m,z)/\cO P x=some x'/\cO P k=some k'/\cO P y=some y'/\q=.set m/\xs=[x',k',y'])∨
  (∃t t' x k m z x' k',o.op=.call {callee:=.builtin .delete,args:= #[x,k],argTypes:= #[t,t']}/\s7 P t=some (m,z)/\cO P x=some x'/\cO P k=some k'/\q=.del m/\xs=[x',k']):=by
 unfold rn at hc
 split at hc
 case h_23=>
  rename_i c ho
  right
  unfold nK at hc
  split at hc
  case h_6=>
   rename_i kH
   split at hc
   ·rename_i x k t t' h1 h2
    split at hc
    ·rename_i m z x' k' e1 e2 e3
     injection hc with hc
     injection hc with q1 q2
     refine⟨t,t',x,k,m,z,x',k',?_,e1,e2,e3,q1.symm,q2.symm⟩
     rw[ho]
     obtain⟨ca,cb,cc⟩:=c
     simp only at h1 h2 kH
     subst kH
     congr
     ·exact Array.ext' h1
     ·exact Array.ext' h2
    ·cases hc
   ·cases hc
  all_goals (repeat' (split at hc))<;>(simp only[Option.bind_eq_bind,Option.bind_eq_some_iff,Option.pure_def,Option.some.injEq,Option.map_eq_some_iff,reduceCtorEq,and_false,exists_false]at hc)
 case h_29=>
  rename_i t x k y ho
  left
  split at hc
  ·rename_i m z x' k' y' e1 e2 e3 e4
   injection hc with hc
   injection hc with q1 q2
   exact⟨t,x,k,y,m,z,x',k',y',.inl ho,e1,e2,e3,e4,q1.symm,q2.symm⟩
  ·cases hc
 case h_30=>
  rename_i t x k y ho
  left
  split at hc
  ·rename_i m z x' k' y' e1 e2 e3 e4
   injection hc with hc
   injection hc with q1 q2
   exact⟨t,x,k,y,m,z,x',k',y',.inr ho,e1,e2,e3,e4,q1.symm,q2.symm⟩
  ·cases hc
 all_goals (try unfold vH at hc)<;>(try unfold s6 at hc)<;>(repeat' (split at hc))<;>(simp only[Option.bind_eq_bind,Option.bind_eq_some_iff,Option.pure_def,Option.some.injEq,Option.map_eq_some_iff,reduceCtorEq,and_false,exists_false]at hc)
def jk (g:Rows) (id:Id):Option Row->Rows
 |some r=>bR g id r
 |none=>g
def vJ (X:fK) (hid:List Nat) (site n:Nat) (f:Nat) (args:List AV) (g:Rows) (v:AV) (g':Rows):Prop:=
 (gq X f args ⟨fY hid n g,n+1⟩ (fun r=>r=v)/\g'=g)∨
 (hid.contains site=true/\∃sz rows,CM X f args ⟨fY hid n g,n+1⟩ sz rows/\v=.own ⟨site,n⟩ 0 rows.length/\g'=bR g ⟨site,n⟩ ⟨true,sz,rows⟩)
def VS (X:fK) (n:Nat) (vo:bt) (env:Env) (g:Rows) (v:AV) (g':Rows):Prop:=
 match vo.op with
 | .call f args=>vJ X vo.hid vo.site n f (args.map (dc env)) g v g'
 | .tN x args=>∃f l,vI (dc env x) (args.map (dc env))=some (f,l)/\vJ X vo.hid vo.site n f l g v g'
 | .store .. | .append .. | .copy .. | .clear .. | .mw .. =>fZ vo.op (dc env) g ⟨vo.site,n⟩=some (v,g')
 |_=>∃mr,eP vo.op (dc env) (fY vo.hid n g) ⟨vo.site,n⟩=some (v,mr)/\g'=jk g ⟨vo.site,n⟩ mr
def Nj (P:Program) (hs:Nat) (D:Nat->Prop) (ι:Names) (w:World) (U:Nat->Prop) (site n:Nat) (a:Act) (dst:Option Tmp) (v:AV) (g':Rows) (a':Act) (w':World):Prop:=
 ∃u D' ι',a'=a.put dst u/\Step hs D ι w D' ι' w'/\gy P hs D' ι' g' w'/\dh P w' D' ι' v u/\Used ι' n (fun s=>U s∨s=site)
theorem fresh {n:Nat} {U:Nat->Prop} {s:Nat} (h:Used ι n U) (hU:¬U s):ι ⟨s,n⟩=none:=by
 cases hq:ι ⟨s,n⟩with
 |none=>rfl
 |some B=>
  rcases h ⟨s,n⟩ (by rw[hq];simp)with h|⟨_,h⟩
  ·exact absurd h (Nat.lt_irrefl _)
  ·exact absurd h hU
theorem Used.more {n:Nat} {U U':Nat->Prop} (h:Used ι n U) (hU:∀s,U s->U' s):Used ι n U':=fun id hid=>by
 rcases h id hid with h|⟨h1,h2⟩
 ·exact .inl h
 ·exact .inr ⟨h1,hU _ h2⟩
theorem Used.next {n:Nat} {U:Nat->Prop} (h:Used ι n U):Used ι (n+1) (fun _=>False):=fun id hid=>by
 rcases h id hid with h|⟨h1,_⟩
 ·exact .inl (Nat.lt_succ_of_lt h)
 ·exact .inl (by omega)
theorem Used.upd {n:Nat} {U:Nat->Prop} {s:Nat} {B:sU} (h:Used ι n U):Used (kC ι ⟨s,n⟩ B) n (fun x=>U x∨x=s):=fun id hid=>by
 by_cases he:id=⟨s,n⟩
 ·subst he;exact .inr ⟨rfl,.inr rfl⟩
 ·rw[gp he]at hid
  exact(h.more (U':=fun x=>U x∨x=s) fun _ h=>Or.inl h) id hid
theorem oK {xs:Array Operand} {ys:List O} (E:cC P w D ι env a) (h:xs.toList.mapM (cO P)=some ys):fo P w D ι (ys.map (dc env)) (xs.map a.eval):=by
 obtain⟨h1,h2⟩:=EF E h
 refine⟨by simpa using h1,fun j b hj=>?_⟩
 simp only[List.getElem?_map,Option.map_eq_some_iff]at hj
 obtain⟨y,hy,rfl⟩:=hj
 have dV:j<xs.size:=by have:=(List.getElem?_eq_some_iff.1 hy).1;simp at h1;omega
 refine⟨a.eval xs[j],by simp[dV],?_⟩
 have:=h2 j y hy
 simpa[List.getD_eq_getElem?_getD,dV]using this
theorem pf {xs ys:List AV} {vs us:Array Value} (h:fo P w D ι xs vs) (k:fo P w D ι ys us):fo P w D ι (xs++ys) (vs++us):=
 ⟨by simp[h.1,k.1],fun j b hj=>by
  by_cases dV:j<xs.length
  ·rw[List.getElem?_append_left dV]at hj
   obtain⟨u,hu,xO⟩:=h.2 j b hj
   exact⟨u,by rw[Array.getElem?_append_left (by rw[h.1];exact dV)];exact hu,xO⟩
  ·rw[List.getElem?_append_right (by omega)]at hj
   obtain⟨u,hu,xO⟩:=k.2 _ b hj
   exact⟨u,by rw[Array.getElem?_append_right (by rw[h.1];omega),h.1];exact hu,xO⟩⟩
theorem wV:fo P w D ι [] #[]:=⟨rfl,fun j b hj=>by simp at hj⟩
theorem vK {x:AV} {l l':List AV} {f:Nat} {vs:Array Value} {v:Value} (h:vI x l=some (f,l')) (hr:dh P w D ι x v) (hA:fo P w D ι l vs):
  ∃first db,v=.func (.func f) first db/\fQ P f=true/\fo P w D ι l' (first++vs++db):=by
 unfold vI at h
 split at h
 ·simp only[Option.some.injEq,Prod.mk.injEq]at h
  obtain⟨rfl,rfl⟩:=h
  obtain⟨us,q,he,FI,n1,q1,q2⟩:=wY hr
  refine⟨#[],us,he,FI,?_⟩
  rw[Array.empty_append]
  exact pf hA ⟨n1,fun j b hj=>⟨q j,q1 j (List.getElem?_eq_some_iff.1 hj).1,q2 j b hj⟩⟩
 ·simp only[Option.some.injEq,Prod.mk.injEq]at h
  obtain⟨rfl,rfl⟩:=h
  obtain⟨us,q,he,FI,n1,q1,q2⟩:=MT hr
  refine⟨us, #[],he,FI,?_⟩
  rw[Array.append_empty]
  exact pf ⟨n1,fun j b hj=>⟨q j,q1 j (List.getElem?_eq_some_iff.1 hj).1,q2 j b hj⟩⟩ hA
 ·cases h
theorem Be {n:Nat} {vo:bt} {g':Rows} {U:Nat->Prop} {Q:Exit->Act->World->Prop} {K:Act->World->Prop} (hc:rn P o.op=some vo.op) (hv:VS (Sound P) n vo env g v g') (S:gy P hs D ι g w) (Us:Used ι n U) (hU:¬U vo.site) (E:cC P w D ι env a)
  (hK:∀a' w',Nj P hs D ι w U vo.site n a o.dst v g' a' w'->K a' w'):o.wp P a w K Q:=by
 have hf:=fresh Us hU
 have Bo:∀(f:Nat) (args:List AV) (vs:Array Value),vJ (Sound P) vo.hid vo.site n f args g v g'->fo P w D ι args vs->(execOp a.eval o).run P w=.ok (.enter f vs) w->o.wp P a w K Q:=by
  intro f args vs hP hA gD
  unfold Oper.wp
  rw[gD]
  rcases hP with⟨hP,rfl⟩|⟨_,sz,rows,hM,rfl,rfl⟩
  ·refine(Gl hP AI S Us.next hA).mono ?_
   rintro e w' ⟨r,D',u,rfl,rfl,T,S',hR⟩
   exact hK _ _ ⟨u,D',ι,rfl,T,S',hR,Us.more fun _ h=>.inl h⟩
  ·refine(Il hM AI S Us.next hA hf).mono ?_
   rintro e w' ⟨u,B,rfl,T,S',hR⟩
   exact hK _ _ ⟨u,D,_,rfl,T,S',hR,Us.upd⟩
 have quiet:∀(mr:Option Row),eP vo.op (dc env) (fY vo.hid n g) ⟨vo.site,n⟩=some (v,mr)->g'=jk g ⟨vo.site,n⟩ mr->o.wp P a w K Q:=by
  intro mr hq hg
  have TC:=y6 hc hq (S.sub AI) E
  unfold Oper.wp
  cases mr with
  |none=>
   obtain⟨u,gD,hR⟩:=TC
   rw[gD]
   subst hg
   exact hK _ _ ⟨u,D,ι,rfl,Step.refl _ _ _ _,S,hR,Us.more fun _ h=>.inl h⟩
  |some r=>
   rcases TC with⟨u,cells,T,gD,h1,h2,h3,h4,h5,h6⟩|⟨m,gD,L9,AW⟩|⟨c,gD,L9,AW⟩
   case inr.inr=>
    rw[gD]
    subst hg L9 AW
    have fh:w.heap.size<(w.alloc (.chan c #[] false 0 0 false)).heap.size:=by simp
    have S':=S.stay (w':=w.alloc (.chan c #[] false 0 0 false)) (D':=D) (ι':=ι) (fun k hk=>Below.heap_alloc _ _ _ hk) (by simp) (fun _ h=>h) (fun b hd=>Nat.lt_trans (S.dead b hd) fh) (fun _ h=>.inl h) (fun _ _ h=>h)
    have S1:=S.add S' (id:=⟨vo.site,n⟩) (B:=⟨w.heap.size,qH+c,0,some (.chan c)⟩) (r:=⟨true,qH+c,[]⟩) hf (Nat.le_refl _) ⟨rfl,fun cs h=>by simp at h,fun h=>by simp at h,fun m' h=>(by simp at h),fun c' h=>by
     simp only[Option.some.injEq,BK.chan.injEq]at h;subst h
     exact⟨rfl, #[],0,0,(show(w.heap.push (Obj.chan c #[] false 0 0 false))[w.heap.size]? =some (Obj.chan c #[] false 0 0 false) by simp),rfl,fun i cs h=>by simp at h⟩⟩
    exact hK _ _ ⟨_,D,_,rfl,Step.stay S (fun k hk=>Below.heap_alloc _ _ _ hk) (by simp) rfl rfl rfl (fun _ h=>h) (fun _ h=>.inl h) (fU hf),S1,.rO _ _ _ (eA _ _ _) rfl,Us.upd⟩
   case inr.inl=>
    rw[gD]
    subst hg L9 AW
    have fh:w.heap.size<(w.alloc (.map #[] 0)).heap.size:=by simp
    have S':=S.stay (w':=w.alloc (.map #[] 0)) (D':=D) (ι':=ι) (fun k hk=>Below.heap_alloc _ _ _ hk) (by simp) (fun _ h=>h) (fun b hd=>Nat.lt_trans (S.dead b hd) fh) (fun _ h=>.inl h) (fun _ _ h=>h)
    have S1:=S.add S' (id:=⟨vo.site,n⟩) (B:=⟨w.heap.size,m.ma,0,some (.map m)⟩) (r:=⟨true,m.ma,[]⟩) hf (Nat.le_refl _) ⟨rfl,fun cs h=>by simp at h,fun h=>by simp at h,fun m' h=>by
     simp only[Option.some.injEq,BK.map.injEq]at h;subst h
     exact⟨rfl, #[],0,(show(w.heap.push (Obj.map #[] 0))[w.heap.size]? =some (Obj.map #[] 0) by simp),rfl,⟨fun cs h=>by simp at h,fun x h=>by simp at h,by simp⟩,fun i cs h=>by simp at h⟩,fun c h=>by simp at h⟩
    exact hK _ _ ⟨_,D,_,rfl,Step.stay S (fun k hk=>Below.heap_alloc _ _ _ hk) (by simp) rfl rfl rfl (fun _ h=>h) (fun _ h=>.inl h) (fU hf),S1,.map _ _ _ (eA _ _ _) rfl,Us.upd⟩
   rw[gD]
   subst hg
   have S1:=S.alloc (id:=⟨vo.site,n⟩) (w':=w.alloc (.cells cells T)) rfl hf h1 h2 h3 h4 h5
   refine hK _ _ ⟨u,D,_,rfl,Step.stay S (fun k hk=>Below.heap_alloc _ _ _ hk) (by simp) rfl rfl rfl (fun _ h=>h) (fun _ h=>.inl h) (fU hf),S1,(h6 (kC ι _ _) (eA _ _ _)).frame (fun b hd=>Below.heap_alloc _ _ _ (S.dead b hd)) (fun _ h=>h) (fun _ _ h=>h),Us.upd⟩
 have Qr:fZ vo.op (dc env) g ⟨vo.site,n⟩=some (v,g')->(∀Li,De P hs a o Li D ι ⟨vo.site,n⟩ v g'->Li=w->o.wp P a w K Q):=by
  intro _ Li hE he
  subst he
  obtain⟨u,w',ι',gD,T,S',hR,hι⟩:=hE
  have Ji:Nj P hs D ι Li U vo.site n a o.dst v g' (a.put o.dst u) w':=⟨u,D,ι',rfl,T,S',hR,fun id hid=>by
   by_cases he:id=⟨vo.site,n⟩
   ·subst he;exact .inr ⟨rfl,.inr rfl⟩
   ·rw[hι id he]at hid
    exact(Us.more (U':=fun x=>U x∨x=vo.site) fun _ h=>Or.inl h) id hid⟩
  unfold Oper.wp
  rcases gD with gD|⟨gD,rfl⟩
  ·rw[gD];exact hK _ _ Ji
  ·rw[gD];exact hK _ _ Ji
 unfold VS at hv
 split at hv
 ·rename_i f args dK
  rw[dK]at hc
  obtain⟨c,ho,kH,FI,nQ⟩:=Ce hc
  refine Bo f _ (c.args.map a.eval) hv (oK E nQ) ?_
  simp only[execOp,ho,resolve,kH,Deferred.ofValue,Act.eval,Sem.run_bind,Sem.run_pure,Result.andThen_ok,invoke,Array.empty_append,Array.append_empty]
  exact jz FI
 ·rename_i x args dK
  obtain⟨f,l,hx,hP⟩:=hv
  rw[dK]at hc
  obtain⟨c,t,ho,kH,rfl,nQ⟩:=tn hc
  obtain⟨first,db,he,FI,hL⟩:=vK (v:=a.eval (.tmp t)) hx (E t) (oK E nQ)
  refine Bo f _ (first++c.args.map a.eval++db) hP hL ?_
  simp only[execOp,ho,resolve,kH,he,Deferred.ofValue,Sem.run_bind,Sem.run_pure,Result.andThen_ok,invoke]
  exact jz FI
 ·rename_i m x y dK
  have kz:=hc
  rw[dK]at kz
  obtain⟨t,x',y',ho,h1,h2,h3⟩:=Hb kz
  have oi:=hv
  rw[dK]at oi
  simp only[fZ,Option.map_eq_some_iff,Prod.mk.injEq]at oi
  obtain⟨g1,AU,rfl,rfl⟩:=oi
  exact Qr hv w (LC S E ho h1 h2 h3 AU) rfl
 ·rename_i m x y dK
  have kz:=hc
  rw[dK]at kz
  obtain⟨t,e,m',z,i,x',y',rfl,ho,h1,h2,h3,h4,h5,h6,h7⟩:=Eh kz
  have oi:=hv
  rw[dK]at oi
  simp only[fZ,Option.bind_eq_some_iff]at oi
  obtain⟨ys,Dc,oi⟩:=oi
  exact Qr hv w (I0 S E hf ho h1 h2 h3 h4 h5 h6 h7 Dc oi) rfl
 ·rename_i m x y dK
  have kz:=hc
  rw[dK]at kz
  obtain⟨t,t2,e,m',x',y',rfl,ho,h1,h2,h3,h4⟩:=JJ kz
  have oi:=hv
  rw[dK]at oi
  simp only[fZ,Option.bind_eq_some_iff]at oi
  obtain⟨ys,Dc,oi⟩:=oi
  exact Qr hv w (On S E ho h1 h2 h3 h4 Dc oi) rfl
 ·rename_i z x dK
  have kz:=hc
  rw[dK]at kz
  obtain⟨t,e,m',x',ho,h1,h2,h3,h4⟩:=Ha kz
  have oi:=hv
  rw[dK]at oi
  simp only[fZ,Option.map_eq_some_iff,Prod.mk.injEq]at oi
  obtain⟨g1,AU,rfl,rfl⟩:=oi
  exact Qr hv w (LB S E ho h1 h2 h3 h4 AU) rfl
 ·rename_i q xs dK
  have kz:=hc
  rw[dK]at kz
  have oi:=hv
  rw[dK]at oi
  simp only[fZ,Option.map_eq_some_iff,Prod.mk.injEq]at oi
  obtain⟨g1,AU,rfl,rfl⟩:=oi
  rcases Pv kz with⟨t,x,k,y,m,z,x',k',y',ho,h1,h2,h3,h4,rfl,rfl⟩|⟨t,t',x,k,m,z,x',k',ho,h1,h2,h3,rfl,rfl⟩
  ·exact Qr hv w (Oq S E ho h1 h2 h3 h4 AU) rfl
  ·exact Qr hv w (Oo S E ho h1 h2 h3 AU) rfl
 ·obtain⟨mr,hq,hg⟩:=hv
  exact quiet mr hq hg
end
end Go.Proofs.YtgoljkjaameagaaGreat.V

namespace Go.Proofs.YtgoljkjaameagaaGreat.V
open Go.RowKit
variable {P:Program} {w w':World} {D D' D2:Nat->Prop} {ι ι' ι2:Names}
section
variable {g:Rows} {hs:Nat} {env:Env} {a:Act} {o:Oper} {id:Id} {v:AV}
theorem pz {ops:Array Oper} {nt site0 j:Nat} {draw mk:Bool} {bs:Array Nat} {hidden:List (Nat×Bool)} {vo:bt} (h:mu P ops nt site0 draw mk bs hidden j o=some vo):
  rn P o.op=some vo.op/\vo.dst=o.dst/\vo.site=site0+j/\(∀d,o.dst=some d->d<nt)/\(match o.guard with
   |none=>vo.guard=none
   |some (i,b)=>∃t,(ops[i]?).bind (·.dst)=some t/\vo.guard=some (t,b)):=by
 unfold mu at h
 simp only[Option.bind_eq_bind,Option.bind_eq_some_iff]at h
 obtain⟨v,hv,gd,hg,h⟩:=h
 split at h
 ·rename_i hd
  simp only[Option.pure_def,Option.some.injEq]at h
  subst h
  refine⟨hv,rfl,rfl,fun d Tn=>?_,?_⟩
  ·rw[Tn]at hd;simpa using hd
  ·unfold Ds at hg
   cases uA:o.guard with
   |none=>rw[uA]at hg;simp at hg;exact hg.symm
   |some p=>
    obtain⟨i,b⟩:=p
    rw[uA]at hg
    dsimp only at hg ⊢
    split at hg
    ·rename_i t ht
     simp at hg;exact⟨t,ht,hg.symm⟩
    ·simp at hg
 ·simp at h
theorem tH {ops:Array Oper} {vo:bt} (E:cC P w D ι env a) (hg:match o.guard with
   |none=>vo.guard=none
   |some (i,b)=>∃t,(ops[i]?).bind (·.dst)=some t/\vo.guard=some (t,b)):aI vo.guard env=Region.wanted o (yielded ops a.tmps):=by
 unfold Region.wanted
 cases uA:o.guard with
 |none=>rw[uA]at hg;simp only at hg;rw[hg];rfl
 |some p=>
  obtain⟨i,b⟩:=p
  rw[uA]at hg
  obtain⟨t,ht,hv⟩:=hg
  rw[hv]
  simp only[aI,yielded,ht,Option.bind_some]
  have hr:=E t
  by_cases dV:t<a.tmps.size
  ·have fa:a.tmps[t]? =some a.tmps[t]:=Array.getElem?_eq_getElem dV
   have hd:a.tmps.getD t undef=a.tmps[t]:=by simp[dV]
   rw[hd]at hr
   rw[fa]
   generalize a.tmps[t]=u at hr
   cases he:env t with
   |bool c=>rw[he]at hr;rw[fb hr];simp
   |_=>
    rw[he]at hr
    have:∀c,u≠.bool c:=by
     intro c hu
     subst hu
     cases hr with
     |eS _ _ h=>cases h
    cases u<;>simp_all
  ·have fa:a.tmps[t]? =none:=Array.getElem?_eq_none (Nat.le_of_not_lt dV)
   have hd:a.tmps.getD t undef=undef:=by simp[fa]
   rw[hd]at hr
   rw[fa]
   cases he:env t with
   |bool c=>rw[he]at hr;have:=fb hr;simp[undef]at this
   |_=>simp
theorem nj {dst:Option Nat} {nt:Nat} {u:Value} (E:cC P w D ι env a) (hr:dh P w D ι v u) (hd:∀d,dst=some d->d<nt) (hs:a.tmps.size=nt):cC P w D ι (upd env dst v) (a.put dst u):=by
 intro t
 cases dst with
 |none=>exact E t
 |some d=>
  have dV:d<a.tmps.size:=by rw[hs];exact hd d rfl
  simp only[upd,Act.put]
  by_cases ht:t=d
  ·subst ht
   simp[dV];exact hr
  ·rw[if_neg ht]
   have:(a.tmps.setIfInBounds d u).getD t undef=a.tmps.getD t undef:=by
    simp only[Array.getD_eq_getD_getElem?]
    rw[Array.getElem?_setIfInBounds_ne (fun e=>ht e.symm)]
   rw[this];exact E t
theorem oQ {hs:Nat} (E:cC P w D ι env a) (T:Step hs D ι w D' ι' w'):cC P w' D' ι' env a:=fun t=>T.rep (E t)
theorem lg (a:Act) (dst:Option Tmp) (u:Value):(a.put dst u).tmps.size=a.tmps.size:=by cases dst<;>simp[Act.put]
theorem put_defers (a:Act) (dst:Option Tmp) (u:Value):(a.put dst u).defers=a.defers:=by cases dst<;>rfl
theorem zg {draw:Bool} {vo:bt} {σ:ax} {next:AV->ax->Prop} {U:Nat->Prop} {Q:Exit->Act->World->Prop} {K:Act->World->Prop} (hc:rn P o.op=some vo.op) (hv:fJ (Sound P) draw vo env σ next) (S:gy P hs D ι σ.get w) (Us:Used ι σ.next U) (hU:¬U vo.site) (E:cC P w D ι env a)
  (hK:∀v σ' u D' ι' w',next v σ'->Step hs D ι w D' ι' w'->gy P hs D' ι' σ'.get w'->dh P w' D' ι' v u->Used ι' σ'.next (fun s=>U s∨s=vo.site)->σ.next<=σ'.next->K (a.put o.dst u) w'):o.wp P a w K Q:=by
 have close:∀v g',VS (Sound P) σ.next vo env σ.get v g'->next v ⟨g',σ.next⟩->o.wp P a w K Q:=fun v g' h1 h2=>
  Be hc h1 S Us hU E fun a' w' ⟨u,D',ι',ha,T,S',hR,U'⟩=>by subst ha;exact hK v ⟨g',σ.next⟩ u D' ι' w' h2 T S' hR U' (Nat.le_refl _)
 have Kb:∀(f:Nat) (args:List AV) (vs:Array Value),Sound P f args ⟨σ.get,σ.next+1⟩ next->fo P w D ι args vs->(execOp a.eval o).run P w=.ok (.enter f vs) w->o.wp P a w K Q:=by
  intro f args vs h hA gD
  unfold Oper.wp
  rw[gD]
  refine(h hs D ι w vs S Us.next hA).mono ?_
  rintro e w' ⟨r,g',n',D',ι',u,rfl,hn,T,S',U',hle,hR⟩
  exact hK r ⟨g',n'⟩ u D' ι' w' hn T S' hR (U'.more fun _ h=>h.elim) (Nat.le_trans (Nat.le_succ _) hle)
 unfold fJ at hv
 split at hv
 ·rename_i f args dK
  rcases hv with⟨r,hP,hn⟩|⟨_,hX⟩|⟨Lc,sz,rows,hM,hn⟩
  ·exact close r σ.get (by unfold VS;rw[dK];exact .inl ⟨hP,rfl⟩) hn
  rotate_left
  ·exact close _ _ (by unfold VS;rw[dK];exact .inr ⟨Lc,sz,rows,hM,rfl,rfl⟩) hn
  ·have kz:=hc
   rw[dK]at kz
   obtain⟨c,ho,kH,FI,nQ⟩:=Ce kz
   refine Kb f _ (c.args.map a.eval) hX (oK E nQ) ?_
   simp only[execOp,ho,resolve,kH,Deferred.ofValue,Act.eval,Sem.run_bind,Sem.run_pure,Result.andThen_ok,invoke,Array.empty_append,Array.append_empty]
   exact jz FI
 ·rename_i x args dK
  split at hv
  ·rename_i f db hx
   have tY:vI (dc env x) (args.map (dc env))=some (f,args.map (dc env)++db):=by rw[hx];rfl
   rcases hv with⟨r,hP,hn⟩|⟨_,hX⟩|⟨Lc,sz,rows,hM,hn⟩
   ·exact close r σ.get (by unfold VS;rw[dK];exact⟨f,_,tY,.inl ⟨hP,rfl⟩⟩) hn
   rotate_left
   ·exact close _ _ (by unfold VS;rw[dK];exact⟨f,_,tY,.inr ⟨Lc,sz,rows,hM,rfl,rfl⟩⟩) hn
   ·have kz:=hc
    rw[dK]at kz
    obtain⟨c,t,ho,kH,rfl,nQ⟩:=tn kz
    obtain⟨first,us,he,FI,hL⟩:=vK (v:=a.eval (.tmp t)) tY (E t) (oK E nQ)
    refine Kb f _ (first++c.args.map a.eval++us) hX hL ?_
    simp only[execOp,ho,resolve,kH,he,Deferred.ofValue,Sem.run_bind,Sem.run_pure,Result.andThen_ok,invoke]
    exact jz FI
  ·rename_i f db hx
   have tY:vI (dc env x) (args.map (dc env))=some (f,db++args.map (dc env)):=by rw[hx];rfl
   rcases hv with⟨r,hP,hn⟩|⟨_,hX⟩|⟨Lc,sz,rows,hM,hn⟩
   ·exact close r σ.get (by unfold VS;rw[dK];exact⟨f,_,tY,.inl ⟨hP,rfl⟩⟩) hn
   rotate_left
   ·exact close _ _ (by unfold VS;rw[dK];exact⟨f,_,tY,.inr ⟨Lc,sz,rows,hM,rfl,rfl⟩⟩) hn
   ·have kz:=hc
    rw[dK]at kz
    obtain⟨c,t,ho,kH,rfl,nQ⟩:=tn kz
    obtain⟨first,us,he,FI,hL⟩:=vK (v:=a.eval (.tmp t)) tY (E t) (oK E nQ)
    refine Kb f _ (first++c.args.map a.eval++us) hX hL ?_
    simp only[execOp,ho,resolve,kH,he,Deferred.ofValue,Sem.run_bind,Sem.run_pure,Result.andThen_ok,invoke]
    exact jz FI
  ·exact hv.elim
 ·rename_i m x y dK
  split at hv
  ·rename_i v' g' he
   exact close v' g' (by unfold VS;rw[dK];rw[dK]at he;exact he) hv
  ·exact hv.elim
 ·rename_i m x y dK
  split at hv
  ·rename_i v' g' he
   exact close v' g' (by unfold VS;rw[dK];rw[dK]at he;exact he) hv
  ·exact hv.elim
 ·rename_i m x y dK
  split at hv
  ·rename_i v' g' he
   exact close v' g' (by unfold VS;rw[dK];rw[dK]at he;exact he) hv
  ·exact hv.elim
 ·rename_i m x dK
  split at hv
  ·rename_i v' g' he
   exact close v' g' (by unfold VS;rw[dK];rw[dK]at he;exact he) hv
  ·exact hv.elim
 ·rename_i m x dK
  split at hv
  ·rename_i v' g' he
   exact close v' g' (by unfold VS;rw[dK];rw[dK]at he;exact he) hv
  ·exact hv.elim
 ·rename_i n1 n2 n3 n4 n5 n6 n7
  split at hv
  ·rename_i v' r hq
   refine close v' (bR σ.get ⟨vo.site,σ.next⟩ r) ?_ hv
   unfold VS
   split
   ·rename_i h;exact(n1 _ _ h).elim
   ·rename_i h;exact(n2 _ _ h).elim
   ·rename_i h;exact(n3 _ _ _ h).elim
   ·rename_i h;exact(n4 _ _ _ h).elim
   ·rename_i h;exact(n5 _ _ _ h).elim
   ·rename_i h;exact(n6 _ _ h).elim
   ·rename_i h;exact(n7 _ _ h).elim
   ·exact⟨some r,hq,rfl⟩
  ·rename_i v' hq
   refine close v' σ.get ?_ hv
   unfold VS
   split
   ·rename_i h;exact(n1 _ _ h).elim
   ·rename_i h;exact(n2 _ _ h).elim
   ·rename_i h;exact(n3 _ _ _ h).elim
   ·rename_i h;exact(n4 _ _ _ h).elim
   ·rename_i h;exact(n5 _ _ _ h).elim
   ·rename_i h;exact(n6 _ _ h).elim
   ·rename_i h;exact(n7 _ _ h).elim
   ·exact⟨none,hq,rfl⟩
  ·exact hv.elim
structure St (P:Program) (hs nt:Nat) (D:Nat->Prop) (ι:Names) (env:Env) (σ:ax) (a:Act) (w:World):Prop where
 Lg:gy P hs D ι σ.get w
 used:Used ι σ.next (fun _=>False)
 env:cC P w D ι env a
 size:a.tmps.size=nt
theorem EC (rest:List Oper) {ops:Array Oper} {nt site0:Nat} {draw mk:Bool} {bs:Array Nat} {hidden:List (Nat×Bool)} {K:Env->ax->Prop} {Q:Exit->Act->World->Prop}:∀(l:List Oper) (vl:List bt) (j:Nat) (env:Env) (σ:ax) (a:Act) (w:World) (D:Nat->Prop) (ι:Names) (U:Nat->Prop),
  allM (mu P ops nt site0 draw mk bs hidden) l j=some vl->wpOps (Sound P) draw vl K env σ->gy P hs D ι σ.get w->Used ι σ.next U->(∀s,U s->s<site0+j)->cC P w D ι env a->a.tmps.size=nt->
  (∀iJ σ' a' w' D' ι',K iJ σ'->Step hs D ι w D' ι' w'->St P hs nt D' ι' iJ σ' a' w'->a'.defers=a.defers->σ.next<=σ'.next->wpList P ops Q rest a' w')->wpList P ops Q (l++rest) a w:=by
 intro l
 induction l with
 |nil=>
  intro vl j env σ a w D ι U h hv S Us _ E fh hQ
  simp[allM]at h;subst h
  exact hQ env ⟨σ.get,σ.next+1⟩ a w D ι hv (Step.refl _ _ _ _) ⟨S,Us.next,E,fh⟩ rfl (Nat.le_succ _)
 |cons o l ih=>
  intro vl j env σ a w D ι U h hv S Us hU E fh hQ
  simp only[allM,Option.bind_eq_bind,Option.bind_eq_some_iff,Option.pure_def,Option.some.injEq]at h
  obtain⟨vo,kS,tG,sS,rfl⟩:=h
  obtain⟨hc,hd,B7,xK,hg⟩:=pz kS
  have hw:=tH (ops:=ops) (vo:=vo) E hg
  unfold wpOps at hv
  show wpList P ops Q (o::(l++rest)) a w
  unfold wpList
  rw[<-hw]
  split at hv
  ·rename_i G6
   rw[if_pos G6]
   refine .inl (zg hc hv S Us (fun h=>by have:=hU _ h;omega) E fun v σ' u D' ι' w' hn T S' hR U' hle=>?_)
   refine ih tG (j+1) (upd env vo.dst v) σ' (a.put o.dst u) w' D' ι' _ sS hn S' U' (fun s B4=>by
    rcases B4 with h|h
    ·have:=hU _ h;omega
    ·omega) (by rw[hd];exact nj (oQ E T) hR xK fh) (by rw[lg];exact fh) fun iJ σ2 a' w2 D2 ι2 hk T2 N3 DV np=>hQ iJ σ2 a' w2 D2 ι2 hk (T.trans T2) N3 (DV.trans (put_defers _ _ _)) (Nat.le_trans hle np)
  ·rename_i G6
   rw[if_neg G6]
   refine ih tG (j+1) (upd env vo.dst .undef) σ (a.put o.dst undef) w D ι U sS hv S Us (fun s B4=>by have:=hU _ B4;omega) (by rw[hd];exact nj E dh.undef xK fh) (by rw[lg];exact fh) fun iJ σ2 a' w2 D2 ι2 hk T2 N3 DV np=>hQ iJ σ2 a' w2 D2 ι2 hk T2 N3 (DV.trans (put_defers _ _ _)) np
theorem Hx {ops:Array Oper} {nt site0:Nat} {draw mk:Bool} {bs:Array Nat} {hidden:List (Nat×Bool)} {K:Env->ax->Prop} {Q:Exit->Act->World->Prop}:∀(l:List Oper) (vl:List bt) (j:Nat) (env:Env) (σ:ax) (a:Act) (w:World) (D:Nat->Prop) (ι:Names) (U:Nat->Prop),
  allM (mu P ops nt site0 draw mk bs hidden) l j=some vl->wpOps (Sound P) draw vl K env σ->gy P hs D ι σ.get w->Used ι σ.next U->(∀s,U s->s<site0+j)->cC P w D ι env a->a.tmps.size=nt->
  (∀iJ σ' a' w' D' ι',K iJ σ'->Step hs D ι w D' ι' w'->St P hs nt D' ι' iJ σ' a' w'->a'.defers=a.defers->σ.next<=σ'.next->Q .normal a' w')->wpList P ops Q l a w:=fun l vl j env σ a w D ι U h hv S Us hU E fh hQ=>by
 have:=EC [] l vl j env σ a w D ι U h hv S Us hU E fh hQ
 rwa [List.append_nil]at this
end
end Go.Proofs.YtgoljkjaameagaaGreat.V

namespace Go.Proofs.YtgoljkjaameagaaGreat.V
open Go.RowKit
variable {P:Program} {w w':World} {D D' D2:Nat->Prop} {ι ι' ι2:Names}
section
variable {hs:Nat} {X:fK}
theorem bh {env iV:Env} {x:O} (h:∀t∈gP x,env t=iV t):dc env x=dc iV x:=by
 cases x with
 |t n=>exact h n (by simp[gP])
 |_=>rfl
theorem map_congr {env iV:Env} {l:List O} (h:∀t∈l.flatMap gP,env t=iV t):l.map (dc env)=l.map (dc iV):=
 List.map_congr_left fun x hx=>bh fun t ht=>h t (List.mem_flatMap.2 ⟨x,hx,ht⟩)
theorem pH {env iV:Env} {x:Option O} (h:∀t∈wN x,env t=iV t):x.map (dc env)=x.map (dc iV):=by
 cases x with
 |none=>rfl
 |some y=>simp only[Option.map_some];rw[bh h]
theorem tx {env iV:Env} {o:gz} {g:Rows} {id:Id} (h:∀t∈o.gH,env t=iV t):eP o (dc env) g id=eP o (dc iV) g id:=by
 cases o<;>simp only[gz.gH,List.mem_append]at h<;>simp only[eP]
 case dq x=>rw[bh h]
 case pick c a b=>rw[bh (x:=c) fun t ht=>h t (.inl (.inl ht)),bh (x:=a) fun t ht=>h t (.inl (.inr ht)),bh (x:=b) fun t ht=>h t (.inr ht)]
 case box x=>rw[bh h]
 case build z ps=>
  have:(ps.map fun(x:Nat×Nat×O)=>(x.1,x.2.1,dc env x.2.2))=ps.map fun(x:Nat×Nat×O)=>(x.1,x.2.1,dc iV x.2.2):=List.map_congr_left fun x hx=>by
   rw[bh (x:=x.2.2) fun t ht=>h t (List.mem_flatMap.2 ⟨x,hx,ht⟩)]
  rw[this]
 case nh a b l=>rw[map_congr h]
 case load a n x=>rw[bh h]
 case Bt x=>rw[bh h]
 case bin a b x y=>rw[bh (x:=x) fun t ht=>h t (.inl ht),bh (x:=y) fun t ht=>h t (.inr ht)]
 case sh a x y=>rw[bh (x:=x) fun t ht=>h t (.inl ht),bh (x:=y) fun t ht=>h t (.inr ht)]
 case Lx a x y=>rw[bh (x:=x) fun t ht=>h t (.inl ht),bh (x:=y) fun t ht=>h t (.inr ht)]
 case Ot a b x y=>rw[bh (x:=x) fun t ht=>h t (.inl ht),bh (x:=y) fun t ht=>h t (.inr ht)]
 case S3 a b x y=>rw[bh (x:=x) fun t ht=>h t (.inl ht),bh (x:=y) fun t ht=>h t (.inr ht)]
 case Re a b x=>rw[bh h]
 case S4 a x=>rw[bh h]
 case not x=>rw[bh h]
 case neg x=>rw[bh h]
 case conv k x=>rw[bh h]
 case Fs x=>rw[bh h]
 case slice s x lo hi=>rw[bh (x:=x) fun t ht=>h t (.inl (.inl ht)),pH (x:=lo) fun t ht=>h t (.inl (.inr ht)),pH (x:=hi) fun t ht=>h t (.inr ht)]
 case AA x lo hi=>rw[bh (x:=x) fun t ht=>h t (.inl (.inl ht)),pH (x:=lo) fun t ht=>h t (.inl (.inr ht)),pH (x:=hi) fun t ht=>h t (.inr ht)]
 case gm k x=>rw[bh h]
 case field a b c x=>rw[bh h]
 case dL s x y=>rw[bh (x:=x) fun t ht=>h t (.inl ht),bh (x:=y) fun t ht=>h t (.inr ht)]
 case Me n s x y=>rw[bh (x:=x) fun t ht=>h t (.inl ht),bh (x:=y) fun t ht=>h t (.inr ht)]
 case Mh x y=>rw[bh (x:=x) fun t ht=>h t (.inl ht),bh (x:=y) fun t ht=>h t (.inr ht)]
 case eO a b c x y=>rw[bh (x:=x) fun t ht=>h t (.inl ht),bh (x:=y) fun t ht=>h t (.inr ht)]
 case extract i x=>rw[bh h]
 case len x=>rw[bh h]
 case Mr x=>rw[bh h]
 case J3 x=>rw[bh h]
 case JQ x=>rw[bh h]
 case My f l=>rw[map_congr h]
 case Mz f l=>rw[map_congr h]
 case mq f l=>rw[map_congr h]
 case j4 z x y=>rw[bh (x:=x) fun t ht=>h t (.inl ht),bh (x:=y) fun t ht=>h t (.inr ht)]
theorem gW {env iV:Env} {o:gz} {g:Rows} {id:Id} (h:∀t∈o.gH,env t=iV t):fZ o (dc env) g id=fZ o (dc iV) g id:=by
 cases o<;>simp only[gz.gH,List.mem_append]at h<;>simp only[fZ]
 case clear z x=>rw[bh h]
 case mw f l=>rw[map_congr h]
 all_goals rename_i a x y
 all_goals rw[bh (x:=x) fun t ht=>h t (.inl ht),bh (x:=y) fun t ht=>h t (.inr ht)]
theorem IB {n:Nat} {vo:bt} {env iV:Env} {g g':Rows} {v:AV} (h:∀t∈vo.op.gH,env t=iV t) (hv:VS X n vo env g v g'):VS X n vo iV g v g':=by
 unfold VS at hv ⊢
 split at hv
 ·rename_i f args dK
  rw[dK]at h
  simp only[gz.gH]at h
  rw[<-map_congr h];exact hv
 ·rename_i x args dK
  rw[dK]at h
  simp only[gz.gH,List.mem_append]at h
  rw[<-map_congr (l:=args) fun t ht=>h t (.inr ht),<-bh (x:=x) fun t ht=>h t (.inl ht)];exact hv
 ·rw[<-gW h];exact hv
 ·rw[<-gW h];exact hv
 ·rw[<-gW h];exact hv
 ·rw[<-gW h];exact hv
 ·rw[<-gW h];exact hv
 ·rw[<-tx h];exact hv
theorem Ew {q:MQ} {vs:List AV} {g:Rows} {id:Id} {v:AV} {r:Row} (h:bD q vs g id=some (v,some r)):∃m,q=.new m:=by
 unfold bD at h
 split at h
 ·exact⟨_,rfl⟩
 ·simp[Option.bind_eq_some_iff]at h
 ·simp at h
 ·cases h
theorem wS {o:gz} {ρ:O->AV} {g:Rows} {id:Id} {v:AV} {r:Row} (h:eP o ρ g id=some (v,some r)):qW o=true:=by
 cases o<;>simp only[eP]at h<;>(try rfl)<;>(try simp at h)
 case mq q xs=>obtain⟨m,rfl⟩:=Ew h;rfl
 all_goals (try(split at h<;>simp at h))
theorem wT {o:gz} {ρ:O->AV} {g g2:Rows} {id id2:Id} (h:o.cls=.pure):eP o ρ g id=eP o ρ g2 id2:=by
 cases o<;>(try simp[gz.cls]at h)<;>(try simp only[eP])
 case mq q xs=>cases q<;>simp[gz.cls]at h
theorem vz {n:Nat} {vo:bt} {env:Env} {g g':Rows} {v:AV} (hw:vo.op.cls≠.write) (hv:VS X n vo env g v g'):∃mr,g'=jk g ⟨vo.site,n⟩ mr/\(mr≠none->vo.makes=true)/\∀g0,fY vo.hid n g0=fY vo.hid n g->VS X n vo env g0 v (jk g0 ⟨vo.site,n⟩ mr):=by
 unfold VS at hv
 split at hv
 ·rename_i f args dK
  rcases hv with⟨h1,rfl⟩|⟨hs,sz,rows,hM,rfl,rfl⟩
  ·refine⟨none,rfl,fun h=>(h rfl).elim,fun g0 h0=>?_⟩
   unfold VS;rw[dK];simp only;unfold vJ;rw[h0];exact .inl ⟨h1,rfl⟩
  ·refine⟨some _,rfl,fun _=>by unfold bt.makes;rw[dK,hs];simp[gz.l6],fun g0 h0=>?_⟩
   unfold VS;rw[dK];simp only;unfold vJ;rw[h0];exact .inr ⟨hs,sz,rows,hM,rfl,rfl⟩
 ·rename_i x args dK
  obtain⟨f,db,hx,hv⟩:=hv
  rcases hv with⟨h1,rfl⟩|⟨hs,sz,rows,hM,rfl,rfl⟩
  ·refine⟨none,rfl,fun h=>(h rfl).elim,fun g0 h0=>?_⟩
   unfold VS;rw[dK];simp only;unfold vJ;rw[h0];exact⟨f,db,hx,.inl ⟨h1,rfl⟩⟩
  ·refine⟨some _,rfl,fun _=>by unfold bt.makes;rw[dK,hs];simp[gz.l6],fun g0 h0=>?_⟩
   unfold VS;rw[dK];simp only;unfold vJ;rw[h0];exact⟨f,db,hx,.inr ⟨hs,sz,rows,hM,rfl,rfl⟩⟩
 ·rename_i dK;rw[dK]at hw;exact(hw rfl).elim
 ·rename_i dK;rw[dK]at hw;exact(hw rfl).elim
 ·rename_i dK;rw[dK]at hw;exact(hw rfl).elim
 ·rename_i dK;rw[dK]at hw;exact(hw rfl).elim
 ·rename_i dK;rw[dK]at hw;exact(hw rfl).elim
 ·rename_i n1 n2 n3 n4 n5 n6 n7
  obtain⟨mr,hq,rfl⟩:=hv
  refine⟨mr,rfl,fun h=>?_,fun g0 h0=>?_⟩
  ·cases mr with
   |none=>exact(h rfl).elim
   |some r=>unfold bt.makes;rw[wS hq];rfl
  ·unfold VS
   split
   ·rename_i hh;exact(n1 _ _ hh).elim
   ·rename_i hh;exact(n2 _ _ hh).elim
   ·rename_i hh;exact(n3 _ _ _ hh).elim
   ·rename_i hh;exact(n4 _ _ _ hh).elim
   ·rename_i hh;exact(n5 _ _ _ hh).elim
   ·rename_i hh;exact(n6 _ _ hh).elim
   ·rename_i hh;exact(n7 _ _ hh).elim
   ·rw[h0];exact⟨mr,hq,rfl⟩
theorem zm {n:Nat} {vo:bt} {env:Env} {g g':Rows} {v:AV} (hp:vo.op.cls=.pure) (hv:VS X n vo env g v g'):g'=g/\∀g0,VS X n vo env g0 v g0:=by
 unfold VS at hv
 split at hv
 ·rename_i dK;rw[dK]at hp;simp[gz.cls]at hp
 ·rename_i dK;rw[dK]at hp;simp[gz.cls]at hp
 ·rename_i dK;rw[dK]at hp;simp[gz.cls]at hp
 ·rename_i dK;rw[dK]at hp;simp[gz.cls]at hp
 ·rename_i dK;rw[dK]at hp;simp[gz.cls]at hp
 ·rename_i dK;rw[dK]at hp;simp[gz.cls]at hp
 ·rename_i dK;rw[dK]at hp;simp[gz.cls]at hp
 ·rename_i n1 n2 n3 n4 n5 n6 n7
  obtain⟨mr,hq,rfl⟩:=hv
  have Vj:mr=none:=by
   cases mr with
   |none=>rfl
   |some r=>have:=wS hq;simp[qW,hp]at this
  subst Vj
  refine⟨rfl,fun g0=>?_⟩
  unfold VS
  split
  ·rename_i hh;exact(n1 _ _ hh).elim
  ·rename_i hh;exact(n2 _ _ hh).elim
  ·rename_i hh;exact(n3 _ _ _ hh).elim
  ·rename_i hh;exact(n4 _ _ _ hh).elim
  ·rename_i hh;exact(n5 _ _ _ hh).elim
  ·rename_i hh;exact(n6 _ _ hh).elim
  ·rename_i hh;exact(n7 _ _ hh).elim
  ·exact⟨none,by rw[wT hp];exact hq,rfl⟩
def GS (X:fK) (n:Nat) (vo:bt) (env:Env) (g:Rows) (v:AV) (g':Rows):Prop:=
 if aI vo.guard env then VS X n vo env g v g' else v=.undef/\g'=g
theorem CX {hid:List Nat} {g:Rows} {s n:Nat} {mr:Option Row} (h:mr≠none->hid.contains s=true):fY hid n (jk g ⟨s,n⟩ mr)=fY hid n g:=by
 cases mr with
 |none=>rfl
 |some r=>
  have hc:=h (by simp)
  cases hid with
  |nil=>simp at hc
  |cons a l=>
   funext i
   show(if (a::l).contains i.site=true/\i.bj=n then none else jk g ⟨s,n⟩ (some r) i)=if (a::l).contains i.site=true/\i.bj=n then none else g i
   by_cases hi:i=⟨s,n⟩
   ·subst hi;rw[if_pos ⟨hc,rfl⟩,if_pos ⟨hc,rfl⟩]
   ·simp only[jk,bR,if_neg hi]
theorem Gr {g:Rows} {i j:Id} (h:i≠j) (m1 m2:Option Row):jk (jk g i m1) j m2=jk (jk g j m2) i m1:=by
 cases m1<;>cases m2<;>simp only[jk]
 funext k
 simp only[bR]
 by_cases h1:k=i
 ·subst h1;rw[if_neg h,if_pos rfl];simp
 ·by_cases h2:k=j
  ·subst h2;simp[h1]
  ·simp[h1,h2]
theorem xo {env:Env} {d e:Option Nat} {v u:AV} (h:∀k,d=some k->e≠some k):upd (upd env d v) e u=upd (upd env e u) d v:=by
 cases d with
 |none=>rfl
 |some d=>
  cases e with
  |none=>rfl
  |some e=>
   have il:d≠e:=fun he=>h d rfl (by rw[he])
   funext t
   simp only[upd]
   by_cases h1:t=d
   ·subst h1;rw[if_neg il,if_pos rfl,if_pos rfl]
   ·by_cases h2:t=e
    ·subst h2;rw[if_pos rfl,if_neg h1,if_pos rfl]
    ·simp[h1,h2]
theorem mN {env:Env} {d:Option Nat} {v:AV} {l:List Nat} (h:∀k,d=some k->k∉l):∀t∈l,upd env d v t=env t:=by
 intro t ht
 cases d with
 |none=>rfl
 |some d=>
  have:t≠d:=fun he=>h d rfl (he▸ht)
  simp[upd,this]
structure Df (x y:bt):Prop where
 xy:∀k,x.dst=some k->k∉y.gH
 yx:∀k,y.dst=some k->k∉x.gH
 dst:∀k,x.dst=some k->y.dst≠some k
 cls:clash x.op.cls y.op.cls=false
 hx:x.makes=true->y.hid.contains x.site=true
 hy:y.makes=true->x.hid.contains y.site=true
 site:x.site≠y.site
theorem Df.symm {x y:bt} (h:Df x y):Df y x:=
 ⟨h.yx,h.xy,fun k hk he=>h.dst k he hk,by have:=h.cls;revert this;cases x.op.cls<;>cases y.op.cls<;>simp[clash],h.hy,h.hx,fun e=>h.site e.symm⟩
theorem qJ {x y:bt} (h:FE x y=true):Df x y:=by
 unfold FE at h
 simp only[Bool.and_eq_true,Bool.not_eq_true',Bool.or_eq_true,bne_iff_ne]at h
 obtain⟨⟨⟨⟨h1,h2⟩,h3⟩,h4⟩,h5⟩:=h
 unfold tF at h1
 simp only[Bool.and_eq_true]at h1
 obtain⟨a1,a2⟩:=h1
 refine⟨fun k hk=>?_,fun k hk=>?_,fun k hk=>?_,h2,fun hm=>?_,fun hm=>?_,h5⟩
 ·rw[hk]at a1;simp at a1;exact a1.1
 ·rw[hk]at a2;simpa using a2
 ·rw[hk]at a1;simp at a1;exact a1.2
 ·rcases h3 with h3|h3
  ·rw[hm]at h3;cases h3
  ·exact h3
 ·rcases h4 with h4|h4
  ·rw[hm]at h4;cases h4
  ·exact h4
theorem sC {vo:bt} {t:Nat} (h:t∈vo.op.gH):t∈vo.gH:=List.mem_append_left _ h
theorem nC {vo:bt} {env iV:Env} (h:∀t∈vo.gH,env t=iV t):aI vo.guard env=aI vo.guard iV:=by
 unfold aI
 cases hg:vo.guard with
 |none=>rfl
 |some p=>
  obtain⟨t,b⟩:=p
  have:env t=iV t:=h t (List.mem_append_right _ (by rw[hg];simp))
  simp only[this]
theorem vg {n:Nat} {vo:bt} {env iV:Env} {g g':Rows} {v:AV} (h:∀t∈vo.gH,env t=iV t) (hv:GS X n vo env g v g'):GS X n vo iV g v g':=by
 unfold GS at hv ⊢
 rw[<-nC h]
 split at hv
 ·rename_i hw;rw[if_pos hw];exact IB (fun t ht=>h t (sC ht)) hv
 ·rename_i hw;rw[if_neg hw];exact hv
theorem Fe {n:Nat} {x y:bt} {env:Env} {g g1 g2:Rows} {v v':AV} (F:Df x y) (h1:GS X n x env g v g1) (h2:GS X n y (upd env x.dst v) g1 v' g2):
  ∃LH,GS X n y env g v' LH/\GS X n x (upd env y.dst v') LH v g2/\upd (upd env x.dst v) y.dst v'=upd (upd env y.dst v') x.dst v:=by
 have Lf:=xo (env:=env) (v:=v) (u:=v') F.dst
 replace h2:GS X n y env g1 v' g2:=vg (mN F.xy) h2
 have back:∀{LH},GS X n x env LH v g2->GS X n x (upd env y.dst v') LH v g2:=fun h=>vg (fun t ht=>(mN F.yx t ht).symm) h
 unfold GS at h1 h2
 by_cases wx:aI x.guard env=true
 ·rw[if_pos wx]at h1
  by_cases wy:aI y.guard env=true
  ·rw[if_pos wy]at h2
   by_cases cx:x.op.cls=.write
   ·have cy:y.op.cls=.pure:=by
     have:=F.cls;rw[cx]at this
     cases hc:y.op.cls<;>simp[clash,hc]at this ⊢
    obtain⟨rfl,dE⟩:=zm cy h2
    exact⟨g,by unfold GS;rw[if_pos wy];exact dE g,back (by unfold GS;rw[if_pos wx];exact h1),Lf⟩
   ·by_cases cy:y.op.cls=.write
    ·have cx':x.op.cls=.pure:=by
      have:=F.cls;rw[cy]at this
      cases hc:x.op.cls<;>simp[clash,hc]at this ⊢
     obtain⟨rfl,dE⟩:=zm cx' h1
     exact⟨g2,by unfold GS;rw[if_pos wy];exact h2,back (by unfold GS;rw[if_pos wx];exact dE g2),Lf⟩
    ·obtain⟨mx,rfl,kx,T5⟩:=vz cx h1
     obtain⟨my,rfl,ky,N9⟩:=vz cy h2
     have il:(⟨x.site,n⟩:Id)≠⟨y.site,n⟩:=fun e=>F.site (by injection e)
     refine⟨jk g ⟨y.site,n⟩ my,?_,back ?_,Lf⟩
     ·unfold GS;rw[if_pos wy]
      exact N9 g (CX fun h=>F.hx (kx h)).symm
     ·unfold GS;rw[if_pos wx,Gr il]
      exact T5 _ (CX fun h=>F.hy (ky h))
  ·rw[if_neg wy]at h2
   obtain⟨rfl,rfl⟩:=h2
   exact⟨g,by unfold GS;rw[if_neg wy];exact⟨rfl,rfl⟩,back (by unfold GS;rw[if_pos wx];exact h1),Lf⟩
 ·rw[if_neg wx]at h1
  obtain⟨rfl,rfl⟩:=h1
  exact⟨g2,h2,back (by unfold GS;rw[if_neg wx];exact⟨rfl,rfl⟩),Lf⟩
end
end Go.Proofs.YtgoljkjaameagaaGreat.V

namespace Go.Proofs.YtgoljkjaameagaaGreat.V
open Go.RowKit
variable {P:Program} {w w':World} {D D' D2:Nat->Prop} {ι ι' ι2:Names}
section
variable {hs:Nat} {X:fK}
def jl (acc:Array Nat) (o:Oper):Nat:=o.after.foldl (fun s e=>if Region.binds .any e then s|||2 ^ e.on|||acc.getD e.on 0 else s) 0
theorem Lt (ops:Array Oper):jD ops=ops.foldl (fun acc o=>acc.push (jl acc o)) #[]:=rfl
theorem Bj {acc:Array Nat} {o:Oper} {i:Nat} (h:(jl acc o).testBit i=true):∃e∈o.after,Region.binds .any e=true/\(e.on=i∨(acc.getD e.on 0).testBit i=true):=by
 unfold jl at h
 rw[<-Array.foldl_toList]at h
 have gen:∀(l:List Edge) (s:Nat),(l.foldl (fun s e=>if Region.binds .any e then s|||2 ^ e.on|||acc.getD e.on 0 else s) s).testBit i=true->s.testBit i=true∨∃e∈l,Region.binds .any e=true/\(e.on=i∨(acc.getD e.on 0).testBit i=true):=by
  intro l
  induction l with
  |nil=>intro s h;exact .inl h
  |cons e r ih=>
   intro s h
   rw[List.foldl_cons]at h
   rcases ih _ h with h|⟨e',zM,h'⟩
   ·by_cases hb:Region.binds .any e=true
    ·rw[if_pos hb]at h
     simp only[Nat.testBit_or,Bool.or_eq_true]at h
     rcases h with(h|h)|h
     ·exact .inl h
     ·refine .inr ⟨e,by simp,hb,.inl ?_⟩
      rw[Nat.testBit_two_pow]at h
      simpa using h
     ·exact .inr ⟨e,by simp,hb,.inr h⟩
    ·rw[if_neg hb]at h;exact .inl h
   ·exact .inr ⟨e',List.mem_cons_of_mem _ zM,h'⟩
 rcases gen _ _ h with h|⟨e,he,h⟩
 ·simp at h
 ·exact⟨e,Array.mem_toList_iff.1 he,h⟩
theorem IM {ops:Array Oper} {j i:Nat} (h:((jD ops).getD j 0).testBit i=true):∃o,ops[j]? =some o/\∃e∈o.after,Region.binds .any e=true/\(e.on=i∨((jD ops).getD e.on 0).testBit i=true):=by
 have key:∀(l pre:List Oper) (acc:Array Nat),acc.size=pre.length->(∀j i,(acc.getD j 0).testBit i=true->∃o,pre[j]? =some o/\∃e∈o.after,Region.binds .any e=true/\(e.on=i∨(acc.getD e.on 0).testBit i=true))->
   ∀j i,((l.foldl (fun acc o=>acc.push (jl acc o)) acc).getD j 0).testBit i=true->∃o,(pre++l)[j]? =some o/\∃e∈o.after,Region.binds .any e=true/\(e.on=i∨((l.foldl (fun acc o=>acc.push (jl acc o)) acc).getD e.on 0).testBit i=true):=by
  intro l
  induction l with
  |nil=>intro pre acc _ h j i hb;simpa using h j i hb
  |cons o r ih=>
   intro pre acc fh h j i hb
   have Cz:∀k,k<acc.size->(acc.push (jl acc o)).getD k 0=acc.getD k 0:=fun k hk=>by
    simp only[Array.getD_eq_getD_getElem?,Array.getElem?_push]
    rw[if_neg (by omega)]
   have big:∀k,acc.size<=k->acc.getD k 0=0:=fun k hk=>by simp[Array.getElem?_eq_none hk]
   have lift:∀k i,(acc.getD k 0).testBit i=true->((acc.push (jl acc o)).getD k 0).testBit i=true:=fun k i hk=>by
    by_cases dV:k<acc.size
    ·rw[Cz k dV];exact hk
    ·rw[big k (by omega)]at hk;simp at hk
   have:=ih (pre++[o]) (acc.push (jl acc o)) (by simp[fh]) (fun j i hb=>by
    by_cases dV:j<acc.size
    ·rw[Cz j dV]at hb
     obtain⟨o',C9,e,he,fD,h2⟩:=h j i hb
     refine⟨o',by rw[List.getElem?_append_left (by omega)];exact C9,e,he,fD,?_⟩
     rcases h2 with h2|h2
     ·exact .inl h2
     ·exact .inr (lift _ _ h2)
    ·by_cases hj:j=acc.size
     ·subst hj
      have e0:(acc.push (jl acc o)).getD acc.size 0=jl acc o:=by simp
      rw[e0]at hb
      obtain⟨e,he,fD,h2⟩:=Bj hb
      refine⟨o,by rw[List.getElem?_append_right (by omega),fh];simp,e,he,fD,?_⟩
      rcases h2 with h2|h2
      ·exact .inl h2
      ·exact .inr (lift _ _ h2)
     ·have:(acc.push (jl acc o)).getD j 0=0:=by
       simp only[Array.getD_eq_getD_getElem?]
       rw[Array.getElem?_eq_none (by simp;omega)];rfl
      rw[this]at hb;simp at hb) j i (by simpa using hb)
   simpa using this
 rw[Lt,<-Array.foldl_toList]at h ⊢
 have:=key ops.toList [] #[] rfl (fun j i h=>by simp at h) j i h
 simpa using this
def DC (ops:Array Oper) (listed:Array Bool):Prop:=∀k i,listed.getD k false=true->((jD ops).getD k 0).testBit i=true->listed.getD i false=true
theorem lk {ops:Array Oper} {listed:Array Bool} (h:DC ops listed) {j:Nat} (hj:j∈Region.ready .any ops listed):∀i,((jD ops).getD j 0).testBit i=true->listed.getD i false=true:=by
 intro i hb
 obtain⟨_,o,ho,dE⟩:=mem_ready.1 hj
 obtain⟨o',C9,e,he,fD,h2⟩:=IM hb
 rw[ho]at C9;injection C9 with C9;subst C9
 have hl:=dE e he fD
 rcases h2 with h2|h2
 ·rw[<-h2];exact hl
 ·exact h _ _ hl h2
theorem DC.list {ops:Array Oper} {listed:Array Bool} (h:DC ops listed) {j:Nat} (hj:j∈Region.ready .any ops listed):DC ops (listed.setIfInBounds j true):=by
 intro k i hk hb
 by_cases hkj:k=j
 ·subst hkj;exact getD_set_true (lk h hj i hb)
 ·rw[getD_set_ne false (fun e=>hkj e.symm)]at hk
  exact getD_set_true (h k i hk hb)
theorem je {ops:Array Oper} {listed:Array Bool} {j:Nat} (hj:j∈Region.ready .any ops listed):listed.getD j false=false:=by
 have h0:=(mem_ready.1 hj).1
 rcases Nat.lt_or_ge j listed.size with h|h
 ·simp[h]at h0 ⊢;exact h0
 ·simp[Array.getElem?_eq_none h]at h0
def KP (X:fK) (n:Nat) (ops:Array Oper) (vl:List bt) (K:Env->Rows->Prop):Nat->Array Bool->Env->Rows->Prop
 |0,listed,env,g=>Region.ready .any ops listed=[]/\K env g
 |f+1,listed,env,g=>(Region.ready .any ops listed=[]->K env g)/\∀i∈Region.ready .any ops listed,∃vo,vl[i]? =some vo/\∃v g',GS X n vo env g v g'/\KP X n ops vl K f (listed.setIfInBounds i true) (upd env vo.dst v) g'
theorem Bz {ops:Array Oper} {vl:List bt} (h:oP ops vl (jD ops)=true) {i j:Nat} {x y:bt} (hi:vl[i]? =some x) (hj:vl[j]? =some y) (D6:i≠j) (h1:((jD ops).getD j 0).testBit i=false) (h2:((jD ops).getD i 0).testBit j=false):Df x y:=by
 unfold oP at h
 simp only[Bool.and_eq_true,List.all_eq_true]at h
 obtain⟨_,h⟩:=h
 have mem:∀(k:Nat) (z:bt),vl[k]? =some z->(z,k)∈vl.zipIdx:=fun k z hk=>by
  rw[List.mem_iff_getElem?]
  exact⟨k,by simp[List.getElem?_zipIdx,hk]⟩
 rcases Nat.lt_or_gt_of_ne D6 with dV|xL
 ·have:=h _ (mem j y hj) _ (mem i x hi)
  simp only[dV,decide_true,Bool.not_true,Bool.false_or,h1]at this
  exact qJ this
 ·have:=h _ (mem i x hi) _ (mem j y hj)
  simp only[xL,decide_true,Bool.not_true,Bool.false_or,h2]at this
  exact(qJ this).symm
theorem E7 {n:Nat} {ops:Array Oper} {vl:List bt} {K:Env->Rows->Prop} (we:oP ops vl (jD ops)=true) (hlen:vl.length=ops.size) {i:Nat} {vi:bt} (hi:vl[i]? =some vi) {v:AV}:∀(fuel:Nat) (listed:Array Bool) (env:Env) (g g1:Rows),
  DC ops listed->i∈Region.ready .any ops listed->GS X n vi env g v g1->KP X n ops vl K fuel (listed.setIfInBounds i true) (upd env vi.dst v) g1->KP X n ops vl K (fuel+1) listed env g:=by
 intro fuel
 induction fuel with
 |zero=>
  intro listed env g g1 _ hr hG H
  refine⟨fun h=>(by rw[h]at hr;cases hr),fun j hj=>?_⟩
  by_cases mO:j=i
  ·subst mO;exact⟨vi,hi,v,g1,hG,H⟩
  ·have:=ready_mono hj mO
   rw[H.1]at this;cases this
 |succ fuel ih=>
  intro listed env g g1 sN hr hG H
  refine⟨fun h=>(by rw[h]at hr;cases hr),fun j hj=>?_⟩
  by_cases mO:j=i
  ·subst mO;exact⟨vi,hi,v,g1,hG,H⟩
  ·obtain⟨vj,Ma,v',g2,hG2,H2⟩:=H.2 j (ready_mono hj mO)
   have b1:((jD ops).getD j 0).testBit i=false:=by
    cases hb:((jD ops).getD j 0).testBit i with
    |false=>rfl
    |true=>have:=lk sN hj i hb;rw[je hr]at this;cases this
   have b2:((jD ops).getD i 0).testBit j=false:=by
    cases hb:((jD ops).getD i 0).testBit j with
    |false=>rfl
    |true=>have:=lk sN hr j hb;rw[je hj]at this;cases this
   have F:=Bz we hi Ma (fun e=>mO e.symm) b1 b2
   obtain⟨LH,q1,q2,q3⟩:=Fe F hG hG2
   refine⟨vj,Ma,v',LH,q1,ih _ _ _ g2 (sN.list hj) (ready_mono hr (fun e=>mO e.symm)) q2 ?_⟩
   rw[<-q3,Array.setIfInBounds_comm _ _ mO]
   exact H2
theorem N4 {n:Nat} {vo:bt} {env:Env} {g:Rows} {v:AV} {mr:Option Row} (h:eP vo.op (dc env) (fY vo.hid n g) ⟨vo.site,n⟩=some (v,mr)):VS X n vo env g v (jk g ⟨vo.site,n⟩ mr):=by
 unfold VS
 split
 ·rename_i dK;rw[dK]at h;simp[eP]at h
 ·rename_i dK;rw[dK]at h;simp[eP]at h
 ·rename_i dK;rw[dK]at h;simp[eP]at h
 ·rename_i dK;rw[dK]at h;simp[eP]at h
 ·rename_i dK;rw[dK]at h;simp[eP]at h
 ·rename_i dK;rw[dK]at h;simp[eP]at h
 ·rename_i dK;rw[dK]at h;simp[eP]at h
 ·exact⟨mr,h,rfl⟩
theorem IC {n:Nat} {vo:bt} {env:Env} {g g':Rows} {v:AV} (h:fZ vo.op (dc env) g ⟨vo.site,n⟩=some (v,g')):VS X n vo env g v g':=by
 unfold VS
 split
 ·rename_i dK;rw[dK]at h;simp[fZ]at h
 ·rename_i dK;rw[dK]at h;simp[fZ]at h
 ·exact h
 ·exact h
 ·exact h
 ·exact h
 ·exact h
 ·rename_i n1 n2 n3 n4 n5 n6 n7
  exfalso
  unfold fZ at h
  split at h
  ·rename_i hh;exact n3 _ _ _ hh
  ·rename_i hh;exact n4 _ _ _ hh
  ·rename_i hh;exact n5 _ _ _ hh
  ·rename_i hh;exact n6 _ _ hh
  ·rename_i hh;exact n7 _ _ hh
  ·simp at h
theorem PV {vo:bt} {env:Env} {σ:ax} {next:AV->ax->Prop} (hv:fJ X true vo env σ next):∃v g',VS X σ.next vo env σ.get v g'/\next v ⟨g',σ.next⟩:=by
 unfold fJ at hv
 split at hv
 ·rename_i f args dK
  rcases hv with⟨r,hP,hn⟩|⟨h,_⟩|⟨hs,sz,rows,hM,hn⟩
  ·exact⟨r,σ.get,by unfold VS;rw[dK];exact .inl ⟨hP,rfl⟩,hn⟩
  ·cases h
  ·exact⟨_,_,by unfold VS;rw[dK];exact .inr ⟨hs,sz,rows,hM,rfl,rfl⟩,hn⟩
 ·rename_i x args dK
  split at hv
  ·rename_i f db hx
   have tY:vI (dc env x) (args.map (dc env))=some (f,args.map (dc env)++db):=by rw[hx];rfl
   rcases hv with⟨r,hP,hn⟩|⟨h,_⟩|⟨hs,sz,rows,hM,hn⟩
   ·exact⟨r,σ.get,by unfold VS;rw[dK];exact⟨f,_,tY,.inl ⟨hP,rfl⟩⟩,hn⟩
   ·cases h
   ·exact⟨_,_,by unfold VS;rw[dK];exact⟨f,_,tY,.inr ⟨hs,sz,rows,hM,rfl,rfl⟩⟩,hn⟩
  ·rename_i f db hx
   have tY:vI (dc env x) (args.map (dc env))=some (f,db++args.map (dc env)):=by rw[hx];rfl
   rcases hv with⟨r,hP,hn⟩|⟨h,_⟩|⟨hs,sz,rows,hM,hn⟩
   ·exact⟨r,σ.get,by unfold VS;rw[dK];exact⟨f,_,tY,.inl ⟨hP,rfl⟩⟩,hn⟩
   ·cases h
   ·exact⟨_,_,by unfold VS;rw[dK];exact⟨f,_,tY,.inr ⟨hs,sz,rows,hM,rfl,rfl⟩⟩,hn⟩
  ·exact hv.elim
 ·split at hv
  ·rename_i v g h;exact⟨v,g,IC h,hv⟩
  ·exact hv.elim
 ·split at hv
  ·rename_i v g h;exact⟨v,g,IC h,hv⟩
  ·exact hv.elim
 ·split at hv
  ·rename_i v g h;exact⟨v,g,IC h,hv⟩
  ·exact hv.elim
 ·split at hv
  ·rename_i v g h;exact⟨v,g,IC h,hv⟩
  ·exact hv.elim
 ·split at hv
  ·rename_i v g h;exact⟨v,g,IC h,hv⟩
  ·exact hv.elim
 ·split at hv
  ·rename_i v r h;exact⟨v,_,N4 h,hv⟩
  ·rename_i v h;exact⟨v,_,N4 h,hv⟩
  ·exact hv.elim
theorem xp {ops:Array Oper} {vl:List bt} {K:Env->ax->Prop} {n:Nat} (we:oP ops vl (jD ops)=true) (hlen:vl.length=ops.size):∀(r:List bt) (k:Nat) (listed:Array Bool) (env:Env) (g:Rows),
  (∀j,r[j]? =vl[k+j]?)->listed.size=ops.size->(∀i,i<ops.size->listed[i]? =some (decide (i<k)))->k+r.length=ops.size->DC ops listed->wpOps X true r K env ⟨g,n⟩->KP X n ops vl (fun env g=>K env ⟨g,n+1⟩) r.length listed env g
 |[],k,listed,env,g,_,fh,hl,hk,_,hv=>by
  refine⟨?_,hv⟩
  rw[List.eq_nil_iff_forall_not_mem]
  intro j hj
  obtain⟨h0,o,ho,_⟩:=mem_ready.1 hj
  have dV:j<ops.size:=(Array.getElem?_eq_some_iff.1 ho).1
  have:=hl j dV
  simp at hk
  simp[this,show j<k by omega]at h0
 |vo::r,k,listed,env,g,hr,fh,hl,hk,sN,hv=>by
  simp only[List.length_cons]at hk
  have kS:vl[k]? =some vo:=by simpa using(hr 0).symm
  have jN:k<ops.size:=by omega
  have JD:k∈Region.ready .any ops listed:=by
   rw[mem_ready]
   refine⟨by simp[hl k jN],ops[k],Array.getElem?_eq_getElem jN,fun e he hb=>?_⟩
   unfold oP Fw at we
   simp only[Bool.and_eq_true,List.all_eq_true]at we
   have hm:(ops[k],k)∈ops.toList.zipIdx:=by
    rw[List.mem_iff_getElem?]
    exact⟨k,by simp[List.getElem?_zipIdx,jN]⟩
   have:=we.1 _ hm
   rw[Array.all_eq_true_iff_forall_mem]at this
   have:=this e he
   simp only[hb,Bool.not_true,Bool.false_or,decide_eq_true_eq]at this
   simp[hl e.on (by omega),this]
  have hGS:∃v g',GS X n vo env g v g'/\wpOps X true r K (upd env vo.dst v) ⟨g',n⟩:=by
   unfold wpOps at hv
   unfold GS
   split at hv
   ·rename_i hw
    simp only[hw,if_true]
    exact PV hv
   ·rename_i hw
    simp only[hw]
    exact⟨.undef,g,⟨rfl,rfl⟩,hv⟩
  obtain⟨v,g',h1,h2⟩:=hGS
  refine E7 we hlen kS r.length listed env g g' sN JD h1 ?_
  refine xp we hlen r (k+1) _ _ _ (fun j=>by have:=hr (j+1);simpa[Nat.add_assoc,Nat.add_comm 1 j]using this) (by simp[fh]) (fun i hi=>?_) (by omega) (sN.list JD) h2
  by_cases yC:i=k
  ·subst yC;simp[fh,jN]
  ·rw[Array.getElem?_setIfInBounds_ne (fun e=>yC e.symm),hl i hi]
   congr 1
   have:(i<k)=(i<k+1):=by apply propext;omega
   simp[this]
theorem oJ {f:Nat->Oper->Option bt}:∀{l:List Oper} {vl:List bt} {j:Nat},allM f l j=some vl->vl.length=l.length/\∀(i:Nat) (o:Oper),l[i]? =some o->∃vo,vl[i]? =some vo/\f (j+i) o=some vo
 |[],vl,j,h=>by simp[allM]at h;subst h;simp
 |o::l,vl,j,h=>by
  simp only[allM,Option.bind_eq_bind,Option.bind_eq_some_iff,Option.pure_def,Option.some.injEq]at h
  obtain⟨vo,kS,tG,sS,rfl⟩:=h
  obtain⟨h1,h2⟩:=oJ sS
  refine⟨by simp[h1],fun i o' hi=>?_⟩
  cases i with
  |zero=>simp at hi;subst hi;exact⟨vo,rfl,kS⟩
  |succ i=>
   simp at hi
   obtain⟨q,hq,hf⟩:=h2 i o' hi
   exact⟨q,by simpa using hq,by rw[<-hf];congr 1;omega⟩
theorem ya {ops:Array Oper} {vl:List bt} {nt site0:Nat} {draw mk:Bool} {bs:Array Nat} {hidden:List (Nat×Bool)} {n:Nat} {K:Env->Rows->Prop} {Q:Exit->Act->World->Prop} (dE:allM (mu P ops nt site0 draw mk bs hidden) ops.toList 0=some vl):
  ∀(fuel:Nat) (listed:Array Bool) (env:Env) (g:Rows) (a:Act) (w:World) (D:Nat->Prop) (ι:Names) (U:Nat->Prop),KP (Sound P) n ops vl K fuel listed env g->gy P hs D ι g w->Used ι n U->(∀s,U s->∃i,s=site0+i/\listed.getD i false=true)->cC P w D ι env a->a.tmps.size=nt->
  (∀iJ g' a' w' D' ι' U',K iJ g'->Step hs D ι w D' ι' w'->gy P hs D' ι' g' w'->Used ι' n U'->cC P w' D' ι' iJ a'->a'.tmps.size=nt->a'.defers=a.defers->Q .normal a' w')->wpAny P .any ops Q fuel listed a w:=by
 intro fuel
 induction fuel with
 |zero=>intro listed env g a w D ι U h S Us hU E fh hQ;exact⟨h.1,hQ env g a w D ι U h.2 (Step.refl _ _ _ _) S Us E fh rfl⟩
 |succ fuel ih=>
  intro listed env g a w D ι U h S Us hU E fh hQ
  refine⟨fun hr=>hQ env g a w D ι U (h.1 hr) (Step.refl _ _ _ _) S Us E fh rfl,fun i hi=>?_⟩
  obtain⟨vo,kS,v,g',hG,NH⟩:=h.2 i hi
  obtain⟨_,o,ho,_⟩:=mem_ready.1 hi
  obtain⟨vo',mD,Rx⟩:=(oJ dE).2 i o (by simpa using ho)
  rw[kS]at mD;injection mD with mD;subst mD
  rw[Nat.zero_add]at Rx
  obtain⟨hc,hd,B7,xK,hg⟩:=pz Rx
  have hw:=tH (ops:=ops) (vo:=vo) E hg
  have UJ:¬U vo.site:=fun hu=>by
   obtain⟨i',he,hl⟩:=hU _ hu
   have:i'=i:=by omega
   subst this
   rw[je hi]at hl;cases hl
  have jF:i<listed.size:=by
   have h0:=(mem_ready.1 hi).1
   rcases Nat.lt_or_ge i listed.size with h|h
   ·exact h
   ·simp[Array.getElem?_eq_none h]at h0
  unfold wpOp
  simp only[ho]
  rw[<-hw]
  unfold GS at hG
  by_cases G6:aI vo.guard env=true
  ·rw[if_pos G6]
   rw[if_pos G6]at hG
   refine .inl (Be hc hG S Us UJ E fun a' w' ⟨u,D',ι',ha,T,S',hR,U'⟩=>?_)
   subst ha
   refine ih _ _ _ _ w' D' ι' _ NH S' U' (fun s B4=>?_) (by rw[hd];exact nj (oQ E T) hR xK fh) (by rw[lg];exact fh) fun iJ g2 a2 w2 D2 ι2 U2 hk T2 S2 T4 E2 kK DV=>hQ iJ g2 a2 w2 D2 ι2 U2 hk (T.trans T2) S2 T4 E2 kK (DV.trans (put_defers _ _ _))
   rcases B4 with h|h
   ·obtain⟨i',he,hl⟩:=hU _ h
    exact⟨i',he,getD_set_true hl⟩
   ·exact⟨i,by rw[h,B7],by simp[jF]⟩
  ·rw[if_neg G6]
   rw[if_neg G6]at hG
   obtain⟨rfl,rfl⟩:=hG
   refine ih _ _ _ _ w D ι U NH S Us (fun s B4=>?_) (by rw[hd];exact nj E dh.undef xK fh) (by rw[lg];exact fh) fun iJ g2 a2 w2 D2 ι2 U2 hk T2 S2 T4 E2 kK DV=>hQ iJ g2 a2 w2 D2 ι2 U2 hk T2 S2 T4 E2 kK (DV.trans (put_defers _ _ _))
   obtain⟨i',he,hl⟩:=hU _ B4
   exact⟨i',he,getD_set_true hl⟩
end
end Go.Proofs.YtgoljkjaameagaaGreat.V

namespace Go.Proofs.YtgoljkjaameagaaGreat.V
open Go.RowKit
variable {P:Program} {w w':World} {D D' D2:Nat->Prop} {ι ι' ι2:Names}
section
variable {hs:Nat} {X:fK}
def qh (X:fK):Prop:=∀f args σ K K',(∀r σ',K r σ'->K' r σ')->X f args σ K->X f args σ K'
theorem qu:qh (Sound P):=fun _ _ _ _ _ hK h hs D ι w vs S U A=>
 (h hs D ι w vs S U A).mono fun _ _ ⟨r,g',n',D',ι',u,he,hk,rest⟩=>⟨r,g',n',D',ι',u,he,hK _ _ hk,rest⟩
def step (X:fK) (vo:bt) (N:Env->ax->Prop) (env:Env) (σ:ax):Prop:=
 if aI vo.guard env then fJ X false vo env σ fun v σ'=>N (upd env vo.dst v) σ' else N (upd env vo.dst .undef) σ
theorem qD (hK:qh X) {draw:Bool} {hid:List Nat} {site f:Nat} {args:List AV} {σ:ax} {n n':AV->ax->Prop} (hn:∀v σ',n v σ'->n' v σ') (hp:cH X draw hid site f args σ n):cH X draw hid site f args σ n':=by
 rcases hp with⟨r,h1,h2⟩|⟨h1,h2⟩|⟨h1,sz,rows,h2,h3⟩
 ·exact .inl ⟨r,h1,hn _ _ h2⟩
 ·exact .inr (.inl ⟨h1,hK _ _ _ _ _ hn h2⟩)
 ·exact .inr (.inr ⟨h1,sz,rows,h2,hn _ _ h3⟩)
theorem CY (hK:qh X) {draw:Bool} {o:bt} {env:Env} {σ:ax} {n n':AV->ax->Prop} (hn:∀v σ',n v σ'->n' v σ') (hp:fJ X draw o env σ n):fJ X draw o env σ n':=by
 unfold fJ at hp ⊢
 split at hp
 ·exact qD hK hn hp
 ·split at hp
  ·exact qD hK hn hp
  ·exact qD hK hn hp
  ·exact hp.elim
 ·split at hp
  ·exact hn _ _ hp
  ·exact hp.elim
 ·split at hp
  ·exact hn _ _ hp
  ·exact hp.elim
 ·split at hp
  ·exact hn _ _ hp
  ·exact hp.elim
 ·split at hp
  ·exact hn _ _ hp
  ·exact hp.elim
 ·split at hp
  ·exact hn _ _ hp
  ·exact hp.elim
 ·split at hp
  ·exact hn _ _ hp
  ·exact hn _ _ hp
  ·exact hp.elim
theorem jW (hK:qh X) {vo:bt} {N N':Env->ax->Prop} (h:∀e s,N e s->N' e s) {env:Env} {σ:ax} (hp:step X vo N env σ):step X vo N' env σ:=by
 unfold step at hp ⊢
 split at hp
 ·rename_i hw;rw[if_pos hw];exact CY hK (fun v σ'=>h _ _) hp
 ·rename_i hw;rw[if_neg hw];exact h _ _ hp
theorem H0 {env iV:Env} {vo:bt} {σ:ax} {n:AV->ax->Prop} (h:∀t∈vo.op.gH,env t=iV t) (hv:fJ X false vo env σ n):fJ X false vo iV σ n:=by
 unfold fJ at hv ⊢
 split at hv
 ·rename_i f args dK
  rw[dK]at h
  simp only[gz.gH]at h
  rw[<-map_congr h];exact hv
 ·rename_i x args dK
  rw[dK]at h
  simp only[gz.gH,List.mem_append]at h
  rw[<-map_congr (l:=args) fun t ht=>h t (.inr ht),<-bh (x:=x) fun t ht=>h t (.inl ht)];exact hv
 ·rw[<-gW h];exact hv
 ·rw[<-gW h];exact hv
 ·rw[<-gW h];exact hv
 ·rw[<-gW h];exact hv
 ·rw[<-gW h];exact hv
 ·rw[<-tx h];exact hv
theorem lY {x:bt} (hq:lh x=true) {N:Env->ax->Prop} {env:Env} {σ:ax}:step X x N env σ↔∃v g',GS X σ.next x env σ.get v g'/\N (upd env x.dst v) ⟨g',σ.next⟩:=by
 unfold lh at hq
 simp only[Bool.and_eq_true,Bool.not_eq_true',bne_iff_ne]at hq
 obtain⟨yH,uC⟩:=hq
 unfold step GS
 by_cases hw:aI x.guard env=true
 ·rw[if_pos hw]
  simp only[hw,if_true]
  unfold fJ
  split
  ·rename_i dK;simp[dK,gz.l6]at yH
  ·rename_i dK;simp[dK,gz.l6]at yH
  ·rename_i dK;simp[dK,gz.cls]at uC
  ·rename_i dK;simp[dK,gz.cls]at uC
  ·rename_i dK;simp[dK,gz.cls]at uC
  ·rename_i dK;simp[dK,gz.cls]at uC
  ·rename_i dK;simp[dK,gz.cls]at uC
  ·rename_i n1 n2 n3 n4 n5 n6 n7
   have hVS:∀v g',VS X σ.next x env σ.get v g'↔∃mr,eP x.op (dc env) (fY x.hid σ.next σ.get) ⟨x.site,σ.next⟩=some (v,mr)/\g'=jk σ.get ⟨x.site,σ.next⟩ mr:=fun v g'=>by
    unfold VS
    split
    ·rename_i hh;exact(n1 _ _ hh).elim
    ·rename_i hh;exact(n2 _ _ hh).elim
    ·rename_i hh;exact(n3 _ _ _ hh).elim
    ·rename_i hh;exact(n4 _ _ _ hh).elim
    ·rename_i hh;exact(n5 _ _ _ hh).elim
    ·rename_i hh;exact(n6 _ _ hh).elim
    ·rename_i hh;exact(n7 _ _ hh).elim
    ·exact Iff.rfl
   simp only[hVS]
   cases hz:eP x.op (dc env) (fY x.hid σ.next σ.get) ⟨x.site,σ.next⟩with
   |none=>
    exact⟨fun h=>h.elim,fun⟨v,g',⟨mr,h,_⟩,_⟩=>by cases h⟩
   |some p=>
    obtain⟨v,mr⟩:=p
    have key:∀(v':AV) (g':Rows),(∃QS,some (v,mr)=some (v',QS)/\g'=jk σ.get ⟨x.site,σ.next⟩ QS)↔v'=v/\g'=jk σ.get ⟨x.site,σ.next⟩ mr:=fun v' g'=>by
     constructor
     ·rintro⟨QS,h1,h2⟩
      injection h1 with h1;injection h1 with h1 h3
      subst h1;subst h3
      exact⟨rfl,h2⟩
     ·rintro⟨rfl,rfl⟩;exact⟨mr,rfl,rfl⟩
    have fin:(∃v' g',(∃QS,some (v,mr)=some (v',QS)/\g'=jk σ.get ⟨x.site,σ.next⟩ QS)/\N (upd env x.dst v') ⟨g',σ.next⟩)↔N (upd env x.dst v) ⟨jk σ.get ⟨x.site,σ.next⟩ mr,σ.next⟩:=by
     constructor
     ·rintro⟨v',g',h,hN⟩
      obtain⟨rfl,rfl⟩:=(key v' g').1 h
      exact hN
     ·intro hN;exact⟨v,_,(key _ _).2 ⟨rfl,rfl⟩,hN⟩
    cases mr with
    |none=>exact fin.symm
    |some r=>exact fin.symm
 ·rw[if_neg hw]
  simp only[if_neg hw]
  exact⟨fun h=>⟨_,_,⟨rfl,rfl⟩,h⟩,fun⟨v,g',⟨hv,hg⟩,h⟩=>by rw[hv,hg]at h;exact h⟩
def xv (x:bt) (env:Env) (v:AV):Prop:=if aI x.guard env then eP x.op (dc env) (fun _=>none) ⟨0,0⟩=some (v,none)else v=.undef
theorem wQ {x:bt} (hp:x.op.cls=.pure):lh x=true:=by
 unfold lh
 rw[hp]
 cases hc:x.op<;>simp[hc,gz.cls]at hp<;>rfl
theorem tC {x:bt} (hp:x.op.cls=.pure) {N:Env->ax->Prop} {env:Env} {σ:ax}:step X x N env σ↔∃v,xv x env v/\N (upd env x.dst v) σ:=by
 rw[lY (wQ hp)]
 unfold GS xv
 by_cases hw:aI x.guard env=true
 ·simp only[hw,if_true]
  constructor
  ·rintro⟨v,g',h,hN⟩
   obtain⟨rfl,dE⟩:=zm hp h
   refine⟨v,?_,hN⟩
   unfold VS at h
   split at h
   ·rename_i dK;rw[dK]at hp;simp[gz.cls]at hp
   ·rename_i dK;rw[dK]at hp;simp[gz.cls]at hp
   ·rename_i dK;rw[dK]at hp;simp[gz.cls]at hp
   ·rename_i dK;rw[dK]at hp;simp[gz.cls]at hp
   ·rename_i dK;rw[dK]at hp;simp[gz.cls]at hp
   ·rename_i dK;rw[dK]at hp;simp[gz.cls]at hp
   ·rename_i dK;rw[dK]at hp;simp[gz.cls]at hp
   ·obtain⟨mr,hq,_⟩:=h
    have Vj:mr=none:=by
     cases mr with
     |none=>rfl
     |some r=>have:=wS hq;simp[qW,hp]at this
    subst Vj
    rw[<-wT (g:=fY x.hid σ.next σ.get) (id:=⟨x.site,σ.next⟩) hp];exact hq
  ·rintro⟨v,h,hN⟩
   exact⟨v,σ.get,N4 (mr:=none) (by rw[wT (g2:=fun _=>none) (id2:=⟨0,0⟩) hp];exact h),hN⟩
 ·simp only[if_neg hw]
  exact⟨fun⟨v,g',⟨hv,hg⟩,h⟩=>⟨v,hv,by rw[hg]at h;exact h⟩,fun⟨v,hv,h⟩=>⟨v,σ.get,⟨hv,rfl⟩,h⟩⟩
theorem KV {x:bt} {env iV:Env} {v:AV} (h:∀t∈x.gH,env t=iV t) (hv:xv x env v):xv x iV v:=by
 unfold xv at hv ⊢
 rw[<-nC h,<-tx fun t ht=>h t (sC ht)];exact hv
structure Nk (x y:bt):Prop where
 xy:∀k,x.dst=some k->k∉y.gH
 yx:∀k,y.dst=some k->k∉x.gH
 dst:∀k,x.dst=some k->y.dst≠some k
theorem sK {x y:bt} (h:tF x y=true):Nk x y:=by
 unfold tF at h
 simp only[Bool.and_eq_true]at h
 obtain⟨a1,a2⟩:=h
 refine⟨fun k hk=>?_,fun k hk=>?_,fun k hk=>?_⟩
 ·rw[hk]at a1;simp at a1;exact a1.1
 ·rw[hk]at a2;simpa using a2
 ·rw[hk]at a1;simp at a1;exact a1.2
theorem yu {x y:bt} (h:yq x y=true):(Nk x y/\x.op.cls=.pure)∨(Df x y/\lh x=true/\lh y=true):=by
 unfold yq at h
 simp only[Bool.or_eq_true,Bool.and_eq_true,beq_iff_eq]at h
 rcases h with⟨h1,h2⟩|⟨⟨h1,h2⟩,h3⟩
 ·exact .inl ⟨sK h1,h2⟩
 ·exact .inr ⟨qJ h1,h2,h3⟩
theorem BI {x y:bt} (h:yq x y=true):lh x=true:=by
 rcases yu h with h|h
 ·exact wQ h.2
 ·exact h.2.1
theorem HJ (hK:qh X) {x y:bt} (hf:yq x y=true) {N:Env->ax->Prop} {env:Env} {σ:ax} (h:step X x (fun e s=>step X y N e s) env σ):step X y (fun e s=>step X x N e s) env σ:=by
 rcases yu hf with⟨F,hp⟩|⟨F,hx,hy⟩
 ·rw[tC hp]at h
  obtain⟨v,hx,h⟩:=h
  have Lf:=fun(v':AV)=>xo (env:=env) (v:=v) (u:=v') F.dst
  have xx:=mN (env:=env) (v:=v) F.xy
  have back:∀(v':AV),xv x (upd env y.dst v') v:=fun v'=>KV (fun t ht=>(mN F.yx t ht).symm) hx
  unfold step at h ⊢
  rw[nC xx]at h
  split at h
  ·rename_i hw
   rw[if_pos hw]
   refine CY hK (fun v' σ' hN=>?_) (H0 (fun t ht=>xx t (sC ht)) h)
   rw[Lf]at hN
   exact(tC hp).2 ⟨v,back v',hN⟩
  ·rename_i hw
   rw[if_neg hw]
   rw[Lf]at h
   exact(tC hp).2 ⟨v,back _,h⟩
 ·rw[lY hx]at h
  obtain⟨v,g1,h1,h⟩:=h
  rw[lY hy]at h
  obtain⟨v',g2,h2,h⟩:=h
  obtain⟨LH,q1,q2,q3⟩:=Fe F h1 h2
  rw[q3]at h
  exact(lY hy).2 ⟨v',LH,q1,(lY hx).2 ⟨v,g2,q2,h⟩⟩
def AJ (X:fK) (ops:Array Oper) (vl:List bt) (K:Env->ax->Prop):Nat->Array Bool->Env->ax->Prop
 |0,listed,env,σ=>Region.ready .any ops listed=[]/\K env ⟨σ.get,σ.next+1⟩
 |f+1,listed,env,σ=>(Region.ready .any ops listed=[]->K env ⟨σ.get,σ.next+1⟩)/\∀i∈Region.ready .any ops listed,∃vo,vl[i]? =some vo/\step X vo (fun e s=>AJ X ops vl K f (listed.setIfInBounds i true) e s) env σ
theorem DH {ops:Array Oper} {vl:List bt} {bs:Array Nat} {listed:Array Bool} {i:Nat} (h:qI ops vl bs listed i=true) (j:Nat):qI ops vl bs (listed.setIfInBounds j true) i=true:=by
 unfold qI at h ⊢
 split at h
 ·rename_i x hx
  simp only[List.all_eq_true,Bool.or_eq_true]at h ⊢
  intro k hk
  rcases h k hk with((h|h)|h)|h
  ·exact .inl (.inl (.inl (getD_set_true h)))
  ·exact .inl (.inl (.inr h))
  ·exact .inl (.inr h)
  ·exact .inr h
 ·cases h
theorem tP {ops:Array Oper} {vl:List bt} {listed:Array Bool} {i j:Nat} {vi:bt} (sN:DC ops listed) (h:qI ops vl (jD ops) listed i=true) (hi:vl[i]? =some vi) (hr:i∈Region.ready .any ops listed) (hj:j∈Region.ready .any ops listed) (mO:j≠i):∃vj,vl[j]? =some vj/\yq vi vj=true:=by
 unfold qI at h
 rw[hi]at h
 simp only[List.all_eq_true,Bool.or_eq_true,beq_iff_eq]at h
 obtain⟨_,o,ho,_⟩:=mem_ready.1 hj
 rcases h j (List.mem_range.2 (Array.getElem?_eq_some_iff.1 ho).1)with((h|h)|h)|h
 ·rw[je hj]at h;cases h
 ·exact absurd h mO
 ·have:=lk sN hj i h
  rw[je hr]at this;cases this
 ·split at h
  ·rename_i y hy;exact⟨y,hy,h⟩
  ·cases h
theorem E9 (hK:qh X) {ops:Array Oper} {vl:List bt} {K:Env->ax->Prop} {i:Nat} {vi:bt} (hi:vl[i]? =some vi):∀(fuel:Nat) (listed:Array Bool) (env:Env) (σ:ax),
  DC ops listed->i∈Region.ready .any ops listed->qI ops vl (jD ops) listed i=true->step X vi (fun e s=>AJ X ops vl K fuel (listed.setIfInBounds i true) e s) env σ->AJ X ops vl K (fuel+1) listed env σ:=by
 intro fuel
 induction fuel with
 |zero=>
  intro listed env σ sN hr mz H
  refine⟨fun h=>(by rw[h]at hr;cases hr),fun j hj=>?_⟩
  by_cases mO:j=i
  ·subst mO;exact⟨vi,hi,H⟩
  ·obtain⟨vj,Ma,RG⟩:=tP sN mz hi hr hj mO
   rw[lY (BI RG)]at H
   obtain⟨v,g',_,H⟩:=H
   have:=ready_mono hj mO
   rw[H.1]at this;cases this
 |succ fuel ih=>
  intro listed env σ sN hr mz H
  refine⟨fun h=>(by rw[h]at hr;cases hr),fun j hj=>?_⟩
  by_cases mO:j=i
  ·subst mO;exact⟨vi,hi,H⟩
  ·obtain⟨vj,Ma,RG⟩:=tP sN mz hi hr hj mO
   refine⟨vj,Ma,?_⟩
   have H2:step X vi (fun e s=>step X vj (fun e s=>AJ X ops vl K fuel ((listed.setIfInBounds i true).setIfInBounds j true) e s) e s) env σ:=jW hK (fun e s h=>by
    obtain⟨vj',zS,h'⟩:=h.2 j (ready_mono hj mO)
    rw[Ma]at zS;injection zS with zS;subst zS
    exact h') H
   refine jW hK (fun e s h=>?_) (HJ hK RG H2)
   refine ih _ _ _ (sN.list hj) (ready_mono hr (fun e=>mO e.symm)) (DH mz j) ?_
   rw[Array.setIfInBounds_comm _ _ mO]
   exact h
theorem tA {x:bt} (hg:x.guard=none) {N:Env->ax->Prop} {env:Env} {σ:ax}:step X x N env σ=fJ X false x env σ (fun v σ'=>N (upd env x.dst v) σ'):=by
 unfold step
 rw[hg]
 simp[aI]
theorem ES {x y:bt} {t s sz:Nat} {ys:O} (hx:x.op=.append sz (.t t) ys) (hg:x.guard=none) (hf:FD s x y=true) {N:Env->ax->Prop} {env:Env} {σ:ax} (hl:Ms t s ys env σ.next) (h:step X x (fun e s=>step X y N e s) env σ):
  step X y (fun e σ'=>Ms t s ys e σ'.next/\step X x N e σ') env σ:=by
 unfold FD at hf
 simp only[Bool.and_eq_true,bne_iff_ne]at hf
 obtain⟨⟨⟨⟨⟨f1,hq⟩,f3⟩,f4⟩,f5⟩,f6⟩:=hf
 have F:=sK f1
 obtain⟨⟨len,ht⟩,hsrc⟩:=hl
 have JG:∀k∈x.op.gH,∀v',upd env y.dst v' k=env k:=fun k hk v'=>mN (env:=env) (v:=v') F.yx k (sC hk)
 have dQ:t∈x.op.gH:=by rw[hx];simp[gz.gH,gP]
 have Dc:∀v',dc (upd env y.dst v') ys=dc env ys:=fun v'=>(bh fun k hk=>by rw[JG k (by rw[hx];simp[gz.gH,hk])]).symm
 rw[tA hg]at h
 unfold fJ at h
 simp only[hx,fZ]at h
 have ex:dc env (.t t)=.own ⟨s,σ.next⟩ 0 len:=ht
 rw[ex]at h
 cases hr:bp σ.get (dc env ys)with
 |none=>rw[hr]at h;exact h.elim
 |some rs=>
  rw[hr]at h
  simp only[Option.bind_some,aW]at h
  cases Jr:σ.get ⟨s,σ.next⟩with
  |none=>rw[Jr]at h;exact h.elim
  |some r=>
   rw[Jr]at h
   simp only[Option.bind_some]at h
   split at h
   ·rename_i v g1 hv
    split at hv
    ·rename_i hcond
     simp only[Option.some.injEq,Prod.mk.injEq]at hv
     obtain⟨rfl,rfl⟩:=hv
     rw[lY hq]at h
     obtain⟨v',g2,hG,hN⟩:=h
     have LZ:(⟨y.site,σ.next⟩:Id)≠⟨s,σ.next⟩:=fun e=>f5 (by injection e)
     have Jy:(⟨y.site,σ.next⟩:Id)≠⟨x.site,σ.next⟩:=fun e=>f6 (by injection e)
     replace hG:GS X σ.next y env (bR (cq σ.get ⟨s,σ.next⟩) ⟨x.site,σ.next⟩ ⟨true,sz,r.rows++rs⟩) v' g2:=vg (mN F.xy) hG
     have VD:fY y.hid σ.next σ.get=fY y.hid σ.next (bR (cq σ.get ⟨s,σ.next⟩) ⟨x.site,σ.next⟩ ⟨true,sz,r.rows++rs⟩):=by
      cases hh:y.hid with
      |nil=>rw[hh]at f3;simp at f3
      |cons a l=>
       rw[hh]at f3 f4
       funext i
       show(if (a::l).contains i.site=true/\i.bj=σ.next then none else σ.get i)=if (a::l).contains i.site=true/\i.bj=σ.next then none else _
       by_cases h1:i=⟨x.site,σ.next⟩
       ·subst h1;rw[if_pos ⟨f4,rfl⟩,if_pos ⟨f4,rfl⟩]
       ·by_cases h2:i=⟨s,σ.next⟩
        ·subst h2;rw[if_pos ⟨f3,rfl⟩,if_pos ⟨f3,rfl⟩]
        ·simp only[bR,cq,if_neg h1,if_neg h2]
     obtain⟨my,OS,hG'⟩:∃my,g2=jk (bR (cq σ.get ⟨s,σ.next⟩) ⟨x.site,σ.next⟩ ⟨true,sz,r.rows++rs⟩) ⟨y.site,σ.next⟩ my/\GS X σ.next y env σ.get v' (jk σ.get ⟨y.site,σ.next⟩ my):=by
      unfold GS at hG ⊢
      by_cases wy:aI y.guard env=true
      ·rw[if_pos wy]at hG
       have hcw:y.op.cls≠.write:=by
        unfold lh at hq
        simp only[Bool.and_eq_true,bne_iff_ne]at hq
        exact hq.2
       obtain⟨my,rfl,_,N9⟩:=vz hcw hG
       exact⟨my,rfl,by rw[if_pos wy];exact N9 _ VD⟩
      ·rw[if_neg wy]at hG
       obtain⟨rfl,rfl⟩:=hG
       exact⟨none,rfl,by rw[if_neg wy];exact⟨rfl,rfl⟩⟩
     subst OS
     refine(lY hq).2 ⟨v',_,hG',⟨⟨len,by rw[JG t dQ];exact ht⟩,fun id o l he=>hsrc id o l (by rw[<-Dc v'];exact he)⟩,?_⟩
     rw[tA hg]
     unfold fJ
     have ex':dc (upd env y.dst v') (.t t)=.own ⟨s,σ.next⟩ 0 len:=by
      show upd env y.dst v' t= _
      rw[JG t dQ];exact ht
     simp only[hx,fZ,ex',Dc v']
     have ot:bp (jk σ.get ⟨y.site,σ.next⟩ my) (dc env ys)=some rs:=by
      cases my with
      |none=>exact hr
      |some row=>
       revert hr
       cases hev:dc env ys<;>simp only[bp,jk]<;>try exact fun h=>h
       rename_i id o l
       have:id≠⟨y.site,σ.next⟩:=fun e=>hsrc id o l hev (by rw[e])
       simp only[bR,if_neg this];exact fun h=>h
     have U8:jk σ.get ⟨y.site,σ.next⟩ my ⟨s,σ.next⟩=some r:=by
      cases my with
      |none=>exact Jr
      |some row=>simp only[jk,bR,if_neg (fun e=>LZ e.symm:(⟨s,σ.next⟩:Id)≠⟨y.site,σ.next⟩)];exact Jr
     rw[ot]
     simp only[Option.bind_some,aW,U8]
     rw[if_pos hcond]
     have RJ:bR (cq (jk σ.get ⟨y.site,σ.next⟩ my) ⟨s,σ.next⟩) ⟨x.site,σ.next⟩ ⟨true,sz,r.rows++rs⟩=jk (bR (cq σ.get ⟨s,σ.next⟩) ⟨x.site,σ.next⟩ ⟨true,sz,r.rows++rs⟩) ⟨y.site,σ.next⟩ my:=by
      cases my with
      |none=>rfl
      |some row=>
       funext i
       simp only[jk,bR,cq]
       by_cases h1:i=⟨y.site,σ.next⟩
       ·subst h1;rw[if_neg Jy,if_neg LZ,if_pos rfl,if_pos rfl]
       ·simp only[if_neg h1]
     have hu:=xo (env:=env) (v:=AV.own ⟨x.site,σ.next⟩ 0 (len+rs.length)) (u:=v') F.dst
     show N (upd (upd env y.dst v') x.dst (.own ⟨x.site,σ.next⟩ 0 (len+rs.length))) ⟨bR (cq (jk σ.get ⟨y.site,σ.next⟩ my) ⟨s,σ.next⟩) ⟨x.site,σ.next⟩ ⟨true,sz,r.rows++rs⟩,σ.next⟩
     rw[RJ,<-hu]
     exact hN
    ·cases hv
   ·exact h.elim
theorem DG {ops:Array Oper} {vl:List bt} {bs:Array Nat} {listed:Array Bool} {i s:Nat} (h:oR ops vl bs listed i s=true) (j:Nat):oR ops vl bs (listed.setIfInBounds j true) i s=true:=by
 unfold oR at h ⊢
 split at h
 ·rename_i x hx
  simp only[List.all_eq_true,Bool.or_eq_true]at h ⊢
  intro k hk
  rcases h k hk with((h|h)|h)|h
  ·exact .inl (.inl (.inl (getD_set_true h)))
  ·exact .inl (.inl (.inr h))
  ·exact .inl (.inr h)
  ·exact .inr h
 ·cases h
theorem BF {ops:Array Oper} {vl:List bt} {listed:Array Bool} {i j s:Nat} {vi:bt} (sN:DC ops listed) (h:oR ops vl (jD ops) listed i s=true) (hi:vl[i]? =some vi) (hr:i∈Region.ready .any ops listed) (hj:j∈Region.ready .any ops listed) (mO:j≠i):∃vj,vl[j]? =some vj/\FD s vi vj=true:=by
 unfold oR at h
 rw[hi]at h
 simp only[List.all_eq_true,Bool.or_eq_true,beq_iff_eq]at h
 obtain⟨_,o,ho,_⟩:=mem_ready.1 hj
 rcases h j (List.mem_range.2 (Array.getElem?_eq_some_iff.1 ho).1)with((h|h)|h)|h
 ·rw[je hj]at h;cases h
 ·exact absurd h mO
 ·have:=lk sN hj i h
  rw[je hr]at this;cases this
 ·split at h
  ·rename_i y hy;exact⟨y,hy,h⟩
  ·cases h
theorem CZ (hK:qh X) {ops:Array Oper} {vl:List bt} {K:Env->ax->Prop} {i t s sz:Nat} {ys:O} {vi:bt} (hi:vl[i]? =some vi) (hx:vi.op=.append sz (.t t) ys) (hg:vi.guard=none):∀(fuel:Nat) (listed:Array Bool) (env:Env) (σ:ax),
  DC ops listed->i∈Region.ready .any ops listed->oR ops vl (jD ops) listed i s=true->Ms t s ys env σ.next->step X vi (fun e s=>AJ X ops vl K fuel (listed.setIfInBounds i true) e s) env σ->AJ X ops vl K (fuel+1) listed env σ:=by
 intro fuel
 induction fuel with
 |zero=>
  intro listed env σ sN hr mz QC H
  refine⟨fun h=>(by rw[h]at hr;cases hr),fun j hj=>?_⟩
  by_cases mO:j=i
  ·subst mO;exact⟨vi,hi,H⟩
  ·exfalso
   have h0:=ready_mono hj mO
   rw[tA hg]at H
   unfold fJ at H
   simp only[hx]at H
   split at H
   ·rw[H.1]at h0;cases h0
   ·exact H
 |succ fuel ih=>
  intro listed env σ sN hr mz QC H
  refine⟨fun h=>(by rw[h]at hr;cases hr),fun j hj=>?_⟩
  by_cases mO:j=i
  ·subst mO;exact⟨vi,hi,H⟩
  ·obtain⟨vj,Ma,RG⟩:=BF sN mz hi hr hj mO
   refine⟨vj,Ma,?_⟩
   have H2:step X vi (fun e s=>step X vj (fun e s=>AJ X ops vl K fuel ((listed.setIfInBounds i true).setIfInBounds j true) e s) e s) env σ:=jW hK (fun e s h=>by
    obtain⟨vj',zS,h'⟩:=h.2 j (ready_mono hj mO)
    rw[Ma]at zS;injection zS with zS;subst zS
    exact h') H
   refine jW hK (fun e s h=>?_) (ES hx hg RG QC H2)
   refine ih _ _ _ (sN.list hj) (ready_mono hr (fun e=>mO e.symm)) (DG mz j) h.1 ?_
   rw[Array.setIfInBounds_comm _ _ mO]
   exact h.2
theorem JS {ops:Array Oper} {vl:List bt} {bs:Array Nat} {listed:Array Bool} {i i' t s:Nat} {y:O} {vo:bt} (h:Py ops vl bs listed i=some (i',t,s,y,vo)):i'=i/\vl[i]? =some vo/\(∃sz,vo.op=.append sz (.t t) y)/\vo.guard=none/\oR ops vl bs listed i s=true:=by
 unfold Py at h
 split at h
 ·rename_i x hx
  split at h
  ·rename_i t' s' y' ke
   split at h
   ·rename_i hf
    simp only[Option.some.injEq,Prod.mk.injEq]at h
    obtain⟨rfl,rfl,rfl,rfl,rfl⟩:=h
    unfold NO at ke
    split at ke
    ·rename_i sz t2 y2 ho sO
     split at ke
     ·simp only[Option.some.injEq,Prod.mk.injEq]at ke
      obtain⟨rfl,rfl,rfl⟩:=ke
      exact⟨rfl,hx,⟨sz,ho⟩,sO,hf⟩
     ·cases ke
    ·cases ke
   ·cases h
  ·cases h
 ·cases h
theorem yg {X:fK} {Q:Ex->Env->ax->Prop} {env:Env} {σ:ax}:∀{l:List VC} {t:VC},Bn l=some t->eu X t Q env σ->∀c∈l,eu X c Q env σ
 |[],t,h,_,c,hc=>by cases hc
 |[c0],t,h,hw,c,hc=>by
  simp only[Bn,Option.some.injEq]at h
  subst h
  rw[List.mem_singleton]at hc
  subst hc;exact hw
 |c0::c1::r,t,h,hw,c,hc=>by
  simp only[Bn,Option.map_eq_some_iff]at h
  obtain⟨t',Ig,rfl⟩:=h
  rcases List.mem_cons.1 hc with rfl|hc
  ·exact hw.1
  ·exact yg Ig hw.2 c hc
theorem mapM_mem {α β:Type} {f:α->Option β}:∀{l:List α} {r:List β},l.mapM f=some r->∀i∈l,∃b∈r,f i=some b
 |[],_,_,i,hi=>by cases hi
 |a::l,r,h,i,hi=>by
  simp only[List.mapM_cons,Option.bind_eq_bind,Option.bind_eq_some_iff,Option.pure_def,Option.some.injEq]at h
  obtain⟨b,hb,r',hr,rfl⟩:=h
  rcases List.mem_cons.1 hi with rfl|hi
  ·exact⟨b,by simp,hb⟩
  ·obtain⟨c,hc,hf⟩:=mapM_mem hr i hi
   exact⟨c,List.mem_cons_of_mem _ hc,hf⟩
theorem HW (hK:qh X) {ops:Array Oper} {vl:List bt} {Q:Ex->Env->ax->Prop}:∀(n:Nat) (listed:Array Bool) (t:VC) (env:Env) (σ:ax),xn ops vl (jD ops) n listed=some t->DC ops listed->eu X t Q env σ->AJ X ops vl (Q .normal) n listed env σ:=by
 intro n
 induction n with
 |zero=>
  intro listed t env σ h _ hw
  unfold xn at h
  split at h
  ·rename_i hr
   simp only[Option.some.injEq]at h
   subst h
   exact⟨hr,hw⟩
  ·cases h
 |succ n ih=>
  intro listed t env σ h sN hw
  unfold xn at h
  split at h
  ·rename_i hr
   simp only[Option.some.injEq]at h
   subst h
   exact⟨fun _=>hw,fun i hi=>by rw[hr]at hi;cases hi⟩
  ·rename_i r rs hr
   dsimp only at h
   split at h
   ·rename_i i hfind
    have Js:=List.mem_of_find?_eq_some hfind
    have yz:=List.find?_some hfind
    rw[<-hr]at Js
    split at h
    ·rename_i vo kS
     simp only[Option.map_eq_some_iff]at h
     obtain⟨t',Ig,rfl⟩:=h
     exact E9 hK kS n listed env σ sN Js yz (jW hK (fun e s h=>ih _ _ _ _ Ig (sN.list Js) h) hw)
    ·cases h
   ·split at h
    ·rename_i i t s y vo hfind
     obtain⟨i0,Ic,dV⟩:=List.exists_of_findSome?_eq_some hfind
     obtain⟨rfl,kS,⟨sz,dK⟩,sO,G0⟩:=JS dV
     rw[<-hr]at Ic
     simp only[Option.map_eq_some_iff]at h
     obtain⟨t',Ig,rfl⟩:=h
     exact CZ hK kS dK sO n listed env σ sN Ic G0 hw.1 (jW hK (fun e s h=>ih _ _ _ _ Ig (sN.list Ic) h) hw.2)
    split at h
    ·rename_i l hl
     have dE:=yg h hw
     refine⟨fun h=>(by rw[h]at hr;cases hr),fun i hi=>?_⟩
     rw[hr]at hi
     obtain⟨b,H9,BR⟩:=mapM_mem hl i hi
     simp only[Option.bind_eq_some_iff,Option.map_eq_some_iff]at BR
     obtain⟨vo,kS,t',Ig,rfl⟩:=BR
     exact⟨vo,kS,jW hK (fun e s h=>ih _ _ _ _ Ig (sN.list (by rw[hr];exact hi)) h) (dE _ H9)⟩
    ·cases h
theorem E6 {ops:Array Oper} {vl:List bt} {nt site0:Nat} {draw mk:Bool} {bs:Array Nat} {hidden:List (Nat×Bool)} {K:Env->ax->Prop} {Q:Exit->Act->World->Prop} (dE:allM (mu P ops nt site0 draw mk bs hidden) ops.toList 0=some vl):
  ∀(fuel:Nat) (listed:Array Bool) (env:Env) (σ:ax) (a:Act) (w:World) (D:Nat->Prop) (ι:Names) (U:Nat->Prop),AJ (Sound P) ops vl K fuel listed env σ->gy P hs D ι σ.get w->Used ι σ.next U->(∀s,U s->∃i,s=site0+i/\listed.getD i false=true)->cC P w D ι env a->a.tmps.size=nt->
  (∀iJ σ' a' w' D' ι',K iJ σ'->Step hs D ι w D' ι' w'->St P hs nt D' ι' iJ σ' a' w'->a'.defers=a.defers->σ.next<=σ'.next->Q .normal a' w')->wpAny P .any ops Q fuel listed a w:=by
 intro fuel
 induction fuel with
 |zero=>intro listed env σ a w D ι U h S Us hU E fh hQ;exact⟨h.1,hQ env _ a w D ι h.2 (Step.refl _ _ _ _) ⟨S,Us.next,E,fh⟩ rfl (Nat.le_succ _)⟩
 |succ fuel ih=>
  intro listed env σ a w D ι U h S Us hU E fh hQ
  refine⟨fun hr=>hQ env _ a w D ι (h.1 hr) (Step.refl _ _ _ _) ⟨S,Us.next,E,fh⟩ rfl (Nat.le_succ _),fun i hi=>?_⟩
  obtain⟨vo,kS,hG⟩:=h.2 i hi
  obtain⟨_,o,ho,_⟩:=mem_ready.1 hi
  obtain⟨vo',mD,Rx⟩:=(oJ dE).2 i o (by simpa using ho)
  rw[kS]at mD;injection mD with mD;subst mD
  rw[Nat.zero_add]at Rx
  obtain⟨hc,hd,B7,xK,hg⟩:=pz Rx
  have hw:=tH (ops:=ops) (vo:=vo) E hg
  have UJ:¬U vo.site:=fun hu=>by
   obtain⟨i',he,hl⟩:=hU _ hu
   have:i'=i:=by omega
   subst this
   rw[je hi]at hl;cases hl
  have jF:i<listed.size:=by
   have h0:=(mem_ready.1 hi).1
   rcases Nat.lt_or_ge i listed.size with h|h
   ·exact h
   ·simp[Array.getElem?_eq_none h]at h0
  unfold wpOp
  simp only[ho]
  rw[<-hw]
  unfold step at hG
  by_cases G6:aI vo.guard env=true
  ·rw[if_pos G6]
   rw[if_pos G6]at hG
   refine .inl (zg hc hG S Us UJ E fun v σ' u D' ι' w' hn T S' hR U' hle=>?_)
   refine ih _ _ _ _ w' D' ι' _ hn S' U' (fun s B4=>?_) (by rw[hd];exact nj (oQ E T) hR xK fh) (by rw[lg];exact fh) fun iJ σ2 a2 w2 D2 ι2 hk T2 Pm DV np=>hQ iJ σ2 a2 w2 D2 ι2 hk (T.trans T2) Pm (DV.trans (put_defers _ _ _)) (Nat.le_trans hle np)
   rcases B4 with h|h
   ·obtain⟨i',he,hl⟩:=hU _ h
    exact⟨i',he,getD_set_true hl⟩
   ·exact⟨i,by rw[h,B7],by simp[jF]⟩
  ·rw[if_neg G6]
   rw[if_neg G6]at hG
   refine ih _ _ _ _ w D ι U hG S Us (fun s B4=>?_) (by rw[hd];exact nj E dh.undef xK fh) (by rw[lg];exact fh) fun iJ σ2 a2 w2 D2 ι2 hk T2 Pm DV np=>hQ iJ σ2 a2 w2 D2 ι2 hk T2 Pm (DV.trans (put_defers _ _ _)) np
   obtain⟨i',he,hl⟩:=hU _ B4
   exact⟨i',he,getD_set_true hl⟩
end
end Go.Proofs.YtgoljkjaameagaaGreat.V

namespace Go.Proofs.YtgoljkjaameagaaGreat.V
open Go.RowKit
variable {P:Program} {w w':World} {D D' D2:Nat->Prop} {ι ι' ι2:Names}
def Dh (P:Program) (c:Code) (Q:Exit->Act->World->Prop) (a:Act) (w:World):Prop:=
 ∀(b:Frame) (k:List Item) (cs:List Frame),b.kind≠.early->∃e a' w',Q e a' w'/\Arrives P (lone (b.at a (.code c::k)) cs w) b k cs e a' w'
section
variable {Q:Exit->Act->World->Prop} {a:Act}
theorem tt {c:Code} (h:c.wp P Q a w):Dh P c Q a w:=fun b k cs _=>h b k cs
theorem F3 {x y:Code} (h:Dh P x (Exit.then (Dh P y Q) Q) a w):Dh P (.seq x y) Q a w:=by
 intro b k cs hb
 obtain⟨e,a1,w1,hq,jQ⟩:=h b (.code y::k) cs hb
 by_cases he:e=.normal
 ·subst he
  obtain⟨e2,a2,w2,uC,Jk⟩:=hq b k cs hb
  exact⟨e2,a2,w2,uC,.of_steps (.head step_seq jQ) Jk⟩
 ·refine⟨e,a1,w1,?_,.of_steps (.one step_seq) (.pass (x:=.code y) rfl (fun _ _=>.inl he) jQ)⟩
  cases e<;>first|exact absurd rfl he|exact hq
theorem J7 {c:Operand} {x y:Code} {t:Bool} (hc:a.eval c=.bool t) (h:Dh P (if t then x else y) Q a w):Dh P (.cond c x y) Q a w:=
 fun b k cs hb=>let ⟨e,a',w',q,r⟩:=h b k cs hb;⟨e,a',w',q,.of_steps (.one (step_cond hc)) r⟩
theorem Hv {id:Nat} {c:Code} (h:Dh P c (Exit.inBlock id Q) a w):Dh P (.block id c) Q a w:=by
 intro b k cs hb
 obtain⟨e,a1,w1,hq,jQ⟩:=h b (.inBlock id::k) cs hb
 cases e with
 |normal=>exact⟨.normal,a1,w1,hq,.head step_block (Steps.trans jQ (.one step_inBlock))⟩
 |exit k6=>
  by_cases hid:k6=id
  ·simp only[Exit.inBlock,hid,if_true]at hq
   exact⟨.normal,a1,w1,hq,.head step_block (jQ k (by simp[exitTo,hid]))⟩
  ·simp only[Exit.inBlock,hid,if_false]at hq
   exact⟨.exit k6,a1,w1,hq,fun k' hk=>.head step_block (jQ k' (by simp[exitTo,Ne.symm hid,hk]))⟩
 |goto l=>exact⟨_,a1,w1,hq,fun k' hk=>.head step_block (jQ k' (by simp[gotoIn,hk]))⟩
 |ret=>exact⟨_,a1,w1,hq,.of_steps (.one step_block) jQ⟩
 |panic ch=>exact⟨_,a1,w1,hq,.of_steps (.one step_block) jQ⟩
 |outgrown=>exact⟨_,a1,w1,hq,.of_steps (b:=b) (k:=k) (cs:=cs) (e:=.outgrown) (.one step_block) jQ⟩
def uU (P:Program) (c:Code) (Q:Exit->Act->World->Prop):Nat->Act->World->Prop
 |0=>fun _ _=>False
 |n+1=>Dh P c (Exit.then (uU P c Q n) Q)
theorem J8 {c:Code} (n:Nat) (h:uU P c Q n a w):Dh P (.loop c) Q a w:=by
 intro b k cs hb
 have key:∀n a w,uU P c Q n a w->∃e a' w',Q e a' w'/\Arrives P (lone (b.at a (.code c::.inLoop c::k)) cs w) b k cs e a' w':=by
  intro n
  induction n with
  |zero=>intro a w h;exact h.elim
  |succ n ih=>
   intro a w h
   obtain⟨e,a1,w1,hq,jQ⟩:=h b (.inLoop c::k) cs hb
   by_cases he:e=.normal
   ·subst he
    obtain⟨e2,a2,w2,uC,Jk⟩:=ih a1 w1 hq
    exact⟨e2,a2,w2,uC,.of_steps (Steps.trans jQ (.one step_inLoop)) Jk⟩
   ·refine⟨e,a1,w1,?_,.pass (x:=.inLoop c) rfl (fun _ _=>.inl he) jQ⟩
    cases e<;>first|exact absurd rfl he|exact hq
 obtain⟨e,a',w',hq,jQ⟩:=key n a w h
 exact⟨e,a',w',hq,.of_steps (.one step_loop) jQ⟩
theorem zw {f:FuncId} {fn:Func} {c:Code} {args:Array Value} {R:Ending->World->Prop} (hf:P.funcs[f]? =some fn) (hb:fn.body=some c)
  (h:Dh P c (bodyPost P fn R) {tmps:=args++Array.replicate (fn.ntmps-args.size) undef,defers:=[]} w):Calls P f args w R:=by
 intro cs
 have OR:Frame.enter P f args .normal=({(default:Frame)with fn:=f,kind:=.normal}:Frame).at {tmps:=args++Array.replicate (fn.ntmps-args.size) undef,defers:=[]} [.code c]:=by simp[Frame.enter,Frame.at,hf,hb]
 obtain⟨e,a',w',hq,jQ⟩:=h {(default:Frame)with fn:=f,kind:=.normal} [] cs (by simp)
 rw[<-OR]at jQ
 cases e with
 |normal=>obtain⟨hd,v,hr,hR⟩:=hq;exact⟨.returned v,w',_,hR,Steps.trans jQ (.one step_end),rfl,rfl,hd,rfl,fn,hf,hr⟩
 |ret=>obtain⟨hd,v,hr,hR⟩:=hq;obtain⟨todo,hs⟩:=jQ;exact⟨.returned v,w',_,hR,hs,rfl,rfl,hd,rfl,fn,hf,hr⟩
 |panic chain=>obtain⟨hd,hR⟩:=hq;obtain⟨todo,hs⟩:=jQ;exact⟨.panicked chain,w',_,hR,hs,rfl,rfl,hd,fn,hf⟩
 |exit id=>exact hq.elim
 |goto l=>exact hq.elim
 |outgrown=>exact⟨.outgrown,w',{(default:Frame)with fn:=f,kind:=.normal},hq,jQ.resolve_left (by simp),rfl,trivial⟩
def xD (P:Program) (ops:Array Oper) (Q:Exit->Act->World->Prop) (l:List Nat) (a:Act) (w:World):Prop:=
 ∀(b:Frame) (k:List Item) (cs:List Frame),b.kind≠.early->∃e a' w',Q e a' w'/\Arrives P (lone (b.at a (.inRegion ops l::k)) cs w) b k cs e a' w'
theorem Ez {id:Nat} {ops:Array Oper} (h:xD P ops Q (List.range ops.size) a w):Dh P (.region id ops false) Q a w:=
 fun b k cs hb=>let ⟨e,a',w',q,r⟩:=h b k cs hb;⟨e,a',w',q,.of_steps (.one step_region) r⟩
theorem PF {ops:Array Oper} (h:Q .normal a w):xD P ops Q [] a w:=fun _ _ _ _=>⟨.normal,a,w,h,.one step_region_end⟩
theorem po {o:Oper} {ys:Nat->Option Bool} (h:o.guard=none):Region.wanted o ys=true:=by simp[Region.wanted,h]
theorem Ke {ops:Array Oper} {i:Nat} {rest:List Nat} {o:Oper} {v:Value} (ho:ops[i]? =some o) (hg:o.guard=none) (hr:(execOp a.eval o).run P w=.ok (.value v) w') (h:xD P ops Q rest (a.put o.dst v) w'):xD P ops Q (i::rest) a w:=by
 intro b k cs hb
 obtain⟨e,a',w2,hq,jQ⟩:=h b k cs hb
 refine⟨e,a',w2,hq,.of_steps (.one ?_) jQ⟩
 have te:(b.at a (.inRegion ops (i::rest)::k)).finish v=b.at (a.put o.dst v) (.inRegion ops rest::k):=by rw[Frame.finish_at,ho];rfl
 rw[<-te]
 refine step_lone_go ?_
 have h2:=stepG_op (P:=P) (b:=b) (k:=k) (cs:=cs) (w:=w) (rest:=rest) ho (po hg (ys:=yielded ops a.tmps))
 rw[h2];simp[stepG.apply,hr]
theorem MI {ops:Array Oper} {i:Nat} {rest:List Nat} {o:Oper} {v z:Value} {c cap s r:Nat} {buf:Array Value} (ho:ops[i]? =some o) (hg:o.guard=none) (hr:(execOp a.eval o).run P w=.ok (.comm #[Conc.scase c v z] true .send) w)
  (hc:w.heap[c]? =some (.chan cap buf false s r false)) (ga:buf.size<cap) (h:xD P ops Q rest (a.put o.dst undef) (w.setChan c cap (buf.push v) false (s+1) r false)):xD P ops Q (i::rest) a w:=by
 intro b k cs hb
 obtain⟨e,a',w2,hq,jQ⟩:=h b k cs hb
 refine⟨e,a',w2,hq,.of_steps (.one ?_) jQ⟩
 have te:(b.at a (.inRegion ops (i::rest)::k)).finish undef=b.at (a.put o.dst undef) (.inRegion ops rest::k):=by rw[Frame.finish_at,ho];rfl
 rw[<-te,Conc.lone_eq_solo,Conc.lone_eq_solo]
 exact Conc.step_lone_send_room (Conc.stepG_comm ho (po hg) hb hr) hc ga
theorem MH {ops:Array Oper} {i:Nat} {rest:List Nat} {o:Oper} {z:Value} {c cap s r:Nat} {buf:Array Value} (ho:ops[i]? =some o) (hg:o.guard=none) (hr:(execOp a.eval o).run P w=.ok (.comm #[Conc.rcase c z] true (.recv false)) w)
  (hc:w.heap[c]? =some (.chan cap buf false s r false)) (B8:0<buf.size) (h:xD P ops Q rest (a.put o.dst (buf.getD 0 undef)) (w.setChan c cap (buf.extract 1 buf.size) false s (r+1) false)):xD P ops Q (i::rest) a w:=by
 intro b k cs hb
 obtain⟨e,a',w2,hq,jQ⟩:=h b k cs hb
 refine⟨e,a',w2,hq,.of_steps (.one ?_) jQ⟩
 have te:(b.at a (.inRegion ops (i::rest)::k)).finish (buf.getD 0 undef)=b.at (a.put o.dst (buf.getD 0 undef)) (.inRegion ops rest::k):=by rw[Frame.finish_at,ho];rfl
 rw[<-te,Conc.lone_eq_solo,Conc.lone_eq_solo]
 exact Conc.step_lone_recv_buf false (Conc.stepG_comm ho (po hg) hb hr) hc B8
end
section
variable {hs:Nat} {g:Rows} {env:Env} {a:Act} {o:Oper}
theorem Mj {x y:O} (hc:rn P o.op=some (.snd x y)):∃x' y',o.op=.send x' y'/\cO P x'=some x/\cO P y'=some y:=by
 unfold rn at hc
 split at hc
 case h_25=>
  rename_i x' y' h
  simp only[Option.bind_eq_bind,Option.bind_eq_some_iff,Option.pure_def,Option.some.injEq,gz.snd.injEq]at hc
  obtain⟨p,h1,q,h2,rfl,rfl⟩:=hc
  exact⟨_,_,h,h1,h2⟩
 all_goals (try unfold nK at hc)<;>(try unfold vH at hc)<;>(try unfold s6 at hc)<;>(repeat' (split at hc))<;>(simp only[Option.bind_eq_bind,Option.bind_eq_some_iff,Option.pure_def,Option.some.injEq,Option.map_eq_some_iff,reduceCtorEq,and_false,exists_false]at hc)
theorem Mi {x:O} (hc:rn P o.op=some (.PJ x)):∃t dir e i z x',o.op=.recv t x' false/\P.underlying t=some (.chan dir e)/\P.info? e=some i/\i.zero=some z/\cO P x'=some x:=by
 unfold rn at hc
 split at hc
 case h_26=>
  rename_i t x' h
  split at hc
  ·rename_i dir e ht
   split at hc
   ·rename_i z hz
    simp only[Option.bind_eq_some_iff]at hz
    obtain⟨i,hi,hz⟩:=hz
    simp only[Option.map_eq_some_iff,gz.PJ.injEq]at hc
    obtain⟨p,h1,rfl⟩:=hc
    exact⟨t,dir,e,i,z,x',h,ht,hi,hz,h1⟩
   ·cases hc
  ·cases hc
 all_goals (try unfold nK at hc)<;>(try unfold vH at hc)<;>(try unfold s6 at hc)<;>(repeat' (split at hc))<;>(simp only[Option.bind_eq_bind,Option.bind_eq_some_iff,Option.pure_def,Option.some.injEq,Option.map_eq_some_iff,reduceCtorEq,and_false,exists_false]at hc)
theorem Q9 {x y:O} {g':Rows} (S:gy P hs D ι g w) (hc:rn P o.op=some (.snd x y)) (E:cC P w D ι env a) (hv:ej g (dc env x) (dc env y)=some g'):
  ∃c cap s r buf u,(execOp a.eval o).run P w=.ok (.comm #[Conc.scase c u (.tuple #[])] true .send) w/\w.heap[c]? =some (.chan cap buf false s r false)/\buf.size<cap/\gy P hs D ι g' (w.setChan c cap (buf.push u) false (s+1) r false)/\Step hs D ι w D ι (w.setChan c cap (buf.push u) false (s+1) r false):=by
 obtain⟨x',y',ho,hx,hy⟩:=Mj hc
 have rx:=dp E hx
 have ry:=dp E hy
 unfold ej at hv
 split at hv
 ·rename_i i he
  simp only[Option.bind_eq_some_iff]at hv
  obtain⟨r,hg,hv⟩:=hv
  split at hv
  ·rename_i hcond
   simp only[Option.some.injEq]at hv
   subst hv
   obtain⟨B,c,hu,hB,hk,fh,buf,s,q,hb,K2,hR⟩:=zx S rx he hg
   obtain⟨B',dH,RR,_⟩:=S.row i r hg
   rw[hB]at dH;injection dH with dH;subst dH
   have oh:=S.HX (ob:=.chan c (buf.push (a.eval y')) false (s+1) q false) (r':={r with rows:=r.rows++[[dc env y]]}) hg hcond.1 hB fun hr k5=>⟨RR.sz,fun cs dw=>?_,fun h0=>(by rw[hk]at h0;cases h0),fun m hm=>(by rw[hk]at hm;cases hm),fun c' kz=>?_⟩
   ·exact⟨B.b,c,s,q,buf,a.eval y',by simp[execOp,ho,hu,Conc.scase],hb,by rw[K2];omega,oh.1,oh.2⟩
   ·rcases List.mem_append.1 dw with h|h
    ·exact RR.flat cs h
    ·rw[List.mem_singleton.1 h]
     intro b td
     rw[List.mem_singleton.1 td];exact hcond.2.2
   ·rw[hk]at kz
    simp only[Option.some.injEq,BK.chan.injEq]at kz
    subst kz
    refine⟨fh,_,_,_,k5,by simp[K2],fun j cs hj=>?_⟩
    rw[List.getElem?_append]at hj
    split at hj
    ·rename_i dV
     obtain⟨b,u,q1,q2,q3⟩:=hR j cs hj
     refine⟨b,u,q1,?_,hr _ _ q3⟩
     rw[Array.getElem?_push,if_neg (by omega)];exact q2
    ·rename_i qO
     have gM:j=r.rows.length:=by
      have:=(List.getElem?_eq_some_iff.1 hj).1
      simp at this;omega
     subst gM
     simp at hj
     subst hj
     exact⟨_,_,rfl,by rw[Array.getElem?_push,if_pos K2.symm],hr _ _ ry⟩
  ·cases hv
 ·cases hv
theorem Q8 {x:O} {g':Rows} {v:AV} (S:gy P hs D ι g w) (hc:rn P o.op=some (.PJ x)) (E:cC P w D ι env a) (hv:ei g (dc env x)=some (v,g')):
  ∃c cap s r buf z,(execOp a.eval o).run P w=.ok (.comm #[Conc.rcase c z] true (.recv false)) w/\w.heap[c]? =some (.chan cap buf false s r false)/\0<buf.size/\gy P hs D ι g' (w.setChan c cap (buf.extract 1 buf.size) false s (r+1) false)/\Step hs D ι w D ι (w.setChan c cap (buf.extract 1 buf.size) false s (r+1) false)/\dh P (w.setChan c cap (buf.extract 1 buf.size) false s (r+1) false) D ι v (buf.getD 0 undef):=by
 obtain⟨t,dir,e,i0,z,x',ho,ht,hi,hz,hx⟩:=Mi hc
 have rx:=dp E hx
 unfold ei at hv
 split at hv
 ·rename_i i he
  simp only[Option.bind_eq_some_iff]at hv
  obtain⟨r,hg,hv⟩:=hv
  split at hv
  ·rename_i v' rest rZ
   split at hv
   ·rename_i hcond
    simp only[Option.some.injEq,Prod.mk.injEq]at hv
    obtain⟨rfl,rfl⟩:=hv
    obtain⟨B,c,hu,hB,hk,fh,buf,s,q,hb,K2,hR⟩:=zx S rx he hg
    obtain⟨B',dH,RR,_⟩:=S.row i r hg
    rw[hB]at dH;injection dH with dH;subst dH
    obtain⟨b0,u0,q1,q2,q3⟩:=hR 0 [v'] (by rw[rZ];rfl)
    simp only[List.cons.injEq,and_true]at q1
    subst q1
    have lJ:0<buf.size:=by rw[K2,rZ];simp
    have TF:buf.getD 0 undef=u0:=by rw[Array.getD_eq_getD_getElem?,q2];rfl
    have oh:=S.HX (ob:=.chan c (buf.extract 1 buf.size) false s (q+1) false) (r':={r with rows:=rest}) hg hcond hB fun hr k5=>⟨RR.sz,fun cs dw=>RR.flat cs (by rw[rZ];exact List.mem_cons_of_mem _ dw),fun h0=>(by rw[hk]at h0;cases h0),fun m hm=>(by rw[hk]at hm;cases hm),fun c' kz=>?_⟩
    ·refine⟨B.b,c,s,q,buf,z,?_,hb,lJ,oh.1,oh.2,?_⟩
     ·have qm:(zeroValue e).run P w=.ok z w:=by simp[zeroValue,typeInfo,hi,hz]
      simp[execOp,ho,hu,Conc.rcase,run_underlying ht,qm]
     ·rw[TF];exact oh.2.rep q3
    ·rw[hk]at kz
     simp only[Option.some.injEq,BK.chan.injEq]at kz
     subst kz
     refine⟨fh,_,_,_,k5,by simp[K2,rZ],fun j cs hj=>?_⟩
     obtain⟨b,u,k1,k2,k3⟩:=hR (j+1) cs (by rw[rZ];simpa using hj)
     refine⟨b,u,k1,?_,hr _ _ k3⟩
     have dV:=(Array.getElem?_eq_some_iff.1 k2).1
     rw[Array.getElem?_extract,if_pos (by omega),Nat.add_comm 1 j];exact k2
   ·cases hv
  ·cases hv
 ·cases hv
theorem Gz {ops:Array Oper} {nt site0:Nat} {K:Env->ax->Prop} {Q:Exit->Act->World->Prop}:∀(l:List Oper) (vl:List bt) (j:Nat) (env:Env) (σ:ax) (a:Act) (w:World) (D:Nat->Prop) (ι:Names),
  ops.toList.drop j=l->allM (mu P ops nt site0 false false #[] []) l j=some vl->cF vl K env σ->gy P hs D ι σ.get w->Used ι σ.next (fun _=>False)->cC P w D ι env a->a.tmps.size=nt->
  (∀iJ σ' a' w' D' ι',K iJ σ'->Step hs D ι w D' ι' w'->St P hs nt D' ι' iJ σ' a' w'->a'.defers=a.defers->σ.next<=σ'.next->Q .normal a' w')->xD P ops Q (List.range' j l.length) a w:=by
 intro l
 induction l with
 |nil=>
  intro vl j env σ a w D ι _ h hv S Us E fh hQ
  simp[allM]at h;subst h
  exact PF (hQ env ⟨σ.get,σ.next+1⟩ a w D ι hv (Step.refl _ _ _ _) ⟨S,Us.next,E,fh⟩ rfl (Nat.le_succ _))
 |cons o l ih=>
  intro vl j env σ a w D ι hl h hv S Us E fh hQ
  simp only[allM,Option.bind_eq_bind,Option.bind_eq_some_iff,Option.pure_def,Option.some.injEq]at h
  obtain⟨vo,kS,tG,sS,rfl⟩:=h
  obtain⟨hc,hd,B7,xK,hg⟩:=pz kS
  obtain⟨RK,hv⟩:=hv
  have Pa:o.guard=none:=by
   split at hg
   ·assumption
   ·obtain⟨t,_,h⟩:=hg
    rw[RK]at h;cases h
  have Vq:ops[j]? =some o:=by
   have h0:=congrArg (fun x=>x[0]?) hl
   rw[<-Array.getElem?_toList]
   simpa[List.getElem?_drop]using h0
  have K8:ops.toList.drop (j+1)=l:=by rw[<-List.drop_drop,hl];rfl
  have go:∀(v:AV) (u:Value) (g2:Rows) (w2:World),cF tG K (upd env vo.dst v) ⟨g2,σ.next⟩->gy P hs D ι g2 w2->Step hs D ι w D ι w2->dh P w2 D ι v u->xD P ops Q (List.range' (j+1) l.length) (a.put o.dst u) w2:=fun v u g2 w2 hn S2 T hR=>
   ih tG (j+1) (upd env vo.dst v) ⟨g2,σ.next⟩ (a.put o.dst u) w2 D ι K8 sS hn S2 Us (by rw[hd];exact nj (oQ E T) hR xK fh) (by rw[lg];exact fh) fun iJ σ2 a' w3 D3 ι3 hk T2 N3 DV np=>hQ iJ σ2 a' w3 D3 ι3 hk (T.trans T2) N3 (DV.trans (put_defers _ _ _)) np
  rw[show List.range' j (o::l).length=j::List.range' (j+1) l.length from rfl]
  split at hv
  ·rename_i x y dK
   split at hv
   ·rename_i g2 QJ
    rw[dK]at hc
    obtain⟨c,cap,s,r,buf,u,gD,hb,ga,S2,T⟩:=Q9 S hc E QJ
    exact MI Vq Pa gD hb ga (go _ _ _ _ hv S2 T dh.undef)
   ·exact hv.elim
  ·rename_i x dK
   split at hv
   ·rename_i v g2 QJ
    rw[dK]at hc
    obtain⟨c,cap,s,r,buf,z,gD,hb,B8,S2,T,hR⟩:=Q8 S hc E QJ
    exact MH Vq Pa gD hb B8 (go _ _ _ _ hv S2 T hR)
   ·exact hv.elim
  ·split at hv
   ·rename_i v hq
    obtain⟨u,gD,hR⟩:=y6 hc hq S E
    exact Ke Vq Pa gD (go _ _ _ _ hv S (Step.refl _ _ _ _) hR)
   ·exact hv.elim
end
end Go.Proofs.YtgoljkjaameagaaGreat.V

namespace Go.Proofs.YtgoljkjaameagaaGreat.V
open Go.RowKit
variable {P:Program} {w w':World} {D D' D2:Nat->Prop} {ι ι' ι2:Names}
section
variable {hs:Nat} {X:fK}
def exO:Ex->Exit
 | .normal=>.normal
 | .exit id=>.exit id
 | .ret=>.ret
theorem St.drew {nt:Nat} {env:Env} {σ:ax} {a:Act} {D:Nat->Prop} {ι:Names} (h:St P hs nt D ι env σ a w):St P hs nt D ι env σ a w.drew/\Step hs D ι w D ι w.drew:=by
 have T:Step hs D ι w D ι w.drew:=Step.stay h.Lg (fun _ _=>rfl) (Nat.le_refl _) rfl rfl rfl (fun _ h=>h) (fun _ h=>.inl h) (fun _ _ h=>h)
 exact⟨⟨h.Lg.stay (fun _ _=>rfl) (Nat.le_refl _) (fun _ h=>h) h.Lg.dead (fun _ h=>.inl h) (fun _ _ h=>h),h.used,oQ h.env T,h.size⟩,T⟩
def vw (P:Program) (hs nt:Nat) (ds:List Deferred) (Q:Ex->Env->ax->Prop) (n0:Nat) (D:Nat->Prop) (ι:Names) (w:World) (Q':Exit->Act->World->Prop):Prop:=
 ∀ex env σ a w' D' ι',Q ex env σ->Step hs D ι w D' ι' w'->St P hs nt D' ι' env σ a w'->a.defers=ds->n0<=σ.next->Q' (exO ex) a w'
theorem vw.later {nt:Nat} {ds:List Deferred} {Q:Ex->Env->ax->Prop} {n0 n1:Nat} {Q':Exit->Act->World->Prop} (h:vw P hs nt ds Q n0 D ι w Q') (T:Step hs D ι w D' ι' w') (hn:n0<=n1):vw P hs nt ds Q n1 D' ι' w' Q':=
 fun ex env σ a w2 D2 ι2 hq T2 dQ hd hle=>h ex env σ a w2 D2 ι2 hq (T.trans T2) dQ hd (Nat.le_trans hn hle)
theorem vO (hm:P.follows .mixedOrders=true) {md:List (Nat×Nat)} {nt vR:Nat}:∀(c:Code) (vc:VC),jK P md nt vR c=some vc->∀(Q:Ex->Env->ax->Prop) (env:Env) (σ:ax) (a:Act) (w:World) (D:Nat->Prop) (ι:Names) (Q':Exit->Act->World->Prop),
  eu (Sound P) vc Q env σ->St P hs nt D ι env σ a w->vw P hs nt a.defers Q σ.next D ι w Q'->Dh P c Q' a w:=by
 intro c
 induction c with
 |skip=>
  intro vc h Q env σ a w D ι Q' hv dQ hQ
  simp[jK]at h;subst h
  exact tt <| wp_skip (hQ .normal env σ a w D ι hv (Step.refl _ _ _ _) dQ rfl (Nat.le_refl _))
 |exit id=>
  intro vc h Q env σ a w D ι Q' hv dQ hQ
  simp[jK]at h;subst h
  exact tt <| wp_exit (hQ (.exit id) env σ a w D ι hv (Step.refl _ _ _ _) dQ rfl (Nat.le_refl _))
 |ret=>
  intro vc h Q env σ a w D ι Q' hv dQ hQ
  simp[jK]at h;subst h
  exact tt <| wp_ret (hQ .ret env σ a w D ι hv (Step.refl _ _ _ _) dQ rfl (Nat.le_refl _))
 |seq x y ihx ihy=>
  intro vc h Q env σ a w D ι Q' hv dQ hQ
  simp only[jK,Option.bind_eq_bind,Option.bind_eq_some_iff,Option.pure_def,Option.some.injEq]at h
  obtain⟨vx,hx,vy,hy,rfl⟩:=h
  refine F3 (ihx vx hx _ env σ a w D ι _ hv dQ fun ex jE σ1 a1 w1 D1 ι1 hq T kg hd hle=>?_)
  cases ex with
  |normal=>exact ihy vy hy Q jE σ1 a1 w1 D1 ι1 Q' hq kg (by rw[hd];exact hQ.later T hle)
  |exit id=>exact hQ (.exit id) jE σ1 a1 w1 D1 ι1 hq T kg hd hle
  |ret=>exact hQ .ret jE σ1 a1 w1 D1 ι1 hq T kg hd hle
 |cond c x y ihx ihy=>
  intro vc h Q env σ a w D ι Q' hv dQ hQ
  simp only[jK,Option.bind_eq_bind,Option.bind_eq_some_iff,Option.pure_def,Option.some.injEq]at h
  obtain⟨c',hc,vx,hx,vy,hy,rfl⟩:=h
  unfold eu at hv
  have hr:=dp dQ.env hc
  split at hv
  ·rename_i b hb
   rw[hb]at hr
   refine J7 (fb hr) ?_
   cases b with
   |true=>exact ihx vx hx Q env σ a w D ι Q' hv dQ hQ
   |false=>exact ihy vy hy Q env σ a w D ι Q' hv dQ hQ
  ·exact hv.elim
 |block id c ih=>
  intro vc h Q env σ a w D ι Q' hv dQ hQ
  simp only[jK,Option.map_eq_some_iff]at h
  obtain⟨vx,hx,rfl⟩:=h
  refine Hv (ih vx hx _ env σ a w D ι _ hv dQ fun ex jE σ1 a1 w1 D1 ι1 hq T kg hd hle=>?_)
  cases ex with
  |normal=>exact hQ .normal jE σ1 a1 w1 D1 ι1 hq T kg hd hle
  |ret=>exact hQ .ret jE σ1 a1 w1 D1 ι1 hq T kg hd hle
  |exit k6=>
   simp only[bf]at hq
   simp only[exO,Exit.inBlock]
   by_cases hid:k6=id
   ·rw[if_pos hid]at hq ⊢;exact hQ .normal jE σ1 a1 w1 D1 ι1 hq T kg hd hle
   ·rw[if_neg hid]at hq ⊢;exact hQ (.exit k6) jE σ1 a1 w1 D1 ι1 hq T kg hd hle
 |loop c ih=>
  intro vc h Q env σ a w D ι Q' hv dQ hQ
  simp only[jK,Option.map_eq_some_iff]at h
  obtain⟨vx,hx,rfl⟩:=h
  obtain⟨n,hv⟩:=hv
  refine J8 n ?_
  have key:∀n env σ a w D ι,FY (eu (Sound P) vx) Q n env σ->St P hs nt D ι env σ a w->vw P hs nt a.defers Q σ.next D ι w Q'->uU P c Q' n a w:=by
   intro n
   induction n with
   |zero=>intro env σ a w D ι h;exact h.elim
   |succ n ihn=>
    intro env σ a w D ι h dQ hQ
    refine ih vx hx _ env σ a w D ι _ h dQ fun ex jE σ1 a1 w1 D1 ι1 hq T kg hd hle=>?_
    cases ex with
    |normal=>exact ihn jE σ1 a1 w1 D1 ι1 hq kg (by rw[hd];exact hQ.later T hle)
    |exit id=>exact hQ (.exit id) jE σ1 a1 w1 D1 ι1 hq T kg hd hle
    |ret=>exact hQ .ret jE σ1 a1 w1 D1 ι1 hq T kg hd hle
  exact key n env σ a w D ι hv dQ hQ
 |region id ops draw=>
  intro vc h Q env σ a w D ι Q' hv dQ hQ
  simp only[jK,Q7]at h
  split at h
  ·rename_i hmode
   have UY:draw=true:=by
    simp only[Bool.and_eq_true]at hmode;exact hmode.1
   subst UY
   split at h
   ·rename_i vl dE
    obtain⟨r4,T0⟩:=dQ.drew
    have DP:=HW (X:=Sound P) qu ops.size _ vc env σ h (fun k i h=>by
     exfalso
     rcases Nat.lt_or_ge k ops.size with hk|hk
     ·simp[hk]at h
     ·simp[Nat.not_lt.2 hk]at h) hv
    refine tt (wp_region_any hm ?_)
    exact E6 dE ops.size _ env σ a w.drew D ι (fun _=>False) DP r4.Lg r4.used (fun _ h=>h.elim) r4.env r4.size fun jE σ1 a1 w1 D1 ι1 hk T kg hd hle=>hQ .normal jE σ1 a1 w1 D1 ι1 hk (T0.trans T) kg hd hle
   ·cases h
  split at h
  ·rename_i hcom
   have UY:draw=false:=by
    simp only[Bool.and_eq_true,Bool.not_eq_true']at hcom;exact hcom.1
   subst UY
   simp only[Option.map_eq_some_iff]at h
   obtain⟨vl,sS,rfl⟩:=h
   have dE:allM (mu P ops nt ((vR*1000+id)*1000) false false #[] []) ops.toList 0=some vl:=by
    unfold rN at sS
    simp only[Bool.false_eq_true,if_false,Bool.not_false,Bool.true_or,if_true]at sS
    split at sS
    ·rename_i tG h;simp at sS;subst sS;exact h
    ·cases sS
   refine Ez ?_
   have:=Gz (Q:=Q') ops.toList vl 0 env σ a w D ι rfl dE hv dQ.Lg dQ.used dQ.env dQ.size fun jE σ1 a1 w1 D1 ι1 hk T kg hd hle=>hQ .normal jE σ1 a1 w1 D1 ι1 hk T kg hd hle
   rwa [<-List.range_eq_range',Array.length_toList]at this
  generalize (wI md id==1)=mk at h
  simp only[Option.map_eq_some_iff]at h
  obtain⟨vl,sS,rfl⟩:=h
  cases draw with
  |false=>
   have dE:∃tG,allM (mu P ops nt ((vR*1000+id)*1000) false mk #[] []) ops.toList 0=some tG/\vl=tG:=by
    unfold rN at sS
    simp only[Bool.false_eq_true,if_false,Bool.not_false,Bool.true_or,if_true]at sS
    split at sS
    ·rename_i tG h;simp at sS;exact⟨tG,h,sS.symm⟩
    ·cases sS
   obtain⟨tG,dE,rfl⟩:=dE
   refine tt (wp_region_list ?_)
   exact Hx ops.toList vl 0 env σ a w D ι (fun _=>False) dE hv dQ.Lg dQ.used (fun _ h=>h.elim) dQ.env dQ.size fun jE σ1 a1 w1 D1 ι1 hk T kg hd hle=>hQ .normal jE σ1 a1 w1 D1 ι1 hk T kg hd hle
  |true=>
   have dE:∃hidden tG,allM (mu P ops nt ((vR*1000+id)*1000) true mk (jD ops) hidden) ops.toList 0=some tG/\vl=tG/\oP ops tG (jD ops)=true:=by
    unfold rN at sS
    simp only[if_true,Bool.not_true,Bool.false_or]at sS
    split at sS
    ·rename_i tG h
     split at sS
     ·rename_i we;simp at sS;exact⟨_,tG,h,sS.symm,we⟩
     ·cases sS
    ·cases sS
   obtain⟨hidden,tG,dE,rfl,we⟩:=dE
   obtain⟨r4,T0⟩:=dQ.drew
   obtain⟨hlen,_⟩:=oJ dE
   have kZ:vl.length=ops.size:=by rw[hlen];simp
   have DP:=xp (X:=Sound P) (K:=Q .normal) (n:=σ.next) we kZ vl 0 (Array.replicate ops.size false) env σ.get (by simp) (by simp) (fun i hi=>by simp[hi]) (by simp[kZ]) (fun k i h=>by
    exfalso
    rcases Nat.lt_or_ge k ops.size with hk|hk
    ·simp[hk]at h
    ·simp[Nat.not_lt.2 hk]at h) hv
   refine tt (wp_region_any hm ?_)
   rw[kZ]at DP
   exact ya dE ops.size _ env σ.get a w.drew D ι (fun _=>False) DP r4.Lg r4.used (fun _ h=>h.elim) r4.env r4.size fun jE g1 a1 w1 D1 ι1 U1 hk T S1 T3 E1 yJ hd=>hQ .normal jE ⟨g1,σ.next+1⟩ a1 w1 D1 ι1 hk (T0.trans T) ⟨S1,T3.next,E1,yJ⟩ hd (Nat.le_succ _)
 |_=>
  intro vc h
  simp[jK]at h
def Ko (tmps:Array Value):ResultVar->Sem Value
 | .tmp t=>pure (tmps.getD t undef)
 | .cell a t=>do loadVar t (<-asAddr (tmps.getD a undef))
theorem EH (fn:Func) (tmps:Array Value):results fn tmps=(do
  let vs <-fn.results.mapM (Ko tmps)
  pure (if h:vs.size=1 then vs[0]else .tuple vs)):=by
 unfold results
 congr 2
theorem uh {nt:Nat} {env:Env} {σ:ax} {a:Act} {D:Nat->Prop} {ι:Names} (dQ:St P hs nt D ι env σ a w):∀(rs:List ResultVar) (vr:List oH) (vs:List AV),rs.mapM (Dt P)=some vr->fy env σ.get vr=some vs->
  ∃us:List Value,(rs.mapM (Ko a.tmps)).run P w=.ok us w/\us.length=vs.length/\∀(j:Nat) (v:AV),vs[j]? =some v->∃u,us[j]? =some u/\dh P w D ι v u
 |[],vr,vs,h,hv=>by
  simp at h;subst h
  simp[fy]at hv;subst hv
  exact⟨[],by simp,rfl,fun j v h=>by simp at h⟩
 |r::rs,vr,vs,h,hv=>by
  simp only[List.mapM_cons,Option.bind_eq_bind,Option.bind_eq_some_iff]at h
  obtain⟨x,hx,vr',hr,h⟩:=h
  simp at h;subst h
  simp only[fy,Option.bind_eq_some_iff,Option.map_eq_some_iff]at hv
  obtain⟨v,wg,VO,Mb,rfl⟩:=hv
  obtain⟨us,h1,h2,h3⟩:=uh dQ rs vr' VO hr Mb
  have one:∃u,(Ko a.tmps r).run P w=.ok u w/\dh P w D ι v u:=by
   cases r with
   |tmp t=>
    simp[Dt]at hx;subst hx
    simp[iv]at wg;subst wg
    exact⟨_,rfl,dQ.env t⟩
   |cell b t=>
    simp only[Dt,Option.bind_eq_bind,Option.bind_eq_some_iff,Option.pure_def,Option.some.injEq]at hx
    obtain⟨ag,uR,n,hn,rfl⟩:=hx
    simp only[iv]at wg
    have ia:=dQ.env b
    unfold ld at wg
    split at wg
    ·rename_i k6 i' oo hb
     rw[hb]at ia
     obtain⟨B,he,hB,hk⟩:=iU ia
     simp only[Option.bind_eq_some_iff]at wg
     obtain⟨cs,dw,hp⟩:=wg
     obtain⟨B',r0,Ib,dH,R,hi,fl,f,hf⟩:=Kr (S:=dQ.Lg) dw (fun B2 h2=>by rw[hB]at h2;injection h2 with h2;subst h2;exact hk)
     rw[hB]at dH;injection dH with dH;subst dH
     obtain⟨u,k1,k2⟩:=kQ (w:=w) (b:=B.b) (oo:=i'*B.sz+oo) (f:=fun j=>f (oo+j)) uR hn hp (fun a ha=>fl a (List.mem_of_mem_drop ha)) (fun j hj=>by
      rw[Nat.add_assoc];exact(hf _ (by simp at hj;omega)).1) (fun j a ha=>by
      simp at ha;exact(hf _ ((List.getElem?_eq_some_iff.1 ha).1)).2 _ ha)
     exact⟨u,by simp only[Ko,he,asAddr,Sem.run_bind,Sem.run_pure,Result.andThen_ok,k1],k2⟩
    ·rename_i cs hb
     rw[hb]at ia
     obtain⟨b',oo,vs2,he,q1,q2,q3,q4⟩:=lp ia
     obtain⟨u,k1,k2⟩:=kQ (w:=w) (b:=b') (oo:=oo) (f:=vs2) uR hn wg q2 q3 (fun j a ha=>.eS _ _ (q4 j a ha))
     exact⟨u,by simp only[Ko,he,asAddr,Sem.run_bind,Sem.run_pure,Result.andThen_ok,k1],k2⟩
    ·simp at wg
  obtain⟨u,hu,xO⟩:=one
  refine⟨u::us,?_,by simp[h2],fun j v' hj=>?_⟩
  ·rw[List.mapM_cons]
   simp only[Sem.run_bind,hu,h1,Result.andThen_ok,Sem.run_pure]
  ·cases j with
   |zero=>simp at hj;subst hj;exact⟨u,rfl,xO⟩
   |succ j=>simp at hj ⊢;exact h3 j v' hj
theorem vG {f:Nat} {fn:Func} {c:Code} {args:List AV} {σ:ax} {K:AV->ax->Prop} {vr:List oH} (Qw:P.funcs[f]? =some fn) (hc:fn.body=some c) (hr:fn.results.toList.mapM (Dt P)=some vr) (ha:fn.params.size+fn.nfree=args.length) (hle:fn.params.size+fn.nfree<=fn.ntmps)
  (h:∀(hs:Nat) (w:World) (D:Nat->Prop) (ι:Names) (a:Act) (Q':Exit->Act->World->Prop),St P hs fn.ntmps D ι (cz args) σ a w->vw P hs fn.ntmps a.defers (lq vr K) σ.next D ι w Q'->Dh P c Q' a w):Sound P f args σ K:=by
 intro hs D ι w vs S Us A
 have fh:vs.size=args.length:=A.1
 refine zw Qw hc ?_
 refine h hs w D ι _ _ ⟨S,Us,fun t=>?_,by simp;omega⟩ fun ex jE σ1 a1 w1 D1 ι1 hq T kg hd hle=>?_
 ·simp only[cz]
  by_cases dV:t<args.length
  ·obtain⟨u,hu,xO⟩:=A.2 t args[t] (List.getElem?_eq_getElem dV)
   have e1:args.getD t .undef=args[t]:=by simp[List.getD_eq_getElem?_getD,dV]
   have e2:(vs++Array.replicate (fn.ntmps-vs.size) undef).getD t undef=u:=by
    simp only[Array.getD_eq_getD_getElem?]
    rw[Array.getElem?_append_left (by omega),hu];rfl
   rw[e1,e2];exact xO
  ·have e1:args.getD t .undef=.undef:=by simp[List.getD_eq_getElem?_getD,Nat.le_of_not_lt dV]
   have e2:(vs++Array.replicate (fn.ntmps-vs.size) undef).getD t undef=undef:=by
    simp only[Array.getD_eq_getD_getElem?]
    rw[Array.getElem?_append_right (by omega),Array.getElem?_replicate]
    split<;>rfl
   rw[e1,e2];exact dh.undef
 ·have fin:(∃vs,fy jE σ1.get vr=some vs/\K (fm vs) σ1)->a1.defers=[]/\∃v,(results fn a1.tmps).run P w1=.ok v w1/\∃r g' n' D' ι' u,Ending.returned v=.returned u/\K r ⟨g',n'⟩/\Step hs D ι w D' ι' w1/\gy P hs D' ι' g' w1/\Used ι' n' (fun _=>False)/\σ.next<=n'/\dh P w1 D' ι' r u:=by
   rintro⟨avs,Mb,hK⟩
   obtain⟨us,h1,h2,h3⟩:=uh kg fn.results.toList vr avs hr Mb
   have Ph:(results fn a1.tmps).run P w1=.ok (if h:us.toArray.size=1 then us.toArray[0]else .tuple us.toArray) w1:=by
    rw[EH,Array.mapM_eq_mapM_toList]
    simp only[Sem.run_bind,Sem.run_map,h1,Result.andThen_ok,Sem.run_pure]
   refine⟨hd,_,Ph,fm avs,σ1.get,σ1.next,D1,ι1,_,rfl,hK,T,kg.Lg,kg.used,hle,?_⟩
   unfold fm
   split
   ·rename_i v
    have hl:us.length=1:=h2
    obtain⟨u,hu,xO⟩:=h3 0 v rfl
    rw[dif_pos (by simpa using hl)]
    have:us.toArray[0]'(by simp[hl])=u:=by
     have:=(List.getElem?_eq_some_iff.1 hu).2
     simpa using this
    rw[this];exact xO
   ·rename_i il
    rw[dif_neg (by
     simp only[List.size_toArray,h2]
     intro h
     obtain⟨v,hv⟩:=List.length_eq_one_iff.1 h
     exact il v hv)]
    exact .iD _ _ (fun j=>us.getD j undef) (by simp[h2]) (fun j hj=>by
     have:j<us.length:=by rw[h2];exact hj
     simp[this]) (fun j v hj=>by
     obtain⟨u,hu,xO⟩:=h3 j v hj
     simpa[List.getD_eq_getElem?_getD,hu]using xO)
  cases ex with
  |normal=>exact fin hq
  |ret=>exact fin hq
  |exit id=>exact hq.elim
theorem Jd (hm:P.follows .mixedOrders=true) {f:Nat} {md:List (Nat×Nat)} {vf:AP} {args:List AV} {σ:ax} {K:AV->ax->Prop} (hf:xG P f md=some vf) (ha:vf.yW=args.length) (h:eu (Sound P) vf.body (lq vf.res K) (cz args) σ):Sound P f args σ K:=by
 unfold xG at hf
 split at hf
 ·rename_i fn Qw
  split at hf
  ·rename_i c hc
   simp only[Option.bind_eq_bind,Option.bind_eq_some_iff]at hf
   obtain⟨vb,hb,vr,hr,hf⟩:=hf
   split at hf
   ·rename_i hle
    simp only[Option.pure_def,Option.some.injEq]at hf
    subst hf
    simp only at ha h
    exact vG Qw hc hr ha hle fun hs w D ι a Q' dQ hQ=>vO hm c vb hb (lq vr K) (cz args) σ a w D ι Q' h dQ hQ
   ·simp at hf
  ·simp at hf
 ·simp at hf
def NV (P:Program) (X:fK):fK:=fun f args σ K=>(∃md vf,xG P f md=some vf/\vf.yW=args.length/\((∀a∈args,eH a)->eu X vf.body (lq vf.res K) (cz args) σ))∨Sound P f args σ K
def Call (P:Program):fK:=fun f args σ K=>∀X:fK,qh X->(∀f args σ K,NV P X f args σ K->X f args σ K)->X f args σ K
theorem iq (hm:P.follows .mixedOrders=true) {f:Nat} {args:List AV} {σ:ax} {K:AV->ax->Prop} (h:Call P f args σ K):Sound P f args σ K:=
 h (Sound P) qu fun f args σ K hs=>by
  rcases hs with⟨md,vf,h1,h2,h3⟩|h
  ·intro hs D ι w vs S U A
   exact Jd hm h1 h2 (h3 (pa fun j a hj=>by obtain⟨u,_,hr⟩:=A.2 j a hj;exact hr.JP)) hs D ι w vs S U A
  ·exact h
end
end Go.Proofs.YtgoljkjaameagaaGreat.V

namespace Go.Proofs.YtgoljkjaameagaaGreat.V
open Go.RowKit
variable {P:Program} {X Y:fK}
theorem Ix (h:∀f args σ K,X f args σ K->Y f args σ K) {f:Nat} {args:List AV} {σ:ax} {K:AV->Prop} (hp:gq X f args σ K):gq Y f args σ K:=by
 rcases hp with hp|⟨a,h1,h2⟩
 ·exact .inl (h _ _ _ _ hp)
 ·exact .inr ⟨a,h1,h _ _ _ _ h2⟩
theorem Lj (h:∀f args σ K,X f args σ K->Y f args σ K) {f:Nat} {args:List AV} {σ:ax} {sz:Nat} {rows:List (List AV)} (hp:CM X f args σ sz rows):CM Y f args σ sz rows:=by
 obtain⟨h1,a,h2,h3⟩:=hp
 exact⟨h1,a,h2,h _ _ _ _ h3⟩
theorem qC (h:∀f args σ K,X f args σ K->Y f args σ K) (hK:∀f args σ K K',(∀r σ',K r σ'->K' r σ')->Y f args σ K->Y f args σ K') {draw:Bool} {hid:List Nat} {site:Nat} {f:Nat} {args:List AV} {σ:ax} {n n':AV->ax->Prop} (hn:∀v σ',n v σ'->n' v σ') (hp:cH X draw hid site f args σ n):cH Y draw hid site f args σ n':=by
 rcases hp with⟨r,h1,h2⟩|⟨h1,h2⟩|⟨h1,sz,rows,h2,h3⟩
 ·exact .inl ⟨r,Ix h h1,hn _ _ h2⟩
 ·exact .inr (.inl ⟨h1,hK _ _ _ _ _ hn (h _ _ _ _ h2)⟩)
 ·exact .inr (.inr ⟨h1,sz,rows,Lj h h2,hn _ _ h3⟩)
theorem sM (h:∀f args σ K,X f args σ K->Y f args σ K) (hK:∀f args σ K K',(∀r σ',K r σ'->K' r σ')->Y f args σ K->Y f args σ K') {draw:Bool} {o:bt} {env:Env} {σ:ax} {n n':AV->ax->Prop} (hn:∀v σ',n v σ'->n' v σ') (hp:fJ X draw o env σ n):fJ Y draw o env σ n':=by
 unfold fJ at hp ⊢
 split at hp
 ·exact qC h hK hn hp
 ·split at hp
  ·exact qC h hK hn hp
  ·exact qC h hK hn hp
  ·exact hp.elim
 ·split at hp
  ·exact hn _ _ hp
  ·exact hp.elim
 ·split at hp
  ·exact hn _ _ hp
  ·exact hp.elim
 ·split at hp
  ·exact hn _ _ hp
  ·exact hp.elim
 ·split at hp
  ·exact hn _ _ hp
  ·exact hp.elim
 ·split at hp
  ·exact hn _ _ hp
  ·exact hp.elim
 ·split at hp
  ·exact hn _ _ hp
  ·exact hn _ _ hp
  ·exact hp.elim
theorem nE (h:∀f args σ K,X f args σ K->Y f args σ K) (hK:∀f args σ K K',(∀r σ',K r σ'->K' r σ')->Y f args σ K->Y f args σ K') {draw:Bool} {Q Q':Env->ax->Prop} (hQ:∀e s,Q e s->Q' e s):∀(l:List bt) (env:Env) (σ:ax),wpOps X draw l Q env σ->wpOps Y draw l Q' env σ
 |[],env,σ,hp=>hQ _ _ hp
 |o::r,env,σ,hp=>by
  unfold wpOps at hp ⊢
  split at hp
  ·rename_i hw;rw[if_pos hw];exact sM h hK (fun v σ'=>nE h hK hQ r _ _) hp
  ·rename_i hw;rw[if_neg hw];exact nE h hK hQ r _ _ hp
theorem nD {Q Q':Env->ax->Prop} (hQ:∀e s,Q e s->Q' e s):∀(l:List bt) (env:Env) (σ:ax),cF l Q env σ->cF l Q' env σ
 |[],env,σ,hp=>hQ _ _ hp
 |o::r,env,σ,hp=>by
  unfold cF at hp ⊢
  refine⟨hp.1,?_⟩
  replace hp:=hp.2
  split at hp
  ·split at hp
   ·exact nD hQ r _ _ hp
   ·exact hp.elim
  ·split at hp
   ·exact nD hQ r _ _ hp
   ·exact hp.elim
  ·split at hp
   ·exact nD hQ r _ _ hp
   ·exact hp.elim
theorem lD (h:∀f args σ K,X f args σ K->Y f args σ K) (hK:∀f args σ K K',(∀r σ',K r σ'->K' r σ')->Y f args σ K->Y f args σ K'):∀(c:VC) (Q Q':Ex->Env->ax->Prop) (env:Env) (σ:ax),(∀x e s,Q x e s->Q' x e s)->eu X c Q env σ->eu Y c Q' env σ:=by
 intro c
 induction c with
 |skip=>intro Q Q' env σ hQ hp;exact hQ _ _ _ hp
 |exit id=>intro Q Q' env σ hQ hp;exact hQ _ _ _ hp
 |ret=>intro Q Q' env σ hQ hp;exact hQ _ _ _ hp
 |one o c ih=>
  intro Q Q' env σ hQ hp
  unfold eu at hp ⊢
  split at hp
  ·rename_i hw;rw[if_pos hw];exact sM h hK (fun v σ'=>ih Q Q' _ _ hQ) hp
  ·rename_i hw;rw[if_neg hw];exact ih Q Q' _ _ hQ hp
 |both a b iha ihb=>intro Q Q' env σ hQ hp;exact⟨iha Q Q' env σ hQ hp.1,ihb Q Q' env σ hQ hp.2⟩
 |loc t s y c ih=>intro Q Q' env σ hQ hp;exact⟨hp.1,ih Q Q' env σ hQ hp.2⟩
 |Ol ops=>intro Q Q' env σ hQ hp;exact nD (hQ .normal) ops env σ hp
 |eT draw ops=>intro Q Q' env σ hQ hp;exact nE h hK (hQ .normal) ops env σ hp
 |seq a b iha ihb=>
  intro Q Q' env σ hQ hp
  refine iha _ _ env σ (fun x e s hx=>?_) hp
  cases x with
  |normal=>exact ihb Q Q' e s hQ hx
  |exit id=>exact hQ _ _ _ hx
  |ret=>exact hQ _ _ _ hx
 |cond c a b iha ihb=>
  intro Q Q' env σ hQ hp
  unfold eu at hp ⊢
  split at hp
  ·rename_i t ht
   cases t with
   |true=>exact iha Q Q' env σ hQ hp
   |false=>exact ihb Q Q' env σ hQ hp
  ·exact hp.elim
 |block id a iha=>
  intro Q Q' env σ hQ hp
  refine iha _ _ env σ (fun x e s hx=>?_) hp
  cases x with
  |normal=>exact hQ _ _ _ hx
  |ret=>exact hQ _ _ _ hx
  |exit k6=>
   unfold bf at hx ⊢
   dsimp only at hx ⊢
   split at hx
   ·rename_i hid;rw[if_pos hid];exact hQ _ _ _ hx
   ·rename_i hid;rw[if_neg hid];exact hQ _ _ _ hx
 |loop a iha=>
  intro Q Q' env σ hQ hp
  obtain⟨n,hp⟩:=hp
  refine⟨n,?_⟩
  induction n generalizing env σ with
  |zero=>exact hp
  |succ n ihn=>
   refine iha _ _ env σ (fun x e s hx=>?_) hp
   cases x with
   |normal=>exact ihn e s hx
   |exit id=>exact hQ _ _ _ hx
   |ret=>exact hQ _ _ _ hx
theorem aJ:qh (Call P):=fun _ _ _ _ _ hK h X hX hc=>hX _ _ _ _ _ hK (h X hX hc)
theorem xZ {f:Nat} {args:List AV} {σ:ax} {K:AV->ax->Prop} (h:NV P (Call P) f args σ K):Call P f args σ K:=by
 intro X hX hc
 refine hc _ _ _ _ ?_
 rcases h with⟨md,vf,h1,h2,h3⟩|h
 ·exact .inl ⟨md,vf,h1,h2,fun hl=>lD (fun f args σ K h=>h X hX hc) hX _ _ _ _ _ (fun _ _ _ h=>h) (h3 hl)⟩
 ·exact .inr h
theorem ve {f:Nat} {md:List (Nat×Nat)} {args:List AV} {σ:ax} {K:AV->ax->Prop} {vf:AP} (hf:xG P f md=some vf) (ha:vf.yW=args.length) (h:(∀a∈args,eH a)->eu (Call P) vf.body (lq vf.res K) (cz args) σ):Call P f args σ K:=
 xZ (.inl ⟨md,vf,hf,ha,h⟩)
theorem mj {f:Nat} {args:List AV} {σ:ax} {K:AV->ax->Prop} {vf:AP} (hf:mo P f=some vf) (ha:vf.yW=args.length) (h:(∀a∈args,eH a)->eu (Call P) vf.body (lq vf.res K) (cz args) σ):Call P f args σ K:=
 ve hf ha h
theorem fP {f:Nat} {args:List AV} {σ:ax} {K:AV->ax->Prop} (h:Sound P f args σ K):Call P f args σ K:=xZ (.inr h)
def j7 (P:Program) (f:Nat) (args:List AV) (r:AV):Prop:=∀σ,PC (Call P) f args σ (fun r'=>r'=r)
theorem j7.body {f:Nat} {args:List AV} {r:AV} {nt na:Nat} {body:VC} {res:List oH} (hf:mo P f=some ⟨nt,na,body,res⟩) (ha:na=args.length) (h:(∀a∈args,eH a)->∀σ:ax,eu (Call P) body (lq res fun r0 σ'=>∃r',fz σ'.get 6 r0=some r'/\r'=r) (cz args) ⟨V.ro σ.get,σ.next⟩):j7 P f args r:=fun σ=>mj hf ha fun hl=>h hl σ
variable {Q:Ex->Env->ax->Prop} {K:Env->ax->Prop} {env:Env} {σ:ax}
theorem C0 {a b:VC} (h:∀N:Env->ax->Prop,(∀e s,eu X b Q e s->N e s)->eu X a (dx N Q) env σ):eu X (.seq a b) Q env σ:=h _ fun _ _ h=>h
theorem AN (h:Q .normal env σ):eu X .skip Q env σ:=h
theorem AL {id:Nat} (h:Q (.exit id) env σ):eu X (.exit id) Q env σ:=h
theorem Gg (h:Q .ret env σ):eu X .ret Q env σ:=h
theorem uZ {id:Nat} {c:VC} (h:eu X c (bf id Q) env σ):eu X (.block id c) Q env σ:=h
theorem Ge {o:bt} {c:VC} (h:∀N:AV->ax->Prop,(∀v s,eu X c Q (upd env o.dst v) s->N v s)->if aI o.guard env then fJ X false o env σ N else N .undef σ):eu X (.one o c) Q env σ:=by
 have:=h (fun v s=>eu X c Q (upd env o.dst v) s) fun _ _ h=>h
 unfold eu
 split
 ·rename_i hw;rw[if_pos hw]at this;exact this
 ·rename_i hw;rw[if_neg hw]at this;exact this
def ek (s n:Nat):AV->Prop
 | .own id 0 _=>id=⟨s,n⟩
 |_=>False
def ew (n:Nat):AV->Prop
 | .own id _ _=>¬id.bj=n
 |_=>True
theorem AM {t s:Nat} {y:O} {c:VC} (h1:ek s σ.next (env t)) (h2:ew σ.next (dc env y)) (h:eu X c Q env σ):eu X (.loc t s y c) Q env σ:=by
 refine⟨⟨?_,fun id o l he=>?_⟩,h⟩
 ·revert h1
  unfold ek
  split
  ·rename_i id l he;rintro rfl;exact⟨l,he⟩
  ·exact fun h=>h.elim
 ·rw[he]at h2;exact h2
theorem fc {a b:VC} (ha:eu X a Q env σ) (hb:eu X b Q env σ):eu X (.both a b) Q env σ:=⟨ha,hb⟩
theorem Gf {draw:Bool} {ops:List bt} (h:∀N:Env->ax->Prop,(∀e s,Q .normal e s->N e s)->wpOps X draw ops N env σ):eu X (.eT draw ops) Q env σ:=h _ fun _ _ h=>h
theorem KR {ops:List bt} (h:cF ops (Q .normal) env σ):eu X (.Ol ops) Q env σ:=h
theorem Gd {draw:Bool} (h:K env ⟨σ.get,σ.next+1⟩):wpOps X draw [] K env σ:=h
theorem PZ {draw:Bool} {o:bt} {r:List bt} (h:∀N:AV->ax->Prop,(∀v s,wpOps X draw r K (upd env o.dst v) s->N v s)->if aI o.guard env then fJ X draw o env σ N else N .undef σ):wpOps X draw (o::r) K env σ:=by
 have:=h (fun v s=>wpOps X draw r K (upd env o.dst v) s) fun _ _ h=>h
 unfold wpOps
 split
 ·rename_i hw;rw[if_pos hw]at this;exact this
 ·rename_i hw;rw[if_neg hw]at this;exact this
theorem KS {c:O} {x y:VC} {b:Bool} (hc:dc env c=.bool b) (ht:b=true->eu X x Q env σ) (hf:b=false->eu X y Q env σ):eu X (.cond c x y) Q env σ:=by
 unfold eu
 simp only[hc]
 cases b with
 |true=>exact ht rfl
 |false=>exact hf rfl
inductive ox:AV->Prop->Prop->Prop
 |t {A B:Prop}:A->ox (.bool true) A B
 |f {A B:Prop}:B->ox (.bool false) A B
theorem u7 {c:O} {x y:VC} {v:AV} (hv:dc env c=v) (h:ox v (eu X x Q env σ) (eu X y Q env σ)):eu X (.cond c x y) Q env σ:=by
 cases h with
 |t h=>exact KS hv (fun _=>h) (fun e=>by cases e)
 |f h=>exact KS hv (fun e=>by cases e) (fun _=>h)
theorem PY {c:VC} (I:Nat->Env->ax->Prop) (n:Nat) (h0:I n env σ) (step:∀n env σ,I n env σ->eu X c (fun x e s=>match x with| .normal=>∃m,m<n/\I m e s|x=>Q x e s) env σ)
  (hX:∀(c:VC) (Q Q':Ex->Env->ax->Prop) env σ,(∀x e s,Q x e s->Q' x e s)->eu X c Q env σ->eu X c Q' env σ):eu X (.loop c) Q env σ:=by
 have key:∀N n env σ,n<N->I n env σ->FY (eu X c) Q N env σ:=by
  intro N
  induction N with
  |zero=>intro n env σ h;exact absurd h (Nat.not_lt_zero _)
  |succ N ih=>
   intro n env σ hn hI
   refine hX c _ _ env σ (fun x e s hx=>?_) (step n env σ hI)
   cases x with
   |normal=>obtain⟨m,hm,hI'⟩:=hx;exact ih m e s (by omega) hI'
   |exit id=>exact hx
   |ret=>exact hx
 exact⟨n+1,key _ n env σ (Nat.lt_succ_self _) h0⟩
theorem Na {c:VC} (I:Nat->Env->ax->Prop) (n:Nat) (h0:I n env σ) (step:∀n env σ,I n env σ->eu (Call P) c (fun x e s=>match x with| .normal=>∃m,m<n/\I m e s|x=>Q x e s) env σ):eu (Call P) (.loop c) Q env σ:=
 PY I n h0 step fun c Q Q' env σ hQ h=>lD (fun _ _ _ _ h=>h) aJ c Q Q' env σ hQ h
def Fj:VC->List Nat
 | .eT _ ops=>ops.filterMap (·.dst)
 | .seq a b=>Fj a++Fj b
 | .cond _ a b=>Fj a++Fj b
 | .block _ a=>Fj a
 | .loop a=>Fj a
 | .one o c=>o.dst.toList++Fj c
 | .both a b=>Fj a++Fj b
 | .loc _ _ _ c=>Fj c
 | .Ol ops=>ops.filterMap (·.dst)
 |_=>[]
def iN (l:List Nat) (env iJ:Env):Prop:=∀t,l.contains t=false->iJ t=env t
theorem iN.refl (l:List Nat) (env:Env):iN l env env:=fun _ _=>rfl
theorem iN.trans {l:List Nat} {e e' e'':Env} (h:iN l e e') (k:iN l e' e''):iN l e e'':=fun t ht=>(k t ht).trans (h t ht)
theorem iN.sub {l l':List Nat} {e e':Env} (h:iN l e e') (hs:∀t,t∈l->t∈l'):iN l' e e':=fun t ht=>h t (by
 rw[<-Bool.not_eq_true]at ht ⊢
 simp only[List.contains_iff_mem]at ht ⊢
 exact fun hc=>ht (hs t hc))
theorem iN.upd {l:List Nat} {e e':Env} {d:Option Nat} {v:AV} (h:iN l e e') (hd:∀t,d=some t->t∈l):iN l e (upd e' d v):=fun t ht=>by
 cases d with
 |none=>exact h t ht
 |some d=>
  have:t≠d:=fun hc=>by subst hc;rw[<-Bool.not_eq_true,List.contains_iff_mem]at ht;exact ht (hd _ rfl)
  show(if t=d then v else e' t)=e t
  rw[if_neg this];exact h t ht
theorem pq {draw:Bool} {Q:Env->ax->Prop} {l:List Nat} {e0:Env}:∀(ops:List bt) (env:Env) (σ:ax),(∀t,t∈ops.filterMap (·.dst)->t∈l)->iN l e0 env->wpOps (Call P) draw ops Q env σ->wpOps (Call P) draw ops (fun e s=>Q e s/\iN l e0 e) env σ
 |[],env,σ,_,hk,hp=>⟨hp,hk⟩
 |o::r,env,σ,hl,hk,hp=>by
  have hd:∀t,o.dst=some t->t∈l:=fun t ht=>hl t (List.mem_filterMap.2 ⟨o,by simp,ht⟩)
  have hr:∀t,t∈r.filterMap (·.dst)->t∈l:=fun t ht=>hl t (by
   obtain⟨x,hx,h⟩:=List.mem_filterMap.1 ht
   exact List.mem_filterMap.2 ⟨x,List.mem_cons_of_mem _ hx,h⟩)
  unfold wpOps at hp ⊢
  split at hp
  ·rename_i hw;rw[if_pos hw]
   exact sM (fun _ _ _ _ h=>h) aJ (fun v σ' h=>pq r _ _ hr (hk.upd hd) h) hp
  ·rename_i hw;rw[if_neg hw];exact pq r _ _ hr (hk.upd hd) hp
theorem lZ {Q:Env->ax->Prop} {l:List Nat} {e0:Env}:∀(ops:List bt) (env:Env) (σ:ax),(∀t,t∈ops.filterMap (·.dst)->t∈l)->iN l e0 env->cF ops Q env σ->cF ops (fun e s=>Q e s/\iN l e0 e) env σ
 |[],env,σ,_,hk,hp=>⟨hp,hk⟩
 |o::r,env,σ,hl,hk,hp=>by
  have hd:∀t,o.dst=some t->t∈l:=fun t ht=>hl t (List.mem_filterMap.2 ⟨o,by simp,ht⟩)
  have hr:∀t,t∈r.filterMap (·.dst)->t∈l:=fun t ht=>hl t (by
   obtain⟨x,hx,h⟩:=List.mem_filterMap.1 ht
   exact List.mem_filterMap.2 ⟨x,List.mem_cons_of_mem _ hx,h⟩)
  unfold cF at hp ⊢
  refine⟨hp.1,?_⟩
  replace hp:=hp.2
  split at hp
  ·split at hp
   ·exact lZ r _ _ hr (hk.upd hd) hp
   ·exact hp.elim
  ·split at hp
   ·exact lZ r _ _ hr (hk.upd hd) hp
   ·exact hp.elim
  ·split at hp
   ·exact lZ r _ _ hr (hk.upd hd) hp
   ·exact hp.elim
theorem H5 {l:List Nat} {e0:Env}:∀(c:VC) (Q:Ex->Env->ax->Prop) (env:Env) (σ:ax),(∀t,t∈Fj c->t∈l)->iN l e0 env->eu (Call P) c Q env σ->eu (Call P) c (fun x e s=>Q x e s/\iN l e0 e) env σ:=by
 intro c
 induction c with
 |skip=>intro Q env σ _ hk hp;exact⟨hp,hk⟩
 |exit id=>intro Q env σ _ hk hp;exact⟨hp,hk⟩
 |ret=>intro Q env σ _ hk hp;exact⟨hp,hk⟩
 |one o c ih=>
  intro Q env σ hl hk hp
  have hd:∀t,o.dst=some t->t∈l:=fun t ht=>hl t (List.mem_append_left _ (by rw[ht];simp))
  have hr:∀t,t∈Fj c->t∈l:=fun t ht=>hl t (List.mem_append_right _ ht)
  unfold eu at hp ⊢
  split at hp
  ·rename_i hw;rw[if_pos hw]
   exact sM (fun _ _ _ _ h=>h) aJ (fun v σ' h=>ih Q _ _ hr (hk.upd hd) h) hp
  ·rename_i hw;rw[if_neg hw];exact ih Q _ _ hr (hk.upd hd) hp
 |both a b iha ihb=>
  intro Q env σ hl hk hp
  exact⟨iha Q env σ (fun t ht=>hl t (List.mem_append_left _ ht)) hk hp.1,ihb Q env σ (fun t ht=>hl t (List.mem_append_right _ ht)) hk hp.2⟩
 |loc t s y c ih=>intro Q env σ hl hk hp;exact⟨hp.1,ih Q env σ hl hk hp.2⟩
 |Ol ops=>intro Q env σ hl hk hp;exact lZ ops env σ hl hk hp
 |eT draw ops=>intro Q env σ hl hk hp;exact pq ops env σ hl hk hp
 |seq a b iha ihb=>
  intro Q env σ hl hk hp
  refine lD (fun _ _ _ _ h=>h) aJ a _ _ env σ (fun x e s hx=>?_) (iha _ env σ (fun t ht=>hl t (List.mem_append_left _ ht)) hk hp)
  cases x with
  |normal=>exact ihb Q e s (fun t ht=>hl t (List.mem_append_right _ ht)) hx.2 hx.1
  |exit id=>exact hx
  |ret=>exact hx
 |cond c a b iha ihb=>
  intro Q env σ hl hk hp
  unfold eu at hp ⊢
  split at hp
  ·rename_i t ht
   cases t with
   |true=>exact iha Q env σ (fun t ht=>hl t (List.mem_append_left _ ht)) hk hp
   |false=>exact ihb Q env σ (fun t ht=>hl t (List.mem_append_right _ ht)) hk hp
  ·exact hp.elim
 |block id a iha=>
  intro Q env σ hl hk hp
  refine lD (fun _ _ _ _ h=>h) aJ a _ _ env σ (fun x e s hx=>?_) (iha _ env σ hl hk hp)
  obtain⟨hx,Jv⟩:=hx
  cases x with
  |normal=>exact⟨hx,Jv⟩
  |ret=>exact⟨hx,Jv⟩
  |exit k6=>
   unfold bf at hx ⊢
   dsimp only at hx ⊢
   split at hx
   ·rename_i hid;rw[if_pos hid];exact⟨hx,Jv⟩
   ·rename_i hid;rw[if_neg hid];exact⟨hx,Jv⟩
 |loop a iha=>
  intro Q env σ hl hk hp
  obtain⟨n,hp⟩:=hp
  refine⟨n,?_⟩
  induction n generalizing env σ with
  |zero=>exact hp
  |succ n ihn=>
   refine lD (fun _ _ _ _ h=>h) aJ _ _ _ _ _ (fun x e s hx=>?_) (iha _ env σ hl hk hp)
   obtain⟨hx,Jv⟩:=hx
   cases x with
   |normal=>exact ihn e s Jv hx
   |exit id=>exact⟨hx,Jv⟩
   |ret=>exact⟨hx,Jv⟩
theorem aM {c:VC} (I:Nat->Env->ax->Prop) (n:Nat) (h0:I n env σ) (step:∀n e s,I n e s->iN (Fj c) env e->eu (Call P) c (fun x e s=>match x with| .normal=>∃m,m<n/\I m e s|x=>Q x e s) e s):eu (Call P) (.loop c) Q env σ:=by
 refine Na (fun n e s=>I n e s/\iN (Fj c) env e) n ⟨h0,iN.refl _ _⟩ fun n e s hI=>?_
 refine lD (fun _ _ _ _ h=>h) aJ _ _ _ _ _ (fun x e' s' hx=>?_) (H5 c _ e s (fun _ h=>h) hI.2 (step n e s hI.1 hI.2))
 obtain⟨hx,hk⟩:=hx
 cases x with
 |normal=>obtain⟨m,hm,h⟩:=hx;exact⟨m,hm,h,hk⟩
 |exit id=>exact hx
 |ret=>exact hx
theorem KU {k:Nat} (h:k<=9223372036854775807):IntKind.i64.wrap (k:Int)=k:=by rw[IntKind.wrap_i64];omega
theorem br {z:Int} (h: -9223372036854775808<=z/\z<=9223372036854775807):IntKind.i64.wrap z=z:=by rw[IntKind.wrap_i64];omega
theorem ay {k:Nat} (h:(k:Int)+1<=9223372036854775807):IntKind.i64.wrap ((k:Int)+1)=((k+1:Nat):Int):=by rw[IntKind.wrap_i64];omega
theorem all_succ {k:Nat} {p:Nat->Prop} (h:∀j,j<k->p j) (hk:p k):∀j,j<k+1->p j:=fun j hj=>by
 by_cases yD:j=k
 ·subst yD;exact hk
 ·exact h j (by omega)
theorem aH (g:Rows) (n:Nat) (k:IntKind) (m:Int):fz g (n+1) (.int k m)=some (.int k m):=by rw[fz]<;>intros<;>simp_all
theorem aZ (g:Rows) (n:Nat) (b:Bool):fz g (n+1) (.bool b)=some (.bool b):=by rw[fz]<;>intros<;>simp_all
theorem bB (g:Rows) (n:Nat) (b:ByteArray):fz g (n+1) (.str b)=some (.str b):=by rw[fz]<;>intros<;>simp_all
theorem ck (g:Rows) (n:Nat) (l:List (List AV)):fz g (n+1) (.sl l)=some (.sl l):=by rw[fz]<;>intros<;>simp_all
theorem aT (g:Rows) (n:Nat):fz g (n+1) .cu=some .cu:=by rw[fz]<;>intros<;>simp_all
theorem SC {t:Nat} {r r0:AV} {x:Ex} (hx:x=.ret∨x=.normal) (he:env t=r0) (hz:fz σ.get 6 r0=some r):lq [.tmp t] (fun r0 σ'=>∃r',fz σ'.get 6 r0=some r'/\r'=r) x env σ:=by
 have:∃vs,fy env σ.get [.tmp t]=some vs/\∃r',fz σ.get 6 (fm vs)=some r'/\r'=r:=⟨[env t],rfl,r,by subst he;exact hz,rfl⟩
 rcases hx with rfl|rfl
 ·exact this
 ·exact this
def ar (P:Program) (f:Nat) (args:List AV) (r:AV):Prop:=∀n:Nat,Call P f args ⟨fun _=>none,n⟩ fun r0 σ'=>∃r',gx σ'.get 6 r0=some r'/\r'=r
theorem ar.body {f:Nat} {args:List AV} {r:AV} {nt na:Nat} {body:VC} {res:List oH} (hf:mo P f=some ⟨nt,na,body,res⟩) (ha:na=args.length) (h:(∀a∈args,eH a)->∀n:Nat,eu (Call P) body (lq res fun r0 σ'=>∃r',gx σ'.get 6 r0=some r'/\r'=r) (cz args) ⟨fun _=>none,n⟩):ar P f args r:=fun n=>mj hf ha fun hl=>h hl n
theorem ar.x {f:Nat} {args eF:List AV} {r:AV} (h:ar P f eF r) {σ:ax} (hv:dd (dJ σ.get) 6 args=some eF):gq (Call P) f args σ (fun r'=>r'=r):=.inr ⟨eF,hv,h _⟩
theorem j7.x {f:Nat} {args:List AV} {r:AV} (h:j7 P f args r) (σ:ax):gq (Call P) f args σ (fun r'=>r'=r):=.inl (h σ)
theorem eC (g:Rows) (n:Nat) (k:IntKind) (m:Int):gx g (n+1) (.int k m)=some (.int k m):=by rw[gx]<;>intros<;>simp_all
theorem fR (g:Rows) (n:Nat) (b:Bool):gx g (n+1) (.bool b)=some (.bool b):=by rw[gx]<;>intros<;>simp_all
theorem LG (g:Rows) (n:Nat) (b:ByteArray):gx g (n+1) (.str b)=some (.str b):=by rw[gx]<;>intros<;>simp_all
theorem kd (g:Rows) (n:Nat):gx g (n+1) .cu=some .cu:=by rw[gx]<;>intros<;>simp_all
theorem eX (g:Rows) (n:Nat) (l:List AV):gx g (n+1) (.iD l)=(ez g n l).map AV.iD:=by rw[gx]
theorem LF (g:Rows) (n:Nat) (l:List AV):gx g (n+1) (.agg l)=(ez g n l).map AV.agg:=by rw[gx]
theorem uO {g:Rows} {n:Nat} {id:Id} {off len sz:Nat} {rows rows':List (List AV)} (h:g id=some ⟨true,sz,rows⟩) (hl:off+len<=rows.length) (hr:ig g n ((rows.drop off).take len)=some rows'):gx g (n+1) (.own id off len)=some (.sl rows'):=by
 rw[gx];simp only[h,if_true,if_pos hl,hr,Option.map_some]
theorem cD (g:Rows) (n:Nat):ez g n []=some []:=by rw[ez]
theorem bz (g:Rows) (n:Nat) (a:AV) (l:List AV):ez g n (a::l)=match gx g n a with
  |some b=>(ez g n l).map (b::·)
  |none=>none:=by rw[ez];cases gx g n a<;>rfl
theorem tR {g:Rows} {n:Nat}:∀{l:List (List AV)},(∀c∈l,ez g n c=some c)->ig g n l=some l
 |[],_=>by rw[ig]
 |c::r,h=>by rw[ig,h c (by simp),tR fun d hd=>h d (List.mem_cons_of_mem _ hd)];rfl
theorem bc (g:Rows) (n:Nat) (l:List AV):fz g (n+1) (.agg l)=(dd g n l).map AV.agg:=by rw[fz]
theorem aU (g:Rows) (n:Nat) (l:List AV):fz g (n+1) (.dn l)=some (.dn l):=by rw[fz]<;>intros<;>simp_all
theorem zE {g:Rows} {n:Nat} {id:Id} {i off sz:Nat} {rows:List (List AV)} {cs ql:List AV} (h:g id=some ⟨true,sz,rows⟩) (hi:rows[i]? =some cs) (hr:dd g n (cs.drop off)=some ql):fz g (n+1) (.ptr id i off)=some (.dn ql):=by
 rw[fz];simp only[h,if_true,hi,hr,Option.map_some]
theorem aq (g:Rows) (n:Nat):dd g n []=some []:=by rw[dd]
theorem aj (g:Rows) (n:Nat) (a:AV) (l:List AV):dd g n (a::l)=match fz g n a with
  |some b=>(dd g n l).map (b::·)
  |none=>none:=by rw[dd];cases fz g n a<;>rfl
theorem w7 {t:Nat} {r r0:AV} {x:Ex} (hx:x=.ret∨x=.normal) (he:env t=r0) (hz:gx σ.get 6 r0=some r):lq [.tmp t] (fun r0 σ'=>∃r',gx σ'.get 6 r0=some r'/\r'=r) x env σ:=by
 have:∃vs,fy env σ.get [.tmp t]=some vs/\∃r',gx σ.get 6 (fm vs)=some r'/\r'=r:=⟨[env t],rfl,r,by subst he;exact hz,rfl⟩
 rcases hx with rfl|rfl
 ·exact this
 ·exact this
theorem aQ {t:Nat} {b c:Bool} {x:Ex} (hx:x=.ret∨x=.normal) (he:env t=.bool b) (hb:b=c):lq [.tmp t] (fun r0 σ'=>∃r',gx σ'.get 6 r0=some r'/\r'=.bool c) x env σ:=w7 hx he (by rw[fR,hb])
theorem cr {t:Nat} {k:IntKind} {b c:Int} {x:Ex} (hx:x=.ret∨x=.normal) (he:env t=.int k b) (hb:b=c):lq [.tmp t] (fun r0 σ'=>∃r',gx σ'.get 6 r0=some r'/\r'=.int k c) x env σ:=w7 hx he (by rw[eC,hb])
theorem jy {t u:Nat} {r r1 r2:AV} {x:Ex} (hx:x=.ret∨x=.normal) (h1:env t=r1) (h2:env u=r2) (hz:gx σ.get 6 (.iD [r1,r2])=some r):lq [.tmp t,.tmp u] (fun r0 σ'=>∃r',gx σ'.get 6 r0=some r'/\r'=r) x env σ:=by
 have:∃vs,fy env σ.get [.tmp t,.tmp u]=some vs/\∃r',gx σ.get 6 (fm vs)=some r'/\r'=r:=⟨[env t,env u],rfl,r,by subst h1;subst h2;exact hz,rfl⟩
 rcases hx with rfl|rfl
 ·exact this
 ·exact this
structure Pn (p:Prop):Prop where
 out:p
theorem tw {A B:Prop} (a:A) (b:B):A/\B:=⟨a,b⟩
theorem wk {A R G:Prop} (a:A) (r:R) (h:A->R->G:=by
  intro fL kk
  (repeat(refine Pn.mk ?_;intro N hN))
  (first|((first|apply C0|apply Gf);intro N hN)|((first|(apply PZ;intro N hN)|(apply Ge;intro N hN));simp only[go_sem, ↓reduceIte,Nat.reduceEqDiff,Nat.reduceAdd,Nat.reduceSub,Nat.reduceMul,Nat.reduceLeDiff,Nat.reduceBEq,reduceCtorEq,Nat.reduceLT,Int.reduceLE,Int.reduceLT,Int.reduceToNat,Int.reduceNeg,Int.reduceAdd,Int.reduceEq,fL];first|(refine hN _ _ ?_;clear hN N)|skip)|(apply u7;(simp only[go_sem, ↓reduceIte,Nat.reduceEqDiff,Nat.reduceAdd,Nat.reduceSub,Nat.reduceMul,Nat.reduceLeDiff,Nat.reduceBEq,reduceCtorEq,Nat.reduceLT,Int.reduceLE,Int.reduceLT,Int.reduceToNat,Int.reduceNeg,Int.reduceAdd,Int.reduceEq,fL];rfl);first|with_reducible apply ox.t|with_reducible apply ox.f)|(apply Gd;refine hN _ _ ?_;clear hN N;try(simp only[dx,bf, ↓reduceIte,Nat.reduceEqDiff]);try(refine hN _ _ ?_;clear hN N))|apply uZ|(refine AM ?_ ?_ ?_;(focus(simp only[go_sem, ↓reduceIte,Nat.reduceEqDiff,Nat.reduceAdd,Nat.reduceSub,Nat.reduceMul,Nat.reduceLeDiff,Nat.reduceBEq,reduceCtorEq,Nat.reduceLT,Int.reduceLE,Int.reduceLT,Int.reduceToNat,Int.reduceNeg,Int.reduceAdd,Int.reduceEq,fL];done));(focus(simp only[go_sem, ↓reduceIte,Nat.reduceEqDiff,Nat.reduceAdd,Nat.reduceSub,Nat.reduceMul,Nat.reduceLeDiff,Nat.reduceBEq,reduceCtorEq,Nat.reduceLT,Int.reduceLE,Int.reduceLT,Int.reduceToNat,Int.reduceNeg,Int.reduceAdd,Int.reduceEq,fL];done)))|((first|apply AN|apply AL|apply Gg);try(simp only[dx,bf, ↓reduceIte,Nat.reduceEqDiff]);try(refine hN _ _ ?_;clear hN N))|((first|refine hN _ _ ?_|(clear hN N;first|refine hN _ _ ?_|(clear hN N;first|refine hN _ _ ?_|(clear hN N;first|refine hN _ _ ?_|(clear hN N;refine hN _ _ ?_)))));clear hN N))
  (repeat(first|((first|apply C0|apply Gf);intro N hN)|((first|(apply PZ;intro N hN)|(apply Ge;intro N hN));simp only[go_sem, ↓reduceIte,Nat.reduceEqDiff,Nat.reduceAdd,Nat.reduceSub,Nat.reduceMul,Nat.reduceLeDiff,Nat.reduceBEq,reduceCtorEq,Nat.reduceLT,Int.reduceLE,Int.reduceLT,Int.reduceToNat,Int.reduceNeg,Int.reduceAdd,Int.reduceEq,fL];first|(refine hN _ _ ?_;clear hN N)|skip)|(apply u7;(simp only[go_sem, ↓reduceIte,Nat.reduceEqDiff,Nat.reduceAdd,Nat.reduceSub,Nat.reduceMul,Nat.reduceLeDiff,Nat.reduceBEq,reduceCtorEq,Nat.reduceLT,Int.reduceLE,Int.reduceLT,Int.reduceToNat,Int.reduceNeg,Int.reduceAdd,Int.reduceEq,fL];rfl);first|with_reducible apply ox.t|with_reducible apply ox.f)|(apply Gd;refine hN _ _ ?_;clear hN N;try(simp only[dx,bf, ↓reduceIte,Nat.reduceEqDiff]);try(refine hN _ _ ?_;clear hN N))|apply uZ|(refine AM ?_ ?_ ?_;(focus(simp only[go_sem, ↓reduceIte,Nat.reduceEqDiff,Nat.reduceAdd,Nat.reduceSub,Nat.reduceMul,Nat.reduceLeDiff,Nat.reduceBEq,reduceCtorEq,Nat.reduceLT,Int.reduceLE,Int.reduceLT,Int.reduceToNat,Int.reduceNeg,Int.reduceAdd,Int.reduceEq,fL];done));(focus(simp only[go_sem, ↓reduceIte,Nat.reduceEqDiff,Nat.reduceAdd,Nat.reduceSub,Nat.reduceMul,Nat.reduceLeDiff,Nat.reduceBEq,reduceCtorEq,Nat.reduceLT,Int.reduceLE,Int.reduceLT,Int.reduceToNat,Int.reduceNeg,Int.reduceAdd,Int.reduceEq,fL];done)))|((first|apply AN|apply AL|apply Gg);try(simp only[dx,bf, ↓reduceIte,Nat.reduceEqDiff]);try(refine hN _ _ ?_;clear hN N))|((first|refine hN _ _ ?_|(clear hN N;first|refine hN _ _ ?_|(clear hN N;first|refine hN _ _ ?_|(clear hN N;first|refine hN _ _ ?_|(clear hN N;refine hN _ _ ?_)))));clear hN N)))
  (repeat(revert hN;revert N;apply Pn.out))
  exact kk):G:=h a r
theorem wa {A R G:Prop} (a:A) (r:R) (h:A->R->G:=by
  intro fL kk
  (repeat(refine Pn.mk ?_;intro N hN))
  (first|((first|apply C0|apply Gf);intro N hN)|((first|(refine NX rfl fun N hN=>?_)|(apply Ge;intro N hN));simp only[go_sem, ↓reduceIte,Nat.reduceEqDiff,Nat.reduceAdd,Nat.reduceSub,Nat.reduceMul,Nat.reduceLeDiff,Nat.reduceBEq,reduceCtorEq,Nat.reduceLT,Int.reduceLE,Int.reduceLT,Int.reduceToNat,Int.reduceNeg,Int.reduceAdd,Int.reduceEq,fL];first|(refine hN _ _ ?_;clear hN N)|skip)|(apply u7;(simp only[go_sem, ↓reduceIte,Nat.reduceEqDiff,Nat.reduceAdd,Nat.reduceSub,Nat.reduceMul,Nat.reduceLeDiff,Nat.reduceBEq,reduceCtorEq,Nat.reduceLT,Int.reduceLE,Int.reduceLT,Int.reduceToNat,Int.reduceNeg,Int.reduceAdd,Int.reduceEq,fL];rfl);first|with_reducible apply ox.t|with_reducible apply ox.f)|(apply Gd;refine hN _ _ ?_;clear hN N;try(simp only[dx,bf, ↓reduceIte,Nat.reduceEqDiff]);try(refine hN _ _ ?_;clear hN N))|apply uZ|(refine AM ?_ ?_ ?_;(focus(simp only[go_sem, ↓reduceIte,Nat.reduceEqDiff,Nat.reduceAdd,Nat.reduceSub,Nat.reduceMul,Nat.reduceLeDiff,Nat.reduceBEq,reduceCtorEq,Nat.reduceLT,Int.reduceLE,Int.reduceLT,Int.reduceToNat,Int.reduceNeg,Int.reduceAdd,Int.reduceEq,fL];done));(focus(simp only[go_sem, ↓reduceIte,Nat.reduceEqDiff,Nat.reduceAdd,Nat.reduceSub,Nat.reduceMul,Nat.reduceLeDiff,Nat.reduceBEq,reduceCtorEq,Nat.reduceLT,Int.reduceLE,Int.reduceLT,Int.reduceToNat,Int.reduceNeg,Int.reduceAdd,Int.reduceEq,fL];done)))|((first|apply AN|apply AL|apply Gg);try(simp only[dx,bf, ↓reduceIte,Nat.reduceEqDiff]);try(refine hN _ _ ?_;clear hN N))|((first|refine hN _ _ ?_|(clear hN N;first|refine hN _ _ ?_|(clear hN N;first|refine hN _ _ ?_|(clear hN N;first|refine hN _ _ ?_|(clear hN N;refine hN _ _ ?_)))));clear hN N))
  (repeat(first|((first|apply C0|apply Gf);intro N hN)|((first|(refine NX rfl fun N hN=>?_)|(apply Ge;intro N hN));simp only[go_sem, ↓reduceIte,Nat.reduceEqDiff,Nat.reduceAdd,Nat.reduceSub,Nat.reduceMul,Nat.reduceLeDiff,Nat.reduceBEq,reduceCtorEq,Nat.reduceLT,Int.reduceLE,Int.reduceLT,Int.reduceToNat,Int.reduceNeg,Int.reduceAdd,Int.reduceEq,fL];first|(refine hN _ _ ?_;clear hN N)|skip)|(apply u7;(simp only[go_sem, ↓reduceIte,Nat.reduceEqDiff,Nat.reduceAdd,Nat.reduceSub,Nat.reduceMul,Nat.reduceLeDiff,Nat.reduceBEq,reduceCtorEq,Nat.reduceLT,Int.reduceLE,Int.reduceLT,Int.reduceToNat,Int.reduceNeg,Int.reduceAdd,Int.reduceEq,fL];rfl);first|with_reducible apply ox.t|with_reducible apply ox.f)|(apply Gd;refine hN _ _ ?_;clear hN N;try(simp only[dx,bf, ↓reduceIte,Nat.reduceEqDiff]);try(refine hN _ _ ?_;clear hN N))|apply uZ|(refine AM ?_ ?_ ?_;(focus(simp only[go_sem, ↓reduceIte,Nat.reduceEqDiff,Nat.reduceAdd,Nat.reduceSub,Nat.reduceMul,Nat.reduceLeDiff,Nat.reduceBEq,reduceCtorEq,Nat.reduceLT,Int.reduceLE,Int.reduceLT,Int.reduceToNat,Int.reduceNeg,Int.reduceAdd,Int.reduceEq,fL];done));(focus(simp only[go_sem, ↓reduceIte,Nat.reduceEqDiff,Nat.reduceAdd,Nat.reduceSub,Nat.reduceMul,Nat.reduceLeDiff,Nat.reduceBEq,reduceCtorEq,Nat.reduceLT,Int.reduceLE,Int.reduceLT,Int.reduceToNat,Int.reduceNeg,Int.reduceAdd,Int.reduceEq,fL];done)))|((first|apply AN|apply AL|apply Gg);try(simp only[dx,bf, ↓reduceIte,Nat.reduceEqDiff]);try(refine hN _ _ ?_;clear hN N))|((first|refine hN _ _ ?_|(clear hN N;first|refine hN _ _ ?_|(clear hN N;first|refine hN _ _ ?_|(clear hN N;first|refine hN _ _ ?_|(clear hN N;refine hN _ _ ?_)))));clear hN N)))
  (repeat(revert hN;revert N;apply Pn.out))
  exact kk):G:=h a r
theorem sd {A G:Prop} (a:A) (h:A->G:=by
  intro fL
  first|(simp only[go_sem, ↓reduceIte,Nat.reduceEqDiff,Nat.reduceAdd,Nat.reduceSub,Nat.reduceMul,Nat.reduceLeDiff,Nat.reduceBEq,reduceCtorEq,Nat.reduceLT,Int.reduceLE,Int.reduceLT,Int.reduceToNat,Int.reduceNeg,Int.reduceAdd,Int.reduceEq,fL,fy,iv];done)|fail):G:=h a
theorem sl {A G:Prop} (a:A) (h:A->G:=by
  intro fL
  (try simp only[go_sem, ↓reduceIte,Nat.reduceEqDiff,Nat.reduceAdd,Nat.reduceSub,Nat.reduceMul,Nat.reduceLeDiff,Nat.reduceBEq,reduceCtorEq,Nat.reduceLT,Int.reduceLE,Int.reduceLT,Int.reduceToNat,Int.reduceNeg,Int.reduceAdd,Int.reduceEq,fL])
  try rfl):G:=h a
end Go.Proofs.YtgoljkjaameagaaGreat.V

namespace Go.Proofs.YtgoljkjaameagaaGreat.V
open Go.RowKit
variable {P:Program} {X:fK} {env:Env} {σ:ax}
theorem bG (g:Rows) (n:Nat) (l:List AV):fz g (n+1) (.iD l)=(dd g n l).map AV.iD:=by rw[fz]
theorem cK (g:Rows) (n:Nat) (f:Nat) (l:List AV):fz g (n+1) (.fn f l)=if l.all AV.cell then(dd g n l).map (AV.fn f)else none:=by rw[fz]
theorem aY (g:Rows) (n:Nat) (id:Id) (i off:Nat):fz g (n+1) (.ptr id i off)=match g id with
  |some r=>if r.w then(match r.rows[i]? with
   |some cs=>(dd g n (cs.drop off)).map AV.dn
   |none=>none)else none
  |none=>none:=by rw[fz];rfl
theorem ij (g:Rows) (n:Nat) (id:Id) (off len:Nat):fz g (n+1) (.own id off len)=match g id with
  |some r=>if r.w then(if off+len<=r.rows.length then(dU g n ((r.rows.drop off).take len)).map AV.sl else none)else none
  |none=>none:=by rw[fz];rfl
theorem oV (g:Rows) (n:Nat):dU g n []=some []:=by rw[dU]
theorem zD (g:Rows) (n:Nat) (c:List AV) (l:List (List AV)):dU g n (c::l)=match dd g n c with
  |some b=>(dU g n l).map (b::·)
  |none=>none:=by rw[dU];cases dd g n c<;>rfl
theorem vY {g:Rows} {n:Nat}:∀{l:List (List AV)},(∀c∈l,dd g n c=some c)->dU g n l=some l
 |[],_=>by rw[dU]
 |c::r,h=>by rw[dU,h c (by simp),vY fun d hd=>h d (List.mem_cons_of_mem _ hd)];rfl
theorem qK {α:Type} {g:Rows} {n:Nat} {e:α->List AV} {l:List α} (h:∀x,dd g n (e x)=some (e x)):dU g n (l.map e)=some (l.map e):=vY fun c hc=>by
 obtain⟨x,_,rfl⟩:=List.mem_map.1 hc
 exact h x
theorem tU {α:Type} {g:Rows} {n:Nat} {e:α->List AV} {l:List α} (h:∀x,ez g n (e x)=some (e x)):ig g n (l.map e)=some (l.map e):=tR fun c hc=>by
 obtain⟨x,_,rfl⟩:=List.mem_map.1 hc
 exact h x
theorem fA {α:Type} {g:Rows} {n:Nat} {e:α->List AV} {l:List α} {id:Id} {sz len:Nat} (hg:g id=some ⟨true,sz,l.map e⟩) (hl:len=l.length) (h:∀x,dd g n (e x)=some (e x)):fz g (n+1) (.own id 0 len)=some (.sl (l.map e)):=by
 subst hl
 rw[ij];simp only[hg,if_true]
 rw[if_pos (by simp),List.drop_zero,List.take_of_length_le (by simp),qK h];rfl
theorem fj {α:Type} {g:Rows} {n:Nat} {e:α->List AV} {l:List α} {id:Id} {sz len:Nat} (hg:g id=some ⟨true,sz,l.map e⟩) (hl:len=l.length) (h:∀x,ez g n (e x)=some (e x)):gx g (n+1) (.own id 0 len)=some (.sl (l.map e)):=by
 subst hl
 exact uO hg (by simp) (by rw[List.drop_zero,List.take_of_length_le (by simp),tU h])
theorem all_map {α:Type} {e:α->List AV} {sz:Nat} {l:List α} (h:∀x,(e x).length=sz/\(e x).all AV.cell=true):(l.map e).all (fun c=>c.length==sz&&c.all AV.cell)=true:=by
 rw[List.all_eq_true]
 intro c hc
 obtain⟨x,_,rfl⟩:=List.mem_map.1 hc
 simp[(h x).1,(h x).2]
def QY (P:Program) (f:Nat) (args:List AV) (sz:Nat) (rows:List (List AV)):Prop:=(∀c∈rows,∀a∈c,a.plain=true)/\∀n:Nat,Call P f args ⟨fun _=>none,n⟩ fun r σ'=>∃id,r=.own id 0 rows.length/\σ'.get id=some ⟨true,sz,rows⟩
theorem QY.x {f sz:Nat} {args eF:List AV} {rows:List (List AV)} (h:QY P f eF sz rows) {σ:ax} (hv:dd (dJ σ.get) 6 args=some eF):CM (Call P) f args σ sz rows:=⟨h.1,eF,hv,h.2 _⟩
theorem As {res:List oH} {r:AV} {vs:List AV} {x:Ex} (hx:x=.ret∨x=.normal) (hv:fy env σ.get res=some vs) (hz:fz σ.get 6 (fm vs)=some r):lq res (fun r0 σ'=>∃r',fz σ'.get 6 r0=some r'/\r'=r) x env σ:=by
 rcases hx with rfl|rfl
 ·exact⟨vs,hv,r,hz,rfl⟩
 ·exact⟨vs,hv,r,hz,rfl⟩
theorem pg {res:List oH} {r:AV} {vs:List AV} {x:Ex} (hx:x=.ret∨x=.normal) (hv:fy env σ.get res=some vs) (hz:gx σ.get 6 (fm vs)=some r):lq res (fun r0 σ'=>∃r',gx σ'.get 6 r0=some r'/\r'=r) x env σ:=by
 rcases hx with rfl|rfl
 ·exact⟨vs,hv,r,hz,rfl⟩
 ·exact⟨vs,hv,r,hz,rfl⟩
theorem fq {res:List oH} {K:AV->ax->Prop} {vs:List AV} {x:Ex} (hx:x=.ret∨x=.normal) (hv:fy env σ.get res=some vs) (hK:K (fm vs) σ):lq res K x env σ:=by
 rcases hx with rfl|rfl
 ·exact⟨vs,hv,hK⟩
 ·exact⟨vs,hv,hK⟩
theorem eZ {f:Nat} {args:List AV} {σ:ax} {K:AV->ax->Prop} {nt na:Nat} {body:VC} {res:List oH} (hf:mo P f=some ⟨nt,na,body,res⟩) (ha:na=args.length) (h:(∀a∈args,eH a)->eu (Call P) body (lq res K) (cz args) σ):Call P f args σ K:=mj hf ha h
theorem Im {f:Nat} {md:List (Nat×Nat)} {args:List AV} {σ:ax} {K:AV->ax->Prop} {nt na:Nat} {body:VC} {res:List oH} (hf:xG P f md=some ⟨nt,na,body,res⟩) (ha:na=args.length) (h:(∀a∈args,eH a)->eu (Call P) body (lq res K) (cz args) σ):Call P f args σ K:=ve hf ha h
theorem dB {i:Id} {n:Nat} (h:i.bj<n):(∀s,(i=⟨s,n⟩)=False/\(i=⟨s,n+1⟩)=False/\(i=⟨s,n+1+1⟩)=False/\(i=⟨s,n+1+1+1⟩)=False/\(i=⟨s,n+1+1+1+1⟩)=False/\(i=⟨s,n+1+1+1+1+1⟩)=False/\(i=⟨s,n+1+1+1+1+1+1⟩)=False/\(i=⟨s,n+1+1+1+1+1+1+1⟩)=False/\(i=⟨s,n+1+1+1+1+1+1+1+1⟩)=False/\(i=⟨s,n+1+1+1+1+1+1+1+1+1⟩)=False/\(⟨s,n⟩=i)=False/\(⟨s,n+1⟩=i)=False/\(⟨s,n+1+1⟩=i)=False/\(⟨s,n+1+1+1⟩=i)=False/\(⟨s,n+1+1+1+1⟩=i)=False/\(⟨s,n+1+1+1+1+1⟩=i)=False/\(⟨s,n+1+1+1+1+1+1⟩=i)=False/\(⟨s,n+1+1+1+1+1+1+1⟩=i)=False/\(⟨s,n+1+1+1+1+1+1+1+1⟩=i)=False/\(⟨s,n+1+1+1+1+1+1+1+1+1⟩=i)=False)/\(i.bj=n)=False/\(i.bj=n+1)=False/\(i.bj=n+1+1)=False/\(i.bj=n+1+1+1)=False/\(i.bj=n+1+1+1+1)=False/\(i.bj=n+1+1+1+1+1)=False/\(i.bj=n+1+1+1+1+1+1)=False/\(i.bj=n+1+1+1+1+1+1+1)=False/\(i.bj=n+1+1+1+1+1+1+1+1)=False/\(i.bj=n+1+1+1+1+1+1+1+1+1)=False:=by
 refine⟨fun s=>?_,?_⟩
 ·obtain⟨a,b⟩:=i
  simp only[Id.mk.injEq,eq_iff_iff,iff_false,not_and]
  simp only at h
  refine⟨?_,?_,?_,?_,?_,?_,?_,?_,?_,?_,?_,?_,?_,?_,?_,?_,?_,?_,?_,?_⟩<;>(intros;omega)
 ·simp only[eq_iff_iff,iff_false]
  refine⟨?_,?_,?_,?_,?_,?_,?_,?_,?_,?_⟩<;>omega
def gr (a b:Nat) (ids:List Id):Prop:=ids.Nodup/\∀i∈ids,a<=i.bj/\i.bj<b
def Kept (σ σ':ax):Prop:=σ.next<=σ'.next/\∀j:Id,j.bj<σ.next->σ'.get j=σ.get j
theorem Kept.trans {a b c:ax} (h:Kept a b) (k:Kept b c):Kept a c:=⟨Nat.le_trans h.1 k.1,fun j hj=>(k.2 j (Nat.lt_of_lt_of_le hj h.1)).trans (h.2 j hj)⟩
theorem gr.wide {a b a' b':Nat} {ids:List Id} (h:gr a b ids) (h1:a'<=a) (h2:b<=b'):gr a' b' ids:=⟨h.1,fun i hi=>⟨Nat.le_trans h1 (h.2 i hi).1,Nat.lt_of_lt_of_le (h.2 i hi).2 h2⟩⟩
theorem gr.app {a b c d:Nat} {i j:List Id} (h:gr a b i) (k:gr c d j) (Qu:b<=c) (od:a<=b) (hcd:c<=d):gr a d (i++j):=
 ⟨List.nodup_append.2 ⟨h.1,k.1,fun x hx y hy e=>by subst e;have:=(h.2 x hx).2;have:=(k.2 x hy).1;omega⟩,fun x hx=>by
  rcases List.mem_append.1 hx with hx|hx
  ·have:=h.2 x hx;omega
  ·have:=k.2 x hx;omega⟩
end Go.Proofs.YtgoljkjaameagaaGreat.V

namespace Go.Proofs.YtgoljkjaameagaaGreat.V
open Go.RowKit
attribute [local irreducible] eu wpOps gq Call
attribute [local go_sem] aI fJ eP fZ fY dc upd cz K.av cJ AV.cells AV.cell rowOf rowsOf part ld rowAt bR cq dC ea gV bJ cZ eo fX eY dr ef cX cW dM dO bP aX cN bL cQ cP ec eh ee cL bU cY eb bK aO cU cG gU bp cI bQ aW dx bf dD AV.undef bD bF dR dY dI dP cH ek ew cF ej ei cR cV List.getD_cons_zero List.getD_cons_succ List.getD_nil List.all_cons List.all_nil Bool.and_true Bool.true_and Bool.and_self Bool.not_true Bool.not_false Option.map_some Option.map_none Option.bind_some Option.bind_none List.length_cons List.length_nil List.take_succ_cons List.take_zero List.take_nil List.drop_succ_cons List.drop_zero List.drop_nil List.head?_cons List.map_cons List.map_nil List.getElem?_cons_zero List.getElem?_cons_succ List.cons_append List.nil_append List.append_nil List.length_map List.set_cons_zero List.set_cons_succ Nat.reduceMul eq_self Int.toNat_natCast Int.natCast_nonneg and_self true_and and_true decide_true decide_false Bool.false_eq_true Nat.zero_add Nat.add_zero List.contains_cons List.contains_nil Bool.or_false Bool.false_or beq_self_eq_true Nat.reduceBEq ne_eq not_true_eq_false not_false_eq_true Id.mk.injEq false_and and_false Nat.reduceLT Int.reduceLE Int.reduceLT Int.reduceToNat Int.reduceNeg Int.reduceAdd Nat.le_refl List.length_append beq_true beq_false Bool.not_eq_eq_eq_not or_false false_or dJ aj aq aH aZ bB ck aT bc aU aY cK bG
variable {P:Program}
def KC (f g z:Nat):AP:=let s:=f*1000000
 ⟨27,2,(.seq (.eT false [q 4 (.dq (.k (.int .i64 0))) s]) (.seq (.eT false [q 6 (.dq (.t 1)) (s+1000),q 7 (.dq (.t 0)) (s+1001),q 8 (.len (.t 7)) (s+1002),q 9 (.bin .sub .i64 (.t 6) (.t 8)) (s+1003),q 1 (.dq (.t 9)) (s+1004)]) (.seq (.seq (.eT false [q 10 (.dq (.t 1)) (s+2000),q 11 (.bin .lss .i64 (.t 10) (.k (.int .i64 0))) (s+2001)]) (.cond (.t 11) (.seq (.eT false [q 4 (.dq (.k (.int .i64 (-1)))) (s+3000)]) .ret) .skip)) (.seq (.seq (.eT false [q 5 (.dq (.k (.int .i64 0))) (s+4000)]) (.block 0 (.loop (.seq (.seq (.eT false [q 12 (.dq (.t 5)) (s+5000),q 13 (.dq (.t 0)) (s+5001),q 14 (.len (.t 13)) (s+5002),q 15 (.bin .lss .i64 (.t 12) (.t 14)) (s+5003)]) (.cond (.t 15) .skip (.exit 0))) (.seq (.block 1 (.seq (.eT false [q 18 (.dq (.t 0)) (s+7000),q 19 (.dq (.t 5)) (s+7001),q 20 (.dL z (.t 18) (.t 19)) (s+7002),q 21 (.load true z (.t 20)) (s+7003),q 22 (.dq (.t 1)) (s+7004),q 23 (.call g [(.t 21),(.t 22)]) (s+7005),q 1 (.dq (.t 23)) (s+7006)]) (.seq (.eT false [q 24 (.dq (.t 1)) (s+8000),q 25 (.bin .lss .i64 (.t 24) (.k (.int .i64 0))) (s+8001)]) (.cond (.t 25) (.seq (.eT false [q 4 (.dq (.k (.int .i64 (-1)))) (s+9000)]) .ret) .skip)))) (.eT false [q 16 (.dq (.t 5)) (s+6000),q 17 (.bin .add .i64 (.t 16) (.k (.int .i64 1))) (s+6001),q 5 (.dq (.t 17)) (s+6002)])))))) (.seq (.eT false [q 26 (.dq (.t 1)) (s+10000),q 4 (.dq (.t 26)) (s+10001)]) .ret))))),[(.tmp 4)]⟩
def KA (f:Nat):AP:=let s:=f*1000000
 ⟨12,2,(.seq (.eT false [q 4 (.dq (.k (.int .i64 0))) s]) (.seq (.eT false [q 5 (.dq (.t 1)) (s+1000),q 6 (.dq (.t 0)) (s+1001),q 7 (.len (.t 6)) (s+1002),q 8 (.bin .sub .i64 (.t 5) (.t 7)) (s+1003),q 1 (.dq (.t 8)) (s+1004)]) (.seq (.seq (.eT false [q 9 (.dq (.t 1)) (s+2000),q 10 (.bin .lss .i64 (.t 9) (.k (.int .i64 0))) (s+2001)]) (.cond (.t 10) (.seq (.eT false [q 4 (.dq (.k (.int .i64 (-1)))) (s+3000)]) .ret) .skip)) (.seq (.eT false [q 11 (.dq (.t 1)) (s+4000),q 4 (.dq (.t 11)) (s+4001)]) .ret)))),[(.tmp 4)]⟩
def FB (f g z:Nat):AP:=let s:=f*1000000
 ⟨27,2,(.seq (.eT false [q 4 (.dq (.k (.bool false))) s]) (.seq (.seq (.eT false [q 6 (.dq (.t 0)) (s+1000),q 7 (.len (.t 6)) (s+1001),q 8 (.dq (.t 1)) (s+1002),q 9 (.len (.t 8)) (s+1003),q 10 (.Ot true .tI (.t 7) (.t 9)) (s+1004)]) (.cond (.t 10) (.seq (.eT false [q 4 (.dq (.k (.bool false))) (s+2000)]) .ret) .skip)) (.seq (.seq (.eT false [q 5 (.dq (.k (.int .i64 0))) (s+3000)]) (.block 0 (.loop (.seq (.seq (.eT false [q 11 (.dq (.t 5)) (s+4000),q 12 (.dq (.t 0)) (s+4001),q 13 (.len (.t 12)) (s+4002),q 14 (.bin .lss .i64 (.t 11) (.t 13)) (s+4003)]) (.cond (.t 14) .skip (.exit 0))) (.seq (.block 1 (.seq (.eT true [q 17 (.dq (.t 0)) (s+6000),q 18 (.dq (.t 5)) (s+6001),q 19 (.dL z (.t 17) (.t 18)) (s+6002),q 20 (.load true z (.t 19)) (s+6003),q 21 (.dq (.t 1)) (s+6004),q 22 (.dq (.t 5)) (s+6005),q 23 (.dL z (.t 21) (.t 22)) (s+6006),q 24 (.load true z (.t 23)) (s+6007),q 25 (.call g [(.t 20),(.t 24)]) (s+6008),q 26 (.not (.t 25)) (s+6009)]) (.cond (.t 26) (.seq (.eT false [q 4 (.dq (.k (.bool false))) (s+7000)]) .ret) .skip))) (.eT false [q 15 (.dq (.t 5)) (s+5000),q 16 (.bin .add .i64 (.t 15) (.k (.int .i64 1))) (s+5001),q 5 (.dq (.t 16)) (s+5002)])))))) (.seq (.eT false [q 4 (.dq (.k (.bool true))) (s+8000)]) .ret)))),[(.tmp 4)]⟩
def Nt (f:Nat) (t:TS):AP:=let s:=f*1000000
 ⟨26,2,(.seq (.eT false [q 4 (.dq (.k (.bool false))) s]) (.seq (.seq (.eT false [q 6 (.dq (.t 0)) (s+1000),q 7 (.len (.t 6)) (s+1001),q 8 (.dq (.t 1)) (s+1002),q 9 (.len (.t 8)) (s+1003),q 10 (.Ot true .tI (.t 7) (.t 9)) (s+1004)]) (.cond (.t 10) (.seq (.eT false [q 4 (.dq (.k (.bool false))) (s+2000)]) .ret) .skip)) (.seq (.seq (.eT false [q 5 (.dq (.k (.int .i64 0))) (s+3000)]) (.block 0 (.loop (.seq (.seq (.eT false [q 11 (.dq (.t 5)) (s+4000),q 12 (.dq (.t 0)) (s+4001),q 13 (.len (.t 12)) (s+4002),q 14 (.bin .lss .i64 (.t 11) (.t 13)) (s+4003)]) (.cond (.t 14) .skip (.exit 0))) (.seq (.block 1 (.seq (.eT true [q 17 (.dq (.t 0)) (s+6000),q 18 (.dq (.t 5)) (s+6001),q 19 (.dL 1 (.t 17) (.t 18)) (s+6002),q 20 (.load false 1 (.t 19)) (s+6003),q 21 (.dq (.t 1)) (s+6004),q 22 (.dq (.t 5)) (s+6005),q 23 (.dL 1 (.t 21) (.t 22)) (s+6006),q 24 (.load false 1 (.t 23)) (s+6007),q 25 (.Ot true t (.t 20) (.t 24)) (s+6008)]) (.cond (.t 25) (.seq (.eT false [q 4 (.dq (.k (.bool false))) (s+7000)]) .ret) .skip))) (.eT false [q 15 (.dq (.t 5)) (s+5000),q 16 (.bin .add .i64 (.t 15) (.k (.int .i64 1))) (s+5001),q 5 (.dq (.t 16)) (s+5002)])))))) (.seq (.eT false [q 4 (.dq (.k (.bool true))) (s+8000)]) .ret)))),[(.tmp 4)]⟩
def uk (f g z:Nat) (zero:List K):AP:=let s:=f*1000000
 ⟨23,1,(.seq (.eT false [q 2 (.dq (.k .cu)) s]) (.seq (.eT false [q 5 (.dq (.t 0)) (s+1000),q 6 (.len (.t 5)) (s+1001),q 7 (.j4 zero (.t 6) (.t 6)) (s+1002),q 3 (.dq (.t 7)) (s+1003)]) (.seq (.seq (.eT false [q 4 (.dq (.k (.int .i64 0))) (s+2000)]) (.block 0 (.loop (.seq (.seq (.eT false [q 8 (.dq (.t 4)) (s+3000),q 9 (.dq (.t 0)) (s+3001),q 10 (.len (.t 9)) (s+3002),q 11 (.bin .lss .i64 (.t 8) (.t 10)) (s+3003)]) (.cond (.t 11) .skip (.exit 0))) (.seq (.block 1 (.eT false [q 14 (.dq (.t 3)) (s+5000),q 15 (.dq (.t 4)) (s+5001),q 16 (.dq (.t 0)) (s+5002),q 17 (.dq (.t 4)) (s+5003),q 18 (.dL z (.t 16) (.t 17)) (s+5004),q 19 (.load true z (.t 18)) (s+5005),q 20 (.call g [(.t 19)]) (s+5006),q 21 (.dL z (.t 14) (.t 15)) (s+5007),⟨none,(.store z (.t 21) (.t 20)),none,(s+5008),[]⟩])) (.eT false [q 12 (.dq (.t 4)) (s+4000),q 13 (.bin .add .i64 (.t 12) (.k (.int .i64 1))) (s+4001),q 4 (.dq (.t 13)) (s+4002)])))))) (.seq (.eT false [q 22 (.dq (.t 3)) (s+6000),q 2 (.dq (.t 22)) (s+6001)]) .ret)))),[(.tmp 2)]⟩
def KK (f:Nat) (zero:K):AP:=let s:=f*1000000
 ⟨22,1,(.seq (.eT false [q 2 (.dq (.k .cu)) s]) (.seq (.eT false [q 5 (.dq (.t 0)) (s+1000),q 6 (.len (.t 5)) (s+1001),q 7 (.j4 [zero] (.t 6) (.t 6)) (s+1002),q 3 (.dq (.t 7)) (s+1003)]) (.seq (.seq (.eT false [q 4 (.dq (.k (.int .i64 0))) (s+2000)]) (.block 0 (.loop (.seq (.seq (.eT false [q 8 (.dq (.t 4)) (s+3000),q 9 (.dq (.t 0)) (s+3001),q 10 (.len (.t 9)) (s+3002),q 11 (.bin .lss .i64 (.t 8) (.t 10)) (s+3003)]) (.cond (.t 11) .skip (.exit 0))) (.seq (.block 1 (.eT false [q 14 (.dq (.t 3)) (s+5000),q 15 (.dq (.t 4)) (s+5001),q 16 (.dq (.t 0)) (s+5002),q 17 (.dq (.t 4)) (s+5003),q 18 (.dL 1 (.t 16) (.t 17)) (s+5004),q 19 (.load false 1 (.t 18)) (s+5005),q 20 (.dL 1 (.t 14) (.t 15)) (s+5006),⟨none,(.store 1 (.t 20) (.t 19)),none,(s+5007),[]⟩])) (.eT false [q 12 (.dq (.t 4)) (s+4000),q 13 (.bin .add .i64 (.t 12) (.k (.int .i64 1))) (s+4001),q 4 (.dq (.t 13)) (s+4002)])))))) (.seq (.eT false [q 21 (.dq (.t 3)) (s+6000),q 2 (.dq (.t 21)) (s+6001)]) .ret)))),[(.tmp 2)]⟩
def xW (n:Nat) (l:Int):Int:=if (n:Int)<=l then l-n else -1
theorem KB {fk:Nat} (hc:mo P fk=some (KA fk)) (rows:List (List AV)) (left:Int) (h0:0<=left) (h1:left<=1048576):ar P fk [.sl rows,.int .i64 left] (.int .i64 (xW rows.length left)):=by
 refine ar.body hc rfl fun hl n0=>?_
 try simp only[q]
 have hn:rows.length<=9223372036854775807:=(hl (.sl rows) (by simp)).len
 clear hl
 have hw:IntKind.i64.wrap (left-(rows.length:Int))=left-rows.length:=br (by omega)
 by_cases hf:(rows.length:Int)<=left
 ·have kI:¬left-(rows.length:Int)<0:=by omega
  (try((repeat(revert hN;revert N;apply Pn.out));refine wk (tw @hw @kI) ?_;(repeat(refine Pn.mk ?_;intro N hN))))
  exact cr (b:=left-(rows.length:Int)) (.inl rfl) (sd @Nat.zero_add) (by rw[xW,if_pos hf])
 ·have kI:left-(rows.length:Int)<0:=by omega
  (try((repeat(revert hN;revert N;apply Pn.out));refine wk (tw @hw @kI) ?_;(repeat(refine Pn.mk ?_;intro N hN))))
  exact cr (b:=-1) (.inl rfl) (sd @Nat.zero_add) (by rw[xW,if_neg hf])
def iK {α:Type} (f:α->Nat) (xs:List α) (k:Nat):Nat:=((xs.take k).map f).sum
theorem mL {α:Type} (f:α->Nat) (xs:List α):iK f xs 0=0:=by simp[iK]
theorem CK {α:Type} (f:α->Nat) (xs:List α):iK f xs xs.length=(xs.map f).sum:=by simp[iK]
theorem xh {α:Type} (f:α->Nat) {xs:List α} {k:Nat} (hk:k<xs.length):iK f xs (k+1)=iK f xs k+f xs[k]:=by
 unfold iK
 rw[List.take_succ_eq_append_getElem hk,List.map_append,List.sum_append];simp
theorem qt {α:Type} (f:α->Nat) (xs:List α) (k:Nat):iK f xs k<=(xs.map f).sum:=by
 unfold iK
 conv=>rhs;rw[<-List.take_append_drop k xs]
 rw[List.map_append,List.sum_append];omega
theorem KD {α:Type} {e:α->List AV} {z fk gk:Nat} (wt:α->Nat) (hc:mo P fk=some (KC fk gk z)) (hz:∀x,(e x).length=z) (C5:∀x g,dd g 6 [.agg (e x)]=some [.agg (e x)]) (xs:List α) (left:Int) (h0:0<=left) (h1:left<=1048576)
  (hg:∀x∈xs,∀l:Int,0<=l->l<=1048576->ar P gk [.agg (e x),.int .i64 l] (.int .i64 (xW (wt x) l))):ar P fk [.sl (xs.map e),.int .i64 left] (.int .i64 (xW (xs.length+(xs.map wt).sum) left)):=by
 refine ar.body hc rfl fun hl n0=>?_
 try simp only[q]
 have hn:xs.length<=9223372036854775807:=by simpa using(hl (.sl (xs.map e)) (by simp)).len
 clear hl
 have hw:IntKind.i64.wrap (left-(xs.length:Int))=left-xs.length:=br (by omega)
 by_cases hf:(xs.length:Int)<=left
 ·have kI:¬left-(xs.length:Int)<0:=by omega
  (try((repeat(revert hN;revert N;apply Pn.out));refine wk (tw @hw @kI) ?_;(repeat(refine Pn.mk ?_;intro N hN))))
  refine aM (fun n env st=>∃k:Nat,n=(xs.length)-k/\k<=(xs.length)/\env 5=.int .i64 (k:Int)/\env 1=(.int .i64 (left-xs.length-(iK wt xs k:Nat)))/\(0<=left-xs.length-(iK wt xs k:Nat))) (xs.length) ⟨0,by omega,by omega,sl (tw @mL (tw @Int.natCast_zero @Int.sub_zero)),sl (tw @mL (tw @Int.natCast_zero @Int.sub_zero)),(by rw[mL];omega)⟩ ?_
  rintro n_a env_a st_a ⟨k,rfl,ale,a5,a1,j8⟩ di
  have a0:=di 0 (by kernel_rfl)
  simp only[go_sem, ↓reduceIte,Nat.reduceEqDiff,Nat.reduceAdd,Nat.reduceSub,Nat.reduceLeDiff,reduceCtorEq,mL,Int.natCast_zero,Int.sub_zero]at a0
  clear di
  by_cases hk:(k:Int)<(xs.length:Int)
  ·have cm:∀{e:Env},(e 5=.int .i64 (IntKind.i64.wrap ((k:Int)+1)))->(e 1=(.int .i64 (left-xs.length-(iK wt xs (k+1):Nat))))->(0<=left-xs.length-(iK wt xs (k+1):Nat))->∃m0,m0<(xs.length)-k/\∃k:Nat,m0=(xs.length)-k/\k<=(xs.length)/\e 5=.int .i64 (k:Int)/\e 1=(.int .i64 (left-xs.length-(iK wt xs k:Nat)))/\(0<=left-xs.length-(iK wt xs k:Nat)):=fun x1 x2 x3=>⟨_,by omega,k+1,rfl,by omega,(by rw[x1,ay (by omega)]),x2,x3⟩
   have eU:k<xs.length:=by omega
   have eB:(xs.map e)[k]? =some (e xs[k]):=by simp[eU]
   have tZ:=hz xs[k]
   have ht:(e xs[k]).take z=e xs[k]:=by rw[<-tZ,List.take_length]
   have hs:=xh wt eU
   have xx:=qt wt xs (k+1)
   have iu:=hg _ (List.getElem_mem eU) (left-xs.length-(iK wt xs k:Nat)) j8 (by omega)
   have kK:dd (dJ st_a.get) 6 [.agg (e xs[k]),.int .i64 (left-xs.length-(iK wt xs k:Nat))]=some [.agg (e xs[k]),.int .i64 (left-xs.length-(iK wt xs k:Nat))]:=by
    have q1:=C5 xs[k] (dJ st_a.get)
    rw[aj,aq]at q1
    rw[aj,aj,aq,aH]
    revert q1
    cases V.fz (dJ st_a.get) 6 (.agg (e xs[k]))<;>simp
   by_cases tf:(wt xs[k]:Int)<=left-xs.length-(iK wt xs k:Nat)
   ·rw[xW,if_pos tf]at iu
    have yF:¬left-xs.length-(iK wt xs k:Nat)-(wt xs[k]:Int)<0:=by omega
    have pD:left-xs.length-(iK wt xs k:Nat)-(wt xs[k]:Int)=left-xs.length-(iK wt xs (k+1):Nat):=by rw[hs];omega
    generalize hex:e xs[k]=c at iu kK eB tZ ht
    (try((repeat(revert hN;revert N;apply Pn.out));refine wk (tw @a5 (tw @a1 (tw @a0 (tw @hk (tw @eB (tw @tZ (tw @ht @Nat.le_refl))))))) ?_;(repeat(refine Pn.mk ?_;intro N hN))))
    refine .inl ⟨_,ar.x iu kK,?_⟩
    refine hN _ _ ?_
    clear hN N
    (try((repeat(revert hN;revert N;apply Pn.out));refine wk (tw @a5 (tw @a1 (tw @a0 @yF))) ?_;(repeat(refine Pn.mk ?_;intro N hN))))
    refine cm ?_ ?_ ((by rw[hs];omega))
    all_goals simp only[go_sem, ↓reduceIte,Nat.reduceEqDiff,Nat.reduceAdd,Nat.reduceSub,Nat.reduceLeDiff,reduceCtorEq,a5,a1,a0,pD]
   ·rw[xW,if_neg tf]at iu
    generalize hex:e xs[k]=c at iu kK eB tZ ht
    (try((repeat(revert hN;revert N;apply Pn.out));refine wk (tw @a5 (tw @a1 (tw @a0 (tw @hk (tw @eB (tw @tZ (tw @ht @Nat.le_refl))))))) ?_;(repeat(refine Pn.mk ?_;intro N hN))))
    refine .inl ⟨_,ar.x iu kK,?_⟩
    refine hN _ _ ?_
    clear hN N
    (try((repeat(revert hN;revert N;apply Pn.out));refine wk (tw @a5 (tw @a1 @a0)) ?_;(repeat(refine Pn.mk ?_;intro N hN))))
    exact cr (b:=-1) (.inl rfl) (sd @Nat.zero_add) (by rw[xW,if_neg (by omega)])
  ·(try((repeat(revert hN;revert N;apply Pn.out));refine wk (tw @a5 (tw @a1 (tw @a0 @hk))) ?_;(repeat(refine Pn.mk ?_;intro N hN))))
   have eU:k=xs.length:=by omega
   subst eU
   have Jj:=CK wt xs
   exact cr (b:=left-xs.length-(iK wt xs xs.length:Nat)) (.inl rfl) (sd (tw @a5 (tw @a1 @a0))) (by rw[xW,if_pos (by omega)];omega)
 ·have kI:left-(xs.length:Int)<0:=by omega
  (try((repeat(revert hN;revert N;apply Pn.out));refine wk (tw @hw @kI) ?_;(repeat(refine Pn.mk ?_;intro N hN))))
  exact cr (b:=-1) (.inl rfl) (sd @Nat.zero_add) (by rw[xW,if_neg (by omega)])
theorem I5 {α:Type} {xs ys:List α} (hl:xs.length=ys.length) (h:∀j:Nat,j<xs.length->∀(h1:j<xs.length) (h2:j<ys.length),xs[j]=ys[j]):xs=ys:=List.ext_getElem hl fun j h1 h2=>h j h1 h1 h2
theorem Dz {α:Type} [DecidableEq α] {e:α->List AV} {z fk gk:Nat} (hc:mo P fk=some (FB fk gk z)) (hz:∀x,(e x).length=z) (C5:∀x g,dd g 6 [.agg (e x)]=some [.agg (e x)]) (xs ys:List α)
  (hg:∀x y,ar P gk [.agg (e x),.agg (e y)] (.bool (decide (x=y)))):ar P fk [.sl (xs.map e),.sl (ys.map e)] (.bool (decide (xs=ys))):=by
 refine ar.body hc rfl fun hl n0=>?_
 try simp only[q]
 have hn:xs.length<=9223372036854775807:=by simpa using(hl (.sl (xs.map e)) (by simp)).len
 clear hl
 by_cases hlen:xs.length=ys.length
 ·have kZ:decide ((xs.length:Int)=(ys.length:Int))=true:=by simp[hlen]
  (try((repeat(revert hN;revert N;apply Pn.out));refine wk @kZ ?_;(repeat(refine Pn.mk ?_;intro N hN))))
  refine aM (fun n env st=>∃k:Nat,n=(xs.length)-k/\k<=(xs.length)/\env 5=.int .i64 (k:Int)/\(∀j:Nat,j<k->∀(h1:j<xs.length) (h2:j<ys.length),xs[j]=ys[j])) (xs.length) ⟨0,by omega,by omega,sl @Nat.zero_add,fun _ h=>absurd h (Nat.not_lt_zero _)⟩ ?_
  rintro n_a env_a st_a ⟨k,rfl,ale,a5,me⟩ di
  have a0:=di 0 (by kernel_rfl);have a1:=di 1 (by kernel_rfl)
  simp only[go_sem, ↓reduceIte,Nat.reduceEqDiff,Nat.reduceAdd,Nat.reduceSub,Nat.reduceLeDiff,reduceCtorEq]at a0 a1
  clear di
  by_cases hk:(k:Int)<(xs.length:Int)
  ·have cm:∀{e:Env},(e 5=.int .i64 (IntKind.i64.wrap ((k:Int)+1)))->(∀(h1:k<xs.length) (h2:k<ys.length),xs[k]=ys[k])->∃m0,m0<(xs.length)-k/\∃k:Nat,m0=(xs.length)-k/\k<=(xs.length)/\e 5=.int .i64 (k:Int)/\(∀j:Nat,j<k->∀(h1:j<xs.length) (h2:j<ys.length),xs[j]=ys[j]):=fun x1 x2=>⟨_,by omega,k+1,rfl,by omega,(by rw[x1,ay (by omega)]),(all_succ me x2)⟩
   have eU:k<xs.length:=by omega
   have Ts:k<ys.length:=by omega
   have eB:(xs.map e)[k]? =some (e xs[k]):=by simp[eU]
   have D4:(ys.map e)[k]? =some (e ys[k]):=by simp[Ts]
   have tZ:=hz xs[k]
   have Ee:=hz ys[k]
   have ht:(e xs[k]).take z=e xs[k]:=by rw[<-tZ,List.take_length]
   have Ig:(e ys[k]).take z=e ys[k]:=by rw[<-Ee,List.take_length]
   have iu:=hg xs[k] ys[k]
   have kK:∀g,dd g 6 [.agg (e xs[k]),.agg (e ys[k])]=some [.agg (e xs[k]),.agg (e ys[k])]:=fun g=>by
    have q1:=C5 xs[k] g
    have q2:=C5 ys[k] g
    rw[aj,aq]at q1
    rw[aj,q2]
    revert q1
    cases V.fz g 6 (.agg (e xs[k]))<;>simp
   by_cases heq:xs[k]=ys[k]
   ·rw[decide_eq_true heq]at iu
    generalize hex:e xs[k]=c at iu kK eB tZ ht
    generalize hey:e ys[k]=d at iu kK D4 Ee Ig
    (try((repeat(revert hN;revert N;apply Pn.out));refine wk (tw @a5 (tw @a0 (tw @a1 (tw @hk (tw @eB (tw @D4 (tw @tZ (tw @Ee (tw @ht (tw @Ig @Nat.le_refl)))))))))) ?_;(repeat(refine Pn.mk ?_;intro N hN))))
    refine⟨_,ar.x iu (kK _),?_⟩
    refine hN _ _ ?_
    clear hN N
    (try((repeat(revert hN;revert N;apply Pn.out));refine wk (tw @a5 (tw @a0 @a1)) ?_;(repeat(refine Pn.mk ?_;intro N hN))))
    exact cm (sd (tw @a5 (tw @a0 @a1))) (fun _ _=>heq)
   ·rw[decide_eq_false heq]at iu
    generalize hex:e xs[k]=c at iu kK eB tZ ht
    generalize hey:e ys[k]=d at iu kK D4 Ee Ig
    (try((repeat(revert hN;revert N;apply Pn.out));refine wk (tw @a5 (tw @a0 (tw @a1 (tw @hk (tw @eB (tw @D4 (tw @tZ (tw @Ee (tw @ht (tw @Ig @Nat.le_refl)))))))))) ?_;(repeat(refine Pn.mk ?_;intro N hN))))
    refine⟨_,ar.x iu (kK _),?_⟩
    refine hN _ _ ?_
    clear hN N
    (try((repeat(revert hN;revert N;apply Pn.out));refine wk (tw @a5 (tw @a0 @a1)) ?_;(repeat(refine Pn.mk ?_;intro N hN))))
    exact aQ (b:=false) (.inl rfl) (sd @Nat.zero_add) (decide_eq_false fun h=>heq (List.getElem_of_eq h _)).symm
  ·(try((repeat(revert hN;revert N;apply Pn.out));refine wk (tw @a5 (tw @a0 (tw @a1 @hk))) ?_;(repeat(refine Pn.mk ?_;intro N hN))))
   exact aQ (b:=true) (.inl rfl) (sd @Nat.zero_add) (decide_eq_true (I5 hlen fun j hj h1 h2=>me j (by omega) h1 h2)).symm
 ·have kZ:decide ((xs.length:Int)=(ys.length:Int))=false:=decide_eq_false fun h=>hlen (by omega)
  (try((repeat(revert hN;revert N;apply Pn.out));refine wk @kZ ?_;(repeat(refine Pn.mk ?_;intro N hN))))
  exact aQ (b:=false) (.inl rfl) (sd @Nat.zero_add) (decide_eq_false fun h=>hlen (by subst h;rfl)).symm
theorem Rc {fk:Nat} (hc:mo P fk=some (Nt fk .tI)) (xs ys:List Int):
  ar P fk [.sl (xs.map fun x=>[AV.int .i64 x]),.sl (ys.map fun x=>[AV.int .i64 x])] (.bool (decide (xs=ys))):=by
 refine ar.body hc rfl fun hl n0=>?_
 try simp only[q]
 have hn:xs.length<=9223372036854775807:=by simpa using(hl (.sl (xs.map fun x=>[AV.int .i64 x])) (by simp)).len
 clear hl
 by_cases hlen:xs.length=ys.length
 ·have kZ:decide ((xs.length:Int)=(ys.length:Int))=true:=by simp[hlen]
  (try((repeat(revert hN;revert N;apply Pn.out));refine wk @kZ ?_;(repeat(refine Pn.mk ?_;intro N hN))))
  refine aM (fun n env st=>∃k:Nat,n=(xs.length)-k/\k<=(xs.length)/\env 5=.int .i64 (k:Int)/\(∀j:Nat,j<k->∀(h1:j<xs.length) (h2:j<ys.length),xs[j]=ys[j])) (xs.length) ⟨0,by omega,by omega,sl @Nat.zero_add,fun _ h=>absurd h (Nat.not_lt_zero _)⟩ ?_
  rintro n_a env_a st_a ⟨k,rfl,ale,a5,me⟩ di
  have a0:=di 0 (by kernel_rfl);have a1:=di 1 (by kernel_rfl)
  simp only[go_sem, ↓reduceIte,Nat.reduceEqDiff,Nat.reduceAdd,Nat.reduceSub,Nat.reduceLeDiff,reduceCtorEq]at a0 a1
  clear di
  by_cases hk:(k:Int)<(xs.length:Int)
  ·have cm:∀{e:Env},(e 5=.int .i64 (IntKind.i64.wrap ((k:Int)+1)))->(∀(h1:k<xs.length) (h2:k<ys.length),xs[k]=ys[k])->∃m0,m0<(xs.length)-k/\∃k:Nat,m0=(xs.length)-k/\k<=(xs.length)/\e 5=.int .i64 (k:Int)/\(∀j:Nat,j<k->∀(h1:j<xs.length) (h2:j<ys.length),xs[j]=ys[j]):=fun x1 x2=>⟨_,by omega,k+1,rfl,by omega,(by rw[x1,ay (by omega)]),(all_succ me x2)⟩
   have eU:k<xs.length:=by omega
   have Ts:k<ys.length:=by omega
   have eB:(xs.map fun x=>[AV.int .i64 x])[k]? =some [.int .i64 xs[k]]:=by simp[eU]
   have D4:(ys.map fun x=>[AV.int .i64 x])[k]? =some [.int .i64 ys[k]]:=by simp[Ts]
   by_cases heq:xs[k]=ys[k]
   ·have hq:=decide_eq_true heq
    (try((repeat(revert hN;revert N;apply Pn.out));refine wk (tw @a5 (tw @a0 (tw @a1 (tw @hk (tw @eB (tw @D4 @hq)))))) ?_;(repeat(refine Pn.mk ?_;intro N hN))))
    exact cm (sd (tw @a5 (tw @a0 @a1))) (fun _ _=>heq)
   ·have hq:=decide_eq_false heq
    (try((repeat(revert hN;revert N;apply Pn.out));refine wk (tw @a5 (tw @a0 (tw @a1 (tw @hk (tw @eB (tw @D4 @hq)))))) ?_;(repeat(refine Pn.mk ?_;intro N hN))))
    exact aQ (b:=false) (.inl rfl) (sd @Nat.zero_add) (decide_eq_false fun h=>heq (List.getElem_of_eq h _)).symm
  ·(try((repeat(revert hN;revert N;apply Pn.out));refine wk (tw @a5 (tw @a0 (tw @a1 @hk))) ?_;(repeat(refine Pn.mk ?_;intro N hN))))
   exact aQ (b:=true) (.inl rfl) (sd @Nat.zero_add) (decide_eq_true (I5 hlen fun j hj h1 h2=>me j (by omega) h1 h2)).symm
 ·have kZ:decide ((xs.length:Int)=(ys.length:Int))=false:=decide_eq_false fun h=>hlen (by omega)
  (try((repeat(revert hN;revert N;apply Pn.out));refine wk @kZ ?_;(repeat(refine Pn.mk ?_;intro N hN))))
  exact aQ (b:=false) (.inl rfl) (sd @Nat.zero_add) (decide_eq_false fun h=>hlen (by subst h;rfl)).symm
theorem vD (l:List AV):l++[]=l:=List.append_nil l
def gL {α:Type} (e:α->List AV) (zc:List AV) (xs:List α) (k:Nat):List (List AV):=(xs.take k).map e++List.replicate (xs.length-k) zc
theorem oM {α:Type} (e:α->List AV) (zc:List AV) (xs:List α):List.replicate xs.length zc=gL e zc xs 0:=by simp[gL]
theorem qE {α:Type} (e:α->List AV) (zc:List AV) (xs:List α):gL e zc xs xs.length=xs.map e:=by simp[gL]
theorem qF {α:Type} (e:α->List AV) (zc:List AV) (xs:List α) {k:Nat} (hk:k<xs.length):(gL e zc xs k)[k]? =some zc:=by
 have h1:((xs.take k).map e).length=k:=by simp;omega
 rw[gL,List.getElem?_append_right (by omega),h1,Nat.sub_self,List.getElem?_replicate,if_pos (by omega)]
theorem qG {α:Type} (e:α->List AV) (zc:List AV) (xs:List α) {k:Nat} (hk:k<xs.length):(gL e zc xs k).set k (e xs[k])=gL e zc xs (k+1):=by
 have h1:((xs.take k).map e).length=k:=by simp;omega
 rw[gL,List.set_append_right _ _ (by omega),h1,Nat.sub_self,gL,List.take_succ_eq_append_getElem hk,List.map_append,List.append_assoc]
 congr 1
 obtain⟨m,hm⟩:∃m,xs.length-k=m+1:=⟨xs.length-k-1,by omega⟩
 rw[hm,show xs.length-(k+1)=m by omega,List.replicate_succ]
 rfl
theorem E3 {α:Type} {en:α->List AV} {z fk gk:Nat} {zero:List K} (hc:mo P fk=some (uk fk gk z zero)) (FO:zero.length=z) (hz:∀x,(en x).length=z) (kE:∀x,(en x).all AV.cell=true) (C5:∀x g,dd g 5 (en x)=some (en x)) (xs:List α) (hlen:xs.length<=1048576)
  (hg:∀x∈xs,j7 P gk [.agg (en x)] (.agg (en x))):j7 P fk [.sl (xs.map en)] (.sl (xs.map en)):=by
 refine j7.body hc rfl fun hl σ=>?_
 try simp only[q]
 clear hl
 have hm:(xs.length:Int)<=((16777216:Nat):Int):=by omega
 have h0:(0:Int)<=(xs.length:Int):=by omega
 (try((repeat(revert hN;revert N;apply Pn.out));refine wk (tw @hm (tw @h0 (tw @Int.le_refl (tw (oM en (zero.map K.av) xs) @FO)))) ?_;(repeat(refine Pn.mk ?_;intro N hN))))
 refine aM (fun n env st=>∃k:Nat,n=(xs.length)-k/\k<=(xs.length)/\env 4=.int .i64 (k:Int)/\st.get ⟨fk*1000000+1002,σ.next+1⟩=some ⟨true,z,gL en (zero.map K.av) xs k⟩) (xs.length) ⟨0,by omega,by omega,sl @Nat.zero_add,sl @Nat.zero_add⟩ ?_
 rintro n_a env_a st_a ⟨k,rfl,ale,a4,ag0⟩ di
 have a0:=di 0 (by kernel_rfl);have a3:=di 3 (by kernel_rfl)
 simp only[go_sem, ↓reduceIte,Nat.reduceEqDiff,Nat.reduceAdd,Nat.reduceSub,Nat.reduceLeDiff,reduceCtorEq]at a0 a3
 clear di
 by_cases hk:(k:Int)<(xs.length:Int)
 ·have cm:∀{e:Env} {gg:Rows},(e 4=.int .i64 (IntKind.i64.wrap ((k:Int)+1)))->(gg ⟨fk*1000000+1002,σ.next+1⟩=some ⟨true,z,gL en (zero.map K.av) xs (k+1)⟩)->∃m0,m0<(xs.length)-k/\∃k:Nat,m0=(xs.length)-k/\k<=(xs.length)/\e 4=.int .i64 (k:Int)/\gg ⟨fk*1000000+1002,σ.next+1⟩=some ⟨true,z,gL en (zero.map K.av) xs k⟩:=fun x1 x2=>⟨_,by omega,k+1,rfl,by omega,(by rw[x1,ay (by omega)]),x2⟩
  have eU:k<xs.length:=by omega
  have eB:(xs.map en)[k]? =some (en xs[k]):=by simp[eU]
  have tZ:=hz xs[k]
  have K3:=kE xs[k]
  have ht:(en xs[k]).take z=en xs[k]:=by rw[<-tZ,List.take_length]
  have iu:=hg _ (List.getElem_mem eU)
  have fe:=qF en (zero.map K.av) xs eU
  have dW:=qG en (zero.map K.av) xs eU
  have Jo:(zero.map K.av).drop z=[]:=List.drop_of_length_le (by simp[FO])
  generalize hex:en xs[k]=c at iu eB tZ ht K3 dW
  (repeat(first|((repeat(revert hN;revert N;apply Pn.out));refine wk (tw @a4 (tw @ag0 (tw @a0 (tw @a3 (tw @hk (tw @eB (tw @tZ (tw @ht (tw @Nat.le_refl (tw @fe (tw @dW (tw @Jo (tw @vD (tw @K3 @FO)))))))))))))) ?_;(repeat(refine Pn.mk ?_;intro N hN)))|((try apply Or.inl);refine⟨_,j7.x (iu) _,?_⟩;refine hN _ _ ?_;clear hN N)))
  refine cm ?_ ?_
  all_goals simp only[go_sem, ↓reduceIte,Nat.reduceEqDiff,Nat.reduceAdd,Nat.reduceSub,Nat.reduceLeDiff,reduceCtorEq,a4,ag0,a0,a3]
 ·(try((repeat(revert hN;revert N;apply Pn.out));refine wk (tw @a4 (tw @ag0 (tw @a0 (tw @a3 @hk)))) ?_;(repeat(refine Pn.mk ?_;intro N hN))))
  have eU:k=xs.length:=by omega
  subst eU
  refine SC (.inl rfl) (r0:=.own ⟨fk*1000000+1002,σ.next+1⟩ 0 xs.length) (sd (tw @a4 (tw @ag0 (tw @a0 @a3)))) ?_
  rw[qE]at ag0
  exact fA ag0 (by simp) fun x=>C5 x _
theorem SF {fk:Nat} (hc:mo P fk=some (KK fk (.int .i64 0))) (xs:List Int) (hlen:xs.length<=1048576):j7 P fk [.sl (xs.map fun x=>[AV.int .i64 x])] (.sl (xs.map fun x=>[AV.int .i64 x])):=by
 refine j7.body hc rfl fun hl σ=>?_
 try simp only[q]
 clear hl
 obtain⟨en,DW⟩:∃en:Int->List AV,en=fun x=>[AV.int .i64 x]:=⟨_,rfl⟩
 rw[<-DW]
 have hm:(xs.length:Int)<=((16777216:Nat):Int):=by omega
 have h0:(0:Int)<=(xs.length:Int):=by omega
 (try((repeat(revert hN;revert N;apply Pn.out));refine wk (tw @hm (tw @h0 (tw @Int.le_refl (oM en [AV.int .i64 0] xs)))) ?_;(repeat(refine Pn.mk ?_;intro N hN))))
 refine aM (fun n env st=>∃k:Nat,n=(xs.length)-k/\k<=(xs.length)/\env 4=.int .i64 (k:Int)/\st.get ⟨fk*1000000+1002,σ.next+1⟩=some ⟨true,1,gL en [AV.int .i64 0] xs k⟩) (xs.length) ⟨0,by omega,by omega,sl @Nat.zero_add,sl @Nat.zero_add⟩ ?_
 rintro n_a env_a st_a ⟨k,rfl,ale,a4,ag0⟩ di
 have a0:=di 0 (by kernel_rfl);have a3:=di 3 (by kernel_rfl)
 simp only[go_sem, ↓reduceIte,Nat.reduceEqDiff,Nat.reduceAdd,Nat.reduceSub,Nat.reduceLeDiff,reduceCtorEq]at a0 a3
 clear di
 by_cases hk:(k:Int)<(xs.length:Int)
 ·have cm:∀{e:Env} {gg:Rows},(e 4=.int .i64 (IntKind.i64.wrap ((k:Int)+1)))->(gg ⟨fk*1000000+1002,σ.next+1⟩=some ⟨true,1,gL en [AV.int .i64 0] xs (k+1)⟩)->∃m0,m0<(xs.length)-k/\∃k:Nat,m0=(xs.length)-k/\k<=(xs.length)/\e 4=.int .i64 (k:Int)/\gg ⟨fk*1000000+1002,σ.next+1⟩=some ⟨true,1,gL en [AV.int .i64 0] xs k⟩:=fun x1 x2=>⟨_,by omega,k+1,rfl,by omega,(by rw[x1,ay (by omega)]),x2⟩
  have eU:k<xs.length:=by omega
  have eB:(xs.map en)[k]? =some [AV.int .i64 xs[k]]:=by simp[eU,DW]
  have fe:=qF en [AV.int .i64 0] xs eU
  have dW:=qG en [AV.int .i64 0] xs eU
  rw[show en xs[k]=[AV.int .i64 xs[k]] by rw[DW]]at dW
  (try((repeat(revert hN;revert N;apply Pn.out));refine wk (tw @a4 (tw @ag0 (tw @a0 (tw @a3 (tw @hk (tw @eB (tw @fe @dW))))))) ?_;(repeat(refine Pn.mk ?_;intro N hN))))
  refine cm ?_ ?_
  all_goals simp only[go_sem, ↓reduceIte,Nat.reduceEqDiff,Nat.reduceAdd,Nat.reduceSub,Nat.reduceLeDiff,reduceCtorEq,a4,ag0,a0,a3]
 ·(try((repeat(revert hN;revert N;apply Pn.out));refine wk (tw @a4 (tw @ag0 (tw @a0 (tw @a3 @hk)))) ?_;(repeat(refine Pn.mk ?_;intro N hN))))
  have eU:k=xs.length:=by omega
  subst eU
  refine SC (.inl rfl) (r0:=.own ⟨fk*1000000+1002,σ.next+1⟩ 0 xs.length) (sd (tw @a4 (tw @ag0 (tw @a0 @a3)))) ?_
  rw[qE]at ag0
  exact fA ag0 (by simp) fun x=>by simp[DW,aj,aq,aH]
end Go.Proofs.YtgoljkjaameagaaGreat.V

namespace Go.Proofs.YtgoljkjaameagaaGreat
open Go.RowKit
def Sl (w:World) (fp:List Nat) (v:Value) (n:Nat) (xs:List Value):Prop:=
 ∃A c,v=.slice A n c/\n<=c/\c<=maxLen/\
  ((fp=[]/\n=0)∨∃b o,fp=[b]/\A=some ⟨b,o,none⟩/\∀j u,xs[j]? =some u->w.cell? ⟨b,o+j,none⟩=some u)
def fG (fp:List Nat) (lo hi:Nat):Prop:=∀b∈fp,lo<=b/\b<hi
theorem fG.nil (lo hi:Nat):fG [] lo hi:=fun _ h=>by cases h
theorem Sl.nil (w:World):Sl w [] (.slice none 0 0) 0 []:=⟨none,0,rfl,Nat.le_refl _,by simp[maxLen],.inl ⟨rfl,rfl⟩⟩
def N1 {α:Type} (rep:World->List Nat->List Value->α->Prop) (sz:Nat) (w:World) (oN:List (List Value)) (FC:List (List Nat)) (ds:List α):Prop:=
 oN.length=ds.length/\FC.length=ds.length/\∀(i:Nat) (cs:List Value) (f:List Nat) (d:α),oN[i]? =some cs->FC[i]? =some f->ds[i]? =some d->rep w f cs d/\cs.length=sz
def mV {α:Type} (rep:World->List Nat->List Value->α->Prop) (sz:Nat) (w:World) (fp:List Nat) (v:Value) (ds:List α):Prop:=
 ∃oN FC Uh,fp=Uh++FC.flatten/\Sl w Uh v ds.length oN.flatten/\N1 rep sz w oN FC ds
theorem qY {α:Type} {FC:List (List α)} {i:Nat} {f:List α} (h:FC[i]? =some f):∀b∈f,b∈FC.flatten:=fun b hb=>
 List.mem_flatten.2 ⟨f,List.mem_of_getElem? h,hb⟩
theorem tQ {α:Type} {oN:List (List α)} {sz:Nat} (h:∀cs∈oN,cs.length=sz) {i j:Nat} {cs:List α} (hi:oN[i]? =some cs) (hj:j<sz):oN.flatten[i*sz+j]? =cs[j]? :=by
 induction oN generalizing i with
 |nil=>simp at hi
 |cons c r ih=>
  have hc:c.length=sz:=h c (by simp)
  cases i with
  |zero=>
   simp at hi;subst hi
   rw[List.flatten_cons,List.getElem?_append_left (by omega)];simp
  |succ i=>
   rw[List.flatten_cons,List.getElem?_append_right (by rw[hc,Nat.succ_mul];omega)]
   have:(i+1)*sz+j-c.length=i*sz+j:=by rw[hc,Nat.succ_mul];omega
   rw[this]
   exact ih (fun cs dw=>h cs (List.mem_cons_of_mem _ dw)) (by simpa using hi)
theorem N1.lens {α:Type} {rep:World->List Nat->List Value->α->Prop} {sz:Nat} {w:World} {oN:List (List Value)} {FC:List (List Nat)} {ds:List α}
  (h:N1 rep sz w oN FC ds):∀cs∈oN,cs.length=sz:=fun cs dw=>by
 obtain⟨i,hi,rfl⟩:=List.getElem_of_mem dw
 have h1:i<FC.length:=by rw[h.2.1,<-h.1];exact hi
 have h2:i<ds.length:=by rw[<-h.1];exact hi
 exact(h.2.2 i _ _ _ (List.getElem?_eq_getElem hi) (List.getElem?_eq_getElem h1) (List.getElem?_eq_getElem h2)).2
theorem mV.at_ {α:Type} {rep:World->List Nat->List Value->α->Prop} {sz:Nat} {w:World} {fp:List Nat} {A:Option Addr} {n c:Nat} {ds:List α}
  (h:mV rep sz w fp (.slice A n c) ds) (k:Nat) (hk:k<ds.length):
  ∃b o cs f,A=some ⟨b,o,none⟩/\b∈fp/\(∀x∈f,x∈fp)/\rep w f cs ds[k]/\cs.length=sz/\∀j u,cs[j]? =some u->w.cell? ⟨b,o+(k*sz+j),none⟩=some u:=by
 obtain⟨oN,FC,Uh,rfl,⟨A',c',hv,_,_,hc⟩,hr⟩:=h
 simp only[Value.slice.injEq]at hv
 obtain⟨rfl,hn,rfl⟩:=hv
 rcases hc with⟨_,h0⟩|⟨b,o,rfl,rfl,hc⟩
 ·omega
 have h1:k<oN.length:=by rw[hr.1];exact hk
 have h2:k<FC.length:=by rw[hr.2.1];exact hk
 obtain⟨ia,hl⟩:=hr.2.2 k _ _ _ (List.getElem?_eq_getElem h1) (List.getElem?_eq_getElem h2) (List.getElem?_eq_getElem hk)
 refine⟨b,o,oN[k],FC[k],rfl,by simp,fun x hx=>List.mem_append_right _ (qY (List.getElem?_eq_getElem h2) x hx),ia,hl,fun j u hj=>?_⟩
 have gM:j<sz:=by rw[<-hl];exact(List.getElem?_eq_some_iff.1 hj).1
 exact hc _ u (by rw[tQ hr.lens (List.getElem?_eq_getElem h1) gM];exact hj)
theorem mV.len {α:Type} {rep:World->List Nat->List Value->α->Prop} {sz:Nat} {w:World} {fp:List Nat} {v:Value} {ds:List α}
  (h:mV rep sz w fp v ds):∃A c,v=.slice A ds.length c/\ds.length<=c/\c<=maxLen:=by
 obtain⟨_,_,_,_,⟨A,c,hv,h1,h2,_⟩,_⟩:=h
 exact⟨A,c,hv,h1,h2⟩
theorem mV.nil {α:Type} (rep:World->List Nat->List Value->α->Prop) (sz:Nat) (w:World):mV rep sz w [] (.slice none 0 0) ([]:List α):=
 ⟨[],[],[],rfl,Sl.nil w,rfl,rfl,fun i cs f d hc=>by simp at hc⟩
def Flat {α:Type} (enc:α->List Value):World->List Nat->List Value->α->Prop:=fun _ f cs d=>f=[]/\cs=enc d
def Q (w w':World):Prop:=∃q,w'=w.drewN q
theorem Q.refl (w:World):Q w w:=⟨0,rfl⟩
theorem Q.d {w w':World} (h:Q w w') (n:Nat):Q w (w'.drewN n):=by obtain⟨q,rfl⟩:=h;exact⟨q+n,by rw[World.drewN_drewN]⟩
theorem Q.d1 {w w':World} (h:Q w w'):Q w w'.drew:=by obtain⟨q,rfl⟩:=h;exact⟨q+1,rfl⟩
theorem Q.n (w:World) (n:Nat):Q w (w.drewN n):=⟨n,rfl⟩
theorem Q.trans {a b c:World} (h:Q a b) (k:Q b c):Q a c:=by obtain⟨q,rfl⟩:=k;exact h.d q
theorem IP {B:Nat} {a w:World} (h:Below B a w) (n:Nat):Below B a (w.drewN n):=⟨h.os,h.tape,h.output,h.size,h.block⟩
theorem Q.below {w w':World} (h:Q w w'):Below w.heap.size w w':=by obtain⟨q,rfl⟩:=h;exact IP (Below.refl _ _) q
theorem iH {a b:Bool} (h:a=b):Ending.returned (.bool a)=.returned (.bool b):=by rw[h]
theorem F6 {k:IntKind} {a b:Int} (h:a=b):Ending.returned (.int k a)=.returned (.int k b):=by rw[h]
structure ah where
 eR:Int
 eM:Int
deriving DecidableEq
structure ae where
 bH:ah
 bx:Int
deriving DecidableEq
structure ev where
 ad:List ae
deriving DecidableEq
structure fF where
 aG:ByteArray
 eD:Int
deriving DecidableEq
structure eW where
 aG:ByteArray
 bq:List Int
deriving DecidableEq
structure au where
 aA:List fF
 ad:List eW
deriving DecidableEq
structure aE where
 aB:au
 cw:ev
 az:Int
deriving DecidableEq
def GK (d:Int):List Value:=[.int .i64 d]
def Fh:=Flat GK
def fN (d:ah):List Value:=[.int .i64 d.eR,.int .i64 d.eM]
def Dw (d:ae):List Value:=[.int .i64 d.bH.eR,.int .i64 d.bH.eM,.int .i64 d.bx]
def Bb:=Flat Dw
def jc:=mV Bb 3
def I2 (d:fF):List Value:=[.string d.aG,.int .i64 d.eD]
def Iy:=Flat I2
def rE:=mV Iy 2
def rF:=mV Fh 1
def Iz (w:World) (f:List Nat) (cs:List Value) (d:eW):Prop:=
 ∃v1 f1,f=f1/\cs=[.string d.aG,v1]/\rF w f1 v1 d.bq
def rG:=mV Iz 2
end Go.Proofs.YtgoljkjaameagaaGreat

namespace Go.Proofs.YtgoljkjaameagaaGreat.V
open Go.RowKit
variable {P:Program} {w:World} {D:Nat->Prop}
def Io (P:Program) (w:World) (D:Nat->Prop) (al:List AV) (cs:List Value):Prop:=∀(j:Nat) (a:AV),al[j]? =some a->∃u:Value,cs[j]? =some u/\jH P w D a u
theorem sw {α:Type} {rep:World->List Nat->List Value->α->Prop} {e:α->List AV} {sz:Nat} {f:List Nat} {v:Value} {xs:List α} (h:mV rep sz w f v xs) (hD:∀b∈f,D b)
  (hl:∀x∈xs,(e x).length=sz) (hc:∀x∈xs,∀a∈e x,a.cell=true) (hr:∀x∈xs,∀f' cs,rep w f' cs x->(∀b∈f',D b)->Io P w D (e x) cs):jH P w D (.sl (xs.map e)) v:=by
 obtain⟨A,c,rfl,h1,h2⟩:=mV.len h
 by_cases h0:xs=[]
 ·subst h0;exact .A6 _ _ h2
 have lJ:0<xs.length:=List.length_pos_iff.2 h0
 obtain⟨b,o,Qq,f0,rfl,hb,Tq,Vu,LS,jM⟩:=mV.at_ h 0 lJ
 have key:∀(i:Nat) (hi:i<xs.length),∃cs f',(∀x∈f',x∈f)/\rep w f' cs xs[i]/\cs.length=sz/\∀j u,cs[j]? =some u->w.cell? ⟨b,o+(i*sz+j),none⟩=some u:=by
  intro i hi
  obtain⟨b',o',cs,f',Tk,_,kI,ot,dw,kz⟩:=mV.at_ h i hi
  simp only[Option.some.injEq,Addr.mk.injEq,and_true]at Tk
  obtain⟨rfl,rfl⟩:=Tk
  exact⟨cs,f',kI,ot,dw,kz⟩
 refine .sl _ b o _ c sz (fun i j=>(w.cell? ⟨b,o+(i*sz+j),none⟩).getD Go.undef) (by simp) h1 h2 (hD b hb) ?_ ?_ ?_ ?_
 ·intro cs dw
  obtain⟨x,hx,rfl⟩:=List.mem_map.1 dw
  exact hl x hx
 ·intro cs dw
  obtain⟨x,hx,rfl⟩:=List.mem_map.1 dw
  exact hc x hx
 ·intro i j hi hj
  obtain⟨cs,f',_,_,dw,kz⟩:=key i hi
  rw[kz j cs[j] (List.getElem?_eq_getElem (by omega))]
  rfl
 ·intro i j cs a dw ha
  have hi:i<xs.length:=by
   have:=(List.getElem?_eq_some_iff.1 dw).1
   simpa using this
  obtain⟨ql,f',kI,ot,hcs',kz⟩:=key i hi
  simp[hi]at dw
  subst dw
  obtain⟨u,hu,him⟩:=hr _ (List.getElem_mem hi) f' ql ot (fun b hb=>hD b (kI b hb)) j a ha
  rw[kz j u hu]
  exact him
end Go.Proofs.YtgoljkjaameagaaGreat.V

namespace Go.Proofs.YtgoljkjaameagaaGreat.V
open Go.RowKit
variable {P:Program} {w:World} {D:Nat->Prop}
def aw (d:Int):List AV:=[.int .i64 d]
def ab (d:ah):List AV:=[.int .i64 d.eR,.int .i64 d.eM]
def ai (d:ae):List AV:=[.int .i64 d.bH.eR,.int .i64 d.bH.eM,.int .i64 d.bx]
def aP (d:ev):List AV:=[.sl (d.ad.map ai)]
def bV (d:fF):List AV:=[.str d.aG,.int .i64 d.eD]
def bm (d:eW):List AV:=[.str d.aG,.sl (d.bq.map aw)]
def aa (d:au):List AV:=[.sl (d.aA.map bV),.sl (d.ad.map bm)]
def aD (d:aE):List AV:=[.sl (d.aB.aA.map bV),.sl (d.aB.ad.map bm),.sl (d.cw.ad.map ai),.int .i64 d.az]
theorem tK {f:List Nat} {v:Value} {xs:List ae} (h:jc w f v xs) (hD:∀b∈f,D b):jH P w D (.sl (xs.map ai)) v:=
 sw h hD (fun _ _=>rfl) (fun x _ a ha=>by simp[ai]at ha;rcases ha with rfl|rfl|rfl<;>rfl) fun x _ f' cs hr hf=>by
  obtain⟨_,rfl⟩:=hr
  intro j a ha
  match j,ha with
  |0,ha=>simp[ai]at ha;subst ha;exact⟨_,rfl,.int _ _⟩
  |1,ha=>simp[ai]at ha;subst ha;exact⟨_,rfl,.int _ _⟩
  |2,ha=>simp[ai]at ha;subst ha;exact⟨_,rfl,.int _ _⟩
  |j+3,ha=>simp[ai]at ha
theorem zi {d:ev} {f0:List Nat} {v0:Value} (h0:jc w f0 v0 d.ad) (d0:∀b∈f0,D b):jH P w D (.agg (aP d)) (.agg #[v0]):=by
 refine .agg _ _ (fun j=>(#[v0]:Array Value).getD j Go.undef) rfl (fun a ha=>by simp[aP]at ha;rcases ha with rfl<;>rfl) (fun j hj=>?_) (fun j a ha=>?_)
 ·match j,hj with
  |0,_=>rfl
  |j+1,hj=>simp[aP]at hj<;>omega
 ·match j,ha with
  |0,ha=>simp[aP]at ha;subst ha;exact tK h0 d0
  |j+1,ha=>simp[aP]at ha
theorem Gi {f:List Nat} {v:Value} {xs:List fF} (h:rE w f v xs) (hD:∀b∈f,D b):jH P w D (.sl (xs.map bV)) v:=
 sw h hD (fun _ _=>rfl) (fun x _ a ha=>by simp[bV]at ha;rcases ha with rfl|rfl<;>rfl) fun x _ f' cs hr hf=>by
  obtain⟨_,rfl⟩:=hr
  intro j a ha
  match j,ha with
  |0,ha=>simp[bV]at ha;subst ha;exact⟨_,rfl,.str _⟩
  |1,ha=>simp[bV]at ha;subst ha;exact⟨_,rfl,.int _ _⟩
  |j+2,ha=>simp[bV]at ha
theorem vh {f:List Nat} {v:Value} {xs:List Int} (h:rF w f v xs) (hD:∀b∈f,D b):jH P w D (.sl (xs.map aw)) v:=
 sw h hD (fun _ _=>rfl) (fun x _ a ha=>by simp[aw]at ha;rcases ha with rfl<;>rfl) fun x _ f' cs hr hf=>by
  obtain⟨_,rfl⟩:=hr
  intro j a ha
  match j,ha with
  |0,ha=>simp[aw]at ha;subst ha;exact⟨_,rfl,.int _ _⟩
  |j+1,ha=>simp[aw]at ha
theorem Gq {f:List Nat} {v:Value} {xs:List eW} (h:rG w f v xs) (hD:∀b∈f,D b):jH P w D (.sl (xs.map bm)) v:=
 sw h hD (fun _ _=>rfl) (fun x _ a ha=>by simp[bm]at ha;rcases ha with rfl|rfl<;>rfl) fun x _ f' cs hr hf=>by
  obtain⟨v1,f1,rfl,rfl,h1⟩:=hr
  intro j a ha
  match j,ha with
  |0,ha=>simp[bm]at ha;subst ha;exact⟨_,rfl,.str _⟩
  |1,ha=>simp[bm]at ha;subst ha;exact⟨_,rfl,vh h1 hf⟩
  |j+2,ha=>simp[bm]at ha
theorem Di {d:aE} {f0:List Nat} {v0:Value} (h0:rE w f0 v0 d.aB.aA) (d0:∀b∈f0,D b) {f1:List Nat} {v1:Value} (h1:rG w f1 v1 d.aB.ad) (d1:∀b∈f1,D b) {f2:List Nat} {v2:Value} (h2:jc w f2 v2 d.cw.ad) (d2:∀b∈f2,D b):jH P w D (.agg (aD d)) (.agg #[v0,v1,v2,.int .i64 d.az]):=by
 refine .agg _ _ (fun j=>(#[v0,v1,v2,.int .i64 d.az]:Array Value).getD j Go.undef) rfl (fun a ha=>by simp[aD]at ha;rcases ha with rfl|rfl|rfl|rfl<;>rfl) (fun j hj=>?_) (fun j a ha=>?_)
 ·match j,hj with
  |0,_=>rfl
  |1,_=>rfl
  |2,_=>rfl
  |3,_=>rfl
  |j+4,hj=>simp[aD]at hj<;>omega
 ·match j,ha with
  |0,ha=>simp[aD]at ha;subst ha;exact Gi h0 d0
  |1,ha=>simp[aD]at ha;subst ha;exact Gq h1 d1
  |2,ha=>simp[aD]at ha;subst ha;exact tK h2 d2
  |3,ha=>simp[aD]at ha;subst ha;exact .int _ _
  |j+4,ha=>simp[aD]at ha
end Go.Proofs.YtgoljkjaameagaaGreat.V

namespace Go.Proofs.YtgoljkjaameagaaGreat.V
open Go.RowKit
attribute [local irreducible] eu wpOps gq Call
attribute [local go_sem] aI fJ eP fZ fY dc upd cz K.av cJ AV.cells AV.cell rowOf rowsOf part ld rowAt bR cq dC ea gV bJ cZ eo fX eY dr ef cX cW dM dO bP aX cN bL cQ cP ec eh ee cL bU cY eb bK aO cU cG gU bp cI bQ aW dx bf dD AV.undef bD bF dR dY dI dP cH ek ew cF ej ei cR cV List.getD_cons_zero List.getD_cons_succ List.getD_nil List.all_cons List.all_nil Bool.and_true Bool.true_and Bool.and_self Bool.not_true Bool.not_false Option.map_some Option.map_none Option.bind_some Option.bind_none List.length_cons List.length_nil List.take_succ_cons List.take_zero List.take_nil List.drop_succ_cons List.drop_zero List.drop_nil List.head?_cons List.map_cons List.map_nil List.getElem?_cons_zero List.getElem?_cons_succ List.cons_append List.nil_append List.append_nil List.length_map List.set_cons_zero List.set_cons_succ Nat.reduceMul eq_self Int.toNat_natCast Int.natCast_nonneg and_self true_and and_true decide_true decide_false Bool.false_eq_true Nat.zero_add Nat.add_zero List.contains_cons List.contains_nil Bool.or_false Bool.false_or beq_self_eq_true Nat.reduceBEq ne_eq not_true_eq_false not_false_eq_true Id.mk.injEq false_and and_false Nat.reduceLT Int.reduceLE Int.reduceLT Int.reduceToNat Int.reduceNeg Int.reduceAdd Nat.le_refl List.length_append beq_true beq_false Bool.not_eq_eq_eq_not or_false false_or dJ aj aq aH aZ bB ck aT bc aU aY cK bG
variable {P:Program}
theorem Fb {X:fK} {Q:Ex->Env->ax->Prop} {N:Env->ax->Prop} {c:VC} {env:Env} {σ:ax} (I:Env->ax->Prop) (h2:∀e s,I e s->N e s) (h1:∀N':Env->ax->Prop,(∀e s,I e s->N' e s)->eu X c (dx N' Q) env σ):eu X c (dx N Q) env σ:=h1 N h2
def tj (f z:Nat) (a:Bool):AP:=let s:=f*1000000
 ⟨19,2,(.seq (.eT false [q 4 (.dq (.k (.int .i64 0))) s]) (.seq (.seq (.eT false [q 6 (.dq (.t 0)) (s+1000),q 7 (.len (.t 6)) (s+1001),q 8 (.dq (.k (.int .i64 0))) (s+1002)]) (.block 0 (.loop (.seq (.eT false [q 9 (.bin .lss .i64 (.t 8) (.t 7)) (s+2000)]) (.seq (.cond (.t 9) .skip (.exit 0)) (.seq (.block 1 (.seq (.eT false [q 10 (.dq (.t 8)) (s+3000),q 5 (.dq (.t 10)) (s+3001)]) (.seq (.eT false [q 11 (.dq (.t 1)) (s+4000),q 12 (.dq (.t 0)) (s+4001),q 13 (.dq (.t 5)) (s+4002),q 14 (.dL z (.t 12) (.t 13)) (s+4003),q 15 (.load a z (.t 14)) (s+4004),q 16 (.tN (.t 11) [(.t 15)]) (s+4005)]) (.cond (.t 16) (.seq (.eT false [q 17 (.dq (.t 5)) (s+5000),q 4 (.dq (.t 17)) (s+5001)]) .ret) .skip)))) (.eT false [q 18 (.bin .add .i64 (.t 8) (.k (.int .i64 1))) (s+6000),q 8 (.dq (.t 18)) (s+6001)]))))))) (.seq (.eT false [q 4 (.dq (.k (.int .i64 (-1)))) (s+7000)]) .ret))),[(.tmp 4)]⟩
def zK (f g:Nat):AP:=let s:=f*1000000
 ⟨9,2,(.seq (.eT false [q 4 (.dq (.k (.bool false))) s]) (.seq (.eT false [q 5 (.dq (.t 0)) (s+1000),q 6 (.dq (.t 1)) (s+1001),q 7 (.call g [(.t 5),(.t 6)]) (s+1002),q 8 (.bin .geq .i64 (.t 7) (.k (.int .i64 0))) (s+1003),q 4 (.dq (.t 8)) (s+1004)]) .ret)),[(.tmp 4)]⟩
def kr {α:Type} (p:α->Bool) (xs:List α):Int:=if xs.findIdx p<xs.length then(xs.findIdx p:Int)else -1
theorem I6 {α:Type} (p:α->Bool) (xs:List α):decide (0<=kr p xs)=xs.any p:=by
 unfold kr
 by_cases h:xs.findIdx p<xs.length
 ·rw[if_pos h]
  have:xs.any p=true:=List.any_eq_true.2 (List.findIdx_lt_length.1 h)
  rw[this];simp
 ·rw[if_neg h]
  have:xs.any p=false:=by
   rw[Bool.eq_false_iff]
   intro hc
   exact h (List.findIdx_lt_length.2 (List.any_eq_true.1 hc))
  rw[this];rfl
theorem uH (a:AV) (l m:List AV):a::l++m=a::(l++m):=rfl
theorem zr (l:List AV):[]++l=l:=rfl
structure QV {α:Type} (e:α->List AV) (v:α->AV) (z:Nat) (a:Bool):Prop where
 len:∀x,(e x).length=z
 val:∀x,if a=true then v x=.agg (e x)else e x=[v x]
 fz:∀x g,dd g 6 [v x]=some [v x]
theorem ua {α:Type} {e:α->List AV} {v:α->AV} {z fk:Nat} {a:Bool} (hE:QV e v z a) (hc:mo P fk=some (tj fk z a)) (xs:List α) (hlen:xs.length<=1048576) (f:Nat) (db:List AV) (p:α->Bool)
  (hf:∀x∈xs,ar P f (v x::db) (.bool (p x))) (Jp:∀g,dd g 6 db=some db):
  ar P fk [.sl (xs.map e),.fn f db] (.int .i64 (kr p xs)):=by
 refine ar.body hc rfl fun hl n0=>?_
 try simp only[q]
 clear hl
 (try((repeat(revert hN;revert N;apply Pn.out));refine wk @Nat.zero_add ?_;(repeat(refine Pn.mk ?_;intro N hN))))
 refine aM (fun n env st=>∃k:Nat,n=(xs.length)-k/\k<=(xs.length)/\env 8=.int .i64 (k:Int)/\(∀j:Nat,j<k->∀h:j<xs.length,p xs[j]=false)) (xs.length) ⟨0,by omega,by omega,sl @Nat.zero_add,fun _ h=>absurd h (Nat.not_lt_zero _)⟩ ?_
 rintro n_a env_a st_a ⟨k,rfl,ale,a8,me⟩ di
 have a0:=di 0 (by kernel_rfl);have a1:=di 1 (by kernel_rfl);have a7:=di 7 (by kernel_rfl)
 simp only[go_sem, ↓reduceIte,Nat.reduceEqDiff,Nat.reduceAdd,Nat.reduceSub,Nat.reduceLeDiff,reduceCtorEq]at a0 a1 a7
 clear di
 by_cases hk:(k:Int)<(xs.length:Int)
 ·have cm:∀{e:Env},(e 8=.int .i64 (IntKind.i64.wrap ((k:Int)+1)))->(∀h:k<xs.length,p xs[k]=false)->∃m0,m0<(xs.length)-k/\∃k:Nat,m0=(xs.length)-k/\k<=(xs.length)/\e 8=.int .i64 (k:Int)/\(∀j:Nat,j<k->∀h:j<xs.length,p xs[j]=false):=fun x1 x2=>⟨_,by omega,k+1,rfl,by omega,(by rw[x1,ay (by omega)]),(all_succ me x2)⟩
  have eU:k<xs.length:=by omega
  have hg:(xs.map e)[k]? =some (e xs[k]):=by simp[eU]
  have B3:=hf _ (List.getElem_mem eU)
  have hz:=hE.len xs[k]
  have hv:=hE.val xs[k]
  have kK:dd (dJ st_a.get) 6 (v xs[k]::db)=some (v xs[k]::db):=by
   have h1:=hE.fz xs[k] (dJ st_a.get)
   rw[aj,aq]at h1
   rw[aj,Jp]
   revert h1
   cases V.fz (dJ st_a.get) 6 (v xs[k])<;>simp
  have fin:∀hN:True,(p xs[k]=true->xs.findIdx p=k):=fun _ hp=>by
   rw[List.findIdx_eq eU];exact⟨hp,fun j hj=>me j hj (by omega)⟩
  cases hp:p xs[k]
  ·have TA:=hp
   cases a
   ·rw[if_neg (by simp)]at hv
    have yJ:z=1:=by rw[<-hz,hv];rfl
    subst yJ
    rw[hv]at hg hz
    rw[hp]at B3
    generalize v xs[k]=c at B3 kK hg hz
    (try((repeat(revert hN;revert N;apply Pn.out));refine wk (tw @a8 (tw @a0 (tw @a1 (tw @a7 (tw @hk (tw @hg (tw @hz (tw @uH @zr)))))))) ?_;(repeat(refine Pn.mk ?_;intro N hN))))
    refine .inl ⟨_,ar.x B3 kK,?_⟩
    refine hN _ _ ?_
    clear hN N
    (try((repeat(revert hN;revert N;apply Pn.out));refine wk (tw @a8 (tw @a0 (tw @a1 @a7))) ?_;(repeat(refine Pn.mk ?_;intro N hN))))
    exact cm (sd (tw @a8 (tw @a0 (tw @a1 @a7)))) (fun _=>TA)
   ·rw[if_pos rfl]at hv
    have ht:(e xs[k]).take z=e xs[k]:=by rw[<-hz,List.take_length]
    rw[hv]at B3 kK
    rw[hp]at B3
    generalize e xs[k]=c at B3 kK hg hz ht
    (try((repeat(revert hN;revert N;apply Pn.out));refine wk (tw @a8 (tw @a0 (tw @a1 (tw @a7 (tw @hk (tw @hg (tw @hz (tw @ht (tw @uH (tw @zr @Nat.le_refl)))))))))) ?_;(repeat(refine Pn.mk ?_;intro N hN))))
    refine .inl ⟨_,ar.x B3 kK,?_⟩
    refine hN _ _ ?_
    clear hN N
    (try((repeat(revert hN;revert N;apply Pn.out));refine wk (tw @a8 (tw @a0 (tw @a1 @a7))) ?_;(repeat(refine Pn.mk ?_;intro N hN))))
    exact cm (sd (tw @a8 (tw @a0 (tw @a1 @a7)))) (fun _=>TA)
  ·have hi:=fin trivial hp
   cases a
   ·rw[if_neg (by simp)]at hv
    have yJ:z=1:=by rw[<-hz,hv];rfl
    subst yJ
    rw[hv]at hg hz
    rw[hp]at B3
    generalize v xs[k]=c at B3 kK hg hz
    (try((repeat(revert hN;revert N;apply Pn.out));refine wk (tw @a8 (tw @a0 (tw @a1 (tw @a7 (tw @hk (tw @hg (tw @hz (tw @uH @zr)))))))) ?_;(repeat(refine Pn.mk ?_;intro N hN))))
    refine .inl ⟨_,ar.x B3 kK,?_⟩
    refine hN _ _ ?_
    clear hN N
    (try((repeat(revert hN;revert N;apply Pn.out));refine wk (tw @a8 (tw @a0 (tw @a1 @a7))) ?_;(repeat(refine Pn.mk ?_;intro N hN))))
    exact cr (b:=(k:Int)) (.inl rfl) (sd @Nat.zero_add) (by rw[kr,hi,if_pos eU])
   ·rw[if_pos rfl]at hv
    have ht:(e xs[k]).take z=e xs[k]:=by rw[<-hz,List.take_length]
    rw[hv]at B3 kK
    rw[hp]at B3
    generalize e xs[k]=c at B3 kK hg hz ht
    (try((repeat(revert hN;revert N;apply Pn.out));refine wk (tw @a8 (tw @a0 (tw @a1 (tw @a7 (tw @hk (tw @hg (tw @hz (tw @ht (tw @uH (tw @zr @Nat.le_refl)))))))))) ?_;(repeat(refine Pn.mk ?_;intro N hN))))
    refine .inl ⟨_,ar.x B3 kK,?_⟩
    refine hN _ _ ?_
    clear hN N
    (try((repeat(revert hN;revert N;apply Pn.out));refine wk (tw @a8 (tw @a0 (tw @a1 @a7))) ?_;(repeat(refine Pn.mk ?_;intro N hN))))
    exact cr (b:=(k:Int)) (.inl rfl) (sd @Nat.zero_add) (by rw[kr,hi,if_pos eU])
 ·(try((repeat(revert hN;revert N;apply Pn.out));refine wk (tw @a8 (tw @a0 (tw @a1 (tw @a7 @hk)))) ?_;(repeat(refine Pn.mk ?_;intro N hN))))
  have hi:¬xs.findIdx p<xs.length:=by
   rw[List.findIdx_lt_length]
   rintro⟨x,hx,Pf⟩
   obtain⟨j,hj,rfl⟩:=List.getElem_of_mem hx
   rw[me j (by omega) hj]at Pf;cases Pf
  exact cr (b:=-1) (.inl rfl) (sd @Nat.zero_add) (by rw[kr,if_neg hi])
theorem kX {α:Type} {e:α->List AV} {v:α->AV} {z fk gk:Nat} {a:Bool} (hE:QV e v z a) (hc:mo P fk=some (zK fk gk)) (DT:mo P gk=some (tj gk z a)) (xs:List α) (hlen:xs.length<=1048576) (f:Nat) (db:List AV) (p:α->Bool) (DU:db.all AV.cell=true) (C5:∀g,dd g 5 db=some db)
  (hf:∀x∈xs,ar P f (v x::db) (.bool (p x))) (Jp:∀g,dd g 6 db=some db):
  ar P fk [.sl (xs.map e),.fn f db] (.bool (xs.any p)):=by
 refine ar.body hc rfl fun hl n0=>?_
 try simp only[q]
 clear hl
 have hi:=ua hE DT xs hlen f db p hf Jp
 (repeat(first|((repeat(revert hN;revert N;apply Pn.out));refine wk (tw @DU @C5) ?_;(repeat(refine Pn.mk ?_;intro N hN)))|((try apply Or.inl);refine⟨_,ar.x (hi) (sd (tw @DU @C5)),?_⟩;refine hN _ _ ?_;clear hN N)))
 exact aQ (b:=decide (0<=kr p xs)) (.inl rfl) (sd @Nat.zero_add) (I6 p xs)
end Go.Proofs.YtgoljkjaameagaaGreat.V

namespace Go.Proofs.YtgoljkjaameagaaGreat.V
open Go.RowKit
def sb (P:Program) (mk:Bool):List Oper->Nat->List Nat
 |[],_=>[]
 |o::r,i=>match rn P o.op with
  |some v=>if qW v||mk&&v.l6 then i::sb P mk r (i+1)else sb P mk r (i+1)
  |none=>sb P mk r (i+1)
def zu (P:Program) (ops:Array Oper) (site0:Nat) (mk:Bool) (bs:Array Nat) (hidden:List Nat):List Oper->Nat->Option (List bt)
 |[],_=>some []
 |o::r,j=>do
  let v <-rn P o.op
  let g <-Ds ops o
  pure ({dst:=o.dst,op:=v,guard:=g,site:=site0+j,hid:=(hidden.filter fun i=> !(bs.getD j 0).testBit i&&(i !=j||mk&&v.l6)).map fun i=>site0+i}::(<-zu P ops site0 mk bs hidden r (j+1)))
def qy (P:Program) (md:List (Nat×Nat)) (vR:Nat):Code->Option VC
 | .skip=>some .skip
 | .region id ops draw=>if draw then(zu P ops ((vR*1000+id)*1000) (wI md id==1) (jD ops) (sb P (wI md id==1) ops.toList 0) ops.toList 0).map (VC.eT true)else(zu P ops ((vR*1000+id)*1000) false #[] [] ops.toList 0).map (if ops.toList.any fun o=>NM o.op then VC.Ol else VC.eT false)
 | .seq a b=>do pure (.seq (<-qy P md vR a) (<-qy P md vR b))
 | .cond c x y=>do pure (.cond (<-cO P c) (<-qy P md vR x) (<-qy P md vR y))
 | .block id c=>(qy P md vR c).map (VC.block id)
 | .loop c=>(qy P md vR c).map VC.loop
 | .exit id=>some (.exit id)
 | .ret=>some .ret
 |_=>none
def Q5 (P:Program) (md:List (Nat×Nat)) (f:Nat):Option AP:=
 match P.funcs[f]? with
 |some fn=>match fn.body with
  |some c=>do
   let b <-qy P md f c
   let r <-fn.results.toList.mapM (Dt P)
   pure {ntmps:=fn.ntmps,yW:=fn.params.size+fn.nfree,body:=b,res:=r}
  |none=>none
 |none=>none
theorem cfM {P:Program} (md:List (Nat×Nat)) {f:Nat} {v:AP} (_:Q5 P md f=some v:=by(conv=>lhs;cbv)<;>exact rfl) (h:xG P f md=some v:=by kernel_rfl):xG P f md=some v:=h
theorem eG {P:Program} {f:Nat} {v:AP} (_:Q5 P [] f=some v:=by(conv=>lhs;cbv)<;>exact rfl) (h:mo P f=some v:=by kernel_rfl):mo P f=some v:=h
def PT:AP:=⟨77,2,(.seq (.eT false [q 4 (.dq (.k .gO)) 251000000]) (.seq (.eT false [q 7 (.dq (.t 0)) 251001000,q 8 (.dq (.t 1)) 251001001,q 9 (.build [(.int .i64 0),.cu,.cu,.cu] [(0,(1,(.t 7))),(1,(1,(.t 8)))]) 251001002,q 10 (.box (.t 9)) 251001003,q 5 (.dq (.t 10)) 251001004]) (.seq (.eT false [q 11 (.dq (.t 5)) 251002000,q 12 (.dq (.t 0)) 251002001,q 13 (.j4 [.cu] (.t 12) (.t 12)) 251002002,q 14 (.Bt (.t 11)) 251002003,q 15 (.gm 2 (.t 14)) 251002004,⟨none,(.store 1 (.t 15) (.t 13)),none,251002005,[]⟩]) (.seq (.eT false [q 16 (.dq (.t 5)) 251003000,q 17 (.dq (.t 1)) 251003001,q 18 (.len (.t 17)) 251003002,q 19 (.j4 [(.int .i64 0)] (.t 18) (.t 18)) 251003003,q 20 (.Bt (.t 16)) 251003004,q 21 (.gm 3 (.t 20)) 251003005,⟨none,(.store 1 (.t 21) (.t 19)),none,251003006,[]⟩]) (.seq (.seq (.eT false [q 6 (.dq (.k (.int .i64 0))) 251004000]) (.block 0 (.loop (.seq (.seq (.eT false [q 22 (.dq (.t 6)) 251005000,q 23 (.dq (.t 1)) 251005001,q 24 (.len (.t 23)) 251005002,q 25 (.bin .lss .i64 (.t 22) (.t 24)) 251005003]) (.cond (.t 25) .skip (.exit 0))) (.seq (.block 1 (.seq (.one ⟨(some 28),(.dq (.t 5)),none,251007000,[251007021,251007022,251007024]⟩ (.one ⟨(some 29),(.Bt (.t 28)),none,251007001,[251007021,251007022,251007024]⟩ (.one ⟨(some 30),(.gm 2 (.t 29)),none,251007002,[251007021,251007022,251007024]⟩ (.one ⟨(some 32),(.dq (.t 1)),none,251007004,[251007021,251007022,251007024]⟩ (.one ⟨(some 33),(.dq (.t 6)),none,251007005,[251007021,251007022,251007024]⟩ (.one ⟨(some 37),(.dq (.t 5)),none,251007009,[251007021,251007022,251007024]⟩ (.one ⟨(some 38),(.Bt (.t 37)),none,251007010,[251007021,251007022,251007024]⟩ (.one ⟨(some 39),(.gm 2 (.t 38)),none,251007011,[251007021,251007022,251007024]⟩ (.one ⟨(some 40),(.load false 1 (.t 39)),none,251007012,[251007021,251007022,251007024]⟩ (.one ⟨(some 41),(.dq (.t 1)),none,251007013,[251007021,251007022,251007024]⟩ (.one ⟨(some 42),(.dq (.t 6)),none,251007014,[251007021,251007022,251007024]⟩ (.one ⟨(some 43),(.dL 3 (.t 41) (.t 42)),none,251007015,[251007021,251007022,251007024]⟩ (.one ⟨(some 44),(.gm 0 (.t 43)),none,251007016,[251007021,251007022,251007024]⟩ (.one ⟨(some 45),(.load false 1 (.t 44)),none,251007017,[251007021,251007022,251007024]⟩ (.one ⟨(some 46),(.dL 1 (.t 40) (.t 45)),none,251007018,[251007021,251007022,251007024]⟩ (.one ⟨(some 47),(.load false 1 (.t 46)),none,251007019,[251007021,251007022,251007024]⟩ (.one ⟨(some 48),(.dq (.t 6)),none,251007020,[251007021,251007022,251007024]⟩ (.one ⟨(some 49),(.nh 1 1 [(.t 48)]),none,251007021,[251007022,251007024]⟩ (.both (.one ⟨(some 31),(.load false 1 (.t 30)),none,251007003,[251007021,251007022,251007024]⟩ (.both (.one ⟨(some 34),(.dL 3 (.t 32) (.t 33)),none,251007006,[251007021,251007022,251007024]⟩ (.one ⟨(some 35),(.gm 0 (.t 34)),none,251007007,[251007021,251007022,251007024]⟩ (.both (.one ⟨(some 36),(.load false 1 (.t 35)),none,251007008,[251007021,251007022,251007024]⟩ (.one ⟨(some 50),(.append 1 (.t 47) (.t 49)),none,251007022,[251007024]⟩ (.one ⟨(some 51),(.dL 1 (.t 31) (.t 36)),none,251007023,[251007024]⟩ (.one ⟨none,(.store 1 (.t 51) (.t 50)),none,251007024,[]⟩ (.eT false []))))) (.one ⟨(some 50),(.append 1 (.t 47) (.t 49)),none,251007022,[251007024]⟩ (.one ⟨(some 36),(.load false 1 (.t 35)),none,251007008,[251007021,251007022,251007024]⟩ (.one ⟨(some 51),(.dL 1 (.t 31) (.t 36)),none,251007023,[251007024]⟩ (.one ⟨none,(.store 1 (.t 51) (.t 50)),none,251007024,[]⟩ (.eT false [])))))))) (.one ⟨(some 50),(.append 1 (.t 47) (.t 49)),none,251007022,[251007024]⟩ (.one ⟨(some 34),(.dL 3 (.t 32) (.t 33)),none,251007006,[251007021,251007022,251007024]⟩ (.one ⟨(some 35),(.gm 0 (.t 34)),none,251007007,[251007021,251007022,251007024]⟩ (.one ⟨(some 36),(.load false 1 (.t 35)),none,251007008,[251007021,251007022,251007024]⟩ (.one ⟨(some 51),(.dL 1 (.t 31) (.t 36)),none,251007023,[251007024]⟩ (.one ⟨none,(.store 1 (.t 51) (.t 50)),none,251007024,[]⟩ (.eT false []))))))))) (.both (.one ⟨(some 34),(.dL 3 (.t 32) (.t 33)),none,251007006,[251007021,251007022,251007024]⟩ (.one ⟨(some 35),(.gm 0 (.t 34)),none,251007007,[251007021,251007022,251007024]⟩ (.both (.one ⟨(some 31),(.load false 1 (.t 30)),none,251007003,[251007021,251007022,251007024]⟩ (.both (.one ⟨(some 36),(.load false 1 (.t 35)),none,251007008,[251007021,251007022,251007024]⟩ (.one ⟨(some 50),(.append 1 (.t 47) (.t 49)),none,251007022,[251007024]⟩ (.one ⟨(some 51),(.dL 1 (.t 31) (.t 36)),none,251007023,[251007024]⟩ (.one ⟨none,(.store 1 (.t 51) (.t 50)),none,251007024,[]⟩ (.eT false []))))) (.one ⟨(some 50),(.append 1 (.t 47) (.t 49)),none,251007022,[251007024]⟩ (.one ⟨(some 36),(.load false 1 (.t 35)),none,251007008,[251007021,251007022,251007024]⟩ (.one ⟨(some 51),(.dL 1 (.t 31) (.t 36)),none,251007023,[251007024]⟩ (.one ⟨none,(.store 1 (.t 51) (.t 50)),none,251007024,[]⟩ (.eT false []))))))) (.both (.one ⟨(some 36),(.load false 1 (.t 35)),none,251007008,[251007021,251007022,251007024]⟩ (.both (.one ⟨(some 31),(.load false 1 (.t 30)),none,251007003,[251007021,251007022,251007024]⟩ (.one ⟨(some 50),(.append 1 (.t 47) (.t 49)),none,251007022,[251007024]⟩ (.one ⟨(some 51),(.dL 1 (.t 31) (.t 36)),none,251007023,[251007024]⟩ (.one ⟨none,(.store 1 (.t 51) (.t 50)),none,251007024,[]⟩ (.eT false []))))) (.one ⟨(some 50),(.append 1 (.t 47) (.t 49)),none,251007022,[251007024]⟩ (.one ⟨(some 31),(.load false 1 (.t 30)),none,251007003,[251007021,251007022,251007024]⟩ (.one ⟨(some 51),(.dL 1 (.t 31) (.t 36)),none,251007023,[251007024]⟩ (.one ⟨none,(.store 1 (.t 51) (.t 50)),none,251007024,[]⟩ (.eT false []))))))) (.one ⟨(some 50),(.append 1 (.t 47) (.t 49)),none,251007022,[251007024]⟩ (.one ⟨(some 31),(.load false 1 (.t 30)),none,251007003,[251007021,251007022,251007024]⟩ (.one ⟨(some 36),(.load false 1 (.t 35)),none,251007008,[251007021,251007022,251007024]⟩ (.one ⟨(some 51),(.dL 1 (.t 31) (.t 36)),none,251007023,[251007024]⟩ (.one ⟨none,(.store 1 (.t 51) (.t 50)),none,251007024,[]⟩ (.eT false [])))))))))) (.one ⟨(some 50),(.append 1 (.t 47) (.t 49)),none,251007022,[251007024]⟩ (.one ⟨(some 31),(.load false 1 (.t 30)),none,251007003,[251007021,251007022,251007024]⟩ (.one ⟨(some 34),(.dL 3 (.t 32) (.t 33)),none,251007006,[251007021,251007022,251007024]⟩ (.one ⟨(some 35),(.gm 0 (.t 34)),none,251007007,[251007021,251007022,251007024]⟩ (.one ⟨(some 36),(.load false 1 (.t 35)),none,251007008,[251007021,251007022,251007024]⟩ (.one ⟨(some 51),(.dL 1 (.t 31) (.t 36)),none,251007023,[251007024]⟩ (.one ⟨none,(.store 1 (.t 51) (.t 50)),none,251007024,[]⟩ (.eT false [])))))))))))))))))))))))))))) (.one ⟨(some 52),(.dq (.t 5)),none,251008000,[251008021,251008022,251008024]⟩ (.one ⟨(some 53),(.Bt (.t 52)),none,251008001,[251008021,251008022,251008024]⟩ (.one ⟨(some 54),(.gm 2 (.t 53)),none,251008002,[251008021,251008022,251008024]⟩ (.one ⟨(some 56),(.dq (.t 1)),none,251008004,[251008021,251008022,251008024]⟩ (.one ⟨(some 57),(.dq (.t 6)),none,251008005,[251008021,251008022,251008024]⟩ (.one ⟨(some 61),(.dq (.t 5)),none,251008009,[251008021,251008022,251008024]⟩ (.one ⟨(some 62),(.Bt (.t 61)),none,251008010,[251008021,251008022,251008024]⟩ (.one ⟨(some 63),(.gm 2 (.t 62)),none,251008011,[251008021,251008022,251008024]⟩ (.one ⟨(some 64),(.load false 1 (.t 63)),none,251008012,[251008021,251008022,251008024]⟩ (.one ⟨(some 65),(.dq (.t 1)),none,251008013,[251008021,251008022,251008024]⟩ (.one ⟨(some 66),(.dq (.t 6)),none,251008014,[251008021,251008022,251008024]⟩ (.one ⟨(some 67),(.dL 3 (.t 65) (.t 66)),none,251008015,[251008021,251008022,251008024]⟩ (.one ⟨(some 68),(.gm 1 (.t 67)),none,251008016,[251008021,251008022,251008024]⟩ (.one ⟨(some 69),(.load false 1 (.t 68)),none,251008017,[251008021,251008022,251008024]⟩ (.one ⟨(some 70),(.dL 1 (.t 64) (.t 69)),none,251008018,[251008021,251008022,251008024]⟩ (.one ⟨(some 71),(.load false 1 (.t 70)),none,251008019,[251008021,251008022,251008024]⟩ (.one ⟨(some 72),(.dq (.t 6)),none,251008020,[251008021,251008022,251008024]⟩ (.one ⟨(some 73),(.nh 1 1 [(.t 72)]),none,251008021,[251008022,251008024]⟩ (.both (.one ⟨(some 55),(.load false 1 (.t 54)),none,251008003,[251008021,251008022,251008024]⟩ (.both (.one ⟨(some 58),(.dL 3 (.t 56) (.t 57)),none,251008006,[251008021,251008022,251008024]⟩ (.one ⟨(some 59),(.gm 1 (.t 58)),none,251008007,[251008021,251008022,251008024]⟩ (.both (.one ⟨(some 60),(.load false 1 (.t 59)),none,251008008,[251008021,251008022,251008024]⟩ (.one ⟨(some 74),(.append 1 (.t 71) (.t 73)),none,251008022,[251008024]⟩ (.one ⟨(some 75),(.dL 1 (.t 55) (.t 60)),none,251008023,[251008024]⟩ (.one ⟨none,(.store 1 (.t 75) (.t 74)),none,251008024,[]⟩ (.eT false []))))) (.one ⟨(some 74),(.append 1 (.t 71) (.t 73)),none,251008022,[251008024]⟩ (.one ⟨(some 60),(.load false 1 (.t 59)),none,251008008,[251008021,251008022,251008024]⟩ (.one ⟨(some 75),(.dL 1 (.t 55) (.t 60)),none,251008023,[251008024]⟩ (.one ⟨none,(.store 1 (.t 75) (.t 74)),none,251008024,[]⟩ (.eT false [])))))))) (.one ⟨(some 74),(.append 1 (.t 71) (.t 73)),none,251008022,[251008024]⟩ (.one ⟨(some 58),(.dL 3 (.t 56) (.t 57)),none,251008006,[251008021,251008022,251008024]⟩ (.one ⟨(some 59),(.gm 1 (.t 58)),none,251008007,[251008021,251008022,251008024]⟩ (.one ⟨(some 60),(.load false 1 (.t 59)),none,251008008,[251008021,251008022,251008024]⟩ (.one ⟨(some 75),(.dL 1 (.t 55) (.t 60)),none,251008023,[251008024]⟩ (.one ⟨none,(.store 1 (.t 75) (.t 74)),none,251008024,[]⟩ (.eT false []))))))))) (.both (.one ⟨(some 58),(.dL 3 (.t 56) (.t 57)),none,251008006,[251008021,251008022,251008024]⟩ (.one ⟨(some 59),(.gm 1 (.t 58)),none,251008007,[251008021,251008022,251008024]⟩ (.both (.one ⟨(some 55),(.load false 1 (.t 54)),none,251008003,[251008021,251008022,251008024]⟩ (.both (.one ⟨(some 60),(.load false 1 (.t 59)),none,251008008,[251008021,251008022,251008024]⟩ (.one ⟨(some 74),(.append 1 (.t 71) (.t 73)),none,251008022,[251008024]⟩ (.one ⟨(some 75),(.dL 1 (.t 55) (.t 60)),none,251008023,[251008024]⟩ (.one ⟨none,(.store 1 (.t 75) (.t 74)),none,251008024,[]⟩ (.eT false []))))) (.one ⟨(some 74),(.append 1 (.t 71) (.t 73)),none,251008022,[251008024]⟩ (.one ⟨(some 60),(.load false 1 (.t 59)),none,251008008,[251008021,251008022,251008024]⟩ (.one ⟨(some 75),(.dL 1 (.t 55) (.t 60)),none,251008023,[251008024]⟩ (.one ⟨none,(.store 1 (.t 75) (.t 74)),none,251008024,[]⟩ (.eT false []))))))) (.both (.one ⟨(some 60),(.load false 1 (.t 59)),none,251008008,[251008021,251008022,251008024]⟩ (.both (.one ⟨(some 55),(.load false 1 (.t 54)),none,251008003,[251008021,251008022,251008024]⟩ (.one ⟨(some 74),(.append 1 (.t 71) (.t 73)),none,251008022,[251008024]⟩ (.one ⟨(some 75),(.dL 1 (.t 55) (.t 60)),none,251008023,[251008024]⟩ (.one ⟨none,(.store 1 (.t 75) (.t 74)),none,251008024,[]⟩ (.eT false []))))) (.one ⟨(some 74),(.append 1 (.t 71) (.t 73)),none,251008022,[251008024]⟩ (.one ⟨(some 55),(.load false 1 (.t 54)),none,251008003,[251008021,251008022,251008024]⟩ (.one ⟨(some 75),(.dL 1 (.t 55) (.t 60)),none,251008023,[251008024]⟩ (.one ⟨none,(.store 1 (.t 75) (.t 74)),none,251008024,[]⟩ (.eT false []))))))) (.one ⟨(some 74),(.append 1 (.t 71) (.t 73)),none,251008022,[251008024]⟩ (.one ⟨(some 55),(.load false 1 (.t 54)),none,251008003,[251008021,251008022,251008024]⟩ (.one ⟨(some 60),(.load false 1 (.t 59)),none,251008008,[251008021,251008022,251008024]⟩ (.one ⟨(some 75),(.dL 1 (.t 55) (.t 60)),none,251008023,[251008024]⟩ (.one ⟨none,(.store 1 (.t 75) (.t 74)),none,251008024,[]⟩ (.eT false [])))))))))) (.one ⟨(some 74),(.append 1 (.t 71) (.t 73)),none,251008022,[251008024]⟩ (.one ⟨(some 55),(.load false 1 (.t 54)),none,251008003,[251008021,251008022,251008024]⟩ (.one ⟨(some 58),(.dL 3 (.t 56) (.t 57)),none,251008006,[251008021,251008022,251008024]⟩ (.one ⟨(some 59),(.gm 1 (.t 58)),none,251008007,[251008021,251008022,251008024]⟩ (.one ⟨(some 60),(.load false 1 (.t 59)),none,251008008,[251008021,251008022,251008024]⟩ (.one ⟨(some 75),(.dL 1 (.t 55) (.t 60)),none,251008023,[251008024]⟩ (.one ⟨none,(.store 1 (.t 75) (.t 74)),none,251008024,[]⟩ (.eT false [])))))))))))))))))))))))))))))) (.eT false [q 26 (.dq (.t 6)) 251006000,q 27 (.bin .add .i64 (.t 26) (.k (.int .i64 1))) 251006001,q 6 (.dq (.t 27)) 251006002])))))) (.seq (.eT false [q 76 (.dq (.t 5)) 251009000,q 4 (.dq (.t 76)) 251009001]) .ret)))))),[(.tmp 4)]⟩
theorem Oi:xG Tryz.prog 251 [(7,2),(8,2)]=some PT:=by kernel_rfl
def PU:AP:=⟨118,2,(.seq (.eT false [q 4 (.dq (.k .cu)) 320000000]) (.seq (.eT false [q 17 (.dq (.t 0)) 320001000,q 18 (.j4 [.gO] (.t 17) (.t 17)) 320001001,q 5 (.dq (.t 18)) 320001002]) (.seq (.seq (.eT false [q 19 (.dq (.t 5)) 320002000,q 20 (.len (.t 19)) 320002001,q 21 (.dq (.k (.int .i64 0))) 320002002]) (.block 0 (.loop (.seq (.eT false [q 22 (.bin .lss .i64 (.t 21) (.t 20)) 320003000]) (.seq (.cond (.t 22) .skip (.exit 0)) (.seq (.block 1 (.seq (.eT false [q 23 (.dq (.t 21)) 320004000,q 6 (.dq (.t 23)) 320004001]) (.eT false [q 24 (.dq (.t 5)) 320005000,q 25 (.dq (.t 6)) 320005001,q 26 (.dq (.t 6)) 320005002,q 27 (.build [.gO,(.int .i64 0)] [(1,(1,(.t 26)))]) 320005003,q 28 (.box (.t 27)) 320005004,q 29 (.dL 1 (.t 24) (.t 25)) 320005005,⟨none,(.store 1 (.t 29) (.t 28)),none,320005006,[]⟩]))) (.eT false [q 30 (.bin .add .i64 (.t 21) (.k (.int .i64 1))) 320006000,q 21 (.dq (.t 30)) 320006001]))))))) (.seq (.seq (.eT false [q 31 (.dq (.t 1)) 320007000,q 32 (.len (.t 31)) 320007001,q 33 (.dq (.k (.int .i64 0))) 320007002]) (.block 2 (.loop (.seq (.eT false [q 34 (.bin .lss .i64 (.t 33) (.t 32)) 320008000]) (.seq (.cond (.t 34) .skip (.exit 2)) (.seq (.block 3 (.seq (.eT false [q 35 (.dL 3 (.t 31) (.t 33)) 320009000,q 36 (.load true 3 (.t 35)) 320009001,q 8 (.new [(.int .i64 0),(.int .i64 0),(.int .i64 0)]) 320009002,⟨none,(.store 3 (.t 8) (.t 36)),none,320009003,[]⟩]) (.seq (.one (q 37 (.dq (.t 5)) 320010000) (.one (q 38 (.gm 0 (.t 8)) 320010001) (.one (q 39 (.load false 1 (.t 38)) 320010002) (.one (q 40 (.dL 1 (.t 37) (.t 39)) 320010003) (.one (q 41 (.load false 1 (.t 40)) 320010004) (.one (q 43 (.dq (.t 5)) 320010006) (.one (q 44 (.gm 1 (.t 8)) 320010007) (.both (.one (q 42 (.call 334 [(.t 41)]) 320010005) (.one (q 45 (.load false 1 (.t 44)) 320010008) (.one (q 46 (.dL 1 (.t 43) (.t 45)) 320010009) (.one (q 47 (.load false 1 (.t 46)) 320010010) (.one (q 48 (.call 334 [(.t 47)]) 320010011) (.one (q 9 (.dq (.t 42)) 320010012) (.one (q 10 (.dq (.t 48)) 320010013) (.eT false [])))))))) (.one (q 45 (.load false 1 (.t 44)) 320010008) (.both (.one (q 42 (.call 334 [(.t 41)]) 320010005) (.one (q 46 (.dL 1 (.t 43) (.t 45)) 320010009) (.one (q 47 (.load false 1 (.t 46)) 320010010) (.one (q 48 (.call 334 [(.t 47)]) 320010011) (.one (q 9 (.dq (.t 42)) 320010012) (.one (q 10 (.dq (.t 48)) 320010013) (.eT false []))))))) (.one (q 46 (.dL 1 (.t 43) (.t 45)) 320010009) (.both (.one (q 42 (.call 334 [(.t 41)]) 320010005) (.one (q 47 (.load false 1 (.t 46)) 320010010) (.one (q 48 (.call 334 [(.t 47)]) 320010011) (.one (q 9 (.dq (.t 42)) 320010012) (.one (q 10 (.dq (.t 48)) 320010013) (.eT false [])))))) (.one (q 47 (.load false 1 (.t 46)) 320010010) (.one (q 42 (.call 334 [(.t 41)]) 320010005) (.one (q 48 (.call 334 [(.t 47)]) 320010011) (.one (q 9 (.dq (.t 42)) 320010012) (.one (q 10 (.dq (.t 48)) 320010013) (.eT false [])))))))))))))))))) (.block 4 (.seq (.eT true [q 50 (.dq (.t 9)) 320011000,q 51 (.Bt (.t 50)) 320011001,q 52 (.gm 1 (.t 51)) 320011002,q 53 (.load false 1 (.t 52)) 320011003,q 54 (.dq (.t 10)) 320011004,q 55 (.Bt (.t 54)) 320011005,q 56 (.gm 1 (.t 55)) 320011006,q 57 (.load false 1 (.t 56)) 320011007,q 58 (.bin .lss .i64 (.t 53) (.t 57)) 320011008,q 49 (.dq (.t 58)) 320011009]) (.cond (.t 49) (.eT false [q 59 (.dq (.t 10)) 320012000,q 60 (.dq (.t 9)) 320012001,q 61 (.Bt (.t 59)) 320012002,q 62 (.gm 0 (.t 61)) 320012003,⟨none,(.store 1 (.t 62) (.t 60)),none,320012004,[]⟩]) (.seq (.eT true [q 64 (.dq (.t 10)) 320013000,q 65 (.Bt (.t 64)) 320013001,q 66 (.gm 1 (.t 65)) 320013002,q 67 (.load false 1 (.t 66)) 320013003,q 68 (.dq (.t 9)) 320013004,q 69 (.Bt (.t 68)) 320013005,q 70 (.gm 1 (.t 69)) 320013006,q 71 (.load false 1 (.t 70)) 320013007,q 72 (.bin .lss .i64 (.t 67) (.t 71)) 320013008,q 63 (.dq (.t 72)) 320013009]) (.cond (.t 63) (.eT false [q 73 (.dq (.t 9)) 320014000,q 74 (.dq (.t 10)) 320014001,q 75 (.Bt (.t 73)) 320014002,q 76 (.gm 0 (.t 75)) 320014003,⟨none,(.store 1 (.t 76) (.t 74)),none,320014004,[]⟩]) .skip)))))))) (.eT false [q 77 (.bin .add .i64 (.t 33) (.k (.int .i64 1))) 320015000,q 33 (.dq (.t 77)) 320015001]))))))) (.seq (.eT false [q 11 (.dq (.k .cu)) 320016000]) (.seq (.eT false [⟨(some 78),(.mq (.new ⟨false,[.tI]⟩) []),none,320017000,[]⟩,q 12 (.dq (.t 78)) 320017001]) (.seq (.seq (.eT false [q 79 (.dq (.t 5)) 320018000,q 80 (.len (.t 79)) 320018001,q 81 (.dq (.k (.int .i64 0))) 320018002]) (.block 5 (.loop (.seq (.eT false [q 82 (.bin .lss .i64 (.t 81) (.t 80)) 320019000]) (.seq (.cond (.t 82) .skip (.exit 5)) (.seq (.block 6 (.seq (.eT false [q 83 (.dq (.t 81)) 320020000,q 84 (.dL 1 (.t 79) (.t 81)) 320020001,q 85 (.load false 1 (.t 84)) 320020002,q 13 (.dq (.t 83)) 320020003,q 14 (.dq (.t 85)) 320020004]) (.seq (.eT false [q 87 (.dq (.t 12)) 320021000,q 88 (.dq (.t 14)) 320021001,q 89 (.call 334 [(.t 88)]) 320021002,q 90 (.Bt (.t 89)) 320021003,q 91 (.gm 1 (.t 90)) 320021004,q 92 (.load false 1 (.t 91)) 320021005,⟨(some 93),(.mq (.look ⟨false,[.tI]⟩ true (.int .i64 0)) [(.t 87),(.t 92)]),none,320021006,[]⟩,q 86 (.dq (.t 93)) 320021007,q 94 (.extract 0 (.t 86)) 320021008,q 95 (.extract 1 (.t 86)) 320021009,q 15 (.dq (.t 94)) 320021010,q 16 (.dq (.t 95)) 320021011]) (.seq (.seq (.eT false [q 96 (.dq (.t 16)) 320022000,q 97 (.not (.t 96)) 320022001]) (.cond (.t 97) (.seq (.eT false [q 98 (.dq (.t 11)) 320023000,q 99 (.len (.t 98)) 320023001,q 15 (.dq (.t 99)) 320023002]) (.seq (.eT false [q 100 (.dq (.t 12)) 320024000,q 101 (.dq (.t 13)) 320024001,q 102 (.dq (.t 15)) 320024002,⟨none,(.mw (.set ⟨false,[.tI]⟩) [(.t 100),(.t 101),(.t 102)]),none,320024003,[]⟩]) (.eT false [q 103 (.dq (.t 11)) 320025000,q 104 (.nh 1 1 [(.k .cu)]) 320025001,q 105 (.append 1 (.t 103) (.t 104)) 320025002,q 11 (.dq (.t 105)) 320025003]))) .skip)) (.eT false [q 106 (.dq (.t 11)) 320026000,q 107 (.dq (.t 15)) 320026001,q 108 (.dq (.t 11)) 320026002,q 109 (.dq (.t 15)) 320026003,q 110 (.dL 1 (.t 108) (.t 109)) 320026004,q 111 (.load false 1 (.t 110)) 320026005,q 112 (.dq (.t 13)) 320026006,q 113 (.nh 1 1 [(.t 112)]) 320026007,q 114 (.append 1 (.t 111) (.t 113)) 320026008,q 115 (.dL 1 (.t 106) (.t 107)) 320026009,⟨none,(.store 1 (.t 115) (.t 114)),none,320026010,[]⟩]))))) (.eT false [q 116 (.bin .add .i64 (.t 81) (.k (.int .i64 1))) 320027000,q 81 (.dq (.t 116)) 320027001]))))))) (.seq (.eT false [q 117 (.dq (.t 11)) 320028000,q 4 (.dq (.t 117)) 320028001]) .ret)))))))),[(.tmp 4)]⟩
theorem Oj:xG Tryz.prog 320 [(10,2)]=some PU:=by kernel_rfl
end Go.Proofs.YtgoljkjaameagaaGreat.V

namespace Go.Proofs.YtgoljkjaameagaaGreat.V
open Go.RowKit
attribute [local irreducible] eu wpOps gq Call
attribute [local go_sem] aI fJ eP fZ fY dc upd cz K.av cJ AV.cells AV.cell rowOf rowsOf part ld rowAt bR cq dC ea gV bJ cZ eo fX eY dr ef cX cW dM dO bP aX cN bL cQ cP ec eh ee cL bU cY eb bK aO cU cG gU bp cI bQ aW dx bf dD AV.undef bD bF dR dY dI dP cH ek ew cF ej ei cR cV List.getD_cons_zero List.getD_cons_succ List.getD_nil List.all_cons List.all_nil Bool.and_true Bool.true_and Bool.and_self Bool.not_true Bool.not_false Option.map_some Option.map_none Option.bind_some Option.bind_none List.length_cons List.length_nil List.take_succ_cons List.take_zero List.take_nil List.drop_succ_cons List.drop_zero List.drop_nil List.head?_cons List.map_cons List.map_nil List.getElem?_cons_zero List.getElem?_cons_succ List.cons_append List.nil_append List.append_nil List.length_map List.set_cons_zero List.set_cons_succ Nat.reduceMul eq_self Int.toNat_natCast Int.natCast_nonneg and_self true_and and_true decide_true decide_false Bool.false_eq_true Nat.zero_add Nat.add_zero List.contains_cons List.contains_nil Bool.or_false Bool.false_or beq_self_eq_true Nat.reduceBEq ne_eq not_true_eq_false not_false_eq_true Id.mk.injEq false_and and_false Nat.reduceLT Int.reduceLE Int.reduceLT Int.reduceToNat Int.reduceNeg Int.reduceAdd Nat.le_refl List.length_append beq_true beq_false Bool.not_eq_eq_eq_not or_false false_or dJ aj aq aH aZ bB ck aT bc aU aY cK bG
theorem BL (x:fF) (g:Rows):dd g 6 [.agg (bV x)]=some [.agg (bV x)]:=by simp[bV,aj,aq,bc,bB,aH]
theorem BM (x:eW) (g:Rows):dd g 6 [.agg (bm x)]=some [.agg (bm x)]:=by simp[bm,aj,aq,bc,bB,ck]
theorem DM (x:ae) (g:Rows):dd g 6 [.agg (ai x)]=some [.agg (ai x)]:=by simp[ai,aj,aq,bc,aH]
theorem iC {n:Nat} {l:Int} (h:(n:Int)<=l):xW n l=l-n:=if_pos h
theorem iL {n:Nat} {l:Int} (h:¬(n:Int)<=l):xW n l= -1:=if_neg h
def kG (t:eW):Nat:=t.aG.size+t.bq.length
def uG (s:au):Nat:=(s.aA.length+(s.aA.map fun g=>g.aG.size).sum)+(s.ad.length+(s.ad.map kG).sum)
def xq (s:aE):Nat:=uG s.aB+s.cw.ad.length
def fV (s:au):Prop:=(∀g∈s.aA,g.aG.size<=9223372036854775807)/\∀t∈s.ad,t.aG.size<=9223372036854775807
theorem Ky (g:fF) (l:Int) (h0:0<=l) (h1:l<=1048576) (hs:g.aG.size<=9223372036854775807):ar Tryz.prog 187 [.agg (bV g),.int .i64 l] (.int .i64 (xW g.aG.size l)):=by
 refine ar.body eG rfl fun hl n0=>?_
 clear hl
 have hw:IntKind.i64.wrap (l-(g.aG.size:Int))=l-g.aG.size:=br (by omega)
 by_cases hf:(g.aG.size:Int)<=l
 ·have kI:¬l-(g.aG.size:Int)<0:=by omega
  (try((repeat(revert hN;revert N;apply Pn.out));refine wk (tw @bV.eq_1 (tw @hw @kI)) ?_;(repeat(refine Pn.mk ?_;intro N hN))))
  exact cr (b:=l-(g.aG.size:Int)) (.inl rfl) (sd @Nat.zero_add) (iC hf).symm
 ·have kI:l-(g.aG.size:Int)<0:=by omega
  (try((repeat(revert hN;revert N;apply Pn.out));refine wk (tw @bV.eq_1 (tw @hw @kI)) ?_;(repeat(refine Pn.mk ?_;intro N hN))))
  exact cr (b:=-1) (.inl rfl) (sd @Nat.zero_add) (iL hf).symm
theorem Kz (xs:List Int) (l:Int) (h0:0<=l) (h1:l<=1048576):ar Tryz.prog 140 [.sl (xs.map aw),.int .i64 l] (.int .i64 (xW xs.length l)):=by
 have h:=KB (show mo Tryz.prog 140=some (KA 140) by kernel_rfl) (xs.map aw) l h0 h1
 rwa [List.length_map]at h
theorem KE (t:eW) (l:Int) (h0:0<=l) (h1:l<=1048576) (hs:t.aG.size<=9223372036854775807):ar Tryz.prog 188 [.agg (bm t),.int .i64 l] (.int .i64 (xW (kG t) l)):=by
 refine ar.body eG rfl fun hl n0=>?_
 clear hl
 have hw:IntKind.i64.wrap (l-(t.aG.size:Int))=l-t.aG.size:=br (by omega)
 by_cases hf:(t.aG.size:Int)<=l
 ·have kI:¬l-(t.aG.size:Int)<0:=by omega
  have hc:=Kz t.bq (l-t.aG.size) (by omega) (by omega)
  by_cases hg:(t.bq.length:Int)<=l-t.aG.size
  ·rw[iC hg]at hc
   have FK:¬l-(t.aG.size:Int)-(t.bq.length:Int)<0:=by omega
   (repeat(first|((repeat(revert hN;revert N;apply Pn.out));refine wk (tw @bm.eq_1 (tw @hw (tw @kI @FK))) ?_;(repeat(refine Pn.mk ?_;intro N hN)))|((try apply Or.inl);refine⟨_,ar.x (hc) (sd (tw @bm.eq_1 (tw @hw (tw @kI @FK)))),?_⟩;refine hN _ _ ?_;clear hN N)))
   exact cr (b:=l-(t.aG.size:Int)-(t.bq.length:Int)) (.inl rfl) (sd @Nat.zero_add) (by rw[iC (by unfold kG;omega)];unfold kG;omega)
  ·rw[iL hg]at hc
   (repeat(first|((repeat(revert hN;revert N;apply Pn.out));refine wk (tw @bm.eq_1 (tw @hw @kI)) ?_;(repeat(refine Pn.mk ?_;intro N hN)))|((try apply Or.inl);refine⟨_,ar.x (hc) (sd (tw @bm.eq_1 (tw @hw @kI))),?_⟩;refine hN _ _ ?_;clear hN N)))
   exact cr (b:=-1) (.inl rfl) (sd @Nat.zero_add) (iL (by unfold kG;omega)).symm
 ·have kI:l-(t.aG.size:Int)<0:=by omega
  (try((repeat(revert hN;revert N;apply Pn.out));refine wk (tw @bm.eq_1 (tw @hw @kI)) ?_;(repeat(refine Pn.mk ?_;intro N hN))))
  exact cr (b:=-1) (.inl rfl) (sd @Nat.zero_add) (iL (by unfold kG;omega)).symm
theorem HM (xs:List fF) (l:Int) (h0:0<=l) (h1:l<=1048576) (hs:∀g∈xs,g.aG.size<=9223372036854775807):ar Tryz.prog 120 [.sl (xs.map bV),.int .i64 l] (.int .i64 (xW (xs.length+(xs.map fun g=>g.aG.size).sum) l)):=
 KD (fun g:fF=>g.aG.size) (show mo Tryz.prog 120=some (KC 120 187 2) by kernel_rfl) (fun _=>rfl) BL xs l h0 h1 fun x hx l a b=>Ky x l a b (hs x hx)
theorem HN (xs:List eW) (l:Int) (h0:0<=l) (h1:l<=1048576) (hs:∀t∈xs,t.aG.size<=9223372036854775807):ar Tryz.prog 121 [.sl (xs.map bm),.int .i64 l] (.int .i64 (xW (xs.length+(xs.map kG).sum) l)):=
 KD kG (show mo Tryz.prog 121=some (KC 121 188 2) by kernel_rfl) (fun _=>rfl) BM xs l h0 h1 fun x hx l a b=>KE x l a b (hs x hx)
theorem EX (xs:List ae) (l:Int) (h0:0<=l) (h1:l<=1048576):ar Tryz.prog 76 [.sl (xs.map ai),.int .i64 l] (.int .i64 (xW xs.length l)):=by
 have h:=KB (show mo Tryz.prog 76=some (KA 76) by kernel_rfl) (xs.map ai) l h0 h1
 rwa [List.length_map]at h
theorem CN (s:au) (l:Int) (h0:0<=l) (h1:l<=1048576) (hs:fV s):ar Tryz.prog 61 [.agg (aa s),.int .i64 l] (.int .i64 (xW (uG s) l)):=by
 refine ar.body eG rfl fun hl n0=>?_
 clear hl
 have ha:=HM s.aA l h0 h1 hs.1
 have he:uG s=(s.aA.length+(s.aA.map fun g=>g.aG.size).sum)+(s.ad.length+(s.ad.map kG).sum):=rfl
 by_cases hf:((s.aA.length+(s.aA.map fun g=>g.aG.size).sum:Nat):Int)<=l
 ·rw[iC hf]at ha
  obtain⟨A,hA⟩:∃A:Int,A=l-((s.aA.length+(s.aA.map fun g=>g.aG.size).sum:Nat):Int):=⟨_,rfl⟩
  rw[<-hA]at ha
  have kI:¬A<0:=by omega
  have hb:=HN s.ad A (by omega) (by omega) hs.2
  by_cases hg:((s.ad.length+(s.ad.map kG).sum:Nat):Int)<=A
  ·rw[iC hg]at hb
   obtain⟨B,hB⟩:∃B:Int,B=A-((s.ad.length+(s.ad.map kG).sum:Nat):Int):=⟨_,rfl⟩
   rw[<-hB]at hb
   have FK:¬B<0:=by omega
   (repeat(first|((repeat(revert hN;revert N;apply Pn.out));refine wk (tw @aa.eq_1 (tw @kI @FK)) ?_;(repeat(refine Pn.mk ?_;intro N hN)))|((try apply Or.inl);refine⟨_,ar.x (ha) (sd (tw @aa.eq_1 (tw @kI @FK))),?_⟩;refine hN _ _ ?_;clear hN N)|((try apply Or.inl);refine⟨_,ar.x (hb) (sd (tw @aa.eq_1 (tw @kI @FK))),?_⟩;refine hN _ _ ?_;clear hN N)))
   exact cr (b:=B) (.inl rfl) (sd @Nat.zero_add) (by rw[iC (by omega)];omega)
  ·rw[iL hg]at hb
   (repeat(first|((repeat(revert hN;revert N;apply Pn.out));refine wk (tw @aa.eq_1 @kI) ?_;(repeat(refine Pn.mk ?_;intro N hN)))|((try apply Or.inl);refine⟨_,ar.x (ha) (sd (tw @aa.eq_1 @kI)),?_⟩;refine hN _ _ ?_;clear hN N)|((try apply Or.inl);refine⟨_,ar.x (hb) (sd (tw @aa.eq_1 @kI)),?_⟩;refine hN _ _ ?_;clear hN N)))
   exact cr (b:=-1) (.inl rfl) (sd @Nat.zero_add) (iL (by omega)).symm
 ·rw[iL hf]at ha
  (repeat(first|((repeat(revert hN;revert N;apply Pn.out));refine wk @aa.eq_1 ?_;(repeat(refine Pn.mk ?_;intro N hN)))|((try apply Or.inl);refine⟨_,ar.x (ha) (sd @aa.eq_1),?_⟩;refine hN _ _ ?_;clear hN N)))
  exact cr (b:=-1) (.inl rfl) (sd @Nat.zero_add) (iL (by omega)).symm
theorem sF (a:ev) (l:Int) (h0:0<=l) (h1:l<=1048576):ar Tryz.prog 14 [.agg (aP a),.int .i64 l] (.int .i64 (xW a.ad.length l)):=by
 refine ar.body eG rfl fun hl n0=>?_
 clear hl
 have ha:=EX a.ad l h0 h1
 by_cases hf:(a.ad.length:Int)<=l
 ·rw[iC hf]at ha
  have kI:¬l-(a.ad.length:Int)<0:=by omega
  (repeat(first|((repeat(revert hN;revert N;apply Pn.out));refine wk (tw @aP.eq_1 @kI) ?_;(repeat(refine Pn.mk ?_;intro N hN)))|((try apply Or.inl);refine⟨_,ar.x (ha) (sd (tw @aP.eq_1 @kI)),?_⟩;refine hN _ _ ?_;clear hN N)))
  exact cr (b:=l-(a.ad.length:Int)) (.inl rfl) (sd @Nat.zero_add) (iC hf).symm
 ·rw[iL hf]at ha
  (repeat(first|((repeat(revert hN;revert N;apply Pn.out));refine wk @aP.eq_1 ?_;(repeat(refine Pn.mk ?_;intro N hN)))|((try apply Or.inl);refine⟨_,ar.x (ha) (sd @aP.eq_1),?_⟩;refine hN _ _ ?_;clear hN N)))
  exact cr (b:=-1) (.inl rfl) (sd @Nat.zero_add) (iL hf).symm
theorem EY (s:aE) (l:Int) (h0:0<=l) (h1:l<=1048576) (hs:fV s.aB):ar Tryz.prog 13 [.agg (aD s),.int .i64 l] (.int .i64 (xW (xq s) l)):=by
 refine ar.body eG rfl fun hl n0=>?_
 clear hl
 have ha:=CN s.aB l h0 h1 hs
 rw[aa]at ha
 have he:xq s=uG s.aB+s.cw.ad.length:=rfl
 by_cases hf:(uG s.aB:Int)<=l
 ·rw[iC hf]at ha
  have kI:¬l-(uG s.aB:Int)<0:=by omega
  have hb:=sF s.cw (l-uG s.aB) (by omega) (by omega)
  rw[aP]at hb
  by_cases hg:(s.cw.ad.length:Int)<=l-uG s.aB
  ·rw[iC hg]at hb
   have FK:¬l-(uG s.aB:Int)-(s.cw.ad.length:Int)<0:=by omega
   (repeat(first|((repeat(revert hN;revert N;apply Pn.out));refine wk (tw @aD.eq_1 (tw @kI @FK)) ?_;(repeat(refine Pn.mk ?_;intro N hN)))|((try apply Or.inl);refine⟨_,ar.x (ha) (sd (tw @aD.eq_1 (tw @kI @FK))),?_⟩;refine hN _ _ ?_;clear hN N)|((try apply Or.inl);refine⟨_,ar.x (hb) (sd (tw @aD.eq_1 (tw @kI @FK))),?_⟩;refine hN _ _ ?_;clear hN N)))
   exact cr (b:=l-(uG s.aB:Int)-(s.cw.ad.length:Int)) (.inl rfl) (sd @Nat.zero_add) (by rw[iC (by omega)];omega)
  ·rw[iL hg]at hb
   (repeat(first|((repeat(revert hN;revert N;apply Pn.out));refine wk (tw @aD.eq_1 @kI) ?_;(repeat(refine Pn.mk ?_;intro N hN)))|((try apply Or.inl);refine⟨_,ar.x (ha) (sd (tw @aD.eq_1 @kI)),?_⟩;refine hN _ _ ?_;clear hN N)|((try apply Or.inl);refine⟨_,ar.x (hb) (sd (tw @aD.eq_1 @kI)),?_⟩;refine hN _ _ ?_;clear hN N)))
   exact cr (b:=-1) (.inl rfl) (sd @Nat.zero_add) (iL (by omega)).symm
 ·rw[iL hf]at ha
  (repeat(first|((repeat(revert hN;revert N;apply Pn.out));refine wk @aD.eq_1 ?_;(repeat(refine Pn.mk ?_;intro N hN)))|((try apply Or.inl);refine⟨_,ar.x (ha) (sd @aD.eq_1),?_⟩;refine hN _ _ ?_;clear hN N)))
  exact cr (b:=-1) (.inl rfl) (sd @Nat.zero_add) (iL (by omega)).symm
theorem MM (x:fF) (g:Rows):dd g 5 (bV x)=some (bV x):=by simp[bV,aj,aq,bB,aH]
theorem MN (x:eW) (g:Rows):dd g 5 (bm x)=some (bm x):=by simp[bm,aj,aq,bB,ck]
theorem HA (x:ae) (g:Rows):dd g 5 (ai x)=some (ai x):=by simp[ai,aj,aq,aH]
theorem ze (p:ah):j7 Tryz.prog 109 [.agg (ab p)] (.agg (ab p)):=by
 refine j7.body eG rfl fun hl σ=>?_
 clear hl
 (try((repeat(revert hN;revert N;apply Pn.out));refine wk @ab.eq_1 ?_;(repeat(refine Pn.mk ?_;intro N hN))))
 exact As (.inl rfl) (vs:=[.agg (ab p)]) (by simp only[go_sem, ↓reduceIte,Nat.reduceEqDiff,Nat.reduceAdd,Nat.reduceSub,Nat.reduceLeDiff,reduceCtorEq,fy,iv,ab]) (by simp[fm,ab,bc,aj,aq,aH])
theorem E0 (p:ae):j7 Tryz.prog 149 [.agg (ai p)] (.agg (ai p)):=by
 refine j7.body eG rfl fun hl σ=>?_
 clear hl
 have h:=ze p.bH
 rw[ab]at h
 (repeat(first|((repeat(revert hN;revert N;apply Pn.out));refine wk @ai.eq_1 ?_;(repeat(refine Pn.mk ?_;intro N hN)))|((try apply Or.inl);refine⟨_,j7.x (h) _,?_⟩;refine hN _ _ ?_;clear hN N)))
 exact As (.inl rfl) (vs:=[.agg (ai p)]) (by simp only[go_sem, ↓reduceIte,Nat.reduceEqDiff,Nat.reduceAdd,Nat.reduceSub,Nat.reduceLeDiff,reduceCtorEq,fy,iv,ai]) (by simp[fm,ai,bc,aj,aq,aH])
theorem KJ (p:fF):j7 Tryz.prog 197 [.agg (bV p)] (.agg (bV p)):=by
 refine j7.body eG rfl fun hl σ=>?_
 clear hl
 (try((repeat(revert hN;revert N;apply Pn.out));refine wk @bV.eq_1 ?_;(repeat(refine Pn.mk ?_;intro N hN))))
 exact As (.inl rfl) (vs:=[.agg (bV p)]) (by simp only[go_sem, ↓reduceIte,Nat.reduceEqDiff,Nat.reduceAdd,Nat.reduceSub,Nat.reduceLeDiff,reduceCtorEq,fy,iv,bV]) (by simp[fm,bV,bc,aj,aq,aH,bB])
theorem CR (xs:List Int) (h:xs.length<=1048576):j7 Tryz.prog 17 [.sl (xs.map aw)] (.sl (xs.map aw)):=
 SF (show mo Tryz.prog 17=some (KK 17 (.int .i64 0)) by kernel_rfl) xs h
def sY (t:eW):Prop:=t.bq.length<=1048576
theorem KM (p:eW) (hs:sY p):j7 Tryz.prog 198 [.agg (bm p)] (.agg (bm p)):=by
 refine j7.body eG rfl fun hl σ=>?_
 clear hl
 have h:=CR p.bq hs
 (repeat(first|((repeat(revert hN;revert N;apply Pn.out));refine wk @bm.eq_1 ?_;(repeat(refine Pn.mk ?_;intro N hN)))|((try apply Or.inl);refine⟨_,j7.x (h) _,?_⟩;refine hN _ _ ?_;clear hN N)))
 exact As (.inl rfl) (vs:=[.agg (bm p)]) (by simp only[go_sem, ↓reduceIte,Nat.reduceEqDiff,Nat.reduceAdd,Nat.reduceSub,Nat.reduceLeDiff,reduceCtorEq,fy,iv,bm]) (by simp[fm,bm,bc,aj,aq,ck,bB])
theorem vQ (xs ys:List Int):ar Tryz.prog 20 [.sl (xs.map aw),.sl (ys.map aw)] (.bool (decide (xs=ys))):=
 Rc (show mo Tryz.prog 20=some (Nt 20 .tI) by kernel_rfl) xs ys
theorem I4 (a b:eW):ar Tryz.prog 212 [.agg (bm a),.agg (bm b)] (.bool (decide (a=b))):=by
 refine ar.body eG rfl fun hl n0=>?_
 clear hl
 have h:=vQ a.bq b.bq
 by_cases h1:a.aG=b.aG
 ·have e1:decide (a.aG=b.aG)=true:=decide_eq_true h1
  by_cases h2:a.bq=b.bq
  ·rw[decide_eq_true h2]at h
   (repeat(first|((repeat(revert hN;revert N;apply Pn.out));refine wk (tw @bm.eq_1 @e1) ?_;(repeat(refine Pn.mk ?_;intro N hN)))|((try apply Or.inl);refine⟨_,ar.x (h) (sd (tw @bm.eq_1 @e1)),?_⟩;refine hN _ _ ?_;clear hN N)))
   exact aQ (b:=true) (.inl rfl) (sd @Nat.zero_add) (decide_eq_true (by cases a;cases b;simp_all)).symm
  ·rw[decide_eq_false h2]at h
   (repeat(first|((repeat(revert hN;revert N;apply Pn.out));refine wk (tw @bm.eq_1 @e1) ?_;(repeat(refine Pn.mk ?_;intro N hN)))|((try apply Or.inl);refine⟨_,ar.x (h) (sd (tw @bm.eq_1 @e1)),?_⟩;refine hN _ _ ?_;clear hN N)))
   exact aQ (b:=false) (.inl rfl) (sd @Nat.zero_add) (decide_eq_false (by rintro rfl;exact h2 rfl)).symm
 ·have e1:decide (a.aG=b.aG)=false:=decide_eq_false h1
  (try((repeat(revert hN;revert N;apply Pn.out));refine wk (tw @bm.eq_1 @e1) ?_;(repeat(refine Pn.mk ?_;intro N hN))))
  exact aQ (b:=false) (.inl rfl) (sd @Nat.zero_add) (decide_eq_false (by rintro rfl;exact h1 rfl)).symm
theorem HT (xs:List fF) (h:xs.length<=1048576):j7 Tryz.prog 129 [.sl (xs.map bV)] (.sl (xs.map bV)):=
 E3 (show mo Tryz.prog 129=some (uk 129 197 2 [.str [],.int .i64 0]) by kernel_rfl) rfl (fun _=>rfl) (fun _=>rfl) MM xs h fun x _=>KJ x
theorem HV (xs:List eW) (h:xs.length<=1048576) (hs:∀t∈xs,sY t):j7 Tryz.prog 130 [.sl (xs.map bm)] (.sl (xs.map bm)):=
 E3 (show mo Tryz.prog 130=some (uk 130 198 2 [.str [],.cu]) by kernel_rfl) rfl (fun _=>rfl) (fun _=>rfl) MN xs h fun x hx=>KM x (hs x hx)
theorem CU (xs:List ae) (h:xs.length<=1048576):j7 Tryz.prog 80 [.sl (xs.map ai)] (.sl (xs.map ai)):=
 E3 (show mo Tryz.prog 80=some (uk 80 149 3 [.int .i64 0,.int .i64 0,.int .i64 0]) by kernel_rfl) rfl (fun _=>rfl) (fun _=>rfl) HA xs h fun x _=>E0 x
structure IA (s:au):Prop where
 g:s.aA.length<=1048576
 t:s.ad.length<=1048576
 s:∀t∈s.ad,sY t
structure rH (y:aE):Prop where
 s:IA y.aB
 a:y.cw.ad.length<=1048576
theorem CW (p:au) (hs:IA p):j7 Tryz.prog 63 [.agg (aa p)] (.agg (aa p)):=by
 refine j7.body eG rfl fun hl σ=>?_
 clear hl
 have h1:=HT p.aA hs.g
 have h2:=HV p.ad hs.t hs.s
 (repeat(first|((repeat(revert hN;revert N;apply Pn.out));refine wk @aa.eq_1 ?_;(repeat(refine Pn.mk ?_;intro N hN)))|((try apply Or.inl);refine⟨_,j7.x (h1) _,?_⟩;refine hN _ _ ?_;clear hN N)|((try apply Or.inl);refine⟨_,j7.x (h2) _,?_⟩;refine hN _ _ ?_;clear hN N)))
 exact As (.inl rfl) (vs:=[.agg (aa p)]) (by simp only[go_sem, ↓reduceIte,Nat.reduceEqDiff,Nat.reduceAdd,Nat.reduceSub,Nat.reduceLeDiff,reduceCtorEq,fy,iv,aa]) (by simp[fm,aa,bc,aj,aq,ck])
theorem sJ (p:ev) (hs:p.ad.length<=1048576):j7 Tryz.prog 18 [.agg (aP p)] (.agg (aP p)):=by
 refine j7.body eG rfl fun hl σ=>?_
 clear hl
 have h1:=CU p.ad hs
 (repeat(first|((repeat(revert hN;revert N;apply Pn.out));refine wk @aP.eq_1 ?_;(repeat(refine Pn.mk ?_;intro N hN)))|((try apply Or.inl);refine⟨_,j7.x (h1) _,?_⟩;refine hN _ _ ?_;clear hN N)))
 exact As (.inl rfl) (vs:=[.agg (aP p)]) (by simp only[go_sem, ↓reduceIte,Nat.reduceEqDiff,Nat.reduceAdd,Nat.reduceSub,Nat.reduceLeDiff,reduceCtorEq,fy,iv,aP]) (by simp[fm,aP,bc,aj,aq,ck])
theorem E5 (p:aE) (hs:rH p):j7 Tryz.prog 16 [.agg (aD p)] (.agg (aD p)):=by
 refine j7.body eG rfl fun hl σ=>?_
 clear hl
 have h1:=CW p.aB hs.s
 have h2:=sJ p.cw hs.a
 rw[aa]at h1
 rw[aP]at h2
 (repeat(first|((repeat(revert hN;revert N;apply Pn.out));refine wk @aD.eq_1 ?_;(repeat(refine Pn.mk ?_;intro N hN)))|((try apply Or.inl);refine⟨_,j7.x (h1) _,?_⟩;refine hN _ _ ?_;clear hN N)|((try apply Or.inl);refine⟨_,j7.x (h2) _,?_⟩;refine hN _ _ ?_;clear hN N)))
 exact As (.inl rfl) (vs:=[.agg (aD p)]) (by simp only[go_sem, ↓reduceIte,Nat.reduceEqDiff,Nat.reduceAdd,Nat.reduceSub,Nat.reduceLeDiff,reduceCtorEq,fy,iv,aD]) (by simp[fm,aD,bc,aj,aq,ck,aH])
theorem I3 (a b:fF):ar Tryz.prog 211 [.agg (bV a),.agg (bV b)] (.bool (decide (a=b))):=by
 refine ar.body eG rfl fun hl n0=>?_
 clear hl
 by_cases h1:a.aG=b.aG
 ·have e1:decide (a.aG=b.aG)=true:=decide_eq_true h1
  by_cases h2:a.eD=b.eD
  ·have e2:decide (a.eD=b.eD)=true:=decide_eq_true h2
   (try((repeat(revert hN;revert N;apply Pn.out));refine wk (tw @bV.eq_1 (tw @e1 @e2)) ?_;(repeat(refine Pn.mk ?_;intro N hN))))
   exact aQ (b:=true) (.inl rfl) (sd @Nat.zero_add) (decide_eq_true (by cases a;cases b;simp_all)).symm
  ·have e2:decide (a.eD=b.eD)=false:=decide_eq_false h2
   (try((repeat(revert hN;revert N;apply Pn.out));refine wk (tw @bV.eq_1 (tw @e1 @e2)) ?_;(repeat(refine Pn.mk ?_;intro N hN))))
   exact aQ (b:=false) (.inl rfl) (sd @Nat.zero_add) (decide_eq_false (by rintro rfl;exact h2 rfl)).symm
 ·have e1:decide (a.aG=b.aG)=false:=decide_eq_false h1
  (try((repeat(revert hN;revert N;apply Pn.out));refine wk (tw @bV.eq_1 @e1) ?_;(repeat(refine Pn.mk ?_;intro N hN))))
  exact aQ (b:=false) (.inl rfl) (sd @Nat.zero_add) (decide_eq_false (by rintro rfl;exact h1 rfl)).symm
theorem GM (a b:ah):ar Tryz.prog 112 [.agg (ab a),.agg (ab b)] (.bool (decide (a=b))):=by
 refine ar.body eG rfl fun hl n0=>?_
 clear hl
 by_cases h1:a.eR=b.eR
 ·have e1:decide (a.eR=b.eR)=true:=decide_eq_true h1
  by_cases h2:a.eM=b.eM
  ·have e2:decide (a.eM=b.eM)=true:=decide_eq_true h2
   (try((repeat(revert hN;revert N;apply Pn.out));refine wk (tw @ab.eq_1 (tw @e1 @e2)) ?_;(repeat(refine Pn.mk ?_;intro N hN))))
   exact aQ (b:=true) (.inl rfl) (sd @Nat.zero_add) (decide_eq_true (by cases a;cases b;simp_all)).symm
  ·have e2:decide (a.eM=b.eM)=false:=decide_eq_false h2
   (try((repeat(revert hN;revert N;apply Pn.out));refine wk (tw @ab.eq_1 (tw @e1 @e2)) ?_;(repeat(refine Pn.mk ?_;intro N hN))))
   exact aQ (b:=false) (.inl rfl) (sd @Nat.zero_add) (decide_eq_false (by rintro rfl;exact h2 rfl)).symm
 ·have e1:decide (a.eR=b.eR)=false:=decide_eq_false h1
  (try((repeat(revert hN;revert N;apply Pn.out));refine wk (tw @ab.eq_1 @e1) ?_;(repeat(refine Pn.mk ?_;intro N hN))))
  exact aQ (b:=false) (.inl rfl) (sd @Nat.zero_add) (decide_eq_false (by rintro rfl;exact h1 rfl)).symm
theorem Dy (a b:ae):ar Tryz.prog 119 [.agg (ai a),.agg (ai b)] (.bool (decide (a=b))):=by
 refine ar.body eG rfl fun hl n0=>?_
 clear hl
 have h:=GM a.bH b.bH
 rw[ab,ab]at h
 by_cases h1:a.bH=b.bH
 ·rw[decide_eq_true h1]at h
  by_cases h2:a.bx=b.bx
  ·have e2:decide (a.bx=b.bx)=true:=decide_eq_true h2
   (repeat(first|((repeat(revert hN;revert N;apply Pn.out));refine wk (tw @ai.eq_1 @e2) ?_;(repeat(refine Pn.mk ?_;intro N hN)))|((try apply Or.inl);refine⟨_,ar.x (h) (sd (tw @ai.eq_1 @e2)),?_⟩;refine hN _ _ ?_;clear hN N)))
   exact aQ (b:=true) (.inl rfl) (sd @Nat.zero_add) (decide_eq_true (by cases a;cases b;simp_all)).symm
  ·have e2:decide (a.bx=b.bx)=false:=decide_eq_false h2
   (repeat(first|((repeat(revert hN;revert N;apply Pn.out));refine wk (tw @ai.eq_1 @e2) ?_;(repeat(refine Pn.mk ?_;intro N hN)))|((try apply Or.inl);refine⟨_,ar.x (h) (sd (tw @ai.eq_1 @e2)),?_⟩;refine hN _ _ ?_;clear hN N)))
   exact aQ (b:=false) (.inl rfl) (sd @Nat.zero_add) (decide_eq_false (by rintro rfl;exact h2 rfl)).symm
 ·rw[decide_eq_false h1]at h
  (repeat(first|((repeat(revert hN;revert N;apply Pn.out));refine wk @ai.eq_1 ?_;(repeat(refine Pn.mk ?_;intro N hN)))|((try apply Or.inl);refine⟨_,ar.x (h) (sd @ai.eq_1),?_⟩;refine hN _ _ ?_;clear hN N)))
  exact aQ (b:=false) (.inl rfl) (sd @Nat.zero_add) (decide_eq_false (by rintro rfl;exact h1 rfl)).symm
theorem GL (xs ys:List fF):ar Tryz.prog 136 [.sl (xs.map bV),.sl (ys.map bV)] (.bool (decide (xs=ys))):=
 Dz (show mo Tryz.prog 136=some (FB 136 211 2) by kernel_rfl) (fun _=>rfl) BL xs ys I3
theorem GN (xs ys:List eW):ar Tryz.prog 137 [.sl (xs.map bm),.sl (ys.map bm)] (.bool (decide (xs=ys))):=
 Dz (show mo Tryz.prog 137=some (FB 137 212 2) by kernel_rfl) (fun _=>rfl) BM xs ys I4
theorem tO (xs ys:List ae):ar Tryz.prog 58 [.sl (xs.map ai),.sl (ys.map ai)] (.bool (decide (xs=ys))):=
 Dz (show mo Tryz.prog 58=some (FB 58 119 3) by kernel_rfl) (fun _=>rfl) DM xs ys Dy
theorem DD (a:aE):ar Tryz.prog 21 [.agg (aD a),.agg (aD a)] (.bool true):=by
 have q1:ar Tryz.prog 66 [.agg (aa a.aB),.agg (aa a.aB)] (.bool true):=by
  refine ar.body eG rfl fun hl n0=>?_
  clear hl
  have h1:=GL a.aB.aA a.aB.aA
  have h2:=GN a.aB.ad a.aB.ad
  rw[decide_eq_true rfl]at h1 h2
  (repeat(first|((repeat(revert hN;revert N;apply Pn.out));refine wk @aa.eq_1 ?_;(repeat(refine Pn.mk ?_;intro N hN)))|((try apply Or.inl);refine⟨_,ar.x (h1) (sd @aa.eq_1),?_⟩;refine hN _ _ ?_;clear hN N)|((try apply Or.inl);refine⟨_,ar.x (h2) (sd @aa.eq_1),?_⟩;refine hN _ _ ?_;clear hN N)))
  exact aQ (b:=true) (.inl rfl) (sd @Nat.zero_add) rfl
 have q2:ar Tryz.prog 22 [.agg (aP a.cw),.agg (aP a.cw)] (.bool true):=by
  refine ar.body eG rfl fun hl n0=>?_
  clear hl
  have h1:=tO a.cw.ad a.cw.ad
  rw[decide_eq_true rfl]at h1
  (repeat(first|((repeat(revert hN;revert N;apply Pn.out));refine wk @aP.eq_1 ?_;(repeat(refine Pn.mk ?_;intro N hN)))|((try apply Or.inl);refine⟨_,ar.x (h1) (sd @aP.eq_1),?_⟩;refine hN _ _ ?_;clear hN N)))
  exact aQ (b:=true) (.inl rfl) (sd @Nat.zero_add) rfl
 rw[aa]at q1
 rw[aP]at q2
 refine ar.body eG rfl fun hl n0=>?_
 clear hl
 have e:decide (a.az=a.az)=true:=decide_eq_true rfl
 (repeat(first|((repeat(revert hN;revert N;apply Pn.out));refine wk (tw @aD.eq_1 @e) ?_;(repeat(refine Pn.mk ?_;intro N hN)))|((try apply Or.inl);refine⟨_,ar.x (q1) (sd (tw @aD.eq_1 @e)),?_⟩;refine hN _ _ ?_;clear hN N)|((try apply Or.inl);refine⟨_,ar.x (q2) (sd (tw @aD.eq_1 @e)),?_⟩;refine hN _ _ ?_;clear hN N)))
 exact aQ (b:=true) (.inl rfl) (sd @Nat.zero_add) rfl
end Go.Proofs.YtgoljkjaameagaaGreat.V

namespace Go.Proofs.YtgoljkjaameagaaGreat.V
open Go.RowKit
def isApp:gz->Bool
 | .append .. =>true
 |_=>false
variable {P:Program} {X:fK} {K:Env->ax->Prop} {env:Env} {σ:ax}
theorem NX {draw:Bool} {o:bt} {r:List bt} (_:isApp o.op=false) (h:∀N:AV->ax->Prop,(∀v s,wpOps X draw r K (upd env o.dst v) s->N v s)->if aI o.guard env then fJ X draw o env σ N else N .undef σ):wpOps X draw (o::r) K env σ:=PZ h
end Go.Proofs.YtgoljkjaameagaaGreat.V

namespace Go.Proofs.YtgoljkjaameagaaGreat.V
open Go.RowKit
section
variable {α:Type} {enc:α->List AV} {sz:Nat} {g g':Rows} {a:AV} {xs:List α} {ids:List Id}
end
abbrev C2 (α:Type):=Rows->List AV->α->List Id->Prop
structure xC {α:Type} (R:C2 α) (sz:Nat):Prop where
 frame:∀{g g':Rows} {cs x ids},R g cs x ids->(∀i∈ids,g' i=g i)->R g' cs x ids
 len:∀{g cs x ids},R g cs x ids->cs.length=sz
 cell:∀{g cs x ids},R g cs x ids->cs.all AV.cell=true
 live:∀{g cs x ids},R g cs x ids->∀i∈ids,∃r,g i=some r/\r.w=true/\r.sz<sg
 small:sz<sg
inductive eI {α:Type} (R:C2 α) (g:Rows):List (List AV)->List α->List Id->Prop
 |nil:eI R g [] [] []
 |cons {cs x i1 rs xs i2}:R g cs x i1->eI R g rs xs i2->eI R g (cs::rs) (x::xs) (i1++i2)
section
variable {α:Type} {R:C2 α} {sz:Nat} {g g':Rows} {rows r1 r2:List (List AV)} {xs x1 x2:List α} {ids i1 i2:List Id}
theorem eI.len (h:eI R g rows xs ids):rows.length=xs.length:=by
 induction h with
 |nil=>rfl
 |cons _ _ ih=>simp[ih]
theorem eI.frame (ok:xC R sz) (h:eI R g rows xs ids) (hf:∀i∈ids,g' i=g i):eI R g' rows xs ids:=by
 induction h with
 |nil=>exact .nil
 |cons h1 _ ih=>exact .cons (ok.frame h1 fun i hi=>hf i (List.mem_append_left _ hi)) (ih fun i hi=>hf i (List.mem_append_right _ hi))
theorem eI.app (h1:eI R g r1 x1 i1) (h2:eI R g r2 x2 i2):eI R g (r1++r2) (x1++x2) (i1++i2):=by
 induction h1 with
 |nil=>exact h2
 |cons h _ ih=>rw[List.append_assoc];exact .cons h ih
theorem eI.one {cs:List AV} {x:α} (h:R g cs x ids):eI R g [cs] [x] ids:=by
 have:=eI.cons h eI.nil
 rwa [List.append_nil]at this
theorem eI.split (h:eI R g rows xs ids):∀k (hk:k<xs.length),∃r1 cs r2 i1 ic i2,rows=r1++cs::r2/\r1.length=k/\ids=i1++(ic++i2)/\eI R g r1 (xs.take k) i1/\R g cs xs[k] ic/\eI R g r2 (xs.drop (k+1)) i2:=by
 induction h with
 |nil=>intro k hk;simp at hk
 |cons h1 h2 ih=>
  rename_i cs x j1 rs xs j2
  intro k hk
  cases k with
  |zero=>exact⟨[],cs,rs,[],j1,j2,rfl,rfl,rfl,.nil,h1,h2⟩
  |succ k=>
   obtain⟨r1,ql,r2,i1,ic,i2,rfl,hl,rfl,h3,h4,h5⟩:=ih k (by simpa using hk)
   exact⟨cs::r1,ql,r2,j1++i1,ic,i2,rfl,by simp[hl],by rw[List.append_assoc],.cons h1 h3,h4,h5⟩
theorem eI.at_ (h:eI R g rows xs ids) (k:Nat) (hk:k<xs.length):∃cs ic,rows[k]? =some cs/\R g cs xs[k] ic/\∀i∈ic,i∈ids:=by
 obtain⟨r1,cs,r2,i1,ic,i2,rfl,hl,rfl,h3,h4,h5⟩:=h.split k hk
 refine⟨cs,ic,by rw[List.getElem?_append_right (by omega)];simp[hl],h4,fun i hi=>by simp[hi]⟩
theorem eI.fz {n:Nat} {e:α->List AV} (h:eI R g rows xs ids) (hz:∀{cs x ids},R g cs x ids->dd (dJ g) n cs=some (e x)):dU (dJ g) n rows=some (xs.map e):=by
 induction h with
 |nil=>rw[dU];rfl
 |cons h1 _ ih=>rw[dU,hz h1,ih];rfl
end
section
variable {α:Type} {R:C2 α} {sz:Nat} {g g':Rows} {a:AV} {xs:List α} {ids:List Id}
end
end Go.Proofs.YtgoljkjaameagaaGreat.V
