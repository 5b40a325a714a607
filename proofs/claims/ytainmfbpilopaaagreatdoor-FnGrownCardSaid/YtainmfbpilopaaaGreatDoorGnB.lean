/- One operation, calls among them. -/
import Derived.Test.YtainmfbpilopaaaGreatDoorGnA
import Derived.Orders
import Derived.Conc.LoneCalls
import Derived.WalkKit
import Derived.WalkSpells
import Derived.WalkLawsBesides
import Derived.Lib.Hide
import Derived.Deep.QuietTactic
import Derived.BigQuiet
import Derived.StillTailTactics
import Derived.Deep.RegionWith
import Derived.Deep.RegionHeld3
import Derived.Deep.LoopGhost
import Derived.Deep.CutRange
import Derived.Deep.DeepCutAuto
import Derived.Test.YtainmfbpilopaaaGreatDoorChecked
set_option linter.unusedVariables false
set_option linter.unusedSimpArgs false
set_option maxRecDepth 100000
set_option maxHeartbeats 16000000
namespace Go.Proofs.YtainmfbpilopaaaGreatDoor.V
open Go.RowKit
variable {P:Program} {w w':World} {D D' D2:Nat->Prop} {ι ι' ι2:Names}
def Sound (P:Program):gq:=fun f args σ K=>∀(hs:Nat) (D:Nat->Prop) (ι:Names) (w:World) (vs:Array Value),ig P hs D ι σ.get w->Used ι σ.next (fun _=>False)->fY P w D ι args vs->
 Calls P f vs w fun e w'=>∃r g' n' D' ι' u,e=.returned u/\K r ⟨g',n'⟩/\Step hs D ι w D' ι' w'/\ig P hs D' ι' g' w'/\Used ι' n' (fun _=>False)/\σ.next<=n'/\du P w' D' ι' r u
section
variable {g:Rows} {hs:Nat} {env:Env} {a:Act} {o:Oper} {id:Id} {v:AV}
theorem ig.ro (S:ig P hs D ι g w):ig P w.heap.size D ι (ro g) w:=by
 refine⟨Nat.le_refl _,S.dead,fun id r h=>?_,fun id lG r r' B B' h h' hw=>?_⟩
 ·unfold V.ro at h
  simp only[Option.map_eq_some_iff]at h
  obtain⟨r0,h0,rfl⟩:=h
  obtain⟨B,hB,R,_,_⟩:=S.row id r0 h0
  exact⟨B,hB,R.flag false,fun h=>by simp at h,fun h=>by simp at h⟩
 ·unfold V.ro at h
  simp only[Option.map_eq_some_iff]at h
  obtain⟨r0,h0,rfl⟩:=h
  simp at hw
theorem Ef {g0:Rows} {f:Nat} {args:List AV} {n:Nat} {K:AV->Prop} {vs:Array Value} (h:PC (Sound P) f args ⟨g0,n⟩ K) (nS:∀id r,g0 id=some r->g id=some r) (S:ig P hs D ι g w) (U:Used ι n (fun _=>False)) (A:fY P w D ι args vs):
  Calls P f vs w fun e w'=>∃r D' u,e=.returned u/\K r/\Step hs D ι w D' ι w'/\ig P hs D' ι g w'/\du P w' D' ι r u:=by
 refine(h w.heap.size D ι w vs (S.sub nS).ro U A).mono ?_
 rintro e w' ⟨r0,g',n',D1,ι1,u,rfl,⟨r,hr,hK⟩,T,S1,_,_,hR⟩
 have hb:∀b,b<w.heap.size->w'.heap[b]? =w.heap[b]? :=T.below.block
 have hz:=T.below.size
 have q:=ug (D2:=fun b=>D b∨(w.heap.size<=b/\b<w'.heap.size)) (ι2:=ι) (fun b hd=>by
  rcases T.new b hd with h|h
  ·exact .inl h
  ·exact .inr ⟨h,S1.dead b hd⟩) (fun id row hg hw=>by
  obtain⟨B,hB,R,h1,_⟩:=S1.row id row hg
  exact⟨B,hB,R,.inr ⟨h1 hw,R.lt⟩⟩) 6 r0 u r hR hr
 refine⟨r,_,u,rfl,hK,?_,?_,q.1⟩
 ·exact Step.stay S hb hz T.below.os T.below.tape T.below.output (fun _ h=>.inl h) (fun b h=>by rcases h with h|h;exact .inl h;exact .inr h.1) (fun _ _ h=>h)
 ·exact S.stay hb hz (fun _ h=>.inl h) (fun b h=>by rcases h with h|h;exact Nat.lt_of_lt_of_le (S.dead b h) hz;exact h.2) (fun b h=>by rcases h with h|h;exact .inl h;exact .inr h.1) (fun _ _ h=>h)
theorem Bd {g0:Rows} {f:Nat} {args:List AV} {n:Nat} {K:AV->Prop} {vs:Array Value} (h:PCv (Sound P) f args ⟨g0,n⟩ K) (nS:∀id r,g0 id=some r->g id=some r) (S:ig P hs D ι g w) (U:Used ι n (fun _=>False)) (A:fY P w D ι args vs):
  Calls P f vs w fun e w'=>∃r D' u,e=.returned u/\K r/\Step hs D ι w D' ι w'/\ig P hs D' ι g w'/\du P w' D' ι r u:=by
 obtain⟨args',ha,h⟩:=h
 let D1:Nat->Prop:=fun b=>D b∨∃id r B,g id=some r/\ι id=some B/\b=B.b
 have lt:∀id r B,g id=some r->ι id=some B->B.b<w.heap.size:=fun id r B h1 h2=>by
  obtain⟨B',eA,R,_⟩:=S.row id r h1
  rw[h2]at eA;injection eA with eA;subst eA
  exact R.lt
 have S0:ig P w.heap.size D1 ι (fun _=>none) w:=⟨Nat.le_refl _,fun b hb=>by
  rcases hb with hb|⟨id,r,B,h1,h2,rfl⟩
  ·exact S.dead b hb
  ·exact lt id r B h1 h2,fun id r h=>(by cases h),fun id lG r r' B B' h=>(by cases h)⟩
 obtain⟨l1,l2⟩:=iE ha
 have A':fY P w D1 ι args' vs:=⟨by rw[A.1,l1],fun j a hj=>by
  obtain⟨a0,mT,hf⟩:=l2 j a hj
  obtain⟨u,hu,hr⟩:=A.2 j a0 mT
  refine⟨u,hu,(ug (D2:=D1) (ι2:=ι) (fun b h=>.inl h) (fun id row hg hw=>?_) 6 a0 u a hr hf).1⟩
  unfold eD at hg
  simp only[Option.map_eq_some_iff]at hg
  obtain⟨r,pR,rfl⟩:=hg
  obtain⟨B,hB,R,_,_⟩:=S.row id r (nS id r pR)
  exact⟨B,hB,R.flag true,.inr ⟨id,r,B,nS id r pR,hB,rfl⟩⟩⟩
 refine(h w.heap.size D1 ι w vs S0 U A').mono ?_
 rintro e w' ⟨r0,g',n',D2,ι1,u,rfl,⟨r,hr,hK⟩,T,S1,_,_,hR⟩
 have hb:∀b,b<w.heap.size->w'.heap[b]? =w.heap[b]? :=T.below.block
 have hz:=T.below.size
 have q:=J7 (D2:=fun b=>D b∨(w.heap.size<=b/\b<w'.heap.size)) (ι2:=ι) (fun id row hg hw=>by
  obtain⟨B,hB,R,h1,_⟩:=S1.row id row hg
  exact⟨B,hB,R,.inr ⟨h1 hw,R.lt⟩⟩) 6 r0 u r hR hr
 refine⟨r,_,u,rfl,hK,?_,?_,q.1⟩
 ·exact Step.stay S hb hz T.below.os T.below.tape T.below.output (fun _ h=>.inl h) (fun b h=>by rcases h with h|h;exact .inl h;exact .inr h.1) (fun _ _ h=>h)
 ·exact S.stay hb hz (fun _ h=>.inl h) (fun b h=>by rcases h with h|h;exact Nat.lt_of_lt_of_le (S.dead b h) hz;exact h.2) (fun b h=>by rcases h with h|h;exact .inl h;exact .inr h.1) (fun _ _ h=>h)
theorem JF {g0:Rows} {f:Nat} {args:List AV} {n:Nat} {K:AV->Prop} {vs:Array Value} (h:fB (Sound P) f args ⟨g0,n⟩ K) (nS:∀id r,g0 id=some r->g id=some r) (S:ig P hs D ι g w) (U:Used ι n (fun _=>False)) (A:fY P w D ι args vs):
  Calls P f vs w fun e w'=>∃r D' u,e=.returned u/\K r/\Step hs D ι w D' ι w'/\ig P hs D' ι g w'/\du P w' D' ι r u:=by
 rcases h with h|h
 ·exact Ef h nS S U A
 ·exact Bd h nS S U A
theorem K3 {D1 D2:Nat->Prop} {ι1 ι2:Names} {w1:World} {a:AV} {v:Value} (hp:a.plain=true) (h:du P w D1 ι1 a v):du P w1 D2 ι2 a v:=by
 cases h with
 |eX a v h=>cases h<;>first|(simp[AV.plain]at hp;done)|exact .eX _ _ (by constructor)
 |_=>simp[AV.plain]at hp
theorem ig.add {r:Row} {B:vz} (S:ig P hs D ι g w) (S':ig P hs D ι g w') (hf:ι id=none) (lW:w.heap.size<=B.b) (R:iM P w' D (lJ ι id B) B r):ig P hs D (lJ ι id B) (bI g id r) w':=by
 have lt:∀lG r' B',g lG=some r'->ι lG=some B'->B'.b<w.heap.size:=fun lG r' B' h1 h2=>by
  obtain⟨B2,lx,R2,_⟩:=S.row lG r' h1
  rw[h2]at lx;injection lx with lx;subst lx
  exact R2.lt
 have ne:∀lG r',g lG=some r'->lG≠id:=fun lG r' h he=>by
  subst he
  obtain⟨B2,lx,_⟩:=S.row _ r' h
  rw[hf]at lx;cases lx
 refine⟨S'.lo,S'.dead,fun lG r' h=>?_,fun XL id2 r1 r2 B1 B2 h1 h2 hw DR lx hb=>?_⟩
 ·unfold bI at h
  split at h
  ·rename_i he
   subst he
   injection h with h;subst h
   exact⟨B,eK _ _ _,R,fun _=>Nat.le_trans S.lo lW,fun _ hd=>Nat.lt_irrefl _ (Nat.lt_of_lt_of_le (S.dead _ hd) lW)⟩
  ·obtain⟨B',eA,R',k1,k2⟩:=S'.row lG r' h
   exact⟨B',by rw[iq (ne _ _ h)];exact eA,R'.frame rfl (fun a v hr=>hr.frame (fun _ _=>rfl) (fun _ h=>h) (fJ hf)),k1,k2⟩
 ·unfold bI at h1 h2
  split at h1
  ·rename_i e1
   split at h2
   ·rename_i e2;rw[e1,e2]
   ·exfalso
    subst e1
    rw[eK]at DR;injection DR with DR;subst DR
    rw[iq (ne _ _ h2)]at lx
    have:=lt _ _ _ h2 lx
    omega
  ·rw[iq (ne _ _ h1)]at DR
   split at h2
   ·rename_i e2
    exfalso
    subst e2
    rw[eK]at lx;injection lx with lx;subst lx
    have:=lt _ _ _ h1 DR
    omega
   ·rw[iq (ne _ _ h2)]at lx
    exact S'.inj XL id2 r1 r2 B1 B2 h1 h2 hw DR lx hb
theorem LP {g0:Rows} {f:Nat} {args:List AV} {n sz:Nat} {rows:List (List AV)} {vs:Array Value} (h:CM (Sound P) f args ⟨g0,n⟩ sz rows) (nS:∀id r,g0 id=some r->g id=some r) (S:ig P hs D ι g w) (U:Used ι n (fun _=>False)) (A:fY P w D ι args vs) (hf:ι id=none):
  Calls P f vs w fun e w'=>∃u B,e=.returned u/\Step hs D ι w D (lJ ι id B) w'/\ig P hs D (lJ ι id B) (bI g id ⟨true,sz,rows⟩) w'/\du P w' D (lJ ι id B) (.own id 0 rows.length) u:=by
 obtain⟨lU,args',ha,h⟩:=h
 let D1:Nat->Prop:=fun b=>D b∨∃id r B,g id=some r/\ι id=some B/\b=B.b
 have lt:∀id r B,g id=some r->ι id=some B->B.b<w.heap.size:=fun id r B h1 h2=>by
  obtain⟨B',eA,R,_⟩:=S.row id r h1
  rw[h2]at eA;injection eA with eA;subst eA
  exact R.lt
 have S0:ig P w.heap.size D1 ι (fun _=>none) w:=⟨Nat.le_refl _,fun b hb=>by
  rcases hb with hb|⟨id,r,B,h1,h2,rfl⟩
  ·exact S.dead b hb
  ·exact lt id r B h1 h2,fun id r h=>(by cases h),fun id lG r r' B B' h=>(by cases h)⟩
 obtain⟨l1,l2⟩:=iE ha
 have A':fY P w D1 ι args' vs:=⟨by rw[A.1,l1],fun j a hj=>by
  obtain⟨a0,mT,hz⟩:=l2 j a hj
  obtain⟨u,hu,hr⟩:=A.2 j a0 mT
  refine⟨u,hu,(ug (D2:=D1) (ι2:=ι) (fun b h=>.inl h) (fun id row hg hw=>?_) 6 a0 u a hr hz).1⟩
  unfold eD at hg
  simp only[Option.map_eq_some_iff]at hg
  obtain⟨r,pR,rfl⟩:=hg
  obtain⟨B,hB,R,_,_⟩:=S.row id r (nS id r pR)
  exact⟨B,hB,R.flag true,.inr ⟨id,r,B,nS id r pR,hB,rfl⟩⟩⟩
 refine(h w.heap.size D1 ι w vs S0 U A').mono ?_
 rintro e w' ⟨r0,g',n',D2,ι1,u,rfl,⟨i0,hr,hg⟩,T,S1,_,_,hR⟩
 subst hr
 have hb:∀b,b<w.heap.size->w'.heap[b]? =w.heap[b]? :=T.below.block
 have hz:=T.below.size
 obtain⟨B,hB,R,k1,_⟩:=S1.row i0 _ hg
 have lW:w.heap.size<=B.b:=k1 rfl
 obtain⟨o,cap,B',rfl,eA,q2,q3,q4,q5,hk⟩:=jq hR
 rw[hB]at eA;injection eA with eA;subst eA
 replace R:=R.row hk
 have S':ig P hs D ι g w':=S.stay hb hz (fun _ h=>h) (fun b h=>Nat.lt_of_lt_of_le (S.dead b h) hz) (fun b h=>.inl h) (fun _ _ h=>h)
 have R':lV P w' D (lJ ι id B) B ⟨true,sz,rows⟩:=⟨R.sz,R.vd,R.fits,R.len,R.flat,fun i j cs a hi hj=>by
  obtain⟨v,h1,h2⟩:=R.at_ i j cs a hi hj
  exact⟨v,h1,K3 (lU cs (List.mem_of_getElem? hi) a (List.mem_of_getElem? hj)) h2⟩⟩
 exact⟨_,B,rfl,Step.stay S hb hz T.below.os T.below.tape T.below.output (fun _ h=>h) (fun _ h=>.inl h) (fJ hf),S.add S' hf lW (R'.obj hk),.own id 0 _ _ _ B (eK _ _ _) hk q2 q3 q4 q5⟩
theorem ko {f:Nat} {args:Array Value} (hc:gR P f=true):(callFunc f args).run P w=.ok (.enter f args) w:=by
 unfold gR at hc
 split at hc
 ·rename_i fn hf
  simp only[Bool.and_eq_true,Bool.not_eq_true']at hc
  have hb:fn.body.isNone=false:=by cases hq:fn.body<;>simp_all
  simp only[callFunc,Sem.run_bind,run_program,Result.andThen_ok,hf,hc.2,Bool.false_eq_true,if_false,hb]
  rfl
 ·simp at hc
theorem Ft {f:Nat} {args:List O} (hc:tK P o.op=some (.call f args)):∃c,o.op=.call c/\c.callee=.value (.func f)/\gR P f=true/\c.args.toList.mapM (cO P)=some args:=by
 unfold tK at hc
 split at hc
 case h_24=>
  rename_i c ho
  refine⟨c,ho,?_⟩
  unfold ph at hc
  split at hc
  all_goals (try(repeat' (split at hc))<;>(simp only[Option.bind_eq_bind,Option.bind_eq_some_iff,Option.pure_def,Option.some.injEq,Option.map_eq_some_iff,reduceCtorEq,and_false,exists_false]at hc))
  all_goals simp_all
 all_goals (try unfold yv at hc)<;>(try unfold vK at hc)<;>(repeat' (split at hc))<;>(simp only[Option.bind_eq_bind,Option.bind_eq_some_iff,Option.pure_def,Option.some.injEq,Option.map_eq_some_iff,reduceCtorEq,and_false,exists_false]at hc)
theorem we {x:O} {args:List O} (hc:tK P o.op=some (.wR x args)):∃c t,o.op=.call c/\c.callee=.value (.tmp t)/\x=.t t/\c.args.toList.mapM (cO P)=some args:=by
 unfold tK at hc
 split at hc
 case h_24=>
  rename_i c ho
  refine⟨c,?_⟩
  unfold ph at hc
  split at hc
  all_goals (try(repeat' (split at hc))<;>(simp only[Option.bind_eq_bind,Option.bind_eq_some_iff,Option.pure_def,Option.some.injEq,Option.map_eq_some_iff,reduceCtorEq,and_false,exists_false]at hc))
  all_goals simp_all
 all_goals (try unfold yv at hc)<;>(try unfold vK at hc)<;>(repeat' (split at hc))<;>(simp only[Option.bind_eq_bind,Option.bind_eq_some_iff,Option.pure_def,Option.some.injEq,Option.map_eq_some_iff,reduceCtorEq,and_false,exists_false]at hc)
theorem Ky {n:Nat} {x y:O} (hc:tK P o.op=some (.store n x y)):∃t x' y',o.op=.store t x' y'/\eO P t=some n/\cO P x'=some x/\cO P y'=some y:=by
 unfold tK at hc
 split at hc
 case h_8=>
  rename_i t x' y' ho
  refine⟨t,x',y',ho,?_⟩
  simp only[Option.bind_eq_bind,Option.bind_eq_some_iff,Option.pure_def,Option.some.injEq]at hc
  obtain⟨n',h1,x2,h2,y2,h3,he⟩:=hc
  injection he with e1 e2 e3
  subst e1;subst e2;subst e3
  exact⟨h1,h2,h3⟩
 all_goals (try unfold yv at hc)<;>(try unfold vK at hc)<;>(try unfold ph at hc)<;>(repeat' (split at hc))<;>(simp only[Option.bind_eq_bind,Option.bind_eq_some_iff,Option.pure_def,Option.some.injEq,Option.map_eq_some_iff,reduceCtorEq,and_false,exists_false]at hc)
theorem HC {n:Nat} {x y:O} (hc:tK P o.op=some (.append n x y)):∃(t e:TypeId) (m:Nat) (z:List K) (i:TypeInfo) (x' y':Operand),n=m+1/\o.op=.call {callee:=.builtin .append,args:= #[x',y'],argTypes:= #[t,t]}/\
  P.underlying t=some (.slice e)/\eO P e=some (m+1)/\kP P e=some z/\P.info? e=some i/\i.bytes<=32768/\cO P x'=some x/\cO P y'=some y:=by
 unfold tK at hc
 split at hc
 case h_24=>
  rename_i c ho
  unfold ph at hc
  split at hc
  case h_2=>
   rename_i l6
   split at hc
   ·rename_i x' y' t u h1 h2
    split at hc
    ·rename_i e ht
     split at hc
     ·rename_i m z i e1 e2 e3
      split at hc
      ·rename_i hb
       simp only[Option.bind_eq_bind,Option.bind_eq_some_iff,Option.pure_def,Option.some.injEq]at hc
       obtain⟨x2,h3,y2,h4,he⟩:=hc
       injection he with k1 k2 k3
       subst k1;subst k2;subst k3
       obtain⟨Tr,rfl⟩:=hb
       refine⟨t,e,m,z,i,x',y',rfl,?_,ht,e1,e2,e3,Tr,h3,h4⟩
       rw[ho]
       obtain⟨ca,cb,cc⟩:=c
       simp only at h1 h2 l6
       subst l6
       congr
       ·exact Array.ext' h1
       ·exact Array.ext' h2
      ·simp at hc
     ·simp at hc
    ·simp at hc
   ·simp at hc
  all_goals (repeat' (split at hc))<;>(simp only[Option.bind_eq_bind,Option.bind_eq_some_iff,Option.pure_def,Option.some.injEq,Option.map_eq_some_iff,reduceCtorEq,and_false,exists_false]at hc)
 all_goals (try unfold yv at hc)<;>(try unfold vK at hc)<;>(repeat' (split at hc))<;>(simp only[Option.bind_eq_bind,Option.bind_eq_some_iff,Option.pure_def,Option.some.injEq,Option.map_eq_some_iff,reduceCtorEq,and_false,exists_false]at hc)
theorem Nj {n:Nat} {x y:O} (hc:tK P o.op=some (.copy n x y)):∃(t t2 e:TypeId) (m:Nat) (x' y':Operand),n=m+1/\o.op=.call {callee:=.builtin .copy,args:= #[x',y'],argTypes:= #[t,t2]}/\
  P.underlying t=some (.slice e)/\eO P e=some (m+1)/\cO P x'=some x/\cO P y'=some y:=by
 unfold tK at hc
 split at hc
 case h_24=>
  rename_i c ho
  unfold ph at hc
  split at hc
  case h_7=>
   rename_i l6
   split at hc
   ·rename_i x' y' t t2 h1 h2
    split at hc
    ·rename_i e ht
     split at hc
     ·rename_i m e1
      simp only[Option.bind_eq_bind,Option.bind_eq_some_iff,Option.pure_def,Option.some.injEq,iA.copy.injEq]at hc
      obtain⟨x2,h3,y2,h4,k0,k1,k2⟩:=hc
      subst k1;subst k2
      refine⟨t,t2,e,m,x',y',k0.symm,?_,ht,e1,h3,h4⟩
      rw[ho]
      obtain⟨ca,cb,cc⟩:=c
      simp only at h1 h2 l6
      subst l6
      congr
      ·exact Array.ext' h1
      ·exact Array.ext' h2
     ·simp at hc
    ·simp at hc
   ·simp at hc
  all_goals (repeat' (split at hc))<;>(simp only[Option.bind_eq_bind,Option.bind_eq_some_iff,Option.pure_def,Option.some.injEq,Option.map_eq_some_iff,reduceCtorEq,and_false,exists_false]at hc)
 all_goals (try unfold yv at hc)<;>(try unfold vK at hc)<;>(repeat' (split at hc))<;>(simp only[Option.bind_eq_bind,Option.bind_eq_some_iff,Option.pure_def,Option.some.injEq,Option.map_eq_some_iff,reduceCtorEq,and_false,exists_false]at hc)
theorem Kx {z:List K} {x:O} (hc:tK P o.op=some (.clear z x)):∃(t e:TypeId) (m:Nat) (x':Operand),o.op=.call {callee:=.builtin .clear,args:= #[x'],argTypes:= #[t]}/\
  P.underlying t=some (.slice e)/\eO P e=some (m+1)/\kP P e=some z/\cO P x'=some x:=by
 unfold tK at hc
 split at hc
 case h_24=>
  rename_i c ho
  unfold ph at hc
  split at hc
  case h_3=>
   rename_i l6
   split at hc
   ·rename_i x' t h1 h2
    split at hc
    ·rename_i e ht
     split at hc
     ·rename_i m z' e1 e2
      simp only[Option.map_eq_some_iff]at hc
      obtain⟨x2,h3,he⟩:=hc
      injection he with k1 k2
      subst k1;subst k2
      refine⟨t,e,m,x',?_,ht,e1,e2,h3⟩
      rw[ho]
      obtain⟨ca,cb,cc⟩:=c
      simp only at h1 h2 l6
      subst l6
      congr
      ·exact Array.ext' h1
      ·exact Array.ext' h2
     ·simp at hc
    ·simp at hc
   ·simp at hc
  all_goals (repeat' (split at hc))<;>(simp only[Option.bind_eq_bind,Option.bind_eq_some_iff,Option.pure_def,Option.some.injEq,Option.map_eq_some_iff,reduceCtorEq,and_false,exists_false]at hc)
 all_goals (try unfold yv at hc)<;>(try unfold vK at hc)<;>(repeat' (split at hc))<;>(simp only[Option.bind_eq_bind,Option.bind_eq_some_iff,Option.pure_def,Option.some.injEq,Option.map_eq_some_iff,reduceCtorEq,and_false,exists_false]at hc)
theorem T7 {q:MW} {xs:List O} (hc:tK P o.op=some (.mw q xs)):
  (∃t x k y m z x' k' y',(o.op=.mapUpdate t x k y∨o.op=.insert t x k y)/\vL P t=some (m,z)/\cO P x=some x'/\cO P k=some k'/\cO P y=some y'/\q=.set m/\xs=[x',k',y'])∨
  (∃t t' x k m z x' k',o.op=.call {callee:=.builtin .delete,args:= #[x,k],argTypes:= #[t,t']}/\vL P t=some (m,z)/\cO P x=some x'/\cO P k=some k'/\q=.del m/\xs=[x',k']):=by
 unfold tK at hc
 split at hc
 case h_24=>
  rename_i c ho
  right
  unfold ph at hc
  split at hc
  case h_6=>
   rename_i l6
   split at hc
   ·rename_i x k t t' h1 h2
    split at hc
    ·rename_i m z x' k' e1 e2 e3
     injection hc with hc
     injection hc with q1 q2
     refine⟨t,t',x,k,m,z,x',k',?_,e1,e2,e3,q1.symm,q2.symm⟩
     rw[ho]
     obtain⟨ca,cb,cc⟩:=c
     simp only at h1 h2 l6
     subst l6
     congr
     ·exact Array.ext' h1
     ·exact Array.ext' h2
    ·cases hc
   ·cases hc
  all_goals (repeat' (split at hc))<;>(simp only[Option.bind_eq_bind,Option.bind_eq_some_iff,Option.pure_def,Option.some.injEq,Option.map_eq_some_iff,reduceCtorEq,and_false,exists_false]at hc)
 case h_30=>
  rename_i t x k y ho
  left
  split at hc
  ·rename_i m z x' k' y' e1 e2 e3 e4
   injection hc with hc
   injection hc with q1 q2
   exact⟨t,x,k,y,m,z,x',k',y',.inl ho,e1,e2,e3,e4,q1.symm,q2.symm⟩
  ·cases hc
 case h_31=>
  rename_i t x k y ho
  left
  split at hc
  ·rename_i m z x' k' y' e1 e2 e3 e4
   injection hc with hc
   injection hc with q1 q2
   exact⟨t,x,k,y,m,z,x',k',y',.inr ho,e1,e2,e3,e4,q1.symm,q2.symm⟩
  ·cases hc
 all_goals (try unfold yv at hc)<;>(try unfold vK at hc)<;>(repeat' (split at hc))<;>(simp only[Option.bind_eq_bind,Option.bind_eq_some_iff,Option.pure_def,Option.some.injEq,Option.map_eq_some_iff,reduceCtorEq,and_false,exists_false]at hc)
def kd (g:Rows) (id:Id):Option Row->Rows
 |some r=>bI g id r
 |none=>g
def yz (X:gq) (hid:List Nat) (site n:Nat) (f:Nat) (args:List AV) (g:Rows) (v:AV) (g':Rows):Prop:=
 (fB X f args ⟨fA hid n g,n+1⟩ (fun r=>r=v)/\g'=g)∨
 (hid.contains site=true/\∃sz rows,CM X f args ⟨fA hid n g,n+1⟩ sz rows/\v=.own ⟨site,n⟩ 0 rows.length/\g'=bI g ⟨site,n⟩ ⟨true,sz,rows⟩)
def VS (X:gq) (n:Nat) (vo:bD) (env:Env) (g:Rows) (v:AV) (g':Rows):Prop:=
 match vo.op with
 | .call f args=>yz X vo.hid vo.site n f (args.map (dj env)) g v g'
 | .wR x args=>∃f l,yy (dj env x) (args.map (dj env))=some (f,l)/\yz X vo.hid vo.site n f l g v g'
 | .store .. | .append .. | .copy .. | .clear .. | .mw .. =>fC vo.op (dj env) g ⟨vo.site,n⟩=some (v,g')
 |_=>∃mr,eB vo.op (dj env) (fA vo.hid n g) ⟨vo.site,n⟩=some (v,mr)/\g'=kd g ⟨vo.site,n⟩ mr
def Rk (P:Program) (hs:Nat) (D:Nat->Prop) (ι:Names) (w:World) (U:Nat->Prop) (site n:Nat) (a:Act) (dst:Option Tmp) (v:AV) (g':Rows) (a':Act) (w':World):Prop:=
 ∃u D' ι',a'=a.put dst u/\Step hs D ι w D' ι' w'/\ig P hs D' ι' g' w'/\du P w' D' ι' v u/\Used ι' n (fun s=>U s∨s=site)
theorem fresh {n:Nat} {U:Nat->Prop} {s:Nat} (h:Used ι n U) (hU:¬U s):ι ⟨s,n⟩=none:=by
 cases hq:ι ⟨s,n⟩with
 |none=>rfl
 |some B=>
  rcases h ⟨s,n⟩ (by rw[hq];simp)with h|⟨_,h⟩
  ·exact absurd h (Nat.lt_irrefl _)
  ·exact absurd h hU
theorem Used.more {n:Nat} {U U':Nat->Prop} (h:Used ι n U) (hU:∀s,U s->U' s):Used ι n U':=fun id hid=>by
 rcases h id hid with h|⟨h1,h2⟩
 ·exact .inl h
 ·exact .inr ⟨h1,hU _ h2⟩
theorem Used.next {n:Nat} {U:Nat->Prop} (h:Used ι n U):Used ι (n+1) (fun _=>False):=fun id hid=>by
 rcases h id hid with h|⟨h1,_⟩
 ·exact .inl (Nat.lt_succ_of_lt h)
 ·exact .inl ae
theorem Used.upd {n:Nat} {U:Nat->Prop} {s:Nat} {B:vz} (h:Used ι n U):Used (lJ ι ⟨s,n⟩ B) n (fun x=>U x∨x=s):=fun id hid=>by
 by_cases he:id=⟨s,n⟩
 ·subst he;exact .inr ⟨rfl,.inr rfl⟩
 ·rw[iq he]at hid
  exact(h.more (U':=fun x=>U x∨x=s) fun _ h=>Or.inl h) id hid
theorem qa {xs:Array Operand} {ys:List O} (E:dc P w D ι env a) (h:xs.toList.mapM (cO P)=some ys):fY P w D ι (ys.map (dj env)) (xs.map a.eval):=by
 obtain⟨h1,h2⟩:=HV E h
 refine⟨by simpa using h1,fun j b hj=>?_⟩
 simp only[List.getElem?_map,Option.map_eq_some_iff]at hj
 obtain⟨y,hy,rfl⟩:=hj
 have eG:j<xs.size:=by have:=(List.getElem?_eq_some_iff.1 hy).1;simp at h1;omega
 refine⟨a.eval xs[j],by simp[eG],?_⟩
 have:=h2 j y hy
 simpa[List.getD_eq_getElem?_getD,eG]using this
theorem qD {xs ys:List AV} {vs us:Array Value} (h:fY P w D ι xs vs) (k:fY P w D ι ys us):fY P w D ι (xs++ys) (vs++us):=
 ⟨by simp[h.1,k.1],fun j b hj=>by
  by_cases eG:j<xs.length
  ·rw[List.getElem?_append_left eG]at hj
   obtain⟨u,hu,AQ⟩:=h.2 j b hj
   exact⟨u,by rw[Array.getElem?_append_left (by rw[h.1];exact eG)];exact hu,AQ⟩
  ·rw[List.getElem?_append_right ae]at hj
   obtain⟨u,hu,AQ⟩:=k.2 _ b hj
   exact⟨u,by rw[Array.getElem?_append_right (by rw[h.1];omega),h.1];exact hu,AQ⟩⟩
theorem zV:fY P w D ι [] #[]:=⟨rfl,fun j b hj=>by simp at hj⟩
theorem yC {x:AV} {l l':List AV} {f:Nat} {vs:Array Value} {v:Value} (h:yy x l=some (f,l')) (hr:du P w D ι x v) (hA:fY P w D ι l vs):
  ∃first dG,v=.func (.func f) first dG/\gR P f=true/\fY P w D ι l' (first++vs++dG):=by
 unfold yy at h
 split at h
 ·simp only[Option.some.injEq,Prod.mk.injEq]at h
  obtain⟨rfl,rfl⟩:=h
  obtain⟨us,q,he,I0,n1,q1,q2⟩:=wF hr
  refine⟨#[],us,he,I0,?_⟩
  rw[Array.empty_append]
  exact qD hA ⟨n1,fun j b hj=>⟨q j,q1 j (List.getElem?_eq_some_iff.1 hj).1,q2 j b hj⟩⟩
 ·simp only[Option.some.injEq,Prod.mk.injEq]at h
  obtain⟨rfl,rfl⟩:=h
  obtain⟨us,q,he,I0,n1,q1,q2⟩:=QN hr
  refine⟨us, #[],he,I0,?_⟩
  rw[Array.append_empty]
  exact qD ⟨n1,fun j b hj=>⟨q j,q1 j (List.getElem?_eq_some_iff.1 hj).1,q2 j b hj⟩⟩ hA
 ·cases h
theorem Eh {n:Nat} {vo:bD} {g':Rows} {U:Nat->Prop} {Q:Exit->Act->World->Prop} {K:Act->World->Prop} (hc:tK P o.op=some vo.op) (hv:VS (Sound P) n vo env g v g') (S:ig P hs D ι g w) (Us:Used ι n U) (hU:¬U vo.site) (E:dc P w D ι env a)
  (hK:∀a' w',Rk P hs D ι w U vo.site n a o.dst v g' a' w'->K a' w'):o.wp P a w K Q:=by
 have hf:=fresh Us hU
 have Eu:∀(f:Nat) (args:List AV) (vs:Array Value),yz (Sound P) vo.hid vo.site n f args g v g'->fY P w D ι args vs->(execOp a.eval o).run P w=.ok (.enter f vs) w->o.wp P a w K Q:=by
  intro f args vs hP hA gz
  unfold Oper.wp
  rw[gz]
  rcases hP with⟨hP,rfl⟩|⟨_,sz,rows,hM,rfl,rfl⟩
  ·refine(JF hP DJ S Us.next hA).mono ?_
   rintro e w' ⟨r,D',u,rfl,rfl,T,S',hR⟩
   exact hK _ _ ⟨u,D',ι,rfl,T,S',hR,Us.more fun _ h=>.inl h⟩
  ·refine(LP hM DJ S Us.next hA hf).mono ?_
   rintro e w' ⟨u,B,rfl,T,S',hR⟩
   exact hK _ _ ⟨u,D,_,rfl,T,S',hR,Us.upd⟩
 have quiet:∀(mr:Option Row),eB vo.op (dj env) (fA vo.hid n g) ⟨vo.site,n⟩=some (v,mr)->g'=kd g ⟨vo.site,n⟩ mr->o.wp P a w K Q:=by
  intro mr hq hg
  have Y6:=B9 hc hq (S.sub DJ) E
  unfold Oper.wp
  cases mr with
  |none=>
   obtain⟨u,gz,hR⟩:=Y6
   rw[gz]
   subst hg
   exact hK _ _ ⟨u,D,ι,rfl,Step.refl _ _ _ _,S,hR,Us.more fun _ h=>.inl h⟩
  |some r=>
   rcases Y6 with⟨u,cells,T,gz,h1,h2,h3,h4,h5,h6⟩|⟨m,gz,P8,Gx⟩|⟨c,gz,P8,Gx⟩
   case inr.inr=>
    rw[gz]
    subst hg P8 Gx
    have ew:w.heap.size<(w.alloc (.chan c #[] false 0 0 false)).heap.size:=by simp
    have S':=S.stay (w':=w.alloc (.chan c #[] false 0 0 false)) (D':=D) (ι':=ι) (fun k hk=>Below.heap_alloc _ _ _ hk) (by simp) (fun _ h=>h) (fun b hd=>Nat.lt_trans (S.dead b hd) ew) (fun _ h=>.inl h) (fun _ _ h=>h)
    have S1:=S.add S' (id:=⟨vo.site,n⟩) (B:=⟨w.heap.size,ua+c,0,some (.chan c)⟩) (r:=⟨true,ua+c,[]⟩) hf (Nat.le_refl _) ⟨rfl,fun cs h=>by simp at h,fun h=>by simp at h,fun m' h=>(by simp at h),fun c' h=>by
     simp only[Option.some.injEq,BK.chan.injEq]at h;subst h
     exact⟨rfl, #[],0,0,(show(w.heap.push (Obj.chan c #[] false 0 0 false))[w.heap.size]? =some (Obj.chan c #[] false 0 0 false) by simp),rfl,fun i cs h=>by simp at h⟩⟩
    exact hK _ _ ⟨_,D,_,rfl,Step.stay S (fun k hk=>Below.heap_alloc _ _ _ hk) (by simp) rfl rfl rfl (fun _ h=>h) (fun _ h=>.inl h) (fJ hf),S1,.tX _ _ _ (eK _ _ _) rfl,Us.upd⟩
   case inr.inl=>
    rw[gz]
    subst hg P8 Gx
    have ew:w.heap.size<(w.alloc (.map #[] 0)).heap.size:=by simp
    have S':=S.stay (w':=w.alloc (.map #[] 0)) (D':=D) (ι':=ι) (fun k hk=>Below.heap_alloc _ _ _ hk) (by simp) (fun _ h=>h) (fun b hd=>Nat.lt_trans (S.dead b hd) ew) (fun _ h=>.inl h) (fun _ _ h=>h)
    have S1:=S.add S' (id:=⟨vo.site,n⟩) (B:=⟨w.heap.size,m.j4,0,some (.map m)⟩) (r:=⟨true,m.j4,[]⟩) hf (Nat.le_refl _) ⟨rfl,fun cs h=>by simp at h,fun h=>by simp at h,fun m' h=>by
     simp only[Option.some.injEq,BK.map.injEq]at h;subst h
     exact⟨rfl, #[],0,(show(w.heap.push (Obj.map #[] 0))[w.heap.size]? =some (Obj.map #[] 0) by simp),rfl,⟨fun cs h=>by simp at h,fun x h=>by simp at h,by simp⟩,fun i cs h=>by simp at h⟩,fun c h=>by simp at h⟩
    exact hK _ _ ⟨_,D,_,rfl,Step.stay S (fun k hk=>Below.heap_alloc _ _ _ hk) (by simp) rfl rfl rfl (fun _ h=>h) (fun _ h=>.inl h) (fJ hf),S1,.map _ _ _ (eK _ _ _) rfl,Us.upd⟩
   rw[gz]
   subst hg
   have S1:=S.alloc (id:=⟨vo.site,n⟩) (w':=w.alloc (.cells cells T)) rfl hf h1 h2 h3 h4 h5
   refine hK _ _ ⟨u,D,_,rfl,Step.stay S (fun k hk=>Below.heap_alloc _ _ _ hk) (by simp) rfl rfl rfl (fun _ h=>h) (fun _ h=>.inl h) (fJ hf),S1,(h6 (lJ ι _ _) (eK _ _ _)).frame (fun b hd=>Below.heap_alloc _ _ _ (S.dead b hd)) (fun _ h=>h) (fun _ _ h=>h),Us.upd⟩
 have VL:fC vo.op (dj env) g ⟨vo.site,n⟩=some (v,g')->(∀Pg,GG P hs a o Pg D ι ⟨vo.site,n⟩ v g'->Pg=w->o.wp P a w K Q):=by
  intro _ Pg hE he
  subst he
  obtain⟨u,w',ι',gz,T,S',hR,hι⟩:=hE
  have MN:Rk P hs D ι Pg U vo.site n a o.dst v g' (a.put o.dst u) w':=⟨u,D,ι',rfl,T,S',hR,fun id hid=>by
   by_cases he:id=⟨vo.site,n⟩
   ·subst he;exact .inr ⟨rfl,.inr rfl⟩
   ·rw[hι id he]at hid
    exact(Us.more (U':=fun x=>U x∨x=vo.site) fun _ h=>Or.inl h) id hid⟩
  unfold Oper.wp
  rcases gz with gz|⟨gz,rfl⟩
  ·rw[gz];exact hK _ _ MN
  ·rw[gz];exact hK _ _ MN
 unfold VS at hv
 split at hv
 ·rename_i f args eH
  rw[eH]at hc
  obtain⟨c,ho,l6,I0,pr⟩:=Ft hc
  refine Eu f _ (c.args.map a.eval) hv (qa E pr) ?_
  simp only[execOp,ho,resolve,l6,Deferred.ofValue,Act.eval,Sem.run_bind,Sem.run_pure,Result.andThen_ok,invoke,Array.empty_append,Array.append_empty]
  exact ko I0
 ·rename_i x args eH
  obtain⟨f,l,hx,hP⟩:=hv
  rw[eH]at hc
  obtain⟨c,t,ho,l6,rfl,pr⟩:=we hc
  obtain⟨first,dG,he,I0,hL⟩:=yC (v:=a.eval (.tmp t)) hx (E t) (qa E pr)
  refine Eu f _ (first++c.args.map a.eval++dG) hP hL ?_
  simp only[execOp,ho,resolve,l6,he,Deferred.ofValue,Sem.run_bind,Sem.run_pure,Result.andThen_ok,invoke]
  exact ko I0
 ·rename_i m x y eH
  have lR:=hc
  rw[eH]at lR
  obtain⟨t,x',y',ho,h1,h2,h3⟩:=Ky lR
  have pJ:=hv
  rw[eH]at pJ
  simp only[fC,Option.map_eq_some_iff,Prod.mk.injEq]at pJ
  obtain⟨g1,DU,rfl,rfl⟩:=pJ
  exact VL hv w (PI S E ho h1 h2 h3 DU) rfl
 ·rename_i m x y eH
  have lR:=hc
  rw[eH]at lR
  obtain⟨t,e,m',z,i,x',y',rfl,ho,h1,h2,h3,h4,h5,h6,h7⟩:=HC lR
  have pJ:=hv
  rw[eH]at pJ
  simp only[fC,Option.bind_eq_some_iff]at pJ
  obtain⟨ys,GD,pJ⟩:=pJ
  exact VL hv w (Mq S E hf ho h1 h2 h3 h4 h5 h6 h7 GD pJ) rfl
 ·rename_i m x y eH
  have lR:=hc
  rw[eH]at lR
  obtain⟨t,t2,e,m',x',y',rfl,ho,h1,h2,h3,h4⟩:=Nj lR
  have pJ:=hv
  rw[eH]at pJ
  simp only[fC,Option.bind_eq_some_iff]at pJ
  obtain⟨ys,GD,pJ⟩:=pJ
  exact VL hv w (SP S E ho h1 h2 h3 h4 GD pJ) rfl
 ·rename_i z x eH
  have lR:=hc
  rw[eH]at lR
  obtain⟨t,e,m',x',ho,h1,h2,h3,h4⟩:=Kx lR
  have pJ:=hv
  rw[eH]at pJ
  simp only[fC,Option.map_eq_some_iff,Prod.mk.injEq]at pJ
  obtain⟨g1,DU,rfl,rfl⟩:=pJ
  exact VL hv w (PH S E ho h1 h2 h3 h4 DU) rfl
 ·rename_i q xs eH
  have lR:=hc
  rw[eH]at lR
  have pJ:=hv
  rw[eH]at pJ
  simp only[fC,Option.map_eq_some_iff,Prod.mk.injEq]at pJ
  obtain⟨g1,DU,rfl,rfl⟩:=pJ
  rcases T7 lR with⟨t,x,k,y,m,z,x',k',y',ho,h1,h2,h3,h4,rfl,rfl⟩|⟨t,t',x,k,m,z,x',k',ho,h1,h2,h3,rfl,rfl⟩
  ·exact VL hv w (SR S E ho h1 h2 h3 h4 DU) rfl
  ·exact VL hv w (SQ S E ho h1 h2 h3 DU) rfl
 ·obtain⟨mr,hq,hg⟩:=hv
  exact quiet mr hq hg
end
end Go.Proofs.YtainmfbpilopaaaGreatDoor.V

namespace Go.Proofs.YtainmfbpilopaaaGreatDoor.V
open Go.RowKit
variable {P:Program} {w w':World} {D D' D2:Nat->Prop} {ι ι' ι2:Names}
section
variable {g:Rows} {hs:Nat} {env:Env} {a:Act} {o:Oper} {id:Id} {v:AV}
theorem qP {ops:Array Oper} {nt site0 j:Nat} {draw mk:Bool} {bs:Array Nat} {hidden:List (Nat×Bool)} {vo:bD} (h:mm P ops nt site0 draw mk bs hidden j o=some vo):
  tK P o.op=some vo.op/\vo.dst=o.dst/\vo.site=site0+j/\(∀d,o.dst=some d->d<nt)/\(match o.guard with
   |none=>vo.guard=none
   |some (i,b)=>∃t,(ops[i]?).bind (·.dst)=some t/\vo.guard=some (t,b)):=by
 unfold mm at h
 simp only[Option.bind_eq_bind,Option.bind_eq_some_iff]at h
 obtain⟨v,hv,gd,hg,h⟩:=h
 split at h
 ·rename_i hd
  simp only[Option.pure_def,Option.some.injEq]at h
  subst h
  refine⟨hv,rfl,rfl,fun d YQ=>?_,?_⟩
  ·rw[YQ]at hd;simpa using hd
  ·unfold G3 at hg
   cases As:o.guard with
   |none=>rw[As]at hg;simp at hg;exact hg.symm
   |some p=>
    obtain⟨i,b⟩:=p
    rw[As]at hg
    dsimp only at hg ⊢
    split at hg
    ·rename_i t ht
     simp at hg;exact⟨t,ht,hg.symm⟩
    ·simp at hg
 ·simp at h
theorem wP {ops:Array Oper} {vo:bD} (E:dc P w D ι env a) (hg:match o.guard with
   |none=>vo.guard=none
   |some (i,b)=>∃t,(ops[i]?).bind (·.dst)=some t/\vo.guard=some (t,b)):aL vo.guard env=Region.wanted o (yielded ops a.tmps):=by
 unfold Region.wanted
 cases As:o.guard with
 |none=>rw[As]at hg;simp only at hg;rw[hg];rfl
 |some p=>
  obtain⟨i,b⟩:=p
  rw[As]at hg
  obtain⟨t,ht,hv⟩:=hg
  rw[hv]
  simp only[aL,yielded,ht,Option.bind_some]
  have hr:=E t
  by_cases eG:t<a.tmps.size
  ·have iK:a.tmps[t]? =some a.tmps[t]:=Array.getElem?_eq_getElem eG
   have hd:a.tmps.getD t undef=a.tmps[t]:=by simp[eG]
   rw[hd]at hr
   rw[iK]
   generalize a.tmps[t]=u at hr
   cases he:env t with
   |bool c=>rw[he]at hr;rw[fR hr];simp
   |_=>
    rw[he]at hr
    have:∀c,u≠.bool c:=by
     intro c hu
     subst hu
     cases hr with
     |eX _ _ h=>cases h
    cases u<;>simp_all
  ·have iK:a.tmps[t]? =none:=Array.getElem?_eq_none (Nat.le_of_not_lt eG)
   have hd:a.tmps.getD t undef=undef:=by simp[iK]
   rw[hd]at hr
   rw[iK]
   cases he:env t with
   |bool c=>rw[he]at hr;have:=fR hr;simp[undef]at this
   |_=>simp
theorem jn {dst:Option Nat} {nt:Nat} {u:Value} (E:dc P w D ι env a) (hr:du P w D ι v u) (hd:∀d,dst=some d->d<nt) (hs:a.tmps.size=nt):dc P w D ι (upd env dst v) (a.put dst u):=by
 intro t
 cases dst with
 |none=>exact E t
 |some d=>
  have eG:d<a.tmps.size:=by rw[hs];exact hd d rfl
  simp only[upd,Act.put]
  by_cases ht:t=d
  ·subst ht
   simp[eG];exact hr
  ·rw[if_neg ht]
   have:(a.tmps.setIfInBounds d u).getD t undef=a.tmps.getD t undef:=by
    simp only[Array.getD_eq_getD_getElem?]
    rw[Array.getElem?_setIfInBounds_ne (fun e=>ht e.symm)]
   rw[this];exact E t
theorem qk {hs:Nat} (E:dc P w D ι env a) (T:Step hs D ι w D' ι' w'):dc P w' D' ι' env a:=fun t=>T.rep (E t)
theorem fI (a:Act) (dst:Option Tmp) (u:Value):(a.put dst u).tmps.size=a.tmps.size:=by cases dst<;>simp[Act.put]
theorem put_defers (a:Act) (dst:Option Tmp) (u:Value):(a.put dst u).defers=a.defers:=by cases dst<;>rfl
theorem Cg {draw:Bool} {vo:bD} {σ:ax} {next:AV->ax->Prop} {U:Nat->Prop} {Q:Exit->Act->World->Prop} {K:Act->World->Prop} (hc:tK P o.op=some vo.op) (hv:fq (Sound P) draw vo env σ next) (S:ig P hs D ι σ.get w) (Us:Used ι σ.next U) (hU:¬U vo.site) (E:dc P w D ι env a)
  (hK:∀v σ' u D' ι' w',next v σ'->Step hs D ι w D' ι' w'->ig P hs D' ι' σ'.get w'->du P w' D' ι' v u->Used ι' σ'.next (fun s=>U s∨s=vo.site)->σ.next<=σ'.next->K (a.put o.dst u) w'):o.wp P a w K Q:=by
 have close:∀v g',VS (Sound P) σ.next vo env σ.get v g'->next v ⟨g',σ.next⟩->o.wp P a w K Q:=fun v g' h1 h2=>
  Eh hc h1 S Us hU E fun a' w' ⟨u,D',ι',ha,T,S',hR,U'⟩=>by subst ha;exact hK v ⟨g',σ.next⟩ u D' ι' w' h2 T S' hR U' (Nat.le_refl _)
 have NL:∀(f:Nat) (args:List AV) (vs:Array Value),Sound P f args ⟨σ.get,σ.next+1⟩ next->fY P w D ι args vs->(execOp a.eval o).run P w=.ok (.enter f vs) w->o.wp P a w K Q:=by
  intro f args vs h hA gz
  unfold Oper.wp
  rw[gz]
  refine(h hs D ι w vs S Us.next hA).mono ?_
  rintro e w' ⟨r,g',n',D',ι',u,rfl,hn,T,S',U',hle,hR⟩
  exact hK r ⟨g',n'⟩ u D' ι' w' hn T S' hR (U'.more fun _ h=>h.elim) (Nat.le_trans (Nat.le_succ _) hle)
 unfold fq at hv
 split at hv
 ·rename_i f args eH
  rcases hv with⟨r,hP,hn⟩|⟨_,hX⟩|⟨Ay,sz,rows,hM,hn⟩
  ·exact close r σ.get (by unfold VS;rw[eH];exact .inl ⟨hP,rfl⟩) hn
  rotate_left
  ·exact close _ _ (by unfold VS;rw[eH];exact .inr ⟨Ay,sz,rows,hM,rfl,rfl⟩) hn
  ·have lR:=hc
   rw[eH]at lR
   obtain⟨c,ho,l6,I0,pr⟩:=Ft lR
   refine NL f _ (c.args.map a.eval) hX (qa E pr) ?_
   simp only[execOp,ho,resolve,l6,Deferred.ofValue,Act.eval,Sem.run_bind,Sem.run_pure,Result.andThen_ok,invoke,Array.empty_append,Array.append_empty]
   exact ko I0
 ·rename_i x args eH
  split at hv
  ·rename_i f dG hx
   have vp:yy (dj env x) (args.map (dj env))=some (f,args.map (dj env)++dG):=by rw[hx];rfl
   rcases hv with⟨r,hP,hn⟩|⟨_,hX⟩|⟨Ay,sz,rows,hM,hn⟩
   ·exact close r σ.get (by unfold VS;rw[eH];exact⟨f,_,vp,.inl ⟨hP,rfl⟩⟩) hn
   rotate_left
   ·exact close _ _ (by unfold VS;rw[eH];exact⟨f,_,vp,.inr ⟨Ay,sz,rows,hM,rfl,rfl⟩⟩) hn
   ·have lR:=hc
    rw[eH]at lR
    obtain⟨c,t,ho,l6,rfl,pr⟩:=we lR
    obtain⟨first,us,he,I0,hL⟩:=yC (v:=a.eval (.tmp t)) vp (E t) (qa E pr)
    refine NL f _ (first++c.args.map a.eval++us) hX hL ?_
    simp only[execOp,ho,resolve,l6,he,Deferred.ofValue,Sem.run_bind,Sem.run_pure,Result.andThen_ok,invoke]
    exact ko I0
  ·rename_i f dG hx
   have vp:yy (dj env x) (args.map (dj env))=some (f,dG++args.map (dj env)):=by rw[hx];rfl
   rcases hv with⟨r,hP,hn⟩|⟨_,hX⟩|⟨Ay,sz,rows,hM,hn⟩
   ·exact close r σ.get (by unfold VS;rw[eH];exact⟨f,_,vp,.inl ⟨hP,rfl⟩⟩) hn
   rotate_left
   ·exact close _ _ (by unfold VS;rw[eH];exact⟨f,_,vp,.inr ⟨Ay,sz,rows,hM,rfl,rfl⟩⟩) hn
   ·have lR:=hc
    rw[eH]at lR
    obtain⟨c,t,ho,l6,rfl,pr⟩:=we lR
    obtain⟨first,us,he,I0,hL⟩:=yC (v:=a.eval (.tmp t)) vp (E t) (qa E pr)
    refine NL f _ (first++c.args.map a.eval++us) hX hL ?_
    simp only[execOp,ho,resolve,l6,he,Deferred.ofValue,Sem.run_bind,Sem.run_pure,Result.andThen_ok,invoke]
    exact ko I0
  ·exact hv.elim
 ·rename_i m x y eH
  split at hv
  ·rename_i v' g' he
   exact close v' g' (by unfold VS;rw[eH];rw[eH]at he;exact he) hv
  ·exact hv.elim
 ·rename_i m x y eH
  split at hv
  ·rename_i v' g' he
   exact close v' g' (by unfold VS;rw[eH];rw[eH]at he;exact he) hv
  ·exact hv.elim
 ·rename_i m x y eH
  split at hv
  ·rename_i v' g' he
   exact close v' g' (by unfold VS;rw[eH];rw[eH]at he;exact he) hv
  ·exact hv.elim
 ·rename_i m x eH
  split at hv
  ·rename_i v' g' he
   exact close v' g' (by unfold VS;rw[eH];rw[eH]at he;exact he) hv
  ·exact hv.elim
 ·rename_i m x eH
  split at hv
  ·rename_i v' g' he
   exact close v' g' (by unfold VS;rw[eH];rw[eH]at he;exact he) hv
  ·exact hv.elim
 ·rename_i n1 n2 n3 n4 n5 n6 n7
  split at hv
  ·rename_i v' r hq
   refine close v' (bI σ.get ⟨vo.site,σ.next⟩ r) ?_ hv
   unfold VS
   split
   ·rename_i h;exact(n1 _ _ h).elim
   ·rename_i h;exact(n2 _ _ h).elim
   ·rename_i h;exact(n3 _ _ _ h).elim
   ·rename_i h;exact(n4 _ _ _ h).elim
   ·rename_i h;exact(n5 _ _ _ h).elim
   ·rename_i h;exact(n6 _ _ h).elim
   ·rename_i h;exact(n7 _ _ h).elim
   ·exact⟨some r,hq,rfl⟩
  ·rename_i v' hq
   refine close v' σ.get ?_ hv
   unfold VS
   split
   ·rename_i h;exact(n1 _ _ h).elim
   ·rename_i h;exact(n2 _ _ h).elim
   ·rename_i h;exact(n3 _ _ _ h).elim
   ·rename_i h;exact(n4 _ _ _ h).elim
   ·rename_i h;exact(n5 _ _ _ h).elim
   ·rename_i h;exact(n6 _ _ h).elim
   ·rename_i h;exact(n7 _ _ h).elim
   ·exact⟨none,hq,rfl⟩
  ·exact hv.elim
structure St (P:Program) (hs nt:Nat) (D:Nat->Prop) (ι:Names) (env:Env) (σ:ax) (a:Act) (w:World):Prop where
 wH:ig P hs D ι σ.get w
 used:Used ι σ.next (fun _=>False)
 env:dc P w D ι env a
 size:a.tmps.size=nt
theorem zF (rest:List Oper) {ops:Array Oper} {nt site0:Nat} {draw mk:Bool} {bs:Array Nat} {hidden:List (Nat×Bool)} {K:Env->ax->Prop} {Q:Exit->Act->World->Prop}:∀(l:List Oper) (vl:List bD) (j:Nat) (env:Env) (σ:ax) (a:Act) (w:World) (D:Nat->Prop) (ι:Names) (U:Nat->Prop),
  allM (mm P ops nt site0 draw mk bs hidden) l j=some vl->wpOps (Sound P) draw vl K env σ->ig P hs D ι σ.get w->Used ι σ.next U->(∀s,U s->s<site0+j)->dc P w D ι env a->a.tmps.size=nt->
  (∀jz σ' a' w' D' ι',K jz σ'->Step hs D ι w D' ι' w'->St P hs nt D' ι' jz σ' a' w'->a'.defers=a.defers->σ.next<=σ'.next->wpList P ops Q rest a' w')->wpList P ops Q (l++rest) a w:=by
 intro l
 induction l with
 |nil=>
  intro vl j env σ a w D ι U h hv S Us _ E ew hQ
  simp[allM]at h;subst h
  exact hQ env ⟨σ.get,σ.next+1⟩ a w D ι hv (Step.refl _ _ _ _) ⟨S,Us.next,E,ew⟩ rfl (Nat.le_succ _)
 |cons o l ih=>
  intro vl j env σ a w D ι U h hv S Us hU E ew hQ
  simp only[allM,Option.bind_eq_bind,Option.bind_eq_some_iff,Option.pure_def,Option.some.injEq]at h
  obtain⟨vo,ni,wO,vn,rfl⟩:=h
  obtain⟨hc,hd,Fg,AL,hg⟩:=qP ni
  have hw:=wP (ops:=ops) (vo:=vo) E hg
  unfold wpOps at hv
  show wpList P ops Q (o::(l++rest)) a w
  unfold wpList
  rw[<-hw]
  split at hv
  ·rename_i Kr
   rw[if_pos Kr]
   refine .inl (Cg hc hv S Us (fun h=>by have:=hU _ h;omega) E fun v σ' u D' ι' w' hn T S' hR U' hle=>?_)
   refine ih wO (j+1) (upd env vo.dst v) σ' (a.put o.dst u) w' D' ι' _ vn hn S' U' (fun s Fe=>by
    rcases Fe with h|h
    ·have:=hU _ h;omega
    ·omega) (by rw[hd];exact jn (qk E T) hR AL ew) (by rw[fI];exact ew) fun jz σ2 a' w2 D2 ι2 hk T2 Pm Hs td=>hQ jz σ2 a' w2 D2 ι2 hk (T.trans T2) Pm (Hs.trans (put_defers _ _ _)) (Nat.le_trans hle td)
  ·rename_i Kr
   rw[if_neg Kr]
   refine ih wO (j+1) (upd env vo.dst .undef) σ (a.put o.dst undef) w D ι U vn hv S Us (fun s Fe=>by have:=hU _ Fe;omega) (by rw[hd];exact jn E du.undef AL ew) (by rw[fI];exact ew) fun jz σ2 a' w2 D2 ι2 hk T2 Pm Hs td=>hQ jz σ2 a' w2 D2 ι2 hk T2 Pm (Hs.trans (put_defers _ _ _)) td
theorem BW {ops:Array Oper} {nt site0:Nat} {draw mk:Bool} {bs:Array Nat} {hidden:List (Nat×Bool)} {K:Env->ax->Prop} {Q:Exit->Act->World->Prop}:∀(l:List Oper) (vl:List bD) (j:Nat) (env:Env) (σ:ax) (a:Act) (w:World) (D:Nat->Prop) (ι:Names) (U:Nat->Prop),
  allM (mm P ops nt site0 draw mk bs hidden) l j=some vl->wpOps (Sound P) draw vl K env σ->ig P hs D ι σ.get w->Used ι σ.next U->(∀s,U s->s<site0+j)->dc P w D ι env a->a.tmps.size=nt->
  (∀jz σ' a' w' D' ι',K jz σ'->Step hs D ι w D' ι' w'->St P hs nt D' ι' jz σ' a' w'->a'.defers=a.defers->σ.next<=σ'.next->Q .normal a' w')->wpList P ops Q l a w:=fun l vl j env σ a w D ι U h hv S Us hU E ew hQ=>by
 have:=zF [] l vl j env σ a w D ι U h hv S Us hU E ew hQ
 rwa [List.append_nil]at this
end
end Go.Proofs.YtainmfbpilopaaaGreatDoor.V

namespace Go.Proofs.YtainmfbpilopaaaGreatDoor.V
open Go.RowKit
variable {P:Program} {w w':World} {D D' D2:Nat->Prop} {ι ι' ι2:Names}
section
variable {hs:Nat} {X:gq}
theorem cr {env jR:Env} {x:O} (h:∀t∈iR x,env t=jR t):dj env x=dj jR x:=by
 cases x with
 |t n=>exact h n (by simp[iR])
 |_=>rfl
theorem map_congr {env jR:Env} {l:List O} (h:∀t∈l.flatMap iR,env t=jR t):l.map (dj env)=l.map (dj jR):=
 List.map_congr_left fun x hx=>cr fun t ht=>h t (List.mem_flatMap.2 ⟨x,hx,ht⟩)
theorem rj {env jR:Env} {x:Option O} (h:∀t∈zG x,env t=jR t):x.map (dj env)=x.map (dj jR):=by
 cases x with
 |none=>rfl
 |some y=>simp only[Option.map_some];rw[cr h]
theorem wE {env jR:Env} {o:iA} {g:Rows} {id:Id} (h:∀t∈o.iH,env t=jR t):eB o (dj env) g id=eB o (dj jR) g id:=by
 cases o<;>simp only[iA.iH,List.mem_append]at h<;>simp only[eB]
 case eW x=>rw[cr h]
 case pick c a b=>rw[cr (x:=c) fun t ht=>h t (.inl (.inl ht)),cr (x:=a) fun t ht=>h t (.inl (.inr ht)),cr (x:=b) fun t ht=>h t (.inr ht)]
 case box x=>rw[cr h]
 case build z ps=>
  have:(ps.map fun(x:Nat×Nat×O)=>(x.1,x.2.1,dj env x.2.2))=ps.map fun(x:Nat×Nat×O)=>(x.1,x.2.1,dj jR x.2.2):=List.map_congr_left fun x hx=>by
   rw[cr (x:=x.2.2) fun t ht=>h t (List.mem_flatMap.2 ⟨x,hx,ht⟩)]
  rw[this]
 case fW a b l=>rw[map_congr h]
 case load a n x=>rw[cr h]
 case LA x=>rw[cr h]
 case bin a b x y=>rw[cr (x:=x) fun t ht=>h t (.inl ht),cr (x:=y) fun t ht=>h t (.inr ht)]
 case sh a x y=>rw[cr (x:=x) fun t ht=>h t (.inl ht),cr (x:=y) fun t ht=>h t (.inr ht)]
 case yG a x y=>rw[cr (x:=x) fun t ht=>h t (.inl ht),cr (x:=y) fun t ht=>h t (.inr ht)]
 case Yz a b x y=>rw[cr (x:=x) fun t ht=>h t (.inl ht),cr (x:=y) fun t ht=>h t (.inr ht)]
 case Yx a b x y=>rw[cr (x:=x) fun t ht=>h t (.inl ht),cr (x:=y) fun t ht=>h t (.inr ht)]
 case Wy a b x=>rw[cr h]
 case Yy a x=>rw[cr h]
 case not x=>rw[cr h]
 case neg x=>rw[cr h]
 case conv k x=>rw[cr h]
 case IG x=>rw[cr h]
 case slice s x lo hi=>rw[cr (x:=x) fun t ht=>h t (.inl (.inl ht)),rj (x:=lo) fun t ht=>h t (.inl (.inr ht)),rj (x:=hi) fun t ht=>h t (.inr ht)]
 case DD x lo hi=>rw[cr (x:=x) fun t ht=>h t (.inl (.inl ht)),rj (x:=lo) fun t ht=>h t (.inl (.inr ht)),rj (x:=hi) fun t ht=>h t (.inr ht)]
 case fa k x=>rw[cr h]
 case field a b c x=>rw[cr h]
 case kR s x y=>rw[cr (x:=x) fun t ht=>h t (.inl ht),cr (x:=y) fun t ht=>h t (.inr ht)]
 case Qd n s x y=>rw[cr (x:=x) fun t ht=>h t (.inl ht),cr (x:=y) fun t ht=>h t (.inr ht)]
 case Qf x y=>rw[cr (x:=x) fun t ht=>h t (.inl ht),cr (x:=y) fun t ht=>h t (.inr ht)]
 case dm a b c x y=>rw[cr (x:=x) fun t ht=>h t (.inl ht),cr (x:=y) fun t ht=>h t (.inr ht)]
 case extract i x=>rw[cr h]
 case len x=>rw[cr h]
 case Qt x=>rw[cr h]
 case NB x=>rw[cr h]
 case Nw x=>rw[cr h]
 case Qv f l=>rw[map_congr h]
 case Qw f l=>rw[map_congr h]
 case mq f l=>rw[map_congr h]
 case rf z x y=>rw[cr (x:=x) fun t ht=>h t (.inl ht),cr (x:=y) fun t ht=>h t (.inr ht)]
theorem iV {env jR:Env} {o:iA} {g:Rows} {id:Id} (h:∀t∈o.iH,env t=jR t):fC o (dj env) g id=fC o (dj jR) g id:=by
 cases o<;>simp only[iA.iH,List.mem_append]at h<;>simp only[fC]
 case clear z x=>rw[cr h]
 case mw f l=>rw[map_congr h]
 all_goals rename_i a x y
 all_goals rw[cr (x:=x) fun t ht=>h t (.inl ht),cr (x:=y) fun t ht=>h t (.inr ht)]
theorem L9 {n:Nat} {vo:bD} {env jR:Env} {g g':Rows} {v:AV} (h:∀t∈vo.op.iH,env t=jR t) (hv:VS X n vo env g v g'):VS X n vo jR g v g':=by
 unfold VS at hv ⊢
 split at hv
 ·rename_i f args eH
  rw[eH]at h
  simp only[iA.iH]at h
  rw[<-map_congr h];exact hv
 ·rename_i x args eH
  rw[eH]at h
  simp only[iA.iH,List.mem_append]at h
  rw[<-map_congr (l:=args) fun t ht=>h t (.inr ht),<-cr (x:=x) fun t ht=>h t (.inl ht)];exact hv
 ·rw[<-iV h];exact hv
 ·rw[<-iV h];exact hv
 ·rw[<-iV h];exact hv
 ·rw[<-iV h];exact hv
 ·rw[<-iV h];exact hv
 ·rw[<-wE h];exact hv
theorem HL {q:MQ} {vs:List AV} {g:Rows} {id:Id} {v:AV} {r:Row} (h:bt q vs g id=some (v,some r)):∃m,q=.new m:=by
 unfold bt at h
 split at h
 ·exact⟨_,rfl⟩
 ·simp[Option.bind_eq_some_iff]at h
 ·simp at h
 ·cases h
theorem zS {o:iA} {ρ:O->AV} {g:Rows} {id:Id} {v:AV} {r:Row} (h:eB o ρ g id=some (v,some r)):tn o=true:=by
 cases o<;>simp only[eB]at h<;>(try rfl)<;>(try simp at h)
 case mq q xs=>obtain⟨m,rfl⟩:=HL h;rfl
 all_goals (try(split at h<;>simp at h))
theorem zU {o:iA} {ρ:O->AV} {g g2:Rows} {id id2:Id} (h:o.cls=.pure):eB o ρ g id=eB o ρ g2 id2:=by
 cases o<;>(try simp[iA.cls]at h)<;>(try simp only[eB])
 case mq q xs=>cases q<;>simp[iA.cls]at h
theorem yl {n:Nat} {vo:bD} {env:Env} {g g':Rows} {v:AV} (hw:vo.op.cls≠.write) (hv:VS X n vo env g v g'):∃mr,g'=kd g ⟨vo.site,n⟩ mr/\(mr≠none->vo.makes=true)/\∀g0,fA vo.hid n g0=fA vo.hid n g->VS X n vo env g0 v (kd g0 ⟨vo.site,n⟩ mr):=by
 unfold VS at hv
 split at hv
 ·rename_i f args eH
  rcases hv with⟨h1,rfl⟩|⟨hs,sz,rows,hM,rfl,rfl⟩
  ·refine⟨none,rfl,fun h=>(h rfl).elim,fun g0 h0=>?_⟩
   unfold VS;rw[eH];simp only;unfold yz;rw[h0];exact .inl ⟨h1,rfl⟩
  ·refine⟨some _,rfl,fun _=>by unfold bD.makes;rw[eH,hs];simp[iA.nz],fun g0 h0=>?_⟩
   unfold VS;rw[eH];simp only;unfold yz;rw[h0];exact .inr ⟨hs,sz,rows,hM,rfl,rfl⟩
 ·rename_i x args eH
  obtain⟨f,dG,hx,hv⟩:=hv
  rcases hv with⟨h1,rfl⟩|⟨hs,sz,rows,hM,rfl,rfl⟩
  ·refine⟨none,rfl,fun h=>(h rfl).elim,fun g0 h0=>?_⟩
   unfold VS;rw[eH];simp only;unfold yz;rw[h0];exact⟨f,dG,hx,.inl ⟨h1,rfl⟩⟩
  ·refine⟨some _,rfl,fun _=>by unfold bD.makes;rw[eH,hs];simp[iA.nz],fun g0 h0=>?_⟩
   unfold VS;rw[eH];simp only;unfold yz;rw[h0];exact⟨f,dG,hx,.inr ⟨hs,sz,rows,hM,rfl,rfl⟩⟩
 ·rename_i eH;rw[eH]at hw;exact(hw rfl).elim
 ·rename_i eH;rw[eH]at hw;exact(hw rfl).elim
 ·rename_i eH;rw[eH]at hw;exact(hw rfl).elim
 ·rename_i eH;rw[eH]at hw;exact(hw rfl).elim
 ·rename_i eH;rw[eH]at hw;exact(hw rfl).elim
 ·rename_i n1 n2 n3 n4 n5 n6 n7
  obtain⟨mr,hq,rfl⟩:=hv
  refine⟨mr,rfl,fun h=>?_,fun g0 h0=>?_⟩
  ·cases mr with
   |none=>exact(h rfl).elim
   |some r=>unfold bD.makes;rw[zS hq];rfl
  ·unfold VS
   split
   ·rename_i hh;exact(n1 _ _ hh).elim
   ·rename_i hh;exact(n2 _ _ hh).elim
   ·rename_i hh;exact(n3 _ _ _ hh).elim
   ·rename_i hh;exact(n4 _ _ _ hh).elim
   ·rename_i hh;exact(n5 _ _ _ hh).elim
   ·rename_i hh;exact(n6 _ _ hh).elim
   ·rename_i hh;exact(n7 _ _ hh).elim
   ·rw[h0];exact⟨mr,hq,rfl⟩
theorem Cp {n:Nat} {vo:bD} {env:Env} {g g':Rows} {v:AV} (hp:vo.op.cls=.pure) (hv:VS X n vo env g v g'):g'=g/\∀g0,VS X n vo env g0 v g0:=by
 unfold VS at hv
 split at hv
 ·rename_i eH;rw[eH]at hp;simp[iA.cls]at hp
 ·rename_i eH;rw[eH]at hp;simp[iA.cls]at hp
 ·rename_i eH;rw[eH]at hp;simp[iA.cls]at hp
 ·rename_i eH;rw[eH]at hp;simp[iA.cls]at hp
 ·rename_i eH;rw[eH]at hp;simp[iA.cls]at hp
 ·rename_i eH;rw[eH]at hp;simp[iA.cls]at hp
 ·rename_i eH;rw[eH]at hp;simp[iA.cls]at hp
 ·rename_i n1 n2 n3 n4 n5 n6 n7
  obtain⟨mr,hq,rfl⟩:=hv
  have hmr:mr=none:=by
   cases mr with
   |none=>rfl
   |some r=>have:=zS hq;simp[tn,hp]at this
  subst hmr
  refine⟨rfl,fun g0=>?_⟩
  unfold VS
  split
  ·rename_i hh;exact(n1 _ _ hh).elim
  ·rename_i hh;exact(n2 _ _ hh).elim
  ·rename_i hh;exact(n3 _ _ _ hh).elim
  ·rename_i hh;exact(n4 _ _ _ hh).elim
  ·rename_i hh;exact(n5 _ _ _ hh).elim
  ·rename_i hh;exact(n6 _ _ hh).elim
  ·rename_i hh;exact(n7 _ _ hh).elim
  ·exact⟨none,by rw[zU hp];exact hq,rfl⟩
def GS (X:gq) (n:Nat) (vo:bD) (env:Env) (g:Rows) (v:AV) (g':Rows):Prop:=
 if aL vo.guard env then VS X n vo env g v g' else v=.undef/\g'=g
theorem Gl {hid:List Nat} {g:Rows} {s n:Nat} {mr:Option Row} (h:mr≠none->hid.contains s=true):fA hid n (kd g ⟨s,n⟩ mr)=fA hid n g:=by
 cases mr with
 |none=>rfl
 |some r=>
  have hc:=h (by simp)
  cases hid with
  |nil=>simp at hc
  |cons a l=>
   funext i
   show(if (a::l).contains i.site=true/\i.bq=n then none else kd g ⟨s,n⟩ (some r) i)=if (a::l).contains i.site=true/\i.bq=n then none else g i
   by_cases hi:i=⟨s,n⟩
   ·subst hi;rw[if_pos ⟨hc,rfl⟩,if_pos ⟨hc,rfl⟩]
   ·simp only[kd,bI,if_neg hi]
theorem JH {g:Rows} {i j:Id} (h:i≠j) (m1 m2:Option Row):kd (kd g i m1) j m2=kd (kd g j m2) i m1:=by
 cases m1<;>cases m2<;>simp only[kd]
 funext k
 simp only[bI]
 by_cases h1:k=i
 ·subst h1;rw[if_neg h,if_pos rfl];simp
 ·by_cases h2:k=j
  ·subst h2;simp[h1]
  ·simp[h1,h2]
theorem Am {env:Env} {d e:Option Nat} {v u:AV} (h:∀k,d=some k->e≠some k):upd (upd env d v) e u=upd (upd env e u) d v:=by
 cases d with
 |none=>rfl
 |some d=>
  cases e with
  |none=>rfl
  |some e=>
   have iI:d≠e:=fun he=>h d rfl (by rw[he])
   funext t
   simp only[upd]
   by_cases h1:t=d
   ·subst h1;rw[if_neg iI,if_pos rfl,if_pos rfl]
   ·by_cases h2:t=e
    ·subst h2;rw[if_pos rfl,if_neg h1,if_pos rfl]
    ·simp[h1,h2]
theorem ot {env:Env} {d:Option Nat} {v:AV} {l:List Nat} (h:∀k,d=some k->k∉l):∀t∈l,upd env d v t=env t:=by
 intro t ht
 cases d with
 |none=>rfl
 |some d=>
  have:t≠d:=fun he=>h d rfl (he▸ht)
  simp[upd,this]
structure GH (x y:bD):Prop where
 xy:∀k,x.dst=some k->k∉y.iH
 yx:∀k,y.dst=some k->k∉x.iH
 dst:∀k,x.dst=some k->y.dst≠some k
 cls:clash x.op.cls y.op.cls=false
 hx:x.makes=true->y.hid.contains x.site=true
 hy:y.makes=true->x.hid.contains y.site=true
 site:x.site≠y.site
theorem GH.symm {x y:bD} (h:GH x y):GH y x:=
 ⟨h.yx,h.xy,fun k hk he=>h.dst k he hk,by have:=h.cls;revert this;cases x.op.cls<;>cases y.op.cls<;>simp[clash],h.hy,h.hx,fun e=>h.site e.symm⟩
theorem sY {x y:bD} (h:IS x y=true):GH x y:=by
 unfold IS at h
 simp only[Bool.and_eq_true,Bool.not_eq_true',Bool.or_eq_true,bne_iff_ne]at h
 obtain⟨⟨⟨⟨h1,h2⟩,h3⟩,h4⟩,h5⟩:=h
 unfold wN at h1
 simp only[Bool.and_eq_true]at h1
 obtain⟨a1,a2⟩:=h1
 refine⟨fun k hk=>?_,fun k hk=>?_,fun k hk=>?_,h2,fun hm=>?_,fun hm=>?_,h5⟩
 ·rw[hk]at a1;simp at a1;exact a1.1
 ·rw[hk]at a2;simpa using a2
 ·rw[hk]at a1;simp at a1;exact a1.2
 ·rcases h3 with h3|h3
  ·rw[hm]at h3;cases h3
  ·exact h3
 ·rcases h4 with h4|h4
  ·rw[hm]at h4;cases h4
  ·exact h4
theorem uQ {vo:bD} {t:Nat} (h:t∈vo.op.iH):t∈vo.iH:=List.mem_append_left _ h
theorem pa {vo:bD} {env jR:Env} (h:∀t∈vo.iH,env t=jR t):aL vo.guard env=aL vo.guard jR:=by
 unfold aL
 cases hg:vo.guard with
 |none=>rfl
 |some p=>
  obtain⟨t,b⟩:=p
  have:env t=jR t:=h t (List.mem_append_right _ (by rw[hg];simp))
  simp only[this]
theorem yd {n:Nat} {vo:bD} {env jR:Env} {g g':Rows} {v:AV} (h:∀t∈vo.iH,env t=jR t) (hv:GS X n vo env g v g'):GS X n vo jR g v g':=by
 unfold GS at hv ⊢
 rw[<-pa h]
 split at hv
 ·rename_i hw;rw[if_pos hw];exact L9 (fun t ht=>h t (uQ ht)) hv
 ·rename_i hw;rw[if_neg hw];exact hv
theorem It {n:Nat} {x y:bD} {env:Env} {g g1 g2:Rows} {v v':AV} (F:GH x y) (h1:GS X n x env g v g1) (h2:GS X n y (upd env x.dst v) g1 v' g2):
  ∃OV,GS X n y env g v' OV/\GS X n x (upd env y.dst v') OV v g2/\upd (upd env x.dst v) y.dst v'=upd (upd env y.dst v') x.dst v:=by
 have RT:=Am (env:=env) (v:=v) (u:=v') F.dst
 replace h2:GS X n y env g1 v' g2:=yd (ot F.xy) h2
 have back:∀{OV},GS X n x env OV v g2->GS X n x (upd env y.dst v') OV v g2:=fun h=>yd (fun t ht=>(ot F.yx t ht).symm) h
 unfold GS at h1 h2
 by_cases wx:aL x.guard env=true
 ·rw[if_pos wx]at h1
  by_cases wy:aL y.guard env=true
  ·rw[if_pos wy]at h2
   by_cases cx:x.op.cls=.write
   ·have cy:y.op.cls=.pure:=by
     have:=F.cls;rw[cx]at this
     cases hc:y.op.cls<;>simp[clash,hc]at this ⊢
    obtain⟨rfl,eJ⟩:=Cp cy h2
    exact⟨g,by unfold GS;rw[if_pos wy];exact eJ g,back (by unfold GS;rw[if_pos wx];exact h1),RT⟩
   ·by_cases cy:y.op.cls=.write
    ·have cx':x.op.cls=.pure:=by
      have:=F.cls;rw[cy]at this
      cases hc:x.op.cls<;>simp[clash,hc]at this ⊢
     obtain⟨rfl,eJ⟩:=Cp cx' h1
     exact⟨g2,by unfold GS;rw[if_pos wy];exact h2,back (by unfold GS;rw[if_pos wx];exact eJ g2),RT⟩
    ·obtain⟨mx,rfl,kx,ZK⟩:=yl cx h1
     obtain⟨my,rfl,ky,Sz⟩:=yl cy h2
     have iI:(⟨x.site,n⟩:Id)≠⟨y.site,n⟩:=fun e=>F.site (by injection e)
     refine⟨kd g ⟨y.site,n⟩ my,?_,back ?_,RT⟩
     ·unfold GS;rw[if_pos wy]
      exact Sz g (Gl fun h=>F.hx (kx h)).symm
     ·unfold GS;rw[if_pos wx,JH iI]
      exact ZK _ (Gl fun h=>F.hy (ky h))
  ·rw[if_neg wy]at h2
   obtain⟨rfl,rfl⟩:=h2
   exact⟨g,by unfold GS;rw[if_neg wy];exact⟨rfl,rfl⟩,back (by unfold GS;rw[if_pos wx];exact h1),RT⟩
 ·rw[if_neg wx]at h1
  obtain⟨rfl,rfl⟩:=h1
  exact⟨g2,h2,back (by unfold GS;rw[if_neg wx];exact⟨rfl,rfl⟩),RT⟩
end
end Go.Proofs.YtainmfbpilopaaaGreatDoor.V

namespace Go.Proofs.YtainmfbpilopaaaGreatDoor.V
open Go.RowKit
variable {P:Program} {w w':World} {D D' D2:Nat->Prop} {ι ι' ι2:Names}
section
variable {hs:Nat} {X:gq}
def ke (acc:Array Nat) (o:Oper):Nat:=o.after.foldl (fun s e=>if Region.binds .any e then s|||2 ^ e.on|||acc.getD e.on 0 else s) 0
theorem Pu (ops:Array Oper):j5 ops=ops.foldl (fun acc o=>acc.push (ke acc o)) #[]:=rfl
theorem Eo {acc:Array Nat} {o:Oper} {i:Nat} (h:(ke acc o).testBit i=true):∃e∈o.after,Region.binds .any e=true/\(e.on=i∨(acc.getD e.on 0).testBit i=true):=by
 unfold ke at h
 rw[<-Array.foldl_toList]at h
 have gen:∀(l:List Edge) (s:Nat),(l.foldl (fun s e=>if Region.binds .any e then s|||2 ^ e.on|||acc.getD e.on 0 else s) s).testBit i=true->s.testBit i=true∨∃e∈l,Region.binds .any e=true/\(e.on=i∨(acc.getD e.on 0).testBit i=true):=by
  intro l
  induction l with
  |nil=>intro s h;exact .inl h
  |cons e r ih=>
   intro s h
   rw[List.foldl_cons]at h
   rcases ih _ h with h|⟨e',EY,h'⟩
   ·by_cases hb:Region.binds .any e=true
    ·rw[if_pos hb]at h
     simp only[Nat.testBit_or,Bool.or_eq_true]at h
     rcases h with(h|h)|h
     ·exact .inl h
     ·refine .inr ⟨e,by simp,hb,.inl ?_⟩
      rw[Nat.testBit_two_pow]at h
      simpa using h
     ·exact .inr ⟨e,by simp,hb,.inr h⟩
    ·rw[if_neg hb]at h;exact .inl h
   ·exact .inr ⟨e',List.mem_cons_of_mem _ EY,h'⟩
 rcases gen _ _ h with h|⟨e,he,h⟩
 ·simp at h
 ·exact⟨e,Array.mem_toList_iff.1 he,h⟩
theorem Mh {ops:Array Oper} {j i:Nat} (h:((j5 ops).getD j 0).testBit i=true):∃o,ops[j]? =some o/\∃e∈o.after,Region.binds .any e=true/\(e.on=i∨((j5 ops).getD e.on 0).testBit i=true):=by
 have key:∀(l pre:List Oper) (acc:Array Nat),acc.size=pre.length->(∀j i,(acc.getD j 0).testBit i=true->∃o,pre[j]? =some o/\∃e∈o.after,Region.binds .any e=true/\(e.on=i∨(acc.getD e.on 0).testBit i=true))->
   ∀j i,((l.foldl (fun acc o=>acc.push (ke acc o)) acc).getD j 0).testBit i=true->∃o,(pre++l)[j]? =some o/\∃e∈o.after,Region.binds .any e=true/\(e.on=i∨((l.foldl (fun acc o=>acc.push (ke acc o)) acc).getD e.on 0).testBit i=true):=by
  intro l
  induction l with
  |nil=>intro pre acc _ h j i hb;simpa using h j i hb
  |cons o r ih=>
   intro pre acc ew h j i hb
   have DZ:∀k,k<acc.size->(acc.push (ke acc o)).getD k 0=acc.getD k 0:=fun k hk=>by
    simp only[Array.getD_eq_getD_getElem?,Array.getElem?_push]
    rw[if_neg ae]
   have big:∀k,acc.size<=k->acc.getD k 0=0:=fun k hk=>by simp[Array.getElem?_eq_none hk]
   have lift:∀k i,(acc.getD k 0).testBit i=true->((acc.push (ke acc o)).getD k 0).testBit i=true:=fun k i hk=>by
    by_cases eG:k<acc.size
    ·rw[DZ k eG];exact hk
    ·rw[big k ae]at hk;simp at hk
   have:=ih (pre++[o]) (acc.push (ke acc o)) (by simp[ew]) (fun j i hb=>by
    by_cases eG:j<acc.size
    ·rw[DZ j eG]at hb
     obtain⟨o',DW,e,he,pN,h2⟩:=h j i hb
     refine⟨o',by rw[List.getElem?_append_left ae];exact DW,e,he,pN,?_⟩
     rcases h2 with h2|h2
     ·exact .inl h2
     ·exact .inr (lift _ _ h2)
    ·by_cases hj:j=acc.size
     ·subst hj
      have e0:(acc.push (ke acc o)).getD acc.size 0=ke acc o:=by simp
      rw[e0]at hb
      obtain⟨e,he,pN,h2⟩:=Eo hb
      refine⟨o,by rw[List.getElem?_append_right ae,ew];simp,e,he,pN,?_⟩
      rcases h2 with h2|h2
      ·exact .inl h2
      ·exact .inr (lift _ _ h2)
     ·have:(acc.push (ke acc o)).getD j 0=0:=by
       simp only[Array.getD_eq_getD_getElem?]
       rw[Array.getElem?_eq_none (by simp;omega)];rfl
      rw[this]at hb;simp at hb) j i (by simpa using hb)
   simpa using this
 rw[Pu,<-Array.foldl_toList]at h ⊢
 have:=key ops.toList [] #[] rfl (fun j i h=>by simp at h) j i h
 simpa using this
def DC (ops:Array Oper) (listed:Array Bool):Prop:=∀k i,listed.getD k false=true->((j5 ops).getD k 0).testBit i=true->listed.getD i false=true
theorem mF {ops:Array Oper} {listed:Array Bool} (h:DC ops listed) {j:Nat} (hj:j∈Region.ready .any ops listed):∀i,((j5 ops).getD j 0).testBit i=true->listed.getD i false=true:=by
 intro i hb
 obtain⟨_,o,ho,eJ⟩:=mem_ready.1 hj
 obtain⟨o',DW,e,he,pN,h2⟩:=Mh hb
 rw[ho]at DW;injection DW with DW;subst DW
 have hl:=eJ e he pN
 rcases h2 with h2|h2
 ·rw[<-h2];exact hl
 ·exact h _ _ hl h2
theorem DC.list {ops:Array Oper} {listed:Array Bool} (h:DC ops listed) {j:Nat} (hj:j∈Region.ready .any ops listed):DC ops (listed.setIfInBounds j true):=by
 intro k i hk hb
 by_cases hkj:k=j
 ·subst hkj;exact getD_set_true (mF h hj i hb)
 ·rw[getD_set_ne false (fun e=>hkj e.symm)]at hk
  exact getD_set_true (h k i hk hb)
theorem jZ {ops:Array Oper} {listed:Array Bool} {j:Nat} (hj:j∈Region.ready .any ops listed):listed.getD j false=false:=by
 have h0:=(mem_ready.1 hj).1
 rcases Nat.lt_or_ge j listed.size with h|h
 ·simp[h]at h0 ⊢;exact h0
 ·simp[Array.getElem?_eq_none h]at h0
def Ow (X:gq) (n:Nat) (ops:Array Oper) (vl:List bD) (K:Env->Rows->Prop):Nat->Array Bool->Env->Rows->Prop
 |0,listed,env,g=>Region.ready .any ops listed=[]/\K env g
 |f+1,listed,env,g=>(Region.ready .any ops listed=[]->K env g)/\∀i∈Region.ready .any ops listed,∃vo,vl[i]? =some vo/\∃v g',GS X n vo env g v g'/\Ow X n ops vl K f (listed.setIfInBounds i true) (upd env vo.dst v) g'
theorem EG {ops:Array Oper} {vl:List bD} (h:qj ops vl (j5 ops)=true) {i j:Nat} {x y:bD} (hi:vl[i]? =some x) (hj:vl[j]? =some y) (BC:i≠j) (h1:((j5 ops).getD j 0).testBit i=false) (h2:((j5 ops).getD i 0).testBit j=false):GH x y:=by
 unfold qj at h
 simp only[Bool.and_eq_true,List.all_eq_true]at h
 obtain⟨_,h⟩:=h
 have mem:∀(k:Nat) (z:bD),vl[k]? =some z->(z,k)∈vl.zipIdx:=fun k z hk=>by
  rw[List.mem_iff_getElem?]
  exact⟨k,by simp[List.getElem?_zipIdx,hk]⟩
 rcases Nat.lt_or_gt_of_ne BC with eG|Xi
 ·have:=h _ (mem j y hj) _ (mem i x hi)
  simp only[eG,decide_true,Bool.not_true,Bool.false_or,h1]at this
  exact sY this
 ·have:=h _ (mem i x hi) _ (mem j y hj)
  simp only[Xi,decide_true,Bool.not_true,Bool.false_or,h2]at this
  exact(sY this).symm
theorem Ii {n:Nat} {ops:Array Oper} {vl:List bD} {K:Env->Rows->Prop} (C4:qj ops vl (j5 ops)=true) (hlen:vl.length=ops.size) {i:Nat} {vi:bD} (hi:vl[i]? =some vi) {v:AV}:∀(fuel:Nat) (listed:Array Bool) (env:Env) (g g1:Rows),
  DC ops listed->i∈Region.ready .any ops listed->GS X n vi env g v g1->Ow X n ops vl K fuel (listed.setIfInBounds i true) (upd env vi.dst v) g1->Ow X n ops vl K (fuel+1) listed env g:=by
 intro fuel
 induction fuel with
 |zero=>
  intro listed env g g1 _ hr hG H
  refine⟨fun h=>(by rw[h]at hr;cases hr),fun j hj=>?_⟩
  by_cases ny:j=i
  ·subst ny;exact⟨vi,hi,v,g1,hG,H⟩
  ·have:=ready_mono hj ny
   rw[H.1]at this;cases this
 |succ fuel ih=>
  intro listed env g g1 vh hr hG H
  refine⟨fun h=>(by rw[h]at hr;cases hr),fun j hj=>?_⟩
  by_cases ny:j=i
  ·subst ny;exact⟨vi,hi,v,g1,hG,H⟩
  ·obtain⟨vj,P9,v',g2,hG2,H2⟩:=H.2 j (ready_mono hj ny)
   have b1:((j5 ops).getD j 0).testBit i=false:=by
    cases hb:((j5 ops).getD j 0).testBit i with
    |false=>rfl
    |true=>have:=mF vh hj i hb;rw[jZ hr]at this;cases this
   have b2:((j5 ops).getD i 0).testBit j=false:=by
    cases hb:((j5 ops).getD i 0).testBit j with
    |false=>rfl
    |true=>have:=mF vh hr j hb;rw[jZ hj]at this;cases this
   have F:=EG C4 hi P9 (fun e=>ny e.symm) b1 b2
   obtain⟨OV,q1,q2,q3⟩:=It F hG hG2
   refine⟨vj,P9,v',OV,q1,ih _ _ _ g2 (vh.list hj) (ready_mono hr (fun e=>ny e.symm)) q2 ?_⟩
   rw[<-q3,Array.setIfInBounds_comm _ _ ny]
   exact H2
theorem Sv {n:Nat} {vo:bD} {env:Env} {g:Rows} {v:AV} {mr:Option Row} (h:eB vo.op (dj env) (fA vo.hid n g) ⟨vo.site,n⟩=some (v,mr)):VS X n vo env g v (kd g ⟨vo.site,n⟩ mr):=by
 unfold VS
 split
 ·rename_i eH;rw[eH]at h;simp[eB]at h
 ·rename_i eH;rw[eH]at h;simp[eB]at h
 ·rename_i eH;rw[eH]at h;simp[eB]at h
 ·rename_i eH;rw[eH]at h;simp[eB]at h
 ·rename_i eH;rw[eH]at h;simp[eB]at h
 ·rename_i eH;rw[eH]at h;simp[eB]at h
 ·rename_i eH;rw[eH]at h;simp[eB]at h
 ·exact⟨mr,h,rfl⟩
theorem Ma {n:Nat} {vo:bD} {env:Env} {g g':Rows} {v:AV} (h:fC vo.op (dj env) g ⟨vo.site,n⟩=some (v,g')):VS X n vo env g v g':=by
 unfold VS
 split
 ·rename_i eH;rw[eH]at h;simp[fC]at h
 ·rename_i eH;rw[eH]at h;simp[fC]at h
 ·exact h
 ·exact h
 ·exact h
 ·exact h
 ·exact h
 ·rename_i n1 n2 n3 n4 n5 n6 n7
  exfalso
  unfold fC at h
  split at h
  ·rename_i hh;exact n3 _ _ _ hh
  ·rename_i hh;exact n4 _ _ _ hh
  ·rename_i hh;exact n5 _ _ _ hh
  ·rename_i hh;exact n6 _ _ hh
  ·rename_i hh;exact n7 _ _ hh
  ·simp at h
theorem UJ {vo:bD} {env:Env} {σ:ax} {next:AV->ax->Prop} (hv:fq X true vo env σ next):∃v g',VS X σ.next vo env σ.get v g'/\next v ⟨g',σ.next⟩:=by
 unfold fq at hv
 split at hv
 ·rename_i f args eH
  rcases hv with⟨r,hP,hn⟩|⟨h,_⟩|⟨hs,sz,rows,hM,hn⟩
  ·exact⟨r,σ.get,by unfold VS;rw[eH];exact .inl ⟨hP,rfl⟩,hn⟩
  ·cases h
  ·exact⟨_,_,by unfold VS;rw[eH];exact .inr ⟨hs,sz,rows,hM,rfl,rfl⟩,hn⟩
 ·rename_i x args eH
  split at hv
  ·rename_i f dG hx
   have vp:yy (dj env x) (args.map (dj env))=some (f,args.map (dj env)++dG):=by rw[hx];rfl
   rcases hv with⟨r,hP,hn⟩|⟨h,_⟩|⟨hs,sz,rows,hM,hn⟩
   ·exact⟨r,σ.get,by unfold VS;rw[eH];exact⟨f,_,vp,.inl ⟨hP,rfl⟩⟩,hn⟩
   ·cases h
   ·exact⟨_,_,by unfold VS;rw[eH];exact⟨f,_,vp,.inr ⟨hs,sz,rows,hM,rfl,rfl⟩⟩,hn⟩
  ·rename_i f dG hx
   have vp:yy (dj env x) (args.map (dj env))=some (f,dG++args.map (dj env)):=by rw[hx];rfl
   rcases hv with⟨r,hP,hn⟩|⟨h,_⟩|⟨hs,sz,rows,hM,hn⟩
   ·exact⟨r,σ.get,by unfold VS;rw[eH];exact⟨f,_,vp,.inl ⟨hP,rfl⟩⟩,hn⟩
   ·cases h
   ·exact⟨_,_,by unfold VS;rw[eH];exact⟨f,_,vp,.inr ⟨hs,sz,rows,hM,rfl,rfl⟩⟩,hn⟩
  ·exact hv.elim
 ·split at hv
  ·rename_i v g h;exact⟨v,g,Ma h,hv⟩
  ·exact hv.elim
 ·split at hv
  ·rename_i v g h;exact⟨v,g,Ma h,hv⟩
  ·exact hv.elim
 ·split at hv
  ·rename_i v g h;exact⟨v,g,Ma h,hv⟩
  ·exact hv.elim
 ·split at hv
  ·rename_i v g h;exact⟨v,g,Ma h,hv⟩
  ·exact hv.elim
 ·split at hv
  ·rename_i v g h;exact⟨v,g,Ma h,hv⟩
  ·exact hv.elim
 ·split at hv
  ·rename_i v r h;exact⟨v,_,Sv h,hv⟩
  ·rename_i v h;exact⟨v,_,Sv h,hv⟩
  ·exact hv.elim
theorem Ao {ops:Array Oper} {vl:List bD} {K:Env->ax->Prop} {n:Nat} (C4:qj ops vl (j5 ops)=true) (hlen:vl.length=ops.size):∀(r:List bD) (k:Nat) (listed:Array Bool) (env:Env) (g:Rows),
  (∀j,r[j]? =vl[k+j]?)->listed.size=ops.size->(∀i,i<ops.size->listed[i]? =some (decide (i<k)))->k+r.length=ops.size->DC ops listed->wpOps X true r K env ⟨g,n⟩->Ow X n ops vl (fun env g=>K env ⟨g,n+1⟩) r.length listed env g
 |[],k,listed,env,g,_,ew,hl,hk,_,hv=>by
  refine⟨?_,hv⟩
  rw[List.eq_nil_iff_forall_not_mem]
  intro j hj
  obtain⟨h0,o,ho,_⟩:=mem_ready.1 hj
  have eG:j<ops.size:=(Array.getElem?_eq_some_iff.1 ho).1
  have:=hl j eG
  simp at hk
  simp[this,show j<k by omega]at h0
 |vo::r,k,listed,env,g,hr,ew,hl,hk,vh,hv=>by
  simp only[List.length_cons]at hk
  have ni:vl[k]? =some vo:=by simpa using(hr 0).symm
  have oy:k<ops.size:=ae
  have M9:k∈Region.ready .any ops listed:=by
   rw[mem_ready]
   refine⟨by simp[hl k oy],ops[k],Array.getElem?_eq_getElem oy,fun e he hb=>?_⟩
   unfold qj IH at C4
   simp only[Bool.and_eq_true,List.all_eq_true]at C4
   have hm:(ops[k],k)∈ops.toList.zipIdx:=by
    rw[List.mem_iff_getElem?]
    exact⟨k,by simp[List.getElem?_zipIdx,oy]⟩
   have:=C4.1 _ hm
   rw[Array.all_eq_true_iff_forall_mem]at this
   have:=this e he
   simp only[hb,Bool.not_true,Bool.false_or,decide_eq_true_eq]at this
   simp[hl e.on ae,this]
  have hGS:∃v g',GS X n vo env g v g'/\wpOps X true r K (upd env vo.dst v) ⟨g',n⟩:=by
   unfold wpOps at hv
   unfold GS
   split at hv
   ·rename_i hw
    simp only[hw,if_true]
    exact UJ hv
   ·rename_i hw
    simp only[hw]
    exact⟨.undef,g,⟨rfl,rfl⟩,hv⟩
  obtain⟨v,g',h1,h2⟩:=hGS
  refine Ii C4 hlen ni r.length listed env g g' vh M9 h1 ?_
  refine Ao C4 hlen r (k+1) _ _ _ (fun j=>by have:=hr (j+1);simpa[Nat.add_assoc,Nat.add_comm 1 j]using this) (by simp[ew]) (fun i hi=>?_) ae (vh.list M9) h2
  by_cases Gw:i=k
  ·subst Gw;simp[ew,oy]
  ·rw[Array.getElem?_setIfInBounds_ne (fun e=>Gw e.symm),hl i hi]
   congr 1
   have:(i<k)=(i<k+1):=by apply propext;omega
   simp[this]
theorem p9 {f:Nat->Oper->Option bD}:∀{l:List Oper} {vl:List bD} {j:Nat},allM f l j=some vl->vl.length=l.length/\∀(i:Nat) (o:Oper),l[i]? =some o->∃vo,vl[i]? =some vo/\f (j+i) o=some vo
 |[],vl,j,h=>by simp[allM]at h;subst h;simp
 |o::l,vl,j,h=>by
  simp only[allM,Option.bind_eq_bind,Option.bind_eq_some_iff,Option.pure_def,Option.some.injEq]at h
  obtain⟨vo,ni,wO,vn,rfl⟩:=h
  obtain⟨h1,h2⟩:=p9 vn
  refine⟨by simp[h1],fun i o' hi=>?_⟩
  cases i with
  |zero=>simp at hi;subst hi;exact⟨vo,rfl,ni⟩
  |succ i=>
   simp at hi
   obtain⟨q,hq,hf⟩:=h2 i o' hi
   exact⟨q,by simpa using hq,by rw[<-hf];congr 1;omega⟩
theorem Be {ops:Array Oper} {vl:List bD} {nt site0:Nat} {draw mk:Bool} {bs:Array Nat} {hidden:List (Nat×Bool)} {n:Nat} {K:Env->Rows->Prop} {Q:Exit->Act->World->Prop} (eJ:allM (mm P ops nt site0 draw mk bs hidden) ops.toList 0=some vl):
  ∀(fuel:Nat) (listed:Array Bool) (env:Env) (g:Rows) (a:Act) (w:World) (D:Nat->Prop) (ι:Names) (U:Nat->Prop),Ow (Sound P) n ops vl K fuel listed env g->ig P hs D ι g w->Used ι n U->(∀s,U s->∃i,s=site0+i/\listed.getD i false=true)->dc P w D ι env a->a.tmps.size=nt->
  (∀jz g' a' w' D' ι' U',K jz g'->Step hs D ι w D' ι' w'->ig P hs D' ι' g' w'->Used ι' n U'->dc P w' D' ι' jz a'->a'.tmps.size=nt->a'.defers=a.defers->Q .normal a' w')->wpAny P .any ops Q fuel listed a w:=by
 intro fuel
 induction fuel with
 |zero=>intro listed env g a w D ι U h S Us hU E ew hQ;exact⟨h.1,hQ env g a w D ι U h.2 (Step.refl _ _ _ _) S Us E ew rfl⟩
 |succ fuel ih=>
  intro listed env g a w D ι U h S Us hU E ew hQ
  refine⟨fun hr=>hQ env g a w D ι U (h.1 hr) (Step.refl _ _ _ _) S Us E ew rfl,fun i hi=>?_⟩
  obtain⟨vo,ni,v,g',hG,RN⟩:=h.2 i hi
  obtain⟨_,o,ho,_⟩:=mem_ready.1 hi
  obtain⟨vo',C9,WX⟩:=(p9 eJ).2 i o (by simpa using ho)
  rw[ni]at C9;injection C9 with C9;subst C9
  rw[Nat.zero_add]at WX
  obtain⟨hc,hd,Fg,AL,hg⟩:=qP WX
  have hw:=wP (ops:=ops) (vo:=vo) E hg
  have hUi:¬U vo.site:=fun hu=>by
   obtain⟨i',he,hl⟩:=hU _ hu
   have:i'=i:=ae
   subst this
   rw[jZ hi]at hl;cases hl
  have kG:i<listed.size:=by
   have h0:=(mem_ready.1 hi).1
   rcases Nat.lt_or_ge i listed.size with h|h
   ·exact h
   ·simp[Array.getElem?_eq_none h]at h0
  unfold wpOp
  simp only[ho]
  rw[<-hw]
  unfold GS at hG
  by_cases Kr:aL vo.guard env=true
  ·rw[if_pos Kr]
   rw[if_pos Kr]at hG
   refine .inl (Eh hc hG S Us hUi E fun a' w' ⟨u,D',ι',ha,T,S',hR,U'⟩=>?_)
   subst ha
   refine ih _ _ _ _ w' D' ι' _ RN S' U' (fun s Fe=>?_) (by rw[hd];exact jn (qk E T) hR AL ew) (by rw[fI];exact ew) fun jz g2 a2 w2 D2 ι2 U2 hk T2 S2 ZJ E2 rV Hs=>hQ jz g2 a2 w2 D2 ι2 U2 hk (T.trans T2) S2 ZJ E2 rV (Hs.trans (put_defers _ _ _))
   rcases Fe with h|h
   ·obtain⟨i',he,hl⟩:=hU _ h
    exact⟨i',he,getD_set_true hl⟩
   ·exact⟨i,by rw[h,Fg],by simp[kG]⟩
  ·rw[if_neg Kr]
   rw[if_neg Kr]at hG
   obtain⟨rfl,rfl⟩:=hG
   refine ih _ _ _ _ w D ι U RN S Us (fun s Fe=>?_) (by rw[hd];exact jn E du.undef AL ew) (by rw[fI];exact ew) fun jz g2 a2 w2 D2 ι2 U2 hk T2 S2 ZJ E2 rV Hs=>hQ jz g2 a2 w2 D2 ι2 U2 hk T2 S2 ZJ E2 rV (Hs.trans (put_defers _ _ _))
   obtain⟨i',he,hl⟩:=hU _ Fe
   exact⟨i',he,getD_set_true hl⟩
end
end Go.Proofs.YtainmfbpilopaaaGreatDoor.V

namespace Go.Proofs.YtainmfbpilopaaaGreatDoor.V
open Go.RowKit
variable {P:Program} {w w':World} {D D' D2:Nat->Prop} {ι ι' ι2:Names}
section
variable {hs:Nat} {X:gq}
def sb (X:gq):Prop:=∀f args σ K K',(∀r σ',K r σ'->K' r σ')->X f args σ K->X f args σ K'
theorem mi:sb (Sound P):=fun _ _ _ _ _ hK h hs D ι w vs S U A=>
 (h hs D ι w vs S U A).mono fun _ _ ⟨r,g',n',D',ι',u,he,hk,rest⟩=>⟨r,g',n',D',ι',u,he,hK _ _ hk,rest⟩
def step (X:gq) (vo:bD) (N:Env->ax->Prop) (env:Env) (σ:ax):Prop:=
 if aL vo.guard env then fq X false vo env σ fun v σ'=>N (upd env vo.dst v) σ' else N (upd env vo.dst .undef) σ
theorem sR (hK:sb X) {draw:Bool} {hid:List Nat} {site f:Nat} {args:List AV} {σ:ax} {n n':AV->ax->Prop} (hn:∀v σ',n v σ'->n' v σ') (hp:cD X draw hid site f args σ n):cD X draw hid site f args σ n':=by
 rcases hp with⟨r,h1,h2⟩|⟨h1,h2⟩|⟨h1,sz,rows,h2,h3⟩
 ·exact .inl ⟨r,h1,hn _ _ h2⟩
 ·exact .inr (.inl ⟨h1,hK _ _ _ _ _ hn h2⟩)
 ·exact .inr (.inr ⟨h1,sz,rows,h2,hn _ _ h3⟩)
theorem Gm (hK:sb X) {draw:Bool} {o:bD} {env:Env} {σ:ax} {n n':AV->ax->Prop} (hn:∀v σ',n v σ'->n' v σ') (hp:fq X draw o env σ n):fq X draw o env σ n':=by
 unfold fq at hp ⊢
 split at hp
 ·exact sR hK hn hp
 ·split at hp
  ·exact sR hK hn hp
  ·exact sR hK hn hp
  ·exact hp.elim
 ·split at hp
  ·exact hn _ _ hp
  ·exact hp.elim
 ·split at hp
  ·exact hn _ _ hp
  ·exact hp.elim
 ·split at hp
  ·exact hn _ _ hp
  ·exact hp.elim
 ·split at hp
  ·exact hn _ _ hp
  ·exact hp.elim
 ·split at hp
  ·exact hn _ _ hp
  ·exact hp.elim
 ·split at hp
  ·exact hn _ _ hp
  ·exact hn _ _ hp
  ·exact hp.elim
theorem lk (hK:sb X) {vo:bD} {N N':Env->ax->Prop} (h:∀e s,N e s->N' e s) {env:Env} {σ:ax} (hp:step X vo N env σ):step X vo N' env σ:=by
 unfold step at hp ⊢
 split at hp
 ·rename_i hw;rw[if_pos hw];exact Gm hK (fun v σ'=>h _ _) hp
 ·rename_i hw;rw[if_neg hw];exact h _ _ hp
theorem Lp {env jR:Env} {vo:bD} {σ:ax} {n:AV->ax->Prop} (h:∀t∈vo.op.iH,env t=jR t) (hv:fq X false vo env σ n):fq X false vo jR σ n:=by
 unfold fq at hv ⊢
 split at hv
 ·rename_i f args eH
  rw[eH]at h
  simp only[iA.iH]at h
  rw[<-map_congr h];exact hv
 ·rename_i x args eH
  rw[eH]at h
  simp only[iA.iH,List.mem_append]at h
  rw[<-map_congr (l:=args) fun t ht=>h t (.inr ht),<-cr (x:=x) fun t ht=>h t (.inl ht)];exact hv
 ·rw[<-iV h];exact hv
 ·rw[<-iV h];exact hv
 ·rw[<-iV h];exact hv
 ·rw[<-iV h];exact hv
 ·rw[<-iV h];exact hv
 ·rw[<-wE h];exact hv
theorem nn {x:bD} (hq:mE x=true) {N:Env->ax->Prop} {env:Env} {σ:ax}:step X x N env σ↔∃v g',GS X σ.next x env σ.get v g'/\N (upd env x.dst v) ⟨g',σ.next⟩:=by
 unfold mE at hq
 simp only[Bool.and_eq_true,Bool.not_eq_true',bne_iff_ne]at hq
 obtain⟨I4,Ax⟩:=hq
 unfold step GS
 by_cases hw:aL x.guard env=true
 ·rw[if_pos hw]
  simp only[hw,if_true]
  unfold fq
  split
  ·rename_i eH;simp[eH,iA.nz]at I4
  ·rename_i eH;simp[eH,iA.nz]at I4
  ·rename_i eH;simp[eH,iA.cls]at Ax
  ·rename_i eH;simp[eH,iA.cls]at Ax
  ·rename_i eH;simp[eH,iA.cls]at Ax
  ·rename_i eH;simp[eH,iA.cls]at Ax
  ·rename_i eH;simp[eH,iA.cls]at Ax
  ·rename_i n1 n2 n3 n4 n5 n6 n7
   have hVS:∀v g',VS X σ.next x env σ.get v g'↔∃mr,eB x.op (dj env) (fA x.hid σ.next σ.get) ⟨x.site,σ.next⟩=some (v,mr)/\g'=kd σ.get ⟨x.site,σ.next⟩ mr:=fun v g'=>by
    unfold VS
    split
    ·rename_i hh;exact(n1 _ _ hh).elim
    ·rename_i hh;exact(n2 _ _ hh).elim
    ·rename_i hh;exact(n3 _ _ _ hh).elim
    ·rename_i hh;exact(n4 _ _ _ hh).elim
    ·rename_i hh;exact(n5 _ _ _ hh).elim
    ·rename_i hh;exact(n6 _ _ hh).elim
    ·rename_i hh;exact(n7 _ _ hh).elim
    ·exact Iff.rfl
   simp only[hVS]
   cases hz:eB x.op (dj env) (fA x.hid σ.next σ.get) ⟨x.site,σ.next⟩with
   |none=>
    exact⟨fun h=>h.elim,fun⟨v,g',⟨mr,h,_⟩,_⟩=>by cases h⟩
   |some p=>
    obtain⟨v,mr⟩:=p
    have key:∀(v':AV) (g':Rows),(∃V8,some (v,mr)=some (v',V8)/\g'=kd σ.get ⟨x.site,σ.next⟩ V8)↔v'=v/\g'=kd σ.get ⟨x.site,σ.next⟩ mr:=fun v' g'=>by
     constructor
     ·rintro⟨V8,h1,h2⟩
      injection h1 with h1;injection h1 with h1 h3
      subst h1;subst h3
      exact⟨rfl,h2⟩
     ·rintro⟨rfl,rfl⟩;exact⟨mr,rfl,rfl⟩
    have fin:(∃v' g',(∃V8,some (v,mr)=some (v',V8)/\g'=kd σ.get ⟨x.site,σ.next⟩ V8)/\N (upd env x.dst v') ⟨g',σ.next⟩)↔N (upd env x.dst v) ⟨kd σ.get ⟨x.site,σ.next⟩ mr,σ.next⟩:=by
     constructor
     ·rintro⟨v',g',h,hN⟩
      obtain⟨rfl,rfl⟩:=(key v' g').1 h
      exact hN
     ·intro hN;exact⟨v,_,(key _ _).2 ⟨rfl,rfl⟩,hN⟩
    cases mr with
    |none=>exact fin.symm
    |some r=>exact fin.symm
 ·rw[if_neg hw]
  simp only[if_neg hw]
  exact⟨fun h=>⟨_,_,⟨rfl,rfl⟩,h⟩,fun⟨v,g',⟨hv,hg⟩,h⟩=>by rw[hv,hg]at h;exact h⟩
def xv (x:bD) (env:Env) (v:AV):Prop:=if aL x.guard env then eB x.op (dj env) (fun _=>none) ⟨0,0⟩=some (v,none)else v=.undef
theorem zN {x:bD} (hp:x.op.cls=.pure):mE x=true:=by
 unfold mE
 rw[hp]
 cases hc:x.op<;>simp[hc,iA.cls]at hp<;>rfl
theorem wJ {x:bD} (hp:x.op.cls=.pure) {N:Env->ax->Prop} {env:Env} {σ:ax}:step X x N env σ↔∃v,xv x env v/\N (upd env x.dst v) σ:=by
 rw[nn (zN hp)]
 unfold GS xv
 by_cases hw:aL x.guard env=true
 ·simp only[hw,if_true]
  constructor
  ·rintro⟨v,g',h,hN⟩
   obtain⟨rfl,eJ⟩:=Cp hp h
   refine⟨v,?_,hN⟩
   unfold VS at h
   split at h
   ·rename_i eH;rw[eH]at hp;simp[iA.cls]at hp
   ·rename_i eH;rw[eH]at hp;simp[iA.cls]at hp
   ·rename_i eH;rw[eH]at hp;simp[iA.cls]at hp
   ·rename_i eH;rw[eH]at hp;simp[iA.cls]at hp
   ·rename_i eH;rw[eH]at hp;simp[iA.cls]at hp
   ·rename_i eH;rw[eH]at hp;simp[iA.cls]at hp
   ·rename_i eH;rw[eH]at hp;simp[iA.cls]at hp
   ·obtain⟨mr,hq,_⟩:=h
    have hmr:mr=none:=by
     cases mr with
     |none=>rfl
     |some r=>have:=zS hq;simp[tn,hp]at this
    subst hmr
    rw[<-zU (g:=fA x.hid σ.next σ.get) (id:=⟨x.site,σ.next⟩) hp];exact hq
  ·rintro⟨v,h,hN⟩
   exact⟨v,σ.get,Sv (mr:=none) (by rw[zU (g2:=fun _=>none) (id2:=⟨0,0⟩) hp];exact h),hN⟩
 ·simp only[if_neg hw]
  exact⟨fun⟨v,g',⟨hv,hg⟩,h⟩=>⟨v,hv,by rw[hg]at h;exact h⟩,fun⟨v,hv,h⟩=>⟨v,σ.get,⟨hv,rfl⟩,h⟩⟩
theorem OD {x:bD} {env jR:Env} {v:AV} (h:∀t∈x.iH,env t=jR t) (hv:xv x env v):xv x jR v:=by
 unfold xv at hv ⊢
 rw[<-pa h,<-wE fun t ht=>h t (uQ ht)];exact hv
structure Rl (x y:bD):Prop where
 xy:∀k,x.dst=some k->k∉y.iH
 yx:∀k,y.dst=some k->k∉x.iH
 dst:∀k,x.dst=some k->y.dst≠some k
theorem uX {x y:bD} (h:wN x y=true):Rl x y:=by
 unfold wN at h
 simp only[Bool.and_eq_true]at h
 obtain⟨a1,a2⟩:=h
 refine⟨fun k hk=>?_,fun k hk=>?_,fun k hk=>?_⟩
 ·rw[hk]at a1;simp at a1;exact a1.1
 ·rw[hk]at a2;simpa using a2
 ·rw[hk]at a1;simp at a1;exact a1.2
theorem Bv {x y:bD} (h:Bu x y=true):(Rl x y/\x.op.cls=.pure)∨(GH x y/\mE x=true/\mE y=true):=by
 unfold Bu at h
 simp only[Bool.or_eq_true,Bool.and_eq_true,beq_iff_eq]at h
 rcases h with⟨h1,h2⟩|⟨⟨h1,h2⟩,h3⟩
 ·exact .inl ⟨uX h1,h2⟩
 ·exact .inr ⟨sY h1,h2,h3⟩
theorem EN {x y:bD} (h:Bu x y=true):mE x=true:=by
 rcases Bv h with h|h
 ·exact zN h.2
 ·exact h.2.1
theorem Lg (hK:sb X) {x y:bD} (hf:Bu x y=true) {N:Env->ax->Prop} {env:Env} {σ:ax} (h:step X x (fun e s=>step X y N e s) env σ):step X y (fun e s=>step X x N e s) env σ:=by
 rcases Bv hf with⟨F,hp⟩|⟨F,hx,hy⟩
 ·rw[wJ hp]at h
  obtain⟨v,hx,h⟩:=h
  have RT:=fun(v':AV)=>Am (env:=env) (v:=v) (u:=v') F.dst
  have qZ:=ot (env:=env) (v:=v) F.xy
  have back:∀(v':AV),xv x (upd env y.dst v') v:=fun v'=>OD (fun t ht=>(ot F.yx t ht).symm) hx
  unfold step at h ⊢
  rw[pa qZ]at h
  split at h
  ·rename_i hw
   rw[if_pos hw]
   refine Gm hK (fun v' σ' hN=>?_) (Lp (fun t ht=>qZ t (uQ ht)) h)
   rw[RT]at hN
   exact(wJ hp).2 ⟨v,back v',hN⟩
  ·rename_i hw
   rw[if_neg hw]
   rw[RT]at h
   exact(wJ hp).2 ⟨v,back _,h⟩
 ·rw[nn hx]at h
  obtain⟨v,g1,h1,h⟩:=h
  rw[nn hy]at h
  obtain⟨v',g2,h2,h⟩:=h
  obtain⟨OV,q1,q2,q3⟩:=It F h1 h2
  rw[q3]at h
  exact(nn hy).2 ⟨v',OV,q1,(nn hx).2 ⟨v,g2,q2,h⟩⟩
def DK (X:gq) (ops:Array Oper) (vl:List bD) (K:Env->ax->Prop):Nat->Array Bool->Env->ax->Prop
 |0,listed,env,σ=>Region.ready .any ops listed=[]/\K env ⟨σ.get,σ.next+1⟩
 |f+1,listed,env,σ=>(Region.ready .any ops listed=[]->K env ⟨σ.get,σ.next+1⟩)/\∀i∈Region.ready .any ops listed,∃vo,vl[i]? =some vo/\step X vo (fun e s=>DK X ops vl K f (listed.setIfInBounds i true) e s) env σ
theorem Hc {ops:Array Oper} {vl:List bD} {bs:Array Nat} {listed:Array Bool} {i:Nat} (h:sV ops vl bs listed i=true) (j:Nat):sV ops vl bs (listed.setIfInBounds j true) i=true:=by
 unfold sV at h ⊢
 split at h
 ·rename_i x hx
  simp only[List.all_eq_true,Bool.or_eq_true]at h ⊢
  intro k hk
  rcases h k hk with((h|h)|h)|h
  ·exact .inl (.inl (.inl (getD_set_true h)))
  ·exact .inl (.inl (.inr h))
  ·exact .inl (.inr h)
  ·exact .inr h
 ·cases h
theorem wT {ops:Array Oper} {vl:List bD} {listed:Array Bool} {i j:Nat} {vi:bD} (vh:DC ops listed) (h:sV ops vl (j5 ops) listed i=true) (hi:vl[i]? =some vi) (hr:i∈Region.ready .any ops listed) (hj:j∈Region.ready .any ops listed) (ny:j≠i):∃vj,vl[j]? =some vj/\Bu vi vj=true:=by
 unfold sV at h
 rw[hi]at h
 simp only[List.all_eq_true,Bool.or_eq_true,beq_iff_eq]at h
 obtain⟨_,o,ho,_⟩:=mem_ready.1 hj
 rcases h j (List.mem_range.2 (Array.getElem?_eq_some_iff.1 ho).1)with((h|h)|h)|h
 ·rw[jZ hj]at h;cases h
 ·exact absurd h ny
 ·have:=mF vh hj i h
  rw[jZ hr]at this;cases this
 ·split at h
  ·rename_i y hy;exact⟨y,hy,h⟩
  ·cases h
theorem Ik (hK:sb X) {ops:Array Oper} {vl:List bD} {K:Env->ax->Prop} {i:Nat} {vi:bD} (hi:vl[i]? =some vi):∀(fuel:Nat) (listed:Array Bool) (env:Env) (σ:ax),
  DC ops listed->i∈Region.ready .any ops listed->sV ops vl (j5 ops) listed i=true->step X vi (fun e s=>DK X ops vl K fuel (listed.setIfInBounds i true) e s) env σ->DK X ops vl K (fuel+1) listed env σ:=by
 intro fuel
 induction fuel with
 |zero=>
  intro listed env σ vh hr iO H
  refine⟨fun h=>(by rw[h]at hr;cases hr),fun j hj=>?_⟩
  by_cases ny:j=i
  ·subst ny;exact⟨vi,hi,H⟩
  ·obtain⟨vj,P9,W6⟩:=wT vh iO hi hr hj ny
   rw[nn (EN W6)]at H
   obtain⟨v,g',_,H⟩:=H
   have:=ready_mono hj ny
   rw[H.1]at this;cases this
 |succ fuel ih=>
  intro listed env σ vh hr iO H
  refine⟨fun h=>(by rw[h]at hr;cases hr),fun j hj=>?_⟩
  by_cases ny:j=i
  ·subst ny;exact⟨vi,hi,H⟩
  ·obtain⟨vj,P9,W6⟩:=wT vh iO hi hr hj ny
   refine⟨vj,P9,?_⟩
   have H2:step X vi (fun e s=>step X vj (fun e s=>DK X ops vl K fuel ((listed.setIfInBounds i true).setIfInBounds j true) e s) e s) env σ:=lk hK (fun e s h=>by
    obtain⟨vj',C8,h'⟩:=h.2 j (ready_mono hj ny)
    rw[P9]at C8;injection C8 with C8;subst C8
    exact h') H
   refine lk hK (fun e s h=>?_) (Lg hK W6 H2)
   refine ih _ _ _ (vh.list hj) (ready_mono hr (fun e=>ny e.symm)) (Hc iO j) ?_
   rw[Array.setIfInBounds_comm _ _ ny]
   exact h
theorem wI {x:bD} (hg:x.guard=none) {N:Env->ax->Prop} {env:Env} {σ:ax}:step X x N env σ=fq X false x env σ (fun v σ'=>N (upd env x.dst v) σ'):=by
 unfold step
 rw[hg]
 simp[aL]
theorem Ia {x y:bD} {t s sz:Nat} {ys:O} (hx:x.op=.append sz (.t t) ys) (hg:x.guard=none) (hf:IQ s x y=true) {N:Env->ax->Prop} {env:Env} {σ:ax} (hl:Qu t s ys env σ.next) (h:step X x (fun e s=>step X y N e s) env σ):
  step X y (fun e σ'=>Qu t s ys e σ'.next/\step X x N e σ') env σ:=by
 unfold IQ at hf
 simp only[Bool.and_eq_true,bne_iff_ne]at hf
 obtain⟨⟨⟨⟨⟨f1,hq⟩,f3⟩,f4⟩,f5⟩,f6⟩:=hf
 have F:=uX f1
 obtain⟨⟨len,ht⟩,hsrc⟩:=hl
 have Nd:∀k∈x.op.iH,∀v',upd env y.dst v' k=env k:=fun k hk v'=>ot (env:=env) (v:=v') F.yx k (uQ hk)
 have ed:t∈x.op.iH:=by rw[hx];simp[iA.iH,iR]
 have GD:∀v',dj (upd env y.dst v') ys=dj env ys:=fun v'=>(cr fun k hk=>by rw[Nd k (by rw[hx];simp[iA.iH,hk])]).symm
 rw[wI hg]at h
 unfold fq at h
 simp only[hx,fC]at h
 have ex:dj env (.t t)=.own ⟨s,σ.next⟩ 0 len:=ht
 rw[ex]at h
 cases hr:br σ.get (dj env ys)with
 |none=>rw[hr]at h;exact h.elim
 |some rs=>
  rw[hr]at h
  simp only[Option.bind_some,aU]at h
  cases Kl:σ.get ⟨s,σ.next⟩with
  |none=>rw[Kl]at h;exact h.elim
  |some r=>
   rw[Kl]at h
   simp only[Option.bind_some]at h
   split at h
   ·rename_i v g1 hv
    split at hv
    ·rename_i hcond
     simp only[Option.some.injEq,Prod.mk.injEq]at hv
     obtain⟨rfl,rfl⟩:=hv
     rw[nn hq]at h
     obtain⟨v',g2,hG,hN⟩:=h
     have P3:(⟨y.site,σ.next⟩:Id)≠⟨s,σ.next⟩:=fun e=>f5 (by injection e)
     have M3:(⟨y.site,σ.next⟩:Id)≠⟨x.site,σ.next⟩:=fun e=>f6 (by injection e)
     replace hG:GS X σ.next y env (bI (bY σ.get ⟨s,σ.next⟩) ⟨x.site,σ.next⟩ ⟨true,sz,r.rows++rs⟩) v' g2:=yd (ot F.xy) hG
     have hvis:fA y.hid σ.next σ.get=fA y.hid σ.next (bI (bY σ.get ⟨s,σ.next⟩) ⟨x.site,σ.next⟩ ⟨true,sz,r.rows++rs⟩):=by
      cases hh:y.hid with
      |nil=>rw[hh]at f3;simp at f3
      |cons a l=>
       rw[hh]at f3 f4
       funext i
       show(if (a::l).contains i.site=true/\i.bq=σ.next then none else σ.get i)=if (a::l).contains i.site=true/\i.bq=σ.next then none else _
       by_cases h1:i=⟨x.site,σ.next⟩
       ·subst h1;rw[if_pos ⟨f4,rfl⟩,if_pos ⟨f4,rfl⟩]
       ·by_cases h2:i=⟨s,σ.next⟩
        ·subst h2;rw[if_pos ⟨f3,rfl⟩,if_pos ⟨f3,rfl⟩]
        ·simp only[bI,bY,if_neg h1,if_neg h2]
     obtain⟨my,Xd,hG'⟩:∃my,g2=kd (bI (bY σ.get ⟨s,σ.next⟩) ⟨x.site,σ.next⟩ ⟨true,sz,r.rows++rs⟩) ⟨y.site,σ.next⟩ my/\GS X σ.next y env σ.get v' (kd σ.get ⟨y.site,σ.next⟩ my):=by
      unfold GS at hG ⊢
      by_cases wy:aL y.guard env=true
      ·rw[if_pos wy]at hG
       have hcw:y.op.cls≠.write:=by
        unfold mE at hq
        simp only[Bool.and_eq_true,bne_iff_ne]at hq
        exact hq.2
       obtain⟨my,rfl,_,Sz⟩:=yl hcw hG
       exact⟨my,rfl,by rw[if_pos wy];exact Sz _ hvis⟩
      ·rw[if_neg wy]at hG
       obtain⟨rfl,rfl⟩:=hG
       exact⟨none,rfl,by rw[if_neg wy];exact⟨rfl,rfl⟩⟩
     subst Xd
     refine(nn hq).2 ⟨v',_,hG',⟨⟨len,by rw[Nd t ed];exact ht⟩,fun id o l he=>hsrc id o l (by rw[<-GD v'];exact he)⟩,?_⟩
     rw[wI hg]
     unfold fq
     have ex':dj (upd env y.dst v') (.t t)=.own ⟨s,σ.next⟩ 0 len:=by
      show upd env y.dst v' t= _
      rw[Nd t ed];exact ht
     simp only[hx,fC,ex',GD v']
     have pR:br (kd σ.get ⟨y.site,σ.next⟩ my) (dj env ys)=some rs:=by
      cases my with
      |none=>exact hr
      |some row=>
       revert hr
       cases hev:dj env ys<;>simp only[br,kd]<;>try exact fun h=>h
       rename_i id o l
       have:id≠⟨y.site,σ.next⟩:=fun e=>hsrc id o l hev (by rw[e])
       simp only[bI,if_neg this];exact fun h=>h
     have hgs':kd σ.get ⟨y.site,σ.next⟩ my ⟨s,σ.next⟩=some r:=by
      cases my with
      |none=>exact Kl
      |some row=>simp only[kd,bI,if_neg (fun e=>P3 e.symm:(⟨s,σ.next⟩:Id)≠⟨y.site,σ.next⟩)];exact Kl
     rw[pR]
     simp only[Option.bind_some,aU,hgs']
     rw[if_pos hcond]
     have Xf:bI (bY (kd σ.get ⟨y.site,σ.next⟩ my) ⟨s,σ.next⟩) ⟨x.site,σ.next⟩ ⟨true,sz,r.rows++rs⟩=kd (bI (bY σ.get ⟨s,σ.next⟩) ⟨x.site,σ.next⟩ ⟨true,sz,r.rows++rs⟩) ⟨y.site,σ.next⟩ my:=by
      cases my with
      |none=>rfl
      |some row=>
       funext i
       simp only[kd,bI,bY]
       by_cases h1:i=⟨y.site,σ.next⟩
       ·subst h1;rw[if_neg M3,if_neg P3,if_pos rfl,if_pos rfl]
       ·simp only[if_neg h1]
     have hu:=Am (env:=env) (v:=AV.own ⟨x.site,σ.next⟩ 0 (len+rs.length)) (u:=v') F.dst
     show N (upd (upd env y.dst v') x.dst (.own ⟨x.site,σ.next⟩ 0 (len+rs.length))) ⟨bI (bY (kd σ.get ⟨y.site,σ.next⟩ my) ⟨s,σ.next⟩) ⟨x.site,σ.next⟩ ⟨true,sz,r.rows++rs⟩,σ.next⟩
     rw[Xf,<-hu]
     exact hN
    ·cases hv
   ·exact h.elim
theorem Hb {ops:Array Oper} {vl:List bD} {bs:Array Nat} {listed:Array Bool} {i s:Nat} (h:ql ops vl bs listed i s=true) (j:Nat):ql ops vl bs (listed.setIfInBounds j true) i s=true:=by
 unfold ql at h ⊢
 split at h
 ·rename_i x hx
  simp only[List.all_eq_true,Bool.or_eq_true]at h ⊢
  intro k hk
  rcases h k hk with((h|h)|h)|h
  ·exact .inl (.inl (.inl (getD_set_true h)))
  ·exact .inl (.inl (.inr h))
  ·exact .inl (.inr h)
  ·exact .inr h
 ·cases h
theorem EK {ops:Array Oper} {vl:List bD} {listed:Array Bool} {i j s:Nat} {vi:bD} (vh:DC ops listed) (h:ql ops vl (j5 ops) listed i s=true) (hi:vl[i]? =some vi) (hr:i∈Region.ready .any ops listed) (hj:j∈Region.ready .any ops listed) (ny:j≠i):∃vj,vl[j]? =some vj/\IQ s vi vj=true:=by
 unfold ql at h
 rw[hi]at h
 simp only[List.all_eq_true,Bool.or_eq_true,beq_iff_eq]at h
 obtain⟨_,o,ho,_⟩:=mem_ready.1 hj
 rcases h j (List.mem_range.2 (Array.getElem?_eq_some_iff.1 ho).1)with((h|h)|h)|h
 ·rw[jZ hj]at h;cases h
 ·exact absurd h ny
 ·have:=mF vh hj i h
  rw[jZ hr]at this;cases this
 ·split at h
  ·rename_i y hy;exact⟨y,hy,h⟩
  ·cases h
theorem Gn (hK:sb X) {ops:Array Oper} {vl:List bD} {K:Env->ax->Prop} {i t s sz:Nat} {ys:O} {vi:bD} (hi:vl[i]? =some vi) (hx:vi.op=.append sz (.t t) ys) (hg:vi.guard=none):∀(fuel:Nat) (listed:Array Bool) (env:Env) (σ:ax),
  DC ops listed->i∈Region.ready .any ops listed->ql ops vl (j5 ops) listed i s=true->Qu t s ys env σ.next->step X vi (fun e s=>DK X ops vl K fuel (listed.setIfInBounds i true) e s) env σ->DK X ops vl K (fuel+1) listed env σ:=by
 intro fuel
 induction fuel with
 |zero=>
  intro listed env σ vh hr iO VW H
  refine⟨fun h=>(by rw[h]at hr;cases hr),fun j hj=>?_⟩
  by_cases ny:j=i
  ·subst ny;exact⟨vi,hi,H⟩
  ·exfalso
   have h0:=ready_mono hj ny
   rw[wI hg]at H
   unfold fq at H
   simp only[hx]at H
   split at H
   ·rw[H.1]at h0;cases h0
   ·exact H
 |succ fuel ih=>
  intro listed env σ vh hr iO VW H
  refine⟨fun h=>(by rw[h]at hr;cases hr),fun j hj=>?_⟩
  by_cases ny:j=i
  ·subst ny;exact⟨vi,hi,H⟩
  ·obtain⟨vj,P9,W6⟩:=EK vh iO hi hr hj ny
   refine⟨vj,P9,?_⟩
   have H2:step X vi (fun e s=>step X vj (fun e s=>DK X ops vl K fuel ((listed.setIfInBounds i true).setIfInBounds j true) e s) e s) env σ:=lk hK (fun e s h=>by
    obtain⟨vj',C8,h'⟩:=h.2 j (ready_mono hj ny)
    rw[P9]at C8;injection C8 with C8;subst C8
    exact h') H
   refine lk hK (fun e s h=>?_) (Ia hx hg W6 VW H2)
   refine ih _ _ _ (vh.list hj) (ready_mono hr (fun e=>ny e.symm)) (Hb iO j) h.1 ?_
   rw[Array.setIfInBounds_comm _ _ ny]
   exact h.2
theorem Ny {ops:Array Oper} {vl:List bD} {bs:Array Nat} {listed:Array Bool} {i i' t s:Nat} {y:O} {vo:bD} (h:Ue ops vl bs listed i=some (i',t,s,y,vo)):i'=i/\vl[i]? =some vo/\(∃sz,vo.op=.append sz (.t t) y)/\vo.guard=none/\ql ops vl bs listed i s=true:=by
 unfold Ue at h
 split at h
 ·rename_i x hx
  split at h
  ·rename_i t' s' y' lW
   split at h
   ·rename_i hf
    simp only[Option.some.injEq,Prod.mk.injEq]at h
    obtain⟨rfl,rfl,rfl,rfl,rfl⟩:=h
    unfold R0 at lW
    split at lW
    ·rename_i sz t2 y2 ho qW
     split at lW
     ·simp only[Option.some.injEq,Prod.mk.injEq]at lW
      obtain⟨rfl,rfl,rfl⟩:=lW
      exact⟨rfl,hx,⟨sz,ho⟩,qW,hf⟩
     ·cases lW
    ·cases lW
   ·cases h
  ·cases h
 ·cases h
theorem Bj {X:gq} {Q:Ex->Env->ax->Prop} {env:Env} {σ:ax}:∀{l:List VC} {t:VC},Et l=some t->ea X t Q env σ->∀c∈l,ea X c Q env σ
 |[],t,h,_,c,hc=>by cases hc
 |[c0],t,h,hw,c,hc=>by
  simp only[Et,Option.some.injEq]at h
  subst h
  rw[List.mem_singleton]at hc
  subst hc;exact hw
 |c0::c1::r,t,h,hw,c,hc=>by
  simp only[Et,Option.map_eq_some_iff]at h
  obtain⟨t',TQ,rfl⟩:=h
  rcases List.mem_cons.1 hc with rfl|hc
  ·exact hw.1
  ·exact Bj TQ hw.2 c hc
theorem mapM_mem {α β:Type} {f:α->Option β}:∀{l:List α} {r:List β},l.mapM f=some r->∀i∈l,∃b∈r,f i=some b
 |[],_,_,i,hi=>by cases hi
 |a::l,r,h,i,hi=>by
  simp only[List.mapM_cons,Option.bind_eq_bind,Option.bind_eq_some_iff,Option.pure_def,Option.some.injEq]at h
  obtain⟨b,hb,r',hr,rfl⟩:=h
  rcases List.mem_cons.1 hi with rfl|hi
  ·exact⟨b,by simp,hb⟩
  ·obtain⟨c,hc,hf⟩:=mapM_mem hr i hi
   exact⟨c,List.mem_cons_of_mem _ hc,hf⟩
theorem Lk (hK:sb X) {ops:Array Oper} {vl:List bD} {Q:Ex->Env->ax->Prop}:∀(n:Nat) (listed:Array Bool) (t:VC) (env:Env) (σ:ax),xn ops vl (j5 ops) n listed=some t->DC ops listed->ea X t Q env σ->DK X ops vl (Q .normal) n listed env σ:=by
 intro n
 induction n with
 |zero=>
  intro listed t env σ h _ hw
  unfold xn at h
  split at h
  ·rename_i hr
   simp only[Option.some.injEq]at h
   subst h
   exact⟨hr,hw⟩
  ·cases h
 |succ n ih=>
  intro listed t env σ h vh hw
  unfold xn at h
  split at h
  ·rename_i hr
   simp only[Option.some.injEq]at h
   subst h
   exact⟨fun _=>hw,fun i hi=>by rw[hr]at hi;cases hi⟩
  ·rename_i r rs hr
   dsimp only at h
   split at h
   ·rename_i i hfind
    have Ty:=List.mem_of_find?_eq_some hfind
    have xD:=List.find?_some hfind
    rw[<-hr]at Ty
    split at h
    ·rename_i vo ni
     simp only[Option.map_eq_some_iff]at h
     obtain⟨t',TQ,rfl⟩:=h
     exact Ik hK ni n listed env σ vh Ty xD (lk hK (fun e s h=>ih _ _ _ _ TQ (vh.list Ty) h) hw)
    ·cases h
   ·split at h
    ·rename_i i t s y vo hfind
     obtain⟨i0,hi0,eG⟩:=List.exists_of_findSome?_eq_some hfind
     obtain⟨rfl,ni,⟨sz,eH⟩,qW,Kj⟩:=Ny eG
     rw[<-hr]at hi0
     simp only[Option.map_eq_some_iff]at h
     obtain⟨t',TQ,rfl⟩:=h
     exact Gn hK ni eH qW n listed env σ vh hi0 Kj hw.1 (lk hK (fun e s h=>ih _ _ _ _ TQ (vh.list hi0) h) hw.2)
    split at h
    ·rename_i l hl
     have eJ:=Bj h hw
     refine⟨fun h=>(by rw[h]at hr;cases hr),fun i hi=>?_⟩
     rw[hr]at hi
     obtain⟨b,Tr,Hq⟩:=mapM_mem hl i hi
     simp only[Option.bind_eq_some_iff,Option.map_eq_some_iff]at Hq
     obtain⟨vo,ni,t',TQ,rfl⟩:=Hq
     exact⟨vo,ni,lk hK (fun e s h=>ih _ _ _ _ TQ (vh.list (by rw[hr];exact hi)) h) (eJ _ Tr)⟩
    ·cases h
theorem Ih {ops:Array Oper} {vl:List bD} {nt site0:Nat} {draw mk:Bool} {bs:Array Nat} {hidden:List (Nat×Bool)} {K:Env->ax->Prop} {Q:Exit->Act->World->Prop} (eJ:allM (mm P ops nt site0 draw mk bs hidden) ops.toList 0=some vl):
  ∀(fuel:Nat) (listed:Array Bool) (env:Env) (σ:ax) (a:Act) (w:World) (D:Nat->Prop) (ι:Names) (U:Nat->Prop),DK (Sound P) ops vl K fuel listed env σ->ig P hs D ι σ.get w->Used ι σ.next U->(∀s,U s->∃i,s=site0+i/\listed.getD i false=true)->dc P w D ι env a->a.tmps.size=nt->
  (∀jz σ' a' w' D' ι',K jz σ'->Step hs D ι w D' ι' w'->St P hs nt D' ι' jz σ' a' w'->a'.defers=a.defers->σ.next<=σ'.next->Q .normal a' w')->wpAny P .any ops Q fuel listed a w:=by
 intro fuel
 induction fuel with
 |zero=>intro listed env σ a w D ι U h S Us hU E ew hQ;exact⟨h.1,hQ env _ a w D ι h.2 (Step.refl _ _ _ _) ⟨S,Us.next,E,ew⟩ rfl (Nat.le_succ _)⟩
 |succ fuel ih=>
  intro listed env σ a w D ι U h S Us hU E ew hQ
  refine⟨fun hr=>hQ env _ a w D ι (h.1 hr) (Step.refl _ _ _ _) ⟨S,Us.next,E,ew⟩ rfl (Nat.le_succ _),fun i hi=>?_⟩
  obtain⟨vo,ni,hG⟩:=h.2 i hi
  obtain⟨_,o,ho,_⟩:=mem_ready.1 hi
  obtain⟨vo',C9,WX⟩:=(p9 eJ).2 i o (by simpa using ho)
  rw[ni]at C9;injection C9 with C9;subst C9
  rw[Nat.zero_add]at WX
  obtain⟨hc,hd,Fg,AL,hg⟩:=qP WX
  have hw:=wP (ops:=ops) (vo:=vo) E hg
  have hUi:¬U vo.site:=fun hu=>by
   obtain⟨i',he,hl⟩:=hU _ hu
   have:i'=i:=ae
   subst this
   rw[jZ hi]at hl;cases hl
  have kG:i<listed.size:=by
   have h0:=(mem_ready.1 hi).1
   rcases Nat.lt_or_ge i listed.size with h|h
   ·exact h
   ·simp[Array.getElem?_eq_none h]at h0
  unfold wpOp
  simp only[ho]
  rw[<-hw]
  unfold step at hG
  by_cases Kr:aL vo.guard env=true
  ·rw[if_pos Kr]
   rw[if_pos Kr]at hG
   refine .inl (Cg hc hG S Us hUi E fun v σ' u D' ι' w' hn T S' hR U' hle=>?_)
   refine ih _ _ _ _ w' D' ι' _ hn S' U' (fun s Fe=>?_) (by rw[hd];exact jn (qk E T) hR AL ew) (by rw[fI];exact ew) fun jz σ2 a2 w2 D2 ι2 hk T2 TN Hs td=>hQ jz σ2 a2 w2 D2 ι2 hk (T.trans T2) TN (Hs.trans (put_defers _ _ _)) (Nat.le_trans hle td)
   rcases Fe with h|h
   ·obtain⟨i',he,hl⟩:=hU _ h
    exact⟨i',he,getD_set_true hl⟩
   ·exact⟨i,by rw[h,Fg],by simp[kG]⟩
  ·rw[if_neg Kr]
   rw[if_neg Kr]at hG
   refine ih _ _ _ _ w D ι U hG S Us (fun s Fe=>?_) (by rw[hd];exact jn E du.undef AL ew) (by rw[fI];exact ew) fun jz σ2 a2 w2 D2 ι2 hk T2 TN Hs td=>hQ jz σ2 a2 w2 D2 ι2 hk T2 TN (Hs.trans (put_defers _ _ _)) td
   obtain⟨i',he,hl⟩:=hU _ Fe
   exact⟨i',he,getD_set_true hl⟩
end
end Go.Proofs.YtainmfbpilopaaaGreatDoor.V

namespace Go.Proofs.YtainmfbpilopaaaGreatDoor.V
open Go.RowKit
variable {P:Program} {w w':World} {D D' D2:Nat->Prop} {ι ι' ι2:Names}
def Bc (P:Program) (c:Code) (Q:Exit->Act->World->Prop) (a:Act) (w:World):Prop:=
 ∀(b:Frame) (k:List Item) (cs:List Frame),b.kind≠.early->∃e a' w',Q e a' w'/\Arrives P (lone (b.at a (.code c::k)) cs w) b k cs e a' w'
section
variable {Q:Exit->Act->World->Prop} {a:Act}
theorem lg {c:Code} (h:c.wp P Q a w):Bc P c Q a w:=fun b k cs _=>h b k cs
theorem nk {x y:Code} (h:Bc P x (Exit.then (Bc P y Q) Q) a w):Bc P (.seq x y) Q a w:=by
 intro b k cs hb
 obtain⟨e,a1,w1,hq,jA⟩:=h b (.code y::k) cs hb
 by_cases he:e=.normal
 ·subst he
  obtain⟨e2,a2,w2,Ax,MO⟩:=hq b k cs hb
  exact⟨e2,a2,w2,Ax,.of_steps (.head step_seq jA) MO⟩
 ·refine⟨e,a1,w1,?_,.of_steps (.one step_seq) (.pass (x:=.code y) rfl (fun _ _=>.inl he) jA)⟩
  cases e<;>first|exact absurd rfl he|exact hq
theorem zD {c:Operand} {x y:Code} {t:Bool} (hc:a.eval c=.bool t) (h:Bc P (if t then x else y) Q a w):Bc P (.cond c x y) Q a w:=
 fun b k cs hb=>let ⟨e,a',w',q,r⟩:=h b k cs hb;⟨e,a',w',q,.of_steps (.one (step_cond hc)) r⟩
theorem wz {id:Nat} {c:Code} (h:Bc P c (Exit.inBlock id Q) a w):Bc P (.block id c) Q a w:=by
 intro b k cs hb
 obtain⟨e,a1,w1,hq,jA⟩:=h b (.inBlock id::k) cs hb
 cases e with
 |normal=>exact⟨.normal,a1,w1,hq,.head step_block (Steps.trans jA (.one step_inBlock))⟩
 |exit lG=>
  by_cases hid:lG=id
  ·simp only[Exit.inBlock,hid,if_true]at hq
   exact⟨.normal,a1,w1,hq,.head step_block (jA k (by simp[exitTo,hid]))⟩
  ·simp only[Exit.inBlock,hid,if_false]at hq
   exact⟨.exit lG,a1,w1,hq,fun k' hk=>.head step_block (jA k' (by simp[exitTo,Ne.symm hid,hk]))⟩
 |goto l=>exact⟨_,a1,w1,hq,fun k' hk=>.head step_block (jA k' (by simp[gotoIn,hk]))⟩
 |ret=>exact⟨_,a1,w1,hq,.of_steps (.one step_block) jA⟩
 |panic ch=>exact⟨_,a1,w1,hq,.of_steps (.one step_block) jA⟩
 |outgrown=>exact⟨_,a1,w1,hq,.of_steps (b:=b) (k:=k) (cs:=cs) (e:=.outgrown) (.one step_block) jA⟩
theorem KV {c:Code} (h:Bc P c (Exit.noGoto Q) a w):Bc P (.scope c) Q a w:=by
 intro b k cs hb
 obtain⟨e,a1,w1,hq,jA⟩:=h b (.inScope c::k) cs hb
 cases e with
 |normal=>exact⟨.normal,a1,w1,hq,.head step_scope (Steps.trans jA (.one step_inScope))⟩
 |exit id=>exact⟨.exit id,a1,w1,hq,fun k' hk=>.head step_scope (jA k' (by simp[exitTo,hk]))⟩
 |goto l=>exact hq.elim
 |ret=>exact⟨_,a1,w1,hq,.of_steps (.one step_scope) jA⟩
 |panic ch=>exact⟨_,a1,w1,hq,.of_steps (.one step_scope) jA⟩
 |outgrown=>exact⟨_,a1,w1,hq,.of_steps (b:=b) (k:=k) (cs:=cs) (e:=.outgrown) (.one step_scope) jA⟩
def rh (P:Program) (c:Code) (Q:Exit->Act->World->Prop):Nat->Act->World->Prop
 |0=>fun _ _=>False
 |n+1=>Bc P c (Exit.then (rh P c Q n) Q)
theorem FU {c:Code} (n:Nat) (h:rh P c Q n a w):Bc P (.loop c) Q a w:=by
 intro b k cs hb
 have key:∀n a w,rh P c Q n a w->∃e a' w',Q e a' w'/\Arrives P (lone (b.at a (.code c::.inLoop c::k)) cs w) b k cs e a' w':=by
  intro n
  induction n with
  |zero=>intro a w h;exact h.elim
  |succ n ih=>
   intro a w h
   obtain⟨e,a1,w1,hq,jA⟩:=h b (.inLoop c::k) cs hb
   by_cases he:e=.normal
   ·subst he
    obtain⟨e2,a2,w2,Ax,MO⟩:=ih a1 w1 hq
    exact⟨e2,a2,w2,Ax,.of_steps (Steps.trans jA (.one step_inLoop)) MO⟩
   ·refine⟨e,a1,w1,?_,.pass (x:=.inLoop c) rfl (fun _ _=>.inl he) jA⟩
    cases e<;>first|exact absurd rfl he|exact hq
 obtain⟨e,a',w',hq,jA⟩:=key n a w h
 exact⟨e,a',w',hq,.of_steps (.one step_loop) jA⟩
theorem CD {f:FuncId} {fn:Func} {c:Code} {args:Array Value} {R:Ending->World->Prop} (hf:P.funcs[f]? =some fn) (hb:fn.body=some c)
  (h:Bc P c (bodyPost P fn R) {tmps:=args++Array.replicate (fn.ntmps-args.size) undef,defers:=[]} w):Calls P f args w R:=by
 intro cs
 have Tv:Frame.enter P f args .normal=({(default:Frame)with fn:=f,kind:=.normal}:Frame).at {tmps:=args++Array.replicate (fn.ntmps-args.size) undef,defers:=[]} [.code c]:=by simp[Frame.enter,Frame.at,hf,hb]
 obtain⟨e,a',w',hq,jA⟩:=h {(default:Frame)with fn:=f,kind:=.normal} [] cs (by simp)
 rw[<-Tv]at jA
 cases e with
 |normal=>obtain⟨hd,v,hr,hR⟩:=hq;exact⟨.returned v,w',_,hR,Steps.trans jA (.one step_end),rfl,rfl,hd,rfl,fn,hf,hr⟩
 |ret=>obtain⟨hd,v,hr,hR⟩:=hq;obtain⟨todo,hs⟩:=jA;exact⟨.returned v,w',_,hR,hs,rfl,rfl,hd,rfl,fn,hf,hr⟩
 |panic chain=>obtain⟨hd,hR⟩:=hq;obtain⟨todo,hs⟩:=jA;exact⟨.panicked chain,w',_,hR,hs,rfl,rfl,hd,fn,hf⟩
 |exit id=>exact hq.elim
 |goto l=>exact hq.elim
 |outgrown=>exact⟨.outgrown,w',{(default:Frame)with fn:=f,kind:=.normal},hq,jA.resolve_left (by simp),rfl,trivial⟩
def AB (P:Program) (ops:Array Oper) (Q:Exit->Act->World->Prop) (l:List Nat) (a:Act) (w:World):Prop:=
 ∀(b:Frame) (k:List Item) (cs:List Frame),b.kind≠.early->∃e a' w',Q e a' w'/\Arrives P (lone (b.at a (.inRegion ops l::k)) cs w) b k cs e a' w'
theorem HO {id:Nat} {ops:Array Oper} (h:AB P ops Q (List.range ops.size) a w):Bc P (.region id ops false) Q a w:=
 fun b k cs hb=>let ⟨e,a',w',q,r⟩:=h b k cs hb;⟨e,a',w',q,.of_steps (.one step_region) r⟩
theorem Ul {ops:Array Oper} (h:Q .normal a w):AB P ops Q [] a w:=fun _ _ _ _=>⟨.normal,a,w,h,.one step_region_end⟩
theorem qJ {o:Oper} {ys:Nat->Option Bool} (h:o.guard=none):Region.wanted o ys=true:=by simp[Region.wanted,h]
theorem NR {ops:Array Oper} {i:Nat} {rest:List Nat} {o:Oper} {v:Value} (ho:ops[i]? =some o) (hg:o.guard=none) (hr:(execOp a.eval o).run P w=.ok (.value v) w') (h:AB P ops Q rest (a.put o.dst v) w'):AB P ops Q (i::rest) a w:=by
 intro b k cs hb
 obtain⟨e,a',w2,hq,jA⟩:=h b k cs hb
 refine⟨e,a',w2,hq,.of_steps (.one ?_) jA⟩
 have C2:(b.at a (.inRegion ops (i::rest)::k)).finish v=b.at (a.put o.dst v) (.inRegion ops rest::k):=by rw[Frame.finish_at,ho];rfl
 rw[<-C2]
 refine step_lone_go ?_
 have h2:=stepG_op (P:=P) (b:=b) (k:=k) (cs:=cs) (w:=w) (rest:=rest) ho (qJ hg (ys:=yielded ops a.tmps))
 rw[h2];simp[stepG.apply,hr]
theorem QH {ops:Array Oper} {i:Nat} {rest:List Nat} {o:Oper} {v z:Value} {c cap s r:Nat} {buf:Array Value} (ho:ops[i]? =some o) (hg:o.guard=none) (hr:(execOp a.eval o).run P w=.ok (.comm #[Conc.scase c v z] true .send) w)
  (hc:w.heap[c]? =some (.chan cap buf false s r false)) (iT:buf.size<cap) (h:AB P ops Q rest (a.put o.dst undef) (w.setChan c cap (buf.push v) false (s+1) r false)):AB P ops Q (i::rest) a w:=by
 intro b k cs hb
 obtain⟨e,a',w2,hq,jA⟩:=h b k cs hb
 refine⟨e,a',w2,hq,.of_steps (.one ?_) jA⟩
 have C2:(b.at a (.inRegion ops (i::rest)::k)).finish undef=b.at (a.put o.dst undef) (.inRegion ops rest::k):=by rw[Frame.finish_at,ho];rfl
 rw[<-C2,Conc.lone_eq_solo,Conc.lone_eq_solo]
 exact Conc.step_lone_send_room (Conc.stepG_comm ho (qJ hg) hb hr) hc iT
theorem QG {ops:Array Oper} {i:Nat} {rest:List Nat} {o:Oper} {z:Value} {c cap s r:Nat} {buf:Array Value} (ho:ops[i]? =some o) (hg:o.guard=none) (hr:(execOp a.eval o).run P w=.ok (.comm #[Conc.rcase c z] true (.recv false)) w)
  (hc:w.heap[c]? =some (.chan cap buf false s r false)) (Fh:0<buf.size) (h:AB P ops Q rest (a.put o.dst (buf.getD 0 undef)) (w.setChan c cap (buf.extract 1 buf.size) false s (r+1) false)):AB P ops Q (i::rest) a w:=by
 intro b k cs hb
 obtain⟨e,a',w2,hq,jA⟩:=h b k cs hb
 refine⟨e,a',w2,hq,.of_steps (.one ?_) jA⟩
 have C2:(b.at a (.inRegion ops (i::rest)::k)).finish (buf.getD 0 undef)=b.at (a.put o.dst (buf.getD 0 undef)) (.inRegion ops rest::k):=by rw[Frame.finish_at,ho];rfl
 rw[<-C2,Conc.lone_eq_solo,Conc.lone_eq_solo]
 exact Conc.step_lone_recv_buf false (Conc.stepG_comm ho (qJ hg) hb hr) hc Fh
end
section
variable {hs:Nat} {g:Rows} {env:Env} {a:Act} {o:Oper}
theorem Qj {x y:O} (hc:tK P o.op=some (.snd x y)):∃x' y',o.op=.send x' y'/\cO P x'=some x/\cO P y'=some y:=by
 unfold tK at hc
 split at hc
 case h_26=>
  rename_i x' y' h
  simp only[Option.bind_eq_bind,Option.bind_eq_some_iff,Option.pure_def,Option.some.injEq,iA.snd.injEq]at hc
  obtain⟨p,h1,q,h2,rfl,rfl⟩:=hc
  exact⟨_,_,h,h1,h2⟩
 all_goals (try unfold ph at hc)<;>(try unfold yv at hc)<;>(try unfold vK at hc)<;>(repeat' (split at hc))<;>(simp only[Option.bind_eq_bind,Option.bind_eq_some_iff,Option.pure_def,Option.some.injEq,Option.map_eq_some_iff,reduceCtorEq,and_false,exists_false]at hc)
theorem Qi {x:O} (hc:tK P o.op=some (.Uo x)):∃t dir e i z x',o.op=.recv t x' false/\P.underlying t=some (.chan dir e)/\P.info? e=some i/\i.zero=some z/\cO P x'=some x:=by
 unfold tK at hc
 split at hc
 case h_27=>
  rename_i t x' h
  split at hc
  ·rename_i dir e ht
   split at hc
   ·rename_i z hz
    simp only[Option.bind_eq_some_iff]at hz
    obtain⟨i,hi,hz⟩:=hz
    simp only[Option.map_eq_some_iff,iA.Uo.injEq]at hc
    obtain⟨p,h1,rfl⟩:=hc
    exact⟨t,dir,e,i,z,x',h,ht,hi,hz,h1⟩
   ·cases hc
  ·cases hc
 all_goals (try unfold ph at hc)<;>(try unfold yv at hc)<;>(try unfold vK at hc)<;>(repeat' (split at hc))<;>(simp only[Option.bind_eq_bind,Option.bind_eq_some_iff,Option.pure_def,Option.some.injEq,Option.map_eq_some_iff,reduceCtorEq,and_false,exists_false]at hc)
theorem Wt {x y:O} {g':Rows} (S:ig P hs D ι g w) (hc:tK P o.op=some (.snd x y)) (E:dc P w D ι env a) (hv:dQ g (dj env x) (dj env y)=some g'):
  ∃c cap s r buf u,(execOp a.eval o).run P w=.ok (.comm #[Conc.scase c u (.tuple #[])] true .send) w/\w.heap[c]? =some (.chan cap buf false s r false)/\buf.size<cap/\ig P hs D ι g' (w.setChan c cap (buf.push u) false (s+1) r false)/\Step hs D ι w D ι (w.setChan c cap (buf.push u) false (s+1) r false):=by
 obtain⟨x',y',ho,hx,hy⟩:=Qj hc
 have rx:=ec E hx
 have ry:=ec E hy
 unfold dQ at hv
 split at hv
 ·rename_i i he
  simp only[Option.bind_eq_some_iff]at hv
  obtain⟨r,hg,hv⟩:=hv
  split at hv
  ·rename_i hcond
   simp only[Option.some.injEq]at hv
   subst hv
   obtain⟨B,c,hu,hB,hk,ew,buf,s,q,hb,O0,hR⟩:=CE S rx he hg
   obtain⟨B',eA,RR,_⟩:=S.row i r hg
   rw[hB]at eA;injection eA with eA;subst eA
   have pI:=S.Lm (ob:=.chan c (buf.push (a.eval y')) false (s+1) q false) (r':={r with rows:=r.rows++[[dj env y]]}) hg hcond.1 hB fun hr lS=>⟨RR.sz,fun cs ek=>?_,fun h0=>(by rw[hk]at h0;cases h0),fun m hm=>(by rw[hk]at hm;cases hm),fun c' lR=>?_⟩
   ·exact⟨B.b,c,s,q,buf,a.eval y',by simp[execOp,ho,hu,Conc.scase],hb,by rw[O0];omega,pI.1,pI.2⟩
   ·rcases List.mem_append.1 ek with h|h
    ·exact RR.flat cs h
    ·rw[List.mem_singleton.1 h]
     intro b pH
     rw[List.mem_singleton.1 pH];exact hcond.2.2
   ·rw[hk]at lR
    simp only[Option.some.injEq,BK.chan.injEq]at lR
    subst lR
    refine⟨ew,_,_,_,lS,by simp[O0],fun j cs hj=>?_⟩
    rw[List.getElem?_append]at hj
    split at hj
    ·rename_i eG
     obtain⟨b,u,q1,q2,q3⟩:=hR j cs hj
     refine⟨b,u,q1,?_,hr _ _ q3⟩
     rw[Array.getElem?_push,if_neg ae];exact q2
    ·rename_i l7
     have iX:j=r.rows.length:=by
      have:=(List.getElem?_eq_some_iff.1 hj).1
      simp at this;omega
     subst iX
     simp at hj
     subst hj
     exact⟨_,_,rfl,by rw[Array.getElem?_push,if_pos O0.symm],hr _ _ ry⟩
  ·cases hv
 ·cases hv
theorem Ws {x:O} {g':Rows} {v:AV} (S:ig P hs D ι g w) (hc:tK P o.op=some (.Uo x)) (E:dc P w D ι env a) (hv:dP g (dj env x)=some (v,g')):
  ∃c cap s r buf z,(execOp a.eval o).run P w=.ok (.comm #[Conc.rcase c z] true (.recv false)) w/\w.heap[c]? =some (.chan cap buf false s r false)/\0<buf.size/\ig P hs D ι g' (w.setChan c cap (buf.extract 1 buf.size) false s (r+1) false)/\Step hs D ι w D ι (w.setChan c cap (buf.extract 1 buf.size) false s (r+1) false)/\du P (w.setChan c cap (buf.extract 1 buf.size) false s (r+1) false) D ι v (buf.getD 0 undef):=by
 obtain⟨t,dir,e,i0,z,x',ho,ht,hi,hz,hx⟩:=Qi hc
 have rx:=ec E hx
 unfold dP at hv
 split at hv
 ·rename_i i he
  simp only[Option.bind_eq_some_iff]at hv
  obtain⟨r,hg,hv⟩:=hv
  split at hv
  ·rename_i v' rest kQ
   split at hv
   ·rename_i hcond
    simp only[Option.some.injEq,Prod.mk.injEq]at hv
    obtain⟨rfl,rfl⟩:=hv
    obtain⟨B,c,hu,hB,hk,ew,buf,s,q,hb,O0,hR⟩:=CE S rx he hg
    obtain⟨B',eA,RR,_⟩:=S.row i r hg
    rw[hB]at eA;injection eA with eA;subst eA
    obtain⟨b0,u0,q1,q2,q3⟩:=hR 0 [v'] (by rw[kQ];rfl)
    simp only[List.cons.injEq,and_true]at q1
    subst q1
    have kH:0<buf.size:=by rw[O0,kQ];simp
    have Zc:buf.getD 0 undef=u0:=by rw[Array.getD_eq_getD_getElem?,q2];rfl
    have pI:=S.Lm (ob:=.chan c (buf.extract 1 buf.size) false s (q+1) false) (r':={r with rows:=rest}) hg hcond hB fun hr lS=>⟨RR.sz,fun cs ek=>RR.flat cs (by rw[kQ];exact List.mem_cons_of_mem _ ek),fun h0=>(by rw[hk]at h0;cases h0),fun m hm=>(by rw[hk]at hm;cases hm),fun c' lR=>?_⟩
    ·refine⟨B.b,c,s,q,buf,z,?_,hb,kH,pI.1,pI.2,?_⟩
     ·have ze:(zeroValue e).run P w=.ok z w:=by simp[zeroValue,typeInfo,hi,hz]
      simp[execOp,ho,hu,Conc.rcase,run_underlying ht,ze]
     ·rw[Zc];exact pI.2.rep q3
    ·rw[hk]at lR
     simp only[Option.some.injEq,BK.chan.injEq]at lR
     subst lR
     refine⟨ew,_,_,_,lS,by simp[O0,kQ],fun j cs hj=>?_⟩
     obtain⟨b,u,k1,k2,k3⟩:=hR (j+1) cs (by rw[kQ];simpa using hj)
     refine⟨b,u,k1,?_,hr _ _ k3⟩
     have eG:=(Array.getElem?_eq_some_iff.1 k2).1
     rw[Array.getElem?_extract,if_pos ae,Nat.add_comm 1 j];exact k2
   ·cases hv
  ·cases hv
 ·cases hv
theorem JR {ops:Array Oper} {nt site0:Nat} {K:Env->ax->Prop} {Q:Exit->Act->World->Prop}:∀(l:List Oper) (vl:List bD) (j:Nat) (env:Env) (σ:ax) (a:Act) (w:World) (D:Nat->Prop) (ι:Names),
  ops.toList.drop j=l->allM (mm P ops nt site0 false false #[] []) l j=some vl->cq vl K env σ->ig P hs D ι σ.get w->Used ι σ.next (fun _=>False)->dc P w D ι env a->a.tmps.size=nt->
  (∀jz σ' a' w' D' ι',K jz σ'->Step hs D ι w D' ι' w'->St P hs nt D' ι' jz σ' a' w'->a'.defers=a.defers->σ.next<=σ'.next->Q .normal a' w')->AB P ops Q (List.range' j l.length) a w:=by
 intro l
 induction l with
 |nil=>
  intro vl j env σ a w D ι _ h hv S Us E ew hQ
  simp[allM]at h;subst h
  exact Ul (hQ env ⟨σ.get,σ.next+1⟩ a w D ι hv (Step.refl _ _ _ _) ⟨S,Us.next,E,ew⟩ rfl (Nat.le_succ _))
 |cons o l ih=>
  intro vl j env σ a w D ι hl h hv S Us E ew hQ
  simp only[allM,Option.bind_eq_bind,Option.bind_eq_some_iff,Option.pure_def,Option.some.injEq]at h
  obtain⟨vo,ni,wO,vn,rfl⟩:=h
  obtain⟨hc,hd,Fg,AL,hg⟩:=qP ni
  obtain⟨Xg,hv⟩:=hv
  have hog:o.guard=none:=by
   split at hg
   ·assumption
   ·obtain⟨t,_,h⟩:=hg
    rw[Xg]at h;cases h
  have hoj:ops[j]? =some o:=by
   have h0:=congrArg (fun x=>x[0]?) hl
   rw[<-Array.getElem?_toList]
   simpa[List.getElem?_drop]using h0
  have TD:ops.toList.drop (j+1)=l:=by rw[<-List.drop_drop,hl];rfl
  have go:∀(v:AV) (u:Value) (g2:Rows) (w2:World),cq wO K (upd env vo.dst v) ⟨g2,σ.next⟩->ig P hs D ι g2 w2->Step hs D ι w D ι w2->du P w2 D ι v u->AB P ops Q (List.range' (j+1) l.length) (a.put o.dst u) w2:=fun v u g2 w2 hn S2 T hR=>
   ih wO (j+1) (upd env vo.dst v) ⟨g2,σ.next⟩ (a.put o.dst u) w2 D ι TD vn hn S2 Us (by rw[hd];exact jn (qk E T) hR AL ew) (by rw[fI];exact ew) fun jz σ2 a' w3 D3 ι3 hk T2 Pm Hs td=>hQ jz σ2 a' w3 D3 ι3 hk (T.trans T2) Pm (Hs.trans (put_defers _ _ _)) td
  rw[show List.range' j (o::l).length=j::List.range' (j+1) l.length from rfl]
  split at hv
  ·rename_i x y eH
   split at hv
   ·rename_i g2 LL
    rw[eH]at hc
    obtain⟨c,cap,s,r,buf,u,gz,hb,iT,S2,T⟩:=Wt S hc E LL
    exact QH hoj hog gz hb iT (go _ _ _ _ hv S2 T du.undef)
   ·exact hv.elim
  ·rename_i x eH
   split at hv
   ·rename_i v g2 LL
    rw[eH]at hc
    obtain⟨c,cap,s,r,buf,z,gz,hb,Fh,S2,T,hR⟩:=Ws S hc E LL
    exact QG hoj hog gz hb Fh (go _ _ _ _ hv S2 T hR)
   ·exact hv.elim
  ·split at hv
   ·rename_i v hq
    obtain⟨u,gz,hR⟩:=B9 hc hq S E
    exact NR hoj hog gz (go _ _ _ _ hv S (Step.refl _ _ _ _) hR)
   ·exact hv.elim
end
end Go.Proofs.YtainmfbpilopaaaGreatDoor.V

namespace Go.Proofs.YtainmfbpilopaaaGreatDoor.V
open Go.RowKit
variable {P:Program} {w w':World} {D D' D2:Nat->Prop} {ι ι' ι2:Names}
section
variable {hs:Nat} {X:gq}
def YA:Ex->Exit
 | .normal=>.normal
 | .exit id=>.exit id
 | .ret=>.ret
theorem St.drew {nt:Nat} {env:Env} {σ:ax} {a:Act} {D:Nat->Prop} {ι:Names} (h:St P hs nt D ι env σ a w):St P hs nt D ι env σ a w.drew/\Step hs D ι w D ι w.drew:=by
 have T:Step hs D ι w D ι w.drew:=Step.stay h.wH (fun _ _=>rfl) (Nat.le_refl _) rfl rfl rfl (fun _ h=>h) (fun _ h=>.inl h) (fun _ _ h=>h)
 exact⟨⟨h.wH.stay (fun _ _=>rfl) (Nat.le_refl _) (fun _ h=>h) h.wH.dead (fun _ h=>.inl h) (fun _ _ h=>h),h.used,qk h.env T,h.size⟩,T⟩
def wQ (P:Program) (hs nt:Nat) (ds:List Deferred) (Q:Ex->Env->ax->Prop) (n0:Nat) (D:Nat->Prop) (ι:Names) (w:World) (Q':Exit->Act->World->Prop):Prop:=
 ∀ex env σ a w' D' ι',Q ex env σ->Step hs D ι w D' ι' w'->St P hs nt D' ι' env σ a w'->a.defers=ds->n0<=σ.next->Q' (YA ex) a w'
theorem wQ.later {nt:Nat} {ds:List Deferred} {Q:Ex->Env->ax->Prop} {n0 n1:Nat} {Q':Exit->Act->World->Prop} (h:wQ P hs nt ds Q n0 D ι w Q') (T:Step hs D ι w D' ι' w') (hn:n0<=n1):wQ P hs nt ds Q n1 D' ι' w' Q':=
 fun ex env σ a w2 D2 ι2 hq T2 ed hd hle=>h ex env σ a w2 D2 ι2 hq (T.trans T2) ed hd (Nat.le_trans hn hle)
theorem sS (hm:P.follows .mixedOrders=true) {md:List (Nat×Nat)} {nt fid:Nat}:∀(c:Code) (vc:VC),js P md nt fid c=some vc->∀(Q:Ex->Env->ax->Prop) (env:Env) (σ:ax) (a:Act) (w:World) (D:Nat->Prop) (ι:Names) (Q':Exit->Act->World->Prop),
  ea (Sound P) vc Q env σ->St P hs nt D ι env σ a w->wQ P hs nt a.defers Q σ.next D ι w Q'->Bc P c Q' a w:=by
 intro c
 induction c with
 |skip=>
  intro vc h Q env σ a w D ι Q' hv ed hQ
  simp[js]at h;subst h
  exact lg <| wp_skip (hQ .normal env σ a w D ι hv (Step.refl _ _ _ _) ed rfl (Nat.le_refl _))
 |exit id=>
  intro vc h Q env σ a w D ι Q' hv ed hQ
  simp[js]at h;subst h
  exact lg <| wp_exit (hQ (.exit id) env σ a w D ι hv (Step.refl _ _ _ _) ed rfl (Nat.le_refl _))
 |ret=>
  intro vc h Q env σ a w D ι Q' hv ed hQ
  simp[js]at h;subst h
  exact lg <| wp_ret (hQ .ret env σ a w D ι hv (Step.refl _ _ _ _) ed rfl (Nat.le_refl _))
 |seq x y ihx ihy=>
  intro vc h Q env σ a w D ι Q' hv ed hQ
  simp only[js,Option.bind_eq_bind,Option.bind_eq_some_iff,Option.pure_def,Option.some.injEq]at h
  obtain⟨vx,hx,vy,hy,rfl⟩:=h
  refine nk (ihx vx hx _ env σ a w D ι _ hv ed fun ex jG σ1 a1 w1 D1 ι1 hq T kI hd hle=>?_)
  cases ex with
  |normal=>exact ihy vy hy Q jG σ1 a1 w1 D1 ι1 Q' hq kI (by rw[hd];exact hQ.later T hle)
  |exit id=>exact hQ (.exit id) jG σ1 a1 w1 D1 ι1 hq T kI hd hle
  |ret=>exact hQ .ret jG σ1 a1 w1 D1 ι1 hq T kI hd hle
 |cond c x y ihx ihy=>
  intro vc h Q env σ a w D ι Q' hv ed hQ
  simp only[js,Option.bind_eq_bind,Option.bind_eq_some_iff,Option.pure_def,Option.some.injEq]at h
  obtain⟨c',hc,vx,hx,vy,hy,rfl⟩:=h
  unfold ea at hv
  have hr:=ec ed.env hc
  split at hv
  ·rename_i b hb
   rw[hb]at hr
   refine zD (fR hr) ?_
   cases b with
   |true=>exact ihx vx hx Q env σ a w D ι Q' hv ed hQ
   |false=>exact ihy vy hy Q env σ a w D ι Q' hv ed hQ
  ·exact hv.elim
 |block id c ih=>
  intro vc h Q env σ a w D ι Q' hv ed hQ
  simp only[js,Option.map_eq_some_iff]at h
  obtain⟨vx,hx,rfl⟩:=h
  refine wz (ih vx hx _ env σ a w D ι _ hv ed fun ex jG σ1 a1 w1 D1 ι1 hq T kI hd hle=>?_)
  cases ex with
  |normal=>exact hQ .normal jG σ1 a1 w1 D1 ι1 hq T kI hd hle
  |ret=>exact hQ .ret jG σ1 a1 w1 D1 ι1 hq T kI hd hle
  |exit lG=>
   simp only[bd]at hq
   simp only[YA,Exit.inBlock]
   by_cases hid:lG=id
   ·rw[if_pos hid]at hq ⊢;exact hQ .normal jG σ1 a1 w1 D1 ι1 hq T kI hd hle
   ·rw[if_neg hid]at hq ⊢;exact hQ (.exit lG) jG σ1 a1 w1 D1 ι1 hq T kI hd hle
 |loop c ih=>
  intro vc h Q env σ a w D ι Q' hv ed hQ
  simp only[js,Option.map_eq_some_iff]at h
  obtain⟨vx,hx,rfl⟩:=h
  obtain⟨n,hv⟩:=hv
  refine FU n ?_
  have key:∀n env σ a w D ι,zq (ea (Sound P) vx) Q n env σ->St P hs nt D ι env σ a w->wQ P hs nt a.defers Q σ.next D ι w Q'->rh P c Q' n a w:=by
   intro n
   induction n with
   |zero=>intro env σ a w D ι h;exact h.elim
   |succ n ihn=>
    intro env σ a w D ι h ed hQ
    refine ih vx hx _ env σ a w D ι _ h ed fun ex jG σ1 a1 w1 D1 ι1 hq T kI hd hle=>?_
    cases ex with
    |normal=>exact ihn jG σ1 a1 w1 D1 ι1 hq kI (by rw[hd];exact hQ.later T hle)
    |exit id=>exact hQ (.exit id) jG σ1 a1 w1 D1 ι1 hq T kI hd hle
    |ret=>exact hQ .ret jG σ1 a1 w1 D1 ι1 hq T kI hd hle
  exact key n env σ a w D ι hv ed hQ
 |region id ops draw=>
  intro vc h Q env σ a w D ι Q' hv ed hQ
  simp only[js,Wr]at h
  split at h
  ·rename_i hmode
   have W5:draw=true:=by
    simp only[Bool.and_eq_true]at hmode;exact hmode.1
   subst W5
   split at h
   ·rename_i vl eJ
    obtain⟨ur,T0⟩:=ed.drew
    have Hn:=Lk (X:=Sound P) mi ops.size _ vc env σ h (fun k i h=>by
     exfalso
     rcases Nat.lt_or_ge k ops.size with hk|hk
     ·simp[hk]at h
     ·simp[Nat.not_lt.2 hk]at h) hv
    refine lg (wp_region_any hm ?_)
    exact Ih eJ ops.size _ env σ a w.drew D ι (fun _=>False) Hn ur.wH ur.used (fun _ h=>h.elim) ur.env ur.size fun jG σ1 a1 w1 D1 ι1 hk T kI hd hle=>hQ .normal jG σ1 a1 w1 D1 ι1 hk (T0.trans T) kI hd hle
   ·cases h
  split at h
  ·rename_i hcom
   have W5:draw=false:=by
    simp only[Bool.and_eq_true,Bool.not_eq_true']at hcom;exact hcom.1
   subst W5
   simp only[Option.map_eq_some_iff]at h
   obtain⟨vl,vn,rfl⟩:=h
   have eJ:allM (mm P ops nt ((fid*1000+id)*1000) false false #[] []) ops.toList 0=some vl:=by
    unfold tW at vn
    simp only[Bool.false_eq_true,if_false,Bool.not_false,Bool.true_or,if_true]at vn
    split at vn
    ·rename_i wO h;simp at vn;subst vn;exact h
    ·cases vn
   refine HO ?_
   have:=JR (Q:=Q') ops.toList vl 0 env σ a w D ι rfl eJ hv ed.wH ed.used ed.env ed.size fun jG σ1 a1 w1 D1 ι1 hk T kI hd hle=>hQ .normal jG σ1 a1 w1 D1 ι1 hk T kI hd hle
   rwa [<-List.range_eq_range',Array.length_toList]at this
  generalize (wj md id==1)=mk at h
  simp only[Option.map_eq_some_iff]at h
  obtain⟨vl,vn,rfl⟩:=h
  cases draw with
  |false=>
   have eJ:∃wO,allM (mm P ops nt ((fid*1000+id)*1000) false mk #[] []) ops.toList 0=some wO/\vl=wO:=by
    unfold tW at vn
    simp only[Bool.false_eq_true,if_false,Bool.not_false,Bool.true_or,if_true]at vn
    split at vn
    ·rename_i wO h;simp at vn;exact⟨wO,h,vn.symm⟩
    ·cases vn
   obtain⟨wO,eJ,rfl⟩:=eJ
   refine lg (wp_region_list ?_)
   exact BW ops.toList vl 0 env σ a w D ι (fun _=>False) eJ hv ed.wH ed.used (fun _ h=>h.elim) ed.env ed.size fun jG σ1 a1 w1 D1 ι1 hk T kI hd hle=>hQ .normal jG σ1 a1 w1 D1 ι1 hk T kI hd hle
  |true=>
   have eJ:∃hidden wO,allM (mm P ops nt ((fid*1000+id)*1000) true mk (j5 ops) hidden) ops.toList 0=some wO/\vl=wO/\qj ops wO (j5 ops)=true:=by
    unfold tW at vn
    simp only[if_true,Bool.not_true,Bool.false_or]at vn
    split at vn
    ·rename_i wO h
     split at vn
     ·rename_i C4;simp at vn;exact⟨_,wO,h,vn.symm,C4⟩
     ·cases vn
    ·cases vn
   obtain⟨hidden,wO,eJ,rfl,C4⟩:=eJ
   obtain⟨ur,T0⟩:=ed.drew
   obtain⟨hlen,_⟩:=p9 eJ
   have y7:vl.length=ops.size:=by rw[hlen];simp
   have Hn:=Ao (X:=Sound P) (K:=Q .normal) (n:=σ.next) C4 y7 vl 0 (Array.replicate ops.size false) env σ.get (by simp) (by simp) (fun i hi=>by simp[hi]) (by simp[y7]) (fun k i h=>by
    exfalso
    rcases Nat.lt_or_ge k ops.size with hk|hk
    ·simp[hk]at h
    ·simp[Nat.not_lt.2 hk]at h) hv
   refine lg (wp_region_any hm ?_)
   rw[y7]at Hn
   exact Be eJ ops.size _ env σ.get a w.drew D ι (fun _=>False) Hn ur.wH ur.used (fun _ h=>h.elim) ur.env ur.size fun jG g1 a1 w1 D1 ι1 U1 hk T S1 ZI E1 DY hd=>hQ .normal jG ⟨g1,σ.next+1⟩ a1 w1 D1 ι1 hk (T0.trans T) ⟨S1,ZI.next,E1,DY⟩ hd (Nat.le_succ _)
 |label l=>
  intro vc h Q env σ a w D ι Q' hv ed hQ
  simp[js]at h;subst h
  exact lg <| wp_label (hQ .normal env σ a w D ι hv (Step.refl _ _ _ _) ed rfl (Nat.le_refl _))
 |scope c ih=>
  intro vc h Q env σ a w D ι Q' hv ed hQ
  simp only[js]at h
  refine KV (ih vc h Q env σ a w D ι _ hv ed fun ex jG σ1 a1 w1 D1 ι1 hq T kI hd hle=>?_)
  have h1:=hQ ex jG σ1 a1 w1 D1 ι1 hq T kI hd hle
  cases ex with
  |normal=>exact h1
  |exit id=>exact h1
  |ret=>exact h1
 |_=>
  intro vc h
  simp[js]at h
def N3 (tmps:Array Value):ResultVar->Sem Value
 | .tmp t=>pure (tmps.getD t undef)
 | .cell a t=>do loadVar t (<-asAddr (tmps.getD a undef))
theorem HX (fn:Func) (tmps:Array Value):results fn tmps=(do
  let vs <-fn.results.mapM (N3 tmps)
  pure (if h:vs.size=1 then vs[0]else .tuple vs)):=by
 unfold results
 congr 2
theorem xk {nt:Nat} {env:Env} {σ:ax} {a:Act} {D:Nat->Prop} {ι:Names} (ed:St P hs nt D ι env σ a w):∀(rs:List ResultVar) (vr:List rL) (vs:List AV),rs.mapM (G4 P)=some vr->gU env σ.get vr=some vs->
  ∃us:List Value,(rs.mapM (N3 a.tmps)).run P w=.ok us w/\us.length=vs.length/\∀(j:Nat) (v:AV),vs[j]? =some v->∃u,us[j]? =some u/\du P w D ι v u
 |[],vr,vs,h,hv=>by
  simp at h;subst h
  simp[gU]at hv;subst hv
  exact⟨[],by simp,rfl,fun j v h=>by simp at h⟩
 |r::rs,vr,vs,h,hv=>by
  simp only[List.mapM_cons,Option.bind_eq_bind,Option.bind_eq_some_iff]at h
  obtain⟨x,hx,vr',hr,h⟩:=h
  simp at h;subst h
  simp only[gU,Option.bind_eq_some_iff,Option.map_eq_some_iff]at hv
  obtain⟨v,tg,Yf,Qa,rfl⟩:=hv
  obtain⟨us,h1,h2,h3⟩:=xk ed rs vr' Yf hr Qa
  have one:∃u,(N3 a.tmps r).run P w=.ok u w/\du P w D ι v u:=by
   cases r with
   |tmp t=>
    simp[G4]at hx;subst hx
    simp[jj]at tg;subst tg
    exact⟨_,rfl,ed.env t⟩
   |cell b t=>
    simp only[G4,Option.bind_eq_bind,Option.bind_eq_some_iff,Option.pure_def,Option.some.injEq]at hx
    obtain⟨ag,w8,n,hn,rfl⟩:=hx
    simp only[jj]at tg
    have jd:=ed.env b
    unfold ld at tg
    split at tg
    ·rename_i lG i' oo hb
     rw[hb]at jd
     obtain⟨B,he,hB,hk⟩:=jc jd
     simp only[Option.bind_eq_some_iff]at tg
     obtain⟨cs,ek,hp⟩:=tg
     obtain⟨B',r0,LH,eA,R,hi,fl,f,hf⟩:=N8 (S:=ed.wH) ek (fun B2 h2=>by rw[hB]at h2;injection h2 with h2;subst h2;exact hk)
     rw[hB]at eA;injection eA with eA;subst eA
     obtain⟨u,k1,k2⟩:=kq (w:=w) (b:=B.b) (oo:=i'*B.sz+oo) (f:=fun j=>f (oo+j)) w8 hn hp (fun a ha=>fl a (List.mem_of_mem_drop ha)) (fun j hj=>by
      rw[Nat.add_assoc];exact(hf _ (by simp at hj;omega)).1) (fun j a ha=>by
      simp at ha;exact(hf _ ((List.getElem?_eq_some_iff.1 ha).1)).2 _ ha)
     exact⟨u,by simp only[N3,he,asAddr,Sem.run_bind,Sem.run_pure,Result.andThen_ok,k1],k2⟩
    ·rename_i cs hb
     rw[hb]at jd
     obtain⟨b',oo,vs2,he,q1,q2,q3,q4⟩:=mH jd
     obtain⟨u,k1,k2⟩:=kq (w:=w) (b:=b') (oo:=oo) (f:=vs2) w8 hn tg q2 q3 (fun j a ha=>.eX _ _ (q4 j a ha))
     exact⟨u,by simp only[N3,he,asAddr,Sem.run_bind,Sem.run_pure,Result.andThen_ok,k1],k2⟩
    ·simp at tg
  obtain⟨u,hu,AQ⟩:=one
  refine⟨u::us,?_,by simp[h2],fun j v' hj=>?_⟩
  ·rw[List.mapM_cons]
   simp only[Sem.run_bind,hu,h1,Result.andThen_ok,Sem.run_pure]
  ·cases j with
   |zero=>simp at hj;subst hj;exact⟨u,rfl,AQ⟩
   |succ j=>simp at hj ⊢;exact h3 j v' hj
theorem yq {f:Nat} {fn:Func} {c:Code} {args:List AV} {σ:ax} {K:AV->ax->Prop} {vr:List rL} (RG:P.funcs[f]? =some fn) (hc:fn.body=some c) (hr:fn.results.toList.mapM (G4 P)=some vr) (ha:fn.params.size+fn.nfree=args.length) (hle:fn.params.size+fn.nfree<=fn.ntmps)
  (h:∀(hs:Nat) (w:World) (D:Nat->Prop) (ι:Names) (a:Act) (Q':Exit->Act->World->Prop),St P hs fn.ntmps D ι (cj args) σ a w->wQ P hs fn.ntmps a.defers (oe vr K) σ.next D ι w Q'->Bc P c Q' a w):Sound P f args σ K:=by
 intro hs D ι w vs S Us A
 have ew:vs.size=args.length:=A.1
 refine CD RG hc ?_
 refine h hs w D ι _ _ ⟨S,Us,fun t=>?_,by simp;omega⟩ fun ex jG σ1 a1 w1 D1 ι1 hq T kI hd hle=>?_
 ·simp only[cj]
  by_cases eG:t<args.length
  ·obtain⟨u,hu,AQ⟩:=A.2 t args[t] (List.getElem?_eq_getElem eG)
   have e1:args.getD t .undef=args[t]:=by simp[List.getD_eq_getElem?_getD,eG]
   have e2:(vs++Array.replicate (fn.ntmps-vs.size) undef).getD t undef=u:=by
    simp only[Array.getD_eq_getD_getElem?]
    rw[Array.getElem?_append_left ae,hu];rfl
   rw[e1,e2];exact AQ
  ·have e1:args.getD t .undef=.undef:=by simp[List.getD_eq_getElem?_getD,Nat.le_of_not_lt eG]
   have e2:(vs++Array.replicate (fn.ntmps-vs.size) undef).getD t undef=undef:=by
    simp only[Array.getD_eq_getD_getElem?]
    rw[Array.getElem?_append_right ae,Array.getElem?_replicate]
    split<;>rfl
   rw[e1,e2];exact du.undef
 ·have fin:(∃vs,gU jG σ1.get vr=some vs/\K (hZ vs) σ1)->a1.defers=[]/\∃v,(results fn a1.tmps).run P w1=.ok v w1/\∃r g' n' D' ι' u,Ending.returned v=.returned u/\K r ⟨g',n'⟩/\Step hs D ι w D' ι' w1/\ig P hs D' ι' g' w1/\Used ι' n' (fun _=>False)/\σ.next<=n'/\du P w1 D' ι' r u:=by
   rintro⟨avs,Qa,hK⟩
   obtain⟨us,h1,h2,h3⟩:=xk kI fn.results.toList vr avs hr Qa
   have TK:(results fn a1.tmps).run P w1=.ok (if h:us.toArray.size=1 then us.toArray[0]else .tuple us.toArray) w1:=by
    rw[HX,Array.mapM_eq_mapM_toList]
    simp only[Sem.run_bind,Sem.run_map,h1,Result.andThen_ok,Sem.run_pure]
   refine⟨hd,_,TK,hZ avs,σ1.get,σ1.next,D1,ι1,_,rfl,hK,T,kI.wH,kI.used,hle,?_⟩
   unfold hZ
   split
   ·rename_i v
    have hl:us.length=1:=h2
    obtain⟨u,hu,AQ⟩:=h3 0 v rfl
    rw[dif_pos (by simpa using hl)]
    have:us.toArray[0]'(by simp[hl])=u:=by
     have:=(List.getElem?_eq_some_iff.1 hu).2
     simpa using this
    rw[this];exact AQ
   ·rename_i iI
    rw[dif_neg (by
     simp only[List.size_toArray,h2]
     intro h
     obtain⟨v,hv⟩:=List.length_eq_one_iff.1 h
     exact iI v hv)]
    exact .fP _ _ (fun j=>us.getD j undef) (by simp[h2]) (fun j hj=>by
     have:j<us.length:=by rw[h2];exact hj
     simp[this]) (fun j v hj=>by
     obtain⟨u,hu,AQ⟩:=h3 j v hj
     simpa[List.getD_eq_getElem?_getD,hu]using AQ)
  cases ex with
  |normal=>exact fin hq
  |ret=>exact fin hq
  |exit id=>exact hq.elim
theorem MD (hm:P.follows .mixedOrders=true) {f:Nat} {md:List (Nat×Nat)} {vf:Iz} {args:List AV} {σ:ax} {K:AV->ax->Prop} (hf:xu P f md=some vf) (ha:vf.BS=args.length) (h:ea (Sound P) vf.body (oe vf.res K) (cj args) σ):Sound P f args σ K:=by
 unfold xu at hf
 split at hf
 ·rename_i fn RG
  split at hf
  ·rename_i c hc
   simp only[Option.bind_eq_bind,Option.bind_eq_some_iff]at hf
   obtain⟨vb,hb,vr,hr,hf⟩:=hf
   split at hf
   ·rename_i hle
    simp only[Option.pure_def,Option.some.injEq]at hf
    subst hf
    simp only at ha h
    exact yq RG hc hr ha hle fun hs w D ι a Q' ed hQ=>sS hm c vb hb (oe vr K) (cj args) σ a w D ι Q' h ed hQ
   ·simp at hf
  ·simp at hf
 ·simp at hf
def Sc (P:Program) (X:gq):gq:=fun f args σ K=>(∃md vf,xu P f md=some vf/\vf.BS=args.length/\((∀a∈args,ft a)->ea X vf.body (oe vf.res K) (cj args) σ))∨Sound P f args σ K
def Call (P:Program):gq:=fun f args σ K=>∀X:gq,sb X->(∀f args σ K,Sc P X f args σ K->X f args σ K)->X f args σ K
theorem iP (hm:P.follows .mixedOrders=true) {f:Nat} {args:List AV} {σ:ax} {K:AV->ax->Prop} (h:Call P f args σ K):Sound P f args σ K:=
 h (Sound P) mi fun f args σ K hs=>by
  rcases hs with⟨md,vf,h1,h2,h3⟩|h
  ·intro hs D ι w vs S U A
   exact MD hm h1 h2 (h3 (qz fun j a hj=>by obtain⟨u,_,hr⟩:=A.2 j a hj;exact hr.Nv)) hs D ι w vs S U A
  ·exact h
end
end Go.Proofs.YtainmfbpilopaaaGreatDoor.V

namespace Go.Proofs.YtainmfbpilopaaaGreatDoor.V
open Go.RowKit
variable {P:Program} {X Y:gq}
theorem L0 (h:∀f args σ K,X f args σ K->Y f args σ K) {f:Nat} {args:List AV} {σ:ax} {K:AV->Prop} (hp:fB X f args σ K):fB Y f args σ K:=by
 rcases hp with hp|⟨a,h1,h2⟩
 ·exact .inl (h _ _ _ _ hp)
 ·exact .inr ⟨a,h1,h _ _ _ _ h2⟩
theorem Pj (h:∀f args σ K,X f args σ K->Y f args σ K) {f:Nat} {args:List AV} {σ:ax} {sz:Nat} {rows:List (List AV)} (hp:CM X f args σ sz rows):CM Y f args σ sz rows:=by
 obtain⟨h1,a,h2,h3⟩:=hp
 exact⟨h1,a,h2,h _ _ _ _ h3⟩
theorem sQ (h:∀f args σ K,X f args σ K->Y f args σ K) (hK:∀f args σ K K',(∀r σ',K r σ'->K' r σ')->Y f args σ K->Y f args σ K') {draw:Bool} {hid:List Nat} {site:Nat} {f:Nat} {args:List AV} {σ:ax} {n n':AV->ax->Prop} (hn:∀v σ',n v σ'->n' v σ') (hp:cD X draw hid site f args σ n):cD Y draw hid site f args σ n':=by
 rcases hp with⟨r,h1,h2⟩|⟨h1,h2⟩|⟨h1,sz,rows,h2,h3⟩
 ·exact .inl ⟨r,L0 h h1,hn _ _ h2⟩
 ·exact .inr (.inl ⟨h1,hK _ _ _ _ _ hn (h _ _ _ _ h2)⟩)
 ·exact .inr (.inr ⟨h1,sz,rows,Pj h h2,hn _ _ h3⟩)
theorem uZ (h:∀f args σ K,X f args σ K->Y f args σ K) (hK:∀f args σ K K',(∀r σ',K r σ'->K' r σ')->Y f args σ K->Y f args σ K') {draw:Bool} {o:bD} {env:Env} {σ:ax} {n n':AV->ax->Prop} (hn:∀v σ',n v σ'->n' v σ') (hp:fq X draw o env σ n):fq Y draw o env σ n':=by
 unfold fq at hp ⊢
 split at hp
 ·exact sQ h hK hn hp
 ·split at hp
  ·exact sQ h hK hn hp
  ·exact sQ h hK hn hp
  ·exact hp.elim
 ·split at hp
  ·exact hn _ _ hp
  ·exact hp.elim
 ·split at hp
  ·exact hn _ _ hp
  ·exact hp.elim
 ·split at hp
  ·exact hn _ _ hp
  ·exact hp.elim
 ·split at hp
  ·exact hn _ _ hp
  ·exact hp.elim
 ·split at hp
  ·exact hn _ _ hp
  ·exact hp.elim
 ·split at hp
  ·exact hn _ _ hp
  ·exact hn _ _ hp
  ·exact hp.elim
theorem mQ (h:∀f args σ K,X f args σ K->Y f args σ K) (hK:∀f args σ K K',(∀r σ',K r σ'->K' r σ')->Y f args σ K->Y f args σ K') {draw:Bool} {Q Q':Env->ax->Prop} (hQ:∀e s,Q e s->Q' e s):∀(l:List bD) (env:Env) (σ:ax),wpOps X draw l Q env σ->wpOps Y draw l Q' env σ
 |[],env,σ,hp=>hQ _ _ hp
 |o::r,env,σ,hp=>by
  unfold wpOps at hp ⊢
  split at hp
  ·rename_i hw;rw[if_pos hw];exact uZ h hK (fun v σ'=>mQ h hK hQ r _ _) hp
  ·rename_i hw;rw[if_neg hw];exact mQ h hK hQ r _ _ hp
theorem pc {Q Q':Env->ax->Prop} (hQ:∀e s,Q e s->Q' e s):∀(l:List bD) (env:Env) (σ:ax),cq l Q env σ->cq l Q' env σ
 |[],env,σ,hp=>hQ _ _ hp
 |o::r,env,σ,hp=>by
  unfold cq at hp ⊢
  refine⟨hp.1,?_⟩
  replace hp:=hp.2
  split at hp
  ·split at hp
   ·exact pc hQ r _ _ hp
   ·exact hp.elim
  ·split at hp
   ·exact pc hQ r _ _ hp
   ·exact hp.elim
  ·split at hp
   ·exact pc hQ r _ _ hp
   ·exact hp.elim
theorem lK (h:∀f args σ K,X f args σ K->Y f args σ K) (hK:∀f args σ K K',(∀r σ',K r σ'->K' r σ')->Y f args σ K->Y f args σ K'):∀(c:VC) (Q Q':Ex->Env->ax->Prop) (env:Env) (σ:ax),(∀x e s,Q x e s->Q' x e s)->ea X c Q env σ->ea Y c Q' env σ:=by
 intro c
 induction c with
 |skip=>intro Q Q' env σ hQ hp;exact hQ _ _ _ hp
 |exit id=>intro Q Q' env σ hQ hp;exact hQ _ _ _ hp
 |ret=>intro Q Q' env σ hQ hp;exact hQ _ _ _ hp
 |one o c ih=>
  intro Q Q' env σ hQ hp
  unfold ea at hp ⊢
  split at hp
  ·rename_i hw;rw[if_pos hw];exact uZ h hK (fun v σ'=>ih Q Q' _ _ hQ) hp
  ·rename_i hw;rw[if_neg hw];exact ih Q Q' _ _ hQ hp
 |both a b iha ihb=>intro Q Q' env σ hQ hp;exact⟨iha Q Q' env σ hQ hp.1,ihb Q Q' env σ hQ hp.2⟩
 |loc t s y c ih=>intro Q Q' env σ hQ hp;exact⟨hp.1,ih Q Q' env σ hQ hp.2⟩
 |SN ops=>intro Q Q' env σ hQ hp;exact pc (hQ .normal) ops env σ hp
 |fV draw ops=>intro Q Q' env σ hQ hp;exact mQ h hK (hQ .normal) ops env σ hp
 |seq a b iha ihb=>
  intro Q Q' env σ hQ hp
  refine iha _ _ env σ (fun x e s hx=>?_) hp
  cases x with
  |normal=>exact ihb Q Q' e s hQ hx
  |exit id=>exact hQ _ _ _ hx
  |ret=>exact hQ _ _ _ hx
 |cond c a b iha ihb=>
  intro Q Q' env σ hQ hp
  unfold ea at hp ⊢
  split at hp
  ·rename_i t ht
   cases t with
   |true=>exact iha Q Q' env σ hQ hp
   |false=>exact ihb Q Q' env σ hQ hp
  ·exact hp.elim
 |block id a iha=>
  intro Q Q' env σ hQ hp
  refine iha _ _ env σ (fun x e s hx=>?_) hp
  cases x with
  |normal=>exact hQ _ _ _ hx
  |ret=>exact hQ _ _ _ hx
  |exit lG=>
   unfold bd at hx ⊢
   dsimp only at hx ⊢
   split at hx
   ·rename_i hid;rw[if_pos hid];exact hQ _ _ _ hx
   ·rename_i hid;rw[if_neg hid];exact hQ _ _ _ hx
 |loop a iha=>
  intro Q Q' env σ hQ hp
  obtain⟨n,hp⟩:=hp
  refine⟨n,?_⟩
  induction n generalizing env σ with
  |zero=>exact hp
  |succ n ihn=>
   refine iha _ _ env σ (fun x e s hx=>?_) hp
   cases x with
   |normal=>exact ihn e s hx
   |exit id=>exact hQ _ _ _ hx
   |ret=>exact hQ _ _ _ hx
theorem ay:sb (Call P):=fun _ _ _ _ _ hK h X hX hc=>hX _ _ _ _ _ hK (h X hX hc)
theorem A8 {f:Nat} {args:List AV} {σ:ax} {K:AV->ax->Prop} (h:Sc P (Call P) f args σ K):Call P f args σ K:=by
 intro X hX hc
 refine hc _ _ _ _ ?_
 rcases h with⟨md,vf,h1,h2,h3⟩|h
 ·exact .inl ⟨md,vf,h1,h2,fun hl=>lK (fun f args σ K h=>h X hX hc) hX _ _ _ _ _ (fun _ _ _ h=>h) (h3 hl)⟩
 ·exact .inr h
theorem ya {f:Nat} {md:List (Nat×Nat)} {args:List AV} {σ:ax} {K:AV->ax->Prop} {vf:Iz} (hf:xu P f md=some vf) (ha:vf.BS=args.length) (h:(∀a∈args,ft a)->ea (Call P) vf.body (oe vf.res K) (cj args) σ):Call P f args σ K:=
 A8 (.inl ⟨md,vf,hf,ha,h⟩)
theorem qM {f:Nat} {args:List AV} {σ:ax} {K:AV->ax->Prop} {vf:Iz} (hf:CC P f=some vf) (ha:vf.BS=args.length) (h:(∀a∈args,ft a)->ea (Call P) vf.body (oe vf.res K) (cj args) σ):Call P f args σ K:=
 ya hf ha h
theorem fG {f:Nat} {args:List AV} {σ:ax} {K:AV->ax->Prop} (h:Sound P f args σ K):Call P f args σ K:=A8 (.inr h)
def Ret (P:Program) (f:Nat) (args:List AV) (r:AV):Prop:=∀σ,PC (Call P) f args σ (fun r'=>r'=r)
variable {Q:Ex->Env->ax->Prop} {K:Env->ax->Prop} {env:Env} {σ:ax}
theorem Gq {a b:VC} (h:∀N:Env->ax->Prop,(∀e s,ea X b Q e s->N e s)->ea X a (de N Q) env σ):ea X (.seq a b) Q env σ:=h _ fun _ _ h=>h
theorem DO (h:Q .normal env σ):ea X .skip Q env σ:=h
theorem DL {id:Nat} (h:Q (.exit id) env σ):ea X (.exit id) Q env σ:=h
theorem JC (h:Q .ret env σ):ea X .ret Q env σ:=h
theorem x7 {id:Nat} {c:VC} (h:ea X c (bd id Q) env σ):ea X (.block id c) Q env σ:=h
theorem JA {o:bD} {c:VC} (h:∀N:AV->ax->Prop,(∀v s,ea X c Q (upd env o.dst v) s->N v s)->if aL o.guard env then fq X false o env σ N else N .undef σ):ea X (.one o c) Q env σ:=by
 have:=h (fun v s=>ea X c Q (upd env o.dst v) s) fun _ _ h=>h
 unfold ea
 split
 ·rename_i hw;rw[if_pos hw]at this;exact this
 ·rename_i hw;rw[if_neg hw]at this;exact this
def dR (s n:Nat):AV->Prop
 | .own id 0 _=>id=⟨s,n⟩
 |_=>False
def dU (n:Nat):AV->Prop
 | .own id _ _=>¬id.bq=n
 |_=>True
theorem DM {t s:Nat} {y:O} {c:VC} (h1:dR s σ.next (env t)) (h2:dU σ.next (dj env y)) (h:ea X c Q env σ):ea X (.loc t s y c) Q env σ:=by
 refine⟨⟨?_,fun id o l he=>?_⟩,h⟩
 ·revert h1
  unfold dR
  split
  ·rename_i id l he;rintro rfl;exact⟨l,he⟩
  ·exact fun h=>h.elim
 ·rw[he]at h2;exact h2
theorem fm {a b:VC} (ha:ea X a Q env σ) (hb:ea X b Q env σ):ea X (.both a b) Q env σ:=⟨ha,hb⟩
theorem JB {draw:Bool} {ops:List bD} (h:∀N:Env->ax->Prop,(∀e s,Q .normal e s->N e s)->wpOps X draw ops N env σ):ea X (.fV draw ops) Q env σ:=h _ fun _ _ h=>h
theorem Oz {ops:List bD} (h:cq ops (Q .normal) env σ):ea X (.SN ops) Q env σ:=h
theorem Gp {draw:Bool} (h:K env ⟨σ.get,σ.next+1⟩):wpOps X draw [] K env σ:=h
theorem UL {draw:Bool} {o:bD} {r:List bD} (h:∀N:AV->ax->Prop,(∀v s,wpOps X draw r K (upd env o.dst v) s->N v s)->if aL o.guard env then fq X draw o env σ N else N .undef σ):wpOps X draw (o::r) K env σ:=by
 have:=h (fun v s=>wpOps X draw r K (upd env o.dst v) s) fun _ _ h=>h
 unfold wpOps
 split
 ·rename_i hw;rw[if_pos hw]at this;exact this
 ·rename_i hw;rw[if_neg hw]at this;exact this
theorem OA {c:O} {x y:VC} {b:Bool} (hc:dj env c=.bool b) (ht:b=true->ea X x Q env σ) (hf:b=false->ea X y Q env σ):ea X (.cond c x y) Q env σ:=by
 unfold ea
 simp only[hc]
 cases b with
 |true=>exact ht rfl
 |false=>exact hf rfl
inductive pV:AV->Prop->Prop->Prop
 |t {A B:Prop}:A->pV (.bool true) A B
 |f {A B:Prop}:B->pV (.bool false) A B
theorem x8 {c:O} {x y:VC} {v:AV} (hv:dj env c=v) (h:pV v (ea X x Q env σ) (ea X y Q env σ)):ea X (.cond c x y) Q env σ:=by
 cases h with
 |t h=>exact OA hv (fun _=>h) (fun e=>by cases e)
 |f h=>exact OA hv (fun e=>by cases e) (fun _=>h)
theorem UK {c:VC} (I:Nat->Env->ax->Prop) (n:Nat) (h0:I n env σ) (step:∀n env σ,I n env σ->ea X c (fun x e s=>match x with| .normal=>∃m,m<n/\I m e s|x=>Q x e s) env σ)
  (hX:∀(c:VC) (Q Q':Ex->Env->ax->Prop) env σ,(∀x e s,Q x e s->Q' x e s)->ea X c Q env σ->ea X c Q' env σ):ea X (.loop c) Q env σ:=by
 have key:∀N n env σ,n<N->I n env σ->zq (ea X c) Q N env σ:=by
  intro N
  induction N with
  |zero=>intro n env σ h;exact absurd h (Nat.not_lt_zero _)
  |succ N ih=>
   intro n env σ hn hI
   refine hX c _ _ env σ (fun x e s hx=>?_) (step n env σ hI)
   cases x with
   |normal=>obtain⟨m,hm,hI'⟩:=hx;exact ih m e s ae hI'
   |exit id=>exact hx
   |ret=>exact hx
 exact⟨n+1,key _ n env σ (Nat.lt_succ_self _) h0⟩
theorem Q5 {c:VC} (I:Nat->Env->ax->Prop) (n:Nat) (h0:I n env σ) (step:∀n env σ,I n env σ->ea (Call P) c (fun x e s=>match x with| .normal=>∃m,m<n/\I m e s|x=>Q x e s) env σ):ea (Call P) (.loop c) Q env σ:=
 UK I n h0 step fun c Q Q' env σ hQ h=>lK (fun _ _ _ _ h=>h) ay c Q Q' env σ hQ h
def Bf:VC->List Nat
 | .fV _ ops=>ops.filterMap (·.dst)
 | .seq a b=>Bf a++Bf b
 | .cond _ a b=>Bf a++Bf b
 | .block _ a=>Bf a
 | .loop a=>Bf a
 | .one o c=>o.dst.toList++Bf c
 | .both a b=>Bf a++Bf b
 | .loc _ _ _ c=>Bf c
 | .SN ops=>ops.filterMap (·.dst)
 |_=>[]
def jW (l:List Nat) (env jz:Env):Prop:=∀t,l.contains t=false->jz t=env t
theorem jW.refl (l:List Nat) (env:Env):jW l env env:=fun _ _=>rfl
theorem jW.upd {l:List Nat} {e e':Env} {d:Option Nat} {v:AV} (h:jW l e e') (hd:∀t,d=some t->t∈l):jW l e (upd e' d v):=fun t ht=>by
 cases d with
 |none=>exact h t ht
 |some d=>
  have:t≠d:=fun hc=>by subst hc;rw[<-Bool.not_eq_true,List.contains_iff_mem]at ht;exact ht (hd _ rfl)
  show(if t=d then v else e' t)=e t
  rw[if_neg this];exact h t ht
theorem qK {draw:Bool} {Q:Env->ax->Prop} {l:List Nat} {e0:Env}:∀(ops:List bD) (env:Env) (σ:ax),(∀t,t∈ops.filterMap (·.dst)->t∈l)->jW l e0 env->wpOps (Call P) draw ops Q env σ->wpOps (Call P) draw ops (fun e s=>Q e s/\jW l e0 e) env σ
 |[],env,σ,_,hk,hp=>⟨hp,hk⟩
 |o::r,env,σ,hl,hk,hp=>by
  have hd:∀t,o.dst=some t->t∈l:=fun t ht=>hl t (List.mem_filterMap.2 ⟨o,by simp,ht⟩)
  have hr:∀t,t∈r.filterMap (·.dst)->t∈l:=fun t ht=>hl t (by
   obtain⟨x,hx,h⟩:=List.mem_filterMap.1 ht
   exact List.mem_filterMap.2 ⟨x,List.mem_cons_of_mem _ hx,h⟩)
  unfold wpOps at hp ⊢
  split at hp
  ·rename_i hw;rw[if_pos hw]
   exact uZ (fun _ _ _ _ h=>h) ay (fun v σ' h=>qK r _ _ hr (hk.upd hd) h) hp
  ·rename_i hw;rw[if_neg hw];exact qK r _ _ hr (hk.upd hd) hp
theorem nq {Q:Env->ax->Prop} {l:List Nat} {e0:Env}:∀(ops:List bD) (env:Env) (σ:ax),(∀t,t∈ops.filterMap (·.dst)->t∈l)->jW l e0 env->cq ops Q env σ->cq ops (fun e s=>Q e s/\jW l e0 e) env σ
 |[],env,σ,_,hk,hp=>⟨hp,hk⟩
 |o::r,env,σ,hl,hk,hp=>by
  have hd:∀t,o.dst=some t->t∈l:=fun t ht=>hl t (List.mem_filterMap.2 ⟨o,by simp,ht⟩)
  have hr:∀t,t∈r.filterMap (·.dst)->t∈l:=fun t ht=>hl t (by
   obtain⟨x,hx,h⟩:=List.mem_filterMap.1 ht
   exact List.mem_filterMap.2 ⟨x,List.mem_cons_of_mem _ hx,h⟩)
  unfold cq at hp ⊢
  refine⟨hp.1,?_⟩
  replace hp:=hp.2
  split at hp
  ·split at hp
   ·exact nq r _ _ hr (hk.upd hd) hp
   ·exact hp.elim
  ·split at hp
   ·exact nq r _ _ hr (hk.upd hd) hp
   ·exact hp.elim
  ·split at hp
   ·exact nq r _ _ hr (hk.upd hd) hp
   ·exact hp.elim
theorem Ci {l:List Nat} {e0:Env}:∀(c:VC) (Q:Ex->Env->ax->Prop) (env:Env) (σ:ax),(∀t,t∈Bf c->t∈l)->jW l e0 env->ea (Call P) c Q env σ->ea (Call P) c (fun x e s=>Q x e s/\jW l e0 e) env σ:=by
 intro c
 induction c with
 |skip=>intro Q env σ _ hk hp;exact⟨hp,hk⟩
 |exit id=>intro Q env σ _ hk hp;exact⟨hp,hk⟩
 |ret=>intro Q env σ _ hk hp;exact⟨hp,hk⟩
 |one o c ih=>
  intro Q env σ hl hk hp
  have hd:∀t,o.dst=some t->t∈l:=fun t ht=>hl t (List.mem_append_left _ (by rw[ht];simp))
  have hr:∀t,t∈Bf c->t∈l:=fun t ht=>hl t (List.mem_append_right _ ht)
  unfold ea at hp ⊢
  split at hp
  ·rename_i hw;rw[if_pos hw]
   exact uZ (fun _ _ _ _ h=>h) ay (fun v σ' h=>ih Q _ _ hr (hk.upd hd) h) hp
  ·rename_i hw;rw[if_neg hw];exact ih Q _ _ hr (hk.upd hd) hp
 |both a b iha ihb=>
  intro Q env σ hl hk hp
  exact⟨iha Q env σ (fun t ht=>hl t (List.mem_append_left _ ht)) hk hp.1,ihb Q env σ (fun t ht=>hl t (List.mem_append_right _ ht)) hk hp.2⟩
 |loc t s y c ih=>intro Q env σ hl hk hp;exact⟨hp.1,ih Q env σ hl hk hp.2⟩
 |SN ops=>intro Q env σ hl hk hp;exact nq ops env σ hl hk hp
 |fV draw ops=>intro Q env σ hl hk hp;exact qK ops env σ hl hk hp
 |seq a b iha ihb=>
  intro Q env σ hl hk hp
  refine lK (fun _ _ _ _ h=>h) ay a _ _ env σ (fun x e s hx=>?_) (iha _ env σ (fun t ht=>hl t (List.mem_append_left _ ht)) hk hp)
  cases x with
  |normal=>exact ihb Q e s (fun t ht=>hl t (List.mem_append_right _ ht)) hx.2 hx.1
  |exit id=>exact hx
  |ret=>exact hx
 |cond c a b iha ihb=>
  intro Q env σ hl hk hp
  unfold ea at hp ⊢
  split at hp
  ·rename_i t ht
   cases t with
   |true=>exact iha Q env σ (fun t ht=>hl t (List.mem_append_left _ ht)) hk hp
   |false=>exact ihb Q env σ (fun t ht=>hl t (List.mem_append_right _ ht)) hk hp
  ·exact hp.elim
 |block id a iha=>
  intro Q env σ hl hk hp
  refine lK (fun _ _ _ _ h=>h) ay a _ _ env σ (fun x e s hx=>?_) (iha _ env σ hl hk hp)
  obtain⟨hx,Hv⟩:=hx
  cases x with
  |normal=>exact⟨hx,Hv⟩
  |ret=>exact⟨hx,Hv⟩
  |exit lG=>
   unfold bd at hx ⊢
   dsimp only at hx ⊢
   split at hx
   ·rename_i hid;rw[if_pos hid];exact⟨hx,Hv⟩
   ·rename_i hid;rw[if_neg hid];exact⟨hx,Hv⟩
 |loop a iha=>
  intro Q env σ hl hk hp
  obtain⟨n,hp⟩:=hp
  refine⟨n,?_⟩
  induction n generalizing env σ with
  |zero=>exact hp
  |succ n ihn=>
   refine lK (fun _ _ _ _ h=>h) ay _ _ _ _ _ (fun x e s hx=>?_) (iha _ env σ hl hk hp)
   obtain⟨hx,Hv⟩:=hx
   cases x with
   |normal=>exact ihn e s Hv hx
   |exit id=>exact⟨hx,Hv⟩
   |ret=>exact⟨hx,Hv⟩
theorem cm {c:VC} (I:Nat->Env->ax->Prop) (n:Nat) (h0:I n env σ) (step:∀n e s,I n e s->jW (Bf c) env e->ea (Call P) c (fun x e s=>match x with| .normal=>∃m,m<n/\I m e s|x=>Q x e s) e s):ea (Call P) (.loop c) Q env σ:=by
 refine Q5 (fun n e s=>I n e s/\jW (Bf c) env e) n ⟨h0,jW.refl _ _⟩ fun n e s hI=>?_
 refine lK (fun _ _ _ _ h=>h) ay _ _ _ _ _ (fun x e' s' hx=>?_) (Ci c _ e s (fun _ h=>h) hI.2 (step n e s hI.1 hI.2))
 obtain⟨hx,hk⟩:=hx
 cases x with
 |normal=>obtain⟨m,hm,h⟩:=hx;exact⟨m,hm,h,hk⟩
 |exit id=>exact hx
 |ret=>exact hx
theorem OC {k:Nat} (h:k<=9223372036854775807):IntKind.i64.wrap (k:Int)=k:=by rw[IntKind.wrap_i64];omega
theorem db {z:Int} (h: -9223372036854775808<=z/\z<=9223372036854775807):IntKind.i64.wrap z=z:=by rw[IntKind.wrap_i64];omega
theorem bf {k:Nat} (h:(k:Int)+1<=9223372036854775807):IntKind.i64.wrap ((k:Int)+1)=((k+1:Nat):Int):=by rw[IntKind.wrap_i64];omega
theorem all_succ {k:Nat} {p:Nat->Prop} (h:∀j,j<k->p j) (hk:p k):∀j,j<k+1->p j:=fun j hj=>by
 by_cases Av:j=k
 ·subst Av;exact hk
 ·exact h j ae
theorem aV (g:Rows) (n:Nat) (k:IntKind) (m:Int):fz g (n+1) (.int k m)=some (.int k m):=by rw[fz]<;>intros<;>simp_all
theorem aX (g:Rows) (n:Nat) (b:Bool):fz g (n+1) (.bool b)=some (.bool b):=by rw[fz]<;>intros<;>simp_all
theorem bV (g:Rows) (n:Nat) (b:ByteArray):fz g (n+1) (.str b)=some (.str b):=by rw[fz]<;>intros<;>simp_all
theorem cz (g:Rows) (n:Nat) (l:List (List AV)):fz g (n+1) (.sl l)=some (.sl l):=by rw[fz]<;>intros<;>simp_all
theorem aQ (g:Rows) (n:Nat):fz g (n+1) .bj=some .bj:=by rw[fz]<;>intros<;>simp_all
def aw (P:Program) (f:Nat) (args:List AV) (r:AV):Prop:=∀n:Nat,Call P f args ⟨fun _=>none,n⟩ fun r0 σ'=>∃r',iu σ'.get 6 r0=some r'/\r'=r
theorem aw.body {f:Nat} {args:List AV} {r:AV} {nt na:Nat} {body:VC} {res:List rL} (hf:CC P f=some ⟨nt,na,body,res⟩) (ha:na=args.length) (h:(∀a∈args,ft a)->∀n:Nat,ea (Call P) body (oe res fun r0 σ'=>∃r',iu σ'.get 6 r0=some r'/\r'=r) (cj args) ⟨fun _=>none,n⟩):aw P f args r:=fun n=>qM hf ha fun hl=>h hl n
theorem aw.x {f:Nat} {args args':List AV} {r:AV} (h:aw P f args' r) {σ:ax} (hv:eI (eD σ.get) 6 args=some args'):fB (Call P) f args σ (fun r'=>r'=r):=.inr ⟨args',hv,h _⟩
theorem ej (g:Rows) (n:Nat) (k:IntKind) (m:Int):iu g (n+1) (.int k m)=some (.int k m):=by rw[iu]<;>intros<;>simp_all
theorem gj (g:Rows) (n:Nat) (b:Bool):iu g (n+1) (.bool b)=some (.bool b):=by rw[iu]<;>intros<;>simp_all
theorem CR (g:Rows) (n:Nat) (b:ByteArray):iu g (n+1) (.str b)=some (.str b):=by rw[iu]<;>intros<;>simp_all
theorem jH (g:Rows) (n:Nat):iu g (n+1) .bj=some .bj:=by rw[iu]<;>intros<;>simp_all
theorem fo (g:Rows) (n:Nat) (l:List AV):iu g (n+1) (.fP l)=(eY g n l).map AV.fP:=by rw[iu]
theorem l5 (g:Rows) (n:Nat) (l:List AV):iu g (n+1) (.agg l)=(eY g n l).map AV.agg:=by rw[iu]
theorem qU {g:Rows} {n:Nat} {id:Id} {off len sz:Nat} {rows rows':List (List AV)} (h:g id=some ⟨true,sz,rows⟩) (hl:off+len<=rows.length) (hr:gI g n ((rows.drop off).take len)=some rows'):iu g (n+1) (.own id off len)=some (.sl rows'):=by
 rw[iu];simp only[h,if_true,if_pos hl,hr,Option.map_some]
theorem cw (g:Rows) (n:Nat):eY g n []=some []:=by rw[eY]
theorem bx (g:Rows) (n:Nat) (a:AV) (l:List AV):eY g n (a::l)=match iu g n a with
  |some b=>(eY g n l).map (b::·)
  |none=>none:=by rw[eY];cases iu g n a<;>rfl
theorem wV {g:Rows} {n:Nat}:∀{l:List (List AV)},(∀c∈l,eY g n c=some c)->gI g n l=some l
 |[],_=>by rw[gI]
 |c::r,h=>by rw[gI,h c (by simp),wV fun d hd=>h d (List.mem_cons_of_mem _ hd)];rfl
theorem bp (g:Rows) (n:Nat) (l:List AV):fz g (n+1) (.agg l)=(eI g n l).map AV.agg:=by rw[fz]
theorem aP (g:Rows) (n:Nat) (l:List AV):fz g (n+1) (.ef l)=some (.ef l):=by rw[fz]<;>intros<;>simp_all
theorem s5 {g:Rows} {n:Nat} {id:Id} {i off sz:Nat} {rows:List (List AV)} {cs tZ:List AV} (h:g id=some ⟨true,sz,rows⟩) (hi:rows[i]? =some cs) (hr:eI g n (cs.drop off)=some tZ):fz g (n+1) (.ptr id i off)=some (.ef tZ):=by
 rw[fz];simp only[h,if_true,hi,hr,Option.map_some]
theorem ar (g:Rows) (n:Nat):eI g n []=some []:=by rw[eI]
theorem aq (g:Rows) (n:Nat) (a:AV) (l:List AV):eI g n (a::l)=match fz g n a with
  |some b=>(eI g n l).map (b::·)
  |none=>none:=by rw[eI];cases fz g n a<;>rfl
theorem F5 {t:Nat} {r r0:AV} {x:Ex} (hx:x=.ret∨x=.normal) (he:env t=r0) (hz:iu σ.get 6 r0=some r):oe [.tmp t] (fun r0 σ'=>∃r',iu σ'.get 6 r0=some r'/\r'=r) x env σ:=by
 have:∃vs,gU env σ.get [.tmp t]=some vs/\∃r',iu σ.get 6 (hZ vs)=some r'/\r'=r:=⟨[env t],rfl,r,by subst he;exact hz,rfl⟩
 rcases hx with rfl|rfl
 ·exact this
 ·exact this
theorem da {t:Nat} {b c:Bool} {x:Ex} (hx:x=.ret∨x=.normal) (he:env t=.bool b) (hb:b=c):oe [.tmp t] (fun r0 σ'=>∃r',iu σ'.get 6 r0=some r'/\r'=.bool c) x env σ:=F5 hx he (by rw[gj,hb])
theorem eC {t:Nat} {k:IntKind} {b c:Int} {x:Ex} (hx:x=.ret∨x=.normal) (he:env t=.int k b) (hb:b=c):oe [.tmp t] (fun r0 σ'=>∃r',iu σ'.get 6 r0=some r'/\r'=.int k c) x env σ:=F5 hx he (by rw[ej,hb])
theorem lY {t u:Nat} {r r1 r2:AV} {x:Ex} (hx:x=.ret∨x=.normal) (h1:env t=r1) (h2:env u=r2) (hz:iu σ.get 6 (.fP [r1,r2])=some r):oe [.tmp t,.tmp u] (fun r0 σ'=>∃r',iu σ'.get 6 r0=some r'/\r'=r) x env σ:=by
 have:∃vs,gU env σ.get [.tmp t,.tmp u]=some vs/\∃r',iu σ.get 6 (hZ vs)=some r'/\r'=r:=⟨[env t,env u],rfl,r,by subst h1;subst h2;exact hz,rfl⟩
 rcases hx with rfl|rfl
 ·exact this
 ·exact this
structure Pn (p:Prop):Prop where
 out:p
theorem tw {A B:Prop} (a:A) (b:B):A/\B:=⟨a,b⟩
theorem wk {A R G:Prop} (a:A) (r:R) (h:A->R->G:=by
  intro fL kk
  (repeat(apply Pn.mk;intro N hN))
  (first|((first|apply Gq|apply JB);intro N hN)|((first|(apply UL;intro N hN)|(apply JA;intro N hN));simp only[go_sem, ↓reduceIte,Nat.reduceEqDiff,Nat.reduceAdd,Nat.reduceSub,Nat.reduceMul,Nat.reduceLeDiff,Nat.reduceBEq,reduceCtorEq,Nat.reduceLT,Int.reduceLE,Int.reduceLT,Int.reduceToNat,Int.reduceNeg,Int.reduceAdd,Int.reduceEq,fL];first|(apply hN;clear hN N)|skip)|(apply x8;(simp only[go_sem, ↓reduceIte,Nat.reduceEqDiff,Nat.reduceAdd,Nat.reduceSub,Nat.reduceMul,Nat.reduceLeDiff,Nat.reduceBEq,reduceCtorEq,Nat.reduceLT,Int.reduceLE,Int.reduceLT,Int.reduceToNat,Int.reduceNeg,Int.reduceAdd,Int.reduceEq,fL];rfl);first|with_reducible apply pV.t|with_reducible apply pV.f)|(apply Gp;apply hN;clear hN N;try(simp only[de,bd, ↓reduceIte,Nat.reduceEqDiff]);try(apply hN;clear hN N))|apply x7|(refine DM ?_ ?_ ?_;(focus(simp only[go_sem, ↓reduceIte,Nat.reduceEqDiff,Nat.reduceAdd,Nat.reduceSub,Nat.reduceMul,Nat.reduceLeDiff,Nat.reduceBEq,reduceCtorEq,Nat.reduceLT,Int.reduceLE,Int.reduceLT,Int.reduceToNat,Int.reduceNeg,Int.reduceAdd,Int.reduceEq,fL];done));(focus(simp only[go_sem, ↓reduceIte,Nat.reduceEqDiff,Nat.reduceAdd,Nat.reduceSub,Nat.reduceMul,Nat.reduceLeDiff,Nat.reduceBEq,reduceCtorEq,Nat.reduceLT,Int.reduceLE,Int.reduceLT,Int.reduceToNat,Int.reduceNeg,Int.reduceAdd,Int.reduceEq,fL];done)))|((first|apply DO|apply DL|apply JC);try(simp only[de,bd, ↓reduceIte,Nat.reduceEqDiff]);try(apply hN;clear hN N))|((first|apply hN|(clear hN N;first|apply hN|(clear hN N;first|apply hN|(clear hN N;first|apply hN|(clear hN N;apply hN)))));clear hN N))
  (repeat(first|((first|apply Gq|apply JB);intro N hN)|((first|(apply UL;intro N hN)|(apply JA;intro N hN));simp only[go_sem, ↓reduceIte,Nat.reduceEqDiff,Nat.reduceAdd,Nat.reduceSub,Nat.reduceMul,Nat.reduceLeDiff,Nat.reduceBEq,reduceCtorEq,Nat.reduceLT,Int.reduceLE,Int.reduceLT,Int.reduceToNat,Int.reduceNeg,Int.reduceAdd,Int.reduceEq,fL];first|(apply hN;clear hN N)|skip)|(apply x8;(simp only[go_sem, ↓reduceIte,Nat.reduceEqDiff,Nat.reduceAdd,Nat.reduceSub,Nat.reduceMul,Nat.reduceLeDiff,Nat.reduceBEq,reduceCtorEq,Nat.reduceLT,Int.reduceLE,Int.reduceLT,Int.reduceToNat,Int.reduceNeg,Int.reduceAdd,Int.reduceEq,fL];rfl);first|with_reducible apply pV.t|with_reducible apply pV.f)|(apply Gp;apply hN;clear hN N;try(simp only[de,bd, ↓reduceIte,Nat.reduceEqDiff]);try(apply hN;clear hN N))|apply x7|(refine DM ?_ ?_ ?_;(focus(simp only[go_sem, ↓reduceIte,Nat.reduceEqDiff,Nat.reduceAdd,Nat.reduceSub,Nat.reduceMul,Nat.reduceLeDiff,Nat.reduceBEq,reduceCtorEq,Nat.reduceLT,Int.reduceLE,Int.reduceLT,Int.reduceToNat,Int.reduceNeg,Int.reduceAdd,Int.reduceEq,fL];done));(focus(simp only[go_sem, ↓reduceIte,Nat.reduceEqDiff,Nat.reduceAdd,Nat.reduceSub,Nat.reduceMul,Nat.reduceLeDiff,Nat.reduceBEq,reduceCtorEq,Nat.reduceLT,Int.reduceLE,Int.reduceLT,Int.reduceToNat,Int.reduceNeg,Int.reduceAdd,Int.reduceEq,fL];done)))|((first|apply DO|apply DL|apply JC);try(simp only[de,bd, ↓reduceIte,Nat.reduceEqDiff]);try(apply hN;clear hN N))|((first|apply hN|(clear hN N;first|apply hN|(clear hN N;first|apply hN|(clear hN N;first|apply hN|(clear hN N;apply hN)))));clear hN N)))
  (repeat(revert N;apply Pn.out))
  exact kk):G:=h a r
theorem wa {A R G:Prop} (a:A) (r:R) (h:A->R->G:=by
  intro fL kk
  (repeat(apply Pn.mk;intro N hN))
  (first|((first|apply Gq|apply JB);intro N hN)|((first|(refine Sj rfl fun N hN=>?_)|(apply JA;intro N hN));simp only[go_sem, ↓reduceIte,Nat.reduceEqDiff,Nat.reduceAdd,Nat.reduceSub,Nat.reduceMul,Nat.reduceLeDiff,Nat.reduceBEq,reduceCtorEq,Nat.reduceLT,Int.reduceLE,Int.reduceLT,Int.reduceToNat,Int.reduceNeg,Int.reduceAdd,Int.reduceEq,fL];first|(apply hN;clear hN N)|skip)|(apply x8;(simp only[go_sem, ↓reduceIte,Nat.reduceEqDiff,Nat.reduceAdd,Nat.reduceSub,Nat.reduceMul,Nat.reduceLeDiff,Nat.reduceBEq,reduceCtorEq,Nat.reduceLT,Int.reduceLE,Int.reduceLT,Int.reduceToNat,Int.reduceNeg,Int.reduceAdd,Int.reduceEq,fL];rfl);first|with_reducible apply pV.t|with_reducible apply pV.f)|(apply Gp;apply hN;clear hN N;try(simp only[de,bd, ↓reduceIte,Nat.reduceEqDiff]);try(apply hN;clear hN N))|apply x7|(refine DM ?_ ?_ ?_;(focus(simp only[go_sem, ↓reduceIte,Nat.reduceEqDiff,Nat.reduceAdd,Nat.reduceSub,Nat.reduceMul,Nat.reduceLeDiff,Nat.reduceBEq,reduceCtorEq,Nat.reduceLT,Int.reduceLE,Int.reduceLT,Int.reduceToNat,Int.reduceNeg,Int.reduceAdd,Int.reduceEq,fL];done));(focus(simp only[go_sem, ↓reduceIte,Nat.reduceEqDiff,Nat.reduceAdd,Nat.reduceSub,Nat.reduceMul,Nat.reduceLeDiff,Nat.reduceBEq,reduceCtorEq,Nat.reduceLT,Int.reduceLE,Int.reduceLT,Int.reduceToNat,Int.reduceNeg,Int.reduceAdd,Int.reduceEq,fL];done)))|((first|apply DO|apply DL|apply JC);try(simp only[de,bd, ↓reduceIte,Nat.reduceEqDiff]);try(apply hN;clear hN N))|((first|apply hN|(clear hN N;first|apply hN|(clear hN N;first|apply hN|(clear hN N;first|apply hN|(clear hN N;apply hN)))));clear hN N))
  (repeat(first|((first|apply Gq|apply JB);intro N hN)|((first|(refine Sj rfl fun N hN=>?_)|(apply JA;intro N hN));simp only[go_sem, ↓reduceIte,Nat.reduceEqDiff,Nat.reduceAdd,Nat.reduceSub,Nat.reduceMul,Nat.reduceLeDiff,Nat.reduceBEq,reduceCtorEq,Nat.reduceLT,Int.reduceLE,Int.reduceLT,Int.reduceToNat,Int.reduceNeg,Int.reduceAdd,Int.reduceEq,fL];first|(apply hN;clear hN N)|skip)|(apply x8;(simp only[go_sem, ↓reduceIte,Nat.reduceEqDiff,Nat.reduceAdd,Nat.reduceSub,Nat.reduceMul,Nat.reduceLeDiff,Nat.reduceBEq,reduceCtorEq,Nat.reduceLT,Int.reduceLE,Int.reduceLT,Int.reduceToNat,Int.reduceNeg,Int.reduceAdd,Int.reduceEq,fL];rfl);first|with_reducible apply pV.t|with_reducible apply pV.f)|(apply Gp;apply hN;clear hN N;try(simp only[de,bd, ↓reduceIte,Nat.reduceEqDiff]);try(apply hN;clear hN N))|apply x7|(refine DM ?_ ?_ ?_;(focus(simp only[go_sem, ↓reduceIte,Nat.reduceEqDiff,Nat.reduceAdd,Nat.reduceSub,Nat.reduceMul,Nat.reduceLeDiff,Nat.reduceBEq,reduceCtorEq,Nat.reduceLT,Int.reduceLE,Int.reduceLT,Int.reduceToNat,Int.reduceNeg,Int.reduceAdd,Int.reduceEq,fL];done));(focus(simp only[go_sem, ↓reduceIte,Nat.reduceEqDiff,Nat.reduceAdd,Nat.reduceSub,Nat.reduceMul,Nat.reduceLeDiff,Nat.reduceBEq,reduceCtorEq,Nat.reduceLT,Int.reduceLE,Int.reduceLT,Int.reduceToNat,Int.reduceNeg,Int.reduceAdd,Int.reduceEq,fL];done)))|((first|apply DO|apply DL|apply JC);try(simp only[de,bd, ↓reduceIte,Nat.reduceEqDiff]);try(apply hN;clear hN N))|((first|apply hN|(clear hN N;first|apply hN|(clear hN N;first|apply hN|(clear hN N;first|apply hN|(clear hN N;apply hN)))));clear hN N)))
  (repeat(revert N;apply Pn.out))
  exact kk):G:=h a r
theorem sd {A G:Prop} (a:A) (h:A->G:=by
  intro fL
  first|(simp only[go_sem, ↓reduceIte,Nat.reduceEqDiff,Nat.reduceAdd,Nat.reduceSub,Nat.reduceMul,Nat.reduceLeDiff,Nat.reduceBEq,reduceCtorEq,Nat.reduceLT,Int.reduceLE,Int.reduceLT,Int.reduceToNat,Int.reduceNeg,Int.reduceAdd,Int.reduceEq,fL,gU,jj];done)|fail):G:=h a
theorem sl {A G:Prop} (a:A) (h:A->G:=by
  intro fL
  (try simp only[go_sem, ↓reduceIte,Nat.reduceEqDiff,Nat.reduceAdd,Nat.reduceSub,Nat.reduceMul,Nat.reduceLeDiff,Nat.reduceBEq,reduceCtorEq,Nat.reduceLT,Int.reduceLE,Int.reduceLT,Int.reduceToNat,Int.reduceNeg,Int.reduceAdd,Int.reduceEq,fL])
  try rfl):G:=h a
end Go.Proofs.YtainmfbpilopaaaGreatDoor.V

namespace Go.Proofs.YtainmfbpilopaaaGreatDoor
open Go.RowKit
def Sl (w:World) (fp:List Nat) (v:Value) (n:Nat) (xs:List Value):Prop:=
 ∃A c,v=.slice A n c/\n<=c/\c<=maxLen/\
  ((fp=[]/\n=0)∨∃b o,fp=[b]/\A=some ⟨b,o,none⟩/\∀j u,xs[j]? =some u->w.cell? ⟨b,o+j,none⟩=some u)
def lN (fp:List Nat) (lo hi:Nat):Prop:=∀b∈fp,lo<=b/\b<hi
theorem lN.nil (lo hi:Nat):lN [] lo hi:=fun _ h=>by cases h
theorem Sl.nil (w:World):Sl w [] (.slice none 0 0) 0 []:=⟨none,0,rfl,Nat.le_refl _,by simp[maxLen],.inl ⟨rfl,rfl⟩⟩
def Ss {α:Type} (rep:World->List Nat->List Value->α->Prop) (sz:Nat) (w:World) (qi:List (List Value)) (IP:List (List Nat)) (ds:List α):Prop:=
 qi.length=ds.length/\IP.length=ds.length/\∀(i:Nat) (cs:List Value) (f:List Nat) (d:α),qi[i]? =some cs->IP[i]? =some f->ds[i]? =some d->rep w f cs d/\cs.length=sz
def oH {α:Type} (rep:World->List Nat->List Value->α->Prop) (sz:Nat) (w:World) (fp:List Nat) (v:Value) (ds:List α):Prop:=
 ∃qi IP ZY,fp=ZY++IP.flatten/\Sl w ZY v ds.length qi.flatten/\Ss rep sz w qi IP ds
theorem tq {α:Type} {IP:List (List α)} {i:Nat} {f:List α} (h:IP[i]? =some f):∀b∈f,b∈IP.flatten:=fun b hb=>
 List.mem_flatten.2 ⟨f,List.mem_of_getElem? h,hb⟩
theorem wU {α:Type} {qi:List (List α)} {sz:Nat} (h:∀cs∈qi,cs.length=sz) {i j:Nat} {cs:List α} (hi:qi[i]? =some cs) (hj:j<sz):qi.flatten[i*sz+j]? =cs[j]? :=by
 induction qi generalizing i with
 |nil=>simp at hi
 |cons c r ih=>
  have hc:c.length=sz:=h c (by simp)
  cases i with
  |zero=>
   simp at hi;subst hi
   rw[List.flatten_cons,List.getElem?_append_left (by omega)];simp
  |succ i=>
   rw[List.flatten_cons,List.getElem?_append_right (by rw[hc,Nat.succ_mul];omega)]
   have:(i+1)*sz+j-c.length=i*sz+j:=by rw[hc,Nat.succ_mul];omega
   rw[this]
   exact ih (fun cs ek=>h cs (List.mem_cons_of_mem _ ek)) (by simpa using hi)
theorem Ss.lens {α:Type} {rep:World->List Nat->List Value->α->Prop} {sz:Nat} {w:World} {qi:List (List Value)} {IP:List (List Nat)} {ds:List α}
  (h:Ss rep sz w qi IP ds):∀cs∈qi,cs.length=sz:=fun cs ek=>by
 obtain⟨i,hi,rfl⟩:=List.getElem_of_mem ek
 have h1:i<IP.length:=by rw[h.2.1,<-h.1];exact hi
 have h2:i<ds.length:=by rw[<-h.1];exact hi
 exact(h.2.2 i _ _ _ (List.getElem?_eq_getElem hi) (List.getElem?_eq_getElem h1) (List.getElem?_eq_getElem h2)).2
theorem oH.at_ {α:Type} {rep:World->List Nat->List Value->α->Prop} {sz:Nat} {w:World} {fp:List Nat} {A:Option Addr} {n c:Nat} {ds:List α}
  (h:oH rep sz w fp (.slice A n c) ds) (k:Nat) (hk:k<ds.length):
  ∃b o cs f,A=some ⟨b,o,none⟩/\b∈fp/\(∀x∈f,x∈fp)/\rep w f cs ds[k]/\cs.length=sz/\∀j u,cs[j]? =some u->w.cell? ⟨b,o+(k*sz+j),none⟩=some u:=by
 obtain⟨qi,IP,ZY,rfl,⟨A',c',hv,_,_,hc⟩,hr⟩:=h
 simp only[Value.slice.injEq]at hv
 obtain⟨rfl,hn,rfl⟩:=hv
 rcases hc with⟨_,h0⟩|⟨b,o,rfl,rfl,hc⟩
 ·omega
 have h1:k<qi.length:=by rw[hr.1];exact hk
 have h2:k<IP.length:=by rw[hr.2.1];exact hk
 obtain⟨jd,hl⟩:=hr.2.2 k _ _ _ (List.getElem?_eq_getElem h1) (List.getElem?_eq_getElem h2) (List.getElem?_eq_getElem hk)
 refine⟨b,o,qi[k],IP[k],rfl,by simp,fun x hx=>List.mem_append_right _ (tq (List.getElem?_eq_getElem h2) x hx),jd,hl,fun j u hj=>?_⟩
 have iX:j<sz:=by rw[<-hl];exact(List.getElem?_eq_some_iff.1 hj).1
 exact hc _ u (by rw[wU hr.lens (List.getElem?_eq_getElem h1) iX];exact hj)
theorem oH.len {α:Type} {rep:World->List Nat->List Value->α->Prop} {sz:Nat} {w:World} {fp:List Nat} {v:Value} {ds:List α}
  (h:oH rep sz w fp v ds):∃A c,v=.slice A ds.length c/\ds.length<=c/\c<=maxLen:=by
 obtain⟨_,_,_,_,⟨A,c,hv,h1,h2,_⟩,_⟩:=h
 exact⟨A,c,hv,h1,h2⟩
theorem oH.nil {α:Type} (rep:World->List Nat->List Value->α->Prop) (sz:Nat) (w:World):oH rep sz w [] (.slice none 0 0) ([]:List α):=
 ⟨[],[],[],rfl,Sl.nil w,rfl,rfl,fun i cs f d hc=>by simp at hc⟩
def Flat {α:Type} (enc:α->List Value):World->List Nat->List Value->α->Prop:=fun _ f cs d=>f=[]/\cs=enc d
def Q (w w':World):Prop:=∃q,w'=w.drewN q
theorem Wo {B:Nat} {a w:World} (h:Below B a w) (n:Nat):Below B a (w.drewN n):=⟨h.os,h.tape,h.output,h.size,h.block⟩
theorem jw {a b:Bool} (h:a=b):Ending.returned (.bool a)=.returned (.bool b):=by rw[h]
theorem Jl {k:IntKind} {a b:Int} (h:a=b):Ending.returned (.int k a)=.returned (.int k b):=by rw[h]
def Unf (w:World) (b:Nat):Prop:=∃cs e,w.heap[b]? =some (.cells cs e (0,0))
def putCells (w:World) (g:Nat):Nat->List Value->World
 |_,[]=>w
 |i,v::r=>putCells (w.setCell ⟨g,i,none⟩ v) g (i+1) r
structure jD (fp:List Nat) (w w':World):Prop where
 os:w'.os=w.os
 tape:w'.tape=w.tape
 output:w'.output=w.output
 size:w.heap.size<=w'.heap.size
 block:∀x,x<w.heap.size->x∉fp->w'.heap[x]? =w.heap[x]?
 unf:∀x,Unf w x->Unf w' x
theorem jD.trans {fp:List Nat} {a b c:World} (h:jD fp a b) (k:jD fp b c):jD fp a c:=
 ⟨k.os.trans h.os,k.tape.trans h.tape,k.output.trans h.output,Nat.le_trans h.size k.size,fun x h1 h2=>(k.block x (Nat.lt_of_lt_of_le h1 h.size) h2).trans (h.block x h1 h2),fun x hx=>k.unf x (h.unf x hx)⟩
structure ai where
 eV:Int
 eQ:Int
deriving DecidableEq
structure aa where
 aI:ai
 aY:Int
deriving DecidableEq
structure sJ where
 aj:List aa
deriving DecidableEq
structure kU where
 cZ:ByteArray
 iQ:Int
deriving DecidableEq
structure jy where
 cZ:ByteArray
 dW:List Int
deriving DecidableEq
structure az where
 bh:List kU
 aj:List jy
deriving DecidableEq
structure au where
 aD:az
 bH:sJ
 aE:Int
deriving DecidableEq
def gP (d:ai):List Value:=[.int .i64 d.eV,.int .i64 d.eQ]
def fX (d:aa):List Value:=[.int .i64 d.aI.eV,.int .i64 d.aI.eQ,.int .i64 d.aY]
end Go.Proofs.YtainmfbpilopaaaGreatDoor

namespace Go.Proofs.YtainmfbpilopaaaGreatDoor.V
open Go.RowKit
variable {P:Program} {w:World} {D:Nat->Prop}
def LQ (P:Program) (w:World) (D:Nat->Prop) (al:List AV) (cs:List Value):Prop:=∀(j:Nat) (a:AV),al[j]? =some a->∃u:Value,cs[j]? =some u/\lr P w D a u
theorem Of {α:Type} {rep:World->List Nat->List Value->α->Prop} {e:α->List AV} {sz:Nat} {f:List Nat} {v:Value} {xs:List α} (h:oH rep sz w f v xs) (hD:∀b∈f,D b)
  (hl:∀x∈xs,(e x).length=sz) (hc:∀x∈xs,∀a∈e x,a.cell=true) (hr:∀x∈xs,∀f' cs,rep w f' cs x->(∀b∈f',D b)->LQ P w D (e x) cs):lr P w D (.sl (xs.map e)) v:=by
 obtain⟨A,c,rfl,h1,h2⟩:=oH.len h
 by_cases h0:xs=[]
 ·subst h0;exact .D6 _ _ h2
 have kH:0<xs.length:=List.length_pos_iff.2 h0
 obtain⟨b,o,Yw,f0,rfl,hb,YR,hr0,PX,kZ⟩:=oH.at_ h 0 kH
 have key:∀(i:Nat) (hi:i<xs.length),∃cs f',(∀x∈f',x∈f)/\rep w f' cs xs[i]/\cs.length=sz/\∀j u,cs[j]? =some u->w.cell? ⟨b,o+(i*sz+j),none⟩=some u:=by
  intro i hi
  obtain⟨b',o',cs,f',YO,_,hf',pR,ek,lR⟩:=oH.at_ h i hi
  simp only[Option.some.injEq,Addr.mk.injEq,and_true]at YO
  obtain⟨rfl,rfl⟩:=YO
  exact⟨cs,f',hf',pR,ek,lR⟩
 refine .sl _ b o _ c sz (fun i j=>(w.cell? ⟨b,o+(i*sz+j),none⟩).getD Go.undef) (by simp) h1 h2 (hD b hb) ?_ ?_ ?_ ?_
 ·intro cs ek
  obtain⟨x,hx,rfl⟩:=List.mem_map.1 ek
  exact hl x hx
 ·intro cs ek
  obtain⟨x,hx,rfl⟩:=List.mem_map.1 ek
  exact hc x hx
 ·intro i j hi hj
  obtain⟨cs,f',_,_,ek,lR⟩:=key i hi
  rw[lR j cs[j] (List.getElem?_eq_getElem ae)]
  rfl
 ·intro i j cs a ek ha
  have hi:i<xs.length:=by
   have:=(List.getElem?_eq_some_iff.1 ek).1
   simpa using this
  obtain⟨tZ,f',hf',pR,hcs',lR⟩:=key i hi
  simp[hi]at ek
  subst ek
  obtain⟨u,hu,him⟩:=hr _ (List.getElem_mem hi) f' tZ pR (fun b hb=>hD b (hf' b hb)) j a ha
  rw[lR j u hu]
  exact him
end Go.Proofs.YtainmfbpilopaaaGreatDoor.V

namespace Go.Proofs.YtainmfbpilopaaaGreatDoor.V
open Go.RowKit
variable {P:Program} {w:World} {D:Nat->Prop}
def aM (d:Int):List AV:=[.int .i64 d]
def ad (d:ai):List AV:=[.int .i64 d.eV,.int .i64 d.eQ]
def ab (d:aa):List AV:=[.int .i64 d.aI.eV,.int .i64 d.aI.eQ,.int .i64 d.aY]
def VK (d:sJ):List AV:=[.sl (d.aj.map ab)]
def dZ (d:kU):List AV:=[.str d.cZ,.int .i64 d.iQ]
def dx (d:jy):List AV:=[.str d.cZ,.sl (d.dW.map aM)]
def ah (d:az):List AV:=[.sl (d.bh.map dZ),.sl (d.aj.map dx)]
def ck (d:au):List AV:=[.sl (d.aD.bh.map dZ),.sl (d.aD.aj.map dx),.sl (d.bH.aj.map ab),.int .i64 d.aE]
end Go.Proofs.YtainmfbpilopaaaGreatDoor.V

namespace Go.Proofs.YtainmfbpilopaaaGreatDoor.V
open Go.RowKit
variable {P:Program} {X:gq} {env:Env} {σ:ax}
theorem bz (g:Rows) (n:Nat) (l:List AV):fz g (n+1) (.fP l)=(eI g n l).map AV.fP:=by rw[fz]
theorem cI (g:Rows) (n:Nat) (f:Nat) (l:List AV):fz g (n+1) (.fn f l)=if l.all AV.cell then(eI g n l).map (AV.fn f)else none:=by rw[fz]
theorem aZ (g:Rows) (n:Nat) (id:Id) (i off:Nat):fz g (n+1) (.ptr id i off)=match g id with
  |some r=>if r.w then(match r.rows[i]? with
   |some cs=>(eI g n (cs.drop off)).map AV.ef
   |none=>none)else none
  |none=>none:=by rw[fz];rfl
theorem qV (g:Rows) (n:Nat) (id:Id) (off len:Nat):fz g (n+1) (.own id off len)=match g id with
  |some r=>if r.w then(if off+len<=r.rows.length then(fF g n ((r.rows.drop off).take len)).map AV.sl else none)else none
  |none=>none:=by rw[fz];rfl
theorem EP (g:Rows) (n:Nat):fF g n []=some []:=by rw[fF]
theorem CQ (g:Rows) (n:Nat) (c:List AV) (l:List (List AV)):fF g n (c::l)=match eI g n c with
  |some b=>(fF g n l).map (b::·)
  |none=>none:=by rw[fF];cases eI g n c<;>rfl
theorem yS {g:Rows} {n:Nat}:∀{l:List (List AV)},(∀c∈l,eI g n c=some c)->fF g n l=some l
 |[],_=>by rw[fF]
 |c::r,h=>by rw[fF,h c (by simp),yS fun d hd=>h d (List.mem_cons_of_mem _ hd)];rfl
theorem sZ {α:Type} {g:Rows} {n:Nat} {e:α->List AV} {l:List α} (h:∀x,eI g n (e x)=some (e x)):fF g n (l.map e)=some (l.map e):=yS fun c hc=>by
 obtain⟨x,_,rfl⟩:=List.mem_map.1 hc
 exact h x
theorem ER {α:Type} {g:Rows} {n:Nat} {e:α->List AV} {l:List α} (h:∀x,eY g n (e x)=some (e x)):gI g n (l.map e)=some (l.map e):=wV fun c hc=>by
 obtain⟨x,_,rfl⟩:=List.mem_map.1 hc
 exact h x
theorem jT {α:Type} {g:Rows} {n:Nat} {e:α->List AV} {l:List α} {id:Id} {sz len:Nat} (hg:g id=some ⟨true,sz,l.map e⟩) (hl:len=l.length) (h:∀x,eI g n (e x)=some (e x)):fz g (n+1) (.own id 0 len)=some (.sl (l.map e)):=by
 subst hl
 rw[qV];simp only[hg,if_true]
 rw[if_pos (by simp),List.drop_zero,List.take_of_length_le (by simp),sZ h];rfl
theorem eT {α:Type} {g:Rows} {n:Nat} {e:α->List AV} {l:List α} {id:Id} {sz len:Nat} (hg:g id=some ⟨true,sz,l.map e⟩) (hl:len=l.length) (h:∀x,eY g n (e x)=some (e x)):iu g (n+1) (.own id 0 len)=some (.sl (l.map e)):=by
 subst hl
 exact qU hg (by simp) (by rw[List.drop_zero,List.take_of_length_le (by simp),ER h])
theorem all_map {α:Type} {e:α->List AV} {sz:Nat} {l:List α} (h:∀x,(e x).length=sz/\(e x).all AV.cell=true):(l.map e).all (fun c=>c.length==sz&&c.all AV.cell)=true:=by
 rw[List.all_eq_true]
 intro c hc
 obtain⟨x,_,rfl⟩:=List.mem_map.1 hc
 simp[(h x).1,(h x).2]
def RowM (P:Program) (f:Nat) (args:List AV) (sz:Nat) (rows:List (List AV)):Prop:=(∀c∈rows,∀a∈c,a.plain=true)/\∀n:Nat,Call P f args ⟨fun _=>none,n⟩ fun r σ'=>∃id,r=.own id 0 rows.length/\σ'.get id=some ⟨true,sz,rows⟩
theorem qE {res:List rL} {r:AV} {vs:List AV} {x:Ex} (hx:x=.ret∨x=.normal) (hv:gU env σ.get res=some vs) (hz:iu σ.get 6 (hZ vs)=some r):oe res (fun r0 σ'=>∃r',iu σ'.get 6 r0=some r'/\r'=r) x env σ:=by
 rcases hx with rfl|rfl
 ·exact⟨vs,hv,r,hz,rfl⟩
 ·exact⟨vs,hv,r,hz,rfl⟩
theorem eo {res:List rL} {K:AV->ax->Prop} {vs:List AV} {x:Ex} (hx:x=.ret∨x=.normal) (hv:gU env σ.get res=some vs) (hK:K (hZ vs) σ):oe res K x env σ:=by
 rcases hx with rfl|rfl
 ·exact⟨vs,hv,hK⟩
 ·exact⟨vs,hv,hK⟩
theorem eZ {f:Nat} {args:List AV} {σ:ax} {K:AV->ax->Prop} {nt na:Nat} {body:VC} {res:List rL} (hf:CC P f=some ⟨nt,na,body,res⟩) (ha:na=args.length) (h:(∀a∈args,ft a)->ea (Call P) body (oe res K) (cj args) σ):Call P f args σ K:=qM hf ha h
theorem vD {f:Nat} {md:List (Nat×Nat)} {args:List AV} {σ:ax} {K:AV->ax->Prop} {nt na:Nat} {body:VC} {res:List rL} (hf:xu P f md=some ⟨nt,na,body,res⟩) (ha:na=args.length) (h:(∀a∈args,ft a)->ea (Call P) body (oe res K) (cj args) σ):Call P f args σ K:=ya hf ha h
theorem bZ {i:Id} {n:Nat} (h:i.bq<n):(∀s,(i=⟨s,n⟩)=False/\(i=⟨s,n+1⟩)=False/\(i=⟨s,n+1+1⟩)=False/\(i=⟨s,n+1+1+1⟩)=False/\(i=⟨s,n+1+1+1+1⟩)=False/\(i=⟨s,n+1+1+1+1+1⟩)=False/\(i=⟨s,n+1+1+1+1+1+1⟩)=False/\(i=⟨s,n+1+1+1+1+1+1+1⟩)=False/\(i=⟨s,n+1+1+1+1+1+1+1+1⟩)=False/\(i=⟨s,n+1+1+1+1+1+1+1+1+1⟩)=False/\(⟨s,n⟩=i)=False/\(⟨s,n+1⟩=i)=False/\(⟨s,n+1+1⟩=i)=False/\(⟨s,n+1+1+1⟩=i)=False/\(⟨s,n+1+1+1+1⟩=i)=False/\(⟨s,n+1+1+1+1+1⟩=i)=False/\(⟨s,n+1+1+1+1+1+1⟩=i)=False/\(⟨s,n+1+1+1+1+1+1+1⟩=i)=False/\(⟨s,n+1+1+1+1+1+1+1+1⟩=i)=False/\(⟨s,n+1+1+1+1+1+1+1+1+1⟩=i)=False)/\(i.bq=n)=False/\(i.bq=n+1)=False/\(i.bq=n+1+1)=False/\(i.bq=n+1+1+1)=False/\(i.bq=n+1+1+1+1)=False/\(i.bq=n+1+1+1+1+1)=False/\(i.bq=n+1+1+1+1+1+1)=False/\(i.bq=n+1+1+1+1+1+1+1)=False/\(i.bq=n+1+1+1+1+1+1+1+1)=False/\(i.bq=n+1+1+1+1+1+1+1+1+1)=False:=by
 refine⟨fun s=>?_,?_⟩
 ·obtain⟨a,b⟩:=i
  simp only[Id.mk.injEq,eq_iff_iff,iff_false,not_and]
  simp only at h
  refine⟨?_,?_,?_,?_,?_,?_,?_,?_,?_,?_,?_,?_,?_,?_,?_,?_,?_,?_,?_,?_⟩<;>(intros;omega)
 ·simp only[eq_iff_iff,iff_false]
  refine⟨?_,?_,?_,?_,?_,?_,?_,?_,?_,?_⟩<;>omega
def LZ (a b:Nat) (ids:List Id):Prop:=ids.Nodup/\∀i∈ids,a<=i.bq/\i.bq<b
def Kept (σ σ':ax):Prop:=σ.next<=σ'.next/\∀j:Id,j.bq<σ.next->σ'.get j=σ.get j
end Go.Proofs.YtainmfbpilopaaaGreatDoor.V

namespace Go.Proofs.YtainmfbpilopaaaGreatDoor.V
open Go.RowKit
attribute [local irreducible] ea wpOps fB Call
attribute [go_sem] aL fq eB fC fA dj upd cj K.av cH AV.cells AV.cell rowOf rowsOf part ld rowAt fQ bI bY dp dI fU bJ cY dS fu eP dh dL cW cV dy dz bP aW cK bL cP cL dF dM dK cJ bU cX dJ bK aJ cR cu fS br cF bQ aU de bd dv AV.undef bt bF dD dH dr dq cD dR dU cq dQ dP cQ cU List.getD_cons_zero List.getD_cons_succ List.getD_nil List.all_cons List.all_nil Bool.and_true Bool.true_and Bool.and_self Bool.not_true Bool.not_false Option.map_some Option.map_none Option.bind_some Option.bind_none List.length_cons List.length_nil List.take_succ_cons List.take_zero List.take_nil List.drop_succ_cons List.drop_zero List.drop_nil List.head?_cons List.map_cons List.map_nil List.getElem?_cons_zero List.getElem?_cons_succ List.cons_append List.nil_append List.append_nil List.length_map List.set_cons_zero List.set_cons_succ Nat.reduceMul eq_self Int.toNat_natCast Int.natCast_nonneg and_self true_and and_true decide_true decide_false Bool.false_eq_true Nat.zero_add Nat.add_zero List.contains_cons List.contains_nil Bool.or_false Bool.false_or beq_self_eq_true Nat.reduceBEq ne_eq not_true_eq_false not_false_eq_true Id.mk.injEq false_and and_false Nat.reduceLT Int.reduceLE Int.reduceLT Int.reduceToNat Int.reduceNeg Int.reduceAdd Nat.le_refl List.length_append beq_true beq_false Bool.not_eq_eq_eq_not or_false false_or eD aq ar aV aX bV cz aQ bp aP aZ cI bz
section
variable {P:Program}
theorem nH {X:gq} {Q:Ex->Env->ax->Prop} {N:Env->ax->Prop} {c:VC} {env:Env} {σ:ax} (I:Env->ax->Prop) (h2:∀e s,I e s->N e s) (h1:∀N':Env->ax->Prop,(∀e s,I e s->N' e s)->ea X c (de N' Q) env σ):ea X c (de N Q) env σ:=h1 N h2
def th (f z:Nat) (a:Bool):Iz:=let s:=f*1000000
 ⟨19,2,(.seq (.fV false [q 4 (.eW (.k (.int .i64 0))) s]) (.seq (.seq (.fV false [q 6 (.eW (.t 0)) (s+1000),q 7 (.len (.t 6)) (s+1001),q 8 (.eW (.k (.int .i64 0))) (s+1002)]) (.block 0 (.loop (.seq (.fV false [q 9 (.bin .lss .i64 (.t 8) (.t 7)) (s+2000)]) (.seq (.cond (.t 9) .skip (.exit 0)) (.seq (.block 1 (.seq (.fV false [q 10 (.eW (.t 8)) (s+3000),q 5 (.eW (.t 10)) (s+3001)]) (.seq (.fV false [q 11 (.eW (.t 1)) (s+4000),q 12 (.eW (.t 0)) (s+4001),q 13 (.eW (.t 5)) (s+4002),q 14 (.kR z (.t 12) (.t 13)) (s+4003),q 15 (.load a z (.t 14)) (s+4004),q 16 (.wR (.t 11) [(.t 15)]) (s+4005)]) (.cond (.t 16) (.seq (.fV false [q 17 (.eW (.t 5)) (s+5000),q 4 (.eW (.t 17)) (s+5001)]) .ret) .skip)))) (.fV false [q 18 (.bin .add .i64 (.t 8) (.k (.int .i64 1))) (s+6000),q 8 (.eW (.t 18)) (s+6001)]))))))) (.seq (.fV false [q 4 (.eW (.k (.int .i64 (-1)))) (s+7000)]) .ret))),[(.tmp 4)]⟩
def yX (f g:Nat):Iz:=let s:=f*1000000
 ⟨9,2,(.seq (.fV false [q 4 (.eW (.k (.bool false))) s]) (.seq (.fV false [q 5 (.eW (.t 0)) (s+1000),q 6 (.eW (.t 1)) (s+1001),q 7 (.call g [(.t 5),(.t 6)]) (s+1002),q 8 (.bin .geq .i64 (.t 7) (.k (.int .i64 0))) (s+1003),q 4 (.eW (.t 8)) (s+1004)]) .ret)),[(.tmp 4)]⟩
def lQ {α:Type} (p:α->Bool) (xs:List α):Int:=if xs.findIdx p<xs.length then(xs.findIdx p:Int)else -1
theorem Mv {α:Type} (p:α->Bool) (xs:List α):decide (0<=lQ p xs)=xs.any p:=by
 unfold lQ
 by_cases h:xs.findIdx p<xs.length
 ·rw[if_pos h]
  have:xs.any p=true:=List.any_eq_true.2 (List.findIdx_lt_length.1 h)
  rw[this];simp
 ·rw[if_neg h]
  have:xs.any p=false:=by
   rw[Bool.eq_false_iff]
   intro hc
   exact h (List.findIdx_lt_length.2 (List.any_eq_true.1 hc))
  rw[this];rfl
theorem xK (a:AV) (l m:List AV):a::l++m=a::(l++m):=rfl
theorem Cv (l:List AV):[]++l=l:=rfl
structure Wd {α:Type} (e:α->List AV) (v:α->AV) (z:Nat) (a:Bool):Prop where
 len:∀x,(e x).length=z
 val:∀x,if a=true then v x=.agg (e x)else e x=[v x]
 fz:∀x g,eI g 6 [v x]=some [v x]
theorem xd {α:Type} {e:α->List AV} {v:α->AV} {z fk:Nat} {a:Bool} (hE:Wd e v z a) (hc:CC P fk=some (th fk z a)) (xs:List α) (hlen:xs.length<=1048576) (f:Nat) (dG:List AV) (p:α->Bool)
  (hf:∀x∈xs,aw P f (v x::dG) (.bool (p x))) (MT:∀g,eI g 6 dG=some dG):
  aw P fk [.sl (xs.map e),.fn f dG] (.int .i64 (lQ p xs)):=by
 refine aw.body hc rfl fun hl n0=>?_
 try simp only[q]
 clear hl
 (try((repeat(revert N;apply Pn.out));refine wk @Nat.zero_add ?_;(repeat(apply Pn.mk;intro N hN))))
 refine cm (fun n env st=>∃k:Nat,n=(xs.length)-k/\k<=(xs.length)/\env 8=.int .i64 (k:Int)/\(∀j:Nat,j<k->∀h:j<xs.length,p xs[j]=false)) (xs.length) ⟨0,ae,ae,sl @Nat.zero_add,fun _ h=>absurd h (Nat.not_lt_zero _)⟩ ?_
 rintro n_a env_a st_a ⟨k,rfl,ale,a8,nJ⟩ eF
 have a0:=eF 0 (by kernel_rfl);have a1:=eF 1 (by kernel_rfl);have a7:=eF 7 (by kernel_rfl)
 simp only[go_sem, ↓reduceIte,Nat.reduceEqDiff,Nat.reduceAdd,Nat.reduceSub,Nat.reduceLeDiff,reduceCtorEq]at a0 a1 a7
 clear eF
 by_cases hk:(k:Int)<(xs.length:Int)
 ·have eh:∀{e:Env},(e 8=.int .i64 (IntKind.i64.wrap ((k:Int)+1)))->(∀h:k<xs.length,p xs[k]=false)->∃m0,m0<(xs.length)-k/\∃k:Nat,m0=(xs.length)-k/\k<=(xs.length)/\e 8=.int .i64 (k:Int)/\(∀j:Nat,j<k->∀h:j<xs.length,p xs[j]=false):=fun x1 x2=>⟨_,ae,k+1,rfl,ae,(by rw[x1,bf ae]),(all_succ nJ x2)⟩
  have jg:k<xs.length:=ae
  have hg:(xs.map e)[k]? =some (e xs[k]):=by simp[jg]
  have Fc:=hf _ (List.getElem_mem jg)
  have hz:=hE.len xs[k]
  have hv:=hE.val xs[k]
  have rV:eI (eD st_a.get) 6 (v xs[k]::dG)=some (v xs[k]::dG):=by
   have h1:=hE.fz xs[k] (eD st_a.get)
   rw[aq,ar]at h1
   rw[aq,MT]
   revert h1
   cases V.fz (eD st_a.get) 6 (v xs[k])<;>simp
  have fin:∀hN:True,(p xs[k]=true->xs.findIdx p=k):=fun _ hp=>by
   rw[List.findIdx_eq jg];exact⟨hp,fun j hj=>nJ j hj ae⟩
  cases hp:p xs[k]
  ·have Xv:=hp
   cases a
   ·rw[if_neg (by simp)]at hv
    have DY:z=1:=by rw[<-hz,hv];rfl
    subst DY
    rw[hv]at hg hz
    rw[hp]at Fc
    generalize v xs[k]=c at Fc rV hg hz
    (try((repeat(revert N;apply Pn.out));refine wk (tw @a8 (tw @a0 (tw @a1 (tw @a7 (tw @hk (tw @hg (tw @hz (tw @xK @Cv)))))))) ?_;(repeat(apply Pn.mk;intro N hN))))
    refine .inl ⟨_,aw.x Fc rV,?_⟩
    apply hN
    clear hN N
    (try((repeat(revert N;apply Pn.out));refine wk (tw @a8 (tw @a0 (tw @a1 @a7))) ?_;(repeat(apply Pn.mk;intro N hN))))
    exact eh (sd (tw @a8 (tw @a0 (tw @a1 @a7)))) (fun _=>Xv)
   ·rw[if_pos rfl]at hv
    have ht:(e xs[k]).take z=e xs[k]:=by rw[<-hz,List.take_length]
    rw[hv]at Fc rV
    rw[hp]at Fc
    generalize e xs[k]=c at Fc rV hg hz ht
    (try((repeat(revert N;apply Pn.out));refine wk (tw @a8 (tw @a0 (tw @a1 (tw @a7 (tw @hk (tw @hg (tw @hz (tw @ht (tw @xK (tw @Cv @Nat.le_refl)))))))))) ?_;(repeat(apply Pn.mk;intro N hN))))
    refine .inl ⟨_,aw.x Fc rV,?_⟩
    apply hN
    clear hN N
    (try((repeat(revert N;apply Pn.out));refine wk (tw @a8 (tw @a0 (tw @a1 @a7))) ?_;(repeat(apply Pn.mk;intro N hN))))
    exact eh (sd (tw @a8 (tw @a0 (tw @a1 @a7)))) (fun _=>Xv)
  ·have hi:=fin trivial hp
   cases a
   ·rw[if_neg (by simp)]at hv
    have DY:z=1:=by rw[<-hz,hv];rfl
    subst DY
    rw[hv]at hg hz
    rw[hp]at Fc
    generalize v xs[k]=c at Fc rV hg hz
    (try((repeat(revert N;apply Pn.out));refine wk (tw @a8 (tw @a0 (tw @a1 (tw @a7 (tw @hk (tw @hg (tw @hz (tw @xK @Cv)))))))) ?_;(repeat(apply Pn.mk;intro N hN))))
    refine .inl ⟨_,aw.x Fc rV,?_⟩
    apply hN
    clear hN N
    (try((repeat(revert N;apply Pn.out));refine wk (tw @a8 (tw @a0 (tw @a1 @a7))) ?_;(repeat(apply Pn.mk;intro N hN))))
    exact eC (b:=(k:Int)) (.inl rfl) (sd @Nat.zero_add) (by rw[lQ,hi,if_pos jg])
   ·rw[if_pos rfl]at hv
    have ht:(e xs[k]).take z=e xs[k]:=by rw[<-hz,List.take_length]
    rw[hv]at Fc rV
    rw[hp]at Fc
    generalize e xs[k]=c at Fc rV hg hz ht
    (try((repeat(revert N;apply Pn.out));refine wk (tw @a8 (tw @a0 (tw @a1 (tw @a7 (tw @hk (tw @hg (tw @hz (tw @ht (tw @xK (tw @Cv @Nat.le_refl)))))))))) ?_;(repeat(apply Pn.mk;intro N hN))))
    refine .inl ⟨_,aw.x Fc rV,?_⟩
    apply hN
    clear hN N
    (try((repeat(revert N;apply Pn.out));refine wk (tw @a8 (tw @a0 (tw @a1 @a7))) ?_;(repeat(apply Pn.mk;intro N hN))))
    exact eC (b:=(k:Int)) (.inl rfl) (sd @Nat.zero_add) (by rw[lQ,hi,if_pos jg])
 ·(try((repeat(revert N;apply Pn.out));refine wk (tw @a8 (tw @a0 (tw @a1 (tw @a7 @hk)))) ?_;(repeat(apply Pn.mk;intro N hN))))
  have hi:¬xs.findIdx p<xs.length:=by
   rw[List.findIdx_lt_length]
   rintro⟨x,hx,M6⟩
   obtain⟨j,hj,rfl⟩:=List.getElem_of_mem hx
   rw[nJ j ae hj]at M6;cases M6
  exact eC (b:=-1) (.inl rfl) (sd @Nat.zero_add) (by rw[lQ,if_neg hi])
theorem kh {α:Type} {e:α->List AV} {v:α->AV} {z fk gk:Nat} {a:Bool} (hE:Wd e v z a) (hc:CC P fk=some (yX fk gk)) (Hr:CC P gk=some (th gk z a)) (xs:List α) (hlen:xs.length<=1048576) (f:Nat) (dG:List AV) (p:α->Bool) (yY:dG.all AV.cell=true) (PY:∀g,eI g 5 dG=some dG)
  (hf:∀x∈xs,aw P f (v x::dG) (.bool (p x))) (MT:∀g,eI g 6 dG=some dG):
  aw P fk [.sl (xs.map e),.fn f dG] (.bool (xs.any p)):=by
 refine aw.body hc rfl fun hl n0=>?_
 try simp only[q]
 clear hl
 have hi:=xd hE Hr xs hlen f dG p hf MT
 (repeat(first|((repeat(revert N;apply Pn.out));refine wk (tw @yY @PY) ?_;(repeat(apply Pn.mk;intro N hN)))|((try apply Or.inl);refine⟨_,aw.x (hi) (sd (tw @yY @PY)),?_⟩;apply hN;clear hN N)))
 exact da (b:=decide (0<=lQ p xs)) (.inl rfl) (sd @Nat.zero_add) (Mv p xs)
end
def re (P:Program) (mk:Bool):List Oper->Nat->List Nat
 |[],_=>[]
 |o::r,i=>match tK P o.op with
  |some v=>if tn v||mk&&v.nz then i::re P mk r (i+1)else re P mk r (i+1)
  |none=>re P mk r (i+1)
def yw (P:Program) (ops:Array Oper) (site0:Nat) (mk:Bool) (bs:Array Nat) (hidden:List Nat):List Oper->Nat->Option (List bD)
 |[],_=>some []
 |o::r,j=>do
  let v <-tK P o.op
  let g <-G3 ops o
  pure ({dst:=o.dst,op:=v,guard:=g,site:=site0+j,hid:=(hidden.filter fun i=> !(bs.getD j 0).testBit i&&(i !=j||mk&&v.nz)).map fun i=>site0+i}::(<-yw P ops site0 mk bs hidden r (j+1)))
def qd (P:Program) (md:List (Nat×Nat)) (fid:Nat):Code->Option VC
 | .skip=>some .skip
 | .region id ops draw=>if draw&&wj md id==2 then(yw P ops ((fid*1000+id)*1000) false (j5 ops) (re P false ops.toList 0) ops.toList 0).bind fun vl=>xn ops vl (j5 ops) ops.size (Array.replicate ops.size false)else if draw then(yw P ops ((fid*1000+id)*1000) (wj md id==1) (j5 ops) (re P (wj md id==1) ops.toList 0) ops.toList 0).map (VC.fV true)else(yw P ops ((fid*1000+id)*1000) false #[] [] ops.toList 0).map (if ops.toList.any fun o=>RY o.op then VC.SN else VC.fV false)
 | .seq a b=>do pure (.seq (<-qd P md fid a) (<-qd P md fid b))
 | .cond c x y=>do pure (.cond (<-cO P c) (<-qd P md fid x) (<-qd P md fid y))
 | .block id c=>(qd P md fid c).map (VC.block id)
 | .loop c=>(qd P md fid c).map VC.loop
 | .exit id=>some (.exit id)
 | .ret=>some .ret
 | .label _=>some .skip
 | .scope c=>qd P md fid c
 |_=>none
def Wp (P:Program) (md:List (Nat×Nat)) (f:Nat):Option Iz:=
 match P.funcs[f]? with
 |some fn=>match fn.body with
  |some c=>do
   let b <-qd P md f c
   let r <-fn.results.toList.mapM (G4 P)
   pure {ntmps:=fn.ntmps,BS:=fn.params.size+fn.nfree,body:=b,res:=r}
  |none=>none
 |none=>none
theorem cfM {P:Program} (md:List (Nat×Nat)) {f:Nat} {v:Iz} (_:Wp P md f=some v:=by(conv=>lhs;cbv)<;>exact rfl) (h:xu P f md=some v:=by kernel_rfl):xu P f md=some v:=h
theorem fx {P:Program} {f:Nat} {v:Iz} (_:Wp P [] f=some v:=by(conv=>lhs;cbv)<;>exact rfl) (h:CC P f=some v:=by kernel_rfl):CC P f=some v:=h
def zz0:VC:=(.one (q 48 (.call 255 [(.t 47)]) 215010011) (.one (q 9 (.eW (.t 42)) 215010012) (.one (q 10 (.eW (.t 48)) 215010013) (.fV false []))))
def zz1:VC:=(.one (q 47 (.load false 1 (.t 46)) 215010010) zz0)
def zz2:VC:=(.one (q 46 (.kR 1 (.t 43) (.t 45)) 215010009) zz1)
def UH:Iz:=⟨118,2,(.seq (.fV false [q 4 (.eW (.k .bj)) 215000000]) (.seq (.fV false [q 17 (.eW (.t 0)) 215001000,q 18 (.rf [.iU] (.t 17) (.t 17)) 215001001,q 5 (.eW (.t 18)) 215001002]) (.seq (.seq (.fV false [q 19 (.eW (.t 5)) 215002000,q 20 (.len (.t 19)) 215002001,q 21 (.eW (.k (.int .i64 0))) 215002002]) (.block 0 (.loop (.seq (.fV false [q 22 (.bin .lss .i64 (.t 21) (.t 20)) 215003000]) (.seq (.cond (.t 22) .skip (.exit 0)) (.seq (.block 1 (.seq (.fV false [q 23 (.eW (.t 21)) 215004000,q 6 (.eW (.t 23)) 215004001]) (.fV false [q 24 (.eW (.t 5)) 215005000,q 25 (.eW (.t 6)) 215005001,q 26 (.eW (.t 6)) 215005002,q 27 (.build [.iU,(.int .i64 0)] [(1,(1,(.t 26)))]) 215005003,q 28 (.box (.t 27)) 215005004,q 29 (.kR 1 (.t 24) (.t 25)) 215005005,⟨none,(.store 1 (.t 29) (.t 28)),none,215005006,[]⟩]))) (.fV false [q 30 (.bin .add .i64 (.t 21) (.k (.int .i64 1))) 215006000,q 21 (.eW (.t 30)) 215006001]))))))) (.seq (.seq (.fV false [q 31 (.eW (.t 1)) 215007000,q 32 (.len (.t 31)) 215007001,q 33 (.eW (.k (.int .i64 0))) 215007002]) (.block 2 (.loop (.seq (.fV false [q 34 (.bin .lss .i64 (.t 33) (.t 32)) 215008000]) (.seq (.cond (.t 34) .skip (.exit 2)) (.seq (.block 3 (.seq (.fV false [q 35 (.kR 3 (.t 31) (.t 33)) 215009000,q 36 (.load true 3 (.t 35)) 215009001,q 8 (.new [(.int .i64 0),(.int .i64 0),(.int .i64 0)]) 215009002,⟨none,(.store 3 (.t 8) (.t 36)),none,215009003,[]⟩]) (.seq (.one (q 37 (.eW (.t 5)) 215010000) (.one (q 38 (.fa 0 (.t 8)) 215010001) (.one (q 39 (.load false 1 (.t 38)) 215010002) (.one (q 40 (.kR 1 (.t 37) (.t 39)) 215010003) (.one (q 41 (.load false 1 (.t 40)) 215010004) (.one (q 43 (.eW (.t 5)) 215010006) (.one (q 44 (.fa 1 (.t 8)) 215010007) (.both (.one (q 42 (.call 255 [(.t 41)]) 215010005) (.one (q 45 (.load false 1 (.t 44)) 215010008) zz2)) (.one (q 45 (.load false 1 (.t 44)) 215010008) (.both (.one (q 42 (.call 255 [(.t 41)]) 215010005) zz2) (.one (q 46 (.kR 1 (.t 43) (.t 45)) 215010009) (.both (.one (q 42 (.call 255 [(.t 41)]) 215010005) zz1) (.one (q 47 (.load false 1 (.t 46)) 215010010) (.one (q 42 (.call 255 [(.t 41)]) 215010005) zz0)))))))))))))) (.block 4 (.seq (.fV true [q 50 (.eW (.t 9)) 215011000,q 51 (.LA (.t 50)) 215011001,q 52 (.fa 1 (.t 51)) 215011002,q 53 (.load false 1 (.t 52)) 215011003,q 54 (.eW (.t 10)) 215011004,q 55 (.LA (.t 54)) 215011005,q 56 (.fa 1 (.t 55)) 215011006,q 57 (.load false 1 (.t 56)) 215011007,q 58 (.bin .lss .i64 (.t 53) (.t 57)) 215011008,q 49 (.eW (.t 58)) 215011009]) (.cond (.t 49) (.fV false [q 59 (.eW (.t 10)) 215012000,q 60 (.eW (.t 9)) 215012001,q 61 (.LA (.t 59)) 215012002,q 62 (.fa 0 (.t 61)) 215012003,⟨none,(.store 1 (.t 62) (.t 60)),none,215012004,[]⟩]) (.seq (.fV true [q 64 (.eW (.t 10)) 215013000,q 65 (.LA (.t 64)) 215013001,q 66 (.fa 1 (.t 65)) 215013002,q 67 (.load false 1 (.t 66)) 215013003,q 68 (.eW (.t 9)) 215013004,q 69 (.LA (.t 68)) 215013005,q 70 (.fa 1 (.t 69)) 215013006,q 71 (.load false 1 (.t 70)) 215013007,q 72 (.bin .lss .i64 (.t 67) (.t 71)) 215013008,q 63 (.eW (.t 72)) 215013009]) (.cond (.t 63) (.fV false [q 73 (.eW (.t 9)) 215014000,q 74 (.eW (.t 10)) 215014001,q 75 (.LA (.t 73)) 215014002,q 76 (.fa 0 (.t 75)) 215014003,⟨none,(.store 1 (.t 76) (.t 74)),none,215014004,[]⟩]) .skip)))))))) (.fV false [q 77 (.bin .add .i64 (.t 33) (.k (.int .i64 1))) 215015000,q 33 (.eW (.t 77)) 215015001]))))))) (.seq (.fV false [q 11 (.eW (.k .bj)) 215016000]) (.seq (.fV false [⟨(some 78),(.mq (.new ⟨false,[.tI]⟩) []),none,215017000,[]⟩,q 12 (.eW (.t 78)) 215017001]) (.seq (.seq (.fV false [q 79 (.eW (.t 5)) 215018000,q 80 (.len (.t 79)) 215018001,q 81 (.eW (.k (.int .i64 0))) 215018002]) (.block 5 (.loop (.seq (.fV false [q 82 (.bin .lss .i64 (.t 81) (.t 80)) 215019000]) (.seq (.cond (.t 82) .skip (.exit 5)) (.seq (.block 6 (.seq (.fV false [q 83 (.eW (.t 81)) 215020000,q 84 (.kR 1 (.t 79) (.t 81)) 215020001,q 85 (.load false 1 (.t 84)) 215020002,q 13 (.eW (.t 83)) 215020003,q 14 (.eW (.t 85)) 215020004]) (.seq (.fV false [q 87 (.eW (.t 12)) 215021000,q 88 (.eW (.t 14)) 215021001,q 89 (.call 255 [(.t 88)]) 215021002,q 90 (.LA (.t 89)) 215021003,q 91 (.fa 1 (.t 90)) 215021004,q 92 (.load false 1 (.t 91)) 215021005,⟨(some 93),(.mq (.look ⟨false,[.tI]⟩ true (.int .i64 0)) [(.t 87),(.t 92)]),none,215021006,[]⟩,q 86 (.eW (.t 93)) 215021007,q 94 (.extract 0 (.t 86)) 215021008,q 95 (.extract 1 (.t 86)) 215021009,q 15 (.eW (.t 94)) 215021010,q 16 (.eW (.t 95)) 215021011]) (.seq (.seq (.fV false [q 96 (.eW (.t 16)) 215022000,q 97 (.not (.t 96)) 215022001]) (.cond (.t 97) (.seq (.fV false [q 98 (.eW (.t 11)) 215023000,q 99 (.len (.t 98)) 215023001,q 15 (.eW (.t 99)) 215023002]) (.seq (.fV false [q 100 (.eW (.t 12)) 215024000,q 101 (.eW (.t 13)) 215024001,q 102 (.eW (.t 15)) 215024002,⟨none,(.mw (.set ⟨false,[.tI]⟩) [(.t 100),(.t 101),(.t 102)]),none,215024003,[]⟩]) (.fV false [q 103 (.eW (.t 11)) 215025000,q 104 (.fW 1 1 [(.k .bj)]) 215025001,q 105 (.append 1 (.t 103) (.t 104)) 215025002,q 11 (.eW (.t 105)) 215025003]))) .skip)) (.fV false [q 106 (.eW (.t 11)) 215026000,q 107 (.eW (.t 15)) 215026001,q 108 (.eW (.t 11)) 215026002,q 109 (.eW (.t 15)) 215026003,q 110 (.kR 1 (.t 108) (.t 109)) 215026004,q 111 (.load false 1 (.t 110)) 215026005,q 112 (.eW (.t 13)) 215026006,q 113 (.fW 1 1 [(.t 112)]) 215026007,q 114 (.append 1 (.t 111) (.t 113)) 215026008,q 115 (.kR 1 (.t 106) (.t 107)) 215026009,⟨none,(.store 1 (.t 115) (.t 114)),none,215026010,[]⟩]))))) (.fV false [q 116 (.bin .add .i64 (.t 81) (.k (.int .i64 1))) 215027000,q 81 (.eW (.t 116)) 215027001]))))))) (.seq (.fV false [q 117 (.eW (.t 11)) 215028000,q 4 (.eW (.t 117)) 215028001]) .ret)))))))),[(.tmp 4)]⟩
theorem SM:xu Tryz.prog 215 [(10,2)]=some UH:=by kernel_rfl
def Ph:List Nat:=[190006009,190006010,190006012]
def Zu:bD:=⟨(some 21),(.load false 1 (.t 20)),none,190006001,Ph⟩
def zz5:bD:=⟨(some 23),(.call 60 [(.t 22)]),none,190006003,Ph⟩
def zz6:bD:=⟨(some 24),(.yG .add (.k (.str [103])) (.t 23)),none,190006004,Ph⟩
def zz7:bD:=⟨(some 26),(.call 52 [(.t 25),(.k (.int .i64 2))]),none,190006006,Ph⟩
def zz8:VC:=(.one ⟨(some 27),(.bin .add .i64 (.k (.int .i64 1)) (.t 26)),none,190006007,Ph⟩ (.one ⟨(some 28),(.build [(.str []),(.int .i64 0)] [(0,(1,(.t 24))),(1,(1,(.t 27)))]),none,190006008,Ph⟩ (.one ⟨(some 29),(.fW 2 1 [(.t 28)]),none,190006009,[190006010,190006012]⟩ (.one ⟨(some 30),(.append 2 (.t 21) (.t 29)),none,190006010,[190006012]⟩ (.one ⟨(some 31),(.fa 0 (.t 5)),none,190006011,[190006012]⟩ (.one ⟨none,(.store 1 (.t 31) (.t 30)),none,190006012,[]⟩ (.fV false [])))))))
def zz9:VC:=(.one zz7 zz8)
def Im:List Nat:=[190016006,190016007,190016009]
def U5:bD:=⟨(some 53),(.load false 1 (.t 52)),none,190016001,Im⟩
def U6:bD:=⟨(some 56),(.call 52 [(.t 54),(.t 55)]),none,190016004,Im⟩
def U7:VC:=(.one ⟨(some 57),(.bin .add .i64 (.k (.int .i64 1)) (.t 56)),none,190016005,Im⟩ (.one ⟨(some 58),(.fW 1 1 [(.t 57)]),none,190016006,[190016007,190016009]⟩ (.one ⟨(some 59),(.append 1 (.t 53) (.t 58)),none,190016007,[190016009]⟩ (.one ⟨(some 60),(.fa 1 (.t 9)),none,190016008,[190016009]⟩ (.one ⟨none,(.store 1 (.t 60) (.t 59)),none,190016009,[]⟩ (.fV false []))))))
def UG:Iz:=⟨68,2,(.seq (.fV false [q 4 (.new [.bj,.bj]) 190000000]) (.seq (.fV false [q 11 (.build [.bj,.bj] []) 190001000,q 5 (.new [.bj,.bj]) 190001001,⟨none,(.store 2 (.t 5) (.t 11)),none,190001002,[]⟩]) (.seq (.fV false [q 12 (.eW (.t 0)) 190002000,q 13 (.call 52 [(.t 12),(.k (.int .i64 5))]) 190002001,q 14 (.bin .add .i64 (.k (.int .i64 1)) (.t 13)) 190002002,q 6 (.eW (.t 14)) 190002003]) (.seq (.seq (.fV false [q 7 (.eW (.k (.int .i64 0))) 190003000]) (.block 0 (.loop (.seq (.seq (.fV false [q 15 (.eW (.t 7)) 190004000,q 16 (.eW (.t 6)) 190004001,q 17 (.bin .lss .i64 (.t 15) (.t 16)) 190004002]) (.cond (.t 17) .skip (.exit 0))) (.seq (.block 1 (.one ⟨(some 20),(.fa 0 (.t 5)),none,190006000,Ph⟩ (.one ⟨(some 22),(.eW (.t 7)),none,190006002,Ph⟩ (.one ⟨(some 25),(.eW (.t 0)),none,190006005,Ph⟩ (.both (.one Zu (.one zz5 (.one zz6 zz9))) (.one zz5 (.one zz6 (.both (.one Zu zz9) (.one zz7 (.one Zu zz8)))))))))) (.fV false [q 18 (.eW (.t 7)) 190005000,q 19 (.bin .add .i64 (.t 18) (.k (.int .i64 1))) 190005001,q 7 (.eW (.t 19)) 190005002])))))) (.seq (.seq (.fV false [q 8 (.eW (.k (.int .i64 0))) 190007000]) (.block 2 (.loop (.seq (.seq (.fV false [q 32 (.eW (.t 8)) 190008000,q 33 (.eW (.t 1)) 190008001,q 34 (.bin .lss .i64 (.t 32) (.t 33)) 190008002]) (.cond (.t 34) .skip (.exit 2))) (.seq (.block 3 (.seq (.fV false [q 37 (.eW (.t 8)) 190010000,q 38 (.call 60 [(.t 37)]) 190010001,q 39 (.yG .add (.k (.str [116])) (.t 38)) 190010002,q 40 (.build [(.str []),.bj] [(0,(1,(.t 39)))]) 190010003,q 9 (.new [(.str []),.bj]) 190010004,⟨none,(.store 2 (.t 9) (.t 40)),none,190010005,[]⟩]) (.seq (.seq (.fV false [q 10 (.eW (.k (.int .i64 0))) 190011000]) (.block 4 (.loop (.seq (.seq (.fV false [q 41 (.eW (.t 10)) 190012000,q 42 (.bin .lss .i64 (.t 41) (.k (.int .i64 4))) 190012001]) (.cond (.t 42) .skip (.exit 4))) (.seq (.block 5 (.seq (.fV false [q 45 (.eW (.t 0)) 190014000,q 46 (.call 135 [(.t 45),(.k (.int .i64 3))]) 190014001]) (.cond (.t 46) (.fV false [q 47 (.fa 1 (.t 9)) 190015000,q 48 (.load false 1 (.t 47)) 190015001,q 49 (.fW 1 1 [(.k (.int .i64 0))]) 190015002,q 50 (.append 1 (.t 48) (.t 49)) 190015003,q 51 (.fa 1 (.t 9)) 190015004,⟨none,(.store 1 (.t 51) (.t 50)),none,190015005,[]⟩]) (.one ⟨(some 52),(.fa 1 (.t 9)),none,190016000,Im⟩ (.one ⟨(some 54),(.eW (.t 0)),none,190016002,Im⟩ (.one ⟨(some 55),(.eW (.t 6)),none,190016003,Im⟩ (.both (.one U5 (.one U6 U7)) (.one U6 (.one U5 U7))))))))) (.fV false [q 43 (.eW (.t 10)) 190013000,q 44 (.bin .add .i64 (.t 43) (.k (.int .i64 1))) 190013001,q 10 (.eW (.t 44)) 190013002])))))) (.fV false [q 61 (.fa 1 (.t 5)) 190017000,q 62 (.load false 1 (.t 61)) 190017001,q 63 (.load true 2 (.t 9)) 190017002,q 64 (.fW 2 1 [(.t 63)]) 190017003,q 65 (.append 2 (.t 62) (.t 64)) 190017004,q 66 (.fa 1 (.t 5)) 190017005,⟨none,(.store 1 (.t 66) (.t 65)),none,190017006,[]⟩])))) (.fV false [q 35 (.eW (.t 8)) 190009000,q 36 (.bin .add .i64 (.t 35) (.k (.int .i64 1))) 190009001,q 8 (.eW (.t 36)) 190009002])))))) (.seq (.fV false [q 67 (.load true 2 (.t 5)) 190018000,⟨none,(.store 2 (.t 4) (.t 67)),none,190018001,[]⟩]) .ret)))))),[(.cell true 2 4)]⟩
theorem SL:xu Tryz.prog 190 [(6,2),(16,2)]=some UG:=by kernel_rfl
def Lt:bD:=⟨(some 9),(.load true 2 (.t 3)),none,132002000,[132002007,132002013]⟩
def U8:bD:=⟨(some 14),(.call 52 [(.t 10),(.t 13)]),none,132002005,[132002007,132002013]⟩
def U9:bD:=⟨(some 15),(.build [(.int .i64 0),(.int .i64 0),(.int .i64 0)] [(2,(1,(.t 14)))]),none,132002006,[132002007,132002013]⟩
def Rc:bD:=⟨(some 16),(.fW 3 1 [(.t 15)]),none,132002007,[132002013]⟩
def Re:bD:=⟨(some 17),(.build [.bj] [(0,(1,(.t 16)))]),none,132002008,[132002013]⟩
def OG:bD:=⟨(some 19),(.call 52 [(.t 18),(.k (.int .i64 2))]),none,132002010,[132002007,132002013]⟩
def Rf:VC:=(.one ⟨(some 20),(.bin .add .i64 (.k (.int .i64 2)) (.t 19)),none,132002011,[132002007,132002013]⟩ (.one ⟨(some 21),(.build [.bj,.bj,.bj,(.int .i64 0)] [(0,(2,(.t 9))),(2,(1,(.t 17))),(3,(1,(.t 20)))]),none,132002012,[132002013]⟩ (.one ⟨none,(.store 4 (.t 2) (.t 21)),none,132002013,[]⟩ (.fV false []))))
def Va:VC:=(.one OG Rf)
def Vb:VC:=(.one Rc (.one Re Rf))
def Vc:VC:=(.both (.one Rc (.one Re Va)) (.one OG Vb))
def UE:Iz:=⟨22,1,(.seq (.fV false [q 2 (.new [.bj,.bj,.bj,(.int .i64 0)]) 132000000]) (.seq (.fV false [q 4 (.eW (.t 0)) 132001000,q 5 (.eW (.t 0)) 132001001,q 6 (.call 52 [(.t 5),(.k (.int .i64 4))]) 132001002,q 7 (.bin .add .i64 (.k (.int .i64 2)) (.t 6)) 132001003,q 8 (.call 190 [(.t 4),(.t 7)]) 132001004,q 3 (.new [.bj,.bj]) 132001005,⟨none,(.store 2 (.t 3) (.t 8)),none,132001006,[]⟩]) (.seq (.one ⟨(some 10),(.eW (.t 0)),none,132002001,[132002007,132002013]⟩ (.one ⟨(some 11),(.fa 1 (.t 3)),none,132002002,[132002007,132002013]⟩ (.one ⟨(some 12),(.load false 1 (.t 11)),none,132002003,[132002007,132002013]⟩ (.one ⟨(some 13),(.len (.t 12)),none,132002004,[132002007,132002013]⟩ (.one ⟨(some 18),(.eW (.t 0)),none,132002009,[132002007,132002013]⟩ (.both (.one Lt (.one U8 (.one U9 Vc))) (.one U8 (.one U9 (.both (.one Lt Vc) (.both (.one Rc (.one Re (.both (.one Lt Va) (.one OG (.one Lt Rf))))) (.one OG (.one Lt Vb)))))))))))) .ret))),[(.cell true 4 2)]⟩
theorem SJ:xu Tryz.prog 132 [(2,2)]=some UE:=by kernel_rfl
def Io:List Nat:=[134011006,134011007,134011009]
def xH:List Nat:=[134013011,134013013,134013014,134013016]
def Ip:bD:=⟨(some 53),(.load false 1 (.t 52)),none,134013001,xH⟩
def OH:bD:=⟨(some 55),(.call 60 [(.t 54)]),none,134013003,xH⟩
def OI:bD:=⟨(some 56),(.yG .add (.k (.str [101])) (.t 55)),none,134013004,xH⟩
def OJ:bD:=⟨(some 58),(.call 52 [(.t 57),(.k (.int .i64 2))]),none,134013006,xH⟩
def Vd:bD:=⟨(some 59),(.bin .add .i64 (.k (.int .i64 1)) (.t 58)),none,134013007,xH⟩
def Lu:bD:=⟨(some 61),(.load false 1 (.t 60)),none,134013009,xH⟩
def Lv:bD:=⟨(some 62),(.len (.t 61)),none,134013010,xH⟩
def Ve:List Nat:=[134013013,134013014,134013016]
def Vf:VC:=(.one ⟨(some 63),(.fW 1 4 [(.t 59),(.k (.int .i64 0)),(.k (.int .i64 0)),(.t 62)]),none,134013011,Ve⟩ (.one ⟨(some 64),(.build [(.str []),.bj] [(0,(1,(.t 56))),(1,(1,(.t 63)))]),none,134013012,Ve⟩ (.one ⟨(some 65),(.fW 2 1 [(.t 64)]),none,134013013,[134013014,134013016]⟩ (.one ⟨(some 66),(.append 2 (.t 53) (.t 65)),none,134013014,[134013016]⟩ (.one ⟨(some 67),(.fa 1 (.t 5)),none,134013015,[134013016]⟩ (.one ⟨none,(.store 1 (.t 67) (.t 66)),none,134013016,[]⟩ (.fV false [])))))))
def Vg:VC:=(.one Vd (.one Lu (.one Lv Vf)))
def Vh:VC:=(.one Vd Vf)
def Rg:VC:=(.one OJ Vh)
def Vi:VC:=(.both (.one OJ Vg) (.one Lu (.one Lv Rg)))
def Vj:VC:=(.one OH (.one OI Rg))
def Vk:VC:=(.both (.one Ip Rg) (.one OJ (.one Ip Vh)))
def Iq:List Nat:=[134019006,134019007,134019009]
def xI:List Nat:=[134021011,134021013,134021014,134021016]
def Ir:bD:=⟨(some 97),(.load false 1 (.t 96)),none,134021001,xI⟩
def OK:bD:=⟨(some 99),(.call 60 [(.t 98)]),none,134021003,xI⟩
def OL:bD:=⟨(some 100),(.yG .add (.k (.str [110])) (.t 99)),none,134021004,xI⟩
def OM:bD:=⟨(some 102),(.call 52 [(.t 101),(.k (.int .i64 2))]),none,134021006,xI⟩
def Vl:bD:=⟨(some 103),(.bin .add .i64 (.k (.int .i64 1)) (.t 102)),none,134021007,xI⟩
def Lw:bD:=⟨(some 105),(.load false 1 (.t 104)),none,134021009,xI⟩
def Lx:bD:=⟨(some 106),(.len (.t 105)),none,134021010,xI⟩
def Vm:List Nat:=[134021013,134021014,134021016]
def Vn:VC:=(.one ⟨(some 107),(.fW 1 4 [(.k (.int .i64 0)),(.t 103),(.t 106),(.k (.int .i64 0))]),none,134021011,Vm⟩ (.one ⟨(some 108),(.build [(.str []),.bj] [(0,(1,(.t 100))),(1,(1,(.t 107)))]),none,134021012,Vm⟩ (.one ⟨(some 109),(.fW 2 1 [(.t 108)]),none,134021013,[134021014,134021016]⟩ (.one ⟨(some 110),(.append 2 (.t 97) (.t 109)),none,134021014,[134021016]⟩ (.one ⟨(some 111),(.fa 1 (.t 5)),none,134021015,[134021016]⟩ (.one ⟨none,(.store 1 (.t 111) (.t 110)),none,134021016,[]⟩ (.fV false [])))))))
def Vo:VC:=(.one Vl (.one Lw (.one Lx Vn)))
def Vp:VC:=(.one Vl Vn)
def Rh:VC:=(.one OM Vp)
def Vq:VC:=(.both (.one OM Vo) (.one Lw (.one Lx Rh)))
def Vr:VC:=(.one OK (.one OL Rh))
def Vs:VC:=(.both (.one Ir Rh) (.one OM (.one Ir Vp)))
def sa:List Nat:=[134027015,134027017,134027018,134027020]
def Ri:bD:=⟨(some 124),(.load false 1 (.t 123)),none,134027001,sa⟩
def Vt:bD:=⟨(some 126),(.call 60 [(.t 125)]),none,134027003,sa⟩
def Vu:bD:=⟨(some 127),(.yG .add (.k (.str [114])) (.t 126)),none,134027004,sa⟩
def Vv:bD:=⟨(some 130),(.call 52 [(.t 129),(.k (.int .i64 2))]),none,134027007,sa⟩
def Vw:List Nat:=[134027017,134027018,134027020]
def Vx:VC:=(.one ⟨(some 131),(.bin .add .i64 (.k (.int .i64 1)) (.t 130)),none,134027008,sa⟩ (.one ⟨(some 138),(.fW 1 4 [(.t 128),(.t 131),(.t 134),(.t 137)]),none,134027015,Vw⟩ (.one ⟨(some 139),(.build [(.str []),.bj] [(0,(1,(.t 127))),(1,(1,(.t 138)))]),none,134027016,Vw⟩ (.one ⟨(some 140),(.fW 2 1 [(.t 139)]),none,134027017,[134027018,134027020]⟩ (.one ⟨(some 141),(.append 2 (.t 124) (.t 140)),none,134027018,[134027020]⟩ (.one ⟨(some 142),(.fa 1 (.t 5)),none,134027019,[134027020]⟩ (.one ⟨none,(.store 1 (.t 142) (.t 141)),none,134027020,[]⟩ (.fV false []))))))))
def Vy:VC:=(.one Vv Vx)
def DP:List Nat:=[134029008,134029010,134029011,134029013]
def Rj:bD:=⟨(some 146),(.load false 1 (.t 145)),none,134029001,DP⟩
def Vz:bD:=⟨(some 148),(.call 52 [(.t 147),(.k (.int .i64 2))]),none,134029003,DP⟩
def VA:bD:=⟨(some 149),(.bin .add .i64 (.k (.int .i64 1)) (.t 148)),none,134029004,DP⟩
def VB:bD:=⟨(some 151),(.call 52 [(.t 150),(.k (.int .i64 2))]),none,134029006,DP⟩
def VD:List Nat:=[134029010,134029011,134029013]
def VE:VC:=(.one ⟨(some 152),(.bin .add .i64 (.k (.int .i64 1)) (.t 151)),none,134029007,DP⟩ (.one ⟨(some 153),(.fW 1 4 [(.k (.int .i64 1)),(.k (.int .i64 2)),(.t 149),(.t 152)]),none,134029008,VD⟩ (.one ⟨(some 154),(.build [(.str []),.bj] [(0,(1,(.k (.str [114,52])))),(1,(1,(.t 153)))]),none,134029009,VD⟩ (.one ⟨(some 155),(.fW 2 1 [(.t 154)]),none,134029010,[134029011,134029013]⟩ (.one ⟨(some 156),(.append 2 (.t 146) (.t 155)),none,134029011,[134029013]⟩ (.one ⟨(some 157),(.fa 1 (.t 5)),none,134029012,[134029013]⟩ (.one ⟨none,(.store 1 (.t 157) (.t 156)),none,134029013,[]⟩ (.fV false []))))))))
def VF:VC:=(.one VB VE)
def UF:Iz:=⟨163,1,(.seq (.fV false [q 2 (.new [.bj,.bj,.bj,(.int .i64 0)]) 134000000]) (.seq (.fV false [q 12 (.eW (.t 0)) 134001000,q 13 (.call 52 [(.t 12),(.k (.int .i64 4))]) 134001001,q 14 (.bin .add .i64 (.k (.int .i64 1)) (.t 13)) 134001002,q 3 (.eW (.t 14)) 134001003]) (.seq (.fV false [q 15 (.eW (.t 0)) 134002000,q 16 (.call 52 [(.t 15),(.k (.int .i64 4))]) 134002001,q 17 (.bin .add .i64 (.k (.int .i64 1)) (.t 16)) 134002002,q 4 (.eW (.t 17)) 134002003]) (.seq (.fV false [q 18 (.build [.bj,.bj] []) 134003000,q 5 (.new [.bj,.bj]) 134003001,⟨none,(.store 2 (.t 5) (.t 18)),none,134003002,[]⟩]) (.seq (.fV false [⟨(some 19),(.build [(.str []),(.int .i64 0)] [(0,(1,(.k (.str [122,101,114,111])))),(1,(1,(.k (.int .i64 1))))]),none,134004000,[]⟩,⟨(some 20),(.build [(.str []),(.int .i64 0)] [(0,(1,(.k (.str [111,110,101])))),(1,(1,(.k (.int .i64 1))))]),none,134004001,[]⟩,q 21 (.fW 2 2 [(.t 19),(.t 20)]) 134004002,q 22 (.fa 0 (.t 5)) 134004003,⟨none,(.store 1 (.t 22) (.t 21)),none,134004004,[]⟩]) (.seq (.fV false [q 23 (.fW 1 4 [(.k (.int .i64 0)),(.k (.int .i64 0)),(.k (.int .i64 0)),(.k (.int .i64 0))]) 134005000,⟨(some 24),(.build [(.str []),.bj] [(0,(1,(.k (.str [115,101,101,100])))),(1,(1,(.t 23)))]),none,134005001,[]⟩,q 6 (.new [(.str []),.bj]) 134005002,⟨none,(.store 2 (.t 6) (.t 24)),none,134005003,[]⟩]) (.seq (.fV false [q 25 (.load true 2 (.t 6)) 134006000,q 26 (.fW 2 1 [(.t 25)]) 134006001,q 27 (.fa 1 (.t 5)) 134006002,⟨none,(.store 1 (.t 27) (.t 26)),none,134006003,[]⟩]) (.seq (.fV false [q 7 (.eW (.k (.int .i64 0))) 134007000]) (.seq (.seq (.fV false [q 8 (.eW (.k (.int .i64 0))) 134008000]) (.block 0 (.loop (.seq (.seq (.fV false [q 28 (.eW (.t 8)) 134009000,q 29 (.eW (.t 3)) 134009001,q 30 (.bin .lss .i64 (.t 28) (.t 29)) 134009002]) (.cond (.t 30) .skip (.exit 0))) (.seq (.block 1 (.seq (.fV true [⟨(some 33),(.fa 0 (.t 5)),none,134011000,Io⟩,⟨(some 34),(.load false 1 (.t 33)),none,134011001,Io⟩,⟨(some 35),(.eW (.t 8)),none,134011002,Io⟩,⟨(some 36),(.call 60 [(.t 35)]),none,134011003,Io⟩,⟨(some 37),(.yG .add (.k (.str [120])) (.t 36)),none,134011004,Io⟩,⟨(some 38),(.build [(.str []),(.int .i64 0)] [(0,(1,(.t 37))),(1,(1,(.k (.int .i64 2))))]),none,134011005,Io⟩,⟨(some 39),(.fW 2 1 [(.t 38)]),none,134011006,[134011007,134011009]⟩,⟨(some 40),(.append 2 (.t 34) (.t 39)),none,134011007,[134011009]⟩,⟨(some 41),(.fa 0 (.t 5)),none,134011008,[134011009]⟩,⟨none,(.store 1 (.t 41) (.t 40)),none,134011009,[]⟩]) (.seq (.fV true [⟨(some 42),(.fa 1 (.t 5)),none,134012000,[134012010]⟩,⟨(some 43),(.load false 1 (.t 42)),none,134012001,[134012010]⟩,⟨(some 44),(.eW (.t 7)),none,134012002,[134012010]⟩,⟨(some 45),(.kR 2 (.t 43) (.t 44)),none,134012003,[134012010]⟩,⟨(some 46),(.fa 1 (.t 45)),none,134012004,[134012010]⟩,⟨(some 47),(.load false 1 (.t 46)),none,134012005,[134012010]⟩,⟨(some 48),(.fa 0 (.t 5)),none,134012006,[134012010]⟩,⟨(some 49),(.load false 1 (.t 48)),none,134012007,[134012010]⟩,⟨(some 50),(.len (.t 49)),none,134012008,[134012010]⟩,⟨(some 51),(.kR 1 (.t 47) (.k (.int .i64 1))),none,134012009,[134012010]⟩,⟨none,(.store 1 (.t 51) (.t 50)),none,134012010,[]⟩]) (.seq (.one ⟨(some 52),(.fa 1 (.t 5)),none,134013000,xH⟩ (.one ⟨(some 54),(.eW (.t 8)),none,134013002,xH⟩ (.one ⟨(some 57),(.eW (.t 0)),none,134013005,xH⟩ (.one ⟨(some 60),(.fa 0 (.t 5)),none,134013008,xH⟩ (.both (.one Ip (.both (.one OH (.one OI Vi)) (.one Lu (.one Lv Vj)))) (.both (.one OH (.one OI (.both (.one Ip Vi) (.both (.one OJ (.one Ip Vg)) (.one Lu (.one Lv Vk)))))) (.one Lu (.one Lv (.both (.one Ip Vj) (.one OH (.one OI Vk))))))))))) (.fV false [q 68 (.fa 1 (.t 5)) 134014000,q 69 (.load false 1 (.t 68)) 134014001,q 70 (.len (.t 69)) 134014002,q 71 (.bin .sub .i64 (.t 70) (.k (.int .i64 1))) 134014003,q 7 (.eW (.t 71)) 134014004]))))) (.fV false [q 31 (.eW (.t 8)) 134010000,q 32 (.bin .add .i64 (.t 31) (.k (.int .i64 1))) 134010001,q 8 (.eW (.t 32)) 134010002])))))) (.seq (.fV false [q 7 (.eW (.k (.int .i64 0))) 134015000]) (.seq (.seq (.fV false [q 9 (.eW (.k (.int .i64 0))) 134016000]) (.block 2 (.loop (.seq (.seq (.fV false [q 72 (.eW (.t 9)) 134017000,q 73 (.eW (.t 4)) 134017001,q 74 (.bin .lss .i64 (.t 72) (.t 73)) 134017002]) (.cond (.t 74) .skip (.exit 2))) (.seq (.block 3 (.seq (.fV true [⟨(some 77),(.fa 0 (.t 5)),none,134019000,Iq⟩,⟨(some 78),(.load false 1 (.t 77)),none,134019001,Iq⟩,⟨(some 79),(.eW (.t 9)),none,134019002,Iq⟩,⟨(some 80),(.call 60 [(.t 79)]),none,134019003,Iq⟩,⟨(some 81),(.yG .add (.k (.str [121])) (.t 80)),none,134019004,Iq⟩,⟨(some 82),(.build [(.str []),(.int .i64 0)] [(0,(1,(.t 81))),(1,(1,(.k (.int .i64 2))))]),none,134019005,Iq⟩,⟨(some 83),(.fW 2 1 [(.t 82)]),none,134019006,[134019007,134019009]⟩,⟨(some 84),(.append 2 (.t 78) (.t 83)),none,134019007,[134019009]⟩,⟨(some 85),(.fa 0 (.t 5)),none,134019008,[134019009]⟩,⟨none,(.store 1 (.t 85) (.t 84)),none,134019009,[]⟩]) (.seq (.fV true [⟨(some 86),(.fa 1 (.t 5)),none,134020000,[134020010]⟩,⟨(some 87),(.load false 1 (.t 86)),none,134020001,[134020010]⟩,⟨(some 88),(.eW (.t 7)),none,134020002,[134020010]⟩,⟨(some 89),(.kR 2 (.t 87) (.t 88)),none,134020003,[134020010]⟩,⟨(some 90),(.fa 1 (.t 89)),none,134020004,[134020010]⟩,⟨(some 91),(.load false 1 (.t 90)),none,134020005,[134020010]⟩,⟨(some 92),(.fa 0 (.t 5)),none,134020006,[134020010]⟩,⟨(some 93),(.load false 1 (.t 92)),none,134020007,[134020010]⟩,⟨(some 94),(.len (.t 93)),none,134020008,[134020010]⟩,⟨(some 95),(.kR 1 (.t 91) (.k (.int .i64 0))),none,134020009,[134020010]⟩,⟨none,(.store 1 (.t 95) (.t 94)),none,134020010,[]⟩]) (.seq (.one ⟨(some 96),(.fa 1 (.t 5)),none,134021000,xI⟩ (.one ⟨(some 98),(.eW (.t 9)),none,134021002,xI⟩ (.one ⟨(some 101),(.eW (.t 0)),none,134021005,xI⟩ (.one ⟨(some 104),(.fa 0 (.t 5)),none,134021008,xI⟩ (.both (.one Ir (.both (.one OK (.one OL Vq)) (.one Lw (.one Lx Vr)))) (.both (.one OK (.one OL (.both (.one Ir Vq) (.both (.one OM (.one Ir Vo)) (.one Lw (.one Lx Vs)))))) (.one Lw (.one Lx (.both (.one Ir Vr) (.one OK (.one OL Vs))))))))))) (.fV false [q 112 (.fa 1 (.t 5)) 134022000,q 113 (.load false 1 (.t 112)) 134022001,q 114 (.len (.t 113)) 134022002,q 115 (.bin .sub .i64 (.t 114) (.k (.int .i64 1))) 134022003,q 7 (.eW (.t 115)) 134022004]))))) (.fV false [q 75 (.eW (.t 9)) 134018000,q 76 (.bin .add .i64 (.t 75) (.k (.int .i64 1))) 134018001,q 9 (.eW (.t 76)) 134018002])))))) (.seq (.seq (.fV false [q 10 (.eW (.k (.int .i64 0))) 134023000]) (.block 4 (.loop (.seq (.seq (.fV false [q 116 (.eW (.t 10)) 134024000,q 117 (.bin .lss .i64 (.t 116) (.k (.int .i64 4))) 134024001]) (.cond (.t 117) .skip (.exit 4))) (.seq (.block 5 (.seq (.fV false [q 120 (.eW (.t 0)) 134026000,q 121 (.call 52 [(.t 120),(.k (.int .i64 2))]) 134026001,q 122 (.bin .add .i64 (.k (.int .i64 1)) (.t 121)) 134026002,q 11 (.eW (.t 122)) 134026003]) (.one ⟨(some 123),(.fa 1 (.t 5)),none,134027000,sa⟩ (.one ⟨(some 125),(.eW (.t 10)),none,134027002,sa⟩ (.one ⟨(some 128),(.eW (.t 11)),none,134027005,sa⟩ (.one ⟨(some 129),(.eW (.t 0)),none,134027006,sa⟩ (.one ⟨(some 132),(.eW (.t 10)),none,134027009,sa⟩ (.one ⟨(some 133),(.bin .rem .i64 (.t 132) (.k (.int .i64 2))),none,134027010,sa⟩ (.one ⟨(some 134),(.bin .add .i64 (.k (.int .i64 1)) (.t 133)),none,134027011,sa⟩ (.one ⟨(some 135),(.eW (.t 10)),none,134027012,sa⟩ (.one ⟨(some 136),(.bin .quo .i64 (.t 135) (.k (.int .i64 2))),none,134027013,sa⟩ (.one ⟨(some 137),(.bin .add .i64 (.k (.int .i64 1)) (.t 136)),none,134027014,sa⟩ (.both (.one Ri (.one Vt (.one Vu Vy))) (.one Vt (.one Vu (.both (.one Ri Vy) (.one Vv (.one Ri Vx)))))))))))))))))) (.fV false [q 118 (.eW (.t 10)) 134025000,q 119 (.bin .add .i64 (.t 118) (.k (.int .i64 1))) 134025001,q 10 (.eW (.t 119)) 134025002])))))) (.seq (.seq (.fV false [q 143 (.eW (.t 0)) 134028000,q 144 (.call 135 [(.t 143),(.k (.int .i64 3))]) 134028001]) (.cond (.t 144) (.one ⟨(some 145),(.fa 1 (.t 5)),none,134029000,DP⟩ (.one ⟨(some 147),(.eW (.t 0)),none,134029002,DP⟩ (.one ⟨(some 150),(.eW (.t 0)),none,134029005,DP⟩ (.both (.one Rj (.one Vz (.one VA VF))) (.one Vz (.one VA (.both (.one Rj VF) (.one VB (.one Rj VE))))))))) .skip)) (.seq (.fV false [q 158 (.load true 2 (.t 5)) 134030000,q 159 (.build [(.int .i64 0),(.int .i64 0),(.int .i64 0)] []) 134030001,q 160 (.fW 3 1 [(.t 159)]) 134030002,q 161 (.build [.bj] [(0,(1,(.t 160)))]) 134030003,⟨(some 162),(.build [.bj,.bj,.bj,(.int .i64 0)] [(0,(2,(.t 158))),(2,(1,(.t 161))),(3,(1,(.k (.int .i64 2))))]),none,134030004,[]⟩,⟨none,(.store 4 (.t 2) (.t 162)),none,134030005,[]⟩]) .ret)))))))))))))),[(.cell true 4 2)]⟩
theorem SK:xu Tryz.prog 134 [(13,2),(21,2),(27,2),(29,2)]=some UF:=by kernel_rfl
def ik (n lo hi:Int):Bool:=decide (lo<=n)&&decide (n<=hi)
theorem dY {n lo hi:Int} (h:ik n lo hi=true):lo<=n/\n<=hi:=by simpa[ik]using h
theorem jU {n lo hi:Int} (h:lo<=n/\n<=hi):ik n lo hi=true:=by simpa[ik]using h
def xG (p:ai):Bool:=ik p.eV (-60) 60&&ik p.eQ (-60) 60
theorem lz (n lo hi:Int):aw Tryz.prog 58 [.int .i64 n,.int .i64 lo,.int .i64 hi] (.bool (ik n lo hi)):=by
 refine aw.body fx rfl fun hl n0=>?_
 clear hl
 by_cases h1:lo<=n
 ·(try((repeat(revert N;apply Pn.out));refine wk @h1 ?_;(repeat(apply Pn.mk;intro N hN))))
  exact da (b:=decide (n<=hi)) (.inl rfl) (sd @Nat.zero_add) (by simp[ik,h1])
 ·(try((repeat(revert N;apply Pn.out));refine wk @h1 ?_;(repeat(apply Pn.mk;intro N hN))))
  exact da (b:=false) (.inl rfl) (sd @Nat.zero_add) (by simp[ik,h1])
theorem kC (n lo hi:Int):aw Tryz.prog 53 [.int .i64 n,.int .i64 lo,.int .i64 hi] (.bool (ik n lo hi)):=by
 refine aw.body fx rfl fun hl n0=>?_
 clear hl
 by_cases h1:lo<=n
 ·(try((repeat(revert N;apply Pn.out));refine wk @h1 ?_;(repeat(apply Pn.mk;intro N hN))))
  exact da (b:=decide (n<=hi)) (.inl rfl) (sd @Nat.zero_add) (by simp[ik,h1])
 ·(try((repeat(revert N;apply Pn.out));refine wk @h1 ?_;(repeat(apply Pn.mk;intro N hN))))
  exact da (b:=false) (.inl rfl) (sd @Nat.zero_add) (by simp[ik,h1])
theorem Nr (d:Int):aw Tryz.prog 248 [.int .i64 d] (.bool (ik d 0 3)):=by
 refine aw.body fx rfl fun hl n0=>?_
 clear hl
 have h:=lz d 0 3
 (repeat(first|((repeat(revert N;apply Pn.out));refine wk @Nat.zero_add ?_;(repeat(apply Pn.mk;intro N hN)))|((try apply Or.inl);refine⟨_,aw.x (h) (sd @Nat.zero_add),?_⟩;apply hN;clear hN N)))
 exact da (b:=ik d 0 3) (.inl rfl) (sd @Nat.zero_add) rfl
theorem zh (p:ai):aw Tryz.prog 90 [.agg (ad p)] (.bool (xG p)):=by
 refine aw.body fx rfl fun hl n0=>?_
 clear hl
 have h1:=lz p.eV (-60) 60
 have h2:=lz p.eQ (-60) 60
 by_cases q:ik p.eV (-60) 60=true
 ·rw[q]at h1
  (repeat(first|((repeat(revert N;apply Pn.out));refine wk @ad.eq_1 ?_;(repeat(apply Pn.mk;intro N hN)))|((try apply Or.inl);refine⟨_,aw.x (h1) (sd @ad.eq_1),?_⟩;apply hN;clear hN N)|((try apply Or.inl);refine⟨_,aw.x (h2) (sd @ad.eq_1),?_⟩;apply hN;clear hN N)))
  exact da (b:=ik p.eQ (-60) 60) (.inl rfl) (sd @Nat.zero_add) (by rw[xG,q];rfl)
 ·rw[Bool.not_eq_true]at q
  rw[q]at h1
  (repeat(first|((repeat(revert N;apply Pn.out));refine wk @ad.eq_1 ?_;(repeat(apply Pn.mk;intro N hN)))|((try apply Or.inl);refine⟨_,aw.x (h1) (sd @ad.eq_1),?_⟩;apply hN;clear hN N)|((try apply Or.inl);refine⟨_,aw.x (h2) (sd @ad.eq_1),?_⟩;apply hN;clear hN N)))
  exact da (b:=false) (.inl rfl) (sd @Nat.zero_add) (by rw[xG,q];rfl)
theorem tP (p:ai):aw Tryz.prog 129 [.agg (ad p)] (.bool (xG p)):=by
 refine aw.body fx rfl fun hl n0=>?_
 clear hl
 have h1:=kC p.eV (-60) 60
 have h2:=kC p.eQ (-60) 60
 by_cases q:ik p.eV (-60) 60=true
 ·rw[q]at h1
  (repeat(first|((repeat(revert N;apply Pn.out));refine wk @ad.eq_1 ?_;(repeat(apply Pn.mk;intro N hN)))|((try apply Or.inl);refine⟨_,aw.x (h1) (sd @ad.eq_1),?_⟩;apply hN;clear hN N)|((try apply Or.inl);refine⟨_,aw.x (h2) (sd @ad.eq_1),?_⟩;apply hN;clear hN N)))
  exact da (b:=ik p.eQ (-60) 60) (.inl rfl) (sd @Nat.zero_add) (by rw[xG,q];rfl)
 ·rw[Bool.not_eq_true]at q
  rw[q]at h1
  (repeat(first|((repeat(revert N;apply Pn.out));refine wk @ad.eq_1 ?_;(repeat(apply Pn.mk;intro N hN)))|((try apply Or.inl);refine⟨_,aw.x (h1) (sd @ad.eq_1),?_⟩;apply hN;clear hN N)|((try apply Or.inl);refine⟨_,aw.x (h2) (sd @ad.eq_1),?_⟩;apply hN;clear hN N)))
  exact da (b:=false) (.inl rfl) (sd @Nat.zero_add) (by rw[xG,q];rfl)
def km (d:Int):Int:=if ik d 0 3 then(d+2) % 4 else -1
def bc (p:ai) (d:Int):ai:=
 if d=0 then⟨p.eV,p.eQ+1⟩else if d=1 then⟨p.eV+1,p.eQ⟩else if d=2 then⟨p.eV,p.eQ-1⟩else if d=3 then⟨p.eV-1,p.eQ⟩else p
def iB (n:Int):Prop:=-4611686018427387904<=n/\n<=4611686018427387904
theorem wg (p:ai) (d:Int) (hd:ik d 0 3=true) (hx:iB p.eV) (hy:iB p.eQ):aw Tryz.prog 156 [.agg (ad p),.int .i64 d] (.agg (ad (bc p d))):=by
 refine aw.body fx rfl fun hl n0=>?_
 clear hl
 obtain⟨x1,x2⟩:=hx
 obtain⟨y1,y2⟩:=hy
 have w1:IntKind.i64.wrap (p.eV+1)=p.eV+1:=db ae
 have w2:IntKind.i64.wrap (p.eV-1)=p.eV-1:=db ae
 have w3:IntKind.i64.wrap (p.eQ+1)=p.eQ+1:=db ae
 have w4:IntKind.i64.wrap (p.eQ-1)=p.eQ-1:=db ae
 have hb:=dY hd
 have hc:d=0∨d=1∨d=2∨d=3:=ae
 rcases hc with rfl|rfl|rfl|rfl
 ·(try((repeat(revert N;apply Pn.out));refine wk (tw @ad.eq_1 @w3) ?_;(repeat(apply Pn.mk;intro N hN))))
  exact qE (.inl rfl) (vs:=[.agg (ad (bc p 0))]) (by simp only[go_sem, ↓reduceIte,Nat.reduceEqDiff,Nat.reduceAdd,Nat.reduceSub,Nat.reduceLeDiff,reduceCtorEq,gU,jj,ad,bc]) (by simp[hZ,ad,iu,eY])
 ·(try((repeat(revert N;apply Pn.out));refine wk (tw @ad.eq_1 @w1) ?_;(repeat(apply Pn.mk;intro N hN))))
  exact qE (.inl rfl) (vs:=[.agg (ad (bc p 1))]) (by simp[gU,jj,ad,bc,ld,rowAt,bI,upd,part]) (by simp[hZ,ad,iu,eY])
 ·(try((repeat(revert N;apply Pn.out));refine wk (tw @ad.eq_1 @w4) ?_;(repeat(apply Pn.mk;intro N hN))))
  exact qE (.inl rfl) (vs:=[.agg (ad (bc p 2))]) (by simp[gU,jj,ad,bc,ld,rowAt,bI,upd,part]) (by simp[hZ,ad,iu,eY])
 ·(try((repeat(revert N;apply Pn.out));refine wk (tw @ad.eq_1 @w2) ?_;(repeat(apply Pn.mk;intro N hN))))
  exact qE (.inl rfl) (vs:=[.agg (ad (bc p 3))]) (by simp[gU,jj,ad,bc,ld,rowAt,bI,upd,part]) (by simp[hZ,ad,iu,eY])
theorem Dr (p p2:ai) (x y:Int) (hx:IntKind.i64.wrap (p.eV+p2.eV)=x) (hy:IntKind.i64.wrap (p.eQ+p2.eQ)=y):aw Tryz.prog 242 [.agg (ad p),.agg (ad p2)] (.agg [.int .i64 x,.int .i64 y]):=by
 refine aw.body fx rfl fun hl n0=>?_
 clear hl
 (try((repeat(revert N;apply Pn.out));refine wk (tw @ad.eq_1 (tw @hx @hy)) ?_;(repeat(apply Pn.mk;intro N hN))))
 exact qE (.inl rfl) (vs:=[.agg [.int .i64 x,.int .i64 y]]) (by simp only[go_sem, ↓reduceIte,Nat.reduceEqDiff,Nat.reduceAdd,Nat.reduceSub,Nat.reduceLeDiff,reduceCtorEq,gU,jj,ad]) (by simp[hZ,iu,eY])
theorem DF (p:ai) (d:Int) (hd:ik d 0 3=true) (hx:iB p.eV) (hy:iB p.eQ):aw Tryz.prog 200 [.agg (ad p),.int .i64 d] (.agg (ad (bc p d))):=by
 refine aw.body fx rfl fun hl n0=>?_
 clear hl
 obtain⟨x1,x2⟩:=hx
 obtain⟨y1,y2⟩:=hy
 have hb:=dY hd
 have hc:d=0∨d=1∨d=2∨d=3:=ae
 rcases hc with rfl|rfl|rfl|rfl
 ·have h:=Dr p ⟨0,1⟩ (p.eV) (p.eQ+1) (by rw[db (by constructor<;>simp only<;>omega)]<;>(try simp only)<;>(try omega)) (by rw[db (by constructor<;>simp only<;>omega)]<;>(try simp only)<;>(try omega))
  simp only[ad]at h
  (repeat(first|((repeat(revert N;apply Pn.out));refine wk @ad.eq_1 ?_;(repeat(apply Pn.mk;intro N hN)))|((try apply Or.inl);refine⟨_,aw.x (h) (sd @ad.eq_1),?_⟩;apply hN;clear hN N)))
  exact qE (.inl rfl) (vs:=[.agg (ad (bc p 0))]) (by simp[gU,jj,ad,bc,ld,rowAt,bI,upd,part]) (by simp[hZ,ad,iu,eY])
 ·have h:=Dr p ⟨1,0⟩ (p.eV+1) (p.eQ) (by rw[db (by constructor<;>simp only<;>omega)]<;>(try simp only)<;>(try omega)) (by rw[db (by constructor<;>simp only<;>omega)]<;>(try simp only)<;>(try omega))
  simp only[ad]at h
  (repeat(first|((repeat(revert N;apply Pn.out));refine wk @ad.eq_1 ?_;(repeat(apply Pn.mk;intro N hN)))|((try apply Or.inl);refine⟨_,aw.x (h) (sd @ad.eq_1),?_⟩;apply hN;clear hN N)))
  exact qE (.inl rfl) (vs:=[.agg (ad (bc p 1))]) (by simp[gU,jj,ad,bc,ld,rowAt,bI,upd,part]) (by simp[hZ,ad,iu,eY])
 ·have h:=Dr p ⟨0,(-1)⟩ (p.eV) (p.eQ-1) (by rw[db (by constructor<;>simp only<;>omega)]<;>(try simp only)<;>(try omega)) (by rw[db (by constructor<;>simp only<;>omega)]<;>(try simp only)<;>(try omega))
  simp only[ad]at h
  (repeat(first|((repeat(revert N;apply Pn.out));refine wk @ad.eq_1 ?_;(repeat(apply Pn.mk;intro N hN)))|((try apply Or.inl);refine⟨_,aw.x (h) (sd @ad.eq_1),?_⟩;apply hN;clear hN N)))
  exact qE (.inl rfl) (vs:=[.agg (ad (bc p 2))]) (by simp[gU,jj,ad,bc,ld,rowAt,bI,upd,part]) (by simp[hZ,ad,iu,eY])
 ·have h:=Dr p ⟨(-1),0⟩ (p.eV-1) (p.eQ) (by rw[db (by constructor<;>simp only<;>omega)]<;>(try simp only)<;>(try omega)) (by rw[db (by constructor<;>simp only<;>omega)]<;>(try simp only)<;>(try omega))
  simp only[ad]at h
  (repeat(first|((repeat(revert N;apply Pn.out));refine wk @ad.eq_1 ?_;(repeat(apply Pn.mk;intro N hN)))|((try apply Or.inl);refine⟨_,aw.x (h) (sd @ad.eq_1),?_⟩;apply hN;clear hN N)))
  exact qE (.inl rfl) (vs:=[.agg (ad (bc p 3))]) (by simp[gU,jj,ad,bc,ld,rowAt,bI,upd,part]) (by simp[hZ,ad,iu,eY])
theorem HR (d:Int) (hd:ik d 0 3=true):aw Tryz.prog 246 [.int .i64 d] (.int .i64 (km d)):=by
 refine aw.body fx rfl fun hl n0=>?_
 clear hl
 have hb:=dY hd
 have hw:IntKind.i64.wrap (d+2)=d+2:=db ae
 have ht:Int.tmod (d+2) 4=(d+2) % 4:=Int.tmod_eq_emod_of_nonneg ae
 have h4:¬((4:Int)=0):=ae
 (try((repeat(revert N;apply Pn.out));refine wk (tw @hw (tw @ht @h4)) ?_;(repeat(apply Pn.mk;intro N hN))))
 exact eC (b:=(d+2) % 4) (.inl rfl) (sd @Nat.zero_add) (by rw[km,if_pos hd])
theorem GN (d:Int) (hd:ik d 0 3=true):aw Tryz.prog 203 [.int .i64 d] (.int .i64 (km d)):=by
 refine aw.body fx rfl fun hl n0=>?_
 clear hl
 have hb:=dY hd
 have hw:IntKind.i64.wrap (d+2)=d+2:=db ae
 have ht:Int.tmod (d+2) 4=(d+2) % 4:=Int.tmod_eq_emod_of_nonneg ae
 have h4:¬((4:Int)=0):=ae
 have h:=Nr d
 rw[hd]at h
 (repeat(first|((repeat(revert N;apply Pn.out));refine wk (tw @hw (tw @ht @h4)) ?_;(repeat(apply Pn.mk;intro N hN)))|((try apply Or.inl);refine⟨_,aw.x (h) (sd (tw @hw (tw @ht @h4))),?_⟩;apply hN;clear hN N)))
 exact eC (b:=(d+2) % 4) (.inl rfl) (sd @Nat.zero_add) (by rw[km,if_pos hd])
def eE (s:az) (t:Int):Bool:=ik t 0 ((s.aj.length:Int)-1)
theorem HE (s:az) (t:Int):aw Tryz.prog 91 [.ef (ah s),.int .i64 t] (.bool (eE s t)):=by
 refine aw.body fx rfl fun hl n0=>?_
 have hn:s.aj.length<=9223372036854775807:=by
  have h1:=(hl (.ef (ah s)) (by simp)).Fu (a:=.sl (s.aj.map dx)) (by simp[ah])
  simpa using h1.len
 clear hl
 have hw:IntKind.i64.wrap ((s.aj.length:Int)-1)=(s.aj.length:Int)-1:=db ae
 have h:=lz t 0 ((s.aj.length:Int)-1)
 (repeat(first|((repeat(revert N;apply Pn.out));refine wk (tw @ah.eq_1 @hw) ?_;(repeat(apply Pn.mk;intro N hN)))|((try apply Or.inl);refine⟨_,aw.x (h) (sd (tw @ah.eq_1 @hw)),?_⟩;apply hN;clear hN N)))
 exact da (b:=eE s t) (.inl rfl) (by simp only[go_sem, ↓reduceIte,Nat.reduceEqDiff,Nat.reduceAdd,Nat.reduceSub,Nat.reduceLeDiff,reduceCtorEq,eE]) rfl
theorem BH (t n:Int) (h0:0<=n) (h1:n<=9223372036854775807):aw Tryz.prog 130 [.int .i64 t,.int .i64 n] (.bool (ik t 0 (n-1))):=by
 refine aw.body fx rfl fun hl n0=>?_
 clear hl
 have hw:IntKind.i64.wrap (n-1)=n-1:=db ae
 have h:=kC t 0 (n-1)
 (repeat(first|((repeat(revert N;apply Pn.out));refine wk @hw ?_;(repeat(apply Pn.mk;intro N hN)))|((try apply Or.inl);refine⟨_,aw.x (h) (sd @hw),?_⟩;apply hN;clear hN N)))
 exact da (b:=ik t 0 (n-1)) (.inl rfl) (sd @Nat.zero_add) rfl
theorem Fv (s:az) (t:Int):aw Tryz.prog 100 [.agg (ah s),.int .i64 t] (.bool (eE s t)):=by
 refine aw.body fx rfl fun hl n0=>?_
 have hn:s.aj.length<=9223372036854775807:=by
  have h1:=(hl (.agg (ah s)) (by simp)).Sy (a:=.sl (s.aj.map dx)) (by simp[ah])
  simpa using h1.len
 clear hl
 have h:=BH t s.aj.length ae ae
 (repeat(first|((repeat(revert N;apply Pn.out));refine wk @ah.eq_1 ?_;(repeat(apply Pn.mk;intro N hN)))|((try apply Or.inl);refine⟨_,aw.x (h) (sd @ah.eq_1),?_⟩;apply hN;clear hN N)))
 exact da (b:=eE s t) (.inl rfl) (by simp only[go_sem, ↓reduceIte,Nat.reduceEqDiff,Nat.reduceAdd,Nat.reduceSub,Nat.reduceLeDiff,reduceCtorEq,eE]) rfl
def Dp:jy:=⟨⟨#[]⟩,[]⟩
def eu (s:az) (t:Int):jy:=s.aj.getD t.toNat Dp
def er (t:jy) (d:Int):Int:=t.dW.getD d.toNat 0
def s6 (s:az) (g:Int):kU:=s.bh.getD g.toNat ⟨⟨#[]⟩,0⟩
def tJ (s:az) (g:Int):Int:=if g=0 then 0 else(s6 s (g-1)).iQ
def gh (s:az) (a d b:Int):Int:=if er (eu s a) d=er (eu s b) (km d)then tJ s (er (eu s a) d)else 0
structure l9 (s:az):Prop where
 Ad:∀t∈s.aj,t.dW.length=4
 yV:∀t∈s.aj,∀g∈t.dW,0<=g/\g<=s.bh.length
theorem getD_map {α β:Type} (e:α->β) {l:List α} {k:Nat} {d:α} (h:k<l.length):(l.map e)[k]? =some (e (l.getD k d)):=by simp[List.getD_eq_getElem?_getD,h]
theorem AU (s:az) (g:Int) (h0:0<=g) (h1:g<=s.bh.length):aw Tryz.prog 204 [.ef (ah s),.int .i64 g] (.int .i64 (tJ s g)):=by
 refine aw.body fx rfl fun hl n0=>?_
 have hn:s.bh.length<=9223372036854775807:=by
  have h1:=(hl (.ef (ah s)) (by simp)).Fu (a:=.sl (s.bh.map dZ)) (by simp[ah])
  simpa using h1.len
 clear hl
 by_cases hg:g=0
 ·have e:decide (g=0)=true:=decide_eq_true hg
  (try((repeat(revert N;apply Pn.out));refine wk (tw @ah.eq_1 @e) ?_;(repeat(apply Pn.mk;intro N hN))))
  exact eC (b:=0) (.inl rfl) (sd @Nat.zero_add) (by rw[tJ,if_pos hg])
 ·have e:decide (g=0)=false:=decide_eq_false hg
  have hw:IntKind.i64.wrap (g-1)=g-1:=db ae
  have l7:0<=g-1:=ae
  have iK:(s.bh.map dZ)[(g-1).toNat]? =some (dZ (s6 s (g-1))):=getD_map dZ ae
  (try((repeat(revert N;apply Pn.out));refine wk (tw @ah.eq_1 (tw @e (tw @hw (tw @l7 (tw @iK @dZ.eq_1))))) ?_;(repeat(apply Pn.mk;intro N hN))))
  exact eC (b:=(s6 s (g-1)).iQ) (.inl rfl) (sd @Nat.zero_add) (by rw[tJ,if_neg hg])
theorem oq {s:az} {a:Int} (h:eE s a=true):0<=a/\(s.aj.map dx)[a.toNat]? =some (dx (eu s a))/\eu s a∈s.aj:=by
 have h':=dY h
 have eG:a.toNat<s.aj.length:=ae
 refine⟨h'.1,getD_map dx eG,?_⟩
 unfold eu
 rw[List.getD_eq_getElem?_getD,List.getElem?_eq_getElem eG]
 exact List.getElem_mem eG
theorem qG {t:jy} {d:Int} (h:t.dW.length=4) (hd:ik d 0 3=true):(t.dW.map aM)[d.toNat]? =some [.int .i64 (er t d)]:=by
 have:=dY hd
 exact getD_map aM ae
theorem Gb {t:jy} {d:Int} (h:t.dW.length=4) (hd:ik d 0 3=true):er t d∈t.dW:=by
 have:=dY hd
 have eG:d.toNat<t.dW.length:=ae
 unfold er
 rw[List.getD_eq_getElem?_getD,List.getElem?_eq_getElem eG]
 exact List.getElem_mem eG
theorem zE {d:Int} (hd:ik d 0 3=true):ik (km d) 0 3=true:=by
 have:=dY hd
 refine jU ?_
 rw[km,if_pos hd];omega
theorem Ic (s:az) (hF:l9 s) (a d:Int) (ha:eE s a=true) (hd:ik d 0 3=true):aw Tryz.prog 247 [.agg (ah s),.int .i64 a,.int .i64 d] (.int .i64 (tJ s (er (eu s a) d))):=by
 refine aw.body fx rfl fun hl n0=>?_
 have hn:s.bh.length<=9223372036854775807:=by
  have h1:=(hl (.agg (ah s)) (by simp)).Sy (a:=.sl (s.bh.map dZ)) (by simp[ah])
  simpa using h1.len
 clear hl
 obtain⟨a0,a1,a2⟩:=oq ha
 have s1:=qG (hF.Ad _ a2) hd
 have gl:=hF.yV _ a2 _ (Gb (hF.Ad _ a2) hd)
 have d0:=(dY hd).1
 by_cases hg:er (eu s a) d=0
 ·have e:¬(0<er (eu s a) d):=ae
  (try((repeat(revert N;apply Pn.out));refine wk (tw @ah.eq_1 (tw @dx.eq_1 (tw @a0 (tw @a1 (tw @s1 (tw @d0 @e)))))) ?_;(repeat(apply Pn.mk;intro N hN))))
  exact eC (b:=0) (.inl rfl) (sd @Nat.zero_add) (by rw[tJ,if_pos hg])
 ·have e:0<er (eu s a) d:=ae
  have hw:IntKind.i64.wrap (er (eu s a) d-1)=er (eu s a) d-1:=db ae
  have l7:0<=er (eu s a) d-1:=ae
  have iK:(s.bh.map dZ)[(er (eu s a) d-1).toNat]? =some (dZ (s6 s (er (eu s a) d-1))):=getD_map dZ ae
  (try((repeat(revert N;apply Pn.out));refine wk (tw @ah.eq_1 (tw @dx.eq_1 (tw @a0 (tw @a1 (tw @s1 (tw @d0 (tw @e (tw @hw (tw @l7 (tw @iK @dZ.eq_1)))))))))) ?_;(repeat(apply Pn.mk;intro N hN))))
  exact eC (b:=(s6 s (er (eu s a) d-1)).iQ) (.inl rfl) (sd @Nat.zero_add) (by rw[tJ,if_neg hg])
theorem Mi (s:az) (hF:l9 s) (a d b:Int) (ha:eE s a=true) (hb:eE s b=true) (hd:ik d 0 3=true):aw Tryz.prog 202 [.agg (ah s),.int .i64 a,.int .i64 d,.int .i64 b] (.int .i64 (gh s a d b)):=by
 refine aw.body fx rfl fun hl n0=>?_
 clear hl
 obtain⟨a0,a1,a2⟩:=oq ha
 obtain⟨b0,b1,b2⟩:=oq hb
 have s1:=qG (hF.Ad _ a2) hd
 have s2:=qG (hF.Ad _ b2) (zE hd)
 have d0:=(dY hd).1
 have d1:=(dY (zE hd)).1
 have h:=HR d hd
 have hs:=Ic s hF a d ha hd
 rw[ah]at hs
 by_cases e:er (eu s a) d=er (eu s b) (km d)
 ·have e':decide (er (eu s a) d=er (eu s b) (km d))=true:=decide_eq_true e
  (have zF:=tw @ah.eq_1 (tw @dx.eq_1 (tw @a0 (tw @a1 (tw @b0 (tw @b1 (tw @s1 (tw @s2 (tw @d0 (tw @d1 @e')))))))));(repeat(first|((repeat(revert N;apply Pn.out));refine wk zF ?_;(repeat(apply Pn.mk;intro N hN)))|((try apply Or.inl);refine⟨_,aw.x (h) (sd zF),?_⟩;apply hN;clear hN N)|((try apply Or.inl);refine⟨_,aw.x (hs) (sd zF),?_⟩;apply hN;clear hN N)));try clear zF)
  exact eC (b:=tJ s (er (eu s a) d)) (.inl rfl) (sd @Nat.zero_add) (by rw[gh,if_pos e])
 ·have e':decide (er (eu s a) d=er (eu s b) (km d))=false:=decide_eq_false e
  (have zF:=tw @ah.eq_1 (tw @dx.eq_1 (tw @a0 (tw @a1 (tw @b0 (tw @b1 (tw @s1 (tw @s2 (tw @d0 (tw @d1 @e')))))))));(repeat(first|((repeat(revert N;apply Pn.out));refine wk zF ?_;(repeat(apply Pn.mk;intro N hN)))|((try apply Or.inl);refine⟨_,aw.x (h) (sd zF),?_⟩;apply hN;clear hN N)));try clear zF)
  exact eC (b:=0) (.inl rfl) (sd @Nat.zero_add) (by rw[gh,if_neg e])
end Go.Proofs.YtainmfbpilopaaaGreatDoor.V

namespace Go.Proofs.YtainmfbpilopaaaGreatDoor
open Go.RowKit
def mz (n:Int):Bool:=(decide (97<=n)&&decide (n<=122))||(decide (65<=n)&&decide (n<=90))
def mU (n:Int):Bool:=decide (48<=n)&&decide (n<=57)
def xw (i:Nat) (n:Int):Prop:=mz n=true∨(0<i/\(mU n=true∨n=95))
def yf (s:ByteArray):Prop:=(1<=s.size/\s.size<=12)/\∀i (h:i<s.size),xw i s[i].toNat
open Classical in
noncomputable def kS (s:ByteArray):Bool:=decide (yf s)
theorem HM {s:ByteArray} (h:yf s):true=kS s:=by simp[kS,h]
theorem eU {s:ByteArray} (h:¬yf s):false=kS s:=by simp[kS,h]
theorem FP {s:ByteArray} {b:Bool} (hb:b=true) (h:yf s):b=kS s:=by simp[kS,h,hb]
theorem uB {s:ByteArray} {b:Bool} (hb:b=false) (h:¬yf s):b=kS s:=by simp[kS,h,hb]
theorem zp (w:World) (n:Int):Calls Tryz.prog 234 #[.int .u8 n] w fun e w'=>e=.returned (.bool (mz n))/\w=w':=by
 go_enter Tryz.func234,Tryz.ntmps234
 go_wp2_with fail
 all_goals
  go_ret
  exact⟨jw (by unfold mz;simp[*];try omega),rfl⟩
theorem JY (w:World) (n:Int):Calls Tryz.prog 235 #[.int .u8 n] w fun e w'=>e=.returned (.bool (mU n))/\w=w':=by
 go_enter Tryz.func235,Tryz.ntmps235
 go_wp2_with fail
 all_goals
  go_ret
  exact⟨jw (by unfold mU;simp[*];try omega),rfl⟩
theorem F7 (w:World) (s:ByteArray) (hs:s.size<=9223372036854775807):Calls Tryz.prog 191 #[.string s] w fun e w'=>e=.returned (.bool (kS s))/\Below w.heap.size w w':=by
 by_cases h1:1<=s.size
 case neg=>
  go_enter Tryz.func191,Tryz.ntmps191
  go_wp2_with fail
  go_ret
  exact⟨jw (eU fun h=>h1 h.1.1),Below.refl _ _⟩
 by_cases h2:s.size<=12
 case neg=>
  go_enter Tryz.func191,Tryz.ntmps191
  go_wp2_with fail
  go_ret
  exact⟨jw (eU fun h=>h2 h.1.2),Below.refl _ _⟩
 go_enter Tryz.func191,Tryz.ntmps191
 go_wp2_with fail
 refine(zp _ _).mono ?_
 rintro e w' ⟨rfl,rfl⟩
 cases h3:mz s[0].toNat
 ·go_wp2_with fail
  go_ret
  exact⟨jw (eU fun h=>by have:=h.2 0 (by omega);simp only[xw]at this;rw[h3]at this;simp at this),Below.refl _ _⟩
 ·replace h3:=Lib.hid h3
  go_wp2_with fail
  go_loop [3] (fun i=>∃k:Nat,1<=k/\k<=s.size/\i=.int .i64 k/\Hid (∀j (h:j<s.size),j<k->xw j s[j].toNat)) (fun i=>s.size-(intOf i).toNat)
  case atStart=>exact⟨1,by omega,by omega,rfl,Lib.hid fun j h hj=>by
   obtain rfl:j=0:=by omega
   exact .inl h3.out⟩
  case round=>
   obtain⟨k,uo,hk,rfl,eJ⟩:=hrel
   by_cases eG:k<s.size
   ·go_wp2_with fail
    refine(zp _ _).mono ?_
    rintro e w' ⟨rfl,rfl⟩
    have lT:xw k s[k].toNat∨¬xw k s[k].toNat:=Classical.em _
    cases hl:mz s[k].toNat
    ·go_wp2_with fail
     refine(JY _ _).mono ?_
     rintro e w' ⟨rfl,rfl⟩
     cases hd:mU s[k].toNat
     ·by_cases xQ:(s[k].toNat:Int)=95
      ·have Z3:((s[k].toNat:Int) !=95)=false:=by simp;omega
       replace xQ:=Lib.hid xQ
       replace hl:=Lib.hid hl
       replace hd:=Lib.hid hd
       go_wp2_with fail
       go_round
       case rel=>exact⟨k+1,by omega,by omega,by go_num,Lib.hid fun j h hj=>by
        by_cases Av:j=k
        ·subst Av;exact .inr ⟨by omega,.inr xQ.out⟩
        ·exact eJ.out j h (by omega)⟩
       case measure=>simp[intOf];omega
      ·have Z3:((s[k].toNat:Int) !=95)=true:=by simp;omega
       replace xQ:=Lib.hid xQ
       replace hl:=Lib.hid hl
       replace hd:=Lib.hid hd
       go_wp2_with fail
       go_ret
       exact⟨jw (eU fun h=>by
        have:=h.2 k eG;simp only[xw,hl.out,hd.out]at this;exact xQ.out (by simp at this;exact this.2)),Below.refl _ _⟩
     ·replace hl:=Lib.hid hl
      replace hd:=Lib.hid hd
      go_wp2_with fail
      go_round
      case rel=>exact⟨k+1,by omega,by omega,by go_num,Lib.hid fun j h hj=>by
       by_cases Av:j=k
       ·subst Av;exact .inr ⟨by omega,.inl hd.out⟩
       ·exact eJ.out j h (by omega)⟩
      case measure=>simp[intOf];omega
    ·replace hl:=Lib.hid hl
     go_wp2_with fail
     go_round
     case rel=>exact⟨k+1,by omega,by omega,by go_num,Lib.hid fun j h hj=>by
      by_cases Av:j=k
      ·subst Av;exact .inl hl.out
      ·exact eJ.out j h (by omega)⟩
     case measure=>simp[intOf];omega
   ·go_wp2_with fail
    go_ret
    exact⟨jw (HM ⟨⟨h1,h2⟩,fun i h=>eJ.out i h (by omega)⟩),Below.refl _ _⟩
theorem Fk (w:World) (s:ByteArray) (hs:s.size<=9223372036854775807):Calls Tryz.prog 125 #[.string s] w fun e w'=>e=.returned (.bool (kS s))/\w=w':=by
 go_enter Tryz.func125,Tryz.ntmps125
 go_wp2_with fail
 go_loop [8] (fun i=>∃k:Nat,k<=s.size/\i=.int .i64 k/\Hid (∀j (h:j<s.size),j<k->xw j s[j].toNat)) (fun i=>s.size-(intOf i).toNat)
 case atStart=>exact⟨0,by omega,rfl,Lib.hid fun j h hj=>by omega⟩
 case round=>
  obtain⟨k,hk,rfl,eJ⟩:=hrel
  by_cases eG:k<s.size
  ·have hc:(s[k].toNat:Int)<48∨(48<=(s[k].toNat:Int)/\(s[k].toNat:Int)<=57)∨(58<=(s[k].toNat:Int)/\(s[k].toNat:Int)<=64)∨(65<=(s[k].toNat:Int)/\(s[k].toNat:Int)<=90)∨(91<=(s[k].toNat:Int)/\(s[k].toNat:Int)<=94)∨(95<=(s[k].toNat:Int)/\(s[k].toNat:Int)<=95)∨(96<=(s[k].toNat:Int)/\(s[k].toNat:Int)<=96)∨(97<=(s[k].toNat:Int)/\(s[k].toNat:Int)<=122)∨123<=(s[k].toNat:Int):=by omega
   by_cases xS:k=0
   ·subst xS
    rcases hc with h|⟨h,h'⟩|⟨h,h'⟩|⟨h,h'⟩|⟨h,h'⟩|⟨h,h'⟩|⟨h,h'⟩|⟨h,h'⟩|h
    ·have xQ:((s[0].toNat:Int) !=95)=true:=by simp;try omega
     go_wp2_with fail
     all_goals first
      |(go_ret;exact⟨jw (eU fun hh=>by have:=hh.2 0 eG;simp[xw,mz,mU]at this;omega),rfl⟩)
      |(exfalso;simp_all;done)
      |(exfalso;simp_all;omega)
    ·have xQ:((s[0].toNat:Int) !=95)=true:=by simp;try omega
     go_wp2_with fail
     all_goals first
      |(go_ret;exact⟨jw (eU fun hh=>by have:=hh.2 0 eG;simp[xw,mz,mU]at this;omega),rfl⟩)
      |(exfalso;simp_all;done)
      |(exfalso;simp_all;omega)
    ·have xQ:((s[0].toNat:Int) !=95)=true:=by simp;try omega
     go_wp2_with fail
     all_goals first
      |(go_ret;exact⟨jw (eU fun hh=>by have:=hh.2 0 eG;simp[xw,mz,mU]at this;omega),rfl⟩)
      |(exfalso;simp_all;done)
      |(exfalso;simp_all;omega)
    ·have xQ:((s[0].toNat:Int) !=95)=true:=by simp;try omega
     go_wp2_with fail
     go_round
     case rel=>exact⟨0+1,by omega,by go_num,Lib.hid fun j hj Av=>by
      by_cases MY:j=0
      ·subst MY;simp[xw,mz,mU];omega
      ·exact eJ.out j hj (by omega)⟩
     case measure=>simp[intOf];try omega
    ·have xQ:((s[0].toNat:Int) !=95)=true:=by simp;try omega
     go_wp2_with fail
     all_goals first
      |(go_ret;exact⟨jw (eU fun hh=>by have:=hh.2 0 eG;simp[xw,mz,mU]at this;omega),rfl⟩)
      |(exfalso;simp_all;done)
      |(exfalso;simp_all;omega)
    ·have xQ:((s[0].toNat:Int) !=95)=false:=by simp;try omega
     go_wp2_with fail
     all_goals first
      |(go_ret;exact⟨jw (eU fun hh=>by have:=hh.2 0 eG;simp[xw,mz,mU]at this;omega),rfl⟩)
      |(exfalso;simp_all;done)
      |(exfalso;simp_all;omega)
    ·have xQ:((s[0].toNat:Int) !=95)=true:=by simp;try omega
     go_wp2_with fail
     all_goals first
      |(go_ret;exact⟨jw (eU fun hh=>by have:=hh.2 0 eG;simp[xw,mz,mU]at this;omega),rfl⟩)
      |(exfalso;simp_all;done)
      |(exfalso;simp_all;omega)
    ·have xQ:((s[0].toNat:Int) !=95)=true:=by simp;try omega
     go_wp2_with fail
     go_round
     case rel=>exact⟨0+1,by omega,by go_num,Lib.hid fun j hj Av=>by
      by_cases MY:j=0
      ·subst MY;simp[xw,mz,mU];omega
      ·exact eJ.out j hj (by omega)⟩
     case measure=>simp[intOf];try omega
    ·have xQ:((s[0].toNat:Int) !=95)=true:=by simp;try omega
     go_wp2_with fail
     all_goals first
      |(go_ret;exact⟨jw (eU fun hh=>by have:=hh.2 0 eG;simp[xw,mz,mU]at this;omega),rfl⟩)
      |(exfalso;simp_all;done)
      |(exfalso;simp_all;omega)
   ·have hz:((k:Int)==0)=false:=by simpa using xS
    have uo:1<=k:=by omega
    clear xS
    rcases hc with h|⟨h,h'⟩|⟨h,h'⟩|⟨h,h'⟩|⟨h,h'⟩|⟨h,h'⟩|⟨h,h'⟩|⟨h,h'⟩|h
    ·have xQ:((s[k].toNat:Int) !=95)=true:=by simp;try omega
     go_wp2_with fail
     all_goals first
      |(go_ret;exact⟨jw (eU fun hh=>by have:=hh.2 k eG;simp[xw,mz,mU]at this;omega),rfl⟩)
      |(exfalso;simp_all;done)
      |(exfalso;simp_all;omega)
    ·have xQ:((s[k].toNat:Int) !=95)=true:=by simp;try omega
     go_wp2_with fail
     go_round
     case rel=>exact⟨k+1,by omega,by go_num,Lib.hid fun j hj Av=>by
      by_cases MY:j=k
      ·subst MY;simp[xw,mz,mU];omega
      ·exact eJ.out j hj (by omega)⟩
     case measure=>simp[intOf];try omega
    ·have xQ:((s[k].toNat:Int) !=95)=true:=by simp;try omega
     go_wp2_with fail
     all_goals first
      |(go_ret;exact⟨jw (eU fun hh=>by have:=hh.2 k eG;simp[xw,mz,mU]at this;omega),rfl⟩)
      |(exfalso;simp_all;done)
      |(exfalso;simp_all;omega)
    ·have xQ:((s[k].toNat:Int) !=95)=true:=by simp;try omega
     go_wp2_with fail
     go_round
     case rel=>exact⟨k+1,by omega,by go_num,Lib.hid fun j hj Av=>by
      by_cases MY:j=k
      ·subst MY;simp[xw,mz,mU];omega
      ·exact eJ.out j hj (by omega)⟩
     case measure=>simp[intOf];try omega
    ·have xQ:((s[k].toNat:Int) !=95)=true:=by simp;try omega
     go_wp2_with fail
     all_goals first
      |(go_ret;exact⟨jw (eU fun hh=>by have:=hh.2 k eG;simp[xw,mz,mU]at this;omega),rfl⟩)
      |(exfalso;simp_all;done)
      |(exfalso;simp_all;omega)
    ·have xQ:((s[k].toNat:Int) !=95)=false:=by simp;try omega
     go_wp2_with fail
     go_round
     case rel=>exact⟨k+1,by omega,by go_num,Lib.hid fun j hj Av=>by
      by_cases MY:j=k
      ·subst MY;simp[xw,mz,mU];omega
      ·exact eJ.out j hj (by omega)⟩
     case measure=>simp[intOf];try omega
    ·have xQ:((s[k].toNat:Int) !=95)=true:=by simp;try omega
     go_wp2_with fail
     all_goals first
      |(go_ret;exact⟨jw (eU fun hh=>by have:=hh.2 k eG;simp[xw,mz,mU]at this;omega),rfl⟩)
      |(exfalso;simp_all;done)
      |(exfalso;simp_all;omega)
    ·have xQ:((s[k].toNat:Int) !=95)=true:=by simp;try omega
     go_wp2_with fail
     go_round
     case rel=>exact⟨k+1,by omega,by go_num,Lib.hid fun j hj Av=>by
      by_cases MY:j=k
      ·subst MY;simp[xw,mz,mU];omega
      ·exact eJ.out j hj (by omega)⟩
     case measure=>simp[intOf];try omega
    ·have xQ:((s[k].toNat:Int) !=95)=true:=by simp;try omega
     go_wp2_with fail
     all_goals first
      |(go_ret;exact⟨jw (eU fun hh=>by have:=hh.2 k eG;simp[xw,mz,mU]at this;omega),rfl⟩)
      |(exfalso;simp_all;done)
      |(exfalso;simp_all;omega)
  ·by_cases h1:1<=s.size
   ·by_cases h2:s.size<=12
    ·go_wp2_with fail
     go_ret
     exact⟨jw (FP (by simp<;>omega) ⟨⟨h1,h2⟩,fun i h=>eJ.out i h (by omega)⟩),rfl⟩
    ·go_wp2_with fail
     go_ret
     exact⟨jw (uB (by simp<;>omega) fun h=>h2 h.1.2),rfl⟩
   ·go_wp2_with fail
    go_ret
    exact⟨jw (uB (by simp<;>omega) fun h=>h1 h.1.1),rfl⟩
end Go.Proofs.YtainmfbpilopaaaGreatDoor

namespace Go.Proofs.YtainmfbpilopaaaGreatDoor.V
open Go.RowKit
theorem mixed:Tryz.prog.follows .mixedOrders=true:=by kernel_rfl
variable {P:Program} {w:World} {D:Nat->Prop} {ι:Names}
theorem nC {f:Nat} {args:List AV} {r:AV} {vs0:Array Value} {u0:Value} (pr:∀(w:World) (D:Nat->Prop) (ι:Names) vs,fY P w D ι args vs->vs=vs0) (hr:∀(w:World) (D:Nat->Prop) (ι:Names),du P w D ι r u0) (PY:∀g,iu g 6 r=some r)
  (h:∀w,Calls P f vs0 w fun e w'=>e=.returned u0/\Below w.heap.size w w'):aw P f args r:=by
 intro n
 refine fG fun hs D ι w vs S U A=>?_
 have:=pr w D ι vs A
 subst this
 refine(h w).mono ?_
 rintro e w' ⟨rfl,hb⟩
 exact⟨r,_,n,D,ι,u0,rfl,⟨r,PY _,rfl⟩,Step.stay S hb.block hb.size hb.os hb.tape hb.output (fun _ h=>h) (fun _ h=>.inl h) (fun _ _ h=>h),
  S.stay hb.block hb.size (fun _ h=>h) (fun b hd=>Nat.lt_of_lt_of_le (S.dead b hd) hb.size) (fun _ h=>.inl h) (fun _ _ h=>h),U,Nat.le_refl _,hr _ _ _⟩
theorem F3 {s:ByteArray} {vs:Array Value} (h:fY P w D ι [.str s] vs):vs= #[.string s]:=by
 obtain⟨h1,h2⟩:=h
 obtain⟨u,hu,hr⟩:=h2 0 _ rfl
 rw[gK hr]at hu
 obtain⟨l⟩:=vs
 cases l with
 |nil=>simp at h1
 |cons a l=>cases l with
  |nil=>simp at hu;subst hu;rfl
  |cons b l=>simp at h1
theorem Jo (s:ByteArray) (hs:s.size<=9223372036854775807):aw Tryz.prog 191 [.str s] (.bool (kS s)):=
 nC (fun _ _ _ _=>F3) (fun _ _ _=>.eX _ _ (.bool _)) (fun g=>gj g 5 _) fun w=>F7 w s hs
theorem Ja (s:ByteArray) (hs:s.size<=9223372036854775807):aw Tryz.prog 125 [.str s] (.bool (kS s)):=
 nC (fun _ _ _ _=>F3) (fun _ _ _=>.eX _ _ (.bool _)) (fun g=>gj g 5 _) fun w=>(Fk w s hs).mono (by rintro e w' ⟨rfl,rfl⟩;exact⟨rfl,Below.refl _ _⟩)
end Go.Proofs.YtainmfbpilopaaaGreatDoor.V

namespace Go.Proofs.YtainmfbpilopaaaGreatDoor.V
open Go.RowKit
attribute [local irreducible] ea wpOps fB Call
section
variable {P:Program}
end
def im (s:az):Prop:=(∀g∈s.bh,g.cZ.size<=9223372036854775807)/\∀t∈s.aj,t.cZ.size<=9223372036854775807
end Go.Proofs.YtainmfbpilopaaaGreatDoor.V
