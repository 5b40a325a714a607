/- One operation, calls among them. -/
import Derived.Test.YtgoelphibofcmaaGreatOpA
import Derived.Orders
import Derived.Conc.LoneCalls
import Derived.WalkKit
import Derived.WalkSpells
import Derived.WalkLawsBesides
import Derived.Lib.Hide
import Derived.Deep.QuietTactic
import Derived.BigQuiet
import Derived.StillTailTactics
import Derived.Deep.RegionWith
import Derived.Deep.RegionHeld3
import Derived.Deep.LoopGhost
import Derived.Deep.CutRange
import Derived.Deep.DeepCutAuto
import Derived.Test.YtgoelphibofcmaaGreatChecked
set_option linter.unusedVariables false
set_option linter.unusedSimpArgs false
set_option maxRecDepth 100000
set_option maxHeartbeats 16000000
namespace Go.Proofs.YtgoelphibofcmaaGreat.V
open Go.RowKit
variable {P:Program} {w w':World} {D D' D2:Nat->Prop} {ι ι' ι2:Names}
def Sound (P:Program):fA:=fun f args σ K=>∀(hs:Nat) (D:Nat->Prop) (ι:Names) (w:World) (vs:Array Value),gm P hs D ι σ.get w->Used ι σ.next (fun _=>False)->fe P w D ι args vs->
 Calls P f vs w fun e w'=>∃r g' n' D' ι' u,e=.returned u/\K r ⟨g',n'⟩/\Step hs D ι w D' ι' w'/\gm P hs D' ι' g' w'/\Used ι' n' (fun _=>False)/\σ.next<=n'/\dd P w' D' ι' r u
section
variable {g:Rows} {hs:Nat} {env:Env} {a:Act} {o:Oper} {id:Id} {v:AV}
theorem gm.ro (S:gm P hs D ι g w):gm P w.heap.size D ι (ro g) w:=by
 refine⟨Nat.le_refl _,S.dead,fun id r h=>?_,fun id kI r r' B B' h h' hw=>?_⟩
 ·unfold V.ro at h
  simp only[Option.map_eq_some_iff]at h
  obtain⟨r0,h0,rfl⟩:=h
  obtain⟨B,hB,R,_,_⟩:=S.row id r0 h0
  exact⟨B,hB,R.flag false,fun h=>by simp at h,fun h=>by simp at h⟩
 ·unfold V.ro at h
  simp only[Option.map_eq_some_iff]at h
  obtain⟨r0,h0,rfl⟩:=h
  simp at hw
theorem Ar {g0:Rows} {f:Nat} {args:List AV} {n:Nat} {K:AV->Prop} {vs:Array Value} (h:PC (Sound P) f args ⟨g0,n⟩ K) (qq:∀id r,g0 id=some r->g id=some r) (S:gm P hs D ι g w) (U:Used ι n (fun _=>False)) (A:fe P w D ι args vs):
  Calls P f vs w fun e w'=>∃r D' u,e=.returned u/\K r/\Step hs D ι w D' ι w'/\gm P hs D' ι g w'/\dd P w' D' ι r u:=by
 refine(h w.heap.size D ι w vs (S.sub qq).ro U A).mono ?_
 rintro e w' ⟨r0,g',n',D1,ι1,u,rfl,⟨r,hr,hK⟩,T,S1,_,_,hR⟩
 have hb:∀b,b<w.heap.size->w'.heap[b]? =w.heap[b]? :=T.below.block
 have hz:=T.below.size
 have q:=rq (D2:=fun b=>D b∨(w.heap.size<=b/\b<w'.heap.size)) (ι2:=ι) (fun b hd=>by
  rcases T.new b hd with h|h
  ·exact .inl h
  ·exact .inr ⟨h,S1.dead b hd⟩) (fun id row hg hw=>by
  obtain⟨B,hB,R,h1,_⟩:=S1.row id row hg
  exact⟨B,hB,R,.inr ⟨h1 hw,R.lt⟩⟩) 6 r0 u r hR hr
 refine⟨r,_,u,rfl,hK,?_,?_,q.1⟩
 ·exact Step.stay S hb hz T.below.os T.below.tape T.below.output (fun _ h=>.inl h) (fun b h=>by rcases h with h|h;exact .inl h;exact .inr h.1) (fun _ _ h=>h)
 ·exact S.stay hb hz (fun _ h=>.inl h) (fun b h=>by rcases h with h|h;exact Nat.lt_of_lt_of_le (S.dead b h) hz;exact h.2) (fun b h=>by rcases h with h|h;exact .inl h;exact .inr h.1) (fun _ _ h=>h)
theorem xt {g0:Rows} {f:Nat} {args:List AV} {n:Nat} {K:AV->Prop} {vs:Array Value} (h:PCv (Sound P) f args ⟨g0,n⟩ K) (qq:∀id r,g0 id=some r->g id=some r) (S:gm P hs D ι g w) (U:Used ι n (fun _=>False)) (A:fe P w D ι args vs):
  Calls P f vs w fun e w'=>∃r D' u,e=.returned u/\K r/\Step hs D ι w D' ι w'/\gm P hs D' ι g w'/\dd P w' D' ι r u:=by
 obtain⟨eC,ha,h⟩:=h
 let D1:Nat->Prop:=fun b=>D b∨∃id r B,g id=some r/\ι id=some B/\b=B.b
 have lt:∀id r B,g id=some r->ι id=some B->B.b<w.heap.size:=fun id r B h1 h2=>by
  obtain⟨B',dC,R,_⟩:=S.row id r h1
  rw[h2]at dC;injection dC with dC;subst dC
  exact R.lt
 have S0:gm P w.heap.size D1 ι (fun _=>none) w:=⟨Nat.le_refl _,fun b hb=>by
  rcases hb with hb|⟨id,r,B,h1,h2,rfl⟩
  ·exact S.dead b hb
  ·exact lt id r B h1 h2,fun id r h=>(by cases h),fun id kI r r' B B' h=>(by cases h)⟩
 obtain⟨l1,l2⟩:=gq ha
 have A':fe P w D1 ι eC vs:=⟨by rw[A.1,l1],fun j a hj=>by
  obtain⟨a0,k7,hf⟩:=l2 j a hj
  obtain⟨u,hu,hr⟩:=A.2 j a0 k7
  refine⟨u,hu,(rq (D2:=D1) (ι2:=ι) (fun b h=>.inl h) (fun id row hg hw=>?_) 6 a0 u a hr hf).1⟩
  unfold dM at hg
  simp only[Option.map_eq_some_iff]at hg
  obtain⟨r,nL,rfl⟩:=hg
  obtain⟨B,hB,R,_,_⟩:=S.row id r (qq id r nL)
  exact⟨B,hB,R.flag true,.inr ⟨id,r,B,qq id r nL,hB,rfl⟩⟩⟩
 refine(h w.heap.size D1 ι w vs S0 U A').mono ?_
 rintro e w' ⟨r0,g',n',D2,ι1,u,rfl,⟨r,hr,hK⟩,T,S1,_,_,hR⟩
 have hb:∀b,b<w.heap.size->w'.heap[b]? =w.heap[b]? :=T.below.block
 have hz:=T.below.size
 have q:=F7 (D2:=fun b=>D b∨(w.heap.size<=b/\b<w'.heap.size)) (ι2:=ι) (fun id row hg hw=>by
  obtain⟨B,hB,R,h1,_⟩:=S1.row id row hg
  exact⟨B,hB,R,.inr ⟨h1 hw,R.lt⟩⟩) 6 r0 u r hR hr
 refine⟨r,_,u,rfl,hK,?_,?_,q.1⟩
 ·exact Step.stay S hb hz T.below.os T.below.tape T.below.output (fun _ h=>.inl h) (fun b h=>by rcases h with h|h;exact .inl h;exact .inr h.1) (fun _ _ h=>h)
 ·exact S.stay hb hz (fun _ h=>.inl h) (fun b h=>by rcases h with h|h;exact Nat.lt_of_lt_of_le (S.dead b h) hz;exact h.2) (fun b h=>by rcases h with h|h;exact .inl h;exact .inr h.1) (fun _ _ h=>h)
theorem FG {g0:Rows} {f:Nat} {args:List AV} {n:Nat} {K:AV->Prop} {vs:Array Value} (h:gj (Sound P) f args ⟨g0,n⟩ K) (qq:∀id r,g0 id=some r->g id=some r) (S:gm P hs D ι g w) (U:Used ι n (fun _=>False)) (A:fe P w D ι args vs):
  Calls P f vs w fun e w'=>∃r D' u,e=.returned u/\K r/\Step hs D ι w D' ι w'/\gm P hs D' ι g w'/\dd P w' D' ι r u:=by
 rcases h with h|h
 ·exact Ar h qq S U A
 ·exact xt h qq S U A
theorem GW {D1 D2:Nat->Prop} {ι1 ι2:Names} {w1:World} {a:AV} {v:Value} (hp:a.plain=true) (h:dd P w D1 ι1 a v):dd P w1 D2 ι2 a v:=by
 cases h with
 |eO a v h=>cases h<;>first|(simp[AV.plain]at hp;done)|exact .eO _ _ (by constructor)
 |_=>simp[AV.plain]at hp
theorem gm.add {r:Row} {B:sk} (S:gm P hs D ι g w) (S':gm P hs D ι g w') (hf:ι id=none) (jT:w.heap.size<=B.b) (R:gP P w' D (j7 ι id B) B r):gm P hs D (j7 ι id B) (bI g id r) w':=by
 have lt:∀kI r' B',g kI=some r'->ι kI=some B'->B'.b<w.heap.size:=fun kI r' B' h1 h2=>by
  obtain⟨B2,pD,R2,_⟩:=S.row kI r' h1
  rw[h2]at pD;injection pD with pD;subst pD
  exact R2.lt
 have ne:∀kI r',g kI=some r'->kI≠id:=fun kI r' h he=>by
  subst he
  obtain⟨B2,pD,_⟩:=S.row _ r' h
  rw[hf]at pD;cases pD
 refine⟨S'.lo,S'.dead,fun kI r' h=>?_,fun Rj id2 r1 r2 B1 B2 h1 h2 hw Ae pD hb=>?_⟩
 ·unfold bI at h
  split at h
  ·rename_i he
   subst he
   injection h with h;subst h
   exact⟨B,er _ _ _,R,fun _=>Nat.le_trans S.lo jT,fun _ hd=>Nat.lt_irrefl _ (Nat.lt_of_lt_of_le (S.dead _ hd) jT)⟩
  ·obtain⟨B',dC,R',k1,k2⟩:=S'.row kI r' h
   exact⟨B',by rw[fX (ne _ _ h)];exact dC,R'.frame rfl (fun a v hr=>hr.frame (fun _ _=>rfl) (fun _ h=>h) (fK hf)),k1,k2⟩
 ·unfold bI at h1 h2
  split at h1
  ·rename_i e1
   split at h2
   ·rename_i e2;rw[e1,e2]
   ·exfalso
    subst e1
    rw[er]at Ae;injection Ae with Ae;subst Ae
    rw[fX (ne _ _ h2)]at pD
    have:=lt _ _ _ h2 pD
    omega
  ·rw[fX (ne _ _ h1)]at Ae
   split at h2
   ·rename_i e2
    exfalso
    subst e2
    rw[er]at pD;injection pD with pD;subst pD
    have:=lt _ _ _ h1 Ae
    omega
   ·rw[fX (ne _ _ h2)]at pD
    exact S'.inj Rj id2 r1 r2 B1 B2 h1 h2 hw Ae pD hb
theorem Hy {g0:Rows} {f:Nat} {args:List AV} {n sz:Nat} {rows:List (List AV)} {vs:Array Value} (h:CM (Sound P) f args ⟨g0,n⟩ sz rows) (qq:∀id r,g0 id=some r->g id=some r) (S:gm P hs D ι g w) (U:Used ι n (fun _=>False)) (A:fe P w D ι args vs) (hf:ι id=none):
  Calls P f vs w fun e w'=>∃u B,e=.returned u/\Step hs D ι w D (j7 ι id B) w'/\gm P hs D (j7 ι id B) (bI g id ⟨true,sz,rows⟩) w'/\dd P w' D (j7 ι id B) (.own id 0 rows.length) u:=by
 obtain⟨ml,eC,ha,h⟩:=h
 let D1:Nat->Prop:=fun b=>D b∨∃id r B,g id=some r/\ι id=some B/\b=B.b
 have lt:∀id r B,g id=some r->ι id=some B->B.b<w.heap.size:=fun id r B h1 h2=>by
  obtain⟨B',dC,R,_⟩:=S.row id r h1
  rw[h2]at dC;injection dC with dC;subst dC
  exact R.lt
 have S0:gm P w.heap.size D1 ι (fun _=>none) w:=⟨Nat.le_refl _,fun b hb=>by
  rcases hb with hb|⟨id,r,B,h1,h2,rfl⟩
  ·exact S.dead b hb
  ·exact lt id r B h1 h2,fun id r h=>(by cases h),fun id kI r r' B B' h=>(by cases h)⟩
 obtain⟨l1,l2⟩:=gq ha
 have A':fe P w D1 ι eC vs:=⟨by rw[A.1,l1],fun j a hj=>by
  obtain⟨a0,k7,hz⟩:=l2 j a hj
  obtain⟨u,hu,hr⟩:=A.2 j a0 k7
  refine⟨u,hu,(rq (D2:=D1) (ι2:=ι) (fun b h=>.inl h) (fun id row hg hw=>?_) 6 a0 u a hr hz).1⟩
  unfold dM at hg
  simp only[Option.map_eq_some_iff]at hg
  obtain⟨r,nL,rfl⟩:=hg
  obtain⟨B,hB,R,_,_⟩:=S.row id r (qq id r nL)
  exact⟨B,hB,R.flag true,.inr ⟨id,r,B,qq id r nL,hB,rfl⟩⟩⟩
 refine(h w.heap.size D1 ι w vs S0 U A').mono ?_
 rintro e w' ⟨r0,g',n',D2,ι1,u,rfl,⟨i0,hr,hg⟩,T,S1,_,_,hR⟩
 subst hr
 have hb:∀b,b<w.heap.size->w'.heap[b]? =w.heap[b]? :=T.below.block
 have hz:=T.below.size
 obtain⟨B,hB,R,k1,_⟩:=S1.row i0 _ hg
 have jT:w.heap.size<=B.b:=k1 rfl
 obtain⟨o,cap,B',rfl,dC,q2,q3,q4,q5,hk⟩:=iN hR
 rw[hB]at dC;injection dC with dC;subst dC
 replace R:=R.row hk
 have S':gm P hs D ι g w':=S.stay hb hz (fun _ h=>h) (fun b h=>Nat.lt_of_lt_of_le (S.dead b h) hz) (fun b h=>.inl h) (fun _ _ h=>h)
 have R':kD P w' D (j7 ι id B) B ⟨true,sz,rows⟩:=⟨R.sz,R.xz,R.fits,R.len,R.flat,fun i j cs a hi hj=>by
  obtain⟨v,h1,h2⟩:=R.at_ i j cs a hi hj
  exact⟨v,h1,GW (ml cs (List.mem_of_getElem? hi) a (List.mem_of_getElem? hj)) h2⟩⟩
 exact⟨_,B,rfl,Step.stay S hb hz T.below.os T.below.tape T.below.output (fun _ h=>h) (fun _ h=>.inl h) (fK hf),S.add S' hf jT (R'.obj hk),.own id 0 _ _ _ B (er _ _ _) hk q2 q3 q4 q5⟩
theorem jo {f:Nat} {args:Array Value} (hc:fG P f=true):(callFunc f args).run P w=.ok (.enter f args) w:=by
 unfold fG at hc
 split at hc
 ·rename_i fn hf
  simp only[Bool.and_eq_true,Bool.not_eq_true']at hc
  have hb:fn.body.isNone=false:=by cases hq:fn.body<;>simp_all
  simp only[callFunc,Sem.run_bind,run_program,Result.andThen_ok,hf,hc.2,Bool.false_eq_true,if_false,hb]
  rfl
 ·simp at hc
theorem Bz {f:Nat} {args:List O} (hc:qL P o.op=some (.call f args)):∃c,o.op=.call c/\c.callee=.value (.func f)/\fG P f=true/\c.args.toList.mapM (cO P)=some args:=by
 unfold qL at hc
 split at hc
 case h_23=>
  rename_i c ho
  refine⟨c,ho,?_⟩
  unfold nu at hc
  split at hc
  all_goals (try(repeat' (split at hc))<;>(simp only[Option.bind_eq_bind,Option.bind_eq_some_iff,Option.pure_def,Option.some.injEq,Option.map_eq_some_iff,reduceCtorEq,and_false,exists_false]at hc))
  all_goals simp_all
 all_goals (try unfold uM at hc)<;>(try unfold sr at hc)<;>(repeat' (split at hc))<;>(simp only[Option.bind_eq_bind,Option.bind_eq_some_iff,Option.pure_def,Option.some.injEq,Option.map_eq_some_iff,reduceCtorEq,and_false,exists_false]at hc)
theorem sN {x:O} {args:List O} (hc:qL P o.op=some (.td x args)):∃c t,o.op=.call c/\c.callee=.value (.tmp t)/\x=.t t/\c.args.toList.mapM (cO P)=some args:=by
 unfold qL at hc
 split at hc
 case h_23=>
  rename_i c ho
  refine⟨c,?_⟩
  unfold nu at hc
  split at hc
  all_goals (try(repeat' (split at hc))<;>(simp only[Option.bind_eq_bind,Option.bind_eq_some_iff,Option.pure_def,Option.some.injEq,Option.map_eq_some_iff,reduceCtorEq,and_false,exists_false]at hc))
  all_goals simp_all
 all_goals (try unfold uM at hc)<;>(try unfold sr at hc)<;>(repeat' (split at hc))<;>(simp only[Option.bind_eq_bind,Option.bind_eq_some_iff,Option.pure_def,Option.some.injEq,Option.map_eq_some_iff,reduceCtorEq,and_false,exists_false]at hc)
theorem Gs {n:Nat} {x y:O} (hc:qL P o.op=some (.store n x y)):∃t x' y',o.op=.store t x' y'/\dW P t=some n/\cO P x'=some x/\cO P y'=some y:=by
 unfold qL at hc
 split at hc
 case h_7=>
  rename_i t x' y' ho
  refine⟨t,x',y',ho,?_⟩
  simp only[Option.bind_eq_bind,Option.bind_eq_some_iff,Option.pure_def,Option.some.injEq]at hc
  obtain⟨n',h1,x2,h2,y2,h3,he⟩:=hc
  injection he with e1 e2 e3
  subst e1;subst e2;subst e3
  exact⟨h1,h2,h3⟩
 all_goals (try unfold uM at hc)<;>(try unfold sr at hc)<;>(try unfold nu at hc)<;>(repeat' (split at hc))<;>(simp only[Option.bind_eq_bind,Option.bind_eq_some_iff,Option.pure_def,Option.some.injEq,Option.map_eq_some_iff,reduceCtorEq,and_false,exists_false]at hc)
theorem DG {n:Nat} {x y:O} (hc:qL P o.op=some (.append n x y)):∃(t e:TypeId) (m:Nat) (z:List K) (i:TypeInfo) (x' y':Operand),n=m+1/\o.op=.call {callee:=.builtin .append,args:= #[x',y'],argTypes:= #[t,t]}/\
  P.underlying t=some (.slice e)/\dW P e=some (m+1)/\jz P e=some z/\P.info? e=some i/\i.bytes<=32768/\cO P x'=some x/\cO P y'=some y:=by
 unfold qL at hc
 split at hc
 case h_23=>
  rename_i c ho
  unfold nu at hc
  split at hc
  case h_2=>
   rename_i kf
   split at hc
   ·rename_i x' y' t u h1 h2
    split at hc
    ·rename_i e ht
     split at hc
     ·rename_i m z i e1 e2 e3
      split at hc
      ·rename_i hb
       simp only[Option.bind_eq_bind,Option.bind_eq_some_iff,Option.pure_def,Option.some.injEq]at hc
       obtain⟨x2,h3,y2,h4,he⟩:=hc
       injection he with k1 k2 k3
       subst k1;subst k2;subst k3
       obtain⟨Hr,rfl⟩:=hb
       refine⟨t,e,m,z,i,x',y',rfl,?_,ht,e1,e2,e3,Hr,h3,h4⟩
       rw[ho]
       obtain⟨ca,cb,cc⟩:=c
       simp only at h1 h2 kf
       subst kf
       congr
       ·exact Array.ext' h1
       ·exact Array.ext' h2
      ·simp at hc
     ·simp at hc
    ·simp at hc
   ·simp at hc
  all_goals (repeat' (split at hc))<;>(simp only[Option.bind_eq_bind,Option.bind_eq_some_iff,Option.pure_def,Option.some.injEq,Option.map_eq_some_iff,reduceCtorEq,and_false,exists_false]at hc)
 all_goals (try unfold uM at hc)<;>(try unfold sr at hc)<;>(repeat' (split at hc))<;>(simp only[Option.bind_eq_bind,Option.bind_eq_some_iff,Option.pure_def,Option.some.injEq,Option.map_eq_some_iff,reduceCtorEq,and_false,exists_false]at hc)
theorem IY {n:Nat} {x y:O} (hc:qL P o.op=some (.copy n x y)):∃(t t2 e:TypeId) (m:Nat) (x' y':Operand),n=m+1/\o.op=.call {callee:=.builtin .copy,args:= #[x',y'],argTypes:= #[t,t2]}/\
  P.underlying t=some (.slice e)/\dW P e=some (m+1)/\cO P x'=some x/\cO P y'=some y:=by
 unfold qL at hc
 split at hc
 case h_23=>
  rename_i c ho
  unfold nu at hc
  split at hc
  case h_7=>
   rename_i kf
   split at hc
   ·rename_i x' y' t t2 h1 h2
    split at hc
    ·rename_i e ht
     split at hc
     ·rename_i m e1
      simp only[Option.bind_eq_bind,Option.bind_eq_some_iff,Option.pure_def,Option.some.injEq,gn.copy.injEq]at hc
      obtain⟨x2,h3,y2,h4,k0,k1,k2⟩:=hc
      subst k1;subst k2
      refine⟨t,t2,e,m,x',y',k0.symm,?_,ht,e1,h3,h4⟩
      rw[ho]
      obtain⟨ca,cb,cc⟩:=c
      simp only at h1 h2 kf
      subst kf
      congr
      ·exact Array.ext' h1
      ·exact Array.ext' h2
     ·simp at hc
    ·simp at hc
   ·simp at hc
  all_goals (repeat' (split at hc))<;>(simp only[Option.bind_eq_bind,Option.bind_eq_some_iff,Option.pure_def,Option.some.injEq,Option.map_eq_some_iff,reduceCtorEq,and_false,exists_false]at hc)
 all_goals (try unfold uM at hc)<;>(try unfold sr at hc)<;>(repeat' (split at hc))<;>(simp only[Option.bind_eq_bind,Option.bind_eq_some_iff,Option.pure_def,Option.some.injEq,Option.map_eq_some_iff,reduceCtorEq,and_false,exists_false]at hc)
theorem Gr {z:List K} {x:O} (hc:qL P o.op=some (.clear z x)):∃(t e:TypeId) (m:Nat) (x':Operand),o.op=.call {callee:=.builtin .clear,args:= #[x'],argTypes:= #[t]}/\
  P.underlying t=some (.slice e)/\dW P e=some (m+1)/\jz P e=some z/\cO P x'=some x:=by
 unfold qL at hc
 split at hc
 case h_23=>
  rename_i c ho
  unfold nu at hc
  split at hc
  case h_3=>
   rename_i kf
   split at hc
   ·rename_i x' t h1 h2
    split at hc
    ·rename_i e ht
     split at hc
     ·rename_i m z' e1 e2
      simp only[Option.map_eq_some_iff]at hc
      obtain⟨x2,h3,he⟩:=hc
      injection he with k1 k2
      subst k1;subst k2
      refine⟨t,e,m,x',?_,ht,e1,e2,h3⟩
      rw[ho]
      obtain⟨ca,cb,cc⟩:=c
      simp only at h1 h2 kf
      subst kf
      congr
      ·exact Array.ext' h1
      ·exact Array.ext' h2
     ·simp at hc
    ·simp at hc
   ·simp at hc
  all_goals (repeat' (split at hc))<;>(simp only[Option.bind_eq_bind,Option.bind_eq_some_iff,Option.pure_def,Option.some.injEq,Option.map_eq_some_iff,reduceCtorEq,and_false,exists_false]at hc)
 all_goals (try unfold uM at hc)<;>(try unfold sr at hc)<;>(repeat' (split at hc))<;>(simp only[Option.bind_eq_bind,Option.bind_eq_some_iff,Option.pure_def,Option.some.injEq,Option.map_eq_some_iff,reduceCtorEq,and_false,exists_false]at hc)
theorem OD {q:MW} {xs:List O} (hc:qL P o.op=some (.mw q xs)):
  (∃t x k y m z x' k' y',(o.op=.mapUpdate t x k y∨o.op=.insert t x k y)/\su P t=some (m,z)/\cO P x=some x'/\cO P k=some k'/\cO P y=some y'/\q=.set m/\xs=[x',k',y'])∨
  (∃t t' x k m z x' k',o.op=.call {callee:=.builtin .delete,args:= #[x,k],argTypes:= #[t,t']}/\su P t=some (m,z)/\cO P x=some x'/\cO P k=some k'/\q=.del m/\xs=[x',k']):=by
 unfold qL at hc
 split at hc
 case h_23=>
  rename_i c ho
  right
  unfold nu at hc
  split at hc
  case h_6=>
   rename_i kf
   split at hc
   ·rename_i x k t t' h1 h2
    split at hc
    ·rename_i m z x' k' e1 e2 e3
     injection hc with hc
     injection hc with q1 q2
     refine⟨t,t',x,k,m,z,x',k',?_,e1,e2,e3,q1.symm,q2.symm⟩
     rw[ho]
     obtain⟨ca,cb,cc⟩:=c
     simp only at h1 h2 kf
     subst kf
     congr
     ·exact Array.ext' h1
     ·exact Array.ext' h2
    ·cases hc
   ·cases hc
  all_goals (repeat' (split at hc))<;>(simp only[Option.bind_eq_bind,Option.bind_eq_some_iff,Option.pure_def,Option.some.injEq,Option.map_eq_some_iff,reduceCtorEq,and_false,exists_false]at hc)
 case h_29=>
  rename_i t x k y ho
  left
  split at hc
  ·rename_i m z x' k' y' e1 e2 e3 e4
   injection hc with hc
   injection hc with q1 q2
   exact⟨t,x,k,y,m,z,x',k',y',.inl ho,e1,e2,e3,e4,q1.symm,q2.symm⟩
  ·cases hc
 case h_30=>
  rename_i t x k y ho
  left
  split at hc
  ·rename_i m z x' k' y' e1 e2 e3 e4
   injection hc with hc
   injection hc with q1 q2
   exact⟨t,x,k,y,m,z,x',k',y',.inr ho,e1,e2,e3,e4,q1.symm,q2.symm⟩
  ·cases hc
 all_goals (try unfold uM at hc)<;>(try unfold sr at hc)<;>(repeat' (split at hc))<;>(simp only[Option.bind_eq_bind,Option.bind_eq_some_iff,Option.pure_def,Option.some.injEq,Option.map_eq_some_iff,reduceCtorEq,and_false,exists_false]at hc)
def jd (g:Rows) (id:Id):Option Row->Rows
 |some r=>bI g id r
 |none=>g
def uO (X:fA) (hid:List Nat) (site n:Nat) (f:Nat) (args:List AV) (g:Rows) (v:AV) (g':Rows):Prop:=
 (gj X f args ⟨fY hid n g,n+1⟩ (fun r=>r=v)/\g'=g)∨
 (hid.contains site=true/\∃sz rows,CM X f args ⟨fY hid n g,n+1⟩ sz rows/\v=.own ⟨site,n⟩ 0 rows.length/\g'=bI g ⟨site,n⟩ ⟨true,sz,rows⟩)
def VS (X:fA) (n:Nat) (vo:bq) (env:Env) (g:Rows) (v:AV) (g':Rows):Prop:=
 match vo.op with
 | .call f args=>uO X vo.hid vo.site n f (args.map (cL env)) g v g'
 | .td x args=>∃f l,uN (cL env x) (args.map (cL env))=some (f,l)/\uO X vo.hid vo.site n f l g v g'
 | .store .. | .append .. | .copy .. | .clear .. | .mw .. =>fZ vo.op (cL env) g ⟨vo.site,n⟩=some (v,g')
 |_=>∃mr,eP vo.op (cL env) (fY vo.hid n g) ⟨vo.site,n⟩=some (v,mr)/\g'=jd g ⟨vo.site,n⟩ mr
def Mq (P:Program) (hs:Nat) (D:Nat->Prop) (ι:Names) (w:World) (U:Nat->Prop) (site n:Nat) (a:Act) (dst:Option Tmp) (v:AV) (g':Rows) (a':Act) (w':World):Prop:=
 ∃u D' ι',a'=a.put dst u/\Step hs D ι w D' ι' w'/\gm P hs D' ι' g' w'/\dd P w' D' ι' v u/\Used ι' n (fun s=>U s∨s=site)
theorem fresh {n:Nat} {U:Nat->Prop} {s:Nat} (h:Used ι n U) (hU:¬U s):ι ⟨s,n⟩=none:=by
 cases hq:ι ⟨s,n⟩with
 |none=>rfl
 |some B=>
  rcases h ⟨s,n⟩ (by rw[hq];simp)with h|⟨_,h⟩
  ·exact absurd h (Nat.lt_irrefl _)
  ·exact absurd h hU
theorem Used.more {n:Nat} {U U':Nat->Prop} (h:Used ι n U) (hU:∀s,U s->U' s):Used ι n U':=fun id hid=>by
 rcases h id hid with h|⟨h1,h2⟩
 ·exact .inl h
 ·exact .inr ⟨h1,hU _ h2⟩
theorem Used.next {n:Nat} {U:Nat->Prop} (h:Used ι n U):Used ι (n+1) (fun _=>False):=fun id hid=>by
 rcases h id hid with h|⟨h1,_⟩
 ·exact .inl (Nat.lt_succ_of_lt h)
 ·exact .inl (by omega)
theorem Used.upd {n:Nat} {U:Nat->Prop} {s:Nat} {B:sk} (h:Used ι n U):Used (j7 ι ⟨s,n⟩ B) n (fun x=>U x∨x=s):=fun id hid=>by
 by_cases he:id=⟨s,n⟩
 ·subst he;exact .inr ⟨rfl,.inr rfl⟩
 ·rw[fX he]at hid
  exact(h.more (U':=fun x=>U x∨x=s) fun _ h=>Or.inl h) id hid
theorem n9 {xs:Array Operand} {ys:List O} (E:cj P w D ι env a) (h:xs.toList.mapM (cO P)=some ys):fe P w D ι (ys.map (cL env)) (xs.map a.eval):=by
 obtain⟨h1,h2⟩:=D4 E h
 refine⟨by simpa using h1,fun j b hj=>?_⟩
 simp only[List.getElem?_map,Option.map_eq_some_iff]at hj
 obtain⟨y,hy,rfl⟩:=hj
 have dP:j<xs.size:=by have:=(List.getElem?_eq_some_iff.1 hy).1;simp at h1;omega
 refine⟨a.eval xs[j],by simp[dP],?_⟩
 have:=h2 j y hy
 simpa[List.getD_eq_getElem?_getD,dP]using this
theorem oM {xs ys:List AV} {vs us:Array Value} (h:fe P w D ι xs vs) (k:fe P w D ι ys us):fe P w D ι (xs++ys) (vs++us):=
 ⟨by simp[h.1,k.1],fun j b hj=>by
  by_cases dP:j<xs.length
  ·rw[List.getElem?_append_left dP]at hj
   obtain⟨u,hu,xg⟩:=h.2 j b hj
   exact⟨u,by rw[Array.getElem?_append_left (by rw[h.1];exact dP)];exact hu,xg⟩
  ·rw[List.getElem?_append_right (by omega)]at hj
   obtain⟨u,hu,xg⟩:=k.2 _ b hj
   exact⟨u,by rw[Array.getElem?_append_right (by rw[h.1];omega),h.1];exact hu,xg⟩⟩
theorem wc:fe P w D ι [] #[]:=⟨rfl,fun j b hj=>by simp at hj⟩
theorem uP {x:AV} {l l':List AV} {f:Nat} {vs:Array Value} {v:Value} (h:uN x l=some (f,l')) (hr:dd P w D ι x v) (hA:fe P w D ι l vs):
  ∃first cH,v=.func (.func f) first cH/\fG P f=true/\fe P w D ι l' (first++vs++cH):=by
 unfold uN at h
 split at h
 ·simp only[Option.some.injEq,Prod.mk.injEq]at h
  obtain⟨rfl,rfl⟩:=h
  obtain⟨us,q,he,E0,n1,q1,q2⟩:=wg hr
  refine⟨#[],us,he,E0,?_⟩
  rw[Array.empty_append]
  exact oM hA ⟨n1,fun j b hj=>⟨q j,q1 j (List.getElem?_eq_some_iff.1 hj).1,q2 j b hj⟩⟩
 ·simp only[Option.some.injEq,Prod.mk.injEq]at h
  obtain⟨rfl,rfl⟩:=h
  obtain⟨us,q,he,E0,n1,q1,q2⟩:=L3 hr
  refine⟨us, #[],he,E0,?_⟩
  rw[Array.append_empty]
  exact oM ⟨n1,fun j b hj=>⟨q j,q1 j (List.getElem?_eq_some_iff.1 hj).1,q2 j b hj⟩⟩ hA
 ·cases h
theorem Av {n:Nat} {vo:bq} {g':Rows} {U:Nat->Prop} {Q:Exit->Act->World->Prop} {K:Act->World->Prop} (hc:qL P o.op=some vo.op) (hv:VS (Sound P) n vo env g v g') (S:gm P hs D ι g w) (Us:Used ι n U) (hU:¬U vo.site) (E:cj P w D ι env a)
  (hK:∀a' w',Mq P hs D ι w U vo.site n a o.dst v g' a' w'->K a' w'):o.wp P a w K Q:=by
 have hf:=fresh Us hU
 have AG:∀(f:Nat) (args:List AV) (vs:Array Value),uO (Sound P) vo.hid vo.site n f args g v g'->fe P w D ι args vs->(execOp a.eval o).run P w=.ok (.enter f vs) w->o.wp P a w K Q:=by
  intro f args vs hP hA gr
  unfold Oper.wp
  rw[gr]
  rcases hP with⟨hP,rfl⟩|⟨_,sz,rows,hM,rfl,rfl⟩
  ·refine(FG hP zZ S Us.next hA).mono ?_
   rintro e w' ⟨r,D',u,rfl,rfl,T,S',hR⟩
   exact hK _ _ ⟨u,D',ι,rfl,T,S',hR,Us.more fun _ h=>.inl h⟩
  ·refine(Hy hM zZ S Us.next hA hf).mono ?_
   rintro e w' ⟨u,B,rfl,T,S',hR⟩
   exact hK _ _ ⟨u,D,_,rfl,T,S',hR,Us.upd⟩
 have quiet:∀(mr:Option Row),eP vo.op (cL env) (fY vo.hid n g) ⟨vo.site,n⟩=some (v,mr)->g'=jd g ⟨vo.site,n⟩ mr->o.wp P a w K Q:=by
  intro mr hq hg
  have SD:=yu hc hq (S.sub zZ) E
  unfold Oper.wp
  cases mr with
  |none=>
   obtain⟨u,gr,hR⟩:=SD
   rw[gr]
   subst hg
   exact hK _ _ ⟨u,D,ι,rfl,Step.refl _ _ _ _,S,hR,Us.more fun _ h=>.inl h⟩
  |some r=>
   rcases SD with⟨u,cells,T,gr,h1,h2,h3,h4,h5,h6⟩|⟨m,gr,Lm,Ai⟩|⟨c,gr,Lm,Ai⟩
   case inr.inr=>
    rw[gr]
    subst hg Lm Ai
    have fb:w.heap.size<(w.alloc (.chan c #[] false 0 0 false)).heap.size:=by simp
    have S':=S.stay (w':=w.alloc (.chan c #[] false 0 0 false)) (D':=D) (ι':=ι) (fun k hk=>Below.heap_alloc _ _ _ hk) (by simp) (fun _ h=>h) (fun b hd=>Nat.lt_trans (S.dead b hd) fb) (fun _ h=>.inl h) (fun _ _ h=>h)
    have S1:=S.add S' (id:=⟨vo.site,n⟩) (B:=⟨w.heap.size,qh+c,0,some (.chan c)⟩) (r:=⟨true,qh+c,[]⟩) hf (Nat.le_refl _) ⟨rfl,fun cs h=>by simp at h,fun h=>by simp at h,fun m' h=>(by simp at h),fun c' h=>by
     simp only[Option.some.injEq,BK.chan.injEq]at h;subst h
     exact⟨rfl, #[],0,0,(show(w.heap.push (Obj.chan c #[] false 0 0 false))[w.heap.size]? =some (Obj.chan c #[] false 0 0 false) by simp),rfl,fun i cs h=>by simp at h⟩⟩
    exact hK _ _ ⟨_,D,_,rfl,Step.stay S (fun k hk=>Below.heap_alloc _ _ _ hk) (by simp) rfl rfl rfl (fun _ h=>h) (fun _ h=>.inl h) (fK hf),S1,.rf _ _ _ (er _ _ _) rfl,Us.upd⟩
   case inr.inl=>
    rw[gr]
    subst hg Lm Ai
    have fb:w.heap.size<(w.alloc (.map #[] 0)).heap.size:=by simp
    have S':=S.stay (w':=w.alloc (.map #[] 0)) (D':=D) (ι':=ι) (fun k hk=>Below.heap_alloc _ _ _ hk) (by simp) (fun _ h=>h) (fun b hd=>Nat.lt_trans (S.dead b hd) fb) (fun _ h=>.inl h) (fun _ _ h=>h)
    have S1:=S.add S' (id:=⟨vo.site,n⟩) (B:=⟨w.heap.size,m.lJ,0,some (.map m)⟩) (r:=⟨true,m.lJ,[]⟩) hf (Nat.le_refl _) ⟨rfl,fun cs h=>by simp at h,fun h=>by simp at h,fun m' h=>by
     simp only[Option.some.injEq,BK.map.injEq]at h;subst h
     exact⟨rfl, #[],0,(show(w.heap.push (Obj.map #[] 0))[w.heap.size]? =some (Obj.map #[] 0) by simp),rfl,⟨fun cs h=>by simp at h,fun x h=>by simp at h,by simp⟩,fun i cs h=>by simp at h⟩,fun c h=>by simp at h⟩
    exact hK _ _ ⟨_,D,_,rfl,Step.stay S (fun k hk=>Below.heap_alloc _ _ _ hk) (by simp) rfl rfl rfl (fun _ h=>h) (fun _ h=>.inl h) (fK hf),S1,.map _ _ _ (er _ _ _) rfl,Us.upd⟩
   rw[gr]
   subst hg
   have S1:=S.alloc (id:=⟨vo.site,n⟩) (w':=w.alloc (.cells cells T)) rfl hf h1 h2 h3 h4 h5
   refine hK _ _ ⟨u,D,_,rfl,Step.stay S (fun k hk=>Below.heap_alloc _ _ _ hk) (by simp) rfl rfl rfl (fun _ h=>h) (fun _ h=>.inl h) (fK hf),S1,(h6 (j7 ι _ _) (er _ _ _)).frame (fun b hd=>Below.heap_alloc _ _ _ (S.dead b hd)) (fun _ h=>h) (fun _ _ h=>h),Us.upd⟩
 have Pw:fZ vo.op (cL env) g ⟨vo.site,n⟩=some (v,g')->(∀Kt,CF P hs a o Kt D ι ⟨vo.site,n⟩ v g'->Kt=w->o.wp P a w K Q):=by
  intro _ Kt hE he
  subst he
  obtain⟨u,w',ι',gr,T,S',hR,hι⟩:=hE
  have Iw:Mq P hs D ι Kt U vo.site n a o.dst v g' (a.put o.dst u) w':=⟨u,D,ι',rfl,T,S',hR,fun id hid=>by
   by_cases he:id=⟨vo.site,n⟩
   ·subst he;exact .inr ⟨rfl,.inr rfl⟩
   ·rw[hι id he]at hid
    exact(Us.more (U':=fun x=>U x∨x=vo.site) fun _ h=>Or.inl h) id hid⟩
  unfold Oper.wp
  rcases gr with gr|⟨gr,rfl⟩
  ·rw[gr];exact hK _ _ Iw
  ·rw[gr];exact hK _ _ Iw
 unfold VS at hv
 split at hv
 ·rename_i f args dG
  rw[dG]at hc
  obtain⟨c,ho,kf,E0,ny⟩:=Bz hc
  refine AG f _ (c.args.map a.eval) hv (n9 E ny) ?_
  simp only[execOp,ho,resolve,kf,Deferred.ofValue,Act.eval,Sem.run_bind,Sem.run_pure,Result.andThen_ok,invoke,Array.empty_append,Array.append_empty]
  exact jo E0
 ·rename_i x args dG
  obtain⟨f,l,hx,hP⟩:=hv
  rw[dG]at hc
  obtain⟨c,t,ho,kf,rfl,ny⟩:=sN hc
  obtain⟨first,cH,he,E0,hL⟩:=uP (v:=a.eval (.tmp t)) hx (E t) (n9 E ny)
  refine AG f _ (first++c.args.map a.eval++cH) hP hL ?_
  simp only[execOp,ho,resolve,kf,he,Deferred.ofValue,Sem.run_bind,Sem.run_pure,Result.andThen_ok,invoke]
  exact jo E0
 ·rename_i m x y dG
  have j6:=hc
  rw[dG]at j6
  obtain⟨t,x',y',ho,h1,h2,h3⟩:=Gs j6
  have nJ:=hv
  rw[dG]at nJ
  simp only[fZ,Option.map_eq_some_iff,Prod.mk.injEq]at nJ
  obtain⟨g1,Ah,rfl,rfl⟩:=nJ
  exact Pw hv w (KM S E ho h1 h2 h3 Ah) rfl
 ·rename_i m x y dG
  have j6:=hc
  rw[dG]at j6
  obtain⟨t,e,m',z,i,x',y',rfl,ho,h1,h2,h3,h4,h5,h6,h7⟩:=DG j6
  have nJ:=hv
  rw[dG]at nJ
  simp only[fZ,Option.bind_eq_some_iff]at nJ
  obtain⟨ys,CD,nJ⟩:=nJ
  exact Pw hv w (Ia S E hf ho h1 h2 h3 h4 h5 h6 h7 CD nJ) rfl
 ·rename_i m x y dG
  have j6:=hc
  rw[dG]at j6
  obtain⟨t,t2,e,m',x',y',rfl,ho,h1,h2,h3,h4⟩:=IY j6
  have nJ:=hv
  rw[dG]at nJ
  simp only[fZ,Option.bind_eq_some_iff]at nJ
  obtain⟨ys,CD,nJ⟩:=nJ
  exact Pw hv w (NA S E ho h1 h2 h3 h4 CD nJ) rfl
 ·rename_i z x dG
  have j6:=hc
  rw[dG]at j6
  obtain⟨t,e,m',x',ho,h1,h2,h3,h4⟩:=Gr j6
  have nJ:=hv
  rw[dG]at nJ
  simp only[fZ,Option.map_eq_some_iff,Prod.mk.injEq]at nJ
  obtain⟨g1,Ah,rfl,rfl⟩:=nJ
  exact Pw hv w (KL S E ho h1 h2 h3 h4 Ah) rfl
 ·rename_i q xs dG
  have j6:=hc
  rw[dG]at j6
  have nJ:=hv
  rw[dG]at nJ
  simp only[fZ,Option.map_eq_some_iff,Prod.mk.injEq]at nJ
  obtain⟨g1,Ah,rfl,rfl⟩:=nJ
  rcases OD j6 with⟨t,x,k,y,m,z,x',k',y',ho,h1,h2,h3,h4,rfl,rfl⟩|⟨t,t',x,k,m,z,x',k',ho,h1,h2,h3,rfl,rfl⟩
  ·exact Pw hv w (NC S E ho h1 h2 h3 h4 Ah) rfl
  ·exact Pw hv w (NB S E ho h1 h2 h3 Ah) rfl
 ·obtain⟨mr,hq,hg⟩:=hv
  exact quiet mr hq hg
end
end Go.Proofs.YtgoelphibofcmaaGreat.V

namespace Go.Proofs.YtgoelphibofcmaaGreat.V
open Go.RowKit
variable {P:Program} {w w':World} {D D' D2:Nat->Prop} {ι ι' ι2:Names}
section
variable {g:Rows} {hs:Nat} {env:Env} {a:Act} {o:Oper} {id:Id} {v:AV}
theorem oY {ops:Array Oper} {nt site0 j:Nat} {draw mk:Bool} {bs:Array Nat} {hidden:List (Nat×Bool)} {vo:bq} (h:lU P ops nt site0 draw mk bs hidden j o=some vo):
  qL P o.op=some vo.op/\vo.dst=o.dst/\vo.site=site0+j/\(∀d,o.dst=some d->d<nt)/\(match o.guard with
   |none=>vo.guard=none
   |some (i,b)=>∃t,(ops[i]?).bind (·.dst)=some t/\vo.guard=some (t,b)):=by
 unfold lU at h
 simp only[Option.bind_eq_bind,Option.bind_eq_some_iff]at h
 obtain⟨v,hv,gd,hg,h⟩:=h
 split at h
 ·rename_i hd
  simp only[Option.pure_def,Option.some.injEq]at h
  subst h
  refine⟨hv,rfl,rfl,fun d Sk=>?_,?_⟩
  ·rw[Sk]at hd;simpa using hd
  ·unfold CX at hg
   cases tV:o.guard with
   |none=>rw[tV]at hg;simp at hg;exact hg.symm
   |some p=>
    obtain⟨i,b⟩:=p
    rw[tV]at hg
    dsimp only at hg ⊢
    split at hg
    ·rename_i t ht
     simp at hg;exact⟨t,ht,hg.symm⟩
    ·simp at hg
 ·simp at h
theorem s7 {ops:Array Oper} {vo:bq} (E:cj P w D ι env a) (hg:match o.guard with
   |none=>vo.guard=none
   |some (i,b)=>∃t,(ops[i]?).bind (·.dst)=some t/\vo.guard=some (t,b)):aJ vo.guard env=Region.wanted o (yielded ops a.tmps):=by
 unfold Region.wanted
 cases tV:o.guard with
 |none=>rw[tV]at hg;simp only at hg;rw[hg];rfl
 |some p=>
  obtain⟨i,b⟩:=p
  rw[tV]at hg
  obtain⟨t,ht,hv⟩:=hg
  rw[hv]
  simp only[aJ,yielded,ht,Option.bind_some]
  have hr:=E t
  by_cases dP:t<a.tmps.size
  ·have eZ:a.tmps[t]? =some a.tmps[t]:=Array.getElem?_eq_getElem dP
   have hd:a.tmps.getD t undef=a.tmps[t]:=by simp[dP]
   rw[hd]at hr
   rw[eZ]
   generalize a.tmps[t]=u at hr
   cases he:env t with
   |bool c=>rw[he]at hr;rw[e6 hr];simp
   |_=>
    rw[he]at hr
    have:∀c,u≠.bool c:=by
     intro c hu
     subst hu
     cases hr with
     |eO _ _ h=>cases h
    cases u<;>simp_all
  ·have eZ:a.tmps[t]? =none:=Array.getElem?_eq_none (Nat.le_of_not_lt dP)
   have hd:a.tmps.getD t undef=undef:=by simp[eZ]
   rw[hd]at hr
   rw[eZ]
   cases he:env t with
   |bool c=>rw[he]at hr;have:=e6 hr;simp[undef]at this
   |_=>simp
theorem mH {dst:Option Nat} {nt:Nat} {u:Value} (E:cj P w D ι env a) (hr:dd P w D ι v u) (hd:∀d,dst=some d->d<nt) (hs:a.tmps.size=nt):cj P w D ι (upd env dst v) (a.put dst u):=by
 intro t
 cases dst with
 |none=>exact E t
 |some d=>
  have dP:d<a.tmps.size:=by rw[hs];exact hd d rfl
  simp only[upd,Act.put]
  by_cases ht:t=d
  ·subst ht
   simp[dP];exact hr
  ·rw[if_neg ht]
   have:(a.tmps.setIfInBounds d u).getD t undef=a.tmps.getD t undef:=by
    simp only[Array.getD_eq_getD_getElem?]
    rw[Array.getElem?_setIfInBounds_ne (fun e=>ht e.symm)]
   rw[this];exact E t
theorem oj {hs:Nat} (E:cj P w D ι env a) (T:Step hs D ι w D' ι' w'):cj P w' D' ι' env a:=fun t=>T.rep (E t)
theorem kQ (a:Act) (dst:Option Tmp) (u:Value):(a.put dst u).tmps.size=a.tmps.size:=by cases dst<;>simp[Act.put]
theorem put_defers (a:Act) (dst:Option Tmp) (u:Value):(a.put dst u).defers=a.defers:=by cases dst<;>rfl
theorem yG {draw:Bool} {vo:bq} {σ:au} {next:AV->au->Prop} {U:Nat->Prop} {Q:Exit->Act->World->Prop} {K:Act->World->Prop} (hc:qL P o.op=some vo.op) (hv:fM (Sound P) draw vo env σ next) (S:gm P hs D ι σ.get w) (Us:Used ι σ.next U) (hU:¬U vo.site) (E:cj P w D ι env a)
  (hK:∀v σ' u D' ι' w',next v σ'->Step hs D ι w D' ι' w'->gm P hs D' ι' σ'.get w'->dd P w' D' ι' v u->Used ι' σ'.next (fun s=>U s∨s=vo.site)->σ.next<=σ'.next->K (a.put o.dst u) w'):o.wp P a w K Q:=by
 have close:∀v g',VS (Sound P) σ.next vo env σ.get v g'->next v ⟨g',σ.next⟩->o.wp P a w K Q:=fun v g' h1 h2=>
  Av hc h1 S Us hU E fun a' w' ⟨u,D',ι',ha,T,S',hR,U'⟩=>by subst ha;exact hK v ⟨g',σ.next⟩ u D' ι' w' h2 T S' hR U' (Nat.le_refl _)
 have Jm:∀(f:Nat) (args:List AV) (vs:Array Value),Sound P f args ⟨σ.get,σ.next+1⟩ next->fe P w D ι args vs->(execOp a.eval o).run P w=.ok (.enter f vs) w->o.wp P a w K Q:=by
  intro f args vs h hA gr
  unfold Oper.wp
  rw[gr]
  refine(h hs D ι w vs S Us.next hA).mono ?_
  rintro e w' ⟨r,g',n',D',ι',u,rfl,hn,T,S',U',hle,hR⟩
  exact hK r ⟨g',n'⟩ u D' ι' w' hn T S' hR (U'.more fun _ h=>h.elim) (Nat.le_trans (Nat.le_succ _) hle)
 unfold fM at hv
 split at hv
 ·rename_i f args dG
  rcases hv with⟨r,hP,hn⟩|⟨_,hX⟩|⟨Kn,sz,rows,hM,hn⟩
  ·exact close r σ.get (by unfold VS;rw[dG];exact .inl ⟨hP,rfl⟩) hn
  rotate_left
  ·exact close _ _ (by unfold VS;rw[dG];exact .inr ⟨Kn,sz,rows,hM,rfl,rfl⟩) hn
  ·have j6:=hc
   rw[dG]at j6
   obtain⟨c,ho,kf,E0,ny⟩:=Bz j6
   refine Jm f _ (c.args.map a.eval) hX (n9 E ny) ?_
   simp only[execOp,ho,resolve,kf,Deferred.ofValue,Act.eval,Sem.run_bind,Sem.run_pure,Result.andThen_ok,invoke,Array.empty_append,Array.append_empty]
   exact jo E0
 ·rename_i x args dG
  split at hv
  ·rename_i f cH hx
   have tr:uN (cL env x) (args.map (cL env))=some (f,args.map (cL env)++cH):=by rw[hx];rfl
   rcases hv with⟨r,hP,hn⟩|⟨_,hX⟩|⟨Kn,sz,rows,hM,hn⟩
   ·exact close r σ.get (by unfold VS;rw[dG];exact⟨f,_,tr,.inl ⟨hP,rfl⟩⟩) hn
   rotate_left
   ·exact close _ _ (by unfold VS;rw[dG];exact⟨f,_,tr,.inr ⟨Kn,sz,rows,hM,rfl,rfl⟩⟩) hn
   ·have j6:=hc
    rw[dG]at j6
    obtain⟨c,t,ho,kf,rfl,ny⟩:=sN j6
    obtain⟨first,us,he,E0,hL⟩:=uP (v:=a.eval (.tmp t)) tr (E t) (n9 E ny)
    refine Jm f _ (first++c.args.map a.eval++us) hX hL ?_
    simp only[execOp,ho,resolve,kf,he,Deferred.ofValue,Sem.run_bind,Sem.run_pure,Result.andThen_ok,invoke]
    exact jo E0
  ·rename_i f cH hx
   have tr:uN (cL env x) (args.map (cL env))=some (f,cH++args.map (cL env)):=by rw[hx];rfl
   rcases hv with⟨r,hP,hn⟩|⟨_,hX⟩|⟨Kn,sz,rows,hM,hn⟩
   ·exact close r σ.get (by unfold VS;rw[dG];exact⟨f,_,tr,.inl ⟨hP,rfl⟩⟩) hn
   rotate_left
   ·exact close _ _ (by unfold VS;rw[dG];exact⟨f,_,tr,.inr ⟨Kn,sz,rows,hM,rfl,rfl⟩⟩) hn
   ·have j6:=hc
    rw[dG]at j6
    obtain⟨c,t,ho,kf,rfl,ny⟩:=sN j6
    obtain⟨first,us,he,E0,hL⟩:=uP (v:=a.eval (.tmp t)) tr (E t) (n9 E ny)
    refine Jm f _ (first++c.args.map a.eval++us) hX hL ?_
    simp only[execOp,ho,resolve,kf,he,Deferred.ofValue,Sem.run_bind,Sem.run_pure,Result.andThen_ok,invoke]
    exact jo E0
  ·exact hv.elim
 ·rename_i m x y dG
  split at hv
  ·rename_i v' g' he
   exact close v' g' (by unfold VS;rw[dG];rw[dG]at he;exact he) hv
  ·exact hv.elim
 ·rename_i m x y dG
  split at hv
  ·rename_i v' g' he
   exact close v' g' (by unfold VS;rw[dG];rw[dG]at he;exact he) hv
  ·exact hv.elim
 ·rename_i m x y dG
  split at hv
  ·rename_i v' g' he
   exact close v' g' (by unfold VS;rw[dG];rw[dG]at he;exact he) hv
  ·exact hv.elim
 ·rename_i m x dG
  split at hv
  ·rename_i v' g' he
   exact close v' g' (by unfold VS;rw[dG];rw[dG]at he;exact he) hv
  ·exact hv.elim
 ·rename_i m x dG
  split at hv
  ·rename_i v' g' he
   exact close v' g' (by unfold VS;rw[dG];rw[dG]at he;exact he) hv
  ·exact hv.elim
 ·rename_i n1 n2 n3 n4 n5 n6 n7
  split at hv
  ·rename_i v' r hq
   refine close v' (bI σ.get ⟨vo.site,σ.next⟩ r) ?_ hv
   unfold VS
   split
   ·rename_i h;exact(n1 _ _ h).elim
   ·rename_i h;exact(n2 _ _ h).elim
   ·rename_i h;exact(n3 _ _ _ h).elim
   ·rename_i h;exact(n4 _ _ _ h).elim
   ·rename_i h;exact(n5 _ _ _ h).elim
   ·rename_i h;exact(n6 _ _ h).elim
   ·rename_i h;exact(n7 _ _ h).elim
   ·exact⟨some r,hq,rfl⟩
  ·rename_i v' hq
   refine close v' σ.get ?_ hv
   unfold VS
   split
   ·rename_i h;exact(n1 _ _ h).elim
   ·rename_i h;exact(n2 _ _ h).elim
   ·rename_i h;exact(n3 _ _ _ h).elim
   ·rename_i h;exact(n4 _ _ _ h).elim
   ·rename_i h;exact(n5 _ _ _ h).elim
   ·rename_i h;exact(n6 _ _ h).elim
   ·rename_i h;exact(n7 _ _ h).elim
   ·exact⟨none,hq,rfl⟩
  ·exact hv.elim
structure St (P:Program) (hs nt:Nat) (D:Nat->Prop) (ι:Names) (env:Env) (σ:au) (a:Act) (w:World):Prop where
 Kr:gm P hs D ι σ.get w
 used:Used ι σ.next (fun _=>False)
 env:cj P w D ι env a
 size:a.tmps.size=nt
theorem DY (rest:List Oper) {ops:Array Oper} {nt site0:Nat} {draw mk:Bool} {bs:Array Nat} {hidden:List (Nat×Bool)} {K:Env->au->Prop} {Q:Exit->Act->World->Prop}:∀(l:List Oper) (vl:List bq) (j:Nat) (env:Env) (σ:au) (a:Act) (w:World) (D:Nat->Prop) (ι:Names) (U:Nat->Prop),
  allM (lU P ops nt site0 draw mk bs hidden) l j=some vl->wpOps (Sound P) draw vl K env σ->gm P hs D ι σ.get w->Used ι σ.next U->(∀s,U s->s<site0+j)->cj P w D ι env a->a.tmps.size=nt->
  (∀iC σ' a' w' D' ι',K iC σ'->Step hs D ι w D' ι' w'->St P hs nt D' ι' iC σ' a' w'->a'.defers=a.defers->σ.next<=σ'.next->wpList P ops Q rest a' w')->wpList P ops Q (l++rest) a w:=by
 intro l
 induction l with
 |nil=>
  intro vl j env σ a w D ι U h hv S Us _ E fb hQ
  simp[allM]at h;subst h
  exact hQ env ⟨σ.get,σ.next+1⟩ a w D ι hv (Step.refl _ _ _ _) ⟨S,Us.next,E,fb⟩ rfl (Nat.le_succ _)
 |cons o l ih=>
  intro vl j env σ a w D ι U h hv S Us hU E fb hQ
  simp only[allM,Option.bind_eq_bind,Option.bind_eq_some_iff,Option.pure_def,Option.some.injEq]at h
  obtain⟨vo,kr,s6,sj,rfl⟩:=h
  obtain⟨hc,hd,Bo,xd,hg⟩:=oY kr
  have hw:=s7 (ops:=ops) (vo:=vo) E hg
  unfold wpOps at hv
  show wpList P ops Q (o::(l++rest)) a w
  unfold wpList
  rw[<-hw]
  split at hv
  ·rename_i Gm
   rw[if_pos Gm]
   refine .inl (yG hc hv S Us (fun h=>by have:=hU _ h;omega) E fun v σ' u D' ι' w' hn T S' hR U' hle=>?_)
   refine ih s6 (j+1) (upd env vo.dst v) σ' (a.put o.dst u) w' D' ι' _ sj hn S' U' (fun s Bk=>by
    rcases Bk with h|h
    ·have:=hU _ h;omega
    ·omega) (by rw[hd];exact mH (oj E T) hR xd fb) (by rw[kQ];exact fb) fun iC σ2 a' w2 D2 ι2 hk T2 Nd Dl mL=>hQ iC σ2 a' w2 D2 ι2 hk (T.trans T2) Nd (Dl.trans (put_defers _ _ _)) (Nat.le_trans hle mL)
  ·rename_i Gm
   rw[if_neg Gm]
   refine ih s6 (j+1) (upd env vo.dst .undef) σ (a.put o.dst undef) w D ι U sj hv S Us (fun s Bk=>by have:=hU _ Bk;omega) (by rw[hd];exact mH E dd.undef xd fb) (by rw[kQ];exact fb) fun iC σ2 a' w2 D2 ι2 hk T2 Nd Dl mL=>hQ iC σ2 a' w2 D2 ι2 hk T2 Nd (Dl.trans (put_defers _ _ _)) mL
theorem GO {ops:Array Oper} {nt site0:Nat} {draw mk:Bool} {bs:Array Nat} {hidden:List (Nat×Bool)} {K:Env->au->Prop} {Q:Exit->Act->World->Prop}:∀(l:List Oper) (vl:List bq) (j:Nat) (env:Env) (σ:au) (a:Act) (w:World) (D:Nat->Prop) (ι:Names) (U:Nat->Prop),
  allM (lU P ops nt site0 draw mk bs hidden) l j=some vl->wpOps (Sound P) draw vl K env σ->gm P hs D ι σ.get w->Used ι σ.next U->(∀s,U s->s<site0+j)->cj P w D ι env a->a.tmps.size=nt->
  (∀iC σ' a' w' D' ι',K iC σ'->Step hs D ι w D' ι' w'->St P hs nt D' ι' iC σ' a' w'->a'.defers=a.defers->σ.next<=σ'.next->Q .normal a' w')->wpList P ops Q l a w:=fun l vl j env σ a w D ι U h hv S Us hU E fb hQ=>by
 have:=DY [] l vl j env σ a w D ι U h hv S Us hU E fb hQ
 rwa [List.append_nil]at this
end
end Go.Proofs.YtgoelphibofcmaaGreat.V

namespace Go.Proofs.YtgoelphibofcmaaGreat.V
open Go.RowKit
variable {P:Program} {w w':World} {D D' D2:Nat->Prop} {ι ι' ι2:Names}
section
variable {hs:Nat} {X:fA}
theorem bc {env iP:Env} {x:O} (h:∀t∈gJ x,env t=iP t):cL env x=cL iP x:=by
 cases x with
 |t n=>exact h n (by simp[gJ])
 |_=>rfl
theorem map_congr {env iP:Env} {l:List O} (h:∀t∈l.flatMap gJ,env t=iP t):l.map (cL env)=l.map (cL iP):=
 List.map_congr_left fun x hx=>bc fun t ht=>h t (List.mem_flatMap.2 ⟨x,hx,ht⟩)
theorem o9 {env iP:Env} {x:Option O} (h:∀t∈vU x,env t=iP t):x.map (cL env)=x.map (cL iP):=by
 cases x with
 |none=>rfl
 |some y=>simp only[Option.map_some];rw[bc h]
theorem sU {env iP:Env} {o:gn} {g:Rows} {id:Id} (h:∀t∈o.gz,env t=iP t):eP o (cL env) g id=eP o (cL iP) g id:=by
 cases o<;>simp only[gn.gz,List.mem_append]at h<;>simp only[eP]
 case dm x=>rw[bc h]
 case pick c a b=>rw[bc (x:=c) fun t ht=>h t (.inl (.inl ht)),bc (x:=a) fun t ht=>h t (.inl (.inr ht)),bc (x:=b) fun t ht=>h t (.inr ht)]
 case box x=>rw[bc h]
 case build z ps=>
  have:(ps.map fun(x:Nat×Nat×O)=>(x.1,x.2.1,cL env x.2.2))=ps.map fun(x:Nat×Nat×O)=>(x.1,x.2.1,cL iP x.2.2):=List.map_congr_left fun x hx=>by
   rw[bc (x:=x.2.2) fun t ht=>h t (List.mem_flatMap.2 ⟨x,hx,ht⟩)]
  rw[this]
 case mD a b l=>rw[map_congr h]
 case load a n x=>rw[bc h]
 case AK x=>rw[bc h]
 case bin a b x y=>rw[bc (x:=x) fun t ht=>h t (.inl ht),bc (x:=y) fun t ht=>h t (.inr ht)]
 case sh a x y=>rw[bc (x:=x) fun t ht=>h t (.inl ht),bc (x:=y) fun t ht=>h t (.inr ht)]
 case KI a x y=>rw[bc (x:=x) fun t ht=>h t (.inl ht),bc (x:=y) fun t ht=>h t (.inr ht)]
 case ND a b x y=>rw[bc (x:=x) fun t ht=>h t (.inl ht),bc (x:=y) fun t ht=>h t (.inr ht)]
 case RW a b x y=>rw[bc (x:=x) fun t ht=>h t (.inl ht),bc (x:=y) fun t ht=>h t (.inr ht)]
 case Qj a b x=>rw[bc h]
 case RY a x=>rw[bc h]
 case not x=>rw[bc h]
 case neg x=>rw[bc h]
 case conv k x=>rw[bc h]
 case EL x=>rw[bc h]
 case slice s x lo hi=>rw[bc (x:=x) fun t ht=>h t (.inl (.inl ht)),o9 (x:=lo) fun t ht=>h t (.inl (.inr ht)),o9 (x:=hi) fun t ht=>h t (.inr ht)]
 case zT x lo hi=>rw[bc (x:=x) fun t ht=>h t (.inl (.inl ht)),o9 (x:=lo) fun t ht=>h t (.inl (.inr ht)),o9 (x:=hi) fun t ht=>h t (.inr ht)]
 case fV k x=>rw[bc h]
 case field a b c x=>rw[bc h]
 case dF s x y=>rw[bc (x:=x) fun t ht=>h t (.inl ht),bc (x:=y) fun t ht=>h t (.inr ht)]
 case Lr n s x y=>rw[bc (x:=x) fun t ht=>h t (.inl ht),bc (x:=y) fun t ht=>h t (.inr ht)]
 case Lu x y=>rw[bc (x:=x) fun t ht=>h t (.inl ht),bc (x:=y) fun t ht=>h t (.inr ht)]
 case eK a b c x y=>rw[bc (x:=x) fun t ht=>h t (.inl ht),bc (x:=y) fun t ht=>h t (.inr ht)]
 case extract i x=>rw[bc h]
 case len x=>rw[bc h]
 case LF x=>rw[bc h]
 case Jf x=>rw[bc h]
 case I7 x=>rw[bc h]
 case LK f l=>rw[map_congr h]
 case LL f l=>rw[map_congr h]
 case mq f l=>rw[map_congr h]
 case jN z x y=>rw[bc (x:=x) fun t ht=>h t (.inl ht),bc (x:=y) fun t ht=>h t (.inr ht)]
theorem gM {env iP:Env} {o:gn} {g:Rows} {id:Id} (h:∀t∈o.gz,env t=iP t):fZ o (cL env) g id=fZ o (cL iP) g id:=by
 cases o<;>simp only[gn.gz,List.mem_append]at h<;>simp only[fZ]
 case clear z x=>rw[bc h]
 case mw f l=>rw[map_congr h]
 all_goals rename_i a x y
 all_goals rw[bc (x:=x) fun t ht=>h t (.inl ht),bc (x:=y) fun t ht=>h t (.inr ht)]
theorem HM {n:Nat} {vo:bq} {env iP:Env} {g g':Rows} {v:AV} (h:∀t∈vo.op.gz,env t=iP t) (hv:VS X n vo env g v g'):VS X n vo iP g v g':=by
 unfold VS at hv ⊢
 split at hv
 ·rename_i f args dG
  rw[dG]at h
  simp only[gn.gz]at h
  rw[<-map_congr h];exact hv
 ·rename_i x args dG
  rw[dG]at h
  simp only[gn.gz,List.mem_append]at h
  rw[<-map_congr (l:=args) fun t ht=>h t (.inr ht),<-bc (x:=x) fun t ht=>h t (.inl ht)];exact hv
 ·rw[<-gM h];exact hv
 ·rw[<-gM h];exact hv
 ·rw[<-gM h];exact hv
 ·rw[<-gM h];exact hv
 ·rw[<-gM h];exact hv
 ·rw[<-sU h];exact hv
theorem DT {q:MQ} {vs:List AV} {g:Rows} {id:Id} {v:AV} {r:Row} (h:bD q vs g id=some (v,some r)):∃m,q=.new m:=by
 unfold bD at h
 split at h
 ·exact⟨_,rfl⟩
 ·simp[Option.bind_eq_some_iff]at h
 ·simp at h
 ·cases h
theorem v7 {o:gn} {ρ:O->AV} {g:Rows} {id:Id} {v:AV} {r:Row} (h:eP o ρ g id=some (v,some r)):qy o=true:=by
 cases o<;>simp only[eP]at h<;>(try rfl)<;>(try simp at h)
 case mq q xs=>obtain⟨m,rfl⟩:=DT h;rfl
 all_goals (try(split at h<;>simp at h))
theorem wb {o:gn} {ρ:O->AV} {g g2:Rows} {id id2:Id} (h:o.cls=.pure):eP o ρ g id=eP o ρ g2 id2:=by
 cases o<;>(try simp[gn.cls]at h)<;>(try simp only[eP])
 case mq q xs=>cases q<;>simp[gn.cls]at h
theorem uJ {n:Nat} {vo:bq} {env:Env} {g g':Rows} {v:AV} (hw:vo.op.cls≠.write) (hv:VS X n vo env g v g'):∃mr,g'=jd g ⟨vo.site,n⟩ mr/\(mr≠none->vo.makes=true)/\∀g0,fY vo.hid n g0=fY vo.hid n g->VS X n vo env g0 v (jd g0 ⟨vo.site,n⟩ mr):=by
 unfold VS at hv
 split at hv
 ·rename_i f args dG
  rcases hv with⟨h1,rfl⟩|⟨hs,sz,rows,hM,rfl,rfl⟩
  ·refine⟨none,rfl,fun h=>(h rfl).elim,fun g0 h0=>?_⟩
   unfold VS;rw[dG];simp only;unfold uO;rw[h0];exact .inl ⟨h1,rfl⟩
  ·refine⟨some _,rfl,fun _=>by unfold bq.makes;rw[dG,hs];simp[gn.lF],fun g0 h0=>?_⟩
   unfold VS;rw[dG];simp only;unfold uO;rw[h0];exact .inr ⟨hs,sz,rows,hM,rfl,rfl⟩
 ·rename_i x args dG
  obtain⟨f,cH,hx,hv⟩:=hv
  rcases hv with⟨h1,rfl⟩|⟨hs,sz,rows,hM,rfl,rfl⟩
  ·refine⟨none,rfl,fun h=>(h rfl).elim,fun g0 h0=>?_⟩
   unfold VS;rw[dG];simp only;unfold uO;rw[h0];exact⟨f,cH,hx,.inl ⟨h1,rfl⟩⟩
  ·refine⟨some _,rfl,fun _=>by unfold bq.makes;rw[dG,hs];simp[gn.lF],fun g0 h0=>?_⟩
   unfold VS;rw[dG];simp only;unfold uO;rw[h0];exact⟨f,cH,hx,.inr ⟨hs,sz,rows,hM,rfl,rfl⟩⟩
 ·rename_i dG;rw[dG]at hw;exact(hw rfl).elim
 ·rename_i dG;rw[dG]at hw;exact(hw rfl).elim
 ·rename_i dG;rw[dG]at hw;exact(hw rfl).elim
 ·rename_i dG;rw[dG]at hw;exact(hw rfl).elim
 ·rename_i dG;rw[dG]at hw;exact(hw rfl).elim
 ·rename_i n1 n2 n3 n4 n5 n6 n7
  obtain⟨mr,hq,rfl⟩:=hv
  refine⟨mr,rfl,fun h=>?_,fun g0 h0=>?_⟩
  ·cases mr with
   |none=>exact(h rfl).elim
   |some r=>unfold bq.makes;rw[v7 hq];rfl
  ·unfold VS
   split
   ·rename_i hh;exact(n1 _ _ hh).elim
   ·rename_i hh;exact(n2 _ _ hh).elim
   ·rename_i hh;exact(n3 _ _ _ hh).elim
   ·rename_i hh;exact(n4 _ _ _ hh).elim
   ·rename_i hh;exact(n5 _ _ _ hh).elim
   ·rename_i hh;exact(n6 _ _ hh).elim
   ·rename_i hh;exact(n7 _ _ hh).elim
   ·rw[h0];exact⟨mr,hq,rfl⟩
theorem yM {n:Nat} {vo:bq} {env:Env} {g g':Rows} {v:AV} (hp:vo.op.cls=.pure) (hv:VS X n vo env g v g'):g'=g/\∀g0,VS X n vo env g0 v g0:=by
 unfold VS at hv
 split at hv
 ·rename_i dG;rw[dG]at hp;simp[gn.cls]at hp
 ·rename_i dG;rw[dG]at hp;simp[gn.cls]at hp
 ·rename_i dG;rw[dG]at hp;simp[gn.cls]at hp
 ·rename_i dG;rw[dG]at hp;simp[gn.cls]at hp
 ·rename_i dG;rw[dG]at hp;simp[gn.cls]at hp
 ·rename_i dG;rw[dG]at hp;simp[gn.cls]at hp
 ·rename_i dG;rw[dG]at hp;simp[gn.cls]at hp
 ·rename_i n1 n2 n3 n4 n5 n6 n7
  obtain⟨mr,hq,rfl⟩:=hv
  have Uj:mr=none:=by
   cases mr with
   |none=>rfl
   |some r=>have:=v7 hq;simp[qy,hp]at this
  subst Uj
  refine⟨rfl,fun g0=>?_⟩
  unfold VS
  split
  ·rename_i hh;exact(n1 _ _ hh).elim
  ·rename_i hh;exact(n2 _ _ hh).elim
  ·rename_i hh;exact(n3 _ _ _ hh).elim
  ·rename_i hh;exact(n4 _ _ _ hh).elim
  ·rename_i hh;exact(n5 _ _ _ hh).elim
  ·rename_i hh;exact(n6 _ _ hh).elim
  ·rename_i hh;exact(n7 _ _ hh).elim
  ·exact⟨none,by rw[wb hp];exact hq,rfl⟩
def GS (X:fA) (n:Nat) (vo:bq) (env:Env) (g:Rows) (v:AV) (g':Rows):Prop:=
 if aJ vo.guard env then VS X n vo env g v g' else v=.undef/\g'=g
theorem Cp {hid:List Nat} {g:Rows} {s n:Nat} {mr:Option Row} (h:mr≠none->hid.contains s=true):fY hid n (jd g ⟨s,n⟩ mr)=fY hid n g:=by
 cases mr with
 |none=>rfl
 |some r=>
  have hc:=h (by simp)
  cases hid with
  |nil=>simp at hc
  |cons a l=>
   funext i
   show(if (a::l).contains i.site=true/\i.bm=n then none else jd g ⟨s,n⟩ (some r) i)=if (a::l).contains i.site=true/\i.bm=n then none else g i
   by_cases hi:i=⟨s,n⟩
   ·subst hi;rw[if_pos ⟨hc,rfl⟩,if_pos ⟨hc,rfl⟩]
   ·simp only[jd,bI,if_neg hi]
theorem FJ {g:Rows} {i j:Id} (h:i≠j) (m1 m2:Option Row):jd (jd g i m1) j m2=jd (jd g j m2) i m1:=by
 cases m1<;>cases m2<;>simp only[jd]
 funext k
 simp only[bI]
 by_cases h1:k=i
 ·subst h1;rw[if_neg h,if_pos rfl];simp
 ·by_cases h2:k=j
  ·subst h2;simp[h1]
  ·simp[h1,h2]
theorem wM {env:Env} {d e:Option Nat} {v u:AV} (h:∀k,d=some k->e≠some k):upd (upd env d v) e u=upd (upd env e u) d v:=by
 cases d with
 |none=>rfl
 |some d=>
  cases e with
  |none=>rfl
  |some e=>
   have gU:d≠e:=fun he=>h d rfl (by rw[he])
   funext t
   simp only[upd]
   by_cases h1:t=d
   ·subst h1;rw[if_neg gU,if_pos rfl,if_pos rfl]
   ·by_cases h2:t=e
    ·subst h2;rw[if_pos rfl,if_neg h1,if_pos rfl]
    ·simp[h1,h2]
theorem mh {env:Env} {d:Option Nat} {v:AV} {l:List Nat} (h:∀k,d=some k->k∉l):∀t∈l,upd env d v t=env t:=by
 intro t ht
 cases d with
 |none=>rfl
 |some d=>
  have:t≠d:=fun he=>h d rfl (he▸ht)
  simp[upd,this]
structure CG (x y:bq):Prop where
 xy:∀k,x.dst=some k->k∉y.gz
 yx:∀k,y.dst=some k->k∉x.gz
 dst:∀k,x.dst=some k->y.dst≠some k
 cls:clash x.op.cls y.op.cls=false
 hx:x.makes=true->y.hid.contains x.site=true
 hy:y.makes=true->x.hid.contains y.site=true
 site:x.site≠y.site
theorem CG.symm {x y:bq} (h:CG x y):CG y x:=
 ⟨h.yx,h.xy,fun k hk he=>h.dst k he hk,by have:=h.cls;revert this;cases x.op.cls<;>cases y.op.cls<;>simp[clash],h.hy,h.hx,fun e=>h.site e.symm⟩
theorem qj {x y:bq} (h:EW x y=true):CG x y:=by
 unfold EW at h
 simp only[Bool.and_eq_true,Bool.not_eq_true',Bool.or_eq_true,bne_iff_ne]at h
 obtain⟨⟨⟨⟨h1,h2⟩,h3⟩,h4⟩,h5⟩:=h
 unfold s5 at h1
 simp only[Bool.and_eq_true]at h1
 obtain⟨a1,a2⟩:=h1
 refine⟨fun k hk=>?_,fun k hk=>?_,fun k hk=>?_,h2,fun hm=>?_,fun hm=>?_,h5⟩
 ·rw[hk]at a1;simp at a1;exact a1.1
 ·rw[hk]at a2;simpa using a2
 ·rw[hk]at a1;simp at a1;exact a1.2
 ·rcases h3 with h3|h3
  ·rw[hm]at h3;cases h3
  ·exact h3
 ·rcases h4 with h4|h4
  ·rw[hm]at h4;cases h4
  ·exact h4
theorem rX {vo:bq} {t:Nat} (h:t∈vo.op.gz):t∈vo.gz:=List.mem_append_left _ h
theorem nj {vo:bq} {env iP:Env} (h:∀t∈vo.gz,env t=iP t):aJ vo.guard env=aJ vo.guard iP:=by
 unfold aJ
 cases hg:vo.guard with
 |none=>rfl
 |some p=>
  obtain⟨t,b⟩:=p
  have:env t=iP t:=h t (List.mem_append_right _ (by rw[hg];simp))
  simp only[this]
theorem uC {n:Nat} {vo:bq} {env iP:Env} {g g':Rows} {v:AV} (h:∀t∈vo.gz,env t=iP t) (hv:GS X n vo env g v g'):GS X n vo iP g v g':=by
 unfold GS at hv ⊢
 rw[<-nj h]
 split at hv
 ·rename_i hw;rw[if_pos hw];exact HM (fun t ht=>h t (rX ht)) hv
 ·rename_i hw;rw[if_neg hw];exact hv
theorem EB {n:Nat} {x y:bq} {env:Env} {g g1 g2:Rows} {v v':AV} (F:CG x y) (h1:GS X n x env g v g1) (h2:GS X n y (upd env x.dst v) g1 v' g2):
  ∃KS,GS X n y env g v' KS/\GS X n x (upd env y.dst v') KS v g2/\upd (upd env x.dst v) y.dst v'=upd (upd env y.dst v') x.dst v:=by
 have MS:=wM (env:=env) (v:=v) (u:=v') F.dst
 replace h2:GS X n y env g1 v' g2:=uC (mh F.xy) h2
 have back:∀{KS},GS X n x env KS v g2->GS X n x (upd env y.dst v') KS v g2:=fun h=>uC (fun t ht=>(mh F.yx t ht).symm) h
 unfold GS at h1 h2
 by_cases wx:aJ x.guard env=true
 ·rw[if_pos wx]at h1
  by_cases wy:aJ y.guard env=true
  ·rw[if_pos wy]at h2
   by_cases cx:x.op.cls=.write
   ·have cy:y.op.cls=.pure:=by
     have:=F.cls;rw[cx]at this
     cases hc:y.op.cls<;>simp[clash,hc]at this ⊢
    obtain⟨rfl,dL⟩:=yM cy h2
    exact⟨g,by unfold GS;rw[if_pos wy];exact dL g,back (by unfold GS;rw[if_pos wx];exact h1),MS⟩
   ·by_cases cy:y.op.cls=.write
    ·have cx':x.op.cls=.pure:=by
      have:=F.cls;rw[cy]at this
      cases hc:x.op.cls<;>simp[clash,hc]at this ⊢
     obtain⟨rfl,dL⟩:=yM cx' h1
     exact⟨g2,by unfold GS;rw[if_pos wy];exact h2,back (by unfold GS;rw[if_pos wx];exact dL g2),MS⟩
    ·obtain⟨mx,rfl,kx,S3⟩:=uJ cx h1
     obtain⟨my,rfl,ky,Nj⟩:=uJ cy h2
     have gU:(⟨x.site,n⟩:Id)≠⟨y.site,n⟩:=fun e=>F.site (by injection e)
     refine⟨jd g ⟨y.site,n⟩ my,?_,back ?_,MS⟩
     ·unfold GS;rw[if_pos wy]
      exact Nj g (Cp fun h=>F.hx (kx h)).symm
     ·unfold GS;rw[if_pos wx,FJ gU]
      exact S3 _ (Cp fun h=>F.hy (ky h))
  ·rw[if_neg wy]at h2
   obtain⟨rfl,rfl⟩:=h2
   exact⟨g,by unfold GS;rw[if_neg wy];exact⟨rfl,rfl⟩,back (by unfold GS;rw[if_pos wx];exact h1),MS⟩
 ·rw[if_neg wx]at h1
  obtain⟨rfl,rfl⟩:=h1
  exact⟨g2,h2,back (by unfold GS;rw[if_neg wx];exact⟨rfl,rfl⟩),MS⟩
end
end Go.Proofs.YtgoelphibofcmaaGreat.V

namespace Go.Proofs.YtgoelphibofcmaaGreat.V
open Go.RowKit
variable {P:Program} {w w':World} {D D' D2:Nat->Prop} {ι ι' ι2:Names}
section
variable {hs:Nat} {X:fA}
def je (acc:Array Nat) (o:Oper):Nat:=o.after.foldl (fun s e=>if Region.binds .any e then s|||2 ^ e.on|||acc.getD e.on 0 else s) 0
theorem KE (ops:Array Oper):jr ops=ops.foldl (fun acc o=>acc.push (je acc o)) #[]:=rfl
theorem AB {acc:Array Nat} {o:Oper} {i:Nat} (h:(je acc o).testBit i=true):∃e∈o.after,Region.binds .any e=true/\(e.on=i∨(acc.getD e.on 0).testBit i=true):=by
 unfold je at h
 rw[<-Array.foldl_toList]at h
 have gen:∀(l:List Edge) (s:Nat),(l.foldl (fun s e=>if Region.binds .any e then s|||2 ^ e.on|||acc.getD e.on 0 else s) s).testBit i=true->s.testBit i=true∨∃e∈l,Region.binds .any e=true/\(e.on=i∨(acc.getD e.on 0).testBit i=true):=by
  intro l
  induction l with
  |nil=>intro s h;exact .inl h
  |cons e r ih=>
   intro s h
   rw[List.foldl_cons]at h
   rcases ih _ h with h|⟨e',ze,h'⟩
   ·by_cases hb:Region.binds .any e=true
    ·rw[if_pos hb]at h
     simp only[Nat.testBit_or,Bool.or_eq_true]at h
     rcases h with(h|h)|h
     ·exact .inl h
     ·refine .inr ⟨e,by simp,hb,.inl ?_⟩
      rw[Nat.testBit_two_pow]at h
      simpa using h
     ·exact .inr ⟨e,by simp,hb,.inr h⟩
    ·rw[if_neg hb]at h;exact .inl h
   ·exact .inr ⟨e',List.mem_cons_of_mem _ ze,h'⟩
 rcases gen _ _ h with h|⟨e,he,h⟩
 ·simp at h
 ·exact⟨e,Array.mem_toList_iff.1 he,h⟩
theorem HX {ops:Array Oper} {j i:Nat} (h:((jr ops).getD j 0).testBit i=true):∃o,ops[j]? =some o/\∃e∈o.after,Region.binds .any e=true/\(e.on=i∨((jr ops).getD e.on 0).testBit i=true):=by
 have key:∀(l pre:List Oper) (acc:Array Nat),acc.size=pre.length->(∀j i,(acc.getD j 0).testBit i=true->∃o,pre[j]? =some o/\∃e∈o.after,Region.binds .any e=true/\(e.on=i∨(acc.getD e.on 0).testBit i=true))->
   ∀j i,((l.foldl (fun acc o=>acc.push (je acc o)) acc).getD j 0).testBit i=true->∃o,(pre++l)[j]? =some o/\∃e∈o.after,Region.binds .any e=true/\(e.on=i∨((l.foldl (fun acc o=>acc.push (je acc o)) acc).getD e.on 0).testBit i=true):=by
  intro l
  induction l with
  |nil=>intro pre acc _ h j i hb;simpa using h j i hb
  |cons o r ih=>
   intro pre acc fb h j i hb
   have B4:∀k,k<acc.size->(acc.push (je acc o)).getD k 0=acc.getD k 0:=fun k hk=>by
    simp only[Array.getD_eq_getD_getElem?,Array.getElem?_push]
    rw[if_neg (by omega)]
   have big:∀k,acc.size<=k->acc.getD k 0=0:=fun k hk=>by simp[Array.getElem?_eq_none hk]
   have lift:∀k i,(acc.getD k 0).testBit i=true->((acc.push (je acc o)).getD k 0).testBit i=true:=fun k i hk=>by
    by_cases dP:k<acc.size
    ·rw[B4 k dP];exact hk
    ·rw[big k (by omega)]at hk;simp at hk
   have:=ih (pre++[o]) (acc.push (je acc o)) (by simp[fb]) (fun j i hb=>by
    by_cases dP:j<acc.size
    ·rw[B4 j dP]at hb
     obtain⟨o',CA,e,he,fo,h2⟩:=h j i hb
     refine⟨o',by rw[List.getElem?_append_left (by omega)];exact CA,e,he,fo,?_⟩
     rcases h2 with h2|h2
     ·exact .inl h2
     ·exact .inr (lift _ _ h2)
    ·by_cases hj:j=acc.size
     ·subst hj
      have e0:(acc.push (je acc o)).getD acc.size 0=je acc o:=by simp
      rw[e0]at hb
      obtain⟨e,he,fo,h2⟩:=AB hb
      refine⟨o,by rw[List.getElem?_append_right (by omega),fb];simp,e,he,fo,?_⟩
      rcases h2 with h2|h2
      ·exact .inl h2
      ·exact .inr (lift _ _ h2)
     ·have:(acc.push (je acc o)).getD j 0=0:=by
       simp only[Array.getD_eq_getD_getElem?]
       rw[Array.getElem?_eq_none (by simp;omega)];rfl
      rw[this]at hb;simp at hb) j i (by simpa using hb)
   simpa using this
 rw[KE,<-Array.foldl_toList]at h ⊢
 have:=key ops.toList [] #[] rfl (fun j i h=>by simp at h) j i h
 simpa using this
def DC (ops:Array Oper) (listed:Array Bool):Prop:=∀k i,listed.getD k false=true->((jr ops).getD k 0).testBit i=true->listed.getD i false=true
theorem kS {ops:Array Oper} {listed:Array Bool} (h:DC ops listed) {j:Nat} (hj:j∈Region.ready .any ops listed):∀i,((jr ops).getD j 0).testBit i=true->listed.getD i false=true:=by
 intro i hb
 obtain⟨_,o,ho,dL⟩:=mem_ready.1 hj
 obtain⟨o',CA,e,he,fo,h2⟩:=HX hb
 rw[ho]at CA;injection CA with CA;subst CA
 have hl:=dL e he fo
 rcases h2 with h2|h2
 ·rw[<-h2];exact hl
 ·exact h _ _ hl h2
theorem DC.list {ops:Array Oper} {listed:Array Bool} (h:DC ops listed) {j:Nat} (hj:j∈Region.ready .any ops listed):DC ops (listed.setIfInBounds j true):=by
 intro k i hk hb
 by_cases hkj:k=j
 ·subst hkj;exact getD_set_true (kS h hj i hb)
 ·rw[getD_set_ne false (fun e=>hkj e.symm)]at hk
  exact getD_set_true (h k i hk hb)
theorem iV {ops:Array Oper} {listed:Array Bool} {j:Nat} (hj:j∈Region.ready .any ops listed):listed.getD j false=false:=by
 have h0:=(mem_ready.1 hj).1
 rcases Nat.lt_or_ge j listed.size with h|h
 ·simp[h]at h0 ⊢;exact h0
 ·simp[Array.getElem?_eq_none h]at h0
def J2 (X:fA) (n:Nat) (ops:Array Oper) (vl:List bq) (K:Env->Rows->Prop):Nat->Array Bool->Env->Rows->Prop
 |0,listed,env,g=>Region.ready .any ops listed=[]/\K env g
 |f+1,listed,env,g=>(Region.ready .any ops listed=[]->K env g)/\∀i∈Region.ready .any ops listed,∃vo,vl[i]? =some vo/\∃v g',GS X n vo env g v g'/\J2 X n ops vl K f (listed.setIfInBounds i true) (upd env vo.dst v) g'
theorem AP {ops:Array Oper} {vl:List bq} (h:oi ops vl (jr ops)=true) {i j:Nat} {x y:bq} (hi:vl[i]? =some x) (hj:vl[j]? =some y) (Dt:i≠j) (h1:((jr ops).getD j 0).testBit i=false) (h2:((jr ops).getD i 0).testBit j=false):CG x y:=by
 unfold oi at h
 simp only[Bool.and_eq_true,List.all_eq_true]at h
 obtain⟨_,h⟩:=h
 have mem:∀(k:Nat) (z:bq),vl[k]? =some z->(z,k)∈vl.zipIdx:=fun k z hk=>by
  rw[List.mem_iff_getElem?]
  exact⟨k,by simp[List.getElem?_zipIdx,hk]⟩
 rcases Nat.lt_or_gt_of_ne Dt with dP|K1
 ·have:=h _ (mem j y hj) _ (mem i x hi)
  simp only[dP,decide_true,Bool.not_true,Bool.false_or,h1]at this
  exact qj this
 ·have:=h _ (mem i x hi) _ (mem j y hj)
  simp only[K1,decide_true,Bool.not_true,Bool.false_or,h2]at this
  exact(qj this).symm
theorem Ev {n:Nat} {ops:Array Oper} {vl:List bq} {K:Env->Rows->Prop} (vp:oi ops vl (jr ops)=true) (hlen:vl.length=ops.size) {i:Nat} {vi:bq} (hi:vl[i]? =some vi) {v:AV}:∀(fuel:Nat) (listed:Array Bool) (env:Env) (g g1:Rows),
  DC ops listed->i∈Region.ready .any ops listed->GS X n vi env g v g1->J2 X n ops vl K fuel (listed.setIfInBounds i true) (upd env vi.dst v) g1->J2 X n ops vl K (fuel+1) listed env g:=by
 intro fuel
 induction fuel with
 |zero=>
  intro listed env g g1 _ hr hG H
  refine⟨fun h=>(by rw[h]at hr;cases hr),fun j hj=>?_⟩
  by_cases mj:j=i
  ·subst mj;exact⟨vi,hi,v,g1,hG,H⟩
  ·have:=ready_mono hj mj
   rw[H.1]at this;cases this
 |succ fuel ih=>
  intro listed env g g1 sb hr hG H
  refine⟨fun h=>(by rw[h]at hr;cases hr),fun j hj=>?_⟩
  by_cases mj:j=i
  ·subst mj;exact⟨vi,hi,v,g1,hG,H⟩
  ·obtain⟨vj,Ln,v',g2,hG2,H2⟩:=H.2 j (ready_mono hj mj)
   have b1:((jr ops).getD j 0).testBit i=false:=by
    cases hb:((jr ops).getD j 0).testBit i with
    |false=>rfl
    |true=>have:=kS sb hj i hb;rw[iV hr]at this;cases this
   have b2:((jr ops).getD i 0).testBit j=false:=by
    cases hb:((jr ops).getD i 0).testBit j with
    |false=>rfl
    |true=>have:=kS sb hr j hb;rw[iV hj]at this;cases this
   have F:=AP vp hi Ln (fun e=>mj e.symm) b1 b2
   obtain⟨KS,q1,q2,q3⟩:=EB F hG hG2
   refine⟨vj,Ln,v',KS,q1,ih _ _ _ g2 (sb.list hj) (ready_mono hr (fun e=>mj e.symm)) q2 ?_⟩
   rw[<-q3,Array.setIfInBounds_comm _ _ mj]
   exact H2
theorem Nf {n:Nat} {vo:bq} {env:Env} {g:Rows} {v:AV} {mr:Option Row} (h:eP vo.op (cL env) (fY vo.hid n g) ⟨vo.site,n⟩=some (v,mr)):VS X n vo env g v (jd g ⟨vo.site,n⟩ mr):=by
 unfold VS
 split
 ·rename_i dG;rw[dG]at h;simp[eP]at h
 ·rename_i dG;rw[dG]at h;simp[eP]at h
 ·rename_i dG;rw[dG]at h;simp[eP]at h
 ·rename_i dG;rw[dG]at h;simp[eP]at h
 ·rename_i dG;rw[dG]at h;simp[eP]at h
 ·rename_i dG;rw[dG]at h;simp[eP]at h
 ·rename_i dG;rw[dG]at h;simp[eP]at h
 ·exact⟨mr,h,rfl⟩
theorem HN {n:Nat} {vo:bq} {env:Env} {g g':Rows} {v:AV} (h:fZ vo.op (cL env) g ⟨vo.site,n⟩=some (v,g')):VS X n vo env g v g':=by
 unfold VS
 split
 ·rename_i dG;rw[dG]at h;simp[fZ]at h
 ·rename_i dG;rw[dG]at h;simp[fZ]at h
 ·exact h
 ·exact h
 ·exact h
 ·exact h
 ·exact h
 ·rename_i n1 n2 n3 n4 n5 n6 n7
  exfalso
  unfold fZ at h
  split at h
  ·rename_i hh;exact n3 _ _ _ hh
  ·rename_i hh;exact n4 _ _ _ hh
  ·rename_i hh;exact n5 _ _ _ hh
  ·rename_i hh;exact n6 _ _ hh
  ·rename_i hh;exact n7 _ _ hh
  ·simp at h
theorem O2 {vo:bq} {env:Env} {σ:au} {next:AV->au->Prop} (hv:fM X true vo env σ next):∃v g',VS X σ.next vo env σ.get v g'/\next v ⟨g',σ.next⟩:=by
 unfold fM at hv
 split at hv
 ·rename_i f args dG
  rcases hv with⟨r,hP,hn⟩|⟨h,_⟩|⟨hs,sz,rows,hM,hn⟩
  ·exact⟨r,σ.get,by unfold VS;rw[dG];exact .inl ⟨hP,rfl⟩,hn⟩
  ·cases h
  ·exact⟨_,_,by unfold VS;rw[dG];exact .inr ⟨hs,sz,rows,hM,rfl,rfl⟩,hn⟩
 ·rename_i x args dG
  split at hv
  ·rename_i f cH hx
   have tr:uN (cL env x) (args.map (cL env))=some (f,args.map (cL env)++cH):=by rw[hx];rfl
   rcases hv with⟨r,hP,hn⟩|⟨h,_⟩|⟨hs,sz,rows,hM,hn⟩
   ·exact⟨r,σ.get,by unfold VS;rw[dG];exact⟨f,_,tr,.inl ⟨hP,rfl⟩⟩,hn⟩
   ·cases h
   ·exact⟨_,_,by unfold VS;rw[dG];exact⟨f,_,tr,.inr ⟨hs,sz,rows,hM,rfl,rfl⟩⟩,hn⟩
  ·rename_i f cH hx
   have tr:uN (cL env x) (args.map (cL env))=some (f,cH++args.map (cL env)):=by rw[hx];rfl
   rcases hv with⟨r,hP,hn⟩|⟨h,_⟩|⟨hs,sz,rows,hM,hn⟩
   ·exact⟨r,σ.get,by unfold VS;rw[dG];exact⟨f,_,tr,.inl ⟨hP,rfl⟩⟩,hn⟩
   ·cases h
   ·exact⟨_,_,by unfold VS;rw[dG];exact⟨f,_,tr,.inr ⟨hs,sz,rows,hM,rfl,rfl⟩⟩,hn⟩
  ·exact hv.elim
 ·split at hv
  ·rename_i v g h;exact⟨v,g,HN h,hv⟩
  ·exact hv.elim
 ·split at hv
  ·rename_i v g h;exact⟨v,g,HN h,hv⟩
  ·exact hv.elim
 ·split at hv
  ·rename_i v g h;exact⟨v,g,HN h,hv⟩
  ·exact hv.elim
 ·split at hv
  ·rename_i v g h;exact⟨v,g,HN h,hv⟩
  ·exact hv.elim
 ·split at hv
  ·rename_i v g h;exact⟨v,g,HN h,hv⟩
  ·exact hv.elim
 ·split at hv
  ·rename_i v r h;exact⟨v,_,Nf h,hv⟩
  ·rename_i v h;exact⟨v,_,Nf h,hv⟩
  ·exact hv.elim
theorem wN {ops:Array Oper} {vl:List bq} {K:Env->au->Prop} {n:Nat} (vp:oi ops vl (jr ops)=true) (hlen:vl.length=ops.size):∀(r:List bq) (k:Nat) (listed:Array Bool) (env:Env) (g:Rows),
  (∀j,r[j]? =vl[k+j]?)->listed.size=ops.size->(∀i,i<ops.size->listed[i]? =some (decide (i<k)))->k+r.length=ops.size->DC ops listed->wpOps X true r K env ⟨g,n⟩->J2 X n ops vl (fun env g=>K env ⟨g,n+1⟩) r.length listed env g
 |[],k,listed,env,g,_,fb,hl,hk,_,hv=>by
  refine⟨?_,hv⟩
  rw[List.eq_nil_iff_forall_not_mem]
  intro j hj
  obtain⟨h0,o,ho,_⟩:=mem_ready.1 hj
  have dP:j<ops.size:=(Array.getElem?_eq_some_iff.1 ho).1
  have:=hl j dP
  simp at hk
  simp[this,show j<k by omega]at h0
 |vo::r,k,listed,env,g,hr,fb,hl,hk,sb,hv=>by
  simp only[List.length_cons]at hk
  have kr:vl[k]? =some vo:=by simpa using(hr 0).symm
  have k8:k<ops.size:=by omega
  have IQ:k∈Region.ready .any ops listed:=by
   rw[mem_ready]
   refine⟨by simp[hl k k8],ops[k],Array.getElem?_eq_getElem k8,fun e he hb=>?_⟩
   unfold oi EP at vp
   simp only[Bool.and_eq_true,List.all_eq_true]at vp
   have hm:(ops[k],k)∈ops.toList.zipIdx:=by
    rw[List.mem_iff_getElem?]
    exact⟨k,by simp[List.getElem?_zipIdx,k8]⟩
   have:=vp.1 _ hm
   rw[Array.all_eq_true_iff_forall_mem]at this
   have:=this e he
   simp only[hb,Bool.not_true,Bool.false_or,decide_eq_true_eq]at this
   simp[hl e.on (by omega),this]
  have hGS:∃v g',GS X n vo env g v g'/\wpOps X true r K (upd env vo.dst v) ⟨g',n⟩:=by
   unfold wpOps at hv
   unfold GS
   split at hv
   ·rename_i hw
    simp only[hw,if_true]
    exact O2 hv
   ·rename_i hw
    simp only[hw]
    exact⟨.undef,g,⟨rfl,rfl⟩,hv⟩
  obtain⟨v,g',h1,h2⟩:=hGS
  refine Ev vp hlen kr r.length listed env g g' sb IQ h1 ?_
  refine wN vp hlen r (k+1) _ _ _ (fun j=>by have:=hr (j+1);simpa[Nat.add_assoc,Nat.add_comm 1 j]using this) (by simp[fb]) (fun i hi=>?_) (by omega) (sb.list IQ) h2
  by_cases xT:i=k
  ·subst xT;simp[fb,k8]
  ·rw[Array.getElem?_setIfInBounds_ne (fun e=>xT e.symm),hl i hi]
   congr 1
   have:(i<k)=(i<k+1):=by apply propext;omega
   simp[this]
theorem nW {f:Nat->Oper->Option bq}:∀{l:List Oper} {vl:List bq} {j:Nat},allM f l j=some vl->vl.length=l.length/\∀(i:Nat) (o:Oper),l[i]? =some o->∃vo,vl[i]? =some vo/\f (j+i) o=some vo
 |[],vl,j,h=>by simp[allM]at h;subst h;simp
 |o::l,vl,j,h=>by
  simp only[allM,Option.bind_eq_bind,Option.bind_eq_some_iff,Option.pure_def,Option.some.injEq]at h
  obtain⟨vo,kr,s6,sj,rfl⟩:=h
  obtain⟨h1,h2⟩:=nW sj
  refine⟨by simp[h1],fun i o' hi=>?_⟩
  cases i with
  |zero=>simp at hi;subst hi;exact⟨vo,rfl,kr⟩
  |succ i=>
   simp at hi
   obtain⟨q,hq,hf⟩:=h2 i o' hi
   exact⟨q,by simpa using hq,by rw[<-hf];congr 1;omega⟩
theorem xu {ops:Array Oper} {vl:List bq} {nt site0:Nat} {draw mk:Bool} {bs:Array Nat} {hidden:List (Nat×Bool)} {n:Nat} {K:Env->Rows->Prop} {Q:Exit->Act->World->Prop} (dL:allM (lU P ops nt site0 draw mk bs hidden) ops.toList 0=some vl):
  ∀(fuel:Nat) (listed:Array Bool) (env:Env) (g:Rows) (a:Act) (w:World) (D:Nat->Prop) (ι:Names) (U:Nat->Prop),J2 (Sound P) n ops vl K fuel listed env g->gm P hs D ι g w->Used ι n U->(∀s,U s->∃i,s=site0+i/\listed.getD i false=true)->cj P w D ι env a->a.tmps.size=nt->
  (∀iC g' a' w' D' ι' U',K iC g'->Step hs D ι w D' ι' w'->gm P hs D' ι' g' w'->Used ι' n U'->cj P w' D' ι' iC a'->a'.tmps.size=nt->a'.defers=a.defers->Q .normal a' w')->wpAny P .any ops Q fuel listed a w:=by
 intro fuel
 induction fuel with
 |zero=>intro listed env g a w D ι U h S Us hU E fb hQ;exact⟨h.1,hQ env g a w D ι U h.2 (Step.refl _ _ _ _) S Us E fb rfl⟩
 |succ fuel ih=>
  intro listed env g a w D ι U h S Us hU E fb hQ
  refine⟨fun hr=>hQ env g a w D ι U (h.1 hr) (Step.refl _ _ _ _) S Us E fb rfl,fun i hi=>?_⟩
  obtain⟨vo,kr,v,g',hG,MN⟩:=h.2 i hi
  obtain⟨_,o,ho,_⟩:=mem_ready.1 hi
  obtain⟨vo',l5,QC⟩:=(nW dL).2 i o (by simpa using ho)
  rw[kr]at l5;injection l5 with l5;subst l5
  rw[Nat.zero_add]at QC
  obtain⟨hc,hd,Bo,xd,hg⟩:=oY QC
  have hw:=s7 (ops:=ops) (vo:=vo) E hg
  have TH:¬U vo.site:=fun hu=>by
   obtain⟨i',he,hl⟩:=hU _ hu
   have:i'=i:=by omega
   subst this
   rw[iV hi]at hl;cases hl
  have jt:i<listed.size:=by
   have h0:=(mem_ready.1 hi).1
   rcases Nat.lt_or_ge i listed.size with h|h
   ·exact h
   ·simp[Array.getElem?_eq_none h]at h0
  unfold wpOp
  simp only[ho]
  rw[<-hw]
  unfold GS at hG
  by_cases Gm:aJ vo.guard env=true
  ·rw[if_pos Gm]
   rw[if_pos Gm]at hG
   refine .inl (Av hc hG S Us TH E fun a' w' ⟨u,D',ι',ha,T,S',hR,U'⟩=>?_)
   subst ha
   refine ih _ _ _ _ w' D' ι' _ MN S' U' (fun s Bk=>?_) (by rw[hd];exact mH (oj E T) hR xd fb) (by rw[kQ];exact fb) fun iC g2 a2 w2 D2 ι2 U2 hk T2 S2 SZ E2 ki Dl=>hQ iC g2 a2 w2 D2 ι2 U2 hk (T.trans T2) S2 SZ E2 ki (Dl.trans (put_defers _ _ _))
   rcases Bk with h|h
   ·obtain⟨i',he,hl⟩:=hU _ h
    exact⟨i',he,getD_set_true hl⟩
   ·exact⟨i,by rw[h,Bo],by simp[jt]⟩
  ·rw[if_neg Gm]
   rw[if_neg Gm]at hG
   obtain⟨rfl,rfl⟩:=hG
   refine ih _ _ _ _ w D ι U MN S Us (fun s Bk=>?_) (by rw[hd];exact mH E dd.undef xd fb) (by rw[kQ];exact fb) fun iC g2 a2 w2 D2 ι2 U2 hk T2 S2 SZ E2 ki Dl=>hQ iC g2 a2 w2 D2 ι2 U2 hk T2 S2 SZ E2 ki (Dl.trans (put_defers _ _ _))
   obtain⟨i',he,hl⟩:=hU _ Bk
   exact⟨i',he,getD_set_true hl⟩
end
end Go.Proofs.YtgoelphibofcmaaGreat.V

namespace Go.Proofs.YtgoelphibofcmaaGreat.V
open Go.RowKit
variable {P:Program} {w w':World} {D D' D2:Nat->Prop} {ι ι' ι2:Names}
section
variable {hs:Nat} {X:fA}
def pN (X:fA):Prop:=∀f args σ K K',(∀r σ',K r σ'->K' r σ')->X f args σ K->X f args σ K'
theorem pZ:pN (Sound P):=fun _ _ _ _ _ hK h hs D ι w vs S U A=>
 (h hs D ι w vs S U A).mono fun _ _ ⟨r,g',n',D',ι',u,he,hk,rest⟩=>⟨r,g',n',D',ι',u,he,hK _ _ hk,rest⟩
def step (X:fA) (vo:bq) (N:Env->au->Prop) (env:Env) (σ:au):Prop:=
 if aJ vo.guard env then fM X false vo env σ fun v σ'=>N (upd env vo.dst v) σ' else N (upd env vo.dst .undef) σ
theorem qd (hK:pN X) {draw:Bool} {hid:List Nat} {site f:Nat} {args:List AV} {σ:au} {n n':AV->au->Prop} (hn:∀v σ',n v σ'->n' v σ') (hp:cF X draw hid site f args σ n):cF X draw hid site f args σ n':=by
 rcases hp with⟨r,h1,h2⟩|⟨h1,h2⟩|⟨h1,sz,rows,h2,h3⟩
 ·exact .inl ⟨r,h1,hn _ _ h2⟩
 ·exact .inr (.inl ⟨h1,hK _ _ _ _ _ hn h2⟩)
 ·exact .inr (.inr ⟨h1,sz,rows,h2,hn _ _ h3⟩)
theorem Cq (hK:pN X) {draw:Bool} {o:bq} {env:Env} {σ:au} {n n':AV->au->Prop} (hn:∀v σ',n v σ'->n' v σ') (hp:fM X draw o env σ n):fM X draw o env σ n':=by
 unfold fM at hp ⊢
 split at hp
 ·exact qd hK hn hp
 ·split at hp
  ·exact qd hK hn hp
  ·exact qd hK hn hp
  ·exact hp.elim
 ·split at hp
  ·exact hn _ _ hp
  ·exact hp.elim
 ·split at hp
  ·exact hn _ _ hp
  ·exact hp.elim
 ·split at hp
  ·exact hn _ _ hp
  ·exact hp.elim
 ·split at hp
  ·exact hn _ _ hp
  ·exact hp.elim
 ·split at hp
  ·exact hn _ _ hp
  ·exact hp.elim
 ·split at hp
  ·exact hn _ _ hp
  ·exact hn _ _ hp
  ·exact hp.elim
theorem jK (hK:pN X) {vo:bq} {N N':Env->au->Prop} (h:∀e s,N e s->N' e s) {env:Env} {σ:au} (hp:step X vo N env σ):step X vo N' env σ:=by
 unfold step at hp ⊢
 split at hp
 ·rename_i hw;rw[if_pos hw];exact Cq hK (fun v σ'=>h _ _) hp
 ·rename_i hw;rw[if_neg hw];exact h _ _ hp
theorem Hl {env iP:Env} {vo:bq} {σ:au} {n:AV->au->Prop} (h:∀t∈vo.op.gz,env t=iP t) (hv:fM X false vo env σ n):fM X false vo iP σ n:=by
 unfold fM at hv ⊢
 split at hv
 ·rename_i f args dG
  rw[dG]at h
  simp only[gn.gz]at h
  rw[<-map_congr h];exact hv
 ·rename_i x args dG
  rw[dG]at h
  simp only[gn.gz,List.mem_append]at h
  rw[<-map_congr (l:=args) fun t ht=>h t (.inr ht),<-bc (x:=x) fun t ht=>h t (.inl ht)];exact hv
 ·rw[<-gM h];exact hv
 ·rw[<-gM h];exact hv
 ·rw[<-gM h];exact hv
 ·rw[<-gM h];exact hv
 ·rw[<-gM h];exact hv
 ·rw[<-sU h];exact hv
theorem lz {x:bq} (hq:kR x=true) {N:Env->au->Prop} {env:Env} {σ:au}:step X x N env σ↔∃v g',GS X σ.next x env σ.get v g'/\N (upd env x.dst v) ⟨g',σ.next⟩:=by
 unfold kR at hq
 simp only[Bool.and_eq_true,Bool.not_eq_true',bne_iff_ne]at hq
 obtain⟨xY,tX⟩:=hq
 unfold step GS
 by_cases hw:aJ x.guard env=true
 ·rw[if_pos hw]
  simp only[hw,if_true]
  unfold fM
  split
  ·rename_i dG;simp[dG,gn.lF]at xY
  ·rename_i dG;simp[dG,gn.lF]at xY
  ·rename_i dG;simp[dG,gn.cls]at tX
  ·rename_i dG;simp[dG,gn.cls]at tX
  ·rename_i dG;simp[dG,gn.cls]at tX
  ·rename_i dG;simp[dG,gn.cls]at tX
  ·rename_i dG;simp[dG,gn.cls]at tX
  ·rename_i n1 n2 n3 n4 n5 n6 n7
   have hVS:∀v g',VS X σ.next x env σ.get v g'↔∃mr,eP x.op (cL env) (fY x.hid σ.next σ.get) ⟨x.site,σ.next⟩=some (v,mr)/\g'=jd σ.get ⟨x.site,σ.next⟩ mr:=fun v g'=>by
    unfold VS
    split
    ·rename_i hh;exact(n1 _ _ hh).elim
    ·rename_i hh;exact(n2 _ _ hh).elim
    ·rename_i hh;exact(n3 _ _ _ hh).elim
    ·rename_i hh;exact(n4 _ _ _ hh).elim
    ·rename_i hh;exact(n5 _ _ _ hh).elim
    ·rename_i hh;exact(n6 _ _ hh).elim
    ·rename_i hh;exact(n7 _ _ hh).elim
    ·exact Iff.rfl
   simp only[hVS]
   cases hz:eP x.op (cL env) (fY x.hid σ.next σ.get) ⟨x.site,σ.next⟩with
   |none=>
    exact⟨fun h=>h.elim,fun⟨v,g',⟨mr,h,_⟩,_⟩=>by cases h⟩
   |some p=>
    obtain⟨v,mr⟩:=p
    have key:∀(v':AV) (g':Rows),(∃PZ,some (v,mr)=some (v',PZ)/\g'=jd σ.get ⟨x.site,σ.next⟩ PZ)↔v'=v/\g'=jd σ.get ⟨x.site,σ.next⟩ mr:=fun v' g'=>by
     constructor
     ·rintro⟨PZ,h1,h2⟩
      injection h1 with h1;injection h1 with h1 h3
      subst h1;subst h3
      exact⟨rfl,h2⟩
     ·rintro⟨rfl,rfl⟩;exact⟨mr,rfl,rfl⟩
    have fin:(∃v' g',(∃PZ,some (v,mr)=some (v',PZ)/\g'=jd σ.get ⟨x.site,σ.next⟩ PZ)/\N (upd env x.dst v') ⟨g',σ.next⟩)↔N (upd env x.dst v) ⟨jd σ.get ⟨x.site,σ.next⟩ mr,σ.next⟩:=by
     constructor
     ·rintro⟨v',g',h,hN⟩
      obtain⟨rfl,rfl⟩:=(key v' g').1 h
      exact hN
     ·intro hN;exact⟨v,_,(key _ _).2 ⟨rfl,rfl⟩,hN⟩
    cases mr with
    |none=>exact fin.symm
    |some r=>exact fin.symm
 ·rw[if_neg hw]
  simp only[if_neg hw]
  exact⟨fun h=>⟨_,_,⟨rfl,rfl⟩,h⟩,fun⟨v,g',⟨hv,hg⟩,h⟩=>by rw[hv,hg]at h;exact h⟩
def xv (x:bq) (env:Env) (v:AV):Prop:=if aJ x.guard env then eP x.op (cL env) (fun _=>none) ⟨0,0⟩=some (v,none)else v=.undef
theorem vY {x:bq} (hp:x.op.cls=.pure):kR x=true:=by
 unfold kR
 rw[hp]
 cases hc:x.op<;>simp[hc,gn.cls]at hp<;>rfl
theorem sY {x:bq} (hp:x.op.cls=.pure) {N:Env->au->Prop} {env:Env} {σ:au}:step X x N env σ↔∃v,xv x env v/\N (upd env x.dst v) σ:=by
 rw[lz (vY hp)]
 unfold GS xv
 by_cases hw:aJ x.guard env=true
 ·simp only[hw,if_true]
  constructor
  ·rintro⟨v,g',h,hN⟩
   obtain⟨rfl,dL⟩:=yM hp h
   refine⟨v,?_,hN⟩
   unfold VS at h
   split at h
   ·rename_i dG;rw[dG]at hp;simp[gn.cls]at hp
   ·rename_i dG;rw[dG]at hp;simp[gn.cls]at hp
   ·rename_i dG;rw[dG]at hp;simp[gn.cls]at hp
   ·rename_i dG;rw[dG]at hp;simp[gn.cls]at hp
   ·rename_i dG;rw[dG]at hp;simp[gn.cls]at hp
   ·rename_i dG;rw[dG]at hp;simp[gn.cls]at hp
   ·rename_i dG;rw[dG]at hp;simp[gn.cls]at hp
   ·obtain⟨mr,hq,_⟩:=h
    have Uj:mr=none:=by
     cases mr with
     |none=>rfl
     |some r=>have:=v7 hq;simp[qy,hp]at this
    subst Uj
    rw[<-wb (g:=fY x.hid σ.next σ.get) (id:=⟨x.site,σ.next⟩) hp];exact hq
  ·rintro⟨v,h,hN⟩
   exact⟨v,σ.get,Nf (mr:=none) (by rw[wb (g2:=fun _=>none) (id2:=⟨0,0⟩) hp];exact h),hN⟩
 ·simp only[if_neg hw]
  exact⟨fun⟨v,g',⟨hv,hg⟩,h⟩=>⟨v,hv,by rw[hg]at h;exact h⟩,fun⟨v,hv,h⟩=>⟨v,σ.get,⟨hv,rfl⟩,h⟩⟩
theorem J8 {x:bq} {env iP:Env} {v:AV} (h:∀t∈x.gz,env t=iP t) (hv:xv x env v):xv x iP v:=by
 unfold xv at hv ⊢
 rw[<-nj h,<-sU fun t ht=>h t (rX ht)];exact hv
structure Mr (x y:bq):Prop where
 xy:∀k,x.dst=some k->k∉y.gz
 yx:∀k,y.dst=some k->k∉x.gz
 dst:∀k,x.dst=some k->y.dst≠some k
theorem r8 {x y:bq} (h:s5 x y=true):Mr x y:=by
 unfold s5 at h
 simp only[Bool.and_eq_true]at h
 obtain⟨a1,a2⟩:=h
 refine⟨fun k hk=>?_,fun k hk=>?_,fun k hk=>?_⟩
 ·rw[hk]at a1;simp at a1;exact a1.1
 ·rw[hk]at a2;simpa using a2
 ·rw[hk]at a1;simp at a1;exact a1.2
theorem xO {x y:bq} (h:xN x y=true):(Mr x y/\x.op.cls=.pure)∨(CG x y/\kR x=true/\kR y=true):=by
 unfold xN at h
 simp only[Bool.or_eq_true,Bool.and_eq_true,beq_iff_eq]at h
 rcases h with⟨h1,h2⟩|⟨⟨h1,h2⟩,h3⟩
 ·exact .inl ⟨r8 h1,h2⟩
 ·exact .inr ⟨qj h1,h2,h3⟩
theorem AZ {x y:bq} (h:xN x y=true):kR x=true:=by
 rcases xO h with h|h
 ·exact vY h.2
 ·exact h.2.1
theorem G4 (hK:pN X) {x y:bq} (hf:xN x y=true) {N:Env->au->Prop} {env:Env} {σ:au} (h:step X x (fun e s=>step X y N e s) env σ):step X y (fun e s=>step X x N e s) env σ:=by
 rcases xO hf with⟨F,hp⟩|⟨F,hx,hy⟩
 ·rw[sY hp]at h
  obtain⟨v,hx,h⟩:=h
  have MS:=fun(v':AV)=>wM (env:=env) (v:=v) (u:=v') F.dst
  have Bp:=mh (env:=env) (v:=v) F.xy
  have back:∀(v':AV),xv x (upd env y.dst v') v:=fun v'=>J8 (fun t ht=>(mh F.yx t ht).symm) hx
  unfold step at h ⊢
  rw[nj Bp]at h
  split at h
  ·rename_i hw
   rw[if_pos hw]
   refine Cq hK (fun v' σ' hN=>?_) (Hl (fun t ht=>Bp t (rX ht)) h)
   rw[MS]at hN
   exact(sY hp).2 ⟨v,back v',hN⟩
  ·rename_i hw
   rw[if_neg hw]
   rw[MS]at h
   exact(sY hp).2 ⟨v,back _,h⟩
 ·rw[lz hx]at h
  obtain⟨v,g1,h1,h⟩:=h
  rw[lz hy]at h
  obtain⟨v',g2,h2,h⟩:=h
  obtain⟨KS,q1,q2,q3⟩:=EB F h1 h2
  rw[q3]at h
  exact(lz hy).2 ⟨v',KS,q1,(lz hx).2 ⟨v,g2,q2,h⟩⟩
def z6 (X:fA) (ops:Array Oper) (vl:List bq) (K:Env->au->Prop):Nat->Array Bool->Env->au->Prop
 |0,listed,env,σ=>Region.ready .any ops listed=[]/\K env ⟨σ.get,σ.next+1⟩
 |f+1,listed,env,σ=>(Region.ready .any ops listed=[]->K env ⟨σ.get,σ.next+1⟩)/\∀i∈Region.ready .any ops listed,∃vo,vl[i]? =some vo/\step X vo (fun e s=>z6 X ops vl K f (listed.setIfInBounds i true) e s) env σ
theorem C7 {ops:Array Oper} {vl:List bq} {bs:Array Nat} {listed:Array Bool} {i:Nat} (h:qi ops vl bs listed i=true) (j:Nat):qi ops vl bs (listed.setIfInBounds j true) i=true:=by
 unfold qi at h ⊢
 split at h
 ·rename_i x hx
  simp only[List.all_eq_true,Bool.or_eq_true]at h ⊢
  intro k hk
  rcases h k hk with((h|h)|h)|h
  ·exact .inl (.inl (.inl (getD_set_true h)))
  ·exact .inl (.inl (.inr h))
  ·exact .inl (.inr h)
  ·exact .inr h
 ·cases h
theorem tf {ops:Array Oper} {vl:List bq} {listed:Array Bool} {i j:Nat} {vi:bq} (sb:DC ops listed) (h:qi ops vl (jr ops) listed i=true) (hi:vl[i]? =some vi) (hr:i∈Region.ready .any ops listed) (hj:j∈Region.ready .any ops listed) (mj:j≠i):∃vj,vl[j]? =some vj/\xN vi vj=true:=by
 unfold qi at h
 rw[hi]at h
 simp only[List.all_eq_true,Bool.or_eq_true,beq_iff_eq]at h
 obtain⟨_,o,ho,_⟩:=mem_ready.1 hj
 rcases h j (List.mem_range.2 (Array.getElem?_eq_some_iff.1 ho).1)with((h|h)|h)|h
 ·rw[iV hj]at h;cases h
 ·exact absurd h mj
 ·have:=kS sb hj i h
  rw[iV hr]at this;cases this
 ·split at h
  ·rename_i y hy;exact⟨y,hy,h⟩
  ·cases h
theorem Ey (hK:pN X) {ops:Array Oper} {vl:List bq} {K:Env->au->Prop} {i:Nat} {vi:bq} (hi:vl[i]? =some vi):∀(fuel:Nat) (listed:Array Bool) (env:Env) (σ:au),
  DC ops listed->i∈Region.ready .any ops listed->qi ops vl (jr ops) listed i=true->step X vi (fun e s=>z6 X ops vl K fuel (listed.setIfInBounds i true) e s) env σ->z6 X ops vl K (fuel+1) listed env σ:=by
 intro fuel
 induction fuel with
 |zero=>
  intro listed env σ sb hr lW H
  refine⟨fun h=>(by rw[h]at hr;cases hr),fun j hj=>?_⟩
  by_cases mj:j=i
  ·subst mj;exact⟨vi,hi,H⟩
  ·obtain⟨vj,Ln,QK⟩:=tf sb lW hi hr hj mj
   rw[lz (AZ QK)]at H
   obtain⟨v,g',_,H⟩:=H
   have:=ready_mono hj mj
   rw[H.1]at this;cases this
 |succ fuel ih=>
  intro listed env σ sb hr lW H
  refine⟨fun h=>(by rw[h]at hr;cases hr),fun j hj=>?_⟩
  by_cases mj:j=i
  ·subst mj;exact⟨vi,hi,H⟩
  ·obtain⟨vj,Ln,QK⟩:=tf sb lW hi hr hj mj
   refine⟨vj,Ln,?_⟩
   have H2:step X vi (fun e s=>step X vj (fun e s=>z6 X ops vl K fuel ((listed.setIfInBounds i true).setIfInBounds j true) e s) e s) env σ:=jK hK (fun e s h=>by
    obtain⟨vj',zj,h'⟩:=h.2 j (ready_mono hj mj)
    rw[Ln]at zj;injection zj with zj;subst zj
    exact h') H
   refine jK hK (fun e s h=>?_) (G4 hK QK H2)
   refine ih _ _ _ (sb.list hj) (ready_mono hr (fun e=>mj e.symm)) (C7 lW j) ?_
   rw[Array.setIfInBounds_comm _ _ mj]
   exact h
theorem sW {x:bq} (hg:x.guard=none) {N:Env->au->Prop} {env:Env} {σ:au}:step X x N env σ=fM X false x env σ (fun v σ'=>N (upd env x.dst v) σ'):=by
 unfold step
 rw[hg]
 simp[aJ]
theorem Eg {x y:bq} {t s sz:Nat} {ys:O} (hx:x.op=.append sz (.t t) ys) (hg:x.guard=none) (hf:EV s x y=true) {N:Env->au->Prop} {env:Env} {σ:au} (hl:LG t s ys env σ.next) (h:step X x (fun e s=>step X y N e s) env σ):
  step X y (fun e σ'=>LG t s ys e σ'.next/\step X x N e σ') env σ:=by
 unfold EV at hf
 simp only[Bool.and_eq_true,bne_iff_ne]at hf
 obtain⟨⟨⟨⟨⟨f1,hq⟩,f3⟩,f4⟩,f5⟩,f6⟩:=hf
 have F:=r8 f1
 obtain⟨⟨len,ht⟩,hsrc⟩:=hl
 have IU:∀k∈x.op.gz,∀v',upd env y.dst v' k=env k:=fun k hk v'=>mh (env:=env) (v:=v') F.yx k (rX hk)
 have dH:t∈x.op.gz:=by rw[hx];simp[gn.gz,gJ]
 have CD:∀v',cL (upd env y.dst v') ys=cL env ys:=fun v'=>(bc fun k hk=>by rw[IU k (by rw[hx];simp[gn.gz,hk])]).symm
 rw[sW hg]at h
 unfold fM at h
 simp only[hx,fZ]at h
 have ex:cL env (.t t)=.own ⟨s,σ.next⟩ 0 len:=ht
 rw[ex]at h
 cases hr:bw σ.get (cL env ys)with
 |none=>rw[hr]at h;exact h.elim
 |some rs=>
  rw[hr]at h
  simp only[Option.bind_some,aW]at h
  cases Gh:σ.get ⟨s,σ.next⟩with
  |none=>rw[Gh]at h;exact h.elim
  |some r=>
   rw[Gh]at h
   simp only[Option.bind_some]at h
   split at h
   ·rename_i v g1 hv
    split at hv
    ·rename_i hcond
     simp only[Option.some.injEq,Prod.mk.injEq]at hv
     obtain⟨rfl,rfl⟩:=hv
     rw[lz hq]at h
     obtain⟨v',g2,hG,hN⟩:=h
     have K8:(⟨y.site,σ.next⟩:Id)≠⟨s,σ.next⟩:=fun e=>f5 (by injection e)
     have IJ:(⟨y.site,σ.next⟩:Id)≠⟨x.site,σ.next⟩:=fun e=>f6 (by injection e)
     replace hG:GS X σ.next y env (bI (bW σ.get ⟨s,σ.next⟩) ⟨x.site,σ.next⟩ ⟨true,sz,r.rows++rs⟩) v' g2:=uC (mh F.xy) hG
     have UF:fY y.hid σ.next σ.get=fY y.hid σ.next (bI (bW σ.get ⟨s,σ.next⟩) ⟨x.site,σ.next⟩ ⟨true,sz,r.rows++rs⟩):=by
      cases hh:y.hid with
      |nil=>rw[hh]at f3;simp at f3
      |cons a l=>
       rw[hh]at f3 f4
       funext i
       show(if (a::l).contains i.site=true/\i.bm=σ.next then none else σ.get i)=if (a::l).contains i.site=true/\i.bm=σ.next then none else _
       by_cases h1:i=⟨x.site,σ.next⟩
       ·subst h1;rw[if_pos ⟨f4,rfl⟩,if_pos ⟨f4,rfl⟩]
       ·by_cases h2:i=⟨s,σ.next⟩
        ·subst h2;rw[if_pos ⟨f3,rfl⟩,if_pos ⟨f3,rfl⟩]
        ·simp only[bI,bW,if_neg h1,if_neg h2]
     obtain⟨my,N2,hG'⟩:∃my,g2=jd (bI (bW σ.get ⟨s,σ.next⟩) ⟨x.site,σ.next⟩ ⟨true,sz,r.rows++rs⟩) ⟨y.site,σ.next⟩ my/\GS X σ.next y env σ.get v' (jd σ.get ⟨y.site,σ.next⟩ my):=by
      unfold GS at hG ⊢
      by_cases wy:aJ y.guard env=true
      ·rw[if_pos wy]at hG
       have hcw:y.op.cls≠.write:=by
        unfold kR at hq
        simp only[Bool.and_eq_true,bne_iff_ne]at hq
        exact hq.2
       obtain⟨my,rfl,_,Nj⟩:=uJ hcw hG
       exact⟨my,rfl,by rw[if_pos wy];exact Nj _ UF⟩
      ·rw[if_neg wy]at hG
       obtain⟨rfl,rfl⟩:=hG
       exact⟨none,rfl,by rw[if_neg wy];exact⟨rfl,rfl⟩⟩
     subst N2
     refine(lz hq).2 ⟨v',_,hG',⟨⟨len,by rw[IU t dH];exact ht⟩,fun id o l he=>hsrc id o l (by rw[<-CD v'];exact he)⟩,?_⟩
     rw[sW hg]
     unfold fM
     have ex':cL (upd env y.dst v') (.t t)=.own ⟨s,σ.next⟩ 0 len:=by
      show upd env y.dst v' t= _
      rw[IU t dH];exact ht
     simp only[hx,fZ,ex',CD v']
     have nL:bw (jd σ.get ⟨y.site,σ.next⟩ my) (cL env ys)=some rs:=by
      cases my with
      |none=>exact hr
      |some row=>
       revert hr
       cases hev:cL env ys<;>simp only[bw,jd]<;>try exact fun h=>h
       rename_i id o l
       have:id≠⟨y.site,σ.next⟩:=fun e=>hsrc id o l hev (by rw[e])
       simp only[bI,if_neg this];exact fun h=>h
     have T8:jd σ.get ⟨y.site,σ.next⟩ my ⟨s,σ.next⟩=some r:=by
      cases my with
      |none=>exact Gh
      |some row=>simp only[jd,bI,if_neg (fun e=>K8 e.symm:(⟨s,σ.next⟩:Id)≠⟨y.site,σ.next⟩)];exact Gh
     rw[nL]
     simp only[Option.bind_some,aW,T8]
     rw[if_pos hcond]
     have QN:bI (bW (jd σ.get ⟨y.site,σ.next⟩ my) ⟨s,σ.next⟩) ⟨x.site,σ.next⟩ ⟨true,sz,r.rows++rs⟩=jd (bI (bW σ.get ⟨s,σ.next⟩) ⟨x.site,σ.next⟩ ⟨true,sz,r.rows++rs⟩) ⟨y.site,σ.next⟩ my:=by
      cases my with
      |none=>rfl
      |some row=>
       funext i
       simp only[jd,bI,bW]
       by_cases h1:i=⟨y.site,σ.next⟩
       ·subst h1;rw[if_neg IJ,if_neg K8,if_pos rfl,if_pos rfl]
       ·simp only[if_neg h1]
     have hu:=wM (env:=env) (v:=AV.own ⟨x.site,σ.next⟩ 0 (len+rs.length)) (u:=v') F.dst
     show N (upd (upd env y.dst v') x.dst (.own ⟨x.site,σ.next⟩ 0 (len+rs.length))) ⟨bI (bW (jd σ.get ⟨y.site,σ.next⟩ my) ⟨s,σ.next⟩) ⟨x.site,σ.next⟩ ⟨true,sz,r.rows++rs⟩,σ.next⟩
     rw[QN,<-hu]
     exact hN
    ·cases hv
   ·exact h.elim
theorem C6 {ops:Array Oper} {vl:List bq} {bs:Array Nat} {listed:Array Bool} {i s:Nat} (h:om ops vl bs listed i s=true) (j:Nat):om ops vl bs (listed.setIfInBounds j true) i s=true:=by
 unfold om at h ⊢
 split at h
 ·rename_i x hx
  simp only[List.all_eq_true,Bool.or_eq_true]at h ⊢
  intro k hk
  rcases h k hk with((h|h)|h)|h
  ·exact .inl (.inl (.inl (getD_set_true h)))
  ·exact .inl (.inl (.inr h))
  ·exact .inl (.inr h)
  ·exact .inr h
 ·cases h
theorem AW {ops:Array Oper} {vl:List bq} {listed:Array Bool} {i j s:Nat} {vi:bq} (sb:DC ops listed) (h:om ops vl (jr ops) listed i s=true) (hi:vl[i]? =some vi) (hr:i∈Region.ready .any ops listed) (hj:j∈Region.ready .any ops listed) (mj:j≠i):∃vj,vl[j]? =some vj/\EV s vi vj=true:=by
 unfold om at h
 rw[hi]at h
 simp only[List.all_eq_true,Bool.or_eq_true,beq_iff_eq]at h
 obtain⟨_,o,ho,_⟩:=mem_ready.1 hj
 rcases h j (List.mem_range.2 (Array.getElem?_eq_some_iff.1 ho).1)with((h|h)|h)|h
 ·rw[iV hj]at h;cases h
 ·exact absurd h mj
 ·have:=kS sb hj i h
  rw[iV hr]at this;cases this
 ·split at h
  ·rename_i y hy;exact⟨y,hy,h⟩
  ·cases h
theorem Cr (hK:pN X) {ops:Array Oper} {vl:List bq} {K:Env->au->Prop} {i t s sz:Nat} {ys:O} {vi:bq} (hi:vl[i]? =some vi) (hx:vi.op=.append sz (.t t) ys) (hg:vi.guard=none):∀(fuel:Nat) (listed:Array Bool) (env:Env) (σ:au),
  DC ops listed->i∈Region.ready .any ops listed->om ops vl (jr ops) listed i s=true->LG t s ys env σ.next->step X vi (fun e s=>z6 X ops vl K fuel (listed.setIfInBounds i true) e s) env σ->z6 X ops vl K (fuel+1) listed env σ:=by
 intro fuel
 induction fuel with
 |zero=>
  intro listed env σ sb hr lW PI H
  refine⟨fun h=>(by rw[h]at hr;cases hr),fun j hj=>?_⟩
  by_cases mj:j=i
  ·subst mj;exact⟨vi,hi,H⟩
  ·exfalso
   have h0:=ready_mono hj mj
   rw[sW hg]at H
   unfold fM at H
   simp only[hx]at H
   split at H
   ·rw[H.1]at h0;cases h0
   ·exact H
 |succ fuel ih=>
  intro listed env σ sb hr lW PI H
  refine⟨fun h=>(by rw[h]at hr;cases hr),fun j hj=>?_⟩
  by_cases mj:j=i
  ·subst mj;exact⟨vi,hi,H⟩
  ·obtain⟨vj,Ln,QK⟩:=AW sb lW hi hr hj mj
   refine⟨vj,Ln,?_⟩
   have H2:step X vi (fun e s=>step X vj (fun e s=>z6 X ops vl K fuel ((listed.setIfInBounds i true).setIfInBounds j true) e s) e s) env σ:=jK hK (fun e s h=>by
    obtain⟨vj',zj,h'⟩:=h.2 j (ready_mono hj mj)
    rw[Ln]at zj;injection zj with zj;subst zj
    exact h') H
   refine jK hK (fun e s h=>?_) (Eg hx hg QK PI H2)
   refine ih _ _ _ (sb.list hj) (ready_mono hr (fun e=>mj e.symm)) (C6 lW j) h.1 ?_
   rw[Array.setIfInBounds_comm _ _ mj]
   exact h.2
theorem I9 {ops:Array Oper} {vl:List bq} {bs:Array Nat} {listed:Array Bool} {i i' t s:Nat} {y:O} {vo:bq} (h:OG ops vl bs listed i=some (i',t,s,y,vo)):i'=i/\vl[i]? =some vo/\(∃sz,vo.op=.append sz (.t t) y)/\vo.guard=none/\om ops vl bs listed i s=true:=by
 unfold OG at h
 split at h
 ·rename_i x hx
  split at h
  ·rename_i t' s' y' jT
   split at h
   ·rename_i hf
    simp only[Option.some.injEq,Prod.mk.injEq]at h
    obtain⟨rfl,rfl,rfl,rfl,rfl⟩:=h
    unfold MX at jT
    split at jT
    ·rename_i sz t2 y2 ho se
     split at jT
     ·simp only[Option.some.injEq,Prod.mk.injEq]at jT
      obtain⟨rfl,rfl,rfl⟩:=jT
      exact⟨rfl,hx,⟨sz,ho⟩,se,hf⟩
     ·cases jT
    ·cases jT
   ·cases h
  ·cases h
 ·cases h
theorem xD {X:fA} {Q:Ex->Env->au->Prop} {env:Env} {σ:au}:∀{l:List VC} {t:VC},AF l=some t->eb X t Q env σ->∀c∈l,eb X c Q env σ
 |[],t,h,_,c,hc=>by cases hc
 |[c0],t,h,hw,c,hc=>by
  simp only[AF,Option.some.injEq]at h
  subst h
  rw[List.mem_singleton]at hc
  subst hc;exact hw
 |c0::c1::r,t,h,hw,c,hc=>by
  simp only[AF,Option.map_eq_some_iff]at h
  obtain⟨t',Hv,rfl⟩:=h
  rcases List.mem_cons.1 hc with rfl|hc
  ·exact hw.1
  ·exact xD Hv hw.2 c hc
theorem mapM_mem {α β:Type} {f:α->Option β}:∀{l:List α} {r:List β},l.mapM f=some r->∀i∈l,∃b∈r,f i=some b
 |[],_,_,i,hi=>by cases hi
 |a::l,r,h,i,hi=>by
  simp only[List.mapM_cons,Option.bind_eq_bind,Option.bind_eq_some_iff,Option.pure_def,Option.some.injEq]at h
  obtain⟨b,hb,r',hr,rfl⟩:=h
  rcases List.mem_cons.1 hi with rfl|hi
  ·exact⟨b,by simp,hb⟩
  ·obtain⟨c,hc,hf⟩:=mapM_mem hr i hi
   exact⟨c,List.mem_cons_of_mem _ hc,hf⟩
theorem Hh (hK:pN X) {ops:Array Oper} {vl:List bq} {Q:Ex->Env->au->Prop}:∀(n:Nat) (listed:Array Bool) (t:VC) (env:Env) (σ:au),wL ops vl (jr ops) n listed=some t->DC ops listed->eb X t Q env σ->z6 X ops vl (Q .normal) n listed env σ:=by
 intro n
 induction n with
 |zero=>
  intro listed t env σ h _ hw
  unfold wL at h
  split at h
  ·rename_i hr
   simp only[Option.some.injEq]at h
   subst h
   exact⟨hr,hw⟩
  ·cases h
 |succ n ih=>
  intro listed t env σ h sb hw
  unfold wL at h
  split at h
  ·rename_i hr
   simp only[Option.some.injEq]at h
   subst h
   exact⟨fun _=>hw,fun i hi=>by rw[hr]at hi;cases hi⟩
  ·rename_i r rs hr
   dsimp only at h
   split at h
   ·rename_i i hfind
    have K2:=List.mem_of_find?_eq_some hfind
    have xS:=List.find?_some hfind
    rw[<-hr]at K2
    split at h
    ·rename_i vo kr
     simp only[Option.map_eq_some_iff]at h
     obtain⟨t',Hv,rfl⟩:=h
     exact Ey hK kr n listed env σ sb K2 xS (jK hK (fun e s h=>ih _ _ _ _ Hv (sb.list K2) h) hw)
    ·cases h
   ·split at h
    ·rename_i i t s y vo hfind
     obtain⟨i0,Hu,dP⟩:=List.exists_of_findSome?_eq_some hfind
     obtain⟨rfl,kr,⟨sz,dG⟩,se,Gg⟩:=I9 dP
     rw[<-hr]at Hu
     simp only[Option.map_eq_some_iff]at h
     obtain⟨t',Hv,rfl⟩:=h
     exact Cr hK kr dG se n listed env σ sb Hu Gg hw.1 (jK hK (fun e s h=>ih _ _ _ _ Hv (sb.list Hu) h) hw.2)
    split at h
    ·rename_i l hl
     have dL:=xD h hw
     refine⟨fun h=>(by rw[h]at hr;cases hr),fun i hi=>?_⟩
     rw[hr]at hi
     obtain⟨b,Hr,Bb⟩:=mapM_mem hl i hi
     simp only[Option.bind_eq_some_iff,Option.map_eq_some_iff]at Bb
     obtain⟨vo,kr,t',Hv,rfl⟩:=Bb
     exact⟨vo,kr,jK hK (fun e s h=>ih _ _ _ _ Hv (sb.list (by rw[hr];exact hi)) h) (dL _ Hr)⟩
    ·cases h
theorem Eu {ops:Array Oper} {vl:List bq} {nt site0:Nat} {draw mk:Bool} {bs:Array Nat} {hidden:List (Nat×Bool)} {K:Env->au->Prop} {Q:Exit->Act->World->Prop} (dL:allM (lU P ops nt site0 draw mk bs hidden) ops.toList 0=some vl):
  ∀(fuel:Nat) (listed:Array Bool) (env:Env) (σ:au) (a:Act) (w:World) (D:Nat->Prop) (ι:Names) (U:Nat->Prop),z6 (Sound P) ops vl K fuel listed env σ->gm P hs D ι σ.get w->Used ι σ.next U->(∀s,U s->∃i,s=site0+i/\listed.getD i false=true)->cj P w D ι env a->a.tmps.size=nt->
  (∀iC σ' a' w' D' ι',K iC σ'->Step hs D ι w D' ι' w'->St P hs nt D' ι' iC σ' a' w'->a'.defers=a.defers->σ.next<=σ'.next->Q .normal a' w')->wpAny P .any ops Q fuel listed a w:=by
 intro fuel
 induction fuel with
 |zero=>intro listed env σ a w D ι U h S Us hU E fb hQ;exact⟨h.1,hQ env _ a w D ι h.2 (Step.refl _ _ _ _) ⟨S,Us.next,E,fb⟩ rfl (Nat.le_succ _)⟩
 |succ fuel ih=>
  intro listed env σ a w D ι U h S Us hU E fb hQ
  refine⟨fun hr=>hQ env _ a w D ι (h.1 hr) (Step.refl _ _ _ _) ⟨S,Us.next,E,fb⟩ rfl (Nat.le_succ _),fun i hi=>?_⟩
  obtain⟨vo,kr,hG⟩:=h.2 i hi
  obtain⟨_,o,ho,_⟩:=mem_ready.1 hi
  obtain⟨vo',l5,QC⟩:=(nW dL).2 i o (by simpa using ho)
  rw[kr]at l5;injection l5 with l5;subst l5
  rw[Nat.zero_add]at QC
  obtain⟨hc,hd,Bo,xd,hg⟩:=oY QC
  have hw:=s7 (ops:=ops) (vo:=vo) E hg
  have TH:¬U vo.site:=fun hu=>by
   obtain⟨i',he,hl⟩:=hU _ hu
   have:i'=i:=by omega
   subst this
   rw[iV hi]at hl;cases hl
  have jt:i<listed.size:=by
   have h0:=(mem_ready.1 hi).1
   rcases Nat.lt_or_ge i listed.size with h|h
   ·exact h
   ·simp[Array.getElem?_eq_none h]at h0
  unfold wpOp
  simp only[ho]
  rw[<-hw]
  unfold step at hG
  by_cases Gm:aJ vo.guard env=true
  ·rw[if_pos Gm]
   rw[if_pos Gm]at hG
   refine .inl (yG hc hG S Us TH E fun v σ' u D' ι' w' hn T S' hR U' hle=>?_)
   refine ih _ _ _ _ w' D' ι' _ hn S' U' (fun s Bk=>?_) (by rw[hd];exact mH (oj E T) hR xd fb) (by rw[kQ];exact fb) fun iC σ2 a2 w2 D2 ι2 hk T2 Ow Dl mL=>hQ iC σ2 a2 w2 D2 ι2 hk (T.trans T2) Ow (Dl.trans (put_defers _ _ _)) (Nat.le_trans hle mL)
   rcases Bk with h|h
   ·obtain⟨i',he,hl⟩:=hU _ h
    exact⟨i',he,getD_set_true hl⟩
   ·exact⟨i,by rw[h,Bo],by simp[jt]⟩
  ·rw[if_neg Gm]
   rw[if_neg Gm]at hG
   refine ih _ _ _ _ w D ι U hG S Us (fun s Bk=>?_) (by rw[hd];exact mH E dd.undef xd fb) (by rw[kQ];exact fb) fun iC σ2 a2 w2 D2 ι2 hk T2 Ow Dl mL=>hQ iC σ2 a2 w2 D2 ι2 hk T2 Ow (Dl.trans (put_defers _ _ _)) mL
   obtain⟨i',he,hl⟩:=hU _ Bk
   exact⟨i',he,getD_set_true hl⟩
end
end Go.Proofs.YtgoelphibofcmaaGreat.V

namespace Go.Proofs.YtgoelphibofcmaaGreat.V
open Go.RowKit
variable {P:Program} {w w':World} {D D' D2:Nat->Prop} {ι ι' ι2:Names}
def CJ (P:Program) (c:Code) (Q:Exit->Act->World->Prop) (a:Act) (w:World):Prop:=
 ∀(b:Frame) (k:List Item) (cs:List Frame),b.kind≠.early->∃e a' w',Q e a' w'/\Arrives P (lone (b.at a (.code c::k)) cs w) b k cs e a' w'
section
variable {Q:Exit->Act->World->Prop} {a:Act}
theorem sR {c:Code} (h:c.wp P Q a w):CJ P c Q a w:=fun b k cs _=>h b k cs
theorem Fm {x y:Code} (h:CJ P x (Exit.then (CJ P y Q) Q) a w):CJ P (.seq x y) Q a w:=by
 intro b k cs hb
 obtain⟨e,a1,w1,hq,jD⟩:=h b (.code y::k) cs hb
 by_cases he:e=.normal
 ·subst he
  obtain⟨e2,a2,w2,tX,Iy⟩:=hq b k cs hb
  exact⟨e2,a2,w2,tX,.of_steps (.head step_seq jD) Iy⟩
 ·refine⟨e,a1,w1,?_,.of_steps (.one step_seq) (.pass (x:=.code y) rfl (fun _ _=>.inl he) jD)⟩
  cases e<;>first|exact absurd rfl he|exact hq
theorem Jj {c:Operand} {x y:Code} {t:Bool} (hc:a.eval c=.bool t) (h:CJ P (if t then x else y) Q a w):CJ P (.cond c x y) Q a w:=
 fun b k cs hb=>let ⟨e,a',w',q,r⟩:=h b k cs hb;⟨e,a',w',q,.of_steps (.one (step_cond hc)) r⟩
theorem GM {id:Nat} {c:Code} (h:CJ P c (Exit.inBlock id Q) a w):CJ P (.block id c) Q a w:=by
 intro b k cs hb
 obtain⟨e,a1,w1,hq,jD⟩:=h b (.inBlock id::k) cs hb
 cases e with
 |normal=>exact⟨.normal,a1,w1,hq,.head step_block (Steps.trans jD (.one step_inBlock))⟩
 |exit kI=>
  by_cases hid:kI=id
  ·simp only[Exit.inBlock,hid,if_true]at hq
   exact⟨.normal,a1,w1,hq,.head step_block (jD k (by simp[exitTo,hid]))⟩
  ·simp only[Exit.inBlock,hid,if_false]at hq
   exact⟨.exit kI,a1,w1,hq,fun k' hk=>.head step_block (jD k' (by simp[exitTo,Ne.symm hid,hk]))⟩
 |goto l=>exact⟨_,a1,w1,hq,fun k' hk=>.head step_block (jD k' (by simp[gotoIn,hk]))⟩
 |ret=>exact⟨_,a1,w1,hq,.of_steps (.one step_block) jD⟩
 |panic ch=>exact⟨_,a1,w1,hq,.of_steps (.one step_block) jD⟩
 |outgrown=>exact⟨_,a1,w1,hq,.of_steps (b:=b) (k:=k) (cs:=cs) (e:=.outgrown) (.one step_block) jD⟩
def ur (P:Program) (c:Code) (Q:Exit->Act->World->Prop):Nat->Act->World->Prop
 |0=>fun _ _=>False
 |n+1=>CJ P c (Exit.then (ur P c Q n) Q)
theorem Jk {c:Code} (n:Nat) (h:ur P c Q n a w):CJ P (.loop c) Q a w:=by
 intro b k cs hb
 have key:∀n a w,ur P c Q n a w->∃e a' w',Q e a' w'/\Arrives P (lone (b.at a (.code c::.inLoop c::k)) cs w) b k cs e a' w':=by
  intro n
  induction n with
  |zero=>intro a w h;exact h.elim
  |succ n ih=>
   intro a w h
   obtain⟨e,a1,w1,hq,jD⟩:=h b (.inLoop c::k) cs hb
   by_cases he:e=.normal
   ·subst he
    obtain⟨e2,a2,w2,tX,Iy⟩:=ih a1 w1 hq
    exact⟨e2,a2,w2,tX,.of_steps (Steps.trans jD (.one step_inLoop)) Iy⟩
   ·refine⟨e,a1,w1,?_,.pass (x:=.inLoop c) rfl (fun _ _=>.inl he) jD⟩
    cases e<;>first|exact absurd rfl he|exact hq
 obtain⟨e,a',w',hq,jD⟩:=key n a w h
 exact⟨e,a',w',hq,.of_steps (.one step_loop) jD⟩
theorem yT {f:FuncId} {fn:Func} {c:Code} {args:Array Value} {R:Ending->World->Prop} (hf:P.funcs[f]? =some fn) (hb:fn.body=some c)
  (h:CJ P c (bodyPost P fn R) {tmps:=args++Array.replicate (fn.ntmps-args.size) undef,defers:=[]} w):Calls P f args w R:=by
 intro cs
 have N1:Frame.enter P f args .normal=({(default:Frame)with fn:=f,kind:=.normal}:Frame).at {tmps:=args++Array.replicate (fn.ntmps-args.size) undef,defers:=[]} [.code c]:=by simp[Frame.enter,Frame.at,hf,hb]
 obtain⟨e,a',w',hq,jD⟩:=h {(default:Frame)with fn:=f,kind:=.normal} [] cs (by simp)
 rw[<-N1]at jD
 cases e with
 |normal=>obtain⟨hd,v,hr,hR⟩:=hq;exact⟨.returned v,w',_,hR,Steps.trans jD (.one step_end),rfl,rfl,hd,rfl,fn,hf,hr⟩
 |ret=>obtain⟨hd,v,hr,hR⟩:=hq;obtain⟨todo,hs⟩:=jD;exact⟨.returned v,w',_,hR,hs,rfl,rfl,hd,rfl,fn,hf,hr⟩
 |panic chain=>obtain⟨hd,hR⟩:=hq;obtain⟨todo,hs⟩:=jD;exact⟨.panicked chain,w',_,hR,hs,rfl,rfl,hd,fn,hf⟩
 |exit id=>exact hq.elim
 |goto l=>exact hq.elim
 |outgrown=>exact⟨.outgrown,w',{(default:Frame)with fn:=f,kind:=.normal},hq,jD.resolve_left (by simp),rfl,trivial⟩
def wY (P:Program) (ops:Array Oper) (Q:Exit->Act->World->Prop) (l:List Nat) (a:Act) (w:World):Prop:=
 ∀(b:Frame) (k:List Item) (cs:List Frame),b.kind≠.early->∃e a' w',Q e a' w'/\Arrives P (lone (b.at a (.inRegion ops l::k)) cs w) b k cs e a' w'
theorem DV {id:Nat} {ops:Array Oper} (h:wY P ops Q (List.range ops.size) a w):CJ P (.region id ops false) Q a w:=
 fun b k cs hb=>let ⟨e,a',w',q,r⟩:=h b k cs hb;⟨e,a',w',q,.of_steps (.one step_region) r⟩
theorem OM {ops:Array Oper} (h:Q .normal a w):wY P ops Q [] a w:=fun _ _ _ _=>⟨.normal,a,w,h,.one step_region_end⟩
theorem oU {o:Oper} {ys:Nat->Option Bool} (h:o.guard=none):Region.wanted o ys=true:=by simp[Region.wanted,h]
theorem Jr {ops:Array Oper} {i:Nat} {rest:List Nat} {o:Oper} {v:Value} (ho:ops[i]? =some o) (hg:o.guard=none) (hr:(execOp a.eval o).run P w=.ok (.value v) w') (h:wY P ops Q rest (a.put o.dst v) w'):wY P ops Q (i::rest) a w:=by
 intro b k cs hb
 obtain⟨e,a',w2,hq,jD⟩:=h b k cs hb
 refine⟨e,a',w2,hq,.of_steps (.one ?_) jD⟩
 have sH:(b.at a (.inRegion ops (i::rest)::k)).finish v=b.at (a.put o.dst v) (.inRegion ops rest::k):=by rw[Frame.finish_at,ho];rfl
 rw[<-sH]
 refine step_lone_go ?_
 have h2:=stepG_op (P:=P) (b:=b) (k:=k) (cs:=cs) (w:=w) (rest:=rest) ho (oU hg (ys:=yielded ops a.tmps))
 rw[h2];simp[stepG.apply,hr]
theorem LV {ops:Array Oper} {i:Nat} {rest:List Nat} {o:Oper} {v z:Value} {c cap s r:Nat} {buf:Array Value} (ho:ops[i]? =some o) (hg:o.guard=none) (hr:(execOp a.eval o).run P w=.ok (.comm #[Conc.scase c v z] true .send) w)
  (hc:w.heap[c]? =some (.chan cap buf false s r false)) (fP:buf.size<cap) (h:wY P ops Q rest (a.put o.dst undef) (w.setChan c cap (buf.push v) false (s+1) r false)):wY P ops Q (i::rest) a w:=by
 intro b k cs hb
 obtain⟨e,a',w2,hq,jD⟩:=h b k cs hb
 refine⟨e,a',w2,hq,.of_steps (.one ?_) jD⟩
 have sH:(b.at a (.inRegion ops (i::rest)::k)).finish undef=b.at (a.put o.dst undef) (.inRegion ops rest::k):=by rw[Frame.finish_at,ho];rfl
 rw[<-sH,Conc.lone_eq_solo,Conc.lone_eq_solo]
 exact Conc.step_lone_send_room (Conc.stepG_comm ho (oU hg) hb hr) hc fP
theorem LU {ops:Array Oper} {i:Nat} {rest:List Nat} {o:Oper} {z:Value} {c cap s r:Nat} {buf:Array Value} (ho:ops[i]? =some o) (hg:o.guard=none) (hr:(execOp a.eval o).run P w=.ok (.comm #[Conc.rcase c z] true (.recv false)) w)
  (hc:w.heap[c]? =some (.chan cap buf false s r false)) (Br:0<buf.size) (h:wY P ops Q rest (a.put o.dst (buf.getD 0 undef)) (w.setChan c cap (buf.extract 1 buf.size) false s (r+1) false)):wY P ops Q (i::rest) a w:=by
 intro b k cs hb
 obtain⟨e,a',w2,hq,jD⟩:=h b k cs hb
 refine⟨e,a',w2,hq,.of_steps (.one ?_) jD⟩
 have sH:(b.at a (.inRegion ops (i::rest)::k)).finish (buf.getD 0 undef)=b.at (a.put o.dst (buf.getD 0 undef)) (.inRegion ops rest::k):=by rw[Frame.finish_at,ho];rfl
 rw[<-sH,Conc.lone_eq_solo,Conc.lone_eq_solo]
 exact Conc.step_lone_recv_buf false (Conc.stepG_comm ho (oU hg) hb hr) hc Br
end
section
variable {hs:Nat} {g:Rows} {env:Env} {a:Act} {o:Oper}
theorem Lw {x y:O} (hc:qL P o.op=some (.snd x y)):∃x' y',o.op=.send x' y'/\cO P x'=some x/\cO P y'=some y:=by
 unfold qL at hc
 split at hc
 case h_25=>
  rename_i x' y' h
  simp only[Option.bind_eq_bind,Option.bind_eq_some_iff,Option.pure_def,Option.some.injEq,gn.snd.injEq]at hc
  obtain⟨p,h1,q,h2,rfl,rfl⟩:=hc
  exact⟨_,_,h,h1,h2⟩
 all_goals (try unfold nu at hc)<;>(try unfold uM at hc)<;>(try unfold sr at hc)<;>(repeat' (split at hc))<;>(simp only[Option.bind_eq_bind,Option.bind_eq_some_iff,Option.pure_def,Option.some.injEq,Option.map_eq_some_iff,reduceCtorEq,and_false,exists_false]at hc)
theorem Lv {x:O} (hc:qL P o.op=some (.OP x)):∃t dir e i z x',o.op=.recv t x' false/\P.underlying t=some (.chan dir e)/\P.info? e=some i/\i.zero=some z/\cO P x'=some x:=by
 unfold qL at hc
 split at hc
 case h_26=>
  rename_i t x' h
  split at hc
  ·rename_i dir e ht
   split at hc
   ·rename_i z hz
    simp only[Option.bind_eq_some_iff]at hz
    obtain⟨i,hi,hz⟩:=hz
    simp only[Option.map_eq_some_iff,gn.OP.injEq]at hc
    obtain⟨p,h1,rfl⟩:=hc
    exact⟨t,dir,e,i,z,x',h,ht,hi,hz,h1⟩
   ·cases hc
  ·cases hc
 all_goals (try unfold nu at hc)<;>(try unfold uM at hc)<;>(try unfold sr at hc)<;>(repeat' (split at hc))<;>(simp only[Option.bind_eq_bind,Option.bind_eq_some_iff,Option.pure_def,Option.some.injEq,Option.map_eq_some_iff,reduceCtorEq,and_false,exists_false]at hc)
theorem Qf {x y:O} {g':Rows} (S:gm P hs D ι g w) (hc:qL P o.op=some (.snd x y)) (E:cj P w D ι env a) (hv:ep g (cL env x) (cL env y)=some g'):
  ∃c cap s r buf u,(execOp a.eval o).run P w=.ok (.comm #[Conc.scase c u (.tuple #[])] true .send) w/\w.heap[c]? =some (.chan cap buf false s r false)/\buf.size<cap/\gm P hs D ι g' (w.setChan c cap (buf.push u) false (s+1) r false)/\Step hs D ι w D ι (w.setChan c cap (buf.push u) false (s+1) r false):=by
 obtain⟨x',y',ho,hx,hy⟩:=Lw hc
 have rx:=di E hx
 have ry:=di E hy
 unfold ep at hv
 split at hv
 ·rename_i i he
  simp only[Option.bind_eq_some_iff]at hv
  obtain⟨r,hg,hv⟩:=hv
  split at hv
  ·rename_i hcond
   simp only[Option.some.injEq]at hv
   subst hv
   obtain⟨B,c,hu,hB,hk,fb,buf,s,q,hb,Kf,hR⟩:=yU S rx he hg
   obtain⟨B',dC,RR,_⟩:=S.row i r hg
   rw[hB]at dC;injection dC with dC;subst dC
   have nI:=S.Hi (ob:=.chan c (buf.push (a.eval y')) false (s+1) q false) (r':={r with rows:=r.rows++[[cL env y]]}) hg hcond.1 hB fun hr kH=>⟨RR.sz,fun cs dt=>?_,fun h0=>(by rw[hk]at h0;cases h0),fun m hm=>(by rw[hk]at hm;cases hm),fun c' j6=>?_⟩
   ·exact⟨B.b,c,s,q,buf,a.eval y',by simp[execOp,ho,hu,Conc.scase],hb,by rw[Kf];omega,nI.1,nI.2⟩
   ·rcases List.mem_append.1 dt with h|h
    ·exact RR.flat cs h
    ·rw[List.mem_singleton.1 h]
     intro b sG
     rw[List.mem_singleton.1 sG];exact hcond.2.2
   ·rw[hk]at j6
    simp only[Option.some.injEq,BK.chan.injEq]at j6
    subst j6
    refine⟨fb,_,_,_,kH,by simp[Kf],fun j cs hj=>?_⟩
    rw[List.getElem?_append]at hj
    split at hj
    ·rename_i dP
     obtain⟨b,u,q1,q2,q3⟩:=hR j cs hj
     refine⟨b,u,q1,?_,hr _ _ q3⟩
     rw[Array.getElem?_push,if_neg (by omega)];exact q2
    ·rename_i qo
     have gG:j=r.rows.length:=by
      have:=(List.getElem?_eq_some_iff.1 hj).1
      simp at this;omega
     subst gG
     simp at hj
     subst hj
     exact⟨_,_,rfl,by rw[Array.getElem?_push,if_pos Kf.symm],hr _ _ ry⟩
  ·cases hv
 ·cases hv
theorem Qe {x:O} {g':Rows} {v:AV} (S:gm P hs D ι g w) (hc:qL P o.op=some (.OP x)) (E:cj P w D ι env a) (hv:eo g (cL env x)=some (v,g')):
  ∃c cap s r buf z,(execOp a.eval o).run P w=.ok (.comm #[Conc.rcase c z] true (.recv false)) w/\w.heap[c]? =some (.chan cap buf false s r false)/\0<buf.size/\gm P hs D ι g' (w.setChan c cap (buf.extract 1 buf.size) false s (r+1) false)/\Step hs D ι w D ι (w.setChan c cap (buf.extract 1 buf.size) false s (r+1) false)/\dd P (w.setChan c cap (buf.extract 1 buf.size) false s (r+1) false) D ι v (buf.getD 0 undef):=by
 obtain⟨t,dir,e,i0,z,x',ho,ht,hi,hz,hx⟩:=Lv hc
 have rx:=di E hx
 unfold eo at hv
 split at hv
 ·rename_i i he
  simp only[Option.bind_eq_some_iff]at hv
  obtain⟨r,hg,hv⟩:=hv
  split at hv
  ·rename_i v' rest rF
   split at hv
   ·rename_i hcond
    simp only[Option.some.injEq,Prod.mk.injEq]at hv
    obtain⟨rfl,rfl⟩:=hv
    obtain⟨B,c,hu,hB,hk,fb,buf,s,q,hb,Kf,hR⟩:=yU S rx he hg
    obtain⟨B',dC,RR,_⟩:=S.row i r hg
    rw[hB]at dC;injection dC with dC;subst dC
    obtain⟨b0,u0,q1,q2,q3⟩:=hR 0 [v'] (by rw[rF];rfl)
    simp only[List.cons.injEq,and_true]at q1
    subst q1
    have lf:0<buf.size:=by rw[Kf,rF];simp
    have SF:buf.getD 0 undef=u0:=by rw[Array.getD_eq_getD_getElem?,q2];rfl
    have nI:=S.Hi (ob:=.chan c (buf.extract 1 buf.size) false s (q+1) false) (r':={r with rows:=rest}) hg hcond hB fun hr kH=>⟨RR.sz,fun cs dt=>RR.flat cs (by rw[rF];exact List.mem_cons_of_mem _ dt),fun h0=>(by rw[hk]at h0;cases h0),fun m hm=>(by rw[hk]at hm;cases hm),fun c' j6=>?_⟩
    ·refine⟨B.b,c,s,q,buf,z,?_,hb,lf,nI.1,nI.2,?_⟩
     ·have pR:(zeroValue e).run P w=.ok z w:=by simp[zeroValue,typeInfo,hi,hz]
      simp[execOp,ho,hu,Conc.rcase,run_underlying ht,pR]
     ·rw[SF];exact nI.2.rep q3
    ·rw[hk]at j6
     simp only[Option.some.injEq,BK.chan.injEq]at j6
     subst j6
     refine⟨fb,_,_,_,kH,by simp[Kf,rF],fun j cs hj=>?_⟩
     obtain⟨b,u,k1,k2,k3⟩:=hR (j+1) cs (by rw[rF];simpa using hj)
     refine⟨b,u,k1,?_,hr _ _ k3⟩
     have dP:=(Array.getElem?_eq_some_iff.1 k2).1
     rw[Array.getElem?_extract,if_pos (by omega),Nat.add_comm 1 j];exact k2
   ·cases hv
  ·cases hv
 ·cases hv
theorem FR {ops:Array Oper} {nt site0:Nat} {K:Env->au->Prop} {Q:Exit->Act->World->Prop}:∀(l:List Oper) (vl:List bq) (j:Nat) (env:Env) (σ:au) (a:Act) (w:World) (D:Nat->Prop) (ι:Names),
  ops.toList.drop j=l->allM (lU P ops nt site0 false false #[] []) l j=some vl->cD vl K env σ->gm P hs D ι σ.get w->Used ι σ.next (fun _=>False)->cj P w D ι env a->a.tmps.size=nt->
  (∀iC σ' a' w' D' ι',K iC σ'->Step hs D ι w D' ι' w'->St P hs nt D' ι' iC σ' a' w'->a'.defers=a.defers->σ.next<=σ'.next->Q .normal a' w')->wY P ops Q (List.range' j l.length) a w:=by
 intro l
 induction l with
 |nil=>
  intro vl j env σ a w D ι _ h hv S Us E fb hQ
  simp[allM]at h;subst h
  exact OM (hQ env ⟨σ.get,σ.next+1⟩ a w D ι hv (Step.refl _ _ _ _) ⟨S,Us.next,E,fb⟩ rfl (Nat.le_succ _))
 |cons o l ih=>
  intro vl j env σ a w D ι hl h hv S Us E fb hQ
  simp only[allM,Option.bind_eq_bind,Option.bind_eq_some_iff,Option.pure_def,Option.some.injEq]at h
  obtain⟨vo,kr,s6,sj,rfl⟩:=h
  obtain⟨hc,hd,Bo,xd,hg⟩:=oY kr
  obtain⟨QO,hv⟩:=hv
  have Uq:o.guard=none:=by
   split at hg
   ·assumption
   ·obtain⟨t,_,h⟩:=hg
    rw[QO]at h;cases h
  have Ur:ops[j]? =some o:=by
   have h0:=congrArg (fun x=>x[0]?) hl
   rw[<-Array.getElem?_toList]
   simpa[List.getElem?_drop]using h0
  have Kl:ops.toList.drop (j+1)=l:=by rw[<-List.drop_drop,hl];rfl
  have go:∀(v:AV) (u:Value) (g2:Rows) (w2:World),cD s6 K (upd env vo.dst v) ⟨g2,σ.next⟩->gm P hs D ι g2 w2->Step hs D ι w D ι w2->dd P w2 D ι v u->wY P ops Q (List.range' (j+1) l.length) (a.put o.dst u) w2:=fun v u g2 w2 hn S2 T hR=>
   ih s6 (j+1) (upd env vo.dst v) ⟨g2,σ.next⟩ (a.put o.dst u) w2 D ι Kl sj hn S2 Us (by rw[hd];exact mH (oj E T) hR xd fb) (by rw[kQ];exact fb) fun iC σ2 a' w3 D3 ι3 hk T2 Nd Dl mL=>hQ iC σ2 a' w3 D3 ι3 hk (T.trans T2) Nd (Dl.trans (put_defers _ _ _)) mL
  rw[show List.range' j (o::l).length=j::List.range' (j+1) l.length from rfl]
  split at hv
  ·rename_i x y dG
   split at hv
   ·rename_i g2 PQ
    rw[dG]at hc
    obtain⟨c,cap,s,r,buf,u,gr,hb,fP,S2,T⟩:=Qf S hc E PQ
    exact LV Ur Uq gr hb fP (go _ _ _ _ hv S2 T dd.undef)
   ·exact hv.elim
  ·rename_i x dG
   split at hv
   ·rename_i v g2 PQ
    rw[dG]at hc
    obtain⟨c,cap,s,r,buf,z,gr,hb,Br,S2,T,hR⟩:=Qe S hc E PQ
    exact LU Ur Uq gr hb Br (go _ _ _ _ hv S2 T hR)
   ·exact hv.elim
  ·split at hv
   ·rename_i v hq
    obtain⟨u,gr,hR⟩:=yu hc hq S E
    exact Jr Ur Uq gr (go _ _ _ _ hv S (Step.refl _ _ _ _) hR)
   ·exact hv.elim
end
end Go.Proofs.YtgoelphibofcmaaGreat.V

namespace Go.Proofs.YtgoelphibofcmaaGreat.V
open Go.RowKit
variable {P:Program} {w w':World} {D D' D2:Nat->Prop} {ι ι' ι2:Names}
section
variable {hs:Nat} {X:fA}
def exO:Ex->Exit
 | .normal=>.normal
 | .exit id=>.exit id
 | .ret=>.ret
theorem St.drew {nt:Nat} {env:Env} {σ:au} {a:Act} {D:Nat->Prop} {ι:Names} (h:St P hs nt D ι env σ a w):St P hs nt D ι env σ a w.drew/\Step hs D ι w D ι w.drew:=by
 have T:Step hs D ι w D ι w.drew:=Step.stay h.Kr (fun _ _=>rfl) (Nat.le_refl _) rfl rfl rfl (fun _ h=>h) (fun _ h=>.inl h) (fun _ _ h=>h)
 exact⟨⟨h.Kr.stay (fun _ _=>rfl) (Nat.le_refl _) (fun _ h=>h) h.Kr.dead (fun _ h=>.inl h) (fun _ _ h=>h),h.used,oj h.env T,h.size⟩,T⟩
def uH (P:Program) (hs nt:Nat) (ds:List Deferred) (Q:Ex->Env->au->Prop) (n0:Nat) (D:Nat->Prop) (ι:Names) (w:World) (Q':Exit->Act->World->Prop):Prop:=
 ∀ex env σ a w' D' ι',Q ex env σ->Step hs D ι w D' ι' w'->St P hs nt D' ι' env σ a w'->a.defers=ds->n0<=σ.next->Q' (exO ex) a w'
theorem uH.later {nt:Nat} {ds:List Deferred} {Q:Ex->Env->au->Prop} {n0 n1:Nat} {Q':Exit->Act->World->Prop} (h:uH P hs nt ds Q n0 D ι w Q') (T:Step hs D ι w D' ι' w') (hn:n0<=n1):uH P hs nt ds Q n1 D' ι' w' Q':=
 fun ex env σ a w2 D2 ι2 hq T2 dH hd hle=>h ex env σ a w2 D2 ι2 hq (T.trans T2) dH hd (Nat.le_trans hn hle)
theorem uT (hm:P.follows .mixedOrders=true) {md:List (Nat×Nat)} {nt uV:Nat}:∀(c:Code) (vc:VC),jy P md nt uV c=some vc->∀(Q:Ex->Env->au->Prop) (env:Env) (σ:au) (a:Act) (w:World) (D:Nat->Prop) (ι:Names) (Q':Exit->Act->World->Prop),
  eb (Sound P) vc Q env σ->St P hs nt D ι env σ a w->uH P hs nt a.defers Q σ.next D ι w Q'->CJ P c Q' a w:=by
 intro c
 induction c with
 |skip=>
  intro vc h Q env σ a w D ι Q' hv dH hQ
  simp[jy]at h;subst h
  exact sR <| wp_skip (hQ .normal env σ a w D ι hv (Step.refl _ _ _ _) dH rfl (Nat.le_refl _))
 |exit id=>
  intro vc h Q env σ a w D ι Q' hv dH hQ
  simp[jy]at h;subst h
  exact sR <| wp_exit (hQ (.exit id) env σ a w D ι hv (Step.refl _ _ _ _) dH rfl (Nat.le_refl _))
 |ret=>
  intro vc h Q env σ a w D ι Q' hv dH hQ
  simp[jy]at h;subst h
  exact sR <| wp_ret (hQ .ret env σ a w D ι hv (Step.refl _ _ _ _) dH rfl (Nat.le_refl _))
 |seq x y ihx ihy=>
  intro vc h Q env σ a w D ι Q' hv dH hQ
  simp only[jy,Option.bind_eq_bind,Option.bind_eq_some_iff,Option.pure_def,Option.some.injEq]at h
  obtain⟨vx,hx,vy,hy,rfl⟩:=h
  refine Fm (ihx vx hx _ env σ a w D ι _ hv dH fun ex js σ1 a1 w1 D1 ι1 hq T jV hd hle=>?_)
  cases ex with
  |normal=>exact ihy vy hy Q js σ1 a1 w1 D1 ι1 Q' hq jV (by rw[hd];exact hQ.later T hle)
  |exit id=>exact hQ (.exit id) js σ1 a1 w1 D1 ι1 hq T jV hd hle
  |ret=>exact hQ .ret js σ1 a1 w1 D1 ι1 hq T jV hd hle
 |cond c x y ihx ihy=>
  intro vc h Q env σ a w D ι Q' hv dH hQ
  simp only[jy,Option.bind_eq_bind,Option.bind_eq_some_iff,Option.pure_def,Option.some.injEq]at h
  obtain⟨c',hc,vx,hx,vy,hy,rfl⟩:=h
  unfold eb at hv
  have hr:=di dH.env hc
  split at hv
  ·rename_i b hb
   rw[hb]at hr
   refine Jj (e6 hr) ?_
   cases b with
   |true=>exact ihx vx hx Q env σ a w D ι Q' hv dH hQ
   |false=>exact ihy vy hy Q env σ a w D ι Q' hv dH hQ
  ·exact hv.elim
 |block id c ih=>
  intro vc h Q env σ a w D ι Q' hv dH hQ
  simp only[jy,Option.map_eq_some_iff]at h
  obtain⟨vx,hx,rfl⟩:=h
  refine GM (ih vx hx _ env σ a w D ι _ hv dH fun ex js σ1 a1 w1 D1 ι1 hq T jV hd hle=>?_)
  cases ex with
  |normal=>exact hQ .normal js σ1 a1 w1 D1 ι1 hq T jV hd hle
  |ret=>exact hQ .ret js σ1 a1 w1 D1 ι1 hq T jV hd hle
  |exit kI=>
   simp only[bj]at hq
   simp only[exO,Exit.inBlock]
   by_cases hid:kI=id
   ·rw[if_pos hid]at hq ⊢;exact hQ .normal js σ1 a1 w1 D1 ι1 hq T jV hd hle
   ·rw[if_neg hid]at hq ⊢;exact hQ (.exit kI) js σ1 a1 w1 D1 ι1 hq T jV hd hle
 |loop c ih=>
  intro vc h Q env σ a w D ι Q' hv dH hQ
  simp only[jy,Option.map_eq_some_iff]at h
  obtain⟨vx,hx,rfl⟩:=h
  obtain⟨n,hv⟩:=hv
  refine Jk n ?_
  have key:∀n env σ a w D ι,Fg (eb (Sound P) vx) Q n env σ->St P hs nt D ι env σ a w->uH P hs nt a.defers Q σ.next D ι w Q'->ur P c Q' n a w:=by
   intro n
   induction n with
   |zero=>intro env σ a w D ι h;exact h.elim
   |succ n ihn=>
    intro env σ a w D ι h dH hQ
    refine ih vx hx _ env σ a w D ι _ h dH fun ex js σ1 a1 w1 D1 ι1 hq T jV hd hle=>?_
    cases ex with
    |normal=>exact ihn js σ1 a1 w1 D1 ι1 hq jV (by rw[hd];exact hQ.later T hle)
    |exit id=>exact hQ (.exit id) js σ1 a1 w1 D1 ι1 hq T jV hd hle
    |ret=>exact hQ .ret js σ1 a1 w1 D1 ι1 hq T jV hd hle
  exact key n env σ a w D ι hv dH hQ
 |region id ops draw=>
  intro vc h Q env σ a w D ι Q' hv dH hQ
  simp only[jy,Qd]at h
  split at h
  ·rename_i hmode
   have TX:draw=true:=by
    simp only[Bool.and_eq_true]at hmode;exact hmode.1
   subst TX
   split at h
   ·rename_i vl dL
    obtain⟨rG,T0⟩:=dH.drew
    have De:=Hh (X:=Sound P) pZ ops.size _ vc env σ h (fun k i h=>by
     exfalso
     rcases Nat.lt_or_ge k ops.size with hk|hk
     ·simp[hk]at h
     ·simp[Nat.not_lt.2 hk]at h) hv
    refine sR (wp_region_any hm ?_)
    exact Eu dL ops.size _ env σ a w.drew D ι (fun _=>False) De rG.Kr rG.used (fun _ h=>h.elim) rG.env rG.size fun js σ1 a1 w1 D1 ι1 hk T jV hd hle=>hQ .normal js σ1 a1 w1 D1 ι1 hk (T0.trans T) jV hd hle
   ·cases h
  split at h
  ·rename_i hcom
   have TX:draw=false:=by
    simp only[Bool.and_eq_true,Bool.not_eq_true']at hcom;exact hcom.1
   subst TX
   simp only[Option.map_eq_some_iff]at h
   obtain⟨vl,sj,rfl⟩:=h
   have dL:allM (lU P ops nt ((uV*1000+id)*1000) false false #[] []) ops.toList 0=some vl:=by
    unfold re at sj
    simp only[Bool.false_eq_true,if_false,Bool.not_false,Bool.true_or,if_true]at sj
    split at sj
    ·rename_i s6 h;simp at sj;subst sj;exact h
    ·cases sj
   refine DV ?_
   have:=FR (Q:=Q') ops.toList vl 0 env σ a w D ι rfl dL hv dH.Kr dH.used dH.env dH.size fun js σ1 a1 w1 D1 ι1 hk T jV hd hle=>hQ .normal js σ1 a1 w1 D1 ι1 hk T jV hd hle
   rwa [<-List.range_eq_range',Array.length_toList]at this
  generalize (vO md id==1)=mk at h
  simp only[Option.map_eq_some_iff]at h
  obtain⟨vl,sj,rfl⟩:=h
  cases draw with
  |false=>
   have dL:∃s6,allM (lU P ops nt ((uV*1000+id)*1000) false mk #[] []) ops.toList 0=some s6/\vl=s6:=by
    unfold re at sj
    simp only[Bool.false_eq_true,if_false,Bool.not_false,Bool.true_or,if_true]at sj
    split at sj
    ·rename_i s6 h;simp at sj;exact⟨s6,h,sj.symm⟩
    ·cases sj
   obtain⟨s6,dL,rfl⟩:=dL
   refine sR (wp_region_list ?_)
   exact GO ops.toList vl 0 env σ a w D ι (fun _=>False) dL hv dH.Kr dH.used (fun _ h=>h.elim) dH.env dH.size fun js σ1 a1 w1 D1 ι1 hk T jV hd hle=>hQ .normal js σ1 a1 w1 D1 ι1 hk T jV hd hle
  |true=>
   have dL:∃hidden s6,allM (lU P ops nt ((uV*1000+id)*1000) true mk (jr ops) hidden) ops.toList 0=some s6/\vl=s6/\oi ops s6 (jr ops)=true:=by
    unfold re at sj
    simp only[if_true,Bool.not_true,Bool.false_or]at sj
    split at sj
    ·rename_i s6 h
     split at sj
     ·rename_i vp;simp at sj;exact⟨_,s6,h,sj.symm,vp⟩
     ·cases sj
    ·cases sj
   obtain⟨hidden,s6,dL,rfl,vp⟩:=dL
   obtain⟨rG,T0⟩:=dH.drew
   obtain⟨hlen,_⟩:=nW dL
   have kG:vl.length=ops.size:=by rw[hlen];simp
   have De:=wN (X:=Sound P) (K:=Q .normal) (n:=σ.next) vp kG vl 0 (Array.replicate ops.size false) env σ.get (by simp) (by simp) (fun i hi=>by simp[hi]) (by simp[kG]) (fun k i h=>by
    exfalso
    rcases Nat.lt_or_ge k ops.size with hk|hk
    ·simp[hk]at h
    ·simp[Nat.not_lt.2 hk]at h) hv
   refine sR (wp_region_any hm ?_)
   rw[kG]at De
   exact xu dL ops.size _ env σ.get a w.drew D ι (fun _=>False) De rG.Kr rG.used (fun _ h=>h.elim) rG.env rG.size fun js g1 a1 w1 D1 ι1 U1 hk T S1 SY E1 x7 hd=>hQ .normal js ⟨g1,σ.next+1⟩ a1 w1 D1 ι1 hk (T0.trans T) ⟨S1,SY.next,E1,x7⟩ hd (Nat.le_succ _)
 |_=>
  intro vc h
  simp[jy]at h
def JA (tmps:Array Value):ResultVar->Sem Value
 | .tmp t=>pure (tmps.getD t undef)
 | .cell a t=>do loadVar t (<-asAddr (tmps.getD a undef))
theorem D6 (fn:Func) (tmps:Array Value):results fn tmps=(do
  let vs <-fn.results.mapM (JA tmps)
  pure (if h:vs.size=1 then vs[0]else .tuple vs)):=by
 unfold results
 congr 2
theorem tF {nt:Nat} {env:Env} {σ:au} {a:Act} {D:Nat->Prop} {ι:Names} (dH:St P hs nt D ι env σ a w):∀(rs:List ResultVar) (vr:List nU) (vs:List AV),rs.mapM (CY P)=some vr->fu env σ.get vr=some vs->
  ∃us:List Value,(rs.mapM (JA a.tmps)).run P w=.ok us w/\us.length=vs.length/\∀(j:Nat) (v:AV),vs[j]? =some v->∃u,us[j]? =some u/\dd P w D ι v u
 |[],vr,vs,h,hv=>by
  simp at h;subst h
  simp[fu]at hv;subst hv
  exact⟨[],by simp,rfl,fun j v h=>by simp at h⟩
 |r::rs,vr,vs,h,hv=>by
  simp only[List.mapM_cons,Option.bind_eq_bind,Option.bind_eq_some_iff]at h
  obtain⟨x,hx,vr',hr,h⟩:=h
  simp at h;subst h
  simp only[fu,Option.bind_eq_some_iff,Option.map_eq_some_iff]at hv
  obtain⟨v,vw,UO,Lo,rfl⟩:=hv
  obtain⟨us,h1,h2,h3⟩:=tF dH rs vr' UO hr Lo
  have one:∃u,(JA a.tmps r).run P w=.ok u w/\dd P w D ι v u:=by
   cases r with
   |tmp t=>
    simp[CY]at hx;subst hx
    simp[iz]at vw;subst vw
    exact⟨_,rfl,dH.env t⟩
   |cell b t=>
    simp only[CY,Option.bind_eq_bind,Option.bind_eq_some_iff,Option.pure_def,Option.some.injEq]at hx
    obtain⟨ag,um,n,hn,rfl⟩:=hx
    simp only[iz]at vw
    have gO:=dH.env b
    unfold ld at vw
    split at vw
    ·rename_i kI i' oo hb
     rw[hb]at gO
     obtain⟨B,he,hB,hk⟩:=iO gO
     simp only[Option.bind_eq_some_iff]at vw
     obtain⟨cs,dt,hp⟩:=vw
     obtain⟨B',r0,Ht,dC,R,hi,fl,f,hf⟩:=JD (S:=dH.Kr) dt (fun B2 h2=>by rw[hB]at h2;injection h2 with h2;subst h2;exact hk)
     rw[hB]at dC;injection dC with dC;subst dC
     obtain⟨u,k1,k2⟩:=ko (w:=w) (b:=B.b) (oo:=i'*B.sz+oo) (f:=fun j=>f (oo+j)) um hn hp (fun a ha=>fl a (List.mem_of_mem_drop ha)) (fun j hj=>by
      rw[Nat.add_assoc];exact(hf _ (by simp at hj;omega)).1) (fun j a ha=>by
      simp at ha;exact(hf _ ((List.getElem?_eq_some_iff.1 ha).1)).2 _ ha)
     exact⟨u,by simp only[JA,he,asAddr,Sem.run_bind,Sem.run_pure,Result.andThen_ok,k1],k2⟩
    ·rename_i cs hb
     rw[hb]at gO
     obtain⟨b',oo,vs2,he,q1,q2,q3,q4⟩:=kT gO
     obtain⟨u,k1,k2⟩:=ko (w:=w) (b:=b') (oo:=oo) (f:=vs2) um hn vw q2 q3 (fun j a ha=>.eO _ _ (q4 j a ha))
     exact⟨u,by simp only[JA,he,asAddr,Sem.run_bind,Sem.run_pure,Result.andThen_ok,k1],k2⟩
    ·simp at vw
  obtain⟨u,hu,xg⟩:=one
  refine⟨u::us,?_,by simp[h2],fun j v' hj=>?_⟩
  ·rw[List.mapM_cons]
   simp only[Sem.run_bind,hu,h1,Result.andThen_ok,Sem.run_pure]
  ·cases j with
   |zero=>simp at hj;subst hj;exact⟨u,rfl,xg⟩
   |succ j=>simp at hj ⊢;exact h3 j v' hj
theorem uL {f:Nat} {fn:Func} {c:Code} {args:List AV} {σ:au} {K:AV->au->Prop} {vr:List nU} (PA:P.funcs[f]? =some fn) (hc:fn.body=some c) (hr:fn.results.toList.mapM (CY P)=some vr) (ha:fn.params.size+fn.nfree=args.length) (hle:fn.params.size+fn.nfree<=fn.ntmps)
  (h:∀(hs:Nat) (w:World) (D:Nat->Prop) (ι:Names) (a:Act) (Q':Exit->Act->World->Prop),St P hs fn.ntmps D ι (cu args) σ a w->uH P hs fn.ntmps a.defers (kU vr K) σ.next D ι w Q'->CJ P c Q' a w):Sound P f args σ K:=by
 intro hs D ι w vs S Us A
 have fb:vs.size=args.length:=A.1
 refine yT PA hc ?_
 refine h hs w D ι _ _ ⟨S,Us,fun t=>?_,by simp;omega⟩ fun ex js σ1 a1 w1 D1 ι1 hq T jV hd hle=>?_
 ·simp only[cu]
  by_cases dP:t<args.length
  ·obtain⟨u,hu,xg⟩:=A.2 t args[t] (List.getElem?_eq_getElem dP)
   have e1:args.getD t .undef=args[t]:=by simp[List.getD_eq_getElem?_getD,dP]
   have e2:(vs++Array.replicate (fn.ntmps-vs.size) undef).getD t undef=u:=by
    simp only[Array.getD_eq_getD_getElem?]
    rw[Array.getElem?_append_left (by omega),hu];rfl
   rw[e1,e2];exact xg
  ·have e1:args.getD t .undef=.undef:=by simp[List.getD_eq_getElem?_getD,Nat.le_of_not_lt dP]
   have e2:(vs++Array.replicate (fn.ntmps-vs.size) undef).getD t undef=undef:=by
    simp only[Array.getD_eq_getD_getElem?]
    rw[Array.getElem?_append_right (by omega),Array.getElem?_replicate]
    split<;>rfl
   rw[e1,e2];exact dd.undef
 ·have fin:(∃vs,fu js σ1.get vr=some vs/\K (fc vs) σ1)->a1.defers=[]/\∃v,(results fn a1.tmps).run P w1=.ok v w1/\∃r g' n' D' ι' u,Ending.returned v=.returned u/\K r ⟨g',n'⟩/\Step hs D ι w D' ι' w1/\gm P hs D' ι' g' w1/\Used ι' n' (fun _=>False)/\σ.next<=n'/\dd P w1 D' ι' r u:=by
   rintro⟨avs,Lo,hK⟩
   obtain⟨us,h1,h2,h3⟩:=tF jV fn.results.toList vr avs hr Lo
   have Ot:(results fn a1.tmps).run P w1=.ok (if h:us.toArray.size=1 then us.toArray[0]else .tuple us.toArray) w1:=by
    rw[D6,Array.mapM_eq_mapM_toList]
    simp only[Sem.run_bind,Sem.run_map,h1,Result.andThen_ok,Sem.run_pure]
   refine⟨hd,_,Ot,fc avs,σ1.get,σ1.next,D1,ι1,_,rfl,hK,T,jV.Kr,jV.used,hle,?_⟩
   unfold fc
   split
   ·rename_i v
    have hl:us.length=1:=h2
    obtain⟨u,hu,xg⟩:=h3 0 v rfl
    rw[dif_pos (by simpa using hl)]
    have:us.toArray[0]'(by simp[hl])=u:=by
     have:=(List.getElem?_eq_some_iff.1 hu).2
     simpa using this
    rw[this];exact xg
   ·rename_i gU
    rw[dif_neg (by
     simp only[List.size_toArray,h2]
     intro h
     obtain⟨v,hv⟩:=List.length_eq_one_iff.1 h
     exact gU v hv)]
    exact .iF _ _ (fun j=>us.getD j undef) (by simp[h2]) (fun j hj=>by
     have:j<us.length:=by rw[h2];exact hj
     simp[this]) (fun j v hj=>by
     obtain⟨u,hu,xg⟩:=h3 j v hj
     simpa[List.getD_eq_getElem?_getD,hu]using xg)
  cases ex with
  |normal=>exact fin hq
  |ret=>exact fin hq
  |exit id=>exact hq.elim
theorem Is (hm:P.follows .mixedOrders=true) {f:Nat} {md:List (Nat×Nat)} {vf:Ac} {args:List AV} {σ:au} {K:AV->au->Prop} (hf:w8 P f md=some vf) (ha:vf.yk=args.length) (h:eb (Sound P) vf.body (kU vf.res K) (cu args) σ):Sound P f args σ K:=by
 unfold w8 at hf
 split at hf
 ·rename_i fn PA
  split at hf
  ·rename_i c hc
   simp only[Option.bind_eq_bind,Option.bind_eq_some_iff]at hf
   obtain⟨vb,hb,vr,hr,hf⟩:=hf
   split at hf
   ·rename_i hle
    simp only[Option.pure_def,Option.some.injEq]at hf
    subst hf
    simp only at ha h
    exact uL PA hc hr ha hle fun hs w D ι a Q' dH hQ=>uT hm c vb hb (kU vr K) (cu args) σ a w D ι Q' h dH hQ
   ·simp at hf
  ·simp at hf
 ·simp at hf
def M5 (P:Program) (X:fA):fA:=fun f args σ K=>(∃md vf,w8 P f md=some vf/\vf.yk=args.length/\((∀a∈args,eD a)->eb X vf.body (kU vf.res K) (cu args) σ))∨Sound P f args σ K
def Call (P:Program):fA:=fun f args σ K=>∀X:fA,pN X->(∀f args σ K,M5 P X f args σ K->X f args σ K)->X f args σ K
theorem gW (hm:P.follows .mixedOrders=true) {f:Nat} {args:List AV} {σ:au} {K:AV->au->Prop} (h:Call P f args σ K):Sound P f args σ K:=
 h (Sound P) pZ fun f args σ K hs=>by
  rcases hs with⟨md,vf,h1,h2,h3⟩|h
  ·intro hs D ι w vs S U A
   exact Is hm h1 h2 (h3 (oI fun j a hj=>by obtain⟨u,_,hr⟩:=A.2 j a hj;exact hr.I6)) hs D ι w vs S U A
  ·exact h
end
end Go.Proofs.YtgoelphibofcmaaGreat.V

namespace Go.Proofs.YtgoelphibofcmaaGreat.V
open Go.RowKit
variable {P:Program} {X Y:fA}
theorem HI (h:∀f args σ K,X f args σ K->Y f args σ K) {f:Nat} {args:List AV} {σ:au} {K:AV->Prop} (hp:gj X f args σ K):gj Y f args σ K:=by
 rcases hp with hp|⟨a,h1,h2⟩
 ·exact .inl (h _ _ _ _ hp)
 ·exact .inr ⟨a,h1,h _ _ _ _ h2⟩
theorem Ku (h:∀f args σ K,X f args σ K->Y f args σ K) {f:Nat} {args:List AV} {σ:au} {sz:Nat} {rows:List (List AV)} (hp:CM X f args σ sz rows):CM Y f args σ sz rows:=by
 obtain⟨h1,a,h2,h3⟩:=hp
 exact⟨h1,a,h2,h _ _ _ _ h3⟩
theorem qc (h:∀f args σ K,X f args σ K->Y f args σ K) (hK:∀f args σ K K',(∀r σ',K r σ'->K' r σ')->Y f args σ K->Y f args σ K') {draw:Bool} {hid:List Nat} {site:Nat} {f:Nat} {args:List AV} {σ:au} {n n':AV->au->Prop} (hn:∀v σ',n v σ'->n' v σ') (hp:cF X draw hid site f args σ n):cF Y draw hid site f args σ n':=by
 rcases hp with⟨r,h1,h2⟩|⟨h1,h2⟩|⟨h1,sz,rows,h2,h3⟩
 ·exact .inl ⟨r,HI h h1,hn _ _ h2⟩
 ·exact .inr (.inl ⟨h1,hK _ _ _ _ _ hn (h _ _ _ _ h2)⟩)
 ·exact .inr (.inr ⟨h1,sz,rows,Ku h h2,hn _ _ h3⟩)
theorem sa (h:∀f args σ K,X f args σ K->Y f args σ K) (hK:∀f args σ K K',(∀r σ',K r σ'->K' r σ')->Y f args σ K->Y f args σ K') {draw:Bool} {o:bq} {env:Env} {σ:au} {n n':AV->au->Prop} (hn:∀v σ',n v σ'->n' v σ') (hp:fM X draw o env σ n):fM Y draw o env σ n':=by
 unfold fM at hp ⊢
 split at hp
 ·exact qc h hK hn hp
 ·split at hp
  ·exact qc h hK hn hp
  ·exact qc h hK hn hp
  ·exact hp.elim
 ·split at hp
  ·exact hn _ _ hp
  ·exact hp.elim
 ·split at hp
  ·exact hn _ _ hp
  ·exact hp.elim
 ·split at hp
  ·exact hn _ _ hp
  ·exact hp.elim
 ·split at hp
  ·exact hn _ _ hp
  ·exact hp.elim
 ·split at hp
  ·exact hn _ _ hp
  ·exact hp.elim
 ·split at hp
  ·exact hn _ _ hp
  ·exact hn _ _ hp
  ·exact hp.elim
theorem np (h:∀f args σ K,X f args σ K->Y f args σ K) (hK:∀f args σ K K',(∀r σ',K r σ'->K' r σ')->Y f args σ K->Y f args σ K') {draw:Bool} {Q Q':Env->au->Prop} (hQ:∀e s,Q e s->Q' e s):∀(l:List bq) (env:Env) (σ:au),wpOps X draw l Q env σ->wpOps Y draw l Q' env σ
 |[],env,σ,hp=>hQ _ _ hp
 |o::r,env,σ,hp=>by
  unfold wpOps at hp ⊢
  split at hp
  ·rename_i hw;rw[if_pos hw];exact sa h hK (fun v σ'=>np h hK hQ r _ _) hp
  ·rename_i hw;rw[if_neg hw];exact np h hK hQ r _ _ hp
theorem nk {Q Q':Env->au->Prop} (hQ:∀e s,Q e s->Q' e s):∀(l:List bq) (env:Env) (σ:au),cD l Q env σ->cD l Q' env σ
 |[],env,σ,hp=>hQ _ _ hp
 |o::r,env,σ,hp=>by
  unfold cD at hp ⊢
  refine⟨hp.1,?_⟩
  replace hp:=hp.2
  split at hp
  ·split at hp
   ·exact nk hQ r _ _ hp
   ·exact hp.elim
  ·split at hp
   ·exact nk hQ r _ _ hp
   ·exact hp.elim
  ·split at hp
   ·exact nk hQ r _ _ hp
   ·exact hp.elim
theorem k6 (h:∀f args σ K,X f args σ K->Y f args σ K) (hK:∀f args σ K K',(∀r σ',K r σ'->K' r σ')->Y f args σ K->Y f args σ K'):∀(c:VC) (Q Q':Ex->Env->au->Prop) (env:Env) (σ:au),(∀x e s,Q x e s->Q' x e s)->eb X c Q env σ->eb Y c Q' env σ:=by
 intro c
 induction c with
 |skip=>intro Q Q' env σ hQ hp;exact hQ _ _ _ hp
 |exit id=>intro Q Q' env σ hQ hp;exact hQ _ _ _ hp
 |ret=>intro Q Q' env σ hQ hp;exact hQ _ _ _ hp
 |one o c ih=>
  intro Q Q' env σ hQ hp
  unfold eb at hp ⊢
  split at hp
  ·rename_i hw;rw[if_pos hw];exact sa h hK (fun v σ'=>ih Q Q' _ _ hQ) hp
  ·rename_i hw;rw[if_neg hw];exact ih Q Q' _ _ hQ hp
 |both a b iha ihb=>intro Q Q' env σ hQ hp;exact⟨iha Q Q' env σ hQ hp.1,ihb Q Q' env σ hQ hp.2⟩
 |loc t s y c ih=>intro Q Q' env σ hQ hp;exact⟨hp.1,ih Q Q' env σ hQ hp.2⟩
 |Ny ops=>intro Q Q' env σ hQ hp;exact nk (hQ .normal) ops env σ hp
 |eQ draw ops=>intro Q Q' env σ hQ hp;exact np h hK (hQ .normal) ops env σ hp
 |seq a b iha ihb=>
  intro Q Q' env σ hQ hp
  refine iha _ _ env σ (fun x e s hx=>?_) hp
  cases x with
  |normal=>exact ihb Q Q' e s hQ hx
  |exit id=>exact hQ _ _ _ hx
  |ret=>exact hQ _ _ _ hx
 |cond c a b iha ihb=>
  intro Q Q' env σ hQ hp
  unfold eb at hp ⊢
  split at hp
  ·rename_i t ht
   cases t with
   |true=>exact iha Q Q' env σ hQ hp
   |false=>exact ihb Q Q' env σ hQ hp
  ·exact hp.elim
 |block id a iha=>
  intro Q Q' env σ hQ hp
  refine iha _ _ env σ (fun x e s hx=>?_) hp
  cases x with
  |normal=>exact hQ _ _ _ hx
  |ret=>exact hQ _ _ _ hx
  |exit kI=>
   unfold bj at hx ⊢
   dsimp only at hx ⊢
   split at hx
   ·rename_i hid;rw[if_pos hid];exact hQ _ _ _ hx
   ·rename_i hid;rw[if_neg hid];exact hQ _ _ _ hx
 |loop a iha=>
  intro Q Q' env σ hQ hp
  obtain⟨n,hp⟩:=hp
  refine⟨n,?_⟩
  induction n generalizing env σ with
  |zero=>exact hp
  |succ n ihn=>
   refine iha _ _ env σ (fun x e s hx=>?_) hp
   cases x with
   |normal=>exact ihn e s hx
   |exit id=>exact hQ _ _ _ hx
   |ret=>exact hQ _ _ _ hx
theorem aL:pN (Call P):=fun _ _ _ _ _ hK h X hX hc=>hX _ _ _ _ _ hK (h X hX hc)
theorem xr {f:Nat} {args:List AV} {σ:au} {K:AV->au->Prop} (h:M5 P (Call P) f args σ K):Call P f args σ K:=by
 intro X hX hc
 refine hc _ _ _ _ ?_
 rcases h with⟨md,vf,h1,h2,h3⟩|h
 ·exact .inl ⟨md,vf,h1,h2,fun hl=>k6 (fun f args σ K h=>h X hX hc) hX _ _ _ _ _ (fun _ _ _ h=>h) (h3 hl)⟩
 ·exact .inr h
theorem uB {f:Nat} {md:List (Nat×Nat)} {args:List AV} {σ:au} {K:AV->au->Prop} {vf:Ac} (hf:w8 P f md=some vf) (ha:vf.yk=args.length) (h:(∀a∈args,eD a)->eb (Call P) vf.body (kU vf.res K) (cu args) σ):Call P f args σ K:=
 xr (.inl ⟨md,vf,hf,ha,h⟩)
theorem lP {f:Nat} {args:List AV} {σ:au} {K:AV->au->Prop} {vf:Ac} (hf:mi P f=some vf) (ha:vf.yk=args.length) (h:(∀a∈args,eD a)->eb (Call P) vf.body (kU vf.res K) (cu args) σ):Call P f args σ K:=
 uB hf ha h
theorem fE {f:Nat} {args:List AV} {σ:au} {K:AV->au->Prop} (h:Sound P f args σ K):Call P f args σ K:=xr (.inr h)
def j9 (P:Program) (f:Nat) (args:List AV) (r:AV):Prop:=∀σ,PC (Call P) f args σ (fun r'=>r'=r)
theorem j9.body {f:Nat} {args:List AV} {r:AV} {nt na:Nat} {body:VC} {res:List nU} (hf:mi P f=some ⟨nt,na,body,res⟩) (ha:na=args.length) (h:(∀a∈args,eD a)->∀σ:au,eb (Call P) body (kU res fun r0 σ'=>∃r',fz σ'.get 6 r0=some r'/\r'=r) (cu args) ⟨V.ro σ.get,σ.next⟩):j9 P f args r:=fun σ=>lP hf ha fun hl=>h hl σ
variable {Q:Ex->Env->au->Prop} {K:Env->au->Prop} {env:Env} {σ:au}
theorem Cs {a b:VC} (h:∀N:Env->au->Prop,(∀e s,eb X b Q e s->N e s)->eb X a (dx N Q) env σ):eb X (.seq a b) Q env σ:=h _ fun _ _ h=>h
theorem Aa (h:Q .normal env σ):eb X .skip Q env σ:=h
theorem z7 {id:Nat} (h:Q (.exit id) env σ):eb X (.exit id) Q env σ:=h
theorem FB (h:Q .ret env σ):eb X .ret Q env σ:=h
theorem uw {id:Nat} {c:VC} (h:eb X c (bj id Q) env σ):eb X (.block id c) Q env σ:=h
theorem Fz {o:bq} {c:VC} (h:∀N:AV->au->Prop,(∀v s,eb X c Q (upd env o.dst v) s->N v s)->if aJ o.guard env then fM X false o env σ N else N .undef σ):eb X (.one o c) Q env σ:=by
 have:=h (fun v s=>eb X c Q (upd env o.dst v) s) fun _ _ h=>h
 unfold eb
 split
 ·rename_i hw;rw[if_pos hw]at this;exact this
 ·rename_i hw;rw[if_neg hw]at this;exact this
def eu (s n:Nat):AV->Prop
 | .own id 0 _=>id=⟨s,n⟩
 |_=>False
def eB (n:Nat):AV->Prop
 | .own id _ _=>¬id.bm=n
 |_=>True
theorem z8 {t s:Nat} {y:O} {c:VC} (h1:eu s σ.next (env t)) (h2:eB σ.next (cL env y)) (h:eb X c Q env σ):eb X (.loc t s y c) Q env σ:=by
 refine⟨⟨?_,fun id o l he=>?_⟩,h⟩
 ·revert h1
  unfold eu
  split
  ·rename_i id l he;rintro rfl;exact⟨l,he⟩
  ·exact fun h=>h.elim
 ·rw[he]at h2;exact h2
theorem e7 {a b:VC} (ha:eb X a Q env σ) (hb:eb X b Q env σ):eb X (.both a b) Q env σ:=⟨ha,hb⟩
theorem FA {draw:Bool} {ops:List bq} (h:∀N:Env->au->Prop,(∀e s,Q .normal e s->N e s)->wpOps X draw ops N env σ):eb X (.eQ draw ops) Q env σ:=h _ fun _ _ h=>h
theorem J4 {ops:List bq} (h:cD ops (Q .normal) env σ):eb X (.Ny ops) Q env σ:=h
theorem Fy {draw:Bool} (h:K env ⟨σ.get,σ.next+1⟩):wpOps X draw [] K env σ:=h
theorem O5 {draw:Bool} {o:bq} {r:List bq} (h:∀N:AV->au->Prop,(∀v s,wpOps X draw r K (upd env o.dst v) s->N v s)->if aJ o.guard env then fM X draw o env σ N else N .undef σ):wpOps X draw (o::r) K env σ:=by
 have:=h (fun v s=>wpOps X draw r K (upd env o.dst v) s) fun _ _ h=>h
 unfold wpOps
 split
 ·rename_i hw;rw[if_pos hw]at this;exact this
 ·rename_i hw;rw[if_neg hw]at this;exact this
theorem J5 {c:O} {x y:VC} {b:Bool} (hc:cL env c=.bool b) (ht:b=true->eb X x Q env σ) (hf:b=false->eb X y Q env σ):eb X (.cond c x y) Q env σ:=by
 unfold eb
 simp only[hc]
 cases b with
 |true=>exact ht rfl
 |false=>exact hf rfl
inductive nO:AV->Prop->Prop->Prop
 |t {A B:Prop}:A->nO (.bool true) A B
 |f {A B:Prop}:B->nO (.bool false) A B
theorem uy {c:O} {x y:VC} {v:AV} (hv:cL env c=v) (h:nO v (eb X x Q env σ) (eb X y Q env σ)):eb X (.cond c x y) Q env σ:=by
 cases h with
 |t h=>exact J5 hv (fun _=>h) (fun e=>by cases e)
 |f h=>exact J5 hv (fun e=>by cases e) (fun _=>h)
theorem O4 {c:VC} (I:Nat->Env->au->Prop) (n:Nat) (h0:I n env σ) (step:∀n env σ,I n env σ->eb X c (fun x e s=>match x with| .normal=>∃m,m<n/\I m e s|x=>Q x e s) env σ)
  (hX:∀(c:VC) (Q Q':Ex->Env->au->Prop) env σ,(∀x e s,Q x e s->Q' x e s)->eb X c Q env σ->eb X c Q' env σ):eb X (.loop c) Q env σ:=by
 have key:∀N n env σ,n<N->I n env σ->Fg (eb X c) Q N env σ:=by
  intro N
  induction N with
  |zero=>intro n env σ h;exact absurd h (Nat.not_lt_zero _)
  |succ N ih=>
   intro n env σ hn hI
   refine hX c _ _ env σ (fun x e s hx=>?_) (step n env σ hI)
   cases x with
   |normal=>obtain⟨m,hm,hI'⟩:=hx;exact ih m e s (by omega) hI'
   |exit id=>exact hx
   |ret=>exact hx
 exact⟨n+1,key _ n env σ (Nat.lt_succ_self _) h0⟩
theorem Mh {c:VC} (I:Nat->Env->au->Prop) (n:Nat) (h0:I n env σ) (step:∀n env σ,I n env σ->eb (Call P) c (fun x e s=>match x with| .normal=>∃m,m<n/\I m e s|x=>Q x e s) env σ):eb (Call P) (.loop c) Q env σ:=
 O4 I n h0 step fun c Q Q' env σ hQ h=>k6 (fun _ _ _ _ h=>h) aL c Q Q' env σ hQ h
def EF:VC->List Nat
 | .eQ _ ops=>ops.filterMap (·.dst)
 | .seq a b=>EF a++EF b
 | .cond _ a b=>EF a++EF b
 | .block _ a=>EF a
 | .loop a=>EF a
 | .one o c=>o.dst.toList++EF c
 | .both a b=>EF a++EF b
 | .loc _ _ _ c=>EF c
 | .Ny ops=>ops.filterMap (·.dst)
 |_=>[]
def iH (l:List Nat) (env iC:Env):Prop:=∀t,l.contains t=false->iC t=env t
theorem iH.refl (l:List Nat) (env:Env):iH l env env:=fun _ _=>rfl
theorem iH.trans {l:List Nat} {e e' e'':Env} (h:iH l e e') (k:iH l e' e''):iH l e e'':=fun t ht=>(k t ht).trans (h t ht)
theorem iH.sub {l l':List Nat} {e e':Env} (h:iH l e e') (hs:∀t,t∈l->t∈l'):iH l' e e':=fun t ht=>h t (by
 rw[<-Bool.not_eq_true]at ht ⊢
 simp only[List.contains_iff_mem]at ht ⊢
 exact fun hc=>ht (hs t hc))
theorem iH.upd {l:List Nat} {e e':Env} {d:Option Nat} {v:AV} (h:iH l e e') (hd:∀t,d=some t->t∈l):iH l e (upd e' d v):=fun t ht=>by
 cases d with
 |none=>exact h t ht
 |some d=>
  have:t≠d:=fun hc=>by subst hc;rw[<-Bool.not_eq_true,List.contains_iff_mem]at ht;exact ht (hd _ rfl)
  show(if t=d then v else e' t)=e t
  rw[if_neg this];exact h t ht
theorem oV {draw:Bool} {Q:Env->au->Prop} {l:List Nat} {e0:Env}:∀(ops:List bq) (env:Env) (σ:au),(∀t,t∈ops.filterMap (·.dst)->t∈l)->iH l e0 env->wpOps (Call P) draw ops Q env σ->wpOps (Call P) draw ops (fun e s=>Q e s/\iH l e0 e) env σ
 |[],env,σ,_,hk,hp=>⟨hp,hk⟩
 |o::r,env,σ,hl,hk,hp=>by
  have hd:∀t,o.dst=some t->t∈l:=fun t ht=>hl t (List.mem_filterMap.2 ⟨o,by simp,ht⟩)
  have hr:∀t,t∈r.filterMap (·.dst)->t∈l:=fun t ht=>hl t (by
   obtain⟨x,hx,h⟩:=List.mem_filterMap.1 ht
   exact List.mem_filterMap.2 ⟨x,List.mem_cons_of_mem _ hx,h⟩)
  unfold wpOps at hp ⊢
  split at hp
  ·rename_i hw;rw[if_pos hw]
   exact sa (fun _ _ _ _ h=>h) aL (fun v σ' h=>oV r _ _ hr (hk.upd hd) h) hp
  ·rename_i hw;rw[if_neg hw];exact oV r _ _ hr (hk.upd hd) hp
theorem lD {Q:Env->au->Prop} {l:List Nat} {e0:Env}:∀(ops:List bq) (env:Env) (σ:au),(∀t,t∈ops.filterMap (·.dst)->t∈l)->iH l e0 env->cD ops Q env σ->cD ops (fun e s=>Q e s/\iH l e0 e) env σ
 |[],env,σ,_,hk,hp=>⟨hp,hk⟩
 |o::r,env,σ,hl,hk,hp=>by
  have hd:∀t,o.dst=some t->t∈l:=fun t ht=>hl t (List.mem_filterMap.2 ⟨o,by simp,ht⟩)
  have hr:∀t,t∈r.filterMap (·.dst)->t∈l:=fun t ht=>hl t (by
   obtain⟨x,hx,h⟩:=List.mem_filterMap.1 ht
   exact List.mem_filterMap.2 ⟨x,List.mem_cons_of_mem _ hx,h⟩)
  unfold cD at hp ⊢
  refine⟨hp.1,?_⟩
  replace hp:=hp.2
  split at hp
  ·split at hp
   ·exact lD r _ _ hr (hk.upd hd) hp
   ·exact hp.elim
  ·split at hp
   ·exact lD r _ _ hr (hk.upd hd) hp
   ·exact hp.elim
  ·split at hp
   ·exact lD r _ _ hr (hk.upd hd) hp
   ·exact hp.elim
theorem Ho {l:List Nat} {e0:Env}:∀(c:VC) (Q:Ex->Env->au->Prop) (env:Env) (σ:au),(∀t,t∈EF c->t∈l)->iH l e0 env->eb (Call P) c Q env σ->eb (Call P) c (fun x e s=>Q x e s/\iH l e0 e) env σ:=by
 intro c
 induction c with
 |skip=>intro Q env σ _ hk hp;exact⟨hp,hk⟩
 |exit id=>intro Q env σ _ hk hp;exact⟨hp,hk⟩
 |ret=>intro Q env σ _ hk hp;exact⟨hp,hk⟩
 |one o c ih=>
  intro Q env σ hl hk hp
  have hd:∀t,o.dst=some t->t∈l:=fun t ht=>hl t (List.mem_append_left _ (by rw[ht];simp))
  have hr:∀t,t∈EF c->t∈l:=fun t ht=>hl t (List.mem_append_right _ ht)
  unfold eb at hp ⊢
  split at hp
  ·rename_i hw;rw[if_pos hw]
   exact sa (fun _ _ _ _ h=>h) aL (fun v σ' h=>ih Q _ _ hr (hk.upd hd) h) hp
  ·rename_i hw;rw[if_neg hw];exact ih Q _ _ hr (hk.upd hd) hp
 |both a b iha ihb=>
  intro Q env σ hl hk hp
  exact⟨iha Q env σ (fun t ht=>hl t (List.mem_append_left _ ht)) hk hp.1,ihb Q env σ (fun t ht=>hl t (List.mem_append_right _ ht)) hk hp.2⟩
 |loc t s y c ih=>intro Q env σ hl hk hp;exact⟨hp.1,ih Q env σ hl hk hp.2⟩
 |Ny ops=>intro Q env σ hl hk hp;exact lD ops env σ hl hk hp
 |eQ draw ops=>intro Q env σ hl hk hp;exact oV ops env σ hl hk hp
 |seq a b iha ihb=>
  intro Q env σ hl hk hp
  refine k6 (fun _ _ _ _ h=>h) aL a _ _ env σ (fun x e s hx=>?_) (iha _ env σ (fun t ht=>hl t (List.mem_append_left _ ht)) hk hp)
  cases x with
  |normal=>exact ihb Q e s (fun t ht=>hl t (List.mem_append_right _ ht)) hx.2 hx.1
  |exit id=>exact hx
  |ret=>exact hx
 |cond c a b iha ihb=>
  intro Q env σ hl hk hp
  unfold eb at hp ⊢
  split at hp
  ·rename_i t ht
   cases t with
   |true=>exact iha Q env σ (fun t ht=>hl t (List.mem_append_left _ ht)) hk hp
   |false=>exact ihb Q env σ (fun t ht=>hl t (List.mem_append_right _ ht)) hk hp
  ·exact hp.elim
 |block id a iha=>
  intro Q env σ hl hk hp
  refine k6 (fun _ _ _ _ h=>h) aL a _ _ env σ (fun x e s hx=>?_) (iha _ env σ hl hk hp)
  obtain⟨hx,IH⟩:=hx
  cases x with
  |normal=>exact⟨hx,IH⟩
  |ret=>exact⟨hx,IH⟩
  |exit kI=>
   unfold bj at hx ⊢
   dsimp only at hx ⊢
   split at hx
   ·rename_i hid;rw[if_pos hid];exact⟨hx,IH⟩
   ·rename_i hid;rw[if_neg hid];exact⟨hx,IH⟩
 |loop a iha=>
  intro Q env σ hl hk hp
  obtain⟨n,hp⟩:=hp
  refine⟨n,?_⟩
  induction n generalizing env σ with
  |zero=>exact hp
  |succ n ihn=>
   refine k6 (fun _ _ _ _ h=>h) aL _ _ _ _ _ (fun x e s hx=>?_) (iha _ env σ hl hk hp)
   obtain⟨hx,IH⟩:=hx
   cases x with
   |normal=>exact ihn e s IH hx
   |exit id=>exact⟨hx,IH⟩
   |ret=>exact⟨hx,IH⟩
theorem aO {c:VC} (I:Nat->Env->au->Prop) (n:Nat) (h0:I n env σ) (step:∀n e s,I n e s->iH (EF c) env e->eb (Call P) c (fun x e s=>match x with| .normal=>∃m,m<n/\I m e s|x=>Q x e s) e s):eb (Call P) (.loop c) Q env σ:=by
 refine Mh (fun n e s=>I n e s/\iH (EF c) env e) n ⟨h0,iH.refl _ _⟩ fun n e s hI=>?_
 refine k6 (fun _ _ _ _ h=>h) aL _ _ _ _ _ (fun x e' s' hx=>?_) (Ho c _ e s (fun _ h=>h) hI.2 (step n e s hI.1 hI.2))
 obtain⟨hx,hk⟩:=hx
 cases x with
 |normal=>obtain⟨m,hm,h⟩:=hx;exact⟨m,hm,h,hk⟩
 |exit id=>exact hx
 |ret=>exact hx
theorem J7 {k:Nat} (h:k<=9223372036854775807):IntKind.i64.wrap (k:Int)=k:=by rw[IntKind.wrap_i64];omega
theorem bh {z:Int} (h: -9223372036854775808<=z/\z<=9223372036854775807):IntKind.i64.wrap z=z:=by rw[IntKind.wrap_i64];omega
theorem az {k:Nat} (h:(k:Int)+1<=9223372036854775807):IntKind.i64.wrap ((k:Int)+1)=((k+1:Nat):Int):=by rw[IntKind.wrap_i64];omega
theorem all_succ {k:Nat} {p:Nat->Prop} (h:∀j,j<k->p j) (hk:p k):∀j,j<k+1->p j:=fun j hj=>by
 by_cases xU:j=k
 ·subst xU;exact hk
 ·exact h j (by omega)
theorem aH (g:Rows) (n:Nat) (k:IntKind) (m:Int):fz g (n+1) (.int k m)=some (.int k m):=by rw[fz]<;>intros<;>simp_all
theorem bd (g:Rows) (n:Nat) (b:Bool):fz g (n+1) (.bool b)=some (.bool b):=by rw[fz]<;>intros<;>simp_all
theorem bz (g:Rows) (n:Nat) (b:ByteArray):fz g (n+1) (.str b)=some (.str b):=by rw[fz]<;>intros<;>simp_all
theorem ck (g:Rows) (n:Nat) (l:List (List AV)):fz g (n+1) (.sl l)=some (.sl l):=by rw[fz]<;>intros<;>simp_all
theorem aU (g:Rows) (n:Nat):fz g (n+1) .cr=some .cr:=by rw[fz]<;>intros<;>simp_all
theorem Rx {t:Nat} {r r0:AV} {x:Ex} (hx:x=.ret∨x=.normal) (he:env t=r0) (hz:fz σ.get 6 r0=some r):kU [.tmp t] (fun r0 σ'=>∃r',fz σ'.get 6 r0=some r'/\r'=r) x env σ:=by
 have:∃vs,fu env σ.get [.tmp t]=some vs/\∃r',fz σ.get 6 (fc vs)=some r'/\r'=r:=⟨[env t],rfl,r,by subst he;exact hz,rfl⟩
 rcases hx with rfl|rfl
 ·exact this
 ·exact this
def ar (P:Program) (f:Nat) (args:List AV) (r:AV):Prop:=∀n:Nat,Call P f args ⟨fun _=>none,n⟩ fun r0 σ'=>∃r',gi σ'.get 6 r0=some r'/\r'=r
theorem ar.body {f:Nat} {args:List AV} {r:AV} {nt na:Nat} {body:VC} {res:List nU} (hf:mi P f=some ⟨nt,na,body,res⟩) (ha:na=args.length) (h:(∀a∈args,eD a)->∀n:Nat,eb (Call P) body (kU res fun r0 σ'=>∃r',gi σ'.get 6 r0=some r'/\r'=r) (cu args) ⟨fun _=>none,n⟩):ar P f args r:=fun n=>lP hf ha fun hl=>h hl n
theorem ar.x {f:Nat} {args eC:List AV} {r:AV} (h:ar P f eC r) {σ:au} (hv:cK (dM σ.get) 6 args=some eC):gj (Call P) f args σ (fun r'=>r'=r):=.inr ⟨eC,hv,h _⟩
theorem j9.x {f:Nat} {args:List AV} {r:AV} (h:j9 P f args r) (σ:au):gj (Call P) f args σ (fun r'=>r'=r):=.inl (h σ)
theorem eH (g:Rows) (n:Nat) (k:IntKind) (m:Int):gi g (n+1) (.int k m)=some (.int k m):=by rw[gi]<;>intros<;>simp_all
theorem fH (g:Rows) (n:Nat) (b:Bool):gi g (n+1) (.bool b)=some (.bool b):=by rw[gi]<;>intros<;>simp_all
theorem KR (g:Rows) (n:Nat) (b:ByteArray):gi g (n+1) (.str b)=some (.str b):=by rw[gi]<;>intros<;>simp_all
theorem kE (g:Rows) (n:Nat):gi g (n+1) .cr=some .cr:=by rw[gi]<;>intros<;>simp_all
theorem e8 (g:Rows) (n:Nat) (l:List AV):gi g (n+1) (.iF l)=(dZ g n l).map AV.iF:=by rw[gi]
theorem KQ (g:Rows) (n:Nat) (l:List AV):gi g (n+1) (.agg l)=(dZ g n l).map AV.agg:=by rw[gi]
theorem ui {g:Rows} {n:Nat} {id:Id} {off len sz:Nat} {rows rows':List (List AV)} (h:g id=some ⟨true,sz,rows⟩) (hl:off+len<=rows.length) (hr:gQ g n ((rows.drop off).take len)=some rows'):gi g (n+1) (.own id off len)=some (.sl rows'):=by
 rw[gi];simp only[h,if_true,if_pos hl,hr,Option.map_some]
theorem cw (g:Rows) (n:Nat):dZ g n []=some []:=by rw[dZ]
theorem bE (g:Rows) (n:Nat) (a:AV) (l:List AV):dZ g n (a::l)=match gi g n a with
  |some b=>(dZ g n l).map (b::·)
  |none=>none:=by rw[dZ];cases gi g n a<;>rfl
theorem th {g:Rows} {n:Nat}:∀{l:List (List AV)},(∀c∈l,dZ g n c=some c)->gQ g n l=some l
 |[],_=>by rw[gQ]
 |c::r,h=>by rw[gQ,h c (by simp),th fun d hd=>h d (List.mem_cons_of_mem _ hd)];rfl
theorem bf (g:Rows) (n:Nat) (l:List AV):fz g (n+1) (.agg l)=(cK g n l).map AV.agg:=by rw[fz]
theorem aT (g:Rows) (n:Nat) (l:List AV):fz g (n+1) (.dj l)=some (.dj l):=by rw[fz]<;>intros<;>simp_all
theorem y6 {g:Rows} {n:Nat} {id:Id} {i off sz:Nat} {rows:List (List AV)} {cs pQ:List AV} (h:g id=some ⟨true,sz,rows⟩) (hi:rows[i]? =some cs) (hr:cK g n (cs.drop off)=some pQ):fz g (n+1) (.ptr id i off)=some (.dj pQ):=by
 rw[fz];simp only[h,if_true,hi,hr,Option.map_some]
theorem aq (g:Rows) (n:Nat):cK g n []=some []:=by rw[cK]
theorem aj (g:Rows) (n:Nat) (a:AV) (l:List AV):cK g n (a::l)=match fz g n a with
  |some b=>(cK g n l).map (b::·)
  |none=>none:=by rw[cK];cases fz g n a<;>rfl
theorem wm {t:Nat} {r r0:AV} {x:Ex} (hx:x=.ret∨x=.normal) (he:env t=r0) (hz:gi σ.get 6 r0=some r):kU [.tmp t] (fun r0 σ'=>∃r',gi σ'.get 6 r0=some r'/\r'=r) x env σ:=by
 have:∃vs,fu env σ.get [.tmp t]=some vs/\∃r',gi σ.get 6 (fc vs)=some r'/\r'=r:=⟨[env t],rfl,r,by subst he;exact hz,rfl⟩
 rcases hx with rfl|rfl
 ·exact this
 ·exact this
theorem aQ {t:Nat} {b c:Bool} {x:Ex} (hx:x=.ret∨x=.normal) (he:env t=.bool b) (hb:b=c):kU [.tmp t] (fun r0 σ'=>∃r',gi σ'.get 6 r0=some r'/\r'=.bool c) x env σ:=wm hx he (by rw[fH,hb])
theorem cC {t:Nat} {k:IntKind} {b c:Int} {x:Ex} (hx:x=.ret∨x=.normal) (he:env t=.int k b) (hb:b=c):kU [.tmp t] (fun r0 σ'=>∃r',gi σ'.get 6 r0=some r'/\r'=.int k c) x env σ:=wm hx he (by rw[eH,hb])
theorem jn {t u:Nat} {r r1 r2:AV} {x:Ex} (hx:x=.ret∨x=.normal) (h1:env t=r1) (h2:env u=r2) (hz:gi σ.get 6 (.iF [r1,r2])=some r):kU [.tmp t,.tmp u] (fun r0 σ'=>∃r',gi σ'.get 6 r0=some r'/\r'=r) x env σ:=by
 have:∃vs,fu env σ.get [.tmp t,.tmp u]=some vs/\∃r',gi σ.get 6 (fc vs)=some r'/\r'=r:=⟨[env t,env u],rfl,r,by subst h1;subst h2;exact hz,rfl⟩
 rcases hx with rfl|rfl
 ·exact this
 ·exact this
structure Pn (p:Prop):Prop where
 out:p
theorem tw {A B:Prop} (a:A) (b:B):A/\B:=⟨a,b⟩
theorem wk {A R G:Prop} (a:A) (r:R) (h:A->R->G:=by
  intro fL kk
  (repeat(refine Pn.mk ?_;intro N hN))
  (first|((first|apply Cs|apply FA);intro N hN)|((first|(apply O5;intro N hN)|(apply Fz;intro N hN));simp only[go_sem, ↓reduceIte,Nat.reduceEqDiff,Nat.reduceAdd,Nat.reduceSub,Nat.reduceMul,Nat.reduceLeDiff,Nat.reduceBEq,reduceCtorEq,Nat.reduceLT,Int.reduceLE,Int.reduceLT,Int.reduceToNat,Int.reduceNeg,Int.reduceAdd,Int.reduceEq,fL];first|(refine hN _ _ ?_;clear hN N)|skip)|(apply uy;(simp only[go_sem, ↓reduceIte,Nat.reduceEqDiff,Nat.reduceAdd,Nat.reduceSub,Nat.reduceMul,Nat.reduceLeDiff,Nat.reduceBEq,reduceCtorEq,Nat.reduceLT,Int.reduceLE,Int.reduceLT,Int.reduceToNat,Int.reduceNeg,Int.reduceAdd,Int.reduceEq,fL];rfl);first|with_reducible apply nO.t|with_reducible apply nO.f)|(apply Fy;refine hN _ _ ?_;clear hN N;try(simp only[dx,bj, ↓reduceIte,Nat.reduceEqDiff]);try(refine hN _ _ ?_;clear hN N))|apply uw|(refine z8 ?_ ?_ ?_;(focus(simp only[go_sem, ↓reduceIte,Nat.reduceEqDiff,Nat.reduceAdd,Nat.reduceSub,Nat.reduceMul,Nat.reduceLeDiff,Nat.reduceBEq,reduceCtorEq,Nat.reduceLT,Int.reduceLE,Int.reduceLT,Int.reduceToNat,Int.reduceNeg,Int.reduceAdd,Int.reduceEq,fL];done));(focus(simp only[go_sem, ↓reduceIte,Nat.reduceEqDiff,Nat.reduceAdd,Nat.reduceSub,Nat.reduceMul,Nat.reduceLeDiff,Nat.reduceBEq,reduceCtorEq,Nat.reduceLT,Int.reduceLE,Int.reduceLT,Int.reduceToNat,Int.reduceNeg,Int.reduceAdd,Int.reduceEq,fL];done)))|((first|apply Aa|apply z7|apply FB);try(simp only[dx,bj, ↓reduceIte,Nat.reduceEqDiff]);try(refine hN _ _ ?_;clear hN N))|((first|refine hN _ _ ?_|(clear hN N;first|refine hN _ _ ?_|(clear hN N;first|refine hN _ _ ?_|(clear hN N;first|refine hN _ _ ?_|(clear hN N;refine hN _ _ ?_)))));clear hN N))
  (repeat(first|((first|apply Cs|apply FA);intro N hN)|((first|(apply O5;intro N hN)|(apply Fz;intro N hN));simp only[go_sem, ↓reduceIte,Nat.reduceEqDiff,Nat.reduceAdd,Nat.reduceSub,Nat.reduceMul,Nat.reduceLeDiff,Nat.reduceBEq,reduceCtorEq,Nat.reduceLT,Int.reduceLE,Int.reduceLT,Int.reduceToNat,Int.reduceNeg,Int.reduceAdd,Int.reduceEq,fL];first|(refine hN _ _ ?_;clear hN N)|skip)|(apply uy;(simp only[go_sem, ↓reduceIte,Nat.reduceEqDiff,Nat.reduceAdd,Nat.reduceSub,Nat.reduceMul,Nat.reduceLeDiff,Nat.reduceBEq,reduceCtorEq,Nat.reduceLT,Int.reduceLE,Int.reduceLT,Int.reduceToNat,Int.reduceNeg,Int.reduceAdd,Int.reduceEq,fL];rfl);first|with_reducible apply nO.t|with_reducible apply nO.f)|(apply Fy;refine hN _ _ ?_;clear hN N;try(simp only[dx,bj, ↓reduceIte,Nat.reduceEqDiff]);try(refine hN _ _ ?_;clear hN N))|apply uw|(refine z8 ?_ ?_ ?_;(focus(simp only[go_sem, ↓reduceIte,Nat.reduceEqDiff,Nat.reduceAdd,Nat.reduceSub,Nat.reduceMul,Nat.reduceLeDiff,Nat.reduceBEq,reduceCtorEq,Nat.reduceLT,Int.reduceLE,Int.reduceLT,Int.reduceToNat,Int.reduceNeg,Int.reduceAdd,Int.reduceEq,fL];done));(focus(simp only[go_sem, ↓reduceIte,Nat.reduceEqDiff,Nat.reduceAdd,Nat.reduceSub,Nat.reduceMul,Nat.reduceLeDiff,Nat.reduceBEq,reduceCtorEq,Nat.reduceLT,Int.reduceLE,Int.reduceLT,Int.reduceToNat,Int.reduceNeg,Int.reduceAdd,Int.reduceEq,fL];done)))|((first|apply Aa|apply z7|apply FB);try(simp only[dx,bj, ↓reduceIte,Nat.reduceEqDiff]);try(refine hN _ _ ?_;clear hN N))|((first|refine hN _ _ ?_|(clear hN N;first|refine hN _ _ ?_|(clear hN N;first|refine hN _ _ ?_|(clear hN N;first|refine hN _ _ ?_|(clear hN N;refine hN _ _ ?_)))));clear hN N)))
  (repeat(revert hN;revert N;apply Pn.out))
  exact kk):G:=h a r
theorem wa {A R G:Prop} (a:A) (r:R) (h:A->R->G:=by
  intro fL kk
  (repeat(refine Pn.mk ?_;intro N hN))
  (first|((first|apply Cs|apply FA);intro N hN)|((first|(refine M7 rfl fun N hN=>?_)|(apply Fz;intro N hN));simp only[go_sem, ↓reduceIte,Nat.reduceEqDiff,Nat.reduceAdd,Nat.reduceSub,Nat.reduceMul,Nat.reduceLeDiff,Nat.reduceBEq,reduceCtorEq,Nat.reduceLT,Int.reduceLE,Int.reduceLT,Int.reduceToNat,Int.reduceNeg,Int.reduceAdd,Int.reduceEq,fL];first|(refine hN _ _ ?_;clear hN N)|skip)|(apply uy;(simp only[go_sem, ↓reduceIte,Nat.reduceEqDiff,Nat.reduceAdd,Nat.reduceSub,Nat.reduceMul,Nat.reduceLeDiff,Nat.reduceBEq,reduceCtorEq,Nat.reduceLT,Int.reduceLE,Int.reduceLT,Int.reduceToNat,Int.reduceNeg,Int.reduceAdd,Int.reduceEq,fL];rfl);first|with_reducible apply nO.t|with_reducible apply nO.f)|(apply Fy;refine hN _ _ ?_;clear hN N;try(simp only[dx,bj, ↓reduceIte,Nat.reduceEqDiff]);try(refine hN _ _ ?_;clear hN N))|apply uw|(refine z8 ?_ ?_ ?_;(focus(simp only[go_sem, ↓reduceIte,Nat.reduceEqDiff,Nat.reduceAdd,Nat.reduceSub,Nat.reduceMul,Nat.reduceLeDiff,Nat.reduceBEq,reduceCtorEq,Nat.reduceLT,Int.reduceLE,Int.reduceLT,Int.reduceToNat,Int.reduceNeg,Int.reduceAdd,Int.reduceEq,fL];done));(focus(simp only[go_sem, ↓reduceIte,Nat.reduceEqDiff,Nat.reduceAdd,Nat.reduceSub,Nat.reduceMul,Nat.reduceLeDiff,Nat.reduceBEq,reduceCtorEq,Nat.reduceLT,Int.reduceLE,Int.reduceLT,Int.reduceToNat,Int.reduceNeg,Int.reduceAdd,Int.reduceEq,fL];done)))|((first|apply Aa|apply z7|apply FB);try(simp only[dx,bj, ↓reduceIte,Nat.reduceEqDiff]);try(refine hN _ _ ?_;clear hN N))|((first|refine hN _ _ ?_|(clear hN N;first|refine hN _ _ ?_|(clear hN N;first|refine hN _ _ ?_|(clear hN N;first|refine hN _ _ ?_|(clear hN N;refine hN _ _ ?_)))));clear hN N))
  (repeat(first|((first|apply Cs|apply FA);intro N hN)|((first|(refine M7 rfl fun N hN=>?_)|(apply Fz;intro N hN));simp only[go_sem, ↓reduceIte,Nat.reduceEqDiff,Nat.reduceAdd,Nat.reduceSub,Nat.reduceMul,Nat.reduceLeDiff,Nat.reduceBEq,reduceCtorEq,Nat.reduceLT,Int.reduceLE,Int.reduceLT,Int.reduceToNat,Int.reduceNeg,Int.reduceAdd,Int.reduceEq,fL];first|(refine hN _ _ ?_;clear hN N)|skip)|(apply uy;(simp only[go_sem, ↓reduceIte,Nat.reduceEqDiff,Nat.reduceAdd,Nat.reduceSub,Nat.reduceMul,Nat.reduceLeDiff,Nat.reduceBEq,reduceCtorEq,Nat.reduceLT,Int.reduceLE,Int.reduceLT,Int.reduceToNat,Int.reduceNeg,Int.reduceAdd,Int.reduceEq,fL];rfl);first|with_reducible apply nO.t|with_reducible apply nO.f)|(apply Fy;refine hN _ _ ?_;clear hN N;try(simp only[dx,bj, ↓reduceIte,Nat.reduceEqDiff]);try(refine hN _ _ ?_;clear hN N))|apply uw|(refine z8 ?_ ?_ ?_;(focus(simp only[go_sem, ↓reduceIte,Nat.reduceEqDiff,Nat.reduceAdd,Nat.reduceSub,Nat.reduceMul,Nat.reduceLeDiff,Nat.reduceBEq,reduceCtorEq,Nat.reduceLT,Int.reduceLE,Int.reduceLT,Int.reduceToNat,Int.reduceNeg,Int.reduceAdd,Int.reduceEq,fL];done));(focus(simp only[go_sem, ↓reduceIte,Nat.reduceEqDiff,Nat.reduceAdd,Nat.reduceSub,Nat.reduceMul,Nat.reduceLeDiff,Nat.reduceBEq,reduceCtorEq,Nat.reduceLT,Int.reduceLE,Int.reduceLT,Int.reduceToNat,Int.reduceNeg,Int.reduceAdd,Int.reduceEq,fL];done)))|((first|apply Aa|apply z7|apply FB);try(simp only[dx,bj, ↓reduceIte,Nat.reduceEqDiff]);try(refine hN _ _ ?_;clear hN N))|((first|refine hN _ _ ?_|(clear hN N;first|refine hN _ _ ?_|(clear hN N;first|refine hN _ _ ?_|(clear hN N;first|refine hN _ _ ?_|(clear hN N;refine hN _ _ ?_)))));clear hN N)))
  (repeat(revert hN;revert N;apply Pn.out))
  exact kk):G:=h a r
theorem sd {A G:Prop} (a:A) (h:A->G:=by
  intro fL
  first|(simp only[go_sem, ↓reduceIte,Nat.reduceEqDiff,Nat.reduceAdd,Nat.reduceSub,Nat.reduceMul,Nat.reduceLeDiff,Nat.reduceBEq,reduceCtorEq,Nat.reduceLT,Int.reduceLE,Int.reduceLT,Int.reduceToNat,Int.reduceNeg,Int.reduceAdd,Int.reduceEq,fL,fu,iz];done)|fail):G:=h a
theorem sl {A G:Prop} (a:A) (h:A->G:=by
  intro fL
  (try simp only[go_sem, ↓reduceIte,Nat.reduceEqDiff,Nat.reduceAdd,Nat.reduceSub,Nat.reduceMul,Nat.reduceLeDiff,Nat.reduceBEq,reduceCtorEq,Nat.reduceLT,Int.reduceLE,Int.reduceLT,Int.reduceToNat,Int.reduceNeg,Int.reduceAdd,Int.reduceEq,fL])
  try rfl):G:=h a
end Go.Proofs.YtgoelphibofcmaaGreat.V

namespace Go.Proofs.YtgoelphibofcmaaGreat.V
open Go.RowKit
variable {P:Program} {X:fA} {env:Env} {σ:au}
theorem bH (g:Rows) (n:Nat) (l:List AV):fz g (n+1) (.iF l)=(cK g n l).map AV.iF:=by rw[fz]
theorem cP (g:Rows) (n:Nat) (f:Nat) (l:List AV):fz g (n+1) (.fn f l)=if l.all AV.cell then(cK g n l).map (AV.fn f)else none:=by rw[fz]
theorem aZ (g:Rows) (n:Nat) (id:Id) (i off:Nat):fz g (n+1) (.ptr id i off)=match g id with
  |some r=>if r.w then(match r.rows[i]? with
   |some cs=>(cK g n (cs.drop off)).map AV.dj
   |none=>none)else none
  |none=>none:=by rw[fz];rfl
theorem ig (g:Rows) (n:Nat) (id:Id) (off len:Nat):fz g (n+1) (.own id off len)=match g id with
  |some r=>if r.w then(if off+len<=r.rows.length then(dY g n ((r.rows.drop off).take len)).map AV.sl else none)else none
  |none=>none:=by rw[fz];rfl
theorem ot (g:Rows) (n:Nat):dY g n []=some []:=by rw[dY]
theorem y5 (g:Rows) (n:Nat) (c:List AV) (l:List (List AV)):dY g n (c::l)=match cK g n c with
  |some b=>(dY g n l).map (b::·)
  |none=>none:=by rw[dY];cases cK g n c<;>rfl
theorem u9 {g:Rows} {n:Nat}:∀{l:List (List AV)},(∀c∈l,cK g n c=some c)->dY g n l=some l
 |[],_=>by rw[dY]
 |c::r,h=>by rw[dY,h c (by simp),u9 fun d hd=>h d (List.mem_cons_of_mem _ hd)];rfl
theorem qk {α:Type} {g:Rows} {n:Nat} {e:α->List AV} {l:List α} (h:∀x,cK g n (e x)=some (e x)):dY g n (l.map e)=some (l.map e):=u9 fun c hc=>by
 obtain⟨x,_,rfl⟩:=List.mem_map.1 hc
 exact h x
theorem tk {α:Type} {g:Rows} {n:Nat} {e:α->List AV} {l:List α} (h:∀x,dZ g n (e x)=some (e x)):gQ g n (l.map e)=some (l.map e):=th fun c hc=>by
 obtain⟨x,_,rfl⟩:=List.mem_map.1 hc
 exact h x
theorem gY {α:Type} {g:Rows} {n:Nat} {e:α->List AV} {l:List α} {id:Id} {sz len:Nat} (hg:g id=some ⟨true,sz,l.map e⟩) (hl:len=l.length) (h:∀x,cK g n (e x)=some (e x)):fz g (n+1) (.own id 0 len)=some (.sl (l.map e)):=by
 subst hl
 rw[ig];simp only[hg,if_true]
 rw[if_pos (by simp),List.drop_zero,List.take_of_length_le (by simp),qk h];rfl
theorem fB {α:Type} {g:Rows} {n:Nat} {e:α->List AV} {l:List α} {id:Id} {sz len:Nat} (hg:g id=some ⟨true,sz,l.map e⟩) (hl:len=l.length) (h:∀x,dZ g n (e x)=some (e x)):gi g (n+1) (.own id 0 len)=some (.sl (l.map e)):=by
 subst hl
 exact ui hg (by simp) (by rw[List.drop_zero,List.take_of_length_le (by simp),tk h])
theorem all_map {α:Type} {e:α->List AV} {sz:Nat} {l:List α} (h:∀x,(e x).length=sz/\(e x).all AV.cell=true):(l.map e).all (fun c=>c.length==sz&&c.all AV.cell)=true:=by
 rw[List.all_eq_true]
 intro c hc
 obtain⟨x,_,rfl⟩:=List.mem_map.1 hc
 simp[(h x).1,(h x).2]
def P6 (P:Program) (f:Nat) (args:List AV) (sz:Nat) (rows:List (List AV)):Prop:=(∀c∈rows,∀a∈c,a.plain=true)/\∀n:Nat,Call P f args ⟨fun _=>none,n⟩ fun r σ'=>∃id,r=.own id 0 rows.length/\σ'.get id=some ⟨true,sz,rows⟩
theorem P6.x {f sz:Nat} {args eC:List AV} {rows:List (List AV)} (h:P6 P f eC sz rows) {σ:au} (hv:cK (dM σ.get) 6 args=some eC):CM (Call P) f args σ sz rows:=⟨h.1,eC,hv,h.2 _⟩
theorem zM {res:List nU} {r:AV} {vs:List AV} {x:Ex} (hx:x=.ret∨x=.normal) (hv:fu env σ.get res=some vs) (hz:fz σ.get 6 (fc vs)=some r):kU res (fun r0 σ'=>∃r',fz σ'.get 6 r0=some r'/\r'=r) x env σ:=by
 rcases hx with rfl|rfl
 ·exact⟨vs,hv,r,hz,rfl⟩
 ·exact⟨vs,hv,r,hz,rfl⟩
theorem oN {res:List nU} {r:AV} {vs:List AV} {x:Ex} (hx:x=.ret∨x=.normal) (hv:fu env σ.get res=some vs) (hz:gi σ.get 6 (fc vs)=some r):kU res (fun r0 σ'=>∃r',gi σ'.get 6 r0=some r'/\r'=r) x env σ:=by
 rcases hx with rfl|rfl
 ·exact⟨vs,hv,r,hz,rfl⟩
 ·exact⟨vs,hv,r,hz,rfl⟩
theorem ft {res:List nU} {K:AV->au->Prop} {vs:List AV} {x:Ex} (hx:x=.ret∨x=.normal) (hv:fu env σ.get res=some vs) (hK:K (fc vs) σ):kU res K x env σ:=by
 rcases hx with rfl|rfl
 ·exact⟨vs,hv,hK⟩
 ·exact⟨vs,hv,hK⟩
theorem eU {f:Nat} {args:List AV} {σ:au} {K:AV->au->Prop} {nt na:Nat} {body:VC} {res:List nU} (hf:mi P f=some ⟨nt,na,body,res⟩) (ha:na=args.length) (h:(∀a∈args,eD a)->eb (Call P) body (kU res K) (cu args) σ):Call P f args σ K:=lP hf ha h
theorem Hz {f:Nat} {md:List (Nat×Nat)} {args:List AV} {σ:au} {K:AV->au->Prop} {nt na:Nat} {body:VC} {res:List nU} (hf:w8 P f md=some ⟨nt,na,body,res⟩) (ha:na=args.length) (h:(∀a∈args,eD a)->eb (Call P) body (kU res K) (cu args) σ):Call P f args σ K:=uB hf ha h
theorem dz {i:Id} {n:Nat} (h:i.bm<n):(∀s,(i=⟨s,n⟩)=False/\(i=⟨s,n+1⟩)=False/\(i=⟨s,n+1+1⟩)=False/\(i=⟨s,n+1+1+1⟩)=False/\(i=⟨s,n+1+1+1+1⟩)=False/\(i=⟨s,n+1+1+1+1+1⟩)=False/\(i=⟨s,n+1+1+1+1+1+1⟩)=False/\(i=⟨s,n+1+1+1+1+1+1+1⟩)=False/\(i=⟨s,n+1+1+1+1+1+1+1+1⟩)=False/\(i=⟨s,n+1+1+1+1+1+1+1+1+1⟩)=False/\(⟨s,n⟩=i)=False/\(⟨s,n+1⟩=i)=False/\(⟨s,n+1+1⟩=i)=False/\(⟨s,n+1+1+1⟩=i)=False/\(⟨s,n+1+1+1+1⟩=i)=False/\(⟨s,n+1+1+1+1+1⟩=i)=False/\(⟨s,n+1+1+1+1+1+1⟩=i)=False/\(⟨s,n+1+1+1+1+1+1+1⟩=i)=False/\(⟨s,n+1+1+1+1+1+1+1+1⟩=i)=False/\(⟨s,n+1+1+1+1+1+1+1+1+1⟩=i)=False)/\(i.bm=n)=False/\(i.bm=n+1)=False/\(i.bm=n+1+1)=False/\(i.bm=n+1+1+1)=False/\(i.bm=n+1+1+1+1)=False/\(i.bm=n+1+1+1+1+1)=False/\(i.bm=n+1+1+1+1+1+1)=False/\(i.bm=n+1+1+1+1+1+1+1)=False/\(i.bm=n+1+1+1+1+1+1+1+1)=False/\(i.bm=n+1+1+1+1+1+1+1+1+1)=False:=by
 refine⟨fun s=>?_,?_⟩
 ·obtain⟨a,b⟩:=i
  simp only[Id.mk.injEq,eq_iff_iff,iff_false,not_and]
  simp only at h
  refine⟨?_,?_,?_,?_,?_,?_,?_,?_,?_,?_,?_,?_,?_,?_,?_,?_,?_,?_,?_,?_⟩<;>(intros;omega)
 ·simp only[eq_iff_iff,iff_false]
  refine⟨?_,?_,?_,?_,?_,?_,?_,?_,?_,?_⟩<;>omega
def gp (a b:Nat) (ids:List Id):Prop:=ids.Nodup/\∀i∈ids,a<=i.bm/\i.bm<b
def Kept (σ σ':au):Prop:=σ.next<=σ'.next/\∀j:Id,j.bm<σ.next->σ'.get j=σ.get j
theorem Kept.trans {a b c:au} (h:Kept a b) (k:Kept b c):Kept a c:=⟨Nat.le_trans h.1 k.1,fun j hj=>(k.2 j (Nat.lt_of_lt_of_le hj h.1)).trans (h.2 j hj)⟩
theorem gp.wide {a b a' b':Nat} {ids:List Id} (h:gp a b ids) (h1:a'<=a) (h2:b<=b'):gp a' b' ids:=⟨h.1,fun i hi=>⟨Nat.le_trans h1 (h.2 i hi).1,Nat.lt_of_lt_of_le (h.2 i hi).2 h2⟩⟩
theorem gp.app {a b c d:Nat} {i j:List Id} (h:gp a b i) (k:gp c d j) (Py:b<=c) (nG:a<=b) (hcd:c<=d):gp a d (i++j):=
 ⟨List.nodup_append.2 ⟨h.1,k.1,fun x hx y hy e=>by subst e;have:=(h.2 x hx).2;have:=(k.2 x hy).1;omega⟩,fun x hx=>by
  rcases List.mem_append.1 hx with hx|hx
  ·have:=h.2 x hx;omega
  ·have:=k.2 x hx;omega⟩
end Go.Proofs.YtgoelphibofcmaaGreat.V

namespace Go.Proofs.YtgoelphibofcmaaGreat.V
open Go.RowKit
attribute [local irreducible] eb wpOps gj Call
attribute [local go_sem] aJ fM eP fZ fY cL upd cu K.av cN AV.cells AV.cell rowOf rowsOf part ld rowAt bI bW dD ee gT bL dc ev fU eY dr ej da cZ dO dR bR aX cR bQ cV cU eh ek ei cQ bV db ef bP aP cX cE gS bw cJ bU aW dx bj dE AV.undef bD bF dV ec dI dS cF eu eB cD ep eo cW cY List.getD_cons_zero List.getD_cons_succ List.getD_nil List.all_cons List.all_nil Bool.and_true Bool.true_and Bool.and_self Bool.not_true Bool.not_false Option.map_some Option.map_none Option.bind_some Option.bind_none List.length_cons List.length_nil List.take_succ_cons List.take_zero List.take_nil List.drop_succ_cons List.drop_zero List.drop_nil List.head?_cons List.map_cons List.map_nil List.getElem?_cons_zero List.getElem?_cons_succ List.cons_append List.nil_append List.append_nil List.length_map List.set_cons_zero List.set_cons_succ Nat.reduceMul eq_self Int.toNat_natCast Int.natCast_nonneg and_self true_and and_true decide_true decide_false Bool.false_eq_true Nat.zero_add Nat.add_zero List.contains_cons List.contains_nil Bool.or_false Bool.false_or beq_self_eq_true Nat.reduceBEq ne_eq not_true_eq_false not_false_eq_true Id.mk.injEq false_and and_false Nat.reduceLT Int.reduceLE Int.reduceLT Int.reduceToNat Int.reduceNeg Int.reduceAdd Nat.le_refl List.length_append beq_true beq_false Bool.not_eq_eq_eq_not or_false false_or dM aj aq aH bd bz ck aU bf aT aZ cP bH
variable {P:Program}
def JN (f g z:Nat):Ac:=let s:=f*1000000
 ⟨27,2,(.seq (.eQ false [q 4 (.dm (.k (.int .i64 0))) s]) (.seq (.eQ false [q 6 (.dm (.t 1)) (s+1000),q 7 (.dm (.t 0)) (s+1001),q 8 (.len (.t 7)) (s+1002),q 9 (.bin .sub .i64 (.t 6) (.t 8)) (s+1003),q 1 (.dm (.t 9)) (s+1004)]) (.seq (.seq (.eQ false [q 10 (.dm (.t 1)) (s+2000),q 11 (.bin .lss .i64 (.t 10) (.k (.int .i64 0))) (s+2001)]) (.cond (.t 11) (.seq (.eQ false [q 4 (.dm (.k (.int .i64 (-1)))) (s+3000)]) .ret) .skip)) (.seq (.seq (.eQ false [q 5 (.dm (.k (.int .i64 0))) (s+4000)]) (.block 0 (.loop (.seq (.seq (.eQ false [q 12 (.dm (.t 5)) (s+5000),q 13 (.dm (.t 0)) (s+5001),q 14 (.len (.t 13)) (s+5002),q 15 (.bin .lss .i64 (.t 12) (.t 14)) (s+5003)]) (.cond (.t 15) .skip (.exit 0))) (.seq (.block 1 (.seq (.eQ false [q 18 (.dm (.t 0)) (s+7000),q 19 (.dm (.t 5)) (s+7001),q 20 (.dF z (.t 18) (.t 19)) (s+7002),q 21 (.load true z (.t 20)) (s+7003),q 22 (.dm (.t 1)) (s+7004),q 23 (.call g [(.t 21),(.t 22)]) (s+7005),q 1 (.dm (.t 23)) (s+7006)]) (.seq (.eQ false [q 24 (.dm (.t 1)) (s+8000),q 25 (.bin .lss .i64 (.t 24) (.k (.int .i64 0))) (s+8001)]) (.cond (.t 25) (.seq (.eQ false [q 4 (.dm (.k (.int .i64 (-1)))) (s+9000)]) .ret) .skip)))) (.eQ false [q 16 (.dm (.t 5)) (s+6000),q 17 (.bin .add .i64 (.t 16) (.k (.int .i64 1))) (s+6001),q 5 (.dm (.t 17)) (s+6002)])))))) (.seq (.eQ false [q 26 (.dm (.t 1)) (s+10000),q 4 (.dm (.t 26)) (s+10001)]) .ret))))),[(.tmp 4)]⟩
def JL (f:Nat):Ac:=let s:=f*1000000
 ⟨12,2,(.seq (.eQ false [q 4 (.dm (.k (.int .i64 0))) s]) (.seq (.eQ false [q 5 (.dm (.t 1)) (s+1000),q 6 (.dm (.t 0)) (s+1001),q 7 (.len (.t 6)) (s+1002),q 8 (.bin .sub .i64 (.t 5) (.t 7)) (s+1003),q 1 (.dm (.t 8)) (s+1004)]) (.seq (.seq (.eQ false [q 9 (.dm (.t 1)) (s+2000),q 10 (.bin .lss .i64 (.t 9) (.k (.int .i64 0))) (s+2001)]) (.cond (.t 10) (.seq (.eQ false [q 4 (.dm (.k (.int .i64 (-1)))) (s+3000)]) .ret) .skip)) (.seq (.eQ false [q 11 (.dm (.t 1)) (s+4000),q 4 (.dm (.t 11)) (s+4001)]) .ret)))),[(.tmp 4)]⟩
def AR (f g z:Nat):Ac:=let s:=f*1000000
 ⟨27,2,(.seq (.eQ false [q 4 (.dm (.k (.bool false))) s]) (.seq (.seq (.eQ false [q 6 (.dm (.t 0)) (s+1000),q 7 (.len (.t 6)) (s+1001),q 8 (.dm (.t 1)) (s+1002),q 9 (.len (.t 8)) (s+1003),q 10 (.ND true .tI (.t 7) (.t 9)) (s+1004)]) (.cond (.t 10) (.seq (.eQ false [q 4 (.dm (.k (.bool false))) (s+2000)]) .ret) .skip)) (.seq (.seq (.eQ false [q 5 (.dm (.k (.int .i64 0))) (s+3000)]) (.block 0 (.loop (.seq (.seq (.eQ false [q 11 (.dm (.t 5)) (s+4000),q 12 (.dm (.t 0)) (s+4001),q 13 (.len (.t 12)) (s+4002),q 14 (.bin .lss .i64 (.t 11) (.t 13)) (s+4003)]) (.cond (.t 14) .skip (.exit 0))) (.seq (.block 1 (.seq (.eQ true [q 17 (.dm (.t 0)) (s+6000),q 18 (.dm (.t 5)) (s+6001),q 19 (.dF z (.t 17) (.t 18)) (s+6002),q 20 (.load true z (.t 19)) (s+6003),q 21 (.dm (.t 1)) (s+6004),q 22 (.dm (.t 5)) (s+6005),q 23 (.dF z (.t 21) (.t 22)) (s+6006),q 24 (.load true z (.t 23)) (s+6007),q 25 (.call g [(.t 20),(.t 24)]) (s+6008),q 26 (.not (.t 25)) (s+6009)]) (.cond (.t 26) (.seq (.eQ false [q 4 (.dm (.k (.bool false))) (s+7000)]) .ret) .skip))) (.eQ false [q 15 (.dm (.t 5)) (s+5000),q 16 (.bin .add .i64 (.t 15) (.k (.int .i64 1))) (s+5001),q 5 (.dm (.t 16)) (s+5002)])))))) (.seq (.eQ false [q 4 (.dm (.k (.bool true))) (s+8000)]) .ret)))),[(.tmp 4)]⟩
def My (f:Nat) (t:TS):Ac:=let s:=f*1000000
 ⟨26,2,(.seq (.eQ false [q 4 (.dm (.k (.bool false))) s]) (.seq (.seq (.eQ false [q 6 (.dm (.t 0)) (s+1000),q 7 (.len (.t 6)) (s+1001),q 8 (.dm (.t 1)) (s+1002),q 9 (.len (.t 8)) (s+1003),q 10 (.ND true .tI (.t 7) (.t 9)) (s+1004)]) (.cond (.t 10) (.seq (.eQ false [q 4 (.dm (.k (.bool false))) (s+2000)]) .ret) .skip)) (.seq (.seq (.eQ false [q 5 (.dm (.k (.int .i64 0))) (s+3000)]) (.block 0 (.loop (.seq (.seq (.eQ false [q 11 (.dm (.t 5)) (s+4000),q 12 (.dm (.t 0)) (s+4001),q 13 (.len (.t 12)) (s+4002),q 14 (.bin .lss .i64 (.t 11) (.t 13)) (s+4003)]) (.cond (.t 14) .skip (.exit 0))) (.seq (.block 1 (.seq (.eQ true [q 17 (.dm (.t 0)) (s+6000),q 18 (.dm (.t 5)) (s+6001),q 19 (.dF 1 (.t 17) (.t 18)) (s+6002),q 20 (.load false 1 (.t 19)) (s+6003),q 21 (.dm (.t 1)) (s+6004),q 22 (.dm (.t 5)) (s+6005),q 23 (.dF 1 (.t 21) (.t 22)) (s+6006),q 24 (.load false 1 (.t 23)) (s+6007),q 25 (.ND true t (.t 20) (.t 24)) (s+6008)]) (.cond (.t 25) (.seq (.eQ false [q 4 (.dm (.k (.bool false))) (s+7000)]) .ret) .skip))) (.eQ false [q 15 (.dm (.t 5)) (s+5000),q 16 (.bin .add .i64 (.t 15) (.k (.int .i64 1))) (s+5001),q 5 (.dm (.t 16)) (s+5002)])))))) (.seq (.eQ false [q 4 (.dm (.k (.bool true))) (s+8000)]) .ret)))),[(.tmp 4)]⟩
def tJ (f g z:Nat) (zero:List K):Ac:=let s:=f*1000000
 ⟨23,1,(.seq (.eQ false [q 2 (.dm (.k .cr)) s]) (.seq (.eQ false [q 5 (.dm (.t 0)) (s+1000),q 6 (.len (.t 5)) (s+1001),q 7 (.jN zero (.t 6) (.t 6)) (s+1002),q 3 (.dm (.t 7)) (s+1003)]) (.seq (.seq (.eQ false [q 4 (.dm (.k (.int .i64 0))) (s+2000)]) (.block 0 (.loop (.seq (.seq (.eQ false [q 8 (.dm (.t 4)) (s+3000),q 9 (.dm (.t 0)) (s+3001),q 10 (.len (.t 9)) (s+3002),q 11 (.bin .lss .i64 (.t 8) (.t 10)) (s+3003)]) (.cond (.t 11) .skip (.exit 0))) (.seq (.block 1 (.eQ false [q 14 (.dm (.t 3)) (s+5000),q 15 (.dm (.t 4)) (s+5001),q 16 (.dm (.t 0)) (s+5002),q 17 (.dm (.t 4)) (s+5003),q 18 (.dF z (.t 16) (.t 17)) (s+5004),q 19 (.load true z (.t 18)) (s+5005),q 20 (.call g [(.t 19)]) (s+5006),q 21 (.dF z (.t 14) (.t 15)) (s+5007),⟨none,(.store z (.t 21) (.t 20)),none,(s+5008),[]⟩])) (.eQ false [q 12 (.dm (.t 4)) (s+4000),q 13 (.bin .add .i64 (.t 12) (.k (.int .i64 1))) (s+4001),q 4 (.dm (.t 13)) (s+4002)])))))) (.seq (.eQ false [q 22 (.dm (.t 3)) (s+6000),q 2 (.dm (.t 22)) (s+6001)]) .ret)))),[(.tmp 2)]⟩
def JX (f:Nat) (zero:K):Ac:=let s:=f*1000000
 ⟨22,1,(.seq (.eQ false [q 2 (.dm (.k .cr)) s]) (.seq (.eQ false [q 5 (.dm (.t 0)) (s+1000),q 6 (.len (.t 5)) (s+1001),q 7 (.jN [zero] (.t 6) (.t 6)) (s+1002),q 3 (.dm (.t 7)) (s+1003)]) (.seq (.seq (.eQ false [q 4 (.dm (.k (.int .i64 0))) (s+2000)]) (.block 0 (.loop (.seq (.seq (.eQ false [q 8 (.dm (.t 4)) (s+3000),q 9 (.dm (.t 0)) (s+3001),q 10 (.len (.t 9)) (s+3002),q 11 (.bin .lss .i64 (.t 8) (.t 10)) (s+3003)]) (.cond (.t 11) .skip (.exit 0))) (.seq (.block 1 (.eQ false [q 14 (.dm (.t 3)) (s+5000),q 15 (.dm (.t 4)) (s+5001),q 16 (.dm (.t 0)) (s+5002),q 17 (.dm (.t 4)) (s+5003),q 18 (.dF 1 (.t 16) (.t 17)) (s+5004),q 19 (.load false 1 (.t 18)) (s+5005),q 20 (.dF 1 (.t 14) (.t 15)) (s+5006),⟨none,(.store 1 (.t 20) (.t 19)),none,(s+5007),[]⟩])) (.eQ false [q 12 (.dm (.t 4)) (s+4000),q 13 (.bin .add .i64 (.t 12) (.k (.int .i64 1))) (s+4001),q 4 (.dm (.t 13)) (s+4002)])))))) (.seq (.eQ false [q 21 (.dm (.t 3)) (s+6000),q 2 (.dm (.t 21)) (s+6001)]) .ret)))),[(.tmp 2)]⟩
def xo (n:Nat) (l:Int):Int:=if (n:Int)<=l then l-n else -1
theorem JM {fk:Nat} (hc:mi P fk=some (JL fk)) (rows:List (List AV)) (left:Int) (h0:0<=left) (h1:left<=1048576):ar P fk [.sl rows,.int .i64 left] (.int .i64 (xo rows.length left)):=by
 refine ar.body hc rfl fun hl n0=>?_
 try simp only[q]
 have hn:rows.length<=9223372036854775807:=(hl (.sl rows) (by simp)).len
 clear hl
 have hw:IntKind.i64.wrap (left-(rows.length:Int))=left-rows.length:=bh (by omega)
 by_cases hf:(rows.length:Int)<=left
 ·have kg:¬left-(rows.length:Int)<0:=by omega
  (try((repeat(revert hN;revert N;apply Pn.out));refine wk (tw @hw @kg) ?_;(repeat(refine Pn.mk ?_;intro N hN))))
  exact cC (b:=left-(rows.length:Int)) (.inl rfl) (sd @Nat.zero_add) (by rw[xo,if_pos hf])
 ·have kg:left-(rows.length:Int)<0:=by omega
  (try((repeat(revert hN;revert N;apply Pn.out));refine wk (tw @hw @kg) ?_;(repeat(refine Pn.mk ?_;intro N hN))))
  exact cC (b:=-1) (.inl rfl) (sd @Nat.zero_add) (by rw[xo,if_neg hf])
def iD {α:Type} (f:α->Nat) (xs:List α) (k:Nat):Nat:=((xs.take k).map f).sum
theorem mc {α:Type} (f:α->Nat) (xs:List α):iD f xs 0=0:=by simp[iD]
theorem Cg {α:Type} (f:α->Nat) (xs:List α):iD f xs xs.length=(xs.map f).sum:=by simp[iD]
theorem wG {α:Type} (f:α->Nat) {xs:List α} {k:Nat} (hk:k<xs.length):iD f xs (k+1)=iD f xs k+f xs[k]:=by
 unfold iD
 rw[List.take_succ_eq_append_getElem hk,List.map_append,List.sum_append];simp
theorem pW {α:Type} (f:α->Nat) (xs:List α) (k:Nat):iD f xs k<=(xs.map f).sum:=by
 unfold iD
 conv=>rhs;rw[<-List.take_append_drop k xs]
 rw[List.map_append,List.sum_append];omega
theorem JO {α:Type} {e:α->List AV} {z fk gk:Nat} (wt:α->Nat) (hc:mi P fk=some (JN fk gk z)) (hz:∀x,(e x).length=z) (Cx:∀x g,cK g 6 [.agg (e x)]=some [.agg (e x)]) (xs:List α) (left:Int) (h0:0<=left) (h1:left<=1048576)
  (hg:∀x∈xs,∀l:Int,0<=l->l<=1048576->ar P gk [.agg (e x),.int .i64 l] (.int .i64 (xo (wt x) l))):ar P fk [.sl (xs.map e),.int .i64 left] (.int .i64 (xo (xs.length+(xs.map wt).sum) left)):=by
 refine ar.body hc rfl fun hl n0=>?_
 try simp only[q]
 have hn:xs.length<=9223372036854775807:=by simpa using(hl (.sl (xs.map e)) (by simp)).len
 clear hl
 have hw:IntKind.i64.wrap (left-(xs.length:Int))=left-xs.length:=bh (by omega)
 by_cases hf:(xs.length:Int)<=left
 ·have kg:¬left-(xs.length:Int)<0:=by omega
  (try((repeat(revert hN;revert N;apply Pn.out));refine wk (tw @hw @kg) ?_;(repeat(refine Pn.mk ?_;intro N hN))))
  refine aO (fun n env st=>∃k:Nat,n=(xs.length)-k/\k<=(xs.length)/\env 5=.int .i64 (k:Int)/\env 1=(.int .i64 (left-xs.length-(iD wt xs k:Nat)))/\(0<=left-xs.length-(iD wt xs k:Nat))) (xs.length) ⟨0,by omega,by omega,sl (tw @mc (tw @Int.natCast_zero @Int.sub_zero)),sl (tw @mc (tw @Int.natCast_zero @Int.sub_zero)),(by rw[mc];omega)⟩ ?_
  rintro n_a env_a st_a ⟨k,rfl,ale,a5,a1,ke⟩ dv
  have a0:=dv 0 (by kernel_rfl)
  simp only[go_sem, ↓reduceIte,Nat.reduceEqDiff,Nat.reduceAdd,Nat.reduceSub,Nat.reduceLeDiff,reduceCtorEq,mc,Int.natCast_zero,Int.sub_zero]at a0
  clear dv
  by_cases hk:(k:Int)<(xs.length:Int)
  ·have cz:∀{e:Env},(e 5=.int .i64 (IntKind.i64.wrap ((k:Int)+1)))->(e 1=(.int .i64 (left-xs.length-(iD wt xs (k+1):Nat))))->(0<=left-xs.length-(iD wt xs (k+1):Nat))->∃m0,m0<(xs.length)-k/\∃k:Nat,m0=(xs.length)-k/\k<=(xs.length)/\e 5=.int .i64 (k:Int)/\e 1=(.int .i64 (left-xs.length-(iD wt xs k:Nat)))/\(0<=left-xs.length-(iD wt xs k:Nat)):=fun x1 x2 x3=>⟨_,by omega,k+1,rfl,by omega,(by rw[x1,az (by omega)]),x2,x3⟩
   have fa:k<xs.length:=by omega
   have eR:(xs.map e)[k]? =some (e xs[k]):=by simp[fa]
   have tt:=hz xs[k]
   have ht:(e xs[k]).take z=e xs[k]:=by rw[<-tt,List.take_length]
   have hs:=wG wt fa
   have Bp:=pW wt xs (k+1)
   have gZ:=hg _ (List.getElem_mem fa) (left-xs.length-(iD wt xs k:Nat)) ke (by omega)
   have ki:cK (dM st_a.get) 6 [.agg (e xs[k]),.int .i64 (left-xs.length-(iD wt xs k:Nat))]=some [.agg (e xs[k]),.int .i64 (left-xs.length-(iD wt xs k:Nat))]:=by
    have q1:=Cx xs[k] (dM st_a.get)
    rw[aj,aq]at q1
    rw[aj,aj,aq,aH]
    revert q1
    cases V.fz (dM st_a.get) 6 (.agg (e xs[k]))<;>simp
   by_cases sI:(wt xs[k]:Int)<=left-xs.length-(iD wt xs k:Nat)
   ·rw[xo,if_pos sI]at gZ
    have xW:¬left-xs.length-(iD wt xs k:Nat)-(wt xs[k]:Int)<0:=by omega
    have o3:left-xs.length-(iD wt xs k:Nat)-(wt xs[k]:Int)=left-xs.length-(iD wt xs (k+1):Nat):=by rw[hs];omega
    generalize hex:e xs[k]=c at gZ ki eR tt ht
    (try((repeat(revert hN;revert N;apply Pn.out));refine wk (tw @a5 (tw @a1 (tw @a0 (tw @hk (tw @eR (tw @tt (tw @ht @Nat.le_refl))))))) ?_;(repeat(refine Pn.mk ?_;intro N hN))))
    refine .inl ⟨_,ar.x gZ ki,?_⟩
    refine hN _ _ ?_
    clear hN N
    (try((repeat(revert hN;revert N;apply Pn.out));refine wk (tw @a5 (tw @a1 (tw @a0 @xW))) ?_;(repeat(refine Pn.mk ?_;intro N hN))))
    refine cz ?_ ?_ ((by rw[hs];omega))
    all_goals simp only[go_sem, ↓reduceIte,Nat.reduceEqDiff,Nat.reduceAdd,Nat.reduceSub,Nat.reduceLeDiff,reduceCtorEq,a5,a1,a0,o3]
   ·rw[xo,if_neg sI]at gZ
    generalize hex:e xs[k]=c at gZ ki eR tt ht
    (try((repeat(revert hN;revert N;apply Pn.out));refine wk (tw @a5 (tw @a1 (tw @a0 (tw @hk (tw @eR (tw @tt (tw @ht @Nat.le_refl))))))) ?_;(repeat(refine Pn.mk ?_;intro N hN))))
    refine .inl ⟨_,ar.x gZ ki,?_⟩
    refine hN _ _ ?_
    clear hN N
    (try((repeat(revert hN;revert N;apply Pn.out));refine wk (tw @a5 (tw @a1 @a0)) ?_;(repeat(refine Pn.mk ?_;intro N hN))))
    exact cC (b:=-1) (.inl rfl) (sd @Nat.zero_add) (by rw[xo,if_neg (by omega)])
  ·(try((repeat(revert hN;revert N;apply Pn.out));refine wk (tw @a5 (tw @a1 (tw @a0 @hk))) ?_;(repeat(refine Pn.mk ?_;intro N hN))))
   have fa:k=xs.length:=by omega
   subst fa
   have Ix:=Cg wt xs
   exact cC (b:=left-xs.length-(iD wt xs xs.length:Nat)) (.inl rfl) (sd (tw @a5 (tw @a1 @a0))) (by rw[xo,if_pos (by omega)];omega)
 ·have kg:left-(xs.length:Int)<0:=by omega
  (try((repeat(revert hN;revert N;apply Pn.out));refine wk (tw @hw @kg) ?_;(repeat(refine Pn.mk ?_;intro N hN))))
  exact cC (b:=-1) (.inl rfl) (sd @Nat.zero_add) (by rw[xo,if_neg (by omega)])
theorem Ij {α:Type} {xs ys:List α} (hl:xs.length=ys.length) (h:∀j:Nat,j<xs.length->∀(h1:j<xs.length) (h2:j<ys.length),xs[j]=ys[j]):xs=ys:=List.ext_getElem hl fun j h1 h2=>h j h1 h1 h2
theorem yY {α:Type} [DecidableEq α] {e:α->List AV} {z fk gk:Nat} (hc:mi P fk=some (AR fk gk z)) (hz:∀x,(e x).length=z) (Cx:∀x g,cK g 6 [.agg (e x)]=some [.agg (e x)]) (xs ys:List α)
  (hg:∀x y,ar P gk [.agg (e x),.agg (e y)] (.bool (decide (x=y)))):ar P fk [.sl (xs.map e),.sl (ys.map e)] (.bool (decide (xs=ys))):=by
 refine ar.body hc rfl fun hl n0=>?_
 try simp only[q]
 have hn:xs.length<=9223372036854775807:=by simpa using(hl (.sl (xs.map e)) (by simp)).len
 clear hl
 by_cases hlen:xs.length=ys.length
 ·have kG:decide ((xs.length:Int)=(ys.length:Int))=true:=by simp[hlen]
  (try((repeat(revert hN;revert N;apply Pn.out));refine wk @kG ?_;(repeat(refine Pn.mk ?_;intro N hN))))
  refine aO (fun n env st=>∃k:Nat,n=(xs.length)-k/\k<=(xs.length)/\env 5=.int .i64 (k:Int)/\(∀j:Nat,j<k->∀(h1:j<xs.length) (h2:j<ys.length),xs[j]=ys[j])) (xs.length) ⟨0,by omega,by omega,sl @Nat.zero_add,fun _ h=>absurd h (Nat.not_lt_zero _)⟩ ?_
  rintro n_a env_a st_a ⟨k,rfl,ale,a5,mv⟩ dv
  have a0:=dv 0 (by kernel_rfl);have a1:=dv 1 (by kernel_rfl)
  simp only[go_sem, ↓reduceIte,Nat.reduceEqDiff,Nat.reduceAdd,Nat.reduceSub,Nat.reduceLeDiff,reduceCtorEq]at a0 a1
  clear dv
  by_cases hk:(k:Int)<(xs.length:Int)
  ·have cz:∀{e:Env},(e 5=.int .i64 (IntKind.i64.wrap ((k:Int)+1)))->(∀(h1:k<xs.length) (h2:k<ys.length),xs[k]=ys[k])->∃m0,m0<(xs.length)-k/\∃k:Nat,m0=(xs.length)-k/\k<=(xs.length)/\e 5=.int .i64 (k:Int)/\(∀j:Nat,j<k->∀(h1:j<xs.length) (h2:j<ys.length),xs[j]=ys[j]):=fun x1 x2=>⟨_,by omega,k+1,rfl,by omega,(by rw[x1,az (by omega)]),(all_succ mv x2)⟩
   have fa:k<xs.length:=by omega
   have Sr:k<ys.length:=by omega
   have eR:(xs.map e)[k]? =some (e xs[k]):=by simp[fa]
   have Dr:(ys.map e)[k]? =some (e ys[k]):=by simp[Sr]
   have tt:=hz xs[k]
   have DD:=hz ys[k]
   have ht:(e xs[k]).take z=e xs[k]:=by rw[<-tt,List.take_length]
   have Hv:(e ys[k]).take z=e ys[k]:=by rw[<-DD,List.take_length]
   have gZ:=hg xs[k] ys[k]
   have ki:∀g,cK g 6 [.agg (e xs[k]),.agg (e ys[k])]=some [.agg (e xs[k]),.agg (e ys[k])]:=fun g=>by
    have q1:=Cx xs[k] g
    have q2:=Cx ys[k] g
    rw[aj,aq]at q1
    rw[aj,q2]
    revert q1
    cases V.fz g 6 (.agg (e xs[k]))<;>simp
   by_cases heq:xs[k]=ys[k]
   ·rw[decide_eq_true heq]at gZ
    generalize hex:e xs[k]=c at gZ ki eR tt ht
    generalize hey:e ys[k]=d at gZ ki Dr DD Hv
    (try((repeat(revert hN;revert N;apply Pn.out));refine wk (tw @a5 (tw @a0 (tw @a1 (tw @hk (tw @eR (tw @Dr (tw @tt (tw @DD (tw @ht (tw @Hv @Nat.le_refl)))))))))) ?_;(repeat(refine Pn.mk ?_;intro N hN))))
    refine⟨_,ar.x gZ (ki _),?_⟩
    refine hN _ _ ?_
    clear hN N
    (try((repeat(revert hN;revert N;apply Pn.out));refine wk (tw @a5 (tw @a0 @a1)) ?_;(repeat(refine Pn.mk ?_;intro N hN))))
    exact cz (sd (tw @a5 (tw @a0 @a1))) (fun _ _=>heq)
   ·rw[decide_eq_false heq]at gZ
    generalize hex:e xs[k]=c at gZ ki eR tt ht
    generalize hey:e ys[k]=d at gZ ki Dr DD Hv
    (try((repeat(revert hN;revert N;apply Pn.out));refine wk (tw @a5 (tw @a0 (tw @a1 (tw @hk (tw @eR (tw @Dr (tw @tt (tw @DD (tw @ht (tw @Hv @Nat.le_refl)))))))))) ?_;(repeat(refine Pn.mk ?_;intro N hN))))
    refine⟨_,ar.x gZ (ki _),?_⟩
    refine hN _ _ ?_
    clear hN N
    (try((repeat(revert hN;revert N;apply Pn.out));refine wk (tw @a5 (tw @a0 @a1)) ?_;(repeat(refine Pn.mk ?_;intro N hN))))
    exact aQ (b:=false) (.inl rfl) (sd @Nat.zero_add) (decide_eq_false fun h=>heq (List.getElem_of_eq h _)).symm
  ·(try((repeat(revert hN;revert N;apply Pn.out));refine wk (tw @a5 (tw @a0 (tw @a1 @hk))) ?_;(repeat(refine Pn.mk ?_;intro N hN))))
   exact aQ (b:=true) (.inl rfl) (sd @Nat.zero_add) (decide_eq_true (Ij hlen fun j hj h1 h2=>mv j (by omega) h1 h2)).symm
 ·have kG:decide ((xs.length:Int)=(ys.length:Int))=false:=decide_eq_false fun h=>hlen (by omega)
  (try((repeat(revert hN;revert N;apply Pn.out));refine wk @kG ?_;(repeat(refine Pn.mk ?_;intro N hN))))
  exact aQ (b:=false) (.inl rfl) (sd @Nat.zero_add) (decide_eq_false fun h=>hlen (by subst h;rfl)).symm
theorem Qi {fk:Nat} (hc:mi P fk=some (My fk .tI)) (xs ys:List Int):
  ar P fk [.sl (xs.map fun x=>[AV.int .i64 x]),.sl (ys.map fun x=>[AV.int .i64 x])] (.bool (decide (xs=ys))):=by
 refine ar.body hc rfl fun hl n0=>?_
 try simp only[q]
 have hn:xs.length<=9223372036854775807:=by simpa using(hl (.sl (xs.map fun x=>[AV.int .i64 x])) (by simp)).len
 clear hl
 by_cases hlen:xs.length=ys.length
 ·have kG:decide ((xs.length:Int)=(ys.length:Int))=true:=by simp[hlen]
  (try((repeat(revert hN;revert N;apply Pn.out));refine wk @kG ?_;(repeat(refine Pn.mk ?_;intro N hN))))
  refine aO (fun n env st=>∃k:Nat,n=(xs.length)-k/\k<=(xs.length)/\env 5=.int .i64 (k:Int)/\(∀j:Nat,j<k->∀(h1:j<xs.length) (h2:j<ys.length),xs[j]=ys[j])) (xs.length) ⟨0,by omega,by omega,sl @Nat.zero_add,fun _ h=>absurd h (Nat.not_lt_zero _)⟩ ?_
  rintro n_a env_a st_a ⟨k,rfl,ale,a5,mv⟩ dv
  have a0:=dv 0 (by kernel_rfl);have a1:=dv 1 (by kernel_rfl)
  simp only[go_sem, ↓reduceIte,Nat.reduceEqDiff,Nat.reduceAdd,Nat.reduceSub,Nat.reduceLeDiff,reduceCtorEq]at a0 a1
  clear dv
  by_cases hk:(k:Int)<(xs.length:Int)
  ·have cz:∀{e:Env},(e 5=.int .i64 (IntKind.i64.wrap ((k:Int)+1)))->(∀(h1:k<xs.length) (h2:k<ys.length),xs[k]=ys[k])->∃m0,m0<(xs.length)-k/\∃k:Nat,m0=(xs.length)-k/\k<=(xs.length)/\e 5=.int .i64 (k:Int)/\(∀j:Nat,j<k->∀(h1:j<xs.length) (h2:j<ys.length),xs[j]=ys[j]):=fun x1 x2=>⟨_,by omega,k+1,rfl,by omega,(by rw[x1,az (by omega)]),(all_succ mv x2)⟩
   have fa:k<xs.length:=by omega
   have Sr:k<ys.length:=by omega
   have eR:(xs.map fun x=>[AV.int .i64 x])[k]? =some [.int .i64 xs[k]]:=by simp[fa]
   have Dr:(ys.map fun x=>[AV.int .i64 x])[k]? =some [.int .i64 ys[k]]:=by simp[Sr]
   by_cases heq:xs[k]=ys[k]
   ·have hq:=decide_eq_true heq
    (try((repeat(revert hN;revert N;apply Pn.out));refine wk (tw @a5 (tw @a0 (tw @a1 (tw @hk (tw @eR (tw @Dr @hq)))))) ?_;(repeat(refine Pn.mk ?_;intro N hN))))
    exact cz (sd (tw @a5 (tw @a0 @a1))) (fun _ _=>heq)
   ·have hq:=decide_eq_false heq
    (try((repeat(revert hN;revert N;apply Pn.out));refine wk (tw @a5 (tw @a0 (tw @a1 (tw @hk (tw @eR (tw @Dr @hq)))))) ?_;(repeat(refine Pn.mk ?_;intro N hN))))
    exact aQ (b:=false) (.inl rfl) (sd @Nat.zero_add) (decide_eq_false fun h=>heq (List.getElem_of_eq h _)).symm
  ·(try((repeat(revert hN;revert N;apply Pn.out));refine wk (tw @a5 (tw @a0 (tw @a1 @hk))) ?_;(repeat(refine Pn.mk ?_;intro N hN))))
   exact aQ (b:=true) (.inl rfl) (sd @Nat.zero_add) (decide_eq_true (Ij hlen fun j hj h1 h2=>mv j (by omega) h1 h2)).symm
 ·have kG:decide ((xs.length:Int)=(ys.length:Int))=false:=decide_eq_false fun h=>hlen (by omega)
  (try((repeat(revert hN;revert N;apply Pn.out));refine wk @kG ?_;(repeat(refine Pn.mk ?_;intro N hN))))
  exact aQ (b:=false) (.inl rfl) (sd @Nat.zero_add) (decide_eq_false fun h=>hlen (by subst h;rfl)).symm
theorem uK (l:List AV):l++[]=l:=List.append_nil l
def gF {α:Type} (e:α->List AV) (zc:List AV) (xs:List α) (k:Nat):List (List AV):=(xs.take k).map e++List.replicate (xs.length-k) zc
theorem og {α:Type} (e:α->List AV) (zc:List AV) (xs:List α):List.replicate xs.length zc=gF e zc xs 0:=by simp[gF]
theorem qe {α:Type} (e:α->List AV) (zc:List AV) (xs:List α):gF e zc xs xs.length=xs.map e:=by simp[gF]
theorem qf {α:Type} (e:α->List AV) (zc:List AV) (xs:List α) {k:Nat} (hk:k<xs.length):(gF e zc xs k)[k]? =some zc:=by
 have h1:((xs.take k).map e).length=k:=by simp;omega
 rw[gF,List.getElem?_append_right (by omega),h1,Nat.sub_self,List.getElem?_replicate,if_pos (by omega)]
theorem qg {α:Type} (e:α->List AV) (zc:List AV) (xs:List α) {k:Nat} (hk:k<xs.length):(gF e zc xs k).set k (e xs[k])=gF e zc xs (k+1):=by
 have h1:((xs.take k).map e).length=k:=by simp;omega
 rw[gF,List.set_append_right _ _ (by omega),h1,Nat.sub_self,gF,List.take_succ_eq_append_getElem hk,List.map_append,List.append_assoc]
 congr 1
 obtain⟨m,hm⟩:∃m,xs.length-k=m+1:=⟨xs.length-k-1,by omega⟩
 rw[hm,show xs.length-(k+1)=m by omega,List.replicate_succ]
 rfl
theorem Er {α:Type} {en:α->List AV} {z fk gk:Nat} {zero:List K} (hc:mi P fk=some (tJ fk gk z zero)) (E8:zero.length=z) (hz:∀x,(en x).length=z) (kb:∀x,(en x).all AV.cell=true) (Cx:∀x g,cK g 5 (en x)=some (en x)) (xs:List α) (hlen:xs.length<=1048576)
  (hg:∀x∈xs,j9 P gk [.agg (en x)] (.agg (en x))):j9 P fk [.sl (xs.map en)] (.sl (xs.map en)):=by
 refine j9.body hc rfl fun hl σ=>?_
 try simp only[q]
 clear hl
 have hm:(xs.length:Int)<=((16777216:Nat):Int):=by omega
 have h0:(0:Int)<=(xs.length:Int):=by omega
 (try((repeat(revert hN;revert N;apply Pn.out));refine wk (tw @hm (tw @h0 (tw @Int.le_refl (tw (og en (zero.map K.av) xs) @E8)))) ?_;(repeat(refine Pn.mk ?_;intro N hN))))
 refine aO (fun n env st=>∃k:Nat,n=(xs.length)-k/\k<=(xs.length)/\env 4=.int .i64 (k:Int)/\st.get ⟨fk*1000000+1002,σ.next+1⟩=some ⟨true,z,gF en (zero.map K.av) xs k⟩) (xs.length) ⟨0,by omega,by omega,sl @Nat.zero_add,sl @Nat.zero_add⟩ ?_
 rintro n_a env_a st_a ⟨k,rfl,ale,a4,ag0⟩ dv
 have a0:=dv 0 (by kernel_rfl);have a3:=dv 3 (by kernel_rfl)
 simp only[go_sem, ↓reduceIte,Nat.reduceEqDiff,Nat.reduceAdd,Nat.reduceSub,Nat.reduceLeDiff,reduceCtorEq]at a0 a3
 clear dv
 by_cases hk:(k:Int)<(xs.length:Int)
 ·have cz:∀{e:Env} {gg:Rows},(e 4=.int .i64 (IntKind.i64.wrap ((k:Int)+1)))->(gg ⟨fk*1000000+1002,σ.next+1⟩=some ⟨true,z,gF en (zero.map K.av) xs (k+1)⟩)->∃m0,m0<(xs.length)-k/\∃k:Nat,m0=(xs.length)-k/\k<=(xs.length)/\e 4=.int .i64 (k:Int)/\gg ⟨fk*1000000+1002,σ.next+1⟩=some ⟨true,z,gF en (zero.map K.av) xs k⟩:=fun x1 x2=>⟨_,by omega,k+1,rfl,by omega,(by rw[x1,az (by omega)]),x2⟩
  have fa:k<xs.length:=by omega
  have eR:(xs.map en)[k]? =some (en xs[k]):=by simp[fa]
  have tt:=hz xs[k]
  have Kg:=kb xs[k]
  have ht:(en xs[k]).take z=en xs[k]:=by rw[<-tt,List.take_length]
  have gZ:=hg _ (List.getElem_mem fa)
  have e9:=qf en (zero.map K.av) xs fa
  have dQ:=qg en (zero.map K.av) xs fa
  have IC:(zero.map K.av).drop z=[]:=List.drop_of_length_le (by simp[E8])
  generalize hex:en xs[k]=c at gZ eR tt ht Kg dQ
  (repeat(first|((repeat(revert hN;revert N;apply Pn.out));refine wk (tw @a4 (tw @ag0 (tw @a0 (tw @a3 (tw @hk (tw @eR (tw @tt (tw @ht (tw @Nat.le_refl (tw @e9 (tw @dQ (tw @IC (tw @uK (tw @Kg @E8)))))))))))))) ?_;(repeat(refine Pn.mk ?_;intro N hN)))|((try apply Or.inl);refine⟨_,j9.x (gZ) _,?_⟩;refine hN _ _ ?_;clear hN N)))
  refine cz ?_ ?_
  all_goals simp only[go_sem, ↓reduceIte,Nat.reduceEqDiff,Nat.reduceAdd,Nat.reduceSub,Nat.reduceLeDiff,reduceCtorEq,a4,ag0,a0,a3]
 ·(try((repeat(revert hN;revert N;apply Pn.out));refine wk (tw @a4 (tw @ag0 (tw @a0 (tw @a3 @hk)))) ?_;(repeat(refine Pn.mk ?_;intro N hN))))
  have fa:k=xs.length:=by omega
  subst fa
  refine Rx (.inl rfl) (r0:=.own ⟨fk*1000000+1002,σ.next+1⟩ 0 xs.length) (sd (tw @a4 (tw @ag0 (tw @a0 @a3)))) ?_
  rw[qe]at ag0
  exact gY ag0 (by simp) fun x=>Cx x _
theorem RA {fk:Nat} (hc:mi P fk=some (JX fk (.int .i64 0))) (xs:List Int) (hlen:xs.length<=1048576):j9 P fk [.sl (xs.map fun x=>[AV.int .i64 x])] (.sl (xs.map fun x=>[AV.int .i64 x])):=by
 refine j9.body hc rfl fun hl σ=>?_
 try simp only[q]
 clear hl
 obtain⟨en,Dm⟩:∃en:Int->List AV,en=fun x=>[AV.int .i64 x]:=⟨_,rfl⟩
 rw[<-Dm]
 have hm:(xs.length:Int)<=((16777216:Nat):Int):=by omega
 have h0:(0:Int)<=(xs.length:Int):=by omega
 (try((repeat(revert hN;revert N;apply Pn.out));refine wk (tw @hm (tw @h0 (tw @Int.le_refl (og en [AV.int .i64 0] xs)))) ?_;(repeat(refine Pn.mk ?_;intro N hN))))
 refine aO (fun n env st=>∃k:Nat,n=(xs.length)-k/\k<=(xs.length)/\env 4=.int .i64 (k:Int)/\st.get ⟨fk*1000000+1002,σ.next+1⟩=some ⟨true,1,gF en [AV.int .i64 0] xs k⟩) (xs.length) ⟨0,by omega,by omega,sl @Nat.zero_add,sl @Nat.zero_add⟩ ?_
 rintro n_a env_a st_a ⟨k,rfl,ale,a4,ag0⟩ dv
 have a0:=dv 0 (by kernel_rfl);have a3:=dv 3 (by kernel_rfl)
 simp only[go_sem, ↓reduceIte,Nat.reduceEqDiff,Nat.reduceAdd,Nat.reduceSub,Nat.reduceLeDiff,reduceCtorEq]at a0 a3
 clear dv
 by_cases hk:(k:Int)<(xs.length:Int)
 ·have cz:∀{e:Env} {gg:Rows},(e 4=.int .i64 (IntKind.i64.wrap ((k:Int)+1)))->(gg ⟨fk*1000000+1002,σ.next+1⟩=some ⟨true,1,gF en [AV.int .i64 0] xs (k+1)⟩)->∃m0,m0<(xs.length)-k/\∃k:Nat,m0=(xs.length)-k/\k<=(xs.length)/\e 4=.int .i64 (k:Int)/\gg ⟨fk*1000000+1002,σ.next+1⟩=some ⟨true,1,gF en [AV.int .i64 0] xs k⟩:=fun x1 x2=>⟨_,by omega,k+1,rfl,by omega,(by rw[x1,az (by omega)]),x2⟩
  have fa:k<xs.length:=by omega
  have eR:(xs.map en)[k]? =some [AV.int .i64 xs[k]]:=by simp[fa,Dm]
  have e9:=qf en [AV.int .i64 0] xs fa
  have dQ:=qg en [AV.int .i64 0] xs fa
  rw[show en xs[k]=[AV.int .i64 xs[k]] by rw[Dm]]at dQ
  (try((repeat(revert hN;revert N;apply Pn.out));refine wk (tw @a4 (tw @ag0 (tw @a0 (tw @a3 (tw @hk (tw @eR (tw @e9 @dQ))))))) ?_;(repeat(refine Pn.mk ?_;intro N hN))))
  refine cz ?_ ?_
  all_goals simp only[go_sem, ↓reduceIte,Nat.reduceEqDiff,Nat.reduceAdd,Nat.reduceSub,Nat.reduceLeDiff,reduceCtorEq,a4,ag0,a0,a3]
 ·(try((repeat(revert hN;revert N;apply Pn.out));refine wk (tw @a4 (tw @ag0 (tw @a0 (tw @a3 @hk)))) ?_;(repeat(refine Pn.mk ?_;intro N hN))))
  have fa:k=xs.length:=by omega
  subst fa
  refine Rx (.inl rfl) (r0:=.own ⟨fk*1000000+1002,σ.next+1⟩ 0 xs.length) (sd (tw @a4 (tw @ag0 (tw @a0 @a3)))) ?_
  rw[qe]at ag0
  exact gY ag0 (by simp) fun x=>by simp[Dm,aj,aq,aH]
end Go.Proofs.YtgoelphibofcmaaGreat.V

namespace Go.Proofs.YtgoelphibofcmaaGreat
open Go.RowKit
def Sl (w:World) (fp:List Nat) (v:Value) (n:Nat) (xs:List Value):Prop:=
 ∃A c,v=.slice A n c/\n<=c/\c<=maxLen/\
  ((fp=[]/\n=0)∨∃b o,fp=[b]/\A=some ⟨b,o,none⟩/\∀j u,xs[j]? =some u->w.cell? ⟨b,o+j,none⟩=some u)
def fF (fp:List Nat) (lo hi:Nat):Prop:=∀b∈fp,lo<=b/\b<hi
theorem fF.nil (lo hi:Nat):fF [] lo hi:=fun _ h=>by cases h
theorem Sl.nil (w:World):Sl w [] (.slice none 0 0) 0 []:=⟨none,0,rfl,Nat.le_refl _,by simp[maxLen],.inl ⟨rfl,rfl⟩⟩
def Nb {α:Type} (rep:World->List Nat->List Value->α->Prop) (sz:Nat) (w:World) (oh:List (List Value)) (EU:List (List Nat)) (ds:List α):Prop:=
 oh.length=ds.length/\EU.length=ds.length/\∀(i:Nat) (cs:List Value) (f:List Nat) (d:α),oh[i]? =some cs->EU[i]? =some f->ds[i]? =some d->rep w f cs d/\cs.length=sz
def mu {α:Type} (rep:World->List Nat->List Value->α->Prop) (sz:Nat) (w:World) (fp:List Nat) (v:Value) (ds:List α):Prop:=
 ∃oh EU Tg,fp=Tg++EU.flatten/\Sl w Tg v ds.length oh.flatten/\Nb rep sz w oh EU ds
theorem qz {α:Type} {EU:List (List α)} {i:Nat} {f:List α} (h:EU[i]? =some f):∀b∈f,b∈EU.flatten:=fun b hb=>
 List.mem_flatten.2 ⟨f,List.mem_of_getElem? h,hb⟩
theorem tg {α:Type} {oh:List (List α)} {sz:Nat} (h:∀cs∈oh,cs.length=sz) {i j:Nat} {cs:List α} (hi:oh[i]? =some cs) (hj:j<sz):oh.flatten[i*sz+j]? =cs[j]? :=by
 induction oh generalizing i with
 |nil=>simp at hi
 |cons c r ih=>
  have hc:c.length=sz:=h c (by simp)
  cases i with
  |zero=>
   simp at hi;subst hi
   rw[List.flatten_cons,List.getElem?_append_left (by omega)];simp
  |succ i=>
   rw[List.flatten_cons,List.getElem?_append_right (by rw[hc,Nat.succ_mul];omega)]
   have:(i+1)*sz+j-c.length=i*sz+j:=by rw[hc,Nat.succ_mul];omega
   rw[this]
   exact ih (fun cs dt=>h cs (List.mem_cons_of_mem _ dt)) (by simpa using hi)
theorem Nb.lens {α:Type} {rep:World->List Nat->List Value->α->Prop} {sz:Nat} {w:World} {oh:List (List Value)} {EU:List (List Nat)} {ds:List α}
  (h:Nb rep sz w oh EU ds):∀cs∈oh,cs.length=sz:=fun cs dt=>by
 obtain⟨i,hi,rfl⟩:=List.getElem_of_mem dt
 have h1:i<EU.length:=by rw[h.2.1,<-h.1];exact hi
 have h2:i<ds.length:=by rw[<-h.1];exact hi
 exact(h.2.2 i _ _ _ (List.getElem?_eq_getElem hi) (List.getElem?_eq_getElem h1) (List.getElem?_eq_getElem h2)).2
theorem mu.at_ {α:Type} {rep:World->List Nat->List Value->α->Prop} {sz:Nat} {w:World} {fp:List Nat} {A:Option Addr} {n c:Nat} {ds:List α}
  (h:mu rep sz w fp (.slice A n c) ds) (k:Nat) (hk:k<ds.length):
  ∃b o cs f,A=some ⟨b,o,none⟩/\b∈fp/\(∀x∈f,x∈fp)/\rep w f cs ds[k]/\cs.length=sz/\∀j u,cs[j]? =some u->w.cell? ⟨b,o+(k*sz+j),none⟩=some u:=by
 obtain⟨oh,EU,Tg,rfl,⟨A',c',hv,_,_,hc⟩,hr⟩:=h
 simp only[Value.slice.injEq]at hv
 obtain⟨rfl,hn,rfl⟩:=hv
 rcases hc with⟨_,h0⟩|⟨b,o,rfl,rfl,hc⟩
 ·omega
 have h1:k<oh.length:=by rw[hr.1];exact hk
 have h2:k<EU.length:=by rw[hr.2.1];exact hk
 obtain⟨gO,hl⟩:=hr.2.2 k _ _ _ (List.getElem?_eq_getElem h1) (List.getElem?_eq_getElem h2) (List.getElem?_eq_getElem hk)
 refine⟨b,o,oh[k],EU[k],rfl,by simp,fun x hx=>List.mem_append_right _ (qz (List.getElem?_eq_getElem h2) x hx),gO,hl,fun j u hj=>?_⟩
 have gG:j<sz:=by rw[<-hl];exact(List.getElem?_eq_some_iff.1 hj).1
 exact hc _ u (by rw[tg hr.lens (List.getElem?_eq_getElem h1) gG];exact hj)
theorem mu.len {α:Type} {rep:World->List Nat->List Value->α->Prop} {sz:Nat} {w:World} {fp:List Nat} {v:Value} {ds:List α}
  (h:mu rep sz w fp v ds):∃A c,v=.slice A ds.length c/\ds.length<=c/\c<=maxLen:=by
 obtain⟨_,_,_,_,⟨A,c,hv,h1,h2,_⟩,_⟩:=h
 exact⟨A,c,hv,h1,h2⟩
theorem mu.nil {α:Type} (rep:World->List Nat->List Value->α->Prop) (sz:Nat) (w:World):mu rep sz w [] (.slice none 0 0) ([]:List α):=
 ⟨[],[],[],rfl,Sl.nil w,rfl,rfl,fun i cs f d hc=>by simp at hc⟩
def Flat {α:Type} (enc:α->List Value):World->List Nat->List Value->α->Prop:=fun _ f cs d=>f=[]/\cs=enc d
end Go.Proofs.YtgoelphibofcmaaGreat

namespace Go.Proofs.YtgoelphibofcmaaGreat
open Go.RowKit
def Q (w w':World):Prop:=∃q,w'=w.drewN q
theorem Q.refl (w:World):Q w w:=⟨0,rfl⟩
theorem Q.d {w w':World} (h:Q w w') (n:Nat):Q w (w'.drewN n):=by obtain⟨q,rfl⟩:=h;exact⟨q+n,by rw[World.drewN_drewN]⟩
theorem Q.d1 {w w':World} (h:Q w w'):Q w w'.drew:=by obtain⟨q,rfl⟩:=h;exact⟨q+1,rfl⟩
theorem Q.n (w:World) (n:Nat):Q w (w.drewN n):=⟨n,rfl⟩
theorem Q.trans {a b c:World} (h:Q a b) (k:Q b c):Q a c:=by obtain⟨q,rfl⟩:=k;exact h.d q
theorem HY {B:Nat} {a w:World} (h:Below B a w) (n:Nat):Below B a (w.drewN n):=⟨h.os,h.tape,h.output,h.size,h.block⟩
theorem Q.below {w w':World} (h:Q w w'):Below w.heap.size w w':=by obtain⟨q,rfl⟩:=h;exact HY (Below.refl _ _) q
theorem iy {a b:Bool} (h:a=b):Ending.returned (.bool a)=.returned (.bool b):=by rw[h]
theorem Fq {k:IntKind} {a b:Int} (h:a=b):Ending.returned (.int k a)=.returned (.int k b):=by rw[h]
end Go.Proofs.YtgoelphibofcmaaGreat

namespace Go.Proofs.YtgoelphibofcmaaGreat
open Go.RowKit
end Go.Proofs.YtgoelphibofcmaaGreat

namespace Go.Proofs.YtgoelphibofcmaaGreat
open Go.RowKit
end Go.Proofs.YtgoelphibofcmaaGreat

namespace Go.Proofs.YtgoelphibofcmaaGreat
open Go.RowKit
structure ai where
 eM:Int
 eI:Int
deriving DecidableEq
structure ae where
 bx:ai
 bB:Int
deriving DecidableEq
structure dK where
 ah:List ae
deriving DecidableEq
structure fw where
 aE:ByteArray
 ez:Int
deriving DecidableEq
structure eT where
 aE:ByteArray
 br:List Int
deriving DecidableEq
structure aw where
 ax:List fw
 ah:List eT
deriving DecidableEq
structure aD where
 aB:aw
 cq:dK
 ay:Int
deriving DecidableEq
def F2 (d:Int):List Value:=[.int .i64 d]
def EE:=Flat F2
def fD (d:ai):List Value:=[.int .i64 d.eM,.int .i64 d.eI]
def C1 (d:ae):List Value:=[.int .i64 d.bx.eM,.int .i64 d.bx.eI,.int .i64 d.bB]
def As:=Flat C1
def iT:=mu As 3
def Ic (d:fw):List Value:=[.string d.aE,.int .i64 d.ez]
def HJ:=Flat Ic
def qQ:=mu HJ 2
def uI:=mu EE 1
def HK (w:World) (f:List Nat) (cs:List Value) (d:eT):Prop:=
 ∃v1 f1,f=f1/\cs=[.string d.aE,v1]/\uI w f1 v1 d.br
def qR:=mu HK 2
end Go.Proofs.YtgoelphibofcmaaGreat

namespace Go.Proofs.YtgoelphibofcmaaGreat.V
open Go.RowKit
variable {P:Program} {w:World} {D:Nat->Prop}
def HB (P:Program) (w:World) (D:Nat->Prop) (al:List AV) (cs:List Value):Prop:=∀(j:Nat) (a:AV),al[j]? =some a->∃u:Value,cs[j]? =some u/\jw P w D a u
theorem rW {α:Type} {rep:World->List Nat->List Value->α->Prop} {e:α->List AV} {sz:Nat} {f:List Nat} {v:Value} {xs:List α} (h:mu rep sz w f v xs) (hD:∀b∈f,D b)
  (hl:∀x∈xs,(e x).length=sz) (hc:∀x∈xs,∀a∈e x,a.cell=true) (hr:∀x∈xs,∀f' cs,rep w f' cs x->(∀b∈f',D b)->HB P w D (e x) cs):jw P w D (.sl (xs.map e)) v:=by
 obtain⟨A,c,rfl,h1,h2⟩:=mu.len h
 by_cases h0:xs=[]
 ·subst h0;exact .Am _ _ h2
 have lf:0<xs.length:=List.length_pos_iff.2 h0
 obtain⟨b,o,Pv,f0,rfl,hb,Sp,Uw,K0,jA⟩:=mu.at_ h 0 lf
 have key:∀(i:Nat) (hi:i<xs.length),∃cs f',(∀x∈f',x∈f)/\rep w f' cs xs[i]/\cs.length=sz/\∀j u,cs[j]? =some u->w.cell? ⟨b,o+(i*sz+j),none⟩=some u:=by
  intro i hi
  obtain⟨b',o',cs,f',Sh,_,kg,nL,dt,j6⟩:=mu.at_ h i hi
  simp only[Option.some.injEq,Addr.mk.injEq,and_true]at Sh
  obtain⟨rfl,rfl⟩:=Sh
  exact⟨cs,f',kg,nL,dt,j6⟩
 refine .sl _ b o _ c sz (fun i j=>(w.cell? ⟨b,o+(i*sz+j),none⟩).getD Go.undef) (by simp) h1 h2 (hD b hb) ?_ ?_ ?_ ?_
 ·intro cs dt
  obtain⟨x,hx,rfl⟩:=List.mem_map.1 dt
  exact hl x hx
 ·intro cs dt
  obtain⟨x,hx,rfl⟩:=List.mem_map.1 dt
  exact hc x hx
 ·intro i j hi hj
  obtain⟨cs,f',_,_,dt,j6⟩:=key i hi
  rw[j6 j cs[j] (List.getElem?_eq_getElem (by omega))]
  rfl
 ·intro i j cs a dt ha
  have hi:i<xs.length:=by
   have:=(List.getElem?_eq_some_iff.1 dt).1
   simpa using this
  obtain⟨pQ,f',kg,nL,hcs',j6⟩:=key i hi
  simp[hi]at dt
  subst dt
  obtain⟨u,hu,him⟩:=hr _ (List.getElem_mem hi) f' pQ nL (fun b hb=>hD b (kg b hb)) j a ha
  rw[j6 j u hu]
  exact him
end Go.Proofs.YtgoelphibofcmaaGreat.V

namespace Go.Proofs.YtgoelphibofcmaaGreat.V
open Go.RowKit
variable {P:Program} {w:World} {D:Nat->Prop}
def aG (d:Int):List AV:=[.int .i64 d]
def ab (d:ai):List AV:=[.int .i64 d.eM,.int .i64 d.eI]
def ad (d:ae):List AV:=[.int .i64 d.bx.eM,.int .i64 d.bx.eI,.int .i64 d.bB]
def aM (d:dK):List AV:=[.sl (d.ah.map ad)]
def bG (d:fw):List AV:=[.str d.aE,.int .i64 d.ez]
def bp (d:eT):List AV:=[.str d.aE,.sl (d.br.map aG)]
def aa (d:aw):List AV:=[.sl (d.ax.map bG),.sl (d.ah.map bp)]
def aC (d:aD):List AV:=[.sl (d.aB.ax.map bG),.sl (d.aB.ah.map bp),.sl (d.cq.ah.map ad),.int .i64 d.ay]
theorem s9 {f:List Nat} {v:Value} {xs:List ae} (h:iT w f v xs) (hD:∀b∈f,D b):jw P w D (.sl (xs.map ad)) v:=
 rW h hD (fun _ _=>rfl) (fun x _ a ha=>by simp[ad]at ha;rcases ha with rfl|rfl|rfl<;>rfl) fun x _ f' cs hr hf=>by
  obtain⟨_,rfl⟩:=hr
  intro j a ha
  match j,ha with
  |0,ha=>simp[ad]at ha;subst ha;exact⟨_,rfl,.int _ _⟩
  |1,ha=>simp[ad]at ha;subst ha;exact⟨_,rfl,.int _ _⟩
  |2,ha=>simp[ad]at ha;subst ha;exact⟨_,rfl,.int _ _⟩
  |j+3,ha=>simp[ad]at ha
theorem yH {d:dK} {f0:List Nat} {v0:Value} (h0:iT w f0 v0 d.ah) (d0:∀b∈f0,D b):jw P w D (.agg (aM d)) (.agg #[v0]):=by
 refine .agg _ _ (fun j=>(#[v0]:Array Value).getD j Go.undef) rfl (fun a ha=>by simp[aM]at ha;rcases ha with rfl<;>rfl) (fun j hj=>?_) (fun j a ha=>?_)
 ·match j,hj with
  |0,_=>rfl
  |j+1,hj=>simp[aM]at hj<;>omega
 ·match j,ha with
  |0,ha=>simp[aM]at ha;subst ha;exact s9 h0 d0
  |j+1,ha=>simp[aM]at ha
theorem FD {f:List Nat} {v:Value} {xs:List fw} (h:qQ w f v xs) (hD:∀b∈f,D b):jw P w D (.sl (xs.map bG)) v:=
 rW h hD (fun _ _=>rfl) (fun x _ a ha=>by simp[bG]at ha;rcases ha with rfl|rfl<;>rfl) fun x _ f' cs hr hf=>by
  obtain⟨_,rfl⟩:=hr
  intro j a ha
  match j,ha with
  |0,ha=>simp[bG]at ha;subst ha;exact⟨_,rfl,.str _⟩
  |1,ha=>simp[bG]at ha;subst ha;exact⟨_,rfl,.int _ _⟩
  |j+2,ha=>simp[bG]at ha
theorem CI {f:List Nat} {v:Value} {xs:List Int} (h:uI w f v xs) (hD:∀b∈f,D b):jw P w D (.sl (xs.map aG)) v:=
 rW h hD (fun _ _=>rfl) (fun x _ a ha=>by simp[aG]at ha;rcases ha with rfl<;>rfl) fun x _ f' cs hr hf=>by
  obtain⟨_,rfl⟩:=hr
  intro j a ha
  match j,ha with
  |0,ha=>simp[aG]at ha;subst ha;exact⟨_,rfl,.int _ _⟩
  |j+1,ha=>simp[aG]at ha
theorem FI {f:List Nat} {v:Value} {xs:List eT} (h:qR w f v xs) (hD:∀b∈f,D b):jw P w D (.sl (xs.map bp)) v:=
 rW h hD (fun _ _=>rfl) (fun x _ a ha=>by simp[bp]at ha;rcases ha with rfl|rfl<;>rfl) fun x _ f' cs hr hf=>by
  obtain⟨v1,f1,rfl,rfl,h1⟩:=hr
  intro j a ha
  match j,ha with
  |0,ha=>simp[bp]at ha;subst ha;exact⟨_,rfl,.str _⟩
  |1,ha=>simp[bp]at ha;subst ha;exact⟨_,rfl,CI h1 hf⟩
  |j+2,ha=>simp[bp]at ha
theorem CL {d:aD} {f0:List Nat} {v0:Value} (h0:qQ w f0 v0 d.aB.ax) (d0:∀b∈f0,D b) {f1:List Nat} {v1:Value} (h1:qR w f1 v1 d.aB.ah) (d1:∀b∈f1,D b) {f2:List Nat} {v2:Value} (h2:iT w f2 v2 d.cq.ah) (d2:∀b∈f2,D b):jw P w D (.agg (aC d)) (.agg #[v0,v1,v2,.int .i64 d.ay]):=by
 refine .agg _ _ (fun j=>(#[v0,v1,v2,.int .i64 d.ay]:Array Value).getD j Go.undef) rfl (fun a ha=>by simp[aC]at ha;rcases ha with rfl|rfl|rfl|rfl<;>rfl) (fun j hj=>?_) (fun j a ha=>?_)
 ·match j,hj with
  |0,_=>rfl
  |1,_=>rfl
  |2,_=>rfl
  |3,_=>rfl
  |j+4,hj=>simp[aC]at hj<;>omega
 ·match j,ha with
  |0,ha=>simp[aC]at ha;subst ha;exact FD h0 d0
  |1,ha=>simp[aC]at ha;subst ha;exact FI h1 d1
  |2,ha=>simp[aC]at ha;subst ha;exact s9 h2 d2
  |3,ha=>simp[aC]at ha;subst ha;exact .int _ _
  |j+4,ha=>simp[aC]at ha
end Go.Proofs.YtgoelphibofcmaaGreat.V

namespace Go.Proofs.YtgoelphibofcmaaGreat.V
open Go.RowKit
attribute [local irreducible] eb wpOps gj Call
attribute [local go_sem] aJ fM eP fZ fY cL upd cu K.av cN AV.cells AV.cell rowOf rowsOf part ld rowAt bI bW dD ee gT bL dc ev fU eY dr ej da cZ dO dR bR aX cR bQ cV cU eh ek ei cQ bV db ef bP aP cX cE gS bw cJ bU aW dx bj dE AV.undef bD bF dV ec dI dS cF eu eB cD ep eo cW cY List.getD_cons_zero List.getD_cons_succ List.getD_nil List.all_cons List.all_nil Bool.and_true Bool.true_and Bool.and_self Bool.not_true Bool.not_false Option.map_some Option.map_none Option.bind_some Option.bind_none List.length_cons List.length_nil List.take_succ_cons List.take_zero List.take_nil List.drop_succ_cons List.drop_zero List.drop_nil List.head?_cons List.map_cons List.map_nil List.getElem?_cons_zero List.getElem?_cons_succ List.cons_append List.nil_append List.append_nil List.length_map List.set_cons_zero List.set_cons_succ Nat.reduceMul eq_self Int.toNat_natCast Int.natCast_nonneg and_self true_and and_true decide_true decide_false Bool.false_eq_true Nat.zero_add Nat.add_zero List.contains_cons List.contains_nil Bool.or_false Bool.false_or beq_self_eq_true Nat.reduceBEq ne_eq not_true_eq_false not_false_eq_true Id.mk.injEq false_and and_false Nat.reduceLT Int.reduceLE Int.reduceLT Int.reduceToNat Int.reduceNeg Int.reduceAdd Nat.le_refl List.length_append beq_true beq_false Bool.not_eq_eq_eq_not or_false false_or dM aj aq aH bd bz ck aU bf aT aZ cP bH
variable {P:Program}
theorem Ez {X:fA} {Q:Ex->Env->au->Prop} {N:Env->au->Prop} {c:VC} {env:Env} {σ:au} (I:Env->au->Prop) (h2:∀e s,I e s->N e s) (h1:∀N':Env->au->Prop,(∀e s,I e s->N' e s)->eb X c (dx N' Q) env σ):eb X c (dx N Q) env σ:=h1 N h2
def vC (f z:Nat) (a:Bool):Ac:=let s:=f*1000000
 ⟨19,2,(.seq (.eQ false [q 4 (.dm (.k (.int .i64 0))) s]) (.seq (.seq (.eQ false [q 6 (.dm (.t 0)) (s+1000),q 7 (.len (.t 6)) (s+1001),q 8 (.dm (.k (.int .i64 0))) (s+1002)]) (.block 0 (.loop (.seq (.eQ false [q 9 (.bin .lss .i64 (.t 8) (.t 7)) (s+2000)]) (.seq (.cond (.t 9) .skip (.exit 0)) (.seq (.block 1 (.seq (.eQ false [q 10 (.dm (.t 8)) (s+3000),q 5 (.dm (.t 10)) (s+3001)]) (.seq (.eQ false [q 11 (.dm (.t 1)) (s+4000),q 12 (.dm (.t 0)) (s+4001),q 13 (.dm (.t 5)) (s+4002),q 14 (.dF z (.t 12) (.t 13)) (s+4003),q 15 (.load a z (.t 14)) (s+4004),q 16 (.td (.t 11) [(.t 15)]) (s+4005)]) (.cond (.t 16) (.seq (.eQ false [q 17 (.dm (.t 5)) (s+5000),q 4 (.dm (.t 17)) (s+5001)]) .ret) .skip)))) (.eQ false [q 18 (.bin .add .i64 (.t 8) (.k (.int .i64 1))) (s+6000),q 8 (.dm (.t 18)) (s+6001)]))))))) (.seq (.eQ false [q 4 (.dm (.k (.int .i64 (-1)))) (s+7000)]) .ret))),[(.tmp 4)]⟩
def Dh (f g:Nat):Ac:=let s:=f*1000000
 ⟨9,2,(.seq (.eQ false [q 4 (.dm (.k (.bool false))) s]) (.seq (.eQ false [q 5 (.dm (.t 0)) (s+1000),q 6 (.dm (.t 1)) (s+1001),q 7 (.call g [(.t 5),(.t 6)]) (s+1002),q 8 (.bin .geq .i64 (.t 7) (.k (.int .i64 0))) (s+1003),q 4 (.dm (.t 8)) (s+1004)]) .ret)),[(.tmp 4)]⟩
def j5 {α:Type} (p:α->Bool) (xs:List α):Int:=if xs.findIdx p<xs.length then(xs.findIdx p:Int)else -1
theorem Ik {α:Type} (p:α->Bool) (xs:List α):decide (0<=j5 p xs)=xs.any p:=by
 unfold j5
 by_cases h:xs.findIdx p<xs.length
 ·rw[if_pos h]
  have:xs.any p=true:=List.any_eq_true.2 (List.findIdx_lt_length.1 h)
  rw[this];simp
 ·rw[if_neg h]
  have:xs.any p=false:=by
   rw[Bool.eq_false_iff]
   intro hc
   exact h (List.findIdx_lt_length.2 (List.any_eq_true.1 hc))
  rw[this];rfl
theorem uc (a:AV) (l m:List AV):a::l++m=a::(l++m):=rfl
theorem yP (l:List AV):[]++l=l:=rfl
structure P3 {α:Type} (e:α->List AV) (v:α->AV) (z:Nat) (a:Bool):Prop where
 len:∀x,(e x).length=z
 val:∀x,if a=true then v x=.agg (e x)else e x=[v x]
 fz:∀x g,cK g 6 [v x]=some [v x]
theorem tu {α:Type} {e:α->List AV} {v:α->AV} {z fk:Nat} {a:Bool} (hE:P3 e v z a) (hc:mi P fk=some (vC fk z a)) (xs:List α) (hlen:xs.length<=1048576) (f:Nat) (cH:List AV) (p:α->Bool)
  (hf:∀x∈xs,ar P f (v x::cH) (.bool (p x))) (ID:∀g,cK g 6 cH=some cH):
  ar P fk [.sl (xs.map e),.fn f cH] (.int .i64 (j5 p xs)):=by
 refine ar.body hc rfl fun hl n0=>?_
 try simp only[q]
 clear hl
 (try((repeat(revert hN;revert N;apply Pn.out));refine wk @Nat.zero_add ?_;(repeat(refine Pn.mk ?_;intro N hN))))
 refine aO (fun n env st=>∃k:Nat,n=(xs.length)-k/\k<=(xs.length)/\env 8=.int .i64 (k:Int)/\(∀j:Nat,j<k->∀h:j<xs.length,p xs[j]=false)) (xs.length) ⟨0,by omega,by omega,sl @Nat.zero_add,fun _ h=>absurd h (Nat.not_lt_zero _)⟩ ?_
 rintro n_a env_a st_a ⟨k,rfl,ale,a8,mv⟩ dv
 have a0:=dv 0 (by kernel_rfl);have a1:=dv 1 (by kernel_rfl);have a7:=dv 7 (by kernel_rfl)
 simp only[go_sem, ↓reduceIte,Nat.reduceEqDiff,Nat.reduceAdd,Nat.reduceSub,Nat.reduceLeDiff,reduceCtorEq]at a0 a1 a7
 clear dv
 by_cases hk:(k:Int)<(xs.length:Int)
 ·have cz:∀{e:Env},(e 8=.int .i64 (IntKind.i64.wrap ((k:Int)+1)))->(∀h:k<xs.length,p xs[k]=false)->∃m0,m0<(xs.length)-k/\∃k:Nat,m0=(xs.length)-k/\k<=(xs.length)/\e 8=.int .i64 (k:Int)/\(∀j:Nat,j<k->∀h:j<xs.length,p xs[j]=false):=fun x1 x2=>⟨_,by omega,k+1,rfl,by omega,(by rw[x1,az (by omega)]),(all_succ mv x2)⟩
  have fa:k<xs.length:=by omega
  have hg:(xs.map e)[k]? =some (e xs[k]):=by simp[fa]
  have Bj:=hf _ (List.getElem_mem fa)
  have hz:=hE.len xs[k]
  have hv:=hE.val xs[k]
  have ki:cK (dM st_a.get) 6 (v xs[k]::cH)=some (v xs[k]::cH):=by
   have h1:=hE.fz xs[k] (dM st_a.get)
   rw[aj,aq]at h1
   rw[aj,ID]
   revert h1
   cases V.fz (dM st_a.get) 6 (v xs[k])<;>simp
  have fin:∀hN:True,(p xs[k]=true->xs.findIdx p=k):=fun _ hp=>by
   rw[List.findIdx_eq fa];exact⟨hp,fun j hj=>mv j hj (by omega)⟩
  cases hp:p xs[k]
  ·have SB:=hp
   cases a
   ·rw[if_neg (by simp)]at hv
    have x7:z=1:=by rw[<-hz,hv];rfl
    subst x7
    rw[hv]at hg hz
    rw[hp]at Bj
    generalize v xs[k]=c at Bj ki hg hz
    (try((repeat(revert hN;revert N;apply Pn.out));refine wk (tw @a8 (tw @a0 (tw @a1 (tw @a7 (tw @hk (tw @hg (tw @hz (tw @uc @yP)))))))) ?_;(repeat(refine Pn.mk ?_;intro N hN))))
    refine .inl ⟨_,ar.x Bj ki,?_⟩
    refine hN _ _ ?_
    clear hN N
    (try((repeat(revert hN;revert N;apply Pn.out));refine wk (tw @a8 (tw @a0 (tw @a1 @a7))) ?_;(repeat(refine Pn.mk ?_;intro N hN))))
    exact cz (sd (tw @a8 (tw @a0 (tw @a1 @a7)))) (fun _=>SB)
   ·rw[if_pos rfl]at hv
    have ht:(e xs[k]).take z=e xs[k]:=by rw[<-hz,List.take_length]
    rw[hv]at Bj ki
    rw[hp]at Bj
    generalize e xs[k]=c at Bj ki hg hz ht
    (try((repeat(revert hN;revert N;apply Pn.out));refine wk (tw @a8 (tw @a0 (tw @a1 (tw @a7 (tw @hk (tw @hg (tw @hz (tw @ht (tw @uc (tw @yP @Nat.le_refl)))))))))) ?_;(repeat(refine Pn.mk ?_;intro N hN))))
    refine .inl ⟨_,ar.x Bj ki,?_⟩
    refine hN _ _ ?_
    clear hN N
    (try((repeat(revert hN;revert N;apply Pn.out));refine wk (tw @a8 (tw @a0 (tw @a1 @a7))) ?_;(repeat(refine Pn.mk ?_;intro N hN))))
    exact cz (sd (tw @a8 (tw @a0 (tw @a1 @a7)))) (fun _=>SB)
  ·have hi:=fin trivial hp
   cases a
   ·rw[if_neg (by simp)]at hv
    have x7:z=1:=by rw[<-hz,hv];rfl
    subst x7
    rw[hv]at hg hz
    rw[hp]at Bj
    generalize v xs[k]=c at Bj ki hg hz
    (try((repeat(revert hN;revert N;apply Pn.out));refine wk (tw @a8 (tw @a0 (tw @a1 (tw @a7 (tw @hk (tw @hg (tw @hz (tw @uc @yP)))))))) ?_;(repeat(refine Pn.mk ?_;intro N hN))))
    refine .inl ⟨_,ar.x Bj ki,?_⟩
    refine hN _ _ ?_
    clear hN N
    (try((repeat(revert hN;revert N;apply Pn.out));refine wk (tw @a8 (tw @a0 (tw @a1 @a7))) ?_;(repeat(refine Pn.mk ?_;intro N hN))))
    exact cC (b:=(k:Int)) (.inl rfl) (sd @Nat.zero_add) (by rw[j5,hi,if_pos fa])
   ·rw[if_pos rfl]at hv
    have ht:(e xs[k]).take z=e xs[k]:=by rw[<-hz,List.take_length]
    rw[hv]at Bj ki
    rw[hp]at Bj
    generalize e xs[k]=c at Bj ki hg hz ht
    (try((repeat(revert hN;revert N;apply Pn.out));refine wk (tw @a8 (tw @a0 (tw @a1 (tw @a7 (tw @hk (tw @hg (tw @hz (tw @ht (tw @uc (tw @yP @Nat.le_refl)))))))))) ?_;(repeat(refine Pn.mk ?_;intro N hN))))
    refine .inl ⟨_,ar.x Bj ki,?_⟩
    refine hN _ _ ?_
    clear hN N
    (try((repeat(revert hN;revert N;apply Pn.out));refine wk (tw @a8 (tw @a0 (tw @a1 @a7))) ?_;(repeat(refine Pn.mk ?_;intro N hN))))
    exact cC (b:=(k:Int)) (.inl rfl) (sd @Nat.zero_add) (by rw[j5,hi,if_pos fa])
 ·(try((repeat(revert hN;revert N;apply Pn.out));refine wk (tw @a8 (tw @a0 (tw @a1 (tw @a7 @hk)))) ?_;(repeat(refine Pn.mk ?_;intro N hN))))
  have hi:¬xs.findIdx p<xs.length:=by
   rw[List.findIdx_lt_length]
   rintro⟨x,hx,Oo⟩
   obtain⟨j,hj,rfl⟩:=List.getElem_of_mem hx
   rw[mv j (by omega) hj]at Oo;cases Oo
  exact cC (b:=-1) (.inl rfl) (sd @Nat.zero_add) (by rw[j5,if_neg hi])
theorem oe {α:Type} {e:α->List AV} {v:α->AV} {z fk gk:Nat} {a:Bool} (hE:P3 e v z a) (hc:mi P fk=some (Dh fk gk)) (Dj:mi P gk=some (vC gk z a)) (xs:List α) (hlen:xs.length<=1048576) (f:Nat) (cH:List AV) (p:α->Bool) (Dk:cH.all AV.cell=true) (Cx:∀g,cK g 5 cH=some cH)
  (hf:∀x∈xs,ar P f (v x::cH) (.bool (p x))) (ID:∀g,cK g 6 cH=some cH):
  ar P fk [.sl (xs.map e),.fn f cH] (.bool (xs.any p)):=by
 refine ar.body hc rfl fun hl n0=>?_
 try simp only[q]
 clear hl
 have hi:=tu hE Dj xs hlen f cH p hf ID
 (repeat(first|((repeat(revert hN;revert N;apply Pn.out));refine wk (tw @Dk @Cx) ?_;(repeat(refine Pn.mk ?_;intro N hN)))|((try apply Or.inl);refine⟨_,ar.x (hi) (sd (tw @Dk @Cx)),?_⟩;refine hN _ _ ?_;clear hN N)))
 exact aQ (b:=decide (0<=j5 p xs)) (.inl rfl) (sd @Nat.zero_add) (Ik p xs)
end Go.Proofs.YtgoelphibofcmaaGreat.V

namespace Go.Proofs.YtgoelphibofcmaaGreat.V
open Go.RowKit
def rL (P:Program) (mk:Bool):List Oper->Nat->List Nat
 |[],_=>[]
 |o::r,i=>match qL P o.op with
  |some v=>if qy v||mk&&v.lF then i::rL P mk r (i+1)else rL P mk r (i+1)
  |none=>rL P mk r (i+1)
def yS (P:Program) (ops:Array Oper) (site0:Nat) (mk:Bool) (bs:Array Nat) (hidden:List Nat):List Oper->Nat->Option (List bq)
 |[],_=>some []
 |o::r,j=>do
  let v <-qL P o.op
  let g <-CX ops o
  pure ({dst:=o.dst,op:=v,guard:=g,site:=site0+j,hid:=(hidden.filter fun i=> !(bs.getD j 0).testBit i&&(i !=j||mk&&v.lF)).map fun i=>site0+i}::(<-yS P ops site0 mk bs hidden r (j+1)))
def qa (P:Program) (md:List (Nat×Nat)) (uV:Nat):Code->Option VC
 | .skip=>some .skip
 | .region id ops draw=>if draw then(yS P ops ((uV*1000+id)*1000) (vO md id==1) (jr ops) (rL P (vO md id==1) ops.toList 0) ops.toList 0).map (VC.eQ true)else(yS P ops ((uV*1000+id)*1000) false #[] [] ops.toList 0).map (if ops.toList.any fun o=>MU o.op then VC.Ny else VC.eQ false)
 | .seq a b=>do pure (.seq (<-qa P md uV a) (<-qa P md uV b))
 | .cond c x y=>do pure (.cond (<-cO P c) (<-qa P md uV x) (<-qa P md uV y))
 | .block id c=>(qa P md uV c).map (VC.block id)
 | .loop c=>(qa P md uV c).map VC.loop
 | .exit id=>some (.exit id)
 | .ret=>some .ret
 |_=>none
def Qb (P:Program) (md:List (Nat×Nat)) (f:Nat):Option Ac:=
 match P.funcs[f]? with
 |some fn=>match fn.body with
  |some c=>do
   let b <-qa P md f c
   let r <-fn.results.toList.mapM (CY P)
   pure {ntmps:=fn.ntmps,yk:=fn.params.size+fn.nfree,body:=b,res:=r}
  |none=>none
 |none=>none
theorem cfM {P:Program} (md:List (Nat×Nat)) {f:Nat} {v:Ac} (_:Qb P md f=some v:=by(conv=>lhs;cbv)<;>exact rfl) (h:w8 P f md=some v:=by kernel_rfl):w8 P f md=some v:=h
theorem eJ {P:Program} {f:Nat} {v:Ac} (_:Qb P [] f=some v:=by(conv=>lhs;cbv)<;>exact rfl) (h:mi P f=some v:=by kernel_rfl):mi P f=some v:=h
end Go.Proofs.YtgoelphibofcmaaGreat.V

namespace Go.Proofs.YtgoelphibofcmaaGreat.V
open Go.RowKit
def O0:Ac:=⟨77,2,(.seq (.eQ false [q 4 (.dm (.k .gI)) 237000000]) (.seq (.eQ false [q 7 (.dm (.t 0)) 237001000,q 8 (.dm (.t 1)) 237001001,q 9 (.build [(.int .i64 0),.cr,.cr,.cr] [(0,(1,(.t 7))),(1,(1,(.t 8)))]) 237001002,q 10 (.box (.t 9)) 237001003,q 5 (.dm (.t 10)) 237001004]) (.seq (.eQ false [q 11 (.dm (.t 5)) 237002000,q 12 (.dm (.t 0)) 237002001,q 13 (.jN [.cr] (.t 12) (.t 12)) 237002002,q 14 (.AK (.t 11)) 237002003,q 15 (.fV 2 (.t 14)) 237002004,⟨none,(.store 1 (.t 15) (.t 13)),none,237002005,[]⟩]) (.seq (.eQ false [q 16 (.dm (.t 5)) 237003000,q 17 (.dm (.t 1)) 237003001,q 18 (.len (.t 17)) 237003002,q 19 (.jN [(.int .i64 0)] (.t 18) (.t 18)) 237003003,q 20 (.AK (.t 16)) 237003004,q 21 (.fV 3 (.t 20)) 237003005,⟨none,(.store 1 (.t 21) (.t 19)),none,237003006,[]⟩]) (.seq (.seq (.eQ false [q 6 (.dm (.k (.int .i64 0))) 237004000]) (.block 0 (.loop (.seq (.seq (.eQ false [q 22 (.dm (.t 6)) 237005000,q 23 (.dm (.t 1)) 237005001,q 24 (.len (.t 23)) 237005002,q 25 (.bin .lss .i64 (.t 22) (.t 24)) 237005003]) (.cond (.t 25) .skip (.exit 0))) (.seq (.block 1 (.seq (.one ⟨(some 28),(.dm (.t 5)),none,237007000,[237007021,237007022,237007024]⟩ (.one ⟨(some 29),(.AK (.t 28)),none,237007001,[237007021,237007022,237007024]⟩ (.one ⟨(some 30),(.fV 2 (.t 29)),none,237007002,[237007021,237007022,237007024]⟩ (.one ⟨(some 32),(.dm (.t 1)),none,237007004,[237007021,237007022,237007024]⟩ (.one ⟨(some 33),(.dm (.t 6)),none,237007005,[237007021,237007022,237007024]⟩ (.one ⟨(some 37),(.dm (.t 5)),none,237007009,[237007021,237007022,237007024]⟩ (.one ⟨(some 38),(.AK (.t 37)),none,237007010,[237007021,237007022,237007024]⟩ (.one ⟨(some 39),(.fV 2 (.t 38)),none,237007011,[237007021,237007022,237007024]⟩ (.one ⟨(some 40),(.load false 1 (.t 39)),none,237007012,[237007021,237007022,237007024]⟩ (.one ⟨(some 41),(.dm (.t 1)),none,237007013,[237007021,237007022,237007024]⟩ (.one ⟨(some 42),(.dm (.t 6)),none,237007014,[237007021,237007022,237007024]⟩ (.one ⟨(some 43),(.dF 3 (.t 41) (.t 42)),none,237007015,[237007021,237007022,237007024]⟩ (.one ⟨(some 44),(.fV 0 (.t 43)),none,237007016,[237007021,237007022,237007024]⟩ (.one ⟨(some 45),(.load false 1 (.t 44)),none,237007017,[237007021,237007022,237007024]⟩ (.one ⟨(some 46),(.dF 1 (.t 40) (.t 45)),none,237007018,[237007021,237007022,237007024]⟩ (.one ⟨(some 47),(.load false 1 (.t 46)),none,237007019,[237007021,237007022,237007024]⟩ (.one ⟨(some 48),(.dm (.t 6)),none,237007020,[237007021,237007022,237007024]⟩ (.one ⟨(some 49),(.mD 1 1 [(.t 48)]),none,237007021,[237007022,237007024]⟩ (.both (.one ⟨(some 31),(.load false 1 (.t 30)),none,237007003,[237007021,237007022,237007024]⟩ (.both (.one ⟨(some 34),(.dF 3 (.t 32) (.t 33)),none,237007006,[237007021,237007022,237007024]⟩ (.one ⟨(some 35),(.fV 0 (.t 34)),none,237007007,[237007021,237007022,237007024]⟩ (.both (.one ⟨(some 36),(.load false 1 (.t 35)),none,237007008,[237007021,237007022,237007024]⟩ (.one ⟨(some 50),(.append 1 (.t 47) (.t 49)),none,237007022,[237007024]⟩ (.one ⟨(some 51),(.dF 1 (.t 31) (.t 36)),none,237007023,[237007024]⟩ (.one ⟨none,(.store 1 (.t 51) (.t 50)),none,237007024,[]⟩ (.eQ false []))))) (.one ⟨(some 50),(.append 1 (.t 47) (.t 49)),none,237007022,[237007024]⟩ (.one ⟨(some 36),(.load false 1 (.t 35)),none,237007008,[237007021,237007022,237007024]⟩ (.one ⟨(some 51),(.dF 1 (.t 31) (.t 36)),none,237007023,[237007024]⟩ (.one ⟨none,(.store 1 (.t 51) (.t 50)),none,237007024,[]⟩ (.eQ false [])))))))) (.one ⟨(some 50),(.append 1 (.t 47) (.t 49)),none,237007022,[237007024]⟩ (.one ⟨(some 34),(.dF 3 (.t 32) (.t 33)),none,237007006,[237007021,237007022,237007024]⟩ (.one ⟨(some 35),(.fV 0 (.t 34)),none,237007007,[237007021,237007022,237007024]⟩ (.one ⟨(some 36),(.load false 1 (.t 35)),none,237007008,[237007021,237007022,237007024]⟩ (.one ⟨(some 51),(.dF 1 (.t 31) (.t 36)),none,237007023,[237007024]⟩ (.one ⟨none,(.store 1 (.t 51) (.t 50)),none,237007024,[]⟩ (.eQ false []))))))))) (.both (.one ⟨(some 34),(.dF 3 (.t 32) (.t 33)),none,237007006,[237007021,237007022,237007024]⟩ (.one ⟨(some 35),(.fV 0 (.t 34)),none,237007007,[237007021,237007022,237007024]⟩ (.both (.one ⟨(some 31),(.load false 1 (.t 30)),none,237007003,[237007021,237007022,237007024]⟩ (.both (.one ⟨(some 36),(.load false 1 (.t 35)),none,237007008,[237007021,237007022,237007024]⟩ (.one ⟨(some 50),(.append 1 (.t 47) (.t 49)),none,237007022,[237007024]⟩ (.one ⟨(some 51),(.dF 1 (.t 31) (.t 36)),none,237007023,[237007024]⟩ (.one ⟨none,(.store 1 (.t 51) (.t 50)),none,237007024,[]⟩ (.eQ false []))))) (.one ⟨(some 50),(.append 1 (.t 47) (.t 49)),none,237007022,[237007024]⟩ (.one ⟨(some 36),(.load false 1 (.t 35)),none,237007008,[237007021,237007022,237007024]⟩ (.one ⟨(some 51),(.dF 1 (.t 31) (.t 36)),none,237007023,[237007024]⟩ (.one ⟨none,(.store 1 (.t 51) (.t 50)),none,237007024,[]⟩ (.eQ false []))))))) (.both (.one ⟨(some 36),(.load false 1 (.t 35)),none,237007008,[237007021,237007022,237007024]⟩ (.both (.one ⟨(some 31),(.load false 1 (.t 30)),none,237007003,[237007021,237007022,237007024]⟩ (.one ⟨(some 50),(.append 1 (.t 47) (.t 49)),none,237007022,[237007024]⟩ (.one ⟨(some 51),(.dF 1 (.t 31) (.t 36)),none,237007023,[237007024]⟩ (.one ⟨none,(.store 1 (.t 51) (.t 50)),none,237007024,[]⟩ (.eQ false []))))) (.one ⟨(some 50),(.append 1 (.t 47) (.t 49)),none,237007022,[237007024]⟩ (.one ⟨(some 31),(.load false 1 (.t 30)),none,237007003,[237007021,237007022,237007024]⟩ (.one ⟨(some 51),(.dF 1 (.t 31) (.t 36)),none,237007023,[237007024]⟩ (.one ⟨none,(.store 1 (.t 51) (.t 50)),none,237007024,[]⟩ (.eQ false []))))))) (.one ⟨(some 50),(.append 1 (.t 47) (.t 49)),none,237007022,[237007024]⟩ (.one ⟨(some 31),(.load false 1 (.t 30)),none,237007003,[237007021,237007022,237007024]⟩ (.one ⟨(some 36),(.load false 1 (.t 35)),none,237007008,[237007021,237007022,237007024]⟩ (.one ⟨(some 51),(.dF 1 (.t 31) (.t 36)),none,237007023,[237007024]⟩ (.one ⟨none,(.store 1 (.t 51) (.t 50)),none,237007024,[]⟩ (.eQ false [])))))))))) (.one ⟨(some 50),(.append 1 (.t 47) (.t 49)),none,237007022,[237007024]⟩ (.one ⟨(some 31),(.load false 1 (.t 30)),none,237007003,[237007021,237007022,237007024]⟩ (.one ⟨(some 34),(.dF 3 (.t 32) (.t 33)),none,237007006,[237007021,237007022,237007024]⟩ (.one ⟨(some 35),(.fV 0 (.t 34)),none,237007007,[237007021,237007022,237007024]⟩ (.one ⟨(some 36),(.load false 1 (.t 35)),none,237007008,[237007021,237007022,237007024]⟩ (.one ⟨(some 51),(.dF 1 (.t 31) (.t 36)),none,237007023,[237007024]⟩ (.one ⟨none,(.store 1 (.t 51) (.t 50)),none,237007024,[]⟩ (.eQ false [])))))))))))))))))))))))))))) (.one ⟨(some 52),(.dm (.t 5)),none,237008000,[237008021,237008022,237008024]⟩ (.one ⟨(some 53),(.AK (.t 52)),none,237008001,[237008021,237008022,237008024]⟩ (.one ⟨(some 54),(.fV 2 (.t 53)),none,237008002,[237008021,237008022,237008024]⟩ (.one ⟨(some 56),(.dm (.t 1)),none,237008004,[237008021,237008022,237008024]⟩ (.one ⟨(some 57),(.dm (.t 6)),none,237008005,[237008021,237008022,237008024]⟩ (.one ⟨(some 61),(.dm (.t 5)),none,237008009,[237008021,237008022,237008024]⟩ (.one ⟨(some 62),(.AK (.t 61)),none,237008010,[237008021,237008022,237008024]⟩ (.one ⟨(some 63),(.fV 2 (.t 62)),none,237008011,[237008021,237008022,237008024]⟩ (.one ⟨(some 64),(.load false 1 (.t 63)),none,237008012,[237008021,237008022,237008024]⟩ (.one ⟨(some 65),(.dm (.t 1)),none,237008013,[237008021,237008022,237008024]⟩ (.one ⟨(some 66),(.dm (.t 6)),none,237008014,[237008021,237008022,237008024]⟩ (.one ⟨(some 67),(.dF 3 (.t 65) (.t 66)),none,237008015,[237008021,237008022,237008024]⟩ (.one ⟨(some 68),(.fV 1 (.t 67)),none,237008016,[237008021,237008022,237008024]⟩ (.one ⟨(some 69),(.load false 1 (.t 68)),none,237008017,[237008021,237008022,237008024]⟩ (.one ⟨(some 70),(.dF 1 (.t 64) (.t 69)),none,237008018,[237008021,237008022,237008024]⟩ (.one ⟨(some 71),(.load false 1 (.t 70)),none,237008019,[237008021,237008022,237008024]⟩ (.one ⟨(some 72),(.dm (.t 6)),none,237008020,[237008021,237008022,237008024]⟩ (.one ⟨(some 73),(.mD 1 1 [(.t 72)]),none,237008021,[237008022,237008024]⟩ (.both (.one ⟨(some 55),(.load false 1 (.t 54)),none,237008003,[237008021,237008022,237008024]⟩ (.both (.one ⟨(some 58),(.dF 3 (.t 56) (.t 57)),none,237008006,[237008021,237008022,237008024]⟩ (.one ⟨(some 59),(.fV 1 (.t 58)),none,237008007,[237008021,237008022,237008024]⟩ (.both (.one ⟨(some 60),(.load false 1 (.t 59)),none,237008008,[237008021,237008022,237008024]⟩ (.one ⟨(some 74),(.append 1 (.t 71) (.t 73)),none,237008022,[237008024]⟩ (.one ⟨(some 75),(.dF 1 (.t 55) (.t 60)),none,237008023,[237008024]⟩ (.one ⟨none,(.store 1 (.t 75) (.t 74)),none,237008024,[]⟩ (.eQ false []))))) (.one ⟨(some 74),(.append 1 (.t 71) (.t 73)),none,237008022,[237008024]⟩ (.one ⟨(some 60),(.load false 1 (.t 59)),none,237008008,[237008021,237008022,237008024]⟩ (.one ⟨(some 75),(.dF 1 (.t 55) (.t 60)),none,237008023,[237008024]⟩ (.one ⟨none,(.store 1 (.t 75) (.t 74)),none,237008024,[]⟩ (.eQ false [])))))))) (.one ⟨(some 74),(.append 1 (.t 71) (.t 73)),none,237008022,[237008024]⟩ (.one ⟨(some 58),(.dF 3 (.t 56) (.t 57)),none,237008006,[237008021,237008022,237008024]⟩ (.one ⟨(some 59),(.fV 1 (.t 58)),none,237008007,[237008021,237008022,237008024]⟩ (.one ⟨(some 60),(.load false 1 (.t 59)),none,237008008,[237008021,237008022,237008024]⟩ (.one ⟨(some 75),(.dF 1 (.t 55) (.t 60)),none,237008023,[237008024]⟩ (.one ⟨none,(.store 1 (.t 75) (.t 74)),none,237008024,[]⟩ (.eQ false []))))))))) (.both (.one ⟨(some 58),(.dF 3 (.t 56) (.t 57)),none,237008006,[237008021,237008022,237008024]⟩ (.one ⟨(some 59),(.fV 1 (.t 58)),none,237008007,[237008021,237008022,237008024]⟩ (.both (.one ⟨(some 55),(.load false 1 (.t 54)),none,237008003,[237008021,237008022,237008024]⟩ (.both (.one ⟨(some 60),(.load false 1 (.t 59)),none,237008008,[237008021,237008022,237008024]⟩ (.one ⟨(some 74),(.append 1 (.t 71) (.t 73)),none,237008022,[237008024]⟩ (.one ⟨(some 75),(.dF 1 (.t 55) (.t 60)),none,237008023,[237008024]⟩ (.one ⟨none,(.store 1 (.t 75) (.t 74)),none,237008024,[]⟩ (.eQ false []))))) (.one ⟨(some 74),(.append 1 (.t 71) (.t 73)),none,237008022,[237008024]⟩ (.one ⟨(some 60),(.load false 1 (.t 59)),none,237008008,[237008021,237008022,237008024]⟩ (.one ⟨(some 75),(.dF 1 (.t 55) (.t 60)),none,237008023,[237008024]⟩ (.one ⟨none,(.store 1 (.t 75) (.t 74)),none,237008024,[]⟩ (.eQ false []))))))) (.both (.one ⟨(some 60),(.load false 1 (.t 59)),none,237008008,[237008021,237008022,237008024]⟩ (.both (.one ⟨(some 55),(.load false 1 (.t 54)),none,237008003,[237008021,237008022,237008024]⟩ (.one ⟨(some 74),(.append 1 (.t 71) (.t 73)),none,237008022,[237008024]⟩ (.one ⟨(some 75),(.dF 1 (.t 55) (.t 60)),none,237008023,[237008024]⟩ (.one ⟨none,(.store 1 (.t 75) (.t 74)),none,237008024,[]⟩ (.eQ false []))))) (.one ⟨(some 74),(.append 1 (.t 71) (.t 73)),none,237008022,[237008024]⟩ (.one ⟨(some 55),(.load false 1 (.t 54)),none,237008003,[237008021,237008022,237008024]⟩ (.one ⟨(some 75),(.dF 1 (.t 55) (.t 60)),none,237008023,[237008024]⟩ (.one ⟨none,(.store 1 (.t 75) (.t 74)),none,237008024,[]⟩ (.eQ false []))))))) (.one ⟨(some 74),(.append 1 (.t 71) (.t 73)),none,237008022,[237008024]⟩ (.one ⟨(some 55),(.load false 1 (.t 54)),none,237008003,[237008021,237008022,237008024]⟩ (.one ⟨(some 60),(.load false 1 (.t 59)),none,237008008,[237008021,237008022,237008024]⟩ (.one ⟨(some 75),(.dF 1 (.t 55) (.t 60)),none,237008023,[237008024]⟩ (.one ⟨none,(.store 1 (.t 75) (.t 74)),none,237008024,[]⟩ (.eQ false [])))))))))) (.one ⟨(some 74),(.append 1 (.t 71) (.t 73)),none,237008022,[237008024]⟩ (.one ⟨(some 55),(.load false 1 (.t 54)),none,237008003,[237008021,237008022,237008024]⟩ (.one ⟨(some 58),(.dF 3 (.t 56) (.t 57)),none,237008006,[237008021,237008022,237008024]⟩ (.one ⟨(some 59),(.fV 1 (.t 58)),none,237008007,[237008021,237008022,237008024]⟩ (.one ⟨(some 60),(.load false 1 (.t 59)),none,237008008,[237008021,237008022,237008024]⟩ (.one ⟨(some 75),(.dF 1 (.t 55) (.t 60)),none,237008023,[237008024]⟩ (.one ⟨none,(.store 1 (.t 75) (.t 74)),none,237008024,[]⟩ (.eQ false [])))))))))))))))))))))))))))))) (.eQ false [q 26 (.dm (.t 6)) 237006000,q 27 (.bin .add .i64 (.t 26) (.k (.int .i64 1))) 237006001,q 6 (.dm (.t 27)) 237006002])))))) (.seq (.eQ false [q 76 (.dm (.t 5)) 237009000,q 4 (.dm (.t 76)) 237009001]) .ret)))))),[(.tmp 4)]⟩
theorem Nw:w8 Tryz.prog 237 [(7,2),(8,2)]=some O0:=by kernel_rfl
def O1:Ac:=⟨118,2,(.seq (.eQ false [q 4 (.dm (.k .cr)) 240000000]) (.seq (.eQ false [q 17 (.dm (.t 0)) 240001000,q 18 (.jN [.gI] (.t 17) (.t 17)) 240001001,q 5 (.dm (.t 18)) 240001002]) (.seq (.seq (.eQ false [q 19 (.dm (.t 5)) 240002000,q 20 (.len (.t 19)) 240002001,q 21 (.dm (.k (.int .i64 0))) 240002002]) (.block 0 (.loop (.seq (.eQ false [q 22 (.bin .lss .i64 (.t 21) (.t 20)) 240003000]) (.seq (.cond (.t 22) .skip (.exit 0)) (.seq (.block 1 (.seq (.eQ false [q 23 (.dm (.t 21)) 240004000,q 6 (.dm (.t 23)) 240004001]) (.eQ false [q 24 (.dm (.t 5)) 240005000,q 25 (.dm (.t 6)) 240005001,q 26 (.dm (.t 6)) 240005002,q 27 (.build [.gI,(.int .i64 0)] [(1,(1,(.t 26)))]) 240005003,q 28 (.box (.t 27)) 240005004,q 29 (.dF 1 (.t 24) (.t 25)) 240005005,⟨none,(.store 1 (.t 29) (.t 28)),none,240005006,[]⟩]))) (.eQ false [q 30 (.bin .add .i64 (.t 21) (.k (.int .i64 1))) 240006000,q 21 (.dm (.t 30)) 240006001]))))))) (.seq (.seq (.eQ false [q 31 (.dm (.t 1)) 240007000,q 32 (.len (.t 31)) 240007001,q 33 (.dm (.k (.int .i64 0))) 240007002]) (.block 2 (.loop (.seq (.eQ false [q 34 (.bin .lss .i64 (.t 33) (.t 32)) 240008000]) (.seq (.cond (.t 34) .skip (.exit 2)) (.seq (.block 3 (.seq (.eQ false [q 35 (.dF 3 (.t 31) (.t 33)) 240009000,q 36 (.load true 3 (.t 35)) 240009001,q 8 (.new [(.int .i64 0),(.int .i64 0),(.int .i64 0)]) 240009002,⟨none,(.store 3 (.t 8) (.t 36)),none,240009003,[]⟩]) (.seq (.one (q 37 (.dm (.t 5)) 240010000) (.one (q 38 (.fV 0 (.t 8)) 240010001) (.one (q 39 (.load false 1 (.t 38)) 240010002) (.one (q 40 (.dF 1 (.t 37) (.t 39)) 240010003) (.one (q 41 (.load false 1 (.t 40)) 240010004) (.one (q 43 (.dm (.t 5)) 240010006) (.one (q 44 (.fV 1 (.t 8)) 240010007) (.both (.one (q 42 (.call 262 [(.t 41)]) 240010005) (.one (q 45 (.load false 1 (.t 44)) 240010008) (.one (q 46 (.dF 1 (.t 43) (.t 45)) 240010009) (.one (q 47 (.load false 1 (.t 46)) 240010010) (.one (q 48 (.call 262 [(.t 47)]) 240010011) (.one (q 9 (.dm (.t 42)) 240010012) (.one (q 10 (.dm (.t 48)) 240010013) (.eQ false [])))))))) (.one (q 45 (.load false 1 (.t 44)) 240010008) (.both (.one (q 42 (.call 262 [(.t 41)]) 240010005) (.one (q 46 (.dF 1 (.t 43) (.t 45)) 240010009) (.one (q 47 (.load false 1 (.t 46)) 240010010) (.one (q 48 (.call 262 [(.t 47)]) 240010011) (.one (q 9 (.dm (.t 42)) 240010012) (.one (q 10 (.dm (.t 48)) 240010013) (.eQ false []))))))) (.one (q 46 (.dF 1 (.t 43) (.t 45)) 240010009) (.both (.one (q 42 (.call 262 [(.t 41)]) 240010005) (.one (q 47 (.load false 1 (.t 46)) 240010010) (.one (q 48 (.call 262 [(.t 47)]) 240010011) (.one (q 9 (.dm (.t 42)) 240010012) (.one (q 10 (.dm (.t 48)) 240010013) (.eQ false [])))))) (.one (q 47 (.load false 1 (.t 46)) 240010010) (.one (q 42 (.call 262 [(.t 41)]) 240010005) (.one (q 48 (.call 262 [(.t 47)]) 240010011) (.one (q 9 (.dm (.t 42)) 240010012) (.one (q 10 (.dm (.t 48)) 240010013) (.eQ false [])))))))))))))))))) (.block 4 (.seq (.eQ true [q 50 (.dm (.t 9)) 240011000,q 51 (.AK (.t 50)) 240011001,q 52 (.fV 1 (.t 51)) 240011002,q 53 (.load false 1 (.t 52)) 240011003,q 54 (.dm (.t 10)) 240011004,q 55 (.AK (.t 54)) 240011005,q 56 (.fV 1 (.t 55)) 240011006,q 57 (.load false 1 (.t 56)) 240011007,q 58 (.bin .lss .i64 (.t 53) (.t 57)) 240011008,q 49 (.dm (.t 58)) 240011009]) (.cond (.t 49) (.eQ false [q 59 (.dm (.t 10)) 240012000,q 60 (.dm (.t 9)) 240012001,q 61 (.AK (.t 59)) 240012002,q 62 (.fV 0 (.t 61)) 240012003,⟨none,(.store 1 (.t 62) (.t 60)),none,240012004,[]⟩]) (.seq (.eQ true [q 64 (.dm (.t 10)) 240013000,q 65 (.AK (.t 64)) 240013001,q 66 (.fV 1 (.t 65)) 240013002,q 67 (.load false 1 (.t 66)) 240013003,q 68 (.dm (.t 9)) 240013004,q 69 (.AK (.t 68)) 240013005,q 70 (.fV 1 (.t 69)) 240013006,q 71 (.load false 1 (.t 70)) 240013007,q 72 (.bin .lss .i64 (.t 67) (.t 71)) 240013008,q 63 (.dm (.t 72)) 240013009]) (.cond (.t 63) (.eQ false [q 73 (.dm (.t 9)) 240014000,q 74 (.dm (.t 10)) 240014001,q 75 (.AK (.t 73)) 240014002,q 76 (.fV 0 (.t 75)) 240014003,⟨none,(.store 1 (.t 76) (.t 74)),none,240014004,[]⟩]) .skip)))))))) (.eQ false [q 77 (.bin .add .i64 (.t 33) (.k (.int .i64 1))) 240015000,q 33 (.dm (.t 77)) 240015001]))))))) (.seq (.eQ false [q 11 (.dm (.k .cr)) 240016000]) (.seq (.eQ false [⟨(some 78),(.mq (.new ⟨false,[.tI]⟩) []),none,240017000,[]⟩,q 12 (.dm (.t 78)) 240017001]) (.seq (.seq (.eQ false [q 79 (.dm (.t 5)) 240018000,q 80 (.len (.t 79)) 240018001,q 81 (.dm (.k (.int .i64 0))) 240018002]) (.block 5 (.loop (.seq (.eQ false [q 82 (.bin .lss .i64 (.t 81) (.t 80)) 240019000]) (.seq (.cond (.t 82) .skip (.exit 5)) (.seq (.block 6 (.seq (.eQ false [q 83 (.dm (.t 81)) 240020000,q 84 (.dF 1 (.t 79) (.t 81)) 240020001,q 85 (.load false 1 (.t 84)) 240020002,q 13 (.dm (.t 83)) 240020003,q 14 (.dm (.t 85)) 240020004]) (.seq (.eQ false [q 87 (.dm (.t 12)) 240021000,q 88 (.dm (.t 14)) 240021001,q 89 (.call 262 [(.t 88)]) 240021002,q 90 (.AK (.t 89)) 240021003,q 91 (.fV 1 (.t 90)) 240021004,q 92 (.load false 1 (.t 91)) 240021005,⟨(some 93),(.mq (.look ⟨false,[.tI]⟩ true (.int .i64 0)) [(.t 87),(.t 92)]),none,240021006,[]⟩,q 86 (.dm (.t 93)) 240021007,q 94 (.extract 0 (.t 86)) 240021008,q 95 (.extract 1 (.t 86)) 240021009,q 15 (.dm (.t 94)) 240021010,q 16 (.dm (.t 95)) 240021011]) (.seq (.seq (.eQ false [q 96 (.dm (.t 16)) 240022000,q 97 (.not (.t 96)) 240022001]) (.cond (.t 97) (.seq (.eQ false [q 98 (.dm (.t 11)) 240023000,q 99 (.len (.t 98)) 240023001,q 15 (.dm (.t 99)) 240023002]) (.seq (.eQ false [q 100 (.dm (.t 12)) 240024000,q 101 (.dm (.t 13)) 240024001,q 102 (.dm (.t 15)) 240024002,⟨none,(.mw (.set ⟨false,[.tI]⟩) [(.t 100),(.t 101),(.t 102)]),none,240024003,[]⟩]) (.eQ false [q 103 (.dm (.t 11)) 240025000,q 104 (.mD 1 1 [(.k .cr)]) 240025001,q 105 (.append 1 (.t 103) (.t 104)) 240025002,q 11 (.dm (.t 105)) 240025003]))) .skip)) (.eQ false [q 106 (.dm (.t 11)) 240026000,q 107 (.dm (.t 15)) 240026001,q 108 (.dm (.t 11)) 240026002,q 109 (.dm (.t 15)) 240026003,q 110 (.dF 1 (.t 108) (.t 109)) 240026004,q 111 (.load false 1 (.t 110)) 240026005,q 112 (.dm (.t 13)) 240026006,q 113 (.mD 1 1 [(.t 112)]) 240026007,q 114 (.append 1 (.t 111) (.t 113)) 240026008,q 115 (.dF 1 (.t 106) (.t 107)) 240026009,⟨none,(.store 1 (.t 115) (.t 114)),none,240026010,[]⟩]))))) (.eQ false [q 116 (.bin .add .i64 (.t 81) (.k (.int .i64 1))) 240027000,q 81 (.dm (.t 116)) 240027001]))))))) (.seq (.eQ false [q 117 (.dm (.t 11)) 240028000,q 4 (.dm (.t 117)) 240028001]) .ret)))))))),[(.tmp 4)]⟩
theorem Nx:w8 Tryz.prog 240 [(10,2)]=some O1:=by kernel_rfl
end Go.Proofs.YtgoelphibofcmaaGreat.V

namespace Go.Proofs.YtgoelphibofcmaaGreat.V
open Go.RowKit
attribute [local irreducible] eb wpOps gj Call
attribute [local go_sem] aJ fM eP fZ fY cL upd cu K.av cN AV.cells AV.cell rowOf rowsOf part ld rowAt bI bW dD ee gT bL dc ev fU eY dr ej da cZ dO dR bR aX cR bQ cV cU eh ek ei cQ bV db ef bP aP cX cE gS bw cJ bU aW dx bj dE AV.undef bD bF dV ec dI dS cF eu eB cD ep eo cW cY List.getD_cons_zero List.getD_cons_succ List.getD_nil List.all_cons List.all_nil Bool.and_true Bool.true_and Bool.and_self Bool.not_true Bool.not_false Option.map_some Option.map_none Option.bind_some Option.bind_none List.length_cons List.length_nil List.take_succ_cons List.take_zero List.take_nil List.drop_succ_cons List.drop_zero List.drop_nil List.head?_cons List.map_cons List.map_nil List.getElem?_cons_zero List.getElem?_cons_succ List.cons_append List.nil_append List.append_nil List.length_map List.set_cons_zero List.set_cons_succ Nat.reduceMul eq_self Int.toNat_natCast Int.natCast_nonneg and_self true_and and_true decide_true decide_false Bool.false_eq_true Nat.zero_add Nat.add_zero List.contains_cons List.contains_nil Bool.or_false Bool.false_or beq_self_eq_true Nat.reduceBEq ne_eq not_true_eq_false not_false_eq_true Id.mk.injEq false_and and_false Nat.reduceLT Int.reduceLE Int.reduceLT Int.reduceToNat Int.reduceNeg Int.reduceAdd Nat.le_refl List.length_append beq_true beq_false Bool.not_eq_eq_eq_not or_false false_or dM aj aq aH bd bz ck aU bf aT aZ cP bH
theorem A5 (x:fw) (g:Rows):cK g 6 [.agg (bG x)]=some [.agg (bG x)]:=by simp[bG,aj,aq,bf,bz,aH]
theorem A6 (x:eT) (g:Rows):cK g 6 [.agg (bp x)]=some [.agg (bp x)]:=by simp[bp,aj,aq,bf,bz,ck]
theorem ve (x:ae) (g:Rows):cK g 6 [.agg (ad x)]=some [.agg (ad x)]:=by simp[ad,aj,aq,bf,aH]
theorem im {n:Nat} {l:Int} (h:(n:Int)<=l):xo n l=l-n:=if_pos h
theorem iE {n:Nat} {l:Int} (h:¬(n:Int)<=l):xo n l= -1:=if_neg h
def kd (t:eT):Nat:=t.aE.size+t.br.length
def ub (s:aw):Nat:=(s.ax.length+(s.ax.map fun g=>g.aE.size).sum)+(s.ah.length+(s.ah.map kd).sum)
def wO (s:aD):Nat:=ub s.aB+s.cq.ah.length
def gD (s:aw):Prop:=(∀g∈s.ax,g.aE.size<=9223372036854775807)/\∀t∈s.ah,t.aE.size<=9223372036854775807
theorem JJ (g:fw) (l:Int) (h0:0<=l) (h1:l<=1048576) (hs:g.aE.size<=9223372036854775807):ar Tryz.prog 154 [.agg (bG g),.int .i64 l] (.int .i64 (xo g.aE.size l)):=by
 refine ar.body eJ rfl fun hl n0=>?_
 clear hl
 have hw:IntKind.i64.wrap (l-(g.aE.size:Int))=l-g.aE.size:=bh (by omega)
 by_cases hf:(g.aE.size:Int)<=l
 ·have kg:¬l-(g.aE.size:Int)<0:=by omega
  (try((repeat(revert hN;revert N;apply Pn.out));refine wk (tw @bG.eq_1 (tw @hw @kg)) ?_;(repeat(refine Pn.mk ?_;intro N hN))))
  exact cC (b:=l-(g.aE.size:Int)) (.inl rfl) (sd @Nat.zero_add) (im hf).symm
 ·have kg:l-(g.aE.size:Int)<0:=by omega
  (try((repeat(revert hN;revert N;apply Pn.out));refine wk (tw @bG.eq_1 (tw @hw @kg)) ?_;(repeat(refine Pn.mk ?_;intro N hN))))
  exact cC (b:=-1) (.inl rfl) (sd @Nat.zero_add) (iE hf).symm
theorem JK (xs:List Int) (l:Int) (h0:0<=l) (h1:l<=1048576):ar Tryz.prog 188 [.sl (xs.map aG),.int .i64 l] (.int .i64 (xo xs.length l)):=by
 have h:=JM (show mi Tryz.prog 188=some (JL 188) by kernel_rfl) (xs.map aG) l h0 h1
 rwa [List.length_map]at h
theorem JP (t:eT) (l:Int) (h0:0<=l) (h1:l<=1048576) (hs:t.aE.size<=9223372036854775807):ar Tryz.prog 155 [.agg (bp t),.int .i64 l] (.int .i64 (xo (kd t) l)):=by
 refine ar.body eJ rfl fun hl n0=>?_
 clear hl
 have hw:IntKind.i64.wrap (l-(t.aE.size:Int))=l-t.aE.size:=bh (by omega)
 by_cases hf:(t.aE.size:Int)<=l
 ·have kg:¬l-(t.aE.size:Int)<0:=by omega
  have hc:=JK t.br (l-t.aE.size) (by omega) (by omega)
  by_cases hg:(t.br.length:Int)<=l-t.aE.size
  ·rw[im hg]at hc
   have E4:¬l-(t.aE.size:Int)-(t.br.length:Int)<0:=by omega
   (repeat(first|((repeat(revert hN;revert N;apply Pn.out));refine wk (tw @bp.eq_1 (tw @hw (tw @kg @E4))) ?_;(repeat(refine Pn.mk ?_;intro N hN)))|((try apply Or.inl);refine⟨_,ar.x (hc) (sd (tw @bp.eq_1 (tw @hw (tw @kg @E4)))),?_⟩;refine hN _ _ ?_;clear hN N)))
   exact cC (b:=l-(t.aE.size:Int)-(t.br.length:Int)) (.inl rfl) (sd @Nat.zero_add) (by rw[im (by unfold kd;omega)];unfold kd;omega)
  ·rw[iE hg]at hc
   (repeat(first|((repeat(revert hN;revert N;apply Pn.out));refine wk (tw @bp.eq_1 (tw @hw @kg)) ?_;(repeat(refine Pn.mk ?_;intro N hN)))|((try apply Or.inl);refine⟨_,ar.x (hc) (sd (tw @bp.eq_1 (tw @hw @kg))),?_⟩;refine hN _ _ ?_;clear hN N)))
   exact cC (b:=-1) (.inl rfl) (sd @Nat.zero_add) (iE (by unfold kd;omega)).symm
 ·have kg:l-(t.aE.size:Int)<0:=by omega
  (try((repeat(revert hN;revert N;apply Pn.out));refine wk (tw @bp.eq_1 (tw @hw @kg)) ?_;(repeat(refine Pn.mk ?_;intro N hN))))
  exact cC (b:=-1) (.inl rfl) (sd @Nat.zero_add) (iE (by unfold kd;omega)).symm
theorem G8 (xs:List fw) (l:Int) (h0:0<=l) (h1:l<=1048576) (hs:∀g∈xs,g.aE.size<=9223372036854775807):ar Tryz.prog 94 [.sl (xs.map bG),.int .i64 l] (.int .i64 (xo (xs.length+(xs.map fun g=>g.aE.size).sum) l)):=
 JO (fun g:fw=>g.aE.size) (show mi Tryz.prog 94=some (JN 94 154 2) by kernel_rfl) (fun _=>rfl) A5 xs l h0 h1 fun x hx l a b=>JJ x l a b (hs x hx)
theorem G9 (xs:List eT) (l:Int) (h0:0<=l) (h1:l<=1048576) (hs:∀t∈xs,t.aE.size<=9223372036854775807):ar Tryz.prog 95 [.sl (xs.map bp),.int .i64 l] (.int .i64 (xo (xs.length+(xs.map kd).sum) l)):=
 JO kd (show mi Tryz.prog 95=some (JN 95 155 2) by kernel_rfl) (fun _=>rfl) A6 xs l h0 h1 fun x hx l a b=>JP x l a b (hs x hx)
theorem El (xs:List ae) (l:Int) (h0:0<=l) (h1:l<=1048576):ar Tryz.prog 57 [.sl (xs.map ad),.int .i64 l] (.int .i64 (xo xs.length l)):=by
 have h:=JM (show mi Tryz.prog 57=some (JL 57) by kernel_rfl) (xs.map ad) l h0 h1
 rwa [List.length_map]at h
theorem Ci (s:aw) (l:Int) (h0:0<=l) (h1:l<=1048576) (hs:gD s):ar Tryz.prog 56 [.agg (aa s),.int .i64 l] (.int .i64 (xo (ub s) l)):=by
 refine ar.body eJ rfl fun hl n0=>?_
 clear hl
 have ha:=G8 s.ax l h0 h1 hs.1
 have he:ub s=(s.ax.length+(s.ax.map fun g=>g.aE.size).sum)+(s.ah.length+(s.ah.map kd).sum):=rfl
 by_cases hf:((s.ax.length+(s.ax.map fun g=>g.aE.size).sum:Nat):Int)<=l
 ·rw[im hf]at ha
  obtain⟨A,hA⟩:∃A:Int,A=l-((s.ax.length+(s.ax.map fun g=>g.aE.size).sum:Nat):Int):=⟨_,rfl⟩
  rw[<-hA]at ha
  have kg:¬A<0:=by omega
  have hb:=G9 s.ah A (by omega) (by omega) hs.2
  by_cases hg:((s.ah.length+(s.ah.map kd).sum:Nat):Int)<=A
  ·rw[im hg]at hb
   obtain⟨B,hB⟩:∃B:Int,B=A-((s.ah.length+(s.ah.map kd).sum:Nat):Int):=⟨_,rfl⟩
   rw[<-hB]at hb
   have E4:¬B<0:=by omega
   (repeat(first|((repeat(revert hN;revert N;apply Pn.out));refine wk (tw @aa.eq_1 (tw @kg @E4)) ?_;(repeat(refine Pn.mk ?_;intro N hN)))|((try apply Or.inl);refine⟨_,ar.x (ha) (sd (tw @aa.eq_1 (tw @kg @E4))),?_⟩;refine hN _ _ ?_;clear hN N)|((try apply Or.inl);refine⟨_,ar.x (hb) (sd (tw @aa.eq_1 (tw @kg @E4))),?_⟩;refine hN _ _ ?_;clear hN N)))
   exact cC (b:=B) (.inl rfl) (sd @Nat.zero_add) (by rw[im (by omega)];omega)
  ·rw[iE hg]at hb
   (repeat(first|((repeat(revert hN;revert N;apply Pn.out));refine wk (tw @aa.eq_1 @kg) ?_;(repeat(refine Pn.mk ?_;intro N hN)))|((try apply Or.inl);refine⟨_,ar.x (ha) (sd (tw @aa.eq_1 @kg)),?_⟩;refine hN _ _ ?_;clear hN N)|((try apply Or.inl);refine⟨_,ar.x (hb) (sd (tw @aa.eq_1 @kg)),?_⟩;refine hN _ _ ?_;clear hN N)))
   exact cC (b:=-1) (.inl rfl) (sd @Nat.zero_add) (iE (by omega)).symm
 ·rw[iE hf]at ha
  (repeat(first|((repeat(revert hN;revert N;apply Pn.out));refine wk @aa.eq_1 ?_;(repeat(refine Pn.mk ?_;intro N hN)))|((try apply Or.inl);refine⟨_,ar.x (ha) (sd @aa.eq_1),?_⟩;refine hN _ _ ?_;clear hN N)))
  exact cC (b:=-1) (.inl rfl) (sd @Nat.zero_add) (iE (by omega)).symm
theorem rZ (a:dK) (l:Int) (h0:0<=l) (h1:l<=1048576):ar Tryz.prog 15 [.agg (aM a),.int .i64 l] (.int .i64 (xo a.ah.length l)):=by
 refine ar.body eJ rfl fun hl n0=>?_
 clear hl
 have ha:=El a.ah l h0 h1
 by_cases hf:(a.ah.length:Int)<=l
 ·rw[im hf]at ha
  have kg:¬l-(a.ah.length:Int)<0:=by omega
  (repeat(first|((repeat(revert hN;revert N;apply Pn.out));refine wk (tw @aM.eq_1 @kg) ?_;(repeat(refine Pn.mk ?_;intro N hN)))|((try apply Or.inl);refine⟨_,ar.x (ha) (sd (tw @aM.eq_1 @kg)),?_⟩;refine hN _ _ ?_;clear hN N)))
  exact cC (b:=l-(a.ah.length:Int)) (.inl rfl) (sd @Nat.zero_add) (im hf).symm
 ·rw[iE hf]at ha
  (repeat(first|((repeat(revert hN;revert N;apply Pn.out));refine wk @aM.eq_1 ?_;(repeat(refine Pn.mk ?_;intro N hN)))|((try apply Or.inl);refine⟨_,ar.x (ha) (sd @aM.eq_1),?_⟩;refine hN _ _ ?_;clear hN N)))
  exact cC (b:=-1) (.inl rfl) (sd @Nat.zero_add) (iE hf).symm
theorem Em (s:aD) (l:Int) (h0:0<=l) (h1:l<=1048576) (hs:gD s.aB):ar Tryz.prog 14 [.agg (aC s),.int .i64 l] (.int .i64 (xo (wO s) l)):=by
 refine ar.body eJ rfl fun hl n0=>?_
 clear hl
 have ha:=Ci s.aB l h0 h1 hs
 rw[aa]at ha
 have he:wO s=ub s.aB+s.cq.ah.length:=rfl
 by_cases hf:(ub s.aB:Int)<=l
 ·rw[im hf]at ha
  have kg:¬l-(ub s.aB:Int)<0:=by omega
  have hb:=rZ s.cq (l-ub s.aB) (by omega) (by omega)
  rw[aM]at hb
  by_cases hg:(s.cq.ah.length:Int)<=l-ub s.aB
  ·rw[im hg]at hb
   have E4:¬l-(ub s.aB:Int)-(s.cq.ah.length:Int)<0:=by omega
   (repeat(first|((repeat(revert hN;revert N;apply Pn.out));refine wk (tw @aC.eq_1 (tw @kg @E4)) ?_;(repeat(refine Pn.mk ?_;intro N hN)))|((try apply Or.inl);refine⟨_,ar.x (ha) (sd (tw @aC.eq_1 (tw @kg @E4))),?_⟩;refine hN _ _ ?_;clear hN N)|((try apply Or.inl);refine⟨_,ar.x (hb) (sd (tw @aC.eq_1 (tw @kg @E4))),?_⟩;refine hN _ _ ?_;clear hN N)))
   exact cC (b:=l-(ub s.aB:Int)-(s.cq.ah.length:Int)) (.inl rfl) (sd @Nat.zero_add) (by rw[im (by omega)];omega)
  ·rw[iE hg]at hb
   (repeat(first|((repeat(revert hN;revert N;apply Pn.out));refine wk (tw @aC.eq_1 @kg) ?_;(repeat(refine Pn.mk ?_;intro N hN)))|((try apply Or.inl);refine⟨_,ar.x (ha) (sd (tw @aC.eq_1 @kg)),?_⟩;refine hN _ _ ?_;clear hN N)|((try apply Or.inl);refine⟨_,ar.x (hb) (sd (tw @aC.eq_1 @kg)),?_⟩;refine hN _ _ ?_;clear hN N)))
   exact cC (b:=-1) (.inl rfl) (sd @Nat.zero_add) (iE (by omega)).symm
 ·rw[iE hf]at ha
  (repeat(first|((repeat(revert hN;revert N;apply Pn.out));refine wk @aC.eq_1 ?_;(repeat(refine Pn.mk ?_;intro N hN)))|((try apply Or.inl);refine⟨_,ar.x (ha) (sd @aC.eq_1),?_⟩;refine hN _ _ ?_;clear hN N)))
  exact cC (b:=-1) (.inl rfl) (sd @Nat.zero_add) (iE (by omega)).symm
end Go.Proofs.YtgoelphibofcmaaGreat.V

namespace Go.Proofs.YtgoelphibofcmaaGreat.V
open Go.RowKit
attribute [local irreducible] eb wpOps gj Call
attribute [local go_sem] aJ fM eP fZ fY cL upd cu K.av cN AV.cells AV.cell rowOf rowsOf part ld rowAt bI bW dD ee gT bL dc ev fU eY dr ej da cZ dO dR bR aX cR bQ cV cU eh ek ei cQ bV db ef bP aP cX cE gS bw cJ bU aW dx bj dE AV.undef bD bF dV ec dI dS cF eu eB cD ep eo cW cY List.getD_cons_zero List.getD_cons_succ List.getD_nil List.all_cons List.all_nil Bool.and_true Bool.true_and Bool.and_self Bool.not_true Bool.not_false Option.map_some Option.map_none Option.bind_some Option.bind_none List.length_cons List.length_nil List.take_succ_cons List.take_zero List.take_nil List.drop_succ_cons List.drop_zero List.drop_nil List.head?_cons List.map_cons List.map_nil List.getElem?_cons_zero List.getElem?_cons_succ List.cons_append List.nil_append List.append_nil List.length_map List.set_cons_zero List.set_cons_succ Nat.reduceMul eq_self Int.toNat_natCast Int.natCast_nonneg and_self true_and and_true decide_true decide_false Bool.false_eq_true Nat.zero_add Nat.add_zero List.contains_cons List.contains_nil Bool.or_false Bool.false_or beq_self_eq_true Nat.reduceBEq ne_eq not_true_eq_false not_false_eq_true Id.mk.injEq false_and and_false Nat.reduceLT Int.reduceLE Int.reduceLT Int.reduceToNat Int.reduceNeg Int.reduceAdd Nat.le_refl List.length_append beq_true beq_false Bool.not_eq_eq_eq_not or_false false_or dM aj aq aH bd bz ck aU bf aT aZ cP bH
theorem LY (x:fw) (g:Rows):cK g 5 (bG x)=some (bG x):=by simp[bG,aj,aq,bz,aH]
theorem LZ (x:eT) (g:Rows):cK g 5 (bp x)=some (bp x):=by simp[bp,aj,aq,bz,ck]
theorem GV (x:ae) (g:Rows):cK g 5 (ad x)=some (ad x):=by simp[ad,aj,aq,aH]
theorem yE (p:ai):j9 Tryz.prog 82 [.agg (ab p)] (.agg (ab p)):=by
 refine j9.body eJ rfl fun hl σ=>?_
 clear hl
 (try((repeat(revert hN;revert N;apply Pn.out));refine wk @ab.eq_1 ?_;(repeat(refine Pn.mk ?_;intro N hN))))
 exact zM (.inl rfl) (vs:=[.agg (ab p)]) (by simp only[go_sem, ↓reduceIte,Nat.reduceEqDiff,Nat.reduceAdd,Nat.reduceSub,Nat.reduceLeDiff,reduceCtorEq,fu,iz,ab]) (by simp[fc,ab,bf,aj,aq,aH])
theorem Ep (p:ae):j9 Tryz.prog 104 [.agg (ad p)] (.agg (ad p)):=by
 refine j9.body eJ rfl fun hl σ=>?_
 clear hl
 have h:=yE p.bx
 rw[ab]at h
 (repeat(first|((repeat(revert hN;revert N;apply Pn.out));refine wk @ad.eq_1 ?_;(repeat(refine Pn.mk ?_;intro N hN)))|((try apply Or.inl);refine⟨_,j9.x (h) _,?_⟩;refine hN _ _ ?_;clear hN N)))
 exact zM (.inl rfl) (vs:=[.agg (ad p)]) (by simp only[go_sem, ↓reduceIte,Nat.reduceEqDiff,Nat.reduceAdd,Nat.reduceSub,Nat.reduceLeDiff,reduceCtorEq,fu,iz,ad]) (by simp[fc,ad,bf,aj,aq,aH])
theorem JU (p:fw):j9 Tryz.prog 161 [.agg (bG p)] (.agg (bG p)):=by
 refine j9.body eJ rfl fun hl σ=>?_
 clear hl
 (try((repeat(revert hN;revert N;apply Pn.out));refine wk @bG.eq_1 ?_;(repeat(refine Pn.mk ?_;intro N hN))))
 exact zM (.inl rfl) (vs:=[.agg (bG p)]) (by simp only[go_sem, ↓reduceIte,Nat.reduceEqDiff,Nat.reduceAdd,Nat.reduceSub,Nat.reduceLeDiff,reduceCtorEq,fu,iz,bG]) (by simp[fc,bG,bf,aj,aq,aH,bz])
theorem JW (xs:List Int) (h:xs.length<=1048576):j9 Tryz.prog 195 [.sl (xs.map aG)] (.sl (xs.map aG)):=
 RA (show mi Tryz.prog 195=some (JX 195 (.int .i64 0)) by kernel_rfl) xs h
def so (t:eT):Prop:=t.br.length<=1048576
theorem JZ (p:eT) (hs:so p):j9 Tryz.prog 162 [.agg (bp p)] (.agg (bp p)):=by
 refine j9.body eJ rfl fun hl σ=>?_
 clear hl
 have h:=JW p.br hs
 (repeat(first|((repeat(revert hN;revert N;apply Pn.out));refine wk @bp.eq_1 ?_;(repeat(refine Pn.mk ?_;intro N hN)))|((try apply Or.inl);refine⟨_,j9.x (h) _,?_⟩;refine hN _ _ ?_;clear hN N)))
 exact zM (.inl rfl) (vs:=[.agg (bp p)]) (by simp only[go_sem, ↓reduceIte,Nat.reduceEqDiff,Nat.reduceAdd,Nat.reduceSub,Nat.reduceLeDiff,reduceCtorEq,fu,iz,bp]) (by simp[fc,bp,bf,aj,aq,ck,bz])
theorem Ig (xs ys:List Int):ar Tryz.prog 30 [.sl (xs.map aG),.sl (ys.map aG)] (.bool (decide (xs=ys))):=
 Qi (show mi Tryz.prog 30=some (My 30 .tI) by kernel_rfl) xs ys
theorem Ii (a b:eT):ar Tryz.prog 170 [.agg (bp a),.agg (bp b)] (.bool (decide (a=b))):=by
 refine ar.body eJ rfl fun hl n0=>?_
 clear hl
 have h:=Ig a.br b.br
 by_cases h1:a.aE=b.aE
 ·have e1:decide (a.aE=b.aE)=true:=decide_eq_true h1
  by_cases h2:a.br=b.br
  ·rw[decide_eq_true h2]at h
   (repeat(first|((repeat(revert hN;revert N;apply Pn.out));refine wk (tw @bp.eq_1 @e1) ?_;(repeat(refine Pn.mk ?_;intro N hN)))|((try apply Or.inl);refine⟨_,ar.x (h) (sd (tw @bp.eq_1 @e1)),?_⟩;refine hN _ _ ?_;clear hN N)))
   exact aQ (b:=true) (.inl rfl) (sd @Nat.zero_add) (decide_eq_true (by cases a;cases b;simp_all)).symm
  ·rw[decide_eq_false h2]at h
   (repeat(first|((repeat(revert hN;revert N;apply Pn.out));refine wk (tw @bp.eq_1 @e1) ?_;(repeat(refine Pn.mk ?_;intro N hN)))|((try apply Or.inl);refine⟨_,ar.x (h) (sd (tw @bp.eq_1 @e1)),?_⟩;refine hN _ _ ?_;clear hN N)))
   exact aQ (b:=false) (.inl rfl) (sd @Nat.zero_add) (decide_eq_false (by rintro rfl;exact h2 rfl)).symm
 ·have e1:decide (a.aE=b.aE)=false:=decide_eq_false h1
  (try((repeat(revert hN;revert N;apply Pn.out));refine wk (tw @bp.eq_1 @e1) ?_;(repeat(refine Pn.mk ?_;intro N hN))))
  exact aQ (b:=false) (.inl rfl) (sd @Nat.zero_add) (decide_eq_false (by rintro rfl;exact h1 rfl)).symm
theorem He (xs:List fw) (h:xs.length<=1048576):j9 Tryz.prog 102 [.sl (xs.map bG)] (.sl (xs.map bG)):=
 Er (show mi Tryz.prog 102=some (tJ 102 161 2 [.str [],.int .i64 0]) by kernel_rfl) rfl (fun _=>rfl) (fun _=>rfl) LY xs h fun x _=>JU x
theorem Hg (xs:List eT) (h:xs.length<=1048576) (hs:∀t∈xs,so t):j9 Tryz.prog 103 [.sl (xs.map bp)] (.sl (xs.map bp)):=
 Er (show mi Tryz.prog 103=some (tJ 103 162 2 [.str [],.cr]) by kernel_rfl) rfl (fun _=>rfl) (fun _=>rfl) LZ xs h fun x hx=>JZ x (hs x hx)
theorem Cm (xs:List ae) (h:xs.length<=1048576):j9 Tryz.prog 62 [.sl (xs.map ad)] (.sl (xs.map ad)):=
 Er (show mi Tryz.prog 62=some (tJ 62 104 3 [.int .i64 0,.int .i64 0,.int .i64 0]) by kernel_rfl) rfl (fun _=>rfl) (fun _=>rfl) GV xs h fun x _=>Ep x
structure HL (s:aw):Prop where
 g:s.ax.length<=1048576
 t:s.ah.length<=1048576
 s:∀t∈s.ah,so t
structure qS (y:aD):Prop where
 s:HL y.aB
 a:y.cq.ah.length<=1048576
theorem Co (p:aw) (hs:HL p):j9 Tryz.prog 61 [.agg (aa p)] (.agg (aa p)):=by
 refine j9.body eJ rfl fun hl σ=>?_
 clear hl
 have h1:=He p.ax hs.g
 have h2:=Hg p.ah hs.t hs.s
 (repeat(first|((repeat(revert hN;revert N;apply Pn.out));refine wk @aa.eq_1 ?_;(repeat(refine Pn.mk ?_;intro N hN)))|((try apply Or.inl);refine⟨_,j9.x (h1) _,?_⟩;refine hN _ _ ?_;clear hN N)|((try apply Or.inl);refine⟨_,j9.x (h2) _,?_⟩;refine hN _ _ ?_;clear hN N)))
 exact zM (.inl rfl) (vs:=[.agg (aa p)]) (by simp only[go_sem, ↓reduceIte,Nat.reduceEqDiff,Nat.reduceAdd,Nat.reduceSub,Nat.reduceLeDiff,reduceCtorEq,fu,iz,aa]) (by simp[fc,aa,bf,aj,aq,ck])
theorem r7 (p:dK) (hs:p.ah.length<=1048576):j9 Tryz.prog 18 [.agg (aM p)] (.agg (aM p)):=by
 refine j9.body eJ rfl fun hl σ=>?_
 clear hl
 have h1:=Cm p.ah hs
 (repeat(first|((repeat(revert hN;revert N;apply Pn.out));refine wk @aM.eq_1 ?_;(repeat(refine Pn.mk ?_;intro N hN)))|((try apply Or.inl);refine⟨_,j9.x (h1) _,?_⟩;refine hN _ _ ?_;clear hN N)))
 exact zM (.inl rfl) (vs:=[.agg (aM p)]) (by simp only[go_sem, ↓reduceIte,Nat.reduceEqDiff,Nat.reduceAdd,Nat.reduceSub,Nat.reduceLeDiff,reduceCtorEq,fu,iz,aM]) (by simp[fc,aM,bf,aj,aq,ck])
theorem Et (p:aD) (hs:qS p):j9 Tryz.prog 17 [.agg (aC p)] (.agg (aC p)):=by
 refine j9.body eJ rfl fun hl σ=>?_
 clear hl
 have h1:=Co p.aB hs.s
 have h2:=r7 p.cq hs.a
 rw[aa]at h1
 rw[aM]at h2
 (repeat(first|((repeat(revert hN;revert N;apply Pn.out));refine wk @aC.eq_1 ?_;(repeat(refine Pn.mk ?_;intro N hN)))|((try apply Or.inl);refine⟨_,j9.x (h1) _,?_⟩;refine hN _ _ ?_;clear hN N)|((try apply Or.inl);refine⟨_,j9.x (h2) _,?_⟩;refine hN _ _ ?_;clear hN N)))
 exact zM (.inl rfl) (vs:=[.agg (aC p)]) (by simp only[go_sem, ↓reduceIte,Nat.reduceEqDiff,Nat.reduceAdd,Nat.reduceSub,Nat.reduceLeDiff,reduceCtorEq,fu,iz,aC]) (by simp[fc,aC,bf,aj,aq,ck,aH])
theorem Ie (a b:fw):ar Tryz.prog 169 [.agg (bG a),.agg (bG b)] (.bool (decide (a=b))):=by
 refine ar.body eJ rfl fun hl n0=>?_
 clear hl
 by_cases h1:a.aE=b.aE
 ·have e1:decide (a.aE=b.aE)=true:=decide_eq_true h1
  by_cases h2:a.ez=b.ez
  ·have e2:decide (a.ez=b.ez)=true:=decide_eq_true h2
   (try((repeat(revert hN;revert N;apply Pn.out));refine wk (tw @bG.eq_1 (tw @e1 @e2)) ?_;(repeat(refine Pn.mk ?_;intro N hN))))
   exact aQ (b:=true) (.inl rfl) (sd @Nat.zero_add) (decide_eq_true (by cases a;cases b;simp_all)).symm
  ·have e2:decide (a.ez=b.ez)=false:=decide_eq_false h2
   (try((repeat(revert hN;revert N;apply Pn.out));refine wk (tw @bG.eq_1 (tw @e1 @e2)) ?_;(repeat(refine Pn.mk ?_;intro N hN))))
   exact aQ (b:=false) (.inl rfl) (sd @Nat.zero_add) (decide_eq_false (by rintro rfl;exact h2 rfl)).symm
 ·have e1:decide (a.aE=b.aE)=false:=decide_eq_false h1
  (try((repeat(revert hN;revert N;apply Pn.out));refine wk (tw @bG.eq_1 @e1) ?_;(repeat(refine Pn.mk ?_;intro N hN))))
  exact aQ (b:=false) (.inl rfl) (sd @Nat.zero_add) (decide_eq_false (by rintro rfl;exact h1 rfl)).symm
theorem xI (a b:ai):ar Tryz.prog 29 [.agg (ab a),.agg (ab b)] (.bool (decide (a=b))):=by
 refine ar.body eJ rfl fun hl n0=>?_
 clear hl
 by_cases h1:a.eM=b.eM
 ·have e1:decide (a.eM=b.eM)=true:=decide_eq_true h1
  by_cases h2:a.eI=b.eI
  ·have e2:decide (a.eI=b.eI)=true:=decide_eq_true h2
   (try((repeat(revert hN;revert N;apply Pn.out));refine wk (tw @ab.eq_1 (tw @e1 @e2)) ?_;(repeat(refine Pn.mk ?_;intro N hN))))
   exact aQ (b:=true) (.inl rfl) (sd @Nat.zero_add) (decide_eq_true (by cases a;cases b;simp_all)).symm
  ·have e2:decide (a.eI=b.eI)=false:=decide_eq_false h2
   (try((repeat(revert hN;revert N;apply Pn.out));refine wk (tw @ab.eq_1 (tw @e1 @e2)) ?_;(repeat(refine Pn.mk ?_;intro N hN))))
   exact aQ (b:=false) (.inl rfl) (sd @Nat.zero_add) (decide_eq_false (by rintro rfl;exact h2 rfl)).symm
 ·have e1:decide (a.eM=b.eM)=false:=decide_eq_false h1
  (try((repeat(revert hN;revert N;apply Pn.out));refine wk (tw @ab.eq_1 @e1) ?_;(repeat(refine Pn.mk ?_;intro N hN))))
  exact aQ (b:=false) (.inl rfl) (sd @Nat.zero_add) (decide_eq_false (by rintro rfl;exact h1 rfl)).symm
theorem C2 (a b:ae):ar Tryz.prog 110 [.agg (ad a),.agg (ad b)] (.bool (decide (a=b))):=by
 refine ar.body eJ rfl fun hl n0=>?_
 clear hl
 have h:=xI a.bx b.bx
 rw[ab,ab]at h
 by_cases h1:a.bx=b.bx
 ·rw[decide_eq_true h1]at h
  by_cases h2:a.bB=b.bB
  ·have e2:decide (a.bB=b.bB)=true:=decide_eq_true h2
   (repeat(first|((repeat(revert hN;revert N;apply Pn.out));refine wk (tw @ad.eq_1 @e2) ?_;(repeat(refine Pn.mk ?_;intro N hN)))|((try apply Or.inl);refine⟨_,ar.x (h) (sd (tw @ad.eq_1 @e2)),?_⟩;refine hN _ _ ?_;clear hN N)))
   exact aQ (b:=true) (.inl rfl) (sd @Nat.zero_add) (decide_eq_true (by cases a;cases b;simp_all)).symm
  ·have e2:decide (a.bB=b.bB)=false:=decide_eq_false h2
   (repeat(first|((repeat(revert hN;revert N;apply Pn.out));refine wk (tw @ad.eq_1 @e2) ?_;(repeat(refine Pn.mk ?_;intro N hN)))|((try apply Or.inl);refine⟨_,ar.x (h) (sd (tw @ad.eq_1 @e2)),?_⟩;refine hN _ _ ?_;clear hN N)))
   exact aQ (b:=false) (.inl rfl) (sd @Nat.zero_add) (decide_eq_false (by rintro rfl;exact h2 rfl)).symm
 ·rw[decide_eq_false h1]at h
  (repeat(first|((repeat(revert hN;revert N;apply Pn.out));refine wk @ad.eq_1 ?_;(repeat(refine Pn.mk ?_;intro N hN)))|((try apply Or.inl);refine⟨_,ar.x (h) (sd @ad.eq_1),?_⟩;refine hN _ _ ?_;clear hN N)))
  exact aQ (b:=false) (.inl rfl) (sd @Nat.zero_add) (decide_eq_false (by rintro rfl;exact h1 rfl)).symm
theorem F3 (xs ys:List fw):ar Tryz.prog 108 [.sl (xs.map bG),.sl (ys.map bG)] (.bool (decide (xs=ys))):=
 yY (show mi Tryz.prog 108=some (AR 108 169 2) by kernel_rfl) (fun _=>rfl) A5 xs ys Ie
theorem F4 (xs ys:List eT):ar Tryz.prog 109 [.sl (xs.map bp),.sl (ys.map bp)] (.bool (decide (xs=ys))):=
 yY (show mi Tryz.prog 109=some (AR 109 170 2) by kernel_rfl) (fun _=>rfl) A6 xs ys Ii
theorem te (xs ys:List ae):ar Tryz.prog 66 [.sl (xs.map ad),.sl (ys.map ad)] (.bool (decide (xs=ys))):=
 yY (show mi Tryz.prog 66=some (AR 66 110 3) by kernel_rfl) (fun _=>rfl) ve xs ys C2
theorem C3 (a:aD):ar Tryz.prog 20 [.agg (aC a),.agg (aC a)] (.bool true):=by
 have q1:ar Tryz.prog 65 [.agg (aa a.aB),.agg (aa a.aB)] (.bool true):=by
  refine ar.body eJ rfl fun hl n0=>?_
  clear hl
  have h1:=F3 a.aB.ax a.aB.ax
  have h2:=F4 a.aB.ah a.aB.ah
  rw[decide_eq_true rfl]at h1 h2
  (repeat(first|((repeat(revert hN;revert N;apply Pn.out));refine wk @aa.eq_1 ?_;(repeat(refine Pn.mk ?_;intro N hN)))|((try apply Or.inl);refine⟨_,ar.x (h1) (sd @aa.eq_1),?_⟩;refine hN _ _ ?_;clear hN N)|((try apply Or.inl);refine⟨_,ar.x (h2) (sd @aa.eq_1),?_⟩;refine hN _ _ ?_;clear hN N)))
  exact aQ (b:=true) (.inl rfl) (sd @Nat.zero_add) rfl
 have q2:ar Tryz.prog 21 [.agg (aM a.cq),.agg (aM a.cq)] (.bool true):=by
  refine ar.body eJ rfl fun hl n0=>?_
  clear hl
  have h1:=te a.cq.ah a.cq.ah
  rw[decide_eq_true rfl]at h1
  (repeat(first|((repeat(revert hN;revert N;apply Pn.out));refine wk @aM.eq_1 ?_;(repeat(refine Pn.mk ?_;intro N hN)))|((try apply Or.inl);refine⟨_,ar.x (h1) (sd @aM.eq_1),?_⟩;refine hN _ _ ?_;clear hN N)))
  exact aQ (b:=true) (.inl rfl) (sd @Nat.zero_add) rfl
 rw[aa]at q1
 rw[aM]at q2
 refine ar.body eJ rfl fun hl n0=>?_
 clear hl
 have e:decide (a.ay=a.ay)=true:=decide_eq_true rfl
 (repeat(first|((repeat(revert hN;revert N;apply Pn.out));refine wk (tw @aC.eq_1 @e) ?_;(repeat(refine Pn.mk ?_;intro N hN)))|((try apply Or.inl);refine⟨_,ar.x (q1) (sd (tw @aC.eq_1 @e)),?_⟩;refine hN _ _ ?_;clear hN N)|((try apply Or.inl);refine⟨_,ar.x (q2) (sd (tw @aC.eq_1 @e)),?_⟩;refine hN _ _ ?_;clear hN N)))
 exact aQ (b:=true) (.inl rfl) (sd @Nat.zero_add) rfl
end Go.Proofs.YtgoelphibofcmaaGreat.V

namespace Go.Proofs.YtgoelphibofcmaaGreat.V
open Go.RowKit
def isApp:gn->Bool
 | .append .. =>true
 |_=>false
variable {P:Program} {X:fA} {K:Env->au->Prop} {env:Env} {σ:au}
theorem M7 {draw:Bool} {o:bq} {r:List bq} (_:isApp o.op=false) (h:∀N:AV->au->Prop,(∀v s,wpOps X draw r K (upd env o.dst v) s->N v s)->if aJ o.guard env then fM X draw o env σ N else N .undef σ):wpOps X draw (o::r) K env σ:=O5 h
end Go.Proofs.YtgoelphibofcmaaGreat.V

namespace Go.Proofs.YtgoelphibofcmaaGreat.V
open Go.RowKit
section
variable {α:Type} {enc:α->List AV} {sz:Nat} {g g':Rows} {a:AV} {xs:List α} {ids:List Id}
end
abbrev Ct (α:Type):=Rows->List AV->α->List Id->Prop
structure wW {α:Type} (R:Ct α) (sz:Nat):Prop where
 frame:∀{g g':Rows} {cs x ids},R g cs x ids->(∀i∈ids,g' i=g i)->R g' cs x ids
 len:∀{g cs x ids},R g cs x ids->cs.length=sz
 cell:∀{g cs x ids},R g cs x ids->cs.all AV.cell=true
 live:∀{g cs x ids},R g cs x ids->∀i∈ids,∃r,g i=some r/\r.w=true/\r.sz<rN
 small:sz<rN
inductive eE {α:Type} (R:Ct α) (g:Rows):List (List AV)->List α->List Id->Prop
 |nil:eE R g [] [] []
 |cons {cs x i1 rs xs i2}:R g cs x i1->eE R g rs xs i2->eE R g (cs::rs) (x::xs) (i1++i2)
section
variable {α:Type} {R:Ct α} {sz:Nat} {g g':Rows} {rows r1 r2:List (List AV)} {xs x1 x2:List α} {ids i1 i2:List Id}
theorem eE.len (h:eE R g rows xs ids):rows.length=xs.length:=by
 induction h with
 |nil=>rfl
 |cons _ _ ih=>simp[ih]
theorem eE.frame (ok:wW R sz) (h:eE R g rows xs ids) (hf:∀i∈ids,g' i=g i):eE R g' rows xs ids:=by
 induction h with
 |nil=>exact .nil
 |cons h1 _ ih=>exact .cons (ok.frame h1 fun i hi=>hf i (List.mem_append_left _ hi)) (ih fun i hi=>hf i (List.mem_append_right _ hi))
theorem eE.app (h1:eE R g r1 x1 i1) (h2:eE R g r2 x2 i2):eE R g (r1++r2) (x1++x2) (i1++i2):=by
 induction h1 with
 |nil=>exact h2
 |cons h _ ih=>rw[List.append_assoc];exact .cons h ih
theorem eE.one {cs:List AV} {x:α} (h:R g cs x ids):eE R g [cs] [x] ids:=by
 have:=eE.cons h eE.nil
 rwa [List.append_nil]at this
theorem eE.split (h:eE R g rows xs ids):∀k (hk:k<xs.length),∃r1 cs r2 i1 ic i2,rows=r1++cs::r2/\r1.length=k/\ids=i1++(ic++i2)/\eE R g r1 (xs.take k) i1/\R g cs xs[k] ic/\eE R g r2 (xs.drop (k+1)) i2:=by
 induction h with
 |nil=>intro k hk;simp at hk
 |cons h1 h2 ih=>
  rename_i cs x j1 rs xs j2
  intro k hk
  cases k with
  |zero=>exact⟨[],cs,rs,[],j1,j2,rfl,rfl,rfl,.nil,h1,h2⟩
  |succ k=>
   obtain⟨r1,pQ,r2,i1,ic,i2,rfl,hl,rfl,h3,h4,h5⟩:=ih k (by simpa using hk)
   exact⟨cs::r1,pQ,r2,j1++i1,ic,i2,rfl,by simp[hl],by rw[List.append_assoc],.cons h1 h3,h4,h5⟩
theorem eE.at_ (h:eE R g rows xs ids) (k:Nat) (hk:k<xs.length):∃cs ic,rows[k]? =some cs/\R g cs xs[k] ic/\∀i∈ic,i∈ids:=by
 obtain⟨r1,cs,r2,i1,ic,i2,rfl,hl,rfl,h3,h4,h5⟩:=h.split k hk
 refine⟨cs,ic,by rw[List.getElem?_append_right (by omega)];simp[hl],h4,fun i hi=>by simp[hi]⟩
theorem eE.fz {n:Nat} {e:α->List AV} (h:eE R g rows xs ids) (hz:∀{cs x ids},R g cs x ids->cK (dM g) n cs=some (e x)):dY (dM g) n rows=some (xs.map e):=by
 induction h with
 |nil=>rw[dY];rfl
 |cons h1 _ ih=>rw[dY,hz h1,ih];rfl
end
section
variable {α:Type} {R:Ct α} {sz:Nat} {g g':Rows} {a:AV} {xs:List α} {ids:List Id}
end
end Go.Proofs.YtgoelphibofcmaaGreat.V
