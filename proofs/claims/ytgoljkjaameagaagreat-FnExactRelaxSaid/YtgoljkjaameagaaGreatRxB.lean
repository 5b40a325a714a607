/- One operation, calls among them. -/
import Derived.Test.YtgoljkjaameagaaGreatRxA
import Derived.Orders
import Derived.Conc.LoneCalls
import Derived.WalkKit
import Derived.WalkSpells
import Derived.WalkLawsBesides
import Derived.Lib.Hide
import Derived.Deep.QuietTactic
import Derived.BigQuiet
import Derived.StillTailTactics
import Derived.Deep.RegionWith
import Derived.Deep.RegionHeld3
import Derived.Deep.LoopGhost
import Derived.Deep.CutRange
import Derived.Deep.DeepCutAuto
import Derived.Test.YtgoljkjaameagaaGreatChecked
set_option linter.unusedVariables false
set_option linter.unusedSimpArgs false
set_option maxRecDepth 100000
set_option maxHeartbeats 16000000
namespace Go.Proofs.YtgoljkjaameagaaGreat.V
open Go.RowKit
variable {P:Program} {w w':World} {D D' D2:Nat->Prop} {ι ι' ι2:Names}
def Sound (P:Program):fy:=fun f args σ K=>∀(hs:Nat) (D:Nat->Prop) (ι:Names) (w:World) (vs:Array Value),gp P hs D ι σ.get w->Used ι σ.next (fun _=>False)->eZ P w D ι args vs->
 Calls P f vs w fun e w'=>∃r g' n' D' ι' u,e=.returned u/\K r ⟨g',n'⟩/\Step hs D ι w D' ι' w'/\gp P hs D' ι' g' w'/\Used ι' n' (fun _=>False)/\σ.next<=n'/\cV P w' D' ι' r u
section
variable {g:Rows} {hs:Nat} {env:Env} {a:Act} {o:Oper} {id:Id} {v:AV}
theorem gp.ro (S:gp P hs D ι g w):gp P w.heap.size D ι (ro g) w:=by
 refine⟨Nat.le_refl _,S.dead,fun id r h=>?_,fun id ki r r' B B' h h' hw=>?_⟩
 ·unfold V.ro at h
  simp only[Option.map_eq_some_iff]at h
  obtain⟨r0,h0,rfl⟩:=h
  obtain⟨B,hB,R,_,_⟩:=S.row id r0 h0
  exact⟨B,hB,R.flag false,fun h=>by simp at h,fun h=>by simp at h⟩
 ·unfold V.ro at h
  simp only[Option.map_eq_some_iff]at h
  obtain⟨r0,h0,rfl⟩:=h
  simp at hw
theorem zA {g0:Rows} {f:Nat} {args:List AV} {n:Nat} {K:AV->Prop} {vs:Array Value} (h:PC (Sound P) f args ⟨g0,n⟩ K) (nR:∀id r,g0 id=some r->g id=some r) (S:gp P hs D ι g w) (U:Used ι n (fun _=>False)) (A:eZ P w D ι args vs):
  Calls P f vs w fun e w'=>∃r D' u,e=.returned u/\K r/\Step hs D ι w D' ι w'/\gp P hs D' ι g w'/\cV P w' D' ι r u:=by
 refine(h w.heap.size D ι w vs (S.sub nR).ro U A).mono ?_
 rintro e w' ⟨r0,g',n',D1,ι1,u,rfl,⟨r,hr,hK⟩,T,S1,_,_,hR⟩
 have hb:∀b,b<w.heap.size->w'.heap[b]? =w.heap[b]? :=T.below.block
 have hz:=T.below.size
 have q:=qj (D2:=fun b=>D b∨(w.heap.size<=b/\b<w'.heap.size)) (ι2:=ι) (fun b hd=>by
  rcases T.new b hd with h|h
  ·exact .inl h
  ·exact .inr ⟨h,S1.dead b hd⟩) (fun id row hg hw=>by
  obtain⟨B,hB,R,h1,_⟩:=S1.row id row hg
  exact⟨B,hB,R,.inr ⟨h1 hw,R.lt⟩⟩) 6 r0 u r hR hr
 refine⟨r,_,u,rfl,hK,?_,?_,q.1⟩
 ·exact Step.stay S hb hz T.below.os T.below.tape T.below.output (fun _ h=>.inl h) (fun b h=>by rcases h with h|h;exact .inl h;exact .inr h.1) (fun _ _ h=>h)
 ·exact S.stay hb hz (fun _ h=>.inl h) (fun b h=>by rcases h with h|h;exact Nat.lt_of_lt_of_le (S.dead b h) hz;exact h.2) (fun b h=>by rcases h with h|h;exact .inl h;exact .inr h.1) (fun _ _ h=>h)
theorem wD {g0:Rows} {f:Nat} {args:List AV} {n:Nat} {K:AV->Prop} {vs:Array Value} (h:PCv (Sound P) f args ⟨g0,n⟩ K) (nR:∀id r,g0 id=some r->g id=some r) (S:gp P hs D ι g w) (U:Used ι n (fun _=>False)) (A:eZ P w D ι args vs):
  Calls P f vs w fun e w'=>∃r D' u,e=.returned u/\K r/\Step hs D ι w D' ι w'/\gp P hs D' ι g w'/\cV P w' D' ι r u:=by
 obtain⟨eD,ha,h⟩:=h
 let D1:Nat->Prop:=fun b=>D b∨∃id r B,g id=some r/\ι id=some B/\b=B.b
 have lt:∀id r B,g id=some r->ι id=some B->B.b<w.heap.size:=fun id r B h1 h2=>by
  obtain⟨B',dJ,R,_⟩:=S.row id r h1
  rw[h2]at dJ;injection dJ with dJ;subst dJ
  exact R.lt
 have S0:gp P w.heap.size D1 ι (fun _=>none) w:=⟨Nat.le_refl _,fun b hb=>by
  rcases hb with hb|⟨id,r,B,h1,h2,rfl⟩
  ·exact S.dead b hb
  ·exact lt id r B h1 h2,fun id r h=>(by cases h),fun id ki r r' B B' h=>(by cases h)⟩
 obtain⟨l1,l2⟩:=gj ha
 have A':eZ P w D1 ι eD vs:=⟨by rw[A.1,l1],fun j a hj=>by
  obtain⟨a0,kI,hf⟩:=l2 j a hj
  obtain⟨u,hu,hr⟩:=A.2 j a0 kI
  refine⟨u,hu,(qj (D2:=D1) (ι2:=ι) (fun b h=>.inl h) (fun id row hg hw=>?_) 6 a0 u a hr hf).1⟩
  unfold dd at hg
  simp only[Option.map_eq_some_iff]at hg
  obtain⟨r,np,rfl⟩:=hg
  obtain⟨B,hB,R,_,_⟩:=S.row id r (nR id r np)
  exact⟨B,hB,R.flag true,.inr ⟨id,r,B,nR id r np,hB,rfl⟩⟩⟩
 refine(h w.heap.size D1 ι w vs S0 U A').mono ?_
 rintro e w' ⟨r0,g',n',D2,ι1,u,rfl,⟨r,hr,hK⟩,T,S1,_,_,hR⟩
 have hb:∀b,b<w.heap.size->w'.heap[b]? =w.heap[b]? :=T.below.block
 have hz:=T.below.size
 have q:=Fc (D2:=fun b=>D b∨(w.heap.size<=b/\b<w'.heap.size)) (ι2:=ι) (fun id row hg hw=>by
  obtain⟨B,hB,R,h1,_⟩:=S1.row id row hg
  exact⟨B,hB,R,.inr ⟨h1 hw,R.lt⟩⟩) 6 r0 u r hR hr
 refine⟨r,_,u,rfl,hK,?_,?_,q.1⟩
 ·exact Step.stay S hb hz T.below.os T.below.tape T.below.output (fun _ h=>.inl h) (fun b h=>by rcases h with h|h;exact .inl h;exact .inr h.1) (fun _ _ h=>h)
 ·exact S.stay hb hz (fun _ h=>.inl h) (fun b h=>by rcases h with h|h;exact Nat.lt_of_lt_of_le (S.dead b h) hz;exact h.2) (fun b h=>by rcases h with h|h;exact .inl h;exact .inr h.1) (fun _ _ h=>h)
theorem EK {g0:Rows} {f:Nat} {args:List AV} {n:Nat} {K:AV->Prop} {vs:Array Value} (h:fu (Sound P) f args ⟨g0,n⟩ K) (nR:∀id r,g0 id=some r->g id=some r) (S:gp P hs D ι g w) (U:Used ι n (fun _=>False)) (A:eZ P w D ι args vs):
  Calls P f vs w fun e w'=>∃r D' u,e=.returned u/\K r/\Step hs D ι w D' ι w'/\gp P hs D' ι g w'/\cV P w' D' ι r u:=by
 rcases h with h|h
 ·exact zA h nR S U A
 ·exact wD h nR S U A
theorem F5 {D1 D2:Nat->Prop} {ι1 ι2:Names} {w1:World} {a:AV} {v:Value} (hp:a.plain=true) (h:cV P w D1 ι1 a v):cV P w1 D2 ι2 a v:=by
 cases h with
 |eH a v h=>cases h<;>first|(simp[AV.plain]at hp;done)|exact .eH _ _ (by constructor)
 |_=>simp[AV.plain]at hp
theorem gp.add {r:Row} {B:r9} (S:gp P hs D ι g w) (S':gp P hs D ι g w') (hf:ι id=none) (iv:w.heap.size<=B.b) (R:iq P w' D (kF ι id B) B r):gp P hs D (kF ι id B) (bH g id r) w':=by
 have lt:∀ki r' B',g ki=some r'->ι ki=some B'->B'.b<w.heap.size:=fun ki r' B' h1 h2=>by
  obtain⟨B2,oU,R2,_⟩:=S.row ki r' h1
  rw[h2]at oU;injection oU with oU;subst oU
  exact R2.lt
 have ne:∀ki r',g ki=some r'->ki≠id:=fun ki r' h he=>by
  subst he
  obtain⟨B2,oU,_⟩:=S.row _ r' h
  rw[hf]at oU;cases oU
 refine⟨S'.lo,S'.dead,fun ki r' h=>?_,fun QB id2 r1 r2 B1 B2 h1 h2 hw zt oU hb=>?_⟩
 ·unfold bH at h
  split at h
  ·rename_i he
   subst he
   injection h with h;subst h
   exact⟨B,ep _ _ _,R,fun _=>Nat.le_trans S.lo iv,fun _ hd=>Nat.lt_irrefl _ (Nat.lt_of_lt_of_le (S.dead _ hd) iv)⟩
  ·obtain⟨B',dJ,R',k1,k2⟩:=S'.row ki r' h
   exact⟨B',by rw[fY (ne _ _ h)];exact dJ,R'.frame rfl (fun a v hr=>hr.frame (fun _ _=>rfl) (fun _ h=>h) (fZ hf)),k1,k2⟩
 ·unfold bH at h1 h2
  split at h1
  ·rename_i e1
   split at h2
   ·rename_i e2;rw[e1,e2]
   ·exfalso
    subst e1
    rw[ep]at zt;injection zt with zt;subst zt
    rw[fY (ne _ _ h2)]at oU
    have:=lt _ _ _ h2 oU
    omega
  ·rw[fY (ne _ _ h1)]at zt
   split at h2
   ·rename_i e2
    exfalso
    subst e2
    rw[ep]at oU;injection oU with oU;subst oU
    have:=lt _ _ _ h1 zt
    omega
   ·rw[fY (ne _ _ h2)]at oU
    exact S'.inj QB id2 r1 r2 B1 B2 h1 h2 hw zt oU hb
theorem GH {g0:Rows} {f:Nat} {args:List AV} {n sz:Nat} {rows:List (List AV)} {vs:Array Value} (h:CM (Sound P) f args ⟨g0,n⟩ sz rows) (nR:∀id r,g0 id=some r->g id=some r) (S:gp P hs D ι g w) (U:Used ι n (fun _=>False)) (A:eZ P w D ι args vs) (hf:ι id=none):
  Calls P f vs w fun e w'=>∃u B,e=.returned u/\Step hs D ι w D (kF ι id B) w'/\gp P hs D (kF ι id B) (bH g id ⟨true,sz,rows⟩) w'/\cV P w' D (kF ι id B) (.own id 0 rows.length) u:=by
 obtain⟨mZ,eD,ha,h⟩:=h
 let D1:Nat->Prop:=fun b=>D b∨∃id r B,g id=some r/\ι id=some B/\b=B.b
 have lt:∀id r B,g id=some r->ι id=some B->B.b<w.heap.size:=fun id r B h1 h2=>by
  obtain⟨B',dJ,R,_⟩:=S.row id r h1
  rw[h2]at dJ;injection dJ with dJ;subst dJ
  exact R.lt
 have S0:gp P w.heap.size D1 ι (fun _=>none) w:=⟨Nat.le_refl _,fun b hb=>by
  rcases hb with hb|⟨id,r,B,h1,h2,rfl⟩
  ·exact S.dead b hb
  ·exact lt id r B h1 h2,fun id r h=>(by cases h),fun id ki r r' B B' h=>(by cases h)⟩
 obtain⟨l1,l2⟩:=gj ha
 have A':eZ P w D1 ι eD vs:=⟨by rw[A.1,l1],fun j a hj=>by
  obtain⟨a0,kI,hz⟩:=l2 j a hj
  obtain⟨u,hu,hr⟩:=A.2 j a0 kI
  refine⟨u,hu,(qj (D2:=D1) (ι2:=ι) (fun b h=>.inl h) (fun id row hg hw=>?_) 6 a0 u a hr hz).1⟩
  unfold dd at hg
  simp only[Option.map_eq_some_iff]at hg
  obtain⟨r,np,rfl⟩:=hg
  obtain⟨B,hB,R,_,_⟩:=S.row id r (nR id r np)
  exact⟨B,hB,R.flag true,.inr ⟨id,r,B,nR id r np,hB,rfl⟩⟩⟩
 refine(h w.heap.size D1 ι w vs S0 U A').mono ?_
 rintro e w' ⟨r0,g',n',D2,ι1,u,rfl,⟨i0,hr,hg⟩,T,S1,_,_,hR⟩
 subst hr
 have hb:∀b,b<w.heap.size->w'.heap[b]? =w.heap[b]? :=T.below.block
 have hz:=T.below.size
 obtain⟨B,hB,R,k1,_⟩:=S1.row i0 _ hg
 have iv:w.heap.size<=B.b:=k1 rfl
 obtain⟨o,cap,B',rfl,dJ,q2,q3,q4,q5,hk⟩:=iC hR
 rw[hB]at dJ;injection dJ with dJ;subst dJ
 replace R:=R.row hk
 have S':gp P hs D ι g w':=S.stay hb hz (fun _ h=>h) (fun b h=>Nat.lt_of_lt_of_le (S.dead b h) hz) (fun b h=>.inl h) (fun _ _ h=>h)
 have R':kT P w' D (kF ι id B) B ⟨true,sz,rows⟩:=⟨R.sz,R.wL,R.fits,R.len,R.flat,fun i j cs a hi hj=>by
  obtain⟨v,h1,h2⟩:=R.at_ i j cs a hi hj
  exact⟨v,h1,F5 (mZ cs (List.mem_of_getElem? hi) a (List.mem_of_getElem? hj)) h2⟩⟩
 exact⟨_,B,rfl,Step.stay S hb hz T.below.os T.below.tape T.below.output (fun _ h=>h) (fun _ h=>.inl h) (fZ hf),S.add S' hf iv (R'.obj hk),.own id 0 _ _ _ B (ep _ _ _) hk q2 q3 q4 q5⟩
theorem jg {f:Nat} {args:Array Value} (hc:fD P f=true):(callFunc f args).run P w=.ok (.enter f args) w:=by
 unfold fD at hc
 split at hc
 ·rename_i fn hf
  simp only[Bool.and_eq_true,Bool.not_eq_true']at hc
  have hb:fn.body.isNone=false:=by cases hq:fn.body<;>simp_all
  simp only[callFunc,Sem.run_bind,run_program,Result.andThen_ok,hf,hc.2,Bool.false_eq_true,if_false,hb]
  rfl
 ·simp at hc
theorem AD {f:Nat} {args:List O} (hc:pS P o.op=some (.call f args)):∃c,o.op=.call c/\c.callee=.value (.func f)/\fD P f=true/\c.args.toList.mapM (cO P)=some args:=by
 unfold pS at hc
 split at hc
 case h_23=>
  rename_i c ho
  refine⟨c,ho,?_⟩
  unfold mK at hc
  split at hc
  all_goals (try(repeat' (split at hc))<;>(simp only[Option.bind_eq_bind,Option.bind_eq_some_iff,Option.pure_def,Option.some.injEq,Option.map_eq_some_iff,reduceCtorEq,and_false,exists_false]at hc))
  all_goals simp_all
 all_goals (try unfold tV at hc)<;>(try unfold rf at hc)<;>(repeat' (split at hc))<;>(simp only[Option.bind_eq_bind,Option.bind_eq_some_iff,Option.pure_def,Option.some.injEq,Option.map_eq_some_iff,reduceCtorEq,and_false,exists_false]at hc)
theorem rO {x:O} {args:List O} (hc:pS P o.op=some (.sj x args)):∃c t,o.op=.call c/\c.callee=.value (.tmp t)/\x=.t t/\c.args.toList.mapM (cO P)=some args:=by
 unfold pS at hc
 split at hc
 case h_23=>
  rename_i c ho
  refine⟨c,?_⟩
  unfold mK at hc
  split at hc
  all_goals (try(repeat' (split at hc))<;>(simp only[Option.bind_eq_bind,Option.bind_eq_some_iff,Option.pure_def,Option.some.injEq,Option.map_eq_some_iff,reduceCtorEq,and_false,exists_false]at hc))
  all_goals simp_all
 all_goals (try unfold tV at hc)<;>(try unfold rf at hc)<;>(repeat' (split at hc))<;>(simp only[Option.bind_eq_bind,Option.bind_eq_some_iff,Option.pure_def,Option.some.injEq,Option.map_eq_some_iff,reduceCtorEq,and_false,exists_false]at hc)
theorem FD {n:Nat} {x y:O} (hc:pS P o.op=some (.store n x y)):∃t x' y',o.op=.store t x' y'/\dW P t=some n/\cO P x'=some x/\cO P y'=some y:=by
 unfold pS at hc
 split at hc
 case h_7=>
  rename_i t x' y' ho
  refine⟨t,x',y',ho,?_⟩
  simp only[Option.bind_eq_bind,Option.bind_eq_some_iff,Option.pure_def,Option.some.injEq]at hc
  obtain⟨n',h1,x2,h2,y2,h3,he⟩:=hc
  injection he with e1 e2 e3
  subst e1;subst e2;subst e3
  exact⟨h1,h2,h3⟩
 all_goals (try unfold tV at hc)<;>(try unfold rf at hc)<;>(try unfold mK at hc)<;>(repeat' (split at hc))<;>(simp only[Option.bind_eq_bind,Option.bind_eq_some_iff,Option.pure_def,Option.some.injEq,Option.map_eq_some_iff,reduceCtorEq,and_false,exists_false]at hc)
theorem CN {n:Nat} {x y:O} (hc:pS P o.op=some (.append n x y)):∃(t e:TypeId) (m:Nat) (z:List K) (i:TypeInfo) (x' y':Operand),n=m+1/\o.op=.call {callee:=.builtin .append,args:= #[x',y'],argTypes:= #[t,t]}/\
  P.underlying t=some (.slice e)/\dW P e=some (m+1)/\jq P e=some z/\P.info? e=some i/\i.bytes<=32768/\cO P x'=some x/\cO P y'=some y:=by
 unfold pS at hc
 split at hc
 case h_23=>
  rename_i c ho
  unfold mK at hc
  split at hc
  case h_2=>
   rename_i j6
   split at hc
   ·rename_i x' y' t u h1 h2
    split at hc
    ·rename_i e ht
     split at hc
     ·rename_i m z i e1 e2 e3
      split at hc
      ·rename_i hb
       simp only[Option.bind_eq_bind,Option.bind_eq_some_iff,Option.pure_def,Option.some.injEq]at hc
       obtain⟨x2,h3,y2,h4,he⟩:=hc
       injection he with k1 k2 k3
       subst k1;subst k2;subst k3
       obtain⟨Gy,rfl⟩:=hb
       refine⟨t,e,m,z,i,x',y',rfl,?_,ht,e1,e2,e3,Gy,h3,h4⟩
       rw[ho]
       obtain⟨ca,cb,cc⟩:=c
       simp only at h1 h2 j6
       subst j6
       congr
       ·exact Array.ext' h1
       ·exact Array.ext' h2
      ·simp at hc
     ·simp at hc
    ·simp at hc
   ·simp at hc
  all_goals (repeat' (split at hc))<;>(simp only[Option.bind_eq_bind,Option.bind_eq_some_iff,Option.pure_def,Option.some.injEq,Option.map_eq_some_iff,reduceCtorEq,and_false,exists_false]at hc)
 all_goals (try unfold tV at hc)<;>(try unfold rf at hc)<;>(repeat' (split at hc))<;>(simp only[Option.bind_eq_bind,Option.bind_eq_some_iff,Option.pure_def,Option.some.injEq,Option.map_eq_some_iff,reduceCtorEq,and_false,exists_false]at hc)
theorem HW {n:Nat} {x y:O} (hc:pS P o.op=some (.copy n x y)):∃(t t2 e:TypeId) (m:Nat) (x' y':Operand),n=m+1/\o.op=.call {callee:=.builtin .copy,args:= #[x',y'],argTypes:= #[t,t2]}/\
  P.underlying t=some (.slice e)/\dW P e=some (m+1)/\cO P x'=some x/\cO P y'=some y:=by
 unfold pS at hc
 split at hc
 case h_23=>
  rename_i c ho
  unfold mK at hc
  split at hc
  case h_7=>
   rename_i j6
   split at hc
   ·rename_i x' y' t t2 h1 h2
    split at hc
    ·rename_i e ht
     split at hc
     ·rename_i m e1
      simp only[Option.bind_eq_bind,Option.bind_eq_some_iff,Option.pure_def,Option.some.injEq,gh.copy.injEq]at hc
      obtain⟨x2,h3,y2,h4,k0,k1,k2⟩:=hc
      subst k1;subst k2
      refine⟨t,t2,e,m,x',y',k0.symm,?_,ht,e1,h3,h4⟩
      rw[ho]
      obtain⟨ca,cb,cc⟩:=c
      simp only at h1 h2 j6
      subst j6
      congr
      ·exact Array.ext' h1
      ·exact Array.ext' h2
     ·simp at hc
    ·simp at hc
   ·simp at hc
  all_goals (repeat' (split at hc))<;>(simp only[Option.bind_eq_bind,Option.bind_eq_some_iff,Option.pure_def,Option.some.injEq,Option.map_eq_some_iff,reduceCtorEq,and_false,exists_false]at hc)
 all_goals (try unfold tV at hc)<;>(try unfold rf at hc)<;>(repeat' (split at hc))<;>(simp only[Option.bind_eq_bind,Option.bind_eq_some_iff,Option.pure_def,Option.some.injEq,Option.map_eq_some_iff,reduceCtorEq,and_false,exists_false]at hc)
theorem FC {z:List K} {x:O} (hc:pS P o.op=some (.clear z x)):∃(t e:TypeId) (m:Nat) (x':Operand),o.op=.call {callee:=.builtin .clear,args:= #[x'],argTypes:= #[t]}/\
  P.underlying t=some (.slice e)/\dW P e=some (m+1)/\jq P e=some z/\cO P x'=some x:=by
 unfold pS at hc
 split at hc
 case h_23=>
  rename_i c ho
  unfold mK at hc
  split at hc
  case h_3=>
   rename_i j6
   split at hc
   ·rename_i x' t h1 h2
    split at hc
    ·rename_i e ht
     split at hc
     ·rename_i m z' e1 e2
      simp only[Option.map_eq_some_iff]at hc
      obtain⟨x2,h3,he⟩:=hc
      injection he with k1 k2
      subst k1;subst k2
      refine⟨t,e,m,x',?_,ht,e1,e2,h3⟩
      rw[ho]
      obtain⟨ca,cb,cc⟩:=c
      simp only at h1 h2 j6
      subst j6
      congr
      ·exact Array.ext' h1
      ·exact Array.ext' h2
     ·simp at hc
    ·simp at hc
   ·simp at hc
  all_goals (repeat' (split at hc))<;>(simp only[Option.bind_eq_bind,Option.bind_eq_some_iff,Option.pure_def,Option.some.injEq,Option.map_eq_some_iff,reduceCtorEq,and_false,exists_false]at hc)
 all_goals (try unfold tV at hc)<;>(try unfold rf at hc)<;>(repeat' (split at hc))<;>(simp only[Option.bind_eq_bind,Option.bind_eq_some_iff,Option.pure_def,Option.some.injEq,Option.map_eq_some_iff,reduceCtorEq,and_false,exists_false]at hc)
theorem NH {q:MW} {xs:List O} (hc:pS P o.op=some (.mw q xs)):
  (∃t x k y m z x' k' y',(o.op=.mapUpdate t x k y∨o.op=.insert t x k y)/\rh P t=some (m,z)/\cO P x=some x'/\cO P k=some k'/\cO P y=some y'/\q=.set m/\xs=[x',k',y'])∨
  (∃t t' x k m z x' k',o.op=.call {callee:=.builtin .delete,args:= #[x,k],argTypes:= #[t,t']}/\rh P t=some (m,z)/\cO P x=some x'/\cO P k=some k'/\q=.del m/\xs=[x',k']):=by
 unfold pS at hc
 split at hc
 case h_23=>
  rename_i c ho
  right
  unfold mK at hc
  split at hc
  case h_6=>
   rename_i j6
   split at hc
   ·rename_i x k t t' h1 h2
    split at hc
    ·rename_i m z x' k' e1 e2 e3
     injection hc with hc
     injection hc with q1 q2
     refine⟨t,t',x,k,m,z,x',k',?_,e1,e2,e3,q1.symm,q2.symm⟩
     rw[ho]
     obtain⟨ca,cb,cc⟩:=c
     simp only at h1 h2 j6
     subst j6
     congr
     ·exact Array.ext' h1
     ·exact Array.ext' h2
    ·cases hc
   ·cases hc
  all_goals (repeat' (split at hc))<;>(simp only[Option.bind_eq_bind,Option.bind_eq_some_iff,Option.pure_def,Option.some.injEq,Option.map_eq_some_iff,reduceCtorEq,and_false,exists_false]at hc)
 case h_29=>
  rename_i t x k y ho
  left
  split at hc
  ·rename_i m z x' k' y' e1 e2 e3 e4
   injection hc with hc
   injection hc with q1 q2
   exact⟨t,x,k,y,m,z,x',k',y',.inl ho,e1,e2,e3,e4,q1.symm,q2.symm⟩
  ·cases hc
 case h_30=>
  rename_i t x k y ho
  left
  split at hc
  ·rename_i m z x' k' y' e1 e2 e3 e4
   injection hc with hc
   injection hc with q1 q2
   exact⟨t,x,k,y,m,z,x',k',y',.inr ho,e1,e2,e3,e4,q1.symm,q2.symm⟩
  ·cases hc
 all_goals (try unfold tV at hc)<;>(try unfold rf at hc)<;>(repeat' (split at hc))<;>(simp only[Option.bind_eq_bind,Option.bind_eq_some_iff,Option.pure_def,Option.some.injEq,Option.map_eq_some_iff,reduceCtorEq,and_false,exists_false]at hc)
def iR (g:Rows) (id:Id):Option Row->Rows
 |some r=>bH g id r
 |none=>g
def tX (X:fy) (hid:List Nat) (site n:Nat) (f:Nat) (args:List AV) (g:Rows) (v:AV) (g':Rows):Prop:=
 (fu X f args ⟨eW hid n g,n+1⟩ (fun r=>r=v)/\g'=g)∨
 (hid.contains site=true/\∃sz rows,CM X f args ⟨eW hid n g,n+1⟩ sz rows/\v=.own ⟨site,n⟩ 0 rows.length/\g'=bH g ⟨site,n⟩ ⟨true,sz,rows⟩)
def VS (X:fy) (n:Nat) (vo:bz) (env:Env) (g:Rows) (v:AV) (g':Rows):Prop:=
 match vo.op with
 | .call f args=>tX X vo.hid vo.site n f (args.map (cJ env)) g v g'
 | .sj x args=>∃f l,tW (cJ env x) (args.map (cJ env))=some (f,l)/\tX X vo.hid vo.site n f l g v g'
 | .store .. | .append .. | .copy .. | .clear .. | .mw .. =>eY vo.op (cJ env) g ⟨vo.site,n⟩=some (v,g')
 |_=>∃mr,ec vo.op (cJ env) (eW vo.hid n g) ⟨vo.site,n⟩=some (v,mr)/\g'=iR g ⟨vo.site,n⟩ mr
def Li (P:Program) (hs:Nat) (D:Nat->Prop) (ι:Names) (w:World) (U:Nat->Prop) (site n:Nat) (a:Act) (dst:Option Tmp) (v:AV) (g':Rows) (a':Act) (w':World):Prop:=
 ∃u D' ι',a'=a.put dst u/\Step hs D ι w D' ι' w'/\gp P hs D' ι' g' w'/\cV P w' D' ι' v u/\Used ι' n (fun s=>U s∨s=site)
theorem fresh {n:Nat} {U:Nat->Prop} {s:Nat} (h:Used ι n U) (hU:¬U s):ι ⟨s,n⟩=none:=by
 cases hq:ι ⟨s,n⟩with
 |none=>rfl
 |some B=>
  rcases h ⟨s,n⟩ (by rw[hq];simp)with h|⟨_,h⟩
  ·exact absurd h (Nat.lt_irrefl _)
  ·exact absurd h hU
theorem Used.more {n:Nat} {U U':Nat->Prop} (h:Used ι n U) (hU:∀s,U s->U' s):Used ι n U':=fun id hid=>by
 rcases h id hid with h|⟨h1,h2⟩
 ·exact .inl h
 ·exact .inr ⟨h1,hU _ h2⟩
theorem Used.next {n:Nat} {U:Nat->Prop} (h:Used ι n U):Used ι (n+1) (fun _=>False):=fun id hid=>by
 rcases h id hid with h|⟨h1,_⟩
 ·exact .inl (Nat.lt_succ_of_lt h)
 ·exact .inl (by omega)
theorem Used.upd {n:Nat} {U:Nat->Prop} {s:Nat} {B:r9} (h:Used ι n U):Used (kF ι ⟨s,n⟩ B) n (fun x=>U x∨x=s):=fun id hid=>by
 by_cases he:id=⟨s,n⟩
 ·subst he;exact .inr ⟨rfl,.inr rfl⟩
 ·rw[fY he]at hid
  exact(h.more (U':=fun x=>U x∨x=s) fun _ h=>Or.inl h) id hid
theorem nB {xs:Array Operand} {ys:List O} (E:cF P w D ι env a) (h:xs.toList.mapM (cO P)=some ys):eZ P w D ι (ys.map (cJ env)) (xs.map a.eval):=by
 obtain⟨h1,h2⟩:=C7 E h
 refine⟨by simpa using h1,fun j b hj=>?_⟩
 simp only[List.getElem?_map,Option.map_eq_some_iff]at hj
 obtain⟨y,hy,rfl⟩:=hj
 have dV:j<xs.size:=by have:=(List.getElem?_eq_some_iff.1 hy).1;simp at h1;omega
 refine⟨a.eval xs[j],by simp[dV],?_⟩
 have:=h2 j y hy
 simpa[List.getD_eq_getElem?_getD,dV]using this
theorem n9 {xs ys:List AV} {vs us:Array Value} (h:eZ P w D ι xs vs) (k:eZ P w D ι ys us):eZ P w D ι (xs++ys) (vs++us):=
 ⟨by simp[h.1,k.1],fun j b hj=>by
  by_cases dV:j<xs.length
  ·rw[List.getElem?_append_left dV]at hj
   obtain⟨u,hu,v8⟩:=h.2 j b hj
   exact⟨u,by rw[Array.getElem?_append_left (by rw[h.1];exact dV)];exact hu,v8⟩
  ·rw[List.getElem?_append_right (by omega)]at hj
   obtain⟨u,hu,v8⟩:=k.2 _ b hj
   exact⟨u,by rw[Array.getElem?_append_right (by rw[h.1];omega),h.1];exact hu,v8⟩⟩
theorem uR:eZ P w D ι [] #[]:=⟨rfl,fun j b hj=>by simp at hj⟩
theorem tY {x:AV} {l l':List AV} {f:Nat} {vs:Array Value} {v:Value} (h:tW x l=some (f,l')) (hr:cV P w D ι x v) (hA:eZ P w D ι l vs):
  ∃first cU,v=.func (.func f) first cU/\fD P f=true/\eZ P w D ι l' (first++vs++cU):=by
 unfold tW at h
 split at h
 ·simp only[Option.some.injEq,Prod.mk.injEq]at h
  obtain⟨rfl,rfl⟩:=h
  obtain⟨us,q,he,D8,n1,q1,q2⟩:=yZ hr
  refine⟨#[],us,he,D8,?_⟩
  rw[Array.empty_append]
  exact n9 hA ⟨n1,fun j b hj=>⟨q j,q1 j (List.getElem?_eq_some_iff.1 hj).1,q2 j b hj⟩⟩
 ·simp only[Option.some.injEq,Prod.mk.injEq]at h
  obtain⟨rfl,rfl⟩:=h
  obtain⟨us,q,he,D8,n1,q1,q2⟩:=KX hr
  refine⟨us, #[],he,D8,?_⟩
  rw[Array.append_empty]
  exact n9 ⟨n1,fun j b hj=>⟨q j,q1 j (List.getElem?_eq_some_iff.1 hj).1,q2 j b hj⟩⟩ hA
 ·cases h
theorem zE {n:Nat} {vo:bz} {g':Rows} {U:Nat->Prop} {Q:Exit->Act->World->Prop} {K:Act->World->Prop} (hc:pS P o.op=some vo.op) (hv:VS (Sound P) n vo env g v g') (S:gp P hs D ι g w) (Us:Used ι n U) (hU:¬U vo.site) (E:cF P w D ι env a)
  (hK:∀a' w',Li P hs D ι w U vo.site n a o.dst v g' a' w'->K a' w'):o.wp P a w K Q:=by
 have hf:=fresh Us hU
 have zL:∀(f:Nat) (args:List AV) (vs:Array Value),tX (Sound P) vo.hid vo.site n f args g v g'->eZ P w D ι args vs->(execOp a.eval o).run P w=.ok (.enter f vs) w->o.wp P a w K Q:=by
  intro f args vs hP hA gW
  unfold Oper.wp
  rw[gW]
  rcases hP with⟨hP,rfl⟩|⟨_,sz,rows,hM,rfl,rfl⟩
  ·refine(EK hP zk S Us.next hA).mono ?_
   rintro e w' ⟨r,D',u,rfl,rfl,T,S',hR⟩
   exact hK _ _ ⟨u,D',ι,rfl,T,S',hR,Us.more fun _ h=>.inl h⟩
  ·refine(GH hM zk S Us.next hA hf).mono ?_
   rintro e w' ⟨u,B,rfl,T,S',hR⟩
   exact hK _ _ ⟨u,D,_,rfl,T,S',hR,Us.upd⟩
 have quiet:∀(mr:Option Row),ec vo.op (cJ env) (eW vo.hid n g) ⟨vo.site,n⟩=some (v,mr)->g'=iR g ⟨vo.site,n⟩ mr->o.wp P a w K Q:=by
  intro mr hq hg
  have Qk:=xz hc hq (S.sub zk) E
  unfold Oper.wp
  cases mr with
  |none=>
   obtain⟨u,gW,hR⟩:=Qk
   rw[gW]
   subst hg
   exact hK _ _ ⟨u,D,ι,rfl,Step.refl _ _ _ _,S,hR,Us.more fun _ h=>.inl h⟩
  |some r=>
   rcases Qk with⟨u,cells,T,gW,h1,h2,h3,h4,h5,h6⟩|⟨m,gW,NC,Fv⟩|⟨c,gW,NC,Fv⟩
   case inr.inr=>
    rw[gW]
    subst hg NC Fv
    have fb:w.heap.size<(w.alloc (.chan c #[] false 0 0 false)).heap.size:=by simp
    have S':=S.stay (w':=w.alloc (.chan c #[] false 0 0 false)) (D':=D) (ι':=ι) (fun k hk=>Below.heap_alloc _ _ _ hk) (by simp) (fun _ h=>h) (fun b hd=>Nat.lt_trans (S.dead b hd) fb) (fun _ h=>.inl h) (fun _ _ h=>h)
    have S1:=S.add S' (id:=⟨vo.site,n⟩) (B:=⟨w.heap.size,qg+c,0,some (.chan c)⟩) (r:=⟨true,qg+c,[]⟩) hf (Nat.le_refl _) ⟨rfl,fun cs h=>by simp at h,fun h=>by simp at h,fun m' h=>(by simp at h),fun c' h=>by
     simp only[Option.some.injEq,BK.chan.injEq]at h;subst h
     exact⟨rfl, #[],0,0,(show(w.heap.push (Obj.chan c #[] false 0 0 false))[w.heap.size]? =some (Obj.chan c #[] false 0 0 false) by simp),rfl,fun i cs h=>by simp at h⟩⟩
    exact hK _ _ ⟨_,D,_,rfl,Step.stay S (fun k hk=>Below.heap_alloc _ _ _ hk) (by simp) rfl rfl rfl (fun _ h=>h) (fun _ h=>.inl h) (fZ hf),S1,.rm _ _ _ (ep _ _ _) rfl,Us.upd⟩
   case inr.inl=>
    rw[gW]
    subst hg NC Fv
    have fb:w.heap.size<(w.alloc (.map #[] 0)).heap.size:=by simp
    have S':=S.stay (w':=w.alloc (.map #[] 0)) (D':=D) (ι':=ι) (fun k hk=>Below.heap_alloc _ _ _ hk) (by simp) (fun _ h=>h) (fun b hd=>Nat.lt_trans (S.dead b hd) fb) (fun _ h=>.inl h) (fun _ _ h=>h)
    have S1:=S.add S' (id:=⟨vo.site,n⟩) (B:=⟨w.heap.size,m.y7,0,some (.map m)⟩) (r:=⟨true,m.y7,[]⟩) hf (Nat.le_refl _) ⟨rfl,fun cs h=>by simp at h,fun h=>by simp at h,fun m' h=>by
     simp only[Option.some.injEq,BK.map.injEq]at h;subst h
     exact⟨rfl, #[],0,(show(w.heap.push (Obj.map #[] 0))[w.heap.size]? =some (Obj.map #[] 0) by simp),rfl,⟨fun cs h=>by simp at h,fun x h=>by simp at h,by simp⟩,fun i cs h=>by simp at h⟩,fun c h=>by simp at h⟩
    exact hK _ _ ⟨_,D,_,rfl,Step.stay S (fun k hk=>Below.heap_alloc _ _ _ hk) (by simp) rfl rfl rfl (fun _ h=>h) (fun _ h=>.inl h) (fZ hf),S1,.map _ _ _ (ep _ _ _) rfl,Us.upd⟩
   rw[gW]
   subst hg
   have S1:=S.alloc (id:=⟨vo.site,n⟩) (w':=w.alloc (.cells cells T)) rfl hf h1 h2 h3 h4 h5
   refine hK _ _ ⟨u,D,_,rfl,Step.stay S (fun k hk=>Below.heap_alloc _ _ _ hk) (by simp) rfl rfl rfl (fun _ h=>h) (fun _ h=>.inl h) (fZ hf),S1,(h6 (kF ι _ _) (ep _ _ _)).frame (fun b hd=>Below.heap_alloc _ _ _ (S.dead b hd)) (fun _ h=>h) (fun _ _ h=>h),Us.upd⟩
 have OF:eY vo.op (cJ env) g ⟨vo.site,n⟩=some (v,g')->(∀Ju,BL P hs a o Ju D ι ⟨vo.site,n⟩ v g'->Ju=w->o.wp P a w K Q):=by
  intro _ Ju hE he
  subst he
  obtain⟨u,w',ι',gW,T,S',hR,hι⟩:=hE
  have Hr:Li P hs D ι Ju U vo.site n a o.dst v g' (a.put o.dst u) w':=⟨u,D,ι',rfl,T,S',hR,fun id hid=>by
   by_cases he:id=⟨vo.site,n⟩
   ·subst he;exact .inr ⟨rfl,.inr rfl⟩
   ·rw[hι id he]at hid
    exact(Us.more (U':=fun x=>U x∨x=vo.site) fun _ h=>Or.inl h) id hid⟩
  unfold Oper.wp
  rcases gW with gW|⟨gW,rfl⟩
  ·rw[gW];exact hK _ _ Hr
  ·rw[gW];exact hK _ _ Hr
 unfold VS at hv
 split at hv
 ·rename_i f args dZ
  rw[dZ]at hc
  obtain⟨c,ho,j6,D8,mM⟩:=AD hc
  refine zL f _ (c.args.map a.eval) hv (nB E mM) ?_
  simp only[execOp,ho,resolve,j6,Deferred.ofValue,Act.eval,Sem.run_bind,Sem.run_pure,Result.andThen_ok,invoke,Array.empty_append,Array.append_empty]
  exact jg D8
 ·rename_i x args dZ
  obtain⟨f,l,hx,hP⟩:=hv
  rw[dZ]at hc
  obtain⟨c,t,ho,j6,rfl,mM⟩:=rO hc
  obtain⟨first,cU,he,D8,hL⟩:=tY (v:=a.eval (.tmp t)) hx (E t) (nB E mM)
  refine zL f _ (first++c.args.map a.eval++cU) hP hL ?_
  simp only[execOp,ho,resolve,j6,he,Deferred.ofValue,Sem.run_bind,Sem.run_pure,Result.andThen_ok,invoke]
  exact jg D8
 ·rename_i m x y dZ
  have kf:=hc
  rw[dZ]at kf
  obtain⟨t,x',y',ho,h1,h2,h3⟩:=FD kf
  have nf:=hv
  rw[dZ]at nf
  simp only[eY,Option.map_eq_some_iff,Prod.mk.injEq]at nf
  obtain⟨g1,qU,rfl,rfl⟩:=nf
  exact OF hv w (JR S E ho h1 h2 h3 qU) rfl
 ·rename_i m x y dZ
  have kf:=hc
  rw[dZ]at kf
  obtain⟨t,e,m',z,i,x',y',rfl,ho,h1,h2,h3,h4,h5,h6,h7⟩:=CN kf
  have nf:=hv
  rw[dZ]at nf
  simp only[eY,Option.bind_eq_some_iff]at nf
  obtain⟨ys,Ei,nf⟩:=nf
  exact OF hv w (Hd S E hf ho h1 h2 h3 h4 h5 h6 h7 Ei nf) rfl
 ·rename_i m x y dZ
  have kf:=hc
  rw[dZ]at kf
  obtain⟨t,t2,e,m',x',y',rfl,ho,h1,h2,h3,h4⟩:=HW kf
  have nf:=hv
  rw[dZ]at nf
  simp only[eY,Option.bind_eq_some_iff]at nf
  obtain⟨ys,Ei,nf⟩:=nf
  exact OF hv w (Mw S E ho h1 h2 h3 h4 Ei nf) rfl
 ·rename_i z x dZ
  have kf:=hc
  rw[dZ]at kf
  obtain⟨t,e,m',x',ho,h1,h2,h3,h4⟩:=FC kf
  have nf:=hv
  rw[dZ]at nf
  simp only[eY,Option.map_eq_some_iff,Prod.mk.injEq]at nf
  obtain⟨g1,qU,rfl,rfl⟩:=nf
  exact OF hv w (JQ S E ho h1 h2 h3 h4 qU) rfl
 ·rename_i q xs dZ
  have kf:=hc
  rw[dZ]at kf
  have nf:=hv
  rw[dZ]at nf
  simp only[eY,Option.map_eq_some_iff,Prod.mk.injEq]at nf
  obtain⟨g1,qU,rfl,rfl⟩:=nf
  rcases NH kf with⟨t,x,k,y,m,z,x',k',y',ho,h1,h2,h3,h4,rfl,rfl⟩|⟨t,t',x,k,m,z,x',k',ho,h1,h2,h3,rfl,rfl⟩
  ·exact OF hv w (My S E ho h1 h2 h3 h4 qU) rfl
  ·exact OF hv w (Mx S E ho h1 h2 h3 qU) rfl
 ·obtain⟨mr,hq,hg⟩:=hv
  exact quiet mr hq hg
end
end Go.Proofs.YtgoljkjaameagaaGreat.V

namespace Go.Proofs.YtgoljkjaameagaaGreat.V
open Go.RowKit
variable {P:Program} {w w':World} {D D' D2:Nat->Prop} {ι ι' ι2:Names}
section
variable {g:Rows} {hs:Nat} {env:Env} {a:Act} {o:Oper} {id:Id} {v:AV}
theorem oy {ops:Array Oper} {nt site0 j:Nat} {draw mk:Bool} {bs:Array Nat} {hidden:List (Nat×Bool)} {vo:bz} (h:lG P ops nt site0 draw mk bs hidden j o=some vo):
  pS P o.op=some vo.op/\vo.dst=o.dst/\vo.site=site0+j/\(∀d,o.dst=some d->d<nt)/\(match o.guard with
   |none=>vo.guard=none
   |some (i,b)=>∃t,(ops[i]?).bind (·.dst)=some t/\vo.guard=some (t,b)):=by
 unfold lG at h
 simp only[Option.bind_eq_bind,Option.bind_eq_some_iff]at h
 obtain⟨v,hv,gd,hg,h⟩:=h
 split at h
 ·rename_i hd
  simp only[Option.pure_def,Option.some.injEq]at h
  subst h
  refine⟨hv,rfl,rfl,fun d Ru=>?_,?_⟩
  ·rw[Ru]at hd;simpa using hd
  ·unfold B6 at hg
   cases vY:o.guard with
   |none=>rw[vY]at hg;simp at hg;exact hg.symm
   |some p=>
    obtain⟨i,b⟩:=p
    rw[vY]at hg
    dsimp only at hg ⊢
    split at hg
    ·rename_i t ht
     simp at hg;exact⟨t,ht,hg.symm⟩
    ·simp at hg
 ·simp at h
theorem r8 {ops:Array Oper} {vo:bz} (E:cF P w D ι env a) (hg:match o.guard with
   |none=>vo.guard=none
   |some (i,b)=>∃t,(ops[i]?).bind (·.dst)=some t/\vo.guard=some (t,b)):az vo.guard env=Region.wanted o (yielded ops a.tmps):=by
 unfold Region.wanted
 cases vY:o.guard with
 |none=>rw[vY]at hg;simp only at hg;rw[hg];rfl
 |some p=>
  obtain⟨i,b⟩:=p
  rw[vY]at hg
  obtain⟨t,ht,hv⟩:=hg
  rw[hv]
  simp only[az,yielded,ht,Option.bind_some]
  have hr:=E t
  by_cases dV:t<a.tmps.size
  ·have eT:a.tmps[t]? =some a.tmps[t]:=Array.getElem?_eq_getElem dV
   have hd:a.tmps.getD t undef=a.tmps[t]:=by simp[dV]
   rw[hd]at hr
   rw[eT]
   generalize a.tmps[t]=u at hr
   cases he:env t with
   |bool c=>rw[he]at hr;rw[eP hr];simp
   |_=>
    rw[he]at hr
    have:∀c,u≠.bool c:=by
     intro c hu
     subst hu
     cases hr with
     |eH _ _ h=>cases h
    cases u<;>simp_all
  ·have eT:a.tmps[t]? =none:=Array.getElem?_eq_none (Nat.le_of_not_lt dV)
   have hd:a.tmps.getD t undef=undef:=by simp[eT]
   rw[hd]at hr
   rw[eT]
   cases he:env t with
   |bool c=>rw[he]at hr;have:=eP hr;simp[undef]at this
   |_=>simp
theorem l8 {dst:Option Nat} {nt:Nat} {u:Value} (E:cF P w D ι env a) (hr:cV P w D ι v u) (hd:∀d,dst=some d->d<nt) (hs:a.tmps.size=nt):cF P w D ι (upd env dst v) (a.put dst u):=by
 intro t
 cases dst with
 |none=>exact E t
 |some d=>
  have dV:d<a.tmps.size:=by rw[hs];exact hd d rfl
  simp only[upd,Act.put]
  by_cases ht:t=d
  ·subst ht
   simp[dV];exact hr
  ·rw[if_neg ht]
   have:(a.tmps.setIfInBounds d u).getD t undef=a.tmps.getD t undef:=by
    simp only[Array.getD_eq_getD_getElem?]
    rw[Array.getElem?_setIfInBounds_ne (fun e=>ht e.symm)]
   rw[this];exact E t
theorem nH {hs:Nat} (E:cF P w D ι env a) (T:Step hs D ι w D' ι' w'):cF P w' D' ι' env a:=fun t=>T.rep (E t)
theorem kp (a:Act) (dst:Option Tmp) (u:Value):(a.put dst u).tmps.size=a.tmps.size:=by cases dst<;>simp[Act.put]
theorem put_defers (a:Act) (dst:Option Tmp) (u:Value):(a.put dst u).defers=a.defers:=by cases dst<;>rfl
theorem xI {draw:Bool} {vo:bz} {σ:ar} {next:AV->ar->Prop} {U:Nat->Prop} {Q:Exit->Act->World->Prop} {K:Act->World->Prop} (hc:pS P o.op=some vo.op) (hv:eQ (Sound P) draw vo env σ next) (S:gp P hs D ι σ.get w) (Us:Used ι σ.next U) (hU:¬U vo.site) (E:cF P w D ι env a)
  (hK:∀v σ' u D' ι' w',next v σ'->Step hs D ι w D' ι' w'->gp P hs D' ι' σ'.get w'->cV P w' D' ι' v u->Used ι' σ'.next (fun s=>U s∨s=vo.site)->σ.next<=σ'.next->K (a.put o.dst u) w'):o.wp P a w K Q:=by
 have close:∀v g',VS (Sound P) σ.next vo env σ.get v g'->next v ⟨g',σ.next⟩->o.wp P a w K Q:=fun v g' h1 h2=>
  zE hc h1 S Us hU E fun a' w' ⟨u,D',ι',ha,T,S',hR,U'⟩=>by subst ha;exact hK v ⟨g',σ.next⟩ u D' ι' w' h2 T S' hR U' (Nat.le_refl _)
 have Io:∀(f:Nat) (args:List AV) (vs:Array Value),Sound P f args ⟨σ.get,σ.next+1⟩ next->eZ P w D ι args vs->(execOp a.eval o).run P w=.ok (.enter f vs) w->o.wp P a w K Q:=by
  intro f args vs h hA gW
  unfold Oper.wp
  rw[gW]
  refine(h hs D ι w vs S Us.next hA).mono ?_
  rintro e w' ⟨r,g',n',D',ι',u,rfl,hn,T,S',U',hle,hR⟩
  exact hK r ⟨g',n'⟩ u D' ι' w' hn T S' hR (U'.more fun _ h=>h.elim) (Nat.le_trans (Nat.le_succ _) hle)
 unfold eQ at hv
 split at hv
 ·rename_i f args dZ
  rcases hv with⟨r,hP,hn⟩|⟨_,hX⟩|⟨Jn,sz,rows,hM,hn⟩
  ·exact close r σ.get (by unfold VS;rw[dZ];exact .inl ⟨hP,rfl⟩) hn
  rotate_left
  ·exact close _ _ (by unfold VS;rw[dZ];exact .inr ⟨Jn,sz,rows,hM,rfl,rfl⟩) hn
  ·have kf:=hc
   rw[dZ]at kf
   obtain⟨c,ho,j6,D8,mM⟩:=AD kf
   refine Io f _ (c.args.map a.eval) hX (nB E mM) ?_
   simp only[execOp,ho,resolve,j6,Deferred.ofValue,Act.eval,Sem.run_bind,Sem.run_pure,Result.andThen_ok,invoke,Array.empty_append,Array.append_empty]
   exact jg D8
 ·rename_i x args dZ
  split at hv
  ·rename_i f cU hx
   have vH:tW (cJ env x) (args.map (cJ env))=some (f,args.map (cJ env)++cU):=by rw[hx];rfl
   rcases hv with⟨r,hP,hn⟩|⟨_,hX⟩|⟨Jn,sz,rows,hM,hn⟩
   ·exact close r σ.get (by unfold VS;rw[dZ];exact⟨f,_,vH,.inl ⟨hP,rfl⟩⟩) hn
   rotate_left
   ·exact close _ _ (by unfold VS;rw[dZ];exact⟨f,_,vH,.inr ⟨Jn,sz,rows,hM,rfl,rfl⟩⟩) hn
   ·have kf:=hc
    rw[dZ]at kf
    obtain⟨c,t,ho,j6,rfl,mM⟩:=rO kf
    obtain⟨first,us,he,D8,hL⟩:=tY (v:=a.eval (.tmp t)) vH (E t) (nB E mM)
    refine Io f _ (first++c.args.map a.eval++us) hX hL ?_
    simp only[execOp,ho,resolve,j6,he,Deferred.ofValue,Sem.run_bind,Sem.run_pure,Result.andThen_ok,invoke]
    exact jg D8
  ·rename_i f cU hx
   have vH:tW (cJ env x) (args.map (cJ env))=some (f,cU++args.map (cJ env)):=by rw[hx];rfl
   rcases hv with⟨r,hP,hn⟩|⟨_,hX⟩|⟨Jn,sz,rows,hM,hn⟩
   ·exact close r σ.get (by unfold VS;rw[dZ];exact⟨f,_,vH,.inl ⟨hP,rfl⟩⟩) hn
   rotate_left
   ·exact close _ _ (by unfold VS;rw[dZ];exact⟨f,_,vH,.inr ⟨Jn,sz,rows,hM,rfl,rfl⟩⟩) hn
   ·have kf:=hc
    rw[dZ]at kf
    obtain⟨c,t,ho,j6,rfl,mM⟩:=rO kf
    obtain⟨first,us,he,D8,hL⟩:=tY (v:=a.eval (.tmp t)) vH (E t) (nB E mM)
    refine Io f _ (first++c.args.map a.eval++us) hX hL ?_
    simp only[execOp,ho,resolve,j6,he,Deferred.ofValue,Sem.run_bind,Sem.run_pure,Result.andThen_ok,invoke]
    exact jg D8
  ·exact hv.elim
 ·rename_i m x y dZ
  split at hv
  ·rename_i v' g' he
   exact close v' g' (by unfold VS;rw[dZ];rw[dZ]at he;exact he) hv
  ·exact hv.elim
 ·rename_i m x y dZ
  split at hv
  ·rename_i v' g' he
   exact close v' g' (by unfold VS;rw[dZ];rw[dZ]at he;exact he) hv
  ·exact hv.elim
 ·rename_i m x y dZ
  split at hv
  ·rename_i v' g' he
   exact close v' g' (by unfold VS;rw[dZ];rw[dZ]at he;exact he) hv
  ·exact hv.elim
 ·rename_i m x dZ
  split at hv
  ·rename_i v' g' he
   exact close v' g' (by unfold VS;rw[dZ];rw[dZ]at he;exact he) hv
  ·exact hv.elim
 ·rename_i m x dZ
  split at hv
  ·rename_i v' g' he
   exact close v' g' (by unfold VS;rw[dZ];rw[dZ]at he;exact he) hv
  ·exact hv.elim
 ·rename_i n1 n2 n3 n4 n5 n6 n7
  split at hv
  ·rename_i v' r hq
   refine close v' (bH σ.get ⟨vo.site,σ.next⟩ r) ?_ hv
   unfold VS
   split
   ·rename_i h;exact(n1 _ _ h).elim
   ·rename_i h;exact(n2 _ _ h).elim
   ·rename_i h;exact(n3 _ _ _ h).elim
   ·rename_i h;exact(n4 _ _ _ h).elim
   ·rename_i h;exact(n5 _ _ _ h).elim
   ·rename_i h;exact(n6 _ _ h).elim
   ·rename_i h;exact(n7 _ _ h).elim
   ·exact⟨some r,hq,rfl⟩
  ·rename_i v' hq
   refine close v' σ.get ?_ hv
   unfold VS
   split
   ·rename_i h;exact(n1 _ _ h).elim
   ·rename_i h;exact(n2 _ _ h).elim
   ·rename_i h;exact(n3 _ _ _ h).elim
   ·rename_i h;exact(n4 _ _ _ h).elim
   ·rename_i h;exact(n5 _ _ _ h).elim
   ·rename_i h;exact(n6 _ _ h).elim
   ·rename_i h;exact(n7 _ _ h).elim
   ·exact⟨none,hq,rfl⟩
  ·exact hv.elim
structure St (P:Program) (hs nt:Nat) (D:Nat->Prop) (ι:Names) (env:Env) (σ:ar) (a:Act) (w:World):Prop where
 Jt:gp P hs D ι σ.get w
 used:Used ι σ.next (fun _=>False)
 env:cF P w D ι env a
 size:a.tmps.size=nt
theorem C4 (rest:List Oper) {ops:Array Oper} {nt site0:Nat} {draw mk:Bool} {bs:Array Nat} {hidden:List (Nat×Bool)} {K:Env->ar->Prop} {Q:Exit->Act->World->Prop}:∀(l:List Oper) (vl:List bz) (j:Nat) (env:Env) (σ:ar) (a:Act) (w:World) (D:Nat->Prop) (ι:Names) (U:Nat->Prop),
  allM (lG P ops nt site0 draw mk bs hidden) l j=some vl->wpOps (Sound P) draw vl K env σ->gp P hs D ι σ.get w->Used ι σ.next U->(∀s,U s->s<site0+j)->cF P w D ι env a->a.tmps.size=nt->
  (∀ik σ' a' w' D' ι',K ik σ'->Step hs D ι w D' ι' w'->St P hs nt D' ι' ik σ' a' w'->a'.defers=a.defers->σ.next<=σ'.next->wpList P ops Q rest a' w')->wpList P ops Q (l++rest) a w:=by
 intro l
 induction l with
 |nil=>
  intro vl j env σ a w D ι U h hv S Us _ E fb hQ
  simp[allM]at h;subst h
  exact hQ env ⟨σ.get,σ.next+1⟩ a w D ι hv (Step.refl _ _ _ _) ⟨S,Us.next,E,fb⟩ rfl (Nat.le_succ _)
 |cons o l ih=>
  intro vl j env σ a w D ι U h hv S Us hU E fb hQ
  simp only[allM,Option.bind_eq_bind,Option.bind_eq_some_iff,Option.pure_def,Option.some.injEq]at h
  obtain⟨vo,mN,r7,qY,rfl⟩:=h
  obtain⟨hc,hd,Av,vW,hg⟩:=oy mN
  have hw:=r8 (ops:=ops) (vo:=vo) E hg
  unfold wpOps at hv
  show wpList P ops Q (o::(l++rest)) a w
  unfold wpList
  rw[<-hw]
  split at hv
  ·rename_i Fx
   rw[if_pos Fx]
   refine .inl (xI hc hv S Us (fun h=>by have:=hU _ h;omega) E fun v σ' u D' ι' w' hn T S' hR U' hle=>?_)
   refine ih r7 (j+1) (upd env vo.dst v) σ' (a.put o.dst u) w' D' ι' _ qY hn S' U' (fun s Aq=>by
    rcases Aq with h|h
    ·have:=hU _ h;omega
    ·omega) (by rw[hd];exact l8 (nH E T) hR vW fb) (by rw[kp];exact fb) fun ik σ2 a' w2 D2 ι2 hk T2 Mf Cx lf=>hQ ik σ2 a' w2 D2 ι2 hk (T.trans T2) Mf (Cx.trans (put_defers _ _ _)) (Nat.le_trans hle lf)
  ·rename_i Fx
   rw[if_neg Fx]
   refine ih r7 (j+1) (upd env vo.dst .undef) σ (a.put o.dst undef) w D ι U qY hv S Us (fun s Aq=>by have:=hU _ Aq;omega) (by rw[hd];exact l8 E cV.undef vW fb) (by rw[kp];exact fb) fun ik σ2 a' w2 D2 ι2 hk T2 Mf Cx lf=>hQ ik σ2 a' w2 D2 ι2 hk T2 Mf (Cx.trans (put_defers _ _ _)) lf
theorem FZ {ops:Array Oper} {nt site0:Nat} {draw mk:Bool} {bs:Array Nat} {hidden:List (Nat×Bool)} {K:Env->ar->Prop} {Q:Exit->Act->World->Prop}:∀(l:List Oper) (vl:List bz) (j:Nat) (env:Env) (σ:ar) (a:Act) (w:World) (D:Nat->Prop) (ι:Names) (U:Nat->Prop),
  allM (lG P ops nt site0 draw mk bs hidden) l j=some vl->wpOps (Sound P) draw vl K env σ->gp P hs D ι σ.get w->Used ι σ.next U->(∀s,U s->s<site0+j)->cF P w D ι env a->a.tmps.size=nt->
  (∀ik σ' a' w' D' ι',K ik σ'->Step hs D ι w D' ι' w'->St P hs nt D' ι' ik σ' a' w'->a'.defers=a.defers->σ.next<=σ'.next->Q .normal a' w')->wpList P ops Q l a w:=fun l vl j env σ a w D ι U h hv S Us hU E fb hQ=>by
 have:=C4 [] l vl j env σ a w D ι U h hv S Us hU E fb hQ
 rwa [List.append_nil]at this
end
end Go.Proofs.YtgoljkjaameagaaGreat.V

namespace Go.Proofs.YtgoljkjaameagaaGreat.V
open Go.RowKit
variable {P:Program} {w w':World} {D D' D2:Nat->Prop} {ι ι' ι2:Names}
section
variable {hs:Nat} {X:fy}
theorem bw {env iF:Env} {x:O} (h:∀t∈gz x,env t=iF t):cJ env x=cJ iF x:=by
 cases x with
 |t n=>exact h n (by simp[gz])
 |_=>rfl
theorem map_congr {env iF:Env} {l:List O} (h:∀t∈l.flatMap gz,env t=iF t):l.map (cJ env)=l.map (cJ iF):=
 List.map_congr_left fun x hx=>bw fun t ht=>h t (List.mem_flatMap.2 ⟨x,hx,ht⟩)
theorem oE {env iF:Env} {x:Option O} (h:∀t∈uN x,env t=iF t):x.map (cJ env)=x.map (cJ iF):=by
 cases x with
 |none=>rfl
 |some y=>simp only[Option.map_some];rw[bw h]
theorem rW {env iF:Env} {o:gh} {g:Rows} {id:Id} (h:∀t∈o.gn,env t=iF t):ec o (cJ env) g id=ec o (cJ iF) g id:=by
 cases o<;>simp only[gh.gn,List.mem_append]at h<;>simp only[ec]
 case cR x=>rw[bw h]
 case pick c a b=>rw[bw (x:=c) fun t ht=>h t (.inl (.inl ht)),bw (x:=a) fun t ht=>h t (.inl (.inr ht)),bw (x:=b) fun t ht=>h t (.inr ht)]
 case box x=>rw[bw h]
 case build z ps=>
  have:(ps.map fun(x:Nat×Nat×O)=>(x.1,x.2.1,cJ env x.2.2))=ps.map fun(x:Nat×Nat×O)=>(x.1,x.2.1,cJ iF x.2.2):=List.map_congr_left fun x hx=>by
   rw[bw (x:=x.2.2) fun t ht=>h t (List.mem_flatMap.2 ⟨x,hx,ht⟩)]
  rw[this]
 case jV a b l=>rw[map_congr h]
 case load a n x=>rw[bw h]
 case xW x=>rw[bw h]
 case bin a b x y=>rw[bw (x:=x) fun t ht=>h t (.inl ht),bw (x:=y) fun t ht=>h t (.inr ht)]
 case sh a x y=>rw[bw (x:=x) fun t ht=>h t (.inl ht),bw (x:=y) fun t ht=>h t (.inr ht)]
 case JN a x y=>rw[bw (x:=x) fun t ht=>h t (.inl ht),bw (x:=y) fun t ht=>h t (.inr ht)]
 case Ln a b x y=>rw[bw (x:=x) fun t ht=>h t (.inl ht),bw (x:=y) fun t ht=>h t (.inr ht)]
 case Rb a b x y=>rw[bw (x:=x) fun t ht=>h t (.inl ht),bw (x:=y) fun t ht=>h t (.inr ht)]
 case Pp a b x=>rw[bw h]
 case Rc a x=>rw[bw h]
 case not x=>rw[bw h]
 case neg x=>rw[bw h]
 case conv k x=>rw[bw h]
 case DQ x=>rw[bw h]
 case slice s x lo hi=>rw[bw (x:=x) fun t ht=>h t (.inl (.inl ht)),oE (x:=lo) fun t ht=>h t (.inl (.inr ht)),oE (x:=hi) fun t ht=>h t (.inr ht)]
 case ze x lo hi=>rw[bw (x:=x) fun t ht=>h t (.inl (.inl ht)),oE (x:=lo) fun t ht=>h t (.inl (.inr ht)),oE (x:=hi) fun t ht=>h t (.inr ht)]
 case fc k x=>rw[bw h]
 case field a b c x=>rw[bw h]
 case dK s x y=>rw[bw (x:=x) fun t ht=>h t (.inl ht),bw (x:=y) fun t ht=>h t (.inr ht)]
 case Km n s x y=>rw[bw (x:=x) fun t ht=>h t (.inl ht),bw (x:=y) fun t ht=>h t (.inr ht)]
 case Kp x y=>rw[bw (x:=x) fun t ht=>h t (.inl ht),bw (x:=y) fun t ht=>h t (.inr ht)]
 case eG a b c x y=>rw[bw (x:=x) fun t ht=>h t (.inl ht),bw (x:=y) fun t ht=>h t (.inr ht)]
 case extract i x=>rw[bw h]
 case len x=>rw[bw h]
 case Kx x=>rw[bw h]
 case Ig x=>rw[bw h]
 case H6 x=>rw[bw h]
 case KC f l=>rw[map_congr h]
 case KD f l=>rw[map_congr h]
 case mq f l=>rw[map_congr h]
 case jG z x y=>rw[bw (x:=x) fun t ht=>h t (.inl ht),bw (x:=y) fun t ht=>h t (.inr ht)]
theorem gE {env iF:Env} {o:gh} {g:Rows} {id:Id} (h:∀t∈o.gn,env t=iF t):eY o (cJ env) g id=eY o (cJ iF) g id:=by
 cases o<;>simp only[gh.gn,List.mem_append]at h<;>simp only[eY]
 case clear z x=>rw[bw h]
 case mw f l=>rw[map_congr h]
 all_goals rename_i a x y
 all_goals rw[bw (x:=x) fun t ht=>h t (.inl ht),bw (x:=y) fun t ht=>h t (.inr ht)]
theorem GU {n:Nat} {vo:bz} {env iF:Env} {g g':Rows} {v:AV} (h:∀t∈vo.op.gn,env t=iF t) (hv:VS X n vo env g v g'):VS X n vo iF g v g':=by
 unfold VS at hv ⊢
 split at hv
 ·rename_i f args dZ
  rw[dZ]at h
  simp only[gh.gn]at h
  rw[<-map_congr h];exact hv
 ·rename_i x args dZ
  rw[dZ]at h
  simp only[gh.gn,List.mem_append]at h
  rw[<-map_congr (l:=args) fun t ht=>h t (.inr ht),<-bw (x:=x) fun t ht=>h t (.inl ht)];exact hv
 ·rw[<-gE h];exact hv
 ·rw[<-gE h];exact hv
 ·rw[<-gE h];exact hv
 ·rw[<-gE h];exact hv
 ·rw[<-gE h];exact hv
 ·rw[<-rW h];exact hv
theorem CZ {q:MQ} {vs:List AV} {g:Rows} {id:Id} {v:AV} {r:Row} (h:bj q vs g id=some (v,some r)):∃m,q=.new m:=by
 unfold bj at h
 split at h
 ·exact⟨_,rfl⟩
 ·simp[Option.bind_eq_some_iff]at h
 ·simp at h
 ·cases h
theorem uP {o:gh} {ρ:O->AV} {g:Rows} {id:Id} {v:AV} {r:Row} (h:ec o ρ g id=some (v,some r)):pM o=true:=by
 cases o<;>simp only[ec]at h<;>(try rfl)<;>(try simp at h)
 case mq q xs=>obtain⟨m,rfl⟩:=CZ h;rfl
 all_goals (try(split at h<;>simp at h))
theorem uQ {o:gh} {ρ:O->AV} {g g2:Rows} {id id2:Id} (h:o.cls=.pure):ec o ρ g id=ec o ρ g2 id2:=by
 cases o<;>(try simp[gh.cls]at h)<;>(try simp only[ec])
 case mq q xs=>cases q<;>simp[gh.cls]at h
theorem tR {n:Nat} {vo:bz} {env:Env} {g g':Rows} {v:AV} (hw:vo.op.cls≠.write) (hv:VS X n vo env g v g'):∃mr,g'=iR g ⟨vo.site,n⟩ mr/\(mr≠none->vo.makes=true)/\∀g0,eW vo.hid n g0=eW vo.hid n g->VS X n vo env g0 v (iR g0 ⟨vo.site,n⟩ mr):=by
 unfold VS at hv
 split at hv
 ·rename_i f args dZ
  rcases hv with⟨h1,rfl⟩|⟨hs,sz,rows,hM,rfl,rfl⟩
  ·refine⟨none,rfl,fun h=>(h rfl).elim,fun g0 h0=>?_⟩
   unfold VS;rw[dZ];simp only;unfold tX;rw[h0];exact .inl ⟨h1,rfl⟩
  ·refine⟨some _,rfl,fun _=>by unfold bz.makes;rw[dZ,hs];simp[gh.lh],fun g0 h0=>?_⟩
   unfold VS;rw[dZ];simp only;unfold tX;rw[h0];exact .inr ⟨hs,sz,rows,hM,rfl,rfl⟩
 ·rename_i x args dZ
  obtain⟨f,cU,hx,hv⟩:=hv
  rcases hv with⟨h1,rfl⟩|⟨hs,sz,rows,hM,rfl,rfl⟩
  ·refine⟨none,rfl,fun h=>(h rfl).elim,fun g0 h0=>?_⟩
   unfold VS;rw[dZ];simp only;unfold tX;rw[h0];exact⟨f,cU,hx,.inl ⟨h1,rfl⟩⟩
  ·refine⟨some _,rfl,fun _=>by unfold bz.makes;rw[dZ,hs];simp[gh.lh],fun g0 h0=>?_⟩
   unfold VS;rw[dZ];simp only;unfold tX;rw[h0];exact⟨f,cU,hx,.inr ⟨hs,sz,rows,hM,rfl,rfl⟩⟩
 ·rename_i dZ;rw[dZ]at hw;exact(hw rfl).elim
 ·rename_i dZ;rw[dZ]at hw;exact(hw rfl).elim
 ·rename_i dZ;rw[dZ]at hw;exact(hw rfl).elim
 ·rename_i dZ;rw[dZ]at hw;exact(hw rfl).elim
 ·rename_i dZ;rw[dZ]at hw;exact(hw rfl).elim
 ·rename_i n1 n2 n3 n4 n5 n6 n7
  obtain⟨mr,hq,rfl⟩:=hv
  refine⟨mr,rfl,fun h=>?_,fun g0 h0=>?_⟩
  ·cases mr with
   |none=>exact(h rfl).elim
   |some r=>unfold bz.makes;rw[uP hq];rfl
  ·unfold VS
   split
   ·rename_i hh;exact(n1 _ _ hh).elim
   ·rename_i hh;exact(n2 _ _ hh).elim
   ·rename_i hh;exact(n3 _ _ _ hh).elim
   ·rename_i hh;exact(n4 _ _ _ hh).elim
   ·rename_i hh;exact(n5 _ _ _ hh).elim
   ·rename_i hh;exact(n6 _ _ hh).elim
   ·rename_i hh;exact(n7 _ _ hh).elim
   ·rw[h0];exact⟨mr,hq,rfl⟩
theorem xN {n:Nat} {vo:bz} {env:Env} {g g':Rows} {v:AV} (hp:vo.op.cls=.pure) (hv:VS X n vo env g v g'):g'=g/\∀g0,VS X n vo env g0 v g0:=by
 unfold VS at hv
 split at hv
 ·rename_i dZ;rw[dZ]at hp;simp[gh.cls]at hp
 ·rename_i dZ;rw[dZ]at hp;simp[gh.cls]at hp
 ·rename_i dZ;rw[dZ]at hp;simp[gh.cls]at hp
 ·rename_i dZ;rw[dZ]at hp;simp[gh.cls]at hp
 ·rename_i dZ;rw[dZ]at hp;simp[gh.cls]at hp
 ·rename_i dZ;rw[dZ]at hp;simp[gh.cls]at hp
 ·rename_i dZ;rw[dZ]at hp;simp[gh.cls]at hp
 ·rename_i n1 n2 n3 n4 n5 n6 n7
  obtain⟨mr,hq,rfl⟩:=hv
  have Th:mr=none:=by
   cases mr with
   |none=>rfl
   |some r=>have:=uP hq;simp[pM,hp]at this
  subst Th
  refine⟨rfl,fun g0=>?_⟩
  unfold VS
  split
  ·rename_i hh;exact(n1 _ _ hh).elim
  ·rename_i hh;exact(n2 _ _ hh).elim
  ·rename_i hh;exact(n3 _ _ _ hh).elim
  ·rename_i hh;exact(n4 _ _ _ hh).elim
  ·rename_i hh;exact(n5 _ _ _ hh).elim
  ·rename_i hh;exact(n6 _ _ hh).elim
  ·rename_i hh;exact(n7 _ _ hh).elim
  ·exact⟨none,by rw[uQ hp];exact hq,rfl⟩
def GS (X:fy) (n:Nat) (vo:bz) (env:Env) (g:Rows) (v:AV) (g':Rows):Prop:=
 if az vo.guard env then VS X n vo env g v g' else v=.undef/\g'=g
theorem Br {hid:List Nat} {g:Rows} {s n:Nat} {mr:Option Row} (h:mr≠none->hid.contains s=true):eW hid n (iR g ⟨s,n⟩ mr)=eW hid n g:=by
 cases mr with
 |none=>rfl
 |some r=>
  have hc:=h (by simp)
  cases hid with
  |nil=>simp at hc
  |cons a l=>
   funext i
   show(if (a::l).contains i.site=true/\i.bW=n then none else iR g ⟨s,n⟩ (some r) i)=if (a::l).contains i.site=true/\i.bW=n then none else g i
   by_cases hi:i=⟨s,n⟩
   ·subst hi;rw[if_pos ⟨hc,rfl⟩,if_pos ⟨hc,rfl⟩]
   ·simp only[iR,bH,if_neg hi]
theorem EM {g:Rows} {i j:Id} (h:i≠j) (m1 m2:Option Row):iR (iR g i m1) j m2=iR (iR g j m2) i m1:=by
 cases m1<;>cases m2<;>simp only[iR]
 funext k
 simp only[bH]
 by_cases h1:k=i
 ·subst h1;rw[if_neg h,if_pos rfl];simp
 ·by_cases h2:k=j
  ·subst h2;simp[h1]
  ·simp[h1,h2]
theorem vq {env:Env} {d e:Option Nat} {v u:AV} (h:∀k,d=some k->e≠some k):upd (upd env d v) e u=upd (upd env e u) d v:=by
 cases d with
 |none=>rfl
 |some d=>
  cases e with
  |none=>rfl
  |some e=>
   have gF:d≠e:=fun he=>h d rfl (by rw[he])
   funext t
   simp only[upd]
   by_cases h1:t=d
   ·subst h1;rw[if_neg gF,if_pos rfl,if_pos rfl]
   ·by_cases h2:t=e
    ·subst h2;rw[if_pos rfl,if_neg h1,if_pos rfl]
    ·simp[h1,h2]
theorem lW {env:Env} {d:Option Nat} {v:AV} {l:List Nat} (h:∀k,d=some k->k∉l):∀t∈l,upd env d v t=env t:=by
 intro t ht
 cases d with
 |none=>rfl
 |some d=>
  have:t≠d:=fun he=>h d rfl (he▸ht)
  simp[upd,this]
structure BM (x y:bz):Prop where
 xy:∀k,x.dst=some k->k∉y.gn
 yx:∀k,y.dst=some k->k∉x.gn
 dst:∀k,x.dst=some k->y.dst≠some k
 cls:clash x.op.cls y.op.cls=false
 hx:x.makes=true->y.hid.contains x.site=true
 hy:y.makes=true->x.hid.contains y.site=true
 site:x.site≠y.site
theorem BM.symm {x y:bz} (h:BM x y):BM y x:=
 ⟨h.yx,h.xy,fun k hk he=>h.dst k he hk,by have:=h.cls;revert this;cases x.op.cls<;>cases y.op.cls<;>simp[clash],h.hy,h.hx,fun e=>h.site e.symm⟩
theorem pA {x y:bz} (h:DZ x y=true):BM x y:=by
 unfold DZ at h
 simp only[Bool.and_eq_true,Bool.not_eq_true',Bool.or_eq_true,bne_iff_ne]at h
 obtain⟨⟨⟨⟨h1,h2⟩,h3⟩,h4⟩,h5⟩:=h
 unfold r6 at h1
 simp only[Bool.and_eq_true]at h1
 obtain⟨a1,a2⟩:=h1
 refine⟨fun k hk=>?_,fun k hk=>?_,fun k hk=>?_,h2,fun hm=>?_,fun hm=>?_,h5⟩
 ·rw[hk]at a1;simp at a1;exact a1.1
 ·rw[hk]at a2;simpa using a2
 ·rw[hk]at a1;simp at a1;exact a1.2
 ·rcases h3 with h3|h3
  ·rw[hm]at h3;cases h3
  ·exact h3
 ·rcases h4 with h4|h4
  ·rw[hm]at h4;cases h4
  ·exact h4
theorem qK {vo:bz} {t:Nat} (h:t∈vo.op.gn):t∈vo.gn:=List.mem_append_left _ h
theorem mz {vo:bz} {env iF:Env} (h:∀t∈vo.gn,env t=iF t):az vo.guard env=az vo.guard iF:=by
 unfold az
 cases hg:vo.guard with
 |none=>rfl
 |some p=>
  obtain⟨t,b⟩:=p
  have:env t=iF t:=h t (List.mem_append_right _ (by rw[hg];simp))
  simp only[this]
theorem tN {n:Nat} {vo:bz} {env iF:Env} {g g':Rows} {v:AV} (h:∀t∈vo.gn,env t=iF t) (hv:GS X n vo env g v g'):GS X n vo iF g v g':=by
 unfold GS at hv ⊢
 rw[<-mz h]
 split at hv
 ·rename_i hw;rw[if_pos hw];exact GU (fun t ht=>h t (qK ht)) hv
 ·rename_i hw;rw[if_neg hw];exact hv
theorem DG {n:Nat} {x y:bz} {env:Env} {g g1 g2:Rows} {v v':AV} (F:BM x y) (h1:GS X n x env g v g1) (h2:GS X n y (upd env x.dst v) g1 v' g2):
  ∃JX,GS X n y env g v' JX/\GS X n x (upd env y.dst v') JX v g2/\upd (upd env x.dst v) y.dst v'=upd (upd env y.dst v') x.dst v:=by
 have HR:=vq (env:=env) (v:=v) (u:=v') F.dst
 replace h2:GS X n y env g1 v' g2:=tN (lW F.xy) h2
 have back:∀{JX},GS X n x env JX v g2->GS X n x (upd env y.dst v') JX v g2:=fun h=>tN (fun t ht=>(lW F.yx t ht).symm) h
 unfold GS at h1 h2
 by_cases wx:az x.guard env=true
 ·rw[if_pos wx]at h1
  by_cases wy:az y.guard env=true
  ·rw[if_pos wy]at h2
   by_cases cx:x.op.cls=.write
   ·have cy:y.op.cls=.pure:=by
     have:=F.cls;rw[cx]at this
     cases hc:y.op.cls<;>simp[clash,hc]at this ⊢
    obtain⟨rfl,dH⟩:=xN cy h2
    exact⟨g,by unfold GS;rw[if_pos wy];exact dH g,back (by unfold GS;rw[if_pos wx];exact h1),HR⟩
   ·by_cases cy:y.op.cls=.write
    ·have cx':x.op.cls=.pure:=by
      have:=F.cls;rw[cy]at this
      cases hc:x.op.cls<;>simp[clash,hc]at this ⊢
     obtain⟨rfl,dH⟩:=xN cx' h1
     exact⟨g2,by unfold GS;rw[if_pos wy];exact h2,back (by unfold GS;rw[if_pos wx];exact dH g2),HR⟩
    ·obtain⟨mx,rfl,kx,Sa⟩:=tR cx h1
     obtain⟨my,rfl,ky,Ml⟩:=tR cy h2
     have gF:(⟨x.site,n⟩:Id)≠⟨y.site,n⟩:=fun e=>F.site (by injection e)
     refine⟨iR g ⟨y.site,n⟩ my,?_,back ?_,HR⟩
     ·unfold GS;rw[if_pos wy]
      exact Ml g (Br fun h=>F.hx (kx h)).symm
     ·unfold GS;rw[if_pos wx,EM gF]
      exact Sa _ (Br fun h=>F.hy (ky h))
  ·rw[if_neg wy]at h2
   obtain⟨rfl,rfl⟩:=h2
   exact⟨g,by unfold GS;rw[if_neg wy];exact⟨rfl,rfl⟩,back (by unfold GS;rw[if_pos wx];exact h1),HR⟩
 ·rw[if_neg wx]at h1
  obtain⟨rfl,rfl⟩:=h1
  exact⟨g2,h2,back (by unfold GS;rw[if_neg wx];exact⟨rfl,rfl⟩),HR⟩
end
end Go.Proofs.YtgoljkjaameagaaGreat.V

namespace Go.Proofs.YtgoljkjaameagaaGreat.V
open Go.RowKit
variable {P:Program} {w w':World} {D D' D2:Nat->Prop} {ι ι' ι2:Names}
section
variable {hs:Nat} {X:fy}
def iS (acc:Array Nat) (o:Oper):Nat:=o.after.foldl (fun s e=>if Region.binds .any e then s|||2 ^ e.on|||acc.getD e.on 0 else s) 0
theorem JI (ops:Array Oper):jj ops=ops.foldl (fun acc o=>acc.push (iS acc o)) #[]:=rfl
theorem zI {acc:Array Nat} {o:Oper} {i:Nat} (h:(iS acc o).testBit i=true):∃e∈o.after,Region.binds .any e=true/\(e.on=i∨(acc.getD e.on 0).testBit i=true):=by
 unfold iS at h
 rw[<-Array.foldl_toList]at h
 have gen:∀(l:List Edge) (s:Nat),(l.foldl (fun s e=>if Region.binds .any e then s|||2 ^ e.on|||acc.getD e.on 0 else s) s).testBit i=true->s.testBit i=true∨∃e∈l,Region.binds .any e=true/\(e.on=i∨(acc.getD e.on 0).testBit i=true):=by
  intro l
  induction l with
  |nil=>intro s h;exact .inl h
  |cons e r ih=>
   intro s h
   rw[List.foldl_cons]at h
   rcases ih _ h with h|⟨e',J1,h'⟩
   ·by_cases hb:Region.binds .any e=true
    ·rw[if_pos hb]at h
     simp only[Nat.testBit_or,Bool.or_eq_true]at h
     rcases h with(h|h)|h
     ·exact .inl h
     ·refine .inr ⟨e,by simp,hb,.inl ?_⟩
      rw[Nat.testBit_two_pow]at h
      simpa using h
     ·exact .inr ⟨e,by simp,hb,.inr h⟩
    ·rw[if_neg hb]at h;exact .inl h
   ·exact .inr ⟨e',List.mem_cons_of_mem _ J1,h'⟩
 rcases gen _ _ h with h|⟨e,he,h⟩
 ·simp at h
 ·exact⟨e,Array.mem_toList_iff.1 he,h⟩
theorem G3 {ops:Array Oper} {j i:Nat} (h:((jj ops).getD j 0).testBit i=true):∃o,ops[j]? =some o/\∃e∈o.after,Region.binds .any e=true/\(e.on=i∨((jj ops).getD e.on 0).testBit i=true):=by
 have key:∀(l pre:List Oper) (acc:Array Nat),acc.size=pre.length->(∀j i,(acc.getD j 0).testBit i=true->∃o,pre[j]? =some o/\∃e∈o.after,Region.binds .any e=true/\(e.on=i∨(acc.getD e.on 0).testBit i=true))->
   ∀j i,((l.foldl (fun acc o=>acc.push (iS acc o)) acc).getD j 0).testBit i=true->∃o,(pre++l)[j]? =some o/\∃e∈o.after,Region.binds .any e=true/\(e.on=i∨((l.foldl (fun acc o=>acc.push (iS acc o)) acc).getD e.on 0).testBit i=true):=by
  intro l
  induction l with
  |nil=>intro pre acc _ h j i hb;simpa using h j i hb
  |cons o r ih=>
   intro pre acc fb h j i hb
   have A6:∀k,k<acc.size->(acc.push (iS acc o)).getD k 0=acc.getD k 0:=fun k hk=>by
    simp only[Array.getD_eq_getD_getElem?,Array.getElem?_push]
    rw[if_neg (by omega)]
   have big:∀k,acc.size<=k->acc.getD k 0=0:=fun k hk=>by simp[Array.getElem?_eq_none hk]
   have lift:∀k i,(acc.getD k 0).testBit i=true->((acc.push (iS acc o)).getD k 0).testBit i=true:=fun k i hk=>by
    by_cases dV:k<acc.size
    ·rw[A6 k dV];exact hk
    ·rw[big k (by omega)]at hk;simp at hk
   have:=ih (pre++[o]) (acc.push (iS acc o)) (by simp[fb]) (fun j i hb=>by
    by_cases dV:j<acc.size
    ·rw[A6 j dV]at hb
     obtain⟨o',BD,e,he,fM,h2⟩:=h j i hb
     refine⟨o',by rw[List.getElem?_append_left (by omega)];exact BD,e,he,fM,?_⟩
     rcases h2 with h2|h2
     ·exact .inl h2
     ·exact .inr (lift _ _ h2)
    ·by_cases hj:j=acc.size
     ·subst hj
      have e0:(acc.push (iS acc o)).getD acc.size 0=iS acc o:=by simp
      rw[e0]at hb
      obtain⟨e,he,fM,h2⟩:=zI hb
      refine⟨o,by rw[List.getElem?_append_right (by omega),fb];simp,e,he,fM,?_⟩
      rcases h2 with h2|h2
      ·exact .inl h2
      ·exact .inr (lift _ _ h2)
     ·have:(acc.push (iS acc o)).getD j 0=0:=by
       simp only[Array.getD_eq_getD_getElem?]
       rw[Array.getElem?_eq_none (by simp;omega)];rfl
      rw[this]at hb;simp at hb) j i (by simpa using hb)
   simpa using this
 rw[JI,<-Array.foldl_toList]at h ⊢
 have:=key ops.toList [] #[] rfl (fun j i h=>by simp at h) j i h
 simpa using this
def DC (ops:Array Oper) (listed:Array Bool):Prop:=∀k i,listed.getD k false=true->((jj ops).getD k 0).testBit i=true->listed.getD i false=true
theorem kr {ops:Array Oper} {listed:Array Bool} (h:DC ops listed) {j:Nat} (hj:j∈Region.ready .any ops listed):∀i,((jj ops).getD j 0).testBit i=true->listed.getD i false=true:=by
 intro i hb
 obtain⟨_,o,ho,dH⟩:=mem_ready.1 hj
 obtain⟨o',BD,e,he,fM,h2⟩:=G3 hb
 rw[ho]at BD;injection BD with BD;subst BD
 have hl:=dH e he fM
 rcases h2 with h2|h2
 ·rw[<-h2];exact hl
 ·exact h _ _ hl h2
theorem DC.list {ops:Array Oper} {listed:Array Bool} (h:DC ops listed) {j:Nat} (hj:j∈Region.ready .any ops listed):DC ops (listed.setIfInBounds j true):=by
 intro k i hk hb
 by_cases hkj:k=j
 ·subst hkj;exact getD_set_true (kr h hj i hb)
 ·rw[getD_set_ne false (fun e=>hkj e.symm)]at hk
  exact getD_set_true (h k i hk hb)
theorem iN {ops:Array Oper} {listed:Array Bool} {j:Nat} (hj:j∈Region.ready .any ops listed):listed.getD j false=false:=by
 have h0:=(mem_ready.1 hj).1
 rcases Nat.lt_or_ge j listed.size with h|h
 ·simp[h]at h0 ⊢;exact h0
 ·simp[Array.getElem?_eq_none h]at h0
def I1 (X:fy) (n:Nat) (ops:Array Oper) (vl:List bz) (K:Env->Rows->Prop):Nat->Array Bool->Env->Rows->Prop
 |0,listed,env,g=>Region.ready .any ops listed=[]/\K env g
 |f+1,listed,env,g=>(Region.ready .any ops listed=[]->K env g)/\∀i∈Region.ready .any ops listed,∃vo,vl[i]? =some vo/\∃v g',GS X n vo env g v g'/\I1 X n ops vl K f (listed.setIfInBounds i true) (upd env vo.dst v) g'
theorem zU {ops:Array Oper} {vl:List bz} (h:nG ops vl (jj ops)=true) {i j:Nat} {x y:bz} (hi:vl[i]? =some x) (hj:vl[j]? =some y) (Fp:i≠j) (h1:((jj ops).getD j 0).testBit i=false) (h2:((jj ops).getD i 0).testBit j=false):BM x y:=by
 unfold nG at h
 simp only[Bool.and_eq_true,List.all_eq_true]at h
 obtain⟨_,h⟩:=h
 have mem:∀(k:Nat) (z:bz),vl[k]? =some z->(z,k)∈vl.zipIdx:=fun k z hk=>by
  rw[List.mem_iff_getElem?]
  exact⟨k,by simp[List.getElem?_zipIdx,hk]⟩
 rcases Nat.lt_or_gt_of_ne Fp with dV|J5
 ·have:=h _ (mem j y hj) _ (mem i x hi)
  simp only[dV,decide_true,Bool.not_true,Bool.false_or,h1]at this
  exact pA this
 ·have:=h _ (mem i x hi) _ (mem j y hj)
  simp only[J5,decide_true,Bool.not_true,Bool.false_or,h2]at this
  exact(pA this).symm
theorem DD {n:Nat} {ops:Array Oper} {vl:List bz} {K:Env->Rows->Prop} (qo:nG ops vl (jj ops)=true) (hlen:vl.length=ops.size) {i:Nat} {vi:bz} (hi:vl[i]? =some vi) {v:AV}:∀(fuel:Nat) (listed:Array Bool) (env:Env) (g g1:Rows),
  DC ops listed->i∈Region.ready .any ops listed->GS X n vi env g v g1->I1 X n ops vl K fuel (listed.setIfInBounds i true) (upd env vi.dst v) g1->I1 X n ops vl K (fuel+1) listed env g:=by
 intro fuel
 induction fuel with
 |zero=>
  intro listed env g g1 _ hr hG H
  refine⟨fun h=>(by rw[h]at hr;cases hr),fun j hj=>?_⟩
  by_cases lX:j=i
  ·subst lX;exact⟨vi,hi,v,g1,hG,H⟩
  ·have:=ready_mono hj lX
   rw[H.1]at this;cases this
 |succ fuel ih=>
  intro listed env g g1 qT hr hG H
  refine⟨fun h=>(by rw[h]at hr;cases hr),fun j hj=>?_⟩
  by_cases lX:j=i
  ·subst lX;exact⟨vi,hi,v,g1,hG,H⟩
  ·obtain⟨vj,Ki,v',g2,hG2,H2⟩:=H.2 j (ready_mono hj lX)
   have b1:((jj ops).getD j 0).testBit i=false:=by
    cases hb:((jj ops).getD j 0).testBit i with
    |false=>rfl
    |true=>have:=kr qT hj i hb;rw[iN hr]at this;cases this
   have b2:((jj ops).getD i 0).testBit j=false:=by
    cases hb:((jj ops).getD i 0).testBit j with
    |false=>rfl
    |true=>have:=kr qT hr j hb;rw[iN hj]at this;cases this
   have F:=zU qo hi Ki (fun e=>lX e.symm) b1 b2
   obtain⟨JX,q1,q2,q3⟩:=DG F hG hG2
   refine⟨vj,Ki,v',JX,q1,ih _ _ _ g2 (qT.list hj) (ready_mono hr (fun e=>lX e.symm)) q2 ?_⟩
   rw[<-q3,Array.setIfInBounds_comm _ _ lX]
   exact H2
theorem Mh {n:Nat} {vo:bz} {env:Env} {g:Rows} {v:AV} {mr:Option Row} (h:ec vo.op (cJ env) (eW vo.hid n g) ⟨vo.site,n⟩=some (v,mr)):VS X n vo env g v (iR g ⟨vo.site,n⟩ mr):=by
 unfold VS
 split
 ·rename_i dZ;rw[dZ]at h;simp[ec]at h
 ·rename_i dZ;rw[dZ]at h;simp[ec]at h
 ·rename_i dZ;rw[dZ]at h;simp[ec]at h
 ·rename_i dZ;rw[dZ]at h;simp[ec]at h
 ·rename_i dZ;rw[dZ]at h;simp[ec]at h
 ·rename_i dZ;rw[dZ]at h;simp[ec]at h
 ·rename_i dZ;rw[dZ]at h;simp[ec]at h
 ·exact⟨mr,h,rfl⟩
theorem GV {n:Nat} {vo:bz} {env:Env} {g g':Rows} {v:AV} (h:eY vo.op (cJ env) g ⟨vo.site,n⟩=some (v,g')):VS X n vo env g v g':=by
 unfold VS
 split
 ·rename_i dZ;rw[dZ]at h;simp[eY]at h
 ·rename_i dZ;rw[dZ]at h;simp[eY]at h
 ·exact h
 ·exact h
 ·exact h
 ·exact h
 ·exact h
 ·rename_i n1 n2 n3 n4 n5 n6 n7
  exfalso
  unfold eY at h
  split at h
  ·rename_i hh;exact n3 _ _ _ hh
  ·rename_i hh;exact n4 _ _ _ hh
  ·rename_i hh;exact n5 _ _ _ hh
  ·rename_i hh;exact n6 _ _ hh
  ·rename_i hh;exact n7 _ _ hh
  ·simp at h
theorem N9 {vo:bz} {env:Env} {σ:ar} {next:AV->ar->Prop} (hv:eQ X true vo env σ next):∃v g',VS X σ.next vo env σ.get v g'/\next v ⟨g',σ.next⟩:=by
 unfold eQ at hv
 split at hv
 ·rename_i f args dZ
  rcases hv with⟨r,hP,hn⟩|⟨h,_⟩|⟨hs,sz,rows,hM,hn⟩
  ·exact⟨r,σ.get,by unfold VS;rw[dZ];exact .inl ⟨hP,rfl⟩,hn⟩
  ·cases h
  ·exact⟨_,_,by unfold VS;rw[dZ];exact .inr ⟨hs,sz,rows,hM,rfl,rfl⟩,hn⟩
 ·rename_i x args dZ
  split at hv
  ·rename_i f cU hx
   have vH:tW (cJ env x) (args.map (cJ env))=some (f,args.map (cJ env)++cU):=by rw[hx];rfl
   rcases hv with⟨r,hP,hn⟩|⟨h,_⟩|⟨hs,sz,rows,hM,hn⟩
   ·exact⟨r,σ.get,by unfold VS;rw[dZ];exact⟨f,_,vH,.inl ⟨hP,rfl⟩⟩,hn⟩
   ·cases h
   ·exact⟨_,_,by unfold VS;rw[dZ];exact⟨f,_,vH,.inr ⟨hs,sz,rows,hM,rfl,rfl⟩⟩,hn⟩
  ·rename_i f cU hx
   have vH:tW (cJ env x) (args.map (cJ env))=some (f,cU++args.map (cJ env)):=by rw[hx];rfl
   rcases hv with⟨r,hP,hn⟩|⟨h,_⟩|⟨hs,sz,rows,hM,hn⟩
   ·exact⟨r,σ.get,by unfold VS;rw[dZ];exact⟨f,_,vH,.inl ⟨hP,rfl⟩⟩,hn⟩
   ·cases h
   ·exact⟨_,_,by unfold VS;rw[dZ];exact⟨f,_,vH,.inr ⟨hs,sz,rows,hM,rfl,rfl⟩⟩,hn⟩
  ·exact hv.elim
 ·split at hv
  ·rename_i v g h;exact⟨v,g,GV h,hv⟩
  ·exact hv.elim
 ·split at hv
  ·rename_i v g h;exact⟨v,g,GV h,hv⟩
  ·exact hv.elim
 ·split at hv
  ·rename_i v g h;exact⟨v,g,GV h,hv⟩
  ·exact hv.elim
 ·split at hv
  ·rename_i v g h;exact⟨v,g,GV h,hv⟩
  ·exact hv.elim
 ·split at hv
  ·rename_i v g h;exact⟨v,g,GV h,hv⟩
  ·exact hv.elim
 ·split at hv
  ·rename_i v r h;exact⟨v,_,Mh h,hv⟩
  ·rename_i v h;exact⟨v,_,Mh h,hv⟩
  ·exact hv.elim
theorem vw {ops:Array Oper} {vl:List bz} {K:Env->ar->Prop} {n:Nat} (qo:nG ops vl (jj ops)=true) (hlen:vl.length=ops.size):∀(r:List bz) (k:Nat) (listed:Array Bool) (env:Env) (g:Rows),
  (∀j,r[j]? =vl[k+j]?)->listed.size=ops.size->(∀i,i<ops.size->listed[i]? =some (decide (i<k)))->k+r.length=ops.size->DC ops listed->wpOps X true r K env ⟨g,n⟩->I1 X n ops vl (fun env g=>K env ⟨g,n+1⟩) r.length listed env g
 |[],k,listed,env,g,_,fb,hl,hk,_,hv=>by
  refine⟨?_,hv⟩
  rw[List.eq_nil_iff_forall_not_mem]
  intro j hj
  obtain⟨h0,o,ho,_⟩:=mem_ready.1 hj
  have dV:j<ops.size:=(Array.getElem?_eq_some_iff.1 ho).1
  have:=hl j dV
  simp at hk
  simp[this,show j<k by omega]at h0
 |vo::r,k,listed,env,g,hr,fb,hl,hk,qT,hv=>by
  simp only[List.length_cons]at hk
  have mN:vl[k]? =some vo:=by simpa using(hr 0).symm
  have kJ:k<ops.size:=by omega
  have HM:k∈Region.ready .any ops listed:=by
   rw[mem_ready]
   refine⟨by simp[hl k kJ],ops[k],Array.getElem?_eq_getElem kJ,fun e he hb=>?_⟩
   unfold nG DS at qo
   simp only[Bool.and_eq_true,List.all_eq_true]at qo
   have hm:(ops[k],k)∈ops.toList.zipIdx:=by
    rw[List.mem_iff_getElem?]
    exact⟨k,by simp[List.getElem?_zipIdx,kJ]⟩
   have:=qo.1 _ hm
   rw[Array.all_eq_true_iff_forall_mem]at this
   have:=this e he
   simp only[hb,Bool.not_true,Bool.false_or,decide_eq_true_eq]at this
   simp[hl e.on (by omega),this]
  have hGS:∃v g',GS X n vo env g v g'/\wpOps X true r K (upd env vo.dst v) ⟨g',n⟩:=by
   unfold wpOps at hv
   unfold GS
   split at hv
   ·rename_i hw
    simp only[hw,if_true]
    exact N9 hv
   ·rename_i hw
    simp only[hw]
    exact⟨.undef,g,⟨rfl,rfl⟩,hv⟩
  obtain⟨v,g',h1,h2⟩:=hGS
  refine DD qo hlen mN r.length listed env g g' qT HM h1 ?_
  refine vw qo hlen r (k+1) _ _ _ (fun j=>by have:=hr (j+1);simpa[Nat.add_assoc,Nat.add_comm 1 j]using this) (by simp[fb]) (fun i hi=>?_) (by omega) (qT.list HM) h2
  by_cases w8:i=k
  ·subst w8;simp[fb,kJ]
  ·rw[Array.getElem?_setIfInBounds_ne (fun e=>w8 e.symm),hl i hi]
   congr 1
   have:(i<k)=(i<k+1):=by apply propext;omega
   simp[this]
theorem nA {f:Nat->Oper->Option bz}:∀{l:List Oper} {vl:List bz} {j:Nat},allM f l j=some vl->vl.length=l.length/\∀(i:Nat) (o:Oper),l[i]? =some o->∃vo,vl[i]? =some vo/\f (j+i) o=some vo
 |[],vl,j,h=>by simp[allM]at h;subst h;simp
 |o::l,vl,j,h=>by
  simp only[allM,Option.bind_eq_bind,Option.bind_eq_some_iff,Option.pure_def,Option.some.injEq]at h
  obtain⟨vo,mN,r7,qY,rfl⟩:=h
  obtain⟨h1,h2⟩:=nA qY
  refine⟨by simp[h1],fun i o' hi=>?_⟩
  cases i with
  |zero=>simp at hi;subst hi;exact⟨vo,rfl,mN⟩
  |succ i=>
   simp at hi
   obtain⟨q,hq,hf⟩:=h2 i o' hi
   exact⟨q,by simpa using hq,by rw[<-hf];congr 1;omega⟩
theorem wH {ops:Array Oper} {vl:List bz} {nt site0:Nat} {draw mk:Bool} {bs:Array Nat} {hidden:List (Nat×Bool)} {n:Nat} {K:Env->Rows->Prop} {Q:Exit->Act->World->Prop} (dH:allM (lG P ops nt site0 draw mk bs hidden) ops.toList 0=some vl):
  ∀(fuel:Nat) (listed:Array Bool) (env:Env) (g:Rows) (a:Act) (w:World) (D:Nat->Prop) (ι:Names) (U:Nat->Prop),I1 (Sound P) n ops vl K fuel listed env g->gp P hs D ι g w->Used ι n U->(∀s,U s->∃i,s=site0+i/\listed.getD i false=true)->cF P w D ι env a->a.tmps.size=nt->
  (∀ik g' a' w' D' ι' U',K ik g'->Step hs D ι w D' ι' w'->gp P hs D' ι' g' w'->Used ι' n U'->cF P w' D' ι' ik a'->a'.tmps.size=nt->a'.defers=a.defers->Q .normal a' w')->wpAny P .any ops Q fuel listed a w:=by
 intro fuel
 induction fuel with
 |zero=>intro listed env g a w D ι U h S Us hU E fb hQ;exact⟨h.1,hQ env g a w D ι U h.2 (Step.refl _ _ _ _) S Us E fb rfl⟩
 |succ fuel ih=>
  intro listed env g a w D ι U h S Us hU E fb hQ
  refine⟨fun hr=>hQ env g a w D ι U (h.1 hr) (Step.refl _ _ _ _) S Us E fb rfl,fun i hi=>?_⟩
  obtain⟨vo,mN,v,g',hG,LL⟩:=h.2 i hi
  obtain⟨_,o,ho,_⟩:=mem_ready.1 hi
  obtain⟨vo',lK,PQ⟩:=(nA dH).2 i o (by simpa using ho)
  rw[mN]at lK;injection lK with lK;subst lK
  rw[Nat.zero_add]at PQ
  obtain⟨hc,hd,Av,vW,hg⟩:=oy PQ
  have hw:=r8 (ops:=ops) (vo:=vo) E hg
  have SH:¬U vo.site:=fun hu=>by
   obtain⟨i',he,hl⟩:=hU _ hu
   have:i'=i:=by omega
   subst this
   rw[iN hi]at hl;cases hl
  have jk:i<listed.size:=by
   have h0:=(mem_ready.1 hi).1
   rcases Nat.lt_or_ge i listed.size with h|h
   ·exact h
   ·simp[Array.getElem?_eq_none h]at h0
  unfold wpOp
  simp only[ho]
  rw[<-hw]
  unfold GS at hG
  by_cases Fx:az vo.guard env=true
  ·rw[if_pos Fx]
   rw[if_pos Fx]at hG
   refine .inl (zE hc hG S Us SH E fun a' w' ⟨u,D',ι',ha,T,S',hR,U'⟩=>?_)
   subst ha
   refine ih _ _ _ _ w' D' ι' _ LL S' U' (fun s Aq=>?_) (by rw[hd];exact l8 (nH E T) hR vW fb) (by rw[kp];exact fb) fun ik g2 a2 w2 D2 ι2 U2 hk T2 S2 R9 E2 kK Cx=>hQ ik g2 a2 w2 D2 ι2 U2 hk (T.trans T2) S2 R9 E2 kK (Cx.trans (put_defers _ _ _))
   rcases Aq with h|h
   ·obtain⟨i',he,hl⟩:=hU _ h
    exact⟨i',he,getD_set_true hl⟩
   ·exact⟨i,by rw[h,Av],by simp[jk]⟩
  ·rw[if_neg Fx]
   rw[if_neg Fx]at hG
   obtain⟨rfl,rfl⟩:=hG
   refine ih _ _ _ _ w D ι U LL S Us (fun s Aq=>?_) (by rw[hd];exact l8 E cV.undef vW fb) (by rw[kp];exact fb) fun ik g2 a2 w2 D2 ι2 U2 hk T2 S2 R9 E2 kK Cx=>hQ ik g2 a2 w2 D2 ι2 U2 hk T2 S2 R9 E2 kK (Cx.trans (put_defers _ _ _))
   obtain⟨i',he,hl⟩:=hU _ Aq
   exact⟨i',he,getD_set_true hl⟩
end
end Go.Proofs.YtgoljkjaameagaaGreat.V

namespace Go.Proofs.YtgoljkjaameagaaGreat.V
open Go.RowKit
variable {P:Program} {w w':World} {D D' D2:Nat->Prop} {ι ι' ι2:Names}
section
variable {hs:Nat} {X:fy}
def oX (X:fy):Prop:=∀f args σ K K',(∀r σ',K r σ'->K' r σ')->X f args σ K->X f args σ K'
theorem pd:oX (Sound P):=fun _ _ _ _ _ hK h hs D ι w vs S U A=>
 (h hs D ι w vs S U A).mono fun _ _ ⟨r,g',n',D',ι',u,he,hk,rest⟩=>⟨r,g',n',D',ι',u,he,hK _ _ hk,rest⟩
def step (X:fy) (vo:bz) (N:Env->ar->Prop) (env:Env) (σ:ar):Prop:=
 if az vo.guard env then eQ X false vo env σ fun v σ'=>N (upd env vo.dst v) σ' else N (upd env vo.dst .undef) σ
theorem pk (hK:oX X) {draw:Bool} {hid:List Nat} {site f:Nat} {args:List AV} {σ:ar} {n n':AV->ar->Prop} (hn:∀v σ',n v σ'->n' v σ') (hp:bV X draw hid site f args σ n):bV X draw hid site f args σ n':=by
 rcases hp with⟨r,h1,h2⟩|⟨h1,h2⟩|⟨h1,sz,rows,h2,h3⟩
 ·exact .inl ⟨r,h1,hn _ _ h2⟩
 ·exact .inr (.inl ⟨h1,hK _ _ _ _ _ hn h2⟩)
 ·exact .inr (.inr ⟨h1,sz,rows,h2,hn _ _ h3⟩)
theorem Bt (hK:oX X) {draw:Bool} {o:bz} {env:Env} {σ:ar} {n n':AV->ar->Prop} (hn:∀v σ',n v σ'->n' v σ') (hp:eQ X draw o env σ n):eQ X draw o env σ n':=by
 unfold eQ at hp ⊢
 split at hp
 ·exact pk hK hn hp
 ·split at hp
  ·exact pk hK hn hp
  ·exact pk hK hn hp
  ·exact hp.elim
 ·split at hp
  ·exact hn _ _ hp
  ·exact hp.elim
 ·split at hp
  ·exact hn _ _ hp
  ·exact hp.elim
 ·split at hp
  ·exact hn _ _ hp
  ·exact hp.elim
 ·split at hp
  ·exact hn _ _ hp
  ·exact hp.elim
 ·split at hp
  ·exact hn _ _ hp
  ·exact hp.elim
 ·split at hp
  ·exact hn _ _ hp
  ·exact hn _ _ hp
  ·exact hp.elim
theorem jB (hK:oX X) {vo:bz} {N N':Env->ar->Prop} (h:∀e s,N e s->N' e s) {env:Env} {σ:ar} (hp:step X vo N env σ):step X vo N' env σ:=by
 unfold step at hp ⊢
 split at hp
 ·rename_i hw;rw[if_pos hw];exact Bt hK (fun v σ'=>h _ _) hp
 ·rename_i hw;rw[if_neg hw];exact h _ _ hp
theorem Gr {env iF:Env} {vo:bz} {σ:ar} {n:AV->ar->Prop} (h:∀t∈vo.op.gn,env t=iF t) (hv:eQ X false vo env σ n):eQ X false vo iF σ n:=by
 unfold eQ at hv ⊢
 split at hv
 ·rename_i f args dZ
  rw[dZ]at h
  simp only[gh.gn]at h
  rw[<-map_congr h];exact hv
 ·rename_i x args dZ
  rw[dZ]at h
  simp only[gh.gn,List.mem_append]at h
  rw[<-map_congr (l:=args) fun t ht=>h t (.inr ht),<-bw (x:=x) fun t ht=>h t (.inl ht)];exact hv
 ·rw[<-gE h];exact hv
 ·rw[<-gE h];exact hv
 ·rw[<-gE h];exact hv
 ·rw[<-gE h];exact hv
 ·rw[<-gE h];exact hv
 ·rw[<-rW h];exact hv
theorem k8 {x:bz} (hq:kq x=true) {N:Env->ar->Prop} {env:Env} {σ:ar}:step X x N env σ↔∃v g',GS X σ.next x env σ.get v g'/\N (upd env x.dst v) ⟨g',σ.next⟩:=by
 unfold kq at hq
 simp only[Bool.and_eq_true,Bool.not_eq_true',bne_iff_ne]at hq
 obtain⟨xc,l9⟩:=hq
 unfold step GS
 by_cases hw:az x.guard env=true
 ·rw[if_pos hw]
  simp only[hw,if_true]
  unfold eQ
  split
  ·rename_i dZ;simp[dZ,gh.lh]at xc
  ·rename_i dZ;simp[dZ,gh.lh]at xc
  ·rename_i dZ;simp[dZ,gh.cls]at l9
  ·rename_i dZ;simp[dZ,gh.cls]at l9
  ·rename_i dZ;simp[dZ,gh.cls]at l9
  ·rename_i dZ;simp[dZ,gh.cls]at l9
  ·rename_i dZ;simp[dZ,gh.cls]at l9
  ·rename_i n1 n2 n3 n4 n5 n6 n7
   have hVS:∀v g',VS X σ.next x env σ.get v g'↔∃mr,ec x.op (cJ env) (eW x.hid σ.next σ.get) ⟨x.site,σ.next⟩=some (v,mr)/\g'=iR σ.get ⟨x.site,σ.next⟩ mr:=fun v g'=>by
    unfold VS
    split
    ·rename_i hh;exact(n1 _ _ hh).elim
    ·rename_i hh;exact(n2 _ _ hh).elim
    ·rename_i hh;exact(n3 _ _ _ hh).elim
    ·rename_i hh;exact(n4 _ _ _ hh).elim
    ·rename_i hh;exact(n5 _ _ _ hh).elim
    ·rename_i hh;exact(n6 _ _ hh).elim
    ·rename_i hh;exact(n7 _ _ hh).elim
    ·exact Iff.rfl
   simp only[hVS]
   cases hz:ec x.op (cJ env) (eW x.hid σ.next σ.get) ⟨x.site,σ.next⟩with
   |none=>
    exact⟨fun h=>h.elim,fun⟨v,g',⟨mr,h,_⟩,_⟩=>by cases h⟩
   |some p=>
    obtain⟨v,mr⟩:=p
    have key:∀(v':AV) (g':Rows),(∃O4,some (v,mr)=some (v',O4)/\g'=iR σ.get ⟨x.site,σ.next⟩ O4)↔v'=v/\g'=iR σ.get ⟨x.site,σ.next⟩ mr:=fun v' g'=>by
     constructor
     ·rintro⟨O4,h1,h2⟩
      injection h1 with h1;injection h1 with h1 h3
      subst h1;subst h3
      exact⟨rfl,h2⟩
     ·rintro⟨rfl,rfl⟩;exact⟨mr,rfl,rfl⟩
    have fin:(∃v' g',(∃O4,some (v,mr)=some (v',O4)/\g'=iR σ.get ⟨x.site,σ.next⟩ O4)/\N (upd env x.dst v') ⟨g',σ.next⟩)↔N (upd env x.dst v) ⟨iR σ.get ⟨x.site,σ.next⟩ mr,σ.next⟩:=by
     constructor
     ·rintro⟨v',g',h,hN⟩
      obtain⟨rfl,rfl⟩:=(key v' g').1 h
      exact hN
     ·intro hN;exact⟨v,_,(key _ _).2 ⟨rfl,rfl⟩,hN⟩
    cases mr with
    |none=>exact fin.symm
    |some r=>exact fin.symm
 ·rw[if_neg hw]
  simp only[if_neg hw]
  exact⟨fun h=>⟨_,_,⟨rfl,rfl⟩,h⟩,fun⟨v,g',⟨hv,hg⟩,h⟩=>by rw[hv,hg]at h;exact h⟩
def xv (x:bz) (env:Env) (v:AV):Prop:=if az x.guard env then ec x.op (cJ env) (fun _=>none) ⟨0,0⟩=some (v,none)else v=.undef
theorem uO {x:bz} (hp:x.op.cls=.pure):kq x=true:=by
 unfold kq
 rw[hp]
 cases hc:x.op<;>simp[hc,gh.cls]at hp<;>rfl
theorem rZ {x:bz} (hp:x.op.cls=.pure) {N:Env->ar->Prop} {env:Env} {σ:ar}:step X x N env σ↔∃v,xv x env v/\N (upd env x.dst v) σ:=by
 rw[k8 (uO hp)]
 unfold GS xv
 by_cases hw:az x.guard env=true
 ·simp only[hw,if_true]
  constructor
  ·rintro⟨v,g',h,hN⟩
   obtain⟨rfl,dH⟩:=xN hp h
   refine⟨v,?_,hN⟩
   unfold VS at h
   split at h
   ·rename_i dZ;rw[dZ]at hp;simp[gh.cls]at hp
   ·rename_i dZ;rw[dZ]at hp;simp[gh.cls]at hp
   ·rename_i dZ;rw[dZ]at hp;simp[gh.cls]at hp
   ·rename_i dZ;rw[dZ]at hp;simp[gh.cls]at hp
   ·rename_i dZ;rw[dZ]at hp;simp[gh.cls]at hp
   ·rename_i dZ;rw[dZ]at hp;simp[gh.cls]at hp
   ·rename_i dZ;rw[dZ]at hp;simp[gh.cls]at hp
   ·obtain⟨mr,hq,_⟩:=h
    have Th:mr=none:=by
     cases mr with
     |none=>rfl
     |some r=>have:=uP hq;simp[pM,hp]at this
    subst Th
    rw[<-uQ (g:=eW x.hid σ.next σ.get) (id:=⟨x.site,σ.next⟩) hp];exact hq
  ·rintro⟨v,h,hN⟩
   exact⟨v,σ.get,Mh (mr:=none) (by rw[uQ (g2:=fun _=>none) (id2:=⟨0,0⟩) hp];exact h),hN⟩
 ·simp only[if_neg hw]
  exact⟨fun⟨v,g',⟨hv,hg⟩,h⟩=>⟨v,hv,by rw[hg]at h;exact h⟩,fun⟨v,hv,h⟩=>⟨v,σ.get,⟨hv,rfl⟩,h⟩⟩
theorem I8 {x:bz} {env iF:Env} {v:AV} (h:∀t∈x.gn,env t=iF t) (hv:xv x env v):xv x iF v:=by
 unfold xv at hv ⊢
 rw[<-mz h,<-rW fun t ht=>h t (qK ht)];exact hv
structure Lj (x y:bz):Prop where
 xy:∀k,x.dst=some k->k∉y.gn
 yx:∀k,y.dst=some k->k∉x.gn
 dst:∀k,x.dst=some k->y.dst≠some k
theorem qQ {x y:bz} (h:r6 x y=true):Lj x y:=by
 unfold r6 at h
 simp only[Bool.and_eq_true]at h
 obtain⟨a1,a2⟩:=h
 refine⟨fun k hk=>?_,fun k hk=>?_,fun k hk=>?_⟩
 ·rw[hk]at a1;simp at a1;exact a1.1
 ·rw[hk]at a2;simpa using a2
 ·rw[hk]at a1;simp at a1;exact a1.2
theorem w5 {x y:bz} (h:wZ x y=true):(Lj x y/\x.op.cls=.pure)∨(BM x y/\kq x=true/\kq y=true):=by
 unfold wZ at h
 simp only[Bool.or_eq_true,Bool.and_eq_true,beq_iff_eq]at h
 rcases h with⟨h1,h2⟩|⟨⟨h1,h2⟩,h3⟩
 ·exact .inl ⟨qQ h1,h2⟩
 ·exact .inr ⟨pA h1,h2,h3⟩
theorem Aa {x y:bz} (h:wZ x y=true):kq x=true:=by
 rcases w5 h with h|h
 ·exact uO h.2
 ·exact h.2.1
theorem Gb (hK:oX X) {x y:bz} (hf:wZ x y=true) {N:Env->ar->Prop} {env:Env} {σ:ar} (h:step X x (fun e s=>step X y N e s) env σ):step X y (fun e s=>step X x N e s) env σ:=by
 rcases w5 hf with⟨F,hp⟩|⟨F,hx,hy⟩
 ·rw[rZ hp]at h
  obtain⟨v,hx,h⟩:=h
  have HR:=fun(v':AV)=>vq (env:=env) (v:=v) (u:=v') F.dst
  have sC:=lW (env:=env) (v:=v) F.xy
  have back:∀(v':AV),xv x (upd env y.dst v') v:=fun v'=>I8 (fun t ht=>(lW F.yx t ht).symm) hx
  unfold step at h ⊢
  rw[mz sC]at h
  split at h
  ·rename_i hw
   rw[if_pos hw]
   refine Bt hK (fun v' σ' hN=>?_) (Gr (fun t ht=>sC t (qK ht)) h)
   rw[HR]at hN
   exact(rZ hp).2 ⟨v,back v',hN⟩
  ·rename_i hw
   rw[if_neg hw]
   rw[HR]at h
   exact(rZ hp).2 ⟨v,back _,h⟩
 ·rw[k8 hx]at h
  obtain⟨v,g1,h1,h⟩:=h
  rw[k8 hy]at h
  obtain⟨v',g2,h2,h⟩:=h
  obtain⟨JX,q1,q2,q3⟩:=DG F h1 h2
  rw[q3]at h
  exact(k8 hy).2 ⟨v',JX,q1,(k8 hx).2 ⟨v,g2,q2,h⟩⟩
def zl (X:fy) (ops:Array Oper) (vl:List bz) (K:Env->ar->Prop):Nat->Array Bool->Env->ar->Prop
 |0,listed,env,σ=>Region.ready .any ops listed=[]/\K env ⟨σ.get,σ.next+1⟩
 |f+1,listed,env,σ=>(Region.ready .any ops listed=[]->K env ⟨σ.get,σ.next+1⟩)/\∀i∈Region.ready .any ops listed,∃vo,vl[i]? =some vo/\step X vo (fun e s=>zl X ops vl K f (listed.setIfInBounds i true) e s) env σ
theorem Cm {ops:Array Oper} {vl:List bz} {bs:Array Nat} {listed:Array Bool} {i:Nat} (h:pz ops vl bs listed i=true) (j:Nat):pz ops vl bs (listed.setIfInBounds j true) i=true:=by
 unfold pz at h ⊢
 split at h
 ·rename_i x hx
  simp only[List.all_eq_true,Bool.or_eq_true]at h ⊢
  intro k hk
  rcases h k hk with((h|h)|h)|h
  ·exact .inl (.inl (.inl (getD_set_true h)))
  ·exact .inl (.inl (.inr h))
  ·exact .inl (.inr h)
  ·exact .inr h
 ·cases h
theorem sn {ops:Array Oper} {vl:List bz} {listed:Array Bool} {i j:Nat} {vi:bz} (qT:DC ops listed) (h:pz ops vl (jj ops) listed i=true) (hi:vl[i]? =some vi) (hr:i∈Region.ready .any ops listed) (hj:j∈Region.ready .any ops listed) (lX:j≠i):∃vj,vl[j]? =some vj/\wZ vi vj=true:=by
 unfold pz at h
 rw[hi]at h
 simp only[List.all_eq_true,Bool.or_eq_true,beq_iff_eq]at h
 obtain⟨_,o,ho,_⟩:=mem_ready.1 hj
 rcases h j (List.mem_range.2 (Array.getElem?_eq_some_iff.1 ho).1)with((h|h)|h)|h
 ·rw[iN hj]at h;cases h
 ·exact absurd h lX
 ·have:=kr qT hj i h
  rw[iN hr]at this;cases this
 ·split at h
  ·rename_i y hy;exact⟨y,hy,h⟩
  ·cases h
theorem DF (hK:oX X) {ops:Array Oper} {vl:List bz} {K:Env->ar->Prop} {i:Nat} {vi:bz} (hi:vl[i]? =some vi):∀(fuel:Nat) (listed:Array Bool) (env:Env) (σ:ar),
  DC ops listed->i∈Region.ready .any ops listed->pz ops vl (jj ops) listed i=true->step X vi (fun e s=>zl X ops vl K fuel (listed.setIfInBounds i true) e s) env σ->zl X ops vl K (fuel+1) listed env σ:=by
 intro fuel
 induction fuel with
 |zero=>
  intro listed env σ qT hr jY H
  refine⟨fun h=>(by rw[h]at hr;cases hr),fun j hj=>?_⟩
  by_cases lX:j=i
  ·subst lX;exact⟨vi,hi,H⟩
  ·obtain⟨vj,Ki,PX⟩:=sn qT jY hi hr hj lX
   rw[k8 (Aa PX)]at H
   obtain⟨v,g',_,H⟩:=H
   have:=ready_mono hj lX
   rw[H.1]at this;cases this
 |succ fuel ih=>
  intro listed env σ qT hr jY H
  refine⟨fun h=>(by rw[h]at hr;cases hr),fun j hj=>?_⟩
  by_cases lX:j=i
  ·subst lX;exact⟨vi,hi,H⟩
  ·obtain⟨vj,Ki,PX⟩:=sn qT jY hi hr hj lX
   refine⟨vj,Ki,?_⟩
   have H2:step X vi (fun e s=>step X vj (fun e s=>zl X ops vl K fuel ((listed.setIfInBounds i true).setIfInBounds j true) e s) e s) env σ:=jB hK (fun e s h=>by
    obtain⟨vj',yw,h'⟩:=h.2 j (ready_mono hj lX)
    rw[Ki]at yw;injection yw with yw;subst yw
    exact h') H
   refine jB hK (fun e s h=>?_) (Gb hK PX H2)
   refine ih _ _ _ (qT.list hj) (ready_mono hr (fun e=>lX e.symm)) (Cm jY j) ?_
   rw[Array.setIfInBounds_comm _ _ lX]
   exact h
theorem rY {x:bz} (hg:x.guard=none) {N:Env->ar->Prop} {env:Env} {σ:ar}:step X x N env σ=eQ X false x env σ (fun v σ'=>N (upd env x.dst v) σ'):=by
 unfold step
 rw[hg]
 simp[az]
theorem Dn {x y:bz} {t s sz:Nat} {ys:O} (hx:x.op=.append sz (.t t) ys) (hg:x.guard=none) (hf:DY s x y=true) {N:Env->ar->Prop} {env:Env} {σ:ar} (hl:Ky t s ys env σ.next) (h:step X x (fun e s=>step X y N e s) env σ):
  step X y (fun e σ'=>Ky t s ys e σ'.next/\step X x N e σ') env σ:=by
 unfold DY at hf
 simp only[Bool.and_eq_true,bne_iff_ne]at hf
 obtain⟨⟨⟨⟨⟨f1,hq⟩,f3⟩,f4⟩,f5⟩,f6⟩:=hf
 have F:=qQ f1
 obtain⟨⟨len,ht⟩,hsrc⟩:=hl
 have HP:∀k∈x.op.gn,∀v',upd env y.dst v' k=env k:=fun k hk v'=>lW (env:=env) (v:=v') F.yx k (qK hk)
 have er:t∈x.op.gn:=by rw[hx];simp[gh.gn,gz]
 have Ei:∀v',cJ (upd env y.dst v') ys=cJ env ys:=fun v'=>(bw fun k hk=>by rw[HP k (by rw[hx];simp[gh.gn,hk])]).symm
 rw[rY hg]at h
 unfold eQ at h
 simp only[hx,eY]at h
 have ex:cJ env (.t t)=.own ⟨s,σ.next⟩ 0 len:=ht
 rw[ex]at h
 cases hr:bd σ.get (cJ env ys)with
 |none=>rw[hr]at h;exact h.elim
 |some rs=>
  rw[hr]at h
  simp only[Option.bind_some,aH]at h
  cases HC:σ.get ⟨s,σ.next⟩with
  |none=>rw[HC]at h;exact h.elim
  |some r=>
   rw[HC]at h
   simp only[Option.bind_some]at h
   split at h
   ·rename_i v g1 hv
    split at hv
    ·rename_i hcond
     simp only[Option.some.injEq,Prod.mk.injEq]at hv
     obtain⟨rfl,rfl⟩:=hv
     rw[k8 hq]at h
     obtain⟨v',g2,hG,hN⟩:=h
     have Fq:(⟨y.site,σ.next⟩:Id)≠⟨s,σ.next⟩:=fun e=>f5 (by injection e)
     have HH:(⟨y.site,σ.next⟩:Id)≠⟨x.site,σ.next⟩:=fun e=>f6 (by injection e)
     replace hG:GS X σ.next y env (bH (bG σ.get ⟨s,σ.next⟩) ⟨x.site,σ.next⟩ ⟨true,sz,r.rows++rs⟩) v' g2:=tN (lW F.xy) hG
     have TE:eW y.hid σ.next σ.get=eW y.hid σ.next (bH (bG σ.get ⟨s,σ.next⟩) ⟨x.site,σ.next⟩ ⟨true,sz,r.rows++rs⟩):=by
      cases hh:y.hid with
      |nil=>rw[hh]at f3;simp at f3
      |cons a l=>
       rw[hh]at f3 f4
       funext i
       show(if (a::l).contains i.site=true/\i.bW=σ.next then none else σ.get i)=if (a::l).contains i.site=true/\i.bW=σ.next then none else _
       by_cases h1:i=⟨x.site,σ.next⟩
       ·subst h1;rw[if_pos ⟨f4,rfl⟩,if_pos ⟨f4,rfl⟩]
       ·by_cases h2:i=⟨s,σ.next⟩
        ·subst h2;rw[if_pos ⟨f3,rfl⟩,if_pos ⟨f3,rfl⟩]
        ·simp only[bH,bG,if_neg h1,if_neg h2]
     obtain⟨my,Fo,hG'⟩:∃my,g2=iR (bH (bG σ.get ⟨s,σ.next⟩) ⟨x.site,σ.next⟩ ⟨true,sz,r.rows++rs⟩) ⟨y.site,σ.next⟩ my/\GS X σ.next y env σ.get v' (iR σ.get ⟨y.site,σ.next⟩ my):=by
      unfold GS at hG ⊢
      by_cases wy:az y.guard env=true
      ·rw[if_pos wy]at hG
       have hcw:y.op.cls≠.write:=by
        unfold kq at hq
        simp only[Bool.and_eq_true,bne_iff_ne]at hq
        exact hq.2
       obtain⟨my,rfl,_,Ml⟩:=tR hcw hG
       exact⟨my,rfl,by rw[if_pos wy];exact Ml _ TE⟩
      ·rw[if_neg wy]at hG
       obtain⟨rfl,rfl⟩:=hG
       exact⟨none,rfl,by rw[if_neg wy];exact⟨rfl,rfl⟩⟩
     subst Fo
     refine(k8 hq).2 ⟨v',_,hG',⟨⟨len,by rw[HP t er];exact ht⟩,fun id o l he=>hsrc id o l (by rw[<-Ei v'];exact he)⟩,?_⟩
     rw[rY hg]
     unfold eQ
     have ex':cJ (upd env y.dst v') (.t t)=.own ⟨s,σ.next⟩ 0 len:=by
      show upd env y.dst v' t= _
      rw[HP t er];exact ht
     simp only[hx,eY,ex',Ei v']
     have np:bd (iR σ.get ⟨y.site,σ.next⟩ my) (cJ env ys)=some rs:=by
      cases my with
      |none=>exact hr
      |some row=>
       revert hr
       cases hev:cJ env ys<;>simp only[bd,iR]<;>try exact fun h=>h
       rename_i id o l
       have:id≠⟨y.site,σ.next⟩:=fun e=>hsrc id o l hev (by rw[e])
       simp only[bH,if_neg this];exact fun h=>h
     have S4:iR σ.get ⟨y.site,σ.next⟩ my ⟨s,σ.next⟩=some r:=by
      cases my with
      |none=>exact HC
      |some row=>simp only[iR,bH,if_neg (fun e=>Fq e.symm:(⟨s,σ.next⟩:Id)≠⟨y.site,σ.next⟩)];exact HC
     rw[np]
     simp only[Option.bind_some,aH,S4]
     rw[if_pos hcond]
     have hgg:bH (bG (iR σ.get ⟨y.site,σ.next⟩ my) ⟨s,σ.next⟩) ⟨x.site,σ.next⟩ ⟨true,sz,r.rows++rs⟩=iR (bH (bG σ.get ⟨s,σ.next⟩) ⟨x.site,σ.next⟩ ⟨true,sz,r.rows++rs⟩) ⟨y.site,σ.next⟩ my:=by
      cases my with
      |none=>rfl
      |some row=>
       funext i
       simp only[iR,bH,bG]
       by_cases h1:i=⟨y.site,σ.next⟩
       ·subst h1;rw[if_neg HH,if_neg Fq,if_pos rfl,if_pos rfl]
       ·simp only[if_neg h1]
     have hu:=vq (env:=env) (v:=AV.own ⟨x.site,σ.next⟩ 0 (len+rs.length)) (u:=v') F.dst
     show N (upd (upd env y.dst v') x.dst (.own ⟨x.site,σ.next⟩ 0 (len+rs.length))) ⟨bH (bG (iR σ.get ⟨y.site,σ.next⟩ my) ⟨s,σ.next⟩) ⟨x.site,σ.next⟩ ⟨true,sz,r.rows++rs⟩,σ.next⟩
     rw[hgg,<-hu]
     exact hN
    ·cases hv
   ·exact h.elim
theorem Cl {ops:Array Oper} {vl:List bz} {bs:Array Nat} {listed:Array Bool} {i s:Nat} (h:nJ ops vl bs listed i s=true) (j:Nat):nJ ops vl bs (listed.setIfInBounds j true) i s=true:=by
 unfold nJ at h ⊢
 split at h
 ·rename_i x hx
  simp only[List.all_eq_true,Bool.or_eq_true]at h ⊢
  intro k hk
  rcases h k hk with((h|h)|h)|h
  ·exact .inl (.inl (.inl (getD_set_true h)))
  ·exact .inl (.inl (.inr h))
  ·exact .inl (.inr h)
  ·exact .inr h
 ·cases h
theorem z6 {ops:Array Oper} {vl:List bz} {listed:Array Bool} {i j s:Nat} {vi:bz} (qT:DC ops listed) (h:nJ ops vl (jj ops) listed i s=true) (hi:vl[i]? =some vi) (hr:i∈Region.ready .any ops listed) (hj:j∈Region.ready .any ops listed) (lX:j≠i):∃vj,vl[j]? =some vj/\DY s vi vj=true:=by
 unfold nJ at h
 rw[hi]at h
 simp only[List.all_eq_true,Bool.or_eq_true,beq_iff_eq]at h
 obtain⟨_,o,ho,_⟩:=mem_ready.1 hj
 rcases h j (List.mem_range.2 (Array.getElem?_eq_some_iff.1 ho).1)with((h|h)|h)|h
 ·rw[iN hj]at h;cases h
 ·exact absurd h lX
 ·have:=kr qT hj i h
  rw[iN hr]at this;cases this
 ·split at h
  ·rename_i y hy;exact⟨y,hy,h⟩
  ·cases h
theorem Bu (hK:oX X) {ops:Array Oper} {vl:List bz} {K:Env->ar->Prop} {i t s sz:Nat} {ys:O} {vi:bz} (hi:vl[i]? =some vi) (hx:vi.op=.append sz (.t t) ys) (hg:vi.guard=none):∀(fuel:Nat) (listed:Array Bool) (env:Env) (σ:ar),
  DC ops listed->i∈Region.ready .any ops listed->nJ ops vl (jj ops) listed i s=true->Ky t s ys env σ.next->step X vi (fun e s=>zl X ops vl K fuel (listed.setIfInBounds i true) e s) env σ->zl X ops vl K (fuel+1) listed env σ:=by
 intro fuel
 induction fuel with
 |zero=>
  intro listed env σ qT hr jY OQ H
  refine⟨fun h=>(by rw[h]at hr;cases hr),fun j hj=>?_⟩
  by_cases lX:j=i
  ·subst lX;exact⟨vi,hi,H⟩
  ·exfalso
   have h0:=ready_mono hj lX
   rw[rY hg]at H
   unfold eQ at H
   simp only[hx]at H
   split at H
   ·rw[H.1]at h0;cases h0
   ·exact H
 |succ fuel ih=>
  intro listed env σ qT hr jY OQ H
  refine⟨fun h=>(by rw[h]at hr;cases hr),fun j hj=>?_⟩
  by_cases lX:j=i
  ·subst lX;exact⟨vi,hi,H⟩
  ·obtain⟨vj,Ki,PX⟩:=z6 qT jY hi hr hj lX
   refine⟨vj,Ki,?_⟩
   have H2:step X vi (fun e s=>step X vj (fun e s=>zl X ops vl K fuel ((listed.setIfInBounds i true).setIfInBounds j true) e s) e s) env σ:=jB hK (fun e s h=>by
    obtain⟨vj',yw,h'⟩:=h.2 j (ready_mono hj lX)
    rw[Ki]at yw;injection yw with yw;subst yw
    exact h') H
   refine jB hK (fun e s h=>?_) (Dn hx hg PX OQ H2)
   refine ih _ _ _ (qT.list hj) (ready_mono hr (fun e=>lX e.symm)) (Cl jY j) h.1 ?_
   rw[Array.setIfInBounds_comm _ _ lX]
   exact h.2
theorem H8 {ops:Array Oper} {vl:List bz} {bs:Array Nat} {listed:Array Bool} {i i' t s:Nat} {y:O} {vo:bz} (h:NL ops vl bs listed i=some (i',t,s,y,vo)):i'=i/\vl[i]? =some vo/\(∃sz,vo.op=.append sz (.t t) y)/\vo.guard=none/\nJ ops vl bs listed i s=true:=by
 unfold NL at h
 split at h
 ·rename_i x hx
  split at h
  ·rename_i t' s' y' iv
   split at h
   ·rename_i hf
    simp only[Option.some.injEq,Prod.mk.injEq]at h
    obtain⟨rfl,rfl,rfl,rfl,rfl⟩:=h
    unfold LV at iv
    split at iv
    ·rename_i sz t2 y2 ho tt
     split at iv
     ·simp only[Option.some.injEq,Prod.mk.injEq]at iv
      obtain⟨rfl,rfl,rfl⟩:=iv
      exact⟨rfl,hx,⟨sz,ho⟩,tt,hf⟩
     ·cases iv
    ·cases iv
   ·cases h
  ·cases h
 ·cases h
theorem wN {X:fy} {Q:Ex->Env->ar->Prop} {env:Env} {σ:ar}:∀{l:List VC} {t:VC},zK l=some t->dL X t Q env σ->∀c∈l,dL X c Q env σ
 |[],t,h,_,c,hc=>by cases hc
 |[c0],t,h,hw,c,hc=>by
  simp only[zK,Option.some.injEq]at h
  subst h
  rw[List.mem_singleton]at hc
  subst hc;exact hw
 |c0::c1::r,t,h,hw,c,hc=>by
  simp only[zK,Option.map_eq_some_iff]at h
  obtain⟨t',GC,rfl⟩:=h
  rcases List.mem_cons.1 hc with rfl|hc
  ·exact hw.1
  ·exact wN GC hw.2 c hc
theorem mapM_mem {α β:Type} {f:α->Option β}:∀{l:List α} {r:List β},l.mapM f=some r->∀i∈l,∃b∈r,f i=some b
 |[],_,_,i,hi=>by cases hi
 |a::l,r,h,i,hi=>by
  simp only[List.mapM_cons,Option.bind_eq_bind,Option.bind_eq_some_iff,Option.pure_def,Option.some.injEq]at h
  obtain⟨b,hb,r',hr,rfl⟩:=h
  rcases List.mem_cons.1 hi with rfl|hi
  ·exact⟨b,by simp,hb⟩
  ·obtain⟨c,hc,hf⟩:=mapM_mem hr i hi
   exact⟨c,List.mem_cons_of_mem _ hc,hf⟩
theorem Gn (hK:oX X) {ops:Array Oper} {vl:List bz} {Q:Ex->Env->ar->Prop}:∀(n:Nat) (listed:Array Bool) (t:VC) (env:Env) (σ:ar),vp ops vl (jj ops) n listed=some t->DC ops listed->dL X t Q env σ->zl X ops vl (Q .normal) n listed env σ:=by
 intro n
 induction n with
 |zero=>
  intro listed t env σ h _ hw
  unfold vp at h
  split at h
  ·rename_i hr
   simp only[Option.some.injEq]at h
   subst h
   exact⟨hr,hw⟩
  ·cases h
 |succ n ih=>
  intro listed t env σ h qT hw
  unfold vp at h
  split at h
  ·rename_i hr
   simp only[Option.some.injEq]at h
   subst h
   exact⟨fun _=>hw,fun i hi=>by rw[hr]at hi;cases hi⟩
  ·rename_i r rs hr
   dsimp only at h
   split at h
   ·rename_i i hfind
    have J6:=List.mem_of_find?_eq_some hfind
    have w7:=List.find?_some hfind
    rw[<-hr]at J6
    split at h
    ·rename_i vo mN
     simp only[Option.map_eq_some_iff]at h
     obtain⟨t',GC,rfl⟩:=h
     exact DF hK mN n listed env σ qT J6 w7 (jB hK (fun e s h=>ih _ _ _ _ GC (qT.list J6) h) hw)
    ·cases h
   ·split at h
    ·rename_i i t s y vo hfind
     obtain⟨i0,Ec,dV⟩:=List.exists_of_findSome?_eq_some hfind
     obtain⟨rfl,mN,⟨sz,dZ⟩,tt,J2⟩:=H8 dV
     rw[<-hr]at Ec
     simp only[Option.map_eq_some_iff]at h
     obtain⟨t',GC,rfl⟩:=h
     exact Bu hK mN dZ tt n listed env σ qT Ec J2 hw.1 (jB hK (fun e s h=>ih _ _ _ _ GC (qT.list Ec) h) hw.2)
    split at h
    ·rename_i l hl
     have dH:=wN h hw
     refine⟨fun h=>(by rw[h]at hr;cases hr),fun i hi=>?_⟩
     rw[hr]at hi
     obtain⟨b,Gy,Gz⟩:=mapM_mem hl i hi
     simp only[Option.bind_eq_some_iff,Option.map_eq_some_iff]at Gz
     obtain⟨vo,mN,t',GC,rfl⟩:=Gz
     exact⟨vo,mN,jB hK (fun e s h=>ih _ _ _ _ GC (qT.list (by rw[hr];exact hi)) h) (dH _ Gy)⟩
    ·cases h
theorem Dz {ops:Array Oper} {vl:List bz} {nt site0:Nat} {draw mk:Bool} {bs:Array Nat} {hidden:List (Nat×Bool)} {K:Env->ar->Prop} {Q:Exit->Act->World->Prop} (dH:allM (lG P ops nt site0 draw mk bs hidden) ops.toList 0=some vl):
  ∀(fuel:Nat) (listed:Array Bool) (env:Env) (σ:ar) (a:Act) (w:World) (D:Nat->Prop) (ι:Names) (U:Nat->Prop),zl (Sound P) ops vl K fuel listed env σ->gp P hs D ι σ.get w->Used ι σ.next U->(∀s,U s->∃i,s=site0+i/\listed.getD i false=true)->cF P w D ι env a->a.tmps.size=nt->
  (∀ik σ' a' w' D' ι',K ik σ'->Step hs D ι w D' ι' w'->St P hs nt D' ι' ik σ' a' w'->a'.defers=a.defers->σ.next<=σ'.next->Q .normal a' w')->wpAny P .any ops Q fuel listed a w:=by
 intro fuel
 induction fuel with
 |zero=>intro listed env σ a w D ι U h S Us hU E fb hQ;exact⟨h.1,hQ env _ a w D ι h.2 (Step.refl _ _ _ _) ⟨S,Us.next,E,fb⟩ rfl (Nat.le_succ _)⟩
 |succ fuel ih=>
  intro listed env σ a w D ι U h S Us hU E fb hQ
  refine⟨fun hr=>hQ env _ a w D ι (h.1 hr) (Step.refl _ _ _ _) ⟨S,Us.next,E,fb⟩ rfl (Nat.le_succ _),fun i hi=>?_⟩
  obtain⟨vo,mN,hG⟩:=h.2 i hi
  obtain⟨_,o,ho,_⟩:=mem_ready.1 hi
  obtain⟨vo',lK,PQ⟩:=(nA dH).2 i o (by simpa using ho)
  rw[mN]at lK;injection lK with lK;subst lK
  rw[Nat.zero_add]at PQ
  obtain⟨hc,hd,Av,vW,hg⟩:=oy PQ
  have hw:=r8 (ops:=ops) (vo:=vo) E hg
  have SH:¬U vo.site:=fun hu=>by
   obtain⟨i',he,hl⟩:=hU _ hu
   have:i'=i:=by omega
   subst this
   rw[iN hi]at hl;cases hl
  have jk:i<listed.size:=by
   have h0:=(mem_ready.1 hi).1
   rcases Nat.lt_or_ge i listed.size with h|h
   ·exact h
   ·simp[Array.getElem?_eq_none h]at h0
  unfold wpOp
  simp only[ho]
  rw[<-hw]
  unfold step at hG
  by_cases Fx:az vo.guard env=true
  ·rw[if_pos Fx]
   rw[if_pos Fx]at hG
   refine .inl (xI hc hG S Us SH E fun v σ' u D' ι' w' hn T S' hR U' hle=>?_)
   refine ih _ _ _ _ w' D' ι' _ hn S' U' (fun s Aq=>?_) (by rw[hd];exact l8 (nH E T) hR vW fb) (by rw[kp];exact fb) fun ik σ2 a2 w2 D2 ι2 hk T2 Nx Cx lf=>hQ ik σ2 a2 w2 D2 ι2 hk (T.trans T2) Nx (Cx.trans (put_defers _ _ _)) (Nat.le_trans hle lf)
   rcases Aq with h|h
   ·obtain⟨i',he,hl⟩:=hU _ h
    exact⟨i',he,getD_set_true hl⟩
   ·exact⟨i,by rw[h,Av],by simp[jk]⟩
  ·rw[if_neg Fx]
   rw[if_neg Fx]at hG
   refine ih _ _ _ _ w D ι U hG S Us (fun s Aq=>?_) (by rw[hd];exact l8 E cV.undef vW fb) (by rw[kp];exact fb) fun ik σ2 a2 w2 D2 ι2 hk T2 Nx Cx lf=>hQ ik σ2 a2 w2 D2 ι2 hk T2 Nx (Cx.trans (put_defers _ _ _)) lf
   obtain⟨i',he,hl⟩:=hU _ Aq
   exact⟨i',he,getD_set_true hl⟩
end
end Go.Proofs.YtgoljkjaameagaaGreat.V

namespace Go.Proofs.YtgoljkjaameagaaGreat.V
open Go.RowKit
variable {P:Program} {w w':World} {D D' D2:Nat->Prop} {ι ι' ι2:Names}
def BR (P:Program) (c:Code) (Q:Exit->Act->World->Prop) (a:Act) (w:World):Prop:=
 ∀(b:Frame) (k:List Item) (cs:List Frame),b.kind≠.early->∃e a' w',Q e a' w'/\Arrives P (lone (b.at a (.code c::k)) cs w) b k cs e a' w'
section
variable {Q:Exit->Act->World->Prop} {a:Act}
theorem rU {c:Code} (h:c.wp P Q a w):BR P c Q a w:=fun b k cs _=>h b k cs
theorem KH {x y:Code} (h:BR P x (Exit.then (BR P y Q) Q) a w):BR P (.seq x y) Q a w:=by
 intro b k cs hb
 obtain⟨e,a1,w1,hq,ju⟩:=h b (.code y::k) cs hb
 by_cases he:e=.normal
 ·subst he
  obtain⟨e2,a2,w2,l9,Ht⟩:=hq b k cs hb
  exact⟨e2,a2,w2,l9,.of_steps (.head step_seq ju) Ht⟩
 ·refine⟨e,a1,w1,?_,.of_steps (.one step_seq) (.pass (x:=.code y) rfl (fun _ _=>.inl he) ju)⟩
  cases e<;>first|exact absurd rfl he|exact hq
theorem Ik {c:Operand} {x y:Code} {t:Bool} (hc:a.eval c=.bool t) (h:BR P (if t then x else y) Q a w):BR P (.cond c x y) Q a w:=
 fun b k cs hb=>let ⟨e,a',w',q,r⟩:=h b k cs hb;⟨e,a',w',q,.of_steps (.one (step_cond hc)) r⟩
theorem FX {id:Nat} {c:Code} (h:BR P c (Exit.inBlock id Q) a w):BR P (.block id c) Q a w:=by
 intro b k cs hb
 obtain⟨e,a1,w1,hq,ju⟩:=h b (.inBlock id::k) cs hb
 cases e with
 |normal=>exact⟨.normal,a1,w1,hq,.head step_block (Steps.trans ju (.one step_inBlock))⟩
 |exit ki=>
  by_cases hid:ki=id
  ·simp only[Exit.inBlock,hid,if_true]at hq
   exact⟨.normal,a1,w1,hq,.head step_block (ju k (by simp[exitTo,hid]))⟩
  ·simp only[Exit.inBlock,hid,if_false]at hq
   exact⟨.exit ki,a1,w1,hq,fun k' hk=>.head step_block (ju k' (by simp[exitTo,Ne.symm hid,hk]))⟩
 |goto l=>exact⟨_,a1,w1,hq,fun k' hk=>.head step_block (ju k' (by simp[gotoIn,hk]))⟩
 |ret=>exact⟨_,a1,w1,hq,.of_steps (.one step_block) ju⟩
 |panic ch=>exact⟨_,a1,w1,hq,.of_steps (.one step_block) ju⟩
 |outgrown=>exact⟨_,a1,w1,hq,.of_steps (b:=b) (k:=k) (cs:=cs) (e:=.outgrown) (.one step_block) ju⟩
def tD (P:Program) (c:Code) (Q:Exit->Act->World->Prop):Nat->Act->World->Prop
 |0=>fun _ _=>False
 |n+1=>BR P c (Exit.then (tD P c Q n) Q)
theorem Il {c:Code} (n:Nat) (h:tD P c Q n a w):BR P (.loop c) Q a w:=by
 intro b k cs hb
 have key:∀n a w,tD P c Q n a w->∃e a' w',Q e a' w'/\Arrives P (lone (b.at a (.code c::.inLoop c::k)) cs w) b k cs e a' w':=by
  intro n
  induction n with
  |zero=>intro a w h;exact h.elim
  |succ n ih=>
   intro a w h
   obtain⟨e,a1,w1,hq,ju⟩:=h b (.inLoop c::k) cs hb
   by_cases he:e=.normal
   ·subst he
    obtain⟨e2,a2,w2,l9,Ht⟩:=ih a1 w1 hq
    exact⟨e2,a2,w2,l9,.of_steps (Steps.trans ju (.one step_inLoop)) Ht⟩
   ·refine⟨e,a1,w1,?_,.pass (x:=.inLoop c) rfl (fun _ _=>.inl he) ju⟩
    cases e<;>first|exact absurd rfl he|exact hq
 obtain⟨e,a',w',hq,ju⟩:=key n a w h
 exact⟨e,a',w',hq,.of_steps (.one step_loop) ju⟩
theorem xU {f:FuncId} {fn:Func} {c:Code} {args:Array Value} {R:Ending->World->Prop} (hf:P.funcs[f]? =some fn) (hb:fn.body=some c)
  (h:BR P c (bodyPost P fn R) {tmps:=args++Array.replicate (fn.ntmps-args.size) undef,defers:=[]} w):Calls P f args w R:=by
 intro cs
 have M7:Frame.enter P f args .normal=({(default:Frame)with fn:=f,kind:=.normal}:Frame).at {tmps:=args++Array.replicate (fn.ntmps-args.size) undef,defers:=[]} [.code c]:=by simp[Frame.enter,Frame.at,hf,hb]
 obtain⟨e,a',w',hq,ju⟩:=h {(default:Frame)with fn:=f,kind:=.normal} [] cs (by simp)
 rw[<-M7]at ju
 cases e with
 |normal=>obtain⟨hd,v,hr,hR⟩:=hq;exact⟨.returned v,w',_,hR,Steps.trans ju (.one step_end),rfl,rfl,hd,rfl,fn,hf,hr⟩
 |ret=>obtain⟨hd,v,hr,hR⟩:=hq;obtain⟨todo,hs⟩:=ju;exact⟨.returned v,w',_,hR,hs,rfl,rfl,hd,rfl,fn,hf,hr⟩
 |panic chain=>obtain⟨hd,hR⟩:=hq;obtain⟨todo,hs⟩:=ju;exact⟨.panicked chain,w',_,hR,hs,rfl,rfl,hd,fn,hf⟩
 |exit id=>exact hq.elim
 |goto l=>exact hq.elim
 |outgrown=>exact⟨.outgrown,w',{(default:Frame)with fn:=f,kind:=.normal},hq,ju.resolve_left (by simp),rfl,trivial⟩
def vJ (P:Program) (ops:Array Oper) (Q:Exit->Act->World->Prop) (l:List Nat) (a:Act) (w:World):Prop:=
 ∀(b:Frame) (k:List Item) (cs:List Frame),b.kind≠.early->∃e a' w',Q e a' w'/\Arrives P (lone (b.at a (.inRegion ops l::k)) cs w) b k cs e a' w'
theorem C1 {id:Nat} {ops:Array Oper} (h:vJ P ops Q (List.range ops.size) a w):BR P (.region id ops false) Q a w:=
 fun b k cs hb=>let ⟨e,a',w',q,r⟩:=h b k cs hb;⟨e,a',w',q,.of_steps (.one step_region) r⟩
theorem NR {ops:Array Oper} (h:Q .normal a w):vJ P ops Q [] a w:=fun _ _ _ _=>⟨.normal,a,w,h,.one step_region_end⟩
theorem om {o:Oper} {ys:Nat->Option Bool} (h:o.guard=none):Region.wanted o ys=true:=by simp[Region.wanted,h]
theorem Ir {ops:Array Oper} {i:Nat} {rest:List Nat} {o:Oper} {v:Value} (ho:ops[i]? =some o) (hg:o.guard=none) (hr:(execOp a.eval o).run P w=.ok (.value v) w') (h:vJ P ops Q rest (a.put o.dst v) w'):vJ P ops Q (i::rest) a w:=by
 intro b k cs hb
 obtain⟨e,a',w2,hq,ju⟩:=h b k cs hb
 refine⟨e,a',w2,hq,.of_steps (.one ?_) ju⟩
 have rJ:(b.at a (.inRegion ops (i::rest)::k)).finish v=b.at (a.put o.dst v) (.inRegion ops rest::k):=by rw[Frame.finish_at,ho];rfl
 rw[<-rJ]
 refine step_lone_go ?_
 have h2:=stepG_op (P:=P) (b:=b) (k:=k) (cs:=cs) (w:=w) (rest:=rest) ho (om hg (ys:=yielded ops a.tmps))
 rw[h2];simp[stepG.apply,hr]
theorem KO {ops:Array Oper} {i:Nat} {rest:List Nat} {o:Oper} {v z:Value} {c cap s r:Nat} {buf:Array Value} (ho:ops[i]? =some o) (hg:o.guard=none) (hr:(execOp a.eval o).run P w=.ok (.comm #[Conc.scase c v z] true .send) w)
  (hc:w.heap[c]? =some (.chan cap buf false s r false)) (fN:buf.size<cap) (h:vJ P ops Q rest (a.put o.dst undef) (w.setChan c cap (buf.push v) false (s+1) r false)):vJ P ops Q (i::rest) a w:=by
 intro b k cs hb
 obtain⟨e,a',w2,hq,ju⟩:=h b k cs hb
 refine⟨e,a',w2,hq,.of_steps (.one ?_) ju⟩
 have rJ:(b.at a (.inRegion ops (i::rest)::k)).finish undef=b.at (a.put o.dst undef) (.inRegion ops rest::k):=by rw[Frame.finish_at,ho];rfl
 rw[<-rJ,Conc.lone_eq_solo,Conc.lone_eq_solo]
 exact Conc.step_lone_send_room (Conc.stepG_comm ho (om hg) hb hr) hc fN
theorem KN {ops:Array Oper} {i:Nat} {rest:List Nat} {o:Oper} {z:Value} {c cap s r:Nat} {buf:Array Value} (ho:ops[i]? =some o) (hg:o.guard=none) (hr:(execOp a.eval o).run P w=.ok (.comm #[Conc.rcase c z] true (.recv false)) w)
  (hc:w.heap[c]? =some (.chan cap buf false s r false)) (HQ:0<buf.size) (h:vJ P ops Q rest (a.put o.dst (buf.getD 0 undef)) (w.setChan c cap (buf.extract 1 buf.size) false s (r+1) false)):vJ P ops Q (i::rest) a w:=by
 intro b k cs hb
 obtain⟨e,a',w2,hq,ju⟩:=h b k cs hb
 refine⟨e,a',w2,hq,.of_steps (.one ?_) ju⟩
 have rJ:(b.at a (.inRegion ops (i::rest)::k)).finish (buf.getD 0 undef)=b.at (a.put o.dst (buf.getD 0 undef)) (.inRegion ops rest::k):=by rw[Frame.finish_at,ho];rfl
 rw[<-rJ,Conc.lone_eq_solo,Conc.lone_eq_solo]
 exact Conc.step_lone_recv_buf false (Conc.stepG_comm ho (om hg) hb hr) hc HQ
end
section
variable {hs:Nat} {g:Rows} {env:Env} {a:Act} {o:Oper}
theorem Kr {x y:O} (hc:pS P o.op=some (.snd x y)):∃x' y',o.op=.send x' y'/\cO P x'=some x/\cO P y'=some y:=by
 unfold pS at hc
 split at hc
 case h_25=>
  rename_i x' y' h
  simp only[Option.bind_eq_bind,Option.bind_eq_some_iff,Option.pure_def,Option.some.injEq,gh.snd.injEq]at hc
  obtain⟨p,h1,q,h2,rfl,rfl⟩:=hc
  exact⟨_,_,h,h1,h2⟩
 all_goals (try unfold mK at hc)<;>(try unfold tV at hc)<;>(try unfold rf at hc)<;>(repeat' (split at hc))<;>(simp only[Option.bind_eq_bind,Option.bind_eq_some_iff,Option.pure_def,Option.some.injEq,Option.map_eq_some_iff,reduceCtorEq,and_false,exists_false]at hc)
theorem Kq {x:O} (hc:pS P o.op=some (.NU x)):∃t dir e i z x',o.op=.recv t x' false/\P.underlying t=some (.chan dir e)/\P.info? e=some i/\i.zero=some z/\cO P x'=some x:=by
 unfold pS at hc
 split at hc
 case h_26=>
  rename_i t x' h
  split at hc
  ·rename_i dir e ht
   split at hc
   ·rename_i z hz
    simp only[Option.bind_eq_some_iff]at hz
    obtain⟨i,hi,hz⟩:=hz
    simp only[Option.map_eq_some_iff,gh.NU.injEq]at hc
    obtain⟨p,h1,rfl⟩:=hc
    exact⟨t,dir,e,i,z,x',h,ht,hi,hz,h1⟩
   ·cases hc
  ·cases hc
 all_goals (try unfold mK at hc)<;>(try unfold tV at hc)<;>(try unfold rf at hc)<;>(repeat' (split at hc))<;>(simp only[Option.bind_eq_bind,Option.bind_eq_some_iff,Option.pure_def,Option.some.injEq,Option.map_eq_some_iff,reduceCtorEq,and_false,exists_false]at hc)
theorem Ph {x y:O} {g':Rows} (S:gp P hs D ι g w) (hc:pS P o.op=some (.snd x y)) (E:cF P w D ι env a) (hv:dB g (cJ env x) (cJ env y)=some g'):
  ∃c cap s r buf u,(execOp a.eval o).run P w=.ok (.comm #[Conc.scase c u (.tuple #[])] true .send) w/\w.heap[c]? =some (.chan cap buf false s r false)/\buf.size<cap/\gp P hs D ι g' (w.setChan c cap (buf.push u) false (s+1) r false)/\Step hs D ι w D ι (w.setChan c cap (buf.push u) false (s+1) r false):=by
 obtain⟨x',y',ho,hx,hy⟩:=Kr hc
 have rx:=cZ E hx
 have ry:=cZ E hy
 unfold dB at hv
 split at hv
 ·rename_i i he
  simp only[Option.bind_eq_some_iff]at hv
  obtain⟨r,hg,hv⟩:=hv
  split at hv
  ·rename_i hcond
   simp only[Option.some.injEq]at hv
   subst hv
   obtain⟨B,c,hu,hB,hk,fb,buf,s,q,hb,Jf,hR⟩:=xV S rx he hg
   obtain⟨B',dJ,RR,_⟩:=S.row i r hg
   rw[hB]at dJ;injection dJ with dJ;subst dJ
   have mY:=S.Gp (ob:=.chan c (buf.push (a.eval y')) false (s+1) q false) (r':={r with rows:=r.rows++[[cJ env y]]}) hg hcond.1 hB fun hr kh=>⟨RR.sz,fun cs di=>?_,fun h0=>(by rw[hk]at h0;cases h0),fun m hm=>(by rw[hk]at hm;cases hm),fun c' kf=>?_⟩
   ·exact⟨B.b,c,s,q,buf,a.eval y',by simp[execOp,ho,hu,Conc.scase],hb,by rw[Jf];omega,mY.1,mY.2⟩
   ·rcases List.mem_append.1 di with h|h
    ·exact RR.flat cs h
    ·rw[List.mem_singleton.1 h]
     intro b rG
     rw[List.mem_singleton.1 rG];exact hcond.2.2
   ·rw[hk]at kf
    simp only[Option.some.injEq,BK.chan.injEq]at kf
    subst kf
    refine⟨fb,_,_,_,kh,by simp[Jf],fun j cs hj=>?_⟩
    rw[List.getElem?_append]at hj
    split at hj
    ·rename_i dV
     obtain⟨b,u,q1,q2,q3⟩:=hR j cs hj
     refine⟨b,u,q1,?_,hr _ _ q3⟩
     rw[Array.getElem?_push,if_neg (by omega)];exact q2
    ·rename_i oA
     have gC:j=r.rows.length:=by
      have:=(List.getElem?_eq_some_iff.1 hj).1
      simp at this;omega
     subst gC
     simp at hj
     subst hj
     exact⟨_,_,rfl,by rw[Array.getElem?_push,if_pos Jf.symm],hr _ _ ry⟩
  ·cases hv
 ·cases hv
theorem Pg {x:O} {g':Rows} {v:AV} (S:gp P hs D ι g w) (hc:pS P o.op=some (.NU x)) (E:cF P w D ι env a) (hv:dz g (cJ env x)=some (v,g')):
  ∃c cap s r buf z,(execOp a.eval o).run P w=.ok (.comm #[Conc.rcase c z] true (.recv false)) w/\w.heap[c]? =some (.chan cap buf false s r false)/\0<buf.size/\gp P hs D ι g' (w.setChan c cap (buf.extract 1 buf.size) false s (r+1) false)/\Step hs D ι w D ι (w.setChan c cap (buf.extract 1 buf.size) false s (r+1) false)/\cV P (w.setChan c cap (buf.extract 1 buf.size) false s (r+1) false) D ι v (buf.getD 0 undef):=by
 obtain⟨t,dir,e,i0,z,x',ho,ht,hi,hz,hx⟩:=Kq hc
 have rx:=cZ E hx
 unfold dz at hv
 split at hv
 ·rename_i i he
  simp only[Option.bind_eq_some_iff]at hv
  obtain⟨r,hg,hv⟩:=hv
  split at hv
  ·rename_i v' rest nQ
   split at hv
   ·rename_i hcond
    simp only[Option.some.injEq,Prod.mk.injEq]at hv
    obtain⟨rfl,rfl⟩:=hv
    obtain⟨B,c,hu,hB,hk,fb,buf,s,q,hb,Jf,hR⟩:=xV S rx he hg
    obtain⟨B',dJ,RR,_⟩:=S.row i r hg
    rw[hB]at dJ;injection dJ with dJ;subst dJ
    obtain⟨b0,u0,q1,q2,q3⟩:=hR 0 [v'] (by rw[nQ];rfl)
    simp only[List.cons.injEq,and_true]at q1
    subst q1
    have jZ:0<buf.size:=by rw[Jf,nQ];simp
    have RQ:buf.getD 0 undef=u0:=by rw[Array.getD_eq_getD_getElem?,q2];rfl
    have mY:=S.Gp (ob:=.chan c (buf.extract 1 buf.size) false s (q+1) false) (r':={r with rows:=rest}) hg hcond hB fun hr kh=>⟨RR.sz,fun cs di=>RR.flat cs (by rw[nQ];exact List.mem_cons_of_mem _ di),fun h0=>(by rw[hk]at h0;cases h0),fun m hm=>(by rw[hk]at hm;cases hm),fun c' kf=>?_⟩
    ·refine⟨B.b,c,s,q,buf,z,?_,hb,jZ,mY.1,mY.2,?_⟩
     ·have uB:(zeroValue e).run P w=.ok z w:=by simp[zeroValue,typeInfo,hi,hz]
      simp[execOp,ho,hu,Conc.rcase,run_underlying ht,uB]
     ·rw[RQ];exact mY.2.rep q3
    ·rw[hk]at kf
     simp only[Option.some.injEq,BK.chan.injEq]at kf
     subst kf
     refine⟨fb,_,_,_,kh,by simp[Jf,nQ],fun j cs hj=>?_⟩
     obtain⟨b,u,k1,k2,k3⟩:=hR (j+1) cs (by rw[nQ];simpa using hj)
     refine⟨b,u,k1,?_,hr _ _ k3⟩
     have dV:=(Array.getElem?_eq_some_iff.1 k2).1
     rw[Array.getElem?_extract,if_pos (by omega),Nat.add_comm 1 j];exact k2
   ·cases hv
  ·cases hv
 ·cases hv
theorem EV {ops:Array Oper} {nt site0:Nat} {K:Env->ar->Prop} {Q:Exit->Act->World->Prop}:∀(l:List Oper) (vl:List bz) (j:Nat) (env:Env) (σ:ar) (a:Act) (w:World) (D:Nat->Prop) (ι:Names),
  ops.toList.drop j=l->allM (lG P ops nt site0 false false #[] []) l j=some vl->bK vl K env σ->gp P hs D ι σ.get w->Used ι σ.next (fun _=>False)->cF P w D ι env a->a.tmps.size=nt->
  (∀ik σ' a' w' D' ι',K ik σ'->Step hs D ι w D' ι' w'->St P hs nt D' ι' ik σ' a' w'->a'.defers=a.defers->σ.next<=σ'.next->Q .normal a' w')->vJ P ops Q (List.range' j l.length) a w:=by
 intro l
 induction l with
 |nil=>
  intro vl j env σ a w D ι _ h hv S Us E fb hQ
  simp[allM]at h;subst h
  exact NR (hQ env ⟨σ.get,σ.next+1⟩ a w D ι hv (Step.refl _ _ _ _) ⟨S,Us.next,E,fb⟩ rfl (Nat.le_succ _))
 |cons o l ih=>
  intro vl j env σ a w D ι hl h hv S Us E fb hQ
  simp only[allM,Option.bind_eq_bind,Option.bind_eq_some_iff,Option.pure_def,Option.some.injEq]at h
  obtain⟨vo,mN,r7,qY,rfl⟩:=h
  obtain⟨hc,hd,Av,vW,hg⟩:=oy mN
  obtain⟨P5,hv⟩:=hv
  have To:o.guard=none:=by
   split at hg
   ·assumption
   ·obtain⟨t,_,h⟩:=hg
    rw[P5]at h;cases h
  have Tp:ops[j]? =some o:=by
   have h0:=congrArg (fun x=>x[0]?) hl
   rw[<-Array.getElem?_toList]
   simpa[List.getElem?_drop]using h0
  have Jl:ops.toList.drop (j+1)=l:=by rw[<-List.drop_drop,hl];rfl
  have go:∀(v:AV) (u:Value) (g2:Rows) (w2:World),bK r7 K (upd env vo.dst v) ⟨g2,σ.next⟩->gp P hs D ι g2 w2->Step hs D ι w D ι w2->cV P w2 D ι v u->vJ P ops Q (List.range' (j+1) l.length) (a.put o.dst u) w2:=fun v u g2 w2 hn S2 T hR=>
   ih r7 (j+1) (upd env vo.dst v) ⟨g2,σ.next⟩ (a.put o.dst u) w2 D ι Jl qY hn S2 Us (by rw[hd];exact l8 (nH E T) hR vW fb) (by rw[kp];exact fb) fun ik σ2 a' w3 D3 ι3 hk T2 Mf Cx lf=>hQ ik σ2 a' w3 D3 ι3 hk (T.trans T2) Mf (Cx.trans (put_defers _ _ _)) lf
  rw[show List.range' j (o::l).length=j::List.range' (j+1) l.length from rfl]
  split at hv
  ·rename_i x y dZ
   split at hv
   ·rename_i g2 OX
    rw[dZ]at hc
    obtain⟨c,cap,s,r,buf,u,gW,hb,fN,S2,T⟩:=Ph S hc E OX
    exact KO Tp To gW hb fN (go _ _ _ _ hv S2 T cV.undef)
   ·exact hv.elim
  ·rename_i x dZ
   split at hv
   ·rename_i v g2 OX
    rw[dZ]at hc
    obtain⟨c,cap,s,r,buf,z,gW,hb,HQ,S2,T,hR⟩:=Pg S hc E OX
    exact KN Tp To gW hb HQ (go _ _ _ _ hv S2 T hR)
   ·exact hv.elim
  ·split at hv
   ·rename_i v hq
    obtain⟨u,gW,hR⟩:=xz hc hq S E
    exact Ir Tp To gW (go _ _ _ _ hv S (Step.refl _ _ _ _) hR)
   ·exact hv.elim
end
end Go.Proofs.YtgoljkjaameagaaGreat.V

namespace Go.Proofs.YtgoljkjaameagaaGreat.V
open Go.RowKit
variable {P:Program} {w w':World} {D D' D2:Nat->Prop} {ι ι' ι2:Names}
section
variable {hs:Nat} {X:fy}
def exO:Ex->Exit
 | .normal=>.normal
 | .exit id=>.exit id
 | .ret=>.ret
theorem St.drew {nt:Nat} {env:Env} {σ:ar} {a:Act} {D:Nat->Prop} {ι:Names} (h:St P hs nt D ι env σ a w):St P hs nt D ι env σ a w.drew/\Step hs D ι w D ι w.drew:=by
 have T:Step hs D ι w D ι w.drew:=Step.stay h.Jt (fun _ _=>rfl) (Nat.le_refl _) rfl rfl rfl (fun _ h=>h) (fun _ h=>.inl h) (fun _ _ h=>h)
 exact⟨⟨h.Jt.stay (fun _ _=>rfl) (Nat.le_refl _) (fun _ h=>h) h.Jt.dead (fun _ h=>.inl h) (fun _ _ h=>h),h.used,nH h.env T,h.size⟩,T⟩
def tP (P:Program) (hs nt:Nat) (ds:List Deferred) (Q:Ex->Env->ar->Prop) (n0:Nat) (D:Nat->Prop) (ι:Names) (w:World) (Q':Exit->Act->World->Prop):Prop:=
 ∀ex env σ a w' D' ι',Q ex env σ->Step hs D ι w D' ι' w'->St P hs nt D' ι' env σ a w'->a.defers=ds->n0<=σ.next->Q' (exO ex) a w'
theorem tP.later {nt:Nat} {ds:List Deferred} {Q:Ex->Env->ar->Prop} {n0 n1:Nat} {Q':Exit->Act->World->Prop} (h:tP P hs nt ds Q n0 D ι w Q') (T:Step hs D ι w D' ι' w') (hn:n0<=n1):tP P hs nt ds Q n1 D' ι' w' Q':=
 fun ex env σ a w2 D2 ι2 hq T2 er hd hle=>h ex env σ a w2 D2 ι2 hq (T.trans T2) er hd (Nat.le_trans hn hle)
theorem Cc (hm:P.follows .mixedOrders=true) {md:List (Nat×Nat)} {nt vU:Nat}:∀(c:Code) (vc:VC),jM P md nt vU c=some vc->∀(Q:Ex->Env->ar->Prop) (env:Env) (σ:ar) (a:Act) (w:World) (D:Nat->Prop) (ι:Names) (Q':Exit->Act->World->Prop),
  dL (Sound P) vc Q env σ->St P hs nt D ι env σ a w->tP P hs nt a.defers Q σ.next D ι w Q'->BR P c Q' a w:=by
 intro c
 induction c with
 |skip=>
  intro vc h Q env σ a w D ι Q' hv er hQ
  simp[jM]at h;subst h
  exact rU <| wp_skip (hQ .normal env σ a w D ι hv (Step.refl _ _ _ _) er rfl (Nat.le_refl _))
 |exit id=>
  intro vc h Q env σ a w D ι Q' hv er hQ
  simp[jM]at h;subst h
  exact rU <| wp_exit (hQ (.exit id) env σ a w D ι hv (Step.refl _ _ _ _) er rfl (Nat.le_refl _))
 |ret=>
  intro vc h Q env σ a w D ι Q' hv er hQ
  simp[jM]at h;subst h
  exact rU <| wp_ret (hQ .ret env σ a w D ι hv (Step.refl _ _ _ _) er rfl (Nat.le_refl _))
 |seq x y ihx ihy=>
  intro vc h Q env σ a w D ι Q' hv er hQ
  simp only[jM,Option.bind_eq_bind,Option.bind_eq_some_iff,Option.pure_def,Option.some.injEq]at h
  obtain⟨vx,hx,vy,hy,rfl⟩:=h
  refine KH (ihx vx hx _ env σ a w D ι _ hv er fun ex j5 σ1 a1 w1 D1 ι1 hq T kN hd hle=>?_)
  cases ex with
  |normal=>exact ihy vy hy Q j5 σ1 a1 w1 D1 ι1 Q' hq kN (by rw[hd];exact hQ.later T hle)
  |exit id=>exact hQ (.exit id) j5 σ1 a1 w1 D1 ι1 hq T kN hd hle
  |ret=>exact hQ .ret j5 σ1 a1 w1 D1 ι1 hq T kN hd hle
 |cond c x y ihx ihy=>
  intro vc h Q env σ a w D ι Q' hv er hQ
  simp only[jM,Option.bind_eq_bind,Option.bind_eq_some_iff,Option.pure_def,Option.some.injEq]at h
  obtain⟨c',hc,vx,hx,vy,hy,rfl⟩:=h
  unfold dL at hv
  have hr:=cZ er.env hc
  split at hv
  ·rename_i b hb
   rw[hb]at hr
   refine Ik (eP hr) ?_
   cases b with
   |true=>exact ihx vx hx Q env σ a w D ι Q' hv er hQ
   |false=>exact ihy vy hy Q env σ a w D ι Q' hv er hQ
  ·exact hv.elim
 |block id c ih=>
  intro vc h Q env σ a w D ι Q' hv er hQ
  simp only[jM,Option.map_eq_some_iff]at h
  obtain⟨vx,hx,rfl⟩:=h
  refine FX (ih vx hx _ env σ a w D ι _ hv er fun ex j5 σ1 a1 w1 D1 ι1 hq T kN hd hle=>?_)
  cases ex with
  |normal=>exact hQ .normal j5 σ1 a1 w1 D1 ι1 hq T kN hd hle
  |ret=>exact hQ .ret j5 σ1 a1 w1 D1 ι1 hq T kN hd hle
  |exit ki=>
   simp only[aX]at hq
   simp only[exO,Exit.inBlock]
   by_cases hid:ki=id
   ·rw[if_pos hid]at hq ⊢;exact hQ .normal j5 σ1 a1 w1 D1 ι1 hq T kN hd hle
   ·rw[if_neg hid]at hq ⊢;exact hQ (.exit ki) j5 σ1 a1 w1 D1 ι1 hq T kN hd hle
 |loop c ih=>
  intro vc h Q env σ a w D ι Q' hv er hQ
  simp only[jM,Option.map_eq_some_iff]at h
  obtain⟨vx,hx,rfl⟩:=h
  obtain⟨n,hv⟩:=hv
  refine Il n ?_
  have key:∀n env σ a w D ι,En (dL (Sound P) vx) Q n env σ->St P hs nt D ι env σ a w->tP P hs nt a.defers Q σ.next D ι w Q'->tD P c Q' n a w:=by
   intro n
   induction n with
   |zero=>intro env σ a w D ι h;exact h.elim
   |succ n ihn=>
    intro env σ a w D ι h er hQ
    refine ih vx hx _ env σ a w D ι _ h er fun ex j5 σ1 a1 w1 D1 ι1 hq T kN hd hle=>?_
    cases ex with
    |normal=>exact ihn j5 σ1 a1 w1 D1 ι1 hq kN (by rw[hd];exact hQ.later T hle)
    |exit id=>exact hQ (.exit id) j5 σ1 a1 w1 D1 ι1 hq T kN hd hle
    |ret=>exact hQ .ret j5 σ1 a1 w1 D1 ι1 hq T kN hd hle
  exact key n env σ a w D ι hv er hQ
 |region id ops draw=>
  intro vc h Q env σ a w D ι Q' hv er hQ
  simp only[jM,Pf]at h
  split at h
  ·rename_i hmode
   have SR:draw=true:=by
    simp only[Bool.and_eq_true]at hmode;exact hmode.1
   subst SR
   split at h
   ·rename_i vl dH
    obtain⟨qp,T0⟩:=er.drew
    have Cu:=Gn (X:=Sound P) pd ops.size _ vc env σ h (fun k i h=>by
     exfalso
     rcases Nat.lt_or_ge k ops.size with hk|hk
     ·simp[hk]at h
     ·simp[Nat.not_lt.2 hk]at h) hv
    refine rU (wp_region_any hm ?_)
    exact Dz dH ops.size _ env σ a w.drew D ι (fun _=>False) Cu qp.Jt qp.used (fun _ h=>h.elim) qp.env qp.size fun j5 σ1 a1 w1 D1 ι1 hk T kN hd hle=>hQ .normal j5 σ1 a1 w1 D1 ι1 hk (T0.trans T) kN hd hle
   ·cases h
  split at h
  ·rename_i hcom
   have SR:draw=false:=by
    simp only[Bool.and_eq_true,Bool.not_eq_true']at hcom;exact hcom.1
   subst SR
   simp only[Option.map_eq_some_iff]at h
   obtain⟨vl,qY,rfl⟩:=h
   have dH:allM (lG P ops nt ((vU*1000+id)*1000) false false #[] []) ops.toList 0=some vl:=by
    unfold qd at qY
    simp only[Bool.false_eq_true,if_false,Bool.not_false,Bool.true_or,if_true]at qY
    split at qY
    ·rename_i r7 h;simp at qY;subst qY;exact h
    ·cases qY
   refine C1 ?_
   have:=EV (Q:=Q') ops.toList vl 0 env σ a w D ι rfl dH hv er.Jt er.used er.env er.size fun j5 σ1 a1 w1 D1 ι1 hk T kN hd hle=>hQ .normal j5 σ1 a1 w1 D1 ι1 hk T kN hd hle
   rwa [<-List.range_eq_range',Array.length_toList]at this
  generalize (uJ md id==1)=mk at h
  simp only[Option.map_eq_some_iff]at h
  obtain⟨vl,qY,rfl⟩:=h
  cases draw with
  |false=>
   have dH:∃r7,allM (lG P ops nt ((vU*1000+id)*1000) false mk #[] []) ops.toList 0=some r7/\vl=r7:=by
    unfold qd at qY
    simp only[Bool.false_eq_true,if_false,Bool.not_false,Bool.true_or,if_true]at qY
    split at qY
    ·rename_i r7 h;simp at qY;exact⟨r7,h,qY.symm⟩
    ·cases qY
   obtain⟨r7,dH,rfl⟩:=dH
   refine rU (wp_region_list ?_)
   exact FZ ops.toList vl 0 env σ a w D ι (fun _=>False) dH hv er.Jt er.used (fun _ h=>h.elim) er.env er.size fun j5 σ1 a1 w1 D1 ι1 hk T kN hd hle=>hQ .normal j5 σ1 a1 w1 D1 ι1 hk T kN hd hle
  |true=>
   have dH:∃hidden r7,allM (lG P ops nt ((vU*1000+id)*1000) true mk (jj ops) hidden) ops.toList 0=some r7/\vl=r7/\nG ops r7 (jj ops)=true:=by
    unfold qd at qY
    simp only[if_true,Bool.not_true,Bool.false_or]at qY
    split at qY
    ·rename_i r7 h
     split at qY
     ·rename_i qo;simp at qY;exact⟨_,r7,h,qY.symm,qo⟩
     ·cases qY
    ·cases qY
   obtain⟨hidden,r7,dH,rfl,qo⟩:=dH
   obtain⟨qp,T0⟩:=er.drew
   obtain⟨hlen,_⟩:=nA dH
   have kg:vl.length=ops.size:=by rw[hlen];simp
   have Cu:=vw (X:=Sound P) (K:=Q .normal) (n:=σ.next) qo kg vl 0 (Array.replicate ops.size false) env σ.get (by simp) (by simp) (fun i hi=>by simp[hi]) (by simp[kg]) (fun k i h=>by
    exfalso
    rcases Nat.lt_or_ge k ops.size with hk|hk
    ·simp[hk]at h
    ·simp[Nat.not_lt.2 hk]at h) hv
   refine rU (wp_region_any hm ?_)
   rw[kg]at Cu
   exact wH dH ops.size _ env σ.get a w.drew D ι (fun _=>False) Cu qp.Jt qp.used (fun _ h=>h.elim) qp.env qp.size fun j5 g1 a1 w1 D1 ι1 U1 hk T S1 R8 E1 xf hd=>hQ .normal j5 ⟨g1,σ.next+1⟩ a1 w1 D1 ι1 hk (T0.trans T) ⟨S1,R8.next,E1,xf⟩ hd (Nat.le_succ _)
 |_=>
  intro vc h
  simp[jM]at h
def Iy (tmps:Array Value):ResultVar->Sem Value
 | .tmp t=>pure (tmps.getD t undef)
 | .cell a t=>do loadVar t (<-asAddr (tmps.getD a undef))
theorem C9 (fn:Func) (tmps:Array Value):results fn tmps=(do
  let vs <-fn.results.mapM (Iy tmps)
  pure (if h:vs.size=1 then vs[0]else .tuple vs)):=by
 unfold results
 congr 2
theorem sJ {nt:Nat} {env:Env} {σ:ar} {a:Act} {D:Nat->Prop} {ι:Names} (er:St P hs nt D ι env σ a w):∀(rs:List ResultVar) (vr:List oP) (vs:List AV),rs.mapM (ER P)=some vr->eX env σ.get vr=some vs->
  ∃us:List Value,(rs.mapM (Iy a.tmps)).run P w=.ok us w/\us.length=vs.length/\∀(j:Nat) (v:AV),vs[j]? =some v->∃u,us[j]? =some u/\cV P w D ι v u
 |[],vr,vs,h,hv=>by
  simp at h;subst h
  simp[eX]at hv;subst hv
  exact⟨[],by simp,rfl,fun j v h=>by simp at h⟩
 |r::rs,vr,vs,h,hv=>by
  simp only[List.mapM_cons,Option.bind_eq_bind,Option.bind_eq_some_iff]at h
  obtain⟨x,hx,vr',hr,h⟩:=h
  simp at h;subst h
  simp only[eX,Option.bind_eq_some_iff,Option.map_eq_some_iff]at hv
  obtain⟨v,xe,TQ,Qu,rfl⟩:=hv
  obtain⟨us,h1,h2,h3⟩:=sJ er rs vr' TQ hr Qu
  have one:∃u,(Iy a.tmps r).run P w=.ok u w/\cV P w D ι v u:=by
   cases r with
   |tmp t=>
    simp[ER]at hx;subst hx
    simp[gM]at xe;subst xe
    exact⟨_,rfl,er.env t⟩
   |cell b t=>
    simp only[ER,Option.bind_eq_bind,Option.bind_eq_some_iff,Option.pure_def,Option.some.injEq]at hx
    obtain⟨ag,tq,n,hn,rfl⟩:=hx
    simp only[gM]at xe
    have gH:=er.env b
    unfold ld at xe
    split at xe
    ·rename_i ki i' oo hb
     rw[hb]at gH
     obtain⟨B,he,hB,hk⟩:=je gH
     simp only[Option.bind_eq_some_iff]at xe
     obtain⟨cs,di,hp⟩:=xe
     obtain⟨B',r0,Ea,dJ,R,hi,fl,f,hf⟩:=IB (S:=er.Jt) di (fun B2 h2=>by rw[hB]at h2;injection h2 with h2;subst h2;exact hk)
     rw[hB]at dJ;injection dJ with dJ;subst dJ
     obtain⟨u,k1,k2⟩:=j7 (w:=w) (b:=B.b) (oo:=i'*B.sz+oo) (f:=fun j=>f (oo+j)) tq hn hp (fun a ha=>fl a (List.mem_of_mem_drop ha)) (fun j hj=>by
      rw[Nat.add_assoc];exact(hf _ (by simp at hj;omega)).1) (fun j a ha=>by
      simp at ha;exact(hf _ ((List.getElem?_eq_some_iff.1 ha).1)).2 _ ha)
     exact⟨u,by simp only[Iy,he,asAddr,Sem.run_bind,Sem.run_pure,Result.andThen_ok,k1],k2⟩
    ·rename_i cs hb
     rw[hb]at gH
     obtain⟨b',oo,vs2,he,q1,q2,q3,q4⟩:=ku gH
     obtain⟨u,k1,k2⟩:=j7 (w:=w) (b:=b') (oo:=oo) (f:=vs2) tq hn xe q2 q3 (fun j a ha=>.eH _ _ (q4 j a ha))
     exact⟨u,by simp only[Iy,he,asAddr,Sem.run_bind,Sem.run_pure,Result.andThen_ok,k1],k2⟩
    ·simp at xe
  obtain⟨u,hu,v8⟩:=one
  refine⟨u::us,?_,by simp[h2],fun j v' hj=>?_⟩
  ·rw[List.mapM_cons]
   simp only[Sem.run_bind,hu,h1,Result.andThen_ok,Sem.run_pure]
  ·cases j with
   |zero=>simp at hj;subst hj;exact⟨u,rfl,v8⟩
   |succ j=>simp at hj ⊢;exact h3 j v' hj
theorem B3 {f:Nat} {fn:Func} {c:Code} {args:List AV} {σ:ar} {K:AV->ar->Prop} {vr:List oP} (Ry:P.funcs[f]? =some fn) (hc:fn.body=some c) (hr:fn.results.toList.mapM (ER P)=some vr) (ha:fn.params.size+fn.nfree=args.length) (hle:fn.params.size+fn.nfree<=fn.ntmps)
  (h:∀(hs:Nat) (w:World) (D:Nat->Prop) (ι:Names) (a:Act) (Q':Exit->Act->World->Prop),St P hs fn.ntmps D ι (bJ args) σ a w->tP P hs fn.ntmps a.defers (lk vr K) σ.next D ι w Q'->BR P c Q' a w):Sound P f args σ K:=by
 intro hs D ι w vs S Us A
 have fb:vs.size=args.length:=A.1
 refine xU Ry hc ?_
 refine h hs w D ι _ _ ⟨S,Us,fun t=>?_,by simp;omega⟩ fun ex j5 σ1 a1 w1 D1 ι1 hq T kN hd hle=>?_
 ·simp only[bJ]
  by_cases dV:t<args.length
  ·obtain⟨u,hu,v8⟩:=A.2 t args[t] (List.getElem?_eq_getElem dV)
   have e1:args.getD t .undef=args[t]:=by simp[List.getD_eq_getElem?_getD,dV]
   have e2:(vs++Array.replicate (fn.ntmps-vs.size) undef).getD t undef=u:=by
    simp only[Array.getD_eq_getD_getElem?]
    rw[Array.getElem?_append_left (by omega),hu];rfl
   rw[e1,e2];exact v8
  ·have e1:args.getD t .undef=.undef:=by simp[List.getD_eq_getElem?_getD,Nat.le_of_not_lt dV]
   have e2:(vs++Array.replicate (fn.ntmps-vs.size) undef).getD t undef=undef:=by
    simp only[Array.getD_eq_getD_getElem?]
    rw[Array.getElem?_append_right (by omega),Array.getElem?_replicate]
    split<;>rfl
   rw[e1,e2];exact cV.undef
 ·have fin:(∃vs,eX j5 σ1.get vr=some vs/\K (eL vs) σ1)->a1.defers=[]/\∃v,(results fn a1.tmps).run P w1=.ok v w1/\∃r g' n' D' ι' u,Ending.returned v=.returned u/\K r ⟨g',n'⟩/\Step hs D ι w D' ι' w1/\gp P hs D' ι' g' w1/\Used ι' n' (fun _=>False)/\σ.next<=n'/\cV P w1 D' ι' r u:=by
   rintro⟨avs,Qu,hK⟩
   obtain⟨us,h1,h2,h3⟩:=sJ kN fn.results.toList vr avs hr Qu
   have Nt:(results fn a1.tmps).run P w1=.ok (if h:us.toArray.size=1 then us.toArray[0]else .tuple us.toArray) w1:=by
    rw[C9,Array.mapM_eq_mapM_toList]
    simp only[Sem.run_bind,Sem.run_map,h1,Result.andThen_ok,Sem.run_pure]
   refine⟨hd,_,Nt,eL avs,σ1.get,σ1.next,D1,ι1,_,rfl,hK,T,kN.Jt,kN.used,hle,?_⟩
   unfold eL
   split
   ·rename_i v
    have hl:us.length=1:=h2
    obtain⟨u,hu,v8⟩:=h3 0 v rfl
    rw[dif_pos (by simpa using hl)]
    have:us.toArray[0]'(by simp[hl])=u:=by
     have:=(List.getElem?_eq_some_iff.1 hu).2
     simpa using this
    rw[this];exact v8
   ·rename_i gF
    rw[dif_neg (by
     simp only[List.size_toArray,h2]
     intro h
     obtain⟨v,hv⟩:=List.length_eq_one_iff.1 h
     exact gF v hv)]
    exact .ij _ _ (fun j=>us.getD j undef) (by simp[h2]) (fun j hj=>by
     have:j<us.length:=by rw[h2];exact hj
     simp[this]) (fun j v hj=>by
     obtain⟨u,hu,v8⟩:=h3 j v hj
     simpa[List.getD_eq_getElem?_getD,hu]using v8)
  cases ex with
  |normal=>exact fin hq
  |ret=>exact fin hq
  |exit id=>exact hq.elim
theorem Hp (hm:P.follows .mixedOrders=true) {f:Nat} {md:List (Nat×Nat)} {vf:wE} {args:List AV} {σ:ar} {K:AV->ar->Prop} (hf:sP P f md=some vf) (ha:vf.xr=args.length) (h:dL (Sound P) vf.body (lk vf.res K) (bJ args) σ):Sound P f args σ K:=by
 unfold sP at hf
 split at hf
 ·rename_i fn Ry
  split at hf
  ·rename_i c hc
   simp only[Option.bind_eq_bind,Option.bind_eq_some_iff]at hf
   obtain⟨vb,hb,vr,hr,hf⟩:=hf
   split at hf
   ·rename_i hle
    simp only[Option.pure_def,Option.some.injEq]at hf
    subst hf
    simp only at ha h
    exact B3 Ry hc hr ha hle fun hs w D ι a Q' er hQ=>Cc hm c vb hb (lk vr K) (bJ args) σ a w D ι Q' h er hQ
   ·simp at hf
  ·simp at hf
 ·simp at hf
def L4 (P:Program) (X:fy):fy:=fun f args σ K=>(∃md vf,sP P f md=some vf/\vf.xr=args.length/\((∀a∈args,eC a)->dL X vf.body (lk vf.res K) (bJ args) σ))∨Sound P f args σ K
def Call (P:Program):fy:=fun f args σ K=>∀X:fy,oX X->(∀f args σ K,L4 P X f args σ K->X f args σ K)->X f args σ K
theorem gP (hm:P.follows .mixedOrders=true) {f:Nat} {args:List AV} {σ:ar} {K:AV->ar->Prop} (h:Call P f args σ K):Sound P f args σ K:=
 h (Sound P) pd fun f args σ K hs=>by
  rcases hs with⟨md,vf,h1,h2,h3⟩|h
  ·intro hs D ι w vs S U A
   exact Hp hm h1 h2 (h3 (nW fun j a hj=>by obtain⟨u,_,hr⟩:=A.2 j a hj;exact hr.H5)) hs D ι w vs S U A
  ·exact h
end
end Go.Proofs.YtgoljkjaameagaaGreat.V

namespace Go.Proofs.YtgoljkjaameagaaGreat.V
open Go.RowKit
variable {P:Program} {X Y:fy}
theorem GM (h:∀f args σ K,X f args σ K->Y f args σ K) {f:Nat} {args:List AV} {σ:ar} {K:AV->Prop} (hp:fu X f args σ K):fu Y f args σ K:=by
 rcases hp with hp|⟨a,h1,h2⟩
 ·exact .inl (h _ _ _ _ hp)
 ·exact .inr ⟨a,h1,h _ _ _ _ h2⟩
theorem Jv (h:∀f args σ K,X f args σ K->Y f args σ K) {f:Nat} {args:List AV} {σ:ar} {sz:Nat} {rows:List (List AV)} (hp:CM X f args σ sz rows):CM Y f args σ sz rows:=by
 obtain⟨h1,a,h2,h3⟩:=hp
 exact⟨h1,a,h2,h _ _ _ _ h3⟩
theorem pj (h:∀f args σ K,X f args σ K->Y f args σ K) (hK:∀f args σ K K',(∀r σ',K r σ'->K' r σ')->Y f args σ K->Y f args σ K') {draw:Bool} {hid:List Nat} {site:Nat} {f:Nat} {args:List AV} {σ:ar} {n n':AV->ar->Prop} (hn:∀v σ',n v σ'->n' v σ') (hp:bV X draw hid site f args σ n):bV Y draw hid site f args σ n':=by
 rcases hp with⟨r,h1,h2⟩|⟨h1,h2⟩|⟨h1,sz,rows,h2,h3⟩
 ·exact .inl ⟨r,GM h h1,hn _ _ h2⟩
 ·exact .inr (.inl ⟨h1,hK _ _ _ _ _ hn (h _ _ _ _ h2)⟩)
 ·exact .inr (.inr ⟨h1,sz,rows,Jv h h2,hn _ _ h3⟩)
theorem qS (h:∀f args σ K,X f args σ K->Y f args σ K) (hK:∀f args σ K K',(∀r σ',K r σ'->K' r σ')->Y f args σ K->Y f args σ K') {draw:Bool} {o:bz} {env:Env} {σ:ar} {n n':AV->ar->Prop} (hn:∀v σ',n v σ'->n' v σ') (hp:eQ X draw o env σ n):eQ Y draw o env σ n':=by
 unfold eQ at hp ⊢
 split at hp
 ·exact pj h hK hn hp
 ·split at hp
  ·exact pj h hK hn hp
  ·exact pj h hK hn hp
  ·exact hp.elim
 ·split at hp
  ·exact hn _ _ hp
  ·exact hp.elim
 ·split at hp
  ·exact hn _ _ hp
  ·exact hp.elim
 ·split at hp
  ·exact hn _ _ hp
  ·exact hp.elim
 ·split at hp
  ·exact hn _ _ hp
  ·exact hp.elim
 ·split at hp
  ·exact hn _ _ hp
  ·exact hp.elim
 ·split at hp
  ·exact hn _ _ hp
  ·exact hn _ _ hp
  ·exact hp.elim
theorem mB (h:∀f args σ K,X f args σ K->Y f args σ K) (hK:∀f args σ K K',(∀r σ',K r σ'->K' r σ')->Y f args σ K->Y f args σ K') {draw:Bool} {Q Q':Env->ar->Prop} (hQ:∀e s,Q e s->Q' e s):∀(l:List bz) (env:Env) (σ:ar),wpOps X draw l Q env σ->wpOps Y draw l Q' env σ
 |[],env,σ,hp=>hQ _ _ hp
 |o::r,env,σ,hp=>by
  unfold wpOps at hp ⊢
  split at hp
  ·rename_i hw;rw[if_pos hw];exact qS h hK (fun v σ'=>mB h hK hQ r _ _) hp
  ·rename_i hw;rw[if_neg hw];exact mB h hK hQ r _ _ hp
theorem mA {Q Q':Env->ar->Prop} (hQ:∀e s,Q e s->Q' e s):∀(l:List bz) (env:Env) (σ:ar),bK l Q env σ->bK l Q' env σ
 |[],env,σ,hp=>hQ _ _ hp
 |o::r,env,σ,hp=>by
  unfold bK at hp ⊢
  refine⟨hp.1,?_⟩
  replace hp:=hp.2
  split at hp
  ·split at hp
   ·exact mA hQ r _ _ hp
   ·exact hp.elim
  ·split at hp
   ·exact mA hQ r _ _ hp
   ·exact hp.elim
  ·split at hp
   ·exact mA hQ r _ _ hp
   ·exact hp.elim
theorem kH (h:∀f args σ K,X f args σ K->Y f args σ K) (hK:∀f args σ K K',(∀r σ',K r σ'->K' r σ')->Y f args σ K->Y f args σ K'):∀(c:VC) (Q Q':Ex->Env->ar->Prop) (env:Env) (σ:ar),(∀x e s,Q x e s->Q' x e s)->dL X c Q env σ->dL Y c Q' env σ:=by
 intro c
 induction c with
 |skip=>intro Q Q' env σ hQ hp;exact hQ _ _ _ hp
 |exit id=>intro Q Q' env σ hQ hp;exact hQ _ _ _ hp
 |ret=>intro Q Q' env σ hQ hp;exact hQ _ _ _ hp
 |one o c ih=>
  intro Q Q' env σ hQ hp
  unfold dL at hp ⊢
  split at hp
  ·rename_i hw;rw[if_pos hw];exact qS h hK (fun v σ'=>ih Q Q' _ _ hQ) hp
  ·rename_i hw;rw[if_neg hw];exact ih Q Q' _ _ hQ hp
 |both a b iha ihb=>intro Q Q' env σ hQ hp;exact⟨iha Q Q' env σ hQ hp.1,ihb Q Q' env σ hQ hp.2⟩
 |loc t s y c ih=>intro Q Q' env σ hQ hp;exact⟨hp.1,ih Q Q' env σ hQ hp.2⟩
 |Mu ops=>intro Q Q' env σ hQ hp;exact mA (hQ .normal) ops env σ hp
 |ej draw ops=>intro Q Q' env σ hQ hp;exact mB h hK (hQ .normal) ops env σ hp
 |seq a b iha ihb=>
  intro Q Q' env σ hQ hp
  refine iha _ _ env σ (fun x e s hx=>?_) hp
  cases x with
  |normal=>exact ihb Q Q' e s hQ hx
  |exit id=>exact hQ _ _ _ hx
  |ret=>exact hQ _ _ _ hx
 |cond c a b iha ihb=>
  intro Q Q' env σ hQ hp
  unfold dL at hp ⊢
  split at hp
  ·rename_i t ht
   cases t with
   |true=>exact iha Q Q' env σ hQ hp
   |false=>exact ihb Q Q' env σ hQ hp
  ·exact hp.elim
 |block id a iha=>
  intro Q Q' env σ hQ hp
  refine iha _ _ env σ (fun x e s hx=>?_) hp
  cases x with
  |normal=>exact hQ _ _ _ hx
  |ret=>exact hQ _ _ _ hx
  |exit ki=>
   unfold aX at hx ⊢
   dsimp only at hx ⊢
   split at hx
   ·rename_i hid;rw[if_pos hid];exact hQ _ _ _ hx
   ·rename_i hid;rw[if_neg hid];exact hQ _ _ _ hx
 |loop a iha=>
  intro Q Q' env σ hQ hp
  obtain⟨n,hp⟩:=hp
  refine⟨n,?_⟩
  induction n generalizing env σ with
  |zero=>exact hp
  |succ n ihn=>
   refine iha _ _ env σ (fun x e s hx=>?_) hp
   cases x with
   |normal=>exact ihn e s hx
   |exit id=>exact hQ _ _ _ hx
   |ret=>exact hQ _ _ _ hx
theorem aE:oX (Call P):=fun _ _ _ _ _ hK h X hX hc=>hX _ _ _ _ _ hK (h X hX hc)
theorem wC {f:Nat} {args:List AV} {σ:ar} {K:AV->ar->Prop} (h:L4 P (Call P) f args σ K):Call P f args σ K:=by
 intro X hX hc
 refine hc _ _ _ _ ?_
 rcases h with⟨md,vf,h1,h2,h3⟩|h
 ·exact .inl ⟨md,vf,h1,h2,fun hl=>kH (fun f args σ K h=>h X hX hc) hX _ _ _ _ _ (fun _ _ _ h=>h) (h3 hl)⟩
 ·exact .inr h
theorem tL {f:Nat} {md:List (Nat×Nat)} {args:List AV} {σ:ar} {K:AV->ar->Prop} {vf:wE} (hf:sP P f md=some vf) (ha:vf.xr=args.length) (h:(∀a∈args,eC a)->dL (Call P) vf.body (lk vf.res K) (bJ args) σ):Call P f args σ K:=
 wC (.inl ⟨md,vf,hf,ha,h⟩)
theorem lz {f:Nat} {args:List AV} {σ:ar} {K:AV->ar->Prop} {vf:wE} (hf:lx P f=some vf) (ha:vf.xr=args.length) (h:(∀a∈args,eC a)->dL (Call P) vf.body (lk vf.res K) (bJ args) σ):Call P f args σ K:=
 tL hf ha h
theorem gr {f:Nat} {args:List AV} {σ:ar} {K:AV->ar->Prop} (h:Sound P f args σ K):Call P f args σ K:=wC (.inr h)
def kb (P:Program) (f:Nat) (args:List AV) (r:AV):Prop:=∀σ,PC (Call P) f args σ (fun r'=>r'=r)
theorem kb.body {f:Nat} {args:List AV} {r:AV} {nt na:Nat} {body:VC} {res:List oP} (hf:lx P f=some ⟨nt,na,body,res⟩) (ha:na=args.length) (h:(∀a∈args,eC a)->∀σ:ar,dL (Call P) body (lk res fun r0 σ'=>∃r',fz σ'.get 6 r0=some r'/\r'=r) (bJ args) ⟨V.ro σ.get,σ.next⟩):kb P f args r:=fun σ=>lz hf ha fun hl=>h hl σ
variable {Q:Ex->Env->ar->Prop} {K:Env->ar->Prop} {env:Env} {σ:ar}
theorem EH {a b:VC} (h:∀N:Env->ar->Prop,(∀e s,dL X b Q e s->N e s)->dL X a (cW N Q) env σ):dL X (.seq a b) Q env σ:=h _ fun _ _ h=>h
theorem zp (h:Q .normal env σ):dL X .skip Q env σ:=h
theorem zm {id:Nat} (h:Q (.exit id) env σ):dL X (.exit id) Q env σ:=h
theorem EG (h:Q .ret env σ):dL X .ret Q env σ:=h
theorem tF {id:Nat} {c:VC} (h:dL X c (aX id Q) env σ):dL X (.block id c) Q env σ:=h
theorem EE {o:bz} {c:VC} (h:∀N:AV->ar->Prop,(∀v s,dL X c Q (upd env o.dst v) s->N v s)->if az o.guard env then eQ X false o env σ N else N .undef σ):dL X (.one o c) Q env σ:=by
 have:=h (fun v s=>dL X c Q (upd env o.dst v) s) fun _ _ h=>h
 unfold dL
 split
 ·rename_i hw;rw[if_pos hw]at this;exact this
 ·rename_i hw;rw[if_neg hw]at this;exact this
def dC (s n:Nat):AV->Prop
 | .own id 0 _=>id=⟨s,n⟩
 |_=>False
def dE (n:Nat):AV->Prop
 | .own id _ _=>¬id.bW=n
 |_=>True
theorem zo {t s:Nat} {y:O} {c:VC} (h1:dC s σ.next (env t)) (h2:dE σ.next (cJ env y)) (h:dL X c Q env σ):dL X (.loc t s y c) Q env σ:=by
 refine⟨⟨?_,fun id o l he=>?_⟩,h⟩
 ·revert h1
  unfold dC
  split
  ·rename_i id l he;rintro rfl;exact⟨l,he⟩
  ·exact fun h=>h.elim
 ·rw[he]at h2;exact h2
theorem eK {a b:VC} (ha:dL X a Q env σ) (hb:dL X b Q env σ):dL X (.both a b) Q env σ:=⟨ha,hb⟩
theorem EF {draw:Bool} {ops:List bz} (h:∀N:Env->ar->Prop,(∀e s,Q .normal e s->N e s)->wpOps X draw ops N env σ):dL X (.ej draw ops) Q env σ:=h _ fun _ _ h=>h
theorem I3 {ops:List bz} (h:bK ops (Q .normal) env σ):dL X (.Mu ops) Q env σ:=h
theorem ED {draw:Bool} (h:K env ⟨σ.get,σ.next+1⟩):wpOps X draw [] K env σ:=h
theorem Oc {draw:Bool} {o:bz} {r:List bz} (h:∀N:AV->ar->Prop,(∀v s,wpOps X draw r K (upd env o.dst v) s->N v s)->if az o.guard env then eQ X draw o env σ N else N .undef σ):wpOps X draw (o::r) K env σ:=by
 have:=h (fun v s=>wpOps X draw r K (upd env o.dst v) s) fun _ _ h=>h
 unfold wpOps
 split
 ·rename_i hw;rw[if_pos hw]at this;exact this
 ·rename_i hw;rw[if_neg hw]at this;exact this
theorem I4 {c:O} {x y:VC} {b:Bool} (hc:cJ env c=.bool b) (ht:b=true->dL X x Q env σ) (hf:b=false->dL X y Q env σ):dL X (.cond c x y) Q env σ:=by
 unfold dL
 simp only[hc]
 cases b with
 |true=>exact ht rfl
 |false=>exact hf rfl
inductive nr:AV->Prop->Prop->Prop
 |t {A B:Prop}:A->nr (.bool true) A B
 |f {A B:Prop}:B->nr (.bool false) A B
theorem tG {c:O} {x y:VC} {v:AV} (hv:cJ env c=v) (h:nr v (dL X x Q env σ) (dL X y Q env σ)):dL X (.cond c x y) Q env σ:=by
 cases h with
 |t h=>exact I4 hv (fun _=>h) (fun e=>by cases e)
 |f h=>exact I4 hv (fun e=>by cases e) (fun _=>h)
theorem Ob {c:VC} (I:Nat->Env->ar->Prop) (n:Nat) (h0:I n env σ) (step:∀n env σ,I n env σ->dL X c (fun x e s=>match x with| .normal=>∃m,m<n/\I m e s|x=>Q x e s) env σ)
  (hX:∀(c:VC) (Q Q':Ex->Env->ar->Prop) env σ,(∀x e s,Q x e s->Q' x e s)->dL X c Q env σ->dL X c Q' env σ):dL X (.loop c) Q env σ:=by
 have key:∀N n env σ,n<N->I n env σ->En (dL X c) Q N env σ:=by
  intro N
  induction N with
  |zero=>intro n env σ h;exact absurd h (Nat.not_lt_zero _)
  |succ N ih=>
   intro n env σ hn hI
   refine hX c _ _ env σ (fun x e s hx=>?_) (step n env σ hI)
   cases x with
   |normal=>obtain⟨m,hm,hI'⟩:=hx;exact ih m e s (by omega) hI'
   |exit id=>exact hx
   |ret=>exact hx
 exact⟨n+1,key _ n env σ (Nat.lt_succ_self _) h0⟩
theorem K9 {c:VC} (I:Nat->Env->ar->Prop) (n:Nat) (h0:I n env σ) (step:∀n env σ,I n env σ->dL (Call P) c (fun x e s=>match x with| .normal=>∃m,m<n/\I m e s|x=>Q x e s) env σ):dL (Call P) (.loop c) Q env σ:=
 Ob I n h0 step fun c Q Q' env σ hQ h=>kH (fun _ _ _ _ h=>h) aE c Q Q' env σ hQ h
def DL:VC->List Nat
 | .ej _ ops=>ops.filterMap (·.dst)
 | .seq a b=>DL a++DL b
 | .cond _ a b=>DL a++DL b
 | .block _ a=>DL a
 | .loop a=>DL a
 | .one o c=>o.dst.toList++DL c
 | .both a b=>DL a++DL b
 | .loc _ _ _ c=>DL c
 | .Mu ops=>ops.filterMap (·.dst)
 |_=>[]
def kS (l:List Nat) (env ik:Env):Prop:=∀t,l.contains t=false->ik t=env t
theorem kS.refl (l:List Nat) (env:Env):kS l env env:=fun _ _=>rfl
theorem kS.upd {l:List Nat} {e e':Env} {d:Option Nat} {v:AV} (h:kS l e e') (hd:∀t,d=some t->t∈l):kS l e (upd e' d v):=fun t ht=>by
 cases d with
 |none=>exact h t ht
 |some d=>
  have:t≠d:=fun hc=>by subst hc;rw[<-Bool.not_eq_true,List.contains_iff_mem]at ht;exact ht (hd _ rfl)
  show(if t=d then v else e' t)=e t
  rw[if_neg this];exact h t ht
theorem oq {draw:Bool} {Q:Env->ar->Prop} {l:List Nat} {e0:Env}:∀(ops:List bz) (env:Env) (σ:ar),(∀t,t∈ops.filterMap (·.dst)->t∈l)->kS l e0 env->wpOps (Call P) draw ops Q env σ->wpOps (Call P) draw ops (fun e s=>Q e s/\kS l e0 e) env σ
 |[],env,σ,_,hk,hp=>⟨hp,hk⟩
 |o::r,env,σ,hl,hk,hp=>by
  have hd:∀t,o.dst=some t->t∈l:=fun t ht=>hl t (List.mem_filterMap.2 ⟨o,by simp,ht⟩)
  have hr:∀t,t∈r.filterMap (·.dst)->t∈l:=fun t ht=>hl t (by
   obtain⟨x,hx,h⟩:=List.mem_filterMap.1 ht
   exact List.mem_filterMap.2 ⟨x,List.mem_cons_of_mem _ hx,h⟩)
  unfold wpOps at hp ⊢
  split at hp
  ·rename_i hw;rw[if_pos hw]
   exact qS (fun _ _ _ _ h=>h) aE (fun v σ' h=>oq r _ _ hr (hk.upd hd) h) hp
  ·rename_i hw;rw[if_neg hw];exact oq r _ _ hr (hk.upd hd) hp
theorem k9 {Q:Env->ar->Prop} {l:List Nat} {e0:Env}:∀(ops:List bz) (env:Env) (σ:ar),(∀t,t∈ops.filterMap (·.dst)->t∈l)->kS l e0 env->bK ops Q env σ->bK ops (fun e s=>Q e s/\kS l e0 e) env σ
 |[],env,σ,_,hk,hp=>⟨hp,hk⟩
 |o::r,env,σ,hl,hk,hp=>by
  have hd:∀t,o.dst=some t->t∈l:=fun t ht=>hl t (List.mem_filterMap.2 ⟨o,by simp,ht⟩)
  have hr:∀t,t∈r.filterMap (·.dst)->t∈l:=fun t ht=>hl t (by
   obtain⟨x,hx,h⟩:=List.mem_filterMap.1 ht
   exact List.mem_filterMap.2 ⟨x,List.mem_cons_of_mem _ hx,h⟩)
  unfold bK at hp ⊢
  refine⟨hp.1,?_⟩
  replace hp:=hp.2
  split at hp
  ·split at hp
   ·exact k9 r _ _ hr (hk.upd hd) hp
   ·exact hp.elim
  ·split at hp
   ·exact k9 r _ _ hr (hk.upd hd) hp
   ·exact hp.elim
  ·split at hp
   ·exact k9 r _ _ hr (hk.upd hd) hp
   ·exact hp.elim
theorem Gu {l:List Nat} {e0:Env}:∀(c:VC) (Q:Ex->Env->ar->Prop) (env:Env) (σ:ar),(∀t,t∈DL c->t∈l)->kS l e0 env->dL (Call P) c Q env σ->dL (Call P) c (fun x e s=>Q x e s/\kS l e0 e) env σ:=by
 intro c
 induction c with
 |skip=>intro Q env σ _ hk hp;exact⟨hp,hk⟩
 |exit id=>intro Q env σ _ hk hp;exact⟨hp,hk⟩
 |ret=>intro Q env σ _ hk hp;exact⟨hp,hk⟩
 |one o c ih=>
  intro Q env σ hl hk hp
  have hd:∀t,o.dst=some t->t∈l:=fun t ht=>hl t (List.mem_append_left _ (by rw[ht];simp))
  have hr:∀t,t∈DL c->t∈l:=fun t ht=>hl t (List.mem_append_right _ ht)
  unfold dL at hp ⊢
  split at hp
  ·rename_i hw;rw[if_pos hw]
   exact qS (fun _ _ _ _ h=>h) aE (fun v σ' h=>ih Q _ _ hr (hk.upd hd) h) hp
  ·rename_i hw;rw[if_neg hw];exact ih Q _ _ hr (hk.upd hd) hp
 |both a b iha ihb=>
  intro Q env σ hl hk hp
  exact⟨iha Q env σ (fun t ht=>hl t (List.mem_append_left _ ht)) hk hp.1,ihb Q env σ (fun t ht=>hl t (List.mem_append_right _ ht)) hk hp.2⟩
 |loc t s y c ih=>intro Q env σ hl hk hp;exact⟨hp.1,ih Q env σ hl hk hp.2⟩
 |Mu ops=>intro Q env σ hl hk hp;exact k9 ops env σ hl hk hp
 |ej draw ops=>intro Q env σ hl hk hp;exact oq ops env σ hl hk hp
 |seq a b iha ihb=>
  intro Q env σ hl hk hp
  refine kH (fun _ _ _ _ h=>h) aE a _ _ env σ (fun x e s hx=>?_) (iha _ env σ (fun t ht=>hl t (List.mem_append_left _ ht)) hk hp)
  cases x with
  |normal=>exact ihb Q e s (fun t ht=>hl t (List.mem_append_right _ ht)) hx.2 hx.1
  |exit id=>exact hx
  |ret=>exact hx
 |cond c a b iha ihb=>
  intro Q env σ hl hk hp
  unfold dL at hp ⊢
  split at hp
  ·rename_i t ht
   cases t with
   |true=>exact iha Q env σ (fun t ht=>hl t (List.mem_append_left _ ht)) hk hp
   |false=>exact ihb Q env σ (fun t ht=>hl t (List.mem_append_right _ ht)) hk hp
  ·exact hp.elim
 |block id a iha=>
  intro Q env σ hl hk hp
  refine kH (fun _ _ _ _ h=>h) aE a _ _ env σ (fun x e s hx=>?_) (iha _ env σ hl hk hp)
  obtain⟨hx,Ed⟩:=hx
  cases x with
  |normal=>exact⟨hx,Ed⟩
  |ret=>exact⟨hx,Ed⟩
  |exit ki=>
   unfold aX at hx ⊢
   dsimp only at hx ⊢
   split at hx
   ·rename_i hid;rw[if_pos hid];exact⟨hx,Ed⟩
   ·rename_i hid;rw[if_neg hid];exact⟨hx,Ed⟩
 |loop a iha=>
  intro Q env σ hl hk hp
  obtain⟨n,hp⟩:=hp
  refine⟨n,?_⟩
  induction n generalizing env σ with
  |zero=>exact hp
  |succ n ihn=>
   refine kH (fun _ _ _ _ h=>h) aE _ _ _ _ _ (fun x e s hx=>?_) (iha _ env σ hl hk hp)
   obtain⟨hx,Ed⟩:=hx
   cases x with
   |normal=>exact ihn e s Ed hx
   |exit id=>exact⟨hx,Ed⟩
   |ret=>exact⟨hx,Ed⟩
theorem aY {c:VC} (I:Nat->Env->ar->Prop) (n:Nat) (h0:I n env σ) (step:∀n e s,I n e s->kS (DL c) env e->dL (Call P) c (fun x e s=>match x with| .normal=>∃m,m<n/\I m e s|x=>Q x e s) e s):dL (Call P) (.loop c) Q env σ:=by
 refine K9 (fun n e s=>I n e s/\kS (DL c) env e) n ⟨h0,kS.refl _ _⟩ fun n e s hI=>?_
 refine kH (fun _ _ _ _ h=>h) aE _ _ _ _ _ (fun x e' s' hx=>?_) (Gu c _ e s (fun _ h=>h) hI.2 (step n e s hI.1 hI.2))
 obtain⟨hx,hk⟩:=hx
 cases x with
 |normal=>obtain⟨m,hm,h⟩:=hx;exact⟨m,hm,h,hk⟩
 |exit id=>exact hx
 |ret=>exact hx
theorem I7 {k:Nat} (h:k<=9223372036854775807):IntKind.i64.wrap (k:Int)=k:=by rw[IntKind.wrap_i64];omega
theorem bE {z:Int} (h: -9223372036854775808<=z/\z<=9223372036854775807):IntKind.i64.wrap z=z:=by rw[IntKind.wrap_i64];omega
theorem ax {k:Nat} (h:(k:Int)+1<=9223372036854775807):IntKind.i64.wrap ((k:Int)+1)=((k+1:Nat):Int):=by rw[IntKind.wrap_i64];omega
theorem all_succ {k:Nat} {p:Nat->Prop} (h:∀j,j<k->p j) (hk:p k):∀j,j<k+1->p j:=fun j hj=>by
 by_cases w9:j=k
 ·subst w9;exact hk
 ·exact h j (by omega)
theorem ay (g:Rows) (n:Nat) (k:IntKind) (m:Int):fz g (n+1) (.int k m)=some (.int k m):=by rw[fz]<;>intros<;>simp_all
theorem bh (g:Rows) (n:Nat) (b:ByteArray):fz g (n+1) (.str b)=some (.str b):=by rw[fz]<;>intros<;>simp_all
theorem bD (g:Rows) (n:Nat) (l:List (List AV)):fz g (n+1) (.sl l)=some (.sl l):=by rw[fz]<;>intros<;>simp_all
theorem aG (g:Rows) (n:Nat):fz g (n+1) .bP=some .bP:=by rw[fz]<;>intros<;>simp_all
theorem QP {t:Nat} {r r0:AV} {x:Ex} (hx:x=.ret∨x=.normal) (he:env t=r0) (hz:fz σ.get 6 r0=some r):lk [.tmp t] (fun r0 σ'=>∃r',fz σ'.get 6 r0=some r'/\r'=r) x env σ:=by
 have:∃vs,eX env σ.get [.tmp t]=some vs/\∃r',fz σ.get 6 (eL vs)=some r'/\r'=r:=⟨[env t],rfl,r,by subst he;exact hz,rfl⟩
 rcases hx with rfl|rfl
 ·exact this
 ·exact this
def ak (P:Program) (f:Nat) (args:List AV) (r:AV):Prop:=∀n:Nat,Call P f args ⟨fun _=>none,n⟩ fun r0 σ'=>∃r',ga σ'.get 6 r0=some r'/\r'=r
theorem ak.body {f:Nat} {args:List AV} {r:AV} {nt na:Nat} {body:VC} {res:List oP} (hf:lx P f=some ⟨nt,na,body,res⟩) (ha:na=args.length) (h:(∀a∈args,eC a)->∀n:Nat,dL (Call P) body (lk res fun r0 σ'=>∃r',ga σ'.get 6 r0=some r'/\r'=r) (bJ args) ⟨fun _=>none,n⟩):ak P f args r:=fun n=>lz hf ha fun hl=>h hl n
theorem ak.x {f:Nat} {args eD:List AV} {r:AV} (h:ak P f eD r) {σ:ar} (hv:cI (dd σ.get) 6 args=some eD):fu (Call P) f args σ (fun r'=>r'=r):=.inr ⟨eD,hv,h _⟩
theorem kb.x {f:Nat} {args:List AV} {r:AV} (h:kb P f args r) (σ:ar):fu (Call P) f args σ (fun r'=>r'=r):=.inl (h σ)
theorem ek (g:Rows) (n:Nat) (k:IntKind) (m:Int):ga g (n+1) (.int k m)=some (.int k m):=by rw[ga]<;>intros<;>simp_all
theorem fe (g:Rows) (n:Nat) (b:Bool):ga g (n+1) (.bool b)=some (.bool b):=by rw[ga]<;>intros<;>simp_all
theorem JV (g:Rows) (n:Nat) (b:ByteArray):ga g (n+1) (.str b)=some (.str b):=by rw[ga]<;>intros<;>simp_all
theorem iV (g:Rows) (n:Nat):ga g (n+1) .bP=some .bP:=by rw[ga]<;>intros<;>simp_all
theorem eR (g:Rows) (n:Nat) (l:List AV):ga g (n+1) (.ij l)=(dR g n l).map AV.ij:=by rw[ga]
theorem yf (g:Rows) (n:Nat) (l:List AV):ga g (n+1) (.agg l)=(dR g n l).map AV.agg:=by rw[ga]
theorem qi {g:Rows} {n:Nat} {id:Id} {off len sz:Nat} {rows rows':List (List AV)} (h:g id=some ⟨true,sz,rows⟩) (hl:off+len<=rows.length) (hr:gJ g n ((rows.drop off).take len)=some rows'):ga g (n+1) (.own id off len)=some (.sl rows'):=by
 rw[ga];simp only[h,if_true,if_pos hl,hr,Option.map_some]
theorem cG (g:Rows) (n:Nat):dR g n []=some []:=by rw[dR]
theorem bC (g:Rows) (n:Nat) (a:AV) (l:List AV):dR g n (a::l)=match ga g n a with
  |some b=>(dR g n l).map (b::·)
  |none=>none:=by rw[dR];cases ga g n a<;>rfl
theorem sq {g:Rows} {n:Nat}:∀{l:List (List AV)},(∀c∈l,dR g n c=some c)->gJ g n l=some l
 |[],_=>by rw[gJ]
 |c::r,h=>by rw[gJ,h c (by simp),sq fun d hd=>h d (List.mem_cons_of_mem _ hd)];rfl
theorem aM (g:Rows) (n:Nat) (l:List AV):fz g (n+1) (.agg l)=(cI g n l).map AV.agg:=by rw[fz]
theorem aD (g:Rows) (n:Nat) (l:List AV):fz g (n+1) (.cN l)=some (.cN l):=by rw[fz]<;>intros<;>simp_all
theorem rD {g:Rows} {n:Nat} {id:Id} {i off sz:Nat} {rows:List (List AV)} {cs o5:List AV} (h:g id=some ⟨true,sz,rows⟩) (hi:rows[i]? =some cs) (hr:cI g n (cs.drop off)=some o5):fz g (n+1) (.ptr id i off)=some (.cN o5):=by
 rw[fz];simp only[h,if_true,hi,hr,Option.map_some]
theorem ai (g:Rows) (n:Nat):cI g n []=some []:=by rw[cI]
theorem ae (g:Rows) (n:Nat) (a:AV) (l:List AV):cI g n (a::l)=match fz g n a with
  |some b=>(cI g n l).map (b::·)
  |none=>none:=by rw[cI];cases fz g n a<;>rfl
theorem uV {t:Nat} {r r0:AV} {x:Ex} (hx:x=.ret∨x=.normal) (he:env t=r0) (hz:ga σ.get 6 r0=some r):lk [.tmp t] (fun r0 σ'=>∃r',ga σ'.get 6 r0=some r'/\r'=r) x env σ:=by
 have:∃vs,eX env σ.get [.tmp t]=some vs/\∃r',ga σ.get 6 (eL vs)=some r'/\r'=r:=⟨[env t],rfl,r,by subst he;exact hz,rfl⟩
 rcases hx with rfl|rfl
 ·exact this
 ·exact this
theorem aQ {t:Nat} {b c:Bool} {x:Ex} (hx:x=.ret∨x=.normal) (he:env t=.bool b) (hb:b=c):lk [.tmp t] (fun r0 σ'=>∃r',ga σ'.get 6 r0=some r'/\r'=.bool c) x env σ:=uV hx he (by rw[fe,hb])
theorem bL {t:Nat} {k:IntKind} {b c:Int} {x:Ex} (hx:x=.ret∨x=.normal) (he:env t=.int k b) (hb:b=c):lk [.tmp t] (fun r0 σ'=>∃r',ga σ'.get 6 r0=some r'/\r'=.int k c) x env σ:=uV hx he (by rw[ek,hb])
theorem jf {t u:Nat} {r r1 r2:AV} {x:Ex} (hx:x=.ret∨x=.normal) (h1:env t=r1) (h2:env u=r2) (hz:ga σ.get 6 (.ij [r1,r2])=some r):lk [.tmp t,.tmp u] (fun r0 σ'=>∃r',ga σ'.get 6 r0=some r'/\r'=r) x env σ:=by
 have:∃vs,eX env σ.get [.tmp t,.tmp u]=some vs/\∃r',ga σ.get 6 (eL vs)=some r'/\r'=r:=⟨[env t,env u],rfl,r,by subst h1;subst h2;exact hz,rfl⟩
 rcases hx with rfl|rfl
 ·exact this
 ·exact this
structure Pn (p:Prop):Prop where
 out:p
theorem tw {A B:Prop} (a:A) (b:B):A/\B:=⟨a,b⟩
theorem wk {A R G:Prop} (a:A) (r:R) (h:A->R->G:=by
  intro fL kk
  (repeat(refine Pn.mk ?_;intro N hN))
  (first|((first|apply EH|apply EF);intro N hN)|((first|(apply Oc;intro N hN)|(apply EE;intro N hN));simp only[go_sem, ↓reduceIte,Nat.reduceEqDiff,Nat.reduceAdd,Nat.reduceSub,Nat.reduceMul,Nat.reduceLeDiff,Nat.reduceBEq,reduceCtorEq,Nat.reduceLT,Int.reduceLE,Int.reduceLT,Int.reduceToNat,Int.reduceNeg,Int.reduceAdd,Int.reduceEq,fL];first|(refine hN _ _ ?_;clear hN N)|skip)|(apply tG;(simp only[go_sem, ↓reduceIte,Nat.reduceEqDiff,Nat.reduceAdd,Nat.reduceSub,Nat.reduceMul,Nat.reduceLeDiff,Nat.reduceBEq,reduceCtorEq,Nat.reduceLT,Int.reduceLE,Int.reduceLT,Int.reduceToNat,Int.reduceNeg,Int.reduceAdd,Int.reduceEq,fL];rfl);first|with_reducible apply nr.t|with_reducible apply nr.f)|(apply ED;refine hN _ _ ?_;clear hN N;try(simp only[cW,aX, ↓reduceIte,Nat.reduceEqDiff]);try(refine hN _ _ ?_;clear hN N))|apply tF|(refine zo ?_ ?_ ?_;(focus(simp only[go_sem, ↓reduceIte,Nat.reduceEqDiff,Nat.reduceAdd,Nat.reduceSub,Nat.reduceMul,Nat.reduceLeDiff,Nat.reduceBEq,reduceCtorEq,Nat.reduceLT,Int.reduceLE,Int.reduceLT,Int.reduceToNat,Int.reduceNeg,Int.reduceAdd,Int.reduceEq,fL];done));(focus(simp only[go_sem, ↓reduceIte,Nat.reduceEqDiff,Nat.reduceAdd,Nat.reduceSub,Nat.reduceMul,Nat.reduceLeDiff,Nat.reduceBEq,reduceCtorEq,Nat.reduceLT,Int.reduceLE,Int.reduceLT,Int.reduceToNat,Int.reduceNeg,Int.reduceAdd,Int.reduceEq,fL];done)))|((first|apply zp|apply zm|apply EG);try(simp only[cW,aX, ↓reduceIte,Nat.reduceEqDiff]);try(refine hN _ _ ?_;clear hN N))|((first|refine hN _ _ ?_|(clear hN N;first|refine hN _ _ ?_|(clear hN N;first|refine hN _ _ ?_|(clear hN N;first|refine hN _ _ ?_|(clear hN N;refine hN _ _ ?_)))));clear hN N))
  (repeat(first|((first|apply EH|apply EF);intro N hN)|((first|(apply Oc;intro N hN)|(apply EE;intro N hN));simp only[go_sem, ↓reduceIte,Nat.reduceEqDiff,Nat.reduceAdd,Nat.reduceSub,Nat.reduceMul,Nat.reduceLeDiff,Nat.reduceBEq,reduceCtorEq,Nat.reduceLT,Int.reduceLE,Int.reduceLT,Int.reduceToNat,Int.reduceNeg,Int.reduceAdd,Int.reduceEq,fL];first|(refine hN _ _ ?_;clear hN N)|skip)|(apply tG;(simp only[go_sem, ↓reduceIte,Nat.reduceEqDiff,Nat.reduceAdd,Nat.reduceSub,Nat.reduceMul,Nat.reduceLeDiff,Nat.reduceBEq,reduceCtorEq,Nat.reduceLT,Int.reduceLE,Int.reduceLT,Int.reduceToNat,Int.reduceNeg,Int.reduceAdd,Int.reduceEq,fL];rfl);first|with_reducible apply nr.t|with_reducible apply nr.f)|(apply ED;refine hN _ _ ?_;clear hN N;try(simp only[cW,aX, ↓reduceIte,Nat.reduceEqDiff]);try(refine hN _ _ ?_;clear hN N))|apply tF|(refine zo ?_ ?_ ?_;(focus(simp only[go_sem, ↓reduceIte,Nat.reduceEqDiff,Nat.reduceAdd,Nat.reduceSub,Nat.reduceMul,Nat.reduceLeDiff,Nat.reduceBEq,reduceCtorEq,Nat.reduceLT,Int.reduceLE,Int.reduceLT,Int.reduceToNat,Int.reduceNeg,Int.reduceAdd,Int.reduceEq,fL];done));(focus(simp only[go_sem, ↓reduceIte,Nat.reduceEqDiff,Nat.reduceAdd,Nat.reduceSub,Nat.reduceMul,Nat.reduceLeDiff,Nat.reduceBEq,reduceCtorEq,Nat.reduceLT,Int.reduceLE,Int.reduceLT,Int.reduceToNat,Int.reduceNeg,Int.reduceAdd,Int.reduceEq,fL];done)))|((first|apply zp|apply zm|apply EG);try(simp only[cW,aX, ↓reduceIte,Nat.reduceEqDiff]);try(refine hN _ _ ?_;clear hN N))|((first|refine hN _ _ ?_|(clear hN N;first|refine hN _ _ ?_|(clear hN N;first|refine hN _ _ ?_|(clear hN N;first|refine hN _ _ ?_|(clear hN N;refine hN _ _ ?_)))));clear hN N)))
  (repeat(revert hN;revert N;apply Pn.out))
  exact kk):G:=h a r
theorem wa {A R G:Prop} (a:A) (r:R) (h:A->R->G:=by
  intro fL kk
  (repeat(refine Pn.mk ?_;intro N hN))
  (first|((first|apply EH|apply EF);intro N hN)|((first|(refine L8 rfl fun N hN=>?_)|(apply EE;intro N hN));simp only[go_sem, ↓reduceIte,Nat.reduceEqDiff,Nat.reduceAdd,Nat.reduceSub,Nat.reduceMul,Nat.reduceLeDiff,Nat.reduceBEq,reduceCtorEq,Nat.reduceLT,Int.reduceLE,Int.reduceLT,Int.reduceToNat,Int.reduceNeg,Int.reduceAdd,Int.reduceEq,fL];first|(refine hN _ _ ?_;clear hN N)|skip)|(apply tG;(simp only[go_sem, ↓reduceIte,Nat.reduceEqDiff,Nat.reduceAdd,Nat.reduceSub,Nat.reduceMul,Nat.reduceLeDiff,Nat.reduceBEq,reduceCtorEq,Nat.reduceLT,Int.reduceLE,Int.reduceLT,Int.reduceToNat,Int.reduceNeg,Int.reduceAdd,Int.reduceEq,fL];rfl);first|with_reducible apply nr.t|with_reducible apply nr.f)|(apply ED;refine hN _ _ ?_;clear hN N;try(simp only[cW,aX, ↓reduceIte,Nat.reduceEqDiff]);try(refine hN _ _ ?_;clear hN N))|apply tF|(refine zo ?_ ?_ ?_;(focus(simp only[go_sem, ↓reduceIte,Nat.reduceEqDiff,Nat.reduceAdd,Nat.reduceSub,Nat.reduceMul,Nat.reduceLeDiff,Nat.reduceBEq,reduceCtorEq,Nat.reduceLT,Int.reduceLE,Int.reduceLT,Int.reduceToNat,Int.reduceNeg,Int.reduceAdd,Int.reduceEq,fL];done));(focus(simp only[go_sem, ↓reduceIte,Nat.reduceEqDiff,Nat.reduceAdd,Nat.reduceSub,Nat.reduceMul,Nat.reduceLeDiff,Nat.reduceBEq,reduceCtorEq,Nat.reduceLT,Int.reduceLE,Int.reduceLT,Int.reduceToNat,Int.reduceNeg,Int.reduceAdd,Int.reduceEq,fL];done)))|((first|apply zp|apply zm|apply EG);try(simp only[cW,aX, ↓reduceIte,Nat.reduceEqDiff]);try(refine hN _ _ ?_;clear hN N))|((first|refine hN _ _ ?_|(clear hN N;first|refine hN _ _ ?_|(clear hN N;first|refine hN _ _ ?_|(clear hN N;first|refine hN _ _ ?_|(clear hN N;refine hN _ _ ?_)))));clear hN N))
  (repeat(first|((first|apply EH|apply EF);intro N hN)|((first|(refine L8 rfl fun N hN=>?_)|(apply EE;intro N hN));simp only[go_sem, ↓reduceIte,Nat.reduceEqDiff,Nat.reduceAdd,Nat.reduceSub,Nat.reduceMul,Nat.reduceLeDiff,Nat.reduceBEq,reduceCtorEq,Nat.reduceLT,Int.reduceLE,Int.reduceLT,Int.reduceToNat,Int.reduceNeg,Int.reduceAdd,Int.reduceEq,fL];first|(refine hN _ _ ?_;clear hN N)|skip)|(apply tG;(simp only[go_sem, ↓reduceIte,Nat.reduceEqDiff,Nat.reduceAdd,Nat.reduceSub,Nat.reduceMul,Nat.reduceLeDiff,Nat.reduceBEq,reduceCtorEq,Nat.reduceLT,Int.reduceLE,Int.reduceLT,Int.reduceToNat,Int.reduceNeg,Int.reduceAdd,Int.reduceEq,fL];rfl);first|with_reducible apply nr.t|with_reducible apply nr.f)|(apply ED;refine hN _ _ ?_;clear hN N;try(simp only[cW,aX, ↓reduceIte,Nat.reduceEqDiff]);try(refine hN _ _ ?_;clear hN N))|apply tF|(refine zo ?_ ?_ ?_;(focus(simp only[go_sem, ↓reduceIte,Nat.reduceEqDiff,Nat.reduceAdd,Nat.reduceSub,Nat.reduceMul,Nat.reduceLeDiff,Nat.reduceBEq,reduceCtorEq,Nat.reduceLT,Int.reduceLE,Int.reduceLT,Int.reduceToNat,Int.reduceNeg,Int.reduceAdd,Int.reduceEq,fL];done));(focus(simp only[go_sem, ↓reduceIte,Nat.reduceEqDiff,Nat.reduceAdd,Nat.reduceSub,Nat.reduceMul,Nat.reduceLeDiff,Nat.reduceBEq,reduceCtorEq,Nat.reduceLT,Int.reduceLE,Int.reduceLT,Int.reduceToNat,Int.reduceNeg,Int.reduceAdd,Int.reduceEq,fL];done)))|((first|apply zp|apply zm|apply EG);try(simp only[cW,aX, ↓reduceIte,Nat.reduceEqDiff]);try(refine hN _ _ ?_;clear hN N))|((first|refine hN _ _ ?_|(clear hN N;first|refine hN _ _ ?_|(clear hN N;first|refine hN _ _ ?_|(clear hN N;first|refine hN _ _ ?_|(clear hN N;refine hN _ _ ?_)))));clear hN N)))
  (repeat(revert hN;revert N;apply Pn.out))
  exact kk):G:=h a r
theorem sd {A G:Prop} (a:A) (h:A->G:=by
  intro fL
  first|(simp only[go_sem, ↓reduceIte,Nat.reduceEqDiff,Nat.reduceAdd,Nat.reduceSub,Nat.reduceMul,Nat.reduceLeDiff,Nat.reduceBEq,reduceCtorEq,Nat.reduceLT,Int.reduceLE,Int.reduceLT,Int.reduceToNat,Int.reduceNeg,Int.reduceAdd,Int.reduceEq,fL,eX,gM];done)|fail):G:=h a
theorem sl {A G:Prop} (a:A) (h:A->G:=by
  intro fL
  (try simp only[go_sem, ↓reduceIte,Nat.reduceEqDiff,Nat.reduceAdd,Nat.reduceSub,Nat.reduceMul,Nat.reduceLeDiff,Nat.reduceBEq,reduceCtorEq,Nat.reduceLT,Int.reduceLE,Int.reduceLT,Int.reduceToNat,Int.reduceNeg,Int.reduceAdd,Int.reduceEq,fL])
  try rfl):G:=h a
end Go.Proofs.YtgoljkjaameagaaGreat.V

namespace Go.Proofs.YtgoljkjaameagaaGreat.V
open Go.RowKit
variable {P:Program} {X:fy} {env:Env} {σ:ar}
theorem bm (g:Rows) (n:Nat) (l:List AV):fz g (n+1) (.ij l)=(cI g n l).map AV.ij:=by rw[fz]
theorem bZ (g:Rows) (n:Nat) (f:Nat) (l:List AV):fz g (n+1) (.fn f l)=if l.all AV.cell then(cI g n l).map (AV.fn f)else none:=by rw[fz]
theorem aL (g:Rows) (n:Nat) (id:Id) (i off:Nat):fz g (n+1) (.ptr id i off)=match g id with
  |some r=>if r.w then(match r.rows[i]? with
   |some cs=>(cI g n (cs.drop off)).map AV.cN
   |none=>none)else none
  |none=>none:=by rw[fz];rfl
theorem gi (g:Rows) (n:Nat) (id:Id) (off len:Nat):fz g (n+1) (.own id off len)=match g id with
  |some r=>if r.w then(if off+len<=r.rows.length then(dQ g n ((r.rows.drop off).take len)).map AV.sl else none)else none
  |none=>none:=by rw[fz];rfl
theorem nL (g:Rows) (n:Nat):dQ g n []=some []:=by rw[dQ]
theorem ye (g:Rows) (n:Nat) (c:List AV) (l:List (List AV)):dQ g n (c::l)=match cI g n c with
  |some b=>(dQ g n l).map (b::·)
  |none=>none:=by rw[dQ];cases cI g n c<;>rfl
theorem ui {g:Rows} {n:Nat}:∀{l:List (List AV)},(∀c∈l,cI g n c=some c)->dQ g n l=some l
 |[],_=>by rw[dQ]
 |c::r,h=>by rw[dQ,h c (by simp),ui fun d hd=>h d (List.mem_cons_of_mem _ hd)];rfl
theorem kd {α:Type} {g:Rows} {n:Nat} {e:α->List AV} {l:List α} (h:∀x,cI g n (e x)=some (e x)):dQ g n (l.map e)=some (l.map e):=ui fun c hc=>by
 obtain⟨x,_,rfl⟩:=List.mem_map.1 hc
 exact h x
theorem nM {α:Type} {g:Rows} {n:Nat} {e:α->List AV} {l:List α} (h:∀x,dR g n (e x)=some (e x)):gJ g n (l.map e)=some (l.map e):=sq fun c hc=>by
 obtain⟨x,_,rfl⟩:=List.mem_map.1 hc
 exact h x
theorem gx {α:Type} {g:Rows} {n:Nat} {e:α->List AV} {l:List α} {id:Id} {sz len:Nat} (hg:g id=some ⟨true,sz,l.map e⟩) (hl:len=l.length) (h:∀x,cI g n (e x)=some (e x)):fz g (n+1) (.own id 0 len)=some (.sl (l.map e)):=by
 subst hl
 rw[gi];simp only[hg,if_true]
 rw[if_pos (by simp),List.drop_zero,List.take_of_length_le (by simp),kd h];rfl
theorem eS {α:Type} {g:Rows} {n:Nat} {e:α->List AV} {l:List α} {id:Id} {sz len:Nat} (hg:g id=some ⟨true,sz,l.map e⟩) (hl:len=l.length) (h:∀x,dR g n (e x)=some (e x)):ga g (n+1) (.own id 0 len)=some (.sl (l.map e)):=by
 subst hl
 exact qi hg (by simp) (by rw[List.drop_zero,List.take_of_length_le (by simp),nM h])
theorem all_map {α:Type} {e:α->List AV} {sz:Nat} {l:List α} (h:∀x,(e x).length=sz/\(e x).all AV.cell=true):(l.map e).all (fun c=>c.length==sz&&c.all AV.cell)=true:=by
 rw[List.all_eq_true]
 intro c hc
 obtain⟨x,_,rfl⟩:=List.mem_map.1 hc
 simp[(h x).1,(h x).2]
def RowM (P:Program) (f:Nat) (args:List AV) (sz:Nat) (rows:List (List AV)):Prop:=(∀c∈rows,∀a∈c,a.plain=true)/\∀n:Nat,Call P f args ⟨fun _=>none,n⟩ fun r σ'=>∃id,r=.own id 0 rows.length/\σ'.get id=some ⟨true,sz,rows⟩
theorem y4 {res:List oP} {r:AV} {vs:List AV} {x:Ex} (hx:x=.ret∨x=.normal) (hv:eX env σ.get res=some vs) (hz:fz σ.get 6 (eL vs)=some r):lk res (fun r0 σ'=>∃r',fz σ'.get 6 r0=some r'/\r'=r) x env σ:=by
 rcases hx with rfl|rfl
 ·exact⟨vs,hv,r,hz,rfl⟩
 ·exact⟨vs,hv,r,hz,rfl⟩
theorem k7 {res:List oP} {r:AV} {vs:List AV} {x:Ex} (hx:x=.ret∨x=.normal) (hv:eX env σ.get res=some vs) (hz:ga σ.get 6 (eL vs)=some r):lk res (fun r0 σ'=>∃r',ga σ'.get 6 r0=some r'/\r'=r) x env σ:=by
 rcases hx with rfl|rfl
 ·exact⟨vs,hv,r,hz,rfl⟩
 ·exact⟨vs,hv,r,hz,rfl⟩
theorem fI {res:List oP} {K:AV->ar->Prop} {vs:List AV} {x:Ex} (hx:x=.ret∨x=.normal) (hv:eX env σ.get res=some vs) (hK:K (eL vs) σ):lk res K x env σ:=by
 rcases hx with rfl|rfl
 ·exact⟨vs,hv,hK⟩
 ·exact⟨vs,hv,hK⟩
theorem eO {f:Nat} {args:List AV} {σ:ar} {K:AV->ar->Prop} {nt na:Nat} {body:VC} {res:List oP} (hf:lx P f=some ⟨nt,na,body,res⟩) (ha:na=args.length) (h:(∀a∈args,eC a)->dL (Call P) body (lk res K) (bJ args) σ):Call P f args σ K:=lz hf ha h
theorem tK {f:Nat} {md:List (Nat×Nat)} {args:List AV} {σ:ar} {K:AV->ar->Prop} {nt na:Nat} {body:VC} {res:List oP} (hf:sP P f md=some ⟨nt,na,body,res⟩) (ha:na=args.length) (h:(∀a∈args,eC a)->dL (Call P) body (lk res K) (bJ args) σ):Call P f args σ K:=tL hf ha h
theorem ef {i:Id} {n:Nat} (h:i.bW<n):(∀s,(i=⟨s,n⟩)=False/\(i=⟨s,n+1⟩)=False/\(i=⟨s,n+1+1⟩)=False/\(i=⟨s,n+1+1+1⟩)=False/\(i=⟨s,n+1+1+1+1⟩)=False/\(i=⟨s,n+1+1+1+1+1⟩)=False/\(i=⟨s,n+1+1+1+1+1+1⟩)=False/\(i=⟨s,n+1+1+1+1+1+1+1⟩)=False/\(i=⟨s,n+1+1+1+1+1+1+1+1⟩)=False/\(i=⟨s,n+1+1+1+1+1+1+1+1+1⟩)=False/\(⟨s,n⟩=i)=False/\(⟨s,n+1⟩=i)=False/\(⟨s,n+1+1⟩=i)=False/\(⟨s,n+1+1+1⟩=i)=False/\(⟨s,n+1+1+1+1⟩=i)=False/\(⟨s,n+1+1+1+1+1⟩=i)=False/\(⟨s,n+1+1+1+1+1+1⟩=i)=False/\(⟨s,n+1+1+1+1+1+1+1⟩=i)=False/\(⟨s,n+1+1+1+1+1+1+1+1⟩=i)=False/\(⟨s,n+1+1+1+1+1+1+1+1+1⟩=i)=False)/\(i.bW=n)=False/\(i.bW=n+1)=False/\(i.bW=n+1+1)=False/\(i.bW=n+1+1+1)=False/\(i.bW=n+1+1+1+1)=False/\(i.bW=n+1+1+1+1+1)=False/\(i.bW=n+1+1+1+1+1+1)=False/\(i.bW=n+1+1+1+1+1+1+1)=False/\(i.bW=n+1+1+1+1+1+1+1+1)=False/\(i.bW=n+1+1+1+1+1+1+1+1+1)=False:=by
 refine⟨fun s=>?_,?_⟩
 ·obtain⟨a,b⟩:=i
  simp only[Id.mk.injEq,eq_iff_iff,iff_false,not_and]
  simp only at h
  refine⟨?_,?_,?_,?_,?_,?_,?_,?_,?_,?_,?_,?_,?_,?_,?_,?_,?_,?_,?_,?_⟩<;>(intros;omega)
 ·simp only[eq_iff_iff,iff_false]
  refine⟨?_,?_,?_,?_,?_,?_,?_,?_,?_,?_⟩<;>omega
def eE (a b:Nat) (ids:List Id):Prop:=ids.Nodup/\∀i∈ids,a<=i.bW/\i.bW<b
def Kept (σ σ':ar):Prop:=σ.next<=σ'.next/\∀j:Id,j.bW<σ.next->σ'.get j=σ.get j
theorem eE.wide {a b a' b':Nat} {ids:List Id} (h:eE a b ids) (h1:a'<=a) (h2:b<=b'):eE a' b' ids:=⟨h.1,fun i hi=>⟨Nat.le_trans h1 (h.2 i hi).1,Nat.lt_of_lt_of_le (h.2 i hi).2 h2⟩⟩
theorem eE.app {a b c d:Nat} {i j:List Id} (h:eE a b i) (k:eE c d j) (hbc:b<=c) (qk:a<=b) (hcd:c<=d):eE a d (i++j):=
 ⟨List.nodup_append.2 ⟨h.1,k.1,fun x hx y hy e=>by subst e;have:=(h.2 x hx).2;have:=(k.2 x hy).1;omega⟩,fun x hx=>by
  rcases List.mem_append.1 hx with hx|hx
  ·have:=h.2 x hx;omega
  ·have:=k.2 x hx;omega⟩
end Go.Proofs.YtgoljkjaameagaaGreat.V

namespace Go.Proofs.YtgoljkjaameagaaGreat.V
open Go.RowKit
attribute [local irreducible] dL wpOps fu Call
attribute [local go_sem] az eQ ec eY eW cJ upd bJ K.av b4 AV.cells AV.cell rowOf rowsOf part ld rowAt bH bG cX dr fR bo cE dD e6 eF cQ dx cC cz db dc br aJ ck bq cq cm dv dy dw cj bx cD dt bp aA cu bQ fQ bd bY bt aH cW aX cY AV.undef bj bl de dn da dj bV dC dE bK dB dz cr cw List.getD_cons_zero List.getD_cons_succ List.getD_nil List.all_cons List.all_nil Bool.and_true Bool.true_and Bool.and_self Bool.not_true Bool.not_false Option.map_some Option.map_none Option.bind_some Option.bind_none List.length_cons List.length_nil List.take_succ_cons List.take_zero List.take_nil List.drop_succ_cons List.drop_zero List.drop_nil List.head?_cons List.map_cons List.map_nil List.getElem?_cons_zero List.getElem?_cons_succ List.cons_append List.nil_append List.append_nil List.length_map List.set_cons_zero List.set_cons_succ Nat.reduceMul eq_self Int.toNat_natCast Int.natCast_nonneg and_self true_and and_true decide_true decide_false Bool.false_eq_true Nat.zero_add Nat.add_zero List.contains_cons List.contains_nil Bool.or_false Bool.false_or beq_self_eq_true Nat.reduceBEq ne_eq not_true_eq_false not_false_eq_true Id.mk.injEq false_and and_false Nat.reduceLT Int.reduceLE Int.reduceLT Int.reduceToNat Int.reduceNeg Int.reduceAdd Nat.le_refl List.length_append beq_true beq_false Bool.not_eq_eq_eq_not or_false false_or dd ae ai ay bh bD aG aM aD aL bZ bm
variable {P:Program}
def IM (f g z:Nat):wE:=let s:=f*1000000
 ⟨27,2,(.seq (.ej false [q 4 (.cR (.k (.int .i64 0))) s]) (.seq (.ej false [q 6 (.cR (.t 1)) (s+1000),q 7 (.cR (.t 0)) (s+1001),q 8 (.len (.t 7)) (s+1002),q 9 (.bin .sub .i64 (.t 6) (.t 8)) (s+1003),q 1 (.cR (.t 9)) (s+1004)]) (.seq (.seq (.ej false [q 10 (.cR (.t 1)) (s+2000),q 11 (.bin .lss .i64 (.t 10) (.k (.int .i64 0))) (s+2001)]) (.cond (.t 11) (.seq (.ej false [q 4 (.cR (.k (.int .i64 (-1)))) (s+3000)]) .ret) .skip)) (.seq (.seq (.ej false [q 5 (.cR (.k (.int .i64 0))) (s+4000)]) (.block 0 (.loop (.seq (.seq (.ej false [q 12 (.cR (.t 5)) (s+5000),q 13 (.cR (.t 0)) (s+5001),q 14 (.len (.t 13)) (s+5002),q 15 (.bin .lss .i64 (.t 12) (.t 14)) (s+5003)]) (.cond (.t 15) .skip (.exit 0))) (.seq (.block 1 (.seq (.ej false [q 18 (.cR (.t 0)) (s+7000),q 19 (.cR (.t 5)) (s+7001),q 20 (.dK z (.t 18) (.t 19)) (s+7002),q 21 (.load true z (.t 20)) (s+7003),q 22 (.cR (.t 1)) (s+7004),q 23 (.call g [(.t 21),(.t 22)]) (s+7005),q 1 (.cR (.t 23)) (s+7006)]) (.seq (.ej false [q 24 (.cR (.t 1)) (s+8000),q 25 (.bin .lss .i64 (.t 24) (.k (.int .i64 0))) (s+8001)]) (.cond (.t 25) (.seq (.ej false [q 4 (.cR (.k (.int .i64 (-1)))) (s+9000)]) .ret) .skip)))) (.ej false [q 16 (.cR (.t 5)) (s+6000),q 17 (.bin .add .i64 (.t 16) (.k (.int .i64 1))) (s+6001),q 5 (.cR (.t 17)) (s+6002)])))))) (.seq (.ej false [q 26 (.cR (.t 1)) (s+10000),q 4 (.cR (.t 26)) (s+10001)]) .ret))))),[(.tmp 4)]⟩
def IK (f:Nat):wE:=let s:=f*1000000
 ⟨12,2,(.seq (.ej false [q 4 (.cR (.k (.int .i64 0))) s]) (.seq (.ej false [q 5 (.cR (.t 1)) (s+1000),q 6 (.cR (.t 0)) (s+1001),q 7 (.len (.t 6)) (s+1002),q 8 (.bin .sub .i64 (.t 5) (.t 7)) (s+1003),q 1 (.cR (.t 8)) (s+1004)]) (.seq (.seq (.ej false [q 9 (.cR (.t 1)) (s+2000),q 10 (.bin .lss .i64 (.t 9) (.k (.int .i64 0))) (s+2001)]) (.cond (.t 10) (.seq (.ej false [q 4 (.cR (.k (.int .i64 (-1)))) (s+3000)]) .ret) .skip)) (.seq (.ej false [q 11 (.cR (.t 1)) (s+4000),q 4 (.cR (.t 11)) (s+4001)]) .ret)))),[(.tmp 4)]⟩
def DW (f g z:Nat):wE:=let s:=f*1000000
 ⟨27,2,(.seq (.ej false [q 4 (.cR (.k (.bool false))) s]) (.seq (.seq (.ej false [q 6 (.cR (.t 0)) (s+1000),q 7 (.len (.t 6)) (s+1001),q 8 (.cR (.t 1)) (s+1002),q 9 (.len (.t 8)) (s+1003),q 10 (.Ln true .tI (.t 7) (.t 9)) (s+1004)]) (.cond (.t 10) (.seq (.ej false [q 4 (.cR (.k (.bool false))) (s+2000)]) .ret) .skip)) (.seq (.seq (.ej false [q 5 (.cR (.k (.int .i64 0))) (s+3000)]) (.block 0 (.loop (.seq (.seq (.ej false [q 11 (.cR (.t 5)) (s+4000),q 12 (.cR (.t 0)) (s+4001),q 13 (.len (.t 12)) (s+4002),q 14 (.bin .lss .i64 (.t 11) (.t 13)) (s+4003)]) (.cond (.t 14) .skip (.exit 0))) (.seq (.block 1 (.seq (.ej true [q 17 (.cR (.t 0)) (s+6000),q 18 (.cR (.t 5)) (s+6001),q 19 (.dK z (.t 17) (.t 18)) (s+6002),q 20 (.load true z (.t 19)) (s+6003),q 21 (.cR (.t 1)) (s+6004),q 22 (.cR (.t 5)) (s+6005),q 23 (.dK z (.t 21) (.t 22)) (s+6006),q 24 (.load true z (.t 23)) (s+6007),q 25 (.call g [(.t 20),(.t 24)]) (s+6008),q 26 (.not (.t 25)) (s+6009)]) (.cond (.t 26) (.seq (.ej false [q 4 (.cR (.k (.bool false))) (s+7000)]) .ret) .skip))) (.ej false [q 15 (.cR (.t 5)) (s+5000),q 16 (.bin .add .i64 (.t 15) (.k (.int .i64 1))) (s+5001),q 5 (.cR (.t 16)) (s+5002)])))))) (.seq (.ej false [q 4 (.cR (.k (.bool true))) (s+8000)]) .ret)))),[(.tmp 4)]⟩
def Lo (f:Nat) (t:TS):wE:=let s:=f*1000000
 ⟨26,2,(.seq (.ej false [q 4 (.cR (.k (.bool false))) s]) (.seq (.seq (.ej false [q 6 (.cR (.t 0)) (s+1000),q 7 (.len (.t 6)) (s+1001),q 8 (.cR (.t 1)) (s+1002),q 9 (.len (.t 8)) (s+1003),q 10 (.Ln true .tI (.t 7) (.t 9)) (s+1004)]) (.cond (.t 10) (.seq (.ej false [q 4 (.cR (.k (.bool false))) (s+2000)]) .ret) .skip)) (.seq (.seq (.ej false [q 5 (.cR (.k (.int .i64 0))) (s+3000)]) (.block 0 (.loop (.seq (.seq (.ej false [q 11 (.cR (.t 5)) (s+4000),q 12 (.cR (.t 0)) (s+4001),q 13 (.len (.t 12)) (s+4002),q 14 (.bin .lss .i64 (.t 11) (.t 13)) (s+4003)]) (.cond (.t 14) .skip (.exit 0))) (.seq (.block 1 (.seq (.ej true [q 17 (.cR (.t 0)) (s+6000),q 18 (.cR (.t 5)) (s+6001),q 19 (.dK 1 (.t 17) (.t 18)) (s+6002),q 20 (.load false 1 (.t 19)) (s+6003),q 21 (.cR (.t 1)) (s+6004),q 22 (.cR (.t 5)) (s+6005),q 23 (.dK 1 (.t 21) (.t 22)) (s+6006),q 24 (.load false 1 (.t 23)) (s+6007),q 25 (.Ln true t (.t 20) (.t 24)) (s+6008)]) (.cond (.t 25) (.seq (.ej false [q 4 (.cR (.k (.bool false))) (s+7000)]) .ret) .skip))) (.ej false [q 15 (.cR (.t 5)) (s+5000),q 16 (.bin .add .i64 (.t 15) (.k (.int .i64 1))) (s+5001),q 5 (.cR (.t 16)) (s+5002)])))))) (.seq (.ej false [q 4 (.cR (.k (.bool true))) (s+8000)]) .ret)))),[(.tmp 4)]⟩
def sM (f g z:Nat) (zero:List K):wE:=let s:=f*1000000
 ⟨23,1,(.seq (.ej false [q 2 (.cR (.k .bP)) s]) (.seq (.ej false [q 5 (.cR (.t 0)) (s+1000),q 6 (.len (.t 5)) (s+1001),q 7 (.jG zero (.t 6) (.t 6)) (s+1002),q 3 (.cR (.t 7)) (s+1003)]) (.seq (.seq (.ej false [q 4 (.cR (.k (.int .i64 0))) (s+2000)]) (.block 0 (.loop (.seq (.seq (.ej false [q 8 (.cR (.t 4)) (s+3000),q 9 (.cR (.t 0)) (s+3001),q 10 (.len (.t 9)) (s+3002),q 11 (.bin .lss .i64 (.t 8) (.t 10)) (s+3003)]) (.cond (.t 11) .skip (.exit 0))) (.seq (.block 1 (.ej false [q 14 (.cR (.t 3)) (s+5000),q 15 (.cR (.t 4)) (s+5001),q 16 (.cR (.t 0)) (s+5002),q 17 (.cR (.t 4)) (s+5003),q 18 (.dK z (.t 16) (.t 17)) (s+5004),q 19 (.load true z (.t 18)) (s+5005),q 20 (.call g [(.t 19)]) (s+5006),q 21 (.dK z (.t 14) (.t 15)) (s+5007),⟨none,(.store z (.t 21) (.t 20)),none,(s+5008),[]⟩])) (.ej false [q 12 (.cR (.t 4)) (s+4000),q 13 (.bin .add .i64 (.t 12) (.k (.int .i64 1))) (s+4001),q 4 (.cR (.t 13)) (s+4002)])))))) (.seq (.ej false [q 22 (.cR (.t 3)) (s+6000),q 2 (.cR (.t 22)) (s+6001)]) .ret)))),[(.tmp 2)]⟩
def IY (f:Nat) (zero:K):wE:=let s:=f*1000000
 ⟨22,1,(.seq (.ej false [q 2 (.cR (.k .bP)) s]) (.seq (.ej false [q 5 (.cR (.t 0)) (s+1000),q 6 (.len (.t 5)) (s+1001),q 7 (.jG [zero] (.t 6) (.t 6)) (s+1002),q 3 (.cR (.t 7)) (s+1003)]) (.seq (.seq (.ej false [q 4 (.cR (.k (.int .i64 0))) (s+2000)]) (.block 0 (.loop (.seq (.seq (.ej false [q 8 (.cR (.t 4)) (s+3000),q 9 (.cR (.t 0)) (s+3001),q 10 (.len (.t 9)) (s+3002),q 11 (.bin .lss .i64 (.t 8) (.t 10)) (s+3003)]) (.cond (.t 11) .skip (.exit 0))) (.seq (.block 1 (.ej false [q 14 (.cR (.t 3)) (s+5000),q 15 (.cR (.t 4)) (s+5001),q 16 (.cR (.t 0)) (s+5002),q 17 (.cR (.t 4)) (s+5003),q 18 (.dK 1 (.t 16) (.t 17)) (s+5004),q 19 (.load false 1 (.t 18)) (s+5005),q 20 (.dK 1 (.t 14) (.t 15)) (s+5006),⟨none,(.store 1 (.t 20) (.t 19)),none,(s+5007),[]⟩])) (.ej false [q 12 (.cR (.t 4)) (s+4000),q 13 (.bin .add .i64 (.t 12) (.k (.int .i64 1))) (s+4001),q 4 (.cR (.t 13)) (s+4002)])))))) (.seq (.ej false [q 21 (.cR (.t 3)) (s+6000),q 2 (.cR (.t 21)) (s+6001)]) .ret)))),[(.tmp 2)]⟩
def wv (n:Nat) (l:Int):Int:=if (n:Int)<=l then l-n else -1
theorem IL {fk:Nat} (hc:lx P fk=some (IK fk)) (rows:List (List AV)) (left:Int) (h0:0<=left) (h1:left<=1048576):ak P fk [.sl rows,.int .i64 left] (.int .i64 (wv rows.length left)):=by
 refine ak.body hc rfl fun hl n0=>?_
 try simp only[q]
 have hn:rows.length<=9223372036854775807:=(hl (.sl rows) (by simp)).len
 clear hl
 have hw:IntKind.i64.wrap (left-(rows.length:Int))=left-rows.length:=bE (by omega)
 by_cases hf:(rows.length:Int)<=left
 ·have ly:¬left-(rows.length:Int)<0:=by omega
  (try((repeat(revert hN;revert N;apply Pn.out));refine wk (tw @hw @ly) ?_;(repeat(refine Pn.mk ?_;intro N hN))))
  exact bL (b:=left-(rows.length:Int)) (.inl rfl) (sd @Nat.zero_add) (by rw[wv,if_pos hf])
 ·have ly:left-(rows.length:Int)<0:=by omega
  (try((repeat(revert hN;revert N;apply Pn.out));refine wk (tw @hw @ly) ?_;(repeat(refine Pn.mk ?_;intro N hN))))
  exact bL (b:=-1) (.inl rfl) (sd @Nat.zero_add) (by rw[wv,if_neg hf])
def il {α:Type} (f:α->Nat) (xs:List α) (k:Nat):Nat:=((xs.take k).map f).sum
theorem lT {α:Type} (f:α->Nat) (xs:List α):il f xs 0=0:=by simp[il]
theorem Bi {α:Type} (f:α->Nat) (xs:List α):il f xs xs.length=(xs.map f).sum:=by simp[il]
theorem vg {α:Type} (f:α->Nat) {xs:List α} {k:Nat} (hk:k<xs.length):il f xs (k+1)=il f xs k+f xs[k]:=by
 unfold il
 rw[List.take_succ_eq_append_getElem hk,List.map_append,List.sum_append];simp
theorem pa {α:Type} (f:α->Nat) (xs:List α) (k:Nat):il f xs k<=(xs.map f).sum:=by
 unfold il
 conv=>rhs;rw[<-List.take_append_drop k xs]
 rw[List.map_append,List.sum_append];omega
theorem IP {α:Type} {e:α->List AV} {z fk gk:Nat} (wt:α->Nat) (hc:lx P fk=some (IM fk gk z)) (hz:∀x,(e x).length=z) (tr:∀x g,cI g 6 [.agg (e x)]=some [.agg (e x)]) (xs:List α) (left:Int) (h0:0<=left) (h1:left<=1048576)
  (hg:∀x∈xs,∀l:Int,0<=l->l<=1048576->ak P gk [.agg (e x),.int .i64 l] (.int .i64 (wv (wt x) l))):ak P fk [.sl (xs.map e),.int .i64 left] (.int .i64 (wv (xs.length+(xs.map wt).sum) left)):=by
 refine ak.body hc rfl fun hl n0=>?_
 try simp only[q]
 have hn:xs.length<=9223372036854775807:=by simpa using(hl (.sl (xs.map e)) (by simp)).len
 clear hl
 have hw:IntKind.i64.wrap (left-(xs.length:Int))=left-xs.length:=bE (by omega)
 by_cases hf:(xs.length:Int)<=left
 ·have ly:¬left-(xs.length:Int)<0:=by omega
  (try((repeat(revert hN;revert N;apply Pn.out));refine wk (tw @hw @ly) ?_;(repeat(refine Pn.mk ?_;intro N hN))))
  refine aY (fun n env st=>∃k:Nat,n=(xs.length)-k/\k<=(xs.length)/\env 5=.int .i64 (k:Int)/\env 1=(.int .i64 (left-xs.length-(il wt xs k:Nat)))/\(0<=left-xs.length-(il wt xs k:Nat))) (xs.length) ⟨0,by omega,by omega,sl (tw @lT (tw @Int.natCast_zero @Int.sub_zero)),sl (tw @lT (tw @Int.natCast_zero @Int.sub_zero)),(by rw[lT];omega)⟩ ?_
  rintro n_a env_a st_a ⟨k,rfl,ale,a5,a1,mJ⟩ dU
  have a0:=dU 0 (by kernel_rfl)
  simp only[go_sem, ↓reduceIte,Nat.reduceEqDiff,Nat.reduceAdd,Nat.reduceSub,Nat.reduceLeDiff,reduceCtorEq,lT,Int.natCast_zero,Int.sub_zero]at a0
  clear dU
  by_cases hk:(k:Int)<(xs.length:Int)
  ·have cK:∀{e:Env},(e 5=.int .i64 (IntKind.i64.wrap ((k:Int)+1)))->(e 1=(.int .i64 (left-xs.length-(il wt xs (k+1):Nat))))->(0<=left-xs.length-(il wt xs (k+1):Nat))->∃m0,m0<(xs.length)-k/\∃k:Nat,m0=(xs.length)-k/\k<=(xs.length)/\e 5=.int .i64 (k:Int)/\e 1=(.int .i64 (left-xs.length-(il wt xs k:Nat)))/\(0<=left-xs.length-(il wt xs k:Nat)):=fun x1 x2 x3=>⟨_,by omega,k+1,rfl,by omega,(by rw[x1,ax (by omega)]),x2,x3⟩
   have eU:k<xs.length:=by omega
   have ea:(xs.map e)[k]? =some (e xs[k]):=by simp[eU]
   have sD:=hz xs[k]
   have ht:(e xs[k]).take z=e xs[k]:=by rw[<-sD,List.take_length]
   have hs:=vg wt eU
   have sC:=pa wt xs (k+1)
   have gQ:=hg _ (List.getElem_mem eU) (left-xs.length-(il wt xs k:Nat)) mJ (by omega)
   have kK:cI (dd st_a.get) 6 [.agg (e xs[k]),.int .i64 (left-xs.length-(il wt xs k:Nat))]=some [.agg (e xs[k]),.int .i64 (left-xs.length-(il wt xs k:Nat))]:=by
    have q1:=tr xs[k] (dd st_a.get)
    rw[ae,ai]at q1
    rw[ae,ae,ai,ay]
    revert q1
    cases V.fz (dd st_a.get) 6 (.agg (e xs[k]))<;>simp
   by_cases Aj:(wt xs[k]:Int)<=left-xs.length-(il wt xs k:Nat)
   ·rw[wv,if_pos Aj]at gQ
    have Tl:¬left-xs.length-(il wt xs k:Nat)-(wt xs[k]:Int)<0:=by omega
    have vG:left-xs.length-(il wt xs k:Nat)-(wt xs[k]:Int)=left-xs.length-(il wt xs (k+1):Nat):=by rw[hs];omega
    generalize hex:e xs[k]=c at gQ kK ea sD ht
    (try((repeat(revert hN;revert N;apply Pn.out));refine wk (tw @a5 (tw @a1 (tw @a0 (tw @hk (tw @ea (tw @sD (tw @ht @Nat.le_refl))))))) ?_;(repeat(refine Pn.mk ?_;intro N hN))))
    refine .inl ⟨_,ak.x gQ kK,?_⟩
    refine hN _ _ ?_
    clear hN N
    (try((repeat(revert hN;revert N;apply Pn.out));refine wk (tw @a5 (tw @a1 (tw @a0 @Tl))) ?_;(repeat(refine Pn.mk ?_;intro N hN))))
    refine cK ?_ ?_ ((by rw[hs];omega))
    all_goals simp only[go_sem, ↓reduceIte,Nat.reduceEqDiff,Nat.reduceAdd,Nat.reduceSub,Nat.reduceLeDiff,reduceCtorEq,a5,a1,a0,vG]
   ·rw[wv,if_neg Aj]at gQ
    generalize hex:e xs[k]=c at gQ kK ea sD ht
    (try((repeat(revert hN;revert N;apply Pn.out));refine wk (tw @a5 (tw @a1 (tw @a0 (tw @hk (tw @ea (tw @sD (tw @ht @Nat.le_refl))))))) ?_;(repeat(refine Pn.mk ?_;intro N hN))))
    refine .inl ⟨_,ak.x gQ kK,?_⟩
    refine hN _ _ ?_
    clear hN N
    (try((repeat(revert hN;revert N;apply Pn.out));refine wk (tw @a5 (tw @a1 @a0)) ?_;(repeat(refine Pn.mk ?_;intro N hN))))
    exact bL (b:=-1) (.inl rfl) (sd @Nat.zero_add) (by rw[wv,if_neg (by omega)])
  ·(try((repeat(revert hN;revert N;apply Pn.out));refine wk (tw @a5 (tw @a1 (tw @a0 @hk))) ?_;(repeat(refine Pn.mk ?_;intro N hN))))
   have eU:k=xs.length:=by omega
   subst eU
   have OK:=Bi wt xs
   exact bL (b:=left-xs.length-(il wt xs xs.length:Nat)) (.inl rfl) (sd (tw @a5 (tw @a1 @a0))) (by rw[wv,if_pos (by omega)];omega)
 ·have ly:left-(xs.length:Int)<0:=by omega
  (try((repeat(revert hN;revert N;apply Pn.out));refine wk (tw @hw @ly) ?_;(repeat(refine Pn.mk ?_;intro N hN))))
  exact bL (b:=-1) (.inl rfl) (sd @Nat.zero_add) (by rw[wv,if_neg (by omega)])
theorem Hk {α:Type} {xs ys:List α} (hl:xs.length=ys.length) (h:∀j:Nat,j<xs.length->∀(h1:j<xs.length) (h2:j<ys.length),xs[j]=ys[j]):xs=ys:=List.ext_getElem hl fun j h1 h2=>h j h1 h1 h2
theorem Ce {α:Type} [DecidableEq α] {e:α->List AV} {z fk gk:Nat} (hc:lx P fk=some (DW fk gk z)) (hz:∀x,(e x).length=z) (tr:∀x g,cI g 6 [.agg (e x)]=some [.agg (e x)]) (xs ys:List α)
  (hg:∀x y,ak P gk [.agg (e x),.agg (e y)] (.bool (decide (x=y)))):ak P fk [.sl (xs.map e),.sl (ys.map e)] (.bool (decide (xs=ys))):=by
 refine ak.body hc rfl fun hl n0=>?_
 try simp only[q]
 have hn:xs.length<=9223372036854775807:=by simpa using(hl (.sl (xs.map e)) (by simp)).len
 clear hl
 by_cases hlen:xs.length=ys.length
 ·have kg:decide ((xs.length:Int)=(ys.length:Int))=true:=by simp[hlen]
  (try((repeat(revert hN;revert N;apply Pn.out));refine wk @kg ?_;(repeat(refine Pn.mk ?_;intro N hN))))
  refine aY (fun n env st=>∃k:Nat,n=(xs.length)-k/\k<=(xs.length)/\env 5=.int .i64 (k:Int)/\(∀j:Nat,j<k->∀(h1:j<xs.length) (h2:j<ys.length),xs[j]=ys[j])) (xs.length) ⟨0,by omega,by omega,sl @Nat.zero_add,fun _ h=>absurd h (Nat.not_lt_zero _)⟩ ?_
  rintro n_a env_a st_a ⟨k,rfl,ale,a5,lv⟩ dU
  have a0:=dU 0 (by kernel_rfl);have a1:=dU 1 (by kernel_rfl)
  simp only[go_sem, ↓reduceIte,Nat.reduceEqDiff,Nat.reduceAdd,Nat.reduceSub,Nat.reduceLeDiff,reduceCtorEq]at a0 a1
  clear dU
  by_cases hk:(k:Int)<(xs.length:Int)
  ·have cK:∀{e:Env},(e 5=.int .i64 (IntKind.i64.wrap ((k:Int)+1)))->(∀(h1:k<xs.length) (h2:k<ys.length),xs[k]=ys[k])->∃m0,m0<(xs.length)-k/\∃k:Nat,m0=(xs.length)-k/\k<=(xs.length)/\e 5=.int .i64 (k:Int)/\(∀j:Nat,j<k->∀(h1:j<xs.length) (h2:j<ys.length),xs[j]=ys[j]):=fun x1 x2=>⟨_,by omega,k+1,rfl,by omega,(by rw[x1,ax (by omega)]),(all_succ lv x2)⟩
   have eU:k<xs.length:=by omega
   have Nh:k<ys.length:=by omega
   have ea:(xs.map e)[k]? =some (e xs[k]):=by simp[eU]
   have CB:(ys.map e)[k]? =some (e ys[k]):=by simp[Nh]
   have sD:=hz xs[k]
   have CJ:=hz ys[k]
   have ht:(e xs[k]).take z=e xs[k]:=by rw[<-sD,List.take_length]
   have GC:(e ys[k]).take z=e ys[k]:=by rw[<-CJ,List.take_length]
   have gQ:=hg xs[k] ys[k]
   have kK:∀g,cI g 6 [.agg (e xs[k]),.agg (e ys[k])]=some [.agg (e xs[k]),.agg (e ys[k])]:=fun g=>by
    have q1:=tr xs[k] g
    have q2:=tr ys[k] g
    rw[ae,ai]at q1
    rw[ae,q2]
    revert q1
    cases V.fz g 6 (.agg (e xs[k]))<;>simp
   by_cases heq:xs[k]=ys[k]
   ·rw[decide_eq_true heq]at gQ
    generalize hex:e xs[k]=c at gQ kK ea sD ht
    generalize hey:e ys[k]=d at gQ kK CB CJ GC
    (try((repeat(revert hN;revert N;apply Pn.out));refine wk (tw @a5 (tw @a0 (tw @a1 (tw @hk (tw @ea (tw @CB (tw @sD (tw @CJ (tw @ht (tw @GC @Nat.le_refl)))))))))) ?_;(repeat(refine Pn.mk ?_;intro N hN))))
    refine⟨_,ak.x gQ (kK _),?_⟩
    refine hN _ _ ?_
    clear hN N
    (try((repeat(revert hN;revert N;apply Pn.out));refine wk (tw @a5 (tw @a0 @a1)) ?_;(repeat(refine Pn.mk ?_;intro N hN))))
    exact cK (sd (tw @a5 (tw @a0 @a1))) (fun _ _=>heq)
   ·rw[decide_eq_false heq]at gQ
    generalize hex:e xs[k]=c at gQ kK ea sD ht
    generalize hey:e ys[k]=d at gQ kK CB CJ GC
    (try((repeat(revert hN;revert N;apply Pn.out));refine wk (tw @a5 (tw @a0 (tw @a1 (tw @hk (tw @ea (tw @CB (tw @sD (tw @CJ (tw @ht (tw @GC @Nat.le_refl)))))))))) ?_;(repeat(refine Pn.mk ?_;intro N hN))))
    refine⟨_,ak.x gQ (kK _),?_⟩
    refine hN _ _ ?_
    clear hN N
    (try((repeat(revert hN;revert N;apply Pn.out));refine wk (tw @a5 (tw @a0 @a1)) ?_;(repeat(refine Pn.mk ?_;intro N hN))))
    exact aQ (b:=false) (.inl rfl) (sd @Nat.zero_add) (decide_eq_false fun h=>heq (List.getElem_of_eq h _)).symm
  ·(try((repeat(revert hN;revert N;apply Pn.out));refine wk (tw @a5 (tw @a0 (tw @a1 @hk))) ?_;(repeat(refine Pn.mk ?_;intro N hN))))
   exact aQ (b:=true) (.inl rfl) (sd @Nat.zero_add) (decide_eq_true (Hk hlen fun j hj h1 h2=>lv j (by omega) h1 h2)).symm
 ·have kg:decide ((xs.length:Int)=(ys.length:Int))=false:=decide_eq_false fun h=>hlen (by omega)
  (try((repeat(revert hN;revert N;apply Pn.out));refine wk @kg ?_;(repeat(refine Pn.mk ?_;intro N hN))))
  exact aQ (b:=false) (.inl rfl) (sd @Nat.zero_add) (decide_eq_false fun h=>hlen (by subst h;rfl)).symm
theorem Po {fk:Nat} (hc:lx P fk=some (Lo fk .tI)) (xs ys:List Int):
  ak P fk [.sl (xs.map fun x=>[AV.int .i64 x]),.sl (ys.map fun x=>[AV.int .i64 x])] (.bool (decide (xs=ys))):=by
 refine ak.body hc rfl fun hl n0=>?_
 try simp only[q]
 have hn:xs.length<=9223372036854775807:=by simpa using(hl (.sl (xs.map fun x=>[AV.int .i64 x])) (by simp)).len
 clear hl
 by_cases hlen:xs.length=ys.length
 ·have kg:decide ((xs.length:Int)=(ys.length:Int))=true:=by simp[hlen]
  (try((repeat(revert hN;revert N;apply Pn.out));refine wk @kg ?_;(repeat(refine Pn.mk ?_;intro N hN))))
  refine aY (fun n env st=>∃k:Nat,n=(xs.length)-k/\k<=(xs.length)/\env 5=.int .i64 (k:Int)/\(∀j:Nat,j<k->∀(h1:j<xs.length) (h2:j<ys.length),xs[j]=ys[j])) (xs.length) ⟨0,by omega,by omega,sl @Nat.zero_add,fun _ h=>absurd h (Nat.not_lt_zero _)⟩ ?_
  rintro n_a env_a st_a ⟨k,rfl,ale,a5,lv⟩ dU
  have a0:=dU 0 (by kernel_rfl);have a1:=dU 1 (by kernel_rfl)
  simp only[go_sem, ↓reduceIte,Nat.reduceEqDiff,Nat.reduceAdd,Nat.reduceSub,Nat.reduceLeDiff,reduceCtorEq]at a0 a1
  clear dU
  by_cases hk:(k:Int)<(xs.length:Int)
  ·have cK:∀{e:Env},(e 5=.int .i64 (IntKind.i64.wrap ((k:Int)+1)))->(∀(h1:k<xs.length) (h2:k<ys.length),xs[k]=ys[k])->∃m0,m0<(xs.length)-k/\∃k:Nat,m0=(xs.length)-k/\k<=(xs.length)/\e 5=.int .i64 (k:Int)/\(∀j:Nat,j<k->∀(h1:j<xs.length) (h2:j<ys.length),xs[j]=ys[j]):=fun x1 x2=>⟨_,by omega,k+1,rfl,by omega,(by rw[x1,ax (by omega)]),(all_succ lv x2)⟩
   have eU:k<xs.length:=by omega
   have Nh:k<ys.length:=by omega
   have ea:(xs.map fun x=>[AV.int .i64 x])[k]? =some [.int .i64 xs[k]]:=by simp[eU]
   have CB:(ys.map fun x=>[AV.int .i64 x])[k]? =some [.int .i64 ys[k]]:=by simp[Nh]
   by_cases heq:xs[k]=ys[k]
   ·have hq:=decide_eq_true heq
    (try((repeat(revert hN;revert N;apply Pn.out));refine wk (tw @a5 (tw @a0 (tw @a1 (tw @hk (tw @ea (tw @CB @hq)))))) ?_;(repeat(refine Pn.mk ?_;intro N hN))))
    exact cK (sd (tw @a5 (tw @a0 @a1))) (fun _ _=>heq)
   ·have hq:=decide_eq_false heq
    (try((repeat(revert hN;revert N;apply Pn.out));refine wk (tw @a5 (tw @a0 (tw @a1 (tw @hk (tw @ea (tw @CB @hq)))))) ?_;(repeat(refine Pn.mk ?_;intro N hN))))
    exact aQ (b:=false) (.inl rfl) (sd @Nat.zero_add) (decide_eq_false fun h=>heq (List.getElem_of_eq h _)).symm
  ·(try((repeat(revert hN;revert N;apply Pn.out));refine wk (tw @a5 (tw @a0 (tw @a1 @hk))) ?_;(repeat(refine Pn.mk ?_;intro N hN))))
   exact aQ (b:=true) (.inl rfl) (sd @Nat.zero_add) (decide_eq_true (Hk hlen fun j hj h1 h2=>lv j (by omega) h1 h2)).symm
 ·have kg:decide ((xs.length:Int)=(ys.length:Int))=false:=decide_eq_false fun h=>hlen (by omega)
  (try((repeat(revert hN;revert N;apply Pn.out));refine wk @kg ?_;(repeat(refine Pn.mk ?_;intro N hN))))
  exact aQ (b:=false) (.inl rfl) (sd @Nat.zero_add) (decide_eq_false fun h=>hlen (by subst h;rfl)).symm
theorem tT (l:List AV):l++[]=l:=List.append_nil l
def gw {α:Type} (e:α->List AV) (zc:List AV) (xs:List α) (k:Nat):List (List AV):=(xs.take k).map e++List.replicate (xs.length-k) zc
theorem nE {α:Type} (e:α->List AV) (zc:List AV) (xs:List α):List.replicate xs.length zc=gw e zc xs 0:=by simp[gw]
theorem po {α:Type} (e:α->List AV) (zc:List AV) (xs:List α):gw e zc xs xs.length=xs.map e:=by simp[gw]
theorem pq {α:Type} (e:α->List AV) (zc:List AV) (xs:List α) {k:Nat} (hk:k<xs.length):(gw e zc xs k)[k]? =some zc:=by
 have h1:((xs.take k).map e).length=k:=by simp;omega
 rw[gw,List.getElem?_append_right (by omega),h1,Nat.sub_self,List.getElem?_replicate,if_pos (by omega)]
theorem pr {α:Type} (e:α->List AV) (zc:List AV) (xs:List α) {k:Nat} (hk:k<xs.length):(gw e zc xs k).set k (e xs[k])=gw e zc xs (k+1):=by
 have h1:((xs.take k).map e).length=k:=by simp;omega
 rw[gw,List.set_append_right _ _ (by omega),h1,Nat.sub_self,gw,List.take_succ_eq_append_getElem hk,List.map_append,List.append_assoc]
 congr 1
 obtain⟨m,hm⟩:∃m,xs.length-k=m+1:=⟨xs.length-k-1,by omega⟩
 rw[hm,show xs.length-(k+1)=m by omega,List.replicate_succ]
 rfl
theorem Dw {α:Type} {en:α->List AV} {z fk gk:Nat} {zero:List K} (hc:lx P fk=some (sM fk gk z zero)) (GF:zero.length=z) (hz:∀x,(en x).length=z) (j0:∀x,(en x).all AV.cell=true) (tr:∀x g,cI g 5 (en x)=some (en x)) (xs:List α) (hlen:xs.length<=1048576)
  (hg:∀x∈xs,kb P gk [.agg (en x)] (.agg (en x))):kb P fk [.sl (xs.map en)] (.sl (xs.map en)):=by
 refine kb.body hc rfl fun hl σ=>?_
 try simp only[q]
 clear hl
 have hm:(xs.length:Int)<=((16777216:Nat):Int):=by omega
 have h0:(0:Int)<=(xs.length:Int):=by omega
 (try((repeat(revert hN;revert N;apply Pn.out));refine wk (tw @hm (tw @h0 (tw @Int.le_refl (tw (nE en (zero.map K.av) xs) @GF)))) ?_;(repeat(refine Pn.mk ?_;intro N hN))))
 refine aY (fun n env st=>∃k:Nat,n=(xs.length)-k/\k<=(xs.length)/\env 4=.int .i64 (k:Int)/\st.get ⟨fk*1000000+1002,σ.next+1⟩=some ⟨true,z,gw en (zero.map K.av) xs k⟩) (xs.length) ⟨0,by omega,by omega,sl @Nat.zero_add,sl @Nat.zero_add⟩ ?_
 rintro n_a env_a st_a ⟨k,rfl,ale,a4,ag0⟩ dU
 have a0:=dU 0 (by kernel_rfl);have a3:=dU 3 (by kernel_rfl)
 simp only[go_sem, ↓reduceIte,Nat.reduceEqDiff,Nat.reduceAdd,Nat.reduceSub,Nat.reduceLeDiff,reduceCtorEq]at a0 a3
 clear dU
 by_cases hk:(k:Int)<(xs.length:Int)
 ·have cK:∀{e:Env} {gg:Rows},(e 4=.int .i64 (IntKind.i64.wrap ((k:Int)+1)))->(gg ⟨fk*1000000+1002,σ.next+1⟩=some ⟨true,z,gw en (zero.map K.av) xs (k+1)⟩)->∃m0,m0<(xs.length)-k/\∃k:Nat,m0=(xs.length)-k/\k<=(xs.length)/\e 4=.int .i64 (k:Int)/\gg ⟨fk*1000000+1002,σ.next+1⟩=some ⟨true,z,gw en (zero.map K.av) xs k⟩:=fun x1 x2=>⟨_,by omega,k+1,rfl,by omega,(by rw[x1,ax (by omega)]),x2⟩
  have eU:k<xs.length:=by omega
  have ea:(xs.map en)[k]? =some (en xs[k]):=by simp[eU]
  have sD:=hz xs[k]
  have Jg:=j0 xs[k]
  have ht:(en xs[k]).take z=en xs[k]:=by rw[<-sD,List.take_length]
  have gQ:=hg _ (List.getElem_mem eU)
  have fV:=pq en (zero.map K.av) xs eU
  have eo:=pr en (zero.map K.av) xs eU
  have Hy:(zero.map K.av).drop z=[]:=List.drop_of_length_le (by simp[GF])
  generalize hex:en xs[k]=c at gQ ea sD ht Jg eo
  (repeat(first|((repeat(revert hN;revert N;apply Pn.out));refine wk (tw @a4 (tw @ag0 (tw @a0 (tw @a3 (tw @hk (tw @ea (tw @sD (tw @ht (tw @Nat.le_refl (tw @fV (tw @eo (tw @Hy (tw @tT (tw @Jg @GF)))))))))))))) ?_;(repeat(refine Pn.mk ?_;intro N hN)))|((try apply Or.inl);refine⟨_,kb.x (gQ) _,?_⟩;refine hN _ _ ?_;clear hN N)))
  refine cK ?_ ?_
  all_goals simp only[go_sem, ↓reduceIte,Nat.reduceEqDiff,Nat.reduceAdd,Nat.reduceSub,Nat.reduceLeDiff,reduceCtorEq,a4,ag0,a0,a3]
 ·(try((repeat(revert hN;revert N;apply Pn.out));refine wk (tw @a4 (tw @ag0 (tw @a0 (tw @a3 @hk)))) ?_;(repeat(refine Pn.mk ?_;intro N hN))))
  have eU:k=xs.length:=by omega
  subst eU
  refine QP (.inl rfl) (r0:=.own ⟨fk*1000000+1002,σ.next+1⟩ 0 xs.length) (sd (tw @a4 (tw @ag0 (tw @a0 @a3)))) ?_
  rw[po]at ag0
  exact gx ag0 (by simp) fun x=>tr x _
theorem QR {fk:Nat} (hc:lx P fk=some (IY fk (.int .i64 0))) (xs:List Int) (hlen:xs.length<=1048576):kb P fk [.sl (xs.map fun x=>[AV.int .i64 x])] (.sl (xs.map fun x=>[AV.int .i64 x])):=by
 refine kb.body hc rfl fun hl σ=>?_
 try simp only[q]
 clear hl
 obtain⟨en,Jh⟩:∃en:Int->List AV,en=fun x=>[AV.int .i64 x]:=⟨_,rfl⟩
 rw[<-Jh]
 have hm:(xs.length:Int)<=((16777216:Nat):Int):=by omega
 have h0:(0:Int)<=(xs.length:Int):=by omega
 (try((repeat(revert hN;revert N;apply Pn.out));refine wk (tw @hm (tw @h0 (tw @Int.le_refl (nE en [AV.int .i64 0] xs)))) ?_;(repeat(refine Pn.mk ?_;intro N hN))))
 refine aY (fun n env st=>∃k:Nat,n=(xs.length)-k/\k<=(xs.length)/\env 4=.int .i64 (k:Int)/\st.get ⟨fk*1000000+1002,σ.next+1⟩=some ⟨true,1,gw en [AV.int .i64 0] xs k⟩) (xs.length) ⟨0,by omega,by omega,sl @Nat.zero_add,sl @Nat.zero_add⟩ ?_
 rintro n_a env_a st_a ⟨k,rfl,ale,a4,ag0⟩ dU
 have a0:=dU 0 (by kernel_rfl);have a3:=dU 3 (by kernel_rfl)
 simp only[go_sem, ↓reduceIte,Nat.reduceEqDiff,Nat.reduceAdd,Nat.reduceSub,Nat.reduceLeDiff,reduceCtorEq]at a0 a3
 clear dU
 by_cases hk:(k:Int)<(xs.length:Int)
 ·have cK:∀{e:Env} {gg:Rows},(e 4=.int .i64 (IntKind.i64.wrap ((k:Int)+1)))->(gg ⟨fk*1000000+1002,σ.next+1⟩=some ⟨true,1,gw en [AV.int .i64 0] xs (k+1)⟩)->∃m0,m0<(xs.length)-k/\∃k:Nat,m0=(xs.length)-k/\k<=(xs.length)/\e 4=.int .i64 (k:Int)/\gg ⟨fk*1000000+1002,σ.next+1⟩=some ⟨true,1,gw en [AV.int .i64 0] xs k⟩:=fun x1 x2=>⟨_,by omega,k+1,rfl,by omega,(by rw[x1,ax (by omega)]),x2⟩
  have eU:k<xs.length:=by omega
  have ea:(xs.map en)[k]? =some [AV.int .i64 xs[k]]:=by simp[eU,Jh]
  have fV:=pq en [AV.int .i64 0] xs eU
  have eo:=pr en [AV.int .i64 0] xs eU
  rw[show en xs[k]=[AV.int .i64 xs[k]] by rw[Jh]]at eo
  (try((repeat(revert hN;revert N;apply Pn.out));refine wk (tw @a4 (tw @ag0 (tw @a0 (tw @a3 (tw @hk (tw @ea (tw @fV @eo))))))) ?_;(repeat(refine Pn.mk ?_;intro N hN))))
  refine cK ?_ ?_
  all_goals simp only[go_sem, ↓reduceIte,Nat.reduceEqDiff,Nat.reduceAdd,Nat.reduceSub,Nat.reduceLeDiff,reduceCtorEq,a4,ag0,a0,a3]
 ·(try((repeat(revert hN;revert N;apply Pn.out));refine wk (tw @a4 (tw @ag0 (tw @a0 (tw @a3 @hk)))) ?_;(repeat(refine Pn.mk ?_;intro N hN))))
  have eU:k=xs.length:=by omega
  subst eU
  refine QP (.inl rfl) (r0:=.own ⟨fk*1000000+1002,σ.next+1⟩ 0 xs.length) (sd (tw @a4 (tw @ag0 (tw @a0 @a3)))) ?_
  rw[po]at ag0
  exact gx ag0 (by simp) fun x=>by simp[Jh,ae,ai,ay]
end Go.Proofs.YtgoljkjaameagaaGreat.V

namespace Go.Proofs.YtgoljkjaameagaaGreat
open Go.RowKit
def Sl (w:World) (fp:List Nat) (v:Value) (n:Nat) (xs:List Value):Prop:=
 ∃A c,v=.slice A n c/\n<=c/\c<=maxLen/\
  ((fp=[]/\n=0)∨∃b o,fp=[b]/\A=some ⟨b,o,none⟩/\∀j u,xs[j]? =some u->w.cell? ⟨b,o+j,none⟩=some u)
def fB (fp:List Nat) (lo hi:Nat):Prop:=∀b∈fp,lo<=b/\b<hi
theorem fB.nil (lo hi:Nat):fB [] lo hi:=fun _ h=>by cases h
theorem Sl.nil (w:World):Sl w [] (.slice none 0 0) 0 []:=⟨none,0,rfl,Nat.le_refl _,by simp[maxLen],.inl ⟨rfl,rfl⟩⟩
def Md {α:Type} (rep:World->List Nat->List Value->α->Prop) (sz:Nat) (w:World) (nF:List (List Value)) (DX:List (List Nat)) (ds:List α):Prop:=
 nF.length=ds.length/\DX.length=ds.length/\∀(i:Nat) (cs:List Value) (f:List Nat) (d:α),nF[i]? =some cs->DX[i]? =some f->ds[i]? =some d->rep w f cs d/\cs.length=sz
def l5 {α:Type} (rep:World->List Nat->List Value->α->Prop) (sz:Nat) (w:World) (fp:List Nat) (v:Value) (ds:List α):Prop:=
 ∃nF DX Sp,fp=Sp++DX.flatten/\Sl w Sp v ds.length nF.flatten/\Md rep sz w nF DX ds
theorem pN {α:Type} {DX:List (List α)} {i:Nat} {f:List α} (h:DX[i]? =some f):∀b∈f,b∈DX.flatten:=fun b hb=>
 List.mem_flatten.2 ⟨f,List.mem_of_getElem? h,hb⟩
theorem so {α:Type} {nF:List (List α)} {sz:Nat} (h:∀cs∈nF,cs.length=sz) {i j:Nat} {cs:List α} (hi:nF[i]? =some cs) (hj:j<sz):nF.flatten[i*sz+j]? =cs[j]? :=by
 induction nF generalizing i with
 |nil=>simp at hi
 |cons c r ih=>
  have hc:c.length=sz:=h c (by simp)
  cases i with
  |zero=>
   simp at hi;subst hi
   rw[List.flatten_cons,List.getElem?_append_left (by omega)];simp
  |succ i=>
   rw[List.flatten_cons,List.getElem?_append_right (by rw[hc,Nat.succ_mul];omega)]
   have:(i+1)*sz+j-c.length=i*sz+j:=by rw[hc,Nat.succ_mul];omega
   rw[this]
   exact ih (fun cs di=>h cs (List.mem_cons_of_mem _ di)) (by simpa using hi)
theorem Md.lens {α:Type} {rep:World->List Nat->List Value->α->Prop} {sz:Nat} {w:World} {nF:List (List Value)} {DX:List (List Nat)} {ds:List α}
  (h:Md rep sz w nF DX ds):∀cs∈nF,cs.length=sz:=fun cs di=>by
 obtain⟨i,hi,rfl⟩:=List.getElem_of_mem di
 have h1:i<DX.length:=by rw[h.2.1,<-h.1];exact hi
 have h2:i<ds.length:=by rw[<-h.1];exact hi
 exact(h.2.2 i _ _ _ (List.getElem?_eq_getElem hi) (List.getElem?_eq_getElem h1) (List.getElem?_eq_getElem h2)).2
theorem l5.at_ {α:Type} {rep:World->List Nat->List Value->α->Prop} {sz:Nat} {w:World} {fp:List Nat} {A:Option Addr} {n c:Nat} {ds:List α}
  (h:l5 rep sz w fp (.slice A n c) ds) (k:Nat) (hk:k<ds.length):
  ∃b o cs f,A=some ⟨b,o,none⟩/\b∈fp/\(∀x∈f,x∈fp)/\rep w f cs ds[k]/\cs.length=sz/\∀j u,cs[j]? =some u->w.cell? ⟨b,o+(k*sz+j),none⟩=some u:=by
 obtain⟨nF,DX,Sp,rfl,⟨A',c',hv,_,_,hc⟩,hr⟩:=h
 simp only[Value.slice.injEq]at hv
 obtain⟨rfl,hn,rfl⟩:=hv
 rcases hc with⟨_,h0⟩|⟨b,o,rfl,rfl,hc⟩
 ·omega
 have h1:k<nF.length:=by rw[hr.1];exact hk
 have h2:k<DX.length:=by rw[hr.2.1];exact hk
 obtain⟨gH,hl⟩:=hr.2.2 k _ _ _ (List.getElem?_eq_getElem h1) (List.getElem?_eq_getElem h2) (List.getElem?_eq_getElem hk)
 refine⟨b,o,nF[k],DX[k],rfl,by simp,fun x hx=>List.mem_append_right _ (pN (List.getElem?_eq_getElem h2) x hx),gH,hl,fun j u hj=>?_⟩
 have gC:j<sz:=by rw[<-hl];exact(List.getElem?_eq_some_iff.1 hj).1
 exact hc _ u (by rw[so hr.lens (List.getElem?_eq_getElem h1) gC];exact hj)
theorem l5.len {α:Type} {rep:World->List Nat->List Value->α->Prop} {sz:Nat} {w:World} {fp:List Nat} {v:Value} {ds:List α}
  (h:l5 rep sz w fp v ds):∃A c,v=.slice A ds.length c/\ds.length<=c/\c<=maxLen:=by
 obtain⟨_,_,_,_,⟨A,c,hv,h1,h2,_⟩,_⟩:=h
 exact⟨A,c,hv,h1,h2⟩
theorem l5.nil {α:Type} (rep:World->List Nat->List Value->α->Prop) (sz:Nat) (w:World):l5 rep sz w [] (.slice none 0 0) ([]:List α):=
 ⟨[],[],[],rfl,Sl.nil w,rfl,rfl,fun i cs f d hc=>by simp at hc⟩
def Flat {α:Type} (enc:α->List Value):World->List Nat->List Value->α->Prop:=fun _ f cs d=>f=[]/\cs=enc d
def Q (w w':World):Prop:=∃q,w'=w.drewN q
theorem Pc {B:Nat} {a w:World} (h:Below B a w) (n:Nat):Below B a (w.drewN n):=⟨h.os,h.tape,h.output,h.size,h.block⟩
theorem ig {a b:Bool} (h:a=b):Ending.returned (.bool a)=.returned (.bool b):=by rw[h]
theorem Eu {k:IntKind} {a b:Int} (h:a=b):Ending.returned (.int k a)=.returned (.int k b):=by rw[h]
def Unf (w:World) (b:Nat):Prop:=∃cs e,w.heap[b]? =some (.cells cs e (0,0))
def putCells (w:World) (g:Nat):Nat->List Value->World
 |_,[]=>w
 |i,v::r=>putCells (w.setCell ⟨g,i,none⟩ v) g (i+1) r
structure Only (fp:List Nat) (w w':World):Prop where
 os:w'.os=w.os
 tape:w'.tape=w.tape
 output:w'.output=w.output
 size:w.heap.size<=w'.heap.size
 block:∀x,x<w.heap.size->x∉fp->w'.heap[x]? =w.heap[x]?
 unf:∀x,Unf w x->Unf w' x
structure aP where
 fE:Int
 e8:Int
deriving DecidableEq
structure ad where
 aW:aP
 aZ:Int
deriving DecidableEq
structure dY where
 ah:List ad
deriving DecidableEq
structure fj where
 aC:ByteArray
 eh:Int
deriving DecidableEq
structure eI where
 aC:ByteArray
 bB:List Int
deriving DecidableEq
structure aq where
 au:List fj
 ah:List eI
deriving DecidableEq
structure aU where
 aV:aq
 bf:dY
 aB:Int
deriving DecidableEq
def E7 (d:Int):List Value:=[.int .i64 d]
def DJ:=Flat E7
def eJ (d:ad):List Value:=[.int .i64 d.aW.fE,.int .i64 d.aW.e8,.int .i64 d.aZ]
def zB:=Flat eJ
def iL:=l5 zB 3
def Hg (d:fj):List Value:=[.string d.aC,.int .i64 d.eh]
def GN:=Flat Hg
def pY:=l5 GN 2
def tQ:=l5 DJ 1
def GO (w:World) (f:List Nat) (cs:List Value) (d:eI):Prop:=
 ∃v1 f1,f=f1/\cs=[.string d.aC,v1]/\tQ w f1 v1 d.bB
def pZ:=l5 GO 2
end Go.Proofs.YtgoljkjaameagaaGreat

namespace Go.Proofs.YtgoljkjaameagaaGreat.V
open Go.RowKit
variable {P:Program} {w:World} {D:Nat->Prop}
def GI (P:Program) (w:World) (D:Nat->Prop) (al:List AV) (cs:List Value):Prop:=∀(j:Nat) (a:AV),al[j]? =some a->∃u:Value,cs[j]? =some u/\jK P w D a u
theorem qJ {α:Type} {rep:World->List Nat->List Value->α->Prop} {e:α->List AV} {sz:Nat} {f:List Nat} {v:Value} {xs:List α} (h:l5 rep sz w f v xs) (hD:∀b∈f,D b)
  (hl:∀x∈xs,(e x).length=sz) (hc:∀x∈xs,∀a∈e x,a.cell=true) (hr:∀x∈xs,∀f' cs,rep w f' cs x->(∀b∈f',D b)->GI P w D (e x) cs):jK P w D (.sl (xs.map e)) v:=by
 obtain⟨A,c,rfl,h1,h2⟩:=l5.len h
 by_cases h0:xs=[]
 ·subst h0;exact .BI _ _ h2
 have jZ:0<xs.length:=List.length_pos_iff.2 h0
 obtain⟨b,o,OE,f0,rfl,hb,Rx,Tw,J0,jr⟩:=l5.at_ h 0 jZ
 have key:∀(i:Nat) (hi:i<xs.length),∃cs f',(∀x∈f',x∈f)/\rep w f' cs xs[i]/\cs.length=sz/\∀j u,cs[j]? =some u->w.cell? ⟨b,o+(i*sz+j),none⟩=some u:=by
  intro i hi
  obtain⟨b',o',cs,f',Rs,_,ly,np,di,kf⟩:=l5.at_ h i hi
  simp only[Option.some.injEq,Addr.mk.injEq,and_true]at Rs
  obtain⟨rfl,rfl⟩:=Rs
  exact⟨cs,f',ly,np,di,kf⟩
 refine .sl _ b o _ c sz (fun i j=>(w.cell? ⟨b,o+(i*sz+j),none⟩).getD Go.undef) (by simp) h1 h2 (hD b hb) ?_ ?_ ?_ ?_
 ·intro cs di
  obtain⟨x,hx,rfl⟩:=List.mem_map.1 di
  exact hl x hx
 ·intro cs di
  obtain⟨x,hx,rfl⟩:=List.mem_map.1 di
  exact hc x hx
 ·intro i j hi hj
  obtain⟨cs,f',_,_,di,kf⟩:=key i hi
  rw[kf j cs[j] (List.getElem?_eq_getElem (by omega))]
  rfl
 ·intro i j cs a di ha
  have hi:i<xs.length:=by
   have:=(List.getElem?_eq_some_iff.1 di).1
   simpa using this
  obtain⟨o5,f',ly,np,hcs',kf⟩:=key i hi
  simp[hi]at di
  subst di
  obtain⟨u,hu,yq⟩:=hr _ (List.getElem_mem hi) f' o5 np (fun b hb=>hD b (ly b hb)) j a ha
  rw[kf j u hu]
  exact yq
end Go.Proofs.YtgoljkjaameagaaGreat.V

namespace Go.Proofs.YtgoljkjaameagaaGreat.V
open Go.RowKit
variable {P:Program} {w:World} {D:Nat->Prop}
def aT (d:Int):List AV:=[.int .i64 d]
def aj (d:aP):List AV:=[.int .i64 d.fE,.int .i64 d.e8]
def aa (d:ad):List AV:=[.int .i64 d.aW.fE,.int .i64 d.aW.e8,.int .i64 d.aZ]
def aO (d:dY):List AV:=[.sl (d.ah.map aa)]
def bU (d:fj):List AV:=[.str d.aC,.int .i64 d.eh]
def bI (d:eI):List AV:=[.str d.aC,.sl (d.bB.map aT)]
def ab (d:aq):List AV:=[.sl (d.au.map bU),.sl (d.ah.map bI)]
def ao (d:aU):List AV:=[.sl (d.aV.au.map bU),.sl (d.aV.ah.map bI),.sl (d.bf.ah.map aa),.int .i64 d.aB]
theorem sf {f:List Nat} {v:Value} {xs:List ad} (h:iL w f v xs) (hD:∀b∈f,D b):jK P w D (.sl (xs.map aa)) v:=
 qJ h hD (fun _ _=>rfl) (fun x _ a ha=>by simp[aa]at ha;rcases ha with rfl|rfl|rfl<;>rfl) fun x _ f' cs hr hf=>by
  obtain⟨_,rfl⟩:=hr
  intro j a ha
  match j,ha with
  |0,ha=>simp[aa]at ha;subst ha;exact⟨_,rfl,.int _ _⟩
  |1,ha=>simp[aa]at ha;subst ha;exact⟨_,rfl,.int _ _⟩
  |2,ha=>simp[aa]at ha;subst ha;exact⟨_,rfl,.int _ _⟩
  |j+3,ha=>simp[aa]at ha
theorem xL {d:dY} {f0:List Nat} {v0:Value} (h0:iL w f0 v0 d.ah) (d0:∀b∈f0,D b):jK P w D (.agg (aO d)) (.agg #[v0]):=by
 refine .agg _ _ (fun j=>(#[v0]:Array Value).getD j Go.undef) rfl (fun a ha=>by simp[aO]at ha;rcases ha with rfl<;>rfl) (fun j hj=>?_) (fun j a ha=>?_)
 ·match j,hj with
  |0,_=>rfl
  |j+1,hj=>simp[aO]at hj<;>omega
 ·match j,ha with
  |0,ha=>simp[aO]at ha;subst ha;exact sf h0 d0
  |j+1,ha=>simp[aO]at ha
theorem EJ {f:List Nat} {v:Value} {xs:List fj} (h:pY w f v xs) (hD:∀b∈f,D b):jK P w D (.sl (xs.map bU)) v:=
 qJ h hD (fun _ _=>rfl) (fun x _ a ha=>by simp[bU]at ha;rcases ha with rfl|rfl<;>rfl) fun x _ f' cs hr hf=>by
  obtain⟨_,rfl⟩:=hr
  intro j a ha
  match j,ha with
  |0,ha=>simp[bU]at ha;subst ha;exact⟨_,rfl,.str _⟩
  |1,ha=>simp[bU]at ha;subst ha;exact⟨_,rfl,.int _ _⟩
  |j+2,ha=>simp[bU]at ha
theorem BP {f:List Nat} {v:Value} {xs:List Int} (h:tQ w f v xs) (hD:∀b∈f,D b):jK P w D (.sl (xs.map aT)) v:=
 qJ h hD (fun _ _=>rfl) (fun x _ a ha=>by simp[aT]at ha;rcases ha with rfl<;>rfl) fun x _ f' cs hr hf=>by
  obtain⟨_,rfl⟩:=hr
  intro j a ha
  match j,ha with
  |0,ha=>simp[aT]at ha;subst ha;exact⟨_,rfl,.int _ _⟩
  |j+1,ha=>simp[aT]at ha
theorem EL {f:List Nat} {v:Value} {xs:List eI} (h:pZ w f v xs) (hD:∀b∈f,D b):jK P w D (.sl (xs.map bI)) v:=
 qJ h hD (fun _ _=>rfl) (fun x _ a ha=>by simp[bI]at ha;rcases ha with rfl|rfl<;>rfl) fun x _ f' cs hr hf=>by
  obtain⟨v1,f1,rfl,rfl,h1⟩:=hr
  intro j a ha
  match j,ha with
  |0,ha=>simp[bI]at ha;subst ha;exact⟨_,rfl,.str _⟩
  |1,ha=>simp[bI]at ha;subst ha;exact⟨_,rfl,BP h1 hf⟩
  |j+2,ha=>simp[bI]at ha
theorem BU {d:aU} {f0:List Nat} {v0:Value} (h0:pY w f0 v0 d.aV.au) (d0:∀b∈f0,D b) {f1:List Nat} {v1:Value} (h1:pZ w f1 v1 d.aV.ah) (d1:∀b∈f1,D b) {f2:List Nat} {v2:Value} (h2:iL w f2 v2 d.bf.ah) (d2:∀b∈f2,D b):jK P w D (.agg (ao d)) (.agg #[v0,v1,v2,.int .i64 d.aB]):=by
 refine .agg _ _ (fun j=>(#[v0,v1,v2,.int .i64 d.aB]:Array Value).getD j Go.undef) rfl (fun a ha=>by simp[ao]at ha;rcases ha with rfl|rfl|rfl|rfl<;>rfl) (fun j hj=>?_) (fun j a ha=>?_)
 ·match j,hj with
  |0,_=>rfl
  |1,_=>rfl
  |2,_=>rfl
  |3,_=>rfl
  |j+4,hj=>simp[ao]at hj<;>omega
 ·match j,ha with
  |0,ha=>simp[ao]at ha;subst ha;exact EJ h0 d0
  |1,ha=>simp[ao]at ha;subst ha;exact EL h1 d1
  |2,ha=>simp[ao]at ha;subst ha;exact sf h2 d2
  |3,ha=>simp[ao]at ha;subst ha;exact .int _ _
  |j+4,ha=>simp[ao]at ha
end Go.Proofs.YtgoljkjaameagaaGreat.V

namespace Go.Proofs.YtgoljkjaameagaaGreat.V
open Go.RowKit
attribute [local irreducible] dL wpOps fu Call
attribute [local go_sem] az eQ ec eY eW cJ upd bJ K.av b4 AV.cells AV.cell rowOf rowsOf part ld rowAt bH bG cX dr fR bo cE dD e6 eF cQ dx cC cz db dc br aJ ck bq cq cm dv dy dw cj bx cD dt bp aA cu bQ fQ bd bY bt aH cW aX cY AV.undef bj bl de dn da dj bV dC dE bK dB dz cr cw List.getD_cons_zero List.getD_cons_succ List.getD_nil List.all_cons List.all_nil Bool.and_true Bool.true_and Bool.and_self Bool.not_true Bool.not_false Option.map_some Option.map_none Option.bind_some Option.bind_none List.length_cons List.length_nil List.take_succ_cons List.take_zero List.take_nil List.drop_succ_cons List.drop_zero List.drop_nil List.head?_cons List.map_cons List.map_nil List.getElem?_cons_zero List.getElem?_cons_succ List.cons_append List.nil_append List.append_nil List.length_map List.set_cons_zero List.set_cons_succ Nat.reduceMul eq_self Int.toNat_natCast Int.natCast_nonneg and_self true_and and_true decide_true decide_false Bool.false_eq_true Nat.zero_add Nat.add_zero List.contains_cons List.contains_nil Bool.or_false Bool.false_or beq_self_eq_true Nat.reduceBEq ne_eq not_true_eq_false not_false_eq_true Id.mk.injEq false_and and_false Nat.reduceLT Int.reduceLE Int.reduceLT Int.reduceToNat Int.reduceNeg Int.reduceAdd Nat.le_refl List.length_append beq_true beq_false Bool.not_eq_eq_eq_not or_false false_or dd ae ai ay bh bD aG aM aD aL bZ bm
variable {P:Program}
theorem I5 {X:fy} {Q:Ex->Env->ar->Prop} {N:Env->ar->Prop} {c:VC} {env:Env} {σ:ar} (I:Env->ar->Prop) (h2:∀e s,I e s->N e s) (h1:∀N':Env->ar->Prop,(∀e s,I e s->N' e s)->dL X c (cW N' Q) env σ):dL X c (cW N Q) env σ:=h1 N h2
def pH (f z:Nat) (a:Bool):wE:=let s:=f*1000000
 ⟨19,2,(.seq (.ej false [q 4 (.cR (.k (.int .i64 0))) s]) (.seq (.seq (.ej false [q 6 (.cR (.t 0)) (s+1000),q 7 (.len (.t 6)) (s+1001),q 8 (.cR (.k (.int .i64 0))) (s+1002)]) (.block 0 (.loop (.seq (.ej false [q 9 (.bin .lss .i64 (.t 8) (.t 7)) (s+2000)]) (.seq (.cond (.t 9) .skip (.exit 0)) (.seq (.block 1 (.seq (.ej false [q 10 (.cR (.t 8)) (s+3000),q 5 (.cR (.t 10)) (s+3001)]) (.seq (.ej false [q 11 (.cR (.t 1)) (s+4000),q 12 (.cR (.t 0)) (s+4001),q 13 (.cR (.t 5)) (s+4002),q 14 (.dK z (.t 12) (.t 13)) (s+4003),q 15 (.load a z (.t 14)) (s+4004),q 16 (.sj (.t 11) [(.t 15)]) (s+4005)]) (.cond (.t 16) (.seq (.ej false [q 17 (.cR (.t 5)) (s+5000),q 4 (.cR (.t 17)) (s+5001)]) .ret) .skip)))) (.ej false [q 18 (.bin .add .i64 (.t 8) (.k (.int .i64 1))) (s+6000),q 8 (.cR (.t 18)) (s+6001)]))))))) (.seq (.ej false [q 4 (.cR (.k (.int .i64 (-1)))) (s+7000)]) .ret))),[(.tmp 4)]⟩
def ym (f g:Nat):wE:=let s:=f*1000000
 ⟨9,2,(.seq (.ej false [q 4 (.cR (.k (.bool false))) s]) (.seq (.ej false [q 5 (.cR (.t 0)) (s+1000),q 6 (.cR (.t 1)) (s+1001),q 7 (.call g [(.t 5),(.t 6)]) (s+1002),q 8 (.bin .geq .i64 (.t 7) (.k (.int .i64 0))) (s+1003),q 4 (.cR (.t 8)) (s+1004)]) .ret)),[(.tmp 4)]⟩
def gV {α:Type} (p:α->Bool) (xs:List α):Int:=if xs.findIdx p<xs.length then(xs.findIdx p:Int)else -1
theorem Hl {α:Type} (p:α->Bool) (xs:List α):decide (0<=gV p xs)=xs.any p:=by
 unfold gV
 by_cases h:xs.findIdx p<xs.length
 ·rw[if_pos h]
  have:xs.any p=true:=List.any_eq_true.2 (List.findIdx_lt_length.1 h)
  rw[this];simp
 ·rw[if_neg h]
  have:xs.any p=false:=by
   rw[Bool.eq_false_iff]
   intro hc
   exact h (List.findIdx_lt_length.2 (List.any_eq_true.1 hc))
  rw[this];rfl
theorem ta (a:AV) (l m:List AV):a::l++m=a::(l++m):=rfl
theorem xQ (l:List AV):[]++l=l:=rfl
structure O6 {α:Type} (e:α->List AV) (v:α->AV) (z:Nat) (a:Bool):Prop where
 len:∀x,(e x).length=z
 val:∀x,if a=true then v x=.agg (e x)else e x=[v x]
 fz:∀x g,cI g 6 [v x]=some [v x]
theorem nS {α:Type} {e:α->List AV} {v:α->AV} {z fk:Nat} {a:Bool} (hE:O6 e v z a) (hc:lx P fk=some (pH fk z a)) (xs:List α) (hlen:xs.length<=1048576) (f:Nat) (cU:List AV) (p:α->Bool)
  (hf:∀x∈xs,ak P f (v x::cU) (.bool (p x))) (HA:∀g,cI g 6 cU=some cU):
  ak P fk [.sl (xs.map e),.fn f cU] (.int .i64 (gV p xs)):=by
 refine ak.body hc rfl fun hl n0=>?_
 try simp only[q]
 clear hl
 (try((repeat(revert hN;revert N;apply Pn.out));refine wk @Nat.zero_add ?_;(repeat(refine Pn.mk ?_;intro N hN))))
 refine aY (fun n env st=>∃k:Nat,n=(xs.length)-k/\k<=(xs.length)/\env 8=.int .i64 (k:Int)/\(∀j:Nat,j<k->∀h:j<xs.length,p xs[j]=false)) (xs.length) ⟨0,by omega,by omega,sl @Nat.zero_add,fun _ h=>absurd h (Nat.not_lt_zero _)⟩ ?_
 rintro n_a env_a st_a ⟨k,rfl,ale,a8,lv⟩ dU
 have a0:=dU 0 (by kernel_rfl);have a1:=dU 1 (by kernel_rfl);have a7:=dU 7 (by kernel_rfl)
 simp only[go_sem, ↓reduceIte,Nat.reduceEqDiff,Nat.reduceAdd,Nat.reduceSub,Nat.reduceLeDiff,reduceCtorEq]at a0 a1 a7
 clear dU
 by_cases hk:(k:Int)<(xs.length:Int)
 ·have cK:∀{e:Env},(e 8=.int .i64 (IntKind.i64.wrap ((k:Int)+1)))->(∀h:k<xs.length,p xs[k]=false)->∃m0,m0<(xs.length)-k/\∃k:Nat,m0=(xs.length)-k/\k<=(xs.length)/\e 8=.int .i64 (k:Int)/\(∀j:Nat,j<k->∀h:j<xs.length,p xs[j]=false):=fun x1 x2=>⟨_,by omega,k+1,rfl,by omega,(by rw[x1,ax (by omega)]),(all_succ lv x2)⟩
  have eU:k<xs.length:=by omega
  have hg:(xs.map e)[k]? =some (e xs[k]):=by simp[eU]
  have Ee:=hf _ (List.getElem_mem eU)
  have hz:=hE.len xs[k]
  have hv:=hE.val xs[k]
  have kK:cI (dd st_a.get) 6 (v xs[k]::cU)=some (v xs[k]::cU):=by
   have h1:=hE.fz xs[k] (dd st_a.get)
   rw[ae,ai]at h1
   rw[ae,HA]
   revert h1
   cases V.fz (dd st_a.get) 6 (v xs[k])<;>simp
  have fin:∀hN:True,(p xs[k]=true->xs.findIdx p=k):=fun _ hp=>by
   rw[List.findIdx_eq eU];exact⟨hp,fun j hj=>lv j hj (by omega)⟩
  cases hp:p xs[k]
  ·have RM:=hp
   cases a
   ·rw[if_neg (by simp)]at hv
    have xf:z=1:=by rw[<-hz,hv];rfl
    subst xf
    rw[hv]at hg hz
    rw[hp]at Ee
    generalize v xs[k]=c at Ee kK hg hz
    (try((repeat(revert hN;revert N;apply Pn.out));refine wk (tw @a8 (tw @a0 (tw @a1 (tw @a7 (tw @hk (tw @hg (tw @hz (tw @ta @xQ)))))))) ?_;(repeat(refine Pn.mk ?_;intro N hN))))
    refine .inl ⟨_,ak.x Ee kK,?_⟩
    refine hN _ _ ?_
    clear hN N
    (try((repeat(revert hN;revert N;apply Pn.out));refine wk (tw @a8 (tw @a0 (tw @a1 @a7))) ?_;(repeat(refine Pn.mk ?_;intro N hN))))
    exact cK (sd (tw @a8 (tw @a0 (tw @a1 @a7)))) (fun _=>RM)
   ·rw[if_pos rfl]at hv
    have ht:(e xs[k]).take z=e xs[k]:=by rw[<-hz,List.take_length]
    rw[hv]at Ee kK
    rw[hp]at Ee
    generalize e xs[k]=c at Ee kK hg hz ht
    (try((repeat(revert hN;revert N;apply Pn.out));refine wk (tw @a8 (tw @a0 (tw @a1 (tw @a7 (tw @hk (tw @hg (tw @hz (tw @ht (tw @ta (tw @xQ @Nat.le_refl)))))))))) ?_;(repeat(refine Pn.mk ?_;intro N hN))))
    refine .inl ⟨_,ak.x Ee kK,?_⟩
    refine hN _ _ ?_
    clear hN N
    (try((repeat(revert hN;revert N;apply Pn.out));refine wk (tw @a8 (tw @a0 (tw @a1 @a7))) ?_;(repeat(refine Pn.mk ?_;intro N hN))))
    exact cK (sd (tw @a8 (tw @a0 (tw @a1 @a7)))) (fun _=>RM)
  ·have hi:=fin trivial hp
   cases a
   ·rw[if_neg (by simp)]at hv
    have xf:z=1:=by rw[<-hz,hv];rfl
    subst xf
    rw[hv]at hg hz
    rw[hp]at Ee
    generalize v xs[k]=c at Ee kK hg hz
    (try((repeat(revert hN;revert N;apply Pn.out));refine wk (tw @a8 (tw @a0 (tw @a1 (tw @a7 (tw @hk (tw @hg (tw @hz (tw @ta @xQ)))))))) ?_;(repeat(refine Pn.mk ?_;intro N hN))))
    refine .inl ⟨_,ak.x Ee kK,?_⟩
    refine hN _ _ ?_
    clear hN N
    (try((repeat(revert hN;revert N;apply Pn.out));refine wk (tw @a8 (tw @a0 (tw @a1 @a7))) ?_;(repeat(refine Pn.mk ?_;intro N hN))))
    exact bL (b:=(k:Int)) (.inl rfl) (sd @Nat.zero_add) (by rw[gV,hi,if_pos eU])
   ·rw[if_pos rfl]at hv
    have ht:(e xs[k]).take z=e xs[k]:=by rw[<-hz,List.take_length]
    rw[hv]at Ee kK
    rw[hp]at Ee
    generalize e xs[k]=c at Ee kK hg hz ht
    (try((repeat(revert hN;revert N;apply Pn.out));refine wk (tw @a8 (tw @a0 (tw @a1 (tw @a7 (tw @hk (tw @hg (tw @hz (tw @ht (tw @ta (tw @xQ @Nat.le_refl)))))))))) ?_;(repeat(refine Pn.mk ?_;intro N hN))))
    refine .inl ⟨_,ak.x Ee kK,?_⟩
    refine hN _ _ ?_
    clear hN N
    (try((repeat(revert hN;revert N;apply Pn.out));refine wk (tw @a8 (tw @a0 (tw @a1 @a7))) ?_;(repeat(refine Pn.mk ?_;intro N hN))))
    exact bL (b:=(k:Int)) (.inl rfl) (sd @Nat.zero_add) (by rw[gV,hi,if_pos eU])
 ·(try((repeat(revert hN;revert N;apply Pn.out));refine wk (tw @a8 (tw @a0 (tw @a1 (tw @a7 @hk)))) ?_;(repeat(refine Pn.mk ?_;intro N hN))))
  have hi:¬xs.findIdx p<xs.length:=by
   rw[List.findIdx_lt_length]
   rintro⟨x,hx,Fu⟩
   obtain⟨j,hj,rfl⟩:=List.getElem_of_mem hx
   rw[lv j (by omega) hj]at Fu;cases Fu
  exact bL (b:=-1) (.inl rfl) (sd @Nat.zero_add) (by rw[gV,if_neg hi])
theorem kc {α:Type} {e:α->List AV} {v:α->AV} {z fk gk:Nat} {a:Bool} (hE:O6 e v z a) (hc:lx P fk=some (ym fk gk)) (Fi:lx P gk=some (pH gk z a)) (xs:List α) (hlen:xs.length<=1048576) (f:Nat) (cU:List AV) (p:α->Bool) (Hu:cU.all AV.cell=true) (tr:∀g,cI g 5 cU=some cU)
  (hf:∀x∈xs,ak P f (v x::cU) (.bool (p x))) (HA:∀g,cI g 6 cU=some cU):
  ak P fk [.sl (xs.map e),.fn f cU] (.bool (xs.any p)):=by
 refine ak.body hc rfl fun hl n0=>?_
 try simp only[q]
 clear hl
 have hi:=nS hE Fi xs hlen f cU p hf HA
 (repeat(first|((repeat(revert hN;revert N;apply Pn.out));refine wk (tw @Hu @tr) ?_;(repeat(refine Pn.mk ?_;intro N hN)))|((try apply Or.inl);refine⟨_,ak.x (hi) (sd (tw @Hu @tr)),?_⟩;refine hN _ _ ?_;clear hN N)))
 exact aQ (b:=decide (0<=gV p xs)) (.inl rfl) (sd @Nat.zero_add) (Hl p xs)
end Go.Proofs.YtgoljkjaameagaaGreat.V

namespace Go.Proofs.YtgoljkjaameagaaGreat.V
open Go.RowKit
def qw (P:Program) (mk:Bool):List Oper->Nat->List Nat
 |[],_=>[]
 |o::r,i=>match pS P o.op with
  |some v=>if pM v||mk&&v.lh then i::qw P mk r (i+1)else qw P mk r (i+1)
  |none=>qw P mk r (i+1)
def xT (P:Program) (ops:Array Oper) (site0:Nat) (mk:Bool) (bs:Array Nat) (hidden:List Nat):List Oper->Nat->Option (List bz)
 |[],_=>some []
 |o::r,j=>do
  let v <-pS P o.op
  let g <-B6 ops o
  pure ({dst:=o.dst,op:=v,guard:=g,site:=site0+j,hid:=(hidden.filter fun i=> !(bs.getD j 0).testBit i&&(i !=j||mk&&v.lh)).map fun i=>site0+i}::(<-xT P ops site0 mk bs hidden r (j+1)))
def pg (P:Program) (md:List (Nat×Nat)) (vU:Nat):Code->Option VC
 | .skip=>some .skip
 | .region id ops draw=>if draw then(xT P ops ((vU*1000+id)*1000) (uJ md id==1) (jj ops) (qw P (uJ md id==1) ops.toList 0) ops.toList 0).map (VC.ej true)else(xT P ops ((vU*1000+id)*1000) false #[] [] ops.toList 0).map (if ops.toList.any fun o=>LS o.op then VC.Mu else VC.ej false)
 | .seq a b=>do pure (.seq (<-pg P md vU a) (<-pg P md vU b))
 | .cond c x y=>do pure (.cond (<-cO P c) (<-pg P md vU x) (<-pg P md vU y))
 | .block id c=>(pg P md vU c).map (VC.block id)
 | .loop c=>(pg P md vU c).map VC.loop
 | .exit id=>some (.exit id)
 | .ret=>some .ret
 |_=>none
def Pd (P:Program) (md:List (Nat×Nat)) (f:Nat):Option wE:=
 match P.funcs[f]? with
 |some fn=>match fn.body with
  |some c=>do
   let b <-pg P md f c
   let r <-fn.results.toList.mapM (ER P)
   pure {ntmps:=fn.ntmps,xr:=fn.params.size+fn.nfree,body:=b,res:=r}
  |none=>none
 |none=>none
theorem cfM {P:Program} (md:List (Nat×Nat)) {f:Nat} {v:wE} (_:Pd P md f=some v:=by(conv=>lhs;cbv)<;>exact rfl) (h:sP P f md=some v:=by kernel_rfl):sP P f md=some v:=h
theorem eb {P:Program} {f:Nat} {v:wE} (_:Pd P [] f=some v:=by(conv=>lhs;cbv)<;>exact rfl) (h:lx P f=some v:=by kernel_rfl):lx P f=some v:=h
def N7:wE:=⟨77,2,(.seq (.ej false [q 4 (.cR (.k .gI)) 251000000]) (.seq (.ej false [q 7 (.cR (.t 0)) 251001000,q 8 (.cR (.t 1)) 251001001,q 9 (.build [(.int .i64 0),.bP,.bP,.bP] [(0,(1,(.t 7))),(1,(1,(.t 8)))]) 251001002,q 10 (.box (.t 9)) 251001003,q 5 (.cR (.t 10)) 251001004]) (.seq (.ej false [q 11 (.cR (.t 5)) 251002000,q 12 (.cR (.t 0)) 251002001,q 13 (.jG [.bP] (.t 12) (.t 12)) 251002002,q 14 (.xW (.t 11)) 251002003,q 15 (.fc 2 (.t 14)) 251002004,⟨none,(.store 1 (.t 15) (.t 13)),none,251002005,[]⟩]) (.seq (.ej false [q 16 (.cR (.t 5)) 251003000,q 17 (.cR (.t 1)) 251003001,q 18 (.len (.t 17)) 251003002,q 19 (.jG [(.int .i64 0)] (.t 18) (.t 18)) 251003003,q 20 (.xW (.t 16)) 251003004,q 21 (.fc 3 (.t 20)) 251003005,⟨none,(.store 1 (.t 21) (.t 19)),none,251003006,[]⟩]) (.seq (.seq (.ej false [q 6 (.cR (.k (.int .i64 0))) 251004000]) (.block 0 (.loop (.seq (.seq (.ej false [q 22 (.cR (.t 6)) 251005000,q 23 (.cR (.t 1)) 251005001,q 24 (.len (.t 23)) 251005002,q 25 (.bin .lss .i64 (.t 22) (.t 24)) 251005003]) (.cond (.t 25) .skip (.exit 0))) (.seq (.block 1 (.seq (.one ⟨(some 28),(.cR (.t 5)),none,251007000,[251007021,251007022,251007024]⟩ (.one ⟨(some 29),(.xW (.t 28)),none,251007001,[251007021,251007022,251007024]⟩ (.one ⟨(some 30),(.fc 2 (.t 29)),none,251007002,[251007021,251007022,251007024]⟩ (.one ⟨(some 32),(.cR (.t 1)),none,251007004,[251007021,251007022,251007024]⟩ (.one ⟨(some 33),(.cR (.t 6)),none,251007005,[251007021,251007022,251007024]⟩ (.one ⟨(some 37),(.cR (.t 5)),none,251007009,[251007021,251007022,251007024]⟩ (.one ⟨(some 38),(.xW (.t 37)),none,251007010,[251007021,251007022,251007024]⟩ (.one ⟨(some 39),(.fc 2 (.t 38)),none,251007011,[251007021,251007022,251007024]⟩ (.one ⟨(some 40),(.load false 1 (.t 39)),none,251007012,[251007021,251007022,251007024]⟩ (.one ⟨(some 41),(.cR (.t 1)),none,251007013,[251007021,251007022,251007024]⟩ (.one ⟨(some 42),(.cR (.t 6)),none,251007014,[251007021,251007022,251007024]⟩ (.one ⟨(some 43),(.dK 3 (.t 41) (.t 42)),none,251007015,[251007021,251007022,251007024]⟩ (.one ⟨(some 44),(.fc 0 (.t 43)),none,251007016,[251007021,251007022,251007024]⟩ (.one ⟨(some 45),(.load false 1 (.t 44)),none,251007017,[251007021,251007022,251007024]⟩ (.one ⟨(some 46),(.dK 1 (.t 40) (.t 45)),none,251007018,[251007021,251007022,251007024]⟩ (.one ⟨(some 47),(.load false 1 (.t 46)),none,251007019,[251007021,251007022,251007024]⟩ (.one ⟨(some 48),(.cR (.t 6)),none,251007020,[251007021,251007022,251007024]⟩ (.one ⟨(some 49),(.jV 1 1 [(.t 48)]),none,251007021,[251007022,251007024]⟩ (.both (.one ⟨(some 31),(.load false 1 (.t 30)),none,251007003,[251007021,251007022,251007024]⟩ (.both (.one ⟨(some 34),(.dK 3 (.t 32) (.t 33)),none,251007006,[251007021,251007022,251007024]⟩ (.one ⟨(some 35),(.fc 0 (.t 34)),none,251007007,[251007021,251007022,251007024]⟩ (.both (.one ⟨(some 36),(.load false 1 (.t 35)),none,251007008,[251007021,251007022,251007024]⟩ (.one ⟨(some 50),(.append 1 (.t 47) (.t 49)),none,251007022,[251007024]⟩ (.one ⟨(some 51),(.dK 1 (.t 31) (.t 36)),none,251007023,[251007024]⟩ (.one ⟨none,(.store 1 (.t 51) (.t 50)),none,251007024,[]⟩ (.ej false []))))) (.one ⟨(some 50),(.append 1 (.t 47) (.t 49)),none,251007022,[251007024]⟩ (.one ⟨(some 36),(.load false 1 (.t 35)),none,251007008,[251007021,251007022,251007024]⟩ (.one ⟨(some 51),(.dK 1 (.t 31) (.t 36)),none,251007023,[251007024]⟩ (.one ⟨none,(.store 1 (.t 51) (.t 50)),none,251007024,[]⟩ (.ej false [])))))))) (.one ⟨(some 50),(.append 1 (.t 47) (.t 49)),none,251007022,[251007024]⟩ (.one ⟨(some 34),(.dK 3 (.t 32) (.t 33)),none,251007006,[251007021,251007022,251007024]⟩ (.one ⟨(some 35),(.fc 0 (.t 34)),none,251007007,[251007021,251007022,251007024]⟩ (.one ⟨(some 36),(.load false 1 (.t 35)),none,251007008,[251007021,251007022,251007024]⟩ (.one ⟨(some 51),(.dK 1 (.t 31) (.t 36)),none,251007023,[251007024]⟩ (.one ⟨none,(.store 1 (.t 51) (.t 50)),none,251007024,[]⟩ (.ej false []))))))))) (.both (.one ⟨(some 34),(.dK 3 (.t 32) (.t 33)),none,251007006,[251007021,251007022,251007024]⟩ (.one ⟨(some 35),(.fc 0 (.t 34)),none,251007007,[251007021,251007022,251007024]⟩ (.both (.one ⟨(some 31),(.load false 1 (.t 30)),none,251007003,[251007021,251007022,251007024]⟩ (.both (.one ⟨(some 36),(.load false 1 (.t 35)),none,251007008,[251007021,251007022,251007024]⟩ (.one ⟨(some 50),(.append 1 (.t 47) (.t 49)),none,251007022,[251007024]⟩ (.one ⟨(some 51),(.dK 1 (.t 31) (.t 36)),none,251007023,[251007024]⟩ (.one ⟨none,(.store 1 (.t 51) (.t 50)),none,251007024,[]⟩ (.ej false []))))) (.one ⟨(some 50),(.append 1 (.t 47) (.t 49)),none,251007022,[251007024]⟩ (.one ⟨(some 36),(.load false 1 (.t 35)),none,251007008,[251007021,251007022,251007024]⟩ (.one ⟨(some 51),(.dK 1 (.t 31) (.t 36)),none,251007023,[251007024]⟩ (.one ⟨none,(.store 1 (.t 51) (.t 50)),none,251007024,[]⟩ (.ej false []))))))) (.both (.one ⟨(some 36),(.load false 1 (.t 35)),none,251007008,[251007021,251007022,251007024]⟩ (.both (.one ⟨(some 31),(.load false 1 (.t 30)),none,251007003,[251007021,251007022,251007024]⟩ (.one ⟨(some 50),(.append 1 (.t 47) (.t 49)),none,251007022,[251007024]⟩ (.one ⟨(some 51),(.dK 1 (.t 31) (.t 36)),none,251007023,[251007024]⟩ (.one ⟨none,(.store 1 (.t 51) (.t 50)),none,251007024,[]⟩ (.ej false []))))) (.one ⟨(some 50),(.append 1 (.t 47) (.t 49)),none,251007022,[251007024]⟩ (.one ⟨(some 31),(.load false 1 (.t 30)),none,251007003,[251007021,251007022,251007024]⟩ (.one ⟨(some 51),(.dK 1 (.t 31) (.t 36)),none,251007023,[251007024]⟩ (.one ⟨none,(.store 1 (.t 51) (.t 50)),none,251007024,[]⟩ (.ej false []))))))) (.one ⟨(some 50),(.append 1 (.t 47) (.t 49)),none,251007022,[251007024]⟩ (.one ⟨(some 31),(.load false 1 (.t 30)),none,251007003,[251007021,251007022,251007024]⟩ (.one ⟨(some 36),(.load false 1 (.t 35)),none,251007008,[251007021,251007022,251007024]⟩ (.one ⟨(some 51),(.dK 1 (.t 31) (.t 36)),none,251007023,[251007024]⟩ (.one ⟨none,(.store 1 (.t 51) (.t 50)),none,251007024,[]⟩ (.ej false [])))))))))) (.one ⟨(some 50),(.append 1 (.t 47) (.t 49)),none,251007022,[251007024]⟩ (.one ⟨(some 31),(.load false 1 (.t 30)),none,251007003,[251007021,251007022,251007024]⟩ (.one ⟨(some 34),(.dK 3 (.t 32) (.t 33)),none,251007006,[251007021,251007022,251007024]⟩ (.one ⟨(some 35),(.fc 0 (.t 34)),none,251007007,[251007021,251007022,251007024]⟩ (.one ⟨(some 36),(.load false 1 (.t 35)),none,251007008,[251007021,251007022,251007024]⟩ (.one ⟨(some 51),(.dK 1 (.t 31) (.t 36)),none,251007023,[251007024]⟩ (.one ⟨none,(.store 1 (.t 51) (.t 50)),none,251007024,[]⟩ (.ej false [])))))))))))))))))))))))))))) (.one ⟨(some 52),(.cR (.t 5)),none,251008000,[251008021,251008022,251008024]⟩ (.one ⟨(some 53),(.xW (.t 52)),none,251008001,[251008021,251008022,251008024]⟩ (.one ⟨(some 54),(.fc 2 (.t 53)),none,251008002,[251008021,251008022,251008024]⟩ (.one ⟨(some 56),(.cR (.t 1)),none,251008004,[251008021,251008022,251008024]⟩ (.one ⟨(some 57),(.cR (.t 6)),none,251008005,[251008021,251008022,251008024]⟩ (.one ⟨(some 61),(.cR (.t 5)),none,251008009,[251008021,251008022,251008024]⟩ (.one ⟨(some 62),(.xW (.t 61)),none,251008010,[251008021,251008022,251008024]⟩ (.one ⟨(some 63),(.fc 2 (.t 62)),none,251008011,[251008021,251008022,251008024]⟩ (.one ⟨(some 64),(.load false 1 (.t 63)),none,251008012,[251008021,251008022,251008024]⟩ (.one ⟨(some 65),(.cR (.t 1)),none,251008013,[251008021,251008022,251008024]⟩ (.one ⟨(some 66),(.cR (.t 6)),none,251008014,[251008021,251008022,251008024]⟩ (.one ⟨(some 67),(.dK 3 (.t 65) (.t 66)),none,251008015,[251008021,251008022,251008024]⟩ (.one ⟨(some 68),(.fc 1 (.t 67)),none,251008016,[251008021,251008022,251008024]⟩ (.one ⟨(some 69),(.load false 1 (.t 68)),none,251008017,[251008021,251008022,251008024]⟩ (.one ⟨(some 70),(.dK 1 (.t 64) (.t 69)),none,251008018,[251008021,251008022,251008024]⟩ (.one ⟨(some 71),(.load false 1 (.t 70)),none,251008019,[251008021,251008022,251008024]⟩ (.one ⟨(some 72),(.cR (.t 6)),none,251008020,[251008021,251008022,251008024]⟩ (.one ⟨(some 73),(.jV 1 1 [(.t 72)]),none,251008021,[251008022,251008024]⟩ (.both (.one ⟨(some 55),(.load false 1 (.t 54)),none,251008003,[251008021,251008022,251008024]⟩ (.both (.one ⟨(some 58),(.dK 3 (.t 56) (.t 57)),none,251008006,[251008021,251008022,251008024]⟩ (.one ⟨(some 59),(.fc 1 (.t 58)),none,251008007,[251008021,251008022,251008024]⟩ (.both (.one ⟨(some 60),(.load false 1 (.t 59)),none,251008008,[251008021,251008022,251008024]⟩ (.one ⟨(some 74),(.append 1 (.t 71) (.t 73)),none,251008022,[251008024]⟩ (.one ⟨(some 75),(.dK 1 (.t 55) (.t 60)),none,251008023,[251008024]⟩ (.one ⟨none,(.store 1 (.t 75) (.t 74)),none,251008024,[]⟩ (.ej false []))))) (.one ⟨(some 74),(.append 1 (.t 71) (.t 73)),none,251008022,[251008024]⟩ (.one ⟨(some 60),(.load false 1 (.t 59)),none,251008008,[251008021,251008022,251008024]⟩ (.one ⟨(some 75),(.dK 1 (.t 55) (.t 60)),none,251008023,[251008024]⟩ (.one ⟨none,(.store 1 (.t 75) (.t 74)),none,251008024,[]⟩ (.ej false [])))))))) (.one ⟨(some 74),(.append 1 (.t 71) (.t 73)),none,251008022,[251008024]⟩ (.one ⟨(some 58),(.dK 3 (.t 56) (.t 57)),none,251008006,[251008021,251008022,251008024]⟩ (.one ⟨(some 59),(.fc 1 (.t 58)),none,251008007,[251008021,251008022,251008024]⟩ (.one ⟨(some 60),(.load false 1 (.t 59)),none,251008008,[251008021,251008022,251008024]⟩ (.one ⟨(some 75),(.dK 1 (.t 55) (.t 60)),none,251008023,[251008024]⟩ (.one ⟨none,(.store 1 (.t 75) (.t 74)),none,251008024,[]⟩ (.ej false []))))))))) (.both (.one ⟨(some 58),(.dK 3 (.t 56) (.t 57)),none,251008006,[251008021,251008022,251008024]⟩ (.one ⟨(some 59),(.fc 1 (.t 58)),none,251008007,[251008021,251008022,251008024]⟩ (.both (.one ⟨(some 55),(.load false 1 (.t 54)),none,251008003,[251008021,251008022,251008024]⟩ (.both (.one ⟨(some 60),(.load false 1 (.t 59)),none,251008008,[251008021,251008022,251008024]⟩ (.one ⟨(some 74),(.append 1 (.t 71) (.t 73)),none,251008022,[251008024]⟩ (.one ⟨(some 75),(.dK 1 (.t 55) (.t 60)),none,251008023,[251008024]⟩ (.one ⟨none,(.store 1 (.t 75) (.t 74)),none,251008024,[]⟩ (.ej false []))))) (.one ⟨(some 74),(.append 1 (.t 71) (.t 73)),none,251008022,[251008024]⟩ (.one ⟨(some 60),(.load false 1 (.t 59)),none,251008008,[251008021,251008022,251008024]⟩ (.one ⟨(some 75),(.dK 1 (.t 55) (.t 60)),none,251008023,[251008024]⟩ (.one ⟨none,(.store 1 (.t 75) (.t 74)),none,251008024,[]⟩ (.ej false []))))))) (.both (.one ⟨(some 60),(.load false 1 (.t 59)),none,251008008,[251008021,251008022,251008024]⟩ (.both (.one ⟨(some 55),(.load false 1 (.t 54)),none,251008003,[251008021,251008022,251008024]⟩ (.one ⟨(some 74),(.append 1 (.t 71) (.t 73)),none,251008022,[251008024]⟩ (.one ⟨(some 75),(.dK 1 (.t 55) (.t 60)),none,251008023,[251008024]⟩ (.one ⟨none,(.store 1 (.t 75) (.t 74)),none,251008024,[]⟩ (.ej false []))))) (.one ⟨(some 74),(.append 1 (.t 71) (.t 73)),none,251008022,[251008024]⟩ (.one ⟨(some 55),(.load false 1 (.t 54)),none,251008003,[251008021,251008022,251008024]⟩ (.one ⟨(some 75),(.dK 1 (.t 55) (.t 60)),none,251008023,[251008024]⟩ (.one ⟨none,(.store 1 (.t 75) (.t 74)),none,251008024,[]⟩ (.ej false []))))))) (.one ⟨(some 74),(.append 1 (.t 71) (.t 73)),none,251008022,[251008024]⟩ (.one ⟨(some 55),(.load false 1 (.t 54)),none,251008003,[251008021,251008022,251008024]⟩ (.one ⟨(some 60),(.load false 1 (.t 59)),none,251008008,[251008021,251008022,251008024]⟩ (.one ⟨(some 75),(.dK 1 (.t 55) (.t 60)),none,251008023,[251008024]⟩ (.one ⟨none,(.store 1 (.t 75) (.t 74)),none,251008024,[]⟩ (.ej false [])))))))))) (.one ⟨(some 74),(.append 1 (.t 71) (.t 73)),none,251008022,[251008024]⟩ (.one ⟨(some 55),(.load false 1 (.t 54)),none,251008003,[251008021,251008022,251008024]⟩ (.one ⟨(some 58),(.dK 3 (.t 56) (.t 57)),none,251008006,[251008021,251008022,251008024]⟩ (.one ⟨(some 59),(.fc 1 (.t 58)),none,251008007,[251008021,251008022,251008024]⟩ (.one ⟨(some 60),(.load false 1 (.t 59)),none,251008008,[251008021,251008022,251008024]⟩ (.one ⟨(some 75),(.dK 1 (.t 55) (.t 60)),none,251008023,[251008024]⟩ (.one ⟨none,(.store 1 (.t 75) (.t 74)),none,251008024,[]⟩ (.ej false [])))))))))))))))))))))))))))))) (.ej false [q 26 (.cR (.t 6)) 251006000,q 27 (.bin .add .i64 (.t 26) (.k (.int .i64 1))) 251006001,q 6 (.cR (.t 27)) 251006002])))))) (.seq (.ej false [q 76 (.cR (.t 5)) 251009000,q 4 (.cR (.t 76)) 251009001]) .ret)))))),[(.tmp 4)]⟩
theorem Ms:sP Tryz.prog 251 [(7,2),(8,2)]=some N7:=by kernel_rfl
def N8:wE:=⟨118,2,(.seq (.ej false [q 4 (.cR (.k .bP)) 320000000]) (.seq (.ej false [q 17 (.cR (.t 0)) 320001000,q 18 (.jG [.gI] (.t 17) (.t 17)) 320001001,q 5 (.cR (.t 18)) 320001002]) (.seq (.seq (.ej false [q 19 (.cR (.t 5)) 320002000,q 20 (.len (.t 19)) 320002001,q 21 (.cR (.k (.int .i64 0))) 320002002]) (.block 0 (.loop (.seq (.ej false [q 22 (.bin .lss .i64 (.t 21) (.t 20)) 320003000]) (.seq (.cond (.t 22) .skip (.exit 0)) (.seq (.block 1 (.seq (.ej false [q 23 (.cR (.t 21)) 320004000,q 6 (.cR (.t 23)) 320004001]) (.ej false [q 24 (.cR (.t 5)) 320005000,q 25 (.cR (.t 6)) 320005001,q 26 (.cR (.t 6)) 320005002,q 27 (.build [.gI,(.int .i64 0)] [(1,(1,(.t 26)))]) 320005003,q 28 (.box (.t 27)) 320005004,q 29 (.dK 1 (.t 24) (.t 25)) 320005005,⟨none,(.store 1 (.t 29) (.t 28)),none,320005006,[]⟩]))) (.ej false [q 30 (.bin .add .i64 (.t 21) (.k (.int .i64 1))) 320006000,q 21 (.cR (.t 30)) 320006001]))))))) (.seq (.seq (.ej false [q 31 (.cR (.t 1)) 320007000,q 32 (.len (.t 31)) 320007001,q 33 (.cR (.k (.int .i64 0))) 320007002]) (.block 2 (.loop (.seq (.ej false [q 34 (.bin .lss .i64 (.t 33) (.t 32)) 320008000]) (.seq (.cond (.t 34) .skip (.exit 2)) (.seq (.block 3 (.seq (.ej false [q 35 (.dK 3 (.t 31) (.t 33)) 320009000,q 36 (.load true 3 (.t 35)) 320009001,q 8 (.new [(.int .i64 0),(.int .i64 0),(.int .i64 0)]) 320009002,⟨none,(.store 3 (.t 8) (.t 36)),none,320009003,[]⟩]) (.seq (.one (q 37 (.cR (.t 5)) 320010000) (.one (q 38 (.fc 0 (.t 8)) 320010001) (.one (q 39 (.load false 1 (.t 38)) 320010002) (.one (q 40 (.dK 1 (.t 37) (.t 39)) 320010003) (.one (q 41 (.load false 1 (.t 40)) 320010004) (.one (q 43 (.cR (.t 5)) 320010006) (.one (q 44 (.fc 1 (.t 8)) 320010007) (.both (.one (q 42 (.call 334 [(.t 41)]) 320010005) (.one (q 45 (.load false 1 (.t 44)) 320010008) (.one (q 46 (.dK 1 (.t 43) (.t 45)) 320010009) (.one (q 47 (.load false 1 (.t 46)) 320010010) (.one (q 48 (.call 334 [(.t 47)]) 320010011) (.one (q 9 (.cR (.t 42)) 320010012) (.one (q 10 (.cR (.t 48)) 320010013) (.ej false [])))))))) (.one (q 45 (.load false 1 (.t 44)) 320010008) (.both (.one (q 42 (.call 334 [(.t 41)]) 320010005) (.one (q 46 (.dK 1 (.t 43) (.t 45)) 320010009) (.one (q 47 (.load false 1 (.t 46)) 320010010) (.one (q 48 (.call 334 [(.t 47)]) 320010011) (.one (q 9 (.cR (.t 42)) 320010012) (.one (q 10 (.cR (.t 48)) 320010013) (.ej false []))))))) (.one (q 46 (.dK 1 (.t 43) (.t 45)) 320010009) (.both (.one (q 42 (.call 334 [(.t 41)]) 320010005) (.one (q 47 (.load false 1 (.t 46)) 320010010) (.one (q 48 (.call 334 [(.t 47)]) 320010011) (.one (q 9 (.cR (.t 42)) 320010012) (.one (q 10 (.cR (.t 48)) 320010013) (.ej false [])))))) (.one (q 47 (.load false 1 (.t 46)) 320010010) (.one (q 42 (.call 334 [(.t 41)]) 320010005) (.one (q 48 (.call 334 [(.t 47)]) 320010011) (.one (q 9 (.cR (.t 42)) 320010012) (.one (q 10 (.cR (.t 48)) 320010013) (.ej false [])))))))))))))))))) (.block 4 (.seq (.ej true [q 50 (.cR (.t 9)) 320011000,q 51 (.xW (.t 50)) 320011001,q 52 (.fc 1 (.t 51)) 320011002,q 53 (.load false 1 (.t 52)) 320011003,q 54 (.cR (.t 10)) 320011004,q 55 (.xW (.t 54)) 320011005,q 56 (.fc 1 (.t 55)) 320011006,q 57 (.load false 1 (.t 56)) 320011007,q 58 (.bin .lss .i64 (.t 53) (.t 57)) 320011008,q 49 (.cR (.t 58)) 320011009]) (.cond (.t 49) (.ej false [q 59 (.cR (.t 10)) 320012000,q 60 (.cR (.t 9)) 320012001,q 61 (.xW (.t 59)) 320012002,q 62 (.fc 0 (.t 61)) 320012003,⟨none,(.store 1 (.t 62) (.t 60)),none,320012004,[]⟩]) (.seq (.ej true [q 64 (.cR (.t 10)) 320013000,q 65 (.xW (.t 64)) 320013001,q 66 (.fc 1 (.t 65)) 320013002,q 67 (.load false 1 (.t 66)) 320013003,q 68 (.cR (.t 9)) 320013004,q 69 (.xW (.t 68)) 320013005,q 70 (.fc 1 (.t 69)) 320013006,q 71 (.load false 1 (.t 70)) 320013007,q 72 (.bin .lss .i64 (.t 67) (.t 71)) 320013008,q 63 (.cR (.t 72)) 320013009]) (.cond (.t 63) (.ej false [q 73 (.cR (.t 9)) 320014000,q 74 (.cR (.t 10)) 320014001,q 75 (.xW (.t 73)) 320014002,q 76 (.fc 0 (.t 75)) 320014003,⟨none,(.store 1 (.t 76) (.t 74)),none,320014004,[]⟩]) .skip)))))))) (.ej false [q 77 (.bin .add .i64 (.t 33) (.k (.int .i64 1))) 320015000,q 33 (.cR (.t 77)) 320015001]))))))) (.seq (.ej false [q 11 (.cR (.k .bP)) 320016000]) (.seq (.ej false [⟨(some 78),(.mq (.new ⟨false,[.tI]⟩) []),none,320017000,[]⟩,q 12 (.cR (.t 78)) 320017001]) (.seq (.seq (.ej false [q 79 (.cR (.t 5)) 320018000,q 80 (.len (.t 79)) 320018001,q 81 (.cR (.k (.int .i64 0))) 320018002]) (.block 5 (.loop (.seq (.ej false [q 82 (.bin .lss .i64 (.t 81) (.t 80)) 320019000]) (.seq (.cond (.t 82) .skip (.exit 5)) (.seq (.block 6 (.seq (.ej false [q 83 (.cR (.t 81)) 320020000,q 84 (.dK 1 (.t 79) (.t 81)) 320020001,q 85 (.load false 1 (.t 84)) 320020002,q 13 (.cR (.t 83)) 320020003,q 14 (.cR (.t 85)) 320020004]) (.seq (.ej false [q 87 (.cR (.t 12)) 320021000,q 88 (.cR (.t 14)) 320021001,q 89 (.call 334 [(.t 88)]) 320021002,q 90 (.xW (.t 89)) 320021003,q 91 (.fc 1 (.t 90)) 320021004,q 92 (.load false 1 (.t 91)) 320021005,⟨(some 93),(.mq (.look ⟨false,[.tI]⟩ true (.int .i64 0)) [(.t 87),(.t 92)]),none,320021006,[]⟩,q 86 (.cR (.t 93)) 320021007,q 94 (.extract 0 (.t 86)) 320021008,q 95 (.extract 1 (.t 86)) 320021009,q 15 (.cR (.t 94)) 320021010,q 16 (.cR (.t 95)) 320021011]) (.seq (.seq (.ej false [q 96 (.cR (.t 16)) 320022000,q 97 (.not (.t 96)) 320022001]) (.cond (.t 97) (.seq (.ej false [q 98 (.cR (.t 11)) 320023000,q 99 (.len (.t 98)) 320023001,q 15 (.cR (.t 99)) 320023002]) (.seq (.ej false [q 100 (.cR (.t 12)) 320024000,q 101 (.cR (.t 13)) 320024001,q 102 (.cR (.t 15)) 320024002,⟨none,(.mw (.set ⟨false,[.tI]⟩) [(.t 100),(.t 101),(.t 102)]),none,320024003,[]⟩]) (.ej false [q 103 (.cR (.t 11)) 320025000,q 104 (.jV 1 1 [(.k .bP)]) 320025001,q 105 (.append 1 (.t 103) (.t 104)) 320025002,q 11 (.cR (.t 105)) 320025003]))) .skip)) (.ej false [q 106 (.cR (.t 11)) 320026000,q 107 (.cR (.t 15)) 320026001,q 108 (.cR (.t 11)) 320026002,q 109 (.cR (.t 15)) 320026003,q 110 (.dK 1 (.t 108) (.t 109)) 320026004,q 111 (.load false 1 (.t 110)) 320026005,q 112 (.cR (.t 13)) 320026006,q 113 (.jV 1 1 [(.t 112)]) 320026007,q 114 (.append 1 (.t 111) (.t 113)) 320026008,q 115 (.dK 1 (.t 106) (.t 107)) 320026009,⟨none,(.store 1 (.t 115) (.t 114)),none,320026010,[]⟩]))))) (.ej false [q 116 (.bin .add .i64 (.t 81) (.k (.int .i64 1))) 320027000,q 81 (.cR (.t 116)) 320027001]))))))) (.seq (.ej false [q 117 (.cR (.t 11)) 320028000,q 4 (.cR (.t 117)) 320028001]) .ret)))))))),[(.tmp 4)]⟩
theorem Mt:sP Tryz.prog 320 [(10,2)]=some N8:=by kernel_rfl
def QU:wE:=⟨50,2,(.seq (.ej false [q 2 (.box (.t 0)) 57000000,q 3 (.box (.t 1)) 57000001,q 4 (.new [.bP]) 57000002,q 5 (.cR (.k .bP)) 57000003,q 6 (.cR (.k (.int .i64 0))) 57000004]) (.seq (.seq (.ej false [q 12 (.load true 4 (.t 2)) 57001000,q 13 (.load true 1 (.t 3)) 57001001,q 14 (.call 115 [(.t 12),(.t 13)]) 57001002,q 7 (.cR (.t 14)) 57001003]) (.seq (.ej false [q 15 (.cR (.t 7)) 57002000,q 16 (.Ln true .tI (.t 15) (.k (.int .i64 0))) 57002001]) (.cond (.t 16) (.seq (.ej false [q 17 (.build [.bP] []) 57003000,q 18 (.cR (.t 7)) 57003001,⟨none,(.store 1 (.t 4) (.t 17)),none,57003002,[]⟩,q 5 (.cR (.k .bP)) 57003003,q 6 (.cR (.t 18)) 57003004]) .ret) .skip))) (.seq (.ej false [q 19 (.load true 1 (.t 3)) 57004000,q 20 (.call 116 [(.t 19)]) 57004001,q 8 (.new [.bP]) 57004002,⟨none,(.store 1 (.t 8) (.t 20)),none,57004003,[]⟩]) (.seq (.ej false [q 9 (.cR (.k .bP)) 57005000]) (.seq (.seq (.ej false [q 21 (.load true 4 (.t 2)) 57006000,q 22 (.load true 1 (.t 8)) 57006001,q 23 (.call 117 [(.t 21),(.t 22)]) 57006002,q 10 (.cR (.t 23)) 57006003]) (.block 0 (.loop (.seq (.seq (.ej false [q 24 (.cR (.t 10)) 57007000,q 25 (.len (.t 24)) 57007001,q 26 (.bin .gtr .i64 (.t 25) (.k (.int .i64 0))) 57007002]) (.cond (.t 26) .skip (.exit 0))) (.seq (.block 1 (.seq (.ej true [⟨(some 30),(.fc 0 (.t 8)),none,57009000,[57009007,57009008]⟩,⟨(some 31),(.load false 1 (.t 30)),none,57009001,[57009007,57009008]⟩,⟨(some 32),(.cR (.t 10)),none,57009002,[57009007,57009008]⟩,⟨(some 33),(.dK 1 (.t 32) (.k (.int .i64 0))),none,57009003,[57009007,57009008]⟩,⟨(some 34),(.load false 1 (.t 33)),none,57009004,[57009007,57009008]⟩,⟨(some 35),(.dK 3 (.t 31) (.t 34)),none,57009005,[57009007,57009008]⟩,⟨(some 36),(.load true 3 (.t 35)),none,57009006,[57009007,57009008]⟩,⟨(some 11),(.new [(.int .i64 0),(.int .i64 0),(.int .i64 0)]),none,57009007,[57009008]⟩,⟨none,(.store 3 (.t 11) (.t 36)),none,57009008,[]⟩]) (.seq (.ej false [q 37 (.cR (.t 9)) 57010000,q 38 (.load true 3 (.t 11)) 57010001,q 39 (.jV 3 1 [(.t 38)]) 57010002,q 40 (.append 3 (.t 37) (.t 39)) 57010003,q 9 (.cR (.t 40)) 57010004]) (.ej false [q 41 (.load true 1 (.t 8)) 57011000,q 42 (.fc 0 (.t 11)) 57011001,q 43 (.load true 2 (.t 42)) 57011002,q 44 (.jV 2 1 [(.t 43)]) 57011003,q 45 (.call 111 [(.t 41),(.t 44)]) 57011004,⟨none,(.store 1 (.t 8) (.t 45)),none,57011005,[]⟩])))) (.ej false [q 27 (.load true 4 (.t 2)) 57008000,q 28 (.load true 1 (.t 8)) 57008001,q 29 (.call 117 [(.t 27),(.t 28)]) 57008002,q 10 (.cR (.t 29)) 57008003])))))) (.seq (.one ⟨(some 47),(.cR (.t 9)),none,57012001,[57012004]⟩ (.both (.one ⟨(some 46),(.load true 1 (.t 8)),none,57012000,[57012004]⟩ (.one ⟨(some 48),(.call 118 [(.t 47)]),none,57012002,[57012004]⟩ (.one ⟨(some 49),(.field false 0 1 (.t 48)),none,57012003,[57012004]⟩ (.one ⟨none,(.store 1 (.t 4) (.t 46)),none,57012004,[]⟩ (.one (q 5 (.cR (.t 49)) 57012005) (.one (q 6 (.cR (.k (.int .i64 0))) 57012006) (.ej false []))))))) (.one ⟨(some 48),(.call 118 [(.t 47)]),none,57012002,[57012004]⟩ (.one ⟨(some 46),(.load true 1 (.t 8)),none,57012000,[57012004]⟩ (.one ⟨(some 49),(.field false 0 1 (.t 48)),none,57012003,[57012004]⟩ (.one ⟨none,(.store 1 (.t 4) (.t 46)),none,57012004,[]⟩ (.one (q 5 (.cR (.t 49)) 57012005) (.one (q 6 (.cR (.k (.int .i64 0))) 57012006) (.ej false []))))))))) .ret)))))),[(.cell true 1 4),(.tmp 5),(.tmp 6)]⟩
theorem Lm:sP Tryz.prog 57 [(12,2)]=some QU:=by kernel_rfl
def N6:wE:=⟨22,2,(.seq (.ej false [q 4 (.new [.bP]) 176000000]) (.seq (.one ⟨(some 5),(.jV 3 0 []),none,176001000,[176001007,176001015,176001017]⟩ (.one ⟨(some 6),(.cR (.t 0)),none,176001001,[176001000,176001007,176001015,176001017]⟩ (.one ⟨(some 7),(.xW (.t 6)),none,176001002,[176001000,176001007,176001015,176001017]⟩ (.one ⟨(some 8),(.fc 0 (.t 7)),none,176001003,[176001000,176001007,176001015,176001017]⟩ (.one ⟨(some 9),(.load false 1 (.t 8)),none,176001004,[176001000,176001007,176001015,176001017]⟩ (.one ⟨(some 10),(.cR (.t 1)),none,176001005,[176001000,176001007,176001015,176001017]⟩ (.one ⟨(some 11),(.slice 3 (.t 9) none (some (.t 10))),none,176001006,[176001000,176001007,176001015,176001017]⟩ (.one ⟨(some 13),(.cR (.t 0)),none,176001008,[176001000,176001007,176001015,176001017]⟩ (.one ⟨(some 14),(.xW (.t 13)),none,176001009,[176001000,176001007,176001015,176001017]⟩ (.one ⟨(some 15),(.fc 0 (.t 14)),none,176001010,[176001000,176001007,176001015,176001017]⟩ (.one ⟨(some 17),(.cR (.t 1)),none,176001012,[176001000,176001007,176001015,176001017]⟩ (.one ⟨(some 18),(.bin .add .i64 (.t 17) (.k (.int .i64 1))),none,176001013,[176001000,176001007,176001015,176001017]⟩ (.loc 5 176001000 (.t 11) (.one ⟨(some 12),(.append 3 (.t 5) (.t 11)),none,176001007,[176001015,176001017]⟩ (.one ⟨(some 16),(.load false 1 (.t 15)),none,176001011,[176001000,176001007,176001015,176001017]⟩ (.one ⟨(some 19),(.slice 3 (.t 16) (some (.t 18)) none),none,176001014,[176001000,176001007,176001015,176001017]⟩ (.one ⟨(some 20),(.append 3 (.t 12) (.t 19)),none,176001015,[176001017]⟩ (.one ⟨(some 21),(.build [.bP] [(0,(1,(.t 20)))]),none,176001016,[176001017]⟩ (.one ⟨none,(.store 1 (.t 4) (.t 21)),none,176001017,[]⟩ (.ej false [])))))))))))))))))))) .ret)),[(.cell true 1 4)]⟩
theorem Mr:sP Tryz.prog 176 [(1,2)]=some N6:=by kernel_rfl
end Go.Proofs.YtgoljkjaameagaaGreat.V

namespace Go.Proofs.YtgoljkjaameagaaGreat.V
open Go.RowKit
attribute [local irreducible] dL wpOps fu Call
attribute [local go_sem] az eQ ec eY eW cJ upd bJ K.av b4 AV.cells AV.cell rowOf rowsOf part ld rowAt bH bG cX dr fR bo cE dD e6 eF cQ dx cC cz db dc br aJ ck bq cq cm dv dy dw cj bx cD dt bp aA cu bQ fQ bd bY bt aH cW aX cY AV.undef bj bl de dn da dj bV dC dE bK dB dz cr cw List.getD_cons_zero List.getD_cons_succ List.getD_nil List.all_cons List.all_nil Bool.and_true Bool.true_and Bool.and_self Bool.not_true Bool.not_false Option.map_some Option.map_none Option.bind_some Option.bind_none List.length_cons List.length_nil List.take_succ_cons List.take_zero List.take_nil List.drop_succ_cons List.drop_zero List.drop_nil List.head?_cons List.map_cons List.map_nil List.getElem?_cons_zero List.getElem?_cons_succ List.cons_append List.nil_append List.append_nil List.length_map List.set_cons_zero List.set_cons_succ Nat.reduceMul eq_self Int.toNat_natCast Int.natCast_nonneg and_self true_and and_true decide_true decide_false Bool.false_eq_true Nat.zero_add Nat.add_zero List.contains_cons List.contains_nil Bool.or_false Bool.false_or beq_self_eq_true Nat.reduceBEq ne_eq not_true_eq_false not_false_eq_true Id.mk.injEq false_and and_false Nat.reduceLT Int.reduceLE Int.reduceLT Int.reduceToNat Int.reduceNeg Int.reduceAdd Nat.le_refl List.length_append beq_true beq_false Bool.not_eq_eq_eq_not or_false false_or dd ae ai ay bh bD aG aM aD aL bZ bm
theorem Ab (x:fj) (g:Rows):cI g 6 [.agg (bU x)]=some [.agg (bU x)]:=by simp[bU,ae,ai,aM,bh,ay]
theorem Ac (x:eI) (g:Rows):cI g 6 [.agg (bI x)]=some [.agg (bI x)]:=by simp[bI,ae,ai,aM,bh,bD]
theorem Cq (x:ad) (g:Rows):cI g 6 [.agg (aa x)]=some [.agg (aa x)]:=by simp[aa,ae,ai,aM,ay]
theorem gZ {n:Nat} {l:Int} (h:(n:Int)<=l):wv n l=l-n:=if_pos h
theorem im {n:Nat} {l:Int} (h:¬(n:Int)<=l):wv n l= -1:=if_neg h
def j4 (t:eI):Nat:=t.aC.size+t.bB.length
def s9 (s:aq):Nat:=(s.au.length+(s.au.map fun g=>g.aC.size).sum)+(s.ah.length+(s.ah.map j4).sum)
def vz (s:aU):Nat:=s9 s.aV+s.bf.ah.length
def fm (s:aq):Prop:=(∀g∈s.au,g.aC.size<=9223372036854775807)/\∀t∈s.ah,t.aC.size<=9223372036854775807
theorem II (g:fj) (l:Int) (h0:0<=l) (h1:l<=1048576) (hs:g.aC.size<=9223372036854775807):ak Tryz.prog 187 [.agg (bU g),.int .i64 l] (.int .i64 (wv g.aC.size l)):=by
 refine ak.body eb rfl fun hl n0=>?_
 clear hl
 have hw:IntKind.i64.wrap (l-(g.aC.size:Int))=l-g.aC.size:=bE (by omega)
 by_cases hf:(g.aC.size:Int)<=l
 ·have ly:¬l-(g.aC.size:Int)<0:=by omega
  (try((repeat(revert hN;revert N;apply Pn.out));refine wk (tw @bU.eq_1 (tw @hw @ly)) ?_;(repeat(refine Pn.mk ?_;intro N hN))))
  exact bL (b:=l-(g.aC.size:Int)) (.inl rfl) (sd @Nat.zero_add) (gZ hf).symm
 ·have ly:l-(g.aC.size:Int)<0:=by omega
  (try((repeat(revert hN;revert N;apply Pn.out));refine wk (tw @bU.eq_1 (tw @hw @ly)) ?_;(repeat(refine Pn.mk ?_;intro N hN))))
  exact bL (b:=-1) (.inl rfl) (sd @Nat.zero_add) (im hf).symm
theorem IJ (xs:List Int) (l:Int) (h0:0<=l) (h1:l<=1048576):ak Tryz.prog 140 [.sl (xs.map aT),.int .i64 l] (.int .i64 (wv xs.length l)):=by
 have h:=IL (show lx Tryz.prog 140=some (IK 140) by kernel_rfl) (xs.map aT) l h0 h1
 rwa [List.length_map]at h
theorem IQ (t:eI) (l:Int) (h0:0<=l) (h1:l<=1048576) (hs:t.aC.size<=9223372036854775807):ak Tryz.prog 188 [.agg (bI t),.int .i64 l] (.int .i64 (wv (j4 t) l)):=by
 refine ak.body eb rfl fun hl n0=>?_
 clear hl
 have hw:IntKind.i64.wrap (l-(t.aC.size:Int))=l-t.aC.size:=bE (by omega)
 by_cases hf:(t.aC.size:Int)<=l
 ·have ly:¬l-(t.aC.size:Int)<0:=by omega
  have hc:=IJ t.bB (l-t.aC.size) (by omega) (by omega)
  by_cases hg:(t.bB.length:Int)<=l-t.aC.size
  ·rw[gZ hg]at hc
   have Ji:¬l-(t.aC.size:Int)-(t.bB.length:Int)<0:=by omega
   (repeat(first|((repeat(revert hN;revert N;apply Pn.out));refine wk (tw @bI.eq_1 (tw @hw (tw @ly @Ji))) ?_;(repeat(refine Pn.mk ?_;intro N hN)))|((try apply Or.inl);refine⟨_,ak.x (hc) (sd (tw @bI.eq_1 (tw @hw (tw @ly @Ji)))),?_⟩;refine hN _ _ ?_;clear hN N)))
   exact bL (b:=l-(t.aC.size:Int)-(t.bB.length:Int)) (.inl rfl) (sd @Nat.zero_add) (by rw[gZ (by unfold j4;omega)];unfold j4;omega)
  ·rw[im hg]at hc
   (repeat(first|((repeat(revert hN;revert N;apply Pn.out));refine wk (tw @bI.eq_1 (tw @hw @ly)) ?_;(repeat(refine Pn.mk ?_;intro N hN)))|((try apply Or.inl);refine⟨_,ak.x (hc) (sd (tw @bI.eq_1 (tw @hw @ly))),?_⟩;refine hN _ _ ?_;clear hN N)))
   exact bL (b:=-1) (.inl rfl) (sd @Nat.zero_add) (im (by unfold j4;omega)).symm
 ·have ly:l-(t.aC.size:Int)<0:=by omega
  (try((repeat(revert hN;revert N;apply Pn.out));refine wk (tw @bI.eq_1 (tw @hw @ly)) ?_;(repeat(refine Pn.mk ?_;intro N hN))))
  exact bL (b:=-1) (.inl rfl) (sd @Nat.zero_add) (im (by unfold j4;omega)).symm
theorem Ge (xs:List fj) (l:Int) (h0:0<=l) (h1:l<=1048576) (hs:∀g∈xs,g.aC.size<=9223372036854775807):ak Tryz.prog 120 [.sl (xs.map bU),.int .i64 l] (.int .i64 (wv (xs.length+(xs.map fun g=>g.aC.size).sum) l)):=
 IP (fun g:fj=>g.aC.size) (show lx Tryz.prog 120=some (IM 120 187 2) by kernel_rfl) (fun _=>rfl) Ab xs l h0 h1 fun x hx l a b=>II x l a b (hs x hx)
theorem Gf (xs:List eI) (l:Int) (h0:0<=l) (h1:l<=1048576) (hs:∀t∈xs,t.aC.size<=9223372036854775807):ak Tryz.prog 121 [.sl (xs.map bI),.int .i64 l] (.int .i64 (wv (xs.length+(xs.map j4).sum) l)):=
 IP j4 (show lx Tryz.prog 121=some (IM 121 188 2) by kernel_rfl) (fun _=>rfl) Ac xs l h0 h1 fun x hx l a b=>IQ x l a b (hs x hx)
theorem Ds (xs:List ad) (l:Int) (h0:0<=l) (h1:l<=1048576):ak Tryz.prog 76 [.sl (xs.map aa),.int .i64 l] (.int .i64 (wv xs.length l)):=by
 have h:=IL (show lx Tryz.prog 76=some (IK 76) by kernel_rfl) (xs.map aa) l h0 h1
 rwa [List.length_map]at h
theorem Bk (s:aq) (l:Int) (h0:0<=l) (h1:l<=1048576) (hs:fm s):ak Tryz.prog 61 [.agg (ab s),.int .i64 l] (.int .i64 (wv (s9 s) l)):=by
 refine ak.body eb rfl fun hl n0=>?_
 clear hl
 have ha:=Ge s.au l h0 h1 hs.1
 have he:s9 s=(s.au.length+(s.au.map fun g=>g.aC.size).sum)+(s.ah.length+(s.ah.map j4).sum):=rfl
 by_cases hf:((s.au.length+(s.au.map fun g=>g.aC.size).sum:Nat):Int)<=l
 ·rw[gZ hf]at ha
  obtain⟨A,hA⟩:∃A:Int,A=l-((s.au.length+(s.au.map fun g=>g.aC.size).sum:Nat):Int):=⟨_,rfl⟩
  rw[<-hA]at ha
  have ly:¬A<0:=by omega
  have hb:=Gf s.ah A (by omega) (by omega) hs.2
  by_cases hg:((s.ah.length+(s.ah.map j4).sum:Nat):Int)<=A
  ·rw[gZ hg]at hb
   obtain⟨B,hB⟩:∃B:Int,B=A-((s.ah.length+(s.ah.map j4).sum:Nat):Int):=⟨_,rfl⟩
   rw[<-hB]at hb
   have Ji:¬B<0:=by omega
   (repeat(first|((repeat(revert hN;revert N;apply Pn.out));refine wk (tw @ab.eq_1 (tw @ly @Ji)) ?_;(repeat(refine Pn.mk ?_;intro N hN)))|((try apply Or.inl);refine⟨_,ak.x (ha) (sd (tw @ab.eq_1 (tw @ly @Ji))),?_⟩;refine hN _ _ ?_;clear hN N)|((try apply Or.inl);refine⟨_,ak.x (hb) (sd (tw @ab.eq_1 (tw @ly @Ji))),?_⟩;refine hN _ _ ?_;clear hN N)))
   exact bL (b:=B) (.inl rfl) (sd @Nat.zero_add) (by rw[gZ (by omega)];omega)
  ·rw[im hg]at hb
   (repeat(first|((repeat(revert hN;revert N;apply Pn.out));refine wk (tw @ab.eq_1 @ly) ?_;(repeat(refine Pn.mk ?_;intro N hN)))|((try apply Or.inl);refine⟨_,ak.x (ha) (sd (tw @ab.eq_1 @ly)),?_⟩;refine hN _ _ ?_;clear hN N)|((try apply Or.inl);refine⟨_,ak.x (hb) (sd (tw @ab.eq_1 @ly)),?_⟩;refine hN _ _ ?_;clear hN N)))
   exact bL (b:=-1) (.inl rfl) (sd @Nat.zero_add) (im (by omega)).symm
 ·rw[im hf]at ha
  (repeat(first|((repeat(revert hN;revert N;apply Pn.out));refine wk @ab.eq_1 ?_;(repeat(refine Pn.mk ?_;intro N hN)))|((try apply Or.inl);refine⟨_,ak.x (ha) (sd @ab.eq_1),?_⟩;refine hN _ _ ?_;clear hN N)))
  exact bL (b:=-1) (.inl rfl) (sd @Nat.zero_add) (im (by omega)).symm
theorem qM (a:dY) (l:Int) (h0:0<=l) (h1:l<=1048576):ak Tryz.prog 14 [.agg (aO a),.int .i64 l] (.int .i64 (wv a.ah.length l)):=by
 refine ak.body eb rfl fun hl n0=>?_
 clear hl
 have ha:=Ds a.ah l h0 h1
 by_cases hf:(a.ah.length:Int)<=l
 ·rw[gZ hf]at ha
  have ly:¬l-(a.ah.length:Int)<0:=by omega
  (repeat(first|((repeat(revert hN;revert N;apply Pn.out));refine wk (tw @aO.eq_1 @ly) ?_;(repeat(refine Pn.mk ?_;intro N hN)))|((try apply Or.inl);refine⟨_,ak.x (ha) (sd (tw @aO.eq_1 @ly)),?_⟩;refine hN _ _ ?_;clear hN N)))
  exact bL (b:=l-(a.ah.length:Int)) (.inl rfl) (sd @Nat.zero_add) (gZ hf).symm
 ·rw[im hf]at ha
  (repeat(first|((repeat(revert hN;revert N;apply Pn.out));refine wk @aO.eq_1 ?_;(repeat(refine Pn.mk ?_;intro N hN)))|((try apply Or.inl);refine⟨_,ak.x (ha) (sd @aO.eq_1),?_⟩;refine hN _ _ ?_;clear hN N)))
  exact bL (b:=-1) (.inl rfl) (sd @Nat.zero_add) (im hf).symm
theorem Dt (s:aU) (l:Int) (h0:0<=l) (h1:l<=1048576) (hs:fm s.aV):ak Tryz.prog 13 [.agg (ao s),.int .i64 l] (.int .i64 (wv (vz s) l)):=by
 refine ak.body eb rfl fun hl n0=>?_
 clear hl
 have ha:=Bk s.aV l h0 h1 hs
 rw[ab]at ha
 have he:vz s=s9 s.aV+s.bf.ah.length:=rfl
 by_cases hf:(s9 s.aV:Int)<=l
 ·rw[gZ hf]at ha
  have ly:¬l-(s9 s.aV:Int)<0:=by omega
  have hb:=qM s.bf (l-s9 s.aV) (by omega) (by omega)
  rw[aO]at hb
  by_cases hg:(s.bf.ah.length:Int)<=l-s9 s.aV
  ·rw[gZ hg]at hb
   have Ji:¬l-(s9 s.aV:Int)-(s.bf.ah.length:Int)<0:=by omega
   (repeat(first|((repeat(revert hN;revert N;apply Pn.out));refine wk (tw @ao.eq_1 (tw @ly @Ji)) ?_;(repeat(refine Pn.mk ?_;intro N hN)))|((try apply Or.inl);refine⟨_,ak.x (ha) (sd (tw @ao.eq_1 (tw @ly @Ji))),?_⟩;refine hN _ _ ?_;clear hN N)|((try apply Or.inl);refine⟨_,ak.x (hb) (sd (tw @ao.eq_1 (tw @ly @Ji))),?_⟩;refine hN _ _ ?_;clear hN N)))
   exact bL (b:=l-(s9 s.aV:Int)-(s.bf.ah.length:Int)) (.inl rfl) (sd @Nat.zero_add) (by rw[gZ (by omega)];omega)
  ·rw[im hg]at hb
   (repeat(first|((repeat(revert hN;revert N;apply Pn.out));refine wk (tw @ao.eq_1 @ly) ?_;(repeat(refine Pn.mk ?_;intro N hN)))|((try apply Or.inl);refine⟨_,ak.x (ha) (sd (tw @ao.eq_1 @ly)),?_⟩;refine hN _ _ ?_;clear hN N)|((try apply Or.inl);refine⟨_,ak.x (hb) (sd (tw @ao.eq_1 @ly)),?_⟩;refine hN _ _ ?_;clear hN N)))
   exact bL (b:=-1) (.inl rfl) (sd @Nat.zero_add) (im (by omega)).symm
 ·rw[im hf]at ha
  (repeat(first|((repeat(revert hN;revert N;apply Pn.out));refine wk @ao.eq_1 ?_;(repeat(refine Pn.mk ?_;intro N hN)))|((try apply Or.inl);refine⟨_,ak.x (ha) (sd @ao.eq_1),?_⟩;refine hN _ _ ?_;clear hN N)))
  exact bL (b:=-1) (.inl rfl) (sd @Nat.zero_add) (im (by omega)).symm
theorem KQ (x:fj) (g:Rows):cI g 5 (bU x)=some (bU x):=by simp[bU,ae,ai,bh,ay]
theorem KR (x:eI) (g:Rows):cI g 5 (bI x)=some (bI x):=by simp[bI,ae,ai,bh,bD]
theorem F4 (x:ad) (g:Rows):cI g 5 (aa x)=some (aa x):=by simp[aa,ae,ai,ay]
theorem xH (p:aP):kb Tryz.prog 109 [.agg (aj p)] (.agg (aj p)):=by
 refine kb.body eb rfl fun hl σ=>?_
 clear hl
 (try((repeat(revert hN;revert N;apply Pn.out));refine wk @aj.eq_1 ?_;(repeat(refine Pn.mk ?_;intro N hN))))
 exact y4 (.inl rfl) (vs:=[.agg (aj p)]) (by simp only[go_sem, ↓reduceIte,Nat.reduceEqDiff,Nat.reduceAdd,Nat.reduceSub,Nat.reduceLeDiff,reduceCtorEq,eX,gM,aj]) (by simp[eL,aj,aM,ae,ai,ay])
theorem Dv (p:ad):kb Tryz.prog 149 [.agg (aa p)] (.agg (aa p)):=by
 refine kb.body eb rfl fun hl σ=>?_
 clear hl
 have h:=xH p.aW
 rw[aj]at h
 (repeat(first|((repeat(revert hN;revert N;apply Pn.out));refine wk @aa.eq_1 ?_;(repeat(refine Pn.mk ?_;intro N hN)))|((try apply Or.inl);refine⟨_,kb.x (h) _,?_⟩;refine hN _ _ ?_;clear hN N)))
 exact y4 (.inl rfl) (vs:=[.agg (aa p)]) (by simp only[go_sem, ↓reduceIte,Nat.reduceEqDiff,Nat.reduceAdd,Nat.reduceSub,Nat.reduceLeDiff,reduceCtorEq,eX,gM,aa]) (by simp[eL,aa,aM,ae,ai,ay])
theorem IV (p:fj):kb Tryz.prog 197 [.agg (bU p)] (.agg (bU p)):=by
 refine kb.body eb rfl fun hl σ=>?_
 clear hl
 (try((repeat(revert hN;revert N;apply Pn.out));refine wk @bU.eq_1 ?_;(repeat(refine Pn.mk ?_;intro N hN))))
 exact y4 (.inl rfl) (vs:=[.agg (bU p)]) (by simp only[go_sem, ↓reduceIte,Nat.reduceEqDiff,Nat.reduceAdd,Nat.reduceSub,Nat.reduceLeDiff,reduceCtorEq,eX,gM,bU]) (by simp[eL,bU,aM,ae,ai,ay,bh])
theorem IX (xs:List Int) (h:xs.length<=1048576):kb Tryz.prog 17 [.sl (xs.map aT)] (.sl (xs.map aT)):=
 QR (show lx Tryz.prog 17=some (IY 17 (.int .i64 0)) by kernel_rfl) xs h
def q9 (t:eI):Prop:=t.bB.length<=1048576
theorem I0 (p:eI) (hs:q9 p):kb Tryz.prog 198 [.agg (bI p)] (.agg (bI p)):=by
 refine kb.body eb rfl fun hl σ=>?_
 clear hl
 have h:=IX p.bB hs
 (repeat(first|((repeat(revert hN;revert N;apply Pn.out));refine wk @bI.eq_1 ?_;(repeat(refine Pn.mk ?_;intro N hN)))|((try apply Or.inl);refine⟨_,kb.x (h) _,?_⟩;refine hN _ _ ?_;clear hN N)))
 exact y4 (.inl rfl) (vs:=[.agg (bI p)]) (by simp only[go_sem, ↓reduceIte,Nat.reduceEqDiff,Nat.reduceAdd,Nat.reduceSub,Nat.reduceLeDiff,reduceCtorEq,eX,gM,bI]) (by simp[eL,bI,aM,ae,ai,bD,bh])
theorem Hi (xs ys:List Int):ak Tryz.prog 20 [.sl (xs.map aT),.sl (ys.map aT)] (.bool (decide (xs=ys))):=
 Po (show lx Tryz.prog 20=some (Lo 20 .tI) by kernel_rfl) xs ys
theorem Hj (a b:eI):ak Tryz.prog 212 [.agg (bI a),.agg (bI b)] (.bool (decide (a=b))):=by
 refine ak.body eb rfl fun hl n0=>?_
 clear hl
 have h:=Hi a.bB b.bB
 by_cases h1:a.aC=b.aC
 ·have e1:decide (a.aC=b.aC)=true:=decide_eq_true h1
  by_cases h2:a.bB=b.bB
  ·rw[decide_eq_true h2]at h
   (repeat(first|((repeat(revert hN;revert N;apply Pn.out));refine wk (tw @bI.eq_1 @e1) ?_;(repeat(refine Pn.mk ?_;intro N hN)))|((try apply Or.inl);refine⟨_,ak.x (h) (sd (tw @bI.eq_1 @e1)),?_⟩;refine hN _ _ ?_;clear hN N)))
   exact aQ (b:=true) (.inl rfl) (sd @Nat.zero_add) (decide_eq_true (by cases a;cases b;simp_all)).symm
  ·rw[decide_eq_false h2]at h
   (repeat(first|((repeat(revert hN;revert N;apply Pn.out));refine wk (tw @bI.eq_1 @e1) ?_;(repeat(refine Pn.mk ?_;intro N hN)))|((try apply Or.inl);refine⟨_,ak.x (h) (sd (tw @bI.eq_1 @e1)),?_⟩;refine hN _ _ ?_;clear hN N)))
   exact aQ (b:=false) (.inl rfl) (sd @Nat.zero_add) (decide_eq_false (by rintro rfl;exact h2 rfl)).symm
 ·have e1:decide (a.aC=b.aC)=false:=decide_eq_false h1
  (try((repeat(revert hN;revert N;apply Pn.out));refine wk (tw @bI.eq_1 @e1) ?_;(repeat(refine Pn.mk ?_;intro N hN))))
  exact aQ (b:=false) (.inl rfl) (sd @Nat.zero_add) (decide_eq_false (by rintro rfl;exact h1 rfl)).symm
theorem Gk (xs:List fj) (h:xs.length<=1048576):kb Tryz.prog 129 [.sl (xs.map bU)] (.sl (xs.map bU)):=
 Dw (show lx Tryz.prog 129=some (sM 129 197 2 [.str [],.int .i64 0]) by kernel_rfl) rfl (fun _=>rfl) (fun _=>rfl) KQ xs h fun x _=>IV x
theorem Gm (xs:List eI) (h:xs.length<=1048576) (hs:∀t∈xs,q9 t):kb Tryz.prog 130 [.sl (xs.map bI)] (.sl (xs.map bI)):=
 Dw (show lx Tryz.prog 130=some (sM 130 198 2 [.str [],.bP]) by kernel_rfl) rfl (fun _=>rfl) (fun _=>rfl) KR xs h fun x hx=>I0 x (hs x hx)
theorem Bn (xs:List ad) (h:xs.length<=1048576):kb Tryz.prog 80 [.sl (xs.map aa)] (.sl (xs.map aa)):=
 Dw (show lx Tryz.prog 80=some (sM 80 149 3 [.int .i64 0,.int .i64 0,.int .i64 0]) by kernel_rfl) rfl (fun _=>rfl) (fun _=>rfl) F4 xs h fun x _=>Dv x
structure GP (s:aq):Prop where
 g:s.au.length<=1048576
 t:s.ah.length<=1048576
 s:∀t∈s.ah,q9 t
structure oY (y:aU):Prop where
 s:GP y.aV
 a:y.bf.ah.length<=1048576
theorem Bp (p:aq) (hs:GP p):kb Tryz.prog 63 [.agg (ab p)] (.agg (ab p)):=by
 refine kb.body eb rfl fun hl σ=>?_
 clear hl
 have h1:=Gk p.au hs.g
 have h2:=Gm p.ah hs.t hs.s
 (repeat(first|((repeat(revert hN;revert N;apply Pn.out));refine wk @ab.eq_1 ?_;(repeat(refine Pn.mk ?_;intro N hN)))|((try apply Or.inl);refine⟨_,kb.x (h1) _,?_⟩;refine hN _ _ ?_;clear hN N)|((try apply Or.inl);refine⟨_,kb.x (h2) _,?_⟩;refine hN _ _ ?_;clear hN N)))
 exact y4 (.inl rfl) (vs:=[.agg (ab p)]) (by simp only[go_sem, ↓reduceIte,Nat.reduceEqDiff,Nat.reduceAdd,Nat.reduceSub,Nat.reduceLeDiff,reduceCtorEq,eX,gM,ab]) (by simp[eL,ab,aM,ae,ai,bD])
theorem qP (p:dY) (hs:p.ah.length<=1048576):kb Tryz.prog 18 [.agg (aO p)] (.agg (aO p)):=by
 refine kb.body eb rfl fun hl σ=>?_
 clear hl
 have h1:=Bn p.ah hs
 (repeat(first|((repeat(revert hN;revert N;apply Pn.out));refine wk @aO.eq_1 ?_;(repeat(refine Pn.mk ?_;intro N hN)))|((try apply Or.inl);refine⟨_,kb.x (h1) _,?_⟩;refine hN _ _ ?_;clear hN N)))
 exact y4 (.inl rfl) (vs:=[.agg (aO p)]) (by simp only[go_sem, ↓reduceIte,Nat.reduceEqDiff,Nat.reduceAdd,Nat.reduceSub,Nat.reduceLeDiff,reduceCtorEq,eX,gM,aO]) (by simp[eL,aO,aM,ae,ai,bD])
theorem Dy (p:aU) (hs:oY p):kb Tryz.prog 16 [.agg (ao p)] (.agg (ao p)):=by
 refine kb.body eb rfl fun hl σ=>?_
 clear hl
 have h1:=Bp p.aV hs.s
 have h2:=qP p.bf hs.a
 rw[ab]at h1
 rw[aO]at h2
 (repeat(first|((repeat(revert hN;revert N;apply Pn.out));refine wk @ao.eq_1 ?_;(repeat(refine Pn.mk ?_;intro N hN)))|((try apply Or.inl);refine⟨_,kb.x (h1) _,?_⟩;refine hN _ _ ?_;clear hN N)|((try apply Or.inl);refine⟨_,kb.x (h2) _,?_⟩;refine hN _ _ ?_;clear hN N)))
 exact y4 (.inl rfl) (vs:=[.agg (ao p)]) (by simp only[go_sem, ↓reduceIte,Nat.reduceEqDiff,Nat.reduceAdd,Nat.reduceSub,Nat.reduceLeDiff,reduceCtorEq,eX,gM,ao]) (by simp[eL,ao,aM,ae,ai,bD,ay])
theorem Hh (a b:fj):ak Tryz.prog 211 [.agg (bU a),.agg (bU b)] (.bool (decide (a=b))):=by
 refine ak.body eb rfl fun hl n0=>?_
 clear hl
 by_cases h1:a.aC=b.aC
 ·have e1:decide (a.aC=b.aC)=true:=decide_eq_true h1
  by_cases h2:a.eh=b.eh
  ·have e2:decide (a.eh=b.eh)=true:=decide_eq_true h2
   (try((repeat(revert hN;revert N;apply Pn.out));refine wk (tw @bU.eq_1 (tw @e1 @e2)) ?_;(repeat(refine Pn.mk ?_;intro N hN))))
   exact aQ (b:=true) (.inl rfl) (sd @Nat.zero_add) (decide_eq_true (by cases a;cases b;simp_all)).symm
  ·have e2:decide (a.eh=b.eh)=false:=decide_eq_false h2
   (try((repeat(revert hN;revert N;apply Pn.out));refine wk (tw @bU.eq_1 (tw @e1 @e2)) ?_;(repeat(refine Pn.mk ?_;intro N hN))))
   exact aQ (b:=false) (.inl rfl) (sd @Nat.zero_add) (decide_eq_false (by rintro rfl;exact h2 rfl)).symm
 ·have e1:decide (a.aC=b.aC)=false:=decide_eq_false h1
  (try((repeat(revert hN;revert N;apply Pn.out));refine wk (tw @bU.eq_1 @e1) ?_;(repeat(refine Pn.mk ?_;intro N hN))))
  exact aQ (b:=false) (.inl rfl) (sd @Nat.zero_add) (decide_eq_false (by rintro rfl;exact h1 rfl)).symm
theorem E9 (a b:aP):ak Tryz.prog 112 [.agg (aj a),.agg (aj b)] (.bool (decide (a=b))):=by
 refine ak.body eb rfl fun hl n0=>?_
 clear hl
 by_cases h1:a.fE=b.fE
 ·have e1:decide (a.fE=b.fE)=true:=decide_eq_true h1
  by_cases h2:a.e8=b.e8
  ·have e2:decide (a.e8=b.e8)=true:=decide_eq_true h2
   (try((repeat(revert hN;revert N;apply Pn.out));refine wk (tw @aj.eq_1 (tw @e1 @e2)) ?_;(repeat(refine Pn.mk ?_;intro N hN))))
   exact aQ (b:=true) (.inl rfl) (sd @Nat.zero_add) (decide_eq_true (by cases a;cases b;simp_all)).symm
  ·have e2:decide (a.e8=b.e8)=false:=decide_eq_false h2
   (try((repeat(revert hN;revert N;apply Pn.out));refine wk (tw @aj.eq_1 (tw @e1 @e2)) ?_;(repeat(refine Pn.mk ?_;intro N hN))))
   exact aQ (b:=false) (.inl rfl) (sd @Nat.zero_add) (decide_eq_false (by rintro rfl;exact h2 rfl)).symm
 ·have e1:decide (a.fE=b.fE)=false:=decide_eq_false h1
  (try((repeat(revert hN;revert N;apply Pn.out));refine wk (tw @aj.eq_1 @e1) ?_;(repeat(refine Pn.mk ?_;intro N hN))))
  exact aQ (b:=false) (.inl rfl) (sd @Nat.zero_add) (decide_eq_false (by rintro rfl;exact h1 rfl)).symm
theorem Cd (a b:ad):ak Tryz.prog 119 [.agg (aa a),.agg (aa b)] (.bool (decide (a=b))):=by
 refine ak.body eb rfl fun hl n0=>?_
 clear hl
 have h:=E9 a.aW b.aW
 rw[aj,aj]at h
 by_cases h1:a.aW=b.aW
 ·rw[decide_eq_true h1]at h
  by_cases h2:a.aZ=b.aZ
  ·have e2:decide (a.aZ=b.aZ)=true:=decide_eq_true h2
   (repeat(first|((repeat(revert hN;revert N;apply Pn.out));refine wk (tw @aa.eq_1 @e2) ?_;(repeat(refine Pn.mk ?_;intro N hN)))|((try apply Or.inl);refine⟨_,ak.x (h) (sd (tw @aa.eq_1 @e2)),?_⟩;refine hN _ _ ?_;clear hN N)))
   exact aQ (b:=true) (.inl rfl) (sd @Nat.zero_add) (decide_eq_true (by cases a;cases b;simp_all)).symm
  ·have e2:decide (a.aZ=b.aZ)=false:=decide_eq_false h2
   (repeat(first|((repeat(revert hN;revert N;apply Pn.out));refine wk (tw @aa.eq_1 @e2) ?_;(repeat(refine Pn.mk ?_;intro N hN)))|((try apply Or.inl);refine⟨_,ak.x (h) (sd (tw @aa.eq_1 @e2)),?_⟩;refine hN _ _ ?_;clear hN N)))
   exact aQ (b:=false) (.inl rfl) (sd @Nat.zero_add) (decide_eq_false (by rintro rfl;exact h2 rfl)).symm
 ·rw[decide_eq_false h1]at h
  (repeat(first|((repeat(revert hN;revert N;apply Pn.out));refine wk @aa.eq_1 ?_;(repeat(refine Pn.mk ?_;intro N hN)))|((try apply Or.inl);refine⟨_,ak.x (h) (sd @aa.eq_1),?_⟩;refine hN _ _ ?_;clear hN N)))
  exact aQ (b:=false) (.inl rfl) (sd @Nat.zero_add) (decide_eq_false (by rintro rfl;exact h1 rfl)).symm
theorem E8 (xs ys:List fj):ak Tryz.prog 136 [.sl (xs.map bU),.sl (ys.map bU)] (.bool (decide (xs=ys))):=
 Ce (show lx Tryz.prog 136=some (DW 136 211 2) by kernel_rfl) (fun _=>rfl) Ab xs ys Hh
theorem Fa (xs ys:List eI):ak Tryz.prog 137 [.sl (xs.map bI),.sl (ys.map bI)] (.bool (decide (xs=ys))):=
 Ce (show lx Tryz.prog 137=some (DW 137 212 2) by kernel_rfl) (fun _=>rfl) Ac xs ys Hj
theorem nI (xs ys:List ad):ak Tryz.prog 58 [.sl (xs.map aa),.sl (ys.map aa)] (.bool (decide (xs=ys))):=
 Ce (show lx Tryz.prog 58=some (DW 58 119 3) by kernel_rfl) (fun _=>rfl) Cq xs ys Cd
theorem Cf (a:aU):ak Tryz.prog 21 [.agg (ao a),.agg (ao a)] (.bool true):=by
 have q1:ak Tryz.prog 66 [.agg (ab a.aV),.agg (ab a.aV)] (.bool true):=by
  refine ak.body eb rfl fun hl n0=>?_
  clear hl
  have h1:=E8 a.aV.au a.aV.au
  have h2:=Fa a.aV.ah a.aV.ah
  rw[decide_eq_true rfl]at h1 h2
  (repeat(first|((repeat(revert hN;revert N;apply Pn.out));refine wk @ab.eq_1 ?_;(repeat(refine Pn.mk ?_;intro N hN)))|((try apply Or.inl);refine⟨_,ak.x (h1) (sd @ab.eq_1),?_⟩;refine hN _ _ ?_;clear hN N)|((try apply Or.inl);refine⟨_,ak.x (h2) (sd @ab.eq_1),?_⟩;refine hN _ _ ?_;clear hN N)))
  exact aQ (b:=true) (.inl rfl) (sd @Nat.zero_add) rfl
 have q2:ak Tryz.prog 22 [.agg (aO a.bf),.agg (aO a.bf)] (.bool true):=by
  refine ak.body eb rfl fun hl n0=>?_
  clear hl
  have h1:=nI a.bf.ah a.bf.ah
  rw[decide_eq_true rfl]at h1
  (repeat(first|((repeat(revert hN;revert N;apply Pn.out));refine wk @aO.eq_1 ?_;(repeat(refine Pn.mk ?_;intro N hN)))|((try apply Or.inl);refine⟨_,ak.x (h1) (sd @aO.eq_1),?_⟩;refine hN _ _ ?_;clear hN N)))
  exact aQ (b:=true) (.inl rfl) (sd @Nat.zero_add) rfl
 rw[ab]at q1
 rw[aO]at q2
 refine ak.body eb rfl fun hl n0=>?_
 clear hl
 have e:decide (a.aB=a.aB)=true:=decide_eq_true rfl
 (repeat(first|((repeat(revert hN;revert N;apply Pn.out));refine wk (tw @ao.eq_1 @e) ?_;(repeat(refine Pn.mk ?_;intro N hN)))|((try apply Or.inl);refine⟨_,ak.x (q1) (sd (tw @ao.eq_1 @e)),?_⟩;refine hN _ _ ?_;clear hN N)|((try apply Or.inl);refine⟨_,ak.x (q2) (sd (tw @ao.eq_1 @e)),?_⟩;refine hN _ _ ?_;clear hN N)))
 exact aQ (b:=true) (.inl rfl) (sd @Nat.zero_add) rfl
end Go.Proofs.YtgoljkjaameagaaGreat.V
