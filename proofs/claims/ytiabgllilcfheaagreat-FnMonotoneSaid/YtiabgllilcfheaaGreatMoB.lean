/- One operation, calls among them. -/
import Derived.Test.YtiabgllilcfheaaGreatMoA
import Derived.Orders
import Derived.Conc.LoneCalls
import Derived.Maps.RangeRun
import Derived.WalkKit
import Derived.WalkSpells
import Derived.WalkLawsBesides
import Derived.Lib.Hide
import Derived.Deep.QuietTactic
import Derived.BigQuiet
import Derived.StillTailTactics
import Derived.Deep.RegionWith
import Derived.Deep.RegionHeld3
import Derived.Deep.LoopGhost
import Derived.Deep.CutRange
import Derived.Deep.DeepCutAuto
import Derived.Test.YtiabgllilcfheaaGreatChecked
set_option linter.unusedVariables false
set_option linter.unusedSimpArgs false
set_option maxRecDepth 100000
set_option maxHeartbeats 16000000
namespace Go.Proofs.YtiabgllilcfheaaGreat.V
open Go.RowKit
variable {P:Program} {w w':World} {D D' D2:Nat->Prop} {ι ι' ι2:Names}
def Sound (P:Program):gT:=fun f args σ K=>∀(hs:Nat) (D:Nat->Prop) (ι:Names) (w:World) (vs:Array Value),ik P hs D ι σ.get w->Used ι σ.next (fun _=>False)->fK P w D ι args vs->
 Calls P f vs w fun e w'=>∃r g' n' D' ι' u,e=.returned u/\K r ⟨g',n'⟩/\Step hs D ι w D' ι' w'/\ik P hs D' ι' g' w'/\Used ι' n' (fun _=>False)/\σ.next<=n'/\dy P w' D' ι' r u
section
variable {g:Rows} {hs:Nat} {env:Env} {a:Act} {o:Oper} {id:Id} {v:AV}
theorem ik.ro (S:ik P hs D ι g w):ik P w.heap.size D ι (ro g) w:=by
 refine⟨Nat.le_refl _,S.dead,fun id r h=>?_,fun id lh r r' B B' h h' hw=>?_⟩
 ·unfold V.ro at h
  simp only[Option.map_eq_some_iff]at h
  obtain⟨r0,h0,rfl⟩:=h
  obtain⟨B,hB,R,_,_⟩:=S.row id r0 h0
  exact⟨B,hB,R.flag false,fun h=>by simp at h,fun h=>by simp at h⟩
 ·unfold V.ro at h
  simp only[Option.map_eq_some_iff]at h
  obtain⟨r0,h0,rfl⟩:=h
  simp at hw
theorem DL {g0:Rows} {f:Nat} {args:List AV} {n:Nat} {K:AV->Prop} {vs:Array Value} (h:PC (Sound P) f args ⟨g0,n⟩ K) (qI:∀id r,g0 id=some r->g id=some r) (S:ik P hs D ι g w) (U:Used ι n (fun _=>False)) (A:fK P w D ι args vs):
  Calls P f vs w fun e w'=>∃r D' u,e=.returned u/\K r/\Step hs D ι w D' ι w'/\ik P hs D' ι g w'/\dy P w' D' ι r u:=by
 refine(h w.heap.size D ι w vs (S.sub qI).ro U A).mono ?_
 rintro e w' ⟨r0,g',n',D1,ι1,u,rfl,⟨r,hr,hK⟩,T,S1,_,_,hR⟩
 have hb:∀b,b<w.heap.size->w'.heap[b]? =w.heap[b]? :=T.below.block
 have hz:=T.below.size
 have q:=uh (D2:=fun b=>D b∨(w.heap.size<=b/\b<w'.heap.size)) (ι2:=ι) (fun b hd=>by
  rcases T.new b hd with h|h
  ·exact .inl h
  ·exact .inr ⟨h,S1.dead b hd⟩) (fun id row hg hw=>by
  obtain⟨B,hB,R,h1,_⟩:=S1.row id row hg
  exact⟨B,hB,R,.inr ⟨h1 hw,R.lt⟩⟩) 6 r0 u r hR hr
 refine⟨r,_,u,rfl,hK,?_,?_,q.1⟩
 ·exact Step.stay S hb hz T.below.os T.below.tape T.below.output (fun _ h=>.inl h) (fun b h=>by rcases h with h|h;exact .inl h;exact .inr h.1) (fun _ _ h=>h)
 ·exact S.stay hb hz (fun _ h=>.inl h) (fun b h=>by rcases h with h|h;exact Nat.lt_of_lt_of_le (S.dead b h) hz;exact h.2) (fun b h=>by rcases h with h|h;exact .inl h;exact .inr h.1) (fun _ _ h=>h)
theorem AH {g0:Rows} {f:Nat} {args:List AV} {n:Nat} {K:AV->Prop} {vs:Array Value} (h:PCv (Sound P) f args ⟨g0,n⟩ K) (qI:∀id r,g0 id=some r->g id=some r) (S:ik P hs D ι g w) (U:Used ι n (fun _=>False)) (A:fK P w D ι args vs):
  Calls P f vs w fun e w'=>∃r D' u,e=.returned u/\K r/\Step hs D ι w D' ι w'/\ik P hs D' ι g w'/\dy P w' D' ι r u:=by
 obtain⟨args',ha,h⟩:=h
 let D1:Nat->Prop:=fun b=>D b∨∃id r B,g id=some r/\ι id=some B/\b=B.b
 have lt:∀id r B,g id=some r->ι id=some B->B.b<w.heap.size:=fun id r B h1 h2=>by
  obtain⟨B',eH,R,_⟩:=S.row id r h1
  rw[h2]at eH;injection eH with eH;subst eH
  exact R.lt
 have S0:ik P w.heap.size D1 ι (fun _=>none) w:=⟨Nat.le_refl _,fun b hb=>by
  rcases hb with hb|⟨id,r,B,h1,h2,rfl⟩
  ·exact S.dead b hb
  ·exact lt id r B h1 h2,fun id r h=>(by cases h),fun id lh r r' B B' h=>(by cases h)⟩
 obtain⟨l1,l2⟩:=iM ha
 have A':fK P w D1 ι args' vs:=⟨by rw[A.1,l1],fun j a hj=>by
  obtain⟨a0,mL,hf⟩:=l2 j a hj
  obtain⟨u,hu,hr⟩:=A.2 j a0 mL
  refine⟨u,hu,(uh (D2:=D1) (ι2:=ι) (fun b h=>.inl h) (fun id row hg hw=>?_) 6 a0 u a hr hf).1⟩
  unfold eL at hg
  simp only[Option.map_eq_some_iff]at hg
  obtain⟨r,qc,rfl⟩:=hg
  obtain⟨B,hB,R,_,_⟩:=S.row id r (qI id r qc)
  exact⟨B,hB,R.flag true,.inr ⟨id,r,B,qI id r qc,hB,rfl⟩⟩⟩
 refine(h w.heap.size D1 ι w vs S0 U A').mono ?_
 rintro e w' ⟨r0,g',n',D2,ι1,u,rfl,⟨r,hr,hK⟩,T,S1,_,_,hR⟩
 have hb:∀b,b<w.heap.size->w'.heap[b]? =w.heap[b]? :=T.below.block
 have hz:=T.below.size
 have q:=JA (D2:=fun b=>D b∨(w.heap.size<=b/\b<w'.heap.size)) (ι2:=ι) (fun id row hg hw=>by
  obtain⟨B,hB,R,h1,_⟩:=S1.row id row hg
  exact⟨B,hB,R,.inr ⟨h1 hw,R.lt⟩⟩) 6 r0 u r hR hr
 refine⟨r,_,u,rfl,hK,?_,?_,q.1⟩
 ·exact Step.stay S hb hz T.below.os T.below.tape T.below.output (fun _ h=>.inl h) (fun b h=>by rcases h with h|h;exact .inl h;exact .inr h.1) (fun _ _ h=>h)
 ·exact S.stay hb hz (fun _ h=>.inl h) (fun b h=>by rcases h with h|h;exact Nat.lt_of_lt_of_le (S.dead b h) hz;exact h.2) (fun b h=>by rcases h with h|h;exact .inl h;exact .inr h.1) (fun _ _ h=>h)
theorem Je {g0:Rows} {f:Nat} {args:List AV} {n:Nat} {K:AV->Prop} {vs:Array Value} (h:gi (Sound P) f args ⟨g0,n⟩ K) (qI:∀id r,g0 id=some r->g id=some r) (S:ik P hs D ι g w) (U:Used ι n (fun _=>False)) (A:fK P w D ι args vs):
  Calls P f vs w fun e w'=>∃r D' u,e=.returned u/\K r/\Step hs D ι w D' ι w'/\ik P hs D' ι g w'/\dy P w' D' ι r u:=by
 rcases h with h|h
 ·exact DL h qI S U A
 ·exact AH h qI S U A
theorem Kt {D1 D2:Nat->Prop} {ι1 ι2:Names} {w1:World} {a:AV} {v:Value} (hp:a.plain=true) (h:dy P w D1 ι1 a v):dy P w1 D2 ι2 a v:=by
 cases h with
 |fF a v h=>cases h<;>first|(simp[AV.plain]at hp;done)|exact .fF _ _ (by constructor)
 |_=>simp[AV.plain]at hp
theorem ik.add {r:Row} {B:tM} (S:ik P hs D ι g w) (S':ik P hs D ι g w') (hf:ι id=none) (kH:w.heap.size<=B.b) (R:iJ P w' D (kD ι id B) B r):ik P hs D (kD ι id B) (bL g id r) w':=by
 have lt:∀lh r' B',g lh=some r'->ι lh=some B'->B'.b<w.heap.size:=fun lh r' B' h1 h2=>by
  obtain⟨B2,lg,R2,_⟩:=S.row lh r' h1
  rw[h2]at lg;injection lg with lg;subst lg
  exact R2.lt
 have ne:∀lh r',g lh=some r'->lh≠id:=fun lh r' h he=>by
  subst he
  obtain⟨B2,lg,_⟩:=S.row _ r' h
  rw[hf]at lg;cases lg
 refine⟨S'.lo,S'.dead,fun lh r' h=>?_,fun XJ id2 r1 r2 B1 B2 h1 h2 hw Dr lg hb=>?_⟩
 ·unfold bL at h
  split at h
  ·rename_i he
   subst he
   injection h with h;subst h
   exact⟨B,eU _ _ _,R,fun _=>Nat.le_trans S.lo kH,fun _ hd=>Nat.lt_irrefl _ (Nat.lt_of_lt_of_le (S.dead _ hd) kH)⟩
  ·obtain⟨B',eH,R',k1,k2⟩:=S'.row lh r' h
   exact⟨B',by rw[iC (ne _ _ h)];exact eH,R'.frame rfl (fun a v hr=>hr.frame (fun _ _=>rfl) (fun _ h=>h) (fG hf)),k1,k2⟩
 ·unfold bL at h1 h2
  split at h1
  ·rename_i e1
   split at h2
   ·rename_i e2;rw[e1,e2]
   ·exfalso
    subst e1
    rw[eU]at Dr;injection Dr with Dr;subst Dr
    rw[iC (ne _ _ h2)]at lg
    have:=lt _ _ _ h2 lg
    omega
  ·rw[iC (ne _ _ h1)]at Dr
   split at h2
   ·rename_i e2
    exfalso
    subst e2
    rw[eU]at lg;injection lg with lg;subst lg
    have:=lt _ _ _ h1 Dr
    omega
   ·rw[iC (ne _ _ h2)]at lg
    exact S'.inj XJ id2 r1 r2 B1 B2 h1 h2 hw Dr lg hb
theorem Lf {g0:Rows} {f:Nat} {args:List AV} {n sz:Nat} {rows:List (List AV)} {vs:Array Value} (h:CM (Sound P) f args ⟨g0,n⟩ sz rows) (qI:∀id r,g0 id=some r->g id=some r) (S:ik P hs D ι g w) (U:Used ι n (fun _=>False)) (A:fK P w D ι args vs) (hf:ι id=none):
  Calls P f vs w fun e w'=>∃u B,e=.returned u/\Step hs D ι w D (kD ι id B) w'/\ik P hs D (kD ι id B) (bL g id ⟨true,sz,rows⟩) w'/\dy P w' D (kD ι id B) (.own id 0 rows.length) u:=by
 obtain⟨nK,args',ha,h⟩:=h
 let D1:Nat->Prop:=fun b=>D b∨∃id r B,g id=some r/\ι id=some B/\b=B.b
 have lt:∀id r B,g id=some r->ι id=some B->B.b<w.heap.size:=fun id r B h1 h2=>by
  obtain⟨B',eH,R,_⟩:=S.row id r h1
  rw[h2]at eH;injection eH with eH;subst eH
  exact R.lt
 have S0:ik P w.heap.size D1 ι (fun _=>none) w:=⟨Nat.le_refl _,fun b hb=>by
  rcases hb with hb|⟨id,r,B,h1,h2,rfl⟩
  ·exact S.dead b hb
  ·exact lt id r B h1 h2,fun id r h=>(by cases h),fun id lh r r' B B' h=>(by cases h)⟩
 obtain⟨l1,l2⟩:=iM ha
 have A':fK P w D1 ι args' vs:=⟨by rw[A.1,l1],fun j a hj=>by
  obtain⟨a0,mL,hz⟩:=l2 j a hj
  obtain⟨u,hu,hr⟩:=A.2 j a0 mL
  refine⟨u,hu,(uh (D2:=D1) (ι2:=ι) (fun b h=>.inl h) (fun id row hg hw=>?_) 6 a0 u a hr hz).1⟩
  unfold eL at hg
  simp only[Option.map_eq_some_iff]at hg
  obtain⟨r,qc,rfl⟩:=hg
  obtain⟨B,hB,R,_,_⟩:=S.row id r (qI id r qc)
  exact⟨B,hB,R.flag true,.inr ⟨id,r,B,qI id r qc,hB,rfl⟩⟩⟩
 refine(h w.heap.size D1 ι w vs S0 U A').mono ?_
 rintro e w' ⟨r0,g',n',D2,ι1,u,rfl,⟨i0,hr,hg⟩,T,S1,_,_,hR⟩
 subst hr
 have hb:∀b,b<w.heap.size->w'.heap[b]? =w.heap[b]? :=T.below.block
 have hz:=T.below.size
 obtain⟨B,hB,R,k1,_⟩:=S1.row i0 _ hg
 have kH:w.heap.size<=B.b:=k1 rfl
 obtain⟨o,cap,B',rfl,eH,q2,q3,q4,q5,hk⟩:=jj hR
 rw[hB]at eH;injection eH with eH;subst eH
 replace R:=R.row hk
 have S':ik P hs D ι g w':=S.stay hb hz (fun _ h=>h) (fun b h=>Nat.lt_of_lt_of_le (S.dead b h) hz) (fun b h=>.inl h) (fun _ _ h=>h)
 have R':lQ P w' D (kD ι id B) B ⟨true,sz,rows⟩:=⟨R.sz,R.xR,R.fits,R.len,R.flat,fun i j cs a hi hj=>by
  obtain⟨v,h1,h2⟩:=R.at_ i j cs a hi hj
  exact⟨v,h1,Kt (nK cs (List.mem_of_getElem? hi) a (List.mem_of_getElem? hj)) h2⟩⟩
 exact⟨_,B,rfl,Step.stay S hb hz T.below.os T.below.tape T.below.output (fun _ h=>h) (fun _ h=>.inl h) (fG hf),S.add S' hf kH (R'.obj hk),.own id 0 _ _ _ B (eU _ _ _) hk q2 q3 q4 q5⟩
theorem kn {f:Nat} {args:Array Value} (hc:ib P f=true):(callFunc f args).run P w=.ok (.enter f args) w:=by
 unfold ib at hc
 split at hc
 ·rename_i fn hf
  simp only[Bool.and_eq_true,Bool.not_eq_true']at hc
  have hb:fn.body.isNone=false:=by cases hq:fn.body<;>simp_all
  simp only[callFunc,Sem.run_bind,run_program,Result.andThen_ok,hf,hc.2,Bool.false_eq_true,if_false,hb]
  rfl
 ·simp at hc
theorem EV {f:Nat} {args:List O} (hc:tK P o.op=some (.call f args)):∃c,o.op=.call c/\c.callee=.value (.func f)/\ib P f=true/\c.args.toList.mapM (cO P)=some args:=by
 unfold tK at hc
 split at hc
 case h_23=>
  rename_i c ho
  refine⟨c,ho,?_⟩
  unfold pz at hc
  split at hc
  all_goals (try(repeat' (split at hc))<;>(simp only[Option.bind_eq_bind,Option.bind_eq_some_iff,Option.pure_def,Option.some.injEq,Option.map_eq_some_iff,reduceCtorEq,and_false,exists_false]at hc))
  all_goals simp_all
 all_goals (try unfold yy at hc)<;>(try unfold vM at hc)<;>(repeat' (split at hc))<;>(simp only[Option.bind_eq_bind,Option.bind_eq_some_iff,Option.pure_def,Option.some.injEq,Option.map_eq_some_iff,reduceCtorEq,and_false,exists_false]at hc)
theorem wj {x:O} {args:List O} (hc:tK P o.op=some (.wP x args)):∃c t,o.op=.call c/\c.callee=.value (.tmp t)/\x=.t t/\c.args.toList.mapM (cO P)=some args:=by
 unfold tK at hc
 split at hc
 case h_23=>
  rename_i c ho
  refine⟨c,?_⟩
  unfold pz at hc
  split at hc
  all_goals (try(repeat' (split at hc))<;>(simp only[Option.bind_eq_bind,Option.bind_eq_some_iff,Option.pure_def,Option.some.injEq,Option.map_eq_some_iff,reduceCtorEq,and_false,exists_false]at hc))
  all_goals simp_all
 all_goals (try unfold yy at hc)<;>(try unfold vM at hc)<;>(repeat' (split at hc))<;>(simp only[Option.bind_eq_bind,Option.bind_eq_some_iff,Option.pure_def,Option.some.injEq,Option.map_eq_some_iff,reduceCtorEq,and_false,exists_false]at hc)
theorem J2 {n:Nat} {x y:O} (hc:tK P o.op=some (.store n x y)):∃t x' y',o.op=.store t x' y'/\fe P t=some n/\cO P x'=some x/\cO P y'=some y:=by
 unfold tK at hc
 split at hc
 case h_7=>
  rename_i t x' y' ho
  refine⟨t,x',y',ho,?_⟩
  simp only[Option.bind_eq_bind,Option.bind_eq_some_iff,Option.pure_def,Option.some.injEq]at hc
  obtain⟨n',h1,x2,h2,y2,h3,he⟩:=hc
  injection he with e1 e2 e3
  subst e1;subst e2;subst e3
  exact⟨h1,h2,h3⟩
 all_goals (try unfold yy at hc)<;>(try unfold vM at hc)<;>(try unfold pz at hc)<;>(repeat' (split at hc))<;>(simp only[Option.bind_eq_bind,Option.bind_eq_some_iff,Option.pure_def,Option.some.injEq,Option.map_eq_some_iff,reduceCtorEq,and_false,exists_false]at hc)
theorem Hc {n:Nat} {x y:O} (hc:tK P o.op=some (.append n x y)):∃(t e:TypeId) (m:Nat) (z:List K) (i:TypeInfo) (x' y':Operand),n=m+1/\o.op=.call {callee:=.builtin .append,args:= #[x',y'],argTypes:= #[t,t]}/\
  P.underlying t=some (.slice e)/\fe P e=some (m+1)/\kF P e=some z/\P.info? e=some i/\i.bytes<=32768/\cO P x'=some x/\cO P y'=some y:=by
 unfold tK at hc
 split at hc
 case h_23=>
  rename_i c ho
  unfold pz at hc
  split at hc
  case h_2=>
   rename_i lT
   split at hc
   ·rename_i x' y' t u h1 h2
    split at hc
    ·rename_i e ht
     split at hc
     ·rename_i m z i e1 e2 e3
      split at hc
      ·rename_i hb
       simp only[Option.bind_eq_bind,Option.bind_eq_some_iff,Option.pure_def,Option.some.injEq]at hc
       obtain⟨x2,h3,y2,h4,he⟩:=hc
       injection he with k1 k2 k3
       subst k1;subst k2;subst k3
       obtain⟨KZ,rfl⟩:=hb
       refine⟨t,e,m,z,i,x',y',rfl,?_,ht,e1,e2,e3,KZ,h3,h4⟩
       rw[ho]
       obtain⟨ca,cb,cc⟩:=c
       simp only at h1 h2 lT
       subst lT
       congr
       ·exact Array.ext' h1
       ·exact Array.ext' h2
      ·simp at hc
     ·simp at hc
    ·simp at hc
   ·simp at hc
  all_goals (repeat' (split at hc))<;>(simp only[Option.bind_eq_bind,Option.bind_eq_some_iff,Option.pure_def,Option.some.injEq,Option.map_eq_some_iff,reduceCtorEq,and_false,exists_false]at hc)
 all_goals (try unfold yy at hc)<;>(try unfold vM at hc)<;>(repeat' (split at hc))<;>(simp only[Option.bind_eq_bind,Option.bind_eq_some_iff,Option.pure_def,Option.some.injEq,Option.map_eq_some_iff,reduceCtorEq,and_false,exists_false]at hc)
theorem Mt {n:Nat} {x y:O} (hc:tK P o.op=some (.copy n x y)):∃(t t2 e:TypeId) (m:Nat) (x' y':Operand),n=m+1/\o.op=.call {callee:=.builtin .copy,args:= #[x',y'],argTypes:= #[t,t2]}/\
  P.underlying t=some (.slice e)/\fe P e=some (m+1)/\cO P x'=some x/\cO P y'=some y:=by
 unfold tK at hc
 split at hc
 case h_23=>
  rename_i c ho
  unfold pz at hc
  split at hc
  case h_7=>
   rename_i lT
   split at hc
   ·rename_i x' y' t t2 h1 h2
    split at hc
    ·rename_i e ht
     split at hc
     ·rename_i m e1
      simp only[Option.bind_eq_bind,Option.bind_eq_some_iff,Option.pure_def,Option.some.injEq,iI.copy.injEq]at hc
      obtain⟨x2,h3,y2,h4,k0,k1,k2⟩:=hc
      subst k1;subst k2
      refine⟨t,t2,e,m,x',y',k0.symm,?_,ht,e1,h3,h4⟩
      rw[ho]
      obtain⟨ca,cb,cc⟩:=c
      simp only at h1 h2 lT
      subst lT
      congr
      ·exact Array.ext' h1
      ·exact Array.ext' h2
     ·simp at hc
    ·simp at hc
   ·simp at hc
  all_goals (repeat' (split at hc))<;>(simp only[Option.bind_eq_bind,Option.bind_eq_some_iff,Option.pure_def,Option.some.injEq,Option.map_eq_some_iff,reduceCtorEq,and_false,exists_false]at hc)
 all_goals (try unfold yy at hc)<;>(try unfold vM at hc)<;>(repeat' (split at hc))<;>(simp only[Option.bind_eq_bind,Option.bind_eq_some_iff,Option.pure_def,Option.some.injEq,Option.map_eq_some_iff,reduceCtorEq,and_false,exists_false]at hc)
theorem J1 {z:List K} {x:O} (hc:tK P o.op=some (.clear z x)):∃(t e:TypeId) (m:Nat) (x':Operand),o.op=.call {callee:=.builtin .clear,args:= #[x'],argTypes:= #[t]}/\
  P.underlying t=some (.slice e)/\fe P e=some (m+1)/\kF P e=some z/\cO P x'=some x:=by
 unfold tK at hc
 split at hc
 case h_23=>
  rename_i c ho
  unfold pz at hc
  split at hc
  case h_3=>
   rename_i lT
   split at hc
   ·rename_i x' t h1 h2
    split at hc
    ·rename_i e ht
     split at hc
     ·rename_i m z' e1 e2
      simp only[Option.map_eq_some_iff]at hc
      obtain⟨x2,h3,he⟩:=hc
      injection he with k1 k2
      subst k1;subst k2
      refine⟨t,e,m,x',?_,ht,e1,e2,h3⟩
      rw[ho]
      obtain⟨ca,cb,cc⟩:=c
      simp only at h1 h2 lT
      subst lT
      congr
      ·exact Array.ext' h1
      ·exact Array.ext' h2
     ·simp at hc
    ·simp at hc
   ·simp at hc
  all_goals (repeat' (split at hc))<;>(simp only[Option.bind_eq_bind,Option.bind_eq_some_iff,Option.pure_def,Option.some.injEq,Option.map_eq_some_iff,reduceCtorEq,and_false,exists_false]at hc)
 all_goals (try unfold yy at hc)<;>(try unfold vM at hc)<;>(repeat' (split at hc))<;>(simp only[Option.bind_eq_bind,Option.bind_eq_some_iff,Option.pure_def,Option.some.injEq,Option.map_eq_some_iff,reduceCtorEq,and_false,exists_false]at hc)
theorem Ts {q:MW} {xs:List O} (hc:tK P o.op=some (.mw q xs)):
  (∃t x k y m z x' k' y',(o.op=.mapUpdate t x k y∨o.op=.insert t x k y)/\vN P t=some (m,z)/\cO P x=some x'/\cO P k=some k'/\cO P y=some y'/\q=.set m/\xs=[x',k',y'])∨
  (∃t t' x k m z x' k',o.op=.call {callee:=.builtin .delete,args:= #[x,k],argTypes:= #[t,t']}/\vN P t=some (m,z)/\cO P x=some x'/\cO P k=some k'/\q=.del m/\xs=[x',k']):=by
 unfold tK at hc
 split at hc
 case h_23=>
  rename_i c ho
  right
  unfold pz at hc
  split at hc
  case h_6=>
   rename_i lT
   split at hc
   ·rename_i x k t t' h1 h2
    split at hc
    ·rename_i m z x' k' e1 e2 e3
     injection hc with hc
     injection hc with q1 q2
     refine⟨t,t',x,k,m,z,x',k',?_,e1,e2,e3,q1.symm,q2.symm⟩
     rw[ho]
     obtain⟨ca,cb,cc⟩:=c
     simp only at h1 h2 lT
     subst lT
     congr
     ·exact Array.ext' h1
     ·exact Array.ext' h2
    ·cases hc
   ·cases hc
  all_goals (repeat' (split at hc))<;>(simp only[Option.bind_eq_bind,Option.bind_eq_some_iff,Option.pure_def,Option.some.injEq,Option.map_eq_some_iff,reduceCtorEq,and_false,exists_false]at hc)
 case h_29=>
  rename_i t x k y ho
  left
  split at hc
  ·rename_i m z x' k' y' e1 e2 e3 e4
   injection hc with hc
   injection hc with q1 q2
   exact⟨t,x,k,y,m,z,x',k',y',.inl ho,e1,e2,e3,e4,q1.symm,q2.symm⟩
  ·cases hc
 case h_30=>
  rename_i t x k y ho
  left
  split at hc
  ·rename_i m z x' k' y' e1 e2 e3 e4
   injection hc with hc
   injection hc with q1 q2
   exact⟨t,x,k,y,m,z,x',k',y',.inr ho,e1,e2,e3,e4,q1.symm,q2.symm⟩
  ·cases hc
 all_goals (try unfold yy at hc)<;>(try unfold vM at hc)<;>(repeat' (split at hc))<;>(simp only[Option.bind_eq_bind,Option.bind_eq_some_iff,Option.pure_def,Option.some.injEq,Option.map_eq_some_iff,reduceCtorEq,and_false,exists_false]at hc)
def j6 (g:Rows) (id:Id):Option Row->Rows
 |some r=>bL g id r
 |none=>g
def yC (X:gT) (hid:List Nat) (site n:Nat) (f:Nat) (args:List AV) (g:Rows) (v:AV) (g':Rows):Prop:=
 (gi X f args ⟨fW hid n g,n+1⟩ (fun r=>r=v)/\g'=g)∨
 (hid.contains site=true/\∃sz rows,CM X f args ⟨fW hid n g,n+1⟩ sz rows/\v=.own ⟨site,n⟩ 0 rows.length/\g'=bL g ⟨site,n⟩ ⟨true,sz,rows⟩)
def VS (X:gT) (n:Nat) (vo:aZ) (env:Env) (g:Rows) (v:AV) (g':Rows):Prop:=
 match vo.op with
 | .call f args=>yC X vo.hid vo.site n f (args.map (du env)) g v g'
 | .wP x args=>∃f l,yz (du env x) (args.map (du env))=some (f,l)/\yC X vo.hid vo.site n f l g v g'
 | .store .. | .append .. | .copy .. | .clear .. | .mw .. =>fX vo.op (du env) g ⟨vo.site,n⟩=some (v,g')
 |_=>∃mr,fa vo.op (du env) (fW vo.hid n g) ⟨vo.site,n⟩=some (v,mr)/\g'=j6 g ⟨vo.site,n⟩ mr
def QU (P:Program) (hs:Nat) (D:Nat->Prop) (ι:Names) (w:World) (U:Nat->Prop) (site n:Nat) (a:Act) (dst:Option Tmp) (v:AV) (g':Rows) (a':Act) (w':World):Prop:=
 ∃u D' ι',a'=a.put dst u/\Step hs D ι w D' ι' w'/\ik P hs D' ι' g' w'/\dy P w' D' ι' v u/\Used ι' n (fun s=>U s∨s=site)
theorem fresh {n:Nat} {U:Nat->Prop} {s:Nat} (h:Used ι n U) (hU:¬U s):ι ⟨s,n⟩=none:=by
 cases hq:ι ⟨s,n⟩with
 |none=>rfl
 |some B=>
  rcases h ⟨s,n⟩ (by rw[hq];simp)with h|⟨_,h⟩
  ·exact absurd h (Nat.lt_irrefl _)
  ·exact absurd h hU
theorem Used.more {n:Nat} {U U':Nat->Prop} (h:Used ι n U) (hU:∀s,U s->U' s):Used ι n U':=fun id hid=>by
 rcases h id hid with h|⟨h1,h2⟩
 ·exact .inl h
 ·exact .inr ⟨h1,hU _ h2⟩
theorem Used.next {n:Nat} {U:Nat->Prop} (h:Used ι n U):Used ι (n+1) (fun _=>False):=fun id hid=>by
 rcases h id hid with h|⟨h1,_⟩
 ·exact .inl (Nat.lt_succ_of_lt h)
 ·exact .inl ah
theorem Used.upd {n:Nat} {U:Nat->Prop} {s:Nat} {B:tM} (h:Used ι n U):Used (kD ι ⟨s,n⟩ B) n (fun x=>U x∨x=s):=fun id hid=>by
 by_cases he:id=⟨s,n⟩
 ·subst he;exact .inr ⟨rfl,.inr rfl⟩
 ·rw[iC he]at hid
  exact(h.more (U':=fun x=>U x∨x=s) fun _ h=>Or.inl h) id hid
theorem qp {xs:Array Operand} {ys:List O} (E:dn P w D ι env a) (h:xs.toList.mapM (cO P)=some ys):fK P w D ι (ys.map (du env)) (xs.map a.eval):=by
 obtain⟨h1,h2⟩:=Ht E h
 refine⟨by simpa using h1,fun j b hj=>?_⟩
 simp only[List.getElem?_map,Option.map_eq_some_iff]at hj
 obtain⟨y,hy,rfl⟩:=hj
 have eW:j<xs.size:=by have:=(List.getElem?_eq_some_iff.1 hy).1;simp at h1;omega
 refine⟨a.eval xs[j],by simp[eW],?_⟩
 have:=h2 j y hy
 simpa[List.getD_eq_getElem?_getD,eW]using this
theorem qT {xs ys:List AV} {vs us:Array Value} (h:fK P w D ι xs vs) (k:fK P w D ι ys us):fK P w D ι (xs++ys) (vs++us):=
 ⟨by simp[h.1,k.1],fun j b hj=>by
  by_cases eW:j<xs.length
  ·rw[List.getElem?_append_left eW]at hj
   obtain⟨u,hu,Aq⟩:=h.2 j b hj
   exact⟨u,by rw[Array.getElem?_append_left (by rw[h.1];exact eW)];exact hu,Aq⟩
  ·rw[List.getElem?_append_right ah]at hj
   obtain⟨u,hu,Aq⟩:=k.2 _ b hj
   exact⟨u,by rw[Array.getElem?_append_right (by rw[h.1];omega),h.1];exact hu,Aq⟩⟩
theorem zC:fK P w D ι [] #[]:=⟨rfl,fun j b hj=>by simp at hj⟩
theorem yD {x:AV} {l l':List AV} {f:Nat} {vs:Array Value} {v:Value} (h:yz x l=some (f,l')) (hr:dy P w D ι x v) (hA:fK P w D ι l vs):
  ∃first dJ,v=.func (.func f) first dJ/\ib P f=true/\fK P w D ι l' (first++vs++dJ):=by
 unfold yz at h
 split at h
 ·simp only[Option.some.injEq,Prod.mk.injEq]at h
  obtain⟨rfl,rfl⟩:=h
  obtain⟨us,q,he,It,n1,q1,q2⟩:=zE hr
  refine⟨#[],us,he,It,?_⟩
  rw[Array.empty_append]
  exact qT hA ⟨n1,fun j b hj=>⟨q j,q1 j (List.getElem?_eq_some_iff.1 hj).1,q2 j b hj⟩⟩
 ·simp only[Option.some.injEq,Prod.mk.injEq]at h
  obtain⟨rfl,rfl⟩:=h
  obtain⟨us,q,he,It,n1,q1,q2⟩:=Qm hr
  refine⟨us, #[],he,It,?_⟩
  rw[Array.append_empty]
  exact qT ⟨n1,fun j b hj=>⟨q j,q1 j (List.getElem?_eq_some_iff.1 hj).1,q2 j b hj⟩⟩ hA
 ·cases h
theorem DO {n:Nat} {vo:aZ} {g':Rows} {U:Nat->Prop} {Q:Exit->Act->World->Prop} {K:Act->World->Prop} (hc:tK P o.op=some vo.op) (hv:VS (Sound P) n vo env g v g') (S:ik P hs D ι g w) (Us:Used ι n U) (hU:¬U vo.site) (E:dn P w D ι env a)
  (hK:∀a' w',QU P hs D ι w U vo.site n a o.dst v g' a' w'->K a' w'):o.wp P a w K Q:=by
 have hf:=fresh Us hU
 have DZ:∀(f:Nat) (args:List AV) (vs:Array Value),yC (Sound P) vo.hid vo.site n f args g v g'->fK P w D ι args vs->(execOp a.eval o).run P w=.ok (.enter f vs) w->o.wp P a w K Q:=by
  intro f args vs hP hA gm
  unfold Oper.wp
  rw[gm]
  rcases hP with⟨hP,rfl⟩|⟨_,sz,rows,hM,rfl,rfl⟩
  ·refine(Je hP De S Us.next hA).mono ?_
   rintro e w' ⟨r,D',u,rfl,rfl,T,S',hR⟩
   exact hK _ _ ⟨u,D',ι,rfl,T,S',hR,Us.more fun _ h=>.inl h⟩
  ·refine(Lf hM De S Us.next hA hf).mono ?_
   rintro e w' ⟨u,B,rfl,T,S',hR⟩
   exact hK _ _ ⟨u,D,_,rfl,T,S',hR,Us.upd⟩
 have quiet:∀(mr:Option Row),fa vo.op (du env) (fW vo.hid n g) ⟨vo.site,n⟩=some (v,mr)->g'=j6 g ⟨vo.site,n⟩ mr->o.wp P a w K Q:=by
  intro mr hq hg
  have Y6:=BN hc hq (S.sub De) E
  unfold Oper.wp
  cases mr with
  |none=>
   obtain⟨u,gm,hR⟩:=Y6
   rw[gm]
   subst hg
   exact hK _ _ ⟨u,D,ι,rfl,Step.refl _ _ _ _,S,hR,Us.more fun _ h=>.inl h⟩
  |some r=>
   rcases Y6 with⟨u,cells,T,gm,h1,h2,h3,h4,h5,h6⟩|⟨m,gm,PF,F6⟩|⟨c,gm,PF,F6⟩
   case inr.inr=>
    rw[gm]
    subst hg PF F6
    have eQ:w.heap.size<(w.alloc (.chan c #[] false 0 0 false)).heap.size:=by simp
    have S':=S.stay (w':=w.alloc (.chan c #[] false 0 0 false)) (D':=D) (ι':=ι) (fun k hk=>Below.heap_alloc _ _ _ hk) (by simp) (fun _ h=>h) (fun b hd=>Nat.lt_trans (S.dead b hd) eQ) (fun _ h=>.inl h) (fun _ _ h=>h)
    have S1:=S.add S' (id:=⟨vo.site,n⟩) (B:=⟨w.heap.size,s5+c,0,some (.chan c)⟩) (r:=⟨true,s5+c,[]⟩) hf (Nat.le_refl _) ⟨rfl,fun cs h=>by simp at h,fun h=>by simp at h,fun m' h=>(by simp at h),fun c' h=>by
     simp only[Option.some.injEq,BK.chan.injEq]at h;subst h
     exact⟨rfl, #[],0,0,(show(w.heap.push (Obj.chan c #[] false 0 0 false))[w.heap.size]? =some (Obj.chan c #[] false 0 0 false) by simp),rfl,fun i cs h=>by simp at h⟩⟩
    exact hK _ _ ⟨_,D,_,rfl,Step.stay S (fun k hk=>Below.heap_alloc _ _ _ hk) (by simp) rfl rfl rfl (fun _ h=>h) (fun _ h=>.inl h) (fG hf),S1,.tZ _ _ _ (eU _ _ _) rfl,Us.upd⟩
   case inr.inl=>
    rw[gm]
    subst hg PF F6
    have eQ:w.heap.size<(w.alloc (.map #[] 0)).heap.size:=by simp
    have S':=S.stay (w':=w.alloc (.map #[] 0)) (D':=D) (ι':=ι) (fun k hk=>Below.heap_alloc _ _ _ hk) (by simp) (fun _ h=>h) (fun b hd=>Nat.lt_trans (S.dead b hd) eQ) (fun _ h=>.inl h) (fun _ _ h=>h)
    have S1:=S.add S' (id:=⟨vo.site,n⟩) (B:=⟨w.heap.size,m.mY,0,some (.map m)⟩) (r:=⟨true,m.mY,[]⟩) hf (Nat.le_refl _) ⟨rfl,fun cs h=>by simp at h,fun h=>by simp at h,fun m' h=>by
     simp only[Option.some.injEq,BK.map.injEq]at h;subst h
     exact⟨rfl, #[],0,(show(w.heap.push (Obj.map #[] 0))[w.heap.size]? =some (Obj.map #[] 0) by simp),rfl,⟨fun cs h=>by simp at h,fun x h=>by simp at h,by simp⟩,fun i cs h=>by simp at h⟩,fun c h=>by simp at h⟩
    exact hK _ _ ⟨_,D,_,rfl,Step.stay S (fun k hk=>Below.heap_alloc _ _ _ hk) (by simp) rfl rfl rfl (fun _ h=>h) (fun _ h=>.inl h) (fG hf),S1,.map _ _ _ (eU _ _ _) rfl,Us.upd⟩
   rw[gm]
   subst hg
   have S1:=S.alloc (id:=⟨vo.site,n⟩) (w':=w.alloc (.cells cells T)) rfl hf h1 h2 h3 h4 h5
   refine hK _ _ ⟨u,D,_,rfl,Step.stay S (fun k hk=>Below.heap_alloc _ _ _ hk) (by simp) rfl rfl rfl (fun _ h=>h) (fun _ h=>.inl h) (fG hf),S1,(h6 (kD ι _ _) (eU _ _ _)).frame (fun b hd=>Below.heap_alloc _ _ _ (S.dead b hd)) (fun _ h=>h) (fun _ _ h=>h),Us.upd⟩
 have Vt:fX vo.op (du env) g ⟨vo.site,n⟩=some (v,g')->(∀OH,Gd P hs a o OH D ι ⟨vo.site,n⟩ v g'->OH=w->o.wp P a w K Q):=by
  intro _ OH hE he
  subst he
  obtain⟨u,w',ι',gm,T,S',hR,hι⟩:=hE
  have L1:QU P hs D ι OH U vo.site n a o.dst v g' (a.put o.dst u) w':=⟨u,D,ι',rfl,T,S',hR,fun id hid=>by
   by_cases he:id=⟨vo.site,n⟩
   ·subst he;exact .inr ⟨rfl,.inr rfl⟩
   ·rw[hι id he]at hid
    exact(Us.more (U':=fun x=>U x∨x=vo.site) fun _ h=>Or.inl h) id hid⟩
  unfold Oper.wp
  rcases gm with gm|⟨gm,rfl⟩
  ·rw[gm];exact hK _ _ L1
  ·rw[gm];exact hK _ _ L1
 unfold VS at hv
 split at hv
 ·rename_i f args eS
  rw[eS]at hc
  obtain⟨c,ho,lT,It,pH⟩:=EV hc
  refine DZ f _ (c.args.map a.eval) hv (qp E pH) ?_
  simp only[execOp,ho,resolve,lT,Deferred.ofValue,Act.eval,Sem.run_bind,Sem.run_pure,Result.andThen_ok,invoke,Array.empty_append,Array.append_empty]
  exact kn It
 ·rename_i x args eS
  obtain⟨f,l,hx,hP⟩:=hv
  rw[eS]at hc
  obtain⟨c,t,ho,lT,rfl,pH⟩:=wj hc
  obtain⟨first,dJ,he,It,hL⟩:=yD (v:=a.eval (.tmp t)) hx (E t) (qp E pH)
  refine DZ f _ (first++c.args.map a.eval++dJ) hP hL ?_
  simp only[execOp,ho,resolve,lT,he,Deferred.ofValue,Sem.run_bind,Sem.run_pure,Result.andThen_ok,invoke]
  exact kn It
 ·rename_i m x y eS
  have lN:=hc
  rw[eS]at lN
  obtain⟨t,x',y',ho,h1,h2,h3⟩:=J2 lN
  have pW:=hv
  rw[eS]at pW
  simp only[fX,Option.map_eq_some_iff,Prod.mk.injEq]at pW
  obtain⟨g1,GY,rfl,rfl⟩:=pW
  exact Vt hv w (O3 S E ho h1 h2 h3 GY) rfl
 ·rename_i m x y eS
  have lN:=hc
  rw[eS]at lN
  obtain⟨t,e,m',z,i,x',y',rfl,ho,h1,h2,h3,h4,h5,h6,h7⟩:=Hc lN
  have pW:=hv
  rw[eS]at pW
  simp only[fX,Option.bind_eq_some_iff]at pW
  obtain⟨ys,Gb,pW⟩:=pW
  exact Vt hv w (LJ S E hf ho h1 h2 h3 h4 h5 h6 h7 Gb pW) rfl
 ·rename_i m x y eS
  have lN:=hc
  rw[eS]at lN
  obtain⟨t,t2,e,m',x',y',rfl,ho,h1,h2,h3,h4⟩:=Mt lN
  have pW:=hv
  rw[eS]at pW
  simp only[fX,Option.bind_eq_some_iff]at pW
  obtain⟨ys,Gb,pW⟩:=pW
  exact Vt hv w (Sj S E ho h1 h2 h3 h4 Gb pW) rfl
 ·rename_i z x eS
  have lN:=hc
  rw[eS]at lN
  obtain⟨t,e,m',x',ho,h1,h2,h3,h4⟩:=J1 lN
  have pW:=hv
  rw[eS]at pW
  simp only[fX,Option.map_eq_some_iff,Prod.mk.injEq]at pW
  obtain⟨g1,GY,rfl,rfl⟩:=pW
  exact Vt hv w (O2 S E ho h1 h2 h3 h4 GY) rfl
 ·rename_i q xs eS
  have lN:=hc
  rw[eS]at lN
  have pW:=hv
  rw[eS]at pW
  simp only[fX,Option.map_eq_some_iff,Prod.mk.injEq]at pW
  obtain⟨g1,GY,rfl,rfl⟩:=pW
  rcases Ts lN with⟨t,x,k,y,m,z,x',k',y',ho,h1,h2,h3,h4,rfl,rfl⟩|⟨t,t',x,k,m,z,x',k',ho,h1,h2,h3,rfl,rfl⟩
  ·exact Vt hv w (Sm S E ho h1 h2 h3 h4 GY) rfl
  ·exact Vt hv w (Sk S E ho h1 h2 h3 GY) rfl
 ·obtain⟨mr,hq,hg⟩:=hv
  exact quiet mr hq hg
end
end Go.Proofs.YtiabgllilcfheaaGreat.V

namespace Go.Proofs.YtiabgllilcfheaaGreat.V
open Go.RowKit
variable {P:Program} {w w':World} {D D' D2:Nat->Prop} {ι ι' ι2:Names}
section
variable {g:Rows} {hs:Nat} {env:Env} {a:Act} {o:Oper} {id:Id} {v:AV}
theorem rl {ops:Array Oper} {nt site0 j:Nat} {draw mk:Bool} {bs:Array Nat} {hidden:List (Nat×Bool)} {vo:aZ} (h:mc P ops nt site0 draw mk bs hidden j o=some vo):
  tK P o.op=some vo.op/\vo.dst=o.dst/\vo.site=site0+j/\(∀d,o.dst=some d->d<nt)/\(match o.guard with
   |none=>vo.guard=none
   |some (i,b)=>∃t,(ops[i]?).bind (·.dst)=some t/\vo.guard=some (t,b)):=by
 unfold mc at h
 simp only[Option.bind_eq_bind,Option.bind_eq_some_iff]at h
 obtain⟨v,hv,gd,hg,h⟩:=h
 split at h
 ·rename_i hd
  simp only[Option.pure_def,Option.some.injEq]at h
  subst h
  refine⟨hv,rfl,rfl,fun d YP=>?_,?_⟩
  ·rw[YP]at hd;simpa using hd
  ·unfold Gt at hg
   cases xH:o.guard with
   |none=>rw[xH]at hg;simp at hg;exact hg.symm
   |some p=>
    obtain⟨i,b⟩:=p
    rw[xH]at hg
    dsimp only at hg ⊢
    split at hg
    ·rename_i t ht
     simp at hg;exact⟨t,ht,hg.symm⟩
    ·simp at hg
 ·simp at h
theorem wL {ops:Array Oper} {vo:aZ} (E:dn P w D ι env a) (hg:match o.guard with
   |none=>vo.guard=none
   |some (i,b)=>∃t,(ops[i]?).bind (·.dst)=some t/\vo.guard=some (t,b)):aM vo.guard env=Region.wanted o (yielded ops a.tmps):=by
 unfold Region.wanted
 cases xH:o.guard with
 |none=>rw[xH]at hg;simp only at hg;rw[hg];rfl
 |some p=>
  obtain⟨i,b⟩:=p
  rw[xH]at hg
  obtain⟨t,ht,hv⟩:=hg
  rw[hv]
  simp only[aM,yielded,ht,Option.bind_some]
  have hr:=E t
  by_cases eW:t<a.tmps.size
  ·have iS:a.tmps[t]? =some a.tmps[t]:=Array.getElem?_eq_getElem eW
   have hd:a.tmps.getD t undef=a.tmps[t]:=by simp[eW]
   rw[hd]at hr
   rw[iS]
   generalize a.tmps[t]=u at hr
   cases he:env t with
   |bool c=>rw[he]at hr;rw[gn hr];simp
   |_=>
    rw[he]at hr
    have:∀c,u≠.bool c:=by
     intro c hu
     subst hu
     cases hr with
     |fF _ _ h=>cases h
    cases u<;>simp_all
  ·have iS:a.tmps[t]? =none:=Array.getElem?_eq_none (Nat.le_of_not_lt eW)
   have hd:a.tmps.getD t undef=undef:=by simp[iS]
   rw[hd]at hr
   rw[iS]
   cases he:env t with
   |bool c=>rw[he]at hr;have:=gn hr;simp[undef]at this
   |_=>simp
theorem jt {dst:Option Nat} {nt:Nat} {u:Value} (E:dn P w D ι env a) (hr:dy P w D ι v u) (hd:∀d,dst=some d->d<nt) (hs:a.tmps.size=nt):dn P w D ι (upd env dst v) (a.put dst u):=by
 intro t
 cases dst with
 |none=>exact E t
 |some d=>
  have eW:d<a.tmps.size:=by rw[hs];exact hd d rfl
  simp only[upd,Act.put]
  by_cases ht:t=d
  ·subst ht
   simp[eW];exact hr
  ·rw[if_neg ht]
   have:(a.tmps.setIfInBounds d u).getD t undef=a.tmps.getD t undef:=by
    simp only[Array.getD_eq_getD_getElem?]
    rw[Array.getElem?_setIfInBounds_ne (fun e=>ht e.symm)]
   rw[this];exact E t
theorem qy {hs:Nat} (E:dn P w D ι env a) (T:Step hs D ι w D' ι' w'):dn P w' D' ι' env a:=fun t=>T.rep (E t)
theorem fU (a:Act) (dst:Option Tmp) (u:Value):(a.put dst u).tmps.size=a.tmps.size:=by cases dst<;>simp[Act.put]
theorem put_defers (a:Act) (dst:Option Tmp) (u:Value):(a.put dst u).defers=a.defers:=by cases dst<;>rfl
theorem BW {draw:Bool} {vo:aZ} {σ:az} {next:AV->az->Prop} {U:Nat->Prop} {Q:Exit->Act->World->Prop} {K:Act->World->Prop} (hc:tK P o.op=some vo.op) (hv:fP (Sound P) draw vo env σ next) (S:ik P hs D ι σ.get w) (Us:Used ι σ.next U) (hU:¬U vo.site) (E:dn P w D ι env a)
  (hK:∀v σ' u D' ι' w',next v σ'->Step hs D ι w D' ι' w'->ik P hs D' ι' σ'.get w'->dy P w' D' ι' v u->Used ι' σ'.next (fun s=>U s∨s=vo.site)->σ.next<=σ'.next->K (a.put o.dst u) w'):o.wp P a w K Q:=by
 have close:∀v g',VS (Sound P) σ.next vo env σ.get v g'->next v ⟨g',σ.next⟩->o.wp P a w K Q:=fun v g' h1 h2=>
  DO hc h1 S Us hU E fun a' w' ⟨u,D',ι',ha,T,S',hR,U'⟩=>by subst ha;exact hK v ⟨g',σ.next⟩ u D' ι' w' h2 T S' hR U' (Nat.le_refl _)
 have MU:∀(f:Nat) (args:List AV) (vs:Array Value),Sound P f args ⟨σ.get,σ.next+1⟩ next->fK P w D ι args vs->(execOp a.eval o).run P w=.ok (.enter f vs) w->o.wp P a w K Q:=by
  intro f args vs h hA gm
  unfold Oper.wp
  rw[gm]
  refine(h hs D ι w vs S Us.next hA).mono ?_
  rintro e w' ⟨r,g',n',D',ι',u,rfl,hn,T,S',U',hle,hR⟩
  exact hK r ⟨g',n'⟩ u D' ι' w' hn T S' hR (U'.more fun _ h=>h.elim) (Nat.le_trans (Nat.le_succ _) hle)
 unfold fP at hv
 split at hv
 ·rename_i f args eS
  rcases hv with⟨r,hP,hn⟩|⟨_,hX⟩|⟨Du,sz,rows,hM,hn⟩
  ·exact close r σ.get (by unfold VS;rw[eS];exact .inl ⟨hP,rfl⟩) hn
  rotate_left
  ·exact close _ _ (by unfold VS;rw[eS];exact .inr ⟨Du,sz,rows,hM,rfl,rfl⟩) hn
  ·have lN:=hc
   rw[eS]at lN
   obtain⟨c,ho,lT,It,pH⟩:=EV lN
   refine MU f _ (c.args.map a.eval) hX (qp E pH) ?_
   simp only[execOp,ho,resolve,lT,Deferred.ofValue,Act.eval,Sem.run_bind,Sem.run_pure,Result.andThen_ok,invoke,Array.empty_append,Array.append_empty]
   exact kn It
 ·rename_i x args eS
  split at hv
  ·rename_i f dJ hx
   have xc:yz (du env x) (args.map (du env))=some (f,args.map (du env)++dJ):=by rw[hx];rfl
   rcases hv with⟨r,hP,hn⟩|⟨_,hX⟩|⟨Du,sz,rows,hM,hn⟩
   ·exact close r σ.get (by unfold VS;rw[eS];exact⟨f,_,xc,.inl ⟨hP,rfl⟩⟩) hn
   rotate_left
   ·exact close _ _ (by unfold VS;rw[eS];exact⟨f,_,xc,.inr ⟨Du,sz,rows,hM,rfl,rfl⟩⟩) hn
   ·have lN:=hc
    rw[eS]at lN
    obtain⟨c,t,ho,lT,rfl,pH⟩:=wj lN
    obtain⟨first,us,he,It,hL⟩:=yD (v:=a.eval (.tmp t)) xc (E t) (qp E pH)
    refine MU f _ (first++c.args.map a.eval++us) hX hL ?_
    simp only[execOp,ho,resolve,lT,he,Deferred.ofValue,Sem.run_bind,Sem.run_pure,Result.andThen_ok,invoke]
    exact kn It
  ·rename_i f dJ hx
   have xc:yz (du env x) (args.map (du env))=some (f,dJ++args.map (du env)):=by rw[hx];rfl
   rcases hv with⟨r,hP,hn⟩|⟨_,hX⟩|⟨Du,sz,rows,hM,hn⟩
   ·exact close r σ.get (by unfold VS;rw[eS];exact⟨f,_,xc,.inl ⟨hP,rfl⟩⟩) hn
   rotate_left
   ·exact close _ _ (by unfold VS;rw[eS];exact⟨f,_,xc,.inr ⟨Du,sz,rows,hM,rfl,rfl⟩⟩) hn
   ·have lN:=hc
    rw[eS]at lN
    obtain⟨c,t,ho,lT,rfl,pH⟩:=wj lN
    obtain⟨first,us,he,It,hL⟩:=yD (v:=a.eval (.tmp t)) xc (E t) (qp E pH)
    refine MU f _ (first++c.args.map a.eval++us) hX hL ?_
    simp only[execOp,ho,resolve,lT,he,Deferred.ofValue,Sem.run_bind,Sem.run_pure,Result.andThen_ok,invoke]
    exact kn It
  ·exact hv.elim
 ·rename_i m x y eS
  split at hv
  ·rename_i v' g' he
   exact close v' g' (by unfold VS;rw[eS];rw[eS]at he;exact he) hv
  ·exact hv.elim
 ·rename_i m x y eS
  split at hv
  ·rename_i v' g' he
   exact close v' g' (by unfold VS;rw[eS];rw[eS]at he;exact he) hv
  ·exact hv.elim
 ·rename_i m x y eS
  split at hv
  ·rename_i v' g' he
   exact close v' g' (by unfold VS;rw[eS];rw[eS]at he;exact he) hv
  ·exact hv.elim
 ·rename_i m x eS
  split at hv
  ·rename_i v' g' he
   exact close v' g' (by unfold VS;rw[eS];rw[eS]at he;exact he) hv
  ·exact hv.elim
 ·rename_i m x eS
  split at hv
  ·rename_i v' g' he
   exact close v' g' (by unfold VS;rw[eS];rw[eS]at he;exact he) hv
  ·exact hv.elim
 ·rename_i n1 n2 n3 n4 n5 n6 n7
  split at hv
  ·rename_i v' r hq
   refine close v' (bL σ.get ⟨vo.site,σ.next⟩ r) ?_ hv
   unfold VS
   split
   ·rename_i h;exact(n1 _ _ h).elim
   ·rename_i h;exact(n2 _ _ h).elim
   ·rename_i h;exact(n3 _ _ _ h).elim
   ·rename_i h;exact(n4 _ _ _ h).elim
   ·rename_i h;exact(n5 _ _ _ h).elim
   ·rename_i h;exact(n6 _ _ h).elim
   ·rename_i h;exact(n7 _ _ h).elim
   ·exact⟨some r,hq,rfl⟩
  ·rename_i v' hq
   refine close v' σ.get ?_ hv
   unfold VS
   split
   ·rename_i h;exact(n1 _ _ h).elim
   ·rename_i h;exact(n2 _ _ h).elim
   ·rename_i h;exact(n3 _ _ _ h).elim
   ·rename_i h;exact(n4 _ _ _ h).elim
   ·rename_i h;exact(n5 _ _ _ h).elim
   ·rename_i h;exact(n6 _ _ h).elim
   ·rename_i h;exact(n7 _ _ h).elim
   ·exact⟨none,hq,rfl⟩
  ·exact hv.elim
structure St (P:Program) (hs nt:Nat) (D:Nat->Prop) (ι:Names) (env:Env) (σ:az) (a:Act) (w:World):Prop where
 wE:ik P hs D ι σ.get w
 used:Used ι σ.next (fun _=>False)
 env:dn P w D ι env a
 size:a.tmps.size=nt
theorem zp (rest:List Oper) {ops:Array Oper} {nt site0:Nat} {draw mk:Bool} {bs:Array Nat} {hidden:List (Nat×Bool)} {K:Env->az->Prop} {Q:Exit->Act->World->Prop}:∀(l:List Oper) (vl:List aZ) (j:Nat) (env:Env) (σ:az) (a:Act) (w:World) (D:Nat->Prop) (ι:Names) (U:Nat->Prop),
  allM (mc P ops nt site0 draw mk bs hidden) l j=some vl->wpOps (Sound P) draw vl K env σ->ik P hs D ι σ.get w->Used ι σ.next U->(∀s,U s->s<site0+j)->dn P w D ι env a->a.tmps.size=nt->
  (∀jC σ' a' w' D' ι',K jC σ'->Step hs D ι w D' ι' w'->St P hs nt D' ι' jC σ' a' w'->a'.defers=a.defers->σ.next<=σ'.next->wpList P ops Q rest a' w')->wpList P ops Q (l++rest) a w:=by
 intro l
 induction l with
 |nil=>
  intro vl j env σ a w D ι U h hv S Us _ E eQ hQ
  simp[allM]at h;subst h
  exact hQ env ⟨σ.get,σ.next+1⟩ a w D ι hv (Step.refl _ _ _ _) ⟨S,Us.next,E,eQ⟩ rfl (Nat.le_succ _)
 |cons o l ih=>
  intro vl j env σ a w D ι U h hv S Us hU E eQ hQ
  simp only[allM,Option.bind_eq_bind,Option.bind_eq_some_iff,Option.pure_def,Option.some.injEq]at h
  obtain⟨vo,l5,wK,pZ,rfl⟩:=h
  obtain⟨hc,hd,EM,Al,hg⟩:=rl l5
  have hw:=wL (ops:=ops) (vo:=vo) E hg
  unfold wpOps at hv
  show wpList P ops Q (o::(l++rest)) a w
  unfold wpList
  rw[<-hw]
  split at hv
  ·rename_i JW
   rw[if_pos JW]
   refine .inl (BW hc hv S Us (fun h=>by have:=hU _ h;omega) E fun v σ' u D' ι' w' hn T S' hR U' hle=>?_)
   refine ih wK (j+1) (upd env vo.dst v) σ' (a.put o.dst u) w' D' ι' _ pZ hn S' U' (fun s EJ=>by
    rcases EJ with h|h
    ·have:=hU _ h;omega
    ·omega) (by rw[hd];exact jt (qy E T) hR Al eQ) (by rw[fU];exact eQ) fun jC σ2 a' w2 D2 ι2 hk T2 RU GW oL=>hQ jC σ2 a' w2 D2 ι2 hk (T.trans T2) RU (GW.trans (put_defers _ _ _)) (Nat.le_trans hle oL)
  ·rename_i JW
   rw[if_neg JW]
   refine ih wK (j+1) (upd env vo.dst .undef) σ (a.put o.dst undef) w D ι U pZ hv S Us (fun s EJ=>by have:=hU _ EJ;omega) (by rw[hd];exact jt E dy.undef Al eQ) (by rw[fU];exact eQ) fun jC σ2 a' w2 D2 ι2 hk T2 RU GW oL=>hQ jC σ2 a' w2 D2 ι2 hk T2 RU (GW.trans (put_defers _ _ _)) oL
theorem BF {ops:Array Oper} {nt site0:Nat} {draw mk:Bool} {bs:Array Nat} {hidden:List (Nat×Bool)} {K:Env->az->Prop} {Q:Exit->Act->World->Prop}:∀(l:List Oper) (vl:List aZ) (j:Nat) (env:Env) (σ:az) (a:Act) (w:World) (D:Nat->Prop) (ι:Names) (U:Nat->Prop),
  allM (mc P ops nt site0 draw mk bs hidden) l j=some vl->wpOps (Sound P) draw vl K env σ->ik P hs D ι σ.get w->Used ι σ.next U->(∀s,U s->s<site0+j)->dn P w D ι env a->a.tmps.size=nt->
  (∀jC σ' a' w' D' ι',K jC σ'->Step hs D ι w D' ι' w'->St P hs nt D' ι' jC σ' a' w'->a'.defers=a.defers->σ.next<=σ'.next->Q .normal a' w')->wpList P ops Q l a w:=fun l vl j env σ a w D ι U h hv S Us hU E eQ hQ=>by
 have:=zp [] l vl j env σ a w D ι U h hv S Us hU E eQ hQ
 rwa [List.append_nil]at this
end
end Go.Proofs.YtiabgllilcfheaaGreat.V

namespace Go.Proofs.YtiabgllilcfheaaGreat.V
open Go.RowKit
variable {P:Program} {w w':World} {D D' D2:Nat->Prop} {ι ι' ι2:Names}
section
variable {hs:Nat} {X:gT}
theorem cq {env jN:Env} {x:O} (h:∀t∈iY x,env t=jN t):du env x=du jN x:=by
 cases x with
 |t n=>exact h n (by simp[iY])
 |_=>rfl
theorem map_congr {env jN:Env} {l:List O} (h:∀t∈l.flatMap iY,env t=jN t):l.map (du env)=l.map (du jN):=
 List.map_congr_left fun x hx=>cq fun t ht=>h t (List.mem_flatMap.2 ⟨x,hx,ht⟩)
theorem rJ {env jN:Env} {x:Option O} (h:∀t∈zq x,env t=jN t):x.map (du env)=x.map (du jN):=by
 cases x with
 |none=>rfl
 |some y=>simp only[Option.map_some];rw[cq h]
theorem wz {env jN:Env} {o:iI} {g:Rows} {id:Id} (h:∀t∈o.iQ,env t=jN t):fa o (du env) g id=fa o (du jN) g id:=by
 cases o<;>simp only[iI.iQ,List.mem_append]at h<;>simp only[fa]
 case dH x=>rw[cq h]
 case pick c a b=>rw[cq (x:=c) fun t ht=>h t (.inl (.inl ht)),cq (x:=a) fun t ht=>h t (.inl (.inr ht)),cq (x:=b) fun t ht=>h t (.inr ht)]
 case box x=>rw[cq h]
 case build z ps=>
  have:(ps.map fun(x:Nat×Nat×O)=>(x.1,x.2.1,du env x.2.2))=ps.map fun(x:Nat×Nat×O)=>(x.1,x.2.1,du jN x.2.2):=List.map_congr_left fun x hx=>by
   rw[cq (x:=x.2.2) fun t ht=>h t (List.mem_flatMap.2 ⟨x,hx,ht⟩)]
  rw[this]
 case fA a b l=>rw[map_congr h]
 case load a n x=>rw[cq h]
 case Dp x=>rw[cq h]
 case bin a b x y=>rw[cq (x:=x) fun t ht=>h t (.inl ht),cq (x:=y) fun t ht=>h t (.inr ht)]
 case sh a x y=>rw[cq (x:=x) fun t ht=>h t (.inl ht),cq (x:=y) fun t ht=>h t (.inr ht)]
 case vU a x y=>rw[cq (x:=x) fun t ht=>h t (.inl ht),cq (x:=y) fun t ht=>h t (.inr ht)]
 case Wo a b x y=>rw[cq (x:=x) fun t ht=>h t (.inl ht),cq (x:=y) fun t ht=>h t (.inr ht)]
 case Yr a b x y=>rw[cq (x:=x) fun t ht=>h t (.inl ht),cq (x:=y) fun t ht=>h t (.inr ht)]
 case Wn a b x=>rw[cq h]
 case Ys a x=>rw[cq h]
 case not x=>rw[cq h]
 case neg x=>rw[cq h]
 case conv k x=>rw[cq h]
 case Ia x=>rw[cq h]
 case slice s x lo hi=>rw[cq (x:=x) fun t ht=>h t (.inl (.inl ht)),rJ (x:=lo) fun t ht=>h t (.inl (.inr ht)),rJ (x:=hi) fun t ht=>h t (.inr ht)]
 case C8 x lo hi=>rw[cq (x:=x) fun t ht=>h t (.inl (.inl ht)),rJ (x:=lo) fun t ht=>h t (.inl (.inr ht)),rJ (x:=hi) fun t ht=>h t (.inr ht)]
 case dz k x=>rw[cq h]
 case field a b c x=>rw[cq h]
 case gC s x y=>rw[cq (x:=x) fun t ht=>h t (.inl ht),cq (x:=y) fun t ht=>h t (.inr ht)]
 case PM n s x y=>rw[cq (x:=x) fun t ht=>h t (.inl ht),cq (x:=y) fun t ht=>h t (.inr ht)]
 case PO x y=>rw[cq (x:=x) fun t ht=>h t (.inl ht),cq (x:=y) fun t ht=>h t (.inr ht)]
 case fb a b c x y=>rw[cq (x:=x) fun t ht=>h t (.inl ht),cq (x:=y) fun t ht=>h t (.inr ht)]
 case extract i x=>rw[cq h]
 case len x=>rw[cq h]
 case PX x=>rw[cq h]
 case MM x=>rw[cq h]
 case MF x=>rw[cq h]
 case P3 f l=>rw[map_congr h]
 case P4 f l=>rw[map_congr h]
 case mq f l=>rw[map_congr h]
 case nr z x y=>rw[cq (x:=x) fun t ht=>h t (.inl ht),cq (x:=y) fun t ht=>h t (.inr ht)]
theorem jd {env jN:Env} {o:iI} {g:Rows} {id:Id} (h:∀t∈o.iQ,env t=jN t):fX o (du env) g id=fX o (du jN) g id:=by
 cases o<;>simp only[iI.iQ,List.mem_append]at h<;>simp only[fX]
 case clear z x=>rw[cq h]
 case mw f l=>rw[map_congr h]
 all_goals rename_i a x y
 all_goals rw[cq (x:=x) fun t ht=>h t (.inl ht),cq (x:=y) fun t ht=>h t (.inr ht)]
theorem Lp {n:Nat} {vo:aZ} {env jN:Env} {g g':Rows} {v:AV} (h:∀t∈vo.op.iQ,env t=jN t) (hv:VS X n vo env g v g'):VS X n vo jN g v g':=by
 unfold VS at hv ⊢
 split at hv
 ·rename_i f args eS
  rw[eS]at h
  simp only[iI.iQ]at h
  rw[<-map_congr h];exact hv
 ·rename_i x args eS
  rw[eS]at h
  simp only[iI.iQ,List.mem_append]at h
  rw[<-map_congr (l:=args) fun t ht=>h t (.inr ht),<-cq (x:=x) fun t ht=>h t (.inl ht)];exact hv
 ·rw[<-jd h];exact hv
 ·rw[<-jd h];exact hv
 ·rw[<-jd h];exact hv
 ·rw[<-jd h];exact hv
 ·rw[<-jd h];exact hv
 ·rw[<-wz h];exact hv
theorem Hj {q:MQ} {vs:List AV} {g:Rows} {id:Id} {v:AV} {r:Row} (h:bJ q vs g id=some (v,some r)):∃m,q=.new m:=by
 unfold bJ at h
 split at h
 ·exact⟨_,rfl⟩
 ·simp[Option.bind_eq_some_iff]at h
 ·simp at h
 ·cases h
theorem zA {o:iI} {ρ:O->AV} {g:Rows} {id:Id} {v:AV} {r:Row} (h:fa o ρ g id=some (v,some r)):tp o=true:=by
 cases o<;>simp only[fa]at h<;>(try rfl)<;>(try simp at h)
 case mq q xs=>obtain⟨m,rfl⟩:=Hj h;rfl
 all_goals (try(split at h<;>simp at h))
theorem zB {o:iI} {ρ:O->AV} {g g2:Rows} {id id2:Id} (h:o.cls=.pure):fa o ρ g id=fa o ρ g2 id2:=by
 cases o<;>(try simp[iI.cls]at h)<;>(try simp only[fa])
 case mq q xs=>cases q<;>simp[iI.cls]at h
theorem yp {n:Nat} {vo:aZ} {env:Env} {g g':Rows} {v:AV} (hw:vo.op.cls≠.write) (hv:VS X n vo env g v g'):∃mr,g'=j6 g ⟨vo.site,n⟩ mr/\(mr≠none->vo.makes=true)/\∀g0,fW vo.hid n g0=fW vo.hid n g->VS X n vo env g0 v (j6 g0 ⟨vo.site,n⟩ mr):=by
 unfold VS at hv
 split at hv
 ·rename_i f args eS
  rcases hv with⟨h1,rfl⟩|⟨hs,sz,rows,hM,rfl,rfl⟩
  ·refine⟨none,rfl,fun h=>(h rfl).elim,fun g0 h0=>?_⟩
   unfold VS;rw[eS];simp only;unfold yC;rw[h0];exact .inl ⟨h1,rfl⟩
  ·refine⟨some _,rfl,fun _=>by unfold aZ.makes;rw[eS,hs];simp[iI.nD],fun g0 h0=>?_⟩
   unfold VS;rw[eS];simp only;unfold yC;rw[h0];exact .inr ⟨hs,sz,rows,hM,rfl,rfl⟩
 ·rename_i x args eS
  obtain⟨f,dJ,hx,hv⟩:=hv
  rcases hv with⟨h1,rfl⟩|⟨hs,sz,rows,hM,rfl,rfl⟩
  ·refine⟨none,rfl,fun h=>(h rfl).elim,fun g0 h0=>?_⟩
   unfold VS;rw[eS];simp only;unfold yC;rw[h0];exact⟨f,dJ,hx,.inl ⟨h1,rfl⟩⟩
  ·refine⟨some _,rfl,fun _=>by unfold aZ.makes;rw[eS,hs];simp[iI.nD],fun g0 h0=>?_⟩
   unfold VS;rw[eS];simp only;unfold yC;rw[h0];exact⟨f,dJ,hx,.inr ⟨hs,sz,rows,hM,rfl,rfl⟩⟩
 ·rename_i eS;rw[eS]at hw;exact(hw rfl).elim
 ·rename_i eS;rw[eS]at hw;exact(hw rfl).elim
 ·rename_i eS;rw[eS]at hw;exact(hw rfl).elim
 ·rename_i eS;rw[eS]at hw;exact(hw rfl).elim
 ·rename_i eS;rw[eS]at hw;exact(hw rfl).elim
 ·rename_i n1 n2 n3 n4 n5 n6 n7
  obtain⟨mr,hq,rfl⟩:=hv
  refine⟨mr,rfl,fun h=>?_,fun g0 h0=>?_⟩
  ·cases mr with
   |none=>exact(h rfl).elim
   |some r=>unfold aZ.makes;rw[zA hq];rfl
  ·unfold VS
   split
   ·rename_i hh;exact(n1 _ _ hh).elim
   ·rename_i hh;exact(n2 _ _ hh).elim
   ·rename_i hh;exact(n3 _ _ _ hh).elim
   ·rename_i hh;exact(n4 _ _ _ hh).elim
   ·rename_i hh;exact(n5 _ _ _ hh).elim
   ·rename_i hh;exact(n6 _ _ hh).elim
   ·rename_i hh;exact(n7 _ _ hh).elim
   ·rw[h0];exact⟨mr,hq,rfl⟩
theorem B7 {n:Nat} {vo:aZ} {env:Env} {g g':Rows} {v:AV} (hp:vo.op.cls=.pure) (hv:VS X n vo env g v g'):g'=g/\∀g0,VS X n vo env g0 v g0:=by
 unfold VS at hv
 split at hv
 ·rename_i eS;rw[eS]at hp;simp[iI.cls]at hp
 ·rename_i eS;rw[eS]at hp;simp[iI.cls]at hp
 ·rename_i eS;rw[eS]at hp;simp[iI.cls]at hp
 ·rename_i eS;rw[eS]at hp;simp[iI.cls]at hp
 ·rename_i eS;rw[eS]at hp;simp[iI.cls]at hp
 ·rename_i eS;rw[eS]at hp;simp[iI.cls]at hp
 ·rename_i eS;rw[eS]at hp;simp[iI.cls]at hp
 ·rename_i n1 n2 n3 n4 n5 n6 n7
  obtain⟨mr,hq,rfl⟩:=hv
  have hmr:mr=none:=by
   cases mr with
   |none=>rfl
   |some r=>have:=zA hq;simp[tp,hp]at this
  subst hmr
  refine⟨rfl,fun g0=>?_⟩
  unfold VS
  split
  ·rename_i hh;exact(n1 _ _ hh).elim
  ·rename_i hh;exact(n2 _ _ hh).elim
  ·rename_i hh;exact(n3 _ _ _ hh).elim
  ·rename_i hh;exact(n4 _ _ _ hh).elim
  ·rename_i hh;exact(n5 _ _ _ hh).elim
  ·rename_i hh;exact(n6 _ _ hh).elim
  ·rename_i hh;exact(n7 _ _ hh).elim
  ·exact⟨none,by rw[zB hp];exact hq,rfl⟩
def GS (X:gT) (n:Nat) (vo:aZ) (env:Env) (g:Rows) (v:AV) (g':Rows):Prop:=
 if aM vo.guard env then VS X n vo env g v g' else v=.undef/\g'=g
theorem FR {hid:List Nat} {g:Rows} {s n:Nat} {mr:Option Row} (h:mr≠none->hid.contains s=true):fW hid n (j6 g ⟨s,n⟩ mr)=fW hid n g:=by
 cases mr with
 |none=>rfl
 |some r=>
  have hc:=h (by simp)
  cases hid with
  |nil=>simp at hc
  |cons a l=>
   funext i
   show(if (a::l).contains i.site=true/\i.bj=n then none else j6 g ⟨s,n⟩ (some r) i)=if (a::l).contains i.site=true/\i.bj=n then none else g i
   by_cases hi:i=⟨s,n⟩
   ·subst hi;rw[if_pos ⟨hc,rfl⟩,if_pos ⟨hc,rfl⟩]
   ·simp only[j6,bL,if_neg hi]
theorem Jf {g:Rows} {i j:Id} (h:i≠j) (m1 m2:Option Row):j6 (j6 g i m1) j m2=j6 (j6 g j m2) i m1:=by
 cases m1<;>cases m2<;>simp only[j6]
 funext k
 simp only[bL]
 by_cases h1:k=i
 ·subst h1;rw[if_neg h,if_pos rfl];simp
 ·by_cases h2:k=j
  ·subst h2;simp[h1]
  ·simp[h1,h2]
theorem zU {env:Env} {d e:Option Nat} {v u:AV} (h:∀k,d=some k->e≠some k):upd (upd env d v) e u=upd (upd env e u) d v:=by
 cases d with
 |none=>rfl
 |some d=>
  cases e with
  |none=>rfl
  |some e=>
   have ig:d≠e:=fun he=>h d rfl (by rw[he])
   funext t
   simp only[upd]
   by_cases h1:t=d
   ·subst h1;rw[if_neg ig,if_pos rfl,if_pos rfl]
   ·by_cases h2:t=e
    ·subst h2;rw[if_pos rfl,if_neg h1,if_pos rfl]
    ·simp[h1,h2]
theorem oh {env:Env} {d:Option Nat} {v:AV} {l:List Nat} (h:∀k,d=some k->k∉l):∀t∈l,upd env d v t=env t:=by
 intro t ht
 cases d with
 |none=>rfl
 |some d=>
  have:t≠d:=fun he=>h d rfl (he▸ht)
  simp[upd,this]
structure Ge (x y:aZ):Prop where
 xy:∀k,x.dst=some k->k∉y.iQ
 yx:∀k,y.dst=some k->k∉x.iQ
 dst:∀k,x.dst=some k->y.dst≠some k
 cls:clash x.op.cls y.op.cls=false
 hx:x.makes=true->y.hid.contains x.site=true
 hy:y.makes=true->x.hid.contains y.site=true
 site:x.site≠y.site
theorem Ge.symm {x y:aZ} (h:Ge x y):Ge y x:=
 ⟨h.yx,h.xy,fun k hk he=>h.dst k he hk,by have:=h.cls;revert this;cases x.op.cls<;>cases y.op.cls<;>simp[clash],h.hy,h.hx,fun e=>h.site e.symm⟩
theorem s8 {x y:aZ} (h:Il x y=true):Ge x y:=by
 unfold Il at h
 simp only[Bool.and_eq_true,Bool.not_eq_true',Bool.or_eq_true,bne_iff_ne]at h
 obtain⟨⟨⟨⟨h1,h2⟩,h3⟩,h4⟩,h5⟩:=h
 unfold wJ at h1
 simp only[Bool.and_eq_true]at h1
 obtain⟨a1,a2⟩:=h1
 refine⟨fun k hk=>?_,fun k hk=>?_,fun k hk=>?_,h2,fun hm=>?_,fun hm=>?_,h5⟩
 ·rw[hk]at a1;simp at a1;exact a1.1
 ·rw[hk]at a2;simpa using a2
 ·rw[hk]at a1;simp at a1;exact a1.2
 ·rcases h3 with h3|h3
  ·rw[hm]at h3;cases h3
  ·exact h3
 ·rcases h4 with h4|h4
  ·rw[hm]at h4;cases h4
  ·exact h4
theorem uU {vo:aZ} {t:Nat} (h:t∈vo.op.iQ):t∈vo.iQ:=List.mem_append_left _ h
theorem pg {vo:aZ} {env jN:Env} (h:∀t∈vo.iQ,env t=jN t):aM vo.guard env=aM vo.guard jN:=by
 unfold aM
 cases hg:vo.guard with
 |none=>rfl
 |some p=>
  obtain⟨t,b⟩:=p
  have:env t=jN t:=h t (List.mem_append_right _ (by rw[hg];simp))
  simp only[this]
theorem yj {n:Nat} {vo:aZ} {env jN:Env} {g g':Rows} {v:AV} (h:∀t∈vo.iQ,env t=jN t) (hv:GS X n vo env g v g'):GS X n vo jN g v g':=by
 unfold GS at hv ⊢
 rw[<-pg h]
 split at hv
 ·rename_i hw;rw[if_pos hw];exact Lp (fun t ht=>h t (uU ht)) hv
 ·rename_i hw;rw[if_neg hw];exact hv
theorem HX {n:Nat} {x y:aZ} {env:Env} {g g1 g2:Rows} {v v':AV} (F:Ge x y) (h1:GS X n x env g v g1) (h2:GS X n y (upd env x.dst v) g1 v' g2):
  ∃O6,GS X n y env g v' O6/\GS X n x (upd env y.dst v') O6 v g2/\upd (upd env x.dst v) y.dst v'=upd (upd env y.dst v') x.dst v:=by
 have Mr:=zU (env:=env) (v:=v) (u:=v') F.dst
 replace h2:GS X n y env g1 v' g2:=yj (oh F.xy) h2
 have back:∀{O6},GS X n x env O6 v g2->GS X n x (upd env y.dst v') O6 v g2:=fun h=>yj (fun t ht=>(oh F.yx t ht).symm) h
 unfold GS at h1 h2
 by_cases wx:aM x.guard env=true
 ·rw[if_pos wx]at h1
  by_cases wy:aM y.guard env=true
  ·rw[if_pos wy]at h2
   by_cases cx:x.op.cls=.write
   ·have cy:y.op.cls=.pure:=by
     have:=F.cls;rw[cx]at this
     cases hc:y.op.cls<;>simp[clash,hc]at this ⊢
    obtain⟨rfl,eV⟩:=B7 cy h2
    exact⟨g,by unfold GS;rw[if_pos wy];exact eV g,back (by unfold GS;rw[if_pos wx];exact h1),Mr⟩
   ·by_cases cy:y.op.cls=.write
    ·have cx':x.op.cls=.pure:=by
      have:=F.cls;rw[cy]at this
      cases hc:x.op.cls<;>simp[clash,hc]at this ⊢
     obtain⟨rfl,eV⟩:=B7 cx' h1
     exact⟨g2,by unfold GS;rw[if_pos wy];exact h2,back (by unfold GS;rw[if_pos wx];exact eV g2),Mr⟩
    ·obtain⟨mx,rfl,kx,ZJ⟩:=yp cx h1
     obtain⟨my,rfl,ky,R3⟩:=yp cy h2
     have ig:(⟨x.site,n⟩:Id)≠⟨y.site,n⟩:=fun e=>F.site (by injection e)
     refine⟨j6 g ⟨y.site,n⟩ my,?_,back ?_,Mr⟩
     ·unfold GS;rw[if_pos wy]
      exact R3 g (FR fun h=>F.hx (kx h)).symm
     ·unfold GS;rw[if_pos wx,Jf ig]
      exact ZJ _ (FR fun h=>F.hy (ky h))
  ·rw[if_neg wy]at h2
   obtain⟨rfl,rfl⟩:=h2
   exact⟨g,by unfold GS;rw[if_neg wy];exact⟨rfl,rfl⟩,back (by unfold GS;rw[if_pos wx];exact h1),Mr⟩
 ·rw[if_neg wx]at h1
  obtain⟨rfl,rfl⟩:=h1
  exact⟨g2,h2,back (by unfold GS;rw[if_neg wx];exact⟨rfl,rfl⟩),Mr⟩
end
end Go.Proofs.YtiabgllilcfheaaGreat.V

namespace Go.Proofs.YtiabgllilcfheaaGreat.V
open Go.RowKit
variable {P:Program} {w w':World} {D D' D2:Nat->Prop} {ι ι' ι2:Names}
section
variable {hs:Nat} {X:gT}
def j7 (acc:Array Nat) (o:Oper):Nat:=o.after.foldl (fun s e=>if Region.binds .any e then s|||2 ^ e.on|||acc.getD e.on 0 else s) 0
theorem OU (ops:Array Oper):kq ops=ops.foldl (fun acc o=>acc.push (j7 acc o)) #[]:=rfl
theorem DW {acc:Array Nat} {o:Oper} {i:Nat} (h:(j7 acc o).testBit i=true):∃e∈o.after,Region.binds .any e=true/\(e.on=i∨(acc.getD e.on 0).testBit i=true):=by
 unfold j7 at h
 rw[<-Array.foldl_toList]at h
 have gen:∀(l:List Edge) (s:Nat),(l.foldl (fun s e=>if Region.binds .any e then s|||2 ^ e.on|||acc.getD e.on 0 else s) s).testBit i=true->s.testBit i=true∨∃e∈l,Region.binds .any e=true/\(e.on=i∨(acc.getD e.on 0).testBit i=true):=by
  intro l
  induction l with
  |nil=>intro s h;exact .inl h
  |cons e r ih=>
   intro s h
   rw[List.foldl_cons]at h
   rcases ih _ h with h|⟨e',Ct,h'⟩
   ·by_cases hb:Region.binds .any e=true
    ·rw[if_pos hb]at h
     simp only[Nat.testBit_or,Bool.or_eq_true]at h
     rcases h with(h|h)|h
     ·exact .inl h
     ·refine .inr ⟨e,by simp,hb,.inl ?_⟩
      rw[Nat.testBit_two_pow]at h
      simpa using h
     ·exact .inr ⟨e,by simp,hb,.inr h⟩
    ·rw[if_neg hb]at h;exact .inl h
   ·exact .inr ⟨e',List.mem_cons_of_mem _ Ct,h'⟩
 rcases gen _ _ h with h|⟨e,he,h⟩
 ·simp at h
 ·exact⟨e,Array.mem_toList_iff.1 he,h⟩
theorem Ly {ops:Array Oper} {j i:Nat} (h:((kq ops).getD j 0).testBit i=true):∃o,ops[j]? =some o/\∃e∈o.after,Region.binds .any e=true/\(e.on=i∨((kq ops).getD e.on 0).testBit i=true):=by
 have key:∀(l pre:List Oper) (acc:Array Nat),acc.size=pre.length->(∀j i,(acc.getD j 0).testBit i=true->∃o,pre[j]? =some o/\∃e∈o.after,Region.binds .any e=true/\(e.on=i∨(acc.getD e.on 0).testBit i=true))->
   ∀j i,((l.foldl (fun acc o=>acc.push (j7 acc o)) acc).getD j 0).testBit i=true->∃o,(pre++l)[j]? =some o/\∃e∈o.after,Region.binds .any e=true/\(e.on=i∨((l.foldl (fun acc o=>acc.push (j7 acc o)) acc).getD e.on 0).testBit i=true):=by
  intro l
  induction l with
  |nil=>intro pre acc _ h j i hb;simpa using h j i hb
  |cons o r ih=>
   intro pre acc eQ h j i hb
   have BC:∀k,k<acc.size->(acc.push (j7 acc o)).getD k 0=acc.getD k 0:=fun k hk=>by
    simp only[Array.getD_eq_getD_getElem?,Array.getElem?_push]
    rw[if_neg ah]
   have big:∀k,acc.size<=k->acc.getD k 0=0:=fun k hk=>by simp[Array.getElem?_eq_none hk]
   have lift:∀k i,(acc.getD k 0).testBit i=true->((acc.push (j7 acc o)).getD k 0).testBit i=true:=fun k i hk=>by
    by_cases eW:k<acc.size
    ·rw[BC k eW];exact hk
    ·rw[big k ah]at hk;simp at hk
   have:=ih (pre++[o]) (acc.push (j7 acc o)) (by simp[eQ]) (fun j i hb=>by
    by_cases eW:j<acc.size
    ·rw[BC j eW]at hb
     obtain⟨o',F3,e,he,gH,h2⟩:=h j i hb
     refine⟨o',by rw[List.getElem?_append_left ah];exact F3,e,he,gH,?_⟩
     rcases h2 with h2|h2
     ·exact .inl h2
     ·exact .inr (lift _ _ h2)
    ·by_cases hj:j=acc.size
     ·subst hj
      have e0:(acc.push (j7 acc o)).getD acc.size 0=j7 acc o:=by simp
      rw[e0]at hb
      obtain⟨e,he,gH,h2⟩:=DW hb
      refine⟨o,by rw[List.getElem?_append_right ah,eQ];simp,e,he,gH,?_⟩
      rcases h2 with h2|h2
      ·exact .inl h2
      ·exact .inr (lift _ _ h2)
     ·have:(acc.push (j7 acc o)).getD j 0=0:=by
       simp only[Array.getD_eq_getD_getElem?]
       rw[Array.getElem?_eq_none (by simp;omega)];rfl
      rw[this]at hb;simp at hb) j i (by simpa using hb)
   simpa using this
 rw[OU,<-Array.foldl_toList]at h ⊢
 have:=key ops.toList [] #[] rfl (fun j i h=>by simp at h) j i h
 simpa using this
def DC (ops:Array Oper) (listed:Array Bool):Prop:=∀k i,listed.getD k false=true->((kq ops).getD k 0).testBit i=true->listed.getD i false=true
theorem mu {ops:Array Oper} {listed:Array Bool} (h:DC ops listed) {j:Nat} (hj:j∈Region.ready .any ops listed):∀i,((kq ops).getD j 0).testBit i=true->listed.getD i false=true:=by
 intro i hb
 obtain⟨_,o,ho,eV⟩:=mem_ready.1 hj
 obtain⟨o',F3,e,he,gH,h2⟩:=Ly hb
 rw[ho]at F3;injection F3 with F3;subst F3
 have hl:=eV e he gH
 rcases h2 with h2|h2
 ·rw[<-h2];exact hl
 ·exact h _ _ hl h2
theorem DC.list {ops:Array Oper} {listed:Array Bool} (h:DC ops listed) {j:Nat} (hj:j∈Region.ready .any ops listed):DC ops (listed.setIfInBounds j true):=by
 intro k i hk hb
 by_cases hkj:k=j
 ·subst hkj;exact getD_set_true (mu h hj i hb)
 ·rw[getD_set_ne false (fun e=>hkj e.symm)]at hk
  exact getD_set_true (h k i hk hb)
theorem jW {ops:Array Oper} {listed:Array Bool} {j:Nat} (hj:j∈Region.ready .any ops listed):listed.getD j false=false:=by
 have h0:=(mem_ready.1 hj).1
 rcases Nat.lt_or_ge j listed.size with h|h
 ·simp[h]at h0 ⊢;exact h0
 ·simp[Array.getElem?_eq_none h]at h0
def NH (X:gT) (n:Nat) (ops:Array Oper) (vl:List aZ) (K:Env->Rows->Prop):Nat->Array Bool->Env->Rows->Prop
 |0,listed,env,g=>Region.ready .any ops listed=[]/\K env g
 |f+1,listed,env,g=>(Region.ready .any ops listed=[]->K env g)/\∀i∈Region.ready .any ops listed,∃vo,vl[i]? =some vo/\∃v g',GS X n vo env g v g'/\NH X n ops vl K f (listed.setIfInBounds i true) (upd env vo.dst v) g'
theorem Ed {ops:Array Oper} {vl:List aZ} (h:qx ops vl (kq ops)=true) {i j:Nat} {x y:aZ} (hi:vl[i]? =some x) (hj:vl[j]? =some y) (EA:i≠j) (h1:((kq ops).getD j 0).testBit i=false) (h2:((kq ops).getD i 0).testBit j=false):Ge x y:=by
 unfold qx at h
 simp only[Bool.and_eq_true,List.all_eq_true]at h
 obtain⟨_,h⟩:=h
 have mem:∀(k:Nat) (z:aZ),vl[k]? =some z->(z,k)∈vl.zipIdx:=fun k z hk=>by
  rw[List.mem_iff_getElem?]
  exact⟨k,by simp[List.getElem?_zipIdx,hk]⟩
 rcases Nat.lt_or_gt_of_ne EA with eW|Po
 ·have:=h _ (mem j y hj) _ (mem i x hi)
  simp only[eW,decide_true,Bool.not_true,Bool.false_or,h1]at this
  exact s8 this
 ·have:=h _ (mem i x hi) _ (mem j y hj)
  simp only[Po,decide_true,Bool.not_true,Bool.false_or,h2]at this
  exact(s8 this).symm
theorem HM {n:Nat} {ops:Array Oper} {vl:List aZ} {K:Env->Rows->Prop} (yW:qx ops vl (kq ops)=true) (hlen:vl.length=ops.size) {i:Nat} {vi:aZ} (hi:vl[i]? =some vi) {v:AV}:∀(fuel:Nat) (listed:Array Bool) (env:Env) (g g1:Rows),
  DC ops listed->i∈Region.ready .any ops listed->GS X n vi env g v g1->NH X n ops vl K fuel (listed.setIfInBounds i true) (upd env vi.dst v) g1->NH X n ops vl K (fuel+1) listed env g:=by
 intro fuel
 induction fuel with
 |zero=>
  intro listed env g g1 _ hr hG H
  refine⟨fun h=>(by rw[h]at hr;cases hr),fun j hj=>?_⟩
  by_cases nC:j=i
  ·subst nC;exact⟨vi,hi,v,g1,hG,H⟩
  ·have:=ready_mono hj nC
   rw[H.1]at this;cases this
 |succ fuel ih=>
  intro listed env g g1 vn hr hG H
  refine⟨fun h=>(by rw[h]at hr;cases hr),fun j hj=>?_⟩
  by_cases nC:j=i
  ·subst nC;exact⟨vi,hi,v,g1,hG,H⟩
  ·obtain⟨vj,PH,v',g2,hG2,H2⟩:=H.2 j (ready_mono hj nC)
   have b1:((kq ops).getD j 0).testBit i=false:=by
    cases hb:((kq ops).getD j 0).testBit i with
    |false=>rfl
    |true=>have:=mu vn hj i hb;rw[jW hr]at this;cases this
   have b2:((kq ops).getD i 0).testBit j=false:=by
    cases hb:((kq ops).getD i 0).testBit j with
    |false=>rfl
    |true=>have:=mu vn hr j hb;rw[jW hj]at this;cases this
   have F:=Ed yW hi PH (fun e=>nC e.symm) b1 b2
   obtain⟨O6,q1,q2,q3⟩:=HX F hG hG2
   refine⟨vj,PH,v',O6,q1,ih _ _ _ g2 (vn.list hj) (ready_mono hr (fun e=>nC e.symm)) q2 ?_⟩
   rw[<-q3,Array.setIfInBounds_comm _ _ nC]
   exact H2
theorem RW {n:Nat} {vo:aZ} {env:Env} {g:Rows} {v:AV} {mr:Option Row} (h:fa vo.op (du env) (fW vo.hid n g) ⟨vo.site,n⟩=some (v,mr)):VS X n vo env g v (j6 g ⟨vo.site,n⟩ mr):=by
 unfold VS
 split
 ·rename_i eS;rw[eS]at h;simp[fa]at h
 ·rename_i eS;rw[eS]at h;simp[fa]at h
 ·rename_i eS;rw[eS]at h;simp[fa]at h
 ·rename_i eS;rw[eS]at h;simp[fa]at h
 ·rename_i eS;rw[eS]at h;simp[fa]at h
 ·rename_i eS;rw[eS]at h;simp[fa]at h
 ·rename_i eS;rw[eS]at h;simp[fa]at h
 ·exact⟨mr,h,rfl⟩
theorem Lq {n:Nat} {vo:aZ} {env:Env} {g g':Rows} {v:AV} (h:fX vo.op (du env) g ⟨vo.site,n⟩=some (v,g')):VS X n vo env g v g':=by
 unfold VS
 split
 ·rename_i eS;rw[eS]at h;simp[fX]at h
 ·rename_i eS;rw[eS]at h;simp[fX]at h
 ·exact h
 ·exact h
 ·exact h
 ·exact h
 ·exact h
 ·rename_i n1 n2 n3 n4 n5 n6 n7
  exfalso
  unfold fX at h
  split at h
  ·rename_i hh;exact n3 _ _ _ hh
  ·rename_i hh;exact n4 _ _ _ hh
  ·rename_i hh;exact n5 _ _ _ hh
  ·rename_i hh;exact n6 _ _ hh
  ·rename_i hh;exact n7 _ _ hh
  ·simp at h
theorem T8 {vo:aZ} {env:Env} {σ:az} {next:AV->az->Prop} (hv:fP X true vo env σ next):∃v g',VS X σ.next vo env σ.get v g'/\next v ⟨g',σ.next⟩:=by
 unfold fP at hv
 split at hv
 ·rename_i f args eS
  rcases hv with⟨r,hP,hn⟩|⟨h,_⟩|⟨hs,sz,rows,hM,hn⟩
  ·exact⟨r,σ.get,by unfold VS;rw[eS];exact .inl ⟨hP,rfl⟩,hn⟩
  ·cases h
  ·exact⟨_,_,by unfold VS;rw[eS];exact .inr ⟨hs,sz,rows,hM,rfl,rfl⟩,hn⟩
 ·rename_i x args eS
  split at hv
  ·rename_i f dJ hx
   have xc:yz (du env x) (args.map (du env))=some (f,args.map (du env)++dJ):=by rw[hx];rfl
   rcases hv with⟨r,hP,hn⟩|⟨h,_⟩|⟨hs,sz,rows,hM,hn⟩
   ·exact⟨r,σ.get,by unfold VS;rw[eS];exact⟨f,_,xc,.inl ⟨hP,rfl⟩⟩,hn⟩
   ·cases h
   ·exact⟨_,_,by unfold VS;rw[eS];exact⟨f,_,xc,.inr ⟨hs,sz,rows,hM,rfl,rfl⟩⟩,hn⟩
  ·rename_i f dJ hx
   have xc:yz (du env x) (args.map (du env))=some (f,dJ++args.map (du env)):=by rw[hx];rfl
   rcases hv with⟨r,hP,hn⟩|⟨h,_⟩|⟨hs,sz,rows,hM,hn⟩
   ·exact⟨r,σ.get,by unfold VS;rw[eS];exact⟨f,_,xc,.inl ⟨hP,rfl⟩⟩,hn⟩
   ·cases h
   ·exact⟨_,_,by unfold VS;rw[eS];exact⟨f,_,xc,.inr ⟨hs,sz,rows,hM,rfl,rfl⟩⟩,hn⟩
  ·exact hv.elim
 ·split at hv
  ·rename_i v g h;exact⟨v,g,Lq h,hv⟩
  ·exact hv.elim
 ·split at hv
  ·rename_i v g h;exact⟨v,g,Lq h,hv⟩
  ·exact hv.elim
 ·split at hv
  ·rename_i v g h;exact⟨v,g,Lq h,hv⟩
  ·exact hv.elim
 ·split at hv
  ·rename_i v g h;exact⟨v,g,Lq h,hv⟩
  ·exact hv.elim
 ·split at hv
  ·rename_i v g h;exact⟨v,g,Lq h,hv⟩
  ·exact hv.elim
 ·split at hv
  ·rename_i v r h;exact⟨v,_,RW h,hv⟩
  ·rename_i v h;exact⟨v,_,RW h,hv⟩
  ·exact hv.elim
theorem zV {ops:Array Oper} {vl:List aZ} {K:Env->az->Prop} {n:Nat} (yW:qx ops vl (kq ops)=true) (hlen:vl.length=ops.size):∀(r:List aZ) (k:Nat) (listed:Array Bool) (env:Env) (g:Rows),
  (∀j,r[j]? =vl[k+j]?)->listed.size=ops.size->(∀i,i<ops.size->listed[i]? =some (decide (i<k)))->k+r.length=ops.size->DC ops listed->wpOps X true r K env ⟨g,n⟩->NH X n ops vl (fun env g=>K env ⟨g,n+1⟩) r.length listed env g
 |[],k,listed,env,g,_,eQ,hl,hk,_,hv=>by
  refine⟨?_,hv⟩
  rw[List.eq_nil_iff_forall_not_mem]
  intro j hj
  obtain⟨h0,o,ho,_⟩:=mem_ready.1 hj
  have eW:j<ops.size:=(Array.getElem?_eq_some_iff.1 ho).1
  have:=hl j eW
  simp at hk
  simp[this,show j<k by omega]at h0
 |vo::r,k,listed,env,g,hr,eQ,hl,hk,vn,hv=>by
  simp only[List.length_cons]at hk
  have l5:vl[k]? =some vo:=by simpa using(hr 0).symm
  have mM:k<ops.size:=ah
  have Mn:k∈Region.ready .any ops listed:=by
   rw[mem_ready]
   refine⟨by simp[hl k mM],ops[k],Array.getElem?_eq_getElem mM,fun e he hb=>?_⟩
   unfold qx Ic at yW
   simp only[Bool.and_eq_true,List.all_eq_true]at yW
   have hm:(ops[k],k)∈ops.toList.zipIdx:=by
    rw[List.mem_iff_getElem?]
    exact⟨k,by simp[List.getElem?_zipIdx,mM]⟩
   have:=yW.1 _ hm
   rw[Array.all_eq_true_iff_forall_mem]at this
   have:=this e he
   simp only[hb,Bool.not_true,Bool.false_or,decide_eq_true_eq]at this
   simp[hl e.on ah,this]
  have hGS:∃v g',GS X n vo env g v g'/\wpOps X true r K (upd env vo.dst v) ⟨g',n⟩:=by
   unfold wpOps at hv
   unfold GS
   split at hv
   ·rename_i hw
    simp only[hw,if_true]
    exact T8 hv
   ·rename_i hw
    simp only[hw]
    exact⟨.undef,g,⟨rfl,rfl⟩,hv⟩
  obtain⟨v,g',h1,h2⟩:=hGS
  refine HM yW hlen l5 r.length listed env g g' vn Mn h1 ?_
  refine zV yW hlen r (k+1) _ _ _ (fun j=>by have:=hr (j+1);simpa[Nat.add_assoc,Nat.add_comm 1 j]using this) (by simp[eQ]) (fun i hi=>?_) ah (vn.list Mn) h2
  by_cases xZ:i=k
  ·subst xZ;simp[eQ,mM]
  ·rw[Array.getElem?_setIfInBounds_ne (fun e=>xZ e.symm),hl i hi]
   congr 1
   have:(i<k)=(i<k+1):=by apply propext;omega
   simp[this]
theorem qn {f:Nat->Oper->Option aZ}:∀{l:List Oper} {vl:List aZ} {j:Nat},allM f l j=some vl->vl.length=l.length/\∀(i:Nat) (o:Oper),l[i]? =some o->∃vo,vl[i]? =some vo/\f (j+i) o=some vo
 |[],vl,j,h=>by simp[allM]at h;subst h;simp
 |o::l,vl,j,h=>by
  simp only[allM,Option.bind_eq_bind,Option.bind_eq_some_iff,Option.pure_def,Option.some.injEq]at h
  obtain⟨vo,l5,wK,pZ,rfl⟩:=h
  obtain⟨h1,h2⟩:=qn pZ
  refine⟨by simp[h1],fun i o' hi=>?_⟩
  cases i with
  |zero=>simp at hi;subst hi;exact⟨vo,rfl,l5⟩
  |succ i=>
   simp at hi
   obtain⟨q,hq,hf⟩:=h2 i o' hi
   exact⟨q,by simpa using hq,by rw[<-hf];congr 1;omega⟩
theorem AJ {ops:Array Oper} {vl:List aZ} {nt site0:Nat} {draw mk:Bool} {bs:Array Nat} {hidden:List (Nat×Bool)} {n:Nat} {K:Env->Rows->Prop} {Q:Exit->Act->World->Prop} (eV:allM (mc P ops nt site0 draw mk bs hidden) ops.toList 0=some vl):
  ∀(fuel:Nat) (listed:Array Bool) (env:Env) (g:Rows) (a:Act) (w:World) (D:Nat->Prop) (ι:Names) (U:Nat->Prop),NH (Sound P) n ops vl K fuel listed env g->ik P hs D ι g w->Used ι n U->(∀s,U s->∃i,s=site0+i/\listed.getD i false=true)->dn P w D ι env a->a.tmps.size=nt->
  (∀jC g' a' w' D' ι' U',K jC g'->Step hs D ι w D' ι' w'->ik P hs D' ι' g' w'->Used ι' n U'->dn P w' D' ι' jC a'->a'.tmps.size=nt->a'.defers=a.defers->Q .normal a' w')->wpAny P .any ops Q fuel listed a w:=by
 intro fuel
 induction fuel with
 |zero=>intro listed env g a w D ι U h S Us hU E eQ hQ;exact⟨h.1,hQ env g a w D ι U h.2 (Step.refl _ _ _ _) S Us E eQ rfl⟩
 |succ fuel ih=>
  intro listed env g a w D ι U h S Us hU E eQ hQ
  refine⟨fun hr=>hQ env g a w D ι U (h.1 hr) (Step.refl _ _ _ _) S Us E eQ rfl,fun i hi=>?_⟩
  obtain⟨vo,l5,v,g',hG,Rq⟩:=h.2 i hi
  obtain⟨_,o,ho,_⟩:=mem_ready.1 hi
  obtain⟨vo',nT,WS⟩:=(qn eV).2 i o (by simpa using ho)
  rw[l5]at nT;injection nT with nT;subst nT
  rw[Nat.zero_add]at WS
  obtain⟨hc,hd,EM,Al,hg⟩:=rl WS
  have hw:=wL (ops:=ops) (vo:=vo) E hg
  have hUi:¬U vo.site:=fun hu=>by
   obtain⟨i',he,hl⟩:=hU _ hu
   have:i'=i:=ah
   subst this
   rw[jW hi]at hl;cases hl
  have kr:i<listed.size:=by
   have h0:=(mem_ready.1 hi).1
   rcases Nat.lt_or_ge i listed.size with h|h
   ·exact h
   ·simp[Array.getElem?_eq_none h]at h0
  unfold wpOp
  simp only[ho]
  rw[<-hw]
  unfold GS at hG
  by_cases JW:aM vo.guard env=true
  ·rw[if_pos JW]
   rw[if_pos JW]at hG
   refine .inl (DO hc hG S Us hUi E fun a' w' ⟨u,D',ι',ha,T,S',hR,U'⟩=>?_)
   subst ha
   refine ih _ _ _ _ w' D' ι' _ Rq S' U' (fun s EJ=>?_) (by rw[hd];exact jt (qy E T) hR Al eQ) (by rw[fU];exact eQ) fun jC g2 a2 w2 D2 ι2 U2 hk T2 S2 ZI E2 qJ GW=>hQ jC g2 a2 w2 D2 ι2 U2 hk (T.trans T2) S2 ZI E2 qJ (GW.trans (put_defers _ _ _))
   rcases EJ with h|h
   ·obtain⟨i',he,hl⟩:=hU _ h
    exact⟨i',he,getD_set_true hl⟩
   ·exact⟨i,by rw[h,EM],by simp[kr]⟩
  ·rw[if_neg JW]
   rw[if_neg JW]at hG
   obtain⟨rfl,rfl⟩:=hG
   refine ih _ _ _ _ w D ι U Rq S Us (fun s EJ=>?_) (by rw[hd];exact jt E dy.undef Al eQ) (by rw[fU];exact eQ) fun jC g2 a2 w2 D2 ι2 U2 hk T2 S2 ZI E2 qJ GW=>hQ jC g2 a2 w2 D2 ι2 U2 hk T2 S2 ZI E2 qJ (GW.trans (put_defers _ _ _))
   obtain⟨i',he,hl⟩:=hU _ EJ
   exact⟨i',he,getD_set_true hl⟩
end
end Go.Proofs.YtiabgllilcfheaaGreat.V

namespace Go.Proofs.YtiabgllilcfheaaGreat.V
open Go.RowKit
variable {P:Program} {w w':World} {D D' D2:Nat->Prop} {ι ι' ι2:Names}
section
variable {hs:Nat} {X:gT}
def sF (X:gT):Prop:=∀f args σ K K',(∀r σ',K r σ'->K' r σ')->X f args σ K->X f args σ K'
theorem ma:sF (Sound P):=fun _ _ _ _ _ hK h hs D ι w vs S U A=>
 (h hs D ι w vs S U A).mono fun _ _ ⟨r,g',n',D',ι',u,he,hk,rest⟩=>⟨r,g',n',D',ι',u,he,hK _ _ hk,rest⟩
def step (X:gT) (vo:aZ) (N:Env->az->Prop) (env:Env) (σ:az):Prop:=
 if aM vo.guard env then fP X false vo env σ fun v σ'=>N (upd env vo.dst v) σ' else N (upd env vo.dst .undef) σ
theorem sV (hK:sF X) {draw:Bool} {hid:List Nat} {site f:Nat} {args:List AV} {σ:az} {n n':AV->az->Prop} (hn:∀v σ',n v σ'->n' v σ') (hp:cK X draw hid site f args σ n):cK X draw hid site f args σ n':=by
 rcases hp with⟨r,h1,h2⟩|⟨h1,h2⟩|⟨h1,sz,rows,h2,h3⟩
 ·exact .inl ⟨r,h1,hn _ _ h2⟩
 ·exact .inr (.inl ⟨h1,hK _ _ _ _ _ hn h2⟩)
 ·exact .inr (.inr ⟨h1,sz,rows,h2,hn _ _ h3⟩)
theorem FT (hK:sF X) {draw:Bool} {o:aZ} {env:Env} {σ:az} {n n':AV->az->Prop} (hn:∀v σ',n v σ'->n' v σ') (hp:fP X draw o env σ n):fP X draw o env σ n':=by
 unfold fP at hp ⊢
 split at hp
 ·exact sV hK hn hp
 ·split at hp
  ·exact sV hK hn hp
  ·exact sV hK hn hp
  ·exact hp.elim
 ·split at hp
  ·exact hn _ _ hp
  ·exact hp.elim
 ·split at hp
  ·exact hn _ _ hp
  ·exact hp.elim
 ·split at hp
  ·exact hn _ _ hp
  ·exact hp.elim
 ·split at hp
  ·exact hn _ _ hp
  ·exact hp.elim
 ·split at hp
  ·exact hn _ _ hp
  ·exact hp.elim
 ·split at hp
  ·exact hn _ _ hp
  ·exact hn _ _ hp
  ·exact hp.elim
theorem k8 (hK:sF X) {vo:aZ} {N N':Env->az->Prop} (h:∀e s,N e s->N' e s) {env:Env} {σ:az} (hp:step X vo N env σ):step X vo N' env σ:=by
 unfold step at hp ⊢
 split at hp
 ·rename_i hw;rw[if_pos hw];exact FT hK (fun v σ'=>h _ _) hp
 ·rename_i hw;rw[if_neg hw];exact h _ _ hp
theorem KO {env jN:Env} {vo:aZ} {σ:az} {n:AV->az->Prop} (h:∀t∈vo.op.iQ,env t=jN t) (hv:fP X false vo env σ n):fP X false vo jN σ n:=by
 unfold fP at hv ⊢
 split at hv
 ·rename_i f args eS
  rw[eS]at h
  simp only[iI.iQ]at h
  rw[<-map_congr h];exact hv
 ·rename_i x args eS
  rw[eS]at h
  simp only[iI.iQ,List.mem_append]at h
  rw[<-map_congr (l:=args) fun t ht=>h t (.inr ht),<-cq (x:=x) fun t ht=>h t (.inl ht)];exact hv
 ·rw[<-jd h];exact hv
 ·rw[<-jd h];exact hv
 ·rw[<-jd h];exact hv
 ·rw[<-jd h];exact hv
 ·rw[<-jd h];exact hv
 ·rw[<-wz h];exact hv
theorem nu {x:aZ} (hq:mo x=true) {N:Env->az->Prop} {env:Env} {σ:az}:step X x N env σ↔∃v g',GS X σ.next x env σ.get v g'/\N (upd env x.dst v) ⟨g',σ.next⟩:=by
 unfold mo at hq
 simp only[Bool.and_eq_true,Bool.not_eq_true',bne_iff_ne]at hq
 obtain⟨F5,JR⟩:=hq
 unfold step GS
 by_cases hw:aM x.guard env=true
 ·rw[if_pos hw]
  simp only[hw,if_true]
  unfold fP
  split
  ·rename_i eS;simp[eS,iI.nD]at F5
  ·rename_i eS;simp[eS,iI.nD]at F5
  ·rename_i eS;simp[eS,iI.cls]at JR
  ·rename_i eS;simp[eS,iI.cls]at JR
  ·rename_i eS;simp[eS,iI.cls]at JR
  ·rename_i eS;simp[eS,iI.cls]at JR
  ·rename_i eS;simp[eS,iI.cls]at JR
  ·rename_i n1 n2 n3 n4 n5 n6 n7
   have hVS:∀v g',VS X σ.next x env σ.get v g'↔∃mr,fa x.op (du env) (fW x.hid σ.next σ.get) ⟨x.site,σ.next⟩=some (v,mr)/\g'=j6 σ.get ⟨x.site,σ.next⟩ mr:=fun v g'=>by
    unfold VS
    split
    ·rename_i hh;exact(n1 _ _ hh).elim
    ·rename_i hh;exact(n2 _ _ hh).elim
    ·rename_i hh;exact(n3 _ _ _ hh).elim
    ·rename_i hh;exact(n4 _ _ _ hh).elim
    ·rename_i hh;exact(n5 _ _ _ hh).elim
    ·rename_i hh;exact(n6 _ _ hh).elim
    ·rename_i hh;exact(n7 _ _ hh).elim
    ·exact Iff.rfl
   simp only[hVS]
   cases hz:fa x.op (du env) (fW x.hid σ.next σ.get) ⟨x.site,σ.next⟩with
   |none=>
    exact⟨fun h=>h.elim,fun⟨v,g',⟨mr,h,_⟩,_⟩=>by cases h⟩
   |some p=>
    obtain⟨v,mr⟩:=p
    have key:∀(v':AV) (g':Rows),(∃VU,some (v,mr)=some (v',VU)/\g'=j6 σ.get ⟨x.site,σ.next⟩ VU)↔v'=v/\g'=j6 σ.get ⟨x.site,σ.next⟩ mr:=fun v' g'=>by
     constructor
     ·rintro⟨VU,h1,h2⟩
      injection h1 with h1;injection h1 with h1 h3
      subst h1;subst h3
      exact⟨rfl,h2⟩
     ·rintro⟨rfl,rfl⟩;exact⟨mr,rfl,rfl⟩
    have fin:(∃v' g',(∃VU,some (v,mr)=some (v',VU)/\g'=j6 σ.get ⟨x.site,σ.next⟩ VU)/\N (upd env x.dst v') ⟨g',σ.next⟩)↔N (upd env x.dst v) ⟨j6 σ.get ⟨x.site,σ.next⟩ mr,σ.next⟩:=by
     constructor
     ·rintro⟨v',g',h,Z⟩
      obtain⟨rfl,rfl⟩:=(key v' g').1 h
      exact Z
     ·intro Z;exact⟨v,_,(key _ _).2 ⟨rfl,rfl⟩,Z⟩
    cases mr with
    |none=>exact fin.symm
    |some r=>exact fin.symm
 ·rw[if_neg hw]
  simp only[if_neg hw]
  exact⟨fun h=>⟨_,_,⟨rfl,rfl⟩,h⟩,fun⟨v,g',⟨hv,hg⟩,h⟩=>by rw[hv,hg]at h;exact h⟩
def xv (x:aZ) (env:Env) (v:AV):Prop:=if aM x.guard env then fa x.op (du env) (fun _=>none) ⟨0,0⟩=some (v,none)else v=.undef
theorem zx {x:aZ} (hp:x.op.cls=.pure):mo x=true:=by
 unfold mo
 rw[hp]
 cases hc:x.op<;>simp[hc,iI.cls]at hp<;>rfl
theorem wH {x:aZ} (hp:x.op.cls=.pure) {N:Env->az->Prop} {env:Env} {σ:az}:step X x N env σ↔∃v,xv x env v/\N (upd env x.dst v) σ:=by
 rw[nu (zx hp)]
 unfold GS xv
 by_cases hw:aM x.guard env=true
 ·simp only[hw,if_true]
  constructor
  ·rintro⟨v,g',h,Z⟩
   obtain⟨rfl,eV⟩:=B7 hp h
   refine⟨v,?_,Z⟩
   unfold VS at h
   split at h
   ·rename_i eS;rw[eS]at hp;simp[iI.cls]at hp
   ·rename_i eS;rw[eS]at hp;simp[iI.cls]at hp
   ·rename_i eS;rw[eS]at hp;simp[iI.cls]at hp
   ·rename_i eS;rw[eS]at hp;simp[iI.cls]at hp
   ·rename_i eS;rw[eS]at hp;simp[iI.cls]at hp
   ·rename_i eS;rw[eS]at hp;simp[iI.cls]at hp
   ·rename_i eS;rw[eS]at hp;simp[iI.cls]at hp
   ·obtain⟨mr,hq,_⟩:=h
    have hmr:mr=none:=by
     cases mr with
     |none=>rfl
     |some r=>have:=zA hq;simp[tp,hp]at this
    subst hmr
    rw[<-zB (g:=fW x.hid σ.next σ.get) (id:=⟨x.site,σ.next⟩) hp];exact hq
  ·rintro⟨v,h,Z⟩
   exact⟨v,σ.get,RW (mr:=none) (by rw[zB (g2:=fun _=>none) (id2:=⟨0,0⟩) hp];exact h),Z⟩
 ·simp only[if_neg hw]
  exact⟨fun⟨v,g',⟨hv,hg⟩,h⟩=>⟨v,hv,by rw[hg]at h;exact h⟩,fun⟨v,hv,h⟩=>⟨v,σ.get,⟨hv,rfl⟩,h⟩⟩
theorem NP {x:aZ} {env jN:Env} {v:AV} (h:∀t∈x.iQ,env t=jN t) (hv:xv x env v):xv x jN v:=by
 unfold xv at hv ⊢
 rw[<-pg h,<-wz fun t ht=>h t (uU ht)];exact hv
structure QV (x y:aZ):Prop where
 xy:∀k,x.dst=some k->k∉y.iQ
 yx:∀k,y.dst=some k->k∉x.iQ
 dst:∀k,x.dst=some k->y.dst≠some k
theorem uZ {x y:aZ} (h:wJ x y=true):QV x y:=by
 unfold wJ at h
 simp only[Bool.and_eq_true]at h
 obtain⟨a1,a2⟩:=h
 refine⟨fun k hk=>?_,fun k hk=>?_,fun k hk=>?_⟩
 ·rw[hk]at a1;simp at a1;exact a1.1
 ·rw[hk]at a2;simpa using a2
 ·rw[hk]at a1;simp at a1;exact a1.2
theorem A3 {x y:aZ} (h:AZ x y=true):(QV x y/\x.op.cls=.pure)∨(Ge x y/\mo x=true/\mo y=true):=by
 unfold AZ at h
 simp only[Bool.or_eq_true,Bool.and_eq_true,beq_iff_eq]at h
 rcases h with⟨h1,h2⟩|⟨⟨h1,h2⟩,h3⟩
 ·exact .inl ⟨uZ h1,h2⟩
 ·exact .inr ⟨s8 h1,h2,h3⟩
theorem Ej {x y:aZ} (h:AZ x y=true):mo x=true:=by
 rcases A3 h with h|h
 ·exact zx h.2
 ·exact h.2.1
theorem KE (hK:sF X) {x y:aZ} (hf:AZ x y=true) {N:Env->az->Prop} {env:Env} {σ:az} (h:step X x (fun e s=>step X y N e s) env σ):step X y (fun e s=>step X x N e s) env σ:=by
 rcases A3 hf with⟨F,hp⟩|⟨F,hx,hy⟩
 ·rw[wH hp]at h
  obtain⟨v,hx,h⟩:=h
  have Mr:=fun(v':AV)=>zU (env:=env) (v:=v) (u:=v') F.dst
  have z6:=oh (env:=env) (v:=v) F.xy
  have back:∀(v':AV),xv x (upd env y.dst v') v:=fun v'=>NP (fun t ht=>(oh F.yx t ht).symm) hx
  unfold step at h ⊢
  rw[pg z6]at h
  split at h
  ·rename_i hw
   rw[if_pos hw]
   refine FT hK (fun v' σ' Z=>?_) (KO (fun t ht=>z6 t (uU ht)) h)
   rw[Mr]at Z
   exact(wH hp).2 ⟨v,back v',Z⟩
  ·rename_i hw
   rw[if_neg hw]
   rw[Mr]at h
   exact(wH hp).2 ⟨v,back _,h⟩
 ·rw[nu hx]at h
  obtain⟨v,g1,h1,h⟩:=h
  rw[nu hy]at h
  obtain⟨v',g2,h2,h⟩:=h
  obtain⟨O6,q1,q2,q3⟩:=HX F h1 h2
  rw[q3]at h
  exact(nu hy).2 ⟨v',O6,q1,(nu hx).2 ⟨v,g2,q2,h⟩⟩
def Df (X:gT) (ops:Array Oper) (vl:List aZ) (K:Env->az->Prop):Nat->Array Bool->Env->az->Prop
 |0,listed,env,σ=>Region.ready .any ops listed=[]/\K env ⟨σ.get,σ.next+1⟩
 |f+1,listed,env,σ=>(Region.ready .any ops listed=[]->K env ⟨σ.get,σ.next+1⟩)/\∀i∈Region.ready .any ops listed,∃vo,vl[i]? =some vo/\step X vo (fun e s=>Df X ops vl K f (listed.setIfInBounds i true) e s) env σ
theorem GB {ops:Array Oper} {vl:List aZ} {bs:Array Nat} {listed:Array Bool} {i:Nat} (h:s6 ops vl bs listed i=true) (j:Nat):s6 ops vl bs (listed.setIfInBounds j true) i=true:=by
 unfold s6 at h ⊢
 split at h
 ·rename_i x hx
  simp only[List.all_eq_true,Bool.or_eq_true]at h ⊢
  intro k hk
  rcases h k hk with((h|h)|h)|h
  ·exact .inl (.inl (.inl (getD_set_true h)))
  ·exact .inl (.inl (.inr h))
  ·exact .inl (.inr h)
  ·exact .inr h
 ·cases h
theorem wR {ops:Array Oper} {vl:List aZ} {listed:Array Bool} {i j:Nat} {vi:aZ} (vn:DC ops listed) (h:s6 ops vl (kq ops) listed i=true) (hi:vl[i]? =some vi) (hr:i∈Region.ready .any ops listed) (hj:j∈Region.ready .any ops listed) (nC:j≠i):∃vj,vl[j]? =some vj/\AZ vi vj=true:=by
 unfold s6 at h
 rw[hi]at h
 simp only[List.all_eq_true,Bool.or_eq_true,beq_iff_eq]at h
 obtain⟨_,o,ho,_⟩:=mem_ready.1 hj
 rcases h j (List.mem_range.2 (Array.getElem?_eq_some_iff.1 ho).1)with((h|h)|h)|h
 ·rw[jW hj]at h;cases h
 ·exact absurd h nC
 ·have:=mu vn hj i h
  rw[jW hr]at this;cases this
 ·split at h
  ·rename_i y hy;exact⟨y,hy,h⟩
  ·cases h
theorem HO (hK:sF X) {ops:Array Oper} {vl:List aZ} {K:Env->az->Prop} {i:Nat} {vi:aZ} (hi:vl[i]? =some vi):∀(fuel:Nat) (listed:Array Bool) (env:Env) (σ:az),
  DC ops listed->i∈Region.ready .any ops listed->s6 ops vl (kq ops) listed i=true->step X vi (fun e s=>Df X ops vl K fuel (listed.setIfInBounds i true) e s) env σ->Df X ops vl K (fuel+1) listed env σ:=by
 intro fuel
 induction fuel with
 |zero=>
  intro listed env σ vn hr jP H
  refine⟨fun h=>(by rw[h]at hr;cases hr),fun j hj=>?_⟩
  by_cases nC:j=i
  ·subst nC;exact⟨vi,hi,H⟩
  ·obtain⟨vj,PH,W6⟩:=wR vn jP hi hr hj nC
   rw[nu (Ej W6)]at H
   obtain⟨v,g',_,H⟩:=H
   have:=ready_mono hj nC
   rw[H.1]at this;cases this
 |succ fuel ih=>
  intro listed env σ vn hr jP H
  refine⟨fun h=>(by rw[h]at hr;cases hr),fun j hj=>?_⟩
  by_cases nC:j=i
  ·subst nC;exact⟨vi,hi,H⟩
  ·obtain⟨vj,PH,W6⟩:=wR vn jP hi hr hj nC
   refine⟨vj,PH,?_⟩
   have H2:step X vi (fun e s=>step X vj (fun e s=>Df X ops vl K fuel ((listed.setIfInBounds i true).setIfInBounds j true) e s) e s) env σ:=k8 hK (fun e s h=>by
    obtain⟨vj',Cz,h'⟩:=h.2 j (ready_mono hj nC)
    rw[PH]at Cz;injection Cz with Cz;subst Cz
    exact h') H
   refine k8 hK (fun e s h=>?_) (KE hK W6 H2)
   refine ih _ _ _ (vn.list hj) (ready_mono hr (fun e=>nC e.symm)) (GB jP j) ?_
   rw[Array.setIfInBounds_comm _ _ nC]
   exact h
theorem wG {x:aZ} (hg:x.guard=none) {N:Env->az->Prop} {env:Env} {σ:az}:step X x N env σ=fP X false x env σ (fun v σ'=>N (upd env x.dst v) σ'):=by
 unfold step
 rw[hg]
 simp[aM]
theorem HG {x y:aZ} {t s sz:Nat} {ys:O} (hx:x.op=.append sz (.t t) ys) (hg:x.guard=none) (hf:Ik s x y=true) {N:Env->az->Prop} {env:Env} {σ:az} (hl:PY t s ys env σ.next) (h:step X x (fun e s=>step X y N e s) env σ):
  step X y (fun e σ'=>PY t s ys e σ'.next/\step X x N e σ') env σ:=by
 unfold Ik at hf
 simp only[Bool.and_eq_true,bne_iff_ne]at hf
 obtain⟨⟨⟨⟨⟨f1,hq⟩,f3⟩,f4⟩,f5⟩,f6⟩:=hf
 have F:=uZ f1
 obtain⟨⟨len,ht⟩,JU⟩:=hl
 have Mp:∀k∈x.op.iQ,∀v',upd env y.dst v' k=env k:=fun k hk v'=>oh (env:=env) (v:=v') F.yx k (uU hk)
 have eA:t∈x.op.iQ:=by rw[hx];simp[iI.iQ,iY]
 have Gb:∀v',du (upd env y.dst v') ys=du env ys:=fun v'=>(cq fun k hk=>by rw[Mp k (by rw[hx];simp[iI.iQ,hk])]).symm
 rw[wG hg]at h
 unfold fP at h
 simp only[hx,fX]at h
 have ex:du env (.t t)=.own ⟨s,σ.next⟩ 0 len:=ht
 rw[ex]at h
 cases hr:bF σ.get (du env ys)with
 |none=>rw[hr]at h;exact h.elim
 |some rs=>
  rw[hr]at h
  simp only[Option.bind_some,aY]at h
  cases Oo:σ.get ⟨s,σ.next⟩with
  |none=>rw[Oo]at h;exact h.elim
  |some r=>
   rw[Oo]at h
   simp only[Option.bind_some]at h
   split at h
   ·rename_i v g1 hv
    split at hv
    ·rename_i hcond
     simp only[Option.some.injEq,Prod.mk.injEq]at hv
     obtain⟨rfl,rfl⟩:=hv
     rw[nu hq]at h
     obtain⟨v',g2,hG,Z⟩:=h
     have Pu:(⟨y.site,σ.next⟩:Id)≠⟨s,σ.next⟩:=fun e=>f5 (by injection e)
     have Mf:(⟨y.site,σ.next⟩:Id)≠⟨x.site,σ.next⟩:=fun e=>f6 (by injection e)
     replace hG:GS X σ.next y env (bL (cu σ.get ⟨s,σ.next⟩) ⟨x.site,σ.next⟩ ⟨true,sz,r.rows++rs⟩) v' g2:=yj (oh F.xy) hG
     have hvis:fW y.hid σ.next σ.get=fW y.hid σ.next (bL (cu σ.get ⟨s,σ.next⟩) ⟨x.site,σ.next⟩ ⟨true,sz,r.rows++rs⟩):=by
      cases hh:y.hid with
      |nil=>rw[hh]at f3;simp at f3
      |cons a l=>
       rw[hh]at f3 f4
       funext i
       show(if (a::l).contains i.site=true/\i.bj=σ.next then none else σ.get i)=if (a::l).contains i.site=true/\i.bj=σ.next then none else _
       by_cases h1:i=⟨x.site,σ.next⟩
       ·subst h1;rw[if_pos ⟨f4,rfl⟩,if_pos ⟨f4,rfl⟩]
       ·by_cases h2:i=⟨s,σ.next⟩
        ·subst h2;rw[if_pos ⟨f3,rfl⟩,if_pos ⟨f3,rfl⟩]
        ·simp only[bL,cu,if_neg h1,if_neg h2]
     obtain⟨my,W8,hG'⟩:∃my,g2=j6 (bL (cu σ.get ⟨s,σ.next⟩) ⟨x.site,σ.next⟩ ⟨true,sz,r.rows++rs⟩) ⟨y.site,σ.next⟩ my/\GS X σ.next y env σ.get v' (j6 σ.get ⟨y.site,σ.next⟩ my):=by
      unfold GS at hG ⊢
      by_cases wy:aM y.guard env=true
      ·rw[if_pos wy]at hG
       have hcw:y.op.cls≠.write:=by
        unfold mo at hq
        simp only[Bool.and_eq_true,bne_iff_ne]at hq
        exact hq.2
       obtain⟨my,rfl,_,R3⟩:=yp hcw hG
       exact⟨my,rfl,by rw[if_pos wy];exact R3 _ hvis⟩
      ·rw[if_neg wy]at hG
       obtain⟨rfl,rfl⟩:=hG
       exact⟨none,rfl,by rw[if_neg wy];exact⟨rfl,rfl⟩⟩
     subst W8
     refine(nu hq).2 ⟨v',_,hG',⟨⟨len,by rw[Mp t eA];exact ht⟩,fun id o l he=>JU id o l (by rw[<-Gb v'];exact he)⟩,?_⟩
     rw[wG hg]
     unfold fP
     have ex':du (upd env y.dst v') (.t t)=.own ⟨s,σ.next⟩ 0 len:=by
      show upd env y.dst v' t= _
      rw[Mp t eA];exact ht
     simp only[hx,fX,ex',Gb v']
     have qc:bF (j6 σ.get ⟨y.site,σ.next⟩ my) (du env ys)=some rs:=by
      cases my with
      |none=>exact hr
      |some row=>
       revert hr
       cases hev:du env ys<;>simp only[bF,j6]<;>try exact fun h=>h
       rename_i id o l
       have:id≠⟨y.site,σ.next⟩:=fun e=>JU id o l hev (by rw[e])
       simp only[bL,if_neg this];exact fun h=>h
     have hgs':j6 σ.get ⟨y.site,σ.next⟩ my ⟨s,σ.next⟩=some r:=by
      cases my with
      |none=>exact Oo
      |some row=>simp only[j6,bL,if_neg (fun e=>Pu e.symm:(⟨s,σ.next⟩:Id)≠⟨y.site,σ.next⟩)];exact Oo
     rw[qc]
     simp only[Option.bind_some,aY,hgs']
     rw[if_pos hcond]
     have W9:bL (cu (j6 σ.get ⟨y.site,σ.next⟩ my) ⟨s,σ.next⟩) ⟨x.site,σ.next⟩ ⟨true,sz,r.rows++rs⟩=j6 (bL (cu σ.get ⟨s,σ.next⟩) ⟨x.site,σ.next⟩ ⟨true,sz,r.rows++rs⟩) ⟨y.site,σ.next⟩ my:=by
      cases my with
      |none=>rfl
      |some row=>
       funext i
       simp only[j6,bL,cu]
       by_cases h1:i=⟨y.site,σ.next⟩
       ·subst h1;rw[if_neg Mf,if_neg Pu,if_pos rfl,if_pos rfl]
       ·simp only[if_neg h1]
     have hu:=zU (env:=env) (v:=AV.own ⟨x.site,σ.next⟩ 0 (len+rs.length)) (u:=v') F.dst
     show N (upd (upd env y.dst v') x.dst (.own ⟨x.site,σ.next⟩ 0 (len+rs.length))) ⟨bL (cu (j6 σ.get ⟨y.site,σ.next⟩ my) ⟨s,σ.next⟩) ⟨x.site,σ.next⟩ ⟨true,sz,r.rows++rs⟩,σ.next⟩
     rw[W9,<-hu]
     exact Z
    ·cases hv
   ·exact h.elim
theorem GA {ops:Array Oper} {vl:List aZ} {bs:Array Nat} {listed:Array Bool} {i s:Nat} (h:qz ops vl bs listed i s=true) (j:Nat):qz ops vl bs (listed.setIfInBounds j true) i s=true:=by
 unfold qz at h ⊢
 split at h
 ·rename_i x hx
  simp only[List.all_eq_true,Bool.or_eq_true]at h ⊢
  intro k hk
  rcases h k hk with((h|h)|h)|h
  ·exact .inl (.inl (.inl (getD_set_true h)))
  ·exact .inl (.inl (.inr h))
  ·exact .inl (.inr h)
  ·exact .inr h
 ·cases h
theorem Eh {ops:Array Oper} {vl:List aZ} {listed:Array Bool} {i j s:Nat} {vi:aZ} (vn:DC ops listed) (h:qz ops vl (kq ops) listed i s=true) (hi:vl[i]? =some vi) (hr:i∈Region.ready .any ops listed) (hj:j∈Region.ready .any ops listed) (nC:j≠i):∃vj,vl[j]? =some vj/\Ik s vi vj=true:=by
 unfold qz at h
 rw[hi]at h
 simp only[List.all_eq_true,Bool.or_eq_true,beq_iff_eq]at h
 obtain⟨_,o,ho,_⟩:=mem_ready.1 hj
 rcases h j (List.mem_range.2 (Array.getElem?_eq_some_iff.1 ho).1)with((h|h)|h)|h
 ·rw[jW hj]at h;cases h
 ·exact absurd h nC
 ·have:=mu vn hj i h
  rw[jW hr]at this;cases this
 ·split at h
  ·rename_i y hy;exact⟨y,hy,h⟩
  ·cases h
theorem FU (hK:sF X) {ops:Array Oper} {vl:List aZ} {K:Env->az->Prop} {i t s sz:Nat} {ys:O} {vi:aZ} (hi:vl[i]? =some vi) (hx:vi.op=.append sz (.t t) ys) (hg:vi.guard=none):∀(fuel:Nat) (listed:Array Bool) (env:Env) (σ:az),
  DC ops listed->i∈Region.ready .any ops listed->qz ops vl (kq ops) listed i s=true->PY t s ys env σ.next->step X vi (fun e s=>Df X ops vl K fuel (listed.setIfInBounds i true) e s) env σ->Df X ops vl K (fuel+1) listed env σ:=by
 intro fuel
 induction fuel with
 |zero=>
  intro listed env σ vn hr jP VE H
  refine⟨fun h=>(by rw[h]at hr;cases hr),fun j hj=>?_⟩
  by_cases nC:j=i
  ·subst nC;exact⟨vi,hi,H⟩
  ·exfalso
   have h0:=ready_mono hj nC
   rw[wG hg]at H
   unfold fP at H
   simp only[hx]at H
   split at H
   ·rw[H.1]at h0;cases h0
   ·exact H
 |succ fuel ih=>
  intro listed env σ vn hr jP VE H
  refine⟨fun h=>(by rw[h]at hr;cases hr),fun j hj=>?_⟩
  by_cases nC:j=i
  ·subst nC;exact⟨vi,hi,H⟩
  ·obtain⟨vj,PH,W6⟩:=Eh vn jP hi hr hj nC
   refine⟨vj,PH,?_⟩
   have H2:step X vi (fun e s=>step X vj (fun e s=>Df X ops vl K fuel ((listed.setIfInBounds i true).setIfInBounds j true) e s) e s) env σ:=k8 hK (fun e s h=>by
    obtain⟨vj',Cz,h'⟩:=h.2 j (ready_mono hj nC)
    rw[PH]at Cz;injection Cz with Cz;subst Cz
    exact h') H
   refine k8 hK (fun e s h=>?_) (HG hx hg W6 VE H2)
   refine ih _ _ _ (vn.list hj) (ready_mono hr (fun e=>nC e.symm)) (GA jP j) h.1 ?_
   rw[Array.setIfInBounds_comm _ _ nC]
   exact h.2
theorem MH {ops:Array Oper} {vl:List aZ} {bs:Array Nat} {listed:Array Bool} {i i' t s:Nat} {y:O} {vo:aZ} (h:TB ops vl bs listed i=some (i',t,s,y,vo)):i'=i/\vl[i]? =some vo/\(∃sz,vo.op=.append sz (.t t) y)/\vo.guard=none/\qz ops vl bs listed i s=true:=by
 unfold TB at h
 split at h
 ·rename_i x hx
  split at h
  ·rename_i t' s' y' kH
   split at h
   ·rename_i hf
    simp only[Option.some.injEq,Prod.mk.injEq]at h
    obtain⟨rfl,rfl,rfl,rfl,rfl⟩:=h
    unfold Rx at kH
    split at kH
    ·rename_i sz t2 y2 ho rz
     split at kH
     ·simp only[Option.some.injEq,Prod.mk.injEq]at kH
      obtain⟨rfl,rfl,rfl⟩:=kH
      exact⟨rfl,hx,⟨sz,ho⟩,rz,hf⟩
     ·cases kH
    ·cases kH
   ·cases h
  ·cases h
 ·cases h
theorem AO {X:gT} {Q:Ex->Env->az->Prop} {env:Env} {σ:az}:∀{l:List VC} {t:VC},DY l=some t->eC X t Q env σ->∀c∈l,eC X c Q env σ
 |[],t,h,_,c,hc=>by cases hc
 |[c0],t,h,hw,c,hc=>by
  simp only[DY,Option.some.injEq]at h
  subst h
  rw[List.mem_singleton]at hc
  subst hc;exact hw
 |c0::c1::r,t,h,hw,c,hc=>by
  simp only[DY,Option.map_eq_some_iff]at h
  obtain⟨t',Tk,rfl⟩:=h
  rcases List.mem_cons.1 hc with rfl|hc
  ·exact hw.1
  ·exact AO Tk hw.2 c hc
theorem mapM_mem {α β:Type} {f:α->Option β}:∀{l:List α} {r:List β},l.mapM f=some r->∀i∈l,∃b∈r,f i=some b
 |[],_,_,i,hi=>by cases hi
 |a::l,r,h,i,hi=>by
  simp only[List.mapM_cons,Option.bind_eq_bind,Option.bind_eq_some_iff,Option.pure_def,Option.some.injEq]at h
  obtain⟨b,hb,r',hr,rfl⟩:=h
  rcases List.mem_cons.1 hi with rfl|hi
  ·exact⟨b,by simp,hb⟩
  ·obtain⟨c,hc,hf⟩:=mapM_mem hr i hi
   exact⟨c,List.mem_cons_of_mem _ hc,hf⟩
theorem KJ (hK:sF X) {ops:Array Oper} {vl:List aZ} {Q:Ex->Env->az->Prop}:∀(n:Nat) (listed:Array Bool) (t:VC) (env:Env) (σ:az),zT ops vl (kq ops) n listed=some t->DC ops listed->eC X t Q env σ->Df X ops vl (Q .normal) n listed env σ:=by
 intro n
 induction n with
 |zero=>
  intro listed t env σ h _ hw
  unfold zT at h
  split at h
  ·rename_i hr
   simp only[Option.some.injEq]at h
   subst h
   exact⟨hr,hw⟩
  ·cases h
 |succ n ih=>
  intro listed t env σ h vn hw
  unfold zT at h
  split at h
  ·rename_i hr
   simp only[Option.some.injEq]at h
   subst h
   exact⟨fun _=>hw,fun i hi=>by rw[hr]at hi;cases hi⟩
  ·rename_i r rs hr
   dsimp only at h
   split at h
   ·rename_i i hfind
    have Pp:=List.mem_of_find?_eq_some hfind
    have xY:=List.find?_some hfind
    rw[<-hr]at Pp
    split at h
    ·rename_i vo l5
     simp only[Option.map_eq_some_iff]at h
     obtain⟨t',Tk,rfl⟩:=h
     exact HO hK l5 n listed env σ vn Pp xY (k8 hK (fun e s h=>ih _ _ _ _ Tk (vn.list Pp) h) hw)
    ·cases h
   ·split at h
    ·rename_i i t s y vo hfind
     obtain⟨i0,zZ,eW⟩:=List.exists_of_findSome?_eq_some hfind
     obtain⟨rfl,l5,⟨sz,eS⟩,rz,Ez⟩:=MH eW
     rw[<-hr]at zZ
     simp only[Option.map_eq_some_iff]at h
     obtain⟨t',Tk,rfl⟩:=h
     exact FU hK l5 eS rz n listed env σ vn zZ Ez hw.1 (k8 hK (fun e s h=>ih _ _ _ _ Tk (vn.list zZ) h) hw.2)
    split at h
    ·rename_i l hl
     have eV:=AO h hw
     refine⟨fun h=>(by rw[h]at hr;cases hr),fun i hi=>?_⟩
     rw[hr]at hi
     obtain⟨b,KZ,Cs⟩:=mapM_mem hl i hi
     simp only[Option.bind_eq_some_iff,Option.map_eq_some_iff]at Cs
     obtain⟨vo,l5,t',Tk,rfl⟩:=Cs
     exact⟨vo,l5,k8 hK (fun e s h=>ih _ _ _ _ Tk (vn.list (by rw[hr];exact hi)) h) (eV _ KZ)⟩
    ·cases h
theorem HL {ops:Array Oper} {vl:List aZ} {nt site0:Nat} {draw mk:Bool} {bs:Array Nat} {hidden:List (Nat×Bool)} {K:Env->az->Prop} {Q:Exit->Act->World->Prop} (eV:allM (mc P ops nt site0 draw mk bs hidden) ops.toList 0=some vl):
  ∀(fuel:Nat) (listed:Array Bool) (env:Env) (σ:az) (a:Act) (w:World) (D:Nat->Prop) (ι:Names) (U:Nat->Prop),Df (Sound P) ops vl K fuel listed env σ->ik P hs D ι σ.get w->Used ι σ.next U->(∀s,U s->∃i,s=site0+i/\listed.getD i false=true)->dn P w D ι env a->a.tmps.size=nt->
  (∀jC σ' a' w' D' ι',K jC σ'->Step hs D ι w D' ι' w'->St P hs nt D' ι' jC σ' a' w'->a'.defers=a.defers->σ.next<=σ'.next->Q .normal a' w')->wpAny P .any ops Q fuel listed a w:=by
 intro fuel
 induction fuel with
 |zero=>intro listed env σ a w D ι U h S Us hU E eQ hQ;exact⟨h.1,hQ env _ a w D ι h.2 (Step.refl _ _ _ _) ⟨S,Us.next,E,eQ⟩ rfl (Nat.le_succ _)⟩
 |succ fuel ih=>
  intro listed env σ a w D ι U h S Us hU E eQ hQ
  refine⟨fun hr=>hQ env _ a w D ι (h.1 hr) (Step.refl _ _ _ _) ⟨S,Us.next,E,eQ⟩ rfl (Nat.le_succ _),fun i hi=>?_⟩
  obtain⟨vo,l5,hG⟩:=h.2 i hi
  obtain⟨_,o,ho,_⟩:=mem_ready.1 hi
  obtain⟨vo',nT,WS⟩:=(qn eV).2 i o (by simpa using ho)
  rw[l5]at nT;injection nT with nT;subst nT
  rw[Nat.zero_add]at WS
  obtain⟨hc,hd,EM,Al,hg⟩:=rl WS
  have hw:=wL (ops:=ops) (vo:=vo) E hg
  have hUi:¬U vo.site:=fun hu=>by
   obtain⟨i',he,hl⟩:=hU _ hu
   have:i'=i:=ah
   subst this
   rw[jW hi]at hl;cases hl
  have kr:i<listed.size:=by
   have h0:=(mem_ready.1 hi).1
   rcases Nat.lt_or_ge i listed.size with h|h
   ·exact h
   ·simp[Array.getElem?_eq_none h]at h0
  unfold wpOp
  simp only[ho]
  rw[<-hw]
  unfold step at hG
  by_cases JW:aM vo.guard env=true
  ·rw[if_pos JW]
   rw[if_pos JW]at hG
   refine .inl (BW hc hG S Us hUi E fun v σ' u D' ι' w' hn T S' hR U' hle=>?_)
   refine ih _ _ _ _ w' D' ι' _ hn S' U' (fun s EJ=>?_) (by rw[hd];exact jt (qy E T) hR Al eQ) (by rw[fU];exact eQ) fun jC σ2 a2 w2 D2 ι2 hk T2 Tj GW oL=>hQ jC σ2 a2 w2 D2 ι2 hk (T.trans T2) Tj (GW.trans (put_defers _ _ _)) (Nat.le_trans hle oL)
   rcases EJ with h|h
   ·obtain⟨i',he,hl⟩:=hU _ h
    exact⟨i',he,getD_set_true hl⟩
   ·exact⟨i,by rw[h,EM],by simp[kr]⟩
  ·rw[if_neg JW]
   rw[if_neg JW]at hG
   refine ih _ _ _ _ w D ι U hG S Us (fun s EJ=>?_) (by rw[hd];exact jt E dy.undef Al eQ) (by rw[fU];exact eQ) fun jC σ2 a2 w2 D2 ι2 hk T2 Tj GW oL=>hQ jC σ2 a2 w2 D2 ι2 hk T2 Tj (GW.trans (put_defers _ _ _)) oL
   obtain⟨i',he,hl⟩:=hU _ EJ
   exact⟨i',he,getD_set_true hl⟩
end
end Go.Proofs.YtiabgllilcfheaaGreat.V

namespace Go.Proofs.YtiabgllilcfheaaGreat.V
open Go.RowKit
variable {P:Program} {w w':World} {D D' D2:Nat->Prop} {ι ι' ι2:Names}
def AG (P:Program) (c:Code) (Q:Exit->Act->World->Prop) (a:Act) (w:World):Prop:=
 ∀(b:Frame) (k:List Item) (cs:List Frame),b.kind≠.early->∃e a' w',Q e a' w'/\Arrives P (lone (b.at a (.code c::k)) cs w) b k cs e a' w'
section
variable {Q:Exit->Act->World->Prop} {a:Act}
theorem kU {c:Code} (h:c.wp P Q a w):AG P c Q a w:=fun b k cs _=>h b k cs
theorem ns {x y:Code} (h:AG P x (Exit.then (AG P y Q) Q) a w):AG P (.seq x y) Q a w:=by
 intro b k cs hb
 obtain⟨e,a1,w1,hq,jD⟩:=h b (.code y::k) cs hb
 by_cases he:e=.normal
 ·subst he
  obtain⟨e2,a2,w2,JR,L3⟩:=hq b k cs hb
  exact⟨e2,a2,w2,JR,.of_steps (.head step_seq jD) L3⟩
 ·refine⟨e,a1,w1,?_,.of_steps (.one step_seq) (.pass (x:=.code y) rfl (fun _ _=>.inl he) jD)⟩
  cases e<;>first|exact absurd rfl he|exact hq
theorem zo {c:Operand} {x y:Code} {t:Bool} (hc:a.eval c=.bool t) (h:AG P (if t then x else y) Q a w):AG P (.cond c x y) Q a w:=
 fun b k cs hb=>let ⟨e,a',w',q,r⟩:=h b k cs hb;⟨e,a',w',q,.of_steps (.one (step_cond hc)) r⟩
theorem wv {id:Nat} {c:Code} (h:AG P c (Exit.inBlock id Q) a w):AG P (.block id c) Q a w:=by
 intro b k cs hb
 obtain⟨e,a1,w1,hq,jD⟩:=h b (.inBlock id::k) cs hb
 cases e with
 |normal=>exact⟨.normal,a1,w1,hq,.head step_block (Steps.trans jD (.one step_inBlock))⟩
 |exit lh=>
  by_cases hid:lh=id
  ·simp only[Exit.inBlock,hid,if_true]at hq
   exact⟨.normal,a1,w1,hq,.head step_block (jD k (by simp[exitTo,hid]))⟩
  ·simp only[Exit.inBlock,hid,if_false]at hq
   exact⟨.exit lh,a1,w1,hq,fun k' hk=>.head step_block (jD k' (by simp[exitTo,Ne.symm hid,hk]))⟩
 |goto l=>exact⟨_,a1,w1,hq,fun k' hk=>.head step_block (jD k' (by simp[gotoIn,hk]))⟩
 |ret=>exact⟨_,a1,w1,hq,.of_steps (.one step_block) jD⟩
 |panic ch=>exact⟨_,a1,w1,hq,.of_steps (.one step_block) jD⟩
 |outgrown=>exact⟨_,a1,w1,hq,.of_steps (b:=b) (k:=k) (cs:=cs) (e:=.outgrown) (.one step_block) jD⟩
theorem Km {c:Code} (h:AG P c (Exit.noGoto Q) a w):AG P (.scope c) Q a w:=by
 intro b k cs hb
 obtain⟨e,a1,w1,hq,jD⟩:=h b (.inScope c::k) cs hb
 cases e with
 |normal=>exact⟨.normal,a1,w1,hq,.head step_scope (Steps.trans jD (.one step_inScope))⟩
 |exit id=>exact⟨.exit id,a1,w1,hq,fun k' hk=>.head step_scope (jD k' (by simp[exitTo,hk]))⟩
 |goto l=>exact hq.elim
 |ret=>exact⟨_,a1,w1,hq,.of_steps (.one step_scope) jD⟩
 |panic ch=>exact⟨_,a1,w1,hq,.of_steps (.one step_scope) jD⟩
 |outgrown=>exact⟨_,a1,w1,hq,.of_steps (b:=b) (k:=k) (cs:=cs) (e:=.outgrown) (.one step_scope) jD⟩
def rI (P:Program) (c:Code) (Q:Exit->Act->World->Prop):Nat->Act->World->Prop
 |0=>fun _ _=>False
 |n+1=>AG P c (Exit.then (rI P c Q n) Q)
theorem Fu {c:Code} (n:Nat) (h:rI P c Q n a w):AG P (.loop c) Q a w:=by
 intro b k cs hb
 have key:∀n a w,rI P c Q n a w->∃e a' w',Q e a' w'/\Arrives P (lone (b.at a (.code c::.inLoop c::k)) cs w) b k cs e a' w':=by
  intro n
  induction n with
  |zero=>intro a w h;exact h.elim
  |succ n ih=>
   intro a w h
   obtain⟨e,a1,w1,hq,jD⟩:=h b (.inLoop c::k) cs hb
   by_cases he:e=.normal
   ·subst he
    obtain⟨e2,a2,w2,JR,L3⟩:=ih a1 w1 hq
    exact⟨e2,a2,w2,JR,.of_steps (Steps.trans jD (.one step_inLoop)) L3⟩
   ·refine⟨e,a1,w1,?_,.pass (x:=.inLoop c) rfl (fun _ _=>.inl he) jD⟩
    cases e<;>first|exact absurd rfl he|exact hq
 obtain⟨e,a',w',hq,jD⟩:=key n a w h
 exact⟨e,a',w',hq,.of_steps (.one step_loop) jD⟩
theorem Ce {f:FuncId} {fn:Func} {c:Code} {args:Array Value} {R:Ending->World->Prop} (hf:P.funcs[f]? =some fn) (hb:fn.body=some c)
  (h:AG P c (bodyPost P fn R) {tmps:=args++Array.replicate (fn.ntmps-args.size) undef,defers:=[]} w):Calls P f args w R:=by
 intro cs
 have SQ:Frame.enter P f args .normal=({(default:Frame)with fn:=f,kind:=.normal}:Frame).at {tmps:=args++Array.replicate (fn.ntmps-args.size) undef,defers:=[]} [.code c]:=by simp[Frame.enter,Frame.at,hf,hb]
 obtain⟨e,a',w',hq,jD⟩:=h {(default:Frame)with fn:=f,kind:=.normal} [] cs (by simp)
 rw[<-SQ]at jD
 cases e with
 |normal=>obtain⟨hd,v,hr,hR⟩:=hq;exact⟨.returned v,w',_,hR,Steps.trans jD (.one step_end),rfl,rfl,hd,rfl,fn,hf,hr⟩
 |ret=>obtain⟨hd,v,hr,hR⟩:=hq;obtain⟨todo,hs⟩:=jD;exact⟨.returned v,w',_,hR,hs,rfl,rfl,hd,rfl,fn,hf,hr⟩
 |panic chain=>obtain⟨hd,hR⟩:=hq;obtain⟨todo,hs⟩:=jD;exact⟨.panicked chain,w',_,hR,hs,rfl,rfl,hd,fn,hf⟩
 |exit id=>exact hq.elim
 |goto l=>exact hq.elim
 |outgrown=>exact⟨.outgrown,w',{(default:Frame)with fn:=f,kind:=.normal},hq,jD.resolve_left (by simp),rfl,trivial⟩
def Ac (P:Program) (ops:Array Oper) (Q:Exit->Act->World->Prop) (l:List Nat) (a:Act) (w:World):Prop:=
 ∀(b:Frame) (k:List Item) (cs:List Frame),b.kind≠.early->∃e a' w',Q e a' w'/\Arrives P (lone (b.at a (.inRegion ops l::k)) cs w) b k cs e a' w'
theorem Hl {id:Nat} {ops:Array Oper} (h:Ac P ops Q (List.range ops.size) a w):AG P (.region id ops false) Q a w:=
 fun b k cs hb=>let ⟨e,a',w',q,r⟩:=h b k cs hb;⟨e,a',w',q,.of_steps (.one step_region) r⟩
theorem TI {ops:Array Oper} (h:Q .normal a w):Ac P ops Q [] a w:=fun _ _ _ _=>⟨.normal,a,w,h,.one step_region_end⟩
theorem q9 {o:Oper} {ys:Nat->Option Bool} (h:o.guard=none):Region.wanted o ys=true:=by simp[Region.wanted,h]
theorem M1 {ops:Array Oper} {i:Nat} {rest:List Nat} {o:Oper} {v:Value} (ho:ops[i]? =some o) (hg:o.guard=none) (hr:(execOp a.eval o).run P w=.ok (.value v) w') (h:Ac P ops Q rest (a.put o.dst v) w'):Ac P ops Q (i::rest) a w:=by
 intro b k cs hb
 obtain⟨e,a',w2,hq,jD⟩:=h b k cs hb
 refine⟨e,a',w2,hq,.of_steps (.one ?_) jD⟩
 have ur:(b.at a (.inRegion ops (i::rest)::k)).finish v=b.at (a.put o.dst v) (.inRegion ops rest::k):=by rw[Frame.finish_at,ho];rfl
 rw[<-ur]
 refine step_lone_go ?_
 have h2:=stepG_op (P:=P) (b:=b) (k:=k) (cs:=cs) (w:=w) (rest:=rest) ho (q9 hg (ys:=yielded ops a.tmps))
 rw[h2];simp[stepG.apply,hr]
theorem Qg {ops:Array Oper} {i:Nat} {rest:List Nat} {o:Oper} {v z:Value} {c cap s r:Nat} {buf:Array Value} (ho:ops[i]? =some o) (hg:o.guard=none) (hr:(execOp a.eval o).run P w=.ok (.comm #[Conc.scase c v z] true .send) w)
  (hc:w.heap[c]? =some (.chan cap buf false s r false)) (fE:buf.size<cap) (h:Ac P ops Q rest (a.put o.dst undef) (w.setChan c cap (buf.push v) false (s+1) r false)):Ac P ops Q (i::rest) a w:=by
 intro b k cs hb
 obtain⟨e,a',w2,hq,jD⟩:=h b k cs hb
 refine⟨e,a',w2,hq,.of_steps (.one ?_) jD⟩
 have ur:(b.at a (.inRegion ops (i::rest)::k)).finish undef=b.at (a.put o.dst undef) (.inRegion ops rest::k):=by rw[Frame.finish_at,ho];rfl
 rw[<-ur,Conc.lone_eq_solo,Conc.lone_eq_solo]
 exact Conc.step_lone_send_room (Conc.stepG_comm ho (q9 hg) hb hr) hc fE
theorem Qf {ops:Array Oper} {i:Nat} {rest:List Nat} {o:Oper} {z:Value} {c cap s r:Nat} {buf:Array Value} (ho:ops[i]? =some o) (hg:o.guard=none) (hr:(execOp a.eval o).run P w=.ok (.comm #[Conc.rcase c z] true (.recv false)) w)
  (hc:w.heap[c]? =some (.chan cap buf false s r false)) (EN:0<buf.size) (h:Ac P ops Q rest (a.put o.dst (buf.getD 0 undef)) (w.setChan c cap (buf.extract 1 buf.size) false s (r+1) false)):Ac P ops Q (i::rest) a w:=by
 intro b k cs hb
 obtain⟨e,a',w2,hq,jD⟩:=h b k cs hb
 refine⟨e,a',w2,hq,.of_steps (.one ?_) jD⟩
 have ur:(b.at a (.inRegion ops (i::rest)::k)).finish (buf.getD 0 undef)=b.at (a.put o.dst (buf.getD 0 undef)) (.inRegion ops rest::k):=by rw[Frame.finish_at,ho];rfl
 rw[<-ur,Conc.lone_eq_solo,Conc.lone_eq_solo]
 exact Conc.step_lone_recv_buf false (Conc.stepG_comm ho (q9 hg) hb hr) hc EN
end
section
variable {hs:Nat} {g:Rows} {env:Env} {a:Act} {o:Oper}
theorem PS {x y:O} (hc:tK P o.op=some (.snd x y)):∃x' y',o.op=.send x' y'/\cO P x'=some x/\cO P y'=some y:=by
 unfold tK at hc
 split at hc
 case h_25=>
  rename_i x' y' h
  simp only[Option.bind_eq_bind,Option.bind_eq_some_iff,Option.pure_def,Option.some.injEq,iI.snd.injEq]at hc
  obtain⟨p,h1,q,h2,rfl,rfl⟩:=hc
  exact⟨_,_,h,h1,h2⟩
 all_goals (try unfold pz at hc)<;>(try unfold yy at hc)<;>(try unfold vM at hc)<;>(repeat' (split at hc))<;>(simp only[Option.bind_eq_bind,Option.bind_eq_some_iff,Option.pure_def,Option.some.injEq,Option.map_eq_some_iff,reduceCtorEq,and_false,exists_false]at hc)
theorem PR {x:O} (hc:tK P o.op=some (.TL x)):∃t dir e i z x',o.op=.recv t x' false/\P.underlying t=some (.chan dir e)/\P.info? e=some i/\i.zero=some z/\cO P x'=some x:=by
 unfold tK at hc
 split at hc
 case h_26=>
  rename_i t x' h
  split at hc
  ·rename_i dir e ht
   split at hc
   ·rename_i z hz
    simp only[Option.bind_eq_some_iff]at hz
    obtain⟨i,hi,hz⟩:=hz
    simp only[Option.map_eq_some_iff,iI.TL.injEq]at hc
    obtain⟨p,h1,rfl⟩:=hc
    exact⟨t,dir,e,i,z,x',h,ht,hi,hz,h1⟩
   ·cases hc
  ·cases hc
 all_goals (try unfold pz at hc)<;>(try unfold yy at hc)<;>(try unfold vM at hc)<;>(repeat' (split at hc))<;>(simp only[Option.bind_eq_bind,Option.bind_eq_some_iff,Option.pure_def,Option.some.injEq,Option.map_eq_some_iff,reduceCtorEq,and_false,exists_false]at hc)
theorem Wd {x y:O} {g':Rows} (S:ik P hs D ι g w) (hc:tK P o.op=some (.snd x y)) (E:dn P w D ι env a) (hv:ej g (du env x) (du env y)=some g'):
  ∃c cap s r buf u,(execOp a.eval o).run P w=.ok (.comm #[Conc.scase c u (.tuple #[])] true .send) w/\w.heap[c]? =some (.chan cap buf false s r false)/\buf.size<cap/\ik P hs D ι g' (w.setChan c cap (buf.push u) false (s+1) r false)/\Step hs D ι w D ι (w.setChan c cap (buf.push u) false (s+1) r false):=by
 obtain⟨x',y',ho,hx,hy⟩:=PS hc
 have rx:=eo E hx
 have ry:=eo E hy
 unfold ej at hv
 split at hv
 ·rename_i i he
  simp only[Option.bind_eq_some_iff]at hv
  obtain⟨r,hg,hv⟩:=hv
  split at hv
  ·rename_i hcond
   simp only[Option.some.injEq]at hv
   subst hv
   obtain⟨B,c,hu,hB,hk,eQ,buf,s,q,hb,Ol,hR⟩:=Cf S rx he hg
   obtain⟨B',eH,RR,_⟩:=S.row i r hg
   rw[hB]at eH;injection eH with eH;subst eH
   have pV:=S.KL (ob:=.chan c (buf.push (a.eval y')) false (s+1) q false) (r':={r with rows:=r.rows++[[du env y]]}) hg hcond.1 hB fun hr lO=>⟨RR.sz,fun cs eD=>?_,fun h0=>(by rw[hk]at h0;cases h0),fun m hm=>(by rw[hk]at hm;cases hm),fun c' lN=>?_⟩
   ·exact⟨B.b,c,s,q,buf,a.eval y',by simp[execOp,ho,hu,Conc.scase],hb,by rw[Ol];omega,pV.1,pV.2⟩
   ·rcases List.mem_append.1 eD with h|h
    ·exact RR.flat cs h
    ·rw[List.mem_singleton.1 h]
     intro b wb
     rw[List.mem_singleton.1 wb];exact hcond.2.2
   ·rw[hk]at lN
    simp only[Option.some.injEq,BK.chan.injEq]at lN
    subst lN
    refine⟨eQ,_,_,_,lO,by simp[Ol],fun j cs hj=>?_⟩
    rw[List.getElem?_append]at hj
    split at hj
    ·rename_i eW
     obtain⟨b,u,q1,q2,q3⟩:=hR j cs hj
     refine⟨b,u,q1,?_,hr _ _ q3⟩
     rw[Array.getElem?_push,if_neg ah];exact q2
    ·rename_i lx
     have iH:j=r.rows.length:=by
      have:=(List.getElem?_eq_some_iff.1 hj).1
      simp at this;omega
     subst iH
     simp at hj
     subst hj
     exact⟨_,_,rfl,by rw[Array.getElem?_push,if_pos Ol.symm],hr _ _ ry⟩
  ·cases hv
 ·cases hv
theorem Wc {x:O} {g':Rows} {v:AV} (S:ik P hs D ι g w) (hc:tK P o.op=some (.TL x)) (E:dn P w D ι env a) (hv:ei g (du env x)=some (v,g')):
  ∃c cap s r buf z,(execOp a.eval o).run P w=.ok (.comm #[Conc.rcase c z] true (.recv false)) w/\w.heap[c]? =some (.chan cap buf false s r false)/\0<buf.size/\ik P hs D ι g' (w.setChan c cap (buf.extract 1 buf.size) false s (r+1) false)/\Step hs D ι w D ι (w.setChan c cap (buf.extract 1 buf.size) false s (r+1) false)/\dy P (w.setChan c cap (buf.extract 1 buf.size) false s (r+1) false) D ι v (buf.getD 0 undef):=by
 obtain⟨t,dir,e,i0,z,x',ho,ht,hi,hz,hx⟩:=PR hc
 have rx:=eo E hx
 unfold ei at hv
 split at hv
 ·rename_i i he
  simp only[Option.bind_eq_some_iff]at hv
  obtain⟨r,hg,hv⟩:=hv
  split at hv
  ·rename_i v' rest qH
   split at hv
   ·rename_i hcond
    simp only[Option.some.injEq,Prod.mk.injEq]at hv
    obtain⟨rfl,rfl⟩:=hv
    obtain⟨B,c,hu,hB,hk,eQ,buf,s,q,hb,Ol,hR⟩:=Cf S rx he hg
    obtain⟨B',eH,RR,_⟩:=S.row i r hg
    rw[hB]at eH;injection eH with eH;subst eH
    obtain⟨b0,u0,q1,q2,q3⟩:=hR 0 [v'] (by rw[qH];rfl)
    simp only[List.cons.injEq,and_true]at q1
    subst q1
    have kd:0<buf.size:=by rw[Ol,qH];simp
    have Zb:buf.getD 0 undef=u0:=by rw[Array.getD_eq_getD_getElem?,q2];rfl
    have pV:=S.KL (ob:=.chan c (buf.extract 1 buf.size) false s (q+1) false) (r':={r with rows:=rest}) hg hcond hB fun hr lO=>⟨RR.sz,fun cs eD=>RR.flat cs (by rw[qH];exact List.mem_cons_of_mem _ eD),fun h0=>(by rw[hk]at h0;cases h0),fun m hm=>(by rw[hk]at hm;cases hm),fun c' lN=>?_⟩
    ·refine⟨B.b,c,s,q,buf,z,?_,hb,kd,pV.1,pV.2,?_⟩
     ·have y4:(zeroValue e).run P w=.ok z w:=by simp[zeroValue,typeInfo,hi,hz]
      simp[execOp,ho,hu,Conc.rcase,run_underlying ht,y4]
     ·rw[Zb];exact pV.2.rep q3
    ·rw[hk]at lN
     simp only[Option.some.injEq,BK.chan.injEq]at lN
     subst lN
     refine⟨eQ,_,_,_,lO,by simp[Ol,qH],fun j cs hj=>?_⟩
     obtain⟨b,u,k1,k2,k3⟩:=hR (j+1) cs (by rw[qH];simpa using hj)
     refine⟨b,u,k1,?_,hr _ _ k3⟩
     have eW:=(Array.getElem?_eq_some_iff.1 k2).1
     rw[Array.getElem?_extract,if_pos ah,Nat.add_comm 1 j];exact k2
   ·cases hv
  ·cases hv
 ·cases hv
theorem Jo {ops:Array Oper} {nt site0:Nat} {K:Env->az->Prop} {Q:Exit->Act->World->Prop}:∀(l:List Oper) (vl:List aZ) (j:Nat) (env:Env) (σ:az) (a:Act) (w:World) (D:Nat->Prop) (ι:Names),
  ops.toList.drop j=l->allM (mc P ops nt site0 false false #[] []) l j=some vl->cF vl K env σ->ik P hs D ι σ.get w->Used ι σ.next (fun _=>False)->dn P w D ι env a->a.tmps.size=nt->
  (∀jC σ' a' w' D' ι',K jC σ'->Step hs D ι w D' ι' w'->St P hs nt D' ι' jC σ' a' w'->a'.defers=a.defers->σ.next<=σ'.next->Q .normal a' w')->Ac P ops Q (List.range' j l.length) a w:=by
 intro l
 induction l with
 |nil=>
  intro vl j env σ a w D ι _ h hv S Us E eQ hQ
  simp[allM]at h;subst h
  exact TI (hQ env ⟨σ.get,σ.next+1⟩ a w D ι hv (Step.refl _ _ _ _) ⟨S,Us.next,E,eQ⟩ rfl (Nat.le_succ _))
 |cons o l ih=>
  intro vl j env σ a w D ι hl h hv S Us E eQ hQ
  simp only[allM,Option.bind_eq_bind,Option.bind_eq_some_iff,Option.pure_def,Option.some.injEq]at h
  obtain⟨vo,l5,wK,pZ,rfl⟩:=h
  obtain⟨hc,hd,EM,Al,hg⟩:=rl l5
  obtain⟨Xa,hv⟩:=hv
  have hog:o.guard=none:=by
   split at hg
   ·assumption
   ·obtain⟨t,_,h⟩:=hg
    rw[Xa]at h;cases h
  have hoj:ops[j]? =some o:=by
   have h0:=congrArg (fun x=>x[0]?) hl
   rw[<-Array.getElem?_toList]
   simpa[List.getElem?_drop]using h0
  have Oy:ops.toList.drop (j+1)=l:=by rw[<-List.drop_drop,hl];rfl
  have go:∀(v:AV) (u:Value) (g2:Rows) (w2:World),cF wK K (upd env vo.dst v) ⟨g2,σ.next⟩->ik P hs D ι g2 w2->Step hs D ι w D ι w2->dy P w2 D ι v u->Ac P ops Q (List.range' (j+1) l.length) (a.put o.dst u) w2:=fun v u g2 w2 hn S2 T hR=>
   ih wK (j+1) (upd env vo.dst v) ⟨g2,σ.next⟩ (a.put o.dst u) w2 D ι Oy pZ hn S2 Us (by rw[hd];exact jt (qy E T) hR Al eQ) (by rw[fU];exact eQ) fun jC σ2 a' w3 D3 ι3 hk T2 RU GW oL=>hQ jC σ2 a' w3 D3 ι3 hk (T.trans T2) RU (GW.trans (put_defers _ _ _)) oL
  rw[show List.range' j (o::l).length=j::List.range' (j+1) l.length from rfl]
  split at hv
  ·rename_i x y eS
   split at hv
   ·rename_i g2 K8
    rw[eS]at hc
    obtain⟨c,cap,s,r,buf,u,gm,hb,fE,S2,T⟩:=Wd S hc E K8
    exact Qg hoj hog gm hb fE (go _ _ _ _ hv S2 T dy.undef)
   ·exact hv.elim
  ·rename_i x eS
   split at hv
   ·rename_i v g2 K8
    rw[eS]at hc
    obtain⟨c,cap,s,r,buf,z,gm,hb,EN,S2,T,hR⟩:=Wc S hc E K8
    exact Qf hoj hog gm hb EN (go _ _ _ _ hv S2 T hR)
   ·exact hv.elim
  ·split at hv
   ·rename_i v hq
    obtain⟨u,gm,hR⟩:=BN hc hq S E
    exact M1 hoj hog gm (go _ _ _ _ hv S (Step.refl _ _ _ _) hR)
   ·exact hv.elim
end
end Go.Proofs.YtiabgllilcfheaaGreat.V

namespace Go.Proofs.YtiabgllilcfheaaGreat.V
open Go.RowKit
variable {P:Program} {w w':World} {D D' D2:Nat->Prop} {ι ι' ι2:Names}
section
variable {hs:Nat} {X:gT}
def Yt:Ex->Exit
 | .normal=>.normal
 | .exit id=>.exit id
 | .ret=>.ret
theorem St.drew {nt:Nat} {env:Env} {σ:az} {a:Act} {D:Nat->Prop} {ι:Names} (h:St P hs nt D ι env σ a w):St P hs nt D ι env σ a w.drew/\Step hs D ι w D ι w.drew:=by
 have T:Step hs D ι w D ι w.drew:=Step.stay h.wE (fun _ _=>rfl) (Nat.le_refl _) rfl rfl rfl (fun _ h=>h) (fun _ h=>.inl h) (fun _ _ h=>h)
 exact⟨⟨h.wE.stay (fun _ _=>rfl) (Nat.le_refl _) (fun _ h=>h) h.wE.dead (fun _ h=>.inl h) (fun _ _ h=>h),h.used,qy h.env T,h.size⟩,T⟩
def wM (P:Program) (hs nt:Nat) (ds:List Deferred) (Q:Ex->Env->az->Prop) (n0:Nat) (D:Nat->Prop) (ι:Names) (w:World) (Q':Exit->Act->World->Prop):Prop:=
 ∀ex env σ a w' D' ι',Q ex env σ->Step hs D ι w D' ι' w'->St P hs nt D' ι' env σ a w'->a.defers=ds->n0<=σ.next->Q' (Yt ex) a w'
theorem wM.later {nt:Nat} {ds:List Deferred} {Q:Ex->Env->az->Prop} {n0 n1:Nat} {Q':Exit->Act->World->Prop} (h:wM P hs nt ds Q n0 D ι w Q') (T:Step hs D ι w D' ι' w') (hn:n0<=n1):wM P hs nt ds Q n1 D' ι' w' Q':=
 fun ex env σ a w2 D2 ι2 hq T2 eA hd hle=>h ex env σ a w2 D2 ι2 hq (T.trans T2) eA hd (Nat.le_trans hn hle)
theorem sY (hm:P.follows .mixedOrders=true) {md:List (Nat×Nat)} {nt fid:Nat}:∀(c:Code) (vc:VC),jy P md nt fid c=some vc->∀(Q:Ex->Env->az->Prop) (env:Env) (σ:az) (a:Act) (w:World) (D:Nat->Prop) (ι:Names) (Q':Exit->Act->World->Prop),
  eC (Sound P) vc Q env σ->St P hs nt D ι env σ a w->wM P hs nt a.defers Q σ.next D ι w Q'->AG P c Q' a w:=by
 intro c
 induction c with
 |skip=>
  intro vc h Q env σ a w D ι Q' hv eA hQ
  simp[jy]at h;subst h
  exact kU <| wp_skip (hQ .normal env σ a w D ι hv (Step.refl _ _ _ _) eA rfl (Nat.le_refl _))
 |exit id=>
  intro vc h Q env σ a w D ι Q' hv eA hQ
  simp[jy]at h;subst h
  exact kU <| wp_exit (hQ (.exit id) env σ a w D ι hv (Step.refl _ _ _ _) eA rfl (Nat.le_refl _))
 |ret=>
  intro vc h Q env σ a w D ι Q' hv eA hQ
  simp[jy]at h;subst h
  exact kU <| wp_ret (hQ .ret env σ a w D ι hv (Step.refl _ _ _ _) eA rfl (Nat.le_refl _))
 |seq x y ihx ihy=>
  intro vc h Q env σ a w D ι Q' hv eA hQ
  simp only[jy,Option.bind_eq_bind,Option.bind_eq_some_iff,Option.pure_def,Option.some.injEq]at h
  obtain⟨vx,hx,vy,hy,rfl⟩:=h
  refine ns (ihx vx hx _ env σ a w D ι _ hv eA fun ex jE σ1 a1 w1 D1 ι1 hq T ku hd hle=>?_)
  cases ex with
  |normal=>exact ihy vy hy Q jE σ1 a1 w1 D1 ι1 Q' hq ku (by rw[hd];exact hQ.later T hle)
  |exit id=>exact hQ (.exit id) jE σ1 a1 w1 D1 ι1 hq T ku hd hle
  |ret=>exact hQ .ret jE σ1 a1 w1 D1 ι1 hq T ku hd hle
 |cond c x y ihx ihy=>
  intro vc h Q env σ a w D ι Q' hv eA hQ
  simp only[jy,Option.bind_eq_bind,Option.bind_eq_some_iff,Option.pure_def,Option.some.injEq]at h
  obtain⟨c',hc,vx,hx,vy,hy,rfl⟩:=h
  unfold eC at hv
  have hr:=eo eA.env hc
  split at hv
  ·rename_i b hb
   rw[hb]at hr
   refine zo (gn hr) ?_
   cases b with
   |true=>exact ihx vx hx Q env σ a w D ι Q' hv eA hQ
   |false=>exact ihy vy hy Q env σ a w D ι Q' hv eA hQ
  ·exact hv.elim
 |block id c ih=>
  intro vc h Q env σ a w D ι Q' hv eA hQ
  simp only[jy,Option.map_eq_some_iff]at h
  obtain⟨vx,hx,rfl⟩:=h
  refine wv (ih vx hx _ env σ a w D ι _ hv eA fun ex jE σ1 a1 w1 D1 ι1 hq T ku hd hle=>?_)
  cases ex with
  |normal=>exact hQ .normal jE σ1 a1 w1 D1 ι1 hq T ku hd hle
  |ret=>exact hQ .ret jE σ1 a1 w1 D1 ι1 hq T ku hd hle
  |exit lh=>
   simp only[bq]at hq
   simp only[Yt,Exit.inBlock]
   by_cases hid:lh=id
   ·rw[if_pos hid]at hq ⊢;exact hQ .normal jE σ1 a1 w1 D1 ι1 hq T ku hd hle
   ·rw[if_neg hid]at hq ⊢;exact hQ (.exit lh) jE σ1 a1 w1 D1 ι1 hq T ku hd hle
 |loop c ih=>
  intro vc h Q env σ a w D ι Q' hv eA hQ
  simp only[jy,Option.map_eq_some_iff]at h
  obtain⟨vx,hx,rfl⟩:=h
  obtain⟨n,hv⟩:=hv
  refine Fu n ?_
  have key:∀n env σ a w D ι,IJ (eC (Sound P) vx) Q n env σ->St P hs nt D ι env σ a w->wM P hs nt a.defers Q σ.next D ι w Q'->rI P c Q' n a w:=by
   intro n
   induction n with
   |zero=>intro env σ a w D ι h;exact h.elim
   |succ n ihn=>
    intro env σ a w D ι h eA hQ
    refine ih vx hx _ env σ a w D ι _ h eA fun ex jE σ1 a1 w1 D1 ι1 hq T ku hd hle=>?_
    cases ex with
    |normal=>exact ihn jE σ1 a1 w1 D1 ι1 hq ku (by rw[hd];exact hQ.later T hle)
    |exit id=>exact hQ (.exit id) jE σ1 a1 w1 D1 ι1 hq T ku hd hle
    |ret=>exact hQ .ret jE σ1 a1 w1 D1 ι1 hq T ku hd hle
  exact key n env σ a w D ι hv eA hQ
 |region id ops draw=>
  intro vc h Q env σ a w D ι Q' hv eA hQ
  simp only[jy,Wb]at h
  split at h
  ·rename_i hmode
   have hdr:draw=true:=by
    simp only[Bool.and_eq_true]at hmode;exact hmode.1
   subst hdr
   split at h
   ·rename_i vl eV
    obtain⟨uz,T0⟩:=eA.drew
    have GP:=KJ (X:=Sound P) ma ops.size _ vc env σ h (fun k i h=>by
     exfalso
     rcases Nat.lt_or_ge k ops.size with hk|hk
     ·simp[hk]at h
     ·simp[Nat.not_lt.2 hk]at h) hv
    refine kU (wp_region_any hm ?_)
    exact HL eV ops.size _ env σ a w.drew D ι (fun _=>False) GP uz.wE uz.used (fun _ h=>h.elim) uz.env uz.size fun jE σ1 a1 w1 D1 ι1 hk T ku hd hle=>hQ .normal jE σ1 a1 w1 D1 ι1 hk (T0.trans T) ku hd hle
   ·cases h
  split at h
  ·rename_i hcom
   have hdr:draw=false:=by
    simp only[Bool.and_eq_true,Bool.not_eq_true']at hcom;exact hcom.1
   subst hdr
   simp only[Option.map_eq_some_iff]at h
   obtain⟨vl,pZ,rfl⟩:=h
   have eV:allM (mc P ops nt ((fid*1000+id)*1000) false false #[] []) ops.toList 0=some vl:=by
    unfold tY at pZ
    simp only[Bool.false_eq_true,if_false,Bool.not_false,Bool.true_or,if_true]at pZ
    split at pZ
    ·rename_i wK h;simp at pZ;subst pZ;exact h
    ·cases pZ
   refine Hl ?_
   have:=Jo (Q:=Q') ops.toList vl 0 env σ a w D ι rfl eV hv eA.wE eA.used eA.env eA.size fun jE σ1 a1 w1 D1 ι1 hk T ku hd hle=>hQ .normal jE σ1 a1 w1 D1 ι1 hk T ku hd hle
   rwa [<-List.range_eq_range',Array.length_toList]at this
  generalize (zj md id==1)=mk at h
  simp only[Option.map_eq_some_iff]at h
  obtain⟨vl,pZ,rfl⟩:=h
  cases draw with
  |false=>
   have eV:∃wK,allM (mc P ops nt ((fid*1000+id)*1000) false mk #[] []) ops.toList 0=some wK/\vl=wK:=by
    unfold tY at pZ
    simp only[Bool.false_eq_true,if_false,Bool.not_false,Bool.true_or,if_true]at pZ
    split at pZ
    ·rename_i wK h;simp at pZ;exact⟨wK,h,pZ.symm⟩
    ·cases pZ
   obtain⟨wK,eV,rfl⟩:=eV
   refine kU (wp_region_list ?_)
   exact BF ops.toList vl 0 env σ a w D ι (fun _=>False) eV hv eA.wE eA.used (fun _ h=>h.elim) eA.env eA.size fun jE σ1 a1 w1 D1 ι1 hk T ku hd hle=>hQ .normal jE σ1 a1 w1 D1 ι1 hk T ku hd hle
  |true=>
   have eV:∃hidden wK,allM (mc P ops nt ((fid*1000+id)*1000) true mk (kq ops) hidden) ops.toList 0=some wK/\vl=wK/\qx ops wK (kq ops)=true:=by
    unfold tY at pZ
    simp only[if_true,Bool.not_true,Bool.false_or]at pZ
    split at pZ
    ·rename_i wK h
     split at pZ
     ·rename_i yW;simp at pZ;exact⟨_,wK,h,pZ.symm,yW⟩
     ·cases pZ
    ·cases pZ
   obtain⟨hidden,wK,eV,rfl,yW⟩:=eV
   obtain⟨uz,T0⟩:=eA.drew
   obtain⟨hlen,_⟩:=qn eV
   have sI:vl.length=ops.size:=by rw[hlen];simp
   have GP:=zV (X:=Sound P) (K:=Q .normal) (n:=σ.next) yW sI vl 0 (Array.replicate ops.size false) env σ.get (by simp) (by simp) (fun i hi=>by simp[hi]) (by simp[sI]) (fun k i h=>by
    exfalso
    rcases Nat.lt_or_ge k ops.size with hk|hk
    ·simp[hk]at h
    ·simp[Nat.not_lt.2 hk]at h) hv
   refine kU (wp_region_any hm ?_)
   rw[sI]at GP
   exact AJ eV ops.size _ env σ.get a w.drew D ι (fun _=>False) GP uz.wE uz.used (fun _ h=>h.elim) uz.env uz.size fun jE g1 a1 w1 D1 ι1 U1 hk T S1 ZH E1 Bg hd=>hQ .normal jE ⟨g1,σ.next+1⟩ a1 w1 D1 ι1 hk (T0.trans T) ⟨S1,ZH.next,E1,Bg⟩ hd (Nat.le_succ _)
 |label l=>
  intro vc h Q env σ a w D ι Q' hv eA hQ
  simp[jy]at h;subst h
  exact kU <| wp_label (hQ .normal env σ a w D ι hv (Step.refl _ _ _ _) eA rfl (Nat.le_refl _))
 |scope c ih=>
  intro vc h Q env σ a w D ι Q' hv eA hQ
  simp only[jy]at h
  refine Km (ih vc h Q env σ a w D ι _ hv eA fun ex jE σ1 a1 w1 D1 ι1 hq T ku hd hle=>?_)
  have h1:=hQ ex jE σ1 a1 w1 D1 ι1 hq T ku hd hle
  cases ex with
  |normal=>exact h1
  |exit id=>exact h1
  |ret=>exact h1
 |_=>
  intro vc h
  simp[jy]at h
def Nk (tmps:Array Value):ResultVar->Sem Value
 | .tmp t=>pure (tmps.getD t undef)
 | .cell a t=>do loadVar t (<-asAddr (tmps.getD a undef))
theorem Hv (fn:Func) (tmps:Array Value):results fn tmps=(do
  let vs <-fn.results.mapM (Nk tmps)
  pure (if h:vs.size=1 then vs[0]else .tuple vs)):=by
 unfold results
 congr 2
theorem xo {nt:Nat} {env:Env} {σ:az} {a:Act} {D:Nat->Prop} {ι:Names} (eA:St P hs nt D ι env σ a w):∀(rs:List ResultVar) (vr:List pN) (vs:List AV),rs.mapM (Gu P)=some vr->gO env σ.get vr=some vs->
  ∃us:List Value,(rs.mapM (Nk a.tmps)).run P w=.ok us w/\us.length=vs.length/\∀(j:Nat) (v:AV),vs[j]? =some v->∃u,us[j]? =some u/\dy P w D ι v u
 |[],vr,vs,h,hv=>by
  simp at h;subst h
  simp[gO]at hv;subst hv
  exact⟨[],by simp,rfl,fun j v h=>by simp at h⟩
 |r::rs,vr,vs,h,hv=>by
  simp only[List.mapM_cons,Option.bind_eq_bind,Option.bind_eq_some_iff]at h
  obtain⟨x,hx,vr',hr,h⟩:=h
  simp at h;subst h
  simp only[gO,Option.bind_eq_some_iff,Option.map_eq_some_iff]at hv
  obtain⟨v,yY,vs',Iz,rfl⟩:=hv
  obtain⟨us,h1,h2,h3⟩:=xo eA rs vr' vs' hr Iz
  have one:∃u,(Nk a.tmps r).run P w=.ok u w/\dy P w D ι v u:=by
   cases r with
   |tmp t=>
    simp[Gu]at hx;subst hx
    simp[jq]at yY;subst yY
    exact⟨_,rfl,eA.env t⟩
   |cell b t=>
    simp only[Gu,Option.bind_eq_bind,Option.bind_eq_some_iff,Option.pure_def,Option.some.injEq]at hx
    obtain⟨ag,xX,n,hn,rfl⟩:=hx
    simp only[jq]at yY
    have iF:=eA.env b
    unfold ld at yY
    split at yY
    ·rename_i lh i' oo hb
     rw[hb]at iF
     obtain⟨B,he,hB,hk⟩:=jk iF
     simp only[Option.bind_eq_some_iff]at yY
     obtain⟨cs,eD,hp⟩:=yY
     obtain⟨B',r0,K4,eH,R,hi,fl,f,hf⟩:=Ns (S:=eA.wE) eD (fun B2 h2=>by rw[hB]at h2;injection h2 with h2;subst h2;exact hk)
     rw[hB]at eH;injection eH with eH;subst eH
     obtain⟨u,k1,k2⟩:=lY (w:=w) (b:=B.b) (oo:=i'*B.sz+oo) (f:=fun j=>f (oo+j)) xX hn hp (fun a ha=>fl a (List.mem_of_mem_drop ha)) (fun j hj=>by
      rw[Nat.add_assoc];exact(hf _ (by simp at hj;omega)).1) (fun j a ha=>by
      simp at ha;exact(hf _ ((List.getElem?_eq_some_iff.1 ha).1)).2 _ ha)
     exact⟨u,by simp only[Nk,he,asAddr,Sem.run_bind,Sem.run_pure,Result.andThen_ok,k1],k2⟩
    ·rename_i cs hb
     rw[hb]at iF
     obtain⟨b',oo,vs2,he,q1,q2,q3,q4⟩:=mv iF
     obtain⟨u,k1,k2⟩:=lY (w:=w) (b:=b') (oo:=oo) (f:=vs2) xX hn yY q2 q3 (fun j a ha=>.fF _ _ (q4 j a ha))
     exact⟨u,by simp only[Nk,he,asAddr,Sem.run_bind,Sem.run_pure,Result.andThen_ok,k1],k2⟩
    ·simp at yY
  obtain⟨u,hu,Aq⟩:=one
  refine⟨u::us,?_,by simp[h2],fun j v' hj=>?_⟩
  ·rw[List.mapM_cons]
   simp only[Sem.run_bind,hu,h1,Result.andThen_ok,Sem.run_pure]
  ·cases j with
   |zero=>simp at hj;subst hj;exact⟨u,rfl,Aq⟩
   |succ j=>simp at hj ⊢;exact h3 j v' hj
theorem yw {f:Nat} {fn:Func} {c:Code} {args:List AV} {σ:az} {K:AV->az->Prop} {vr:List pN} (VA:P.funcs[f]? =some fn) (hc:fn.body=some c) (hr:fn.results.toList.mapM (Gu P)=some vr) (ha:fn.params.size+fn.nfree=args.length) (hle:fn.params.size+fn.nfree<=fn.ntmps)
  (h:∀(hs:Nat) (w:World) (D:Nat->Prop) (ι:Names) (a:Act) (Q':Exit->Act->World->Prop),St P hs fn.ntmps D ι (cz args) σ a w->wM P hs fn.ntmps a.defers (mz vr K) σ.next D ι w Q'->AG P c Q' a w):Sound P f args σ K:=by
 intro hs D ι w vs S Us A
 have eQ:vs.size=args.length:=A.1
 refine Ce VA hc ?_
 refine h hs w D ι _ _ ⟨S,Us,fun t=>?_,by simp;omega⟩ fun ex jE σ1 a1 w1 D1 ι1 hq T ku hd hle=>?_
 ·simp only[cz]
  by_cases eW:t<args.length
  ·obtain⟨u,hu,Aq⟩:=A.2 t args[t] (List.getElem?_eq_getElem eW)
   have e1:args.getD t .undef=args[t]:=by simp[List.getD_eq_getElem?_getD,eW]
   have e2:(vs++Array.replicate (fn.ntmps-vs.size) undef).getD t undef=u:=by
    simp only[Array.getD_eq_getD_getElem?]
    rw[Array.getElem?_append_left ah,hu];rfl
   rw[e1,e2];exact Aq
  ·have e1:args.getD t .undef=.undef:=by simp[List.getD_eq_getElem?_getD,Nat.le_of_not_lt eW]
   have e2:(vs++Array.replicate (fn.ntmps-vs.size) undef).getD t undef=undef:=by
    simp only[Array.getD_eq_getD_getElem?]
    rw[Array.getElem?_append_right ah,Array.getElem?_replicate]
    split<;>rfl
   rw[e1,e2];exact dy.undef
 ·have fin:(∃vs,gO jE σ1.get vr=some vs/\K (fw vs) σ1)->a1.defers=[]/\∃v,(results fn a1.tmps).run P w1=.ok v w1/\∃r g' n' D' ι' u,Ending.returned v=.returned u/\K r ⟨g',n'⟩/\Step hs D ι w D' ι' w1/\ik P hs D' ι' g' w1/\Used ι' n' (fun _=>False)/\σ.next<=n'/\dy P w1 D' ι' r u:=by
   rintro⟨avs,Iz,hK⟩
   obtain⟨us,h1,h2,h3⟩:=xo ku fn.results.toList vr avs hr Iz
   have Cy:(results fn a1.tmps).run P w1=.ok (if h:us.toArray.size=1 then us.toArray[0]else .tuple us.toArray) w1:=by
    rw[Hv,Array.mapM_eq_mapM_toList]
    simp only[Sem.run_bind,Sem.run_map,h1,Result.andThen_ok,Sem.run_pure]
   refine⟨hd,_,Cy,fw avs,σ1.get,σ1.next,D1,ι1,_,rfl,hK,T,ku.wE,ku.used,hle,?_⟩
   unfold fw
   split
   ·rename_i v
    have hl:us.length=1:=h2
    obtain⟨u,hu,Aq⟩:=h3 0 v rfl
    rw[dif_pos (by simpa using hl)]
    have:us.toArray[0]'(by simp[hl])=u:=by
     have:=(List.getElem?_eq_some_iff.1 hu).2
     simpa using this
    rw[this];exact Aq
   ·rename_i ig
    rw[dif_neg (by
     simp only[List.size_toArray,h2]
     intro h
     obtain⟨v,hv⟩:=List.length_eq_one_iff.1 h
     exact ig v hv)]
    exact .gM _ _ (fun j=>us.getD j undef) (by simp[h2]) (fun j hj=>by
     have:j<us.length:=by rw[h2];exact hj
     simp[this]) (fun j v hj=>by
     obtain⟨u,hu,Aq⟩:=h3 j v hj
     simpa[List.getD_eq_getElem?_getD,hu]using Aq)
  cases ex with
  |normal=>exact fin hq
  |ret=>exact fin hq
  |exit id=>exact hq.elim
theorem LV (hm:P.follows .mixedOrders=true) {f:Nat} {md:List (Nat×Nat)} {vf:Dl} {args:List AV} {σ:az} {K:AV->az->Prop} (hf:sb P f md=some vf) (ha:vf.BA=args.length) (h:eC (Sound P) vf.body (mz vf.res K) (cz args) σ):Sound P f args σ K:=by
 unfold sb at hf
 split at hf
 ·rename_i fn VA
  split at hf
  ·rename_i c hc
   simp only[Option.bind_eq_bind,Option.bind_eq_some_iff]at hf
   obtain⟨vb,hb,vr,hr,hf⟩:=hf
   split at hf
   ·rename_i hle
    simp only[Option.pure_def,Option.some.injEq]at hf
    subst hf
    simp only at ha h
    exact yw VA hc hr ha hle fun hs w D ι a Q' eA hQ=>sY hm c vb hb (mz vr K) (cz args) σ a w D ι Q' h eA hQ
   ·simp at hf
  ·simp at hf
 ·simp at hf
def RG (P:Program) (X:gT):gT:=fun f args σ K=>(∃md vf,sb P f md=some vf/\vf.BA=args.length/\((∀a∈args,fI a)->eC X vf.body (mz vf.res K) (cz args) σ))∨Sound P f args σ K
def Call (P:Program):gT:=fun f args σ K=>∀X:gT,sF X->(∀f args σ K,RG P X f args σ K->X f args σ K)->X f args σ K
theorem iE (hm:P.follows .mixedOrders=true) {f:Nat} {args:List AV} {σ:az} {K:AV->az->Prop} (h:Call P f args σ K):Sound P f args σ K:=
 h (Sound P) ma fun f args σ K hs=>by
  rcases hs with⟨md,vf,h1,h2,h3⟩|h
  ·intro hs D ι w vs S U A
   exact LV hm h1 h2 (h3 (qP fun j a hj=>by obtain⟨u,_,hr⟩:=A.2 j a hj;exact hr.ME)) hs D ι w vs S U A
  ·exact h
end
end Go.Proofs.YtiabgllilcfheaaGreat.V

namespace Go.Proofs.YtiabgllilcfheaaGreat.V
open Go.RowKit
variable {P:Program} {X Y:gT}
theorem Lk (h:∀f args σ K,X f args σ K->Y f args σ K) {f:Nat} {args:List AV} {σ:az} {K:AV->Prop} (hp:gi X f args σ K):gi Y f args σ K:=by
 rcases hp with hp|⟨a,h1,h2⟩
 ·exact .inl (h _ _ _ _ hp)
 ·exact .inr ⟨a,h1,h _ _ _ _ h2⟩
theorem OI (h:∀f args σ K,X f args σ K->Y f args σ K) {f:Nat} {args:List AV} {σ:az} {sz:Nat} {rows:List (List AV)} (hp:CM X f args σ sz rows):CM Y f args σ sz rows:=by
 obtain⟨h1,a,h2,h3⟩:=hp
 exact⟨h1,a,h2,h _ _ _ _ h3⟩
theorem sU (h:∀f args σ K,X f args σ K->Y f args σ K) (hK:∀f args σ K K',(∀r σ',K r σ'->K' r σ')->Y f args σ K->Y f args σ K') {draw:Bool} {hid:List Nat} {site:Nat} {f:Nat} {args:List AV} {σ:az} {n n':AV->az->Prop} (hn:∀v σ',n v σ'->n' v σ') (hp:cK X draw hid site f args σ n):cK Y draw hid site f args σ n':=by
 rcases hp with⟨r,h1,h2⟩|⟨h1,h2⟩|⟨h1,sz,rows,h2,h3⟩
 ·exact .inl ⟨r,Lk h h1,hn _ _ h2⟩
 ·exact .inr (.inl ⟨h1,hK _ _ _ _ _ hn (h _ _ _ _ h2)⟩)
 ·exact .inr (.inr ⟨h1,sz,rows,OI h h2,hn _ _ h3⟩)
theorem u9 (h:∀f args σ K,X f args σ K->Y f args σ K) (hK:∀f args σ K K',(∀r σ',K r σ'->K' r σ')->Y f args σ K->Y f args σ K') {draw:Bool} {o:aZ} {env:Env} {σ:az} {n n':AV->az->Prop} (hn:∀v σ',n v σ'->n' v σ') (hp:fP X draw o env σ n):fP Y draw o env σ n':=by
 unfold fP at hp ⊢
 split at hp
 ·exact sU h hK hn hp
 ·split at hp
  ·exact sU h hK hn hp
  ·exact sU h hK hn hp
  ·exact hp.elim
 ·split at hp
  ·exact hn _ _ hp
  ·exact hp.elim
 ·split at hp
  ·exact hn _ _ hp
  ·exact hp.elim
 ·split at hp
  ·exact hn _ _ hp
  ·exact hp.elim
 ·split at hp
  ·exact hn _ _ hp
  ·exact hp.elim
 ·split at hp
  ·exact hn _ _ hp
  ·exact hp.elim
 ·split at hp
  ·exact hn _ _ hp
  ·exact hn _ _ hp
  ·exact hp.elim
theorem mK (h:∀f args σ K,X f args σ K->Y f args σ K) (hK:∀f args σ K K',(∀r σ',K r σ'->K' r σ')->Y f args σ K->Y f args σ K') {draw:Bool} {Q Q':Env->az->Prop} (hQ:∀e s,Q e s->Q' e s):∀(l:List aZ) (env:Env) (σ:az),wpOps X draw l Q env σ->wpOps Y draw l Q' env σ
 |[],env,σ,hp=>hQ _ _ hp
 |o::r,env,σ,hp=>by
  unfold wpOps at hp ⊢
  split at hp
  ·rename_i hw;rw[if_pos hw];exact u9 h hK (fun v σ'=>mK h hK hQ r _ _) hp
  ·rename_i hw;rw[if_neg hw];exact mK h hK hQ r _ _ hp
theorem ph {Q Q':Env->az->Prop} (hQ:∀e s,Q e s->Q' e s):∀(l:List aZ) (env:Env) (σ:az),cF l Q env σ->cF l Q' env σ
 |[],env,σ,hp=>hQ _ _ hp
 |o::r,env,σ,hp=>by
  unfold cF at hp ⊢
  refine⟨hp.1,?_⟩
  replace hp:=hp.2
  split at hp
  ·split at hp
   ·exact ph hQ r _ _ hp
   ·exact hp.elim
  ·split at hp
   ·exact ph hQ r _ _ hp
   ·exact hp.elim
  ·split at hp
   ·exact ph hQ r _ _ hp
   ·exact hp.elim
theorem ko (h:∀f args σ K,X f args σ K->Y f args σ K) (hK:∀f args σ K K',(∀r σ',K r σ'->K' r σ')->Y f args σ K->Y f args σ K'):∀(c:VC) (Q Q':Ex->Env->az->Prop) (env:Env) (σ:az),(∀x e s,Q x e s->Q' x e s)->eC X c Q env σ->eC Y c Q' env σ:=by
 intro c
 induction c with
 |skip=>intro Q Q' env σ hQ hp;exact hQ _ _ _ hp
 |exit id=>intro Q Q' env σ hQ hp;exact hQ _ _ _ hp
 |ret=>intro Q Q' env σ hQ hp;exact hQ _ _ _ hp
 |one o c ih=>
  intro Q Q' env σ hQ hp
  unfold eC at hp ⊢
  split at hp
  ·rename_i hw;rw[if_pos hw];exact u9 h hK (fun v σ'=>ih Q Q' _ _ hQ) hp
  ·rename_i hw;rw[if_neg hw];exact ih Q Q' _ _ hQ hp
 |both a b iha ihb=>intro Q Q' env σ hQ hp;exact⟨iha Q Q' env σ hQ hp.1,ihb Q Q' env σ hQ hp.2⟩
 |loc t s y c ih=>intro Q Q' env σ hQ hp;exact⟨hp.1,ih Q Q' env σ hQ hp.2⟩
 |Sh ops=>intro Q Q' env σ hQ hp;exact ph (hQ .normal) ops env σ hp
 |eZ draw ops=>intro Q Q' env σ hQ hp;exact mK h hK (hQ .normal) ops env σ hp
 |seq a b iha ihb=>
  intro Q Q' env σ hQ hp
  refine iha _ _ env σ (fun x e s hx=>?_) hp
  cases x with
  |normal=>exact ihb Q Q' e s hQ hx
  |exit id=>exact hQ _ _ _ hx
  |ret=>exact hQ _ _ _ hx
 |cond c a b iha ihb=>
  intro Q Q' env σ hQ hp
  unfold eC at hp ⊢
  split at hp
  ·rename_i t ht
   cases t with
   |true=>exact iha Q Q' env σ hQ hp
   |false=>exact ihb Q Q' env σ hQ hp
  ·exact hp.elim
 |block id a iha=>
  intro Q Q' env σ hQ hp
  refine iha _ _ env σ (fun x e s hx=>?_) hp
  cases x with
  |normal=>exact hQ _ _ _ hx
  |ret=>exact hQ _ _ _ hx
  |exit lh=>
   unfold bq at hx ⊢
   dsimp only at hx ⊢
   split at hx
   ·rename_i hid;rw[if_pos hid];exact hQ _ _ _ hx
   ·rename_i hid;rw[if_neg hid];exact hQ _ _ _ hx
 |loop a iha=>
  intro Q Q' env σ hQ hp
  obtain⟨n,hp⟩:=hp
  refine⟨n,?_⟩
  induction n generalizing env σ with
  |zero=>exact hp
  |succ n ihn=>
   refine iha _ _ env σ (fun x e s hx=>?_) hp
   cases x with
   |normal=>exact ihn e s hx
   |exit id=>exact hQ _ _ _ hx
   |ret=>exact hQ _ _ _ hx
theorem aE:sF (Call P):=fun _ _ _ _ _ hK h X hX hc=>hX _ _ _ _ _ hK (h X hX hc)
theorem AE {f:Nat} {args:List AV} {σ:az} {K:AV->az->Prop} (h:RG P (Call P) f args σ K):Call P f args σ K:=by
 intro X hX hc
 refine hc _ _ _ _ ?_
 rcases h with⟨md,vf,h1,h2,h3⟩|h
 ·exact .inl ⟨md,vf,h1,h2,fun hl=>ko (fun f args σ K h=>h X hX hc) hX _ _ _ _ _ (fun _ _ _ h=>h) (h3 hl)⟩
 ·exact .inr h
theorem yi {f:Nat} {md:List (Nat×Nat)} {args:List AV} {σ:az} {K:AV->az->Prop} {vf:Dl} (hf:sb P f md=some vf) (ha:vf.BA=args.length) (h:(∀a∈args,fI a)->eC (Call P) vf.body (mz vf.res K) (cz args) σ):Call P f args σ K:=
 AE (.inl ⟨md,vf,hf,ha,h⟩)
theorem nL {f:Nat} {args:List AV} {σ:az} {K:AV->az->Prop} {vf:Dl} (hf:FZ P f=some vf) (ha:vf.BA=args.length) (h:(∀a∈args,fI a)->eC (Call P) vf.body (mz vf.res K) (cz args) σ):Call P f args σ K:=
 yi hf ha h
theorem gG {f:Nat} {args:List AV} {σ:az} {K:AV->az->Prop} (h:Sound P f args σ K):Call P f args σ K:=AE (.inr h)
def AI (P:Program) (f:Nat) (args:List AV) (r:AV):Prop:=∀σ,PC (Call P) f args σ (fun r'=>r'=r)
theorem AI.body {f:Nat} {args:List AV} {r:AV} {nt na:Nat} {body:VC} {res:List pN} (hf:FZ P f=some ⟨nt,na,body,res⟩) (ha:na=args.length) (h:(∀a∈args,fI a)->∀σ:az,eC (Call P) body (mz res fun r0 σ'=>∃r',fz σ'.get 6 r0=some r'/\r'=r) (cz args) ⟨V.ro σ.get,σ.next⟩):AI P f args r:=fun σ=>nL hf ha fun hl=>h hl σ
variable {Q:Ex->Env->az->Prop} {K:Env->az->Prop} {env:Env} {σ:az}
theorem FW {a b:VC} (h:∀N:Env->az->Prop,(∀e s,eC X b Q e s->N e s)->eC X a (dr N Q) env σ):eC X (.seq a b) Q env σ:=h _ fun _ _ h=>h
theorem Dj (h:Q .normal env σ):eC X .skip Q env σ:=h
theorem Dg {id:Nat} (h:Q (.exit id) env σ):eC X (.exit id) Q env σ:=h
theorem I8 (h:Q .ret env σ):eC X .ret Q env σ:=h
theorem ye {id:Nat} {c:VC} (h:eC X c (bq id Q) env σ):eC X (.block id c) Q env σ:=h
theorem I6 {o:aZ} {c:VC} (h:∀N:AV->az->Prop,(∀v s,eC X c Q (upd env o.dst v) s->N v s)->if aM o.guard env then fP X false o env σ N else N .undef σ):eC X (.one o c) Q env σ:=by
 have:=h (fun v s=>eC X c Q (upd env o.dst v) s) fun _ _ h=>h
 unfold eC
 split
 ·rename_i hw;rw[if_pos hw]at this;exact this
 ·rename_i hw;rw[if_neg hw]at this;exact this
def er (s n:Nat):AV->Prop
 | .own id 0 _=>id=⟨s,n⟩
 |_=>False
def ez (n:Nat):AV->Prop
 | .own id _ _=>¬id.bj=n
 |_=>True
theorem Dh {t s:Nat} {y:O} {c:VC} (h1:er s σ.next (env t)) (h2:ez σ.next (du env y)) (h:eC X c Q env σ):eC X (.loc t s y c) Q env σ:=by
 refine⟨⟨?_,fun id o l he=>?_⟩,h⟩
 ·revert h1
  unfold er
  split
  ·rename_i id l he;rintro rfl;exact⟨l,he⟩
  ·exact fun h=>h.elim
 ·rw[he]at h2;exact h2
theorem dv {a b:VC} (ha:eC X a Q env σ) (hb:eC X b Q env σ):eC X (.both a b) Q env σ:=⟨ha,hb⟩
theorem I7 {draw:Bool} {ops:List aZ} (h:∀N:Env->az->Prop,(∀e s,Q .normal e s->N e s)->wpOps X draw ops N env σ):eC X (.eZ draw ops) Q env σ:=h _ fun _ _ h=>h
theorem NL {ops:List aZ} (h:cF ops (Q .normal) env σ):eC X (.Sh ops) Q env σ:=h
theorem FV {draw:Bool} (h:K env ⟨σ.get,σ.next+1⟩):wpOps X draw [] K env σ:=h
theorem Ub {draw:Bool} {o:aZ} {r:List aZ} (h:∀N:AV->az->Prop,(∀v s,wpOps X draw r K (upd env o.dst v) s->N v s)->if aM o.guard env then fP X draw o env σ N else N .undef σ):wpOps X draw (o::r) K env σ:=by
 have:=h (fun v s=>wpOps X draw r K (upd env o.dst v) s) fun _ _ h=>h
 unfold wpOps
 split
 ·rename_i hw;rw[if_pos hw]at this;exact this
 ·rename_i hw;rw[if_neg hw]at this;exact this
theorem NM {c:O} {x y:VC} {b:Bool} (hc:du env c=.bool b) (ht:b=true->eC X x Q env σ) (hf:b=false->eC X y Q env σ):eC X (.cond c x y) Q env σ:=by
 unfold eC
 simp only[hc]
 cases b with
 |true=>exact ht rfl
 |false=>exact hf rfl
inductive qe:AV->Prop->Prop->Prop
 |t {A B:Prop}:A->qe (.bool true) A B
 |f {A B:Prop}:B->qe (.bool false) A B
theorem yf {c:O} {x y:VC} {v:AV} (hv:du env c=v) (h:qe v (eC X x Q env σ) (eC X y Q env σ)):eC X (.cond c x y) Q env σ:=by
 cases h with
 |t h=>exact NM hv (fun _=>h) (fun e=>by cases e)
 |f h=>exact NM hv (fun e=>by cases e) (fun _=>h)
theorem Ua {c:VC} (I:Nat->Env->az->Prop) (n:Nat) (h0:I n env σ) (step:∀n env σ,I n env σ->eC X c (fun x e s=>match x with| .normal=>∃m,m<n/\I m e s|x=>Q x e s) env σ)
  (hX:∀(c:VC) (Q Q':Ex->Env->az->Prop) env σ,(∀x e s,Q x e s->Q' x e s)->eC X c Q env σ->eC X c Q' env σ):eC X (.loop c) Q env σ:=by
 have key:∀N n env σ,n<N->I n env σ->IJ (eC X c) Q N env σ:=by
  intro N
  induction N with
  |zero=>intro n env σ h;exact absurd h (Nat.not_lt_zero _)
  |succ N ih=>
   intro n env σ hn hI
   refine hX c _ _ env σ (fun x e s hx=>?_) (step n env σ hI)
   cases x with
   |normal=>obtain⟨m,hm,hI'⟩:=hx;exact ih m e s ah hI'
   |exit id=>exact hx
   |ret=>exact hx
 exact⟨n+1,key _ n env σ (Nat.lt_succ_self _) h0⟩
theorem Qz {c:VC} (I:Nat->Env->az->Prop) (n:Nat) (h0:I n env σ) (step:∀n env σ,I n env σ->eC (Call P) c (fun x e s=>match x with| .normal=>∃m,m<n/\I m e s|x=>Q x e s) env σ):eC (Call P) (.loop c) Q env σ:=
 Ua I n h0 step fun c Q Q' env σ hQ h=>ko (fun _ _ _ _ h=>h) aE c Q Q' env σ hQ h
def AK:VC->List Nat
 | .eZ _ ops=>ops.filterMap (·.dst)
 | .seq a b=>AK a++AK b
 | .cond _ a b=>AK a++AK b
 | .block _ a=>AK a
 | .loop a=>AK a
 | .one o c=>o.dst.toList++AK c
 | .both a b=>AK a++AK b
 | .loc _ _ _ c=>AK c
 | .Sh ops=>ops.filterMap (·.dst)
 |_=>[]
def jS (l:List Nat) (env jC:Env):Prop:=∀t,l.contains t=false->jC t=env t
theorem jS.refl (l:List Nat) (env:Env):jS l env env:=fun _ _=>rfl
theorem jS.upd {l:List Nat} {e e':Env} {d:Option Nat} {v:AV} (h:jS l e e') (hd:∀t,d=some t->t∈l):jS l e (upd e' d v):=fun t ht=>by
 cases d with
 |none=>exact h t ht
 |some d=>
  have:t≠d:=fun hc=>by subst hc;rw[<-Bool.not_eq_true,List.contains_iff_mem]at ht;exact ht (hd _ rfl)
  show(if t=d then v else e' t)=e t
  rw[if_neg this];exact h t ht
theorem re {draw:Bool} {Q:Env->az->Prop} {l:List Nat} {e0:Env}:∀(ops:List aZ) (env:Env) (σ:az),(∀t,t∈ops.filterMap (·.dst)->t∈l)->jS l e0 env->wpOps (Call P) draw ops Q env σ->wpOps (Call P) draw ops (fun e s=>Q e s/\jS l e0 e) env σ
 |[],env,σ,_,hk,hp=>⟨hp,hk⟩
 |o::r,env,σ,hl,hk,hp=>by
  have hd:∀t,o.dst=some t->t∈l:=fun t ht=>hl t (List.mem_filterMap.2 ⟨o,by simp,ht⟩)
  have hr:∀t,t∈r.filterMap (·.dst)->t∈l:=fun t ht=>hl t (by
   obtain⟨x,hx,h⟩:=List.mem_filterMap.1 ht
   exact List.mem_filterMap.2 ⟨x,List.mem_cons_of_mem _ hx,h⟩)
  unfold wpOps at hp ⊢
  split at hp
  ·rename_i hw;rw[if_pos hw]
   exact u9 (fun _ _ _ _ h=>h) aE (fun v σ' h=>re r _ _ hr (hk.upd hd) h) hp
  ·rename_i hw;rw[if_neg hw];exact re r _ _ hr (hk.upd hd) hp
theorem nv {Q:Env->az->Prop} {l:List Nat} {e0:Env}:∀(ops:List aZ) (env:Env) (σ:az),(∀t,t∈ops.filterMap (·.dst)->t∈l)->jS l e0 env->cF ops Q env σ->cF ops (fun e s=>Q e s/\jS l e0 e) env σ
 |[],env,σ,_,hk,hp=>⟨hp,hk⟩
 |o::r,env,σ,hl,hk,hp=>by
  have hd:∀t,o.dst=some t->t∈l:=fun t ht=>hl t (List.mem_filterMap.2 ⟨o,by simp,ht⟩)
  have hr:∀t,t∈r.filterMap (·.dst)->t∈l:=fun t ht=>hl t (by
   obtain⟨x,hx,h⟩:=List.mem_filterMap.1 ht
   exact List.mem_filterMap.2 ⟨x,List.mem_cons_of_mem _ hx,h⟩)
  unfold cF at hp ⊢
  refine⟨hp.1,?_⟩
  replace hp:=hp.2
  split at hp
  ·split at hp
   ·exact nv r _ _ hr (hk.upd hd) hp
   ·exact hp.elim
  ·split at hp
   ·exact nv r _ _ hr (hk.upd hd) hp
   ·exact hp.elim
  ·split at hp
   ·exact nv r _ _ hr (hk.upd hd) hp
   ·exact hp.elim
theorem BY {l:List Nat} {e0:Env}:∀(c:VC) (Q:Ex->Env->az->Prop) (env:Env) (σ:az),(∀t,t∈AK c->t∈l)->jS l e0 env->eC (Call P) c Q env σ->eC (Call P) c (fun x e s=>Q x e s/\jS l e0 e) env σ:=by
 intro c
 induction c with
 |skip=>intro Q env σ _ hk hp;exact⟨hp,hk⟩
 |exit id=>intro Q env σ _ hk hp;exact⟨hp,hk⟩
 |ret=>intro Q env σ _ hk hp;exact⟨hp,hk⟩
 |one o c ih=>
  intro Q env σ hl hk hp
  have hd:∀t,o.dst=some t->t∈l:=fun t ht=>hl t (List.mem_append_left _ (by rw[ht];simp))
  have hr:∀t,t∈AK c->t∈l:=fun t ht=>hl t (List.mem_append_right _ ht)
  unfold eC at hp ⊢
  split at hp
  ·rename_i hw;rw[if_pos hw]
   exact u9 (fun _ _ _ _ h=>h) aE (fun v σ' h=>ih Q _ _ hr (hk.upd hd) h) hp
  ·rename_i hw;rw[if_neg hw];exact ih Q _ _ hr (hk.upd hd) hp
 |both a b iha ihb=>
  intro Q env σ hl hk hp
  exact⟨iha Q env σ (fun t ht=>hl t (List.mem_append_left _ ht)) hk hp.1,ihb Q env σ (fun t ht=>hl t (List.mem_append_right _ ht)) hk hp.2⟩
 |loc t s y c ih=>intro Q env σ hl hk hp;exact⟨hp.1,ih Q env σ hl hk hp.2⟩
 |Sh ops=>intro Q env σ hl hk hp;exact nv ops env σ hl hk hp
 |eZ draw ops=>intro Q env σ hl hk hp;exact re ops env σ hl hk hp
 |seq a b iha ihb=>
  intro Q env σ hl hk hp
  refine ko (fun _ _ _ _ h=>h) aE a _ _ env σ (fun x e s hx=>?_) (iha _ env σ (fun t ht=>hl t (List.mem_append_left _ ht)) hk hp)
  cases x with
  |normal=>exact ihb Q e s (fun t ht=>hl t (List.mem_append_right _ ht)) hx.2 hx.1
  |exit id=>exact hx
  |ret=>exact hx
 |cond c a b iha ihb=>
  intro Q env σ hl hk hp
  unfold eC at hp ⊢
  split at hp
  ·rename_i t ht
   cases t with
   |true=>exact iha Q env σ (fun t ht=>hl t (List.mem_append_left _ ht)) hk hp
   |false=>exact ihb Q env σ (fun t ht=>hl t (List.mem_append_right _ ht)) hk hp
  ·exact hp.elim
 |block id a iha=>
  intro Q env σ hl hk hp
  refine ko (fun _ _ _ _ h=>h) aE a _ _ env σ (fun x e s hx=>?_) (iha _ env σ hl hk hp)
  obtain⟨hx,Iu⟩:=hx
  cases x with
  |normal=>exact⟨hx,Iu⟩
  |ret=>exact⟨hx,Iu⟩
  |exit lh=>
   unfold bq at hx ⊢
   dsimp only at hx ⊢
   split at hx
   ·rename_i hid;rw[if_pos hid];exact⟨hx,Iu⟩
   ·rename_i hid;rw[if_neg hid];exact⟨hx,Iu⟩
 |loop a iha=>
  intro Q env σ hl hk hp
  obtain⟨n,hp⟩:=hp
  refine⟨n,?_⟩
  induction n generalizing env σ with
  |zero=>exact hp
  |succ n ihn=>
   refine ko (fun _ _ _ _ h=>h) aE _ _ _ _ _ (fun x e s hx=>?_) (iha _ env σ hl hk hp)
   obtain⟨hx,Iu⟩:=hx
   cases x with
   |normal=>exact ihn e s Iu hx
   |exit id=>exact⟨hx,Iu⟩
   |ret=>exact⟨hx,Iu⟩
theorem bz {c:VC} (I:Nat->Env->az->Prop) (n:Nat) (h0:I n env σ) (step:∀n e s,I n e s->jS (AK c) env e->eC (Call P) c (fun x e s=>match x with| .normal=>∃m,m<n/\I m e s|x=>Q x e s) e s):eC (Call P) (.loop c) Q env σ:=by
 refine Qz (fun n e s=>I n e s/\jS (AK c) env e) n ⟨h0,jS.refl _ _⟩ fun n e s hI=>?_
 refine ko (fun _ _ _ _ h=>h) aE _ _ _ _ _ (fun x e' s' hx=>?_) (BY c _ e s (fun _ h=>h) hI.2 (step n e s hI.1 hI.2))
 obtain⟨hx,hk⟩:=hx
 cases x with
 |normal=>obtain⟨m,hm,h⟩:=hx;exact⟨m,hm,h,hk⟩
 |exit id=>exact hx
 |ret=>exact hx
theorem NO {k:Nat} (h:k<=9223372036854775807):IntKind.i64.wrap (k:Int)=k:=by rw[IntKind.wrap_i64];omega
theorem cm {z:Int} (h: -9223372036854775808<=z/\z<=9223372036854775807):IntKind.i64.wrap z=z:=by rw[IntKind.wrap_i64];omega
theorem aK {k:Nat} (h:(k:Int)+1<=9223372036854775807):IntKind.i64.wrap ((k:Int)+1)=((k+1:Nat):Int):=by rw[IntKind.wrap_i64];omega
theorem all_succ {k:Nat} {p:Nat->Prop} (h:∀j,j<k->p j) (hk:p k):∀j,j<k+1->p j:=fun j hj=>by
 by_cases Bd:j=k
 ·subst Bd;exact hk
 ·exact h j ah
theorem aW (g:Rows) (n:Nat) (k:IntKind) (m:Int):fz g (n+1) (.int k m)=some (.int k m):=by rw[fz]<;>intros<;>simp_all
theorem bp (g:Rows) (n:Nat) (b:Bool):fz g (n+1) (.bool b)=some (.bool b):=by rw[fz]<;>intros<;>simp_all
theorem bZ (g:Rows) (n:Nat) (b:ByteArray):fz g (n+1) (.str b)=some (.str b):=by rw[fz]<;>intros<;>simp_all
theorem cw (g:Rows) (n:Nat) (l:List (List AV)):fz g (n+1) (.sl l)=some (.sl l):=by rw[fz]<;>intros<;>simp_all
theorem aV (g:Rows) (n:Nat):fz g (n+1) .br=some .br:=by rw[fz]<;>intros<;>simp_all
def ay (P:Program) (f:Nat) (args:List AV) (r:AV):Prop:=∀n:Nat,Call P f args ⟨fun _=>none,n⟩ fun r0 σ'=>∃r',iq σ'.get 6 r0=some r'/\r'=r
theorem ay.body {f:Nat} {args:List AV} {r:AV} {nt na:Nat} {body:VC} {res:List pN} (hf:FZ P f=some ⟨nt,na,body,res⟩) (ha:na=args.length) (h:(∀a∈args,fI a)->∀n:Nat,eC (Call P) body (mz res fun r0 σ'=>∃r',iq σ'.get 6 r0=some r'/\r'=r) (cz args) ⟨fun _=>none,n⟩):ay P f args r:=fun n=>nL hf ha fun hl=>h hl n
theorem ay.x {f:Nat} {args args':List AV} {r:AV} (h:ay P f args' r) {σ:az} (hv:eI (eL σ.get) 6 args=some args'):gi (Call P) f args σ (fun r'=>r'=r):=.inr ⟨args',hv,h _⟩
theorem AI.x {f:Nat} {args:List AV} {r:AV} (h:AI P f args r) (σ:az):gi (Call P) f args σ (fun r'=>r'=r):=.inl (h σ)
theorem dG (g:Rows) (n:Nat) (k:IntKind) (m:Int):iq g (n+1) (.int k m)=some (.int k m):=by rw[iq]<;>intros<;>simp_all
theorem fM (g:Rows) (n:Nat) (b:Bool):iq g (n+1) (.bool b)=some (.bool b):=by rw[iq]<;>intros<;>simp_all
theorem Cn (g:Rows) (n:Nat) (b:ByteArray):iq g (n+1) (.str b)=some (.str b):=by rw[iq]<;>intros<;>simp_all
theorem iN (g:Rows) (n:Nat):iq g (n+1) .br=some .br:=by rw[iq]<;>intros<;>simp_all
theorem eR (g:Rows) (n:Nat) (l:List AV):iq g (n+1) (.gM l)=(fm g n l).map AV.gM:=by rw[iq]
theorem jL (g:Rows) (n:Nat) (l:List AV):iq g (n+1) (.agg l)=(fm g n l).map AV.agg:=by rw[iq]
theorem ug {g:Rows} {n:Nat} {id:Id} {off len sz:Nat} {rows rows':List (List AV)} (h:g id=some ⟨true,sz,rows⟩) (hl:off+len<=rows.length) (hr:iz g n ((rows.drop off).take len)=some rows'):iq g (n+1) (.own id off len)=some (.sl rows'):=by
 rw[iq];simp only[h,if_true,if_pos hl,hr,Option.map_some]
theorem bY (g:Rows) (n:Nat):fm g n []=some []:=by rw[fm]
theorem bc (g:Rows) (n:Nat) (a:AV) (l:List AV):fm g n (a::l)=match iq g n a with
  |some b=>(fm g n l).map (b::·)
  |none=>none:=by rw[fm];cases iq g n a<;>rfl
theorem wT {g:Rows} {n:Nat}:∀{l:List (List AV)},(∀c∈l,fm g n c=some c)->iz g n l=some l
 |[],_=>by rw[iz]
 |c::r,h=>by rw[iz,h c (by simp),wT fun d hd=>h d (List.mem_cons_of_mem _ hd)];rfl
theorem bH (g:Rows) (n:Nat) (l:List AV):fz g (n+1) (.agg l)=(eI g n l).map AV.agg:=by rw[fz]
theorem aU (g:Rows) (n:Nat) (l:List AV):fz g (n+1) (.dF l)=some (.dF l):=by rw[fz]<;>intros<;>simp_all
theorem s9 {g:Rows} {n:Nat} {id:Id} {i off sz:Nat} {rows:List (List AV)} {cs ub:List AV} (h:g id=some ⟨true,sz,rows⟩) (hi:rows[i]? =some cs) (hr:eI g n (cs.drop off)=some ub):fz g (n+1) (.ptr id i off)=some (.dF ub):=by
 rw[fz];simp only[h,if_true,hi,hr,Option.map_some]
theorem ax (g:Rows) (n:Nat):eI g n []=some []:=by rw[eI]
theorem ar (g:Rows) (n:Nat) (a:AV) (l:List AV):eI g n (a::l)=match fz g n a with
  |some b=>(eI g n l).map (b::·)
  |none=>none:=by rw[eI];cases fz g n a<;>rfl
theorem uQ {t:Nat} {r r0:AV} {x:Ex} (hx:x=.ret∨x=.normal) (he:env t=r0) (hz:iq σ.get 6 r0=some r):mz [.tmp t] (fun r0 σ'=>∃r',iq σ'.get 6 r0=some r'/\r'=r) x env σ:=by
 have:∃vs,gO env σ.get [.tmp t]=some vs/\∃r',iq σ.get 6 (fw vs)=some r'/\r'=r:=⟨[env t],rfl,r,by subst he;exact hz,rfl⟩
 rcases hx with rfl|rfl
 ·exact this
 ·exact this
theorem cD {t:Nat} {b c:Bool} {x:Ex} (hx:x=.ret∨x=.normal) (he:env t=.bool b) (hb:b=c):mz [.tmp t] (fun r0 σ'=>∃r',iq σ'.get 6 r0=some r'/\r'=.bool c) x env σ:=uQ hx he (by rw[fM,hb])
theorem eJ {t:Nat} {k:IntKind} {b c:Int} {x:Ex} (hx:x=.ret∨x=.normal) (he:env t=.int k b) (hb:b=c):mz [.tmp t] (fun r0 σ'=>∃r',iq σ'.get 6 r0=some r'/\r'=.int k c) x env σ:=uQ hx he (by rw[dG,hb])
theorem km {t u:Nat} {r r1 r2:AV} {x:Ex} (hx:x=.ret∨x=.normal) (h1:env t=r1) (h2:env u=r2) (hz:iq σ.get 6 (.gM [r1,r2])=some r):mz [.tmp t,.tmp u] (fun r0 σ'=>∃r',iq σ'.get 6 r0=some r'/\r'=r) x env σ:=by
 have:∃vs,gO env σ.get [.tmp t,.tmp u]=some vs/\∃r',iq σ.get 6 (fw vs)=some r'/\r'=r:=⟨[env t,env u],rfl,r,by subst h1;subst h2;exact hz,rfl⟩
 rcases hx with rfl|rfl
 ·exact this
 ·exact this
structure Pn (p:Prop):Prop where
 out:p
theorem tw {A B:Prop} (a:A) (b:B):A/\B:=⟨a,b⟩
theorem wk {A R G:Prop} (a:A) (r:R) (h:A->R->G:=by
  intro fL kk
  (repeat(apply Pn.mk;intro N Z))
  (first|((first|apply FW|apply I7);intro N Z)|((first|(apply Ub;intro N Z)|(apply I6;intro N Z));simp only[go_sem, ↓reduceIte,Nat.reduceEqDiff,Nat.reduceAdd,Nat.reduceSub,Nat.reduceMul,Nat.reduceLeDiff,Nat.reduceBEq,reduceCtorEq,Nat.reduceLT,Int.reduceLE,Int.reduceLT,Int.reduceToNat,Int.reduceNeg,Int.reduceAdd,Int.reduceEq,fL];first|(apply Z;clear Z N)|skip)|(apply yf;(simp only[go_sem, ↓reduceIte,Nat.reduceEqDiff,Nat.reduceAdd,Nat.reduceSub,Nat.reduceMul,Nat.reduceLeDiff,Nat.reduceBEq,reduceCtorEq,Nat.reduceLT,Int.reduceLE,Int.reduceLT,Int.reduceToNat,Int.reduceNeg,Int.reduceAdd,Int.reduceEq,fL];rfl);first|with_reducible apply qe.t|with_reducible apply qe.f)|(apply FV;apply Z;clear Z N;try(simp only[dr,bq, ↓reduceIte,Nat.reduceEqDiff]);try(apply Z;clear Z N))|apply ye|(refine Dh ?_ ?_ ?_;(focus(simp only[go_sem, ↓reduceIte,Nat.reduceEqDiff,Nat.reduceAdd,Nat.reduceSub,Nat.reduceMul,Nat.reduceLeDiff,Nat.reduceBEq,reduceCtorEq,Nat.reduceLT,Int.reduceLE,Int.reduceLT,Int.reduceToNat,Int.reduceNeg,Int.reduceAdd,Int.reduceEq,fL];done));(focus(simp only[go_sem, ↓reduceIte,Nat.reduceEqDiff,Nat.reduceAdd,Nat.reduceSub,Nat.reduceMul,Nat.reduceLeDiff,Nat.reduceBEq,reduceCtorEq,Nat.reduceLT,Int.reduceLE,Int.reduceLT,Int.reduceToNat,Int.reduceNeg,Int.reduceAdd,Int.reduceEq,fL];done)))|((first|apply Dj|apply Dg|apply I8);try(simp only[dr,bq, ↓reduceIte,Nat.reduceEqDiff]);try(apply Z;clear Z N))|((first|apply Z|(clear Z N;first|apply Z|(clear Z N;first|apply Z|(clear Z N;first|apply Z|(clear Z N;apply Z)))));clear Z N))
  (repeat(first|((first|apply FW|apply I7);intro N Z)|((first|(apply Ub;intro N Z)|(apply I6;intro N Z));simp only[go_sem, ↓reduceIte,Nat.reduceEqDiff,Nat.reduceAdd,Nat.reduceSub,Nat.reduceMul,Nat.reduceLeDiff,Nat.reduceBEq,reduceCtorEq,Nat.reduceLT,Int.reduceLE,Int.reduceLT,Int.reduceToNat,Int.reduceNeg,Int.reduceAdd,Int.reduceEq,fL];first|(apply Z;clear Z N)|skip)|(apply yf;(simp only[go_sem, ↓reduceIte,Nat.reduceEqDiff,Nat.reduceAdd,Nat.reduceSub,Nat.reduceMul,Nat.reduceLeDiff,Nat.reduceBEq,reduceCtorEq,Nat.reduceLT,Int.reduceLE,Int.reduceLT,Int.reduceToNat,Int.reduceNeg,Int.reduceAdd,Int.reduceEq,fL];rfl);first|with_reducible apply qe.t|with_reducible apply qe.f)|(apply FV;apply Z;clear Z N;try(simp only[dr,bq, ↓reduceIte,Nat.reduceEqDiff]);try(apply Z;clear Z N))|apply ye|(refine Dh ?_ ?_ ?_;(focus(simp only[go_sem, ↓reduceIte,Nat.reduceEqDiff,Nat.reduceAdd,Nat.reduceSub,Nat.reduceMul,Nat.reduceLeDiff,Nat.reduceBEq,reduceCtorEq,Nat.reduceLT,Int.reduceLE,Int.reduceLT,Int.reduceToNat,Int.reduceNeg,Int.reduceAdd,Int.reduceEq,fL];done));(focus(simp only[go_sem, ↓reduceIte,Nat.reduceEqDiff,Nat.reduceAdd,Nat.reduceSub,Nat.reduceMul,Nat.reduceLeDiff,Nat.reduceBEq,reduceCtorEq,Nat.reduceLT,Int.reduceLE,Int.reduceLT,Int.reduceToNat,Int.reduceNeg,Int.reduceAdd,Int.reduceEq,fL];done)))|((first|apply Dj|apply Dg|apply I8);try(simp only[dr,bq, ↓reduceIte,Nat.reduceEqDiff]);try(apply Z;clear Z N))|((first|apply Z|(clear Z N;first|apply Z|(clear Z N;first|apply Z|(clear Z N;first|apply Z|(clear Z N;apply Z)))));clear Z N)))
  (repeat(revert N;apply Pn.out))
  exact kk):G:=h a r
theorem wa {A R G:Prop} (a:A) (r:R) (h:A->R->G:=by
  intro fL kk
  (repeat(apply Pn.mk;intro N Z))
  (first|((first|apply FW|apply I7);intro N Z)|((first|(refine RL rfl fun N Z=>?_)|(apply I6;intro N Z));simp only[go_sem, ↓reduceIte,Nat.reduceEqDiff,Nat.reduceAdd,Nat.reduceSub,Nat.reduceMul,Nat.reduceLeDiff,Nat.reduceBEq,reduceCtorEq,Nat.reduceLT,Int.reduceLE,Int.reduceLT,Int.reduceToNat,Int.reduceNeg,Int.reduceAdd,Int.reduceEq,fL];first|(apply Z;clear Z N)|skip)|(apply yf;(simp only[go_sem, ↓reduceIte,Nat.reduceEqDiff,Nat.reduceAdd,Nat.reduceSub,Nat.reduceMul,Nat.reduceLeDiff,Nat.reduceBEq,reduceCtorEq,Nat.reduceLT,Int.reduceLE,Int.reduceLT,Int.reduceToNat,Int.reduceNeg,Int.reduceAdd,Int.reduceEq,fL];rfl);first|with_reducible apply qe.t|with_reducible apply qe.f)|(apply FV;apply Z;clear Z N;try(simp only[dr,bq, ↓reduceIte,Nat.reduceEqDiff]);try(apply Z;clear Z N))|apply ye|(refine Dh ?_ ?_ ?_;(focus(simp only[go_sem, ↓reduceIte,Nat.reduceEqDiff,Nat.reduceAdd,Nat.reduceSub,Nat.reduceMul,Nat.reduceLeDiff,Nat.reduceBEq,reduceCtorEq,Nat.reduceLT,Int.reduceLE,Int.reduceLT,Int.reduceToNat,Int.reduceNeg,Int.reduceAdd,Int.reduceEq,fL];done));(focus(simp only[go_sem, ↓reduceIte,Nat.reduceEqDiff,Nat.reduceAdd,Nat.reduceSub,Nat.reduceMul,Nat.reduceLeDiff,Nat.reduceBEq,reduceCtorEq,Nat.reduceLT,Int.reduceLE,Int.reduceLT,Int.reduceToNat,Int.reduceNeg,Int.reduceAdd,Int.reduceEq,fL];done)))|((first|apply Dj|apply Dg|apply I8);try(simp only[dr,bq, ↓reduceIte,Nat.reduceEqDiff]);try(apply Z;clear Z N))|((first|apply Z|(clear Z N;first|apply Z|(clear Z N;first|apply Z|(clear Z N;first|apply Z|(clear Z N;apply Z)))));clear Z N))
  (repeat(first|((first|apply FW|apply I7);intro N Z)|((first|(refine RL rfl fun N Z=>?_)|(apply I6;intro N Z));simp only[go_sem, ↓reduceIte,Nat.reduceEqDiff,Nat.reduceAdd,Nat.reduceSub,Nat.reduceMul,Nat.reduceLeDiff,Nat.reduceBEq,reduceCtorEq,Nat.reduceLT,Int.reduceLE,Int.reduceLT,Int.reduceToNat,Int.reduceNeg,Int.reduceAdd,Int.reduceEq,fL];first|(apply Z;clear Z N)|skip)|(apply yf;(simp only[go_sem, ↓reduceIte,Nat.reduceEqDiff,Nat.reduceAdd,Nat.reduceSub,Nat.reduceMul,Nat.reduceLeDiff,Nat.reduceBEq,reduceCtorEq,Nat.reduceLT,Int.reduceLE,Int.reduceLT,Int.reduceToNat,Int.reduceNeg,Int.reduceAdd,Int.reduceEq,fL];rfl);first|with_reducible apply qe.t|with_reducible apply qe.f)|(apply FV;apply Z;clear Z N;try(simp only[dr,bq, ↓reduceIte,Nat.reduceEqDiff]);try(apply Z;clear Z N))|apply ye|(refine Dh ?_ ?_ ?_;(focus(simp only[go_sem, ↓reduceIte,Nat.reduceEqDiff,Nat.reduceAdd,Nat.reduceSub,Nat.reduceMul,Nat.reduceLeDiff,Nat.reduceBEq,reduceCtorEq,Nat.reduceLT,Int.reduceLE,Int.reduceLT,Int.reduceToNat,Int.reduceNeg,Int.reduceAdd,Int.reduceEq,fL];done));(focus(simp only[go_sem, ↓reduceIte,Nat.reduceEqDiff,Nat.reduceAdd,Nat.reduceSub,Nat.reduceMul,Nat.reduceLeDiff,Nat.reduceBEq,reduceCtorEq,Nat.reduceLT,Int.reduceLE,Int.reduceLT,Int.reduceToNat,Int.reduceNeg,Int.reduceAdd,Int.reduceEq,fL];done)))|((first|apply Dj|apply Dg|apply I8);try(simp only[dr,bq, ↓reduceIte,Nat.reduceEqDiff]);try(apply Z;clear Z N))|((first|apply Z|(clear Z N;first|apply Z|(clear Z N;first|apply Z|(clear Z N;first|apply Z|(clear Z N;apply Z)))));clear Z N)))
  (repeat(revert N;apply Pn.out))
  exact kk):G:=h a r
theorem sd {A G:Prop} (a:A) (h:A->G:=by
  intro fL
  first|(simp only[go_sem, ↓reduceIte,Nat.reduceEqDiff,Nat.reduceAdd,Nat.reduceSub,Nat.reduceMul,Nat.reduceLeDiff,Nat.reduceBEq,reduceCtorEq,Nat.reduceLT,Int.reduceLE,Int.reduceLT,Int.reduceToNat,Int.reduceNeg,Int.reduceAdd,Int.reduceEq,fL,gO,jq];done)|fail):G:=h a
theorem sl {A G:Prop} (a:A) (h:A->G:=by
  intro fL
  (try simp only[go_sem, ↓reduceIte,Nat.reduceEqDiff,Nat.reduceAdd,Nat.reduceSub,Nat.reduceMul,Nat.reduceLeDiff,Nat.reduceBEq,reduceCtorEq,Nat.reduceLT,Int.reduceLE,Int.reduceLT,Int.reduceToNat,Int.reduceNeg,Int.reduceAdd,Int.reduceEq,fL])
  try rfl):G:=h a
end Go.Proofs.YtiabgllilcfheaaGreat.V

namespace Go.Proofs.YtiabgllilcfheaaGreat.V
open Go.RowKit
variable {P:Program} {X:gT} {env:Env} {σ:az}
theorem bI (g:Rows) (n:Nat) (l:List AV):fz g (n+1) (.gM l)=(eI g n l).map AV.gM:=by rw[fz]
theorem cQ (g:Rows) (n:Nat) (f:Nat) (l:List AV):fz g (n+1) (.fn f l)=if l.all AV.cell then(eI g n l).map (AV.fn f)else none:=by rw[fz]
theorem bh (g:Rows) (n:Nat) (id:Id) (i off:Nat):fz g (n+1) (.ptr id i off)=match g id with
  |some r=>if r.w then(match r.rows[i]? with
   |some cs=>(eI g n (cs.drop off)).map AV.dF
   |none=>none)else none
  |none=>none:=by rw[fz];rfl
theorem ju (g:Rows) (n:Nat) (id:Id) (off len:Nat):fz g (n+1) (.own id off len)=match g id with
  |some r=>if r.w then(if off+len<=r.rows.length then(fj g n ((r.rows.drop off).take len)).map AV.sl else none)else none
  |none=>none:=by rw[fz];rfl
theorem qC (g:Rows) (n:Nat):fj g n []=some []:=by rw[fj]
theorem Cm (g:Rows) (n:Nat) (c:List AV) (l:List (List AV)):fj g n (c::l)=match eI g n c with
  |some b=>(fj g n l).map (b::·)
  |none=>none:=by rw[fj];cases eI g n c<;>rfl
theorem yP {g:Rows} {n:Nat}:∀{l:List (List AV)},(∀c∈l,eI g n c=some c)->fj g n l=some l
 |[],_=>by rw[fj]
 |c::r,h=>by rw[fj,h c (by simp),yP fun d hd=>h d (List.mem_cons_of_mem _ hd)];rfl
theorem oH {α:Type} {g:Rows} {n:Nat} {e:α->List AV} {l:List α} (h:∀x,eI g n (e x)=some (e x)):fj g n (l.map e)=some (l.map e):=yP fun c hc=>by
 obtain⟨x,_,rfl⟩:=List.mem_map.1 hc
 exact h x
theorem wV {α:Type} {g:Rows} {n:Nat} {e:α->List AV} {l:List α} (h:∀x,fm g n (e x)=some (e x)):iz g n (l.map e)=some (l.map e):=wT fun c hc=>by
 obtain⟨x,_,rfl⟩:=List.mem_map.1 hc
 exact h x
theorem kM {α:Type} {g:Rows} {n:Nat} {e:α->List AV} {l:List α} {id:Id} {sz len:Nat} (hg:g id=some ⟨true,sz,l.map e⟩) (hl:len=l.length) (h:∀x,eI g n (e x)=some (e x)):fz g (n+1) (.own id 0 len)=some (.sl (l.map e)):=by
 subst hl
 rw[ju];simp only[hg,if_true]
 rw[if_pos (by simp),List.drop_zero,List.take_of_length_le (by simp),oH h];rfl
theorem eP {α:Type} {g:Rows} {n:Nat} {e:α->List AV} {l:List α} {id:Id} {sz len:Nat} (hg:g id=some ⟨true,sz,l.map e⟩) (hl:len=l.length) (h:∀x,fm g n (e x)=some (e x)):iq g (n+1) (.own id 0 len)=some (.sl (l.map e)):=by
 subst hl
 exact ug hg (by simp) (by rw[List.drop_zero,List.take_of_length_le (by simp),wV h])
theorem all_map {α:Type} {e:α->List AV} {sz:Nat} {l:List α} (h:∀x,(e x).length=sz/\(e x).all AV.cell=true):(l.map e).all (fun c=>c.length==sz&&c.all AV.cell)=true:=by
 rw[List.all_eq_true]
 intro c hc
 obtain⟨x,_,rfl⟩:=List.mem_map.1 hc
 simp[(h x).1,(h x).2]
def RowM (P:Program) (f:Nat) (args:List AV) (sz:Nat) (rows:List (List AV)):Prop:=(∀c∈rows,∀a∈c,a.plain=true)/\∀n:Nat,Call P f args ⟨fun _=>none,n⟩ fun r σ'=>∃id,r=.own id 0 rows.length/\σ'.get id=some ⟨true,sz,rows⟩
theorem Nl {res:List pN} {r:AV} {vs:List AV} {x:Ex} (hx:x=.ret∨x=.normal) (hv:gO env σ.get res=some vs) (hz:fz σ.get 6 (fw vs)=some r):mz res (fun r0 σ'=>∃r',fz σ'.get 6 r0=some r'/\r'=r) x env σ:=by
 rcases hx with rfl|rfl
 ·exact⟨vs,hv,r,hz,rfl⟩
 ·exact⟨vs,hv,r,hz,rfl⟩
theorem jX {res:List pN} {r:AV} {vs:List AV} {x:Ex} (hx:x=.ret∨x=.normal) (hv:gO env σ.get res=some vs) (hz:iq σ.get 6 (fw vs)=some r):mz res (fun r0 σ'=>∃r',iq σ'.get 6 r0=some r'/\r'=r) x env σ:=by
 rcases hx with rfl|rfl
 ·exact⟨vs,hv,r,hz,rfl⟩
 ·exact⟨vs,hv,r,hz,rfl⟩
theorem fV {res:List pN} {K:AV->az->Prop} {vs:List AV} {x:Ex} (hx:x=.ret∨x=.normal) (hv:gO env σ.get res=some vs) (hK:K (fw vs) σ):mz res K x env σ:=by
 rcases hx with rfl|rfl
 ·exact⟨vs,hv,hK⟩
 ·exact⟨vs,hv,hK⟩
theorem hZ {f:Nat} {args:List AV} {σ:az} {K:AV->az->Prop} {nt na:Nat} {body:VC} {res:List pN} (hf:FZ P f=some ⟨nt,na,body,res⟩) (ha:na=args.length) (h:(∀a∈args,fI a)->eC (Call P) body (mz res K) (cz args) σ):Call P f args σ K:=nL hf ha h
theorem qd {f:Nat} {md:List (Nat×Nat)} {args:List AV} {σ:az} {K:AV->az->Prop} {nt na:Nat} {body:VC} {res:List pN} (hf:sb P f md=some ⟨nt,na,body,res⟩) (ha:na=args.length) (h:(∀a∈args,fI a)->eC (Call P) body (mz res K) (cz args) σ):Call P f args σ K:=yi hf ha h
theorem dh {i:Id} {n:Nat} (h:i.bj<n):(∀s,(i=⟨s,n⟩)=False/\(i=⟨s,n+1⟩)=False/\(i=⟨s,n+1+1⟩)=False/\(i=⟨s,n+1+1+1⟩)=False/\(i=⟨s,n+1+1+1+1⟩)=False/\(i=⟨s,n+1+1+1+1+1⟩)=False/\(i=⟨s,n+1+1+1+1+1+1⟩)=False/\(i=⟨s,n+1+1+1+1+1+1+1⟩)=False/\(i=⟨s,n+1+1+1+1+1+1+1+1⟩)=False/\(i=⟨s,n+1+1+1+1+1+1+1+1+1⟩)=False/\(⟨s,n⟩=i)=False/\(⟨s,n+1⟩=i)=False/\(⟨s,n+1+1⟩=i)=False/\(⟨s,n+1+1+1⟩=i)=False/\(⟨s,n+1+1+1+1⟩=i)=False/\(⟨s,n+1+1+1+1+1⟩=i)=False/\(⟨s,n+1+1+1+1+1+1⟩=i)=False/\(⟨s,n+1+1+1+1+1+1+1⟩=i)=False/\(⟨s,n+1+1+1+1+1+1+1+1⟩=i)=False/\(⟨s,n+1+1+1+1+1+1+1+1+1⟩=i)=False)/\(i.bj=n)=False/\(i.bj=n+1)=False/\(i.bj=n+1+1)=False/\(i.bj=n+1+1+1)=False/\(i.bj=n+1+1+1+1)=False/\(i.bj=n+1+1+1+1+1)=False/\(i.bj=n+1+1+1+1+1+1)=False/\(i.bj=n+1+1+1+1+1+1+1)=False/\(i.bj=n+1+1+1+1+1+1+1+1)=False/\(i.bj=n+1+1+1+1+1+1+1+1+1)=False:=by
 refine⟨fun s=>?_,?_⟩
 ·obtain⟨a,b⟩:=i
  simp only[Id.mk.injEq,eq_iff_iff,iff_false,not_and]
  simp only at h
  refine⟨?_,?_,?_,?_,?_,?_,?_,?_,?_,?_,?_,?_,?_,?_,?_,?_,?_,?_,?_,?_⟩<;>(intros;omega)
 ·simp only[eq_iff_iff,iff_false]
  refine⟨?_,?_,?_,?_,?_,?_,?_,?_,?_,?_⟩<;>omega
def RS (a b:Nat) (ids:List Id):Prop:=ids.Nodup/\∀i∈ids,a<=i.bj/\i.bj<b
def Kept (σ σ':az):Prop:=σ.next<=σ'.next/\∀j:Id,j.bj<σ.next->σ'.get j=σ.get j
end Go.Proofs.YtiabgllilcfheaaGreat.V

namespace Go.Proofs.YtiabgllilcfheaaGreat.V
open Go.RowKit
def AV.clean:AV->Bool
 | .int .. | .bool _| .str _| .br| .iX| .jR| .j4| .own .. | .ptr .. | .map .. | .tZ _=>true
 | .sl l=>l.isEmpty
 |_=>false
def AV.Cg:AV->Bool
 | .agg cs=>cs.all AV.clean
 | .gM cs=>cs.all fun a=>match a with
  | .agg cs=>cs.all AV.clean
  |a=>a.clean
 |a=>a.clean
def BU (ids:List Id) (g g':Rows):Rows:=fun id=>if id∈ids then g' id else g id
theorem uX {ids:List Id} {g g':Rows} {id:Id} (h:id∈ids):BU ids g g' id=g' id:=if_pos h
theorem oe {ids:List Id} {g g':Rows} {id:Id} (h:id∉ids):BU ids g g' id=g id:=if_neg h
section
variable {P:Program} {w w':World} {D D' D1 D2:Nat->Prop} {ι ι1 ι2:Names}
theorem kZ {a:AV} {v:Value} (hp:a.clean=true) (h:dy P w D1 ι1 a v):dy P w D2 ι1 a v:=by
 cases h with
 |fF a v h=>
  cases h with
  |int=>exact .fF _ _ (.int _ _)
  |bool=>exact .fF _ _ (.bool _)
  |str=>exact .fF _ _ (.str _)
  |br=>exact .fF _ _ .br
  |iX=>exact .fF _ _ .iX
  |jR=>exact .fF _ _ .jR
  |j4=>exact .fF _ _ .j4
  |Dy a c h=>exact .fF _ _ (.Dy a c h)
  |sl rows b o n c sz vs h1 h2 h3=>
   have:rows=[]:=by simpa[AV.clean]using hp
   subst this
   simp only[List.length_nil]at h1
   subst h1
   exact .fF _ _ (.Dy _ _ h3)
  |dF=>simp[AV.clean]at hp
  |agg=>simp[AV.clean]at hp
  |fn=>simp[AV.clean]at hp
 |own id off len o cap B h1 h2 h3 h4 h5 h6=>exact .own id off len o cap B h1 h2 h3 h4 h5 h6
 |map id m B h1 h2=>exact .map id m B h1 h2
 |tZ id c B h1 h2=>exact .tZ id c B h1 h2
 |ptr id i off B h1 h2=>exact .ptr id i off B h1 h2
 |agg=>simp[AV.clean]at hp
 |gM=>simp[AV.clean]at hp
 |fn=>simp[AV.clean]at hp
 |xi=>simp[AV.clean]at hp
theorem nE {cs:List AV} {v:Value} (hc:cs.all AV.clean=true) (h:dy P w D1 ι1 (.agg cs) v):dy P w D2 ι1 (.agg cs) v:=by
 obtain⟨vs,f,rfl,h1,h2,h3,h4⟩:=jw h
 rw[List.all_eq_true]at hc
 exact .agg cs vs f h1 h2 h3 fun j a ha=>kZ (hc a (List.mem_of_getElem? ha)) (h4 j a ha)
theorem Hu {a:AV} {v:Value} (hp:a.Cg=true) (h:dy P w D1 ι1 a v):dy P w D2 ι1 a v:=by
 cases a with
 |agg cs=>exact nE hp h
 |gM cs=>
  obtain⟨vs,f,rfl,h1,h3,h4⟩:=yd h
  simp only[AV.Cg,List.all_eq_true]at hp
  refine .gM cs vs f h1 h3 fun j a ha=>?_
  have:=hp a (List.mem_of_getElem? ha)
  split at this
  ·exact nE this (h4 j _ ha)
  ·exact kZ this (h4 j _ ha)
 |_=>exact kZ hp h
theorem Hr {ag:Bool} {n:Nat} {cs:List AV} {x:AV} {v:Value} (hc:∀a∈cs,a.clean=true) (hp:part ag n cs=some x) (hr:dy P w D1 ι1 x v):dy P w D2 ι1 x v:=by
 unfold part at hp
 split at hp
 ·split at hp
  ·simp only[Option.some.injEq]at hp;subst hp
   exact nE (List.all_eq_true.2 fun a ha=>hc a (List.mem_of_mem_take ha)) hr
  ·cases hp
 ·exact kZ (hc x (List.mem_of_mem_head? hp)) hr
theorem iJ.clean {B:tM} {r:Row} (R:iJ P w D1 ι1 B r) (h:∀cs∈r.rows,∀a∈cs,a.clean=true):iJ P w D2 ι1 B r:=
 ⟨R.sz,R.flat,fun hk=>⟨R.sz,(R.row hk).xR,(R.row hk).fits,(R.row hk).len,R.flat,fun i j cs a hi hj=>by
  obtain⟨v,q1,q2⟩:=(R.row hk).at_ i j cs a hi hj
  exact⟨v,q1,kZ (h cs (List.mem_of_getElem? hi) a (List.mem_of_getElem? hj)) q2⟩⟩,fun m hm=>by
  obtain⟨h1,es,c,h2,h3,h5,h4⟩:=R.map m hm
  refine⟨h1,es,c,h2,h3,h5,fun i cs hi=>?_⟩
  obtain⟨e,kv,vv,q1,q2,q3,q4,q5⟩:=h4 i cs hi
  have hc:=h cs (List.mem_of_getElem? hi)
  exact⟨e,kv,vv,q1,q2,q3,Hr hc q2 q4,kZ (hc vv (List.mem_of_getElem? q3)) q5⟩,fun c hc=>by
  obtain⟨h1,buf,s,q,h2,h3,h4⟩:=R.chan c hc
  refine⟨h1,buf,s,q,h2,h3,fun i cs hi=>?_⟩
  obtain⟨a,u,rfl,q2,q3⟩:=h4 i cs hi
  exact⟨a,u,rfl,q2,kZ (h [a] (List.mem_of_getElem? hi) a (by simp)) q3⟩⟩
def Handed (ids:List Id) (g:Rows):Prop:=∀id∈ids,∃r,g id=some r/\r.w=true/\∀cs∈r.rows,∀a∈cs,a.clean=true
theorem KN {f:Nat} {args args':List AV} {g:Rows} {n:Nat} {K:AV->az->Prop} (hv:eI (eL g) 6 args=some args')
  (h:Sound P f args' ⟨fun _=>none,n⟩ fun r σ'=>∃ids,r.Cg=true/\Handed ids σ'.get/\K r ⟨BU ids g σ'.get,σ'.next⟩):Sound P f args ⟨g,n⟩ K:=by
 intro hs D ι w vs S U A
 let E:Nat->Prop:=fun b=>D b∨∃id r B,g id=some r/\ι id=some B/\b=B.b
 have lt:∀id r B,g id=some r->ι id=some B->B.b<w.heap.size:=fun id r B h1 h2=>by
  obtain⟨B',eH,R,_⟩:=S.row id r h1
  rw[h2]at eH;injection eH with eH;subst eH
  exact R.lt
 have S0:ik P w.heap.size E ι (fun _=>none) w:=⟨Nat.le_refl _,fun b hb=>by
  rcases hb with hb|⟨id,r,B,h1,h2,rfl⟩
  ·exact S.dead b hb
  ·exact lt id r B h1 h2,fun id r h=>(by cases h),fun id lh r r' B B' h=>(by cases h)⟩
 obtain⟨l1,l2⟩:=iM hv
 have A':fK P w E ι args' vs:=⟨by rw[A.1,l1],fun j a hj=>by
  obtain⟨a0,mL,hz⟩:=l2 j a hj
  obtain⟨u,hu,hr⟩:=A.2 j a0 mL
  refine⟨u,hu,(uh (D2:=E) (ι2:=ι) (fun b h=>.inl h) (fun id row hg hw=>?_) 6 a0 u a hr hz).1⟩
  unfold eL at hg
  simp only[Option.map_eq_some_iff]at hg
  obtain⟨r,qc,rfl⟩:=hg
  obtain⟨B,hB,R,_,_⟩:=S.row id r qc
  exact⟨B,hB,R.flag true,.inr ⟨id,r,B,qc,hB,rfl⟩⟩⟩
 refine(h w.heap.size E ι w vs S0 U A').mono ?_
 rintro e w' ⟨r0,g',n',D2,ι1,u,rfl,⟨ids,oK,hid,hK⟩,T,S1,U1,hn,hR⟩
 have hb:∀b,b<w.heap.size->w'.heap[b]? =w.heap[b]? :=T.below.block
 have hz:=T.below.size
 have frame:∀{a v},dy P w D ι a v->dy P w' D ι1 a v:=fun h=>h.frame (fun b hd=>hb b (S.dead b hd)) (fun _ h=>h) T.names
 refine⟨r0,_,n',D,ι1,u,rfl,hK,⟨T.below.mono S.lo,fun b hd=>hb b (S.dead b hd),fun _ h=>h,T.names,fun _ h=>.inl h⟩,⟨Nat.le_trans S.lo hz,fun b hd=>Nat.lt_of_lt_of_le (S.dead b hd) hz,fun id r hr=>?_,fun XJ id2 r1 r2 B1 B2 h1 h2 hw Dr lg K0=>?_⟩,U1,hn,Hu oK hR⟩
 ·by_cases hi:id∈ids
  ·rw[uX hi]at hr
   obtain⟨r',qc,hw,hcr⟩:=hid id hi
   rw[hr]at qc;injection qc with qc;subst qc
   obtain⟨B,hB,R,k1,k2⟩:=S1.row id r hr
   have kH:=k1 hw
   exact⟨B,hB,R.clean hcr,fun _=>Nat.le_trans S.lo kH,fun _ hd=>Nat.lt_irrefl _ (Nat.lt_of_lt_of_le (S.dead _ hd) kH)⟩
  ·rw[oe hi]at hr
   obtain⟨B,hB,R,k1,k2⟩:=S.row id r hr
   have Yx:=lt id r B hr hB
   exact⟨B,T.names _ _ hB,R.frame (hb _ Yx) fun a v h=>frame h,k1,k2⟩
 ·have new:∀{id r B},id∈ids->BU ids g g' id=some r->ι1 id=some B->w.heap.size<=B.b/\g' id=some r/\r.w=true:=fun {id r B} hi hr hB=>by
   rw[uX hi]at hr
   obtain⟨r',qc,hw,_⟩:=hid id hi
   replace qc:g' id=some r':=qc
   rw[hr]at qc;injection qc with qc;subst qc
   obtain⟨B',eH,_,k1,_⟩:=S1.row id r hr
   rw[hB]at eH;injection eH with eH;subst eH
   exact⟨k1 hw,hr,hw⟩
  have BC:∀{id r B},id∉ids->BU ids g g' id=some r->ι1 id=some B->B.b<w.heap.size/\g id=some r/\ι id=some B:=fun {id r B} hi hr hB=>by
   rw[oe hi]at hr
   obtain⟨B',eH,_⟩:=S.row id r hr
   have:=T.names _ _ eH
   rw[hB]at this;injection this with this;subst this
   exact⟨lt id r _ hr eH,hr,eH⟩
  by_cases i1:XJ∈ids
  ·obtain⟨a1,a2,a3⟩:=new i1 h1 Dr
   by_cases i2:id2∈ids
   ·obtain⟨b1,b2,b3⟩:=new i2 h2 lg
    exact S1.inj XJ id2 r1 r2 B1 B2 a2 b2 hw Dr lg K0
   ·obtain⟨b1,_⟩:=BC i2 h2 lg
    omega
  ·obtain⟨a1,a2,a3⟩:=BC i1 h1 Dr
   by_cases i2:id2∈ids
   ·obtain⟨b1,_⟩:=new i2 h2 lg
    omega
   ·obtain⟨b1,b2,b3⟩:=BC i2 h2 lg
    exact S.inj XJ id2 r1 r2 B1 B2 a2 b2 hw a3 b3 K0
theorem DD (hm:P.follows .mixedOrders=true) {f:Nat} {args args':List AV} {σ:az} {K:AV->az->Prop} (hv:eI (eL σ.get) 6 args=some args')
  (h:Call P f args' ⟨fun _=>none,σ.next⟩ fun r σ'=>∃ids,r.Cg=true/\Handed ids σ'.get/\K r ⟨BU ids σ.get σ'.get,σ'.next⟩):Call P f args σ K:=
 gG (KN hv (iE hm h))
end
def FF (m:MK) (it nx ok en:Nat) (id:Id) (B:(Ex->Env->az->Prop)->Env->az->Prop) (b b1:Nat) (Q:Ex->Env->az->Prop):Nat->List (List AV)->Env->az->Prop
 |0,_,env,σ=>env it=.ptr id 0 0/\Q .normal (upd (upd env (some nx) (.gM [.bool false])) (some ok) (.bool false)) ⟨σ.get,σ.next+1⟩
 |n+1,left,env,σ=>env it=.ptr id 0 0/\∀i cs kv vv,left[i]? =some cs->part m.ka m.ks cs=some kv->cs[m.ks]? =some vv->
   B (bq b1 (dr (FF m it nx ok en id B b b1 Q n (left.eraseIdx i)) (bq b Q))) (upd (upd (upd env (some nx) (.gM [.bool true,kv,vv])) (some ok) (.bool true)) (some en) (.gM [kv,vv])) ⟨σ.get,σ.next+1⟩
def Kx (m:MK) (tm:O) (site it nx ok en:Nat) (B:(Ex->Env->az->Prop)->Env->az->Prop) (b b1:Nat) (Q:Ex->Env->az->Prop) (env:Env) (σ:az):Prop:=
 ∃id r,du env tm=.map id m/\σ.get id=some r/\r.w=true/\FF m it nx ok en ⟨site,σ.next⟩ B b b1 Q r.rows.length r.rows (upd env (some it) (.ptr ⟨site,σ.next⟩ 0 0)) ⟨bL σ.get id {r with w:=false},σ.next+1⟩
variable {P:Program} {w w':World} {D D':Nat->Prop} {ι ι':Names} {hs:Nat} {g:Rows}
theorem lH.GF (hc:∀b x,D b->w'.cell? ⟨b,x,none⟩=w.cell? ⟨b,x,none⟩) {a:AV} {v:Value} (h:lH P w D a v):lH P w' D a v:=by
 induction h with
 |int k n=>exact .int k n
 |bool b=>exact .bool b
 |str s=>exact .str s
 |br=>exact .br
 |iX=>exact .iX
 |jR=>exact .jR
 |j4=>exact .j4
 |Dy a c h=>exact .Dy a c h
 |sl rows b o n c sz vs h1 h2 h3 h4 h5 h5' h6 _ ih=>exact .sl rows b o n c sz vs h1 h2 h3 h4 h5 h5' (fun i j hi hj=>(hc b _ h4).trans (h6 i j hi hj)) ih
 |dF cs b o vs h1 Sx h2 _ ih=>exact .dF cs b o vs h1 Sx (fun j hj=>(hc b _ h1).trans (h2 j hj)) ih
 |agg cs vs f h1 h2 h3 _ ih=>exact .agg cs vs f h1 h2 h3 ih
 |fn f dJ vs g h1 h2 h3 _ ih=>exact .fn f dJ vs g h1 h2 h3 ih
theorem dy.GF (hc:∀b x,D b->w'.cell? ⟨b,x,none⟩=w.cell? ⟨b,x,none⟩) {a:AV} {v:Value} (h:dy P w D ι a v):dy P w' D ι a v:=by
 induction h with
 |fF a v h=>exact .fF a v (h.GF hc)
 |map id m B h1 h2=>exact .map id m B h1 h2
 |tZ id c B h1 h2=>exact .tZ id c B h1 h2
 |own id off len o cap B h1 h2 h3 h4 h5 h6=>exact .own id off len o cap B h1 h2 h3 h4 h5 h6
 |ptr id i off B h1 h2=>exact .ptr id i off B h1 h2
 |agg cs vs f h1 h2 h3 _ ih=>exact .agg cs vs f h1 h2 h3 ih
 |gM cs vs f h1 h2 _ ih=>exact .gM cs vs f h1 h2 ih
 |fn f dJ vs g h1 h2 h3 _ ih=>exact .fn f dJ vs g h1 h2 h3 ih
 |xi f dJ vs g h1 h2 h3 _ ih=>exact .xi f dJ vs g h1 h2 h3 ih
def oq (w:World) (rr:Nat):Prop:=∃m s seen c,w.heap[rr]? =some (.mapIter m s seen c)
theorem oq.cell {rr:Nat} (h:oq w rr) (x:Nat):w.cell? ⟨rr,x,none⟩=none:=by
 obtain⟨m,s,seen,c,h⟩:=h
 simp[World.cell?,h]
theorem iJ.MT {B:tM} {r:Row} (R:iJ P w D ι B r):¬oq w B.b:=by
 rintro⟨m,s,seen,c,h⟩
 cases hk:B.k with
 |none=>obtain⟨c',T,h3,_⟩:=(R.row hk).xR;rw[h]at h3;cases h3
 |some k=>
  cases k with
  |map m=>obtain⟨_,es,c',h3,_⟩:=R.map m hk;rw[h]at h3;cases h3
  |chan c=>obtain⟨_,buf,s',q,h3,_⟩:=R.chan c hk;rw[h]at h3;cases h3
theorem Bl {rr:Nat} (h:oq w rr) (h':oq w' rr) (ho:∀b,b≠rr->w'.heap[b]? =w.heap[b]?):(∀{a v},dy P w D ι a v->dy P w' D ι a v):=fun hr=>hr.GF fun b x _=>by
 by_cases hb:b=rr
 ·subst hb;rw[h.cell,h'.cell]
 ·exact World.cell?_of_block (ho b hb)
theorem ik.iter {rr:Nat} (S:ik P hs D ι g w) (h:oq w rr) (h':oq w' rr) (ho:∀b,b≠rr->w'.heap[b]? =w.heap[b]?) (hz:w'.heap.size=w.heap.size):ik P hs D ι g w':=
 ⟨by rw[hz];exact S.lo,fun b hb=>by rw[hz];exact S.dead b hb,fun id r hg=>by
  obtain⟨B,hB,R,k1,k2⟩:=S.row id r hg
  exact⟨B,hB,R.frame (ho _ fun e=>R.MT (e▸h)) fun a v hr=>Bl h h' ho hr,k1,k2⟩,S.inj⟩
theorem oi {ops:Array Oper} {Q:Exit->Act->World->Prop} {a:Act} {o:Oper} {l:List Oper} {v:Value} (hg:o.guard=none) (gm:(execOp a.eval o).run P w=.ok (.value v) w') (h:wpList P ops Q l (a.put o.dst v) w'):wpList P ops Q (o::l) a w:=by
 unfold wpList
 rw[if_pos (by simp[Region.wanted,hg])]
 exact .inl (by unfold Oper.wp;rw[gm];exact h)
theorem Nh {x y:AV} {u v:Value} (h1:dy P w D ι x u) (h2:dy P w D ι y v):dy P w D ι (.gM [x,y]) (.tuple #[u,v]):=
 .gM _ _ (fun j=>if j=0 then u else v) rfl (fun j hj=>by match j,hj with|0,_=>rfl|1,_=>rfl|j+2,hj=>simp at hj;omega) (fun j a ha=>by match j,ha with|0,ha=>simp at ha;subst ha;exact h1|1,ha=>simp at ha;subst ha;exact h2|j+2,ha=>simp at ha)
theorem Ni {x y z:AV} {u v t:Value} (h1:dy P w D ι x u) (h2:dy P w D ι y v) (h3:dy P w D ι z t):dy P w D ι (.gM [x,y,z]) (.tuple #[u,v,t]):=
 .gM _ _ (fun j=>if j=0 then u else if j=1 then v else t) rfl (fun j hj=>by match j,hj with|0,_=>rfl|1,_=>rfl|2,_=>rfl|j+3,hj=>simp at hj;omega) (fun j a ha=>by match j,ha with|0,ha=>simp at ha;subst ha;exact h1|1,ha=>simp at ha;subst ha;exact h2|2,ha=>simp at ha;subst ha;exact h3|j+3,ha=>simp at ha)
theorem Ng {x:AV} {u:Value} (h1:dy P w D ι x u):dy P w D ι (.gM [x]) (.tuple #[u]):=
 .gM _ _ (fun _=>u) rfl (fun j hj=>by match j,hj with|0,_=>rfl|j+1,hj=>simp at hj) (fun j a ha=>by match j,ha with|0,ha=>simp at ha;subst ha;exact h1|j+1,ha=>simp at ha)
structure QW (P:Program) (w:World) (D:Nat->Prop) (ι:Names) (m:MK) (L:List MapEntry) (left:List (List AV)):Prop where
 len:left.length=L.length
 at_:∀(i:Nat) (cs:List AV),left[i]? =some cs->∃(e:MapEntry) (kv vv:AV),L[i]? =some e/\part m.ka m.ks cs=some kv/\cs[m.ks]? =some vv/\dy P w D ι kv e.key/\dy P w D ι vv e.val
theorem QW.rep {m:MK} {L:List MapEntry} {left:List (List AV)} (h:QW P w D ι m L left) (hr:∀{a v},dy P w D ι a v->dy P w' D' ι' a v):QW P w' D' ι' m L left:=⟨h.len,fun i cs hi=>by
 obtain⟨e,kv,vv,h1,h2,h3,h4,h5⟩:=h.at_ i cs hi
 exact⟨e,kv,vv,h1,h2,h3,hr h4,hr h5⟩⟩
theorem oI {α β:Type} {l:List α} {k:List β} {i j:Nat} {x:α} (hl:l.length=k.length) (h:(l.eraseIdx i)[j]? =some x):∃q:Nat,l[q]? =some x/\(k.eraseIdx i)[j]? =k[q]? :=by
 rw[List.getElem?_eraseIdx]at h
 split at h
 ·rename_i hj;exact⟨j,h,by rw[List.getElem?_eraseIdx,if_pos hj]⟩
 ·rename_i hj;exact⟨j+1,h,by rw[List.getElem?_eraseIdx,if_neg hj]⟩
theorem QW.erase {m:MK} {L:List MapEntry} {left:List (List AV)} (h:QW P w D ι m L left) {i:Nat} (hi:i<L.length):QW P w D ι m (L.eraseIdx i) (left.eraseIdx i):=⟨by
 rw[List.length_eraseIdx,List.length_eraseIdx,h.len],fun j cs hj=>by
 obtain⟨q,hq,he⟩:=oI h.len hj
 obtain⟨e,kv,vv,h1,h2⟩:=h.at_ q cs hq
 exact⟨e,kv,vv,he.trans h1,h2⟩⟩
theorem pD:∀{l:List MapEntry} {i:Nat} {e:MapEntry},(l.map (·.born)).Nodup->l[i]? =some e->l.filter (fun x=>x.born !=e.born)=l.eraseIdx i
 |x::l,0,e,hn,h=>by
  simp at h;subst h
  obtain⟨h1,h2⟩:=List.nodup_cons.1 (show(x.born::l.map (·.born)).Nodup from hn)
  rw[List.filter_cons,if_neg (by simp),List.eraseIdx_cons_zero]
  refine List.filter_eq_self.2 fun y hy=>?_
  have:y.born≠x.born:=fun hc=>h1 (by rw[<-hc];exact List.mem_map_of_mem hy)
  simpa using this
 |x::l,i+1,e,hn,h=>by
  obtain⟨h1,h2⟩:=List.nodup_cons.1 (show(x.born::l.map (·.born)).Nodup from hn)
  simp only[List.getElem?_cons_succ]at h
  have hx:x.born≠e.born:=fun hc=>h1 (by rw[hc];exact List.mem_map_of_mem (List.mem_of_getElem? h))
  rw[List.filter_cons,if_pos (by simpa using hx),List.eraseIdx_cons_succ,pD h2 h]
theorem zd {es:Array MapEntry} {clock:Nat} {seen:Array Nat} {i:Nat} {e:MapEntry} (hs:H3 es clock) (h:(leftOf es seen).toList[i]? =some e):(leftOf es (seen.push e.born)).toList=(leftOf es seen).toList.eraseIdx i:=by
 have hn:((leftOf es seen).toList.map (·.born)).Nodup:=by
  unfold leftOf
  rw[Array.toList_filter]
  exact((List.filter_sublist (p:=fun e=> !seen.contains e.born) (l:=es.toList)).map MapEntry.born).nodup hs.2
 rw[<-pD hn h]
 unfold leftOf
 rw[Array.toList_filter,Array.toList_filter,List.filter_filter]
 refine List.filter_congr fun x _=>?_
 rw[contains_push]
 cases seen.contains x.born<;>cases hb:(x.born==e.born)<;>simp_all
theorem eval_put {a:Act} {d:Nat} {v:Value} (h:d<a.tmps.size):(a.put (some d) v).eval (.tmp d)=v:=by
 simp[Act.put,Act.eval,h]
def Np (ix ie b b1 ok:Nat) (Hn Kn Hm:Oper) (uM:List Oper) (pB:Code):Code:=
 .seq (.region ix #[Hn,Kn] false) (.seq (.cond (.tmp ok) .skip (.exit b)) (.block b1 (.seq (.region ie (Hm::uM).toArray false) pB)))
structure Ll (P:Program) (md:List (Nat×Nat)) (nt fid s0 it nx ok en:Nat) (Hn Kn Hm:Oper) (uM:List Oper) (pB:Code) (vE:List aZ) (vd:VC):Prop where
 h1:Hn.op=.next (.tmp it) false
 h2:Hn.dst=some nx
 h3:Hn.guard=none
 h4:Kn.op=.extract (.tmp nx) 0
 h5:Kn.dst=some ok
 h6:Kn.guard=none
 h7:Hm.op=.entry (.tmp it)
 h8:Hm.dst=some en
 h9:Hm.guard=none
 VT:nx<nt
 Zl:ok<nt
 lt3:en<nt
 ne1:it≠nx
 ne2:it≠ok
 hE:allM (mc P (Hm::uM).toArray nt s0 false false #[] []) uM 1=some vE
 hR:jy P md nt fid pB=some vd
theorem Hw (hm:P.follows .mixedOrders=true) {md:List (Nat×Nat)} {nt fid s0 ix ie b b1 it nx ok en:Nat} {m:MK} {id:Id} {Hn Kn Hm:Oper} {uM:List Oper} {pB:Code} {vE:List aZ} {vd:VC}
  (O:Ll P md nt fid s0 it nx ok en Hn Kn Hm uM pB vE vd) {rr bm:Nat} {es:Array MapEntry} {clock:Nat} (EO:H3 es clock) {ds:List Deferred} {n0:Nat} {D0:Nat->Prop} {ι0:Names} {w0:World} {Q:Ex->Env->az->Prop} {Q':Exit->Act->World->Prop}
  (hQ:wM P hs nt ds Q n0 D0 ι0 w0 Q') (hD0:¬D0 rr) (hrr:hs<=rr) (ig:bm≠rr):
  ∀(n:Nat) (left:List (List AV)) (env:Env) (σ:az) (a:Act) (w:World) (D:Nat->Prop) (ι:Names) (seen:Array Nat),
   FF m it nx ok en id (eC (Sound P) (.seq (.eZ false vE) vd)) b b1 Q n left env σ->St P hs nt D ι env σ a w->a.defers=ds->n0<=σ.next->Step hs D0 ι0 w0 D ι w->
   (∃sz C,ι id=some ⟨rr,sz,C,none⟩)->D rr->D bm->w.heap[rr]? =some (.mapIter (some bm) clock seen clock)->w.heap[bm]? =some (.map es clock)->left.length=n->QW P w D ι m (leftOf es seen).toList left->
   rI P (Np ix ie b b1 ok Hn Kn Hm uM pB) (Exit.inBlock b Q') (n+1) a w:=by
 intro n
 induction n with
 |zero=>
  intro left env σ a w D ι seen hv eA hd EE T hid hDr Z7 hr hb hlen hL
  obtain⟨K5,hq⟩:=hv
  have ha:a.tmps.getD it undef=.pointer (some ⟨rr,0,none⟩):=by
   have:=eA.env it
   rw[K5]at this
   obtain⟨B,e,hB,_⟩:=jk this
   obtain⟨sz,C,hid⟩:=hid
   rw[hid]at hB;injection hB with hB;subst hB
   simpa using e
  have YJ:a.eval (.tmp it)=.pointer (some ⟨rr,0,none⟩):=ha
  rcases run_next_at (P:=P) w Hn.type rr bm clock clock seen es clock hr hb EO.1 (Nat.le_refl _)with⟨_,gm⟩|⟨e,he,_⟩
  rotate_left
  ·have h0:(leftOf es seen).toList=[]:=List.eq_nil_of_length_eq_zero (by rw[<-hL.len,hlen])
   rw[h0]at he;simp at he
  have Du:nx<a.tmps.size:=by rw[eA.size];exact O.VT
  have E2:=jt (jt eA.env (Ng (.fF _ _ (.bool false))) (dst:=some nx) (fun d h=>by cases h;exact O.VT) eA.size) (.fF _ _ (.bool false)) (dst:=some ok) (fun d h=>by cases h;exact O.Zl) (by rw[fU];exact eA.size)
  show AG P (.seq _ _) _ a w
  refine ns (kU (wp_region_list ?_))
  refine oi (v:=.tuple #[.bool false]) (w':=w) O.h3 (by simp[execOp,O.h1,YJ,gm,Result.andThen]) ?_
  refine oi (v:=.bool false) (w':=w) O.h6 (by rw[O.h2];simp[execOp,O.h4,eval_put Du,Instr.extract]) ?_
  rw[O.h2,O.h5]
  refine ns (zo (t:=false) (eval_put (by rw[fU,eA.size];exact O.Zl)) (kU (wp_exit ?_)))
  show Exit.inBlock b Q' (.exit b) _ _
  simp only[Exit.inBlock,if_true]
  exact hQ .normal _ ⟨σ.get,σ.next+1⟩ _ w D ι hq T ⟨eA.wE,eA.used.next,E2,by rw[fU,fU];exact eA.size⟩ (by rw[put_defers,put_defers];exact hd) (Nat.le_succ_of_le EE)
 |succ n ih=>
  intro left env σ a w D ι seen hv eA hd EE T hid hDr Z7 hr hb hlen hL
  obtain⟨K5,hq⟩:=hv
  have ha:a.tmps.getD it undef=.pointer (some ⟨rr,0,none⟩):=by
   have:=eA.env it
   rw[K5]at this
   obtain⟨B,e,hB,_⟩:=jk this
   obtain⟨sz,C,hid⟩:=hid
   rw[hid]at hB;injection hB with hB;subst hB
   simpa using e
  have YJ:a.eval (.tmp it)=.pointer (some ⟨rr,0,none⟩):=ha
  rcases run_next_at (P:=P) w Hn.type rr bm clock clock seen es clock hr hb EO.1 (Nat.le_refl _)with⟨h0,_⟩|⟨e,he,w1,oP,gm⟩
  ·have:=hL.len
   rw[hlen,Array.length_toList]at this;omega
  obtain⟨i,hi,G1⟩:=List.getElem_of_mem he
  have Xe:(leftOf es seen).toList[i]? =some e:=by rw[List.getElem?_eq_getElem hi,G1]
  have lU:i<left.length:=by rw[hL.len];exact hi
  obtain⟨e',kv,vv,q1,q2,q3,q4,q5⟩:=hL.at_ i left[i] (List.getElem?_eq_getElem lU)
  rw[Xe]at q1;injection q1 with q1;subst q1
  replace hq:=hq i left[i] kv vv (List.getElem?_eq_getElem lU) q2 q3
  have Tg:w1.heap[rr]? =some (.mapIter (some bm) clock seen clock):=by rcases oP with rfl|rfl<;>exact hr
  have fx:=MapKept.heap_set (o':=.mapIter (some bm) clock (seen.push e.born) clock) Tg
  obtain⟨w2,tk⟩:∃w2,ChangeMaps.setBlock w1 rr (.mapIter (some bm) clock (seen.push e.born) clock)=w2:=⟨_,rfl⟩
  have ho:∀k,k≠rr->w2.heap[k]? =w.heap[k]? :=fun k hk=>by
   rw[<-tk]
   refine(fx.2 k hk).trans ?_
   rcases oP with rfl|rfl<;>rfl
  have hz:w2.heap.size=w.heap.size:=by
   rw[<-tk]
   rcases oP with rfl|rfl<;>simp[ChangeMaps.setBlock]
  have F6:w2.heap[rr]? =some (.mapIter (some bm) clock (seen.push e.born) clock):=by rw[<-tk];exact fx.1
  have xI:w2.os=w.os/\w2.tape=w.tape/\w2.output=w.output:=by
   rw[<-tk]
   rcases oP with rfl|rfl<;>exact⟨rfl,rfl,rfl⟩
  rw[tk]at gm
  clear tk fx
  have I1:oq w rr:=⟨_,_,_,_,hr⟩
  have I2:oq w2 rr:=⟨_,_,_,_,F6⟩
  have rt:∀{a v},dy P w D ι a v->dy P w2 D ι a v:=Bl I1 I2 ho
  have S2:=eA.wE.iter I1 I2 ho hz
  have T2:Step hs D0 ι0 w0 D ι w2:=⟨⟨xI.1.trans T.below.os,xI.2.1.trans T.below.tape,xI.2.2.trans T.below.output,by rw[hz];exact T.below.size,fun k hk=>(ho k ah).trans (T.below.block k hk)⟩,fun k hk=>(ho k (fun hc=>hD0 (hc▸hk))).trans (T.uF k hk),T.dead,T.names,T.new⟩
  have Cs:w2.heap[bm]? =some (.map es clock):=(ho bm ig).trans hb
  have Du:nx<a.tmps.size:=by rw[eA.size];exact O.VT
  have E1:dn P w2 D ι env a:=fun t=>rt (eA.env t)
  have E2:=jt (jt E1 (Ni (.fF _ _ (.bool true)) (rt q4) (rt q5)) (dst:=some nx) (fun d h=>by cases h;exact O.VT) eA.size) (.fF _ _ (.bool true)) (dst:=some ok) (fun d h=>by cases h;exact O.Zl) (by rw[fU];exact eA.size)
  have E3:=jt E2 (Nh (rt q4) (rt q5)) (dst:=some en) (fun d h=>by cases h;exact O.lt3) (by rw[fU,fU];exact eA.size)
  have Rg:=run_entry_at (P:=P) w2 rr bm clock seen es clock e F6 Cs (mem_left he).1 EO.2
  show AG P (.seq _ _) _ a w
  refine ns (kU (wp_region_list ?_))
  refine oi (v:=.tuple #[.bool true,e.key,e.val]) (w':=w2) O.h3 (by simp[execOp,O.h1,YJ,gm,Result.andThen]) ?_
  refine oi (v:=.bool true) (w':=w2) O.h6 (by rw[O.h2];simp[execOp,O.h4,eval_put Du,Instr.extract]) ?_
  rw[O.h2,O.h5]
  refine ns (zo (t:=true) (eval_put (by rw[fU,eA.size];exact O.Zl)) (kU (wp_skip ?_)))
  refine wv (ns (kU (wp_region_list ?_)))
  show wpList P _ _ (Hm::uM) _ _
  have ha3:(((a.put (some nx) (.tuple #[.bool true,e.key,e.val])).put (some ok) (.bool true)).eval (.tmp it))=.pointer (some ⟨rr,0,none⟩):=by
   have n1:=O.ne1
   have n2:=O.ne2
   rw[<-YJ]
   simp[Act.put,Act.eval,Array.getD_eq_getD_getElem?,Array.getElem?_setIfInBounds,Ne.symm n1,Ne.symm n2]
  refine oi (v:=.tuple #[e.key,e.val]) (w':=w2) O.h9 (by simp[execOp,O.h7,ha3,Rg,Result.andThen]) ?_
  rw[O.h8]
  refine BF uM vE 1 _ ⟨σ.get,σ.next+1⟩ _ w2 D ι (fun _=>False) O.hE hq S2 eA.used.next (fun _ h=>h.elim) E3 (by rw[fU,fU,fU];exact eA.size) fun ZV σ3 a3 w3 D3 ι3 hk T3 St3 WW hle3=>?_
  refine sY hm pB vd O.hR _ ZV σ3 a3 w3 D3 ι3 _ hk St3 fun ex LL σ4 a4 w4 D4 ι4 Ml T4 ZG Om hle4=>?_
  have hdd:a4.defers=ds:=by rw[Om,WW,put_defers,put_defers,put_defers];exact hd
  have hnn:n0<=σ4.next:=Nat.le_trans EE (Nat.le_trans (Nat.le_succ _) (Nat.le_trans hle3 hle4))
  have RV:=T3.trans T4
  have TT:=T2.trans RV
  have xk:FF m it nx ok en id (eC (Sound P) (.seq (.eZ false vE) vd)) b b1 Q n (left.eraseIdx i) LL σ4->rI P (Np ix ie b b1 ok Hn Kn Hm uM pB) (Exit.inBlock b Q') (n+1) a4 w4:=fun hq5=>by
   refine ih (left.eraseIdx i) LL σ4 a4 w4 D4 ι4 (seen.push e.born) hq5 ZG hdd hnn TT ?_ (RV.dead _ hDr) (RV.dead _ Z7) ((RV.uF _ hDr).trans F6) ((RV.uF _ Z7).trans Cs) ?_ ?_
   ·obtain⟨sz,C,hid⟩:=hid;exact⟨sz,C,RV.names _ _ hid⟩
   ·rw[List.length_eraseIdx,if_pos lU,hlen];rfl
   ·rw[zd EO Xe]
    exact(hL.erase hi).rep fun hr=>RV.rep (rt hr)
  have out:∀ex,ex≠.normal->Q ex LL σ4->Q' (Yt ex) a4 w4:=fun ex _ h=>hQ ex LL σ4 a4 w4 D4 ι4 h TT ZG hdd hnn
  cases ex with
  |normal=>exact xk Ml
  |ret=>exact out .ret (by simp) Ml
  |exit lh=>
   simp only[bq]at Ml
   simp only[Yt,Exit.inBlock]
   by_cases h1:lh=b1
   ·rw[if_pos h1]at Ml ⊢
    exact xk Ml
   ·rw[if_neg h1]at Ml ⊢
    simp only[dr,bq]at Ml
    show Exit.inBlock b Q' (.exit lh) a4 w4
    simp only[Exit.inBlock]
    by_cases h2:lh=b
    ·rw[if_pos h2]at Ml ⊢
     exact hQ .normal LL σ4 a4 w4 D4 ι4 Ml TT ZG hdd hnn
    ·rw[if_neg h2]at Ml ⊢
     exact out (.exit lh) (by simp) Ml
def CS (P:Program) (nt:Nat) (c:Code) (W:(Ex->Env->az->Prop)->Env->az->Prop):Prop:=
 ∀(hs:Nat) (Q:Ex->Env->az->Prop) (env:Env) (σ:az) (a:Act) (w:World) (D:Nat->Prop) (ι:Names) (Q':Exit->Act->World->Prop),W Q env σ->St P hs nt D ι env σ a w->wM P hs nt a.defers Q σ.next D ι w Q'->AG P c Q' a w
theorem CS.code (hm:P.follows .mixedOrders=true) {md:List (Nat×Nat)} {nt fid:Nat} {c:Code} {vc:VC} (h:jy P md nt fid c=some vc):CS P nt c (eC (Sound P) vc):=
 fun _ Q env σ a w D ι Q' hv eA hQ=>sY hm c vc h Q env σ a w D ι Q' hv eA hQ
theorem CS.seq {nt:Nat} {x y:Code} {V W:(Ex->Env->az->Prop)->Env->az->Prop} (h:CS P nt x V) (k:CS P nt y W):CS P nt (.seq x y) (fun Q=>V (dr (W Q) Q)):=fun hs Q env σ a w D ι Q' hv eA hQ=>by
 refine ns (h hs _ env σ a w D ι _ hv eA fun ex jE σ1 a1 w1 D1 ι1 hq T ku hd hle=>?_)
 cases ex with
 |normal=>exact k hs Q jE σ1 a1 w1 D1 ι1 Q' hq ku (by rw[hd];exact hQ.later T hle)
 |exit id=>exact hQ (.exit id) jE σ1 a1 w1 D1 ι1 hq T ku hd hle
 |ret=>exact hQ .ret jE σ1 a1 w1 D1 ι1 hq T ku hd hle
theorem CS.rng (hm:P.follows .mixedOrders=true) {md:List (Nat×Nat)} {nt fid s0 sA site ia ix ie b b1 it nx ok en:Nat} {m:MK} {Hn Kn Hm Hq:Oper} {M7 uM:List Oper} {pB:Code} {vA vE:List aZ} {vd:VC} {t k e:TypeId} {tm:Operand} {tm':O}
  (O:Ll P md nt fid s0 it nx ok en Hn Kn Hm uM pB vE vd) (h1:Hq.op=.range t tm) (h2:Hq.dst=some it) (h3:Hq.guard=none) (eW:it<nt) (ht:P.underlying t=some (.map k e)) (Xx:cO P tm=some tm') (hA:allM (mc P (M7++[Hq]).toArray nt sA false false #[] []) M7 0=some vA):
  CS P nt (.seq (.region ia (M7++[Hq]).toArray false) (.block b (.loop (Np ix ie b b1 ok Hn Kn Hm uM pB))))
   (fun Q=>wpOps (Sound P) false vA (Kx m tm' site it nx ok en (eC (Sound P) (.seq (.eZ false vE) vd)) b b1 Q)):=fun hs Q env σ a w D ι Q' hv eA hQ=>by
 refine ns (kU (wp_region_list ?_))
 show wpList P _ _ (M7++[Hq]) a w
 refine zp [Hq] M7 vA 0 env σ a w D ι (fun _=>False) hA hv eA.wE eA.used (fun _ h=>h.elim) eA.env eA.size fun jE σ1 a1 w1 D1 ι1 hk T vI w7 JO=>?_
 obtain⟨id,r,hid,hg,hw,hr⟩:=hk
 have iF:=eo vI.env Xx
 rw[hid]at iF
 obtain⟨B,hv,hB,hk⟩:=C0 iF
 obtain⟨B',eH,R,kH,pU⟩:=vI.wE.row id r hg
 rw[hB]at eH;injection eH with eH;subst eH
 obtain⟨hrsz,es,clock,hb,eQ,⟨hlen,EO⟩,hM⟩:=R.map m hk
 have Yx:=R.lt
 have gm:=run_range_map (P:=P) w1 t k e B.b es clock ht hb
 refine oi (v:=.pointer (some ⟨w1.heap.size,0,none⟩)) (w':=w1.alloc (.mapIter (some B.b) clock #[] clock)) h3 (by simp[execOp,h1,hv,gm,Result.andThen]) ?_
 rw[h2]
 obtain⟨w2,tk⟩:∃w2,w1.alloc (.mapIter (some B.b) clock #[] clock)=w2:=⟨_,rfl⟩
 have hblk:∀b,b<w1.heap.size->w2.heap[b]? =w1.heap[b]? :=fun b hb=>by rw[<-tk];exact Below.heap_alloc _ _ _ hb
 have lO:w2.heap[w1.heap.size]? =some (.mapIter (some B.b) clock #[] clock):=by rw[<-tk];exact heap_alloc_new _ _
 have hz:w2.heap.size=w1.heap.size+1:=by rw[<-tk];simp
 have xI:w2.os=w1.os/\w2.tape=w1.tape/\w2.output=w1.output:=by rw[<-tk];exact⟨rfl,rfl,rfl⟩
 rw[tk]
 clear tk gm
 let D2:Nat->Prop:=fun x=>D1 x∨x=B.b∨x=w1.heap.size
 let ι2:Names:=kD ι1 ⟨site,σ1.next⟩ ⟨w1.heap.size,1,0,none⟩
 have jP:ι1 ⟨site,σ1.next⟩=none:=fresh vI.used (fun h=>h)
 have Y7:∀{a v},dy P w1 D1 ι1 a v->dy P w2 D2 ι2 a v:=fun h=>h.frame (fun b hd=>hblk b (vI.wE.dead b hd)) (fun _ h=>.inl h) (fG jP)
 have BC:∀{j q C},σ1.get j=some q->ι2 j=some C->ι1 j=some C:=fun {j q C} hj hC=>by
  obtain⟨C',ui,_⟩:=vI.wE.row j q hj
  have:=fG (B:=⟨w1.heap.size,1,0,none⟩) jP j C' ui
  have e:=this.symm.trans hC
  injection e with e;rw[<-e];exact ui
 have lt:∀{j q C},σ1.get j=some q->ι1 j=some C->C.b<w1.heap.size:=fun {j q C} hj hC=>by
  obtain⟨C',ui,R',_⟩:=vI.wE.row j q hj
  rw[hC]at ui;injection ui with ui;subst ui
  exact R'.lt
 have Sv:∀{j q},bL σ1.get id {r with w:=false} j=some q->∃q0,σ1.get j=some q0/\(q.w=true->q=q0/\j≠id)/\(j=id->q={r with w:=false}/\q0=r)/\(j≠id->q=q0):=fun {j q} h=>by
  unfold bL at h
  split at h
  ·rename_i e
   injection h with h;subst h
   exact⟨r,e▸hg,fun h=>(by cases h),fun _=>⟨rfl,rfl⟩,fun hc=>absurd e hc⟩
  ·rename_i e
   exact⟨q,h,fun _=>⟨rfl,e⟩,fun hc=>absurd hc e,fun _=>rfl⟩
 have S2:ik P hs D2 ι2 (bL σ1.get id {r with w:=false}) w2:=by
  refine⟨by rw[hz];exact Nat.le_succ_of_le vI.wE.lo,fun b hb=>?_,fun j q h=>?_,fun j j' q q' C C' h h' Mm hC ui he=>?_⟩
  ·rw[hz]
   rcases hb with hb|rfl|rfl
   ·exact Nat.lt_succ_of_lt (vI.wE.dead b hb)
   ·exact Nat.lt_succ_of_lt Yx
   ·exact Nat.lt_succ_self _
  ·obtain⟨q0,Rp,Mm,Cv,ig⟩:=Sv h
   obtain⟨C,hC,RC,k1,k2⟩:=vI.wE.row j q0 Rp
   have hCl:=lt Rp hC
   refine⟨C,fG jP j C hC,?_,fun VN=>k1 ((Mm VN).1▸VN),fun VN hD=>?_⟩
   ·have RF:iJ P w2 D2 ι2 C q0:=RC.frame (hblk _ hCl) fun a v h=>Y7 h
    by_cases hj:j=id
    ·obtain⟨e1,e2⟩:=Cv hj
     rw[e1,<-e2];exact RF.flag false
    ·rw[ig hj];exact RF
   ·obtain⟨e1,e2⟩:=Mm VN
    rcases hD with hD|hD|hD
    ·exact k2 (e1▸VN) hD
    ·exact e2 (vI.wE.inj j id q0 r C B Rp hg (e1▸VN) hC hB hD)
    ·omega
  ·obtain⟨q0,Rp,hqw0,_⟩:=Sv h
   obtain⟨q0',Xt,_⟩:=Sv h'
   exact vI.wE.inj j j' q0 q0' C C' Rp Xt ((hqw0 Mm).1▸Mm) (BC Rp hC) (BC Xt ui) he
 have T2:Step hs D1 ι1 w1 D2 ι2 w2:=⟨⟨xI.1,xI.2.1,xI.2.2,ah,fun k hk=>hblk k (Nat.lt_of_lt_of_le hk vI.wE.lo)⟩,fun b hb=>hblk b (vI.wE.dead b hb),fun _ h=>.inl h,fG jP,fun b hb=>by
  rcases hb with hb|rfl|rfl
  ·exact .inl hb
  ·exact .inr (kH hw)
  ·exact .inr vI.wE.lo⟩
 have E2:dn P w2 D2 ι2 (upd jE (some it) (.ptr ⟨site,σ1.next⟩ 0 0)) (a1.put (some it) (.pointer (some ⟨w1.heap.size,0,none⟩))):=
  jt (fun t=>Y7 (vI.env t)) (by have:=dy.ptr (P:=P) (w:=w2) (D:=D2) (ι:=ι2) ⟨site,σ1.next⟩ 0 0 ⟨w1.heap.size,1,0,none⟩ (eU _ _ _) rfl;simpa using this) (fun d h=>by cases h;exact eW) vI.size
 have L2:QW P w2 D2 ι2 m (leftOf es #[]).toList r.rows:=by
  have he:(leftOf es #[]).toList=es.toList:=by simp[leftOf]
  rw[he]
  refine⟨by simpa using eQ.symm,fun i cs hi=>?_⟩
  obtain⟨Wm,kv,vv,q1,q2,q3,q4,q5⟩:=hM i cs hi
  exact⟨Wm,kv,vv,by simpa using q1,q2,q3,Y7 q4,Y7 q5⟩
 show AG P (.block b (.loop (Np ix ie b b1 ok Hn Kn Hm uM pB))) Q' _ w2
 exact wv (Fu (r.rows.length+1) (Hw hm O EO (ds:=a.defers) (n0:=σ.next) (D0:=D) (ι0:=ι) (w0:=w) hQ
  (fun hc=>by have:=eA.wE.dead _ hc;have:=T.below.size;omega) vI.wE.lo ah r.rows.length r.rows _ ⟨bL σ1.get id {r with w:=false},σ1.next+1⟩ _ w2 D2 ι2 #[] hr
  ⟨S2,vI.used.upd.next,E2,by rw[fU];exact vI.size⟩ (by rw[put_defers];exact w7) (Nat.le_succ_of_le JO) (T.trans T2) ⟨1,0,eU _ _ _⟩ (.inr (.inr rfl)) (.inr (.inl rfl)) lO ((hblk _ Yx).trans hb) rfl L2))
theorem CS.fn {f:Nat} {fn:Func} {c:Code} {args:List AV} {σ:az} {K:AV->az->Prop} {vr:List pN} {W:(Ex->Env->az->Prop)->Env->az->Prop} (VA:P.funcs[f]? =some fn) (hc:fn.body=some c) (hr:fn.results.toList.mapM (Gu P)=some vr) (ha:fn.params.size+fn.nfree=args.length) (hle:fn.params.size+fn.nfree<=fn.ntmps)
  (h:CS P fn.ntmps c W) (hv:W (mz vr K) (cz args) σ):Call P f args σ K:=
 gG (yw VA hc hr ha hle fun hs w D ι a Q' eA hQ=>h hs (mz vr K) (cz args) σ a w D ι Q' hv eA hQ)
theorem vh (hm:P.follows .mixedOrders=true) {c:VC} {Q Q':Ex->Env->az->Prop} {env:Env} {σ:az} (hQ:∀x e s,Q x e s->Q' x e s) (h:eC (Call P) c Q env σ):eC (Sound P) c Q' env σ:=
 ko (fun _ _ _ _ h=>iE hm h) ma c Q Q' env σ hQ h
theorem BP {m:MK} {it nx ok en:Nat} {id:Id} {B B':(Ex->Env->az->Prop)->Env->az->Prop} {b b1:Nat} {Q Q':Ex->Env->az->Prop} (hB:∀R R' e s,(∀x e s,R x e s->R' x e s)->B R e s->B' R' e s) (hQ:∀x e s,Q x e s->Q' x e s):
  ∀(n:Nat) (left:List (List AV)) (env:Env) (σ:az),FF m it nx ok en id B b b1 Q n left env σ->FF m it nx ok en id B' b b1 Q' n left env σ
 |0,_,env,σ,h=>⟨h.1,hQ _ _ _ h.2⟩
 |n+1,left,env,σ,h=>⟨h.1,fun i cs kv vv h1 h2 h3=>hB _ _ _ _ (fun x e s hx=>by
  have hn:=BP (id:=id) (m:=m) (it:=it) (nx:=nx) (ok:=ok) (en:=en) (b:=b) (b1:=b1) hB hQ n (left.eraseIdx i) e s
  cases x with
  |normal=>exact hn hx
  |ret=>exact hQ _ _ _ hx
  |exit lh=>
   simp only[bq]at hx ⊢
   split at hx
   ·rename_i h1;rw[if_pos h1];exact hn hx
   ·rename_i h1
    rw[if_neg h1]
    simp only[dr,bq]at hx ⊢
    split at hx
    ·rename_i h2;rw[if_pos h2];exact hQ _ _ _ hx
    ·rename_i h2;rw[if_neg h2];exact hQ _ _ _ hx) (h.2 i cs kv vv h1 h2 h3)⟩
theorem Ky (hm:P.follows .mixedOrders=true) {m:MK} {tm:O} {site it nx ok en:Nat} {c:VC} {b b1:Nat} {Q Q':Ex->Env->az->Prop} {env:Env} {σ:az} (hQ:∀x e s,Q x e s->Q' x e s) (h:Kx m tm site it nx ok en (eC (Call P) c) b b1 Q env σ):Kx m tm site it nx ok en (eC (Sound P) c) b b1 Q' env σ:=by
 obtain⟨id,r,h1,h2,h3,h4⟩:=h
 exact⟨id,r,h1,h2,h3,BP (B':=eC (Sound P) c) (fun R R' e s hR hb=>vh hm hR hb) hQ _ _ _ _ h4⟩
theorem tE {α:Type}:∀{l:List α} {i:Nat} {x:α},l[i]? =some x->(x::l.eraseIdx i).Perm l
 |y::l,0,x,h=>by simp at h;subst h;exact List.Perm.refl _
 |y::l,i+1,x,h=>by
  simp only[List.getElem?_cons_succ]at h
  rw[List.eraseIdx_cons_succ]
  exact(List.Perm.swap _ _ _).trans ((tE h).cons _)
theorem Yc {m:MK} {tm:O} {site it nx ok en:Nat} {c:VC} {b b1:Nat} {Q:Ex->Env->az->Prop} {env:Env} {σ:az} {id:Id} {r:Row} (I:List (List AV)->Env->az->Prop) (h1:du env tm=.map id m) (h2:σ.get id=some r) (h3:r.w=true) (K5:([nx,ok,en]++AK c).contains it=false)
  (h0:I [] (upd env (some it) (.ptr ⟨site,σ.next⟩ 0 0)) ⟨bL σ.get id {r with w:=false},σ.next+1⟩)
  (step:∀pre cs rest e s kv vv,(pre++cs::rest).Perm r.rows->I pre e s->jS ([nx,ok,en]++AK c) (upd env (some it) (.ptr ⟨site,σ.next⟩ 0 0)) e->part m.ka m.ks cs=some kv->cs[m.ks]? =some vv->
   eC (Call P) c (bq b1 (dr (I (pre++[cs])) (bq b Q))) (upd (upd (upd e (some nx) (.gM [.bool true,kv,vv])) (some ok) (.bool true)) (some en) (.gM [kv,vv])) ⟨s.get,s.next+1⟩)
  (fin:∀pre e s,pre.Perm r.rows->I pre e s->jS ([nx,ok,en]++AK c) (upd env (some it) (.ptr ⟨site,σ.next⟩ 0 0)) e->Q .normal (upd (upd e (some nx) (.gM [.bool false])) (some ok) (.bool false)) ⟨s.get,s.next+1⟩):
  Kx m tm site it nx ok en (eC (Call P) c) b b1 Q env σ:=by
 refine⟨id,r,h1,h2,h3,?_⟩
 have WX:∀e,jS ([nx,ok,en]++AK c) (upd env (some it) (.ptr ⟨site,σ.next⟩ 0 0)) e->e it=.ptr ⟨site,σ.next⟩ 0 0:=fun e h=>by
  rw[h it K5];simp[upd]
 have key:∀n left pre e s,(pre++left).Perm r.rows->left.length=n->I pre e s->jS ([nx,ok,en]++AK c) (upd env (some it) (.ptr ⟨site,σ.next⟩ 0 0)) e->FF m it nx ok en ⟨site,σ.next⟩ (eC (Call P) c) b b1 Q n left e s:=by
  intro n
  induction n with
  |zero=>
   intro left pre e s hp hl hI hK
   have:left=[]:=List.eq_nil_of_length_eq_zero hl
   subst this
   rw[List.append_nil]at hp
   exact⟨WX e hK,fin pre e s hp hI hK⟩
  |succ n ih=>
   intro left pre e s hp hl hI hK
   refine⟨WX e hK,fun i cs kv vv hi hk hv=>?_⟩
   have lU:=(List.getElem?_eq_some_iff.1 hi).1
   have yX:(cs::left.eraseIdx i).Perm left:=by
    exact tE hi
   have Iw:(pre++cs::left.eraseIdx i).Perm r.rows:=(yX.append_left pre).trans hp
   have SK:jS ([nx,ok,en]++AK c) (upd env (some it) (.ptr ⟨site,σ.next⟩ 0 0)) (upd (upd (upd e (some nx) (.gM [.bool true,kv,vv])) (some ok) (.bool true)) (some en) (.gM [kv,vv])):=
    ((hK.upd (fun t h=>by cases h;simp)).upd (fun t h=>by cases h;simp)).upd (fun t h=>by cases h;simp)
   refine ko (fun _ _ _ _ h=>h) aE c _ _ _ _ (fun x e' s' hx=>?_) (BY c _ _ _ (fun t ht=>List.mem_append_right _ ht) SK (step pre cs (left.eraseIdx i) e s kv vv Iw hI hK hk hv))
   obtain⟨hx,Iu⟩:=hx
   have xk:I (pre++[cs]) e' s'->FF m it nx ok en ⟨site,σ.next⟩ (eC (Call P) c) b b1 Q n (left.eraseIdx i) e' s':=fun hI'=>
    ih (left.eraseIdx i) (pre++[cs]) e' s' (by rw[List.append_assoc];exact Iw) (by rw[List.length_eraseIdx,if_pos lU];omega) hI' Iu
   cases x with
   |normal=>exact xk hx
   |ret=>exact hx
   |exit lh=>
    simp only[bq]at hx ⊢
    split at hx
    ·rename_i h1;rw[if_pos h1];exact xk hx
    ·rename_i h1;rw[if_neg h1];exact hx
 exact key _ r.rows [] _ _ (List.Perm.refl _) rfl h0 (jS.refl _ _)
end Go.Proofs.YtiabgllilcfheaaGreat.V

namespace Go.Proofs.YtiabgllilcfheaaGreat.V
open Go.RowKit
def RP:Code->Code
 | .seq a _=>a
 |c=>c
def Ld:Code->Code
 | .seq _ b=>b
 |c=>c
def Zu:Code->Code
 | .block _ c=>c
 |c=>c
def zsLp:Code->Code
 | .loop c=>c
 |c=>c
def Yo:Code->List Oper
 | .region _ o _=>o.toList
 |_=>[]
def rg2 (k:Code):Code:=RP (RP (Ld (Ld k)))
def rgBl (k:Code):Code:=Ld (RP (Ld (Ld k)))
def rgL (k:Code):Code:=zsLp (Zu (rgBl k))
def TN (k:Code):Code:=Ld (Ld (rgL k))
def Ut:Oper:={dst:=none,op:=.nilCheck (.tmp 0),type:=0,pos:= "",after:= #[],guard:=none}
def rgP (k:Code):List Oper:=(Yo (rg2 k)).dropLast
def rgO (k:Code):Oper:=(Yo (rg2 k)).getLastD Ut
def Zn (k:Code) (i:Nat):Oper:=(Yo (RP (rgL k))).getD i Ut
def XY (k:Code):Oper:=(Yo (RP (Zu (TN k)))).headD Ut
def XZ (k:Code):List Oper:=(Yo (RP (Zu (TN k)))).tail
def rgR (k:Code):Code:=Ld (Zu (TN k))
def X0 (P:Program) (v0 v1:VC) (vA:List aZ) (m:MK) (tm:O) (site it nx ok en:Nat) (vE:List aZ) (vR:VC) (b b1:Nat) (vT:VC) (Q:Ex->Env->az->Prop):Env->az->Prop:=
 eC (Sound P) v0 (dr (eC (Sound P) v1 (dr (wpOps (Sound P) false vA (Kx m tm site it nx ok en (eC (Sound P) (.seq (.eZ false vE) vR)) b b1 (dr (eC (Sound P) vT Q) Q))) Q)) Q)
def TP (P:Program) (v0 v1:VC) (vA:List aZ) (m:MK) (tm:O) (site it nx ok en:Nat) (vE:List aZ) (vR:VC) (b b1:Nat) (vT:VC) (Q:Ex->Env->az->Prop):Env->az->Prop:=
 eC (Call P) v0 (dr (eC (Call P) v1 (dr (wpOps (Call P) false vA (Kx m tm site it nx ok en (eC (Call P) (.seq (.eZ false vE) vR)) b b1 (dr (eC (Call P) vT Q) Q))) Q)) Q)
theorem zL {F F':Env->az->Prop} {Q:Ex->Env->az->Prop} (h:∀e s,F e s->F' e s):∀x e s,dr F Q x e s->dr F' Q x e s:=fun x e s hx=>by
 cases x with
 |normal=>exact h e s hx
 |ret=>exact hx
 |exit id=>exact hx
theorem Nq {P:Program} (hm:P.follows .mixedOrders=true) {v0 v1:VC} {vA:List aZ} {m:MK} {tm:O} {site it nx ok en:Nat} {vE:List aZ} {vR:VC} {b b1:Nat} {vT:VC} {Q:Ex->Env->az->Prop} {env:Env} {σ:az}
  (h:TP P v0 v1 vA m tm site it nx ok en vE vR b b1 vT Q env σ):X0 P v0 v1 vA m tm site it nx ok en vE vR b b1 vT Q env σ:=
 vh hm (zL fun _ _ h=>vh hm (zL fun _ _ h=>mK (fun _ _ _ _ h=>iE hm h) ma (fun _ _ h=>Ky hm (zL fun _ _ h=>vh hm (fun _ _ _ h=>h) h) h) _ _ _ h) h) h
end Go.Proofs.YtiabgllilcfheaaGreat.V

namespace Go.Proofs.YtiabgllilcfheaaGreat
open Go.RowKit
def Sl (w:World) (fp:List Nat) (v:Value) (n:Nat) (xs:List Value):Prop:=
 ∃A c,v=.slice A n c/\n<=c/\c<=maxLen/\
  ((fp=[]/\n=0)∨∃b o,fp=[b]/\A=some ⟨b,o,none⟩/\∀j u,xs[j]? =some u->w.cell? ⟨b,o+j,none⟩=some u)
def lI (fp:List Nat) (lo hi:Nat):Prop:=∀b∈fp,lo<=b/\b<hi
theorem lI.nil (lo hi:Nat):lI [] lo hi:=fun _ h=>by cases h
theorem Sl.nil (w:World):Sl w [] (.slice none 0 0) 0 []:=⟨none,0,rfl,Nat.le_refl _,by simp[maxLen],.inl ⟨rfl,rfl⟩⟩
def RT {α:Type} (rep:World->List Nat->List Value->α->Prop) (sz:Nat) (w:World) (qw:List (List Value)) (Ij:List (List Nat)) (ds:List α):Prop:=
 qw.length=ds.length/\Ij.length=ds.length/\∀(i:Nat) (cs:List Value) (f:List Nat) (d:α),qw[i]? =some cs->Ij[i]? =some f->ds[i]? =some d->rep w f cs d/\cs.length=sz
def oy {α:Type} (rep:World->List Nat->List Value->α->Prop) (sz:Nat) (w:World) (fp:List Nat) (v:Value) (ds:List α):Prop:=
 ∃qw Ij ZW,fp=ZW++Ij.flatten/\Sl w ZW v ds.length qw.flatten/\RT rep sz w qw Ij ds
theorem tq {α:Type} {Ij:List (List α)} {i:Nat} {f:List α} (h:Ij[i]? =some f):∀b∈f,b∈Ij.flatten:=fun b hb=>
 List.mem_flatten.2 ⟨f,List.mem_of_getElem? h,hb⟩
theorem wS {α:Type} {qw:List (List α)} {sz:Nat} (h:∀cs∈qw,cs.length=sz) {i j:Nat} {cs:List α} (hi:qw[i]? =some cs) (hj:j<sz):qw.flatten[i*sz+j]? =cs[j]? :=by
 induction qw generalizing i with
 |nil=>simp at hi
 |cons c r ih=>
  have hc:c.length=sz:=h c (by simp)
  cases i with
  |zero=>
   simp at hi;subst hi
   rw[List.flatten_cons,List.getElem?_append_left (by omega)];simp
  |succ i=>
   rw[List.flatten_cons,List.getElem?_append_right (by rw[hc,Nat.succ_mul];omega)]
   have:(i+1)*sz+j-c.length=i*sz+j:=by rw[hc,Nat.succ_mul];omega
   rw[this]
   exact ih (fun cs eD=>h cs (List.mem_cons_of_mem _ eD)) (by simpa using hi)
theorem RT.lens {α:Type} {rep:World->List Nat->List Value->α->Prop} {sz:Nat} {w:World} {qw:List (List Value)} {Ij:List (List Nat)} {ds:List α}
  (h:RT rep sz w qw Ij ds):∀cs∈qw,cs.length=sz:=fun cs eD=>by
 obtain⟨i,hi,rfl⟩:=List.getElem_of_mem eD
 have h1:i<Ij.length:=by rw[h.2.1,<-h.1];exact hi
 have h2:i<ds.length:=by rw[<-h.1];exact hi
 exact(h.2.2 i _ _ _ (List.getElem?_eq_getElem hi) (List.getElem?_eq_getElem h1) (List.getElem?_eq_getElem h2)).2
theorem oy.at_ {α:Type} {rep:World->List Nat->List Value->α->Prop} {sz:Nat} {w:World} {fp:List Nat} {A:Option Addr} {n c:Nat} {ds:List α}
  (h:oy rep sz w fp (.slice A n c) ds) (k:Nat) (hk:k<ds.length):
  ∃b o cs f,A=some ⟨b,o,none⟩/\b∈fp/\(∀x∈f,x∈fp)/\rep w f cs ds[k]/\cs.length=sz/\∀j u,cs[j]? =some u->w.cell? ⟨b,o+(k*sz+j),none⟩=some u:=by
 obtain⟨qw,Ij,ZW,rfl,⟨A',c',hv,_,_,hc⟩,hr⟩:=h
 simp only[Value.slice.injEq]at hv
 obtain⟨rfl,hn,rfl⟩:=hv
 rcases hc with⟨_,h0⟩|⟨b,o,rfl,rfl,hc⟩
 ·omega
 have h1:k<qw.length:=by rw[hr.1];exact hk
 have h2:k<Ij.length:=by rw[hr.2.1];exact hk
 obtain⟨iF,hl⟩:=hr.2.2 k _ _ _ (List.getElem?_eq_getElem h1) (List.getElem?_eq_getElem h2) (List.getElem?_eq_getElem hk)
 refine⟨b,o,qw[k],Ij[k],rfl,by simp,fun x hx=>List.mem_append_right _ (tq (List.getElem?_eq_getElem h2) x hx),iF,hl,fun j u hj=>?_⟩
 have iH:j<sz:=by rw[<-hl];exact(List.getElem?_eq_some_iff.1 hj).1
 exact hc _ u (by rw[wS hr.lens (List.getElem?_eq_getElem h1) iH];exact hj)
theorem oy.len {α:Type} {rep:World->List Nat->List Value->α->Prop} {sz:Nat} {w:World} {fp:List Nat} {v:Value} {ds:List α}
  (h:oy rep sz w fp v ds):∃A c,v=.slice A ds.length c/\ds.length<=c/\c<=maxLen:=by
 obtain⟨_,_,_,_,⟨A,c,hv,h1,h2,_⟩,_⟩:=h
 exact⟨A,c,hv,h1,h2⟩
theorem oy.nil {α:Type} (rep:World->List Nat->List Value->α->Prop) (sz:Nat) (w:World):oy rep sz w [] (.slice none 0 0) ([]:List α):=
 ⟨[],[],[],rfl,Sl.nil w,rfl,rfl,fun i cs f d hc=>by simp at hc⟩
def Flat {α:Type} (enc:α->List Value):World->List Nat->List Value->α->Prop:=fun _ f cs d=>f=[]/\cs=enc d
def Q (w w':World):Prop:=∃q,w'=w.drewN q
theorem V8 {B:Nat} {a w:World} (h:Below B a w) (n:Nat):Below B a (w.drewN n):=⟨h.os,h.tape,h.output,h.size,h.block⟩
theorem jA {a b:Bool} (h:a=b):Ending.returned (.bool a)=.returned (.bool b):=by rw[h]
theorem IT {k:IntKind} {a b:Int} (h:a=b):Ending.returned (.int k a)=.returned (.int k b):=by rw[h]
def mj (n:Int):Bool:=(decide (97<=n)&&decide (n<=122))||(decide (65<=n)&&decide (n<=90))
def mQ (n:Int):Bool:=decide (48<=n)&&decide (n<=57)
def xz (i:Nat) (n:Int):Prop:=mj n=true∨(0<i/\(mQ n=true∨n=95))
def yk (s:ByteArray):Prop:=(1<=s.size/\s.size<=12)/\∀i (h:i<s.size),xz i s[i].toNat
open Classical in
noncomputable def kI (s:ByteArray):Bool:=decide (yk s)
theorem Hk {s:ByteArray} (h:yk s):true=kI s:=by simp[kI,h]
theorem fh {s:ByteArray} (h:¬yk s):false=kI s:=by simp[kI,h]
theorem Fp {s:ByteArray} {b:Bool} (hb:b=true) (h:yk s):b=kI s:=by simp[kI,h,hb]
theorem uK {s:ByteArray} {b:Bool} (hb:b=false) (h:¬yk s):b=kI s:=by simp[kI,h,hb]
theorem ze (w:World) (n:Int):Calls Tryz.prog 119 #[.int .u8 n] w fun e w'=>e=.returned (.bool (mj n))/\w=w':=by
 go_enter Tryz.func119,Tryz.ntmps119
 go_wp2_with fail
 all_goals
  go_ret
  exact⟨jA (by unfold mj;simp[*];try omega),rfl⟩
theorem Ju (w:World) (n:Int):Calls Tryz.prog 120 #[.int .u8 n] w fun e w'=>e=.returned (.bool (mQ n))/\w=w':=by
 go_enter Tryz.func120,Tryz.ntmps120
 go_wp2_with fail
 all_goals
  go_ret
  exact⟨jA (by unfold mQ;simp[*];try omega),rfl⟩
theorem FG (w:World) (s:ByteArray) (hs:s.size<=9223372036854775807):Calls Tryz.prog 92 #[.string s] w fun e w'=>e=.returned (.bool (kI s))/\Below w.heap.size w w':=by
 by_cases h1:1<=s.size
 case neg=>
  go_enter Tryz.func92,Tryz.ntmps92
  go_wp2_with fail
  go_ret
  exact⟨jA (fh fun h=>h1 h.1.1),Below.refl _ _⟩
 by_cases h2:s.size<=12
 case neg=>
  go_enter Tryz.func92,Tryz.ntmps92
  go_wp2_with fail
  go_ret
  exact⟨jA (fh fun h=>h2 h.1.2),Below.refl _ _⟩
 go_enter Tryz.func92,Tryz.ntmps92
 go_wp2_with fail
 refine(ze _ _).mono ?_
 rintro e w' ⟨rfl,rfl⟩
 cases h3:mj s[0].toNat
 ·go_wp2_with fail
  go_ret
  exact⟨jA (fh fun h=>by have:=h.2 0 (by omega);simp only[xz]at this;rw[h3]at this;simp at this),Below.refl _ _⟩
 ·replace h3:=Lib.hid h3
  go_wp2_with fail
  go_loop [3] (fun i=>∃k:Nat,1<=k/\k<=s.size/\i=.int .i64 k/\Hid (∀j (h:j<s.size),j<k->xz j s[j].toNat)) (fun i=>s.size-(intOf i).toNat)
  case atStart=>exact⟨1,by omega,by omega,rfl,Lib.hid fun j h hj=>by
   obtain rfl:j=0:=by omega
   exact .inl h3.out⟩
  case round=>
   obtain⟨k,tg,hk,rfl,eV⟩:=hrel
   by_cases eW:k<s.size
   ·go_wp2_with fail
    refine(ze _ _).mono ?_
    rintro e w' ⟨rfl,rfl⟩
    have mT:xz k s[k].toNat∨¬xz k s[k].toNat:=Classical.em _
    cases hl:mj s[k].toNat
    ·go_wp2_with fail
     refine(Ju _ _).mono ?_
     rintro e w' ⟨rfl,rfl⟩
     cases hd:mQ s[k].toNat
     ·by_cases xV:(s[k].toNat:Int)=95
      ·have Z2:((s[k].toNat:Int) !=95)=false:=by simp;omega
       replace xV:=Lib.hid xV
       replace hl:=Lib.hid hl
       replace hd:=Lib.hid hd
       go_wp2_with fail
       go_round
       case rel=>exact⟨k+1,by omega,by omega,by go_num,Lib.hid fun j h hj=>by
        by_cases Bd:j=k
        ·subst Bd;exact .inr ⟨by omega,.inr xV.out⟩
        ·exact eV.out j h (by omega)⟩
       case measure=>simp[intOf];omega
      ·have Z2:((s[k].toNat:Int) !=95)=true:=by simp;omega
       replace xV:=Lib.hid xV
       replace hl:=Lib.hid hl
       replace hd:=Lib.hid hd
       go_wp2_with fail
       go_ret
       exact⟨jA (fh fun h=>by
        have:=h.2 k eW;simp only[xz,hl.out,hd.out]at this;exact xV.out (by simp at this;exact this.2)),Below.refl _ _⟩
     ·replace hl:=Lib.hid hl
      replace hd:=Lib.hid hd
      go_wp2_with fail
      go_round
      case rel=>exact⟨k+1,by omega,by omega,by go_num,Lib.hid fun j h hj=>by
       by_cases Bd:j=k
       ·subst Bd;exact .inr ⟨by omega,.inl hd.out⟩
       ·exact eV.out j h (by omega)⟩
      case measure=>simp[intOf];omega
    ·replace hl:=Lib.hid hl
     go_wp2_with fail
     go_round
     case rel=>exact⟨k+1,by omega,by omega,by go_num,Lib.hid fun j h hj=>by
      by_cases Bd:j=k
      ·subst Bd;exact .inl hl.out
      ·exact eV.out j h (by omega)⟩
     case measure=>simp[intOf];omega
   ·go_wp2_with fail
    go_ret
    exact⟨jA (Hk ⟨⟨h1,h2⟩,fun i h=>eV.out i h (by omega)⟩),Below.refl _ _⟩
theorem ER (w:World) (s:ByteArray) (hs:s.size<=9223372036854775807):Calls Tryz.prog 132 #[.string s] w fun e w'=>e=.returned (.bool (kI s))/\w=w':=by
 go_enter Tryz.func132,Tryz.ntmps132
 go_wp2_with fail
 go_loop [8] (fun i=>∃k:Nat,k<=s.size/\i=.int .i64 k/\Hid (∀j (h:j<s.size),j<k->xz j s[j].toNat)) (fun i=>s.size-(intOf i).toNat)
 case atStart=>exact⟨0,by omega,rfl,Lib.hid fun j h hj=>by omega⟩
 case round=>
  obtain⟨k,hk,rfl,eV⟩:=hrel
  by_cases eW:k<s.size
  ·have hc:(s[k].toNat:Int)<48∨(48<=(s[k].toNat:Int)/\(s[k].toNat:Int)<=57)∨(58<=(s[k].toNat:Int)/\(s[k].toNat:Int)<=64)∨(65<=(s[k].toNat:Int)/\(s[k].toNat:Int)<=90)∨(91<=(s[k].toNat:Int)/\(s[k].toNat:Int)<=94)∨(95<=(s[k].toNat:Int)/\(s[k].toNat:Int)<=95)∨(96<=(s[k].toNat:Int)/\(s[k].toNat:Int)<=96)∨(97<=(s[k].toNat:Int)/\(s[k].toNat:Int)<=122)∨123<=(s[k].toNat:Int):=by omega
   by_cases x7:k=0
   ·subst x7
    rcases hc with h|⟨h,h'⟩|⟨h,h'⟩|⟨h,h'⟩|⟨h,h'⟩|⟨h,h'⟩|⟨h,h'⟩|⟨h,h'⟩|h
    ·have xV:((s[0].toNat:Int) !=95)=true:=by simp;try omega
     go_wp2_with fail
     all_goals first
      |(go_ret;exact⟨jA (fh fun hh=>by have:=hh.2 0 eW;simp[xz,mj,mQ]at this;omega),rfl⟩)
      |(exfalso;simp_all;done)
      |(exfalso;simp_all;omega)
    ·have xV:((s[0].toNat:Int) !=95)=true:=by simp;try omega
     go_wp2_with fail
     all_goals first
      |(go_ret;exact⟨jA (fh fun hh=>by have:=hh.2 0 eW;simp[xz,mj,mQ]at this;omega),rfl⟩)
      |(exfalso;simp_all;done)
      |(exfalso;simp_all;omega)
    ·have xV:((s[0].toNat:Int) !=95)=true:=by simp;try omega
     go_wp2_with fail
     all_goals first
      |(go_ret;exact⟨jA (fh fun hh=>by have:=hh.2 0 eW;simp[xz,mj,mQ]at this;omega),rfl⟩)
      |(exfalso;simp_all;done)
      |(exfalso;simp_all;omega)
    ·have xV:((s[0].toNat:Int) !=95)=true:=by simp;try omega
     go_wp2_with fail
     go_round
     case rel=>exact⟨0+1,by omega,by go_num,Lib.hid fun j hj Bd=>by
      by_cases Mb:j=0
      ·subst Mb;simp[xz,mj,mQ];omega
      ·exact eV.out j hj (by omega)⟩
     case measure=>simp[intOf];try omega
    ·have xV:((s[0].toNat:Int) !=95)=true:=by simp;try omega
     go_wp2_with fail
     all_goals first
      |(go_ret;exact⟨jA (fh fun hh=>by have:=hh.2 0 eW;simp[xz,mj,mQ]at this;omega),rfl⟩)
      |(exfalso;simp_all;done)
      |(exfalso;simp_all;omega)
    ·have xV:((s[0].toNat:Int) !=95)=false:=by simp;try omega
     go_wp2_with fail
     all_goals first
      |(go_ret;exact⟨jA (fh fun hh=>by have:=hh.2 0 eW;simp[xz,mj,mQ]at this;omega),rfl⟩)
      |(exfalso;simp_all;done)
      |(exfalso;simp_all;omega)
    ·have xV:((s[0].toNat:Int) !=95)=true:=by simp;try omega
     go_wp2_with fail
     all_goals first
      |(go_ret;exact⟨jA (fh fun hh=>by have:=hh.2 0 eW;simp[xz,mj,mQ]at this;omega),rfl⟩)
      |(exfalso;simp_all;done)
      |(exfalso;simp_all;omega)
    ·have xV:((s[0].toNat:Int) !=95)=true:=by simp;try omega
     go_wp2_with fail
     go_round
     case rel=>exact⟨0+1,by omega,by go_num,Lib.hid fun j hj Bd=>by
      by_cases Mb:j=0
      ·subst Mb;simp[xz,mj,mQ];omega
      ·exact eV.out j hj (by omega)⟩
     case measure=>simp[intOf];try omega
    ·have xV:((s[0].toNat:Int) !=95)=true:=by simp;try omega
     go_wp2_with fail
     all_goals first
      |(go_ret;exact⟨jA (fh fun hh=>by have:=hh.2 0 eW;simp[xz,mj,mQ]at this;omega),rfl⟩)
      |(exfalso;simp_all;done)
      |(exfalso;simp_all;omega)
   ·have hz:((k:Int)==0)=false:=by simpa using x7
    have tg:1<=k:=by omega
    clear x7
    rcases hc with h|⟨h,h'⟩|⟨h,h'⟩|⟨h,h'⟩|⟨h,h'⟩|⟨h,h'⟩|⟨h,h'⟩|⟨h,h'⟩|h
    ·have xV:((s[k].toNat:Int) !=95)=true:=by simp;try omega
     go_wp2_with fail
     all_goals first
      |(go_ret;exact⟨jA (fh fun hh=>by have:=hh.2 k eW;simp[xz,mj,mQ]at this;omega),rfl⟩)
      |(exfalso;simp_all;done)
      |(exfalso;simp_all;omega)
    ·have xV:((s[k].toNat:Int) !=95)=true:=by simp;try omega
     go_wp2_with fail
     go_round
     case rel=>exact⟨k+1,by omega,by go_num,Lib.hid fun j hj Bd=>by
      by_cases Mb:j=k
      ·subst Mb;simp[xz,mj,mQ];omega
      ·exact eV.out j hj (by omega)⟩
     case measure=>simp[intOf];try omega
    ·have xV:((s[k].toNat:Int) !=95)=true:=by simp;try omega
     go_wp2_with fail
     all_goals first
      |(go_ret;exact⟨jA (fh fun hh=>by have:=hh.2 k eW;simp[xz,mj,mQ]at this;omega),rfl⟩)
      |(exfalso;simp_all;done)
      |(exfalso;simp_all;omega)
    ·have xV:((s[k].toNat:Int) !=95)=true:=by simp;try omega
     go_wp2_with fail
     go_round
     case rel=>exact⟨k+1,by omega,by go_num,Lib.hid fun j hj Bd=>by
      by_cases Mb:j=k
      ·subst Mb;simp[xz,mj,mQ];omega
      ·exact eV.out j hj (by omega)⟩
     case measure=>simp[intOf];try omega
    ·have xV:((s[k].toNat:Int) !=95)=true:=by simp;try omega
     go_wp2_with fail
     all_goals first
      |(go_ret;exact⟨jA (fh fun hh=>by have:=hh.2 k eW;simp[xz,mj,mQ]at this;omega),rfl⟩)
      |(exfalso;simp_all;done)
      |(exfalso;simp_all;omega)
    ·have xV:((s[k].toNat:Int) !=95)=false:=by simp;try omega
     go_wp2_with fail
     go_round
     case rel=>exact⟨k+1,by omega,by go_num,Lib.hid fun j hj Bd=>by
      by_cases Mb:j=k
      ·subst Mb;simp[xz,mj,mQ];omega
      ·exact eV.out j hj (by omega)⟩
     case measure=>simp[intOf];try omega
    ·have xV:((s[k].toNat:Int) !=95)=true:=by simp;try omega
     go_wp2_with fail
     all_goals first
      |(go_ret;exact⟨jA (fh fun hh=>by have:=hh.2 k eW;simp[xz,mj,mQ]at this;omega),rfl⟩)
      |(exfalso;simp_all;done)
      |(exfalso;simp_all;omega)
    ·have xV:((s[k].toNat:Int) !=95)=true:=by simp;try omega
     go_wp2_with fail
     go_round
     case rel=>exact⟨k+1,by omega,by go_num,Lib.hid fun j hj Bd=>by
      by_cases Mb:j=k
      ·subst Mb;simp[xz,mj,mQ];omega
      ·exact eV.out j hj (by omega)⟩
     case measure=>simp[intOf];try omega
    ·have xV:((s[k].toNat:Int) !=95)=true:=by simp;try omega
     go_wp2_with fail
     all_goals first
      |(go_ret;exact⟨jA (fh fun hh=>by have:=hh.2 k eW;simp[xz,mj,mQ]at this;omega),rfl⟩)
      |(exfalso;simp_all;done)
      |(exfalso;simp_all;omega)
  ·by_cases h1:1<=s.size
   ·by_cases h2:s.size<=12
    ·go_wp2_with fail
     go_ret
     exact⟨jA (Fp (by simp<;>omega) ⟨⟨h1,h2⟩,fun i h=>eV.out i h (by omega)⟩),rfl⟩
    ·go_wp2_with fail
     go_ret
     exact⟨jA (uK (by simp<;>omega) fun h=>h2 h.1.2),rfl⟩
   ·go_wp2_with fail
    go_ret
    exact⟨jA (uK (by simp<;>omega) fun h=>h1 h.1.1),rfl⟩
def Unf (w:World) (b:Nat):Prop:=∃cs e,w.heap[b]? =some (.cells cs e (0,0))
def putCells (w:World) (g:Nat):Nat->List Value->World
 |_,[]=>w
 |i,v::r=>putCells (w.setCell ⟨g,i,none⟩ v) g (i+1) r
theorem size_set (w:World) (p:Addr) (v:Value):(w.setCell p v).heap.size=w.heap.size:=by simp[World.setCell]
structure lp (fp:List Nat) (w w':World):Prop where
 os:w'.os=w.os
 tape:w'.tape=w.tape
 output:w'.output=w.output
 size:w.heap.size<=w'.heap.size
 block:∀x,x<w.heap.size->x∉fp->w'.heap[x]? =w.heap[x]?
 unf:∀x,Unf w x->Unf w' x
theorem lp.trans {fp:List Nat} {a b c:World} (h:lp fp a b) (k:lp fp b c):lp fp a c:=
 ⟨k.os.trans h.os,k.tape.trans h.tape,k.output.trans h.output,Nat.le_trans h.size k.size,fun x h1 h2=>(k.block x (Nat.lt_of_lt_of_le h1 h.size) h2).trans (h.block x h1 h2),fun x hx=>k.unf x (h.unf x hx)⟩
structure aq where
 fC:Int
 fu:Int
deriving DecidableEq
structure aa where
 bD:aq
 ck:Int
deriving DecidableEq
structure sP where
 au:List aa
deriving DecidableEq
structure kJ where
 cI:ByteArray
 iV:Int
deriving DecidableEq
structure jB where
 cI:ByteArray
 ew:List Int
deriving DecidableEq
structure aH where
 bd:List kJ
 au:List jB
deriving DecidableEq
structure aA where
 aI:aH
 dm:sP
 aD:Int
deriving DecidableEq
def gW (d:aq):List Value:=[.int .i64 d.fC,.int .i64 d.fu]
end Go.Proofs.YtiabgllilcfheaaGreat

namespace Go.Proofs.YtiabgllilcfheaaGreat.V
open Go.RowKit
variable {P:Program} {w:World} {D:Nat->Prop}
def Lg (P:Program) (w:World) (D:Nat->Prop) (al:List AV) (cs:List Value):Prop:=∀(j:Nat) (a:AV),al[j]? =some a->∃u:Value,cs[j]? =some u/\lH P w D a u
theorem Nu {α:Type} {rep:World->List Nat->List Value->α->Prop} {e:α->List AV} {sz:Nat} {f:List Nat} {v:Value} {xs:List α} (h:oy rep sz w f v xs) (hD:∀b∈f,D b)
  (hl:∀x∈xs,(e x).length=sz) (hc:∀x∈xs,∀a∈e x,a.cell=true) (hr:∀x∈xs,∀f' cs,rep w f' cs x->(∀b∈f',D b)->Lg P w D (e x) cs):lH P w D (.sl (xs.map e)) v:=by
 obtain⟨A,c,rfl,h1,h2⟩:=oy.len h
 by_cases h0:xs=[]
 ·subst h0;exact .Dy _ _ h2
 have kd:0<xs.length:=List.length_pos_iff.2 h0
 obtain⟨b,o,cs0,f0,rfl,hb,YR,hr0,Pj,kG⟩:=oy.at_ h 0 kd
 have key:∀(i:Nat) (hi:i<xs.length),∃cs f',(∀x∈f',x∈f)/\rep w f' cs xs[i]/\cs.length=sz/\∀j u,cs[j]? =some u->w.cell? ⟨b,o+(i*sz+j),none⟩=some u:=by
  intro i hi
  obtain⟨b',o',cs,f',YL,_,Vz,qc,eD,lN⟩:=oy.at_ h i hi
  simp only[Option.some.injEq,Addr.mk.injEq,and_true]at YL
  obtain⟨rfl,rfl⟩:=YL
  exact⟨cs,f',Vz,qc,eD,lN⟩
 refine .sl _ b o _ c sz (fun i j=>(w.cell? ⟨b,o+(i*sz+j),none⟩).getD Go.undef) (by simp) h1 h2 (hD b hb) ?_ ?_ ?_ ?_
 ·intro cs eD
  obtain⟨x,hx,rfl⟩:=List.mem_map.1 eD
  exact hl x hx
 ·intro cs eD
  obtain⟨x,hx,rfl⟩:=List.mem_map.1 eD
  exact hc x hx
 ·intro i j hi hj
  obtain⟨cs,f',_,_,eD,lN⟩:=key i hi
  rw[lN j cs[j] (List.getElem?_eq_getElem ah)]
  rfl
 ·intro i j cs a eD ha
  have hi:i<xs.length:=by
   have:=(List.getElem?_eq_some_iff.1 eD).1
   simpa using this
  obtain⟨ub,f',Vz,qc,hcs',lN⟩:=key i hi
  simp[hi]at eD
  subst eD
  obtain⟨u,hu,him⟩:=hr _ (List.getElem_mem hi) f' ub qc (fun b hb=>hD b (Vz b hb)) j a ha
  rw[lN j u hu]
  exact him
end Go.Proofs.YtiabgllilcfheaaGreat.V

namespace Go.Proofs.YtiabgllilcfheaaGreat.V
open Go.RowKit
variable {P:Program} {w:World} {D:Nat->Prop}
def aJ (d:Int):List AV:=[.int .i64 d]
def ae (d:aq):List AV:=[.int .i64 d.fC,.int .i64 d.fu]
def ai (d:aa):List AV:=[.int .i64 d.bD.fC,.int .i64 d.bD.fu,.int .i64 d.ck]
def Vs (d:sP):List AV:=[.sl (d.au.map ai)]
def ek (d:kJ):List AV:=[.str d.cI,.int .i64 d.iV]
def dw (d:jB):List AV:=[.str d.cI,.sl (d.ew.map aJ)]
def aj (d:aH):List AV:=[.sl (d.bd.map ek),.sl (d.au.map dw)]
def bt (d:aA):List AV:=[.sl (d.aI.bd.map ek),.sl (d.aI.au.map dw),.sl (d.dm.au.map ai),.int .i64 d.aD]
end Go.Proofs.YtiabgllilcfheaaGreat.V

namespace Go.Proofs.YtiabgllilcfheaaGreat.V
open Go.RowKit
theorem mixed:Tryz.prog.follows .mixedOrders=true:=by kernel_rfl
variable {P:Program} {w:World} {D:Nat->Prop} {ι:Names}
theorem nF {f:Nat} {args:List AV} {r:AV} {vs0:Array Value} {u0:Value} (pH:∀(w:World) (D:Nat->Prop) (ι:Names) vs,fK P w D ι args vs->vs=vs0) (hr:∀(w:World) (D:Nat->Prop) (ι:Names),dy P w D ι r u0) (K3:∀g,iq g 6 r=some r)
  (h:∀w,Calls P f vs0 w fun e w'=>e=.returned u0/\Below w.heap.size w w'):ay P f args r:=by
 intro n
 refine gG fun hs D ι w vs S U A=>?_
 have:=pH w D ι vs A
 subst this
 refine(h w).mono ?_
 rintro e w' ⟨rfl,hb⟩
 exact⟨r,_,n,D,ι,u0,rfl,⟨r,K3 _,rfl⟩,Step.stay S hb.block hb.size hb.os hb.tape hb.output (fun _ h=>h) (fun _ h=>.inl h) (fun _ _ h=>h),
  S.stay hb.block hb.size (fun _ h=>h) (fun b hd=>Nat.lt_of_lt_of_le (S.dead b hd) hb.size) (fun _ h=>.inl h) (fun _ _ h=>h),U,Nat.le_refl _,hr _ _ _⟩
theorem FD {s:ByteArray} {vs:Array Value} (h:fK P w D ι [.str s] vs):vs= #[.string s]:=by
 obtain⟨h1,h2⟩:=h
 obtain⟨u,hu,hr⟩:=h2 0 _ rfl
 rw[gR hr]at hu
 obtain⟨l⟩:=vs
 cases l with
 |nil=>simp at h1
 |cons a l=>cases l with
  |nil=>simp at hu;subst hu;rfl
  |cons b l=>simp at h1
theorem IV (s:ByteArray) (hs:s.size<=9223372036854775807):ay Tryz.prog 92 [.str s] (.bool (kI s)):=
 nF (fun _ _ _ _=>FD) (fun _ _ _=>.fF _ _ (.bool _)) (fun g=>fM g 5 _) fun w=>FG w s hs
theorem IE (s:ByteArray) (hs:s.size<=9223372036854775807):ay Tryz.prog 132 [.str s] (.bool (kI s)):=
 nF (fun _ _ _ _=>FD) (fun _ _ _=>.fF _ _ (.bool _)) (fun g=>fM g 5 _) fun w=>(ER w s hs).mono (by rintro e w' ⟨rfl,rfl⟩;exact⟨rfl,Below.refl _ _⟩)
end Go.Proofs.YtiabgllilcfheaaGreat.V

namespace Go.Proofs.YtiabgllilcfheaaGreat.V
open Go.RowKit
noncomputable def EY:Go.Code:=Tryz.f52.body.getD .skip
def NG:VC:=(.eZ false [⟨(some 2),(.dH (.k (.int .i64 0))),none,52000000,[]⟩])
def RI:VC:=(.eZ false [⟨(some 3),(.dH (.k (.int .i64 0))),none,52001000,[]⟩])
def RJ:List aZ:=[⟨(some 6),(.dH (.t 0)),none,52002000,[]⟩,⟨(some 7),(.Dp (.t 6)),none,52002001,[]⟩,⟨(some 8),(.dz 5 (.t 7)),none,52002002,[]⟩,⟨(some 9),(.load false 1 (.t 8)),none,52002003,[]⟩]
def I3:List aZ:=[⟨(some 14),(.extract 1 (.t 13)),none,52004001,[]⟩,⟨(some 5),(.dH (.t 14)),none,52004002,[]⟩]
def I4:VC:=(.eZ false [⟨(some 15),(.dH (.t 3)),none,52005000,[]⟩,⟨(some 16),(.dH (.t 5)),none,52005001,[]⟩,⟨(some 17),(.len (.t 16)),none,52005002,[]⟩,⟨(some 18),(.bin .add .i64 (.t 15) (.t 17)),none,52005003,[]⟩,⟨(some 3),(.dH (.t 18)),none,52005004,[]⟩])
def NI:VC:=(.seq (.eZ false [⟨(some 19),(.dH (.t 3)),none,52006000,[]⟩,⟨(some 2),(.dH (.t 19)),none,52006001,[]⟩]) .ret)
def NK:List pN:=[(.tmp 2)]
def NC:O:=(.t 9)
theorem XT:Ll Tryz.prog [] Tryz.f52.ntmps 52 52004000 10 11 12 13 (Zn EY 0) (Zn EY 1) (XY EY) (XZ EY) (rgR EY) I3 I4:=⟨by kernel_rfl,by kernel_rfl,by kernel_rfl,by kernel_rfl,by kernel_rfl,by kernel_rfl,by kernel_rfl,by kernel_rfl,by kernel_rfl,by decide,by decide,by decide,by decide,by decide,by kernel_rfl,by kernel_rfl⟩
theorem X1:EY=.seq (RP EY) (.seq (RP (Ld EY)) (.seq (.seq (.region 2 (rgP EY++[rgO EY]).toArray false) (.block 0 (.loop (Np 3 4 0 1 12 (Zn EY 0) (Zn EY 1) (XY EY) (XZ EY) (rgR EY))))) (Ld (Ld (Ld EY))))):=by kernel_rfl
theorem Wj (m:MK):CS Tryz.prog Tryz.f52.ntmps EY (X0 Tryz.prog NG RI RJ m NC 52002999 10 11 12 13 I3 I4 0 1 NI):=by
 rw[X1]
 exact CS.seq (CS.code (md:=[]) (fid:=52) mixed (by kernel_rfl)) (CS.seq (CS.code (md:=[]) (fid:=52) mixed (by kernel_rfl)) (CS.seq (CS.rng (tm:=.tmp 9) (sA:=52002000) (t:=121) (k:=50) (e:=37) mixed XT (by kernel_rfl) (by kernel_rfl) (by kernel_rfl) (by decide) (by kernel_rfl) (by kernel_rfl) (by kernel_rfl)) (CS.code (md:=[]) (fid:=52) mixed (by kernel_rfl))))
theorem XX {args:List AV} {σ:az} {K:AV->az->Prop} (ha:args.length=Tryz.f52.params.size) (m:MK) (h:TP Tryz.prog NG RI RJ m NC 52002999 10 11 12 13 I3 I4 0 1 NI (mz NK K) (cz args) σ):Call Tryz.prog 52 args σ K:=
 CS.fn Tryz.func52 (by kernel_rfl) (by kernel_rfl) ha.symm (by decide) (Wj m) (Nq mixed h)
end Go.Proofs.YtiabgllilcfheaaGreat.V

namespace Go.Proofs.YtiabgllilcfheaaGreat.V
open Go.RowKit
attribute [local irreducible] eC wpOps gi Call
attribute [local go_sem] aM fP fa fX fW du upd cz K.av cP AV.cells AV.cell rowOf rowsOf part ld rowAt bL cu dK eb gK bP de eu fS fq dx ef db da dR dS bU bf cU bR cW cV dW eh ee cR bW dd ec bQ aL cY cH gJ bF cL bV aY dr bq dL AV.undef bJ bK dV dY dQ dU cK er ez cF ej ei cX cZ List.getD_cons_zero List.getD_cons_succ List.getD_nil List.all_cons List.all_nil Bool.and_true Bool.true_and Bool.and_self Bool.not_true Bool.not_false Option.map_some Option.map_none Option.bind_some Option.bind_none List.length_cons List.length_nil List.take_succ_cons List.take_zero List.take_nil List.drop_succ_cons List.drop_zero List.drop_nil List.head?_cons List.map_cons List.map_nil List.getElem?_cons_zero List.getElem?_cons_succ List.cons_append List.nil_append List.append_nil List.length_map List.set_cons_zero List.set_cons_succ Nat.reduceMul eq_self Int.toNat_natCast Int.natCast_nonneg and_self true_and and_true decide_true decide_false Bool.false_eq_true Nat.zero_add Nat.add_zero List.contains_cons List.contains_nil Bool.or_false Bool.false_or beq_self_eq_true Nat.reduceBEq ne_eq not_true_eq_false not_false_eq_true Id.mk.injEq false_and and_false Nat.reduceLT Int.reduceLE Int.reduceLT Int.reduceToNat Int.reduceNeg Int.reduceAdd Nat.le_refl List.length_append beq_true beq_false Bool.not_eq_eq_eq_not or_false false_or eL ar ax aW bp bZ cw aV bH aU bh cQ bI
variable {P:Program}
theorem mH {X:gT} {Q:Ex->Env->az->Prop} {N:Env->az->Prop} {c:VC} {env:Env} {σ:az} (I:Env->az->Prop) (h2:∀e s,I e s->N e s) (h1:∀N':Env->az->Prop,(∀e s,I e s->N' e s)->eC X c (dr N' Q) env σ):eC X c (dr N Q) env σ:=h1 N h2
def y6 (f z:Nat) (a:Bool):Dl:=let s:=f*1000000
 ⟨19,2,(.seq (.eZ false [q 4 (.dH (.k (.int .i64 0))) s]) (.seq (.seq (.eZ false [q 6 (.dH (.t 0)) (s+1000),q 7 (.len (.t 6)) (s+1001),q 8 (.dH (.k (.int .i64 0))) (s+1002)]) (.block 0 (.loop (.seq (.eZ false [q 9 (.bin .lss .i64 (.t 8) (.t 7)) (s+2000)]) (.seq (.cond (.t 9) .skip (.exit 0)) (.seq (.block 1 (.seq (.eZ false [q 10 (.dH (.t 8)) (s+3000),q 5 (.dH (.t 10)) (s+3001)]) (.seq (.eZ false [q 11 (.dH (.t 1)) (s+4000),q 12 (.dH (.t 0)) (s+4001),q 13 (.dH (.t 5)) (s+4002),q 14 (.gC z (.t 12) (.t 13)) (s+4003),q 15 (.load a z (.t 14)) (s+4004),q 16 (.wP (.t 11) [(.t 15)]) (s+4005)]) (.cond (.t 16) (.seq (.eZ false [q 17 (.dH (.t 5)) (s+5000),q 4 (.dH (.t 17)) (s+5001)]) .ret) .skip)))) (.eZ false [q 18 (.bin .add .i64 (.t 8) (.k (.int .i64 1))) (s+6000),q 8 (.dH (.t 18)) (s+6001)]))))))) (.seq (.eZ false [q 4 (.dH (.k (.int .i64 (-1)))) (s+7000)]) .ret))),[(.tmp 4)]⟩
def GR (f g:Nat):Dl:=let s:=f*1000000
 ⟨9,2,(.seq (.eZ false [q 4 (.dH (.k (.bool false))) s]) (.seq (.eZ false [q 5 (.dH (.t 0)) (s+1000),q 6 (.dH (.t 1)) (s+1001),q 7 (.call g [(.t 5),(.t 6)]) (s+1002),q 8 (.bin .geq .i64 (.t 7) (.k (.int .i64 0))) (s+1003),q 4 (.dH (.t 8)) (s+1004)]) .ret)),[(.tmp 4)]⟩
def lL {α:Type} (p:α->Bool) (xs:List α):Int:=if xs.findIdx p<xs.length then(xs.findIdx p:Int)else -1
theorem LM {α:Type} (p:α->Bool) (xs:List α):decide (0<=lL p xs)=xs.any p:=by
 unfold lL
 by_cases h:xs.findIdx p<xs.length
 ·rw[if_pos h]
  have:xs.any p=true:=List.any_eq_true.2 (List.findIdx_lt_length.1 h)
  rw[this];simp
 ·rw[if_neg h]
  have:xs.any p=false:=by
   rw[Bool.eq_false_iff]
   intro hc
   exact h (List.findIdx_lt_length.2 (List.any_eq_true.1 hc))
  rw[this];rfl
theorem xO (a:AV) (l m:List AV):a::l++m=a::(l++m):=rfl
theorem Ca (l:List AV):[]++l=l:=rfl
structure VY {α:Type} (e:α->List AV) (v:α->AV) (z:Nat) (a:Bool):Prop where
 len:∀x,(e x).length=z
 val:∀x,if a=true then v x=.agg (e x)else e x=[v x]
 fz:∀x g,eI g 6 [v x]=some [v x]
theorem xd {α:Type} {e:α->List AV} {v:α->AV} {z fk:Nat} {a:Bool} (hE:VY e v z a) (hc:FZ P fk=some (y6 fk z a)) (xs:List α) (hlen:xs.length<=1048576) (f:Nat) (dJ:List AV) (p:α->Bool)
  (hf:∀x∈xs,ay P f (v x::dJ) (.bool (p x))) (JN:∀g,eI g 6 dJ=some dJ):
  ay P fk [.sl (xs.map e),.fn f dJ] (.int .i64 (lL p xs)):=by
 refine ay.body hc rfl fun hl n0=>?_
 try simp only[q]
 clear hl
 (try((repeat(revert N;apply Pn.out));refine wk @Nat.zero_add ?_;(repeat(apply Pn.mk;intro N Z))))
 refine bz (fun n env st=>∃k:Nat,n=(xs.length)-k/\k<=(xs.length)/\env 8=.int .i64 (k:Int)/\(∀j:Nat,j<k->∀h:j<xs.length,p xs[j]=false)) (xs.length) ⟨0,ah,ah,sl @Nat.zero_add,fun _ h=>absurd h (Nat.not_lt_zero _)⟩ ?_
 rintro n_a env_a st_a ⟨k,rfl,ale,a8,oz⟩ eE
 have a0:=eE 0 (by kernel_rfl);have a1:=eE 1 (by kernel_rfl);have a7:=eE 7 (by kernel_rfl)
 simp only[go_sem, ↓reduceIte,Nat.reduceEqDiff,Nat.reduceAdd,Nat.reduceSub,Nat.reduceLeDiff,reduceCtorEq]at a0 a1 a7
 clear eE
 by_cases hk:(k:Int)<(xs.length:Int)
 ·have dD:∀{e:Env},(e 8=.int .i64 (IntKind.i64.wrap ((k:Int)+1)))->(∀h:k<xs.length,p xs[k]=false)->∃m0,m0<(xs.length)-k/\∃k:Nat,m0=(xs.length)-k/\k<=(xs.length)/\e 8=.int .i64 (k:Int)/\(∀j:Nat,j<k->∀h:j<xs.length,p xs[j]=false):=fun x1 x2=>⟨_,ah,k+1,rfl,ah,(by rw[x1,aK ah]),(all_succ oz x2)⟩
  have iO:k<xs.length:=ah
  have hg:(xs.map e)[k]? =some (e xs[k]):=by simp[iO]
  have EI:=hf _ (List.getElem_mem iO)
  have hz:=hE.len xs[k]
  have hv:=hE.val xs[k]
  have qJ:eI (eL st_a.get) 6 (v xs[k]::dJ)=some (v xs[k]::dJ):=by
   have h1:=hE.fz xs[k] (eL st_a.get)
   rw[ar,ax]at h1
   rw[ar,JN]
   revert h1
   cases V.fz (eL st_a.get) 6 (v xs[k])<;>simp
  have fin:∀Z:True,(p xs[k]=true->xs.findIdx p=k):=fun _ hp=>by
   rw[List.findIdx_eq iO];exact⟨hp,fun j hj=>oz j hj ah⟩
  cases hp:p xs[k]
  ·have Xq:=hp
   cases a
   ·rw[if_neg (by simp)]at hv
    have Bg:z=1:=by rw[<-hz,hv];rfl
    subst Bg
    rw[hv]at hg hz
    rw[hp]at EI
    generalize v xs[k]=c at EI qJ hg hz
    (try((repeat(revert N;apply Pn.out));refine wk (tw @a8 (tw @a0 (tw @a1 (tw @a7 (tw @hk (tw @hg (tw @hz (tw @xO @Ca)))))))) ?_;(repeat(apply Pn.mk;intro N Z))))
    refine .inl ⟨_,ay.x EI qJ,?_⟩
    apply Z
    clear Z N
    (try((repeat(revert N;apply Pn.out));refine wk (tw @a8 (tw @a0 (tw @a1 @a7))) ?_;(repeat(apply Pn.mk;intro N Z))))
    exact dD (sd (tw @a8 (tw @a0 (tw @a1 @a7)))) (fun _=>Xq)
   ·rw[if_pos rfl]at hv
    have ht:(e xs[k]).take z=e xs[k]:=by rw[<-hz,List.take_length]
    rw[hv]at EI qJ
    rw[hp]at EI
    generalize e xs[k]=c at EI qJ hg hz ht
    (try((repeat(revert N;apply Pn.out));refine wk (tw @a8 (tw @a0 (tw @a1 (tw @a7 (tw @hk (tw @hg (tw @hz (tw @ht (tw @xO (tw @Ca @Nat.le_refl)))))))))) ?_;(repeat(apply Pn.mk;intro N Z))))
    refine .inl ⟨_,ay.x EI qJ,?_⟩
    apply Z
    clear Z N
    (try((repeat(revert N;apply Pn.out));refine wk (tw @a8 (tw @a0 (tw @a1 @a7))) ?_;(repeat(apply Pn.mk;intro N Z))))
    exact dD (sd (tw @a8 (tw @a0 (tw @a1 @a7)))) (fun _=>Xq)
  ·have hi:=fin trivial hp
   cases a
   ·rw[if_neg (by simp)]at hv
    have Bg:z=1:=by rw[<-hz,hv];rfl
    subst Bg
    rw[hv]at hg hz
    rw[hp]at EI
    generalize v xs[k]=c at EI qJ hg hz
    (try((repeat(revert N;apply Pn.out));refine wk (tw @a8 (tw @a0 (tw @a1 (tw @a7 (tw @hk (tw @hg (tw @hz (tw @xO @Ca)))))))) ?_;(repeat(apply Pn.mk;intro N Z))))
    refine .inl ⟨_,ay.x EI qJ,?_⟩
    apply Z
    clear Z N
    (try((repeat(revert N;apply Pn.out));refine wk (tw @a8 (tw @a0 (tw @a1 @a7))) ?_;(repeat(apply Pn.mk;intro N Z))))
    exact eJ (b:=(k:Int)) (.inl rfl) (sd @Nat.zero_add) (by rw[lL,hi,if_pos iO])
   ·rw[if_pos rfl]at hv
    have ht:(e xs[k]).take z=e xs[k]:=by rw[<-hz,List.take_length]
    rw[hv]at EI qJ
    rw[hp]at EI
    generalize e xs[k]=c at EI qJ hg hz ht
    (try((repeat(revert N;apply Pn.out));refine wk (tw @a8 (tw @a0 (tw @a1 (tw @a7 (tw @hk (tw @hg (tw @hz (tw @ht (tw @xO (tw @Ca @Nat.le_refl)))))))))) ?_;(repeat(apply Pn.mk;intro N Z))))
    refine .inl ⟨_,ay.x EI qJ,?_⟩
    apply Z
    clear Z N
    (try((repeat(revert N;apply Pn.out));refine wk (tw @a8 (tw @a0 (tw @a1 @a7))) ?_;(repeat(apply Pn.mk;intro N Z))))
    exact eJ (b:=(k:Int)) (.inl rfl) (sd @Nat.zero_add) (by rw[lL,hi,if_pos iO])
 ·(try((repeat(revert N;apply Pn.out));refine wk (tw @a8 (tw @a0 (tw @a1 (tw @a7 @hk)))) ?_;(repeat(apply Pn.mk;intro N Z))))
  have hi:¬xs.findIdx p<xs.length:=by
   rw[List.findIdx_lt_length]
   rintro⟨x,hx,Te⟩
   obtain⟨j,hj,rfl⟩:=List.getElem_of_mem hx
   rw[oz j ah hj]at Te;cases Te
  exact eJ (b:=-1) (.inl rfl) (sd @Nat.zero_add) (by rw[lL,if_neg hi])
theorem qv {α:Type} {e:α->List AV} {v:α->AV} {z fk gk:Nat} {a:Bool} (hE:VY e v z a) (hc:FZ P fk=some (GR fk gk)) (A9:FZ P gk=some (y6 gk z a)) (xs:List α) (hlen:xs.length<=1048576) (f:Nat) (dJ:List AV) (p:α->Bool) (GU:dJ.all AV.cell=true) (K3:∀g,eI g 5 dJ=some dJ)
  (hf:∀x∈xs,ay P f (v x::dJ) (.bool (p x))) (JN:∀g,eI g 6 dJ=some dJ):
  ay P fk [.sl (xs.map e),.fn f dJ] (.bool (xs.any p)):=by
 refine ay.body hc rfl fun hl n0=>?_
 try simp only[q]
 clear hl
 have hi:=xd hE A9 xs hlen f dJ p hf JN
 (repeat(first|((repeat(revert N;apply Pn.out));refine wk (tw @GU @K3) ?_;(repeat(apply Pn.mk;intro N Z)))|((try apply Or.inl);refine⟨_,ay.x (hi) (sd (tw @GU @K3)),?_⟩;apply Z;clear Z N)))
 exact cD (b:=decide (0<=lL p xs)) (.inl rfl) (sd @Nat.zero_add) (LM p xs)
end Go.Proofs.YtiabgllilcfheaaGreat.V

namespace Go.Proofs.YtiabgllilcfheaaGreat.V
open Go.RowKit
def uI (P:Program) (mk:Bool):List Oper->Nat->List Nat
 |[],_=>[]
 |o::r,i=>match tK P o.op with
  |some v=>if tp v||mk&&v.nD then i::uI P mk r (i+1)else uI P mk r (i+1)
  |none=>uI P mk r (i+1)
def Cd (P:Program) (ops:Array Oper) (site0:Nat) (mk:Bool) (bs:Array Nat) (hidden:List Nat):List Oper->Nat->Option (List aZ)
 |[],_=>some []
 |o::r,j=>do
  let v <-tK P o.op
  let g <-Gt ops o
  pure ({dst:=o.dst,op:=v,guard:=g,site:=site0+j,hid:=(hidden.filter fun i=> !(bs.getD j 0).testBit i&&(i !=j||mk&&v.nD)).map fun i=>site0+i}::(<-Cd P ops site0 mk bs hidden r (j+1)))
def qu (P:Program) (md:List (Nat×Nat)) (fid:Nat):Code->Option VC
 | .skip=>some .skip
 | .region id ops draw=>if draw then(Cd P ops ((fid*1000+id)*1000) (zj md id==1) (kq ops) (uI P (zj md id==1) ops.toList 0) ops.toList 0).map (VC.eZ true)else(Cd P ops ((fid*1000+id)*1000) false #[] [] ops.toList 0).map (if ops.toList.any fun o=>Ru o.op then VC.Sh else VC.eZ false)
 | .seq a b=>do pure (.seq (<-qu P md fid a) (<-qu P md fid b))
 | .cond c x y=>do pure (.cond (<-cO P c) (<-qu P md fid x) (<-qu P md fid y))
 | .block id c=>(qu P md fid c).map (VC.block id)
 | .loop c=>(qu P md fid c).map VC.loop
 | .exit id=>some (.exit id)
 | .ret=>some .ret
 | .label _=>some .skip
 | .scope c=>qu P md fid c
 |_=>none
def V9 (P:Program) (md:List (Nat×Nat)) (f:Nat):Option Dl:=
 match P.funcs[f]? with
 |some fn=>match fn.body with
  |some c=>do
   let b <-qu P md f c
   let r <-fn.results.toList.mapM (Gu P)
   pure {ntmps:=fn.ntmps,BA:=fn.params.size+fn.nfree,body:=b,res:=r}
  |none=>none
 |none=>none
theorem cfM {P:Program} (md:List (Nat×Nat)) {f:Nat} {v:Dl} (_:V9 P md f=some v:=by(conv=>lhs;cbv)<;>exact rfl) (h:sb P f md=some v:=by kernel_rfl):sb P f md=some v:=h
theorem fR {P:Program} {f:Nat} {v:Dl} (_:V9 P [] f=some v:=by(conv=>lhs;cbv)<;>exact rfl) (h:FZ P f=some v:=by kernel_rfl):FZ P f=some v:=h
end Go.Proofs.YtiabgllilcfheaaGreat.V
