/- One operation, calls among them. -/
import Derived.Test.YtgoelphibofcmaaGreatRvA
import Derived.Orders
import Derived.Conc.LoneCalls
import Derived.WalkKit
import Derived.WalkSpells
import Derived.WalkLawsBesides
import Derived.Lib.Hide
import Derived.Deep.QuietTactic
import Derived.BigQuiet
import Derived.StillTailTactics
import Derived.Deep.RegionWith
import Derived.Deep.RegionHeld3
import Derived.Deep.LoopGhost
import Derived.Deep.CutRange
import Derived.Deep.DeepCutAuto
import Derived.Test.YtgoelphibofcmaaGreatChecked
set_option linter.unusedVariables false
set_option linter.unusedSimpArgs false
set_option maxRecDepth 100000
set_option maxHeartbeats 16000000
namespace Go.Proofs.YtgoelphibofcmaaGreat.V
open Go.RowKit
variable {P:Program} {w w':World} {D D' D2:Nat->Prop} {ι ι' ι2:Names}
def Sound (P:Program):fG:=fun f args σ K=>∀(hs:Nat) (D:Nat->Prop) (ι:Names) (w:World) (vs:Array Value),gz P hs D ι σ.get w->Used ι σ.next (fun _=>False)->fh P w D ι args vs->
 Calls P f vs w fun e w'=>∃r g' n' D' ι' u,e=.returned u/\K r ⟨g',n'⟩/\Step hs D ι w D' ι' w'/\gz P hs D' ι' g' w'/\Used ι' n' (fun _=>False)/\σ.next<=n'/\dc P w' D' ι' r u
section
variable {g:Rows} {hs:Nat} {env:Env} {a:Act} {o:Oper} {id:Id} {v:AV}
theorem gz.ro (S:gz P hs D ι g w):gz P w.heap.size D ι (ro g) w:=by
 refine⟨Nat.le_refl _,S.dead,fun id r h=>?_,fun id kR r r' B B' h h' hw=>?_⟩
 ·unfold V.ro at h
  simp only[Option.map_eq_some_iff]at h
  obtain⟨r0,h0,rfl⟩:=h
  obtain⟨B,hB,R,_,_⟩:=S.row id r0 h0
  exact⟨B,hB,R.flag false,fun h=>by simp at h,fun h=>by simp at h⟩
 ·unfold V.ro at h
  simp only[Option.map_eq_some_iff]at h
  obtain⟨r0,h0,rfl⟩:=h
  simp at hw
theorem AI {g0:Rows} {f:Nat} {args:List AV} {n:Nat} {K:AV->Prop} {vs:Array Value} (h:PC (Sound P) f args ⟨g0,n⟩ K) (qI:∀id r,g0 id=some r->g id=some r) (S:gz P hs D ι g w) (U:Used ι n (fun _=>False)) (A:fh P w D ι args vs):
  Calls P f vs w fun e w'=>∃r D' u,e=.returned u/\K r/\Step hs D ι w D' ι w'/\gz P hs D' ι g w'/\dc P w' D' ι r u:=by
 refine(h w.heap.size D ι w vs (S.sub qI).ro U A).mono ?_
 rintro e w' ⟨r0,g',n',D1,ι1,u,rfl,⟨r,hr,hK⟩,T,S1,_,_,hR⟩
 have hb:∀b,b<w.heap.size->w'.heap[b]? =w.heap[b]? :=T.below.block
 have hz:=T.below.size
 have q:=rP (D2:=fun b=>D b∨(w.heap.size<=b/\b<w'.heap.size)) (ι2:=ι) (fun b hd=>by
  rcases T.new b hd with h|h
  ·exact .inl h
  ·exact .inr ⟨h,S1.dead b hd⟩) (fun id row hg hw=>by
  obtain⟨B,hB,R,h1,_⟩:=S1.row id row hg
  exact⟨B,hB,R,.inr ⟨h1 hw,R.lt⟩⟩) 6 r0 u r hR hr
 refine⟨r,_,u,rfl,hK,?_,?_,q.1⟩
 ·exact Step.stay S hb hz T.below.os T.below.tape T.below.output (fun _ h=>.inl h) (fun b h=>by rcases h with h|h;exact .inl h;exact .inr h.1) (fun _ _ h=>h)
 ·exact S.stay hb hz (fun _ h=>.inl h) (fun b h=>by rcases h with h|h;exact Nat.lt_of_lt_of_le (S.dead b h) hz;exact h.2) (fun b h=>by rcases h with h|h;exact .inl h;exact .inr h.1) (fun _ _ h=>h)
theorem xR {g0:Rows} {f:Nat} {args:List AV} {n:Nat} {K:AV->Prop} {vs:Array Value} (h:PCv (Sound P) f args ⟨g0,n⟩ K) (qI:∀id r,g0 id=some r->g id=some r) (S:gz P hs D ι g w) (U:Used ι n (fun _=>False)) (A:fh P w D ι args vs):
  Calls P f vs w fun e w'=>∃r D' u,e=.returned u/\K r/\Step hs D ι w D' ι w'/\gz P hs D' ι g w'/\dc P w' D' ι r u:=by
 obtain⟨er,ha,h⟩:=h
 let D1:Nat->Prop:=fun b=>D b∨∃id r B,g id=some r/\ι id=some B/\b=B.b
 have lt:∀id r B,g id=some r->ι id=some B->B.b<w.heap.size:=fun id r B h1 h2=>by
  obtain⟨B',dD,R,_⟩:=S.row id r h1
  rw[h2]at dD;injection dD with dD;subst dD
  exact R.lt
 have S0:gz P w.heap.size D1 ι (fun _=>none) w:=⟨Nat.le_refl _,fun b hb=>by
  rcases hb with hb|⟨id,r,B,h1,h2,rfl⟩
  ·exact S.dead b hb
  ·exact lt id r B h1 h2,fun id r h=>(by cases h),fun id kR r r' B B' h=>(by cases h)⟩
 obtain⟨l1,l2⟩:=gD ha
 have A':fh P w D1 ι er vs:=⟨by rw[A.1,l1],fun j a hj=>by
  obtain⟨a0,ll,hf⟩:=l2 j a hj
  obtain⟨u,hu,hr⟩:=A.2 j a0 ll
  refine⟨u,hu,(rP (D2:=D1) (ι2:=ι) (fun b h=>.inl h) (fun id row hg hw=>?_) 6 a0 u a hr hf).1⟩
  unfold dF at hg
  simp only[Option.map_eq_some_iff]at hg
  obtain⟨r,nW,rfl⟩:=hg
  obtain⟨B,hB,R,_,_⟩:=S.row id r (qI id r nW)
  exact⟨B,hB,R.flag true,.inr ⟨id,r,B,qI id r nW,hB,rfl⟩⟩⟩
 refine(h w.heap.size D1 ι w vs S0 U A').mono ?_
 rintro e w' ⟨r0,g',n',D2,ι1,u,rfl,⟨r,hr,hK⟩,T,S1,_,_,hR⟩
 have hb:∀b,b<w.heap.size->w'.heap[b]? =w.heap[b]? :=T.below.block
 have hz:=T.below.size
 have q:=Gu (D2:=fun b=>D b∨(w.heap.size<=b/\b<w'.heap.size)) (ι2:=ι) (fun id row hg hw=>by
  obtain⟨B,hB,R,h1,_⟩:=S1.row id row hg
  exact⟨B,hB,R,.inr ⟨h1 hw,R.lt⟩⟩) 6 r0 u r hR hr
 refine⟨r,_,u,rfl,hK,?_,?_,q.1⟩
 ·exact Step.stay S hb hz T.below.os T.below.tape T.below.output (fun _ h=>.inl h) (fun b h=>by rcases h with h|h;exact .inl h;exact .inr h.1) (fun _ _ h=>h)
 ·exact S.stay hb hz (fun _ h=>.inl h) (fun b h=>by rcases h with h|h;exact Nat.lt_of_lt_of_le (S.dead b h) hz;exact h.2) (fun b h=>by rcases h with h|h;exact .inl h;exact .inr h.1) (fun _ _ h=>h)
theorem F2 {g0:Rows} {f:Nat} {args:List AV} {n:Nat} {K:AV->Prop} {vs:Array Value} (h:gq (Sound P) f args ⟨g0,n⟩ K) (qI:∀id r,g0 id=some r->g id=some r) (S:gz P hs D ι g w) (U:Used ι n (fun _=>False)) (A:fh P w D ι args vs):
  Calls P f vs w fun e w'=>∃r D' u,e=.returned u/\K r/\Step hs D ι w D' ι w'/\gz P hs D' ι g w'/\dc P w' D' ι r u:=by
 rcases h with h|h
 ·exact AI h qI S U A
 ·exact xR h qI S U A
theorem Hd {D1 D2:Nat->Prop} {ι1 ι2:Names} {w1:World} {a:AV} {v:Value} (hp:a.plain=true) (h:dc P w D1 ι1 a v):dc P w1 D2 ι2 a v:=by
 cases h with
 |eP a v h=>cases h<;>first|(simp[AV.plain]at hp;done)|exact .eP _ _ (by constructor)
 |_=>simp[AV.plain]at hp
theorem gz.add {r:Row} {B:sK} (S:gz P hs D ι g w) (S':gz P hs D ι g w') (hf:ι id=none) (j5:w.heap.size<=B.b) (R:ia P w' D (kh ι id B) B r):gz P hs D (kh ι id B) (bF g id r) w':=by
 have lt:∀kR r' B',g kR=some r'->ι kR=some B'->B'.b<w.heap.size:=fun kR r' B' h1 h2=>by
  obtain⟨B2,pR,R2,_⟩:=S.row kR r' h1
  rw[h2]at pR;injection pR with pR;subst pR
  exact R2.lt
 have ne:∀kR r',g kR=some r'->kR≠id:=fun kR r' h he=>by
  subst he
  obtain⟨B2,pR,_⟩:=S.row _ r' h
  rw[hf]at pR;cases pR
 refine⟨S'.lo,S'.dead,fun kR r' h=>?_,fun RV id2 r1 r2 B1 B2 h1 h2 hw Aw pR hb=>?_⟩
 ·unfold bF at h
  split at h
  ·rename_i he
   subst he
   injection h with h;subst h
   exact⟨B,ev _ _ _,R,fun _=>Nat.le_trans S.lo j5,fun _ hd=>Nat.lt_irrefl _ (Nat.lt_of_lt_of_le (S.dead _ hd) j5)⟩
  ·obtain⟨B',dD,R',k1,k2⟩:=S'.row kR r' h
   exact⟨B',by rw[gp (ne _ _ h)];exact dD,R'.frame rfl (fun a v hr=>hr.frame (fun _ _=>rfl) (fun _ h=>h) (fW hf)),k1,k2⟩
 ·unfold bF at h1 h2
  split at h1
  ·rename_i e1
   split at h2
   ·rename_i e2;rw[e1,e2]
   ·exfalso
    subst e1
    rw[ev]at Aw;injection Aw with Aw;subst Aw
    rw[gp (ne _ _ h2)]at pR
    have:=lt _ _ _ h2 pR
    omega
  ·rw[gp (ne _ _ h1)]at Aw
   split at h2
   ·rename_i e2
    exfalso
    subst e2
    rw[ev]at pR;injection pR with pR;subst pR
    have:=lt _ _ _ h1 Aw
    omega
   ·rw[gp (ne _ _ h2)]at pR
    exact S'.inj RV id2 r1 r2 B1 B2 h1 h2 hw Aw pR hb
theorem HQ {g0:Rows} {f:Nat} {args:List AV} {n sz:Nat} {rows:List (List AV)} {vs:Array Value} (h:CM (Sound P) f args ⟨g0,n⟩ sz rows) (qI:∀id r,g0 id=some r->g id=some r) (S:gz P hs D ι g w) (U:Used ι n (fun _=>False)) (A:fh P w D ι args vs) (hf:ι id=none):
  Calls P f vs w fun e w'=>∃u B,e=.returned u/\Step hs D ι w D (kh ι id B) w'/\gz P hs D (kh ι id B) (bF g id ⟨true,sz,rows⟩) w'/\dc P w' D (kh ι id B) (.own id 0 rows.length) u:=by
 obtain⟨mE,er,ha,h⟩:=h
 let D1:Nat->Prop:=fun b=>D b∨∃id r B,g id=some r/\ι id=some B/\b=B.b
 have lt:∀id r B,g id=some r->ι id=some B->B.b<w.heap.size:=fun id r B h1 h2=>by
  obtain⟨B',dD,R,_⟩:=S.row id r h1
  rw[h2]at dD;injection dD with dD;subst dD
  exact R.lt
 have S0:gz P w.heap.size D1 ι (fun _=>none) w:=⟨Nat.le_refl _,fun b hb=>by
  rcases hb with hb|⟨id,r,B,h1,h2,rfl⟩
  ·exact S.dead b hb
  ·exact lt id r B h1 h2,fun id r h=>(by cases h),fun id kR r r' B B' h=>(by cases h)⟩
 obtain⟨l1,l2⟩:=gD ha
 have A':fh P w D1 ι er vs:=⟨by rw[A.1,l1],fun j a hj=>by
  obtain⟨a0,ll,hz⟩:=l2 j a hj
  obtain⟨u,hu,hr⟩:=A.2 j a0 ll
  refine⟨u,hu,(rP (D2:=D1) (ι2:=ι) (fun b h=>.inl h) (fun id row hg hw=>?_) 6 a0 u a hr hz).1⟩
  unfold dF at hg
  simp only[Option.map_eq_some_iff]at hg
  obtain⟨r,nW,rfl⟩:=hg
  obtain⟨B,hB,R,_,_⟩:=S.row id r (qI id r nW)
  exact⟨B,hB,R.flag true,.inr ⟨id,r,B,qI id r nW,hB,rfl⟩⟩⟩
 refine(h w.heap.size D1 ι w vs S0 U A').mono ?_
 rintro e w' ⟨r0,g',n',D2,ι1,u,rfl,⟨i0,hr,hg⟩,T,S1,_,_,hR⟩
 subst hr
 have hb:∀b,b<w.heap.size->w'.heap[b]? =w.heap[b]? :=T.below.block
 have hz:=T.below.size
 obtain⟨B,hB,R,k1,_⟩:=S1.row i0 _ hg
 have j5:w.heap.size<=B.b:=k1 rfl
 obtain⟨o,cap,B',rfl,dD,q2,q3,q4,q5,hk⟩:=iT hR
 rw[hB]at dD;injection dD with dD;subst dD
 replace R:=R.row hk
 have S':gz P hs D ι g w':=S.stay hb hz (fun _ h=>h) (fun b h=>Nat.lt_of_lt_of_le (S.dead b h) hz) (fun b h=>.inl h) (fun _ _ h=>h)
 have R':kM P w' D (kh ι id B) B ⟨true,sz,rows⟩:=⟨R.sz,R.xV,R.fits,R.len,R.flat,fun i j cs a hi hj=>by
  obtain⟨v,h1,h2⟩:=R.at_ i j cs a hi hj
  exact⟨v,h1,Hd (mE cs (List.mem_of_getElem? hi) a (List.mem_of_getElem? hj)) h2⟩⟩
 exact⟨_,B,rfl,Step.stay S hb hz T.below.os T.below.tape T.below.output (fun _ h=>h) (fun _ h=>.inl h) (fW hf),S.add S' hf j5 (R'.obj hk),.own id 0 _ _ _ B (ev _ _ _) hk q2 q3 q4 q5⟩
theorem jx {f:Nat} {args:Array Value} (hc:fQ P f=true):(callFunc f args).run P w=.ok (.enter f args) w:=by
 unfold fQ at hc
 split at hc
 ·rename_i fn hf
  simp only[Bool.and_eq_true,Bool.not_eq_true']at hc
  have hb:fn.body.isNone=false:=by cases hq:fn.body<;>simp_all
  simp only[callFunc,Sem.run_bind,run_program,Result.andThen_ok,hf,hc.2,Bool.false_eq_true,if_false,hb]
  rfl
 ·simp at hc
theorem BQ {f:Nat} {args:List O} (hc:rf P o.op=some (.call f args)):∃c,o.op=.call c/\c.callee=.value (.func f)/\fQ P f=true/\c.args.toList.mapM (cO P)=some args:=by
 unfold rf at hc
 split at hc
 case h_23=>
  rename_i c ho
  refine⟨c,ho,?_⟩
  unfold nC at hc
  split at hc
  all_goals (try(repeat' (split at hc))<;>(simp only[Option.bind_eq_bind,Option.bind_eq_some_iff,Option.pure_def,Option.some.injEq,Option.map_eq_some_iff,reduceCtorEq,and_false,exists_false]at hc))
  all_goals simp_all
 all_goals (try unfold vh at hc)<;>(try unfold sP at hc)<;>(repeat' (split at hc))<;>(simp only[Option.bind_eq_bind,Option.bind_eq_some_iff,Option.pure_def,Option.some.injEq,Option.map_eq_some_iff,reduceCtorEq,and_false,exists_false]at hc)
theorem s7 {x:O} {args:List O} (hc:rf P o.op=some (.tC x args)):∃c t,o.op=.call c/\c.callee=.value (.tmp t)/\x=.t t/\c.args.toList.mapM (cO P)=some args:=by
 unfold rf at hc
 split at hc
 case h_23=>
  rename_i c ho
  refine⟨c,?_⟩
  unfold nC at hc
  split at hc
  all_goals (try(repeat' (split at hc))<;>(simp only[Option.bind_eq_bind,Option.bind_eq_some_iff,Option.pure_def,Option.some.injEq,Option.map_eq_some_iff,reduceCtorEq,and_false,exists_false]at hc))
  all_goals simp_all
 all_goals (try unfold vh at hc)<;>(try unfold sP at hc)<;>(repeat' (split at hc))<;>(simp only[Option.bind_eq_bind,Option.bind_eq_some_iff,Option.pure_def,Option.some.injEq,Option.map_eq_some_iff,reduceCtorEq,and_false,exists_false]at hc)
theorem GL {n:Nat} {x y:O} (hc:rf P o.op=some (.store n x y)):∃t x' y',o.op=.store t x' y'/\ei P t=some n/\cO P x'=some x/\cO P y'=some y:=by
 unfold rf at hc
 split at hc
 case h_7=>
  rename_i t x' y' ho
  refine⟨t,x',y',ho,?_⟩
  simp only[Option.bind_eq_bind,Option.bind_eq_some_iff,Option.pure_def,Option.some.injEq]at hc
  obtain⟨n',h1,x2,h2,y2,h3,he⟩:=hc
  injection he with e1 e2 e3
  subst e1;subst e2;subst e3
  exact⟨h1,h2,h3⟩
 all_goals (try unfold vh at hc)<;>(try unfold sP at hc)<;>(try unfold nC at hc)<;>(repeat' (split at hc))<;>(simp only[Option.bind_eq_bind,Option.bind_eq_some_iff,Option.pure_def,Option.some.injEq,Option.map_eq_some_iff,reduceCtorEq,and_false,exists_false]at hc)
theorem DZ {n:Nat} {x y:O} (hc:rf P o.op=some (.append n x y)):∃(t e:TypeId) (m:Nat) (z:List K) (i:TypeInfo) (x' y':Operand),n=m+1/\o.op=.call {callee:=.builtin .append,args:= #[x',y'],argTypes:= #[t,t]}/\
  P.underlying t=some (.slice e)/\ei P e=some (m+1)/\jF P e=some z/\P.info? e=some i/\i.bytes<=32768/\cO P x'=some x/\cO P y'=some y:=by
 unfold rf at hc
 split at hc
 case h_23=>
  rename_i c ho
  unfold nC at hc
  split at hc
  case h_2=>
   rename_i kq
   split at hc
   ·rename_i x' y' t u h1 h2
    split at hc
    ·rename_i e ht
     split at hc
     ·rename_i m z i e1 e2 e3
      split at hc
      ·rename_i hb
       simp only[Option.bind_eq_bind,Option.bind_eq_some_iff,Option.pure_def,Option.some.injEq]at hc
       obtain⟨x2,h3,y2,h4,he⟩:=hc
       injection he with k1 k2 k3
       subst k1;subst k2;subst k3
       obtain⟨HJ,rfl⟩:=hb
       refine⟨t,e,m,z,i,x',y',rfl,?_,ht,e1,e2,e3,HJ,h3,h4⟩
       rw[ho]
       obtain⟨ca,cb,cc⟩:=c
       simp only at h1 h2 kq
       subst kq
       congr
       ·exact Array.ext' h1
       ·exact Array.ext' h2
      ·simp at hc
     ·simp at hc
    ·simp at hc
   ·simp at hc
  all_goals (repeat' (split at hc))<;>(simp only[Option.bind_eq_bind,Option.bind_eq_some_iff,Option.pure_def,Option.some.injEq,Option.map_eq_some_iff,reduceCtorEq,and_false,exists_false]at hc)
 all_goals (try unfold vh at hc)<;>(try unfold sP at hc)<;>(repeat' (split at hc))<;>(simp only[Option.bind_eq_bind,Option.bind_eq_some_iff,Option.pure_def,Option.some.injEq,Option.map_eq_some_iff,reduceCtorEq,and_false,exists_false]at hc)
theorem Jf {n:Nat} {x y:O} (hc:rf P o.op=some (.copy n x y)):∃(t t2 e:TypeId) (m:Nat) (x' y':Operand),n=m+1/\o.op=.call {callee:=.builtin .copy,args:= #[x',y'],argTypes:= #[t,t2]}/\
  P.underlying t=some (.slice e)/\ei P e=some (m+1)/\cO P x'=some x/\cO P y'=some y:=by
 unfold rf at hc
 split at hc
 case h_23=>
  rename_i c ho
  unfold nC at hc
  split at hc
  case h_7=>
   rename_i kq
   split at hc
   ·rename_i x' y' t t2 h1 h2
    split at hc
    ·rename_i e ht
     split at hc
     ·rename_i m e1
      simp only[Option.bind_eq_bind,Option.bind_eq_some_iff,Option.pure_def,Option.some.injEq,gC.copy.injEq]at hc
      obtain⟨x2,h3,y2,h4,k0,k1,k2⟩:=hc
      subst k1;subst k2
      refine⟨t,t2,e,m,x',y',k0.symm,?_,ht,e1,h3,h4⟩
      rw[ho]
      obtain⟨ca,cb,cc⟩:=c
      simp only at h1 h2 kq
      subst kq
      congr
      ·exact Array.ext' h1
      ·exact Array.ext' h2
     ·simp at hc
    ·simp at hc
   ·simp at hc
  all_goals (repeat' (split at hc))<;>(simp only[Option.bind_eq_bind,Option.bind_eq_some_iff,Option.pure_def,Option.some.injEq,Option.map_eq_some_iff,reduceCtorEq,and_false,exists_false]at hc)
 all_goals (try unfold vh at hc)<;>(try unfold sP at hc)<;>(repeat' (split at hc))<;>(simp only[Option.bind_eq_bind,Option.bind_eq_some_iff,Option.pure_def,Option.some.injEq,Option.map_eq_some_iff,reduceCtorEq,and_false,exists_false]at hc)
theorem GK {z:List K} {x:O} (hc:rf P o.op=some (.clear z x)):∃(t e:TypeId) (m:Nat) (x':Operand),o.op=.call {callee:=.builtin .clear,args:= #[x'],argTypes:= #[t]}/\
  P.underlying t=some (.slice e)/\ei P e=some (m+1)/\jF P e=some z/\cO P x'=some x:=by
 unfold rf at hc
 split at hc
 case h_23=>
  rename_i c ho
  unfold nC at hc
  split at hc
  case h_3=>
   rename_i kq
   split at hc
   ·rename_i x' t h1 h2
    split at hc
    ·rename_i e ht
     split at hc
     ·rename_i m z' e1 e2
      simp only[Option.map_eq_some_iff]at hc
      obtain⟨x2,h3,he⟩:=hc
      injection he with k1 k2
      subst k1;subst k2
      refine⟨t,e,m,x',?_,ht,e1,e2,h3⟩
      rw[ho]
      obtain⟨ca,cb,cc⟩:=c
      simp only at h1 h2 kq
      subst kq
      congr
      ·exact Array.ext' h1
      ·exact Array.ext' h2
     ·simp at hc
    ·simp at hc
   ·simp at hc
  all_goals (repeat' (split at hc))<;>(simp only[Option.bind_eq_bind,Option.bind_eq_some_iff,Option.pure_def,Option.some.injEq,Option.map_eq_some_iff,reduceCtorEq,and_false,exists_false]at hc)
 all_goals (try unfold vh at hc)<;>(try unfold sP at hc)<;>(repeat' (split at hc))<;>(simp only[Option.bind_eq_bind,Option.bind_eq_some_iff,Option.pure_def,Option.some.injEq,Option.map_eq_some_iff,reduceCtorEq,and_false,exists_false]at hc)
theorem Pa {q:MW} {xs:List O} (hc:rf P o.op=some (.mw q xs)):
  (∃t x k y m z x' k' y',(o.op=.mapUpdate t x k y∨o.op=.insert t x k y)/\sQ P t=some (m,z)/\cO P x=some x'/\cO P k=some k'/\cO P y=some y'/\q=.set m/\xs=[x',k',y'])∨
  (∃t t' x k m z x' k',o.op=.call {callee:=.builtin .delete,args:= #[x,k],argTypes:= #[t,t']}/\sQ P t=some (m,z)/\cO P x=some x'/\cO P k=some k'/\q=.del m/\xs=[x',k']):=by
 unfold rf at hc
 split at hc
 case h_23=>
  rename_i c ho
  right
  unfold nC at hc
  split at hc
  case h_6=>
   rename_i kq
   split at hc
   ·rename_i x k t t' h1 h2
    split at hc
    ·rename_i m z x' k' e1 e2 e3
     injection hc with hc
     injection hc with q1 q2
     refine⟨t,t',x,k,m,z,x',k',?_,e1,e2,e3,q1.symm,q2.symm⟩
     rw[ho]
     obtain⟨ca,cb,cc⟩:=c
     simp only at h1 h2 kq
     subst kq
     congr
     ·exact Array.ext' h1
     ·exact Array.ext' h2
    ·cases hc
   ·cases hc
  all_goals (repeat' (split at hc))<;>(simp only[Option.bind_eq_bind,Option.bind_eq_some_iff,Option.pure_def,Option.some.injEq,Option.map_eq_some_iff,reduceCtorEq,and_false,exists_false]at hc)
 case h_29=>
  rename_i t x k y ho
  left
  split at hc
  ·rename_i m z x' k' y' e1 e2 e3 e4
   injection hc with hc
   injection hc with q1 q2
   exact⟨t,x,k,y,m,z,x',k',y',.inl ho,e1,e2,e3,e4,q1.symm,q2.symm⟩
  ·cases hc
 case h_30=>
  rename_i t x k y ho
  left
  split at hc
  ·rename_i m z x' k' y' e1 e2 e3 e4
   injection hc with hc
   injection hc with q1 q2
   exact⟨t,x,k,y,m,z,x',k',y',.inr ho,e1,e2,e3,e4,q1.symm,q2.symm⟩
  ·cases hc
 all_goals (try unfold vh at hc)<;>(try unfold sP at hc)<;>(repeat' (split at hc))<;>(simp only[Option.bind_eq_bind,Option.bind_eq_some_iff,Option.pure_def,Option.some.injEq,Option.map_eq_some_iff,reduceCtorEq,and_false,exists_false]at hc)
def jl (g:Rows) (id:Id):Option Row->Rows
 |some r=>bF g id r
 |none=>g
def vp (X:fG) (hid:List Nat) (site n:Nat) (f:Nat) (args:List AV) (g:Rows) (v:AV) (g':Rows):Prop:=
 (gq X f args ⟨fZ hid n g,n+1⟩ (fun r=>r=v)/\g'=g)∨
 (hid.contains site=true/\∃sz rows,CM X f args ⟨fZ hid n g,n+1⟩ sz rows/\v=.own ⟨site,n⟩ 0 rows.length/\g'=bF g ⟨site,n⟩ ⟨true,sz,rows⟩)
def VS (X:fG) (n:Nat) (vo:bq) (env:Env) (g:Rows) (v:AV) (g':Rows):Prop:=
 match vo.op with
 | .call f args=>vp X vo.hid vo.site n f (args.map (da env)) g v g'
 | .tC x args=>∃f l,vn (da env x) (args.map (da env))=some (f,l)/\vp X vo.hid vo.site n f l g v g'
 | .store .. | .append .. | .copy .. | .clear .. | .mw .. =>ga vo.op (da env) g ⟨vo.site,n⟩=some (v,g')
 |_=>∃mr,eK vo.op (da env) (fZ vo.hid n g) ⟨vo.site,n⟩=some (v,mr)/\g'=jl g ⟨vo.site,n⟩ mr
def MZ (P:Program) (hs:Nat) (D:Nat->Prop) (ι:Names) (w:World) (U:Nat->Prop) (site n:Nat) (a:Act) (dst:Option Tmp) (v:AV) (g':Rows) (a':Act) (w':World):Prop:=
 ∃u D' ι',a'=a.put dst u/\Step hs D ι w D' ι' w'/\gz P hs D' ι' g' w'/\dc P w' D' ι' v u/\Used ι' n (fun s=>U s∨s=site)
theorem fresh {n:Nat} {U:Nat->Prop} {s:Nat} (h:Used ι n U) (hU:¬U s):ι ⟨s,n⟩=none:=by
 cases hq:ι ⟨s,n⟩with
 |none=>rfl
 |some B=>
  rcases h ⟨s,n⟩ (by rw[hq];simp)with h|⟨_,h⟩
  ·exact absurd h (Nat.lt_irrefl _)
  ·exact absurd h hU
theorem Used.more {n:Nat} {U U':Nat->Prop} (h:Used ι n U) (hU:∀s,U s->U' s):Used ι n U':=fun id hid=>by
 rcases h id hid with h|⟨h1,h2⟩
 ·exact .inl h
 ·exact .inr ⟨h1,hU _ h2⟩
theorem Used.next {n:Nat} {U:Nat->Prop} (h:Used ι n U):Used ι (n+1) (fun _=>False):=fun id hid=>by
 rcases h id hid with h|⟨h1,_⟩
 ·exact .inl (Nat.lt_succ_of_lt h)
 ·exact .inl (by omega)
theorem Used.upd {n:Nat} {U:Nat->Prop} {s:Nat} {B:sK} (h:Used ι n U):Used (kh ι ⟨s,n⟩ B) n (fun x=>U x∨x=s):=fun id hid=>by
 by_cases he:id=⟨s,n⟩
 ·subst he;exact .inr ⟨rfl,.inr rfl⟩
 ·rw[gp he]at hid
  exact(h.more (U':=fun x=>U x∨x=s) fun _ h=>Or.inl h) id hid
theorem ot {xs:Array Operand} {ys:List O} (E:cm P w D ι env a) (h:xs.toList.mapM (cO P)=some ys):fh P w D ι (ys.map (da env)) (xs.map a.eval):=by
 obtain⟨h1,h2⟩:=El E h
 refine⟨by simpa using h1,fun j b hj=>?_⟩
 simp only[List.getElem?_map,Option.map_eq_some_iff]at hj
 obtain⟨y,hy,rfl⟩:=hj
 have dR:j<xs.size:=by have:=(List.getElem?_eq_some_iff.1 hy).1;simp at h1;omega
 refine⟨a.eval xs[j],by simp[dR],?_⟩
 have:=h2 j y hy
 simpa[List.getD_eq_getElem?_getD,dR]using this
theorem oZ {xs ys:List AV} {vs us:Array Value} (h:fh P w D ι xs vs) (k:fh P w D ι ys us):fh P w D ι (xs++ys) (vs++us):=
 ⟨by simp[h.1,k.1],fun j b hj=>by
  by_cases dR:j<xs.length
  ·rw[List.getElem?_append_left dR]at hj
   obtain⟨u,hu,xF⟩:=h.2 j b hj
   exact⟨u,by rw[Array.getElem?_append_left (by rw[h.1];exact dR)];exact hu,xF⟩
  ·rw[List.getElem?_append_right (by omega)]at hj
   obtain⟨u,hu,xF⟩:=k.2 _ b hj
   exact⟨u,by rw[Array.getElem?_append_right (by rw[h.1];omega),h.1];exact hu,xF⟩⟩
theorem wM:fh P w D ι [] #[]:=⟨rfl,fun j b hj=>by simp at hj⟩
theorem vu {x:AV} {l l':List AV} {f:Nat} {vs:Array Value} {v:Value} (h:vn x l=some (f,l')) (hr:dc P w D ι x v) (hA:fh P w D ι l vs):
  ∃first cZ,v=.func (.func f) first cZ/\fQ P f=true/\fh P w D ι l' (first++vs++cZ):=by
 unfold vn at h
 split at h
 ·simp only[Option.some.injEq,Prod.mk.injEq]at h
  obtain⟨rfl,rfl⟩:=h
  obtain⟨us,q,he,Fs,n1,q1,q2⟩:=wO hr
  refine⟨#[],us,he,Fs,?_⟩
  rw[Array.empty_append]
  exact oZ hA ⟨n1,fun j b hj=>⟨q j,q1 j (List.getElem?_eq_some_iff.1 hj).1,q2 j b hj⟩⟩
 ·simp only[Option.some.injEq,Prod.mk.injEq]at h
  obtain⟨rfl,rfl⟩:=h
  obtain⟨us,q,he,Fs,n1,q1,q2⟩:=My hr
  refine⟨us, #[],he,Fs,?_⟩
  rw[Array.append_empty]
  exact oZ ⟨n1,fun j b hj=>⟨q j,q1 j (List.getElem?_eq_some_iff.1 hj).1,q2 j b hj⟩⟩ hA
 ·cases h
theorem AL {n:Nat} {vo:bq} {g':Rows} {U:Nat->Prop} {Q:Exit->Act->World->Prop} {K:Act->World->Prop} (hc:rf P o.op=some vo.op) (hv:VS (Sound P) n vo env g v g') (S:gz P hs D ι g w) (Us:Used ι n U) (hU:¬U vo.site) (E:cm P w D ι env a)
  (hK:∀a' w',MZ P hs D ι w U vo.site n a o.dst v g' a' w'->K a' w'):o.wp P a w K Q:=by
 have hf:=fresh Us hU
 have AW:∀(f:Nat) (args:List AV) (vs:Array Value),vp (Sound P) vo.hid vo.site n f args g v g'->fh P w D ι args vs->(execOp a.eval o).run P w=.ok (.enter f vs) w->o.wp P a w K Q:=by
  intro f args vs hP hA gE
  unfold Oper.wp
  rw[gE]
  rcases hP with⟨hP,rfl⟩|⟨_,sz,rows,hM,rfl,rfl⟩
  ·refine(F2 hP An S Us.next hA).mono ?_
   rintro e w' ⟨r,D',u,rfl,rfl,T,S',hR⟩
   exact hK _ _ ⟨u,D',ι,rfl,T,S',hR,Us.more fun _ h=>.inl h⟩
  ·refine(HQ hM An S Us.next hA hf).mono ?_
   rintro e w' ⟨u,B,rfl,T,S',hR⟩
   exact hK _ _ ⟨u,D,_,rfl,T,S',hR,Us.upd⟩
 have quiet:∀(mr:Option Row),eK vo.op (da env) (fZ vo.hid n g) ⟨vo.site,n⟩=some (v,mr)->g'=jl g ⟨vo.site,n⟩ mr->o.wp P a w K Q:=by
  intro mr hq hg
  have Tk:=yQ hc hq (S.sub An) E
  unfold Oper.wp
  cases mr with
  |none=>
   obtain⟨u,gE,hR⟩:=Tk
   rw[gE]
   subst hg
   exact hK _ _ ⟨u,D,ι,rfl,Step.refl _ _ _ _,S,hR,Us.more fun _ h=>.inl h⟩
  |some r=>
   rcases Tk with⟨u,cells,T,gE,h1,h2,h3,h4,h5,h6⟩|⟨m,gE,LN,AA⟩|⟨c,gE,LN,AA⟩
   case inr.inr=>
    rw[gE]
    subst hg LN AA
    have fa:w.heap.size<(w.alloc (.chan c #[] false 0 0 false)).heap.size:=by simp
    have S':=S.stay (w':=w.alloc (.chan c #[] false 0 0 false)) (D':=D) (ι':=ι) (fun k hk=>Below.heap_alloc _ _ _ hk) (by simp) (fun _ h=>h) (fun b hd=>Nat.lt_trans (S.dead b hd) fa) (fun _ h=>.inl h) (fun _ _ h=>h)
    have S1:=S.add S' (id:=⟨vo.site,n⟩) (B:=⟨w.heap.size,qx+c,0,some (.chan c)⟩) (r:=⟨true,qx+c,[]⟩) hf (Nat.le_refl _) ⟨rfl,fun cs h=>by simp at h,fun h=>by simp at h,fun m' h=>(by simp at h),fun c' h=>by
     simp only[Option.some.injEq,BK.chan.injEq]at h;subst h
     exact⟨rfl, #[],0,0,(show(w.heap.push (Obj.chan c #[] false 0 0 false))[w.heap.size]? =some (Obj.chan c #[] false 0 0 false) by simp),rfl,fun i cs h=>by simp at h⟩⟩
    exact hK _ _ ⟨_,D,_,rfl,Step.stay S (fun k hk=>Below.heap_alloc _ _ _ hk) (by simp) rfl rfl rfl (fun _ h=>h) (fun _ h=>.inl h) (fW hf),S1,.rK _ _ _ (ev _ _ _) rfl,Us.upd⟩
   case inr.inl=>
    rw[gE]
    subst hg LN AA
    have fa:w.heap.size<(w.alloc (.map #[] 0)).heap.size:=by simp
    have S':=S.stay (w':=w.alloc (.map #[] 0)) (D':=D) (ι':=ι) (fun k hk=>Below.heap_alloc _ _ _ hk) (by simp) (fun _ h=>h) (fun b hd=>Nat.lt_trans (S.dead b hd) fa) (fun _ h=>.inl h) (fun _ _ h=>h)
    have S1:=S.add S' (id:=⟨vo.site,n⟩) (B:=⟨w.heap.size,m.lT,0,some (.map m)⟩) (r:=⟨true,m.lT,[]⟩) hf (Nat.le_refl _) ⟨rfl,fun cs h=>by simp at h,fun h=>by simp at h,fun m' h=>by
     simp only[Option.some.injEq,BK.map.injEq]at h;subst h
     exact⟨rfl, #[],0,(show(w.heap.push (Obj.map #[] 0))[w.heap.size]? =some (Obj.map #[] 0) by simp),rfl,⟨fun cs h=>by simp at h,fun x h=>by simp at h,by simp⟩,fun i cs h=>by simp at h⟩,fun c h=>by simp at h⟩
    exact hK _ _ ⟨_,D,_,rfl,Step.stay S (fun k hk=>Below.heap_alloc _ _ _ hk) (by simp) rfl rfl rfl (fun _ h=>h) (fun _ h=>.inl h) (fW hf),S1,.map _ _ _ (ev _ _ _) rfl,Us.upd⟩
   rw[gE]
   subst hg
   have S1:=S.alloc (id:=⟨vo.site,n⟩) (w':=w.alloc (.cells cells T)) rfl hf h1 h2 h3 h4 h5
   refine hK _ _ ⟨u,D,_,rfl,Step.stay S (fun k hk=>Below.heap_alloc _ _ _ hk) (by simp) rfl rfl rfl (fun _ h=>h) (fun _ h=>.inl h) (fW hf),S1,(h6 (kh ι _ _) (ev _ _ _)).frame (fun b hd=>Below.heap_alloc _ _ _ (S.dead b hd)) (fun _ h=>h) (fun _ _ h=>h),Us.upd⟩
 have P9:ga vo.op (da env) g ⟨vo.site,n⟩=some (v,g')->(∀KR,CT P hs a o KR D ι ⟨vo.site,n⟩ v g'->KR=w->o.wp P a w K Q):=by
  intro _ KR hE he
  subst he
  obtain⟨u,w',ι',gE,T,S',hR,hι⟩:=hE
  have IL:MZ P hs D ι KR U vo.site n a o.dst v g' (a.put o.dst u) w':=⟨u,D,ι',rfl,T,S',hR,fun id hid=>by
   by_cases he:id=⟨vo.site,n⟩
   ·subst he;exact .inr ⟨rfl,.inr rfl⟩
   ·rw[hι id he]at hid
    exact(Us.more (U':=fun x=>U x∨x=vo.site) fun _ h=>Or.inl h) id hid⟩
  unfold Oper.wp
  rcases gE with gE|⟨gE,rfl⟩
  ·rw[gE];exact hK _ _ IL
  ·rw[gE];exact hK _ _ IL
 unfold VS at hv
 split at hv
 ·rename_i f args dK
  rw[dK]at hc
  obtain⟨c,ho,kq,Fs,nF⟩:=BQ hc
  refine AW f _ (c.args.map a.eval) hv (ot E nF) ?_
  simp only[execOp,ho,resolve,kq,Deferred.ofValue,Act.eval,Sem.run_bind,Sem.run_pure,Result.andThen_ok,invoke,Array.empty_append,Array.append_empty]
  exact jx Fs
 ·rename_i x args dK
  obtain⟨f,l,hx,hP⟩:=hv
  rw[dK]at hc
  obtain⟨c,t,ho,kq,rfl,nF⟩:=s7 hc
  obtain⟨first,cZ,he,Fs,hL⟩:=vu (v:=a.eval (.tmp t)) hx (E t) (ot E nF)
  refine AW f _ (first++c.args.map a.eval++cZ) hP hL ?_
  simp only[execOp,ho,resolve,kq,he,Deferred.ofValue,Sem.run_bind,Sem.run_pure,Result.andThen_ok,invoke]
  exact jx Fs
 ·rename_i m x y dK
  have kg:=hc
  rw[dK]at kg
  obtain⟨t,x',y',ho,h1,h2,h3⟩:=GL kg
  have nU:=hv
  rw[dK]at nU
  simp only[ga,Option.map_eq_some_iff,Prod.mk.injEq]at nU
  obtain⟨g1,Ay,rfl,rfl⟩:=nU
  exact P9 hv w (Ld S E ho h1 h2 h3 Ay) rfl
 ·rename_i m x y dK
  have kg:=hc
  rw[dK]at kg
  obtain⟨t,e,m',z,i,x',y',rfl,ho,h1,h2,h3,h4,h5,h6,h7⟩:=DZ kg
  have nU:=hv
  rw[dK]at nU
  simp only[ga,Option.bind_eq_some_iff]at nU
  obtain⟨ys,CO,nU⟩:=nU
  exact P9 hv w (Iu S E hf ho h1 h2 h3 h4 h5 h6 h7 CO nU) rfl
 ·rename_i m x y dK
  have kg:=hc
  rw[dK]at kg
  obtain⟨t,t2,e,m',x',y',rfl,ho,h1,h2,h3,h4⟩:=Jf kg
  have nU:=hv
  rw[dK]at nU
  simp only[ga,Option.bind_eq_some_iff]at nU
  obtain⟨ys,CO,nU⟩:=nU
  exact P9 hv w (N7 S E ho h1 h2 h3 h4 CO nU) rfl
 ·rename_i z x dK
  have kg:=hc
  rw[dK]at kg
  obtain⟨t,e,m',x',ho,h1,h2,h3,h4⟩:=GK kg
  have nU:=hv
  rw[dK]at nU
  simp only[ga,Option.map_eq_some_iff,Prod.mk.injEq]at nU
  obtain⟨g1,Ay,rfl,rfl⟩:=nU
  exact P9 hv w (Lc S E ho h1 h2 h3 h4 Ay) rfl
 ·rename_i q xs dK
  have kg:=hc
  rw[dK]at kg
  have nU:=hv
  rw[dK]at nU
  simp only[ga,Option.map_eq_some_iff,Prod.mk.injEq]at nU
  obtain⟨g1,Ay,rfl,rfl⟩:=nU
  rcases Pa kg with⟨t,x,k,y,m,z,x',k',y',ho,h1,h2,h3,h4,rfl,rfl⟩|⟨t,t',x,k,m,z,x',k',ho,h1,h2,h3,rfl,rfl⟩
  ·exact P9 hv w (N9 S E ho h1 h2 h3 h4 Ay) rfl
  ·exact P9 hv w (N8 S E ho h1 h2 h3 Ay) rfl
 ·obtain⟨mr,hq,hg⟩:=hv
  exact quiet mr hq hg
end
end Go.Proofs.YtgoelphibofcmaaGreat.V

namespace Go.Proofs.YtgoelphibofcmaaGreat.V
open Go.RowKit
variable {P:Program} {w w':World} {D D' D2:Nat->Prop} {ι ι' ι2:Names}
section
variable {g:Rows} {hs:Nat} {env:Env} {a:Act} {o:Oper} {id:Id} {v:AV}
theorem pe {ops:Array Oper} {nt site0 j:Nat} {draw mk:Bool} {bs:Array Nat} {hidden:List (Nat×Bool)} {vo:bq} (h:ma P ops nt site0 draw mk bs hidden j o=some vo):
  rf P o.op=some vo.op/\vo.dst=o.dst/\vo.site=site0+j/\(∀d,o.dst=some d->d<nt)/\(match o.guard with
   |none=>vo.guard=none
   |some (i,b)=>∃t,(ops[i]?).bind (·.dst)=some t/\vo.guard=some (t,b)):=by
 unfold ma at h
 simp only[Option.bind_eq_bind,Option.bind_eq_some_iff]at h
 obtain⟨v,hv,gd,hg,h⟩:=h
 split at h
 ·rename_i hd
  simp only[Option.pure_def,Option.some.injEq]at h
  subst h
  refine⟨hv,rfl,rfl,fun d SZ=>?_,?_⟩
  ·rw[SZ]at hd;simpa using hd
  ·unfold Da at hg
   cases um:o.guard with
   |none=>rw[um]at hg;simp at hg;exact hg.symm
   |some p=>
    obtain⟨i,b⟩:=p
    rw[um]at hg
    dsimp only at hg ⊢
    split at hg
    ·rename_i t ht
     simp at hg;exact⟨t,ht,hg.symm⟩
    ·simp at hg
 ·simp at h
theorem tt {ops:Array Oper} {vo:bq} (E:cm P w D ι env a) (hg:match o.guard with
   |none=>vo.guard=none
   |some (i,b)=>∃t,(ops[i]?).bind (·.dst)=some t/\vo.guard=some (t,b)):aH vo.guard env=Region.wanted o (yielded ops a.tmps):=by
 unfold Region.wanted
 cases um:o.guard with
 |none=>rw[um]at hg;simp only at hg;rw[hg];rfl
 |some p=>
  obtain⟨i,b⟩:=p
  rw[um]at hg
  obtain⟨t,ht,hv⟩:=hg
  rw[hv]
  simp only[aH,yielded,ht,Option.bind_some]
  have hr:=E t
  by_cases dR:t<a.tmps.size
  ·have eZ:a.tmps[t]? =some a.tmps[t]:=Array.getElem?_eq_getElem dR
   have hd:a.tmps.getD t undef=a.tmps[t]:=by simp[dR]
   rw[hd]at hr
   rw[eZ]
   generalize a.tmps[t]=u at hr
   cases he:env t with
   |bool c=>rw[he]at hr;rw[e7 hr];simp
   |_=>
    rw[he]at hr
    have:∀c,u≠.bool c:=by
     intro c hu
     subst hu
     cases hr with
     |eP _ _ h=>cases h
    cases u<;>simp_all
  ·have eZ:a.tmps[t]? =none:=Array.getElem?_eq_none (Nat.le_of_not_lt dR)
   have hd:a.tmps.getD t undef=undef:=by simp[eZ]
   rw[hd]at hr
   rw[eZ]
   cases he:env t with
   |bool c=>rw[he]at hr;have:=e7 hr;simp[undef]at this
   |_=>simp
theorem mT {dst:Option Nat} {nt:Nat} {u:Value} (E:cm P w D ι env a) (hr:dc P w D ι v u) (hd:∀d,dst=some d->d<nt) (hs:a.tmps.size=nt):cm P w D ι (upd env dst v) (a.put dst u):=by
 intro t
 cases dst with
 |none=>exact E t
 |some d=>
  have dR:d<a.tmps.size:=by rw[hs];exact hd d rfl
  simp only[upd,Act.put]
  by_cases ht:t=d
  ·subst ht
   simp[dR];exact hr
  ·rw[if_neg ht]
   have:(a.tmps.setIfInBounds d u).getD t undef=a.tmps.getD t undef:=by
    simp only[Array.getD_eq_getD_getElem?]
    rw[Array.getElem?_setIfInBounds_ne (fun e=>ht e.symm)]
   rw[this];exact E t
theorem oG {hs:Nat} (E:cm P w D ι env a) (T:Step hs D ι w D' ι' w'):cm P w' D' ι' env a:=fun t=>T.rep (E t)
theorem kZ (a:Act) (dst:Option Tmp) (u:Value):(a.put dst u).tmps.size=a.tmps.size:=by cases dst<;>simp[Act.put]
theorem put_defers (a:Act) (dst:Option Tmp) (u:Value):(a.put dst u).defers=a.defers:=by cases dst<;>rfl
theorem yZ {draw:Bool} {vo:bq} {σ:ar} {next:AV->ar->Prop} {U:Nat->Prop} {Q:Exit->Act->World->Prop} {K:Act->World->Prop} (hc:rf P o.op=some vo.op) (hv:fF (Sound P) draw vo env σ next) (S:gz P hs D ι σ.get w) (Us:Used ι σ.next U) (hU:¬U vo.site) (E:cm P w D ι env a)
  (hK:∀v σ' u D' ι' w',next v σ'->Step hs D ι w D' ι' w'->gz P hs D' ι' σ'.get w'->dc P w' D' ι' v u->Used ι' σ'.next (fun s=>U s∨s=vo.site)->σ.next<=σ'.next->K (a.put o.dst u) w'):o.wp P a w K Q:=by
 have close:∀v g',VS (Sound P) σ.next vo env σ.get v g'->next v ⟨g',σ.next⟩->o.wp P a w K Q:=fun v g' h1 h2=>
  AL hc h1 S Us hU E fun a' w' ⟨u,D',ι',ha,T,S',hR,U'⟩=>by subst ha;exact hK v ⟨g',σ.next⟩ u D' ι' w' h2 T S' hR U' (Nat.le_refl _)
 have JJ:∀(f:Nat) (args:List AV) (vs:Array Value),Sound P f args ⟨σ.get,σ.next+1⟩ next->fh P w D ι args vs->(execOp a.eval o).run P w=.ok (.enter f vs) w->o.wp P a w K Q:=by
  intro f args vs h hA gE
  unfold Oper.wp
  rw[gE]
  refine(h hs D ι w vs S Us.next hA).mono ?_
  rintro e w' ⟨r,g',n',D',ι',u,rfl,hn,T,S',U',hle,hR⟩
  exact hK r ⟨g',n'⟩ u D' ι' w' hn T S' hR (U'.more fun _ h=>h.elim) (Nat.le_trans (Nat.le_succ _) hle)
 unfold fF at hv
 split at hv
 ·rename_i f args dK
  rcases hv with⟨r,hP,hn⟩|⟨_,hX⟩|⟨KK,sz,rows,hM,hn⟩
  ·exact close r σ.get (by unfold VS;rw[dK];exact .inl ⟨hP,rfl⟩) hn
  rotate_left
  ·exact close _ _ (by unfold VS;rw[dK];exact .inr ⟨KK,sz,rows,hM,rfl,rfl⟩) hn
  ·have kg:=hc
   rw[dK]at kg
   obtain⟨c,ho,kq,Fs,nF⟩:=BQ kg
   refine JJ f _ (c.args.map a.eval) hX (ot E nF) ?_
   simp only[execOp,ho,resolve,kq,Deferred.ofValue,Act.eval,Sem.run_bind,Sem.run_pure,Result.andThen_ok,invoke,Array.empty_append,Array.append_empty]
   exact jx Fs
 ·rename_i x args dK
  split at hv
  ·rename_i f cZ hx
   have tN:vn (da env x) (args.map (da env))=some (f,args.map (da env)++cZ):=by rw[hx];rfl
   rcases hv with⟨r,hP,hn⟩|⟨_,hX⟩|⟨KK,sz,rows,hM,hn⟩
   ·exact close r σ.get (by unfold VS;rw[dK];exact⟨f,_,tN,.inl ⟨hP,rfl⟩⟩) hn
   rotate_left
   ·exact close _ _ (by unfold VS;rw[dK];exact⟨f,_,tN,.inr ⟨KK,sz,rows,hM,rfl,rfl⟩⟩) hn
   ·have kg:=hc
    rw[dK]at kg
    obtain⟨c,t,ho,kq,rfl,nF⟩:=s7 kg
    obtain⟨first,us,he,Fs,hL⟩:=vu (v:=a.eval (.tmp t)) tN (E t) (ot E nF)
    refine JJ f _ (first++c.args.map a.eval++us) hX hL ?_
    simp only[execOp,ho,resolve,kq,he,Deferred.ofValue,Sem.run_bind,Sem.run_pure,Result.andThen_ok,invoke]
    exact jx Fs
  ·rename_i f cZ hx
   have tN:vn (da env x) (args.map (da env))=some (f,cZ++args.map (da env)):=by rw[hx];rfl
   rcases hv with⟨r,hP,hn⟩|⟨_,hX⟩|⟨KK,sz,rows,hM,hn⟩
   ·exact close r σ.get (by unfold VS;rw[dK];exact⟨f,_,tN,.inl ⟨hP,rfl⟩⟩) hn
   rotate_left
   ·exact close _ _ (by unfold VS;rw[dK];exact⟨f,_,tN,.inr ⟨KK,sz,rows,hM,rfl,rfl⟩⟩) hn
   ·have kg:=hc
    rw[dK]at kg
    obtain⟨c,t,ho,kq,rfl,nF⟩:=s7 kg
    obtain⟨first,us,he,Fs,hL⟩:=vu (v:=a.eval (.tmp t)) tN (E t) (ot E nF)
    refine JJ f _ (first++c.args.map a.eval++us) hX hL ?_
    simp only[execOp,ho,resolve,kq,he,Deferred.ofValue,Sem.run_bind,Sem.run_pure,Result.andThen_ok,invoke]
    exact jx Fs
  ·exact hv.elim
 ·rename_i m x y dK
  split at hv
  ·rename_i v' g' he
   exact close v' g' (by unfold VS;rw[dK];rw[dK]at he;exact he) hv
  ·exact hv.elim
 ·rename_i m x y dK
  split at hv
  ·rename_i v' g' he
   exact close v' g' (by unfold VS;rw[dK];rw[dK]at he;exact he) hv
  ·exact hv.elim
 ·rename_i m x y dK
  split at hv
  ·rename_i v' g' he
   exact close v' g' (by unfold VS;rw[dK];rw[dK]at he;exact he) hv
  ·exact hv.elim
 ·rename_i m x dK
  split at hv
  ·rename_i v' g' he
   exact close v' g' (by unfold VS;rw[dK];rw[dK]at he;exact he) hv
  ·exact hv.elim
 ·rename_i m x dK
  split at hv
  ·rename_i v' g' he
   exact close v' g' (by unfold VS;rw[dK];rw[dK]at he;exact he) hv
  ·exact hv.elim
 ·rename_i n1 n2 n3 n4 n5 n6 n7
  split at hv
  ·rename_i v' r hq
   refine close v' (bF σ.get ⟨vo.site,σ.next⟩ r) ?_ hv
   unfold VS
   split
   ·rename_i h;exact(n1 _ _ h).elim
   ·rename_i h;exact(n2 _ _ h).elim
   ·rename_i h;exact(n3 _ _ _ h).elim
   ·rename_i h;exact(n4 _ _ _ h).elim
   ·rename_i h;exact(n5 _ _ _ h).elim
   ·rename_i h;exact(n6 _ _ h).elim
   ·rename_i h;exact(n7 _ _ h).elim
   ·exact⟨some r,hq,rfl⟩
  ·rename_i v' hq
   refine close v' σ.get ?_ hv
   unfold VS
   split
   ·rename_i h;exact(n1 _ _ h).elim
   ·rename_i h;exact(n2 _ _ h).elim
   ·rename_i h;exact(n3 _ _ _ h).elim
   ·rename_i h;exact(n4 _ _ _ h).elim
   ·rename_i h;exact(n5 _ _ _ h).elim
   ·rename_i h;exact(n6 _ _ h).elim
   ·rename_i h;exact(n7 _ _ h).elim
   ·exact⟨none,hq,rfl⟩
  ·exact hv.elim
structure St (P:Program) (hs nt:Nat) (D:Nat->Prop) (ι:Names) (env:Env) (σ:ar) (a:Act) (w:World):Prop where
 KP:gz P hs D ι σ.get w
 used:Used ι σ.next (fun _=>False)
 env:cm P w D ι env a
 size:a.tmps.size=nt
theorem Ej (rest:List Oper) {ops:Array Oper} {nt site0:Nat} {draw mk:Bool} {bs:Array Nat} {hidden:List (Nat×Bool)} {K:Env->ar->Prop} {Q:Exit->Act->World->Prop}:∀(l:List Oper) (vl:List bq) (j:Nat) (env:Env) (σ:ar) (a:Act) (w:World) (D:Nat->Prop) (ι:Names) (U:Nat->Prop),
  allM (ma P ops nt site0 draw mk bs hidden) l j=some vl->wpOps (Sound P) draw vl K env σ->gz P hs D ι σ.get w->Used ι σ.next U->(∀s,U s->s<site0+j)->cm P w D ι env a->a.tmps.size=nt->
  (∀iI σ' a' w' D' ι',K iI σ'->Step hs D ι w D' ι' w'->St P hs nt D' ι' iI σ' a' w'->a'.defers=a.defers->σ.next<=σ'.next->wpList P ops Q rest a' w')->wpList P ops Q (l++rest) a w:=by
 intro l
 induction l with
 |nil=>
  intro vl j env σ a w D ι U h hv S Us _ E fa hQ
  simp[allM]at h;subst h
  exact hQ env ⟨σ.get,σ.next+1⟩ a w D ι hv (Step.refl _ _ _ _) ⟨S,Us.next,E,fa⟩ rfl (Nat.le_succ _)
 |cons o l ih=>
  intro vl j env σ a w D ι U h hv S Us hU E fa hQ
  simp only[allM,Option.bind_eq_bind,Option.bind_eq_some_iff,Option.pure_def,Option.some.injEq]at h
  obtain⟨vo,kI,tr,sJ,rfl⟩:=h
  obtain⟨hc,hd,BH,xD,hg⟩:=pe kI
  have hw:=tt (ops:=ops) (vo:=vo) E hg
  unfold wpOps at hv
  show wpList P ops Q (o::(l++rest)) a w
  unfold wpList
  rw[<-hw]
  split at hv
  ·rename_i GG
   rw[if_pos GG]
   refine .inl (yZ hc hv S Us (fun h=>by have:=hU _ h;omega) E fun v σ' u D' ι' w' hn T S' hR U' hle=>?_)
   refine ih tr (j+1) (upd env vo.dst v) σ' (a.put o.dst u) w' D' ι' _ sJ hn S' U' (fun s BE=>by
    rcases BE with h|h
    ·have:=hU _ h;omega
    ·omega) (by rw[hd];exact mT (oG E T) hR xD fa) (by rw[kZ];exact fa) fun iI σ2 a' w2 D2 ι2 hk T2 NO DF mV=>hQ iI σ2 a' w2 D2 ι2 hk (T.trans T2) NO (DF.trans (put_defers _ _ _)) (Nat.le_trans hle mV)
  ·rename_i GG
   rw[if_neg GG]
   refine ih tr (j+1) (upd env vo.dst .undef) σ (a.put o.dst undef) w D ι U sJ hv S Us (fun s BE=>by have:=hU _ BE;omega) (by rw[hd];exact mT E dc.undef xD fa) (by rw[kZ];exact fa) fun iI σ2 a' w2 D2 ι2 hk T2 NO DF mV=>hQ iI σ2 a' w2 D2 ι2 hk T2 NO (DF.trans (put_defers _ _ _)) mV
theorem G9 {ops:Array Oper} {nt site0:Nat} {draw mk:Bool} {bs:Array Nat} {hidden:List (Nat×Bool)} {K:Env->ar->Prop} {Q:Exit->Act->World->Prop}:∀(l:List Oper) (vl:List bq) (j:Nat) (env:Env) (σ:ar) (a:Act) (w:World) (D:Nat->Prop) (ι:Names) (U:Nat->Prop),
  allM (ma P ops nt site0 draw mk bs hidden) l j=some vl->wpOps (Sound P) draw vl K env σ->gz P hs D ι σ.get w->Used ι σ.next U->(∀s,U s->s<site0+j)->cm P w D ι env a->a.tmps.size=nt->
  (∀iI σ' a' w' D' ι',K iI σ'->Step hs D ι w D' ι' w'->St P hs nt D' ι' iI σ' a' w'->a'.defers=a.defers->σ.next<=σ'.next->Q .normal a' w')->wpList P ops Q l a w:=fun l vl j env σ a w D ι U h hv S Us hU E fa hQ=>by
 have:=Ej [] l vl j env σ a w D ι U h hv S Us hU E fa hQ
 rwa [List.append_nil]at this
end
end Go.Proofs.YtgoelphibofcmaaGreat.V

namespace Go.Proofs.YtgoelphibofcmaaGreat.V
open Go.RowKit
variable {P:Program} {w w':World} {D D' D2:Nat->Prop} {ι ι' ι2:Names}
section
variable {hs:Nat} {X:fG}
theorem bh {env iV:Env} {x:O} (h:∀t∈gQ x,env t=iV t):da env x=da iV x:=by
 cases x with
 |t n=>exact h n (by simp[gQ])
 |_=>rfl
theorem map_congr {env iV:Env} {l:List O} (h:∀t∈l.flatMap gQ,env t=iV t):l.map (da env)=l.map (da iV):=
 List.map_congr_left fun x hx=>bh fun t ht=>h t (List.mem_flatMap.2 ⟨x,hx,ht⟩)
theorem pq {env iV:Env} {x:Option O} (h:∀t∈wE x,env t=iV t):x.map (da env)=x.map (da iV):=by
 cases x with
 |none=>rfl
 |some y=>simp only[Option.map_some];rw[bh h]
theorem tf {env iV:Env} {o:gC} {g:Rows} {id:Id} (h:∀t∈o.gI,env t=iV t):eK o (da env) g id=eK o (da iV) g id:=by
 cases o<;>simp only[gC.gI,List.mem_append]at h<;>simp only[eK]
 case dd x=>rw[bh h]
 case pick c a b=>rw[bh (x:=c) fun t ht=>h t (.inl (.inl ht)),bh (x:=a) fun t ht=>h t (.inl (.inr ht)),bh (x:=b) fun t ht=>h t (.inr ht)]
 case box x=>rw[bh h]
 case build z ps=>
  have:(ps.map fun(x:Nat×Nat×O)=>(x.1,x.2.1,da env x.2.2))=ps.map fun(x:Nat×Nat×O)=>(x.1,x.2.1,da iV x.2.2):=List.map_congr_left fun x hx=>by
   rw[bh (x:=x.2.2) fun t ht=>h t (List.mem_flatMap.2 ⟨x,hx,ht⟩)]
  rw[this]
 case mN a b l=>rw[map_congr h]
 case load a n x=>rw[bh h]
 case Au x=>rw[bh h]
 case bin a b x y=>rw[bh (x:=x) fun t ht=>h t (.inl ht),bh (x:=y) fun t ht=>h t (.inr ht)]
 case sh a x y=>rw[bh (x:=x) fun t ht=>h t (.inl ht),bh (x:=y) fun t ht=>h t (.inr ht)]
 case K7 a x y=>rw[bh (x:=x) fun t ht=>h t (.inl ht),bh (x:=y) fun t ht=>h t (.inr ht)]
 case M7 a b x y=>rw[bh (x:=x) fun t ht=>h t (.inl ht),bh (x:=y) fun t ht=>h t (.inr ht)]
 case SE a b x y=>rw[bh (x:=x) fun t ht=>h t (.inl ht),bh (x:=y) fun t ht=>h t (.inr ht)]
 case QT a b x=>rw[bh h]
 case SF a x=>rw[bh h]
 case not x=>rw[bh h]
 case neg x=>rw[bh h]
 case conv k x=>rw[bh h]
 case E7 x=>rw[bh h]
 case slice s x lo hi=>rw[bh (x:=x) fun t ht=>h t (.inl (.inl ht)),pq (x:=lo) fun t ht=>h t (.inl (.inr ht)),pq (x:=hi) fun t ht=>h t (.inr ht)]
 case Ah x lo hi=>rw[bh (x:=x) fun t ht=>h t (.inl (.inl ht)),pq (x:=lo) fun t ht=>h t (.inl (.inr ht)),pq (x:=hi) fun t ht=>h t (.inr ht)]
 case fH k x=>rw[bh h]
 case field a b c x=>rw[bh h]
 case dG s x y=>rw[bh (x:=x) fun t ht=>h t (.inl ht),bh (x:=y) fun t ht=>h t (.inr ht)]
 case LS n s x y=>rw[bh (x:=x) fun t ht=>h t (.inl ht),bh (x:=y) fun t ht=>h t (.inr ht)]
 case LW x y=>rw[bh (x:=x) fun t ht=>h t (.inl ht),bh (x:=y) fun t ht=>h t (.inr ht)]
 case eJ a b c x y=>rw[bh (x:=x) fun t ht=>h t (.inl ht),bh (x:=y) fun t ht=>h t (.inr ht)]
 case extract i x=>rw[bh h]
 case len x=>rw[bh h]
 case L6 x=>rw[bh h]
 case JB x=>rw[bh h]
 case Jn x=>rw[bh h]
 case Me f l=>rw[map_congr h]
 case Mf f l=>rw[map_congr h]
 case mq f l=>rw[map_congr h]
 case jU z x y=>rw[bh (x:=x) fun t ht=>h t (.inl ht),bh (x:=y) fun t ht=>h t (.inr ht)]
theorem gV {env iV:Env} {o:gC} {g:Rows} {id:Id} (h:∀t∈o.gI,env t=iV t):ga o (da env) g id=ga o (da iV) g id:=by
 cases o<;>simp only[gC.gI,List.mem_append]at h<;>simp only[ga]
 case clear z x=>rw[bh h]
 case mw f l=>rw[map_congr h]
 all_goals rename_i a x y
 all_goals rw[bh (x:=x) fun t ht=>h t (.inl ht),bh (x:=y) fun t ht=>h t (.inr ht)]
theorem H4 {n:Nat} {vo:bq} {env iV:Env} {g g':Rows} {v:AV} (h:∀t∈vo.op.gI,env t=iV t) (hv:VS X n vo env g v g'):VS X n vo iV g v g':=by
 unfold VS at hv ⊢
 split at hv
 ·rename_i f args dK
  rw[dK]at h
  simp only[gC.gI]at h
  rw[<-map_congr h];exact hv
 ·rename_i x args dK
  rw[dK]at h
  simp only[gC.gI,List.mem_append]at h
  rw[<-map_congr (l:=args) fun t ht=>h t (.inr ht),<-bh (x:=x) fun t ht=>h t (.inl ht)];exact hv
 ·rw[<-gV h];exact hv
 ·rw[<-gV h];exact hv
 ·rw[<-gV h];exact hv
 ·rw[<-gV h];exact hv
 ·rw[<-gV h];exact hv
 ·rw[<-tf h];exact hv
theorem Ee {q:MQ} {vs:List AV} {g:Rows} {id:Id} {v:AV} {r:Row} (h:bw q vs g id=some (v,some r)):∃m,q=.new m:=by
 unfold bw at h
 split at h
 ·exact⟨_,rfl⟩
 ·simp[Option.bind_eq_some_iff]at h
 ·simp at h
 ·cases h
theorem wK {o:gC} {ρ:O->AV} {g:Rows} {id:Id} {v:AV} {r:Row} (h:eK o ρ g id=some (v,some r)):qP o=true:=by
 cases o<;>simp only[eK]at h<;>(try rfl)<;>(try simp at h)
 case mq q xs=>obtain⟨m,rfl⟩:=Ee h;rfl
 all_goals (try(split at h<;>simp at h))
theorem wL {o:gC} {ρ:O->AV} {g g2:Rows} {id id2:Id} (h:o.cls=.pure):eK o ρ g id=eK o ρ g2 id2:=by
 cases o<;>(try simp[gC.cls]at h)<;>(try simp only[eK])
 case mq q xs=>cases q<;>simp[gC.cls]at h
theorem u9 {n:Nat} {vo:bq} {env:Env} {g g':Rows} {v:AV} (hw:vo.op.cls≠.write) (hv:VS X n vo env g v g'):∃mr,g'=jl g ⟨vo.site,n⟩ mr/\(mr≠none->vo.makes=true)/\∀g0,fZ vo.hid n g0=fZ vo.hid n g->VS X n vo env g0 v (jl g0 ⟨vo.site,n⟩ mr):=by
 unfold VS at hv
 split at hv
 ·rename_i f args dK
  rcases hv with⟨h1,rfl⟩|⟨hs,sz,rows,hM,rfl,rfl⟩
  ·refine⟨none,rfl,fun h=>(h rfl).elim,fun g0 h0=>?_⟩
   unfold VS;rw[dK];simp only;unfold vp;rw[h0];exact .inl ⟨h1,rfl⟩
  ·refine⟨some _,rfl,fun _=>by unfold bq.makes;rw[dK,hs];simp[gC.lP],fun g0 h0=>?_⟩
   unfold VS;rw[dK];simp only;unfold vp;rw[h0];exact .inr ⟨hs,sz,rows,hM,rfl,rfl⟩
 ·rename_i x args dK
  obtain⟨f,cZ,hx,hv⟩:=hv
  rcases hv with⟨h1,rfl⟩|⟨hs,sz,rows,hM,rfl,rfl⟩
  ·refine⟨none,rfl,fun h=>(h rfl).elim,fun g0 h0=>?_⟩
   unfold VS;rw[dK];simp only;unfold vp;rw[h0];exact⟨f,cZ,hx,.inl ⟨h1,rfl⟩⟩
  ·refine⟨some _,rfl,fun _=>by unfold bq.makes;rw[dK,hs];simp[gC.lP],fun g0 h0=>?_⟩
   unfold VS;rw[dK];simp only;unfold vp;rw[h0];exact⟨f,cZ,hx,.inr ⟨hs,sz,rows,hM,rfl,rfl⟩⟩
 ·rename_i dK;rw[dK]at hw;exact(hw rfl).elim
 ·rename_i dK;rw[dK]at hw;exact(hw rfl).elim
 ·rename_i dK;rw[dK]at hw;exact(hw rfl).elim
 ·rename_i dK;rw[dK]at hw;exact(hw rfl).elim
 ·rename_i dK;rw[dK]at hw;exact(hw rfl).elim
 ·rename_i n1 n2 n3 n4 n5 n6 n7
  obtain⟨mr,hq,rfl⟩:=hv
  refine⟨mr,rfl,fun h=>?_,fun g0 h0=>?_⟩
  ·cases mr with
   |none=>exact(h rfl).elim
   |some r=>unfold bq.makes;rw[wK hq];rfl
  ·unfold VS
   split
   ·rename_i hh;exact(n1 _ _ hh).elim
   ·rename_i hh;exact(n2 _ _ hh).elim
   ·rename_i hh;exact(n3 _ _ _ hh).elim
   ·rename_i hh;exact(n4 _ _ _ hh).elim
   ·rename_i hh;exact(n5 _ _ _ hh).elim
   ·rename_i hh;exact(n6 _ _ hh).elim
   ·rename_i hh;exact(n7 _ _ hh).elim
   ·rw[h0];exact⟨mr,hq,rfl⟩
theorem y9 {n:Nat} {vo:bq} {env:Env} {g g':Rows} {v:AV} (hp:vo.op.cls=.pure) (hv:VS X n vo env g v g'):g'=g/\∀g0,VS X n vo env g0 v g0:=by
 unfold VS at hv
 split at hv
 ·rename_i dK;rw[dK]at hp;simp[gC.cls]at hp
 ·rename_i dK;rw[dK]at hp;simp[gC.cls]at hp
 ·rename_i dK;rw[dK]at hp;simp[gC.cls]at hp
 ·rename_i dK;rw[dK]at hp;simp[gC.cls]at hp
 ·rename_i dK;rw[dK]at hp;simp[gC.cls]at hp
 ·rename_i dK;rw[dK]at hp;simp[gC.cls]at hp
 ·rename_i dK;rw[dK]at hp;simp[gC.cls]at hp
 ·rename_i n1 n2 n3 n4 n5 n6 n7
  obtain⟨mr,hq,rfl⟩:=hv
  have UT:mr=none:=by
   cases mr with
   |none=>rfl
   |some r=>have:=wK hq;simp[qP,hp]at this
  subst UT
  refine⟨rfl,fun g0=>?_⟩
  unfold VS
  split
  ·rename_i hh;exact(n1 _ _ hh).elim
  ·rename_i hh;exact(n2 _ _ hh).elim
  ·rename_i hh;exact(n3 _ _ _ hh).elim
  ·rename_i hh;exact(n4 _ _ _ hh).elim
  ·rename_i hh;exact(n5 _ _ _ hh).elim
  ·rename_i hh;exact(n6 _ _ hh).elim
  ·rename_i hh;exact(n7 _ _ hh).elim
  ·exact⟨none,by rw[wL hp];exact hq,rfl⟩
def GS (X:fG) (n:Nat) (vo:bq) (env:Env) (g:Rows) (v:AV) (g':Rows):Prop:=
 if aH vo.guard env then VS X n vo env g v g' else v=.undef/\g'=g
theorem Cz {hid:List Nat} {g:Rows} {s n:Nat} {mr:Option Row} (h:mr≠none->hid.contains s=true):fZ hid n (jl g ⟨s,n⟩ mr)=fZ hid n g:=by
 cases mr with
 |none=>rfl
 |some r=>
  have hc:=h (by simp)
  cases hid with
  |nil=>simp at hc
  |cons a l=>
   funext i
   show(if (a::l).contains i.site=true/\i.bm=n then none else jl g ⟨s,n⟩ (some r) i)=if (a::l).contains i.site=true/\i.bm=n then none else g i
   by_cases hi:i=⟨s,n⟩
   ·subst hi;rw[if_pos ⟨hc,rfl⟩,if_pos ⟨hc,rfl⟩]
   ·simp only[jl,bF,if_neg hi]
theorem F6 {g:Rows} {i j:Id} (h:i≠j) (m1 m2:Option Row):jl (jl g i m1) j m2=jl (jl g j m2) i m1:=by
 cases m1<;>cases m2<;>simp only[jl]
 funext k
 simp only[bF]
 by_cases h1:k=i
 ·subst h1;rw[if_neg h,if_pos rfl];simp
 ·by_cases h2:k=j
  ·subst h2;simp[h1]
  ·simp[h1,h2]
theorem xf {env:Env} {d e:Option Nat} {v u:AV} (h:∀k,d=some k->e≠some k):upd (upd env d v) e u=upd (upd env e u) d v:=by
 cases d with
 |none=>rfl
 |some d=>
  cases e with
  |none=>rfl
  |some e=>
   have gY:d≠e:=fun he=>h d rfl (by rw[he])
   funext t
   simp only[upd]
   by_cases h1:t=d
   ·subst h1;rw[if_neg gY,if_pos rfl,if_pos rfl]
   ·by_cases h2:t=e
    ·subst h2;rw[if_pos rfl,if_neg h1,if_pos rfl]
    ·simp[h1,h2]
theorem mC {env:Env} {d:Option Nat} {v:AV} {l:List Nat} (h:∀k,d=some k->k∉l):∀t∈l,upd env d v t=env t:=by
 intro t ht
 cases d with
 |none=>rfl
 |some d=>
  have:t≠d:=fun he=>h d rfl (he▸ht)
  simp[upd,this]
structure CU (x y:bq):Prop where
 xy:∀k,x.dst=some k->k∉y.gI
 yx:∀k,y.dst=some k->k∉x.gI
 dst:∀k,x.dst=some k->y.dst≠some k
 cls:clash x.op.cls y.op.cls=false
 hx:x.makes=true->y.hid.contains x.site=true
 hy:y.makes=true->x.hid.contains y.site=true
 site:x.site≠y.site
theorem CU.symm {x y:bq} (h:CU x y):CU y x:=
 ⟨h.yx,h.xy,fun k hk he=>h.dst k he hk,by have:=h.cls;revert this;cases x.op.cls<;>cases y.op.cls<;>simp[clash],h.hy,h.hx,fun e=>h.site e.symm⟩
theorem qz {x y:bq} (h:Fm x y=true):CU x y:=by
 unfold Fm at h
 simp only[Bool.and_eq_true,Bool.not_eq_true',Bool.or_eq_true,bne_iff_ne]at h
 obtain⟨⟨⟨⟨h1,h2⟩,h3⟩,h4⟩,h5⟩:=h
 unfold tq at h1
 simp only[Bool.and_eq_true]at h1
 obtain⟨a1,a2⟩:=h1
 refine⟨fun k hk=>?_,fun k hk=>?_,fun k hk=>?_,h2,fun hm=>?_,fun hm=>?_,h5⟩
 ·rw[hk]at a1;simp at a1;exact a1.1
 ·rw[hk]at a2;simpa using a2
 ·rw[hk]at a1;simp at a1;exact a1.2
 ·rcases h3 with h3|h3
  ·rw[hm]at h3;cases h3
  ·exact h3
 ·rcases h4 with h4|h4
  ·rw[hm]at h4;cases h4
  ·exact h4
theorem sk {vo:bq} {t:Nat} (h:t∈vo.op.gI):t∈vo.gI:=List.mem_append_left _ h
theorem nv {vo:bq} {env iV:Env} (h:∀t∈vo.gI,env t=iV t):aH vo.guard env=aH vo.guard iV:=by
 unfold aH
 cases hg:vo.guard with
 |none=>rfl
 |some p=>
  obtain⟨t,b⟩:=p
  have:env t=iV t:=h t (List.mem_append_right _ (by rw[hg];simp))
  simp only[this]
theorem uU {n:Nat} {vo:bq} {env iV:Env} {g g':Rows} {v:AV} (h:∀t∈vo.gI,env t=iV t) (hv:GS X n vo env g v g'):GS X n vo iV g v g':=by
 unfold GS at hv ⊢
 rw[<-nv h]
 split at hv
 ·rename_i hw;rw[if_pos hw];exact H4 (fun t ht=>h t (sk ht)) hv
 ·rename_i hw;rw[if_neg hw];exact hv
theorem EV {n:Nat} {x y:bq} {env:Env} {g g1 g2:Rows} {v v':AV} (F:CU x y) (h1:GS X n x env g v g1) (h2:GS X n y (upd env x.dst v) g1 v' g2):
  ∃Li,GS X n y env g v' Li/\GS X n x (upd env y.dst v') Li v g2/\upd (upd env x.dst v) y.dst v'=upd (upd env y.dst v') x.dst v:=by
 have KO:=xf (env:=env) (v:=v) (u:=v') F.dst
 replace h2:GS X n y env g1 v' g2:=uU (mC F.xy) h2
 have back:∀{Li},GS X n x env Li v g2->GS X n x (upd env y.dst v') Li v g2:=fun h=>uU (fun t ht=>(mC F.yx t ht).symm) h
 unfold GS at h1 h2
 by_cases wx:aH x.guard env=true
 ·rw[if_pos wx]at h1
  by_cases wy:aH y.guard env=true
  ·rw[if_pos wy]at h2
   by_cases cx:x.op.cls=.write
   ·have cy:y.op.cls=.pure:=by
     have:=F.cls;rw[cx]at this
     cases hc:y.op.cls<;>simp[clash,hc]at this ⊢
    obtain⟨rfl,dQ⟩:=y9 cy h2
    exact⟨g,by unfold GS;rw[if_pos wy];exact dQ g,back (by unfold GS;rw[if_pos wx];exact h1),KO⟩
   ·by_cases cy:y.op.cls=.write
    ·have cx':x.op.cls=.pure:=by
      have:=F.cls;rw[cy]at this
      cases hc:x.op.cls<;>simp[clash,hc]at this ⊢
     obtain⟨rfl,dQ⟩:=y9 cx' h1
     exact⟨g2,by unfold GS;rw[if_pos wy];exact h2,back (by unfold GS;rw[if_pos wx];exact dQ g2),KO⟩
    ·obtain⟨mx,rfl,kx,TG⟩:=u9 cx h1
     obtain⟨my,rfl,ky,NT⟩:=u9 cy h2
     have gY:(⟨x.site,n⟩:Id)≠⟨y.site,n⟩:=fun e=>F.site (by injection e)
     refine⟨jl g ⟨y.site,n⟩ my,?_,back ?_,KO⟩
     ·unfold GS;rw[if_pos wy]
      exact NT g (Cz fun h=>F.hx (kx h)).symm
     ·unfold GS;rw[if_pos wx,F6 gY]
      exact TG _ (Cz fun h=>F.hy (ky h))
  ·rw[if_neg wy]at h2
   obtain⟨rfl,rfl⟩:=h2
   exact⟨g,by unfold GS;rw[if_neg wy];exact⟨rfl,rfl⟩,back (by unfold GS;rw[if_pos wx];exact h1),KO⟩
 ·rw[if_neg wx]at h1
  obtain⟨rfl,rfl⟩:=h1
  exact⟨g2,h2,back (by unfold GS;rw[if_neg wx];exact⟨rfl,rfl⟩),KO⟩
end
end Go.Proofs.YtgoelphibofcmaaGreat.V

namespace Go.Proofs.YtgoelphibofcmaaGreat.V
open Go.RowKit
variable {P:Program} {w w':World} {D D' D2:Nat->Prop} {ι ι' ι2:Names}
section
variable {hs:Nat} {X:fG}
def jm (acc:Array Nat) (o:Oper):Nat:=o.after.foldl (fun s e=>if Region.binds .any e then s|||2 ^ e.on|||acc.getD e.on 0 else s) 0
theorem K3 (ops:Array Oper):jz ops=ops.foldl (fun acc o=>acc.push (jm acc o)) #[]:=rfl
theorem AQ {acc:Array Nat} {o:Oper} {i:Nat} (h:(jm acc o).testBit i=true):∃e∈o.after,Region.binds .any e=true/\(e.on=i∨(acc.getD e.on 0).testBit i=true):=by
 unfold jm at h
 rw[<-Array.foldl_toList]at h
 have gen:∀(l:List Edge) (s:Nat),(l.foldl (fun s e=>if Region.binds .any e then s|||2 ^ e.on|||acc.getD e.on 0 else s) s).testBit i=true->s.testBit i=true∨∃e∈l,Region.binds .any e=true/\(e.on=i∨(acc.getD e.on 0).testBit i=true):=by
  intro l
  induction l with
  |nil=>intro s h;exact .inl h
  |cons e r ih=>
   intro s h
   rw[List.foldl_cons]at h
   rcases ih _ h with h|⟨e',uI,h'⟩
   ·by_cases hb:Region.binds .any e=true
    ·rw[if_pos hb]at h
     simp only[Nat.testBit_or,Bool.or_eq_true]at h
     rcases h with(h|h)|h
     ·exact .inl h
     ·refine .inr ⟨e,by simp,hb,.inl ?_⟩
      rw[Nat.testBit_two_pow]at h
      simpa using h
     ·exact .inr ⟨e,by simp,hb,.inr h⟩
    ·rw[if_neg hb]at h;exact .inl h
   ·exact .inr ⟨e',List.mem_cons_of_mem _ uI,h'⟩
 rcases gen _ _ h with h|⟨e,he,h⟩
 ·simp at h
 ·exact⟨e,Array.mem_toList_iff.1 he,h⟩
theorem Ii {ops:Array Oper} {j i:Nat} (h:((jz ops).getD j 0).testBit i=true):∃o,ops[j]? =some o/\∃e∈o.after,Region.binds .any e=true/\(e.on=i∨((jz ops).getD e.on 0).testBit i=true):=by
 have key:∀(l pre:List Oper) (acc:Array Nat),acc.size=pre.length->(∀j i,(acc.getD j 0).testBit i=true->∃o,pre[j]? =some o/\∃e∈o.after,Region.binds .any e=true/\(e.on=i∨(acc.getD e.on 0).testBit i=true))->
   ∀j i,((l.foldl (fun acc o=>acc.push (jm acc o)) acc).getD j 0).testBit i=true->∃o,(pre++l)[j]? =some o/\∃e∈o.after,Region.binds .any e=true/\(e.on=i∨((l.foldl (fun acc o=>acc.push (jm acc o)) acc).getD e.on 0).testBit i=true):=by
  intro l
  induction l with
  |nil=>intro pre acc _ h j i hb;simpa using h j i hb
  |cons o r ih=>
   intro pre acc fa h j i hb
   have Cg:∀k,k<acc.size->(acc.push (jm acc o)).getD k 0=acc.getD k 0:=fun k hk=>by
    simp only[Array.getD_eq_getD_getElem?,Array.getElem?_push]
    rw[if_neg (by omega)]
   have big:∀k,acc.size<=k->acc.getD k 0=0:=fun k hk=>by simp[Array.getElem?_eq_none hk]
   have lift:∀k i,(acc.getD k 0).testBit i=true->((acc.push (jm acc o)).getD k 0).testBit i=true:=fun k i hk=>by
    by_cases dR:k<acc.size
    ·rw[Cg k dR];exact hk
    ·rw[big k (by omega)]at hk;simp at hk
   have:=ih (pre++[o]) (acc.push (jm acc o)) (by simp[fa]) (fun j i hb=>by
    by_cases dR:j<acc.size
    ·rw[Cg j dR]at hb
     obtain⟨o',CK,e,he,fx,h2⟩:=h j i hb
     refine⟨o',by rw[List.getElem?_append_left (by omega)];exact CK,e,he,fx,?_⟩
     rcases h2 with h2|h2
     ·exact .inl h2
     ·exact .inr (lift _ _ h2)
    ·by_cases hj:j=acc.size
     ·subst hj
      have e0:(acc.push (jm acc o)).getD acc.size 0=jm acc o:=by simp
      rw[e0]at hb
      obtain⟨e,he,fx,h2⟩:=AQ hb
      refine⟨o,by rw[List.getElem?_append_right (by omega),fa];simp,e,he,fx,?_⟩
      rcases h2 with h2|h2
      ·exact .inl h2
      ·exact .inr (lift _ _ h2)
     ·have:(acc.push (jm acc o)).getD j 0=0:=by
       simp only[Array.getD_eq_getD_getElem?]
       rw[Array.getElem?_eq_none (by simp;omega)];rfl
      rw[this]at hb;simp at hb) j i (by simpa using hb)
   simpa using this
 rw[K3,<-Array.foldl_toList]at h ⊢
 have:=key ops.toList [] #[] rfl (fun j i h=>by simp at h) j i h
 simpa using this
def DC (ops:Array Oper) (listed:Array Bool):Prop:=∀k i,listed.getD k false=true->((jz ops).getD k 0).testBit i=true->listed.getD i false=true
theorem k6 {ops:Array Oper} {listed:Array Bool} (h:DC ops listed) {j:Nat} (hj:j∈Region.ready .any ops listed):∀i,((jz ops).getD j 0).testBit i=true->listed.getD i false=true:=by
 intro i hb
 obtain⟨_,o,ho,dQ⟩:=mem_ready.1 hj
 obtain⟨o',CK,e,he,fx,h2⟩:=Ii hb
 rw[ho]at CK;injection CK with CK;subst CK
 have hl:=dQ e he fx
 rcases h2 with h2|h2
 ·rw[<-h2];exact hl
 ·exact h _ _ hl h2
theorem DC.list {ops:Array Oper} {listed:Array Bool} (h:DC ops listed) {j:Nat} (hj:j∈Region.ready .any ops listed):DC ops (listed.setIfInBounds j true):=by
 intro k i hk hb
 by_cases hkj:k=j
 ·subst hkj;exact getD_set_true (k6 h hj i hb)
 ·rw[getD_set_ne false (fun e=>hkj e.symm)]at hk
  exact getD_set_true (h k i hk hb)
theorem jg {ops:Array Oper} {listed:Array Bool} {j:Nat} (hj:j∈Region.ready .any ops listed):listed.getD j false=false:=by
 have h0:=(mem_ready.1 hj).1
 rcases Nat.lt_or_ge j listed.size with h|h
 ·simp[h]at h0 ⊢;exact h0
 ·simp[Array.getElem?_eq_none h]at h0
def Ko (X:fG) (n:Nat) (ops:Array Oper) (vl:List bq) (K:Env->Rows->Prop):Nat->Array Bool->Env->Rows->Prop
 |0,listed,env,g=>Region.ready .any ops listed=[]/\K env g
 |f+1,listed,env,g=>(Region.ready .any ops listed=[]->K env g)/\∀i∈Region.ready .any ops listed,∃vo,vl[i]? =some vo/\∃v g',GS X n vo env g v g'/\Ko X n ops vl K f (listed.setIfInBounds i true) (upd env vo.dst v) g'
theorem A8 {ops:Array Oper} {vl:List bq} (h:oF ops vl (jz ops)=true) {i j:Nat} {x y:bq} (hi:vl[i]? =some x) (hj:vl[j]? =some y) (DO:i≠j) (h1:((jz ops).getD j 0).testBit i=false) (h2:((jz ops).getD i 0).testBit j=false):CU x y:=by
 unfold oF at h
 simp only[Bool.and_eq_true,List.all_eq_true]at h
 obtain⟨_,h⟩:=h
 have mem:∀(k:Nat) (z:bq),vl[k]? =some z->(z,k)∈vl.zipIdx:=fun k z hk=>by
  rw[List.mem_iff_getElem?]
  exact⟨k,by simp[List.getElem?_zipIdx,hk]⟩
 rcases Nat.lt_or_gt_of_ne DO with dR|Lt
 ·have:=h _ (mem j y hj) _ (mem i x hi)
  simp only[dR,decide_true,Bool.not_true,Bool.false_or,h1]at this
  exact qz this
 ·have:=h _ (mem i x hi) _ (mem j y hj)
  simp only[Lt,decide_true,Bool.not_true,Bool.false_or,h2]at this
  exact(qz this).symm
theorem EP {n:Nat} {ops:Array Oper} {vl:List bq} {K:Env->Rows->Prop} (vR:oF ops vl (jz ops)=true) (hlen:vl.length=ops.size) {i:Nat} {vi:bq} (hi:vl[i]? =some vi) {v:AV}:∀(fuel:Nat) (listed:Array Bool) (env:Env) (g g1:Rows),
  DC ops listed->i∈Region.ready .any ops listed->GS X n vi env g v g1->Ko X n ops vl K fuel (listed.setIfInBounds i true) (upd env vi.dst v) g1->Ko X n ops vl K (fuel+1) listed env g:=by
 intro fuel
 induction fuel with
 |zero=>
  intro listed env g g1 _ hr hG H
  refine⟨fun h=>(by rw[h]at hr;cases hr),fun j hj=>?_⟩
  by_cases mD:j=i
  ·subst mD;exact⟨vi,hi,v,g1,hG,H⟩
  ·have:=ready_mono hj mD
   rw[H.1]at this;cases this
 |succ fuel ih=>
  intro listed env g g1 sE hr hG H
  refine⟨fun h=>(by rw[h]at hr;cases hr),fun j hj=>?_⟩
  by_cases mD:j=i
  ·subst mD;exact⟨vi,hi,v,g1,hG,H⟩
  ·obtain⟨vj,LO,v',g2,hG2,H2⟩:=H.2 j (ready_mono hj mD)
   have b1:((jz ops).getD j 0).testBit i=false:=by
    cases hb:((jz ops).getD j 0).testBit i with
    |false=>rfl
    |true=>have:=k6 sE hj i hb;rw[jg hr]at this;cases this
   have b2:((jz ops).getD i 0).testBit j=false:=by
    cases hb:((jz ops).getD i 0).testBit j with
    |false=>rfl
    |true=>have:=k6 sE hr j hb;rw[jg hj]at this;cases this
   have F:=A8 vR hi LO (fun e=>mD e.symm) b1 b2
   obtain⟨Li,q1,q2,q3⟩:=EV F hG hG2
   refine⟨vj,LO,v',Li,q1,ih _ _ _ g2 (sE.list hj) (ready_mono hr (fun e=>mD e.symm)) q2 ?_⟩
   rw[<-q3,Array.setIfInBounds_comm _ _ mD]
   exact H2
theorem NP {n:Nat} {vo:bq} {env:Env} {g:Rows} {v:AV} {mr:Option Row} (h:eK vo.op (da env) (fZ vo.hid n g) ⟨vo.site,n⟩=some (v,mr)):VS X n vo env g v (jl g ⟨vo.site,n⟩ mr):=by
 unfold VS
 split
 ·rename_i dK;rw[dK]at h;simp[eK]at h
 ·rename_i dK;rw[dK]at h;simp[eK]at h
 ·rename_i dK;rw[dK]at h;simp[eK]at h
 ·rename_i dK;rw[dK]at h;simp[eK]at h
 ·rename_i dK;rw[dK]at h;simp[eK]at h
 ·rename_i dK;rw[dK]at h;simp[eK]at h
 ·rename_i dK;rw[dK]at h;simp[eK]at h
 ·exact⟨mr,h,rfl⟩
theorem H5 {n:Nat} {vo:bq} {env:Env} {g g':Rows} {v:AV} (h:ga vo.op (da env) g ⟨vo.site,n⟩=some (v,g')):VS X n vo env g v g':=by
 unfold VS
 split
 ·rename_i dK;rw[dK]at h;simp[ga]at h
 ·rename_i dK;rw[dK]at h;simp[ga]at h
 ·exact h
 ·exact h
 ·exact h
 ·exact h
 ·exact h
 ·rename_i n1 n2 n3 n4 n5 n6 n7
  exfalso
  unfold ga at h
  split at h
  ·rename_i hh;exact n3 _ _ _ hh
  ·rename_i hh;exact n4 _ _ _ hh
  ·rename_i hh;exact n5 _ _ _ hh
  ·rename_i hh;exact n6 _ _ hh
  ·rename_i hh;exact n7 _ _ hh
  ·simp at h
theorem PE {vo:bq} {env:Env} {σ:ar} {next:AV->ar->Prop} (hv:fF X true vo env σ next):∃v g',VS X σ.next vo env σ.get v g'/\next v ⟨g',σ.next⟩:=by
 unfold fF at hv
 split at hv
 ·rename_i f args dK
  rcases hv with⟨r,hP,hn⟩|⟨h,_⟩|⟨hs,sz,rows,hM,hn⟩
  ·exact⟨r,σ.get,by unfold VS;rw[dK];exact .inl ⟨hP,rfl⟩,hn⟩
  ·cases h
  ·exact⟨_,_,by unfold VS;rw[dK];exact .inr ⟨hs,sz,rows,hM,rfl,rfl⟩,hn⟩
 ·rename_i x args dK
  split at hv
  ·rename_i f cZ hx
   have tN:vn (da env x) (args.map (da env))=some (f,args.map (da env)++cZ):=by rw[hx];rfl
   rcases hv with⟨r,hP,hn⟩|⟨h,_⟩|⟨hs,sz,rows,hM,hn⟩
   ·exact⟨r,σ.get,by unfold VS;rw[dK];exact⟨f,_,tN,.inl ⟨hP,rfl⟩⟩,hn⟩
   ·cases h
   ·exact⟨_,_,by unfold VS;rw[dK];exact⟨f,_,tN,.inr ⟨hs,sz,rows,hM,rfl,rfl⟩⟩,hn⟩
  ·rename_i f cZ hx
   have tN:vn (da env x) (args.map (da env))=some (f,cZ++args.map (da env)):=by rw[hx];rfl
   rcases hv with⟨r,hP,hn⟩|⟨h,_⟩|⟨hs,sz,rows,hM,hn⟩
   ·exact⟨r,σ.get,by unfold VS;rw[dK];exact⟨f,_,tN,.inl ⟨hP,rfl⟩⟩,hn⟩
   ·cases h
   ·exact⟨_,_,by unfold VS;rw[dK];exact⟨f,_,tN,.inr ⟨hs,sz,rows,hM,rfl,rfl⟩⟩,hn⟩
  ·exact hv.elim
 ·split at hv
  ·rename_i v g h;exact⟨v,g,H5 h,hv⟩
  ·exact hv.elim
 ·split at hv
  ·rename_i v g h;exact⟨v,g,H5 h,hv⟩
  ·exact hv.elim
 ·split at hv
  ·rename_i v g h;exact⟨v,g,H5 h,hv⟩
  ·exact hv.elim
 ·split at hv
  ·rename_i v g h;exact⟨v,g,H5 h,hv⟩
  ·exact hv.elim
 ·split at hv
  ·rename_i v g h;exact⟨v,g,H5 h,hv⟩
  ·exact hv.elim
 ·split at hv
  ·rename_i v r h;exact⟨v,_,NP h,hv⟩
  ·rename_i v h;exact⟨v,_,NP h,hv⟩
  ·exact hv.elim
theorem xg {ops:Array Oper} {vl:List bq} {K:Env->ar->Prop} {n:Nat} (vR:oF ops vl (jz ops)=true) (hlen:vl.length=ops.size):∀(r:List bq) (k:Nat) (listed:Array Bool) (env:Env) (g:Rows),
  (∀j,r[j]? =vl[k+j]?)->listed.size=ops.size->(∀i,i<ops.size->listed[i]? =some (decide (i<k)))->k+r.length=ops.size->DC ops listed->wpOps X true r K env ⟨g,n⟩->Ko X n ops vl (fun env g=>K env ⟨g,n+1⟩) r.length listed env g
 |[],k,listed,env,g,_,fa,hl,hk,_,hv=>by
  refine⟨?_,hv⟩
  rw[List.eq_nil_iff_forall_not_mem]
  intro j hj
  obtain⟨h0,o,ho,_⟩:=mem_ready.1 hj
  have dR:j<ops.size:=(Array.getElem?_eq_some_iff.1 ho).1
  have:=hl j dR
  simp at hk
  simp[this,show j<k by omega]at h0
 |vo::r,k,listed,env,g,hr,fa,hl,hk,sE,hv=>by
  simp only[List.length_cons]at hk
  have kI:vl[k]? =some vo:=by simpa using(hr 0).symm
  have kH:k<ops.size:=by omega
  have I9:k∈Region.ready .any ops listed:=by
   rw[mem_ready]
   refine⟨by simp[hl k kH],ops[k],Array.getElem?_eq_getElem kH,fun e he hb=>?_⟩
   unfold oF Fb at vR
   simp only[Bool.and_eq_true,List.all_eq_true]at vR
   have hm:(ops[k],k)∈ops.toList.zipIdx:=by
    rw[List.mem_iff_getElem?]
    exact⟨k,by simp[List.getElem?_zipIdx,kH]⟩
   have:=vR.1 _ hm
   rw[Array.all_eq_true_iff_forall_mem]at this
   have:=this e he
   simp only[hb,Bool.not_true,Bool.false_or,decide_eq_true_eq]at this
   simp[hl e.on (by omega),this]
  have hGS:∃v g',GS X n vo env g v g'/\wpOps X true r K (upd env vo.dst v) ⟨g',n⟩:=by
   unfold wpOps at hv
   unfold GS
   split at hv
   ·rename_i hw
    simp only[hw,if_true]
    exact PE hv
   ·rename_i hw
    simp only[hw]
    exact⟨.undef,g,⟨rfl,rfl⟩,hv⟩
  obtain⟨v,g',h1,h2⟩:=hGS
  refine EP vR hlen kI r.length listed env g g' sE I9 h1 ?_
  refine xg vR hlen r (k+1) _ _ _ (fun j=>by have:=hr (j+1);simpa[Nat.add_assoc,Nat.add_comm 1 j]using this) (by simp[fa]) (fun i hi=>?_) (by omega) (sE.list I9) h2
  by_cases yl:i=k
  ·subst yl;simp[fa,kH]
  ·rw[Array.getElem?_setIfInBounds_ne (fun e=>yl e.symm),hl i hi]
   congr 1
   have:(i<k)=(i<k+1):=by apply propext;omega
   simp[this]
theorem oq {f:Nat->Oper->Option bq}:∀{l:List Oper} {vl:List bq} {j:Nat},allM f l j=some vl->vl.length=l.length/\∀(i:Nat) (o:Oper),l[i]? =some o->∃vo,vl[i]? =some vo/\f (j+i) o=some vo
 |[],vl,j,h=>by simp[allM]at h;subst h;simp
 |o::l,vl,j,h=>by
  simp only[allM,Option.bind_eq_bind,Option.bind_eq_some_iff,Option.pure_def,Option.some.injEq]at h
  obtain⟨vo,kI,tr,sJ,rfl⟩:=h
  obtain⟨h1,h2⟩:=oq sJ
  refine⟨by simp[h1],fun i o' hi=>?_⟩
  cases i with
  |zero=>simp at hi;subst hi;exact⟨vo,rfl,kI⟩
  |succ i=>
   simp at hi
   obtain⟨q,hq,hf⟩:=h2 i o' hi
   exact⟨q,by simpa using hq,by rw[<-hf];congr 1;omega⟩
theorem xS {ops:Array Oper} {vl:List bq} {nt site0:Nat} {draw mk:Bool} {bs:Array Nat} {hidden:List (Nat×Bool)} {n:Nat} {K:Env->Rows->Prop} {Q:Exit->Act->World->Prop} (dQ:allM (ma P ops nt site0 draw mk bs hidden) ops.toList 0=some vl):
  ∀(fuel:Nat) (listed:Array Bool) (env:Env) (g:Rows) (a:Act) (w:World) (D:Nat->Prop) (ι:Names) (U:Nat->Prop),Ko (Sound P) n ops vl K fuel listed env g->gz P hs D ι g w->Used ι n U->(∀s,U s->∃i,s=site0+i/\listed.getD i false=true)->cm P w D ι env a->a.tmps.size=nt->
  (∀iI g' a' w' D' ι' U',K iI g'->Step hs D ι w D' ι' w'->gz P hs D' ι' g' w'->Used ι' n U'->cm P w' D' ι' iI a'->a'.tmps.size=nt->a'.defers=a.defers->Q .normal a' w')->wpAny P .any ops Q fuel listed a w:=by
 intro fuel
 induction fuel with
 |zero=>intro listed env g a w D ι U h S Us hU E fa hQ;exact⟨h.1,hQ env g a w D ι U h.2 (Step.refl _ _ _ _) S Us E fa rfl⟩
 |succ fuel ih=>
  intro listed env g a w D ι U h S Us hU E fa hQ
  refine⟨fun hr=>hQ env g a w D ι U (h.1 hr) (Step.refl _ _ _ _) S Us E fa rfl,fun i hi=>?_⟩
  obtain⟨vo,kI,v,g',hG,Np⟩:=h.2 i hi
  obtain⟨_,o,ho,_⟩:=mem_ready.1 hi
  obtain⟨vo',me,Re⟩:=(oq dQ).2 i o (by simpa using ho)
  rw[kI]at me;injection me with me;subst me
  rw[Nat.zero_add]at Re
  obtain⟨hc,hd,BH,xD,hg⟩:=pe Re
  have hw:=tt (ops:=ops) (vo:=vo) E hg
  have Uo:¬U vo.site:=fun hu=>by
   obtain⟨i',he,hl⟩:=hU _ hu
   have:i'=i:=by omega
   subst this
   rw[jg hi]at hl;cases hl
  have jB:i<listed.size:=by
   have h0:=(mem_ready.1 hi).1
   rcases Nat.lt_or_ge i listed.size with h|h
   ·exact h
   ·simp[Array.getElem?_eq_none h]at h0
  unfold wpOp
  simp only[ho]
  rw[<-hw]
  unfold GS at hG
  by_cases GG:aH vo.guard env=true
  ·rw[if_pos GG]
   rw[if_pos GG]at hG
   refine .inl (AL hc hG S Us Uo E fun a' w' ⟨u,D',ι',ha,T,S',hR,U'⟩=>?_)
   subst ha
   refine ih _ _ _ _ w' D' ι' _ Np S' U' (fun s BE=>?_) (by rw[hd];exact mT (oG E T) hR xD fa) (by rw[kZ];exact fa) fun iI g2 a2 w2 D2 ι2 U2 hk T2 S2 TF E2 kz DF=>hQ iI g2 a2 w2 D2 ι2 U2 hk (T.trans T2) S2 TF E2 kz (DF.trans (put_defers _ _ _))
   rcases BE with h|h
   ·obtain⟨i',he,hl⟩:=hU _ h
    exact⟨i',he,getD_set_true hl⟩
   ·exact⟨i,by rw[h,BH],by simp[jB]⟩
  ·rw[if_neg GG]
   rw[if_neg GG]at hG
   obtain⟨rfl,rfl⟩:=hG
   refine ih _ _ _ _ w D ι U Np S Us (fun s BE=>?_) (by rw[hd];exact mT E dc.undef xD fa) (by rw[kZ];exact fa) fun iI g2 a2 w2 D2 ι2 U2 hk T2 S2 TF E2 kz DF=>hQ iI g2 a2 w2 D2 ι2 U2 hk T2 S2 TF E2 kz (DF.trans (put_defers _ _ _))
   obtain⟨i',he,hl⟩:=hU _ BE
   exact⟨i',he,getD_set_true hl⟩
end
end Go.Proofs.YtgoelphibofcmaaGreat.V

namespace Go.Proofs.YtgoelphibofcmaaGreat.V
open Go.RowKit
variable {P:Program} {w w':World} {D D' D2:Nat->Prop} {ι ι' ι2:Names}
section
variable {hs:Nat} {X:fG}
def qa (X:fG):Prop:=∀f args σ K K',(∀r σ',K r σ'->K' r σ')->X f args σ K->X f args σ K'
theorem qk:qa (Sound P):=fun _ _ _ _ _ hK h hs D ι w vs S U A=>
 (h hs D ι w vs S U A).mono fun _ _ ⟨r,g',n',D',ι',u,he,hk,rest⟩=>⟨r,g',n',D',ι',u,he,hK _ _ hk,rest⟩
def step (X:fG) (vo:bq) (N:Env->ar->Prop) (env:Env) (σ:ar):Prop:=
 if aH vo.guard env then fF X false vo env σ fun v σ'=>N (upd env vo.dst v) σ' else N (upd env vo.dst .undef) σ
theorem qt (hK:qa X) {draw:Bool} {hid:List Nat} {site f:Nat} {args:List AV} {σ:ar} {n n':AV->ar->Prop} (hn:∀v σ',n v σ'->n' v σ') (hp:cE X draw hid site f args σ n):cE X draw hid site f args σ n':=by
 rcases hp with⟨r,h1,h2⟩|⟨h1,h2⟩|⟨h1,sz,rows,h2,h3⟩
 ·exact .inl ⟨r,h1,hn _ _ h2⟩
 ·exact .inr (.inl ⟨h1,hK _ _ _ _ _ hn h2⟩)
 ·exact .inr (.inr ⟨h1,sz,rows,h2,hn _ _ h3⟩)
theorem CA (hK:qa X) {draw:Bool} {o:bq} {env:Env} {σ:ar} {n n':AV->ar->Prop} (hn:∀v σ',n v σ'->n' v σ') (hp:fF X draw o env σ n):fF X draw o env σ n':=by
 unfold fF at hp ⊢
 split at hp
 ·exact qt hK hn hp
 ·split at hp
  ·exact qt hK hn hp
  ·exact qt hK hn hp
  ·exact hp.elim
 ·split at hp
  ·exact hn _ _ hp
  ·exact hp.elim
 ·split at hp
  ·exact hn _ _ hp
  ·exact hp.elim
 ·split at hp
  ·exact hn _ _ hp
  ·exact hp.elim
 ·split at hp
  ·exact hn _ _ hp
  ·exact hp.elim
 ·split at hp
  ·exact hn _ _ hp
  ·exact hp.elim
 ·split at hp
  ·exact hn _ _ hp
  ·exact hn _ _ hp
  ·exact hp.elim
theorem jQ (hK:qa X) {vo:bq} {N N':Env->ar->Prop} (h:∀e s,N e s->N' e s) {env:Env} {σ:ar} (hp:step X vo N env σ):step X vo N' env σ:=by
 unfold step at hp ⊢
 split at hp
 ·rename_i hw;rw[if_pos hw];exact CA hK (fun v σ'=>h _ _) hp
 ·rename_i hw;rw[if_neg hw];exact h _ _ hp
theorem HD {env iV:Env} {vo:bq} {σ:ar} {n:AV->ar->Prop} (h:∀t∈vo.op.gI,env t=iV t) (hv:fF X false vo env σ n):fF X false vo iV σ n:=by
 unfold fF at hv ⊢
 split at hv
 ·rename_i f args dK
  rw[dK]at h
  simp only[gC.gI]at h
  rw[<-map_congr h];exact hv
 ·rename_i x args dK
  rw[dK]at h
  simp only[gC.gI,List.mem_append]at h
  rw[<-map_congr (l:=args) fun t ht=>h t (.inr ht),<-bh (x:=x) fun t ht=>h t (.inl ht)];exact hv
 ·rw[<-gV h];exact hv
 ·rw[<-gV h];exact hv
 ·rw[<-gV h];exact hv
 ·rw[<-gV h];exact hv
 ·rw[<-gV h];exact hv
 ·rw[<-tf h];exact hv
theorem lL {x:bq} (hq:k5 x=true) {N:Env->ar->Prop} {env:Env} {σ:ar}:step X x N env σ↔∃v g',GS X σ.next x env σ.get v g'/\N (upd env x.dst v) ⟨g',σ.next⟩:=by
 unfold k5 at hq
 simp only[Bool.and_eq_true,Bool.not_eq_true',bne_iff_ne]at hq
 obtain⟨yq,uq⟩:=hq
 unfold step GS
 by_cases hw:aH x.guard env=true
 ·rw[if_pos hw]
  simp only[hw,if_true]
  unfold fF
  split
  ·rename_i dK;simp[dK,gC.lP]at yq
  ·rename_i dK;simp[dK,gC.lP]at yq
  ·rename_i dK;simp[dK,gC.cls]at uq
  ·rename_i dK;simp[dK,gC.cls]at uq
  ·rename_i dK;simp[dK,gC.cls]at uq
  ·rename_i dK;simp[dK,gC.cls]at uq
  ·rename_i dK;simp[dK,gC.cls]at uq
  ·rename_i n1 n2 n3 n4 n5 n6 n7
   have hVS:∀v g',VS X σ.next x env σ.get v g'↔∃mr,eK x.op (da env) (fZ x.hid σ.next σ.get) ⟨x.site,σ.next⟩=some (v,mr)/\g'=jl σ.get ⟨x.site,σ.next⟩ mr:=fun v g'=>by
    unfold VS
    split
    ·rename_i hh;exact(n1 _ _ hh).elim
    ·rename_i hh;exact(n2 _ _ hh).elim
    ·rename_i hh;exact(n3 _ _ _ hh).elim
    ·rename_i hh;exact(n4 _ _ _ hh).elim
    ·rename_i hh;exact(n5 _ _ _ hh).elim
    ·rename_i hh;exact(n6 _ _ hh).elim
    ·rename_i hh;exact(n7 _ _ hh).elim
    ·exact Iff.rfl
   simp only[hVS]
   cases hz:eK x.op (da env) (fZ x.hid σ.next σ.get) ⟨x.site,σ.next⟩with
   |none=>
    exact⟨fun h=>h.elim,fun⟨v,g',⟨mr,h,_⟩,_⟩=>by cases h⟩
   |some p=>
    obtain⟨v,mr⟩:=p
    have key:∀(v':AV) (g':Rows),(∃QB,some (v,mr)=some (v',QB)/\g'=jl σ.get ⟨x.site,σ.next⟩ QB)↔v'=v/\g'=jl σ.get ⟨x.site,σ.next⟩ mr:=fun v' g'=>by
     constructor
     ·rintro⟨QB,h1,h2⟩
      injection h1 with h1;injection h1 with h1 h3
      subst h1;subst h3
      exact⟨rfl,h2⟩
     ·rintro⟨rfl,rfl⟩;exact⟨mr,rfl,rfl⟩
    have fin:(∃v' g',(∃QB,some (v,mr)=some (v',QB)/\g'=jl σ.get ⟨x.site,σ.next⟩ QB)/\N (upd env x.dst v') ⟨g',σ.next⟩)↔N (upd env x.dst v) ⟨jl σ.get ⟨x.site,σ.next⟩ mr,σ.next⟩:=by
     constructor
     ·rintro⟨v',g',h,hN⟩
      obtain⟨rfl,rfl⟩:=(key v' g').1 h
      exact hN
     ·intro hN;exact⟨v,_,(key _ _).2 ⟨rfl,rfl⟩,hN⟩
    cases mr with
    |none=>exact fin.symm
    |some r=>exact fin.symm
 ·rw[if_neg hw]
  simp only[if_neg hw]
  exact⟨fun h=>⟨_,_,⟨rfl,rfl⟩,h⟩,fun⟨v,g',⟨hv,hg⟩,h⟩=>by rw[hv,hg]at h;exact h⟩
def xv (x:bq) (env:Env) (v:AV):Prop:=if aH x.guard env then eK x.op (da env) (fun _=>none) ⟨0,0⟩=some (v,none)else v=.undef
theorem wI {x:bq} (hp:x.op.cls=.pure):k5 x=true:=by
 unfold k5
 rw[hp]
 cases hc:x.op<;>simp[hc,gC.cls]at hp<;>rfl
theorem tk {x:bq} (hp:x.op.cls=.pure) {N:Env->ar->Prop} {env:Env} {σ:ar}:step X x N env σ↔∃v,xv x env v/\N (upd env x.dst v) σ:=by
 rw[lL (wI hp)]
 unfold GS xv
 by_cases hw:aH x.guard env=true
 ·simp only[hw,if_true]
  constructor
  ·rintro⟨v,g',h,hN⟩
   obtain⟨rfl,dQ⟩:=y9 hp h
   refine⟨v,?_,hN⟩
   unfold VS at h
   split at h
   ·rename_i dK;rw[dK]at hp;simp[gC.cls]at hp
   ·rename_i dK;rw[dK]at hp;simp[gC.cls]at hp
   ·rename_i dK;rw[dK]at hp;simp[gC.cls]at hp
   ·rename_i dK;rw[dK]at hp;simp[gC.cls]at hp
   ·rename_i dK;rw[dK]at hp;simp[gC.cls]at hp
   ·rename_i dK;rw[dK]at hp;simp[gC.cls]at hp
   ·rename_i dK;rw[dK]at hp;simp[gC.cls]at hp
   ·obtain⟨mr,hq,_⟩:=h
    have UT:mr=none:=by
     cases mr with
     |none=>rfl
     |some r=>have:=wK hq;simp[qP,hp]at this
    subst UT
    rw[<-wL (g:=fZ x.hid σ.next σ.get) (id:=⟨x.site,σ.next⟩) hp];exact hq
  ·rintro⟨v,h,hN⟩
   exact⟨v,σ.get,NP (mr:=none) (by rw[wL (g2:=fun _=>none) (id2:=⟨0,0⟩) hp];exact h),hN⟩
 ·simp only[if_neg hw]
  exact⟨fun⟨v,g',⟨hv,hg⟩,h⟩=>⟨v,hv,by rw[hg]at h;exact h⟩,fun⟨v,hv,h⟩=>⟨v,σ.get,⟨hv,rfl⟩,h⟩⟩
theorem Ku {x:bq} {env iV:Env} {v:AV} (h:∀t∈x.gI,env t=iV t) (hv:xv x env v):xv x iV v:=by
 unfold xv at hv ⊢
 rw[<-nv h,<-tf fun t ht=>h t (sk ht)];exact hv
structure M0 (x y:bq):Prop where
 xy:∀k,x.dst=some k->k∉y.gI
 yx:∀k,y.dst=some k->k∉x.gI
 dst:∀k,x.dst=some k->y.dst≠some k
theorem sw {x y:bq} (h:tq x y=true):M0 x y:=by
 unfold tq at h
 simp only[Bool.and_eq_true]at h
 obtain⟨a1,a2⟩:=h
 refine⟨fun k hk=>?_,fun k hk=>?_,fun k hk=>?_⟩
 ·rw[hk]at a1;simp at a1;exact a1.1
 ·rw[hk]at a2;simpa using a2
 ·rw[hk]at a1;simp at a1;exact a1.2
theorem yg {x y:bq} (h:yf x y=true):(M0 x y/\x.op.cls=.pure)∨(CU x y/\k5 x=true/\k5 y=true):=by
 unfold yf at h
 simp only[Bool.or_eq_true,Bool.and_eq_true,beq_iff_eq]at h
 rcases h with⟨h1,h2⟩|⟨⟨h1,h2⟩,h3⟩
 ·exact .inl ⟨sw h1,h2⟩
 ·exact .inr ⟨qz h1,h2,h3⟩
theorem Bj {x y:bq} (h:yf x y=true):k5 x=true:=by
 rcases yg h with h|h
 ·exact wI h.2
 ·exact h.2.1
theorem Hm (hK:qa X) {x y:bq} (hf:yf x y=true) {N:Env->ar->Prop} {env:Env} {σ:ar} (h:step X x (fun e s=>step X y N e s) env σ):step X y (fun e s=>step X x N e s) env σ:=by
 rcases yg hf with⟨F,hp⟩|⟨F,hx,hy⟩
 ·rw[tk hp]at h
  obtain⟨v,hx,h⟩:=h
  have KO:=fun(v':AV)=>xf (env:=env) (v:=v) (u:=v') F.dst
  have BI:=mC (env:=env) (v:=v) F.xy
  have back:∀(v':AV),xv x (upd env y.dst v') v:=fun v'=>Ku (fun t ht=>(mC F.yx t ht).symm) hx
  unfold step at h ⊢
  rw[nv BI]at h
  split at h
  ·rename_i hw
   rw[if_pos hw]
   refine CA hK (fun v' σ' hN=>?_) (HD (fun t ht=>BI t (sk ht)) h)
   rw[KO]at hN
   exact(tk hp).2 ⟨v,back v',hN⟩
  ·rename_i hw
   rw[if_neg hw]
   rw[KO]at h
   exact(tk hp).2 ⟨v,back _,h⟩
 ·rw[lL hx]at h
  obtain⟨v,g1,h1,h⟩:=h
  rw[lL hy]at h
  obtain⟨v',g2,h2,h⟩:=h
  obtain⟨Li,q1,q2,q3⟩:=EV F h1 h2
  rw[q3]at h
  exact(lL hy).2 ⟨v',Li,q1,(lL hx).2 ⟨v,g2,q2,h⟩⟩
def Ao (X:fG) (ops:Array Oper) (vl:List bq) (K:Env->ar->Prop):Nat->Array Bool->Env->ar->Prop
 |0,listed,env,σ=>Region.ready .any ops listed=[]/\K env ⟨σ.get,σ.next+1⟩
 |f+1,listed,env,σ=>(Region.ready .any ops listed=[]->K env ⟨σ.get,σ.next+1⟩)/\∀i∈Region.ready .any ops listed,∃vo,vl[i]? =some vo/\step X vo (fun e s=>Ao X ops vl K f (listed.setIfInBounds i true) e s) env σ
theorem Dm {ops:Array Oper} {vl:List bq} {bs:Array Nat} {listed:Array Bool} {i:Nat} (h:qy ops vl bs listed i=true) (j:Nat):qy ops vl bs (listed.setIfInBounds j true) i=true:=by
 unfold qy at h ⊢
 split at h
 ·rename_i x hx
  simp only[List.all_eq_true,Bool.or_eq_true]at h ⊢
  intro k hk
  rcases h k hk with((h|h)|h)|h
  ·exact .inl (.inl (.inl (getD_set_true h)))
  ·exact .inl (.inl (.inr h))
  ·exact .inl (.inr h)
  ·exact .inr h
 ·cases h
theorem tE {ops:Array Oper} {vl:List bq} {listed:Array Bool} {i j:Nat} {vi:bq} (sE:DC ops listed) (h:qy ops vl (jz ops) listed i=true) (hi:vl[i]? =some vi) (hr:i∈Region.ready .any ops listed) (hj:j∈Region.ready .any ops listed) (mD:j≠i):∃vj,vl[j]? =some vj/\yf vi vj=true:=by
 unfold qy at h
 rw[hi]at h
 simp only[List.all_eq_true,Bool.or_eq_true,beq_iff_eq]at h
 obtain⟨_,o,ho,_⟩:=mem_ready.1 hj
 rcases h j (List.mem_range.2 (Array.getElem?_eq_some_iff.1 ho).1)with((h|h)|h)|h
 ·rw[jg hj]at h;cases h
 ·exact absurd h mD
 ·have:=k6 sE hj i h
  rw[jg hr]at this;cases this
 ·split at h
  ·rename_i y hy;exact⟨y,hy,h⟩
  ·cases h
theorem ES (hK:qa X) {ops:Array Oper} {vl:List bq} {K:Env->ar->Prop} {i:Nat} {vi:bq} (hi:vl[i]? =some vi):∀(fuel:Nat) (listed:Array Bool) (env:Env) (σ:ar),
  DC ops listed->i∈Region.ready .any ops listed->qy ops vl (jz ops) listed i=true->step X vi (fun e s=>Ao X ops vl K fuel (listed.setIfInBounds i true) e s) env σ->Ao X ops vl K (fuel+1) listed env σ:=by
 intro fuel
 induction fuel with
 |zero=>
  intro listed env σ sE hr lY H
  refine⟨fun h=>(by rw[h]at hr;cases hr),fun j hj=>?_⟩
  by_cases mD:j=i
  ·subst mD;exact⟨vi,hi,H⟩
  ·obtain⟨vj,LO,Rm⟩:=tE sE lY hi hr hj mD
   rw[lL (Bj Rm)]at H
   obtain⟨v,g',_,H⟩:=H
   have:=ready_mono hj mD
   rw[H.1]at this;cases this
 |succ fuel ih=>
  intro listed env σ sE hr lY H
  refine⟨fun h=>(by rw[h]at hr;cases hr),fun j hj=>?_⟩
  by_cases mD:j=i
  ·subst mD;exact⟨vi,hi,H⟩
  ·obtain⟨vj,LO,Rm⟩:=tE sE lY hi hr hj mD
   refine⟨vj,LO,?_⟩
   have H2:step X vi (fun e s=>step X vj (fun e s=>Ao X ops vl K fuel ((listed.setIfInBounds i true).setIfInBounds j true) e s) e s) env σ:=jQ hK (fun e s h=>by
    obtain⟨vj',zE,h'⟩:=h.2 j (ready_mono hj mD)
    rw[LO]at zE;injection zE with zE;subst zE
    exact h') H
   refine jQ hK (fun e s h=>?_) (Hm hK Rm H2)
   refine ih _ _ _ (sE.list hj) (ready_mono hr (fun e=>mD e.symm)) (Dm lY j) ?_
   rw[Array.setIfInBounds_comm _ _ mD]
   exact h
theorem tj {x:bq} (hg:x.guard=none) {N:Env->ar->Prop} {env:Env} {σ:ar}:step X x N env σ=fF X false x env σ (fun v σ'=>N (upd env x.dst v) σ'):=by
 unfold step
 rw[hg]
 simp[aH]
theorem EC {x y:bq} {t s sz:Nat} {ys:O} (hx:x.op=.append sz (.t t) ys) (hg:x.guard=none) (hf:Fk s x y=true) {N:Env->ar->Prop} {env:Env} {σ:ar} (hl:L7 t s ys env σ.next) (h:step X x (fun e s=>step X y N e s) env σ):
  step X y (fun e σ'=>L7 t s ys e σ'.next/\step X x N e σ') env σ:=by
 unfold Fk at hf
 simp only[Bool.and_eq_true,bne_iff_ne]at hf
 obtain⟨⟨⟨⟨⟨f1,hq⟩,f3⟩,f4⟩,f5⟩,f6⟩:=hf
 have F:=sw f1
 obtain⟨⟨len,ht⟩,hsrc⟩:=hl
 have Jc:∀k∈x.op.gI,∀v',upd env y.dst v' k=env k:=fun k hk v'=>mC (env:=env) (v:=v') F.yx k (sk hk)
 have dL:t∈x.op.gI:=by rw[hx];simp[gC.gI,gQ]
 have CO:∀v',da (upd env y.dst v') ys=da env ys:=fun v'=>(bh fun k hk=>by rw[Jc k (by rw[hx];simp[gC.gI,hk])]).symm
 rw[tj hg]at h
 unfold fF at h
 simp only[hx,ga]at h
 have ex:da env (.t t)=.own ⟨s,σ.next⟩ 0 len:=ht
 rw[ex]at h
 cases hr:bj σ.get (da env ys)with
 |none=>rw[hr]at h;exact h.elim
 |some rs=>
  rw[hr]at h
  simp only[Option.bind_some,aT]at h
  cases IX:σ.get ⟨s,σ.next⟩with
  |none=>rw[IX]at h;exact h.elim
  |some r=>
   rw[IX]at h
   simp only[Option.bind_some]at h
   split at h
   ·rename_i v g1 hv
    split at hv
    ·rename_i hcond
     simp only[Option.some.injEq,Prod.mk.injEq]at hv
     obtain⟨rfl,rfl⟩:=hv
     rw[lL hq]at h
     obtain⟨v',g2,hG,hN⟩:=h
     have Lz:(⟨y.site,σ.next⟩:Id)≠⟨s,σ.next⟩:=fun e=>f5 (by injection e)
     have I3:(⟨y.site,σ.next⟩:Id)≠⟨x.site,σ.next⟩:=fun e=>f6 (by injection e)
     replace hG:GS X σ.next y env (bF (cj σ.get ⟨s,σ.next⟩) ⟨x.site,σ.next⟩ ⟨true,sz,r.rows++rs⟩) v' g2:=uU (mC F.xy) hG
     have Vg:fZ y.hid σ.next σ.get=fZ y.hid σ.next (bF (cj σ.get ⟨s,σ.next⟩) ⟨x.site,σ.next⟩ ⟨true,sz,r.rows++rs⟩):=by
      cases hh:y.hid with
      |nil=>rw[hh]at f3;simp at f3
      |cons a l=>
       rw[hh]at f3 f4
       funext i
       show(if (a::l).contains i.site=true/\i.bm=σ.next then none else σ.get i)=if (a::l).contains i.site=true/\i.bm=σ.next then none else _
       by_cases h1:i=⟨x.site,σ.next⟩
       ·subst h1;rw[if_pos ⟨f4,rfl⟩,if_pos ⟨f4,rfl⟩]
       ·by_cases h2:i=⟨s,σ.next⟩
        ·subst h2;rw[if_pos ⟨f3,rfl⟩,if_pos ⟨f3,rfl⟩]
        ·simp only[bF,cj,if_neg h1,if_neg h2]
     obtain⟨my,OC,hG'⟩:∃my,g2=jl (bF (cj σ.get ⟨s,σ.next⟩) ⟨x.site,σ.next⟩ ⟨true,sz,r.rows++rs⟩) ⟨y.site,σ.next⟩ my/\GS X σ.next y env σ.get v' (jl σ.get ⟨y.site,σ.next⟩ my):=by
      unfold GS at hG ⊢
      by_cases wy:aH y.guard env=true
      ·rw[if_pos wy]at hG
       have hcw:y.op.cls≠.write:=by
        unfold k5 at hq
        simp only[Bool.and_eq_true,bne_iff_ne]at hq
        exact hq.2
       obtain⟨my,rfl,_,NT⟩:=u9 hcw hG
       exact⟨my,rfl,by rw[if_pos wy];exact NT _ Vg⟩
      ·rw[if_neg wy]at hG
       obtain⟨rfl,rfl⟩:=hG
       exact⟨none,rfl,by rw[if_neg wy];exact⟨rfl,rfl⟩⟩
     subst OC
     refine(lL hq).2 ⟨v',_,hG',⟨⟨len,by rw[Jc t dL];exact ht⟩,fun id o l he=>hsrc id o l (by rw[<-CO v'];exact he)⟩,?_⟩
     rw[tj hg]
     unfold fF
     have ex':da (upd env y.dst v') (.t t)=.own ⟨s,σ.next⟩ 0 len:=by
      show upd env y.dst v' t= _
      rw[Jc t dL];exact ht
     simp only[hx,ga,ex',CO v']
     have nW:bj (jl σ.get ⟨y.site,σ.next⟩ my) (da env ys)=some rs:=by
      cases my with
      |none=>exact hr
      |some row=>
       revert hr
       cases hev:da env ys<;>simp only[bj,jl]<;>try exact fun h=>h
       rename_i id o l
       have:id≠⟨y.site,σ.next⟩:=fun e=>hsrc id o l hev (by rw[e])
       simp only[bF,if_neg this];exact fun h=>h
     have UJ:jl σ.get ⟨y.site,σ.next⟩ my ⟨s,σ.next⟩=some r:=by
      cases my with
      |none=>exact IX
      |some row=>simp only[jl,bF,if_neg (fun e=>Lz e.symm:(⟨s,σ.next⟩:Id)≠⟨y.site,σ.next⟩)];exact IX
     rw[nW]
     simp only[Option.bind_some,aT,UJ]
     rw[if_pos hcond]
     have Rp:bF (cj (jl σ.get ⟨y.site,σ.next⟩ my) ⟨s,σ.next⟩) ⟨x.site,σ.next⟩ ⟨true,sz,r.rows++rs⟩=jl (bF (cj σ.get ⟨s,σ.next⟩) ⟨x.site,σ.next⟩ ⟨true,sz,r.rows++rs⟩) ⟨y.site,σ.next⟩ my:=by
      cases my with
      |none=>rfl
      |some row=>
       funext i
       simp only[jl,bF,cj]
       by_cases h1:i=⟨y.site,σ.next⟩
       ·subst h1;rw[if_neg I3,if_neg Lz,if_pos rfl,if_pos rfl]
       ·simp only[if_neg h1]
     have hu:=xf (env:=env) (v:=AV.own ⟨x.site,σ.next⟩ 0 (len+rs.length)) (u:=v') F.dst
     show N (upd (upd env y.dst v') x.dst (.own ⟨x.site,σ.next⟩ 0 (len+rs.length))) ⟨bF (cj (jl σ.get ⟨y.site,σ.next⟩ my) ⟨s,σ.next⟩) ⟨x.site,σ.next⟩ ⟨true,sz,r.rows++rs⟩,σ.next⟩
     rw[Rp,<-hu]
     exact hN
    ·cases hv
   ·exact h.elim
theorem Dl {ops:Array Oper} {vl:List bq} {bs:Array Nat} {listed:Array Bool} {i s:Nat} (h:oH ops vl bs listed i s=true) (j:Nat):oH ops vl bs (listed.setIfInBounds j true) i s=true:=by
 unfold oH at h ⊢
 split at h
 ·rename_i x hx
  simp only[List.all_eq_true,Bool.or_eq_true]at h ⊢
  intro k hk
  rcases h k hk with((h|h)|h)|h
  ·exact .inl (.inl (.inl (getD_set_true h)))
  ·exact .inl (.inl (.inr h))
  ·exact .inl (.inr h)
  ·exact .inr h
 ·cases h
theorem Bg {ops:Array Oper} {vl:List bq} {listed:Array Bool} {i j s:Nat} {vi:bq} (sE:DC ops listed) (h:oH ops vl (jz ops) listed i s=true) (hi:vl[i]? =some vi) (hr:i∈Region.ready .any ops listed) (hj:j∈Region.ready .any ops listed) (mD:j≠i):∃vj,vl[j]? =some vj/\Fk s vi vj=true:=by
 unfold oH at h
 rw[hi]at h
 simp only[List.all_eq_true,Bool.or_eq_true,beq_iff_eq]at h
 obtain⟨_,o,ho,_⟩:=mem_ready.1 hj
 rcases h j (List.mem_range.2 (Array.getElem?_eq_some_iff.1 ho).1)with((h|h)|h)|h
 ·rw[jg hj]at h;cases h
 ·exact absurd h mD
 ·have:=k6 sE hj i h
  rw[jg hr]at this;cases this
 ·split at h
  ·rename_i y hy;exact⟨y,hy,h⟩
  ·cases h
theorem CB (hK:qa X) {ops:Array Oper} {vl:List bq} {K:Env->ar->Prop} {i t s sz:Nat} {ys:O} {vi:bq} (hi:vl[i]? =some vi) (hx:vi.op=.append sz (.t t) ys) (hg:vi.guard=none):∀(fuel:Nat) (listed:Array Bool) (env:Env) (σ:ar),
  DC ops listed->i∈Region.ready .any ops listed->oH ops vl (jz ops) listed i s=true->L7 t s ys env σ.next->step X vi (fun e s=>Ao X ops vl K fuel (listed.setIfInBounds i true) e s) env σ->Ao X ops vl K (fuel+1) listed env σ:=by
 intro fuel
 induction fuel with
 |zero=>
  intro listed env σ sE hr lY Qk H
  refine⟨fun h=>(by rw[h]at hr;cases hr),fun j hj=>?_⟩
  by_cases mD:j=i
  ·subst mD;exact⟨vi,hi,H⟩
  ·exfalso
   have h0:=ready_mono hj mD
   rw[tj hg]at H
   unfold fF at H
   simp only[hx]at H
   split at H
   ·rw[H.1]at h0;cases h0
   ·exact H
 |succ fuel ih=>
  intro listed env σ sE hr lY Qk H
  refine⟨fun h=>(by rw[h]at hr;cases hr),fun j hj=>?_⟩
  by_cases mD:j=i
  ·subst mD;exact⟨vi,hi,H⟩
  ·obtain⟨vj,LO,Rm⟩:=Bg sE lY hi hr hj mD
   refine⟨vj,LO,?_⟩
   have H2:step X vi (fun e s=>step X vj (fun e s=>Ao X ops vl K fuel ((listed.setIfInBounds i true).setIfInBounds j true) e s) e s) env σ:=jQ hK (fun e s h=>by
    obtain⟨vj',zE,h'⟩:=h.2 j (ready_mono hj mD)
    rw[LO]at zE;injection zE with zE;subst zE
    exact h') H
   refine jQ hK (fun e s h=>?_) (EC hx hg Rm Qk H2)
   refine ih _ _ _ (sE.list hj) (ready_mono hr (fun e=>mD e.symm)) (Dl lY j) h.1 ?_
   rw[Array.setIfInBounds_comm _ _ mD]
   exact h.2
theorem Jp {ops:Array Oper} {vl:List bq} {bs:Array Nat} {listed:Array Bool} {i i' t s:Nat} {y:O} {vo:bq} (h:Pd ops vl bs listed i=some (i',t,s,y,vo)):i'=i/\vl[i]? =some vo/\(∃sz,vo.op=.append sz (.t t) y)/\vo.guard=none/\oH ops vl bs listed i s=true:=by
 unfold Pd at h
 split at h
 ·rename_i x hx
  split at h
  ·rename_i t' s' y' j5
   split at h
   ·rename_i hf
    simp only[Option.some.injEq,Prod.mk.injEq]at h
    obtain⟨rfl,rfl,rfl,rfl,rfl⟩:=h
    unfold Nx at j5
    split at j5
    ·rename_i sz t2 y2 ho sF
     split at j5
     ·simp only[Option.some.injEq,Prod.mk.injEq]at j5
      obtain⟨rfl,rfl,rfl⟩:=j5
      exact⟨rfl,hx,⟨sz,ho⟩,sF,hf⟩
     ·cases j5
    ·cases j5
   ·cases h
  ·cases h
 ·cases h
theorem xX {X:fG} {Q:Ex->Env->ar->Prop} {env:Env} {σ:ar}:∀{l:List VC} {t:VC},AU l=some t->ek X t Q env σ->∀c∈l,ek X c Q env σ
 |[],t,h,_,c,hc=>by cases hc
 |[c0],t,h,hw,c,hc=>by
  simp only[AU,Option.some.injEq]at h
  subst h
  rw[List.mem_singleton]at hc
  subst hc;exact hw
 |c0::c1::r,t,h,hw,c,hc=>by
  simp only[AU,Option.map_eq_some_iff]at h
  obtain⟨t',HM,rfl⟩:=h
  rcases List.mem_cons.1 hc with rfl|hc
  ·exact hw.1
  ·exact xX HM hw.2 c hc
theorem mapM_mem {α β:Type} {f:α->Option β}:∀{l:List α} {r:List β},l.mapM f=some r->∀i∈l,∃b∈r,f i=some b
 |[],_,_,i,hi=>by cases hi
 |a::l,r,h,i,hi=>by
  simp only[List.mapM_cons,Option.bind_eq_bind,Option.bind_eq_some_iff,Option.pure_def,Option.some.injEq]at h
  obtain⟨b,hb,r',hr,rfl⟩:=h
  rcases List.mem_cons.1 hi with rfl|hi
  ·exact⟨b,by simp,hb⟩
  ·obtain⟨c,hc,hf⟩:=mapM_mem hr i hi
   exact⟨c,List.mem_cons_of_mem _ hc,hf⟩
theorem Hz (hK:qa X) {ops:Array Oper} {vl:List bq} {Q:Ex->Env->ar->Prop}:∀(n:Nat) (listed:Array Bool) (t:VC) (env:Env) (σ:ar),xe ops vl (jz ops) n listed=some t->DC ops listed->ek X t Q env σ->Ao X ops vl (Q .normal) n listed env σ:=by
 intro n
 induction n with
 |zero=>
  intro listed t env σ h _ hw
  unfold xe at h
  split at h
  ·rename_i hr
   simp only[Option.some.injEq]at h
   subst h
   exact⟨hr,hw⟩
  ·cases h
 |succ n ih=>
  intro listed t env σ h sE hw
  unfold xe at h
  split at h
  ·rename_i hr
   simp only[Option.some.injEq]at h
   subst h
   exact⟨fun _=>hw,fun i hi=>by rw[hr]at hi;cases hi⟩
  ·rename_i r rs hr
   dsimp only at h
   split at h
   ·rename_i i vP
    have Lu:=List.mem_of_find?_eq_some vP
    have yk:=List.find?_some vP
    rw[<-hr]at Lu
    split at h
    ·rename_i vo kI
     simp only[Option.map_eq_some_iff]at h
     obtain⟨t',HM,rfl⟩:=h
     exact ES hK kI n listed env σ sE Lu yk (jQ hK (fun e s h=>ih _ _ _ _ HM (sE.list Lu) h) hw)
    ·cases h
   ·split at h
    ·rename_i i t s y vo vP
     obtain⟨i0,HL,dR⟩:=List.exists_of_findSome?_eq_some vP
     obtain⟨rfl,kI,⟨sz,dK⟩,sF,DI⟩:=Jp dR
     rw[<-hr]at HL
     simp only[Option.map_eq_some_iff]at h
     obtain⟨t',HM,rfl⟩:=h
     exact CB hK kI dK sF n listed env σ sE HL DI hw.1 (jQ hK (fun e s h=>ih _ _ _ _ HM (sE.list HL) h) hw.2)
    split at h
    ·rename_i l hl
     have dQ:=xX h hw
     refine⟨fun h=>(by rw[h]at hr;cases hr),fun i hi=>?_⟩
     rw[hr]at hi
     obtain⟨b,HJ,Bt⟩:=mapM_mem hl i hi
     simp only[Option.bind_eq_some_iff,Option.map_eq_some_iff]at Bt
     obtain⟨vo,kI,t',HM,rfl⟩:=Bt
     exact⟨vo,kI,jQ hK (fun e s h=>ih _ _ _ _ HM (sE.list (by rw[hr];exact hi)) h) (dQ _ HJ)⟩
    ·cases h
theorem EO {ops:Array Oper} {vl:List bq} {nt site0:Nat} {draw mk:Bool} {bs:Array Nat} {hidden:List (Nat×Bool)} {K:Env->ar->Prop} {Q:Exit->Act->World->Prop} (dQ:allM (ma P ops nt site0 draw mk bs hidden) ops.toList 0=some vl):
  ∀(fuel:Nat) (listed:Array Bool) (env:Env) (σ:ar) (a:Act) (w:World) (D:Nat->Prop) (ι:Names) (U:Nat->Prop),Ao (Sound P) ops vl K fuel listed env σ->gz P hs D ι σ.get w->Used ι σ.next U->(∀s,U s->∃i,s=site0+i/\listed.getD i false=true)->cm P w D ι env a->a.tmps.size=nt->
  (∀iI σ' a' w' D' ι',K iI σ'->Step hs D ι w D' ι' w'->St P hs nt D' ι' iI σ' a' w'->a'.defers=a.defers->σ.next<=σ'.next->Q .normal a' w')->wpAny P .any ops Q fuel listed a w:=by
 intro fuel
 induction fuel with
 |zero=>intro listed env σ a w D ι U h S Us hU E fa hQ;exact⟨h.1,hQ env _ a w D ι h.2 (Step.refl _ _ _ _) ⟨S,Us.next,E,fa⟩ rfl (Nat.le_succ _)⟩
 |succ fuel ih=>
  intro listed env σ a w D ι U h S Us hU E fa hQ
  refine⟨fun hr=>hQ env _ a w D ι (h.1 hr) (Step.refl _ _ _ _) ⟨S,Us.next,E,fa⟩ rfl (Nat.le_succ _),fun i hi=>?_⟩
  obtain⟨vo,kI,hG⟩:=h.2 i hi
  obtain⟨_,o,ho,_⟩:=mem_ready.1 hi
  obtain⟨vo',me,Re⟩:=(oq dQ).2 i o (by simpa using ho)
  rw[kI]at me;injection me with me;subst me
  rw[Nat.zero_add]at Re
  obtain⟨hc,hd,BH,xD,hg⟩:=pe Re
  have hw:=tt (ops:=ops) (vo:=vo) E hg
  have Uo:¬U vo.site:=fun hu=>by
   obtain⟨i',he,hl⟩:=hU _ hu
   have:i'=i:=by omega
   subst this
   rw[jg hi]at hl;cases hl
  have jB:i<listed.size:=by
   have h0:=(mem_ready.1 hi).1
   rcases Nat.lt_or_ge i listed.size with h|h
   ·exact h
   ·simp[Array.getElem?_eq_none h]at h0
  unfold wpOp
  simp only[ho]
  rw[<-hw]
  unfold step at hG
  by_cases GG:aH vo.guard env=true
  ·rw[if_pos GG]
   rw[if_pos GG]at hG
   refine .inl (yZ hc hG S Us Uo E fun v σ' u D' ι' w' hn T S' hR U' hle=>?_)
   refine ih _ _ _ _ w' D' ι' _ hn S' U' (fun s BE=>?_) (by rw[hd];exact mT (oG E T) hR xD fa) (by rw[kZ];exact fa) fun iI σ2 a2 w2 D2 ι2 hk T2 O3 DF mV=>hQ iI σ2 a2 w2 D2 ι2 hk (T.trans T2) O3 (DF.trans (put_defers _ _ _)) (Nat.le_trans hle mV)
   rcases BE with h|h
   ·obtain⟨i',he,hl⟩:=hU _ h
    exact⟨i',he,getD_set_true hl⟩
   ·exact⟨i,by rw[h,BH],by simp[jB]⟩
  ·rw[if_neg GG]
   rw[if_neg GG]at hG
   refine ih _ _ _ _ w D ι U hG S Us (fun s BE=>?_) (by rw[hd];exact mT E dc.undef xD fa) (by rw[kZ];exact fa) fun iI σ2 a2 w2 D2 ι2 hk T2 O3 DF mV=>hQ iI σ2 a2 w2 D2 ι2 hk T2 O3 (DF.trans (put_defers _ _ _)) mV
   obtain⟨i',he,hl⟩:=hU _ BE
   exact⟨i',he,getD_set_true hl⟩
end
end Go.Proofs.YtgoelphibofcmaaGreat.V

namespace Go.Proofs.YtgoelphibofcmaaGreat.V
open Go.RowKit
variable {P:Program} {w w':World} {D D' D2:Nat->Prop} {ι ι' ι2:Names}
def CX (P:Program) (c:Code) (Q:Exit->Act->World->Prop) (a:Act) (w:World):Prop:=
 ∀(b:Frame) (k:List Item) (cs:List Frame),b.kind≠.early->∃e a' w',Q e a' w'/\Arrives P (lone (b.at a (.code c::k)) cs w) b k cs e a' w'
section
variable {Q:Exit->Act->World->Prop} {a:Act}
theorem td {c:Code} (h:c.wp P Q a w):CX P c Q a w:=fun b k cs _=>h b k cs
theorem FI {x y:Code} (h:CX P x (Exit.then (CX P y Q) Q) a w):CX P (.seq x y) Q a w:=by
 intro b k cs hb
 obtain⟨e,a1,w1,hq,jK⟩:=h b (.code y::k) cs hb
 by_cases he:e=.normal
 ·subst he
  obtain⟨e2,a2,w2,uq,IP⟩:=hq b k cs hb
  exact⟨e2,a2,w2,uq,.of_steps (.head step_seq jK) IP⟩
 ·refine⟨e,a1,w1,?_,.of_steps (.one step_seq) (.pass (x:=.code y) rfl (fun _ _=>.inl he) jK)⟩
  cases e<;>first|exact absurd rfl he|exact hq
theorem JF {c:Operand} {x y:Code} {t:Bool} (hc:a.eval c=.bool t) (h:CX P (if t then x else y) Q a w):CX P (.cond c x y) Q a w:=
 fun b k cs hb=>let ⟨e,a',w',q,r⟩:=h b k cs hb;⟨e,a',w',q,.of_steps (.one (step_cond hc)) r⟩
theorem G6 {id:Nat} {c:Code} (h:CX P c (Exit.inBlock id Q) a w):CX P (.block id c) Q a w:=by
 intro b k cs hb
 obtain⟨e,a1,w1,hq,jK⟩:=h b (.inBlock id::k) cs hb
 cases e with
 |normal=>exact⟨.normal,a1,w1,hq,.head step_block (Steps.trans jK (.one step_inBlock))⟩
 |exit kR=>
  by_cases hid:kR=id
  ·simp only[Exit.inBlock,hid,if_true]at hq
   exact⟨.normal,a1,w1,hq,.head step_block (jK k (by simp[exitTo,hid]))⟩
  ·simp only[Exit.inBlock,hid,if_false]at hq
   exact⟨.exit kR,a1,w1,hq,fun k' hk=>.head step_block (jK k' (by simp[exitTo,Ne.symm hid,hk]))⟩
 |goto l=>exact⟨_,a1,w1,hq,fun k' hk=>.head step_block (jK k' (by simp[gotoIn,hk]))⟩
 |ret=>exact⟨_,a1,w1,hq,.of_steps (.one step_block) jK⟩
 |panic ch=>exact⟨_,a1,w1,hq,.of_steps (.one step_block) jK⟩
 |outgrown=>exact⟨_,a1,w1,hq,.of_steps (b:=b) (k:=k) (cs:=cs) (e:=.outgrown) (.one step_block) jK⟩
def uL (P:Program) (c:Code) (Q:Exit->Act->World->Prop):Nat->Act->World->Prop
 |0=>fun _ _=>False
 |n+1=>CX P c (Exit.then (uL P c Q n) Q)
theorem JG {c:Code} (n:Nat) (h:uL P c Q n a w):CX P (.loop c) Q a w:=by
 intro b k cs hb
 have key:∀n a w,uL P c Q n a w->∃e a' w',Q e a' w'/\Arrives P (lone (b.at a (.code c::.inLoop c::k)) cs w) b k cs e a' w':=by
  intro n
  induction n with
  |zero=>intro a w h;exact h.elim
  |succ n ih=>
   intro a w h
   obtain⟨e,a1,w1,hq,jK⟩:=h b (.inLoop c::k) cs hb
   by_cases he:e=.normal
   ·subst he
    obtain⟨e2,a2,w2,uq,IP⟩:=ih a1 w1 hq
    exact⟨e2,a2,w2,uq,.of_steps (Steps.trans jK (.one step_inLoop)) IP⟩
   ·refine⟨e,a1,w1,?_,.pass (x:=.inLoop c) rfl (fun _ _=>.inl he) jK⟩
    cases e<;>first|exact absurd rfl he|exact hq
 obtain⟨e,a',w',hq,jK⟩:=key n a w h
 exact⟨e,a',w',hq,.of_steps (.one step_loop) jK⟩
theorem zh {f:FuncId} {fn:Func} {c:Code} {args:Array Value} {R:Ending->World->Prop} (hf:P.funcs[f]? =some fn) (hb:fn.body=some c)
  (h:CX P c (bodyPost P fn R) {tmps:=args++Array.replicate (fn.ntmps-args.size) undef,defers:=[]} w):Calls P f args w R:=by
 intro cs
 have OB:Frame.enter P f args .normal=({(default:Frame)with fn:=f,kind:=.normal}:Frame).at {tmps:=args++Array.replicate (fn.ntmps-args.size) undef,defers:=[]} [.code c]:=by simp[Frame.enter,Frame.at,hf,hb]
 obtain⟨e,a',w',hq,jK⟩:=h {(default:Frame)with fn:=f,kind:=.normal} [] cs (by simp)
 rw[<-OB]at jK
 cases e with
 |normal=>obtain⟨hd,v,hr,hR⟩:=hq;exact⟨.returned v,w',_,hR,Steps.trans jK (.one step_end),rfl,rfl,hd,rfl,fn,hf,hr⟩
 |ret=>obtain⟨hd,v,hr,hR⟩:=hq;obtain⟨todo,hs⟩:=jK;exact⟨.returned v,w',_,hR,hs,rfl,rfl,hd,rfl,fn,hf,hr⟩
 |panic chain=>obtain⟨hd,hR⟩:=hq;obtain⟨todo,hs⟩:=jK;exact⟨.panicked chain,w',_,hR,hs,rfl,rfl,hd,fn,hf⟩
 |exit id=>exact hq.elim
 |goto l=>exact hq.elim
 |outgrown=>exact⟨.outgrown,w',{(default:Frame)with fn:=f,kind:=.normal},hq,jK.resolve_left (by simp),rfl,trivial⟩
def xq (P:Program) (ops:Array Oper) (Q:Exit->Act->World->Prop) (l:List Nat) (a:Act) (w:World):Prop:=
 ∀(b:Frame) (k:List Item) (cs:List Frame),b.kind≠.early->∃e a' w',Q e a' w'/\Arrives P (lone (b.at a (.inRegion ops l::k)) cs w) b k cs e a' w'
theorem Eg {id:Nat} {ops:Array Oper} (h:xq P ops Q (List.range ops.size) a w):CX P (.region id ops false) Q a w:=
 fun b k cs hb=>let ⟨e,a',w',q,r⟩:=h b k cs hb;⟨e,a',w',q,.of_steps (.one step_region) r⟩
theorem Pk {ops:Array Oper} (h:Q .normal a w):xq P ops Q [] a w:=fun _ _ _ _=>⟨.normal,a,w,h,.one step_region_end⟩
theorem pa {o:Oper} {ys:Nat->Option Bool} (h:o.guard=none):Region.wanted o ys=true:=by simp[Region.wanted,h]
theorem JM {ops:Array Oper} {i:Nat} {rest:List Nat} {o:Oper} {v:Value} (ho:ops[i]? =some o) (hg:o.guard=none) (hr:(execOp a.eval o).run P w=.ok (.value v) w') (h:xq P ops Q rest (a.put o.dst v) w'):xq P ops Q (i::rest) a w:=by
 intro b k cs hb
 obtain⟨e,a',w2,hq,jK⟩:=h b k cs hb
 refine⟨e,a',w2,hq,.of_steps (.one ?_) jK⟩
 have sZ:(b.at a (.inRegion ops (i::rest)::k)).finish v=b.at (a.put o.dst v) (.inRegion ops rest::k):=by rw[Frame.finish_at,ho];rfl
 rw[<-sZ]
 refine step_lone_go ?_
 have h2:=stepG_op (P:=P) (b:=b) (k:=k) (cs:=cs) (w:=w) (rest:=rest) ho (pa hg (ys:=yielded ops a.tmps))
 rw[h2];simp[stepG.apply,hr]
theorem Mp {ops:Array Oper} {i:Nat} {rest:List Nat} {o:Oper} {v z:Value} {c cap s r:Nat} {buf:Array Value} (ho:ops[i]? =some o) (hg:o.guard=none) (hr:(execOp a.eval o).run P w=.ok (.comm #[Conc.scase c v z] true .send) w)
  (hc:w.heap[c]? =some (.chan cap buf false s r false)) (gh:buf.size<cap) (h:xq P ops Q rest (a.put o.dst undef) (w.setChan c cap (buf.push v) false (s+1) r false)):xq P ops Q (i::rest) a w:=by
 intro b k cs hb
 obtain⟨e,a',w2,hq,jK⟩:=h b k cs hb
 refine⟨e,a',w2,hq,.of_steps (.one ?_) jK⟩
 have sZ:(b.at a (.inRegion ops (i::rest)::k)).finish undef=b.at (a.put o.dst undef) (.inRegion ops rest::k):=by rw[Frame.finish_at,ho];rfl
 rw[<-sZ,Conc.lone_eq_solo,Conc.lone_eq_solo]
 exact Conc.step_lone_send_room (Conc.stepG_comm ho (pa hg) hb hr) hc gh
theorem Mo {ops:Array Oper} {i:Nat} {rest:List Nat} {o:Oper} {z:Value} {c cap s r:Nat} {buf:Array Value} (ho:ops[i]? =some o) (hg:o.guard=none) (hr:(execOp a.eval o).run P w=.ok (.comm #[Conc.rcase c z] true (.recv false)) w)
  (hc:w.heap[c]? =some (.chan cap buf false s r false)) (vT:0<buf.size) (h:xq P ops Q rest (a.put o.dst (buf.getD 0 undef)) (w.setChan c cap (buf.extract 1 buf.size) false s (r+1) false)):xq P ops Q (i::rest) a w:=by
 intro b k cs hb
 obtain⟨e,a',w2,hq,jK⟩:=h b k cs hb
 refine⟨e,a',w2,hq,.of_steps (.one ?_) jK⟩
 have sZ:(b.at a (.inRegion ops (i::rest)::k)).finish (buf.getD 0 undef)=b.at (a.put o.dst (buf.getD 0 undef)) (.inRegion ops rest::k):=by rw[Frame.finish_at,ho];rfl
 rw[<-sZ,Conc.lone_eq_solo,Conc.lone_eq_solo]
 exact Conc.step_lone_recv_buf false (Conc.stepG_comm ho (pa hg) hb hr) hc vT
end
section
variable {hs:Nat} {g:Rows} {env:Env} {a:Act} {o:Oper}
theorem LZ {x y:O} (hc:rf P o.op=some (.snd x y)):∃x' y',o.op=.send x' y'/\cO P x'=some x/\cO P y'=some y:=by
 unfold rf at hc
 split at hc
 case h_25=>
  rename_i x' y' h
  simp only[Option.bind_eq_bind,Option.bind_eq_some_iff,Option.pure_def,Option.some.injEq,gC.snd.injEq]at hc
  obtain⟨p,h1,q,h2,rfl,rfl⟩:=hc
  exact⟨_,_,h,h1,h2⟩
 all_goals (try unfold nC at hc)<;>(try unfold vh at hc)<;>(try unfold sP at hc)<;>(repeat' (split at hc))<;>(simp only[Option.bind_eq_bind,Option.bind_eq_some_iff,Option.pure_def,Option.some.injEq,Option.map_eq_some_iff,reduceCtorEq,and_false,exists_false]at hc)
theorem LY {x:O} (hc:rf P o.op=some (.Pq x)):∃t dir e i z x',o.op=.recv t x' false/\P.underlying t=some (.chan dir e)/\P.info? e=some i/\i.zero=some z/\cO P x'=some x:=by
 unfold rf at hc
 split at hc
 case h_26=>
  rename_i t x' h
  split at hc
  ·rename_i dir e ht
   split at hc
   ·rename_i z hz
    simp only[Option.bind_eq_some_iff]at hz
    obtain⟨i,hi,hz⟩:=hz
    simp only[Option.map_eq_some_iff,gC.Pq.injEq]at hc
    obtain⟨p,h1,rfl⟩:=hc
    exact⟨t,dir,e,i,z,x',h,ht,hi,hz,h1⟩
   ·cases hc
  ·cases hc
 all_goals (try unfold nC at hc)<;>(try unfold vh at hc)<;>(try unfold sP at hc)<;>(repeat' (split at hc))<;>(simp only[Option.bind_eq_bind,Option.bind_eq_some_iff,Option.pure_def,Option.some.injEq,Option.map_eq_some_iff,reduceCtorEq,and_false,exists_false]at hc)
theorem QO {x y:O} {g':Rows} (S:gz P hs D ι g w) (hc:rf P o.op=some (.snd x y)) (E:cm P w D ι env a) (hv:ee g (da env x) (da env y)=some g'):
  ∃c cap s r buf u,(execOp a.eval o).run P w=.ok (.comm #[Conc.scase c u (.tuple #[])] true .send) w/\w.heap[c]? =some (.chan cap buf false s r false)/\buf.size<cap/\gz P hs D ι g' (w.setChan c cap (buf.push u) false (s+1) r false)/\Step hs D ι w D ι (w.setChan c cap (buf.push u) false (s+1) r false):=by
 obtain⟨x',y',ho,hx,hy⟩:=LZ hc
 have rx:=dj E hx
 have ry:=dj E hy
 unfold ee at hv
 split at hv
 ·rename_i i he
  simp only[Option.bind_eq_some_iff]at hv
  obtain⟨r,hg,hv⟩:=hv
  split at hv
  ·rename_i hcond
   simp only[Option.some.injEq]at hv
   subst hv
   obtain⟨B,c,hu,hB,hk,fa,buf,s,q,hb,KC,hR⟩:=zi S rx he hg
   obtain⟨B',dD,RR,_⟩:=S.row i r hg
   rw[hB]at dD;injection dD with dD;subst dD
   have nT:=S.HA (ob:=.chan c (buf.push (a.eval y')) false (s+1) q false) (r':={r with rows:=r.rows++[[da env y]]}) hg hcond.1 hB fun hr kQ=>⟨RR.sz,fun cs dr=>?_,fun h0=>(by rw[hk]at h0;cases h0),fun m hm=>(by rw[hk]at hm;cases hm),fun c' kg=>?_⟩
   ·exact⟨B.b,c,s,q,buf,a.eval y',by simp[execOp,ho,hu,Conc.scase],hb,by rw[KC];omega,nT.1,nT.2⟩
   ·rcases List.mem_append.1 dr with h|h
    ·exact RR.flat cs h
    ·rw[List.mem_singleton.1 h]
     intro b sY
     rw[List.mem_singleton.1 sY];exact hcond.2.2
   ·rw[hk]at kg
    simp only[Option.some.injEq,BK.chan.injEq]at kg
    subst kg
    refine⟨fa,_,_,_,kQ,by simp[KC],fun j cs hj=>?_⟩
    rw[List.getElem?_append]at hj
    split at hj
    ·rename_i dR
     obtain⟨b,u,q1,q2,q3⟩:=hR j cs hj
     refine⟨b,u,q1,?_,hr _ _ q3⟩
     rw[Array.getElem?_push,if_neg (by omega)];exact q2
    ·rename_i qG
     have gN:j=r.rows.length:=by
      have:=(List.getElem?_eq_some_iff.1 hj).1
      simp at this;omega
     subst gN
     simp at hj
     subst hj
     exact⟨_,_,rfl,by rw[Array.getElem?_push,if_pos KC.symm],hr _ _ ry⟩
  ·cases hv
 ·cases hv
theorem QN {x:O} {g':Rows} {v:AV} (S:gz P hs D ι g w) (hc:rf P o.op=some (.Pq x)) (E:cm P w D ι env a) (hv:ec g (da env x)=some (v,g')):
  ∃c cap s r buf z,(execOp a.eval o).run P w=.ok (.comm #[Conc.rcase c z] true (.recv false)) w/\w.heap[c]? =some (.chan cap buf false s r false)/\0<buf.size/\gz P hs D ι g' (w.setChan c cap (buf.extract 1 buf.size) false s (r+1) false)/\Step hs D ι w D ι (w.setChan c cap (buf.extract 1 buf.size) false s (r+1) false)/\dc P (w.setChan c cap (buf.extract 1 buf.size) false s (r+1) false) D ι v (buf.getD 0 undef):=by
 obtain⟨t,dir,e,i0,z,x',ho,ht,hi,hz,hx⟩:=LY hc
 have rx:=dj E hx
 unfold ec at hv
 split at hv
 ·rename_i i he
  simp only[Option.bind_eq_some_iff]at hv
  obtain⟨r,hg,hv⟩:=hv
  split at hv
  ·rename_i v' rest rU
   split at hv
   ·rename_i hcond
    simp only[Option.some.injEq,Prod.mk.injEq]at hv
    obtain⟨rfl,rfl⟩:=hv
    obtain⟨B,c,hu,hB,hk,fa,buf,s,q,hb,KC,hR⟩:=zi S rx he hg
    obtain⟨B',dD,RR,_⟩:=S.row i r hg
    rw[hB]at dD;injection dD with dD;subst dD
    obtain⟨b0,u0,q1,q2,q3⟩:=hR 0 [v'] (by rw[rU];rfl)
    simp only[List.cons.injEq,and_true]at q1
    subst q1
    have lu:0<buf.size:=by rw[KC,rU];simp
    have Tm:buf.getD 0 undef=u0:=by rw[Array.getD_eq_getD_getElem?,q2];rfl
    have nT:=S.HA (ob:=.chan c (buf.extract 1 buf.size) false s (q+1) false) (r':={r with rows:=rest}) hg hcond hB fun hr kQ=>⟨RR.sz,fun cs dr=>RR.flat cs (by rw[rU];exact List.mem_cons_of_mem _ dr),fun h0=>(by rw[hk]at h0;cases h0),fun m hm=>(by rw[hk]at hm;cases hm),fun c' kg=>?_⟩
    ·refine⟨B.b,c,s,q,buf,z,?_,hb,lu,nT.1,nT.2,?_⟩
     ·have qL:(zeroValue e).run P w=.ok z w:=by simp[zeroValue,typeInfo,hi,hz]
      simp[execOp,ho,hu,Conc.rcase,run_underlying ht,qL]
     ·rw[Tm];exact nT.2.rep q3
    ·rw[hk]at kg
     simp only[Option.some.injEq,BK.chan.injEq]at kg
     subst kg
     refine⟨fa,_,_,_,kQ,by simp[KC,rU],fun j cs hj=>?_⟩
     obtain⟨b,u,k1,k2,k3⟩:=hR (j+1) cs (by rw[rU];simpa using hj)
     refine⟨b,u,k1,?_,hr _ _ k3⟩
     have dR:=(Array.getElem?_eq_some_iff.1 k2).1
     rw[Array.getElem?_extract,if_pos (by omega),Nat.add_comm 1 j];exact k2
   ·cases hv
  ·cases hv
 ·cases hv
theorem Ge {ops:Array Oper} {nt site0:Nat} {K:Env->ar->Prop} {Q:Exit->Act->World->Prop}:∀(l:List Oper) (vl:List bq) (j:Nat) (env:Env) (σ:ar) (a:Act) (w:World) (D:Nat->Prop) (ι:Names),
  ops.toList.drop j=l->allM (ma P ops nt site0 false false #[] []) l j=some vl->cw vl K env σ->gz P hs D ι σ.get w->Used ι σ.next (fun _=>False)->cm P w D ι env a->a.tmps.size=nt->
  (∀iI σ' a' w' D' ι',K iI σ'->Step hs D ι w D' ι' w'->St P hs nt D' ι' iI σ' a' w'->a'.defers=a.defers->σ.next<=σ'.next->Q .normal a' w')->xq P ops Q (List.range' j l.length) a w:=by
 intro l
 induction l with
 |nil=>
  intro vl j env σ a w D ι _ h hv S Us E fa hQ
  simp[allM]at h;subst h
  exact Pk (hQ env ⟨σ.get,σ.next+1⟩ a w D ι hv (Step.refl _ _ _ _) ⟨S,Us.next,E,fa⟩ rfl (Nat.le_succ _))
 |cons o l ih=>
  intro vl j env σ a w D ι hl h hv S Us E fa hQ
  simp only[allM,Option.bind_eq_bind,Option.bind_eq_some_iff,Option.pure_def,Option.some.injEq]at h
  obtain⟨vo,kI,tr,sJ,rfl⟩:=h
  obtain⟨hc,hd,BH,xD,hg⟩:=pe kI
  obtain⟨Rq,hv⟩:=hv
  have U3:o.guard=none:=by
   split at hg
   ·assumption
   ·obtain⟨t,_,h⟩:=hg
    rw[Rq]at h;cases h
  have U4:ops[j]? =some o:=by
   have h0:=congrArg (fun x=>x[0]?) hl
   rw[<-Array.getElem?_toList]
   simpa[List.getElem?_drop]using h0
  have KI:ops.toList.drop (j+1)=l:=by rw[<-List.drop_drop,hl];rfl
  have go:∀(v:AV) (u:Value) (g2:Rows) (w2:World),cw tr K (upd env vo.dst v) ⟨g2,σ.next⟩->gz P hs D ι g2 w2->Step hs D ι w D ι w2->dc P w2 D ι v u->xq P ops Q (List.range' (j+1) l.length) (a.put o.dst u) w2:=fun v u g2 w2 hn S2 T hR=>
   ih tr (j+1) (upd env vo.dst v) ⟨g2,σ.next⟩ (a.put o.dst u) w2 D ι KI sJ hn S2 Us (by rw[hd];exact mT (oG E T) hR xD fa) (by rw[kZ];exact fa) fun iI σ2 a' w3 D3 ι3 hk T2 NO DF mV=>hQ iI σ2 a' w3 D3 ι3 hk (T.trans T2) NO (DF.trans (put_defers _ _ _)) mV
  rw[show List.range' j (o::l).length=j::List.range' (j+1) l.length from rfl]
  split at hv
  ·rename_i x y dK
   split at hv
   ·rename_i g2 Qr
    rw[dK]at hc
    obtain⟨c,cap,s,r,buf,u,gE,hb,gh,S2,T⟩:=QO S hc E Qr
    exact Mp U4 U3 gE hb gh (go _ _ _ _ hv S2 T dc.undef)
   ·exact hv.elim
  ·rename_i x dK
   split at hv
   ·rename_i v g2 Qr
    rw[dK]at hc
    obtain⟨c,cap,s,r,buf,z,gE,hb,vT,S2,T,hR⟩:=QN S hc E Qr
    exact Mo U4 U3 gE hb vT (go _ _ _ _ hv S2 T hR)
   ·exact hv.elim
  ·split at hv
   ·rename_i v hq
    obtain⟨u,gE,hR⟩:=yQ hc hq S E
    exact JM U4 U3 gE (go _ _ _ _ hv S (Step.refl _ _ _ _) hR)
   ·exact hv.elim
end
end Go.Proofs.YtgoelphibofcmaaGreat.V

namespace Go.Proofs.YtgoelphibofcmaaGreat.V
open Go.RowKit
variable {P:Program} {w w':World} {D D' D2:Nat->Prop} {ι ι' ι2:Names}
section
variable {hs:Nat} {X:fG}
def exO:Ex->Exit
 | .normal=>.normal
 | .exit id=>.exit id
 | .ret=>.ret
theorem St.drew {nt:Nat} {env:Env} {σ:ar} {a:Act} {D:Nat->Prop} {ι:Names} (h:St P hs nt D ι env σ a w):St P hs nt D ι env σ a w.drew/\Step hs D ι w D ι w.drew:=by
 have T:Step hs D ι w D ι w.drew:=Step.stay h.KP (fun _ _=>rfl) (Nat.le_refl _) rfl rfl rfl (fun _ h=>h) (fun _ h=>.inl h) (fun _ _ h=>h)
 exact⟨⟨h.KP.stay (fun _ _=>rfl) (Nat.le_refl _) (fun _ h=>h) h.KP.dead (fun _ h=>.inl h) (fun _ _ h=>h),h.used,oG h.env T,h.size⟩,T⟩
def uZ (P:Program) (hs nt:Nat) (ds:List Deferred) (Q:Ex->Env->ar->Prop) (n0:Nat) (D:Nat->Prop) (ι:Names) (w:World) (Q':Exit->Act->World->Prop):Prop:=
 ∀ex env σ a w' D' ι',Q ex env σ->Step hs D ι w D' ι' w'->St P hs nt D' ι' env σ a w'->a.defers=ds->n0<=σ.next->Q' (exO ex) a w'
theorem uZ.later {nt:Nat} {ds:List Deferred} {Q:Ex->Env->ar->Prop} {n0 n1:Nat} {Q':Exit->Act->World->Prop} (h:uZ P hs nt ds Q n0 D ι w Q') (T:Step hs D ι w D' ι' w') (hn:n0<=n1):uZ P hs nt ds Q n1 D' ι' w' Q':=
 fun ex env σ a w2 D2 ι2 hq T2 dL hd hle=>h ex env σ a w2 D2 ι2 hq (T.trans T2) dL hd (Nat.le_trans hn hle)
theorem vD (hm:P.follows .mixedOrders=true) {md:List (Nat×Nat)} {nt vG:Nat}:∀(c:Code) (vc:VC),jE P md nt vG c=some vc->∀(Q:Ex->Env->ar->Prop) (env:Env) (σ:ar) (a:Act) (w:World) (D:Nat->Prop) (ι:Names) (Q':Exit->Act->World->Prop),
  ek (Sound P) vc Q env σ->St P hs nt D ι env σ a w->uZ P hs nt a.defers Q σ.next D ι w Q'->CX P c Q' a w:=by
 intro c
 induction c with
 |skip=>
  intro vc h Q env σ a w D ι Q' hv dL hQ
  simp[jE]at h;subst h
  exact td <| wp_skip (hQ .normal env σ a w D ι hv (Step.refl _ _ _ _) dL rfl (Nat.le_refl _))
 |exit id=>
  intro vc h Q env σ a w D ι Q' hv dL hQ
  simp[jE]at h;subst h
  exact td <| wp_exit (hQ (.exit id) env σ a w D ι hv (Step.refl _ _ _ _) dL rfl (Nat.le_refl _))
 |ret=>
  intro vc h Q env σ a w D ι Q' hv dL hQ
  simp[jE]at h;subst h
  exact td <| wp_ret (hQ .ret env σ a w D ι hv (Step.refl _ _ _ _) dL rfl (Nat.le_refl _))
 |seq x y ihx ihy=>
  intro vc h Q env σ a w D ι Q' hv dL hQ
  simp only[jE,Option.bind_eq_bind,Option.bind_eq_some_iff,Option.pure_def,Option.some.injEq]at h
  obtain⟨vx,hx,vy,hy,rfl⟩:=h
  refine FI (ihx vx hx _ env σ a w D ι _ hv dL fun ex jA σ1 a1 w1 D1 ι1 hq T j7 hd hle=>?_)
  cases ex with
  |normal=>exact ihy vy hy Q jA σ1 a1 w1 D1 ι1 Q' hq j7 (by rw[hd];exact hQ.later T hle)
  |exit id=>exact hQ (.exit id) jA σ1 a1 w1 D1 ι1 hq T j7 hd hle
  |ret=>exact hQ .ret jA σ1 a1 w1 D1 ι1 hq T j7 hd hle
 |cond c x y ihx ihy=>
  intro vc h Q env σ a w D ι Q' hv dL hQ
  simp only[jE,Option.bind_eq_bind,Option.bind_eq_some_iff,Option.pure_def,Option.some.injEq]at h
  obtain⟨c',hc,vx,hx,vy,hy,rfl⟩:=h
  unfold ek at hv
  have hr:=dj dL.env hc
  split at hv
  ·rename_i b hb
   rw[hb]at hr
   refine JF (e7 hr) ?_
   cases b with
   |true=>exact ihx vx hx Q env σ a w D ι Q' hv dL hQ
   |false=>exact ihy vy hy Q env σ a w D ι Q' hv dL hQ
  ·exact hv.elim
 |block id c ih=>
  intro vc h Q env σ a w D ι Q' hv dL hQ
  simp only[jE,Option.map_eq_some_iff]at h
  obtain⟨vx,hx,rfl⟩:=h
  refine G6 (ih vx hx _ env σ a w D ι _ hv dL fun ex jA σ1 a1 w1 D1 ι1 hq T j7 hd hle=>?_)
  cases ex with
  |normal=>exact hQ .normal jA σ1 a1 w1 D1 ι1 hq T j7 hd hle
  |ret=>exact hQ .ret jA σ1 a1 w1 D1 ι1 hq T j7 hd hle
  |exit kR=>
   simp only[bf]at hq
   simp only[exO,Exit.inBlock]
   by_cases hid:kR=id
   ·rw[if_pos hid]at hq ⊢;exact hQ .normal jA σ1 a1 w1 D1 ι1 hq T j7 hd hle
   ·rw[if_neg hid]at hq ⊢;exact hQ (.exit kR) jA σ1 a1 w1 D1 ι1 hq T j7 hd hle
 |loop c ih=>
  intro vc h Q env σ a w D ι Q' hv dL hQ
  simp only[jE,Option.map_eq_some_iff]at h
  obtain⟨vx,hx,rfl⟩:=h
  obtain⟨n,hv⟩:=hv
  refine JG n ?_
  have key:∀n env σ a w D ι,FE (ek (Sound P) vx) Q n env σ->St P hs nt D ι env σ a w->uZ P hs nt a.defers Q σ.next D ι w Q'->uL P c Q' n a w:=by
   intro n
   induction n with
   |zero=>intro env σ a w D ι h;exact h.elim
   |succ n ihn=>
    intro env σ a w D ι h dL hQ
    refine ih vx hx _ env σ a w D ι _ h dL fun ex jA σ1 a1 w1 D1 ι1 hq T j7 hd hle=>?_
    cases ex with
    |normal=>exact ihn jA σ1 a1 w1 D1 ι1 hq j7 (by rw[hd];exact hQ.later T hle)
    |exit id=>exact hQ (.exit id) jA σ1 a1 w1 D1 ι1 hq T j7 hd hle
    |ret=>exact hQ .ret jA σ1 a1 w1 D1 ι1 hq T j7 hd hle
  exact key n env σ a w D ι hv dL hQ
 |region id ops draw=>
  intro vc h Q env σ a w D ι Q' hv dL hQ
  simp only[jE,QM]at h
  split at h
  ·rename_i hmode
   have UB:draw=true:=by
    simp only[Bool.and_eq_true]at hmode;exact hmode.1
   subst UB
   split at h
   ·rename_i vl dQ
    obtain⟨rV,T0⟩:=dL.drew
    have Dv:=Hz (X:=Sound P) qk ops.size _ vc env σ h (fun k i h=>by
     exfalso
     rcases Nat.lt_or_ge k ops.size with hk|hk
     ·simp[hk]at h
     ·simp[Nat.not_lt.2 hk]at h) hv
    refine td (wp_region_any hm ?_)
    exact EO dQ ops.size _ env σ a w.drew D ι (fun _=>False) Dv rV.KP rV.used (fun _ h=>h.elim) rV.env rV.size fun jA σ1 a1 w1 D1 ι1 hk T j7 hd hle=>hQ .normal jA σ1 a1 w1 D1 ι1 hk (T0.trans T) j7 hd hle
   ·cases h
  split at h
  ·rename_i hcom
   have UB:draw=false:=by
    simp only[Bool.and_eq_true,Bool.not_eq_true']at hcom;exact hcom.1
   subst UB
   simp only[Option.map_eq_some_iff]at h
   obtain⟨vl,sJ,rfl⟩:=h
   have dQ:allM (ma P ops nt ((vG*1000+id)*1000) false false #[] []) ops.toList 0=some vl:=by
    unfold rJ at sJ
    simp only[Bool.false_eq_true,if_false,Bool.not_false,Bool.true_or,if_true]at sJ
    split at sJ
    ·rename_i tr h;simp at sJ;subst sJ;exact h
    ·cases sJ
   refine Eg ?_
   have:=Ge (Q:=Q') ops.toList vl 0 env σ a w D ι rfl dQ hv dL.KP dL.used dL.env dL.size fun jA σ1 a1 w1 D1 ι1 hk T j7 hd hle=>hQ .normal jA σ1 a1 w1 D1 ι1 hk T j7 hd hle
   rwa [<-List.range_eq_range',Array.length_toList]at this
  generalize (wq md id==1)=mk at h
  simp only[Option.map_eq_some_iff]at h
  obtain⟨vl,sJ,rfl⟩:=h
  cases draw with
  |false=>
   have dQ:∃tr,allM (ma P ops nt ((vG*1000+id)*1000) false mk #[] []) ops.toList 0=some tr/\vl=tr:=by
    unfold rJ at sJ
    simp only[Bool.false_eq_true,if_false,Bool.not_false,Bool.true_or,if_true]at sJ
    split at sJ
    ·rename_i tr h;simp at sJ;exact⟨tr,h,sJ.symm⟩
    ·cases sJ
   obtain⟨tr,dQ,rfl⟩:=dQ
   refine td (wp_region_list ?_)
   exact G9 ops.toList vl 0 env σ a w D ι (fun _=>False) dQ hv dL.KP dL.used (fun _ h=>h.elim) dL.env dL.size fun jA σ1 a1 w1 D1 ι1 hk T j7 hd hle=>hQ .normal jA σ1 a1 w1 D1 ι1 hk T j7 hd hle
  |true=>
   have dQ:∃hidden tr,allM (ma P ops nt ((vG*1000+id)*1000) true mk (jz ops) hidden) ops.toList 0=some tr/\vl=tr/\oF ops tr (jz ops)=true:=by
    unfold rJ at sJ
    simp only[if_true,Bool.not_true,Bool.false_or]at sJ
    split at sJ
    ·rename_i tr h
     split at sJ
     ·rename_i vR;simp at sJ;exact⟨_,tr,h,sJ.symm,vR⟩
     ·cases sJ
    ·cases sJ
   obtain⟨hidden,tr,dQ,rfl,vR⟩:=dQ
   obtain⟨rV,T0⟩:=dL.drew
   obtain⟨hlen,_⟩:=oq dQ
   have kP:vl.length=ops.size:=by rw[hlen];simp
   have Dv:=xg (X:=Sound P) (K:=Q .normal) (n:=σ.next) vR kP vl 0 (Array.replicate ops.size false) env σ.get (by simp) (by simp) (fun i hi=>by simp[hi]) (by simp[kP]) (fun k i h=>by
    exfalso
    rcases Nat.lt_or_ge k ops.size with hk|hk
    ·simp[hk]at h
    ·simp[Nat.not_lt.2 hk]at h) hv
   refine td (wp_region_any hm ?_)
   rw[kP]at Dv
   exact xS dQ ops.size _ env σ.get a w.drew D ι (fun _=>False) Dv rV.KP rV.used (fun _ h=>h.elim) rV.env rV.size fun jA g1 a1 w1 D1 ι1 U1 hk T S1 TE E1 yw hd=>hQ .normal jA ⟨g1,σ.next+1⟩ a1 w1 D1 ι1 hk (T0.trans T) ⟨S1,TE.next,E1,yw⟩ hd (Nat.le_succ _)
 |_=>
  intro vc h
  simp[jE]at h
def JU (tmps:Array Value):ResultVar->Sem Value
 | .tmp t=>pure (tmps.getD t undef)
 | .cell a t=>do loadVar t (<-asAddr (tmps.getD a undef))
theorem Eo (fn:Func) (tmps:Array Value):results fn tmps=(do
  let vs <-fn.results.mapM (JU tmps)
  pure (if h:vs.size=1 then vs[0]else .tuple vs)):=by
 unfold results
 congr 2
theorem tX {nt:Nat} {env:Env} {σ:ar} {a:Act} {D:Nat->Prop} {ι:Names} (dL:St P hs nt D ι env σ a w):∀(rs:List ResultVar) (vr:List oj) (vs:List AV),rs.mapM (Db P)=some vr->fq env σ.get vr=some vs->
  ∃us:List Value,(rs.mapM (JU a.tmps)).run P w=.ok us w/\us.length=vs.length/\∀(j:Nat) (v:AV),vs[j]? =some v->∃u,us[j]? =some u/\dc P w D ι v u
 |[],vr,vs,h,hv=>by
  simp at h;subst h
  simp[fq]at hv;subst hv
  exact⟨[],by simp,rfl,fun j v h=>by simp at h⟩
 |r::rs,vr,vs,h,hv=>by
  simp only[List.mapM_cons,Option.bind_eq_bind,Option.bind_eq_some_iff]at h
  obtain⟨x,hx,vr',hr,h⟩:=h
  simp at h;subst h
  simp only[fq,Option.bind_eq_some_iff,Option.map_eq_some_iff]at hv
  obtain⟨v,vU,Vq,LP,rfl⟩:=hv
  obtain⟨us,h1,h2,h3⟩:=tX dL rs vr' Vq hr LP
  have one:∃u,(JU a.tmps r).run P w=.ok u w/\dc P w D ι v u:=by
   cases r with
   |tmp t=>
    simp[Db]at hx;subst hx
    simp[iu]at vU;subst vU
    exact⟨_,rfl,dL.env t⟩
   |cell b t=>
    simp only[Db,Option.bind_eq_bind,Option.bind_eq_some_iff,Option.pure_def,Option.some.injEq]at hx
    obtain⟨ag,uH,n,hn,rfl⟩:=hx
    simp only[iu]at vU
    have gZ:=dL.env b
    unfold ld at vU
    split at vU
    ·rename_i kR i' oo hb
     rw[hb]at gZ
     obtain⟨B,he,hB,hk⟩:=iU gZ
     simp only[Option.bind_eq_some_iff]at vU
     obtain⟨cs,dr,hp⟩:=vU
     obtain⟨B',r0,HK,dD,R,hi,fl,f,hf⟩:=JZ (S:=dL.KP) dr (fun B2 h2=>by rw[hB]at h2;injection h2 with h2;subst h2;exact hk)
     rw[hB]at dD;injection dD with dD;subst dD
     obtain⟨u,k1,k2⟩:=kG (w:=w) (b:=B.b) (oo:=i'*B.sz+oo) (f:=fun j=>f (oo+j)) uH hn hp (fun a ha=>fl a (List.mem_of_mem_drop ha)) (fun j hj=>by
      rw[Nat.add_assoc];exact(hf _ (by simp at hj;omega)).1) (fun j a ha=>by
      simp at ha;exact(hf _ ((List.getElem?_eq_some_iff.1 ha).1)).2 _ ha)
     exact⟨u,by simp only[JU,he,asAddr,Sem.run_bind,Sem.run_pure,Result.andThen_ok,k1],k2⟩
    ·rename_i cs hb
     rw[hb]at gZ
     obtain⟨b',oo,vs2,he,q1,q2,q3,q4⟩:=k7 gZ
     obtain⟨u,k1,k2⟩:=kG (w:=w) (b:=b') (oo:=oo) (f:=vs2) uH hn vU q2 q3 (fun j a ha=>.eP _ _ (q4 j a ha))
     exact⟨u,by simp only[JU,he,asAddr,Sem.run_bind,Sem.run_pure,Result.andThen_ok,k1],k2⟩
    ·simp at vU
  obtain⟨u,hu,xF⟩:=one
  refine⟨u::us,?_,by simp[h2],fun j v' hj=>?_⟩
  ·rw[List.mapM_cons]
   simp only[Sem.run_bind,hu,h1,Result.andThen_ok,Sem.run_pure]
  ·cases j with
   |zero=>simp at hj;subst hj;exact⟨u,rfl,xF⟩
   |succ j=>simp at hj ⊢;exact h3 j v' hj
theorem vg {f:Nat} {fn:Func} {c:Code} {args:List AV} {σ:ar} {K:AV->ar->Prop} {vr:List oj} (Qf:P.funcs[f]? =some fn) (hc:fn.body=some c) (hr:fn.results.toList.mapM (Db P)=some vr) (ha:fn.params.size+fn.nfree=args.length) (hle:fn.params.size+fn.nfree<=fn.ntmps)
  (h:∀(hs:Nat) (w:World) (D:Nat->Prop) (ι:Names) (a:Act) (Q':Exit->Act->World->Prop),St P hs fn.ntmps D ι (ck args) σ a w->uZ P hs fn.ntmps a.defers (k8 vr K) σ.next D ι w Q'->CX P c Q' a w):Sound P f args σ K:=by
 intro hs D ι w vs S Us A
 have fa:vs.size=args.length:=A.1
 refine zh Qf hc ?_
 refine h hs w D ι _ _ ⟨S,Us,fun t=>?_,by simp;omega⟩ fun ex jA σ1 a1 w1 D1 ι1 hq T j7 hd hle=>?_
 ·simp only[ck]
  by_cases dR:t<args.length
  ·obtain⟨u,hu,xF⟩:=A.2 t args[t] (List.getElem?_eq_getElem dR)
   have e1:args.getD t .undef=args[t]:=by simp[List.getD_eq_getElem?_getD,dR]
   have e2:(vs++Array.replicate (fn.ntmps-vs.size) undef).getD t undef=u:=by
    simp only[Array.getD_eq_getD_getElem?]
    rw[Array.getElem?_append_left (by omega),hu];rfl
   rw[e1,e2];exact xF
  ·have e1:args.getD t .undef=.undef:=by simp[List.getD_eq_getElem?_getD,Nat.le_of_not_lt dR]
   have e2:(vs++Array.replicate (fn.ntmps-vs.size) undef).getD t undef=undef:=by
    simp only[Array.getD_eq_getD_getElem?]
    rw[Array.getElem?_append_right (by omega),Array.getElem?_replicate]
    split<;>rfl
   rw[e1,e2];exact dc.undef
 ·have fin:(∃vs,fq jA σ1.get vr=some vs/\K (fe vs) σ1)->a1.defers=[]/\∃v,(results fn a1.tmps).run P w1=.ok v w1/\∃r g' n' D' ι' u,Ending.returned v=.returned u/\K r ⟨g',n'⟩/\Step hs D ι w D' ι' w1/\gz P hs D' ι' g' w1/\Used ι' n' (fun _=>False)/\σ.next<=n'/\dc P w1 D' ι' r u:=by
   rintro⟨avs,LP,hK⟩
   obtain⟨us,h1,h2,h3⟩:=tX j7 fn.results.toList vr avs hr LP
   have O0:(results fn a1.tmps).run P w1=.ok (if h:us.toArray.size=1 then us.toArray[0]else .tuple us.toArray) w1:=by
    rw[Eo,Array.mapM_eq_mapM_toList]
    simp only[Sem.run_bind,Sem.run_map,h1,Result.andThen_ok,Sem.run_pure]
   refine⟨hd,_,O0,fe avs,σ1.get,σ1.next,D1,ι1,_,rfl,hK,T,j7.KP,j7.used,hle,?_⟩
   unfold fe
   split
   ·rename_i v
    have hl:us.length=1:=h2
    obtain⟨u,hu,xF⟩:=h3 0 v rfl
    rw[dif_pos (by simpa using hl)]
    have:us.toArray[0]'(by simp[hl])=u:=by
     have:=(List.getElem?_eq_some_iff.1 hu).2
     simpa using this
    rw[this];exact xF
   ·rename_i gY
    rw[dif_neg (by
     simp only[List.size_toArray,h2]
     intro h
     obtain⟨v,hv⟩:=List.length_eq_one_iff.1 h
     exact gY v hv)]
    exact .iC _ _ (fun j=>us.getD j undef) (by simp[h2]) (fun j hj=>by
     have:j<us.length:=by rw[h2];exact hj
     simp[this]) (fun j v hj=>by
     obtain⟨u,hu,xF⟩:=h3 j v hj
     simpa[List.getD_eq_getElem?_getD,hu]using xF)
  cases ex with
  |normal=>exact fin hq
  |ret=>exact fin hq
  |exit id=>exact hq.elim
theorem IH (hm:P.follows .mixedOrders=true) {f:Nat} {md:List (Nat×Nat)} {vf:y8} {args:List AV} {σ:ar} {K:AV->ar->Prop} (hf:vk P f md=some vf) (ha:vf.yL=args.length) (h:ek (Sound P) vf.body (k8 vf.res K) (ck args) σ):Sound P f args σ K:=by
 unfold vk at hf
 split at hf
 ·rename_i fn Qf
  split at hf
  ·rename_i c hc
   simp only[Option.bind_eq_bind,Option.bind_eq_some_iff]at hf
   obtain⟨vb,hb,vr,hr,hf⟩:=hf
   split at hf
   ·rename_i hle
    simp only[Option.pure_def,Option.some.injEq]at hf
    subst hf
    simp only at ha h
    exact vg Qf hc hr ha hle fun hs w D ι a Q' dL hQ=>vD hm c vb hb (k8 vr K) (ck args) σ a w D ι Q' h dL hQ
   ·simp at hf
  ·simp at hf
 ·simp at hf
def NF (P:Program) (X:fG):fG:=fun f args σ K=>(∃md vf,vk P f md=some vf/\vf.yL=args.length/\((∀a∈args,eD a)->ek X vf.body (k8 vf.res K) (ck args) σ))∨Sound P f args σ K
def Call (P:Program):fG:=fun f args σ K=>∀X:fG,qa X->(∀f args σ K,NF P X f args σ K->X f args σ K)->X f args σ K
theorem il (hm:P.follows .mixedOrders=true) {f:Nat} {args:List AV} {σ:ar} {K:AV->ar->Prop} (h:Call P f args σ K):Sound P f args σ K:=
 h (Sound P) qk fun f args σ K hs=>by
  rcases hs with⟨md,vf,h1,h2,h3⟩|h
  ·intro hs D ι w vs S U A
   exact IH hm h1 h2 (h3 (oV fun j a hj=>by obtain⟨u,_,hr⟩:=A.2 j a hj;exact hr.Jm)) hs D ι w vs S U A
  ·exact h
end
end Go.Proofs.YtgoelphibofcmaaGreat.V

namespace Go.Proofs.YtgoelphibofcmaaGreat.V
open Go.RowKit
variable {P:Program} {X Y:fG}
theorem HY (h:∀f args σ K,X f args σ K->Y f args σ K) {f:Nat} {args:List AV} {σ:ar} {K:AV->Prop} (hp:gq X f args σ K):gq Y f args σ K:=by
 rcases hp with hp|⟨a,h1,h2⟩
 ·exact .inl (h _ _ _ _ hp)
 ·exact .inr ⟨a,h1,h _ _ _ _ h2⟩
theorem KS (h:∀f args σ K,X f args σ K->Y f args σ K) {f:Nat} {args:List AV} {σ:ar} {sz:Nat} {rows:List (List AV)} (hp:CM X f args σ sz rows):CM Y f args σ sz rows:=by
 obtain⟨h1,a,h2,h3⟩:=hp
 exact⟨h1,a,h2,h _ _ _ _ h3⟩
theorem qq (h:∀f args σ K,X f args σ K->Y f args σ K) (hK:∀f args σ K K',(∀r σ',K r σ'->K' r σ')->Y f args σ K->Y f args σ K') {draw:Bool} {hid:List Nat} {site:Nat} {f:Nat} {args:List AV} {σ:ar} {n n':AV->ar->Prop} (hn:∀v σ',n v σ'->n' v σ') (hp:cE X draw hid site f args σ n):cE Y draw hid site f args σ n':=by
 rcases hp with⟨r,h1,h2⟩|⟨h1,h2⟩|⟨h1,sz,rows,h2,h3⟩
 ·exact .inl ⟨r,HY h h1,hn _ _ h2⟩
 ·exact .inr (.inl ⟨h1,hK _ _ _ _ _ hn (h _ _ _ _ h2)⟩)
 ·exact .inr (.inr ⟨h1,sz,rows,KS h h2,hn _ _ h3⟩)
theorem sD (h:∀f args σ K,X f args σ K->Y f args σ K) (hK:∀f args σ K K',(∀r σ',K r σ'->K' r σ')->Y f args σ K->Y f args σ K') {draw:Bool} {o:bq} {env:Env} {σ:ar} {n n':AV->ar->Prop} (hn:∀v σ',n v σ'->n' v σ') (hp:fF X draw o env σ n):fF Y draw o env σ n':=by
 unfold fF at hp ⊢
 split at hp
 ·exact qq h hK hn hp
 ·split at hp
  ·exact qq h hK hn hp
  ·exact qq h hK hn hp
  ·exact hp.elim
 ·split at hp
  ·exact hn _ _ hp
  ·exact hp.elim
 ·split at hp
  ·exact hn _ _ hp
  ·exact hp.elim
 ·split at hp
  ·exact hn _ _ hp
  ·exact hp.elim
 ·split at hp
  ·exact hn _ _ hp
  ·exact hp.elim
 ·split at hp
  ·exact hn _ _ hp
  ·exact hp.elim
 ·split at hp
  ·exact hn _ _ hp
  ·exact hn _ _ hp
  ·exact hp.elim
theorem ny (h:∀f args σ K,X f args σ K->Y f args σ K) (hK:∀f args σ K K',(∀r σ',K r σ'->K' r σ')->Y f args σ K->Y f args σ K') {draw:Bool} {Q Q':Env->ar->Prop} (hQ:∀e s,Q e s->Q' e s):∀(l:List bq) (env:Env) (σ:ar),wpOps X draw l Q env σ->wpOps Y draw l Q' env σ
 |[],env,σ,hp=>hQ _ _ hp
 |o::r,env,σ,hp=>by
  unfold wpOps at hp ⊢
  split at hp
  ·rename_i hw;rw[if_pos hw];exact sD h hK (fun v σ'=>ny h hK hQ r _ _) hp
  ·rename_i hw;rw[if_neg hw];exact ny h hK hQ r _ _ hp
theorem nw {Q Q':Env->ar->Prop} (hQ:∀e s,Q e s->Q' e s):∀(l:List bq) (env:Env) (σ:ar),cw l Q env σ->cw l Q' env σ
 |[],env,σ,hp=>hQ _ _ hp
 |o::r,env,σ,hp=>by
  unfold cw at hp ⊢
  refine⟨hp.1,?_⟩
  replace hp:=hp.2
  split at hp
  ·split at hp
   ·exact nw hQ r _ _ hp
   ·exact hp.elim
  ·split at hp
   ·exact nw hQ r _ _ hp
   ·exact hp.elim
  ·split at hp
   ·exact nw hQ r _ _ hp
   ·exact hp.elim
theorem lk (h:∀f args σ K,X f args σ K->Y f args σ K) (hK:∀f args σ K K',(∀r σ',K r σ'->K' r σ')->Y f args σ K->Y f args σ K'):∀(c:VC) (Q Q':Ex->Env->ar->Prop) (env:Env) (σ:ar),(∀x e s,Q x e s->Q' x e s)->ek X c Q env σ->ek Y c Q' env σ:=by
 intro c
 induction c with
 |skip=>intro Q Q' env σ hQ hp;exact hQ _ _ _ hp
 |exit id=>intro Q Q' env σ hQ hp;exact hQ _ _ _ hp
 |ret=>intro Q Q' env σ hQ hp;exact hQ _ _ _ hp
 |one o c ih=>
  intro Q Q' env σ hQ hp
  unfold ek at hp ⊢
  split at hp
  ·rename_i hw;rw[if_pos hw];exact sD h hK (fun v σ'=>ih Q Q' _ _ hQ) hp
  ·rename_i hw;rw[if_neg hw];exact ih Q Q' _ _ hQ hp
 |both a b iha ihb=>intro Q Q' env σ hQ hp;exact⟨iha Q Q' env σ hQ hp.1,ihb Q Q' env σ hQ hp.2⟩
 |loc t s y c ih=>intro Q Q' env σ hQ hp;exact⟨hp.1,ih Q Q' env σ hQ hp.2⟩
 |N5 ops=>intro Q Q' env σ hQ hp;exact nw (hQ .normal) ops env σ hp
 |eB draw ops=>intro Q Q' env σ hQ hp;exact ny h hK (hQ .normal) ops env σ hp
 |seq a b iha ihb=>
  intro Q Q' env σ hQ hp
  refine iha _ _ env σ (fun x e s hx=>?_) hp
  cases x with
  |normal=>exact ihb Q Q' e s hQ hx
  |exit id=>exact hQ _ _ _ hx
  |ret=>exact hQ _ _ _ hx
 |cond c a b iha ihb=>
  intro Q Q' env σ hQ hp
  unfold ek at hp ⊢
  split at hp
  ·rename_i t ht
   cases t with
   |true=>exact iha Q Q' env σ hQ hp
   |false=>exact ihb Q Q' env σ hQ hp
  ·exact hp.elim
 |block id a iha=>
  intro Q Q' env σ hQ hp
  refine iha _ _ env σ (fun x e s hx=>?_) hp
  cases x with
  |normal=>exact hQ _ _ _ hx
  |ret=>exact hQ _ _ _ hx
  |exit kR=>
   unfold bf at hx ⊢
   dsimp only at hx ⊢
   split at hx
   ·rename_i hid;rw[if_pos hid];exact hQ _ _ _ hx
   ·rename_i hid;rw[if_neg hid];exact hQ _ _ _ hx
 |loop a iha=>
  intro Q Q' env σ hQ hp
  obtain⟨n,hp⟩:=hp
  refine⟨n,?_⟩
  induction n generalizing env σ with
  |zero=>exact hp
  |succ n ihn=>
   refine iha _ _ env σ (fun x e s hx=>?_) hp
   cases x with
   |normal=>exact ihn e s hx
   |exit id=>exact hQ _ _ _ hx
   |ret=>exact hQ _ _ _ hx
theorem aI:qa (Call P):=fun _ _ _ _ _ hK h X hX hc=>hX _ _ _ _ _ hK (h X hX hc)
theorem xQ {f:Nat} {args:List AV} {σ:ar} {K:AV->ar->Prop} (h:NF P (Call P) f args σ K):Call P f args σ K:=by
 intro X hX hc
 refine hc _ _ _ _ ?_
 rcases h with⟨md,vf,h1,h2,h3⟩|h
 ·exact .inl ⟨md,vf,h1,h2,fun hl=>lk (fun f args σ K h=>h X hX hc) hX _ _ _ _ _ (fun _ _ _ h=>h) (h3 hl)⟩
 ·exact .inr h
theorem uS {f:Nat} {md:List (Nat×Nat)} {args:List AV} {σ:ar} {K:AV->ar->Prop} {vf:y8} (hf:vk P f md=some vf) (ha:vf.yL=args.length) (h:(∀a∈args,eD a)->ek (Call P) vf.body (k8 vf.res K) (ck args) σ):Call P f args σ K:=
 xQ (.inl ⟨md,vf,hf,ha,h⟩)
theorem l6 {f:Nat} {args:List AV} {σ:ar} {K:AV->ar->Prop} {vf:y8} (hf:mO P f=some vf) (ha:vf.yL=args.length) (h:(∀a∈args,eD a)->ek (Call P) vf.body (k8 vf.res K) (ck args) σ):Call P f args σ K:=
 uS hf ha h
theorem fN {f:Nat} {args:List AV} {σ:ar} {K:AV->ar->Prop} (h:Sound P f args σ K):Call P f args σ K:=xQ (.inr h)
def kj (P:Program) (f:Nat) (args:List AV) (r:AV):Prop:=∀σ,PC (Call P) f args σ (fun r'=>r'=r)
theorem kj.body {f:Nat} {args:List AV} {r:AV} {nt na:Nat} {body:VC} {res:List oj} (hf:mO P f=some ⟨nt,na,body,res⟩) (ha:na=args.length) (h:(∀a∈args,eD a)->∀σ:ar,ek (Call P) body (k8 res fun r0 σ'=>∃r',fz σ'.get 6 r0=some r'/\r'=r) (ck args) ⟨V.ro σ.get,σ.next⟩):kj P f args r:=fun σ=>l6 hf ha fun hl=>h hl σ
variable {Q:Ex->Env->ar->Prop} {K:Env->ar->Prop} {env:Env} {σ:ar}
theorem CC {a b:VC} (h:∀N:Env->ar->Prop,(∀e s,ek X b Q e s->N e s)->ek X a (du N Q) env σ):ek X (.seq a b) Q env σ:=h _ fun _ _ h=>h
theorem Ar (h:Q .normal env σ):ek X .skip Q env σ:=h
theorem Ap {id:Nat} (h:Q (.exit id) env σ):ek X (.exit id) Q env σ:=h
theorem FW (h:Q .ret env σ):ek X .ret Q env σ:=h
theorem uO {id:Nat} {c:VC} (h:ek X c (bf id Q) env σ):ek X (.block id c) Q env σ:=h
theorem FU {o:bq} {c:VC} (h:∀N:AV->ar->Prop,(∀v s,ek X c Q (upd env o.dst v) s->N v s)->if aH o.guard env then fF X false o env σ N else N .undef σ):ek X (.one o c) Q env σ:=by
 have:=h (fun v s=>ek X c Q (upd env o.dst v) s) fun _ _ h=>h
 unfold ek
 split
 ·rename_i hw;rw[if_pos hw]at this;exact this
 ·rename_i hw;rw[if_neg hw]at this;exact this
def ef (s n:Nat):AV->Prop
 | .own id 0 _=>id=⟨s,n⟩
 |_=>False
def ep (n:Nat):AV->Prop
 | .own id _ _=>¬id.bm=n
 |_=>True
theorem Aq {t s:Nat} {y:O} {c:VC} (h1:ef s σ.next (env t)) (h2:ep σ.next (da env y)) (h:ek X c Q env σ):ek X (.loc t s y c) Q env σ:=by
 refine⟨⟨?_,fun id o l he=>?_⟩,h⟩
 ·revert h1
  unfold ef
  split
  ·rename_i id l he;rintro rfl;exact⟨l,he⟩
  ·exact fun h=>h.elim
 ·rw[he]at h2;exact h2
theorem e8 {a b:VC} (ha:ek X a Q env σ) (hb:ek X b Q env σ):ek X (.both a b) Q env σ:=⟨ha,hb⟩
theorem FV {draw:Bool} {ops:List bq} (h:∀N:Env->ar->Prop,(∀e s,Q .normal e s->N e s)->wpOps X draw ops N env σ):ek X (.eB draw ops) Q env σ:=h _ fun _ _ h=>h
theorem Kq {ops:List bq} (h:cw ops (Q .normal) env σ):ek X (.N5 ops) Q env σ:=h
theorem FT {draw:Bool} (h:K env ⟨σ.get,σ.next+1⟩):wpOps X draw [] K env σ:=h
theorem PH {draw:Bool} {o:bq} {r:List bq} (h:∀N:AV->ar->Prop,(∀v s,wpOps X draw r K (upd env o.dst v) s->N v s)->if aH o.guard env then fF X draw o env σ N else N .undef σ):wpOps X draw (o::r) K env σ:=by
 have:=h (fun v s=>wpOps X draw r K (upd env o.dst v) s) fun _ _ h=>h
 unfold wpOps
 split
 ·rename_i hw;rw[if_pos hw]at this;exact this
 ·rename_i hw;rw[if_neg hw]at this;exact this
theorem Kr {c:O} {x y:VC} {b:Bool} (hc:da env c=.bool b) (ht:b=true->ek X x Q env σ) (hf:b=false->ek X y Q env σ):ek X (.cond c x y) Q env σ:=by
 unfold ek
 simp only[hc]
 cases b with
 |true=>exact ht rfl
 |false=>exact hf rfl
inductive n9:AV->Prop->Prop->Prop
 |t {A B:Prop}:A->n9 (.bool true) A B
 |f {A B:Prop}:B->n9 (.bool false) A B
theorem uP {c:O} {x y:VC} {v:AV} (hv:da env c=v) (h:n9 v (ek X x Q env σ) (ek X y Q env σ)):ek X (.cond c x y) Q env σ:=by
 cases h with
 |t h=>exact Kr hv (fun _=>h) (fun e=>by cases e)
 |f h=>exact Kr hv (fun e=>by cases e) (fun _=>h)
theorem PG {c:VC} (I:Nat->Env->ar->Prop) (n:Nat) (h0:I n env σ) (step:∀n env σ,I n env σ->ek X c (fun x e s=>match x with| .normal=>∃m,m<n/\I m e s|x=>Q x e s) env σ)
  (hX:∀(c:VC) (Q Q':Ex->Env->ar->Prop) env σ,(∀x e s,Q x e s->Q' x e s)->ek X c Q env σ->ek X c Q' env σ):ek X (.loop c) Q env σ:=by
 have key:∀N n env σ,n<N->I n env σ->FE (ek X c) Q N env σ:=by
  intro N
  induction N with
  |zero=>intro n env σ h;exact absurd h (Nat.not_lt_zero _)
  |succ N ih=>
   intro n env σ hn hI
   refine hX c _ _ env σ (fun x e s hx=>?_) (step n env σ hI)
   cases x with
   |normal=>obtain⟨m,hm,hI'⟩:=hx;exact ih m e s (by omega) hI'
   |exit id=>exact hx
   |ret=>exact hx
 exact⟨n+1,key _ n env σ (Nat.lt_succ_self _) h0⟩
theorem MP {c:VC} (I:Nat->Env->ar->Prop) (n:Nat) (h0:I n env σ) (step:∀n env σ,I n env σ->ek (Call P) c (fun x e s=>match x with| .normal=>∃m,m<n/\I m e s|x=>Q x e s) env σ):ek (Call P) (.loop c) Q env σ:=
 PG I n h0 step fun c Q Q' env σ hQ h=>lk (fun _ _ _ _ h=>h) aI c Q Q' env σ hQ h
def EZ:VC->List Nat
 | .eB _ ops=>ops.filterMap (·.dst)
 | .seq a b=>EZ a++EZ b
 | .cond _ a b=>EZ a++EZ b
 | .block _ a=>EZ a
 | .loop a=>EZ a
 | .one o c=>o.dst.toList++EZ c
 | .both a b=>EZ a++EZ b
 | .loc _ _ _ c=>EZ c
 | .N5 ops=>ops.filterMap (·.dst)
 |_=>[]
def iN (l:List Nat) (env iI:Env):Prop:=∀t,l.contains t=false->iI t=env t
theorem iN.refl (l:List Nat) (env:Env):iN l env env:=fun _ _=>rfl
theorem iN.trans {l:List Nat} {e e' e'':Env} (h:iN l e e') (k:iN l e' e''):iN l e e'':=fun t ht=>(k t ht).trans (h t ht)
theorem iN.sub {l l':List Nat} {e e':Env} (h:iN l e e') (hs:∀t,t∈l->t∈l'):iN l' e e':=fun t ht=>h t (by
 rw[<-Bool.not_eq_true]at ht ⊢
 simp only[List.contains_iff_mem]at ht ⊢
 exact fun hc=>ht (hs t hc))
theorem iN.upd {l:List Nat} {e e':Env} {d:Option Nat} {v:AV} (h:iN l e e') (hd:∀t,d=some t->t∈l):iN l e (upd e' d v):=fun t ht=>by
 cases d with
 |none=>exact h t ht
 |some d=>
  have:t≠d:=fun hc=>by subst hc;rw[<-Bool.not_eq_true,List.contains_iff_mem]at ht;exact ht (hd _ rfl)
  show(if t=d then v else e' t)=e t
  rw[if_neg this];exact h t ht
theorem pb {draw:Bool} {Q:Env->ar->Prop} {l:List Nat} {e0:Env}:∀(ops:List bq) (env:Env) (σ:ar),(∀t,t∈ops.filterMap (·.dst)->t∈l)->iN l e0 env->wpOps (Call P) draw ops Q env σ->wpOps (Call P) draw ops (fun e s=>Q e s/\iN l e0 e) env σ
 |[],env,σ,_,hk,hp=>⟨hp,hk⟩
 |o::r,env,σ,hl,hk,hp=>by
  have hd:∀t,o.dst=some t->t∈l:=fun t ht=>hl t (List.mem_filterMap.2 ⟨o,by simp,ht⟩)
  have hr:∀t,t∈r.filterMap (·.dst)->t∈l:=fun t ht=>hl t (by
   obtain⟨x,hx,h⟩:=List.mem_filterMap.1 ht
   exact List.mem_filterMap.2 ⟨x,List.mem_cons_of_mem _ hx,h⟩)
  unfold wpOps at hp ⊢
  split at hp
  ·rename_i hw;rw[if_pos hw]
   exact sD (fun _ _ _ _ h=>h) aI (fun v σ' h=>pb r _ _ hr (hk.upd hd) h) hp
  ·rename_i hw;rw[if_neg hw];exact pb r _ _ hr (hk.upd hd) hp
theorem lN {Q:Env->ar->Prop} {l:List Nat} {e0:Env}:∀(ops:List bq) (env:Env) (σ:ar),(∀t,t∈ops.filterMap (·.dst)->t∈l)->iN l e0 env->cw ops Q env σ->cw ops (fun e s=>Q e s/\iN l e0 e) env σ
 |[],env,σ,_,hk,hp=>⟨hp,hk⟩
 |o::r,env,σ,hl,hk,hp=>by
  have hd:∀t,o.dst=some t->t∈l:=fun t ht=>hl t (List.mem_filterMap.2 ⟨o,by simp,ht⟩)
  have hr:∀t,t∈r.filterMap (·.dst)->t∈l:=fun t ht=>hl t (by
   obtain⟨x,hx,h⟩:=List.mem_filterMap.1 ht
   exact List.mem_filterMap.2 ⟨x,List.mem_cons_of_mem _ hx,h⟩)
  unfold cw at hp ⊢
  refine⟨hp.1,?_⟩
  replace hp:=hp.2
  split at hp
  ·split at hp
   ·exact lN r _ _ hr (hk.upd hd) hp
   ·exact hp.elim
  ·split at hp
   ·exact lN r _ _ hr (hk.upd hd) hp
   ·exact hp.elim
  ·split at hp
   ·exact lN r _ _ hr (hk.upd hd) hp
   ·exact hp.elim
theorem HG {l:List Nat} {e0:Env}:∀(c:VC) (Q:Ex->Env->ar->Prop) (env:Env) (σ:ar),(∀t,t∈EZ c->t∈l)->iN l e0 env->ek (Call P) c Q env σ->ek (Call P) c (fun x e s=>Q x e s/\iN l e0 e) env σ:=by
 intro c
 induction c with
 |skip=>intro Q env σ _ hk hp;exact⟨hp,hk⟩
 |exit id=>intro Q env σ _ hk hp;exact⟨hp,hk⟩
 |ret=>intro Q env σ _ hk hp;exact⟨hp,hk⟩
 |one o c ih=>
  intro Q env σ hl hk hp
  have hd:∀t,o.dst=some t->t∈l:=fun t ht=>hl t (List.mem_append_left _ (by rw[ht];simp))
  have hr:∀t,t∈EZ c->t∈l:=fun t ht=>hl t (List.mem_append_right _ ht)
  unfold ek at hp ⊢
  split at hp
  ·rename_i hw;rw[if_pos hw]
   exact sD (fun _ _ _ _ h=>h) aI (fun v σ' h=>ih Q _ _ hr (hk.upd hd) h) hp
  ·rename_i hw;rw[if_neg hw];exact ih Q _ _ hr (hk.upd hd) hp
 |both a b iha ihb=>
  intro Q env σ hl hk hp
  exact⟨iha Q env σ (fun t ht=>hl t (List.mem_append_left _ ht)) hk hp.1,ihb Q env σ (fun t ht=>hl t (List.mem_append_right _ ht)) hk hp.2⟩
 |loc t s y c ih=>intro Q env σ hl hk hp;exact⟨hp.1,ih Q env σ hl hk hp.2⟩
 |N5 ops=>intro Q env σ hl hk hp;exact lN ops env σ hl hk hp
 |eB draw ops=>intro Q env σ hl hk hp;exact pb ops env σ hl hk hp
 |seq a b iha ihb=>
  intro Q env σ hl hk hp
  refine lk (fun _ _ _ _ h=>h) aI a _ _ env σ (fun x e s hx=>?_) (iha _ env σ (fun t ht=>hl t (List.mem_append_left _ ht)) hk hp)
  cases x with
  |normal=>exact ihb Q e s (fun t ht=>hl t (List.mem_append_right _ ht)) hx.2 hx.1
  |exit id=>exact hx
  |ret=>exact hx
 |cond c a b iha ihb=>
  intro Q env σ hl hk hp
  unfold ek at hp ⊢
  split at hp
  ·rename_i t ht
   cases t with
   |true=>exact iha Q env σ (fun t ht=>hl t (List.mem_append_left _ ht)) hk hp
   |false=>exact ihb Q env σ (fun t ht=>hl t (List.mem_append_right _ ht)) hk hp
  ·exact hp.elim
 |block id a iha=>
  intro Q env σ hl hk hp
  refine lk (fun _ _ _ _ h=>h) aI a _ _ env σ (fun x e s hx=>?_) (iha _ env σ hl hk hp)
  obtain⟨hx,I1⟩:=hx
  cases x with
  |normal=>exact⟨hx,I1⟩
  |ret=>exact⟨hx,I1⟩
  |exit kR=>
   unfold bf at hx ⊢
   dsimp only at hx ⊢
   split at hx
   ·rename_i hid;rw[if_pos hid];exact⟨hx,I1⟩
   ·rename_i hid;rw[if_neg hid];exact⟨hx,I1⟩
 |loop a iha=>
  intro Q env σ hl hk hp
  obtain⟨n,hp⟩:=hp
  refine⟨n,?_⟩
  induction n generalizing env σ with
  |zero=>exact hp
  |succ n ihn=>
   refine lk (fun _ _ _ _ h=>h) aI _ _ _ _ _ (fun x e s hx=>?_) (iha _ env σ hl hk hp)
   obtain⟨hx,I1⟩:=hx
   cases x with
   |normal=>exact ihn e s I1 hx
   |exit id=>exact⟨hx,I1⟩
   |ret=>exact⟨hx,I1⟩
theorem aM {c:VC} (I:Nat->Env->ar->Prop) (n:Nat) (h0:I n env σ) (step:∀n e s,I n e s->iN (EZ c) env e->ek (Call P) c (fun x e s=>match x with| .normal=>∃m,m<n/\I m e s|x=>Q x e s) e s):ek (Call P) (.loop c) Q env σ:=by
 refine MP (fun n e s=>I n e s/\iN (EZ c) env e) n ⟨h0,iN.refl _ _⟩ fun n e s hI=>?_
 refine lk (fun _ _ _ _ h=>h) aI _ _ _ _ _ (fun x e' s' hx=>?_) (HG c _ e s (fun _ h=>h) hI.2 (step n e s hI.1 hI.2))
 obtain⟨hx,hk⟩:=hx
 cases x with
 |normal=>obtain⟨m,hm,h⟩:=hx;exact⟨m,hm,h,hk⟩
 |exit id=>exact hx
 |ret=>exact hx
theorem Kt {k:Nat} (h:k<=9223372036854775807):IntKind.i64.wrap (k:Int)=k:=by rw[IntKind.wrap_i64];omega
theorem bx {z:Int} (h: -9223372036854775808<=z/\z<=9223372036854775807):IntKind.i64.wrap z=z:=by rw[IntKind.wrap_i64];omega
theorem az {k:Nat} (h:(k:Int)+1<=9223372036854775807):IntKind.i64.wrap ((k:Int)+1)=((k+1:Nat):Int):=by rw[IntKind.wrap_i64];omega
theorem all_succ {k:Nat} {p:Nat->Prop} (h:∀j,j<k->p j) (hk:p k):∀j,j<k+1->p j:=fun j hj=>by
 by_cases ym:j=k
 ·subst ym;exact hk
 ·exact h j (by omega)
theorem aG (g:Rows) (n:Nat) (k:IntKind) (m:Int):fz g (n+1) (.int k m)=some (.int k m):=by rw[fz]<;>intros<;>simp_all
theorem aZ (g:Rows) (n:Nat) (b:Bool):fz g (n+1) (.bool b)=some (.bool b):=by rw[fz]<;>intros<;>simp_all
theorem bt (g:Rows) (n:Nat) (b:ByteArray):fz g (n+1) (.str b)=some (.str b):=by rw[fz]<;>intros<;>simp_all
theorem bW (g:Rows) (n:Nat) (l:List (List AV)):fz g (n+1) (.sl l)=some (.sl l):=by rw[fz]<;>intros<;>simp_all
theorem aP (g:Rows) (n:Nat):fz g (n+1) .bV=some .bV:=by rw[fz]<;>intros<;>simp_all
theorem Sd {t:Nat} {r r0:AV} {x:Ex} (hx:x=.ret∨x=.normal) (he:env t=r0) (hz:fz σ.get 6 r0=some r):k8 [.tmp t] (fun r0 σ'=>∃r',fz σ'.get 6 r0=some r'/\r'=r) x env σ:=by
 have:∃vs,fq env σ.get [.tmp t]=some vs/\∃r',fz σ.get 6 (fe vs)=some r'/\r'=r:=⟨[env t],rfl,r,by subst he;exact hz,rfl⟩
 rcases hx with rfl|rfl
 ·exact this
 ·exact this
def aq (P:Program) (f:Nat) (args:List AV) (r:AV):Prop:=∀n:Nat,Call P f args ⟨fun _=>none,n⟩ fun r0 σ'=>∃r',gy σ'.get 6 r0=some r'/\r'=r
theorem aq.body {f:Nat} {args:List AV} {r:AV} {nt na:Nat} {body:VC} {res:List oj} (hf:mO P f=some ⟨nt,na,body,res⟩) (ha:na=args.length) (h:(∀a∈args,eD a)->∀n:Nat,ek (Call P) body (k8 res fun r0 σ'=>∃r',gy σ'.get 6 r0=some r'/\r'=r) (ck args) ⟨fun _=>none,n⟩):aq P f args r:=fun n=>l6 hf ha fun hl=>h hl n
theorem aq.x {f:Nat} {args er:List AV} {r:AV} (h:aq P f er r) {σ:ar} (hv:cG (dF σ.get) 6 args=some er):gq (Call P) f args σ (fun r'=>r'=r):=.inr ⟨er,hv,h _⟩
theorem kj.x {f:Nat} {args:List AV} {r:AV} (h:kj P f args r) (σ:ar):gq (Call P) f args σ (fun r'=>r'=r):=.inl (h σ)
theorem eC (g:Rows) (n:Nat) (k:IntKind) (m:Int):gy g (n+1) (.int k m)=some (.int k m):=by rw[gy]<;>intros<;>simp_all
theorem fR (g:Rows) (n:Nat) (b:Bool):gy g (n+1) (.bool b)=some (.bool b):=by rw[gy]<;>intros<;>simp_all
theorem Lh (g:Rows) (n:Nat) (b:ByteArray):gy g (n+1) (.str b)=some (.str b):=by rw[gy]<;>intros<;>simp_all
theorem j4 (g:Rows) (n:Nat):gy g (n+1) .bV=some .bV:=by rw[gy]<;>intros<;>simp_all
theorem eT (g:Rows) (n:Nat) (l:List AV):gy g (n+1) (.iC l)=(ew g n l).map AV.iC:=by rw[gy]
theorem zq (g:Rows) (n:Nat) (l:List AV):gy g (n+1) (.agg l)=(ew g n l).map AV.agg:=by rw[gy]
theorem uE {g:Rows} {n:Nat} {id:Id} {off len sz:Nat} {rows rows':List (List AV)} (h:g id=some ⟨true,sz,rows⟩) (hl:off+len<=rows.length) (hr:ib g n ((rows.drop off).take len)=some rows'):gy g (n+1) (.own id off len)=some (.sl rows'):=by
 rw[gy];simp only[h,if_true,if_pos hl,hr,Option.map_some]
theorem cr (g:Rows) (n:Nat):ew g n []=some []:=by rw[ew]
theorem bB (g:Rows) (n:Nat) (a:AV) (l:List AV):ew g n (a::l)=match gy g n a with
  |some b=>(ew g n l).map (b::·)
  |none=>none:=by rw[ew];cases gy g n a<;>rfl
theorem tG {g:Rows} {n:Nat}:∀{l:List (List AV)},(∀c∈l,ew g n c=some c)->ib g n l=some l
 |[],_=>by rw[ib]
 |c::r,h=>by rw[ib,h c (by simp),tG fun d hd=>h d (List.mem_cons_of_mem _ hd)];rfl
theorem aY (g:Rows) (n:Nat) (l:List AV):fz g (n+1) (.agg l)=(cG g n l).map AV.agg:=by rw[fz]
theorem aQ (g:Rows) (n:Nat) (l:List AV):fz g (n+1) (.dm l)=some (.dm l):=by rw[fz]<;>intros<;>simp_all
theorem zr {g:Rows} {n:Nat} {id:Id} {i off sz:Nat} {rows:List (List AV)} {cs qd:List AV} (h:g id=some ⟨true,sz,rows⟩) (hi:rows[i]? =some cs) (hr:cG g n (cs.drop off)=some qd):fz g (n+1) (.ptr id i off)=some (.dm qd):=by
 rw[fz];simp only[h,if_true,hi,hr,Option.map_some]
theorem ao (g:Rows) (n:Nat):cG g n []=some []:=by rw[cG]
theorem ai (g:Rows) (n:Nat) (a:AV) (l:List AV):cG g n (a::l)=match fz g n a with
  |some b=>(cG g n l).map (b::·)
  |none=>none:=by rw[cG];cases fz g n a<;>rfl
theorem wS {t:Nat} {r r0:AV} {x:Ex} (hx:x=.ret∨x=.normal) (he:env t=r0) (hz:gy σ.get 6 r0=some r):k8 [.tmp t] (fun r0 σ'=>∃r',gy σ'.get 6 r0=some r'/\r'=r) x env σ:=by
 have:∃vs,fq env σ.get [.tmp t]=some vs/\∃r',gy σ.get 6 (fe vs)=some r'/\r'=r:=⟨[env t],rfl,r,by subst he;exact hz,rfl⟩
 rcases hx with rfl|rfl
 ·exact this
 ·exact this
theorem aX {t:Nat} {b c:Bool} {x:Ex} (hx:x=.ret∨x=.normal) (he:env t=.bool b) (hb:b=c):k8 [.tmp t] (fun r0 σ'=>∃r',gy σ'.get 6 r0=some r'/\r'=.bool c) x env σ:=wS hx he (by rw[fR,hb])
theorem cD {t:Nat} {k:IntKind} {b c:Int} {x:Ex} (hx:x=.ret∨x=.normal) (he:env t=.int k b) (hb:b=c):k8 [.tmp t] (fun r0 σ'=>∃r',gy σ'.get 6 r0=some r'/\r'=.int k c) x env σ:=wS hx he (by rw[eC,hb])
theorem jw {t u:Nat} {r r1 r2:AV} {x:Ex} (hx:x=.ret∨x=.normal) (h1:env t=r1) (h2:env u=r2) (hz:gy σ.get 6 (.iC [r1,r2])=some r):k8 [.tmp t,.tmp u] (fun r0 σ'=>∃r',gy σ'.get 6 r0=some r'/\r'=r) x env σ:=by
 have:∃vs,fq env σ.get [.tmp t,.tmp u]=some vs/\∃r',gy σ.get 6 (fe vs)=some r'/\r'=r:=⟨[env t,env u],rfl,r,by subst h1;subst h2;exact hz,rfl⟩
 rcases hx with rfl|rfl
 ·exact this
 ·exact this
structure Pn (p:Prop):Prop where
 out:p
theorem tw {A B:Prop} (a:A) (b:B):A/\B:=⟨a,b⟩
theorem wk {A R G:Prop} (a:A) (r:R) (h:A->R->G:=by
  intro fL kk
  (repeat(refine Pn.mk ?_;intro N hN))
  (first|((first|apply CC|apply FV);intro N hN)|((first|(apply PH;intro N hN)|(apply FU;intro N hN));simp only[go_sem, ↓reduceIte,Nat.reduceEqDiff,Nat.reduceAdd,Nat.reduceSub,Nat.reduceMul,Nat.reduceLeDiff,Nat.reduceBEq,reduceCtorEq,Nat.reduceLT,Int.reduceLE,Int.reduceLT,Int.reduceToNat,Int.reduceNeg,Int.reduceAdd,Int.reduceEq,fL];first|(refine hN _ _ ?_;clear hN N)|skip)|(apply uP;(simp only[go_sem, ↓reduceIte,Nat.reduceEqDiff,Nat.reduceAdd,Nat.reduceSub,Nat.reduceMul,Nat.reduceLeDiff,Nat.reduceBEq,reduceCtorEq,Nat.reduceLT,Int.reduceLE,Int.reduceLT,Int.reduceToNat,Int.reduceNeg,Int.reduceAdd,Int.reduceEq,fL];rfl);first|with_reducible apply n9.t|with_reducible apply n9.f)|(apply FT;refine hN _ _ ?_;clear hN N;try(simp only[du,bf, ↓reduceIte,Nat.reduceEqDiff]);try(refine hN _ _ ?_;clear hN N))|apply uO|(refine Aq ?_ ?_ ?_;(focus(simp only[go_sem, ↓reduceIte,Nat.reduceEqDiff,Nat.reduceAdd,Nat.reduceSub,Nat.reduceMul,Nat.reduceLeDiff,Nat.reduceBEq,reduceCtorEq,Nat.reduceLT,Int.reduceLE,Int.reduceLT,Int.reduceToNat,Int.reduceNeg,Int.reduceAdd,Int.reduceEq,fL];done));(focus(simp only[go_sem, ↓reduceIte,Nat.reduceEqDiff,Nat.reduceAdd,Nat.reduceSub,Nat.reduceMul,Nat.reduceLeDiff,Nat.reduceBEq,reduceCtorEq,Nat.reduceLT,Int.reduceLE,Int.reduceLT,Int.reduceToNat,Int.reduceNeg,Int.reduceAdd,Int.reduceEq,fL];done)))|((first|apply Ar|apply Ap|apply FW);try(simp only[du,bf, ↓reduceIte,Nat.reduceEqDiff]);try(refine hN _ _ ?_;clear hN N))|((first|refine hN _ _ ?_|(clear hN N;first|refine hN _ _ ?_|(clear hN N;first|refine hN _ _ ?_|(clear hN N;first|refine hN _ _ ?_|(clear hN N;refine hN _ _ ?_)))));clear hN N))
  (repeat(first|((first|apply CC|apply FV);intro N hN)|((first|(apply PH;intro N hN)|(apply FU;intro N hN));simp only[go_sem, ↓reduceIte,Nat.reduceEqDiff,Nat.reduceAdd,Nat.reduceSub,Nat.reduceMul,Nat.reduceLeDiff,Nat.reduceBEq,reduceCtorEq,Nat.reduceLT,Int.reduceLE,Int.reduceLT,Int.reduceToNat,Int.reduceNeg,Int.reduceAdd,Int.reduceEq,fL];first|(refine hN _ _ ?_;clear hN N)|skip)|(apply uP;(simp only[go_sem, ↓reduceIte,Nat.reduceEqDiff,Nat.reduceAdd,Nat.reduceSub,Nat.reduceMul,Nat.reduceLeDiff,Nat.reduceBEq,reduceCtorEq,Nat.reduceLT,Int.reduceLE,Int.reduceLT,Int.reduceToNat,Int.reduceNeg,Int.reduceAdd,Int.reduceEq,fL];rfl);first|with_reducible apply n9.t|with_reducible apply n9.f)|(apply FT;refine hN _ _ ?_;clear hN N;try(simp only[du,bf, ↓reduceIte,Nat.reduceEqDiff]);try(refine hN _ _ ?_;clear hN N))|apply uO|(refine Aq ?_ ?_ ?_;(focus(simp only[go_sem, ↓reduceIte,Nat.reduceEqDiff,Nat.reduceAdd,Nat.reduceSub,Nat.reduceMul,Nat.reduceLeDiff,Nat.reduceBEq,reduceCtorEq,Nat.reduceLT,Int.reduceLE,Int.reduceLT,Int.reduceToNat,Int.reduceNeg,Int.reduceAdd,Int.reduceEq,fL];done));(focus(simp only[go_sem, ↓reduceIte,Nat.reduceEqDiff,Nat.reduceAdd,Nat.reduceSub,Nat.reduceMul,Nat.reduceLeDiff,Nat.reduceBEq,reduceCtorEq,Nat.reduceLT,Int.reduceLE,Int.reduceLT,Int.reduceToNat,Int.reduceNeg,Int.reduceAdd,Int.reduceEq,fL];done)))|((first|apply Ar|apply Ap|apply FW);try(simp only[du,bf, ↓reduceIte,Nat.reduceEqDiff]);try(refine hN _ _ ?_;clear hN N))|((first|refine hN _ _ ?_|(clear hN N;first|refine hN _ _ ?_|(clear hN N;first|refine hN _ _ ?_|(clear hN N;first|refine hN _ _ ?_|(clear hN N;refine hN _ _ ?_)))));clear hN N)))
  (repeat(revert hN;revert N;apply Pn.out))
  exact kk):G:=h a r
theorem wa {A R G:Prop} (a:A) (r:R) (h:A->R->G:=by
  intro fL kk
  (repeat(refine Pn.mk ?_;intro N hN))
  (first|((first|apply CC|apply FV);intro N hN)|((first|(refine NH rfl fun N hN=>?_)|(apply FU;intro N hN));simp only[go_sem, ↓reduceIte,Nat.reduceEqDiff,Nat.reduceAdd,Nat.reduceSub,Nat.reduceMul,Nat.reduceLeDiff,Nat.reduceBEq,reduceCtorEq,Nat.reduceLT,Int.reduceLE,Int.reduceLT,Int.reduceToNat,Int.reduceNeg,Int.reduceAdd,Int.reduceEq,fL];first|(refine hN _ _ ?_;clear hN N)|skip)|(apply uP;(simp only[go_sem, ↓reduceIte,Nat.reduceEqDiff,Nat.reduceAdd,Nat.reduceSub,Nat.reduceMul,Nat.reduceLeDiff,Nat.reduceBEq,reduceCtorEq,Nat.reduceLT,Int.reduceLE,Int.reduceLT,Int.reduceToNat,Int.reduceNeg,Int.reduceAdd,Int.reduceEq,fL];rfl);first|with_reducible apply n9.t|with_reducible apply n9.f)|(apply FT;refine hN _ _ ?_;clear hN N;try(simp only[du,bf, ↓reduceIte,Nat.reduceEqDiff]);try(refine hN _ _ ?_;clear hN N))|apply uO|(refine Aq ?_ ?_ ?_;(focus(simp only[go_sem, ↓reduceIte,Nat.reduceEqDiff,Nat.reduceAdd,Nat.reduceSub,Nat.reduceMul,Nat.reduceLeDiff,Nat.reduceBEq,reduceCtorEq,Nat.reduceLT,Int.reduceLE,Int.reduceLT,Int.reduceToNat,Int.reduceNeg,Int.reduceAdd,Int.reduceEq,fL];done));(focus(simp only[go_sem, ↓reduceIte,Nat.reduceEqDiff,Nat.reduceAdd,Nat.reduceSub,Nat.reduceMul,Nat.reduceLeDiff,Nat.reduceBEq,reduceCtorEq,Nat.reduceLT,Int.reduceLE,Int.reduceLT,Int.reduceToNat,Int.reduceNeg,Int.reduceAdd,Int.reduceEq,fL];done)))|((first|apply Ar|apply Ap|apply FW);try(simp only[du,bf, ↓reduceIte,Nat.reduceEqDiff]);try(refine hN _ _ ?_;clear hN N))|((first|refine hN _ _ ?_|(clear hN N;first|refine hN _ _ ?_|(clear hN N;first|refine hN _ _ ?_|(clear hN N;first|refine hN _ _ ?_|(clear hN N;refine hN _ _ ?_)))));clear hN N))
  (repeat(first|((first|apply CC|apply FV);intro N hN)|((first|(refine NH rfl fun N hN=>?_)|(apply FU;intro N hN));simp only[go_sem, ↓reduceIte,Nat.reduceEqDiff,Nat.reduceAdd,Nat.reduceSub,Nat.reduceMul,Nat.reduceLeDiff,Nat.reduceBEq,reduceCtorEq,Nat.reduceLT,Int.reduceLE,Int.reduceLT,Int.reduceToNat,Int.reduceNeg,Int.reduceAdd,Int.reduceEq,fL];first|(refine hN _ _ ?_;clear hN N)|skip)|(apply uP;(simp only[go_sem, ↓reduceIte,Nat.reduceEqDiff,Nat.reduceAdd,Nat.reduceSub,Nat.reduceMul,Nat.reduceLeDiff,Nat.reduceBEq,reduceCtorEq,Nat.reduceLT,Int.reduceLE,Int.reduceLT,Int.reduceToNat,Int.reduceNeg,Int.reduceAdd,Int.reduceEq,fL];rfl);first|with_reducible apply n9.t|with_reducible apply n9.f)|(apply FT;refine hN _ _ ?_;clear hN N;try(simp only[du,bf, ↓reduceIte,Nat.reduceEqDiff]);try(refine hN _ _ ?_;clear hN N))|apply uO|(refine Aq ?_ ?_ ?_;(focus(simp only[go_sem, ↓reduceIte,Nat.reduceEqDiff,Nat.reduceAdd,Nat.reduceSub,Nat.reduceMul,Nat.reduceLeDiff,Nat.reduceBEq,reduceCtorEq,Nat.reduceLT,Int.reduceLE,Int.reduceLT,Int.reduceToNat,Int.reduceNeg,Int.reduceAdd,Int.reduceEq,fL];done));(focus(simp only[go_sem, ↓reduceIte,Nat.reduceEqDiff,Nat.reduceAdd,Nat.reduceSub,Nat.reduceMul,Nat.reduceLeDiff,Nat.reduceBEq,reduceCtorEq,Nat.reduceLT,Int.reduceLE,Int.reduceLT,Int.reduceToNat,Int.reduceNeg,Int.reduceAdd,Int.reduceEq,fL];done)))|((first|apply Ar|apply Ap|apply FW);try(simp only[du,bf, ↓reduceIte,Nat.reduceEqDiff]);try(refine hN _ _ ?_;clear hN N))|((first|refine hN _ _ ?_|(clear hN N;first|refine hN _ _ ?_|(clear hN N;first|refine hN _ _ ?_|(clear hN N;first|refine hN _ _ ?_|(clear hN N;refine hN _ _ ?_)))));clear hN N)))
  (repeat(revert hN;revert N;apply Pn.out))
  exact kk):G:=h a r
theorem sd {A G:Prop} (a:A) (h:A->G:=by
  intro fL
  first|(simp only[go_sem, ↓reduceIte,Nat.reduceEqDiff,Nat.reduceAdd,Nat.reduceSub,Nat.reduceMul,Nat.reduceLeDiff,Nat.reduceBEq,reduceCtorEq,Nat.reduceLT,Int.reduceLE,Int.reduceLT,Int.reduceToNat,Int.reduceNeg,Int.reduceAdd,Int.reduceEq,fL,fq,iu];done)|fail):G:=h a
theorem sl {A G:Prop} (a:A) (h:A->G:=by
  intro fL
  (try simp only[go_sem, ↓reduceIte,Nat.reduceEqDiff,Nat.reduceAdd,Nat.reduceSub,Nat.reduceMul,Nat.reduceLeDiff,Nat.reduceBEq,reduceCtorEq,Nat.reduceLT,Int.reduceLE,Int.reduceLT,Int.reduceToNat,Int.reduceNeg,Int.reduceAdd,Int.reduceEq,fL])
  try rfl):G:=h a
end Go.Proofs.YtgoelphibofcmaaGreat.V

namespace Go.Proofs.YtgoelphibofcmaaGreat.V
open Go.RowKit
variable {P:Program} {X:fG} {env:Env} {σ:ar}
theorem bD (g:Rows) (n:Nat) (l:List AV):fz g (n+1) (.iC l)=(cG g n l).map AV.iC:=by rw[fz]
theorem cI (g:Rows) (n:Nat) (f:Nat) (l:List AV):fz g (n+1) (.fn f l)=if l.all AV.cell then(cG g n l).map (AV.fn f)else none:=by rw[fz]
theorem aV (g:Rows) (n:Nat) (id:Id) (i off:Nat):fz g (n+1) (.ptr id i off)=match g id with
  |some r=>if r.w then(match r.rows[i]? with
   |some cs=>(cG g n (cs.drop off)).map AV.dm
   |none=>none)else none
  |none=>none:=by rw[fz];rfl
theorem iw (g:Rows) (n:Nat) (id:Id) (off len:Nat):fz g (n+1) (.own id off len)=match g id with
  |some r=>if r.w then(if off+len<=r.rows.length then(eo g n ((r.rows.drop off).take len)).map AV.sl else none)else none
  |none=>none:=by rw[fz];rfl
theorem oJ (g:Rows) (n:Nat):eo g n []=some []:=by rw[eo]
theorem zp (g:Rows) (n:Nat) (c:List AV) (l:List (List AV)):eo g n (c::l)=match cG g n c with
  |some b=>(eo g n l).map (b::·)
  |none=>none:=by rw[eo];cases cG g n c<;>rfl
theorem vL {g:Rows} {n:Nat}:∀{l:List (List AV)},(∀c∈l,cG g n c=some c)->eo g n l=some l
 |[],_=>by rw[eo]
 |c::r,h=>by rw[eo,h c (by simp),vL fun d hd=>h d (List.mem_cons_of_mem _ hd)];rfl
theorem qC {α:Type} {g:Rows} {n:Nat} {e:α->List AV} {l:List α} (h:∀x,cG g n (e x)=some (e x)):eo g n (l.map e)=some (l.map e):=vL fun c hc=>by
 obtain⟨x,_,rfl⟩:=List.mem_map.1 hc
 exact h x
theorem tJ {α:Type} {g:Rows} {n:Nat} {e:α->List AV} {l:List α} (h:∀x,ew g n (e x)=some (e x)):ib g n (l.map e)=some (l.map e):=tG fun c hc=>by
 obtain⟨x,_,rfl⟩:=List.mem_map.1 hc
 exact h x
theorem fS {α:Type} {g:Rows} {n:Nat} {e:α->List AV} {l:List α} {id:Id} {sz len:Nat} (hg:g id=some ⟨true,sz,l.map e⟩) (hl:len=l.length) (h:∀x,cG g n (e x)=some (e x)):fz g (n+1) (.own id 0 len)=some (.sl (l.map e)):=by
 subst hl
 rw[iw];simp only[hg,if_true]
 rw[if_pos (by simp),List.drop_zero,List.take_of_length_le (by simp),qC h];rfl
theorem fI {α:Type} {g:Rows} {n:Nat} {e:α->List AV} {l:List α} {id:Id} {sz len:Nat} (hg:g id=some ⟨true,sz,l.map e⟩) (hl:len=l.length) (h:∀x,ew g n (e x)=some (e x)):gy g (n+1) (.own id 0 len)=some (.sl (l.map e)):=by
 subst hl
 exact uE hg (by simp) (by rw[List.drop_zero,List.take_of_length_le (by simp),tJ h])
theorem all_map {α:Type} {e:α->List AV} {sz:Nat} {l:List α} (h:∀x,(e x).length=sz/\(e x).all AV.cell=true):(l.map e).all (fun c=>c.length==sz&&c.all AV.cell)=true:=by
 rw[List.all_eq_true]
 intro c hc
 obtain⟨x,_,rfl⟩:=List.mem_map.1 hc
 simp[(h x).1,(h x).2]
def KW (P:Program) (f:Nat) (args:List AV) (sz:Nat) (rows:List (List AV)):Prop:=(∀c∈rows,∀a∈c,a.plain=true)/\∀n:Nat,Call P f args ⟨fun _=>none,n⟩ fun r σ'=>∃id,r=.own id 0 rows.length/\σ'.get id=some ⟨true,sz,rows⟩
theorem KW.x {f sz:Nat} {args er:List AV} {rows:List (List AV)} (h:KW P f er sz rows) {σ:ar} (hv:cG (dF σ.get) 6 args=some er):CM (Call P) f args σ sz rows:=⟨h.1,er,hv,h.2 _⟩
theorem xL {res:List oj} {r:AV} {vs:List AV} {x:Ex} (hx:x=.ret∨x=.normal) (hv:fq env σ.get res=some vs) (hz:fz σ.get 6 (fe vs)=some r):k8 res (fun r0 σ'=>∃r',fz σ'.get 6 r0=some r'/\r'=r) x env σ:=by
 rcases hx with rfl|rfl
 ·exact⟨vs,hv,r,hz,rfl⟩
 ·exact⟨vs,hv,r,hz,rfl⟩
theorem qf {res:List oj} {r:AV} {vs:List AV} {x:Ex} (hx:x=.ret∨x=.normal) (hv:fq env σ.get res=some vs) (hz:gy σ.get 6 (fe vs)=some r):k8 res (fun r0 σ'=>∃r',gy σ'.get 6 r0=some r'/\r'=r) x env σ:=by
 rcases hx with rfl|rfl
 ·exact⟨vs,hv,r,hz,rfl⟩
 ·exact⟨vs,hv,r,hz,rfl⟩
theorem fb {res:List oj} {K:AV->ar->Prop} {vs:List AV} {x:Ex} (hx:x=.ret∨x=.normal) (hv:fq env σ.get res=some vs) (hK:K (fe vs) σ):k8 res K x env σ:=by
 rcases hx with rfl|rfl
 ·exact⟨vs,hv,hK⟩
 ·exact⟨vs,hv,hK⟩
theorem eV {f:Nat} {args:List AV} {σ:ar} {K:AV->ar->Prop} {nt na:Nat} {body:VC} {res:List oj} (hf:mO P f=some ⟨nt,na,body,res⟩) (ha:na=args.length) (h:(∀a∈args,eD a)->ek (Call P) body (k8 res K) (ck args) σ):Call P f args σ K:=l6 hf ha h
theorem CR {f:Nat} {md:List (Nat×Nat)} {args:List AV} {σ:ar} {K:AV->ar->Prop} {nt na:Nat} {body:VC} {res:List oj} (hf:vk P f md=some ⟨nt,na,body,res⟩) (ha:na=args.length) (h:(∀a∈args,eD a)->ek (Call P) body (k8 res K) (ck args) σ):Call P f args σ K:=uS hf ha h
theorem dx {i:Id} {n:Nat} (h:i.bm<n):(∀s,(i=⟨s,n⟩)=False/\(i=⟨s,n+1⟩)=False/\(i=⟨s,n+1+1⟩)=False/\(i=⟨s,n+1+1+1⟩)=False/\(i=⟨s,n+1+1+1+1⟩)=False/\(i=⟨s,n+1+1+1+1+1⟩)=False/\(i=⟨s,n+1+1+1+1+1+1⟩)=False/\(i=⟨s,n+1+1+1+1+1+1+1⟩)=False/\(i=⟨s,n+1+1+1+1+1+1+1+1⟩)=False/\(i=⟨s,n+1+1+1+1+1+1+1+1+1⟩)=False/\(⟨s,n⟩=i)=False/\(⟨s,n+1⟩=i)=False/\(⟨s,n+1+1⟩=i)=False/\(⟨s,n+1+1+1⟩=i)=False/\(⟨s,n+1+1+1+1⟩=i)=False/\(⟨s,n+1+1+1+1+1⟩=i)=False/\(⟨s,n+1+1+1+1+1+1⟩=i)=False/\(⟨s,n+1+1+1+1+1+1+1⟩=i)=False/\(⟨s,n+1+1+1+1+1+1+1+1⟩=i)=False/\(⟨s,n+1+1+1+1+1+1+1+1+1⟩=i)=False)/\(i.bm=n)=False/\(i.bm=n+1)=False/\(i.bm=n+1+1)=False/\(i.bm=n+1+1+1)=False/\(i.bm=n+1+1+1+1)=False/\(i.bm=n+1+1+1+1+1)=False/\(i.bm=n+1+1+1+1+1+1)=False/\(i.bm=n+1+1+1+1+1+1+1)=False/\(i.bm=n+1+1+1+1+1+1+1+1)=False/\(i.bm=n+1+1+1+1+1+1+1+1+1)=False:=by
 refine⟨fun s=>?_,?_⟩
 ·obtain⟨a,b⟩:=i
  simp only[Id.mk.injEq,eq_iff_iff,iff_false,not_and]
  simp only at h
  refine⟨?_,?_,?_,?_,?_,?_,?_,?_,?_,?_,?_,?_,?_,?_,?_,?_,?_,?_,?_,?_⟩<;>(intros;omega)
 ·simp only[eq_iff_iff,iff_false]
  refine⟨?_,?_,?_,?_,?_,?_,?_,?_,?_,?_⟩<;>omega
def gr (a b:Nat) (ids:List Id):Prop:=ids.Nodup/\∀i∈ids,a<=i.bm/\i.bm<b
def Kept (σ σ':ar):Prop:=σ.next<=σ'.next/\∀j:Id,j.bm<σ.next->σ'.get j=σ.get j
theorem Kept.trans {a b c:ar} (h:Kept a b) (k:Kept b c):Kept a c:=⟨Nat.le_trans h.1 k.1,fun j hj=>(k.2 j (Nat.lt_of_lt_of_le hj h.1)).trans (h.2 j hj)⟩
theorem gr.wide {a b a' b':Nat} {ids:List Id} (h:gr a b ids) (h1:a'<=a) (h2:b<=b'):gr a' b' ids:=⟨h.1,fun i hi=>⟨Nat.le_trans h1 (h.2 i hi).1,Nat.lt_of_lt_of_le (h.2 i hi).2 h2⟩⟩
theorem gr.app {a b c d:Nat} {i j:List Id} (h:gr a b i) (k:gr c d j) (Qd:b<=c) (nP:a<=b) (hcd:c<=d):gr a d (i++j):=
 ⟨List.nodup_append.2 ⟨h.1,k.1,fun x hx y hy e=>by subst e;have:=(h.2 x hx).2;have:=(k.2 x hy).1;omega⟩,fun x hx=>by
  rcases List.mem_append.1 hx with hx|hx
  ·have:=h.2 x hx;omega
  ·have:=k.2 x hx;omega⟩
end Go.Proofs.YtgoelphibofcmaaGreat.V

namespace Go.Proofs.YtgoelphibofcmaaGreat.V
open Go.RowKit
attribute [local irreducible] ek wpOps gq Call
attribute [local go_sem] aH fF eK ga fZ da upd ck K.av cH AV.cells AV.cell rowOf rowsOf part ld rowAt bF cj dy dW gU bG cX eh fY eU dn ea cV cU dH dI bJ aW cK bI cN cL dY eb dZ cJ bL cW dX bH aL cQ cC gT bj cF bK aT du bf dz AV.undef bw bE dM dU dE dJ cE ef ep cw ee ec cP cR List.getD_cons_zero List.getD_cons_succ List.getD_nil List.all_cons List.all_nil Bool.and_true Bool.true_and Bool.and_self Bool.not_true Bool.not_false Option.map_some Option.map_none Option.bind_some Option.bind_none List.length_cons List.length_nil List.take_succ_cons List.take_zero List.take_nil List.drop_succ_cons List.drop_zero List.drop_nil List.head?_cons List.map_cons List.map_nil List.getElem?_cons_zero List.getElem?_cons_succ List.cons_append List.nil_append List.append_nil List.length_map List.set_cons_zero List.set_cons_succ Nat.reduceMul eq_self Int.toNat_natCast Int.natCast_nonneg and_self true_and and_true decide_true decide_false Bool.false_eq_true Nat.zero_add Nat.add_zero List.contains_cons List.contains_nil Bool.or_false Bool.false_or beq_self_eq_true Nat.reduceBEq ne_eq not_true_eq_false not_false_eq_true Id.mk.injEq false_and and_false Nat.reduceLT Int.reduceLE Int.reduceLT Int.reduceToNat Int.reduceNeg Int.reduceAdd Nat.le_refl List.length_append beq_true beq_false Bool.not_eq_eq_eq_not or_false false_or dF ai ao aG aZ bt bW aP aY aQ aV cI bD
variable {P:Program}
def J9 (f g z:Nat):y8:=let s:=f*1000000
 ⟨27,2,(.seq (.eB false [q 4 (.dd (.k (.int .i64 0))) s]) (.seq (.eB false [q 6 (.dd (.t 1)) (s+1000),q 7 (.dd (.t 0)) (s+1001),q 8 (.len (.t 7)) (s+1002),q 9 (.bin .sub .i64 (.t 6) (.t 8)) (s+1003),q 1 (.dd (.t 9)) (s+1004)]) (.seq (.seq (.eB false [q 10 (.dd (.t 1)) (s+2000),q 11 (.bin .lss .i64 (.t 10) (.k (.int .i64 0))) (s+2001)]) (.cond (.t 11) (.seq (.eB false [q 4 (.dd (.k (.int .i64 (-1)))) (s+3000)]) .ret) .skip)) (.seq (.seq (.eB false [q 5 (.dd (.k (.int .i64 0))) (s+4000)]) (.block 0 (.loop (.seq (.seq (.eB false [q 12 (.dd (.t 5)) (s+5000),q 13 (.dd (.t 0)) (s+5001),q 14 (.len (.t 13)) (s+5002),q 15 (.bin .lss .i64 (.t 12) (.t 14)) (s+5003)]) (.cond (.t 15) .skip (.exit 0))) (.seq (.block 1 (.seq (.eB false [q 18 (.dd (.t 0)) (s+7000),q 19 (.dd (.t 5)) (s+7001),q 20 (.dG z (.t 18) (.t 19)) (s+7002),q 21 (.load true z (.t 20)) (s+7003),q 22 (.dd (.t 1)) (s+7004),q 23 (.call g [(.t 21),(.t 22)]) (s+7005),q 1 (.dd (.t 23)) (s+7006)]) (.seq (.eB false [q 24 (.dd (.t 1)) (s+8000),q 25 (.bin .lss .i64 (.t 24) (.k (.int .i64 0))) (s+8001)]) (.cond (.t 25) (.seq (.eB false [q 4 (.dd (.k (.int .i64 (-1)))) (s+9000)]) .ret) .skip)))) (.eB false [q 16 (.dd (.t 5)) (s+6000),q 17 (.bin .add .i64 (.t 16) (.k (.int .i64 1))) (s+6001),q 5 (.dd (.t 17)) (s+6002)])))))) (.seq (.eB false [q 26 (.dd (.t 1)) (s+10000),q 4 (.dd (.t 26)) (s+10001)]) .ret))))),[(.tmp 4)]⟩
def J7 (f:Nat):y8:=let s:=f*1000000
 ⟨12,2,(.seq (.eB false [q 4 (.dd (.k (.int .i64 0))) s]) (.seq (.eB false [q 5 (.dd (.t 1)) (s+1000),q 6 (.dd (.t 0)) (s+1001),q 7 (.len (.t 6)) (s+1002),q 8 (.bin .sub .i64 (.t 5) (.t 7)) (s+1003),q 1 (.dd (.t 8)) (s+1004)]) (.seq (.seq (.eB false [q 9 (.dd (.t 1)) (s+2000),q 10 (.bin .lss .i64 (.t 9) (.k (.int .i64 0))) (s+2001)]) (.cond (.t 10) (.seq (.eB false [q 4 (.dd (.k (.int .i64 (-1)))) (s+3000)]) .ret) .skip)) (.seq (.eB false [q 11 (.dd (.t 1)) (s+4000),q 4 (.dd (.t 11)) (s+4001)]) .ret)))),[(.tmp 4)]⟩
def Fg (f g z:Nat):y8:=let s:=f*1000000
 ⟨27,2,(.seq (.eB false [q 4 (.dd (.k (.bool false))) s]) (.seq (.seq (.eB false [q 6 (.dd (.t 0)) (s+1000),q 7 (.len (.t 6)) (s+1001),q 8 (.dd (.t 1)) (s+1002),q 9 (.len (.t 8)) (s+1003),q 10 (.M7 true .tI (.t 7) (.t 9)) (s+1004)]) (.cond (.t 10) (.seq (.eB false [q 4 (.dd (.k (.bool false))) (s+2000)]) .ret) .skip)) (.seq (.seq (.eB false [q 5 (.dd (.k (.int .i64 0))) (s+3000)]) (.block 0 (.loop (.seq (.seq (.eB false [q 11 (.dd (.t 5)) (s+4000),q 12 (.dd (.t 0)) (s+4001),q 13 (.len (.t 12)) (s+4002),q 14 (.bin .lss .i64 (.t 11) (.t 13)) (s+4003)]) (.cond (.t 14) .skip (.exit 0))) (.seq (.block 1 (.seq (.eB true [q 17 (.dd (.t 0)) (s+6000),q 18 (.dd (.t 5)) (s+6001),q 19 (.dG z (.t 17) (.t 18)) (s+6002),q 20 (.load true z (.t 19)) (s+6003),q 21 (.dd (.t 1)) (s+6004),q 22 (.dd (.t 5)) (s+6005),q 23 (.dG z (.t 21) (.t 22)) (s+6006),q 24 (.load true z (.t 23)) (s+6007),q 25 (.call g [(.t 20),(.t 24)]) (s+6008),q 26 (.not (.t 25)) (s+6009)]) (.cond (.t 26) (.seq (.eB false [q 4 (.dd (.k (.bool false))) (s+7000)]) .ret) .skip))) (.eB false [q 15 (.dd (.t 5)) (s+5000),q 16 (.bin .add .i64 (.t 15) (.k (.int .i64 1))) (s+5001),q 5 (.dd (.t 16)) (s+5002)])))))) (.seq (.eB false [q 4 (.dd (.k (.bool true))) (s+8000)]) .ret)))),[(.tmp 4)]⟩
def M8 (f:Nat) (t:TS):y8:=let s:=f*1000000
 ⟨26,2,(.seq (.eB false [q 4 (.dd (.k (.bool false))) s]) (.seq (.seq (.eB false [q 6 (.dd (.t 0)) (s+1000),q 7 (.len (.t 6)) (s+1001),q 8 (.dd (.t 1)) (s+1002),q 9 (.len (.t 8)) (s+1003),q 10 (.M7 true .tI (.t 7) (.t 9)) (s+1004)]) (.cond (.t 10) (.seq (.eB false [q 4 (.dd (.k (.bool false))) (s+2000)]) .ret) .skip)) (.seq (.seq (.eB false [q 5 (.dd (.k (.int .i64 0))) (s+3000)]) (.block 0 (.loop (.seq (.seq (.eB false [q 11 (.dd (.t 5)) (s+4000),q 12 (.dd (.t 0)) (s+4001),q 13 (.len (.t 12)) (s+4002),q 14 (.bin .lss .i64 (.t 11) (.t 13)) (s+4003)]) (.cond (.t 14) .skip (.exit 0))) (.seq (.block 1 (.seq (.eB true [q 17 (.dd (.t 0)) (s+6000),q 18 (.dd (.t 5)) (s+6001),q 19 (.dG 1 (.t 17) (.t 18)) (s+6002),q 20 (.load false 1 (.t 19)) (s+6003),q 21 (.dd (.t 1)) (s+6004),q 22 (.dd (.t 5)) (s+6005),q 23 (.dG 1 (.t 21) (.t 22)) (s+6006),q 24 (.load false 1 (.t 23)) (s+6007),q 25 (.M7 true t (.t 20) (.t 24)) (s+6008)]) (.cond (.t 25) (.seq (.eB false [q 4 (.dd (.k (.bool false))) (s+7000)]) .ret) .skip))) (.eB false [q 15 (.dd (.t 5)) (s+5000),q 16 (.bin .add .i64 (.t 15) (.k (.int .i64 1))) (s+5001),q 5 (.dd (.t 16)) (s+5002)])))))) (.seq (.eB false [q 4 (.dd (.k (.bool true))) (s+8000)]) .ret)))),[(.tmp 4)]⟩
def ua (f g z:Nat) (zero:List K):y8:=let s:=f*1000000
 ⟨23,1,(.seq (.eB false [q 2 (.dd (.k .bV)) s]) (.seq (.eB false [q 5 (.dd (.t 0)) (s+1000),q 6 (.len (.t 5)) (s+1001),q 7 (.jU zero (.t 6) (.t 6)) (s+1002),q 3 (.dd (.t 7)) (s+1003)]) (.seq (.seq (.eB false [q 4 (.dd (.k (.int .i64 0))) (s+2000)]) (.block 0 (.loop (.seq (.seq (.eB false [q 8 (.dd (.t 4)) (s+3000),q 9 (.dd (.t 0)) (s+3001),q 10 (.len (.t 9)) (s+3002),q 11 (.bin .lss .i64 (.t 8) (.t 10)) (s+3003)]) (.cond (.t 11) .skip (.exit 0))) (.seq (.block 1 (.eB false [q 14 (.dd (.t 3)) (s+5000),q 15 (.dd (.t 4)) (s+5001),q 16 (.dd (.t 0)) (s+5002),q 17 (.dd (.t 4)) (s+5003),q 18 (.dG z (.t 16) (.t 17)) (s+5004),q 19 (.load true z (.t 18)) (s+5005),q 20 (.call g [(.t 19)]) (s+5006),q 21 (.dG z (.t 14) (.t 15)) (s+5007),⟨none,(.store z (.t 21) (.t 20)),none,(s+5008),[]⟩])) (.eB false [q 12 (.dd (.t 4)) (s+4000),q 13 (.bin .add .i64 (.t 12) (.k (.int .i64 1))) (s+4001),q 4 (.dd (.t 13)) (s+4002)])))))) (.seq (.eB false [q 22 (.dd (.t 3)) (s+6000),q 2 (.dd (.t 22)) (s+6001)]) .ret)))),[(.tmp 2)]⟩
def Kj (f:Nat) (zero:K):y8:=let s:=f*1000000
 ⟨22,1,(.seq (.eB false [q 2 (.dd (.k .bV)) s]) (.seq (.eB false [q 5 (.dd (.t 0)) (s+1000),q 6 (.len (.t 5)) (s+1001),q 7 (.jU [zero] (.t 6) (.t 6)) (s+1002),q 3 (.dd (.t 7)) (s+1003)]) (.seq (.seq (.eB false [q 4 (.dd (.k (.int .i64 0))) (s+2000)]) (.block 0 (.loop (.seq (.seq (.eB false [q 8 (.dd (.t 4)) (s+3000),q 9 (.dd (.t 0)) (s+3001),q 10 (.len (.t 9)) (s+3002),q 11 (.bin .lss .i64 (.t 8) (.t 10)) (s+3003)]) (.cond (.t 11) .skip (.exit 0))) (.seq (.block 1 (.eB false [q 14 (.dd (.t 3)) (s+5000),q 15 (.dd (.t 4)) (s+5001),q 16 (.dd (.t 0)) (s+5002),q 17 (.dd (.t 4)) (s+5003),q 18 (.dG 1 (.t 16) (.t 17)) (s+5004),q 19 (.load false 1 (.t 18)) (s+5005),q 20 (.dG 1 (.t 14) (.t 15)) (s+5006),⟨none,(.store 1 (.t 20) (.t 19)),none,(s+5007),[]⟩])) (.eB false [q 12 (.dd (.t 4)) (s+4000),q 13 (.bin .add .i64 (.t 12) (.k (.int .i64 1))) (s+4001),q 4 (.dd (.t 13)) (s+4002)])))))) (.seq (.eB false [q 21 (.dd (.t 3)) (s+6000),q 2 (.dd (.t 21)) (s+6001)]) .ret)))),[(.tmp 2)]⟩
def xN (n:Nat) (l:Int):Int:=if (n:Int)<=l then l-n else -1
theorem J8 {fk:Nat} (hc:mO P fk=some (J7 fk)) (rows:List (List AV)) (left:Int) (h0:0<=left) (h1:left<=1048576):aq P fk [.sl rows,.int .i64 left] (.int .i64 (xN rows.length left)):=by
 refine aq.body hc rfl fun hl n0=>?_
 try simp only[q]
 have hn:rows.length<=9223372036854775807:=(hl (.sl rows) (by simp)).len
 clear hl
 have hw:IntKind.i64.wrap (left-(rows.length:Int))=left-rows.length:=bx (by omega)
 by_cases hf:(rows.length:Int)<=left
 ·have kr:¬left-(rows.length:Int)<0:=by omega
  (try((repeat(revert hN;revert N;apply Pn.out));refine wk (tw @hw @kr) ?_;(repeat(refine Pn.mk ?_;intro N hN))))
  exact cD (b:=left-(rows.length:Int)) (.inl rfl) (sd @Nat.zero_add) (by rw[xN,if_pos hf])
 ·have kr:left-(rows.length:Int)<0:=by omega
  (try((repeat(revert hN;revert N;apply Pn.out));refine wk (tw @hw @kr) ?_;(repeat(refine Pn.mk ?_;intro N hN))))
  exact cD (b:=-1) (.inl rfl) (sd @Nat.zero_add) (by rw[xN,if_neg hf])
def iJ {α:Type} (f:α->Nat) (xs:List α) (k:Nat):Nat:=((xs.take k).map f).sum
theorem mu {α:Type} (f:α->Nat) (xs:List α):iJ f xs 0=0:=by simp[iJ]
theorem Cq {α:Type} (f:α->Nat) (xs:List α):iJ f xs xs.length=(xs.map f).sum:=by simp[iJ]
theorem w8 {α:Type} (f:α->Nat) {xs:List α} {k:Nat} (hk:k<xs.length):iJ f xs (k+1)=iJ f xs k+f xs[k]:=by
 unfold iJ
 rw[List.take_succ_eq_append_getElem hk,List.map_append,List.sum_append];simp
theorem qj {α:Type} (f:α->Nat) (xs:List α) (k:Nat):iJ f xs k<=(xs.map f).sum:=by
 unfold iJ
 conv=>rhs;rw[<-List.take_append_drop k xs]
 rw[List.map_append,List.sum_append];omega
theorem Ka {α:Type} {e:α->List AV} {z fk gk:Nat} (wt:α->Nat) (hc:mO P fk=some (J9 fk gk z)) (hz:∀x,(e x).length=z) (CG:∀x g,cG g 6 [.agg (e x)]=some [.agg (e x)]) (xs:List α) (left:Int) (h0:0<=left) (h1:left<=1048576)
  (hg:∀x∈xs,∀l:Int,0<=l->l<=1048576->aq P gk [.agg (e x),.int .i64 l] (.int .i64 (xN (wt x) l))):aq P fk [.sl (xs.map e),.int .i64 left] (.int .i64 (xN (xs.length+(xs.map wt).sum) left)):=by
 refine aq.body hc rfl fun hl n0=>?_
 try simp only[q]
 have hn:xs.length<=9223372036854775807:=by simpa using(hl (.sl (xs.map e)) (by simp)).len
 clear hl
 have hw:IntKind.i64.wrap (left-(xs.length:Int))=left-xs.length:=bx (by omega)
 by_cases hf:(xs.length:Int)<=left
 ·have kr:¬left-(xs.length:Int)<0:=by omega
  (try((repeat(revert hN;revert N;apply Pn.out));refine wk (tw @hw @kr) ?_;(repeat(refine Pn.mk ?_;intro N hN))))
  refine aM (fun n env st=>∃k:Nat,n=(xs.length)-k/\k<=(xs.length)/\env 5=.int .i64 (k:Int)/\env 1=(.int .i64 (left-xs.length-(iJ wt xs k:Nat)))/\(0<=left-xs.length-(iJ wt xs k:Nat))) (xs.length) ⟨0,by omega,by omega,sl (tw @mu (tw @Int.natCast_zero @Int.sub_zero)),sl (tw @mu (tw @Int.natCast_zero @Int.sub_zero)),(by rw[mu];omega)⟩ ?_
  rintro n_a env_a st_a ⟨k,rfl,ale,a5,a1,kc⟩ di
  have a0:=di 0 (by kernel_rfl)
  simp only[go_sem, ↓reduceIte,Nat.reduceEqDiff,Nat.reduceAdd,Nat.reduceSub,Nat.reduceLeDiff,reduceCtorEq,mu,Int.natCast_zero,Int.sub_zero]at a0
  clear di
  by_cases hk:(k:Int)<(xs.length:Int)
  ·have cz:∀{e:Env},(e 5=.int .i64 (IntKind.i64.wrap ((k:Int)+1)))->(e 1=(.int .i64 (left-xs.length-(iJ wt xs (k+1):Nat))))->(0<=left-xs.length-(iJ wt xs (k+1):Nat))->∃m0,m0<(xs.length)-k/\∃k:Nat,m0=(xs.length)-k/\k<=(xs.length)/\e 5=.int .i64 (k:Int)/\e 1=(.int .i64 (left-xs.length-(iJ wt xs k:Nat)))/\(0<=left-xs.length-(iJ wt xs k:Nat)):=fun x1 x2 x3=>⟨_,by omega,k+1,rfl,by omega,(by rw[x1,az (by omega)]),x2,x3⟩
   have eX:k<xs.length:=by omega
   have eM:(xs.map e)[k]? =some (e xs[k]):=by simp[eX]
   have tO:=hz xs[k]
   have ht:(e xs[k]).take z=e xs[k]:=by rw[<-tO,List.take_length]
   have hs:=w8 wt eX
   have BI:=qj wt xs (k+1)
   have im:=hg _ (List.getElem_mem eX) (left-xs.length-(iJ wt xs k:Nat)) kc (by omega)
   have kz:cG (dF st_a.get) 6 [.agg (e xs[k]),.int .i64 (left-xs.length-(iJ wt xs k:Nat))]=some [.agg (e xs[k]),.int .i64 (left-xs.length-(iJ wt xs k:Nat))]:=by
    have q1:=CG xs[k] (dF st_a.get)
    rw[ai,ao]at q1
    rw[ai,ai,ao,aG]
    revert q1
    cases V.fz (dF st_a.get) 6 (.agg (e xs[k]))<;>simp
   by_cases pT:(wt xs[k]:Int)<=left-xs.length-(iJ wt xs k:Nat)
   ·rw[xN,if_pos pT]at im
    have Az:¬left-xs.length-(iJ wt xs k:Nat)-(wt xs[k]:Int)<0:=by omega
    have pj:left-xs.length-(iJ wt xs k:Nat)-(wt xs[k]:Int)=left-xs.length-(iJ wt xs (k+1):Nat):=by rw[hs];omega
    generalize hex:e xs[k]=c at im kz eM tO ht
    (try((repeat(revert hN;revert N;apply Pn.out));refine wk (tw @a5 (tw @a1 (tw @a0 (tw @hk (tw @eM (tw @tO (tw @ht @Nat.le_refl))))))) ?_;(repeat(refine Pn.mk ?_;intro N hN))))
    refine .inl ⟨_,aq.x im kz,?_⟩
    refine hN _ _ ?_
    clear hN N
    (try((repeat(revert hN;revert N;apply Pn.out));refine wk (tw @a5 (tw @a1 (tw @a0 @Az))) ?_;(repeat(refine Pn.mk ?_;intro N hN))))
    refine cz ?_ ?_ ((by rw[hs];omega))
    all_goals simp only[go_sem, ↓reduceIte,Nat.reduceEqDiff,Nat.reduceAdd,Nat.reduceSub,Nat.reduceLeDiff,reduceCtorEq,a5,a1,a0,pj]
   ·rw[xN,if_neg pT]at im
    generalize hex:e xs[k]=c at im kz eM tO ht
    (try((repeat(revert hN;revert N;apply Pn.out));refine wk (tw @a5 (tw @a1 (tw @a0 (tw @hk (tw @eM (tw @tO (tw @ht @Nat.le_refl))))))) ?_;(repeat(refine Pn.mk ?_;intro N hN))))
    refine .inl ⟨_,aq.x im kz,?_⟩
    refine hN _ _ ?_
    clear hN N
    (try((repeat(revert hN;revert N;apply Pn.out));refine wk (tw @a5 (tw @a1 @a0)) ?_;(repeat(refine Pn.mk ?_;intro N hN))))
    exact cD (b:=-1) (.inl rfl) (sd @Nat.zero_add) (by rw[xN,if_neg (by omega)])
  ·(try((repeat(revert hN;revert N;apply Pn.out));refine wk (tw @a5 (tw @a1 (tw @a0 @hk))) ?_;(repeat(refine Pn.mk ?_;intro N hN))))
   have eX:k=xs.length:=by omega
   subst eX
   have IM:=Cq wt xs
   exact cD (b:=left-xs.length-(iJ wt xs xs.length:Nat)) (.inl rfl) (sd (tw @a5 (tw @a1 @a0))) (by rw[xN,if_pos (by omega)];omega)
 ·have kr:left-(xs.length:Int)<0:=by omega
  (try((repeat(revert hN;revert N;apply Pn.out));refine wk (tw @hw @kr) ?_;(repeat(refine Pn.mk ?_;intro N hN))))
  exact cD (b:=-1) (.inl rfl) (sd @Nat.zero_add) (by rw[xN,if_neg (by omega)])
theorem Iz {α:Type} {xs ys:List α} (hl:xs.length=ys.length) (h:∀j:Nat,j<xs.length->∀(h1:j<xs.length) (h2:j<ys.length),xs[j]=ys[j]):xs=ys:=List.ext_getElem hl fun j h1 h2=>h j h1 h1 h2
theorem Dh {α:Type} [DecidableEq α] {e:α->List AV} {z fk gk:Nat} (hc:mO P fk=some (Fg fk gk z)) (hz:∀x,(e x).length=z) (CG:∀x g,cG g 6 [.agg (e x)]=some [.agg (e x)]) (xs ys:List α)
  (hg:∀x y,aq P gk [.agg (e x),.agg (e y)] (.bool (decide (x=y)))):aq P fk [.sl (xs.map e),.sl (ys.map e)] (.bool (decide (xs=ys))):=by
 refine aq.body hc rfl fun hl n0=>?_
 try simp only[q]
 have hn:xs.length<=9223372036854775807:=by simpa using(hl (.sl (xs.map e)) (by simp)).len
 clear hl
 by_cases hlen:xs.length=ys.length
 ·have kP:decide ((xs.length:Int)=(ys.length:Int))=true:=by simp[hlen]
  (try((repeat(revert hN;revert N;apply Pn.out));refine wk @kP ?_;(repeat(refine Pn.mk ?_;intro N hN))))
  refine aM (fun n env st=>∃k:Nat,n=(xs.length)-k/\k<=(xs.length)/\env 5=.int .i64 (k:Int)/\(∀j:Nat,j<k->∀(h1:j<xs.length) (h2:j<ys.length),xs[j]=ys[j])) (xs.length) ⟨0,by omega,by omega,sl @Nat.zero_add,fun _ h=>absurd h (Nat.not_lt_zero _)⟩ ?_
  rintro n_a env_a st_a ⟨k,rfl,ale,a5,kN⟩ di
  have a0:=di 0 (by kernel_rfl);have a1:=di 1 (by kernel_rfl)
  simp only[go_sem, ↓reduceIte,Nat.reduceEqDiff,Nat.reduceAdd,Nat.reduceSub,Nat.reduceLeDiff,reduceCtorEq]at a0 a1
  clear di
  by_cases hk:(k:Int)<(xs.length:Int)
  ·have cz:∀{e:Env},(e 5=.int .i64 (IntKind.i64.wrap ((k:Int)+1)))->(∀(h1:k<xs.length) (h2:k<ys.length),xs[k]=ys[k])->∃m0,m0<(xs.length)-k/\∃k:Nat,m0=(xs.length)-k/\k<=(xs.length)/\e 5=.int .i64 (k:Int)/\(∀j:Nat,j<k->∀(h1:j<xs.length) (h2:j<ys.length),xs[j]=ys[j]):=fun x1 x2=>⟨_,by omega,k+1,rfl,by omega,(by rw[x1,az (by omega)]),(all_succ kN x2)⟩
   have eX:k<xs.length:=by omega
   have S7:k<ys.length:=by omega
   have eM:(xs.map e)[k]? =some (e xs[k]):=by simp[eX]
   have DM:(ys.map e)[k]? =some (e ys[k]):=by simp[S7]
   have tO:=hz xs[k]
   have DW:=hz ys[k]
   have ht:(e xs[k]).take z=e xs[k]:=by rw[<-tO,List.take_length]
   have HM:(e ys[k]).take z=e ys[k]:=by rw[<-DW,List.take_length]
   have im:=hg xs[k] ys[k]
   have kz:∀g,cG g 6 [.agg (e xs[k]),.agg (e ys[k])]=some [.agg (e xs[k]),.agg (e ys[k])]:=fun g=>by
    have q1:=CG xs[k] g
    have q2:=CG ys[k] g
    rw[ai,ao]at q1
    rw[ai,q2]
    revert q1
    cases V.fz g 6 (.agg (e xs[k]))<;>simp
   by_cases heq:xs[k]=ys[k]
   ·rw[decide_eq_true heq]at im
    generalize hex:e xs[k]=c at im kz eM tO ht
    generalize hey:e ys[k]=d at im kz DM DW HM
    (try((repeat(revert hN;revert N;apply Pn.out));refine wk (tw @a5 (tw @a0 (tw @a1 (tw @hk (tw @eM (tw @DM (tw @tO (tw @DW (tw @ht (tw @HM @Nat.le_refl)))))))))) ?_;(repeat(refine Pn.mk ?_;intro N hN))))
    refine⟨_,aq.x im (kz _),?_⟩
    refine hN _ _ ?_
    clear hN N
    (try((repeat(revert hN;revert N;apply Pn.out));refine wk (tw @a5 (tw @a0 @a1)) ?_;(repeat(refine Pn.mk ?_;intro N hN))))
    exact cz (sd (tw @a5 (tw @a0 @a1))) (fun _ _=>heq)
   ·rw[decide_eq_false heq]at im
    generalize hex:e xs[k]=c at im kz eM tO ht
    generalize hey:e ys[k]=d at im kz DM DW HM
    (try((repeat(revert hN;revert N;apply Pn.out));refine wk (tw @a5 (tw @a0 (tw @a1 (tw @hk (tw @eM (tw @DM (tw @tO (tw @DW (tw @ht (tw @HM @Nat.le_refl)))))))))) ?_;(repeat(refine Pn.mk ?_;intro N hN))))
    refine⟨_,aq.x im (kz _),?_⟩
    refine hN _ _ ?_
    clear hN N
    (try((repeat(revert hN;revert N;apply Pn.out));refine wk (tw @a5 (tw @a0 @a1)) ?_;(repeat(refine Pn.mk ?_;intro N hN))))
    exact aX (b:=false) (.inl rfl) (sd @Nat.zero_add) (decide_eq_false fun h=>heq (List.getElem_of_eq h _)).symm
  ·(try((repeat(revert hN;revert N;apply Pn.out));refine wk (tw @a5 (tw @a0 (tw @a1 @hk))) ?_;(repeat(refine Pn.mk ?_;intro N hN))))
   exact aX (b:=true) (.inl rfl) (sd @Nat.zero_add) (decide_eq_true (Iz hlen fun j hj h1 h2=>kN j (by omega) h1 h2)).symm
 ·have kP:decide ((xs.length:Int)=(ys.length:Int))=false:=decide_eq_false fun h=>hlen (by omega)
  (try((repeat(revert hN;revert N;apply Pn.out));refine wk @kP ?_;(repeat(refine Pn.mk ?_;intro N hN))))
  exact aX (b:=false) (.inl rfl) (sd @Nat.zero_add) (decide_eq_false fun h=>hlen (by subst h;rfl)).symm
theorem QS {fk:Nat} (hc:mO P fk=some (M8 fk .tI)) (xs ys:List Int):
  aq P fk [.sl (xs.map fun x=>[AV.int .i64 x]),.sl (ys.map fun x=>[AV.int .i64 x])] (.bool (decide (xs=ys))):=by
 refine aq.body hc rfl fun hl n0=>?_
 try simp only[q]
 have hn:xs.length<=9223372036854775807:=by simpa using(hl (.sl (xs.map fun x=>[AV.int .i64 x])) (by simp)).len
 clear hl
 by_cases hlen:xs.length=ys.length
 ·have kP:decide ((xs.length:Int)=(ys.length:Int))=true:=by simp[hlen]
  (try((repeat(revert hN;revert N;apply Pn.out));refine wk @kP ?_;(repeat(refine Pn.mk ?_;intro N hN))))
  refine aM (fun n env st=>∃k:Nat,n=(xs.length)-k/\k<=(xs.length)/\env 5=.int .i64 (k:Int)/\(∀j:Nat,j<k->∀(h1:j<xs.length) (h2:j<ys.length),xs[j]=ys[j])) (xs.length) ⟨0,by omega,by omega,sl @Nat.zero_add,fun _ h=>absurd h (Nat.not_lt_zero _)⟩ ?_
  rintro n_a env_a st_a ⟨k,rfl,ale,a5,kN⟩ di
  have a0:=di 0 (by kernel_rfl);have a1:=di 1 (by kernel_rfl)
  simp only[go_sem, ↓reduceIte,Nat.reduceEqDiff,Nat.reduceAdd,Nat.reduceSub,Nat.reduceLeDiff,reduceCtorEq]at a0 a1
  clear di
  by_cases hk:(k:Int)<(xs.length:Int)
  ·have cz:∀{e:Env},(e 5=.int .i64 (IntKind.i64.wrap ((k:Int)+1)))->(∀(h1:k<xs.length) (h2:k<ys.length),xs[k]=ys[k])->∃m0,m0<(xs.length)-k/\∃k:Nat,m0=(xs.length)-k/\k<=(xs.length)/\e 5=.int .i64 (k:Int)/\(∀j:Nat,j<k->∀(h1:j<xs.length) (h2:j<ys.length),xs[j]=ys[j]):=fun x1 x2=>⟨_,by omega,k+1,rfl,by omega,(by rw[x1,az (by omega)]),(all_succ kN x2)⟩
   have eX:k<xs.length:=by omega
   have S7:k<ys.length:=by omega
   have eM:(xs.map fun x=>[AV.int .i64 x])[k]? =some [.int .i64 xs[k]]:=by simp[eX]
   have DM:(ys.map fun x=>[AV.int .i64 x])[k]? =some [.int .i64 ys[k]]:=by simp[S7]
   by_cases heq:xs[k]=ys[k]
   ·have hq:=decide_eq_true heq
    (try((repeat(revert hN;revert N;apply Pn.out));refine wk (tw @a5 (tw @a0 (tw @a1 (tw @hk (tw @eM (tw @DM @hq)))))) ?_;(repeat(refine Pn.mk ?_;intro N hN))))
    exact cz (sd (tw @a5 (tw @a0 @a1))) (fun _ _=>heq)
   ·have hq:=decide_eq_false heq
    (try((repeat(revert hN;revert N;apply Pn.out));refine wk (tw @a5 (tw @a0 (tw @a1 (tw @hk (tw @eM (tw @DM @hq)))))) ?_;(repeat(refine Pn.mk ?_;intro N hN))))
    exact aX (b:=false) (.inl rfl) (sd @Nat.zero_add) (decide_eq_false fun h=>heq (List.getElem_of_eq h _)).symm
  ·(try((repeat(revert hN;revert N;apply Pn.out));refine wk (tw @a5 (tw @a0 (tw @a1 @hk))) ?_;(repeat(refine Pn.mk ?_;intro N hN))))
   exact aX (b:=true) (.inl rfl) (sd @Nat.zero_add) (decide_eq_true (Iz hlen fun j hj h1 h2=>kN j (by omega) h1 h2)).symm
 ·have kP:decide ((xs.length:Int)=(ys.length:Int))=false:=decide_eq_false fun h=>hlen (by omega)
  (try((repeat(revert hN;revert N;apply Pn.out));refine wk @kP ?_;(repeat(refine Pn.mk ?_;intro N hN))))
  exact aX (b:=false) (.inl rfl) (sd @Nat.zero_add) (decide_eq_false fun h=>hlen (by subst h;rfl)).symm
theorem vd (l:List AV):l++[]=l:=List.append_nil l
def gM {α:Type} (e:α->List AV) (zc:List AV) (xs:List α) (k:Nat):List (List AV):=(xs.take k).map e++List.replicate (xs.length-k) zc
theorem oz {α:Type} (e:α->List AV) (zc:List AV) (xs:List α):List.replicate xs.length zc=gM e zc xs 0:=by simp[gM]
theorem qu {α:Type} (e:α->List AV) (zc:List AV) (xs:List α):gM e zc xs xs.length=xs.map e:=by simp[gM]
theorem qv {α:Type} (e:α->List AV) (zc:List AV) (xs:List α) {k:Nat} (hk:k<xs.length):(gM e zc xs k)[k]? =some zc:=by
 have h1:((xs.take k).map e).length=k:=by simp;omega
 rw[gM,List.getElem?_append_right (by omega),h1,Nat.sub_self,List.getElem?_replicate,if_pos (by omega)]
theorem qw {α:Type} (e:α->List AV) (zc:List AV) (xs:List α) {k:Nat} (hk:k<xs.length):(gM e zc xs k).set k (e xs[k])=gM e zc xs (k+1):=by
 have h1:((xs.take k).map e).length=k:=by simp;omega
 rw[gM,List.set_append_right _ _ (by omega),h1,Nat.sub_self,gM,List.take_succ_eq_append_getElem hk,List.map_append,List.append_assoc]
 congr 1
 obtain⟨m,hm⟩:∃m,xs.length-k=m+1:=⟨xs.length-k-1,by omega⟩
 rw[hm,show xs.length-(k+1)=m by omega,List.replicate_succ]
 rfl
theorem EL {α:Type} {en:α->List AV} {z fk gk:Nat} {zero:List K} (hc:mO P fk=some (ua fk gk z zero)) (Fx:zero.length=z) (hz:∀x,(en x).length=z) (km:∀x,(en x).all AV.cell=true) (CG:∀x g,cG g 5 (en x)=some (en x)) (xs:List α) (hlen:xs.length<=1048576)
  (hg:∀x∈xs,kj P gk [.agg (en x)] (.agg (en x))):kj P fk [.sl (xs.map en)] (.sl (xs.map en)):=by
 refine kj.body hc rfl fun hl σ=>?_
 try simp only[q]
 clear hl
 have hm:(xs.length:Int)<=((16777216:Nat):Int):=by omega
 have h0:(0:Int)<=(xs.length:Int):=by omega
 (try((repeat(revert hN;revert N;apply Pn.out));refine wk (tw @hm (tw @h0 (tw @Int.le_refl (tw (oz en (zero.map K.av) xs) @Fx)))) ?_;(repeat(refine Pn.mk ?_;intro N hN))))
 refine aM (fun n env st=>∃k:Nat,n=(xs.length)-k/\k<=(xs.length)/\env 4=.int .i64 (k:Int)/\st.get ⟨fk*1000000+1002,σ.next+1⟩=some ⟨true,z,gM en (zero.map K.av) xs k⟩) (xs.length) ⟨0,by omega,by omega,sl @Nat.zero_add,sl @Nat.zero_add⟩ ?_
 rintro n_a env_a st_a ⟨k,rfl,ale,a4,ag0⟩ di
 have a0:=di 0 (by kernel_rfl);have a3:=di 3 (by kernel_rfl)
 simp only[go_sem, ↓reduceIte,Nat.reduceEqDiff,Nat.reduceAdd,Nat.reduceSub,Nat.reduceLeDiff,reduceCtorEq]at a0 a3
 clear di
 by_cases hk:(k:Int)<(xs.length:Int)
 ·have cz:∀{e:Env} {gg:Rows},(e 4=.int .i64 (IntKind.i64.wrap ((k:Int)+1)))->(gg ⟨fk*1000000+1002,σ.next+1⟩=some ⟨true,z,gM en (zero.map K.av) xs (k+1)⟩)->∃m0,m0<(xs.length)-k/\∃k:Nat,m0=(xs.length)-k/\k<=(xs.length)/\e 4=.int .i64 (k:Int)/\gg ⟨fk*1000000+1002,σ.next+1⟩=some ⟨true,z,gM en (zero.map K.av) xs k⟩:=fun x1 x2=>⟨_,by omega,k+1,rfl,by omega,(by rw[x1,az (by omega)]),x2⟩
  have eX:k<xs.length:=by omega
  have eM:(xs.map en)[k]? =some (en xs[k]):=by simp[eX]
  have tO:=hz xs[k]
  have KD:=km xs[k]
  have ht:(en xs[k]).take z=en xs[k]:=by rw[<-tO,List.take_length]
  have im:=hg _ (List.getElem_mem eX)
  have e6:=qv en (zero.map K.av) xs eX
  have dS:=qw en (zero.map K.av) xs eX
  have IU:(zero.map K.av).drop z=[]:=List.drop_of_length_le (by simp[Fx])
  generalize hex:en xs[k]=c at im eM tO ht KD dS
  (repeat(first|((repeat(revert hN;revert N;apply Pn.out));refine wk (tw @a4 (tw @ag0 (tw @a0 (tw @a3 (tw @hk (tw @eM (tw @tO (tw @ht (tw @Nat.le_refl (tw @e6 (tw @dS (tw @IU (tw @vd (tw @KD @Fx)))))))))))))) ?_;(repeat(refine Pn.mk ?_;intro N hN)))|((try apply Or.inl);refine⟨_,kj.x (im) _,?_⟩;refine hN _ _ ?_;clear hN N)))
  refine cz ?_ ?_
  all_goals simp only[go_sem, ↓reduceIte,Nat.reduceEqDiff,Nat.reduceAdd,Nat.reduceSub,Nat.reduceLeDiff,reduceCtorEq,a4,ag0,a0,a3]
 ·(try((repeat(revert hN;revert N;apply Pn.out));refine wk (tw @a4 (tw @ag0 (tw @a0 (tw @a3 @hk)))) ?_;(repeat(refine Pn.mk ?_;intro N hN))))
  have eX:k=xs.length:=by omega
  subst eX
  refine Sd (.inl rfl) (r0:=.own ⟨fk*1000000+1002,σ.next+1⟩ 0 xs.length) (sd (tw @a4 (tw @ag0 (tw @a0 @a3)))) ?_
  rw[qu]at ag0
  exact fS ag0 (by simp) fun x=>CG x _
theorem Sg {fk:Nat} (hc:mO P fk=some (Kj fk (.int .i64 0))) (xs:List Int) (hlen:xs.length<=1048576):kj P fk [.sl (xs.map fun x=>[AV.int .i64 x])] (.sl (xs.map fun x=>[AV.int .i64 x])):=by
 refine kj.body hc rfl fun hl σ=>?_
 try simp only[q]
 clear hl
 obtain⟨en,DG⟩:∃en:Int->List AV,en=fun x=>[AV.int .i64 x]:=⟨_,rfl⟩
 rw[<-DG]
 have hm:(xs.length:Int)<=((16777216:Nat):Int):=by omega
 have h0:(0:Int)<=(xs.length:Int):=by omega
 (try((repeat(revert hN;revert N;apply Pn.out));refine wk (tw @hm (tw @h0 (tw @Int.le_refl (oz en [AV.int .i64 0] xs)))) ?_;(repeat(refine Pn.mk ?_;intro N hN))))
 refine aM (fun n env st=>∃k:Nat,n=(xs.length)-k/\k<=(xs.length)/\env 4=.int .i64 (k:Int)/\st.get ⟨fk*1000000+1002,σ.next+1⟩=some ⟨true,1,gM en [AV.int .i64 0] xs k⟩) (xs.length) ⟨0,by omega,by omega,sl @Nat.zero_add,sl @Nat.zero_add⟩ ?_
 rintro n_a env_a st_a ⟨k,rfl,ale,a4,ag0⟩ di
 have a0:=di 0 (by kernel_rfl);have a3:=di 3 (by kernel_rfl)
 simp only[go_sem, ↓reduceIte,Nat.reduceEqDiff,Nat.reduceAdd,Nat.reduceSub,Nat.reduceLeDiff,reduceCtorEq]at a0 a3
 clear di
 by_cases hk:(k:Int)<(xs.length:Int)
 ·have cz:∀{e:Env} {gg:Rows},(e 4=.int .i64 (IntKind.i64.wrap ((k:Int)+1)))->(gg ⟨fk*1000000+1002,σ.next+1⟩=some ⟨true,1,gM en [AV.int .i64 0] xs (k+1)⟩)->∃m0,m0<(xs.length)-k/\∃k:Nat,m0=(xs.length)-k/\k<=(xs.length)/\e 4=.int .i64 (k:Int)/\gg ⟨fk*1000000+1002,σ.next+1⟩=some ⟨true,1,gM en [AV.int .i64 0] xs k⟩:=fun x1 x2=>⟨_,by omega,k+1,rfl,by omega,(by rw[x1,az (by omega)]),x2⟩
  have eX:k<xs.length:=by omega
  have eM:(xs.map en)[k]? =some [AV.int .i64 xs[k]]:=by simp[eX,DG]
  have e6:=qv en [AV.int .i64 0] xs eX
  have dS:=qw en [AV.int .i64 0] xs eX
  rw[show en xs[k]=[AV.int .i64 xs[k]] by rw[DG]]at dS
  (try((repeat(revert hN;revert N;apply Pn.out));refine wk (tw @a4 (tw @ag0 (tw @a0 (tw @a3 (tw @hk (tw @eM (tw @e6 @dS))))))) ?_;(repeat(refine Pn.mk ?_;intro N hN))))
  refine cz ?_ ?_
  all_goals simp only[go_sem, ↓reduceIte,Nat.reduceEqDiff,Nat.reduceAdd,Nat.reduceSub,Nat.reduceLeDiff,reduceCtorEq,a4,ag0,a0,a3]
 ·(try((repeat(revert hN;revert N;apply Pn.out));refine wk (tw @a4 (tw @ag0 (tw @a0 (tw @a3 @hk)))) ?_;(repeat(refine Pn.mk ?_;intro N hN))))
  have eX:k=xs.length:=by omega
  subst eX
  refine Sd (.inl rfl) (r0:=.own ⟨fk*1000000+1002,σ.next+1⟩ 0 xs.length) (sd (tw @a4 (tw @ag0 (tw @a0 @a3)))) ?_
  rw[qu]at ag0
  exact fS ag0 (by simp) fun x=>by simp[DG,ai,ao,aG]
end Go.Proofs.YtgoelphibofcmaaGreat.V

namespace Go.Proofs.YtgoelphibofcmaaGreat
open Go.RowKit
def Sl (w:World) (fp:List Nat) (v:Value) (n:Nat) (xs:List Value):Prop:=
 ∃A c,v=.slice A n c/\n<=c/\c<=maxLen/\
  ((fp=[]/\n=0)∨∃b o,fp=[b]/\A=some ⟨b,o,none⟩/\∀j u,xs[j]? =some u->w.cell? ⟨b,o+j,none⟩=some u)
def fP (fp:List Nat) (lo hi:Nat):Prop:=∀b∈fp,lo<=b/\b<hi
theorem fP.nil (lo hi:Nat):fP [] lo hi:=fun _ h=>by cases h
theorem Sl.nil (w:World):Sl w [] (.slice none 0 0) 0 []:=⟨none,0,rfl,Nat.le_refl _,by simp[maxLen],.inl ⟨rfl,rfl⟩⟩
def NM {α:Type} (rep:World->List Nat->List Value->α->Prop) (sz:Nat) (w:World) (oE:List (List Value)) (Fj:List (List Nat)) (ds:List α):Prop:=
 oE.length=ds.length/\Fj.length=ds.length/\∀(i:Nat) (cs:List Value) (f:List Nat) (d:α),oE[i]? =some cs->Fj[i]? =some f->ds[i]? =some d->rep w f cs d/\cs.length=sz
def mK {α:Type} (rep:World->List Nat->List Value->α->Prop) (sz:Nat) (w:World) (fp:List Nat) (v:Value) (ds:List α):Prop:=
 ∃oE Fj TR,fp=TR++Fj.flatten/\Sl w TR v ds.length oE.flatten/\NM rep sz w oE Fj ds
theorem qQ {α:Type} {Fj:List (List α)} {i:Nat} {f:List α} (h:Fj[i]? =some f):∀b∈f,b∈Fj.flatten:=fun b hb=>
 List.mem_flatten.2 ⟨f,List.mem_of_getElem? h,hb⟩
theorem tF {α:Type} {oE:List (List α)} {sz:Nat} (h:∀cs∈oE,cs.length=sz) {i j:Nat} {cs:List α} (hi:oE[i]? =some cs) (hj:j<sz):oE.flatten[i*sz+j]? =cs[j]? :=by
 induction oE generalizing i with
 |nil=>simp at hi
 |cons c r ih=>
  have hc:c.length=sz:=h c (by simp)
  cases i with
  |zero=>
   simp at hi;subst hi
   rw[List.flatten_cons,List.getElem?_append_left (by omega)];simp
  |succ i=>
   rw[List.flatten_cons,List.getElem?_append_right (by rw[hc,Nat.succ_mul];omega)]
   have:(i+1)*sz+j-c.length=i*sz+j:=by rw[hc,Nat.succ_mul];omega
   rw[this]
   exact ih (fun cs dr=>h cs (List.mem_cons_of_mem _ dr)) (by simpa using hi)
theorem NM.lens {α:Type} {rep:World->List Nat->List Value->α->Prop} {sz:Nat} {w:World} {oE:List (List Value)} {Fj:List (List Nat)} {ds:List α}
  (h:NM rep sz w oE Fj ds):∀cs∈oE,cs.length=sz:=fun cs dr=>by
 obtain⟨i,hi,rfl⟩:=List.getElem_of_mem dr
 have h1:i<Fj.length:=by rw[h.2.1,<-h.1];exact hi
 have h2:i<ds.length:=by rw[<-h.1];exact hi
 exact(h.2.2 i _ _ _ (List.getElem?_eq_getElem hi) (List.getElem?_eq_getElem h1) (List.getElem?_eq_getElem h2)).2
theorem mK.at_ {α:Type} {rep:World->List Nat->List Value->α->Prop} {sz:Nat} {w:World} {fp:List Nat} {A:Option Addr} {n c:Nat} {ds:List α}
  (h:mK rep sz w fp (.slice A n c) ds) (k:Nat) (hk:k<ds.length):
  ∃b o cs f,A=some ⟨b,o,none⟩/\b∈fp/\(∀x∈f,x∈fp)/\rep w f cs ds[k]/\cs.length=sz/\∀j u,cs[j]? =some u->w.cell? ⟨b,o+(k*sz+j),none⟩=some u:=by
 obtain⟨oE,Fj,TR,rfl,⟨A',c',hv,_,_,hc⟩,hr⟩:=h
 simp only[Value.slice.injEq]at hv
 obtain⟨rfl,hn,rfl⟩:=hv
 rcases hc with⟨_,h0⟩|⟨b,o,rfl,rfl,hc⟩
 ·omega
 have h1:k<oE.length:=by rw[hr.1];exact hk
 have h2:k<Fj.length:=by rw[hr.2.1];exact hk
 obtain⟨gZ,hl⟩:=hr.2.2 k _ _ _ (List.getElem?_eq_getElem h1) (List.getElem?_eq_getElem h2) (List.getElem?_eq_getElem hk)
 refine⟨b,o,oE[k],Fj[k],rfl,by simp,fun x hx=>List.mem_append_right _ (qQ (List.getElem?_eq_getElem h2) x hx),gZ,hl,fun j u hj=>?_⟩
 have gN:j<sz:=by rw[<-hl];exact(List.getElem?_eq_some_iff.1 hj).1
 exact hc _ u (by rw[tF hr.lens (List.getElem?_eq_getElem h1) gN];exact hj)
theorem mK.len {α:Type} {rep:World->List Nat->List Value->α->Prop} {sz:Nat} {w:World} {fp:List Nat} {v:Value} {ds:List α}
  (h:mK rep sz w fp v ds):∃A c,v=.slice A ds.length c/\ds.length<=c/\c<=maxLen:=by
 obtain⟨_,_,_,_,⟨A,c,hv,h1,h2,_⟩,_⟩:=h
 exact⟨A,c,hv,h1,h2⟩
theorem mK.nil {α:Type} (rep:World->List Nat->List Value->α->Prop) (sz:Nat) (w:World):mK rep sz w [] (.slice none 0 0) ([]:List α):=
 ⟨[],[],[],rfl,Sl.nil w,rfl,rfl,fun i cs f d hc=>by simp at hc⟩
def Flat {α:Type} (enc:α->List Value):World->List Nat->List Value->α->Prop:=fun _ f cs d=>f=[]/\cs=enc d
def Q (w w':World):Prop:=∃q,w'=w.drewN q
theorem Q.refl (w:World):Q w w:=⟨0,rfl⟩
theorem Q.d {w w':World} (h:Q w w') (n:Nat):Q w (w'.drewN n):=by obtain⟨q,rfl⟩:=h;exact⟨q+n,by rw[World.drewN_drewN]⟩
theorem Q.d1 {w w':World} (h:Q w w'):Q w w'.drew:=by obtain⟨q,rfl⟩:=h;exact⟨q+1,rfl⟩
theorem Q.n (w:World) (n:Nat):Q w (w.drewN n):=⟨n,rfl⟩
theorem Q.trans {a b c:World} (h:Q a b) (k:Q b c):Q a c:=by obtain⟨q,rfl⟩:=k;exact h.d q
theorem Ij {B:Nat} {a w:World} (h:Below B a w) (n:Nat):Below B a (w.drewN n):=⟨h.os,h.tape,h.output,h.size,h.block⟩
theorem Q.below {w w':World} (h:Q w w'):Below w.heap.size w w':=by obtain⟨q,rfl⟩:=h;exact Ij (Below.refl _ _) q
theorem iG {a b:Bool} (h:a=b):Ending.returned (.bool a)=.returned (.bool b):=by rw[h]
theorem FL {k:IntKind} {a b:Int} (h:a=b):Ending.returned (.int k a)=.returned (.int k b):=by rw[h]
structure ad where
 eI:Int
 eF:Int
deriving DecidableEq
structure ae where
 bc:ad
 bU:Int
deriving DecidableEq
structure dP where
 ah:List ae
deriving DecidableEq
structure fy where
 aE:ByteArray
 ez:Int
deriving DecidableEq
structure eR where
 aE:ByteArray
 br:List Int
deriving DecidableEq
structure au where
 ax:List fy
 ah:List eR
deriving DecidableEq
structure aD where
 aB:au
 cu:dP
 ay:Int
deriving DecidableEq
def Gp (d:Int):List Value:=[.int .i64 d]
def EY:=Flat Gp
def fM (d:ad):List Value:=[.int .i64 d.eI,.int .i64 d.eF]
def De (d:ae):List Value:=[.int .i64 d.bc.eI,.int .i64 d.bc.eF,.int .i64 d.bU]
def AJ:=Flat De
def jd:=mK AJ 3
def Iw (d:fy):List Value:=[.string d.aE,.int .i64 d.ez]
def HZ:=Flat Iw
def rn:=mK HZ 2
def u7:=mK EY 1
def H0 (w:World) (f:List Nat) (cs:List Value) (d:eR):Prop:=
 ∃v1 f1,f=f1/\cs=[.string d.aE,v1]/\u7 w f1 v1 d.br
def rq:=mK H0 2
end Go.Proofs.YtgoelphibofcmaaGreat

namespace Go.Proofs.YtgoelphibofcmaaGreat.V
open Go.RowKit
variable {P:Program} {w:World} {D:Nat->Prop}
def HR (P:Program) (w:World) (D:Nat->Prop) (al:List AV) (cs:List Value):Prop:=∀(j:Nat) (a:AV),al[j]? =some a->∃u:Value,cs[j]? =some u/\jC P w D a u
theorem sj {α:Type} {rep:World->List Nat->List Value->α->Prop} {e:α->List AV} {sz:Nat} {f:List Nat} {v:Value} {xs:List α} (h:mK rep sz w f v xs) (hD:∀b∈f,D b)
  (hl:∀x∈xs,(e x).length=sz) (hc:∀x∈xs,∀a∈e x,a.cell=true) (hr:∀x∈xs,∀f' cs,rep w f' cs x->(∀b∈f',D b)->HR P w D (e x) cs):jC P w D (.sl (xs.map e)) v:=by
 obtain⟨A,c,rfl,h1,h2⟩:=mK.len h
 by_cases h0:xs=[]
 ·subst h0;exact .AG _ _ h2
 have lu:0<xs.length:=List.length_pos_iff.2 h0
 obtain⟨b,o,P8,f0,rfl,hb,S5,U8,Lr,jG⟩:=mK.at_ h 0 lu
 have key:∀(i:Nat) (hi:i<xs.length),∃cs f',(∀x∈f',x∈f)/\rep w f' cs xs[i]/\cs.length=sz/\∀j u,cs[j]? =some u->w.cell? ⟨b,o+(i*sz+j),none⟩=some u:=by
  intro i hi
  obtain⟨b',o',cs,f',SV,_,kr,nW,dr,kg⟩:=mK.at_ h i hi
  simp only[Option.some.injEq,Addr.mk.injEq,and_true]at SV
  obtain⟨rfl,rfl⟩:=SV
  exact⟨cs,f',kr,nW,dr,kg⟩
 refine .sl _ b o _ c sz (fun i j=>(w.cell? ⟨b,o+(i*sz+j),none⟩).getD Go.undef) (by simp) h1 h2 (hD b hb) ?_ ?_ ?_ ?_
 ·intro cs dr
  obtain⟨x,hx,rfl⟩:=List.mem_map.1 dr
  exact hl x hx
 ·intro cs dr
  obtain⟨x,hx,rfl⟩:=List.mem_map.1 dr
  exact hc x hx
 ·intro i j hi hj
  obtain⟨cs,f',_,_,dr,kg⟩:=key i hi
  rw[kg j cs[j] (List.getElem?_eq_getElem (by omega))]
  rfl
 ·intro i j cs a dr ha
  have hi:i<xs.length:=by
   have:=(List.getElem?_eq_some_iff.1 dr).1
   simpa using this
  obtain⟨qd,f',kr,nW,hcs',kg⟩:=key i hi
  simp[hi]at dr
  subst dr
  obtain⟨u,hu,him⟩:=hr _ (List.getElem_mem hi) f' qd nW (fun b hb=>hD b (kr b hb)) j a ha
  rw[kg j u hu]
  exact him
end Go.Proofs.YtgoelphibofcmaaGreat.V

namespace Go.Proofs.YtgoelphibofcmaaGreat.V
open Go.RowKit
variable {P:Program} {w:World} {D:Nat->Prop}
def aw (d:Int):List AV:=[.int .i64 d]
def ab (d:ad):List AV:=[.int .i64 d.eI,.int .i64 d.eF]
def aj (d:ae):List AV:=[.int .i64 d.bc.eI,.int .i64 d.bc.eF,.int .i64 d.bU]
def aO (d:dP):List AV:=[.sl (d.ah.map aj)]
def bP (d:fy):List AV:=[.str d.aE,.int .i64 d.ez]
def bp (d:eR):List AV:=[.str d.aE,.sl (d.br.map aw)]
def aa (d:au):List AV:=[.sl (d.ax.map bP),.sl (d.ah.map bp)]
def aC (d:aD):List AV:=[.sl (d.aB.ax.map bP),.sl (d.aB.ah.map bp),.sl (d.cu.ah.map aj),.int .i64 d.ay]
theorem tx {f:List Nat} {v:Value} {xs:List ae} (h:jd w f v xs) (hD:∀b∈f,D b):jC P w D (.sl (xs.map aj)) v:=
 sj h hD (fun _ _=>rfl) (fun x _ a ha=>by simp[aj]at ha;rcases ha with rfl|rfl|rfl<;>rfl) fun x _ f' cs hr hf=>by
  obtain⟨_,rfl⟩:=hr
  intro j a ha
  match j,ha with
  |0,ha=>simp[aj]at ha;subst ha;exact⟨_,rfl,.int _ _⟩
  |1,ha=>simp[aj]at ha;subst ha;exact⟨_,rfl,.int _ _⟩
  |2,ha=>simp[aj]at ha;subst ha;exact⟨_,rfl,.int _ _⟩
  |j+3,ha=>simp[aj]at ha
theorem y4 {d:dP} {f0:List Nat} {v0:Value} (h0:jd w f0 v0 d.ah) (d0:∀b∈f0,D b):jC P w D (.agg (aO d)) (.agg #[v0]):=by
 refine .agg _ _ (fun j=>(#[v0]:Array Value).getD j Go.undef) rfl (fun a ha=>by simp[aO]at ha;rcases ha with rfl<;>rfl) (fun j hj=>?_) (fun j a ha=>?_)
 ·match j,hj with
  |0,_=>rfl
  |j+1,hj=>simp[aO]at hj<;>omega
 ·match j,ha with
  |0,ha=>simp[aO]at ha;subst ha;exact tx h0 d0
  |j+1,ha=>simp[aO]at ha
theorem FZ {f:List Nat} {v:Value} {xs:List fy} (h:rn w f v xs) (hD:∀b∈f,D b):jC P w D (.sl (xs.map bP)) v:=
 sj h hD (fun _ _=>rfl) (fun x _ a ha=>by simp[bP]at ha;rcases ha with rfl|rfl<;>rfl) fun x _ f' cs hr hf=>by
  obtain⟨_,rfl⟩:=hr
  intro j a ha
  match j,ha with
  |0,ha=>simp[bP]at ha;subst ha;exact⟨_,rfl,.str _⟩
  |1,ha=>simp[bP]at ha;subst ha;exact⟨_,rfl,.int _ _⟩
  |j+2,ha=>simp[bP]at ha
theorem CW {f:List Nat} {v:Value} {xs:List Int} (h:u7 w f v xs) (hD:∀b∈f,D b):jC P w D (.sl (xs.map aw)) v:=
 sj h hD (fun _ _=>rfl) (fun x _ a ha=>by simp[aw]at ha;rcases ha with rfl<;>rfl) fun x _ f' cs hr hf=>by
  obtain⟨_,rfl⟩:=hr
  intro j a ha
  match j,ha with
  |0,ha=>simp[aw]at ha;subst ha;exact⟨_,rfl,.int _ _⟩
  |j+1,ha=>simp[aw]at ha
theorem F5 {f:List Nat} {v:Value} {xs:List eR} (h:rq w f v xs) (hD:∀b∈f,D b):jC P w D (.sl (xs.map bp)) v:=
 sj h hD (fun _ _=>rfl) (fun x _ a ha=>by simp[bp]at ha;rcases ha with rfl|rfl<;>rfl) fun x _ f' cs hr hf=>by
  obtain⟨v1,f1,rfl,rfl,h1⟩:=hr
  intro j a ha
  match j,ha with
  |0,ha=>simp[bp]at ha;subst ha;exact⟨_,rfl,.str _⟩
  |1,ha=>simp[bp]at ha;subst ha;exact⟨_,rfl,CW h1 hf⟩
  |j+2,ha=>simp[bp]at ha
theorem C0 {d:aD} {f0:List Nat} {v0:Value} (h0:rn w f0 v0 d.aB.ax) (d0:∀b∈f0,D b) {f1:List Nat} {v1:Value} (h1:rq w f1 v1 d.aB.ah) (d1:∀b∈f1,D b) {f2:List Nat} {v2:Value} (h2:jd w f2 v2 d.cu.ah) (d2:∀b∈f2,D b):jC P w D (.agg (aC d)) (.agg #[v0,v1,v2,.int .i64 d.ay]):=by
 refine .agg _ _ (fun j=>(#[v0,v1,v2,.int .i64 d.ay]:Array Value).getD j Go.undef) rfl (fun a ha=>by simp[aC]at ha;rcases ha with rfl|rfl|rfl|rfl<;>rfl) (fun j hj=>?_) (fun j a ha=>?_)
 ·match j,hj with
  |0,_=>rfl
  |1,_=>rfl
  |2,_=>rfl
  |3,_=>rfl
  |j+4,hj=>simp[aC]at hj<;>omega
 ·match j,ha with
  |0,ha=>simp[aC]at ha;subst ha;exact FZ h0 d0
  |1,ha=>simp[aC]at ha;subst ha;exact F5 h1 d1
  |2,ha=>simp[aC]at ha;subst ha;exact tx h2 d2
  |3,ha=>simp[aC]at ha;subst ha;exact .int _ _
  |j+4,ha=>simp[aC]at ha
end Go.Proofs.YtgoelphibofcmaaGreat.V

namespace Go.Proofs.YtgoelphibofcmaaGreat.V
open Go.RowKit
attribute [local irreducible] ek wpOps gq Call
attribute [local go_sem] aH fF eK ga fZ da upd ck K.av cH AV.cells AV.cell rowOf rowsOf part ld rowAt bF cj dy dW gU bG cX eh fY eU dn ea cV cU dH dI bJ aW cK bI cN cL dY eb dZ cJ bL cW dX bH aL cQ cC gT bj cF bK aT du bf dz AV.undef bw bE dM dU dE dJ cE ef ep cw ee ec cP cR List.getD_cons_zero List.getD_cons_succ List.getD_nil List.all_cons List.all_nil Bool.and_true Bool.true_and Bool.and_self Bool.not_true Bool.not_false Option.map_some Option.map_none Option.bind_some Option.bind_none List.length_cons List.length_nil List.take_succ_cons List.take_zero List.take_nil List.drop_succ_cons List.drop_zero List.drop_nil List.head?_cons List.map_cons List.map_nil List.getElem?_cons_zero List.getElem?_cons_succ List.cons_append List.nil_append List.append_nil List.length_map List.set_cons_zero List.set_cons_succ Nat.reduceMul eq_self Int.toNat_natCast Int.natCast_nonneg and_self true_and and_true decide_true decide_false Bool.false_eq_true Nat.zero_add Nat.add_zero List.contains_cons List.contains_nil Bool.or_false Bool.false_or beq_self_eq_true Nat.reduceBEq ne_eq not_true_eq_false not_false_eq_true Id.mk.injEq false_and and_false Nat.reduceLT Int.reduceLE Int.reduceLT Int.reduceToNat Int.reduceNeg Int.reduceAdd Nat.le_refl List.length_append beq_true beq_false Bool.not_eq_eq_eq_not or_false false_or dF ai ao aG aZ bt bW aP aY aQ aV cI bD
variable {P:Program}
theorem ET {X:fG} {Q:Ex->Env->ar->Prop} {N:Env->ar->Prop} {c:VC} {env:Env} {σ:ar} (I:Env->ar->Prop) (h2:∀e s,I e s->N e s) (h1:∀N':Env->ar->Prop,(∀e s,I e s->N' e s)->ek X c (du N' Q) env σ):ek X c (du N Q) env σ:=h1 N h2
def vZ (f z:Nat) (a:Bool):y8:=let s:=f*1000000
 ⟨19,2,(.seq (.eB false [q 4 (.dd (.k (.int .i64 0))) s]) (.seq (.seq (.eB false [q 6 (.dd (.t 0)) (s+1000),q 7 (.len (.t 6)) (s+1001),q 8 (.dd (.k (.int .i64 0))) (s+1002)]) (.block 0 (.loop (.seq (.eB false [q 9 (.bin .lss .i64 (.t 8) (.t 7)) (s+2000)]) (.seq (.cond (.t 9) .skip (.exit 0)) (.seq (.block 1 (.seq (.eB false [q 10 (.dd (.t 8)) (s+3000),q 5 (.dd (.t 10)) (s+3001)]) (.seq (.eB false [q 11 (.dd (.t 1)) (s+4000),q 12 (.dd (.t 0)) (s+4001),q 13 (.dd (.t 5)) (s+4002),q 14 (.dG z (.t 12) (.t 13)) (s+4003),q 15 (.load a z (.t 14)) (s+4004),q 16 (.tC (.t 11) [(.t 15)]) (s+4005)]) (.cond (.t 16) (.seq (.eB false [q 17 (.dd (.t 5)) (s+5000),q 4 (.dd (.t 17)) (s+5001)]) .ret) .skip)))) (.eB false [q 18 (.bin .add .i64 (.t 8) (.k (.int .i64 1))) (s+6000),q 8 (.dd (.t 18)) (s+6001)]))))))) (.seq (.eB false [q 4 (.dd (.k (.int .i64 (-1)))) (s+7000)]) .ret))),[(.tmp 4)]⟩
def Dy (f g:Nat):y8:=let s:=f*1000000
 ⟨9,2,(.seq (.eB false [q 4 (.dd (.k (.bool false))) s]) (.seq (.eB false [q 5 (.dd (.t 0)) (s+1000),q 6 (.dd (.t 1)) (s+1001),q 7 (.call g [(.t 5),(.t 6)]) (s+1002),q 8 (.bin .geq .i64 (.t 7) (.k (.int .i64 0))) (s+1003),q 4 (.dd (.t 8)) (s+1004)]) .ret)),[(.tmp 4)]⟩
def kf {α:Type} (p:α->Bool) (xs:List α):Int:=if xs.findIdx p<xs.length then(xs.findIdx p:Int)else -1
theorem IA {α:Type} (p:α->Bool) (xs:List α):decide (0<=kf p xs)=xs.any p:=by
 unfold kf
 by_cases h:xs.findIdx p<xs.length
 ·rw[if_pos h]
  have:xs.any p=true:=List.any_eq_true.2 (List.findIdx_lt_length.1 h)
  rw[this];simp
 ·rw[if_neg h]
  have:xs.any p=false:=by
   rw[Bool.eq_false_iff]
   intro hc
   exact h (List.findIdx_lt_length.2 (List.any_eq_true.1 hc))
  rw[this];rfl
theorem uy (a:AV) (l m:List AV):a::l++m=a::(l++m):=rfl
theorem zd (l:List AV):[]++l=l:=rfl
structure QE {α:Type} (e:α->List AV) (v:α->AV) (z:Nat) (a:Bool):Prop where
 len:∀x,(e x).length=z
 val:∀x,if a=true then v x=.agg (e x)else e x=[v x]
 fz:∀x g,cG g 6 [v x]=some [v x]
theorem tP {α:Type} {e:α->List AV} {v:α->AV} {z fk:Nat} {a:Bool} (hE:QE e v z a) (hc:mO P fk=some (vZ fk z a)) (xs:List α) (hlen:xs.length<=1048576) (f:Nat) (cZ:List AV) (p:α->Bool)
  (hf:∀x∈xs,aq P f (v x::cZ) (.bool (p x))) (IV:∀g,cG g 6 cZ=some cZ):
  aq P fk [.sl (xs.map e),.fn f cZ] (.int .i64 (kf p xs)):=by
 refine aq.body hc rfl fun hl n0=>?_
 try simp only[q]
 clear hl
 (try((repeat(revert hN;revert N;apply Pn.out));refine wk @Nat.zero_add ?_;(repeat(refine Pn.mk ?_;intro N hN))))
 refine aM (fun n env st=>∃k:Nat,n=(xs.length)-k/\k<=(xs.length)/\env 8=.int .i64 (k:Int)/\(∀j:Nat,j<k->∀h:j<xs.length,p xs[j]=false)) (xs.length) ⟨0,by omega,by omega,sl @Nat.zero_add,fun _ h=>absurd h (Nat.not_lt_zero _)⟩ ?_
 rintro n_a env_a st_a ⟨k,rfl,ale,a8,kN⟩ di
 have a0:=di 0 (by kernel_rfl);have a1:=di 1 (by kernel_rfl);have a7:=di 7 (by kernel_rfl)
 simp only[go_sem, ↓reduceIte,Nat.reduceEqDiff,Nat.reduceAdd,Nat.reduceSub,Nat.reduceLeDiff,reduceCtorEq]at a0 a1 a7
 clear di
 by_cases hk:(k:Int)<(xs.length:Int)
 ·have cz:∀{e:Env},(e 8=.int .i64 (IntKind.i64.wrap ((k:Int)+1)))->(∀h:k<xs.length,p xs[k]=false)->∃m0,m0<(xs.length)-k/\∃k:Nat,m0=(xs.length)-k/\k<=(xs.length)/\e 8=.int .i64 (k:Int)/\(∀j:Nat,j<k->∀h:j<xs.length,p xs[j]=false):=fun x1 x2=>⟨_,by omega,k+1,rfl,by omega,(by rw[x1,az (by omega)]),(all_succ kN x2)⟩
  have eX:k<xs.length:=by omega
  have hg:(xs.map e)[k]? =some (e xs[k]):=by simp[eX]
  have BD:=hf _ (List.getElem_mem eX)
  have hz:=hE.len xs[k]
  have hv:=hE.val xs[k]
  have kz:cG (dF st_a.get) 6 (v xs[k]::cZ)=some (v xs[k]::cZ):=by
   have h1:=hE.fz xs[k] (dF st_a.get)
   rw[ai,ao]at h1
   rw[ai,IV]
   revert h1
   cases V.fz (dF st_a.get) 6 (v xs[k])<;>simp
  have fin:∀hN:True,(p xs[k]=true->xs.findIdx p=k):=fun _ hp=>by
   rw[List.findIdx_eq eX];exact⟨hp,fun j hj=>kN j hj (by omega)⟩
  cases hp:p xs[k]
  ·have Ti:=hp
   cases a
   ·rw[if_neg (by simp)]at hv
    have yw:z=1:=by rw[<-hz,hv];rfl
    subst yw
    rw[hv]at hg hz
    rw[hp]at BD
    generalize v xs[k]=c at BD kz hg hz
    (try((repeat(revert hN;revert N;apply Pn.out));refine wk (tw @a8 (tw @a0 (tw @a1 (tw @a7 (tw @hk (tw @hg (tw @hz (tw @uy @zd)))))))) ?_;(repeat(refine Pn.mk ?_;intro N hN))))
    refine .inl ⟨_,aq.x BD kz,?_⟩
    refine hN _ _ ?_
    clear hN N
    (try((repeat(revert hN;revert N;apply Pn.out));refine wk (tw @a8 (tw @a0 (tw @a1 @a7))) ?_;(repeat(refine Pn.mk ?_;intro N hN))))
    exact cz (sd (tw @a8 (tw @a0 (tw @a1 @a7)))) (fun _=>Ti)
   ·rw[if_pos rfl]at hv
    have ht:(e xs[k]).take z=e xs[k]:=by rw[<-hz,List.take_length]
    rw[hv]at BD kz
    rw[hp]at BD
    generalize e xs[k]=c at BD kz hg hz ht
    (try((repeat(revert hN;revert N;apply Pn.out));refine wk (tw @a8 (tw @a0 (tw @a1 (tw @a7 (tw @hk (tw @hg (tw @hz (tw @ht (tw @uy (tw @zd @Nat.le_refl)))))))))) ?_;(repeat(refine Pn.mk ?_;intro N hN))))
    refine .inl ⟨_,aq.x BD kz,?_⟩
    refine hN _ _ ?_
    clear hN N
    (try((repeat(revert hN;revert N;apply Pn.out));refine wk (tw @a8 (tw @a0 (tw @a1 @a7))) ?_;(repeat(refine Pn.mk ?_;intro N hN))))
    exact cz (sd (tw @a8 (tw @a0 (tw @a1 @a7)))) (fun _=>Ti)
  ·have hi:=fin trivial hp
   cases a
   ·rw[if_neg (by simp)]at hv
    have yw:z=1:=by rw[<-hz,hv];rfl
    subst yw
    rw[hv]at hg hz
    rw[hp]at BD
    generalize v xs[k]=c at BD kz hg hz
    (try((repeat(revert hN;revert N;apply Pn.out));refine wk (tw @a8 (tw @a0 (tw @a1 (tw @a7 (tw @hk (tw @hg (tw @hz (tw @uy @zd)))))))) ?_;(repeat(refine Pn.mk ?_;intro N hN))))
    refine .inl ⟨_,aq.x BD kz,?_⟩
    refine hN _ _ ?_
    clear hN N
    (try((repeat(revert hN;revert N;apply Pn.out));refine wk (tw @a8 (tw @a0 (tw @a1 @a7))) ?_;(repeat(refine Pn.mk ?_;intro N hN))))
    exact cD (b:=(k:Int)) (.inl rfl) (sd @Nat.zero_add) (by rw[kf,hi,if_pos eX])
   ·rw[if_pos rfl]at hv
    have ht:(e xs[k]).take z=e xs[k]:=by rw[<-hz,List.take_length]
    rw[hv]at BD kz
    rw[hp]at BD
    generalize e xs[k]=c at BD kz hg hz ht
    (try((repeat(revert hN;revert N;apply Pn.out));refine wk (tw @a8 (tw @a0 (tw @a1 (tw @a7 (tw @hk (tw @hg (tw @hz (tw @ht (tw @uy (tw @zd @Nat.le_refl)))))))))) ?_;(repeat(refine Pn.mk ?_;intro N hN))))
    refine .inl ⟨_,aq.x BD kz,?_⟩
    refine hN _ _ ?_
    clear hN N
    (try((repeat(revert hN;revert N;apply Pn.out));refine wk (tw @a8 (tw @a0 (tw @a1 @a7))) ?_;(repeat(refine Pn.mk ?_;intro N hN))))
    exact cD (b:=(k:Int)) (.inl rfl) (sd @Nat.zero_add) (by rw[kf,hi,if_pos eX])
 ·(try((repeat(revert hN;revert N;apply Pn.out));refine wk (tw @a8 (tw @a0 (tw @a1 (tw @a7 @hk)))) ?_;(repeat(refine Pn.mk ?_;intro N hN))))
  have hi:¬xs.findIdx p<xs.length:=by
   rw[List.findIdx_lt_length]
   rintro⟨x,hx,OY⟩
   obtain⟨j,hj,rfl⟩:=List.getElem_of_mem hx
   rw[kN j (by omega) hj]at OY;cases OY
  exact cD (b:=-1) (.inl rfl) (sd @Nat.zero_add) (by rw[kf,if_neg hi])
theorem oy {α:Type} {e:α->List AV} {v:α->AV} {z fk gk:Nat} {a:Bool} (hE:QE e v z a) (hc:mO P fk=some (Dy fk gk)) (DD:mO P gk=some (vZ gk z a)) (xs:List α) (hlen:xs.length<=1048576) (f:Nat) (cZ:List AV) (p:α->Bool) (DE:cZ.all AV.cell=true) (CG:∀g,cG g 5 cZ=some cZ)
  (hf:∀x∈xs,aq P f (v x::cZ) (.bool (p x))) (IV:∀g,cG g 6 cZ=some cZ):
  aq P fk [.sl (xs.map e),.fn f cZ] (.bool (xs.any p)):=by
 refine aq.body hc rfl fun hl n0=>?_
 try simp only[q]
 clear hl
 have hi:=tP hE DD xs hlen f cZ p hf IV
 (repeat(first|((repeat(revert hN;revert N;apply Pn.out));refine wk (tw @DE @CG) ?_;(repeat(refine Pn.mk ?_;intro N hN)))|((try apply Or.inl);refine⟨_,aq.x (hi) (sd (tw @DE @CG)),?_⟩;refine hN _ _ ?_;clear hN N)))
 exact aX (b:=decide (0<=kf p xs)) (.inl rfl) (sd @Nat.zero_add) (IA p xs)
end Go.Proofs.YtgoelphibofcmaaGreat.V

namespace Go.Proofs.YtgoelphibofcmaaGreat.V
open Go.RowKit
def r5 (P:Program) (mk:Bool):List Oper->Nat->List Nat
 |[],_=>[]
 |o::r,i=>match rf P o.op with
  |some v=>if qP v||mk&&v.lP then i::r5 P mk r (i+1)else r5 P mk r (i+1)
  |none=>r5 P mk r (i+1)
def zg (P:Program) (ops:Array Oper) (site0:Nat) (mk:Bool) (bs:Array Nat) (hidden:List Nat):List Oper->Nat->Option (List bq)
 |[],_=>some []
 |o::r,j=>do
  let v <-rf P o.op
  let g <-Da ops o
  pure ({dst:=o.dst,op:=v,guard:=g,site:=site0+j,hid:=(hidden.filter fun i=> !(bs.getD j 0).testBit i&&(i !=j||mk&&v.lP)).map fun i=>site0+i}::(<-zg P ops site0 mk bs hidden r (j+1)))
def qo (P:Program) (md:List (Nat×Nat)) (vG:Nat):Code->Option VC
 | .skip=>some .skip
 | .region id ops draw=>if draw then(zg P ops ((vG*1000+id)*1000) (wq md id==1) (jz ops) (r5 P (wq md id==1) ops.toList 0) ops.toList 0).map (VC.eB true)else(zg P ops ((vG*1000+id)*1000) false #[] [] ops.toList 0).map (if ops.toList.any fun o=>Nv o.op then VC.N5 else VC.eB false)
 | .seq a b=>do pure (.seq (<-qo P md vG a) (<-qo P md vG b))
 | .cond c x y=>do pure (.cond (<-cO P c) (<-qo P md vG x) (<-qo P md vG y))
 | .block id c=>(qo P md vG c).map (VC.block id)
 | .loop c=>(qo P md vG c).map VC.loop
 | .exit id=>some (.exit id)
 | .ret=>some .ret
 |_=>none
def QK (P:Program) (md:List (Nat×Nat)) (f:Nat):Option y8:=
 match P.funcs[f]? with
 |some fn=>match fn.body with
  |some c=>do
   let b <-qo P md f c
   let r <-fn.results.toList.mapM (Db P)
   pure {ntmps:=fn.ntmps,yL:=fn.params.size+fn.nfree,body:=b,res:=r}
  |none=>none
 |none=>none
theorem cfM {P:Program} (md:List (Nat×Nat)) {f:Nat} {v:y8} (_:QK P md f=some v:=by(conv=>lhs;cbv)<;>exact rfl) (h:vk P f md=some v:=by kernel_rfl):vk P f md=some v:=h
theorem eL {P:Program} {f:Nat} {v:y8} (_:QK P [] f=some v:=by(conv=>lhs;cbv)<;>exact rfl) (h:mO P f=some v:=by kernel_rfl):mO P f=some v:=h
def PA:y8:=⟨77,2,(.seq (.eB false [q 4 (.dd (.k .gP)) 237000000]) (.seq (.eB false [q 7 (.dd (.t 0)) 237001000,q 8 (.dd (.t 1)) 237001001,q 9 (.build [(.int .i64 0),.bV,.bV,.bV] [(0,(1,(.t 7))),(1,(1,(.t 8)))]) 237001002,q 10 (.box (.t 9)) 237001003,q 5 (.dd (.t 10)) 237001004]) (.seq (.eB false [q 11 (.dd (.t 5)) 237002000,q 12 (.dd (.t 0)) 237002001,q 13 (.jU [.bV] (.t 12) (.t 12)) 237002002,q 14 (.Au (.t 11)) 237002003,q 15 (.fH 2 (.t 14)) 237002004,⟨none,(.store 1 (.t 15) (.t 13)),none,237002005,[]⟩]) (.seq (.eB false [q 16 (.dd (.t 5)) 237003000,q 17 (.dd (.t 1)) 237003001,q 18 (.len (.t 17)) 237003002,q 19 (.jU [(.int .i64 0)] (.t 18) (.t 18)) 237003003,q 20 (.Au (.t 16)) 237003004,q 21 (.fH 3 (.t 20)) 237003005,⟨none,(.store 1 (.t 21) (.t 19)),none,237003006,[]⟩]) (.seq (.seq (.eB false [q 6 (.dd (.k (.int .i64 0))) 237004000]) (.block 0 (.loop (.seq (.seq (.eB false [q 22 (.dd (.t 6)) 237005000,q 23 (.dd (.t 1)) 237005001,q 24 (.len (.t 23)) 237005002,q 25 (.bin .lss .i64 (.t 22) (.t 24)) 237005003]) (.cond (.t 25) .skip (.exit 0))) (.seq (.block 1 (.seq (.one ⟨(some 28),(.dd (.t 5)),none,237007000,[237007021,237007022,237007024]⟩ (.one ⟨(some 29),(.Au (.t 28)),none,237007001,[237007021,237007022,237007024]⟩ (.one ⟨(some 30),(.fH 2 (.t 29)),none,237007002,[237007021,237007022,237007024]⟩ (.one ⟨(some 32),(.dd (.t 1)),none,237007004,[237007021,237007022,237007024]⟩ (.one ⟨(some 33),(.dd (.t 6)),none,237007005,[237007021,237007022,237007024]⟩ (.one ⟨(some 37),(.dd (.t 5)),none,237007009,[237007021,237007022,237007024]⟩ (.one ⟨(some 38),(.Au (.t 37)),none,237007010,[237007021,237007022,237007024]⟩ (.one ⟨(some 39),(.fH 2 (.t 38)),none,237007011,[237007021,237007022,237007024]⟩ (.one ⟨(some 40),(.load false 1 (.t 39)),none,237007012,[237007021,237007022,237007024]⟩ (.one ⟨(some 41),(.dd (.t 1)),none,237007013,[237007021,237007022,237007024]⟩ (.one ⟨(some 42),(.dd (.t 6)),none,237007014,[237007021,237007022,237007024]⟩ (.one ⟨(some 43),(.dG 3 (.t 41) (.t 42)),none,237007015,[237007021,237007022,237007024]⟩ (.one ⟨(some 44),(.fH 0 (.t 43)),none,237007016,[237007021,237007022,237007024]⟩ (.one ⟨(some 45),(.load false 1 (.t 44)),none,237007017,[237007021,237007022,237007024]⟩ (.one ⟨(some 46),(.dG 1 (.t 40) (.t 45)),none,237007018,[237007021,237007022,237007024]⟩ (.one ⟨(some 47),(.load false 1 (.t 46)),none,237007019,[237007021,237007022,237007024]⟩ (.one ⟨(some 48),(.dd (.t 6)),none,237007020,[237007021,237007022,237007024]⟩ (.one ⟨(some 49),(.mN 1 1 [(.t 48)]),none,237007021,[237007022,237007024]⟩ (.both (.one ⟨(some 31),(.load false 1 (.t 30)),none,237007003,[237007021,237007022,237007024]⟩ (.both (.one ⟨(some 34),(.dG 3 (.t 32) (.t 33)),none,237007006,[237007021,237007022,237007024]⟩ (.one ⟨(some 35),(.fH 0 (.t 34)),none,237007007,[237007021,237007022,237007024]⟩ (.both (.one ⟨(some 36),(.load false 1 (.t 35)),none,237007008,[237007021,237007022,237007024]⟩ (.one ⟨(some 50),(.append 1 (.t 47) (.t 49)),none,237007022,[237007024]⟩ (.one ⟨(some 51),(.dG 1 (.t 31) (.t 36)),none,237007023,[237007024]⟩ (.one ⟨none,(.store 1 (.t 51) (.t 50)),none,237007024,[]⟩ (.eB false []))))) (.one ⟨(some 50),(.append 1 (.t 47) (.t 49)),none,237007022,[237007024]⟩ (.one ⟨(some 36),(.load false 1 (.t 35)),none,237007008,[237007021,237007022,237007024]⟩ (.one ⟨(some 51),(.dG 1 (.t 31) (.t 36)),none,237007023,[237007024]⟩ (.one ⟨none,(.store 1 (.t 51) (.t 50)),none,237007024,[]⟩ (.eB false [])))))))) (.one ⟨(some 50),(.append 1 (.t 47) (.t 49)),none,237007022,[237007024]⟩ (.one ⟨(some 34),(.dG 3 (.t 32) (.t 33)),none,237007006,[237007021,237007022,237007024]⟩ (.one ⟨(some 35),(.fH 0 (.t 34)),none,237007007,[237007021,237007022,237007024]⟩ (.one ⟨(some 36),(.load false 1 (.t 35)),none,237007008,[237007021,237007022,237007024]⟩ (.one ⟨(some 51),(.dG 1 (.t 31) (.t 36)),none,237007023,[237007024]⟩ (.one ⟨none,(.store 1 (.t 51) (.t 50)),none,237007024,[]⟩ (.eB false []))))))))) (.both (.one ⟨(some 34),(.dG 3 (.t 32) (.t 33)),none,237007006,[237007021,237007022,237007024]⟩ (.one ⟨(some 35),(.fH 0 (.t 34)),none,237007007,[237007021,237007022,237007024]⟩ (.both (.one ⟨(some 31),(.load false 1 (.t 30)),none,237007003,[237007021,237007022,237007024]⟩ (.both (.one ⟨(some 36),(.load false 1 (.t 35)),none,237007008,[237007021,237007022,237007024]⟩ (.one ⟨(some 50),(.append 1 (.t 47) (.t 49)),none,237007022,[237007024]⟩ (.one ⟨(some 51),(.dG 1 (.t 31) (.t 36)),none,237007023,[237007024]⟩ (.one ⟨none,(.store 1 (.t 51) (.t 50)),none,237007024,[]⟩ (.eB false []))))) (.one ⟨(some 50),(.append 1 (.t 47) (.t 49)),none,237007022,[237007024]⟩ (.one ⟨(some 36),(.load false 1 (.t 35)),none,237007008,[237007021,237007022,237007024]⟩ (.one ⟨(some 51),(.dG 1 (.t 31) (.t 36)),none,237007023,[237007024]⟩ (.one ⟨none,(.store 1 (.t 51) (.t 50)),none,237007024,[]⟩ (.eB false []))))))) (.both (.one ⟨(some 36),(.load false 1 (.t 35)),none,237007008,[237007021,237007022,237007024]⟩ (.both (.one ⟨(some 31),(.load false 1 (.t 30)),none,237007003,[237007021,237007022,237007024]⟩ (.one ⟨(some 50),(.append 1 (.t 47) (.t 49)),none,237007022,[237007024]⟩ (.one ⟨(some 51),(.dG 1 (.t 31) (.t 36)),none,237007023,[237007024]⟩ (.one ⟨none,(.store 1 (.t 51) (.t 50)),none,237007024,[]⟩ (.eB false []))))) (.one ⟨(some 50),(.append 1 (.t 47) (.t 49)),none,237007022,[237007024]⟩ (.one ⟨(some 31),(.load false 1 (.t 30)),none,237007003,[237007021,237007022,237007024]⟩ (.one ⟨(some 51),(.dG 1 (.t 31) (.t 36)),none,237007023,[237007024]⟩ (.one ⟨none,(.store 1 (.t 51) (.t 50)),none,237007024,[]⟩ (.eB false []))))))) (.one ⟨(some 50),(.append 1 (.t 47) (.t 49)),none,237007022,[237007024]⟩ (.one ⟨(some 31),(.load false 1 (.t 30)),none,237007003,[237007021,237007022,237007024]⟩ (.one ⟨(some 36),(.load false 1 (.t 35)),none,237007008,[237007021,237007022,237007024]⟩ (.one ⟨(some 51),(.dG 1 (.t 31) (.t 36)),none,237007023,[237007024]⟩ (.one ⟨none,(.store 1 (.t 51) (.t 50)),none,237007024,[]⟩ (.eB false [])))))))))) (.one ⟨(some 50),(.append 1 (.t 47) (.t 49)),none,237007022,[237007024]⟩ (.one ⟨(some 31),(.load false 1 (.t 30)),none,237007003,[237007021,237007022,237007024]⟩ (.one ⟨(some 34),(.dG 3 (.t 32) (.t 33)),none,237007006,[237007021,237007022,237007024]⟩ (.one ⟨(some 35),(.fH 0 (.t 34)),none,237007007,[237007021,237007022,237007024]⟩ (.one ⟨(some 36),(.load false 1 (.t 35)),none,237007008,[237007021,237007022,237007024]⟩ (.one ⟨(some 51),(.dG 1 (.t 31) (.t 36)),none,237007023,[237007024]⟩ (.one ⟨none,(.store 1 (.t 51) (.t 50)),none,237007024,[]⟩ (.eB false [])))))))))))))))))))))))))))) (.one ⟨(some 52),(.dd (.t 5)),none,237008000,[237008021,237008022,237008024]⟩ (.one ⟨(some 53),(.Au (.t 52)),none,237008001,[237008021,237008022,237008024]⟩ (.one ⟨(some 54),(.fH 2 (.t 53)),none,237008002,[237008021,237008022,237008024]⟩ (.one ⟨(some 56),(.dd (.t 1)),none,237008004,[237008021,237008022,237008024]⟩ (.one ⟨(some 57),(.dd (.t 6)),none,237008005,[237008021,237008022,237008024]⟩ (.one ⟨(some 61),(.dd (.t 5)),none,237008009,[237008021,237008022,237008024]⟩ (.one ⟨(some 62),(.Au (.t 61)),none,237008010,[237008021,237008022,237008024]⟩ (.one ⟨(some 63),(.fH 2 (.t 62)),none,237008011,[237008021,237008022,237008024]⟩ (.one ⟨(some 64),(.load false 1 (.t 63)),none,237008012,[237008021,237008022,237008024]⟩ (.one ⟨(some 65),(.dd (.t 1)),none,237008013,[237008021,237008022,237008024]⟩ (.one ⟨(some 66),(.dd (.t 6)),none,237008014,[237008021,237008022,237008024]⟩ (.one ⟨(some 67),(.dG 3 (.t 65) (.t 66)),none,237008015,[237008021,237008022,237008024]⟩ (.one ⟨(some 68),(.fH 1 (.t 67)),none,237008016,[237008021,237008022,237008024]⟩ (.one ⟨(some 69),(.load false 1 (.t 68)),none,237008017,[237008021,237008022,237008024]⟩ (.one ⟨(some 70),(.dG 1 (.t 64) (.t 69)),none,237008018,[237008021,237008022,237008024]⟩ (.one ⟨(some 71),(.load false 1 (.t 70)),none,237008019,[237008021,237008022,237008024]⟩ (.one ⟨(some 72),(.dd (.t 6)),none,237008020,[237008021,237008022,237008024]⟩ (.one ⟨(some 73),(.mN 1 1 [(.t 72)]),none,237008021,[237008022,237008024]⟩ (.both (.one ⟨(some 55),(.load false 1 (.t 54)),none,237008003,[237008021,237008022,237008024]⟩ (.both (.one ⟨(some 58),(.dG 3 (.t 56) (.t 57)),none,237008006,[237008021,237008022,237008024]⟩ (.one ⟨(some 59),(.fH 1 (.t 58)),none,237008007,[237008021,237008022,237008024]⟩ (.both (.one ⟨(some 60),(.load false 1 (.t 59)),none,237008008,[237008021,237008022,237008024]⟩ (.one ⟨(some 74),(.append 1 (.t 71) (.t 73)),none,237008022,[237008024]⟩ (.one ⟨(some 75),(.dG 1 (.t 55) (.t 60)),none,237008023,[237008024]⟩ (.one ⟨none,(.store 1 (.t 75) (.t 74)),none,237008024,[]⟩ (.eB false []))))) (.one ⟨(some 74),(.append 1 (.t 71) (.t 73)),none,237008022,[237008024]⟩ (.one ⟨(some 60),(.load false 1 (.t 59)),none,237008008,[237008021,237008022,237008024]⟩ (.one ⟨(some 75),(.dG 1 (.t 55) (.t 60)),none,237008023,[237008024]⟩ (.one ⟨none,(.store 1 (.t 75) (.t 74)),none,237008024,[]⟩ (.eB false [])))))))) (.one ⟨(some 74),(.append 1 (.t 71) (.t 73)),none,237008022,[237008024]⟩ (.one ⟨(some 58),(.dG 3 (.t 56) (.t 57)),none,237008006,[237008021,237008022,237008024]⟩ (.one ⟨(some 59),(.fH 1 (.t 58)),none,237008007,[237008021,237008022,237008024]⟩ (.one ⟨(some 60),(.load false 1 (.t 59)),none,237008008,[237008021,237008022,237008024]⟩ (.one ⟨(some 75),(.dG 1 (.t 55) (.t 60)),none,237008023,[237008024]⟩ (.one ⟨none,(.store 1 (.t 75) (.t 74)),none,237008024,[]⟩ (.eB false []))))))))) (.both (.one ⟨(some 58),(.dG 3 (.t 56) (.t 57)),none,237008006,[237008021,237008022,237008024]⟩ (.one ⟨(some 59),(.fH 1 (.t 58)),none,237008007,[237008021,237008022,237008024]⟩ (.both (.one ⟨(some 55),(.load false 1 (.t 54)),none,237008003,[237008021,237008022,237008024]⟩ (.both (.one ⟨(some 60),(.load false 1 (.t 59)),none,237008008,[237008021,237008022,237008024]⟩ (.one ⟨(some 74),(.append 1 (.t 71) (.t 73)),none,237008022,[237008024]⟩ (.one ⟨(some 75),(.dG 1 (.t 55) (.t 60)),none,237008023,[237008024]⟩ (.one ⟨none,(.store 1 (.t 75) (.t 74)),none,237008024,[]⟩ (.eB false []))))) (.one ⟨(some 74),(.append 1 (.t 71) (.t 73)),none,237008022,[237008024]⟩ (.one ⟨(some 60),(.load false 1 (.t 59)),none,237008008,[237008021,237008022,237008024]⟩ (.one ⟨(some 75),(.dG 1 (.t 55) (.t 60)),none,237008023,[237008024]⟩ (.one ⟨none,(.store 1 (.t 75) (.t 74)),none,237008024,[]⟩ (.eB false []))))))) (.both (.one ⟨(some 60),(.load false 1 (.t 59)),none,237008008,[237008021,237008022,237008024]⟩ (.both (.one ⟨(some 55),(.load false 1 (.t 54)),none,237008003,[237008021,237008022,237008024]⟩ (.one ⟨(some 74),(.append 1 (.t 71) (.t 73)),none,237008022,[237008024]⟩ (.one ⟨(some 75),(.dG 1 (.t 55) (.t 60)),none,237008023,[237008024]⟩ (.one ⟨none,(.store 1 (.t 75) (.t 74)),none,237008024,[]⟩ (.eB false []))))) (.one ⟨(some 74),(.append 1 (.t 71) (.t 73)),none,237008022,[237008024]⟩ (.one ⟨(some 55),(.load false 1 (.t 54)),none,237008003,[237008021,237008022,237008024]⟩ (.one ⟨(some 75),(.dG 1 (.t 55) (.t 60)),none,237008023,[237008024]⟩ (.one ⟨none,(.store 1 (.t 75) (.t 74)),none,237008024,[]⟩ (.eB false []))))))) (.one ⟨(some 74),(.append 1 (.t 71) (.t 73)),none,237008022,[237008024]⟩ (.one ⟨(some 55),(.load false 1 (.t 54)),none,237008003,[237008021,237008022,237008024]⟩ (.one ⟨(some 60),(.load false 1 (.t 59)),none,237008008,[237008021,237008022,237008024]⟩ (.one ⟨(some 75),(.dG 1 (.t 55) (.t 60)),none,237008023,[237008024]⟩ (.one ⟨none,(.store 1 (.t 75) (.t 74)),none,237008024,[]⟩ (.eB false [])))))))))) (.one ⟨(some 74),(.append 1 (.t 71) (.t 73)),none,237008022,[237008024]⟩ (.one ⟨(some 55),(.load false 1 (.t 54)),none,237008003,[237008021,237008022,237008024]⟩ (.one ⟨(some 58),(.dG 3 (.t 56) (.t 57)),none,237008006,[237008021,237008022,237008024]⟩ (.one ⟨(some 59),(.fH 1 (.t 58)),none,237008007,[237008021,237008022,237008024]⟩ (.one ⟨(some 60),(.load false 1 (.t 59)),none,237008008,[237008021,237008022,237008024]⟩ (.one ⟨(some 75),(.dG 1 (.t 55) (.t 60)),none,237008023,[237008024]⟩ (.one ⟨none,(.store 1 (.t 75) (.t 74)),none,237008024,[]⟩ (.eB false [])))))))))))))))))))))))))))))) (.eB false [q 26 (.dd (.t 6)) 237006000,q 27 (.bin .add .i64 (.t 26) (.k (.int .i64 1))) 237006001,q 6 (.dd (.t 27)) 237006002])))))) (.seq (.eB false [q 76 (.dd (.t 5)) 237009000,q 4 (.dd (.t 76)) 237009001]) .ret)))))),[(.tmp 4)]⟩
theorem N3:vk Tryz.prog 237 [(7,2),(8,2)]=some PA:=by kernel_rfl
def PD:y8:=⟨118,2,(.seq (.eB false [q 4 (.dd (.k .bV)) 240000000]) (.seq (.eB false [q 17 (.dd (.t 0)) 240001000,q 18 (.jU [.gP] (.t 17) (.t 17)) 240001001,q 5 (.dd (.t 18)) 240001002]) (.seq (.seq (.eB false [q 19 (.dd (.t 5)) 240002000,q 20 (.len (.t 19)) 240002001,q 21 (.dd (.k (.int .i64 0))) 240002002]) (.block 0 (.loop (.seq (.eB false [q 22 (.bin .lss .i64 (.t 21) (.t 20)) 240003000]) (.seq (.cond (.t 22) .skip (.exit 0)) (.seq (.block 1 (.seq (.eB false [q 23 (.dd (.t 21)) 240004000,q 6 (.dd (.t 23)) 240004001]) (.eB false [q 24 (.dd (.t 5)) 240005000,q 25 (.dd (.t 6)) 240005001,q 26 (.dd (.t 6)) 240005002,q 27 (.build [.gP,(.int .i64 0)] [(1,(1,(.t 26)))]) 240005003,q 28 (.box (.t 27)) 240005004,q 29 (.dG 1 (.t 24) (.t 25)) 240005005,⟨none,(.store 1 (.t 29) (.t 28)),none,240005006,[]⟩]))) (.eB false [q 30 (.bin .add .i64 (.t 21) (.k (.int .i64 1))) 240006000,q 21 (.dd (.t 30)) 240006001]))))))) (.seq (.seq (.eB false [q 31 (.dd (.t 1)) 240007000,q 32 (.len (.t 31)) 240007001,q 33 (.dd (.k (.int .i64 0))) 240007002]) (.block 2 (.loop (.seq (.eB false [q 34 (.bin .lss .i64 (.t 33) (.t 32)) 240008000]) (.seq (.cond (.t 34) .skip (.exit 2)) (.seq (.block 3 (.seq (.eB false [q 35 (.dG 3 (.t 31) (.t 33)) 240009000,q 36 (.load true 3 (.t 35)) 240009001,q 8 (.new [(.int .i64 0),(.int .i64 0),(.int .i64 0)]) 240009002,⟨none,(.store 3 (.t 8) (.t 36)),none,240009003,[]⟩]) (.seq (.one (q 37 (.dd (.t 5)) 240010000) (.one (q 38 (.fH 0 (.t 8)) 240010001) (.one (q 39 (.load false 1 (.t 38)) 240010002) (.one (q 40 (.dG 1 (.t 37) (.t 39)) 240010003) (.one (q 41 (.load false 1 (.t 40)) 240010004) (.one (q 43 (.dd (.t 5)) 240010006) (.one (q 44 (.fH 1 (.t 8)) 240010007) (.both (.one (q 42 (.call 262 [(.t 41)]) 240010005) (.one (q 45 (.load false 1 (.t 44)) 240010008) (.one (q 46 (.dG 1 (.t 43) (.t 45)) 240010009) (.one (q 47 (.load false 1 (.t 46)) 240010010) (.one (q 48 (.call 262 [(.t 47)]) 240010011) (.one (q 9 (.dd (.t 42)) 240010012) (.one (q 10 (.dd (.t 48)) 240010013) (.eB false [])))))))) (.one (q 45 (.load false 1 (.t 44)) 240010008) (.both (.one (q 42 (.call 262 [(.t 41)]) 240010005) (.one (q 46 (.dG 1 (.t 43) (.t 45)) 240010009) (.one (q 47 (.load false 1 (.t 46)) 240010010) (.one (q 48 (.call 262 [(.t 47)]) 240010011) (.one (q 9 (.dd (.t 42)) 240010012) (.one (q 10 (.dd (.t 48)) 240010013) (.eB false []))))))) (.one (q 46 (.dG 1 (.t 43) (.t 45)) 240010009) (.both (.one (q 42 (.call 262 [(.t 41)]) 240010005) (.one (q 47 (.load false 1 (.t 46)) 240010010) (.one (q 48 (.call 262 [(.t 47)]) 240010011) (.one (q 9 (.dd (.t 42)) 240010012) (.one (q 10 (.dd (.t 48)) 240010013) (.eB false [])))))) (.one (q 47 (.load false 1 (.t 46)) 240010010) (.one (q 42 (.call 262 [(.t 41)]) 240010005) (.one (q 48 (.call 262 [(.t 47)]) 240010011) (.one (q 9 (.dd (.t 42)) 240010012) (.one (q 10 (.dd (.t 48)) 240010013) (.eB false [])))))))))))))))))) (.block 4 (.seq (.eB true [q 50 (.dd (.t 9)) 240011000,q 51 (.Au (.t 50)) 240011001,q 52 (.fH 1 (.t 51)) 240011002,q 53 (.load false 1 (.t 52)) 240011003,q 54 (.dd (.t 10)) 240011004,q 55 (.Au (.t 54)) 240011005,q 56 (.fH 1 (.t 55)) 240011006,q 57 (.load false 1 (.t 56)) 240011007,q 58 (.bin .lss .i64 (.t 53) (.t 57)) 240011008,q 49 (.dd (.t 58)) 240011009]) (.cond (.t 49) (.eB false [q 59 (.dd (.t 10)) 240012000,q 60 (.dd (.t 9)) 240012001,q 61 (.Au (.t 59)) 240012002,q 62 (.fH 0 (.t 61)) 240012003,⟨none,(.store 1 (.t 62) (.t 60)),none,240012004,[]⟩]) (.seq (.eB true [q 64 (.dd (.t 10)) 240013000,q 65 (.Au (.t 64)) 240013001,q 66 (.fH 1 (.t 65)) 240013002,q 67 (.load false 1 (.t 66)) 240013003,q 68 (.dd (.t 9)) 240013004,q 69 (.Au (.t 68)) 240013005,q 70 (.fH 1 (.t 69)) 240013006,q 71 (.load false 1 (.t 70)) 240013007,q 72 (.bin .lss .i64 (.t 67) (.t 71)) 240013008,q 63 (.dd (.t 72)) 240013009]) (.cond (.t 63) (.eB false [q 73 (.dd (.t 9)) 240014000,q 74 (.dd (.t 10)) 240014001,q 75 (.Au (.t 73)) 240014002,q 76 (.fH 0 (.t 75)) 240014003,⟨none,(.store 1 (.t 76) (.t 74)),none,240014004,[]⟩]) .skip)))))))) (.eB false [q 77 (.bin .add .i64 (.t 33) (.k (.int .i64 1))) 240015000,q 33 (.dd (.t 77)) 240015001]))))))) (.seq (.eB false [q 11 (.dd (.k .bV)) 240016000]) (.seq (.eB false [⟨(some 78),(.mq (.new ⟨false,[.tI]⟩) []),none,240017000,[]⟩,q 12 (.dd (.t 78)) 240017001]) (.seq (.seq (.eB false [q 79 (.dd (.t 5)) 240018000,q 80 (.len (.t 79)) 240018001,q 81 (.dd (.k (.int .i64 0))) 240018002]) (.block 5 (.loop (.seq (.eB false [q 82 (.bin .lss .i64 (.t 81) (.t 80)) 240019000]) (.seq (.cond (.t 82) .skip (.exit 5)) (.seq (.block 6 (.seq (.eB false [q 83 (.dd (.t 81)) 240020000,q 84 (.dG 1 (.t 79) (.t 81)) 240020001,q 85 (.load false 1 (.t 84)) 240020002,q 13 (.dd (.t 83)) 240020003,q 14 (.dd (.t 85)) 240020004]) (.seq (.eB false [q 87 (.dd (.t 12)) 240021000,q 88 (.dd (.t 14)) 240021001,q 89 (.call 262 [(.t 88)]) 240021002,q 90 (.Au (.t 89)) 240021003,q 91 (.fH 1 (.t 90)) 240021004,q 92 (.load false 1 (.t 91)) 240021005,⟨(some 93),(.mq (.look ⟨false,[.tI]⟩ true (.int .i64 0)) [(.t 87),(.t 92)]),none,240021006,[]⟩,q 86 (.dd (.t 93)) 240021007,q 94 (.extract 0 (.t 86)) 240021008,q 95 (.extract 1 (.t 86)) 240021009,q 15 (.dd (.t 94)) 240021010,q 16 (.dd (.t 95)) 240021011]) (.seq (.seq (.eB false [q 96 (.dd (.t 16)) 240022000,q 97 (.not (.t 96)) 240022001]) (.cond (.t 97) (.seq (.eB false [q 98 (.dd (.t 11)) 240023000,q 99 (.len (.t 98)) 240023001,q 15 (.dd (.t 99)) 240023002]) (.seq (.eB false [q 100 (.dd (.t 12)) 240024000,q 101 (.dd (.t 13)) 240024001,q 102 (.dd (.t 15)) 240024002,⟨none,(.mw (.set ⟨false,[.tI]⟩) [(.t 100),(.t 101),(.t 102)]),none,240024003,[]⟩]) (.eB false [q 103 (.dd (.t 11)) 240025000,q 104 (.mN 1 1 [(.k .bV)]) 240025001,q 105 (.append 1 (.t 103) (.t 104)) 240025002,q 11 (.dd (.t 105)) 240025003]))) .skip)) (.eB false [q 106 (.dd (.t 11)) 240026000,q 107 (.dd (.t 15)) 240026001,q 108 (.dd (.t 11)) 240026002,q 109 (.dd (.t 15)) 240026003,q 110 (.dG 1 (.t 108) (.t 109)) 240026004,q 111 (.load false 1 (.t 110)) 240026005,q 112 (.dd (.t 13)) 240026006,q 113 (.mN 1 1 [(.t 112)]) 240026007,q 114 (.append 1 (.t 111) (.t 113)) 240026008,q 115 (.dG 1 (.t 106) (.t 107)) 240026009,⟨none,(.store 1 (.t 115) (.t 114)),none,240026010,[]⟩]))))) (.eB false [q 116 (.bin .add .i64 (.t 81) (.k (.int .i64 1))) 240027000,q 81 (.dd (.t 116)) 240027001]))))))) (.seq (.eB false [q 117 (.dd (.t 11)) 240028000,q 4 (.dd (.t 117)) 240028001]) .ret)))))))),[(.tmp 4)]⟩
theorem N4:vk Tryz.prog 240 [(10,2)]=some PD:=by kernel_rfl
def Sk:y8:=⟨45,2,(.seq (.eB false [q 2 (.box (.t 0)) 28000000,q 3 (.box (.t 1)) 28000001,q 4 (.new [(.int .i64 0),(.int .i64 0)]) 28000002,q 5 (.dd (.k .bV)) 28000003,q 6 (.dd (.k (.int .i64 0))) 28000004]) (.seq (.seq (.eB false [q 12 (.load true 4 (.t 2)) 28001000,q 13 (.load true 1 (.t 3)) 28001001,q 14 (.call 63 [(.t 12),(.t 13)]) 28001002,q 7 (.dd (.t 14)) 28001003]) (.seq (.eB false [q 15 (.dd (.t 7)) 28002000,q 16 (.M7 true .tI (.t 15) (.k (.int .i64 0))) 28002001]) (.cond (.t 16) (.seq (.eB false [q 17 (.build [(.int .i64 0),(.int .i64 0)] []) 28003000,q 18 (.dd (.t 7)) 28003001,⟨none,(.store 2 (.t 4) (.t 17)),none,28003002,[]⟩,q 5 (.dd (.k .bV)) 28003003,q 6 (.dd (.t 18)) 28003004]) .ret) .skip))) (.seq (.eB false [q 19 (.load true 4 (.t 2)) 28004000,q 20 (.load true 1 (.t 3)) 28004001,q 21 (.call 73 [(.t 19),(.t 20)]) 28004002,q 8 (.dd (.t 21)) 28004003]) (.seq (.seq (.eB false [q 22 (.dd (.t 8)) 28005000,q 23 (.call 74 [(.t 22)]) 28005001,q 24 (.len (.t 23)) 28005002,q 25 (.dd (.k (.int .i64 0))) 28005003]) (.block 0 (.loop (.seq (.eB false [q 26 (.bin .lss .i64 (.t 25) (.t 24)) 28006000]) (.seq (.cond (.t 26) .skip (.exit 0)) (.seq (.block 1 (.seq (.eB false [q 27 (.dG 3 (.t 23) (.t 25)) 28007000,q 28 (.load true 3 (.t 27)) 28007001,q 10 (.new [(.int .i64 0),(.int .i64 0),(.int .i64 0)]) 28007002,⟨none,(.store 3 (.t 10) (.t 28)),none,28007003,[]⟩]) (.seq (.eB true [q 29 (.dd (.t 8)) 28008000,q 30 (.Au (.t 29)) 28008001,q 31 (.fH 5 (.t 30)) 28008002,q 32 (.load false 1 (.t 31)) 28008003,q 33 (.fH 0 (.t 10)) 28008004,q 34 (.load true 2 (.t 33)) 28008005,⟨(some 35),(.mq (.look ⟨true,[.tI,.tI]⟩ false .bV) [(.t 32),(.t 34)]),none,28008006,[]⟩,q 11 (.dd (.t 35)) 28008007]) (.seq (.eB false [q 36 (.dd (.t 11)) 28009000,q 37 (.len (.t 36)) 28009001,q 38 (.bin .gtr .i64 (.t 37) (.k (.int .i64 1))) 28009002]) (.cond (.t 38) (.seq (.eB true [⟨(some 39),(.fH 0 (.t 10)),none,28010000,[28010003,28010004]⟩,⟨(some 40),(.load true 2 (.t 39)),none,28010001,[28010003,28010004]⟩,⟨(some 41),(.dd (.t 11)),none,28010002,[28010003,28010004]⟩,⟨(some 42),(.call 75 [(.t 41)]),none,28010003,[28010003,28010004]⟩,⟨none,(.store 2 (.t 4) (.t 40)),none,28010004,[]⟩,q 5 (.dd (.t 42)) 28010005,q 6 (.dd (.k (.int .i64 0))) 28010006]) .ret) .skip))))) (.eB false [q 43 (.bin .add .i64 (.t 25) (.k (.int .i64 1))) 28011000,q 25 (.dd (.t 43)) 28011001]))))))) (.seq (.eB false [q 44 (.build [(.int .i64 0),(.int .i64 0)] []) 28012000,⟨none,(.store 2 (.t 4) (.t 44)),none,28012001,[]⟩,q 5 (.dd (.k .bV)) 28012002,q 6 (.dd (.k (.int .i64 3))) 28012003]) .ret))))),[(.cell true 2 4),(.tmp 5),(.tmp 6)]⟩
theorem QP:vk Tryz.prog 28 [(10,1)]=some Sk:=by kernel_rfl
end Go.Proofs.YtgoelphibofcmaaGreat.V

namespace Go.Proofs.YtgoelphibofcmaaGreat.V
open Go.RowKit
attribute [local irreducible] ek wpOps gq Call
attribute [local go_sem] aH fF eK ga fZ da upd ck K.av cH AV.cells AV.cell rowOf rowsOf part ld rowAt bF cj dy dW gU bG cX eh fY eU dn ea cV cU dH dI bJ aW cK bI cN cL dY eb dZ cJ bL cW dX bH aL cQ cC gT bj cF bK aT du bf dz AV.undef bw bE dM dU dE dJ cE ef ep cw ee ec cP cR List.getD_cons_zero List.getD_cons_succ List.getD_nil List.all_cons List.all_nil Bool.and_true Bool.true_and Bool.and_self Bool.not_true Bool.not_false Option.map_some Option.map_none Option.bind_some Option.bind_none List.length_cons List.length_nil List.take_succ_cons List.take_zero List.take_nil List.drop_succ_cons List.drop_zero List.drop_nil List.head?_cons List.map_cons List.map_nil List.getElem?_cons_zero List.getElem?_cons_succ List.cons_append List.nil_append List.append_nil List.length_map List.set_cons_zero List.set_cons_succ Nat.reduceMul eq_self Int.toNat_natCast Int.natCast_nonneg and_self true_and and_true decide_true decide_false Bool.false_eq_true Nat.zero_add Nat.add_zero List.contains_cons List.contains_nil Bool.or_false Bool.false_or beq_self_eq_true Nat.reduceBEq ne_eq not_true_eq_false not_false_eq_true Id.mk.injEq false_and and_false Nat.reduceLT Int.reduceLE Int.reduceLT Int.reduceToNat Int.reduceNeg Int.reduceAdd Nat.le_refl List.length_append beq_true beq_false Bool.not_eq_eq_eq_not or_false false_or dF ai ao aG aZ bt bW aP aY aQ aV cI bD
theorem Bl (x:fy) (g:Rows):cG g 6 [.agg (bP x)]=some [.agg (bP x)]:=by simp[bP,ai,ao,aY,bt,aG]
theorem Bn (x:eR) (g:Rows):cG g 6 [.agg (bp x)]=some [.agg (bp x)]:=by simp[bp,ai,ao,aY,bt,bW]
theorem Ds (x:ae) (g:Rows):cG g 6 [.agg (aj x)]=some [.agg (aj x)]:=by simp[aj,ai,ao,aY,aG]
theorem iA {n:Nat} {l:Int} (h:(n:Int)<=l):xN n l=l-n:=if_pos h
theorem iK {n:Nat} {l:Int} (h:¬(n:Int)<=l):xN n l= -1:=if_neg h
def ko (t:eR):Nat:=t.aE.size+t.br.length
def uw (s:au):Nat:=(s.ax.length+(s.ax.map fun g=>g.aE.size).sum)+(s.ah.length+(s.ah.map ko).sum)
def xh (s:aD):Nat:=uw s.aB+s.cu.ah.length
def gK (s:au):Prop:=(∀g∈s.ax,g.aE.size<=9223372036854775807)/\∀t∈s.ah,t.aE.size<=9223372036854775807
theorem J5 (g:fy) (l:Int) (h0:0<=l) (h1:l<=1048576) (hs:g.aE.size<=9223372036854775807):aq Tryz.prog 154 [.agg (bP g),.int .i64 l] (.int .i64 (xN g.aE.size l)):=by
 refine aq.body eL rfl fun hl n0=>?_
 clear hl
 have hw:IntKind.i64.wrap (l-(g.aE.size:Int))=l-g.aE.size:=bx (by omega)
 by_cases hf:(g.aE.size:Int)<=l
 ·have kr:¬l-(g.aE.size:Int)<0:=by omega
  (try((repeat(revert hN;revert N;apply Pn.out));refine wk (tw @bP.eq_1 (tw @hw @kr)) ?_;(repeat(refine Pn.mk ?_;intro N hN))))
  exact cD (b:=l-(g.aE.size:Int)) (.inl rfl) (sd @Nat.zero_add) (iA hf).symm
 ·have kr:l-(g.aE.size:Int)<0:=by omega
  (try((repeat(revert hN;revert N;apply Pn.out));refine wk (tw @bP.eq_1 (tw @hw @kr)) ?_;(repeat(refine Pn.mk ?_;intro N hN))))
  exact cD (b:=-1) (.inl rfl) (sd @Nat.zero_add) (iK hf).symm
theorem J6 (xs:List Int) (l:Int) (h0:0<=l) (h1:l<=1048576):aq Tryz.prog 188 [.sl (xs.map aw),.int .i64 l] (.int .i64 (xN xs.length l)):=by
 have h:=J8 (show mO Tryz.prog 188=some (J7 188) by kernel_rfl) (xs.map aw) l h0 h1
 rwa [List.length_map]at h
theorem Kb (t:eR) (l:Int) (h0:0<=l) (h1:l<=1048576) (hs:t.aE.size<=9223372036854775807):aq Tryz.prog 155 [.agg (bp t),.int .i64 l] (.int .i64 (xN (ko t) l)):=by
 refine aq.body eL rfl fun hl n0=>?_
 clear hl
 have hw:IntKind.i64.wrap (l-(t.aE.size:Int))=l-t.aE.size:=bx (by omega)
 by_cases hf:(t.aE.size:Int)<=l
 ·have kr:¬l-(t.aE.size:Int)<0:=by omega
  have hc:=J6 t.br (l-t.aE.size) (by omega) (by omega)
  by_cases hg:(t.br.length:Int)<=l-t.aE.size
  ·rw[iA hg]at hc
   have Ft:¬l-(t.aE.size:Int)-(t.br.length:Int)<0:=by omega
   (repeat(first|((repeat(revert hN;revert N;apply Pn.out));refine wk (tw @bp.eq_1 (tw @hw (tw @kr @Ft))) ?_;(repeat(refine Pn.mk ?_;intro N hN)))|((try apply Or.inl);refine⟨_,aq.x (hc) (sd (tw @bp.eq_1 (tw @hw (tw @kr @Ft)))),?_⟩;refine hN _ _ ?_;clear hN N)))
   exact cD (b:=l-(t.aE.size:Int)-(t.br.length:Int)) (.inl rfl) (sd @Nat.zero_add) (by rw[iA (by unfold ko;omega)];unfold ko;omega)
  ·rw[iK hg]at hc
   (repeat(first|((repeat(revert hN;revert N;apply Pn.out));refine wk (tw @bp.eq_1 (tw @hw @kr)) ?_;(repeat(refine Pn.mk ?_;intro N hN)))|((try apply Or.inl);refine⟨_,aq.x (hc) (sd (tw @bp.eq_1 (tw @hw @kr))),?_⟩;refine hN _ _ ?_;clear hN N)))
   exact cD (b:=-1) (.inl rfl) (sd @Nat.zero_add) (iK (by unfold ko;omega)).symm
 ·have kr:l-(t.aE.size:Int)<0:=by omega
  (try((repeat(revert hN;revert N;apply Pn.out));refine wk (tw @bp.eq_1 (tw @hw @kr)) ?_;(repeat(refine Pn.mk ?_;intro N hN))))
  exact cD (b:=-1) (.inl rfl) (sd @Nat.zero_add) (iK (by unfold ko;omega)).symm
theorem Hq (xs:List fy) (l:Int) (h0:0<=l) (h1:l<=1048576) (hs:∀g∈xs,g.aE.size<=9223372036854775807):aq Tryz.prog 94 [.sl (xs.map bP),.int .i64 l] (.int .i64 (xN (xs.length+(xs.map fun g=>g.aE.size).sum) l)):=
 Ka (fun g:fy=>g.aE.size) (show mO Tryz.prog 94=some (J9 94 154 2) by kernel_rfl) (fun _=>rfl) Bl xs l h0 h1 fun x hx l a b=>J5 x l a b (hs x hx)
theorem Hr (xs:List eR) (l:Int) (h0:0<=l) (h1:l<=1048576) (hs:∀t∈xs,t.aE.size<=9223372036854775807):aq Tryz.prog 95 [.sl (xs.map bp),.int .i64 l] (.int .i64 (xN (xs.length+(xs.map ko).sum) l)):=
 Ka ko (show mO Tryz.prog 95=some (J9 95 155 2) by kernel_rfl) (fun _=>rfl) Bn xs l h0 h1 fun x hx l a b=>Kb x l a b (hs x hx)
theorem EH (xs:List ae) (l:Int) (h0:0<=l) (h1:l<=1048576):aq Tryz.prog 57 [.sl (xs.map aj),.int .i64 l] (.int .i64 (xN xs.length l)):=by
 have h:=J8 (show mO Tryz.prog 57=some (J7 57) by kernel_rfl) (xs.map aj) l h0 h1
 rwa [List.length_map]at h
theorem Cs (s:au) (l:Int) (h0:0<=l) (h1:l<=1048576) (hs:gK s):aq Tryz.prog 56 [.agg (aa s),.int .i64 l] (.int .i64 (xN (uw s) l)):=by
 refine aq.body eL rfl fun hl n0=>?_
 clear hl
 have ha:=Hq s.ax l h0 h1 hs.1
 have he:uw s=(s.ax.length+(s.ax.map fun g=>g.aE.size).sum)+(s.ah.length+(s.ah.map ko).sum):=rfl
 by_cases hf:((s.ax.length+(s.ax.map fun g=>g.aE.size).sum:Nat):Int)<=l
 ·rw[iA hf]at ha
  obtain⟨A,hA⟩:∃A:Int,A=l-((s.ax.length+(s.ax.map fun g=>g.aE.size).sum:Nat):Int):=⟨_,rfl⟩
  rw[<-hA]at ha
  have kr:¬A<0:=by omega
  have hb:=Hr s.ah A (by omega) (by omega) hs.2
  by_cases hg:((s.ah.length+(s.ah.map ko).sum:Nat):Int)<=A
  ·rw[iA hg]at hb
   obtain⟨B,hB⟩:∃B:Int,B=A-((s.ah.length+(s.ah.map ko).sum:Nat):Int):=⟨_,rfl⟩
   rw[<-hB]at hb
   have Ft:¬B<0:=by omega
   (repeat(first|((repeat(revert hN;revert N;apply Pn.out));refine wk (tw @aa.eq_1 (tw @kr @Ft)) ?_;(repeat(refine Pn.mk ?_;intro N hN)))|((try apply Or.inl);refine⟨_,aq.x (ha) (sd (tw @aa.eq_1 (tw @kr @Ft))),?_⟩;refine hN _ _ ?_;clear hN N)|((try apply Or.inl);refine⟨_,aq.x (hb) (sd (tw @aa.eq_1 (tw @kr @Ft))),?_⟩;refine hN _ _ ?_;clear hN N)))
   exact cD (b:=B) (.inl rfl) (sd @Nat.zero_add) (by rw[iA (by omega)];omega)
  ·rw[iK hg]at hb
   (repeat(first|((repeat(revert hN;revert N;apply Pn.out));refine wk (tw @aa.eq_1 @kr) ?_;(repeat(refine Pn.mk ?_;intro N hN)))|((try apply Or.inl);refine⟨_,aq.x (ha) (sd (tw @aa.eq_1 @kr)),?_⟩;refine hN _ _ ?_;clear hN N)|((try apply Or.inl);refine⟨_,aq.x (hb) (sd (tw @aa.eq_1 @kr)),?_⟩;refine hN _ _ ?_;clear hN N)))
   exact cD (b:=-1) (.inl rfl) (sd @Nat.zero_add) (iK (by omega)).symm
 ·rw[iK hf]at ha
  (repeat(first|((repeat(revert hN;revert N;apply Pn.out));refine wk @aa.eq_1 ?_;(repeat(refine Pn.mk ?_;intro N hN)))|((try apply Or.inl);refine⟨_,aq.x (ha) (sd @aa.eq_1),?_⟩;refine hN _ _ ?_;clear hN N)))
  exact cD (b:=-1) (.inl rfl) (sd @Nat.zero_add) (iK (by omega)).symm
theorem so (a:dP) (l:Int) (h0:0<=l) (h1:l<=1048576):aq Tryz.prog 15 [.agg (aO a),.int .i64 l] (.int .i64 (xN a.ah.length l)):=by
 refine aq.body eL rfl fun hl n0=>?_
 clear hl
 have ha:=EH a.ah l h0 h1
 by_cases hf:(a.ah.length:Int)<=l
 ·rw[iA hf]at ha
  have kr:¬l-(a.ah.length:Int)<0:=by omega
  (repeat(first|((repeat(revert hN;revert N;apply Pn.out));refine wk (tw @aO.eq_1 @kr) ?_;(repeat(refine Pn.mk ?_;intro N hN)))|((try apply Or.inl);refine⟨_,aq.x (ha) (sd (tw @aO.eq_1 @kr)),?_⟩;refine hN _ _ ?_;clear hN N)))
  exact cD (b:=l-(a.ah.length:Int)) (.inl rfl) (sd @Nat.zero_add) (iA hf).symm
 ·rw[iK hf]at ha
  (repeat(first|((repeat(revert hN;revert N;apply Pn.out));refine wk @aO.eq_1 ?_;(repeat(refine Pn.mk ?_;intro N hN)))|((try apply Or.inl);refine⟨_,aq.x (ha) (sd @aO.eq_1),?_⟩;refine hN _ _ ?_;clear hN N)))
  exact cD (b:=-1) (.inl rfl) (sd @Nat.zero_add) (iK hf).symm
theorem EI (s:aD) (l:Int) (h0:0<=l) (h1:l<=1048576) (hs:gK s.aB):aq Tryz.prog 14 [.agg (aC s),.int .i64 l] (.int .i64 (xN (xh s) l)):=by
 refine aq.body eL rfl fun hl n0=>?_
 clear hl
 have ha:=Cs s.aB l h0 h1 hs
 rw[aa]at ha
 have he:xh s=uw s.aB+s.cu.ah.length:=rfl
 by_cases hf:(uw s.aB:Int)<=l
 ·rw[iA hf]at ha
  have kr:¬l-(uw s.aB:Int)<0:=by omega
  have hb:=so s.cu (l-uw s.aB) (by omega) (by omega)
  rw[aO]at hb
  by_cases hg:(s.cu.ah.length:Int)<=l-uw s.aB
  ·rw[iA hg]at hb
   have Ft:¬l-(uw s.aB:Int)-(s.cu.ah.length:Int)<0:=by omega
   (repeat(first|((repeat(revert hN;revert N;apply Pn.out));refine wk (tw @aC.eq_1 (tw @kr @Ft)) ?_;(repeat(refine Pn.mk ?_;intro N hN)))|((try apply Or.inl);refine⟨_,aq.x (ha) (sd (tw @aC.eq_1 (tw @kr @Ft))),?_⟩;refine hN _ _ ?_;clear hN N)|((try apply Or.inl);refine⟨_,aq.x (hb) (sd (tw @aC.eq_1 (tw @kr @Ft))),?_⟩;refine hN _ _ ?_;clear hN N)))
   exact cD (b:=l-(uw s.aB:Int)-(s.cu.ah.length:Int)) (.inl rfl) (sd @Nat.zero_add) (by rw[iA (by omega)];omega)
  ·rw[iK hg]at hb
   (repeat(first|((repeat(revert hN;revert N;apply Pn.out));refine wk (tw @aC.eq_1 @kr) ?_;(repeat(refine Pn.mk ?_;intro N hN)))|((try apply Or.inl);refine⟨_,aq.x (ha) (sd (tw @aC.eq_1 @kr)),?_⟩;refine hN _ _ ?_;clear hN N)|((try apply Or.inl);refine⟨_,aq.x (hb) (sd (tw @aC.eq_1 @kr)),?_⟩;refine hN _ _ ?_;clear hN N)))
   exact cD (b:=-1) (.inl rfl) (sd @Nat.zero_add) (iK (by omega)).symm
 ·rw[iK hf]at ha
  (repeat(first|((repeat(revert hN;revert N;apply Pn.out));refine wk @aC.eq_1 ?_;(repeat(refine Pn.mk ?_;intro N hN)))|((try apply Or.inl);refine⟨_,aq.x (ha) (sd @aC.eq_1),?_⟩;refine hN _ _ ?_;clear hN N)))
  exact cD (b:=-1) (.inl rfl) (sd @Nat.zero_add) (iK (by omega)).symm
theorem Mt (x:fy) (g:Rows):cG g 5 (bP x)=some (bP x):=by simp[bP,ai,ao,bt,aG]
theorem Mu (x:eR) (g:Rows):cG g 5 (bp x)=some (bp x):=by simp[bp,ai,ao,bt,bW]
theorem Hc (x:ae) (g:Rows):cG g 5 (aj x)=some (aj x):=by simp[aj,ai,ao,aG]
theorem yX (p:ad):kj Tryz.prog 82 [.agg (ab p)] (.agg (ab p)):=by
 refine kj.body eL rfl fun hl σ=>?_
 clear hl
 (try((repeat(revert hN;revert N;apply Pn.out));refine wk @ab.eq_1 ?_;(repeat(refine Pn.mk ?_;intro N hN))))
 exact xL (.inl rfl) (vs:=[.agg (ab p)]) (by simp only[go_sem, ↓reduceIte,Nat.reduceEqDiff,Nat.reduceAdd,Nat.reduceSub,Nat.reduceLeDiff,reduceCtorEq,fq,iu,ab]) (by simp[fe,ab,aY,ai,ao,aG])
theorem EK (p:ae):kj Tryz.prog 104 [.agg (aj p)] (.agg (aj p)):=by
 refine kj.body eL rfl fun hl σ=>?_
 clear hl
 have h:=yX p.bc
 rw[ab]at h
 (repeat(first|((repeat(revert hN;revert N;apply Pn.out));refine wk @aj.eq_1 ?_;(repeat(refine Pn.mk ?_;intro N hN)))|((try apply Or.inl);refine⟨_,kj.x (h) _,?_⟩;refine hN _ _ ?_;clear hN N)))
 exact xL (.inl rfl) (vs:=[.agg (aj p)]) (by simp only[go_sem, ↓reduceIte,Nat.reduceEqDiff,Nat.reduceAdd,Nat.reduceSub,Nat.reduceLeDiff,reduceCtorEq,fq,iu,aj]) (by simp[fe,aj,aY,ai,ao,aG])
theorem Kg (p:fy):kj Tryz.prog 161 [.agg (bP p)] (.agg (bP p)):=by
 refine kj.body eL rfl fun hl σ=>?_
 clear hl
 (try((repeat(revert hN;revert N;apply Pn.out));refine wk @bP.eq_1 ?_;(repeat(refine Pn.mk ?_;intro N hN))))
 exact xL (.inl rfl) (vs:=[.agg (bP p)]) (by simp only[go_sem, ↓reduceIte,Nat.reduceEqDiff,Nat.reduceAdd,Nat.reduceSub,Nat.reduceLeDiff,reduceCtorEq,fq,iu,bP]) (by simp[fe,bP,aY,ai,ao,aG,bt])
theorem Ki (xs:List Int) (h:xs.length<=1048576):kj Tryz.prog 195 [.sl (xs.map aw)] (.sl (xs.map aw)):=
 Sg (show mO Tryz.prog 195=some (Kj 195 (.int .i64 0)) by kernel_rfl) xs h
def sN (t:eR):Prop:=t.br.length<=1048576
theorem Kl (p:eR) (hs:sN p):kj Tryz.prog 162 [.agg (bp p)] (.agg (bp p)):=by
 refine kj.body eL rfl fun hl σ=>?_
 clear hl
 have h:=Ki p.br hs
 (repeat(first|((repeat(revert hN;revert N;apply Pn.out));refine wk @bp.eq_1 ?_;(repeat(refine Pn.mk ?_;intro N hN)))|((try apply Or.inl);refine⟨_,kj.x (h) _,?_⟩;refine hN _ _ ?_;clear hN N)))
 exact xL (.inl rfl) (vs:=[.agg (bp p)]) (by simp only[go_sem, ↓reduceIte,Nat.reduceEqDiff,Nat.reduceAdd,Nat.reduceSub,Nat.reduceLeDiff,reduceCtorEq,fq,iu,bp]) (by simp[fe,bp,aY,ai,ao,bW,bt])
theorem Bb (xs ys:List Int):aq Tryz.prog 30 [.sl (xs.map aw),.sl (ys.map aw)] (.bool (decide (xs=ys))):=
 QS (show mO Tryz.prog 30=some (M8 30 .tI) by kernel_rfl) xs ys
theorem Iy (a b:eR):aq Tryz.prog 170 [.agg (bp a),.agg (bp b)] (.bool (decide (a=b))):=by
 refine aq.body eL rfl fun hl n0=>?_
 clear hl
 have h:=Bb a.br b.br
 by_cases h1:a.aE=b.aE
 ·have e1:decide (a.aE=b.aE)=true:=decide_eq_true h1
  by_cases h2:a.br=b.br
  ·rw[decide_eq_true h2]at h
   (repeat(first|((repeat(revert hN;revert N;apply Pn.out));refine wk (tw @bp.eq_1 @e1) ?_;(repeat(refine Pn.mk ?_;intro N hN)))|((try apply Or.inl);refine⟨_,aq.x (h) (sd (tw @bp.eq_1 @e1)),?_⟩;refine hN _ _ ?_;clear hN N)))
   exact aX (b:=true) (.inl rfl) (sd @Nat.zero_add) (decide_eq_true (by cases a;cases b;simp_all)).symm
  ·rw[decide_eq_false h2]at h
   (repeat(first|((repeat(revert hN;revert N;apply Pn.out));refine wk (tw @bp.eq_1 @e1) ?_;(repeat(refine Pn.mk ?_;intro N hN)))|((try apply Or.inl);refine⟨_,aq.x (h) (sd (tw @bp.eq_1 @e1)),?_⟩;refine hN _ _ ?_;clear hN N)))
   exact aX (b:=false) (.inl rfl) (sd @Nat.zero_add) (decide_eq_false (by rintro rfl;exact h2 rfl)).symm
 ·have e1:decide (a.aE=b.aE)=false:=decide_eq_false h1
  (try((repeat(revert hN;revert N;apply Pn.out));refine wk (tw @bp.eq_1 @e1) ?_;(repeat(refine Pn.mk ?_;intro N hN))))
  exact aX (b:=false) (.inl rfl) (sd @Nat.zero_add) (decide_eq_false (by rintro rfl;exact h1 rfl)).symm
theorem Hw (xs:List fy) (h:xs.length<=1048576):kj Tryz.prog 102 [.sl (xs.map bP)] (.sl (xs.map bP)):=
 EL (show mO Tryz.prog 102=some (ua 102 161 2 [.str [],.int .i64 0]) by kernel_rfl) rfl (fun _=>rfl) (fun _=>rfl) Mt xs h fun x _=>Kg x
theorem Hy (xs:List eR) (h:xs.length<=1048576) (hs:∀t∈xs,sN t):kj Tryz.prog 103 [.sl (xs.map bp)] (.sl (xs.map bp)):=
 EL (show mO Tryz.prog 103=some (ua 103 162 2 [.str [],.bV]) by kernel_rfl) rfl (fun _=>rfl) (fun _=>rfl) Mu xs h fun x hx=>Kl x (hs x hx)
theorem Cw (xs:List ae) (h:xs.length<=1048576):kj Tryz.prog 62 [.sl (xs.map aj)] (.sl (xs.map aj)):=
 EL (show mO Tryz.prog 62=some (ua 62 104 3 [.int .i64 0,.int .i64 0,.int .i64 0]) by kernel_rfl) rfl (fun _=>rfl) (fun _=>rfl) Hc xs h fun x _=>EK x
structure H3 (s:au):Prop where
 g:s.ax.length<=1048576
 t:s.ah.length<=1048576
 s:∀t∈s.ah,sN t
structure rz (y:aD):Prop where
 s:H3 y.aB
 a:y.cu.ah.length<=1048576
theorem Cy (p:au) (hs:H3 p):kj Tryz.prog 61 [.agg (aa p)] (.agg (aa p)):=by
 refine kj.body eL rfl fun hl σ=>?_
 clear hl
 have h1:=Hw p.ax hs.g
 have h2:=Hy p.ah hs.t hs.s
 (repeat(first|((repeat(revert hN;revert N;apply Pn.out));refine wk @aa.eq_1 ?_;(repeat(refine Pn.mk ?_;intro N hN)))|((try apply Or.inl);refine⟨_,kj.x (h1) _,?_⟩;refine hN _ _ ?_;clear hN N)|((try apply Or.inl);refine⟨_,kj.x (h2) _,?_⟩;refine hN _ _ ?_;clear hN N)))
 exact xL (.inl rfl) (vs:=[.agg (aa p)]) (by simp only[go_sem, ↓reduceIte,Nat.reduceEqDiff,Nat.reduceAdd,Nat.reduceSub,Nat.reduceLeDiff,reduceCtorEq,fq,iu,aa]) (by simp[fe,aa,aY,ai,ao,bW])
theorem su (p:dP) (hs:p.ah.length<=1048576):kj Tryz.prog 18 [.agg (aO p)] (.agg (aO p)):=by
 refine kj.body eL rfl fun hl σ=>?_
 clear hl
 have h1:=Cw p.ah hs
 (repeat(first|((repeat(revert hN;revert N;apply Pn.out));refine wk @aO.eq_1 ?_;(repeat(refine Pn.mk ?_;intro N hN)))|((try apply Or.inl);refine⟨_,kj.x (h1) _,?_⟩;refine hN _ _ ?_;clear hN N)))
 exact xL (.inl rfl) (vs:=[.agg (aO p)]) (by simp only[go_sem, ↓reduceIte,Nat.reduceEqDiff,Nat.reduceAdd,Nat.reduceSub,Nat.reduceLeDiff,reduceCtorEq,fq,iu,aO]) (by simp[fe,aO,aY,ai,ao,bW])
theorem EN (p:aD) (hs:rz p):kj Tryz.prog 17 [.agg (aC p)] (.agg (aC p)):=by
 refine kj.body eL rfl fun hl σ=>?_
 clear hl
 have h1:=Cy p.aB hs.s
 have h2:=su p.cu hs.a
 rw[aa]at h1
 rw[aO]at h2
 (repeat(first|((repeat(revert hN;revert N;apply Pn.out));refine wk @aC.eq_1 ?_;(repeat(refine Pn.mk ?_;intro N hN)))|((try apply Or.inl);refine⟨_,kj.x (h1) _,?_⟩;refine hN _ _ ?_;clear hN N)|((try apply Or.inl);refine⟨_,kj.x (h2) _,?_⟩;refine hN _ _ ?_;clear hN N)))
 exact xL (.inl rfl) (vs:=[.agg (aC p)]) (by simp only[go_sem, ↓reduceIte,Nat.reduceEqDiff,Nat.reduceAdd,Nat.reduceSub,Nat.reduceLeDiff,reduceCtorEq,fq,iu,aC]) (by simp[fe,aC,aY,ai,ao,bW,aG])
theorem Ix (a b:fy):aq Tryz.prog 169 [.agg (bP a),.agg (bP b)] (.bool (decide (a=b))):=by
 refine aq.body eL rfl fun hl n0=>?_
 clear hl
 by_cases h1:a.aE=b.aE
 ·have e1:decide (a.aE=b.aE)=true:=decide_eq_true h1
  by_cases h2:a.ez=b.ez
  ·have e2:decide (a.ez=b.ez)=true:=decide_eq_true h2
   (try((repeat(revert hN;revert N;apply Pn.out));refine wk (tw @bP.eq_1 (tw @e1 @e2)) ?_;(repeat(refine Pn.mk ?_;intro N hN))))
   exact aX (b:=true) (.inl rfl) (sd @Nat.zero_add) (decide_eq_true (by cases a;cases b;simp_all)).symm
  ·have e2:decide (a.ez=b.ez)=false:=decide_eq_false h2
   (try((repeat(revert hN;revert N;apply Pn.out));refine wk (tw @bP.eq_1 (tw @e1 @e2)) ?_;(repeat(refine Pn.mk ?_;intro N hN))))
   exact aX (b:=false) (.inl rfl) (sd @Nat.zero_add) (decide_eq_false (by rintro rfl;exact h2 rfl)).symm
 ·have e1:decide (a.aE=b.aE)=false:=decide_eq_false h1
  (try((repeat(revert hN;revert N;apply Pn.out));refine wk (tw @bP.eq_1 @e1) ?_;(repeat(refine Pn.mk ?_;intro N hN))))
  exact aX (b:=false) (.inl rfl) (sd @Nat.zero_add) (decide_eq_false (by rintro rfl;exact h1 rfl)).symm
theorem x9 (a b:ad):aq Tryz.prog 29 [.agg (ab a),.agg (ab b)] (.bool (decide (a=b))):=by
 refine aq.body eL rfl fun hl n0=>?_
 clear hl
 by_cases h1:a.eI=b.eI
 ·have e1:decide (a.eI=b.eI)=true:=decide_eq_true h1
  by_cases h2:a.eF=b.eF
  ·have e2:decide (a.eF=b.eF)=true:=decide_eq_true h2
   (try((repeat(revert hN;revert N;apply Pn.out));refine wk (tw @ab.eq_1 (tw @e1 @e2)) ?_;(repeat(refine Pn.mk ?_;intro N hN))))
   exact aX (b:=true) (.inl rfl) (sd @Nat.zero_add) (decide_eq_true (by cases a;cases b;simp_all)).symm
  ·have e2:decide (a.eF=b.eF)=false:=decide_eq_false h2
   (try((repeat(revert hN;revert N;apply Pn.out));refine wk (tw @ab.eq_1 (tw @e1 @e2)) ?_;(repeat(refine Pn.mk ?_;intro N hN))))
   exact aX (b:=false) (.inl rfl) (sd @Nat.zero_add) (decide_eq_false (by rintro rfl;exact h2 rfl)).symm
 ·have e1:decide (a.eI=b.eI)=false:=decide_eq_false h1
  (try((repeat(revert hN;revert N;apply Pn.out));refine wk (tw @ab.eq_1 @e1) ?_;(repeat(refine Pn.mk ?_;intro N hN))))
  exact aX (b:=false) (.inl rfl) (sd @Nat.zero_add) (decide_eq_false (by rintro rfl;exact h1 rfl)).symm
theorem Dg (a b:ae):aq Tryz.prog 110 [.agg (aj a),.agg (aj b)] (.bool (decide (a=b))):=by
 refine aq.body eL rfl fun hl n0=>?_
 clear hl
 have h:=x9 a.bc b.bc
 rw[ab,ab]at h
 by_cases h1:a.bc=b.bc
 ·rw[decide_eq_true h1]at h
  by_cases h2:a.bU=b.bU
  ·have e2:decide (a.bU=b.bU)=true:=decide_eq_true h2
   (repeat(first|((repeat(revert hN;revert N;apply Pn.out));refine wk (tw @aj.eq_1 @e2) ?_;(repeat(refine Pn.mk ?_;intro N hN)))|((try apply Or.inl);refine⟨_,aq.x (h) (sd (tw @aj.eq_1 @e2)),?_⟩;refine hN _ _ ?_;clear hN N)))
   exact aX (b:=true) (.inl rfl) (sd @Nat.zero_add) (decide_eq_true (by cases a;cases b;simp_all)).symm
  ·have e2:decide (a.bU=b.bU)=false:=decide_eq_false h2
   (repeat(first|((repeat(revert hN;revert N;apply Pn.out));refine wk (tw @aj.eq_1 @e2) ?_;(repeat(refine Pn.mk ?_;intro N hN)))|((try apply Or.inl);refine⟨_,aq.x (h) (sd (tw @aj.eq_1 @e2)),?_⟩;refine hN _ _ ?_;clear hN N)))
   exact aX (b:=false) (.inl rfl) (sd @Nat.zero_add) (decide_eq_false (by rintro rfl;exact h2 rfl)).symm
 ·rw[decide_eq_false h1]at h
  (repeat(first|((repeat(revert hN;revert N;apply Pn.out));refine wk @aj.eq_1 ?_;(repeat(refine Pn.mk ?_;intro N hN)))|((try apply Or.inl);refine⟨_,aq.x (h) (sd @aj.eq_1),?_⟩;refine hN _ _ ?_;clear hN N)))
  exact aX (b:=false) (.inl rfl) (sd @Nat.zero_add) (decide_eq_false (by rintro rfl;exact h1 rfl)).symm
theorem Gq (xs ys:List fy):aq Tryz.prog 108 [.sl (xs.map bP),.sl (ys.map bP)] (.bool (decide (xs=ys))):=
 Dh (show mO Tryz.prog 108=some (Fg 108 169 2) by kernel_rfl) (fun _=>rfl) Bl xs ys Ix
theorem Gr (xs ys:List eR):aq Tryz.prog 109 [.sl (xs.map bp),.sl (ys.map bp)] (.bool (decide (xs=ys))):=
 Dh (show mO Tryz.prog 109=some (Fg 109 170 2) by kernel_rfl) (fun _=>rfl) Bn xs ys Iy
theorem tD (xs ys:List ae):aq Tryz.prog 66 [.sl (xs.map aj),.sl (ys.map aj)] (.bool (decide (xs=ys))):=
 Dh (show mO Tryz.prog 66=some (Fg 66 110 3) by kernel_rfl) (fun _=>rfl) Ds xs ys Dg
theorem Di (a:aD):aq Tryz.prog 20 [.agg (aC a),.agg (aC a)] (.bool true):=by
 have q1:aq Tryz.prog 65 [.agg (aa a.aB),.agg (aa a.aB)] (.bool true):=by
  refine aq.body eL rfl fun hl n0=>?_
  clear hl
  have h1:=Gq a.aB.ax a.aB.ax
  have h2:=Gr a.aB.ah a.aB.ah
  rw[decide_eq_true rfl]at h1 h2
  (repeat(first|((repeat(revert hN;revert N;apply Pn.out));refine wk @aa.eq_1 ?_;(repeat(refine Pn.mk ?_;intro N hN)))|((try apply Or.inl);refine⟨_,aq.x (h1) (sd @aa.eq_1),?_⟩;refine hN _ _ ?_;clear hN N)|((try apply Or.inl);refine⟨_,aq.x (h2) (sd @aa.eq_1),?_⟩;refine hN _ _ ?_;clear hN N)))
  exact aX (b:=true) (.inl rfl) (sd @Nat.zero_add) rfl
 have q2:aq Tryz.prog 21 [.agg (aO a.cu),.agg (aO a.cu)] (.bool true):=by
  refine aq.body eL rfl fun hl n0=>?_
  clear hl
  have h1:=tD a.cu.ah a.cu.ah
  rw[decide_eq_true rfl]at h1
  (repeat(first|((repeat(revert hN;revert N;apply Pn.out));refine wk @aO.eq_1 ?_;(repeat(refine Pn.mk ?_;intro N hN)))|((try apply Or.inl);refine⟨_,aq.x (h1) (sd @aO.eq_1),?_⟩;refine hN _ _ ?_;clear hN N)))
  exact aX (b:=true) (.inl rfl) (sd @Nat.zero_add) rfl
 rw[aa]at q1
 rw[aO]at q2
 refine aq.body eL rfl fun hl n0=>?_
 clear hl
 have e:decide (a.ay=a.ay)=true:=decide_eq_true rfl
 (repeat(first|((repeat(revert hN;revert N;apply Pn.out));refine wk (tw @aC.eq_1 @e) ?_;(repeat(refine Pn.mk ?_;intro N hN)))|((try apply Or.inl);refine⟨_,aq.x (q1) (sd (tw @aC.eq_1 @e)),?_⟩;refine hN _ _ ?_;clear hN N)|((try apply Or.inl);refine⟨_,aq.x (q2) (sd (tw @aC.eq_1 @e)),?_⟩;refine hN _ _ ?_;clear hN N)))
 exact aX (b:=true) (.inl rfl) (sd @Nat.zero_add) rfl
end Go.Proofs.YtgoelphibofcmaaGreat.V

namespace Go.Proofs.YtgoelphibofcmaaGreat.V
open Go.RowKit
def isApp:gC->Bool
 | .append .. =>true
 |_=>false
variable {P:Program} {X:fG} {K:Env->ar->Prop} {env:Env} {σ:ar}
theorem NH {draw:Bool} {o:bq} {r:List bq} (_:isApp o.op=false) (h:∀N:AV->ar->Prop,(∀v s,wpOps X draw r K (upd env o.dst v) s->N v s)->if aH o.guard env then fF X draw o env σ N else N .undef σ):wpOps X draw (o::r) K env σ:=PH h
end Go.Proofs.YtgoelphibofcmaaGreat.V
