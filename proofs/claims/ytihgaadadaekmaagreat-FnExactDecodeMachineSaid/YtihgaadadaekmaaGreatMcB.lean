/- One operation, calls among them. -/
import Derived.Test.YtihgaadadaekmaaGreatMcA
import Derived.Orders
import Derived.Conc.LoneCalls
import Derived.WalkKit
import Derived.WalkSpells
import Derived.WalkLawsBesides
import Derived.Lib.Hide
import Derived.Deep.QuietTactic
import Derived.BigQuiet
import Derived.StillTailTactics
import Derived.Deep.RegionWith
import Derived.Deep.RegionHeld3
import Derived.Deep.LoopGhost
import Derived.Deep.CutRange
import Derived.Deep.DeepCutAuto
import Derived.Test.YtihgaadadaekmaaGreatChecked
set_option linter.unusedVariables false
set_option linter.unusedSimpArgs false
set_option maxRecDepth 100000
set_option maxHeartbeats 16000000
namespace Go.Proofs.YtihgaadadaekmaaGreat.V
open Go.RowKit
variable {P:Program} {w w':World} {D D' D2:Nat->Prop} {ι ι' ι2:Names}
def Sound (P:Program):fj:=fun f args σ K=>∀(hs:Nat) (D:Nat->Prop) (ι:Names) (w:World) (vs:Array Value),fW P hs D ι σ.get w->Used ι σ.next (fun _=>False)->e7 P w D ι args vs->
 Calls P f vs w fun e w'=>∃r g' n' D' ι' u,e=.returned u/\K r ⟨g',n'⟩/\Step hs D ι w D' ι' w'/\fW P hs D' ι' g' w'/\Used ι' n' (fun _=>False)/\σ.next<=n'/\cG P w' D' ι' r u
section
variable {g:Rows} {hs:Nat} {env:Env} {a:Act} {o:Oper} {id:Id} {v:AV}
theorem fW.ro (S:fW P hs D ι g w):fW P w.heap.size D ι (ro g) w:=by
 refine⟨Nat.le_refl _,S.dead,fun id r h=>?_,fun id ki r r' B B' h h' hw=>?_⟩
 ·unfold V.ro at h
  simp only[Option.map_eq_some_iff]at h
  obtain⟨r0,h0,rfl⟩:=h
  obtain⟨B,hB,R,_,_⟩:=S.row id r0 h0
  exact⟨B,hB,R.flag false,fun h=>by simp at h,fun h=>by simp at h⟩
 ·unfold V.ro at h
  simp only[Option.map_eq_some_iff]at h
  obtain⟨r0,h0,rfl⟩:=h
  simp at hw
theorem yO {g0:Rows} {f:Nat} {args:List AV} {n:Nat} {K:AV->Prop} {vs:Array Value} (h:PC (Sound P) f args ⟨g0,n⟩ K) (pf:∀id r,g0 id=some r->g id=some r) (S:fW P hs D ι g w) (U:Used ι n (fun _=>False)) (A:e7 P w D ι args vs):
  Calls P f vs w fun e w'=>∃r D' u,e=.returned u/\K r/\Step hs D ι w D' ι w'/\fW P hs D' ι g w'/\cG P w' D' ι r u:=by
 refine(h w.heap.size D ι w vs (S.sub pf).ro U A).mono ?_
 rintro e w' ⟨r0,g',n',D1,ι1,u,rfl,⟨r,hr,hK⟩,T,S1,_,_,hR⟩
 have hb:∀b,b<w.heap.size->w'.heap[b]? =w.heap[b]? :=T.below.block
 have hz:=T.below.size
 have q:=pY (D2:=fun b=>D b∨(w.heap.size<=b/\b<w'.heap.size)) (ι2:=ι) (fun b hd=>by
  rcases T.new b hd with h|h
  ·exact .inl h
  ·exact .inr ⟨h,S1.dead b hd⟩) (fun id row hg hw=>by
  obtain⟨B,hB,R,h1,_⟩:=S1.row id row hg
  exact⟨B,hB,R,.inr ⟨h1 hw,R.lt⟩⟩) 6 r0 u r hR hr
 refine⟨r,_,u,rfl,hK,?_,?_,q.1⟩
 ·exact Step.stay S hb hz T.below.os T.below.tape T.below.output (fun _ h=>.inl h) (fun b h=>by rcases h with h|h;exact .inl h;exact .inr h.1) (fun _ _ h=>h)
 ·exact S.stay hb hz (fun _ h=>.inl h) (fun b h=>by rcases h with h|h;exact Nat.lt_of_lt_of_le (S.dead b h) hz;exact h.2) (fun b h=>by rcases h with h|h;exact .inl h;exact .inr h.1) (fun _ _ h=>h)
theorem vT {g0:Rows} {f:Nat} {args:List AV} {n:Nat} {K:AV->Prop} {vs:Array Value} (h:PCv (Sound P) f args ⟨g0,n⟩ K) (pf:∀id r,g0 id=some r->g id=some r) (S:fW P hs D ι g w) (U:Used ι n (fun _=>False)) (A:e7 P w D ι args vs):
  Calls P f vs w fun e w'=>∃r D' u,e=.returned u/\K r/\Step hs D ι w D' ι w'/\fW P hs D' ι g w'/\cG P w' D' ι r u:=by
 obtain⟨eU,ha,h⟩:=h
 let D1:Nat->Prop:=fun b=>D b∨∃id r B,g id=some r/\ι id=some B/\b=B.b
 have lt:∀id r B,g id=some r->ι id=some B->B.b<w.heap.size:=fun id r B h1 h2=>by
  obtain⟨B',dz,R,_⟩:=S.row id r h1
  rw[h2]at dz;injection dz with dz;subst dz
  exact R.lt
 have S0:fW P w.heap.size D1 ι (fun _=>none) w:=⟨Nat.le_refl _,fun b hb=>by
  rcases hb with hb|⟨id,r,B,h1,h2,rfl⟩
  ·exact S.dead b hb
  ·exact lt id r B h1 h2,fun id r h=>(by cases h),fun id ki r r' B B' h=>(by cases h)⟩
 obtain⟨l1,l2⟩:=fR ha
 have A':e7 P w D1 ι eU vs:=⟨by rw[A.1,l1],fun j a hj=>by
  obtain⟨a0,kK,hf⟩:=l2 j a hj
  obtain⟨u,hu,hr⟩:=A.2 j a0 kK
  refine⟨u,hu,(pY (D2:=D1) (ι2:=ι) (fun b h=>.inl h) (fun id row hg hw=>?_) 6 a0 u a hr hf).1⟩
  unfold dD at hg
  simp only[Option.map_eq_some_iff]at hg
  obtain⟨r,m7,rfl⟩:=hg
  obtain⟨B,hB,R,_,_⟩:=S.row id r (pf id r m7)
  exact⟨B,hB,R.flag true,.inr ⟨id,r,B,pf id r m7,hB,rfl⟩⟩⟩
 refine(h w.heap.size D1 ι w vs S0 U A').mono ?_
 rintro e w' ⟨r0,g',n',D2,ι1,u,rfl,⟨r,hr,hK⟩,T,S1,_,_,hR⟩
 have hb:∀b,b<w.heap.size->w'.heap[b]? =w.heap[b]? :=T.below.block
 have hz:=T.below.size
 have q:=Eo (D2:=fun b=>D b∨(w.heap.size<=b/\b<w'.heap.size)) (ι2:=ι) (fun id row hg hw=>by
  obtain⟨B,hB,R,h1,_⟩:=S1.row id row hg
  exact⟨B,hB,R,.inr ⟨h1 hw,R.lt⟩⟩) 6 r0 u r hR hr
 refine⟨r,_,u,rfl,hK,?_,?_,q.1⟩
 ·exact Step.stay S hb hz T.below.os T.below.tape T.below.output (fun _ h=>.inl h) (fun b h=>by rcases h with h|h;exact .inl h;exact .inr h.1) (fun _ _ h=>h)
 ·exact S.stay hb hz (fun _ h=>.inl h) (fun b h=>by rcases h with h|h;exact Nat.lt_of_lt_of_le (S.dead b h) hz;exact h.2) (fun b h=>by rcases h with h|h;exact .inl h;exact .inr h.1) (fun _ _ h=>h)
theorem DS {g0:Rows} {f:Nat} {args:List AV} {n:Nat} {K:AV->Prop} {vs:Array Value} (h:gH (Sound P) f args ⟨g0,n⟩ K) (pf:∀id r,g0 id=some r->g id=some r) (S:fW P hs D ι g w) (U:Used ι n (fun _=>False)) (A:e7 P w D ι args vs):
  Calls P f vs w fun e w'=>∃r D' u,e=.returned u/\K r/\Step hs D ι w D' ι w'/\fW P hs D' ι g w'/\cG P w' D' ι r u:=by
 rcases h with h|h
 ·exact yO h pf S U A
 ·exact vT h pf S U A
theorem Fo {D1 D2:Nat->Prop} {ι1 ι2:Names} {w1:World} {a:AV} {v:Value} (hp:a.plain=true) (h:cG P w D1 ι1 a v):cG P w1 D2 ι2 a v:=by
 cases h with
 |eK a v h=>cases h<;>first|(simp[AV.plain]at hp;done)|exact .eK _ _ (by constructor)
 |_=>simp[AV.plain]at hp
theorem fW.add {r:Row} {B:rQ} (S:fW P hs D ι g w) (S':fW P hs D ι g w') (hf:ι id=none) (jS:w.heap.size<=B.b) (R:ik P w' D (kI ι id B) B r):fW P hs D (kI ι id B) (bS g id r) w':=by
 have lt:∀ki r' B',g ki=some r'->ι ki=some B'->B'.b<w.heap.size:=fun ki r' B' h1 h2=>by
  obtain⟨B2,oD,R2,_⟩:=S.row ki r' h1
  rw[h2]at oD;injection oD with oD;subst oD
  exact R2.lt
 have ne:∀ki r',g ki=some r'->ki≠id:=fun ki r' h he=>by
  subst he
  obtain⟨B2,oD,_⟩:=S.row _ r' h
  rw[hf]at oD;cases oD
 refine⟨S'.lo,S'.dead,fun ki r' h=>?_,fun Pj id2 r1 r2 B1 B2 h1 h2 hw yG oD hb=>?_⟩
 ·unfold bS at h
  split at h
  ·rename_i he
   subst he
   injection h with h;subst h
   exact⟨B,ea _ _ _,R,fun _=>Nat.le_trans S.lo jS,fun _ hd=>Nat.lt_irrefl _ (Nat.lt_of_lt_of_le (S.dead _ hd) jS)⟩
  ·obtain⟨B',dz,R',k1,k2⟩:=S'.row ki r' h
   exact⟨B',by rw[fG (ne _ _ h)];exact dz,R'.frame rfl (fun a v hr=>hr.frame (fun _ _=>rfl) (fun _ h=>h) (fH hf)),k1,k2⟩
 ·unfold bS at h1 h2
  split at h1
  ·rename_i e1
   split at h2
   ·rename_i e2;rw[e1,e2]
   ·exfalso
    subst e1
    rw[ea]at yG;injection yG with yG;subst yG
    rw[fG (ne _ _ h2)]at oD
    have:=lt _ _ _ h2 oD
    omega
  ·rw[fG (ne _ _ h1)]at yG
   split at h2
   ·rename_i e2
    exfalso
    subst e2
    rw[ea]at oD;injection oD with oD;subst oD
    have:=lt _ _ _ h1 yG
    omega
   ·rw[fG (ne _ _ h2)]at oD
    exact S'.inj Pj id2 r1 r2 B1 B2 h1 h2 hw yG oD hb
theorem FY {g0:Rows} {f:Nat} {args:List AV} {n sz:Nat} {rows:List (List AV)} {vs:Array Value} (h:CM (Sound P) f args ⟨g0,n⟩ sz rows) (pf:∀id r,g0 id=some r->g id=some r) (S:fW P hs D ι g w) (U:Used ι n (fun _=>False)) (A:e7 P w D ι args vs) (hf:ι id=none):
  Calls P f vs w fun e w'=>∃u B,e=.returned u/\Step hs D ι w D (kI ι id B) w'/\fW P hs D (kI ι id B) (bS g id ⟨true,sz,rows⟩) w'/\cG P w' D (kI ι id B) (.own id 0 rows.length) u:=by
 obtain⟨lk,eU,ha,h⟩:=h
 let D1:Nat->Prop:=fun b=>D b∨∃id r B,g id=some r/\ι id=some B/\b=B.b
 have lt:∀id r B,g id=some r->ι id=some B->B.b<w.heap.size:=fun id r B h1 h2=>by
  obtain⟨B',dz,R,_⟩:=S.row id r h1
  rw[h2]at dz;injection dz with dz;subst dz
  exact R.lt
 have S0:fW P w.heap.size D1 ι (fun _=>none) w:=⟨Nat.le_refl _,fun b hb=>by
  rcases hb with hb|⟨id,r,B,h1,h2,rfl⟩
  ·exact S.dead b hb
  ·exact lt id r B h1 h2,fun id r h=>(by cases h),fun id ki r r' B B' h=>(by cases h)⟩
 obtain⟨l1,l2⟩:=fR ha
 have A':e7 P w D1 ι eU vs:=⟨by rw[A.1,l1],fun j a hj=>by
  obtain⟨a0,kK,hz⟩:=l2 j a hj
  obtain⟨u,hu,hr⟩:=A.2 j a0 kK
  refine⟨u,hu,(pY (D2:=D1) (ι2:=ι) (fun b h=>.inl h) (fun id row hg hw=>?_) 6 a0 u a hr hz).1⟩
  unfold dD at hg
  simp only[Option.map_eq_some_iff]at hg
  obtain⟨r,m7,rfl⟩:=hg
  obtain⟨B,hB,R,_,_⟩:=S.row id r (pf id r m7)
  exact⟨B,hB,R.flag true,.inr ⟨id,r,B,pf id r m7,hB,rfl⟩⟩⟩
 refine(h w.heap.size D1 ι w vs S0 U A').mono ?_
 rintro e w' ⟨r0,g',n',D2,ι1,u,rfl,⟨i0,hr,hg⟩,T,S1,_,_,hR⟩
 subst hr
 have hb:∀b,b<w.heap.size->w'.heap[b]? =w.heap[b]? :=T.below.block
 have hz:=T.below.size
 obtain⟨B,hB,R,k1,_⟩:=S1.row i0 _ hg
 have jS:w.heap.size<=B.b:=k1 rfl
 obtain⟨o,cap,B',rfl,dz,q2,q3,q4,q5,hk⟩:=ja hR
 rw[hB]at dz;injection dz with dz;subst dz
 replace R:=R.row hk
 have S':fW P hs D ι g w':=S.stay hb hz (fun _ h=>h) (fun b h=>Nat.lt_of_lt_of_le (S.dead b h) hz) (fun b h=>.inl h) (fun _ _ h=>h)
 have R':kS P w' D (kI ι id B) B ⟨true,sz,rows⟩:=⟨R.sz,R.DW,R.fits,R.len,R.flat,fun i j cs a hi hj=>by
  obtain⟨v,h1,h2⟩:=R.at_ i j cs a hi hj
  exact⟨v,h1,Fo (lk cs (List.mem_of_getElem? hi) a (List.mem_of_getElem? hj)) h2⟩⟩
 exact⟨_,B,rfl,Step.stay S hb hz T.below.os T.below.tape T.below.output (fun _ h=>h) (fun _ h=>.inl h) (fH hf),S.add S' hf jS (R'.obj hk),.own id 0 _ _ _ B (ea _ _ _) hk q2 q3 q4 q5⟩
theorem jd {f:Nat} {args:Array Value} (hc:ft P f=true):(callFunc f args).run P w=.ok (.enter f args) w:=by
 unfold ft at hc
 split at hc
 ·rename_i fn hf
  simp only[Bool.and_eq_true,Bool.not_eq_true']at hc
  have hb:fn.body.isNone=false:=by cases hq:fn.body<;>simp_all
  simp only[callFunc,Sem.run_bind,run_program,Result.andThen_ok,hf,hc.2,Bool.false_eq_true,if_false,hb]
  rfl
 ·simp at hc
theorem zO {f:Nat} {args:List O} (hc:pC P o.op=some (.call f args)):∃c,o.op=.call c/\c.callee=.value (.func f)/\ft P f=true/\c.args.toList.mapM (cO P)=some args:=by
 unfold pC at hc
 split at hc
 case h_23=>
  rename_i c ho
  refine⟨c,ho,?_⟩
  unfold mK at hc
  split at hc
  all_goals (try(repeat' (split at hc))<;>(simp only[Option.bind_eq_bind,Option.bind_eq_some_iff,Option.pure_def,Option.some.injEq,Option.map_eq_some_iff,reduceCtorEq,and_false,exists_false]at hc))
  all_goals simp_all
 all_goals (try unfold tt at hc)<;>(try unfold qY at hc)<;>(repeat' (split at hc))<;>(simp only[Option.bind_eq_bind,Option.bind_eq_some_iff,Option.pure_def,Option.some.injEq,Option.map_eq_some_iff,reduceCtorEq,and_false,exists_false]at hc)
theorem rC {x:O} {args:List O} (hc:pC P o.op=some (.rW x args)):∃c t,o.op=.call c/\c.callee=.value (.tmp t)/\x=.t t/\c.args.toList.mapM (cO P)=some args:=by
 unfold pC at hc
 split at hc
 case h_23=>
  rename_i c ho
  refine⟨c,?_⟩
  unfold mK at hc
  split at hc
  all_goals (try(repeat' (split at hc))<;>(simp only[Option.bind_eq_bind,Option.bind_eq_some_iff,Option.pure_def,Option.some.injEq,Option.map_eq_some_iff,reduceCtorEq,and_false,exists_false]at hc))
  all_goals simp_all
 all_goals (try unfold tt at hc)<;>(try unfold qY at hc)<;>(repeat' (split at hc))<;>(simp only[Option.bind_eq_bind,Option.bind_eq_some_iff,Option.pure_def,Option.some.injEq,Option.map_eq_some_iff,reduceCtorEq,and_false,exists_false]at hc)
theorem EL {n:Nat} {x y:O} (hc:pC P o.op=some (.store n x y)):∃t x' y',o.op=.store t x' y'/\dK P t=some n/\cO P x'=some x/\cO P y'=some y:=by
 unfold pC at hc
 split at hc
 case h_7=>
  rename_i t x' y' ho
  refine⟨t,x',y',ho,?_⟩
  simp only[Option.bind_eq_bind,Option.bind_eq_some_iff,Option.pure_def,Option.some.injEq]at hc
  obtain⟨n',h1,x2,h2,y2,h3,he⟩:=hc
  injection he with e1 e2 e3
  subst e1;subst e2;subst e3
  exact⟨h1,h2,h3⟩
 all_goals (try unfold tt at hc)<;>(try unfold qY at hc)<;>(try unfold mK at hc)<;>(repeat' (split at hc))<;>(simp only[Option.bind_eq_bind,Option.bind_eq_some_iff,Option.pure_def,Option.some.injEq,Option.map_eq_some_iff,reduceCtorEq,and_false,exists_false]at hc)
theorem BR {n:Nat} {x y:O} (hc:pC P o.op=some (.append n x y)):∃(t e:TypeId) (m:Nat) (z:List K) (i:TypeInfo) (x' y':Operand),n=m+1/\o.op=.call {callee:=.builtin .append,args:= #[x',y'],argTypes:= #[t,t]}/\
  P.underlying t=some (.slice e)/\dK P e=some (m+1)/\jj P e=some z/\P.info? e=some i/\i.bytes<=32768/\cO P x'=some x/\cO P y'=some y:=by
 unfold pC at hc
 split at hc
 case h_23=>
  rename_i c ho
  unfold mK at hc
  split at hc
  case h_2=>
   rename_i j4
   split at hc
   ·rename_i x' y' t u h1 h2
    split at hc
    ·rename_i e ht
     split at hc
     ·rename_i m z i e1 e2 e3
      split at hc
      ·rename_i hb
       simp only[Option.bind_eq_bind,Option.bind_eq_some_iff,Option.pure_def,Option.some.injEq]at hc
       obtain⟨x2,h3,y2,h4,he⟩:=hc
       injection he with k1 k2 k3
       subst k1;subst k2;subst k3
       obtain⟨Il,rfl⟩:=hb
       refine⟨t,e,m,z,i,x',y',rfl,?_,ht,e1,e2,e3,Il,h3,h4⟩
       rw[ho]
       obtain⟨ca,cb,cc⟩:=c
       simp only at h1 h2 j4
       subst j4
       congr
       ·exact Array.ext' h1
       ·exact Array.ext' h2
      ·simp at hc
     ·simp at hc
    ·simp at hc
   ·simp at hc
  all_goals (repeat' (split at hc))<;>(simp only[Option.bind_eq_bind,Option.bind_eq_some_iff,Option.pure_def,Option.some.injEq,Option.map_eq_some_iff,reduceCtorEq,and_false,exists_false]at hc)
 all_goals (try unfold tt at hc)<;>(try unfold qY at hc)<;>(repeat' (split at hc))<;>(simp only[Option.bind_eq_bind,Option.bind_eq_some_iff,Option.pure_def,Option.some.injEq,Option.map_eq_some_iff,reduceCtorEq,and_false,exists_false]at hc)
theorem G7 {n:Nat} {x y:O} (hc:pC P o.op=some (.copy n x y)):∃(t t2 e:TypeId) (m:Nat) (x' y':Operand),n=m+1/\o.op=.call {callee:=.builtin .copy,args:= #[x',y'],argTypes:= #[t,t2]}/\
  P.underlying t=some (.slice e)/\dK P e=some (m+1)/\cO P x'=some x/\cO P y'=some y:=by
 unfold pC at hc
 split at hc
 case h_23=>
  rename_i c ho
  unfold mK at hc
  split at hc
  case h_7=>
   rename_i j4
   split at hc
   ·rename_i x' y' t t2 h1 h2
    split at hc
    ·rename_i e ht
     split at hc
     ·rename_i m e1
      simp only[Option.bind_eq_bind,Option.bind_eq_some_iff,Option.pure_def,Option.some.injEq,fP.copy.injEq]at hc
      obtain⟨x2,h3,y2,h4,k0,k1,k2⟩:=hc
      subst k1;subst k2
      refine⟨t,t2,e,m,x',y',k0.symm,?_,ht,e1,h3,h4⟩
      rw[ho]
      obtain⟨ca,cb,cc⟩:=c
      simp only at h1 h2 j4
      subst j4
      congr
      ·exact Array.ext' h1
      ·exact Array.ext' h2
     ·simp at hc
    ·simp at hc
   ·simp at hc
  all_goals (repeat' (split at hc))<;>(simp only[Option.bind_eq_bind,Option.bind_eq_some_iff,Option.pure_def,Option.some.injEq,Option.map_eq_some_iff,reduceCtorEq,and_false,exists_false]at hc)
 all_goals (try unfold tt at hc)<;>(try unfold qY at hc)<;>(repeat' (split at hc))<;>(simp only[Option.bind_eq_bind,Option.bind_eq_some_iff,Option.pure_def,Option.some.injEq,Option.map_eq_some_iff,reduceCtorEq,and_false,exists_false]at hc)
theorem EK {z:List K} {x:O} (hc:pC P o.op=some (.clear z x)):∃(t e:TypeId) (m:Nat) (x':Operand),o.op=.call {callee:=.builtin .clear,args:= #[x'],argTypes:= #[t]}/\
  P.underlying t=some (.slice e)/\dK P e=some (m+1)/\jj P e=some z/\cO P x'=some x:=by
 unfold pC at hc
 split at hc
 case h_23=>
  rename_i c ho
  unfold mK at hc
  split at hc
  case h_3=>
   rename_i j4
   split at hc
   ·rename_i x' t h1 h2
    split at hc
    ·rename_i e ht
     split at hc
     ·rename_i m z' e1 e2
      simp only[Option.map_eq_some_iff]at hc
      obtain⟨x2,h3,he⟩:=hc
      injection he with k1 k2
      subst k1;subst k2
      refine⟨t,e,m,x',?_,ht,e1,e2,h3⟩
      rw[ho]
      obtain⟨ca,cb,cc⟩:=c
      simp only at h1 h2 j4
      subst j4
      congr
      ·exact Array.ext' h1
      ·exact Array.ext' h2
     ·simp at hc
    ·simp at hc
   ·simp at hc
  all_goals (repeat' (split at hc))<;>(simp only[Option.bind_eq_bind,Option.bind_eq_some_iff,Option.pure_def,Option.some.injEq,Option.map_eq_some_iff,reduceCtorEq,and_false,exists_false]at hc)
 all_goals (try unfold tt at hc)<;>(try unfold qY at hc)<;>(repeat' (split at hc))<;>(simp only[Option.bind_eq_bind,Option.bind_eq_some_iff,Option.pure_def,Option.some.injEq,Option.map_eq_some_iff,reduceCtorEq,and_false,exists_false]at hc)
theorem MB {q:MW} {xs:List O} (hc:pC P o.op=some (.mw q xs)):
  (∃t x k y m z x' k' y',(o.op=.mapUpdate t x k y∨o.op=.insert t x k y)/\qZ P t=some (m,z)/\cO P x=some x'/\cO P k=some k'/\cO P y=some y'/\q=.set m/\xs=[x',k',y'])∨
  (∃t t' x k m z x' k',o.op=.call {callee:=.builtin .delete,args:= #[x,k],argTypes:= #[t,t']}/\qZ P t=some (m,z)/\cO P x=some x'/\cO P k=some k'/\q=.del m/\xs=[x',k']):=by
 unfold pC at hc
 split at hc
 case h_23=>
  rename_i c ho
  right
  unfold mK at hc
  split at hc
  case h_6=>
   rename_i j4
   split at hc
   ·rename_i x k t t' h1 h2
    split at hc
    ·rename_i m z x' k' e1 e2 e3
     injection hc with hc
     injection hc with q1 q2
     refine⟨t,t',x,k,m,z,x',k',?_,e1,e2,e3,q1.symm,q2.symm⟩
     rw[ho]
     obtain⟨ca,cb,cc⟩:=c
     simp only at h1 h2 j4
     subst j4
     congr
     ·exact Array.ext' h1
     ·exact Array.ext' h2
    ·cases hc
   ·cases hc
  all_goals (repeat' (split at hc))<;>(simp only[Option.bind_eq_bind,Option.bind_eq_some_iff,Option.pure_def,Option.some.injEq,Option.map_eq_some_iff,reduceCtorEq,and_false,exists_false]at hc)
 case h_29=>
  rename_i t x k y ho
  left
  split at hc
  ·rename_i m z x' k' y' e1 e2 e3 e4
   injection hc with hc
   injection hc with q1 q2
   exact⟨t,x,k,y,m,z,x',k',y',.inl ho,e1,e2,e3,e4,q1.symm,q2.symm⟩
  ·cases hc
 case h_30=>
  rename_i t x k y ho
  left
  split at hc
  ·rename_i m z x' k' y' e1 e2 e3 e4
   injection hc with hc
   injection hc with q1 q2
   exact⟨t,x,k,y,m,z,x',k',y',.inr ho,e1,e2,e3,e4,q1.symm,q2.symm⟩
  ·cases hc
 all_goals (try unfold tt at hc)<;>(try unfold qY at hc)<;>(repeat' (split at hc))<;>(simp only[Option.bind_eq_bind,Option.bind_eq_some_iff,Option.pure_def,Option.some.injEq,Option.map_eq_some_iff,reduceCtorEq,and_false,exists_false]at hc)
def iM (g:Rows) (id:Id):Option Row->Rows
 |some r=>bS g id r
 |none=>g
def tx (X:fj) (hid:List Nat) (site n:Nat) (f:Nat) (args:List AV) (g:Rows) (v:AV) (g':Rows):Prop:=
 (gH X f args ⟨fV hid n g,n+1⟩ (fun r=>r=v)/\g'=g)∨
 (hid.contains site=true/\∃sz rows,CM X f args ⟨fV hid n g,n+1⟩ sz rows/\v=.own ⟨site,n⟩ 0 rows.length/\g'=bS g ⟨site,n⟩ ⟨true,sz,rows⟩)
def VS (X:fj) (n:Nat) (vo:bj) (env:Env) (g:Rows) (v:AV) (g':Rows):Prop:=
 match vo.op with
 | .call f args=>tx X vo.hid vo.site n f (args.map (cE env)) g v g'
 | .rW x args=>∃f l,tu (cE env x) (args.map (cE env))=some (f,l)/\tx X vo.hid vo.site n f l g v g'
 | .store .. | .append .. | .copy .. | .clear .. | .mw .. =>fX vo.op (cE env) g ⟨vo.site,n⟩=some (v,g')
 |_=>∃mr,eM vo.op (cE env) (fV vo.hid n g) ⟨vo.site,n⟩=some (v,mr)/\g'=iM g ⟨vo.site,n⟩ mr
def Ky (P:Program) (hs:Nat) (D:Nat->Prop) (ι:Names) (w:World) (U:Nat->Prop) (site n:Nat) (a:Act) (dst:Option Tmp) (v:AV) (g':Rows) (a':Act) (w':World):Prop:=
 ∃u D' ι',a'=a.put dst u/\Step hs D ι w D' ι' w'/\fW P hs D' ι' g' w'/\cG P w' D' ι' v u/\Used ι' n (fun s=>U s∨s=site)
theorem fresh {n:Nat} {U:Nat->Prop} {s:Nat} (h:Used ι n U) (hU:¬U s):ι ⟨s,n⟩=none:=by
 cases hq:ι ⟨s,n⟩with
 |none=>rfl
 |some B=>
  rcases h ⟨s,n⟩ (by rw[hq];simp)with h|⟨_,h⟩
  ·exact absurd h (Nat.lt_irrefl _)
  ·exact absurd h hU
theorem Used.more {n:Nat} {U U':Nat->Prop} (h:Used ι n U) (hU:∀s,U s->U' s):Used ι n U':=fun id hid=>by
 rcases h id hid with h|⟨h1,h2⟩
 ·exact .inl h
 ·exact .inr ⟨h1,hU _ h2⟩
theorem Used.next {n:Nat} {U:Nat->Prop} (h:Used ι n U):Used ι (n+1) (fun _=>False):=fun id hid=>by
 rcases h id hid with h|⟨h1,_⟩
 ·exact .inl (Nat.lt_succ_of_lt h)
 ·exact .inl ab
theorem Used.upd {n:Nat} {U:Nat->Prop} {s:Nat} {B:rQ} (h:Used ι n U):Used (kI ι ⟨s,n⟩ B) n (fun x=>U x∨x=s):=fun id hid=>by
 by_cases he:id=⟨s,n⟩
 ·subst he;exact .inr ⟨rfl,.inr rfl⟩
 ·rw[fG he]at hid
  exact(h.more (U':=fun x=>U x∨x=s) fun _ h=>Or.inl h) id hid
theorem nr {xs:Array Operand} {ys:List O} (E:bI P w D ι env a) (h:xs.toList.mapM (cO P)=some ys):e7 P w D ι (ys.map (cE env)) (xs.map a.eval):=by
 obtain⟨h1,h2⟩:=Ci E h
 refine⟨by simpa using h1,fun j b hj=>?_⟩
 simp only[List.getElem?_map,Option.map_eq_some_iff]at hj
 obtain⟨y,hy,rfl⟩:=hj
 have dR:j<xs.size:=by have:=(List.getElem?_eq_some_iff.1 hy).1;simp at h1;omega
 refine⟨a.eval xs[j],by simp[dR],?_⟩
 have:=h2 j y hy
 simpa[List.getD_eq_getElem?_getD,dR]using this
theorem nQ {xs ys:List AV} {vs us:Array Value} (h:e7 P w D ι xs vs) (k:e7 P w D ι ys us):e7 P w D ι (xs++ys) (vs++us):=
 ⟨by simp[h.1,k.1],fun j b hj=>by
  by_cases dR:j<xs.length
  ·rw[List.getElem?_append_left dR]at hj
   obtain⟨u,hu,vG⟩:=h.2 j b hj
   exact⟨u,by rw[Array.getElem?_append_left (by rw[h.1];exact dR)];exact hu,vG⟩
  ·rw[List.getElem?_append_right ab]at hj
   obtain⟨u,hu,vG⟩:=k.2 _ b hj
   exact⟨u,by rw[Array.getElem?_append_right (by rw[h.1];omega),h.1];exact hu,vG⟩⟩
theorem uw:e7 P w D ι [] #[]:=⟨rfl,fun j b hj=>by simp at hj⟩
theorem tz {x:AV} {l l':List AV} {f:Nat} {vs:Array Value} {v:Value} (h:tu x l=some (f,l')) (hr:cG P w D ι x v) (hA:e7 P w D ι l vs):
  ∃first cD,v=.func (.func f) first cD/\ft P f=true/\e7 P w D ι l' (first++vs++cD):=by
 unfold tu at h
 split at h
 ·simp only[Option.some.injEq,Prod.mk.injEq]at h
  obtain⟨rfl,rfl⟩:=h
  obtain⟨us,q,he,C8,n1,q1,q2⟩:=Ck hr
  refine⟨#[],us,he,C8,?_⟩
  rw[Array.empty_append]
  exact nQ hA ⟨n1,fun j b hj=>⟨q j,q1 j (List.getElem?_eq_some_iff.1 hj).1,q2 j b hj⟩⟩
 ·simp only[Option.some.injEq,Prod.mk.injEq]at h
  obtain⟨rfl,rfl⟩:=h
  obtain⟨us,q,he,C8,n1,q1,q2⟩:=Kd hr
  refine⟨us, #[],he,C8,?_⟩
  rw[Array.append_empty]
  exact nQ ⟨n1,fun j b hj=>⟨q j,q1 j (List.getElem?_eq_some_iff.1 hj).1,q2 j b hj⟩⟩ hA
 ·cases h
theorem yT {n:Nat} {vo:bj} {g':Rows} {U:Nat->Prop} {Q:Exit->Act->World->Prop} {K:Act->World->Prop} (hc:pC P o.op=some vo.op) (hv:VS (Sound P) n vo env g v g') (S:fW P hs D ι g w) (Us:Used ι n U) (hU:¬U vo.site) (E:bI P w D ι env a)
  (hK:∀a' w',Ky P hs D ι w U vo.site n a o.dst v g' a' w'->K a' w'):o.wp P a w K Q:=by
 have hf:=fresh Us hU
 have y6:∀(f:Nat) (args:List AV) (vs:Array Value),tx (Sound P) vo.hid vo.site n f args g v g'->e7 P w D ι args vs->(execOp a.eval o).run P w=.ok (.enter f vs) w->o.wp P a w K Q:=by
  intro f args vs hP hA gS
  unfold Oper.wp
  rw[gS]
  rcases hP with⟨hP,rfl⟩|⟨_,sz,rows,hM,rfl,rfl⟩
  ·refine(DS hP yv S Us.next hA).mono ?_
   rintro e w' ⟨r,D',u,rfl,rfl,T,S',hR⟩
   exact hK _ _ ⟨u,D',ι,rfl,T,S',hR,Us.more fun _ h=>.inl h⟩
  ·refine(FY hM yv S Us.next hA hf).mono ?_
   rintro e w' ⟨u,B,rfl,T,S',hR⟩
   exact hK _ _ ⟨u,D,_,rfl,T,S',hR,Us.upd⟩
 have quiet:∀(mr:Option Row),eM vo.op (cE env) (fV vo.hid n g) ⟨vo.site,n⟩=some (v,mr)->g'=iM g ⟨vo.site,n⟩ mr->o.wp P a w K Q:=by
  intro mr hq hg
  have hqs:=wY hc hq (S.sub yv) E
  unfold Oper.wp
  cases mr with
  |none=>
   obtain⟨u,gS,hR⟩:=hqs
   rw[gS]
   subst hg
   exact hK _ _ ⟨u,D,ι,rfl,Step.refl _ _ _ _,S,hR,Us.more fun _ h=>.inl h⟩
  |some r=>
   rcases hqs with⟨u,cells,T,gS,h1,h2,h3,h4,h5,h6⟩|⟨m,gS,Mw,BI⟩|⟨c,gS,Mw,BI⟩
   case inr.inr=>
    rw[gS]
    subst hg Mw BI
    have eY:w.heap.size<(w.alloc (.chan c #[] false 0 0 false)).heap.size:=by simp
    have S':=S.stay (w':=w.alloc (.chan c #[] false 0 0 false)) (D':=D) (ι':=ι) (fun k hk=>Below.heap_alloc _ _ _ hk) (by simp) (fun _ h=>h) (fun b hd=>Nat.lt_trans (S.dead b hd) eY) (fun _ h=>.inl h) (fun _ _ h=>h)
    have S1:=S.add S' (id:=⟨vo.site,n⟩) (B:=⟨w.heap.size,pU+c,0,some (.chan c)⟩) (r:=⟨true,pU+c,[]⟩) hf (Nat.le_refl _) ⟨rfl,fun cs h=>by simp at h,fun h=>by simp at h,fun m' h=>(by simp at h),fun c' h=>by
     simp only[Option.some.injEq,BK.chan.injEq]at h;subst h
     exact⟨rfl, #[],0,0,(show(w.heap.push (Obj.chan c #[] false 0 0 false))[w.heap.size]? =some (Obj.chan c #[] false 0 0 false) by simp),rfl,fun i cs h=>by simp at h⟩⟩
    exact hK _ _ ⟨_,D,_,rfl,Step.stay S (fun k hk=>Below.heap_alloc _ _ _ hk) (by simp) rfl rfl rfl (fun _ h=>h) (fun _ h=>.inl h) (fH hf),S1,.rf _ _ _ (ea _ _ _) rfl,Us.upd⟩
   case inr.inl=>
    rw[gS]
    subst hg Mw BI
    have eY:w.heap.size<(w.alloc (.map #[] 0)).heap.size:=by simp
    have S':=S.stay (w':=w.alloc (.map #[] 0)) (D':=D) (ι':=ι) (fun k hk=>Below.heap_alloc _ _ _ hk) (by simp) (fun _ h=>h) (fun b hd=>Nat.lt_trans (S.dead b hd) eY) (fun _ h=>.inl h) (fun _ _ h=>h)
    have S1:=S.add S' (id:=⟨vo.site,n⟩) (B:=⟨w.heap.size,m.Co,0,some (.map m)⟩) (r:=⟨true,m.Co,[]⟩) hf (Nat.le_refl _) ⟨rfl,fun cs h=>by simp at h,fun h=>by simp at h,fun m' h=>by
     simp only[Option.some.injEq,BK.map.injEq]at h;subst h
     exact⟨rfl, #[],0,(show(w.heap.push (Obj.map #[] 0))[w.heap.size]? =some (Obj.map #[] 0) by simp),rfl,⟨fun cs h=>by simp at h,fun x h=>by simp at h,by simp⟩,fun i cs h=>by simp at h⟩,fun c h=>by simp at h⟩
    exact hK _ _ ⟨_,D,_,rfl,Step.stay S (fun k hk=>Below.heap_alloc _ _ _ hk) (by simp) rfl rfl rfl (fun _ h=>h) (fun _ h=>.inl h) (fH hf),S1,.map _ _ _ (ea _ _ _) rfl,Us.upd⟩
   rw[gS]
   subst hg
   have S1:=S.alloc (id:=⟨vo.site,n⟩) (w':=w.alloc (.cells cells T)) rfl hf h1 h2 h3 h4 h5
   refine hK _ _ ⟨u,D,_,rfl,Step.stay S (fun k hk=>Below.heap_alloc _ _ _ hk) (by simp) rfl rfl rfl (fun _ h=>h) (fun _ h=>.inl h) (fH hf),S1,(h6 (kI ι _ _) (ea _ _ _)).frame (fun b hd=>Below.heap_alloc _ _ _ (S.dead b hd)) (fun _ h=>h) (fun _ _ h=>h),Us.upd⟩
 have NA:fX vo.op (cE env) g ⟨vo.site,n⟩=some (v,g')->(∀IH,AH P hs a o IH D ι ⟨vo.site,n⟩ v g'->IH=w->o.wp P a w K Q):=by
  intro _ IH hE he
  subst he
  obtain⟨u,w',ι',gS,T,S',hR,hι⟩:=hE
  have GF:Ky P hs D ι IH U vo.site n a o.dst v g' (a.put o.dst u) w':=⟨u,D,ι',rfl,T,S',hR,fun id hid=>by
   by_cases he:id=⟨vo.site,n⟩
   ·subst he;exact .inr ⟨rfl,.inr rfl⟩
   ·rw[hι id he]at hid
    exact(Us.more (U':=fun x=>U x∨x=vo.site) fun _ h=>Or.inl h) id hid⟩
  unfold Oper.wp
  rcases gS with gS|⟨gS,rfl⟩
  ·rw[gS];exact hK _ _ GF
  ·rw[gS];exact hK _ _ GF
 unfold VS at hv
 split at hv
 ·rename_i f args dN
  rw[dN]at hc
  obtain⟨c,ho,j4,C8,mM⟩:=zO hc
  refine y6 f _ (c.args.map a.eval) hv (nr E mM) ?_
  simp only[execOp,ho,resolve,j4,Deferred.ofValue,Act.eval,Sem.run_bind,Sem.run_pure,Result.andThen_ok,invoke,Array.empty_append,Array.append_empty]
  exact jd C8
 ·rename_i x args dN
  obtain⟨f,l,hx,hP⟩:=hv
  rw[dN]at hc
  obtain⟨c,t,ho,j4,rfl,mM⟩:=rC hc
  obtain⟨first,cD,he,C8,hL⟩:=tz (v:=a.eval (.tmp t)) hx (E t) (nr E mM)
  refine y6 f _ (first++c.args.map a.eval++cD) hP hL ?_
  simp only[execOp,ho,resolve,j4,he,Deferred.ofValue,Sem.run_bind,Sem.run_pure,Result.andThen_ok,invoke]
  exact jd C8
 ·rename_i m x y dN
  have kf:=hc
  rw[dN]at kf
  obtain⟨t,x',y',ho,h1,h2,h3⟩:=EL kf
  have mZ:=hv
  rw[dN]at mZ
  simp only[fX,Option.map_eq_some_iff,Prod.mk.injEq]at mZ
  obtain⟨g1,yH,rfl,rfl⟩:=mZ
  exact NA hv w (I4 S E ho h1 h2 h3 yH) rfl
 ·rename_i m x y dN
  have kf:=hc
  rw[dN]at kf
  obtain⟨t,e,m',z,i,x',y',rfl,ho,h1,h2,h3,h4,h5,h6,h7⟩:=BR kf
  have mZ:=hv
  rw[dN]at mZ
  simp only[fX,Option.bind_eq_some_iff]at mZ
  obtain⟨ys,Dm,mZ⟩:=mZ
  exact NA hv w (Gr S E hf ho h1 h2 h3 h4 h5 h6 h7 Dm mZ) rfl
 ·rename_i m x y dN
  have kf:=hc
  rw[dN]at kf
  obtain⟨t,t2,e,m',x',y',rfl,ho,h1,h2,h3,h4⟩:=G7 kf
  have mZ:=hv
  rw[dN]at mZ
  simp only[fX,Option.bind_eq_some_iff]at mZ
  obtain⟨ys,Dm,mZ⟩:=mZ
  exact NA hv w (LF S E ho h1 h2 h3 h4 Dm mZ) rfl
 ·rename_i z x dN
  have kf:=hc
  rw[dN]at kf
  obtain⟨t,e,m',x',ho,h1,h2,h3,h4⟩:=EK kf
  have mZ:=hv
  rw[dN]at mZ
  simp only[fX,Option.map_eq_some_iff,Prod.mk.injEq]at mZ
  obtain⟨g1,yH,rfl,rfl⟩:=mZ
  exact NA hv w (I3 S E ho h1 h2 h3 h4 yH) rfl
 ·rename_i q xs dN
  have kf:=hc
  rw[dN]at kf
  have mZ:=hv
  rw[dN]at mZ
  simp only[fX,Option.map_eq_some_iff,Prod.mk.injEq]at mZ
  obtain⟨g1,yH,rfl,rfl⟩:=mZ
  rcases MB kf with⟨t,x,k,y,m,z,x',k',y',ho,h1,h2,h3,h4,rfl,rfl⟩|⟨t,t',x,k,m,z,x',k',ho,h1,h2,h3,rfl,rfl⟩
  ·exact NA hv w (LH S E ho h1 h2 h3 h4 yH) rfl
  ·exact NA hv w (LG S E ho h1 h2 h3 yH) rfl
 ·obtain⟨mr,hq,hg⟩:=hv
  exact quiet mr hq hg
end
end Go.Proofs.YtihgaadadaekmaaGreat.V

namespace Go.Proofs.YtihgaadadaekmaaGreat.V
open Go.RowKit
variable {P:Program} {w w':World} {D D' D2:Nat->Prop} {ι ι' ι2:Names}
section
variable {g:Rows} {hs:Nat} {env:Env} {a:Act} {o:Oper} {id:Id} {v:AV}
theorem n8 {ops:Array Oper} {nt site0 j:Nat} {draw mk:Bool} {bs:Array Nat} {hidden:List (Nat×Bool)} {vo:bj} (h:lx P ops nt site0 draw mk bs hidden j o=some vo):
  pC P o.op=some vo.op/\vo.dst=o.dst/\vo.site=site0+j/\(∀d,o.dst=some d->d<nt)/\(match o.guard with
   |none=>vo.guard=none
   |some (i,b)=>∃t,(ops[i]?).bind (·.dst)=some t/\vo.guard=some (t,b)):=by
 unfold lx at h
 simp only[Option.bind_eq_bind,Option.bind_eq_some_iff]at h
 obtain⟨v,hv,gd,hg,h⟩:=h
 split at h
 ·rename_i hd
  simp only[Option.pure_def,Option.some.injEq]at h
  subst h
  refine⟨hv,rfl,rfl,fun d Qh=>?_,?_⟩
  ·rw[Qh]at hd;simpa using hd
  ·unfold AU at hg
   cases vp:o.guard with
   |none=>rw[vp]at hg;simp at hg;exact hg.symm
   |some p=>
    obtain⟨i,b⟩:=p
    rw[vp]at hg
    dsimp only at hg ⊢
    split at hg
    ·rename_i t ht
     simp at hg;exact⟨t,ht,hg.symm⟩
    ·simp at hg
 ·simp at h
theorem rP {ops:Array Oper} {vo:bj} (E:bI P w D ι env a) (hg:match o.guard with
   |none=>vo.guard=none
   |some (i,b)=>∃t,(ops[i]?).bind (·.dst)=some t/\vo.guard=some (t,b)):aM vo.guard env=Region.wanted o (yielded ops a.tmps):=by
 unfold Region.wanted
 cases vp:o.guard with
 |none=>rw[vp]at hg;simp only at hg;rw[hg];rfl
 |some p=>
  obtain⟨i,b⟩:=p
  rw[vp]at hg
  obtain⟨t,ht,hv⟩:=hg
  rw[hv]
  simp only[aM,yielded,ht,Option.bind_some]
  have hr:=E t
  by_cases dR:t<a.tmps.size
  ·have dp:a.tmps[t]? =some a.tmps[t]:=Array.getElem?_eq_getElem dR
   have hd:a.tmps.getD t undef=a.tmps[t]:=by simp[dR]
   rw[hd]at hr
   rw[dp]
   generalize a.tmps[t]=u at hr
   cases he:env t with
   |bool c=>rw[he]at hr;rw[eS hr];simp
   |_=>
    rw[he]at hr
    have:∀c,u≠.bool c:=by
     intro c hu
     subst hu
     cases hr with
     |eK _ _ h=>cases h
    cases u<;>simp_all
  ·have dp:a.tmps[t]? =none:=Array.getElem?_eq_none (Nat.le_of_not_lt dR)
   have hd:a.tmps.getD t undef=undef:=by simp[dp]
   rw[hd]at hr
   rw[dp]
   cases he:env t with
   |bool c=>rw[he]at hr;have:=eS hr;simp[undef]at this
   |_=>simp
theorem l6 {dst:Option Nat} {nt:Nat} {u:Value} (E:bI P w D ι env a) (hr:cG P w D ι v u) (hd:∀d,dst=some d->d<nt) (hs:a.tmps.size=nt):bI P w D ι (upd env dst v) (a.put dst u):=by
 intro t
 cases dst with
 |none=>exact E t
 |some d=>
  have dR:d<a.tmps.size:=by rw[hs];exact hd d rfl
  simp only[upd,Act.put]
  by_cases ht:t=d
  ·subst ht
   simp[dR];exact hr
  ·rw[if_neg ht]
   have:(a.tmps.setIfInBounds d u).getD t undef=a.tmps.getD t undef:=by
    simp only[Array.getD_eq_getD_getElem?]
    rw[Array.getElem?_setIfInBounds_ne (fun e=>ht e.symm)]
   rw[this];exact E t
theorem nB {hs:Nat} (E:bI P w D ι env a) (T:Step hs D ι w D' ι' w'):bI P w' D' ι' env a:=fun t=>T.rep (E t)
theorem kq (a:Act) (dst:Option Tmp) (u:Value):(a.put dst u).tmps.size=a.tmps.size:=by cases dst<;>simp[Act.put]
theorem put_defers (a:Act) (dst:Option Tmp) (u:Value):(a.put dst u).defers=a.defers:=by cases dst<;>rfl
theorem xb {draw:Bool} {vo:bj} {σ:aw} {next:AV->aw->Prop} {U:Nat->Prop} {Q:Exit->Act->World->Prop} {K:Act->World->Prop} (hc:pC P o.op=some vo.op) (hv:fI (Sound P) draw vo env σ next) (S:fW P hs D ι σ.get w) (Us:Used ι σ.next U) (hU:¬U vo.site) (E:bI P w D ι env a)
  (hK:∀v σ' u D' ι' w',next v σ'->Step hs D ι w D' ι' w'->fW P hs D' ι' σ'.get w'->cG P w' D' ι' v u->Used ι' σ'.next (fun s=>U s∨s=vo.site)->σ.next<=σ'.next->K (a.put o.dst u) w'):o.wp P a w K Q:=by
 have close:∀v g',VS (Sound P) σ.next vo env σ.get v g'->next v ⟨g',σ.next⟩->o.wp P a w K Q:=fun v g' h1 h2=>
  yT hc h1 S Us hU E fun a' w' ⟨u,D',ι',ha,T,S',hR,U'⟩=>by subst ha;exact hK v ⟨g',σ.next⟩ u D' ι' w' h2 T S' hR U' (Nat.le_refl _)
 have Hx:∀(f:Nat) (args:List AV) (vs:Array Value),Sound P f args ⟨σ.get,σ.next+1⟩ next->e7 P w D ι args vs->(execOp a.eval o).run P w=.ok (.enter f vs) w->o.wp P a w K Q:=by
  intro f args vs h hA gS
  unfold Oper.wp
  rw[gS]
  refine(h hs D ι w vs S Us.next hA).mono ?_
  rintro e w' ⟨r,g',n',D',ι',u,rfl,hn,T,S',U',hle,hR⟩
  exact hK r ⟨g',n'⟩ u D' ι' w' hn T S' hR (U'.more fun _ h=>h.elim) (Nat.le_trans (Nat.le_succ _) hle)
 unfold fI at hv
 split at hv
 ·rename_i f args dN
  rcases hv with⟨r,hP,hn⟩|⟨_,hX⟩|⟨KW,sz,rows,hM,hn⟩
  ·exact close r σ.get (by unfold VS;rw[dN];exact .inl ⟨hP,rfl⟩) hn
  rotate_left
  ·exact close _ _ (by unfold VS;rw[dN];exact .inr ⟨KW,sz,rows,hM,rfl,rfl⟩) hn
  ·have kf:=hc
   rw[dN]at kf
   obtain⟨c,ho,j4,C8,mM⟩:=zO kf
   refine Hx f _ (c.args.map a.eval) hX (nr E mM) ?_
   simp only[execOp,ho,resolve,j4,Deferred.ofValue,Act.eval,Sem.run_bind,Sem.run_pure,Result.andThen_ok,invoke,Array.empty_append,Array.append_empty]
   exact jd C8
 ·rename_i x args dN
  split at hv
  ·rename_i f cD hx
   have u3:tu (cE env x) (args.map (cE env))=some (f,args.map (cE env)++cD):=by rw[hx];rfl
   rcases hv with⟨r,hP,hn⟩|⟨_,hX⟩|⟨KW,sz,rows,hM,hn⟩
   ·exact close r σ.get (by unfold VS;rw[dN];exact⟨f,_,u3,.inl ⟨hP,rfl⟩⟩) hn
   rotate_left
   ·exact close _ _ (by unfold VS;rw[dN];exact⟨f,_,u3,.inr ⟨KW,sz,rows,hM,rfl,rfl⟩⟩) hn
   ·have kf:=hc
    rw[dN]at kf
    obtain⟨c,t,ho,j4,rfl,mM⟩:=rC kf
    obtain⟨first,us,he,C8,hL⟩:=tz (v:=a.eval (.tmp t)) u3 (E t) (nr E mM)
    refine Hx f _ (first++c.args.map a.eval++us) hX hL ?_
    simp only[execOp,ho,resolve,j4,he,Deferred.ofValue,Sem.run_bind,Sem.run_pure,Result.andThen_ok,invoke]
    exact jd C8
  ·rename_i f cD hx
   have u3:tu (cE env x) (args.map (cE env))=some (f,cD++args.map (cE env)):=by rw[hx];rfl
   rcases hv with⟨r,hP,hn⟩|⟨_,hX⟩|⟨KW,sz,rows,hM,hn⟩
   ·exact close r σ.get (by unfold VS;rw[dN];exact⟨f,_,u3,.inl ⟨hP,rfl⟩⟩) hn
   rotate_left
   ·exact close _ _ (by unfold VS;rw[dN];exact⟨f,_,u3,.inr ⟨KW,sz,rows,hM,rfl,rfl⟩⟩) hn
   ·have kf:=hc
    rw[dN]at kf
    obtain⟨c,t,ho,j4,rfl,mM⟩:=rC kf
    obtain⟨first,us,he,C8,hL⟩:=tz (v:=a.eval (.tmp t)) u3 (E t) (nr E mM)
    refine Hx f _ (first++c.args.map a.eval++us) hX hL ?_
    simp only[execOp,ho,resolve,j4,he,Deferred.ofValue,Sem.run_bind,Sem.run_pure,Result.andThen_ok,invoke]
    exact jd C8
  ·exact hv.elim
 ·rename_i m x y dN
  split at hv
  ·rename_i v' g' he
   exact close v' g' (by unfold VS;rw[dN];rw[dN]at he;exact he) hv
  ·exact hv.elim
 ·rename_i m x y dN
  split at hv
  ·rename_i v' g' he
   exact close v' g' (by unfold VS;rw[dN];rw[dN]at he;exact he) hv
  ·exact hv.elim
 ·rename_i m x y dN
  split at hv
  ·rename_i v' g' he
   exact close v' g' (by unfold VS;rw[dN];rw[dN]at he;exact he) hv
  ·exact hv.elim
 ·rename_i m x dN
  split at hv
  ·rename_i v' g' he
   exact close v' g' (by unfold VS;rw[dN];rw[dN]at he;exact he) hv
  ·exact hv.elim
 ·rename_i m x dN
  split at hv
  ·rename_i v' g' he
   exact close v' g' (by unfold VS;rw[dN];rw[dN]at he;exact he) hv
  ·exact hv.elim
 ·rename_i n1 n2 n3 n4 n5 n6 n7
  split at hv
  ·rename_i v' r hq
   refine close v' (bS σ.get ⟨vo.site,σ.next⟩ r) ?_ hv
   unfold VS
   split
   ·rename_i h;exact(n1 _ _ h).elim
   ·rename_i h;exact(n2 _ _ h).elim
   ·rename_i h;exact(n3 _ _ _ h).elim
   ·rename_i h;exact(n4 _ _ _ h).elim
   ·rename_i h;exact(n5 _ _ _ h).elim
   ·rename_i h;exact(n6 _ _ h).elim
   ·rename_i h;exact(n7 _ _ h).elim
   ·exact⟨some r,hq,rfl⟩
  ·rename_i v' hq
   refine close v' σ.get ?_ hv
   unfold VS
   split
   ·rename_i h;exact(n1 _ _ h).elim
   ·rename_i h;exact(n2 _ _ h).elim
   ·rename_i h;exact(n3 _ _ _ h).elim
   ·rename_i h;exact(n4 _ _ _ h).elim
   ·rename_i h;exact(n5 _ _ _ h).elim
   ·rename_i h;exact(n6 _ _ h).elim
   ·rename_i h;exact(n7 _ _ h).elim
   ·exact⟨none,hq,rfl⟩
  ·exact hv.elim
structure St (P:Program) (hs nt:Nat) (D:Nat->Prop) (ι:Names) (env:Env) (σ:aw) (a:Act) (w:World):Prop where
 IG:fW P hs D ι σ.get w
 used:Used ι σ.next (fun _=>False)
 env:bI P w D ι env a
 size:a.tmps.size=nt
theorem Ce (rest:List Oper) {ops:Array Oper} {nt site0:Nat} {draw mk:Bool} {bs:Array Nat} {hidden:List (Nat×Bool)} {K:Env->aw->Prop} {Q:Exit->Act->World->Prop}:∀(l:List Oper) (vl:List bj) (j:Nat) (env:Env) (σ:aw) (a:Act) (w:World) (D:Nat->Prop) (ι:Names) (U:Nat->Prop),
  allM (lx P ops nt site0 draw mk bs hidden) l j=some vl->wpOps (Sound P) draw vl K env σ->fW P hs D ι σ.get w->Used ι σ.next U->(∀s,U s->s<site0+j)->bI P w D ι env a->a.tmps.size=nt->
  (∀gZ σ' a' w' D' ι',K gZ σ'->Step hs D ι w D' ι' w'->St P hs nt D' ι' gZ σ' a' w'->a'.defers=a.defers->σ.next<=σ'.next->wpList P ops Q rest a' w')->wpList P ops Q (l++rest) a w:=by
 intro l
 induction l with
 |nil=>
  intro vl j env σ a w D ι U h hv S Us _ E eY hQ
  simp[allM]at h;subst h
  exact hQ env ⟨σ.get,σ.next+1⟩ a w D ι hv (Step.refl _ _ _ _) ⟨S,Us.next,E,eY⟩ rfl (Nat.le_succ _)
 |cons o l ih=>
  intro vl j env σ a w D ι U h hv S Us hU E eY hQ
  simp only[allM,Option.bind_eq_bind,Option.bind_eq_some_iff,Option.pure_def,Option.some.injEq]at h
  obtain⟨vo,oF,rO,qR,rfl⟩:=h
  obtain⟨hc,hd,zJ,vn,hg⟩:=n8 oF
  have hw:=rP (ops:=ops) (vo:=vo) E hg
  unfold wpOps at hv
  show wpList P ops Q (o::(l++rest)) a w
  unfold wpList
  rw[<-hw]
  split at hv
  ·rename_i EE
   rw[if_pos EE]
   refine .inl (xb hc hv S Us (fun h=>by have:=hU _ h;omega) E fun v σ' u D' ι' w' hn T S' hR U' hle=>?_)
   refine ih rO (j+1) (upd env vo.dst v) σ' (a.put o.dst u) w' D' ι' _ qR hn S' U' (fun s zG=>by
    rcases zG with h|h
    ·have:=hU _ h;omega
    ·omega) (by rw[hd];exact l6 (nB E T) hR vn eY) (by rw[kq];exact eY) fun gZ σ2 a' w2 D2 ι2 hk T2 N6 Bw l9=>hQ gZ σ2 a' w2 D2 ι2 hk (T.trans T2) N6 (Bw.trans (put_defers _ _ _)) (Nat.le_trans hle l9)
  ·rename_i EE
   rw[if_neg EE]
   refine ih rO (j+1) (upd env vo.dst .undef) σ (a.put o.dst undef) w D ι U qR hv S Us (fun s zG=>by have:=hU _ zG;omega) (by rw[hd];exact l6 E cG.undef vn eY) (by rw[kq];exact eY) fun gZ σ2 a' w2 D2 ι2 hk T2 N6 Bw l9=>hQ gZ σ2 a' w2 D2 ι2 hk T2 N6 (Bw.trans (put_defers _ _ _)) l9
theorem Fh {ops:Array Oper} {nt site0:Nat} {draw mk:Bool} {bs:Array Nat} {hidden:List (Nat×Bool)} {K:Env->aw->Prop} {Q:Exit->Act->World->Prop}:∀(l:List Oper) (vl:List bj) (j:Nat) (env:Env) (σ:aw) (a:Act) (w:World) (D:Nat->Prop) (ι:Names) (U:Nat->Prop),
  allM (lx P ops nt site0 draw mk bs hidden) l j=some vl->wpOps (Sound P) draw vl K env σ->fW P hs D ι σ.get w->Used ι σ.next U->(∀s,U s->s<site0+j)->bI P w D ι env a->a.tmps.size=nt->
  (∀gZ σ' a' w' D' ι',K gZ σ'->Step hs D ι w D' ι' w'->St P hs nt D' ι' gZ σ' a' w'->a'.defers=a.defers->σ.next<=σ'.next->Q .normal a' w')->wpList P ops Q l a w:=fun l vl j env σ a w D ι U h hv S Us hU E eY hQ=>by
 have:=Ce [] l vl j env σ a w D ι U h hv S Us hU E eY hQ
 rwa [List.append_nil]at this
end
end Go.Proofs.YtihgaadadaekmaaGreat.V

namespace Go.Proofs.YtihgaadadaekmaaGreat.V
open Go.RowKit
variable {P:Program} {w w':World} {D D' D2:Nat->Prop} {ι ι' ι2:Names}
section
variable {hs:Nat} {X:fj}
theorem aZ {env iy:Env} {x:O} (h:∀t∈gm x,env t=iy t):cE env x=cE iy x:=by
 cases x with
 |t n=>exact h n (by simp[gm])
 |_=>rfl
theorem map_congr {env iy:Env} {l:List O} (h:∀t∈l.flatMap gm,env t=iy t):l.map (cE env)=l.map (cE iy):=
 List.map_congr_left fun x hx=>aZ fun t ht=>h t (List.mem_flatMap.2 ⟨x,hx,ht⟩)
theorem om {env iy:Env} {x:Option O} (h:∀t∈uq x,env t=iy t):x.map (cE env)=x.map (cE iy):=by
 cases x with
 |none=>rfl
 |some y=>simp only[Option.map_some];rw[aZ h]
theorem rH {env iy:Env} {o:fP} {g:Rows} {id:Id} (h:∀t∈o.fU,env t=iy t):eM o (cE env) g id=eM o (cE iy) g id:=by
 cases o<;>simp only[fP.fU,List.mem_append]at h<;>simp only[eM]
 case cj x=>rw[aZ h]
 case pick c a b=>rw[aZ (x:=c) fun t ht=>h t (.inl (.inl ht)),aZ (x:=a) fun t ht=>h t (.inl (.inr ht)),aZ (x:=b) fun t ht=>h t (.inr ht)]
 case box x=>rw[aZ h]
 case build z ps=>
  have:(ps.map fun(x:Nat×Nat×O)=>(x.1,x.2.1,cE env x.2.2))=ps.map fun(x:Nat×Nat×O)=>(x.1,x.2.1,cE iy x.2.2):=List.map_congr_left fun x hx=>by
   rw[aZ (x:=x.2.2) fun t ht=>h t (List.mem_flatMap.2 ⟨x,hx,ht⟩)]
  rw[this]
 case kd a b l=>rw[map_congr h]
 case load a n x=>rw[aZ h]
 case xp x=>rw[aZ h]
 case bin a b x y=>rw[aZ (x:=x) fun t ht=>h t (.inl ht),aZ (x:=y) fun t ht=>h t (.inr ht)]
 case sh a x y=>rw[aZ (x:=x) fun t ht=>h t (.inl ht),aZ (x:=y) fun t ht=>h t (.inr ht)]
 case IX a x y=>rw[aZ (x:=x) fun t ht=>h t (.inl ht),aZ (x:=y) fun t ht=>h t (.inr ht)]
 case LI a b x y=>rw[aZ (x:=x) fun t ht=>h t (.inl ht),aZ (x:=y) fun t ht=>h t (.inr ht)]
 case P4 a b x y=>rw[aZ (x:=x) fun t ht=>h t (.inl ht),aZ (x:=y) fun t ht=>h t (.inr ht)]
 case Om a b x=>rw[aZ h]
 case P5 a x=>rw[aZ h]
 case not x=>rw[aZ h]
 case neg x=>rw[aZ h]
 case conv k x=>rw[aZ h]
 case CU x=>rw[aZ h]
 case slice s x lo hi=>rw[aZ (x:=x) fun t ht=>h t (.inl (.inl ht)),om (x:=lo) fun t ht=>h t (.inl (.inr ht)),om (x:=hi) fun t ht=>h t (.inr ht)]
 case yl x lo hi=>rw[aZ (x:=x) fun t ht=>h t (.inl (.inl ht)),om (x:=lo) fun t ht=>h t (.inl (.inr ht)),om (x:=hi) fun t ht=>h t (.inr ht)]
 case ee k x=>rw[aZ h]
 case field a b c x=>rw[aZ h]
 case dy s x y=>rw[aZ (x:=x) fun t ht=>h t (.inl ht),aZ (x:=y) fun t ht=>h t (.inr ht)]
 case Jz n s x y=>rw[aZ (x:=x) fun t ht=>h t (.inl ht),aZ (x:=y) fun t ht=>h t (.inr ht)]
 case JB x y=>rw[aZ (x:=x) fun t ht=>h t (.inl ht),aZ (x:=y) fun t ht=>h t (.inr ht)]
 case fK a b c x y=>rw[aZ (x:=x) fun t ht=>h t (.inl ht),aZ (x:=y) fun t ht=>h t (.inr ht)]
 case extract i x=>rw[aZ h]
 case len x=>rw[aZ h]
 case JK x=>rw[aZ h]
 case Ho x=>rw[aZ h]
 case He x=>rw[aZ h]
 case JU f l=>rw[map_congr h]
 case JV f l=>rw[map_congr h]
 case mq f l=>rw[map_congr h]
 case jz z x y=>rw[aZ (x:=x) fun t ht=>h t (.inl ht),aZ (x:=y) fun t ht=>h t (.inr ht)]
theorem gq {env iy:Env} {o:fP} {g:Rows} {id:Id} (h:∀t∈o.fU,env t=iy t):fX o (cE env) g id=fX o (cE iy) g id:=by
 cases o<;>simp only[fP.fU,List.mem_append]at h<;>simp only[fX]
 case clear z x=>rw[aZ h]
 case mw f l=>rw[map_congr h]
 all_goals rename_i a x y
 all_goals rw[aZ (x:=x) fun t ht=>h t (.inl ht),aZ (x:=y) fun t ht=>h t (.inr ht)]
theorem F8 {n:Nat} {vo:bj} {env iy:Env} {g g':Rows} {v:AV} (h:∀t∈vo.op.fU,env t=iy t) (hv:VS X n vo env g v g'):VS X n vo iy g v g':=by
 unfold VS at hv ⊢
 split at hv
 ·rename_i f args dN
  rw[dN]at h
  simp only[fP.fU]at h
  rw[<-map_congr h];exact hv
 ·rename_i x args dN
  rw[dN]at h
  simp only[fP.fU,List.mem_append]at h
  rw[<-map_congr (l:=args) fun t ht=>h t (.inr ht),<-aZ (x:=x) fun t ht=>h t (.inl ht)];exact hv
 ·rw[<-gq h];exact hv
 ·rw[<-gq h];exact hv
 ·rw[<-gq h];exact hv
 ·rw[<-gq h];exact hv
 ·rw[<-gq h];exact hv
 ·rw[<-rH h];exact hv
theorem B8 {q:MQ} {vs:List AV} {g:Rows} {id:Id} {v:AV} {r:Row} (h:bD q vs g id=some (v,some r)):∃m,q=.new m:=by
 unfold bD at h
 split at h
 ·exact⟨_,rfl⟩
 ·simp[Option.bind_eq_some_iff]at h
 ·simp at h
 ·cases h
theorem uu {o:fP} {ρ:O->AV} {g:Rows} {id:Id} {v:AV} {r:Row} (h:eM o ρ g id=some (v,some r)):po o=true:=by
 cases o<;>simp only[eM]at h<;>(try rfl)<;>(try simp at h)
 case mq q xs=>obtain⟨m,rfl⟩:=B8 h;rfl
 all_goals (try(split at h<;>simp at h))
theorem uv {o:fP} {ρ:O->AV} {g g2:Rows} {id id2:Id} (h:o.cls=.pure):eM o ρ g id=eM o ρ g2 id2:=by
 cases o<;>(try simp[fP.cls]at h)<;>(try simp only[eM])
 case mq q xs=>cases q<;>simp[fP.cls]at h
theorem tq {n:Nat} {vo:bj} {env:Env} {g g':Rows} {v:AV} (hw:vo.op.cls≠.write) (hv:VS X n vo env g v g'):∃mr,g'=iM g ⟨vo.site,n⟩ mr/\(mr≠none->vo.makes=true)/\∀g0,fV vo.hid n g0=fV vo.hid n g->VS X n vo env g0 v (iM g0 ⟨vo.site,n⟩ mr):=by
 unfold VS at hv
 split at hv
 ·rename_i f args dN
  rcases hv with⟨h1,rfl⟩|⟨hs,sz,rows,hM,rfl,rfl⟩
  ·refine⟨none,rfl,fun h=>(h rfl).elim,fun g0 h0=>?_⟩
   unfold VS;rw[dN];simp only;unfold tx;rw[h0];exact .inl ⟨h1,rfl⟩
  ·refine⟨some _,rfl,fun _=>by unfold bj.makes;rw[dN,hs];simp[fP.k8],fun g0 h0=>?_⟩
   unfold VS;rw[dN];simp only;unfold tx;rw[h0];exact .inr ⟨hs,sz,rows,hM,rfl,rfl⟩
 ·rename_i x args dN
  obtain⟨f,cD,hx,hv⟩:=hv
  rcases hv with⟨h1,rfl⟩|⟨hs,sz,rows,hM,rfl,rfl⟩
  ·refine⟨none,rfl,fun h=>(h rfl).elim,fun g0 h0=>?_⟩
   unfold VS;rw[dN];simp only;unfold tx;rw[h0];exact⟨f,cD,hx,.inl ⟨h1,rfl⟩⟩
  ·refine⟨some _,rfl,fun _=>by unfold bj.makes;rw[dN,hs];simp[fP.k8],fun g0 h0=>?_⟩
   unfold VS;rw[dN];simp only;unfold tx;rw[h0];exact⟨f,cD,hx,.inr ⟨hs,sz,rows,hM,rfl,rfl⟩⟩
 ·rename_i dN;rw[dN]at hw;exact(hw rfl).elim
 ·rename_i dN;rw[dN]at hw;exact(hw rfl).elim
 ·rename_i dN;rw[dN]at hw;exact(hw rfl).elim
 ·rename_i dN;rw[dN]at hw;exact(hw rfl).elim
 ·rename_i dN;rw[dN]at hw;exact(hw rfl).elim
 ·rename_i n1 n2 n3 n4 n5 n6 n7
  obtain⟨mr,hq,rfl⟩:=hv
  refine⟨mr,rfl,fun h=>?_,fun g0 h0=>?_⟩
  ·cases mr with
   |none=>exact(h rfl).elim
   |some r=>unfold bj.makes;rw[uu hq];rfl
  ·unfold VS
   split
   ·rename_i hh;exact(n1 _ _ hh).elim
   ·rename_i hh;exact(n2 _ _ hh).elim
   ·rename_i hh;exact(n3 _ _ _ hh).elim
   ·rename_i hh;exact(n4 _ _ _ hh).elim
   ·rename_i hh;exact(n5 _ _ _ hh).elim
   ·rename_i hh;exact(n6 _ _ hh).elim
   ·rename_i hh;exact(n7 _ _ hh).elim
   ·rw[h0];exact⟨mr,hq,rfl⟩
theorem xg {n:Nat} {vo:bj} {env:Env} {g g':Rows} {v:AV} (hp:vo.op.cls=.pure) (hv:VS X n vo env g v g'):g'=g/\∀g0,VS X n vo env g0 v g0:=by
 unfold VS at hv
 split at hv
 ·rename_i dN;rw[dN]at hp;simp[fP.cls]at hp
 ·rename_i dN;rw[dN]at hp;simp[fP.cls]at hp
 ·rename_i dN;rw[dN]at hp;simp[fP.cls]at hp
 ·rename_i dN;rw[dN]at hp;simp[fP.cls]at hp
 ·rename_i dN;rw[dN]at hp;simp[fP.cls]at hp
 ·rename_i dN;rw[dN]at hp;simp[fP.cls]at hp
 ·rename_i dN;rw[dN]at hp;simp[fP.cls]at hp
 ·rename_i n1 n2 n3 n4 n5 n6 n7
  obtain⟨mr,hq,rfl⟩:=hv
  have RN:mr=none:=by
   cases mr with
   |none=>rfl
   |some r=>have:=uu hq;simp[po,hp]at this
  subst RN
  refine⟨rfl,fun g0=>?_⟩
  unfold VS
  split
  ·rename_i hh;exact(n1 _ _ hh).elim
  ·rename_i hh;exact(n2 _ _ hh).elim
  ·rename_i hh;exact(n3 _ _ _ hh).elim
  ·rename_i hh;exact(n4 _ _ _ hh).elim
  ·rename_i hh;exact(n5 _ _ _ hh).elim
  ·rename_i hh;exact(n6 _ _ hh).elim
  ·rename_i hh;exact(n7 _ _ hh).elim
  ·exact⟨none,by rw[uv hp];exact hq,rfl⟩
def GS (X:fj) (n:Nat) (vo:bj) (env:Env) (g:Rows) (v:AV) (g':Rows):Prop:=
 if aM vo.guard env then VS X n vo env g v g' else v=.undef/\g'=g
theorem Aq {hid:List Nat} {g:Rows} {s n:Nat} {mr:Option Row} (h:mr≠none->hid.contains s=true):fV hid n (iM g ⟨s,n⟩ mr)=fV hid n g:=by
 cases mr with
 |none=>rfl
 |some r=>
  have hc:=h (by simp)
  cases hid with
  |nil=>simp at hc
  |cons a l=>
   funext i
   show(if (a::l).contains i.site=true/\i.bY=n then none else iM g ⟨s,n⟩ (some r) i)=if (a::l).contains i.site=true/\i.bY=n then none else g i
   by_cases hi:i=⟨s,n⟩
   ·subst hi;rw[if_pos ⟨hc,rfl⟩,if_pos ⟨hc,rfl⟩]
   ·simp only[iM,bS,if_neg hi]
theorem DU {g:Rows} {i j:Id} (h:i≠j) (m1 m2:Option Row):iM (iM g i m1) j m2=iM (iM g j m2) i m1:=by
 cases m1<;>cases m2<;>simp only[iM]
 funext k
 simp only[bS]
 by_cases h1:k=i
 ·subst h1;rw[if_neg h,if_pos rfl];simp
 ·by_cases h2:k=j
  ·subst h2;simp[h1]
  ·simp[h1,h2]
theorem uR {env:Env} {d e:Option Nat} {v u:AV} (h:∀k,d=some k->e≠some k):upd (upd env d v) e u=upd (upd env e u) d v:=by
 cases d with
 |none=>rfl
 |some d=>
  cases e with
  |none=>rfl
  |some e=>
   have gU:d≠e:=fun he=>h d rfl (by rw[he])
   funext t
   simp only[upd]
   by_cases h1:t=d
   ·subst h1;rw[if_neg gU,if_pos rfl,if_pos rfl]
   ·by_cases h2:t=e
    ·subst h2;rw[if_pos rfl,if_neg h1,if_pos rfl]
    ·simp[h1,h2]
theorem lQ {env:Env} {d:Option Nat} {v:AV} {l:List Nat} (h:∀k,d=some k->k∉l):∀t∈l,upd env d v t=env t:=by
 intro t ht
 cases d with
 |none=>rfl
 |some d=>
  have:t≠d:=fun he=>h d rfl (he▸ht)
  simp[upd,this]
structure AI (x y:bj):Prop where
 xy:∀k,x.dst=some k->k∉y.fU
 yx:∀k,y.dst=some k->k∉x.fU
 dst:∀k,x.dst=some k->y.dst≠some k
 cls:clash x.op.cls y.op.cls=false
 hx:x.makes=true->y.hid.contains x.site=true
 hy:y.makes=true->x.hid.contains y.site=true
 site:x.site≠y.site
theorem AI.symm {x y:bj} (h:AI x y):AI y x:=
 ⟨h.yx,h.xy,fun k hk he=>h.dst k he hk,by have:=h.cls;revert this;cases x.op.cls<;>cases y.op.cls<;>simp[clash],h.hy,h.hx,fun e=>h.site e.symm⟩
theorem pc {x y:bj} (h:C4 x y=true):AI x y:=by
 unfold C4 at h
 simp only[Bool.and_eq_true,Bool.not_eq_true',Bool.or_eq_true,bne_iff_ne]at h
 obtain⟨⟨⟨⟨h1,h2⟩,h3⟩,h4⟩,h5⟩:=h
 unfold rN at h1
 simp only[Bool.and_eq_true]at h1
 obtain⟨a1,a2⟩:=h1
 refine⟨fun k hk=>?_,fun k hk=>?_,fun k hk=>?_,h2,fun hm=>?_,fun hm=>?_,h5⟩
 ·rw[hk]at a1;simp at a1;exact a1.1
 ·rw[hk]at a2;simpa using a2
 ·rw[hk]at a1;simp at a1;exact a1.2
 ·rcases h3 with h3|h3
  ·rw[hm]at h3;cases h3
  ·exact h3
 ·rcases h4 with h4|h4
  ·rw[hm]at h4;cases h4
  ·exact h4
theorem qD {vo:bj} {t:Nat} (h:t∈vo.op.fU):t∈vo.fU:=List.mem_append_left _ h
theorem mv {vo:bj} {env iy:Env} (h:∀t∈vo.fU,env t=iy t):aM vo.guard env=aM vo.guard iy:=by
 unfold aM
 cases hg:vo.guard with
 |none=>rfl
 |some p=>
  obtain⟨t,b⟩:=p
  have:env t=iy t:=h t (List.mem_append_right _ (by rw[hg];simp))
  simp only[this]
theorem tj {n:Nat} {vo:bj} {env iy:Env} {g g':Rows} {v:AV} (h:∀t∈vo.fU,env t=iy t) (hv:GS X n vo env g v g'):GS X n vo iy g v g':=by
 unfold GS at hv ⊢
 rw[<-mv h]
 split at hv
 ·rename_i hw;rw[if_pos hw];exact F8 (fun t ht=>h t (qD ht)) hv
 ·rename_i hw;rw[if_neg hw];exact hv
theorem CK {n:Nat} {x y:bj} {env:Env} {g g1 g2:Rows} {v v':AV} (F:AI x y) (h1:GS X n x env g v g1) (h2:GS X n y (upd env x.dst v) g1 v' g2):
  ∃I8,GS X n y env g v' I8/\GS X n x (upd env y.dst v') I8 v g2/\upd (upd env x.dst v) y.dst v'=upd (upd env y.dst v') x.dst v:=by
 have wG:=uR (env:=env) (v:=v) (u:=v') F.dst
 replace h2:GS X n y env g1 v' g2:=tj (lQ F.xy) h2
 have back:∀{I8},GS X n x env I8 v g2->GS X n x (upd env y.dst v') I8 v g2:=fun h=>tj (fun t ht=>(lQ F.yx t ht).symm) h
 unfold GS at h1 h2
 by_cases wx:aM x.guard env=true
 ·rw[if_pos wx]at h1
  by_cases wy:aM y.guard env=true
  ·rw[if_pos wy]at h2
   by_cases cx:x.op.cls=.write
   ·have cy:y.op.cls=.pure:=by
     have:=F.cls;rw[cx]at this
     cases hc:y.op.cls<;>simp[clash,hc]at this ⊢
    obtain⟨rfl,dt⟩:=xg cy h2
    exact⟨g,by unfold GS;rw[if_pos wy];exact dt g,back (by unfold GS;rw[if_pos wx];exact h1),wG⟩
   ·by_cases cy:y.op.cls=.write
    ·have cx':x.op.cls=.pure:=by
      have:=F.cls;rw[cy]at this
      cases hc:x.op.cls<;>simp[clash,hc]at this ⊢
     obtain⟨rfl,dt⟩:=xg cx' h1
     exact⟨g2,by unfold GS;rw[if_pos wy];exact h2,back (by unfold GS;rw[if_pos wx];exact dt g2),wG⟩
    ·obtain⟨mx,rfl,kx,QR⟩:=tq cx h1
     obtain⟨my,rfl,ky,Lq⟩:=tq cy h2
     have gU:(⟨x.site,n⟩:Id)≠⟨y.site,n⟩:=fun e=>F.site (by injection e)
     refine⟨iM g ⟨y.site,n⟩ my,?_,back ?_,wG⟩
     ·unfold GS;rw[if_pos wy]
      exact Lq g (Aq fun h=>F.hx (kx h)).symm
     ·unfold GS;rw[if_pos wx,DU gU]
      exact QR _ (Aq fun h=>F.hy (ky h))
  ·rw[if_neg wy]at h2
   obtain⟨rfl,rfl⟩:=h2
   exact⟨g,by unfold GS;rw[if_neg wy];exact⟨rfl,rfl⟩,back (by unfold GS;rw[if_pos wx];exact h1),wG⟩
 ·rw[if_neg wx]at h1
  obtain⟨rfl,rfl⟩:=h1
  exact⟨g2,h2,back (by unfold GS;rw[if_neg wx];exact⟨rfl,rfl⟩),wG⟩
end
end Go.Proofs.YtihgaadadaekmaaGreat.V

namespace Go.Proofs.YtihgaadadaekmaaGreat.V
open Go.RowKit
variable {P:Program} {w w':World} {D D' D2:Nat->Prop} {ι ι' ι2:Names}
section
variable {hs:Nat} {X:fj}
def iN (acc:Array Nat) (o:Oper):Nat:=o.after.foldl (fun s e=>if Region.binds .any e then s|||2 ^ e.on|||acc.getD e.on 0 else s) 0
theorem IT (ops:Array Oper):jf ops=ops.foldl (fun acc o=>acc.push (iN acc o)) #[]:=rfl
theorem y4 {acc:Array Nat} {o:Oper} {i:Nat} (h:(iN acc o).testBit i=true):∃e∈o.after,Region.binds .any e=true/\(e.on=i∨(acc.getD e.on 0).testBit i=true):=by
 unfold iN at h
 rw[<-Array.foldl_toList]at h
 have gen:∀(l:List Edge) (s:Nat),(l.foldl (fun s e=>if Region.binds .any e then s|||2 ^ e.on|||acc.getD e.on 0 else s) s).testBit i=true->s.testBit i=true∨∃e∈l,Region.binds .any e=true/\(e.on=i∨(acc.getD e.on 0).testBit i=true):=by
  intro l
  induction l with
  |nil=>intro s h;exact .inl h
  |cons e r ih=>
   intro s h
   rw[List.foldl_cons]at h
   rcases ih _ h with h|⟨e',Jj,h'⟩
   ·by_cases hb:Region.binds .any e=true
    ·rw[if_pos hb]at h
     simp only[Nat.testBit_or,Bool.or_eq_true]at h
     rcases h with(h|h)|h
     ·exact .inl h
     ·refine .inr ⟨e,by simp,hb,.inl ?_⟩
      rw[Nat.testBit_two_pow]at h
      simpa using h
     ·exact .inr ⟨e,by simp,hb,.inr h⟩
    ·rw[if_neg hb]at h;exact .inl h
   ·exact .inr ⟨e',List.mem_cons_of_mem _ Jj,h'⟩
 rcases gen _ _ h with h|⟨e,he,h⟩
 ·simp at h
 ·exact⟨e,Array.mem_toList_iff.1 he,h⟩
theorem Gf {ops:Array Oper} {j i:Nat} (h:((jf ops).getD j 0).testBit i=true):∃o,ops[j]? =some o/\∃e∈o.after,Region.binds .any e=true/\(e.on=i∨((jf ops).getD e.on 0).testBit i=true):=by
 have key:∀(l pre:List Oper) (acc:Array Nat),acc.size=pre.length->(∀j i,(acc.getD j 0).testBit i=true->∃o,pre[j]? =some o/\∃e∈o.after,Region.binds .any e=true/\(e.on=i∨(acc.getD e.on 0).testBit i=true))->
   ∀j i,((l.foldl (fun acc o=>acc.push (iN acc o)) acc).getD j 0).testBit i=true->∃o,(pre++l)[j]? =some o/\∃e∈o.after,Region.binds .any e=true/\(e.on=i∨((l.foldl (fun acc o=>acc.push (iN acc o)) acc).getD e.on 0).testBit i=true):=by
  intro l
  induction l with
  |nil=>intro pre acc _ h j i hb;simpa using h j i hb
  |cons o r ih=>
   intro pre acc eY h j i hb
   have z9:∀k,k<acc.size->(acc.push (iN acc o)).getD k 0=acc.getD k 0:=fun k hk=>by
    simp only[Array.getD_eq_getD_getElem?,Array.getElem?_push]
    rw[if_neg ab]
   have big:∀k,acc.size<=k->acc.getD k 0=0:=fun k hk=>by simp[Array.getElem?_eq_none hk]
   have lift:∀k i,(acc.getD k 0).testBit i=true->((acc.push (iN acc o)).getD k 0).testBit i=true:=fun k i hk=>by
    by_cases dR:k<acc.size
    ·rw[z9 k dR];exact hk
    ·rw[big k ab]at hk;simp at hk
   have:=ih (pre++[o]) (acc.push (iN acc o)) (by simp[eY]) (fun j i hb=>by
    by_cases dR:j<acc.size
    ·rw[z9 j dR]at hb
     obtain⟨o',BF,e,he,fB,h2⟩:=h j i hb
     refine⟨o',by rw[List.getElem?_append_left ab];exact BF,e,he,fB,?_⟩
     rcases h2 with h2|h2
     ·exact .inl h2
     ·exact .inr (lift _ _ h2)
    ·by_cases hj:j=acc.size
     ·subst hj
      have e0:(acc.push (iN acc o)).getD acc.size 0=iN acc o:=by simp
      rw[e0]at hb
      obtain⟨e,he,fB,h2⟩:=y4 hb
      refine⟨o,by rw[List.getElem?_append_right ab,eY];simp,e,he,fB,?_⟩
      rcases h2 with h2|h2
      ·exact .inl h2
      ·exact .inr (lift _ _ h2)
     ·have:(acc.push (iN acc o)).getD j 0=0:=by
       simp only[Array.getD_eq_getD_getElem?]
       rw[Array.getElem?_eq_none (by simp;omega)];rfl
      rw[this]at hb;simp at hb) j i (by simpa using hb)
   simpa using this
 rw[IT,<-Array.foldl_toList]at h ⊢
 have:=key ops.toList [] #[] rfl (fun j i h=>by simp at h) j i h
 simpa using this
def DC (ops:Array Oper) (listed:Array Bool):Prop:=∀k i,listed.getD k false=true->((jf ops).getD k 0).testBit i=true->listed.getD i false=true
theorem ku {ops:Array Oper} {listed:Array Bool} (h:DC ops listed) {j:Nat} (hj:j∈Region.ready .any ops listed):∀i,((jf ops).getD j 0).testBit i=true->listed.getD i false=true:=by
 intro i hb
 obtain⟨_,o,ho,dt⟩:=mem_ready.1 hj
 obtain⟨o',BF,e,he,fB,h2⟩:=Gf hb
 rw[ho]at BF;injection BF with BF;subst BF
 have hl:=dt e he fB
 rcases h2 with h2|h2
 ·rw[<-h2];exact hl
 ·exact h _ _ hl h2
theorem DC.list {ops:Array Oper} {listed:Array Bool} (h:DC ops listed) {j:Nat} (hj:j∈Region.ready .any ops listed):DC ops (listed.setIfInBounds j true):=by
 intro k i hk hb
 by_cases hkj:k=j
 ·subst hkj;exact getD_set_true (ku h hj i hb)
 ·rw[getD_set_ne false (fun e=>hkj e.symm)]at hk
  exact getD_set_true (h k i hk hb)
theorem iF {ops:Array Oper} {listed:Array Bool} {j:Nat} (hj:j∈Region.ready .any ops listed):listed.getD j false=false:=by
 have h0:=(mem_ready.1 hj).1
 rcases Nat.lt_or_ge j listed.size with h|h
 ·simp[h]at h0 ⊢;exact h0
 ·simp[Array.getElem?_eq_none h]at h0
def H6 (X:fj) (n:Nat) (ops:Array Oper) (vl:List bj) (K:Env->Rows->Prop):Nat->Array Bool->Env->Rows->Prop
 |0,listed,env,g=>Region.ready .any ops listed=[]/\K env g
 |f+1,listed,env,g=>(Region.ready .any ops listed=[]->K env g)/\∀i∈Region.ready .any ops listed,∃vo,vl[i]? =some vo/\∃v g',GS X n vo env g v g'/\H6 X n ops vl K f (listed.setIfInBounds i true) (upd env vo.dst v) g'
theorem zf {ops:Array Oper} {vl:List bj} (h:nA ops vl (jf ops)=true) {i j:Nat} {x y:bj} (hi:vl[i]? =some x) (hj:vl[j]? =some y) (Qo:i≠j) (h1:((jf ops).getD j 0).testBit i=false) (h2:((jf ops).getD i 0).testBit j=false):AI x y:=by
 unfold nA at h
 simp only[Bool.and_eq_true,List.all_eq_true]at h
 obtain⟨_,h⟩:=h
 have mem:∀(k:Nat) (z:bj),vl[k]? =some z->(z,k)∈vl.zipIdx:=fun k z hk=>by
  rw[List.mem_iff_getElem?]
  exact⟨k,by simp[List.getElem?_zipIdx,hk]⟩
 rcases Nat.lt_or_gt_of_ne Qo with dR|Jm
 ·have:=h _ (mem j y hj) _ (mem i x hi)
  simp only[dR,decide_true,Bool.not_true,Bool.false_or,h1]at this
  exact pc this
 ·have:=h _ (mem i x hi) _ (mem j y hj)
  simp only[Jm,decide_true,Bool.not_true,Bool.false_or,h2]at this
  exact(pc this).symm
theorem CH {n:Nat} {ops:Array Oper} {vl:List bj} {K:Env->Rows->Prop} (qa:nA ops vl (jf ops)=true) (hlen:vl.length=ops.size) {i:Nat} {vi:bj} (hi:vl[i]? =some vi) {v:AV}:∀(fuel:Nat) (listed:Array Bool) (env:Env) (g g1:Rows),
  DC ops listed->i∈Region.ready .any ops listed->GS X n vi env g v g1->H6 X n ops vl K fuel (listed.setIfInBounds i true) (upd env vi.dst v) g1->H6 X n ops vl K (fuel+1) listed env g:=by
 intro fuel
 induction fuel with
 |zero=>
  intro listed env g g1 _ hr hG H
  refine⟨fun h=>(by rw[h]at hr;cases hr),fun j hj=>?_⟩
  by_cases lR:j=i
  ·subst lR;exact⟨vi,hi,v,g1,hG,H⟩
  ·have:=ready_mono hj lR
   rw[H.1]at this;cases this
 |succ fuel ih=>
  intro listed env g g1 qN hr hG H
  refine⟨fun h=>(by rw[h]at hr;cases hr),fun j hj=>?_⟩
  by_cases lR:j=i
  ·subst lR;exact⟨vi,hi,v,g1,hG,H⟩
  ·obtain⟨vj,Jw,v',g2,hG2,H2⟩:=H.2 j (ready_mono hj lR)
   have b1:((jf ops).getD j 0).testBit i=false:=by
    cases hb:((jf ops).getD j 0).testBit i with
    |false=>rfl
    |true=>have:=ku qN hj i hb;rw[iF hr]at this;cases this
   have b2:((jf ops).getD i 0).testBit j=false:=by
    cases hb:((jf ops).getD i 0).testBit j with
    |false=>rfl
    |true=>have:=ku qN hr j hb;rw[iF hj]at this;cases this
   have F:=zf qa hi Jw (fun e=>lR e.symm) b1 b2
   obtain⟨I8,q1,q2,q3⟩:=CK F hG hG2
   refine⟨vj,Jw,v',I8,q1,ih _ _ _ g2 (qN.list hj) (ready_mono hr (fun e=>lR e.symm)) q2 ?_⟩
   rw[<-q3,Array.setIfInBounds_comm _ _ lR]
   exact H2
theorem Ll {n:Nat} {vo:bj} {env:Env} {g:Rows} {v:AV} {mr:Option Row} (h:eM vo.op (cE env) (fV vo.hid n g) ⟨vo.site,n⟩=some (v,mr)):VS X n vo env g v (iM g ⟨vo.site,n⟩ mr):=by
 unfold VS
 split
 ·rename_i dN;rw[dN]at h;simp[eM]at h
 ·rename_i dN;rw[dN]at h;simp[eM]at h
 ·rename_i dN;rw[dN]at h;simp[eM]at h
 ·rename_i dN;rw[dN]at h;simp[eM]at h
 ·rename_i dN;rw[dN]at h;simp[eM]at h
 ·rename_i dN;rw[dN]at h;simp[eM]at h
 ·rename_i dN;rw[dN]at h;simp[eM]at h
 ·exact⟨mr,h,rfl⟩
theorem F9 {n:Nat} {vo:bj} {env:Env} {g g':Rows} {v:AV} (h:fX vo.op (cE env) g ⟨vo.site,n⟩=some (v,g')):VS X n vo env g v g':=by
 unfold VS
 split
 ·rename_i dN;rw[dN]at h;simp[fX]at h
 ·rename_i dN;rw[dN]at h;simp[fX]at h
 ·exact h
 ·exact h
 ·exact h
 ·exact h
 ·exact h
 ·rename_i n1 n2 n3 n4 n5 n6 n7
  exfalso
  unfold fX at h
  split at h
  ·rename_i hh;exact n3 _ _ _ hh
  ·rename_i hh;exact n4 _ _ _ hh
  ·rename_i hh;exact n5 _ _ _ hh
  ·rename_i hh;exact n6 _ _ hh
  ·rename_i hh;exact n7 _ _ hh
  ·simp at h
theorem M7 {vo:bj} {env:Env} {σ:aw} {next:AV->aw->Prop} (hv:fI X true vo env σ next):∃v g',VS X σ.next vo env σ.get v g'/\next v ⟨g',σ.next⟩:=by
 unfold fI at hv
 split at hv
 ·rename_i f args dN
  rcases hv with⟨r,hP,hn⟩|⟨h,_⟩|⟨hs,sz,rows,hM,hn⟩
  ·exact⟨r,σ.get,by unfold VS;rw[dN];exact .inl ⟨hP,rfl⟩,hn⟩
  ·cases h
  ·exact⟨_,_,by unfold VS;rw[dN];exact .inr ⟨hs,sz,rows,hM,rfl,rfl⟩,hn⟩
 ·rename_i x args dN
  split at hv
  ·rename_i f cD hx
   have u3:tu (cE env x) (args.map (cE env))=some (f,args.map (cE env)++cD):=by rw[hx];rfl
   rcases hv with⟨r,hP,hn⟩|⟨h,_⟩|⟨hs,sz,rows,hM,hn⟩
   ·exact⟨r,σ.get,by unfold VS;rw[dN];exact⟨f,_,u3,.inl ⟨hP,rfl⟩⟩,hn⟩
   ·cases h
   ·exact⟨_,_,by unfold VS;rw[dN];exact⟨f,_,u3,.inr ⟨hs,sz,rows,hM,rfl,rfl⟩⟩,hn⟩
  ·rename_i f cD hx
   have u3:tu (cE env x) (args.map (cE env))=some (f,cD++args.map (cE env)):=by rw[hx];rfl
   rcases hv with⟨r,hP,hn⟩|⟨h,_⟩|⟨hs,sz,rows,hM,hn⟩
   ·exact⟨r,σ.get,by unfold VS;rw[dN];exact⟨f,_,u3,.inl ⟨hP,rfl⟩⟩,hn⟩
   ·cases h
   ·exact⟨_,_,by unfold VS;rw[dN];exact⟨f,_,u3,.inr ⟨hs,sz,rows,hM,rfl,rfl⟩⟩,hn⟩
  ·exact hv.elim
 ·split at hv
  ·rename_i v g h;exact⟨v,g,F9 h,hv⟩
  ·exact hv.elim
 ·split at hv
  ·rename_i v g h;exact⟨v,g,F9 h,hv⟩
  ·exact hv.elim
 ·split at hv
  ·rename_i v g h;exact⟨v,g,F9 h,hv⟩
  ·exact hv.elim
 ·split at hv
  ·rename_i v g h;exact⟨v,g,F9 h,hv⟩
  ·exact hv.elim
 ·split at hv
  ·rename_i v g h;exact⟨v,g,F9 h,hv⟩
  ·exact hv.elim
 ·split at hv
  ·rename_i v r h;exact⟨v,_,Ll h,hv⟩
  ·rename_i v h;exact⟨v,_,Ll h,hv⟩
  ·exact hv.elim
theorem uS {ops:Array Oper} {vl:List bj} {K:Env->aw->Prop} {n:Nat} (qa:nA ops vl (jf ops)=true) (hlen:vl.length=ops.size):∀(r:List bj) (k:Nat) (listed:Array Bool) (env:Env) (g:Rows),
  (∀j,r[j]? =vl[k+j]?)->listed.size=ops.size->(∀i,i<ops.size->listed[i]? =some (decide (i<k)))->k+r.length=ops.size->DC ops listed->wpOps X true r K env ⟨g,n⟩->H6 X n ops vl (fun env g=>K env ⟨g,n+1⟩) r.length listed env g
 |[],k,listed,env,g,_,eY,hl,hk,_,hv=>by
  refine⟨?_,hv⟩
  rw[List.eq_nil_iff_forall_not_mem]
  intro j hj
  obtain⟨h0,o,ho,_⟩:=mem_ready.1 hj
  have dR:j<ops.size:=(Array.getElem?_eq_some_iff.1 ho).1
  have:=hl j dR
  simp at hk
  simp[this,show j<k by omega]at h0
 |vo::r,k,listed,env,g,hr,eY,hl,hk,qN,hv=>by
  simp only[List.length_cons]at hk
  have oF:vl[k]? =some vo:=by simpa using(hr 0).symm
  have lS:k<ops.size:=ab
  have G1:k∈Region.ready .any ops listed:=by
   rw[mem_ready]
   refine⟨by simp[hl k lS],ops[k],Array.getElem?_eq_getElem lS,fun e he hb=>?_⟩
   unfold nA CX at qa
   simp only[Bool.and_eq_true,List.all_eq_true]at qa
   have hm:(ops[k],k)∈ops.toList.zipIdx:=by
    rw[List.mem_iff_getElem?]
    exact⟨k,by simp[List.getElem?_zipIdx,lS]⟩
   have:=qa.1 _ hm
   rw[Array.all_eq_true_iff_forall_mem]at this
   have:=this e he
   simp only[hb,Bool.not_true,Bool.false_or,decide_eq_true_eq]at this
   simp[hl e.on ab,this]
  have hGS:∃v g',GS X n vo env g v g'/\wpOps X true r K (upd env vo.dst v) ⟨g',n⟩:=by
   unfold wpOps at hv
   unfold GS
   split at hv
   ·rename_i hw
    simp only[hw,if_true]
    exact M7 hv
   ·rename_i hw
    simp only[hw]
    exact⟨.undef,g,⟨rfl,rfl⟩,hv⟩
  obtain⟨v,g',h1,h2⟩:=hGS
  refine CH qa hlen oF r.length listed env g g' qN G1 h1 ?_
  refine uS qa hlen r (k+1) _ _ _ (fun j=>by have:=hr (j+1);simpa[Nat.add_assoc,Nat.add_comm 1 j]using this) (by simp[eY]) (fun i hi=>?_) ab (qN.list G1) h2
  by_cases wz:i=k
  ·subst wz;simp[eY,lS]
  ·rw[Array.getElem?_setIfInBounds_ne (fun e=>wz e.symm),hl i hi]
   congr 1
   have:(i<k)=(i<k+1):=by apply propext;omega
   simp[this]
theorem nq {f:Nat->Oper->Option bj}:∀{l:List Oper} {vl:List bj} {j:Nat},allM f l j=some vl->vl.length=l.length/\∀(i:Nat) (o:Oper),l[i]? =some o->∃vo,vl[i]? =some vo/\f (j+i) o=some vo
 |[],vl,j,h=>by simp[allM]at h;subst h;simp
 |o::l,vl,j,h=>by
  simp only[allM,Option.bind_eq_bind,Option.bind_eq_some_iff,Option.pure_def,Option.some.injEq]at h
  obtain⟨vo,oF,rO,qR,rfl⟩:=h
  obtain⟨h1,h2⟩:=nq qR
  refine⟨by simp[h1],fun i o' hi=>?_⟩
  cases i with
  |zero=>simp at hi;subst hi;exact⟨vo,rfl,oF⟩
  |succ i=>
   simp at hi
   obtain⟨q,hq,hf⟩:=h2 i o' hi
   exact⟨q,by simpa using hq,by rw[<-hf];congr 1;omega⟩
theorem vW {ops:Array Oper} {vl:List bj} {nt site0:Nat} {draw mk:Bool} {bs:Array Nat} {hidden:List (Nat×Bool)} {n:Nat} {K:Env->Rows->Prop} {Q:Exit->Act->World->Prop} (dt:allM (lx P ops nt site0 draw mk bs hidden) ops.toList 0=some vl):
  ∀(fuel:Nat) (listed:Array Bool) (env:Env) (g:Rows) (a:Act) (w:World) (D:Nat->Prop) (ι:Names) (U:Nat->Prop),H6 (Sound P) n ops vl K fuel listed env g->fW P hs D ι g w->Used ι n U->(∀s,U s->∃i,s=site0+i/\listed.getD i false=true)->bI P w D ι env a->a.tmps.size=nt->
  (∀gZ g' a' w' D' ι' U',K gZ g'->Step hs D ι w D' ι' w'->fW P hs D' ι' g' w'->Used ι' n U'->bI P w' D' ι' gZ a'->a'.tmps.size=nt->a'.defers=a.defers->Q .normal a' w')->wpAny P .any ops Q fuel listed a w:=by
 intro fuel
 induction fuel with
 |zero=>intro listed env g a w D ι U h S Us hU E eY hQ;exact⟨h.1,hQ env g a w D ι U h.2 (Step.refl _ _ _ _) S Us E eY rfl⟩
 |succ fuel ih=>
  intro listed env g a w D ι U h S Us hU E eY hQ
  refine⟨fun hr=>hQ env g a w D ι U (h.1 hr) (Step.refl _ _ _ _) S Us E eY rfl,fun i hi=>?_⟩
  obtain⟨vo,oF,v,g',hG,KV⟩:=h.2 i hi
  obtain⟨_,o,ho,_⟩:=mem_ready.1 hi
  obtain⟨vo',lz,C9⟩:=(nq dt).2 i o (by simpa using ho)
  rw[oF]at lz;injection lz with lz;subst lz
  rw[Nat.zero_add]at C9
  obtain⟨hc,hd,zJ,vn,hg⟩:=n8 C9
  have hw:=rP (ops:=ops) (vo:=vo) E hg
  have Ro:¬U vo.site:=fun hu=>by
   obtain⟨i',he,hl⟩:=hU _ hu
   have:i'=i:=ab
   subst this
   rw[iF hi]at hl;cases hl
  have jg:i<listed.size:=by
   have h0:=(mem_ready.1 hi).1
   rcases Nat.lt_or_ge i listed.size with h|h
   ·exact h
   ·simp[Array.getElem?_eq_none h]at h0
  unfold wpOp
  simp only[ho]
  rw[<-hw]
  unfold GS at hG
  by_cases EE:aM vo.guard env=true
  ·rw[if_pos EE]
   rw[if_pos EE]at hG
   refine .inl (yT hc hG S Us Ro E fun a' w' ⟨u,D',ι',ha,T,S',hR,U'⟩=>?_)
   subst ha
   refine ih _ _ _ _ w' D' ι' _ KV S' U' (fun s zG=>?_) (by rw[hd];exact l6 (nB E T) hR vn eY) (by rw[kq];exact eY) fun gZ g2 a2 w2 D2 ι2 U2 hk T2 S2 QQ E2 lp Bw=>hQ gZ g2 a2 w2 D2 ι2 U2 hk (T.trans T2) S2 QQ E2 lp (Bw.trans (put_defers _ _ _))
   rcases zG with h|h
   ·obtain⟨i',he,hl⟩:=hU _ h
    exact⟨i',he,getD_set_true hl⟩
   ·exact⟨i,by rw[h,zJ],by simp[jg]⟩
  ·rw[if_neg EE]
   rw[if_neg EE]at hG
   obtain⟨rfl,rfl⟩:=hG
   refine ih _ _ _ _ w D ι U KV S Us (fun s zG=>?_) (by rw[hd];exact l6 E cG.undef vn eY) (by rw[kq];exact eY) fun gZ g2 a2 w2 D2 ι2 U2 hk T2 S2 QQ E2 lp Bw=>hQ gZ g2 a2 w2 D2 ι2 U2 hk T2 S2 QQ E2 lp (Bw.trans (put_defers _ _ _))
   obtain⟨i',he,hl⟩:=hU _ zG
   exact⟨i',he,getD_set_true hl⟩
end
end Go.Proofs.YtihgaadadaekmaaGreat.V

namespace Go.Proofs.YtihgaadadaekmaaGreat.V
open Go.RowKit
variable {P:Program} {w w':World} {D D' D2:Nat->Prop} {ι ι' ι2:Names}
section
variable {hs:Nat} {X:fj}
def oG (X:fj):Prop:=∀f args σ K K',(∀r σ',K r σ'->K' r σ')->X f args σ K->X f args σ K'
theorem oU:oG (Sound P):=fun _ _ _ _ _ hK h hs D ι w vs S U A=>
 (h hs D ι w vs S U A).mono fun _ _ ⟨r,g',n',D',ι',u,he,hk,rest⟩=>⟨r,g',n',D',ι',u,he,hK _ _ hk,rest⟩
def step (X:fj) (vo:bj) (N:Env->aw->Prop) (env:Env) (σ:aw):Prop:=
 if aM vo.guard env then fI X false vo env σ fun v σ'=>N (upd env vo.dst v) σ' else N (upd env vo.dst .undef) σ
theorem o5 (hK:oG X) {draw:Bool} {hid:List Nat} {site f:Nat} {args:List AV} {σ:aw} {n n':AV->aw->Prop} (hn:∀v σ',n v σ'->n' v σ') (hp:cF X draw hid site f args σ n):cF X draw hid site f args σ n':=by
 rcases hp with⟨r,h1,h2⟩|⟨h1,h2⟩|⟨h1,sz,rows,h2,h3⟩
 ·exact .inl ⟨r,h1,hn _ _ h2⟩
 ·exact .inr (.inl ⟨h1,hK _ _ _ _ _ hn h2⟩)
 ·exact .inr (.inr ⟨h1,sz,rows,h2,hn _ _ h3⟩)
theorem Ar (hK:oG X) {draw:Bool} {o:bj} {env:Env} {σ:aw} {n n':AV->aw->Prop} (hn:∀v σ',n v σ'->n' v σ') (hp:fI X draw o env σ n):fI X draw o env σ n':=by
 unfold fI at hp ⊢
 split at hp
 ·exact o5 hK hn hp
 ·split at hp
  ·exact o5 hK hn hp
  ·exact o5 hK hn hp
  ·exact hp.elim
 ·split at hp
  ·exact hn _ _ hp
  ·exact hp.elim
 ·split at hp
  ·exact hn _ _ hp
  ·exact hp.elim
 ·split at hp
  ·exact hn _ _ hp
  ·exact hp.elim
 ·split at hp
  ·exact hn _ _ hp
  ·exact hp.elim
 ·split at hp
  ·exact hn _ _ hp
  ·exact hp.elim
 ·split at hp
  ·exact hn _ _ hp
  ·exact hn _ _ hp
  ·exact hp.elim
theorem ju (hK:oG X) {vo:bj} {N N':Env->aw->Prop} (h:∀e s,N e s->N' e s) {env:Env} {σ:aw} (hp:step X vo N env σ):step X vo N' env σ:=by
 unfold step at hp ⊢
 split at hp
 ·rename_i hw;rw[if_pos hw];exact Ar hK (fun v σ'=>h _ _) hp
 ·rename_i hw;rw[if_neg hw];exact h _ _ hp
theorem FJ {env iy:Env} {vo:bj} {σ:aw} {n:AV->aw->Prop} (h:∀t∈vo.op.fU,env t=iy t) (hv:fI X false vo env σ n):fI X false vo iy σ n:=by
 unfold fI at hv ⊢
 split at hv
 ·rename_i f args dN
  rw[dN]at h
  simp only[fP.fU]at h
  rw[<-map_congr h];exact hv
 ·rename_i x args dN
  rw[dN]at h
  simp only[fP.fU,List.mem_append]at h
  rw[<-map_congr (l:=args) fun t ht=>h t (.inr ht),<-aZ (x:=x) fun t ht=>h t (.inl ht)];exact hv
 ·rw[<-gq h];exact hv
 ·rw[<-gq h];exact hv
 ·rw[<-gq h];exact hv
 ·rw[<-gq h];exact hv
 ·rw[<-gq h];exact hv
 ·rw[<-rH h];exact hv
theorem kX {x:bj} (hq:kr x=true) {N:Env->aw->Prop} {env:Env} {σ:aw}:step X x N env σ↔∃v g',GS X σ.next x env σ.get v g'/\N (upd env x.dst v) ⟨g',σ.next⟩:=by
 unfold kr at hq
 simp only[Bool.and_eq_true,Bool.not_eq_true',bne_iff_ne]at hq
 obtain⟨AA,mb⟩:=hq
 unfold step GS
 by_cases hw:aM x.guard env=true
 ·rw[if_pos hw]
  simp only[hw,if_true]
  unfold fI
  split
  ·rename_i dN;simp[dN,fP.k8]at AA
  ·rename_i dN;simp[dN,fP.k8]at AA
  ·rename_i dN;simp[dN,fP.cls]at mb
  ·rename_i dN;simp[dN,fP.cls]at mb
  ·rename_i dN;simp[dN,fP.cls]at mb
  ·rename_i dN;simp[dN,fP.cls]at mb
  ·rename_i dN;simp[dN,fP.cls]at mb
  ·rename_i n1 n2 n3 n4 n5 n6 n7
   have hVS:∀v g',VS X σ.next x env σ.get v g'↔∃mr,eM x.op (cE env) (fV x.hid σ.next σ.get) ⟨x.site,σ.next⟩=some (v,mr)/\g'=iM σ.get ⟨x.site,σ.next⟩ mr:=fun v g'=>by
    unfold VS
    split
    ·rename_i hh;exact(n1 _ _ hh).elim
    ·rename_i hh;exact(n2 _ _ hh).elim
    ·rename_i hh;exact(n3 _ _ _ hh).elim
    ·rename_i hh;exact(n4 _ _ _ hh).elim
    ·rename_i hh;exact(n5 _ _ _ hh).elim
    ·rename_i hh;exact(n6 _ _ hh).elim
    ·rename_i hh;exact(n7 _ _ hh).elim
    ·exact Iff.rfl
   simp only[hVS]
   cases hz:eM x.op (cE env) (fV x.hid σ.next σ.get) ⟨x.site,σ.next⟩with
   |none=>
    exact⟨fun h=>h.elim,fun⟨v,g',⟨mr,h,_⟩,_⟩=>by cases h⟩
   |some p=>
    obtain⟨v,mr⟩:=p
    have key:∀(v':AV) (g':Rows),(∃N1,some (v,mr)=some (v',N1)/\g'=iM σ.get ⟨x.site,σ.next⟩ N1)↔v'=v/\g'=iM σ.get ⟨x.site,σ.next⟩ mr:=fun v' g'=>by
     constructor
     ·rintro⟨N1,h1,h2⟩
      injection h1 with h1;injection h1 with h1 h3
      subst h1;subst h3
      exact⟨rfl,h2⟩
     ·rintro⟨rfl,rfl⟩;exact⟨mr,rfl,rfl⟩
    have fin:(∃v' g',(∃N1,some (v,mr)=some (v',N1)/\g'=iM σ.get ⟨x.site,σ.next⟩ N1)/\N (upd env x.dst v') ⟨g',σ.next⟩)↔N (upd env x.dst v) ⟨iM σ.get ⟨x.site,σ.next⟩ mr,σ.next⟩:=by
     constructor
     ·rintro⟨v',g',h,hN⟩
      obtain⟨rfl,rfl⟩:=(key v' g').1 h
      exact hN
     ·intro hN;exact⟨v,_,(key _ _).2 ⟨rfl,rfl⟩,hN⟩
    cases mr with
    |none=>exact fin.symm
    |some r=>exact fin.symm
 ·rw[if_neg hw]
  simp only[if_neg hw]
  exact⟨fun h=>⟨_,_,⟨rfl,rfl⟩,h⟩,fun⟨v,g',⟨hv,hg⟩,h⟩=>by rw[hv,hg]at h;exact h⟩
def xv (x:bj) (env:Env) (v:AV):Prop:=if aM x.guard env then eM x.op (cE env) (fun _=>none) ⟨0,0⟩=some (v,none)else v=.undef
theorem ur {x:bj} (hp:x.op.cls=.pure):kr x=true:=by
 unfold kr
 rw[hp]
 cases hc:x.op<;>simp[hc,fP.cls]at hp<;>rfl
theorem rK {x:bj} (hp:x.op.cls=.pure) {N:Env->aw->Prop} {env:Env} {σ:aw}:step X x N env σ↔∃v,xv x env v/\N (upd env x.dst v) σ:=by
 rw[kX (ur hp)]
 unfold GS xv
 by_cases hw:aM x.guard env=true
 ·simp only[hw,if_true]
  constructor
  ·rintro⟨v,g',h,hN⟩
   obtain⟨rfl,dt⟩:=xg hp h
   refine⟨v,?_,hN⟩
   unfold VS at h
   split at h
   ·rename_i dN;rw[dN]at hp;simp[fP.cls]at hp
   ·rename_i dN;rw[dN]at hp;simp[fP.cls]at hp
   ·rename_i dN;rw[dN]at hp;simp[fP.cls]at hp
   ·rename_i dN;rw[dN]at hp;simp[fP.cls]at hp
   ·rename_i dN;rw[dN]at hp;simp[fP.cls]at hp
   ·rename_i dN;rw[dN]at hp;simp[fP.cls]at hp
   ·rename_i dN;rw[dN]at hp;simp[fP.cls]at hp
   ·obtain⟨mr,hq,_⟩:=h
    have RN:mr=none:=by
     cases mr with
     |none=>rfl
     |some r=>have:=uu hq;simp[po,hp]at this
    subst RN
    rw[<-uv (g:=fV x.hid σ.next σ.get) (id:=⟨x.site,σ.next⟩) hp];exact hq
  ·rintro⟨v,h,hN⟩
   exact⟨v,σ.get,Ll (mr:=none) (by rw[uv (g2:=fun _=>none) (id2:=⟨0,0⟩) hp];exact h),hN⟩
 ·simp only[if_neg hw]
  exact⟨fun⟨v,g',⟨hv,hg⟩,h⟩=>⟨v,hv,by rw[hg]at h;exact h⟩,fun⟨v,hv,h⟩=>⟨v,σ.get,⟨hv,rfl⟩,h⟩⟩
theorem Ie {x:bj} {env iy:Env} {v:AV} (h:∀t∈x.fU,env t=iy t) (hv:xv x env v):xv x iy v:=by
 unfold xv at hv ⊢
 rw[<-mv h,<-rH fun t ht=>h t (qD ht)];exact hv
structure Kz (x y:bj):Prop where
 xy:∀k,x.dst=some k->k∉y.fU
 yx:∀k,y.dst=some k->k∉x.fU
 dst:∀k,x.dst=some k->y.dst≠some k
theorem qK {x y:bj} (h:rN x y=true):Kz x y:=by
 unfold rN at h
 simp only[Bool.and_eq_true]at h
 obtain⟨a1,a2⟩:=h
 refine⟨fun k hk=>?_,fun k hk=>?_,fun k hk=>?_⟩
 ·rw[hk]at a1;simp at a1;exact a1.1
 ·rw[hk]at a2;simpa using a2
 ·rw[hk]at a1;simp at a1;exact a1.2
theorem wu {x y:bj} (h:wq x y=true):(Kz x y/\x.op.cls=.pure)∨(AI x y/\kr x=true/\kr y=true):=by
 unfold wq at h
 simp only[Bool.or_eq_true,Bool.and_eq_true,beq_iff_eq]at h
 rcases h with⟨h1,h2⟩|⟨⟨h1,h2⟩,h3⟩
 ·exact .inl ⟨qK h1,h2⟩
 ·exact .inr ⟨pc h1,h2,h3⟩
theorem zq {x y:bj} (h:wq x y=true):kr x=true:=by
 rcases wu h with h|h
 ·exact ur h.2
 ·exact h.2.1
theorem Fu (hK:oG X) {x y:bj} (hf:wq x y=true) {N:Env->aw->Prop} {env:Env} {σ:aw} (h:step X x (fun e s=>step X y N e s) env σ):step X y (fun e s=>step X x N e s) env σ:=by
 rcases wu hf with⟨F,hp⟩|⟨F,hx,hy⟩
 ·rw[rK hp]at h
  obtain⟨v,hx,h⟩:=h
  have wG:=fun(v':AV)=>uR (env:=env) (v:=v) (u:=v') F.dst
  have sM:=lQ (env:=env) (v:=v) F.xy
  have back:∀(v':AV),xv x (upd env y.dst v') v:=fun v'=>Ie (fun t ht=>(lQ F.yx t ht).symm) hx
  unfold step at h ⊢
  rw[mv sM]at h
  split at h
  ·rename_i hw
   rw[if_pos hw]
   refine Ar hK (fun v' σ' hN=>?_) (FJ (fun t ht=>sM t (qD ht)) h)
   rw[wG]at hN
   exact(rK hp).2 ⟨v,back v',hN⟩
  ·rename_i hw
   rw[if_neg hw]
   rw[wG]at h
   exact(rK hp).2 ⟨v,back _,h⟩
 ·rw[kX hx]at h
  obtain⟨v,g1,h1,h⟩:=h
  rw[kX hy]at h
  obtain⟨v',g2,h2,h⟩:=h
  obtain⟨I8,q1,q2,q3⟩:=CK F h1 h2
  rw[q3]at h
  exact(kX hy).2 ⟨v',I8,q1,(kX hx).2 ⟨v,g2,q2,h⟩⟩
def yw (X:fj) (ops:Array Oper) (vl:List bj) (K:Env->aw->Prop):Nat->Array Bool->Env->aw->Prop
 |0,listed,env,σ=>Region.ready .any ops listed=[]/\K env ⟨σ.get,σ.next+1⟩
 |f+1,listed,env,σ=>(Region.ready .any ops listed=[]->K env ⟨σ.get,σ.next+1⟩)/\∀i∈Region.ready .any ops listed,∃vo,vl[i]? =some vo/\step X vo (fun e s=>yw X ops vl K f (listed.setIfInBounds i true) e s) env σ
theorem Bh {ops:Array Oper} {vl:List bj} {bs:Array Nat} {listed:Array Bool} {i:Nat} (h:pb ops vl bs listed i=true) (j:Nat):pb ops vl bs (listed.setIfInBounds j true) i=true:=by
 unfold pb at h ⊢
 split at h
 ·rename_i x hx
  simp only[List.all_eq_true,Bool.or_eq_true]at h ⊢
  intro k hk
  rcases h k hk with((h|h)|h)|h
  ·exact .inl (.inl (.inl (getD_set_true h)))
  ·exact .inl (.inl (.inr h))
  ·exact .inl (.inr h)
  ·exact .inr h
 ·cases h
theorem rZ {ops:Array Oper} {vl:List bj} {listed:Array Bool} {i j:Nat} {vi:bj} (qN:DC ops listed) (h:pb ops vl (jf ops) listed i=true) (hi:vl[i]? =some vi) (hr:i∈Region.ready .any ops listed) (hj:j∈Region.ready .any ops listed) (lR:j≠i):∃vj,vl[j]? =some vj/\wq vi vj=true:=by
 unfold pb at h
 rw[hi]at h
 simp only[List.all_eq_true,Bool.or_eq_true,beq_iff_eq]at h
 obtain⟨_,o,ho,_⟩:=mem_ready.1 hj
 rcases h j (List.mem_range.2 (Array.getElem?_eq_some_iff.1 ho).1)with((h|h)|h)|h
 ·rw[iF hj]at h;cases h
 ·exact absurd h lR
 ·have:=ku qN hj i h
  rw[iF hr]at this;cases this
 ·split at h
  ·rename_i y hy;exact⟨y,hy,h⟩
  ·cases h
theorem CJ (hK:oG X) {ops:Array Oper} {vl:List bj} {K:Env->aw->Prop} {i:Nat} {vi:bj} (hi:vl[i]? =some vi):∀(fuel:Nat) (listed:Array Bool) (env:Env) (σ:aw),
  DC ops listed->i∈Region.ready .any ops listed->pb ops vl (jf ops) listed i=true->step X vi (fun e s=>yw X ops vl K fuel (listed.setIfInBounds i true) e s) env σ->yw X ops vl K (fuel+1) listed env σ:=by
 intro fuel
 induction fuel with
 |zero=>
  intro listed env σ qN hr mN H
  refine⟨fun h=>(by rw[h]at hr;cases hr),fun j hj=>?_⟩
  by_cases lR:j=i
  ·subst lR;exact⟨vi,hi,H⟩
  ·obtain⟨vj,Jw,OM⟩:=rZ qN mN hi hr hj lR
   rw[kX (zq OM)]at H
   obtain⟨v,g',_,H⟩:=H
   have:=ready_mono hj lR
   rw[H.1]at this;cases this
 |succ fuel ih=>
  intro listed env σ qN hr mN H
  refine⟨fun h=>(by rw[h]at hr;cases hr),fun j hj=>?_⟩
  by_cases lR:j=i
  ·subst lR;exact⟨vi,hi,H⟩
  ·obtain⟨vj,Jw,OM⟩:=rZ qN mN hi hr hj lR
   refine⟨vj,Jw,?_⟩
   have H2:step X vi (fun e s=>step X vj (fun e s=>yw X ops vl K fuel ((listed.setIfInBounds i true).setIfInBounds j true) e s) e s) env σ:=ju hK (fun e s h=>by
    obtain⟨vj',xO,h'⟩:=h.2 j (ready_mono hj lR)
    rw[Jw]at xO;injection xO with xO;subst xO
    exact h') H
   refine ju hK (fun e s h=>?_) (Fu hK OM H2)
   refine ih _ _ _ (qN.list hj) (ready_mono hr (fun e=>lR e.symm)) (Bh mN j) ?_
   rw[Array.setIfInBounds_comm _ _ lR]
   exact h
theorem rJ {x:bj} (hg:x.guard=none) {N:Env->aw->Prop} {env:Env} {σ:aw}:step X x N env σ=fI X false x env σ (fun v σ'=>N (upd env x.dst v) σ'):=by
 unfold step
 rw[hg]
 simp[aM]
theorem Cv {x y:bj} {t s sz:Nat} {ys:O} (hx:x.op=.append sz (.t t) ys) (hg:x.guard=none) (hf:C3 s x y=true) {N:Env->aw->Prop} {env:Env} {σ:aw} (hl:JL t s ys env σ.next) (h:step X x (fun e s=>step X y N e s) env σ):
  step X y (fun e σ'=>JL t s ys e σ'.next/\step X x N e σ') env σ:=by
 unfold C3 at hf
 simp only[Bool.and_eq_true,bne_iff_ne]at hf
 obtain⟨⟨⟨⟨⟨f1,hq⟩,f3⟩,f4⟩,f5⟩,f6⟩:=hf
 have F:=qK f1
 obtain⟨⟨len,ht⟩,hsrc⟩:=hl
 have G3:∀k∈x.op.fU,∀v',upd env y.dst v' k=env k:=fun k hk v'=>lQ (env:=env) (v:=v') F.yx k (qD hk)
 have eB:t∈x.op.fU:=by rw[hx];simp[fP.fU,gm]
 have Dm:∀v',cE (upd env y.dst v') ys=cE env ys:=fun v'=>(aZ fun k hk=>by rw[G3 k (by rw[hx];simp[fP.fU,hk])]).symm
 rw[rJ hg]at h
 unfold fI at h
 simp only[hx,fX]at h
 have ex:cE env (.t t)=.own ⟨s,σ.next⟩ 0 len:=ht
 rw[ex]at h
 cases hr:bt σ.get (cE env ys)with
 |none=>rw[hr]at h;exact h.elim
 |some rs=>
  rw[hr]at h
  simp only[Option.bind_some,bc]at h
  cases GQ:σ.get ⟨s,σ.next⟩with
  |none=>rw[GQ]at h;exact h.elim
  |some r=>
   rw[GQ]at h
   simp only[Option.bind_some]at h
   split at h
   ·rename_i v g1 hv
    split at hv
    ·rename_i hcond
     simp only[Option.some.injEq,Prod.mk.injEq]at hv
     obtain⟨rfl,rfl⟩:=hv
     rw[kX hq]at h
     obtain⟨v',g2,hG,hN⟩:=h
     have Jq:(⟨y.site,σ.next⟩:Id)≠⟨s,σ.next⟩:=fun e=>f5 (by injection e)
     have GW:(⟨y.site,σ.next⟩:Id)≠⟨x.site,σ.next⟩:=fun e=>f6 (by injection e)
     replace hG:GS X σ.next y env (bS (bZ σ.get ⟨s,σ.next⟩) ⟨x.site,σ.next⟩ ⟨true,sz,r.rows++rs⟩) v' g2:=tj (lQ F.xy) hG
     have Sa:fV y.hid σ.next σ.get=fV y.hid σ.next (bS (bZ σ.get ⟨s,σ.next⟩) ⟨x.site,σ.next⟩ ⟨true,sz,r.rows++rs⟩):=by
      cases hh:y.hid with
      |nil=>rw[hh]at f3;simp at f3
      |cons a l=>
       rw[hh]at f3 f4
       funext i
       show(if (a::l).contains i.site=true/\i.bY=σ.next then none else σ.get i)=if (a::l).contains i.site=true/\i.bY=σ.next then none else _
       by_cases h1:i=⟨x.site,σ.next⟩
       ·subst h1;rw[if_pos ⟨f4,rfl⟩,if_pos ⟨f4,rfl⟩]
       ·by_cases h2:i=⟨s,σ.next⟩
        ·subst h2;rw[if_pos ⟨f3,rfl⟩,if_pos ⟨f3,rfl⟩]
        ·simp only[bS,bZ,if_neg h1,if_neg h2]
     obtain⟨my,OO,hG'⟩:∃my,g2=iM (bS (bZ σ.get ⟨s,σ.next⟩) ⟨x.site,σ.next⟩ ⟨true,sz,r.rows++rs⟩) ⟨y.site,σ.next⟩ my/\GS X σ.next y env σ.get v' (iM σ.get ⟨y.site,σ.next⟩ my):=by
      unfold GS at hG ⊢
      by_cases wy:aM y.guard env=true
      ·rw[if_pos wy]at hG
       have hcw:y.op.cls≠.write:=by
        unfold kr at hq
        simp only[Bool.and_eq_true,bne_iff_ne]at hq
        exact hq.2
       obtain⟨my,rfl,_,Lq⟩:=tq hcw hG
       exact⟨my,rfl,by rw[if_pos wy];exact Lq _ Sa⟩
      ·rw[if_neg wy]at hG
       obtain⟨rfl,rfl⟩:=hG
       exact⟨none,rfl,by rw[if_neg wy];exact⟨rfl,rfl⟩⟩
     subst OO
     refine(kX hq).2 ⟨v',_,hG',⟨⟨len,by rw[G3 t eB];exact ht⟩,fun id o l he=>hsrc id o l (by rw[<-Dm v'];exact he)⟩,?_⟩
     rw[rJ hg]
     unfold fI
     have ex':cE (upd env y.dst v') (.t t)=.own ⟨s,σ.next⟩ 0 len:=by
      show upd env y.dst v' t= _
      rw[G3 t eB];exact ht
     simp only[hx,fX,ex',Dm v']
     have m7:bt (iM σ.get ⟨y.site,σ.next⟩ my) (cE env ys)=some rs:=by
      cases my with
      |none=>exact hr
      |some row=>
       revert hr
       cases hev:cE env ys<;>simp only[bt,iM]<;>try exact fun h=>h
       rename_i id o l
       have:id≠⟨y.site,σ.next⟩:=fun e=>hsrc id o l hev (by rw[e])
       simp only[bS,if_neg this];exact fun h=>h
     have RF:iM σ.get ⟨y.site,σ.next⟩ my ⟨s,σ.next⟩=some r:=by
      cases my with
      |none=>exact GQ
      |some row=>simp only[iM,bS,if_neg (fun e=>Jq e.symm:(⟨s,σ.next⟩:Id)≠⟨y.site,σ.next⟩)];exact GQ
     rw[m7]
     simp only[Option.bind_some,bc,RF]
     rw[if_pos hcond]
     have hgg:bS (bZ (iM σ.get ⟨y.site,σ.next⟩ my) ⟨s,σ.next⟩) ⟨x.site,σ.next⟩ ⟨true,sz,r.rows++rs⟩=iM (bS (bZ σ.get ⟨s,σ.next⟩) ⟨x.site,σ.next⟩ ⟨true,sz,r.rows++rs⟩) ⟨y.site,σ.next⟩ my:=by
      cases my with
      |none=>rfl
      |some row=>
       funext i
       simp only[iM,bS,bZ]
       by_cases h1:i=⟨y.site,σ.next⟩
       ·subst h1;rw[if_neg GW,if_neg Jq,if_pos rfl,if_pos rfl]
       ·simp only[if_neg h1]
     have hu:=uR (env:=env) (v:=AV.own ⟨x.site,σ.next⟩ 0 (len+rs.length)) (u:=v') F.dst
     show N (upd (upd env y.dst v') x.dst (.own ⟨x.site,σ.next⟩ 0 (len+rs.length))) ⟨bS (bZ (iM σ.get ⟨y.site,σ.next⟩ my) ⟨s,σ.next⟩) ⟨x.site,σ.next⟩ ⟨true,sz,r.rows++rs⟩,σ.next⟩
     rw[hgg,<-hu]
     exact hN
    ·cases hv
   ·exact h.elim
theorem Bg {ops:Array Oper} {vl:List bj} {bs:Array Nat} {listed:Array Bool} {i s:Nat} (h:nC ops vl bs listed i s=true) (j:Nat):nC ops vl bs (listed.setIfInBounds j true) i s=true:=by
 unfold nC at h ⊢
 split at h
 ·rename_i x hx
  simp only[List.all_eq_true,Bool.or_eq_true]at h ⊢
  intro k hk
  rcases h k hk with((h|h)|h)|h
  ·exact .inl (.inl (.inl (getD_set_true h)))
  ·exact .inl (.inl (.inr h))
  ·exact .inl (.inr h)
  ·exact .inr h
 ·cases h
theorem zm {ops:Array Oper} {vl:List bj} {listed:Array Bool} {i j s:Nat} {vi:bj} (qN:DC ops listed) (h:nC ops vl (jf ops) listed i s=true) (hi:vl[i]? =some vi) (hr:i∈Region.ready .any ops listed) (hj:j∈Region.ready .any ops listed) (lR:j≠i):∃vj,vl[j]? =some vj/\C3 s vi vj=true:=by
 unfold nC at h
 rw[hi]at h
 simp only[List.all_eq_true,Bool.or_eq_true,beq_iff_eq]at h
 obtain⟨_,o,ho,_⟩:=mem_ready.1 hj
 rcases h j (List.mem_range.2 (Array.getElem?_eq_some_iff.1 ho).1)with((h|h)|h)|h
 ·rw[iF hj]at h;cases h
 ·exact absurd h lR
 ·have:=ku qN hj i h
  rw[iF hr]at this;cases this
 ·split at h
  ·rename_i y hy;exact⟨y,hy,h⟩
  ·cases h
theorem Au (hK:oG X) {ops:Array Oper} {vl:List bj} {K:Env->aw->Prop} {i t s sz:Nat} {ys:O} {vi:bj} (hi:vl[i]? =some vi) (hx:vi.op=.append sz (.t t) ys) (hg:vi.guard=none):∀(fuel:Nat) (listed:Array Bool) (env:Env) (σ:aw),
  DC ops listed->i∈Region.ready .any ops listed->nC ops vl (jf ops) listed i s=true->JL t s ys env σ.next->step X vi (fun e s=>yw X ops vl K fuel (listed.setIfInBounds i true) e s) env σ->yw X ops vl K (fuel+1) listed env σ:=by
 intro fuel
 induction fuel with
 |zero=>
  intro listed env σ qN hr mN NI H
  refine⟨fun h=>(by rw[h]at hr;cases hr),fun j hj=>?_⟩
  by_cases lR:j=i
  ·subst lR;exact⟨vi,hi,H⟩
  ·exfalso
   have h0:=ready_mono hj lR
   rw[rJ hg]at H
   unfold fI at H
   simp only[hx]at H
   split at H
   ·rw[H.1]at h0;cases h0
   ·exact H
 |succ fuel ih=>
  intro listed env σ qN hr mN NI H
  refine⟨fun h=>(by rw[h]at hr;cases hr),fun j hj=>?_⟩
  by_cases lR:j=i
  ·subst lR;exact⟨vi,hi,H⟩
  ·obtain⟨vj,Jw,OM⟩:=zm qN mN hi hr hj lR
   refine⟨vj,Jw,?_⟩
   have H2:step X vi (fun e s=>step X vj (fun e s=>yw X ops vl K fuel ((listed.setIfInBounds i true).setIfInBounds j true) e s) e s) env σ:=ju hK (fun e s h=>by
    obtain⟨vj',xO,h'⟩:=h.2 j (ready_mono hj lR)
    rw[Jw]at xO;injection xO with xO;subst xO
    exact h') H
   refine ju hK (fun e s h=>?_) (Cv hx hg OM NI H2)
   refine ih _ _ _ (qN.list hj) (ready_mono hr (fun e=>lR e.symm)) (Bg mN j) h.1 ?_
   rw[Array.setIfInBounds_comm _ _ lR]
   exact h.2
theorem Hg {ops:Array Oper} {vl:List bj} {bs:Array Nat} {listed:Array Bool} {i i' t s:Nat} {y:O} {vo:bj} (h:MD ops vl bs listed i=some (i',t,s,y,vo)):i'=i/\vl[i]? =some vo/\(∃sz,vo.op=.append sz (.t t) y)/\vo.guard=none/\nC ops vl bs listed i s=true:=by
 unfold MD at h
 split at h
 ·rename_i x hx
  split at h
  ·rename_i t' s' y' jS
   split at h
   ·rename_i hf
    simp only[Option.some.injEq,Prod.mk.injEq]at h
    obtain⟨rfl,rfl,rfl,rfl,rfl⟩:=h
    unfold K4 at jS
    split at jS
    ·rename_i sz t2 y2 ho s7
     split at jS
     ·simp only[Option.some.injEq,Prod.mk.injEq]at jS
      obtain⟨rfl,rfl,rfl⟩:=jS
      exact⟨rfl,hx,⟨sz,ho⟩,s7,hf⟩
     ·cases jS
    ·cases jS
   ·cases h
  ·cases h
 ·cases h
theorem v7 {X:fj} {Q:Ex->Env->aw->Prop} {env:Env} {σ:aw}:∀{l:List VC} {t:VC},y5 l=some t->eb X t Q env σ->∀c∈l,eb X c Q env σ
 |[],t,h,_,c,hc=>by cases hc
 |[c0],t,h,hw,c,hc=>by
  simp only[y5,Option.some.injEq]at h
  subst h
  rw[List.mem_singleton]at hc
  subst hc;exact hw
 |c0::c1::r,t,h,hw,c,hc=>by
  simp only[y5,Option.map_eq_some_iff]at h
  obtain⟨t',FQ,rfl⟩:=h
  rcases List.mem_cons.1 hc with rfl|hc
  ·exact hw.1
  ·exact v7 FQ hw.2 c hc
theorem mapM_mem {α β:Type} {f:α->Option β}:∀{l:List α} {r:List β},l.mapM f=some r->∀i∈l,∃b∈r,f i=some b
 |[],_,_,i,hi=>by cases hi
 |a::l,r,h,i,hi=>by
  simp only[List.mapM_cons,Option.bind_eq_bind,Option.bind_eq_some_iff,Option.pure_def,Option.some.injEq]at h
  obtain⟨b,hb,r',hr,rfl⟩:=h
  rcases List.mem_cons.1 hi with rfl|hi
  ·exact⟨b,by simp,hb⟩
  ·obtain⟨c,hc,hf⟩:=mapM_mem hr i hi
   exact⟨c,List.mem_cons_of_mem _ hc,hf⟩
theorem FG (hK:oG X) {ops:Array Oper} {vl:List bj} {Q:Ex->Env->aw->Prop}:∀(n:Nat) (listed:Array Bool) (t:VC) (env:Env) (σ:aw),uO ops vl (jf ops) n listed=some t->DC ops listed->eb X t Q env σ->yw X ops vl (Q .normal) n listed env σ:=by
 intro n
 induction n with
 |zero=>
  intro listed t env σ h _ hw
  unfold uO at h
  split at h
  ·rename_i hr
   simp only[Option.some.injEq]at h
   subst h
   exact⟨hr,hw⟩
  ·cases h
 |succ n ih=>
  intro listed t env σ h qN hw
  unfold uO at h
  split at h
  ·rename_i hr
   simp only[Option.some.injEq]at h
   subst h
   exact⟨fun _=>hw,fun i hi=>by rw[hr]at hi;cases hi⟩
  ·rename_i r rs hr
   dsimp only at h
   split at h
   ·rename_i i hfind
    have Is:=List.mem_of_find?_eq_some hfind
    have vq:=List.find?_some hfind
    rw[<-hr]at Is
    split at h
    ·rename_i vo oF
     simp only[Option.map_eq_some_iff]at h
     obtain⟨t',FQ,rfl⟩:=h
     exact CJ hK oF n listed env σ qN Is vq (ju hK (fun e s h=>ih _ _ _ _ FQ (qN.list Is) h) hw)
    ·cases h
   ·split at h
    ·rename_i i t s y vo hfind
     obtain⟨i0,Ew,dR⟩:=List.exists_of_findSome?_eq_some hfind
     obtain⟨rfl,oF,⟨sz,dN⟩,s7,Jl⟩:=Hg dR
     rw[<-hr]at Ew
     simp only[Option.map_eq_some_iff]at h
     obtain⟨t',FQ,rfl⟩:=h
     exact Au hK oF dN s7 n listed env σ qN Ew Jl hw.1 (ju hK (fun e s h=>ih _ _ _ _ FQ (qN.list Ew) h) hw.2)
    split at h
    ·rename_i l hl
     have dt:=v7 h hw
     refine⟨fun h=>(by rw[h]at hr;cases hr),fun i hi=>?_⟩
     rw[hr]at hi
     obtain⟨b,Il,uY⟩:=mapM_mem hl i hi
     simp only[Option.bind_eq_some_iff,Option.map_eq_some_iff]at uY
     obtain⟨vo,oF,t',FQ,rfl⟩:=uY
     exact⟨vo,oF,ju hK (fun e s h=>ih _ _ _ _ FQ (qN.list (by rw[hr];exact hi)) h) (dt _ Il)⟩
    ·cases h
theorem CG {ops:Array Oper} {vl:List bj} {nt site0:Nat} {draw mk:Bool} {bs:Array Nat} {hidden:List (Nat×Bool)} {K:Env->aw->Prop} {Q:Exit->Act->World->Prop} (dt:allM (lx P ops nt site0 draw mk bs hidden) ops.toList 0=some vl):
  ∀(fuel:Nat) (listed:Array Bool) (env:Env) (σ:aw) (a:Act) (w:World) (D:Nat->Prop) (ι:Names) (U:Nat->Prop),yw (Sound P) ops vl K fuel listed env σ->fW P hs D ι σ.get w->Used ι σ.next U->(∀s,U s->∃i,s=site0+i/\listed.getD i false=true)->bI P w D ι env a->a.tmps.size=nt->
  (∀gZ σ' a' w' D' ι',K gZ σ'->Step hs D ι w D' ι' w'->St P hs nt D' ι' gZ σ' a' w'->a'.defers=a.defers->σ.next<=σ'.next->Q .normal a' w')->wpAny P .any ops Q fuel listed a w:=by
 intro fuel
 induction fuel with
 |zero=>intro listed env σ a w D ι U h S Us hU E eY hQ;exact⟨h.1,hQ env _ a w D ι h.2 (Step.refl _ _ _ _) ⟨S,Us.next,E,eY⟩ rfl (Nat.le_succ _)⟩
 |succ fuel ih=>
  intro listed env σ a w D ι U h S Us hU E eY hQ
  refine⟨fun hr=>hQ env _ a w D ι (h.1 hr) (Step.refl _ _ _ _) ⟨S,Us.next,E,eY⟩ rfl (Nat.le_succ _),fun i hi=>?_⟩
  obtain⟨vo,oF,hG⟩:=h.2 i hi
  obtain⟨_,o,ho,_⟩:=mem_ready.1 hi
  obtain⟨vo',lz,C9⟩:=(nq dt).2 i o (by simpa using ho)
  rw[oF]at lz;injection lz with lz;subst lz
  rw[Nat.zero_add]at C9
  obtain⟨hc,hd,zJ,vn,hg⟩:=n8 C9
  have hw:=rP (ops:=ops) (vo:=vo) E hg
  have Ro:¬U vo.site:=fun hu=>by
   obtain⟨i',he,hl⟩:=hU _ hu
   have:i'=i:=ab
   subst this
   rw[iF hi]at hl;cases hl
  have jg:i<listed.size:=by
   have h0:=(mem_ready.1 hi).1
   rcases Nat.lt_or_ge i listed.size with h|h
   ·exact h
   ·simp[Array.getElem?_eq_none h]at h0
  unfold wpOp
  simp only[ho]
  rw[<-hw]
  unfold step at hG
  by_cases EE:aM vo.guard env=true
  ·rw[if_pos EE]
   rw[if_pos EE]at hG
   refine .inl (xb hc hG S Us Ro E fun v σ' u D' ι' w' hn T S' hR U' hle=>?_)
   refine ih _ _ _ _ w' D' ι' _ hn S' U' (fun s zG=>?_) (by rw[hd];exact l6 (nB E T) hR vn eY) (by rw[kq];exact eY) fun gZ σ2 a2 w2 D2 ι2 hk T2 Mt Bw l9=>hQ gZ σ2 a2 w2 D2 ι2 hk (T.trans T2) Mt (Bw.trans (put_defers _ _ _)) (Nat.le_trans hle l9)
   rcases zG with h|h
   ·obtain⟨i',he,hl⟩:=hU _ h
    exact⟨i',he,getD_set_true hl⟩
   ·exact⟨i,by rw[h,zJ],by simp[jg]⟩
  ·rw[if_neg EE]
   rw[if_neg EE]at hG
   refine ih _ _ _ _ w D ι U hG S Us (fun s zG=>?_) (by rw[hd];exact l6 E cG.undef vn eY) (by rw[kq];exact eY) fun gZ σ2 a2 w2 D2 ι2 hk T2 Mt Bw l9=>hQ gZ σ2 a2 w2 D2 ι2 hk T2 Mt (Bw.trans (put_defers _ _ _)) l9
   obtain⟨i',he,hl⟩:=hU _ zG
   exact⟨i',he,getD_set_true hl⟩
end
end Go.Proofs.YtihgaadadaekmaaGreat.V

namespace Go.Proofs.YtihgaadadaekmaaGreat.V
open Go.RowKit
variable {P:Program} {w w':World} {D D' D2:Nat->Prop} {ι ι' ι2:Names}
def Av (P:Program) (c:Code) (Q:Exit->Act->World->Prop) (a:Act) (w:World):Prop:=
 ∀(b:Frame) (k:List Item) (cs:List Frame),b.kind≠.early->∃e a' w',Q e a' w'/\Arrives P (lone (b.at a (.code c::k)) cs w) b k cs e a' w'
section
variable {Q:Exit->Act->World->Prop} {a:Act}
theorem pr {c:Code} (h:c.wp P Q a w):Av P c Q a w:=fun b k cs _=>h b k cs
theorem JY {x y:Code} (h:Av P x (Exit.then (Av P y Q) Q) a w):Av P (.seq x y) Q a w:=by
 intro b k cs hb
 obtain⟨e,a1,w1,hq,g8⟩:=h b (.code y::k) cs hb
 by_cases he:e=.normal
 ·subst he
  obtain⟨e2,a2,w2,mb,GH⟩:=hq b k cs hb
  exact⟨e2,a2,w2,mb,.of_steps (.head step_seq g8) GH⟩
 ·refine⟨e,a1,w1,?_,.of_steps (.one step_seq) (.pass (x:=.code y) rfl (fun _ _=>.inl he) g8)⟩
  cases e<;>first|exact absurd rfl he|exact hq
theorem Hu {c:Operand} {x y:Code} {t:Bool} (hc:a.eval c=.bool t) (h:Av P (if t then x else y) Q a w):Av P (.cond c x y) Q a w:=
 fun b k cs hb=>let ⟨e,a',w',q,r⟩:=h b k cs hb;⟨e,a',w',q,.of_steps (.one (step_cond hc)) r⟩
theorem Fe {id:Nat} {c:Code} (h:Av P c (Exit.inBlock id Q) a w):Av P (.block id c) Q a w:=by
 intro b k cs hb
 obtain⟨e,a1,w1,hq,g8⟩:=h b (.inBlock id::k) cs hb
 cases e with
 |normal=>exact⟨.normal,a1,w1,hq,.head step_block (Steps.trans g8 (.one step_inBlock))⟩
 |exit ki=>
  by_cases hid:ki=id
  ·simp only[Exit.inBlock,hid,if_true]at hq
   exact⟨.normal,a1,w1,hq,.head step_block (g8 k (by simp[exitTo,hid]))⟩
  ·simp only[Exit.inBlock,hid,if_false]at hq
   exact⟨.exit ki,a1,w1,hq,fun k' hk=>.head step_block (g8 k' (by simp[exitTo,Ne.symm hid,hk]))⟩
 |goto l=>exact⟨_,a1,w1,hq,fun k' hk=>.head step_block (g8 k' (by simp[gotoIn,hk]))⟩
 |ret=>exact⟨_,a1,w1,hq,.of_steps (.one step_block) g8⟩
 |panic ch=>exact⟨_,a1,w1,hq,.of_steps (.one step_block) g8⟩
 |outgrown=>exact⟨_,a1,w1,hq,.of_steps (b:=b) (k:=k) (cs:=cs) (e:=.outgrown) (.one step_block) g8⟩
theorem Ff {c:Code} (h:Av P c (Exit.noGoto Q) a w):Av P (.scope c) Q a w:=by
 intro b k cs hb
 obtain⟨e,a1,w1,hq,g8⟩:=h b (.inScope c::k) cs hb
 cases e with
 |normal=>exact⟨.normal,a1,w1,hq,.head step_scope (Steps.trans g8 (.one step_inScope))⟩
 |exit id=>exact⟨.exit id,a1,w1,hq,fun k' hk=>.head step_scope (g8 k' (by simp[exitTo,hk]))⟩
 |goto l=>exact hq.elim
 |ret=>exact⟨_,a1,w1,hq,.of_steps (.one step_scope) g8⟩
 |panic ch=>exact⟨_,a1,w1,hq,.of_steps (.one step_scope) g8⟩
 |outgrown=>exact⟨_,a1,w1,hq,.of_steps (b:=b) (k:=k) (cs:=cs) (e:=.outgrown) (.one step_scope) g8⟩
def ta (P:Program) (c:Code) (Q:Exit->Act->World->Prop):Nat->Act->World->Prop
 |0=>fun _ _=>False
 |n+1=>Av P c (Exit.then (ta P c Q n) Q)
theorem Hv {c:Code} (n:Nat) (h:ta P c Q n a w):Av P (.loop c) Q a w:=by
 intro b k cs hb
 have key:∀n a w,ta P c Q n a w->∃e a' w',Q e a' w'/\Arrives P (lone (b.at a (.code c::.inLoop c::k)) cs w) b k cs e a' w':=by
  intro n
  induction n with
  |zero=>intro a w h;exact h.elim
  |succ n ih=>
   intro a w h
   obtain⟨e,a1,w1,hq,g8⟩:=h b (.inLoop c::k) cs hb
   by_cases he:e=.normal
   ·subst he
    obtain⟨e2,a2,w2,mb,GH⟩:=ih a1 w1 hq
    exact⟨e2,a2,w2,mb,.of_steps (Steps.trans g8 (.one step_inLoop)) GH⟩
   ·refine⟨e,a1,w1,?_,.pass (x:=.inLoop c) rfl (fun _ _=>.inl he) g8⟩
    cases e<;>first|exact absurd rfl he|exact hq
 obtain⟨e,a',w',hq,g8⟩:=key n a w h
 exact⟨e,a',w',hq,.of_steps (.one step_loop) g8⟩
theorem xn {f:FuncId} {fn:Func} {c:Code} {args:Array Value} {R:Ending->World->Prop} (hf:P.funcs[f]? =some fn) (hb:fn.body=some c)
  (h:Av P c (bodyPost P fn R) {tmps:=args++Array.replicate (fn.ntmps-args.size) undef,defers:=[]} w):Calls P f args w R:=by
 intro cs
 have L6:Frame.enter P f args .normal=({(default:Frame)with fn:=f,kind:=.normal}:Frame).at {tmps:=args++Array.replicate (fn.ntmps-args.size) undef,defers:=[]} [.code c]:=by simp[Frame.enter,Frame.at,hf,hb]
 obtain⟨e,a',w',hq,g8⟩:=h {(default:Frame)with fn:=f,kind:=.normal} [] cs (by simp)
 rw[<-L6]at g8
 cases e with
 |normal=>obtain⟨hd,v,hr,hR⟩:=hq;exact⟨.returned v,w',_,hR,Steps.trans g8 (.one step_end),rfl,rfl,hd,rfl,fn,hf,hr⟩
 |ret=>obtain⟨hd,v,hr,hR⟩:=hq;obtain⟨todo,hs⟩:=g8;exact⟨.returned v,w',_,hR,hs,rfl,rfl,hd,rfl,fn,hf,hr⟩
 |panic chain=>obtain⟨hd,hR⟩:=hq;obtain⟨todo,hs⟩:=g8;exact⟨.panicked chain,w',_,hR,hs,rfl,rfl,hd,fn,hf⟩
 |exit id=>exact hq.elim
 |goto l=>exact hq.elim
 |outgrown=>exact⟨.outgrown,w',{(default:Frame)with fn:=f,kind:=.normal},hq,g8.resolve_left (by simp),rfl,trivial⟩
def u5 (P:Program) (ops:Array Oper) (Q:Exit->Act->World->Prop) (l:List Nat) (a:Act) (w:World):Prop:=
 ∀(b:Frame) (k:List Item) (cs:List Frame),b.kind≠.early->∃e a' w',Q e a' w'/\Arrives P (lone (b.at a (.inRegion ops l::k)) cs w) b k cs e a' w'
theorem Cb {id:Nat} {ops:Array Oper} (h:u5 P ops Q (List.range ops.size) a w):Av P (.region id ops false) Q a w:=
 fun b k cs hb=>let ⟨e,a',w',q,r⟩:=h b k cs hb;⟨e,a',w',q,.of_steps (.one step_region) r⟩
theorem MM {ops:Array Oper} (h:Q .normal a w):u5 P ops Q [] a w:=fun _ _ _ _=>⟨.normal,a,w,h,.one step_region_end⟩
theorem nV {o:Oper} {ys:Nat->Option Bool} (h:o.guard=none):Region.wanted o ys=true:=by simp[Region.wanted,h]
theorem HA {ops:Array Oper} {i:Nat} {rest:List Nat} {o:Oper} {v:Value} (ho:ops[i]? =some o) (hg:o.guard=none) (hr:(execOp a.eval o).run P w=.ok (.value v) w') (h:u5 P ops Q rest (a.put o.dst v) w'):u5 P ops Q (i::rest) a w:=by
 intro b k cs hb
 obtain⟨e,a',w2,hq,g8⟩:=h b k cs hb
 refine⟨e,a',w2,hq,.of_steps (.one ?_) g8⟩
 have rq:(b.at a (.inRegion ops (i::rest)::k)).finish v=b.at (a.put o.dst v) (.inRegion ops rest::k):=by rw[Frame.finish_at,ho];rfl
 rw[<-rq]
 refine step_lone_go ?_
 have h2:=stepG_op (P:=P) (b:=b) (k:=k) (cs:=cs) (w:=w) (rest:=rest) ho (nV hg (ys:=yielded ops a.tmps))
 rw[h2];simp[stepG.apply,hr]
theorem J3 {ops:Array Oper} {i:Nat} {rest:List Nat} {o:Oper} {v z:Value} {c cap s r:Nat} {buf:Array Value} (ho:ops[i]? =some o) (hg:o.guard=none) (hr:(execOp a.eval o).run P w=.ok (.comm #[Conc.scase c v z] true .send) w)
  (hc:w.heap[c]? =some (.chan cap buf false s r false)) (fA:buf.size<cap) (h:u5 P ops Q rest (a.put o.dst undef) (w.setChan c cap (buf.push v) false (s+1) r false)):u5 P ops Q (i::rest) a w:=by
 intro b k cs hb
 obtain⟨e,a',w2,hq,g8⟩:=h b k cs hb
 refine⟨e,a',w2,hq,.of_steps (.one ?_) g8⟩
 have rq:(b.at a (.inRegion ops (i::rest)::k)).finish undef=b.at (a.put o.dst undef) (.inRegion ops rest::k):=by rw[Frame.finish_at,ho];rfl
 rw[<-rq,Conc.lone_eq_solo,Conc.lone_eq_solo]
 exact Conc.step_lone_send_room (Conc.stepG_comm ho (nV hg) hb hr) hc fA
theorem J2 {ops:Array Oper} {i:Nat} {rest:List Nat} {o:Oper} {z:Value} {c cap s r:Nat} {buf:Array Value} (ho:ops[i]? =some o) (hg:o.guard=none) (hr:(execOp a.eval o).run P w=.ok (.comm #[Conc.rcase c z] true (.recv false)) w)
  (hc:w.heap[c]? =some (.chan cap buf false s r false)) (G4:0<buf.size) (h:u5 P ops Q rest (a.put o.dst (buf.getD 0 undef)) (w.setChan c cap (buf.extract 1 buf.size) false s (r+1) false)):u5 P ops Q (i::rest) a w:=by
 intro b k cs hb
 obtain⟨e,a',w2,hq,g8⟩:=h b k cs hb
 refine⟨e,a',w2,hq,.of_steps (.one ?_) g8⟩
 have rq:(b.at a (.inRegion ops (i::rest)::k)).finish (buf.getD 0 undef)=b.at (a.put o.dst (buf.getD 0 undef)) (.inRegion ops rest::k):=by rw[Frame.finish_at,ho];rfl
 rw[<-rq,Conc.lone_eq_solo,Conc.lone_eq_solo]
 exact Conc.step_lone_recv_buf false (Conc.stepG_comm ho (nV hg) hb hr) hc G4
end
section
variable {hs:Nat} {g:Rows} {env:Env} {a:Act} {o:Oper}
theorem JE {x y:O} (hc:pC P o.op=some (.snd x y)):∃x' y',o.op=.send x' y'/\cO P x'=some x/\cO P y'=some y:=by
 unfold pC at hc
 split at hc
 case h_25=>
  rename_i x' y' h
  simp only[Option.bind_eq_bind,Option.bind_eq_some_iff,Option.pure_def,Option.some.injEq,fP.snd.injEq]at hc
  obtain⟨p,h1,q,h2,rfl,rfl⟩:=hc
  exact⟨_,_,h,h1,h2⟩
 all_goals (try unfold mK at hc)<;>(try unfold tt at hc)<;>(try unfold qY at hc)<;>(repeat' (split at hc))<;>(simp only[Option.bind_eq_bind,Option.bind_eq_some_iff,Option.pure_def,Option.some.injEq,Option.map_eq_some_iff,reduceCtorEq,and_false,exists_false]at hc)
theorem JD {x:O} (hc:pC P o.op=some (.MR x)):∃t dir e i z x',o.op=.recv t x' false/\P.underlying t=some (.chan dir e)/\P.info? e=some i/\i.zero=some z/\cO P x'=some x:=by
 unfold pC at hc
 split at hc
 case h_26=>
  rename_i t x' h
  split at hc
  ·rename_i dir e ht
   split at hc
   ·rename_i z hz
    simp only[Option.bind_eq_some_iff]at hz
    obtain⟨i,hi,hz⟩:=hz
    simp only[Option.map_eq_some_iff,fP.MR.injEq]at hc
    obtain⟨p,h1,rfl⟩:=hc
    exact⟨t,dir,e,i,z,x',h,ht,hi,hz,h1⟩
   ·cases hc
  ·cases hc
 all_goals (try unfold mK at hc)<;>(try unfold tt at hc)<;>(try unfold qY at hc)<;>(repeat' (split at hc))<;>(simp only[Option.bind_eq_bind,Option.bind_eq_some_iff,Option.pure_def,Option.some.injEq,Option.map_eq_some_iff,reduceCtorEq,and_false,exists_false]at hc)
theorem Of {x y:O} {g':Rows} (S:fW P hs D ι g w) (hc:pC P o.op=some (.snd x y)) (E:bI P w D ι env a) (hv:ev g (cE env x) (cE env y)=some g'):
  ∃c cap s r buf u,(execOp a.eval o).run P w=.ok (.comm #[Conc.scase c u (.tuple #[])] true .send) w/\w.heap[c]? =some (.chan cap buf false s r false)/\buf.size<cap/\fW P hs D ι g' (w.setChan c cap (buf.push u) false (s+1) r false)/\Step hs D ι w D ι (w.setChan c cap (buf.push u) false (s+1) r false):=by
 obtain⟨x',y',ho,hx,hy⟩:=JE hc
 have rx:=cN E hx
 have ry:=cN E hy
 unfold ev at hv
 split at hv
 ·rename_i i he
  simp only[Option.bind_eq_some_iff]at hv
  obtain⟨r,hg,hv⟩:=hv
  split at hv
  ·rename_i hcond
   simp only[Option.some.injEq]at hv
   subst hv
   obtain⟨B,c,hu,hB,hk,eY,buf,s,q,hb,Im,hR⟩:=xo S rx he hg
   obtain⟨B',dz,RR,_⟩:=S.row i r hg
   rw[hB]at dz;injection dz with dz;subst dz
   have mY:=S.FH (ob:=.chan c (buf.push (a.eval y')) false (s+1) q false) (r':={r with rows:=r.rows++[[cE env y]]}) hg hcond.1 hB fun hr kh=>⟨RR.sz,fun cs dn=>?_,fun h0=>(by rw[hk]at h0;cases h0),fun m hm=>(by rw[hk]at hm;cases hm),fun c' kf=>?_⟩
   ·exact⟨B.b,c,s,q,buf,a.eval y',by simp[execOp,ho,hu,Conc.scase],hb,by rw[Im];omega,mY.1,mY.2⟩
   ·rcases List.mem_append.1 dn with h|h
    ·exact RR.flat cs h
    ·rw[List.mem_singleton.1 h]
     intro b rn
     rw[List.mem_singleton.1 rn];exact hcond.2.2
   ·rw[hk]at kf
    simp only[Option.some.injEq,BK.chan.injEq]at kf
    subst kf
    refine⟨eY,_,_,_,kh,by simp[Im],fun j cs hj=>?_⟩
    rw[List.getElem?_append]at hj
    split at hj
    ·rename_i dR
     obtain⟨b,u,q1,q2,q3⟩:=hR j cs hj
     refine⟨b,u,q1,?_,hr _ _ q3⟩
     rw[Array.getElem?_push,if_neg ab];exact q2
    ·rename_i jO
     have gG:j=r.rows.length:=by
      have:=(List.getElem?_eq_some_iff.1 hj).1
      simp at this;omega
     subst gG
     simp at hj
     subst hj
     exact⟨_,_,rfl,by rw[Array.getElem?_push,if_pos Im.symm],hr _ _ ry⟩
  ·cases hv
 ·cases hv
theorem Oe {x:O} {g':Rows} {v:AV} (S:fW P hs D ι g w) (hc:pC P o.op=some (.MR x)) (E:bI P w D ι env a) (hv:eu g (cE env x)=some (v,g')):
  ∃c cap s r buf z,(execOp a.eval o).run P w=.ok (.comm #[Conc.rcase c z] true (.recv false)) w/\w.heap[c]? =some (.chan cap buf false s r false)/\0<buf.size/\fW P hs D ι g' (w.setChan c cap (buf.extract 1 buf.size) false s (r+1) false)/\Step hs D ι w D ι (w.setChan c cap (buf.extract 1 buf.size) false s (r+1) false)/\cG P (w.setChan c cap (buf.extract 1 buf.size) false s (r+1) false) D ι v (buf.getD 0 undef):=by
 obtain⟨t,dir,e,i0,z,x',ho,ht,hi,hz,hx⟩:=JD hc
 have rx:=cN E hx
 unfold eu at hv
 split at hv
 ·rename_i i he
  simp only[Option.bind_eq_some_iff]at hv
  obtain⟨r,hg,hv⟩:=hv
  split at hv
  ·rename_i v' rest qb
   split at hv
   ·rename_i hcond
    simp only[Option.some.injEq,Prod.mk.injEq]at hv
    obtain⟨rfl,rfl⟩:=hv
    obtain⟨B,c,hu,hB,hk,eY,buf,s,q,hb,Im,hR⟩:=xo S rx he hg
    obtain⟨B',dz,RR,_⟩:=S.row i r hg
    rw[hB]at dz;injection dz with dz;subst dz
    obtain⟨b0,u0,q1,q2,q3⟩:=hR 0 [v'] (by rw[qb];rfl)
    simp only[List.cons.injEq,and_true]at q1
    subst q1
    have jq:0<buf.size:=by rw[Im,qb];simp
    have QA:buf.getD 0 undef=u0:=by rw[Array.getD_eq_getD_getElem?,q2];rfl
    have mY:=S.FH (ob:=.chan c (buf.extract 1 buf.size) false s (q+1) false) (r':={r with rows:=rest}) hg hcond hB fun hr kh=>⟨RR.sz,fun cs dn=>RR.flat cs (by rw[qb];exact List.mem_cons_of_mem _ dn),fun h0=>(by rw[hk]at h0;cases h0),fun m hm=>(by rw[hk]at hm;cases hm),fun c' kf=>?_⟩
    ·refine⟨B.b,c,s,q,buf,z,?_,hb,jq,mY.1,mY.2,?_⟩
     ·have tV:(zeroValue e).run P w=.ok z w:=by simp[zeroValue,typeInfo,hi,hz]
      simp[execOp,ho,hu,Conc.rcase,run_underlying ht,tV]
     ·rw[QA];exact mY.2.rep q3
    ·rw[hk]at kf
     simp only[Option.some.injEq,BK.chan.injEq]at kf
     subst kf
     refine⟨eY,_,_,_,kh,by simp[Im,qb],fun j cs hj=>?_⟩
     obtain⟨b,u,k1,k2,k3⟩:=hR (j+1) cs (by rw[qb];simpa using hj)
     refine⟨b,u,k1,?_,hr _ _ k3⟩
     have dR:=(Array.getElem?_eq_some_iff.1 k2).1
     rw[Array.getElem?_extract,if_pos ab,Nat.add_comm 1 j];exact k2
   ·cases hv
  ·cases hv
 ·cases hv
theorem D7 {ops:Array Oper} {nt site0:Nat} {K:Env->aw->Prop} {Q:Exit->Act->World->Prop}:∀(l:List Oper) (vl:List bj) (j:Nat) (env:Env) (σ:aw) (a:Act) (w:World) (D:Nat->Prop) (ι:Names),
  ops.toList.drop j=l->allM (lx P ops nt site0 false false #[] []) l j=some vl->cr vl K env σ->fW P hs D ι σ.get w->Used ι σ.next (fun _=>False)->bI P w D ι env a->a.tmps.size=nt->
  (∀gZ σ' a' w' D' ι',K gZ σ'->Step hs D ι w D' ι' w'->St P hs nt D' ι' gZ σ' a' w'->a'.defers=a.defers->σ.next<=σ'.next->Q .normal a' w')->u5 P ops Q (List.range' j l.length) a w:=by
 intro l
 induction l with
 |nil=>
  intro vl j env σ a w D ι _ h hv S Us E eY hQ
  simp[allM]at h;subst h
  exact MM (hQ env ⟨σ.get,σ.next+1⟩ a w D ι hv (Step.refl _ _ _ _) ⟨S,Us.next,E,eY⟩ rfl (Nat.le_succ _))
 |cons o l ih=>
  intro vl j env σ a w D ι hl h hv S Us E eY hQ
  simp only[allM,Option.bind_eq_bind,Option.bind_eq_some_iff,Option.pure_def,Option.some.injEq]at h
  obtain⟨vo,oF,rO,qR,rfl⟩:=h
  obtain⟨hc,hd,zJ,vn,hg⟩:=n8 oF
  obtain⟨OR,hv⟩:=hv
  have RX:o.guard=none:=by
   split at hg
   ·assumption
   ·obtain⟨t,_,h⟩:=hg
    rw[OR]at h;cases h
  have RY:ops[j]? =some o:=by
   have h0:=congrArg (fun x=>x[0]?) hl
   rw[<-Array.getElem?_toList]
   simpa[List.getElem?_drop]using h0
  have Iz:ops.toList.drop (j+1)=l:=by rw[<-List.drop_drop,hl];rfl
  have go:∀(v:AV) (u:Value) (g2:Rows) (w2:World),cr rO K (upd env vo.dst v) ⟨g2,σ.next⟩->fW P hs D ι g2 w2->Step hs D ι w D ι w2->cG P w2 D ι v u->u5 P ops Q (List.range' (j+1) l.length) (a.put o.dst u) w2:=fun v u g2 w2 hn S2 T hR=>
   ih rO (j+1) (upd env vo.dst v) ⟨g2,σ.next⟩ (a.put o.dst u) w2 D ι Iz qR hn S2 Us (by rw[hd];exact l6 (nB E T) hR vn eY) (by rw[kq];exact eY) fun gZ σ2 a' w3 D3 ι3 hk T2 N6 Bw l9=>hQ gZ σ2 a' w3 D3 ι3 hk (T.trans T2) N6 (Bw.trans (put_defers _ _ _)) l9
  rw[show List.range' j (o::l).length=j::List.range' (j+1) l.length from rfl]
  split at hv
  ·rename_i x y dN
   split at hv
   ·rename_i g2 NQ
    rw[dN]at hc
    obtain⟨c,cap,s,r,buf,u,gS,hb,fA,S2,T⟩:=Of S hc E NQ
    exact J3 RY RX gS hb fA (go _ _ _ _ hv S2 T cG.undef)
   ·exact hv.elim
  ·rename_i x dN
   split at hv
   ·rename_i v g2 NQ
    rw[dN]at hc
    obtain⟨c,cap,s,r,buf,z,gS,hb,G4,S2,T,hR⟩:=Oe S hc E NQ
    exact J2 RY RX gS hb G4 (go _ _ _ _ hv S2 T hR)
   ·exact hv.elim
  ·split at hv
   ·rename_i v hq
    obtain⟨u,gS,hR⟩:=wY hc hq S E
    exact HA RY RX gS (go _ _ _ _ hv S (Step.refl _ _ _ _) hR)
   ·exact hv.elim
end
end Go.Proofs.YtihgaadadaekmaaGreat.V

namespace Go.Proofs.YtihgaadadaekmaaGreat.V
open Go.RowKit
variable {P:Program} {w w':World} {D D' D2:Nat->Prop} {ι ι' ι2:Names}
section
variable {hs:Nat} {X:fj}
def exO:Ex->Exit
 | .normal=>.normal
 | .exit id=>.exit id
 | .ret=>.ret
theorem St.drew {nt:Nat} {env:Env} {σ:aw} {a:Act} {D:Nat->Prop} {ι:Names} (h:St P hs nt D ι env σ a w):St P hs nt D ι env σ a w.drew/\Step hs D ι w D ι w.drew:=by
 have T:Step hs D ι w D ι w.drew:=Step.stay h.IG (fun _ _=>rfl) (Nat.le_refl _) rfl rfl rfl (fun _ h=>h) (fun _ h=>.inl h) (fun _ _ h=>h)
 exact⟨⟨h.IG.stay (fun _ _=>rfl) (Nat.le_refl _) (fun _ h=>h) h.IG.dead (fun _ h=>.inl h) (fun _ _ h=>h),h.used,nB h.env T,h.size⟩,T⟩
def vU (P:Program) (hs nt:Nat) (ds:List Deferred) (Q:Ex->Env->aw->Prop) (n0:Nat) (D:Nat->Prop) (ι:Names) (w:World) (Q':Exit->Act->World->Prop):Prop:=
 ∀ex env σ a w' D' ι',Q ex env σ->Step hs D ι w D' ι' w'->St P hs nt D' ι' env σ a w'->a.defers=ds->n0<=σ.next->Q' (exO ex) a w'
theorem vU.later {nt:Nat} {ds:List Deferred} {Q:Ex->Env->aw->Prop} {n0 n1:Nat} {Q':Exit->Act->World->Prop} (h:vU P hs nt ds Q n0 D ι w Q') (T:Step hs D ι w D' ι' w') (hn:n0<=n1):vU P hs nt ds Q n1 D' ι' w' Q':=
 fun ex env σ a w2 D2 ι2 hq T2 eB hd hle=>h ex env σ a w2 D2 ι2 hq (T.trans T2) eB hd (Nat.le_trans hn hle)
theorem AZ (hm:P.follows .mixedOrders=true) {md:List (Nat×Nat)} {nt tG:Nat}:∀(c:Code) (vc:VC),iD P md nt tG c=some vc->∀(Q:Ex->Env->aw->Prop) (env:Env) (σ:aw) (a:Act) (w:World) (D:Nat->Prop) (ι:Names) (Q':Exit->Act->World->Prop),
  eb (Sound P) vc Q env σ->St P hs nt D ι env σ a w->vU P hs nt a.defers Q σ.next D ι w Q'->Av P c Q' a w:=by
 intro c
 induction c with
 |skip=>
  intro vc h Q env σ a w D ι Q' hv eB hQ
  simp[iD]at h;subst h
  exact pr <| wp_skip (hQ .normal env σ a w D ι hv (Step.refl _ _ _ _) eB rfl (Nat.le_refl _))
 |exit id=>
  intro vc h Q env σ a w D ι Q' hv eB hQ
  simp[iD]at h;subst h
  exact pr <| wp_exit (hQ (.exit id) env σ a w D ι hv (Step.refl _ _ _ _) eB rfl (Nat.le_refl _))
 |ret=>
  intro vc h Q env σ a w D ι Q' hv eB hQ
  simp[iD]at h;subst h
  exact pr <| wp_ret (hQ .ret env σ a w D ι hv (Step.refl _ _ _ _) eB rfl (Nat.le_refl _))
 |seq x y ihx ihy=>
  intro vc h Q env σ a w D ι Q' hv eB hQ
  simp only[iD,Option.bind_eq_bind,Option.bind_eq_some_iff,Option.pure_def,Option.some.injEq]at h
  obtain⟨vx,hx,vy,hy,rfl⟩:=h
  refine JY (ihx vx hx _ env σ a w D ι _ hv eB fun ex jG σ1 a1 w1 D1 ι1 hq T j5 hd hle=>?_)
  cases ex with
  |normal=>exact ihy vy hy Q jG σ1 a1 w1 D1 ι1 Q' hq j5 (by rw[hd];exact hQ.later T hle)
  |exit id=>exact hQ (.exit id) jG σ1 a1 w1 D1 ι1 hq T j5 hd hle
  |ret=>exact hQ .ret jG σ1 a1 w1 D1 ι1 hq T j5 hd hle
 |cond c x y ihx ihy=>
  intro vc h Q env σ a w D ι Q' hv eB hQ
  simp only[iD,Option.bind_eq_bind,Option.bind_eq_some_iff,Option.pure_def,Option.some.injEq]at h
  obtain⟨c',hc,vx,hx,vy,hy,rfl⟩:=h
  unfold eb at hv
  have hr:=cN eB.env hc
  split at hv
  ·rename_i b hb
   rw[hb]at hr
   refine Hu (eS hr) ?_
   cases b with
   |true=>exact ihx vx hx Q env σ a w D ι Q' hv eB hQ
   |false=>exact ihy vy hy Q env σ a w D ι Q' hv eB hQ
  ·exact hv.elim
 |block id c ih=>
  intro vc h Q env σ a w D ι Q' hv eB hQ
  simp only[iD,Option.map_eq_some_iff]at h
  obtain⟨vx,hx,rfl⟩:=h
  refine Fe (ih vx hx _ env σ a w D ι _ hv eB fun ex jG σ1 a1 w1 D1 ι1 hq T j5 hd hle=>?_)
  cases ex with
  |normal=>exact hQ .normal jG σ1 a1 w1 D1 ι1 hq T j5 hd hle
  |ret=>exact hQ .ret jG σ1 a1 w1 D1 ι1 hq T j5 hd hle
  |exit ki=>
   simp only[bq]at hq
   simp only[exO,Exit.inBlock]
   by_cases hid:ki=id
   ·rw[if_pos hid]at hq ⊢;exact hQ .normal jG σ1 a1 w1 D1 ι1 hq T j5 hd hle
   ·rw[if_neg hid]at hq ⊢;exact hQ (.exit ki) jG σ1 a1 w1 D1 ι1 hq T j5 hd hle
 |loop c ih=>
  intro vc h Q env σ a w D ι Q' hv eB hQ
  simp only[iD,Option.map_eq_some_iff]at h
  obtain⟨vx,hx,rfl⟩:=h
  obtain⟨n,hv⟩:=hv
  refine Hv n ?_
  have key:∀n env σ a w D ι,Dt (eb (Sound P) vx) Q n env σ->St P hs nt D ι env σ a w->vU P hs nt a.defers Q σ.next D ι w Q'->ta P c Q' n a w:=by
   intro n
   induction n with
   |zero=>intro env σ a w D ι h;exact h.elim
   |succ n ihn=>
    intro env σ a w D ι h eB hQ
    refine ih vx hx _ env σ a w D ι _ h eB fun ex jG σ1 a1 w1 D1 ι1 hq T j5 hd hle=>?_
    cases ex with
    |normal=>exact ihn jG σ1 a1 w1 D1 ι1 hq j5 (by rw[hd];exact hQ.later T hle)
    |exit id=>exact hQ (.exit id) jG σ1 a1 w1 D1 ι1 hq T j5 hd hle
    |ret=>exact hQ .ret jG σ1 a1 w1 D1 ι1 hq T j5 hd hle
  exact key n env σ a w D ι hv eB hQ
 |region id ops draw=>
  intro vc h Q env σ a w D ι Q' hv eB hQ
  simp only[iD,Od]at h
  split at h
  ·rename_i hmode
   have Rx:draw=true:=by
    simp only[Bool.and_eq_true]at hmode;exact hmode.1
   subst Rx
   split at h
   ·rename_i vl dt
    obtain⟨qc,T0⟩:=eB.drew
    have Bp:=FG (X:=Sound P) oU ops.size _ vc env σ h (fun k i h=>by
     exfalso
     rcases Nat.lt_or_ge k ops.size with hk|hk
     ·simp[hk]at h
     ·simp[Nat.not_lt.2 hk]at h) hv
    refine pr (wp_region_any hm ?_)
    exact CG dt ops.size _ env σ a w.drew D ι (fun _=>False) Bp qc.IG qc.used (fun _ h=>h.elim) qc.env qc.size fun jG σ1 a1 w1 D1 ι1 hk T j5 hd hle=>hQ .normal jG σ1 a1 w1 D1 ι1 hk (T0.trans T) j5 hd hle
   ·cases h
  split at h
  ·rename_i hcom
   have Rx:draw=false:=by
    simp only[Bool.and_eq_true,Bool.not_eq_true']at hcom;exact hcom.1
   subst Rx
   simp only[Option.map_eq_some_iff]at h
   obtain⟨vl,qR,rfl⟩:=h
   have dt:allM (lx P ops nt ((tG*1000+id)*1000) false false #[] []) ops.toList 0=some vl:=by
    unfold pS at qR
    simp only[Bool.false_eq_true,if_false,Bool.not_false,Bool.true_or,if_true]at qR
    split at qR
    ·rename_i rO h;simp at qR;subst qR;exact h
    ·cases qR
   refine Cb ?_
   have:=D7 (Q:=Q') ops.toList vl 0 env σ a w D ι rfl dt hv eB.IG eB.used eB.env eB.size fun jG σ1 a1 w1 D1 ι1 hk T j5 hd hle=>hQ .normal jG σ1 a1 w1 D1 ι1 hk T j5 hd hle
   rwa [<-List.range_eq_range',Array.length_toList]at this
  generalize (ui md id==1)=mk at h
  simp only[Option.map_eq_some_iff]at h
  obtain⟨vl,qR,rfl⟩:=h
  cases draw with
  |false=>
   have dt:∃rO,allM (lx P ops nt ((tG*1000+id)*1000) false mk #[] []) ops.toList 0=some rO/\vl=rO:=by
    unfold pS at qR
    simp only[Bool.false_eq_true,if_false,Bool.not_false,Bool.true_or,if_true]at qR
    split at qR
    ·rename_i rO h;simp at qR;exact⟨rO,h,qR.symm⟩
    ·cases qR
   obtain⟨rO,dt,rfl⟩:=dt
   refine pr (wp_region_list ?_)
   exact Fh ops.toList vl 0 env σ a w D ι (fun _=>False) dt hv eB.IG eB.used (fun _ h=>h.elim) eB.env eB.size fun jG σ1 a1 w1 D1 ι1 hk T j5 hd hle=>hQ .normal jG σ1 a1 w1 D1 ι1 hk T j5 hd hle
  |true=>
   have dt:∃hidden rO,allM (lx P ops nt ((tG*1000+id)*1000) true mk (jf ops) hidden) ops.toList 0=some rO/\vl=rO/\nA ops rO (jf ops)=true:=by
    unfold pS at qR
    simp only[if_true,Bool.not_true,Bool.false_or]at qR
    split at qR
    ·rename_i rO h
     split at qR
     ·rename_i qa;simp at qR;exact⟨_,rO,h,qR.symm,qa⟩
     ·cases qR
    ·cases qR
   obtain⟨hidden,rO,dt,rfl,qa⟩:=dt
   obtain⟨qc,T0⟩:=eB.drew
   obtain⟨hlen,_⟩:=nq dt
   have kg:vl.length=ops.size:=by rw[hlen];simp
   have Bp:=uS (X:=Sound P) (K:=Q .normal) (n:=σ.next) qa kg vl 0 (Array.replicate ops.size false) env σ.get (by simp) (by simp) (fun i hi=>by simp[hi]) (by simp[kg]) (fun k i h=>by
    exfalso
    rcases Nat.lt_or_ge k ops.size with hk|hk
    ·simp[hk]at h
    ·simp[Nat.not_lt.2 hk]at h) hv
   refine pr (wp_region_any hm ?_)
   rw[kg]at Bp
   exact vW dt ops.size _ env σ.get a w.drew D ι (fun _=>False) Bp qc.IG qc.used (fun _ h=>h.elim) qc.env qc.size fun jG g1 a1 w1 D1 ι1 U1 hk T S1 QP E1 yK hd=>hQ .normal jG ⟨g1,σ.next+1⟩ a1 w1 D1 ι1 hk (T0.trans T) ⟨S1,QP.next,E1,yK⟩ hd (Nat.le_succ _)
 |label l=>
  intro vc h Q env σ a w D ι Q' hv eB hQ
  simp[iD]at h;subst h
  exact pr <| wp_label (hQ .normal env σ a w D ι hv (Step.refl _ _ _ _) eB rfl (Nat.le_refl _))
 |scope c ih=>
  intro vc h Q env σ a w D ι Q' hv eB hQ
  simp only[iD]at h
  refine Ff (ih vc h Q env σ a w D ι _ hv eB fun ex jG σ1 a1 w1 D1 ι1 hq T j5 hd hle=>?_)
  have h1:=hQ ex jG σ1 a1 w1 D1 ι1 hq T j5 hd hle
  cases ex with
  |normal=>exact h1
  |exit id=>exact h1
  |ret=>exact h1
 |_=>
  intro vc h
  simp[iD]at h
def HF (tmps:Array Value):ResultVar->Sem Value
 | .tmp t=>pure (tmps.getD t undef)
 | .cell a t=>do loadVar t (<-asAddr (tmps.getD a undef))
theorem Cl (fn:Func) (tmps:Array Value):results fn tmps=(do
  let vs <-fn.results.mapM (HF tmps)
  pure (if h:vs.size=1 then vs[0]else .tuple vs)):=by
 unfold results
 congr 2
theorem so {nt:Nat} {env:Env} {σ:aw} {a:Act} {D:Nat->Prop} {ι:Names} (eB:St P hs nt D ι env σ a w):∀(rs:List ResultVar) (vr:List oB) (vs:List AV),rs.mapM (DY P)=some vr->fb env σ.get vr=some vs->
  ∃us:List Value,(rs.mapM (HF a.tmps)).run P w=.ok us w/\us.length=vs.length/\∀(j:Nat) (v:AV),vs[j]? =some v->∃u,us[j]? =some u/\cG P w D ι v u
 |[],vr,vs,h,hv=>by
  simp at h;subst h
  simp[fb]at hv;subst hv
  exact⟨[],by simp,rfl,fun j v h=>by simp at h⟩
 |r::rs,vr,vs,h,hv=>by
  simp only[List.mapM_cons,Option.bind_eq_bind,Option.bind_eq_some_iff]at h
  obtain⟨x,hx,vr',hr,h⟩:=h
  simp at h;subst h
  simp only[fb,Option.bind_eq_some_iff,Option.map_eq_some_iff]at hv
  obtain⟨v,wH,vs',Pb,rfl⟩:=hv
  obtain⟨us,h1,h2,h3⟩:=so eB rs vr' vs' hr Pb
  have one:∃u,(HF a.tmps r).run P w=.ok u w/\cG P w D ι v u:=by
   cases r with
   |tmp t=>
    simp[DY]at hx;subst hx
    simp[gY]at wH;subst wH
    exact⟨_,rfl,eB.env t⟩
   |cell b t=>
    simp only[DY,Option.bind_eq_bind,Option.bind_eq_some_iff,Option.pure_def,Option.some.injEq]at hx
    obtain⟨ag,s5,n,hn,rfl⟩:=hx
    simp only[gY]at wH
    have gx:=eB.env b
    unfold ld at wH
    split at wH
    ·rename_i ki i' oo hb
     rw[hb]at gx
     obtain⟨B,he,hB,hk⟩:=jb gx
     simp only[Option.bind_eq_some_iff]at wH
     obtain⟨cs,dn,hp⟩:=wH
     obtain⟨B',r0,FP,dz,R,hi,fl,f,hf⟩:=HI (S:=eB.IG) dn (fun B2 h2=>by rw[hB]at h2;injection h2 with h2;subst h2;exact hk)
     rw[hB]at dz;injection dz with dz;subst dz
     obtain⟨u,k1,k2⟩:=j8 (w:=w) (b:=B.b) (oo:=i'*B.sz+oo) (f:=fun j=>f (oo+j)) s5 hn hp (fun a ha=>fl a (List.mem_of_mem_drop ha)) (fun j hj=>by
      rw[Nat.add_assoc];exact(hf _ (by simp at hj;omega)).1) (fun j a ha=>by
      simp at ha;exact(hf _ ((List.getElem?_eq_some_iff.1 ha).1)).2 _ ha)
     exact⟨u,by simp only[HF,he,asAddr,Sem.run_bind,Sem.run_pure,Result.andThen_ok,k1],k2⟩
    ·rename_i cs hb
     rw[hb]at gx
     obtain⟨b',oo,vs2,he,q1,q2,q3,q4⟩:=kA gx
     obtain⟨u,k1,k2⟩:=j8 (w:=w) (b:=b') (oo:=oo) (f:=vs2) s5 hn wH q2 q3 (fun j a ha=>.eK _ _ (q4 j a ha))
     exact⟨u,by simp only[HF,he,asAddr,Sem.run_bind,Sem.run_pure,Result.andThen_ok,k1],k2⟩
    ·simp at wH
  obtain⟨u,hu,vG⟩:=one
  refine⟨u::us,?_,by simp[h2],fun j v' hj=>?_⟩
  ·rw[List.mapM_cons]
   simp only[Sem.run_bind,hu,h1,Result.andThen_ok,Sem.run_pure]
  ·cases j with
   |zero=>simp at hj;subst hj;exact⟨u,rfl,vG⟩
   |succ j=>simp at hj ⊢;exact h3 j v' hj
theorem AR {f:Nat} {fn:Func} {c:Code} {args:List AV} {σ:aw} {K:AV->aw->Prop} {vr:List oB} (Ql:P.funcs[f]? =some fn) (hc:fn.body=some c) (hr:fn.results.toList.mapM (DY P)=some vr) (ha:fn.params.size+fn.nfree=args.length) (hle:fn.params.size+fn.nfree<=fn.ntmps)
  (h:∀(hs:Nat) (w:World) (D:Nat->Prop) (ι:Names) (a:Act) (Q':Exit->Act->World->Prop),St P hs fn.ntmps D ι (cm args) σ a w->vU P hs fn.ntmps a.defers (la vr K) σ.next D ι w Q'->Av P c Q' a w):Sound P f args σ K:=by
 intro hs D ι w vs S Us A
 have eY:vs.size=args.length:=A.1
 refine xn Ql hc ?_
 refine h hs w D ι _ _ ⟨S,Us,fun t=>?_,by simp;omega⟩ fun ex jG σ1 a1 w1 D1 ι1 hq T j5 hd hle=>?_
 ·simp only[cm]
  by_cases dR:t<args.length
  ·obtain⟨u,hu,vG⟩:=A.2 t args[t] (List.getElem?_eq_getElem dR)
   have e1:args.getD t .undef=args[t]:=by simp[List.getD_eq_getElem?_getD,dR]
   have e2:(vs++Array.replicate (fn.ntmps-vs.size) undef).getD t undef=u:=by
    simp only[Array.getD_eq_getD_getElem?]
    rw[Array.getElem?_append_left ab,hu];rfl
   rw[e1,e2];exact vG
  ·have e1:args.getD t .undef=.undef:=by simp[List.getD_eq_getElem?_getD,Nat.le_of_not_lt dR]
   have e2:(vs++Array.replicate (fn.ntmps-vs.size) undef).getD t undef=undef:=by
    simp only[Array.getD_eq_getD_getElem?]
    rw[Array.getElem?_append_right ab,Array.getElem?_replicate]
    split<;>rfl
   rw[e1,e2];exact cG.undef
 ·have fin:(∃vs,fb jG σ1.get vr=some vs/\K (dr vs) σ1)->a1.defers=[]/\∃v,(results fn a1.tmps).run P w1=.ok v w1/\∃r g' n' D' ι' u,Ending.returned v=.returned u/\K r ⟨g',n'⟩/\Step hs D ι w D' ι' w1/\fW P hs D' ι' g' w1/\Used ι' n' (fun _=>False)/\σ.next<=n'/\cG P w1 D' ι' r u:=by
   rintro⟨avs,Pb,hK⟩
   obtain⟨us,h1,h2,h3⟩:=so j5 fn.results.toList vr avs hr Pb
   have Mp:(results fn a1.tmps).run P w1=.ok (if h:us.toArray.size=1 then us.toArray[0]else .tuple us.toArray) w1:=by
    rw[Cl,Array.mapM_eq_mapM_toList]
    simp only[Sem.run_bind,Sem.run_map,h1,Result.andThen_ok,Sem.run_pure]
   refine⟨hd,_,Mp,dr avs,σ1.get,σ1.next,D1,ι1,_,rfl,hK,T,j5.IG,j5.used,hle,?_⟩
   unfold dr
   split
   ·rename_i v
    have hl:us.length=1:=h2
    obtain⟨u,hu,vG⟩:=h3 0 v rfl
    rw[dif_pos (by simpa using hl)]
    have:us.toArray[0]'(by simp[hl])=u:=by
     have:=(List.getElem?_eq_some_iff.1 hu).2
     simpa using this
    rw[this];exact vG
   ·rename_i gU
    rw[dif_neg (by
     simp only[List.size_toArray,h2]
     intro h
     obtain⟨v,hv⟩:=List.length_eq_one_iff.1 h
     exact gU v hv)]
    exact .gE _ _ (fun j=>us.getD j undef) (by simp[h2]) (fun j hj=>by
     have:j<us.length:=by rw[h2];exact hj
     simp[this]) (fun j v hj=>by
     obtain⟨u,hu,vG⟩:=h3 j v hj
     simpa[List.getD_eq_getElem?_getD,hu]using vG)
  cases ex with
  |normal=>exact fin hq
  |ret=>exact fin hq
  |exit id=>exact hq.elim
theorem GC (hm:P.follows .mixedOrders=true) {f:Nat} {md:List (Nat×Nat)} {vf:vV} {args:List AV} {σ:aw} {K:AV->aw->Prop} (hf:sD P f md=some vf) (ha:vf.wT=args.length) (h:eb (Sound P) vf.body (la vf.res K) (cm args) σ):Sound P f args σ K:=by
 unfold sD at hf
 split at hf
 ·rename_i fn Ql
  split at hf
  ·rename_i c hc
   simp only[Option.bind_eq_bind,Option.bind_eq_some_iff]at hf
   obtain⟨vb,hb,vr,hr,hf⟩:=hf
   split at hf
   ·rename_i hle
    simp only[Option.pure_def,Option.some.injEq]at hf
    subst hf
    simp only at ha h
    exact AR Ql hc hr ha hle fun hs w D ι a Q' eB hQ=>AZ hm c vb hb (la vr K) (cm args) σ a w D ι Q' h eB hQ
   ·simp at hf
  ·simp at hf
 ·simp at hf
def K7 (P:Program) (X:fj):fj:=fun f args σ K=>(∃md vf,sD P f md=some vf/\vf.wT=args.length/\((∀a∈args,eG a)->eb X vf.body (la vf.res K) (cm args) σ))∨Sound P f args σ K
def Call (P:Program):fj:=fun f args σ K=>∀X:fj,oG X->(∀f args σ K,K7 P X f args σ K->X f args σ K)->X f args σ K
theorem gJ (hm:P.follows .mixedOrders=true) {f:Nat} {args:List AV} {σ:aw} {K:AV->aw->Prop} (h:Call P f args σ K):Sound P f args σ K:=
 h (Sound P) oU fun f args σ K hs=>by
  rcases hs with⟨md,vf,h1,h2,h3⟩|h
  ·intro hs D ι w vs S U A
   exact GC hm h1 h2 (h3 (nM fun j a hj=>by obtain⟨u,_,hr⟩:=A.2 j a hj;exact hr.Hd)) hs D ι w vs S U A
  ·exact h
end
end Go.Proofs.YtihgaadadaekmaaGreat.V

namespace Go.Proofs.YtihgaadadaekmaaGreat.V
open Go.RowKit
variable {P:Program} {X Y:fj}
theorem F3 (h:∀f args σ K,X f args σ K->Y f args σ K) {f:Nat} {args:List AV} {σ:aw} {K:AV->Prop} (hp:gH X f args σ K):gH Y f args σ K:=by
 rcases hp with hp|⟨a,h1,h2⟩
 ·exact .inl (h _ _ _ _ hp)
 ·exact .inr ⟨a,h1,h _ _ _ _ h2⟩
theorem II (h:∀f args σ K,X f args σ K->Y f args σ K) {f:Nat} {args:List AV} {σ:aw} {sz:Nat} {rows:List (List AV)} (hp:CM X f args σ sz rows):CM Y f args σ sz rows:=by
 obtain⟨h1,a,h2,h3⟩:=hp
 exact⟨h1,a,h2,h _ _ _ _ h3⟩
theorem oZ (h:∀f args σ K,X f args σ K->Y f args σ K) (hK:∀f args σ K K',(∀r σ',K r σ'->K' r σ')->Y f args σ K->Y f args σ K') {draw:Bool} {hid:List Nat} {site:Nat} {f:Nat} {args:List AV} {σ:aw} {n n':AV->aw->Prop} (hn:∀v σ',n v σ'->n' v σ') (hp:cF X draw hid site f args σ n):cF Y draw hid site f args σ n':=by
 rcases hp with⟨r,h1,h2⟩|⟨h1,h2⟩|⟨h1,sz,rows,h2,h3⟩
 ·exact .inl ⟨r,F3 h h1,hn _ _ h2⟩
 ·exact .inr (.inl ⟨h1,hK _ _ _ _ _ hn (h _ _ _ _ h2)⟩)
 ·exact .inr (.inr ⟨h1,sz,rows,II h h2,hn _ _ h3⟩)
theorem qM (h:∀f args σ K,X f args σ K->Y f args σ K) (hK:∀f args σ K K',(∀r σ',K r σ'->K' r σ')->Y f args σ K->Y f args σ K') {draw:Bool} {o:bj} {env:Env} {σ:aw} {n n':AV->aw->Prop} (hn:∀v σ',n v σ'->n' v σ') (hp:fI X draw o env σ n):fI Y draw o env σ n':=by
 unfold fI at hp ⊢
 split at hp
 ·exact oZ h hK hn hp
 ·split at hp
  ·exact oZ h hK hn hp
  ·exact oZ h hK hn hp
  ·exact hp.elim
 ·split at hp
  ·exact hn _ _ hp
  ·exact hp.elim
 ·split at hp
  ·exact hn _ _ hp
  ·exact hp.elim
 ·split at hp
  ·exact hn _ _ hp
  ·exact hp.elim
 ·split at hp
  ·exact hn _ _ hp
  ·exact hp.elim
 ·split at hp
  ·exact hn _ _ hp
  ·exact hp.elim
 ·split at hp
  ·exact hn _ _ hp
  ·exact hn _ _ hp
  ·exact hp.elim
theorem mA (h:∀f args σ K,X f args σ K->Y f args σ K) (hK:∀f args σ K K',(∀r σ',K r σ'->K' r σ')->Y f args σ K->Y f args σ K') {draw:Bool} {Q Q':Env->aw->Prop} (hQ:∀e s,Q e s->Q' e s):∀(l:List bj) (env:Env) (σ:aw),wpOps X draw l Q env σ->wpOps Y draw l Q' env σ
 |[],env,σ,hp=>hQ _ _ hp
 |o::r,env,σ,hp=>by
  unfold wpOps at hp ⊢
  split at hp
  ·rename_i hw;rw[if_pos hw];exact qM h hK (fun v σ'=>mA h hK hQ r _ _) hp
  ·rename_i hw;rw[if_neg hw];exact mA h hK hQ r _ _ hp
theorem mz {Q Q':Env->aw->Prop} (hQ:∀e s,Q e s->Q' e s):∀(l:List bj) (env:Env) (σ:aw),cr l Q env σ->cr l Q' env σ
 |[],env,σ,hp=>hQ _ _ hp
 |o::r,env,σ,hp=>by
  unfold cr at hp ⊢
  refine⟨hp.1,?_⟩
  replace hp:=hp.2
  split at hp
  ·split at hp
   ·exact mz hQ r _ _ hp
   ·exact hp.elim
  ·split at hp
   ·exact mz hQ r _ _ hp
   ·exact hp.elim
  ·split at hp
   ·exact mz hQ r _ _ hp
   ·exact hp.elim
theorem kJ (h:∀f args σ K,X f args σ K->Y f args σ K) (hK:∀f args σ K K',(∀r σ',K r σ'->K' r σ')->Y f args σ K->Y f args σ K'):∀(c:VC) (Q Q':Ex->Env->aw->Prop) (env:Env) (σ:aw),(∀x e s,Q x e s->Q' x e s)->eb X c Q env σ->eb Y c Q' env σ:=by
 intro c
 induction c with
 |skip=>intro Q Q' env σ hQ hp;exact hQ _ _ _ hp
 |exit id=>intro Q Q' env σ hQ hp;exact hQ _ _ _ hp
 |ret=>intro Q Q' env σ hQ hp;exact hQ _ _ _ hp
 |one o c ih=>
  intro Q Q' env σ hQ hp
  unfold eb at hp ⊢
  split at hp
  ·rename_i hw;rw[if_pos hw];exact qM h hK (fun v σ'=>ih Q Q' _ _ hQ) hp
  ·rename_i hw;rw[if_neg hw];exact ih Q Q' _ _ hQ hp
 |both a b iha ihb=>intro Q Q' env σ hQ hp;exact⟨iha Q Q' env σ hQ hp.1,ihb Q Q' env σ hQ hp.2⟩
 |loc t s y c ih=>intro Q Q' env σ hQ hp;exact⟨hp.1,ih Q Q' env σ hQ hp.2⟩
 |LC ops=>intro Q Q' env σ hQ hp;exact mz (hQ .normal) ops env σ hp
 |dG draw ops=>intro Q Q' env σ hQ hp;exact mA h hK (hQ .normal) ops env σ hp
 |seq a b iha ihb=>
  intro Q Q' env σ hQ hp
  refine iha _ _ env σ (fun x e s hx=>?_) hp
  cases x with
  |normal=>exact ihb Q Q' e s hQ hx
  |exit id=>exact hQ _ _ _ hx
  |ret=>exact hQ _ _ _ hx
 |cond c a b iha ihb=>
  intro Q Q' env σ hQ hp
  unfold eb at hp ⊢
  split at hp
  ·rename_i t ht
   cases t with
   |true=>exact iha Q Q' env σ hQ hp
   |false=>exact ihb Q Q' env σ hQ hp
  ·exact hp.elim
 |block id a iha=>
  intro Q Q' env σ hQ hp
  refine iha _ _ env σ (fun x e s hx=>?_) hp
  cases x with
  |normal=>exact hQ _ _ _ hx
  |ret=>exact hQ _ _ _ hx
  |exit ki=>
   unfold bq at hx ⊢
   dsimp only at hx ⊢
   split at hx
   ·rename_i hid;rw[if_pos hid];exact hQ _ _ _ hx
   ·rename_i hid;rw[if_neg hid];exact hQ _ _ _ hx
 |loop a iha=>
  intro Q Q' env σ hQ hp
  obtain⟨n,hp⟩:=hp
  refine⟨n,?_⟩
  induction n generalizing env σ with
  |zero=>exact hp
  |succ n ihn=>
   refine iha _ _ env σ (fun x e s hx=>?_) hp
   cases x with
   |normal=>exact ihn e s hx
   |exit id=>exact hQ _ _ _ hx
   |ret=>exact hQ _ _ _ hx
theorem aV:oG (Call P):=fun _ _ _ _ _ hK h X hX hc=>hX _ _ _ _ _ hK (h X hX hc)
theorem vR {f:Nat} {args:List AV} {σ:aw} {K:AV->aw->Prop} (h:K7 P (Call P) f args σ K):Call P f args σ K:=by
 intro X hX hc
 refine hc _ _ _ _ ?_
 rcases h with⟨md,vf,h1,h2,h3⟩|h
 ·exact .inl ⟨md,vf,h1,h2,fun hl=>kJ (fun f args σ K h=>h X hX hc) hX _ _ _ _ _ (fun _ _ _ h=>h) (h3 hl)⟩
 ·exact .inr h
theorem th {f:Nat} {md:List (Nat×Nat)} {args:List AV} {σ:aw} {K:AV->aw->Prop} {vf:vV} (hf:sD P f md=some vf) (ha:vf.wT=args.length) (h:(∀a∈args,eG a)->eb (Call P) vf.body (la vf.res K) (cm args) σ):Call P f args σ K:=
 vR (.inl ⟨md,vf,hf,ha,h⟩)
theorem lq {f:Nat} {args:List AV} {σ:aw} {K:AV->aw->Prop} {vf:vV} (hf:l5 P f=some vf) (ha:vf.wT=args.length) (h:(∀a∈args,eG a)->eb (Call P) vf.body (la vf.res K) (cm args) σ):Call P f args σ K:=
 th hf ha h
theorem iw {f:Nat} {args:List AV} {σ:aw} {K:AV->aw->Prop} (h:Sound P f args σ K):Call P f args σ K:=vR (.inr h)
def j0 (P:Program) (f:Nat) (args:List AV) (r:AV):Prop:=∀σ,PC (Call P) f args σ (fun r'=>r'=r)
theorem j0.body {f:Nat} {args:List AV} {r:AV} {nt na:Nat} {body:VC} {res:List oB} (hf:l5 P f=some ⟨nt,na,body,res⟩) (ha:na=args.length) (h:(∀a∈args,eG a)->∀σ:aw,eb (Call P) body (la res fun r0 σ'=>∃r',fz σ'.get 6 r0=some r'/\r'=r) (cm args) ⟨V.ro σ.get,σ.next⟩):j0 P f args r:=fun σ=>lq hf ha fun hl=>h hl σ
variable {Q:Ex->Env->aw->Prop} {K:Env->aw->Prop} {env:Env} {σ:aw}
theorem DM {a b:VC} (h:∀N:Env->aw->Prop,(∀e s,eb X b Q e s->N e s)->eb X a (dF N Q) env σ):eb X (.seq a b) Q env σ:=h _ fun _ _ h=>h
theorem yD (h:Q .normal env σ):eb X .skip Q env σ:=h
theorem yz {id:Nat} (h:Q (.exit id) env σ):eb X (.exit id) Q env σ:=h
theorem DL (h:Q .ret env σ):eb X .ret Q env σ:=h
theorem td {id:Nat} {c:VC} (h:eb X c (bq id Q) env σ):eb X (.block id c) Q env σ:=h
theorem DJ {o:bj} {c:VC} (h:∀N:AV->aw->Prop,(∀v s,eb X c Q (upd env o.dst v) s->N v s)->if aM o.guard env then fI X false o env σ N else N .undef σ):eb X (.one o c) Q env σ:=by
 have:=h (fun v s=>eb X c Q (upd env o.dst v) s) fun _ _ h=>h
 unfold eb
 split
 ·rename_i hw;rw[if_pos hw]at this;exact this
 ·rename_i hw;rw[if_neg hw]at this;exact this
def ez (s n:Nat):AV->Prop
 | .own id 0 _=>id=⟨s,n⟩
 |_=>False
def eE (n:Nat):AV->Prop
 | .own id _ _=>¬id.bY=n
 |_=>True
theorem yC {t s:Nat} {y:O} {c:VC} (h1:ez s σ.next (env t)) (h2:eE σ.next (cE env y)) (h:eb X c Q env σ):eb X (.loc t s y c) Q env σ:=by
 refine⟨⟨?_,fun id o l he=>?_⟩,h⟩
 ·revert h1
  unfold ez
  split
  ·rename_i id l he;rintro rfl;exact⟨l,he⟩
  ·exact fun h=>h.elim
 ·rw[he]at h2;exact h2
theorem eI {a b:VC} (ha:eb X a Q env σ) (hb:eb X b Q env σ):eb X (.both a b) Q env σ:=⟨ha,hb⟩
theorem DK {draw:Bool} {ops:List bj} (h:∀N:Env->aw->Prop,(∀e s,Q .normal e s->N e s)->wpOps X draw ops N env σ):eb X (.dG draw ops) Q env σ:=h _ fun _ _ h=>h
theorem H8 {ops:List bj} (h:cr ops (Q .normal) env σ):eb X (.LC ops) Q env σ:=h
theorem DI {draw:Bool} (h:K env ⟨σ.get,σ.next+1⟩):wpOps X draw [] K env σ:=h
theorem Nb {draw:Bool} {o:bj} {r:List bj} (h:∀N:AV->aw->Prop,(∀v s,wpOps X draw r K (upd env o.dst v) s->N v s)->if aM o.guard env then fI X draw o env σ N else N .undef σ):wpOps X draw (o::r) K env σ:=by
 have:=h (fun v s=>wpOps X draw r K (upd env o.dst v) s) fun _ _ h=>h
 unfold wpOps
 split
 ·rename_i hw;rw[if_pos hw]at this;exact this
 ·rename_i hw;rw[if_neg hw]at this;exact this
theorem H9 {c:O} {x y:VC} {b:Bool} (hc:cE env c=.bool b) (ht:b=true->eb X x Q env σ) (hf:b=false->eb X y Q env σ):eb X (.cond c x y) Q env σ:=by
 unfold eb
 simp only[hc]
 cases b with
 |true=>exact ht rfl
 |false=>exact hf rfl
inductive nf:AV->Prop->Prop->Prop
 |t {A B:Prop}:A->nf (.bool true) A B
 |f {A B:Prop}:B->nf (.bool false) A B
theorem te {c:O} {x y:VC} {v:AV} (hv:cE env c=v) (h:nf v (eb X x Q env σ) (eb X y Q env σ)):eb X (.cond c x y) Q env σ:=by
 cases h with
 |t h=>exact H9 hv (fun _=>h) (fun e=>by cases e)
 |f h=>exact H9 hv (fun e=>by cases e) (fun _=>h)
theorem M9 {c:VC} (I:Nat->Env->aw->Prop) (n:Nat) (h0:I n env σ) (step:∀n env σ,I n env σ->eb X c (fun x e s=>match x with| .normal=>∃m,m<n/\I m e s|x=>Q x e s) env σ)
  (hX:∀(c:VC) (Q Q':Ex->Env->aw->Prop) env σ,(∀x e s,Q x e s->Q' x e s)->eb X c Q env σ->eb X c Q' env σ):eb X (.loop c) Q env σ:=by
 have key:∀N n env σ,n<N->I n env σ->Dt (eb X c) Q N env σ:=by
  intro N
  induction N with
  |zero=>intro n env σ h;exact absurd h (Nat.not_lt_zero _)
  |succ N ih=>
   intro n env σ hn hI
   refine hX c _ _ env σ (fun x e s hx=>?_) (step n env σ hI)
   cases x with
   |normal=>obtain⟨m,hm,hI'⟩:=hx;exact ih m e s ab hI'
   |exit id=>exact hx
   |ret=>exact hx
 exact⟨n+1,key _ n env σ (Nat.lt_succ_self _) h0⟩
theorem Kq {c:VC} (I:Nat->Env->aw->Prop) (n:Nat) (h0:I n env σ) (step:∀n env σ,I n env σ->eb (Call P) c (fun x e s=>match x with| .normal=>∃m,m<n/\I m e s|x=>Q x e s) env σ):eb (Call P) (.loop c) Q env σ:=
 M9 I n h0 step fun c Q Q' env σ hQ h=>kJ (fun _ _ _ _ h=>h) aV c Q Q' env σ hQ h
def CP:VC->List Nat
 | .dG _ ops=>ops.filterMap (·.dst)
 | .seq a b=>CP a++CP b
 | .cond _ a b=>CP a++CP b
 | .block _ a=>CP a
 | .loop a=>CP a
 | .one o c=>o.dst.toList++CP c
 | .both a b=>CP a++CP b
 | .loc _ _ _ c=>CP c
 | .LC ops=>ops.filterMap (·.dst)
 |_=>[]
def kR (l:List Nat) (env gZ:Env):Prop:=∀t,l.contains t=false->gZ t=env t
theorem kR.refl (l:List Nat) (env:Env):kR l env env:=fun _ _=>rfl
theorem kR.upd {l:List Nat} {e e':Env} {d:Option Nat} {v:AV} (h:kR l e e') (hd:∀t,d=some t->t∈l):kR l e (upd e' d v):=fun t ht=>by
 cases d with
 |none=>exact h t ht
 |some d=>
  have:t≠d:=fun hc=>by subst hc;rw[<-Bool.not_eq_true,List.contains_iff_mem]at ht;exact ht (hd _ rfl)
  show(if t=d then v else e' t)=e t
  rw[if_neg this];exact h t ht
theorem nW {draw:Bool} {Q:Env->aw->Prop} {l:List Nat} {e0:Env}:∀(ops:List bj) (env:Env) (σ:aw),(∀t,t∈ops.filterMap (·.dst)->t∈l)->kR l e0 env->wpOps (Call P) draw ops Q env σ->wpOps (Call P) draw ops (fun e s=>Q e s/\kR l e0 e) env σ
 |[],env,σ,_,hk,hp=>⟨hp,hk⟩
 |o::r,env,σ,hl,hk,hp=>by
  have hd:∀t,o.dst=some t->t∈l:=fun t ht=>hl t (List.mem_filterMap.2 ⟨o,by simp,ht⟩)
  have hr:∀t,t∈r.filterMap (·.dst)->t∈l:=fun t ht=>hl t (by
   obtain⟨x,hx,h⟩:=List.mem_filterMap.1 ht
   exact List.mem_filterMap.2 ⟨x,List.mem_cons_of_mem _ hx,h⟩)
  unfold wpOps at hp ⊢
  split at hp
  ·rename_i hw;rw[if_pos hw]
   exact qM (fun _ _ _ _ h=>h) aV (fun v σ' h=>nW r _ _ hr (hk.upd hd) h) hp
  ·rename_i hw;rw[if_neg hw];exact nW r _ _ hr (hk.upd hd) hp
theorem kY {Q:Env->aw->Prop} {l:List Nat} {e0:Env}:∀(ops:List bj) (env:Env) (σ:aw),(∀t,t∈ops.filterMap (·.dst)->t∈l)->kR l e0 env->cr ops Q env σ->cr ops (fun e s=>Q e s/\kR l e0 e) env σ
 |[],env,σ,_,hk,hp=>⟨hp,hk⟩
 |o::r,env,σ,hl,hk,hp=>by
  have hd:∀t,o.dst=some t->t∈l:=fun t ht=>hl t (List.mem_filterMap.2 ⟨o,by simp,ht⟩)
  have hr:∀t,t∈r.filterMap (·.dst)->t∈l:=fun t ht=>hl t (by
   obtain⟨x,hx,h⟩:=List.mem_filterMap.1 ht
   exact List.mem_filterMap.2 ⟨x,List.mem_cons_of_mem _ hx,h⟩)
  unfold cr at hp ⊢
  refine⟨hp.1,?_⟩
  replace hp:=hp.2
  split at hp
  ·split at hp
   ·exact kY r _ _ hr (hk.upd hd) hp
   ·exact hp.elim
  ·split at hp
   ·exact kY r _ _ hr (hk.upd hd) hp
   ·exact hp.elim
  ·split at hp
   ·exact kY r _ _ hr (hk.upd hd) hp
   ·exact hp.elim
theorem FL {l:List Nat} {e0:Env}:∀(c:VC) (Q:Ex->Env->aw->Prop) (env:Env) (σ:aw),(∀t,t∈CP c->t∈l)->kR l e0 env->eb (Call P) c Q env σ->eb (Call P) c (fun x e s=>Q x e s/\kR l e0 e) env σ:=by
 intro c
 induction c with
 |skip=>intro Q env σ _ hk hp;exact⟨hp,hk⟩
 |exit id=>intro Q env σ _ hk hp;exact⟨hp,hk⟩
 |ret=>intro Q env σ _ hk hp;exact⟨hp,hk⟩
 |one o c ih=>
  intro Q env σ hl hk hp
  have hd:∀t,o.dst=some t->t∈l:=fun t ht=>hl t (List.mem_append_left _ (by rw[ht];simp))
  have hr:∀t,t∈CP c->t∈l:=fun t ht=>hl t (List.mem_append_right _ ht)
  unfold eb at hp ⊢
  split at hp
  ·rename_i hw;rw[if_pos hw]
   exact qM (fun _ _ _ _ h=>h) aV (fun v σ' h=>ih Q _ _ hr (hk.upd hd) h) hp
  ·rename_i hw;rw[if_neg hw];exact ih Q _ _ hr (hk.upd hd) hp
 |both a b iha ihb=>
  intro Q env σ hl hk hp
  exact⟨iha Q env σ (fun t ht=>hl t (List.mem_append_left _ ht)) hk hp.1,ihb Q env σ (fun t ht=>hl t (List.mem_append_right _ ht)) hk hp.2⟩
 |loc t s y c ih=>intro Q env σ hl hk hp;exact⟨hp.1,ih Q env σ hl hk hp.2⟩
 |LC ops=>intro Q env σ hl hk hp;exact kY ops env σ hl hk hp
 |dG draw ops=>intro Q env σ hl hk hp;exact nW ops env σ hl hk hp
 |seq a b iha ihb=>
  intro Q env σ hl hk hp
  refine kJ (fun _ _ _ _ h=>h) aV a _ _ env σ (fun x e s hx=>?_) (iha _ env σ (fun t ht=>hl t (List.mem_append_left _ ht)) hk hp)
  cases x with
  |normal=>exact ihb Q e s (fun t ht=>hl t (List.mem_append_right _ ht)) hx.2 hx.1
  |exit id=>exact hx
  |ret=>exact hx
 |cond c a b iha ihb=>
  intro Q env σ hl hk hp
  unfold eb at hp ⊢
  split at hp
  ·rename_i t ht
   cases t with
   |true=>exact iha Q env σ (fun t ht=>hl t (List.mem_append_left _ ht)) hk hp
   |false=>exact ihb Q env σ (fun t ht=>hl t (List.mem_append_right _ ht)) hk hp
  ·exact hp.elim
 |block id a iha=>
  intro Q env σ hl hk hp
  refine kJ (fun _ _ _ _ h=>h) aV a _ _ env σ (fun x e s hx=>?_) (iha _ env σ hl hk hp)
  obtain⟨hx,Jo⟩:=hx
  cases x with
  |normal=>exact⟨hx,Jo⟩
  |ret=>exact⟨hx,Jo⟩
  |exit ki=>
   unfold bq at hx ⊢
   dsimp only at hx ⊢
   split at hx
   ·rename_i hid;rw[if_pos hid];exact⟨hx,Jo⟩
   ·rename_i hid;rw[if_neg hid];exact⟨hx,Jo⟩
 |loop a iha=>
  intro Q env σ hl hk hp
  obtain⟨n,hp⟩:=hp
  refine⟨n,?_⟩
  induction n generalizing env σ with
  |zero=>exact hp
  |succ n ihn=>
   refine kJ (fun _ _ _ _ h=>h) aV _ _ _ _ _ (fun x e s hx=>?_) (iha _ env σ hl hk hp)
   obtain⟨hx,Jo⟩:=hx
   cases x with
   |normal=>exact ihn e s Jo hx
   |exit id=>exact⟨hx,Jo⟩
   |ret=>exact⟨hx,Jo⟩
theorem aT {c:VC} (I:Nat->Env->aw->Prop) (n:Nat) (h0:I n env σ) (step:∀n e s,I n e s->kR (CP c) env e->eb (Call P) c (fun x e s=>match x with| .normal=>∃m,m<n/\I m e s|x=>Q x e s) e s):eb (Call P) (.loop c) Q env σ:=by
 refine Kq (fun n e s=>I n e s/\kR (CP c) env e) n ⟨h0,kR.refl _ _⟩ fun n e s hI=>?_
 refine kJ (fun _ _ _ _ h=>h) aV _ _ _ _ _ (fun x e' s' hx=>?_) (FL c _ e s (fun _ h=>h) hI.2 (step n e s hI.1 hI.2))
 obtain⟨hx,hk⟩:=hx
 cases x with
 |normal=>obtain⟨m,hm,h⟩:=hx;exact⟨m,hm,h,hk⟩
 |exit id=>exact hx
 |ret=>exact hx
theorem Ic {k:Nat} (h:k<=9223372036854775807):IntKind.i64.wrap (k:Int)=k:=by rw[IntKind.wrap_i64];omega
theorem bd {z:Int} (h: -9223372036854775808<=z/\z<=9223372036854775807):IntKind.i64.wrap z=z:=by rw[IntKind.wrap_i64];omega
theorem aA {k:Nat} (h:(k:Int)+1<=9223372036854775807):IntKind.i64.wrap ((k:Int)+1)=((k+1:Nat):Int):=by rw[IntKind.wrap_i64];omega
theorem all_succ {k:Nat} {p:Nat->Prop} (h:∀j,j<k->p j) (hk:p k):∀j,j<k+1->p j:=fun j hj=>by
 by_cases wC:j=k
 ·subst wC;exact hk
 ·exact h j ab
theorem aH (g:Rows) (n:Nat) (k:IntKind) (m:Int):fz g (n+1) (.int k m)=some (.int k m):=by rw[fz]<;>intros<;>simp_all
theorem bC (g:Rows) (n:Nat) (b:ByteArray):fz g (n+1) (.str b)=some (.str b):=by rw[fz]<;>intros<;>simp_all
theorem b4 (g:Rows) (n:Nat) (l:List (List AV)):fz g (n+1) (.sl l)=some (.sl l):=by rw[fz]<;>intros<;>simp_all
theorem aX (g:Rows) (n:Nat):fz g (n+1) .br=some .br:=by rw[fz]<;>intros<;>simp_all
theorem PD {t:Nat} {r r0:AV} {x:Ex} (hx:x=.ret∨x=.normal) (he:env t=r0) (hz:fz σ.get 6 r0=some r):la [.tmp t] (fun r0 σ'=>∃r',fz σ'.get 6 r0=some r'/\r'=r) x env σ:=by
 have:∃vs,fb env σ.get [.tmp t]=some vs/\∃r',fz σ.get 6 (dr vs)=some r'/\r'=r:=⟨[env t],rfl,r,by subst he;exact hz,rfl⟩
 rcases hx with rfl|rfl
 ·exact this
 ·exact this
def ah (P:Program) (f:Nat) (args:List AV) (r:AV):Prop:=∀n:Nat,Call P f args ⟨fun _=>none,n⟩ fun r0 σ'=>∃r',fu σ'.get 6 r0=some r'/\r'=r
theorem ah.body {f:Nat} {args:List AV} {r:AV} {nt na:Nat} {body:VC} {res:List oB} (hf:l5 P f=some ⟨nt,na,body,res⟩) (ha:na=args.length) (h:(∀a∈args,eG a)->∀n:Nat,eb (Call P) body (la res fun r0 σ'=>∃r',fu σ'.get 6 r0=some r'/\r'=r) (cm args) ⟨fun _=>none,n⟩):ah P f args r:=fun n=>lq hf ha fun hl=>h hl n
theorem ah.x {f:Nat} {args eU:List AV} {r:AV} (h:ah P f eU r) {σ:aw} (hv:cq (dD σ.get) 6 args=some eU):gH (Call P) f args σ (fun r'=>r'=r):=.inr ⟨eU,hv,h _⟩
theorem j0.x {f:Nat} {args:List AV} {r:AV} (h:j0 P f args r) (σ:aw):gH (Call P) f args σ (fun r'=>r'=r):=.inl (h σ)
theorem cC (g:Rows) (n:Nat) (k:IntKind) (m:Int):fu g (n+1) (.int k m)=some (.int k m):=by rw[fu]<;>intros<;>simp_all
theorem cz (g:Rows) (n:Nat) (b:Bool):fu g (n+1) (.bool b)=some (.bool b):=by rw[fu]<;>intros<;>simp_all
theorem jy (g:Rows) (n:Nat) (b:ByteArray):fu g (n+1) (.str b)=some (.str b):=by rw[fu]<;>intros<;>simp_all
theorem il (g:Rows) (n:Nat):fu g (n+1) .br=some .br:=by rw[fu]<;>intros<;>simp_all
theorem cJ (g:Rows) (n:Nat) (l:List AV):fu g (n+1) (.gE l)=(dB g n l).map AV.gE:=by rw[fu]
theorem j3 (g:Rows) (n:Nat) (l:List AV):fu g (n+1) (.agg l)=(dB g n l).map AV.agg:=by rw[fu]
theorem pW {g:Rows} {n:Nat} {id:Id} {off len sz:Nat} {rows rows':List (List AV)} (h:g id=some ⟨true,sz,rows⟩) (hl:off+len<=rows.length) (hr:fE g n ((rows.drop off).take len)=some rows'):fu g (n+1) (.own id off len)=some (.sl rows'):=by
 rw[fu];simp only[h,if_true,if_pos hl,hr,Option.map_some]
theorem aL (g:Rows) (n:Nat):dB g n []=some []:=by rw[dB]
theorem aC (g:Rows) (n:Nat) (a:AV) (l:List AV):dB g n (a::l)=match fu g n a with
  |some b=>(dB g n l).map (b::·)
  |none=>none:=by rw[dB];cases fu g n a<;>rfl
theorem r5 {g:Rows} {n:Nat}:∀{l:List (List AV)},(∀c∈l,dB g n c=some c)->fE g n l=some l
 |[],_=>by rw[fE]
 |c::r,h=>by rw[fE,h c (by simp),r5 fun d hd=>h d (List.mem_cons_of_mem _ hd)];rfl
theorem bo (g:Rows) (n:Nat) (l:List AV):fz g (n+1) (.agg l)=(cq g n l).map AV.agg:=by rw[fz]
theorem aY (g:Rows) (n:Nat) (l:List AV):fz g (n+1) (.de l)=some (.de l):=by rw[fz]<;>intros<;>simp_all
theorem xF {g:Rows} {n:Nat} {id:Id} {i off sz:Nat} {rows:List (List AV)} {cs oI:List AV} (h:g id=some ⟨true,sz,rows⟩) (hi:rows[i]? =some cs) (hr:cq g n (cs.drop off)=some oI):fz g (n+1) (.ptr id i off)=some (.de oI):=by
 rw[fz];simp only[h,if_true,hi,hr,Option.map_some]
theorem aj (g:Rows) (n:Nat):cq g n []=some []:=by rw[cq]
theorem ad (g:Rows) (n:Nat) (a:AV) (l:List AV):cq g n (a::l)=match fz g n a with
  |some b=>(cq g n l).map (b::·)
  |none=>none:=by rw[cq];cases fz g n a<;>rfl
theorem uA {t:Nat} {r r0:AV} {x:Ex} (hx:x=.ret∨x=.normal) (he:env t=r0) (hz:fu σ.get 6 r0=some r):la [.tmp t] (fun r0 σ'=>∃r',fu σ'.get 6 r0=some r'/\r'=r) x env σ:=by
 have:∃vs,fb env σ.get [.tmp t]=some vs/\∃r',fu σ.get 6 (dr vs)=some r'/\r'=r:=⟨[env t],rfl,r,by subst he;exact hz,rfl⟩
 rcases hx with rfl|rfl
 ·exact this
 ·exact this
theorem aO {t:Nat} {b c:Bool} {x:Ex} (hx:x=.ret∨x=.normal) (he:env t=.bool b) (hb:b=c):la [.tmp t] (fun r0 σ'=>∃r',fu σ'.get 6 r0=some r'/\r'=.bool c) x env σ:=uA hx he (by rw[cz,hb])
theorem bG {t:Nat} {k:IntKind} {b c:Int} {x:Ex} (hx:x=.ret∨x=.normal) (he:env t=.int k b) (hb:b=c):la [.tmp t] (fun r0 σ'=>∃r',fu σ'.get 6 r0=some r'/\r'=.int k c) x env σ:=uA hx he (by rw[cC,hb])
theorem jc {t u:Nat} {r r1 r2:AV} {x:Ex} (hx:x=.ret∨x=.normal) (h1:env t=r1) (h2:env u=r2) (hz:fu σ.get 6 (.gE [r1,r2])=some r):la [.tmp t,.tmp u] (fun r0 σ'=>∃r',fu σ'.get 6 r0=some r'/\r'=r) x env σ:=by
 have:∃vs,fb env σ.get [.tmp t,.tmp u]=some vs/\∃r',fu σ.get 6 (dr vs)=some r'/\r'=r:=⟨[env t,env u],rfl,r,by subst h1;subst h2;exact hz,rfl⟩
 rcases hx with rfl|rfl
 ·exact this
 ·exact this
structure Pn (p:Prop):Prop where
 out:p
theorem tw {A B:Prop} (a:A) (b:B):A/\B:=⟨a,b⟩
theorem wk {A R G:Prop} (a:A) (r:R) (h:A->R->G:=by
  intro fL kk
  (repeat(refine Pn.mk ?_;intro N hN))
  (first|((first|apply DM|apply DK);intro N hN)|((first|(apply Nb;intro N hN)|(apply DJ;intro N hN));simp only[go_sem, ↓reduceIte,Nat.reduceEqDiff,Nat.reduceAdd,Nat.reduceSub,Nat.reduceMul,Nat.reduceLeDiff,Nat.reduceBEq,reduceCtorEq,Nat.reduceLT,Int.reduceLE,Int.reduceLT,Int.reduceToNat,Int.reduceNeg,Int.reduceAdd,Int.reduceEq,fL];first|(refine hN _ _ ?_;clear hN N)|skip)|(apply te;(simp only[go_sem, ↓reduceIte,Nat.reduceEqDiff,Nat.reduceAdd,Nat.reduceSub,Nat.reduceMul,Nat.reduceLeDiff,Nat.reduceBEq,reduceCtorEq,Nat.reduceLT,Int.reduceLE,Int.reduceLT,Int.reduceToNat,Int.reduceNeg,Int.reduceAdd,Int.reduceEq,fL];rfl);first|with_reducible apply nf.t|with_reducible apply nf.f)|(apply DI;refine hN _ _ ?_;clear hN N;try(simp only[dF,bq, ↓reduceIte,Nat.reduceEqDiff]);try(refine hN _ _ ?_;clear hN N))|apply td|(refine yC ?_ ?_ ?_;(focus(simp only[go_sem, ↓reduceIte,Nat.reduceEqDiff,Nat.reduceAdd,Nat.reduceSub,Nat.reduceMul,Nat.reduceLeDiff,Nat.reduceBEq,reduceCtorEq,Nat.reduceLT,Int.reduceLE,Int.reduceLT,Int.reduceToNat,Int.reduceNeg,Int.reduceAdd,Int.reduceEq,fL];done));(focus(simp only[go_sem, ↓reduceIte,Nat.reduceEqDiff,Nat.reduceAdd,Nat.reduceSub,Nat.reduceMul,Nat.reduceLeDiff,Nat.reduceBEq,reduceCtorEq,Nat.reduceLT,Int.reduceLE,Int.reduceLT,Int.reduceToNat,Int.reduceNeg,Int.reduceAdd,Int.reduceEq,fL];done)))|((first|apply yD|apply yz|apply DL);try(simp only[dF,bq, ↓reduceIte,Nat.reduceEqDiff]);try(refine hN _ _ ?_;clear hN N))|((first|refine hN _ _ ?_|(clear hN N;first|refine hN _ _ ?_|(clear hN N;first|refine hN _ _ ?_|(clear hN N;first|refine hN _ _ ?_|(clear hN N;refine hN _ _ ?_)))));clear hN N))
  (repeat(first|((first|apply DM|apply DK);intro N hN)|((first|(apply Nb;intro N hN)|(apply DJ;intro N hN));simp only[go_sem, ↓reduceIte,Nat.reduceEqDiff,Nat.reduceAdd,Nat.reduceSub,Nat.reduceMul,Nat.reduceLeDiff,Nat.reduceBEq,reduceCtorEq,Nat.reduceLT,Int.reduceLE,Int.reduceLT,Int.reduceToNat,Int.reduceNeg,Int.reduceAdd,Int.reduceEq,fL];first|(refine hN _ _ ?_;clear hN N)|skip)|(apply te;(simp only[go_sem, ↓reduceIte,Nat.reduceEqDiff,Nat.reduceAdd,Nat.reduceSub,Nat.reduceMul,Nat.reduceLeDiff,Nat.reduceBEq,reduceCtorEq,Nat.reduceLT,Int.reduceLE,Int.reduceLT,Int.reduceToNat,Int.reduceNeg,Int.reduceAdd,Int.reduceEq,fL];rfl);first|with_reducible apply nf.t|with_reducible apply nf.f)|(apply DI;refine hN _ _ ?_;clear hN N;try(simp only[dF,bq, ↓reduceIte,Nat.reduceEqDiff]);try(refine hN _ _ ?_;clear hN N))|apply td|(refine yC ?_ ?_ ?_;(focus(simp only[go_sem, ↓reduceIte,Nat.reduceEqDiff,Nat.reduceAdd,Nat.reduceSub,Nat.reduceMul,Nat.reduceLeDiff,Nat.reduceBEq,reduceCtorEq,Nat.reduceLT,Int.reduceLE,Int.reduceLT,Int.reduceToNat,Int.reduceNeg,Int.reduceAdd,Int.reduceEq,fL];done));(focus(simp only[go_sem, ↓reduceIte,Nat.reduceEqDiff,Nat.reduceAdd,Nat.reduceSub,Nat.reduceMul,Nat.reduceLeDiff,Nat.reduceBEq,reduceCtorEq,Nat.reduceLT,Int.reduceLE,Int.reduceLT,Int.reduceToNat,Int.reduceNeg,Int.reduceAdd,Int.reduceEq,fL];done)))|((first|apply yD|apply yz|apply DL);try(simp only[dF,bq, ↓reduceIte,Nat.reduceEqDiff]);try(refine hN _ _ ?_;clear hN N))|((first|refine hN _ _ ?_|(clear hN N;first|refine hN _ _ ?_|(clear hN N;first|refine hN _ _ ?_|(clear hN N;first|refine hN _ _ ?_|(clear hN N;refine hN _ _ ?_)))));clear hN N)))
  (repeat(revert hN;revert N;apply Pn.out))
  exact kk):G:=h a r
theorem wa {A R G:Prop} (a:A) (r:R) (h:A->R->G:=by
  intro fL kk
  (repeat(refine Pn.mk ?_;intro N hN))
  (first|((first|apply DM|apply DK);intro N hN)|((first|(refine Le rfl fun N hN=>?_)|(apply DJ;intro N hN));simp only[go_sem, ↓reduceIte,Nat.reduceEqDiff,Nat.reduceAdd,Nat.reduceSub,Nat.reduceMul,Nat.reduceLeDiff,Nat.reduceBEq,reduceCtorEq,Nat.reduceLT,Int.reduceLE,Int.reduceLT,Int.reduceToNat,Int.reduceNeg,Int.reduceAdd,Int.reduceEq,fL];first|(refine hN _ _ ?_;clear hN N)|skip)|(apply te;(simp only[go_sem, ↓reduceIte,Nat.reduceEqDiff,Nat.reduceAdd,Nat.reduceSub,Nat.reduceMul,Nat.reduceLeDiff,Nat.reduceBEq,reduceCtorEq,Nat.reduceLT,Int.reduceLE,Int.reduceLT,Int.reduceToNat,Int.reduceNeg,Int.reduceAdd,Int.reduceEq,fL];rfl);first|with_reducible apply nf.t|with_reducible apply nf.f)|(apply DI;refine hN _ _ ?_;clear hN N;try(simp only[dF,bq, ↓reduceIte,Nat.reduceEqDiff]);try(refine hN _ _ ?_;clear hN N))|apply td|(refine yC ?_ ?_ ?_;(focus(simp only[go_sem, ↓reduceIte,Nat.reduceEqDiff,Nat.reduceAdd,Nat.reduceSub,Nat.reduceMul,Nat.reduceLeDiff,Nat.reduceBEq,reduceCtorEq,Nat.reduceLT,Int.reduceLE,Int.reduceLT,Int.reduceToNat,Int.reduceNeg,Int.reduceAdd,Int.reduceEq,fL];done));(focus(simp only[go_sem, ↓reduceIte,Nat.reduceEqDiff,Nat.reduceAdd,Nat.reduceSub,Nat.reduceMul,Nat.reduceLeDiff,Nat.reduceBEq,reduceCtorEq,Nat.reduceLT,Int.reduceLE,Int.reduceLT,Int.reduceToNat,Int.reduceNeg,Int.reduceAdd,Int.reduceEq,fL];done)))|((first|apply yD|apply yz|apply DL);try(simp only[dF,bq, ↓reduceIte,Nat.reduceEqDiff]);try(refine hN _ _ ?_;clear hN N))|((first|refine hN _ _ ?_|(clear hN N;first|refine hN _ _ ?_|(clear hN N;first|refine hN _ _ ?_|(clear hN N;first|refine hN _ _ ?_|(clear hN N;refine hN _ _ ?_)))));clear hN N))
  (repeat(first|((first|apply DM|apply DK);intro N hN)|((first|(refine Le rfl fun N hN=>?_)|(apply DJ;intro N hN));simp only[go_sem, ↓reduceIte,Nat.reduceEqDiff,Nat.reduceAdd,Nat.reduceSub,Nat.reduceMul,Nat.reduceLeDiff,Nat.reduceBEq,reduceCtorEq,Nat.reduceLT,Int.reduceLE,Int.reduceLT,Int.reduceToNat,Int.reduceNeg,Int.reduceAdd,Int.reduceEq,fL];first|(refine hN _ _ ?_;clear hN N)|skip)|(apply te;(simp only[go_sem, ↓reduceIte,Nat.reduceEqDiff,Nat.reduceAdd,Nat.reduceSub,Nat.reduceMul,Nat.reduceLeDiff,Nat.reduceBEq,reduceCtorEq,Nat.reduceLT,Int.reduceLE,Int.reduceLT,Int.reduceToNat,Int.reduceNeg,Int.reduceAdd,Int.reduceEq,fL];rfl);first|with_reducible apply nf.t|with_reducible apply nf.f)|(apply DI;refine hN _ _ ?_;clear hN N;try(simp only[dF,bq, ↓reduceIte,Nat.reduceEqDiff]);try(refine hN _ _ ?_;clear hN N))|apply td|(refine yC ?_ ?_ ?_;(focus(simp only[go_sem, ↓reduceIte,Nat.reduceEqDiff,Nat.reduceAdd,Nat.reduceSub,Nat.reduceMul,Nat.reduceLeDiff,Nat.reduceBEq,reduceCtorEq,Nat.reduceLT,Int.reduceLE,Int.reduceLT,Int.reduceToNat,Int.reduceNeg,Int.reduceAdd,Int.reduceEq,fL];done));(focus(simp only[go_sem, ↓reduceIte,Nat.reduceEqDiff,Nat.reduceAdd,Nat.reduceSub,Nat.reduceMul,Nat.reduceLeDiff,Nat.reduceBEq,reduceCtorEq,Nat.reduceLT,Int.reduceLE,Int.reduceLT,Int.reduceToNat,Int.reduceNeg,Int.reduceAdd,Int.reduceEq,fL];done)))|((first|apply yD|apply yz|apply DL);try(simp only[dF,bq, ↓reduceIte,Nat.reduceEqDiff]);try(refine hN _ _ ?_;clear hN N))|((first|refine hN _ _ ?_|(clear hN N;first|refine hN _ _ ?_|(clear hN N;first|refine hN _ _ ?_|(clear hN N;first|refine hN _ _ ?_|(clear hN N;refine hN _ _ ?_)))));clear hN N)))
  (repeat(revert hN;revert N;apply Pn.out))
  exact kk):G:=h a r
theorem sd {A G:Prop} (a:A) (h:A->G:=by
  intro fL
  first|(simp only[go_sem, ↓reduceIte,Nat.reduceEqDiff,Nat.reduceAdd,Nat.reduceSub,Nat.reduceMul,Nat.reduceLeDiff,Nat.reduceBEq,reduceCtorEq,Nat.reduceLT,Int.reduceLE,Int.reduceLT,Int.reduceToNat,Int.reduceNeg,Int.reduceAdd,Int.reduceEq,fL,fb,gY];done)|fail):G:=h a
theorem sl {A G:Prop} (a:A) (h:A->G:=by
  intro fL
  (try simp only[go_sem, ↓reduceIte,Nat.reduceEqDiff,Nat.reduceAdd,Nat.reduceSub,Nat.reduceMul,Nat.reduceLeDiff,Nat.reduceBEq,reduceCtorEq,Nat.reduceLT,Int.reduceLE,Int.reduceLT,Int.reduceToNat,Int.reduceNeg,Int.reduceAdd,Int.reduceEq,fL])
  try rfl):G:=h a
end Go.Proofs.YtihgaadadaekmaaGreat.V

namespace Go.Proofs.YtihgaadadaekmaaGreat.V
open Go.RowKit
variable {P:Program} {X:fj} {env:Env} {σ:aw}
theorem bE (g:Rows) (n:Nat) (l:List AV):fz g (n+1) (.gE l)=(cq g n l).map AV.gE:=by rw[fz]
theorem cL (g:Rows) (n:Nat) (f:Nat) (l:List AV):fz g (n+1) (.fn f l)=if l.all AV.cell then(cq g n l).map (AV.fn f)else none:=by rw[fz]
theorem bl (g:Rows) (n:Nat) (id:Id) (i off:Nat):fz g (n+1) (.ptr id i off)=match g id with
  |some r=>if r.w then(match r.rows[i]? with
   |some cs=>(cq g n (cs.drop off)).map AV.de
   |none=>none)else none
  |none=>none:=by rw[fz];rfl
theorem gC (g:Rows) (n:Nat) (id:Id) (off len:Nat):fz g (n+1) (.own id off len)=match g id with
  |some r=>if r.w then(if off+len<=r.rows.length then(dM g n ((r.rows.drop off).take len)).map AV.sl else none)else none
  |none=>none:=by rw[fz];rfl
theorem nE (g:Rows) (n:Nat):dM g n []=some []:=by rw[dM]
theorem xE (g:Rows) (n:Nat) (c:List AV) (l:List (List AV)):dM g n (c::l)=match cq g n c with
  |some b=>(dM g n l).map (b::·)
  |none=>none:=by rw[dM];cases cq g n c<;>rfl
theorem tM {g:Rows} {n:Nat}:∀{l:List (List AV)},(∀c∈l,cq g n c=some c)->dM g n l=some l
 |[],_=>by rw[dM]
 |c::r,h=>by rw[dM,h c (by simp),tM fun d hd=>h d (List.mem_cons_of_mem _ hd)];rfl
theorem l7 {α:Type} {g:Rows} {n:Nat} {e:α->List AV} {l:List α} (h:∀x,cq g n (e x)=some (e x)):dM g n (l.map e)=some (l.map e):=tM fun c hc=>by
 obtain⟨x,_,rfl⟩:=List.mem_map.1 hc
 exact h x
theorem r7 {α:Type} {g:Rows} {n:Nat} {e:α->List AV} {l:List α} (h:∀x,dB g n (e x)=some (e x)):fE g n (l.map e)=some (l.map e):=r5 fun c hc=>by
 obtain⟨x,_,rfl⟩:=List.mem_map.1 hc
 exact h x
theorem eT {α:Type} {g:Rows} {n:Nat} {e:α->List AV} {l:List α} {id:Id} {sz len:Nat} (hg:g id=some ⟨true,sz,l.map e⟩) (hl:len=l.length) (h:∀x,cq g n (e x)=some (e x)):fz g (n+1) (.own id 0 len)=some (.sl (l.map e)):=by
 subst hl
 rw[gC];simp only[hg,if_true]
 rw[if_pos (by simp),List.drop_zero,List.take_of_length_le (by simp),l7 h];rfl
theorem eW {α:Type} {g:Rows} {n:Nat} {e:α->List AV} {l:List α} {id:Id} {sz len:Nat} (hg:g id=some ⟨true,sz,l.map e⟩) (hl:len=l.length) (h:∀x,dB g n (e x)=some (e x)):fu g (n+1) (.own id 0 len)=some (.sl (l.map e)):=by
 subst hl
 exact pW hg (by simp) (by rw[List.drop_zero,List.take_of_length_le (by simp),r7 h])
theorem all_map {α:Type} {e:α->List AV} {sz:Nat} {l:List α} (h:∀x,(e x).length=sz/\(e x).all AV.cell=true):(l.map e).all (fun c=>c.length==sz&&c.all AV.cell)=true:=by
 rw[List.all_eq_true]
 intro c hc
 obtain⟨x,_,rfl⟩:=List.mem_map.1 hc
 simp[(h x).1,(h x).2]
def RowM (P:Program) (f:Nat) (args:List AV) (sz:Nat) (rows:List (List AV)):Prop:=(∀c∈rows,∀a∈c,a.plain=true)/\∀n:Nat,Call P f args ⟨fun _=>none,n⟩ fun r σ'=>∃id,r=.own id 0 rows.length/\σ'.get id=some ⟨true,sz,rows⟩
theorem qq {res:List oB} {r:AV} {vs:List AV} {x:Ex} (hx:x=.ret∨x=.normal) (hv:fb env σ.get res=some vs) (hz:fz σ.get 6 (dr vs)=some r):la res (fun r0 σ'=>∃r',fz σ'.get 6 r0=some r'/\r'=r) x env σ:=by
 rcases hx with rfl|rfl
 ·exact⟨vs,hv,r,hz,rfl⟩
 ·exact⟨vs,hv,r,hz,rfl⟩
theorem eQ {res:List oB} {r:AV} {vs:List AV} {x:Ex} (hx:x=.ret∨x=.normal) (hv:fb env σ.get res=some vs) (hz:fu σ.get 6 (dr vs)=some r):la res (fun r0 σ'=>∃r',fu σ'.get 6 r0=some r'/\r'=r) x env σ:=by
 rcases hx with rfl|rfl
 ·exact⟨vs,hv,r,hz,rfl⟩
 ·exact⟨vs,hv,r,hz,rfl⟩
theorem fy {res:List oB} {K:AV->aw->Prop} {vs:List AV} {x:Ex} (hx:x=.ret∨x=.normal) (hv:fb env σ.get res=some vs) (hK:K (dr vs) σ):la res K x env σ:=by
 rcases hx with rfl|rfl
 ·exact⟨vs,hv,hK⟩
 ·exact⟨vs,hv,hK⟩
theorem fh {f:Nat} {args:List AV} {σ:aw} {K:AV->aw->Prop} {nt na:Nat} {body:VC} {res:List oB} (hf:l5 P f=some ⟨nt,na,body,res⟩) (ha:na=args.length) (h:(∀a∈args,eG a)->eb (Call P) body (la res K) (cm args) σ):Call P f args σ K:=lq hf ha h
theorem xe {f:Nat} {md:List (Nat×Nat)} {args:List AV} {σ:aw} {K:AV->aw->Prop} {nt na:Nat} {body:VC} {res:List oB} (hf:sD P f md=some ⟨nt,na,body,res⟩) (ha:na=args.length) (h:(∀a∈args,eG a)->eb (Call P) body (la res K) (cm args) σ):Call P f args σ K:=th hf ha h
theorem eC {i:Id} {n:Nat} (h:i.bY<n):(∀s,(i=⟨s,n⟩)=False/\(i=⟨s,n+1⟩)=False/\(i=⟨s,n+1+1⟩)=False/\(i=⟨s,n+1+1+1⟩)=False/\(i=⟨s,n+1+1+1+1⟩)=False/\(i=⟨s,n+1+1+1+1+1⟩)=False/\(i=⟨s,n+1+1+1+1+1+1⟩)=False/\(i=⟨s,n+1+1+1+1+1+1+1⟩)=False/\(i=⟨s,n+1+1+1+1+1+1+1+1⟩)=False/\(i=⟨s,n+1+1+1+1+1+1+1+1+1⟩)=False/\(⟨s,n⟩=i)=False/\(⟨s,n+1⟩=i)=False/\(⟨s,n+1+1⟩=i)=False/\(⟨s,n+1+1+1⟩=i)=False/\(⟨s,n+1+1+1+1⟩=i)=False/\(⟨s,n+1+1+1+1+1⟩=i)=False/\(⟨s,n+1+1+1+1+1+1⟩=i)=False/\(⟨s,n+1+1+1+1+1+1+1⟩=i)=False/\(⟨s,n+1+1+1+1+1+1+1+1⟩=i)=False/\(⟨s,n+1+1+1+1+1+1+1+1+1⟩=i)=False)/\(i.bY=n)=False/\(i.bY=n+1)=False/\(i.bY=n+1+1)=False/\(i.bY=n+1+1+1)=False/\(i.bY=n+1+1+1+1)=False/\(i.bY=n+1+1+1+1+1)=False/\(i.bY=n+1+1+1+1+1+1)=False/\(i.bY=n+1+1+1+1+1+1+1)=False/\(i.bY=n+1+1+1+1+1+1+1+1)=False/\(i.bY=n+1+1+1+1+1+1+1+1+1)=False:=by
 refine⟨fun s=>?_,?_⟩
 ·obtain⟨a,b⟩:=i
  simp only[Id.mk.injEq,eq_iff_iff,iff_false,not_and]
  simp only at h
  refine⟨?_,?_,?_,?_,?_,?_,?_,?_,?_,?_,?_,?_,?_,?_,?_,?_,?_,?_,?_,?_⟩<;>(intros;omega)
 ·simp only[eq_iff_iff,iff_false]
  refine⟨?_,?_,?_,?_,?_,?_,?_,?_,?_,?_⟩<;>omega
def eP (a b:Nat) (ids:List Id):Prop:=ids.Nodup/\∀i∈ids,a<=i.bY/\i.bY<b
def Kept (σ σ':aw):Prop:=σ.next<=σ'.next/\∀j:Id,j.bY<σ.next->σ'.get j=σ.get j
theorem eP.wide {a b a' b':Nat} {ids:List Id} (h:eP a b ids) (h1:a'<=a) (h2:b<=b'):eP a' b' ids:=⟨h.1,fun i hi=>⟨Nat.le_trans h1 (h.2 i hi).1,Nat.lt_of_lt_of_le (h.2 i hi).2 h2⟩⟩
theorem eP.app {a b c d:Nat} {i j:List Id} (h:eP a b i) (k:eP c d j) (hbc:b<=c) (sa:a<=b) (hcd:c<=d):eP a d (i++j):=
 ⟨List.nodup_append.2 ⟨h.1,k.1,fun x hx y hy e=>by subst e;have:=(h.2 x hx).2;have:=(k.2 x hy).1;omega⟩,fun x hx=>by
  rcases List.mem_append.1 hx with hx|hx
  ·have:=h.2 x hx;omega
  ·have:=k.2 x hx;omega⟩
end Go.Proofs.YtihgaadadaekmaaGreat.V

namespace Go.Proofs.YtihgaadadaekmaaGreat.V
open Go.RowKit
attribute [local irreducible] eb wpOps gH Call
attribute [local go_sem] aM fI eM fX fV cE upd cm K.av cK AV.cells AV.cell rowOf rowsOf part ld rowAt bS bZ dH ei ij bK dc eA fZ e8 du ep cY cX dU dW bQ bf cQ bP cT cR ek er eo cP bU cZ ej bL aQ cV cw ig bt cH bR bc dF bq dI AV.undef bD bF dX eh dQ dZ cF ez eE cr ev eu cU cW List.getD_cons_zero List.getD_cons_succ List.getD_nil List.all_cons List.all_nil Bool.and_true Bool.true_and Bool.and_self Bool.not_true Bool.not_false Option.map_some Option.map_none Option.bind_some Option.bind_none List.length_cons List.length_nil List.take_succ_cons List.take_zero List.take_nil List.drop_succ_cons List.drop_zero List.drop_nil List.head?_cons List.map_cons List.map_nil List.getElem?_cons_zero List.getElem?_cons_succ List.cons_append List.nil_append List.append_nil List.length_map List.set_cons_zero List.set_cons_succ Nat.reduceMul eq_self Int.toNat_natCast Int.natCast_nonneg and_self true_and and_true decide_true decide_false Bool.false_eq_true Nat.zero_add Nat.add_zero List.contains_cons List.contains_nil Bool.or_false Bool.false_or beq_self_eq_true Nat.reduceBEq ne_eq not_true_eq_false not_false_eq_true Id.mk.injEq false_and and_false Nat.reduceLT Int.reduceLE Int.reduceLT Int.reduceToNat Int.reduceNeg Int.reduceAdd Nat.le_refl List.length_append beq_true beq_false Bool.not_eq_eq_eq_not or_false false_or dD ad aj aH bC b4 aX bo aY bl cL bE
variable {P:Program}
def HR (f g z:Nat):vV:=let s:=f*1000000
 ⟨27,2,(.seq (.dG false [q 4 (.cj (.k (.int .i64 0))) s]) (.seq (.dG false [q 6 (.cj (.t 1)) (s+1000),q 7 (.cj (.t 0)) (s+1001),q 8 (.len (.t 7)) (s+1002),q 9 (.bin .sub .i64 (.t 6) (.t 8)) (s+1003),q 1 (.cj (.t 9)) (s+1004)]) (.seq (.seq (.dG false [q 10 (.cj (.t 1)) (s+2000),q 11 (.bin .lss .i64 (.t 10) (.k (.int .i64 0))) (s+2001)]) (.cond (.t 11) (.seq (.dG false [q 4 (.cj (.k (.int .i64 (-1)))) (s+3000)]) .ret) .skip)) (.seq (.seq (.dG false [q 5 (.cj (.k (.int .i64 0))) (s+4000)]) (.block 0 (.loop (.seq (.seq (.dG false [q 12 (.cj (.t 5)) (s+5000),q 13 (.cj (.t 0)) (s+5001),q 14 (.len (.t 13)) (s+5002),q 15 (.bin .lss .i64 (.t 12) (.t 14)) (s+5003)]) (.cond (.t 15) .skip (.exit 0))) (.seq (.block 1 (.seq (.dG false [q 18 (.cj (.t 0)) (s+7000),q 19 (.cj (.t 5)) (s+7001),q 20 (.dy z (.t 18) (.t 19)) (s+7002),q 21 (.load true z (.t 20)) (s+7003),q 22 (.cj (.t 1)) (s+7004),q 23 (.call g [(.t 21),(.t 22)]) (s+7005),q 1 (.cj (.t 23)) (s+7006)]) (.seq (.dG false [q 24 (.cj (.t 1)) (s+8000),q 25 (.bin .lss .i64 (.t 24) (.k (.int .i64 0))) (s+8001)]) (.cond (.t 25) (.seq (.dG false [q 4 (.cj (.k (.int .i64 (-1)))) (s+9000)]) .ret) .skip)))) (.dG false [q 16 (.cj (.t 5)) (s+6000),q 17 (.bin .add .i64 (.t 16) (.k (.int .i64 1))) (s+6001),q 5 (.cj (.t 17)) (s+6002)])))))) (.seq (.dG false [q 26 (.cj (.t 1)) (s+10000),q 4 (.cj (.t 26)) (s+10001)]) .ret))))),[(.tmp 4)]⟩
def HP (f:Nat):vV:=let s:=f*1000000
 ⟨12,2,(.seq (.dG false [q 4 (.cj (.k (.int .i64 0))) s]) (.seq (.dG false [q 5 (.cj (.t 1)) (s+1000),q 6 (.cj (.t 0)) (s+1001),q 7 (.len (.t 6)) (s+1002),q 8 (.bin .sub .i64 (.t 5) (.t 7)) (s+1003),q 1 (.cj (.t 8)) (s+1004)]) (.seq (.seq (.dG false [q 9 (.cj (.t 1)) (s+2000),q 10 (.bin .lss .i64 (.t 9) (.k (.int .i64 0))) (s+2001)]) (.cond (.t 10) (.seq (.dG false [q 4 (.cj (.k (.int .i64 (-1)))) (s+3000)]) .ret) .skip)) (.seq (.dG false [q 11 (.cj (.t 1)) (s+4000),q 4 (.cj (.t 11)) (s+4001)]) .ret)))),[(.tmp 4)]⟩
def C1 (f g z:Nat):vV:=let s:=f*1000000
 ⟨27,2,(.seq (.dG false [q 4 (.cj (.k (.bool false))) s]) (.seq (.seq (.dG false [q 6 (.cj (.t 0)) (s+1000),q 7 (.len (.t 6)) (s+1001),q 8 (.cj (.t 1)) (s+1002),q 9 (.len (.t 8)) (s+1003),q 10 (.LI true .tI (.t 7) (.t 9)) (s+1004)]) (.cond (.t 10) (.seq (.dG false [q 4 (.cj (.k (.bool false))) (s+2000)]) .ret) .skip)) (.seq (.seq (.dG false [q 5 (.cj (.k (.int .i64 0))) (s+3000)]) (.block 0 (.loop (.seq (.seq (.dG false [q 11 (.cj (.t 5)) (s+4000),q 12 (.cj (.t 0)) (s+4001),q 13 (.len (.t 12)) (s+4002),q 14 (.bin .lss .i64 (.t 11) (.t 13)) (s+4003)]) (.cond (.t 14) .skip (.exit 0))) (.seq (.block 1 (.seq (.dG true [q 17 (.cj (.t 0)) (s+6000),q 18 (.cj (.t 5)) (s+6001),q 19 (.dy z (.t 17) (.t 18)) (s+6002),q 20 (.load true z (.t 19)) (s+6003),q 21 (.cj (.t 1)) (s+6004),q 22 (.cj (.t 5)) (s+6005),q 23 (.dy z (.t 21) (.t 22)) (s+6006),q 24 (.load true z (.t 23)) (s+6007),q 25 (.call g [(.t 20),(.t 24)]) (s+6008),q 26 (.not (.t 25)) (s+6009)]) (.cond (.t 26) (.seq (.dG false [q 4 (.cj (.k (.bool false))) (s+7000)]) .ret) .skip))) (.dG false [q 15 (.cj (.t 5)) (s+5000),q 16 (.bin .add .i64 (.t 15) (.k (.int .i64 1))) (s+5001),q 5 (.cj (.t 16)) (s+5002)])))))) (.seq (.dG false [q 4 (.cj (.k (.bool true))) (s+8000)]) .ret)))),[(.tmp 4)]⟩
def KC (f:Nat) (t:TS):vV:=let s:=f*1000000
 ⟨26,2,(.seq (.dG false [q 4 (.cj (.k (.bool false))) s]) (.seq (.seq (.dG false [q 6 (.cj (.t 0)) (s+1000),q 7 (.len (.t 6)) (s+1001),q 8 (.cj (.t 1)) (s+1002),q 9 (.len (.t 8)) (s+1003),q 10 (.LI true .tI (.t 7) (.t 9)) (s+1004)]) (.cond (.t 10) (.seq (.dG false [q 4 (.cj (.k (.bool false))) (s+2000)]) .ret) .skip)) (.seq (.seq (.dG false [q 5 (.cj (.k (.int .i64 0))) (s+3000)]) (.block 0 (.loop (.seq (.seq (.dG false [q 11 (.cj (.t 5)) (s+4000),q 12 (.cj (.t 0)) (s+4001),q 13 (.len (.t 12)) (s+4002),q 14 (.bin .lss .i64 (.t 11) (.t 13)) (s+4003)]) (.cond (.t 14) .skip (.exit 0))) (.seq (.block 1 (.seq (.dG true [q 17 (.cj (.t 0)) (s+6000),q 18 (.cj (.t 5)) (s+6001),q 19 (.dy 1 (.t 17) (.t 18)) (s+6002),q 20 (.load false 1 (.t 19)) (s+6003),q 21 (.cj (.t 1)) (s+6004),q 22 (.cj (.t 5)) (s+6005),q 23 (.dy 1 (.t 21) (.t 22)) (s+6006),q 24 (.load false 1 (.t 23)) (s+6007),q 25 (.LI true t (.t 20) (.t 24)) (s+6008)]) (.cond (.t 25) (.seq (.dG false [q 4 (.cj (.k (.bool false))) (s+7000)]) .ret) .skip))) (.dG false [q 15 (.cj (.t 5)) (s+5000),q 16 (.bin .add .i64 (.t 15) (.k (.int .i64 1))) (s+5001),q 5 (.cj (.t 16)) (s+5002)])))))) (.seq (.dG false [q 4 (.cj (.k (.bool true))) (s+8000)]) .ret)))),[(.tmp 4)]⟩
def ss (f g z:Nat) (zero:List K):vV:=let s:=f*1000000
 ⟨23,1,(.seq (.dG false [q 2 (.cj (.k .br)) s]) (.seq (.dG false [q 5 (.cj (.t 0)) (s+1000),q 6 (.len (.t 5)) (s+1001),q 7 (.jz zero (.t 6) (.t 6)) (s+1002),q 3 (.cj (.t 7)) (s+1003)]) (.seq (.seq (.dG false [q 4 (.cj (.k (.int .i64 0))) (s+2000)]) (.block 0 (.loop (.seq (.seq (.dG false [q 8 (.cj (.t 4)) (s+3000),q 9 (.cj (.t 0)) (s+3001),q 10 (.len (.t 9)) (s+3002),q 11 (.bin .lss .i64 (.t 8) (.t 10)) (s+3003)]) (.cond (.t 11) .skip (.exit 0))) (.seq (.block 1 (.dG false [q 14 (.cj (.t 3)) (s+5000),q 15 (.cj (.t 4)) (s+5001),q 16 (.cj (.t 0)) (s+5002),q 17 (.cj (.t 4)) (s+5003),q 18 (.dy z (.t 16) (.t 17)) (s+5004),q 19 (.load true z (.t 18)) (s+5005),q 20 (.call g [(.t 19)]) (s+5006),q 21 (.dy z (.t 14) (.t 15)) (s+5007),⟨none,(.store z (.t 21) (.t 20)),none,(s+5008),[]⟩])) (.dG false [q 12 (.cj (.t 4)) (s+4000),q 13 (.bin .add .i64 (.t 12) (.k (.int .i64 1))) (s+4001),q 4 (.cj (.t 13)) (s+4002)])))))) (.seq (.dG false [q 22 (.cj (.t 3)) (s+6000),q 2 (.cj (.t 22)) (s+6001)]) .ret)))),[(.tmp 2)]⟩
def H0 (f:Nat) (zero:K):vV:=let s:=f*1000000
 ⟨22,1,(.seq (.dG false [q 2 (.cj (.k .br)) s]) (.seq (.dG false [q 5 (.cj (.t 0)) (s+1000),q 6 (.len (.t 5)) (s+1001),q 7 (.jz [zero] (.t 6) (.t 6)) (s+1002),q 3 (.cj (.t 7)) (s+1003)]) (.seq (.seq (.dG false [q 4 (.cj (.k (.int .i64 0))) (s+2000)]) (.block 0 (.loop (.seq (.seq (.dG false [q 8 (.cj (.t 4)) (s+3000),q 9 (.cj (.t 0)) (s+3001),q 10 (.len (.t 9)) (s+3002),q 11 (.bin .lss .i64 (.t 8) (.t 10)) (s+3003)]) (.cond (.t 11) .skip (.exit 0))) (.seq (.block 1 (.dG false [q 14 (.cj (.t 3)) (s+5000),q 15 (.cj (.t 4)) (s+5001),q 16 (.cj (.t 0)) (s+5002),q 17 (.cj (.t 4)) (s+5003),q 18 (.dy 1 (.t 16) (.t 17)) (s+5004),q 19 (.load false 1 (.t 18)) (s+5005),q 20 (.dy 1 (.t 14) (.t 15)) (s+5006),⟨none,(.store 1 (.t 20) (.t 19)),none,(s+5007),[]⟩])) (.dG false [q 12 (.cj (.t 4)) (s+4000),q 13 (.bin .add .i64 (.t 12) (.k (.int .i64 1))) (s+4001),q 4 (.cj (.t 13)) (s+4002)])))))) (.seq (.dG false [q 21 (.cj (.t 3)) (s+6000),q 2 (.cj (.t 21)) (s+6001)]) .ret)))),[(.tmp 2)]⟩
def vP (n:Nat) (l:Int):Int:=if (n:Int)<=l then l-n else -1
theorem HQ {fk:Nat} (hc:l5 P fk=some (HP fk)) (rows:List (List AV)) (left:Int) (h0:0<=left) (h1:left<=1048576):ah P fk [.sl rows,.int .i64 left] (.int .i64 (vP rows.length left)):=by
 refine ah.body hc rfl fun hl n0=>?_
 try simp only[q]
 have hn:rows.length<=9223372036854775807:=(hl (.sl rows) (by simp)).len
 clear hl
 have hw:IntKind.i64.wrap (left-(rows.length:Int))=left-rows.length:=bd ab
 by_cases hf:(rows.length:Int)<=left
 ·have lj:¬left-(rows.length:Int)<0:=ab
  (try((repeat(revert hN;revert N;apply Pn.out));refine wk (tw @hw @lj) ?_;(repeat(refine Pn.mk ?_;intro N hN))))
  exact bG (b:=left-(rows.length:Int)) (.inl rfl) (sd @Nat.zero_add) (by rw[vP,if_pos hf])
 ·have lj:left-(rows.length:Int)<0:=ab
  (try((repeat(revert hN;revert N;apply Pn.out));refine wk (tw @hw @lj) ?_;(repeat(refine Pn.mk ?_;intro N hN))))
  exact bG (b:=-1) (.inl rfl) (sd @Nat.zero_add) (by rw[vP,if_neg hf])
def eH {α:Type} (f:α->Nat) (xs:List α) (k:Nat):Nat:=((xs.take k).map f).sum
theorem jv {α:Type} (f:α->Nat) (xs:List α):eH f xs 0=0:=by simp[eH]
theorem qE {α:Type} (f:α->Nat) (xs:List α):eH f xs xs.length=(xs.map f).sum:=by simp[eH]
theorem mo {α:Type} (f:α->Nat) {xs:List α} {k:Nat} (hk:k<xs.length):eH f xs (k+1)=eH f xs k+f xs[k]:=by
 unfold eH
 rw[List.take_succ_eq_append_getElem hk,List.map_append,List.sum_append];simp
theorem jB {α:Type} (f:α->Nat) (xs:List α) (k:Nat):eH f xs k<=(xs.map f).sum:=by
 unfold eH
 conv=>rhs;rw[<-List.take_append_drop k xs]
 rw[List.map_append,List.sum_append];omega
theorem HS {α:Type} {e:α->List AV} {z fk gk:Nat} (wt:α->Nat) (hc:l5 P fk=some (HR fk gk z)) (hz:∀x,(e x).length=z) (Db:∀x g,cq g 6 [.agg (e x)]=some [.agg (e x)]) (xs:List α) (left:Int) (h0:0<=left) (h1:left<=1048576)
  (hg:∀x∈xs,∀l:Int,0<=l->l<=1048576->ah P gk [.agg (e x),.int .i64 l] (.int .i64 (vP (wt x) l))):ah P fk [.sl (xs.map e),.int .i64 left] (.int .i64 (vP (xs.length+(xs.map wt).sum) left)):=by
 refine ah.body hc rfl fun hl n0=>?_
 try simp only[q]
 have hn:xs.length<=9223372036854775807:=by simpa using(hl (.sl (xs.map e)) (by simp)).len
 clear hl
 have hw:IntKind.i64.wrap (left-(xs.length:Int))=left-xs.length:=bd ab
 by_cases hf:(xs.length:Int)<=left
 ·have lj:¬left-(xs.length:Int)<0:=ab
  (try((repeat(revert hN;revert N;apply Pn.out));refine wk (tw @hw @lj) ?_;(repeat(refine Pn.mk ?_;intro N hN))))
  refine aT (fun n env st=>∃k:Nat,n=(xs.length)-k/\k<=(xs.length)/\env 5=.int .i64 (k:Int)/\env 1=(.int .i64 (left-xs.length-(eH wt xs k:Nat)))/\(0<=left-xs.length-(eH wt xs k:Nat))) (xs.length) ⟨0,ab,ab,sl (tw @jv (tw @Int.natCast_zero @Int.sub_zero)),sl (tw @jv (tw @Int.natCast_zero @Int.sub_zero)),(by rw[jv];omega)⟩ ?_
  rintro n_a env_a st_a ⟨k,rfl,ale,a5,a1,k5⟩ dE
  have a0:=dE 0 (by kernel_rfl)
  simp only[go_sem, ↓reduceIte,Nat.reduceEqDiff,Nat.reduceAdd,Nat.reduceSub,Nat.reduceLeDiff,reduceCtorEq,jv,Int.natCast_zero,Int.sub_zero]at a0
  clear dE
  by_cases hk:(k:Int)<(xs.length:Int)
  ·have bW:∀{e:Env},(e 5=.int .i64 (IntKind.i64.wrap ((k:Int)+1)))->(e 1=(.int .i64 (left-xs.length-(eH wt xs (k+1):Nat))))->(0<=left-xs.length-(eH wt xs (k+1):Nat))->∃m0,m0<(xs.length)-k/\∃k:Nat,m0=(xs.length)-k/\k<=(xs.length)/\e 5=.int .i64 (k:Int)/\e 1=(.int .i64 (left-xs.length-(eH wt xs k:Nat)))/\(0<=left-xs.length-(eH wt xs k:Nat)):=fun x1 x2 x3=>⟨_,ab,k+1,rfl,ab,(by rw[x1,aA ab]),x2,x3⟩
   have fw:k<xs.length:=ab
   have eO:(xs.map e)[k]? =some (e xs[k]):=by simp[fw]
   have sf:=hz xs[k]
   have ht:(e xs[k]).take z=e xs[k]:=by rw[<-sf,List.take_length]
   have hs:=mo wt fw
   have sM:=jB wt xs (k+1)
   have gL:=hg _ (List.getElem_mem fw) (left-xs.length-(eH wt xs k:Nat)) k5 ab
   have lp:cq (dD st_a.get) 6 [.agg (e xs[k]),.int .i64 (left-xs.length-(eH wt xs k:Nat))]=some [.agg (e xs[k]),.int .i64 (left-xs.length-(eH wt xs k:Nat))]:=by
    have q1:=Db xs[k] (dD st_a.get)
    rw[ad,aj]at q1
    rw[ad,ad,aj,aH]
    revert q1
    cases V.fz (dD st_a.get) 6 (.agg (e xs[k]))<;>simp
   by_cases By:(wt xs[k]:Int)<=left-xs.length-(eH wt xs k:Nat)
   ·rw[vP,if_pos By]at gL
    have RT:¬left-xs.length-(eH wt xs k:Nat)-(wt xs[k]:Int)<0:=ab
    have vD:left-xs.length-(eH wt xs k:Nat)-(wt xs[k]:Int)=left-xs.length-(eH wt xs (k+1):Nat):=by rw[hs];omega
    generalize hex:e xs[k]=c at gL lp eO sf ht
    (try((repeat(revert hN;revert N;apply Pn.out));refine wk (tw @a5 (tw @a1 (tw @a0 (tw @hk (tw @eO (tw @sf (tw @ht @Nat.le_refl))))))) ?_;(repeat(refine Pn.mk ?_;intro N hN))))
    refine .inl ⟨_,ah.x gL lp,?_⟩
    refine hN _ _ ?_
    clear hN N
    (try((repeat(revert hN;revert N;apply Pn.out));refine wk (tw @a5 (tw @a1 (tw @a0 @RT))) ?_;(repeat(refine Pn.mk ?_;intro N hN))))
    refine bW ?_ ?_ ((by rw[hs];omega))
    all_goals simp only[go_sem, ↓reduceIte,Nat.reduceEqDiff,Nat.reduceAdd,Nat.reduceSub,Nat.reduceLeDiff,reduceCtorEq,a5,a1,a0,vD]
   ·rw[vP,if_neg By]at gL
    generalize hex:e xs[k]=c at gL lp eO sf ht
    (try((repeat(revert hN;revert N;apply Pn.out));refine wk (tw @a5 (tw @a1 (tw @a0 (tw @hk (tw @eO (tw @sf (tw @ht @Nat.le_refl))))))) ?_;(repeat(refine Pn.mk ?_;intro N hN))))
    refine .inl ⟨_,ah.x gL lp,?_⟩
    refine hN _ _ ?_
    clear hN N
    (try((repeat(revert hN;revert N;apply Pn.out));refine wk (tw @a5 (tw @a1 @a0)) ?_;(repeat(refine Pn.mk ?_;intro N hN))))
    exact bG (b:=-1) (.inl rfl) (sd @Nat.zero_add) (by rw[vP,if_neg ab])
  ·(try((repeat(revert hN;revert N;apply Pn.out));refine wk (tw @a5 (tw @a1 (tw @a0 @hk))) ?_;(repeat(refine Pn.mk ?_;intro N hN))))
   have fw:k=xs.length:=ab
   subst fw
   have Qc:=qE wt xs
   exact bG (b:=left-xs.length-(eH wt xs xs.length:Nat)) (.inl rfl) (sd (tw @a5 (tw @a1 @a0))) (by rw[vP,if_pos ab];omega)
 ·have lj:left-(xs.length:Int)<0:=ab
  (try((repeat(revert hN;revert N;apply Pn.out));refine wk (tw @hw @lj) ?_;(repeat(refine Pn.mk ?_;intro N hN))))
  exact bG (b:=-1) (.inl rfl) (sd @Nat.zero_add) (by rw[vP,if_neg ab])
theorem Gx {α:Type} {xs ys:List α} (hl:xs.length=ys.length) (h:∀j:Nat,j<xs.length->∀(h1:j<xs.length) (h2:j<ys.length),xs[j]=ys[j]):xs=ys:=List.ext_getElem hl fun j h1 h2=>h j h1 h1 h2
theorem A7 {α:Type} [DecidableEq α] {e:α->List AV} {z fk gk:Nat} (hc:l5 P fk=some (C1 fk gk z)) (hz:∀x,(e x).length=z) (Db:∀x g,cq g 6 [.agg (e x)]=some [.agg (e x)]) (xs ys:List α)
  (hg:∀x y,ah P gk [.agg (e x),.agg (e y)] (.bool (decide (x=y)))):ah P fk [.sl (xs.map e),.sl (ys.map e)] (.bool (decide (xs=ys))):=by
 refine ah.body hc rfl fun hl n0=>?_
 try simp only[q]
 have hn:xs.length<=9223372036854775807:=by simpa using(hl (.sl (xs.map e)) (by simp)).len
 clear hl
 by_cases hlen:xs.length=ys.length
 ·have kg:decide ((xs.length:Int)=(ys.length:Int))=true:=by simp[hlen]
  (try((repeat(revert hN;revert N;apply Pn.out));refine wk @kg ?_;(repeat(refine Pn.mk ?_;intro N hN))))
  refine aT (fun n env st=>∃k:Nat,n=(xs.length)-k/\k<=(xs.length)/\env 5=.int .i64 (k:Int)/\(∀j:Nat,j<k->∀(h1:j<xs.length) (h2:j<ys.length),xs[j]=ys[j])) (xs.length) ⟨0,ab,ab,sl @Nat.zero_add,fun _ h=>absurd h (Nat.not_lt_zero _)⟩ ?_
  rintro n_a env_a st_a ⟨k,rfl,ale,a5,kZ⟩ dE
  have a0:=dE 0 (by kernel_rfl);have a1:=dE 1 (by kernel_rfl)
  simp only[go_sem, ↓reduceIte,Nat.reduceEqDiff,Nat.reduceAdd,Nat.reduceSub,Nat.reduceLeDiff,reduceCtorEq]at a0 a1
  clear dE
  by_cases hk:(k:Int)<(xs.length:Int)
  ·have bW:∀{e:Env},(e 5=.int .i64 (IntKind.i64.wrap ((k:Int)+1)))->(∀(h1:k<xs.length) (h2:k<ys.length),xs[k]=ys[k])->∃m0,m0<(xs.length)-k/\∃k:Nat,m0=(xs.length)-k/\k<=(xs.length)/\e 5=.int .i64 (k:Int)/\(∀j:Nat,j<k->∀(h1:j<xs.length) (h2:j<ys.length),xs[j]=ys[j]):=fun x1 x2=>⟨_,ab,k+1,rfl,ab,(by rw[x1,aA ab]),(all_succ kZ x2)⟩
   have fw:k<xs.length:=ab
   have Qp:k<ys.length:=ab
   have eO:(xs.map e)[k]? =some (e xs[k]):=by simp[fw]
   have BC:(ys.map e)[k]? =some (e ys[k]):=by simp[Qp]
   have sf:=hz xs[k]
   have BN:=hz ys[k]
   have ht:(e xs[k]).take z=e xs[k]:=by rw[<-sf,List.take_length]
   have FQ:(e ys[k]).take z=e ys[k]:=by rw[<-BN,List.take_length]
   have gL:=hg xs[k] ys[k]
   have lp:∀g,cq g 6 [.agg (e xs[k]),.agg (e ys[k])]=some [.agg (e xs[k]),.agg (e ys[k])]:=fun g=>by
    have q1:=Db xs[k] g
    have q2:=Db ys[k] g
    rw[ad,aj]at q1
    rw[ad,q2]
    revert q1
    cases V.fz g 6 (.agg (e xs[k]))<;>simp
   by_cases heq:xs[k]=ys[k]
   ·rw[decide_eq_true heq]at gL
    generalize hex:e xs[k]=c at gL lp eO sf ht
    generalize hey:e ys[k]=d at gL lp BC BN FQ
    (try((repeat(revert hN;revert N;apply Pn.out));refine wk (tw @a5 (tw @a0 (tw @a1 (tw @hk (tw @eO (tw @BC (tw @sf (tw @BN (tw @ht (tw @FQ @Nat.le_refl)))))))))) ?_;(repeat(refine Pn.mk ?_;intro N hN))))
    refine⟨_,ah.x gL (lp _),?_⟩
    refine hN _ _ ?_
    clear hN N
    (try((repeat(revert hN;revert N;apply Pn.out));refine wk (tw @a5 (tw @a0 @a1)) ?_;(repeat(refine Pn.mk ?_;intro N hN))))
    exact bW (sd (tw @a5 (tw @a0 @a1))) (fun _ _=>heq)
   ·rw[decide_eq_false heq]at gL
    generalize hex:e xs[k]=c at gL lp eO sf ht
    generalize hey:e ys[k]=d at gL lp BC BN FQ
    (try((repeat(revert hN;revert N;apply Pn.out));refine wk (tw @a5 (tw @a0 (tw @a1 (tw @hk (tw @eO (tw @BC (tw @sf (tw @BN (tw @ht (tw @FQ @Nat.le_refl)))))))))) ?_;(repeat(refine Pn.mk ?_;intro N hN))))
    refine⟨_,ah.x gL (lp _),?_⟩
    refine hN _ _ ?_
    clear hN N
    (try((repeat(revert hN;revert N;apply Pn.out));refine wk (tw @a5 (tw @a0 @a1)) ?_;(repeat(refine Pn.mk ?_;intro N hN))))
    exact aO (b:=false) (.inl rfl) (sd @Nat.zero_add) (decide_eq_false fun h=>heq (List.getElem_of_eq h _)).symm
  ·(try((repeat(revert hN;revert N;apply Pn.out));refine wk (tw @a5 (tw @a0 (tw @a1 @hk))) ?_;(repeat(refine Pn.mk ?_;intro N hN))))
   exact aO (b:=true) (.inl rfl) (sd @Nat.zero_add) (decide_eq_true (Gx hlen fun j hj h1 h2=>kZ j ab h1 h2)).symm
 ·have kg:decide ((xs.length:Int)=(ys.length:Int))=false:=decide_eq_false fun h=>hlen ab
  (try((repeat(revert hN;revert N;apply Pn.out));refine wk @kg ?_;(repeat(refine Pn.mk ?_;intro N hN))))
  exact aO (b:=false) (.inl rfl) (sd @Nat.zero_add) (decide_eq_false fun h=>hlen (by subst h;rfl)).symm
theorem Ol {fk:Nat} (hc:l5 P fk=some (KC fk .tI)) (xs ys:List Int):
  ah P fk [.sl (xs.map fun x=>[AV.int .i64 x]),.sl (ys.map fun x=>[AV.int .i64 x])] (.bool (decide (xs=ys))):=by
 refine ah.body hc rfl fun hl n0=>?_
 try simp only[q]
 have hn:xs.length<=9223372036854775807:=by simpa using(hl (.sl (xs.map fun x=>[AV.int .i64 x])) (by simp)).len
 clear hl
 by_cases hlen:xs.length=ys.length
 ·have kg:decide ((xs.length:Int)=(ys.length:Int))=true:=by simp[hlen]
  (try((repeat(revert hN;revert N;apply Pn.out));refine wk @kg ?_;(repeat(refine Pn.mk ?_;intro N hN))))
  refine aT (fun n env st=>∃k:Nat,n=(xs.length)-k/\k<=(xs.length)/\env 5=.int .i64 (k:Int)/\(∀j:Nat,j<k->∀(h1:j<xs.length) (h2:j<ys.length),xs[j]=ys[j])) (xs.length) ⟨0,ab,ab,sl @Nat.zero_add,fun _ h=>absurd h (Nat.not_lt_zero _)⟩ ?_
  rintro n_a env_a st_a ⟨k,rfl,ale,a5,kZ⟩ dE
  have a0:=dE 0 (by kernel_rfl);have a1:=dE 1 (by kernel_rfl)
  simp only[go_sem, ↓reduceIte,Nat.reduceEqDiff,Nat.reduceAdd,Nat.reduceSub,Nat.reduceLeDiff,reduceCtorEq]at a0 a1
  clear dE
  by_cases hk:(k:Int)<(xs.length:Int)
  ·have bW:∀{e:Env},(e 5=.int .i64 (IntKind.i64.wrap ((k:Int)+1)))->(∀(h1:k<xs.length) (h2:k<ys.length),xs[k]=ys[k])->∃m0,m0<(xs.length)-k/\∃k:Nat,m0=(xs.length)-k/\k<=(xs.length)/\e 5=.int .i64 (k:Int)/\(∀j:Nat,j<k->∀(h1:j<xs.length) (h2:j<ys.length),xs[j]=ys[j]):=fun x1 x2=>⟨_,ab,k+1,rfl,ab,(by rw[x1,aA ab]),(all_succ kZ x2)⟩
   have fw:k<xs.length:=ab
   have Qp:k<ys.length:=ab
   have eO:(xs.map fun x=>[AV.int .i64 x])[k]? =some [.int .i64 xs[k]]:=by simp[fw]
   have BC:(ys.map fun x=>[AV.int .i64 x])[k]? =some [.int .i64 ys[k]]:=by simp[Qp]
   by_cases heq:xs[k]=ys[k]
   ·have hq:=decide_eq_true heq
    (try((repeat(revert hN;revert N;apply Pn.out));refine wk (tw @a5 (tw @a0 (tw @a1 (tw @hk (tw @eO (tw @BC @hq)))))) ?_;(repeat(refine Pn.mk ?_;intro N hN))))
    exact bW (sd (tw @a5 (tw @a0 @a1))) (fun _ _=>heq)
   ·have hq:=decide_eq_false heq
    (try((repeat(revert hN;revert N;apply Pn.out));refine wk (tw @a5 (tw @a0 (tw @a1 (tw @hk (tw @eO (tw @BC @hq)))))) ?_;(repeat(refine Pn.mk ?_;intro N hN))))
    exact aO (b:=false) (.inl rfl) (sd @Nat.zero_add) (decide_eq_false fun h=>heq (List.getElem_of_eq h _)).symm
  ·(try((repeat(revert hN;revert N;apply Pn.out));refine wk (tw @a5 (tw @a0 (tw @a1 @hk))) ?_;(repeat(refine Pn.mk ?_;intro N hN))))
   exact aO (b:=true) (.inl rfl) (sd @Nat.zero_add) (decide_eq_true (Gx hlen fun j hj h1 h2=>kZ j ab h1 h2)).symm
 ·have kg:decide ((xs.length:Int)=(ys.length:Int))=false:=decide_eq_false fun h=>hlen ab
  (try((repeat(revert hN;revert N;apply Pn.out));refine wk @kg ?_;(repeat(refine Pn.mk ?_;intro N hN))))
  exact aO (b:=false) (.inl rfl) (sd @Nat.zero_add) (decide_eq_false fun h=>hlen (by subst h;rfl)).symm
theorem tr (l:List AV):l++[]=l:=List.append_nil l
def gi {α:Type} (e:α->List AV) (zc:List AV) (xs:List α) (k:Nat):List (List AV):=(xs.take k).map e++List.replicate (xs.length-k) zc
theorem ny {α:Type} (e:α->List AV) (zc:List AV) (xs:List α):List.replicate xs.length zc=gi e zc xs 0:=by simp[gi]
theorem o8 {α:Type} (e:α->List AV) (zc:List AV) (xs:List α):gi e zc xs xs.length=xs.map e:=by simp[gi]
theorem o9 {α:Type} (e:α->List AV) (zc:List AV) (xs:List α) {k:Nat} (hk:k<xs.length):(gi e zc xs k)[k]? =some zc:=by
 have h1:((xs.take k).map e).length=k:=by simp;omega
 rw[gi,List.getElem?_append_right ab,h1,Nat.sub_self,List.getElem?_replicate,if_pos ab]
theorem pa {α:Type} (e:α->List AV) (zc:List AV) (xs:List α) {k:Nat} (hk:k<xs.length):(gi e zc xs k).set k (e xs[k])=gi e zc xs (k+1):=by
 have h1:((xs.take k).map e).length=k:=by simp;omega
 rw[gi,List.set_append_right _ _ ab,h1,Nat.sub_self,gi,List.take_succ_eq_append_getElem hk,List.map_append,List.append_assoc]
 congr 1
 obtain⟨m,hm⟩:∃m,xs.length-k=m+1:=⟨xs.length-k-1,ab⟩
 rw[hm,show xs.length-(k+1)=m by omega,List.replicate_succ]
 rfl
theorem CD {α:Type} {en:α->List AV} {z fk gk:Nat} {zero:List K} (hc:l5 P fk=some (ss fk gk z zero)) (FW:zero.length=z) (hz:∀x,(en x).length=z) (jW:∀x,(en x).all AV.cell=true) (Db:∀x g,cq g 5 (en x)=some (en x)) (xs:List α) (hlen:xs.length<=1048576)
  (hg:∀x∈xs,j0 P gk [.agg (en x)] (.agg (en x))):j0 P fk [.sl (xs.map en)] (.sl (xs.map en)):=by
 refine j0.body hc rfl fun hl σ=>?_
 try simp only[q]
 clear hl
 have hm:(xs.length:Int)<=((16777216:Nat):Int):=ab
 have h0:(0:Int)<=(xs.length:Int):=ab
 (try((repeat(revert hN;revert N;apply Pn.out));refine wk (tw @hm (tw @h0 (tw @Int.le_refl (tw (ny en (zero.map K.av) xs) @FW)))) ?_;(repeat(refine Pn.mk ?_;intro N hN))))
 refine aT (fun n env st=>∃k:Nat,n=(xs.length)-k/\k<=(xs.length)/\env 4=.int .i64 (k:Int)/\st.get ⟨fk*1000000+1002,σ.next+1⟩=some ⟨true,z,gi en (zero.map K.av) xs k⟩) (xs.length) ⟨0,ab,ab,sl @Nat.zero_add,sl @Nat.zero_add⟩ ?_
 rintro n_a env_a st_a ⟨k,rfl,ale,a4,ag0⟩ dE
 have a0:=dE 0 (by kernel_rfl);have a3:=dE 3 (by kernel_rfl)
 simp only[go_sem, ↓reduceIte,Nat.reduceEqDiff,Nat.reduceAdd,Nat.reduceSub,Nat.reduceLeDiff,reduceCtorEq]at a0 a3
 clear dE
 by_cases hk:(k:Int)<(xs.length:Int)
 ·have bW:∀{e:Env} {gg:Rows},(e 4=.int .i64 (IntKind.i64.wrap ((k:Int)+1)))->(gg ⟨fk*1000000+1002,σ.next+1⟩=some ⟨true,z,gi en (zero.map K.av) xs (k+1)⟩)->∃m0,m0<(xs.length)-k/\∃k:Nat,m0=(xs.length)-k/\k<=(xs.length)/\e 4=.int .i64 (k:Int)/\gg ⟨fk*1000000+1002,σ.next+1⟩=some ⟨true,z,gi en (zero.map K.av) xs k⟩:=fun x1 x2=>⟨_,ab,k+1,rfl,ab,(by rw[x1,aA ab]),x2⟩
  have fw:k<xs.length:=ab
  have eO:(xs.map en)[k]? =some (en xs[k]):=by simp[fw]
  have sf:=hz xs[k]
  have Ip:=jW xs[k]
  have ht:(en xs[k]).take z=en xs[k]:=by rw[<-sf,List.take_length]
  have gL:=hg _ (List.getElem_mem fw)
  have fa:=o9 en (zero.map K.av) xs fw
  have ew:=pa en (zero.map K.av) xs fw
  have GM:(zero.map K.av).drop z=[]:=List.drop_of_length_le (by simp[FW])
  generalize hex:en xs[k]=c at gL eO sf ht Ip ew
  (repeat(first|((repeat(revert hN;revert N;apply Pn.out));refine wk (tw @a4 (tw @ag0 (tw @a0 (tw @a3 (tw @hk (tw @eO (tw @sf (tw @ht (tw @Nat.le_refl (tw @fa (tw @ew (tw @GM (tw @tr (tw @Ip @FW)))))))))))))) ?_;(repeat(refine Pn.mk ?_;intro N hN)))|((try apply Or.inl);refine⟨_,j0.x (gL) _,?_⟩;refine hN _ _ ?_;clear hN N)))
  refine bW ?_ ?_
  all_goals simp only[go_sem, ↓reduceIte,Nat.reduceEqDiff,Nat.reduceAdd,Nat.reduceSub,Nat.reduceLeDiff,reduceCtorEq,a4,ag0,a0,a3]
 ·(try((repeat(revert hN;revert N;apply Pn.out));refine wk (tw @a4 (tw @ag0 (tw @a0 (tw @a3 @hk)))) ?_;(repeat(refine Pn.mk ?_;intro N hN))))
  have fw:k=xs.length:=ab
  subst fw
  refine PD (.inl rfl) (r0:=.own ⟨fk*1000000+1002,σ.next+1⟩ 0 xs.length) (sd (tw @a4 (tw @ag0 (tw @a0 @a3)))) ?_
  rw[o8]at ag0
  exact eT ag0 (by simp) fun x=>Db x _
theorem PF {fk:Nat} (hc:l5 P fk=some (H0 fk (.int .i64 0))) (xs:List Int) (hlen:xs.length<=1048576):j0 P fk [.sl (xs.map fun x=>[AV.int .i64 x])] (.sl (xs.map fun x=>[AV.int .i64 x])):=by
 refine j0.body hc rfl fun hl σ=>?_
 try simp only[q]
 clear hl
 obtain⟨en,Iq⟩:∃en:Int->List AV,en=fun x=>[AV.int .i64 x]:=⟨_,rfl⟩
 rw[<-Iq]
 have hm:(xs.length:Int)<=((16777216:Nat):Int):=ab
 have h0:(0:Int)<=(xs.length:Int):=ab
 (try((repeat(revert hN;revert N;apply Pn.out));refine wk (tw @hm (tw @h0 (tw @Int.le_refl (ny en [AV.int .i64 0] xs)))) ?_;(repeat(refine Pn.mk ?_;intro N hN))))
 refine aT (fun n env st=>∃k:Nat,n=(xs.length)-k/\k<=(xs.length)/\env 4=.int .i64 (k:Int)/\st.get ⟨fk*1000000+1002,σ.next+1⟩=some ⟨true,1,gi en [AV.int .i64 0] xs k⟩) (xs.length) ⟨0,ab,ab,sl @Nat.zero_add,sl @Nat.zero_add⟩ ?_
 rintro n_a env_a st_a ⟨k,rfl,ale,a4,ag0⟩ dE
 have a0:=dE 0 (by kernel_rfl);have a3:=dE 3 (by kernel_rfl)
 simp only[go_sem, ↓reduceIte,Nat.reduceEqDiff,Nat.reduceAdd,Nat.reduceSub,Nat.reduceLeDiff,reduceCtorEq]at a0 a3
 clear dE
 by_cases hk:(k:Int)<(xs.length:Int)
 ·have bW:∀{e:Env} {gg:Rows},(e 4=.int .i64 (IntKind.i64.wrap ((k:Int)+1)))->(gg ⟨fk*1000000+1002,σ.next+1⟩=some ⟨true,1,gi en [AV.int .i64 0] xs (k+1)⟩)->∃m0,m0<(xs.length)-k/\∃k:Nat,m0=(xs.length)-k/\k<=(xs.length)/\e 4=.int .i64 (k:Int)/\gg ⟨fk*1000000+1002,σ.next+1⟩=some ⟨true,1,gi en [AV.int .i64 0] xs k⟩:=fun x1 x2=>⟨_,ab,k+1,rfl,ab,(by rw[x1,aA ab]),x2⟩
  have fw:k<xs.length:=ab
  have eO:(xs.map en)[k]? =some [AV.int .i64 xs[k]]:=by simp[fw,Iq]
  have fa:=o9 en [AV.int .i64 0] xs fw
  have ew:=pa en [AV.int .i64 0] xs fw
  rw[show en xs[k]=[AV.int .i64 xs[k]] by rw[Iq]]at ew
  (try((repeat(revert hN;revert N;apply Pn.out));refine wk (tw @a4 (tw @ag0 (tw @a0 (tw @a3 (tw @hk (tw @eO (tw @fa @ew))))))) ?_;(repeat(refine Pn.mk ?_;intro N hN))))
  refine bW ?_ ?_
  all_goals simp only[go_sem, ↓reduceIte,Nat.reduceEqDiff,Nat.reduceAdd,Nat.reduceSub,Nat.reduceLeDiff,reduceCtorEq,a4,ag0,a0,a3]
 ·(try((repeat(revert hN;revert N;apply Pn.out));refine wk (tw @a4 (tw @ag0 (tw @a0 (tw @a3 @hk)))) ?_;(repeat(refine Pn.mk ?_;intro N hN))))
  have fw:k=xs.length:=ab
  subst fw
  refine PD (.inl rfl) (r0:=.own ⟨fk*1000000+1002,σ.next+1⟩ 0 xs.length) (sd (tw @a4 (tw @ag0 (tw @a0 @a3)))) ?_
  rw[o8]at ag0
  exact eT ag0 (by simp) fun x=>by simp[Iq,ad,aj,aH]
end Go.Proofs.YtihgaadadaekmaaGreat.V

namespace Go.Proofs.YtihgaadadaekmaaGreat
open Go.RowKit
def Sl (w:World) (fp:List Nat) (v:Value) (n:Nat) (xs:List Value):Prop:=
 ∃A c,v=.slice A n c/\n<=c/\c<=maxLen/\
  ((fp=[]/\n=0)∨∃b o,fp=[b]/\A=some ⟨b,o,none⟩/\∀j u,xs[j]? =some u->w.cell? ⟨b,o+j,none⟩=some u)
def fq (fp:List Nat) (lo hi:Nat):Prop:=∀b∈fp,lo<=b/\b<hi
theorem fq.nil (lo hi:Nat):fq [] lo hi:=fun _ h=>by cases h
theorem wc {w w':World} {b o:Nat} (h:w'.heap[b]? =w.heap[b]?):w'.cell? ⟨b,o,none⟩=w.cell? ⟨b,o,none⟩:=World.cell?_of_block (a:=⟨b,o,none⟩) h
theorem Sl.nil (w:World):Sl w [] (.slice none 0 0) 0 []:=⟨none,0,rfl,Nat.le_refl _,by simp[maxLen],.inl ⟨rfl,rfl⟩⟩
def Lj {α:Type} (rep:World->List Nat->List Value->α->Prop) (sz:Nat) (w:World) (nz:List (List Value)) (C2:List (List Nat)) (ds:List α):Prop:=
 nz.length=ds.length/\C2.length=ds.length/\∀(i:Nat) (cs:List Value) (f:List Nat) (d:α),nz[i]? =some cs->C2[i]? =some f->ds[i]? =some d->rep w f cs d/\cs.length=sz
def lW {α:Type} (rep:World->List Nat->List Value->α->Prop) (sz:Nat) (w:World) (fp:List Nat) (v:Value) (ds:List α):Prop:=
 ∃nz C2 Q0,fp=Q0++C2.flatten/\Sl w Q0 v ds.length nz.flatten/\Lj rep sz w nz C2 ds
theorem pq {α:Type} {C2:List (List α)} {i:Nat} {f:List α} (h:C2[i]? =some f):∀b∈f,b∈C2.flatten:=fun b hb=>
 List.mem_flatten.2 ⟨f,List.mem_of_getElem? h,hb⟩
theorem r4 {α:Type} {nz:List (List α)} {sz:Nat} (h:∀cs∈nz,cs.length=sz) {i j:Nat} {cs:List α} (hi:nz[i]? =some cs) (hj:j<sz):nz.flatten[i*sz+j]? =cs[j]? :=by
 induction nz generalizing i with
 |nil=>simp at hi
 |cons c r ih=>
  have hc:c.length=sz:=h c (by simp)
  cases i with
  |zero=>
   simp at hi;subst hi
   rw[List.flatten_cons,List.getElem?_append_left (by omega)];simp
  |succ i=>
   rw[List.flatten_cons,List.getElem?_append_right (by rw[hc,Nat.succ_mul];omega)]
   have:(i+1)*sz+j-c.length=i*sz+j:=by rw[hc,Nat.succ_mul];omega
   rw[this]
   exact ih (fun cs dn=>h cs (List.mem_cons_of_mem _ dn)) (by simpa using hi)
theorem Lj.lens {α:Type} {rep:World->List Nat->List Value->α->Prop} {sz:Nat} {w:World} {nz:List (List Value)} {C2:List (List Nat)} {ds:List α}
  (h:Lj rep sz w nz C2 ds):∀cs∈nz,cs.length=sz:=fun cs dn=>by
 obtain⟨i,hi,rfl⟩:=List.getElem_of_mem dn
 have h1:i<C2.length:=by rw[h.2.1,<-h.1];exact hi
 have h2:i<ds.length:=by rw[<-h.1];exact hi
 exact(h.2.2 i _ _ _ (List.getElem?_eq_getElem hi) (List.getElem?_eq_getElem h1) (List.getElem?_eq_getElem h2)).2
theorem lW.at_ {α:Type} {rep:World->List Nat->List Value->α->Prop} {sz:Nat} {w:World} {fp:List Nat} {A:Option Addr} {n c:Nat} {ds:List α}
  (h:lW rep sz w fp (.slice A n c) ds) (k:Nat) (hk:k<ds.length):
  ∃b o cs f,A=some ⟨b,o,none⟩/\b∈fp/\(∀x∈f,x∈fp)/\rep w f cs ds[k]/\cs.length=sz/\∀j u,cs[j]? =some u->w.cell? ⟨b,o+(k*sz+j),none⟩=some u:=by
 obtain⟨nz,C2,Q0,rfl,⟨A',c',hv,_,_,hc⟩,hr⟩:=h
 simp only[Value.slice.injEq]at hv
 obtain⟨rfl,hn,rfl⟩:=hv
 rcases hc with⟨_,h0⟩|⟨b,o,rfl,rfl,hc⟩
 ·omega
 have h1:k<nz.length:=by rw[hr.1];exact hk
 have h2:k<C2.length:=by rw[hr.2.1];exact hk
 obtain⟨gx,hl⟩:=hr.2.2 k _ _ _ (List.getElem?_eq_getElem h1) (List.getElem?_eq_getElem h2) (List.getElem?_eq_getElem hk)
 refine⟨b,o,nz[k],C2[k],rfl,by simp,fun x hx=>List.mem_append_right _ (pq (List.getElem?_eq_getElem h2) x hx),gx,hl,fun j u hj=>?_⟩
 have gG:j<sz:=by rw[<-hl];exact(List.getElem?_eq_some_iff.1 hj).1
 exact hc _ u (by rw[r4 hr.lens (List.getElem?_eq_getElem h1) gG];exact hj)
theorem lW.len {α:Type} {rep:World->List Nat->List Value->α->Prop} {sz:Nat} {w:World} {fp:List Nat} {v:Value} {ds:List α}
  (h:lW rep sz w fp v ds):∃A c,v=.slice A ds.length c/\ds.length<=c/\c<=maxLen:=by
 obtain⟨_,_,_,_,⟨A,c,hv,h1,h2,_⟩,_⟩:=h
 exact⟨A,c,hv,h1,h2⟩
theorem lW.nil {α:Type} (rep:World->List Nat->List Value->α->Prop) (sz:Nat) (w:World):lW rep sz w [] (.slice none 0 0) ([]:List α):=
 ⟨[],[],[],rfl,Sl.nil w,rfl,rfl,fun i cs f d hc=>by simp at hc⟩
def Flat {α:Type} (enc:α->List Value):World->List Nat->List Value->α->Prop:=fun _ f cs d=>f=[]/\cs=enc d
def Q (w w':World):Prop:=∃q,w'=w.drewN q
theorem Oa {B:Nat} {a w:World} (h:Below B a w) (n:Nat):Below B a (w.drewN n):=⟨h.os,h.tape,h.output,h.size,h.block⟩
theorem gW {a b:Bool} (h:a=b):Ending.returned (.bool a)=.returned (.bool b):=by rw[h]
def Unf (w:World) (b:Nat):Prop:=∃cs e,w.heap[b]? =some (.cells cs e (0,0))
structure Only (fp:List Nat) (w w':World):Prop where
 os:w'.os=w.os
 tape:w'.tape=w.tape
 output:w'.output=w.output
 size:w.heap.size<=w'.heap.size
 block:∀x,x<w.heap.size->x∉fp->w'.heap[x]? =w.heap[x]?
 unf:∀x,Unf w x->Unf w' x
structure bH where
 gu:Int
 fN:Int
deriving DecidableEq
structure ak where
 cI:bH
 bJ:Int
deriving DecidableEq
structure dm where
 ae:List ak
deriving DecidableEq
structure fc where
 aB:ByteArray
 dS:Int
deriving DecidableEq
structure eJ where
 aB:ByteArray
 bm:List Int
deriving DecidableEq
structure aq where
 au:List fc
 ae:List eJ
deriving DecidableEq
structure cl where
 aI:aq
 ck:dm
 aJ:Int
deriving DecidableEq
def Eh (d:Int):List Value:=[.int .i64 d]
def CO:=Flat Eh
def A5 (d:ak):List Value:=[.int .i64 d.cI.gu,.int .i64 d.cI.fN,.int .i64 d.bJ]
def yP:=Flat A5
def iC:=lW yP 3
def Gt (d:fc):List Value:=[.string d.aB,.int .i64 d.dS]
def F4:=Flat Gt
def pK:=lW F4 2
def tp:=lW CO 1
def F5 (w:World) (f:List Nat) (cs:List Value) (d:eJ):Prop:=
 ∃v1 f1,f=f1/\cs=[.string d.aB,v1]/\tp w f1 v1 d.bm
def pM:=lW F5 2
end Go.Proofs.YtihgaadadaekmaaGreat

namespace Go.Proofs.YtihgaadadaekmaaGreat.V
open Go.RowKit
variable {P:Program} {w:World} {D:Nat->Prop}
def F0 (P:Program) (w:World) (D:Nat->Prop) (al:List AV) (cs:List Value):Prop:=∀(j:Nat) (a:AV),al[j]? =some a->∃u:Value,cs[j]? =some u/\jE P w D a u
theorem qC {α:Type} {rep:World->List Nat->List Value->α->Prop} {e:α->List AV} {sz:Nat} {f:List Nat} {v:Value} {xs:List α} (h:lW rep sz w f v xs) (hD:∀b∈f,D b)
  (hl:∀x∈xs,(e x).length=sz) (hc:∀x∈xs,∀a∈e x,a.cell=true) (hr:∀x∈xs,∀f' cs,rep w f' cs x->(∀b∈f',D b)->F0 P w D (e x) cs):jE P w D (.sl (xs.map e)) v:=by
 obtain⟨A,c,rfl,h1,h2⟩:=lW.len h
 by_cases h0:xs=[]
 ·subst h0;exact .AF _ _ h2
 have jq:0<xs.length:=List.length_pos_iff.2 h0
 obtain⟨b,o,Nz,f0,rfl,hb,Qk,R4,Bv,jk⟩:=lW.at_ h 0 jq
 have key:∀(i:Nat) (hi:i<xs.length),∃cs f',(∀x∈f',x∈f)/\rep w f' cs xs[i]/\cs.length=sz/\∀j u,cs[j]? =some u->w.cell? ⟨b,o+(i*sz+j),none⟩=some u:=by
  intro i hi
  obtain⟨b',o',cs,f',Qe,_,lj,m7,dn,kf⟩:=lW.at_ h i hi
  simp only[Option.some.injEq,Addr.mk.injEq,and_true]at Qe
  obtain⟨rfl,rfl⟩:=Qe
  exact⟨cs,f',lj,m7,dn,kf⟩
 refine .sl _ b o _ c sz (fun i j=>(w.cell? ⟨b,o+(i*sz+j),none⟩).getD Go.undef) (by simp) h1 h2 (hD b hb) ?_ ?_ ?_ ?_
 ·intro cs dn
  obtain⟨x,hx,rfl⟩:=List.mem_map.1 dn
  exact hl x hx
 ·intro cs dn
  obtain⟨x,hx,rfl⟩:=List.mem_map.1 dn
  exact hc x hx
 ·intro i j hi hj
  obtain⟨cs,f',_,_,dn,kf⟩:=key i hi
  rw[kf j cs[j] (List.getElem?_eq_getElem ab)]
  rfl
 ·intro i j cs a dn ha
  have hi:i<xs.length:=by
   have:=(List.getElem?_eq_some_iff.1 dn).1
   simpa using this
  obtain⟨oI,f',lj,m7,hcs',kf⟩:=key i hi
  simp[hi]at dn
  subst dn
  obtain⟨u,hu,him⟩:=hr _ (List.getElem_mem hi) f' oI m7 (fun b hb=>hD b (lj b hb)) j a ha
  rw[kf j u hu]
  exact him
end Go.Proofs.YtihgaadadaekmaaGreat.V

namespace Go.Proofs.YtihgaadadaekmaaGreat.V
open Go.RowKit
variable {P:Program} {w:World} {D:Nat->Prop}
def ay (d:Int):List AV:=[.int .i64 d]
def ao (d:bH):List AV:=[.int .i64 d.gu,.int .i64 d.fN]
def ai (d:ak):List AV:=[.int .i64 d.cI.gu,.int .i64 d.cI.fN,.int .i64 d.bJ]
def aD (d:dm):List AV:=[.sl (d.ae.map ai)]
def bh (d:fc):List AV:=[.str d.aB,.int .i64 d.dS]
def aW (d:eJ):List AV:=[.str d.aB,.sl (d.bm.map ay)]
def aa (d:aq):List AV:=[.sl (d.au.map bh),.sl (d.ae.map aW)]
def az (d:cl):List AV:=[.sl (d.aI.au.map bh),.sl (d.aI.ae.map aW),.sl (d.ck.ae.map ai),.int .i64 d.aJ]
theorem rT {f:List Nat} {v:Value} {xs:List ak} (h:iC w f v xs) (hD:∀b∈f,D b):jE P w D (.sl (xs.map ai)) v:=
 qC h hD (fun _ _=>rfl) (fun x _ a ha=>by simp[ai]at ha;rcases ha with rfl|rfl|rfl<;>rfl) fun x _ f' cs hr hf=>by
  obtain⟨_,rfl⟩:=hr
  intro j a ha
  match j,ha with
  |0,ha=>simp[ai]at ha;subst ha;exact⟨_,rfl,.int _ _⟩
  |1,ha=>simp[ai]at ha;subst ha;exact⟨_,rfl,.int _ _⟩
  |2,ha=>simp[ai]at ha;subst ha;exact⟨_,rfl,.int _ _⟩
  |j+3,ha=>simp[ai]at ha
theorem xd {d:dm} {f0:List Nat} {v0:Value} (h0:iC w f0 v0 d.ae) (d0:∀b∈f0,D b):jE P w D (.agg (aD d)) (.agg #[v0]):=by
 refine .agg _ _ (fun j=>(#[v0]:Array Value).getD j Go.undef) rfl (fun a ha=>by simp[aD]at ha;rcases ha with rfl<;>rfl) (fun j hj=>?_) (fun j a ha=>?_)
 ·match j,hj with
  |0,_=>rfl
  |j+1,hj=>simp[aD]at hj<;>omega
 ·match j,ha with
  |0,ha=>simp[aD]at ha;subst ha;exact rT h0 d0
  |j+1,ha=>simp[aD]at ha
theorem DP {f:List Nat} {v:Value} {xs:List fc} (h:pK w f v xs) (hD:∀b∈f,D b):jE P w D (.sl (xs.map bh)) v:=
 qC h hD (fun _ _=>rfl) (fun x _ a ha=>by simp[bh]at ha;rcases ha with rfl|rfl<;>rfl) fun x _ f' cs hr hf=>by
  obtain⟨_,rfl⟩:=hr
  intro j a ha
  match j,ha with
  |0,ha=>simp[bh]at ha;subst ha;exact⟨_,rfl,.str _⟩
  |1,ha=>simp[bh]at ha;subst ha;exact⟨_,rfl,.int _ _⟩
  |j+2,ha=>simp[bh]at ha
theorem AK {f:List Nat} {v:Value} {xs:List Int} (h:tp w f v xs) (hD:∀b∈f,D b):jE P w D (.sl (xs.map ay)) v:=
 qC h hD (fun _ _=>rfl) (fun x _ a ha=>by simp[ay]at ha;rcases ha with rfl<;>rfl) fun x _ f' cs hr hf=>by
  obtain⟨_,rfl⟩:=hr
  intro j a ha
  match j,ha with
  |0,ha=>simp[ay]at ha;subst ha;exact⟨_,rfl,.int _ _⟩
  |j+1,ha=>simp[ay]at ha
theorem DT {f:List Nat} {v:Value} {xs:List eJ} (h:pM w f v xs) (hD:∀b∈f,D b):jE P w D (.sl (xs.map aW)) v:=
 qC h hD (fun _ _=>rfl) (fun x _ a ha=>by simp[aW]at ha;rcases ha with rfl|rfl<;>rfl) fun x _ f' cs hr hf=>by
  obtain⟨v1,f1,rfl,rfl,h1⟩:=hr
  intro j a ha
  match j,ha with
  |0,ha=>simp[aW]at ha;subst ha;exact⟨_,rfl,.str _⟩
  |1,ha=>simp[aW]at ha;subst ha;exact⟨_,rfl,AK h1 hf⟩
  |j+2,ha=>simp[aW]at ha
theorem AM {d:cl} {f0:List Nat} {v0:Value} (h0:pK w f0 v0 d.aI.au) (d0:∀b∈f0,D b) {f1:List Nat} {v1:Value} (h1:pM w f1 v1 d.aI.ae) (d1:∀b∈f1,D b) {f2:List Nat} {v2:Value} (h2:iC w f2 v2 d.ck.ae) (d2:∀b∈f2,D b):jE P w D (.agg (az d)) (.agg #[v0,v1,v2,.int .i64 d.aJ]):=by
 refine .agg _ _ (fun j=>(#[v0,v1,v2,.int .i64 d.aJ]:Array Value).getD j Go.undef) rfl (fun a ha=>by simp[az]at ha;rcases ha with rfl|rfl|rfl|rfl<;>rfl) (fun j hj=>?_) (fun j a ha=>?_)
 ·match j,hj with
  |0,_=>rfl
  |1,_=>rfl
  |2,_=>rfl
  |3,_=>rfl
  |j+4,hj=>simp[az]at hj<;>omega
 ·match j,ha with
  |0,ha=>simp[az]at ha;subst ha;exact DP h0 d0
  |1,ha=>simp[az]at ha;subst ha;exact DT h1 d1
  |2,ha=>simp[az]at ha;subst ha;exact rT h2 d2
  |3,ha=>simp[az]at ha;subst ha;exact .int _ _
  |j+4,ha=>simp[az]at ha
end Go.Proofs.YtihgaadadaekmaaGreat.V

namespace Go.Proofs.YtihgaadadaekmaaGreat.V
open Go.RowKit
attribute [local irreducible] eb wpOps gH Call
attribute [local go_sem] aM fI eM fX fV cE upd cm K.av cK AV.cells AV.cell rowOf rowsOf part ld rowAt bS bZ dH ei ij bK dc eA fZ e8 du ep cY cX dU dW bQ bf cQ bP cT cR ek er eo cP bU cZ ej bL aQ cV cw ig bt cH bR bc dF bq dI AV.undef bD bF dX eh dQ dZ cF ez eE cr ev eu cU cW List.getD_cons_zero List.getD_cons_succ List.getD_nil List.all_cons List.all_nil Bool.and_true Bool.true_and Bool.and_self Bool.not_true Bool.not_false Option.map_some Option.map_none Option.bind_some Option.bind_none List.length_cons List.length_nil List.take_succ_cons List.take_zero List.take_nil List.drop_succ_cons List.drop_zero List.drop_nil List.head?_cons List.map_cons List.map_nil List.getElem?_cons_zero List.getElem?_cons_succ List.cons_append List.nil_append List.append_nil List.length_map List.set_cons_zero List.set_cons_succ Nat.reduceMul eq_self Int.toNat_natCast Int.natCast_nonneg and_self true_and and_true decide_true decide_false Bool.false_eq_true Nat.zero_add Nat.add_zero List.contains_cons List.contains_nil Bool.or_false Bool.false_or beq_self_eq_true Nat.reduceBEq ne_eq not_true_eq_false not_false_eq_true Id.mk.injEq false_and and_false Nat.reduceLT Int.reduceLE Int.reduceLT Int.reduceToNat Int.reduceNeg Int.reduceAdd Nat.le_refl List.length_append beq_true beq_false Bool.not_eq_eq_eq_not or_false false_or dD ad aj aH bC b4 aX bo aY bl cL bE
variable {P:Program}
theorem Ia {X:fj} {Q:Ex->Env->aw->Prop} {N:Env->aw->Prop} {c:VC} {env:Env} {σ:aw} (I:Env->aw->Prop) (h2:∀e s,I e s->N e s) (h1:∀N':Env->aw->Prop,(∀e s,I e s->N' e s)->eb X c (dF N' Q) env σ):eb X c (dF N Q) env σ:=h1 N h2
def tW (f z:Nat) (a:Bool):vV:=let s:=f*1000000
 ⟨19,2,(.seq (.dG false [q 4 (.cj (.k (.int .i64 0))) s]) (.seq (.seq (.dG false [q 6 (.cj (.t 0)) (s+1000),q 7 (.len (.t 6)) (s+1001),q 8 (.cj (.k (.int .i64 0))) (s+1002)]) (.block 0 (.loop (.seq (.dG false [q 9 (.bin .lss .i64 (.t 8) (.t 7)) (s+2000)]) (.seq (.cond (.t 9) .skip (.exit 0)) (.seq (.block 1 (.seq (.dG false [q 10 (.cj (.t 8)) (s+3000),q 5 (.cj (.t 10)) (s+3001)]) (.seq (.dG false [q 11 (.cj (.t 1)) (s+4000),q 12 (.cj (.t 0)) (s+4001),q 13 (.cj (.t 5)) (s+4002),q 14 (.dy z (.t 12) (.t 13)) (s+4003),q 15 (.load a z (.t 14)) (s+4004),q 16 (.rW (.t 11) [(.t 15)]) (s+4005)]) (.cond (.t 16) (.seq (.dG false [q 17 (.cj (.t 5)) (s+5000),q 4 (.cj (.t 17)) (s+5001)]) .ret) .skip)))) (.dG false [q 18 (.bin .add .i64 (.t 8) (.k (.int .i64 1))) (s+6000),q 8 (.cj (.t 18)) (s+6001)]))))))) (.seq (.dG false [q 4 (.cj (.k (.int .i64 (-1)))) (s+7000)]) .ret))),[(.tmp 4)]⟩
def Bu (f g:Nat):vV:=let s:=f*1000000
 ⟨9,2,(.seq (.dG false [q 4 (.cj (.k (.bool false))) s]) (.seq (.dG false [q 5 (.cj (.t 0)) (s+1000),q 6 (.cj (.t 1)) (s+1001),q 7 (.call g [(.t 5),(.t 6)]) (s+1002),q 8 (.bin .geq .i64 (.t 7) (.k (.int .i64 0))) (s+1003),q 4 (.cj (.t 8)) (s+1004)]) .ret)),[(.tmp 4)]⟩
def jR {α:Type} (p:α->Bool) (xs:List α):Int:=if xs.findIdx p<xs.length then(xs.findIdx p:Int)else -1
theorem Gy {α:Type} (p:α->Bool) (xs:List α):decide (0<=jR p xs)=xs.any p:=by
 unfold jR
 by_cases h:xs.findIdx p<xs.length
 ·rw[if_pos h]
  have:xs.any p=true:=List.any_eq_true.2 (List.findIdx_lt_length.1 h)
  rw[this];simp
 ·rw[if_neg h]
  have:xs.any p=false:=by
   rw[Bool.eq_false_iff]
   intro hc
   exact h (List.findIdx_lt_length.2 (List.any_eq_true.1 hc))
  rw[this];rfl
theorem sU (a:AV) (l m:List AV):a::l++m=a::(l++m):=rfl
theorem xi (l:List AV):[]++l=l:=rfl
structure N3 {α:Type} (e:α->List AV) (v:α->AV) (z:Nat) (a:Bool):Prop where
 len:∀x,(e x).length=z
 val:∀x,if a=true then v x=.agg (e x)else e x=[v x]
 fz:∀x g,cq g 6 [v x]=some [v x]
theorem sg {α:Type} {e:α->List AV} {v:α->AV} {z fk:Nat} {a:Bool} (hE:N3 e v z a) (hc:l5 P fk=some (tW fk z a)) (xs:List α) (hlen:xs.length<=1048576) (f:Nat) (cD:List AV) (p:α->Bool)
  (hf:∀x∈xs,ah P f (v x::cD) (.bool (p x))) (GN:∀g,cq g 6 cD=some cD):
  ah P fk [.sl (xs.map e),.fn f cD] (.int .i64 (jR p xs)):=by
 refine ah.body hc rfl fun hl n0=>?_
 try simp only[q]
 clear hl
 (try((repeat(revert hN;revert N;apply Pn.out));refine wk @Nat.zero_add ?_;(repeat(refine Pn.mk ?_;intro N hN))))
 refine aT (fun n env st=>∃k:Nat,n=(xs.length)-k/\k<=(xs.length)/\env 8=.int .i64 (k:Int)/\(∀j:Nat,j<k->∀h:j<xs.length,p xs[j]=false)) (xs.length) ⟨0,ab,ab,sl @Nat.zero_add,fun _ h=>absurd h (Nat.not_lt_zero _)⟩ ?_
 rintro n_a env_a st_a ⟨k,rfl,ale,a8,kZ⟩ dE
 have a0:=dE 0 (by kernel_rfl);have a1:=dE 1 (by kernel_rfl);have a7:=dE 7 (by kernel_rfl)
 simp only[go_sem, ↓reduceIte,Nat.reduceEqDiff,Nat.reduceAdd,Nat.reduceSub,Nat.reduceLeDiff,reduceCtorEq]at a0 a1 a7
 clear dE
 by_cases hk:(k:Int)<(xs.length:Int)
 ·have bW:∀{e:Env},(e 8=.int .i64 (IntKind.i64.wrap ((k:Int)+1)))->(∀h:k<xs.length,p xs[k]=false)->∃m0,m0<(xs.length)-k/\∃k:Nat,m0=(xs.length)-k/\k<=(xs.length)/\e 8=.int .i64 (k:Int)/\(∀j:Nat,j<k->∀h:j<xs.length,p xs[j]=false):=fun x1 x2=>⟨_,ab,k+1,rfl,ab,(by rw[x1,aA ab]),(all_succ kZ x2)⟩
  have fw:k<xs.length:=ab
  have hg:(xs.map e)[k]? =some (e xs[k]):=by simp[fw]
  have Dd:=hf _ (List.getElem_mem fw)
  have hz:=hE.len xs[k]
  have hv:=hE.val xs[k]
  have lp:cq (dD st_a.get) 6 (v xs[k]::cD)=some (v xs[k]::cD):=by
   have h1:=hE.fz xs[k] (dD st_a.get)
   rw[ad,aj]at h1
   rw[ad,GN]
   revert h1
   cases V.fz (dD st_a.get) 6 (v xs[k])<;>simp
  have fin:∀hN:True,(p xs[k]=true->xs.findIdx p=k):=fun _ hp=>by
   rw[List.findIdx_eq fw];exact⟨hp,fun j hj=>kZ j hj ab⟩
  cases hp:p xs[k]
  ·have Qw:=hp
   cases a
   ·rw[if_neg (by simp)]at hv
    have yK:z=1:=by rw[<-hz,hv];rfl
    subst yK
    rw[hv]at hg hz
    rw[hp]at Dd
    generalize v xs[k]=c at Dd lp hg hz
    (try((repeat(revert hN;revert N;apply Pn.out));refine wk (tw @a8 (tw @a0 (tw @a1 (tw @a7 (tw @hk (tw @hg (tw @hz (tw @sU @xi)))))))) ?_;(repeat(refine Pn.mk ?_;intro N hN))))
    refine .inl ⟨_,ah.x Dd lp,?_⟩
    refine hN _ _ ?_
    clear hN N
    (try((repeat(revert hN;revert N;apply Pn.out));refine wk (tw @a8 (tw @a0 (tw @a1 @a7))) ?_;(repeat(refine Pn.mk ?_;intro N hN))))
    exact bW (sd (tw @a8 (tw @a0 (tw @a1 @a7)))) (fun _=>Qw)
   ·rw[if_pos rfl]at hv
    have ht:(e xs[k]).take z=e xs[k]:=by rw[<-hz,List.take_length]
    rw[hv]at Dd lp
    rw[hp]at Dd
    generalize e xs[k]=c at Dd lp hg hz ht
    (try((repeat(revert hN;revert N;apply Pn.out));refine wk (tw @a8 (tw @a0 (tw @a1 (tw @a7 (tw @hk (tw @hg (tw @hz (tw @ht (tw @sU (tw @xi @Nat.le_refl)))))))))) ?_;(repeat(refine Pn.mk ?_;intro N hN))))
    refine .inl ⟨_,ah.x Dd lp,?_⟩
    refine hN _ _ ?_
    clear hN N
    (try((repeat(revert hN;revert N;apply Pn.out));refine wk (tw @a8 (tw @a0 (tw @a1 @a7))) ?_;(repeat(refine Pn.mk ?_;intro N hN))))
    exact bW (sd (tw @a8 (tw @a0 (tw @a1 @a7)))) (fun _=>Qw)
  ·have hi:=fin trivial hp
   cases a
   ·rw[if_neg (by simp)]at hv
    have yK:z=1:=by rw[<-hz,hv];rfl
    subst yK
    rw[hv]at hg hz
    rw[hp]at Dd
    generalize v xs[k]=c at Dd lp hg hz
    (try((repeat(revert hN;revert N;apply Pn.out));refine wk (tw @a8 (tw @a0 (tw @a1 (tw @a7 (tw @hk (tw @hg (tw @hz (tw @sU @xi)))))))) ?_;(repeat(refine Pn.mk ?_;intro N hN))))
    refine .inl ⟨_,ah.x Dd lp,?_⟩
    refine hN _ _ ?_
    clear hN N
    (try((repeat(revert hN;revert N;apply Pn.out));refine wk (tw @a8 (tw @a0 (tw @a1 @a7))) ?_;(repeat(refine Pn.mk ?_;intro N hN))))
    exact bG (b:=(k:Int)) (.inl rfl) (sd @Nat.zero_add) (by rw[jR,hi,if_pos fw])
   ·rw[if_pos rfl]at hv
    have ht:(e xs[k]).take z=e xs[k]:=by rw[<-hz,List.take_length]
    rw[hv]at Dd lp
    rw[hp]at Dd
    generalize e xs[k]=c at Dd lp hg hz ht
    (try((repeat(revert hN;revert N;apply Pn.out));refine wk (tw @a8 (tw @a0 (tw @a1 (tw @a7 (tw @hk (tw @hg (tw @hz (tw @ht (tw @sU (tw @xi @Nat.le_refl)))))))))) ?_;(repeat(refine Pn.mk ?_;intro N hN))))
    refine .inl ⟨_,ah.x Dd lp,?_⟩
    refine hN _ _ ?_
    clear hN N
    (try((repeat(revert hN;revert N;apply Pn.out));refine wk (tw @a8 (tw @a0 (tw @a1 @a7))) ?_;(repeat(refine Pn.mk ?_;intro N hN))))
    exact bG (b:=(k:Int)) (.inl rfl) (sd @Nat.zero_add) (by rw[jR,hi,if_pos fw])
 ·(try((repeat(revert hN;revert N;apply Pn.out));refine wk (tw @a8 (tw @a0 (tw @a1 (tw @a7 @hk)))) ?_;(repeat(refine Pn.mk ?_;intro N hN))))
  have hi:¬xs.findIdx p<xs.length:=by
   rw[List.findIdx_lt_length]
   rintro⟨x,hx,Mn⟩
   obtain⟨j,hj,rfl⟩:=List.getElem_of_mem hx
   rw[kZ j ab hj]at Mn;cases Mn
  exact bG (b:=-1) (.inl rfl) (sd @Nat.zero_add) (by rw[jR,if_neg hi])
theorem nw {α:Type} {e:α->List AV} {v:α->AV} {z fk gk:Nat} {a:Bool} (hE:N3 e v z a) (hc:l5 P fk=some (Bu fk gk)) (Et:l5 P gk=some (tW gk z a)) (xs:List α) (hlen:xs.length<=1048576) (f:Nat) (cD:List AV) (p:α->Bool) (Jh:cD.all AV.cell=true) (Db:∀g,cq g 5 cD=some cD)
  (hf:∀x∈xs,ah P f (v x::cD) (.bool (p x))) (GN:∀g,cq g 6 cD=some cD):
  ah P fk [.sl (xs.map e),.fn f cD] (.bool (xs.any p)):=by
 refine ah.body hc rfl fun hl n0=>?_
 try simp only[q]
 clear hl
 have hi:=sg hE Et xs hlen f cD p hf GN
 (repeat(first|((repeat(revert hN;revert N;apply Pn.out));refine wk (tw @Jh @Db) ?_;(repeat(refine Pn.mk ?_;intro N hN)))|((try apply Or.inl);refine⟨_,ah.x (hi) (sd (tw @Jh @Db)),?_⟩;refine hN _ _ ?_;clear hN N)))
 exact aO (b:=decide (0<=jR p xs)) (.inl rfl) (sd @Nat.zero_add) (Gy p xs)
end Go.Proofs.YtihgaadadaekmaaGreat.V

namespace Go.Proofs.YtihgaadadaekmaaGreat.V
open Go.RowKit
def qk (P:Program) (mk:Bool):List Oper->Nat->List Nat
 |[],_=>[]
 |o::r,i=>match pC P o.op with
  |some v=>if po v||mk&&v.k8 then i::qk P mk r (i+1)else qk P mk r (i+1)
  |none=>qk P mk r (i+1)
def xl (P:Program) (ops:Array Oper) (site0:Nat) (mk:Bool) (bs:Array Nat) (hidden:List Nat):List Oper->Nat->Option (List bj)
 |[],_=>some []
 |o::r,j=>do
  let v <-pC P o.op
  let g <-AU ops o
  pure ({dst:=o.dst,op:=v,guard:=g,site:=site0+j,hid:=(hidden.filter fun i=> !(bs.getD j 0).testBit i&&(i !=j||mk&&v.k8)).map fun i=>site0+i}::(<-xl P ops site0 mk bs hidden r (j+1)))
def nv (P:Program) (md:List (Nat×Nat)) (tG:Nat):Code->Option VC
 | .skip=>some .skip
 | .region id ops draw=>if draw then(xl P ops ((tG*1000+id)*1000) (ui md id==1) (jf ops) (qk P (ui md id==1) ops.toList 0) ops.toList 0).map (VC.dG true)else(xl P ops ((tG*1000+id)*1000) false #[] [] ops.toList 0).map (if ops.toList.any fun o=>K2 o.op then VC.LC else VC.dG false)
 | .seq a b=>do pure (.seq (<-nv P md tG a) (<-nv P md tG b))
 | .cond c x y=>do pure (.cond (<-cO P c) (<-nv P md tG x) (<-nv P md tG y))
 | .block id c=>(nv P md tG c).map (VC.block id)
 | .loop c=>(nv P md tG c).map VC.loop
 | .exit id=>some (.exit id)
 | .ret=>some .ret
 | .label _=>some .skip
 | .scope c=>nv P md tG c
 |_=>none
def Ob (P:Program) (md:List (Nat×Nat)) (f:Nat):Option vV:=
 match P.funcs[f]? with
 |some fn=>match fn.body with
  |some c=>do
   let b <-nv P md f c
   let r <-fn.results.toList.mapM (DY P)
   pure {ntmps:=fn.ntmps,wT:=fn.params.size+fn.nfree,body:=b,res:=r}
  |none=>none
 |none=>none
theorem cfM {P:Program} (md:List (Nat×Nat)) {f:Nat} {v:vV} (_:Ob P md f=some v:=by(conv=>lhs;cbv)<;>exact rfl) (h:sD P f md=some v:=by kernel_rfl):sD P f md=some v:=h
theorem dY {P:Program} {f:Nat} {v:vV} (_:Ob P [] f=some v:=by(conv=>lhs;cbv)<;>exact rfl) (h:l5 P f=some v:=by kernel_rfl):l5 P f=some v:=h
def M5:vV:=⟨77,2,(.seq (.dG false [q 4 (.cj (.k .gy)) 166000000]) (.seq (.dG false [q 7 (.cj (.t 0)) 166001000,q 8 (.cj (.t 1)) 166001001,q 9 (.build [(.int .i64 0),.br,.br,.br] [(0,(1,(.t 7))),(1,(1,(.t 8)))]) 166001002,q 10 (.box (.t 9)) 166001003,q 5 (.cj (.t 10)) 166001004]) (.seq (.dG false [q 11 (.cj (.t 5)) 166002000,q 12 (.cj (.t 0)) 166002001,q 13 (.jz [.br] (.t 12) (.t 12)) 166002002,q 14 (.xp (.t 11)) 166002003,q 15 (.ee 2 (.t 14)) 166002004,⟨none,(.store 1 (.t 15) (.t 13)),none,166002005,[]⟩]) (.seq (.dG false [q 16 (.cj (.t 5)) 166003000,q 17 (.cj (.t 1)) 166003001,q 18 (.len (.t 17)) 166003002,q 19 (.jz [(.int .i64 0)] (.t 18) (.t 18)) 166003003,q 20 (.xp (.t 16)) 166003004,q 21 (.ee 3 (.t 20)) 166003005,⟨none,(.store 1 (.t 21) (.t 19)),none,166003006,[]⟩]) (.seq (.seq (.dG false [q 6 (.cj (.k (.int .i64 0))) 166004000]) (.block 0 (.loop (.seq (.seq (.dG false [q 22 (.cj (.t 6)) 166005000,q 23 (.cj (.t 1)) 166005001,q 24 (.len (.t 23)) 166005002,q 25 (.bin .lss .i64 (.t 22) (.t 24)) 166005003]) (.cond (.t 25) .skip (.exit 0))) (.seq (.block 1 (.seq (.one ⟨(some 28),(.cj (.t 5)),none,166007000,[166007021,166007022,166007024]⟩ (.one ⟨(some 29),(.xp (.t 28)),none,166007001,[166007021,166007022,166007024]⟩ (.one ⟨(some 30),(.ee 2 (.t 29)),none,166007002,[166007021,166007022,166007024]⟩ (.one ⟨(some 32),(.cj (.t 1)),none,166007004,[166007021,166007022,166007024]⟩ (.one ⟨(some 33),(.cj (.t 6)),none,166007005,[166007021,166007022,166007024]⟩ (.one ⟨(some 37),(.cj (.t 5)),none,166007009,[166007021,166007022,166007024]⟩ (.one ⟨(some 38),(.xp (.t 37)),none,166007010,[166007021,166007022,166007024]⟩ (.one ⟨(some 39),(.ee 2 (.t 38)),none,166007011,[166007021,166007022,166007024]⟩ (.one ⟨(some 40),(.load false 1 (.t 39)),none,166007012,[166007021,166007022,166007024]⟩ (.one ⟨(some 41),(.cj (.t 1)),none,166007013,[166007021,166007022,166007024]⟩ (.one ⟨(some 42),(.cj (.t 6)),none,166007014,[166007021,166007022,166007024]⟩ (.one ⟨(some 43),(.dy 3 (.t 41) (.t 42)),none,166007015,[166007021,166007022,166007024]⟩ (.one ⟨(some 44),(.ee 0 (.t 43)),none,166007016,[166007021,166007022,166007024]⟩ (.one ⟨(some 45),(.load false 1 (.t 44)),none,166007017,[166007021,166007022,166007024]⟩ (.one ⟨(some 46),(.dy 1 (.t 40) (.t 45)),none,166007018,[166007021,166007022,166007024]⟩ (.one ⟨(some 47),(.load false 1 (.t 46)),none,166007019,[166007021,166007022,166007024]⟩ (.one ⟨(some 48),(.cj (.t 6)),none,166007020,[166007021,166007022,166007024]⟩ (.one ⟨(some 49),(.kd 1 1 [(.t 48)]),none,166007021,[166007022,166007024]⟩ (.both (.one ⟨(some 31),(.load false 1 (.t 30)),none,166007003,[166007021,166007022,166007024]⟩ (.both (.one ⟨(some 34),(.dy 3 (.t 32) (.t 33)),none,166007006,[166007021,166007022,166007024]⟩ (.one ⟨(some 35),(.ee 0 (.t 34)),none,166007007,[166007021,166007022,166007024]⟩ (.both (.one ⟨(some 36),(.load false 1 (.t 35)),none,166007008,[166007021,166007022,166007024]⟩ (.one ⟨(some 50),(.append 1 (.t 47) (.t 49)),none,166007022,[166007024]⟩ (.one ⟨(some 51),(.dy 1 (.t 31) (.t 36)),none,166007023,[166007024]⟩ (.one ⟨none,(.store 1 (.t 51) (.t 50)),none,166007024,[]⟩ (.dG false []))))) (.one ⟨(some 50),(.append 1 (.t 47) (.t 49)),none,166007022,[166007024]⟩ (.one ⟨(some 36),(.load false 1 (.t 35)),none,166007008,[166007021,166007022,166007024]⟩ (.one ⟨(some 51),(.dy 1 (.t 31) (.t 36)),none,166007023,[166007024]⟩ (.one ⟨none,(.store 1 (.t 51) (.t 50)),none,166007024,[]⟩ (.dG false [])))))))) (.one ⟨(some 50),(.append 1 (.t 47) (.t 49)),none,166007022,[166007024]⟩ (.one ⟨(some 34),(.dy 3 (.t 32) (.t 33)),none,166007006,[166007021,166007022,166007024]⟩ (.one ⟨(some 35),(.ee 0 (.t 34)),none,166007007,[166007021,166007022,166007024]⟩ (.one ⟨(some 36),(.load false 1 (.t 35)),none,166007008,[166007021,166007022,166007024]⟩ (.one ⟨(some 51),(.dy 1 (.t 31) (.t 36)),none,166007023,[166007024]⟩ (.one ⟨none,(.store 1 (.t 51) (.t 50)),none,166007024,[]⟩ (.dG false []))))))))) (.both (.one ⟨(some 34),(.dy 3 (.t 32) (.t 33)),none,166007006,[166007021,166007022,166007024]⟩ (.one ⟨(some 35),(.ee 0 (.t 34)),none,166007007,[166007021,166007022,166007024]⟩ (.both (.one ⟨(some 31),(.load false 1 (.t 30)),none,166007003,[166007021,166007022,166007024]⟩ (.both (.one ⟨(some 36),(.load false 1 (.t 35)),none,166007008,[166007021,166007022,166007024]⟩ (.one ⟨(some 50),(.append 1 (.t 47) (.t 49)),none,166007022,[166007024]⟩ (.one ⟨(some 51),(.dy 1 (.t 31) (.t 36)),none,166007023,[166007024]⟩ (.one ⟨none,(.store 1 (.t 51) (.t 50)),none,166007024,[]⟩ (.dG false []))))) (.one ⟨(some 50),(.append 1 (.t 47) (.t 49)),none,166007022,[166007024]⟩ (.one ⟨(some 36),(.load false 1 (.t 35)),none,166007008,[166007021,166007022,166007024]⟩ (.one ⟨(some 51),(.dy 1 (.t 31) (.t 36)),none,166007023,[166007024]⟩ (.one ⟨none,(.store 1 (.t 51) (.t 50)),none,166007024,[]⟩ (.dG false []))))))) (.both (.one ⟨(some 36),(.load false 1 (.t 35)),none,166007008,[166007021,166007022,166007024]⟩ (.both (.one ⟨(some 31),(.load false 1 (.t 30)),none,166007003,[166007021,166007022,166007024]⟩ (.one ⟨(some 50),(.append 1 (.t 47) (.t 49)),none,166007022,[166007024]⟩ (.one ⟨(some 51),(.dy 1 (.t 31) (.t 36)),none,166007023,[166007024]⟩ (.one ⟨none,(.store 1 (.t 51) (.t 50)),none,166007024,[]⟩ (.dG false []))))) (.one ⟨(some 50),(.append 1 (.t 47) (.t 49)),none,166007022,[166007024]⟩ (.one ⟨(some 31),(.load false 1 (.t 30)),none,166007003,[166007021,166007022,166007024]⟩ (.one ⟨(some 51),(.dy 1 (.t 31) (.t 36)),none,166007023,[166007024]⟩ (.one ⟨none,(.store 1 (.t 51) (.t 50)),none,166007024,[]⟩ (.dG false []))))))) (.one ⟨(some 50),(.append 1 (.t 47) (.t 49)),none,166007022,[166007024]⟩ (.one ⟨(some 31),(.load false 1 (.t 30)),none,166007003,[166007021,166007022,166007024]⟩ (.one ⟨(some 36),(.load false 1 (.t 35)),none,166007008,[166007021,166007022,166007024]⟩ (.one ⟨(some 51),(.dy 1 (.t 31) (.t 36)),none,166007023,[166007024]⟩ (.one ⟨none,(.store 1 (.t 51) (.t 50)),none,166007024,[]⟩ (.dG false [])))))))))) (.one ⟨(some 50),(.append 1 (.t 47) (.t 49)),none,166007022,[166007024]⟩ (.one ⟨(some 31),(.load false 1 (.t 30)),none,166007003,[166007021,166007022,166007024]⟩ (.one ⟨(some 34),(.dy 3 (.t 32) (.t 33)),none,166007006,[166007021,166007022,166007024]⟩ (.one ⟨(some 35),(.ee 0 (.t 34)),none,166007007,[166007021,166007022,166007024]⟩ (.one ⟨(some 36),(.load false 1 (.t 35)),none,166007008,[166007021,166007022,166007024]⟩ (.one ⟨(some 51),(.dy 1 (.t 31) (.t 36)),none,166007023,[166007024]⟩ (.one ⟨none,(.store 1 (.t 51) (.t 50)),none,166007024,[]⟩ (.dG false [])))))))))))))))))))))))))))) (.one ⟨(some 52),(.cj (.t 5)),none,166008000,[166008021,166008022,166008024]⟩ (.one ⟨(some 53),(.xp (.t 52)),none,166008001,[166008021,166008022,166008024]⟩ (.one ⟨(some 54),(.ee 2 (.t 53)),none,166008002,[166008021,166008022,166008024]⟩ (.one ⟨(some 56),(.cj (.t 1)),none,166008004,[166008021,166008022,166008024]⟩ (.one ⟨(some 57),(.cj (.t 6)),none,166008005,[166008021,166008022,166008024]⟩ (.one ⟨(some 61),(.cj (.t 5)),none,166008009,[166008021,166008022,166008024]⟩ (.one ⟨(some 62),(.xp (.t 61)),none,166008010,[166008021,166008022,166008024]⟩ (.one ⟨(some 63),(.ee 2 (.t 62)),none,166008011,[166008021,166008022,166008024]⟩ (.one ⟨(some 64),(.load false 1 (.t 63)),none,166008012,[166008021,166008022,166008024]⟩ (.one ⟨(some 65),(.cj (.t 1)),none,166008013,[166008021,166008022,166008024]⟩ (.one ⟨(some 66),(.cj (.t 6)),none,166008014,[166008021,166008022,166008024]⟩ (.one ⟨(some 67),(.dy 3 (.t 65) (.t 66)),none,166008015,[166008021,166008022,166008024]⟩ (.one ⟨(some 68),(.ee 1 (.t 67)),none,166008016,[166008021,166008022,166008024]⟩ (.one ⟨(some 69),(.load false 1 (.t 68)),none,166008017,[166008021,166008022,166008024]⟩ (.one ⟨(some 70),(.dy 1 (.t 64) (.t 69)),none,166008018,[166008021,166008022,166008024]⟩ (.one ⟨(some 71),(.load false 1 (.t 70)),none,166008019,[166008021,166008022,166008024]⟩ (.one ⟨(some 72),(.cj (.t 6)),none,166008020,[166008021,166008022,166008024]⟩ (.one ⟨(some 73),(.kd 1 1 [(.t 72)]),none,166008021,[166008022,166008024]⟩ (.both (.one ⟨(some 55),(.load false 1 (.t 54)),none,166008003,[166008021,166008022,166008024]⟩ (.both (.one ⟨(some 58),(.dy 3 (.t 56) (.t 57)),none,166008006,[166008021,166008022,166008024]⟩ (.one ⟨(some 59),(.ee 1 (.t 58)),none,166008007,[166008021,166008022,166008024]⟩ (.both (.one ⟨(some 60),(.load false 1 (.t 59)),none,166008008,[166008021,166008022,166008024]⟩ (.one ⟨(some 74),(.append 1 (.t 71) (.t 73)),none,166008022,[166008024]⟩ (.one ⟨(some 75),(.dy 1 (.t 55) (.t 60)),none,166008023,[166008024]⟩ (.one ⟨none,(.store 1 (.t 75) (.t 74)),none,166008024,[]⟩ (.dG false []))))) (.one ⟨(some 74),(.append 1 (.t 71) (.t 73)),none,166008022,[166008024]⟩ (.one ⟨(some 60),(.load false 1 (.t 59)),none,166008008,[166008021,166008022,166008024]⟩ (.one ⟨(some 75),(.dy 1 (.t 55) (.t 60)),none,166008023,[166008024]⟩ (.one ⟨none,(.store 1 (.t 75) (.t 74)),none,166008024,[]⟩ (.dG false [])))))))) (.one ⟨(some 74),(.append 1 (.t 71) (.t 73)),none,166008022,[166008024]⟩ (.one ⟨(some 58),(.dy 3 (.t 56) (.t 57)),none,166008006,[166008021,166008022,166008024]⟩ (.one ⟨(some 59),(.ee 1 (.t 58)),none,166008007,[166008021,166008022,166008024]⟩ (.one ⟨(some 60),(.load false 1 (.t 59)),none,166008008,[166008021,166008022,166008024]⟩ (.one ⟨(some 75),(.dy 1 (.t 55) (.t 60)),none,166008023,[166008024]⟩ (.one ⟨none,(.store 1 (.t 75) (.t 74)),none,166008024,[]⟩ (.dG false []))))))))) (.both (.one ⟨(some 58),(.dy 3 (.t 56) (.t 57)),none,166008006,[166008021,166008022,166008024]⟩ (.one ⟨(some 59),(.ee 1 (.t 58)),none,166008007,[166008021,166008022,166008024]⟩ (.both (.one ⟨(some 55),(.load false 1 (.t 54)),none,166008003,[166008021,166008022,166008024]⟩ (.both (.one ⟨(some 60),(.load false 1 (.t 59)),none,166008008,[166008021,166008022,166008024]⟩ (.one ⟨(some 74),(.append 1 (.t 71) (.t 73)),none,166008022,[166008024]⟩ (.one ⟨(some 75),(.dy 1 (.t 55) (.t 60)),none,166008023,[166008024]⟩ (.one ⟨none,(.store 1 (.t 75) (.t 74)),none,166008024,[]⟩ (.dG false []))))) (.one ⟨(some 74),(.append 1 (.t 71) (.t 73)),none,166008022,[166008024]⟩ (.one ⟨(some 60),(.load false 1 (.t 59)),none,166008008,[166008021,166008022,166008024]⟩ (.one ⟨(some 75),(.dy 1 (.t 55) (.t 60)),none,166008023,[166008024]⟩ (.one ⟨none,(.store 1 (.t 75) (.t 74)),none,166008024,[]⟩ (.dG false []))))))) (.both (.one ⟨(some 60),(.load false 1 (.t 59)),none,166008008,[166008021,166008022,166008024]⟩ (.both (.one ⟨(some 55),(.load false 1 (.t 54)),none,166008003,[166008021,166008022,166008024]⟩ (.one ⟨(some 74),(.append 1 (.t 71) (.t 73)),none,166008022,[166008024]⟩ (.one ⟨(some 75),(.dy 1 (.t 55) (.t 60)),none,166008023,[166008024]⟩ (.one ⟨none,(.store 1 (.t 75) (.t 74)),none,166008024,[]⟩ (.dG false []))))) (.one ⟨(some 74),(.append 1 (.t 71) (.t 73)),none,166008022,[166008024]⟩ (.one ⟨(some 55),(.load false 1 (.t 54)),none,166008003,[166008021,166008022,166008024]⟩ (.one ⟨(some 75),(.dy 1 (.t 55) (.t 60)),none,166008023,[166008024]⟩ (.one ⟨none,(.store 1 (.t 75) (.t 74)),none,166008024,[]⟩ (.dG false []))))))) (.one ⟨(some 74),(.append 1 (.t 71) (.t 73)),none,166008022,[166008024]⟩ (.one ⟨(some 55),(.load false 1 (.t 54)),none,166008003,[166008021,166008022,166008024]⟩ (.one ⟨(some 60),(.load false 1 (.t 59)),none,166008008,[166008021,166008022,166008024]⟩ (.one ⟨(some 75),(.dy 1 (.t 55) (.t 60)),none,166008023,[166008024]⟩ (.one ⟨none,(.store 1 (.t 75) (.t 74)),none,166008024,[]⟩ (.dG false [])))))))))) (.one ⟨(some 74),(.append 1 (.t 71) (.t 73)),none,166008022,[166008024]⟩ (.one ⟨(some 55),(.load false 1 (.t 54)),none,166008003,[166008021,166008022,166008024]⟩ (.one ⟨(some 58),(.dy 3 (.t 56) (.t 57)),none,166008006,[166008021,166008022,166008024]⟩ (.one ⟨(some 59),(.ee 1 (.t 58)),none,166008007,[166008021,166008022,166008024]⟩ (.one ⟨(some 60),(.load false 1 (.t 59)),none,166008008,[166008021,166008022,166008024]⟩ (.one ⟨(some 75),(.dy 1 (.t 55) (.t 60)),none,166008023,[166008024]⟩ (.one ⟨none,(.store 1 (.t 75) (.t 74)),none,166008024,[]⟩ (.dG false [])))))))))))))))))))))))))))))) (.dG false [q 26 (.cj (.t 6)) 166006000,q 27 (.bin .add .i64 (.t 26) (.k (.int .i64 1))) 166006001,q 6 (.cj (.t 27)) 166006002])))))) (.seq (.dG false [q 76 (.cj (.t 5)) 166009000,q 4 (.cj (.t 76)) 166009001]) .ret)))))),[(.tmp 4)]⟩
theorem Lz:sD Tryz.prog 166 [(7,2),(8,2)]=some M5:=by kernel_rfl
def M6:vV:=⟨118,2,(.seq (.dG false [q 4 (.cj (.k .br)) 169000000]) (.seq (.dG false [q 17 (.cj (.t 0)) 169001000,q 18 (.jz [.gy] (.t 17) (.t 17)) 169001001,q 5 (.cj (.t 18)) 169001002]) (.seq (.seq (.dG false [q 19 (.cj (.t 5)) 169002000,q 20 (.len (.t 19)) 169002001,q 21 (.cj (.k (.int .i64 0))) 169002002]) (.block 0 (.loop (.seq (.dG false [q 22 (.bin .lss .i64 (.t 21) (.t 20)) 169003000]) (.seq (.cond (.t 22) .skip (.exit 0)) (.seq (.block 1 (.seq (.dG false [q 23 (.cj (.t 21)) 169004000,q 6 (.cj (.t 23)) 169004001]) (.dG false [q 24 (.cj (.t 5)) 169005000,q 25 (.cj (.t 6)) 169005001,q 26 (.cj (.t 6)) 169005002,q 27 (.build [.gy,(.int .i64 0)] [(1,(1,(.t 26)))]) 169005003,q 28 (.box (.t 27)) 169005004,q 29 (.dy 1 (.t 24) (.t 25)) 169005005,⟨none,(.store 1 (.t 29) (.t 28)),none,169005006,[]⟩]))) (.dG false [q 30 (.bin .add .i64 (.t 21) (.k (.int .i64 1))) 169006000,q 21 (.cj (.t 30)) 169006001]))))))) (.seq (.seq (.dG false [q 31 (.cj (.t 1)) 169007000,q 32 (.len (.t 31)) 169007001,q 33 (.cj (.k (.int .i64 0))) 169007002]) (.block 2 (.loop (.seq (.dG false [q 34 (.bin .lss .i64 (.t 33) (.t 32)) 169008000]) (.seq (.cond (.t 34) .skip (.exit 2)) (.seq (.block 3 (.seq (.dG false [q 35 (.dy 3 (.t 31) (.t 33)) 169009000,q 36 (.load true 3 (.t 35)) 169009001,q 8 (.new [(.int .i64 0),(.int .i64 0),(.int .i64 0)]) 169009002,⟨none,(.store 3 (.t 8) (.t 36)),none,169009003,[]⟩]) (.seq (.one (q 37 (.cj (.t 5)) 169010000) (.one (q 38 (.ee 0 (.t 8)) 169010001) (.one (q 39 (.load false 1 (.t 38)) 169010002) (.one (q 40 (.dy 1 (.t 37) (.t 39)) 169010003) (.one (q 41 (.load false 1 (.t 40)) 169010004) (.one (q 43 (.cj (.t 5)) 169010006) (.one (q 44 (.ee 1 (.t 8)) 169010007) (.both (.one (q 42 (.call 190 [(.t 41)]) 169010005) (.one (q 45 (.load false 1 (.t 44)) 169010008) (.one (q 46 (.dy 1 (.t 43) (.t 45)) 169010009) (.one (q 47 (.load false 1 (.t 46)) 169010010) (.one (q 48 (.call 190 [(.t 47)]) 169010011) (.one (q 9 (.cj (.t 42)) 169010012) (.one (q 10 (.cj (.t 48)) 169010013) (.dG false [])))))))) (.one (q 45 (.load false 1 (.t 44)) 169010008) (.both (.one (q 42 (.call 190 [(.t 41)]) 169010005) (.one (q 46 (.dy 1 (.t 43) (.t 45)) 169010009) (.one (q 47 (.load false 1 (.t 46)) 169010010) (.one (q 48 (.call 190 [(.t 47)]) 169010011) (.one (q 9 (.cj (.t 42)) 169010012) (.one (q 10 (.cj (.t 48)) 169010013) (.dG false []))))))) (.one (q 46 (.dy 1 (.t 43) (.t 45)) 169010009) (.both (.one (q 42 (.call 190 [(.t 41)]) 169010005) (.one (q 47 (.load false 1 (.t 46)) 169010010) (.one (q 48 (.call 190 [(.t 47)]) 169010011) (.one (q 9 (.cj (.t 42)) 169010012) (.one (q 10 (.cj (.t 48)) 169010013) (.dG false [])))))) (.one (q 47 (.load false 1 (.t 46)) 169010010) (.one (q 42 (.call 190 [(.t 41)]) 169010005) (.one (q 48 (.call 190 [(.t 47)]) 169010011) (.one (q 9 (.cj (.t 42)) 169010012) (.one (q 10 (.cj (.t 48)) 169010013) (.dG false [])))))))))))))))))) (.block 4 (.seq (.dG true [q 50 (.cj (.t 9)) 169011000,q 51 (.xp (.t 50)) 169011001,q 52 (.ee 1 (.t 51)) 169011002,q 53 (.load false 1 (.t 52)) 169011003,q 54 (.cj (.t 10)) 169011004,q 55 (.xp (.t 54)) 169011005,q 56 (.ee 1 (.t 55)) 169011006,q 57 (.load false 1 (.t 56)) 169011007,q 58 (.bin .lss .i64 (.t 53) (.t 57)) 169011008,q 49 (.cj (.t 58)) 169011009]) (.cond (.t 49) (.dG false [q 59 (.cj (.t 10)) 169012000,q 60 (.cj (.t 9)) 169012001,q 61 (.xp (.t 59)) 169012002,q 62 (.ee 0 (.t 61)) 169012003,⟨none,(.store 1 (.t 62) (.t 60)),none,169012004,[]⟩]) (.seq (.dG true [q 64 (.cj (.t 10)) 169013000,q 65 (.xp (.t 64)) 169013001,q 66 (.ee 1 (.t 65)) 169013002,q 67 (.load false 1 (.t 66)) 169013003,q 68 (.cj (.t 9)) 169013004,q 69 (.xp (.t 68)) 169013005,q 70 (.ee 1 (.t 69)) 169013006,q 71 (.load false 1 (.t 70)) 169013007,q 72 (.bin .lss .i64 (.t 67) (.t 71)) 169013008,q 63 (.cj (.t 72)) 169013009]) (.cond (.t 63) (.dG false [q 73 (.cj (.t 9)) 169014000,q 74 (.cj (.t 10)) 169014001,q 75 (.xp (.t 73)) 169014002,q 76 (.ee 0 (.t 75)) 169014003,⟨none,(.store 1 (.t 76) (.t 74)),none,169014004,[]⟩]) .skip)))))))) (.dG false [q 77 (.bin .add .i64 (.t 33) (.k (.int .i64 1))) 169015000,q 33 (.cj (.t 77)) 169015001]))))))) (.seq (.dG false [q 11 (.cj (.k .br)) 169016000]) (.seq (.dG false [⟨(some 78),(.mq (.new ⟨false,[.tI]⟩) []),none,169017000,[]⟩,q 12 (.cj (.t 78)) 169017001]) (.seq (.seq (.dG false [q 79 (.cj (.t 5)) 169018000,q 80 (.len (.t 79)) 169018001,q 81 (.cj (.k (.int .i64 0))) 169018002]) (.block 5 (.loop (.seq (.dG false [q 82 (.bin .lss .i64 (.t 81) (.t 80)) 169019000]) (.seq (.cond (.t 82) .skip (.exit 5)) (.seq (.block 6 (.seq (.dG false [q 83 (.cj (.t 81)) 169020000,q 84 (.dy 1 (.t 79) (.t 81)) 169020001,q 85 (.load false 1 (.t 84)) 169020002,q 13 (.cj (.t 83)) 169020003,q 14 (.cj (.t 85)) 169020004]) (.seq (.dG false [q 87 (.cj (.t 12)) 169021000,q 88 (.cj (.t 14)) 169021001,q 89 (.call 190 [(.t 88)]) 169021002,q 90 (.xp (.t 89)) 169021003,q 91 (.ee 1 (.t 90)) 169021004,q 92 (.load false 1 (.t 91)) 169021005,⟨(some 93),(.mq (.look ⟨false,[.tI]⟩ true (.int .i64 0)) [(.t 87),(.t 92)]),none,169021006,[]⟩,q 86 (.cj (.t 93)) 169021007,q 94 (.extract 0 (.t 86)) 169021008,q 95 (.extract 1 (.t 86)) 169021009,q 15 (.cj (.t 94)) 169021010,q 16 (.cj (.t 95)) 169021011]) (.seq (.seq (.dG false [q 96 (.cj (.t 16)) 169022000,q 97 (.not (.t 96)) 169022001]) (.cond (.t 97) (.seq (.dG false [q 98 (.cj (.t 11)) 169023000,q 99 (.len (.t 98)) 169023001,q 15 (.cj (.t 99)) 169023002]) (.seq (.dG false [q 100 (.cj (.t 12)) 169024000,q 101 (.cj (.t 13)) 169024001,q 102 (.cj (.t 15)) 169024002,⟨none,(.mw (.set ⟨false,[.tI]⟩) [(.t 100),(.t 101),(.t 102)]),none,169024003,[]⟩]) (.dG false [q 103 (.cj (.t 11)) 169025000,q 104 (.kd 1 1 [(.k .br)]) 169025001,q 105 (.append 1 (.t 103) (.t 104)) 169025002,q 11 (.cj (.t 105)) 169025003]))) .skip)) (.dG false [q 106 (.cj (.t 11)) 169026000,q 107 (.cj (.t 15)) 169026001,q 108 (.cj (.t 11)) 169026002,q 109 (.cj (.t 15)) 169026003,q 110 (.dy 1 (.t 108) (.t 109)) 169026004,q 111 (.load false 1 (.t 110)) 169026005,q 112 (.cj (.t 13)) 169026006,q 113 (.kd 1 1 [(.t 112)]) 169026007,q 114 (.append 1 (.t 111) (.t 113)) 169026008,q 115 (.dy 1 (.t 106) (.t 107)) 169026009,⟨none,(.store 1 (.t 115) (.t 114)),none,169026010,[]⟩]))))) (.dG false [q 116 (.bin .add .i64 (.t 81) (.k (.int .i64 1))) 169027000,q 81 (.cj (.t 116)) 169027001]))))))) (.seq (.dG false [q 117 (.cj (.t 11)) 169028000,q 4 (.cj (.t 117)) 169028001]) .ret)))))))),[(.tmp 4)]⟩
theorem LB:sD Tryz.prog 169 [(10,2)]=some M6:=by kernel_rfl
def PH:vV:=⟨77,4,(.seq (.dG false [q 8 (.new [.br,(.int .i64 0),(.int .i64 0)]) 56000000,q 9 (.cj (.k (.bool false))) 56000001]) (.seq (.dG false [⟨(some 16),(.build [.br,(.int .i64 0),(.int .i64 0)] [(2,(1,(.k (.int .i64 (-1)))))]),none,56001000,[]⟩,q 10 (.new [.br,(.int .i64 0),(.int .i64 0)]) 56001001,⟨none,(.store 3 (.t 10) (.t 16)),none,56001002,[]⟩]) (.seq (.seq (.dG false [q 11 (.cj (.k (.int .i64 0))) 56002000]) (.block 0 (.loop (.seq (.seq (.dG false [q 17 (.cj (.t 11)) 56003000,q 18 (.cj (.t 3)) 56003001,q 19 (.bin .lss .i64 (.t 17) (.t 18)) 56003002]) (.cond (.t 19) .skip (.exit 0))) (.seq (.block 1 (.seq (.dG false [q 22 (.cj (.t 1)) 56005000,q 23 (.cj (.t 11)) 56005001,q 24 (.cj (.t 2)) 56005002,q 25 (.build [(.int .i64 0),(.int .i64 0)] [(0,(1,(.t 23))),(1,(1,(.t 24)))]) 56005003,q 26 (.call 75 [(.t 22),(.t 25)]) 56005004,q 12 (.cj (.t 26)) 56005005]) (.seq (.seq (.dG false [q 27 (.cj (.t 12)) 56006000,q 28 (.bin .lss .i64 (.t 27) (.k (.int .i64 0))) 56006001]) (.cond (.t 28) (.seq (.dG false [q 29 (.build [.br,(.int .i64 0),(.int .i64 0)] []) 56007000,⟨none,(.store 3 (.t 8) (.t 29)),none,56007001,[]⟩,q 9 (.cj (.k (.bool false))) 56007002]) .ret) .skip)) (.seq (.dG true [q 31 (.cj (.t 0)) 56008000,q 32 (.xp (.t 31)) 56008001,q 33 (.ee 0 (.t 32)) 56008002,q 34 (.cj (.t 0)) 56008003,q 35 (.xp (.t 34)) 56008004,q 36 (.ee 0 (.t 35)) 56008005,q 37 (.ee 1 (.t 36)) 56008006,q 38 (.load false 1 (.t 37)) 56008007,q 39 (.cj (.t 12)) 56008008,q 40 (.dy 2 (.t 38) (.t 39)) 56008009,q 41 (.ee 1 (.t 40)) 56008010,q 42 (.load false 1 (.t 41)) 56008011,q 43 (.dy 1 (.t 42) (.k (.int .i64 0))) 56008012,q 44 (.load false 1 (.t 43)) 56008013,q 45 (.call 93 [(.t 33),(.t 44)]) 56008014,q 30 (.cj (.t 45)) 56008015,q 46 (.extract 0 (.t 30)) 56008016,q 47 (.extract 1 (.t 30)) 56008017,q 48 (.extract 2 (.t 30)) 56008018,q 13 (.cj (.t 46)) 56008019,q 14 (.cj (.t 47)) 56008020,q 15 (.cj (.t 48)) 56008021]) (.seq (.seq (.dG false [q 49 (.cj (.t 15)) 56009000,q 50 (.not (.t 49)) 56009001,q 51 (.cj (.t 50)) 56009002,⟨(some 52),(.cj (.t 14)),(some (51,false)),56009003,[]⟩,⟨(some 53),(.bin .geq .i64 (.t 52) (.k (.int .i64 0))),(some (51,false)),56009004,[]⟩,⟨(some 54),(.cj (.t 53)),(some (51,false)),56009005,[]⟩,⟨(some 55),(.ee 2 (.t 10)),(some (54,true)),56009006,[]⟩,⟨(some 56),(.load false 1 (.t 55)),(some (54,true)),56009007,[]⟩,⟨(some 57),(.bin .geq .i64 (.t 56) (.k (.int .i64 0))),(some (54,true)),56009008,[]⟩,⟨(some 58),(.pick (.t 54) (.t 57) (.k (.bool false))),(some (51,false)),56009009,[]⟩,q 59 (.pick (.t 51) (.k (.bool true)) (.t 58)) 56009010]) (.cond (.t 59) (.seq (.dG false [q 60 (.build [.br,(.int .i64 0),(.int .i64 0)] []) 56010000,⟨none,(.store 3 (.t 8) (.t 60)),none,56010001,[]⟩,q 9 (.cj (.k (.bool false))) 56010002]) .ret) .skip)) (.seq (.seq (.dG false [q 61 (.cj (.t 14)) 56011000,q 62 (.bin .geq .i64 (.t 61) (.k (.int .i64 0))) 56011001]) (.cond (.t 62) (.seq (.dG false [q 63 (.cj (.t 14)) 56012000,q 64 (.ee 2 (.t 10)) 56012001,⟨none,(.store 1 (.t 64) (.t 63)),none,56012002,[]⟩]) (.dG false [q 65 (.cj (.t 11)) 56013000,q 66 (.ee 1 (.t 10)) 56013001,⟨none,(.store 1 (.t 66) (.t 65)),none,56013002,[]⟩])) .skip)) (.dG false [q 67 (.ee 0 (.t 10)) 56014000,q 68 (.load false 1 (.t 67)) 56014001,q 69 (.cj (.t 13)) 56014002,q 70 (.kd 1 1 [(.t 69)]) 56014003,q 71 (.append 1 (.t 68) (.t 70)) 56014004,q 72 (.ee 0 (.t 10)) 56014005,⟨none,(.store 1 (.t 72) (.t 71)),none,56014006,[]⟩]))))))) (.dG false [q 20 (.cj (.t 11)) 56004000,q 21 (.bin .add .i64 (.t 20) (.k (.int .i64 1))) 56004001,q 11 (.cj (.t 21)) 56004002])))))) (.seq (.one ⟨(some 73),(.load true 3 (.t 10)),none,56015000,[56015004]⟩ (.one ⟨(some 74),(.ee 2 (.t 10)),none,56015001,[56015004]⟩ (.both (.one ⟨(some 75),(.load false 1 (.t 74)),none,56015002,[56015004]⟩ (.one ⟨(some 76),(.bin .geq .i64 (.t 75) (.k (.int .i64 0))),none,56015003,[56015004]⟩ (.one ⟨none,(.store 3 (.t 8) (.t 73)),none,56015004,[]⟩ (.one (q 9 (.cj (.t 76)) 56015005) (.dG false []))))) (.one ⟨none,(.store 3 (.t 8) (.t 73)),none,56015004,[]⟩ (.one ⟨(some 75),(.load false 1 (.t 74)),none,56015002,[56015004]⟩ (.one ⟨(some 76),(.bin .geq .i64 (.t 75) (.k (.int .i64 0))),none,56015003,[56015004]⟩ (.one (q 9 (.cj (.t 76)) 56015005) (.dG false [])))))))) .ret)))),[(.cell true 3 8),(.tmp 9)]⟩
theorem Og:sD Tryz.prog 56 [(15,2)]=some PH:=by kernel_rfl
def PI:vV:=⟨60,4,(.seq (.dG false [q 4 (.box (.t 0)) 62000000,q 5 (.box (.t 1)) 62000001,q 8 (.new [.br,(.int .i64 0),(.int .i64 0)]) 62000002,q 9 (.cj (.k (.bool false))) 62000003]) (.seq (.dG false [⟨(some 15),(.build [.br,(.int .i64 0),(.int .i64 0)] [(1,(1,(.k (.int .i64 (-1)))))]),none,62001000,[]⟩,q 10 (.new [.br,(.int .i64 0),(.int .i64 0)]) 62001001,⟨none,(.store 3 (.t 10) (.t 15)),none,62001002,[]⟩]) (.seq (.seq (.dG false [q 16 (.cj (.t 3)) 62002000,q 17 (.cj (.k (.int .i64 0))) 62002001]) (.block 0 (.loop (.seq (.dG false [q 18 (.bin .lss .i64 (.t 17) (.t 16)) 62003000]) (.seq (.cond (.t 18) .skip (.exit 0)) (.seq (.block 1 (.seq (.dG false [q 19 (.cj (.t 17)) 62004000,q 11 (.cj (.t 19)) 62004001]) (.seq (.dG false [q 21 (.load true 2 (.t 4)) 62005000,q 22 (.load true 1 (.t 5)) 62005001,q 23 (.cj (.t 11)) 62005002,q 24 (.cj (.t 2)) 62005003,q 25 (.build [(.int .i64 0),(.int .i64 0)] [(0,(1,(.t 23))),(1,(1,(.t 24)))]) 62005004,q 26 (.call 104 [(.t 21),(.t 22),(.t 25),(.k (.int .i64 0))]) 62005005,q 27 (.call 103 [(.t 26)]) 62005006,q 20 (.cj (.t 27)) 62005007,q 28 (.extract 0 (.t 20)) 62005008,q 29 (.extract 1 (.t 20)) 62005009,q 30 (.extract 2 (.t 20)) 62005010,q 12 (.cj (.t 28)) 62005011,q 13 (.cj (.t 29)) 62005012,q 14 (.cj (.t 30)) 62005013]) (.seq (.seq (.dG false [q 31 (.cj (.t 14)) 62006000,q 32 (.not (.t 31)) 62006001,q 33 (.cj (.t 32)) 62006002,⟨(some 34),(.cj (.t 12)),(some (33,false)),62006003,[]⟩,⟨(some 35),(.bin .geq .i64 (.t 34) (.k (.int .i64 0))),(some (33,false)),62006004,[]⟩,⟨(some 36),(.cj (.t 35)),(some (33,false)),62006005,[]⟩,⟨(some 37),(.ee 1 (.t 10)),(some (36,true)),62006006,[]⟩,⟨(some 38),(.load false 1 (.t 37)),(some (36,true)),62006007,[]⟩,⟨(some 39),(.bin .geq .i64 (.t 38) (.k (.int .i64 0))),(some (36,true)),62006008,[]⟩,⟨(some 40),(.pick (.t 36) (.t 39) (.k (.bool false))),(some (33,false)),62006009,[]⟩,q 41 (.pick (.t 33) (.k (.bool true)) (.t 40)) 62006010]) (.cond (.t 41) (.seq (.dG false [q 42 (.build [.br,(.int .i64 0),(.int .i64 0)] []) 62007000,⟨none,(.store 3 (.t 8) (.t 42)),none,62007001,[]⟩,q 9 (.cj (.k (.bool false))) 62007002]) .ret) .skip)) (.seq (.seq (.dG false [q 43 (.cj (.t 12)) 62008000,q 44 (.bin .geq .i64 (.t 43) (.k (.int .i64 0))) 62008001]) (.cond (.t 44) (.dG false [q 45 (.cj (.t 12)) 62009000,q 46 (.cj (.t 11)) 62009001,q 47 (.ee 2 (.t 10)) 62009002,⟨none,(.store 1 (.t 47) (.t 45)),none,62009003,[]⟩,q 48 (.ee 1 (.t 10)) 62009004,⟨none,(.store 1 (.t 48) (.t 46)),none,62009005,[]⟩]) .skip)) (.dG false [q 49 (.ee 0 (.t 10)) 62010000,q 50 (.load false 1 (.t 49)) 62010001,q 51 (.cj (.t 13)) 62010002,q 52 (.kd 1 1 [(.t 51)]) 62010003,q 53 (.append 1 (.t 50) (.t 52)) 62010004,q 54 (.ee 0 (.t 10)) 62010005,⟨none,(.store 1 (.t 54) (.t 53)),none,62010006,[]⟩])))))) (.dG false [q 55 (.bin .add .i64 (.t 17) (.k (.int .i64 1))) 62011000,q 17 (.cj (.t 55)) 62011001]))))))) (.seq (.one ⟨(some 56),(.load true 3 (.t 10)),none,62012000,[62012004]⟩ (.one ⟨(some 57),(.ee 1 (.t 10)),none,62012001,[62012004]⟩ (.both (.one ⟨(some 58),(.load false 1 (.t 57)),none,62012002,[62012004]⟩ (.one ⟨(some 59),(.bin .geq .i64 (.t 58) (.k (.int .i64 0))),none,62012003,[62012004]⟩ (.one ⟨none,(.store 3 (.t 8) (.t 56)),none,62012004,[]⟩ (.one (q 9 (.cj (.t 59)) 62012005) (.dG false []))))) (.one ⟨none,(.store 3 (.t 8) (.t 56)),none,62012004,[]⟩ (.one ⟨(some 58),(.load false 1 (.t 57)),none,62012002,[62012004]⟩ (.one ⟨(some 59),(.bin .geq .i64 (.t 58) (.k (.int .i64 0))),none,62012003,[62012004]⟩ (.one (q 9 (.cj (.t 59)) 62012005) (.dG false [])))))))) .ret)))),[(.cell true 3 8),(.tmp 9)]⟩
theorem Oh:sD Tryz.prog 62 [(12,2)]=some PI:=by kernel_rfl
end Go.Proofs.YtihgaadadaekmaaGreat.V

namespace Go.Proofs.YtihgaadadaekmaaGreat.V
open Go.RowKit
attribute [local irreducible] eb wpOps gH Call
attribute [local go_sem] aM fI eM fX fV cE upd cm K.av cK AV.cells AV.cell rowOf rowsOf part ld rowAt bS bZ dH ei ij bK dc eA fZ e8 du ep cY cX dU dW bQ bf cQ bP cT cR ek er eo cP bU cZ ej bL aQ cV cw ig bt cH bR bc dF bq dI AV.undef bD bF dX eh dQ dZ cF ez eE cr ev eu cU cW List.getD_cons_zero List.getD_cons_succ List.getD_nil List.all_cons List.all_nil Bool.and_true Bool.true_and Bool.and_self Bool.not_true Bool.not_false Option.map_some Option.map_none Option.bind_some Option.bind_none List.length_cons List.length_nil List.take_succ_cons List.take_zero List.take_nil List.drop_succ_cons List.drop_zero List.drop_nil List.head?_cons List.map_cons List.map_nil List.getElem?_cons_zero List.getElem?_cons_succ List.cons_append List.nil_append List.append_nil List.length_map List.set_cons_zero List.set_cons_succ Nat.reduceMul eq_self Int.toNat_natCast Int.natCast_nonneg and_self true_and and_true decide_true decide_false Bool.false_eq_true Nat.zero_add Nat.add_zero List.contains_cons List.contains_nil Bool.or_false Bool.false_or beq_self_eq_true Nat.reduceBEq ne_eq not_true_eq_false not_false_eq_true Id.mk.injEq false_and and_false Nat.reduceLT Int.reduceLE Int.reduceLT Int.reduceToNat Int.reduceNeg Int.reduceAdd Nat.le_refl List.length_append beq_true beq_false Bool.not_eq_eq_eq_not or_false false_or dD ad aj aH bC b4 aX bo aY bl cL bE
theorem zr (x:fc) (g:Rows):cq g 6 [.agg (bh x)]=some [.agg (bh x)]:=by simp[bh,ad,aj,bo,bC,aH]
theorem zt (x:eJ) (g:Rows):cq g 6 [.agg (aW x)]=some [.agg (aW x)]:=by simp[aW,ad,aj,bo,bC,b4]
theorem Bl (x:ak) (g:Rows):cq g 6 [.agg (ai x)]=some [.agg (ai x)]:=by simp[ai,ad,aj,bo,aH]
theorem gT {n:Nat} {l:Int} (h:(n:Int)<=l):vP n l=l-n:=if_pos h
theorem hZ {n:Nat} {l:Int} (h:¬(n:Int)<=l):vP n l= -1:=if_neg h
def jZ (t:eJ):Nat:=t.aB.size+t.bm.length
def sS (s:aq):Nat:=(s.au.length+(s.au.map fun g=>g.aB.size).sum)+(s.ae.length+(s.ae.map jZ).sum)
def uT (s:cl):Nat:=sS s.aI+s.ck.ae.length
def eX (s:aq):Prop:=(∀g∈s.au,g.aB.size<=9223372036854775807)/\∀t∈s.ae,t.aB.size<=9223372036854775807
theorem HN (g:fc) (l:Int) (h0:0<=l) (h1:l<=1048576) (hs:g.aB.size<=9223372036854775807):ah Tryz.prog 86 [.agg (bh g),.int .i64 l] (.int .i64 (vP g.aB.size l)):=by
 refine ah.body dY rfl fun hl n0=>?_
 clear hl
 have hw:IntKind.i64.wrap (l-(g.aB.size:Int))=l-g.aB.size:=bd ab
 by_cases hf:(g.aB.size:Int)<=l
 ·have lj:¬l-(g.aB.size:Int)<0:=ab
  (try((repeat(revert hN;revert N;apply Pn.out));refine wk (tw @bh.eq_1 (tw @hw @lj)) ?_;(repeat(refine Pn.mk ?_;intro N hN))))
  exact bG (b:=l-(g.aB.size:Int)) (.inl rfl) (sd @Nat.zero_add) (gT hf).symm
 ·have lj:l-(g.aB.size:Int)<0:=ab
  (try((repeat(revert hN;revert N;apply Pn.out));refine wk (tw @bh.eq_1 (tw @hw @lj)) ?_;(repeat(refine Pn.mk ?_;intro N hN))))
  exact bG (b:=-1) (.inl rfl) (sd @Nat.zero_add) (hZ hf).symm
theorem HO (xs:List Int) (l:Int) (h0:0<=l) (h1:l<=1048576):ah Tryz.prog 118 [.sl (xs.map ay),.int .i64 l] (.int .i64 (vP xs.length l)):=by
 have h:=HQ (show l5 Tryz.prog 118=some (HP 118) by kernel_rfl) (xs.map ay) l h0 h1
 rwa [List.length_map]at h
theorem HT (t:eJ) (l:Int) (h0:0<=l) (h1:l<=1048576) (hs:t.aB.size<=9223372036854775807):ah Tryz.prog 87 [.agg (aW t),.int .i64 l] (.int .i64 (vP (jZ t) l)):=by
 refine ah.body dY rfl fun hl n0=>?_
 clear hl
 have hw:IntKind.i64.wrap (l-(t.aB.size:Int))=l-t.aB.size:=bd ab
 by_cases hf:(t.aB.size:Int)<=l
 ·have lj:¬l-(t.aB.size:Int)<0:=ab
  have hc:=HO t.bm (l-t.aB.size) ab ab
  by_cases hg:(t.bm.length:Int)<=l-t.aB.size
  ·rw[gT hg]at hc
   have Ir:¬l-(t.aB.size:Int)-(t.bm.length:Int)<0:=ab
   (repeat(first|((repeat(revert hN;revert N;apply Pn.out));refine wk (tw @aW.eq_1 (tw @hw (tw @lj @Ir))) ?_;(repeat(refine Pn.mk ?_;intro N hN)))|((try apply Or.inl);refine⟨_,ah.x (hc) (sd (tw @aW.eq_1 (tw @hw (tw @lj @Ir)))),?_⟩;refine hN _ _ ?_;clear hN N)))
   exact bG (b:=l-(t.aB.size:Int)-(t.bm.length:Int)) (.inl rfl) (sd @Nat.zero_add) (by rw[gT (by unfold jZ;omega)];unfold jZ;omega)
  ·rw[hZ hg]at hc
   (repeat(first|((repeat(revert hN;revert N;apply Pn.out));refine wk (tw @aW.eq_1 (tw @hw @lj)) ?_;(repeat(refine Pn.mk ?_;intro N hN)))|((try apply Or.inl);refine⟨_,ah.x (hc) (sd (tw @aW.eq_1 (tw @hw @lj))),?_⟩;refine hN _ _ ?_;clear hN N)))
   exact bG (b:=-1) (.inl rfl) (sd @Nat.zero_add) (hZ (by unfold jZ;omega)).symm
 ·have lj:l-(t.aB.size:Int)<0:=ab
  (try((repeat(revert hN;revert N;apply Pn.out));refine wk (tw @aW.eq_1 (tw @hw @lj)) ?_;(repeat(refine Pn.mk ?_;intro N hN))))
  exact bG (b:=-1) (.inl rfl) (sd @Nat.zero_add) (hZ (by unfold jZ;omega)).symm
theorem Fx (xs:List fc) (l:Int) (h0:0<=l) (h1:l<=1048576) (hs:∀g∈xs,g.aB.size<=9223372036854775807):ah Tryz.prog 52 [.sl (xs.map bh),.int .i64 l] (.int .i64 (vP (xs.length+(xs.map fun g=>g.aB.size).sum) l)):=
 HS (fun g:fc=>g.aB.size) (show l5 Tryz.prog 52=some (HR 52 86 2) by kernel_rfl) (fun _=>rfl) zr xs l h0 h1 fun x hx l a b=>HN x l a b (hs x hx)
theorem Fy (xs:List eJ) (l:Int) (h0:0<=l) (h1:l<=1048576) (hs:∀t∈xs,t.aB.size<=9223372036854775807):ah Tryz.prog 53 [.sl (xs.map aW),.int .i64 l] (.int .i64 (vP (xs.length+(xs.map jZ).sum) l)):=
 HS jZ (show l5 Tryz.prog 53=some (HR 53 87 2) by kernel_rfl) (fun _=>rfl) zt xs l h0 h1 fun x hx l a b=>HT x l a b (hs x hx)
theorem Cz (xs:List ak) (l:Int) (h0:0<=l) (h1:l<=1048576):ah Tryz.prog 24 [.sl (xs.map ai),.int .i64 l] (.int .i64 (vP xs.length l)):=by
 have h:=HQ (show l5 Tryz.prog 24=some (HP 24) by kernel_rfl) (xs.map ai) l h0 h1
 rwa [List.length_map]at h
theorem Ak (s:aq) (l:Int) (h0:0<=l) (h1:l<=1048576) (hs:eX s):ah Tryz.prog 23 [.agg (aa s),.int .i64 l] (.int .i64 (vP (sS s) l)):=by
 refine ah.body dY rfl fun hl n0=>?_
 clear hl
 have ha:=Fx s.au l h0 h1 hs.1
 have he:sS s=(s.au.length+(s.au.map fun g=>g.aB.size).sum)+(s.ae.length+(s.ae.map jZ).sum):=rfl
 by_cases hf:((s.au.length+(s.au.map fun g=>g.aB.size).sum:Nat):Int)<=l
 ·rw[gT hf]at ha
  obtain⟨A,hA⟩:∃A:Int,A=l-((s.au.length+(s.au.map fun g=>g.aB.size).sum:Nat):Int):=⟨_,rfl⟩
  rw[<-hA]at ha
  have lj:¬A<0:=ab
  have hb:=Fy s.ae A ab ab hs.2
  by_cases hg:((s.ae.length+(s.ae.map jZ).sum:Nat):Int)<=A
  ·rw[gT hg]at hb
   obtain⟨B,hB⟩:∃B:Int,B=A-((s.ae.length+(s.ae.map jZ).sum:Nat):Int):=⟨_,rfl⟩
   rw[<-hB]at hb
   have Ir:¬B<0:=ab
   (repeat(first|((repeat(revert hN;revert N;apply Pn.out));refine wk (tw @aa.eq_1 (tw @lj @Ir)) ?_;(repeat(refine Pn.mk ?_;intro N hN)))|((try apply Or.inl);refine⟨_,ah.x (ha) (sd (tw @aa.eq_1 (tw @lj @Ir))),?_⟩;refine hN _ _ ?_;clear hN N)|((try apply Or.inl);refine⟨_,ah.x (hb) (sd (tw @aa.eq_1 (tw @lj @Ir))),?_⟩;refine hN _ _ ?_;clear hN N)))
   exact bG (b:=B) (.inl rfl) (sd @Nat.zero_add) (by rw[gT ab];omega)
  ·rw[hZ hg]at hb
   (repeat(first|((repeat(revert hN;revert N;apply Pn.out));refine wk (tw @aa.eq_1 @lj) ?_;(repeat(refine Pn.mk ?_;intro N hN)))|((try apply Or.inl);refine⟨_,ah.x (ha) (sd (tw @aa.eq_1 @lj)),?_⟩;refine hN _ _ ?_;clear hN N)|((try apply Or.inl);refine⟨_,ah.x (hb) (sd (tw @aa.eq_1 @lj)),?_⟩;refine hN _ _ ?_;clear hN N)))
   exact bG (b:=-1) (.inl rfl) (sd @Nat.zero_add) (hZ ab).symm
 ·rw[hZ hf]at ha
  (repeat(first|((repeat(revert hN;revert N;apply Pn.out));refine wk @aa.eq_1 ?_;(repeat(refine Pn.mk ?_;intro N hN)))|((try apply Or.inl);refine⟨_,ah.x (ha) (sd @aa.eq_1),?_⟩;refine hN _ _ ?_;clear hN N)))
  exact bG (b:=-1) (.inl rfl) (sd @Nat.zero_add) (hZ ab).symm
theorem qG (a:dm) (l:Int) (h0:0<=l) (h1:l<=1048576):ah Tryz.prog 6 [.agg (aD a),.int .i64 l] (.int .i64 (vP a.ae.length l)):=by
 refine ah.body dY rfl fun hl n0=>?_
 clear hl
 have ha:=Cz a.ae l h0 h1
 by_cases hf:(a.ae.length:Int)<=l
 ·rw[gT hf]at ha
  have lj:¬l-(a.ae.length:Int)<0:=ab
  (repeat(first|((repeat(revert hN;revert N;apply Pn.out));refine wk (tw @aD.eq_1 @lj) ?_;(repeat(refine Pn.mk ?_;intro N hN)))|((try apply Or.inl);refine⟨_,ah.x (ha) (sd (tw @aD.eq_1 @lj)),?_⟩;refine hN _ _ ?_;clear hN N)))
  exact bG (b:=l-(a.ae.length:Int)) (.inl rfl) (sd @Nat.zero_add) (gT hf).symm
 ·rw[hZ hf]at ha
  (repeat(first|((repeat(revert hN;revert N;apply Pn.out));refine wk @aD.eq_1 ?_;(repeat(refine Pn.mk ?_;intro N hN)))|((try apply Or.inl);refine⟨_,ah.x (ha) (sd @aD.eq_1),?_⟩;refine hN _ _ ?_;clear hN N)))
  exact bG (b:=-1) (.inl rfl) (sd @Nat.zero_add) (hZ hf).symm
theorem CA (s:cl) (l:Int) (h0:0<=l) (h1:l<=1048576) (hs:eX s.aI):ah Tryz.prog 5 [.agg (az s),.int .i64 l] (.int .i64 (vP (uT s) l)):=by
 refine ah.body dY rfl fun hl n0=>?_
 clear hl
 have ha:=Ak s.aI l h0 h1 hs
 rw[aa]at ha
 have he:uT s=sS s.aI+s.ck.ae.length:=rfl
 by_cases hf:(sS s.aI:Int)<=l
 ·rw[gT hf]at ha
  have lj:¬l-(sS s.aI:Int)<0:=ab
  have hb:=qG s.ck (l-sS s.aI) ab ab
  rw[aD]at hb
  by_cases hg:(s.ck.ae.length:Int)<=l-sS s.aI
  ·rw[gT hg]at hb
   have Ir:¬l-(sS s.aI:Int)-(s.ck.ae.length:Int)<0:=ab
   (repeat(first|((repeat(revert hN;revert N;apply Pn.out));refine wk (tw @az.eq_1 (tw @lj @Ir)) ?_;(repeat(refine Pn.mk ?_;intro N hN)))|((try apply Or.inl);refine⟨_,ah.x (ha) (sd (tw @az.eq_1 (tw @lj @Ir))),?_⟩;refine hN _ _ ?_;clear hN N)|((try apply Or.inl);refine⟨_,ah.x (hb) (sd (tw @az.eq_1 (tw @lj @Ir))),?_⟩;refine hN _ _ ?_;clear hN N)))
   exact bG (b:=l-(sS s.aI:Int)-(s.ck.ae.length:Int)) (.inl rfl) (sd @Nat.zero_add) (by rw[gT ab];omega)
  ·rw[hZ hg]at hb
   (repeat(first|((repeat(revert hN;revert N;apply Pn.out));refine wk (tw @az.eq_1 @lj) ?_;(repeat(refine Pn.mk ?_;intro N hN)))|((try apply Or.inl);refine⟨_,ah.x (ha) (sd (tw @az.eq_1 @lj)),?_⟩;refine hN _ _ ?_;clear hN N)|((try apply Or.inl);refine⟨_,ah.x (hb) (sd (tw @az.eq_1 @lj)),?_⟩;refine hN _ _ ?_;clear hN N)))
   exact bG (b:=-1) (.inl rfl) (sd @Nat.zero_add) (hZ ab).symm
 ·rw[hZ hf]at ha
  (repeat(first|((repeat(revert hN;revert N;apply Pn.out));refine wk @az.eq_1 ?_;(repeat(refine Pn.mk ?_;intro N hN)))|((try apply Or.inl);refine⟨_,ah.x (ha) (sd @az.eq_1),?_⟩;refine hN _ _ ?_;clear hN N)))
  exact bG (b:=-1) (.inl rfl) (sd @Nat.zero_add) (hZ ab).symm
end Go.Proofs.YtihgaadadaekmaaGreat.V
